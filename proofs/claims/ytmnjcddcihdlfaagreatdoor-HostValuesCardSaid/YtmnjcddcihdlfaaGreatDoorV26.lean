/- Part of HostValues. -/
import Derived.Test.YtmnjcddcihdlfaaGreatDoorV25
set_option linter.all false
set_option maxRecDepth 100000
namespace Go.Proofs.YtmnjcddcihdlfaaGreatDoor
open Go.RowKit
set_option maxHeartbeats 4000000
theorem E2 (c:UInt8) (t:By):1<=(kX (c::t)).2/\(kX (c::t)).2<=(c::t).length:=by
 by_cases h1:dA c=true
 ·rw[wR1 h1];have:=(e7 (l:=t) bQ).length_le;exact⟨by simp,by simp only[aM];omega⟩
 by_cases h2:bB c=true
 ·rw[wR2 h1 h2];have:=(e7 (l:=t) bB).length_le;exact⟨by simp,by simp only[aM];omega⟩
 by_cases h3:c=34
 ·rw[wR3 h1 h2 h3];by_cases hq:t[bP t]?=some 34
  ·rw[aA hq];have hl:=(List.getElem?_eq_some_iff.1 hq).1;cases vE ((c::t).take (2+bP t)) with
   |none=>exact⟨rL _,by simp⟩
   |some v=>exact⟨by show 1<=2+bP t;omega,by show 2+bP t<=t.length+1;omega⟩
  ·rw[aB hq];exact⟨rL _,by simp⟩
 rw[wR4 h1 h2 h3];by_cases hp:gI (c::t)=true
 ·rw[aA hp];have:=(IY hp).1;rw[cL] at this;exact⟨by show 1<=2;decide,by show 2<=(c::t).length;omega⟩
 ·rw[aB hp];split<;>exact⟨rL _,by simp⟩
def dC (s:By):List Tq:=lA (if s.getLast?=some 10 then 1 else 0) (s.length+1) 1 s
theorem VT [MaxL] (s:By) (hs:s.length<=20000):SC Tryz.prog 59 [.s s] [] (.val (.sl .none (AP (dC s)))) []:=by
 obtain⟨T,hT⟩:∃T,dC s=T:=⟨_,rfl⟩;rw[hT];unfold dC at hT;generalize hnl:(if s.getLast?=some 10 then 1 else 0)=nl at hT;refine bI Tryz.func59 rfl ?_;conv=>whnf
 refine GLoop.introS (fun q:Nat×Nat×Nat×List Tq=>q.2.1<=s.length/\s.length - q.2.1<q.1/\(1<=q.2.2.1/\q.2.2.1<=q.2.1+1)/\q.2.2.2.length<=q.2.1/\q.2.2.2++lA nl q.1 q.2.2.1 (s.drop q.2.1)=T)
  (fun q=>[(0,.s s),(3,.sl (.own 1) (AP q.2.2.2)),(4,.i .i64 (q.2.2.1:Nat)),(5,.i .i64 (q.2.1:Nat))]) (fun q=>⟨[.own 0 0 0,ow 151 4 q.2.2.2.length],0,[]⟩) (fun q=>s.length - q.2.1) (s.length+1,0,1,[])
  ⟨zL _,(by show s.length - 0<s.length+1;omega),⟨rL _,rL _⟩,zL _,hT⟩ ⟨rfl,rfl,rfl,rfl,trivial⟩ rfl (fun _ _=>rL _) (fun q _=>by simp only[List.all_cons,G0];rfl) (fun q _ e he=>?_) (fun q φ0 hq=>?_)
 ·refine⟨?_,rfl,?_⟩
  ·show[_,(ow _ 4 _).ren e]=_;rw[LX];rfl
  ·show[_,(GV.sl (.own 1) (AP q.2.2.2)).ren e,_,_]=_;rw[A4 (he 1 (by simp)) (KL.h)];rfl
 obtain⟨f,at_,ln,out⟩:=q;obtain⟨q1,q2,q3,q4,q5⟩:=hq;dsimp only at q1 q2 q3 q4 q5;obtain⟨g,rfl⟩:∃g,f=g+1:=⟨f - 1,by omega⟩;have hwl:IntKind.i64.wrap (((ln:Nat):Int)+1)=((ln+1:Nat):Int):=by rw[bN (by omega) (by omega)];omega
 have hwa:IntKind.i64.wrap (((at_:Nat):Int)+1)=((at_+1:Nat):Int):=by rw[bN (by omega) (by omega)];omega
 conv=>whnf
 by_cases hlt:at_<s.length;rotate_left
 ·rw[dT (by omega)] at q5;have hend:out++[⟨.fin,ln - nl⟩]=T:=q5;refine gN (c:=decide (((at_:Nat):Int)<((s.length:Nat):Int))) (aQ (by omega)) ?_;conv=>whnf
  by_cases hs0:s=[]
  ·subst hs0;have hnl0:nl=0:=hnl.symm;subst hnl0;(conv=>whnf);subst hend;rw[show at_=0 by(simp at q1;exact q1)] at q4;cases out with
   |nil=>
    refine XL (f:=PC) (c:=4) (fun _=>rfl) [] [⟨.fin,ln⟩] rfl (bL rfl) ?_ rfl rfl;(conv=>whnf);refine aN ?_;(conv=>whnf);exact fin 0 (hw:=b5 _ _)
   |cons z zs=>
    refine XL (f:=PC) (c:=4) (fun _=>rfl) (z::zs) [⟨.fin,ln⟩] rfl (by simp only[aM,bW] at q4⊢;omega) ?_ rfl rfl;(conv=>whnf);refine⟨⟨zL _,(vT (z::zs)).symm,.inl ⟨rfl,rfl⟩⟩,?_⟩;(conv=>whnf);exact fin 0 (hw:=b5 _ _)
  have hpos:0<s.length:=List.length_pos_iff.2 hs0;obtain⟨b,hb⟩:∃b,s[s.length - 1]?=some b:=⟨s[s.length - 1]'(by omega),gL (by omega)⟩;have hlast:s.getLast?=some b:=by rw[List.getLast?_eq_getElem?];exact hb
  have hwm:IntKind.i64.wrap (((s.length:Nat):Int) - 1)=((s.length - 1:Nat):Int):=by rw[bN (by omega) (by omega)];omega
  have hwl2:IntKind.i64.wrap (((ln:Nat):Int) - 1)=((ln - 1:Nat):Int):=by rw[bN (by omega) (by omega)];omega
  refine gY (c:=decide (((s.length:Nat):Int)>0)) (aR (by omega)) ?_;conv=>whnf
  refine⟨by rw[hwm];exact fK _,b,by rw[hwm,aD];exact hb,?_⟩;conv=>whnf
  by_cases hb10:b=10
  ·subst hb10;have hnl1:nl=1:=by rw[<-hnl,hlast];rfl
   subst hnl1;(conv=>whnf);subst hend;rw[hwl2];cases out with
   |nil=>
    refine XL (f:=PC) (c:=4) (fun _=>rfl) [] [⟨.fin,ln - 1⟩] rfl (bL rfl) ?_ rfl rfl;(conv=>whnf);refine aN ?_;(conv=>whnf);exact fin 0 (hw:=b5 _ _)
   |cons z zs=>
    refine XL (f:=PC) (c:=4) (fun _=>rfl) (z::zs) [⟨.fin,ln - 1⟩] rfl (by simp only[aM,bW] at q4⊢;omega) ?_ rfl rfl;(conv=>whnf);refine⟨⟨zL _,(vT (z::zs)).symm,.inl ⟨rfl,rfl⟩⟩,?_⟩;(conv=>whnf);exact fin 0 (hw:=b5 _ _)
  ·have hnl0:nl=0:=by rw[<-hnl,hlast,aB (fun h=>hb10 (aV h))]
   subst hnl0;rw[show(((b.toNat:Nat):Int)==10)=false from beq_eq_false_iff_ne.2 (fun h=>hb10 (by apply UInt8.toNat_inj.1;show b.toNat=10;omega))];(conv=>whnf);subst hend;cases out with
   |nil=>
    refine XL (f:=PC) (c:=4) (fun _=>rfl) [] [⟨.fin,ln⟩] rfl (bL rfl) ?_ rfl rfl;(conv=>whnf);refine aN ?_;(conv=>whnf);exact fin 0 (hw:=b5 _ _)
   |cons z zs=>
    refine XL (f:=PC) (c:=4) (fun _=>rfl) (z::zs) [⟨.fin,ln⟩] rfl (by simp only[aM,bW] at q4⊢;omega) ?_ rfl rfl;(conv=>whnf);refine⟨⟨zL _,(vT (z::zs)).symm,.inl ⟨rfl,rfl⟩⟩,?_⟩;(conv=>whnf);exact fin 0 (hw:=b5 _ _)
 obtain⟨c,hc⟩:∃c,s[at_]?=some c:=⟨s[at_],gL hlt⟩;have hdi:s.drop at_=c::s.drop (at_+1):=by rw[<-cM hlt,(List.getElem?_eq_some_iff.1 hc).2]
 rw[hdi] at q5;unfold lA at q5;dsimp only at q5;refine gY (c:=decide (((at_:Nat):Int)<((s.length:Nat):Int))) (aR (by omega)) ?_;conv=>whnf
 refine⟨fK _,c,by rw[aD];exact hc,?_⟩;conv=>whnf
 by_cases h10:c=10
 ·subst h10;rw[aA rfl] at q5;conv=>whnf
  exact⟨s.length - (at_+1),(by show _<s.length - at_;omega),(g,at_+1,ln+1,out),⟨hlt,(by show s.length - (at_+1)<g;omega),⟨by show 1<=ln+1;omega,by show ln+1<=at_+1+1;omega⟩,(by show out.length<=at_+1;omega),q5⟩,rfl,⟨rfl,rfl,aJ (GV.i .i64) (hwl),aJ (GV.i .i64) (hwa),trivial⟩,_,rfl,rfl⟩
 rw[aB h10] at q5;rw[show(((c.toNat:Nat):Int)==10)=false from beq_eq_false_iff_ne.2 (fun h=>h10 (by apply UInt8.toNat_inj.1;show c.toNat=10;omega))];conv=>whnf
 refine⟨fK _,c,by rw[aD];exact hc,?_⟩;conv=>whnf
 by_cases hsp:c=32∨c=9
 ·rw[aA hsp] at q5;have nxt:=fun(φ':Fr)=>(rfl:φ'=φ');rcases hsp with rfl|rfl
  ·(conv=>whnf);exact⟨s.length - (at_+1),(by show _<s.length - at_;omega),(g,at_+1,ln,out),⟨hlt,(by show s.length - (at_+1)<g;omega),⟨q3.1,by show ln<=at_+1+1;omega⟩,(by show out.length<=at_+1;omega),q5⟩,rfl,⟨rfl,rfl,aJ (GV.i .i64) (rfl),aJ (GV.i .i64) (hwa),trivial⟩,_,rfl,rfl⟩
  ·(conv=>whnf);refine⟨fK _,9,by rw[aD];exact hc,?_⟩;(conv=>whnf);exact⟨s.length - (at_+1),(by show _<s.length - at_;omega),(g,at_+1,ln,out),⟨hlt,(by show s.length - (at_+1)<g;omega),⟨q3.1,by show ln<=at_+1+1;omega⟩,(by show out.length<=at_+1;omega),q5⟩,rfl,⟨rfl,rfl,aJ (GV.i .i64) (rfl),aJ (GV.i .i64) (hwa),trivial⟩,_,rfl,rfl⟩
 rw[aB hsp] at q5;have h32:¬c=32:=fun h=>hsp (.inl h);have h9:¬c=9:=fun h=>hsp (.inr h);rw[show(((c.toNat:Nat):Int)==32)=false from beq_eq_false_iff_ne.2 (fun h=>h32 (by apply UInt8.toNat_inj.1;show c.toNat=32;omega))];conv=>whnf
 refine⟨fK _,c,by rw[aD];exact hc,?_⟩;conv=>whnf
 rw[show(((c.toNat:Nat):Int)==9)=false from beq_eq_false_iff_ne.2 (fun h=>h9 (by apply UInt8.toNat_inj.1;show c.toNat=9;omega))];conv=>whnf
 refine⟨fK _,c,by rw[aD];exact hc,?_⟩;conv=>whnf
 by_cases h35:c=35
 ·subst h35;rw[aA rfl] at q5;conv=>whnf
  refine bA (fun j:Nat=>at_<=j/\j<=s.length/\(s.drop j).dropWhile (·!=10)=(s.drop (at_+1)).dropWhile (·!=10)) (fun j=>[(0,.s s),(3,.sl (.own 1) (AP out)),(4,.i .i64 (ln:Nat)),(5,.i .i64 (j:Nat))]) (fun _=>⟨[.own 0 0 0,ow 151 4 out.length],0,[]⟩) (fun j=>s.length - j) at_ ⟨rL _,q1,by rw[hdi];rfl⟩ ⟨rfl,rfl,rfl,rfl,trivial⟩ rfl (fun j φ1 hj=>?_);obtain⟨j1,j2,j3⟩:=hj;have hwj:IntKind.i64.wrap (((j:Nat):Int)+1)=((j+1:Nat):Int):=by rw[bN (by omega) (by omega)];omega
  have nx:at_<j->(s.drop j).dropWhile (·!=10)=s.drop j->out++lA nl g ln (s.drop j)=T:=fun _ h=>by rw[<-j3,h] at q5;exact q5
  conv=>whnf
  by_cases hjl:j<s.length;rotate_left
  ·refine gN (c:=decide (((j:Nat):Int)<((s.length:Nat):Int))) (aQ (by omega)) ?_;(conv=>whnf);exact⟨s.length - j,(by show _<s.length - at_;omega),(g,j,ln,out),⟨j2,(by show s.length - j<g;omega),⟨q3.1,by show ln<=j+1;omega⟩,(by show out.length<=j;omega),nx (by omega) (by rw[dT (by omega)];rfl)⟩,rfl,⟨rfl,rfl,rfl,rfl,trivial⟩,_,rfl,rfl⟩
  refine(show∃b,s[j]?=some b from⟨s[j],gL hjl⟩).elim (fun b hb=>?_);have hdj:s.drop j=b::s.drop (j+1):=by rw[<-cM hjl,(List.getElem?_eq_some_iff.1 hb).2]
  refine gY (c:=decide (((j:Nat):Int)<((s.length:Nat):Int))) (aR (by omega)) ?_;conv=>whnf
  refine⟨fK _,b,by rw[aD];exact hb,?_⟩;conv=>whnf
  by_cases hb10:b=10
  ·have hne:at_<j:=by
    refine Nat.lt_of_le_of_ne j1 (fun h=>?_);rw[<-h,hc] at hb;rw[hb10] at hb;cases hb
   rw[show(((b.toNat:Nat):Int) !=10)=false by rw[hb10];rfl];(conv=>whnf);exact⟨s.length - j,(by show _<s.length - at_;omega),(g,j,ln,out),⟨j2,(by show s.length - j<g;omega),⟨q3.1,by show ln<=j+1;omega⟩,(by show out.length<=j;omega),nx hne (by rw[hdj,hb10];rfl)⟩,rfl,⟨rfl,rfl,rfl,rfl,trivial⟩,_,rfl,rfl⟩
  ·rw[show(((b.toNat:Nat):Int) !=10)=true from bne_iff_ne.2 (fun h=>hb10 (by apply UInt8.toNat_inj.1;show b.toNat=10;omega))];(conv=>whnf);exact⟨s.length - (j+1),(by show _<s.length - j;omega),j+1,⟨by omega,hjl,by rw[<-j3,hdj,List.dropWhile_cons,aA (bne_iff_ne.2 hb10)]⟩,rfl,⟨rfl,rfl,rfl,aJ (GV.i .i64) hwj,trivial⟩,rfl⟩
 rw[aB h35] at q5;rw[show(((c.toNat:Nat):Int)==35)=false from beq_eq_false_iff_ne.2 (fun h=>h35 (by apply UInt8.toNat_inj.1;show c.toNat=35;omega))];conv=>whnf
 have h1:=a0e s at_ hs hlt;rw[hdi] at h1;obtain⟨w1,w2⟩:=E2 c (s.drop (at_+1));have hl2:(c::s.drop (at_+1)).length=s.length - at_:=by rw[<-hdi,cU]
 have hdd:(c::s.drop (at_+1)).drop (kX (c::s.drop (at_+1))).2=s.drop (at_+(kX (c::s.drop (at_+1))).2):=by rw[<-hdi,List.drop_drop]
 rw[hdd] at q5;rw[hl2] at w2;generalize kX (c::s.drop (at_+1))=p at*;obtain⟨t,n⟩:=p;dsimp only at h1 q5 w1 w2;have hwn:IntKind.i64.wrap (((at_:Nat):Int)+((n:Nat):Int))=((at_+n:Nat):Int):=by rw[bN (by omega) (by omega)];omega
 refine cP h1 ?_;conv=>whnf
 refine st (l:=[.i .i64 t.kr,.s t.sr,.i .i64 t.nr,.i .i64 0]) ?_;conv=>whnf
 refine st ?_;conv=>whnf
 cases out with
 |nil=>
  refine XL (f:=PC) (c:=4) (fun _=>rfl) [] [⟨t,ln⟩] rfl (bL rfl) ?_ rfl rfl;conv=>whnf
  refine aN ?_;conv=>whnf
  exact⟨s.length - (at_+n),(by show _<s.length - at_;omega),(g,at_+n,ln,[]++[⟨t,ln⟩]),⟨(by show at_+n<=s.length;omega),(by show s.length - (at_+n)<g;omega),⟨q3.1,by show ln<=at_+n+1;omega⟩,(by simp only[aX,aM,bW] at q4⊢;omega),(by show(_++_)++_=_;rw[cW];exact q5)⟩,rfl,⟨rfl,rfl,rfl,aJ (GV.i .i64) hwn,trivial⟩,_,rfl,rfl⟩
 |cons z zs=>
  refine XL (f:=PC) (c:=4) (fun _=>rfl) (z::zs) [⟨t,ln⟩] rfl (by simp only[aM,bW] at q4⊢;omega) ?_ rfl rfl;conv=>whnf
  refine⟨⟨zL _,(vT (z::zs)).symm,.inl ⟨rfl,rfl⟩⟩,?_⟩;conv=>whnf
  exact⟨s.length - (at_+n),(by show _<s.length - at_;omega),(g,at_+n,ln,(z::zs)++[⟨t,ln⟩]),⟨(by show at_+n<=s.length;omega),(by show s.length - (at_+n)<g;omega),⟨q3.1,by show ln<=at_+n+1;omega⟩,(by simp only[aX,aM,bW] at q4⊢;omega),(by show(_++_)++_=_;rw[cW];exact q5)⟩,rfl,⟨rfl,rfl,rfl,aJ (GV.i .i64) hwn,trivial⟩,_,rfl,rfl⟩
def exC (op:By) (n:Int) (s it:By) (k:GV):List GV:=[.s op,.i .i64 n,.s s,.s it,k]
def Y2 (op:By) (n:Int) (s it:By) (k:List GV):List GV:=exC op n s it (.sl .none k)
def Ex.op:Ex->By
 |.zero=>[]
 |.num _=>[110,117,109]
 |.txt _=>[116,101,120,116]
 |.var _=>[118,97,114]
 |.item _ _=>[105,116,101,109]
 |.status=>[115,116,97,116,117,115]
 |.key=>[107,101,121]
 |.neg _=>[110,101,103]
 |.bin op _ _=>op
def Ex.n:Ex->Int
 |.num n=>n
 |_=>0
def Ex.st:Ex->By
 |.txt s=>s
 |.var s=>s
 |.item r _=>r
 |_=>[]
def Ex.it:Ex->By
 |.item _ i=>i
 |_=>[]
def Ex.csR:Ex->List GV
 |.neg e=>Y2 [110,101,103] 0 [] [] [.agg e.csR]
 |.bin op a b=>Y2 op 0 [] [] [.agg a.csR,.agg b.csR]
 |e=>Y2 e.op e.n e.st e.it []
def Ex.kids:Ex->List Ex
 |.neg e=>[e]
 |.bin _ a b=>[a,b]
 |_=>[]
def Ex.gvR (e:Ex):GV:=.agg e.csR
theorem Ex.csR_eq (e:Ex):e.csR=Y2 e.op e.n e.st e.it (e.kids.map Ex.gvR):=by cases e<;>rfl
theorem Ex.gvR_eq (e:Ex):e.gvR=.agg [.s e.op,.i .i64 e.n,.s e.st,.s e.it,.sl .none (e.kids.map Ex.gvR)]:=by show GV.agg e.csR=_;rw[Ex.csR_eq];rfl
def d7:=@Ex.gvR_eq
theorem rQ [MaxL] {op:By} {n:Int} {s it:By} {k:List GV} (h:ClL k):ClL (Y2 op n s it k):=.cons (.s _) (.cons (.i _ _) (.cons (.s _) (.cons (.s _) (.cons (Cl.sl h) .nil))))
theorem Ex.csR_cl [MaxL]:∀e:Ex,ClL e.csR
 |.zero=>rQ .nil
 |.num _=>rQ .nil
 |.txt _=>rQ .nil
 |.var _=>rQ .nil
 |.item _ _=>rQ .nil
 |.status=>rQ .nil
 |.key=>rQ .nil
 |.neg e=>rQ (.cons (Cl.agg e.csR_cl) .nil)
 |.bin _ a b=>rQ (.cons (Cl.agg a.csR_cl) (.cons (Cl.agg b.csR_cl) .nil))
instance [MaxL] (e:Ex):KG e.gvR:=⟨Cl.agg e.csR_cl⟩
theorem pR [MaxL] {op:By} {n:Int} {s it:By} {k k':GV} (h:Wk k k'):Wk (.agg [.s op,.i .i64 n,.s s,.s it,k]) (.agg [.s op,.i .i64 n,.s s,.s it,k']):=
 Wks.agg ⟨.refl _,.refl _,.refl _,.refl _,h,trivial⟩
theorem LS [MaxL]:SC Tryz.prog 151 [] [] (.val (.sl .none (OD.map .s))) []:=by
 refine bI Tryz.func151 rfl ?_;conv=>whnf
 exact fin 0 (hw:=b5 _ _)
instance [MaxL] (l:List By):KL (l.map GV.s):=⟨ClL.mapOf (fun s=>.s s) l⟩
theorem NY [MaxL] (l:List By) (hl:l.length<1000000) (s:By):SC Tryz.prog 150 [.sl .none (l.map .s),.s s] [] (.val (.b (l.contains s))) []:=by
 have bG:(l.map GV.s).length=l.length:=aS _;refine bI Tryz.func150 rfl ?_;conv=>whnf
 refine bA (fun j:Nat=>j<=l.length/\(l.take j).contains s=false) (fun j=>[(0,.sl .none (l.map .s)),(1,.s s),(5,.i .i64 (j:Nat))]) (fun _=>⟨[],0,[]⟩) (fun j=>l.length - j) 0 ⟨zL _,by simp⟩ ⟨rfl,rfl,rfl,trivial⟩ rfl (fun j φ0 hj=>?_);obtain⟨hj,hno⟩:=hj;conv=>whnf
 by_cases h:j<l.length;rotate_left
 ·refine gN (aQ (by rw[bG];omega)) ?_;conv=>whnf
  rw[fN (by omega)] at hno;rw[hno];exact fin 0
 obtain⟨y,hy⟩:∃y,l[j]?=some y:=⟨l[j],gL h⟩;have hg:(l.map GV.s)[j]?=some (.s y):=by rw[aG,hy];rfl
 have ht:l.take (j+1)=l.take j++[y]:=by rw[dS,hy];rfl
 refine gY (aR (by rw[bG];omega)) ?_;conv=>whnf
 refine ix hg ⟨rfl,?_⟩;conv=>whnf
 cases hys:y==s with
 |true=>
  have:l.contains s=true:=by
   have:=eq_of_beq hys;subst this;simpa using b9 hy
  rw[this];exact fin 0
 |false=>
  conv=>whnf
  exact⟨l.length - (j+1),(by omega),j+1,⟨h,by rw[ht,List.contains_eq_any_beq,List.any_append,<-List.contains_eq_any_beq,hno];simp only[List.any_cons,List.any_nil];rw[show(s==y)=(y==s) from Bool.beq_comm.trans (by rw[Bool.beq_comm]),hys];rfl⟩,rfl,⟨rfl,rfl,cT (by omega),trivial⟩,rfl⟩
structure WfR (l:List Tq):Prop where
 len:l.length<=100000
 next:∀n p,l[n]?=some p->p.t≠ .fin->n+1<l.length
 nm:∀p∈l,∀x,p.t=.nm x->dE x=true
 sg:∀p∈l,∀x,p.t=.sg x->a1X.contains x=true
def kR (l:List Tq):List Tk:=l.map (·.t)
theorem rV {l:List Tq} {n:Nat} {p:Tq} (h:l[n]?=some p):tk (kR l) n=p.t:=by
 unfold tk kR;rw[aL,aG,h];rfl
theorem LQ [MaxL] (l:List Tq) (s:RS) (hb:s.bad.isSome=true):SC Tryz.prog 101 [.ptr 0 0] [i7 l s] (.val Ex.zero.gvR) [i7 l s]:=by
 have ho:=nF l s;rw[show s.bad.isNone=false by cases h:s.bad with|none=>rw[h] at hb;cases hb|some _=>rfl] at ho;refine bI Tryz.func101 rfl ?_;conv=>whnf
 refine cS [0] ho ?_;conv=>whnf
 refine st ?_;conv=>whnf
 exact fin 1 (hw:=pR (b5 _ _))
theorem PM [MaxL] (l:List Tq) (s:RS) (hb:s.bad.isNone=true) (hn:s.n<1000000) (n:Int) (ln:Nat) (hp:l[s.n]?=some ⟨.nu n,ln⟩):SC Tryz.prog 101 [.ptr 0 0] [i7 l s] (.val (Ex.num n).gvR) [i7 l s.adv]:=by
 have ho:=nF l s;have hg:=j8 hp;rw[hb] at ho;refine bI Tryz.func101 rfl ?_;conv=>whnf
 refine cS [0] ho ?_;conv=>whnf
 refine b7 [none,none,none,some 0,none,none,none,some 0,none,none,some 2,some 2] rfl rfl (by kernel_rfl) ?_;conv=>whnf
 refine ix hg ⟨rfl,?_⟩;conv=>whnf
 refine st ?_;conv=>whnf
 refine⟨_,⟨bE (by omega),zL _,rfl,bL rfl⟩,?_⟩;conv=>whnf
 refine st ?_;conv=>whnf
 exact fin 1 (hw:=pR (b5 _ _))
set_option maxHeartbeats 1000000
theorem Ex.raw [MaxL] (e:Ex):GV.agg e.csR=.agg [.s e.op,.i .i64 e.n,.s e.st,.s e.it,.sl .none (e.kids.map Ex.gvR)]:=e.gvR_eq
theorem kC {x:By} (h:dE x=true) (w:By) (hw:dE w=false):gV (.nm x) w=false:=by
 show(x==w)=false;rw[cY];rintro rfl;rw[h] at hw;cases hw
theorem TG {x:By} (h:a1X.contains x=true) (w:By) (hw:a1X.contains w=false):gV (.sg x) w=false:=by
 show(x==w)=false;rw[cY];rintro rfl;rw[h] at hw;cases hw
theorem PK [MaxL] (l:List Tq) (s:RS) (hb:s.bad.isNone=true) (hn:s.n<1000000) (x:By) (ln:Nat) (hp:l[s.n]?=some ⟨.tx x,ln⟩):SC Tryz.prog 101 [.ptr 0 0] [i7 l s] (.val (Ex.txt x).gvR) [i7 l s.adv]:=by
 have ho:=nF l s;have hg:=j8 hp;have hi:=fun x=>pH l s _ hp x;rw[hb] at ho;refine bI Tryz.func101 rfl ?_;conv=>whnf
 refine cS [0] ho ?_;conv=>whnf
 refine b7 [none,none,none,some 0,none,none,none,some 0,none,none,some 2,some 2] rfl rfl (by kernel_rfl) ?_;conv=>whnf
 refine ix hg ⟨rfl,?_⟩;conv=>whnf
 refine st ?_;conv=>whnf
 refine⟨_,⟨bE (by omega),zL _,rfl,bL rfl⟩,?_⟩;conv=>whnf
 refine st ?_;conv=>whnf
 exact fin 1 (hw:=pR (b5 _ _))
theorem LN [MaxL] (l:List Tq) (s:RS) (hb:s.bad.isNone=true) (hn:s.n<1000000) (ln:Nat) (hp:l[s.n]?=some ⟨.sg [45],ln⟩) (e:Ex) (s1:RS) (ih:SC Tryz.prog 101 [.ptr 0 0] [i7 l s.adv] (.val e.gvR) [i7 l s1]):SC Tryz.prog 101 [.ptr 0 0] [i7 l s] (.val (Ex.neg e).gvR) [i7 l s1]:=by
 have ho:=nF l s;have hg:=j8 hp;have hi:=fun x=>pH l s _ hp x;rw[hb] at ho;have h1:=hi [45];replace h1:SC _ _ _ _ (.val (.b true)) _:=h1;have hE:(Ex.neg e).gvR=.agg [.s [110,101,103],.i .i64 0,.s [],.s [],.sl .none [.agg [.s e.op,.i .i64 e.n,.s e.st,.s e.it,.sl .none (e.kids.map Ex.gvR)]]]:=by
  show GV.agg (Y2 [110,101,103] 0 [] [] [.agg e.csR])=_;rw[Ex.raw];rfl
 rw[d7] at ih;refine bI Tryz.func101 rfl ?_;conv=>whnf
 refine cS [0] ho ?_;conv=>whnf
 refine b7 [none,none,none,some 0,none,none,none,some 0,none,none,some 2,some 2] rfl rfl (by kernel_rfl) ?_;conv=>whnf
 refine ix hg ⟨rfl,?_⟩;conv=>whnf
 refine st ?_;conv=>whnf
 refine cS [0] h1 ?_;conv=>whnf
 refine⟨_,⟨bE (by omega),zL _,rfl,bL rfl⟩,?_⟩;conv=>whnf
 refine cG [0] ih ?_;conv=>whnf
 refine st ?_;conv=>whnf
 exact fin 1 (hw:=by rw[hE];exact pR (b5 _ _))
theorem LL [MaxL] (l:List Tq) (s:RS) (hb:s.bad.isNone=true) (hn:s.n<1000000) (hq:s.ps<1000000) (ln:Nat) (hp:l[s.n]?=some ⟨.sg [40],ln⟩) (e:Ex) (s1 s2:RS) (ih:SC Tryz.prog 23 [.ptr 0 0] [i7 l s.into] (.val e.gvR) [i7 l s1]) (hw:SC Tryz.prog 147 [.ptr 0 0,.s [41]] [i7 l s1] (.val (.tup [])) [i7 l s2]) (h2:1<=s2.ps) (h2n:s2.ps<1000000):SC Tryz.prog 101 [.ptr 0 0] [i7 l s] (.val e.gvR) [i7 l s2.out]:=by
 have ho:=nF l s;have hg:=j8 hp;have hi:=fun x=>pH l s _ hp x;rw[hb] at ho;have h1:=hi [45];have h2':=hi [40];replace h1:SC _ _ _ _ (.val (.b false)) _:=h1;replace h2':SC _ _ _ _ (.val (.b true)) _:=h2';have hd:[GV.i .i64 ((s2.ps - 1:Nat):Int)]=(GV.i .i64 (IntKind.i64.wrap (((s2.ps:Nat):Int) - 1))).cells:=by
  rw[bN (by omega) (by omega)];show[_]=[_];congr 2;omega
 rw[d7] at ih;rw[d7];refine bI Tryz.func101 rfl ?_;conv=>whnf
 refine cS [0] ho ?_;conv=>whnf
 refine b7 [none,none,none,some 0,none,none,none,some 0,none,none,some 2,some 2] rfl rfl (by kernel_rfl) ?_;conv=>whnf
 refine ix hg ⟨rfl,?_⟩;conv=>whnf
 refine st ?_;conv=>whnf
 refine cS [0] h1 ?_;conv=>whnf
 refine cS [0] h2' ?_;conv=>whnf
 refine⟨_,⟨bE (by omega),zL _,rfl,bL rfl⟩,?_⟩;conv=>whnf
 refine⟨_,⟨bE (by omega),zL _,rfl,bL rfl⟩,?_⟩;conv=>whnf
 refine gP ?_;conv=>whnf
 refine⟨_,⟨lC _ _,zL _,rfl,bL rfl⟩,?_⟩;conv=>whnf
 refine cG [0] ih ?_;conv=>whnf
 refine st ?_;conv=>whnf
 refine cG [0] hw ?_;conv=>whnf
 refine⟨_,⟨hd,zL _,rfl,bL rfl⟩,?_⟩;conv=>whnf
 refine st ?_;conv=>whnf
 exact fin 1
theorem DB [MaxL] (l:List Tq) (s:RS) (hb:s.bad.isNone=true) (hn:s.n<1000000) (x:By) (ln:Nat) (hp:l[s.n]?=some ⟨.nm x,ln⟩) (hx:dE x=true) (hs:x=eZ):SC Tryz.prog 101 [.ptr 0 0] [i7 l s] (.val Ex.status.gvR) [i7 l s.adv]:=by
 have ho:=nF l s;have hg:=j8 hp;have hi:=fun x=>pH l s _ hp x;rw[hb] at ho;have h1:=hi [45];have h2:=hi [40];have h3:=hi eZ;have h4:=hi mJ;rw[show gV (Tq.t ⟨.nm x,ln⟩) [45]=false from kC hx _ (by decide)] at h1;rw[show gV (Tq.t ⟨.nm x,ln⟩) [40]=false from kC hx _ (by decide)] at h2;subst hs;replace h3:SC _ _ _ _ (.val (.b true)) _:=h3;refine bI Tryz.func101 rfl ?_;conv=>whnf
 refine cS [0] ho ?_;conv=>whnf
 refine b7 [none,none,none,some 0,none,none,none,some 0,none,none,some 2,some 2] rfl rfl (by kernel_rfl) ?_;conv=>whnf
 refine ix hg ⟨rfl,?_⟩;conv=>whnf
 refine st ?_;conv=>whnf
 refine cS [0] h1 ?_;conv=>whnf
 refine cS [0] h2 ?_;conv=>whnf
 refine cS [0] h3 ?_;conv=>whnf
 refine⟨_,⟨bE (by omega),zL _,rfl,bL rfl⟩,?_⟩;conv=>whnf
 refine st ?_;conv=>whnf
 exact fin 1 (hw:=pR (b5 _ _))
theorem LO [MaxL] (l:List Tq) (s:RS) (hb:s.bad.isNone=true) (hn:s.n<1000000) (x:By) (ln:Nat) (hp:l[s.n]?=some ⟨.nm x,ln⟩) (hx:dE x=true) (hs:x=mJ):SC Tryz.prog 101 [.ptr 0 0] [i7 l s] (.val Ex.key.gvR) [i7 l s.adv]:=by
 have ho:=nF l s;have hg:=j8 hp;have hi:=fun x=>pH l s _ hp x;rw[hb] at ho;have h1:=hi [45];have h2:=hi [40];have h3:=hi eZ;have h4:=hi mJ;rw[show gV (Tq.t ⟨.nm x,ln⟩) [45]=false from kC hx _ (by decide)] at h1;rw[show gV (Tq.t ⟨.nm x,ln⟩) [40]=false from kC hx _ (by decide)] at h2;subst hs;replace h3:SC _ _ _ _ (.val (.b false)) _:=h3;replace h4:SC _ _ _ _ (.val (.b true)) _:=h4;refine bI Tryz.func101 rfl ?_;conv=>whnf
 refine cS [0] ho ?_;conv=>whnf
 refine b7 [none,none,none,some 0,none,none,none,some 0,none,none,some 2,some 2] rfl rfl (by kernel_rfl) ?_;conv=>whnf
 refine ix hg ⟨rfl,?_⟩;conv=>whnf
 refine st ?_;conv=>whnf
 refine cS [0] h1 ?_;conv=>whnf
 refine cS [0] h2 ?_;conv=>whnf
 refine cS [0] h3 ?_;conv=>whnf
 refine cS [0] h4 ?_;conv=>whnf
 refine⟨_,⟨bE (by omega),zL _,rfl,bL rfl⟩,?_⟩;conv=>whnf
 refine st ?_;conv=>whnf
 exact fin 1 (hw:=pR (b5 _ _))
theorem IO [MaxL] (l:List Tq) (s:RS) (hb:s.bad.isNone=true) (hn:s.n<1000000) (x:By) (ln:Nat) (hp:l[s.n]?=some ⟨.nm x,ln⟩) (hx:dE x=true) (n1:x≠eZ) (n2:x≠mJ) (n3:x≠iX) (ha:SC Tryz.prog 148 [.ptr 0 0,.i .i64 1,.s [46]] [i7 l s] (.val (.b true)) [i7 l s]) (y:By) (s1:RS) (hm:SC Tryz.prog 149 [.ptr 0 0] [i7 l s.adv.adv] (.val (.s y)) [i7 l s1]):SC Tryz.prog 101 [.ptr 0 0] [i7 l s] (.val (Ex.item x y).gvR) [i7 l s1]:=by
 have ho:=nF l s;have hg:=j8 hp;have hi:=fun x=>pH l s _ hp x;rw[hb] at ho;have h1:=hi [45];have h2:=hi [40];have h3:=hi eZ;have h4:=hi mJ;rw[show gV (Tq.t ⟨.nm x,ln⟩) [45]=false from kC hx _ (by decide)] at h1;rw[show gV (Tq.t ⟨.nm x,ln⟩) [40]=false from kC hx _ (by decide)] at h2;rw[show gV (Tq.t ⟨.nm x,ln⟩) eZ=false from beq_eq_false_iff_ne.2 n1] at h3;rw[show gV (Tq.t ⟨.nm x,ln⟩) mJ=false from beq_eq_false_iff_ne.2 n2] at h4;have h5:=hi iX;rw[show gV (Tq.t ⟨.nm x,ln⟩) iX=false from beq_eq_false_iff_ne.2 n3] at h5;have h2c:[GV.i .i64 ((s.n+1+1:Nat):Int)]=(GV.i .i64 (IntKind.i64.wrap (((s.n:Nat):Int)+2))).cells:=by
  rw[bN (by omega) (by omega)];show[_]=[_];congr 2
 refine bI Tryz.func101 rfl ?_;conv=>whnf
 refine cS [0] ho ?_;conv=>whnf
 refine b7 [none,none,none,some 0,none,none,none,some 0,none,none,some 2,some 2] rfl rfl (by kernel_rfl) ?_;conv=>whnf
 refine ix hg ⟨rfl,?_⟩;conv=>whnf
 refine st ?_;conv=>whnf
 refine cS [0] h1 ?_;conv=>whnf
 refine cS [0] h2 ?_;conv=>whnf
 refine cS [0] h3 ?_;conv=>whnf
 refine cS [0] h4 ?_;conv=>whnf
 refine cS [0] ha ?_;conv=>whnf
 refine cS [0] h5 ?_;conv=>whnf
 refine⟨_,⟨h2c,zL _,rfl,bL rfl⟩,?_⟩;conv=>whnf
 refine fY (fun k=>!Nat.beq k 149) (b7 [none,some 2,none,none,none,some 1] rfl rfl (by kernel_rfl) ?_);conv=>whnf
 refine cG [0] hm ?_;conv=>whnf
 refine st ?_;conv=>whnf
 exact fin 1 (hw:=pR (b5 _ _))
theorem LK [MaxL] (l:List Tq) (s:RS) (hb:s.bad.isNone=true) (hn:s.n<1000000) (x:By) (ln:Nat) (hp:l[s.n]?=some ⟨.nm x,ln⟩) (hx:dE x=true) (n1:x≠eZ) (n2:x≠mJ) (hk0:OD.contains x=false) (ha:SC Tryz.prog 148 [.ptr 0 0,.i .i64 1,.s [46]] [i7 l s] (.val (.b false)) [i7 l s]):SC Tryz.prog 101 [.ptr 0 0] [i7 l s] (.val (Ex.var x).gvR) [i7 l s.adv]:=by
 have ho:=nF l s;have hg:=j8 hp;have hi:=fun x=>pH l s _ hp x;rw[hb] at ho;have h1:=hi [45];have h2:=hi [40];have h3:=hi eZ;have h4:=hi mJ;rw[show gV (Tq.t ⟨.nm x,ln⟩) [45]=false from kC hx _ (by decide)] at h1;rw[show gV (Tq.t ⟨.nm x,ln⟩) [40]=false from kC hx _ (by decide)] at h2;rw[show gV (Tq.t ⟨.nm x,ln⟩) eZ=false from beq_eq_false_iff_ne.2 n1] at h3;rw[show gV (Tq.t ⟨.nm x,ln⟩) mJ=false from beq_eq_false_iff_ne.2 n2] at h4;have hf:=qV l s;have hk:=NY OD (by decide) x;rw[hk0] at hk;refine bI Tryz.func101 rfl ?_;conv=>whnf
 refine cS [0] ho ?_;conv=>whnf
 refine b7 [none,none,none,some 0,none,none,none,some 0,none,none,some 2,some 2] rfl rfl (by kernel_rfl) ?_;conv=>whnf
 refine ix hg ⟨rfl,?_⟩;conv=>whnf
 refine st ?_;conv=>whnf
 refine cS [0] h1 ?_;conv=>whnf
 refine cS [0] h2 ?_;conv=>whnf
 refine cS [0] h3 ?_;conv=>whnf
 refine cS [0] h4 ?_;conv=>whnf
 refine cS [0] ha ?_;conv=>whnf
 refine gP ?_;conv=>whnf
 refine cP LS ?_;conv=>whnf
 refine cP hk ?_;conv=>whnf
 refine⟨_,⟨bE (by omega),zL _,rfl,bL rfl⟩,?_⟩;conv=>whnf
 refine st ?_;conv=>whnf
 exact fin 1 (hw:=pR (b5 _ _))
theorem IN [MaxL] (l:List Tq) (s:RS) (hb:s.bad.isNone=true) (hn:s.n<1000000) (x:By) (ln:Nat) (hp:l[s.n]?=some ⟨.nm x,ln⟩) (hx:dE x=true) (n1:x≠eZ) (n2:x≠mJ) (hk0:OD.contains x=true) (ha:SC Tryz.prog 148 [.ptr 0 0,.i .i64 1,.s [46]] [i7 l s] (.val (.b false)) [i7 l s]):SC Tryz.prog 101 [.ptr 0 0] [i7 l s] (.val Ex.zero.gvR) [i7 l s.fail]:=by
 have ho:=nF l s;have hg:=j8 hp;have hi:=fun x=>pH l s _ hp x;rw[hb] at ho;have h1:=hi [45];have h2:=hi [40];have h3:=hi eZ;have h4:=hi mJ;rw[show gV (Tq.t ⟨.nm x,ln⟩) [45]=false from kC hx _ (by decide)] at h1;rw[show gV (Tq.t ⟨.nm x,ln⟩) [40]=false from kC hx _ (by decide)] at h2;rw[show gV (Tq.t ⟨.nm x,ln⟩) eZ=false from beq_eq_false_iff_ne.2 n1] at h3;rw[show gV (Tq.t ⟨.nm x,ln⟩) mJ=false from beq_eq_false_iff_ne.2 n2] at h4;have hf:=qV l s;have hk:=NY OD (by decide) x;rw[hk0] at hk;refine bI Tryz.func101 rfl ?_;conv=>whnf
 refine cS [0] ho ?_;conv=>whnf
 refine b7 [none,none,none,some 0,none,none,none,some 0,none,none,some 2,some 2] rfl rfl (by kernel_rfl) ?_;conv=>whnf
 refine ix hg ⟨rfl,?_⟩;conv=>whnf
 refine st ?_;conv=>whnf
 refine cS [0] h1 ?_;conv=>whnf
 refine cS [0] h2 ?_;conv=>whnf
 refine cS [0] h3 ?_;conv=>whnf
 refine cS [0] h4 ?_;conv=>whnf
 refine cS [0] ha ?_;conv=>whnf
 refine gP ?_;conv=>whnf
 refine cP LS ?_;conv=>whnf
 refine cP hk ?_;conv=>whnf
 refine cG [0] hf ?_;conv=>whnf
 refine st ?_;conv=>whnf
 exact fin 1 (hw:=pR (b5 _ _))
theorem LM [MaxL] (l:List Tq) (s:RS) (hb:s.bad.isNone=true) (hn:s.n<1000000) (x:By) (ln:Nat) (hp:l[s.n]?=some ⟨.nm x,ln⟩) (hx:dE x=true) (n1:x≠eZ) (n2:x≠mJ) (n3:x=iX) (ha:SC Tryz.prog 148 [.ptr 0 0,.i .i64 1,.s [46]] [i7 l s] (.val (.b true)) [i7 l s]):SC Tryz.prog 101 [.ptr 0 0] [i7 l s] (.val Ex.zero.gvR) [i7 l s.fail]:=by
 have ho:=nF l s;have hg:=j8 hp;have hi:=fun x=>pH l s _ hp x;rw[hb] at ho;have h1:=hi [45];have h2:=hi [40];have h3:=hi eZ;have h4:=hi mJ;rw[show gV (Tq.t ⟨.nm x,ln⟩) [45]=false from kC hx _ (by decide)] at h1;rw[show gV (Tq.t ⟨.nm x,ln⟩) [40]=false from kC hx _ (by decide)] at h2;rw[show gV (Tq.t ⟨.nm x,ln⟩) eZ=false from beq_eq_false_iff_ne.2 n1] at h3;rw[show gV (Tq.t ⟨.nm x,ln⟩) mJ=false from beq_eq_false_iff_ne.2 n2] at h4;have hf:=qV l s;have hk:=NY OD (by decide) x;subst n3;have h5:=hi iX;replace h5:SC _ _ _ _ (.val (.b true)) _:=h5;replace hk:SC _ _ _ _ (.val (.b true)) _:=hk;refine bI Tryz.func101 rfl ?_;conv=>whnf
 refine cS [0] ho ?_;conv=>whnf
 refine b7 [none,none,none,some 0,none,none,none,some 0,none,none,some 2,some 2] rfl rfl (by kernel_rfl) ?_;conv=>whnf
 refine ix hg ⟨rfl,?_⟩;conv=>whnf
 refine st ?_;conv=>whnf
 refine cS [0] h1 ?_;conv=>whnf
 refine cS [0] h2 ?_;conv=>whnf
 refine cS [0] h3 ?_;conv=>whnf
 refine cS [0] h4 ?_;conv=>whnf
 refine cS [0] ha ?_;conv=>whnf
 refine cS [0] h5 ?_;conv=>whnf
 refine gP ?_;conv=>whnf
 refine cP LS ?_;conv=>whnf
 refine cP hk ?_;conv=>whnf
 refine cG [0] hf ?_;conv=>whnf
 refine st ?_;conv=>whnf
 exact fin 1 (hw:=pR (b5 _ _))
theorem PL [MaxL] (l:List Tq) (s:RS) (hb:s.bad.isNone=true) (hn:s.n<1000000) (x:By) (ln:Nat) (hp:l[s.n]?=some ⟨.sg x,ln⟩) (hx:a1X.contains x=true) (n1:x≠[45]) (n2:x≠[40]):SC Tryz.prog 101 [.ptr 0 0] [i7 l s] (.val Ex.zero.gvR) [i7 l s.fail]:=by
 have ho:=nF l s;have hg:=j8 hp;have hi:=fun x=>pH l s _ hp x;rw[hb] at ho;have h1:=hi [45];have h2:=hi [40];have h3:=hi eZ;have h4:=hi mJ;have hf:=qV l s;rw[show gV (Tq.t ⟨.sg x,ln⟩) [45]=false from beq_eq_false_iff_ne.2 n1] at h1;rw[show gV (Tq.t ⟨.sg x,ln⟩) [40]=false from beq_eq_false_iff_ne.2 n2] at h2;rw[show gV (Tq.t ⟨.sg x,ln⟩) eZ=false from TG hx _ (by decide)] at h3;rw[show gV (Tq.t ⟨.sg x,ln⟩) mJ=false from TG hx _ (by decide)] at h4;refine bI Tryz.func101 rfl ?_;conv=>whnf
 refine cS [0] ho ?_;conv=>whnf
 refine b7 [none,none,none,some 0,none,none,none,some 0,none,none,some 2,some 2] rfl rfl (by kernel_rfl) ?_;conv=>whnf
 refine ix hg ⟨rfl,?_⟩;conv=>whnf
 refine st ?_;conv=>whnf
 refine cS [0] h1 ?_;conv=>whnf
 refine cS [0] h2 ?_;conv=>whnf
 refine cS [0] h3 ?_;conv=>whnf
 refine cS [0] h4 ?_;conv=>whnf
 refine gP ?_;conv=>whnf
 refine cG [0] hf ?_;conv=>whnf
 refine st ?_;conv=>whnf
 exact fin 1 (hw:=pR (b5 _ _))
theorem LP [MaxL] (l:List Tq) (s:RS) (hb:s.bad.isNone=true) (hn:s.n<1000000) (ln:Nat) (hp:l[s.n]?=some ⟨.fin,ln⟩):SC Tryz.prog 101 [.ptr 0 0] [i7 l s] (.val Ex.zero.gvR) [i7 l s.fail]:=by
 have ho:=nF l s;have hg:=j8 hp;have hi:=fun x=>pH l s _ hp x;rw[hb] at ho;have h1:=hi [45];have h2:=hi [40];have h3:=hi eZ;have h4:=hi mJ;have hf:=qV l s;replace h1:SC _ _ _ _ (.val (.b false)) _:=h1;replace h2:SC _ _ _ _ (.val (.b false)) _:=h2;replace h3:SC _ _ _ _ (.val (.b false)) _:=h3;replace h4:SC _ _ _ _ (.val (.b false)) _:=h4;refine bI Tryz.func101 rfl ?_;conv=>whnf
 refine cS [0] ho ?_;conv=>whnf
 refine b7 [none,none,none,some 0,none,none,none,some 0,none,none,some 2,some 2] rfl rfl (by kernel_rfl) ?_;conv=>whnf
 refine ix hg ⟨rfl,?_⟩;conv=>whnf
 refine st ?_;conv=>whnf
 refine cS [0] h1 ?_;conv=>whnf
 refine cS [0] h2 ?_;conv=>whnf
 refine cS [0] h3 ?_;conv=>whnf
 refine cS [0] h4 ?_;conv=>whnf
 refine gP ?_;conv=>whnf
 refine cG [0] hf ?_;conv=>whnf
 refine st ?_;conv=>whnf
 exact fin 1 (hw:=pR (b5 _ _))
theorem IM [MaxL] (l:List Tq) (s:RS) (hb:s.bad.isNone=true) (hn:s.n<1000000) (ln:Nat) (hp:l[s.n]?=some ⟨.bad,ln⟩):SC Tryz.prog 101 [.ptr 0 0] [i7 l s] (.val Ex.zero.gvR) [i7 l s.fail]:=by
 have ho:=nF l s;have hg:=j8 hp;have hi:=fun x=>pH l s _ hp x;rw[hb] at ho;have h1:=hi [45];have h2:=hi [40];have h3:=hi eZ;have h4:=hi mJ;have hf:=qV l s;replace h1:SC _ _ _ _ (.val (.b false)) _:=h1;replace h2:SC _ _ _ _ (.val (.b false)) _:=h2;replace h3:SC _ _ _ _ (.val (.b false)) _:=h3;replace h4:SC _ _ _ _ (.val (.b false)) _:=h4;refine bI Tryz.func101 rfl ?_;conv=>whnf
 refine cS [0] ho ?_;conv=>whnf
 refine b7 [none,none,none,some 0,none,none,none,some 0,none,none,some 2,some 2] rfl rfl (by kernel_rfl) ?_;conv=>whnf
 refine ix hg ⟨rfl,?_⟩;conv=>whnf
 refine st ?_;conv=>whnf
 refine cS [0] h1 ?_;conv=>whnf
 refine cS [0] h2 ?_;conv=>whnf
 refine cS [0] h3 ?_;conv=>whnf
 refine cS [0] h4 ?_;conv=>whnf
 refine gP ?_;conv=>whnf
 refine cG [0] hf ?_;conv=>whnf
 refine st ?_;conv=>whnf
 exact fin 1 (hw:=pR (b5 _ _))
theorem Y4 {l:List Tq} (w:WfR l) {n:Nat} (h:n<l.length) (ht:tk (kR l) n≠ .fin):n+1<l.length:=
 w.next n l[n] (gL h) (by rw[<-rV (gL h)];exact ht)
theorem lG {t:Tk} {x:By} (h:gV t x=true):t≠ .fin:=by rintro rfl;cases h
theorem tR {l:List Tq} (w:WfR l) (s:RS) (x:By) (h:s.n<l.length):s.n<=(hQ (kR l) s x).n/\(hQ (kR l) s x).n<l.length/\(hQ (kR l) s x).ps=s.ps:=by
 unfold hQ;split
 ·exact⟨rL _,h,rfl⟩
 ·split
  ·rename_i h1;exact⟨Nat.le_succ _,Y4 w h (lG h1),rfl⟩
  ·exact⟨rL _,h,rfl⟩
def Inv (l:List Tq) (s s':RS):Prop:=s.n<=s'.n/\s'.n<l.length/\s'.ps=s.ps
theorem Inv.refl {l:List Tq} {s:RS} (h:s.n<l.length):Inv l s s:=⟨rL _,h,rfl⟩
theorem Inv.fail {l:List Tq} {s:RS} (h:s.n<l.length):Inv l s s.fail:=⟨rL _,h,rfl⟩
theorem Inv.adv {l:List Tq} (w:WfR l) {s:RS} (h:s.n<l.length) (ht:tk (kR l) s.n≠ .fin):Inv l s s.adv:=⟨Nat.le_succ _,Y4 w h ht,rfl⟩
theorem Inv.trans {l:List Tq} {a b c:RS} (h:Inv l a b) (k:Inv l b c):Inv l a c:=⟨gX h.1 k.1,k.2.1,k.2.2.trans h.2.2⟩
theorem iW {l:List Tq} (w:WfR l):∀(f:Nat) (k:EK) (s:RS),s.n<l.length->Inv l s (rE (kR l) f k s).2
 |0,k,s,h=>.refl h
 |f+1,.fact,s,h=>by
  unfold rE;split
  ·exact .refl h
  split
  ·rename_i n ht;exact .adv w h (by rw[ht];nofun)
  ·rename_i n ht;exact .adv w h (by rw[ht];nofun)
  ·rename_i x ht;have ha:Inv l s s.adv:=.adv w h (by rw[ht];nofun);split
   ·exact ha.trans (iW w f .fact s.adv ha.2.1)
   ·split
    ·have h1:Inv l s.into (rE (kR l) f .expr s.into).2:=iW w f .expr s.into ha.2.1;have h2:=tR w (rE (kR l) f .expr s.into).2 [41] h1.2.1;refine⟨?_,h2.2.1,?_⟩
     ·have:=h1.1;have:=h2.1;show s.n<=(hQ _ _ _).n;have:s.into.n=s.n+1:=rfl;omega
     ·show(hQ _ _ _).ps - 1=s.ps;rw[h2.2.2,h1.2.2];rfl
    ·exact .fail h
  ·rename_i x ht;have ha:Inv l s s.adv:=.adv w h (by rw[ht];nofun);split
   ·exact ha
   ·split
    ·exact ha
    ·split
     ·rename_i hc;have hb:Inv l s.adv s.adv.adv:=.adv w ha.2.1 (by show tk (kR l) (s.n+1)≠_;rw[hc.2];nofun);split
      ·rename_i y hy;exact ha.trans (hb.trans (.adv w hb.2.1 (by show tk (kR l) (s.n+2)≠_;rw[hy];nofun)))
      ·exact ha.trans (hb.trans (.fail hb.2.1))
     ·split
      ·exact .fail h
      ·exact ha
  ·exact .fail h
 |f+1,.term,s,h=>by
  unfold rE;have h1:=iW w f .fact s h;exact h1.trans (iW w f _ _ h1.2.1)
 |f+1,.termL e,s,h=>by
  unfold rE;split
  ·rename_i hc;have ha:Inv l s s.adv:=.adv w h (lG hc.2);have h1:=iW w f .fact s.adv ha.2.1;exact ha.trans (h1.trans (iW w f _ _ h1.2.1))
  ·exact .refl h
 |f+1,.expr,s,h=>by
  unfold rE;have h1:=iW w f .term s h;exact h1.trans (iW w f _ _ h1.2.1)
 |f+1,.exprL e,s,h=>by
  unfold rE;split
  ·exact .refl h
  split
  ·rename_i x ht;split
   ·have ha:Inv l s s.adv:=.adv w h (by rw[ht];nofun);have h1:=iW w f .term s.adv ha.2.1;exact ha.trans (h1.trans (iW w f _ _ h1.2.1))
   ·exact .refl h
  ·exact .refl h
def RoF [MaxL] (l:List Tq) (f:Nat):Prop:=∀s:RS,s.n<l.length->s.ps<=s.n->EK.fact.need (l.length - s.n)<=f->SC Tryz.prog 101 [.ptr 0 0] [i7 l s] (.val (rE (kR l) f .fact s).1.gvR) [i7 l (rE (kR l) f .fact s).2]
def RoT [MaxL] (l:List Tq) (f:Nat):Prop:=∀s:RS,s.n<l.length->s.ps<=s.n->EK.term.need (l.length - s.n)<=f->SC Tryz.prog 60 [.ptr 0 0] [i7 l s] (.val (rE (kR l) f .term s).1.gvR) [i7 l (rE (kR l) f .term s).2]
def RoE [MaxL] (l:List Tq) (f:Nat):Prop:=∀s:RS,s.n<l.length->s.ps<=s.n->EK.expr.need (l.length - s.n)<=f->SC Tryz.prog 23 [.ptr 0 0] [i7 l s] (.val (rE (kR l) f .expr s).1.gvR) [i7 l (rE (kR l) f .expr s).2]
theorem a01 {l:List Tq} (w:WfR l) {p:Tq} {n:Nat} (hp:l[n]?=some p):gV p.t [46]=true↔p.t=.sg [46]:=by
 cases h:p.t with
 |nm x=>
  have:=kC (w.nm p (b9 hp) x h) [46] (by decide);rw[this];simp
 |sg x=>show(x==_)=true↔_;simp
 |nu n=>simp[gV]
 |tx x=>simp[gV]
 |fin=>simp[gV]
 |bad=>simp[gV]
theorem YT [MaxL] {l:List Tq} (w:WfR l) (f:Nat) (hF:RoF l f) (hE:RoE l f):RoF l (f+1):=by
 intro s hn hps hneed;have bG:=w.len;have h100:s.n<1000000:=by omega
 simp only[EK.need] at hneed;obtain⟨p,hp⟩:∃p,l[s.n]?=some p:=⟨l[s.n],gL hn⟩;have ht:=rV hp;unfold rE;by_cases hb:s.bad.isSome=true
 ·rw[aA hb];exact LQ l s hb
 rw[aB hb,ht];have hb':s.bad.isNone=true:=by cases h:s.bad with|none=>rfl|some _=>rw[h] at hb;exact absurd rfl hb
 have hnm:=w.nm p (b9 hp);have hsg:=w.sg p (b9 hp);obtain⟨t,ln⟩:=p;cases t with
 |nu n=>exact PM l s hb' h100 n ln hp
 |tx x=>exact PK l s hb' h100 x ln hp
 |fin=>exact LP l s hb' h100 ln hp
 |bad=>exact IM l s hb' h100 ln hp
 |sg x=>
  have ha:Inv l s s.adv:=.adv w hn (by rw[ht];nofun);dsimp only;by_cases h1:x=[45]
  ·subst h1;rw[aA rfl];exact LN l s hb' h100 ln hp _ _ (hF s.adv ha.2.1 (by show s.ps<=s.n+1;omega) (by show 5*(l.length - (s.n+1))+1<=f;omega))
  rw[aB h1];by_cases h2:x=[40]
  ·subst h2;rw[aA rfl];have hi:s.into.n<l.length:=ha.2.1;have i1:=iW w f .expr s.into hi;have i2:=tR w (rE (kR l) f .expr s.into).2 [41] i1.2.1;obtain⟨p1,hp1⟩:∃p,l[(rE (kR l) f .expr s.into).2.n]?=some p:=⟨l[(rE (kR l) f .expr s.into).2.n]'i1.2.1,gL i1.2.1⟩;have hw:=SN l (rE (kR l) f .expr s.into).2 p1 hp1 (by have:=i1.2.1;omega) [41];have e2:(hQ (kR l) (rE (kR l) f .expr s.into).2 [41]).ps=s.ps+1:=i2.2.2.trans i1.2.2;exact LL l s hb' h100 (by omega) ln hp _ _ _ (hE s.into hi (by show s.ps+1<=s.n+1;omega) (by show 5*(l.length - (s.n+1))+3<=f;omega)) hw (by omega) (by omega)
  rw[aB h2];exact PL l s hb' h100 x ln hp (hsg x rfl) h1 h2
 |nm x=>
  have ha:Inv l s s.adv:=.adv w hn (by rw[ht];nofun);have hx:=hnm x rfl;dsimp only;by_cases h1:x=eZ
  ·rw[aA h1];exact DB l s hb' h100 x ln hp hx h1
  rw[aB h1];by_cases h2:x=mJ
  ·rw[aA h2];exact LO l s hb' h100 x ln hp hx h2
  rw[aB h2];obtain⟨p1,hp1⟩:∃p,l[s.n+1]?=some p:=⟨l[s.n+1]'ha.2.1,gL ha.2.1⟩;have hah:=VW l s 1 (by decide) h100 p1 hp1 [46];have hd:=a01 w hp1;have ht1:=rV hp1;rw[ht1];by_cases hc:p1.t=.sg [46]
  ·rw[hd.2 hc] at hah;by_cases h3:x=iX
   ·rw[aB (fun h=>h.1 h3)];rw[aA (by rw[h3];decide)];exact LM l s hb' h100 x ln hp hx h1 h2 h3 hah
   ·rw[aA ⟨h3,hc⟩];have hb2:Inv l s.adv s.adv.adv:=.adv w ha.2.1 (by show tk (kR l) (s.n+1)≠_;rw[ht1,hc];nofun);obtain⟨p2,hp2⟩:∃p,l[s.n+2]?=some p:=⟨l[s.n+2]'hb2.2.1,gL hb2.2.1⟩;have hm:=YS l s.adv.adv p2 hp2 (by have:=hb2.2.1;show s.n+2<_;have:s.adv.adv.n=s.n+2:=rfl;omega);have ht2:=rV hp2;rw[ht2];have hbb:s.adv.adv.bad=none:=by
     show s.bad=none;cases h:s.bad with|none=>rfl|some _=>rw[h] at hb;exact absurd rfl hb
    have hr:=IO l s hb' h100 x ln hp hx h1 h2 h3 hah _ _ hm;unfold O8 at hr;rw[aB (by rw[hbb];decide),show tk (l.map (·.t)) s.adv.adv.n=p2.t from ht2] at hr;cases h4:p2.t with
    |nm y=>rw[h4] at hr;exact hr
    |sg y=>rw[h4] at hr;exact hr
    |nu y=>rw[h4] at hr;exact hr
    |tx y=>rw[h4] at hr;exact hr
    |fin=>rw[h4] at hr;exact hr
    |bad=>rw[h4] at hr;exact hr
  ·rw[show gV p1.t [46]=false by cases h:gV p1.t [46] with|false=>rfl|true=>exact absurd (hd.1 h) hc] at hah;rw[aB (fun h=>hc h.2)];by_cases hk:OD.contains x=true
   ·rw[aA hk];exact IN l s hb' h100 x ln hp hx h1 h2 hk hah
   ·rw[aB hk];exact LK l s hb' h100 x ln hp hx h1 h2 (by simpa using hk) hah
abbrev OQ (e:Ex):GObj:=.box 61 [.s e.op,.i .i64 e.n,.s e.st,.s e.it,.sl .none (e.kids.map Ex.gvR)]
abbrev V6:GObj:=.box 61 [.s [],.i .i64 0,.s [],.s [],.sl .full []]
instance [MaxL] {α:Type} (l:List α) (f:α->GV) [k:∀a,KG (f a)]:KL (l.map f):=⟨ClL.mapOf (fun a=>(k a).h) l⟩
instance [MaxL] (s:RS) (l:List Tq) (e:Ex):FH 3 [i7 l s,V6,OQ e]:=⟨fun e' he=>by
 have h1:GObj.ren e' (i7 l s)=i7 l s:=(RO.h (e:=e') (x:=i7 l s));have h2:GObj.ren e' V6=V6:=(RO.h (e:=e') (x:=V6));have h3:GObj.ren e' (OQ e)=OQ e:=(RO.h (e:=e') (x:=OQ e));show[_,_,_]=_;rw[h1,h2,h3]⟩
theorem wM [MaxL] {l:List Tq} {s:RS} {op:By} {a b:Ex} {r:Nat} {x:List GObj}:LessO (i7 l s::V6::.box 61 [.s op,.i .i64 0,.s [],.s [],.sl (.own r) [.agg [.s a.op,.i .i64 a.n,.s a.st,.s a.it,.sl .none (a.kids.map Ex.gvR)],.agg [.s b.op,.i .i64 b.n,.s b.st,.s b.it,.sl .none (b.kids.map Ex.gvR)]]]::x) (i7 l s::V6::OQ (.bin op a b)::x):=by
 refine LessO.box (r:=2) rfl rfl (fun j g g' h h'=>?_);have hk:Wk (GV.sl (.own r) [.agg [.s a.op,.i .i64 a.n,.s a.st,.s a.it,.sl .none (a.kids.map Ex.gvR)],.agg [.s b.op,.i .i64 b.n,.s b.st,.s b.it,.sl .none (b.kids.map Ex.gvR)]]) (.sl .none ((Ex.bin op a b).kids.map Ex.gvR)):=by
  show Wk _ (.sl .none [a.gvR,b.gvR]);rw[d7 a,d7 b];exact b5 _ _
 match j,h,h' with
 |0,h,h'=>cases h;cases h';exact .refl _
 |1,h,h'=>cases h;cases h';exact .refl _
 |2,h,h'=>cases h;cases h';exact .refl _
 |3,h,h'=>cases h;cases h';exact .refl _
 |4,h,h'=>cases h;cases h';exact hk
theorem YP [MaxL] {l:List Tq} (w:WfR l) (f:Nat) (hF:∀g,g<=f->RoF l g):RoT l (f+1):=by
 intro s hn hps hneed;have bG:=w.len;simp only[EK.need] at hneed;have i0:=iW w f .fact s hn;have h0:=hF f (rL _) s hn hps (by simp only[EK.need];omega);unfold rE;generalize rE (kR l) f .fact s=p0 at*;obtain⟨e0,s0⟩:=p0;obtain⟨j1,j2,j3⟩:=i0;dsimp only at h0 j1 j2 j3⊢;generalize hR:rE (kR l) f (.termL e0) s0=R;rw[d7] at h0;refine bI Tryz.func60 rfl ?_;conv=>whnf
 refine cG [0] h0 ?_;conv=>whnf
 refine st ?_;conv=>whnf
 refine GLoop.introW (fun q:Nat×RS×Ex=>q.1<=f/\q.2.1.n<l.length/\q.2.1.ps<=q.2.1.n/\5*(l.length - q.2.1.n)+1<=q.1/\rE (kR l) q.1 (.termL q.2.2) q.2.1=R) (fun q=>[(0,.ptr 0 0),(2,.ptr 1 0),(3,.ptr 2 0)])
  (fun q=>⟨[i7 l q.2.1,V6,OQ q.2.2],0,[]⟩) (fun q=>l.length - q.2.1.n) (f,s0,e0) ⟨rL _,j2,(by show s0.ps<=s0.n;omega),(by show 5*(l.length - s0.n)+1<=f;omega),hR⟩ ⟨rfl,rfl,rfl,trivial⟩ rfl (fun _ _=>rL _) (fun q _=>rfl) (fun q hq e he=>?_) (fun q φ0 hq=>?_)
 ·refine⟨(FH.h (n:=3) (s:=[i7 l q.2.1,V6,OQ q.2.2])) e (fun i hi=>he i hi),rfl,?_⟩;show[GV.ptr (e 0) 0,.ptr (e 1) 0,.ptr (e 2) 0]=_;rw[he 0 (by simp),he 1 (by simp),he 2 (by simp)];rfl
 obtain⟨f1,s1,e1⟩:=q;obtain⟨q1,q2,q3,q4,q5⟩:=hq;dsimp only at q1 q2 q3 q4 q5;obtain⟨g,rfl⟩:∃g,f1=g+1:=⟨f1 - 1,by omega⟩;obtain⟨p,hp⟩:∃p,l[s1.n]?=some p:=⟨l[s1.n],gL q2⟩;have ho:=nF l s1;have hi:=pH l s1 p hp [42];have ht:=rV hp;unfold rE at q5;rw[ht] at q5;conv=>whnf
 cases hb:s1.bad with
 |some b=>
  rw[hb] at ho q5;replace ho:SC _ _ _ _ (.val (.b false)) _:=ho;rw[aB (fun h=>by cases h.1)] at q5;subst q5;refine cS [0] ho ?_;conv=>whnf
  refine st ?_;conv=>whnf
  exact fin 1 (hw:=cJ e1.gvR_eq.symm)
 |none=>
  rw[hb] at ho q5;replace ho:SC _ _ _ _ (.val (.b true)) _:=ho;cases hc:gV p.t [42] with
  |false=>
   rw[hc] at hi q5;rw[aB (fun h=>by cases h.2)] at q5;subst q5;refine cS [0] ho ?_;(conv=>whnf);refine cS [0] hi ?_;(conv=>whnf);refine st ?_;(conv=>whnf);exact fin 1 (hw:=cJ e1.gvR_eq.symm)
  |true=>
   rw[hc] at hi q5;rw[aA ⟨rfl,rfl⟩] at q5;have ha:Inv l s1 s1.adv:=.adv w q2 (by rw[ht];exact lG hc);have hf:=hF g (by omega) s1.adv ha.2.1 (by show s1.ps<=s1.n+1;omega) (by show 5*(l.length - (s1.n+1))+1<=g;omega);have i1:=iW w g .fact s1.adv ha.2.1;generalize rE (kR l) g .fact s1.adv=p1 at*;obtain⟨e2,s2⟩:=p1;obtain⟨k1,k2,k3⟩:=i1;dsimp only at hf k1 k2 k3 q5;replace k1:s1.n+1<=s2.n:=k1;replace k3:s2.ps=s1.ps:=k3;rw[d7] at hf;refine cS [0] ho ?_;(conv=>whnf);refine cS [0] hi ?_;(conv=>whnf);refine⟨_,⟨bE (i:=s1.n) (by omega),zL _,rfl,bL rfl⟩,?_⟩;(conv=>whnf);refine fY (fun k=>!Nat.beq k 101) (b7 [some 2,none,none,some 3,none,some 2] rfl rfl (by kernel_rfl) ?_);(conv=>whnf);refine cG [0] hf ?_;(conv=>whnf);refine st ?_;(conv=>whnf);exact⟨l.length - s2.n,(by show _<l.length - s1.n;omega),(g,s2,.bin [42] e1 e2),⟨by show g<=f;omega,k2,(by show s2.ps<=s2.n;omega),(by show 5*(l.length - s2.n)+1<=g;omega),q5⟩,rfl,⟨rfl,rfl,rfl,trivial⟩,_,wM,_,rfl,rfl⟩
