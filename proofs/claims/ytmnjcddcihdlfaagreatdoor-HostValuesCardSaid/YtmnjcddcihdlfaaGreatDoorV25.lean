/- Part of HostValues. -/
import Derived.Test.YtmnjcddcihdlfaaGreatDoorV24
set_option linter.all false
set_option maxRecDepth 100000
namespace Go.Proofs.YtmnjcddcihdlfaaGreatDoor
open Go.RowKit
theorem YY {c:UInt8} (h1:c≠34) (h2:c≠10) (h3:c≠92) (r:By):bP (c::r)=1+bP r:=by
 conv=>lhs;unfold bP
 rw[aB h1,aB h2,aB h3]
theorem a1a (e:UInt8) (r:By):bP (92::e::r)=2+bP r:=by
 conv=>lhs;unfold bP
 rw[aB (by decide),aB (by decide),aA rfl]
theorem T6 {c:UInt8} {n:Nat} (h:lY c=some n):c≠34/\c≠10/\c≠92:=by
 refine⟨?_,?_,?_⟩<;>(rintro rfl;revert h;simp[lY])
theorem iQ [MaxL] {l l':List GV} (h:Wks l l'):Wk (.tup l) (.tup l'):=fun C v hv=>by
 cases hv with
 |tup hs hv=>
 obtain⟨a,b⟩:=h.at_;refine .tup (by rw[hs,a]) (fun j g u h1 h2=>?_);have hj:j<l.length:=by rw[a];exact(List.getElem?_eq_some_iff.1 h1).1
 exact b j l[j] g (gL hj) h1 C u (hv j _ u (gL hj) h2)
instance kgVal2 [MaxL] (v:Val):KG v.gv:=⟨v.cl⟩
theorem A0:∀(n:Nat) (t:By),t.length<=n->t[bP t]?=some 34->∀s r,rq (t.take (bP t+1))=some (s,r)->r=[]
 |0,t,hn,h,s,r,_=>by
  have:t=[]:=aI (by omega);subst this;cases h
 |n+1,[],hn,h,s,r,_=>by cases h
 |n+1,c::t,hn,h,s,r,hr=>by
  have hn':t.length<=n:=by simpa using hn
  by_cases h1:c=34
  ·subst h1;rw[show bP (34::t)=0 by(unfold bP;rfl)] at hr;replace hr:rq [34]=some (s,r):=hr;rw[II] at hr;cases hr;rfl
  by_cases h2:c=10
  ·subst h2;rw[show bP (10::t)=0 by(unfold bP;rfl)] at h;cases h
  by_cases h3:c=92
  ·subst h3;cases t with
   |nil=>cases h
   |cons e t=>
    rw[a1a] at h hr;rw[show 2+bP t=bP t+1+1 by omega] at h hr;replace h:t[bP t]?=some 34:=h;replace hr:rq (92::e::t.take (bP t+1))=some (s,r):=hr;have hl:t.length<=n:=by simp at hn';omega
    by_cases he:e=34∨e=92
    ·rw[AV he,aC] at hr;obtain⟨⟨s',r'⟩,h4,h5⟩:=hr;cases h5;exact A0 n t hl h s' r' h4
    by_cases h120:e=120
    ·subst h120
     match t,h,hr,hl with
     |[],h,hr,hl=>cases h
     |[a],h,hr,hl=>
      have:rq (92::120::[a].take (bP [a]+1))=none:=oL (fun e' r1 he'=>by
       cases he';refine⟨by decide,fun _ a' b' r2 h'=>?_⟩;have:=aJ List.length h';simp at this)
      rw[this] at hr;cases hr
     |a::b::t,h,hr,hl=>
      by_cases hq0:bP (a::b::t)=0
      ·rw[hq0] at hr;have:rq (92::120::[a])=none:=oL (fun e' r1 he'=>by
        cases he';exact⟨by decide,fun _ a' b' r2 h'=>by cases h'⟩)
       rw[show(a::b::t).take (0+1)=[a] from rfl,this] at hr;cases hr
      obtain⟨q,hq⟩:∃q,bP (a::b::t)=q+1:=⟨bP (a::b::t) - 1,by omega⟩;rw[hq] at hr h;replace hr:rq (92::120::a::b::t.take q)=some (s,r):=hr;rw[SD] at hr;cases ha:lY a with
      |none=>rw[ha] at hr;cases hr
      |some x=>
       rw[ha] at hr;cases hb:lY b with
       |none=>rw[hb] at hr;cases hr
       |some y=>
        rw[hb] at hr;dsimp only at hr;split at hr
        ·cases hr
        rw[aC] at hr;obtain⟨⟨s',r'⟩,h4,h5⟩:=hr;cases h5;obtain⟨a1,a2,a3⟩:=T6 ha;obtain⟨b1,b2,b3⟩:=T6 hb;rw[YY a1 a2 a3,YY b1 b2 b3] at hq;have hq':q=bP t+1:=by omega
        subst hq';replace h:t[bP t]?=some 34:=h;exact A0 n t (by simp at hl;omega) h s' r' h4
    ·have:rq (92::e::t.take (bP t+1))=none:=oL (fun e' r1 he'=>by
      cases he';exact⟨he,fun h'=>absurd h' h120⟩)
     rw[this] at hr;cases hr
  ·rw[YY h1 h2 h3] at h hr;rw[show 1+bP t=bP t+1 by omega] at h hr;replace h:t[bP t]?=some 34:=h;replace hr:rq (c::t.take (bP t+1))=some (s,r):=hr;by_cases hb:c.toNat<32∨126<c.toNat
   ·rw[AW h1 hb] at hr;cases hr
   ·rw[SE h1 hb h3,aC] at hr;obtain⟨⟨s',r'⟩,h4,h5⟩:=hr;cases h5;exact A0 n t hn' h s' r' h4
theorem IP [MaxL] (v:Val):SC Tryz.prog 197 [.sl .none [v.gv]] [] (.val (.b v.ok)) []:=by
 have hv:=wA v;obtain⟨k,n,s⟩:=v;refine bI Tryz.func197 rfl ?_;conv=>whnf
 refine bA (fun j:Nat=>j=0∨(j=1/\Val.ok ⟨k,n,s⟩=true)) (fun j=>[(0,.sl .none [Val.gv ⟨k,n,s⟩]),(3,.i .i64 (j:Nat))]) (fun _=>⟨[],0,[]⟩) (fun j=>1 - j) 0 (.inl rfl) ⟨rfl,rfl,trivial⟩ rfl (fun j φ0 hj=>?_);rcases hj with rfl|⟨rfl,hok⟩
 ·conv=>whnf
  refine⟨cD 0,_,rfl,rfl,?_⟩;conv=>whnf
  refine cP hv ?_;cases hok:Val.ok ⟨k,n,s⟩ with
  |false=>
   (conv=>whnf);exact fin 0
  |true=>
   (conv=>whnf);exact⟨0,by decide,1,.inr ⟨rfl,rfl⟩,rfl,⟨rfl,rfl,trivial⟩,rfl⟩
 ·conv=>whnf
  rw[hok];exact fin 0
theorem SP [MaxL] (w:By) (hw:w.length<=20000) (h34:w.head?=some 34) (hq:(mO w).2=0∨(mO w).2=w.length):
  SC Tryz.prog 173 [.s w] [] (.val (match DF w with
   |some v=>.tup [.sl .none [v.gv],.i .i64 0]
   |none=>.tup [.sl .none [],.i .i64 2])) []:=by
 have hl:=PY w (by omega);have hne:w≠[]:=by rintro rfl;cases h34
 have hpos:0<w.length:=List.length_pos_iff.2 hne;have hR:DF w=if(mO w).2=w.length/\(mO w).1.ok=true then some (mO w).1 else none:=by
  unfold DF;by_cases h:(mO w).2=w.length/\(mO w).1.ok=true
  ·rw[aA h,aA ⟨hne,h⟩]
  ·rw[aB h,aB (fun h'=>h h'.2)]
 rw[hR];clear hR;generalize mO w=q at*;obtain⟨v,m⟩:=q;dsimp only at hq hl⊢;have hv:=IP v;obtain⟨k,n,s⟩:=v;rcases hq with rfl|rfl
 ·rw[aB (fun h=>by omega)];show SC _ _ _ _ (.val (.tup [.sl .none [],.i .i64 2])) _;refine bI Tryz.func173 rfl ?_;conv=>whnf
  refine gN (c:=decide (((w.length:Nat):Int)>20000)) (aQ (by omega)) ?_;conv=>whnf
  rw[show(w==(⟨#[]⟩:ByteArray).data.toList)=false from beq_eq_false_iff_ne.2 hne];conv=>whnf
  refine bA (fun _:Unit=>True) (fun _=>[(0,.s w),(4,.sl (.own 1) []),(5,.i .i64 0)]) (fun _=>⟨[.own 0 0 0,.own 0 0 0],0,[]⟩) (fun _=>0) () trivial ⟨rfl,rfl,rfl,trivial⟩ rfl (fun _ φ0 _=>?_);conv=>whnf
  refine cP hl ?_;conv=>whnf
  refine st (l:=Val.cs ⟨k,n,s⟩) ?_;conv=>whnf
  exact fin 0 (hw:=iQ ⟨b5 _ _,.refl _,trivial⟩)
 ·have m0:(((w.length:Nat):Int)==0)=false:=by rw[cY];omega
  have mw:IntKind.i64.wrap (0+((w.length:Nat):Int))=((w.length:Nat):Int):=by rw[bN (by omega) (by omega)];omega
  cases hok:Val.ok ⟨k,n,s⟩ with
  |true=>
   rw[hok] at hv;rw[aA ⟨rfl,rfl⟩];show SC _ _ _ _ (.val (.tup [.sl .none [Val.gv ⟨k,n,s⟩],.i .i64 0])) _;refine bI Tryz.func173 rfl ?_;(conv=>whnf);refine gN (c:=decide (((w.length:Nat):Int)>20000)) (aQ (by omega)) ?_;(conv=>whnf);rw[show(w==(⟨#[]⟩:ByteArray).data.toList)=false from beq_eq_false_iff_ne.2 hne];(conv=>whnf);refine bA (fun _:Unit=>True) (fun _=>[(0,.s w),(4,.sl (.own 1) []),(5,.i .i64 0)]) (fun _=>⟨[.own 0 0 0,.own 0 0 0],0,[]⟩) (fun _=>0) () trivial ⟨rfl,rfl,rfl,trivial⟩ rfl (fun _ φ0 _=>?_);(conv=>whnf);refine cP hl ?_;(conv=>whnf);refine st (l:=Val.cs ⟨k,n,s⟩) ?_;(conv=>whnf);rw[m0];(conv=>whnf);refine⟨⟨rfl,rfl,bL rfl⟩,[Val.gv ⟨k,n,s⟩],1,⟨rfl,rfl⟩,?_⟩;(conv=>whnf);refine aN ?_;(conv=>whnf);rw[mw,show(((w.length:Nat):Int)==((w.length:Nat):Int))=true from beq_self_eq_true _];(conv=>whnf);refine cP hv ?_;(conv=>whnf);exact fin 0 (hw:=iQ ⟨b5 _ _,.refl _,trivial⟩)
  |false=>
   rw[hok] at hv;rw[aB (fun h=>by cases h.2)];show SC _ _ _ _ (.val (.tup [.sl .none [],.i .i64 2])) _;refine bI Tryz.func173 rfl ?_;(conv=>whnf);refine gN (c:=decide (((w.length:Nat):Int)>20000)) (aQ (by omega)) ?_;(conv=>whnf);rw[show(w==(⟨#[]⟩:ByteArray).data.toList)=false from beq_eq_false_iff_ne.2 hne];(conv=>whnf);refine bA (fun _:Unit=>True) (fun _=>[(0,.s w),(4,.sl (.own 1) []),(5,.i .i64 0)]) (fun _=>⟨[.own 0 0 0,.own 0 0 0],0,[]⟩) (fun _=>0) () trivial ⟨rfl,rfl,rfl,trivial⟩ rfl (fun _ φ0 _=>?_);(conv=>whnf);refine cP hl ?_;(conv=>whnf);refine st (l:=Val.cs ⟨k,n,s⟩) ?_;(conv=>whnf);rw[m0];(conv=>whnf);refine⟨⟨rfl,rfl,bL rfl⟩,[Val.gv ⟨k,n,s⟩],1,⟨rfl,rfl⟩,?_⟩;(conv=>whnf);refine aN ?_;(conv=>whnf);rw[mw,show(((w.length:Nat):Int)==((w.length:Nat):Int))=true from beq_self_eq_true _];(conv=>whnf);refine cP hv ?_;(conv=>whnf);exact fin 0 (hw:=iQ ⟨b5 _ _,.refl _,trivial⟩)
set_option maxHeartbeats 2000000
def sC (t:By):Nat×By×Bool:=if t[bP t]?=some 34 then(match vE ((34::t).take (2+bP t)) with
 |some v=>(2+bP t,v.s,true)
 |none=>(1,[],false)) else(1,[],false)
theorem Q3 {t:By} (h:t[bP t]?=some 34):(mO ((34::t).take (2+bP t))).2=0∨(mO ((34::t).take (2+bP t))).2=((34::t).take (2+bP t)).length:=by
 have hw:(34::t).take (2+bP t)=34::t.take (bP t+1):=by rw[show 2+bP t=bP t+1+1 by omega];rfl
 rw[hw];have hq:mO (34::t.take (bP t+1))=(⟨2,0,(kB (34::t.take (bP t+1)) 0).1⟩,(kB (34::t.take (bP t+1)) 0).2):=by unfold mO;rw[aA (show(34::t.take (bP t+1)).head?=some 34 from rfl)]
 rw[hq];have hs:kB (34::t.take (bP t+1)) 0=LU (34::t.take (bP t+1)).length 0 (rq (t.take (bP t+1))):=by
  unfold kB;rw[aA (show(34::t.take (bP t+1))[0]?=some 34 from rfl)];rfl
 rw[hs];cases hr:rq (t.take (bP t+1)) with
 |none=>exact .inl rfl
 |some p=>
  obtain⟨s',r⟩:=p;have:=A0 t.length t (rL _) h s' r hr;subst this;exact .inr rfl
theorem Z7 {w:By} {v:Val} (h34:w.head?=some 34) (h:DF w=some v):v.k=2:=by
 unfold DF at h;split at h
 ·cases h;unfold mO;rw[aA h34]
 ·cases h
theorem YO [MaxL] (s:By) (k:Nat) (hs:s.length<=20000) (t:By) (hT:s.drop k=34::t):SC Tryz.prog 145 [.s s,.i .i64 (k:Nat)] [] (.val (.tup [.i .i64 ((sC t).1:Nat),.s (sC t).2.1,.b (sC t).2.2])) []:=by
 have hk:k<s.length:=by
  have:=aJ List.length hT;simp at this;omega
 have ht:t=s.drop (k+1):=by
  have h:=cM hk;rw[hT] at h;exact(List.cons.inj h).2.symm
 have htl:t.length=s.length - (k+1):=by rw[ht,cU]
 have hget:∀j:Nat,t[j]?=s[k+1+j]?:=fun j=>by rw[ht,eP]
 have hw1:IntKind.i64.wrap (((k:Nat):Int)+1)=((k+1:Nat):Int):=by rw[bN (by omega) (by omega)];omega
 have no:t[bP t]?≠some 34->sC t=(1,[],false):=fun h=>aB h;refine bI Tryz.func145 rfl ?_;conv=>whnf
 refine bA (fun i:Nat=>k+1<=i/\i<=s.length+1/\(i - (k+1))+bP (s.drop i)=bP t) (fun i=>[(0,.s s),(1,.i .i64 (k:Nat)),(7,.i .i64 (i:Nat))]) (fun _=>⟨[],0,[]⟩) (fun i=>s.length+2 - i) (k+1) ⟨rL _,by omega,by rw[<-ht];omega⟩ ⟨rfl,rfl,aJ (GV.i .i64) hw1,trivial⟩ rfl (fun i φ0 hi=>?_);obtain⟨i1,i2,i3⟩:=hi;have hw2:IntKind.i64.wrap (((i:Nat):Int)+1)=((i+1:Nat):Int):=by rw[bN (by omega) (by omega)];omega
 conv=>whnf
 by_cases hlt:i<s.length;rotate_left
 ·have hq0:bP (s.drop i)=0:=by rw[dT (by omega)];rfl
  rw[no (by rw[hget,show k+1+bP t=i by omega,b6 (by omega)];nofun)];refine gN (c:=decide (((i:Nat):Int)<((s.length:Nat):Int))) (aQ (by omega)) ?_;conv=>whnf
  refine gY (c:=decide (((i:Nat):Int)>=((s.length:Nat):Int))) (aR (by omega)) ?_;conv=>whnf
  exact fin 0
 obtain⟨c,hc⟩:∃c,s[i]?=some c:=⟨s[i],gL hlt⟩;have hdi:s.drop i=c::s.drop (i+1):=by rw[<-cM hlt,(List.getElem?_eq_some_iff.1 hc).2]
 refine gY (c:=decide (((i:Nat):Int)<((s.length:Nat):Int))) (aR (by omega)) ?_;conv=>whnf
 refine⟨fK _,c,by rw[aD];exact hc,?_⟩;conv=>whnf
 by_cases c34:c=34
 ·subst c34;have hq0:bP (s.drop i)=0:=by rw[hdi];exact AZ _
  have hat:t[bP t]?=some 34:=by rw[hget,show k+1+bP t=i by omega];exact hc
  have hwl:((34::t).take (2+bP t)).length<=20000:=by rw[cL];simp only[aM];omega
  have hP:=SP ((34::t).take (2+bP t)) hwl (by rw[show 2+bP t=(bP t+1)+1 by omega];rfl) (Q3 hat);have hkk:=fun v=>Z7 (w:=(34::t).take (2+bP t)) (v:=v) (by rw[show 2+bP t=(bP t+1)+1 by omega];rfl);have hX:sC t=match DF ((34::t).take (2+bP t)) with
   |some v=>(2+bP t,v.s,true)
   |none=>(1,[],false):=by unfold sC;rw[aA hat,W7]
  have hcut:(s.drop k).take (i+1 - k)=(34::t).take (2+bP t):=by rw[hT,show i+1 - k=2+bP t by omega]
  have hend:IntKind.i64.wrap (((i+1:Nat):Int) - ((k:Nat):Int))=((2+bP t:Nat):Int):=by rw[bN (by omega) (by omega)];omega
  rw[hX];clear hX;generalize DF ((34::t).take (2+bP t))=R at*;conv=>whnf
  refine gN (c:=decide (((i:Nat):Int)>=((s.length:Nat):Int))) (aQ (by omega)) ?_;conv=>whnf
  refine⟨fK _,34,by rw[aD];exact hc,?_⟩;conv=>whnf
  refine⟨fK _,?_⟩;conv=>whnf
  rw[hw2];refine⟨fK _,?_⟩;conv=>whnf
  refine⟨⟨by rw[aD,aD];omega,by rw[aD];omega⟩,(34::t).take (2+bP t),by rw[aD,aD,hcut],?_⟩;cases R with
  |none=>
   (conv=>whnf);refine cP hP ?_;(conv=>whnf);exact fin 0
  |some v=>
   have h2:=hkk v rfl;obtain⟨kk,n,x⟩:=v;dsimp only at h2;subst h2;(conv=>whnf);refine cP hP ?_;(conv=>whnf);refine⟨cD 0,_,rfl,rfl,?_⟩;(conv=>whnf);refine gP ?_;(conv=>whnf);refine⟨cD 0,_,rfl,rfl,?_⟩;(conv=>whnf);exact fin 0 (hw:=iQ ⟨cJ (aJ (GV.i .i64) (by rw[hw2,hend])),.refl _,.refl _,trivial⟩)
 ·rw[show(((c.toNat:Nat):Int) !=34)=true from bne_iff_ne.2 (fun h=>c34 (by apply UInt8.toNat_inj.1;show c.toNat=34;omega))];conv=>whnf
  refine⟨fK _,c,by rw[aD];exact hc,?_⟩;conv=>whnf
  by_cases c10:c=10
  ·subst c10;have hq0:bP (s.drop i)=0:=by rw[hdi];exact IS _
   rw[no (by rw[hget,show k+1+bP t=i by omega,hc];decide)];(conv=>whnf);refine gN (c:=decide (((i:Nat):Int)>=((s.length:Nat):Int))) (aQ (by omega)) ?_;(conv=>whnf);refine⟨fK _,10,by rw[aD];exact hc,?_⟩;(conv=>whnf);exact fin 0
  rw[show(((c.toNat:Nat):Int) !=10)=true from bne_iff_ne.2 (fun h=>c10 (by apply UInt8.toNat_inj.1;show c.toNat=10;omega))];conv=>whnf
  refine⟨fK _,c,by rw[aD];exact hc,?_⟩;conv=>whnf
  by_cases c92:c=92
  ·subst c92;(conv=>whnf);have hw3:IntKind.i64.wrap (IntKind.i64.wrap (((i:Nat):Int)+1)+1)=((i+2:Nat):Int):=by rw[hw2,bN (by omega) (by omega)];omega
   refine⟨s.length+2 - (i+2),(by omega),i+2,⟨by omega,by omega,?_⟩,rfl,⟨rfl,rfl,aJ (GV.i .i64) hw3,trivial⟩,rfl⟩;rw[<-i3,hdi];by_cases h2:i+1<s.length
   ·have:s.drop (i+1)=s[i+1]::s.drop (i+2):=(cM h2).symm;rw[this,sF];omega
   ·rw[dT (show s.length<=i+1 by omega),dT (show s.length<=i+2 by omega)];show _=i - (k+1)+2;show i+2 - (k+1)+0=_;omega
  ·rw[show(((c.toNat:Nat):Int)==92)=false from beq_eq_false_iff_ne.2 (fun h=>c92 (by apply UInt8.toNat_inj.1;show c.toNat=92;omega))];(conv=>whnf);refine⟨s.length+2 - (i+1),(by omega),i+1,⟨by omega,by omega,?_⟩,rfl,⟨rfl,rfl,aJ (GV.i .i64) hw2,trivial⟩,rfl⟩;rw[<-i3,hdi,tY c34 c10 c92];omega
abbrev wZ:GObj:=.box 151 [.i .i64 0,.s [],.i .i64 0,.i .i64 0]
abbrev LZ (t:Tk) (n:Nat):GV:=.tup [PC ⟨t,0⟩,.i .i64 (n:Nat)]
theorem VL (p:UInt8->Bool) (l:By):l.take (l.takeWhile p).length=l.takeWhile p:=(List.prefix_iff_eq_take.1 (e7 (l:=l) p)).symm
theorem PH [MaxL] (s:By) (k:Nat) (hs:s.length<=20000) (t:By) (hT:s.drop k=34::t):SC Tryz.prog 100 [.s s,.i .i64 (k:Nat)] [] (.val (LZ (if(sC t).2.2=true then .tx (sC t).2.1 else .bad) (sC t).1)) []:=by
 have hk:k<s.length:=by
  have:=aJ List.length hT;simp at this;omega
 have hc:s[k]?=some 34:=by
  have h:=cM hk;rw[hT] at h;rw[gL hk,(List.cons.inj h).1]
 have hsm:=qU 34;have hdg:=tW 34;have hx:=YO s k hs t hT;replace hsm:SC _ _ _ _ (.val (.b false)) _:=hsm;replace hdg:SC _ _ _ _ (.val (.b false)) _:=hdg;generalize sC t=R at*;obtain⟨n,x,b⟩:=R;dsimp only at hx⊢;cases b with
 |true=>
  rw[aA rfl];refine bI Tryz.func100 rfl ?_;conv=>whnf
  refine⟨fK _,34,by rw[aD];exact hc,?_⟩;conv=>whnf
  refine cP hsm ?_;conv=>whnf
  refine⟨fK _,34,by rw[aD];exact hc,?_⟩;conv=>whnf
  refine cP hdg ?_;conv=>whnf
  refine⟨fK _,34,by rw[aD];exact hc,?_⟩;conv=>whnf
  refine cP hx ?_;conv=>whnf
  refine st ?_;conv=>whnf
  exact fin 0
 |false=>
  rw[aB b4];refine bI Tryz.func100 rfl ?_;conv=>whnf
  refine⟨fK _,34,by rw[aD];exact hc,?_⟩;conv=>whnf
  refine cP hsm ?_;conv=>whnf
  refine⟨fK _,34,by rw[aD];exact hc,?_⟩;conv=>whnf
  refine cP hdg ?_;conv=>whnf
  refine⟨fK _,34,by rw[aD];exact hc,?_⟩;conv=>whnf
  refine cP hx ?_;conv=>whnf
  refine st ?_;conv=>whnf
  exact fin 0
theorem PI [MaxL] (s:By) (k:Nat) (hs:s.length<=20000) (c:UInt8) (hc:s[k]?=some c) (h1:dA c=false) (h2:bB c=false) (h3:c≠34):SC Tryz.prog 100 [.s s,.i .i64 (k:Nat)] [] (.val (if yN (s.drop k)=[] then LZ .bad 1 else LZ (.sg (yN (s.drop k))) (yN (s.drop k)).length)) []:=by
 have hsm:=qU c;have hdg:=tW c;have hg:=YQ s k hs c hc;rw[h1] at hsm;rw[h2] at hdg;have q34:(((c.toNat:Nat):Int)==34)=false:=beq_eq_false_iff_ne.2 (fun h=>h3 (by apply UInt8.toNat_inj.1;show c.toNat=34;omega));generalize yN (s.drop k)=G at*;by_cases hG:G=[]
 ·subst hG;rw[aA rfl];show SC _ _ _ _ (.val (LZ .bad 1)) _;refine bI Tryz.func100 rfl ?_;conv=>whnf
  refine⟨fK _,c,by rw[aD];exact hc,?_⟩;conv=>whnf
  refine cP hsm ?_;conv=>whnf
  refine⟨fK _,c,by rw[aD];exact hc,?_⟩;conv=>whnf
  refine cP hdg ?_;conv=>whnf
  refine⟨fK _,c,by rw[aD];exact hc,?_⟩;conv=>whnf
  rw[q34];conv=>whnf
  refine cP hg ?_;conv=>whnf
  refine st ?_;conv=>whnf
  exact fin 0
 ·rw[aB hG];refine bI Tryz.func100 rfl ?_;conv=>whnf
  refine⟨fK _,c,by rw[aD];exact hc,?_⟩;conv=>whnf
  refine cP hsm ?_;conv=>whnf
  refine⟨fK _,c,by rw[aD];exact hc,?_⟩;conv=>whnf
  refine cP hdg ?_;conv=>whnf
  refine⟨fK _,c,by rw[aD];exact hc,?_⟩;conv=>whnf
  rw[q34];conv=>whnf
  refine cP hg ?_;conv=>whnf
  rw[show(G==(⟨#[]⟩:ByteArray).data.toList)=false from beq_eq_false_iff_ne.2 hG];conv=>whnf
  refine st ?_;conv=>whnf
  exact fin 0
theorem LJ [MaxL] (s:By) (k:Nat) (hs:s.length<=20000) (c:UInt8) (hc:s[k]?=some c) (h1:dA c=true):SC Tryz.prog 100 [.s s,.i .i64 (k:Nat)] [] (.val (LZ (if dE ((s.drop k).takeWhile bQ)=true then .nm ((s.drop k).takeWhile bQ) else .bad) ((s.drop k).takeWhile bQ).length)) []:=by
 have hk:k<s.length:=(List.getElem?_eq_some_iff.1 hc).1;have hsm:=qU c;rw[h1] at hsm;obtain⟨W,hW⟩:∃W,(s.drop k).takeWhile bQ=W:=⟨_,rfl⟩;have hcut0:(s.drop k).take W.length=W:=by rw[<-hW];exact VL _ _
 have hcut:∀i:Nat,i - k+0=W.length->W=(s.drop k).take (i - k):=fun i h=>by rw[show i - k=W.length by omega,hcut0]
 have hend:∀i:Nat,i - k+0=W.length->k<=i/\i<=s.length->IntKind.i64.wrap (((i:Nat):Int) - ((k:Nat):Int))=((W.length:Nat):Int):=fun i h h'=>by rw[bN (by omega) (by omega)];omega
 have hnm:=SQ W;rw[hW];cases hok:dE W with
 |true=>
  rw[hok] at hnm;rw[aA rfl];refine bI Tryz.func100 rfl ?_;conv=>whnf
  refine⟨fK _,c,by rw[aD];exact hc,?_⟩;conv=>whnf
  refine cP hsm ?_;conv=>whnf
  refine bA (fun i:Nat=>k<=i/\i<=s.length/\(i - k)+((s.drop i).takeWhile bQ).length=W.length) (fun i=>[(0,.s s),(1,.i .i64 (k:Nat)),(4,.ptr 0 0),(6,.i .i64 (i:Nat))]) (fun _=>⟨[wZ],0,[]⟩) (fun i=>s.length - i) k ⟨rL _,by omega,by rw[hW];omega⟩ ⟨rfl,rfl,rfl,rfl,trivial⟩ rfl (fun i φ0 hi=>?_);obtain⟨i1,i2,i3⟩:=hi;conv=>whnf
  by_cases hlt:i<s.length;rotate_left
  ·rw[dT (by omega)] at i3;replace i3:i - k+0=W.length:=i3;refine gN (c:=decide (((i:Nat):Int)<((s.length:Nat):Int))) (aQ (by omega)) ?_;(conv=>whnf);refine⟨fK _,?_⟩;(conv=>whnf);refine⟨fK _,?_⟩;(conv=>whnf);refine⟨⟨by rw[aD,aD];omega,by rw[aD];omega⟩,W,by rw[aD,aD];exact hcut i (by omega),?_⟩;(conv=>whnf);refine cP hnm ?_;(conv=>whnf);refine⟨fK _,?_⟩;(conv=>whnf);refine⟨fK _,?_⟩;(conv=>whnf);refine⟨⟨by rw[aD,aD];omega,by rw[aD];omega⟩,W,by rw[aD,aD];exact hcut i (by omega),?_⟩;(conv=>whnf);refine st ?_;(conv=>whnf);exact fin 0 (hw:=iQ ⟨.refl _,cJ (aJ (GV.i .i64) (hend i (by omega) ⟨by omega,by omega⟩)),trivial⟩)
  obtain⟨d,hd⟩:∃d,s[i]?=some d:=⟨s[i],gL hlt⟩;have hdi:s.drop i=d::s.drop (i+1):=by rw[<-cM hlt,(List.getElem?_eq_some_iff.1 hd).2]
  rw[hdi] at i3;have hsd:=qU d;have hdd:=tW d;have hw2:IntKind.i64.wrap (((i:Nat):Int)+1)=((i+1:Nat):Int):=by rw[bN (by omega) (by omega)];omega
  refine gY (c:=decide (((i:Nat):Int)<((s.length:Nat):Int))) (aR (by omega)) ?_;conv=>whnf
  refine⟨fK _,d,by rw[aD];exact hd,?_⟩;conv=>whnf
  refine cP hsd ?_;have nxt:bQ d=true->i+1 - k+((s.drop (i+1)).takeWhile bQ).length=W.length:=fun h=>by
   rw[bZ,aA h,aM] at i3;omega
  cases d1:dA d with
  |true=>
   (conv=>whnf);exact⟨s.length - (i+1),(by omega),i+1,⟨by omega,hlt,nxt (mM d1)⟩,rfl,⟨rfl,rfl,rfl,aJ (GV.i .i64) hw2,trivial⟩,rfl⟩
  |false=>
   (conv=>whnf);refine⟨fK _,d,by rw[aD];exact hd,?_⟩;(conv=>whnf);refine cP hdd ?_;cases d2:bB d with
   |true=>
    (conv=>whnf);exact⟨s.length - (i+1),(by omega),i+1,⟨by omega,hlt,nxt (mY d2)⟩,rfl,⟨rfl,rfl,rfl,aJ (GV.i .i64) hw2,trivial⟩,rfl⟩
   |false=>
    (conv=>whnf);refine⟨fK _,d,by rw[aD];exact hd,?_⟩;(conv=>whnf);by_cases d3:d.toNat=95
    ·rw[show(((d.toNat:Nat):Int)==95)=true by rw[d3];rfl];(conv=>whnf);exact⟨s.length - (i+1),(by omega),i+1,⟨by omega,hlt,nxt (by unfold bQ;rw[d3];simp)⟩,rfl,⟨rfl,rfl,rfl,aJ (GV.i .i64) hw2,trivial⟩,rfl⟩
    ·rw[show(((d.toNat:Nat):Int)==95)=false from beq_eq_false_iff_ne.2 (by omega)];(conv=>whnf);have hin:bQ d=false:=by unfold bQ;rw[d1,d2];simpa using d3
     rw[bZ,aB (by rw[hin];decide)] at i3;replace i3:i - k+0=W.length:=i3;refine⟨fK _,?_⟩;(conv=>whnf);refine⟨fK _,?_⟩;(conv=>whnf);refine⟨⟨by rw[aD,aD];omega,by rw[aD];omega⟩,W,by rw[aD,aD];exact hcut i (by omega),?_⟩;(conv=>whnf);refine cP hnm ?_;(conv=>whnf);refine⟨fK _,?_⟩;(conv=>whnf);refine⟨fK _,?_⟩;(conv=>whnf);refine⟨⟨by rw[aD,aD];omega,by rw[aD];omega⟩,W,by rw[aD,aD];exact hcut i (by omega),?_⟩;(conv=>whnf);refine st ?_;(conv=>whnf);exact fin 0 (hw:=iQ ⟨.refl _,cJ (aJ (GV.i .i64) (hend i (by omega) ⟨by omega,by omega⟩)),trivial⟩)
 |false=>
  rw[hok] at hnm;rw[aB b4];refine bI Tryz.func100 rfl ?_;conv=>whnf
  refine⟨fK _,c,by rw[aD];exact hc,?_⟩;conv=>whnf
  refine cP hsm ?_;conv=>whnf
  refine bA (fun i:Nat=>k<=i/\i<=s.length/\(i - k)+((s.drop i).takeWhile bQ).length=W.length) (fun i=>[(0,.s s),(1,.i .i64 (k:Nat)),(4,.ptr 0 0),(6,.i .i64 (i:Nat))]) (fun _=>⟨[wZ],0,[]⟩) (fun i=>s.length - i) k ⟨rL _,by omega,by rw[hW];omega⟩ ⟨rfl,rfl,rfl,rfl,trivial⟩ rfl (fun i φ0 hi=>?_);obtain⟨i1,i2,i3⟩:=hi;conv=>whnf
  by_cases hlt:i<s.length;rotate_left
  ·rw[dT (by omega)] at i3;replace i3:i - k+0=W.length:=i3;refine gN (c:=decide (((i:Nat):Int)<((s.length:Nat):Int))) (aQ (by omega)) ?_;(conv=>whnf);refine⟨fK _,?_⟩;(conv=>whnf);refine⟨fK _,?_⟩;(conv=>whnf);refine⟨⟨by rw[aD,aD];omega,by rw[aD];omega⟩,W,by rw[aD,aD];exact hcut i (by omega),?_⟩;(conv=>whnf);refine cP hnm ?_;(conv=>whnf);refine st ?_;(conv=>whnf);exact fin 0 (hw:=iQ ⟨.refl _,cJ (aJ (GV.i .i64) (hend i (by omega) ⟨by omega,by omega⟩)),trivial⟩)
  obtain⟨d,hd⟩:∃d,s[i]?=some d:=⟨s[i],gL hlt⟩;have hdi:s.drop i=d::s.drop (i+1):=by rw[<-cM hlt,(List.getElem?_eq_some_iff.1 hd).2]
  rw[hdi] at i3;have hsd:=qU d;have hdd:=tW d;have hw2:IntKind.i64.wrap (((i:Nat):Int)+1)=((i+1:Nat):Int):=by rw[bN (by omega) (by omega)];omega
  refine gY (c:=decide (((i:Nat):Int)<((s.length:Nat):Int))) (aR (by omega)) ?_;conv=>whnf
  refine⟨fK _,d,by rw[aD];exact hd,?_⟩;conv=>whnf
  refine cP hsd ?_;have nxt:bQ d=true->i+1 - k+((s.drop (i+1)).takeWhile bQ).length=W.length:=fun h=>by
   rw[bZ,aA h,aM] at i3;omega
  cases d1:dA d with
  |true=>
   (conv=>whnf);exact⟨s.length - (i+1),(by omega),i+1,⟨by omega,hlt,nxt (mM d1)⟩,rfl,⟨rfl,rfl,rfl,aJ (GV.i .i64) hw2,trivial⟩,rfl⟩
  |false=>
   (conv=>whnf);refine⟨fK _,d,by rw[aD];exact hd,?_⟩;(conv=>whnf);refine cP hdd ?_;cases d2:bB d with
   |true=>
    (conv=>whnf);exact⟨s.length - (i+1),(by omega),i+1,⟨by omega,hlt,nxt (mY d2)⟩,rfl,⟨rfl,rfl,rfl,aJ (GV.i .i64) hw2,trivial⟩,rfl⟩
   |false=>
    (conv=>whnf);refine⟨fK _,d,by rw[aD];exact hd,?_⟩;(conv=>whnf);by_cases d3:d.toNat=95
    ·rw[show(((d.toNat:Nat):Int)==95)=true by rw[d3];rfl];(conv=>whnf);exact⟨s.length - (i+1),(by omega),i+1,⟨by omega,hlt,nxt (by unfold bQ;rw[d3];simp)⟩,rfl,⟨rfl,rfl,rfl,aJ (GV.i .i64) hw2,trivial⟩,rfl⟩
    ·rw[show(((d.toNat:Nat):Int)==95)=false from beq_eq_false_iff_ne.2 (by omega)];(conv=>whnf);have hin:bQ d=false:=by unfold bQ;rw[d1,d2];simpa using d3
     rw[bZ,aB (by rw[hin];decide)] at i3;replace i3:i - k+0=W.length:=i3;refine⟨fK _,?_⟩;(conv=>whnf);refine⟨fK _,?_⟩;(conv=>whnf);refine⟨⟨by rw[aD,aD];omega,by rw[aD];omega⟩,W,by rw[aD,aD];exact hcut i (by omega),?_⟩;(conv=>whnf);refine cP hnm ?_;(conv=>whnf);refine st ?_;(conv=>whnf);exact fin 0 (hw:=iQ ⟨.refl _,cJ (aJ (GV.i .i64) (hend i (by omega) ⟨by omega,by omega⟩)),trivial⟩)
set_option maxHeartbeats 4000000
theorem PJ [MaxL] (s:By) (k:Nat) (hs:s.length<=20000) (c:UInt8) (hc:s[k]?=some c) (h1:dA c=false) (h2:bB c=true) (W:By) (hW:(s.drop k).takeWhile bB=W) (P:Nat×Bool) (hP:B4 W (0,false)=P):
  SC Tryz.prog 100 [.s s,.i .i64 (k:Nat)] [] (.val (LZ (if P.2=true∨((s.drop (k+W.length)).head?.any fun c=>dA c||c==95)=true∨(c=48/\1<W.length) then .bad else .nu P.1) W.length)) []:=by
 have hk:k<s.length:=(List.getElem?_eq_some_iff.1 hc).1;have hsm:=qU c;have hdg:=tW c;rw[h1] at hsm;rw[h2] at hdg;have hw1:IntKind.i64.wrap (((k:Nat):Int)+1)=((k+1:Nat):Int):=by rw[bN (by omega) (by omega)];omega
 have hend:∀i:Nat,i - k+0=W.length->k<=i/\i<=s.length->IntKind.i64.wrap (((i:Nat):Int) - ((k:Nat):Int))=((W.length:Nat):Int):=fun i h h'=>by rw[bN (by omega) (by omega)];omega
 refine bI Tryz.func100 rfl ?_;conv=>whnf
 refine⟨fK _,c,by rw[aD];exact hc,?_⟩;conv=>whnf
 refine cP hsm ?_;conv=>whnf
 refine⟨fK _,c,by rw[aD];exact hc,?_⟩;conv=>whnf
 refine cP hdg ?_;conv=>whnf
 refine bA (fun q:Nat×Nat×Bool=>k<=q.1/\q.1<=s.length/\q.2.1<=1000000001/\B4 ((s.drop q.1).takeWhile bB) (q.2.1,q.2.2)=P/\(q.1 - k)+((s.drop q.1).takeWhile bB).length=W.length) (fun q=>[(0,.s s),(1,.i .i64 (k:Nat)),(4,.ptr 0 0),(6,.i .i64 (q.1:Nat)),(7,.i .i64 (q.2.1:Nat)),(8,.b q.2.2)]) (fun _=>⟨[wZ],0,[]⟩) (fun q=>s.length - q.1) (k,0,false)
  ⟨rL _,(by show k<=s.length;omega),zL _,(by rw[hW];exact hP),(by rw[hW];show k - k+_=_;omega)⟩ ⟨rfl,rfl,rfl,rfl,rfl,rfl,trivial⟩ rfl (fun q φ0 hi=>?_)
 obtain⟨i,n,big⟩:=q;obtain⟨i1,i2,i3,i4,i5⟩:=hi;dsimp only at i1 i2 i3 i4 i5;conv=>whnf
 by_cases hlt:i<s.length;rotate_left
 ·rw[dT (by omega)] at i4 i5;replace i4:(n,big)=P:=i4;replace i5:i - k+0=W.length:=i5;subst i4;have hrun:((s.drop (k+W.length)).head?.any fun c=>dA c||c==95)=false:=by rw[dT (by omega)];rfl
  refine gN (c:=decide (((i:Nat):Int)<((s.length:Nat):Int))) (aQ (by omega)) ?_;conv=>whnf
  refine gN (c:=decide (((i:Nat):Int)<((s.length:Nat):Int))) (aQ (by omega)) ?_;conv=>whnf
  cases big with
  |true=>
   rw[aA (.inl rfl)];(conv=>whnf);refine st ?_;(conv=>whnf);exact fin 0 (hw:=iQ ⟨.refl _,cJ (aJ (GV.i .i64) (hend i (by omega) ⟨by omega,by omega⟩)),trivial⟩)
  |false=>
   (conv=>whnf);refine⟨fK _,c,by rw[aD];exact hc,?_⟩;(conv=>whnf);by_cases c48:c.toNat=48;rotate_left
   ·rw[show(((c.toNat:Nat):Int)==48)=false from beq_eq_false_iff_ne.2 (by omega)];rw[aB (fun h=>h.elim (fun h=>by cases h) (fun h=>h.elim (fun h=>by rw[hrun] at h;cases h) (fun h=>c48 (by rw[h.1];rfl))))];(conv=>whnf);refine st ?_;(conv=>whnf);exact fin 0 (hw:=iQ ⟨.refl _,cJ (aJ (GV.i .i64) (hend i (by omega) ⟨by omega,by omega⟩)),trivial⟩)
   ·rw[show(((c.toNat:Nat):Int)==48)=true by rw[c48];rfl];(conv=>whnf);have c48':c=48:=by apply UInt8.toNat_inj.1;exact c48
    by_cases hone:1<W.length
    ·rw[aA (.inr (.inr ⟨c48',hone⟩))];refine gY (c:=decide (((i:Nat):Int)>IntKind.i64.wrap (((k:Nat):Int)+1))) (by rw[hw1];exact aR (by omega)) ?_;(conv=>whnf);refine st ?_;(conv=>whnf);exact fin 0 (hw:=iQ ⟨.refl _,cJ (aJ (GV.i .i64) (hend i (by omega) ⟨by omega,by omega⟩)),trivial⟩)
    ·rw[aB (fun h=>h.elim (fun h=>by cases h) (fun h=>h.elim (fun h=>by rw[hrun] at h;cases h) (fun h=>hone h.2)))];refine gN (c:=decide (((i:Nat):Int)>IntKind.i64.wrap (((k:Nat):Int)+1))) (by rw[hw1];exact aQ (by omega)) ?_;(conv=>whnf);refine st ?_;(conv=>whnf);exact fin 0 (hw:=iQ ⟨.refl _,cJ (aJ (GV.i .i64) (hend i (by omega) ⟨by omega,by omega⟩)),trivial⟩)
 obtain⟨d,hd⟩:∃d,s[i]?=some d:=⟨s[i],gL hlt⟩;have hdi:s.drop i=d::s.drop (i+1):=by rw[<-cM hlt,(List.getElem?_eq_some_iff.1 hd).2]
 rw[hdi] at i4 i5;have hsd:=qU d;have hdd:=tW d;have hw2:IntKind.i64.wrap (((i:Nat):Int)+1)=((i+1:Nat):Int):=by rw[bN (by omega) (by omega)];omega
 refine gY (c:=decide (((i:Nat):Int)<((s.length:Nat):Int))) (aR (by omega)) ?_;conv=>whnf
 refine⟨fK _,d,by rw[aD];exact hd,?_⟩;conv=>whnf
 refine cP hdd ?_;cases d2:bB d with
 |false=>
  conv=>whnf
  rw[bZ,aB (by rw[d2];decide)] at i4 i5;replace i4:(n,big)=P:=i4;replace i5:i - k+0=W.length:=i5;subst i4;have hrunE:((s.drop (k+W.length)).head?.any fun c=>dA c||c==95)=(dA d||d==95):=by rw[show k+W.length=i by omega,hdi];rfl
  refine gY (c:=decide (((i:Nat):Int)<((s.length:Nat):Int))) (aR (by omega)) ?_;conv=>whnf
  refine⟨fK _,d,by rw[aD];exact hd,?_⟩;conv=>whnf
  refine cP hsd ?_;cases d1:dA d with
  |true=>
   rw[d1] at hrunE;have hrun:((s.drop (k+W.length)).head?.any fun c=>dA c||c==95)=true:=hrunE;(conv=>whnf);cases big with
   |true=>
    rw[aA (.inl rfl)];(conv=>whnf);refine st ?_;(conv=>whnf);exact fin 0 (hw:=iQ ⟨.refl _,cJ (aJ (GV.i .i64) (hend i (by omega) ⟨by omega,by omega⟩)),trivial⟩)
   |false=>
    rw[aA (.inr (.inl hrun))];(conv=>whnf);refine st ?_;(conv=>whnf);exact fin 0 (hw:=iQ ⟨.refl _,cJ (aJ (GV.i .i64) (hend i (by omega) ⟨by omega,by omega⟩)),trivial⟩)
  |false=>
   rw[d1] at hrunE;(conv=>whnf);refine⟨fK _,d,by rw[aD];exact hd,?_⟩;(conv=>whnf);by_cases d3:d.toNat=95
   ·have hrun:((s.drop (k+W.length)).head?.any fun c=>dA c||c==95)=true:=by rw[hrunE,show d=95 from UInt8.toNat_inj.1 d3];rfl
    rw[show(((d.toNat:Nat):Int)==95)=true by rw[d3];rfl];(conv=>whnf);cases big with
    |true=>
     rw[aA (.inl rfl)];(conv=>whnf);refine st ?_;(conv=>whnf);exact fin 0 (hw:=iQ ⟨.refl _,cJ (aJ (GV.i .i64) (hend i (by omega) ⟨by omega,by omega⟩)),trivial⟩)
    |false=>
     rw[aA (.inr (.inl hrun))];(conv=>whnf);refine st ?_;(conv=>whnf);exact fin 0 (hw:=iQ ⟨.refl _,cJ (aJ (GV.i .i64) (hend i (by omega) ⟨by omega,by omega⟩)),trivial⟩)
   ·have hrun:((s.drop (k+W.length)).head?.any fun c=>dA c||c==95)=false:=by rw[hrunE,Bool.false_or,cY];rintro rfl;exact d3 rfl
    rw[show(((d.toNat:Nat):Int)==95)=false from beq_eq_false_iff_ne.2 (by omega)];(conv=>whnf);cases big with
    |true=>
     rw[aA (.inl rfl)];(conv=>whnf);refine st ?_;(conv=>whnf);exact fin 0 (hw:=iQ ⟨.refl _,cJ (aJ (GV.i .i64) (hend i (by omega) ⟨by omega,by omega⟩)),trivial⟩)
    |false=>
     (conv=>whnf);refine⟨fK _,c,by rw[aD];exact hc,?_⟩;(conv=>whnf);by_cases c48:c.toNat=48;rotate_left
     ·rw[show(((c.toNat:Nat):Int)==48)=false from beq_eq_false_iff_ne.2 (by omega)];rw[aB (fun h=>h.elim (fun h=>by cases h) (fun h=>h.elim (fun h=>by rw[hrun] at h;cases h) (fun h=>c48 (by rw[h.1];rfl))))];(conv=>whnf);refine st ?_;(conv=>whnf);exact fin 0 (hw:=iQ ⟨.refl _,cJ (aJ (GV.i .i64) (hend i (by omega) ⟨by omega,by omega⟩)),trivial⟩)
     ·rw[show(((c.toNat:Nat):Int)==48)=true by rw[c48];rfl];(conv=>whnf);have c48':c=48:=by apply UInt8.toNat_inj.1;exact c48
      by_cases hone:1<W.length
      ·rw[aA (.inr (.inr ⟨c48',hone⟩))];refine gY (c:=decide (((i:Nat):Int)>IntKind.i64.wrap (((k:Nat):Int)+1))) (by rw[hw1];exact aR (by omega)) ?_;(conv=>whnf);refine st ?_;(conv=>whnf);exact fin 0 (hw:=iQ ⟨.refl _,cJ (aJ (GV.i .i64) (hend i (by omega) ⟨by omega,by omega⟩)),trivial⟩)
      ·rw[aB (fun h=>h.elim (fun h=>by cases h) (fun h=>h.elim (fun h=>by rw[hrun] at h;cases h) (fun h=>hone h.2)))];refine gN (c:=decide (((i:Nat):Int)>IntKind.i64.wrap (((k:Nat):Int)+1))) (by rw[hw1];exact aQ (by omega)) ?_;(conv=>whnf);refine st ?_;(conv=>whnf);exact fin 0 (hw:=iQ ⟨.refl _,cJ (aJ (GV.i .i64) (hend i (by omega) ⟨by omega,by omega⟩)),trivial⟩)
 |true=>
  conv=>whnf
  rw[bZ,aA d2] at i4 i5;have dd:48<=d.toNat/\d.toNat<=57:=by unfold bB at d2;simpa using d2
  have hX:IntKind.i64.wrap (IntKind.i64.wrap (((n:Nat):Int)*10)+IntKind.i64.wrap (IntKind.u8.wrap (((d.toNat:Nat):Int) - 48)))=((n*10+(d.toNat - 48):Nat):Int):=by
   rw[Int.mul_comm,B3 n d.toNat (by omega) dd.1 dd.2,Nat.mul_comm]
  have hM:(if 1000000001<IntKind.i64.wrap (IntKind.i64.wrap (((n:Nat):Int)*10)+IntKind.i64.wrap (IntKind.u8.wrap (((d.toNat:Nat):Int) - 48))) then(1000000001:Int) else IntKind.i64.wrap (IntKind.i64.wrap (((n:Nat):Int)*10)+IntKind.i64.wrap (IntKind.u8.wrap (((d.toNat:Nat):Int) - 48))))=((min (n*10+(d.toNat - 48)) 1000000001:Nat):Int):=by
   rw[hX];split<;>omega
  rw[aM] at i5;refine⟨fK _,d,by rw[aD];exact hd,?_⟩;conv=>whnf
  cases big with
  |true=>
   (conv=>whnf);exact⟨s.length - (i+1),(by show _<s.length - i;omega),(i+1,min (n*10+(d.toNat - 48)) 1000000001,true),⟨(by show k<=i+1;omega),hlt,(Nat.min_le_right _ _),i4,(by dsimp only;omega)⟩,rfl,⟨rfl,rfl,rfl,aJ (GV.i .i64) hw2,aJ (GV.i .i64) hM,rfl,trivial⟩,rfl⟩
  |false=>
   (conv=>whnf);exact⟨s.length - (i+1),(by show _<s.length - i;omega),(i+1,min (n*10+(d.toNat - 48)) 1000000001,decide (1000000000<n*10+(d.toNat - 48))),⟨(by show k<=i+1;omega),hlt,(Nat.min_le_right _ _),i4,(by dsimp only;omega)⟩,rfl,⟨rfl,rfl,rfl,aJ (GV.i .i64) hw2,aJ (GV.i .i64) hM,aJ GV.b (by
    show decide (IntKind.i64.wrap (IntKind.i64.wrap (((n:Nat):Int)*10)+IntKind.i64.wrap (IntKind.u8.wrap (((d.toNat:Nat):Int) - 48)))>1000000000)=_;rw[hX,decide_eq_decide];omega),trivial⟩,rfl⟩
theorem X4 (p:UInt8->Bool) (l:By):l.drop (l.takeWhile p).length=l.dropWhile p:=by
 have h:=List.takeWhile_append_dropWhile (p:=p) (l:=l)
 calc l.drop (l.takeWhile p).length=(l.takeWhile p++l.dropWhile p).drop (l.takeWhile p).length:=by rw[h]
  _=_:=List.drop_left
theorem IY {l:By} (h:gI l=true):(l.take 2).length=2/\l.take 2≠[]:=by
 unfold gI at h;simp only[List.contains_cons,List.contains_nil,Bool.or_false,dJ,bU] at h;rcases h with h|h|h<;>rw[h]<;>exact⟨rfl,by decide⟩
theorem wR1 {c:UInt8} {t:By} (h1:dA c=true):kX (c::t)=(if dE (c::t.takeWhile bQ)=true then .nm (c::t.takeWhile bQ) else .bad,(c::t.takeWhile bQ).length):=aA h1
theorem wR2 {c:UInt8} {t:By} (h1:¬dA c=true) (h2:bB c=true):kX (c::t)=(if(B4 (c::t.takeWhile bB) (0,false)).2=true∨((t.dropWhile bB).head?.any fun c=>dA c||c==95)=true∨(c=48/\1<(c::t.takeWhile bB).length) then .bad else .nu (B4 (c::t.takeWhile bB) (0,false)).1,(c::t.takeWhile bB).length):=(aB h1).trans (aA h2)
theorem wR3 {c:UInt8} {t:By} (h1:¬dA c=true) (h2:¬bB c=true) (h3:c=34):kX (c::t)=(if t[bP t]?=some 34 then match vE ((c::t).take (2+bP t)) with|some v=>(.tx v.s,2+bP t)|none=>(.bad,1) else(.bad,1)):=(aB h1).trans ((aB h2).trans (aA h3))
theorem wR4 {c:UInt8} {t:By} (h1:¬dA c=true) (h2:¬bB c=true) (h3:¬c=34):kX (c::t)=if gI (c::t)=true then(.sg ((c::t).take 2),2) else if jI c=true then(.sg [c],1) else(.bad,1):=(aB h1).trans ((aB h2).trans (aB h3))
theorem a0e [MaxL] (s:By) (k:Nat) (hs:s.length<=20000) (hk:k<s.length):SC Tryz.prog 100 [.s s,.i .i64 (k:Nat)] [] (.val (LZ (kX (s.drop k)).1 (kX (s.drop k)).2)) []:=by
 obtain⟨c,hc⟩:∃c,s[k]?=some c:=⟨s[k],gL hk⟩;have hT:s.drop k=c::s.drop (k+1):=by rw[<-cM hk,(List.getElem?_eq_some_iff.1 hc).2]
 by_cases h1:dA c=true
 ·have h:=LJ s k hs c hc h1;rw[hT,bZ,aA (mM h1)] at h;rw[hT,wR1 h1];exact h
 by_cases h2:bB c=true
 ·have h:=PJ s k hs c hc (by simpa using h1) h2 _ rfl _ rfl;have hd:s.drop (k+((s.drop k).takeWhile bB).length)=(s.drop (k+1)).dropWhile bB:=by
   rw[<-List.drop_drop,X4,hT,List.dropWhile_cons,aA h2]
  rw[hd] at h;rw[hT,bZ,aA h2] at h;rw[hT,wR2 h1 h2];exact h
 by_cases h3:c=34
 ·have e:=wR3 (t:=s.drop (k+1)) h1 h2 h3;subst h3;have h:=PH s k hs _ hT;rw[hT,e];unfold sC at h;by_cases hq:(s.drop (k+1))[bP (s.drop (k+1))]?=some 34
  ·rw[aA hq] at h⊢;cases hl:vE ((34::s.drop (k+1)).take (2+bP (s.drop (k+1)))) with
   |none=>rw[hl] at h;exact h
   |some v=>rw[hl] at h;exact h
  ·rw[aB hq] at h⊢;exact h
 have h:=PI s k hs c hc (by simpa using h1) (by simpa using h2) h3;rw[hT] at h⊢;rw[wR4 h1 h2 h3];obtain⟨G,hG⟩:∃G,yN (c::s.drop (k+1))=G:=⟨_,rfl⟩;rw[hG] at h;have hS:yN (c::s.drop (k+1))=if gI (c::s.drop (k+1))=true then(c::s.drop (k+1)).take 2 else if jI c=true then[c] else[]:=rfl;by_cases hp:gI (c::s.drop (k+1))=true
 ·obtain⟨p1,p2⟩:=IY hp;rw[aA hp] at hS⊢;rw[hS] at hG;subst hG;rw[aB p2,p1] at h;exact h
 rw[aB hp] at hS⊢;by_cases hg:jI c=true
 ·rw[aA hg] at hS⊢;rw[hS] at hG;subst hG;exact h
 ·rw[aB hg] at hS⊢;rw[hS] at hG;subst hG;exact h
