/-
  A part of the proof of SchemaChosen.
-/
import Derived.Test.YtcfgfkkhpdlhpaaGreatDoorR46
set_option linter.all false
set_option maxRecDepth 100000
namespace Go.Proofs.YtcfgfkkhpdlhpaaGreatDoor
open Go.RowKit
def B3 (s:Sch) (i:Nat) (t:Sy):Int:=J0 s (dE s++(gB s++(sV s).take i)) t
def oV (s:Sch):Nat×Int:=if s.st.length>60 then(0,4) else(eR (B3 s) 0 s.st).getD (0,0)
theorem W1 [MaxL] (l:List Mb):(lZ l).all (fun x=>x.cells.length==4)=true:=by
 rw[aS];intro x hx;obtain⟨b,_,rfl⟩:=List.mem_map.1 hx;rfl
set_option maxHeartbeats 8000000 in
theorem a0c [MaxL] (s:Sch) (hz:mK s) (hg:∀r∈s.rc,L4 kO r):SC Tryz.prog 53 [.ptr 0 0] (k8 s (dE s++gB s)) (sB qM (oV s).1 (oV s).2) (vK (oV s).2 (k8 s (dE s++(gB s++sV s)))):=by
 have hz':=hz;obtain⟨⟨ha,hl,ht⟩,hr,hst⟩:=hz;unfold bB at ht;have hlen:(z7 s.st).length=s.st.length:=i8 _ _;generalize hX:oV s=X;obtain⟨xi,xe⟩:=X;unfold oV at hX;have hh:(vK xe (k8 s (dE s++(gB s++sV s)))).all GObj.notHeld=true:=by unfold vK;split<;>rfl
 have hs:(k8 s (dE s++gB s)).length<=(vK xe (k8 s (dE s++(gB s++sV s)))).length:=by unfold vK;split<;>exact rL _
 refine SC.of_gwpD 2 pU mixed Tryz.func53 rfl (bL rfl) hs hh ?_;conv=>whnf
 refine aF (fun h=>?_) (fun h=>?_)<;>conv=>whnf
 ·have h9:s.st.length>60:=by have:=aB h;rw[hlen] at this;omega
  rw[aG h9] at hX;refine cS [] (uH qM 0 4) ?_;conv=>whnf
  exact mX hX (by decide)
 have h9:¬s.st.length>60:=by have:=aC h;rw[hlen] at this;omega
 rw[aD h9] at hX;refine dB 2 s.st.length (fun i _=>∀j z,j<i->s.st[j]?=some z->B3 s j z=0) (fun i _=>[(0,.ptr 0 0),(19,.sl .none (z7 s.st)),(20,.i .i64 (z7 s.st).length),(21,.i .i64 (i:Nat))]) (fun i (_:Unit)=>k8 s (dE s++(gB s++(sV s).take i))) [] () (fun j z h=>absurd h (dG j)) (fun i _ φ0 hi hok=>?_) (hσ:=by rw[List.take_zero,gC]);conv=>whnf
 refine aF (fun h=>?_) (fun h=>?_)<;>conv=>whnf
 rotate_left
 ·have hie:i=s.st.length:=by have:=aC h;rw[hlen] at this;omega
  rw[nN (Nat.le_of_eq hie.symm) hok] at hX;cases hX;have hm:(sV s).take i=sV s:=dI (by rw[hie];simp[sV]);show OwesD 2 _ _ (k8 s (dE s++(gB s++sV s))) _ _;exact .val (dH 2 (ho:=aQ (fun m=>k8 s (dE s++(gB s++m))) hm))
 have hlt:i<s.st.length:=by have:=aB h;rw[hlen] at this;omega
 obtain⟨y,hy⟩:∃y,s.st[i]?=some y:=⟨s.st[i],gL hlt⟩;obtain⟨y1,y2,y3⟩:=hst y (aL hy);unfold bB at y1;have bad0:∀{e:Int},B3 s i y=e->e≠0->((i,e):Nat×Int)=(xi,xe):=fun he h0=>by
  subst he;rw[nO hy h0 hok] at hX;exact hX
 have bad:∀{w:Bool} {e b:Int},B3 s i y=dW w e b->w=true->e≠0->((i,e):Nat×Int)=(xi,xe):=fun he h h0=>bad0 (he.trans (aZ h)) h0;generalize hB:(ST (kR (oX s y) y.ms) (dW (!uR y.order 1 5) 1 (ST (if y.order=5 then xQ s y else dW (!y.keys.isEmpty||y.dups !=0) 1 0)
   (dW (!uR y.mode 1 3) 1 (dW (y.mode==3&&y.order !=5) 10 0)))))=B
 have hE:B3 s i y=kF (dE s++(gB s++(sV s).take i)) y.name (dW (y.owner !=[]&&!((gB s).contains y.owner)) 5 (dW (!uR y.ms.length 1 4) 11 B)):=by rw[<-hB];rfl
 rw[JK] at hE;have hm:k8 s (dE s++(gB s++(sV s).take i)++[y.name])=k8 s (dE s++(gB s++(sV s).take (i+1))):=by rw[bF,bF];exact aQ (fun m=>k8 s (dE s++(gB s++m))) (yM (fun t:Sy=>t.name) hy).symm
 generalize dE s++(gB s++(sV s).take i)=met at*;refine ix (cM hy) ⟨rfl,?_⟩;conv=>whnf
 refine st ?_;conv=>whnf
 refine st ?_;conv=>whnf
 by_cases hn:kF met y.name 0=0;rotate_left
 ·rw[aD hn] at hE;refine cG [0,1] (F6 (kd:=qM) (i:=i) hn) ?_;conv=>whnf
  exact mX (bad0 hE hn) hn
 rw[aG hn] at hE;refine cG [0,1] (F5 (kd:=qM) (i:=i) hn) ?_;conv=>whnf
 have hro:=qO s hl y.owner;by_cases how:(y.owner !=[]&&!((gB s).contains y.owner))=true
 ·obtain⟨ho1,ho2⟩:=(aH ..).mp how;have hno:lW (fun r:Rc=>r.name==y.owner) s.rc<0:=by
   rcases j5 (fun r:Rc=>r.name==y.owner) s.rc with⟨h,_⟩|⟨_,_,_,_,_,h⟩
   ·exact h
   ·rw[show(gB s).contains y.owner=s.rc.any fun r=>r.name==y.owner from eK _ _ _,h] at ho2;cases ho2
  refine GDraw.pan 14 _ rfl (by kernel_rfl) ?_;conv=>whnf
  refine gY ho1 ?_;conv=>whnf
  refine cP hro ?_;conv=>whnf
  refine gV gF 2 5 (w:=decide (lW (fun r:Rc=>r.name==y.owner) s.rc<0)) (fun h9=>?_) (fun h9=>absurd hno (aC h9));conv=>whnf
  exact mX (bad hE how (by decide)) (by decide)
 have how':(y.owner !=[]&&!((gB s).contains y.owner))=false:=by simpa using how
 replace hE:=hE.trans (bK how');have hown:y.owner≠[]->(gB s).contains y.owner=true:=fun h=>by
  rw[show(y.owner !=[])=true by simpa using h] at how';simpa using how'
 refine b6 (by kernel_rfl) ?_;conv=>whnf
 refine aF (fun h=>?_) (fun h=>?_)<;>conv=>whnf
 focus
  refine(qR (hown (by simpa using h))).elim fun io hio=>?_;rw[hio.1] at hro;refine cP hro ?_;conv=>whnf
  refine gV gF 2 5 (w:=false) (fun h9=>nomatch h9) (fun _=>?_)
 rotate_left;focus
  refine gV gF 2 5 (w:=false) (fun h9=>nomatch h9) (fun _=>?_)
 all_goals
  conv=>whnf
  refine cP (lG (lZ y.ms).length 1 4) ?_;conv=>whnf
  refine gV gF 2 11 (fun h=>?_) (fun h=>?_)<;>rw[iS] at h<;>conv=>whnf
  ·exact mX (bad hE h (by decide)) (by decide)
  replace hE:=hE.trans (bK h);rw[<-hB] at hE;have badM:∀{e:Int},kR (oX s y) y.ms=e->e≠0->((i,e):Nat×Int)=(xi,xe):=fun he h0=>bad0 (hE.trans (by rw[he,oN h0])) h0;refine dB 4 y.ms.length (fun k _=>∀j m,j<k->y.ms[j]?=some m->oX s y j m=0) (fun k _=>[(0,.ptr 0 0),(3,.ptr 3 0),(4,.fn (.func 122) [] [.ptr 2 0]),(19,.sl .none (z7 s.st)),(20,.i .i64 (z7 s.st).length),(21,.i .i64 (i:Nat)),(55,.sl .none (lZ y.ms)),(56,.i .i64 (lZ y.ms).length),(57,.i .i64 (k:Nat))])
   (fun k (_:Unit)=>k8 s (met++[y.name])++[.box 3 [.i .i64 (i:Nat)],.box 39 (S3 y)]) [] () (fun j n h=>absurd h (dG j)) (fun k _ φ1 hk hok2=>?_)
  conv=>whnf
  refine aF (fun h=>?_) (fun h=>?_)<;>conv=>whnf
  ·have hlt2:k<y.ms.length:=by have:=aB h;rw[iS] at this;omega
   refine(j0 hlt2).elim fun m hm2=>?_;have badJ:∀{e:Int},oX s y k m=e->e≠0->((i,e):Nat×Int)=(xi,xe):=fun he h0=>badM ((mU hm2 (by rw[he];exact h0) hok2).trans he) h0;have hrr:=qO s hl m.of;refine ix (cM hm2) ⟨rfl,?_⟩;(conv=>whnf);refine st ?_;(conv=>whnf);refine(Bool.eq_false_or_eq_true ((gB s).contains m.of)).elim (fun hc=>?_) (fun hc=>?_);rotate_left
   ·have hno:lW (fun r:Rc=>r.name==m.of) s.rc<0:=by
     rcases j5 (fun r:Rc=>r.name==m.of) s.rc with⟨h,_⟩|⟨_,_,_,_,_,h⟩
     ·exact h
     ·rw[show(gB s).contains m.of=s.rc.any fun r=>r.name==m.of from eK _ _ _,h] at hc;cases hc
    refine GDraw.pan 9 _ rfl (by kernel_rfl) ?_;(conv=>whnf);refine cP hrr ?_;(conv=>whnf);refine gV gF 2 5 (w:=decide (lW (fun r:Rc=>r.name==m.of) s.rc<0)) (fun h9=>?_) (fun h9=>absurd hno (aC h9));(conv=>whnf);exact mX (badJ (aZ (by rw[hc];rfl)) (by decide)) (by decide)
   refine(qR hc).elim fun ir hir=>?_;rw[hir.1] at hrr;have hJ:oX s y k m=dW (((y.ms.take k).map (·.of)).contains m.of) 6 (dW (!uR m.keep 1 3) 1 (S8 s y m)):=bK (by rw[hc];rfl);rw[eK] at hJ;refine b6 (by kernel_rfl) ?_;(conv=>whnf);refine cP hrr ?_;(conv=>whnf);refine gV gF 2 5 (w:=false) (fun h9=>nomatch h9) (fun _=>?_);(conv=>whnf);have hmb:=EO ⟨[],[],y.ms.take k,0,[],0,0⟩ (by unfold bB;show(y.ms.take k).length<_;rw[bQ];omega) m.of;have hmo:decide (lW (fun z:Mb=>z.of==m.of) (y.ms.take k)>=0)=(y.ms.take k).any fun z=>z.of==m.of:=pP _ _;refine(Bool.eq_false_or_eq_true ((y.ms.take k).any fun z=>z.of==m.of)).elim (fun hd=>?_) (fun hd=>?_)
   ·refine GDraw.pan 10 _ rfl (by kernel_rfl) ?_;(conv=>whnf);refine Y0 (zs:=lZ (y.ms.take k)) (W1 _) (by rw[iS];omega) ?_ (List.map_take ..).symm;(conv=>whnf);refine cP hmb ?_ (wC (Wks.agg (wC (cY _) (wC (cY _) (wC (cY _) (wC (cY _) (wC (bI _ _) (wR _))))))) (wR _));(conv=>whnf);refine gV gF 2 6 (w:=decide (lW (fun z:Mb=>z.of==m.of) (y.ms.take k)>=0)) (fun h9=>?_) (fun h9=>by rw[hmo,hd] at h9;cases h9);(conv=>whnf);exact mX (badJ (hJ.trans (aZ hd)) (by decide)) (by decide)
   refine b6 (by kernel_rfl) ?_;(conv=>whnf);refine Y0 (zs:=lZ (y.ms.take k)) (W1 _) (by rw[iS];omega) ?_ (List.map_take ..).symm;(conv=>whnf);refine cP hmb ?_ (wC (Wks.agg (wC (cY _) (wC (cY _) (wC (cY _) (wC (cY _) (wC (bI _ _) (wR _))))))) (wR _));(conv=>whnf);refine gV gF 2 6 (w:=decide (lW (fun z:Mb=>z.of==m.of) (y.ms.take k)>=0)) (fun h9=>by rw[hmo,hd] at h9;cases h9) (fun _=>?_);(conv=>whnf);replace hJ:=hJ.trans (bK hd);refine cP (lG m.keep 1 3) ?_;(conv=>whnf);refine gV gF 2 1 (fun h=>?_) (fun h=>?_)<;>conv=>whnf
   ·exact mX (badJ (hJ.trans (aZ h)) (by decide)) (by decide)
   replace hJ:=hJ.trans (bK h);have hsel:=O5 s hz' (met++[y.name]) i y m (y3 m (aL hm2)) hc hown hg;by_cases h0:S8 s y m=0
   ·rw[h0] at hsel;refine cS [0,1,2] hsel ?_;(conv=>whnf);exact nx () hlt2 ⟨hlt2,kC hm2 (hJ.trans h0) hok2⟩
   ·rw[p9 h0] at hsel;refine cS [0,1,2] hsel ?_;(conv=>whnf);exact mX (badJ hJ h0) h0
  have hM0:∀j m,y.ms[j]?=some m->oX s y j m=0:=fun j z hz=>hok2 j z (by have:=aC h;rw[iS] at this;have:=(List.getElem?_eq_some_iff.1 hz).1;omega) hz;have hmem:∀m∈y.ms,(gB s).contains m.of=true:=fun m hm9=>by
   obtain⟨j,hj⟩:=List.getElem?_of_mem hm9;simpa using(dT (hM0 j m hj) (by decide)).1
  replace hE:=hE.trans (oM (mT hM0));refine cP (lG y.order 1 5) ?_;conv=>whnf
  refine gV gF 2 1 (fun h=>?_) (fun h=>?_)<;>conv=>whnf
  ·exact mX (bad hE h (by decide)) (by decide)
  replace hE:=hE.trans (bK h);refine aF (fun h=>?_) (fun h=>?_)<;>conv=>whnf
  focus
   rw[aG (show y.order=5 by simpa using h)] at hE;have hso:=UU s hz' (met++[y.name]) i y (by unfold bB;omega) y2 hmem hg;by_cases h0:xQ s y=0;rotate_left
   ·rw[p9 h0] at hso;rw[oN h0] at hE;refine cS [0,1,2] hso ?_;(conv=>whnf);exact mX (bad0 hE h0) h0
   rw[h0] at hso;replace hE:=hE.trans (oM h0);refine cS [0,1,2] hso ?_
  rotate_left;focus
   rw[aD (show¬y.order=5 by simpa using h)] at hE;have badO:(!y.keys.isEmpty||y.dups !=0)=true->((i,(1:Int)):Nat×Int)=(xi,xe):=fun h=>bad0 (hE.trans (by rw[aZ h,oN (by decide)])) (by decide);refine aF (fun h3=>?_) (fun h3=>?_)<;>conv=>whnf
   ·refine gV gF 2 1 (w:=true) (fun _=>?_) (fun h9=>nomatch h9);(conv=>whnf);exact mX (badO (by have:((tH y.keys).length:Int)>0:=aB h3;rw[kN] at this;cases hk:y.keys with|nil=>rw[hk] at this;exact absurd this (by decide)|cons a l=>rfl)) (by decide)
   have hke:y.keys.isEmpty=true:=by have:¬((tH y.keys).length:Int)>0:=aC h3;rw[kN] at this;cases hk:y.keys with|nil=>rfl|cons a l=>rw[hk] at this;simp at this
   refine gV gF 2 1 (fun h4=>?_) (fun h4=>?_)
   ·(conv=>whnf);exact mX (badO (by rw[show(y.dups !=0)=true from h4,Bool.or_true])) (by decide)
   replace hE:=hE.trans (oM (bK (by rw[hke];exact h4)))
  all_goals
   (conv=>whnf);refine cP (lG y.mode 1 3) ?_;(conv=>whnf);refine gV gF 2 1 (fun h=>?_) (fun h=>?_)<;>conv=>whnf
   ·exact mX (bad hE h (by decide)) (by decide)
   replace hE:=hE.trans (bK h);refine aF (fun h5=>?_) (fun h5=>?_)<;>conv=>whnf
   ·refine gV gF 2 10 (fun h6=>?_) (fun h6=>?_)<;>conv=>whnf
    ·exact mX (bad hE (by rw[show(y.mode==3)=true from h5];exact h6) (by decide)) (by decide)
    exact nx () hlt ⟨hlt,kC hy (hE.trans (bK (by rw[show(y.mode==3)=true from h5];exact h6))) hok⟩ hm
   refine gV gF 2 10 (w:=false) (fun h9=>nomatch h9) (fun _=>?_);(conv=>whnf);exact nx () hlt ⟨hlt,kC hy (hE.trans (bK (by rw[show(y.mode==3)=false from h5];rfl))) hok⟩ hm
def qN (s:Sch):By×Nat×Int:=Y5 kO rF (fun l c=>DD l [] c) s
theorem xH {α:Type} {f:Nat->α->Int} {n:Nat} {l:List α} {p:Nat×Int} (h:eR f n l=some p):p.2≠0:=by
 induction l generalizing n with
 |nil=>cases h
 |cons x l ih=>
  unfold eR at h;by_cases h0:f n x=0
  ·rw[aG h0] at h;exact ih h
  ·rw[aD h0] at h;cases h;exact h0
theorem TB {o:Option (Nat×Int)} (h:(o.getD (0,0)).2=0) (hn:∀p,o=some p->p.2≠0):o=none:=by
 cases o with
 |none=>rfl
 |some p=>exact absurd h (hn p rfl)
theorem zE (s:Sch):qN s=if(l5 s).2=0 then(if(n5 s).2=0 then(if(oV s).2=0 then([],0,0) else(qM,oV s)) else(l6,n5 s)) else(tY,l5 s):=by
 have h3:HL s=if(oV s).2=0 then([],0,0) else(qM,oV s):=by
  unfold HL oV;by_cases h:s.st.length>60
  ·rw[aG h,aG h];rfl
  ·rw[aD h,aD h];show(match eR (B3 s) 0 s.st with|some (i,e)=>(qM,i,e)|none=>([],0,0))=_;cases hf:eR (B3 s) 0 s.st with
   |none=>rfl
   |some p=>exact(aD (xH hf)).symm
 have h2:HN kO rF (fun l c=>DD l [] c) s=if(n5 s).2=0 then HL s else(l6,n5 s):=by
  unfold HN n5;cases uR s.rc.length 1 10 with
  |false=>rfl
  |true=>
   show(match eR (yE s) 0 s.rc with|some (i,e)=>(l6,i,e)|none=>HL s)=if((eR (yE s) 0 s.rc).getD (0,0)).2=0 then _ else(l6,(eR (yE s) 0 s.rc).getD (0,0));cases hf:eR (yE s) 0 s.rc with
   |none=>rfl
   |some p=>exact(aD (xH hf)).symm
 have h1:qN s=if(l5 s).2=0 then HN kO rF (fun l c=>DD l [] c) s else(tY,l5 s):=by
  unfold qN Y5 l5;cases uR s.ar.length 1 6 with
  |false=>rfl
  |true=>
   show(match eR (fun i a=>mE ((dE s).take i) a) 0 s.ar with|some (i,e)=>(tY,i,e)|none=>HN kO rF (fun l c=>DD l [] c) s)=if((eR (fun i a=>mE ((dE s).take i) a) 0 s.ar).getD (0,0)).2=0 then _ else(tY,(eR (fun i a=>mE ((dE s).take i) a) 0 s.ar).getD (0,0));cases hf:eR (fun i a=>mE ((dE s).take i) a) 0 s.ar with
   |none=>rfl
   |some p=>exact(aD (xH hf)).symm
 rw[h1,h2,h3]
theorem ES {s:Sch} (h:(n5 s).2=0):∀r∈s.rc,L4 kO r:=by
 unfold n5 at h;cases hb:uR s.rc.length 1 10 with
 |false=>rw[hb] at h;exact absurd (show(4:Int)=0 from h) (by decide)
 |true=>
  rw[hb] at h;exact SI (f:=fun i=>dE s++(gB s).take i) (TB h fun p hp=>xH hp)
theorem JF [MaxL] {s:List GObj}:vK 0 s=s:=aG rfl
theorem FN {α β:Type} {x:Option (α×β)} {K:α×β->Prop} (r:α) (h:x.map (·.1)=some r) (hk:∀b,K (r,b)):tM x K:=by
 obtain⟨⟨a,b⟩,h1,rfl⟩:=Option.map_eq_some_iff.1 h;rw[h1];exact hk b
theorem YB [MaxL] (s:Sch) (hz:mK s):SC Tryz.prog 12 [nZ s] [] (.val (.tup [.s (qN s).1,.i .i64 ((qN s).2.1:Nat),.i .i64 (qN s).2.2])) []:=by
 have hA:=Y9 s hz.1.1;have hR:=SA s hz;rw[zE];refine cX Tryz.func12 rfl ?_;conv=>whnf
 by_cases h1:(l5 s).2=0;rotate_left
 ·rw[aD h1];rw[p9 h1,zP h1] at hA;refine cG [5,4] hA ?_;conv=>whnf
  exact FN (K:=fun q=>Owes [] _ [] q.1 q.2) (.val (.tup [.s tY,.i .i64 ((l5 s).1:Nat),.i .i64 (l5 s).2])) (by kernel_rfl) fun _=>bC (.refl _) (fun _=>rfl)
 rw[aG h1];rw[h1,JF] at hA;refine cG [5,4] hA ?_;conv=>whnf
 by_cases h2:(n5 s).2=0;rotate_left
 ·rw[aD h2];rw[p9 h2,zP h2] at hR;refine cG [5,4] hR ?_;conv=>whnf
  exact FN (K:=fun q=>Owes [] _ [] q.1 q.2) (.val (.tup [.s l6,.i .i64 ((n5 s).1:Nat),.i .i64 (n5 s).2])) (by kernel_rfl) fun _=>bC (.refl _) (fun _=>rfl)
 rw[aG h2];rw[h2,JF] at hR;have hS:=a0c s hz (ES h2);refine cG [5,4] hR ?_;conv=>whnf
 by_cases h3:(oV s).2=0;rotate_left
 ·rw[aD h3];rw[p9 h3,zP h3] at hS;refine cG [5,4] hS ?_;conv=>whnf
  exact FN (K:=fun q=>Owes [] _ [] q.1 q.2) (.val (.tup [.s qM,.i .i64 ((oV s).1:Nat),.i .i64 (oV s).2])) (by kernel_rfl) fun _=>bC (.refl _) (fun _=>rfl)
 rw[aG h3];rw[h3,JF] at hS;refine cG [5,4] hS ?_;conv=>whnf
 refine st ?_;conv=>whnf
 refine st ?_;conv=>whnf
 refine st ?_;conv=>whnf
 exact vT (g:=.tup [.s [],.i .i64 0,.i .i64 0]) (by kernel_rfl) (.refl _) (fun _=>rfl)
theorem YC [MaxL] (s:Sch) (hz:mK s):SC Tryz.prog 14 [nZ s] [] (.val (.b ((qN s).2.2==0))) []:=by
 have hw:=YB s hz;refine cX Tryz.func14 rfl ?_;conv=>whnf
 refine cP hw ?_;conv=>whnf
 exact dH 0
set_option maxHeartbeats 8000000 in
theorem a1p [MaxL] (s:Sch) (hz:mK s) (hg:∀r∈s.rc,L4 kO r) (i:Nat) (y:Sy) (hy:s.st[i]?=some y):SC Tryz.prog 56 [nZ s,.i .i64 (i:Nat)] [] (.val (.i .i64 (B3 s i y))) []:=by
 have hz':=hz;obtain⟨⟨ha,hl,ht⟩,hr,hst⟩:=hz;obtain⟨y1,y2,y3⟩:=hst y (aL hy);have hrc:(gB s).contains y.owner=s.rc.any fun r=>r.name==y.owner:=eK _ _ _;generalize hX:B3 s i y=xe;unfold B3 J0 kF at hX;rw[a2e,<-GQ hy sW,<-pP,<-pP] at hX;have hn:=BB y.name;refine cR xN mixed Tryz.func56 rfl (bL rfl) (by first|exact rL _|simp) rfl ?_;conv=>whnf
 refine ix (cM hy) ⟨rfl,?_⟩;conv=>whnf
 refine st ?_;conv=>whnf
 refine cP hn ?_;conv=>whnf
 refine aF (fun h=>?_) (fun h=>?_)<;>conv=>whnf
 ·exact bA ((aZ (by rw[h];rfl)).symm.trans hX)
 rw[h] at hX;refine aF (fun h=>?_) (fun h=>?_)<;>conv=>whnf
 ·exact bA ((aZ h).symm.trans hX)
 replace hX:=(bK h).symm.trans hX;refine cP (zM s ha y.name) ?_;conv=>whnf
 refine aF (fun h=>?_) (fun h=>?_)<;>conv=>whnf
 ·exact bA ((aZ (by rw[show decide (0<=lW (fun x:Ar=>x.name==y.name) s.ar)=true from h];rfl)).symm.trans hX)
 rw[show decide (0<=lW (fun x:Ar=>x.name==y.name) s.ar)=false from h] at hX;refine cP (lI s hl y.name) ?_;conv=>whnf
 refine aF (fun h=>?_) (fun h=>?_)<;>conv=>whnf
 ·exact bA ((aZ (by rw[show decide (0<=lW (fun x:Rc=>x.name==y.name) s.rc)=true from h];rfl)).symm.trans hX)
 rw[show decide (0<=lW (fun x:Rc=>x.name==y.name) s.rc)=false from h] at hX;refine cP (J6 s ht y.name) ?_;conv=>whnf
 refine aF (fun h=>?_) (fun h=>?_)<;>conv=>whnf
 ·exact bA ((aZ h).symm.trans hX)
 replace hX:=(bK h).symm.trans hX;refine aF (fun h=>?_) (fun h=>?_)<;>conv=>whnf
 focus
  have how:(y.owner !=[])=true:=h;rw[how] at hX;refine cP (lI s hl y.owner) ?_;conv=>whnf
  refine aF (fun h2=>?_) (fun h2=>?_)<;>rw[nD,<-hrc] at h2<;>conv=>whnf
  ·exact bA ((aZ h2).symm.trans hX)
  have hown:y.owner≠[]->(gB s).contains y.owner=true:=fun _=>by simpa using h2
  replace hX:=(bK h2).symm.trans hX
 rotate_left;focus
  have how:(y.owner !=[])=false:=h;rw[how] at hX;have hown:y.owner≠[]->(gB s).contains y.owner=true:=fun h9=>absurd (by simpa using how) h9;replace hX:=(bK (w:=false&&_) rfl).symm.trans hX
 all_goals
  refine aF (fun h=>?_) (fun h=>?_)<;>rw[iS] at h<;>conv=>whnf
  ·exact bA ((aZ (VZ h)).symm.trans hX)
  refine aF (fun h2=>?_) (fun h2=>?_)<;>rw[iS] at h2<;>conv=>whnf
  ·exact bA ((aZ (VY h2)).symm.trans hX)
  replace hX:=(bK (VX h h2)).symm.trans hX;have badM:∀{e:Int},kR (oX s y) y.ms=e->e≠0->e=xe:=fun he h0=>(by rw[he,oN h0] at hX;exact hX);have y1':=y1;unfold bB at y1';refine dB 2 y.ms.length (fun k _=>∀j m,j<k->y.ms[j]?=some m->oX s y j m=0) (fun k _=>[(2,.ptr 0 0),(5,.ptr 1 0),(6,.i .i64 (k:Nat))]) (fun k (_:Unit)=>V4 s y) [] () (fun j n h=>absurd h (dG j)) (fun k _ φ1 hk hok=>?_);conv=>whnf
  refine aF (fun h=>?_) (fun h=>?_)<;>conv=>whnf
  ·have hlt:k<y.ms.length:=by have:=aB h;rw[iS] at this;omega
   refine(j0 hlt).elim fun m hm=>?_;refine cP (VH s hz' y y1 k m hm (y3 m (aL hm)) hown hg) ?_;(conv=>whnf);refine aF (fun h4=>?_) (fun h4=>?_)<;>conv=>whnf
   ·exact bA (badM (mU hm (by simpa using h4) hok) (by simpa using h4))
   exact nx () hlt ⟨hlt,kC hm (by simpa using h4) hok⟩
  have hM0:∀j m,y.ms[j]?=some m->oX s y j m=0:=fun j z hz=>hok j z (by have:=aC h;rw[iS] at this;have:=(List.getElem?_eq_some_iff.1 hz).1;omega) hz;have hmem:∀m∈y.ms,(gB s).contains m.of=true:=fun m hm9=>by
   obtain⟨j,hj⟩:=List.getElem?_of_mem hm9;simpa using(dT (hM0 j m hj) (by decide)).1
  rw[oM (mT hM0)] at hX;refine aF (fun h=>?_) (fun h=>?_)<;>conv=>whnf
  ·exact bA ((aZ (VZ h)).symm.trans hX)
  refine aF (fun h2=>?_) (fun h2=>?_)<;>conv=>whnf
  ·exact bA ((aZ (VY h2)).symm.trans hX)
  replace hX:=(bK (VX h h2)).symm.trans hX;clear h h2;refine aF (fun h=>?_) (fun h=>?_)<;>conv=>whnf
  focus
   rw[aG (show y.order=5 by simpa using h)] at hX;refine cP (V8 s hz' y y1 y2 hmem hg) ?_;(conv=>whnf);refine aF (fun h4=>?_) (fun h4=>?_)
   ·(conv=>whnf);rw[oN (by simpa using h4)] at hX;exact bA hX
   rw[oM (show xQ s y=0 by simpa using h4)] at hX
  rotate_left;focus
   rw[aD (show¬y.order=5 by simpa using h)] at hX;have badO:(!y.keys.isEmpty||y.dups !=0)=true->(1:Int)=xe:=fun h=>(by rw[aZ h,oN (by decide)] at hX;exact hX);refine aF (fun h3=>?_) (fun h3=>?_)<;>conv=>whnf
   ·exact bA (badO (by have:((tH y.keys).length:Int)>0:=aB h3;rw[kN] at this;cases hk:y.keys with|nil=>rw[hk] at this;exact absurd this (by decide)|cons a l=>rfl))
   have hke:y.keys.isEmpty=true:=by have:¬((tH y.keys).length:Int)>0:=aC h3;rw[kN] at this;cases hk:y.keys with|nil=>rfl|cons a l=>rw[hk] at this;simp at this
   refine aF (fun h4=>?_) (fun h4=>?_)
   ·(conv=>whnf);exact bA (badO (by rw[show(y.dups !=0)=true from h4,Bool.or_true]))
   rw[oM (bK (by rw[hke];exact h4))] at hX
  all_goals
   (conv=>whnf);refine aF (fun h=>?_) (fun h=>?_)<;>conv=>whnf
   ·exact bA ((aZ (VZ h)).symm.trans hX)
   refine aF (fun h2=>?_) (fun h2=>?_)<;>conv=>whnf
   ·exact bA ((aZ (VY h2)).symm.trans hX)
   replace hX:=(bK (VX h h2)).symm.trans hX;refine aF (fun h5=>?_) (fun h5=>?_)<;>conv=>whnf
   ·rw[show(y.mode==3)=true from h5] at hX;refine aF (fun h6=>?_) (fun h6=>?_)<;>conv=>whnf
    ·exact bA ((aZ h6).symm.trans hX)
    exact bA ((bK h6).symm.trans hX)
   rw[show(y.mode==3)=false from h5] at hX;exact bA hX
theorem O4 {s:Sch} {p:Nat×Int} (h:l5 s=p) (he:p.2≠0):qN s=(tY,p):=by rw[zE,h,aD he]
theorem O3 {s:Sch} {p:Nat×Int} (h0:(l5 s).2=0) (h:n5 s=p) (he:p.2≠0):qN s=(l6,p):=by rw[zE,aG h0,h,aD he]
theorem UT {s:Sch} {p:Nat×Int} (h0:(l5 s).2=0) (h1:(n5 s).2=0) (h:oV s=p) (he:p.2≠0):qN s=(qM,p):=by rw[zE,aG h0,aG h1,h,aD he]
set_option maxHeartbeats 8000000 in
theorem YJ [MaxL] (s:Sch) (hz:mK s) (hc:∀r∈s.rc,r.check.length<1000000):SC Tryz.prog 13 [nZ s] [] (.val (.tup [.s (qN s).1,.i .i64 ((qN s).2.1:Nat),.i .i64 (qN s).2.2])) []:=by
 have hz':=hz;obtain⟨⟨ha,hl,ht⟩,hr,hst⟩:=hz;unfold bB at ha hl ht;have la:(AP s.ar).length=s.ar.length:=i8 _ _;have lr:(yF s.rc).length=s.rc.length:=i8 _ _;have lt:(z7 s.st).length=s.st.length:=i8 _ _;have hA:l5 s=if !uR s.ar.length 1 6 then(0,4) else(eR (fun i a=>mE ((dE s).take i) a) 0 s.ar).getD (0,0):=rfl;have hR:n5 s=if !uR s.rc.length 1 10 then(0,4) else(eR (yE s) 0 s.rc).getD (0,0):=rfl;have hS:oV s=if s.st.length>60 then(0,4) else(eR (B3 s) 0 s.st).getD (0,0):=rfl;generalize hK:qN s=K;refine cX Tryz.func13 rfl ?_;conv=>whnf
 refine aF (fun h=>?_) (fun h=>?_)<;>rw[la] at h<;>conv=>whnf
 ·rw[<-hK,O4 (hA.trans (aG (VZ h))) (by decide)];exact dH 0
 refine aF (fun h2=>?_) (fun h2=>?_)<;>rw[la] at h2<;>conv=>whnf
 ·rw[<-hK,O4 (hA.trans (aG (VY h2))) (by decide)];exact dH 0
 rw[VX h h2,aD (by simp)] at hA;clear h h2;refine dB 1 s.ar.length (fun i _=>∀j z,j<i->s.ar[j]?=some z->mE ((dE s).take j) z=0) (fun i _=>[(1,.ptr 0 0),(5,.i .i64 (i:Nat))]) (fun i (_:Unit)=>[.box 26 (uG s)]) [] () (fun j z h=>absurd h (dG j)) (fun i _ φ0 hi hok=>?_);conv=>whnf
 refine aF (fun h=>?_) (fun h=>?_)<;>conv=>whnf
 ·have hlt:i<s.ar.length:=by have:=aB h;rw[la] at this;omega
  refine(j0 hlt).elim fun y hy=>?_;refine cP (a0t s (by unfold bB;exact ha) i y hy) ?_;conv=>whnf
  refine aF (fun h4=>?_) (fun h4=>?_)<;>conv=>whnf
  ·have h5:mE ((dE s).take i) y≠0:=by simpa using h4
   rw[<-hK,O4 (hA.trans (by rw[nO (f:=fun i a=>mE ((dE s).take i) a) hy h5 hok])) h5];exact dH 0
  exact nx () hlt ⟨hlt,kC (f:=fun i a=>mE ((dE s).take i) a) hy (by simpa using h4) hok⟩
 have hA0:(l5 s).2=0:=by rw[hA,nN (f:=fun i a=>mE ((dE s).take i) a) (by have:=aC h;rw[la] at this;omega) hok];rfl
 clear h;refine aF (fun h=>?_) (fun h=>?_)<;>rw[lr] at h<;>conv=>whnf
 ·rw[<-hK,O3 hA0 (hR.trans (aG (VZ h))) (by decide)];exact dH 0
 refine aF (fun h2=>?_) (fun h2=>?_)<;>rw[lr] at h2<;>conv=>whnf
 ·rw[<-hK,O3 hA0 (hR.trans (aG (VY h2))) (by decide)];exact dH 0
 rw[VX h h2,aD (by simp)] at hR;clear h h2;refine dB 1 s.rc.length (fun i _=>∀j z,j<i->s.rc[j]?=some z->yE s j z=0) (fun i _=>[(1,.ptr 0 0),(7,.i .i64 (i:Nat))]) (fun i (_:Unit)=>[.box 26 (uG s)]) [] () (fun j z h=>absurd h (dG j)) (fun i _ φ0 hi hok=>?_);conv=>whnf
 refine aF (fun h=>?_) (fun h=>?_)<;>conv=>whnf
 ·have hlt:i<s.rc.length:=by have:=aB h;rw[lr] at this;omega
  refine(j0 hlt).elim fun y hy=>?_;refine cP (V9 s hz' hc i y hy) ?_;conv=>whnf
  refine aF (fun h4=>?_) (fun h4=>?_)<;>conv=>whnf
  ·have h5:yE s i y≠0:=by simpa using h4
   rw[<-hK,O3 hA0 (hR.trans (by rw[nO hy h5 hok])) h5];exact dH 0
  exact nx () hlt ⟨hlt,kC hy (by simpa using h4) hok⟩
 have hR0:(n5 s).2=0:=by rw[hR,nN (by have:=aC h;rw[lr] at this;omega) hok];rfl
 clear h;refine aF (fun h=>?_) (fun h=>?_)<;>rw[lt] at h<;>conv=>whnf
 ·rw[<-hK,UT hA0 hR0 (hS.trans (aG (by have:=aB h;omega))) (by decide)];exact dH 0
 rw[aD (by have:=aC h;omega)] at hS;clear h;refine dB 1 s.st.length (fun i _=>∀j z,j<i->s.st[j]?=some z->B3 s j z=0) (fun i _=>[(1,.ptr 0 0),(9,.i .i64 (i:Nat))]) (fun i (_:Unit)=>[.box 26 (uG s)]) [] () (fun j z h=>absurd h (dG j)) (fun i _ φ0 hi hok=>?_);conv=>whnf
 refine aF (fun h=>?_) (fun h=>?_)<;>conv=>whnf
 ·have hlt:i<s.st.length:=by have:=aB h;rw[lt] at this;omega
  refine(j0 hlt).elim fun y hy=>?_;refine cP (a1p s hz' (ES hR0) i y hy) ?_;conv=>whnf
  refine aF (fun h4=>?_) (fun h4=>?_)<;>conv=>whnf
  ·have h5:B3 s i y≠0:=by simpa using h4
   rw[<-hK,UT hA0 hR0 (hS.trans (by rw[nO hy h5 hok])) h5];exact dH 0
  exact nx () hlt ⟨hlt,kC hy (by simpa using h4) hok⟩
 have hS0:(oV s).2=0:=by rw[hS,nN (by have:=aC h;rw[lt] at this;omega) hok];rfl
 rw[<-hK,zE,aG hA0,aG hR0,aG hS0];exact dH 0
theorem VL [MaxL] (s:Sch) (hz:mK s) (hc:∀r∈s.rc,r.check.length<1000000):SC Tryz.prog 15 [nZ s] [] (.val (.b ((qN s).2.2==0))) []:=by
 have hw:=YJ s hz hc;refine cX Tryz.func15 rfl ?_;conv=>whnf
 refine cP hw ?_;conv=>whnf
 exact dH 0
def gZ (f:Term->By) (L:List Term) (i:Nat):List By:=(L.take i).foldl (fun l x=>a2p l (f x)) []
def FB (l:List Itm):Bool:=(l.take 20).all (fun i=>decide (i.name.length<=100))&&decide (l.length<=20)
theorem Z2 [MaxL] (l:List Itm):SC Tryz.prog 48 [.sl .none (eZ l)] [] (.val (.b (FB l))) []:=by
 have hlen:=m7 l;unfold FB;refine cX Tryz.func48 rfl ?_;conv=>whnf
 refine cW (fun i:Nat=>i<=l.length/\i<=20/\∀z∈l.take i,z.name.length<=100) (fun i=>[(0,.sl .none (eZ l)),(3,.i .i64 (i:Nat))]) (fun _=>⟨[],0,[]⟩) (fun i=>l.length - i) 0 ⟨zL _,zL _,(fun z h=>by simp at h)⟩ ⟨rfl,rfl,trivial⟩ rfl (fun i φ0 hi=>?_);obtain⟨hi,hi2,hok⟩:=hi;have dH:(i=l.length∨i=20)->(l.take 20).all (fun i=>decide (i.name.length<=100))=true:=fun hh=>by
  rw[aS];intro x hx;refine bM (hok x ?_);rcases hh with rfl|rfl
  ·rw[b5];exact List.mem_of_mem_take hx
  ·exact hx
 have hle:decide (((eZ l).length:Int)<=20)=decide (l.length<=20):=by rw[hlen,decide_eq_decide];omega
 conv=>whnf
 refine aF (fun h=>?_) (fun h=>?_)<;>conv=>whnf
 rotate_left
 ·have hie:i=l.length:=by have:=aC h;rw[hlen] at this;omega
  refine bX ?_;rw[dH (.inl hie),Bool.true_and];exact hle
 have hlt:i<l.length:=by have:=aB h;rw[hlen] at this;omega
 refine aF (fun h2=>?_) (fun h2=>?_)<;>conv=>whnf
 rotate_left
 ·have hie:i=20:=by have:=aC h2;omega
  refine bX ?_;rw[dH (.inr hie),Bool.true_and];exact hle
 have hlt2:i<20:=by have:=aB h2;omega
 obtain⟨y,hy⟩:∃y,l[i]?=some y:=⟨l[i],gL hlt⟩;refine⟨cN _,_,by rw[aA];exact lU hy,rfl,?_⟩;conv=>whnf
 refine aF (fun h3=>?_) (fun h3=>?_)<;>conv=>whnf
 ·have h3':¬y.name.length<=100:=by have:=aB h3;omega
  refine bX ?_;have:(l.take 20).all (fun i=>decide (i.name.length<=100))=false:=List.all_eq_false.2 ⟨y,aL (i:=i) (by rw[dJ,aG hlt2];exact hy),by simpa using h3'⟩;rw[this];rfl
 ·have h3':y.name.length<=100:=by have:=aC h3;omega
  refine⟨l.length - (i+1),(by show _<l.length - i;omega),i+1,⟨hlt,hlt2,fun z hz=>?_⟩,rfl,⟨rfl,b7 (by omega),trivial⟩,rfl⟩;rw[bR,hy] at hz;rcases List.mem_append.1 hz with hz|hz
  ·exact hok z hz
  ·rw[List.mem_singleton.1 (show z∈[y] from hz)];exact h3'
def D6 (r:List Val):Bool:=decide (r.length<=20)&&r.all (fun v=>decide (v.s.length<=200))
def zG (L:List (List Val)):List GV:=L.map fun r=>.sl .none (jT r)
theorem V5 [MaxL] (L:List (List Val)):ClL (zG L):=gI (fun r=>bS (z6 r)) L
theorem SF (L:List (List Val)):(zG L).length=L.length:=by simp[zG]
theorem a1A [MaxL] (L:List (List Val)) (hL:L.length<=100):SC Tryz.prog 29 [.sl .none (zG L)] [] (.val (.b (L.all D6))) []:=by
 have hlen:=SF L;refine cX Tryz.func29 rfl ?_;conv=>whnf
 refine cW (fun i:Nat=>i<=L.length/\∀z∈L.take i,D6 z=true) (fun i=>[(0,.sl .none (zG L)),(3,.i .i64 (i:Nat))]) (fun _=>⟨[],0,[]⟩) (fun i=>L.length - i) 0 ⟨zL _,(fun z h=>by simp at h)⟩ ⟨rfl,rfl,trivial⟩ rfl (fun i φ0 hi=>?_);obtain⟨hi,hok⟩:=hi;conv=>whnf
 refine aF (fun h=>?_) (fun h=>?_)<;>conv=>whnf
 rotate_left
 ·have hie:i=L.length:=by have:=aC h;rw[hlen] at this;omega
  refine bX ?_;rw[hie,b5] at hok;exact(List.all_eq_true.2 hok).symm
 have hlt:i<L.length:=by have:=aB h;rw[hlen] at this;omega
 obtain⟨r,hy⟩:∃y,L[i]?=some y:=⟨L[i],gL hlt⟩;have hgy:(zG L)[i]?=some (.sl .none (jT r)):=by unfold zG;rw[aM,hy];rfl
 have hl2:=nW r;have bad:D6 r=false->L.all D6=false:=fun h=>List.all_eq_false.2 ⟨r,aL hy,by rw[h];simp⟩;refine⟨cN _,.sl .none (jT r),by rw[aA];exact hgy,rfl,?_⟩;conv=>whnf
 refine aF (fun h2=>?_) (fun h2=>?_)<;>conv=>whnf
 ·have h2':¬r.length<=20:=by have:=aB h2;rw[hl2] at this;omega
  refine bX ?_;rw[bad (by unfold D6;rw[cE h2'];rfl)]
 have h2':r.length<=20:=by have:=aC h2;rw[hl2] at this;omega
 refine cW (fun k:Nat=>k<=r.length/\∀v∈r.take k,v.s.length<=200) (fun k=>[(0,.sl .none (zG L)),(3,.i .i64 (i:Nat)),(4,.i .i64 (k:Nat))]) (fun _=>⟨[],0,[]⟩) (fun k=>r.length - k) 0 ⟨zL _,(fun z h=>by simp at h)⟩ ⟨rfl,rfl,rfl,trivial⟩ rfl (fun k φ0 hk=>?_);obtain⟨hk,hok2⟩:=hk;conv=>whnf
 refine⟨cN _,.sl .none (jT r),by rw[aA];exact hgy,rfl,?_⟩;conv=>whnf
 refine aF (fun h3=>?_) (fun h3=>?_)<;>conv=>whnf
 rotate_left
 ·have hke:k=r.length:=by have:=aC h3;rw[hl2] at this;omega
  rw[hke,b5] at hok2;refine⟨L.length - (i+1),(by show _<L.length - i;omega),i+1,⟨hlt,fun z hz=>?_⟩,rfl,⟨rfl,b7 (by omega),trivial⟩,rfl⟩;rw[bR,hy] at hz;rcases List.mem_append.1 hz with hz|hz
  ·exact hok z hz
  ·rw[List.mem_singleton.1 (show z∈[r] from hz)];unfold D6;rw[bM h2',Bool.true_and,aS];exact fun v hv=>bM (hok2 v hv)
 have hklt:k<r.length:=by have:=aB h3;rw[hl2] at this;omega
 have hkv:∃y,r[k]?=some y:=⟨_,gL hklt⟩;refine hkv.elim (fun v hv=>?_);refine⟨cN _,.sl .none (jT r),by rw[aA];exact hgy,rfl,?_⟩;conv=>whnf
 refine⟨cN _,_,by rw[aA];exact IU hv,rfl,?_⟩;conv=>whnf
 refine aF (fun h4=>?_) (fun h4=>?_)<;>conv=>whnf
 ·have h4':¬v.s.length<=200:=by have:=aB h4;omega
  refine bX ?_;have:r.all (fun v=>decide (v.s.length<=200))=false:=List.all_eq_false.2 ⟨v,aL hv,by simpa using h4'⟩;rw[bad (by unfold D6;rw[this,Bool.and_false])]
 ·have h4':v.s.length<=200:=by have:=aC h4;omega
  refine⟨r.length - (k+1),(by show _<r.length - k;omega),k+1,⟨hklt,fun z hz=>?_⟩,rfl,⟨rfl,rfl,b7 (by omega),trivial⟩,rfl⟩;rw[bR,hv] at hz;rcases List.mem_append.1 hz with hz|hz
  ·exact hok2 z hz
  ·rw[List.mem_singleton.1 (show z∈[v] from hz)];exact h4'
theorem a0n {r:List Val} (h:D6 r=true):r.length<bB:=by
 unfold D6 at h;simp only[aH,aK] at h;unfold bB;omega
