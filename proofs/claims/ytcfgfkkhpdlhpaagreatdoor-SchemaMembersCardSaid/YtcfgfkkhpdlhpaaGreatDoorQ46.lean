/-
  A part of the proof of SchemaMembers.
-/
import Derived.Test.YtcfgfkkhpdlhpaaGreatDoorQ45
set_option linter.all false
set_option maxRecDepth 100000
namespace Go.Proofs.YtcfgfkkhpdlhpaaGreatDoor
open Go.RowKit
def AN (s:Sch) (i:Nat) (t:Sy):Int:=ND s (dD s++(gF s++(sP s).take i)) t
def oW (s:Sch):Nat×Int:=if s.st.length>60 then(0,4) else(eP (AN s) 0 s.st).getD (0,0)
theorem VG [MaxL] (l:List Mb):(lX l).all (fun x=>x.cells.length==4)=true:=by
 rw[aS];intro x hx;obtain⟨b,_,rfl⟩:=List.mem_map.1 hx;rfl
set_option maxHeartbeats 8000000 in
theorem a0A [MaxL] (s:Sch) (hz:lU s) (hg:∀r∈s.rc,KE kO r):SC Tryz.prog 53 [.ptr 0 0] (k9 s (dD s++gF s)) (s5 qI (oW s).1 (oW s).2) (vH (oW s).2 (k9 s (dD s++(gF s++sP s)))):=by
 have hz':=hz;obtain⟨⟨ha,hl,ht⟩,hr,hst⟩:=hz;unfold bH at ht;have hlen:(vF s.st).length=s.st.length:=gV _ _;generalize hX:oW s=X;obtain⟨xi,xe⟩:=X;unfold oW at hX;have hh:(vH xe (k9 s (dD s++(gF s++sP s)))).all GObj.notHeld=true:=by unfold vH;split<;>rfl
 have hs:(k9 s (dD s++gF s)).length<=(vH xe (k9 s (dD s++(gF s++sP s)))).length:=by unfold vH;split<;>exact rL _
 refine SC.of_gwpD 2 oQ mixed Tryz.func53 rfl (bL rfl) hs hh ?_;conv=>whnf
 refine aF (fun h=>?_) (fun h=>?_)<;>conv=>whnf
 ·have h9:s.st.length>60:=by have:=aB h;rw[hlen] at this;omega
  rw[aG h9] at hX;refine cS [] (uC qI 0 4) ?_;conv=>whnf
  exact mU hX (by decide)
 have h9:¬s.st.length>60:=by have:=aC h;rw[hlen] at this;omega
 rw[aE h9] at hX;refine dF 2 s.st.length (fun i _=>∀j z,j<i->s.st[j]?=some z->AN s j z=0) (fun i _=>[(0,.ptr 0 0),(19,.sl .none (vF s.st)),(20,.i .i64 (vF s.st).length),(21,.i .i64 (i:Nat))]) (fun i (_:Unit)=>k9 s (dD s++(gF s++(sP s).take i))) [] () (fun j z h=>absurd h (d8 j)) (fun i _ φ0 hi hok=>?_) (hσ:=by rw[List.take_zero,iM]);conv=>whnf
 refine aF (fun h=>?_) (fun h=>?_)<;>conv=>whnf
 rotate_left
 ·have hie:i=s.st.length:=by have:=aC h;rw[hlen] at this;omega
  rw[nR (Nat.le_of_eq hie.symm) hok] at hX;cases hX;have hm:(sP s).take i=sP s:=dI (by rw[hie];simp[sP]);show OwesD 2 _ _ (k9 s (dD s++(gF s++sP s))) _ _;exact .val (dH 2 (ho:=aQ (fun m=>k9 s (dD s++(gF s++m))) hm))
 have hlt:i<s.st.length:=by have:=aB h;rw[hlen] at this;omega
 obtain⟨y,hy⟩:∃y,s.st[i]?=some y:=⟨s.st[i],gL hlt⟩;obtain⟨y1,y2,y3⟩:=hst y (aN hy);unfold bH at y1;have bad0:∀{e:Int},AN s i y=e->e≠0->((i,e):Nat×Int)=(xi,xe):=fun he h0=>by
  subst he;rw[nS hy h0 hok] at hX;exact hX
 have bad:∀{w:Bool} {e b:Int},AN s i y=dZ w e b->w=true->e≠0->((i,e):Nat×Int)=(xi,xe):=fun he h h0=>bad0 (he.trans (aZ h)) h0;generalize hB:(SB (kR (sW s y) y.ms) (dZ (!vD y.order 1 5) 1 (SB (if y.order=5 then C1 s y else dZ (!y.keys.isEmpty||y.dups !=0) 1 0)
   (dZ (!vD y.mode 1 3) 1 (dZ (y.mode==3&&y.order !=5) 10 0)))))=B
 have hE:AN s i y=kX (dD s++(gF s++(sP s).take i)) y.name (dZ (y.owner !=[]&&!((gF s).contains y.owner)) 5 (dZ (!vD y.ms.length 1 4) 11 B)):=by rw[<-hB];rfl
 rw[IZ] at hE;have hm:k9 s (dD s++(gF s++(sP s).take i)++[y.name])=k9 s (dD s++(gF s++(sP s).take (i+1))):=by rw[bB,bB];exact aQ (fun m=>k9 s (dD s++(gF s++m))) (yG (fun t:Sy=>t.name) hy).symm
 generalize dD s++(gF s++(sP s).take i)=met at*;refine ix (cU hy) ⟨rfl,?_⟩;conv=>whnf
 refine st ?_;conv=>whnf
 refine st ?_;conv=>whnf
 by_cases hn:kX met y.name 0=0;rotate_left
 ·rw[aE hn] at hE;refine cG [0,1] (EQ (kd:=qI) (i:=i) hn) ?_;conv=>whnf
  exact mU (bad0 hE hn) hn
 rw[aG hn] at hE;refine cG [0,1] (EP (kd:=qI) (i:=i) hn) ?_;conv=>whnf
 have hro:=qK s hl y.owner;by_cases how:(y.owner !=[]&&!((gF s).contains y.owner))=true
 ·obtain⟨ho1,ho2⟩:=(aH ..).mp how;have hno:mC (fun r:Rc=>r.name==y.owner) s.rc<0:=by
   rcases jT (fun r:Rc=>r.name==y.owner) s.rc with⟨h,_⟩|⟨_,_,_,_,_,h⟩
   ·exact h
   ·rw[show(gF s).contains y.owner=s.rc.any fun r=>r.name==y.owner from dG _ _ _,h] at ho2;cases ho2
  refine GDraw.pan 14 _ rfl (by kernel_rfl) ?_;conv=>whnf
  refine gY ho1 ?_;conv=>whnf
  refine cP hro ?_;conv=>whnf
  refine gR gA 2 5 (w:=decide (mC (fun r:Rc=>r.name==y.owner) s.rc<0)) (fun h9=>?_) (fun h9=>absurd hno (aC h9));conv=>whnf
  exact mU (bad hE how (by decide)) (by decide)
 have how':(y.owner !=[]&&!((gF s).contains y.owner))=false:=by simpa using how
 replace hE:=hE.trans (bJ how');have hown:y.owner≠[]->(gF s).contains y.owner=true:=fun h=>by
  rw[show(y.owner !=[])=true by simpa using h] at how';simpa using how'
 refine bC (by kernel_rfl) ?_;conv=>whnf
 refine aF (fun h=>?_) (fun h=>?_)<;>conv=>whnf
 focus
  refine(qN (hown (by simpa using h))).elim fun io hio=>?_;rw[hio.1] at hro;refine cP hro ?_;conv=>whnf
  refine gR gA 2 5 (w:=false) (fun h9=>nomatch h9) (fun _=>?_)
 rotate_left;focus
  refine gR gA 2 5 (w:=false) (fun h9=>nomatch h9) (fun _=>?_)
 all_goals
  conv=>whnf
  refine cP (lG (lX y.ms).length 1 4) ?_;conv=>whnf
  refine gR gA 2 11 (fun h=>?_) (fun h=>?_)<;>rw[iV] at h<;>conv=>whnf
  ·exact mU (bad hE h (by decide)) (by decide)
  replace hE:=hE.trans (bJ h);rw[<-hB] at hE;have badM:∀{e:Int},kR (sW s y) y.ms=e->e≠0->((i,e):Nat×Int)=(xi,xe):=fun he h0=>bad0 (hE.trans (by rw[he,oP h0])) h0;refine dF 4 y.ms.length (fun k _=>∀j m,j<k->y.ms[j]?=some m->sW s y j m=0) (fun k _=>[(0,.ptr 0 0),(3,.ptr 3 0),(4,.fn (.func 122) [] [.ptr 2 0]),(19,.sl .none (vF s.st)),(20,.i .i64 (vF s.st).length),(21,.i .i64 (i:Nat)),(55,.sl .none (lX y.ms)),(56,.i .i64 (lX y.ms).length),(57,.i .i64 (k:Nat))])
   (fun k (_:Unit)=>k9 s (met++[y.name])++[.box 3 [.i .i64 (i:Nat)],.box 39 (PJ y)]) [] () (fun j n h=>absurd h (d8 j)) (fun k _ φ1 hk hok2=>?_)
  conv=>whnf
  refine aF (fun h=>?_) (fun h=>?_)<;>conv=>whnf
  ·have hlt2:k<y.ms.length:=by have:=aB h;rw[iV] at this;omega
   refine(j6 hlt2).elim fun m hm2=>?_;have badJ:∀{e:Int},sW s y k m=e->e≠0->((i,e):Nat×Int)=(xi,xe):=fun he h0=>badM ((mR hm2 (by rw[he];exact h0) hok2).trans he) h0;have hrr:=qK s hl m.of;refine ix (cU hm2) ⟨rfl,?_⟩;(conv=>whnf);refine st ?_;(conv=>whnf);refine(Bool.eq_false_or_eq_true ((gF s).contains m.of)).elim (fun hc=>?_) (fun hc=>?_);rotate_left
   ·have hno:mC (fun r:Rc=>r.name==m.of) s.rc<0:=by
     rcases jT (fun r:Rc=>r.name==m.of) s.rc with⟨h,_⟩|⟨_,_,_,_,_,h⟩
     ·exact h
     ·rw[show(gF s).contains m.of=s.rc.any fun r=>r.name==m.of from dG _ _ _,h] at hc;cases hc
    refine GDraw.pan 9 _ rfl (by kernel_rfl) ?_;(conv=>whnf);refine cP hrr ?_;(conv=>whnf);refine gR gA 2 5 (w:=decide (mC (fun r:Rc=>r.name==m.of) s.rc<0)) (fun h9=>?_) (fun h9=>absurd hno (aC h9));(conv=>whnf);exact mU (badJ (aZ (by rw[hc];rfl)) (by decide)) (by decide)
   refine(qN hc).elim fun ir hir=>?_;rw[hir.1] at hrr;have hJ:sW s y k m=dZ (((y.ms.take k).map (·.of)).contains m.of) 6 (dZ (!vD m.keep 1 3) 1 (U5 s y m)):=bJ (by rw[hc];rfl);rw[dG] at hJ;refine bC (by kernel_rfl) ?_;(conv=>whnf);refine cP hrr ?_;(conv=>whnf);refine gR gA 2 5 (w:=false) (fun h9=>nomatch h9) (fun _=>?_);(conv=>whnf);have hmb:=z8 ⟨[],[],y.ms.take k,0,[],0,0⟩ (by unfold bH;show(y.ms.take k).length<_;rw[bP];omega) m.of;have hmo:decide (mC (fun z:Mb=>z.of==m.of) (y.ms.take k)>=0)=(y.ms.take k).any fun z=>z.of==m.of:=nE _ _;refine(Bool.eq_false_or_eq_true ((y.ms.take k).any fun z=>z.of==m.of)).elim (fun hd=>?_) (fun hd=>?_)
   ·refine GDraw.pan 10 _ rfl (by kernel_rfl) ?_;(conv=>whnf);refine XD (zs:=lX (y.ms.take k)) (VG _) (by rw[iV];omega) ?_ (List.map_take ..).symm;(conv=>whnf);refine cP hmb ?_ (wC (Wks.agg (wC (cO _) (wC (cO _) (wC (cO _) (wC (cO _) (wC (bK _ _) (wR _))))))) (wR _));(conv=>whnf);refine gR gA 2 6 (w:=decide (mC (fun z:Mb=>z.of==m.of) (y.ms.take k)>=0)) (fun h9=>?_) (fun h9=>by rw[hmo,hd] at h9;cases h9);(conv=>whnf);exact mU (badJ (hJ.trans (aZ hd)) (by decide)) (by decide)
   refine bC (by kernel_rfl) ?_;(conv=>whnf);refine XD (zs:=lX (y.ms.take k)) (VG _) (by rw[iV];omega) ?_ (List.map_take ..).symm;(conv=>whnf);refine cP hmb ?_ (wC (Wks.agg (wC (cO _) (wC (cO _) (wC (cO _) (wC (cO _) (wC (bK _ _) (wR _))))))) (wR _));(conv=>whnf);refine gR gA 2 6 (w:=decide (mC (fun z:Mb=>z.of==m.of) (y.ms.take k)>=0)) (fun h9=>by rw[hmo,hd] at h9;cases h9) (fun _=>?_);(conv=>whnf);replace hJ:=hJ.trans (bJ hd);refine cP (lG m.keep 1 3) ?_;(conv=>whnf);refine gR gA 2 1 (fun h=>?_) (fun h=>?_)<;>conv=>whnf
   ·exact mU (badJ (hJ.trans (aZ h)) (by decide)) (by decide)
   replace hJ:=hJ.trans (bJ h);have hsel:=NH s hz' (met++[y.name]) i y m (y3 m (aN hm2)) hc hown hg;by_cases h0:U5 s y m=0
   ·rw[h0] at hsel;refine cS [0,1,2] hsel ?_;(conv=>whnf);exact nx () hlt2 ⟨hlt2,kC hm2 (hJ.trans h0) hok2⟩
   ·rw[p9 h0] at hsel;refine cS [0,1,2] hsel ?_;(conv=>whnf);exact mU (badJ hJ h0) h0
  have hM0:∀j m,y.ms[j]?=some m->sW s y j m=0:=fun j z hz=>hok2 j z (by have:=aC h;rw[iV] at this;have:=(List.getElem?_eq_some_iff.1 hz).1;omega) hz;have hmem:∀m∈y.ms,(gF s).contains m.of=true:=fun m hm9=>by
   obtain⟨j,hj⟩:=List.getElem?_of_mem hm9;simpa using(lC (hM0 j m hj) (by decide)).1
  replace hE:=hE.trans (oO (mQ hM0));refine cP (lG y.order 1 5) ?_;conv=>whnf
  refine gR gA 2 1 (fun h=>?_) (fun h=>?_)<;>conv=>whnf
  ·exact mU (bad hE h (by decide)) (by decide)
  replace hE:=hE.trans (bJ h);refine aF (fun h=>?_) (fun h=>?_)<;>conv=>whnf
  focus
   rw[aG (show y.order=5 by simpa using h)] at hE;have hso:=UC s hz' (met++[y.name]) i y (by unfold bH;omega) y2 hmem hg;by_cases h0:C1 s y=0;rotate_left
   ·rw[p9 h0] at hso;rw[oP h0] at hE;refine cS [0,1,2] hso ?_;(conv=>whnf);exact mU (bad0 hE h0) h0
   rw[h0] at hso;replace hE:=hE.trans (oO h0);refine cS [0,1,2] hso ?_
  rotate_left;focus
   rw[aE (show¬y.order=5 by simpa using h)] at hE;have badO:(!y.keys.isEmpty||y.dups !=0)=true->((i,(1:Int)):Nat×Int)=(xi,xe):=fun h=>bad0 (hE.trans (by rw[aZ h,oP (by decide)])) (by decide);refine aF (fun h3=>?_) (fun h3=>?_)<;>conv=>whnf
   ·refine gR gA 2 1 (w:=true) (fun _=>?_) (fun h9=>nomatch h9);(conv=>whnf);exact mU (badO (by have:((sX y.keys).length:Int)>0:=aB h3;rw[kN] at this;cases hk:y.keys with|nil=>rw[hk] at this;exact absurd this (by decide)|cons a l=>rfl)) (by decide)
   have hke:y.keys.isEmpty=true:=by have:¬((sX y.keys).length:Int)>0:=aC h3;rw[kN] at this;cases hk:y.keys with|nil=>rfl|cons a l=>rw[hk] at this;simp at this
   refine gR gA 2 1 (fun h4=>?_) (fun h4=>?_)
   ·(conv=>whnf);exact mU (badO (by rw[show(y.dups !=0)=true from h4,Bool.or_true])) (by decide)
   replace hE:=hE.trans (oO (bJ (by rw[hke];exact h4)))
  all_goals
   (conv=>whnf);refine cP (lG y.mode 1 3) ?_;(conv=>whnf);refine gR gA 2 1 (fun h=>?_) (fun h=>?_)<;>conv=>whnf
   ·exact mU (bad hE h (by decide)) (by decide)
   replace hE:=hE.trans (bJ h);refine aF (fun h5=>?_) (fun h5=>?_)<;>conv=>whnf
   ·refine gR gA 2 10 (fun h6=>?_) (fun h6=>?_)<;>conv=>whnf
    ·exact mU (bad hE (by rw[show(y.mode==3)=true from h5];exact h6) (by decide)) (by decide)
    exact nx () hlt ⟨hlt,kC hy (hE.trans (bJ (by rw[show(y.mode==3)=true from h5];exact h6))) hok⟩ hm
   refine gR gA 2 10 (w:=false) (fun h9=>nomatch h9) (fun _=>?_);(conv=>whnf);exact nx () hlt ⟨hlt,kC hy (hE.trans (bJ (by rw[show(y.mode==3)=false from h5];rfl))) hok⟩ hm
def oM (s:Sch):By×Nat×Int:=XG kO r7 (fun l c=>CZ l [] c) s
theorem xE {α:Type} {f:Nat->α->Int} {n:Nat} {l:List α} {p:Nat×Int} (h:eP f n l=some p):p.2≠0:=by
 induction l generalizing n with
 |nil=>cases h
 |cons x l ih=>
  unfold eP at h;by_cases h0:f n x=0
  ·rw[aG h0] at h;exact ih h
  ·rw[aE h0] at h;cases h;exact h0
theorem SU {o:Option (Nat×Int)} (h:(o.getD (0,0)).2=0) (hn:∀p,o=some p->p.2≠0):o=none:=by
 cases o with
 |none=>rfl
 |some p=>exact absurd h (hn p rfl)
theorem z7 (s:Sch):oM s=if(l5 s).2=0 then(if(mY s).2=0 then(if(oW s).2=0 then([],0,0) else(qI,oW s)) else(l6,mY s)) else(tU,l5 s):=by
 have h3:H7 s=if(oW s).2=0 then([],0,0) else(qI,oW s):=by
  unfold H7 oW;by_cases h:s.st.length>60
  ·rw[aG h,aG h];rfl
  ·rw[aE h,aE h];show(match eP (AN s) 0 s.st with|some (i,e)=>(qI,i,e)|none=>([],0,0))=_;cases hf:eP (AN s) 0 s.st with
   |none=>rfl
   |some p=>exact(aE (xE hf)).symm
 have h2:H9 kO r7 (fun l c=>CZ l [] c) s=if(mY s).2=0 then H7 s else(l6,mY s):=by
  unfold H9 mY;cases vD s.rc.length 1 10 with
  |false=>rfl
  |true=>
   show(match eP (y9 s) 0 s.rc with|some (i,e)=>(l6,i,e)|none=>H7 s)=if((eP (y9 s) 0 s.rc).getD (0,0)).2=0 then _ else(l6,(eP (y9 s) 0 s.rc).getD (0,0));cases hf:eP (y9 s) 0 s.rc with
   |none=>rfl
   |some p=>exact(aE (xE hf)).symm
 have h1:oM s=if(l5 s).2=0 then H9 kO r7 (fun l c=>CZ l [] c) s else(tU,l5 s):=by
  unfold oM XG l5;cases vD s.ar.length 1 6 with
  |false=>rfl
  |true=>
   show(match eP (fun i a=>mD ((dD s).take i) a) 0 s.ar with|some (i,e)=>(tU,i,e)|none=>H9 kO r7 (fun l c=>CZ l [] c) s)=if((eP (fun i a=>mD ((dD s).take i) a) 0 s.ar).getD (0,0)).2=0 then _ else(tU,(eP (fun i a=>mD ((dD s).take i) a) 0 s.ar).getD (0,0));cases hf:eP (fun i a=>mD ((dD s).take i) a) 0 s.ar with
   |none=>rfl
   |some p=>exact(aE (xE hf)).symm
 rw[h1,h2,h3]
theorem ED {s:Sch} (h:(mY s).2=0):∀r∈s.rc,KE kO r:=by
 unfold mY at h;cases hb:vD s.rc.length 1 10 with
 |false=>rw[hb] at h;exact absurd (show(4:Int)=0 from h) (by decide)
 |true=>
  rw[hb] at h;exact RX (f:=fun i=>dD s++(gF s).take i) (SU h fun p hp=>xE hp)
theorem IU [MaxL] {s:List GObj}:vH 0 s=s:=aG rfl
theorem F3 {α β:Type} {x:Option (α×β)} {K:α×β->Prop} (r:α) (h:x.map (·.1)=some r) (hk:∀b,K (r,b)):tI x K:=by
 obtain⟨⟨a,b⟩,h1,rfl⟩:=Option.map_eq_some_iff.1 h;rw[h1];exact hk b
theorem XN [MaxL] (s:Sch) (hz:lU s):SC Tryz.prog 12 [nG s] [] (.val (.tup [.s (oM s).1,.i .i64 ((oM s).2.1:Nat),.i .i64 (oM s).2.2])) []:=by
 have hA:=XL s hz.1.1;have hR:=RP s hz;rw[z7];refine cW Tryz.func12 rfl ?_;conv=>whnf
 by_cases h1:(l5 s).2=0;rotate_left
 ·rw[aE h1];rw[p9 h1,zG h1] at hA;refine cG [5,4] hA ?_;conv=>whnf
  exact F3 (K:=fun q=>Owes [] _ [] q.1 q.2) (.val (.tup [.s tU,.i .i64 ((l5 s).1:Nat),.i .i64 (l5 s).2])) (by kernel_rfl) fun _=>b8 (.refl _) (fun _=>rfl)
 rw[aG h1];rw[h1,IU] at hA;refine cG [5,4] hA ?_;conv=>whnf
 by_cases h2:(mY s).2=0;rotate_left
 ·rw[aE h2];rw[p9 h2,zG h2] at hR;refine cG [5,4] hR ?_;conv=>whnf
  exact F3 (K:=fun q=>Owes [] _ [] q.1 q.2) (.val (.tup [.s l6,.i .i64 ((mY s).1:Nat),.i .i64 (mY s).2])) (by kernel_rfl) fun _=>b8 (.refl _) (fun _=>rfl)
 rw[aG h2];rw[h2,IU] at hR;have hS:=a0A s hz (ED h2);refine cG [5,4] hR ?_;conv=>whnf
 by_cases h3:(oW s).2=0;rotate_left
 ·rw[aE h3];rw[p9 h3,zG h3] at hS;refine cG [5,4] hS ?_;conv=>whnf
  exact F3 (K:=fun q=>Owes [] _ [] q.1 q.2) (.val (.tup [.s qI,.i .i64 ((oW s).1:Nat),.i .i64 (oW s).2])) (by kernel_rfl) fun _=>b8 (.refl _) (fun _=>rfl)
 rw[aG h3];rw[h3,IU] at hS;refine cG [5,4] hS ?_;conv=>whnf
 refine st ?_;conv=>whnf
 refine st ?_;conv=>whnf
 refine st ?_;conv=>whnf
 exact vR (g:=.tup [.s [],.i .i64 0,.i .i64 0]) (by kernel_rfl) (.refl _) (fun _=>rfl)
theorem PR [MaxL] (s:Sch) (hz:lU s):SC Tryz.prog 14 [nG s] [] (.val (.b ((oM s).2.2==0))) []:=by
 have hw:=XN s hz;refine cW Tryz.func14 rfl ?_;conv=>whnf
 refine cP hw ?_;conv=>whnf
 exact dH 0
set_option maxHeartbeats 8000000 in
theorem a1F [MaxL] (s:Sch) (hz:lU s) (hg:∀r∈s.rc,KE kO r) (i:Nat) (y:Sy) (hy:s.st[i]?=some y):SC Tryz.prog 56 [nG s,.i .i64 (i:Nat)] [] (.val (.i .i64 (AN s i y))) []:=by
 have hz':=hz;obtain⟨⟨ha,hl,ht⟩,hr,hst⟩:=hz;obtain⟨y1,y2,y3⟩:=hst y (aN hy);have hrc:(gF s).contains y.owner=s.rc.any fun r=>r.name==y.owner:=dG _ _ _;generalize hX:AN s i y=xe;unfold AN ND kX at hX;rw[a23,<-GA hy sQ,<-nE,<-nE] at hX;have hn:=AW y.name;refine dL PA mixed Tryz.func56 rfl (bL rfl) (by first|exact rL _|simp) rfl ?_;conv=>whnf
 refine ix (cU hy) ⟨rfl,?_⟩;conv=>whnf
 refine st ?_;conv=>whnf
 refine cP hn ?_;conv=>whnf
 refine aF (fun h=>?_) (fun h=>?_)<;>conv=>whnf
 ·exact bG ((aZ (by rw[h];rfl)).symm.trans hX)
 rw[h] at hX;refine aF (fun h=>?_) (fun h=>?_)<;>conv=>whnf
 ·exact bG ((aZ h).symm.trans hX)
 replace hX:=(bJ h).symm.trans hX;refine cP (zE s ha y.name) ?_;conv=>whnf
 refine aF (fun h=>?_) (fun h=>?_)<;>conv=>whnf
 ·exact bG ((aZ (by rw[show decide (0<=mC (fun x:Ar=>x.name==y.name) s.ar)=true from h];rfl)).symm.trans hX)
 rw[show decide (0<=mC (fun x:Ar=>x.name==y.name) s.ar)=false from h] at hX;refine cP (mE s hl y.name) ?_;conv=>whnf
 refine aF (fun h=>?_) (fun h=>?_)<;>conv=>whnf
 ·exact bG ((aZ (by rw[show decide (0<=mC (fun x:Rc=>x.name==y.name) s.rc)=true from h];rfl)).symm.trans hX)
 rw[show decide (0<=mC (fun x:Rc=>x.name==y.name) s.rc)=false from h] at hX;refine cP (IM s ht y.name) ?_;conv=>whnf
 refine aF (fun h=>?_) (fun h=>?_)<;>conv=>whnf
 ·exact bG ((aZ h).symm.trans hX)
 replace hX:=(bJ h).symm.trans hX;refine aF (fun h=>?_) (fun h=>?_)<;>conv=>whnf
 focus
  have how:(y.owner !=[])=true:=h;rw[how] at hX;refine cP (mE s hl y.owner) ?_;conv=>whnf
  refine aF (fun h2=>?_) (fun h2=>?_)<;>rw[nD,<-hrc] at h2<;>conv=>whnf
  ·exact bG ((aZ h2).symm.trans hX)
  have hown:y.owner≠[]->(gF s).contains y.owner=true:=fun _=>by simpa using h2
  replace hX:=(bJ h2).symm.trans hX
 rotate_left;focus
  have how:(y.owner !=[])=false:=h;rw[how] at hX;have hown:y.owner≠[]->(gF s).contains y.owner=true:=fun h9=>absurd (by simpa using how) h9;replace hX:=(bJ (w:=false&&_) rfl).symm.trans hX
 all_goals
  refine aF (fun h=>?_) (fun h=>?_)<;>rw[iV] at h<;>conv=>whnf
  ·exact bG ((aZ (VD h)).symm.trans hX)
  refine aF (fun h2=>?_) (fun h2=>?_)<;>rw[iV] at h2<;>conv=>whnf
  ·exact bG ((aZ (VC h2)).symm.trans hX)
  replace hX:=(bJ (VB h h2)).symm.trans hX;have badM:∀{e:Int},kR (sW s y) y.ms=e->e≠0->e=xe:=fun he h0=>(by rw[he,oP h0] at hX;exact hX);have y1':=y1;unfold bH at y1';refine dF 2 y.ms.length (fun k _=>∀j m,j<k->y.ms[j]?=some m->sW s y j m=0) (fun k _=>[(2,.ptr 0 0),(5,.ptr 1 0),(6,.i .i64 (k:Nat))]) (fun k (_:Unit)=>UM s y) [] () (fun j n h=>absurd h (d8 j)) (fun k _ φ1 hk hok=>?_);conv=>whnf
  refine aF (fun h=>?_) (fun h=>?_)<;>conv=>whnf
  ·have hlt:k<y.ms.length:=by have:=aB h;rw[iV] at this;omega
   refine(j6 hlt).elim fun m hm=>?_;refine cP (UW s hz' y y1 k m hm (y3 m (aN hm)) hown hg) ?_;(conv=>whnf);refine aF (fun h4=>?_) (fun h4=>?_)<;>conv=>whnf
   ·exact bG (badM (mR hm (by simpa using h4) hok) (by simpa using h4))
   exact nx () hlt ⟨hlt,kC hm (by simpa using h4) hok⟩
  have hM0:∀j m,y.ms[j]?=some m->sW s y j m=0:=fun j z hz=>hok j z (by have:=aC h;rw[iV] at this;have:=(List.getElem?_eq_some_iff.1 hz).1;omega) hz;have hmem:∀m∈y.ms,(gF s).contains m.of=true:=fun m hm9=>by
   obtain⟨j,hj⟩:=List.getElem?_of_mem hm9;simpa using(lC (hM0 j m hj) (by decide)).1
  rw[oO (mQ hM0)] at hX;refine aF (fun h=>?_) (fun h=>?_)<;>conv=>whnf
  ·exact bG ((aZ (VD h)).symm.trans hX)
  refine aF (fun h2=>?_) (fun h2=>?_)<;>conv=>whnf
  ·exact bG ((aZ (VC h2)).symm.trans hX)
  replace hX:=(bJ (VB h h2)).symm.trans hX;clear h h2;refine aF (fun h=>?_) (fun h=>?_)<;>conv=>whnf
  focus
   rw[aG (show y.order=5 by simpa using h)] at hX;refine cP (UO s hz' y y1 y2 hmem hg) ?_;(conv=>whnf);refine aF (fun h4=>?_) (fun h4=>?_)
   ·(conv=>whnf);rw[oP (by simpa using h4)] at hX;exact bG hX
   rw[oO (show C1 s y=0 by simpa using h4)] at hX
  rotate_left;focus
   rw[aE (show¬y.order=5 by simpa using h)] at hX;have badO:(!y.keys.isEmpty||y.dups !=0)=true->(1:Int)=xe:=fun h=>(by rw[aZ h,oP (by decide)] at hX;exact hX);refine aF (fun h3=>?_) (fun h3=>?_)<;>conv=>whnf
   ·exact bG (badO (by have:((sX y.keys).length:Int)>0:=aB h3;rw[kN] at this;cases hk:y.keys with|nil=>rw[hk] at this;exact absurd this (by decide)|cons a l=>rfl))
   have hke:y.keys.isEmpty=true:=by have:¬((sX y.keys).length:Int)>0:=aC h3;rw[kN] at this;cases hk:y.keys with|nil=>rfl|cons a l=>rw[hk] at this;simp at this
   refine aF (fun h4=>?_) (fun h4=>?_)
   ·(conv=>whnf);exact bG (badO (by rw[show(y.dups !=0)=true from h4,Bool.or_true]))
   rw[oO (bJ (by rw[hke];exact h4))] at hX
  all_goals
   (conv=>whnf);refine aF (fun h=>?_) (fun h=>?_)<;>conv=>whnf
   ·exact bG ((aZ (VD h)).symm.trans hX)
   refine aF (fun h2=>?_) (fun h2=>?_)<;>conv=>whnf
   ·exact bG ((aZ (VC h2)).symm.trans hX)
   replace hX:=(bJ (VB h h2)).symm.trans hX;refine aF (fun h5=>?_) (fun h5=>?_)<;>conv=>whnf
   ·rw[show(y.mode==3)=true from h5] at hX;refine aF (fun h6=>?_) (fun h6=>?_)<;>conv=>whnf
    ·exact bG ((aZ h6).symm.trans hX)
    exact bG ((bJ h6).symm.trans hX)
   rw[show(y.mode==3)=false from h5] at hX;exact bG hX
theorem NG {s:Sch} {p:Nat×Int} (h:l5 s=p) (he:p.2≠0):oM s=(tU,p):=by rw[z7,h,aE he]
theorem NF {s:Sch} {p:Nat×Int} (h0:(l5 s).2=0) (h:mY s=p) (he:p.2≠0):oM s=(l6,p):=by rw[z7,aG h0,h,aE he]
theorem UA {s:Sch} {p:Nat×Int} (h0:(l5 s).2=0) (h1:(mY s).2=0) (h:oW s=p) (he:p.2≠0):oM s=(qI,p):=by rw[z7,aG h0,aG h1,h,aE he]
set_option maxHeartbeats 8000000 in
theorem XS [MaxL] (s:Sch) (hz:lU s) (hc:∀r∈s.rc,r.check.length<1000000):SC Tryz.prog 13 [nG s] [] (.val (.tup [.s (oM s).1,.i .i64 ((oM s).2.1:Nat),.i .i64 (oM s).2.2])) []:=by
 have hz':=hz;obtain⟨⟨ha,hl,ht⟩,hr,hst⟩:=hz;unfold bH at ha hl ht;have la:(AA s.ar).length=s.ar.length:=gV _ _;have lr:(yA s.rc).length=s.rc.length:=gV _ _;have lt:(vF s.st).length=s.st.length:=gV _ _;have hA:l5 s=if !vD s.ar.length 1 6 then(0,4) else(eP (fun i a=>mD ((dD s).take i) a) 0 s.ar).getD (0,0):=rfl;have hR:mY s=if !vD s.rc.length 1 10 then(0,4) else(eP (y9 s) 0 s.rc).getD (0,0):=rfl;have hS:oW s=if s.st.length>60 then(0,4) else(eP (AN s) 0 s.st).getD (0,0):=rfl;generalize hK:oM s=K;refine cW Tryz.func13 rfl ?_;conv=>whnf
 refine aF (fun h=>?_) (fun h=>?_)<;>rw[la] at h<;>conv=>whnf
 ·rw[<-hK,NG (hA.trans (aG (VD h))) (by decide)];exact dH 0
 refine aF (fun h2=>?_) (fun h2=>?_)<;>rw[la] at h2<;>conv=>whnf
 ·rw[<-hK,NG (hA.trans (aG (VC h2))) (by decide)];exact dH 0
 rw[VB h h2,aE (by simp)] at hA;clear h h2;refine dF 1 s.ar.length (fun i _=>∀j z,j<i->s.ar[j]?=some z->mD ((dD s).take j) z=0) (fun i _=>[(1,.ptr 0 0),(5,.i .i64 (i:Nat))]) (fun i (_:Unit)=>[.box 26 (nI s)]) [] () (fun j z h=>absurd h (d8 j)) (fun i _ φ0 hi hok=>?_);conv=>whnf
 refine aF (fun h=>?_) (fun h=>?_)<;>conv=>whnf
 ·have hlt:i<s.ar.length:=by have:=aB h;rw[la] at this;omega
  refine(j6 hlt).elim fun y hy=>?_;refine cP (a0P s (by unfold bH;exact ha) i y hy) ?_;conv=>whnf
  refine aF (fun h4=>?_) (fun h4=>?_)<;>conv=>whnf
  ·have h5:mD ((dD s).take i) y≠0:=by simpa using h4
   rw[<-hK,NG (hA.trans (by rw[nS (f:=fun i a=>mD ((dD s).take i) a) hy h5 hok])) h5];exact dH 0
  exact nx () hlt ⟨hlt,kC (f:=fun i a=>mD ((dD s).take i) a) hy (by simpa using h4) hok⟩
 have hA0:(l5 s).2=0:=by rw[hA,nR (f:=fun i a=>mD ((dD s).take i) a) (by have:=aC h;rw[la] at this;omega) hok];rfl
 clear h;refine aF (fun h=>?_) (fun h=>?_)<;>rw[lr] at h<;>conv=>whnf
 ·rw[<-hK,NF hA0 (hR.trans (aG (VD h))) (by decide)];exact dH 0
 refine aF (fun h2=>?_) (fun h2=>?_)<;>rw[lr] at h2<;>conv=>whnf
 ·rw[<-hK,NF hA0 (hR.trans (aG (VC h2))) (by decide)];exact dH 0
 rw[VB h h2,aE (by simp)] at hR;clear h h2;refine dF 1 s.rc.length (fun i _=>∀j z,j<i->s.rc[j]?=some z->y9 s j z=0) (fun i _=>[(1,.ptr 0 0),(7,.i .i64 (i:Nat))]) (fun i (_:Unit)=>[.box 26 (nI s)]) [] () (fun j z h=>absurd h (d8 j)) (fun i _ φ0 hi hok=>?_);conv=>whnf
 refine aF (fun h=>?_) (fun h=>?_)<;>conv=>whnf
 ·have hlt:i<s.rc.length:=by have:=aB h;rw[lr] at this;omega
  refine(j6 hlt).elim fun y hy=>?_;refine cP (UP s hz' hc i y hy) ?_;conv=>whnf
  refine aF (fun h4=>?_) (fun h4=>?_)<;>conv=>whnf
  ·have h5:y9 s i y≠0:=by simpa using h4
   rw[<-hK,NF hA0 (hR.trans (by rw[nS hy h5 hok])) h5];exact dH 0
  exact nx () hlt ⟨hlt,kC hy (by simpa using h4) hok⟩
 have hR0:(mY s).2=0:=by rw[hR,nR (by have:=aC h;rw[lr] at this;omega) hok];rfl
 clear h;refine aF (fun h=>?_) (fun h=>?_)<;>rw[lt] at h<;>conv=>whnf
 ·rw[<-hK,UA hA0 hR0 (hS.trans (aG (by have:=aB h;omega))) (by decide)];exact dH 0
 rw[aE (by have:=aC h;omega)] at hS;clear h;refine dF 1 s.st.length (fun i _=>∀j z,j<i->s.st[j]?=some z->AN s j z=0) (fun i _=>[(1,.ptr 0 0),(9,.i .i64 (i:Nat))]) (fun i (_:Unit)=>[.box 26 (nI s)]) [] () (fun j z h=>absurd h (d8 j)) (fun i _ φ0 hi hok=>?_);conv=>whnf
 refine aF (fun h=>?_) (fun h=>?_)<;>conv=>whnf
 ·have hlt:i<s.st.length:=by have:=aB h;rw[lt] at this;omega
  refine(j6 hlt).elim fun y hy=>?_;refine cP (a1F s hz' (ED hR0) i y hy) ?_;conv=>whnf
  refine aF (fun h4=>?_) (fun h4=>?_)<;>conv=>whnf
  ·have h5:AN s i y≠0:=by simpa using h4
   rw[<-hK,UA hA0 hR0 (hS.trans (by rw[nS hy h5 hok])) h5];exact dH 0
  exact nx () hlt ⟨hlt,kC hy (by simpa using h4) hok⟩
 have hS0:(oW s).2=0:=by rw[hS,nR (by have:=aC h;rw[lt] at this;omega) hok];rfl
 rw[<-hK,z7,aG hA0,aG hR0,aG hS0];exact dH 0
theorem V0 [MaxL] (s:Sch) (hz:lU s) (hc:∀r∈s.rc,r.check.length<1000000):SC Tryz.prog 15 [nG s] [] (.val (.b ((oM s).2.2==0))) []:=by
 have hw:=XS s hz hc;refine cW Tryz.func15 rfl ?_;conv=>whnf
 refine cP hw ?_;conv=>whnf
 exact dH 0
def hU (f:Term->By) (L:List Term) (i:Nat):List By:=(L.take i).foldl (fun l x=>a2F l (f x)) []
def EV (l:List Itm):Bool:=(l.take 20).all (fun i=>decide (i.name.length<=100))&&decide (l.length<=20)
theorem Y8 [MaxL] (l:List Itm):SC Tryz.prog 48 [.sl .none (gI l)] [] (.val (.b (EV l))) []:=by
 have hlen:=oD l;unfold EV;refine cW Tryz.func48 rfl ?_;conv=>whnf
 refine dC (fun i:Nat=>i<=l.length/\i<=20/\∀z∈l.take i,z.name.length<=100) (fun i=>[(0,.sl .none (gI l)),(3,.i .i64 (i:Nat))]) (fun _=>⟨[],0,[]⟩) (fun i=>l.length - i) 0 ⟨zL _,zL _,(fun z h=>by simp at h)⟩ ⟨rfl,rfl,trivial⟩ rfl (fun i φ0 hi=>?_);obtain⟨hi,hi2,hok⟩:=hi;have dH:(i=l.length∨i=20)->(l.take 20).all (fun i=>decide (i.name.length<=100))=true:=fun hh=>by
  rw[aS];intro x hx;refine bQ (hok x ?_);rcases hh with rfl|rfl
  ·rw[b9];exact List.mem_of_mem_take hx
  ·exact hx
 have hle:decide (((gI l).length:Int)<=20)=decide (l.length<=20):=by rw[hlen,decide_eq_decide];omega
 conv=>whnf
 refine aF (fun h=>?_) (fun h=>?_)<;>conv=>whnf
 rotate_left
 ·have hie:i=l.length:=by have:=aC h;rw[hlen] at this;omega
  refine cQ ?_;rw[dH (.inl hie),Bool.true_and];exact hle
 have hlt:i<l.length:=by have:=aB h;rw[hlen] at this;omega
 refine aF (fun h2=>?_) (fun h2=>?_)<;>conv=>whnf
 rotate_left
 ·have hie:i=20:=by have:=aC h2;omega
  refine cQ ?_;rw[dH (.inr hie),Bool.true_and];exact hle
 have hlt2:i<20:=by have:=aB h2;omega
 obtain⟨y,hy⟩:∃y,l[i]?=some y:=⟨l[i],gL hlt⟩;refine⟨cN _,_,by rw[aA];exact n7 hy,rfl,?_⟩;conv=>whnf
 refine aF (fun h3=>?_) (fun h3=>?_)<;>conv=>whnf
 ·have h3':¬y.name.length<=100:=by have:=aB h3;omega
  refine cQ ?_;have:(l.take 20).all (fun i=>decide (i.name.length<=100))=false:=List.all_eq_false.2 ⟨y,aN (i:=i) (by rw[dJ,aG hlt2];exact hy),by simpa using h3'⟩;rw[this];rfl
 ·have h3':y.name.length<=100:=by have:=aC h3;omega
  refine⟨l.length - (i+1),(by show _<l.length - i;omega),i+1,⟨hlt,hlt2,fun z hz=>?_⟩,rfl,⟨rfl,b7 (by omega),trivial⟩,rfl⟩;rw[cH,hy] at hz;rcases List.mem_append.1 hz with hz|hz
  ·exact hok z hz
  ·rw[List.mem_singleton.1 (show z∈[y] from hz)];exact h3'
