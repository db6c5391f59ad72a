/- Part of ViewWrong. -/
import Derived.Test.YtimgfjldcdhejaaGreatDoorK28
set_option linter.all false
set_option maxRecDepth 100000
namespace Go.Proofs.YtimgfjldcdhejaaGreatDoor
open Go.RowKit
def EL (s:Sch) (i:Nat) (t:Sy):Int:=TX s (bW s++(fV s++(sA s).take i)) t
def sJ (s:Sch):Nat×Int:=if s.st.length>60 then(0,4) else(dZ (EL s) 0 s.st).getD (0,0)
theorem a1u [MaxL] (l:List Mb):(jB l).all (fun x=>x.cells.length==4)=true:=by
 rw[aQ];intro x hx;obtain⟨b,_,rfl⟩:=List.mem_map.1 hx;rfl
set_option maxHeartbeats 8000000 in
theorem a5m [MaxL] (s:Sch) (hz:kO s) (hg:∀r∈s.rc,Q0 kR r):SC Tryz.prog 137 [.ptr 0 0] (lG s (bW s++fV s)) (vT nF (sJ s).1 (sJ s).2) (oZ (sJ s).2 (lG s (bW s++(fV s++sA s)))):=by
 have hz':=hz;obtain⟨⟨ha,hl,ht⟩,hr,hst⟩:=hz;unfold b9 at ht;have hlen:(tQ s.st).length=s.st.length:=cL _ _;generalize hX:sJ s=X;obtain⟨xi,xe⟩:=X;unfold sJ at hX;have hh:(oZ xe (lG s (bW s++(fV s++sA s)))).all GObj.notHeld=true:=by unfold oZ;split<;>rfl
 have hs:(lG s (bW s++fV s)).length<=(oZ xe (lG s (bW s++(fV s++sA s)))).length:=by unfold oZ;split<;>exact rL _
 refine SC.of_gwpD 2 oP mixed Tryz.func137 rfl (bL rfl) hs hh ?_;conv=>whnf
 apply gM<;>intro h<;>conv=>whnf
 ·have h9:s.st.length>60:=by have:=aB h;omega
  rw[aD h9] at hX;refine cS [] (xW nF 0 4) ?_;conv=>whnf
  exact oO hX (by decide)
 have h9:¬s.st.length>60:=by have:=aA h;omega
 rw[aC h9] at hX;refine bE 2 s.st.length (fun i _=>∀j z,j<i->s.st[j]?=some z->EL s j z=0) (fun i _=>[(0,.ptr 0 0),(19,.sl .none (tQ s.st)),(20,.i .i64 (tQ s.st).length),(21,.i .i64 (i:Nat))]) (fun i (_:Unit)=>lG s (bW s++(fV s++(sA s).take i))) [] () (fun j z h=>absurd h (bP j)) (fun i _ φ0 hi hok=>?_) (hσ:=by rw[List.take_zero,f5]);conv=>whnf
 apply gM<;>intro h<;>conv=>whnf
 rotate_left
 ·have hie:i=s.st.length:=by have:=aA h;omega
  rw[kC (Nat.le_of_eq hie.symm) hok] at hX;cases hX;have hm:(sA s).take i=sA s:=aW (by rw[hie];simp[sA]);show OwesD 2 _ _ (lG s (bW s++(fV s++sA s))) _ _;exact .val (cQ 2 (ho:=aR (fun m=>lG s (bW s++(fV s++m))) hm))
 have hlt:i<s.st.length:=by have:=aB h;omega
 obtain⟨y,hy⟩:∃y,s.st[i]?=some y:=⟨s.st[i],gL hlt⟩;obtain⟨y1,y2,y3⟩:=hst y (aE hy);unfold b9 at y1;have bad0:∀{e:Int},EL s i y=e->e≠0->((i,e):Nat×Int)=(xi,xe):=fun he h0=>by
  subst he;rw[kD hy h0 hok] at hX;exact hX
 have bad:∀{w:Bool} {e b:Int},EL s i y=cX w e b->w=true->e≠0->((i,e):Nat×Int)=(xi,xe):=fun he h h0=>bad0 (he.trans (aU h)) h0;generalize hB:(UF (kE (uC s y) y.ms) (cX (!t8 y.order 1 5) 1 (UF (if y.order=5 then G0 s y else cX (!y.keys.isEmpty||y.dups !=0) 1 0)
   (cX (!t8 y.mode 1 3) 1 (cX (y.mode==3&&y.order !=5) 10 0)))))=B
 have hE:EL s i y=gJ (bW s++(fV s++(sA s).take i)) y.name (cX (y.owner !=[]&&!((fV s).contains y.owner)) 5 (cX (!t8 y.ms.length 1 4) 11 B)):=by rw[<-hB];rfl
 rw[DC] at hE;have hm:lG s (bW s++(fV s++(sA s).take i)++[y.name])=lG s (bW s++(fV s++(sA s).take (i+1))):=by rw[bD,bD];exact aR (fun m=>lG s (bW s++(fV s++m))) (mW (fun t:Sy=>t.name) hy).symm
 generalize bW s++(fV s++(sA s).take i)=met at*;refine ix (aY hy) ⟨rfl,?_⟩;conv=>whnf
 refine st ?_;conv=>whnf
 refine st ?_;conv=>whnf
 by_cases hn:gJ met y.name 0=0;rotate_left
 ·rw[aC hn] at hE;refine cG [0,1] (JI (kd:=nF) (i:=i) hn) ?_;conv=>whnf
  exact oO (bad0 hE hn) hn
 rw[aD hn] at hE;refine cG [0,1] (JH (kd:=nF) (i:=i) hn) ?_;conv=>whnf
 have hro:=wM s hl y.owner;by_cases how:(y.owner !=[]&&!((fV s).contains y.owner))=true
 ·obtain⟨ho1,ho2⟩:=(aF ..).mp how;have hno:jJ (fun r:Rc=>r.name==y.owner) s.rc<0:=by
   rcases j2 (fun r:Rc=>r.name==y.owner) s.rc with⟨h,_⟩|⟨_,_,_,_,_,h⟩
   ·exact h
   ·rw[show(fV s).contains y.owner=s.rc.any fun r=>r.name==y.owner from cE _ _ _,h] at ho2;cases ho2
  refine GDraw.pan 14 _ rfl (by kernel_rfl) ?_;conv=>whnf
  refine gY ho1 ?_;conv=>whnf
  refine cP hro ?_;conv=>whnf
  refine iN gK 2 5 (w:=decide (jJ (fun r:Rc=>r.name==y.owner) s.rc<0)) (fun h9=>?_) (fun h9=>absurd hno (aA h9));conv=>whnf
  exact oO (bad hE how (by decide)) (by decide)
 have how':(y.owner !=[]&&!((fV s).contains y.owner))=false:=by simpa using how
 replace hE:=hE.trans (aZ how');have hown:y.owner≠[]->(fV s).contains y.owner=true:=fun h=>by
  rw[show(y.owner !=[])=true by simpa using h] at how';simpa using how'
 refine lQ ?_;conv=>whnf
 apply gM<;>intro h<;>conv=>whnf
 focus
  refine(tX (hown (by simpa using h))).elim fun io hio=>?_;rw[hio.1] at hro;refine cP hro ?_;conv=>whnf
  refine iN gK 2 5 (w:=false) (fun h9=>nomatch h9) (fun _=>?_)
 rotate_left;focus
  refine iN gK 2 5 (w:=false) (fun h9=>nomatch h9) (fun _=>?_)
 all_goals
  conv=>whnf
  refine cP (mQ (jB y.ms).length 1 4) ?_;conv=>whnf
  refine iN gK 2 11 (fun h=>?_) (fun h=>?_)<;>rw[jP] at h<;>conv=>whnf
  ·exact oO (bad hE h (by decide)) (by decide)
  replace hE:=hE.trans (aZ h);rw[<-hB] at hE;have badM:∀{e:Int},kE (uC s y) y.ms=e->e≠0->((i,e):Nat×Int)=(xi,xe):=fun he h0=>bad0 (hE.trans (by rw[he,p9 h0])) h0;refine bE 4 y.ms.length (fun k _=>∀j m,j<k->y.ms[j]?=some m->uC s y j m=0) (fun k _=>[(0,.ptr 0 0),(3,.ptr 3 0),(4,.fn (.func 190) [] [.ptr 2 0]),(19,.sl .none (tQ s.st)),(20,.i .i64 (tQ s.st).length),(21,.i .i64 (i:Nat)),(55,.sl .none (jB y.ms)),(56,.i .i64 (jB y.ms).length),(57,.i .i64 (k:Nat))])
   (fun k (_:Unit)=>lG s (met++[y.name])++[.box 3 [.i .i64 (i:Nat)],.box 67 (E8 y)]) [] () (fun j n h=>absurd h (bP j)) (fun k _ φ1 hk hok2=>?_)
  conv=>whnf
  apply gM<;>intro h<;>conv=>whnf
  ·have hlt2:k<y.ms.length:=by have:=aB h;rw[jP] at this;omega
   refine(d7 hlt2).elim fun m hm2=>?_;have badJ:∀{e:Int},uC s y k m=e->e≠0->((i,e):Nat×Int)=(xi,xe):=fun he h0=>badM ((mE hm2 (by rw[he];exact h0) hok2).trans he) h0;have hrr:=wM s hl m.of;refine ix (aY hm2) ⟨rfl,?_⟩;(conv=>whnf);refine st ?_;(conv=>whnf);refine(fJ ((fV s).contains m.of)).elim (fun hc=>?_) (fun hc=>?_);rotate_left
   ·have hno:jJ (fun r:Rc=>r.name==m.of) s.rc<0:=by
     rcases j2 (fun r:Rc=>r.name==m.of) s.rc with⟨h,_⟩|⟨_,_,_,_,_,h⟩
     ·exact h
     ·rw[show(fV s).contains m.of=s.rc.any fun r=>r.name==m.of from cE _ _ _,h] at hc;cases hc
    refine GDraw.pan 9 _ rfl (by kernel_rfl) ?_;(conv=>whnf);refine cP hrr ?_;(conv=>whnf);refine iN gK 2 5 (w:=decide (jJ (fun r:Rc=>r.name==m.of) s.rc<0)) (fun h9=>?_) (fun h9=>absurd hno (aA h9));(conv=>whnf);exact oO (badJ (aU (by rw[hc];rfl)) (by decide)) (by decide)
   refine(tX hc).elim fun ir hir=>?_;rw[hir.1] at hrr;have hJ:uC s y k m=cX (((y.ms.take k).map (·.of)).contains m.of) 6 (cX (!t8 m.keep 1 3) 1 (TY s y m)):=aZ (by rw[hc];rfl);rw[cE] at hJ;refine lQ ?_;(conv=>whnf);refine cP hrr ?_;(conv=>whnf);refine iN gK 2 5 (w:=false) (fun h9=>nomatch h9) (fun _=>?_);(conv=>whnf);have hmb:=QD ⟨[],[],y.ms.take k,0,[],0,0⟩ (by unfold b9;show(y.ms.take k).length<_;rw[aS];omega) m.of;have hmo:decide (jJ (fun z:Mb=>z.of==m.of) (y.ms.take k)>=0)=(y.ms.take k).any fun z=>z.of==m.of:=l8 _ _;refine(fJ ((y.ms.take k).any fun z=>z.of==m.of)).elim (fun hd=>?_) (fun hd=>?_)
   ·refine GDraw.pan 10 _ rfl (by kernel_rfl) ?_;(conv=>whnf);refine TV (zs:=jB (y.ms.take k)) (a1u _) (by rw[jP];omega) ?_ (eS ..).symm;(conv=>whnf);refine cP hmb ?_ (wC (Wks.agg (wC (bF _) (wC (bF _) (wC (bF _) (wC (bF _) (wC (bY _ _) (wR _))))))) (wR _));(conv=>whnf);refine iN gK 2 6 (w:=decide (jJ (fun z:Mb=>z.of==m.of) (y.ms.take k)>=0)) (fun h9=>?_) (fun h9=>by rw[hmo,hd] at h9;cases h9);(conv=>whnf);exact oO (badJ (hJ.trans (aU hd)) (by decide)) (by decide)
   refine lQ ?_;(conv=>whnf);refine TV (zs:=jB (y.ms.take k)) (a1u _) (by rw[jP];omega) ?_ (eS ..).symm;(conv=>whnf);refine cP hmb ?_ (wC (Wks.agg (wC (bF _) (wC (bF _) (wC (bF _) (wC (bF _) (wC (bY _ _) (wR _))))))) (wR _));(conv=>whnf);refine iN gK 2 6 (w:=decide (jJ (fun z:Mb=>z.of==m.of) (y.ms.take k)>=0)) (fun h9=>by rw[hmo,hd] at h9;cases h9) (fun _=>?_);(conv=>whnf);replace hJ:=hJ.trans (aZ hd);refine cP (mQ m.keep 1 3) ?_;(conv=>whnf);refine iN gK 2 1 (fun h=>?_) (fun h=>?_)<;>conv=>whnf
   ·exact oO (badJ (hJ.trans (aU h)) (by decide)) (by decide)
   replace hJ:=hJ.trans (aZ h);have hsel:=U3 s hz' (met++[y.name]) i y m (y3 m (aE hm2)) hc hown hg;by_cases h0:TY s y m=0
   ·rw[h0] at hsel;refine cS [0,1,2] hsel ?_;(conv=>whnf);exact nx () hlt2 ⟨hlt2,iE hm2 (hJ.trans h0) hok2⟩
   ·rw[sN h0] at hsel;refine cS [0,1,2] hsel ?_;(conv=>whnf);exact oO (badJ hJ h0) h0
  have hM0:∀j m,y.ms[j]?=some m->uC s y j m=0:=fun j z hz=>hok2 j z (by have:=aA h;rw[jP] at this;have:=(List.getElem?_eq_some_iff.1 hz).1;omega) hz;have hmem:∀m∈y.ms,(fV s).contains m.of=true:=fun m hm9=>by
   obtain⟨j,hj⟩:=f9 hm9;simpa using(bM (hM0 j m hj) (by decide)).1
  replace hE:=hE.trans (p8 (mD hM0));refine cP (mQ y.order 1 5) ?_;conv=>whnf
  refine iN gK 2 1 (fun h=>?_) (fun h=>?_)<;>conv=>whnf
  ·exact oO (bad hE h (by decide)) (by decide)
  replace hE:=hE.trans (aZ h);apply gM<;>intro h<;>conv=>whnf
  focus
   rw[aD (show y.order=5 by simpa using h)] at hE;have hso:=a1A s hz' (met++[y.name]) i y (by unfold b9;omega) y2 hmem hg;by_cases h0:G0 s y=0;rotate_left
   ·rw[sN h0] at hso;rw[p9 h0] at hE;refine cS [0,1,2] hso ?_;(conv=>whnf);exact oO (bad0 hE h0) h0
   rw[h0] at hso;replace hE:=hE.trans (p8 h0);refine cS [0,1,2] hso ?_
  rotate_left;focus
   rw[aC (show¬y.order=5 by simpa using h)] at hE;have badO:(!y.keys.isEmpty||y.dups !=0)=true->((i,(1:Int)):Nat×Int)=(xi,xe):=fun h=>bad0 (hE.trans (by rw[aU h,p9 (by decide)])) (by decide);apply gM<;>intro h3<;>conv=>whnf
   ·refine iN gK 2 1 (w:=true) (fun _=>?_) (fun h9=>nomatch h9);(conv=>whnf);exact oO (badO (by have:((vX y.keys).length:Int)>0:=aB h3;rw[lX] at this;cases hk:y.keys with|nil=>rw[hk] at this;exact absurd this (by decide)|cons a l=>rfl)) (by decide)
   have hke:y.keys.isEmpty=true:=by have:¬((vX y.keys).length:Int)>0:=aA h3;rw[lX] at this;cases hk:y.keys with|nil=>rfl|cons a l=>rw[hk] at this;simp at this
   refine iN gK 2 1 (fun h4=>?_) (fun h4=>?_)
   ·(conv=>whnf);exact oO (badO (by rw[show(y.dups !=0)=true from h4,Bool.or_true])) (by decide)
   replace hE:=hE.trans (p8 (aZ (by rw[hke];exact h4)))
  all_goals
   (conv=>whnf);refine cP (mQ y.mode 1 3) ?_;(conv=>whnf);refine iN gK 2 1 (fun h=>?_) (fun h=>?_)<;>conv=>whnf
   ·exact oO (bad hE h (by decide)) (by decide)
   replace hE:=hE.trans (aZ h);apply gM<;>intro h5<;>conv=>whnf
   ·refine iN gK 2 10 (fun h6=>?_) (fun h6=>?_)<;>conv=>whnf
    ·exact oO (bad hE (by rw[show(y.mode==3)=true from h5];exact h6) (by decide)) (by decide)
    exact nx () hlt ⟨hlt,iE hy (hE.trans (aZ (by rw[show(y.mode==3)=true from h5];exact h6))) hok⟩ hm
   refine iN gK 2 10 (w:=false) (fun h9=>nomatch h9) (fun _=>?_);(conv=>whnf);exact nx () hlt ⟨hlt,iE hy (hE.trans (aZ (by rw[show(y.mode==3)=false from h5];rfl))) hok⟩ hm
def kY (s:Sch):By×Nat×Int:=a3g kR o6 (fun l c=>CM l [] c) s
theorem xE {α:Type} {f:Nat->α->Int} {n:Nat} {l:List α} {p:Nat×Int} (h:dZ f n l=some p):p.2≠0:=by
 induction l generalizing n with
 |nil=>cases h
 |cons x l ih=>
  unfold dZ at h;by_cases h0:f n x=0
  ·rw[aD h0] at h;exact ih h
  ·rw[aC h0] at h;cases h;exact h0
theorem MZ {o:Option (Nat×Int)} (h:(o.getD (0,0)).2=0) (hn:∀p,o=some p->p.2≠0):o=none:=by
 cases o with
 |none=>rfl
 |some p=>exact absurd h (hn p rfl)
theorem D4 (s:Sch):kY s=if(mH s).2=0 then(if(oX s).2=0 then(if(sJ s).2=0 then([],0,0) else(nF,sJ s)) else(iR,oX s)) else(xJ,mH s):=by
 have h3:M3 s=if(sJ s).2=0 then([],0,0) else(nF,sJ s):=by
  unfold M3 sJ;by_cases h:s.st.length>60
  ·rw[aD h,aD h];rfl
  ·rw[aC h,aC h];show(match dZ (EL s) 0 s.st with|some (i,e)=>(nF,i,e)|none=>([],0,0))=_;cases hf:dZ (EL s) 0 s.st with
   |none=>rfl
   |some p=>exact(aC (xE hf)).symm
 have h2:M4 kR o6 (fun l c=>CM l [] c) s=if(oX s).2=0 then M3 s else(iR,oX s):=by
  unfold M4 oX;cases t8 s.rc.length 1 10 with
  |false=>rfl
  |true=>
   show(match dZ (wO s) 0 s.rc with|some (i,e)=>(iR,i,e)|none=>M3 s)=if((dZ (wO s) 0 s.rc).getD (0,0)).2=0 then _ else(iR,(dZ (wO s) 0 s.rc).getD (0,0));cases hf:dZ (wO s) 0 s.rc with
   |none=>rfl
   |some p=>exact(aC (xE hf)).symm
 have h1:kY s=if(mH s).2=0 then M4 kR o6 (fun l c=>CM l [] c) s else(xJ,mH s):=by
  unfold kY a3g mH;cases t8 s.ar.length 1 6 with
  |false=>rfl
  |true=>
   show(match dZ (fun i a=>nH ((bW s).take i) a) 0 s.ar with|some (i,e)=>(xJ,i,e)|none=>M4 kR o6 (fun l c=>CM l [] c) s)=if((dZ (fun i a=>nH ((bW s).take i) a) 0 s.ar).getD (0,0)).2=0 then _ else(xJ,(dZ (fun i a=>nH ((bW s).take i) a) 0 s.ar).getD (0,0));cases hf:dZ (fun i a=>nH ((bW s).take i) a) 0 s.ar with
   |none=>rfl
   |some p=>exact(aC (xE hf)).symm
 rw[h1,h2,h3]
theorem J1 {s:Sch} (h:(oX s).2=0):∀r∈s.rc,Q0 kR r:=by
 unfold oX at h;cases hb:t8 s.rc.length 1 10 with
 |false=>rw[hb] at h;exact absurd (show(4:Int)=0 from h) (by decide)
 |true=>
  rw[hb] at h;exact Z3 (f:=fun i=>bW s++(fV s).take i) (MZ h fun p hp=>xE hp)
theorem D7 [MaxL] {s:List GObj}:oZ 0 s=s:=aD rfl
theorem x4 {α β:Type} {x:Option (α×β)} {K:α×β->Prop} (r:α) (h:x.map (·.1)=some r) (hk:∀b,K (r,b)):x5 x K:=by
 obtain⟨⟨a,b⟩,h1,rfl⟩:=Option.map_eq_some_iff.1 h;rw[h1];exact hk b
theorem a3l [MaxL] (s:Sch) (hz:kO s):SC Tryz.prog 72 [lT s] [] (.val (.tup [.s (kY s).1,.i .i64 ((kY s).2.1:Nat),.i .i64 (kY s).2.2])) []:=by
 have hA:=a3j s hz.1.1;have hR:=Z0 s hz;rw[D4];refine cO Tryz.func72 rfl ?_;conv=>whnf
 by_cases h1:(mH s).2=0;rotate_left
 ·rw[aC h1];rw[sN h1,uZ h1] at hA;refine cG [5,4] hA ?_;conv=>whnf
  exact x4 (K:=fun q=>Owes [] _ [] q.1 q.2) (.val (.tup [.s xJ,.i .i64 ((mH s).1:Nat),.i .i64 (mH s).2])) (by kernel_rfl) fun _=>cZ (.refl _) (fun _=>rfl)
 rw[aD h1];rw[h1,D7] at hA;refine cG [5,4] hA ?_;conv=>whnf
 by_cases h2:(oX s).2=0;rotate_left
 ·rw[aC h2];rw[sN h2,uZ h2] at hR;refine cG [5,4] hR ?_;conv=>whnf
  exact x4 (K:=fun q=>Owes [] _ [] q.1 q.2) (.val (.tup [.s iR,.i .i64 ((oX s).1:Nat),.i .i64 (oX s).2])) (by kernel_rfl) fun _=>cZ (.refl _) (fun _=>rfl)
 rw[aD h2];rw[h2,D7] at hR;have hS:=a5m s hz (J1 h2);refine cG [5,4] hR ?_;conv=>whnf
 by_cases h3:(sJ s).2=0;rotate_left
 ·rw[aC h3];rw[sN h3,uZ h3] at hS;refine cG [5,4] hS ?_;conv=>whnf
  exact x4 (K:=fun q=>Owes [] _ [] q.1 q.2) (.val (.tup [.s nF,.i .i64 ((sJ s).1:Nat),.i .i64 (sJ s).2])) (by kernel_rfl) fun _=>cZ (.refl _) (fun _=>rfl)
 rw[aD h3];rw[h3,D7] at hS;refine cG [5,4] hS ?_;conv=>whnf
 refine st ?_;conv=>whnf
 refine st ?_;conv=>whnf
 refine st ?_;conv=>whnf
 exact BQ (g:=.tup [.s [],.i .i64 0,.i .i64 0]) (by kernel_rfl) (.refl _) (fun _=>rfl)
theorem WP [MaxL] (s:Sch) (hz:kO s):SC Tryz.prog 34 [lT s] [] (.val (.b ((kY s).2.2==0))) []:=by
 have hw:=a3l s hz;refine cO Tryz.func34 rfl ?_;conv=>whnf
 refine cP hw ?_;conv=>whnf
 exact cQ 0
set_option maxHeartbeats 8000000 in
theorem a7P [MaxL] (s:Sch) (hz:kO s) (hg:∀r∈s.rc,Q0 kR r) (i:Nat) (y:Sy) (hy:s.st[i]?=some y):SC Tryz.prog 152 [lT s,.i .i64 (i:Nat)] [] (.val (.i .i64 (EL s i y))) []:=by
 have hz':=hz;obtain⟨⟨ha,hl,ht⟩,hr,hst⟩:=hz;obtain⟨y1,y2,y3⟩:=hst y (aE hy);have hrc:(fV s).contains y.owner=s.rc.any fun r=>r.name==y.owner:=cE _ _ _;generalize hX:EL s i y=xe;unfold EL TX gJ at hX;rw[a8W,<-yR hy nA,<-l8,<-l8] at hX;have hn:=tY y.name;refine bQ zC mixed Tryz.func152 rfl (bL rfl) (by first|exact rL _|simp) rfl ?_;conv=>whnf
 refine ix (aY hy) ⟨rfl,?_⟩;conv=>whnf
 refine st ?_;conv=>whnf
 refine cP hn ?_;conv=>whnf
 apply gM<;>intro h<;>conv=>whnf
 ·exact bB ((aU (by rw[h];rfl)).symm.trans hX)
 rw[h] at hX;apply gM<;>intro h<;>conv=>whnf
 ·exact bB ((aU h).symm.trans hX)
 replace hX:=(aZ h).symm.trans hX;refine cP (wS s ha y.name) ?_;conv=>whnf
 apply gM<;>intro h<;>conv=>whnf
 ·exact bB ((aU (by rw[show decide (0<=jJ (fun x:Ar=>x.name==y.name) s.ar)=true from h];rfl)).symm.trans hX)
 rw[show decide (0<=jJ (fun x:Ar=>x.name==y.name) s.ar)=false from h] at hX;refine cP (lC s hl y.name) ?_;conv=>whnf
 apply gM<;>intro h<;>conv=>whnf
 ·exact bB ((aU (by rw[show decide (0<=jJ (fun x:Rc=>x.name==y.name) s.rc)=true from h];rfl)).symm.trans hX)
 rw[show decide (0<=jJ (fun x:Rc=>x.name==y.name) s.rc)=false from h] at hX;refine cP (O3 s ht y.name) ?_;conv=>whnf
 apply gM<;>intro h<;>conv=>whnf
 ·exact bB ((aU h).symm.trans hX)
 replace hX:=(aZ h).symm.trans hX;apply gM<;>intro h<;>conv=>whnf
 focus
  have how:(y.owner !=[])=true:=h;rw[how] at hX;refine cP (lC s hl y.owner) ?_;conv=>whnf
  refine bZ (fun h2=>?_) (fun h2=>?_)<;>rw[nT,<-hrc] at h2<;>conv=>whnf
  ·exact bB ((aU h2).symm.trans hX)
  have hown:y.owner≠[]->(fV s).contains y.owner=true:=fun _=>by simpa using h2
  replace hX:=(aZ h2).symm.trans hX
 rotate_left;focus
  have how:(y.owner !=[])=false:=h;rw[how] at hX;have hown:y.owner≠[]->(fV s).contains y.owner=true:=fun h9=>absurd (by simpa using how) h9;replace hX:=(aZ (w:=false&&_) rfl).symm.trans hX
 all_goals
  refine bZ (fun h=>?_) (fun h=>?_)<;>rw[jP] at h<;>conv=>whnf
  ·exact bB ((aU (nb1 h)).symm.trans hX)
  refine bZ (fun h2=>?_) (fun h2=>?_)<;>rw[jP] at h2<;>conv=>whnf
  ·exact bB ((aU (nb2 h2)).symm.trans hX)
  replace hX:=(aZ (nb3 h h2)).symm.trans hX;have badM:∀{e:Int},kE (uC s y) y.ms=e->e≠0->e=xe:=fun he h0=>(by rw[he,p9 h0] at hX;exact hX);have y1':=y1;unfold b9 at y1';refine bE 2 y.ms.length (fun k _=>∀j m,j<k->y.ms[j]?=some m->uC s y j m=0) (fun k _=>[(2,.ptr 0 0),(5,.ptr 1 0),(6,.i .i64 (k:Nat))]) (fun k (_:Unit)=>a1G s y) [] () (fun j n h=>absurd h (bP j)) (fun k _ φ1 hk hok=>?_);conv=>whnf
  apply gM<;>intro h<;>conv=>whnf
  ·have hlt:k<y.ms.length:=by have:=aB h;rw[jP] at this;omega
   refine(d7 hlt).elim fun m hm=>?_;refine cP (a1W s hz' y y1 k m hm (y3 m (aE hm)) hown hg) ?_;(conv=>whnf);apply gM<;>intro h4<;>conv=>whnf
   ·exact bB (badM (mE hm (by simpa using h4) hok) (by simpa using h4))
   exact nx () hlt ⟨hlt,iE hm (by simpa using h4) hok⟩
  have hM0:∀j m,y.ms[j]?=some m->uC s y j m=0:=fun j z hz=>hok j z (by have:=aA h;rw[jP] at this;have:=(List.getElem?_eq_some_iff.1 hz).1;omega) hz;have hmem:∀m∈y.ms,(fV s).contains m.of=true:=fun m hm9=>by
   obtain⟨j,hj⟩:=f9 hm9;simpa using(bM (hM0 j m hj) (by decide)).1
  rw[p8 (mD hM0)] at hX;apply gM<;>intro h<;>conv=>whnf
  ·exact bB ((aU (nb1 h)).symm.trans hX)
  apply gM<;>intro h2<;>conv=>whnf
  ·exact bB ((aU (nb2 h2)).symm.trans hX)
  replace hX:=(aZ (nb3 h h2)).symm.trans hX;clear h h2;apply gM<;>intro h<;>conv=>whnf
  focus
   rw[aD (show y.order=5 by simpa using h)] at hX;refine cP (a1N s hz' y y1 y2 hmem hg) ?_;(conv=>whnf);refine bZ (fun h4=>?_) (fun h4=>?_)
   ·(conv=>whnf);rw[p9 (by simpa using h4)] at hX;exact bB hX
   rw[p8 (show G0 s y=0 by simpa using h4)] at hX
  rotate_left;focus
   rw[aC (show¬y.order=5 by simpa using h)] at hX;have badO:(!y.keys.isEmpty||y.dups !=0)=true->(1:Int)=xe:=fun h=>(by rw[aU h,p9 (by decide)] at hX;exact hX);apply gM<;>intro h3<;>conv=>whnf
   ·exact bB (badO (by have:((vX y.keys).length:Int)>0:=aB h3;rw[lX] at this;cases hk:y.keys with|nil=>rw[hk] at this;exact absurd this (by decide)|cons a l=>rfl))
   have hke:y.keys.isEmpty=true:=by have:¬((vX y.keys).length:Int)>0:=aA h3;rw[lX] at this;cases hk:y.keys with|nil=>rfl|cons a l=>rw[hk] at this;simp at this
   refine bZ (fun h4=>?_) (fun h4=>?_)
   ·(conv=>whnf);exact bB (badO (by rw[show(y.dups !=0)=true from h4,Bool.or_true]))
   rw[p8 (aZ (by rw[hke];exact h4))] at hX
  all_goals
   (conv=>whnf);apply gM<;>intro h<;>conv=>whnf
   ·exact bB ((aU (nb1 h)).symm.trans hX)
   apply gM<;>intro h2<;>conv=>whnf
   ·exact bB ((aU (nb2 h2)).symm.trans hX)
   replace hX:=(aZ (nb3 h h2)).symm.trans hX;apply gM<;>intro h5<;>conv=>whnf
   ·rw[show(y.mode==3)=true from h5] at hX;apply gM<;>intro h6<;>conv=>whnf
    ·exact bB ((aU h6).symm.trans hX)
    exact bB ((aZ h6).symm.trans hX)
   rw[show(y.mode==3)=false from h5] at hX;exact bB hX
theorem U2 {s:Sch} {p:Nat×Int} (h:mH s=p) (he:p.2≠0):kY s=(xJ,p):=by rw[D4,h,aC he]
theorem U1 {s:Sch} {p:Nat×Int} (h0:(mH s).2=0) (h:oX s=p) (he:p.2≠0):kY s=(iR,p):=by rw[D4,aD h0,h,aC he]
theorem a18 {s:Sch} {p:Nat×Int} (h0:(mH s).2=0) (h1:(oX s).2=0) (h:sJ s=p) (he:p.2≠0):kY s=(nF,p):=by rw[D4,aD h0,aD h1,h,aC he]
set_option maxHeartbeats 8000000 in
theorem a3t [MaxL] (s:Sch) (hz:kO s) (hc:∀r∈s.rc,r.check.length<1000000):SC Tryz.prog 90 [lT s] [] (.val (.tup [.s (kY s).1,.i .i64 ((kY s).2.1:Nat),.i .i64 (kY s).2.2])) []:=by
 have hz':=hz;obtain⟨⟨ha,hl,ht⟩,hr,hst⟩:=hz;unfold b9 at ha hl ht;have la:(zB s.ar).length=s.ar.length:=cL _ _;have lr:(pU s.rc).length=s.rc.length:=cL _ _;have lt:(tQ s.st).length=s.st.length:=cL _ _;have hA:mH s=if !t8 s.ar.length 1 6 then(0,4) else(dZ (fun i a=>nH ((bW s).take i) a) 0 s.ar).getD (0,0):=rfl;have hR:oX s=if !t8 s.rc.length 1 10 then(0,4) else(dZ (wO s) 0 s.rc).getD (0,0):=rfl;have hS:sJ s=if s.st.length>60 then(0,4) else(dZ (EL s) 0 s.st).getD (0,0):=rfl;generalize hK:kY s=K;refine cO Tryz.func90 rfl ?_;conv=>whnf
 refine bZ (fun h=>?_) (fun h=>?_)<;>rw[la] at h<;>conv=>whnf
 ·rw[<-hK,U2 (hA.trans (aD (nb1 h))) (by decide)];exact cQ 0
 refine bZ (fun h2=>?_) (fun h2=>?_)<;>rw[la] at h2<;>conv=>whnf
 ·rw[<-hK,U2 (hA.trans (aD (nb2 h2))) (by decide)];exact cQ 0
 rw[nb3 h h2,aC (by simp)] at hA;clear h h2;refine bE 1 s.ar.length (fun i _=>∀j z,j<i->s.ar[j]?=some z->nH ((bW s).take j) z=0) (fun i _=>[(1,.ptr 0 0),(5,.i .i64 (i:Nat))]) (fun i (_:Unit)=>[.box 26 (jX s)]) [] () (fun j z h=>absurd h (bP j)) (fun i _ φ0 hi hok=>?_);conv=>whnf
 apply gM<;>intro h<;>conv=>whnf
 ·have hlt:i<s.ar.length:=by have:=aB h;omega
  refine(d7 hlt).elim fun y hy=>?_;refine cP (a62 s (by unfold b9;exact ha) i y hy) ?_;conv=>whnf
  apply gM<;>intro h4<;>conv=>whnf
  ·have h5:nH ((bW s).take i) y≠0:=by simpa using h4
   rw[<-hK,U2 (hA.trans (by rw[kD (f:=fun i a=>nH ((bW s).take i) a) hy h5 hok])) h5];exact cQ 0
  exact nx () hlt ⟨hlt,iE (f:=fun i a=>nH ((bW s).take i) a) hy (by simpa using h4) hok⟩
 have hA0:(mH s).2=0:=by rw[hA,kC (f:=fun i a=>nH ((bW s).take i) a) (by have:=aA h;omega) hok];rfl
 clear h;refine bZ (fun h=>?_) (fun h=>?_)<;>rw[lr] at h<;>conv=>whnf
 ·rw[<-hK,U1 hA0 (hR.trans (aD (nb1 h))) (by decide)];exact cQ 0
 refine bZ (fun h2=>?_) (fun h2=>?_)<;>rw[lr] at h2<;>conv=>whnf
 ·rw[<-hK,U1 hA0 (hR.trans (aD (nb2 h2))) (by decide)];exact cQ 0
 rw[nb3 h h2,aC (by simp)] at hR;clear h h2;refine bE 1 s.rc.length (fun i _=>∀j z,j<i->s.rc[j]?=some z->wO s j z=0) (fun i _=>[(1,.ptr 0 0),(7,.i .i64 (i:Nat))]) (fun i (_:Unit)=>[.box 26 (jX s)]) [] () (fun j z h=>absurd h (bP j)) (fun i _ φ0 hi hok=>?_);conv=>whnf
 apply gM<;>intro h<;>conv=>whnf
 ·have hlt:i<s.rc.length:=by have:=aB h;omega
  refine(d7 hlt).elim fun y hy=>?_;refine cP (a1P s hz' hc i y hy) ?_;conv=>whnf
  apply gM<;>intro h4<;>conv=>whnf
  ·have h5:wO s i y≠0:=by simpa using h4
   rw[<-hK,U1 hA0 (hR.trans (by rw[kD hy h5 hok])) h5];exact cQ 0
  exact nx () hlt ⟨hlt,iE hy (by simpa using h4) hok⟩
 have hR0:(oX s).2=0:=by rw[hR,kC (by have:=aA h;omega) hok];rfl
 clear h;refine bZ (fun h=>?_) (fun h=>?_)<;>rw[lt] at h<;>conv=>whnf
 ·rw[<-hK,a18 hA0 hR0 (hS.trans (aD (by have:=aB h;omega))) (by decide)];exact cQ 0
 rw[aC (by have:=aA h;omega)] at hS;clear h;refine bE 1 s.st.length (fun i _=>∀j z,j<i->s.st[j]?=some z->EL s j z=0) (fun i _=>[(1,.ptr 0 0),(9,.i .i64 (i:Nat))]) (fun i (_:Unit)=>[.box 26 (jX s)]) [] () (fun j z h=>absurd h (bP j)) (fun i _ φ0 hi hok=>?_);conv=>whnf
 apply gM<;>intro h<;>conv=>whnf
 ·have hlt:i<s.st.length:=by have:=aB h;omega
  refine(d7 hlt).elim fun y hy=>?_;refine cP (a7P s hz' (J1 hR0) i y hy) ?_;conv=>whnf
  apply gM<;>intro h4<;>conv=>whnf
  ·have h5:EL s i y≠0:=by simpa using h4
   rw[<-hK,a18 hA0 hR0 (hS.trans (by rw[kD hy h5 hok])) h5];exact cQ 0
  exact nx () hlt ⟨hlt,iE hy (by simpa using h4) hok⟩
 have hS0:(sJ s).2=0:=by rw[hS,kC (by have:=aA h;omega) hok];rfl
 rw[<-hK,D4,aD hA0,aD hR0,aD hS0];exact cQ 0
theorem QL [MaxL] (s:Sch) (hz:kO s) (hc:∀r∈s.rc,r.check.length<1000000):SC Tryz.prog 39 [lT s] [] (.val (.b ((kY s).2.2==0))) []:=by
 have hw:=a3t s hz hc;refine cO Tryz.func39 rfl ?_;conv=>whnf
 refine cP hw ?_;conv=>whnf
 exact cQ 0
def OL (f:Term->By) (s:By):GV:=match jH s with
 |.ok t=>.tup [.sl .none (bR (UJ f t)),.i .i64 0]
 |.err e=>.tup [.sl .none [],.i .i64 e]
def u5 (f:Term->By) (L:List Term) (i:Nat):List By:=(L.take i).foldl (fun l x=>zD l (f x)) []
theorem ZD {f:Term->By} {L:List Term} {i:Nat} {y:Term} (h:L[i]?=some y):u5 f L (i+1)=zD (u5 f L i) (f y):=by
 unfold u5;rw[aT,h,k6];rfl
theorem a1l (f:Term->By) (L:List Term) (i:Nat):(u5 f L i).length<=L.length:=by
 have:=KQ f (L.take i) [];simp at this;unfold u5;omega
theorem a3x [MaxL] (s:By) (hs:s.length<1000000):SC Tryz.prog 155 [.s s] [] (.val (OL UQ s)) []:=by
 have hr:=J6 s hs;have hrc:=qM s;unfold kI at hr hrc;unfold OL;cases hx:jH s with
 |err e=>
  rw[hx] at hr hrc;replace hr:SC Tryz.prog 120 [.s s] [] (.val (.tup [nG,.i .i64 e])) []:=hr;replace hrc:Cl (.tup [nG,.i .i64 e]):=hrc;have he:=qL hx;simp only;refine cO Tryz.func155 rfl ?_;conv=>whnf
  refine mG hr hrc ?_;conv=>whnf
  refine sT ?_;conv=>whnf
  apply gM<;>intro h2<;>conv=>whnf
  ·exact cZ (uT (bY _ _) (.refl _)) (i8 (.cons (bK jF) (.cons (.i _ _) .nil)))
  ·exfalso;have:e=0:=by simpa using h2
   omega
 |ok t=>
  rw[hx] at hr hrc;replace hr:SC Tryz.prog 120 [.s s] [] (.val (.tup [t.ng,.i .i64 0])) []:=hr;replace hrc:Cl (.tup [t.ng,.i .i64 0]):=hrc;have hz:=qK hx;have hsd:=HE 5000 t (by omega) (by omega);have hll:=mX t;have hcl:=t.ng_cl;obtain⟨k,kids,A,B,op,yes,hng⟩:=fL t;rw[hng] at hr hrc hsd hcl;have hncl:ClL (kH k kids A B op yes):=by
   have h9:t.ncs=kH k kids A B op yes:=by
    have h8:GV.agg t.ncs=GV.agg (kH k kids A B op yes):=hng;injection h8
   rw[<-h9];exact t.ncs_cl
  simp only;unfold UJ;generalize d8 t=L at*;have hsl:=mI L;refine cO Tryz.func155 rfl ?_;conv=>whnf
  refine mG hr hrc ?_;conv=>whnf
  refine sT ?_;conv=>whnf
  refine bT hsd (wR _) rfl (cC hcl .nil) (bK (vS _)) ?_;conv=>whnf
  refine dH (fun q:Nat×List By=>q.1<=L.length/\u5 UQ L q.1=q.2) (fun q=>[(6,.sl (.own 2) (bR q.2)),(7,.sl .none (zE L)),(8,.i .i64 (q.1:Nat))])
   (fun q=>⟨[.own 0 0 0,.box 169 (kH k kids A B op yes),ow 9 1 q.2.length],0,[]⟩) (fun q=>L.length - q.1) (0,[]) ⟨zL _,rfl⟩ ⟨rfl,rfl,rfl,trivial⟩ rfl (fun _ _=>rL _) (fun q _=>by simp only[e8,l5];rfl) (fun q _ e he=>?_) (fun q φ0 hi=>?_)
  ·have hkc:(GObj.box 169 (kH k kids A B op yes)).ren e=.box 169 (kH k kids A B op yes):=dW hncl e;refine⟨?_,rfl,?_⟩
   ·show[_,(GObj.box 169 (kH k kids A B op yes)).ren e,(ow _ 1 _).ren e]=_;rw[qO,hkc];rfl
   ·show[(GV.sl (.own 2) (bR q.2)).ren e,(GV.sl .none (zE L)).ren e,_]=_;rw[nB (he 2 (by simp)) (eJ _),bK (vS L) e];rfl
  obtain⟨i,o⟩:=q;obtain⟨hi,ho⟩:=hi;replace hi:i<=L.length:=hi;replace ho:u5 UQ L i=o:=ho;conv=>whnf
  apply gM<;>intro h<;>conv=>whnf
  rotate_left
  ·have hie:i=L.length:=by have:=aA h;omega
   have hoe:o=L.foldl (fun l x=>zD l (UQ x)) []:=by rw[<-ho,hie];unfold u5;rw[aV]
   rw[<-hoe];exact cZ (uT (bY _ _) (.refl _)) (i8 (.cons (bK (eJ _)) (.cons (.i _ _) .nil)))
  have hlt:i<L.length:=by have:=aB h;omega
  obtain⟨y,hy⟩:∃y,L[i]?=some y:=⟨L[i],gL hlt⟩;have hgy:(zE L)[i]?=some (.agg [.s (UQ y),.s (vrn y),.i .i64 y.v.k,.i .i64 y.v.n,.s y.v.s]):=by unfold zE;rw[aK,hy];rfl
  have hsucc:=ZD (f:=UQ) hy;have hle:=a1l UQ L i;rw[ho] at hsucc hle;generalize UQ y=X1 at*;generalize vrn y=X2 at*;have hhas:=a7R o X1 (by omega);refine⟨jR _,_,by rw[aL];exact hgy,rfl,?_⟩;conv=>whnf
  apply gM<;>intro c1<;>conv=>whnf
  rotate_left
  ·have c1':X1=[]:=by simpa using c1
   have hno:zD o X1=o:=aC (fun h=>h.1 c1');rw[hno] at hsucc;exact⟨L.length - (i+1),(by show _<L.length - i;omega),(i+1,o),⟨hlt,hsucc⟩,rfl,⟨rfl,rfl,bH (by omega),trivial⟩,[],rfl,rfl⟩
  have c1':X1≠[]:=by simpa using c1
  refine⟨jR _,_,by rw[aL];exact hgy,rfl,?_⟩;conv=>whnf
  refine bT hhas (wC (bY _ _) (wR _)) rfl (cC (bK (eJ o)) (.cons (.s _) .nil)) (.b _) ?_;conv=>whnf
  apply gM<;>intro c2<;>conv=>whnf
  rotate_left
  ·have c2':X1∈o:=by simpa using c2
   have hno:zD o X1=o:=aC (fun h=>h.2 c2');rw[hno] at hsucc;exact⟨L.length - (i+1),(by show _<L.length - i;omega),(i+1,o),⟨hlt,hsucc⟩,rfl,⟨rfl,rfl,bH (by omega),trivial⟩,[],rfl,rfl⟩
  have c2':¬X1∈o:=by simpa using c2
  have hyes:zD o X1=o++[X1]:=aD ⟨c1',c2'⟩;rw[hyes] at hsucc;refine⟨jR _,_,by rw[aL];exact hgy,rfl,?_⟩;conv=>whnf
  cases o with
  |nil=>
   refine⟨⟨rfl,HB _,by show(bR ([]:List By)).length+1<=4294967296;rw[cD];omega⟩,bR (([]:List By)++[X1]),(([]:List By)++[X1]).length,⟨(by show bR (([]:List By)++[X1])=bR ([]:List By)++[GV.s X1];simp[bR]),by show _=(bR ([]:List By)).length+1;rw[cD];simp⟩,?_⟩;(conv=>whnf);refine aN ?_ (h:=by first|rfl|(rw[cD];rfl)|(rw[cD];simp));(conv=>whnf);exact⟨L.length - (i+1),(by show _<L.length - i;omega),(i+1,([]:List By)++[X1]),⟨hlt,hsucc⟩,rfl,⟨rfl,rfl,bH (by omega),trivial⟩,_,rfl,rfl⟩
  |cons z zs=>
   refine⟨⟨rfl,HB _,by show(bR (z::zs)).length+1<=4294967296;rw[cD];omega⟩,bR ((z::zs)++[X1]),((z::zs)++[X1]).length,⟨(by show bR ((z::zs)++[X1])=bR (z::zs)++[GV.s X1];simp[bR]),by show _=(bR (z::zs)).length+1;rw[cD];simp⟩,?_⟩;(conv=>whnf);refine aN ?_ (h:=by first|rfl|(rw[cD];rfl)|(rw[cD];simp));(conv=>whnf);exact⟨L.length - (i+1),(by show _<L.length - i;omega),(i+1,(z::zs)++[X1]),⟨hlt,hsucc⟩,rfl,⟨rfl,rfl,bH (by omega),trivial⟩,_,rfl,rfl⟩
theorem a1s (s:By) (vr:Bool):OL (if vr then vrn else UQ) s=z1 s vr:=by
 unfold OL z1;have hr:=rO s;cases hx:jH s with
 |err e=>rw[hx] at hr;rw[hr]
 |ok t=>
  rw[hx] at hr;rw[hr];simp only;unfold UJ;rw[s9,GB];cases vr<;>rfl
theorem ZX (s:By) (vr:Bool):(N2 s vr).length<=10000:=by
 unfold N2;split
 ·rename_i t h;have h1:=(mR h).2.1;have h2:=mX t;rw[s9];have:=KQ (if vr then vrn else UQ) (d8 t) [];simp at this;have e:(fun(l:List By) x=>zD l (if vr=true then vrn x else UQ x))=fun l x=>zD l ((if vr=true then vrn else UQ) x):=by
   cases vr<;>rfl
  rw[e];simp;omega
 ·exact zL _
def JQ (l:List Itm):Bool:=(l.take 20).all (fun i=>decide (i.name.length<=100))&&decide (l.length<=20)
theorem a4F [MaxL] (l:List Itm):SC Tryz.prog 31 [.sl .none (fM l)] [] (.val (.b (JQ l))) []:=by
 have hlen:=rV l;unfold JQ;refine cO Tryz.func31 rfl ?_;conv=>whnf
 refine dD (fun i:Nat=>i<=l.length/\i<=20/\∀z∈l.take i,z.name.length<=100) (fun i=>[(0,.sl .none (fM l)),(3,.i .i64 (i:Nat))]) (fun _=>⟨[],0,[]⟩) (fun i=>l.length - i) 0 ⟨zL _,zL _,(fun z h=>by simp at h)⟩ ⟨rfl,rfl,trivial⟩ rfl (fun i φ0 hi=>?_);obtain⟨hi,hi2,hok⟩:=hi;have cQ:(i=l.length∨i=20)->(l.take 20).all (fun i=>decide (i.name.length<=100))=true:=fun hh=>by
  rw[aQ];intro x hx;refine bC (hok x ?_);rcases hh with rfl|rfl
  ·rw[aV];exact List.mem_of_mem_take hx
  ·exact hx
 have hle:decide (((fM l).length:Int)<=20)=decide (l.length<=20):=by rw[hlen,decide_eq_decide];omega
 conv=>whnf
 apply gM<;>intro h<;>conv=>whnf
 rotate_left
 ·have hie:i=l.length:=by have:=aA h;omega
  refine d6 ?_;rw[cQ (.inl hie),Bool.true_and];exact hle
 have hlt:i<l.length:=by have:=aB h;omega
 apply gM<;>intro h2<;>conv=>whnf
 rotate_left
 ·have hie:i=20:=by have:=aA h2;omega
  refine d6 ?_;rw[cQ (.inr hie),Bool.true_and];exact hle
 have hlt2:i<20:=by have:=aB h2;omega
 obtain⟨y,hy⟩:∃y,l[i]?=some y:=⟨l[i],gL hlt⟩;refine⟨jR _,_,by rw[aL];exact pJ hy,rfl,?_⟩;conv=>whnf
 apply gM<;>intro h3<;>conv=>whnf
 ·have h3':¬y.name.length<=100:=by have:=aB h3;omega
  refine d6 ?_;have:(l.take 20).all (fun i=>decide (i.name.length<=100))=false:=List.all_eq_false.2 ⟨y,aE (i:=i) (by rw[dY,aD hlt2];exact hy),by simpa using h3'⟩;rw[this];rfl
 ·have h3':y.name.length<=100:=by have:=aA h3;omega
  refine⟨l.length - (i+1),(by show _<l.length - i;omega),i+1,⟨hlt,hlt2,fun z hz=>?_⟩,rfl,⟨rfl,bH (by omega),trivial⟩,rfl⟩;rw[aT,hy] at hz;rcases List.mem_append.1 hz with hz|hz
  ·exact hok z hz
  ·rw[List.mem_singleton.1 (show z∈[y] from hz)];exact h3'
def y5 (l:List By):Bool:=(l.take 20).all (fun i=>decide (i.length<=100))&&decide (l.length<=20)
theorem XN [MaxL] (l:List By):SC Tryz.prog 32 [.sl .none (bR l)] [] (.val (.b (y5 l))) []:=by
 have hle:decide (((bR l).length:Int)<=20)=decide (l.length<=20):=by rw[cD,decide_eq_decide];omega
 unfold y5;rw[<-hle];refine cO Tryz.func32 rfl ?_;conv=>whnf
 refine bE 0 l.length (fun i _=>i<=20/\∀z∈l.take i,decide (z.length<=100)=true) (fun i _=>[(0,.sl .none (bR l)),(3,.i .i64 (i:Nat))]) (fun _ (_:Unit)=>[]) [] () ⟨zL _,by simp⟩ (fun i _ φ0 hi hok=>?_);have fin9:(i=l.length∨i=20)->(l.take 20).all (fun i=>decide (i.length<=100))=true:=fun hh=>by
  rw[aQ];intro x hx;refine hok.2 x ?_;rcases hh with rfl|rfl
  ·rw[aV];exact List.mem_of_mem_take hx
  ·exact hx
 conv=>whnf
 apply gM<;>intro h<;>conv=>whnf
 rotate_left
 ·rw[fin9 (.inl (by have:=aA h;rw[cD] at this;omega))];exact cQ 0
 have hlt:i<l.length:=by have:=aB h;rw[cD] at this;omega
 apply gM<;>intro h2<;>conv=>whnf
 rotate_left
 ·rw[fin9 (.inr (by have:=aA h2;omega))];exact cQ 0
 have hlt2:i<20:=by have:=aB h2;omega
 refine(d7 hlt).elim fun y hy=>?_;refine ix (aY hy) ⟨rfl,?_⟩;conv=>whnf
 apply gM<;>intro h3<;>conv=>whnf
 ·rw[oM (l:=l.take 20) (i:=i) (y:=y) (by rw[dY,aD hlt2];exact hy) (bN (by have:=aB h3;omega))];exact cQ 0
 ·exact nx () hlt ⟨hlt,by omega,vM hy (bC (by have:=aA h3;omega)) hok.2⟩
def arz (a:Ar):Nat:=a.name.length
def rcz (r:Rc):Nat:=r.name.length+r.area.length+r.via.length+r.check.length
def mbz (m:Mb):Nat:=m.of.length
def kyz (y:Ky):Nat:=y.item.length
def syz (t:Sy):Nat:=t.name.length+t.owner.length+(t.ms.map mbz).sum+(t.keys.map kyz).sum
def NY (r:Rc):Bool:=JQ r.its&&y5 r.keys
def EK (t:Sy):Bool:=!(decide (t.ms.length>10)||decide (t.keys.length>10))&&t.ms.all fun m=>y5 m.sel
def EW (s:Sch):Bool:=!(decide (s.ar.length>12)||decide (s.rc.length>20)||decide (s.st.length>70))&&(s.rc.all NY&&(s.st.all EK&&decide ((s.ar.map arz).sum+(s.rc.map rcz).sum+(s.st.map syz).sum<=6000)))
def cap:Nat:=140737488355328
def a17 (s:Sch):Prop:=(∀a∈s.ar,a.name.length<=cap)/\(∀r∈s.rc,r.name.length<=cap/\r.area.length<=cap/\r.via.length<=cap/\r.check.length<=cap)/\
 ∀t∈s.st,t.name.length<=cap/\t.owner.length<=cap/\(∀m∈t.ms,m.of.length<=cap)/\∀y∈t.keys,y.item.length<=cap
theorem CT [MaxL] {a b:Nat} (h:a+b<=4000000000000000000):IntKind.i64.wrap (((a:Nat):Int)+((b:Nat):Int))=((a+b:Nat):Int):=by rw[dB (by omega) (by omega)];omega
theorem zK {α:Type} {f:α->Nat} {l:List α} {k:Nat} {x:α} (h:l[k]?=some x):((l.take (k+1)).map f).sum=((l.take k).map f).sum+f x:=by
 rw[aT,h,b5,List.sum_append];simp
theorem sM {α:Type} {f:α->Nat} {l:List α} {k:Nat} (h:l.length<=k):((l.take k).map f).sum=(l.map f).sum:=by rw[aW h]
theorem a0v {α:Type} {f:α->Nat} {l:List α} {c:Nat} (h:∀x∈l,f x<=c):(l.map f).sum<=l.length*c:=by
 induction l with
 |nil=>exact zL _
 |cons x l ih=>
  have h1:=ih fun y hy=>h y (eR _ hy);have h2:=h x fY;rw[dJ,List.sum_cons,aI,Nat.succ_mul];omega
theorem NV {α:Type} {f:α->Nat} {l:List α} {c n k:Nat} (h:∀x∈l,f x<=c) (hk:k<=n):((l.take k).map f).sum<=n*c:=by
 have h1:=a0v (f:=f) (l:=l.take k) fun x hx=>h x (List.mem_of_mem_take hx);have h2:(l.take k).length<=n:=by rw[aS];omega
 exact dG h1 (jM _ h2)
set_option maxHeartbeats 8000000 in
theorem a4E [MaxL] (s:Sch) (ht:a17 s):SC Tryz.prog 5 [lT s] [] (.val (.b (EW s))) []:=by
 obtain⟨ta,tr,tt⟩:=ht;have la:(zB s.ar).length=s.ar.length:=cL _ _;have lr:(pU s.rc).length=s.rc.length:=cL _ _;have lt:(tQ s.st).length=s.st.length:=cL _ _;generalize hX:EW s=X;unfold EW at hX;refine cO Tryz.func5 rfl ?_;conv=>whnf
 refine bZ (fun h=>?_) (fun h=>?_)<;>rw[la] at h<;>conv=>whnf
 ·rw[bC (p:=s.ar.length>12) (by have:=aB h;omega)] at hX;exact d6 hX
 refine bZ (fun h2=>?_) (fun h2=>?_)<;>rw[lr] at h2<;>conv=>whnf
 ·rw[bC (p:=s.rc.length>20) (by have:=aB h2;omega),Bool.or_true] at hX;exact d6 hX
 refine bZ (fun h3=>?_) (fun h3=>?_)<;>rw[lt] at h3<;>conv=>whnf
 ·rw[bC (p:=s.st.length>70) (by have:=aB h3;omega),Bool.or_true] at hX;exact d6 hX
 have b1:s.ar.length<=12:=by have:=aA h;omega
 have b2:s.rc.length<=20:=by have:=aA h2;omega
 have b3:s.st.length<=70:=by have:=aA h3;omega
 rw[bN (p:=s.ar.length>12) (by omega),bN (p:=s.rc.length>20) (by omega),bN (p:=s.st.length>70) (by omega)] at hX;replace hX:(s.rc.all NY&&(s.st.all EK&&decide ((s.ar.map arz).sum+(s.rc.map rcz).sum+(s.st.map syz).sum<=6000)))=X:=hX;clear h h2 h3;have ca:∀i,i<=12->((s.ar.take i).map arz).sum<=12*cap:=fun i hi=>NV ta hi;have cr:∀i,i<=20->((s.rc.take i).map rcz).sum<=20*(4*cap):=fun i hi=>NV (fun r hr=>by have:=tr r hr;unfold rcz;omega) hi;unfold cap at ca cr;refine bE 1 s.ar.length (fun i n=>n=((s.ar.take i).map arz).sum) (fun i n=>[(1,.ptr 0 0),(3,.i .i64 (n:Nat)),(4,.i .i64 (i:Nat))]) (fun i _=>[.box 26 (jX s)]) [] 0 rfl (fun i n φ0 hi hn=>?_);conv=>whnf
 apply gM<;>intro h<;>conv=>whnf
 ·have hlt:i<s.ar.length:=by have:=aB h;omega
  refine(d7 hlt).elim fun y hy=>?_;have hs:=zK (f:=arz) hy;have hc:=ca (i+1) (by omega);refine ix (aY hy) ⟨rfl,?_⟩;conv=>whnf
  exact nx (((s.ar.take (i+1)).map arz).sum) hlt ⟨hlt,rfl⟩ rfl ⟨rfl,by show GV.i .i64 (IntKind.i64.wrap ((n:Int)+(y.name.length:Nat)))=_;rw[CT (by subst hn;unfold arz at*;omega),hs,hn];rfl,bH (by omega),trivial⟩
 have e1:n=(s.ar.map arz).sum:=hn.trans (sM (by have:=aA h;omega));have c1:=ca s.ar.length b1;rw[sM (rL _),<-e1] at c1;rw[<-e1] at hX;clear h e1 hn;refine bE 1 s.rc.length (fun i m=>m=n+((s.rc.take i).map rcz).sum/\∀r∈s.rc.take i,NY r=true) (fun i m=>[(1,.ptr 0 0),(3,.i .i64 (m:Nat)),(5,.i .i64 (i:Nat))]) (fun i _=>[.box 26 (jX s)]) [] n ⟨rfl,by simp⟩ (fun i m φ1 hi hm=>?_);conv=>whnf
 apply gM<;>intro h<;>conv=>whnf
 ·have hlt:i<s.rc.length:=by have:=aB h;omega
  refine(d7 hlt).elim fun y hy=>?_;have hs:=zK (f:=rcz) hy;have hc:=cr (i+1) (by omega);have bad:NY y=false->false=X:=fun h9=>by rw[oM hy h9] at hX;exact hX
  refine ix (aY hy) ⟨rfl,?_⟩;conv=>whnf
  refine st ?_;conv=>whnf
  refine cP (a4F y.its) ?_;conv=>whnf
  apply gM<;>intro h4<;>conv=>whnf
  ·exact d6 (bad (by unfold NY;rw[LI h4];rfl))
  refine cP (XN y.keys) ?_;conv=>whnf
  apply gM<;>intro h5<;>conv=>whnf
  ·exact d6 (bad (by unfold NY;rw[LI h5,iL]))
  have hg:NY y=true:=by unfold NY;rw[show JQ y.its=true by simpa using h4,show y5 y.keys=true by simpa using h5];rfl
  refine nx (n+((s.rc.take (i+1)).map rcz).sum) hlt ⟨hlt,rfl,vM hy hg hm.2⟩ rfl ⟨rfl,?_,bH (by omega),trivial⟩;have e0:=hm.1;show GV.i .i64 (IntKind.i64.wrap (IntKind.i64.wrap (IntKind.i64.wrap (IntKind.i64.wrap ((m:Int)+(y.name.length:Nat))+(y.area.length:Nat))+(y.via.length:Nat))+(y.check.length:Nat)))=_;unfold rcz at hs hc e0⊢;rw[CT (by omega),CT (by omega),CT (by omega),CT (by omega),hs,e0];congr 2;omega
 have e1:m=n+(s.rc.map rcz).sum:=hm.1.trans (by rw[sM (by have:=aA h;omega)]);rw[uO (by have:=aA h;omega) hm.2,<-e1] at hX;replace hX:(s.st.all EK&&decide (m+(s.st.map syz).sum<=6000))=X:=hX;have c2:=cr s.rc.length b2;rw[sM (rL _)] at c2;have c3:m<=92*140737488355328:=by omega
 clear h e1 hm c1 c2 cr ca;have cm:∀y∈s.st,y.ms.length<=10->∀i,i<=10->((y.ms.take i).map mbz).sum<=10*cap:=fun y hy _ i hi=>NV (tt y hy).2.2.1 hi;have ck:∀y∈s.st,y.keys.length<=10->∀i,i<=10->((y.keys.take i).map kyz).sum<=10*cap:=fun y hy _ i hi=>NV (tt y hy).2.2.2 hi;have cs:∀i,i<=70->(∀t∈s.st.take i,EK t=true)->((s.st.take i).map syz).sum<=70*(22*cap):=fun i hi hg=>by
  have h1:=a0v (f:=syz) (l:=s.st.take i) (c:=22*cap) fun t ht=>by
   have hg':=hg t ht;have hm':=List.mem_of_mem_take ht;have hu:=tt t hm';unfold EK at hg';simp only[aF,eL,Bool.or_eq_false_iff,bV] at hg';have h3:=cm t hm' (by omega) t.ms.length (by omega);have h4:=ck t hm' (by omega) t.keys.length (by omega);rw[sM (rL _)] at h3 h4;unfold syz;omega
  have h2:(s.st.take i).length<=70:=by rw[aS];omega
  exact dG h1 (jM _ h2)
 unfold cap at cm ck cs;refine bE 1 s.st.length (fun i n=>n=m+((s.st.take i).map syz).sum/\∀t∈s.st.take i,EK t=true) (fun i n=>[(1,.ptr 0 0),(3,.i .i64 (n:Nat)),(7,.i .i64 (i:Nat))]) (fun i _=>[.box 26 (jX s)]) [] m ⟨rfl,by simp⟩ (fun i k φ2 hi hk=>?_);conv=>whnf
 apply gM<;>intro h<;>conv=>whnf
 rotate_left
 ·have e1:k=m+(s.st.map syz).sum:=hk.1.trans (by rw[sM (by have:=aA h;omega)]);rw[uO (by have:=aA h;omega) hk.2,<-e1] at hX;exact d6 (by rw[<-hX,Bool.true_and,decide_eq_decide];omega)
 have hlt:i<s.st.length:=by have:=aB h;omega
 have c4:=cs i (by omega) hk.2;have e4:=hk.1;have c5:k<=1632*140737488355328:=by omega
 refine(d7 hlt).elim fun y hy=>?_;have hym:=aE hy;have hs:=zK (f:=syz) hy;have bad:EK y=false->false=X:=fun h9=>by rw[oM hy h9] at hX;exact hX
 obtain⟨u1,u2,u3,u4⟩:=tt y hym;unfold cap at u1 u2 u3 u4;refine ix (aY hy) ⟨rfl,?_⟩;conv=>whnf
 refine st ?_;conv=>whnf
 refine bZ (fun h4=>?_) (fun h4=>?_)<;>rw[jP] at h4<;>conv=>whnf
 ·exact d6 (bad (by unfold EK;rw[bC (p:=y.ms.length>10) (by have:=aB h4;omega)];rfl))
 refine bZ (fun h5=>?_) (fun h5=>?_)<;>rw[lX] at h5<;>conv=>whnf
 ·exact d6 (bad (by unfold EK;rw[bC (p:=y.keys.length>10) (by have:=aB h5;omega),Bool.or_true];rfl))
 have d1:y.ms.length<=10:=by have:=aA h4;omega
 have d2:y.keys.length<=10:=by have:=aA h5;omega
 have hL:EK y=y.ms.all fun m=>y5 m.sel:=by unfold EK;rw[bN (p:=y.ms.length>10) (by omega),bN (p:=y.keys.length>10) (by omega)];rfl
 have cm':=cm y hym d1;have ck':=ck y hym d2;clear h h4 h5 cm ck cs c4;refine bE 2 y.ms.length (fun j n=>n=k+y.name.length+y.owner.length+((y.ms.take j).map mbz).sum/\∀z∈y.ms.take j,y5 z.sel=true) (fun j n=>[(1,.ptr 0 0),(3,.i .i64 (n:Nat)),(7,.i .i64 (i:Nat)),(8,.ptr 1 0),(9,.i .i64 (j:Nat))])
  (fun j _=>[.box 26 (jX s),.box 67 (E8 y)]) [] (k+y.name.length+y.owner.length) ⟨rfl,by simp⟩ (fun j n φ3 hj hn=>?_) (hφ:=⟨rfl,by show GV.i .i64 (IntKind.i64.wrap (IntKind.i64.wrap ((k:Int)+(y.name.length:Nat))+(y.owner.length:Nat)))=_;rw[CT (by omega),CT (by omega)],rfl,rfl,rfl,trivial⟩)
 conv=>whnf
 apply gM<;>intro h<;>conv=>whnf
 ·have hlt2:j<y.ms.length:=by have:=aB h;rw[jP] at this;omega
  refine(d7 hlt2).elim fun z hz=>?_;have hs2:=zK (f:=mbz) hz;have hc2:=cm' (j+1) (by omega);have e5:=hn.1;refine ix (aY hz) ⟨rfl,?_⟩;conv=>whnf
  refine cP (XN z.sel) ?_;conv=>whnf
  apply gM<;>intro h4<;>conv=>whnf
  ·exact d6 (bad (by rw[hL,oM hz (LI h4)]))
  refine ix (aY hz) ⟨rfl,?_⟩;conv=>whnf
  unfold mbz at hs2 hc2 e5;exact nx (k+y.name.length+y.owner.length+((y.ms.take (j+1)).map mbz).sum) hlt2 ⟨hlt2,rfl,vM hz (by simpa using h4) hn.2⟩ rfl ⟨rfl,by show GV.i .i64 (IntKind.i64.wrap ((n:Int)+(z.of.length:Nat)))=_;rw[CT (by omega),e5];unfold mbz;rw[hs2];congr 2;omega,rfl,rfl,bH (by omega),trivial⟩
 have e6:n=k+y.name.length+y.owner.length+(y.ms.map mbz).sum:=hn.1.trans (by rw[sM (by have:=aA h;rw[jP] at this;omega)]);have hg:EK y=true:=hL.trans (uO (by have:=aA h;rw[jP] at this;omega) hn.2);have c7:=cm' y.ms.length d1;rw[sM (rL _)] at c7;clear h hn;refine bE 2 y.keys.length (fun j q=>q=n+((y.keys.take j).map kyz).sum) (fun j q=>[(1,.ptr 0 0),(3,.i .i64 (q:Nat)),(7,.i .i64 (i:Nat)),(8,.ptr 1 0),(10,.i .i64 (j:Nat))])
  (fun j _=>[.box 26 (jX s),.box 67 (E8 y)]) [] n rfl (fun j q φ4 hj hq=>?_)
 conv=>whnf
 apply gM<;>intro h<;>conv=>whnf
 ·have hlt2:j<y.keys.length:=by have:=aB h;rw[lX] at this;omega
  refine(d7 hlt2).elim fun z hz=>?_;have hs2:=zK (f:=kyz) hz;have hc2:=ck' (j+1) (by omega);refine ix (aY hz) ⟨rfl,?_⟩;conv=>whnf
  unfold kyz at hs2 hc2 hq;exact nx (n+((y.keys.take (j+1)).map kyz).sum) hlt2 ⟨hlt2,rfl⟩ rfl ⟨rfl,by show GV.i .i64 (IntKind.i64.wrap ((q:Int)+(z.item.length:Nat)))=_;rw[CT (by omega),hq];unfold kyz;rw[hs2];congr 2;omega,rfl,rfl,bH (by omega),trivial⟩
 have e7:q=n+(y.keys.map kyz).sum:=hq.trans (by rw[sM (by have:=aA h;rw[lX] at this;omega)]);exact nx q hlt ⟨hlt,by rw[hs,e7,e6,e4];unfold syz;omega,vM hy hg hk.2⟩
