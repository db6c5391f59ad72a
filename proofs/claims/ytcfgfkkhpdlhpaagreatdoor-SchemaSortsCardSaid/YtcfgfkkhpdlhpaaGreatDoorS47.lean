/-
  A part of the proof of SchemaSorts.
-/
import Derived.Test.YtcfgfkkhpdlhpaaGreatDoorS46
set_option linter.all false
set_option maxRecDepth 100000
namespace Go.Proofs.YtcfgfkkhpdlhpaaGreatDoor
open Go.RowKit
def BJ (s:Sch) (i:Nat) (t:Sy):Int:=JS s (dH s++(gB s++(tP s).take i)) t
def pM (s:Sch):Nat×Int:=if s.st.length>60 then(0,4) else(eS (BJ s) 0 s.st).getD (0,0)
theorem XH [MaxL] (l:List Mb):(mC l).all (fun x=>x.cells.length==4)=true:=by
 rw[aS];intro x hx;obtain⟨b,_,rfl⟩:=List.mem_map.1 hx;rfl
set_option maxHeartbeats 8000000 in
theorem a1S [MaxL] (s:Sch) (hz:mA s) (hg:∀r∈s.rc,M1 kU r):SC Tryz.prog 53 [.ptr 0 0] (kE s (dH s++gB s)) (sR qZ (pM s).1 (pM s).2) (vZ (pM s).2 (kE s (dH s++(gB s++tP s)))):=by
 have hz':=hz;obtain⟨⟨ha,hl,ht⟩,hr,hst⟩:=hz;unfold bB at ht;have hlen:(zS s.st).length=s.st.length:=iB _ _;generalize hX:pM s=X;obtain⟨xi,xe⟩:=X;unfold pM at hX;have hh:(vZ xe (kE s (dH s++(gB s++tP s)))).all GObj.notHeld=true:=by unfold vZ;split<;>rfl
 have hs:(kE s (dH s++gB s)).length<=(vZ xe (kE s (dH s++(gB s++tP s)))).length:=by unfold vZ;split<;>exact rL _
 refine SC.of_gwpD 2 qO mixed Tryz.func53 rfl (bL rfl) hs hh ?_;conv=>whnf
 refine aE (fun h=>?_) (fun h=>?_)<;>conv=>whnf
 ·have h9:s.st.length>60:=by have:=aB h;rw[hlen] at this;omega
  rw[aF h9] at hX;refine cS [] (uX qZ 0 4) ?_;conv=>whnf
  exact nB hX (by decide)
 have h9:¬s.st.length>60:=by have:=aC h;rw[hlen] at this;omega
 rw[aD h9] at hX;refine cW 2 s.st.length (fun i _=>∀j z,j<i->s.st[j]?=some z->BJ s j z=0) (fun i _=>[(0,.ptr 0 0),(19,.sl .none (zS s.st)),(20,.i .i64 (zS s.st).length),(21,.i .i64 (i:Nat))]) (fun i (_:Unit)=>kE s (dH s++(gB s++(tP s).take i))) [] () (fun j z h=>absurd h (dJ j)) (fun i _ φ0 hi hok=>?_) (hσ:=by rw[List.take_zero,gC]);conv=>whnf
 refine aE (fun h=>?_) (fun h=>?_)<;>conv=>whnf
 rotate_left
 ·have hie:i=s.st.length:=by have:=aC h;rw[hlen] at this;omega
  rw[nY (Nat.le_of_eq hie.symm) hok] at hX;cases hX;have hm:(tP s).take i=tP s:=cZ (by rw[hie];simp[tP]);show OwesD 2 _ _ (kE s (dH s++(gB s++tP s))) _ _;exact .val (dB 2 (ho:=aQ (fun m=>kE s (dH s++(gB s++m))) hm))
 have hlt:i<s.st.length:=by have:=aB h;rw[hlen] at this;omega
 obtain⟨y,hy⟩:∃y,s.st[i]?=some y:=⟨s.st[i],gL hlt⟩;obtain⟨y1,y2,y3⟩:=hst y (aL hy);unfold bB at y1;have bad0:∀{e:Int},BJ s i y=e->e≠0->((i,e):Nat×Int)=(xi,xe):=fun he h0=>by
  subst he;rw[nZ hy h0 hok] at hX;exact hX
 have bad:∀{w:Bool} {e b:Int},BJ s i y=dX w e b->w=true->e≠0->((i,e):Nat×Int)=(xi,xe):=fun he h h0=>bad0 (he.trans (b4 h)) h0;generalize hB:(U8 (kX (pO s y) y.ms) (dX (!uM y.order 1 5) 1 (U8 (if y.order=5 then wB s y else dX (!y.keys.isEmpty||y.dups !=0) 1 0)
   (dX (!uM y.mode 1 3) 1 (dX (y.mode==3&&y.order !=5) 10 0)))))=B
 have hE:BJ s i y=kL (dH s++(gB s++(tP s).take i)) y.name (dX (y.owner !=[]&&!((gB s).contains y.owner)) 5 (dX (!uM y.ms.length 1 4) 11 B)):=by rw[<-hB];rfl
 rw[KD] at hE;have hm:kE s (dH s++(gB s++(tP s).take i)++[y.name])=kE s (dH s++(gB s++(tP s).take (i+1))):=by rw[bG,bG];exact aQ (fun m=>kE s (dH s++(gB s++m))) (zB (fun t:Sy=>t.name) hy).symm
 generalize dH s++(gB s++(tP s).take i)=met at*;refine ix (cI hy) ⟨rfl,?_⟩;conv=>whnf
 refine st ?_;conv=>whnf
 refine st ?_;conv=>whnf
 by_cases hn:kL met y.name 0=0;rotate_left
 ·rw[aD hn] at hE;refine cG [0,1] (FZ (kd:=qZ) (i:=i) hn) ?_;conv=>whnf
  exact nB (bad0 hE hn) hn
 rw[aF hn] at hE;refine cG [0,1] (FY (kd:=qZ) (i:=i) hn) ?_;conv=>whnf
 have hro:=r7 s hl y.owner;by_cases how:(y.owner !=[]&&!((gB s).contains y.owner))=true
 ·obtain⟨ho1,ho2⟩:=(aH ..).mp how;have hno:m8 (fun r:Rc=>r.name==y.owner) s.rc<0:=by
   rcases jI (fun r:Rc=>r.name==y.owner) s.rc with⟨h,_⟩|⟨_,_,_,_,_,h⟩
   ·exact h
   ·rw[show(gB s).contains y.owner=s.rc.any fun r=>r.name==y.owner from eK _ _ _,h] at ho2;cases ho2
  refine GDraw.pan 14 _ rfl (by kernel_rfl) ?_;conv=>whnf
  refine gY ho1 ?_;conv=>whnf
  refine cP hro ?_;conv=>whnf
  refine gW gF 2 5 (w:=decide (m8 (fun r:Rc=>r.name==y.owner) s.rc<0)) (fun h9=>?_) (fun h9=>absurd hno (aC h9));conv=>whnf
  exact nB (bad hE how (by decide)) (by decide)
 have how':(y.owner !=[]&&!((gB s).contains y.owner))=false:=by simpa using how
 replace hE:=hE.trans (bK how');have hown:y.owner≠[]->(gB s).contains y.owner=true:=fun h=>by
  rw[show(y.owner !=[])=true by simpa using h] at how';simpa using how'
 refine aZ (by kernel_rfl) ?_;conv=>whnf
 refine aE (fun h=>?_) (fun h=>?_)<;>conv=>whnf
 focus
  refine(rA (hown (by simpa using h))).elim fun io hio=>?_;rw[hio.1] at hro;refine cP hro ?_;conv=>whnf
  refine gW gF 2 5 (w:=false) (fun h9=>nomatch h9) (fun _=>?_)
 rotate_left;focus
  refine gW gF 2 5 (w:=false) (fun h9=>nomatch h9) (fun _=>?_)
 all_goals
  conv=>whnf
  refine cP (lO (mC y.ms).length 1 4) ?_;conv=>whnf
  refine gW gF 2 11 (fun h=>?_) (fun h=>?_)<;>rw[iT] at h<;>conv=>whnf
  ·exact nB (bad hE h (by decide)) (by decide)
  replace hE:=hE.trans (bK h);rw[<-hB] at hE;have badM:∀{e:Int},kX (pO s y) y.ms=e->e≠0->((i,e):Nat×Int)=(xi,xe):=fun he h0=>bad0 (hE.trans (by rw[he,oZ h0])) h0;refine cW 4 y.ms.length (fun k _=>∀j m,j<k->y.ms[j]?=some m->pO s y j m=0) (fun k _=>[(0,.ptr 0 0),(3,.ptr 3 0),(4,.fn (.func 122) [] [.ptr 2 0]),(19,.sl .none (zS s.st)),(20,.i .i64 (zS s.st).length),(21,.i .i64 (i:Nat)),(55,.sl .none (mC y.ms)),(56,.i .i64 (mC y.ms).length),(57,.i .i64 (k:Nat))])
   (fun k (_:Unit)=>kE s (met++[y.name])++[.box 3 [.i .i64 (i:Nat)],.box 39 (M5 y)]) [] () (fun j n h=>absurd h (dJ j)) (fun k _ φ1 hk hok2=>?_)
  conv=>whnf
  refine aE (fun h=>?_) (fun h=>?_)<;>conv=>whnf
  ·have hlt2:k<y.ms.length:=by have:=aB h;rw[iT] at this;omega
   refine(gV hlt2).elim fun m hm2=>?_;have badJ:∀{e:Int},pO s y k m=e->e≠0->((i,e):Nat×Int)=(xi,xe):=fun he h0=>badM ((n7 hm2 (by rw[he];exact h0) hok2).trans he) h0;have hrr:=r7 s hl m.of;refine ix (cI hm2) ⟨rfl,?_⟩;(conv=>whnf);refine st ?_;(conv=>whnf);refine(Bool.eq_false_or_eq_true ((gB s).contains m.of)).elim (fun hc=>?_) (fun hc=>?_);rotate_left
   ·have hno:m8 (fun r:Rc=>r.name==m.of) s.rc<0:=by
     rcases jI (fun r:Rc=>r.name==m.of) s.rc with⟨h,_⟩|⟨_,_,_,_,_,h⟩
     ·exact h
     ·rw[show(gB s).contains m.of=s.rc.any fun r=>r.name==m.of from eK _ _ _,h] at hc;cases hc
    refine GDraw.pan 9 _ rfl (by kernel_rfl) ?_;(conv=>whnf);refine cP hrr ?_;(conv=>whnf);refine gW gF 2 5 (w:=decide (m8 (fun r:Rc=>r.name==m.of) s.rc<0)) (fun h9=>?_) (fun h9=>absurd hno (aC h9));(conv=>whnf);exact nB (badJ (b4 (by rw[hc];rfl)) (by decide)) (by decide)
   refine(rA hc).elim fun ir hir=>?_;rw[hir.1] at hrr;have hJ:pO s y k m=dX (((y.ms.take k).map (·.of)).contains m.of) 6 (dX (!uM m.keep 1 3) 1 (TJ s y m)):=bK (by rw[hc];rfl);rw[eK] at hJ;refine aZ (by kernel_rfl) ?_;(conv=>whnf);refine cP hrr ?_;(conv=>whnf);refine gW gF 2 5 (w:=false) (fun h9=>nomatch h9) (fun _=>?_);(conv=>whnf);have hmb:=F7 ⟨[],[],y.ms.take k,0,[],0,0⟩ (by unfold bB;show(y.ms.take k).length<_;rw[bM];omega) m.of;have hmo:decide (m8 (fun z:Mb=>z.of==m.of) (y.ms.take k)>=0)=(y.ms.take k).any fun z=>z.of==m.of:=qJ _ _;refine(Bool.eq_false_or_eq_true ((y.ms.take k).any fun z=>z.of==m.of)).elim (fun hd=>?_) (fun hd=>?_)
   ·refine GDraw.pan 10 _ rfl (by kernel_rfl) ?_;(conv=>whnf);refine ZF (zs:=mC (y.ms.take k)) (XH _) (by rw[iT];omega) ?_ (List.map_take ..).symm;(conv=>whnf);refine cP hmb ?_ (wC (Wks.agg (wC (d7 _) (wC (d7 _) (wC (d7 _) (wC (d7 _) (wC (bI _ _) (wR _))))))) (wR _));(conv=>whnf);refine gW gF 2 6 (w:=decide (m8 (fun z:Mb=>z.of==m.of) (y.ms.take k)>=0)) (fun h9=>?_) (fun h9=>by rw[hmo,hd] at h9;cases h9);(conv=>whnf);exact nB (badJ (hJ.trans (b4 hd)) (by decide)) (by decide)
   refine aZ (by kernel_rfl) ?_;(conv=>whnf);refine ZF (zs:=mC (y.ms.take k)) (XH _) (by rw[iT];omega) ?_ (List.map_take ..).symm;(conv=>whnf);refine cP hmb ?_ (wC (Wks.agg (wC (d7 _) (wC (d7 _) (wC (d7 _) (wC (d7 _) (wC (bI _ _) (wR _))))))) (wR _));(conv=>whnf);refine gW gF 2 6 (w:=decide (m8 (fun z:Mb=>z.of==m.of) (y.ms.take k)>=0)) (fun h9=>by rw[hmo,hd] at h9;cases h9) (fun _=>?_);(conv=>whnf);replace hJ:=hJ.trans (bK hd);refine cP (lO m.keep 1 3) ?_;(conv=>whnf);refine gW gF 2 1 (fun h=>?_) (fun h=>?_)<;>conv=>whnf
   ·exact nB (badJ (hJ.trans (b4 h)) (by decide)) (by decide)
   replace hJ:=hJ.trans (bK h);have hsel:=PA s hz' (met++[y.name]) i y m (y3 m (aL hm2)) hc hown hg;by_cases h0:TJ s y m=0
   ·rw[h0] at hsel;refine cS [0,1,2] hsel ?_;(conv=>whnf);exact nx () hlt2 ⟨hlt2,kI hm2 (hJ.trans h0) hok2⟩
   ·rw[pS h0] at hsel;refine cS [0,1,2] hsel ?_;(conv=>whnf);exact nB (badJ hJ h0) h0
  have hM0:∀j m,y.ms[j]?=some m->pO s y j m=0:=fun j z hz=>hok2 j z (by have:=aC h;rw[iT] at this;have:=(List.getElem?_eq_some_iff.1 hz).1;omega) hz;have hmem:∀m∈y.ms,(gB s).contains m.of=true:=fun m hm9=>by
   obtain⟨j,hj⟩:=List.getElem?_of_mem hm9;simpa using(dL (hM0 j m hj) (by decide)).1
  replace hE:=hE.trans (oY (n6 hM0));refine cP (lO y.order 1 5) ?_;conv=>whnf
  refine gW gF 2 1 (fun h=>?_) (fun h=>?_)<;>conv=>whnf
  ·exact nB (bad hE h (by decide)) (by decide)
  replace hE:=hE.trans (bK h);refine aE (fun h=>?_) (fun h=>?_)<;>conv=>whnf
  focus
   rw[aF (show y.order=5 by simpa using h)] at hE;have hso:=W9 s hz' (met++[y.name]) i y (by unfold bB;omega) y2 hmem hg;by_cases h0:wB s y=0;rotate_left
   ·rw[pS h0] at hso;rw[oZ h0] at hE;refine cS [0,1,2] hso ?_;(conv=>whnf);exact nB (bad0 hE h0) h0
   rw[h0] at hso;replace hE:=hE.trans (oY h0);refine cS [0,1,2] hso ?_
  rotate_left;focus
   rw[aD (show¬y.order=5 by simpa using h)] at hE;have badO:(!y.keys.isEmpty||y.dups !=0)=true->((i,(1:Int)):Nat×Int)=(xi,xe):=fun h=>bad0 (hE.trans (by rw[b4 h,oZ (by decide)])) (by decide);refine aE (fun h3=>?_) (fun h3=>?_)<;>conv=>whnf
   ·refine gW gF 2 1 (w:=true) (fun _=>?_) (fun h9=>nomatch h9);(conv=>whnf);exact nB (badO (by have:((rZ y.keys).length:Int)>0:=aB h3;rw[j5] at this;cases hk:y.keys with|nil=>rw[hk] at this;exact absurd this (by decide)|cons a l=>rfl)) (by decide)
   have hke:y.keys.isEmpty=true:=by have:¬((rZ y.keys).length:Int)>0:=aC h3;rw[j5] at this;cases hk:y.keys with|nil=>rfl|cons a l=>rw[hk] at this;simp at this
   refine gW gF 2 1 (fun h4=>?_) (fun h4=>?_)
   ·(conv=>whnf);exact nB (badO (by rw[show(y.dups !=0)=true from h4,Bool.or_true])) (by decide)
   replace hE:=hE.trans (oY (bK (by rw[hke];exact h4)))
  all_goals
   (conv=>whnf);refine cP (lO y.mode 1 3) ?_;(conv=>whnf);refine gW gF 2 1 (fun h=>?_) (fun h=>?_)<;>conv=>whnf
   ·exact nB (bad hE h (by decide)) (by decide)
   replace hE:=hE.trans (bK h);refine aE (fun h5=>?_) (fun h5=>?_)<;>conv=>whnf
   ·refine gW gF 2 10 (fun h6=>?_) (fun h6=>?_)<;>conv=>whnf
    ·exact nB (bad hE (by rw[show(y.mode==3)=true from h5];exact h6) (by decide)) (by decide)
    exact nx () hlt ⟨hlt,kI hy (hE.trans (bK (by rw[show(y.mode==3)=true from h5];exact h6))) hok⟩ hm
   refine gW gF 2 10 (w:=false) (fun h9=>nomatch h9) (fun _=>?_);(conv=>whnf);exact nx () hlt ⟨hlt,kI hy (hE.trans (bK (by rw[show(y.mode==3)=false from h5];rfl))) hok⟩ hm
def r6 (s:Sch):By×Nat×Int:=ZI kU rU (fun l c=>DT l [] c) s
theorem y6 {α:Type} {f:Nat->α->Int} {n:Nat} {l:List α} {p:Nat×Int} (h:eS f n l=some p):p.2≠0:=by
 induction l generalizing n with
 |nil=>cases h
 |cons x l ih=>
  unfold eS at h;by_cases h0:f n x=0
  ·rw[aF h0] at h;exact ih h
  ·rw[aD h0] at h;cases h;exact h0
theorem UQ {o:Option (Nat×Int)} (h:(o.getD (0,0)).2=0) (hn:∀p,o=some p->p.2≠0):o=none:=by
 cases o with
 |none=>rfl
 |some p=>exact absurd h (hn p rfl)
theorem zZ (s:Sch):r6 s=if(lH s).2=0 then(if(nE s).2=0 then(if(pM s).2=0 then([],0,0) else(qZ,pM s)) else(lI,nE s)) else(uK,lH s):=by
 have h3:I8 s=if(pM s).2=0 then([],0,0) else(qZ,pM s):=by
  unfold I8 pM;by_cases h:s.st.length>60
  ·rw[aF h,aF h];rfl
  ·rw[aD h,aD h];show(match eS (BJ s) 0 s.st with|some (i,e)=>(qZ,i,e)|none=>([],0,0))=_;cases hf:eS (BJ s) 0 s.st with
   |none=>rfl
   |some p=>exact(aD (y6 hf)).symm
 have h2:IA kU rU (fun l c=>DT l [] c) s=if(nE s).2=0 then I8 s else(lI,nE s):=by
  unfold IA nE;cases uM s.rc.length 1 10 with
  |false=>rfl
  |true=>
   show(match eS (yX s) 0 s.rc with|some (i,e)=>(lI,i,e)|none=>I8 s)=if((eS (yX s) 0 s.rc).getD (0,0)).2=0 then _ else(lI,(eS (yX s) 0 s.rc).getD (0,0));cases hf:eS (yX s) 0 s.rc with
   |none=>rfl
   |some p=>exact(aD (y6 hf)).symm
 have h1:r6 s=if(lH s).2=0 then IA kU rU (fun l c=>DT l [] c) s else(uK,lH s):=by
  unfold r6 ZI lH;cases uM s.ar.length 1 6 with
  |false=>rfl
  |true=>
   show(match eS (fun i a=>mN ((dH s).take i) a) 0 s.ar with|some (i,e)=>(uK,i,e)|none=>IA kU rU (fun l c=>DT l [] c) s)=if((eS (fun i a=>mN ((dH s).take i) a) 0 s.ar).getD (0,0)).2=0 then _ else(uK,(eS (fun i a=>mN ((dH s).take i) a) 0 s.ar).getD (0,0));cases hf:eS (fun i a=>mN ((dH s).take i) a) 0 s.ar with
   |none=>rfl
   |some p=>exact(aD (y6 hf)).symm
 rw[h1,h2,h3]
theorem FB {s:Sch} (h:(nE s).2=0):∀r∈s.rc,M1 kU r:=by
 unfold nE at h;cases hb:uM s.rc.length 1 10 with
 |false=>rw[hb] at h;exact absurd (show(4:Int)=0 from h) (by decide)
 |true=>
  rw[hb] at h;exact TU (f:=fun i=>dH s++(gB s).take i) (UQ h fun p hp=>y6 hp)
theorem K7 [MaxL] {s:List GObj}:vZ 0 s=s:=aF rfl
theorem GB {α β:Type} {x:Option (α×β)} {K:α×β->Prop} (r:α) (h:x.map (·.1)=some r) (hk:∀b,K (r,b)):u6 x K:=by
 obtain⟨⟨a,b⟩,h1,rfl⟩:=Option.map_eq_some_iff.1 h;rw[h1];exact hk b
theorem ZO [MaxL] (s:Sch) (hz:mA s):SC Tryz.prog 12 [nO s] [] (.val (.tup [.s (r6 s).1,.i .i64 ((r6 s).2.1:Nat),.i .i64 (r6 s).2.2])) []:=by
 have hA:=ZM s hz.1.1;have hR:=TM s hz;rw[zZ];refine cY Tryz.func12 rfl ?_;conv=>whnf
 by_cases h1:(lH s).2=0;rotate_left
 ·rw[aD h1];rw[pS h1,AB h1] at hA;refine cG [5,4] hA ?_;conv=>whnf
  exact GB (K:=fun q=>Owes [] _ [] q.1 q.2) (.val (.tup [.s uK,.i .i64 ((lH s).1:Nat),.i .i64 (lH s).2])) (by kernel_rfl) fun _=>bE (.refl _) (fun _=>rfl)
 rw[aF h1];rw[h1,K7] at hA;refine cG [5,4] hA ?_;conv=>whnf
 by_cases h2:(nE s).2=0;rotate_left
 ·rw[aD h2];rw[pS h2,AB h2] at hR;refine cG [5,4] hR ?_;conv=>whnf
  exact GB (K:=fun q=>Owes [] _ [] q.1 q.2) (.val (.tup [.s lI,.i .i64 ((nE s).1:Nat),.i .i64 (nE s).2])) (by kernel_rfl) fun _=>bE (.refl _) (fun _=>rfl)
 rw[aF h2];rw[h2,K7] at hR;have hS:=a1S s hz (FB h2);refine cG [5,4] hR ?_;conv=>whnf
 by_cases h3:(pM s).2=0;rotate_left
 ·rw[aD h3];rw[pS h3,AB h3] at hS;refine cG [5,4] hS ?_;conv=>whnf
  exact GB (K:=fun q=>Owes [] _ [] q.1 q.2) (.val (.tup [.s qZ,.i .i64 ((pM s).1:Nat),.i .i64 (pM s).2])) (by kernel_rfl) fun _=>bE (.refl _) (fun _=>rfl)
 rw[aF h3];rw[h3,K7] at hS;refine cG [5,4] hS ?_;conv=>whnf
 refine st ?_;conv=>whnf
 refine st ?_;conv=>whnf
 refine st ?_;conv=>whnf
 exact wF (g:=.tup [.s [],.i .i64 0,.i .i64 0]) (by kernel_rfl) (.refl _) (fun _=>rfl)
theorem ZP [MaxL] (s:Sch) (hz:mA s):SC Tryz.prog 14 [nO s] [] (.val (.b ((r6 s).2.2==0))) []:=by
 have hw:=ZO s hz;refine cY Tryz.func14 rfl ?_;conv=>whnf
 refine cP hw ?_;conv=>whnf
 exact dB 0
set_option maxHeartbeats 8000000 in
theorem a2e [MaxL] (s:Sch) (hz:mA s) (hg:∀r∈s.rc,M1 kU r) (i:Nat) (y:Sy) (hy:s.st[i]?=some y):SC Tryz.prog 56 [nO s,.i .i64 (i:Nat)] [] (.val (.i .i64 (BJ s i y))) []:=by
 have hz':=hz;obtain⟨⟨ha,hl,ht⟩,hr,hst⟩:=hz;obtain⟨y1,y2,y3⟩:=hst y (aL hy);have hrc:(gB s).contains y.owner=s.rc.any fun r=>r.name==y.owner:=eK _ _ _;generalize hX:BJ s i y=xe;unfold BJ JS kL at hX;rw[a3T,<-HE hy tQ,<-qJ,<-qJ] at hX;have hn:=BS y.name;refine dF I2 mixed Tryz.func56 rfl (bL rfl) (by first|exact rL _|simp) rfl ?_;conv=>whnf
 refine ix (cI hy) ⟨rfl,?_⟩;conv=>whnf
 refine st ?_;conv=>whnf
 refine cP hn ?_;conv=>whnf
 refine aE (fun h=>?_) (fun h=>?_)<;>conv=>whnf
 ·exact b8 ((b4 (by rw[h];rfl)).symm.trans hX)
 rw[h] at hX;refine aE (fun h=>?_) (fun h=>?_)<;>conv=>whnf
 ·exact b8 ((b4 h).symm.trans hX)
 replace hX:=(bK h).symm.trans hX;refine cP (A8 s ha y.name) ?_;conv=>whnf
 refine aE (fun h=>?_) (fun h=>?_)<;>conv=>whnf
 ·exact b8 ((b4 (by rw[show decide (0<=m8 (fun x:Ar=>x.name==y.name) s.ar)=true from h];rfl)).symm.trans hX)
 rw[show decide (0<=m8 (fun x:Ar=>x.name==y.name) s.ar)=false from h] at hX;refine cP (lQ s hl y.name) ?_;conv=>whnf
 refine aE (fun h=>?_) (fun h=>?_)<;>conv=>whnf
 ·exact b8 ((b4 (by rw[show decide (0<=m8 (fun x:Rc=>x.name==y.name) s.rc)=true from h];rfl)).symm.trans hX)
 rw[show decide (0<=m8 (fun x:Rc=>x.name==y.name) s.rc)=false from h] at hX;refine cP (E3 s ht y.name) ?_;conv=>whnf
 refine aE (fun h=>?_) (fun h=>?_)<;>conv=>whnf
 ·exact b8 ((b4 h).symm.trans hX)
 replace hX:=(bK h).symm.trans hX;refine aE (fun h=>?_) (fun h=>?_)<;>conv=>whnf
 focus
  have how:(y.owner !=[])=true:=h;rw[how] at hX;refine cP (lQ s hl y.owner) ?_;conv=>whnf
  refine aE (fun h2=>?_) (fun h2=>?_)<;>rw[nM,<-hrc] at h2<;>conv=>whnf
  ·exact b8 ((b4 h2).symm.trans hX)
  have hown:y.owner≠[]->(gB s).contains y.owner=true:=fun _=>by simpa using h2
  replace hX:=(bK h2).symm.trans hX
 rotate_left;focus
  have how:(y.owner !=[])=false:=h;rw[how] at hX;have hown:y.owner≠[]->(gB s).contains y.owner=true:=fun h9=>absurd (by simpa using how) h9;replace hX:=(bK (w:=false&&_) rfl).symm.trans hX
 all_goals
  refine aE (fun h=>?_) (fun h=>?_)<;>rw[iT] at h<;>conv=>whnf
  ·exact b8 ((b4 (XF h)).symm.trans hX)
  refine aE (fun h2=>?_) (fun h2=>?_)<;>rw[iT] at h2<;>conv=>whnf
  ·exact b8 ((b4 (XE h2)).symm.trans hX)
  replace hX:=(bK (XD h h2)).symm.trans hX;have badM:∀{e:Int},kX (pO s y) y.ms=e->e≠0->e=xe:=fun he h0=>(by rw[he,oZ h0] at hX;exact hX);have y1':=y1;unfold bB at y1';refine cW 2 y.ms.length (fun k _=>∀j m,j<k->y.ms[j]?=some m->pO s y j m=0) (fun k _=>[(2,.ptr 0 0),(5,.ptr 1 0),(6,.i .i64 (k:Nat))]) (fun k (_:Unit)=>WJ s y) [] () (fun j n h=>absurd h (dJ j)) (fun k _ φ1 hk hok=>?_);conv=>whnf
  refine aE (fun h=>?_) (fun h=>?_)<;>conv=>whnf
  ·have hlt:k<y.ms.length:=by have:=aB h;rw[iT] at this;omega
   refine(gV hlt).elim fun m hm=>?_;refine cP (WZ s hz' y y1 k m hm (y3 m (aL hm)) hown hg) ?_;(conv=>whnf);refine aE (fun h4=>?_) (fun h4=>?_)<;>conv=>whnf
   ·exact b8 (badM (n7 hm (by simpa using h4) hok) (by simpa using h4))
   exact nx () hlt ⟨hlt,kI hm (by simpa using h4) hok⟩
  have hM0:∀j m,y.ms[j]?=some m->pO s y j m=0:=fun j z hz=>hok j z (by have:=aC h;rw[iT] at this;have:=(List.getElem?_eq_some_iff.1 hz).1;omega) hz;have hmem:∀m∈y.ms,(gB s).contains m.of=true:=fun m hm9=>by
   obtain⟨j,hj⟩:=List.getElem?_of_mem hm9;simpa using(dL (hM0 j m hj) (by decide)).1
  rw[oY (n6 hM0)] at hX;refine aE (fun h=>?_) (fun h=>?_)<;>conv=>whnf
  ·exact b8 ((b4 (XF h)).symm.trans hX)
  refine aE (fun h2=>?_) (fun h2=>?_)<;>conv=>whnf
  ·exact b8 ((b4 (XE h2)).symm.trans hX)
  replace hX:=(bK (XD h h2)).symm.trans hX;clear h h2;refine aE (fun h=>?_) (fun h=>?_)<;>conv=>whnf
  focus
   rw[aF (show y.order=5 by simpa using h)] at hX;refine cP (WQ s hz' y y1 y2 hmem hg) ?_;(conv=>whnf);refine aE (fun h4=>?_) (fun h4=>?_)
   ·(conv=>whnf);rw[oZ (by simpa using h4)] at hX;exact b8 hX
   rw[oY (show wB s y=0 by simpa using h4)] at hX
  rotate_left;focus
   rw[aD (show¬y.order=5 by simpa using h)] at hX;have badO:(!y.keys.isEmpty||y.dups !=0)=true->(1:Int)=xe:=fun h=>(by rw[b4 h,oZ (by decide)] at hX;exact hX);refine aE (fun h3=>?_) (fun h3=>?_)<;>conv=>whnf
   ·exact b8 (badO (by have:((rZ y.keys).length:Int)>0:=aB h3;rw[j5] at this;cases hk:y.keys with|nil=>rw[hk] at this;exact absurd this (by decide)|cons a l=>rfl))
   have hke:y.keys.isEmpty=true:=by have:¬((rZ y.keys).length:Int)>0:=aC h3;rw[j5] at this;cases hk:y.keys with|nil=>rfl|cons a l=>rw[hk] at this;simp at this
   refine aE (fun h4=>?_) (fun h4=>?_)
   ·(conv=>whnf);exact b8 (badO (by rw[show(y.dups !=0)=true from h4,Bool.or_true]))
   rw[oY (bK (by rw[hke];exact h4))] at hX
  all_goals
   (conv=>whnf);refine aE (fun h=>?_) (fun h=>?_)<;>conv=>whnf
   ·exact b8 ((b4 (XF h)).symm.trans hX)
   refine aE (fun h2=>?_) (fun h2=>?_)<;>conv=>whnf
   ·exact b8 ((b4 (XE h2)).symm.trans hX)
   replace hX:=(bK (XD h h2)).symm.trans hX;refine aE (fun h5=>?_) (fun h5=>?_)<;>conv=>whnf
   ·rw[show(y.mode==3)=true from h5] at hX;refine aE (fun h6=>?_) (fun h6=>?_)<;>conv=>whnf
    ·exact b8 ((b4 h6).symm.trans hX)
    exact b8 ((bK h6).symm.trans hX)
   rw[show(y.mode==3)=false from h5] at hX;exact b8 hX
theorem P9 {s:Sch} {p:Nat×Int} (h:lH s=p) (he:p.2≠0):r6 s=(uK,p):=by rw[zZ,h,aD he]
theorem P8 {s:Sch} {p:Nat×Int} (h0:(lH s).2=0) (h:nE s=p) (he:p.2≠0):r6 s=(lI,p):=by rw[zZ,aF h0,h,aD he]
theorem W8 {s:Sch} {p:Nat×Int} (h0:(lH s).2=0) (h1:(nE s).2=0) (h:pM s=p) (he:p.2≠0):r6 s=(qZ,p):=by rw[zZ,aF h0,aF h1,h,aD he]
set_option maxHeartbeats 8000000 in
theorem ZV [MaxL] (s:Sch) (hz:mA s) (hc:∀r∈s.rc,r.check.length<1000000):SC Tryz.prog 13 [nO s] [] (.val (.tup [.s (r6 s).1,.i .i64 ((r6 s).2.1:Nat),.i .i64 (r6 s).2.2])) []:=by
 have hz':=hz;obtain⟨⟨ha,hl,ht⟩,hr,hst⟩:=hz;unfold bB at ha hl ht;have la:(B5 s.ar).length=s.ar.length:=iB _ _;have lr:(yY s.rc).length=s.rc.length:=iB _ _;have lt:(zS s.st).length=s.st.length:=iB _ _;have hA:lH s=if !uM s.ar.length 1 6 then(0,4) else(eS (fun i a=>mN ((dH s).take i) a) 0 s.ar).getD (0,0):=rfl;have hR:nE s=if !uM s.rc.length 1 10 then(0,4) else(eS (yX s) 0 s.rc).getD (0,0):=rfl;have hS:pM s=if s.st.length>60 then(0,4) else(eS (BJ s) 0 s.st).getD (0,0):=rfl;generalize hK:r6 s=K;refine cY Tryz.func13 rfl ?_;conv=>whnf
 refine aE (fun h=>?_) (fun h=>?_)<;>rw[la] at h<;>conv=>whnf
 ·rw[<-hK,P9 (hA.trans (aF (XF h))) (by decide)];exact dB 0
 refine aE (fun h2=>?_) (fun h2=>?_)<;>rw[la] at h2<;>conv=>whnf
 ·rw[<-hK,P9 (hA.trans (aF (XE h2))) (by decide)];exact dB 0
 rw[XD h h2,aD (by simp)] at hA;clear h h2;refine cW 1 s.ar.length (fun i _=>∀j z,j<i->s.ar[j]?=some z->mN ((dH s).take j) z=0) (fun i _=>[(1,.ptr 0 0),(5,.i .i64 (i:Nat))]) (fun i (_:Unit)=>[.box 26 (sQ s)]) [] () (fun j z h=>absurd h (dJ j)) (fun i _ φ0 hi hok=>?_);conv=>whnf
 refine aE (fun h=>?_) (fun h=>?_)<;>conv=>whnf
 ·have hlt:i<s.ar.length:=by have:=aB h;rw[la] at this;omega
  refine(gV hlt).elim fun y hy=>?_;refine cP (a1i s (by unfold bB;exact ha) i y hy) ?_;conv=>whnf
  refine aE (fun h4=>?_) (fun h4=>?_)<;>conv=>whnf
  ·have h5:mN ((dH s).take i) y≠0:=by simpa using h4
   rw[<-hK,P9 (hA.trans (by rw[nZ (f:=fun i a=>mN ((dH s).take i) a) hy h5 hok])) h5];exact dB 0
  exact nx () hlt ⟨hlt,kI (f:=fun i a=>mN ((dH s).take i) a) hy (by simpa using h4) hok⟩
 have hA0:(lH s).2=0:=by rw[hA,nY (f:=fun i a=>mN ((dH s).take i) a) (by have:=aC h;rw[la] at this;omega) hok];rfl
 clear h;refine aE (fun h=>?_) (fun h=>?_)<;>rw[lr] at h<;>conv=>whnf
 ·rw[<-hK,P8 hA0 (hR.trans (aF (XF h))) (by decide)];exact dB 0
 refine aE (fun h2=>?_) (fun h2=>?_)<;>rw[lr] at h2<;>conv=>whnf
 ·rw[<-hK,P8 hA0 (hR.trans (aF (XE h2))) (by decide)];exact dB 0
 rw[XD h h2,aD (by simp)] at hR;clear h h2;refine cW 1 s.rc.length (fun i _=>∀j z,j<i->s.rc[j]?=some z->yX s j z=0) (fun i _=>[(1,.ptr 0 0),(7,.i .i64 (i:Nat))]) (fun i (_:Unit)=>[.box 26 (sQ s)]) [] () (fun j z h=>absurd h (dJ j)) (fun i _ φ0 hi hok=>?_);conv=>whnf
 refine aE (fun h=>?_) (fun h=>?_)<;>conv=>whnf
 ·have hlt:i<s.rc.length:=by have:=aB h;rw[lr] at this;omega
  refine(gV hlt).elim fun y hy=>?_;refine cP (WR s hz' hc i y hy) ?_;conv=>whnf
  refine aE (fun h4=>?_) (fun h4=>?_)<;>conv=>whnf
  ·have h5:yX s i y≠0:=by simpa using h4
   rw[<-hK,P8 hA0 (hR.trans (by rw[nZ hy h5 hok])) h5];exact dB 0
  exact nx () hlt ⟨hlt,kI hy (by simpa using h4) hok⟩
 have hR0:(nE s).2=0:=by rw[hR,nY (by have:=aC h;rw[lr] at this;omega) hok];rfl
 clear h;refine aE (fun h=>?_) (fun h=>?_)<;>rw[lt] at h<;>conv=>whnf
 ·rw[<-hK,W8 hA0 hR0 (hS.trans (aF (by have:=aB h;omega))) (by decide)];exact dB 0
 rw[aD (by have:=aC h;omega)] at hS;clear h;refine cW 1 s.st.length (fun i _=>∀j z,j<i->s.st[j]?=some z->BJ s j z=0) (fun i _=>[(1,.ptr 0 0),(9,.i .i64 (i:Nat))]) (fun i (_:Unit)=>[.box 26 (sQ s)]) [] () (fun j z h=>absurd h (dJ j)) (fun i _ φ0 hi hok=>?_);conv=>whnf
 refine aE (fun h=>?_) (fun h=>?_)<;>conv=>whnf
 ·have hlt:i<s.st.length:=by have:=aB h;rw[lt] at this;omega
  refine(gV hlt).elim fun y hy=>?_;refine cP (a2e s hz' (FB hR0) i y hy) ?_;conv=>whnf
  refine aE (fun h4=>?_) (fun h4=>?_)<;>conv=>whnf
  ·have h5:BJ s i y≠0:=by simpa using h4
   rw[<-hK,W8 hA0 hR0 (hS.trans (by rw[nZ hy h5 hok])) h5];exact dB 0
  exact nx () hlt ⟨hlt,kI hy (by simpa using h4) hok⟩
 have hS0:(pM s).2=0:=by rw[hS,nY (by have:=aC h;rw[lt] at this;omega) hok];rfl
 rw[<-hK,zZ,aF hA0,aF hR0,aF hS0];exact dB 0
theorem X3 [MaxL] (s:Sch) (hz:mA s) (hc:∀r∈s.rc,r.check.length<1000000):SC Tryz.prog 15 [nO s] [] (.val (.b ((r6 s).2.2==0))) []:=by
 have hw:=ZV s hz hc;refine cY Tryz.func15 rfl ?_;conv=>whnf
 refine cP hw ?_;conv=>whnf
 exact dB 0
def hH (f:Term->By) (L:List Term) (i:Nat):List By:=(L.take i).foldl (fun l x=>a3d l (f x)) []
def G3 (l:List Itm):Bool:=(l.take 20).all (fun i=>decide (i.name.length<=100))&&decide (l.length<=20)
theorem a0D [MaxL] (l:List Itm):SC Tryz.prog 48 [.sl .none (f5 l)] [] (.val (.b (G3 l))) []:=by
 have hlen:=mG l;unfold G3;refine cY Tryz.func48 rfl ?_;conv=>whnf
 refine cV (fun i:Nat=>i<=l.length/\i<=20/\∀z∈l.take i,z.name.length<=100) (fun i=>[(0,.sl .none (f5 l)),(3,.i .i64 (i:Nat))]) (fun _=>⟨[],0,[]⟩) (fun i=>l.length - i) 0 ⟨zL _,zL _,(fun z h=>by simp at h)⟩ ⟨rfl,rfl,trivial⟩ rfl (fun i φ0 hi=>?_);obtain⟨hi,hi2,hok⟩:=hi;have dB:(i=l.length∨i=20)->(l.take 20).all (fun i=>decide (i.name.length<=100))=true:=fun hh=>by
  rw[aS];intro x hx;refine bN (hok x ?_);rcases hh with rfl|rfl
  ·rw[b6];exact List.mem_of_mem_take hx
  ·exact hx
 have hle:decide (((f5 l).length:Int)<=20)=decide (l.length<=20):=by rw[hlen,decide_eq_decide];omega
 conv=>whnf
 refine aE (fun h=>?_) (fun h=>?_)<;>conv=>whnf
 rotate_left
 ·have hie:i=l.length:=by have:=aC h;rw[hlen] at this;omega
  refine bY ?_;rw[dB (.inl hie),Bool.true_and];exact hle
 have hlt:i<l.length:=by have:=aB h;rw[hlen] at this;omega
 refine aE (fun h2=>?_) (fun h2=>?_)<;>conv=>whnf
 rotate_left
 ·have hie:i=20:=by have:=aC h2;omega
  refine bY ?_;rw[dB (.inr hie),Bool.true_and];exact hle
 have hlt2:i<20:=by have:=aB h2;omega
 obtain⟨y,hy⟩:∃y,l[i]?=some y:=⟨l[i],gL hlt⟩;refine⟨cN _,_,by rw[aA];exact m6 hy,rfl,?_⟩;conv=>whnf
 refine aE (fun h3=>?_) (fun h3=>?_)<;>conv=>whnf
 ·have h3':¬y.name.length<=100:=by have:=aB h3;omega
  refine bY ?_;have:(l.take 20).all (fun i=>decide (i.name.length<=100))=false:=List.all_eq_false.2 ⟨y,aL (i:=i) (by rw[dK,aF hlt2];exact hy),by simpa using h3'⟩;rw[this];rfl
 ·have h3':y.name.length<=100:=by have:=aC h3;omega
  refine⟨l.length - (i+1),(by show _<l.length - i;omega),i+1,⟨hlt,hlt2,fun z hz=>?_⟩,rfl,⟨rfl,b7 (by omega),trivial⟩,rfl⟩;rw[bP,hy] at hz;rcases List.mem_append.1 hz with hz|hz
  ·exact hok z hz
  ·rw[List.mem_singleton.1 (show z∈[y] from hz)];exact h3'
def BM (r:List Val):Bool:=decide (r.length<=20)&&r.all (fun v=>decide (v.s.length<=200))
def A3 (L:List (List Val)):List GV:=L.map fun r=>.sl .none (hZ r)
theorem WL [MaxL] (L:List (List Val)):ClL (A3 L):=gI (fun r=>bT (zR r)) L
theorem TR (L:List (List Val)):(A3 L).length=L.length:=by simp[A3]
theorem a1x [MaxL] (L:List (List Val)) (hL:L.length<=100):SC Tryz.prog 29 [.sl .none (A3 L)] [] (.val (.b (L.all BM))) []:=by
 have hlen:=TR L;refine cY Tryz.func29 rfl ?_;conv=>whnf
 refine cV (fun i:Nat=>i<=L.length/\∀z∈L.take i,BM z=true) (fun i=>[(0,.sl .none (A3 L)),(3,.i .i64 (i:Nat))]) (fun _=>⟨[],0,[]⟩) (fun i=>L.length - i) 0 ⟨zL _,(fun z h=>by simp at h)⟩ ⟨rfl,rfl,trivial⟩ rfl (fun i φ0 hi=>?_);obtain⟨hi,hok⟩:=hi;conv=>whnf
 refine aE (fun h=>?_) (fun h=>?_)<;>conv=>whnf
 rotate_left
 ·have hie:i=L.length:=by have:=aC h;rw[hlen] at this;omega
  refine bY ?_;rw[hie,b6] at hok;exact(List.all_eq_true.2 hok).symm
 have hlt:i<L.length:=by have:=aB h;rw[hlen] at this;omega
 obtain⟨r,hy⟩:∃y,L[i]?=some y:=⟨L[i],gL hlt⟩;have hgy:(A3 L)[i]?=some (.sl .none (hZ r)):=by unfold A3;rw[aM,hy];rfl
 have hl2:=kA r;have bad:BM r=false->L.all BM=false:=fun h=>List.all_eq_false.2 ⟨r,aL hy,by rw[h];simp⟩;refine⟨cN _,.sl .none (hZ r),by rw[aA];exact hgy,rfl,?_⟩;conv=>whnf
 refine aE (fun h2=>?_) (fun h2=>?_)<;>conv=>whnf
 ·have h2':¬r.length<=20:=by have:=aB h2;rw[hl2] at this;omega
  refine bY ?_;rw[bad (by unfold BM;rw[cD h2'];rfl)]
 have h2':r.length<=20:=by have:=aC h2;rw[hl2] at this;omega
 refine cV (fun k:Nat=>k<=r.length/\∀v∈r.take k,v.s.length<=200) (fun k=>[(0,.sl .none (A3 L)),(3,.i .i64 (i:Nat)),(4,.i .i64 (k:Nat))]) (fun _=>⟨[],0,[]⟩) (fun k=>r.length - k) 0 ⟨zL _,(fun z h=>by simp at h)⟩ ⟨rfl,rfl,rfl,trivial⟩ rfl (fun k φ0 hk=>?_);obtain⟨hk,hok2⟩:=hk;conv=>whnf
 refine⟨cN _,.sl .none (hZ r),by rw[aA];exact hgy,rfl,?_⟩;conv=>whnf
 refine aE (fun h3=>?_) (fun h3=>?_)<;>conv=>whnf
 rotate_left
 ·have hke:k=r.length:=by have:=aC h3;rw[hl2] at this;omega
  rw[hke,b6] at hok2;refine⟨L.length - (i+1),(by show _<L.length - i;omega),i+1,⟨hlt,fun z hz=>?_⟩,rfl,⟨rfl,b7 (by omega),trivial⟩,rfl⟩;rw[bP,hy] at hz;rcases List.mem_append.1 hz with hz|hz
  ·exact hok z hz
  ·rw[List.mem_singleton.1 (show z∈[r] from hz)];unfold BM;rw[bN h2',Bool.true_and,aS];exact fun v hv=>bN (hok2 v hv)
 have hklt:k<r.length:=by have:=aB h3;rw[hl2] at this;omega
 have hkv:∃y,r[k]?=some y:=⟨_,gL hklt⟩;refine hkv.elim (fun v hv=>?_);refine⟨cN _,.sl .none (hZ r),by rw[aA];exact hgy,rfl,?_⟩;conv=>whnf
 refine⟨cN _,_,by rw[aA];exact JK hv,rfl,?_⟩;conv=>whnf
 refine aE (fun h4=>?_) (fun h4=>?_)<;>conv=>whnf
 ·have h4':¬v.s.length<=200:=by have:=aB h4;omega
  refine bY ?_;have:r.all (fun v=>decide (v.s.length<=200))=false:=List.all_eq_false.2 ⟨v,aL hv,by simpa using h4'⟩;rw[bad (by unfold BM;rw[this,Bool.and_false])]
 ·have h4':v.s.length<=200:=by have:=aC h4;omega
  refine⟨r.length - (k+1),(by show _<r.length - k;omega),k+1,⟨hklt,fun z hz=>?_⟩,rfl,⟨rfl,rfl,b7 (by omega),trivial⟩,rfl⟩;rw[bP,hv] at hz;rcases List.mem_append.1 hz with hz|hz
  ·exact hok2 z hz
  ·rw[List.mem_singleton.1 (show z∈[v] from hz)];exact h4'
theorem a1c {r:List Val} (h:BM r=true):r.length<bB:=by
 unfold BM at h;simp only[aH,aK] at h;unfold bB;omega
