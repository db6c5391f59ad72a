/-
  A part of the proof of SchemaFinds.
-/
import Derived.Test.YtcfgfkkhpdlhpaaGreatDoorT45
set_option linter.all false
set_option maxRecDepth 100000
namespace Go.Proofs.YtcfgfkkhpdlhpaaGreatDoor
open Go.RowKit
def B6 (s:Sch) (i:Nat) (t:Sy):Int:=JH s (dH s++(eJ s++(tJ s).take i)) t
def pJ (s:Sch):Nat×Int:=if s.st.length>60 then(0,4) else(eS (B6 s) 0 s.st).getD (0,0)
theorem X0 [MaxL] (l:List Mb):(kV l).all (fun x=>x.cells.length==4)=true:=by
 rw[aS];intro x hx;obtain⟨b,_,rfl⟩:=List.mem_map.1 hx;rfl
set_option maxHeartbeats 8000000 in
theorem a1J [MaxL] (s:Sch) (hz:kI s) (hg:∀r∈s.rc,LQ kY r):SC Tryz.prog 53 [.ptr 0 0] (kG s (dH s++eJ s)) (sH qS (pJ s).1 (pJ s).2) (vV (pJ s).2 (kG s (dH s++(eJ s++tJ s)))):=by
 have hz':=hz;obtain⟨⟨ha,hl,ht⟩,hr,hst⟩:=hz;unfold bH at ht;have hlen:(rP s.st).length=s.st.length:=fN _ _;generalize hX:pJ s=X;obtain⟨xi,xe⟩:=X;unfold pJ at hX;have hh:(vV xe (kG s (dH s++(eJ s++tJ s)))).all GObj.notHeld=true:=by unfold vV;split<;>rfl
 have hs:(kG s (dH s++eJ s)).length<=(vV xe (kG s (dH s++(eJ s++tJ s)))).length:=by unfold vV;split<;>exact rL _
 refine SC.of_gwpD 2 oY mixed Tryz.func53 rfl (bL rfl) hs hh ?_;conv=>whnf
 refine aF (fun h=>?_) (fun h=>?_)<;>conv=>whnf
 ·have h9:s.st.length>60:=by have:=aA h;rw[hlen] at this;omega
  rw[aG h9] at hX;refine cS [] (uP qS 0 4) ?_;conv=>whnf
  exact nA hX (by decide)
 have h9:¬s.st.length>60:=by have:=aB h;rw[hlen] at this;omega
 rw[aE h9] at hX;refine cK 2 s.st.length (fun i _=>∀j z,j<i->s.st[j]?=some z->B6 s j z=0) (fun i _=>[(0,.ptr 0 0),(19,.sl .none (rP s.st)),(20,.i .i64 (rP s.st).length),(21,.i .i64 (i:Nat))]) (fun i (_:Unit)=>kG s (dH s++(eJ s++(tJ s).take i))) [] () (fun j z h=>absurd h (cM j)) (fun i _ φ0 hi hok=>?_) (hσ:=by rw[List.take_zero,iV]);conv=>whnf
 refine aF (fun h=>?_) (fun h=>?_)<;>conv=>whnf
 rotate_left
 ·have hie:i=s.st.length:=by have:=aB h;rw[hlen] at this;omega
  rw[o7 (Nat.le_of_eq hie.symm) hok] at hX;cases hX;have hm:(tJ s).take i=tJ s:=bX (by rw[hie];simp[tJ]);show OwesD 2 _ _ (kG s (dH s++(eJ s++tJ s))) _ _;exact .val (d6 2 (ho:=aQ (fun m=>kG s (dH s++(eJ s++m))) hm))
 have hlt:i<s.st.length:=by have:=aA h;rw[hlen] at this;omega
 obtain⟨y,hy⟩:∃y,s.st[i]?=some y:=⟨s.st[i],gL hlt⟩;obtain⟨y1,y2,y3⟩:=hst y (aK hy);unfold bH at y1;have bad0:∀{e:Int},B6 s i y=e->e≠0->((i,e):Nat×Int)=(xi,xe):=fun he h0=>by
  subst he;rw[o8 hy h0 hok] at hX;exact hX
 have bad:∀{w:Bool} {e b:Int},B6 s i y=dZ w e b->w=true->e≠0->((i,e):Nat×Int)=(xi,xe):=fun he h h0=>bad0 (he.trans (b4 h)) h0;generalize hB:(TR (l5 (pL s y) y.ms) (dZ (!vR y.order 1 5) 1 (TR (if y.order=5 then y8 s y else dZ (!y.keys.isEmpty||y.dups !=0) 1 0)
   (dZ (!vR y.mode 1 3) 1 (dZ (y.mode==3&&y.order !=5) 10 0)))))=B
 have hE:B6 s i y=kN (dH s++(eJ s++(tJ s).take i)) y.name (dZ (y.owner !=[]&&!((eJ s).contains y.owner)) 5 (dZ (!vR y.ms.length 1 4) 11 B)):=by rw[<-hB];rfl
 rw[K1] at hE;have hm:kG s (dH s++(eJ s++(tJ s).take i)++[y.name])=kG s (dH s++(eJ s++(tJ s).take (i+1))):=by rw[bD,bD];exact aQ (fun m=>kG s (dH s++(eJ s++m))) (z1 (fun t:Sy=>t.name) hy).symm
 generalize dH s++(eJ s++(tJ s).take i)=met at*;refine ix (cE hy) ⟨rfl,?_⟩;conv=>whnf
 refine st ?_;conv=>whnf
 refine st ?_;conv=>whnf
 by_cases hn:kN met y.name 0=0;rotate_left
 ·rw[aE hn] at hE;refine cG [0,1] (FJ (kd:=qS) (i:=i) hn) ?_;conv=>whnf
  exact nA (bad0 hE hn) hn
 rw[aG hn] at hE;refine cG [0,1] (FI (kd:=qS) (i:=i) hn) ?_;conv=>whnf
 have hro:=oH s hl y.owner;by_cases how:(y.owner !=[]&&!((eJ s).contains y.owner))=true
 ·obtain⟨ho1,ho2⟩:=(aH ..).mp how;have hno:m6 (fun r:Rc=>r.name==y.owner) s.rc<0:=by
   rcases j5 (fun r:Rc=>r.name==y.owner) s.rc with⟨h,_⟩|⟨_,_,_,_,_,h⟩
   ·exact h
   ·rw[show(eJ s).contains y.owner=s.rc.any fun r=>r.name==y.owner from dU _ _ _,h] at ho2;cases ho2
  refine GDraw.pan 14 _ rfl (by kernel_rfl) ?_;conv=>whnf
  refine gY ho1 ?_;conv=>whnf
  refine cP hro ?_;conv=>whnf
  refine hH gH 2 5 (w:=decide (m6 (fun r:Rc=>r.name==y.owner) s.rc<0)) (fun h9=>?_) (fun h9=>absurd hno (aB h9));conv=>whnf
  exact nA (bad hE how (by decide)) (by decide)
 have how':(y.owner !=[]&&!((eJ s).contains y.owner))=false:=by simpa using how
 replace hE:=hE.trans (bK how');have hown:y.owner≠[]->(eJ s).contains y.owner=true:=fun h=>by
  rw[show(y.owner !=[])=true by simpa using h] at how';simpa using how'
 refine b9 (by kernel_rfl) ?_;conv=>whnf
 refine aF (fun h=>?_) (fun h=>?_)<;>conv=>whnf
 focus
  refine(qW (hown (by simpa using h))).elim fun io hio=>?_;rw[hio.1] at hro;refine cP hro ?_;conv=>whnf
  refine hH gH 2 5 (w:=false) (fun h9=>nomatch h9) (fun _=>?_)
 rotate_left;focus
  refine hH gH 2 5 (w:=false) (fun h9=>nomatch h9) (fun _=>?_)
 all_goals
  conv=>whnf
  refine cP (lS (kV y.ms).length 1 4) ?_;conv=>whnf
  refine hH gH 2 11 (fun h=>?_) (fun h=>?_)<;>rw[iC] at h<;>conv=>whnf
  ·exact nA (bad hE h (by decide)) (by decide)
  replace hE:=hE.trans (bK h);rw[<-hB] at hE;have badM:∀{e:Int},l5 (pL s y) y.ms=e->e≠0->((i,e):Nat×Int)=(xi,xe):=fun he h0=>bad0 (hE.trans (by rw[he,oX h0])) h0;refine cK 4 y.ms.length (fun k _=>∀j m,j<k->y.ms[j]?=some m->pL s y j m=0) (fun k _=>[(0,.ptr 0 0),(3,.ptr 3 0),(4,.fn (.func 122) [] [.ptr 2 0]),(19,.sl .none (rP s.st)),(20,.i .i64 (rP s.st).length),(21,.i .i64 (i:Nat)),(55,.sl .none (kV y.ms)),(56,.i .i64 (kV y.ms).length),(57,.i .i64 (k:Nat))])
   (fun k (_:Unit)=>kG s (met++[y.name])++[.box 3 [.i .i64 (i:Nat)],.box 39 (H9 y)]) [] () (fun j n h=>absurd h (cM j)) (fun k _ φ1 hk hok2=>?_)
  conv=>whnf
  refine aF (fun h=>?_) (fun h=>?_)<;>conv=>whnf
  ·have hlt2:k<y.ms.length:=by have:=aA h;rw[iC] at this;omega
   refine(gQ hlt2).elim fun m hm2=>?_;have badJ:∀{e:Int},pL s y k m=e->e≠0->((i,e):Nat×Int)=(xi,xe):=fun he h0=>badM ((n7 hm2 (by rw[he];exact h0) hok2).trans he) h0;have hrr:=oH s hl m.of;refine ix (cE hm2) ⟨rfl,?_⟩;(conv=>whnf);refine st ?_;(conv=>whnf);refine(Bool.eq_false_or_eq_true ((eJ s).contains m.of)).elim (fun hc=>?_) (fun hc=>?_);rotate_left
   ·have hno:m6 (fun r:Rc=>r.name==m.of) s.rc<0:=by
     rcases j5 (fun r:Rc=>r.name==m.of) s.rc with⟨h,_⟩|⟨_,_,_,_,_,h⟩
     ·exact h
     ·rw[show(eJ s).contains m.of=s.rc.any fun r=>r.name==m.of from dU _ _ _,h] at hc;cases hc
    refine GDraw.pan 9 _ rfl (by kernel_rfl) ?_;(conv=>whnf);refine cP hrr ?_;(conv=>whnf);refine hH gH 2 5 (w:=decide (m6 (fun r:Rc=>r.name==m.of) s.rc<0)) (fun h9=>?_) (fun h9=>absurd hno (aB h9));(conv=>whnf);exact nA (badJ (b4 (by rw[hc];rfl)) (by decide)) (by decide)
   refine(qW hc).elim fun ir hir=>?_;rw[hir.1] at hrr;have hJ:pL s y k m=dZ (((y.ms.take k).map (·.of)).contains m.of) 6 (dZ (!vR m.keep 1 3) 1 (VO s y m)):=bK (by rw[hc];rfl);rw[dU] at hJ;refine b9 (by kernel_rfl) ?_;(conv=>whnf);refine cP hrr ?_;(conv=>whnf);refine hH gH 2 5 (w:=false) (fun h9=>nomatch h9) (fun _=>?_);(conv=>whnf);have hmb:=EW ⟨[],[],y.ms.take k,0,[],0,0⟩ (by unfold bH;show(y.ms.take k).length<_;rw[bN];omega) m.of;have hmo:decide (m6 (fun z:Mb=>z.of==m.of) (y.ms.take k)>=0)=(y.ms.take k).any fun z=>z.of==m.of:=lP _ _;refine(Bool.eq_false_or_eq_true ((y.ms.take k).any fun z=>z.of==m.of)).elim (fun hd=>?_) (fun hd=>?_)
   ·refine GDraw.pan 10 _ rfl (by kernel_rfl) ?_;(conv=>whnf);refine Z1 (zs:=kV (y.ms.take k)) (X0 _) (by rw[iC];omega) ?_ (List.map_take ..).symm;(conv=>whnf);refine cP hmb ?_ (wC (Wks.agg (wC (cY _) (wC (cY _) (wC (cY _) (wC (cY _) (wC (bE _ _) (wR _))))))) (wR _));(conv=>whnf);refine hH gH 2 6 (w:=decide (m6 (fun z:Mb=>z.of==m.of) (y.ms.take k)>=0)) (fun h9=>?_) (fun h9=>by rw[hmo,hd] at h9;cases h9);(conv=>whnf);exact nA (badJ (hJ.trans (b4 hd)) (by decide)) (by decide)
   refine b9 (by kernel_rfl) ?_;(conv=>whnf);refine Z1 (zs:=kV (y.ms.take k)) (X0 _) (by rw[iC];omega) ?_ (List.map_take ..).symm;(conv=>whnf);refine cP hmb ?_ (wC (Wks.agg (wC (cY _) (wC (cY _) (wC (cY _) (wC (cY _) (wC (bE _ _) (wR _))))))) (wR _));(conv=>whnf);refine hH gH 2 6 (w:=decide (m6 (fun z:Mb=>z.of==m.of) (y.ms.take k)>=0)) (fun h9=>by rw[hmo,hd] at h9;cases h9) (fun _=>?_);(conv=>whnf);replace hJ:=hJ.trans (bK hd);refine cP (lS m.keep 1 3) ?_;(conv=>whnf);refine hH gH 2 1 (fun h=>?_) (fun h=>?_)<;>conv=>whnf
   ·exact nA (badJ (hJ.trans (b4 h)) (by decide)) (by decide)
   replace hJ:=hJ.trans (bK h);have hsel:=OU s hz' (met++[y.name]) i y m (y3 m (aK hm2)) hc hown hg;by_cases h0:VO s y m=0
   ·rw[h0] at hsel;refine cS [0,1,2] hsel ?_;(conv=>whnf);exact nx () hlt2 ⟨hlt2,kK hm2 (hJ.trans h0) hok2⟩
   ·rw[pQ h0] at hsel;refine cS [0,1,2] hsel ?_;(conv=>whnf);exact nA (badJ hJ h0) h0
  have hM0:∀j m,y.ms[j]?=some m->pL s y j m=0:=fun j z hz=>hok2 j z (by have:=aB h;rw[iC] at this;have:=(List.getElem?_eq_some_iff.1 hz).1;omega) hz;have hmem:∀m∈y.ms,(eJ s).contains m.of=true:=fun m hm9=>by
   obtain⟨j,hj⟩:=List.getElem?_of_mem hm9;simpa using(i6 (hM0 j m hj) (by decide)).1
  replace hE:=hE.trans (oW (n6 hM0));refine cP (lS y.order 1 5) ?_;conv=>whnf
  refine hH gH 2 1 (fun h=>?_) (fun h=>?_)<;>conv=>whnf
  ·exact nA (bad hE h (by decide)) (by decide)
  replace hE:=hE.trans (bK h);refine aF (fun h=>?_) (fun h=>?_)<;>conv=>whnf
  focus
   rw[aG (show y.order=5 by simpa using h)] at hE;have hso:=VW s hz' (met++[y.name]) i y (by unfold bH;omega) y2 hmem hg;by_cases h0:y8 s y=0;rotate_left
   ·rw[pQ h0] at hso;rw[oX h0] at hE;refine cS [0,1,2] hso ?_;(conv=>whnf);exact nA (bad0 hE h0) h0
   rw[h0] at hso;replace hE:=hE.trans (oW h0);refine cS [0,1,2] hso ?_
  rotate_left;focus
   rw[aE (show¬y.order=5 by simpa using h)] at hE;have badO:(!y.keys.isEmpty||y.dups !=0)=true->((i,(1:Int)):Nat×Int)=(xi,xe):=fun h=>bad0 (hE.trans (by rw[b4 h,oX (by decide)])) (by decide);refine aF (fun h3=>?_) (fun h3=>?_)<;>conv=>whnf
   ·refine hH gH 2 1 (w:=true) (fun _=>?_) (fun h9=>nomatch h9);(conv=>whnf);exact nA (badO (by have:((tQ y.keys).length:Int)>0:=aA h3;rw[kX] at this;cases hk:y.keys with|nil=>rw[hk] at this;exact absurd this (by decide)|cons a l=>rfl)) (by decide)
   have hke:y.keys.isEmpty=true:=by have:¬((tQ y.keys).length:Int)>0:=aB h3;rw[kX] at this;cases hk:y.keys with|nil=>rfl|cons a l=>rw[hk] at this;simp at this
   refine hH gH 2 1 (fun h4=>?_) (fun h4=>?_)
   ·(conv=>whnf);exact nA (badO (by rw[show(y.dups !=0)=true from h4,Bool.or_true])) (by decide)
   replace hE:=hE.trans (oW (bK (by rw[hke];exact h4)))
  all_goals
   (conv=>whnf);refine cP (lS y.mode 1 3) ?_;(conv=>whnf);refine hH gH 2 1 (fun h=>?_) (fun h=>?_)<;>conv=>whnf
   ·exact nA (bad hE h (by decide)) (by decide)
   replace hE:=hE.trans (bK h);refine aF (fun h5=>?_) (fun h5=>?_)<;>conv=>whnf
   ·refine hH gH 2 10 (fun h6=>?_) (fun h6=>?_)<;>conv=>whnf
    ·exact nA (bad hE (by rw[show(y.mode==3)=true from h5];exact h6) (by decide)) (by decide)
    exact nx () hlt ⟨hlt,kK hy (hE.trans (bK (by rw[show(y.mode==3)=true from h5];exact h6))) hok⟩ hm
   refine hH gH 2 10 (w:=false) (fun h9=>nomatch h9) (fun _=>?_);(conv=>whnf);exact nx () hlt ⟨hlt,kK hy (hE.trans (bK (by rw[show(y.mode==3)=false from h5];rfl))) hok⟩ hm
def mP (s:Sch):By×Nat×Int:=Z5 kY rM (fun l c=>DG l [] c) s
theorem xU {α:Type} {f:Nat->α->Int} {n:Nat} {l:List α} {p:Nat×Int} (h:eS f n l=some p):p.2≠0:=by
 induction l generalizing n with
 |nil=>cases h
 |cons x l ih=>
  unfold eS at h;by_cases h0:f n x=0
  ·rw[aG h0] at h;exact ih h
  ·rw[aE h0] at h;cases h;exact h0
theorem UA {o:Option (Nat×Int)} (h:(o.getD (0,0)).2=0) (hn:∀p,o=some p->p.2≠0):o=none:=by
 cases o with
 |none=>rfl
 |some p=>exact absurd h (hn p rfl)
theorem zT (s:Sch):mP s=if(lK s).2=0 then(if(nF s).2=0 then(if(pJ s).2=0 then([],0,0) else(qS,pJ s)) else(lL,nF s)) else(uD,lK s):=by
 have h3:I1 s=if(pJ s).2=0 then([],0,0) else(qS,pJ s):=by
  unfold I1 pJ;by_cases h:s.st.length>60
  ·rw[aG h,aG h];rfl
  ·rw[aE h,aE h];show(match eS (B6 s) 0 s.st with|some (i,e)=>(qS,i,e)|none=>([],0,0))=_;cases hf:eS (B6 s) 0 s.st with
   |none=>rfl
   |some p=>exact(aE (xU hf)).symm
 have h2:I4 kY rM (fun l c=>DG l [] c) s=if(nF s).2=0 then I1 s else(lL,nF s):=by
  unfold I4 nF;cases vR s.rc.length 1 10 with
  |false=>rfl
  |true=>
   show(match eS (yT s) 0 s.rc with|some (i,e)=>(lL,i,e)|none=>I1 s)=if((eS (yT s) 0 s.rc).getD (0,0)).2=0 then _ else(lL,(eS (yT s) 0 s.rc).getD (0,0));cases hf:eS (yT s) 0 s.rc with
   |none=>rfl
   |some p=>exact(aE (xU hf)).symm
 have h1:mP s=if(lK s).2=0 then I4 kY rM (fun l c=>DG l [] c) s else(uD,lK s):=by
  unfold mP Z5 lK;cases vR s.ar.length 1 6 with
  |false=>rfl
  |true=>
   show(match eS (fun i a=>mO ((dH s).take i) a) 0 s.ar with|some (i,e)=>(uD,i,e)|none=>I4 kY rM (fun l c=>DG l [] c) s)=if((eS (fun i a=>mO ((dH s).take i) a) 0 s.ar).getD (0,0)).2=0 then _ else(uD,(eS (fun i a=>mO ((dH s).take i) a) 0 s.ar).getD (0,0));cases hf:eS (fun i a=>mO ((dH s).take i) a) 0 s.ar with
   |none=>rfl
   |some p=>exact(aE (xU hf)).symm
 rw[h1,h2,h3]
theorem F1 {s:Sch} (h:(nF s).2=0):∀r∈s.rc,LQ kY r:=by
 unfold nF at h;cases hb:vR s.rc.length 1 10 with
 |false=>rw[hb] at h;exact absurd (show(4:Int)=0 from h) (by decide)
 |true=>
  rw[hb] at h;exact TE (f:=fun i=>dH s++(eJ s).take i) (UA h fun p hp=>xU hp)
theorem JV [MaxL] {s:List GObj}:vV 0 s=s:=aG rfl
theorem G0 {α β:Type} {x:Option (α×β)} {K:α×β->Prop} (r:α) (h:x.map (·.1)=some r) (hk:∀b,K (r,b)):tW x K:=by
 obtain⟨⟨a,b⟩,h1,rfl⟩:=Option.map_eq_some_iff.1 h;rw[h1];exact hk b
theorem ZF [MaxL] (s:Sch) (hz:kI s):SC Tryz.prog 12 [lC s] [] (.val (.tup [.s (mP s).1,.i .i64 ((mP s).2.1:Nat),.i .i64 (mP s).2.2])) []:=by
 have hA:=ZC s hz.1.1;have hR:=T5 s hz;rw[zT];refine cZ Tryz.func12 rfl ?_;conv=>whnf
 by_cases h1:(lK s).2=0;rotate_left
 ·rw[aE h1];rw[pQ h1,zZ h1] at hA;refine cG [5,4] hA ?_;conv=>whnf
  exact G0 (K:=fun q=>Owes [] _ [] q.1 q.2) (.val (.tup [.s uD,.i .i64 ((lK s).1:Nat),.i .i64 (lK s).2])) (by kernel_rfl) fun _=>bA (.refl _) (fun _=>rfl)
 rw[aG h1];rw[h1,JV] at hA;refine cG [5,4] hA ?_;conv=>whnf
 by_cases h2:(nF s).2=0;rotate_left
 ·rw[aE h2];rw[pQ h2,zZ h2] at hR;refine cG [5,4] hR ?_;conv=>whnf
  exact G0 (K:=fun q=>Owes [] _ [] q.1 q.2) (.val (.tup [.s lL,.i .i64 ((nF s).1:Nat),.i .i64 (nF s).2])) (by kernel_rfl) fun _=>bA (.refl _) (fun _=>rfl)
 rw[aG h2];rw[h2,JV] at hR;have hS:=a1J s hz (F1 h2);refine cG [5,4] hR ?_;conv=>whnf
 by_cases h3:(pJ s).2=0;rotate_left
 ·rw[aE h3];rw[pQ h3,zZ h3] at hS;refine cG [5,4] hS ?_;conv=>whnf
  exact G0 (K:=fun q=>Owes [] _ [] q.1 q.2) (.val (.tup [.s qS,.i .i64 ((pJ s).1:Nat),.i .i64 (pJ s).2])) (by kernel_rfl) fun _=>bA (.refl _) (fun _=>rfl)
 rw[aG h3];rw[h3,JV] at hS;refine cG [5,4] hS ?_;conv=>whnf
 refine st ?_;conv=>whnf
 refine st ?_;conv=>whnf
 refine st ?_;conv=>whnf
 exact wD (g:=.tup [.s [],.i .i64 0,.i .i64 0]) (by kernel_rfl) (.refl _) (fun _=>rfl)
theorem DP [MaxL] (s:Sch) (hz:kI s):SC Tryz.prog 14 [lC s] [] (.val (.b ((mP s).2.2==0))) []:=by
 have hw:=ZF s hz;refine cZ Tryz.func14 rfl ?_;conv=>whnf
 refine cP hw ?_;conv=>whnf
 exact d6 0
set_option maxHeartbeats 8000000 in
theorem a2Z [MaxL] (s:Sch) (hz:kI s) (hg:∀r∈s.rc,LQ kY r) (i:Nat) (y:Sy) (hy:s.st[i]?=some y):SC Tryz.prog 56 [lC s,.i .i64 (i:Nat)] [] (.val (.i .i64 (B6 s i y))) []:=by
 have hz':=hz;obtain⟨⟨ha,hl,ht⟩,hr,hst⟩:=hz;obtain⟨y1,y2,y3⟩:=hst y (aK hy);have hrc:(eJ s).contains y.owner=s.rc.any fun r=>r.name==y.owner:=dU _ _ _;generalize hX:B6 s i y=xe;unfold B6 JH kN at hX;rw[a3P,<-H3 hy tK,<-lP,<-lP] at hX;have hn:=BF y.name;refine cH vO mixed Tryz.func56 rfl (bL rfl) (by first|exact rL _|simp) rfl ?_;conv=>whnf
 refine ix (cE hy) ⟨rfl,?_⟩;conv=>whnf
 refine st ?_;conv=>whnf
 refine cP hn ?_;conv=>whnf
 refine aF (fun h=>?_) (fun h=>?_)<;>conv=>whnf
 ·exact bI ((b4 (by rw[h];rfl)).symm.trans hX)
 rw[h] at hX;refine aF (fun h=>?_) (fun h=>?_)<;>conv=>whnf
 ·exact bI ((b4 h).symm.trans hX)
 replace hX:=(bK h).symm.trans hX;refine cP (wA s ha y.name) ?_;conv=>whnf
 refine aF (fun h=>?_) (fun h=>?_)<;>conv=>whnf
 ·exact bI ((b4 (by rw[show decide (0<=m6 (fun x:Ar=>x.name==y.name) s.ar)=true from h];rfl)).symm.trans hX)
 rw[show decide (0<=m6 (fun x:Ar=>x.name==y.name) s.ar)=false from h] at hX;refine cP (lU s hl y.name) ?_;conv=>whnf
 refine aF (fun h=>?_) (fun h=>?_)<;>conv=>whnf
 ·exact bI ((b4 (by rw[show decide (0<=m6 (fun x:Rc=>x.name==y.name) s.rc)=true from h];rfl)).symm.trans hX)
 rw[show decide (0<=m6 (fun x:Rc=>x.name==y.name) s.rc)=false from h] at hX;refine cP (DR s ht y.name) ?_;conv=>whnf
 refine aF (fun h=>?_) (fun h=>?_)<;>conv=>whnf
 ·exact bI ((b4 h).symm.trans hX)
 replace hX:=(bK h).symm.trans hX;refine aF (fun h=>?_) (fun h=>?_)<;>conv=>whnf
 focus
  have how:(y.owner !=[])=true:=h;rw[how] at hX;refine cP (lU s hl y.owner) ?_;conv=>whnf
  refine aF (fun h2=>?_) (fun h2=>?_)<;>rw[nP,<-hrc] at h2<;>conv=>whnf
  ·exact bI ((b4 h2).symm.trans hX)
  have hown:y.owner≠[]->(eJ s).contains y.owner=true:=fun _=>by simpa using h2
  replace hX:=(bK h2).symm.trans hX
 rotate_left;focus
  have how:(y.owner !=[])=false:=h;rw[how] at hX;have hown:y.owner≠[]->(eJ s).contains y.owner=true:=fun h9=>absurd (by simpa using how) h9;replace hX:=(bK (w:=false&&_) rfl).symm.trans hX
 all_goals
  refine aF (fun h=>?_) (fun h=>?_)<;>rw[iC] at h<;>conv=>whnf
  ·exact bI ((b4 (WZ h)).symm.trans hX)
  refine aF (fun h2=>?_) (fun h2=>?_)<;>rw[iC] at h2<;>conv=>whnf
  ·exact bI ((b4 (WY h2)).symm.trans hX)
  replace hX:=(bK (WX h h2)).symm.trans hX;have badM:∀{e:Int},l5 (pL s y) y.ms=e->e≠0->e=xe:=fun he h0=>(by rw[he,oX h0] at hX;exact hX);have y1':=y1;unfold bH at y1';refine cK 2 y.ms.length (fun k _=>∀j m,j<k->y.ms[j]?=some m->pL s y j m=0) (fun k _=>[(2,.ptr 0 0),(5,.ptr 1 0),(6,.i .i64 (k:Nat))]) (fun k (_:Unit)=>W7 s y) [] () (fun j n h=>absurd h (cM j)) (fun k _ φ1 hk hok=>?_);conv=>whnf
  refine aF (fun h=>?_) (fun h=>?_)<;>conv=>whnf
  ·have hlt:k<y.ms.length:=by have:=aA h;rw[iC] at this;omega
   refine(gQ hlt).elim fun m hm=>?_;refine cP (WK s hz' y y1 k m hm (y3 m (aK hm)) hown hg) ?_;(conv=>whnf);refine aF (fun h4=>?_) (fun h4=>?_)<;>conv=>whnf
   ·exact bI (badM (n7 hm (by simpa using h4) hok) (by simpa using h4))
   exact nx () hlt ⟨hlt,kK hm (by simpa using h4) hok⟩
  have hM0:∀j m,y.ms[j]?=some m->pL s y j m=0:=fun j z hz=>hok j z (by have:=aB h;rw[iC] at this;have:=(List.getElem?_eq_some_iff.1 hz).1;omega) hz;have hmem:∀m∈y.ms,(eJ s).contains m.of=true:=fun m hm9=>by
   obtain⟨j,hj⟩:=List.getElem?_of_mem hm9;simpa using(i6 (hM0 j m hj) (by decide)).1
  rw[oW (n6 hM0)] at hX;refine aF (fun h=>?_) (fun h=>?_)<;>conv=>whnf
  ·exact bI ((b4 (WZ h)).symm.trans hX)
  refine aF (fun h2=>?_) (fun h2=>?_)<;>conv=>whnf
  ·exact bI ((b4 (WY h2)).symm.trans hX)
  replace hX:=(bK (WX h h2)).symm.trans hX;clear h h2;refine aF (fun h=>?_) (fun h=>?_)<;>conv=>whnf
  focus
   rw[aG (show y.order=5 by simpa using h)] at hX;refine cP (WC s hz' y y1 y2 hmem hg) ?_;(conv=>whnf);refine aF (fun h4=>?_) (fun h4=>?_)
   ·(conv=>whnf);rw[oX (by simpa using h4)] at hX;exact bI hX
   rw[oW (show y8 s y=0 by simpa using h4)] at hX
  rotate_left;focus
   rw[aE (show¬y.order=5 by simpa using h)] at hX;have badO:(!y.keys.isEmpty||y.dups !=0)=true->(1:Int)=xe:=fun h=>(by rw[b4 h,oX (by decide)] at hX;exact hX);refine aF (fun h3=>?_) (fun h3=>?_)<;>conv=>whnf
   ·exact bI (badO (by have:((tQ y.keys).length:Int)>0:=aA h3;rw[kX] at this;cases hk:y.keys with|nil=>rw[hk] at this;exact absurd this (by decide)|cons a l=>rfl))
   have hke:y.keys.isEmpty=true:=by have:¬((tQ y.keys).length:Int)>0:=aB h3;rw[kX] at this;cases hk:y.keys with|nil=>rfl|cons a l=>rw[hk] at this;simp at this
   refine aF (fun h4=>?_) (fun h4=>?_)
   ·(conv=>whnf);exact bI (badO (by rw[show(y.dups !=0)=true from h4,Bool.or_true]))
   rw[oW (bK (by rw[hke];exact h4))] at hX
  all_goals
   (conv=>whnf);refine aF (fun h=>?_) (fun h=>?_)<;>conv=>whnf
   ·exact bI ((b4 (WZ h)).symm.trans hX)
   refine aF (fun h2=>?_) (fun h2=>?_)<;>conv=>whnf
   ·exact bI ((b4 (WY h2)).symm.trans hX)
   replace hX:=(bK (WX h h2)).symm.trans hX;refine aF (fun h5=>?_) (fun h5=>?_)<;>conv=>whnf
   ·rw[show(y.mode==3)=true from h5] at hX;refine aF (fun h6=>?_) (fun h6=>?_)<;>conv=>whnf
    ·exact bI ((b4 h6).symm.trans hX)
    exact bI ((bK h6).symm.trans hX)
   rw[show(y.mode==3)=false from h5] at hX;exact bI hX
theorem OT {s:Sch} {p:Nat×Int} (h:lK s=p) (he:p.2≠0):mP s=(uD,p):=by rw[zT,h,aE he]
theorem OS {s:Sch} {p:Nat×Int} (h0:(lK s).2=0) (h:nF s=p) (he:p.2≠0):mP s=(lL,p):=by rw[zT,aG h0,h,aE he]
theorem VU {s:Sch} {p:Nat×Int} (h0:(lK s).2=0) (h1:(nF s).2=0) (h:pJ s=p) (he:p.2≠0):mP s=(qS,p):=by rw[zT,aG h0,aG h1,h,aE he]
set_option maxHeartbeats 8000000 in
theorem ZN [MaxL] (s:Sch) (hz:kI s) (hc:∀r∈s.rc,r.check.length<1000000):SC Tryz.prog 13 [lC s] [] (.val (.tup [.s (mP s).1,.i .i64 ((mP s).2.1:Nat),.i .i64 (mP s).2.2])) []:=by
 have hz':=hz;obtain⟨⟨ha,hl,ht⟩,hr,hst⟩:=hz;unfold bH at ha hl ht;have la:(vX s.ar).length=s.ar.length:=fN _ _;have lr:(vU s.rc).length=s.rc.length:=fN _ _;have lt:(rP s.st).length=s.st.length:=fN _ _;have hA:lK s=if !vR s.ar.length 1 6 then(0,4) else(eS (fun i a=>mO ((dH s).take i) a) 0 s.ar).getD (0,0):=rfl;have hR:nF s=if !vR s.rc.length 1 10 then(0,4) else(eS (yT s) 0 s.rc).getD (0,0):=rfl;have hS:pJ s=if s.st.length>60 then(0,4) else(eS (B6 s) 0 s.st).getD (0,0):=rfl;generalize hK:mP s=K;refine cZ Tryz.func13 rfl ?_;conv=>whnf
 refine aF (fun h=>?_) (fun h=>?_)<;>rw[la] at h<;>conv=>whnf
 ·rw[<-hK,OT (hA.trans (aG (WZ h))) (by decide)];exact d6 0
 refine aF (fun h2=>?_) (fun h2=>?_)<;>rw[la] at h2<;>conv=>whnf
 ·rw[<-hK,OT (hA.trans (aG (WY h2))) (by decide)];exact d6 0
 rw[WX h h2,aE (by simp)] at hA;clear h h2;refine cK 1 s.ar.length (fun i _=>∀j z,j<i->s.ar[j]?=some z->mO ((dH s).take j) z=0) (fun i _=>[(1,.ptr 0 0),(5,.i .i64 (i:Nat))]) (fun i (_:Unit)=>[.box 26 (lI s)]) [] () (fun j z h=>absurd h (cM j)) (fun i _ φ0 hi hok=>?_);conv=>whnf
 refine aF (fun h=>?_) (fun h=>?_)<;>conv=>whnf
 ·have hlt:i<s.ar.length:=by have:=aA h;rw[la] at this;omega
  refine(gQ hlt).elim fun y hy=>?_;refine cP (a1d s (by unfold bH;exact ha) i y hy) ?_;conv=>whnf
  refine aF (fun h4=>?_) (fun h4=>?_)<;>conv=>whnf
  ·have h5:mO ((dH s).take i) y≠0:=by simpa using h4
   rw[<-hK,OT (hA.trans (by rw[o8 (f:=fun i a=>mO ((dH s).take i) a) hy h5 hok])) h5];exact d6 0
  exact nx () hlt ⟨hlt,kK (f:=fun i a=>mO ((dH s).take i) a) hy (by simpa using h4) hok⟩
 have hA0:(lK s).2=0:=by rw[hA,o7 (f:=fun i a=>mO ((dH s).take i) a) (by have:=aB h;rw[la] at this;omega) hok];rfl
 clear h;refine aF (fun h=>?_) (fun h=>?_)<;>rw[lr] at h<;>conv=>whnf
 ·rw[<-hK,OS hA0 (hR.trans (aG (WZ h))) (by decide)];exact d6 0
 refine aF (fun h2=>?_) (fun h2=>?_)<;>rw[lr] at h2<;>conv=>whnf
 ·rw[<-hK,OS hA0 (hR.trans (aG (WY h2))) (by decide)];exact d6 0
 rw[WX h h2,aE (by simp)] at hR;clear h h2;refine cK 1 s.rc.length (fun i _=>∀j z,j<i->s.rc[j]?=some z->yT s j z=0) (fun i _=>[(1,.ptr 0 0),(7,.i .i64 (i:Nat))]) (fun i (_:Unit)=>[.box 26 (lI s)]) [] () (fun j z h=>absurd h (cM j)) (fun i _ φ0 hi hok=>?_);conv=>whnf
 refine aF (fun h=>?_) (fun h=>?_)<;>conv=>whnf
 ·have hlt:i<s.rc.length:=by have:=aA h;rw[lr] at this;omega
  refine(gQ hlt).elim fun y hy=>?_;refine cP (WD s hz' hc i y hy) ?_;conv=>whnf
  refine aF (fun h4=>?_) (fun h4=>?_)<;>conv=>whnf
  ·have h5:yT s i y≠0:=by simpa using h4
   rw[<-hK,OS hA0 (hR.trans (by rw[o8 hy h5 hok])) h5];exact d6 0
  exact nx () hlt ⟨hlt,kK hy (by simpa using h4) hok⟩
 have hR0:(nF s).2=0:=by rw[hR,o7 (by have:=aB h;rw[lr] at this;omega) hok];rfl
 clear h;refine aF (fun h=>?_) (fun h=>?_)<;>rw[lt] at h<;>conv=>whnf
 ·rw[<-hK,VU hA0 hR0 (hS.trans (aG (by have:=aA h;omega))) (by decide)];exact d6 0
 rw[aE (by have:=aB h;omega)] at hS;clear h;refine cK 1 s.st.length (fun i _=>∀j z,j<i->s.st[j]?=some z->B6 s j z=0) (fun i _=>[(1,.ptr 0 0),(9,.i .i64 (i:Nat))]) (fun i (_:Unit)=>[.box 26 (lI s)]) [] () (fun j z h=>absurd h (cM j)) (fun i _ φ0 hi hok=>?_);conv=>whnf
 refine aF (fun h=>?_) (fun h=>?_)<;>conv=>whnf
 ·have hlt:i<s.st.length:=by have:=aA h;rw[lt] at this;omega
  refine(gQ hlt).elim fun y hy=>?_;refine cP (a2Z s hz' (F1 hR0) i y hy) ?_;conv=>whnf
  refine aF (fun h4=>?_) (fun h4=>?_)<;>conv=>whnf
  ·have h5:B6 s i y≠0:=by simpa using h4
   rw[<-hK,VU hA0 hR0 (hS.trans (by rw[o8 hy h5 hok])) h5];exact d6 0
  exact nx () hlt ⟨hlt,kK hy (by simpa using h4) hok⟩
 have hS0:(pJ s).2=0:=by rw[hS,o7 (by have:=aB h;rw[lt] at this;omega) hok];rfl
 rw[<-hK,zT,aG hA0,aG hR0,aG hS0];exact d6 0
theorem F5 [MaxL] (s:Sch) (hz:kI s) (hc:∀r∈s.rc,r.check.length<1000000):SC Tryz.prog 15 [lC s] [] (.val (.b ((mP s).2.2==0))) []:=by
 have hw:=ZN s hz hc;refine cZ Tryz.func15 rfl ?_;conv=>whnf
 refine cP hw ?_;conv=>whnf
 exact d6 0
def i8 (f:Term->By) (L:List Term) (i:Nat):List By:=(L.take i).foldl (fun l x=>a3b l (f x)) []
def BM (l:List Itm):Bool:=(l.take 20).all (fun i=>decide (i.name.length<=100))&&decide (l.length<=20)
theorem a01 [MaxL] (l:List Itm):SC Tryz.prog 48 [.sl .none (fU l)] [] (.val (.b (BM l))) []:=by
 have hlen:=mH l;unfold BM;refine cZ Tryz.func48 rfl ?_;conv=>whnf
 refine dG (fun i:Nat=>i<=l.length/\i<=20/\∀z∈l.take i,z.name.length<=100) (fun i=>[(0,.sl .none (fU l)),(3,.i .i64 (i:Nat))]) (fun _=>⟨[],0,[]⟩) (fun i=>l.length - i) 0 ⟨zL _,zL _,(fun z h=>by simp at h)⟩ ⟨rfl,rfl,trivial⟩ rfl (fun i φ0 hi=>?_);obtain⟨hi,hi2,hok⟩:=hi;have d6:(i=l.length∨i=20)->(l.take 20).all (fun i=>decide (i.name.length<=100))=true:=fun hh=>by
  rw[aS];intro x hx;refine bS (hok x ?_);rcases hh with rfl|rfl
  ·rw[b7];exact List.mem_of_mem_take hx
  ·exact hx
 have hle:decide (((fU l).length:Int)<=20)=decide (l.length<=20):=by rw[hlen,decide_eq_decide];omega
 conv=>whnf
 refine aF (fun h=>?_) (fun h=>?_)<;>conv=>whnf
 rotate_left
 ·have hie:i=l.length:=by have:=aB h;rw[hlen] at this;omega
  refine d7 ?_;rw[d6 (.inl hie),Bool.true_and];exact hle
 have hlt:i<l.length:=by have:=aA h;rw[hlen] at this;omega
 refine aF (fun h2=>?_) (fun h2=>?_)<;>conv=>whnf
 rotate_left
 ·have hie:i=20:=by have:=aB h2;omega
  refine d7 ?_;rw[d6 (.inr hie),Bool.true_and];exact hle
 have hlt2:i<20:=by have:=aA h2;omega
 obtain⟨y,hy⟩:∃y,l[i]?=some y:=⟨l[i],gL hlt⟩;refine⟨cN _,_,by rw[aC];exact nJ hy,rfl,?_⟩;conv=>whnf
 refine aF (fun h3=>?_) (fun h3=>?_)<;>conv=>whnf
 ·have h3':¬y.name.length<=100:=by have:=aA h3;omega
  refine d7 ?_;have:(l.take 20).all (fun i=>decide (i.name.length<=100))=false:=List.all_eq_false.2 ⟨y,aK (i:=i) (by rw[dJ,aG hlt2];exact hy),by simpa using h3'⟩;rw[this];rfl
 ·have h3':y.name.length<=100:=by have:=aB h3;omega
  refine⟨l.length - (i+1),(by show _<l.length - i;omega),i+1,⟨hlt,hlt2,fun z hz=>?_⟩,rfl,⟨rfl,b8 (by omega),trivial⟩,rfl⟩;rw[bR,hy] at hz;rcases List.mem_append.1 hz with hz|hz
  ·exact hok z hz
  ·rw[List.mem_singleton.1 (show z∈[y] from hz)];exact h3'
