/- Part of ViewWrong. -/
import Derived.Test.YtimgfjldcdhejaaGreatDoorK34
set_option linter.all false
set_option maxRecDepth 100000
namespace Go.Proofs.YtimgfjldcdhejaaGreatDoor
open Go.RowKit
theorem a8V (s:Sch) (v:Vw) (i:Nat) (n:By):(bW s++(vN v).take i).contains n=(s.ar.any (fun x=>x.name==n)||(v.recs.take i).any (fun x=>x.name==n)):=by
 rw[B5];unfold bW vN;rw[<-eS,cE,cE]
theorem a7h (s:Sch) (v:Vw) (i:Nat) (n:By):(bW s++(vN v++(TD v).take i)).contains n=(s.ar.any (fun x=>x.name==n)||(v.recs.any (fun x=>x.name==n)||(v.sets.take i).any (fun x=>x.1==n))):=by
 rw[B5,B5];unfold bW vN TD;rw[<-eS,cE,cE,cE]
theorem a4O (l:List (By×By)) (j:Nat) (n:By):((l.map (·.1)).take j).contains n=(l.take j).any fun p=>p.1==n:=by rw[<-eS,cE]
theorem a3e (l:List (By×By)) (j:Nat) (n:By):((l.map (·.2)).take j).contains n=(l.take j).any fun p=>p.2==n:=by rw[<-eS,cE]
theorem a36 {α:Type} {p:α->Bool} {l:List α} {n j:Nat} {z:α} (hz:l[n]?=some z) (hn:n<j) (hp:p z=true):(l.take j).any p=true:=
 List.any_eq_true.2 ⟨z,List.mem_take_iff_getElem.2 ⟨n,by have:=(List.getElem?_eq_some_iff.1 hz).1;omega,(List.getElem?_eq_some_iff.1 hz).2⟩,hp⟩
theorem YF {α:Type} {p:α->Bool} {l:List α} (h:∀z∈l,p z=false):l.any p=false:=List.any_eq_false.2 fun z hz=>by rw[h z hz];simp
set_option synthInstance.maxSize 2000 in
set_option maxHeartbeats 8000000 in
theorem a1g [MaxL] (s:Sch) (hz:kO s) (v:Vw) (hv1:v.recs.length<b9) (i:Nat) (y:VwR) (hy:v.recs[i]?=some y) (y1:y.items.length<b9) (y2:y.only.length<1000000):
  SC Tryz.prog 40 [lT s,k7 v,.i .i64 (i:Nat)] [] (.val (.i .i64 (rG s v i y))) []:=by
 obtain⟨⟨ha,hl,ht⟩,hr,hst⟩:=hz;generalize hX:rG s v i y=xe;unfold rG gJ at hX;rw[a8V,<-l8,<-yR (p:=fun r:VwR=>r.name==y.name) hy nA,show((vO v).take i).contains y.of=(v.recs.take i).any fun r=>r.of==y.of by unfold vO;rw[<-eS,cE],<-yR (p:=fun r:VwR=>r.of==y.of) hy nA] at hX;have hil:(nK y.items).length=y.items.length:=pK _;unfold b9 at y1;refine bQ zC mixed Tryz.func40 rfl (bL rfl) (by first|exact rL _|simp) rfl ?_;conv=>whnf
 refine ix (aY hy) ⟨rfl,?_⟩;conv=>whnf
 refine st ?_;conv=>whnf
 refine cP (tY y.name) ?_;conv=>whnf
 apply gM<;>intro h<;>conv=>whnf
 ·exact bB ((aU (by rw[h];rfl)).symm.trans hX)
 rw[h] at hX;apply gM<;>intro h<;>conv=>whnf
 ·exact bB ((aU h).symm.trans hX)
 replace hX:=(aZ h).symm.trans hX;refine cP (wS s ha y.name) ?_;conv=>whnf
 apply gM<;>intro h<;>conv=>whnf
 ·exact bB ((aU (by rw[show decide (0<=jJ (fun x:Ar=>x.name==y.name) s.ar)=true from h];rfl)).symm.trans hX)
 rw[show decide (0<=jJ (fun x:Ar=>x.name==y.name) s.ar)=false from h] at hX;refine cP (O5 v hv1 y.name) ?_;conv=>whnf
 apply gM<;>intro h<;>conv=>whnf
 ·exact bB ((aU h).symm.trans hX)
 replace hX:=(aZ h).symm.trans hX;have hR:=lC s hl y.of;have hil9:(bS s y.of).its.length<b9:=by
  rcases nL s y.of with⟨j,_,hj,_⟩|⟨_,hj,_⟩
  ·exact(hr _ (aE hj)).1
  ·rw[hj];decide
 have hcase:=nL s y.of;generalize jJ (fun r:Rc=>r.name==y.of) s.rc=ji at hR hcase;refine cP hR ?_;conv=>whnf
 rcases hcase with⟨k,rfl,hk,hc⟩|⟨h1,_,hc⟩;rotate_left
 ·refine gY (bC h1) ?_;conv=>whnf
  exact bB ((aU (by rw[hc];rfl)).symm.trans hX)
 replace hX:=(aZ (by rw[hc];rfl)).symm.trans hX;conv=>whnf
 refine cP (qN v hv1 y.of) ?_;conv=>whnf
 apply gM<;>intro h<;>conv=>whnf
 ·exact bB ((aU h).symm.trans hX)
 replace hX:=(aZ h).symm.trans hX;have hC:y.items.isEmpty=decide (((nK y.items).length:Int)=0):=by
  rw[hil];cases y.items with
  |nil=>rfl
  |cons a l=>exact(bN (by rw[aI];omega)).symm
 rw[hC] at hX;apply gM<;>intro h<;>conv=>whnf
 ·exact bB ((aU h).symm.trans hX)
 replace hX:=(aZ h).symm.trans hX;have badI:∀{e:Int},kE (EB (bS s y.of) y) y.items=e->e≠0->e=xe:=fun he h0=>by rw[he,p9 h0] at hX;exact hX
 refine bE 3 y.items.length (fun j _=>∀a p,a<j->y.items[a]?=some p->EB (bS s y.of) y a p=0) (fun j _=>[(3,.ptr 0 0),(7,.ptr 2 0),(8,.i .i64 (k:Nat)),(9,.i .i64 (j:Nat))]) (fun _ (_:Unit)=>[.box 26 (jX s),.box 30 (j9 v),.box 74 (rM y)]) [] () (fun a p h=>absurd h (bP a)) (fun j _ φ0 hj hok=>?_);conv=>whnf
 apply gM<;>intro h<;>conv=>whnf
 ·have hlt:j<y.items.length:=by have:=aB h;omega
  refine(d7 hlt).elim fun p hp=>?_;have badJ:∀{e:Int},EB (bS s y.of) y j p=e->e≠0->e=xe:=fun he h0=>badI ((mE hp (by rw[he];exact h0) hok).trans he) h0;have hJ:EB (bS s y.of) y j p=cX (!dU p.1) 1 (cX ((y.items.take j).any fun x=>x.1==p.1) 6 (cX (decide (jJ (fun x:Itm=>x.name==p.2) (bS s y.of).its<0)) 5 (cX ((y.items.take j).any fun x=>x.2==p.2) 6 0))):=by
   rw[nT,<-a4O,<-a3e];rfl
  refine ix (aY hp) ⟨rfl,?_⟩;conv=>whnf
  refine st ?_;conv=>whnf
  refine cP (tY p.1) ?_;conv=>whnf
  apply gM<;>intro h5<;>conv=>whnf
  ·exact bB (badJ (hJ.trans (aU h5)) (by decide))
  replace hJ:=hJ.trans (aZ h5);refine bE 4 j (fun a _=>∀z∈y.items.take a,(z.1==p.1)=false) (fun a _=>[(3,.ptr 0 0),(7,.ptr 2 0),(8,.i .i64 (k:Nat)),(9,.i .i64 (j:Nat)),(10,.ptr 3 0),(11,.i .i64 (a:Nat))]) (fun _ (_:Unit)=>[.box 26 (jX s),.box 30 (j9 v),.box 74 (rM y),.box 76 [.s p.1,.s p.2]]) [] () (by simp) (fun a _ φ1 ha9 hn1=>?_);conv=>whnf
  apply gM<;>intro h6<;>conv=>whnf
  ·have hlt2:a<j:=by have:=aB h6;omega
   refine(d7 (l:=y.items) (by omega:a<y.items.length)).elim fun z hz=>?_;refine lQ ?_;(conv=>whnf);refine ix (aY hz) ⟨rfl,?_⟩;(conv=>whnf);apply gM<;>intro h7<;>conv=>whnf
   ·exact bB (badJ (hJ.trans (aU (a36 hz hlt2 h7))) (by decide))
   ·exact nx () hlt2 ⟨hlt2,pV (p:=fun q:By×By=>q.1==p.1) hz h7 hn1⟩
  have haj:a=j:=by have:=aA h6;omega
  subst haj;replace hJ:=hJ.trans (aZ (YF hn1));refine lQ ?_;conv=>whnf
  refine ix (aY hk) ⟨rfl,?_⟩;conv=>whnf
  refine cP (rP (bS s y.of).its hil9 p.2) ?_;conv=>whnf
  apply gM<;>intro h7<;>conv=>whnf
  ·exact bB (badJ (hJ.trans (aU h7)) (by decide))
  replace hJ:=hJ.trans (aZ h7);refine bE 4 a (fun b _=>∀z∈y.items.take b,(z.2==p.2)=false) (fun b _=>[(3,.ptr 0 0),(7,.ptr 2 0),(8,.i .i64 (k:Nat)),(9,.i .i64 (a:Nat)),(10,.ptr 3 0),(12,.i .i64 (b:Nat))]) (fun _ (_:Unit)=>[.box 26 (jX s),.box 30 (j9 v),.box 74 (rM y),.box 76 [.s p.1,.s p.2]]) [] () (by simp) (fun b _ φ1 ha9 hn2=>?_);conv=>whnf
  apply gM<;>intro h6<;>conv=>whnf
  ·have hlt2:b<a:=by have:=aB h6;omega
   refine(d7 (l:=y.items) (by omega:b<y.items.length)).elim fun z hz=>?_;refine lQ ?_;(conv=>whnf);refine ix (aY hz) ⟨rfl,?_⟩;(conv=>whnf);apply gM<;>intro h7<;>conv=>whnf
   ·exact bB (badJ (hJ.trans (aU (a36 hz hlt2 h7))) (by decide))
   ·exact nx () hlt2 ⟨hlt2,pV (p:=fun q:By×By=>q.2==p.2) hz h7 hn2⟩
  have hba:b=a:=by have:=aA h6;omega
  subst hba;exact nx () hlt ⟨hlt,iE hp (hJ.trans (aZ (YF hn2))) hok⟩
 have hI0:kE (EB (bS s y.of) y) y.items=0:=mD fun a z hz=>hok a z (by have:=aA h;rw[hil] at this;have:=(List.getElem?_eq_some_iff.1 hz).1;omega) hz;replace hX:=(p8 hI0).symm.trans hX;unfold a5P at hX;apply gM<;>intro h5<;>conv=>whnf
 ·exact bB ((aD (by simpa using h5)).symm.trans hX)
 rw[aC (by simpa using h5)] at hX;refine cP (G2 y.only y2) ?_;conv=>whnf
 apply gM<;>intro h6<;>conv=>whnf
 ·exact bB ((aU h6).symm.trans hX)
 replace hX:=(aZ h6).symm.trans hX;refine lQ ?_;conv=>whnf
 refine ix (aY hk) ⟨rfl,?_⟩;conv=>whnf
 refine cP (X0 (bS s y.of).its [] hil9 (by decide) y.only y2) ?_ (wC (bF _) (wC (bF _) (wC (bY _ _) (wR _))));conv=>whnf
 exact bB (by rw[Y4];exact hX)
def BM (v:Vw) (k:By):List Mb->By->By
 |[],nm=>nm
 |m::l,nm=>match kJ v m.of with
  |none=>BM v k l nm
  |some r=>if((cW r k).getD []==[]||(nm !=[]&&(cW r k).getD [] !=nm)) then[] else BM v k l ((cW r k).getD [])
theorem a4Y {v:Vw} {k nm:By} {l:List Mb} {j:Nat} (h:l.length<=j):BM v k (l.drop j) nm=nm:=by rw[eP h];rfl
theorem a6a {v:Vw} {k nm:By} {l:List Mb} {j:Nat} {m:Mb} (h:l[j]?=some m) (hs:kJ v m.of=none):BM v k (l.drop j) nm=BM v k (l.drop (j+1)) nm:=by
 obtain⟨hj,e⟩:=List.getElem?_eq_some_iff.1 h;rw[b8 hj,e,BM,hs]
theorem a6b {v:Vw} {k nm:By} {l:List Mb} {j:Nat} {m:Mb} {r:VwR} (h:l[j]?=some m) (hs:kJ v m.of=some r):
  BM v k (l.drop j) nm=if((cW r k).getD []==[]||(nm !=[]&&(cW r k).getD [] !=nm)) then[] else BM v k (l.drop (j+1)) ((cW r k).getD []):=by
 obtain⟨hj,e⟩:=List.getElem?_eq_some_iff.1 h;rw[b8 hj,e,BM,hs]
theorem YT (v:Vw) (k:By) (m:Mb) (l:List Mb) (f:Option By):rH v k (m::l) f=match NP v m.of k with
  |none=>false
  |some n=>(match f with|none=>true|some x=>n==x)&&rH v k l (some n):=rfl
theorem PL {v:Vw} {k:By} (hne:∀n x,cW (sX v n) k=some x->x≠[]):∀(l:List Mb) (f:Option By),(∀x,f=some x->x≠[])->(f≠none∨(l.filter fun m=>(kJ v m.of).isSome)≠[])->
  (BM v k l (f.getD [])==[])=!rH v k (l.filter fun m=>(kJ v m.of).isSome) f
 |[],f,hf,h=>by
  cases f with
  |none=>exact absurd rfl (h.elim (fun h=>h) (fun h=>absurd rfl h))
  |some x=>have:=hf x rfl;cases x with
   |nil=>exact absurd rfl this
   |cons a l=>rfl
 |m::l,f,hf,h=>by
  rw[BM];cases hr:kJ v m.of with
  |none=>
   rw[List.filter_cons,hr] at h⊢;exact PL hne l f hf h
  |some r=>
   have hrc:sX v m.of=r:=by unfold sX;rw[hr];rfl
   rw[List.filter_cons_of_pos (by rw[hr];rfl),YT];have hv:NP v m.of k=cW r k:=by rw[TZ k (by rw[hr];rfl),hrc]
   rw[hv];have hn:=hne m.of;rw[hrc] at hn;cases hs:cW r k with
   |none=>simp only[hs];rfl
   |some x=>
    have hx:=hn x hs;simp only[hs];have h2:=PL hne l (some x) (fun y hy=>by cases hy;exact hx) (.inl (by simp));have hx0:(x==[])=false:=by simpa using hx
    show((if(x==[]||(f.getD [] !=[]&&x !=f.getD [])) then[] else BM v k l x)==[])=_;rw[hx0,jW];cases f with
    |none=>exact h2
    |some y=>
     have hy:=hf y rfl;have hy0:(y !=[])=true:=by simpa using hy
     show((if(y !=[]&&x !=y) then[] else BM v k l x)==[])=!((x==y)&&rH v k (l.filter fun m=>(kJ v m.of).isSome) (some x));rw[hy0,Bool.true_and];cases hxy:(x==y) with
     |true=>rw[show(x !=y)=false by unfold bne;rw[hxy];rfl];exact h2
     |false=>rw[show(x !=y)=true by unfold bne;rw[hxy];rfl];rfl
theorem a1i [MaxL] (v:Vw) (hv:wD v) (t:Sy) (ht:t.ms.length<b9) (k:By):SC Tryz.prog 96 [k7 v,WD t,.s k] [] (.val (.s (BM v k t.ms []))) []:=by
 have hlen:(jB t.ms).length=t.ms.length:=cL _ _;unfold b9 at ht;generalize hX:BM v k t.ms []=X;refine bQ zC mixed Tryz.func96 rfl (bL rfl) (by first|exact rL _|simp) rfl ?_;conv=>whnf
 refine bE 2 t.ms.length (fun j nm=>BM v k (t.ms.drop j) nm=X) (fun j nm=>[(2,.s k),(3,.ptr 0 0),(4,.ptr 1 0),(7,.s nm),(8,.i .i64 (j:Nat))]) (fun _ _=>[.box 30 (j9 v),.box 67 (E8 t)]) [] [] hX (fun j nm φ0 hj hI=>?_);conv=>whnf
 apply gM<;>intro h<;>conv=>whnf
 rotate_left
 ·rw[a4Y (by have:=aA h;omega)] at hI;rw[hI];exact cQ 0
 have hlt:j<t.ms.length:=by have:=aB h;omega
 refine(d7 hlt).elim fun m hm=>?_;have hR:=qN v hv.1 m.of;have hcase:=qH v m.of;generalize jJ (fun r:VwR=>r.of==m.of) v.recs=ji at hR hcase;refine lQ ?_;conv=>whnf
 refine ix (aY hm) ⟨rfl,?_⟩;conv=>whnf
 refine cP hR ?_;conv=>whnf
 rcases hcase with⟨a,rfl,ha,_,hs⟩|⟨h1,_,_,hs⟩;rotate_left
 ·refine gY (bC h1) ?_;conv=>whnf
  exact nx nm hlt ⟨hlt,(a6a hm hs).symm.trans hI⟩
 conv=>whnf
 refine ix (aY ha) ⟨rfl,?_⟩;conv=>whnf
 refine cP (a1Y (sX v m.of) (hv.2.2 _ (aE ha)).1 k) ?_;conv=>whnf
 rw[a6b hm hs] at hI;apply gM<;>intro h5<;>conv=>whnf
 ·rw[show((cW (sX v m.of) k).getD []==[])=true from h5,Bool.true_or,aD rfl] at hI;rw[<-hI];exact cQ 0
 rw[show((cW (sX v m.of) k).getD []==[])=false from h5,jW] at hI;apply gM<;>intro h6<;>conv=>whnf
 ·rw[show(nm !=[])=true from h6,Bool.true_and] at hI;apply gM<;>intro h7<;>conv=>whnf
  ·rw[show((cW (sX v m.of) k).getD [] !=nm)=true from h7,aD rfl] at hI;rw[<-hI];exact cQ 0
  ·rw[show((cW (sX v m.of) k).getD [] !=nm)=false from h7,aC (by simp)] at hI;exact nx ((cW (sX v m.of) k).getD []) hlt ⟨hlt,hI⟩
 ·rw[show(nm !=[])=false from h6,Bool.false_and,aC (by simp)] at hI;exact nx ((cW (sX v m.of) k).getD []) hlt ⟨hlt,hI⟩
theorem a0Y {s:Sch} (h:(kY s).2.2=0) {t:Sy} (ht:t∈s.st) {m:Mb} (hm:m∈t.ms) (hs:m.sel≠[]):t.owner≠[]/\(fV s).contains t.owner=true:=by
 obtain⟨j,hj⟩:=List.mem_iff_getElem?.1 ht;have h:=o5 (xV (s:=s) h).2.2.2.2.2 j t hj;unfold TX gJ at h;obtain⟨_,h⟩:=bM h (by decide);obtain⟨_,h⟩:=bM h (by decide);obtain⟨h0,h⟩:=bM h (by decide);obtain⟨_,h⟩:=bM h (by decide);obtain⟨h2,h⟩:=zR h;obtain⟨k,hk⟩:=List.mem_iff_getElem?.1 hm;have h3:=yL h2 k m hk;unfold uC at h3;obtain⟨_,h3⟩:=bM h3 (by decide);obtain⟨_,h3⟩:=bM h3 (by decide);obtain⟨_,h3⟩:=bM h3 (by decide);unfold TY at h3;rw[aC hs] at h3;obtain⟨h4,_⟩:=bM h3 (by decide);have ho:t.owner≠[]:=by simpa using h4
 refine⟨ho,?_⟩;cases hc:(fV s).contains t.owner with
 |true=>rfl
 |false=>rw[hc] at h0;simp at h0;exact absurd h0 ho
theorem a6c {p:Mb->Bool} {l:List Mb} {j:Nat} {m:Mb} (h:l[j]?=some m):((l.take (j+1)).filter p).length=((l.take j).filter p).length+(if p m then 1 else 0):=by
 rw[aT,h,List.filter_append,aG];cases hp:p m<;>simp[hp]
theorem a35 {r:VwR} {n:By} (h:((cW r n).getD []==[])=false):(cW r n).isSome=true:=by
 cases hs:cW r n with
 |none=>rw[hs] at h;cases h
 |some x=>rfl
theorem W0 {r:VwR} {n:By} (hne:∀x,cW r n=some x->x≠[]) (h:((cW r n).getD []==[])=true):(cW r n).isSome=false:=by
 cases hs:cW r n with
 |none=>rfl
 |some x=>rw[hs] at h;exact absurd (by simpa using h) (hne x hs)
theorem WK {r:VwR} {l:List By} {n:By} (hn:n∈l) (h:(cW r n).isSome=false):GY r l=false:=List.all_eq_false.2 ⟨n,hn,by rw[h];simp⟩
theorem QB {r:VwR} {l:List By} (h:∀n∈l,(cW r n).isSome=true):GY r l=true:=List.all_eq_true.2 h
set_option synthInstance.maxSize 2000 in
set_option maxHeartbeats 8000000 in
theorem a7W [MaxL] (s : Sch) (hz : kO s) (hv9 : (kY s).2.2 = 0) (v : Vw) (hv : wD v) (hgv : ∀ r ∈ v.recs, GoodV s r) (i : Nat) (y : By × By) (hy : v.sets[i]? = some y) :
    SC Tryz.prog 41 [lT s, k7 v, .i .i64 (i : Nat)] [] (.val (.i .i64 (uV s v i y))) [] := by
  obtain ⟨⟨ha, hl, ht⟩, hr, hst⟩ := hz;have hv' := hv;obtain ⟨v1, v2, v3⟩ := hv;generalize hX : uV s v i y = xe;unfold uV gJ at hX;rw [a7h, ← l8, ← l8 (fun x : VwR => x.name == y.1), ← yR (p := fun x : By × By => x.1 == y.1) hy nA, show ((vSO v).take i).contains y.2 = (v.sets.take i).any fun x => x.2 == y.2 by unfold vSO; rw [← eS, cE], ← yR (p := fun x : By × By => x.2 == y.2) hy nA] at hX;refine bQ zC mixed Tryz.func41 rfl (bL rfl) (by first | exact rL _ | simp) rfl ?_;conv => whnf
  refine ix (aY hy) ⟨rfl, ?_⟩;conv => whnf
  refine st ?_;conv => whnf
  refine cP (tY y.1) ?_;conv => whnf
  apply gM<;>intro h<;>conv=>whnf
  · exact bB ((aU (by rw [h]; rfl)).symm.trans hX)
  rw [h] at hX;apply gM<;>intro h<;>conv=>whnf
  · exact bB ((aU h).symm.trans hX)
  replace hX := (aZ h).symm.trans hX;refine cP (wS s ha y.1) ?_;conv => whnf
  apply gM<;>intro h<;>conv=>whnf
  · exact bB ((aU (by rw [show decide (0 ≤ jJ (fun x : Ar => x.name == y.1) s.ar) = true from h]; rfl)).symm.trans hX)
  rw [show decide (0 ≤ jJ (fun x : Ar => x.name == y.1) s.ar) = false from h, jW] at hX;refine cP (O5 v v1 y.1) ?_;conv => whnf
  apply gM<;>intro h<;>conv=>whnf
  · exact bB ((aU (by rw [show decide (0 ≤ jJ (fun x : VwR => x.name == y.1) v.recs) = true from h]; rfl)).symm.trans hX)
  rw [show decide (0 ≤ jJ (fun x : VwR => x.name == y.1) v.recs) = false from h, jW] at hX;refine cP (J5 v v2 y.1) ?_;conv => whnf
  apply gM<;>intro h<;>conv=>whnf
  · exact bB ((aU h).symm.trans hX)
  replace hX := (aZ h).symm.trans hX;have hS := O3 s ht y.2;have hcase := IS s y.2;generalize jJ (fun t : Sy => t.name == y.2) s.st = ji at hS hcase;refine cP hS ?_;conv => whnf
  rcases hcase with ⟨k, rfl, hk, hc⟩ | ⟨h1, _, hc⟩;rotate_left
  · refine gY (bC h1) ?_
    conv => whnf
    exact bB ((aU (by rw [hc]; rfl)).symm.trans hX)
  replace hX := (aZ (by rw [hc]; rfl)).symm.trans hX;conv => whnf
  refine cP (O2 v v2 y.2) ?_;conv => whnf
  apply gM<;>intro h<;>conv=>whnf
  · exact bB ((aU h).symm.trans hX)
  replace hX := (aZ h).symm.trans hX;generalize sK s y.2 = t at hX hk;have htin := aE hk;obtain ⟨t1, t2, t3⟩ := hst t htin;unfold b9 at t1 t2;have hlm : (jB t.ms).length = t.ms.length := cL _ _;have hlk : (vX t.keys).length = t.keys.length := cL _ _;refine ix (aY hk) ⟨rfl, ?_⟩;conv => whnf
  refine st ?_;conv => whnf
  have hO := qN v v1 t.owner;have hown : (jJ (fun r : VwR => r.of == t.owner) v.recs < 0 ∧ (kJ v t.owner).isNone = true) ∨ (0 ≤ jJ (fun r : VwR => r.of == t.owner) v.recs ∧ (fP v.recs)[(jJ (fun r : VwR => r.of == t.owner) v.recs).toNat]? = some (uQ (sX v t.owner)) ∧ (kJ v t.owner).isNone = false) := by
    rcases qH v t.owner with ⟨b, hb1, hb2, hb3, hb4⟩ | ⟨hb1, _, hb3, hb4⟩
    · exact .inr ⟨by rw [hb1]; omega, by rw [hb1, aL]; exact aY hb2, by rw [hb4]; rfl⟩
    · exact .inl ⟨hb1, by rw [hb4]; rfl⟩
  generalize jJ (fun r : VwR => r.of == t.owner) v.recs = jo at hO hown;refine cP hO ?_;conv => whnf
  apply gM<;>intro ho<;>conv=>whnf
  focus
    apply gM<;>intro h<;>conv=>whnf
    · exact bB ((aU (by rw [show (t.owner != []) = true from ho, (hown.resolve_right fun h9 => absurd h9.1 (by have := aB h; omega)).2]; rfl)).symm.trans hX)
    have hcom : (kJ v t.owner).isNone = false ∨ t.owner = [] := .inl (hown.resolve_left fun h9 => absurd h9.1 (by have := aA h; omega)).2.2;replace hX := (aZ (by rw [(hown.resolve_left fun h9 => absurd h9.1 (by have := aA h; omega)).2.2]; exact iL _)).symm.trans hX
  rotate_left;focus
    have hcom : (kJ v t.owner).isNone = false ∨ t.owner = [] := .inr (by simpa using ho);replace hX := (aZ (by rw [show (t.owner != []) = false from ho]; rfl)).symm.trans hX
  all_goals
    refine bE 4 t.ms.length (fun j c => c = ((t.ms.take j).filter (jD v)).length) (fun j c => [(3, .ptr 0 0), (4, .ptr 1 0), (9, .ptr 3 0), (10, .i .i64 jo), (11, .i .i64 (c : Nat)), (12, .i .i64 (j : Nat))]) (fun _ _ => [.box 26 (jX s), .box 30 (j9 v), .box 77 [.s y.1, .s y.2], .box 67 (E8 t)]) [] 0 rfl (fun j c φ0 hj hI => ?_);conv => whnf
    apply gM<;>intro h<;>conv=>whnf
    · have hlt : j < t.ms.length := by have:=aB h;omega
      have hcj : c ≤ j := by rw [hI]; exact dG (eW _ _) (by rw [aS]; omega)
      refine (d7 hlt).elim fun m hm => ?_;have hR := qN v v1 m.of;have hcase := qH v m.of;generalize jJ (fun r : VwR => r.of == m.of) v.recs = ji at hR hcase;have hcn := a6c (p := jD v) hm;unfold jD at hcn;refine lQ ?_;conv => whnf
      refine ix (aY hm) ⟨rfl, ?_⟩;conv => whnf
      refine cP hR ?_;conv => whnf
      rcases hcase with ⟨a, rfl, _, hs, _⟩ | ⟨h1, _, hs, _⟩
      · conv => whnf
        exact nx (c + 1) hlt ⟨hlt, by rw [hs, aD rfl] at hcn; rw [hI]; exact hcn.symm⟩
      · refine gN (bN (by show ¬ (0 ≤ ji); omega)) ?_
        conv => whnf
        exact nx c hlt ⟨hlt, by rw [hs, aC (by simp)] at hcn; rw [hI]; exact hcn.symm⟩
    have hcM : c = (CV v t).length := by rw [hI, aW (by have:=aA h;omega)]; rfl
    clear hI;apply gM<;>intro h<;>conv=>whnf
    · exact bB ((aU (by have h5 : (c : Int) = 0 := by simpa using h
                        cases hq : CV v t with
                        | nil => rfl
                        | cons a l => rw [hq, aI] at hcM; omega)).symm.trans hX)
    have hMne : CV v t ≠ [] := fun e => by
      rw [e] at hcM;have h5 : ¬ (c : Int) = 0 := by simpa using h
      exact h5 (by rw [hcM]; rfl)
    replace hX := (aZ (by cases hq : CV v t with | nil => exact absurd hq hMne | cons a l => rfl)).symm.trans hX;have bad : vJ s v t = false → (10 : Int) = xe := fun h => (aU (by rw [h]; rfl)).symm.trans hX;refine bE 4 t.keys.length (fun a _ => ∀ b k, b < a → t.keys[b]? = some k → rH v k.item (CV v t) none = true) (fun a _ => [(3, .ptr 0 0), (4, .ptr 1 0), (9, .ptr 3 0), (10, .i .i64 jo), (13, .i .i64 (a : Nat))]) (fun _ (_ : Unit) => [.box 26 (jX s), .box 30 (j9 v), .box 77 [.s y.1, .s y.2], .box 67 (E8 t)]) [] () (fun b k h => absurd h (bP b)) (fun a _ φ1 hal hok => ?_);conv => whnf
    apply gM<;>intro h<;>conv=>whnf
    · have hlt : a < t.keys.length := by have:=aB h;omega
      refine (d7 hlt).elim fun k hk2 => ?_;have hkey := PL (v := v) (k := k.item) (fun n => (fun x hx => (BZ hv' hgv n).2.2 x k.item hx)) t.ms none (fun x hx => nomatch hx) (.inr hMne);refine lQ ?_;conv => whnf
      refine ix (aY hk2) ⟨rfl, ?_⟩;conv => whnf
      refine cP (a1i v hv' t (by unfold b9; omega) k.item) ?_;conv => whnf
      apply gM<;>intro h5<;>conv=>whnf
      · exact bB (bad (C1 (aE hk2) (by have := hkey.symm.trans h5; exact LI this)))
      · exact nx () hlt ⟨hlt, AP (P := fun k : Ky => rH v k.item (CV v t) none = true) hk2 (a6J (hkey.symm.trans h5)) hok⟩
    have hkeys : ∀ k ∈ t.keys, rH v k.item (CV v t) none = true := fun k hk => by
      obtain ⟨b, hb⟩ := f9 hk;exact hok b k (by have := aA h; rw [hlk] at this; have := (List.getElem?_eq_some_iff.1 hb).1; omega) hb
    refine bE 4 t.ms.length (fun j _ => ∀ b m, b < j → t.ms[b]? = some m → jD v m = true → zH s v t m = true) (fun j _ => [(3, .ptr 0 0), (4, .ptr 1 0), (9, .ptr 3 0), (10, .i .i64 jo), (14, .i .i64 (j : Nat))]) (fun _ (_ : Unit) => [.box 26 (jX s), .box 30 (j9 v), .box 77 [.s y.1, .s y.2], .box 67 (E8 t)]) [] () (fun b k h => absurd h (bP b)) (fun j _ φ1 hjl hok2 => ?_);conv => whnf
    apply gM<;>intro h<;>conv=>whnf
    rotate_left
    · have hsels : ∀ m ∈ CV v t, zH s v t m = true := fun m hm9 => by
        obtain ⟨hm1, hm2⟩ := List.mem_filter.1 hm9;obtain ⟨b, hb⟩ := f9 hm1;exact hok2 b m (by have := aA h; rw [hlm] at this; have := (List.getElem?_eq_some_iff.1 hb).1; omega) hb hm2
      exact bB ((aZ (by rw [IC hkeys hsels]; rfl)).symm.trans hX)
    have hlt : j < t.ms.length := by have:=aB h;omega
    refine (d7 hlt).elim fun m hm => ?_;have hmin := aE hm;have hml := t3 m hmin;unfold b9 at hml;have hlsl : (bR m.sel).length = m.sel.length := cD _;have hR := qN v v1 m.of;have hcase := qH v m.of;generalize jJ (fun r : VwR => r.of == m.of) v.recs = ji at hR hcase;have hgo : (jD v m = true → zH s v t m = true) → ∀ b z, b < j + 1 → t.ms[b]? = some z → jD v z = true → zH s v t z = true := fun h => AP (P := fun z : Mb => jD v z = true → zH s v t z = true) hm h hok2;refine ix (aY hm) ⟨rfl, ?_⟩;conv => whnf
    refine st ?_;conv => whnf
    refine cP hR ?_;conv => whnf
    rcases hcase with ⟨a, rfl, ha2, hs, hs2⟩ | ⟨h1, _, hs, _⟩;rotate_left
    · refine gY (bC h1) ?_
      conv => whnf
      exact nx () hlt ⟨hlt, hgo fun h9 => by rw [show jD v m = (kJ v m.of).isSome from rfl, hs] at h9; cases h9⟩
    conv => whnf
    apply gM<;>intro h5<;>conv=>whnf
    · have h6 : m.sel = [] := by
        cases hq : m.sel with
        | nil => rfl
        | cons b l => rw [hq] at h5; have h9 : (((bR (b :: l)).length : Nat) : Int) = 0 := eq_of_beq h5; rw [cD, aI] at h9; omega
      exact nx () hlt ⟨hlt, hgo fun _ => by unfold zH; rw [h6]; rfl⟩
    have h6 : m.sel ≠ [] := fun e => by rw [e] at h5; cases h5
    have h7 : m.sel.isEmpty = false := by cases hq : m.sel with | nil => exact absurd hq h6 | cons b l => rfl
    obtain ⟨ho1, ho2⟩ := a0Y hv9 htin hmin h6;have hcom2 := hcom.resolve_right ho1;have hown2 := hown.resolve_left fun h9 => by rw [hcom2] at h9; cases h9.2
    have hos : (kJ v t.owner).isSome = true := by cases hq : kJ v t.owner with | none => rw [hq] at hcom2; cases hcom2 | some x => rfl
    have hsel : zH s v t m = (GY (sX v m.of) m.sel && GY (sX v t.owner) (bS s t.owner).keys) := by
      rw [W8 hs (.inl hos), h7, jW]
    have hmM : m ∈ CV v t := List.mem_filter.2 ⟨hmin, hs⟩;have hn1 := fun n => (BZ hv' hgv m.of).2.2 (k := n);refine bE 5 m.sel.length (fun q _ => ∀ z ∈ m.sel.take q, (cW (sX v m.of) z).isSome = true) (fun q _ => [(3, .ptr 0 0), (4, .ptr 1 0), (9, .ptr 3 0), (10, .i .i64 jo), (14, .i .i64 (j : Nat)), (15, .ptr 4 0), (16, .i .i64 (a : Nat)), (17, .i .i64 (q : Nat))]) (fun _ (_ : Unit) => [.box 26 (jX s), .box 30 (j9 v), .box 77 [.s y.1, .s y.2], .box 67 (E8 t), .box 69 (mbC m)]) [] () (by simp) (fun q _ φ2 hql hok3 => ?_);conv => whnf
    apply gM<;>intro h8<;>conv=>whnf
    · have hlt2 : q < m.sel.length := by have:=aB h8;omega
      refine (d7 hlt2).elim fun n hn => ?_;refine lQ ?_;conv => whnf
      refine ix (aY ha2) ⟨rfl, ?_⟩;conv => whnf
      refine ix (aY hn) ⟨rfl, ?_⟩;conv => whnf
      refine cP (a1Y (sX v m.of) (v3 _ (aE ha2)).1 n) ?_;conv => whnf
      apply gM<;>intro h9<;>conv=>whnf
      · exact bB (bad (xM hmM (hsel.trans (by rw [WK (aE hn) (W0 (fun x => hn1 n x) h9)]; rfl))))
      · exact nx () hlt2 ⟨hlt2, fun z hz => by
          rw [aT, hn] at hz;rcases List.mem_append.1 hz with hz | hz
          · exact hok3 z hz
          · rw [List.mem_singleton.1 (show z ∈ [n] from hz)]; exact a35 h9⟩
    have hA : GY (sX v m.of) m.sel = true := QB fun z hz => hok3 z (by rw [aW (by have:=aA h8;omega)]; exact hz);rw [hA, Bool.true_and] at hsel;have hRo := lC s hl t.owner;refine ((nL s t.owner).resolve_right fun h9 => by rw [ho2] at h9; cases h9.2.2).elim fun b hb => ?_;rw [hb.1] at hRo;have hkl := (hr _ (aE hb.2.1)).2.1;unfold b9 at hkl;have hlkk : (bR (bS s t.owner).keys).length = (bS s t.owner).keys.length := cD _;have hn2 := fun n => (BZ hv' hgv t.owner).2.2 (k := n);have hol := (BZ hv' hgv t.owner).1;refine lQ ?_;conv => whnf
    refine cP hRo ?_;conv => whnf
    refine ix (aY hb.2.1) ⟨rfl, ?_⟩;conv => whnf
    refine bE 5 (bS s t.owner).keys.length (fun q _ => ∀ z ∈ (bS s t.owner).keys.take q, (cW (sX v t.owner) z).isSome = true) (fun q _ => [(3, .ptr 0 0), (4, .ptr 1 0), (9, .ptr 3 0), (10, .i .i64 jo), (14, .i .i64 (j : Nat)), (18, .sl .none (bR (bS s t.owner).keys)), (19, .i .i64 (q : Nat))]) (fun _ (_ : Unit) => [.box 26 (jX s), .box 30 (j9 v), .box 77 [.s y.1, .s y.2], .box 67 (E8 t), .box 69 (mbC m)]) [] () (by simp) (fun q _ φ2 hql hok4 => ?_);conv => whnf
    apply gM<;>intro h8<;>conv=>whnf
    · have hlt2 : q < (bS s t.owner).keys.length := by have:=aB h8;omega
      refine (d7 hlt2).elim fun n hn => ?_;refine lQ ?_;conv => whnf
      refine ⟨hown2.1, uQ (sX v t.owner), hown2.2.1, rfl, ?_⟩;conv => whnf
      refine ix (aY hn) ⟨rfl, ?_⟩;conv => whnf
      refine cP (a1Y (sX v t.owner) hol n) ?_;conv => whnf
      apply gM<;>intro h9<;>conv=>whnf
      · exact bB (bad (xM hmM (hsel.trans (WK (aE hn) (W0 (fun x => hn2 n x) h9)))))
      · exact nx () hlt2 ⟨hlt2, fun z hz => by
          rw [aT, hn] at hz;rcases List.mem_append.1 hz with hz | hz
          · exact hok4 z hz
          · rw [List.mem_singleton.1 (show z ∈ [n] from hz)]; exact a35 h9⟩
    have hB : GY (sX v t.owner) (bS s t.owner).keys = true := QB fun z hz => hok4 z (by rw [aW (by have:=aA h8;omega)]; exact hz);exact nx () hlt ⟨hlt, hgo fun _ => hsel.trans hB⟩
def Q2 (f g:List By) (x:By) (v:Val) (t:Term):Term:=yQ x v (lV f g t)
theorem WT (f g:List By) {t:Term} (h:t.var=true->t.name≠[]):(lV f g t).var=true->(lV f g t).name≠[]:=by
 unfold lV;split
 ·split
  ·intro q;cases q
  ·exact h
 ·exact h
def wsC (f g:List By) (x:By) (v:Val):List GV:=[.sl .none (bR f),.sl .none (bR g),.s x,v.gv]
theorem a0R [MaxL] (f g:List By) (x:By) (v:Val):ClL (wsC f g x v):=cC (bK (eJ f)) (cC (bK (eJ g)) (fun _=>rfl))
def mps (F:Term->Term) (L:List Tree) (i:Nat):List Tree:=(L.take i).map (Tree.mp F)
theorem a1t {F:Term->Term} {L:List Tree} {i:Nat} {y:Tree} (h:L[i]?=some y):mps F L (i+1)=mps F L i++[y.mp F]:=by
 unfold mps;rw[aT,h,b5];rfl
theorem a47 (F:Term->Term) (L:List Tree) (i:Nat):(mps F L i).length<=L.length:=by
 unfold mps;rw[b6,aS];omega
theorem M8 [MaxL] (f g:List By) (hf:f.length<1000000) (hg:f.length<=g.length) (x:By) (v:Val) (k:Nat) (L:List Tree) (A B:Term) (op:By) (yes:Bool) (hL:L.length<=100000) (hA:A.var=true->A.name≠[]) (hB:B.var=true->B.name≠[])
  (hc:∀y∈L,SC Tryz.prog 214 (y.ng::wsC f g x v) [] (.val (y.mp (Q2 f g x v)).ng) []):
  SC Tryz.prog 214 (.agg (kH k (j3 L) A B op yes)::wsC f g x v) [] (.val (.agg (kH k (j3 (L.map (Tree.mp (Q2 f g x v)))) (Q2 f g x v A) (Q2 f g x v B) op yes))) []:=by
 have hnl:(j3 L).length=L.length:=dT L;have a1:=M6 f g hf hg A;have a2:=WX x v (lV f g A) (WT f g hA);have b1:=M6 f g hf hg B;have b2:=WX x v (lV f g B) (WT f g hB);have hw:=a0R f g x v;unfold wsC at hc hw⊢;change SC _ _ _ [] (.val (.agg (kH k (j3 (L.map (Tree.mp (Q2 f g x v)))) (yQ x v (lV f g A)) (yQ x v (lV f g B)) op yes))) [];generalize yQ x v (lV f g A)=A2 at*;generalize lV f g A=A1 at*;generalize yQ x v (lV f g B)=B2 at*;generalize lV f g B=B1 at*;generalize hF:Q2 f g x v=F at*;refine cO Tryz.func214 rfl ?_;conv=>whnf
 refine lQ ?_;conv=>whnf
 refine bT a1 (wR _) rfl (cC (eQ (oV A)) (cC (bK (eJ f)) (cC (bK (eJ g)) .nil))) (eQ (oV A1)) ?_;conv=>whnf
 refine bT a2 (wR _) rfl (cC (eQ (oV A1)) (fun _=>rfl)) (eQ (oV A2)) ?_;conv=>whnf
 refine sT ?_;conv=>whnf
 refine lQ ?_;conv=>whnf
 refine bT b1 (wR _) rfl (cC (eQ (oV B)) (cC (bK (eJ f)) (cC (bK (eJ g)) .nil))) (eQ (oV B1)) ?_;conv=>whnf
 refine bT b2 (wR _) rfl (cC (eQ (oV B1)) (fun _=>rfl)) (eQ (oV B2)) ?_;conv=>whnf
 refine sT ?_;conv=>whnf
 refine dH (fun q:Nat×List Tree=>q.1<=L.length/\mps F L q.1=q.2) (fun q=>[(1,.sl .none (bR f)),(2,.sl .none (bR g)),(3,.s x),(5,.ptr 0 0),(9,.ptr 1 0),(10,.ptr 2 0),(11,.sl (.own 3) (j3 q.2)),(12,.i .i64 (q.1:Nat))])
  (fun q=>⟨[.box 169 (kH k (j3 L) A2 B2 op yes),.box 101 v.cs,.box 169 XA,ow 169 14 q.2.length],0,[]⟩) (fun q=>L.length - q.1) (0,[]) ⟨zL _,rfl⟩ ⟨rfl,rfl,rfl,rfl,rfl,rfl,rfl,rfl,trivial⟩ rfl (fun _ _=>rL _) (fun q _=>by simp only[e8,l5];rfl) (fun q _ e he=>?_) (fun q φ0 hi=>?_)
 ·refine⟨?_,rfl,?_⟩
  ·show[(GObj.box _ (kH k (j3 L) A2 B2 op yes)).ren e,GObj.box _ (v.cs.map (GV.ren e)),GObj.box _ (XA.map (GV.ren e)),(ow _ 14 _).ren e]=_;rw[qO,dW (qP (pH L) A2 B2 op yes) e];rfl
  ·show[(GV.sl .none (bR f)).ren e,(GV.sl .none (bR g)).ren e,_,.ptr (e 0) 0,.ptr (e 1) 0,.ptr (e 2) 0,(GV.sl (.own 3) (j3 q.2)).ren e,_]=_;rw[nB (he 3 (by simp)) (pH _),bK (eJ f) e,bK (eJ g) e,he 0 (by simp),he 1 (by simp),he 2 (by simp)];rfl
 obtain⟨i,o⟩:=q;obtain⟨hi,ho⟩:=hi;replace hi:i<=L.length:=hi;replace ho:mps F L i=o:=ho;conv=>whnf
 apply gM<;>intro h<;>conv=>whnf
 rotate_left
 ·have hie:i=L.length:=by have:=aA h;omega
  have hoe:L.map (Tree.mp F)=o:=by rw[<-ho,hie];unfold mps;rw[aV]
  rw[hoe];repeat (refine sT ?_;conv=>whnf)
  exact cZ n7 (eQ (qP (pH o) A2 B2 op yes))
 have hlt:i<L.length:=by have:=aB h;omega
 obtain⟨y,hy⟩:∃y,L[i]?=some y:=⟨L[i],gL hlt⟩;have hgy:(j3 L)[i]?=some y.ng:=by unfold j3;rw[aK,hy];rfl
 have hcy:=hc y (aE hy);have hcl:=y.ng_cl;have hcl2:=(y.mp F).ng_cl;have hsucc:=a1t (F:=F) hy;have hle:=a47 F L (i+1);rw[hsucc,ho,aG,j5] at hle;rw[ho] at hsucc;generalize y.mp F=z at*;obtain⟨k2,kids,A',B',op',yes2,hng⟩:=fL y;obtain⟨k3,kids3,A3,B3,op3,yes3,hng3⟩:=fL z;rw[hng] at hgy hcy hcl;rw[hng3] at hcy hcl2;refine lQ ?_;conv=>whnf
 refine⟨jR _,.agg (kH k2 kids A' B' op' yes2),by rw[aL];exact hgy,rfl,?_⟩;conv=>whnf
 refine bT hcy (wR _) rfl (cC hcl hw) hcl2 ?_;conv=>whnf
 cases o with
 |nil=>
  refine⟨⟨rfl,zS _,by show(j3 (([]:List Tree))).length+1<=4294967296;rw[dT];decide⟩,j3 (([]:List Tree)++[z]),(([]:List Tree)++[z]).length,⟨(by show j3 (([]:List Tree)++[z])=j3 (([]:List Tree))++[GV.agg (kH k3 kids3 A3 B3 op3 yes3)];rw[<-hng3];unfold j3;rw[b5];rfl),by show _=(j3 (([]:List Tree))).length+1;rw[dT,aG];rfl⟩,?_⟩;conv=>whnf
  refine aN ?_ (h:=by first|rfl|(rw[dT];rfl)|(rw[dT];simp));conv=>whnf
  exact⟨L.length - (i+1),(by show _<L.length - i;omega),(i+1,([]:List Tree)++[z]),⟨hlt,hsucc⟩,rfl,⟨rfl,rfl,rfl,rfl,rfl,rfl,rfl,bH (by omega),trivial⟩,_,rfl,rfl⟩
 |cons z0 zs=>
  refine⟨⟨rfl,zS _,by show(j3 ((z0::zs))).length+1<=4294967296;rw[dT];omega⟩,j3 ((z0::zs)++[z]),((z0::zs)++[z]).length,⟨(by show j3 ((z0::zs)++[z])=j3 ((z0::zs))++[GV.agg (kH k3 kids3 A3 B3 op3 yes3)];rw[<-hng3];unfold j3;rw[b5];rfl),by show _=(j3 ((z0::zs))).length+1;rw[dT,aG];rfl⟩,?_⟩;conv=>whnf
  refine aN ?_ (h:=by first|rfl|(rw[dT];rfl)|(rw[dT];simp));conv=>whnf
  exact⟨L.length - (i+1),(by show _<L.length - i;omega),(i+1,(z0::zs)++[z]),⟨hlt,hsucc⟩,rfl,⟨rfl,rfl,rfl,rfl,rfl,rfl,rfl,bH (by omega),trivial⟩,_,rfl,rfl⟩
theorem JJ (F:Term->Term) (a:Bool):∀t:Tree,(t.mp F).sides a=(t.sides a).map (Tree.mp F)
 |.pair b l r=>by
  show(Tree.pair b (l.mp F) (r.mp F)).sides a=_;unfold Tree.sides;split
  ·rw[b5,JJ F a l,JJ F a r]
  ·rfl
 |.no t=>rfl
 |.test _ _ _=>rfl
 |.truth _=>rfl
theorem K1 {t:Term} (h:t.good):t.var=true->t.name≠[]:=fun hv=>by
 rcases h with h|h
 ·exact h.1
 ·rw[hv] at h;cases h.2.1
theorem a6e (f g:List By) (x:By) (v:Val):Q2 f g x v t0=t0:=by
 unfold Q2;have e:lV f g t0=t0:=aC (fun h=>h.2 rfl);rw[e];exact aC (fun h=>by cases h.1)
theorem EQ [MaxL] (f g:List By) (hf:f.length<1000000) (hg:f.length<=g.length) (x:By) (v:Val):∀(n:Nat) (t:Tree),t.size<=n->t.size<=5000->t.good->
  SC Tryz.prog 214 (t.ng::wsC f g x v) [] (.val (t.mp (Q2 f g x v)).ng) []
 |0,t,h,_,_=>by cases t<;>simp[Tree.size] at h
 |n+1,t,h,h2,hgd=>by
  have n0:t0.var=true->t0.name≠[]:=fun h=>by cases h
  have key:=fun k L yes hL hc=>M8 f g hf hg x v k L t0 t0 [] yes hL n0 n0 hc;rw[a6e] at key;cases t with
  |truth b=>exact key 5 [] b (by simp) (fun y hy=>by cases hy)
  |test op l r=>exact M8 f g hf hg x v 4 [] l r op false (by simp) (K1 hgd.2.1) (K1 hgd.2.2) (fun y hy=>by cases hy)
  |no t=>
   simp only[Tree.size] at h h2;exact key 3 [t] false (by simp) (fun y hy=>by
    rw[List.mem_singleton.1 hy];exact EQ f g hf hg x v n t (by omega) (by omega) hgd)
  |pair a l r=>
   have hs:=@n9 a (Tree.pair a l r);have hk:=key (lL a) ((Tree.pair a l r).sides a) false (by omega) (fun y hy=>by
    have:=CZ hy;exact EQ f g hf hg x v n y (by omega) (by omega) (F2 hgd y hy))
   rw[show(Tree.pair a l r).ng=.agg (kH (lL a) (j3 ((Tree.pair a l r).sides a)) t0 t0 [] false) by show GV.agg _=_;rw[rS]];rw[<-JJ] at hk;rw[show((Tree.pair a l r).mp (Q2 f g x v)).ng=.agg (kH (lL a) (j3 (((Tree.pair a l r).mp (Q2 f g x v)).sides a)) t0 t0 [] false) by show GV.agg (Tree.ncs (.pair a _ _))=_;rw[rS];rfl];exact hk
theorem HL (f:Term->Term) (a:Bool) (acc:Option Tree) (t:Tree):(pW a acc t).mp f=pW a (acc.map (Tree.mp f)) (t.mp f):=by cases acc<;>rfl
theorem wU (f:Term->Term):∀(t:Tree) (a:Bool) (acc:Option Tree),(dA a acc t).mp f=dA a (acc.map (Tree.mp f)) (t.mp f)
 |.pair b l r,a,acc=>by
  show _=dA a (acc.map (Tree.mp f)) (.pair b (l.mp f) (r.mp f));unfold dA;split
  ·rw[wU f r,dP,wU f l]
  ·rw[HL,wU f r,dP,wU f l];rfl
 |.no t,a,acc=>by
  show _=dA a (acc.map (Tree.mp f)) (.no (t.mp f));unfold dA;rw[HL];show pW a _ (.no ((dA true none t).mp f))=_;rw[wU f t];rfl
 |.test op l r,a,acc=>by
  show _=dA a (acc.map (Tree.mp f)) (.test op (f l) (f r));unfold dA;rw[HL];rfl
 |.truth b,a,acc=>by
  show _=dA a (acc.map (Tree.mp f)) (.truth b);unfold dA;rw[HL];rfl
theorem a48 (f:Term->Term) (t:Tree):t.flat.mp f=(t.mp f).flat:=wU f t true none
theorem a5y (f:Term->Term) (t:Tree):xZ (t.flat.mp f)=xZ (t.mp f):=by
 rw[a48];unfold xZ;rw[FM]
theorem DE {F G:Term->Term}:∀{t:Tree},t.good->(∀x:Term,x.good->F x=G x)->t.mp F=t.mp G
 |.pair a l r,h,hf=>by simp only[Tree.mp,DE (t:=l) h.1 hf,DE (t:=r) h.2 hf]
 |.no t,h,hf=>by simp only[Tree.mp,DE (t:=t) h hf]
 |.test op l r,h,hf=>by simp only[Tree.mp,hf l h.2.1,hf r h.2.2]
 |.truth b,h,hf=>rfl
theorem a5J (f g:List By) {t:Tree} (h:t.good):t.mp (Q2 f g [] v0)=t.mp (lV f g):=DE h fun x hx=>by
 unfold Q2 yQ;refine aC (fun q=>?_);obtain⟨h1,h2⟩:=q;have hv:x.var=true:=by
  unfold lV at h1;split at h1
  ·split at h1
   ·cases h1
   ·exact h1
  ·exact h1
 have e:lV f g x=x:=WU f g (fun q=>by rw[hv] at q;cases q.1);rw[e] at h2;exact K1 hx hv h2
def a1I (s:By) (f g:List By):By×Int:=match jH s with
 |.err e=>([],e)
 |.ok t=>if f.length=g.length then(if(f++g).all kG then yW (t.mp (Q2 f g [] v0)) else([],1)) else([],11)
theorem a3p (s:By) (f g:List By):a1I s f g=J0 s f g:=by
 unfold a1I J0;have hr:=rO s;cases hx:jH s with
 |err e=>rw[hx] at hr;rw[hr]
 |ok t=>
  rw[hx] at hr;rw[hr];simp only;by_cases hl:f.length=g.length
  ·rw[aD hl,aD hl];cases ha:(f++g).all kG with
   |false=>rfl
   |true=>
    have hg:=mS hx;rw[aD rfl,aD rfl,a5J f g hg,a5y,IJ (B4 (fun _=>IY ha hl) hg)]
  ·rw[aC hl,aC hl]
theorem a1m {f g:List By} {i:Nat} {x y:By} (hx:f[i]?=some x) (hy:g[i]?=some y) (h:kG x=false∨kG y=false):(f++g).all kG=false:=by
 rw[Bool.eq_false_iff];intro ha;have h1:=List.all_eq_true.1 ha x (List.mem_append.2 (.inl (aE hx)));have h2:=List.all_eq_true.1 ha y (List.mem_append.2 (.inr (aE hy)));rcases h with h|h
 ·rw[h] at h1;cases h1
 ·rw[h] at h2;cases h2
theorem ZE {f g:List By} (hl:f.length=g.length) (h:∀(i:Nat) x y,f[i]?=some x->g[i]?=some y->kG x=true/\kG y=true):(f++g).all kG=true:=by
 rw[aQ];intro z hz;rcases List.mem_append.1 hz with hz|hz
 ·obtain⟨i,hi⟩:=List.mem_iff_getElem?.1 hz;have:=(List.getElem?_eq_some_iff.1 hi).1;exact(h i z (g[i]'(by omega)) hi (gL _)).1
 ·obtain⟨i,hi⟩:=List.mem_iff_getElem?.1 hz;have:=(List.getElem?_eq_some_iff.1 hi).1;exact(h i (f[i]'(by omega)) z (gL _) hi).2
theorem WI {l:List By} {i:Nat} {x:By} (h:l[i]?=some x):(bR l)[((i:Nat):Int).toNat]?=some (.s x):=by
 rw[aL];unfold bR;rw[aK,h];rfl
theorem a1c [MaxL] (s:By) (f g:List By) (hf:f.length<1000000) (hg:g.length<1000000):SC Tryz.prog 157 [.s s,.sl .none (bR f),.sl .none (bR g)] [] (.val (.tup [.s (a1I s f g).1,.i .i64 (a1I s f g).2])) []:=by
 have hr:=O4 s;have hrc:=qM s;have l1:=cD f;have l2:=cD g;unfold kI at hr hrc;unfold a1I;cases hx:jH s with
 |err e=>
  rw[hx] at hr hrc;replace hr:SC Tryz.prog 120 [.s s] [] (.val (.tup [nG,.i .i64 e])) []:=hr;replace hrc:Cl (.tup [nG,.i .i64 e]):=hrc;have he:=qL hx;simp only;rcases he with rfl|rfl|rfl;all_goals
   refine cO Tryz.func157 rfl ?_;(conv=>whnf);refine mG hr hrc ?_;(conv=>whnf);repeat (refine sT ?_;conv=>whnf)
   exact oW
 |ok t=>
  rw[hx] at hr hrc;replace hr:SC Tryz.prog 120 [.s s] [] (.val (.tup [t.ng,.i .i64 0])) []:=hr;replace hrc:Cl (.tup [t.ng,.i .i64 0]):=hrc;have hz:=qK hx;have hgd:=mS hx;have htc:=t.ng_cl;simp only;by_cases hl:f.length=g.length;rotate_left
  ·rw[aC hl];obtain⟨k,kids,A,B,op,yes,hng⟩:=fL t;rw[hng] at hr hrc;refine cO Tryz.func157 rfl ?_;(conv=>whnf);refine mG hr hrc ?_;(conv=>whnf);repeat (refine sT ?_;conv=>whnf)
   apply gM<;>intro h1<;>conv=>whnf
   ·exact oW
   ·exfalso;have h9:((bR f).length:Int)=(bR g).length:=by simpa using h1
    omega
  rw[aD hl];have hch:=EQ f g hf (by omega) [] v0 5000 t (by omega) (by omega) hgd;have ht:(f++g).all kG=true->SC Tryz.prog 211 [(t.mp (Q2 f g [] v0)).ng] [] (.val (.tup [.s (yW (t.mp (Q2 f g [] v0))).1,.i .i64 (yW (t.mp (Q2 f g [] v0))).2])) []:=fun ha=>by
   refine U9 _ ?_ (by rw[DD];omega);rw[a5J f g hgd];exact B4 (fun _=>IY ha hl) hgd
  have hw:=a0R f g [] v0;generalize t.mp (Q2 f g [] v0)=u at*;have huc:=u.ng_cl;generalize hq:yW u=q at*;obtain⟨w,e⟩:=q;obtain⟨k,kids,A,B,op,yes,hng⟩:=fL t;obtain⟨k2,kids2,A2,B2,op2,yes2,hng2⟩:=fL u;unfold wsC at hch hw;rw[hng] at hr hrc hch htc;rw[hng2] at hch ht huc;have hbc:ClL (kH k kids A B op yes):=fun e=>by
   have:=htc e;exact GV.agg.inj this
  generalize hG:(if(f++g).all kG=true then(w,e) else(([]:By),(1:Int)))=G;have hno:(f++g).all kG=false->G=([],1):=fun h=>by rw[<-hG,h];rfl
  have hyes:(f++g).all kG=true->G=(w,e):=fun h=>by rw[<-hG,h];rfl
  clear hG;refine cO Tryz.func157 rfl ?_;conv=>whnf
  refine mG hr hrc ?_;conv=>whnf
  repeat (refine sT ?_;conv=>whnf)
  apply gM<;>intro h1<;>conv=>whnf
  ·exfalso;have h9:¬((bR f).length:Int)=(bR g).length:=by simpa using h1
   omega
  refine dH (fun i:Nat=>i<=f.length/\∀j<i,∀x y,f[j]?=some x->g[j]?=some y->kG x=true/\kG y=true) (fun i=>[(1,.sl .none (bR f)),(2,.sl .none (bR g)),(8,.ptr 0 0),(10,.i .i64 (i:Nat))]) (fun i=>⟨[.box 169 (kH k kids A B op yes)],0,[]⟩) (fun i=>f.length - i) 0 ⟨zL _,fun j h=>absurd h (bP j)⟩ ⟨rfl,rfl,rfl,rfl,trivial⟩ rfl (fun _ _=>rL _) (fun _ _=>rfl) (fun i _ e he=>?_) (fun i φ0 hi=>?_)
  ·refine⟨?_,rfl,?_⟩
   ·show[(GObj.box _ (kH k kids A B op yes)).ren e]=_;rw[dW hbc e]
   ·show[(GV.sl .none (bR f)).ren e,(GV.sl .none (bR g)).ren e,GV.ptr (e 0) 0,_]=_;rw[he 0 (by simp),bK (eJ f) e,bK (eJ g) e];rfl
  obtain⟨hi,hall⟩:=hi;conv=>whnf
  apply gM<;>intro h<;>conv=>whnf
  rotate_left
  ·have hie:i=f.length:=by have:=aA h;omega
   have ha:(f++g).all kG=true:=ZE hl (fun j x y hx hy=>hall j (by rw[hie];exact(List.getElem?_eq_some_iff.1 hx).1) x y hx hy);rw[hyes ha];have ht:=ht ha;refine bT hch (wR _) rfl (cC htc hw) huc ?_;(conv=>whnf);refine bT ht (wR _) rfl (cC huc .nil) (fun _=>rfl) ?_;(conv=>whnf);exact oW
  have hlt:i<f.length:=by have:=aB h;omega
  obtain⟨x,hxx⟩:∃x,f[i]?=some x:=⟨f[i],gL hlt⟩;obtain⟨y,hyy⟩:∃y,g[i]?=some y:=⟨g[i]'(by omega),gL (by omega)⟩;have hxa:=WI hxx;have hya:=WI hyy;have hn1:=a1m hxx hyy;have r1:=tY x;have r2:=UB x;have r3:=tY y;have r4:=UB y;refine⟨jR _,_,hxa,rfl,?_⟩;conv=>whnf
  have bad:(kG x=false∨kG y=false)->G=([],1):=fun h=>hno (hn1 h);unfold kG at bad;have good:(dU x&&!a7o.contains x)=true->(dU y&&!a7o.contains y)=true->f.length - (i+1)<f.length - i/\(i+1<=f.length/\∀j<i+1,∀x y,f[j]?=some x->g[j]?=some y->kG x=true/\kG y=true):=fun h1 h2=>⟨by omega,hlt,fun j hj a b ha hb=>by
   rcases Nat.lt_succ_iff_lt_or_eq.1 hj with q|q
   ·exact hall j q a b ha hb
   ·subst q;rw[hxx] at ha;rw[hyy] at hb;cases ha;cases hb;exact⟨h1,h2⟩⟩
  cases b1:dU x with
  |false=>
   rw[b1] at r1 bad;rw[bad (.inl rfl)];refine mG r1 (.b _) ?_;(conv=>whnf);exact oW
  |true=>
  rw[b1] at r1 bad good;refine mG r1 (.b _) ?_;conv=>whnf
  refine⟨jR _,_,hxa,rfl,?_⟩;conv=>whnf
  cases b2:a7o.contains x with
  |true=>
   rw[b2] at r2 bad;rw[bad (.inl rfl)];refine mG r2 (.b _) ?_;(conv=>whnf);exact oW
  |false=>
  rw[b2] at r2 bad good;refine mG r2 (.b _) ?_;conv=>whnf
  refine⟨jR _,_,hya,rfl,?_⟩;conv=>whnf
  cases b3:dU y with
  |false=>
   rw[b3] at r3 bad;rw[bad (.inr rfl)];refine mG r3 (.b _) ?_;(conv=>whnf);exact oW
  |true=>
  rw[b3] at r3 bad good;refine mG r3 (.b _) ?_;conv=>whnf
  refine⟨jR _,_,hya,rfl,?_⟩;conv=>whnf
  cases b4:a7o.contains y with
  |true=>
   rw[b4] at r4 bad;rw[bad (.inr rfl)];refine mG r4 (.b _) ?_;(conv=>whnf);exact oW
  |false=>
  rw[b4] at r4 good;obtain⟨g1,g2⟩:=good rfl rfl;refine mG r4 (.b _) ?_;conv=>whnf
  exact⟨f.length - (i+1),g1,i+1,g2,rfl,⟨rfl,rfl,rfl,bH (by omega),trivial⟩,[],rfl,rfl⟩
