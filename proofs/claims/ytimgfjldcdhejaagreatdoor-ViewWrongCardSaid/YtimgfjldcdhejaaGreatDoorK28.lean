/- Part of ViewWrong. -/
import Derived.Test.YtimgfjldcdhejaaGreatDoorK27
set_option linter.all false
set_option maxRecDepth 100000
namespace Go.Proofs.YtimgfjldcdhejaaGreatDoor
open Go.RowKit
abbrev YY (s:Sch) (m:List By) (i:Nat):List GObj:=lG s m++[.box 3 [.i .i64 (i:Nat)]]
def zC:FuncId->Bool:=fun _=>true
theorem tX {s:Sch} {n:By} (h:(fV s).contains n=true):∃i:Nat,jJ (fun r:Rc=>r.name==n) s.rc=i/\s.rc[i]?=some (bS s n):=by
 rcases j2 (fun r:Rc=>r.name==n) s.rc with⟨_,_,h3⟩|⟨i,y,h1,h2,h3,_⟩
 ·rw[show(fV s).contains n=s.rc.any fun r=>r.name==n from cE _ _ _,h3] at h;cases h
 ·exact⟨i,h1,by unfold bS;rw[h3];exact h2⟩
theorem wV (l:List Itm) (n:By):j0 l n=(oD l n).k:=by unfold j0 oD;cases l.find? (·.name==n)<;>rfl
theorem KW [MaxL] (n:Nat) {kd:By} {s objs:List GObj} {i:Nat} {e xe:Int} {lo:Nat} {ds:List GDef} [FH n s] (hX:e=xe) (he:e≠0) (ho:objs.take n=s:=by rfl) (hn:s.length=n:=by rfl) (hh:s.all GObj.notHeld=true:=by rfl):Owes s (vT kd i xe) s (.panic (T9 kd i e)) ⟨objs,lo,ds⟩:=by
 subst hX;rw[sN he];exact cQ n (ho:=ho) (hn:=hn) (hl:=Nat.le_of_eq hn) (hh:=hh)
theorem U3 [MaxL] (s:Sch) (hz:kO s) (m0:List By) (i:Nat) (t:Sy) (m:Mb) (hml:m.sel.length<b9) (hm:(fV s).contains m.of=true) (ho:t.owner≠[]->(fV s).contains t.owner=true) (hg:∀r∈s.rc,Q0 kR r):
  SC Tryz.prog 192 [.ptr 0 0,WD t,R8 m,.fn (.func 190) [] [.ptr 2 0]] (YY s m0 i) (vT nF i (TY s t m)) (YY s m0 i):=by
 obtain⟨⟨ha,hl,ht⟩,hr,hst⟩:=hz;unfold b9 at hml;generalize hX:TY s t m=xe;refine bQ zC mixed Tryz.func192 rfl (bL rfl) (by first|exact rL _|simp) rfl ?_;conv=>whnf
 apply gM<;>intro h<;>conv=>whnf
 ·rw[show xe=0 from hX.symm.trans (aD (by simpa[bR] using h))];exact cQ 3
 replace hX:=(aC (by simpa[bR] using h)).symm.trans hX;refine iN gK 2 10 (fun h=>?_) (fun h=>?_)<;>conv=>whnf
 ·exact KW 3 ((aU h).symm.trans hX) (by decide)
 replace hX:=(aZ h).symm.trans hX;have hto:=ho (by simpa using h);obtain⟨io,ho1,ho2⟩:=tX hto;obtain⟨ir,hr1,hr2⟩:=tX hm;have hgo:=hg _ (aE ho2);obtain⟨o1,o2,_⟩:=hr _ (aE ho2);obtain⟨r1,r2,_⟩:=hr _ (aE hr2);have hro:=wM s hl t.owner;have hrr:=wM s hl m.of;rw[ho1] at hro;rw[hr1] at hrr;generalize bS s t.owner=o at*;generalize bS s m.of=r at*;refine cT [none,none,none,none,some 0,none,none,none,some 0,none,some 3,none,none,none,some 5,some 5] rfl rfl (by kernel_rfl) ?_;conv=>whnf
 refine cP hro ?_;conv=>whnf
 refine ix (aY ho2) ⟨rfl,?_⟩;conv=>whnf
 refine st ?_;conv=>whnf
 apply gM<;>intro h<;>conv=>whnf
 ·refine iN gK 2 10 (w:=true) (fun _=>?_) (fun h9=>nomatch h9);conv=>whnf
  exact KW 3 ((aU (by rw[show(o.place !=2)=true from h];rfl)).symm.trans hX) (by decide)
 have hp:(o.place !=2)=false:=h;rw[hp] at hX;refine iN gK 2 10 (fun h=>?_) (fun h=>?_)<;>conv=>whnf
 ·exact KW 3 ((aU h).symm.trans hX) (by decide)
 replace hX:=(aZ h).symm.trans hX;refine iN gK 2 11 (fun h=>?_) (fun h=>?_)<;>conv=>whnf
 ·have h8:¬(m.sel.length:Int)=o.keys.length:=by simpa[bR] using h
  exact KW 3 ((aU (by simp;omega)).symm.trans hX) (by decide)
 have hlk:m.sel.length=o.keys.length:=by
  have h8:(m.sel.length:Int)=o.keys.length:=by simpa[bR] using h
  omega
 replace hX:=(aZ (by rw[hlk];simp)).symm.trans hX;refine cT [none,none,none,none,some 0,none,none,none,some 0,none,some 4,none,none,none,some 6,some 6] rfl rfl (by kernel_rfl) ?_;conv=>whnf
 refine cP hrr ?_;conv=>whnf
 refine ix (aY hr2) ⟨rfl,?_⟩;conv=>whnf
 refine st ?_;conv=>whnf
 refine bE 7 m.sel.length (fun k _=>∀j n,j<k->m.sel[j]?=some n->MD o r j n=0) (fun k _=>[(3,.fn (.func 190) [] [.ptr 2 0]),(8,.ptr 5 0),(9,.ptr 6 0),(72,.sl .none (bR m.sel)),(73,.i .i64 (bR m.sel).length),(74,.i .i64 (k:Nat))])
  (fun k (_:Unit)=>YY s m0 i++[.box 67 (E8 t),.box 69 (mbC m),.box 58 (LD o),.box 58 (LD r)]) [] () (fun j n h=>absurd h (bP j)) (fun k _ φ1 hk hok=>?_)
 conv=>whnf
 apply gM<;>intro h<;>conv=>whnf
 rotate_left
 ·rw[show xe=0 from hX.symm.trans (mD fun j z hz=>hok j z (by have:=aA h;rw[cD] at this;have:=(List.getElem?_eq_some_iff.1 hz).1;omega) hz)];exact cQ 3
 have hlt:k<m.sel.length:=by have:=aB h;rw[cD] at this;omega
 refine(d7 hlt).elim fun n hn=>?_;refine(d7 (show k<o.keys.length by omega)).elim fun n' hn'=>?_;have bad:∀{e:Int},MD o r k n=e->e≠0->e=xe:=fun he h0=>he.symm.trans ((mE hn (by rw[he];exact h0) hok).symm.trans hX);have hk':(o.keys[k]?).getD []=n':=by rw[hn'];rfl
 refine ix (aY hn) ⟨rfl,?_⟩;conv=>whnf
 refine cP (IV r r1 n) ?_;conv=>whnf
 refine st ?_;conv=>whnf
 refine iN gK 2 5 (fun h4=>?_) (fun h4=>?_)<;>conv=>whnf
 ·exact KW 3 (bad (aU h4) (by decide)) (by decide)
 refine cT [some 5,none,some 5,none,none,none,none,none,none,none,some 8,some 8] rfl rfl (by kernel_rfl) ?_;conv=>whnf
 refine ix (aY hn') ⟨rfl,?_⟩;conv=>whnf
 refine cP (IV o o1 n') ?_;conv=>whnf
 refine st ?_;conv=>whnf
 refine iN gK 2 10 (fun h5=>?_) (fun h5=>?_)<;>conv=>whnf
 ·exact KW 3 (bad ((aZ h4).trans (aU (by rw[hk',wV,wV];exact h5))) (by decide)) (by decide)
 exact nx () hlt ⟨hlt,iE hn ((aZ h4).trans (aZ (by rw[hk',wV,wV];exact h5))) hok⟩
theorem ZO {l:List Itm} {n:By} (hk:kR l=true) (ha:l.any (·.name==n)=true):j0 l n≠0:=by
 rcases j2 (fun x:Itm=>x.name==n) l with⟨_,_,h⟩|⟨i,y,_,hy,hf,_⟩
 ·rw[h] at ha;cases ha
 ·unfold j0;rw[hf];have h1:y.ok=true:=by
   unfold kR iC at hk;simp only[aF,aQ] at hk;exact hk.2.1.1 y (aE hy)
  intro h0;unfold Itm.ok at h1;rw[show y.k=0 from h0] at h1;simp at h1
theorem a5q [MaxL] (l:List Ky) (hl:l.length<b9) (z:Ky):SC Tryz.prog 245 [.sl .none (vX l),.fn (.func 246) [] [.ptr 0 0]] [.box 71 (kyC z)] (.val (.b (l.any fun y=>y.item==z.item))) [.box 71 (kyC z)]:=by
 have hi:=FQ (fun y=>zO (kyC y)) l hl (fun y=>y.item==z.item) _ 71 (kyC z) _ 2 (fun y _=>a5l y z) (.inr (.inr (.inr (.inr (.inr ⟨rfl,rfl,rfl⟩)))));refine cO Tryz.func245 rfl ?_;conv=>whnf
 refine cS [0] hi ?_;conv=>whnf
 rw[<-l8];exact cQ 1
theorem oM {α:Type} {p:α->Bool} {l:List α} {i:Nat} {y:α} (hy:l[i]?=some y) (h:p y=false):l.all p=false:=by
 rw[Bool.eq_false_iff];intro h9;rw[aQ] at h9;rw[h9 y (aE hy)] at h;cases h
theorem vM {α:Type} {p:α->Prop} {l:List α} {i:Nat} {y:α} (hy:l[i]?=some y) (hp:p y) (h:∀z∈l.take i,p z):∀z∈l.take (i+1),p z:=fun z hz=>by
 rw[aT,hy] at hz;rcases List.mem_append.1 hz with hz|hz
 ·exact h z hz
 ·simp at hz;subst hz;exact hp
theorem uO {α:Type} {p:α->Bool} {l:List α} {i:Nat} (hi:l.length<=i) (h:∀z∈l.take i,p z=true):l.all p=true:=by
 rw[aW hi] at h;exact List.all_eq_true.2 h
theorem jP [MaxL] (l:List Mb):(jB l).length=l.length:=cL _ _
theorem lX [MaxL] (l:List Ky):(vX l).length=l.length:=cL _ _
theorem a6P [MaxL] (l:List Ky):(vX l).all (fun x=>x.cells.length==2)=true:=by
 rw[aQ];intro x hx;obtain⟨b,_,rfl⟩:=List.mem_map.1 hx;rfl
abbrev a5i (t:Sy) (k:Nat):List (Nat×GV):=[(0,.ptr 0 0),(2,.fn (.func 190) [] [.ptr 2 0]),(4,.ptr 3 0),(25,.sl .none (vX t.keys)),(26,.i .i64 (vX t.keys).length),(27,.i .i64 (k:Nat))]
abbrev a5j (s:Sch) (m:List By) (i:Nat) (t:Sy):List GObj:=YY s m i++[.box 67 (E8 t)]
def a7G:List (Option Nat):=[none,none,none,none,some 0,none,none,none,some 0,none,some 5,none,none,none,none,some 4,none,none,none,none,some 6,some 6,none]
set_option maxHeartbeats 8000000 in
theorem a1A [MaxL] (s:Sch) (hz:kO s) (m0:List By) (i:Nat) (t:Sy) (htl:t.ms.length<b9) (hkl:t.keys.length<b9) (hm:∀m∈t.ms,(fV s).contains m.of=true) (hg:∀r∈s.rc,Q0 kR r):
  SC Tryz.prog 193 [.ptr 0 0,WD t,.fn (.func 190) [] [.ptr 2 0]] (YY s m0 i) (vT nF i (G0 s t)) (YY s m0 i):=by
 obtain⟨⟨ha,hl,ht⟩,hr,hst⟩:=hz;unfold b9 at htl hkl;generalize hX:G0 s t=xe;refine bQ zC mixed Tryz.func193 rfl (bL rfl) (by first|exact rL _|simp) rfl ?_;conv=>whnf
 refine cP (mQ (vX t.keys).length 1 4) ?_;conv=>whnf
 refine iN gK 2 11 (fun h=>?_) (fun h=>?_)<;>rw[lX] at h<;>conv=>whnf
 ·exact KW 3 ((aU h).symm.trans hX) (by decide)
 replace hX:=(aZ h).symm.trans hX;have badK:∀{e:Int},kE (mP s t) t.keys=e->e≠0->e=xe:=fun he h0=>(by rw[he,p9 h0] at hX;exact hX);refine bE 4 t.keys.length (fun k _=>∀j y,j<k->t.keys[j]?=some y->mP s t j y=0) (fun k _=>a5i t k) (fun k (_:Unit)=>a5j s m0 i t) [] () (fun j n h=>absurd h (bP j)) (fun k _ φ1 hk hok=>?_);conv=>whnf
 apply gM<;>intro h<;>conv=>whnf
 rotate_left
 ·have h0:kE (mP s t) t.keys=0:=mD fun j z hz=>hok j z (by have:=aA h;rw[lX] at this;have:=(List.getElem?_eq_some_iff.1 hz).1;omega) hz;rw[p8 h0] at hX;refine cP (mQ t.dups 1 3) ?_;conv=>whnf
  refine iN gK 2 1 (fun h=>?_) (fun h=>?_)<;>conv=>whnf
  ·exact KW 3 ((aU h).symm.trans hX) (by decide)
  rw[show xe=0 from hX.symm.trans (aZ h)];exact cQ 3
 have hlt:k<t.keys.length:=by have:=aB h;rw[lX] at this;omega
 refine(d7 hlt).elim fun y hy=>?_;have bad:∀{e:Int},mP s t k y=e->e≠0->e=xe:=fun he h0=>badK ((mE hy (by rw[he];exact h0) hok).trans he) h0;refine ix (aY hy) ⟨rfl,?_⟩;conv=>whnf
 refine st ?_;conv=>whnf
 refine bE 5 t.ms.length (fun j _=>∀m∈t.ms.take j,(bS s m.of).its.any (·.name==y.item)=true) (fun j _=>(6,.i .i64 (k:Nat))::(7,.ptr 4 0)::(8,.i .i64 0)::(33,.sl .none (jB t.ms))::(34,.i .i64 (jB t.ms).length)::(35,.i .i64 (j:Nat))::a5i t k)
  (fun j (_:Unit)=>a5j s m0 i t++[.box 71 (kyC y)]) [] () (fun m h=>by simp at h) (fun j _ φ2 hj hall=>?_)
 conv=>whnf
 apply gM<;>intro h<;>conv=>whnf
 ·have hlt2:j<t.ms.length:=by have:=aB h;rw[jP] at this;omega
  refine(d7 hlt2).elim fun m hm2=>?_;refine(tX (hm m (aE hm2))).elim fun ir hir=>?_;have hrr:=wM s hl m.of;rw[hir.1] at hrr;refine ix (aY hm2) ⟨rfl,?_⟩;conv=>whnf
  refine st ?_;conv=>whnf
  refine cT a7G rfl rfl (by kernel_rfl) ?_;conv=>whnf
  refine cP hrr ?_;conv=>whnf
  refine ix (aY hir.2) ⟨rfl,?_⟩;conv=>whnf
  refine cP (IV _ (hr _ (aE hir.2)).1 y.item) ?_;conv=>whnf
  refine st ?_;conv=>whnf
  refine iN gK 2 5 (fun h4=>?_) (fun h4=>?_)<;>conv=>whnf
  ·exact KW 3 (bad (aU (by rw[oM hm2 (LI h4)];rfl)) (by decide)) (by decide)
  exact nx () hlt2 ⟨hlt2,vM hm2 (by simpa using h4) hall⟩
 have hall':=uO (p:=fun m:Mb=>(bS s m.of).its.any (·.name==y.item)) (by have:=aA h;rw[jP] at this;omega) hall;have hp1:mP s t k y=cX (!(t.ms.all fun m=>j0 (bS s m.of).its y.item==j0 (bS s ((t.ms.head?.map (·.of)).getD [])).its y.item)) 10 (cX (((t.keys.take k).map (·.item)).contains y.item) 6 0):=aZ (by rw[hall'];rfl);have hne:∀m∈t.ms,j0 (bS s m.of).its y.item≠0:=fun m hm9=>by
  obtain⟨ir,_,hir⟩:=tX (hm m hm9);exact ZO (hg _ (aE hir)).1 (List.all_eq_true.1 hall' m hm9)
 have hd:∀m,t.ms[0]?=some m->j0 (bS s m.of).its y.item=j0 (bS s ((t.ms.head?.map (·.of)).getD [])).its y.item:=fun m hm9=>by
  cases hms:t.ms with
  |nil=>rw[hms] at hm9;cases hm9
  |cons x l=>rw[hms] at hm9;cases hm9;rfl
 generalize j0 (bS s ((t.ms.head?.map (·.of)).getD [])).its y.item=F at*;refine bE 5 t.ms.length (fun j (b:Int)=>(∀m∈t.ms.take j,(j0 (bS s m.of).its y.item==F)=true)/\b=if j=0 then 0 else F) (fun j (b:Int)=>(6,.i .i64 (k:Nat))::(7,.ptr 4 0)::(8,.i .i64 b)::(65,.sl .none (jB t.ms))::(66,.i .i64 (jB t.ms).length)::(67,.i .i64 (j:Nat))::a5i t k)
  (fun j _=>a5j s m0 i t++[.box 71 (kyC y)]) [] 0 ⟨fun m h=>by simp at h,rfl⟩ (fun j b φ2 hj hb=>?_)
 refine hb.elim fun hall2 hb=>?_;conv=>whnf
 apply gM<;>intro h<;>conv=>whnf
 ·have hlt2:j<t.ms.length:=by have:=aB h;rw[jP] at this;omega
  refine(d7 hlt2).elim fun m hm2=>?_;refine(tX (hm m (aE hm2))).elim fun ir hir=>?_;have hrr:=wM s hl m.of;rw[hir.1] at hrr;have hF:j≠0->F≠0:=fun h0=>by
   have hm9:=gL (l:=t.ms) (i:=0) (by omega);rw[<-hd _ hm9];exact hne _ (aE hm9)
  refine ix (aY hm2) ⟨rfl,?_⟩;conv=>whnf
  refine st ?_;conv=>whnf
  refine cT a7G rfl rfl (by kernel_rfl) ?_;conv=>whnf
  refine cP hrr ?_;conv=>whnf
  refine ix (aY hir.2) ⟨rfl,?_⟩;conv=>whnf
  refine cP (IV _ (hr _ (aE hir.2)).1 y.item) ?_;conv=>whnf
  refine st ?_;conv=>whnf
  have hk9:=wV (bS s m.of).its y.item;apply gM<;>intro h4<;>conv=>whnf
  ·have hj0:j≠0:=fun h0=>by rw[aD h0] at hb;rw[hb] at h4;exact absurd h4 (by decide)
   rw[aC hj0] at hb;refine iN gK 2 10 (w:=(oD (bS s m.of).its y.item).k !=b) (fun h5=>?_) (fun h5=>?_)<;>conv=>whnf
   ·exact KW 3 (bad (hp1.trans (aU (by rw[oM hm2 (by rw[hk9,<-hb];simpa using h5)];rfl))) (by decide)) (by decide)
   have h6:(j0 (bS s m.of).its y.item==F)=true:=by rw[hk9,<-hb];simpa using h5
   exact nx (oD (bS s m.of).its y.item).k hlt2 ⟨hlt2,vM hm2 h6 hall2,by rw[aC (Nat.succ_ne_zero _),<-hk9];exact eq_of_beq h6⟩
  ·have hj0:j=0:=Nat.eq_zero_of_not_pos fun h0=>by
    rw[aC (by omega)] at hb;exact hF (by omega) (by rw[<-hb];simpa using h4)
   refine iN gK 2 10 (w:=false) (fun h9=>nomatch h9) (fun _=>?_);(conv=>whnf);have h6:(j0 (bS s m.of).its y.item==F)=true:=by rw[hd m (by rw[<-hj0];exact hm2)];simp
   exact nx (oD (bS s m.of).its y.item).k hlt2 ⟨hlt2,vM hm2 h6 hall2,by rw[aC (Nat.succ_ne_zero _),<-hk9];exact eq_of_beq h6⟩
 have hp2:=hp1.trans (aZ (by rw[uO (by have:=aA h;rw[jP] at this;omega) hall2];rfl));refine TV (zs:=vX (t.keys.take k)) (a6P _) (by rw[lX];omega) ?_ (eS ..).symm;conv=>whnf
 refine cS [4] (a5q (t.keys.take k) (by unfold b9;rw[aS];omega) y) ?_;conv=>whnf
 rw[cE] at hp2;refine iN gK 2 6 (fun h4=>?_) (fun h4=>?_)<;>conv=>whnf
 ·exact KW 3 (bad (hp2.trans (aU h4)) (by decide)) (by decide)
 exact nx () hlt ⟨hlt,iE hy (hp2.trans (aZ h4)) hok⟩
theorem a61 [MaxL] (I V:List Itm) (hI:I.length<b9) (hV:V.length<b9) (t:Term):SC Tryz.prog 172 [.agg (Q1 t),.sl .none (fM I),.sl .none (fM V)] [] (.val (.i .i64 (jI I V t))) []:=by
 obtain⟨nm,vr,v⟩:=t;have hI':=a7S I hI nm;have hV':=a7S V hV nm;unfold jI;by_cases hn:nm=[]
 ·subst hn;rw[aD rfl];cases vr with
  |true=>
   refine cO Tryz.func172 rfl ?_;(conv=>whnf);exact bB rfl
  |false=>
   refine cO Tryz.func172 rfl ?_;(conv=>whnf);exact bB rfl
 ·rw[aC hn];cases vr with
  |true=>
   rcases DI V nm with⟨h1,h2⟩|⟨j,y,h1,h2,h3⟩
   ·rw[h1] at hV';simp only[f7,h2];refine cO Tryz.func172 rfl ?_;(conv=>whnf);apply gM<;>intro hz<;>conv=>whnf
    rotate_left
    ·exact absurd (by simpa using hz) hn
    refine bT hV' (wR _) rfl (cC (bK (dC V)) (cC (.s _) .nil)) (.i _ _) ?_;(conv=>whnf);exact bB rfl
   ·rw[h1] at hV';simp only[f7,h3];refine cO Tryz.func172 rfl ?_;(conv=>whnf);apply gM<;>intro hz<;>conv=>whnf
    rotate_left
    ·exact absurd (by simpa using hz) hn
    refine bT hV' (wR _) rfl (cC (bK (dC V)) (cC (.s _) .nil)) (.i _ _) ?_;(conv=>whnf);refine⟨jR _,_,by rw[aL];exact pJ h2,rfl,?_⟩;(conv=>whnf);exact bB rfl
  |false=>
   rcases DI I nm with⟨h1,h2⟩|⟨j,y,h1,h2,h3⟩
   ·rw[h1] at hI';simp only[bX,fN,h2];refine cO Tryz.func172 rfl ?_;(conv=>whnf);apply gM<;>intro hz<;>conv=>whnf
    rotate_left
    ·exact absurd (by simpa using hz) hn
    refine bT hI' (wR _) rfl (cC (bK (dC I)) (cC (.s _) .nil)) (.i _ _) ?_;(conv=>whnf);exact bB rfl
   ·rw[h1] at hI';simp only[bX,fN,h3];refine cO Tryz.func172 rfl ?_;(conv=>whnf);apply gM<;>intro hz<;>conv=>whnf
    rotate_left
    ·exact absurd (by simpa using hz) hn
    refine bT hI' (wR _) rfl (cC (bK (dC I)) (cC (.s _) .nil)) (.i _ _) ?_;(conv=>whnf);refine⟨jR _,_,by rw[aL];exact pJ h2,rfl,?_⟩;(conv=>whnf);exact bB rfl
theorem a0T [MaxL] {j:Nat} (h:j<100000):GV.i .i64 (IntKind.i64.wrap (((2*j:Nat):Int)+2))=.i .i64 ((2*(j+1):Nat):Int):=by
 rw[dB (by omega) (by omega)];congr 1
theorem U0 {L:List Term} {i:Nat} {y:Term} (h:L[i]?=some y):(zE L)[i]?=some (.agg (Q1 y)):=by
 unfold zE;rw[aK,h];rfl
theorem RK (t:Tree):(d8 t).length=2*(n8 t).length:=by
 rw[rT];induction n8 t with
 |nil=>rfl
 |cons p l ih=>simp only[dV,aG,aI,bO];omega
theorem SJ:∀(l:List (Term×Term)) (j:Nat) (p:Term×Term),l[j]?=some p->(l.flatMap fun p=>[p.1,p.2])[2*j]?=some p.1/\(l.flatMap fun p=>[p.1,p.2])[2*j+1]?=some p.2
 |[],j,p,h=>by simp at h
 |q::l,0,p,h=>by
  simp at h;subst h;simp
 |q::l,j+1,p,h=>by
  have:=SJ l j p (by simpa using h);rw[show 2*(j+1)=2*j+1+1 by omega];simpa using this
theorem ZM {t:Tree} {j:Nat} {p:Term×Term} (h:(n8 t)[j]?=some p):(d8 t)[2*j]?=some p.1/\(d8 t)[2*j+1]?=some p.2:=by
 rw[rT];exact SJ _ _ _ h
theorem E6 {α:Type} {f:α->Bool} {l:List α} {i:Nat} {y:α} (h:(l.take i).any f=false) (hy:l[i]?=some y):(l.take (i+1)).any f=f y:=by
 rw[aT,hy,List.any_append,h];simp
theorem YE {α:Type} {f:α->Bool} {l:List α} {i:Nat} {y:α} (hy:l[i]?=some y) (h:f y=true):l.any f=true:=List.any_eq_true.2 ⟨y,aE hy,h⟩
theorem a3s [MaxL] (I V:List Itm) (hI:I.length<b9) (hV:V.length<b9) (t:Tree) (hz:t.size<=5000):SC Tryz.prog 123 [t.ng,.sl .none (fM I),.sl .none (fM V)] [] (.val (.i .i64 (uM I V t))) []:=by
 have hsd:=HE 5000 t hz hz;have hll:=mX t;have hl2:=RK t;have hat:=fun j p=>@ZM t j p;have hk:=a61 I V hI hV;have hcl:=t.ng_cl;obtain⟨k,kids,A,B,op,yes,hng⟩:=fL t;rw[hng] at hsd hcl⊢;have hncl:ClL (kH k kids A B op yes):=by
  have h9:t.ncs=kH k kids A B op yes:=by
   have h8:GV.agg t.ncs=GV.agg (kH k kids A B op yes):=hng;injection h8
  rw[<-h9];exact t.ncs_cl
 unfold uM;generalize d8 t=L at*;generalize n8 t=T at*;have hsl:=mI L;refine cO Tryz.func123 rfl ?_;conv=>whnf
 refine bT hsd (wR _) rfl (cC hcl .nil) (bK (vS _)) ?_;conv=>whnf
 have hLm:L.length<=10000:=by omega
 refine dH (fun i:Nat=>i<=L.length/\(L.take i).any (fun x=>jI I V x==0)=false) (fun i=>[(1,.sl .none (fM I)),(2,.sl .none (fM V)),(7,.sl .none (zE L)),(8,.i .i64 (i:Nat))])
  (fun _=>⟨[.box 169 (kH k kids A B op yes)],0,[]⟩) (fun i=>L.length - i) 0 ⟨zL _,rfl⟩ ⟨rfl,rfl,rfl,rfl,trivial⟩ rfl (fun _ _=>rL _) (fun _ _=>rfl) (fun i _ e he=>?_) (fun i φ0 hi=>?_)
 ·refine⟨?_,rfl,?_⟩
  ·show[(GObj.box _ (kH k kids A B op yes)).ren e]=_;rw[dW hncl]
  ·show[(GV.sl .none (fM I)).ren e,(GV.sl .none (fM V)).ren e,(GV.sl .none (zE L)).ren e,_]=_;rw[bK (dC I) e,bK (dC V) e,bK (vS L) e];rfl
 obtain⟨hi,hni⟩:=hi;conv=>whnf
 apply gM<;>intro h<;>conv=>whnf
 rotate_left
 ·have hie:i=L.length:=by have:=aA h;omega
  have hn0:L.any (fun x=>jI I V x==0)=false:=by rw[hie,aV] at hni;exact hni
  rw[hn0];simp only[bX,fN];conv=>whnf
  refine dH (fun j:Nat=>j<=T.length/\(T.take j).any (fun p=>jI I V p.1 !=jI I V p.2)=false) (fun j=>[(1,.sl .none (fM I)),(2,.sl .none (fM V)),(7,.sl .none (zE L)),(9,.i .i64 ((2*j:Nat):Int))])
   (fun _=>⟨[.box 169 (kH k kids A B op yes)],0,[]⟩) (fun i=>T.length - i) 0 ⟨zL _,rfl⟩ ⟨rfl,rfl,rfl,rfl,trivial⟩ rfl (fun _ _=>rL _) (fun _ _=>rfl) (fun i _ e he=>?_) (fun j φ0 hj=>?_)
  ·refine⟨?_,rfl,?_⟩
   ·show[(GObj.box _ (kH k kids A B op yes)).ren e]=_;rw[dW hncl]
   ·show[(GV.sl .none (fM I)).ren e,(GV.sl .none (fM V)).ren e,(GV.sl .none (zE L)).ren e,_]=_;rw[bK (dC I) e,bK (dC V) e,bK (vS L) e];rfl
  obtain⟨hj,hnj⟩:=hj;conv=>whnf
  apply gM<;>intro h2<;>conv=>whnf
  rotate_left
  ·have hje:j=T.length:=by have:=aA h2;omega
   refine bB ?_;rw[hje,aV] at hnj;rw[hnj];rfl
  have hlt:j<T.length:=by have:=aB h2;omega
  obtain⟨p,hp⟩:∃y,T[j]?=some y:=⟨T[j],gL hlt⟩;obtain⟨hp1,hp2⟩:=hat j p hp;have hys:=E6 hnj hp;have hk1:=hk p.1;have hk2:=hk p.2;refine lQ ?_;conv=>whnf
  refine⟨jR _,_,by rw[aL];exact U0 hp1,rfl,?_⟩;conv=>whnf
  refine bT hk1 (wR _) rfl (cC (eQ (oV p.1)) (cC (bK (dC I)) (cC (bK (dC V)) .nil))) (.i _ _) ?_;conv=>whnf
  have hw1:IntKind.i64.wrap (((2*j:Nat):Int)+1)=((2*j+1:Nat):Int):=dB (by omega) (by omega);refine⟨by rw[hw1];exact jR _,.agg (Q1 p.2),by rw[hw1,aL];exact U0 hp2,rfl,?_⟩;conv=>whnf
  refine bT hk2 (wR _) rfl (cC (eQ (oV p.2)) (cC (bK (dC I)) (cC (bK (dC V)) .nil))) (.i _ _) ?_;conv=>whnf
  apply gM<;>intro h3<;>conv=>whnf
  ·have h3':¬jI I V p.1=jI I V p.2:=by simpa using h3
   refine bB ?_;rw[YE (f:=fun p=>jI I V p.1 !=jI I V p.2) hp (by simpa using h3')];rfl
  ·have h3':jI I V p.1=jI I V p.2:=by simpa using h3
   exact⟨T.length - (j+1),(by show _<T.length - j;omega),j+1,⟨hlt,by rw[hys];simpa using h3'⟩,rfl,⟨rfl,rfl,rfl,a0T (by omega),trivial⟩,_,rfl,rfl⟩
 have hlt:i<L.length:=by have:=aB h;omega
 obtain⟨y,hy⟩:∃y,L[i]?=some y:=⟨L[i],gL hlt⟩;have hky:=hk y;have hat':=U0 hy;have hys:=E6 hni hy;refine⟨jR _,_,by rw[aL];exact hat',rfl,?_⟩;conv=>whnf
 refine bT hky (wR _) rfl (cC (eQ (oV y)) (cC (bK (dC I)) (cC (bK (dC V)) .nil))) (.i _ _) ?_;conv=>whnf
 apply gM<;>intro h0<;>conv=>whnf
 ·have h0':jI I V y=0:=by simpa using h0
  refine bB ?_;rw[YE hy (by rw[h0'];rfl)];rfl
 ·have h0':¬jI I V y=0:=by simpa using h0
  exact⟨L.length - (i+1),(by show _<L.length - i;omega),i+1,⟨hlt,by rw[hys];simpa using h0'⟩,rfl,⟨rfl,rfl,rfl,bH (by omega),trivial⟩,_,rfl,rfl⟩
theorem F2 {a:Bool}:∀{t:Tree},t.good->∀x∈t.sides a,x.good
 |.pair b l r,h,x,hx=>by
  unfold Tree.sides at hx;split at hx
  ·rcases List.mem_append.1 hx with hx|hx
   ·exact F2 h.1 x hx
   ·exact F2 h.2 x hx
  ·rw[List.mem_singleton.1 hx];exact h
 |.no t,h,x,hx=>by rw[List.mem_singleton.1 (show x∈[Tree.no t] from hx)];exact h
 |.test op l r,h,x,hx=>by rw[List.mem_singleton.1 (show x∈[Tree.test op l r] from hx)];exact h
 |.truth b,h,x,hx=>by rw[List.mem_singleton.1 (show x∈[Tree.truth b] from hx)];exact h
def a4a (I V:List Itm) (s:By):Int:=match jH s with
 |.ok t=>if iC I&&iC V then uM I V t else 1
 |.err e=>e
theorem Y4 (I V:List Itm) (s:By):a4a I V s=CM I V s:=by
 unfold a4a CM;have hr:=rO s;cases hx:jH s with
 |err e=>rw[hx] at hr;rw[hr]
 |ok t=>
  rw[hx] at hr;rw[hr];simp only;rw[VK]
theorem X0 [MaxL] (I V:List Itm) (hI:I.length<b9) (hV:V.length<b9) (s:By) (hs:s.length<1000000):SC Tryz.prog 94 [.s s,.sl .none (fM I),.sl .none (fM V)] [] (.val (.i .i64 (a4a I V s))) []:=by
 have hr:=J6 s hs;have hrc:=qM s;unfold kI at hr hrc;unfold a4a;have h1:=J9 I hI;have h2:=J9 V hV;cases hx:jH s with
 |err e=>
  rw[hx] at hr hrc;replace hr:SC Tryz.prog 120 [.s s] [] (.val (.tup [nG,.i .i64 e])) []:=hr;replace hrc:Cl (.tup [nG,.i .i64 e]):=hrc;have he:=qL hx;simp only;rcases he with rfl|rfl|rfl;all_goals
   refine cO Tryz.func94 rfl ?_;(conv=>whnf);refine mG hr hrc ?_;(conv=>whnf);refine sT ?_;(conv=>whnf);exact bB rfl
 |ok t=>
  rw[hx] at hr hrc;replace hr:SC Tryz.prog 120 [.s s] [] (.val (.tup [t.ng,.i .i64 0])) []:=hr;replace hrc:Cl (.tup [t.ng,.i .i64 0]):=hrc;have hz:=qK hx;have h3:=a3s I V hI hV t (by omega);have hcl:=t.ng_cl;obtain⟨k,kids,A,B,op,yes,hng⟩:=fL t;rw[hng] at hr hrc h3 hcl;simp only;cases k1:iC I with
  |false=>
   rw[k1] at h1;refine cO Tryz.func94 rfl ?_;(conv=>whnf);refine mG hr hrc ?_;(conv=>whnf);refine sT ?_;(conv=>whnf);refine bT h1 (wR _) rfl (cC (bK (dC I)) .nil) (.b _) ?_;(conv=>whnf);exact bB rfl
  |true=>
   rw[k1] at h1;cases k2:iC V with
   |false=>
    rw[k2] at h2;refine cO Tryz.func94 rfl ?_;(conv=>whnf);refine mG hr hrc ?_;(conv=>whnf);refine sT ?_;(conv=>whnf);refine bT h1 (wR _) rfl (cC (bK (dC I)) .nil) (.b _) ?_;(conv=>whnf);refine bT h2 (wR _) rfl (cC (bK (dC V)) .nil) (.b _) ?_;(conv=>whnf);exact bB rfl
   |true=>
    rw[k2] at h2;refine cO Tryz.func94 rfl ?_;(conv=>whnf);refine mG hr hrc ?_;(conv=>whnf);refine sT ?_;(conv=>whnf);refine bT h1 (wR _) rfl (cC (bK (dC I)) .nil) (.b _) ?_;(conv=>whnf);refine bT h2 (wR _) rfl (cC (bK (dC V)) .nil) (.b _) ?_;(conv=>whnf);refine bT h3 (wR _) rfl (cC hcl (cC (bK (dC I)) (cC (bK (dC V)) .nil))) (.i _ _) ?_;(conv=>whnf);exact bB rfl
theorem G2 [MaxL] (s:By) (hs:s.length<1000000):SC Tryz.prog 93 [.s s] [] (.val (.b (o6 s))) []:=by
 have h:=a63 s hs;rw[a14] at h;unfold o6;generalize yX s=q at h;obtain⟨x,e⟩:=q;refine cO Tryz.func93 rfl ?_;conv=>whnf
 refine cP h ?_;conv=>whnf
 apply gM<;>intro h1<;>conv=>whnf
 ·refine d6 ?_;have h2:e=0:=by simpa using h1
  rw[dQ];simp[h2]
 ·refine d6 ?_;have h2:¬e=0:=by simpa using h1
  simp[h2]
theorem nb1 {n lo hi:Int} (h:decide (n<lo)=true):(!t8 n lo hi)=true:=by unfold t8;rw[bN (by have:=aB h;omega)];rfl
theorem nb2 {n lo hi:Int} (h:decide (n>hi)=true):(!t8 n lo hi)=true:=by unfold t8;rw[bN (p:=n<=hi) (by have:=aB h;omega),iL];rfl
theorem nb3 {n lo hi:Int} (h1:decide (n<lo)=false) (h2:decide (n>hi)=false):(!t8 n lo hi)=false:=by
 unfold t8;rw[bC (by have:=aA h1;omega),bC (by have:=aA h2;omega)];rfl
theorem a2h (l:List By) (n:By):l.contains n=l.any fun x=>x==n:=by
 have h:=cE (fun x:By=>x) l n;rwa [List.map_id'] at h
theorem nA {n:By}:(n==n)=true:=by simp
theorem a62 [MaxL] (s:Sch) (hl:s.ar.length<b9) (i:Nat) (y:Ar) (hy:s.ar[i]?=some y):SC Tryz.prog 150 [lT s,.i .i64 (i:Nat)] [] (.val (.i .i64 (nH ((bW s).take i) y))) []:=by
 generalize hX:nH ((bW s).take i) y=xe;unfold nH gJ at hX;rw[a8Y,<-yR hy nA] at hX;have hn:=tY y.name;refine cO Tryz.func150 rfl ?_;conv=>whnf
 refine ix (aY hy) ⟨rfl,?_⟩;conv=>whnf
 refine st ?_;conv=>whnf
 refine cP hn ?_;conv=>whnf
 apply gM<;>intro h<;>conv=>whnf
 ·exact bB ((aU (by rw[h];rfl)).symm.trans hX)
 rw[h] at hX;apply gM<;>intro h<;>conv=>whnf
 ·exact bB ((aU h).symm.trans hX)
 replace hX:=(aZ h).symm.trans hX;refine cP (wS s hl y.name) ?_;conv=>whnf
 apply gM<;>intro h<;>conv=>whnf
 ·exact bB ((aU h).symm.trans hX)
 replace hX:=(aZ h).symm.trans hX;apply gM<;>intro h<;>conv=>whnf
 ·exact bB ((aU (nb1 h)).symm.trans hX)
 apply gM<;>intro h2<;>conv=>whnf
 ·exact bB ((aU (nb2 h2)).symm.trans hX)
 exact bB ((aZ (nb3 h h2)).symm.trans hX)
set_option maxHeartbeats 8000000 in
theorem a1P [MaxL] (s:Sch) (hz:kO s) (hc:∀r∈s.rc,r.check.length<1000000) (i:Nat) (y:Rc) (hy:s.rc[i]?=some y):SC Tryz.prog 151 [lT s,.i .i64 (i:Nat)] [] (.val (.i .i64 (wO s i y))) []:=by
 obtain⟨⟨ha,hl,ht⟩,hr,hst⟩:=hz;obtain⟨y1,y2,y3⟩:=hr y (aE hy);have y4:=hc y (aE hy);generalize hX:wO s i y=xe;unfold wO J2 gJ at hX;rw[a8X,<-yR hy nA,<-l8,show(bW s).contains y.area=s.ar.any fun a=>a.name==y.area from cE _ _ _,<-nT] at hX;have hn:=tY y.name;refine bQ zC mixed Tryz.func151 rfl (bL rfl) (by first|exact rL _|simp) rfl ?_;conv=>whnf
 refine ix (aY hy) ⟨rfl,?_⟩;conv=>whnf
 refine st ?_;conv=>whnf
 refine cP hn ?_;conv=>whnf
 apply gM<;>intro h<;>conv=>whnf
 ·exact bB ((aU (by rw[h];rfl)).symm.trans hX)
 rw[h] at hX;apply gM<;>intro h<;>conv=>whnf
 ·exact bB ((aU h).symm.trans hX)
 replace hX:=(aZ h).symm.trans hX;refine cP (wS s ha y.name) ?_;conv=>whnf
 apply gM<;>intro h<;>conv=>whnf
 ·exact bB ((aU (by rw[show decide (0<=jJ (fun x:Ar=>x.name==y.name) s.ar)=true from h];rfl)).symm.trans hX)
 rw[show decide (0<=jJ (fun x:Ar=>x.name==y.name) s.ar)=false from h] at hX;refine cP (lC s hl y.name) ?_;conv=>whnf
 apply gM<;>intro h<;>conv=>whnf
 ·exact bB ((aU h).symm.trans hX)
 replace hX:=(aZ h).symm.trans hX;refine cP (wS s ha y.area) ?_;conv=>whnf
 apply gM<;>intro h<;>conv=>whnf
 ·exact bB ((aU h).symm.trans hX)
 replace hX:=(aZ h).symm.trans hX;refine cP (LH y.its y1) ?_;conv=>whnf
 apply gM<;>intro h<;>conv=>whnf
 ·exact bB ((aU (by rw[show(!kR y.its)=true from h];rfl)).symm.trans hX)
 rw[show(!kR y.its)=false from h] at hX;apply gM<;>intro h<;>conv=>whnf
 ·exact bB ((aU (nb1 h)).symm.trans hX)
 apply gM<;>intro h2<;>conv=>whnf
 ·exact bB ((aU (nb2 h2)).symm.trans hX)
 replace hX:=(aZ (nb3 h h2)).symm.trans hX;have badK:∀{e:Int},vA y=e->e≠0->e=xe:=fun he h0=>by rw[he,p9 h0] at hX;exact hX
 unfold b9 at y2;apply gM<;>intro hp<;>conv=>whnf
 focus
  have hK:vA y=cX (!t8 y.keys.length 1 4) 11 (kE (ON y) y.keys):=aD (by simpa using hp);refine bZ (fun h=>?_) (fun h=>?_)<;>rw[cD] at h<;>conv=>whnf
  ·exact bB (badK (hK.trans (aU (nb1 h))) (by decide))
  refine bZ (fun h2=>?_) (fun h2=>?_)<;>rw[cD] at h2<;>conv=>whnf
  ·exact bB (badK (hK.trans (aU (nb2 h2))) (by decide))
  replace hK:=hK.trans (aZ (nb3 h h2));refine bE 2 y.keys.length (fun k _=>∀j n,j<k->y.keys[j]?=some n->ON y j n=0) (fun k _=>[(2,.ptr 0 0),(5,.ptr 1 0),(6,.i .i64 (k:Nat))]) (fun k (_:Unit)=>[.box 26 (jX s),.box 58 (LD y)]) [] () (fun j n h=>absurd h (bP j)) (fun k _ φ1 hk hok2=>?_);conv=>whnf
  apply gM<;>intro h<;>conv=>whnf
  ·have hlt2:k<y.keys.length:=by have:=aB h;rw[cD] at this;omega
   refine(d7 hlt2).elim fun n hn2=>?_;have badJ:∀{e:Int},ON y k n=e->e≠0->e=xe:=fun he h0=>badK (hK.trans ((mE hn2 (by rw[he];exact h0) hok2).trans he)) h0;have hJ:ON y k n=cX (decide (jJ (fun x:Itm=>x.name==n) y.its<0)) 5 (cX (decide (jJ (fun a:By=>a==n) y.keys<(k:Int))) 6 0):=by
    rw[yR (p:=fun a:By=>a==n) hn2 nA,nT,<-a2h];rfl
   refine lQ ?_;(conv=>whnf);refine ix (aY hn2) ⟨rfl,?_⟩;(conv=>whnf);refine cP (rP y.its y1 n) ?_;(conv=>whnf);apply gM<;>intro h<;>conv=>whnf
   ·exact bB (badJ (hJ.trans (aU h)) (by decide))
   replace hJ:=hJ.trans (aZ h);refine lQ ?_;(conv=>whnf);refine ix (aY hn2) ⟨rfl,?_⟩;(conv=>whnf);refine cP (WZ y.keys (by unfold b9;omega) n) ?_;(conv=>whnf);apply gM<;>intro h<;>conv=>whnf
   ·exact bB (badJ (hJ.trans (aU h)) (by decide))
   exact nx () hlt2 ⟨hlt2,iE hn2 (hJ.trans (aZ h)) hok2⟩
  have hK0:vA y=0:=hK.trans (mD fun j z hz=>hok2 j z (by have:=aA h;rw[cD] at this;have:=(List.getElem?_eq_some_iff.1 hz).1;omega) hz)
 rotate_left;focus
  have hK:vA y=cX (!y.keys.isEmpty||y.dups) 1 0:=aC (by simpa using hp);apply gM<;>intro h3<;>conv=>whnf
  ·exact bB (badK (hK.trans (aU (by have:((bR y.keys).length:Int)>0:=aB h3;rw[cD] at this;cases hk:y.keys with|nil=>rw[hk] at this;exact absurd this (by decide)|cons a l=>rfl))) (by decide))
  have hke:y.keys.isEmpty=true:=by have:¬((bR y.keys).length:Int)>0:=aA h3;rw[cD] at this;cases hk:y.keys with|nil=>rfl|cons a l=>rw[hk] at this;simp at this
  rw[hke] at hK;apply gM<;>intro h4<;>conv=>whnf
  ·exact bB (badK (hK.trans (aU h4)) (by decide))
  have hK0:vA y=0:=hK.trans (aZ h4)
 all_goals
  rw[p8 hK0] at hX;have badV:∀{e:Int},LE s y=e->e≠0->e=xe:=fun he h0=>by rw[he,p9 h0] at hX;exact hX
  apply gM<;>intro hv<;>conv=>whnf
  focus
   have hV:LE s y=cX (match s.st.find? (·.name==y.via) with|none=>true|some t=>!(t.ms.any (·.of==y.name))) 5 0:=aD (by simpa using hv);have hset:=O3 s ht y.via;refine(j2 (fun t:Sy=>t.name==y.via) s.st).elim (fun⟨h5,h6,_⟩=>?_) (fun⟨j,t,h5,h6,h7,_⟩=>?_)
   ·refine cP hset ?_;(conv=>whnf);refine lQ ?_;(conv=>whnf);refine gY (bC h5) ?_;(conv=>whnf);exact bB (badV (e:=5) (by rw[hV,h6];rfl) (by decide))
   rw[h5] at hset;rw[h7] at hV;refine cP hset ?_;(conv=>whnf);refine lQ ?_;(conv=>whnf);refine ix (aY h6) ⟨rfl,?_⟩;(conv=>whnf);refine cP (J8 t (hst t (aE h6)).1 y.name) ?_;(conv=>whnf);apply gM<;>intro h8<;>conv=>whnf
   ·exact bB (badV (hV.trans (aU ((nT _ _).symm.trans h8))) (by decide))
   replace hV:=hV.trans (aZ ((nT _ _).symm.trans h8))
  rotate_left;focus
   have hV:LE s y=cX (y.via !=[]) 1 0:=aC (by simpa using hv);apply gM<;>intro h4<;>conv=>whnf
   ·exact bB (badV (hV.trans (aU h4)) (by decide))
   replace hV:=hV.trans (aZ h4)
  all_goals
   rw[p8 ‹LE s y=0›] at hX;apply gM<;>intro hc<;>conv=>whnf
   rotate_left
   ·exact bB ((aD (by simpa using hc)).symm.trans hX)
   replace hX:=(aC (by simpa using hc)).symm.trans hX;refine cP (G2 y.check y4) ?_;(conv=>whnf);apply gM<;>intro h<;>conv=>whnf
   ·exact bB ((aU h).symm.trans hX)
   replace hX:=(aZ h).symm.trans hX;refine cP (X0 y.its [] y1 (by decide) y.check y4) ?_ (wC (bF _) (wC (bF _) (wC (bY _ _) (wR _))));(conv=>whnf);exact bB (by rw[Y4];exact hX)
theorem OO {l:List Itm} {n:By} (h:l.any (·.name==n)=true):∃(x:Nat) (y:Itm),jJ (fun a:Itm=>a.name==n) l=x/\l[x]?=some y/\j0 l n=y.k:=by
 rcases j2 (fun x:Itm=>x.name==n) l with⟨_,_,h3⟩|⟨i,y,h1,h2,h3,_⟩
 ·rw[h3] at h;cases h
 ·exact⟨i,y,h1,h2,by unfold j0;rw[h3]⟩
set_option maxHeartbeats 8000000 in
theorem a1W [MaxL] (s:Sch) (hz:kO s) (t:Sy) (htl:t.ms.length<b9) (k:Nat) (m:Mb) (hmk:t.ms[k]?=some m) (hml:m.sel.length<b9) (ho:t.owner≠[]->(fV s).contains t.owner=true) (hg:∀r∈s.rc,Q0 kR r):
  SC Tryz.prog 209 [lT s,WD t,.i .i64 (k:Nat)] [] (.val (.i .i64 (uC s t k m))) []:=by
 obtain⟨⟨ha,hl,ht⟩,hr,hst⟩:=hz;unfold b9 at hml;generalize hX:uC s t k m=xe;unfold uC at hX;rw[cE,<-yR hmk nA] at hX;have hrr:=lC s hl m.of;refine bQ zC mixed Tryz.func209 rfl (bL rfl) (by first|exact rL _|simp) rfl ?_;conv=>whnf
 refine ix (aY hmk) ⟨rfl,?_⟩;conv=>whnf
 refine st ?_;conv=>whnf
 cases hc:(fV s).contains m.of with
 |false=>
  have hno:jJ (fun r:Rc=>r.name==m.of) s.rc<0:=by
   rcases j2 (fun r:Rc=>r.name==m.of) s.rc with⟨h,_⟩|⟨_,_,_,_,_,h⟩
   ·exact h
   ·rw[show(fV s).contains m.of=s.rc.any fun r=>r.name==m.of from cE _ _ _,h] at hc;cases hc
  rw[hc] at hX;refine cP hrr ?_;conv=>whnf
  refine gY (bC hno) ?_;conv=>whnf
  exact bB hX
 |true=>
 rw[hc] at hX;replace hX:=(aZ (w:=!true) rfl).symm.trans hX;obtain⟨ir,hr1,hr2⟩:=tX hc;obtain⟨r1,r2,_⟩:=hr _ (aE hr2);rw[hr1] at hrr;refine cP hrr ?_;conv=>whnf
 refine cP (J8 t htl m.of) ?_;conv=>whnf
 apply gM<;>intro h<;>conv=>whnf
 ·exact bB ((aU h).symm.trans hX)
 replace hX:=(aZ h).symm.trans hX;apply gM<;>intro h<;>conv=>whnf
 ·exact bB ((aU (nb1 h)).symm.trans hX)
 apply gM<;>intro h2<;>conv=>whnf
 ·exact bB ((aU (nb2 h2)).symm.trans hX)
 replace hX:=(aZ (nb3 h h2)).symm.trans hX;clear h h2;apply gM<;>intro h<;>conv=>whnf
 ·exact bB ((aD (by simpa[bR] using h)).symm.trans hX)
 replace hX:=(aC (by simpa[bR] using h)).symm.trans hX;apply gM<;>intro h<;>conv=>whnf
 ·exact bB ((aU h).symm.trans hX)
 replace hX:=(aZ h).symm.trans hX;obtain⟨io,ho1,ho2⟩:=tX (ho (by simpa using h));have hgo:=hg _ (aE ho2);obtain⟨o1,o2,_⟩:=hr _ (aE ho2);have hro:=lC s hl t.owner;rw[ho1] at hro;generalize bS s t.owner=o at*;generalize bS s m.of=r at*;refine cT [none,some 0,some 0,none,some 1,none,none,none,some 3,some 3] rfl rfl (by kernel_rfl) ?_;conv=>whnf
 refine cP hro ?_;conv=>whnf
 refine ix (aY ho2) ⟨rfl,?_⟩;conv=>whnf
 refine st ?_;conv=>whnf
 apply gM<;>intro h<;>conv=>whnf
 ·exact bB ((aU (by rw[show(o.place !=2)=true from h];rfl)).symm.trans hX)
 have hp:(o.place !=2)=false:=h;rw[hp] at hX;apply gM<;>intro h<;>conv=>whnf
 ·exact bB ((aU h).symm.trans hX)
 replace hX:=(aZ h).symm.trans hX;apply gM<;>intro h<;>conv=>whnf
 ·have h8:¬(m.sel.length:Int)=o.keys.length:=by simpa[bR] using h
  exact bB ((aU (by simp;omega)).symm.trans hX)
 have hlk:m.sel.length=o.keys.length:=by
  have h8:(m.sel.length:Int)=o.keys.length:=by simpa[bR] using h
  omega
 replace hX:=(aZ (by rw[hlk];simp)).symm.trans hX;refine bE 4 m.sel.length (fun j _=>∀a n,a<j->m.sel[a]?=some n->MD o r a n=0) (fun j _=>[(3,.ptr 0 0),(4,.ptr 1 0),(7,.ptr 2 0),(8,.i .i64 (ir:Nat)),(9,.ptr 3 0),(10,.i .i64 (j:Nat))])
  (fun j (_:Unit)=>[.box 26 (jX s),.box 67 (E8 t),.box 69 (mbC m),.box 58 (LD o)]) [] () (fun j n h=>absurd h (bP j)) (fun j _ φ1 hj hok=>?_)
 conv=>whnf
 apply gM<;>intro h<;>conv=>whnf
 rotate_left
 ·exact bB ((mD fun a z hz=>hok a z (by have:=aA h;rw[cD] at this;have:=(List.getElem?_eq_some_iff.1 hz).1;omega) hz).symm.trans hX)
 have hlt:j<m.sel.length:=by have:=aB h;rw[cD] at this;omega
 refine(d7 hlt).elim fun n hn=>?_;refine(d7 (show j<o.keys.length by omega)).elim fun n' hn'=>?_;have bad:∀{e:Int},MD o r j n=e->e≠0->e=xe:=fun he h0=>he.symm.trans ((mE hn (by rw[he];exact h0) hok).symm.trans hX);have hk':(o.keys[j]?).getD []=n':=by rw[hn'];rfl
 have hra:=rP r.its r1 n;refine lQ ?_;conv=>whnf
 refine ix (aY hr2) ⟨rfl,?_⟩;conv=>whnf
 refine ix (aY hn) ⟨rfl,?_⟩;conv=>whnf
 refine(fJ (r.its.any (·.name==n))).elim (fun hc=>?_) (fun hc=>?_);rotate_left
 ·refine cP hra ?_;conv=>whnf
  refine gY (by rw[show decide (jJ (fun a:Itm=>a.name==n) r.its<0)=!r.its.any fun a=>a.name==n from nT _ _,hc];rfl) ?_;conv=>whnf
  exact bB (bad (aU (by rw[hc];rfl)) (by decide))
 refine(OO hc).elim fun x hx=>hx.elim fun z hz=>?_;rw[hz.1] at hra;refine(OO (hgo.2 (by simpa using hp) n' (aE hn'))).elim fun x' hx'=>hx'.elim fun z' hz'=>?_;have hoa:=rP o.its o1 n';rw[hz'.1] at hoa;refine cP hra ?_;conv=>whnf
 refine lQ ?_;conv=>whnf
 refine ix (aY hr2) ⟨rfl,?_⟩;conv=>whnf
 refine ix (aY hz.2.1) ⟨rfl,?_⟩;conv=>whnf
 refine ix (aY hn') ⟨rfl,?_⟩;conv=>whnf
 refine cP hoa ?_;conv=>whnf
 refine ix (aY hz'.2.1) ⟨rfl,?_⟩;conv=>whnf
 have hJ:MD o r j n=cX (j0 r.its n !=j0 o.its n') 10 0:=by rw[<-hk'];exact aZ (by rw[hc];rfl)
 rw[hz.2.2,hz'.2.2] at hJ;apply gM<;>intro h5<;>conv=>whnf
 ·exact bB (bad (hJ.trans (aU h5)) (by decide))
 exact nx () hlt ⟨hlt,iE hn (hJ.trans (aZ h5)) hok⟩
def a7I:List (Option Nat):=[none,some 0,some 0,none,some 1,none,none,none,none,none,none,none,some 2,some 2]
abbrev a1G (s:Sch) (t:Sy):List GObj:=[.box 26 (jX s),.box 67 (E8 t)]
set_option maxHeartbeats 8000000 in
theorem a1N [MaxL] (s:Sch) (hz:kO s) (t:Sy) (htl:t.ms.length<b9) (hkl:t.keys.length<b9) (hm:∀m∈t.ms,(fV s).contains m.of=true) (hg:∀r∈s.rc,Q0 kR r):
  SC Tryz.prog 210 [lT s,WD t] [] (.val (.i .i64 (G0 s t))) []:=by
 obtain⟨⟨ha,hl,ht⟩,hr,hst⟩:=hz;unfold b9 at htl hkl;generalize hX:G0 s t=xe;refine bQ zC mixed Tryz.func210 rfl (bL rfl) (by first|exact rL _|simp) rfl ?_;conv=>whnf
 refine bZ (fun h=>?_) (fun h=>?_)<;>rw[lX] at h<;>conv=>whnf
 ·exact bB ((aU (nb1 h)).symm.trans hX)
 refine bZ (fun h2=>?_) (fun h2=>?_)<;>rw[lX] at h2<;>conv=>whnf
 ·exact bB ((aU (nb2 h2)).symm.trans hX)
 replace hX:=(aZ (nb3 h h2)).symm.trans hX;have badK:∀{e:Int},kE (mP s t) t.keys=e->e≠0->e=xe:=fun he h0=>(by rw[he,p9 h0] at hX;exact hX);refine bE 2 t.keys.length (fun k _=>∀j y,j<k->t.keys[j]?=some y->mP s t j y=0) (fun k _=>[(2,.ptr 0 0),(3,.ptr 1 0),(5,.i .i64 (k:Nat))]) (fun k (_:Unit)=>a1G s t) [] () (fun j n h=>absurd h (bP j)) (fun k _ φ1 hk hok=>?_);conv=>whnf
 apply gM<;>intro h<;>conv=>whnf
 rotate_left
 ·have h0:kE (mP s t) t.keys=0:=mD fun j z hz=>hok j z (by have:=aA h;rw[lX] at this;have:=(List.getElem?_eq_some_iff.1 hz).1;omega) hz;rw[p8 h0] at hX;apply gM<;>intro h<;>conv=>whnf
  ·exact bB ((aU (nb1 h)).symm.trans hX)
  apply gM<;>intro h2<;>conv=>whnf
  ·exact bB ((aU (nb2 h2)).symm.trans hX)
  exact bB ((aZ (nb3 h h2)).symm.trans hX)
 have hlt:k<t.keys.length:=by have:=aB h;rw[lX] at this;omega
 refine(d7 hlt).elim fun y hy=>?_;have bad:∀{e:Int},mP s t k y=e->e≠0->e=xe:=fun he h0=>badK ((mE hy (by rw[he];exact h0) hok).trans he) h0;refine bE 2 t.ms.length (fun j _=>∀m∈t.ms.take j,(bS s m.of).its.any (·.name==y.item)=true) (fun j _=>[(2,.ptr 0 0),(3,.ptr 1 0),(5,.i .i64 (k:Nat)),(6,.i .i64 0),(7,.i .i64 (j:Nat))])
  (fun j (_:Unit)=>a1G s t) [] () (fun m h=>by simp at h) (fun j _ φ2 hj hall=>?_)
 conv=>whnf
 apply gM<;>intro h<;>conv=>whnf
 ·have hlt2:j<t.ms.length:=by have:=aB h;rw[jP] at this;omega
  refine(d7 hlt2).elim fun m hm2=>?_;refine(tX (hm m (aE hm2))).elim fun ir hir=>?_;have hrr:=lC s hl m.of;rw[hir.1] at hrr;refine cT a7I rfl rfl (by kernel_rfl) ?_;conv=>whnf
  refine ix (aY hm2) ⟨rfl,?_⟩;conv=>whnf
  refine cP hrr ?_;conv=>whnf
  refine ix (aY hir.2) ⟨rfl,?_⟩;conv=>whnf
  refine st ?_;conv=>whnf
  refine lQ ?_;conv=>whnf
  refine ix (aY hy) ⟨rfl,?_⟩;conv=>whnf
  refine cP (rP _ (hr _ (aE hir.2)).1 y.item) ?_;conv=>whnf
  refine bZ (fun h4=>?_) (fun h4=>?_)<;>rw[nT] at h4<;>conv=>whnf
  ·exact bB (bad (aU (by rw[oM hm2 (LI h4)];rfl)) (by decide))
  exact nx () hlt2 ⟨hlt2,vM hm2 (by simpa using h4) hall⟩
 have hall':=uO (p:=fun m:Mb=>(bS s m.of).its.any (·.name==y.item)) (by have:=aA h;rw[jP] at this;omega) hall;have hp1:mP s t k y=cX (!(t.ms.all fun m=>j0 (bS s m.of).its y.item==j0 (bS s ((t.ms.head?.map (·.of)).getD [])).its y.item)) 10 (cX (((t.keys.take k).map (·.item)).contains y.item) 6 0):=aZ (by rw[hall'];rfl);have hd:∀m,t.ms[0]?=some m->j0 (bS s m.of).its y.item=j0 (bS s ((t.ms.head?.map (·.of)).getD [])).its y.item:=fun m hm9=>by
  cases hms:t.ms with
  |nil=>rw[hms] at hm9;cases hm9
  |cons x l=>rw[hms] at hm9;cases hm9;rfl
 generalize j0 (bS s ((t.ms.head?.map (·.of)).getD [])).its y.item=F at*;refine bE 2 t.ms.length (fun j (b:Int)=>(∀m∈t.ms.take j,(j0 (bS s m.of).its y.item==F)=true)/\b=if j=0 then 0 else F) (fun j (b:Int)=>[(2,.ptr 0 0),(3,.ptr 1 0),(5,.i .i64 (k:Nat)),(6,.i .i64 b),(9,.i .i64 (j:Nat))])
  (fun j _=>a1G s t) [] 0 ⟨fun m h=>by simp at h,rfl⟩ (fun j b φ2 hj hb=>?_)
 refine hb.elim fun hall2 hb=>?_;conv=>whnf
 apply gM<;>intro h<;>conv=>whnf
 ·have hlt2:j<t.ms.length:=by have:=aB h;rw[jP] at this;omega
  refine(d7 hlt2).elim fun m hm2=>?_;refine(tX (hm m (aE hm2))).elim fun ir hir=>?_;have hrr:=lC s hl m.of;rw[hir.1] at hrr;have hia:=List.all_eq_true.1 hall' m (aE hm2);refine(OO hia).elim fun x hx=>hx.elim fun z hz=>?_;have hra:=rP _ (hr _ (aE hir.2)).1 y.item;rw[hz.1] at hra;refine cT a7I rfl rfl (by kernel_rfl) ?_;conv=>whnf
  refine ix (aY hm2) ⟨rfl,?_⟩;conv=>whnf
  refine cP hrr ?_;conv=>whnf
  refine ix (aY hir.2) ⟨rfl,?_⟩;conv=>whnf
  refine st ?_;conv=>whnf
  refine lQ ?_;conv=>whnf
  refine ix (aY hy) ⟨rfl,?_⟩;conv=>whnf
  refine cP hra ?_;conv=>whnf
  refine ix (aY hz.2.1) ⟨rfl,?_⟩;conv=>whnf
  apply gM<;>intro h4<;>conv=>whnf
  ·have hj0:j=0:=by simpa using h4
   have h6:(j0 (bS s m.of).its y.item==F)=true:=by rw[hd m (by rw[<-hj0];exact hm2)];simp
   refine gN (show(z.k !=z.k)=false by simp) ?_;(conv=>whnf);exact nx z.k hlt2 ⟨hlt2,vM hm2 h6 hall2,by rw[aC (Nat.succ_ne_zero _),<-hz.2.2];exact eq_of_beq h6⟩
  ·have hj0:j≠0:=by simpa using h4
   rw[aC hj0] at hb;apply gM<;>intro h5<;>conv=>whnf
   ·exact bB (bad (hp1.trans (aU (by rw[oM hm2 (by rw[hz.2.2,<-hb];simpa using h5)];rfl))) (by decide))
   have h6:(j0 (bS s m.of).its y.item==F)=true:=by rw[hz.2.2,<-hb];simpa using h5
   exact nx b hlt2 ⟨hlt2,vM hm2 h6 hall2,by rw[aC (Nat.succ_ne_zero _)];exact hb⟩
 have hp2:=hp1.trans (aZ (by rw[uO (by have:=aA h;rw[jP] at this;omega) hall2];rfl));rw[cE] at hp2;refine bE 2 k (fun j _=>∀z∈t.keys.take j,(z.item==y.item)=false) (fun j _=>[(2,.ptr 0 0),(3,.ptr 1 0),(5,.i .i64 (k:Nat)),(12,.i .i64 (j:Nat))])
  (fun j (_:Unit)=>a1G s t) [] () (fun m h=>by simp at h) (fun j _ φ2 hj hno=>?_)
 conv=>whnf
 apply gM<;>intro h<;>conv=>whnf
 ·have hlt2:j<k:=by have:=aB h;omega
  refine(d7 (show j<t.keys.length by omega)).elim fun z hz=>?_;refine lQ ?_;conv=>whnf
  refine ix (aY hz) ⟨rfl,?_⟩;conv=>whnf
  refine ix (aY hy) ⟨rfl,?_⟩;conv=>whnf
  apply gM<;>intro h4<;>conv=>whnf
  ·exact bB (bad (hp2.trans (aU (List.any_eq_true.2 ⟨z,List.mem_take_iff_getElem.2 ⟨j,by have:=(List.getElem?_eq_some_iff.1 hz).1;omega,(List.getElem?_eq_some_iff.1 hz).2⟩,h4⟩))) (by decide))
  exact nx () hlt2 ⟨hlt2,pV (p:=fun z:Ky=>z.item==y.item) hz h4 hno⟩
 have hjk:j=k:=by have:=aA h;omega
 subst hjk;exact nx () hlt ⟨hlt,iE hy (hp2.trans (aZ (List.any_eq_false.2 fun z hz=>by rw[hno z hz];decide))) hok⟩
