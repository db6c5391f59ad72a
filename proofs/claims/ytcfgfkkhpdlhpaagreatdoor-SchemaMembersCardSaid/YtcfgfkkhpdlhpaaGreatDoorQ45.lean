/-
  A part of the proof of SchemaMembers.
-/
import Derived.Test.YtcfgfkkhpdlhpaaGreatDoorQ44
set_option linter.all false
set_option maxRecDepth 100000
namespace Go.Proofs.YtcfgfkkhpdlhpaaGreatDoor
open Go.RowKit
theorem a0N [MaxL] (I V:List Itm) (hI:I.length<bH) (hV:V.length<bH) (t:Term):SC Tryz.prog 233 [.agg (U8 t),.sl .none (gI I),.sl .none (gI V)] [] (.val (.i .i64 (iP I V t))) []:=by
 obtain⟨nm,vr,v⟩:=t;have hI':=a1H I hI nm;have hV':=a1H V hV nm;unfold iP;by_cases hn:nm=[]
 ·subst hn;rw[aG rfl];cases vr with
  |true=>
   refine cW Tryz.func233 rfl ?_;(conv=>whnf);exact bG rfl
  |false=>
   refine cW Tryz.func233 rfl ?_;(conv=>whnf);exact bG rfl
 ·rw[aE hn];cases vr with
  |true=>
   rcases zQ V nm with⟨h1,h2⟩|⟨j,y,h1,h2,h3⟩
   ·rw[h1] at hV';simp only[fI,h2];refine cW Tryz.func233 rfl ?_;(conv=>whnf);refine aF (fun hz=>?_) (fun hz=>?_)<;>conv=>whnf
    rotate_left
    ·exact absurd (by simpa using hz) hn
    refine bF hV' (wR _) rfl (cC (bT (cR V)) (cC (.s _) .nil)) (.i _ _) ?_;(conv=>whnf);exact bG rfl
   ·rw[h1] at hV';simp only[fI,h3];refine cW Tryz.func233 rfl ?_;(conv=>whnf);refine aF (fun hz=>?_) (fun hz=>?_)<;>conv=>whnf
    rotate_left
    ·exact absurd (by simpa using hz) hn
    refine bF hV' (wR _) rfl (cC (bT (cR V)) (cC (.s _) .nil)) (.i _ _) ?_;(conv=>whnf);refine⟨cN _,_,by rw[aA];exact n7 h2,rfl,?_⟩;(conv=>whnf);exact bG rfl
  |false=>
   rcases zQ I nm with⟨h1,h2⟩|⟨j,y,h1,h2,h3⟩
   ·rw[h1] at hI';simp only[bR,fK,h2];refine cW Tryz.func233 rfl ?_;(conv=>whnf);refine aF (fun hz=>?_) (fun hz=>?_)<;>conv=>whnf
    rotate_left
    ·exact absurd (by simpa using hz) hn
    refine bF hI' (wR _) rfl (cC (bT (cR I)) (cC (.s _) .nil)) (.i _ _) ?_;(conv=>whnf);exact bG rfl
   ·rw[h1] at hI';simp only[bR,fK,h3];refine cW Tryz.func233 rfl ?_;(conv=>whnf);refine aF (fun hz=>?_) (fun hz=>?_)<;>conv=>whnf
    rotate_left
    ·exact absurd (by simpa using hz) hn
    refine bF hI' (wR _) rfl (cC (bT (cR I)) (cC (.s _) .nil)) (.i _ _) ?_;(conv=>whnf);refine⟨cN _,_,by rw[aA];exact n7 h2,rfl,?_⟩;(conv=>whnf);exact bG rfl
theorem TJ [MaxL] {j:Nat} (h:j<100000):GV.i .i64 (IntKind.i64.wrap (((2*j:Nat):Int)+2))=.i .i64 ((2*(j+1):Nat):Int):=by
 rw[bY (by omega) (by omega)];congr 1
theorem NE {L:List Term} {i:Nat} {y:Term} (h:L[i]?=some y):(xM L)[i]?=some (.agg (U8 y)):=by
 unfold xM;rw[aL,h];rfl
theorem LR (t:Tree):(d7 t).length=2*(lP t).length:=by
 rw[oA];induction lP t with
 |nil=>rfl
 |cons p l ih=>simp only[f5,aD,aJ,b4];omega
theorem ML:∀(l:List (Term×Term)) (j:Nat) (p:Term×Term),l[j]?=some p->(l.flatMap fun p=>[p.1,p.2])[2*j]?=some p.1/\(l.flatMap fun p=>[p.1,p.2])[2*j+1]?=some p.2
 |[],j,p,h=>by simp at h
 |q::l,0,p,h=>by
  simp at h;subst h;simp
 |q::l,j+1,p,h=>by
  have:=ML l j p (by simpa using h);rw[show 2*(j+1)=2*j+1+1 by omega];simpa using this
theorem SJ {t:Tree} {j:Nat} {p:Term×Term} (h:(lP t)[j]?=some p):(d7 t)[2*j]?=some p.1/\(d7 t)[2*j+1]?=some p.2:=by
 rw[oA];exact ML _ _ _ h
theorem AC {α:Type} {f:α->Bool} {l:List α} {i:Nat} {y:α} (h:(l.take i).any f=false) (hy:l[i]?=some y):(l.take (i+1)).any f=f y:=by
 rw[cH,hy,List.any_append,h];simp
theorem R3 {α:Type} {f:α->Bool} {l:List α} {i:Nat} {y:α} (hy:l[i]?=some y) (h:f y=true):l.any f=true:=List.any_eq_true.2 ⟨y,aN hy,h⟩
theorem XR [MaxL] (I V:List Itm) (hI:I.length<bH) (hV:V.length<bH) (t:Tree) (hz:t.size<=5000):SC Tryz.prog 191 [t.ng,.sl .none (gI I),.sl .none (gI V)] [] (.val (.i .i64 (r6 I V t))) []:=by
 have hsd:=IK 5000 t hz hz;have hll:=oB t;have hl2:=LR t;have hat:=fun j p=>@SJ t j p;have hk:=a0N I V hI hV;have hcl:=t.ng_cl;obtain⟨k,kids,A,B,op,yes,hng⟩:=iN t;rw[hng] at hsd hcl⊢;have hncl:ClL (jW k kids A B op yes):=by
  have h9:t.ncs=jW k kids A B op yes:=by
   have h8:GV.agg t.ncs=GV.agg (jW k kids A B op yes):=hng;injection h8
  rw[<-h9];exact t.ncs_cl
 unfold r6;generalize d7 t=L at*;generalize lP t=T at*;have hsl:=lQ L;refine cW Tryz.func191 rfl ?_;conv=>whnf
 refine bF hsd (wR _) rfl (cC hcl .nil) (bT (vN _)) ?_;conv=>whnf
 have hLm:L.length<=10000:=by omega
 refine f7 (fun i:Nat=>i<=L.length/\(L.take i).any (fun x=>iP I V x==0)=false) (fun i=>[(1,.sl .none (gI I)),(2,.sl .none (gI V)),(7,.sl .none (xM L)),(8,.i .i64 (i:Nat))])
  (fun _=>⟨[.box 211 (jW k kids A B op yes)],0,[]⟩) (fun i=>L.length - i) 0 ⟨zL _,rfl⟩ ⟨rfl,rfl,rfl,rfl,trivial⟩ rfl (fun _ _=>rL _) (fun _ _=>rfl) (fun i _ e he=>?_) (fun i φ0 hi=>?_)
 ·refine⟨?_,rfl,?_⟩
  ·show[(GObj.box _ (jW k kids A B op yes)).ren e]=_;rw[eQ hncl]
  ·show[(GV.sl .none (gI I)).ren e,(GV.sl .none (gI V)).ren e,(GV.sl .none (xM L)).ren e,_]=_;rw[bT (cR I) e,bT (cR V) e,bT (vN L) e];rfl
 obtain⟨hi,hni⟩:=hi;conv=>whnf
 refine aF (fun h=>?_) (fun h=>?_)<;>conv=>whnf
 rotate_left
 ·have hie:i=L.length:=by have:=aC h;rw[hsl] at this;omega
  have hn0:L.any (fun x=>iP I V x==0)=false:=by rw[hie,b9] at hni;exact hni
  rw[hn0];simp only[bR,fK];conv=>whnf
  refine f7 (fun j:Nat=>j<=T.length/\(T.take j).any (fun p=>iP I V p.1 !=iP I V p.2)=false) (fun j=>[(1,.sl .none (gI I)),(2,.sl .none (gI V)),(7,.sl .none (xM L)),(9,.i .i64 ((2*j:Nat):Int))])
   (fun _=>⟨[.box 211 (jW k kids A B op yes)],0,[]⟩) (fun i=>T.length - i) 0 ⟨zL _,rfl⟩ ⟨rfl,rfl,rfl,rfl,trivial⟩ rfl (fun _ _=>rL _) (fun _ _=>rfl) (fun i _ e he=>?_) (fun j φ0 hj=>?_)
  ·refine⟨?_,rfl,?_⟩
   ·show[(GObj.box _ (jW k kids A B op yes)).ren e]=_;rw[eQ hncl]
   ·show[(GV.sl .none (gI I)).ren e,(GV.sl .none (gI V)).ren e,(GV.sl .none (xM L)).ren e,_]=_;rw[bT (cR I) e,bT (cR V) e,bT (vN L) e];rfl
  obtain⟨hj,hnj⟩:=hj;conv=>whnf
  refine aF (fun h2=>?_) (fun h2=>?_)<;>conv=>whnf
  rotate_left
  ·have hje:j=T.length:=by have:=aC h2;rw[hsl] at this;omega
   refine bG ?_;rw[hje,b9] at hnj;rw[hnj];rfl
  have hlt:j<T.length:=by have:=aB h2;rw[hsl] at this;omega
  obtain⟨p,hp⟩:∃y,T[j]?=some y:=⟨T[j],gL hlt⟩;obtain⟨hp1,hp2⟩:=hat j p hp;have hys:=AC hnj hp;have hk1:=hk p.1;have hk2:=hk p.2;refine bC (by kernel_rfl) ?_;conv=>whnf
  refine⟨cN _,_,by rw[aA];exact NE hp1,rfl,?_⟩;conv=>whnf
  refine bF hk1 (wR _) rfl (cC (eK (AO p.1)) (cC (bT (cR I)) (cC (bT (cR V)) .nil))) (.i _ _) ?_;conv=>whnf
  have hw1:IntKind.i64.wrap (((2*j:Nat):Int)+1)=((2*j+1:Nat):Int):=bY (by omega) (by omega);refine⟨by rw[hw1];exact cN _,.agg (U8 p.2),by rw[hw1,aA];exact NE hp2,rfl,?_⟩;conv=>whnf
  refine bF hk2 (wR _) rfl (cC (eK (AO p.2)) (cC (bT (cR I)) (cC (bT (cR V)) .nil))) (.i _ _) ?_;conv=>whnf
  refine aF (fun h3=>?_) (fun h3=>?_)<;>conv=>whnf
  ·have h3':¬iP I V p.1=iP I V p.2:=by simpa using h3
   refine bG ?_;rw[R3 (f:=fun p=>iP I V p.1 !=iP I V p.2) hp (by simpa using h3')];rfl
  ·have h3':iP I V p.1=iP I V p.2:=by simpa using h3
   exact⟨T.length - (j+1),(by show _<T.length - j;omega),j+1,⟨hlt,by rw[hys];simpa using h3'⟩,rfl,⟨rfl,rfl,rfl,TJ (by omega),trivial⟩,_,rfl,rfl⟩
 have hlt:i<L.length:=by have:=aB h;rw[hsl] at this;omega
 obtain⟨y,hy⟩:∃y,L[i]?=some y:=⟨L[i],gL hlt⟩;have hky:=hk y;have hat':=NE hy;have hys:=AC hni hy;refine⟨cN _,_,by rw[aA];exact hat',rfl,?_⟩;conv=>whnf
 refine bF hky (wR _) rfl (cC (eK (AO y)) (cC (bT (cR I)) (cC (bT (cR V)) .nil))) (.i _ _) ?_;conv=>whnf
 refine aF (fun h0=>?_) (fun h0=>?_)<;>conv=>whnf
 ·have h0':iP I V y=0:=by simpa using h0
  refine bG ?_;rw[R3 hy (by rw[h0'];rfl)];rfl
 ·have h0':¬iP I V y=0:=by simpa using h0
  exact⟨L.length - (i+1),(by show _<L.length - i;omega),i+1,⟨hlt,by rw[hys];simpa using h0'⟩,rfl,⟨rfl,rfl,rfl,b7 (by omega),trivial⟩,_,rfl,rfl⟩
def YO (I V:List Itm) (s:By):Int:=match l7 s with
 |.ok t=>if gU I&&gU V then r6 I V t else 1
 |.err e=>e
theorem YN (I V:List Itm) (s:By):YO I V s=CZ I V s:=by
 unfold YO CZ;have hr:=zC s;cases hx:l7 s with
 |err e=>rw[hx] at hr;rw[hr]
 |ok t=>
  rw[hx] at hr;rw[hr];simp only;rw[P0]
theorem XV [MaxL] (I V:List Itm) (hI:I.length<bH) (hV:V.length<bH) (s:By) (hs:s.length<1000000):SC Tryz.prog 129 [.s s,.sl .none (gI I),.sl .none (gI V)] [] (.val (.i .i64 (YO I V s))) []:=by
 have hr:=NU s hs;have hrc:=AT s;unfold l4 at hr hrc;unfold YO;have h1:=EI I hI;have h2:=EI V hV;cases hx:l7 s with
 |err e=>
  rw[hx] at hr hrc;replace hr:SC Tryz.prog 190 [.s s] [] (.val (.tup [sU,.i .i64 e])) []:=hr;replace hrc:Cl (.tup [sU,.i .i64 e]):=hrc;have he:=AS hx;simp only;rcases he with rfl|rfl|rfl;all_goals
   refine cW Tryz.func129 rfl ?_;(conv=>whnf);refine bF hr (wR _) rfl (fun _=>rfl) hrc ?_;(conv=>whnf);refine⟨_,⟨rfl,zL _,rfl,bL rfl⟩,?_⟩;(conv=>whnf);exact bG rfl
 |ok t=>
  rw[hx] at hr hrc;replace hr:SC Tryz.prog 190 [.s s] [] (.val (.tup [t.ng,.i .i64 0])) []:=hr;replace hrc:Cl (.tup [t.ng,.i .i64 0]):=hrc;have hz:=EE hx;have h3:=XR I V hI hV t (by omega);have hcl:=t.ng_cl;obtain⟨k,kids,A,B,op,yes,hng⟩:=iN t;rw[hng] at hr hrc h3 hcl;simp only;cases k1:gU I with
  |false=>
   rw[k1] at h1;refine cW Tryz.func129 rfl ?_;(conv=>whnf);refine bF hr (wR _) rfl (fun _=>rfl) hrc ?_;(conv=>whnf);refine⟨_,⟨rfl,zL _,rfl,bL rfl⟩,?_⟩;(conv=>whnf);refine bF h1 (wR _) rfl (cC (bT (cR I)) .nil) (.b _) ?_;(conv=>whnf);exact bG rfl
  |true=>
   rw[k1] at h1;cases k2:gU V with
   |false=>
    rw[k2] at h2;refine cW Tryz.func129 rfl ?_;(conv=>whnf);refine bF hr (wR _) rfl (fun _=>rfl) hrc ?_;(conv=>whnf);refine⟨_,⟨rfl,zL _,rfl,bL rfl⟩,?_⟩;(conv=>whnf);refine bF h1 (wR _) rfl (cC (bT (cR I)) .nil) (.b _) ?_;(conv=>whnf);refine bF h2 (wR _) rfl (cC (bT (cR V)) .nil) (.b _) ?_;(conv=>whnf);exact bG rfl
   |true=>
    rw[k2] at h2;refine cW Tryz.func129 rfl ?_;(conv=>whnf);refine bF hr (wR _) rfl (fun _=>rfl) hrc ?_;(conv=>whnf);refine⟨_,⟨rfl,zL _,rfl,bL rfl⟩,?_⟩;(conv=>whnf);refine bF h1 (wR _) rfl (cC (bT (cR I)) .nil) (.b _) ?_;(conv=>whnf);refine bF h2 (wR _) rfl (cC (bT (cR V)) .nil) (.b _) ?_;(conv=>whnf);refine bF h3 (wR _) rfl (cC hcl (cC (bT (cR I)) (cC (bT (cR V)) .nil))) (.i _ _) ?_;(conv=>whnf);exact bG rfl
theorem L2 [MaxL] (s:By) (hs:s.length<1000000):SC Tryz.prog 128 [.s s] [] (.val (.b (r7 s))) []:=by
 have h:=a0Q s hs;rw[U3] at h;unfold r7;generalize yZ s=q at h;obtain⟨x,e⟩:=q;refine cW Tryz.func128 rfl ?_;conv=>whnf
 refine cP h ?_;conv=>whnf
 refine aF (fun h1=>?_) (fun h1=>?_)<;>conv=>whnf
 ·refine cQ ?_;have h2:e=0:=by simpa using h1
  rw[eX];simp[h2]
 ·refine cQ ?_;have h2:¬e=0:=by simpa using h1
  simp[h2]
theorem VD {n lo hi:Int} (h:decide (n<lo)=true):(!vD n lo hi)=true:=by unfold vD;rw[cM (by have:=aB h;omega)];rfl
theorem VC {n lo hi:Int} (h:decide (n>hi)=true):(!vD n lo hi)=true:=by unfold vD;rw[cM (p:=n<=hi) (by have:=aB h;omega),Bool.and_false];rfl
theorem VB {n lo hi:Int} (h1:decide (n<lo)=false) (h2:decide (n>hi)=false):(!vD n lo hi)=false:=by
 unfold vD;rw[bQ (by have:=aC h1;omega),bQ (by have:=aC h2;omega)];rfl
theorem WG (l:List By) (n:By):l.contains n=l.any fun x=>x==n:=by
 have h:=dG (fun x:By=>x) l n;rwa [List.map_id'] at h
theorem sQ {n:By}:(n==n)=true:=by simp
theorem a0P [MaxL] (s:Sch) (hl:s.ar.length<bH) (i:Nat) (y:Ar) (hy:s.ar[i]?=some y):SC Tryz.prog 54 [nG s,.i .i64 (i:Nat)] [] (.val (.i .i64 (mD ((dD s).take i) y))) []:=by
 generalize hX:mD ((dD s).take i) y=xe;unfold mD kX at hX;rw[a25,<-GA hy sQ] at hX;have hn:=AW y.name;refine cW Tryz.func54 rfl ?_;conv=>whnf
 refine ix (cU hy) ⟨rfl,?_⟩;conv=>whnf
 refine st ?_;conv=>whnf
 refine cP hn ?_;conv=>whnf
 refine aF (fun h=>?_) (fun h=>?_)<;>conv=>whnf
 ·exact bG ((aZ (by rw[h];rfl)).symm.trans hX)
 rw[h] at hX;refine aF (fun h=>?_) (fun h=>?_)<;>conv=>whnf
 ·exact bG ((aZ h).symm.trans hX)
 replace hX:=(bJ h).symm.trans hX;refine cP (zE s hl y.name) ?_;conv=>whnf
 refine aF (fun h=>?_) (fun h=>?_)<;>conv=>whnf
 ·exact bG ((aZ h).symm.trans hX)
 replace hX:=(bJ h).symm.trans hX;refine aF (fun h=>?_) (fun h=>?_)<;>conv=>whnf
 ·exact bG ((aZ (VD h)).symm.trans hX)
 refine aF (fun h2=>?_) (fun h2=>?_)<;>conv=>whnf
 ·exact bG ((aZ (VC h2)).symm.trans hX)
 exact bG ((bJ (VB h h2)).symm.trans hX)
set_option maxHeartbeats 8000000 in
theorem UP [MaxL] (s:Sch) (hz:lU s) (hc:∀r∈s.rc,r.check.length<1000000) (i:Nat) (y:Rc) (hy:s.rc[i]?=some y):SC Tryz.prog 55 [nG s,.i .i64 (i:Nat)] [] (.val (.i .i64 (y9 s i y))) []:=by
 obtain⟨⟨ha,hl,ht⟩,hr,hst⟩:=hz;obtain⟨y1,y2,y3⟩:=hr y (aN hy);have y4:=hc y (aN hy);generalize hX:y9 s i y=xe;unfold y9 KW kX at hX;rw[a24,<-GA hy sQ,<-nE,show(dD s).contains y.area=s.ar.any fun a=>a.name==y.area from dG _ _ _,<-nD] at hX;have hn:=AW y.name;refine dL PA mixed Tryz.func55 rfl (bL rfl) (by first|exact rL _|simp) rfl ?_;conv=>whnf
 refine ix (cU hy) ⟨rfl,?_⟩;conv=>whnf
 refine st ?_;conv=>whnf
 refine cP hn ?_;conv=>whnf
 refine aF (fun h=>?_) (fun h=>?_)<;>conv=>whnf
 ·exact bG ((aZ (by rw[h];rfl)).symm.trans hX)
 rw[h] at hX;refine aF (fun h=>?_) (fun h=>?_)<;>conv=>whnf
 ·exact bG ((aZ h).symm.trans hX)
 replace hX:=(bJ h).symm.trans hX;refine cP (zE s ha y.name) ?_;conv=>whnf
 refine aF (fun h=>?_) (fun h=>?_)<;>conv=>whnf
 ·exact bG ((aZ (by rw[show decide (0<=mC (fun x:Ar=>x.name==y.name) s.ar)=true from h];rfl)).symm.trans hX)
 rw[show decide (0<=mC (fun x:Ar=>x.name==y.name) s.ar)=false from h] at hX;refine cP (mE s hl y.name) ?_;conv=>whnf
 refine aF (fun h=>?_) (fun h=>?_)<;>conv=>whnf
 ·exact bG ((aZ h).symm.trans hX)
 replace hX:=(bJ h).symm.trans hX;refine cP (zE s ha y.area) ?_;conv=>whnf
 refine aF (fun h=>?_) (fun h=>?_)<;>conv=>whnf
 ·exact bG ((aZ h).symm.trans hX)
 replace hX:=(bJ h).symm.trans hX;refine cP (GI y.its y1) ?_;conv=>whnf
 refine aF (fun h=>?_) (fun h=>?_)<;>conv=>whnf
 ·exact bG ((aZ (by rw[show(!kO y.its)=true from h];rfl)).symm.trans hX)
 rw[show(!kO y.its)=false from h] at hX;refine aF (fun h=>?_) (fun h=>?_)<;>conv=>whnf
 ·exact bG ((aZ (VD h)).symm.trans hX)
 refine aF (fun h2=>?_) (fun h2=>?_)<;>conv=>whnf
 ·exact bG ((aZ (VC h2)).symm.trans hX)
 replace hX:=(bJ (VB h h2)).symm.trans hX;have badK:∀{e:Int},sZ y=e->e≠0->e=xe:=fun he h0=>by rw[he,oP h0] at hX;exact hX
 unfold bH at y2;refine aF (fun hp=>?_) (fun hp=>?_)<;>conv=>whnf
 focus
  have hK:sZ y=dZ (!vD y.keys.length 1 4) 11 (kR (J3 y) y.keys):=aG (by simpa using hp);refine aF (fun h=>?_) (fun h=>?_)<;>rw[aP] at h<;>conv=>whnf
  ·exact bG (badK (hK.trans (aZ (VD h))) (by decide))
  refine aF (fun h2=>?_) (fun h2=>?_)<;>rw[aP] at h2<;>conv=>whnf
  ·exact bG (badK (hK.trans (aZ (VC h2))) (by decide))
  replace hK:=hK.trans (bJ (VB h h2));refine dF 2 y.keys.length (fun k _=>∀j n,j<k->y.keys[j]?=some n->J3 y j n=0) (fun k _=>[(2,.ptr 0 0),(5,.ptr 1 0),(6,.i .i64 (k:Nat))]) (fun k (_:Unit)=>[.box 26 (nI s),.box 35 (X1 y)]) [] () (fun j n h=>absurd h (d8 j)) (fun k _ φ1 hk hok2=>?_);conv=>whnf
  refine aF (fun h=>?_) (fun h=>?_)<;>conv=>whnf
  ·have hlt2:k<y.keys.length:=by have:=aB h;rw[aP] at this;omega
   refine(j6 hlt2).elim fun n hn2=>?_;have badJ:∀{e:Int},J3 y k n=e->e≠0->e=xe:=fun he h0=>badK (hK.trans ((mR hn2 (by rw[he];exact h0) hok2).trans he)) h0;have hJ:J3 y k n=dZ (decide (mC (fun x:Itm=>x.name==n) y.its<0)) 5 (dZ (decide (mC (fun a:By=>a==n) y.keys<(k:Int))) 6 0):=by
    rw[GA (p:=fun a:By=>a==n) hn2 sQ,nD,<-WG];rfl
   refine bC (by kernel_rfl) ?_;(conv=>whnf);refine ix (cU hn2) ⟨rfl,?_⟩;(conv=>whnf);refine cP (vP y.its y1 n) ?_;(conv=>whnf);refine aF (fun h=>?_) (fun h=>?_)<;>conv=>whnf
   ·exact bG (badJ (hJ.trans (aZ h)) (by decide))
   replace hJ:=hJ.trans (bJ h);refine bC (by kernel_rfl) ?_;(conv=>whnf);refine ix (cU hn2) ⟨rfl,?_⟩;(conv=>whnf);refine cP (PZ y.keys (by unfold bH;omega) n) ?_;(conv=>whnf);refine aF (fun h=>?_) (fun h=>?_)<;>conv=>whnf
   ·exact bG (badJ (hJ.trans (aZ h)) (by decide))
   exact nx () hlt2 ⟨hlt2,kC hn2 (hJ.trans (bJ h)) hok2⟩
  have hK0:sZ y=0:=hK.trans (mQ fun j z hz=>hok2 j z (by have:=aC h;rw[aP] at this;have:=(List.getElem?_eq_some_iff.1 hz).1;omega) hz)
 rotate_left;focus
  have hK:sZ y=dZ (!y.keys.isEmpty||y.dups) 1 0:=aE (by simpa using hp);refine aF (fun h3=>?_) (fun h3=>?_)<;>conv=>whnf
  ·exact bG (badK (hK.trans (aZ (by have:((b5 y.keys).length:Int)>0:=aB h3;rw[aP] at this;cases hk:y.keys with|nil=>rw[hk] at this;exact absurd this (by decide)|cons a l=>rfl))) (by decide))
  have hke:y.keys.isEmpty=true:=by have:¬((b5 y.keys).length:Int)>0:=aC h3;rw[aP] at this;cases hk:y.keys with|nil=>rfl|cons a l=>rw[hk] at this;simp at this
  rw[hke] at hK;refine aF (fun h4=>?_) (fun h4=>?_)<;>conv=>whnf
  ·exact bG (badK (hK.trans (aZ h4)) (by decide))
  have hK0:sZ y=0:=hK.trans (bJ h4)
 all_goals
  rw[oO hK0] at hX;have badV:∀{e:Int},GE s y=e->e≠0->e=xe:=fun he h0=>by rw[he,oP h0] at hX;exact hX
  refine aF (fun hv=>?_) (fun hv=>?_)<;>conv=>whnf
  focus
   have hV:GE s y=dZ (match s.st.find? (·.name==y.via) with|none=>true|some t=>!(t.ms.any (·.of==y.name))) 5 0:=aG (by simpa using hv);have hset:=IM s ht y.via;refine(jT (fun t:Sy=>t.name==y.via) s.st).elim (fun⟨h5,h6,_⟩=>?_) (fun⟨j,t,h5,h6,h7,_⟩=>?_)
   ·refine cP hset ?_;(conv=>whnf);refine bC (by kernel_rfl) ?_;(conv=>whnf);refine gY (bQ h5) ?_;(conv=>whnf);exact bG (badV (e:=5) (by rw[hV,h6];rfl) (by decide))
   rw[h5] at hset;rw[h7] at hV;refine cP hset ?_;(conv=>whnf);refine bC (by kernel_rfl) ?_;(conv=>whnf);refine ix (cU h6) ⟨rfl,?_⟩;(conv=>whnf);refine cP (yD t (hst t (aN h6)).1 y.name) ?_;(conv=>whnf);refine aF (fun h8=>?_) (fun h8=>?_)<;>conv=>whnf
   ·exact bG (badV (hV.trans (aZ ((nD _ _).symm.trans h8))) (by decide))
   replace hV:=hV.trans (bJ ((nD _ _).symm.trans h8))
  rotate_left;focus
   have hV:GE s y=dZ (y.via !=[]) 1 0:=aE (by simpa using hv);refine aF (fun h4=>?_) (fun h4=>?_)<;>conv=>whnf
   ·exact bG (badV (hV.trans (aZ h4)) (by decide))
   replace hV:=hV.trans (bJ h4)
  all_goals
   rw[oO ‹GE s y=0›] at hX;refine aF (fun hc=>?_) (fun hc=>?_)<;>conv=>whnf
   rotate_left
   ·exact bG ((aG (by simpa using hc)).symm.trans hX)
   replace hX:=(aE (by simpa using hc)).symm.trans hX;refine cP (L2 y.check y4) ?_;(conv=>whnf);refine aF (fun h=>?_) (fun h=>?_)<;>conv=>whnf
   ·exact bG ((aZ h).symm.trans hX)
   replace hX:=(bJ h).symm.trans hX;refine cP (XV y.its [] y1 (by decide) y.check y4) ?_ (wC (cO _) (wC (cO _) (wC (bK _ _) (wR _))));(conv=>whnf);exact bG (by rw[YN];exact hX)
theorem J4 {l:List Itm} {n:By} (h:l.any (·.name==n)=true):∃(x:Nat) (y:Itm),mC (fun a:Itm=>a.name==n) l=x/\l[x]?=some y/\iC l n=y.k:=by
 rcases jT (fun x:Itm=>x.name==n) l with⟨_,_,h3⟩|⟨i,y,h1,h2,h3,_⟩
 ·rw[h3] at h;cases h
 ·exact⟨i,y,h1,h2,by unfold iC;rw[h3]⟩
set_option maxHeartbeats 8000000 in
theorem UW [MaxL] (s:Sch) (hz:lU s) (t:Sy) (htl:t.ms.length<bH) (k:Nat) (m:Mb) (hmk:t.ms[k]?=some m) (hml:m.sel.length<bH) (ho:t.owner≠[]->(gF s).contains t.owner=true) (hg:∀r∈s.rc,KE kO r):
  SC Tryz.prog 130 [nG s,xJ t,.i .i64 (k:Nat)] [] (.val (.i .i64 (sW s t k m))) []:=by
 obtain⟨⟨ha,hl,ht⟩,hr,hst⟩:=hz;unfold bH at hml;generalize hX:sW s t k m=xe;unfold sW at hX;rw[dG,<-GA hmk sQ] at hX;have hrr:=mE s hl m.of;refine dL PA mixed Tryz.func130 rfl (bL rfl) (by first|exact rL _|simp) rfl ?_;conv=>whnf
 refine ix (cU hmk) ⟨rfl,?_⟩;conv=>whnf
 refine st ?_;conv=>whnf
 cases hc:(gF s).contains m.of with
 |false=>
  have hno:mC (fun r:Rc=>r.name==m.of) s.rc<0:=by
   rcases jT (fun r:Rc=>r.name==m.of) s.rc with⟨h,_⟩|⟨_,_,_,_,_,h⟩
   ·exact h
   ·rw[show(gF s).contains m.of=s.rc.any fun r=>r.name==m.of from dG _ _ _,h] at hc;cases hc
  rw[hc] at hX;refine cP hrr ?_;conv=>whnf
  refine gY (bQ hno) ?_;conv=>whnf
  exact bG hX
 |true=>
 rw[hc] at hX;replace hX:=(bJ (w:=!true) rfl).symm.trans hX;obtain⟨ir,hr1,hr2⟩:=qN hc;obtain⟨r1,r2,_⟩:=hr _ (aN hr2);rw[hr1] at hrr;refine cP hrr ?_;conv=>whnf
 refine cP (yD t htl m.of) ?_;conv=>whnf
 refine aF (fun h=>?_) (fun h=>?_)<;>conv=>whnf
 ·exact bG ((aZ h).symm.trans hX)
 replace hX:=(bJ h).symm.trans hX;refine aF (fun h=>?_) (fun h=>?_)<;>conv=>whnf
 ·exact bG ((aZ (VD h)).symm.trans hX)
 refine aF (fun h2=>?_) (fun h2=>?_)<;>conv=>whnf
 ·exact bG ((aZ (VC h2)).symm.trans hX)
 replace hX:=(bJ (VB h h2)).symm.trans hX;clear h h2;refine aF (fun h=>?_) (fun h=>?_)<;>conv=>whnf
 ·exact bG ((aG (by simpa[b5] using h)).symm.trans hX)
 replace hX:=(aE (by simpa[b5] using h)).symm.trans hX;refine aF (fun h=>?_) (fun h=>?_)<;>conv=>whnf
 ·exact bG ((aZ h).symm.trans hX)
 replace hX:=(bJ h).symm.trans hX;obtain⟨io,ho1,ho2⟩:=qN (ho (by simpa using h));have hgo:=hg _ (aN ho2);obtain⟨o1,o2,_⟩:=hr _ (aN ho2);have hro:=mE s hl t.owner;rw[ho1] at hro;generalize i8 s t.owner=o at*;generalize i8 s m.of=r at*;refine GDraw.wildT [none,some 0,some 0,none,some 1,none,none,none,some 3,some 3] rfl rfl (by kernel_rfl) ?_;conv=>whnf
 refine cP hro ?_;conv=>whnf
 refine ix (cU ho2) ⟨rfl,?_⟩;conv=>whnf
 refine st ?_;conv=>whnf
 refine aF (fun h=>?_) (fun h=>?_)<;>conv=>whnf
 ·exact bG ((aZ (by rw[show(o.place !=2)=true from h];rfl)).symm.trans hX)
 have hp:(o.place !=2)=false:=h;rw[hp] at hX;refine aF (fun h=>?_) (fun h=>?_)<;>conv=>whnf
 ·exact bG ((aZ h).symm.trans hX)
 replace hX:=(bJ h).symm.trans hX;refine aF (fun h=>?_) (fun h=>?_)<;>conv=>whnf
 ·have h8:¬(m.sel.length:Int)=o.keys.length:=by simpa[b5] using h
  exact bG ((aZ (by simp;omega)).symm.trans hX)
 have hlk:m.sel.length=o.keys.length:=by
  have h8:(m.sel.length:Int)=o.keys.length:=by simpa[b5] using h
  omega
 replace hX:=(bJ (by rw[hlk];simp)).symm.trans hX;refine dF 4 m.sel.length (fun j _=>∀a n,a<j->m.sel[a]?=some n->HF o r a n=0) (fun j _=>[(3,.ptr 0 0),(4,.ptr 1 0),(7,.ptr 2 0),(8,.i .i64 (ir:Nat)),(9,.ptr 3 0),(10,.i .i64 (j:Nat))])
  (fun j (_:Unit)=>[.box 26 (nI s),.box 39 (PJ t),.box 46 (ZK m),.box 35 (X1 o)]) [] () (fun j n h=>absurd h (d8 j)) (fun j _ φ1 hj hok=>?_)
 conv=>whnf
 refine aF (fun h=>?_) (fun h=>?_)<;>conv=>whnf
 rotate_left
 ·exact bG ((mQ fun a z hz=>hok a z (by have:=aC h;rw[aP] at this;have:=(List.getElem?_eq_some_iff.1 hz).1;omega) hz).symm.trans hX)
 have hlt:j<m.sel.length:=by have:=aB h;rw[aP] at this;omega
 refine(j6 hlt).elim fun n hn=>?_;refine(j6 (show j<o.keys.length by omega)).elim fun n' hn'=>?_;have bad:∀{e:Int},HF o r j n=e->e≠0->e=xe:=fun he h0=>he.symm.trans ((mR hn (by rw[he];exact h0) hok).symm.trans hX);have hk':(o.keys[j]?).getD []=n':=by rw[hn'];rfl
 have hra:=vP r.its r1 n;refine bC (by kernel_rfl) ?_;conv=>whnf
 refine ix (cU hr2) ⟨rfl,?_⟩;conv=>whnf
 refine ix (cU hn) ⟨rfl,?_⟩;conv=>whnf
 refine(Bool.eq_false_or_eq_true (r.its.any (·.name==n))).elim (fun hc=>?_) (fun hc=>?_);rotate_left
 ·refine cP hra ?_;conv=>whnf
  refine gY (by rw[show decide (mC (fun a:Itm=>a.name==n) r.its<0)=!r.its.any fun a=>a.name==n from nD _ _,hc];rfl) ?_;conv=>whnf
  exact bG (bad (aZ (by rw[hc];rfl)) (by decide))
 refine(J4 hc).elim fun x hx=>hx.elim fun z hz=>?_;rw[hz.1] at hra;refine(J4 (hgo.2 (by simpa using hp) n' (aN hn'))).elim fun x' hx'=>hx'.elim fun z' hz'=>?_;have hoa:=vP o.its o1 n';rw[hz'.1] at hoa;refine cP hra ?_;conv=>whnf
 refine bC (by kernel_rfl) ?_;conv=>whnf
 refine ix (cU hr2) ⟨rfl,?_⟩;conv=>whnf
 refine ix (cU hz.2.1) ⟨rfl,?_⟩;conv=>whnf
 refine ix (cU hn') ⟨rfl,?_⟩;conv=>whnf
 refine cP hoa ?_;conv=>whnf
 refine ix (cU hz'.2.1) ⟨rfl,?_⟩;conv=>whnf
 have hJ:HF o r j n=dZ (iC r.its n !=iC o.its n') 10 0:=by rw[<-hk'];exact bJ (by rw[hc];rfl)
 rw[hz.2.2,hz'.2.2] at hJ;refine aF (fun h5=>?_) (fun h5=>?_)<;>conv=>whnf
 ·exact bG (bad (hJ.trans (aZ h5)) (by decide))
 exact nx () hlt ⟨hlt,kC hn (hJ.trans (bJ h5)) hok⟩
def a1D:List (Option Nat):=[none,some 0,some 0,none,some 1,none,none,none,none,none,none,none,some 2,some 2]
abbrev UM (s:Sch) (t:Sy):List GObj:=[.box 26 (nI s),.box 39 (PJ t)]
set_option maxHeartbeats 8000000 in
theorem UO [MaxL] (s:Sch) (hz:lU s) (t:Sy) (htl:t.ms.length<bH) (hkl:t.keys.length<bH) (hm:∀m∈t.ms,(gF s).contains m.of=true) (hg:∀r∈s.rc,KE kO r):
  SC Tryz.prog 131 [nG s,xJ t] [] (.val (.i .i64 (C1 s t))) []:=by
 obtain⟨⟨ha,hl,ht⟩,hr,hst⟩:=hz;unfold bH at htl hkl;generalize hX:C1 s t=xe;refine dL PA mixed Tryz.func131 rfl (bL rfl) (by first|exact rL _|simp) rfl ?_;conv=>whnf
 refine aF (fun h=>?_) (fun h=>?_)<;>rw[kN] at h<;>conv=>whnf
 ·exact bG ((aZ (VD h)).symm.trans hX)
 refine aF (fun h2=>?_) (fun h2=>?_)<;>rw[kN] at h2<;>conv=>whnf
 ·exact bG ((aZ (VC h2)).symm.trans hX)
 replace hX:=(bJ (VB h h2)).symm.trans hX;have badK:∀{e:Int},kR (lD s t) t.keys=e->e≠0->e=xe:=fun he h0=>(by rw[he,oP h0] at hX;exact hX);refine dF 2 t.keys.length (fun k _=>∀j y,j<k->t.keys[j]?=some y->lD s t j y=0) (fun k _=>[(2,.ptr 0 0),(3,.ptr 1 0),(5,.i .i64 (k:Nat))]) (fun k (_:Unit)=>UM s t) [] () (fun j n h=>absurd h (d8 j)) (fun k _ φ1 hk hok=>?_);conv=>whnf
 refine aF (fun h=>?_) (fun h=>?_)<;>conv=>whnf
 rotate_left
 ·have h0:kR (lD s t) t.keys=0:=mQ fun j z hz=>hok j z (by have:=aC h;rw[kN] at this;have:=(List.getElem?_eq_some_iff.1 hz).1;omega) hz;rw[oO h0] at hX;refine aF (fun h=>?_) (fun h=>?_)<;>conv=>whnf
  ·exact bG ((aZ (VD h)).symm.trans hX)
  refine aF (fun h2=>?_) (fun h2=>?_)<;>conv=>whnf
  ·exact bG ((aZ (VC h2)).symm.trans hX)
  exact bG ((bJ (VB h h2)).symm.trans hX)
 have hlt:k<t.keys.length:=by have:=aB h;rw[kN] at this;omega
 refine(j6 hlt).elim fun y hy=>?_;have bad:∀{e:Int},lD s t k y=e->e≠0->e=xe:=fun he h0=>badK ((mR hy (by rw[he];exact h0) hok).trans he) h0;refine dF 2 t.ms.length (fun j _=>∀m∈t.ms.take j,(i8 s m.of).its.any (·.name==y.item)=true) (fun j _=>[(2,.ptr 0 0),(3,.ptr 1 0),(5,.i .i64 (k:Nat)),(6,.i .i64 0),(7,.i .i64 (j:Nat))])
  (fun j (_:Unit)=>UM s t) [] () (fun m h=>by simp at h) (fun j _ φ2 hj hall=>?_)
 conv=>whnf
 refine aF (fun h=>?_) (fun h=>?_)<;>conv=>whnf
 ·have hlt2:j<t.ms.length:=by have:=aB h;rw[iV] at this;omega
  refine(j6 hlt2).elim fun m hm2=>?_;refine(qN (hm m (aN hm2))).elim fun ir hir=>?_;have hrr:=mE s hl m.of;rw[hir.1] at hrr;refine GDraw.wildT a1D rfl rfl (by kernel_rfl) ?_;conv=>whnf
  refine ix (cU hm2) ⟨rfl,?_⟩;conv=>whnf
  refine cP hrr ?_;conv=>whnf
  refine ix (cU hir.2) ⟨rfl,?_⟩;conv=>whnf
  refine st ?_;conv=>whnf
  refine bC (by kernel_rfl) ?_;conv=>whnf
  refine ix (cU hy) ⟨rfl,?_⟩;conv=>whnf
  refine cP (vP _ (hr _ (aN hir.2)).1 y.item) ?_;conv=>whnf
  refine aF (fun h4=>?_) (fun h4=>?_)<;>rw[nD] at h4<;>conv=>whnf
  ·exact bG (bad (aZ (by rw[mT hm2 (SD h4)];rfl)) (by decide))
  exact nx () hlt2 ⟨hlt2,rZ hm2 (by simpa using h4) hall⟩
 have hall':=r8 (p:=fun m:Mb=>(i8 s m.of).its.any (·.name==y.item)) (by have:=aC h;rw[iV] at this;omega) hall;have hp1:lD s t k y=dZ (!(t.ms.all fun m=>iC (i8 s m.of).its y.item==iC (i8 s ((t.ms.head?.map (·.of)).getD [])).its y.item)) 10 (dZ (((t.keys.take k).map (·.item)).contains y.item) 6 0):=bJ (by rw[hall'];rfl);have hd:∀m,t.ms[0]?=some m->iC (i8 s m.of).its y.item=iC (i8 s ((t.ms.head?.map (·.of)).getD [])).its y.item:=fun m hm9=>by
  cases hms:t.ms with
  |nil=>rw[hms] at hm9;cases hm9
  |cons x l=>rw[hms] at hm9;cases hm9;rfl
 generalize iC (i8 s ((t.ms.head?.map (·.of)).getD [])).its y.item=F at*;refine dF 2 t.ms.length (fun j (b:Int)=>(∀m∈t.ms.take j,(iC (i8 s m.of).its y.item==F)=true)/\b=if j=0 then 0 else F) (fun j (b:Int)=>[(2,.ptr 0 0),(3,.ptr 1 0),(5,.i .i64 (k:Nat)),(6,.i .i64 b),(9,.i .i64 (j:Nat))])
  (fun j _=>UM s t) [] 0 ⟨fun m h=>by simp at h,rfl⟩ (fun j b φ2 hj hb=>?_)
 refine hb.elim fun hall2 hb=>?_;conv=>whnf
 refine aF (fun h=>?_) (fun h=>?_)<;>conv=>whnf
 ·have hlt2:j<t.ms.length:=by have:=aB h;rw[iV] at this;omega
  refine(j6 hlt2).elim fun m hm2=>?_;refine(qN (hm m (aN hm2))).elim fun ir hir=>?_;have hrr:=mE s hl m.of;rw[hir.1] at hrr;have hia:=List.all_eq_true.1 hall' m (aN hm2);refine(J4 hia).elim fun x hx=>hx.elim fun z hz=>?_;have hra:=vP _ (hr _ (aN hir.2)).1 y.item;rw[hz.1] at hra;refine GDraw.wildT a1D rfl rfl (by kernel_rfl) ?_;conv=>whnf
  refine ix (cU hm2) ⟨rfl,?_⟩;conv=>whnf
  refine cP hrr ?_;conv=>whnf
  refine ix (cU hir.2) ⟨rfl,?_⟩;conv=>whnf
  refine st ?_;conv=>whnf
  refine bC (by kernel_rfl) ?_;conv=>whnf
  refine ix (cU hy) ⟨rfl,?_⟩;conv=>whnf
  refine cP hra ?_;conv=>whnf
  refine ix (cU hz.2.1) ⟨rfl,?_⟩;conv=>whnf
  refine aF (fun h4=>?_) (fun h4=>?_)<;>conv=>whnf
  ·have hj0:j=0:=by simpa using h4
   have h6:(iC (i8 s m.of).its y.item==F)=true:=by rw[hd m (by rw[<-hj0];exact hm2)];simp
   refine gN (show(z.k !=z.k)=false by simp) ?_;(conv=>whnf);exact nx z.k hlt2 ⟨hlt2,rZ hm2 h6 hall2,by rw[aE (Nat.succ_ne_zero _),<-hz.2.2];exact eq_of_beq h6⟩
  ·have hj0:j≠0:=by simpa using h4
   rw[aE hj0] at hb;refine aF (fun h5=>?_) (fun h5=>?_)<;>conv=>whnf
   ·exact bG (bad (hp1.trans (aZ (by rw[mT hm2 (by rw[hz.2.2,<-hb];simpa using h5)];rfl))) (by decide))
   have h6:(iC (i8 s m.of).its y.item==F)=true:=by rw[hz.2.2,<-hb];simpa using h5
   exact nx b hlt2 ⟨hlt2,rZ hm2 h6 hall2,by rw[aE (Nat.succ_ne_zero _)];exact hb⟩
 have hp2:=hp1.trans (bJ (by rw[r8 (by have:=aC h;rw[iV] at this;omega) hall2];rfl));rw[dG] at hp2;refine dF 2 k (fun j _=>∀z∈t.keys.take j,(z.item==y.item)=false) (fun j _=>[(2,.ptr 0 0),(3,.ptr 1 0),(5,.i .i64 (k:Nat)),(12,.i .i64 (j:Nat))])
  (fun j (_:Unit)=>UM s t) [] () (fun m h=>by simp at h) (fun j _ φ2 hj hno=>?_)
 conv=>whnf
 refine aF (fun h=>?_) (fun h=>?_)<;>conv=>whnf
 ·have hlt2:j<k:=by have:=aB h;omega
  refine(j6 (show j<t.keys.length by omega)).elim fun z hz=>?_;refine bC (by kernel_rfl) ?_;conv=>whnf
  refine ix (cU hz) ⟨rfl,?_⟩;conv=>whnf
  refine ix (cU hy) ⟨rfl,?_⟩;conv=>whnf
  refine aF (fun h4=>?_) (fun h4=>?_)<;>conv=>whnf
  ·exact bG (bad (hp2.trans (aZ (List.any_eq_true.2 ⟨z,List.mem_take_iff_getElem.2 ⟨j,by have:=(List.getElem?_eq_some_iff.1 hz).1;omega,(List.getElem?_eq_some_iff.1 hz).2⟩,h4⟩))) (by decide))
  exact nx () hlt2 ⟨hlt2,BX (p:=fun z:Ky=>z.item==y.item) hz h4 hno⟩
 have hjk:j=k:=by have:=aC h;omega
 subst hjk;exact nx () hlt ⟨hlt,kC hy (hp2.trans (bJ (List.any_eq_false.2 fun z hz=>by rw[hno z hz];decide))) hok⟩
