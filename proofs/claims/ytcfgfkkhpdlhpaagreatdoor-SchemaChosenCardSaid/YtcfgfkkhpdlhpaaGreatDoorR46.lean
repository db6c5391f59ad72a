/-
  A part of the proof of SchemaChosen.
-/
import Derived.Test.YtcfgfkkhpdlhpaaGreatDoorR45
set_option linter.all false
set_option maxRecDepth 100000
namespace Go.Proofs.YtcfgfkkhpdlhpaaGreatDoor
open Go.RowKit
theorem a0r [MaxL] (I V:List Itm) (hI:I.length<bB) (hV:V.length<bB) (t:Term):SC Tryz.prog 233 [.agg (UR t),.sl .none (eZ I),.sl .none (eZ V)] [] (.val (.i .i64 (iK I V t))) []:=by
 obtain⟨nm,vr,v⟩:=t;have hI':=a1r I hI nm;have hV':=a1r V hV nm;unfold iK;by_cases hn:nm=[]
 ·subst hn;rw[aG rfl];cases vr with
  |true=>
   refine cX Tryz.func233 rfl ?_;(conv=>whnf);exact bA rfl
  |false=>
   refine cX Tryz.func233 rfl ?_;(conv=>whnf);exact bA rfl
 ·rw[aD hn];cases vr with
  |true=>
   rcases A3 V nm with⟨h1,h2⟩|⟨j,y,h1,h2,h3⟩
   ·rw[h1] at hV';simp only[fK,h2];refine cX Tryz.func233 rfl ?_;(conv=>whnf);refine aF (fun hz=>?_) (fun hz=>?_)<;>conv=>whnf
    rotate_left
    ·exact absurd (by simpa using hz) hn
    refine bD hV' (wR _) rfl (cC (bS (cQ V)) (cC (.s _) .nil)) (.i _ _) ?_;(conv=>whnf);exact bA rfl
   ·rw[h1] at hV';simp only[fK,h3];refine cX Tryz.func233 rfl ?_;(conv=>whnf);refine aF (fun hz=>?_) (fun hz=>?_)<;>conv=>whnf
    rotate_left
    ·exact absurd (by simpa using hz) hn
    refine bD hV' (wR _) rfl (cC (bS (cQ V)) (cC (.s _) .nil)) (.i _ _) ?_;(conv=>whnf);refine⟨cN _,_,by rw[aA];exact lU h2,rfl,?_⟩;(conv=>whnf);exact bA rfl
  |false=>
   rcases A3 I nm with⟨h1,h2⟩|⟨j,y,h1,h2,h3⟩
   ·rw[h1] at hI';simp only[bT,fM,h2];refine cX Tryz.func233 rfl ?_;(conv=>whnf);refine aF (fun hz=>?_) (fun hz=>?_)<;>conv=>whnf
    rotate_left
    ·exact absurd (by simpa using hz) hn
    refine bD hI' (wR _) rfl (cC (bS (cQ I)) (cC (.s _) .nil)) (.i _ _) ?_;(conv=>whnf);exact bA rfl
   ·rw[h1] at hI';simp only[bT,fM,h3];refine cX Tryz.func233 rfl ?_;(conv=>whnf);refine aF (fun hz=>?_) (fun hz=>?_)<;>conv=>whnf
    rotate_left
    ·exact absurd (by simpa using hz) hn
    refine bD hI' (wR _) rfl (cC (bS (cQ I)) (cC (.s _) .nil)) (.i _ _) ?_;(conv=>whnf);refine⟨cN _,_,by rw[aA];exact lU h2,rfl,?_⟩;(conv=>whnf);exact bA rfl
theorem U3 [MaxL] {j:Nat} (h:j<100000):GV.i .i64 (IntKind.i64.wrap (((2*j:Nat):Int)+2))=.i .i64 ((2*(j+1):Nat):Int):=by
 rw[bU (by omega) (by omega)];congr 1
theorem O2 {L:List Term} {i:Nat} {y:Term} (h:L[i]?=some y):(xR L)[i]?=some (.agg (UR y)):=by
 unfold xR;rw[aM,h];rfl
theorem MA (t:Tree):(dA t).length=2*(lQ t).length:=by
 rw[o9];induction lQ t with
 |nil=>rfl
 |cons p l ih=>simp only[f9,aE,aJ,b4];omega
theorem N4:∀(l:List (Term×Term)) (j:Nat) (p:Term×Term),l[j]?=some p->(l.flatMap fun p=>[p.1,p.2])[2*j]?=some p.1/\(l.flatMap fun p=>[p.1,p.2])[2*j+1]?=some p.2
 |[],j,p,h=>by simp at h
 |q::l,0,p,h=>by
  simp at h;subst h;simp
 |q::l,j+1,p,h=>by
  have:=N4 l j p (by simpa using h);rw[show 2*(j+1)=2*j+1+1 by omega];simpa using this
theorem T0 {t:Tree} {j:Nat} {p:Term×Term} (h:(lQ t)[j]?=some p):(dA t)[2*j]?=some p.1/\(dA t)[2*j+1]?=some p.2:=by
 rw[o9];exact N4 _ _ _ h
theorem AR {α:Type} {f:α->Bool} {l:List α} {i:Nat} {y:α} (h:(l.take i).any f=false) (hy:l[i]?=some y):(l.take (i+1)).any f=f y:=by
 rw[bR,hy,List.any_append,h];simp
theorem RQ {α:Type} {f:α->Bool} {l:List α} {i:Nat} {y:α} (hy:l[i]?=some y) (h:f y=true):l.any f=true:=List.any_eq_true.2 ⟨y,aL hy,h⟩
theorem YI [MaxL] (I V:List Itm) (hI:I.length<bB) (hV:V.length<bB) (t:Tree) (hz:t.size<=5000):SC Tryz.prog 191 [t.ng,.sl .none (eZ I),.sl .none (eZ V)] [] (.val (.i .i64 (rE I V t))) []:=by
 have hsd:=J4 5000 t hz hz;have hll:=oA t;have hl2:=MA t;have hat:=fun j p=>@T0 t j p;have hk:=a0r I V hI hV;have hcl:=t.ng_cl;obtain⟨k,kids,A,B,op,yes,hng⟩:=iI t;rw[hng] at hsd hcl⊢;have hncl:ClL (jU k kids A B op yes):=by
  have h9:t.ncs=jU k kids A B op yes:=by
   have h8:GV.agg t.ncs=GV.agg (jU k kids A B op yes):=hng;injection h8
  rw[<-h9];exact t.ncs_cl
 unfold rE;generalize dA t=L at*;generalize lQ t=T at*;have hsl:=lR L;refine cX Tryz.func191 rfl ?_;conv=>whnf
 refine bD hsd (wR _) rfl (cC hcl .nil) (bS (vQ _)) ?_;conv=>whnf
 have hLm:L.length<=10000:=by omega
 refine eS (fun i:Nat=>i<=L.length/\(L.take i).any (fun x=>iK I V x==0)=false) (fun i=>[(1,.sl .none (eZ I)),(2,.sl .none (eZ V)),(7,.sl .none (xR L)),(8,.i .i64 (i:Nat))])
  (fun _=>⟨[.box 211 (jU k kids A B op yes)],0,[]⟩) (fun i=>L.length - i) 0 ⟨zL _,rfl⟩ ⟨rfl,rfl,rfl,rfl,trivial⟩ rfl (fun _ _=>rL _) (fun _ _=>rfl) (fun i _ e he=>?_) (fun i φ0 hi=>?_)
 ·refine⟨?_,rfl,?_⟩
  ·show[(GObj.box _ (jU k kids A B op yes)).ren e]=_;rw[eT hncl]
  ·show[(GV.sl .none (eZ I)).ren e,(GV.sl .none (eZ V)).ren e,(GV.sl .none (xR L)).ren e,_]=_;rw[bS (cQ I) e,bS (cQ V) e,bS (vQ L) e];rfl
 obtain⟨hi,hni⟩:=hi;conv=>whnf
 refine aF (fun h=>?_) (fun h=>?_)<;>conv=>whnf
 rotate_left
 ·have hie:i=L.length:=by have:=aC h;rw[hsl] at this;omega
  have hn0:L.any (fun x=>iK I V x==0)=false:=by rw[hie,b5] at hni;exact hni
  rw[hn0];simp only[bT,fM];conv=>whnf
  refine eS (fun j:Nat=>j<=T.length/\(T.take j).any (fun p=>iK I V p.1 !=iK I V p.2)=false) (fun j=>[(1,.sl .none (eZ I)),(2,.sl .none (eZ V)),(7,.sl .none (xR L)),(9,.i .i64 ((2*j:Nat):Int))])
   (fun _=>⟨[.box 211 (jU k kids A B op yes)],0,[]⟩) (fun i=>T.length - i) 0 ⟨zL _,rfl⟩ ⟨rfl,rfl,rfl,rfl,trivial⟩ rfl (fun _ _=>rL _) (fun _ _=>rfl) (fun i _ e he=>?_) (fun j φ0 hj=>?_)
  ·refine⟨?_,rfl,?_⟩
   ·show[(GObj.box _ (jU k kids A B op yes)).ren e]=_;rw[eT hncl]
   ·show[(GV.sl .none (eZ I)).ren e,(GV.sl .none (eZ V)).ren e,(GV.sl .none (xR L)).ren e,_]=_;rw[bS (cQ I) e,bS (cQ V) e,bS (vQ L) e];rfl
  obtain⟨hj,hnj⟩:=hj;conv=>whnf
  refine aF (fun h2=>?_) (fun h2=>?_)<;>conv=>whnf
  rotate_left
  ·have hje:j=T.length:=by have:=aC h2;rw[hsl] at this;omega
   refine bA ?_;rw[hje,b5] at hnj;rw[hnj];rfl
  have hlt:j<T.length:=by have:=aB h2;rw[hsl] at this;omega
  obtain⟨p,hp⟩:∃y,T[j]?=some y:=⟨T[j],gL hlt⟩;obtain⟨hp1,hp2⟩:=hat j p hp;have hys:=AR hnj hp;have hk1:=hk p.1;have hk2:=hk p.2;refine b6 (by kernel_rfl) ?_;conv=>whnf
  refine⟨cN _,_,by rw[aA];exact O2 hp1,rfl,?_⟩;conv=>whnf
  refine bD hk1 (wR _) rfl (cC (eL (B4 p.1)) (cC (bS (cQ I)) (cC (bS (cQ V)) .nil))) (.i _ _) ?_;conv=>whnf
  have hw1:IntKind.i64.wrap (((2*j:Nat):Int)+1)=((2*j+1:Nat):Int):=bU (by omega) (by omega);refine⟨by rw[hw1];exact cN _,.agg (UR p.2),by rw[hw1,aA];exact O2 hp2,rfl,?_⟩;conv=>whnf
  refine bD hk2 (wR _) rfl (cC (eL (B4 p.2)) (cC (bS (cQ I)) (cC (bS (cQ V)) .nil))) (.i _ _) ?_;conv=>whnf
  refine aF (fun h3=>?_) (fun h3=>?_)<;>conv=>whnf
  ·have h3':¬iK I V p.1=iK I V p.2:=by simpa using h3
   refine bA ?_;rw[RQ (f:=fun p=>iK I V p.1 !=iK I V p.2) hp (by simpa using h3')];rfl
  ·have h3':iK I V p.1=iK I V p.2:=by simpa using h3
   exact⟨T.length - (j+1),(by show _<T.length - j;omega),j+1,⟨hlt,by rw[hys];simpa using h3'⟩,rfl,⟨rfl,rfl,rfl,U3 (by omega),trivial⟩,_,rfl,rfl⟩
 have hlt:i<L.length:=by have:=aB h;rw[hsl] at this;omega
 obtain⟨y,hy⟩:∃y,L[i]?=some y:=⟨L[i],gL hlt⟩;have hky:=hk y;have hat':=O2 hy;have hys:=AR hni hy;refine⟨cN _,_,by rw[aA];exact hat',rfl,?_⟩;conv=>whnf
 refine bD hky (wR _) rfl (cC (eL (B4 y)) (cC (bS (cQ I)) (cC (bS (cQ V)) .nil))) (.i _ _) ?_;conv=>whnf
 refine aF (fun h0=>?_) (fun h0=>?_)<;>conv=>whnf
 ·have h0':iK I V y=0:=by simpa using h0
  refine bA ?_;rw[RQ hy (by rw[h0'];rfl)];rfl
 ·have h0':¬iK I V y=0:=by simpa using h0
  exact⟨L.length - (i+1),(by show _<L.length - i;omega),i+1,⟨hlt,by rw[hys];simpa using h0'⟩,rfl,⟨rfl,rfl,rfl,b7 (by omega),trivial⟩,_,rfl,rfl⟩
def ZJ (I V:List Itm) (s:By):Int:=match l7 s with
 |.ok t=>if gM I&&gM V then rE I V t else 1
 |.err e=>e
theorem ZI (I V:List Itm) (s:By):ZJ I V s=DD I V s:=by
 unfold ZJ DD;have hr:=zI s;cases hx:l7 s with
 |err e=>rw[hx] at hr;rw[hr]
 |ok t=>
  rw[hx] at hr;rw[hr];simp only;rw[PM]
theorem YR [MaxL] (I V:List Itm) (hI:I.length<bB) (hV:V.length<bB) (s:By) (hs:s.length<1000000):SC Tryz.prog 129 [.s s,.sl .none (eZ I),.sl .none (eZ V)] [] (.val (.i .i64 (ZJ I V s))) []:=by
 have hr:=OH s hs;have hrc:=B8 s;unfold l4 at hr hrc;unfold ZJ;have h1:=EX I hI;have h2:=EX V hV;cases hx:l7 s with
 |err e=>
  rw[hx] at hr hrc;replace hr:SC Tryz.prog 190 [.s s] [] (.val (.tup [t6,.i .i64 e])) []:=hr;replace hrc:Cl (.tup [t6,.i .i64 e]):=hrc;have he:=B7 hx;simp only;rcases he with rfl|rfl|rfl;all_goals
   refine cX Tryz.func129 rfl ?_;(conv=>whnf);refine bD hr (wR _) rfl (fun _=>rfl) hrc ?_;(conv=>whnf);refine⟨_,⟨rfl,zL _,rfl,bL rfl⟩,?_⟩;(conv=>whnf);exact bA rfl
 |ok t=>
  rw[hx] at hr hrc;replace hr:SC Tryz.prog 190 [.s s] [] (.val (.tup [t.ng,.i .i64 0])) []:=hr;replace hrc:Cl (.tup [t.ng,.i .i64 0]):=hrc;have hz:=ET hx;have h3:=YI I V hI hV t (by omega);have hcl:=t.ng_cl;obtain⟨k,kids,A,B,op,yes,hng⟩:=iI t;rw[hng] at hr hrc h3 hcl;simp only;cases k1:gM I with
  |false=>
   rw[k1] at h1;refine cX Tryz.func129 rfl ?_;(conv=>whnf);refine bD hr (wR _) rfl (fun _=>rfl) hrc ?_;(conv=>whnf);refine⟨_,⟨rfl,zL _,rfl,bL rfl⟩,?_⟩;(conv=>whnf);refine bD h1 (wR _) rfl (cC (bS (cQ I)) .nil) (.b _) ?_;(conv=>whnf);exact bA rfl
  |true=>
   rw[k1] at h1;cases k2:gM V with
   |false=>
    rw[k2] at h2;refine cX Tryz.func129 rfl ?_;(conv=>whnf);refine bD hr (wR _) rfl (fun _=>rfl) hrc ?_;(conv=>whnf);refine⟨_,⟨rfl,zL _,rfl,bL rfl⟩,?_⟩;(conv=>whnf);refine bD h1 (wR _) rfl (cC (bS (cQ I)) .nil) (.b _) ?_;(conv=>whnf);refine bD h2 (wR _) rfl (cC (bS (cQ V)) .nil) (.b _) ?_;(conv=>whnf);exact bA rfl
   |true=>
    rw[k2] at h2;refine cX Tryz.func129 rfl ?_;(conv=>whnf);refine bD hr (wR _) rfl (fun _=>rfl) hrc ?_;(conv=>whnf);refine⟨_,⟨rfl,zL _,rfl,bL rfl⟩,?_⟩;(conv=>whnf);refine bD h1 (wR _) rfl (cC (bS (cQ I)) .nil) (.b _) ?_;(conv=>whnf);refine bD h2 (wR _) rfl (cC (bS (cQ V)) .nil) (.b _) ?_;(conv=>whnf);refine bD h3 (wR _) rfl (cC hcl (cC (bS (cQ I)) (cC (bS (cQ V)) .nil))) (.i _ _) ?_;(conv=>whnf);exact bA rfl
theorem LM [MaxL] (s:By) (hs:s.length<1000000):SC Tryz.prog 128 [.s s] [] (.val (.b (rF s))) []:=by
 have h:=a0u s hs;rw[UM] at h;unfold rF;generalize zB s=q at h;obtain⟨x,e⟩:=q;refine cX Tryz.func128 rfl ?_;conv=>whnf
 refine cP h ?_;conv=>whnf
 refine aF (fun h1=>?_) (fun h1=>?_)<;>conv=>whnf
 ·refine bX ?_;have h2:e=0:=by simpa using h1
  rw[eJ];simp[h2]
 ·refine bX ?_;have h2:¬e=0:=by simpa using h1
  simp[h2]
theorem VZ {n lo hi:Int} (h:decide (n<lo)=true):(!uR n lo hi)=true:=by unfold uR;rw[cE (by have:=aB h;omega)];rfl
theorem VY {n lo hi:Int} (h:decide (n>hi)=true):(!uR n lo hi)=true:=by unfold uR;rw[cE (p:=n<=hi) (by have:=aB h;omega),Bool.and_false];rfl
theorem VX {n lo hi:Int} (h1:decide (n<lo)=false) (h2:decide (n>hi)=false):(!uR n lo hi)=false:=by
 unfold uR;rw[bM (by have:=aC h1;omega),bM (by have:=aC h2;omega)];rfl
theorem X0 (l:List By) (n:By):l.contains n=l.any fun x=>x==n:=by
 have h:=eK (fun x:By=>x) l n;rwa [List.map_id'] at h
theorem sW {n:By}:(n==n)=true:=by simp
theorem a0t [MaxL] (s:Sch) (hl:s.ar.length<bB) (i:Nat) (y:Ar) (hy:s.ar[i]?=some y):SC Tryz.prog 54 [nZ s,.i .i64 (i:Nat)] [] (.val (.i .i64 (mE ((dE s).take i) y))) []:=by
 generalize hX:mE ((dE s).take i) y=xe;unfold mE kF at hX;rw[a2g,<-GQ hy sW] at hX;have hn:=BB y.name;refine cX Tryz.func54 rfl ?_;conv=>whnf
 refine ix (cM hy) ⟨rfl,?_⟩;conv=>whnf
 refine st ?_;conv=>whnf
 refine cP hn ?_;conv=>whnf
 refine aF (fun h=>?_) (fun h=>?_)<;>conv=>whnf
 ·exact bA ((aZ (by rw[h];rfl)).symm.trans hX)
 rw[h] at hX;refine aF (fun h=>?_) (fun h=>?_)<;>conv=>whnf
 ·exact bA ((aZ h).symm.trans hX)
 replace hX:=(bK h).symm.trans hX;refine cP (zM s hl y.name) ?_;conv=>whnf
 refine aF (fun h=>?_) (fun h=>?_)<;>conv=>whnf
 ·exact bA ((aZ h).symm.trans hX)
 replace hX:=(bK h).symm.trans hX;refine aF (fun h=>?_) (fun h=>?_)<;>conv=>whnf
 ·exact bA ((aZ (VZ h)).symm.trans hX)
 refine aF (fun h2=>?_) (fun h2=>?_)<;>conv=>whnf
 ·exact bA ((aZ (VY h2)).symm.trans hX)
 exact bA ((bK (VX h h2)).symm.trans hX)
set_option maxHeartbeats 8000000 in
theorem V9 [MaxL] (s:Sch) (hz:mK s) (hc:∀r∈s.rc,r.check.length<1000000) (i:Nat) (y:Rc) (hy:s.rc[i]?=some y):SC Tryz.prog 55 [nZ s,.i .i64 (i:Nat)] [] (.val (.i .i64 (yE s i y))) []:=by
 obtain⟨⟨ha,hl,ht⟩,hr,hst⟩:=hz;obtain⟨y1,y2,y3⟩:=hr y (aL hy);have y4:=hc y (aL hy);generalize hX:yE s i y=xe;unfold yE H0 kF at hX;rw[a2f,<-GQ hy sW,<-pP,show(dE s).contains y.area=s.ar.any fun a=>a.name==y.area from eK _ _ _,<-nD] at hX;have hn:=BB y.name;refine cR xN mixed Tryz.func55 rfl (bL rfl) (by first|exact rL _|simp) rfl ?_;conv=>whnf
 refine ix (cM hy) ⟨rfl,?_⟩;conv=>whnf
 refine st ?_;conv=>whnf
 refine cP hn ?_;conv=>whnf
 refine aF (fun h=>?_) (fun h=>?_)<;>conv=>whnf
 ·exact bA ((aZ (by rw[h];rfl)).symm.trans hX)
 rw[h] at hX;refine aF (fun h=>?_) (fun h=>?_)<;>conv=>whnf
 ·exact bA ((aZ h).symm.trans hX)
 replace hX:=(bK h).symm.trans hX;refine cP (zM s ha y.name) ?_;conv=>whnf
 refine aF (fun h=>?_) (fun h=>?_)<;>conv=>whnf
 ·exact bA ((aZ (by rw[show decide (0<=lW (fun x:Ar=>x.name==y.name) s.ar)=true from h];rfl)).symm.trans hX)
 rw[show decide (0<=lW (fun x:Ar=>x.name==y.name) s.ar)=false from h] at hX;refine cP (lI s hl y.name) ?_;conv=>whnf
 refine aF (fun h=>?_) (fun h=>?_)<;>conv=>whnf
 ·exact bA ((aZ h).symm.trans hX)
 replace hX:=(bK h).symm.trans hX;refine cP (zM s ha y.area) ?_;conv=>whnf
 refine aF (fun h=>?_) (fun h=>?_)<;>conv=>whnf
 ·exact bA ((aZ h).symm.trans hX)
 replace hX:=(bK h).symm.trans hX;refine cP (xS y.its y1) ?_;conv=>whnf
 refine aF (fun h=>?_) (fun h=>?_)<;>conv=>whnf
 ·exact bA ((aZ (by rw[show(!kO y.its)=true from h];rfl)).symm.trans hX)
 rw[show(!kO y.its)=false from h] at hX;refine aF (fun h=>?_) (fun h=>?_)<;>conv=>whnf
 ·exact bA ((aZ (VZ h)).symm.trans hX)
 refine aF (fun h2=>?_) (fun h2=>?_)<;>conv=>whnf
 ·exact bA ((aZ (VY h2)).symm.trans hX)
 replace hX:=(bK (VX h h2)).symm.trans hX;have badK:∀{e:Int},rT y=e->e≠0->e=xe:=fun he h0=>by rw[he,oN h0] at hX;exact hX
 unfold bB at y2;refine aF (fun hp=>?_) (fun hp=>?_)<;>conv=>whnf
 focus
  have hK:rT y=dW (!uR y.keys.length 1 4) 11 (kR (JO y) y.keys):=aG (by simpa using hp);refine aF (fun h=>?_) (fun h=>?_)<;>rw[aP] at h<;>conv=>whnf
  ·exact bA (badK (hK.trans (aZ (VZ h))) (by decide))
  refine aF (fun h2=>?_) (fun h2=>?_)<;>rw[aP] at h2<;>conv=>whnf
  ·exact bA (badK (hK.trans (aZ (VY h2))) (by decide))
  replace hK:=hK.trans (bK (VX h h2));refine dB 2 y.keys.length (fun k _=>∀j n,j<k->y.keys[j]?=some n->JO y j n=0) (fun k _=>[(2,.ptr 0 0),(5,.ptr 1 0),(6,.i .i64 (k:Nat))]) (fun k (_:Unit)=>[.box 26 (uG s),.box 35 (XP y)]) [] () (fun j n h=>absurd h (dG j)) (fun k _ φ1 hk hok2=>?_);conv=>whnf
  refine aF (fun h=>?_) (fun h=>?_)<;>conv=>whnf
  ·have hlt2:k<y.keys.length:=by have:=aB h;rw[aP] at this;omega
   refine(j0 hlt2).elim fun n hn2=>?_;have badJ:∀{e:Int},JO y k n=e->e≠0->e=xe:=fun he h0=>badK (hK.trans ((mU hn2 (by rw[he];exact h0) hok2).trans he)) h0;have hJ:JO y k n=dW (decide (lW (fun x:Itm=>x.name==n) y.its<0)) 5 (dW (decide (lW (fun a:By=>a==n) y.keys<(k:Int))) 6 0):=by
    rw[GQ (p:=fun a:By=>a==n) hn2 sW,nD,<-X0];rfl
   refine b6 (by kernel_rfl) ?_;(conv=>whnf);refine ix (cM hn2) ⟨rfl,?_⟩;(conv=>whnf);refine cP (sY y.its y1 n) ?_;(conv=>whnf);refine aF (fun h=>?_) (fun h=>?_)<;>conv=>whnf
   ·exact bA (badJ (hJ.trans (aZ h)) (by decide))
   replace hJ:=hJ.trans (bK h);refine b6 (by kernel_rfl) ?_;(conv=>whnf);refine ix (cM hn2) ⟨rfl,?_⟩;(conv=>whnf);refine cP (YO y.keys (by unfold bB;omega) n) ?_;(conv=>whnf);refine aF (fun h=>?_) (fun h=>?_)<;>conv=>whnf
   ·exact bA (badJ (hJ.trans (aZ h)) (by decide))
   exact nx () hlt2 ⟨hlt2,kC hn2 (hJ.trans (bK h)) hok2⟩
  have hK0:rT y=0:=hK.trans (mT fun j z hz=>hok2 j z (by have:=aC h;rw[aP] at this;have:=(List.getElem?_eq_some_iff.1 hz).1;omega) hz)
 rotate_left;focus
  have hK:rT y=dW (!y.keys.isEmpty||y.dups) 1 0:=aD (by simpa using hp);refine aF (fun h3=>?_) (fun h3=>?_)<;>conv=>whnf
  ·exact bA (badK (hK.trans (aZ (by have:((b9 y.keys).length:Int)>0:=aB h3;rw[aP] at this;cases hk:y.keys with|nil=>rw[hk] at this;exact absurd this (by decide)|cons a l=>rfl))) (by decide))
  have hke:y.keys.isEmpty=true:=by have:¬((b9 y.keys).length:Int)>0:=aC h3;rw[aP] at this;cases hk:y.keys with|nil=>rfl|cons a l=>rw[hk] at this;simp at this
  rw[hke] at hK;refine aF (fun h4=>?_) (fun h4=>?_)<;>conv=>whnf
  ·exact bA (badK (hK.trans (aZ h4)) (by decide))
  have hK0:rT y=0:=hK.trans (bK h4)
 all_goals
  rw[oM hK0] at hX;have badV:∀{e:Int},GW s y=e->e≠0->e=xe:=fun he h0=>by rw[he,oN h0] at hX;exact hX
  refine aF (fun hv=>?_) (fun hv=>?_)<;>conv=>whnf
  focus
   have hV:GW s y=dW (match s.st.find? (·.name==y.via) with|none=>true|some t=>!(t.ms.any (·.of==y.name))) 5 0:=aG (by simpa using hv);have hset:=J6 s ht y.via;refine(j5 (fun t:Sy=>t.name==y.via) s.st).elim (fun⟨h5,h6,_⟩=>?_) (fun⟨j,t,h5,h6,h7,_⟩=>?_)
   ·refine cP hset ?_;(conv=>whnf);refine b6 (by kernel_rfl) ?_;(conv=>whnf);refine gY (bM h5) ?_;(conv=>whnf);exact bA (badV (e:=5) (by rw[hV,h6];rfl) (by decide))
   rw[h5] at hset;rw[h7] at hV;refine cP hset ?_;(conv=>whnf);refine b6 (by kernel_rfl) ?_;(conv=>whnf);refine ix (cM h6) ⟨rfl,?_⟩;(conv=>whnf);refine cP (yI t (hst t (aL h6)).1 y.name) ?_;(conv=>whnf);refine aF (fun h8=>?_) (fun h8=>?_)<;>conv=>whnf
   ·exact bA (badV (hV.trans (aZ ((nD _ _).symm.trans h8))) (by decide))
   replace hV:=hV.trans (bK ((nD _ _).symm.trans h8))
  rotate_left;focus
   have hV:GW s y=dW (y.via !=[]) 1 0:=aD (by simpa using hv);refine aF (fun h4=>?_) (fun h4=>?_)<;>conv=>whnf
   ·exact bA (badV (hV.trans (aZ h4)) (by decide))
   replace hV:=hV.trans (bK h4)
  all_goals
   rw[oM ‹GW s y=0›] at hX;refine aF (fun hc=>?_) (fun hc=>?_)<;>conv=>whnf
   rotate_left
   ·exact bA ((aG (by simpa using hc)).symm.trans hX)
   replace hX:=(aD (by simpa using hc)).symm.trans hX;refine cP (LM y.check y4) ?_;(conv=>whnf);refine aF (fun h=>?_) (fun h=>?_)<;>conv=>whnf
   ·exact bA ((aZ h).symm.trans hX)
   replace hX:=(bK h).symm.trans hX;refine cP (YR y.its [] y1 (by decide) y.check y4) ?_ (wC (cY _) (wC (cY _) (wC (bI _ _) (wR _))));(conv=>whnf);exact bA (by rw[ZI];exact hX)
theorem JP {l:List Itm} {n:By} (h:l.any (·.name==n)=true):∃(x:Nat) (y:Itm),lW (fun a:Itm=>a.name==n) l=x/\l[x]?=some y/\iB l n=y.k:=by
 rcases j5 (fun x:Itm=>x.name==n) l with⟨_,_,h3⟩|⟨i,y,h1,h2,h3,_⟩
 ·rw[h3] at h;cases h
 ·exact⟨i,y,h1,h2,by unfold iB;rw[h3]⟩
set_option maxHeartbeats 8000000 in
theorem VH [MaxL] (s:Sch) (hz:mK s) (t:Sy) (htl:t.ms.length<bB) (k:Nat) (m:Mb) (hmk:t.ms[k]?=some m) (hml:m.sel.length<bB) (ho:t.owner≠[]->(gB s).contains t.owner=true) (hg:∀r∈s.rc,L4 kO r):
  SC Tryz.prog 130 [nZ s,AZ t,.i .i64 (k:Nat)] [] (.val (.i .i64 (oX s t k m))) []:=by
 obtain⟨⟨ha,hl,ht⟩,hr,hst⟩:=hz;unfold bB at hml;generalize hX:oX s t k m=xe;unfold oX at hX;rw[eK,<-GQ hmk sW] at hX;have hrr:=lI s hl m.of;refine cR xN mixed Tryz.func130 rfl (bL rfl) (by first|exact rL _|simp) rfl ?_;conv=>whnf
 refine ix (cM hmk) ⟨rfl,?_⟩;conv=>whnf
 refine st ?_;conv=>whnf
 cases hc:(gB s).contains m.of with
 |false=>
  have hno:lW (fun r:Rc=>r.name==m.of) s.rc<0:=by
   rcases j5 (fun r:Rc=>r.name==m.of) s.rc with⟨h,_⟩|⟨_,_,_,_,_,h⟩
   ·exact h
   ·rw[show(gB s).contains m.of=s.rc.any fun r=>r.name==m.of from eK _ _ _,h] at hc;cases hc
  rw[hc] at hX;refine cP hrr ?_;conv=>whnf
  refine gY (bM hno) ?_;conv=>whnf
  exact bA hX
 |true=>
 rw[hc] at hX;replace hX:=(bK (w:=!true) rfl).symm.trans hX;obtain⟨ir,hr1,hr2⟩:=qR hc;obtain⟨r1,r2,_⟩:=hr _ (aL hr2);rw[hr1] at hrr;refine cP hrr ?_;conv=>whnf
 refine cP (yI t htl m.of) ?_;conv=>whnf
 refine aF (fun h=>?_) (fun h=>?_)<;>conv=>whnf
 ·exact bA ((aZ h).symm.trans hX)
 replace hX:=(bK h).symm.trans hX;refine aF (fun h=>?_) (fun h=>?_)<;>conv=>whnf
 ·exact bA ((aZ (VZ h)).symm.trans hX)
 refine aF (fun h2=>?_) (fun h2=>?_)<;>conv=>whnf
 ·exact bA ((aZ (VY h2)).symm.trans hX)
 replace hX:=(bK (VX h h2)).symm.trans hX;clear h h2;refine aF (fun h=>?_) (fun h=>?_)<;>conv=>whnf
 ·exact bA ((aG (by simpa[b9] using h)).symm.trans hX)
 replace hX:=(aD (by simpa[b9] using h)).symm.trans hX;refine aF (fun h=>?_) (fun h=>?_)<;>conv=>whnf
 ·exact bA ((aZ h).symm.trans hX)
 replace hX:=(bK h).symm.trans hX;obtain⟨io,ho1,ho2⟩:=qR (ho (by simpa using h));have hgo:=hg _ (aL ho2);obtain⟨o1,o2,_⟩:=hr _ (aL ho2);have hro:=lI s hl t.owner;rw[ho1] at hro;generalize eQ s t.owner=o at*;generalize eQ s m.of=r at*;refine iQ [none,some 0,some 0,none,some 1,none,none,none,some 3,some 3] rfl rfl (by kernel_rfl) ?_;conv=>whnf
 refine cP hro ?_;conv=>whnf
 refine ix (cM ho2) ⟨rfl,?_⟩;conv=>whnf
 refine st ?_;conv=>whnf
 refine aF (fun h=>?_) (fun h=>?_)<;>conv=>whnf
 ·exact bA ((aZ (by rw[show(o.place !=2)=true from h];rfl)).symm.trans hX)
 have hp:(o.place !=2)=false:=h;rw[hp] at hX;refine aF (fun h=>?_) (fun h=>?_)<;>conv=>whnf
 ·exact bA ((aZ h).symm.trans hX)
 replace hX:=(bK h).symm.trans hX;refine aF (fun h=>?_) (fun h=>?_)<;>conv=>whnf
 ·have h8:¬(m.sel.length:Int)=o.keys.length:=by simpa[b9] using h
  exact bA ((aZ (by simp;omega)).symm.trans hX)
 have hlk:m.sel.length=o.keys.length:=by
  have h8:(m.sel.length:Int)=o.keys.length:=by simpa[b9] using h
  omega
 replace hX:=(bK (by rw[hlk];simp)).symm.trans hX;refine dB 4 m.sel.length (fun j _=>∀a n,a<j->m.sel[a]?=some n->F2 o r a n=0) (fun j _=>[(3,.ptr 0 0),(4,.ptr 1 0),(7,.ptr 2 0),(8,.i .i64 (ir:Nat)),(9,.ptr 3 0),(10,.i .i64 (j:Nat))])
  (fun j (_:Unit)=>[.box 26 (uG s),.box 39 (S3 t),.box 46 (mbC m),.box 35 (XP o)]) [] () (fun j n h=>absurd h (dG j)) (fun j _ φ1 hj hok=>?_)
 conv=>whnf
 refine aF (fun h=>?_) (fun h=>?_)<;>conv=>whnf
 rotate_left
 ·exact bA ((mT fun a z hz=>hok a z (by have:=aC h;rw[aP] at this;have:=(List.getElem?_eq_some_iff.1 hz).1;omega) hz).symm.trans hX)
 have hlt:j<m.sel.length:=by have:=aB h;rw[aP] at this;omega
 refine(j0 hlt).elim fun n hn=>?_;refine(j0 (show j<o.keys.length by omega)).elim fun n' hn'=>?_;have bad:∀{e:Int},F2 o r j n=e->e≠0->e=xe:=fun he h0=>he.symm.trans ((mU hn (by rw[he];exact h0) hok).symm.trans hX);have hk':(o.keys[j]?).getD []=n':=by rw[hn'];rfl
 have hra:=sY r.its r1 n;refine b6 (by kernel_rfl) ?_;conv=>whnf
 refine ix (cM hr2) ⟨rfl,?_⟩;conv=>whnf
 refine ix (cM hn) ⟨rfl,?_⟩;conv=>whnf
 refine(Bool.eq_false_or_eq_true (r.its.any (·.name==n))).elim (fun hc=>?_) (fun hc=>?_);rotate_left
 ·refine cP hra ?_;conv=>whnf
  refine gY (by rw[show decide (lW (fun a:Itm=>a.name==n) r.its<0)=!r.its.any fun a=>a.name==n from nD _ _,hc];rfl) ?_;conv=>whnf
  exact bA (bad (aZ (by rw[hc];rfl)) (by decide))
 refine(JP hc).elim fun x hx=>hx.elim fun z hz=>?_;rw[hz.1] at hra;refine(JP (hgo.2 (by simpa using hp) n' (aL hn'))).elim fun x' hx'=>hx'.elim fun z' hz'=>?_;have hoa:=sY o.its o1 n';rw[hz'.1] at hoa;refine cP hra ?_;conv=>whnf
 refine b6 (by kernel_rfl) ?_;conv=>whnf
 refine ix (cM hr2) ⟨rfl,?_⟩;conv=>whnf
 refine ix (cM hz.2.1) ⟨rfl,?_⟩;conv=>whnf
 refine ix (cM hn') ⟨rfl,?_⟩;conv=>whnf
 refine cP hoa ?_;conv=>whnf
 refine ix (cM hz'.2.1) ⟨rfl,?_⟩;conv=>whnf
 have hJ:F2 o r j n=dW (iB r.its n !=iB o.its n') 10 0:=by rw[<-hk'];exact bK (by rw[hc];rfl)
 rw[hz.2.2,hz'.2.2] at hJ;refine aF (fun h5=>?_) (fun h5=>?_)<;>conv=>whnf
 ·exact bA (bad (hJ.trans (aZ h5)) (by decide))
 exact nx () hlt ⟨hlt,kC hn (hJ.trans (bK h5)) hok⟩
def a1m:List (Option Nat):=[none,some 0,some 0,none,some 1,none,none,none,none,none,none,none,some 2,some 2]
abbrev V4 (s:Sch) (t:Sy):List GObj:=[.box 26 (uG s),.box 39 (S3 t)]
set_option maxHeartbeats 8000000 in
theorem V8 [MaxL] (s:Sch) (hz:mK s) (t:Sy) (htl:t.ms.length<bB) (hkl:t.keys.length<bB) (hm:∀m∈t.ms,(gB s).contains m.of=true) (hg:∀r∈s.rc,L4 kO r):
  SC Tryz.prog 131 [nZ s,AZ t] [] (.val (.i .i64 (xQ s t))) []:=by
 obtain⟨⟨ha,hl,ht⟩,hr,hst⟩:=hz;unfold bB at htl hkl;generalize hX:xQ s t=xe;refine cR xN mixed Tryz.func131 rfl (bL rfl) (by first|exact rL _|simp) rfl ?_;conv=>whnf
 refine aF (fun h=>?_) (fun h=>?_)<;>rw[kN] at h<;>conv=>whnf
 ·exact bA ((aZ (VZ h)).symm.trans hX)
 refine aF (fun h2=>?_) (fun h2=>?_)<;>rw[kN] at h2<;>conv=>whnf
 ·exact bA ((aZ (VY h2)).symm.trans hX)
 replace hX:=(bK (VX h h2)).symm.trans hX;have badK:∀{e:Int},kR (lD s t) t.keys=e->e≠0->e=xe:=fun he h0=>(by rw[he,oN h0] at hX;exact hX);refine dB 2 t.keys.length (fun k _=>∀j y,j<k->t.keys[j]?=some y->lD s t j y=0) (fun k _=>[(2,.ptr 0 0),(3,.ptr 1 0),(5,.i .i64 (k:Nat))]) (fun k (_:Unit)=>V4 s t) [] () (fun j n h=>absurd h (dG j)) (fun k _ φ1 hk hok=>?_);conv=>whnf
 refine aF (fun h=>?_) (fun h=>?_)<;>conv=>whnf
 rotate_left
 ·have h0:kR (lD s t) t.keys=0:=mT fun j z hz=>hok j z (by have:=aC h;rw[kN] at this;have:=(List.getElem?_eq_some_iff.1 hz).1;omega) hz;rw[oM h0] at hX;refine aF (fun h=>?_) (fun h=>?_)<;>conv=>whnf
  ·exact bA ((aZ (VZ h)).symm.trans hX)
  refine aF (fun h2=>?_) (fun h2=>?_)<;>conv=>whnf
  ·exact bA ((aZ (VY h2)).symm.trans hX)
  exact bA ((bK (VX h h2)).symm.trans hX)
 have hlt:k<t.keys.length:=by have:=aB h;rw[kN] at this;omega
 refine(j0 hlt).elim fun y hy=>?_;have bad:∀{e:Int},lD s t k y=e->e≠0->e=xe:=fun he h0=>badK ((mU hy (by rw[he];exact h0) hok).trans he) h0;refine dB 2 t.ms.length (fun j _=>∀m∈t.ms.take j,(eQ s m.of).its.any (·.name==y.item)=true) (fun j _=>[(2,.ptr 0 0),(3,.ptr 1 0),(5,.i .i64 (k:Nat)),(6,.i .i64 0),(7,.i .i64 (j:Nat))])
  (fun j (_:Unit)=>V4 s t) [] () (fun m h=>by simp at h) (fun j _ φ2 hj hall=>?_)
 conv=>whnf
 refine aF (fun h=>?_) (fun h=>?_)<;>conv=>whnf
 ·have hlt2:j<t.ms.length:=by have:=aB h;rw[iS] at this;omega
  refine(j0 hlt2).elim fun m hm2=>?_;refine(qR (hm m (aL hm2))).elim fun ir hir=>?_;have hrr:=lI s hl m.of;rw[hir.1] at hrr;refine iQ a1m rfl rfl (by kernel_rfl) ?_;conv=>whnf
  refine ix (cM hm2) ⟨rfl,?_⟩;conv=>whnf
  refine cP hrr ?_;conv=>whnf
  refine ix (cM hir.2) ⟨rfl,?_⟩;conv=>whnf
  refine st ?_;conv=>whnf
  refine b6 (by kernel_rfl) ?_;conv=>whnf
  refine ix (cM hy) ⟨rfl,?_⟩;conv=>whnf
  refine cP (sY _ (hr _ (aL hir.2)).1 y.item) ?_;conv=>whnf
  refine aF (fun h4=>?_) (fun h4=>?_)<;>rw[nD] at h4<;>conv=>whnf
  ·exact bA (bad (aZ (by rw[mW hm2 (SU h4)];rfl)) (by decide))
  exact nx () hlt2 ⟨hlt2,s8 hm2 (by simpa using h4) hall⟩
 have hall':=rG (p:=fun m:Mb=>(eQ s m.of).its.any (·.name==y.item)) (by have:=aC h;rw[iS] at this;omega) hall;have hp1:lD s t k y=dW (!(t.ms.all fun m=>iB (eQ s m.of).its y.item==iB (eQ s ((t.ms.head?.map (·.of)).getD [])).its y.item)) 10 (dW (((t.keys.take k).map (·.item)).contains y.item) 6 0):=bK (by rw[hall'];rfl);have hd:∀m,t.ms[0]?=some m->iB (eQ s m.of).its y.item=iB (eQ s ((t.ms.head?.map (·.of)).getD [])).its y.item:=fun m hm9=>by
  cases hms:t.ms with
  |nil=>rw[hms] at hm9;cases hm9
  |cons x l=>rw[hms] at hm9;cases hm9;rfl
 generalize iB (eQ s ((t.ms.head?.map (·.of)).getD [])).its y.item=F at*;refine dB 2 t.ms.length (fun j (b:Int)=>(∀m∈t.ms.take j,(iB (eQ s m.of).its y.item==F)=true)/\b=if j=0 then 0 else F) (fun j (b:Int)=>[(2,.ptr 0 0),(3,.ptr 1 0),(5,.i .i64 (k:Nat)),(6,.i .i64 b),(9,.i .i64 (j:Nat))])
  (fun j _=>V4 s t) [] 0 ⟨fun m h=>by simp at h,rfl⟩ (fun j b φ2 hj hb=>?_)
 refine hb.elim fun hall2 hb=>?_;conv=>whnf
 refine aF (fun h=>?_) (fun h=>?_)<;>conv=>whnf
 ·have hlt2:j<t.ms.length:=by have:=aB h;rw[iS] at this;omega
  refine(j0 hlt2).elim fun m hm2=>?_;refine(qR (hm m (aL hm2))).elim fun ir hir=>?_;have hrr:=lI s hl m.of;rw[hir.1] at hrr;have hia:=List.all_eq_true.1 hall' m (aL hm2);refine(JP hia).elim fun x hx=>hx.elim fun z hz=>?_;have hra:=sY _ (hr _ (aL hir.2)).1 y.item;rw[hz.1] at hra;refine iQ a1m rfl rfl (by kernel_rfl) ?_;conv=>whnf
  refine ix (cM hm2) ⟨rfl,?_⟩;conv=>whnf
  refine cP hrr ?_;conv=>whnf
  refine ix (cM hir.2) ⟨rfl,?_⟩;conv=>whnf
  refine st ?_;conv=>whnf
  refine b6 (by kernel_rfl) ?_;conv=>whnf
  refine ix (cM hy) ⟨rfl,?_⟩;conv=>whnf
  refine cP hra ?_;conv=>whnf
  refine ix (cM hz.2.1) ⟨rfl,?_⟩;conv=>whnf
  refine aF (fun h4=>?_) (fun h4=>?_)<;>conv=>whnf
  ·have hj0:j=0:=by simpa using h4
   have h6:(iB (eQ s m.of).its y.item==F)=true:=by rw[hd m (by rw[<-hj0];exact hm2)];simp
   refine gN (show(z.k !=z.k)=false by simp) ?_;(conv=>whnf);exact nx z.k hlt2 ⟨hlt2,s8 hm2 h6 hall2,by rw[aD (Nat.succ_ne_zero _),<-hz.2.2];exact eq_of_beq h6⟩
  ·have hj0:j≠0:=by simpa using h4
   rw[aD hj0] at hb;refine aF (fun h5=>?_) (fun h5=>?_)<;>conv=>whnf
   ·exact bA (bad (hp1.trans (aZ (by rw[mW hm2 (by rw[hz.2.2,<-hb];simpa using h5)];rfl))) (by decide))
   have h6:(iB (eQ s m.of).its y.item==F)=true:=by rw[hz.2.2,<-hb];simpa using h5
   exact nx b hlt2 ⟨hlt2,s8 hm2 h6 hall2,by rw[aD (Nat.succ_ne_zero _)];exact hb⟩
 have hp2:=hp1.trans (bK (by rw[rG (by have:=aC h;rw[iS] at this;omega) hall2];rfl));rw[eK] at hp2;refine dB 2 k (fun j _=>∀z∈t.keys.take j,(z.item==y.item)=false) (fun j _=>[(2,.ptr 0 0),(3,.ptr 1 0),(5,.i .i64 (k:Nat)),(12,.i .i64 (j:Nat))])
  (fun j (_:Unit)=>V4 s t) [] () (fun m h=>by simp at h) (fun j _ φ2 hj hno=>?_)
 conv=>whnf
 refine aF (fun h=>?_) (fun h=>?_)<;>conv=>whnf
 ·have hlt2:j<k:=by have:=aB h;omega
  refine(j0 (show j<t.keys.length by omega)).elim fun z hz=>?_;refine b6 (by kernel_rfl) ?_;conv=>whnf
  refine ix (cM hz) ⟨rfl,?_⟩;conv=>whnf
  refine ix (cM hy) ⟨rfl,?_⟩;conv=>whnf
  refine aF (fun h4=>?_) (fun h4=>?_)<;>conv=>whnf
  ·exact bA (bad (hp2.trans (aZ (List.any_eq_true.2 ⟨z,List.mem_take_iff_getElem.2 ⟨j,by have:=(List.getElem?_eq_some_iff.1 hz).1;omega,(List.getElem?_eq_some_iff.1 hz).2⟩,h4⟩))) (by decide))
  exact nx () hlt2 ⟨hlt2,C8 (p:=fun z:Ky=>z.item==y.item) hz h4 hno⟩
 have hjk:j=k:=by have:=aC h;omega
 subst hjk;exact nx () hlt ⟨hlt,kC hy (hp2.trans (bK (List.any_eq_false.2 fun z hz=>by rw[hno z hz];decide))) hok⟩
