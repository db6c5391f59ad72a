/-
  A part of the proof of SchemaSorts.
-/
import Derived.Test.YtcfgfkkhpdlhpaaGreatDoorS45
set_option linter.all false
set_option maxRecDepth 100000
namespace Go.Proofs.YtcfgfkkhpdlhpaaGreatDoor
open Go.RowKit
theorem a1g [MaxL] (I V:List Itm) (hI:I.length<bB) (hV:V.length<bB) (t:Term):SC Tryz.prog 233 [.agg (W6 t),.sl .none (f5 I),.sl .none (f5 V)] [] (.val (.i .i64 (iM I V t))) []:=by
 obtain⟨nm,vr,v⟩:=t;have hI':=a2g I hI nm;have hV':=a2g V hV nm;unfold iM;by_cases hn:nm=[]
 ·subst hn;rw[aF rfl];cases vr with
  |true=>
   refine cY Tryz.func233 rfl ?_;(conv=>whnf);exact b8 rfl
  |false=>
   refine cY Tryz.func233 rfl ?_;(conv=>whnf);exact b8 rfl
 ·rw[aD hn];cases vr with
  |true=>
   rcases AL V nm with⟨h1,h2⟩|⟨j,y,h1,h2,h3⟩
   ·rw[h1] at hV';simp only[fK,h2];refine cY Tryz.func233 rfl ?_;(conv=>whnf);refine aE (fun hz=>?_) (fun hz=>?_)<;>conv=>whnf
    rotate_left
    ·exact absurd (by simpa using hz) hn
    refine bD hV' (wR _) rfl (cC (bT (cR V)) (cC (.s _) .nil)) (.i _ _) ?_;(conv=>whnf);exact b8 rfl
   ·rw[h1] at hV';simp only[fK,h3];refine cY Tryz.func233 rfl ?_;(conv=>whnf);refine aE (fun hz=>?_) (fun hz=>?_)<;>conv=>whnf
    rotate_left
    ·exact absurd (by simpa using hz) hn
    refine bD hV' (wR _) rfl (cC (bT (cR V)) (cC (.s _) .nil)) (.i _ _) ?_;(conv=>whnf);refine⟨cN _,_,by rw[aA];exact m6 h2,rfl,?_⟩;(conv=>whnf);exact b8 rfl
  |false=>
   rcases AL I nm with⟨h1,h2⟩|⟨j,y,h1,h2,h3⟩
   ·rw[h1] at hI';simp only[bU,fM,h2];refine cY Tryz.func233 rfl ?_;(conv=>whnf);refine aE (fun hz=>?_) (fun hz=>?_)<;>conv=>whnf
    rotate_left
    ·exact absurd (by simpa using hz) hn
    refine bD hI' (wR _) rfl (cC (bT (cR I)) (cC (.s _) .nil)) (.i _ _) ?_;(conv=>whnf);exact b8 rfl
   ·rw[h1] at hI';simp only[bU,fM,h3];refine cY Tryz.func233 rfl ?_;(conv=>whnf);refine aE (fun hz=>?_) (fun hz=>?_)<;>conv=>whnf
    rotate_left
    ·exact absurd (by simpa using hz) hn
    refine bD hI' (wR _) rfl (cC (bT (cR I)) (cC (.s _) .nil)) (.i _ _) ?_;(conv=>whnf);refine⟨cN _,_,by rw[aA];exact m6 h2,rfl,?_⟩;(conv=>whnf);exact b8 rfl
theorem VI [MaxL] {j:Nat} (h:j<100000):GV.i .i64 (IntKind.i64.wrap (((2*j:Nat):Int)+2))=.i .i64 ((2*(j+1):Nat):Int):=by
 rw[bV (by omega) (by omega)];congr 1
theorem P7 {L:List Term} {i:Nat} {y:Term} (h:L[i]?=some y):(yE L)[i]?=some (.agg (W6 y)):=by
 unfold yE;rw[aM,h];rfl
theorem ND (t:Tree):(dD t).length=2*(lY t).length:=by
 rw[oK];induction lY t with
 |nil=>rfl
 |cons p l ih=>simp only[f8,aG,aJ,b5];omega
theorem O8:∀(l:List (Term×Term)) (j:Nat) (p:Term×Term),l[j]?=some p->(l.flatMap fun p=>[p.1,p.2])[2*j]?=some p.1/\(l.flatMap fun p=>[p.1,p.2])[2*j+1]?=some p.2
 |[],j,p,h=>by simp at h
 |q::l,0,p,h=>by
  simp at h;subst h;simp
 |q::l,j+1,p,h=>by
  have:=O8 l j p (by simpa using h);rw[show 2*(j+1)=2*j+1+1 by omega];simpa using this
theorem UF {t:Tree} {j:Nat} {p:Term×Term} (h:(lY t)[j]?=some p):(dD t)[2*j]?=some p.1/\(dD t)[2*j+1]?=some p.2:=by
 rw[oK];exact O8 _ _ _ h
theorem B7 {α:Type} {f:α->Bool} {l:List α} {i:Nat} {y:α} (h:(l.take i).any f=false) (hy:l[i]?=some y):(l.take (i+1)).any f=f y:=by
 rw[bP,hy,List.any_append,h];simp
theorem T6 {α:Type} {f:α->Bool} {l:List α} {i:Nat} {y:α} (hy:l[i]?=some y) (h:f y=true):l.any f=true:=List.any_eq_true.2 ⟨y,aL hy,h⟩
theorem ZU [MaxL] (I V:List Itm) (hI:I.length<bB) (hV:V.length<bB) (t:Tree) (hz:t.size<=5000):SC Tryz.prog 191 [t.ng,.sl .none (f5 I),.sl .none (f5 V)] [] (.val (.i .i64 (rT I V t))) []:=by
 have hsd:=JX 5000 t hz hz;have hll:=oL t;have hl2:=ND t;have hat:=fun j p=>@UF t j p;have hk:=a1g I V hI hV;have hcl:=t.ng_cl;obtain⟨k,kids,A,B,op,yes,hng⟩:=iK t;rw[hng] at hsd hcl⊢;have hncl:ClL (jY k kids A B op yes):=by
  have h9:t.ncs=jY k kids A B op yes:=by
   have h8:GV.agg t.ncs=GV.agg (jY k kids A B op yes):=hng;injection h8
  rw[<-h9];exact t.ncs_cl
 unfold rT;generalize dD t=L at*;generalize lY t=T at*;have hsl:=lZ L;refine cY Tryz.func191 rfl ?_;conv=>whnf
 refine bD hsd (wR _) rfl (cC hcl .nil) (bT (wD _)) ?_;conv=>whnf
 have hLm:L.length<=10000:=by omega
 refine eT (fun i:Nat=>i<=L.length/\(L.take i).any (fun x=>iM I V x==0)=false) (fun i=>[(1,.sl .none (f5 I)),(2,.sl .none (f5 V)),(7,.sl .none (yE L)),(8,.i .i64 (i:Nat))])
  (fun _=>⟨[.box 211 (jY k kids A B op yes)],0,[]⟩) (fun i=>L.length - i) 0 ⟨zL _,rfl⟩ ⟨rfl,rfl,rfl,rfl,trivial⟩ rfl (fun _ _=>rL _) (fun _ _=>rfl) (fun i _ e he=>?_) (fun i φ0 hi=>?_)
 ·refine⟨?_,rfl,?_⟩
  ·show[(GObj.box _ (jY k kids A B op yes)).ren e]=_;rw[eU hncl]
  ·show[(GV.sl .none (f5 I)).ren e,(GV.sl .none (f5 V)).ren e,(GV.sl .none (yE L)).ren e,_]=_;rw[bT (cR I) e,bT (cR V) e,bT (wD L) e];rfl
 obtain⟨hi,hni⟩:=hi;conv=>whnf
 refine aE (fun h=>?_) (fun h=>?_)<;>conv=>whnf
 rotate_left
 ·have hie:i=L.length:=by have:=aC h;rw[hsl] at this;omega
  have hn0:L.any (fun x=>iM I V x==0)=false:=by rw[hie,b6] at hni;exact hni
  rw[hn0];simp only[bU,fM];conv=>whnf
  refine eT (fun j:Nat=>j<=T.length/\(T.take j).any (fun p=>iM I V p.1 !=iM I V p.2)=false) (fun j=>[(1,.sl .none (f5 I)),(2,.sl .none (f5 V)),(7,.sl .none (yE L)),(9,.i .i64 ((2*j:Nat):Int))])
   (fun _=>⟨[.box 211 (jY k kids A B op yes)],0,[]⟩) (fun i=>T.length - i) 0 ⟨zL _,rfl⟩ ⟨rfl,rfl,rfl,rfl,trivial⟩ rfl (fun _ _=>rL _) (fun _ _=>rfl) (fun i _ e he=>?_) (fun j φ0 hj=>?_)
  ·refine⟨?_,rfl,?_⟩
   ·show[(GObj.box _ (jY k kids A B op yes)).ren e]=_;rw[eU hncl]
   ·show[(GV.sl .none (f5 I)).ren e,(GV.sl .none (f5 V)).ren e,(GV.sl .none (yE L)).ren e,_]=_;rw[bT (cR I) e,bT (cR V) e,bT (wD L) e];rfl
  obtain⟨hj,hnj⟩:=hj;conv=>whnf
  refine aE (fun h2=>?_) (fun h2=>?_)<;>conv=>whnf
  rotate_left
  ·have hje:j=T.length:=by have:=aC h2;rw[hsl] at this;omega
   refine b8 ?_;rw[hje,b6] at hnj;rw[hnj];rfl
  have hlt:j<T.length:=by have:=aB h2;rw[hsl] at this;omega
  obtain⟨p,hp⟩:∃y,T[j]?=some y:=⟨T[j],gL hlt⟩;obtain⟨hp1,hp2⟩:=hat j p hp;have hys:=B7 hnj hp;have hk1:=hk p.1;have hk2:=hk p.2;refine aZ (by kernel_rfl) ?_;conv=>whnf
  refine⟨cN _,_,by rw[aA];exact P7 hp1,rfl,?_⟩;conv=>whnf
  refine bD hk1 (wR _) rfl (cC (eL (BK p.1)) (cC (bT (cR I)) (cC (bT (cR V)) .nil))) (.i _ _) ?_;conv=>whnf
  have hw1:IntKind.i64.wrap (((2*j:Nat):Int)+1)=((2*j+1:Nat):Int):=bV (by omega) (by omega);refine⟨by rw[hw1];exact cN _,.agg (W6 p.2),by rw[hw1,aA];exact P7 hp2,rfl,?_⟩;conv=>whnf
  refine bD hk2 (wR _) rfl (cC (eL (BK p.2)) (cC (bT (cR I)) (cC (bT (cR V)) .nil))) (.i _ _) ?_;conv=>whnf
  refine aE (fun h3=>?_) (fun h3=>?_)<;>conv=>whnf
  ·have h3':¬iM I V p.1=iM I V p.2:=by simpa using h3
   refine b8 ?_;rw[T6 (f:=fun p=>iM I V p.1 !=iM I V p.2) hp (by simpa using h3')];rfl
  ·have h3':iM I V p.1=iM I V p.2:=by simpa using h3
   exact⟨T.length - (j+1),(by show _<T.length - j;omega),j+1,⟨hlt,by rw[hys];simpa using h3'⟩,rfl,⟨rfl,rfl,rfl,VI (by omega),trivial⟩,_,rfl,rfl⟩
 have hlt:i<L.length:=by have:=aB h;rw[hsl] at this;omega
 obtain⟨y,hy⟩:∃y,L[i]?=some y:=⟨L[i],gL hlt⟩;have hky:=hk y;have hat':=P7 hy;have hys:=B7 hni hy;refine⟨cN _,_,by rw[aA];exact hat',rfl,?_⟩;conv=>whnf
 refine bD hky (wR _) rfl (cC (eL (BK y)) (cC (bT (cR I)) (cC (bT (cR V)) .nil))) (.i _ _) ?_;conv=>whnf
 refine aE (fun h0=>?_) (fun h0=>?_)<;>conv=>whnf
 ·have h0':iM I V y=0:=by simpa using h0
  refine b8 ?_;rw[T6 hy (by rw[h0'];rfl)];rfl
 ·have h0':¬iM I V y=0:=by simpa using h0
  exact⟨L.length - (i+1),(by show _<L.length - i;omega),i+1,⟨hlt,by rw[hys];simpa using h0'⟩,rfl,⟨rfl,rfl,rfl,b7 (by omega),trivial⟩,_,rfl,rfl⟩
def a0W (I V:List Itm) (s:By):Int:=match lJ s with
 |.ok t=>if gM I&&gM V then rT I V t else 1
 |.err e=>e
theorem a0V (I V:List Itm) (s:By):a0W I V s=DT I V s:=by
 unfold a0W DT;have hr:=A5 s;cases hx:lJ s with
 |err e=>rw[hx] at hr;rw[hr]
 |ok t=>
  rw[hx] at hr;rw[hr];simp only;rw[QQ]
theorem a02 [MaxL] (I V:List Itm) (hI:I.length<bB) (hV:V.length<bB) (s:By) (hs:s.length<1000000):SC Tryz.prog 129 [.s s,.sl .none (f5 I),.sl .none (f5 V)] [] (.val (.i .i64 (a0W I V s))) []:=by
 have hr:=PM s hs;have hrc:=BP s;unfold lD at hr hrc;unfold a0W;have h1:=FJ I hI;have h2:=FJ V hV;cases hx:lJ s with
 |err e=>
  rw[hx] at hr hrc;replace hr:SC Tryz.prog 190 [.s s] [] (.val (.tup [tU,.i .i64 e])) []:=hr;replace hrc:Cl (.tup [tU,.i .i64 e]):=hrc;have he:=BO hx;simp only;rcases he with rfl|rfl|rfl;all_goals
   refine cY Tryz.func129 rfl ?_;(conv=>whnf);refine bD hr (wR _) rfl (fun _=>rfl) hrc ?_;(conv=>whnf);refine⟨_,⟨rfl,zL _,rfl,bL rfl⟩,?_⟩;(conv=>whnf);exact b8 rfl
 |ok t=>
  rw[hx] at hr hrc;replace hr:SC Tryz.prog 190 [.s s] [] (.val (.tup [t.ng,.i .i64 0])) []:=hr;replace hrc:Cl (.tup [t.ng,.i .i64 0]):=hrc;have hz:=FC hx;have h3:=ZU I V hI hV t (by omega);have hcl:=t.ng_cl;obtain⟨k,kids,A,B,op,yes,hng⟩:=iK t;rw[hng] at hr hrc h3 hcl;simp only;cases k1:gM I with
  |false=>
   rw[k1] at h1;refine cY Tryz.func129 rfl ?_;(conv=>whnf);refine bD hr (wR _) rfl (fun _=>rfl) hrc ?_;(conv=>whnf);refine⟨_,⟨rfl,zL _,rfl,bL rfl⟩,?_⟩;(conv=>whnf);refine bD h1 (wR _) rfl (cC (bT (cR I)) .nil) (.b _) ?_;(conv=>whnf);exact b8 rfl
  |true=>
   rw[k1] at h1;cases k2:gM V with
   |false=>
    rw[k2] at h2;refine cY Tryz.func129 rfl ?_;(conv=>whnf);refine bD hr (wR _) rfl (fun _=>rfl) hrc ?_;(conv=>whnf);refine⟨_,⟨rfl,zL _,rfl,bL rfl⟩,?_⟩;(conv=>whnf);refine bD h1 (wR _) rfl (cC (bT (cR I)) .nil) (.b _) ?_;(conv=>whnf);refine bD h2 (wR _) rfl (cC (bT (cR V)) .nil) (.b _) ?_;(conv=>whnf);exact b8 rfl
   |true=>
    rw[k2] at h2;refine cY Tryz.func129 rfl ?_;(conv=>whnf);refine bD hr (wR _) rfl (fun _=>rfl) hrc ?_;(conv=>whnf);refine⟨_,⟨rfl,zL _,rfl,bL rfl⟩,?_⟩;(conv=>whnf);refine bD h1 (wR _) rfl (cC (bT (cR I)) .nil) (.b _) ?_;(conv=>whnf);refine bD h2 (wR _) rfl (cC (bT (cR V)) .nil) (.b _) ?_;(conv=>whnf);refine bD h3 (wR _) rfl (cC hcl (cC (bT (cR I)) (cC (bT (cR V)) .nil))) (.i _ _) ?_;(conv=>whnf);exact b8 rfl
theorem MN [MaxL] (s:By) (hs:s.length<1000000):SC Tryz.prog 128 [.s s] [] (.val (.b (rU s))) []:=by
 have h:=a1j s hs;rw[W2] at h;unfold rU;generalize zW s=q at h;obtain⟨x,e⟩:=q;refine cY Tryz.func128 rfl ?_;conv=>whnf
 refine cP h ?_;conv=>whnf
 refine aE (fun h1=>?_) (fun h1=>?_)<;>conv=>whnf
 ·refine bY ?_;have h2:e=0:=by simpa using h1
  rw[dU];simp[h2]
 ·refine bY ?_;have h2:¬e=0:=by simpa using h1
  simp[h2]
theorem XF {n lo hi:Int} (h:decide (n<lo)=true):(!uM n lo hi)=true:=by unfold uM;rw[cD (by have:=aB h;omega)];rfl
theorem XE {n lo hi:Int} (h:decide (n>hi)=true):(!uM n lo hi)=true:=by unfold uM;rw[cD (p:=n<=hi) (by have:=aB h;omega),Bool.and_false];rfl
theorem XD {n lo hi:Int} (h1:decide (n<lo)=false) (h2:decide (n>hi)=false):(!uM n lo hi)=false:=by
 unfold uM;rw[bN (by have:=aC h1;omega),bN (by have:=aC h2;omega)];rfl
theorem YG (l:List By) (n:By):l.contains n=l.any fun x=>x==n:=by
 have h:=eK (fun x:By=>x) l n;rwa [List.map_id'] at h
theorem tQ {n:By}:(n==n)=true:=by simp
theorem a1i [MaxL] (s:Sch) (hl:s.ar.length<bB) (i:Nat) (y:Ar) (hy:s.ar[i]?=some y):SC Tryz.prog 54 [nO s,.i .i64 (i:Nat)] [] (.val (.i .i64 (mN ((dH s).take i) y))) []:=by
 generalize hX:mN ((dH s).take i) y=xe;unfold mN kL at hX;rw[a3V,<-HE hy tQ] at hX;have hn:=BS y.name;refine cY Tryz.func54 rfl ?_;conv=>whnf
 refine ix (cI hy) ⟨rfl,?_⟩;conv=>whnf
 refine st ?_;conv=>whnf
 refine cP hn ?_;conv=>whnf
 refine aE (fun h=>?_) (fun h=>?_)<;>conv=>whnf
 ·exact b8 ((b4 (by rw[h];rfl)).symm.trans hX)
 rw[h] at hX;refine aE (fun h=>?_) (fun h=>?_)<;>conv=>whnf
 ·exact b8 ((b4 h).symm.trans hX)
 replace hX:=(bK h).symm.trans hX;refine cP (A8 s hl y.name) ?_;conv=>whnf
 refine aE (fun h=>?_) (fun h=>?_)<;>conv=>whnf
 ·exact b8 ((b4 h).symm.trans hX)
 replace hX:=(bK h).symm.trans hX;refine aE (fun h=>?_) (fun h=>?_)<;>conv=>whnf
 ·exact b8 ((b4 (XF h)).symm.trans hX)
 refine aE (fun h2=>?_) (fun h2=>?_)<;>conv=>whnf
 ·exact b8 ((b4 (XE h2)).symm.trans hX)
 exact b8 ((bK (XD h h2)).symm.trans hX)
set_option maxHeartbeats 8000000 in
theorem WR [MaxL] (s:Sch) (hz:mA s) (hc:∀r∈s.rc,r.check.length<1000000) (i:Nat) (y:Rc) (hy:s.rc[i]?=some y):SC Tryz.prog 55 [nO s,.i .i64 (i:Nat)] [] (.val (.i .i64 (yX s i y))) []:=by
 obtain⟨⟨ha,hl,ht⟩,hr,hst⟩:=hz;obtain⟨y1,y2,y3⟩:=hr y (aL hy);have y4:=hc y (aL hy);generalize hX:yX s i y=xe;unfold yX HL kL at hX;rw[a3U,<-HE hy tQ,<-qJ,show(dH s).contains y.area=s.ar.any fun a=>a.name==y.area from eK _ _ _,<-nM] at hX;have hn:=BS y.name;refine dF I2 mixed Tryz.func55 rfl (bL rfl) (by first|exact rL _|simp) rfl ?_;conv=>whnf
 refine ix (cI hy) ⟨rfl,?_⟩;conv=>whnf
 refine st ?_;conv=>whnf
 refine cP hn ?_;conv=>whnf
 refine aE (fun h=>?_) (fun h=>?_)<;>conv=>whnf
 ·exact b8 ((b4 (by rw[h];rfl)).symm.trans hX)
 rw[h] at hX;refine aE (fun h=>?_) (fun h=>?_)<;>conv=>whnf
 ·exact b8 ((b4 h).symm.trans hX)
 replace hX:=(bK h).symm.trans hX;refine cP (A8 s ha y.name) ?_;conv=>whnf
 refine aE (fun h=>?_) (fun h=>?_)<;>conv=>whnf
 ·exact b8 ((b4 (by rw[show decide (0<=m8 (fun x:Ar=>x.name==y.name) s.ar)=true from h];rfl)).symm.trans hX)
 rw[show decide (0<=m8 (fun x:Ar=>x.name==y.name) s.ar)=false from h] at hX;refine cP (lQ s hl y.name) ?_;conv=>whnf
 refine aE (fun h=>?_) (fun h=>?_)<;>conv=>whnf
 ·exact b8 ((b4 h).symm.trans hX)
 replace hX:=(bK h).symm.trans hX;refine cP (A8 s ha y.area) ?_;conv=>whnf
 refine aE (fun h=>?_) (fun h=>?_)<;>conv=>whnf
 ·exact b8 ((b4 h).symm.trans hX)
 replace hX:=(bK h).symm.trans hX;refine cP (yF y.its y1) ?_;conv=>whnf
 refine aE (fun h=>?_) (fun h=>?_)<;>conv=>whnf
 ·exact b8 ((b4 (by rw[show(!kU y.its)=true from h];rfl)).symm.trans hX)
 rw[show(!kU y.its)=false from h] at hX;refine aE (fun h=>?_) (fun h=>?_)<;>conv=>whnf
 ·exact b8 ((b4 (XF h)).symm.trans hX)
 refine aE (fun h2=>?_) (fun h2=>?_)<;>conv=>whnf
 ·exact b8 ((b4 (XE h2)).symm.trans hX)
 replace hX:=(bK (XD h h2)).symm.trans hX;have badK:∀{e:Int},sC y=e->e≠0->e=xe:=fun he h0=>by rw[he,oZ h0] at hX;exact hX
 unfold bB at y2;refine aE (fun hp=>?_) (fun hp=>?_)<;>conv=>whnf
 focus
  have hK:sC y=dX (!uM y.keys.length 1 4) 11 (kX (KI y) y.keys):=aF (by simpa using hp);refine aE (fun h=>?_) (fun h=>?_)<;>rw[aP] at h<;>conv=>whnf
  ·exact b8 (badK (hK.trans (b4 (XF h))) (by decide))
  refine aE (fun h2=>?_) (fun h2=>?_)<;>rw[aP] at h2<;>conv=>whnf
  ·exact b8 (badK (hK.trans (b4 (XE h2))) (by decide))
  replace hK:=hK.trans (bK (XD h h2));refine cW 2 y.keys.length (fun k _=>∀j n,j<k->y.keys[j]?=some n->KI y j n=0) (fun k _=>[(2,.ptr 0 0),(5,.ptr 1 0),(6,.i .i64 (k:Nat))]) (fun k (_:Unit)=>[.box 26 (sQ s),.box 35 (WP y)]) [] () (fun j n h=>absurd h (dJ j)) (fun k _ φ1 hk hok2=>?_);conv=>whnf
  refine aE (fun h=>?_) (fun h=>?_)<;>conv=>whnf
  ·have hlt2:k<y.keys.length:=by have:=aB h;rw[aP] at this;omega
   refine(gV hlt2).elim fun n hn2=>?_;have badJ:∀{e:Int},KI y k n=e->e≠0->e=xe:=fun he h0=>badK (hK.trans ((n7 hn2 (by rw[he];exact h0) hok2).trans he)) h0;have hJ:KI y k n=dX (decide (m8 (fun x:Itm=>x.name==n) y.its<0)) 5 (dX (decide (m8 (fun a:By=>a==n) y.keys<(k:Int))) 6 0):=by
    rw[HE (p:=fun a:By=>a==n) hn2 tQ,nM,<-YG];rfl
   refine aZ (by kernel_rfl) ?_;(conv=>whnf);refine ix (cI hn2) ⟨rfl,?_⟩;(conv=>whnf);refine cP (tS y.its y1 n) ?_;(conv=>whnf);refine aE (fun h=>?_) (fun h=>?_)<;>conv=>whnf
   ·exact b8 (badJ (hJ.trans (b4 h)) (by decide))
   replace hJ:=hJ.trans (bK h);refine aZ (by kernel_rfl) ?_;(conv=>whnf);refine ix (cI hn2) ⟨rfl,?_⟩;(conv=>whnf);refine cP (ZZ y.keys (by unfold bB;omega) n) ?_;(conv=>whnf);refine aE (fun h=>?_) (fun h=>?_)<;>conv=>whnf
   ·exact b8 (badJ (hJ.trans (b4 h)) (by decide))
   exact nx () hlt2 ⟨hlt2,kI hn2 (hJ.trans (bK h)) hok2⟩
  have hK0:sC y=0:=hK.trans (n6 fun j z hz=>hok2 j z (by have:=aC h;rw[aP] at this;have:=(List.getElem?_eq_some_iff.1 hz).1;omega) hz)
 rotate_left;focus
  have hK:sC y=dX (!y.keys.isEmpty||y.dups) 1 0:=aD (by simpa using hp);refine aE (fun h3=>?_) (fun h3=>?_)<;>conv=>whnf
  ·exact b8 (badK (hK.trans (b4 (by have:((bA y.keys).length:Int)>0:=aB h3;rw[aP] at this;cases hk:y.keys with|nil=>rw[hk] at this;exact absurd this (by decide)|cons a l=>rfl))) (by decide))
  have hke:y.keys.isEmpty=true:=by have:¬((bA y.keys).length:Int)>0:=aC h3;rw[aP] at this;cases hk:y.keys with|nil=>rfl|cons a l=>rw[hk] at this;simp at this
  rw[hke] at hK;refine aE (fun h4=>?_) (fun h4=>?_)<;>conv=>whnf
  ·exact b8 (badK (hK.trans (b4 h4)) (by decide))
  have hK0:sC y=0:=hK.trans (bK h4)
 all_goals
  rw[oY hK0] at hX;have badV:∀{e:Int},HI s y=e->e≠0->e=xe:=fun he h0=>by rw[he,oZ h0] at hX;exact hX
  refine aE (fun hv=>?_) (fun hv=>?_)<;>conv=>whnf
  focus
   have hV:HI s y=dX (match s.st.find? (·.name==y.via) with|none=>true|some t=>!(t.ms.any (·.of==y.name))) 5 0:=aF (by simpa using hv);have hset:=E3 s ht y.via;refine(jI (fun t:Sy=>t.name==y.via) s.st).elim (fun⟨h5,h6,_⟩=>?_) (fun⟨j,t,h5,h6,h7,_⟩=>?_)
   ·refine cP hset ?_;(conv=>whnf);refine aZ (by kernel_rfl) ?_;(conv=>whnf);refine gY (bN h5) ?_;(conv=>whnf);exact b8 (badV (e:=5) (by rw[hV,h6];rfl) (by decide))
   rw[h5] at hset;rw[h7] at hV;refine cP hset ?_;(conv=>whnf);refine aZ (by kernel_rfl) ?_;(conv=>whnf);refine ix (cI h6) ⟨rfl,?_⟩;(conv=>whnf);refine cP (z6 t (hst t (aL h6)).1 y.name) ?_;(conv=>whnf);refine aE (fun h8=>?_) (fun h8=>?_)<;>conv=>whnf
   ·exact b8 (badV (hV.trans (b4 ((nM _ _).symm.trans h8))) (by decide))
   replace hV:=hV.trans (bK ((nM _ _).symm.trans h8))
  rotate_left;focus
   have hV:HI s y=dX (y.via !=[]) 1 0:=aD (by simpa using hv);refine aE (fun h4=>?_) (fun h4=>?_)<;>conv=>whnf
   ·exact b8 (badV (hV.trans (b4 h4)) (by decide))
   replace hV:=hV.trans (bK h4)
  all_goals
   rw[oY ‹HI s y=0›] at hX;refine aE (fun hc=>?_) (fun hc=>?_)<;>conv=>whnf
   rotate_left
   ·exact b8 ((aF (by simpa using hc)).symm.trans hX)
   replace hX:=(aD (by simpa using hc)).symm.trans hX;refine cP (MN y.check y4) ?_;(conv=>whnf);refine aE (fun h=>?_) (fun h=>?_)<;>conv=>whnf
   ·exact b8 ((b4 h).symm.trans hX)
   replace hX:=(bK h).symm.trans hX;refine cP (a02 y.its [] y1 (by decide) y.check y4) ?_ (wC (d7 _) (wC (d7 _) (wC (bI _ _) (wR _))));(conv=>whnf);exact b8 (by rw[a0V];exact hX)
theorem KK {l:List Itm} {n:By} (h:l.any (·.name==n)=true):∃(x:Nat) (y:Itm),m8 (fun a:Itm=>a.name==n) l=x/\l[x]?=some y/\iE l n=y.k:=by
 rcases jI (fun x:Itm=>x.name==n) l with⟨_,_,h3⟩|⟨i,y,h1,h2,h3,_⟩
 ·rw[h3] at h;cases h
 ·exact⟨i,y,h1,h2,by unfold iE;rw[h3]⟩
set_option maxHeartbeats 8000000 in
theorem WZ [MaxL] (s:Sch) (hz:mA s) (t:Sy) (htl:t.ms.length<bB) (k:Nat) (m:Mb) (hmk:t.ms[k]?=some m) (hml:m.sel.length<bB) (ho:t.owner≠[]->(gB s).contains t.owner=true) (hg:∀r∈s.rc,M1 kU r):
  SC Tryz.prog 130 [nO s,zT t,.i .i64 (k:Nat)] [] (.val (.i .i64 (pO s t k m))) []:=by
 obtain⟨⟨ha,hl,ht⟩,hr,hst⟩:=hz;unfold bB at hml;generalize hX:pO s t k m=xe;unfold pO at hX;rw[eK,<-HE hmk tQ] at hX;have hrr:=lQ s hl m.of;refine dF I2 mixed Tryz.func130 rfl (bL rfl) (by first|exact rL _|simp) rfl ?_;conv=>whnf
 refine ix (cI hmk) ⟨rfl,?_⟩;conv=>whnf
 refine st ?_;conv=>whnf
 cases hc:(gB s).contains m.of with
 |false=>
  have hno:m8 (fun r:Rc=>r.name==m.of) s.rc<0:=by
   rcases jI (fun r:Rc=>r.name==m.of) s.rc with⟨h,_⟩|⟨_,_,_,_,_,h⟩
   ·exact h
   ·rw[show(gB s).contains m.of=s.rc.any fun r=>r.name==m.of from eK _ _ _,h] at hc;cases hc
  rw[hc] at hX;refine cP hrr ?_;conv=>whnf
  refine gY (bN hno) ?_;conv=>whnf
  exact b8 hX
 |true=>
 rw[hc] at hX;replace hX:=(bK (w:=!true) rfl).symm.trans hX;obtain⟨ir,hr1,hr2⟩:=rA hc;obtain⟨r1,r2,_⟩:=hr _ (aL hr2);rw[hr1] at hrr;refine cP hrr ?_;conv=>whnf
 refine cP (z6 t htl m.of) ?_;conv=>whnf
 refine aE (fun h=>?_) (fun h=>?_)<;>conv=>whnf
 ·exact b8 ((b4 h).symm.trans hX)
 replace hX:=(bK h).symm.trans hX;refine aE (fun h=>?_) (fun h=>?_)<;>conv=>whnf
 ·exact b8 ((b4 (XF h)).symm.trans hX)
 refine aE (fun h2=>?_) (fun h2=>?_)<;>conv=>whnf
 ·exact b8 ((b4 (XE h2)).symm.trans hX)
 replace hX:=(bK (XD h h2)).symm.trans hX;clear h h2;refine aE (fun h=>?_) (fun h=>?_)<;>conv=>whnf
 ·exact b8 ((aF (by simpa[bA] using h)).symm.trans hX)
 replace hX:=(aD (by simpa[bA] using h)).symm.trans hX;refine aE (fun h=>?_) (fun h=>?_)<;>conv=>whnf
 ·exact b8 ((b4 h).symm.trans hX)
 replace hX:=(bK h).symm.trans hX;obtain⟨io,ho1,ho2⟩:=rA (ho (by simpa using h));have hgo:=hg _ (aL ho2);obtain⟨o1,o2,_⟩:=hr _ (aL ho2);have hro:=lQ s hl t.owner;rw[ho1] at hro;generalize eQ s t.owner=o at*;generalize eQ s m.of=r at*;refine GDraw.wildT [none,some 0,some 0,none,some 1,none,none,none,some 3,some 3] rfl rfl (by kernel_rfl) ?_;conv=>whnf
 refine cP hro ?_;conv=>whnf
 refine ix (cI ho2) ⟨rfl,?_⟩;conv=>whnf
 refine st ?_;conv=>whnf
 refine aE (fun h=>?_) (fun h=>?_)<;>conv=>whnf
 ·exact b8 ((b4 (by rw[show(o.place !=2)=true from h];rfl)).symm.trans hX)
 have hp:(o.place !=2)=false:=h;rw[hp] at hX;refine aE (fun h=>?_) (fun h=>?_)<;>conv=>whnf
 ·exact b8 ((b4 h).symm.trans hX)
 replace hX:=(bK h).symm.trans hX;refine aE (fun h=>?_) (fun h=>?_)<;>conv=>whnf
 ·have h8:¬(m.sel.length:Int)=o.keys.length:=by simpa[bA] using h
  exact b8 ((b4 (by simp;omega)).symm.trans hX)
 have hlk:m.sel.length=o.keys.length:=by
  have h8:(m.sel.length:Int)=o.keys.length:=by simpa[bA] using h
  omega
 replace hX:=(bK (by rw[hlk];simp)).symm.trans hX;refine cW 4 m.sel.length (fun j _=>∀a n,a<j->m.sel[a]?=some n->FT o r a n=0) (fun j _=>[(3,.ptr 0 0),(4,.ptr 1 0),(7,.ptr 2 0),(8,.i .i64 (ir:Nat)),(9,.ptr 3 0),(10,.i .i64 (j:Nat))])
  (fun j (_:Unit)=>[.box 26 (sQ s),.box 39 (M5 t),.box 46 (mbC m),.box 35 (WP o)]) [] () (fun j n h=>absurd h (dJ j)) (fun j _ φ1 hj hok=>?_)
 conv=>whnf
 refine aE (fun h=>?_) (fun h=>?_)<;>conv=>whnf
 rotate_left
 ·exact b8 ((n6 fun a z hz=>hok a z (by have:=aC h;rw[aP] at this;have:=(List.getElem?_eq_some_iff.1 hz).1;omega) hz).symm.trans hX)
 have hlt:j<m.sel.length:=by have:=aB h;rw[aP] at this;omega
 refine(gV hlt).elim fun n hn=>?_;refine(gV (show j<o.keys.length by omega)).elim fun n' hn'=>?_;have bad:∀{e:Int},FT o r j n=e->e≠0->e=xe:=fun he h0=>he.symm.trans ((n7 hn (by rw[he];exact h0) hok).symm.trans hX);have hk':(o.keys[j]?).getD []=n':=by rw[hn'];rfl
 have hra:=tS r.its r1 n;refine aZ (by kernel_rfl) ?_;conv=>whnf
 refine ix (cI hr2) ⟨rfl,?_⟩;conv=>whnf
 refine ix (cI hn) ⟨rfl,?_⟩;conv=>whnf
 refine(Bool.eq_false_or_eq_true (r.its.any (·.name==n))).elim (fun hc=>?_) (fun hc=>?_);rotate_left
 ·refine cP hra ?_;conv=>whnf
  refine gY (by rw[show decide (m8 (fun a:Itm=>a.name==n) r.its<0)=!r.its.any fun a=>a.name==n from nM _ _,hc];rfl) ?_;conv=>whnf
  exact b8 (bad (b4 (by rw[hc];rfl)) (by decide))
 refine(KK hc).elim fun x hx=>hx.elim fun z hz=>?_;rw[hz.1] at hra;refine(KK (hgo.2 (by simpa using hp) n' (aL hn'))).elim fun x' hx'=>hx'.elim fun z' hz'=>?_;have hoa:=tS o.its o1 n';rw[hz'.1] at hoa;refine cP hra ?_;conv=>whnf
 refine aZ (by kernel_rfl) ?_;conv=>whnf
 refine ix (cI hr2) ⟨rfl,?_⟩;conv=>whnf
 refine ix (cI hz.2.1) ⟨rfl,?_⟩;conv=>whnf
 refine ix (cI hn') ⟨rfl,?_⟩;conv=>whnf
 refine cP hoa ?_;conv=>whnf
 refine ix (cI hz'.2.1) ⟨rfl,?_⟩;conv=>whnf
 have hJ:FT o r j n=dX (iE r.its n !=iE o.its n') 10 0:=by rw[<-hk'];exact bK (by rw[hc];rfl)
 rw[hz.2.2,hz'.2.2] at hJ;refine aE (fun h5=>?_) (fun h5=>?_)<;>conv=>whnf
 ·exact b8 (bad (hJ.trans (b4 h5)) (by decide))
 exact nx () hlt ⟨hlt,kI hn (hJ.trans (bK h5)) hok⟩
def a2b:List (Option Nat):=[none,some 0,some 0,none,some 1,none,none,none,none,none,none,none,some 2,some 2]
abbrev WJ (s:Sch) (t:Sy):List GObj:=[.box 26 (sQ s),.box 39 (M5 t)]
set_option maxHeartbeats 8000000 in
theorem WQ [MaxL] (s:Sch) (hz:mA s) (t:Sy) (htl:t.ms.length<bB) (hkl:t.keys.length<bB) (hm:∀m∈t.ms,(gB s).contains m.of=true) (hg:∀r∈s.rc,M1 kU r):
  SC Tryz.prog 131 [nO s,zT t] [] (.val (.i .i64 (wB s t))) []:=by
 obtain⟨⟨ha,hl,ht⟩,hr,hst⟩:=hz;unfold bB at htl hkl;generalize hX:wB s t=xe;refine dF I2 mixed Tryz.func131 rfl (bL rfl) (by first|exact rL _|simp) rfl ?_;conv=>whnf
 refine aE (fun h=>?_) (fun h=>?_)<;>rw[j5] at h<;>conv=>whnf
 ·exact b8 ((b4 (XF h)).symm.trans hX)
 refine aE (fun h2=>?_) (fun h2=>?_)<;>rw[j5] at h2<;>conv=>whnf
 ·exact b8 ((b4 (XE h2)).symm.trans hX)
 replace hX:=(bK (XD h h2)).symm.trans hX;have badK:∀{e:Int},kX (l6 s t) t.keys=e->e≠0->e=xe:=fun he h0=>(by rw[he,oZ h0] at hX;exact hX);refine cW 2 t.keys.length (fun k _=>∀j y,j<k->t.keys[j]?=some y->l6 s t j y=0) (fun k _=>[(2,.ptr 0 0),(3,.ptr 1 0),(5,.i .i64 (k:Nat))]) (fun k (_:Unit)=>WJ s t) [] () (fun j n h=>absurd h (dJ j)) (fun k _ φ1 hk hok=>?_);conv=>whnf
 refine aE (fun h=>?_) (fun h=>?_)<;>conv=>whnf
 rotate_left
 ·have h0:kX (l6 s t) t.keys=0:=n6 fun j z hz=>hok j z (by have:=aC h;rw[j5] at this;have:=(List.getElem?_eq_some_iff.1 hz).1;omega) hz;rw[oY h0] at hX;refine aE (fun h=>?_) (fun h=>?_)<;>conv=>whnf
  ·exact b8 ((b4 (XF h)).symm.trans hX)
  refine aE (fun h2=>?_) (fun h2=>?_)<;>conv=>whnf
  ·exact b8 ((b4 (XE h2)).symm.trans hX)
  exact b8 ((bK (XD h h2)).symm.trans hX)
 have hlt:k<t.keys.length:=by have:=aB h;rw[j5] at this;omega
 refine(gV hlt).elim fun y hy=>?_;have bad:∀{e:Int},l6 s t k y=e->e≠0->e=xe:=fun he h0=>badK ((n7 hy (by rw[he];exact h0) hok).trans he) h0;refine cW 2 t.ms.length (fun j _=>∀m∈t.ms.take j,(eQ s m.of).its.any (·.name==y.item)=true) (fun j _=>[(2,.ptr 0 0),(3,.ptr 1 0),(5,.i .i64 (k:Nat)),(6,.i .i64 0),(7,.i .i64 (j:Nat))])
  (fun j (_:Unit)=>WJ s t) [] () (fun m h=>by simp at h) (fun j _ φ2 hj hall=>?_)
 conv=>whnf
 refine aE (fun h=>?_) (fun h=>?_)<;>conv=>whnf
 ·have hlt2:j<t.ms.length:=by have:=aB h;rw[iT] at this;omega
  refine(gV hlt2).elim fun m hm2=>?_;refine(rA (hm m (aL hm2))).elim fun ir hir=>?_;have hrr:=lQ s hl m.of;rw[hir.1] at hrr;refine GDraw.wildT a2b rfl rfl (by kernel_rfl) ?_;conv=>whnf
  refine ix (cI hm2) ⟨rfl,?_⟩;conv=>whnf
  refine cP hrr ?_;conv=>whnf
  refine ix (cI hir.2) ⟨rfl,?_⟩;conv=>whnf
  refine st ?_;conv=>whnf
  refine aZ (by kernel_rfl) ?_;conv=>whnf
  refine ix (cI hy) ⟨rfl,?_⟩;conv=>whnf
  refine cP (tS _ (hr _ (aL hir.2)).1 y.item) ?_;conv=>whnf
  refine aE (fun h4=>?_) (fun h4=>?_)<;>rw[nM] at h4<;>conv=>whnf
  ·exact b8 (bad (b4 (by rw[n9 hm2 (U9 h4)];rfl)) (by decide))
  exact nx () hlt2 ⟨hlt2,sN hm2 (by simpa using h4) hall⟩
 have hall':=rV (p:=fun m:Mb=>(eQ s m.of).its.any (·.name==y.item)) (by have:=aC h;rw[iT] at this;omega) hall;have hp1:l6 s t k y=dX (!(t.ms.all fun m=>iE (eQ s m.of).its y.item==iE (eQ s ((t.ms.head?.map (·.of)).getD [])).its y.item)) 10 (dX (((t.keys.take k).map (·.item)).contains y.item) 6 0):=bK (by rw[hall'];rfl);have hd:∀m,t.ms[0]?=some m->iE (eQ s m.of).its y.item=iE (eQ s ((t.ms.head?.map (·.of)).getD [])).its y.item:=fun m hm9=>by
  cases hms:t.ms with
  |nil=>rw[hms] at hm9;cases hm9
  |cons x l=>rw[hms] at hm9;cases hm9;rfl
 generalize iE (eQ s ((t.ms.head?.map (·.of)).getD [])).its y.item=F at*;refine cW 2 t.ms.length (fun j (b:Int)=>(∀m∈t.ms.take j,(iE (eQ s m.of).its y.item==F)=true)/\b=if j=0 then 0 else F) (fun j (b:Int)=>[(2,.ptr 0 0),(3,.ptr 1 0),(5,.i .i64 (k:Nat)),(6,.i .i64 b),(9,.i .i64 (j:Nat))])
  (fun j _=>WJ s t) [] 0 ⟨fun m h=>by simp at h,rfl⟩ (fun j b φ2 hj hb=>?_)
 refine hb.elim fun hall2 hb=>?_;conv=>whnf
 refine aE (fun h=>?_) (fun h=>?_)<;>conv=>whnf
 ·have hlt2:j<t.ms.length:=by have:=aB h;rw[iT] at this;omega
  refine(gV hlt2).elim fun m hm2=>?_;refine(rA (hm m (aL hm2))).elim fun ir hir=>?_;have hrr:=lQ s hl m.of;rw[hir.1] at hrr;have hia:=List.all_eq_true.1 hall' m (aL hm2);refine(KK hia).elim fun x hx=>hx.elim fun z hz=>?_;have hra:=tS _ (hr _ (aL hir.2)).1 y.item;rw[hz.1] at hra;refine GDraw.wildT a2b rfl rfl (by kernel_rfl) ?_;conv=>whnf
  refine ix (cI hm2) ⟨rfl,?_⟩;conv=>whnf
  refine cP hrr ?_;conv=>whnf
  refine ix (cI hir.2) ⟨rfl,?_⟩;conv=>whnf
  refine st ?_;conv=>whnf
  refine aZ (by kernel_rfl) ?_;conv=>whnf
  refine ix (cI hy) ⟨rfl,?_⟩;conv=>whnf
  refine cP hra ?_;conv=>whnf
  refine ix (cI hz.2.1) ⟨rfl,?_⟩;conv=>whnf
  refine aE (fun h4=>?_) (fun h4=>?_)<;>conv=>whnf
  ·have hj0:j=0:=by simpa using h4
   have h6:(iE (eQ s m.of).its y.item==F)=true:=by rw[hd m (by rw[<-hj0];exact hm2)];simp
   refine gN (show(z.k !=z.k)=false by simp) ?_;(conv=>whnf);exact nx z.k hlt2 ⟨hlt2,sN hm2 h6 hall2,by rw[aD (Nat.succ_ne_zero _),<-hz.2.2];exact eq_of_beq h6⟩
  ·have hj0:j≠0:=by simpa using h4
   rw[aD hj0] at hb;refine aE (fun h5=>?_) (fun h5=>?_)<;>conv=>whnf
   ·exact b8 (bad (hp1.trans (b4 (by rw[n9 hm2 (by rw[hz.2.2,<-hb];simpa using h5)];rfl))) (by decide))
   have h6:(iE (eQ s m.of).its y.item==F)=true:=by rw[hz.2.2,<-hb];simpa using h5
   exact nx b hlt2 ⟨hlt2,sN hm2 h6 hall2,by rw[aD (Nat.succ_ne_zero _)];exact hb⟩
 have hp2:=hp1.trans (bK (by rw[rV (by have:=aC h;rw[iT] at this;omega) hall2];rfl));rw[eK] at hp2;refine cW 2 k (fun j _=>∀z∈t.keys.take j,(z.item==y.item)=false) (fun j _=>[(2,.ptr 0 0),(3,.ptr 1 0),(5,.i .i64 (k:Nat)),(12,.i .i64 (j:Nat))])
  (fun j (_:Unit)=>WJ s t) [] () (fun m h=>by simp at h) (fun j _ φ2 hj hno=>?_)
 conv=>whnf
 refine aE (fun h=>?_) (fun h=>?_)<;>conv=>whnf
 ·have hlt2:j<k:=by have:=aB h;omega
  refine(gV (show j<t.keys.length by omega)).elim fun z hz=>?_;refine aZ (by kernel_rfl) ?_;conv=>whnf
  refine ix (cI hz) ⟨rfl,?_⟩;conv=>whnf
  refine ix (cI hy) ⟨rfl,?_⟩;conv=>whnf
  refine aE (fun h4=>?_) (fun h4=>?_)<;>conv=>whnf
  ·exact b8 (bad (hp2.trans (b4 (List.any_eq_true.2 ⟨z,List.mem_take_iff_getElem.2 ⟨j,by have:=(List.getElem?_eq_some_iff.1 hz).1;omega,(List.getElem?_eq_some_iff.1 hz).2⟩,h4⟩))) (by decide))
  exact nx () hlt2 ⟨hlt2,CQ (p:=fun z:Ky=>z.item==y.item) hz h4 hno⟩
 have hjk:j=k:=by have:=aC h;omega
 subst hjk;exact nx () hlt ⟨hlt,kI hy (hp2.trans (bK (List.any_eq_false.2 fun z hz=>by rw[hno z hz];decide))) hok⟩
