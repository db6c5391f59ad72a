/-
  A part of the proof of SchemaFinds.
-/
import Derived.Test.YtcfgfkkhpdlhpaaGreatDoorT44
set_option linter.all false
set_option maxRecDepth 100000
namespace Go.Proofs.YtcfgfkkhpdlhpaaGreatDoor
open Go.RowKit
theorem a1b [MaxL] (I V:List Itm) (hI:I.length<bH) (hV:V.length<bH) (t:Term):SC Tryz.prog 233 [.agg (VS t),.sl .none (fU I),.sl .none (fU V)] [] (.val (.i .i64 (iY I V t))) []:=by
 obtain⟨nm,vr,v⟩:=t;have hI':=a2b I hI nm;have hV':=a2b V hV nm;unfold iY;by_cases hn:nm=[]
 ·subst hn;rw[aG rfl];cases vr with
  |true=>
   refine cZ Tryz.func233 rfl ?_;(conv=>whnf);exact bI rfl
  |false=>
   refine cZ Tryz.func233 rfl ?_;(conv=>whnf);exact bI rfl
 ·rw[aE hn];cases vr with
  |true=>
   rcases AB V nm with⟨h1,h2⟩|⟨j,y,h1,h2,h3⟩
   ·rw[h1] at hV';simp only[fP,h2];refine cZ Tryz.func233 rfl ?_;(conv=>whnf);refine aF (fun hz=>?_) (fun hz=>?_)<;>conv=>whnf
    rotate_left
    ·exact absurd (by simpa using hz) hn
    refine bG hV' (wR _) rfl (cC (bV (d8 V)) (cC (.s _) .nil)) (.i _ _) ?_;(conv=>whnf);exact bI rfl
   ·rw[h1] at hV';simp only[fP,h3];refine cZ Tryz.func233 rfl ?_;(conv=>whnf);refine aF (fun hz=>?_) (fun hz=>?_)<;>conv=>whnf
    rotate_left
    ·exact absurd (by simpa using hz) hn
    refine bG hV' (wR _) rfl (cC (bV (d8 V)) (cC (.s _) .nil)) (.i _ _) ?_;(conv=>whnf);refine⟨cN _,_,by rw[aC];exact nJ h2,rfl,?_⟩;(conv=>whnf);exact bI rfl
  |false=>
   rcases AB I nm with⟨h1,h2⟩|⟨j,y,h1,h2,h3⟩
   ·rw[h1] at hI';simp only[bT,fR,h2];refine cZ Tryz.func233 rfl ?_;(conv=>whnf);refine aF (fun hz=>?_) (fun hz=>?_)<;>conv=>whnf
    rotate_left
    ·exact absurd (by simpa using hz) hn
    refine bG hI' (wR _) rfl (cC (bV (d8 I)) (cC (.s _) .nil)) (.i _ _) ?_;(conv=>whnf);exact bI rfl
   ·rw[h1] at hI';simp only[bT,fR,h3];refine cZ Tryz.func233 rfl ?_;(conv=>whnf);refine aF (fun hz=>?_) (fun hz=>?_)<;>conv=>whnf
    rotate_left
    ·exact absurd (by simpa using hz) hn
    refine bG hI' (wR _) rfl (cC (bV (d8 I)) (cC (.s _) .nil)) (.i _ _) ?_;(conv=>whnf);refine⟨cN _,_,by rw[aC];exact nJ h2,rfl,?_⟩;(conv=>whnf);exact bI rfl
theorem UZ [MaxL] {j:Nat} (h:j<100000):GV.i .i64 (IntKind.i64.wrap (((2*j:Nat):Int)+2))=.i .i64 ((2*(j+1):Nat):Int):=by
 rw[cD (by omega) (by omega)];congr 1
theorem OQ {L:List Term} {i:Nat} {y:Term} (h:L[i]?=some y):(y9 L)[i]?=some (.agg (VS y)):=by
 unfold y9;rw[aM,h];rfl
theorem MZ (t:Tree):(dD t).length=2*(m7 t).length:=by
 rw[oK];induction m7 t with
 |nil=>rfl
 |cons p l ih=>simp only[f9,aD,aJ,b5];omega
theorem NV:∀(l:List (Term×Term)) (j:Nat) (p:Term×Term),l[j]?=some p->(l.flatMap fun p=>[p.1,p.2])[2*j]?=some p.1/\(l.flatMap fun p=>[p.1,p.2])[2*j+1]?=some p.2
 |[],j,p,h=>by simp at h
 |q::l,0,p,h=>by
  simp at h;subst h;simp
 |q::l,j+1,p,h=>by
  have:=NV l j p (by simpa using h);rw[show 2*(j+1)=2*j+1+1 by omega];simpa using this
theorem TZ {t:Tree} {j:Nat} {p:Term×Term} (h:(m7 t)[j]?=some p):(dD t)[2*j]?=some p.1/\(dD t)[2*j+1]?=some p.2:=by
 rw[oK];exact NV _ _ _ h
theorem AU {α:Type} {f:α->Bool} {l:List α} {i:Nat} {y:α} (h:(l.take i).any f=false) (hy:l[i]?=some y):(l.take (i+1)).any f=f y:=by
 rw[bR,hy,List.any_append,h];simp
theorem SQ {α:Type} {f:α->Bool} {l:List α} {i:Nat} {y:α} (hy:l[i]?=some y) (h:f y=true):l.any f=true:=List.any_eq_true.2 ⟨y,aK hy,h⟩
theorem ZM [MaxL] (I V:List Itm) (hI:I.length<bH) (hV:V.length<bH) (t:Tree) (hz:t.size<=5000):SC Tryz.prog 191 [t.ng,.sl .none (fU I),.sl .none (fU V)] [] (.val (.i .i64 (rK I V t))) []:=by
 have hsd:=JL 5000 t hz hz;have hll:=oL t;have hl2:=MZ t;have hat:=fun j p=>@TZ t j p;have hk:=a1b I V hI hV;have hcl:=t.ng_cl;obtain⟨k,kids,A,B,op,yes,hng⟩:=iW t;rw[hng] at hsd hcl⊢;have hncl:ClL (k9 k kids A B op yes):=by
  have h9:t.ncs=k9 k kids A B op yes:=by
   have h8:GV.agg t.ncs=GV.agg (k9 k kids A B op yes):=hng;injection h8
  rw[<-h9];exact t.ncs_cl
 unfold rK;generalize dD t=L at*;generalize m7 t=T at*;have hsl:=m8 L;refine cZ Tryz.func191 rfl ?_;conv=>whnf
 refine bG hsd (wR _) rfl (cC hcl .nil) (bV (w7 _)) ?_;conv=>whnf
 have hLm:L.length<=10000:=by omega
 refine fI (fun i:Nat=>i<=L.length/\(L.take i).any (fun x=>iY I V x==0)=false) (fun i=>[(1,.sl .none (fU I)),(2,.sl .none (fU V)),(7,.sl .none (y9 L)),(8,.i .i64 (i:Nat))])
  (fun _=>⟨[.box 211 (k9 k kids A B op yes)],0,[]⟩) (fun i=>L.length - i) 0 ⟨zL _,rfl⟩ ⟨rfl,rfl,rfl,rfl,trivial⟩ rfl (fun _ _=>rL _) (fun _ _=>rfl) (fun i _ e he=>?_) (fun i φ0 hi=>?_)
 ·refine⟨?_,rfl,?_⟩
  ·show[(GObj.box _ (k9 k kids A B op yes)).ren e]=_;rw[eM hncl]
  ·show[(GV.sl .none (fU I)).ren e,(GV.sl .none (fU V)).ren e,(GV.sl .none (y9 L)).ren e,_]=_;rw[bV (d8 I) e,bV (d8 V) e,bV (w7 L) e];rfl
 obtain⟨hi,hni⟩:=hi;conv=>whnf
 refine aF (fun h=>?_) (fun h=>?_)<;>conv=>whnf
 rotate_left
 ·have hie:i=L.length:=by have:=aB h;rw[hsl] at this;omega
  have hn0:L.any (fun x=>iY I V x==0)=false:=by rw[hie,b7] at hni;exact hni
  rw[hn0];simp only[bT,fR];conv=>whnf
  refine fI (fun j:Nat=>j<=T.length/\(T.take j).any (fun p=>iY I V p.1 !=iY I V p.2)=false) (fun j=>[(1,.sl .none (fU I)),(2,.sl .none (fU V)),(7,.sl .none (y9 L)),(9,.i .i64 ((2*j:Nat):Int))])
   (fun _=>⟨[.box 211 (k9 k kids A B op yes)],0,[]⟩) (fun i=>T.length - i) 0 ⟨zL _,rfl⟩ ⟨rfl,rfl,rfl,rfl,trivial⟩ rfl (fun _ _=>rL _) (fun _ _=>rfl) (fun i _ e he=>?_) (fun j φ0 hj=>?_)
  ·refine⟨?_,rfl,?_⟩
   ·show[(GObj.box _ (k9 k kids A B op yes)).ren e]=_;rw[eM hncl]
   ·show[(GV.sl .none (fU I)).ren e,(GV.sl .none (fU V)).ren e,(GV.sl .none (y9 L)).ren e,_]=_;rw[bV (d8 I) e,bV (d8 V) e,bV (w7 L) e];rfl
  obtain⟨hj,hnj⟩:=hj;conv=>whnf
  refine aF (fun h2=>?_) (fun h2=>?_)<;>conv=>whnf
  rotate_left
  ·have hje:j=T.length:=by have:=aB h2;rw[hsl] at this;omega
   refine bI ?_;rw[hje,b7] at hnj;rw[hnj];rfl
  have hlt:j<T.length:=by have:=aA h2;rw[hsl] at this;omega
  obtain⟨p,hp⟩:∃y,T[j]?=some y:=⟨T[j],gL hlt⟩;obtain⟨hp1,hp2⟩:=hat j p hp;have hys:=AU hnj hp;have hk1:=hk p.1;have hk2:=hk p.2;refine b9 (by kernel_rfl) ?_;conv=>whnf
  refine⟨cN _,_,by rw[aC];exact OQ hp1,rfl,?_⟩;conv=>whnf
  refine bG hk1 (wR _) rfl (cC (eO (B7 p.1)) (cC (bV (d8 I)) (cC (bV (d8 V)) .nil))) (.i _ _) ?_;conv=>whnf
  have hw1:IntKind.i64.wrap (((2*j:Nat):Int)+1)=((2*j+1:Nat):Int):=cD (by omega) (by omega);refine⟨by rw[hw1];exact cN _,.agg (VS p.2),by rw[hw1,aC];exact OQ hp2,rfl,?_⟩;conv=>whnf
  refine bG hk2 (wR _) rfl (cC (eO (B7 p.2)) (cC (bV (d8 I)) (cC (bV (d8 V)) .nil))) (.i _ _) ?_;conv=>whnf
  refine aF (fun h3=>?_) (fun h3=>?_)<;>conv=>whnf
  ·have h3':¬iY I V p.1=iY I V p.2:=by simpa using h3
   refine bI ?_;rw[SQ (f:=fun p=>iY I V p.1 !=iY I V p.2) hp (by simpa using h3')];rfl
  ·have h3':iY I V p.1=iY I V p.2:=by simpa using h3
   exact⟨T.length - (j+1),(by show _<T.length - j;omega),j+1,⟨hlt,by rw[hys];simpa using h3'⟩,rfl,⟨rfl,rfl,rfl,UZ (by omega),trivial⟩,_,rfl,rfl⟩
 have hlt:i<L.length:=by have:=aA h;rw[hsl] at this;omega
 obtain⟨y,hy⟩:∃y,L[i]?=some y:=⟨L[i],gL hlt⟩;have hky:=hk y;have hat':=OQ hy;have hys:=AU hni hy;refine⟨cN _,_,by rw[aC];exact hat',rfl,?_⟩;conv=>whnf
 refine bG hky (wR _) rfl (cC (eO (B7 y)) (cC (bV (d8 I)) (cC (bV (d8 V)) .nil))) (.i _ _) ?_;conv=>whnf
 refine aF (fun h0=>?_) (fun h0=>?_)<;>conv=>whnf
 ·have h0':iY I V y=0:=by simpa using h0
  refine bI ?_;rw[SQ hy (by rw[h0'];rfl)];rfl
 ·have h0':¬iY I V y=0:=by simpa using h0
  exact⟨L.length - (i+1),(by show _<L.length - i;omega),i+1,⟨hlt,by rw[hys];simpa using h0'⟩,rfl,⟨rfl,rfl,rfl,b8 (by omega),trivial⟩,_,rfl,rfl⟩
def a0I (I V:List Itm) (s:By):Int:=match lM s with
 |.ok t=>if i7 I&&i7 V then rK I V t else 1
 |.err e=>e
theorem a0H (I V:List Itm) (s:By):a0I I V s=DG I V s:=by
 unfold a0I DG;have hr:=zW s;cases hx:lM s with
 |err e=>rw[hx] at hr;rw[hr]
 |ok t=>
  rw[hx] at hr;rw[hr];simp only;rw[Q8]
theorem ZR [MaxL] (I V:List Itm) (hI:I.length<bH) (hV:V.length<bH) (s:By) (hs:s.length<1000000):SC Tryz.prog 129 [.s s,.sl .none (fU I),.sl .none (fU V)] [] (.val (.i .i64 (a0I I V s))) []:=by
 have hr:=P5 s hs;have hrc:=BB s;unfold lJ at hr hrc;unfold a0I;have h1:=F7 I hI;have h2:=F7 V hV;cases hx:lM s with
 |err e=>
  rw[hx] at hr hrc;replace hr:SC Tryz.prog 190 [.s s] [] (.val (.tup [tN,.i .i64 e])) []:=hr;replace hrc:Cl (.tup [tN,.i .i64 e]):=hrc;have he:=BA hx;simp only;rcases he with rfl|rfl|rfl;all_goals
   refine cZ Tryz.func129 rfl ?_;(conv=>whnf);refine bG hr (wR _) rfl (fun _=>rfl) hrc ?_;(conv=>whnf);refine⟨_,⟨rfl,zL _,rfl,bL rfl⟩,?_⟩;(conv=>whnf);exact bI rfl
 |ok t=>
  rw[hx] at hr hrc;replace hr:SC Tryz.prog 190 [.s s] [] (.val (.tup [t.ng,.i .i64 0])) []:=hr;replace hrc:Cl (.tup [t.ng,.i .i64 0]):=hrc;have hz:=F2 hx;have h3:=ZM I V hI hV t (by omega);have hcl:=t.ng_cl;obtain⟨k,kids,A,B,op,yes,hng⟩:=iW t;rw[hng] at hr hrc h3 hcl;simp only;cases k1:i7 I with
  |false=>
   rw[k1] at h1;refine cZ Tryz.func129 rfl ?_;(conv=>whnf);refine bG hr (wR _) rfl (fun _=>rfl) hrc ?_;(conv=>whnf);refine⟨_,⟨rfl,zL _,rfl,bL rfl⟩,?_⟩;(conv=>whnf);refine bG h1 (wR _) rfl (cC (bV (d8 I)) .nil) (.b _) ?_;(conv=>whnf);exact bI rfl
  |true=>
   rw[k1] at h1;cases k2:i7 V with
   |false=>
    rw[k2] at h2;refine cZ Tryz.func129 rfl ?_;(conv=>whnf);refine bG hr (wR _) rfl (fun _=>rfl) hrc ?_;(conv=>whnf);refine⟨_,⟨rfl,zL _,rfl,bL rfl⟩,?_⟩;(conv=>whnf);refine bG h1 (wR _) rfl (cC (bV (d8 I)) .nil) (.b _) ?_;(conv=>whnf);refine bG h2 (wR _) rfl (cC (bV (d8 V)) .nil) (.b _) ?_;(conv=>whnf);exact bI rfl
   |true=>
    rw[k2] at h2;refine cZ Tryz.func129 rfl ?_;(conv=>whnf);refine bG hr (wR _) rfl (fun _=>rfl) hrc ?_;(conv=>whnf);refine⟨_,⟨rfl,zL _,rfl,bL rfl⟩,?_⟩;(conv=>whnf);refine bG h1 (wR _) rfl (cC (bV (d8 I)) .nil) (.b _) ?_;(conv=>whnf);refine bG h2 (wR _) rfl (cC (bV (d8 V)) .nil) (.b _) ?_;(conv=>whnf);refine bG h3 (wR _) rfl (cC hcl (cC (bV (d8 I)) (cC (bV (d8 V)) .nil))) (.i _ _) ?_;(conv=>whnf);exact bI rfl
theorem MA [MaxL] (s:By) (hs:s.length<1000000):SC Tryz.prog 128 [.s s] [] (.val (.b (rM s))) []:=by
 have h:=a1e s hs;rw[VL] at h;unfold rM;generalize zQ s=q at h;obtain⟨x,e⟩:=q;refine cZ Tryz.func128 rfl ?_;conv=>whnf
 refine cP h ?_;conv=>whnf
 refine aF (fun h1=>?_) (fun h1=>?_)<;>conv=>whnf
 ·refine d7 ?_;have h2:e=0:=by simpa using h1
  rw[eZ];simp[h2]
 ·refine d7 ?_;have h2:¬e=0:=by simpa using h1
  simp[h2]
theorem WZ {n lo hi:Int} (h:decide (n<lo)=true):(!vR n lo hi)=true:=by unfold vR;rw[cW (by have:=aA h;omega)];rfl
theorem WY {n lo hi:Int} (h:decide (n>hi)=true):(!vR n lo hi)=true:=by unfold vR;rw[cW (p:=n<=hi) (by have:=aA h;omega),Bool.and_false];rfl
theorem WX {n lo hi:Int} (h1:decide (n<lo)=false) (h2:decide (n>hi)=false):(!vR n lo hi)=false:=by
 unfold vR;rw[bS (by have:=aB h1;omega),bS (by have:=aB h2;omega)];rfl
theorem Y0 (l:List By) (n:By):l.contains n=l.any fun x=>x==n:=by
 have h:=dU (fun x:By=>x) l n;rwa [List.map_id'] at h
theorem tK {n:By}:(n==n)=true:=by simp
theorem a1d [MaxL] (s:Sch) (hl:s.ar.length<bH) (i:Nat) (y:Ar) (hy:s.ar[i]?=some y):SC Tryz.prog 54 [lC s,.i .i64 (i:Nat)] [] (.val (.i .i64 (mO ((dH s).take i) y))) []:=by
 generalize hX:mO ((dH s).take i) y=xe;unfold mO kN at hX;rw[a3R,<-H3 hy tK] at hX;have hn:=BF y.name;refine cZ Tryz.func54 rfl ?_;conv=>whnf
 refine ix (cE hy) ⟨rfl,?_⟩;conv=>whnf
 refine st ?_;conv=>whnf
 refine cP hn ?_;conv=>whnf
 refine aF (fun h=>?_) (fun h=>?_)<;>conv=>whnf
 ·exact bI ((b4 (by rw[h];rfl)).symm.trans hX)
 rw[h] at hX;refine aF (fun h=>?_) (fun h=>?_)<;>conv=>whnf
 ·exact bI ((b4 h).symm.trans hX)
 replace hX:=(bK h).symm.trans hX;refine cP (wA s hl y.name) ?_;conv=>whnf
 refine aF (fun h=>?_) (fun h=>?_)<;>conv=>whnf
 ·exact bI ((b4 h).symm.trans hX)
 replace hX:=(bK h).symm.trans hX;refine aF (fun h=>?_) (fun h=>?_)<;>conv=>whnf
 ·exact bI ((b4 (WZ h)).symm.trans hX)
 refine aF (fun h2=>?_) (fun h2=>?_)<;>conv=>whnf
 ·exact bI ((b4 (WY h2)).symm.trans hX)
 exact bI ((bK (WX h h2)).symm.trans hX)
set_option maxHeartbeats 8000000 in
theorem WD [MaxL] (s:Sch) (hz:kI s) (hc:∀r∈s.rc,r.check.length<1000000) (i:Nat) (y:Rc) (hy:s.rc[i]?=some y):SC Tryz.prog 55 [lC s,.i .i64 (i:Nat)] [] (.val (.i .i64 (yT s i y))) []:=by
 obtain⟨⟨ha,hl,ht⟩,hr,hst⟩:=hz;obtain⟨y1,y2,y3⟩:=hr y (aK hy);have y4:=hc y (aK hy);generalize hX:yT s i y=xe;unfold yT JK kN at hX;rw[a3Q,<-H3 hy tK,<-lP,show(dH s).contains y.area=s.ar.any fun a=>a.name==y.area from dU _ _ _,<-nP] at hX;have hn:=BF y.name;refine cH vO mixed Tryz.func55 rfl (bL rfl) (by first|exact rL _|simp) rfl ?_;conv=>whnf
 refine ix (cE hy) ⟨rfl,?_⟩;conv=>whnf
 refine st ?_;conv=>whnf
 refine cP hn ?_;conv=>whnf
 refine aF (fun h=>?_) (fun h=>?_)<;>conv=>whnf
 ·exact bI ((b4 (by rw[h];rfl)).symm.trans hX)
 rw[h] at hX;refine aF (fun h=>?_) (fun h=>?_)<;>conv=>whnf
 ·exact bI ((b4 h).symm.trans hX)
 replace hX:=(bK h).symm.trans hX;refine cP (wA s ha y.name) ?_;conv=>whnf
 refine aF (fun h=>?_) (fun h=>?_)<;>conv=>whnf
 ·exact bI ((b4 (by rw[show decide (0<=m6 (fun x:Ar=>x.name==y.name) s.ar)=true from h];rfl)).symm.trans hX)
 rw[show decide (0<=m6 (fun x:Ar=>x.name==y.name) s.ar)=false from h] at hX;refine cP (lU s hl y.name) ?_;conv=>whnf
 refine aF (fun h=>?_) (fun h=>?_)<;>conv=>whnf
 ·exact bI ((b4 h).symm.trans hX)
 replace hX:=(bK h).symm.trans hX;refine cP (wA s ha y.area) ?_;conv=>whnf
 refine aF (fun h=>?_) (fun h=>?_)<;>conv=>whnf
 ·exact bI ((b4 h).symm.trans hX)
 replace hX:=(bK h).symm.trans hX;refine cP (HC y.its y1) ?_;conv=>whnf
 refine aF (fun h=>?_) (fun h=>?_)<;>conv=>whnf
 ·exact bI ((b4 (by rw[show(!kY y.its)=true from h];rfl)).symm.trans hX)
 rw[show(!kY y.its)=false from h] at hX;refine aF (fun h=>?_) (fun h=>?_)<;>conv=>whnf
 ·exact bI ((b4 (WZ h)).symm.trans hX)
 refine aF (fun h2=>?_) (fun h2=>?_)<;>conv=>whnf
 ·exact bI ((b4 (WY h2)).symm.trans hX)
 replace hX:=(bK (WX h h2)).symm.trans hX;have badK:∀{e:Int},tS y=e->e≠0->e=xe:=fun he h0=>by rw[he,oX h0] at hX;exact hX
 unfold bH at y2;refine aF (fun hp=>?_) (fun hp=>?_)<;>conv=>whnf
 focus
  have hK:tS y=dZ (!vR y.keys.length 1 4) 11 (l5 (K8 y) y.keys):=aG (by simpa using hp);refine aF (fun h=>?_) (fun h=>?_)<;>rw[aP] at h<;>conv=>whnf
  ·exact bI (badK (hK.trans (b4 (WZ h))) (by decide))
  refine aF (fun h2=>?_) (fun h2=>?_)<;>rw[aP] at h2<;>conv=>whnf
  ·exact bI (badK (hK.trans (b4 (WY h2))) (by decide))
  replace hK:=hK.trans (bK (WX h h2));refine cK 2 y.keys.length (fun k _=>∀j n,j<k->y.keys[j]?=some n->K8 y j n=0) (fun k _=>[(2,.ptr 0 0),(5,.ptr 1 0),(6,.i .i64 (k:Nat))]) (fun k (_:Unit)=>[.box 26 (lI s),.box 35 (YM y)]) [] () (fun j n h=>absurd h (cM j)) (fun k _ φ1 hk hok2=>?_);conv=>whnf
  refine aF (fun h=>?_) (fun h=>?_)<;>conv=>whnf
  ·have hlt2:k<y.keys.length:=by have:=aA h;rw[aP] at this;omega
   refine(gQ hlt2).elim fun n hn2=>?_;have badJ:∀{e:Int},K8 y k n=e->e≠0->e=xe:=fun he h0=>badK (hK.trans ((n7 hn2 (by rw[he];exact h0) hok2).trans he)) h0;have hJ:K8 y k n=dZ (decide (m6 (fun x:Itm=>x.name==n) y.its<0)) 5 (dZ (decide (m6 (fun a:By=>a==n) y.keys<(k:Int))) 6 0):=by
    rw[H3 (p:=fun a:By=>a==n) hn2 tK,nP,<-Y0];rfl
   refine b9 (by kernel_rfl) ?_;(conv=>whnf);refine ix (cE hn2) ⟨rfl,?_⟩;(conv=>whnf);refine cP (w9 y.its y1 n) ?_;(conv=>whnf);refine aF (fun h=>?_) (fun h=>?_)<;>conv=>whnf
   ·exact bI (badJ (hJ.trans (b4 h)) (by decide))
   replace hJ:=hJ.trans (bK h);refine b9 (by kernel_rfl) ?_;(conv=>whnf);refine ix (cE hn2) ⟨rfl,?_⟩;(conv=>whnf);refine cP (R5 y.keys (by unfold bH;omega) n) ?_;(conv=>whnf);refine aF (fun h=>?_) (fun h=>?_)<;>conv=>whnf
   ·exact bI (badJ (hJ.trans (b4 h)) (by decide))
   exact nx () hlt2 ⟨hlt2,kK hn2 (hJ.trans (bK h)) hok2⟩
  have hK0:tS y=0:=hK.trans (n6 fun j z hz=>hok2 j z (by have:=aB h;rw[aP] at this;have:=(List.getElem?_eq_some_iff.1 hz).1;omega) hz)
 rotate_left;focus
  have hK:tS y=dZ (!y.keys.isEmpty||y.dups) 1 0:=aE (by simpa using hp);refine aF (fun h3=>?_) (fun h3=>?_)<;>conv=>whnf
  ·exact bI (badK (hK.trans (b4 (by have:((aZ y.keys).length:Int)>0:=aA h3;rw[aP] at this;cases hk:y.keys with|nil=>rw[hk] at this;exact absurd this (by decide)|cons a l=>rfl))) (by decide))
  have hke:y.keys.isEmpty=true:=by have:¬((aZ y.keys).length:Int)>0:=aB h3;rw[aP] at this;cases hk:y.keys with|nil=>rfl|cons a l=>rw[hk] at this;simp at this
  rw[hke] at hK;refine aF (fun h4=>?_) (fun h4=>?_)<;>conv=>whnf
  ·exact bI (badK (hK.trans (b4 h4)) (by decide))
  have hK0:tS y=0:=hK.trans (bK h4)
 all_goals
  rw[oW hK0] at hX;have badV:∀{e:Int},H7 s y=e->e≠0->e=xe:=fun he h0=>by rw[he,oX h0] at hX;exact hX
  refine aF (fun hv=>?_) (fun hv=>?_)<;>conv=>whnf
  focus
   have hV:H7 s y=dZ (match s.st.find? (·.name==y.via) with|none=>true|some t=>!(t.ms.any (·.of==y.name))) 5 0:=aG (by simpa using hv);have hset:=DR s ht y.via;refine(j5 (fun t:Sy=>t.name==y.via) s.st).elim (fun⟨h5,h6,_⟩=>?_) (fun⟨j,t,h5,h6,h7,_⟩=>?_)
   ·refine cP hset ?_;(conv=>whnf);refine b9 (by kernel_rfl) ?_;(conv=>whnf);refine gY (bS h5) ?_;(conv=>whnf);exact bI (badV (e:=5) (by rw[hV,h6];rfl) (by decide))
   rw[h5] at hset;rw[h7] at hV;refine cP hset ?_;(conv=>whnf);refine b9 (by kernel_rfl) ?_;(conv=>whnf);refine ix (cE h6) ⟨rfl,?_⟩;(conv=>whnf);refine cP (yW t (hst t (aK h6)).1 y.name) ?_;(conv=>whnf);refine aF (fun h8=>?_) (fun h8=>?_)<;>conv=>whnf
   ·exact bI (badV (hV.trans (b4 ((nP _ _).symm.trans h8))) (by decide))
   replace hV:=hV.trans (bK ((nP _ _).symm.trans h8))
  rotate_left;focus
   have hV:H7 s y=dZ (y.via !=[]) 1 0:=aE (by simpa using hv);refine aF (fun h4=>?_) (fun h4=>?_)<;>conv=>whnf
   ·exact bI (badV (hV.trans (b4 h4)) (by decide))
   replace hV:=hV.trans (bK h4)
  all_goals
   rw[oW ‹H7 s y=0›] at hX;refine aF (fun hc=>?_) (fun hc=>?_)<;>conv=>whnf
   rotate_left
   ·exact bI ((aG (by simpa using hc)).symm.trans hX)
   replace hX:=(aE (by simpa using hc)).symm.trans hX;refine cP (MA y.check y4) ?_;(conv=>whnf);refine aF (fun h=>?_) (fun h=>?_)<;>conv=>whnf
   ·exact bI ((b4 h).symm.trans hX)
   replace hX:=(bK h).symm.trans hX;refine cP (ZR y.its [] y1 (by decide) y.check y4) ?_ (wC (cY _) (wC (cY _) (wC (bE _ _) (wR _))));(conv=>whnf);exact bI (by rw[a0H];exact hX)
theorem K9 {l:List Itm} {n:By} (h:l.any (·.name==n)=true):∃(x:Nat) (y:Itm),m6 (fun a:Itm=>a.name==n) l=x/\l[x]?=some y/\iK l n=y.k:=by
 rcases j5 (fun x:Itm=>x.name==n) l with⟨_,_,h3⟩|⟨i,y,h1,h2,h3,_⟩
 ·rw[h3] at h;cases h
 ·exact⟨i,y,h1,h2,by unfold iK;rw[h3]⟩
set_option maxHeartbeats 8000000 in
theorem WK [MaxL] (s:Sch) (hz:kI s) (t:Sy) (htl:t.ms.length<bH) (k:Nat) (m:Mb) (hmk:t.ms[k]?=some m) (hml:m.sel.length<bH) (ho:t.owner≠[]->(eJ s).contains t.owner=true) (hg:∀r∈s.rc,LQ kY r):
  SC Tryz.prog 130 [lC s,xZ t,.i .i64 (k:Nat)] [] (.val (.i .i64 (pL s t k m))) []:=by
 obtain⟨⟨ha,hl,ht⟩,hr,hst⟩:=hz;unfold bH at hml;generalize hX:pL s t k m=xe;unfold pL at hX;rw[dU,<-H3 hmk tK] at hX;have hrr:=lU s hl m.of;refine cH vO mixed Tryz.func130 rfl (bL rfl) (by first|exact rL _|simp) rfl ?_;conv=>whnf
 refine ix (cE hmk) ⟨rfl,?_⟩;conv=>whnf
 refine st ?_;conv=>whnf
 cases hc:(eJ s).contains m.of with
 |false=>
  have hno:m6 (fun r:Rc=>r.name==m.of) s.rc<0:=by
   rcases j5 (fun r:Rc=>r.name==m.of) s.rc with⟨h,_⟩|⟨_,_,_,_,_,h⟩
   ·exact h
   ·rw[show(eJ s).contains m.of=s.rc.any fun r=>r.name==m.of from dU _ _ _,h] at hc;cases hc
  rw[hc] at hX;refine cP hrr ?_;conv=>whnf
  refine gY (bS hno) ?_;conv=>whnf
  exact bI hX
 |true=>
 rw[hc] at hX;replace hX:=(bK (w:=!true) rfl).symm.trans hX;obtain⟨ir,hr1,hr2⟩:=qW hc;obtain⟨r1,r2,_⟩:=hr _ (aK hr2);rw[hr1] at hrr;refine cP hrr ?_;conv=>whnf
 refine cP (yW t htl m.of) ?_;conv=>whnf
 refine aF (fun h=>?_) (fun h=>?_)<;>conv=>whnf
 ·exact bI ((b4 h).symm.trans hX)
 replace hX:=(bK h).symm.trans hX;refine aF (fun h=>?_) (fun h=>?_)<;>conv=>whnf
 ·exact bI ((b4 (WZ h)).symm.trans hX)
 refine aF (fun h2=>?_) (fun h2=>?_)<;>conv=>whnf
 ·exact bI ((b4 (WY h2)).symm.trans hX)
 replace hX:=(bK (WX h h2)).symm.trans hX;clear h h2;refine aF (fun h=>?_) (fun h=>?_)<;>conv=>whnf
 ·exact bI ((aG (by simpa[aZ] using h)).symm.trans hX)
 replace hX:=(aE (by simpa[aZ] using h)).symm.trans hX;refine aF (fun h=>?_) (fun h=>?_)<;>conv=>whnf
 ·exact bI ((b4 h).symm.trans hX)
 replace hX:=(bK h).symm.trans hX;obtain⟨io,ho1,ho2⟩:=qW (ho (by simpa using h));have hgo:=hg _ (aK ho2);obtain⟨o1,o2,_⟩:=hr _ (aK ho2);have hro:=lU s hl t.owner;rw[ho1] at hro;generalize iH s t.owner=o at*;generalize iH s m.of=r at*;refine GDraw.wildT [none,some 0,some 0,none,some 1,none,none,none,some 3,some 3] rfl rfl (by kernel_rfl) ?_;conv=>whnf
 refine cP hro ?_;conv=>whnf
 refine ix (cE ho2) ⟨rfl,?_⟩;conv=>whnf
 refine st ?_;conv=>whnf
 refine aF (fun h=>?_) (fun h=>?_)<;>conv=>whnf
 ·exact bI ((b4 (by rw[show(o.place !=2)=true from h];rfl)).symm.trans hX)
 have hp:(o.place !=2)=false:=h;rw[hp] at hX;refine aF (fun h=>?_) (fun h=>?_)<;>conv=>whnf
 ·exact bI ((b4 h).symm.trans hX)
 replace hX:=(bK h).symm.trans hX;refine aF (fun h=>?_) (fun h=>?_)<;>conv=>whnf
 ·have h8:¬(m.sel.length:Int)=o.keys.length:=by simpa[aZ] using h
  exact bI ((b4 (by simp;omega)).symm.trans hX)
 have hlk:m.sel.length=o.keys.length:=by
  have h8:(m.sel.length:Int)=o.keys.length:=by simpa[aZ] using h
  omega
 replace hX:=(bK (by rw[hlk];simp)).symm.trans hX;refine cK 4 m.sel.length (fun j _=>∀a n,a<j->m.sel[a]?=some n->IA o r a n=0) (fun j _=>[(3,.ptr 0 0),(4,.ptr 1 0),(7,.ptr 2 0),(8,.i .i64 (ir:Nat)),(9,.ptr 3 0),(10,.i .i64 (j:Nat))])
  (fun j (_:Unit)=>[.box 26 (lI s),.box 39 (H9 t),.box 46 (mbC m),.box 35 (YM o)]) [] () (fun j n h=>absurd h (cM j)) (fun j _ φ1 hj hok=>?_)
 conv=>whnf
 refine aF (fun h=>?_) (fun h=>?_)<;>conv=>whnf
 rotate_left
 ·exact bI ((n6 fun a z hz=>hok a z (by have:=aB h;rw[aP] at this;have:=(List.getElem?_eq_some_iff.1 hz).1;omega) hz).symm.trans hX)
 have hlt:j<m.sel.length:=by have:=aA h;rw[aP] at this;omega
 refine(gQ hlt).elim fun n hn=>?_;refine(gQ (show j<o.keys.length by omega)).elim fun n' hn'=>?_;have bad:∀{e:Int},IA o r j n=e->e≠0->e=xe:=fun he h0=>he.symm.trans ((n7 hn (by rw[he];exact h0) hok).symm.trans hX);have hk':(o.keys[j]?).getD []=n':=by rw[hn'];rfl
 have hra:=w9 r.its r1 n;refine b9 (by kernel_rfl) ?_;conv=>whnf
 refine ix (cE hr2) ⟨rfl,?_⟩;conv=>whnf
 refine ix (cE hn) ⟨rfl,?_⟩;conv=>whnf
 refine(Bool.eq_false_or_eq_true (r.its.any (·.name==n))).elim (fun hc=>?_) (fun hc=>?_);rotate_left
 ·refine cP hra ?_;conv=>whnf
  refine gY (by rw[show decide (m6 (fun a:Itm=>a.name==n) r.its<0)=!r.its.any fun a=>a.name==n from nP _ _,hc];rfl) ?_;conv=>whnf
  exact bI (bad (b4 (by rw[hc];rfl)) (by decide))
 refine(K9 hc).elim fun x hx=>hx.elim fun z hz=>?_;rw[hz.1] at hra;refine(K9 (hgo.2 (by simpa using hp) n' (aK hn'))).elim fun x' hx'=>hx'.elim fun z' hz'=>?_;have hoa:=w9 o.its o1 n';rw[hz'.1] at hoa;refine cP hra ?_;conv=>whnf
 refine b9 (by kernel_rfl) ?_;conv=>whnf
 refine ix (cE hr2) ⟨rfl,?_⟩;conv=>whnf
 refine ix (cE hz.2.1) ⟨rfl,?_⟩;conv=>whnf
 refine ix (cE hn') ⟨rfl,?_⟩;conv=>whnf
 refine cP hoa ?_;conv=>whnf
 refine ix (cE hz'.2.1) ⟨rfl,?_⟩;conv=>whnf
 have hJ:IA o r j n=dZ (iK r.its n !=iK o.its n') 10 0:=by rw[<-hk'];exact bK (by rw[hc];rfl)
 rw[hz.2.2,hz'.2.2] at hJ;refine aF (fun h5=>?_) (fun h5=>?_)<;>conv=>whnf
 ·exact bI (bad (hJ.trans (b4 h5)) (by decide))
 exact nx () hlt ⟨hlt,kK hn (hJ.trans (bK h5)) hok⟩
def a2U:List (Option Nat):=[none,some 0,some 0,none,some 1,none,none,none,none,none,none,none,some 2,some 2]
abbrev W7 (s:Sch) (t:Sy):List GObj:=[.box 26 (lI s),.box 39 (H9 t)]
set_option maxHeartbeats 8000000 in
theorem WC [MaxL] (s:Sch) (hz:kI s) (t:Sy) (htl:t.ms.length<bH) (hkl:t.keys.length<bH) (hm:∀m∈t.ms,(eJ s).contains m.of=true) (hg:∀r∈s.rc,LQ kY r):
  SC Tryz.prog 131 [lC s,xZ t] [] (.val (.i .i64 (y8 s t))) []:=by
 obtain⟨⟨ha,hl,ht⟩,hr,hst⟩:=hz;unfold bH at htl hkl;generalize hX:y8 s t=xe;refine cH vO mixed Tryz.func131 rfl (bL rfl) (by first|exact rL _|simp) rfl ?_;conv=>whnf
 refine aF (fun h=>?_) (fun h=>?_)<;>rw[kX] at h<;>conv=>whnf
 ·exact bI ((b4 (WZ h)).symm.trans hX)
 refine aF (fun h2=>?_) (fun h2=>?_)<;>rw[kX] at h2<;>conv=>whnf
 ·exact bI ((b4 (WY h2)).symm.trans hX)
 replace hX:=(bK (WX h h2)).symm.trans hX;have badK:∀{e:Int},l5 (lR s t) t.keys=e->e≠0->e=xe:=fun he h0=>(by rw[he,oX h0] at hX;exact hX);refine cK 2 t.keys.length (fun k _=>∀j y,j<k->t.keys[j]?=some y->lR s t j y=0) (fun k _=>[(2,.ptr 0 0),(3,.ptr 1 0),(5,.i .i64 (k:Nat))]) (fun k (_:Unit)=>W7 s t) [] () (fun j n h=>absurd h (cM j)) (fun k _ φ1 hk hok=>?_);conv=>whnf
 refine aF (fun h=>?_) (fun h=>?_)<;>conv=>whnf
 rotate_left
 ·have h0:l5 (lR s t) t.keys=0:=n6 fun j z hz=>hok j z (by have:=aB h;rw[kX] at this;have:=(List.getElem?_eq_some_iff.1 hz).1;omega) hz;rw[oW h0] at hX;refine aF (fun h=>?_) (fun h=>?_)<;>conv=>whnf
  ·exact bI ((b4 (WZ h)).symm.trans hX)
  refine aF (fun h2=>?_) (fun h2=>?_)<;>conv=>whnf
  ·exact bI ((b4 (WY h2)).symm.trans hX)
  exact bI ((bK (WX h h2)).symm.trans hX)
 have hlt:k<t.keys.length:=by have:=aA h;rw[kX] at this;omega
 refine(gQ hlt).elim fun y hy=>?_;have bad:∀{e:Int},lR s t k y=e->e≠0->e=xe:=fun he h0=>badK ((n7 hy (by rw[he];exact h0) hok).trans he) h0;refine cK 2 t.ms.length (fun j _=>∀m∈t.ms.take j,(iH s m.of).its.any (·.name==y.item)=true) (fun j _=>[(2,.ptr 0 0),(3,.ptr 1 0),(5,.i .i64 (k:Nat)),(6,.i .i64 0),(7,.i .i64 (j:Nat))])
  (fun j (_:Unit)=>W7 s t) [] () (fun m h=>by simp at h) (fun j _ φ2 hj hall=>?_)
 conv=>whnf
 refine aF (fun h=>?_) (fun h=>?_)<;>conv=>whnf
 ·have hlt2:j<t.ms.length:=by have:=aA h;rw[iC] at this;omega
  refine(gQ hlt2).elim fun m hm2=>?_;refine(qW (hm m (aK hm2))).elim fun ir hir=>?_;have hrr:=lU s hl m.of;rw[hir.1] at hrr;refine GDraw.wildT a2U rfl rfl (by kernel_rfl) ?_;conv=>whnf
  refine ix (cE hm2) ⟨rfl,?_⟩;conv=>whnf
  refine cP hrr ?_;conv=>whnf
  refine ix (cE hir.2) ⟨rfl,?_⟩;conv=>whnf
  refine st ?_;conv=>whnf
  refine b9 (by kernel_rfl) ?_;conv=>whnf
  refine ix (cE hy) ⟨rfl,?_⟩;conv=>whnf
  refine cP (w9 _ (hr _ (aK hir.2)).1 y.item) ?_;conv=>whnf
  refine aF (fun h4=>?_) (fun h4=>?_)<;>rw[nP] at h4<;>conv=>whnf
  ·exact bI (bad (b4 (by rw[n9 hm2 (TS h4)];rfl)) (by decide))
  exact nx () hlt2 ⟨hlt2,sE hm2 (by simpa using h4) hall⟩
 have hall':=rN (p:=fun m:Mb=>(iH s m.of).its.any (·.name==y.item)) (by have:=aB h;rw[iC] at this;omega) hall;have hp1:lR s t k y=dZ (!(t.ms.all fun m=>iK (iH s m.of).its y.item==iK (iH s ((t.ms.head?.map (·.of)).getD [])).its y.item)) 10 (dZ (((t.keys.take k).map (·.item)).contains y.item) 6 0):=bK (by rw[hall'];rfl);have hd:∀m,t.ms[0]?=some m->iK (iH s m.of).its y.item=iK (iH s ((t.ms.head?.map (·.of)).getD [])).its y.item:=fun m hm9=>by
  cases hms:t.ms with
  |nil=>rw[hms] at hm9;cases hm9
  |cons x l=>rw[hms] at hm9;cases hm9;rfl
 generalize iK (iH s ((t.ms.head?.map (·.of)).getD [])).its y.item=F at*;refine cK 2 t.ms.length (fun j (b:Int)=>(∀m∈t.ms.take j,(iK (iH s m.of).its y.item==F)=true)/\b=if j=0 then 0 else F) (fun j (b:Int)=>[(2,.ptr 0 0),(3,.ptr 1 0),(5,.i .i64 (k:Nat)),(6,.i .i64 b),(9,.i .i64 (j:Nat))])
  (fun j _=>W7 s t) [] 0 ⟨fun m h=>by simp at h,rfl⟩ (fun j b φ2 hj hb=>?_)
 refine hb.elim fun hall2 hb=>?_;conv=>whnf
 refine aF (fun h=>?_) (fun h=>?_)<;>conv=>whnf
 ·have hlt2:j<t.ms.length:=by have:=aA h;rw[iC] at this;omega
  refine(gQ hlt2).elim fun m hm2=>?_;refine(qW (hm m (aK hm2))).elim fun ir hir=>?_;have hrr:=lU s hl m.of;rw[hir.1] at hrr;have hia:=List.all_eq_true.1 hall' m (aK hm2);refine(K9 hia).elim fun x hx=>hx.elim fun z hz=>?_;have hra:=w9 _ (hr _ (aK hir.2)).1 y.item;rw[hz.1] at hra;refine GDraw.wildT a2U rfl rfl (by kernel_rfl) ?_;conv=>whnf
  refine ix (cE hm2) ⟨rfl,?_⟩;conv=>whnf
  refine cP hrr ?_;conv=>whnf
  refine ix (cE hir.2) ⟨rfl,?_⟩;conv=>whnf
  refine st ?_;conv=>whnf
  refine b9 (by kernel_rfl) ?_;conv=>whnf
  refine ix (cE hy) ⟨rfl,?_⟩;conv=>whnf
  refine cP hra ?_;conv=>whnf
  refine ix (cE hz.2.1) ⟨rfl,?_⟩;conv=>whnf
  refine aF (fun h4=>?_) (fun h4=>?_)<;>conv=>whnf
  ·have hj0:j=0:=by simpa using h4
   have h6:(iK (iH s m.of).its y.item==F)=true:=by rw[hd m (by rw[<-hj0];exact hm2)];simp
   refine gN (show(z.k !=z.k)=false by simp) ?_;(conv=>whnf);exact nx z.k hlt2 ⟨hlt2,sE hm2 h6 hall2,by rw[aE (Nat.succ_ne_zero _),<-hz.2.2];exact eq_of_beq h6⟩
  ·have hj0:j≠0:=by simpa using h4
   rw[aE hj0] at hb;refine aF (fun h5=>?_) (fun h5=>?_)<;>conv=>whnf
   ·exact bI (bad (hp1.trans (b4 (by rw[n9 hm2 (by rw[hz.2.2,<-hb];simpa using h5)];rfl))) (by decide))
   have h6:(iK (iH s m.of).its y.item==F)=true:=by rw[hz.2.2,<-hb];simpa using h5
   exact nx b hlt2 ⟨hlt2,sE hm2 h6 hall2,by rw[aE (Nat.succ_ne_zero _)];exact hb⟩
 have hp2:=hp1.trans (bK (by rw[rN (by have:=aB h;rw[iC] at this;omega) hall2];rfl));rw[dU] at hp2;refine cK 2 k (fun j _=>∀z∈t.keys.take j,(z.item==y.item)=false) (fun j _=>[(2,.ptr 0 0),(3,.ptr 1 0),(5,.i .i64 (k:Nat)),(12,.i .i64 (j:Nat))])
  (fun j (_:Unit)=>W7 s t) [] () (fun m h=>by simp at h) (fun j _ φ2 hj hno=>?_)
 conv=>whnf
 refine aF (fun h=>?_) (fun h=>?_)<;>conv=>whnf
 ·have hlt2:j<k:=by have:=aA h;omega
  refine(gQ (show j<t.keys.length by omega)).elim fun z hz=>?_;refine b9 (by kernel_rfl) ?_;conv=>whnf
  refine ix (cE hz) ⟨rfl,?_⟩;conv=>whnf
  refine ix (cE hy) ⟨rfl,?_⟩;conv=>whnf
  refine aF (fun h4=>?_) (fun h4=>?_)<;>conv=>whnf
  ·exact bI (bad (hp2.trans (b4 (List.any_eq_true.2 ⟨z,List.mem_take_iff_getElem.2 ⟨j,by have:=(List.getElem?_eq_some_iff.1 hz).1;omega,(List.getElem?_eq_some_iff.1 hz).2⟩,h4⟩))) (by decide))
  exact nx () hlt2 ⟨hlt2,zM (p:=fun z:Ky=>z.item==y.item) hz h4 hno⟩
 have hjk:j=k:=by have:=aB h;omega
 subst hjk;exact nx () hlt ⟨hlt,kK hy (hp2.trans (bK (List.any_eq_false.2 fun z hz=>by rw[hno z hz];decide))) hok⟩
