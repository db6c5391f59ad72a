/-
  CondBinds: Bound and Term of every texts, items, row, variables and values are those of the reference, and a condition whose variables are bound is as true as with their values; part 43 of 46. Conditions: none beyond the given statement.
-/
import Derived.Test.YtlhabmglchgdnaaGreatDoorQ42
import Derived.Test.YtlhabmglchgdnaaGreatDoorQ39
import Derived.Test.YtlhabmglchgdnaaGreatDoorQ41
set_option linter.all false
namespace Go.Proofs.YtlhabmglchgdnaaGreatDoor
open Go.RowKit
set_option maxRecDepth 100000
set_option linter.unusedVariables false
def wcs (I V:List Itm) (R W:List Val):List GV:=[.sl .none (itms I),.sl .none (itms V),.sl .none (vlsG R),.sl .none (vlsG W)]
theorem wcs_cl (I V:List Itm) (R W:List Val):ClL (wcs I V R W):=ClL.cons (Cl.sl (itms_cl I)) (ClL.cons (Cl.sl (itms_cl V)) (ClL.cons (Cl.sl (vlsG_cl R)) (ClL.cons (Cl.sl (vlsG_cl W)) .nil)))
def wrongS (I V:List Itm) (R:List Val):Int:=if knownB I&&knownB V&&fits2 I R then 0 else 1
theorem c_wrong (I V:List Itm) (R W:List Val) (hI:I.length<most) (hV:V.length<most) (hR:R.length<most):SC Tryz.prog 56 [.agg (wcs I V R W)] [] (.val (.i .i64 (wrongS I V R))) []:=by
 have h1:=c_listed I hI
 have h2:=c_listed V hV
 have h3:=c_Fits I R hI hR
 have hl1:=itms_len I
 have hl2:=vlsG_len R
 unfold wrongS fits2
 have hfl:fitsB I R=true->0<I.length:=fun h=>by
  unfold fitsB at h
  simp only[Bool.and_eq_true,decide_eq_true_eq] at h
  exact h.1.1
 generalize knownB I=k1 at*
 generalize knownB V=k2 at*
 generalize fitsB I R=f at*
 cases k1 with
 |false=>
  refine SC.of_gwp noM mixed Tryz.func56 rfl (Nat.le_of_ble_eq_true rfl) (by first|exact Nat.le_refl _|simp) rfl ?_
  conv=>whnf
  refine callP h1 (Wks.refl _) rfl (ClL.cons (Cl.sl (itms_cl I)) .nil) (.b _) ?_
  conv=>whnf
  exact owes_i rfl
 |true=>
  cases k2 with
  |false=>
   refine SC.of_gwp noM mixed Tryz.func56 rfl (Nat.le_of_ble_eq_true rfl) (by first|exact Nat.le_refl _|simp) rfl ?_
   conv=>whnf
   refine callP h1 (Wks.refl _) rfl (ClL.cons (Cl.sl (itms_cl I)) .nil) (.b _) ?_
   conv=>whnf
   refine callP h2 (Wks.refl _) rfl (ClL.cons (Cl.sl (itms_cl V)) .nil) (.b _) ?_
   conv=>whnf
   exact owes_i rfl
  |true=>
   refine SC.of_gwp noM mixed Tryz.func56 rfl (Nat.le_of_ble_eq_true rfl) (by first|exact Nat.le_refl _|simp) rfl ?_
   conv=>whnf
   refine callP h1 (Wks.refl _) rfl (ClL.cons (Cl.sl (itms_cl I)) .nil) (.b _) ?_
   conv=>whnf
   refine callP h2 (Wks.refl _) rfl (ClL.cons (Cl.sl (itms_cl V)) .nil) (.b _) ?_
   conv=>whnf
   refine GIf.mk (fun z=>?_) (fun z=>?_)<;>conv=>whnf
   ·have z':I.length=0:=by
     have h9:((itms I).length:Int)=0:=by simpa using z
     omega
    have hf:f=false:=by
     cases hf:f with
     |false=>rfl
     |true=>have:=hfl hf;omega
    refine GIf.mk (fun p=>?_) (fun p=>?_)<;>conv=>whnf
    ·have p':¬R.length=0:=by
      have h9:=of_decide_eq_true p
      omega
     refine owes_i ?_
     rw[hf,decide_eq_false (fun h=>p' h.2)];rfl
    ·have p':R.length=0:=by
      have h9:=of_decide_eq_false p
      omega
     refine GIf.mk (fun q=>?_) (fun q=>?_)<;>conv=>whnf
     ·exfalso;have h9:=of_decide_eq_true q;omega
     refine owes_i ?_
     rw[decide_eq_true ⟨z',p'⟩];rfl
   ·have z':¬I.length=0:=by
     have h9:¬((itms I).length:Int)=0:=by simpa using z
     omega
    refine GIf.mk (fun q=>?_) (fun q=>?_)<;>conv=>whnf
    rotate_left
    ·exfalso;have h9:=of_decide_eq_false q;omega
    refine callP h3 (Wks.refl _) rfl (ClL.cons (Cl.sl (itms_cl I)) (ClL.cons (Cl.sl (vlsG_cl R)) .nil)) (.b _) ?_
    conv=>whnf
    rw[decide_eq_false (fun h=>z' h.1)]
    cases f with
    |true=>exact owes_i rfl
    |false=>exact owes_i rfl
def kinds2:List Itm->List Val->Bool
 |i::l,v::r=>v.ok&&decide (v.k=i.k)&&kinds2 l r
 |_,_=>true
theorem kinds_iff:∀{l:List Itm} {r:List Val},(kinds2 l r=true↔∀(i:Nat) x y,l[i]?=some x->r[i]?=some y->y.ok=true/\y.k=x.k)
 |[],r=>⟨fun _ i x y h=>by simp at h,fun _=>by cases r<;>rfl⟩
 |x::l,[]=>⟨fun _ i x y h h'=>by simp at h',fun _=>rfl⟩
 |x::l,v::r=>by
  simp only[kinds2,Bool.and_eq_true,decide_eq_true_eq,kinds_iff (l:=l) (r:=r)]
  constructor
  ·rintro⟨⟨h1,h1'⟩,h2⟩ i a b ha hb
   cases i with
   |zero=>simp at ha hb;rw[<-ha,<-hb];exact⟨h1,h1'⟩
   |succ i=>exact h2 i a b (by simpa using ha) (by simpa using hb)
  ·intro h2
   exact⟨h2 0 x v rfl rfl,fun i a b ha hb=>h2 (i+1) a b (by simpa using ha) (by simpa using hb)⟩
theorem kinds_no {l:List Itm} {r:List Val} {i:Nat} {x:Itm} {y:Val} (hx:l[i]?=some x) (hy:r[i]?=some y) (h:y.ok=false∨¬y.k=x.k):kinds2 l r=false:=by
 cases he:kinds2 l r with
 |false=>rfl
 |true=>
  obtain⟨a,b⟩:=kinds_iff.1 he i x y hx hy
  rcases h with h|h
  ·rw[h] at a;cases a
  ·exact absurd b h
def toldS (V:List Itm) (W:List Val):Int:=if W.length≠V.length then 11 else if kinds2 V W then 0 else 1
theorem c_toldW (I V:List Itm) (R W:List Val) (hV:V.length<most) (hW:W.length<most):SC Tryz.prog 57 [.agg (wcs I V R W)] [] (.val (.i .i64 (toldS V W))) []:=by
 have hl1:=itms_len V
 have hl2:=vlsG_len W
 unfold toldS
 unfold most at hV hW
 refine SC.of_gwp noM mixed Tryz.func57 rfl (Nat.le_of_ble_eq_true rfl) (by first|exact Nat.le_refl _|simp) rfl ?_
 conv=>whnf
 refine GIf.mk (fun h0=>?_) (fun h0=>?_)<;>conv=>whnf
 ·have h0':W.length≠V.length:=by
   have h9:¬((vlsG W).length:Int)=(itms V).length:=by simpa using h0
   omega
  exact owes_i (by rw[if_pos h0'])
 have h0':W.length=V.length:=by
  have h9:((vlsG W).length:Int)=(itms V).length:=by simpa using h0
  omega
 rw[if_neg (by simpa using h0')]
 refine GLoop.introS (fun i:Nat=>i<=W.length/\∀(j:Nat) x y,j<i->V[j]?=some x->W[j]?=some y->y.ok=true/\y.k=x.k) (fun i=>[(1,.ptr 0 0),(13,.sl .none (vlsG W)),(14,.i .i64 (vlsG W).length),(15,.i .i64 (i:Nat))])
  (fun _=>⟨[.box 81 (wcs I V R W)],0,[]⟩) (fun i=>W.length - i) 0 ⟨Nat.zero_le _,fun j x y h=>by omega⟩ ⟨rfl,rfl,rfl,rfl,trivial⟩ rfl (fun _ _=>Nat.le_refl _) (fun _ _=>rfl) (fun i _ e he=>?_) (fun i φ0 hi=>?_)
 ·refine⟨?_,rfl,?_⟩
  ·show[(GObj.box _ (wcs I V R W)).ren e]=_
   rw[GObj.box_cl (wcs_cl I V R W)]
  ·show[GV.ptr (e 0) 0,(GV.sl .none (vlsG W)).ren e,_,_]=_
   rw[Cl.sl (vlsG_cl W) e,he 0 (by simp)];rfl
 obtain⟨hi,hok⟩:=hi
 conv=>whnf
 refine GIf.mk (fun h=>?_) (fun h=>?_)<;>conv=>whnf
 rotate_left
 ·have hie:i=W.length:=by have:=of_decide_eq_false h;rw[hl2] at this;omega
  refine owes_i ?_
  rw[if_pos (kinds_iff.2 (fun j x y hx hy=>hok j x y (by have:=(List.getElem?_eq_some_iff.1 hy).1;omega) hx hy))]
 have hlt:i<W.length:=by have:=of_decide_eq_true h;rw[hl2] at this;omega
 obtain⟨y,hy⟩:∃y,W[i]?=some y:=⟨W[i],List.getElem?_eq_getElem hlt⟩
 obtain⟨x,hx⟩:∃x,V[i]?=some x:=⟨V[i]'(by omega),List.getElem?_eq_getElem (by omega)⟩
 have hv:=c_ValidValue y
 refine⟨Int.natCast_nonneg _,_,by rw[Int.toNat_natCast];exact vlsG_at hy,rfl,?_⟩
 conv=>whnf
 refine⟨_,⟨rfl,Nat.zero_le _,rfl,Nat.le_of_ble_eq_true rfl⟩,?_⟩
 conv=>whnf
 refine GDraw.calm (by kernel_rfl) ?_
 conv=>whnf
 refine callP hv (Wks.refl _) rfl (fun _=>rfl) (.b _) ?_
 conv=>whnf
 refine GIf.mk (fun h1=>?_) (fun h1=>?_)<;>conv=>whnf
 ·refine owes_i ?_
  rw[kinds_no hx hy (.inl (by simpa using h1))];rfl
 have h1':y.ok=true:=by simpa using h1
 refine⟨Int.natCast_nonneg _,_,by rw[Int.toNat_natCast];exact itms_at hx,rfl,?_⟩
 conv=>whnf
 refine GIf.mk (fun h2=>?_) (fun h2=>?_)<;>conv=>whnf
 ·refine owes_i ?_
  have h2':¬y.k=x.k:=by simpa using h2
  rw[kinds_no hx hy (.inr h2')];rfl
 ·have h2':y.k=x.k:=by simpa using h2
  exact⟨W.length - (i+1),(by show _<W.length - i;omega),i+1,⟨hlt,fun j x' y' hj hx' hy'=>by
   by_cases hji:j=i
   ·subst hji;rw[hx] at hx';rw[hy] at hy';cases hx';cases hy';exact⟨h1',h2'⟩
   ·exact hok j x' y' (by omega) hx' hy'⟩,rfl,⟨rfl,rfl,rfl,wrap_succ (by omega),trivial⟩,_,rfl,rfl⟩
theorem r_kinds (V:List Itm) (W:List Val) (hW:W.length<most) (h0:W.length=V.length):SC Tryz.prog 60 [.sl .none (itms V),.sl .none (vlsG W)] [] (.val (.b (kinds2 V W))) []:=by
 have hl1:=itms_len V
 have hl2:=vlsG_len W
 unfold most at hW
 refine SC.of_gwp noM mixed Tryz.func60 rfl (Nat.le_of_ble_eq_true rfl) (by first|exact Nat.le_refl _|simp) rfl ?_
 conv=>whnf
 refine GLoop.intro (fun i:Nat=>i<=W.length/\∀(j:Nat) x y,j<i->V[j]?=some x->W[j]?=some y->y.ok=true/\y.k=x.k) (fun i=>[(0,.sl .none (itms V)),(1,.sl .none (vlsG W)),(5,.i .i64 (i:Nat))]) (fun _=>⟨[],0,[]⟩) (fun i=>W.length - i) 0 ⟨Nat.zero_le _,fun j x y h=>by omega⟩ ⟨rfl,rfl,rfl,trivial⟩ rfl (fun i φ0 hi=>?_)
 obtain⟨hi,hok⟩:=hi
 conv=>whnf
 refine GIf.mk (fun h=>?_) (fun h=>?_)<;>conv=>whnf
 rotate_left
 ·have hie:i=W.length:=by have:=of_decide_eq_false h;rw[hl2] at this;omega
  refine owes_b ?_
  exact(kinds_iff.2 (fun j x y hx hy=>hok j x y (by have:=(List.getElem?_eq_some_iff.1 hy).1;omega) hx hy)).symm
 have hlt:i<W.length:=by have:=of_decide_eq_true h;rw[hl2] at this;omega
 obtain⟨y,hy⟩:∃y,W[i]?=some y:=⟨W[i],List.getElem?_eq_getElem hlt⟩
 obtain⟨x,hx⟩:∃x,V[i]?=some x:=⟨V[i]'(by omega),List.getElem?_eq_getElem (by omega)⟩
 have hv:=r_ValidValue y
 refine GDraw.calm (by kernel_rfl) ?_
 conv=>whnf
 refine⟨Int.natCast_nonneg _,_,by rw[Int.toNat_natCast];exact vlsG_at hy,rfl,?_⟩
 conv=>whnf
 refine callP hv (Wks.refl _) rfl (fun _=>rfl) (.b _) ?_
 conv=>whnf
 refine GIf.mk (fun h1=>?_) (fun h1=>?_)<;>conv=>whnf
 ·refine owes_b ?_
  rw[kinds_no hx hy (.inl (by simpa using h1))]
 have h1':y.ok=true:=by simpa using h1
 refine⟨Int.natCast_nonneg _,_,by rw[Int.toNat_natCast];exact vlsG_at hy,rfl,?_⟩
 conv=>whnf
 refine⟨Int.natCast_nonneg _,_,by rw[Int.toNat_natCast];exact itms_at hx,rfl,?_⟩
 conv=>whnf
 refine GIf.mk (fun h2=>?_) (fun h2=>?_)<;>conv=>whnf
 ·refine owes_b ?_
  have h2':¬y.k=x.k:=by simpa using h2
  rw[kinds_no hx hy (.inr h2')]
 ·have h2':y.k=x.k:=by simpa using h2
  exact⟨W.length - (i+1),(by show _<W.length - i;omega),i+1,⟨hlt,fun j x' y' hj hx' hy'=>by
   by_cases hji:j=i
   ·subst hji;rw[hx] at hx';rw[hy] at hy';cases hx';cases hy';exact⟨h1',h2'⟩
   ·exact hok j x' y' (by omega) hx' hy'⟩,rfl,⟨rfl,rfl,wrap_succ (by omega),trivial⟩,rfl⟩
end Go.Proofs.YtlhabmglchgdnaaGreatDoor
namespace Go.Proofs.YtlhabmglchgdnaaGreatDoor
open Go.RowKit
set_option maxRecDepth 100000
set_option linter.unusedVariables false
theorem r_kind (I V:List Itm) (hI:I.length<most) (hV:V.length<most) (t:Term):SC Tryz.prog 81 [.agg (sdc t),.sl .none (itms I),.sl .none (itms V)] [] (.val (.i .i64 (kindR I V t))) []:=by
 obtain⟨nm,vr,v⟩:=t
 have hI':=r_at I hI nm
 have hV':=r_at V hV nm
 unfold kindR
 by_cases hn:nm=[]
 ·subst hn
  rw[if_pos rfl]
  cases vr with
  |true=>
   refine SC.of_gwp noM mixed Tryz.func81 rfl (Nat.le_of_ble_eq_true rfl) (by first|exact Nat.le_refl _|simp) rfl ?_
   conv=>whnf
   exact owes_i rfl
  |false=>
   refine SC.of_gwp noM mixed Tryz.func81 rfl (Nat.le_of_ble_eq_true rfl) (by first|exact Nat.le_refl _|simp) rfl ?_
   conv=>whnf
   exact owes_i rfl
 ·rw[if_neg hn]
  cases vr with
  |true=>
   rcases idx_kind V nm with⟨h1,h2⟩|⟨j,y,h1,h2,h3⟩
   ·rw[h1] at hV'
    simp only[if_true,h2]
    refine SC.of_gwp noM mixed Tryz.func81 rfl (Nat.le_of_ble_eq_true rfl) (by first|exact Nat.le_refl _|simp) rfl ?_
    conv=>whnf
    refine GIf.mk (fun hz=>?_) (fun hz=>?_)<;>conv=>whnf
    rotate_left
    ·exact absurd (by simpa using hz) hn
    refine callP hV' (Wks.refl _) rfl (ClL.cons (Cl.sl (itms_cl V)) (ClL.cons (.s _) .nil)) (.i _ _) ?_
    conv=>whnf
    exact owes_i rfl
   ·rw[h1] at hV'
    simp only[if_true,h3]
    refine SC.of_gwp noM mixed Tryz.func81 rfl (Nat.le_of_ble_eq_true rfl) (by first|exact Nat.le_refl _|simp) rfl ?_
    conv=>whnf
    refine GIf.mk (fun hz=>?_) (fun hz=>?_)<;>conv=>whnf
    rotate_left
    ·exact absurd (by simpa using hz) hn
    refine callP hV' (Wks.refl _) rfl (ClL.cons (Cl.sl (itms_cl V)) (ClL.cons (.s _) .nil)) (.i _ _) ?_
    conv=>whnf
    refine⟨Int.natCast_nonneg _,_,by rw[Int.toNat_natCast];exact itms_at h2,rfl,?_⟩
    conv=>whnf
    exact owes_i rfl
  |false=>
   rcases idx_kind I nm with⟨h1,h2⟩|⟨j,y,h1,h2,h3⟩
   ·rw[h1] at hI'
    simp only[Bool.false_eq_true,if_false,h2]
    refine SC.of_gwp noM mixed Tryz.func81 rfl (Nat.le_of_ble_eq_true rfl) (by first|exact Nat.le_refl _|simp) rfl ?_
    conv=>whnf
    refine GIf.mk (fun hz=>?_) (fun hz=>?_)<;>conv=>whnf
    rotate_left
    ·exact absurd (by simpa using hz) hn
    refine callP hI' (Wks.refl _) rfl (ClL.cons (Cl.sl (itms_cl I)) (ClL.cons (.s _) .nil)) (.i _ _) ?_
    conv=>whnf
    exact owes_i rfl
   ·rw[h1] at hI'
    simp only[Bool.false_eq_true,if_false,h3]
    refine SC.of_gwp noM mixed Tryz.func81 rfl (Nat.le_of_ble_eq_true rfl) (by first|exact Nat.le_refl _|simp) rfl ?_
    conv=>whnf
    refine GIf.mk (fun hz=>?_) (fun hz=>?_)<;>conv=>whnf
    rotate_left
    ·exact absurd (by simpa using hz) hn
    refine callP hI' (Wks.refl _) rfl (ClL.cons (Cl.sl (itms_cl I)) (ClL.cons (.s _) .nil)) (.i _ _) ?_
    conv=>whnf
    refine⟨Int.natCast_nonneg _,_,by rw[Int.toNat_natCast];exact itms_at h2,rfl,?_⟩
    conv=>whnf
    exact owes_i rfl
end Go.Proofs.YtlhabmglchgdnaaGreatDoor
namespace Go.Proofs.YtlhabmglchgdnaaGreatDoor
open Go.RowKit
set_option maxRecDepth 100000
set_option linter.unusedVariables false
def lkp (l:List Itm) (r:List Val) (s:By):Val:=r.getD (idxN l s).toNat v0
def valT (I V:List Itm) (R W:List Val) (t:Term):Val:=if t.name=[] then t.v else if t.var then lkp V W t.name else lkp I R t.name
def thereN (l:List Itm) (r:List Val) (s:By):Prop:=∃(j:Nat) (v:Val),idxN l s=(j:Nat)/\r[j]?=some v
def okT (I V:List Itm) (R W:List Val) (t:Term):Prop:=t.name=[]∨(t.name≠[]/\t.var=true/\thereN V W t.name)∨(t.name≠[]/\t.var=false/\thereN I R t.name)
theorem lkp_at {l:List Itm} {r:List Val} {s:By} {j:Nat} {v:Val} (h:idxN l s=(j:Nat)) (hv:r[j]?=some v):lkp l r s=v:=by
 unfold lkp
 rw[h,Int.toNat_natCast,List.getD_eq_getElem?_getD,hv];rfl
theorem c_value2 (I V:List Itm) (R W:List Val) (hI:I.length<most) (hV:V.length<most) (t:Term) (h:okT I V R W t):SC Tryz.prog 78 [.agg (wcs I V R W),t.gv] [] (.val (valT I V R W t).gv) []:=by
 have hw:=wcs_cl I V R W
 rcases h with h|⟨h0,hv,j,v,h1,h2⟩|⟨h0,hv,j,v,h1,h2⟩
 ·have e:valT I V R W t=t.v:=if_pos h
  rw[e]
  obtain⟨nm,vr,v⟩:=t
  simp only at h
  subst h
  cases vr with
  |true=>
   refine SC.of_gwp noM mixed Tryz.func78 rfl (Nat.le_of_ble_eq_true rfl) (by first|exact Nat.le_refl _|simp) rfl ?_
   conv=>whnf
   refine GDraw.calm (by kernel_rfl) ?_
   conv=>whnf
   refine GDraw.calm (by kernel_rfl) ?_
   conv=>whnf
   refine⟨_,⟨rfl,Nat.zero_le _,rfl,Nat.le_of_ble_eq_true rfl⟩,?_⟩
   conv=>whnf
   exact owes_wk (g':=v.gv) (.refl _) (fun _=>rfl)
  |false=>
   refine SC.of_gwp noM mixed Tryz.func78 rfl (Nat.le_of_ble_eq_true rfl) (by first|exact Nat.le_refl _|simp) rfl ?_
   conv=>whnf
   refine GDraw.calm (by kernel_rfl) ?_
   conv=>whnf
   refine⟨_,⟨rfl,Nat.zero_le _,rfl,Nat.le_of_ble_eq_true rfl⟩,?_⟩
   conv=>whnf
   exact owes_wk (g':=v.gv) (.refl _) (fun _=>rfl)
 ·have hk:=c_idxV V hV t
  rw[h1] at hk
  have hn:t.name≠[]:=h0
  have e:valT I V R W t=v:=by
   unfold valT
   rw[if_neg hn,hv]
   exact lkp_at h1 h2
  rw[e]
  obtain⟨nm,vr,tv⟩:=t
  simp only at hv hn
  subst hv
  refine SC.of_gwp noM mixed Tryz.func78 rfl (Nat.le_of_ble_eq_true rfl) (by first|exact Nat.le_refl _|simp) rfl ?_
  conv=>whnf
  refine GDraw.calm (by kernel_rfl) ?_
  conv=>whnf
  refine GDraw.calm (by kernel_rfl) ?_
  conv=>whnf
  refine GIf.mk (fun hz=>?_) (fun hz=>?_)<;>conv=>whnf
  ·exact absurd (by simpa using hz) hn
  refine callG hk [1] (objs':=[.box 81 (wcs I V R W),.box 93 (Term.cs ⟨nm,true,tv⟩),.box 53 [.i .i64 0,.i .i64 0,.s []]]) (Lies.one rfl (fun _=>rfl) (by simp)) ?_ rfl rfl ((putBack_one (by simp) rfl).trans rfl) rfl ?_
  ·show Wks _ [(GV.sl .none (itms V)).ren _,GV.fn _ [] [.ptr (emb [1] _ 0) 0]]
   rw[Cl.sl (itms_cl V),emb_lt (by simp)]
   exact Wks.refl _
  conv=>whnf
  refine⟨Int.natCast_nonneg _,_,by rw[Int.toNat_natCast];exact vlsG_at h2,rfl,?_⟩
  conv=>whnf
  refine⟨_,⟨rfl,Nat.zero_le _,rfl,Nat.le_of_ble_eq_true rfl⟩,?_⟩
  conv=>whnf
  exact owes_wk (.refl _) (fun _=>rfl)
 ·have hk:=c_idxV I hI t
  rw[h1] at hk
  have hn:t.name≠[]:=h0
  have e:valT I V R W t=v:=by
   unfold valT
   rw[if_neg hn,hv]
   exact lkp_at h1 h2
  rw[e]
  obtain⟨nm,vr,tv⟩:=t
  simp only at hv hn
  subst hv
  refine SC.of_gwp noM mixed Tryz.func78 rfl (Nat.le_of_ble_eq_true rfl) (by first|exact Nat.le_refl _|simp) rfl ?_
  conv=>whnf
  refine GDraw.calm (by kernel_rfl) ?_
  conv=>whnf
  refine GIf.mk (fun hz=>?_) (fun hz=>?_)<;>conv=>whnf
  ·exact absurd (by simpa using hz) hn
  refine callG hk [1] (objs':=[.box 81 (wcs I V R W),.box 93 (Term.cs ⟨nm,false,tv⟩),.box 53 [.i .i64 0,.i .i64 0,.s []]]) (Lies.one rfl (fun _=>rfl) (by simp)) ?_ rfl rfl ((putBack_one (by simp) rfl).trans rfl) rfl ?_
  ·show Wks _ [(GV.sl .none (itms I)).ren _,GV.fn _ [] [.ptr (emb [1] _ 0) 0]]
   rw[Cl.sl (itms_cl I),emb_lt (by simp)]
   exact Wks.refl _
  conv=>whnf
  refine⟨Int.natCast_nonneg _,_,by rw[Int.toNat_natCast];exact vlsG_at h2,rfl,?_⟩
  conv=>whnf
  refine⟨_,⟨rfl,Nat.zero_le _,rfl,Nat.le_of_ble_eq_true rfl⟩,?_⟩
  conv=>whnf
  exact owes_wk (.refl _) (fun _=>rfl)
theorem c_rel1 (c:Int):SC Tryz.prog 143 [.i .i64 c] [] (.val (.b (c==0))) []:=by
 refine SC.of_gwp noM mixed Tryz.func143 rfl (Nat.le_of_ble_eq_true rfl) (by first|exact Nat.le_refl _|simp) rfl ?_
 conv=>whnf
 exact owes_b rfl
theorem c_rel2 (c:Int):SC Tryz.prog 144 [.i .i64 c] [] (.val (.b (c !=0))) []:=by
 refine SC.of_gwp noM mixed Tryz.func144 rfl (Nat.le_of_ble_eq_true rfl) (by first|exact Nat.le_refl _|simp) rfl ?_
 conv=>whnf
 exact owes_b rfl
theorem c_rel3 (c:Int):SC Tryz.prog 145 [.i .i64 c] [] (.val (.b (decide (c<0)))) []:=by
 refine SC.of_gwp noM mixed Tryz.func145 rfl (Nat.le_of_ble_eq_true rfl) (by first|exact Nat.le_refl _|simp) rfl ?_
 conv=>whnf
 exact owes_b rfl
theorem c_rel4 (c:Int):SC Tryz.prog 146 [.i .i64 c] [] (.val (.b (decide (c<=0)))) []:=by
 refine SC.of_gwp noM mixed Tryz.func146 rfl (Nat.le_of_ble_eq_true rfl) (by first|exact Nat.le_refl _|simp) rfl ?_
 conv=>whnf
 exact owes_b rfl
theorem c_rel5 (c:Int):SC Tryz.prog 147 [.i .i64 c] [] (.val (.b (decide (c>0)))) []:=by
 refine SC.of_gwp noM mixed Tryz.func147 rfl (Nat.le_of_ble_eq_true rfl) (by first|exact Nat.le_refl _|simp) rfl ?_
 conv=>whnf
 exact owes_b rfl
theorem c_rel6 (c:Int):SC Tryz.prog 148 [.i .i64 c] [] (.val (.b (decide (c>=0)))) []:=by
 refine SC.of_gwp noM mixed Tryz.func148 rfl (Nat.le_of_ble_eq_true rfl) (by first|exact Nat.le_refl _|simp) rfl ?_
 conv=>whnf
 exact owes_b rfl
def relM:FuncId->Bool:=fun k=>!(k==106)
theorem c_holds (I V:List Itm) (R W:List Val) (hI:I.length<most) (hV:V.length<most):∀(t:Tree),t.good->(∀x∈leaves t,okT I V R W x)->SC Tryz.prog 58 [.agg (wcs I V R W),t.gv] [] (.val (.b (truthV (valT I V R W) t))) []
 |.pair a l r,hg,ho=>by
  have s1:=c_holds I V R W hI hV l hg.1 (fun x hx=>ho x (by simp[leaves,hx]))
  have s2:=c_holds I V R W hI hV r hg.2 (fun x hx=>ho x (by simp[leaves,hx]))
  have hw:=wcs_cl I V R W
  rw[show truthV (valT I V R W) (Tree.pair a l r)=if a then truthV (valT I V R W) l&&truthV (valT I V R W) r else truthV (valT I V R W) l||truthV (valT I V R W) r from rfl]
  generalize truthV (valT I V R W) l=b1 at*
  generalize truthV (valT I V R W) r=b2 at*
  cases a<;>cases b1<;>cases b2
  all_goals
   refine SC.of_gwp noM mixed Tryz.func58 rfl (Nat.le_of_ble_eq_true rfl) (by first|exact Nat.le_refl _|simp) rfl ?_
   conv=>whnf
   refine⟨_,⟨rfl,Nat.zero_le _,rfl,Nat.le_of_ble_eq_true rfl⟩,?_⟩
   conv=>whnf
   refine GDraw.calm (by kernel_rfl) ?_
   conv=>whnf
   refine callP s1 (Wks.refl _) rfl (ClL.cons (Cl.agg hw) (ClL.cons l.cl .nil)) (.b _) ?_
   conv=>whnf
   refine callP s2 (Wks.refl _) rfl (ClL.cons (Cl.agg hw) (ClL.cons r.cl .nil)) (.b _) ?_
   conv=>whnf
   exact owes_b rfl
 |.no t,hg,ho=>by
  have s1:=c_holds I V R W hI hV t hg (fun x hx=>ho x hx)
  have hw:=wcs_cl I V R W
  rw[show truthV (valT I V R W) (Tree.no t)=!truthV (valT I V R W) t from rfl]
  generalize truthV (valT I V R W) t=b1 at*
  refine SC.of_gwp noM mixed Tryz.func58 rfl (Nat.le_of_ble_eq_true rfl) (by first|exact Nat.le_refl _|simp) rfl ?_
  conv=>whnf
  refine⟨_,⟨rfl,Nat.zero_le _,rfl,Nat.le_of_ble_eq_true rfl⟩,?_⟩
  conv=>whnf
  refine callP s1 (Wks.refl _) rfl (ClL.cons (Cl.agg hw) (ClL.cons t.cl .nil)) (.b _) ?_
  conv=>whnf
  exact owes_b rfl
 |.test op a b,hg,ho=>by
  have s1:=c_value2 I V R W hI hV a (ho a (by simp[leaves]))
  have s2:=c_value2 I V R W hI hV b (ho b (by simp[leaves]))
  have s3:=c_CompareV (valT I V R W a) (valT I V R W b)
  have hop:=hg.1
  have hw:=wcs_cl I V R W
  rw[show truthV (valT I V R W) (Tree.test op a b)=relB op (cmpV (valT I V R W a) (valT I V R W b)) from rfl]
  generalize cmpV (valT I V R W a) (valT I V R W b)=c at*
  simp only[relop,rels,List.contains_eq_mem,decide_eq_true_eq,List.mem_cons,List.not_mem_nil,or_false] at hop
  rcases hop with rfl|rfl|rfl|rfl|rfl|rfl
  all_goals
   refine SC.of_gwp relM mixed Tryz.func58 rfl (Nat.le_of_ble_eq_true rfl) (by first|exact Nat.le_refl _|simp) rfl ?_
   conv=>whnf
   refine⟨_,⟨rfl,Nat.zero_le _,rfl,Nat.le_of_ble_eq_true rfl⟩,?_⟩
   conv=>whnf
   refine GDraw.wild _ _ _ rfl rfl rfl (by kernel_rfl) ?_
   conv=>whnf
   refine callMp c_relations Wks.nil rfl rfl ClL.nil relL_ren ?_
   conv=>whnf
   refine⟨_,rfl,?_⟩
   conv=>whnf
   refine callP s1 (Wks.refl _) rfl (ClL.cons (Cl.agg hw) (ClL.cons a.cl .nil)) (Val.cl _) ?_
   conv=>whnf
   refine callP s2 (Wks.refl _) rfl (ClL.cons (Cl.agg hw) (ClL.cons b.cl .nil)) (Val.cl _) ?_
   conv=>whnf
   refine callP s3 (Wks.refl _) rfl (ClL.cons (Val.cl _) (ClL.cons (Val.cl _) .nil)) (.i _ _) ?_
   conv=>whnf
   first
    |refine callP (c_rel1 c) (Wks.refl _) rfl (fun _=>rfl) (.b _) ?_
    |refine callP (c_rel2 c) (Wks.refl _) rfl (fun _=>rfl) (.b _) ?_
    |refine callP (c_rel3 c) (Wks.refl _) rfl (fun _=>rfl) (.b _) ?_
    |refine callP (c_rel4 c) (Wks.refl _) rfl (fun _=>rfl) (.b _) ?_
    |refine callP (c_rel5 c) (Wks.refl _) rfl (fun _=>rfl) (.b _) ?_
    |refine callP (c_rel6 c) (Wks.refl _) rfl (fun _=>rfl) (.b _) ?_
   conv=>whnf
   exact owes_b rfl
 |.truth b,hg,ho=>by
  refine SC.of_gwp noM mixed Tryz.func58 rfl (Nat.le_of_ble_eq_true rfl) (by first|exact Nat.le_refl _|simp) rfl ?_
  conv=>whnf
  refine⟨_,⟨rfl,Nat.zero_le _,rfl,Nat.le_of_ble_eq_true rfl⟩,?_⟩
  conv=>whnf
  exact owes_b rfl
end Go.Proofs.YtlhabmglchgdnaaGreatDoor
namespace Go.Proofs.YtlhabmglchgdnaaGreatDoor
open Go.RowKit
set_option maxRecDepth 100000
set_option linter.unusedVariables false
theorem fits2_len {I:List Itm} {R:List Val} (h:fits2 I R=true):R.length=I.length:=by
 unfold fits2 fitsB at h
 simp only[Bool.and_eq_true,Bool.or_eq_true,decide_eq_true_eq] at h
 rcases h.2 with h|h
 ·omega
 ·exact(each_len h.2).symm
theorem there_of {l:List Itm} {r:List Val} (hl:r.length=l.length) {s:By} {y:Itm} (h:l.find? (fun i=>i.name==s)=some y):thereN l r s:=by
 rcases idx_kind l s with⟨_,h1⟩|⟨j,z,h1,h2,h3⟩
 ·rw[h1] at h;cases h
 ·have hj:=(List.getElem?_eq_some_iff.1 h2).1
  exact⟨j,r[j]'(by omega),h1,List.getElem?_eq_getElem _⟩
theorem okT_of {I V:List Itm} {R W:List Val} (hf:R.length=I.length) (hw:W.length=V.length) {x:Term} (h:kindE I V x≠5):okT I V R W x:=by
 unfold kindE at h
 unfold okT
 by_cases h0:x.name=[]
 ·exact .inl h0
 ·rw[if_neg h0] at h
  split at h
  ·rename_i y hy
   cases hv:x.var with
   |true=>rw[hv] at hy;exact .inr (.inl ⟨h0,rfl,there_of hw hy⟩)
   |false=>rw[hv] at hy;exact .inr (.inr ⟨h0,rfl,there_of hf hy⟩)
  ·exact absurd rfl h
theorem okT_all {I V:List Itm} {R W:List Val} (hf:R.length=I.length) (hw:W.length=V.length) {t:Tree} (h:checkE I V t=0):∀x∈leaves t,okT I V R W x:=fun x hx=>by
 refine okT_of hf hw (fun h5=>?_)
 unfold checkE at h
 have:(leaves t).any (fun x=>kindE I V x==5)=true:=List.any_eq_true.2 ⟨x,hx,by rw[h5];rfl⟩
 rw[this] at h
 simp at h
def evT (I V:List Itm) (R W:List Val) (t:Tree):Bool×Int:=
 if knownB I&&knownB V&&fits2 I R then
  if checkS I V t=0 then
   if W.length=V.length then
    if kinds2 V W then(truthV (valT I V R W) t,0) else(false,1)
   else(false,11)
  else(false,checkS I V t)
 else(false,1)
def evalS (I V:List Itm) (R W:List Val) (s:By):Bool×Int:=match readS s with
 |.ok t=>evT I V R W t
 |.err e=>(false,e)
theorem c_Eval (I V:List Itm) (R W:List Val) (hI:I.length<most) (hV:V.length<most) (hR:R.length<most) (hW:W.length<most) (s:By) (hs:s.length<most):
  SC Tryz.prog 23 [.s s,.sl .none (itms I),.sl .none (vlsG R),.sl .none (itms V),.sl .none (vlsG W)] [] (.val (.tup [.b (evalS I V R W s).1,.i .i64 (evalS I V R W s).2])) []:=by
 have hr:=c_read s hs
 have hcl:=readG_cl s
 unfold readG at hr hcl
 unfold evalS
 have hw:=wcs_cl I V R W
 cases h:readS s with
 |err e=>
  rw[h] at hr hcl
  replace hr:SC Tryz.prog 46 [.s s] [] (.val (.tup [.o .nilIface,.i .i64 e])) []:=hr
  have he:=readS_err h
  rcases he with rfl|rfl|rfl
  all_goals
   refine SC.of_gwp noM mixed Tryz.func23 rfl (Nat.le_of_ble_eq_true rfl) (by first|exact Nat.le_refl _|simp) rfl ?_
   conv=>whnf
   refine callP hr (Wks.refl _) rfl (fun _=>rfl) hcl ?_
   conv=>whnf
   refine⟨_,⟨rfl,Nat.zero_le _,rfl,Nat.le_of_ble_eq_true rfl⟩,?_⟩
   conv=>whnf
   exact owes_wk (.refl _) (fun _=>rfl)
 |ok t=>
  rw[h] at hr hcl
  replace hr:SC Tryz.prog 46 [.s s] [] (.val (.tup [t.gv,.i .i64 0])) []:=hr
  have hg:t.good:=(readS_good h).1
  have h1:=c_wrong I V R W hI hV hR
  have h2:=c_check I V hI hV t
  have h3:=c_toldW I V R W hV hW
  simp only
  unfold evT
  unfold wrongS at h1
  by_cases b1:(knownB I&&knownB V&&fits2 I R)=true
  rotate_left
  ·rw[if_neg b1] at h1⊢
   refine SC.of_gwp noM mixed Tryz.func23 rfl (Nat.le_of_ble_eq_true rfl) (by first|exact Nat.le_refl _|simp) rfl ?_
   conv=>whnf
   refine callP hr (Wks.refl _) rfl (fun _=>rfl) hcl ?_
   conv=>whnf
   refine⟨_,⟨rfl,Nat.zero_le _,rfl,Nat.le_of_ble_eq_true rfl⟩,?_⟩
   conv=>whnf
   refine callP h1 (Wks.refl _) rfl (ClL.cons (Cl.agg hw) .nil) (.i _ _) ?_
   conv=>whnf
   exact owes_wk (.refl _) (fun _=>rfl)
  rw[if_pos b1] at h1⊢
  have b1':=b1
  simp only[Bool.and_eq_true] at b1'
  have hce:=checkE_eq b1'.1.1 b1'.1.2 hg
  by_cases b2:checkS I V t=0
  rotate_left
  ·rw[if_neg b2]
   rw[hce] at h2
   have b3:checkS I V t=5∨checkS I V t=10:=by
    revert b2
    unfold checkS
    repeat' split
    all_goals simp
   generalize checkS I V t=x at*
   rcases b3 with rfl|rfl
   all_goals
    refine SC.of_gwp noM mixed Tryz.func23 rfl (Nat.le_of_ble_eq_true rfl) (by first|exact Nat.le_refl _|simp) rfl ?_
    conv=>whnf
    refine callP hr (Wks.refl _) rfl (fun _=>rfl) hcl ?_
    conv=>whnf
    refine⟨_,⟨rfl,Nat.zero_le _,rfl,Nat.le_of_ble_eq_true rfl⟩,?_⟩
    conv=>whnf
    refine callP h1 (Wks.refl _) rfl (ClL.cons (Cl.agg hw) .nil) (.i _ _) ?_
    conv=>whnf
    refine callP h2 (Wks.refl _) rfl (ClL.cons t.cl (ClL.cons (Cl.sl (itms_cl I)) (ClL.cons (Cl.sl (itms_cl V)) .nil))) (.i _ _) ?_
    conv=>whnf
    exact owes_wk (.refl _) (fun _=>rfl)
  rw[if_pos b2]
  have b3:checkE I V t=0:=hce.trans b2
  rw[b3] at h2
  unfold toldS at h3
  by_cases b4:W.length=V.length
  rotate_left
  ·rw[if_neg b4]
   rw[if_pos b4] at h3
   refine SC.of_gwp noM mixed Tryz.func23 rfl (Nat.le_of_ble_eq_true rfl) (by first|exact Nat.le_refl _|simp) rfl ?_
   conv=>whnf
   refine callP hr (Wks.refl _) rfl (fun _=>rfl) hcl ?_
   conv=>whnf
   refine⟨_,⟨rfl,Nat.zero_le _,rfl,Nat.le_of_ble_eq_true rfl⟩,?_⟩
   conv=>whnf
   refine callP h1 (Wks.refl _) rfl (ClL.cons (Cl.agg hw) .nil) (.i _ _) ?_
   conv=>whnf
   refine callP h2 (Wks.refl _) rfl (ClL.cons t.cl (ClL.cons (Cl.sl (itms_cl I)) (ClL.cons (Cl.sl (itms_cl V)) .nil))) (.i _ _) ?_
   conv=>whnf
   refine callP h3 (Wks.refl _) rfl (ClL.cons (Cl.agg hw) .nil) (.i _ _) ?_
   conv=>whnf
   exact owes_wk (.refl _) (fun _=>rfl)
  rw[if_pos b4]
  rw[if_neg (by simpa using b4)] at h3
  have hh:=c_holds I V R W hI hV t hg (okT_all (fits2_len b1'.2) b4 b3)
  cases b5:kinds2 V W with
  |false=>
   rw[b5] at h3
   replace h3:SC Tryz.prog 57 [.agg (wcs I V R W)] [] (.val (.i .i64 1)) []:=h3
   refine SC.of_gwp noM mixed Tryz.func23 rfl (Nat.le_of_ble_eq_true rfl) (by first|exact Nat.le_refl _|simp) rfl ?_
   conv=>whnf
   refine callP hr (Wks.refl _) rfl (fun _=>rfl) hcl ?_
   conv=>whnf
   refine⟨_,⟨rfl,Nat.zero_le _,rfl,Nat.le_of_ble_eq_true rfl⟩,?_⟩
   conv=>whnf
   refine callP h1 (Wks.refl _) rfl (ClL.cons (Cl.agg hw) .nil) (.i _ _) ?_
   conv=>whnf
   refine callP h2 (Wks.refl _) rfl (ClL.cons t.cl (ClL.cons (Cl.sl (itms_cl I)) (ClL.cons (Cl.sl (itms_cl V)) .nil))) (.i _ _) ?_
   conv=>whnf
   refine callP h3 (Wks.refl _) rfl (ClL.cons (Cl.agg hw) .nil) (.i _ _) ?_
   conv=>whnf
   exact owes_wk (.refl _) (fun _=>rfl)
  |true=>
   rw[b5] at h3
   replace h3:SC Tryz.prog 57 [.agg (wcs I V R W)] [] (.val (.i .i64 0)) []:=h3
   refine SC.of_gwp noM mixed Tryz.func23 rfl (Nat.le_of_ble_eq_true rfl) (by first|exact Nat.le_refl _|simp) rfl ?_
   conv=>whnf
   refine callP hr (Wks.refl _) rfl (fun _=>rfl) hcl ?_
   conv=>whnf
   refine⟨_,⟨rfl,Nat.zero_le _,rfl,Nat.le_of_ble_eq_true rfl⟩,?_⟩
   conv=>whnf
   refine callP h1 (Wks.refl _) rfl (ClL.cons (Cl.agg hw) .nil) (.i _ _) ?_
   conv=>whnf
   refine callP h2 (Wks.refl _) rfl (ClL.cons t.cl (ClL.cons (Cl.sl (itms_cl I)) (ClL.cons (Cl.sl (itms_cl V)) .nil))) (.i _ _) ?_
   conv=>whnf
   refine callP h3 (Wks.refl _) rfl (ClL.cons (Cl.agg hw) .nil) (.i _ _) ?_
   conv=>whnf
   refine callP hh (Wks.refl _) rfl (ClL.cons (Cl.agg hw) (ClL.cons t.cl .nil)) (.b _) ?_
   conv=>whnf
   exact owes_wk (.refl _) (fun _=>rfl)
end Go.Proofs.YtlhabmglchgdnaaGreatDoor
namespace Go.Proofs.YtlhabmglchgdnaaGreatDoor
open Go.RowKit
set_option maxRecDepth 100000
set_option linter.unusedVariables false
theorem r_value (I V:List Itm) (R W:List Val) (hI:I.length<most) (hV:V.length<most) (t:Term) (h:okT I V R W t):
  SC Tryz.prog 82 [.agg (sdc t),.sl .none (itms I),.sl .none (vlsG R),.sl .none (itms V),.sl .none (vlsG W)] [] (.val (valT I V R W t).gv) []:=by
 rcases h with h|⟨h0,hv,j,v,h1,h2⟩|⟨h0,hv,j,v,h1,h2⟩
 ·have e:valT I V R W t=t.v:=if_pos h
  rw[e]
  obtain⟨nm,vr,v⟩:=t
  simp only at h
  subst h
  cases vr with
  |true=>
   refine SC.of_gwp noM mixed Tryz.func82 rfl (Nat.le_of_ble_eq_true rfl) (by first|exact Nat.le_refl _|simp) rfl ?_
   conv=>whnf
   refine⟨_,⟨rfl,Nat.zero_le _,rfl,Nat.le_of_ble_eq_true rfl⟩,?_⟩
   conv=>whnf
   exact owes_wk (g':=v.gv) (.refl _) (fun _=>rfl)
  |false=>
   refine SC.of_gwp noM mixed Tryz.func82 rfl (Nat.le_of_ble_eq_true rfl) (by first|exact Nat.le_refl _|simp) rfl ?_
   conv=>whnf
   refine⟨_,⟨rfl,Nat.zero_le _,rfl,Nat.le_of_ble_eq_true rfl⟩,?_⟩
   conv=>whnf
   exact owes_wk (g':=v.gv) (.refl _) (fun _=>rfl)
 ·have hk:=r_at V hV t.name
  rw[h1] at hk
  have hn:t.name≠[]:=h0
  have e:valT I V R W t=v:=by
   unfold valT
   rw[if_neg hn,hv]
   exact lkp_at h1 h2
  rw[e]
  obtain⟨nm,vr,tv⟩:=t
  simp only at hv hn hk
  subst hv
  refine SC.of_gwp noM mixed Tryz.func82 rfl (Nat.le_of_ble_eq_true rfl) (by first|exact Nat.le_refl _|simp) rfl ?_
  conv=>whnf
  refine GIf.mk (fun hz=>?_) (fun hz=>?_)<;>conv=>whnf
  rotate_left
  ·exact absurd (by simpa using hz) hn
  refine callP hk (Wks.refl _) rfl (ClL.cons (Cl.sl (itms_cl V)) (ClL.cons (.s _) .nil)) (.i _ _) ?_
  conv=>whnf
  refine⟨Int.natCast_nonneg _,_,by rw[Int.toNat_natCast];exact vlsG_at h2,rfl,?_⟩
  conv=>whnf
  refine⟨_,⟨rfl,Nat.zero_le _,rfl,Nat.le_of_ble_eq_true rfl⟩,?_⟩
  conv=>whnf
  exact owes_wk (.refl _) (fun _=>rfl)
 ·have hk:=r_at I hI t.name
  rw[h1] at hk
  have hn:t.name≠[]:=h0
  have e:valT I V R W t=v:=by
   unfold valT
   rw[if_neg hn,hv]
   exact lkp_at h1 h2
  rw[e]
  obtain⟨nm,vr,tv⟩:=t
  simp only at hv hn hk
  subst hv
  refine SC.of_gwp noM mixed Tryz.func82 rfl (Nat.le_of_ble_eq_true rfl) (by first|exact Nat.le_refl _|simp) rfl ?_
  conv=>whnf
  refine GIf.mk (fun hz=>?_) (fun hz=>?_)<;>conv=>whnf
  rotate_left
  ·exact absurd (by simpa using hz) hn
  refine callP hk (Wks.refl _) rfl (ClL.cons (Cl.sl (itms_cl I)) (ClL.cons (.s _) .nil)) (.i _ _) ?_
  conv=>whnf
  refine⟨Int.natCast_nonneg _,_,by rw[Int.toNat_natCast];exact vlsG_at h2,rfl,?_⟩
  conv=>whnf
  refine⟨_,⟨rfl,Nat.zero_le _,rfl,Nat.le_of_ble_eq_true rfl⟩,?_⟩
  conv=>whnf
  exact owes_wk (.refl _) (fun _=>rfl)
def ws4 (I V:List Itm) (R W:List Val):List GV:=[.sl .none (itms I),.sl .none (vlsG R),.sl .none (itms V),.sl .none (vlsG W)]
theorem ws4_cl (I V:List Itm) (R W:List Val):ClL (ws4 I V R W):=ClL.cons (Cl.sl (itms_cl I)) (ClL.cons (Cl.sl (vlsG_cl R)) (ClL.cons (Cl.sl (itms_cl V)) (ClL.cons (Cl.sl (vlsG_cl W)) .nil)))
end Go.Proofs.YtlhabmglchgdnaaGreatDoor
namespace Go.Proofs.YtlhabmglchgdnaaGreatDoor
open Go.RowKit
set_option maxRecDepth 100000
set_option linter.unusedVariables false
theorem good_side {a:Bool}:∀{t:Tree},t.good->∀x∈t.sides a,x.good
 |.pair b l r,h,x,hx=>by
  unfold Tree.sides at hx
  split at hx
  ·rcases List.mem_append.1 hx with hx|hx
   ·exact good_side h.1 x hx
   ·exact good_side h.2 x hx
  ·rw[List.mem_singleton.1 hx];exact h
 |.no t,h,x,hx=>by rw[List.mem_singleton.1 (show x∈[Tree.no t] from hx)];exact h
 |.test op l r,h,x,hx=>by rw[List.mem_singleton.1 (show x∈[Tree.test op l r] from hx)];exact h
 |.truth b,h,x,hx=>by rw[List.mem_singleton.1 (show x∈[Tree.truth b] from hx)];exact h
end Go.Proofs.YtlhabmglchgdnaaGreatDoor
namespace Go.Proofs.YtlhabmglchgdnaaGreatDoor
open Go.RowKit
set_option maxRecDepth 100000
set_option linter.unusedVariables false
end Go.Proofs.YtlhabmglchgdnaaGreatDoor
namespace Go.Proofs.YtlhabmglchgdnaaGreatDoor
open Go.RowKit
set_option maxRecDepth 100000
set_option linter.unusedVariables false
theorem c_readU (s:By):SC Tryz.prog 46 [.s s] [] (.val (readG s)) []:=by
 by_cases hl:1000<s.length
 ·have e:readG s=.tup [.o .nilIface,.i .i64 3]:=by unfold readG readS;rw[if_pos hl]
  rw[e]
  refine SC.of_gwp noM mixed Tryz.func46 rfl (Nat.le_of_ble_eq_true rfl) (by first|exact Nat.le_refl _|simp) rfl ?_
  conv=>whnf
  refine GIf.mk (fun h=>?_) (fun h=>?_)<;>conv=>whnf
  ·exact owes_wk (.refl _) (fun _=>rfl)
  ·exfalso;have:=of_decide_eq_false h;omega
 ·exact c_read s (by unfold most;omega)
end Go.Proofs.YtlhabmglchgdnaaGreatDoor
namespace Go.Proofs.YtlhabmglchgdnaaGreatDoor
open Go.RowKit
set_option maxRecDepth 100000
set_option linter.unusedVariables false
def part (f:Term->By) (L:List Term) (i:Nat):List By:=(L.take i).foldl (fun l x=>addN l (f x)) []
end Go.Proofs.YtlhabmglchgdnaaGreatDoor
namespace Go.Proofs.YtlhabmglchgdnaaGreatDoor
open Go.RowKit
set_option maxRecDepth 100000
set_option linter.unusedVariables false
def wakeT:By:=[97,61,49,32,97,110,100,32,40,98,60,62,34,120,34,32,111,114,32,110,111,116,40,99,32,60,32,58,118,41,41]
def wakeS:By:=[97,32,61,32,49,32,97,110,100,32,40,98,32,60,62,32,34,120,34,32,111,114,32,110,111,116,32,99,32,60,32,58,118,41]
theorem wake_show:showS wakeT=(wakeS,0):=by
 rw[<-showR_eq]
 kernel_rfl
theorem l_awake:SC Tryz.prog 9 [] [] (.val (.b true)) []:=by
 have h:=c_Show wakeT (by unfold most wakeT;simp)
 rw[wake_show] at h
 replace h:SC Tryz.prog 10 [.s wakeT] [] (.val (.tup [.s wakeS,.i .i64 0])) []:=h
 refine SC.of_gwp noM mixed Tryz.func9 rfl (Nat.le_of_ble_eq_true rfl) (by first|exact Nat.le_refl _|simp) rfl ?_
 conv=>whnf
 refine callP h (Wks.refl _) rfl (fun _=>rfl) (fun _=>rfl) ?_
 conv=>whnf
 exact owes_b rfl
end Go.Proofs.YtlhabmglchgdnaaGreatDoor
