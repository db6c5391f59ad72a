/-
 CondChecks: Check and Eval of every text, items, row, variables and values are those of the reference, and a condition and its canonical text have one truth; part 42 of 46. Conditions: none beyond the given statement.
-/
import Derived.Test.YtlhabmglchgdnaaGreatDoorQ41
import Derived.Test.YtlhabmglchgdnaaGreatDoorQ40
import Derived.Test.YtlhabmglchgdnaaGreatDoorQ19
import Derived.Test.YtlhabmglchgdnaaGreatDoorQ28
set_option linter.all false
namespace Go.Proofs.YtlhabmglchgdnaaGreatDoor
open Go.RowKit
set_option maxRecDepth 100000
set_option linter.unusedVariables false
theorem tok_len : ∀ (n : Nat) (l : List UInt8), l.length <= n -> ∀ w ∈ toks l, w.length <= l.length
 | 0, l, h, w, hw => by
  have : l = [] := List.eq_nil_of_length_eq_zero (by omega)
  subst this; rw [toks_nil rfl] at hw; cases hw
 | n + 1, l, h, w, hw => by
  cases hk : skip l with
  | nil => rw [toks_nil hk] at hw; cases hw
  | cons c t =>
   rw [toks_cons hk] at hw
   have h1 := skip_len l
   rw [hk] at h1
   have h2 := wlen_pos c t
   simp only [List.length_cons] at h1
   rcases List.mem_cons.1 hw with rfl | hw
   ·unfold wrd
    rw [List.length_take]
    simp only [List.length_cons]; omega
   ·have := tok_len n ((c :: t).drop (wlen (c :: t))) (by simp; omega) w hw
    simp at this; omega
def nodeN : GV := .agg (ndc 0 [] t0 t0 [] false)
def readRG (s : By) : GV := match readR s with
 | .ok t => .tup [t.ng, .i .i64 0]
 | .err e => .tup [nodeN, .i .i64 e]
theorem nodeN_cl : Cl nodeN := Cl.agg (ndc_cl ClL.nil t0 t0 [] false)
theorem readRG_cl (s : By) : Cl (readRG s) := by
 unfold readRG
 split
 ·exact Cl.tup (.cons (Tree.ng_cl _) (.cons (.i _ _) .nil))
 ·exact Cl.tup (.cons nodeN_cl (.cons (.i _ _) .nil))
theorem r_Read (s : By) (hs : s.length < 1000000) : SC Tryz.prog 48 [.s s] [] (.val (readRG s)) [] := by
 by_cases hl : 1000 < s.length
 ·have e : readRG s = .tup [nodeN, .i .i64 3] := by unfold readRG readR; rw [if_pos hl]
  rw [e]
  refine SC.of_gwp noM mixed Tryz.func48 rfl (Nat.le_of_ble_eq_true rfl) (by first | exact Nat.le_refl _ | simp) rfl ?_
  conv => whnf
  refine GIf.mk (fun h => ?_) (fun h => ?_) <;> conv => whnf
  ·skip
   refine ⟨_, ⟨rfl, Nat.zero_le _, rfl, Nat.le_of_ble_eq_true rfl⟩, ?_⟩
   conv => whnf
   exact owes_wk (wk_t2 wk_node (.refl _)) (Cl.tup (.cons nodeN_cl (.cons (.i _ _) .nil)))
  ·exfalso; have := of_decide_eq_false h; omega
 ·have hsp := r_split s hs
  cases hss : splitS s with
  | none =>
   rw [hss] at hsp
   have e : readRG s = .tup [nodeN, .i .i64 2] := by unfold readRG readR; rw [if_neg hl, hss]
   rw [e]
   replace hsp : SC Tryz.prog 79 [.s s] [] (.val (.tup [.sl .none [], .b false])) [] := hsp
   refine SC.of_gwp noM mixed Tryz.func48 rfl (Nat.le_of_ble_eq_true rfl) (by first | exact Nat.le_refl _ | simp) rfl ?_
   conv => whnf
   refine GIf.mk (fun h => ?_) (fun h => ?_) <;> conv => whnf
   ·exfalso; have := of_decide_eq_true h; omega
   refine callP hsp (Wks.refl _) rfl (fun _ => rfl) (fun _ => rfl) ?_
   conv => whnf
   refine ⟨_, ⟨rfl, Nat.zero_le _, rfl, Nat.le_of_ble_eq_true rfl⟩, ?_⟩
   conv => whnf
   exact owes_wk (wk_t2 wk_node (.refl _)) (Cl.tup (.cons nodeN_cl (.cons (.i _ _) .nil)))
  | some ws =>
   rw [hss] at hsp
   replace hsp : SC Tryz.prog 79 [.s s] [] (.val (.tup [.sl .none (strG ws), .b true])) [] := hsp
   have ht := split_to _ _ _ hss
   have hwl := toks_len s.length s (Nat.le_refl _)
   rw [ht] at hwl
   have hx : ∀ w ∈ ws, w.length < 1000000 := fun w hw => by
    have := tok_len s.length s (Nat.le_refl _) w (by rw [ht]; exact hw)
    omega
   have h4 := (fourR ws (by omega) hx (fuel s) 0 0 0 (Nat.zero_le _) (by omega)).1 (by unfold fuel; omega)
   rw [List.drop_zero] at h4
   have hcl0 : Cl (.tup [.sl .none (strG ws), .b true]) := Cl.tup (.cons (Cl.sl (strG_cl ws)) (.cons (.b _) .nil))
   cases hp : pars litR (fuel s) .or 0 0 ws with
   | none =>
    rw [hp] at h4
    obtain ⟨t, a', l', b1, b2, b3, hc⟩ := h4
    have e : readRG s = .tup [nodeN, .i .i64 2] := by unfold readRG readR; rw [if_neg hl, hss]; simp only; rw [hp]
    rw [e]
    have hcl := t.ng_cl
    obtain ⟨k, kids, A, B, op, yes, hng⟩ := ng_form t
    rw [hng] at hc hcl
    refine SC.of_gwp noM mixed Tryz.func48 rfl (Nat.le_of_ble_eq_true rfl) (by first | exact Nat.le_refl _ | simp) rfl ?_
    conv => whnf
    refine GIf.mk (fun h => ?_) (fun h => ?_) <;> conv => whnf
    ·exfalso; have := of_decide_eq_true h; omega
    refine callP hsp (Wks.refl _) rfl (fun _ => rfl) hcl0 ?_
    conv => whnf
    refine callB (q := 1) hc rfl (Wks.refl _) rfl rfl (rdr_cl _ _ _ _ _) (rdr_cl _ _ _ _ _) (fun _ => rfl) hcl ?_
    conv => whnf
    refine ⟨_, ⟨rfl, Nat.zero_le _, rfl, Nat.le_of_ble_eq_true rfl⟩, ?_⟩
    conv => whnf
    refine ⟨_, ⟨rfl, Nat.zero_le _, rfl, Nat.le_of_ble_eq_true rfl⟩, ?_⟩
    conv => whnf
    exact owes_wk (wk_t2 wk_node (.refl _)) (Cl.tup (.cons nodeN_cl (.cons (.i _ _) .nil)))
   | some p =>
    obtain ⟨t, r, e⟩ := p
    rw [hp] at h4
    obtain ⟨a', b1, b2, hr, b3, hc⟩ := h4
    have hcl := t.ng_cl
    obtain ⟨k, kids, A, B, op, yes, hng⟩ := ng_form t
    have hsl := strG_len ws
    by_cases hlt : a' < ws.length
    ·have e : readRG s = .tup [nodeN, .i .i64 2] := by
      unfold readRG readR; rw [if_neg hl, hss]; simp only; rw [hp]; simp only
      rw [if_neg (by intro h; rw [h] at hr; have := congrArg List.length hr; simp at this; omega)]
     rw [e]
     rw [hng] at hc hcl
     refine SC.of_gwp noM mixed Tryz.func48 rfl (Nat.le_of_ble_eq_true rfl) (by first | exact Nat.le_refl _ | simp) rfl ?_
     conv => whnf
     refine GIf.mk (fun h => ?_) (fun h => ?_) <;> conv => whnf
     ·exfalso; have := of_decide_eq_true h; omega
     refine callP hsp (Wks.refl _) rfl (fun _ => rfl) hcl0 ?_
     conv => whnf
     refine callB (q := 1) hc rfl (Wks.refl _) rfl rfl (rdr_cl _ _ _ _ _) (rdr_cl _ _ _ _ _) (fun _ => rfl) hcl ?_
     conv => whnf
     refine ⟨_, ⟨rfl, Nat.zero_le _, rfl, Nat.le_of_ble_eq_true rfl⟩, ?_⟩
     conv => whnf
     refine GIf.mk (fun h2 => ?_) (fun h2 => ?_) <;> conv => whnf
     ·skip
      refine ⟨_, ⟨rfl, Nat.zero_le _, rfl, Nat.le_of_ble_eq_true rfl⟩, ?_⟩
      conv => whnf
      exact owes_wk (wk_t2 wk_node (.refl _)) (Cl.tup (.cons nodeN_cl (.cons (.i _ _) .nil)))
     ·exfalso; have := of_decide_eq_false h2; omega
    ·have hr0 : r = [] := by rw [hr]; exact List.drop_eq_nil_of_le (by omega)
     by_cases h20 : 20 < e
     ·have e : readRG s = .tup [nodeN, .i .i64 4] := by
       unfold readRG readR; rw [if_neg hl, hss]; simp only; rw [hp]; simp only
       rw [if_pos hr0, if_pos h20]
      rw [e]
      rw [hng] at hc hcl
      rw [decide_eq_true h20] at hc
      refine SC.of_gwp noM mixed Tryz.func48 rfl (Nat.le_of_ble_eq_true rfl) (by first | exact Nat.le_refl _ | simp) rfl ?_
      conv => whnf
      refine GIf.mk (fun h => ?_) (fun h => ?_) <;> conv => whnf
      ·exfalso; have := of_decide_eq_true h; omega
      refine callP hsp (Wks.refl _) rfl (fun _ => rfl) hcl0 ?_
      conv => whnf
      refine callB (q := 1) hc rfl (Wks.refl _) rfl rfl (rdr_cl _ _ _ _ _) (rdr_cl _ _ _ _ _) (fun _ => rfl) hcl ?_
      conv => whnf
      refine ⟨_, ⟨rfl, Nat.zero_le _, rfl, Nat.le_of_ble_eq_true rfl⟩, ?_⟩
      conv => whnf
      refine GIf.mk (fun h2 => ?_) (fun h2 => ?_) <;> conv => whnf
      ·exfalso; have := of_decide_eq_true h2; omega
      ·skip
       refine ⟨_, ⟨rfl, Nat.zero_le _, rfl, Nat.le_of_ble_eq_true rfl⟩, ?_⟩
       conv => whnf
       exact owes_wk (wk_t2 wk_node (.refl _)) (Cl.tup (.cons nodeN_cl (.cons (.i _ _) .nil)))
     ·have e : readRG s = .tup [t.ng, .i .i64 0] := by
       unfold readRG readR; rw [if_neg hl, hss]; simp only; rw [hp]; simp only
       rw [if_pos hr0, if_neg h20]
      rw [e]
      rw [hng] at hc hcl ⊢
      rw [decide_eq_false h20] at hc
      refine SC.of_gwp noM mixed Tryz.func48 rfl (Nat.le_of_ble_eq_true rfl) (by first | exact Nat.le_refl _ | simp) rfl ?_
      conv => whnf
      refine GIf.mk (fun h => ?_) (fun h => ?_) <;> conv => whnf
      ·exfalso; have := of_decide_eq_true h; omega
      refine callP hsp (Wks.refl _) rfl (fun _ => rfl) hcl0 ?_
      conv => whnf
      refine callB (q := 1) hc rfl (Wks.refl _) rfl rfl (rdr_cl _ _ _ _ _) (rdr_cl _ _ _ _ _) (fun _ => rfl) hcl ?_
      conv => whnf
      refine ⟨_, ⟨rfl, Nat.zero_le _, rfl, Nat.le_of_ble_eq_true rfl⟩, ?_⟩
      conv => whnf
      refine GIf.mk (fun h2 => ?_) (fun h2 => ?_) <;> conv => whnf
      ·exfalso; have := of_decide_eq_true h2; omega
      ·skip
       refine ⟨_, ⟨rfl, Nat.zero_le _, rfl, Nat.le_of_ble_eq_true rfl⟩, ?_⟩
       conv => whnf
       exact owes_wk (.refl _) (Cl.tup (.cons hcl (.cons (.i _ _) .nil)))
theorem readR_err {s : By} {e : Int} (h : readR s = .err e) : e = 2 ∨ e = 3 ∨ e = 4 := by
 unfold readR at h
 split at h
 ·cases h; omega
 ·split at h
  ·cases h; omega
  ·split at h
   ·split at h
    ·split at h
     ·cases h; omega
     ·cases h
    ·cases h; omega
   ·cases h; omega
theorem readR_size {s : By} {t : Tree} (h : readR s = .ok t) : t.size <= 1000 := by
 have hr := readR_eq s
 rw [h] at hr
 have := (readS_bound hr).2.1
 rw [flat_size] at this
 exact this
end Go.Proofs.YtlhabmglchgdnaaGreatDoor
namespace Go.Proofs.YtlhabmglchgdnaaGreatDoor
open Go.RowKit
set_option maxRecDepth 100000
set_option linter.unusedVariables false
end Go.Proofs.YtlhabmglchgdnaaGreatDoor
namespace Go.Proofs.YtlhabmglchgdnaaGreatDoor
open Go.RowKit
set_option maxRecDepth 100000
set_option linter.unusedVariables false
def leaves : Tree -> List Term
 | .pair _ l r => leaves l ++ leaves r
 | .no t => leaves t
 | .test _ a b => [a, b]
 | .truth _ => []
theorem leaves_sides (a : Bool) : ∀ t : Tree, (t.sides a).flatMap leaves = leaves t
 | .pair b l r => by
  unfold Tree.sides
  split
  ·rw [List.flatMap_append, leaves_sides a l, leaves_sides a r]; rfl
  ·simp
 | .no t => by simp [Tree.sides]
 | .test _ _ _ => by simp [Tree.sides]
 | .truth _ => by simp [Tree.sides]
theorem leaves_size : ∀ t : Tree, (leaves t).length <= 2 * t.size
 | .pair _ l r => by
  have h1 := leaves_size l
  have h2 := leaves_size r
  simp only [leaves, Tree.size, List.length_append]; omega
 | .no t => by
  have := leaves_size t
  simp only [leaves, Tree.size]; omega
 | .test _ _ _ => by simp [leaves, Tree.size]
 | .truth _ => by simp [leaves]
def sds (l : List Term) : List GV := l.map fun t => .agg (sdc t)
theorem sds_cl (l : List Term) : ClL (sds l) := ClL.mapOf (fun t => Cl.agg (sdc_cl t)) l
theorem sds_len (l : List Term) : (sds l).length = l.length := by simp [sds]
theorem sds_ok (l : List Term) : (sds l).all (fun x => x.cells.length == 5) = true := by
 rw [List.all_eq_true]; intro x hx
 obtain ⟨t, _, rfl⟩ := List.mem_map.1 hx
 rfl
theorem sds_okEl (l : List Term) : (sds l).all (okEl 5) = true := by
 rw [List.all_eq_true]; intro x hx
 obtain ⟨t, _, rfl⟩ := List.mem_map.1 hx
 rfl
theorem sds_app (a b : List Term) : sds (a ++ b) = sds a ++ sds b := by unfold sds; rw [List.map_append]
theorem r_sd_test (op : By) (l r : Term) : SC Tryz.prog 51 [.agg (ndc 4 [] l r op false)] [] (.val (.sl .none (sds [l, r]))) [] := by
 refine SC.of_gwp noM mixed Tryz.func51 rfl (Nat.le_of_ble_eq_true rfl) (by first | exact Nat.le_refl _ | simp) rfl ?_
 conv => whnf
 exact owes_wk (Wk.sl _ _) (Cl.sl (sds_cl _))
def lvs (L : List Tree) (i : Nat) : List Term := (L.take i).flatMap leaves
theorem lvs_succ {L : List Tree} {i : Nat} {y : Tree} (h : L[i]? = some y) : lvs L (i + 1) = lvs L i ++ leaves y := by
 unfold lvs
 rw [List.take_add_one, h, List.flatMap_append]
 simp
theorem lvs_le (L : List Tree) (i : Nat) : (lvs L i).length <= (L.flatMap leaves).length := by
 have : L.flatMap leaves = lvs L i ++ (L.drop i).flatMap leaves := by
  unfold lvs
  rw [<- List.flatMap_append, List.take_append_drop]
 rw [this, List.length_append]; omega
theorem r_sd_kids (k : Nat) (hk : k ≠ 4) (L : List Tree) (yes : Bool) (hL : L.length <= 100000) (hb : (L.flatMap leaves).length <= 1000000) (hc : ∀ y ∈ L, SC Tryz.prog 51 [y.ng] [] (.val (.sl .none (sds (leaves y)))) []) :
  SC Tryz.prog 51 [.agg (ndc k (ngs L) t0 t0 [] yes)] [] (.val (.sl .none (sds (L.flatMap leaves)))) [] := by
 have hnl : (ngs L).length = L.length := ngs_len L
 refine SC.of_gwp noM mixed Tryz.func51 rfl (Nat.le_of_ble_eq_true rfl) (by first | exact Nat.le_refl _ | simp) rfl ?_
 conv => whnf
 refine GIf.mk (fun h4 => ?_) (fun h4 => ?_) <;> conv => whnf
 ·exfalso
  have h9 : (k : Int) = 4 := by simpa using h4
  omega
 refine GLoop.introS (fun q : Nat × List Term => q.1 <= L.length /\ lvs L q.1 = q.2) (fun q => [(1, .ptr 0 0), (3, .sl (.own 2) (sds q.2)), (4, .i .i64 (q.1 : Nat))])
  (fun q => ⟨[.box 69 (ndc k (ngs L) t0 t0 [] yes), .own 0 0 0, ow 67 5 q.2.length], 0, []⟩) (fun q => L.length - q.1) (0, []) ⟨Nat.zero_le _, rfl⟩ ⟨rfl, rfl, rfl, trivial⟩ rfl (fun _ _ => Nat.le_refl _) (fun q _ => by simp only [List.all_cons, ow_held]; rfl) (fun q _ e he => ?_) (fun q φ0 hi => ?_)
 ·refine ⟨?_, rfl, ?_⟩
  ·show [(GObj.box _ (ndc k (ngs L) t0 t0 [] yes)).ren e, _, (ow _ 5 _).ren e] = _
   rw [ow_ren, GObj.box_cl (ndc_cl (ngs_cl L) t0 t0 [] yes) e]; rfl
  ·show [GV.ptr (e 0) 0, (GV.sl (.own 2) (sds q.2)).ren e, _] = _
   rw [ren_own (he 2 (by simp)) (sds_cl _), he 0 (by simp)]; rfl
 obtain ⟨i, o⟩ := q
 obtain ⟨hi, ho⟩ := hi
 replace hi : i <= L.length := hi
 replace ho : lvs L i = o := ho
 conv => whnf
 refine GIf.mk (fun h => ?_) (fun h => ?_) <;> conv => whnf
 rotate_left
 ·have hie : i = L.length := by have := of_decide_eq_false h; rw [hnl] at this; omega
  have hoe : o = L.flatMap leaves := by rw [<- ho, hie]; unfold lvs; rw [List.take_length]
  rw [<- hoe]
  exact owes_wk (Wk.sl _ _) (Cl.sl (sds_cl _))
 have hlt : i < L.length := by have := of_decide_eq_true h; rw [hnl] at this; omega
 obtain ⟨y, hy⟩ : ∃ y, L[i]? = some y := ⟨L[i], List.getElem?_eq_getElem hlt⟩
 have hgy : (ngs L)[i]? = some y.ng := by unfold ngs; rw [List.getElem?_map, hy]; rfl
 have hcy := hc y (List.mem_of_getElem? hy)
 have hcl := y.ng_cl
 have hsucc := lvs_succ hy
 have hle := lvs_le L (i + 1)
 rw [hsucc, ho, List.length_append] at hle
 rw [ho] at hsucc
 obtain ⟨k2, kids, A, B, op, yes2, hng⟩ := ng_form y
 rw [hng] at hgy hcy hcl
 refine ⟨Int.natCast_nonneg _, .agg (ndc k2 kids A B op yes2), by rw [Int.toNat_natCast]; exact hgy, rfl, ?_⟩
 conv => whnf
 generalize leaves y = ys at *
 rcases ys with _ | ⟨y1, ys⟩
 ·refine callP hcy (Wks.refl _) rfl (ClL.cons hcl .nil) (Cl.sl (sds_cl _)) ?_
  conv => whnf
  rw [List.append_nil] at hsucc
  exact ⟨L.length - (i + 1), (by show _ < L.length - i; omega), (i + 1, o), ⟨hlt, hsucc⟩, rfl, ⟨rfl, rfl, wrap_succ (by omega), trivial⟩, [], rfl, rfl⟩
 ·refine callP hcy (Wks.refl _) rfl (ClL.cons hcl .nil) (Cl.sl (sds_cl _)) ?_
  conv => whnf
  cases o with
  | nil =>
   refine ⟨⟨sds_okEl (y1 :: ys), sds_ok _, by show (sds ([] : List Term)).length + (sds (y1 :: ys)).length <= 4294967296; rw [sds_len, sds_len]; omega⟩, sds (([] : List Term) ++ y1 :: ys), (([] : List Term) ++ y1 :: ys).length, ⟨sds_app ([] : List Term) (y1 :: ys), by show _ = (sds ([] : List Term)).length + (sds (y1 :: ys)).length; rw [sds_len, sds_len, List.length_append]⟩, ?_⟩
   conv => whnf
   refine ⟨⟨Nat.zero_le _, by first | rfl | (rw [sds_len]; rfl) | (rw [sds_len]; simp), by first | exact .inr ⟨rfl, rfl⟩ | exact .inl ⟨rfl, rfl⟩⟩, ?_⟩
   conv => whnf
   exact ⟨L.length - (i + 1), (by show _ < L.length - i; omega), (i + 1, ([] : List Term) ++ y1 :: ys), ⟨hlt, hsucc⟩, rfl, ⟨rfl, rfl, wrap_succ (by omega), trivial⟩, _, rfl, rfl⟩
  | cons z zs =>
   refine ⟨⟨sds_okEl (y1 :: ys), sds_ok _, by show (sds (z :: zs)).length + (sds (y1 :: ys)).length <= 4294967296; rw [sds_len, sds_len]; omega⟩, sds ((z :: zs) ++ y1 :: ys), ((z :: zs) ++ y1 :: ys).length, ⟨sds_app (z :: zs) (y1 :: ys), by show _ = (sds (z :: zs)).length + (sds (y1 :: ys)).length; rw [sds_len, sds_len, List.length_append]⟩, ?_⟩
   conv => whnf
   refine ⟨⟨Nat.zero_le _, by first | rfl | (rw [sds_len]; rfl) | (rw [sds_len]; simp), by first | exact .inr ⟨rfl, rfl⟩ | exact .inl ⟨rfl, rfl⟩⟩, ?_⟩
   conv => whnf
   exact ⟨L.length - (i + 1), (by show _ < L.length - i; omega), (i + 1, (z :: zs) ++ y1 :: ys), ⟨hlt, hsucc⟩, rfl, ⟨rfl, rfl, wrap_succ (by omega), trivial⟩, _, rfl, rfl⟩
theorem r_sides : ∀ (n : Nat) (t : Tree), t.size <= n -> t.size <= 5000 -> SC Tryz.prog 51 [t.ng] [] (.val (.sl .none (sds (leaves t)))) []
 | 0, t, h, _ => by cases t <;> simp [Tree.size] at h
 | n + 1, t, h, h2 => by
  have hz := leaves_size t
  cases t with
  | truth b =>
   have := r_sd_kids 5 (by decide) [] b (by simp) (by simp) (fun y hy => by cases hy)
   exact this
  | test op l r => exact r_sd_test op l r
  | no t =>
   simp only [Tree.size] at h h2
   have := r_sd_kids 3 (by decide) [t] false (by simp) (by simp [leaves] at hz ⊢; simp only [Tree.size] at hz; omega) (fun y hy => by
    rw [List.mem_singleton.1 hy]; exact r_sides n t (by omega) (by omega))
   have e : [t].flatMap leaves = leaves (.no t) := by simp [leaves]
   rw [e] at this
   exact this
  | pair a l r =>
   have hs := @sides_len a (Tree.pair a l r)
   have hk : ∀ y ∈ (Tree.pair a l r).sides a, SC Tryz.prog 51 [y.ng] [] (.val (.sl .none (sds (leaves y)))) [] := fun y hy => by
    have := sides_lt hy
    exact r_sides n y (by omega) (by omega)
   have := r_sd_kids (opn a) (by cases a <;> decide) ((Tree.pair a l r).sides a) false (by omega) (by rw [leaves_sides]; omega) hk
   rw [leaves_sides] at this
   rw [show (Tree.pair a l r).ng = .agg (ndc (opn a) (ngs ((Tree.pair a l r).sides a)) t0 t0 [] false) by show GV.agg _ = _; rw [ncs_pair]]
   exact this
def addN (l : List By) (x : By) : List By := if x ≠ [] /\ ¬ x ∈ l then l ++ [x] else l
def accL : Option Tree -> List Term
 | none => []
 | some x => leaves x
theorem leaves_join (a : Bool) (acc : Option Tree) (t : Tree) : leaves (joinA a acc t) = accL acc ++ leaves t := by cases acc <;> rfl
theorem leaves_flatA (a : Bool) : ∀ (t : Tree) (acc : Option Tree), leaves (flatA a acc t) = accL acc ++ leaves t := by
 intro t
 induction t generalizing a with
 | pair b l r i1 i2 =>
  intro acc
  unfold flatA
  split
  ·rw [i2]
   show leaves (flatA a acc l) ++ leaves r = accL acc ++ (leaves l ++ leaves r)
   rw [i1, List.append_assoc]
  ·rw [leaves_join, i2]
   show accL acc ++ (leaves (flatA b none l) ++ leaves r) = accL acc ++ (leaves l ++ leaves r)
   rw [i1]; rfl
 | no t i =>
  intro acc
  unfold flatA
  rw [leaves_join]
  show _ ++ leaves (flatA true none t) = _
  rw [i]; rfl
 | test op l r => intro acc; unfold flatA; rw [leaves_join]
 | truth b => intro acc; unfold flatA; rw [leaves_join]
theorem leaves_flat (t : Tree) : leaves t.flat = leaves t := by
 unfold Tree.flat; rw [leaves_flatA]; rfl
end Go.Proofs.YtlhabmglchgdnaaGreatDoor
namespace Go.Proofs.YtlhabmglchgdnaaGreatDoor
open Go.RowKit
set_option maxRecDepth 100000
set_option linter.unusedVariables false
def relB (op : By) (c : Int) : Bool := if op = [61] then c == 0 else if op = [60, 62] then c != 0 else if op = [60] then decide (c < 0) else if op = [60, 61] then decide (c <= 0) else if op = [62] then decide (c > 0) else decide (c >= 0)
def truthV (τ : Term -> Val) : Tree -> Bool
 | .pair a l r => if a then truthV τ l && truthV τ r else truthV τ l || truthV τ r
 | .no t => !truthV τ t
 | .test op l r => relB op (cmpV (τ l) (τ r))
 | .truth b => b
def comb (a : Bool) : Option Bool -> Bool -> Bool
 | none, x => x
 | some y, x => if a then y && x else y || x
theorem truth_join (τ : Term -> Val) (a : Bool) (acc : Option Tree) (t : Tree) : truthV τ (joinA a acc t) = comb a (acc.map (truthV τ)) (truthV τ t) := by cases acc <;> rfl
theorem truth_flatA (τ : Term -> Val) : ∀ (t : Tree) (a : Bool) (acc : Option Tree), truthV τ (flatA a acc t) = comb a (acc.map (truthV τ)) (truthV τ t)
 | .pair b l r, a, acc => by
  unfold flatA
  split
  ·rename_i hab
   subst hab
   rw [truth_flatA τ r, Option.map_some, truth_flatA τ l]
   cases acc <;> cases a <;> simp [comb, truthV, Bool.and_assoc, Bool.or_assoc]
  ·rw [truth_join, truth_flatA τ r, Option.map_some, truth_flatA τ l]
   cases acc <;> cases b <;> simp [comb, truthV]
 | .no t, a, acc => by
  unfold flatA
  rw [truth_join]
  show comb a _ (!truthV τ (flatA true none t)) = _
  rw [truth_flatA τ t]; rfl
 | .test op l r, a, acc => by unfold flatA; rw [truth_join]
 | .truth b, a, acc => by unfold flatA; rw [truth_join]
theorem truth_flat (τ : Term -> Val) (t : Tree) : truthV τ t.flat = truthV τ t := truth_flatA τ t true none
theorem truth_sides (τ : Term -> Val) (a : Bool) : ∀ t : Tree, truthV τ t = if a then (t.sides a).all (truthV τ) else (t.sides a).any (truthV τ)
 | .pair b l r => by
  unfold Tree.sides
  by_cases hab : a = b
  ·subst hab
   rw [if_pos rfl, List.all_append, List.any_append]
   have h1 := truth_sides τ a l
   have h2 := truth_sides τ a r
   cases a <;> simp [truthV, h1, h2]
  ·rw [if_neg hab]
   cases a <;> simp
 | .no t => by cases a <;> simp [Tree.sides]
 | .test _ _ _ => by cases a <;> simp [Tree.sides]
 | .truth _ => by cases a <;> simp [Tree.sides]
def kindR (I V : List Itm) (t : Term) : Int := if t.name = [] then t.v.k else match (if t.var then V else I).find? (fun i => i.name == t.name) with
 | some i => i.k
 | none => 0
def tsts : Tree -> List (Term × Term)
 | .pair _ l r => tsts l ++ tsts r
 | .no t => tsts t
 | .test _ a b => [(a, b)]
 | .truth _ => []
def checkS (I V : List Itm) (t : Tree) : Int := if (leaves t).any (fun x => kindR I V x == 0) then 5 else if (tsts t).any (fun p => kindR I V p.1 != kindR I V p.2) then 10 else 0
theorem leaves_tsts : ∀ t : Tree, leaves t = (tsts t).flatMap fun p => [p.1, p.2]
 | .pair _ l r => by simp only [leaves, tsts, List.flatMap_append]; rw [leaves_tsts l, leaves_tsts r]
 | .no t => leaves_tsts t
 | .test _ _ _ => rfl
 | .truth _ => rfl
def accT : Option Tree -> List (Term × Term)
 | none => []
 | some x => tsts x
theorem tsts_join (a : Bool) (acc : Option Tree) (t : Tree) : tsts (joinA a acc t) = accT acc ++ tsts t := by cases acc <;> rfl
theorem tsts_flatA : ∀ (t : Tree) (a : Bool) (acc : Option Tree), tsts (flatA a acc t) = accT acc ++ tsts t
 | .pair b l r, a, acc => by
  unfold flatA
  split
  ·rw [tsts_flatA r]
   show tsts (flatA a acc l) ++ tsts r = accT acc ++ (tsts l ++ tsts r)
   rw [tsts_flatA l, List.append_assoc]
  ·rw [tsts_join, tsts_flatA r]
   show accT acc ++ (tsts (flatA b none l) ++ tsts r) = accT acc ++ (tsts l ++ tsts r)
   rw [tsts_flatA l]; rfl
 | .no t, a, acc => by
  unfold flatA
  rw [tsts_join]
  show _ ++ tsts (flatA true none t) = _
  rw [tsts_flatA t]; rfl
 | .test op l r, a, acc => by unfold flatA; rw [tsts_join]
 | .truth b, a, acc => by unfold flatA; rw [tsts_join]
theorem tsts_flat (t : Tree) : tsts t.flat = tsts t := tsts_flatA t true none
theorem check_flat (I V : List Itm) (t : Tree) : checkS I V t.flat = checkS I V t := by
 unfold checkS
 rw [leaves_flat, tsts_flat]
end Go.Proofs.YtlhabmglchgdnaaGreatDoor
