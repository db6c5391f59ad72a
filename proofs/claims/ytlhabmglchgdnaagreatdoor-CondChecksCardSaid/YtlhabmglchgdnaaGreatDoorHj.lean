/-
 CondChecks: Check and Eval of every text, items, row, variables and values are those of the reference, and a condition and its canonical text have one truth; part 46 of 46. Conditions: none beyond the given statement.
-/
import Derived.Test.YtlhabmglchgdnaaGreatDoorQ45
import Derived.Test.YtlhabmglchgdnaaGreatDoorQ29
set_option linter.all false
namespace Go.Proofs.YtlhabmglchgdnaaGreatDoor
open Go.RowKit
set_option maxRecDepth 100000
set_option linter.unusedVariables false
def itemsB (l : List Itm) : Bool := (l.take 20).all (fun i => decide (i.name.length <= 100)) && decide (l.length <= 20)
theorem l_Items (l : List Itm) : SC Tryz.prog 19 [.sl .none (itms l)] [] (.val (.b (itemsB l))) [] := by
 have hlen := itms_len l
 unfold itemsB
 refine SC.of_gwp noM mixed Tryz.func19 rfl (Nat.le_of_ble_eq_true rfl) (by first | exact Nat.le_refl _ | simp) rfl ?_
 conv => whnf
 refine GLoop.intro (fun i : Nat => i <= l.length /\ i <= 20 /\ ∀ z ∈ l.take i, z.name.length <= 100) (fun i => [(0, .sl .none (itms l)), (3, .i .i64 (i : Nat))]) (fun _ => ⟨[], 0, []⟩) (fun i => l.length - i) 0 ⟨Nat.zero_le _, Nat.zero_le _, (fun z h => by simp at h)⟩ ⟨rfl, rfl, trivial⟩ rfl (fun i φ0 hi => ?_)
 obtain ⟨hi, hi2, hok⟩ := hi
 have fin : (i = l.length ∨ i = 20) -> (l.take 20).all (fun i => decide (i.name.length <= 100)) = true := fun hh => by
  rw [List.all_eq_true]
  intro x hx
  refine decide_eq_true (hok x ?_)
  rcases hh with rfl | rfl
  ·rw [List.take_length]; exact List.mem_of_mem_take hx
  ·exact hx
 have hle : decide (((itms l).length : Int) <= 20) = decide (l.length <= 20) := by rw [hlen, decide_eq_decide]; omega
 conv => whnf
 refine GIf.mk (fun h => ?_) (fun h => ?_) <;> conv => whnf
 rotate_left
 ·have hie : i = l.length := by have := of_decide_eq_false h; rw [hlen] at this; omega
  refine owes_b ?_
  rw [fin (.inl hie), Bool.true_and]; exact hle
 have hlt : i < l.length := by have := of_decide_eq_true h; rw [hlen] at this; omega
 refine GIf.mk (fun h2 => ?_) (fun h2 => ?_) <;> conv => whnf
 rotate_left
 ·have hie : i = 20 := by have := of_decide_eq_false h2; omega
  refine owes_b ?_
  rw [fin (.inr hie), Bool.true_and]; exact hle
 have hlt2 : i < 20 := by have := of_decide_eq_true h2; omega
 obtain ⟨y, hy⟩ : ∃ y, l[i]? = some y := ⟨l[i], List.getElem?_eq_getElem hlt⟩
 refine ⟨Int.natCast_nonneg _, _, by rw [Int.toNat_natCast]; exact itms_at hy, rfl, ?_⟩
 conv => whnf
 refine GIf.mk (fun h3 => ?_) (fun h3 => ?_) <;> conv => whnf
 ·have h3' : ¬ y.name.length <= 100 := by have := of_decide_eq_true h3; omega
  refine owes_b ?_
  have : (l.take 20).all (fun i => decide (i.name.length <= 100)) = false := List.all_eq_false.2 ⟨y, List.mem_of_getElem? (i := i) (by rw [List.getElem?_take, if_pos hlt2]; exact hy), by simpa using h3'⟩
  rw [this]; rfl
 ·have h3' : y.name.length <= 100 := by have := of_decide_eq_false h3; omega
  refine ⟨l.length - (i + 1), (by show _ < l.length - i; omega), i + 1, ⟨hlt, hlt2, fun z hz => ?_⟩, rfl, ⟨rfl, wrap_succ (by omega), trivial⟩, rfl⟩
  rw [List.take_add_one, hy] at hz
  rcases List.mem_append.1 hz with hz | hz
  ·exact hok z hz
  ·rw [List.mem_singleton.1 (show z ∈ [y] from hz)]; exact h3'
def rowB (r : List Val) : Bool := decide (r.length <= 20) && r.all (fun v => decide (v.s.length <= 200))
def rowsG (L : List (List Val)) : List GV := L.map fun r => .sl .none (vlsG r)
theorem rowsG_cl (L : List (List Val)) : ClL (rowsG L) := ClL.mapOf (fun r => Cl.sl (vlsG_cl r)) L
theorem rowsG_len (L : List (List Val)) : (rowsG L).length = L.length := by simp [rowsG]
theorem l_Rows (L : List (List Val)) (hL : L.length <= 100) : SC Tryz.prog 20 [.sl .none (rowsG L)] [] (.val (.b (L.all rowB))) [] := by
 have hlen := rowsG_len L
 refine SC.of_gwp noM mixed Tryz.func20 rfl (Nat.le_of_ble_eq_true rfl) (by first | exact Nat.le_refl _ | simp) rfl ?_
 conv => whnf
 refine GLoop.intro (fun i : Nat => i <= L.length /\ ∀ z ∈ L.take i, rowB z = true) (fun i => [(0, .sl .none (rowsG L)), (3, .i .i64 (i : Nat))]) (fun _ => ⟨[], 0, []⟩) (fun i => L.length - i) 0 ⟨Nat.zero_le _, (fun z h => by simp at h)⟩ ⟨rfl, rfl, trivial⟩ rfl (fun i φ0 hi => ?_)
 obtain ⟨hi, hok⟩ := hi
 conv => whnf
 refine GIf.mk (fun h => ?_) (fun h => ?_) <;> conv => whnf
 rotate_left
 ·have hie : i = L.length := by have := of_decide_eq_false h; rw [hlen] at this; omega
  refine owes_b ?_
  rw [hie, List.take_length] at hok
  exact (List.all_eq_true.2 hok).symm
 have hlt : i < L.length := by have := of_decide_eq_true h; rw [hlen] at this; omega
 obtain ⟨r, hy⟩ : ∃ y, L[i]? = some y := ⟨L[i], List.getElem?_eq_getElem hlt⟩
 have hgy : (rowsG L)[i]? = some (.sl .none (vlsG r)) := by unfold rowsG; rw [List.getElem?_map, hy]; rfl
 have hl2 := vlsG_len r
 have bad : rowB r = false -> L.all rowB = false := fun h => List.all_eq_false.2 ⟨r, List.mem_of_getElem? hy, by rw [h]; simp⟩
 refine ⟨Int.natCast_nonneg _, .sl .none (vlsG r), by rw [Int.toNat_natCast]; exact hgy, rfl, ?_⟩
 conv => whnf
 refine GIf.mk (fun h2 => ?_) (fun h2 => ?_) <;> conv => whnf
 ·have h2' : ¬ r.length <= 20 := by have := of_decide_eq_true h2; rw [hl2] at this; omega
  refine owes_b ?_
  rw [bad (by unfold rowB; rw [decide_eq_false h2']; rfl)]
 have h2' : r.length <= 20 := by have := of_decide_eq_false h2; rw [hl2] at this; omega
 refine GLoop.intro (fun k : Nat => k <= r.length /\ ∀ v ∈ r.take k, v.s.length <= 200) (fun k => [(0, .sl .none (rowsG L)), (3, .i .i64 (i : Nat)), (4, .i .i64 (k : Nat))]) (fun _ => ⟨[], 0, []⟩) (fun k => r.length - k) 0 ⟨Nat.zero_le _, (fun z h => by simp at h)⟩ ⟨rfl, rfl, rfl, trivial⟩ rfl (fun k φ0 hk => ?_)
 obtain ⟨hk, hok2⟩ := hk
 conv => whnf
 refine ⟨Int.natCast_nonneg _, .sl .none (vlsG r), by rw [Int.toNat_natCast]; exact hgy, rfl, ?_⟩
 conv => whnf
 refine GIf.mk (fun h3 => ?_) (fun h3 => ?_) <;> conv => whnf
 rotate_left
 ·have hke : k = r.length := by have := of_decide_eq_false h3; rw [hl2] at this; omega
  rw [hke, List.take_length] at hok2
  refine ⟨L.length - (i + 1), (by show _ < L.length - i; omega), i + 1, ⟨hlt, fun z hz => ?_⟩, rfl, ⟨rfl, wrap_succ (by omega), trivial⟩, rfl⟩
  rw [List.take_add_one, hy] at hz
  rcases List.mem_append.1 hz with hz | hz
  ·exact hok z hz
  ·rw [List.mem_singleton.1 (show z ∈ [r] from hz)]
   unfold rowB
   rw [decide_eq_true h2', Bool.true_and, List.all_eq_true]
   exact fun v hv => decide_eq_true (hok2 v hv)
 have hklt : k < r.length := by have := of_decide_eq_true h3; rw [hl2] at this; omega
 have hkv : ∃ y, r[k]? = some y := ⟨_, List.getElem?_eq_getElem hklt⟩
 refine hkv.elim (fun v hv => ?_)
 refine ⟨Int.natCast_nonneg _, .sl .none (vlsG r), by rw [Int.toNat_natCast]; exact hgy, rfl, ?_⟩
 conv => whnf
 refine ⟨Int.natCast_nonneg _, _, by rw [Int.toNat_natCast]; exact vlsG_at hv, rfl, ?_⟩
 conv => whnf
 refine GIf.mk (fun h4 => ?_) (fun h4 => ?_) <;> conv => whnf
 ·have h4' : ¬ v.s.length <= 200 := by have := of_decide_eq_true h4; omega
  refine owes_b ?_
  have : r.all (fun v => decide (v.s.length <= 200)) = false := List.all_eq_false.2 ⟨v, List.mem_of_getElem? hv, by simpa using h4'⟩
  rw [bad (by unfold rowB; rw [this, Bool.and_false])]
 ·have h4' : v.s.length <= 200 := by have := of_decide_eq_false h4; omega
  refine ⟨r.length - (k + 1), (by show _ < r.length - k; omega), k + 1, ⟨hklt, fun z hz => ?_⟩, rfl, ⟨rfl, rfl, wrap_succ (by omega), trivial⟩, rfl⟩
  rw [List.take_add_one, hv] at hz
  rcases List.mem_append.1 hz with hz | hz
  ·exact hok2 z hz
  ·rw [List.mem_singleton.1 (show z ∈ [v] from hz)]; exact h4'
theorem items_le {l : List Itm} (h : itemsB l = true) : l.length < most := by
 unfold itemsB at h
 simp only [Bool.and_eq_true, decide_eq_true_eq] at h
 unfold most; omega
theorem row_le {r : List Val} (h : rowB r = true) : r.length < most := by
 unfold rowB at h
 simp only [Bool.and_eq_true, decide_eq_true_eq] at h
 unfold most; omega
theorem read_again {s : By} (h : (showS s).2 = 0) : readS (showS s).1 = readS s := by
 unfold showS at h
 cases hx : readS s with
 | err e =>
  rw [hx] at h
  rcases readS_err hx with rfl | rfl | rfl <;> exact absurd h (by decide)
 | ok t =>
  rw [hx] at h
  obtain ⟨hg, hf⟩ := readS_good hx
  replace h : (resS t).2 = 0 := h
  have e : showS s = resS t := by unfold showS; rw [hx]
  rw [e]
  have hi := flat_id hf
  unfold resS at h ⊢
  rw [hi] at h ⊢
  by_cases hc : 1000 < t.plain.length ∨ 20 < t.deep 0
  ·rw [if_pos hc] at h; exact absurd h (by decide)
  ·rw [if_neg hc]
   have h1 : ¬ 1000 < t.plain.length := fun h => hc (.inl h)
   have h2 : ¬ 20 < t.deep 0 := fun h => hc (.inr h)
   show readS t.plain = .ok t
   rw [read_plain hg hf (by omega), if_neg h2]
theorem eval_again {s : By} (I V : List Itm) (R W : List Val) (h : (showS s).2 = 0) : evalS I V R W (showS s).1 = evalS I V R W s := by
 unfold evalS
 rw [read_again h]
end Go.Proofs.YtlhabmglchgdnaaGreatDoor
namespace Go.Proofs.YtlhabmglchgdnaaGreatDoor
open Go.RowKit
set_option maxRecDepth 100000
set_option linter.unusedVariables false
theorem l_CondChecks (s : By) (I V : List Itm) (R W : List Val) (hs : s.length <= maxLen) :
  SC Tryz.prog 4 [.s s, .sl .none (itms I), .sl .none (vlsG R), .sl .none (itms V), .sl .none (vlsG W)] [] (.val (.b true)) [] := by
 have haw := l_awake
 have i1 := l_Items I
 have i2 := l_Items V
 have i3 := l_Rows [R, W] (by simp)
 by_cases hl : 2000 < s.length
 ·skip
  refine SC.of_gwp noM mixed Tryz.func4 rfl (Nat.le_of_ble_eq_true rfl) (by first | exact Nat.le_refl _ | simp) rfl ?_
  conv => whnf
  refine GIf.mk (fun h => ?_) (fun h => ?_) <;> conv => whnf
  ·skip
   refine callP haw (Wks.refl _) rfl (fun _ => rfl) (.b _) ?_
   conv => whnf
   exact owes_b rfl
  ·exfalso; have := of_decide_eq_false h; omega
 have hRW : [R, W].all rowB = true -> R.length < most /\ W.length < most := fun h => by
  simp only [List.all_cons, List.all_nil, Bool.and_true, Bool.and_eq_true] at h
  exact ⟨row_le h.1, row_le h.2⟩
 have hRs : [R, W].all rowB = true -> (∀ v ∈ R, v.s.length < most) /\ (∀ v ∈ W, v.s.length < most) := fun h => by
  simp only [List.all_cons, List.all_nil, Bool.and_true, Bool.and_eq_true, rowB, List.all_eq_true, decide_eq_true_eq] at h
  unfold most
  exact ⟨fun v hv => by have := h.1.2 v hv; omega, fun v hv => by have := h.2.2 v hv; omega⟩
 generalize [R, W].all rowB = b3 at *
 cases b1 : itemsB I with
 | false =>
  rw [b1] at i1
  refine SC.of_gwp noM mixed Tryz.func4 rfl (Nat.le_of_ble_eq_true rfl) (by first | exact Nat.le_refl _ | simp) rfl ?_
  conv => whnf
  refine GIf.mk (fun h => ?_) (fun h => ?_) <;> conv => whnf
  ·exfalso; have := of_decide_eq_true h; omega
  refine callP i1 (Wks.refl _) rfl (ClL.cons (Cl.sl (itms_cl I)) .nil) (.b _) ?_
  conv => whnf
  refine callP haw (Wks.refl _) rfl (fun _ => rfl) (.b _) ?_
  conv => whnf
  exact owes_b rfl
 | true =>
 rw [b1] at i1
 cases b2 : itemsB V with
 | false =>
  rw [b2] at i2
  refine SC.of_gwp noM mixed Tryz.func4 rfl (Nat.le_of_ble_eq_true rfl) (by first | exact Nat.le_refl _ | simp) rfl ?_
  conv => whnf
  refine GIf.mk (fun h => ?_) (fun h => ?_) <;> conv => whnf
  ·exfalso; have := of_decide_eq_true h; omega
  refine callP i1 (Wks.refl _) rfl (ClL.cons (Cl.sl (itms_cl I)) .nil) (.b _) ?_
  conv => whnf
  refine callP i2 (Wks.refl _) rfl (ClL.cons (Cl.sl (itms_cl V)) .nil) (.b _) ?_
  conv => whnf
  refine callP haw (Wks.refl _) rfl (fun _ => rfl) (.b _) ?_
  conv => whnf
  exact owes_b rfl
 | true =>
 rw [b2] at i2
 cases b3 with
 | false =>
  refine SC.of_gwp noM mixed Tryz.func4 rfl (Nat.le_of_ble_eq_true rfl) (by first | exact Nat.le_refl _ | simp) rfl ?_
  conv => whnf
  refine GIf.mk (fun h => ?_) (fun h => ?_) <;> conv => whnf
  ·exfalso; have := of_decide_eq_true h; omega
  refine callP i1 (Wks.refl _) rfl (ClL.cons (Cl.sl (itms_cl I)) .nil) (.b _) ?_
  conv => whnf
  refine callP i2 (Wks.refl _) rfl (ClL.cons (Cl.sl (itms_cl V)) .nil) (.b _) ?_
  conv => whnf
  refine callP i3 (Wks.cons (Wk.sl _ _) (Wks.refl _)) rfl (ClL.cons (Cl.sl (rowsG_cl [R, W])) .nil) (.b _) ?_
  conv => whnf
  refine callP haw (Wks.refl _) rfl (fun _ => rfl) (.b _) ?_
  conv => whnf
  exact owes_b rfl
 | true =>
  obtain ⟨hRs, hWs⟩ := hRs rfl
  obtain ⟨hR, hW⟩ := hRW rfl
  have hI := items_le b1
  have hV := items_le b2
  have c1 := c_Check I V hI hV s (by unfold most; omega)
  have r1 := r_Check I V hI hV s (by omega)
  have c2 := c_Eval I V R W hI hV hR hW s (by unfold most; omega)
  have r2 := r_Eval I V R W hI hV hR hW hRs hWs s (by omega)
  have c3 := c_Show s (by unfold most; omega)
  have hlen := showS_len s
  have c4 := c_Eval I V R W hI hV hR hW (showS s).1 (by unfold most; omega)
  have hag := @eval_again s I V R W
  rw [chkR_eq] at r1
  rw [evalR_eq] at r2
  generalize chkS I V s = k at *
  generalize showS s = q at *
  obtain ⟨x, g⟩ := q
  simp only at c3 c4 hag
  generalize evalS I V R W s = q1 at *
  obtain ⟨b, e⟩ := q1
  generalize evalS I V R W x = q2 at *
  obtain ⟨b', e'⟩ := q2
  simp only at c2 r2 c4
  refine SC.of_gwp noM mixed Tryz.func4 rfl (Nat.le_of_ble_eq_true rfl) (by first | exact Nat.le_refl _ | simp) rfl ?_
  conv => whnf
  refine GIf.mk (fun h => ?_) (fun h => ?_) <;> conv => whnf
  ·exfalso; have := of_decide_eq_true h; omega
  refine callP i1 (Wks.refl _) rfl (ClL.cons (Cl.sl (itms_cl I)) .nil) (.b _) ?_
  conv => whnf
  refine callP i2 (Wks.refl _) rfl (ClL.cons (Cl.sl (itms_cl V)) .nil) (.b _) ?_
  conv => whnf
  refine callP i3 (Wks.cons (Wk.sl _ _) (Wks.refl _)) rfl (ClL.cons (Cl.sl (rowsG_cl [R, W])) .nil) (.b _) ?_
  conv => whnf
  refine callP c1 (Wks.refl _) rfl (ClL.cons (.s _) (ClL.cons (Cl.sl (itms_cl I)) (ClL.cons (Cl.sl (itms_cl V)) .nil))) (.i _ _) ?_
  conv => whnf
  refine callP r1 (Wks.refl _) rfl (ClL.cons (.s _) (ClL.cons (Cl.sl (itms_cl I)) (ClL.cons (Cl.sl (itms_cl V)) .nil))) (.i _ _) ?_
  conv => whnf
  refine GIf.mk (fun n1 => ?_) (fun n1 => ?_) <;> conv => whnf
  ·simp at n1
  refine callP c2 (Wks.refl _) rfl (ClL.cons (.s _) (ClL.cons (Cl.sl (itms_cl I)) (ClL.cons (Cl.sl (vlsG_cl R)) (ClL.cons (Cl.sl (itms_cl V)) (ClL.cons (Cl.sl (vlsG_cl W)) .nil))))) (fun _ => rfl) ?_
  conv => whnf
  refine callP r2 (Wks.refl _) rfl (ClL.cons (.s _) (ClL.cons (Cl.sl (itms_cl I)) (ClL.cons (Cl.sl (vlsG_cl R)) (ClL.cons (Cl.sl (itms_cl V)) (ClL.cons (Cl.sl (vlsG_cl W)) .nil))))) (fun _ => rfl) ?_
  conv => whnf
  refine GIf.mk (fun n2 => ?_) (fun n2 => ?_) <;> conv => whnf
  ·simp at n2
  refine GIf.mk (fun n3 => ?_) (fun n3 => ?_) <;> conv => whnf
  ·simp at n3
  refine callP c3 (Wks.refl _) rfl (fun _ => rfl) (fun _ => rfl) ?_
  conv => whnf
  refine GIf.mk (fun z1 => ?_) (fun z1 => ?_) <;> conv => whnf
  ·have he0 : e = 0 := by simpa using z1
   refine GIf.mk (fun z2 => ?_) (fun z2 => ?_) <;> conv => whnf
   ·have hh := hag (by simpa using z2)
    have hb : b' = b := congrArg Prod.fst hh
    have he : e' = 0 := (congrArg Prod.snd hh).trans he0
    subst hb he
    refine callP c4 (Wks.refl _) rfl (ClL.cons (.s _) (ClL.cons (Cl.sl (itms_cl I)) (ClL.cons (Cl.sl (vlsG_cl R)) (ClL.cons (Cl.sl (itms_cl V)) (ClL.cons (Cl.sl (vlsG_cl W)) .nil))))) (fun _ => rfl) ?_
    conv => whnf
    refine GIf.mk (fun g1 => ?_) (fun g1 => ?_) <;> conv => whnf
    ·simp at g1
    refine callP haw (Wks.refl _) rfl (fun _ => rfl) (.b _) ?_
    conv => whnf
    exact owes_b rfl
   ·skip
    refine callP haw (Wks.refl _) rfl (fun _ => rfl) (.b _) ?_
    conv => whnf
    exact owes_b rfl
  ·skip
   refine callP haw (Wks.refl _) rfl (fun _ => rfl) (.b _) ?_
   conv => whnf
   exact owes_b rfl
end Go.Proofs.YtlhabmglchgdnaaGreatDoor
namespace Go.Proofs.YtlhabmglchgdnaaGreatDoor
theorem condChecks_holds : Rows.CondChecksCardSaid := condChecks_card_of (condChecks_of fun s I V R W hs _ _ _ _ => ⟨[], l_CondChecks s I V R W hs⟩)
end Go.Proofs.YtlhabmglchgdnaaGreatDoor
