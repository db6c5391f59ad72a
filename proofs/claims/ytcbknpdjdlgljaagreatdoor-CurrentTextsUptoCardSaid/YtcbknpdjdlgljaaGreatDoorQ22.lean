/-
  The text of every currencies, and what every text is read as.
-/
import Derived.Test.YtcbknpdjdlgljaaGreatDoorQ21
set_option linter.all false
namespace Go.Proofs.YtcbknpdjdlgljaaGreatDoor
open Go.RowKit
set_option maxRecDepth 100000
set_option linter.unusedVariables false
def sp0 : Sp := ⟨0, 0, 0, 0, 0⟩
def nbAt (w : List By) (j : Nat) : Int := (w[j]?).elim 0 fun x => (nbR x).1
def readR (s : By) : Option Sp :=
  let w := pieces [58] s
  if ((w.drop 1).take 3).all (fun x => (nbR x).2) = false then none else if s = [45] then some sp0
  else if w[0]? = some [111] ∧ w.length = 2 then some ⟨1, nbAt w 1, 0, 0, 0⟩
  else if w[0]? = some [109] ∧ w.length = 3 then some ⟨2, nbAt w 1, nbAt w 2, 0, 0⟩
  else if w[0]? = some [103] ∧ w.length = 4 then some ⟨3, nbAt w 1, 0, nbAt w 2, nbAt w 3⟩ else none
def a3 (w : List By) (i j : Nat) : Int := if j ≤ i then nbAt w j else 0
theorem a3_hi {w : List By} {i j : Nat} (h : j ≤ i ∨ w.length ≤ j) : a3 w i j = nbAt w j := by
  unfold a3
  by_cases e : j ≤ i
  · rw [if_pos e]
  · rw [if_neg e]; unfold nbAt; rw [List.getElem?_eq_none (by omega)]; rfl
set_option maxHeartbeats 8000000 in
theorem r_read [MaxL] (s : By) (hs : s.length ≤ 1048576) : SC Tryz.prog 32 [.s s] [] (.val (match readR s with | some p => .tup [spG p, .b true] | none => .tup [spG sp0, .b false])) [] := by
  have hp := pc_len (c := 58) s
  have hne : pieces [58] s ≠ [] := pieces_ne _ _ (List.cons_ne_nil _ _)
  unfold readR
  generalize hL : pieces [58] s = w at hp hne
  have hm : ∀ x ∈ w, x.length ≤ 1048576 := fun x hx => Nat.le_trans (pc_mem (by rw [hL]; exact hx)) hs
  have hwl := txG_len w
  have hw0 : 0 < w.length := List.length_pos_iff.2 hne
  obtain ⟨x0, hx0⟩ : ∃ x0, w[0]? = some x0 := ex_at hw0
  obtain ⟨x0, hx0⟩ : ∃ x0, w[0]? = some x0 := ex_at hw0
  obtain ⟨x0, hx0⟩ : ∃ x0, w[0]? = some x0 := ex_at hw0
  obtain ⟨x0, hx0⟩ : ∃ x0, w[0]? = some x0 := ex_at hw0
  refine SC.of_gwp noM mixed Tryz.func32 rfl (Nat.le_of_ble_eq_true rfl) (by first | exact Nat.le_refl _ | simp) rfl ?_
  conv => whnf
  refine cP (r_Split s 58 (by omega)) ?_
  rw [hL]
  conv => whnf
  refine GLoop.rng 2 (min w.length 4 - 1) (fun i (_ : Unit) => ((w.drop 1).take i).all (fun x => (nbR x).2) = true) (fun i _ => [(0, .s s), (2, .ptr 0 0), (4, .sl .none (txG w)), (5, .ptr 1 0), (6, .i .i64 ((i + 1 : Nat)))]) (fun i _ => [.box 67 [.i .i64 0, .i .i64 0, .i .i64 0, .i .i64 0, .i .i64 0], .box 150 [.i .i64 0, .i .i64 (a3 w i 1), .i .i64 (a3 w i 2), .i .i64 (a3 w i 3)]]) [] () rfl (fun i _ φ0 hi ha => ?_)
  conv => whnf
  by_cases hlt : i + 1 < w.length
  rotate_left
  · rw [decide_eq_false (show ¬ (((i + 1 : Nat) : Int) < (((txG w).length : Nat) : Int)) by omega)]
    conv => whnf
    have hi' : i = min w.length 4 - 1 := by omega
    have q1 : a3 w i 1 = nbAt w 1 := a3_hi (by omega)
    have q2 : a3 w i 2 = nbAt w 2 := a3_hi (by omega)
    have q3 : a3 w i 3 = nbAt w 3 := a3_hi (by omega)
    have ha' : ((w.drop 1).take 3).all (fun x => (nbR x).2) = true := by
      have : (w.drop 1).take i = (w.drop 1).take 3 := by rw [List.take_eq_take_iff, List.length_drop]; omega
      rw [← this]; exact ha
    simp only [ha', Bool.true_eq_false, if_false]
    by_cases h1 : s = [45]
    · rw [if_pos h1]
      rw [show (s == (⟨#[45]⟩ : ByteArray).data.toList) = true by subst h1; rfl]
      conv => whnf
      refine ⟨_, ⟨rfl, Nat.zero_le _, rfl, Nat.le_of_ble_eq_true rfl⟩, ?_⟩
      conv => whnf
      exact fin 0
    rw [if_neg h1]
    rw [show (s == (⟨#[45]⟩ : ByteArray).data.toList) = false by simpa using h1]
    conv => whnf
    refine ⟨Int.le_refl _, .s x0, map_at hx0, rfl, ?_⟩
    conv => whnf
    by_cases e1 : x0 = [111]
    · rw [show (x0 == (⟨#[111]⟩ : ByteArray).data.toList) = true by rw [e1]; rfl]
      conv => whnf
      by_cases n1 : w.length = 2
      · rw [show ((((txG w).length : Nat) : Int) == 2) = true from beq_iff_eq.2 (by omega)]
        conv => whnf
        rw [if_pos ⟨by rw [hx0, e1], n1⟩]
        refine ⟨⟨by decide, by decide⟩, ?_⟩
        conv => whnf
        refine ⟨_, ⟨rfl, Nat.zero_le _, rfl, Nat.le_of_ble_eq_true rfl⟩, ?_⟩
        conv => whnf
        rw [← q1]
        exact fin 0
      rw [show ((((txG w).length : Nat) : Int) == 2) = false from beq_eq_false_iff_ne.2 (by omega)]
      conv => whnf
      rw [if_neg (fun h => n1 h.2)]
      refine ⟨Int.le_refl _, .s x0, map_at hx0, rfl, ?_⟩
      conv => whnf
      by_cases e2 : x0 = [109]
      · rw [show (x0 == (⟨#[109]⟩ : ByteArray).data.toList) = true by rw [e2]; rfl]
        conv => whnf
        by_cases n2 : w.length = 3
        · rw [show ((((txG w).length : Nat) : Int) == 3) = true from beq_iff_eq.2 (by omega)]
          conv => whnf
          rw [if_pos ⟨by rw [hx0, e2], n2⟩]
          refine ⟨⟨by decide, by decide⟩, ?_⟩
          conv => whnf
          refine ⟨⟨by decide, by decide⟩, ?_⟩
          conv => whnf
          refine ⟨_, ⟨rfl, Nat.zero_le _, rfl, Nat.le_of_ble_eq_true rfl⟩, ?_⟩
          conv => whnf
          rw [← q1, ← q2]
          exact fin 0
        rw [show ((((txG w).length : Nat) : Int) == 3) = false from beq_eq_false_iff_ne.2 (by omega)]
        conv => whnf
        rw [if_neg (fun h => n2 h.2)]
        refine ⟨Int.le_refl _, .s x0, map_at hx0, rfl, ?_⟩
        conv => whnf
        by_cases e3 : x0 = [103]
        · rw [show (x0 == (⟨#[103]⟩ : ByteArray).data.toList) = true by rw [e3]; rfl]
          conv => whnf
          by_cases n3 : w.length = 4
          · rw [show ((((txG w).length : Nat) : Int) == 4) = true from beq_iff_eq.2 (by omega)]
            conv => whnf
            rw [if_pos ⟨by rw [hx0, e3], n3⟩]
            refine ⟨⟨by decide, by decide⟩, ?_⟩
            conv => whnf
            refine ⟨⟨by decide, by decide⟩, ?_⟩
            conv => whnf
            refine ⟨⟨by decide, by decide⟩, ?_⟩
            conv => whnf
            refine ⟨_, ⟨rfl, Nat.zero_le _, rfl, Nat.le_of_ble_eq_true rfl⟩, ?_⟩
            conv => whnf
            rw [← q1, ← q2, ← q3]
            exact fin 0
          rw [show ((((txG w).length : Nat) : Int) == 4) = false from beq_eq_false_iff_ne.2 (by omega)]
          conv => whnf
          rw [if_neg (fun h => n3 h.2)]
          refine ⟨_, ⟨rfl, Nat.zero_le _, rfl, Nat.le_of_ble_eq_true rfl⟩, ?_⟩
          conv => whnf
          exact fin 0
        rw [show (x0 == (⟨#[103]⟩ : ByteArray).data.toList) = false by simpa using e3]
        conv => whnf
        rw [if_neg (fun h => e3 (Option.some.inj (hx0.symm.trans h.1)))]
        refine ⟨_, ⟨rfl, Nat.zero_le _, rfl, Nat.le_of_ble_eq_true rfl⟩, ?_⟩
        conv => whnf
        exact fin 0
      rw [show (x0 == (⟨#[109]⟩ : ByteArray).data.toList) = false by simpa using e2]
      conv => whnf
      rw [if_neg (fun h => e2 (Option.some.inj (hx0.symm.trans h.1)))]
      refine ⟨Int.le_refl _, .s x0, map_at hx0, rfl, ?_⟩
      conv => whnf
      by_cases e3 : x0 = [103]
      · rw [show (x0 == (⟨#[103]⟩ : ByteArray).data.toList) = true by rw [e3]; rfl]
        conv => whnf
        by_cases n3 : w.length = 4
        · rw [show ((((txG w).length : Nat) : Int) == 4) = true from beq_iff_eq.2 (by omega)]
          conv => whnf
          rw [if_pos ⟨by rw [hx0, e3], n3⟩]
          refine ⟨⟨by decide, by decide⟩, ?_⟩
          conv => whnf
          refine ⟨⟨by decide, by decide⟩, ?_⟩
          conv => whnf
          refine ⟨⟨by decide, by decide⟩, ?_⟩
          conv => whnf
          refine ⟨_, ⟨rfl, Nat.zero_le _, rfl, Nat.le_of_ble_eq_true rfl⟩, ?_⟩
          conv => whnf
          rw [← q1, ← q2, ← q3]
          exact fin 0
        rw [show ((((txG w).length : Nat) : Int) == 4) = false from beq_eq_false_iff_ne.2 (by omega)]
        conv => whnf
        rw [if_neg (fun h => n3 h.2)]
        refine ⟨_, ⟨rfl, Nat.zero_le _, rfl, Nat.le_of_ble_eq_true rfl⟩, ?_⟩
        conv => whnf
        exact fin 0
      rw [show (x0 == (⟨#[103]⟩ : ByteArray).data.toList) = false by simpa using e3]
      conv => whnf
      rw [if_neg (fun h => e3 (Option.some.inj (hx0.symm.trans h.1)))]
      refine ⟨_, ⟨rfl, Nat.zero_le _, rfl, Nat.le_of_ble_eq_true rfl⟩, ?_⟩
      conv => whnf
      exact fin 0
    rw [show (x0 == (⟨#[111]⟩ : ByteArray).data.toList) = false by simpa using e1]
    conv => whnf
    rw [if_neg (fun h => e1 (Option.some.inj (hx0.symm.trans h.1)))]
    refine ⟨Int.le_refl _, .s x0, map_at hx0, rfl, ?_⟩
    conv => whnf
    by_cases e2 : x0 = [109]
    · rw [show (x0 == (⟨#[109]⟩ : ByteArray).data.toList) = true by rw [e2]; rfl]
      conv => whnf
      by_cases n2 : w.length = 3
      · rw [show ((((txG w).length : Nat) : Int) == 3) = true from beq_iff_eq.2 (by omega)]
        conv => whnf
        rw [if_pos ⟨by rw [hx0, e2], n2⟩]
        refine ⟨⟨by decide, by decide⟩, ?_⟩
        conv => whnf
        refine ⟨⟨by decide, by decide⟩, ?_⟩
        conv => whnf
        refine ⟨_, ⟨rfl, Nat.zero_le _, rfl, Nat.le_of_ble_eq_true rfl⟩, ?_⟩
        conv => whnf
        rw [← q1, ← q2]
        exact fin 0
      rw [show ((((txG w).length : Nat) : Int) == 3) = false from beq_eq_false_iff_ne.2 (by omega)]
      conv => whnf
      rw [if_neg (fun h => n2 h.2)]
      refine ⟨Int.le_refl _, .s x0, map_at hx0, rfl, ?_⟩
      conv => whnf
      by_cases e3 : x0 = [103]
      · rw [show (x0 == (⟨#[103]⟩ : ByteArray).data.toList) = true by rw [e3]; rfl]
        conv => whnf
        by_cases n3 : w.length = 4
        · rw [show ((((txG w).length : Nat) : Int) == 4) = true from beq_iff_eq.2 (by omega)]
          conv => whnf
          rw [if_pos ⟨by rw [hx0, e3], n3⟩]
          refine ⟨⟨by decide, by decide⟩, ?_⟩
          conv => whnf
          refine ⟨⟨by decide, by decide⟩, ?_⟩
          conv => whnf
          refine ⟨⟨by decide, by decide⟩, ?_⟩
          conv => whnf
          refine ⟨_, ⟨rfl, Nat.zero_le _, rfl, Nat.le_of_ble_eq_true rfl⟩, ?_⟩
          conv => whnf
          rw [← q1, ← q2, ← q3]
          exact fin 0
        rw [show ((((txG w).length : Nat) : Int) == 4) = false from beq_eq_false_iff_ne.2 (by omega)]
        conv => whnf
        rw [if_neg (fun h => n3 h.2)]
        refine ⟨_, ⟨rfl, Nat.zero_le _, rfl, Nat.le_of_ble_eq_true rfl⟩, ?_⟩
        conv => whnf
        exact fin 0
      rw [show (x0 == (⟨#[103]⟩ : ByteArray).data.toList) = false by simpa using e3]
      conv => whnf
      rw [if_neg (fun h => e3 (Option.some.inj (hx0.symm.trans h.1)))]
      refine ⟨_, ⟨rfl, Nat.zero_le _, rfl, Nat.le_of_ble_eq_true rfl⟩, ?_⟩
      conv => whnf
      exact fin 0
    rw [show (x0 == (⟨#[109]⟩ : ByteArray).data.toList) = false by simpa using e2]
    conv => whnf
    rw [if_neg (fun h => e2 (Option.some.inj (hx0.symm.trans h.1)))]
    refine ⟨Int.le_refl _, .s x0, map_at hx0, rfl, ?_⟩
    conv => whnf
    by_cases e3 : x0 = [103]
    · rw [show (x0 == (⟨#[103]⟩ : ByteArray).data.toList) = true by rw [e3]; rfl]
      conv => whnf
      by_cases n3 : w.length = 4
      · rw [show ((((txG w).length : Nat) : Int) == 4) = true from beq_iff_eq.2 (by omega)]
        conv => whnf
        rw [if_pos ⟨by rw [hx0, e3], n3⟩]
        refine ⟨⟨by decide, by decide⟩, ?_⟩
        conv => whnf
        refine ⟨⟨by decide, by decide⟩, ?_⟩
        conv => whnf
        refine ⟨⟨by decide, by decide⟩, ?_⟩
        conv => whnf
        refine ⟨_, ⟨rfl, Nat.zero_le _, rfl, Nat.le_of_ble_eq_true rfl⟩, ?_⟩
        conv => whnf
        rw [← q1, ← q2, ← q3]
        exact fin 0
      rw [show ((((txG w).length : Nat) : Int) == 4) = false from beq_eq_false_iff_ne.2 (by omega)]
      conv => whnf
      rw [if_neg (fun h => n3 h.2)]
      refine ⟨_, ⟨rfl, Nat.zero_le _, rfl, Nat.le_of_ble_eq_true rfl⟩, ?_⟩
      conv => whnf
      exact fin 0
    rw [show (x0 == (⟨#[103]⟩ : ByteArray).data.toList) = false by simpa using e3]
    conv => whnf
    rw [if_neg (fun h => e3 (Option.some.inj (hx0.symm.trans h.1)))]
    refine ⟨_, ⟨rfl, Nat.zero_le _, rfl, Nat.le_of_ble_eq_true rfl⟩, ?_⟩
    conv => whnf
    exact fin 0
  rw [decide_eq_true (show (((i + 1 : Nat) : Int) < (((txG w).length : Nat) : Int)) by omega)]
  conv => whnf
  by_cases h4 : i + 1 < 4
  rotate_left
  · rw [decide_eq_false (show ¬ (((i + 1 : Nat) : Int) < 4) by omega)]
    conv => whnf
    have hi' : i = min w.length 4 - 1 := by omega
    have q1 : a3 w i 1 = nbAt w 1 := a3_hi (by omega)
    have q2 : a3 w i 2 = nbAt w 2 := a3_hi (by omega)
    have q3 : a3 w i 3 = nbAt w 3 := a3_hi (by omega)
    have ha' : ((w.drop 1).take 3).all (fun x => (nbR x).2) = true := by
      have : (w.drop 1).take i = (w.drop 1).take 3 := by rw [List.take_eq_take_iff, List.length_drop]; omega
      rw [← this]; exact ha
    simp only [ha', Bool.true_eq_false, if_false]
    by_cases h1 : s = [45]
    · rw [if_pos h1]
      rw [show (s == (⟨#[45]⟩ : ByteArray).data.toList) = true by subst h1; rfl]
      conv => whnf
      refine ⟨_, ⟨rfl, Nat.zero_le _, rfl, Nat.le_of_ble_eq_true rfl⟩, ?_⟩
      conv => whnf
      exact fin 0
    rw [if_neg h1]
    rw [show (s == (⟨#[45]⟩ : ByteArray).data.toList) = false by simpa using h1]
    conv => whnf
    refine ⟨Int.le_refl _, .s x0, map_at hx0, rfl, ?_⟩
    conv => whnf
    by_cases e1 : x0 = [111]
    · rw [show (x0 == (⟨#[111]⟩ : ByteArray).data.toList) = true by rw [e1]; rfl]
      conv => whnf
      by_cases n1 : w.length = 2
      · rw [show ((((txG w).length : Nat) : Int) == 2) = true from beq_iff_eq.2 (by omega)]
        conv => whnf
        rw [if_pos ⟨by rw [hx0, e1], n1⟩]
        refine ⟨⟨by decide, by decide⟩, ?_⟩
        conv => whnf
        refine ⟨_, ⟨rfl, Nat.zero_le _, rfl, Nat.le_of_ble_eq_true rfl⟩, ?_⟩
        conv => whnf
        rw [← q1]
        exact fin 0
      rw [show ((((txG w).length : Nat) : Int) == 2) = false from beq_eq_false_iff_ne.2 (by omega)]
      conv => whnf
      rw [if_neg (fun h => n1 h.2)]
      refine ⟨Int.le_refl _, .s x0, map_at hx0, rfl, ?_⟩
      conv => whnf
      by_cases e2 : x0 = [109]
      · rw [show (x0 == (⟨#[109]⟩ : ByteArray).data.toList) = true by rw [e2]; rfl]
        conv => whnf
        by_cases n2 : w.length = 3
        · rw [show ((((txG w).length : Nat) : Int) == 3) = true from beq_iff_eq.2 (by omega)]
          conv => whnf
          rw [if_pos ⟨by rw [hx0, e2], n2⟩]
          refine ⟨⟨by decide, by decide⟩, ?_⟩
          conv => whnf
          refine ⟨⟨by decide, by decide⟩, ?_⟩
          conv => whnf
          refine ⟨_, ⟨rfl, Nat.zero_le _, rfl, Nat.le_of_ble_eq_true rfl⟩, ?_⟩
          conv => whnf
          rw [← q1, ← q2]
          exact fin 0
        rw [show ((((txG w).length : Nat) : Int) == 3) = false from beq_eq_false_iff_ne.2 (by omega)]
        conv => whnf
        rw [if_neg (fun h => n2 h.2)]
        refine ⟨Int.le_refl _, .s x0, map_at hx0, rfl, ?_⟩
        conv => whnf
        by_cases e3 : x0 = [103]
        · rw [show (x0 == (⟨#[103]⟩ : ByteArray).data.toList) = true by rw [e3]; rfl]
          conv => whnf
          by_cases n3 : w.length = 4
          · rw [show ((((txG w).length : Nat) : Int) == 4) = true from beq_iff_eq.2 (by omega)]
            conv => whnf
            rw [if_pos ⟨by rw [hx0, e3], n3⟩]
            refine ⟨⟨by decide, by decide⟩, ?_⟩
            conv => whnf
            refine ⟨⟨by decide, by decide⟩, ?_⟩
            conv => whnf
            refine ⟨⟨by decide, by decide⟩, ?_⟩
            conv => whnf
            refine ⟨_, ⟨rfl, Nat.zero_le _, rfl, Nat.le_of_ble_eq_true rfl⟩, ?_⟩
            conv => whnf
            rw [← q1, ← q2, ← q3]
            exact fin 0
          rw [show ((((txG w).length : Nat) : Int) == 4) = false from beq_eq_false_iff_ne.2 (by omega)]
          conv => whnf
          rw [if_neg (fun h => n3 h.2)]
          refine ⟨_, ⟨rfl, Nat.zero_le _, rfl, Nat.le_of_ble_eq_true rfl⟩, ?_⟩
          conv => whnf
          exact fin 0
        rw [show (x0 == (⟨#[103]⟩ : ByteArray).data.toList) = false by simpa using e3]
        conv => whnf
        rw [if_neg (fun h => e3 (Option.some.inj (hx0.symm.trans h.1)))]
        refine ⟨_, ⟨rfl, Nat.zero_le _, rfl, Nat.le_of_ble_eq_true rfl⟩, ?_⟩
        conv => whnf
        exact fin 0
      rw [show (x0 == (⟨#[109]⟩ : ByteArray).data.toList) = false by simpa using e2]
      conv => whnf
      rw [if_neg (fun h => e2 (Option.some.inj (hx0.symm.trans h.1)))]
      refine ⟨Int.le_refl _, .s x0, map_at hx0, rfl, ?_⟩
      conv => whnf
      by_cases e3 : x0 = [103]
      · rw [show (x0 == (⟨#[103]⟩ : ByteArray).data.toList) = true by rw [e3]; rfl]
        conv => whnf
        by_cases n3 : w.length = 4
        · rw [show ((((txG w).length : Nat) : Int) == 4) = true from beq_iff_eq.2 (by omega)]
          conv => whnf
          rw [if_pos ⟨by rw [hx0, e3], n3⟩]
          refine ⟨⟨by decide, by decide⟩, ?_⟩
          conv => whnf
          refine ⟨⟨by decide, by decide⟩, ?_⟩
          conv => whnf
          refine ⟨⟨by decide, by decide⟩, ?_⟩
          conv => whnf
          refine ⟨_, ⟨rfl, Nat.zero_le _, rfl, Nat.le_of_ble_eq_true rfl⟩, ?_⟩
          conv => whnf
          rw [← q1, ← q2, ← q3]
          exact fin 0
        rw [show ((((txG w).length : Nat) : Int) == 4) = false from beq_eq_false_iff_ne.2 (by omega)]
        conv => whnf
        rw [if_neg (fun h => n3 h.2)]
        refine ⟨_, ⟨rfl, Nat.zero_le _, rfl, Nat.le_of_ble_eq_true rfl⟩, ?_⟩
        conv => whnf
        exact fin 0
      rw [show (x0 == (⟨#[103]⟩ : ByteArray).data.toList) = false by simpa using e3]
      conv => whnf
      rw [if_neg (fun h => e3 (Option.some.inj (hx0.symm.trans h.1)))]
      refine ⟨_, ⟨rfl, Nat.zero_le _, rfl, Nat.le_of_ble_eq_true rfl⟩, ?_⟩
      conv => whnf
      exact fin 0
    rw [show (x0 == (⟨#[111]⟩ : ByteArray).data.toList) = false by simpa using e1]
    conv => whnf
    rw [if_neg (fun h => e1 (Option.some.inj (hx0.symm.trans h.1)))]
    refine ⟨Int.le_refl _, .s x0, map_at hx0, rfl, ?_⟩
    conv => whnf
    by_cases e2 : x0 = [109]
    · rw [show (x0 == (⟨#[109]⟩ : ByteArray).data.toList) = true by rw [e2]; rfl]
      conv => whnf
      by_cases n2 : w.length = 3
      · rw [show ((((txG w).length : Nat) : Int) == 3) = true from beq_iff_eq.2 (by omega)]
        conv => whnf
        rw [if_pos ⟨by rw [hx0, e2], n2⟩]
        refine ⟨⟨by decide, by decide⟩, ?_⟩
        conv => whnf
        refine ⟨⟨by decide, by decide⟩, ?_⟩
        conv => whnf
        refine ⟨_, ⟨rfl, Nat.zero_le _, rfl, Nat.le_of_ble_eq_true rfl⟩, ?_⟩
        conv => whnf
        rw [← q1, ← q2]
        exact fin 0
      rw [show ((((txG w).length : Nat) : Int) == 3) = false from beq_eq_false_iff_ne.2 (by omega)]
      conv => whnf
      rw [if_neg (fun h => n2 h.2)]
      refine ⟨Int.le_refl _, .s x0, map_at hx0, rfl, ?_⟩
      conv => whnf
      by_cases e3 : x0 = [103]
      · rw [show (x0 == (⟨#[103]⟩ : ByteArray).data.toList) = true by rw [e3]; rfl]
        conv => whnf
        by_cases n3 : w.length = 4
        · rw [show ((((txG w).length : Nat) : Int) == 4) = true from beq_iff_eq.2 (by omega)]
          conv => whnf
          rw [if_pos ⟨by rw [hx0, e3], n3⟩]
          refine ⟨⟨by decide, by decide⟩, ?_⟩
          conv => whnf
          refine ⟨⟨by decide, by decide⟩, ?_⟩
          conv => whnf
          refine ⟨⟨by decide, by decide⟩, ?_⟩
          conv => whnf
          refine ⟨_, ⟨rfl, Nat.zero_le _, rfl, Nat.le_of_ble_eq_true rfl⟩, ?_⟩
          conv => whnf
          rw [← q1, ← q2, ← q3]
          exact fin 0
        rw [show ((((txG w).length : Nat) : Int) == 4) = false from beq_eq_false_iff_ne.2 (by omega)]
        conv => whnf
        rw [if_neg (fun h => n3 h.2)]
        refine ⟨_, ⟨rfl, Nat.zero_le _, rfl, Nat.le_of_ble_eq_true rfl⟩, ?_⟩
        conv => whnf
        exact fin 0
      rw [show (x0 == (⟨#[103]⟩ : ByteArray).data.toList) = false by simpa using e3]
      conv => whnf
      rw [if_neg (fun h => e3 (Option.some.inj (hx0.symm.trans h.1)))]
      refine ⟨_, ⟨rfl, Nat.zero_le _, rfl, Nat.le_of_ble_eq_true rfl⟩, ?_⟩
      conv => whnf
      exact fin 0
    rw [show (x0 == (⟨#[109]⟩ : ByteArray).data.toList) = false by simpa using e2]
    conv => whnf
    rw [if_neg (fun h => e2 (Option.some.inj (hx0.symm.trans h.1)))]
    refine ⟨Int.le_refl _, .s x0, map_at hx0, rfl, ?_⟩
    conv => whnf
    by_cases e3 : x0 = [103]
    · rw [show (x0 == (⟨#[103]⟩ : ByteArray).data.toList) = true by rw [e3]; rfl]
      conv => whnf
      by_cases n3 : w.length = 4
      · rw [show ((((txG w).length : Nat) : Int) == 4) = true from beq_iff_eq.2 (by omega)]
        conv => whnf
        rw [if_pos ⟨by rw [hx0, e3], n3⟩]
        refine ⟨⟨by decide, by decide⟩, ?_⟩
        conv => whnf
        refine ⟨⟨by decide, by decide⟩, ?_⟩
        conv => whnf
        refine ⟨⟨by decide, by decide⟩, ?_⟩
        conv => whnf
        refine ⟨_, ⟨rfl, Nat.zero_le _, rfl, Nat.le_of_ble_eq_true rfl⟩, ?_⟩
        conv => whnf
        rw [← q1, ← q2, ← q3]
        exact fin 0
      rw [show ((((txG w).length : Nat) : Int) == 4) = false from beq_eq_false_iff_ne.2 (by omega)]
      conv => whnf
      rw [if_neg (fun h => n3 h.2)]
      refine ⟨_, ⟨rfl, Nat.zero_le _, rfl, Nat.le_of_ble_eq_true rfl⟩, ?_⟩
      conv => whnf
      exact fin 0
    rw [show (x0 == (⟨#[103]⟩ : ByteArray).data.toList) = false by simpa using e3]
    conv => whnf
    rw [if_neg (fun h => e3 (Option.some.inj (hx0.symm.trans h.1)))]
    refine ⟨_, ⟨rfl, Nat.zero_le _, rfl, Nat.le_of_ble_eq_true rfl⟩, ?_⟩
    conv => whnf
    exact fin 0
  rw [decide_eq_true (show (((i + 1 : Nat) : Int) < 4) by omega)]
  conv => whnf
  refine (ex_at hlt).elim fun x hx => ?_
  have hxm := List.mem_of_getElem? hx
  refine ix (map_at hx) ⟨rfl, ?_⟩
  conv => whnf
  refine cP (r_Number x (by have := hm x hxm; omega)) ?_
  conv => whnf
  have hdr : (w.drop 1)[i]? = some x := by rw [List.getElem?_drop, Nat.add_comm]; exact hx
  refine GIf.mk (fun h3 => ?_) (fun h3 => ?_) <;> conv => whnf
  · have h3 : (nbR x).2 = false := by simpa using h3
    have hmem : x ∈ (w.drop 1).take 3 := List.mem_of_getElem? (i := i) (by rw [List.getElem?_take_of_lt (by omega)]; exact hdr)
    simp only [all_no (p := fun x => (nbR x).2) hmem h3, if_true]
    refine ⟨_, ⟨rfl, Nat.zero_le _, rfl, Nat.le_of_ble_eq_true rfl⟩, ?_⟩
    conv => whnf
    exact fin 0
  have h3 : (nbR x).2 = true := by simpa using h3
  have hs' : ((w.drop 1).take (i + 1)).all (fun x => (nbR x).2) = true := by rw [List.take_add_one, hdr, List.all_append, ha]; simp [h3]
  have hn : nbAt w (i + 1) = (nbR x).1 := by unfold nbAt; rw [hx]; rfl
  refine ⟨⟨Int.natCast_nonneg _, by show ((i + 1 : Nat) : Int) < 4; omega⟩, ?_⟩
  conv => whnf
  rw [← hn]
  obtain rfl | rfl | rfl : i = 0 ∨ i = 1 ∨ i = 2 := by omega
  · refine ⟨_, ⟨rfl, Nat.zero_le _, rfl, Nat.le_of_ble_eq_true rfl⟩, ?_⟩
    conv => whnf
    exact nx () (by omega) ⟨by omega, hs'⟩
  · refine ⟨_, ⟨rfl, Nat.zero_le _, rfl, Nat.le_of_ble_eq_true rfl⟩, ?_⟩
    conv => whnf
    exact nx () (by omega) ⟨by omega, hs'⟩
  · refine ⟨_, ⟨rfl, Nat.zero_le _, rfl, Nat.le_of_ble_eq_true rfl⟩, ?_⟩
    conv => whnf
    exact nx () (by omega) ⟨by omega, hs'⟩
end Go.Proofs.YtcbknpdjdlgljaaGreatDoor
namespace Go.Proofs.YtcbknpdjdlgljaaGreatDoor
open Go.RowKit
set_option maxRecDepth 100000
set_option linter.unusedVariables false
def nw0 : Nw := ⟨0, [], [], []⟩
def okR (x : By) : Bool := (readR x).isSome
def spR' (x : By) : Sp := (readR x).getD sp0
def spsR (s : By) : Option (List Sp) := if s = [] then some [] else if (pieces [32] s).all okR then some ((pieces [32] s).map spR') else none
def strictR (s : By) : Option Nw :=
  match pieces [124] s with
  | [a, b, c, d] => if ((nbR a).2 && (numsR b).2 && (numsR d).2) = true then (spsR c).map fun l => ⟨(nbR a).1, (numsR b).1, l, (numsR d).1⟩ else none
  | _ => none
def parseR (s : By) : Nw × Int := if 20000 < s.length then (nw0, 3) else match strictR s with | some n => (n, 0) | none => (nw0, 2)
theorem r_read' [MaxL] (s : By) (hs : s.length ≤ 1048576) : SC Tryz.prog 32 [.s s] [] (.val (.tup [spG (spR' s), .b (okR s)])) [] := by
  have h := r_read s hs
  unfold spR' okR
  cases e : readR s with
  | none => rw [e] at h; exact h
  | some p => rw [e] at h; exact h
theorem wkNow [MaxL] (n : Nw) (k1 k2 k3 : Tok) (e : Int) : WkRes (.val (.tup [.agg [.i .i64 n.u, .sl k1 (intsG n.rs), .sl k2 (spsG n.ss), .sl k3 (intsG n.ar)], .i .i64 e])) (.val (.tup [nowG n, .i .i64 e])) :=
  Wk.tup1 ⟨Wks.agg ⟨.refl _, Wk.sl _ _, Wk.sl _ _, Wk.sl _ _, trivial⟩, .refl _, trivial⟩
theorem len4 {α : Type} {l : List α} (h : l.length = 4) : ∃ a b c d, l = [a, b, c, d] := by
  match l, h with
  | [a, b, c, d], _ => exact ⟨a, b, c, d, rfl⟩
def nwO (u : Int) (r d : List Int) : List Sp → List GObj
  | [] => [.box 25 [.i .i64 0, .sl .full [], .sl .full [], .sl .full []], .box 25 [.i .i64 u, .sl .none (intsG r), .sl .full [], .sl .none (intsG d)]]
  | x :: l => [.box 25 [.i .i64 0, .sl .full [], .sl .full [], .sl .full []], .box 25 [.i .i64 u, .sl .none (intsG r), .sl (.own 2) (spsG (x :: l)), .sl .none (intsG d)], .own (l.length + 1) 5 67]
set_option maxHeartbeats 8000000 in
theorem r_Parse [MaxL] (s : By) : SC Tryz.prog 8 [.s s] [] (.val (.tup [nowG (parseR s).1, .i .i64 (parseR s).2])) [] := by
  by_cases hs : 20000 < s.length
  · rw [show parseR s = (nw0, 3) by unfold parseR; rw [if_pos hs]]
    refine SC.of_gwp noM mixed Tryz.func8 rfl (Nat.le_of_ble_eq_true rfl) (by first | exact Nat.le_refl _ | simp) rfl ?_
    conv => whnf
    refine gY (decide_eq_true (by omega)) ?_
    conv => whnf
    refine ⟨_, ⟨rfl, Nat.zero_le _, rfl, Nat.le_of_ble_eq_true rfl⟩, ?_⟩
    conv => whnf
    exact fin 0 (hw := wkNow nw0 _ _ _ _)
  have hp := pc_len (c := 124) s
  have hm : ∀ x ∈ pieces [124] s, x.length ≤ 20000 := fun x hx => Nat.le_trans (pc_mem hx) (by omega)
  unfold parseR
  rw [if_neg hs]
  by_cases h4 : (pieces [124] s).length = 4
  rotate_left
  · rw [show strictR s = none by
      unfold strictR
      split
      · rename_i a b c d e; rw [e] at h4; exact absurd rfl h4
      · rfl]
    refine SC.of_gwp noM mixed Tryz.func8 rfl (Nat.le_of_ble_eq_true rfl) (by first | exact Nat.le_refl _ | simp) rfl ?_
    conv => whnf
    refine gN (decide_eq_false (by omega)) ?_
    conv => whnf
    refine cP (r_Split s 124 (by omega)) ?_
    conv => whnf
    have hwl := txG_len (pieces [124] s)
    first
      | rw [show ((((txG (pieces [124] s)).length : Nat) : Int) != 4) = true by rw [bne_iff_ne]; omega]
      | rw [decide_eq_true (show (((txG (pieces [124] s)).length : Nat) : Int) ≠ 4 by omega)]
      | rw [decide_eq_false (show ¬ (((txG (pieces [124] s)).length : Nat) : Int) = 4 by omega)]
      | rw [beq_eq_false_iff_ne.2 (show (((txG (pieces [124] s)).length : Nat) : Int) ≠ 4 by omega)]
    conv => whnf
    refine ⟨_, ⟨rfl, Nat.zero_le _, rfl, Nat.le_of_ble_eq_true rfl⟩, ?_⟩
    conv => whnf
    exact fin 0 (hw := wkNow nw0 _ _ _ _)
  obtain ⟨a, b, c, d, hL⟩ := len4 h4
  rw [hL] at hm
  have ha := hm a (by simp)
  have hb := hm b (by simp)
  have hc := hm c (by simp)
  have hd := hm d (by simp)
  have na := r_Number a (by omega)
  have nb := r_numbers b (by omega)
  have nd := r_numbers d (by omega)
  have hst : strictR s = if ((nbR a).2 && (numsR b).2 && (numsR d).2) = true then (spsR c).map fun l => ⟨(nbR a).1, (numsR b).1, l, (numsR d).1⟩ else none := by unfold strictR; rw [hL]
  generalize nbR a = A at na hst
  generalize numsR b = B at nb hst
  generalize numsR d = D at nd hst
  obtain ⟨A1, A2⟩ := A
  obtain ⟨B1, B2⟩ := B
  obtain ⟨D1, D2⟩ := D
  by_cases hok : (A2 && B2 && D2) = true
  rotate_left
  · rw [hst, if_neg hok]
    refine SC.of_gwp noM mixed Tryz.func8 rfl (Nat.le_of_ble_eq_true rfl) (by first | exact Nat.le_refl _ | simp) rfl ?_
    conv => whnf
    refine gN (decide_eq_false (by omega)) ?_
    conv => whnf
    refine cP (r_Split s 124 (by omega)) ?_
    rw [hL]
    conv => whnf
    refine ⟨by decide, .s a, rfl, rfl, ?_⟩
    conv => whnf
    refine cP na ?_
    conv => whnf
    refine ⟨by decide, .s b, rfl, rfl, ?_⟩
    conv => whnf
    refine cP nb ?_
    conv => whnf
    refine ⟨by decide, .s d, rfl, rfl, ?_⟩
    conv => whnf
    refine cP nd ?_
    cases A2 <;> cases B2 <;> cases D2 <;> first | exact absurd rfl hok | skip
    all_goals
      conv => whnf
      refine ⟨_, ⟨rfl, Nat.zero_le _, rfl, Nat.le_of_ble_eq_true rfl⟩, ?_⟩
      conv => whnf
      exact fin 0 (hw := wkNow nw0 _ _ _ _)
  rw [hst, if_pos hok]
  obtain ⟨rfl, rfl, rfl⟩ : A2 = true ∧ B2 = true ∧ D2 = true := by simpa [and_assoc] using hok
  clear hst hok
  refine SC.of_gwp noM mixed Tryz.func8 rfl (Nat.le_of_ble_eq_true rfl) (by first | exact Nat.le_refl _ | simp) rfl ?_
  conv => whnf
  refine gN (decide_eq_false (by omega)) ?_
  conv => whnf
  refine cP (r_Split s 124 (by omega)) ?_
  rw [hL]
  conv => whnf
  refine ⟨by decide, .s a, rfl, rfl, ?_⟩
  conv => whnf
  refine cP na ?_
  conv => whnf
  refine ⟨by decide, .s b, rfl, rfl, ?_⟩
  conv => whnf
  refine cP nb ?_
  conv => whnf
  refine ⟨by decide, .s d, rfl, rfl, ?_⟩
  conv => whnf
  refine cP nd ?_
  conv => whnf
  refine ⟨_, ⟨rfl, Nat.zero_le _, rfl, Nat.le_of_ble_eq_true rfl⟩, ?_⟩
  conv => whnf
  refine ⟨by decide, .s c, rfl, rfl, ?_⟩
  conv => whnf
  by_cases hc0 : c = []
  · rw [show (c == (⟨#[]⟩ : ByteArray).data.toList) = true by subst hc0; rfl]
    rw [show spsR c = some [] by unfold spsR; rw [if_pos hc0]]
    conv => whnf
    refine ⟨_, ⟨rfl, Nat.zero_le _, rfl, Nat.le_of_ble_eq_true rfl⟩, ?_⟩
    conv => whnf
    exact fin 0 (hw := wkNow ⟨A1, B1, [], D1⟩ _ _ _ _)
  rw [show (c == (⟨#[]⟩ : ByteArray).data.toList) = false by simpa using hc0]
  have hpc := pc_len (c := 32) c
  have hsp : spsR c = if (pieces [32] c).all okR then some ((pieces [32] c).map spR') else none := by unfold spsR; rw [if_neg hc0]
  have hmc : ∀ x ∈ pieces [32] c, x.length ≤ 20000 := fun x hx => Nat.le_trans (pc_mem hx) hc
  rw [hsp]
  clear hsp
  conv => whnf
  refine ⟨by decide, .s c, rfl, rfl, ?_⟩
  conv => whnf
  refine cP (r_Split c 32 (by omega)) ?_
  generalize pieces [32] c = L at hpc hmc
  conv => whnf
  have htl := txG_len L
  refine GLoop.mv L.length (fun i (o : List Sp) => o = (L.take i).map spR' ∧ (L.take i).all okR = true) (fun i o => [(2, .ptr 0 0), (11, .ptr 1 0), (12, .sl .none (txG L)), (13, .i .i64 (i : Nat))]) (fun _ o => nwO A1 B1 D1 o) [] ⟨rfl, rfl⟩ ?_ rfl ?_ (fun i o φ0 hi hI => ?_)
  · exact ⟨rfl, rfl, rfl, rfl, trivial⟩
  · exact fun i b => ⟨rfl, rfl, rfl, rfl, trivial⟩
  obtain ⟨ho, ha⟩ := hI
  have hol : o.length = i := by rw [ho, List.length_map, List.length_take]; omega
  cases o with
  | nil =>
    conv => whnf
    by_cases hlt : i < L.length
    rotate_left
    · rw [decide_eq_false (show ¬ (((i : Nat) : Int) < (((txG L).length : Nat) : Int)) by omega)]
      have hi' : i = L.length := by omega
      rw [hi', List.take_length] at ho ha
      rw [if_pos ha, ← ho]
      conv => whnf
      refine ⟨_, ⟨rfl, Nat.zero_le _, rfl, Nat.le_of_ble_eq_true rfl⟩, ?_⟩
      conv => whnf
      exact fin 0 (hw := wkNow ⟨A1, B1, [], D1⟩ _ _ _ _)
    rw [decide_eq_true (show (((i : Nat) : Int) < (((txG L).length : Nat) : Int)) by omega)]
    conv => whnf
    refine (ex_at hlt).elim fun x hx => ?_
    have hxm := List.mem_of_getElem? hx
    refine ix (map_at hx) ⟨rfl, ?_⟩
    conv => whnf
    refine cP (r_read' x (by have := hmc x hxm; omega)) ?_
    conv => whnf
    refine ⟨_, ⟨rfl, Nat.zero_le _, rfl, Nat.le_of_ble_eq_true rfl⟩, ?_⟩
    conv => whnf
    by_cases h3 : okR x = true
    rotate_left
    · have h3 : okR x = false := by simpa using h3
      rw [if_neg (by rw [all_no hxm h3]; simp)]
      rw [h3]
      conv => whnf
      refine ⟨_, ⟨rfl, Nat.zero_le _, rfl, Nat.le_of_ble_eq_true rfl⟩, ?_⟩
      conv => whnf
      exact fin 0 (hw := wkNow nw0 _ _ _ _)
    rw [h3]
    have htk : L.take (i + 1) = L.take i ++ [x] := by rw [List.take_add_one, hx]; rfl
    have ho' : [] ++ [spR' x] = (L.take (i + 1)).map spR' := by rw [htk, List.map_append, ← ho]; rfl
    have ha' : (L.take (i + 1)).all okR = true := by rw [htk, List.all_append, ha]; simp [h3]
    conv => whnf
    refine ap1 (f := spG) (c := 5) (fun _ => rfl) [] (spR' x) rfl (by simp) ?_
    conv => whnf
    refine ⟨_, ⟨rfl, Nat.zero_le _, rfl, Nat.le_of_ble_eq_true rfl⟩, ?_⟩
    conv => whnf
    refine ⟨L.length - (i + 1), by omega, (i + 1, [] ++ [spR' x]), [0, 1, 4], ⟨hlt, ho', ha'⟩, rfl, ?_, ?_, rfl, ?_⟩
    · show Lies [0, 1, 4] [.box 25 [.i .i64 0, .sl .full [], .sl .full [], .sl .full []], .box 25 [.i .i64 A1, .sl .none (intsG B1), .sl (.own 2) (spsG ([] ++ [spR' x])), .sl .none (intsG D1)], .own 1 5 67] _
      exact Lies.mk' rfl rfl (by decide) rfl
    · intro j hj
      match j, hj with | 0, _ => rfl | 1, _ => rfl
    · intro p hp
      simp only [List.mem_cons, List.not_mem_nil, or_false] at hp
      rcases hp with rfl | rfl | rfl | rfl
      · rfl
      · rfl
      · exact ((Cl.sl (show KL (txG L) from inferInstance).h) _).symm
      · exact wrap_succ (by omega)
  | cons z zs =>
    conv => whnf
    by_cases hlt : i < L.length
    rotate_left
    · rw [decide_eq_false (show ¬ (((i : Nat) : Int) < (((txG L).length : Nat) : Int)) by omega)]
      have hi' : i = L.length := by omega
      rw [hi', List.take_length] at ho ha
      rw [if_pos ha, ← ho]
      conv => whnf
      refine ⟨_, ⟨rfl, Nat.zero_le _, rfl, Nat.le_of_ble_eq_true rfl⟩, ?_⟩
      conv => whnf
      exact fin 0 (hw := wkNow ⟨A1, B1, (z :: zs), D1⟩ _ _ _ _)
    rw [decide_eq_true (show (((i : Nat) : Int) < (((txG L).length : Nat) : Int)) by omega)]
    conv => whnf
    refine (ex_at hlt).elim fun x hx => ?_
    have hxm := List.mem_of_getElem? hx
    refine ix (map_at hx) ⟨rfl, ?_⟩
    conv => whnf
    refine cP (r_read' x (by have := hmc x hxm; omega)) ?_
    conv => whnf
    refine ⟨_, ⟨rfl, Nat.zero_le _, rfl, Nat.le_of_ble_eq_true rfl⟩, ?_⟩
    conv => whnf
    by_cases h3 : okR x = true
    rotate_left
    · have h3 : okR x = false := by simpa using h3
      rw [if_neg (by rw [all_no hxm h3]; simp)]
      rw [h3]
      conv => whnf
      refine ⟨_, ⟨rfl, Nat.zero_le _, rfl, Nat.le_of_ble_eq_true rfl⟩, ?_⟩
      conv => whnf
      exact fin 0 (hw := wkNow nw0 _ _ _ _)
    rw [h3]
    have htk : L.take (i + 1) = L.take i ++ [x] := by rw [List.take_add_one, hx]; rfl
    have ho' : (z :: zs) ++ [spR' x] = (L.take (i + 1)).map spR' := by rw [htk, List.map_append, ← ho]; rfl
    have ha' : (L.take (i + 1)).all okR = true := by rw [htk, List.all_append, ha]; simp [h3]
    conv => whnf
    refine ap1 (f := spG) (c := 5) (fun _ => rfl) (z :: zs) (spR' x) rfl (by omega) ?_
    conv => whnf
    refine ⟨⟨Nat.zero_le _, (spsG_len (z :: zs)).symm, .inl ⟨rfl, rfl⟩⟩, ?_⟩
    conv => whnf
    refine ⟨_, ⟨rfl, Nat.zero_le _, rfl, Nat.le_of_ble_eq_true rfl⟩, ?_⟩
    conv => whnf
    refine ⟨L.length - (i + 1), by omega, (i + 1, (z :: zs) ++ [spR' x]), [0, 1, 2], ⟨hlt, ho', ha'⟩, rfl, ?_, ?_, rfl, ?_⟩
    · show Lies [0, 1, 2] [.box 25 [.i .i64 0, .sl .full [], .sl .full [], .sl .full []], .box 25 [.i .i64 A1, .sl .none (intsG B1), .sl (.own 2) (spsG ((z :: zs) ++ [spR' x])), .sl .none (intsG D1)], .own ((zs ++ [spR' x]).length + 1) 5 67] _
      exact Lies.mk' rfl rfl (by decide) rfl
    · intro j hj
      match j, hj with | 0, _ => rfl | 1, _ => rfl
    · intro p hp
      simp only [List.mem_cons, List.not_mem_nil, or_false] at hp
      rcases hp with rfl | rfl | rfl | rfl
      · rfl
      · rfl
      · exact ((Cl.sl (show KL (txG L) from inferInstance).h) _).symm
      · exact wrap_succ (by omega)
end Go.Proofs.YtcbknpdjdlgljaaGreatDoor
