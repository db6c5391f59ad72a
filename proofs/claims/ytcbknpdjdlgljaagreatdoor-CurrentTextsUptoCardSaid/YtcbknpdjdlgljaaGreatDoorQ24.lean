/-
  The text of every currencies, and what every text is read as.
-/
import Derived.Test.YtcbknpdjdlgljaaGreatDoorQ20
import Derived.Test.YtcbknpdjdlgljaaGreatDoorQ23
import Derived.Test.YtcbknpdjdlgljaaGreatDoorQ22
import Derived.Test.YtcbknpdjdlgljaaGreatDoorQ19
import Derived.Test.YtcbknpdjdlgljaaGreatDoorQ15
import Derived.LaidMore
import Derived.LaidLaws
import Derived.OpenShut
import Derived.ProofKit
import Derived.Stop.Joined
import Derived.Test.YtcbknpdjdlgljaaGreatDoorRows
set_option linter.all false
namespace Go.Proofs.YtcbknpdjdlgljaaGreatDoor
open Go.RowKit
set_option maxRecDepth 100000
set_option linter.unusedVariables false
theorem join_ne {x : By} (hx : x ≠ []) (sep : By) : ∀ l : List By, Lib.join (x :: l) sep ≠ []
  | [] => by rw [join_one]; exact hx
  | y :: l => by rw [join_cons2]; simp [hx]
theorem pc_nums {c : UInt8} (h : isD c = false) (h' : c ≠ 45) {l : List Int} (hl : l ≠ []) : pieces [c] (numsW [c] l) = l.map Lib.itoa :=
  pieces_of_join _ (by simpa using hl) fun x hx => by
    obtain ⟨y, _, rfl⟩ := List.mem_map.1 hx
    exact itoa_no h h'
theorem nums_ne {sep : By} {l : List Int} (hl : l ≠ []) : numsW sep l ≠ [] := by
  cases l with
  | nil => exact absurd rfl hl
  | cons x l => exact join_ne (itoa_ne x) sep _
theorem nums_nil {sep : By} : numsW sep [] = [] := by unfold numsW Lib.join; simp [List.intercalate]
theorem map_id' {f : By → Int} {l : List Int} (h : ∀ x ∈ l, f (Lib.itoa x) = x) : (l.map Lib.itoa).map f = l := by
  rw [List.map_map]
  exact (List.map_congr_left h).trans (List.map_id l)
theorem lenL_of {c : UInt8} (h : isD c = false) (h' : c ≠ 45) {l : List Int} (hr : ∀ x ∈ l, inR x) : lenL c (numsW [c] l) = l := by
  unfold lenL
  by_cases hl : l = []
  · subst hl; rw [nums_nil, if_pos rfl]
  · rw [if_neg (nums_ne hl), pc_nums h h' hl]
    exact map_id' fun x hx => att_itoa (hr x hx)
theorem numsR_of {l : List Int} (hr : ∀ x ∈ l, inR x) : numsR (numsW [32] l) = (l, true) := by
  unfold numsR
  by_cases hl : l = []
  · subst hl; rw [nums_nil, if_pos rfl]
  · rw [if_neg (nums_ne hl), pc_nums (by decide) (by decide) hl, if_pos, map_id' fun x hx => by rw [nb_itoa (hr x hx)]]
    rw [List.all_eq_true]
    intro x hx
    obtain ⟨y, hy, rfl⟩ := List.mem_map.1 hx
    rw [nb_itoa (hr y hy)]
theorem numsR_eq {b : By} (h : (numsR b).2 = true) : numsW [32] (numsR b).1 = b ∧ ∀ x ∈ (numsR b).1, inR x := by
  unfold numsR at h ⊢
  split
  · rename_i e; subst e; exact ⟨nums_nil, fun x hx => by cases hx⟩
  · rename_i e
    rw [if_neg e] at h
    split at h
    · rename_i ha
      rw [if_pos ha]
      refine ⟨?_, fun x hx => ?_⟩
      · show Lib.join (((pieces [32] b).map fun x => (nbR x).1).map Lib.itoa) [32] = b
        have : ((pieces [32] b).map fun x => (nbR x).1).map Lib.itoa = pieces [32] b := by
          rw [List.map_map]
          exact (List.map_congr_left fun x hx => nb_eq (List.all_eq_true.1 ha x hx)).trans (List.map_id _)
        rw [this]
        exact pieces_join (List.cons_ne_nil _ _) b.length b (Nat.le_refl _)
      · obtain ⟨y, _, rfl⟩ := List.mem_map.1 hx
        exact nb_in y
    · cases h
inductive Can : Sp → Prop
  | n : Can sp0
  | o (v : Int) : inR v → Can ⟨1, v, 0, 0, 0⟩
  | m (v w : Int) : inR v → inR w → Can ⟨2, v, w, 0, 0⟩
  | g (v w z : Int) : inR v → inR w → inR z → Can ⟨3, v, 0, w, z⟩
theorem can_len (x : By) : Can (lenS x) := by
  have h : ∀ y ∈ lenL 58 (Lib.cut x [58]).2.1 ++ [0, 0, 0], inR y := fun y hy => by
    rcases List.mem_append.1 hy with hy | hy
    · exact lenL_in hy
    · simp at hy; subst hy; exact ⟨by decide, by decide⟩
  unfold lenS mkS
  dsimp only
  split
  · exact .o _ (getD_in h 0)
  split
  · exact .m _ _ (getD_in h 0) (getD_in h 1)
  split
  · exact .g _ _ _ (getD_in h 0) (getD_in h 1) (getD_in h 2)
  · exact .n
theorem nb2 {x : Int} (h : inR x) : (nbR (Lib.itoa x)).2 = true := by rw [nb_itoa h]
theorem nb1 {x : Int} (h : inR x) : (nbR (Lib.itoa x)).1 = x := by rw [nb_itoa h]
theorem pc_word {w : By} (hw : (58 : UInt8) ∉ w) (l : List Int) : pieces [58] (Lib.join (w :: l.map Lib.itoa) [58]) = w :: l.map Lib.itoa :=
  pieces_of_join _ (List.cons_ne_nil _ _) fun x hx => by
    rcases List.mem_cons.1 hx with rfl | hx
    · exact hw
    · obtain ⟨y, _, rfl⟩ := List.mem_map.1 hx
      exact itoa_no (by decide) (by decide)
theorem wr_1 (v : Int) : wrS ⟨1, v, 0, 0, 0⟩ = Lib.join ([111] :: [v].map Lib.itoa) [58] := by
  show [111, 58] ++ Lib.join [Lib.itoa v] [58] = _
  rw [List.map_cons, List.map_nil, join_cons2]; rfl
theorem wr_2 (v w : Int) : wrS ⟨2, v, w, 0, 0⟩ = Lib.join ([109] :: [v, w].map Lib.itoa) [58] := by
  show [109, 58] ++ Lib.join [Lib.itoa v, Lib.itoa w] [58] = _
  rw [List.map_cons, List.map_cons, List.map_nil, join_cons2 [109]]; rfl
theorem wr_3 (v w z : Int) : wrS ⟨3, v, 0, w, z⟩ = Lib.join ([103] :: [v, w, z].map Lib.itoa) [58] := by
  show [103, 58] ++ Lib.join [Lib.itoa v, Lib.itoa w, Lib.itoa z] [58] = _
  rw [List.map_cons, List.map_cons, List.map_cons, List.map_nil, join_cons2 [103]]; rfl
theorem ne45 (x : UInt8) (hx : x ≠ 45) (l : List By) : Lib.join ([x] :: l) [58] ≠ [45] := by
  cases l with
  | nil => rw [join_one]; intro e; exact hx (List.cons.inj e).1
  | cons y l => rw [join_cons2]; intro e; exact hx (List.cons.inj e).1
theorem read_wr {p : Sp} (h : Can p) : readR (wrS p) = some p := by
  cases h with
  | n =>
    unfold readR
    rw [show wrS sp0 = [45] from rfl, pieces_no (by decide)]; rfl
  | o v hv =>
    rw [wr_1]
    unfold readR
    rw [pc_word (by decide)]
    simp only [List.map_cons, List.map_nil, List.drop_succ_cons, List.drop_zero, List.take_succ_cons, List.take_nil, List.all_cons, List.all_nil, nb2 hv, Bool.and_true, Bool.true_eq_false, if_false]
    rw [if_neg (ne45 111 (by decide) _), if_pos ⟨rfl, rfl⟩]
    show some (Sp.mk 1 (nbR (Lib.itoa v)).1 0 0 0) = _
    rw [nb1 hv]
  | m v w hv hw =>
    rw [wr_2]
    unfold readR
    rw [pc_word (by decide)]
    simp only [List.map_cons, List.map_nil, List.drop_succ_cons, List.drop_zero, List.take_succ_cons, List.take_nil, List.all_cons, List.all_nil, nb2 hv, nb2 hw, Bool.and_true, Bool.true_eq_false, if_false]
    rw [if_neg (ne45 109 (by decide) _), if_neg (by rintro ⟨_, e⟩; cases e), if_pos ⟨rfl, rfl⟩]
    show some (Sp.mk 2 (nbR (Lib.itoa v)).1 (nbR (Lib.itoa w)).1 0 0) = _
    rw [nb1 hv, nb1 hw]
  | g v w z hv hw hz =>
    rw [wr_3]
    unfold readR
    rw [pc_word (by decide)]
    simp only [List.map_cons, List.map_nil, List.drop_succ_cons, List.drop_zero, List.take_succ_cons, List.take_nil, List.take_zero, List.all_cons, List.all_nil, nb2 hv, nb2 hw, nb2 hz, Bool.and_true, Bool.true_eq_false, if_false]
    rw [if_neg (ne45 103 (by decide) _), if_neg (by rintro ⟨_, e⟩; cases e), if_neg (by rintro ⟨_, e⟩; cases e), if_pos ⟨rfl, rfl⟩]
    show some (Sp.mk 3 (nbR (Lib.itoa v)).1 0 (nbR (Lib.itoa w)).1 (nbR (Lib.itoa z)).1) = _
    rw [nb1 hv, nb1 hw, nb1 hz]
theorem cut_word {w : By} (hw : (58 : UInt8) ∉ w) {l : List Int} (hl : l ≠ []) : Lib.cut (Lib.join (w :: l.map Lib.itoa) [58]) [58] = (w, numsW [58] l, true) := by
  cases l with
  | nil => exact absurd rfl hl
  | cons x l => rw [List.map_cons, join_cons2]; exact cut_c w _ hw
theorem len_wr {p : Sp} (h : Can p) : lenS (wrS p) = p := by
  unfold lenS
  cases h with
  | n =>
    rw [show wrS sp0 = [45] from rfl, cut_no (by decide)]
    exact mkS_0 (by decide) (by decide) (by decide)
  | o v hv =>
    rw [wr_1, cut_word (by decide) (by simp)]
    dsimp only
    rw [lenL_of (by decide) (by decide) (fun x hx => by simp at hx; subst hx; exact hv), mkS_1 rfl]; rfl
  | m v w hv hw =>
    rw [wr_2, cut_word (by decide) (by simp)]
    dsimp only
    rw [lenL_of (by decide) (by decide) (fun x hx => by simp at hx; rcases hx with rfl | rfl; exact hv; exact hw), mkS_2 rfl]; rfl
  | g v w z hv hw hz =>
    rw [wr_3, cut_word (by decide) (by simp)]
    dsimp only
    rw [lenL_of (by decide) (by decide) (fun x hx => by simp at hx; rcases hx with rfl | rfl | rfl; exact hv; exact hw; exact hz), mkS_3 rfl]; rfl
theorem read_eq {x : By} {p : Sp} (h : readR x = some p) : Can p ∧ wrS p = x := by
  have hj := pieces_join (sub := [58]) (List.cons_ne_nil _ _) x.length x (Nat.le_refl _)
  unfold readR at h
  generalize pieces [58] x = w at h hj
  dsimp only at h
  split at h
  · cases h
  rename_i ha
  split at h
  · rename_i e; cases h; subst e; exact ⟨.n, rfl⟩
  split at h
  · rename_i e
    obtain ⟨e1, e2⟩ := e
    cases h
    match w, e2 with
    | [w0, w1], _ =>
      cases e1
      have a1 : (nbR w1).2 = true := by simpa using ha
      refine ⟨.o _ (nb_in _), ?_⟩
      rw [wr_1, ← hj]
      show Lib.join [[111], Lib.itoa (nbR w1).1] [58] = _
      rw [nb_eq a1]
  split at h
  · rename_i e
    obtain ⟨e1, e2⟩ := e
    cases h
    match w, e2 with
    | [w0, w1, w2], _ =>
      cases e1
      have a1 : (nbR w1).2 = true ∧ (nbR w2).2 = true := by simpa using ha
      refine ⟨.m _ _ (nb_in _) (nb_in _), ?_⟩
      rw [wr_2, ← hj]
      show Lib.join [[109], Lib.itoa (nbR w1).1, Lib.itoa (nbR w2).1] [58] = _
      rw [nb_eq a1.1, nb_eq a1.2]
  split at h
  · rename_i e
    obtain ⟨e1, e2⟩ := e
    cases h
    match w, e2 with
    | [w0, w1, w2, w3], _ =>
      cases e1
      have a1 : (nbR w1).2 = true ∧ (nbR w2).2 = true ∧ (nbR w3).2 = true := by simpa using ha
      refine ⟨.g _ _ _ (nb_in _) (nb_in _) (nb_in _), ?_⟩
      rw [wr_3, ← hj]
      show Lib.join [[103], Lib.itoa (nbR w1).1, Lib.itoa (nbR w2).1, Lib.itoa (nbR w3).1] [58] = _
      rw [nb_eq a1.1, nb_eq a1.2.1, nb_eq a1.2.2]
  · cases h
end Go.Proofs.YtcbknpdjdlgljaaGreatDoor
namespace Go.Proofs.YtcbknpdjdlgljaaGreatDoor
open Go.RowKit
set_option maxRecDepth 100000
set_option linter.unusedVariables false
theorem nums_no {c s0 : UInt8} (h : isD c = false) (h' : c ≠ 45) (h2 : c ≠ s0) (l : List Int) : c ∉ numsW [s0] l := fun hm => by
  rcases mem_join _ _ hm with hm | ⟨x, hx, hm⟩
  · simp at hm; exact h2 hm
  · obtain ⟨y, _, rfl⟩ := List.mem_map.1 hx
    exact itoa_no h h' hm
theorem wr_no {c : UInt8} (h : isD c = false) (h' : c ≠ 45) (h2 : c ≠ 58) (h3 : c ≠ 111) (h4 : c ≠ 109) (h5 : c ≠ 103) (p : Sp) : c ∉ wrS p := by
  have n1 : ∀ (x : UInt8) (l : List Int), c ≠ x → c ∉ [x, 58] ++ numsW [58] l := fun x l hx hm => by
    rcases List.mem_append.1 hm with hm | hm
    · simp at hm; rcases hm with hm | hm
      · exact hx hm
      · exact h2 hm
    · exact nums_no h h' h2 l hm
  unfold wrS
  split
  · exact n1 _ _ h3
  split
  · exact n1 _ _ h4
  split
  · exact n1 _ _ h5
  · simp [h']
theorem wr_ne (p : Sp) : wrS p ≠ [] := by
  unfold wrS
  split
  · simp
  split
  · simp
  split <;> simp
theorem wr32 (p : Sp) : (32 : UInt8) ∉ wrS p := wr_no (by decide) (by decide) (by decide) (by decide) (by decide) (by decide) p
theorem wr124 (p : Sp) : (124 : UInt8) ∉ wrS p := wr_no (by decide) (by decide) (by decide) (by decide) (by decide) (by decide) p
theorem pc_sps {l : List Sp} (hl : l ≠ []) : pieces [32] (Lib.join (l.map wrS) [32]) = l.map wrS :=
  pieces_of_join _ (by simpa using hl) fun x hx => by
    obtain ⟨y, _, rfl⟩ := List.mem_map.1 hx
    exact wr32 y
theorem sps_ne {l : List Sp} (hl : l ≠ []) : Lib.join (l.map wrS) [32] ≠ [] := by
  cases l with
  | nil => exact absurd rfl hl
  | cons x l => exact join_ne (wr_ne x) _ _
theorem sps_nil : Lib.join (([] : List Sp).map wrS) [32] = [] := by unfold Lib.join; simp [List.intercalate]
theorem spsR_of {l : List Sp} (hc : ∀ p ∈ l, Can p) : spsR (Lib.join (l.map wrS) [32]) = some l := by
  unfold spsR
  by_cases hl : l = []
  · subst hl; rw [sps_nil, if_pos rfl]
  · rw [if_neg (sps_ne hl), pc_sps hl, if_pos]
    · congr 1
      rw [List.map_map]
      exact (List.map_congr_left fun p hp => by show (readR (wrS p)).getD sp0 = id p; rw [read_wr (hc p hp)]; rfl).trans (List.map_id _)
    · rw [List.all_eq_true]
      intro x hx
      obtain ⟨y, hy, rfl⟩ := List.mem_map.1 hx
      unfold okR
      rw [read_wr (hc y hy)]; rfl
theorem lenSs_of {l : List Sp} (hc : ∀ p ∈ l, Can p) : lenSs (Lib.join (l.map wrS) [32]) = l := by
  unfold lenSs
  by_cases hl : l = []
  · subst hl; rw [sps_nil, if_pos rfl]
  · rw [if_neg (sps_ne hl), pc_sps hl, List.map_map]
    exact (List.map_congr_left fun p hp => by show lenS (wrS p) = id p; exact len_wr (hc p hp)).trans (List.map_id _)
theorem spsR_eq {c : By} {l : List Sp} (h : spsR c = some l) : (∀ p ∈ l, Can p) ∧ Lib.join (l.map wrS) [32] = c := by
  unfold spsR at h
  split at h
  · rename_i e; cases h; subst e; exact ⟨fun p hp => (by cases hp), sps_nil⟩
  split at h
  · rename_i ha
    cases h
    have key : ∀ x ∈ pieces [32] c, Can (spR' x) ∧ wrS (spR' x) = x := fun x hx => by
      have := List.all_eq_true.1 ha x hx
      unfold okR at this
      unfold spR'
      cases e : readR x with
      | none => rw [e] at this; cases this
      | some p => exact read_eq e
    refine ⟨fun p hp => ?_, ?_⟩
    · obtain ⟨y, hy, rfl⟩ := List.mem_map.1 hp
      exact (key y hy).1
    · rw [List.map_map, show (pieces [32] c).map (wrS ∘ spR') = pieces [32] c from (List.map_congr_left fun x hx => (key x hx).2).trans (List.map_id _)]
      exact pieces_join (List.cons_ne_nil _ _) c.length c (Nat.le_refl _)
  · cases h
theorem can_lenSs {c : By} : ∀ p ∈ lenSs c, Can p := fun p hp => by
  unfold lenSs at hp
  split at hp
  · cases hp
  · obtain ⟨y, _, rfl⟩ := List.mem_map.1 hp; exact can_len y
theorem fmt_join (n : Nw) : fmtN n = Lib.join [Lib.itoa n.u, numsW [32] n.rs, Lib.join (n.ss.map wrS) [32], numsW [32] n.ar] [124] := by
  rw [join_cons2, join_cons2, join_cons2, join_one]
  unfold fmtN
  simp only [List.append_assoc]
theorem pc_fmt (n : Nw) : pieces [124] (fmtN n) = [Lib.itoa n.u, numsW [32] n.rs, Lib.join (n.ss.map wrS) [32], numsW [32] n.ar] := by
  rw [fmt_join]
  refine pieces_of_join _ (List.cons_ne_nil _ _) fun x hx => ?_
  simp only [List.mem_cons, List.not_mem_nil, or_false] at hx
  rcases hx with rfl | rfl | rfl | rfl
  · exact itoa_no (by decide) (by decide)
  · exact nums_no (by decide) (by decide) (by decide) _
  · intro hm
    rcases mem_join _ _ hm with hm | ⟨y, hy, hm⟩
    · simp at hm
    · obtain ⟨z, _, rfl⟩ := List.mem_map.1 hy
      exact wr124 z hm
  · exact nums_no (by decide) (by decide) (by decide) _
structure CanN (n : Nw) : Prop where
  u : inR n.u
  rs : ∀ x ∈ n.rs, inR x
  ss : ∀ p ∈ n.ss, Can p
  ar : ∀ x ∈ n.ar, inR x
theorem strict_of {n : Nw} (h : CanN n) : strictR (fmtN n) = some n := by
  unfold strictR
  rw [pc_fmt]
  dsimp only
  rw [nb_itoa h.u, numsR_of h.rs, numsR_of h.ar, spsR_of h.ss]; rfl
theorem len_of {n : Nw} (h : CanN n) : lenN (fmtN n) = n := by
  unfold lenN
  rw [pc_fmt]
  dsimp only
  rw [att_itoa h.u, lenL_of (by decide) (by decide) h.rs, lenL_of (by decide) (by decide) h.ar, lenSs_of h.ss]
theorem strict_eq {s : By} {n : Nw} (h : strictR s = some n) : CanN n ∧ fmtN n = s := by
  have hj := pieces_join (sub := [124]) (List.cons_ne_nil _ _) s.length s (Nat.le_refl _)
  unfold strictR at h
  split at h
  · rename_i a b c d e
    rw [e] at hj
    split at h
    · rename_i ha
      have ha : ((nbR a).2 = true ∧ (numsR b).2 = true) ∧ (numsR d).2 = true := by simpa using ha
      cases hs : spsR c with
      | none => rw [hs] at h; cases h
      | some l =>
        rw [hs] at h
        cases h
        obtain ⟨b1, b2⟩ := numsR_eq ha.1.2
        obtain ⟨d1, d2⟩ := numsR_eq ha.2
        obtain ⟨c1, c2⟩ := spsR_eq hs
        refine ⟨⟨nb_in a, b2, c1, d2⟩, ?_⟩
        rw [fmt_join]
        dsimp only
        rw [nb_eq ha.1.1, b1, c2, d1]
        exact hj
    · cases h
  · cases h
theorem can_lenN (s : By) : CanN (lenN s) := by
  unfold lenN
  split
  · exact ⟨attN_in _, fun x hx => lenL_in hx, can_lenSs, fun x hx => lenL_in hx⟩
  · exact ⟨⟨by decide, by decide⟩, fun x hx => (by cases hx), fun x hx => (by cases hx), fun x hx => (by cases hx)⟩
theorem parse_same (s : By) : parseR s = parseK s := by
  unfold parseR parseK
  split
  · rfl
  cases h : strictR s with
  | some n =>
    obtain ⟨h1, h2⟩ := strict_eq h
    have h3 := len_of h1
    rw [h2] at h3
    have h4 : (pieces [124] s).length = 4 := by rw [← h2, pc_fmt]; rfl
    rw [if_pos h4, h3, if_pos h2]
  | none =>
    have hf : ¬ fmtN (lenN s) = s := fun e => by
      have := strict_of (can_lenN s)
      rw [e, h] at this
      cases this
    rw [if_neg hf]
    by_cases q : (pieces [124] s).length = 4
    · rw [if_pos q]
    · rw [if_neg q]
theorem parse_len {s : By} : (parseK s).1.rs.length ≤ 1048576 ∧ (parseK s).1.ss.length ≤ 1048576 ∧ (parseK s).1.ar.length ≤ 1048576 := by
  have z : nw0.rs.length ≤ 1048576 ∧ nw0.ss.length ≤ 1048576 ∧ nw0.ar.length ≤ 1048576 := ⟨by decide, by decide, by decide⟩
  unfold parseK
  split
  · exact z
  rename_i hs
  split
  · split
    · have hm : ∀ x ∈ pieces [124] s, x.length ≤ 20000 := fun x hx => Nat.le_trans (pc_mem hx) (by omega)
      unfold lenN
      split
      · rename_i a b c d e
        rw [e] at hm
        have hb := hm b (by simp)
        have hc := hm c (by simp)
        have hd := hm d (by simp)
        exact ⟨by have := lenL_len (c := 32) b; show (lenL 32 b).length ≤ _; omega, by have := lenSs_len c; show (lenSs c).length ≤ _; omega, by have := lenL_len (c := 32) d; show (lenL 32 d).length ≤ _; omega⟩
      · exact z
    · exact z
  · exact z
end Go.Proofs.YtcbknpdjdlgljaaGreatDoor
namespace Go.Proofs.YtcbknpdjdlgljaaGreatDoor
open Go.RowKit
set_option maxRecDepth 100000
set_option linter.unusedVariables false
set_option maxHeartbeats 8000000 in
theorem r_Same [MaxL] (n : Nw) (h1 : n.rs.length ≤ 1048576) (h2 : n.ss.length ≤ 1048576) (h3 : n.ar.length ≤ 1048576) : SC Tryz.prog 9 [nowG n, nowG n] [] (.val (.b true)) [] := by
  have l1 := intsG_len n.rs
  have l2 := spsG_len n.ss
  have l3 := intsG_len n.ar
  refine SC.of_gwp noM mixed Tryz.func9 rfl (Nat.le_of_ble_eq_true rfl) (by first | exact Nat.le_refl _ | simp) rfl ?_
  conv => whnf
  rw [show (n.u != n.u) = false from bne_self_eq_false _]
  conv => whnf
  rw [show ((((intsG n.rs).length : Nat) : Int) != (((intsG n.rs).length : Nat) : Int)) = false from bne_self_eq_false _]
  conv => whnf
  rw [show ((((spsG n.ss).length : Nat) : Int) != (((spsG n.ss).length : Nat) : Int)) = false from bne_self_eq_false _]
  conv => whnf
  rw [show ((((intsG n.ar).length : Nat) : Int) != (((intsG n.ar).length : Nat) : Int)) = false from bne_self_eq_false _]
  conv => whnf
  refine GLoop.rng 2 n.rs.length (fun i (_ : Unit) => True) (fun i _ => [(2, .ptr 0 0), (3, .ptr 1 0), (5, .i .i64 (i : Nat))]) (fun _ _ => [.box 25 [.i .i64 n.u, .sl .none (intsG n.rs), .sl .none (spsG n.ss), .sl .none (intsG n.ar)], .box 25 [.i .i64 n.u, .sl .none (intsG n.rs), .sl .none (spsG n.ss), .sl .none (intsG n.ar)]]) [] () trivial (fun i _ φ0 hi _ => ?_)
  conv => whnf
  by_cases hlt0 : i < n.rs.length
  rotate_left
  · rw [decide_eq_false (show ¬ (((i : Nat) : Int) < (((intsG n.rs).length : Nat) : Int)) by omega)]
    conv => whnf
    refine GLoop.rng 2 n.ss.length (fun i (_ : Unit) => True) (fun i _ => [(2, .ptr 0 0), (3, .ptr 1 0), (6, .i .i64 (i : Nat))]) (fun _ _ => [.box 25 [.i .i64 n.u, .sl .none (intsG n.rs), .sl .none (spsG n.ss), .sl .none (intsG n.ar)], .box 25 [.i .i64 n.u, .sl .none (intsG n.rs), .sl .none (spsG n.ss), .sl .none (intsG n.ar)]]) [] () trivial (fun i _ φ0 hi _ => ?_)
    conv => whnf
    by_cases hlt1 : i < n.ss.length
    rotate_left
    · rw [decide_eq_false (show ¬ (((i : Nat) : Int) < (((spsG n.ss).length : Nat) : Int)) by omega)]
      conv => whnf
      refine GLoop.rng 2 n.ar.length (fun i (_ : Unit) => True) (fun i _ => [(2, .ptr 0 0), (3, .ptr 1 0), (7, .i .i64 (i : Nat))]) (fun _ _ => [.box 25 [.i .i64 n.u, .sl .none (intsG n.rs), .sl .none (spsG n.ss), .sl .none (intsG n.ar)], .box 25 [.i .i64 n.u, .sl .none (intsG n.rs), .sl .none (spsG n.ss), .sl .none (intsG n.ar)]]) [] () trivial (fun i _ φ0 hi _ => ?_)
      conv => whnf
      by_cases hlt2 : i < n.ar.length
      rotate_left
      · rw [decide_eq_false (show ¬ (((i : Nat) : Int) < (((intsG n.ar).length : Nat) : Int)) by omega)]
        conv => whnf
        exact fin 0
      rw [decide_eq_true (show (((i : Nat) : Int) < (((intsG n.ar).length : Nat) : Int)) by omega)]
      conv => whnf
      refine (ex_at hlt2).elim fun x hx => ?_
      refine GDraw.calm (by kernel_rfl) ?_
      conv => whnf
      refine ix (map_at hx) ⟨rfl, ?_⟩
      conv => whnf
      refine ix (map_at hx) ⟨rfl, ?_⟩
      conv => whnf
      rw [show (x != x) = false from bne_self_eq_false _]
      conv => whnf
      exact nx () hlt2 ⟨hlt2, trivial⟩
    rw [decide_eq_true (show (((i : Nat) : Int) < (((spsG n.ss).length : Nat) : Int)) by omega)]
    conv => whnf
    refine (ex_at hlt1).elim fun x hx => ?_
    refine GDraw.calm (by kernel_rfl) ?_
    conv => whnf
    refine ix (map_at hx) ⟨rfl, ?_⟩
    conv => whnf
    refine ix (map_at hx) ⟨rfl, ?_⟩
    conv => whnf
    refine ⟨by kernel_rfl, ?_⟩
    conv => whnf
    rw [show (x.st == x.st) = true from beq_self_eq_true _]
    conv => whnf
    rw [show (x.ow == x.ow) = true from beq_self_eq_true _]
    conv => whnf
    rw [show (x.ky == x.ky) = true from beq_self_eq_true _]
    conv => whnf
    rw [show (x.be == x.be) = true from beq_self_eq_true _]
    conv => whnf
    rw [show (x.af == x.af) = true from beq_self_eq_true _]
    conv => whnf
    exact nx () hlt1 ⟨hlt1, trivial⟩
  rw [decide_eq_true (show (((i : Nat) : Int) < (((intsG n.rs).length : Nat) : Int)) by omega)]
  conv => whnf
  refine (ex_at hlt0).elim fun x hx => ?_
  refine GDraw.calm (by kernel_rfl) ?_
  conv => whnf
  refine ix (map_at hx) ⟨rfl, ?_⟩
  conv => whnf
  refine ix (map_at hx) ⟨rfl, ?_⟩
  conv => whnf
  rw [show (x != x) = false from bne_self_eq_false _]
  conv => whnf
  exact nx () hlt0 ⟨hlt0, trivial⟩
end Go.Proofs.YtcbknpdjdlgljaaGreatDoor
namespace Go.Proofs.YtcbknpdjdlgljaaGreatDoor
open Go.RowKit
set_option maxRecDepth 100000
set_option linter.unusedVariables false
set_option maxHeartbeats 4000000 in
theorem l_CurrentTexts [MaxL] (n : Nw) (hn : n.ok) (s : By) : SC Tryz.prog 3 [nowG n, .s s] [] (.val (.b true)) [] := by
  have f1 := k_Format n hn
  have f2 := r_Format n hn
  generalize fmtN n = t at f1 f2
  have p1 := k_Parse t
  have p2 := r_Parse t
  have p3 := k_Parse s
  have p4 := r_Parse s
  rw [parse_same] at p2 p4
  obtain ⟨a1, a2, a3⟩ := parse_len (s := t)
  obtain ⟨b1, b2, b3⟩ := parse_len (s := s)
  have s1 := r_Same (parseK t).1 a1 a2 a3
  have s2 := r_Same (parseK s).1 b1 b2 b3
  generalize parseK t = X at p1 p2 s1
  generalize parseK s = Y at p3 p4 s2
  obtain ⟨X, e⟩ := X
  obtain ⟨Y, f⟩ := Y
  dsimp only at p1 p2 s1 p3 p4 s2
  refine SC.of_gwp noM mixed Tryz.func3 rfl (Nat.le_of_ble_eq_true rfl) (by first | exact Nat.le_refl _ | simp) rfl ?_
  conv => whnf
  refine cP e_awakeK ?_
  conv => whnf
  refine cP f1 ?_
  conv => whnf
  refine cP f2 ?_
  conv => whnf
  rw [show (t == t) = true from beq_self_eq_true _]
  conv => whnf
  refine cP p1 ?_
  conv => whnf
  refine ⟨_, ⟨rfl, Nat.zero_le _, rfl, Nat.le_of_ble_eq_true rfl⟩, ?_⟩
  conv => whnf
  refine cP p2 ?_
  conv => whnf
  refine ⟨_, ⟨rfl, Nat.zero_le _, rfl, Nat.le_of_ble_eq_true rfl⟩, ?_⟩
  conv => whnf
  rw [show (e != e) = false from bne_self_eq_false _]
  conv => whnf
  refine cP s1 ?_
  conv => whnf
  refine cP p3 ?_
  conv => whnf
  refine ⟨_, ⟨rfl, Nat.zero_le _, rfl, Nat.le_of_ble_eq_true rfl⟩, ?_⟩
  conv => whnf
  refine cP p4 ?_
  conv => whnf
  refine ⟨_, ⟨rfl, Nat.zero_le _, rfl, Nat.le_of_ble_eq_true rfl⟩, ?_⟩
  conv => whnf
  rw [show (f == f) = true from beq_self_eq_true _]
  conv => whnf
  refine cP s2 ?_
  conv => whnf
  exact fin 0
end Go.Proofs.YtcbknpdjdlgljaaGreatDoor
namespace Go.Proofs.YtcbknpdjdlgljaaGreatDoor
open Go Go.ChangeShapes Go.WideShapes Go.RowKit
section
variable {P : Program} {W : World} {sp : Nat → Bool}
theorem ints_of_trod {H : Type} {enc : TypeId × Value → H} {held : Bool} {base fuel n : Nat} {t e : TypeId} {k : IntKind} {cs : List Value} {p : List MemPlace} (l : List Int)
    (ht : P.underlying t = some (.array n e)) (he : P.underlying e = some (.int k)) (hc : P.cellsOf e = 1) (hn : l.length = n) (hct : P.cellsOf t = n)
    (h : DataW.trod enc P W base sp held fuel t cs = some (.agg (l.map fun x => .lit (.int k x)), p)) : cs = l.map (Value.int k) := by
  obtain ⟨xs, m, rfl, hx, hl, hxs, hel⟩ := DataW.trod_array ht h
  simp only [Prod.mk.injEq, DataW.agg.injEq] at hx
  refine List.ext_getElem? fun i => ?_
  by_cases hi : i < n
  · have h1 := hel i hi
    rw [hc, Nat.mul_one] at h1
    have hxi : xs[i]? = some xs[i] := List.getElem?_eq_getElem (by omega)
    rw [hxi] at h1
    obtain ⟨z, hz, he', _⟩ := DataW.trod_int he h1
    have h2 : (xs.map (·.1))[i]? = some (.lit (.int k z)) := by rw [List.getElem?_map, hxi, he']; rfl
    rw [← hx.1, List.getElem?_map] at h2
    obtain ⟨y, hy, hyz⟩ := Option.map_eq_some_iff.1 h2
    cases hyz
    rw [List.getElem?_map, hy]
    have h3 := congrArg (·[0]?) hz
    simpa [List.getElem?_take, List.getElem?_drop] using h3
  · rw [List.getElem?_eq_none (by rw [hl, hct]; omega), List.getElem?_eq_none (by simp; omega)]
end
def C0 (W : World) : Cx := { fx := fun b o v => W.cell? ⟨b, o, none⟩ = some v, bk := fun _ => none, own := fun _ => none, hd := fun _ => none, mine := fun _ => False, f0 := fun b o v => W.cell? ⟨b, o, none⟩ = some v }
def Told [Globals] (W : World) : Prop := (∀ g cs, Globals.tab g = some cs → ∃ c t fr, W.heap[g]? = some (.cells c t fr) ∧ c.size = cs.length) ∧ ∀ g cs (j : Nat) x, Globals.tab g = some cs → cs[j]? = some x → ∃ u, W.cell? ⟨g, j, none⟩ = some u ∧ ∀ D : Cx, (∀ b o v, W.cell? ⟨b, o, none⟩ = some v → D.fx b o v) → VR D x u
theorem rel_start [Globals] {W : World} (h : Told W) : Rel (C0 W) ⟨[], 0, []⟩ W W :=
  ⟨.refl _ _, fun _ _ _ h => h, fun r x hx => by simp at hx, fun _ _ => ⟨rfl, rfl⟩, fun r b hb => by simp [blkOf, C0] at hb, fun r r' b hb _ => by simp [blkOf, C0] at hb,
    fun r b o v hb _ => (by cases hb), fun r I b sz o v hI _ _ => (by cases hI), fun b o v h => .inl h, h.2, fun g cs hg => ⟨fun h => h, h.1 g cs hg⟩⟩
theorem heap_of_var {P : Program} {W : World} {g : Nat} {n : String} {cs : Array Value} (hg : P.globalNamed n = some g) (hv : W.var? P n = some cs) : ∃ t fr, W.heap[g]? = some (.cells cs t fr) := by
  unfold World.var? at hv
  rw [hg] at hv
  simp only [Option.bind_some] at hv
  split at hv
  · rename_i c t fr ho
    cases hv
    exact ⟨_, _, ho⟩
  · cases hv
theorem told_cells [Globals] {W : World} {g : Nat} {l : List Value} (hv : ∀ j, W.cell? ⟨g, j, none⟩ = l[j]?) {cs : List GV} (hl : cs.length = l.length)
    (h : ∀ (j : Nat) x u, cs[j]? = some x → l[j]? = some u → ∀ D : Cx, (∀ b o v, W.cell? ⟨b, o, none⟩ = some v → D.fx b o v) → VR D x u) :
    ∀ (j : Nat) x, cs[j]? = some x → ∃ u, W.cell? ⟨g, j, none⟩ = some u ∧ ∀ D : Cx, (∀ b o v, W.cell? ⟨b, o, none⟩ = some v → D.fx b o v) → VR D x u := fun j x hx => by
  have hj : j < l.length := by rw [← hl]; exact (List.getElem?_eq_some_iff.1 hx).1
  exact ⟨l[j], by rw [hv, List.getElem?_eq_getElem hj], h j x _ hx (List.getElem?_eq_getElem hj)⟩
theorem kept_below {W W' : World} {m : Nat → Prop} {may : MemPlace → Prop} (hm : ∀ k, ¬ m k) (h : Base m W W') : W.keptBut W' may := by
  refine ⟨h.os, h.output, fun i hi => ?_⟩
  rw [h.block i hi (hm i)]
  cases ho : W.heap[i]? with
  | none => rfl
  | some o => cases o <;> first | rfl | exact ⟨rfl, rfl, rfl, fun _ _ => rfl⟩ | exact .inr ⟨rfl, rfl⟩
end Go.Proofs.YtcbknpdjdlgljaaGreatDoor
namespace Go.Proofs.YtcbknpdjdlgljaaGreatDoor
open Go Go.ChangeShapes Go.WideShapes Go.RowKit
set_option maxRecDepth 100000
theorem own : ownKnob Tryz.prog.godebug = none := by kernel_rfl
theorem star : "*" ++ "errors.errorString" = "*errors.errorString" := by decide
theorem rowErr (u : TypeId) (h : Tryz.prog.typeName? 3 u = some "*errors.errorString") : u = 311 :=
  typeName_ptr_named (nm := "errors.errorString") (by rw [star]; kernel_rfl) (by kernel_rfl) (by decide) u (by rw [star]; exact h)
theorem und_err : Tryz.prog.underlying 76 = some (.interface #[("Error", 145)]) := by kernel_rfl
theorem und_ptr : Tryz.prog.underlying 311 = some (.pointer 313) := by kernel_rfl
theorem und_est : Tryz.prog.underlying 313 = some (.struct #[{ name := "s", type := 9, offset := 0, embedded := false, tag := "", pkgPath := "errors", byteOffset := 0 }]) := by kernel_rfl
theorem und_str : Tryz.prog.underlying 9 = some .string := by kernel_rfl
theorem und_bool : Tryz.prog.underlying 4 = some .bool := by kernel_rfl
theorem told_err [MaxL] {W : World} {g : Nat} {n : String} {t f : Nat} {cs : Array Value} {s : List UInt8} {p : List MemPlace} (hg : Tryz.prog.globalNamed n = some g) (hv : W.var? Tryz.prog n = some cs)
    (ht : t = 76)
    (h : DataW.trod (fun _ => ()) Tryz.prog W 0 (fun _ => true) false f t cs.toList = some (.iface "*errors.errorString" (.ptr (.agg [.lit (.string s)])), p))
    (hok : ∀ u v, cs.toList = [.iface u v] → Value.okWide Tryz.prog W .any 0 u v) :
    cs.size = 1 ∧ ∀ (j : Nat) x, ([.ifc 311 (.snap [.s s] 0)] : List GV)[j]? = some x → ∃ u, W.cell? ⟨g, j, none⟩ = some u ∧ ∀ D : Cx, (∀ b o v, W.cell? ⟨b, o, none⟩ = some v → D.fx b o v) → VR D x u := by
  subst ht
  obtain ⟨a, b, e, hc, hb, _, _⟩ := errorString_of_trod und_err rowErr und_ptr und_est rfl rfl und_str (by kernel_rfl) (by kernel_rfl) h hok
  refine ⟨by have := congrArg List.length e; simpa using this, ?_⟩
  refine told_cells (l := cs.toList) (fun j => by rw [World.var?_cell hg hv j]; simp) (by rw [e]; rfl) fun j x u hx hu D hD => ?_
  rw [e] at hu
  have hj : j = 0 := by
    have := (List.getElem?_eq_some_iff.1 hx).1
    simpa using this
  subst hj
  cases hx; cases hu
  obtain ⟨ab, ao, asp⟩ := a
  have hsp : asp = none := by
    unfold World.cell? at hc
    split at hc
    · simp only at hc
      split at hc
      · cases hc
      · rename_i h0; simpa using h0
    · cases hc
  subst hsp
  refine .ifc ?_
  have := VR.snap (C := D) (cs := [.s s]) (off := 0) ab ao (fun _ => .string b) (fun j g hj => ?_) (fun j g hj => ?_)
  · simpa using this
  · have hj0 : j = 0 := by
      have := (List.getElem?_eq_some_iff.1 hj).1
      simpa using this
    subst hj0
    exact hD _ _ _ (by simpa using hc)
  · have hj0 : j = 0 := by
      have := (List.getElem?_eq_some_iff.1 hj).1
      simpa using this
    subst hj0
    cases hj
    have : b = ⟨s.toArray⟩ := by rw [← hb]
    rw [this]
    exact .s s
theorem told_ints [MaxL] {W : World} {g n e : Nat} {k : IntKind} {nm : String} {t f : Nat} {cs : Array Value} {p : List MemPlace} (l : List Int) (hg : Tryz.prog.globalNamed nm = some g) (hv : W.var? Tryz.prog nm = some cs)
    (ht : Tryz.prog.underlying t = some (.array n e)) (he : Tryz.prog.underlying e = some (.int k)) (hc : Tryz.prog.cellsOf e = 1) (hn : l.length = n) (hct : Tryz.prog.cellsOf t = n)
    (h : DataW.trod (fun _ => ()) Tryz.prog W 0 (fun _ => true) false f t cs.toList = some (.agg (l.map fun x => .lit (.int k x)), p)) :
    cs.size = l.length ∧ ∀ (j : Nat) x, (l.map (GV.i k))[j]? = some x → ∃ u, W.cell? ⟨g, j, none⟩ = some u ∧ ∀ D : Cx, (∀ b o v, W.cell? ⟨b, o, none⟩ = some v → D.fx b o v) → VR D x u := by
  have hcs := ints_of_trod l ht he hc hn hct h
  refine ⟨by have := congrArg List.length hcs; simpa using this, ?_⟩
  refine told_cells (l := cs.toList) (fun j => by rw [World.var?_cell hg hv j]; simp) (by rw [hcs]; simp) fun j x u hx hu D hD => ?_
  rw [hcs, List.getElem?_map] at hu
  rw [List.getElem?_map] at hx
  obtain ⟨z, hz, rfl⟩ := Option.map_eq_some_iff.1 hx
  rw [hz] at hu
  cases hu
  exact .i k z
end Go.Proofs.YtcbknpdjdlgljaaGreatDoor
namespace Go.Proofs.YtcbknpdjdlgljaaGreatDoor
open Go Go.ChangeShapes Go.WideShapes Go.RowKit
set_option maxRecDepth 100000
set_option linter.unusedVariables false
theorem one_le {H : Type} (d : DataW H) : 1 ≤ Rows.uptoBulk d := by
  cases d with
  | lit l => cases l <;> simp [Rows.uptoBulk]
  | nil => simp [Rows.uptoBulk]
  | ptr d => simp [Rows.uptoBulk]
  | slice elems spare => simp [Rows.uptoBulk]
  | agg parts => simp [Rows.uptoBulk]
  | iface t d => simp [Rows.uptoBulk]
  | map entries => simp [Rows.uptoBulk]
  | held h => simp [Rows.uptoBulk]
theorem part_le {H : Type} {d : DataW H} {l : List (DataW H)} (h : d ∈ l) : Rows.uptoBulk d ≤ Rows.uptoBulkAll l := by
  induction l with
  | nil => cases h
  | cons x r ih =>
    simp only [Rows.uptoBulkAll]
    cases List.mem_cons.1 h with
    | inl e => subst e; omega
    | inr e => have := ih e; omega
theorem length_le {H : Type} (l : List (DataW H)) : l.length ≤ Rows.uptoBulkAll l := by
  induction l with
  | nil => simp [Rows.uptoBulkAll]
  | cons x r ih => have := one_le x; simp only [Rows.uptoBulkAll, List.length_cons]; omega
def Bk {H : Type} (d : DataW H) : Prop := Rows.uptoBulk d ≤ 1048576
theorem bk_part {H : Type} {xs : List (DataW H × List MemPlace)} (hw : Bk (.agg (xs.map (·.1)))) {i : Nat} {y : DataW H × List MemPlace} (hy : xs[i]? = some y) : Bk y.1 := by
  have h8 := part_le (H := H) (List.mem_map_of_mem (f := (·.1)) (List.mem_of_getElem? hy))
  unfold Bk at hw ⊢
  simp only [Rows.uptoBulk] at hw
  omega
theorem list_of {α : Type} {Q : Nat → α → Prop} : ∀ n, (∀ i, i < n → ∃ a, Q i a) → ∃ l : List α, l.length = n ∧ ∀ i a, l[i]? = some a → Q i a
  | 0, _ => ⟨[], rfl, fun i a h => by simp at h⟩
  | n + 1, h => by
    obtain ⟨l, hl, hq⟩ := list_of n (fun i hi => h i (by omega))
    obtain ⟨a, ha⟩ := h n (by omega)
    refine ⟨l ++ [a], by simp [hl], fun i b hb => ?_⟩
    rcases Nat.lt_trichotomy i n with hi | rfl | hi
    · rw [List.getElem?_append_left (by omega)] at hb; exact hq i b hb
    · rw [List.getElem?_append_right (by omega), hl] at hb; simp at hb; subst hb; exact ha
    · rw [List.getElem?_eq_none (by simp; omega)] at hb; cases hb
theorem add_plain (b off n : Nat) : (⟨b, off, none⟩ : Addr).add n = ⟨b, off + n, none⟩ := by
  unfold Addr.add
  split
  · rename_i h; subst h; rfl
  · rfl
theorem cell_spot {W : World} {a : Addr} {u : Value} (h : W.cell? a = some u) : a.spot = none := by
  obtain ⟨ab, ao, asp⟩ := a
  unfold World.cell? at h
  split at h
  · simp only at h
    split at h
    · cases h
    · rename_i h0; simpa using h0
  · cases h
theorem spot_of {W : World} {base : Nat} {a : Addr} {n : Nat} {l : List Value} (h : W.cells? base (a.add 0) (n + 1) = some l) : a.spot = none := by
  obtain ⟨_, hn, hh⟩ := World.cells?_some h
  have h0 := hh 0 (Nat.succ_pos n)
  have hl : l[0]? = some (l[0]'(by omega)) := List.getElem?_eq_getElem (by omega)
  rw [hl] at h0
  exact cell_spot (show W.cell? a = _ from h0)
section
variable {H : Type} {enc : TypeId × Value → H} {P : Program} {W : World} {held : Bool}
theorem slice_any [MaxL] {α : Type} (Q : α → Prop) (gv : α → GV) {t e : TypeId} {cs : List Value} {fuel : Nat} {x : DataW H × List MemPlace}
    (ht : P.underlying t = some (.slice e)) {esz : Nat} (hc : P.cellsOf e = esz + 1)
    (elem : ∀ (n : Nat) cs x, DataW.trod enc P W 0 (fun _ => true) held n e cs = some x → Bk x.1 → ∃ a : α, Q a ∧ cs.length = esz + 1 ∧ ∀ (j : Nat) g u, (gv a).cells[j]? = some g → cs[j]? = some u → VR (C0 W) g u)
    (hg : ∀ a, (gv a).cells.length = esz + 1)
    (hd : DataW.trod enc P W 0 (fun _ => true) held fuel t cs = some x) (hw : Bk x.1) :
    ∃ l : List α, l.length ≤ 1048576 ∧ (∀ a ∈ l, Q a) ∧ ∃ v, cs = [v] ∧ VR (C0 W) (.sl .none (l.map gv)) v := by
  rcases DataW.trod_slice ht hd with ⟨hcs, _⟩ | ⟨a, len, cap, elems, rest, n, _, hcs, hx, hb, hl, hm, hlen, hel, hsp, _⟩
  · exact ⟨[], Nat.zero_le _, (fun a ha => by cases ha), _, hcs, .sl 0 0 0 (fun _ => .bool false) rfl (Nat.le_refl _) (.inl ⟨rfl, rfl⟩) (by simp) (by simp) (by simp) trivial⟩
  · have hspot : cap = 0 ∨ a.spot = none := by
      by_cases h0 : cap = 0
      · exact .inl h0
      · right
        by_cases h1 : 0 < len
        · have h2 := hel 0 h1
          have hy : elems[0]? = some (elems[0]'(by omega)) := List.getElem?_eq_getElem (by omega)
          rw [hy, Option.bind_eq_some_iff, hc] at h2
          obtain ⟨cs', h3, _⟩ := h2
          rw [Nat.zero_mul] at h3
          exact spot_of h3
        · obtain ⟨hr1, hr2⟩ := hsp rfl
          have h2 := hr2 0 (by omega)
          have hy : rest[0]? = some (rest[0]'(by omega)) := List.getElem?_eq_getElem (by omega)
          rw [hy, Option.bind_eq_some_iff, hc] at h2
          obtain ⟨cs', h3, _⟩ := h2
          rw [show len + 0 = 0 by omega, Nat.zero_mul] at h3
          exact spot_of h3
    obtain ⟨b, off, spot⟩ := a
    obtain ⟨l, hll, hq⟩ := list_of (Q := fun i (y : α) => Q y ∧ ∃ cs', W.cells? 0 ((⟨b, off, spot⟩ : Addr).add (i * (esz + 1))) (esz + 1) = some cs' ∧ cs'.length = esz + 1 ∧ ∀ (j : Nat) g u, (gv y).cells[j]? = some g → cs'[j]? = some u → VR (C0 W) g u) len (fun i hi => by
      have h1 := hel i hi
      have hy : elems[i]? = some (elems[i]'(by omega)) := List.getElem?_eq_getElem (by omega)
      rw [hy, Option.bind_eq_some_iff, hc] at h1
      obtain ⟨cs', h1, h2⟩ := h1
      have hw2 : Bk (elems[i]'(by omega)).1 := by
        rw [hx] at hw
        have h8 := part_le (H := H) (List.mem_map_of_mem (f := (·.1)) (List.getElem_mem (by omega : i < elems.length)))
        unfold Bk at hw ⊢
        simp only [Rows.uptoBulk] at hw
        omega
      obtain ⟨y, hQ, hcl, hvr⟩ := elem _ _ _ h2 hw2
      exact ⟨y, hQ, cs', h1, hcl, hvr⟩)
    have hbl : l.length ≤ 1048576 := by
      rw [hx] at hw
      have h8 := length_le (H := H) (elems.map (·.1))
      unfold Bk at hw
      simp only [Rows.uptoBulk] at hw
      rw [List.length_map] at h8
      omega
    refine ⟨l, hbl, fun y hy => ?_, _, hcs, ?_⟩
    · obtain ⟨i, hi⟩ := List.mem_iff_getElem?.1 hy
      exact (hq i y hi).1
    have hcell : ∀ (i : Nat) y (j : Nat) g, l[i]? = some y → (gv y).cells[j]? = some g → ∃ u, W.cell? ⟨b, off + i * (esz + 1) + j, none⟩ = some u ∧ VR (C0 W) g u := fun i y j g hi hj => by
      obtain ⟨_, cs', h1, h2, h3⟩ := hq i y hi
      have hilt : i < l.length := (List.getElem?_eq_some_iff.1 hi).1
      have hs : spot = none := by
        rcases hspot with q | q
        · omega
        · exact q
      subst hs
      have hjl : j < esz + 1 := by rw [← hg y]; exact (List.getElem?_eq_some_iff.1 hj).1
      have hu : cs'[j]? = some (cs'[j]'(by omega)) := List.getElem?_eq_getElem (by omega)
      obtain ⟨_, hn, hh⟩ := World.cells?_some h1
      have := hh j hjl
      rw [add_plain, add_plain, hu] at this
      exact ⟨_, this, h3 j g _ hj hu⟩
    refine .sl (esz + 1) b off (fun k => (W.cell? ⟨b, off + k, none⟩).getD (.bool false)) (by simp [hll]) hl ?_ (fun x hx => ?_) (fun i x j g hx hj => ?_) (fun i x j g hx hj => ?_) trivial
    · rcases hspot with q | q
      · exact .inr (.inr q)
      · simp only at q; subst q; exact .inr (.inl rfl)
    · obtain ⟨y, _, rfl⟩ := List.mem_map.1 hx
      exact hg y
    all_goals
      rw [List.getElem?_map] at hx
      obtain ⟨y, hy, rfl⟩ := Option.map_eq_some_iff.1 hx
      obtain ⟨u, h1, h2⟩ := hcell i y j g hy hj
      rw [← Nat.add_assoc, h1, Option.getD_some]
    · exact h1
    · exact h2
end
section
variable {H : Type} {enc : TypeId × Value → H} {P : Program} {W : World} {held : Bool}
def Op [MaxL] (enc : TypeId × Value → H) (P : Program) (W : World) (held : Bool) (t : TypeId) {α : Type} (Q : α → Prop) (gc : α → List GV) : Prop :=
  ∀ (n : Nat) cs (x : DataW H × List MemPlace), DataW.trod enc P W 0 (fun _ => true) held n t cs = some x → Bk x.1 → ∃ a, Q a ∧ VRs (C0 W) (gc a) cs
theorem Op.slice [MaxL] {α : Type} {Q : α → Prop} {gc : α → List GV} {t e : TypeId} (ht : P.underlying t = some (.slice e)) {esz : Nat} (hc : P.cellsOf e = esz + 1) (hg : ∀ a, (gc a).length = esz + 1) (h : Op enc P W held e Q gc) (gv : α → GV) (hv : ∀ a, (gv a).cells = gc a) :
    Op enc P W held t (fun l : List α => l.length ≤ 1048576 ∧ ∀ a ∈ l, Q a) (fun l => [.sl .none (l.map gv)]) := fun n cs x hd hw => by
  obtain ⟨l, hle, hq, v, rfl, hr⟩ := slice_any Q gv ht hc (fun n cs x h1 h2 => by
    obtain ⟨a, h3, h4, h5⟩ := h n cs x h1 h2
    exact ⟨a, h3, by rw [h4, hg], by rw [hv]; exact h5⟩) (fun a => by rw [hv, hg]) hd hw
  exact ⟨l, ⟨hle, hq⟩, .cons hr .nil⟩
theorem fld [MaxL] {t : TypeId} {fs : Array Field} {xs : List (DataW H × List MemPlace)} {m : Nat} {cs : List Value} (hu : P.underlying t = some (.struct fs)) (hw : Bk (.agg (xs.map (·.1)))) (hxs : xs.length = fs.size)
    (hf : ∀ (i : Nat) f, fs[i]? = some f → DataW.trod enc P W 0 (fun _ => true) held m f.type ((cs.drop f.offset).take (P.cellsOf f.type)) = xs[i]?) {i : Nat} {f : Field} {c : Value} {α : Type} {Q : α → Prop} {gc : α → List GV} (hfi : fs[i]? = some f) (ho : f.offset = i) (h1 : P.cellsOf f.type = 1) (hc : cs[i]? = some c)
    (h : Op enc P W held f.type Q gc) : ∃ a, Q a ∧ VRs (C0 W) (gc a) [c] := by
  have h2 := hf i f hfi
  have hi : i < xs.length := by rw [hxs]; exact (Array.getElem?_eq_some_iff.1 hfi).1
  have hy : xs[i]? = some xs[i] := List.getElem?_eq_getElem hi
  rw [ho, h1, hy] at h2
  have e : (cs.drop i).take 1 = [c] := by
    obtain ⟨h3, h4⟩ := List.getElem?_eq_some_iff.1 hc
    rw [List.drop_eq_getElem_cons h3, h4]; rfl
  rw [e] at h2
  exact h _ _ _ h2 (bk_part hw hy)
end
theorem VRs.one [MaxL] {C : Cx} {g : GV} {v : Value} {gs : List GV} {vs : List Value} (a : VRs C [g] [v]) (b : VRs C gs vs) : VRs C (g :: gs) (v :: vs) := .cons (a.2 0 g v rfl rfl) b
theorem und_int : Tryz.prog.underlying 3 = some (.int .i64) := by kernel_rfl
section
variable [MaxL] {H : Type} {enc : TypeId × Value → H} {W : World} {held : Bool}
theorem op_int [MaxL] : Op enc Tryz.prog W held 3 (fun k : Int => inR k) (fun k => [.i .i64 k]) := fun n cs x h hw => by
  obtain ⟨z, rfl, _, hz⟩ := DataW.trod_int und_int h
  exact ⟨z, by
    have : (Lit.int .i64 z).wf = true := hz
    unfold Lit.wf at this
    simp at this
    have e1 : IntKind.i64.min = -9223372036854775808 := rfl
    have e2 : IntKind.i64.max = 9223372036854775807 := rfl
    exact ⟨by omega, by omega⟩, .cons (.i _ _) .nil⟩
theorem op_ints [MaxL] : Op enc Tryz.prog W held 22 (fun l : List Int => l.length ≤ 1048576 ∧ ∀ a ∈ l, inR a) (fun l => [.sl .none (l.map (GV.i .i64))]) := Op.slice (by kernel_rfl) (esz := 0) (by kernel_rfl) (fun _ => rfl) op_int (GV.i .i64) (fun _ => rfl)
theorem und_sp : Tryz.prog.underlying 67 = some (.struct #[{ name := "State", type := 3, offset := 0, embedded := false, tag := "", pkgPath := "", byteOffset := 0 }, { name := "Owner", type := 3, offset := 1, embedded := false, tag := "", pkgPath := "", byteOffset := 8 }, { name := "Key", type := 3, offset := 2, embedded := false, tag := "", pkgPath := "", byteOffset := 16 }, { name := "Before", type := 3, offset := 3, embedded := false, tag := "", pkgPath := "", byteOffset := 24 }, { name := "After", type := 3, offset := 4, embedded := false, tag := "", pkgPath := "", byteOffset := 32 }]) := by kernel_rfl
def spC (p : Sp) : List GV := [.i .i64 p.st, .i .i64 p.ow, .i .i64 p.ky, .i .i64 p.be, .i .i64 p.af]
theorem op_sp [MaxL] : Op enc Tryz.prog W held 67 (fun p : Sp => p.ok) spC := fun n cs x h hw => by
  obtain ⟨xs, m, _, rfl, hlen, hxs, hf⟩ := DataW.trod_struct und_sp h
  rw [show Tryz.prog.cellsOf 67 = 5 by kernel_rfl] at hlen
  match cs, hlen with
  | [c0, c1, c2, c3, c4], _ =>
  obtain ⟨a0, q0, v0⟩ := fld und_sp hw hxs hf (i := 0) rfl rfl (by kernel_rfl) rfl op_int
  obtain ⟨a1, q1, v1⟩ := fld und_sp hw hxs hf (i := 1) rfl rfl (by kernel_rfl) rfl op_int
  obtain ⟨a2, q2, v2⟩ := fld und_sp hw hxs hf (i := 2) rfl rfl (by kernel_rfl) rfl op_int
  obtain ⟨a3, q3, v3⟩ := fld und_sp hw hxs hf (i := 3) rfl rfl (by kernel_rfl) rfl op_int
  obtain ⟨a4, q4, v4⟩ := fld und_sp hw hxs hf (i := 4) rfl rfl (by kernel_rfl) rfl op_int
  exact ⟨⟨a0, a1, a2, a3, a4⟩, ⟨q0, q1, q2, q3, q4⟩, .one v0 (.one v1 (.one v2 (.one v3 (.one v4 .nil))))⟩
theorem op_sps [MaxL] : Op enc Tryz.prog W held 23 (fun l : List Sp => l.length ≤ 1048576 ∧ ∀ a ∈ l, a.ok) (fun l => [.sl .none (l.map spG)]) := Op.slice (by kernel_rfl) (esz := 4) (by kernel_rfl) (fun _ => rfl) op_sp spG (fun _ => rfl)
theorem und_nw : Tryz.prog.underlying 25 = some (.struct #[{ name := "Unit", type := 3, offset := 0, embedded := false, tag := "", pkgPath := "", byteOffset := 0 }, { name := "Records", type := 22, offset := 1, embedded := false, tag := "", pkgPath := "", byteOffset := 8 }, { name := "Sets", type := 23, offset := 2, embedded := false, tag := "", pkgPath := "", byteOffset := 32 }, { name := "Areas", type := 22, offset := 3, embedded := false, tag := "", pkgPath := "", byteOffset := 56 }]) := by kernel_rfl
def nwC (n : Nw) : List GV := [.i .i64 n.u, .sl .none (intsG n.rs), .sl .none (spsG n.ss), .sl .none (intsG n.ar)]
theorem op_nw [MaxL] : Op enc Tryz.prog W held 25 (fun n : Nw => n.ok) nwC := fun n cs x h hw => by
  obtain ⟨xs, m, _, rfl, hlen, hxs, hf⟩ := DataW.trod_struct und_nw h
  rw [show Tryz.prog.cellsOf 25 = 4 by kernel_rfl] at hlen
  match cs, hlen with
  | [c0, c1, c2, c3], _ =>
  obtain ⟨a0, q0, v0⟩ := fld und_nw hw hxs hf (i := 0) rfl rfl (by kernel_rfl) rfl op_int
  obtain ⟨a1, q1, v1⟩ := fld und_nw hw hxs hf (i := 1) rfl rfl (by kernel_rfl) rfl op_ints
  obtain ⟨a2, q2, v2⟩ := fld und_nw hw hxs hf (i := 2) rfl rfl (by kernel_rfl) rfl op_sps
  obtain ⟨a3, q3, v3⟩ := fld und_nw hw hxs hf (i := 3) rfl rfl (by kernel_rfl) rfl op_ints
  exact ⟨⟨a0, a1, a2, a3⟩, ⟨q0, q1.2, q2.2, q3.2, q1.1, q2.1, q3.1⟩, .one v0 (.one v1 (.one v2 (.one v3 .nil)))⟩
variable {r : Reach} {b0 : Nat} {v : Value} {d : DataW H} {ps : List MemPlace}
theorem now_up [MaxL] (hval : Value.okWide Tryz.prog W r b0 25 v) (hd : DataW.Trod enc Tryz.prog W 0 (fun _ => true) held 25 v d ps) (hw : Bk d) : ∃ n : Nw, n.ok ∧ VR (C0 W) (nowG n) v := by
  have hag : ∃ cs, v = .agg cs := by
    unfold Value.okWide at hval
    rw [und_nw] at hval
    obtain ⟨cs, h, _⟩ := hval
    exact ⟨cs, h⟩
  obtain ⟨cs, rfl⟩ := hag
  obtain ⟨fuel, hf⟩ := hd
  obtain ⟨n, hn, hv⟩ := op_nw fuel _ _ hf hw
  have hv' : VRs (C0 W) (nwC n) cs.toList := hv
  exact ⟨n, hn, .agg (by simpa [nwC] using hv'.1) fun j g u h1 h2 => hv'.2 j g u h1 (by simpa using h2)⟩
end
end Go.Proofs.YtcbknpdjdlgljaaGreatDoor
