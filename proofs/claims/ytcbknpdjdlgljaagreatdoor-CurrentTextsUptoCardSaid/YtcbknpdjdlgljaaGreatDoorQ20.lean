/-
  The text of every currencies, and what every text is read as.
-/
import Derived.Test.YtcbknpdjdlgljaaGreatDoorQ19
import Derived.Lib.AtoiAllCases
import Derived.Lib.Index
import Derived.Lib.IndexMore
import Derived.Laws.Rows
import Derived.Lib.SplitLaws
import Derived.Test.YtcbknpdjdlgljaaGreatDoorQ15
set_option linter.all false
namespace Go.Proofs.YtcbknpdjdlgljaaGreatDoor
open Go.RowKit
set_option maxRecDepth 100000
set_option linter.unusedVariables false
theorem join_snoc (sep x : By) : ∀ (l : List By), l ≠ [] → Lib.join (l ++ [x]) sep = Lib.join l sep ++ sep ++ x
  | [], h => absurd rfl h
  | [y], _ => by rw [List.cons_append, List.nil_append, join_cons2, join_one, join_one]
  | y :: z :: l, _ => by
    have := join_snoc sep x (z :: l) (by simp)
    rw [List.cons_append, List.cons_append, join_cons2, join_cons2, ← List.cons_append, this]; simp
theorem nums1 (sep : By) (a : Int) : numsW sep [a] = Lib.itoa a := join_one _ _
theorem nums2 (sep : By) (a b : Int) : numsW sep [a, b] = Lib.itoa a ++ sep ++ Lib.itoa b := by
  show Lib.join [Lib.itoa a, Lib.itoa b] sep = _
  rw [join_cons2, join_one]
theorem nums3 (sep : By) (a b c : Int) : numsW sep [a, b, c] = Lib.itoa a ++ sep ++ (Lib.itoa b ++ sep ++ Lib.itoa c) := by
  show Lib.join [Lib.itoa a, Lib.itoa b, Lib.itoa c] sep = _
  rw [join_cons2, join_cons2, join_one]
theorem r_written [MaxL] (p : Sp) (h : p.ok) : SC Tryz.prog 21 [spG p] [] (.val (.s (wrS p))) [] := by
  have l1 := itoa_len h.ow
  have l2 := itoa_len h.ky
  have l3 := itoa_len h.be
  have l4 := itoa_len h.af
  have d1 := r_Digits p.ow h.ow.1 h.ow.2
  have d2 := r_Digits p.ky h.ky.1 h.ky.2
  have d3 := r_Digits p.be h.be.1 h.be.2
  have d4 := r_Digits p.af h.af.1 h.af.2
  have wr : wrS p = if p.st = 1 then [111, 58] ++ Lib.itoa p.ow else if p.st = 2 then [109, 58] ++ Lib.itoa p.ow ++ [58] ++ Lib.itoa p.ky else if p.st = 3 then [103, 58] ++ Lib.itoa p.ow ++ [58] ++ Lib.itoa p.be ++ [58] ++ Lib.itoa p.af else [45] := by
    unfold wrS; rw [nums1, nums2, nums3]; simp
  rw [wr]
  refine SC.of_gwp noM mixed Tryz.func21 rfl (Nat.le_of_ble_eq_true rfl) (by first | exact Nat.le_refl _ | simp) rfl ?_
  conv => whnf
  refine GIf.mk (fun e => ?_) (fun e => ?_) <;> conv => whnf
  · rw [if_pos (by simpa using e)]
    refine cP d1 ?_
    conv => whnf
    refine ⟨by simp only [List.length_cons, List.length_nil]; show _ < 4611686018427387904; omega, _, rfl, ?_⟩
    conv => whnf
    exact fin 0
  rw [if_neg (by simpa using e)]
  refine GIf.mk (fun e => ?_) (fun e => ?_) <;> conv => whnf
  · rw [if_pos (by simpa using e)]
    refine GDraw.calm (by kernel_rfl) ?_
    conv => whnf
    refine cP d1 ?_
    conv => whnf
    refine ⟨by simp only [List.length_cons, List.length_nil]; show _ < 4611686018427387904; omega, _, rfl, ?_⟩
    conv => whnf
    refine ⟨by simp only [List.length_cons, List.length_nil, List.length_append]; show _ < 4611686018427387904; omega, _, rfl, ?_⟩
    conv => whnf
    refine cP d2 ?_
    conv => whnf
    refine ⟨by simp only [List.length_cons, List.length_nil, List.length_append]; show _ < 4611686018427387904; omega, _, rfl, ?_⟩
    conv => whnf
    exact fin 0
  rw [if_neg (by simpa using e)]
  refine GIf.mk (fun e => ?_) (fun e => ?_) <;> conv => whnf
  · rw [if_pos (by simpa using e)]
    refine GDraw.calm (by kernel_rfl) ?_
    conv => whnf
    refine cP d1 ?_
    conv => whnf
    refine ⟨by simp only [List.length_cons, List.length_nil]; show _ < 4611686018427387904; omega, _, rfl, ?_⟩
    conv => whnf
    refine ⟨by simp only [List.length_cons, List.length_nil, List.length_append]; show _ < 4611686018427387904; omega, _, rfl, ?_⟩
    conv => whnf
    refine cP d3 ?_
    conv => whnf
    refine ⟨by simp only [List.length_cons, List.length_nil, List.length_append]; show _ < 4611686018427387904; omega, _, rfl, ?_⟩
    conv => whnf
    refine ⟨by simp only [List.length_cons, List.length_nil, List.length_append]; show _ < 4611686018427387904; omega, _, rfl, ?_⟩
    conv => whnf
    refine cP d4 ?_
    conv => whnf
    refine ⟨by simp only [List.length_cons, List.length_nil, List.length_append]; show _ < 4611686018427387904; omega, _, rfl, ?_⟩
    conv => whnf
    exact fin 0
  rw [if_neg (by simpa using e)]
  exact fin 0
theorem r_list [MaxL] (l : List Int) (hl : l.length ≤ 1048576) (hr : ∀ x ∈ l, inR x) : SC Tryz.prog 23 [.sl .none (intsG l)] [] (.val (.s (numsW [32] l))) [] := by
  refine SC.of_gwp noM mixed Tryz.func23 rfl (Nat.le_of_ble_eq_true rfl) (by first | exact Nat.le_refl _ | simp) rfl ?_
  conv => whnf
  refine GLoop.rng 0 l.length (fun i (s : By) => s = numsW [32] (l.take i)) (fun i s => [(0, .sl .none (intsG l)), (3, .s s), (4, .i .i64 (i : Nat))]) (fun _ _ => []) [] [] rfl (fun i s φ0 hi ho => ?_)
  have hlen := intsG_len l
  have hsl : s.length ≤ 23068672 := by
    rw [ho]
    have := nums_len (sep := [32]) (by simp) (l := l.take i) (fun x hx => hr x (List.mem_of_mem_take hx))
    rw [List.length_take] at this
    have : min i l.length ≤ 1048576 := by omega
    omega
  conv => whnf
  refine GIf.mk (fun h => ?_) (fun h => ?_) <;> conv => whnf
  rotate_left
  · have : i = l.length := by have := of_decide_eq_false h; omega
    rw [show numsW [32] l = s by rw [ho, this, List.take_length]]
    exact fin 0
  have hlt : i < l.length := by have := of_decide_eq_true h; omega
  refine (ex_at hlt).elim fun x hx => ?_
  have hxr := hr x (List.mem_of_getElem? hx)
  have hxl := itoa_len hxr
  have htk : l.take (i + 1) = l.take i ++ [x] := by rw [List.take_add_one, hx]; rfl
  refine GIf.mk (fun h0 => ?_) (fun h0 => ?_) <;> conv => whnf
  · have h0 : 0 < i := by have := of_decide_eq_true h0; omega
    have hne : (l.take i).map Lib.itoa ≠ [] := by
      intro e
      have := congrArg List.length e
      rw [List.length_map, List.length_take, List.length_nil] at this
      omega
    refine ⟨by simp only [List.length_cons, List.length_nil]; show _ < 4611686018427387904; omega, _, rfl, ?_⟩
    conv => whnf
    refine ix (map_at hx) ⟨rfl, ?_⟩
    conv => whnf
    refine cP (r_Digits x hxr.1 hxr.2) ?_
    conv => whnf
    refine ⟨by simp only [List.length_cons, List.length_nil, List.length_append]; show _ < 4611686018427387904; omega, _, rfl, ?_⟩
    conv => whnf
    refine nx (s ++ [32] ++ Lib.itoa x) hlt ⟨hlt, ?_⟩
    show _ = numsW [32] (l.take (i + 1))
    rw [htk]; unfold numsW
    rw [List.map_append, List.map_cons, List.map_nil, join_snoc _ _ _ hne, ho]; rfl
  · have h0 : i = 0 := by have := of_decide_eq_false h0; omega
    refine ix (map_at hx) ⟨rfl, ?_⟩
    conv => whnf
    refine cP (r_Digits x hxr.1 hxr.2) ?_
    conv => whnf
    refine ⟨by show _ < 4611686018427387904; omega, _, rfl, ?_⟩
    conv => whnf
    refine nx (s ++ Lib.itoa x) hlt ⟨hlt, ?_⟩
    show s ++ Lib.itoa x = numsW [32] (l.take (i + 1))
    rw [htk, ho, h0, List.take_zero, List.nil_append, nums1]; rfl
theorem joinS_len {l : List Sp} (h : ∀ p ∈ l, p.ok) : (Lib.join (l.map wrS) [32]).length ≤ l.length * 69 := by
  have := join_bound [32] 68 (by simp) (l.map wrS) (fun x hx => by
    obtain ⟨y, hy, rfl⟩ := List.mem_map.1 hx
    exact wrS_len (h y hy))
  rw [List.length_map] at this
  exact this
theorem r_Format [MaxL] (n : Nw) (h : n.ok) : SC Tryz.prog 6 [nowG n] [] (.val (.s (fmtN n))) [] := by
  have hu := itoa_len h.u
  have h1 := nums_len (sep := [32]) (by simp) h.rs
  have h2 := nums_len (sep := [32]) (by simp) h.ar
  have b1 := h.lr
  have b2 := h.ls
  have b3 := h.la
  refine SC.of_gwp noM mixed Tryz.func6 rfl (Nat.le_of_ble_eq_true rfl) (by first | exact Nat.le_refl _ | simp) rfl ?_
  conv => whnf
  refine GLoop.rng 1 n.ss.length (fun i (s : By) => s = Lib.join ((n.ss.take i).map wrS) [32]) (fun i s => [(1, .ptr 0 0), (3, .s s), (4, .i .i64 (i : Nat))]) (fun _ _ => [.box 25 [.i .i64 n.u, .sl .none (intsG n.rs), .sl .none (spsG n.ss), .sl .none (intsG n.ar)]]) [] [] rfl (fun i s φ0 hi ho => ?_)
  have hlen := spsG_len n.ss
  have hsl : s.length ≤ 72351744 := by
    rw [ho]
    have := joinS_len (l := n.ss.take i) (fun p hp => h.ss p (List.mem_of_mem_take hp))
    rw [List.length_take] at this
    have : min i n.ss.length ≤ 1048576 := by omega
    omega
  conv => whnf
  have h' := h
  refine GIf.mk (fun h => ?_) (fun h => ?_) <;> conv => whnf
  rotate_left
  · have : i = n.ss.length := by have := of_decide_eq_false h; omega
    have hs : Lib.join (n.ss.map wrS) [32] = s := by rw [ho, this, List.take_length]
    unfold fmtN
    rw [hs]
    refine GDraw.calm (by kernel_rfl) ?_
    conv => whnf
    refine cP (r_Digits n.u h'.u.1 h'.u.2) ?_
    conv => whnf
    refine ⟨by simp only [List.length_cons, List.length_nil, List.length_append]; show _ < 4611686018427387904; omega, _, rfl, ?_⟩
    conv => whnf
    refine cP (r_list n.rs b1 h'.rs) ?_
    conv => whnf
    refine ⟨by simp only [List.length_cons, List.length_nil, List.length_append]; show _ < 4611686018427387904; omega, _, rfl, ?_⟩
    conv => whnf
    refine ⟨by simp only [List.length_cons, List.length_nil, List.length_append]; show _ < 4611686018427387904; omega, _, rfl, ?_⟩
    conv => whnf
    refine ⟨by simp only [List.length_cons, List.length_nil, List.length_append]; show _ < 4611686018427387904; omega, _, rfl, ?_⟩
    conv => whnf
    refine ⟨by simp only [List.length_cons, List.length_nil, List.length_append]; show _ < 4611686018427387904; omega, _, rfl, ?_⟩
    conv => whnf
    refine cP (r_list n.ar b3 h'.ar) ?_
    conv => whnf
    refine ⟨by simp only [List.length_cons, List.length_nil, List.length_append]; show _ < 4611686018427387904; omega, _, rfl, ?_⟩
    conv => whnf
    exact fin 0
  have hlt : i < n.ss.length := by have := of_decide_eq_true h; omega
  refine (ex_at hlt).elim fun x hx => ?_
  have hxr := h'.ss x (List.mem_of_getElem? hx)
  have hxl := wrS_len hxr
  have htk : n.ss.take (i + 1) = n.ss.take i ++ [x] := by rw [List.take_add_one, hx]; rfl
  refine GIf.mk (fun h0 => ?_) (fun h0 => ?_) <;> conv => whnf
  · have h0 : 0 < i := by have := of_decide_eq_true h0; omega
    have hne : (n.ss.take i).map wrS ≠ [] := by
      intro e
      have := congrArg List.length e
      rw [List.length_map, List.length_take, List.length_nil] at this
      omega
    refine ⟨by simp only [List.length_cons, List.length_nil, List.length_append]; show _ < 4611686018427387904; omega, _, rfl, ?_⟩
    conv => whnf
    refine ix (map_at hx) ⟨rfl, ?_⟩
    conv => whnf
    refine cP (r_written x hxr) ?_
    conv => whnf
    refine ⟨by simp only [List.length_cons, List.length_nil, List.length_append]; show _ < 4611686018427387904; omega, _, rfl, ?_⟩
    conv => whnf
    refine nx (s ++ [32] ++ wrS x) hlt ⟨hlt, ?_⟩
    show s ++ [32] ++ wrS x = Lib.join ((n.ss.take (i + 1)).map wrS) [32]
    rw [htk, List.map_append, List.map_cons, List.map_nil, join_snoc _ _ _ hne, ho]
  · have h0 : i = 0 := by have := of_decide_eq_false h0; omega
    refine ix (map_at hx) ⟨rfl, ?_⟩
    conv => whnf
    refine cP (r_written x hxr) ?_
    conv => whnf
    refine ⟨by show _ < 4611686018427387904; omega, _, rfl, ?_⟩
    conv => whnf
    refine nx (s ++ wrS x) hlt ⟨hlt, ?_⟩
    show s ++ wrS x = Lib.join ((n.ss.take (i + 1)).map wrS) [32]
    rw [htk, ho, h0, List.take_zero, List.nil_append]
    show [] ++ wrS x = Lib.join [wrS x] [32]
    rw [join_one]; rfl
end Go.Proofs.YtcbknpdjdlgljaaGreatDoor
namespace Go.Proofs.YtcbknpdjdlgljaaGreatDoor
open Go.RowKit
set_option maxRecDepth 100000
set_option linter.unusedVariables false
def stepU (u : Nat) (c : UInt8) : Nat := (u * 10 + (c.toNat - 48)) % 18446744073709551616
def numU (t : By) : Nat := t.foldl stepU 0
def isD (c : UInt8) : Bool := decide (48 ≤ c.toNat) && decide (c.toNat ≤ 57)
def nbT (s t : By) : Int × Bool :=
  if t = [] ∨ 19 < t.length ∨ t.all isD = false then (0, false)
  else
    let n := IntKind.i64.wrap (if t.length < s.length then IntKind.u64.wrap (0 - (numU t : Int)) else (numU t : Int))
    (n, Lib.itoa n == s)
def nbR : By → Int × Bool
  | 45 :: t => nbT (45 :: t) t
  | s => nbT s s
theorem numU_lt (t : By) : numU t < 18446744073709551616 := by
  unfold numU
  suffices h : ∀ (t : By) (u : Nat), u < 18446744073709551616 → t.foldl stepU u < 18446744073709551616 from h t 0 (by omega)
  intro t
  induction t with
  | nil => exact fun u h => h
  | cons c t ih => exact fun u h => ih _ (Nat.mod_lt _ (by omega))
theorem numU_snoc (t : By) (c : UInt8) : numU (t ++ [c]) = stepU (numU t) c := by unfold numU; rw [List.foldl_append]; rfl
theorem i64_in (n : Int) : inR (IntKind.i64.wrap n) := by
  unfold IntKind.wrap; simp [IntKind.signed, IntKind.bits]; omega
theorem isD_no {c : UInt8} (h : (c.toNat : Int) < 48 ∨ 57 < (c.toNat : Int)) : isD c = false := by
  unfold isD; simp; omega
theorem nbR_ne {c : UInt8} {r : By} (h : ¬ c = 45) : nbR (c :: r) = nbT (c :: r) (c :: r) := by
  unfold nbR
  split
  · rename_i t e; cases e; exact absurd rfl h
  · rfl
theorem r_Number [MaxL] (s : By) (hs : s.length ≤ 100000000) : SC Tryz.prog 30 [.s s] [] (.val (.tup [.i .i64 (nbR s).1, .b (nbR s).2])) [] := by
  cases s with
  | nil =>
    refine SC.of_gwp noM mixed Tryz.func30 rfl (Nat.le_of_ble_eq_true rfl) (by first | exact Nat.le_refl _ | simp) rfl ?_
    conv => whnf
    exact fin 0
  | cons c0 r =>
    by_cases hc : c0 = 45
    · subst hc
      refine SC.of_gwp noM mixed Tryz.func30 rfl (Nat.le_of_ble_eq_true rfl) (by first | exact Nat.le_refl _ | simp) rfl ?_
      conv => whnf
      have hs' : r.length ≤ 100000000 := by simp at hs; omega
      refine gY (decide_eq_true (by simp only [List.length_cons]; omega)) ?_
      conv => whnf
      refine ⟨Int.le_refl _, _, rfl, ?_⟩
      conv => whnf
      refine ⟨by decide, ⟨by show 1 ≤ (45 :: r).length; simp, Nat.le_refl _⟩, r, by show r = List.take ((45 :: r).length - 1) r; rw [List.take_of_length_le (by simp)], ?_⟩
      conv => whnf
      refine GIf.mk (fun h0 => ?_) (fun h0 => ?_) <;> conv => whnf
      · have : r = [] := List.eq_nil_of_length_eq_zero (by simpa using h0)
        subst this
        exact fin 0
      refine GIf.mk (fun h1 => ?_) (fun h1 => ?_) <;> conv => whnf
      · rw [show nbR (45 :: r) = (0, false) by show nbT (45 :: r) r = _; unfold nbT; rw [if_pos (.inr (.inl (by have := of_decide_eq_true h1; omega)))]]
        exact fin 0
      conv => whnf
      refine GLoop.rng 0 r.length (fun i (u : Nat) => u = numU (r.take i) ∧ (r.take i).all isD = true) (fun i u => [(0, .s (45 :: r)), (4, .s r), (5, .i .u64 (u : Nat)), (6, .i .i64 (i : Nat))]) (fun _ _ => []) [] 0 ⟨rfl, rfl⟩ (fun i u φ0 hi hu => ?_)
      obtain ⟨hu, hd⟩ := hu
      conv => whnf
      refine GIf.mk (fun h => ?_) (fun h => ?_) <;> conv => whnf
      rotate_left
      · have hi' : i = r.length := by have := of_decide_eq_false h; omega
        rw [hi', List.take_length] at hu hd
        have hne : ¬ (r = [] ∨ 19 < r.length ∨ r.all isD = false) := by
          rintro (e | e | e)
          · subst e; simp at h0
          · have := of_decide_eq_false h1; omega
          · rw [hd] at e; cases e
        refine gY (decide_eq_true (by simp only [List.length_cons]; omega)) ?_
        conv => whnf
        refine cP (r_Digits _ (i64_in _).1 (i64_in _).2) ?_
        conv => whnf
        rw [show nbR (45 :: r) = (IntKind.i64.wrap (IntKind.u64.wrap (0 - (u : Int))), Lib.itoa (IntKind.i64.wrap (IntKind.u64.wrap (0 - (u : Int)))) == 45 :: r) by
          show nbT (45 :: r) r = _; unfold nbT; rw [if_neg hne, if_pos (by simp), hu]]
        exact fin 0
      have hlt : i < r.length := by have := of_decide_eq_true h; omega
      refine (ex_at hlt).elim fun c hx => ?_
      have htk : r.take (i + 1) = r.take i ++ [c] := by rw [List.take_add_one, hx]; rfl
      have hul : u < 18446744073709551616 := by rw [hu]; exact numU_lt _
      have hc8 := UInt8.toNat_lt c
      refine ⟨Int.natCast_nonneg _, c, by rw [Int.toNat_natCast]; exact hx, ?_⟩
      conv => whnf
      refine GIf.mk (fun e => ?_) (fun e => ?_) <;> conv => whnf
      · have : isD c = false := isD_no (.inl (by have := of_decide_eq_true e; omega))
        have hno : r.all isD = false := by
          cases ha : r.all isD with
          | false => rfl
          | true => rw [List.all_eq_true.1 ha c (List.mem_of_getElem? hx)] at this; cases this
        rw [show nbR (45 :: r) = (0, false) by show nbT (45 :: r) r = _; unfold nbT; rw [if_pos (.inr (.inr hno))]]
        exact fin 0
      refine ⟨Int.natCast_nonneg _, c, by rw [Int.toNat_natCast]; exact hx, ?_⟩
      conv => whnf
      refine GIf.mk (fun e2 => ?_) (fun e2 => ?_) <;> conv => whnf
      · have : isD c = false := isD_no (.inr (by have := of_decide_eq_true e2; omega))
        have hno : r.all isD = false := by
          cases ha : r.all isD with
          | false => rfl
          | true => rw [List.all_eq_true.1 ha c (List.mem_of_getElem? hx)] at this; cases this
        rw [show nbR (45 :: r) = (0, false) by show nbT (45 :: r) r = _; unfold nbT; rw [if_pos (.inr (.inr hno))]]
        exact fin 0
      refine ⟨Int.natCast_nonneg _, c, by rw [Int.toNat_natCast]; exact hx, ?_⟩
      conv => whnf
      have hw : GV.i .u64 (IntKind.u64.wrap (IntKind.u64.wrap ((u : Int) * 10) + IntKind.u64.wrap (IntKind.u8.wrap ((c.toNat : Int) - 48)))) = .i .u64 ((stepU u c : Nat) : Int) := by
        have a := of_decide_eq_false e
        have b := of_decide_eq_false e2
        rw [u64w, u64w, u64w, u8w']; unfold stepU
        congr 1
        omega
      have hcd : isD c = true := by
        have a := of_decide_eq_false e
        have b := of_decide_eq_false e2
        unfold isD; simp; omega
      exact ⟨r.length - (i + 1), (by omega), (i + 1, stepU u c), ⟨hlt, (by rw [htk, numU_snoc, ← hu]), (by rw [htk, List.all_append, hd]; simp [hcd])⟩, rfl, ⟨rfl, rfl, hw, wrap_succ (by omega), trivial⟩, [], rfl, rfl⟩
    · skip
      refine SC.of_gwp noM mixed Tryz.func30 rfl (Nat.le_of_ble_eq_true rfl) (by first | exact Nat.le_refl _ | simp) rfl ?_
      conv => whnf
      have hs' : (c0 :: r).length ≤ 100000000 := hs
      refine gY (decide_eq_true (by simp only [List.length_cons]; omega)) ?_
      conv => whnf
      refine ⟨Int.le_refl _, _, rfl, ?_⟩
      conv => whnf
      refine gN (by simpa using fun e : (c0.toNat : Int) = 45 => hc (UInt8.toNat_inj.1 (by show c0.toNat = 45; omega))) ?_
      conv => whnf
      refine GIf.mk (fun h1 => ?_) (fun h1 => ?_) <;> conv => whnf
      · rw [show nbR (c0 :: r) = (0, false) by rw [nbR_ne hc]; unfold nbT; rw [if_pos (.inr (.inl (by have := of_decide_eq_true h1; omega)))]]
        exact fin 0
      conv => whnf
      refine GLoop.rng 0 (c0 :: r).length (fun i (u : Nat) => u = numU ((c0 :: r).take i) ∧ ((c0 :: r).take i).all isD = true) (fun i u => [(0, .s (c0 :: r)), (4, .s (c0 :: r)), (5, .i .u64 (u : Nat)), (6, .i .i64 (i : Nat))]) (fun _ _ => []) [] 0 ⟨rfl, rfl⟩ (fun i u φ0 hi hu => ?_)
      obtain ⟨hu, hd⟩ := hu
      conv => whnf
      refine GIf.mk (fun h => ?_) (fun h => ?_) <;> conv => whnf
      rotate_left
      · have hi' : i = (c0 :: r).length := by have := of_decide_eq_false h; omega
        rw [hi', List.take_length] at hu hd
        have hne : ¬ ((c0 :: r) = [] ∨ 19 < (c0 :: r).length ∨ (c0 :: r).all isD = false) := by
          rintro (e | e | e)
          · cases e
          · have := of_decide_eq_false h1; omega
          · rw [hd] at e; cases e
        refine gN (decide_eq_false (Int.lt_irrefl _)) ?_
        conv => whnf
        refine cP (r_Digits _ (i64_in _).1 (i64_in _).2) ?_
        conv => whnf
        rw [show nbR (c0 :: r) = (IntKind.i64.wrap (u : Int), Lib.itoa (IntKind.i64.wrap (u : Int)) == c0 :: r) by
          rw [nbR_ne hc]; unfold nbT; rw [if_neg hne, if_neg (by simp), hu]]
        exact fin 0
      have hlt : i < (c0 :: r).length := by have := of_decide_eq_true h; omega
      refine (ex_at hlt).elim fun c hx => ?_
      have htk : (c0 :: r).take (i + 1) = (c0 :: r).take i ++ [c] := by rw [List.take_add_one, hx]; rfl
      have hul : u < 18446744073709551616 := by rw [hu]; exact numU_lt _
      have hc8 := UInt8.toNat_lt c
      refine ⟨Int.natCast_nonneg _, c, by rw [Int.toNat_natCast]; exact hx, ?_⟩
      conv => whnf
      refine GIf.mk (fun e => ?_) (fun e => ?_) <;> conv => whnf
      · have : isD c = false := isD_no (.inl (by have := of_decide_eq_true e; omega))
        have hno : (c0 :: r).all isD = false := by
          cases ha : (c0 :: r).all isD with
          | false => rfl
          | true => rw [List.all_eq_true.1 ha c (List.mem_of_getElem? hx)] at this; cases this
        rw [show nbR (c0 :: r) = (0, false) by rw [nbR_ne hc]; unfold nbT; rw [if_pos (.inr (.inr hno))]]
        exact fin 0
      refine ⟨Int.natCast_nonneg _, c, by rw [Int.toNat_natCast]; exact hx, ?_⟩
      conv => whnf
      refine GIf.mk (fun e2 => ?_) (fun e2 => ?_) <;> conv => whnf
      · have : isD c = false := isD_no (.inr (by have := of_decide_eq_true e2; omega))
        have hno : (c0 :: r).all isD = false := by
          cases ha : (c0 :: r).all isD with
          | false => rfl
          | true => rw [List.all_eq_true.1 ha c (List.mem_of_getElem? hx)] at this; cases this
        rw [show nbR (c0 :: r) = (0, false) by rw [nbR_ne hc]; unfold nbT; rw [if_pos (.inr (.inr hno))]]
        exact fin 0
      refine ⟨Int.natCast_nonneg _, c, by rw [Int.toNat_natCast]; exact hx, ?_⟩
      conv => whnf
      have hw : GV.i .u64 (IntKind.u64.wrap (IntKind.u64.wrap ((u : Int) * 10) + IntKind.u64.wrap (IntKind.u8.wrap ((c.toNat : Int) - 48)))) = .i .u64 ((stepU u c : Nat) : Int) := by
        have a := of_decide_eq_false e
        have b := of_decide_eq_false e2
        rw [u64w, u64w, u64w, u8w']; unfold stepU
        congr 1
        omega
      have hcd : isD c = true := by
        have a := of_decide_eq_false e
        have b := of_decide_eq_false e2
        unfold isD; simp; omega
      exact ⟨(c0 :: r).length - (i + 1), (by omega), (i + 1, stepU u c), ⟨hlt, (by rw [htk, numU_snoc, ← hu]), (by rw [htk, List.all_append, hd]; simp [hcd])⟩, rfl, ⟨rfl, rfl, hw, wrap_succ (by omega), trivial⟩, [], rfl, rfl⟩
end Go.Proofs.YtcbknpdjdlgljaaGreatDoor
namespace Go.Proofs.YtcbknpdjdlgljaaGreatDoor
open Go.RowKit
set_option maxRecDepth 100000
set_option linter.unusedVariables false
def attN (l : By) : Int := match Lib.atoiAll l with | .ok v => v | .range => Lib.atoiSat l | _ => 0
theorem attN_in (l : By) : inR (attN l) := by
  unfold attN
  split
  · rename_i v h; exact Lib.atoiAll_bounds h
  · unfold Lib.atoiSat; split <;> exact ⟨by decide, by decide⟩
  · exact ⟨by decide, by decide⟩
theorem c_AtoiX [MaxL] (l : By) (hl : l.length ≤ 281474976710656) : SC Tryz.prog 26 [.s l] [] (.val (.tup [.i .i64 (attN l), .any])) [] := by
  have err : ∀ {C : Cx} {w : World} (g : Nat) (x : GV) (t : TypeId), Rel C ⟨[], 0, []⟩ w w → Globals.tab g = some [.ifc t x] → ∃ p, w.cell? ⟨g, 0, none⟩ = some (.iface t p) := fun g x t hr ht => by
    obtain ⟨u, hfx, hvr⟩ := hr.gl g _ 0 _ ht rfl
    have := hvr _ (fun _ _ _ h => h)
    cases this
    exact ⟨_, hr.fxc _ _ _ hfx⟩
  have two : ∀ {C : Cx} {n : Int} {v : Value}, VR C (.tup [.i .i64 n, .any]) (.tuple #[.int .i64 n, v]) := fun {C n v} => .tup rfl (fun j g u h1 h2 => by
    rcases j with _ | _ | j
    · simp at h1 h2; subst h1; subst h2; exact .i _ _
    · simp at h1 h2; subst h1; subst h2; exact .any _
    · simp at h1)
  have arg : ∀ {C : Cx} {vs : Array Value}, VRs C [.s l] vs.toList → vs = #[.string ⟨l.toArray⟩] := fun {C vs} hv => by
    obtain ⟨u, vs', e, hv1, hv2⟩ := hv.cons_inv
    have : vs' = [] := List.eq_nil_of_length_eq_zero (by simpa using hv2.1)
    subst this
    cases hv1
    rw [← Array.toArray_toList (xs := vs), e]
  unfold attN
  rcases hr : Lib.atoiAll l with v | _ | _
  · refine SC.of_calls fun C w vs hrel hv => ?_
    obtain rfl := arg hv
    refine (Tryz.strconv_Atoi_ok ⟨l.toArray⟩ (by simp [ByteArray.size]; omega) v (by simpa using hr) w).mono ?_
    rintro e w' ⟨he, hw⟩
    refine ⟨_, he, ?_, two⟩
    rcases hw with rfl | ⟨t, rfl⟩
    · exact .refl _ _
    · exact .bytes _ _ _
  · refine SC.of_calls fun C w vs hrel hv => ?_
    obtain rfl := arg hv
    obtain ⟨p, hp⟩ := err 0 _ _ hrel rfl
    refine (Any.strconv_Atoi_syntax Tryz.laysC172 ⟨l.toArray⟩ (by simpa [ByteArray.size] using hl) (by simpa using hr) _ w hp (.inr ⟨_, _, rfl⟩)).mono ?_
    rintro e w' ⟨N, he, _, _, hb⟩
    exact ⟨_, he, .below hb, two⟩
  · refine SC.of_calls fun C w vs hrel hv => ?_
    obtain rfl := arg hv
    obtain ⟨p, hp⟩ := err 1 _ _ hrel rfl
    refine (Tryz.strconv_Atoi_range ⟨l.toArray⟩ (by simpa [ByteArray.size] using hl) (by simpa using hr) _ w hp (.inr ⟨_, _, rfl⟩)).mono ?_
    rintro e w' ⟨N, he, _, _, hb⟩
    exact ⟨_, he, .below hb, two⟩
end Go.Proofs.YtcbknpdjdlgljaaGreatDoor
namespace Go.Proofs.YtcbknpdjdlgljaaGreatDoor
open Go.RowKit
set_option maxRecDepth 100000
set_option linter.unusedVariables false
theorem dg_nat {u : Nat} (h : u < 10) : (UInt8.ofNat (48 + u)).toNat = 48 + u := by
  rw [UInt8.toNat_ofNat']; omega
theorem isD_dg {u : Nat} (h : u < 10) : isD (UInt8.ofNat (48 + u)) = true := by
  unfold isD; rw [dg_nat h]; simp; omega
theorem dec_ind {P : Nat → List UInt8 → Prop} (h0 : ∀ u, u < 10 → P u [UInt8.ofNat (48 + u)]) (h1 : ∀ u, ¬ u < 10 → P (u / 10) (Lib.decDigits (u / 10)) → P u (Lib.decDigits (u / 10) ++ [UInt8.ofNat (48 + u % 10)])) (u : Nat) : P u (Lib.decDigits u) := by
  induction u using Nat.strongRecOn with
  | ind u ih =>
    rw [Lib.decDigits]
    by_cases h : u < 10
    · rw [dif_pos h]; exact h0 u h
    · rw [dif_neg h]; exact h1 u h (ih _ (by omega))
theorem dec_isD (u : Nat) : (Lib.decDigits u).all isD = true :=
  dec_ind (P := fun _ l => l.all isD = true) (fun u h => by rw [List.all_cons, isD_dg h]; rfl) (fun u _ ih => by rw [List.all_append, ih, List.all_cons, isD_dg (Nat.mod_lt u (by decide : 0 < 10))]; rfl) u
theorem dec_ne (u : Nat) : Lib.decDigits u ≠ [] :=
  dec_ind (P := fun _ l => l ≠ []) (fun u _ => by simp) (fun u _ _ => by simp) u
theorem dec_numU (u : Nat) (h : u < 18446744073709551616) : numU (Lib.decDigits u) = u :=
  dec_ind (P := fun u l => u < 18446744073709551616 → numU l = u) (fun u hu _ => by
    unfold numU stepU; simp only [List.foldl_cons, List.foldl_nil, dg_nat hu]; omega) (fun u hu ih h => by
    rw [numU_snoc, ih (by omega)]; unfold stepU; rw [dg_nat (Nat.mod_lt u (by decide : 0 < 10))]; omega) u h
theorem parse_snoc {c : UInt8} : ∀ (l : By) (acc v : Nat), Lib.parseUint10 acc l = .ok v → Lib.parseUint10 acc (l ++ [c]) = Lib.parseUint10 v [c]
  | [], acc, v, h => by
    simp only [Lib.parseUint10] at h
    injection h with h
    subst h; rfl
  | d :: l, acc, v, h => by
    rw [List.cons_append]
    unfold Lib.parseUint10 at h ⊢
    split at h
    · rename_i h1
      split at h
      · cases h
      · rename_i h2
        split at h
        · cases h
        · rename_i h3
          rw [if_pos h1, if_neg h2, if_neg h3]
          exact parse_snoc l _ v h
    · cases h
theorem dec_parse (u : Nat) (h : u < 18446744073709551616) : Lib.parseUint10 0 (Lib.decDigits u) = .ok u :=
  dec_ind (P := fun u l => u < 18446744073709551616 → Lib.parseUint10 0 l = .ok u) (fun u hu _ => by
    simp only [Lib.parseUint10, dg_nat hu]
    rw [if_pos (by omega), if_neg (by omega), if_neg (by omega)]
    congr 1; omega) (fun u hu ih h => by
    rw [parse_snoc _ _ _ (ih (by omega))]
    simp only [Lib.parseUint10, dg_nat (Nat.mod_lt u (by decide : 0 < 10))]
    rw [if_pos (by omega), if_neg (by omega), if_neg (by omega)]
    congr 1; omega) u h
theorem dec_mag (u : Nat) (h : u < 18446744073709551616) : Lib.parseMag (Lib.decDigits u) = .ok u := by
  unfold Lib.parseMag
  rw [if_neg (dec_ne u), dec_parse u h]
theorem dec_le : ∀ (k u : Nat), u < 10 ^ (k + 1) → (Lib.decDigits u).length ≤ k + 1
  | 0, u, h => by
    rw [Lib.decDigits, dif_pos (by simpa using h)]; simp
  | k + 1, u, h => by
    rw [Lib.decDigits]
    by_cases h1 : u < 10
    · rw [dif_pos h1]; simp
    · rw [dif_neg h1, List.length_append, List.length_singleton]
      have := dec_le k (u / 10) (by rw [Nat.pow_succ] at h; omega)
      omega
theorem dec_19 {u : Nat} (h : u ≤ 9223372036854775808) : (Lib.decDigits u).length ≤ 19 := dec_le 18 u (by omega)
theorem dec_cons (u : Nat) : ∃ c r, Lib.decDigits u = c :: r ∧ 48 ≤ c.toNat ∧ c.toNat ≤ 57 := by
  have h1 := dec_isD u
  cases h : Lib.decDigits u with
  | nil => exact absurd h (dec_ne u)
  | cons c r =>
    rw [h] at h1
    have : isD c = true := by simp at h1; exact h1.1
    unfold isD at this
    simp at this
    exact ⟨c, r, rfl, this.1, this.2⟩
theorem i64w_in {x : Int} (h : inR x) : IntKind.i64.wrap x = x := by
  obtain ⟨h0, h1⟩ := h
  unfold IntKind.wrap; simp [IntKind.signed, IntKind.bits]; omega
theorem nb_itoa {x : Int} (h : inR x) : nbR (Lib.itoa x) = (x, true) := by
  obtain ⟨h0, h1⟩ := h
  by_cases hx : x < 0
  · have e : Lib.itoa x = 45 :: Lib.decDigits x.natAbs := by unfold Lib.itoa; rw [if_pos hx]
    have hl := dec_19 (u := x.natAbs) (by omega)
    rw [e]
    show nbT (45 :: Lib.decDigits x.natAbs) (Lib.decDigits x.natAbs) = _
    unfold nbT
    rw [if_neg (by
      rintro (q | q | q)
      · exact dec_ne _ q
      · omega
      · rw [dec_isD] at q; cases q), if_pos (by simp), dec_numU _ (by omega)]
    have w : IntKind.i64.wrap (IntKind.u64.wrap (0 - (x.natAbs : Int))) = x := by
      rw [u64w]
      have : (0 - (x.natAbs : Int)) % 18446744073709551616 = x + 18446744073709551616 := by omega
      rw [this]
      unfold IntKind.wrap; simp [IntKind.signed, IntKind.bits]; omega
    rw [w, ← e]
    simp
  · have e : Lib.itoa x = Lib.decDigits x.toNat := by unfold Lib.itoa; rw [if_neg hx]
    have hl := dec_19 (u := x.toNat) (by omega)
    obtain ⟨c, r, hc, c1, c2⟩ := dec_cons x.toNat
    have hn : nbR (Lib.decDigits x.toNat) = nbT (Lib.decDigits x.toNat) (Lib.decDigits x.toNat) := by
      rw [hc]; exact nbR_ne (by rintro rfl; simp at c1)
    rw [e, hn]
    unfold nbT
    rw [if_neg (by
      rintro (q | q | q)
      · exact dec_ne _ q
      · omega
      · rw [dec_isD] at q; cases q), if_neg (by omega), dec_numU _ (by omega)]
    have w : IntKind.i64.wrap (x.toNat : Int) = x := by rw [i64w_in ⟨by omega, by omega⟩]; omega
    rw [w, ← e]
    simp
theorem att_itoa {x : Int} (h : inR x) : attN (Lib.itoa x) = x := by
  obtain ⟨h0, h1⟩ := h
  have : Lib.atoiAll (Lib.itoa x) = .ok x := by
    by_cases hx : x < 0
    · have e : Lib.itoa x = 45 :: Lib.decDigits x.natAbs := by unfold Lib.itoa; rw [if_pos hx]
      rw [e, Lib.atoiAll_minus, dec_mag _ (by omega)]
      show (if 9223372036854775808 < x.natAbs then Lib.NumEnd.range else .ok (-(x.natAbs : Int))) = _
      rw [if_neg (by omega)]
      congr 1; omega
    · have e : Lib.itoa x = Lib.decDigits x.toNat := by unfold Lib.itoa; rw [if_neg hx]
      obtain ⟨c, r, hc, c1, c2⟩ := dec_cons x.toNat
      have hm := dec_mag x.toNat (by omega)
      rw [e]
      rw [hc] at hm ⊢
      rw [Lib.atoiAll_plain c r (by omega) (by omega), hm]
      show (if 9223372036854775808 ≤ x.toNat then Lib.NumEnd.range else .ok (x.toNat : Int)) = _
      rw [if_neg (by omega)]
      congr 1; omega
  unfold attN
  rw [this]
theorem nb_in (s : By) : inR (nbR s).1 := by
  have z : inR 0 := ⟨by decide, by decide⟩
  unfold nbR
  split <;> (unfold nbT; split; exact z; exact i64_in _)
theorem nb_eq {s : By} (h : (nbR s).2 = true) : Lib.itoa (nbR s).1 = s := by
  have key : ∀ s t : By, (nbT s t).2 = true → Lib.itoa (nbT s t).1 = s := by
    intro s t h
    unfold nbT at h ⊢
    split at h
    · cases h
    · rename_i q
      rw [if_neg q]
      exact beq_iff_eq.1 h
  unfold nbR at h ⊢
  split <;> rename_i q
  · exact key _ _ (by simpa using h)
  · exact key _ _ (by
      revert h
      split
      · exact fun h => absurd rfl (q _)
      · exact fun h => h)
theorem itoa_no {x : Int} {c : UInt8} (h : isD c = false) (h' : c ≠ 45) : c ∉ Lib.itoa x := by
  have hd : ∀ u : Nat, c ∉ Lib.decDigits u := fun u hm => by
    rw [List.all_eq_true.1 (dec_isD u) c hm] at h; cases h
  unfold Lib.itoa
  split
  · intro hm
    rcases List.mem_cons.1 hm with e | hm
    · exact h' e
    · exact hd _ hm
  · exact hd _
theorem itoa_ne (x : Int) : Lib.itoa x ≠ [] := by
  unfold Lib.itoa
  split
  · simp
  · exact dec_ne _
end Go.Proofs.YtcbknpdjdlgljaaGreatDoor
namespace Go.Proofs.YtcbknpdjdlgljaaGreatDoor
open Go.RowKit
set_option maxRecDepth 100000
set_option linter.unusedVariables false
theorem Base.drewN (w : World) (n : Nat) : Base (fun _ => False) w (w.drewN n) := ⟨rfl, rfl, Nat.le_refl _, fun _ _ _ => rfl⟩
theorem c_Cut [MaxL] (s sep : By) (hs : s.length < 4000000000) : SC Tryz.prog 28 [.s s, .s sep] [] (.val (.tup [.s (Lib.cut s sep).1, .s (Lib.cut s sep).2.1, .b (Lib.cut s sep).2.2])) [] := by
  refine SC.of_calls fun C w vs hr hv => ?_
  obtain rfl := args_ss hv
  refine (Tryz.strings_Cut ⟨s.toArray⟩ ⟨sep.toArray⟩ _ w (by simp [ByteArray.size]; omega) (maxl_cell hr)).mono ?_
  rintro e w' ⟨rfl, n, rfl⟩
  refine ⟨_, rfl, .drewN w n, .tup rfl fun j g u h1 h2 => ?_⟩
  match j, h1, h2 with
  | 0, h1, h2 => cases h1; cases h2; exact .s _
  | 1, h1, h2 => cases h1; cases h2; exact .s _
  | 2, h1, h2 => cases h1; cases h2; exact .b _
section
variable [MaxL]
theorem c_splitSeq [MaxL] (s p : By) : SC Tryz.prog 69 [.s s, .s p, .i .i64 0] [] (.val (.fn (.func 117) [] [.ptr 1 0, .ptr 0 0, .ptr 2 0])) [.box 9 [.s s], .box 9 [.s p], .box 3 [.i .i64 0]] := by
  refine SC.of_gwp noM mixed Tryz.func69 rfl (Nat.le_of_ble_eq_true rfl) (by simp) rfl ?_
  conv => whnf
  refine ⟨[0, 1, 2], ⟨by decide, rfl, fun i k x h1 h2 => ?_, fun x hx => by simp at hx; rcases hx with rfl | rfl | rfl <;> simp⟩, fun i hi => absurd hi (Nat.not_lt_zero i), ?_⟩
  · match i, h1, h2 with
    | 0, h1, h2 => cases h1; cases h2; rfl
    | 1, h1, h2 => cases h1; cases h2; rfl
    | 2, h1, h2 => cases h1; cases h2; rfl
    | i + 3, h1, h2 => cases h1
  · exact .refl _
theorem c_SplitSeq [MaxL] (s p : By) : SC Tryz.prog 27 [.s s, .s p] [] (.val (.fn (.func 117) [] [.ptr 1 0, .ptr 0 0, .ptr 2 0])) [.box 9 [.s s], .box 9 [.s p], .box 3 [.i .i64 0]] := by
  refine SC.of_gwp noM mixed Tryz.func27 rfl (Nat.le_of_ble_eq_true rfl) (by simp) rfl ?_
  conv => whnf
  refine callG (c_splitSeq s p) [] (objs' := [.box 9 [.s s], .box 9 [.s p], .box 3 [.i .i64 0]]) Lies.nil (Wks.refl _) rfl rfl rfl rfl ?_
  conv => whnf
  refine ⟨[0, 1, 2], ⟨by decide, rfl, fun i k x h1 h2 => ?_, fun x hx => by simp at hx; rcases hx with rfl | rfl | rfl <;> simp⟩, fun i hi => absurd hi (Nat.not_lt_zero i), ?_⟩
  · match i, h1, h2 with
    | 0, h1, h2 => cases h1; cases h2; rfl
    | 1, h1, h2 => cases h1; cases h2; rfl
    | 2, h1, h2 => cases h1; cases h2; rfl
    | i + 3, h1, h2 => cases h1
  · exact .refl _
def sqK (a0 a1 : List By → GObj) (tl : List By → List GObj) (L : GObj) (p : By) (done : List By) (rest : By) : List GObj :=
  a0 done :: a1 done :: .box 9 [.s rest] :: .box 9 [.s p] :: .box 3 [.i .i64 0] :: .dfr :: L :: tl done
theorem c_split2 [MaxL] (a0 a1 : List By → GObj) (tl : List By → List GObj) (L : GObj) (p s : By) (hp : p ≠ []) (hpl : p.length ≤ 100) (hs : s.length ≤ 100000) (ht : tl [] = [])
    (hh : ∀ done rest, (sqK a0 a1 tl L p done rest).all GObj.notHeld = true)
    (hb : ∀ done rest x, done.length ≤ s.length → x.length ≤ s.length → Fact Tryz.prog (.yld 6) [.s x] ⟨sqK a0 a1 tl L p done rest, 0, []⟩ (.val (.b true)) ⟨sqK a0 a1 tl L p (done ++ [x]) rest, 0, []⟩) :
    SC Tryz.prog 117 [.yld 6, .ptr 3 0, .ptr 2 0, .ptr 4 0] (sqK a0 a1 tl L p [] s) (.val (.tup [])) (sqK a0 a1 tl L p (pieces p s) ((pieces p s).getLastD [])) := by
  have hp0 : 0 < p.length := List.length_pos_iff.2 hp
  refine SC.of_gwp noM mixed Tryz.func117 rfl (Nat.le_of_ble_eq_true rfl) (by simp [sqK, ht]) (hh _ _) ?_
  conv => whnf
  refine GIf.mk (fun h0 => ?_) (fun h0 => ?_) <;> conv => whnf
  · exfalso
    have h9 : ((p.length : Nat) : Int) = 0 := by simpa using h0
    omega
  refine GLoop.intro (fun q : List By × By => q.1 ++ pieces p q.2 = pieces p s ∧ q.1.length + q.2.length ≤ s.length) (fun q => [(0, .yld 6), (1, .ptr 3 0), (2, .ptr 2 0), (3, .ptr 4 0)]) (fun q => ⟨sqK a0 a1 tl L p q.1 q.2, 0, []⟩) (fun q => q.2.length) ([], s) ⟨rfl, by simp⟩ ⟨rfl, rfl, rfl, rfl, trivial⟩ rfl (fun q φ0 hq => ?_)
  obtain ⟨done, rest⟩ := q
  obtain ⟨hq1, hq2⟩ := hq
  replace hq1 : done ++ pieces p rest = pieces p s := hq1
  replace hq2 : done.length + rest.length ≤ s.length := hq2
  have hi := c_Index rest p (by omega)
  conv => whnf
  rcases cut_cases rest p with ⟨a, b, e1, c1, i1, _⟩ | ⟨c1, i1⟩
  · rw [i1] at hi
    have hl := congrArg List.length e1
    simp only [List.length_append] at hl
    have w1 : IntKind.i64.wrap (((a.length : Nat) : Int) + 0) = ((a.length : Nat) : Int) := by rw [wrap_in (by omega) (by omega)]; omega
    have w2 : IntKind.i64.wrap (((a.length : Nat) : Int) + ((p.length : Nat) : Int)) = ((a.length + p.length : Nat) : Int) := by rw [wrap_in (by omega) (by omega)]; omega
    have t1 : rest.take a.length = a := by rw [e1, List.append_assoc]; exact List.take_left' rfl
    have d1 : rest.drop (a.length + p.length) = b := by rw [e1]; exact List.drop_left' (by simp)
    have hpc : done ++ [a] ++ pieces p b = pieces p s := by
      rw [← hq1]
      conv => rhs; rw [pieces_cut hp, c1]
      simp
    refine callP hi (Wks.refl _) rfl (fun _ => rfl) (.i _ _) ?_
    conv => whnf
    refine ⟨by rw [w1]; exact Int.natCast_nonneg _, ⟨Nat.zero_le _, by rw [w1, Int.toNat_natCast]; show a.length ≤ rest.length; omega⟩, a, by rw [w1, Int.toNat_natCast]; exact t1.symm, ?_⟩
    conv => whnf
    refine callY (hb done rest a (by omega) (by omega)) ?_
    conv => whnf
    refine ⟨by rw [w2]; exact Int.natCast_nonneg _, ⟨by rw [w2, Int.toNat_natCast]; show a.length + p.length ≤ rest.length; omega, Nat.le_refl _⟩, b, by rw [w2, Int.toNat_natCast, d1, List.take_of_length_le (by omega)], ?_⟩
    conv => whnf
    refine ⟨_, ⟨rfl, Nat.zero_le _, rfl, Nat.le_of_ble_eq_true rfl⟩, ?_⟩
    conv => whnf
    refine glistK_mk (l := tl (done ++ [a])) ?_
    conv => whnf
    exact ⟨b.length, (by show b.length < rest.length; omega), (done ++ [a], b), ⟨hpc, by show (done ++ [a]).length + b.length ≤ _; rw [List.length_append, List.length_singleton]; omega⟩, rfl, ⟨rfl, rfl, rfl, rfl, trivial⟩, rfl⟩
  · rw [i1] at hi
    have hpc : done ++ [rest] = pieces p s := by
      rw [← hq1, pieces_cut hp, c1]; rfl
    have hgl : (pieces p s).getLastD [] = rest := by rw [← hpc, List.getLastD_eq_getLast?, List.getLast?_append]; rfl
    rw [hgl, ← hpc]
    refine callP hi (Wks.refl _) rfl (fun _ => rfl) (.i _ _) ?_
    conv => whnf
    refine callY (hb done rest rest (by omega) (by omega)) ?_
    conv => whnf
    refine ⟨List.range (sqK a0 a1 tl L p (done ++ [rest]) rest).length, Lies.all _ (fun x hx e => ?_), fun j hj => ?_, ?_⟩
    · subst e
      have := List.all_eq_true.1 (hh (done ++ [rest]) rest) _ hx
      cases this
    · have h5 : j < (sqK a0 a1 tl L p [] s).length := hj
      have h6 : (sqK a0 a1 tl L p [] s).length ≤ (sqK a0 a1 tl L p (done ++ [rest]) rest).length := by simp [sqK, ht]
      have : j < (sqK a0 a1 tl L p (done ++ [rest]) rest).length := by omega
      simp [this]
    · exact .refl _
end
end Go.Proofs.YtcbknpdjdlgljaaGreatDoor
namespace Go.Proofs.YtcbknpdjdlgljaaGreatDoor
open Go.RowKit
set_option maxRecDepth 100000
set_option linter.unusedVariables false
theorem args_sl [MaxL] {C : Cx} {a b : List UInt8} {l : List GV} {vs : Array Value} (hv : VRs C (.s a :: .s b :: l) vs.toList) : ∃ us, vs.toList = .string ⟨a.toArray⟩ :: .string ⟨b.toArray⟩ :: us ∧ VRs C l us := by
  obtain ⟨u, vs', e, hv1, hv2⟩ := hv.cons_inv
  obtain ⟨u2, vs2, e2, hv3, hv4⟩ := hv2.cons_inv
  cases hv1; cases hv3
  exact ⟨vs2, by rw [e, e2], hv4⟩
theorem args_nil [MaxL] {C : Cx} {us : List Value} (hv : VRs C [] us) : us = [] := List.eq_nil_of_length_eq_zero (by simpa using hv.1)
theorem SC.of_row [MaxL] {P : Program} {k : FuncId} {args : List GV} {xs : List (List UInt8)}
    (h : ∀ (C : Cx) (w : World) (vs : Array Value), Rel C ⟨[], 0, []⟩ w w → VRs C args vs.toList → ∃ (cs : Array Value) (T : TypeId) (c : Nat), xs.length ≤ c ∧ (∀ (i : Nat) x, xs[i]? = some x → cs[i]? = some (.string ⟨x.toArray⟩)) ∧
      Calls P k vs w fun e w' => e = .returned (.slice (some ⟨w.heap.size, 0, none⟩) xs.length c) ∧ w' = w.alloc (.cells cs T)) : SC P k args [] (.val (.sl .none (xs.map .s))) [] := by
  refine ⟨Nat.le_refl _, fun C w vs hr hv => ?_, fun x hx => by simp at hx⟩
  obtain ⟨cs, T, c, hc, hx, hcall⟩ := h C w vs hr hv
  refine hcall.mono ?_
  rintro e w' ⟨rfl, rfl⟩
  obtain ⟨D, hl, hF, hr'⟩ := hr.addFx (w' := w.alloc (.cells cs T)) rfl rfl rfl (by simp) (fun k hk => by show (w.heap.push _)[k]? = _; rw [Array.getElem?_push_lt hk, Array.getElem?_eq_getElem hk]) (fun b o v => b = w.heap.size ∧ cs[o]? = some v) (fun b o v hb => by
    obtain ⟨rfl, hb⟩ := hb
    exact ⟨Nat.le_refl _, by rw [World.cell?_alloc_new]; simpa using hb⟩)
  refine ⟨D, hl, hr', _, rfl, .sl 1 w.heap.size 0 (fun j => (cs[j]?).getD (.bool false)) (by simp) hc (.inr (.inl rfl)) (fun x hx => ?_) (fun i x j g h1 h2 => ?_) (fun i x j g h1 h2 => ?_) trivial⟩
  · obtain ⟨b, _, rfl⟩ := List.mem_map.1 hx; rfl
  all_goals
    rw [List.getElem?_map, Option.map_eq_some_iff] at h1
    obtain ⟨b, hb, rfl⟩ := h1
    cases j with
    | succ j => cases h2
    | zero =>
    cases h2
    have hi : (cs[i * 1 + 0]?).getD (.bool false) = .string ⟨b.toArray⟩ := by simp [hx i b hb]
    first
      | exact hF _ _ _ ⟨rfl, by simp [hx i b hb]⟩
      | (rw [hi]; exact .s _)
theorem c_Split [MaxL] (s sep : List UInt8) (hs : s.length < 4000000000) (h1 : 1 ≤ sep.length) : SC Tryz.prog 24 [.s s, .s sep] [] (.val (.sl .none ((Lib.split s sep).map .s))) [] := by
  have hd : (Lib.splitB ⟨sep.toArray⟩ 0 (Lib.countB ⟨s.toArray⟩ ⟨sep.toArray⟩) ⟨s.toArray⟩).map (·.data.toList) = Lib.split s sep := Lib.splitB_data _ 0 _ _
  refine SC.of_row fun C w vs hr hv => ?_
  obtain ⟨us, e, hu⟩ := args_sl hv
  obtain rfl := args_nil hu
  obtain rfl : vs = #[_, _] := by rw [← Array.toArray_toList (xs := vs), e]
  have hz : 1 ≤ (⟨sep.toArray⟩ : ByteArray).size := by simpa [ByteArray.size] using h1
  have hlen := Lib.splitB_all ⟨sep.toArray⟩ hz 0 _ ⟨s.toArray⟩ rfl
  have hc := Tryz.strings_Split ⟨s.toArray⟩ ⟨sep.toArray⟩ _ w (by simp [ByteArray.size]; omega) (maxl_cell hr) hz
  rw [← hd]
  refine ⟨_, _, _, Nat.le_refl _, fun i x hx => ?_, by rw [List.length_map, hlen]; exact hc⟩
  rw [List.getElem?_map, Option.map_eq_some_iff] at hx
  obtain ⟨b, hb, rfl⟩ := hx
  rw [List.getElem?_toArray, List.getElem?_map, hb]
  simp
theorem splitK_pieces {c : UInt8} : ∀ (k : Nat) (s : By), s.count c ≤ k → Lib.splitK [c] 0 k s = pieces [c] s
  | 0, s, h => by
    have hn : c ∉ s := by
      intro hm
      have := List.count_pos_iff.2 hm
      omega
    rw [pieces_no hn]; rfl
  | k + 1, s, h => by
    have hne : ([c] : By) ≠ [] := List.cons_ne_nil _ _
    unfold Lib.splitK
    by_cases hi : 0 ≤ Lib.index s [c]
    · obtain ⟨a, b, hs, hia, _⟩ := index_some hi
      have hb : b.count c ≤ k := by
        rw [hs] at h
        simp at h
        omega
      rw [if_neg (by rw [beq_iff_eq]; omega), pieces_at hne hia, hia, Int.toNat_natCast, Nat.add_zero]
      have hd : s.drop (a.length + [c].length) = b := by rw [hs]; exact List.drop_left' (by simp)
      rw [hd, splitK_pieces k b hb]
    · have hi : Lib.index s [c] = -1 := index_no hi
      rw [if_pos (by rw [hi]; rfl), pieces_end hne hi]
theorem c_SplitP [MaxL] (s : By) (c : UInt8) (hs : s.length < 4000000000) : SC Tryz.prog 24 [.s s, .s [c]] [] (.val (.sl .none (txG (pieces [c] s)))) [] := by
  have h := c_Split s [c] hs (Nat.le_refl _)
  rw [show Lib.split s [c] = pieces [c] s from splitK_pieces _ s (by rw [Lib.count_one]; exact Nat.le_refl _)] at h
  exact h
end Go.Proofs.YtcbknpdjdlgljaaGreatDoor
namespace Go.Proofs.YtcbknpdjdlgljaaGreatDoor
open Go.RowKit
set_option maxRecDepth 100000
set_option linter.unusedVariables false
variable [Globals]
theorem emb_pre_le {n N : Nat} {D C : Cx} (hn : n ≤ N) (hl : C.le D) (hC : ∀ r, n ≤ r → C.bk r = none ∧ C.own r = none) : C.le (D.pull (emb (List.range n) N)) := by
  have he : ∀ i, i < n → emb (List.range n) N i = i := fun i hi => by rw [emb_lt (by simpa using hi)]; simp
  refine ⟨hl.fx, fun i b hb => ?_, fun i I hI => ?_, hl.hd, hl.fix⟩
  · have hi : i < n := by
      rcases Nat.lt_or_ge i n with h | h
      · exact h
      · rw [(hC i h).1] at hb; cases hb
    show D.bk (emb (List.range n) N i) = some b
    rw [he i hi]; exact hl.bk i b hb
  · have hi : i < n := by
      rcases Nat.lt_or_ge i n with h | h
      · exact h
      · rw [(hC i h).2] at hI; cases hI
    show ∃ J, D.own (emb (List.range n) N i) = some J ∧ _
    rw [he i hi]; exact hl.own i I hI
theorem Fact.forget {P : Program} {q : Nat} {args : List GV} {σ : GS} {r : GRes} {s' extra : List GObj} {lo : Nat} {ds : List GDef} (h : Fact P (.yld q) args σ r ⟨s' ++ extra, lo, ds⟩) (hlo : lo = 0) (hlen : σ.objs.length ≤ s'.length) (hc : Own0 s') (hh : s'.all GObj.notHeld = true) (hr : ∀ e, r.ren e = r) (hσ : σ.objs.all GObj.notHeld = true) :
    Fact P (.yld q) args σ r ⟨s', lo, ds⟩ := by
  have hh' : ∀ x ∈ s', x ≠ .held := fun x hx e => by subst e; have := List.all_eq_true.1 hh _ hx; cases this
  have hnh : ∀ k : Nat, σ.objs[k]? ≠ some .held := fun k hk => by
    have := List.all_eq_true.1 hσ .held (List.mem_iff_getElem?.2 ⟨k, hk⟩)
    cases this
  refine ⟨⟨h.keep.lo, hlen, fun h1 k hk => ?_, fun k hk => absurd hk (hnh k)⟩, h.ds, fun w0 C w vs hR hv b hb => ?_⟩
  · have h2 : σ.lo = 0 := by have h3 : lo = σ.lo := h.keep.lo; omega
    omega
  · obtain ⟨f, t, a, c, h1, h2⟩ := h.calls w0 C w vs hR hv b hb
    refine ⟨f, t, a, c, h1, h2.mono ?_⟩
    rintro e w' ⟨D, hl, hrD, he⟩
    refine ⟨D.pull (emb (List.range s'.length) (s' ++ extra).length), emb_pre_le (by simp) hl (fun i hi => hR.dom i (by omega)), ?_, ?_⟩
    · have := hrD.pull (Lies.pre hc hh')
      exact ⟨this.below, this.fxc, this.obj, this.dom, this.new, this.inj, this.sepB, this.sepO, this.fxn, this.gl, this.gs⟩
    · have he2 : ERel D (r.ren (emb (List.range s'.length) (s' ++ extra).length)) e := by rw [hr]; exact he
      exact he2.pull (D := D) (f := emb (List.range s'.length) (s' ++ extra).length) (E := D.pull (emb (List.range s'.length) (s' ++ extra).length)) (fun _ _ _ h => h) (fun _ => rfl) (fun _ => rfl)
end Go.Proofs.YtcbknpdjdlgljaaGreatDoor
