/-
  CondShows: Show, Valid, Names and Vars of every text are those of the reference, and the canonical text is shown as itself, for every text; part 18 of 42. Conditions: none beyond the given statement.

-/
import Derived.Test.YtlhabmglchgdnaaGreatDoorQ17
set_option linter.all false
namespace Go.Proofs.YtlhabmglchgdnaaGreatDoor
open Go.RowKit
set_option maxRecDepth 100000
set_option linter.unusedVariables false
def most : Nat := 4611686018427387904
def idxS (xs : List (List UInt8)) (v : List UInt8) : Int := match xs.findIdx? (· == v) with
  | some i => i
  | none => -1
theorem c_IndexS (xs : List (List UInt8)) (v : List UInt8) (hb : xs.length < most) :
    SC Tryz.prog 69 [.sl .none (xs.map .s), .s v] [] (.val (.i .i64 (idxS xs v))) [] := by
  unfold most at hb
  refine SC.of_gwp noM mixed Tryz.func69 rfl (Nat.le_of_ble_eq_true rfl) (by first | exact Nat.le_refl _ | simp) rfl ?_
  conv => whnf
  refine GLoop.intro (fun i : Nat => i ≤ xs.length ∧ (xs.take i).findIdx? (· == v) = none) (fun i => [(0, .sl .none (xs.map .s)), (1, .s v), (7, .i .i64 (xs.map GV.s).length), (8, .i .i64 i)]) (fun _ => ⟨[], 0, []⟩) (fun i => xs.length - i) 0 ⟨Nat.zero_le _, rfl⟩ ⟨rfl, rfl, rfl, rfl, trivial⟩ rfl (fun i φ0 hi => ?_)
  conv => whnf
  refine GIf.mk (fun h => ?_) (fun h => ?_) <;> conv => whnf
  · have hlt : i < xs.length := by simp at h; omega
    refine ⟨Int.natCast_nonneg _, .s xs[i], by simp [hlt], rfl, ?_⟩
    conv => whnf
    refine GIf.mk (fun hv => ?_) (fun hv => ?_) <;> conv => whnf
    · refine owes_i ?_
      have hv' : xs[i] = v := by simpa using (eq_comm.1 (by simpa using hv))
      have : xs.findIdx? (· == v) = some i := by
        rw [List.findIdx?_eq_some_iff_getElem]
        refine ⟨hlt, by simpa using hv', fun j hj => ?_⟩
        have := List.findIdx?_eq_none_iff.1 hi.2 xs[j] (by
          rw [List.mem_iff_getElem?]; exact ⟨j, by rw [List.getElem?_take, if_pos hj, List.getElem?_eq_getElem]⟩)
        simpa using this
      simp [idxS, this]
    · refine GLoop.next (i + 1) ⟨hlt, ?_⟩ (by omega) ⟨rfl, rfl, rfl, wrap_succ (by omega), trivial⟩ rfl
      rw [List.take_succ_eq_append_getElem hlt, List.findIdx?_append, hi.2]
      have : ¬ xs[i] = v := fun e => by simp [e] at hv
      simp [this]
  · refine owes_i ?_
    have : i = xs.length := by have := hi.1; simp at h; omega
    have ha := hi.2
    rw [this, List.take_length] at ha
    simp [idxS, ha]
theorem c_ContainsS (xs : List (List UInt8)) (v : List UInt8) (hb : xs.length < most) :
    SC Tryz.prog 100 [.sl .none (xs.map .s), .s v] [] (.val (.b (xs.contains v))) [] := by
  refine SC.of_gwp noM mixed Tryz.func100 rfl (Nat.le_of_ble_eq_true rfl) (by first | exact Nat.le_refl _ | simp) rfl ?_
  conv => whnf
  refine callP (c_IndexS xs v hb) (by first | exact Wks.refl _ | exact Wks.cons (Wk.sl _ _) (Wks.refl _) | exact Wks.cons (Wk.sl _ _) (Wks.cons (Wk.sl _ _) (Wks.refl _)) | exact Wks.cons (Wk.refl _) (Wks.cons (Wk.sl _ _) (Wks.refl _))) rfl (by first | exact fun _ => rfl | exact Cl.sl (ClL.mapOf (fun _ => Cl.s _) _) | exact ClL.cons (Cl.sl (ClL.mapOf (fun _ => Cl.s _) _)) (fun _ => rfl)) (by first | exact fun _ => rfl | exact Cl.sl (ClL.mapOf (fun _ => Cl.s _) _) | exact ClL.cons (Cl.sl (ClL.mapOf (fun _ => Cl.s _) _)) (fun _ => rfl)) ?_
  conv => whnf
  refine owes_b ?_
  unfold idxS
  cases h : xs.findIdx? (· == v) with
  | none =>
    have : ¬ v ∈ xs := fun hm => by have := List.findIdx?_eq_none_iff.1 h v hm; simp at this
    simp [this]
  | some i =>
    obtain ⟨hi, h1, _⟩ := List.findIdx?_eq_some_iff_getElem.1 h
    have : v ∈ xs := by have := List.getElem_mem hi; rwa [show xs[i] = v by simpa using h1] at this
    simp [this]
def kept : List (List UInt8) := [[97, 110, 100], [111, 114], [110, 111, 116], [116, 114, 117, 101], [102, 97, 108, 115, 101]]
theorem c_keptC (l : List UInt8) : SC Tryz.prog 66 [.s l] [] (.val (.b (kept.contains l))) [] := by
  refine SC.of_gwp noM mixed Tryz.func66 rfl (Nat.le_of_ble_eq_true rfl) (by first | exact Nat.le_refl _ | simp) rfl ?_
  conv => whnf
  refine callP (c_ContainsS kept l (by decide)) (by first | exact Wks.refl _ | exact Wks.cons (Wk.sl _ _) (Wks.refl _) | exact Wks.cons (Wk.sl _ _) (Wks.cons (Wk.sl _ _) (Wks.refl _)) | exact Wks.cons (Wk.refl _) (Wks.cons (Wk.sl _ _) (Wks.refl _))) rfl (by first | exact fun _ => rfl | exact Cl.sl (ClL.mapOf (fun _ => Cl.s _) _) | exact ClL.cons (Cl.sl (ClL.mapOf (fun _ => Cl.s _) _)) (fun _ => rfl)) (by first | exact fun _ => rfl | exact Cl.sl (ClL.mapOf (fun _ => Cl.s _) _) | exact ClL.cons (Cl.sl (ClL.mapOf (fun _ => Cl.s _) _)) (fun _ => rfl)) ?_
  conv => whnf
  exact owes_b rfl
end Go.Proofs.YtlhabmglchgdnaaGreatDoor
namespace Go.Proofs.YtlhabmglchgdnaaGreatDoor
open Go.RowKit
set_option linter.unusedSectionVars false
variable [Globals]
set_option linter.unusedVariables false
theorem callG {P : Program} {M : FuncId → Bool} {k : FuncId} {a args : List GV} {s s' : List GObj} {r r' : GRes} {σ : GS} {K : GRes → GS → Prop} (h : SC P k a s r s') (ks : List Nat) {objs' : List GObj} (hl : Lies ks s σ.objs)
    (hw : Wks args (a.map (GV.ren (emb ks σ.objs.length)))) (hlo : σ.lo = 0) (hM : M k = false) (ho : putBack ks s' σ.objs = objs') (hr : r.ren (emb ks σ.objs.length) = r') (hk : K r' ⟨objs', σ.lo, σ.ds⟩) : gcallK P M (.fn k) args σ K := by
  have hf := h.fact (σ := σ) (args' := args) ks hl hlo hw
  rw [ho, hr] at hf
  exact ⟨r', _, hf, (fun k' e hk' => by cases e; rw [hM] at hk'; cases hk'), hk⟩
theorem Lies.one' {q : Nat} {x : GObj} {objs : List GObj} (hq : objs[q]? = some (x.ren (emb [q] objs.length))) (hne : x ≠ .held) : Lies [q] [x] objs :=
  ⟨by simp, rfl, fun i k y h1 h2 => by
    rcases i with _ | i
    · simp at h1 h2; subst h1; subst h2; exact hq
    · simp at h1, fun y hy => by simp at hy; subst hy; exact hne⟩
theorem Lies.two {q p : Nat} {x y : GObj} {objs : List GObj} (hn : q ≠ p) (hq : objs[q]? = some (x.ren (emb [q, p] objs.length))) (hp : objs[p]? = some (y.ren (emb [q, p] objs.length))) (hx : x ≠ .held) (hy : y ≠ .held) : Lies [q, p] [x, y] objs :=
  ⟨by simp [hn], rfl, fun i k z h1 h2 => by
    rcases i with _ | _ | i
    · simp at h1 h2; subst h1; subst h2; exact hq
    · simp at h1 h2; subst h1; subst h2; exact hp
    · simp at h1, fun z hz => by simp at hz; rcases hz with rfl | rfl <;> assumption⟩
theorem Wk.agg {l l' : List GV} (hl : l.length = l'.length) (h : ∀ (j : Nat) g g', l[j]? = some g → l'[j]? = some g' → Wk g g') : Wk (.agg l) (.agg l') := fun C v hv => by
  cases hv with
  | agg hs hv =>
  refine .agg (by rw [hs, hl]) (fun j g u h1 h2 => ?_)
  have hj : j < l.length := by rw [hl]; exact (List.getElem?_eq_some_iff.1 h1).1
  exact h j l[j] g (List.getElem?_eq_getElem hj) h1 C u (hv j _ u (List.getElem?_eq_getElem hj) h2)
theorem Wk.of_eq {g g' : GV} (h : g = g') : Wk g g' := h ▸ .refl g
end Go.Proofs.YtlhabmglchgdnaaGreatDoor
namespace Go.Proofs.YtlhabmglchgdnaaGreatDoor
open Go.RowKit
set_option maxRecDepth 100000
set_option linter.unusedVariables false
structure Val where
  k : Int
  n : Int
  s : List UInt8
  deriving DecidableEq
def Val.cs (v : Val) : List GV := [.i .i64 v.k, .i .i64 v.n, .s v.s]
def Val.gv (v : Val) : GV := .agg v.cs
theorem Val.cl (v : Val) : Cl v.gv := fun _ => rfl
def Val.ok (v : Val) : Bool := (decide (v.k = 1) && decide (v.s = []) && decide (-1000000000 ≤ v.n) && decide (v.n ≤ 1000000000)) || (decide (v.k = 2) && decide (v.n = 0) && decide (v.s.length ≤ 40))
theorem c_within (n lo hi : Int) : SC Tryz.prog 130 [.i .i64 n, .i .i64 lo, .i .i64 hi] [] (.val (.b (decide (lo ≤ n) && decide (n ≤ hi)))) [] := by
  refine SC.of_gwp noM mixed Tryz.func130 rfl (Nat.le_of_ble_eq_true rfl) (by first | exact Nat.le_refl _ | simp) rfl ?_
  conv => whnf
  repeat' first
    | (refine GIf.mk (fun _ => ?_) (fun _ => ?_) <;> conv => whnf)
    | (refine GDraw.calm (by kernel_rfl) ?_; conv => whnf)
    | (refine ⟨_, ⟨rfl, Nat.zero_le _, rfl, Nat.le_of_ble_eq_true rfl⟩, ?_⟩; conv => whnf)
  all_goals (rename_i h; refine owes_b ?_; simp at h ⊢; omega)
def checksV : GV := .agg [.fn (.func 164) [] [], .fn (.func 165) [] [], .fn (.func 166) [] []]
theorem c_checks : SC Tryz.prog 131 [] [] (.val checksV) [] := by
  refine SC.of_gwp noM mixed Tryz.func131 rfl (Nat.le_of_ble_eq_true rfl) (by first | exact Nat.le_refl _ | simp) rfl ?_
  conv => whnf
  repeat' first
    | (refine GIf.mk (fun _ => ?_) (fun _ => ?_) <;> conv => whnf)
    | (refine GDraw.calm (by kernel_rfl) ?_; conv => whnf)
    | (refine ⟨_, ⟨rfl, Nat.zero_le _, rfl, Nat.le_of_ble_eq_true rfl⟩, ?_⟩; conv => whnf)
  exact owes_val rfl (fun _ => rfl)
theorem c_checks1 (v : Val) : SC Tryz.prog 164 [v.gv] [] (.val (.b false)) [] := by
  refine SC.of_gwp noM mixed Tryz.func164 rfl (Nat.le_of_ble_eq_true rfl) (by first | exact Nat.le_refl _ | simp) rfl ?_
  conv => whnf
  exact owes_b rfl
theorem c_checks2 (v : Val) : SC Tryz.prog 165 [v.gv] [] (.val (.b (decide (v.s = []) && (decide (-1000000000 ≤ v.n) && decide (v.n ≤ 1000000000))))) [] := by
  refine SC.of_gwp noM mixed Tryz.func165 rfl (Nat.le_of_ble_eq_true rfl) (by first | exact Nat.le_refl _ | simp) rfl ?_
  conv => whnf
  repeat' first
    | (refine GIf.mk (fun _ => ?_) (fun _ => ?_) <;> conv => whnf)
    | (refine GDraw.calm (by kernel_rfl) ?_; conv => whnf)
    | (refine ⟨_, ⟨rfl, Nat.zero_le _, rfl, Nat.le_of_ble_eq_true rfl⟩, ?_⟩; conv => whnf)
    | (refine callP (c_within _ _ _) (by first | exact Wks.refl _ | exact Wks.cons (Wk.sl _ _) (Wks.refl _) | exact Wks.cons (Wk.sl _ _) (Wks.cons (Wk.sl _ _) (Wks.refl _)) | exact Wks.cons (Wk.refl _) (Wks.cons (Wk.sl _ _) (Wks.refl _))) rfl (by first | exact fun _ => rfl | exact Cl.sl (ClL.mapOf (fun _ => Cl.s _) _) | exact ClL.cons (Cl.sl (ClL.mapOf (fun _ => Cl.s _) _)) (fun _ => rfl)) (by first | exact fun _ => rfl | exact Cl.sl (ClL.mapOf (fun _ => Cl.s _) _) | exact ClL.cons (Cl.sl (ClL.mapOf (fun _ => Cl.s _) _)) (fun _ => rfl)) ?_; conv => whnf)
  · rename_i h
    refine owes_b ?_
    simp at h; simp [h]
  · rename_i h
    refine owes_b ?_
    simp at h; simp [h]
theorem c_checks3 (v : Val) : SC Tryz.prog 166 [v.gv] [] (.val (.b (decide (v.n = 0) && decide (v.s.length ≤ 40)))) [] := by
  refine SC.of_gwp noM mixed Tryz.func166 rfl (Nat.le_of_ble_eq_true rfl) (by first | exact Nat.le_refl _ | simp) rfl ?_
  conv => whnf
  repeat' first
    | (refine GIf.mk (fun _ => ?_) (fun _ => ?_) <;> conv => whnf)
    | (refine GDraw.calm (by kernel_rfl) ?_; conv => whnf)
    | (refine ⟨_, ⟨rfl, Nat.zero_le _, rfl, Nat.le_of_ble_eq_true rfl⟩, ?_⟩; conv => whnf)
    | (refine callP (c_within _ _ _) (by first | exact Wks.refl _ | exact Wks.cons (Wk.sl _ _) (Wks.refl _) | exact Wks.cons (Wk.sl _ _) (Wks.cons (Wk.sl _ _) (Wks.refl _)) | exact Wks.cons (Wk.refl _) (Wks.cons (Wk.sl _ _) (Wks.refl _))) rfl (by first | exact fun _ => rfl | exact Cl.sl (ClL.mapOf (fun _ => Cl.s _) _) | exact ClL.cons (Cl.sl (ClL.mapOf (fun _ => Cl.s _) _)) (fun _ => rfl)) (by first | exact fun _ => rfl | exact Cl.sl (ClL.mapOf (fun _ => Cl.s _) _) | exact ClL.cons (Cl.sl (ClL.mapOf (fun _ => Cl.s _) _)) (fun _ => rfl)) ?_; conv => whnf)
  · rename_i h
    refine owes_b ?_
    simp at h; simp [h]; omega
  · rename_i h
    refine owes_b ?_
    simp at h; simp [h]
theorem c_ValidValue (v : Val) : SC Tryz.prog 83 [v.gv] [] (.val (.b v.ok)) [] := by
  obtain ⟨k, n, s⟩ := v
  refine SC.of_gwp noM mixed Tryz.func83 rfl (Nat.le_of_ble_eq_true rfl) (by first | exact Nat.le_refl _ | simp) rfl ?_
  conv => whnf
  refine GDraw.calm (by kernel_rfl) ?_
  conv => whnf
  refine callP (c_within k 0 2) (Wks.refl _) rfl (fun _ => rfl) (.b _) ?_
  conv => whnf
  refine GIf.mk (fun h => ?_) (fun h => ?_) <;> conv => whnf
  · refine callP c_checks Wks.nil rfl ClL.nil (fun _ => rfl) ?_
    conv => whnf
    have hk : k = 0 ∨ k = 1 ∨ k = 2 := by simp at h; omega
    rcases hk with rfl | rfl | rfl <;> conv => whnf
    · refine callP (c_checks1 ⟨0, n, s⟩) (Wks.refl _) rfl (fun _ => rfl) (.b _) ?_
      conv => whnf
      exact owes_b (by simp [Val.ok])
    · refine callP (c_checks2 ⟨1, n, s⟩) (Wks.refl _) rfl (fun _ => rfl) (.b _) ?_
      conv => whnf
      exact owes_b (by simp [Val.ok, Bool.and_assoc])
    · refine callP (c_checks3 ⟨2, n, s⟩) (Wks.refl _) rfl (fun _ => rfl) (.b _) ?_
      conv => whnf
      exact owes_b (by simp [Val.ok])
  · refine owes_b ?_
    simp at h; simp [Val.ok]; omega
end Go.Proofs.YtlhabmglchgdnaaGreatDoor
namespace Go.Proofs.YtlhabmglchgdnaaGreatDoor
open Go.RowKit
set_option maxRecDepth 100000
set_option linter.unusedVariables false
theorem c_ValidRow1 (v : Val) : SC Tryz.prog 187 [v.gv] [] (.val (.b (!v.ok))) [] := by
  refine SC.of_gwp noM mixed Tryz.func187 rfl (Nat.le_of_ble_eq_true rfl) (by first | exact Nat.le_refl _ | simp) rfl ?_
  conv => whnf
  repeat' first
    | (refine GIf.mk (fun _ => ?_) (fun _ => ?_) <;> conv => whnf)
    | (refine GDraw.calm (by kernel_rfl) ?_; conv => whnf)
    | (refine ⟨_, ⟨rfl, Nat.zero_le _, rfl, Nat.le_of_ble_eq_true rfl⟩, ?_⟩; conv => whnf)
    | (refine callP (c_ValidValue _) (by first | exact Wks.refl _ | exact Wks.cons (Wk.sl _ _) (Wks.refl _) | exact Wks.cons (Wk.sl _ _) (Wks.cons (Wk.sl _ _) (Wks.refl _)) | exact Wks.cons (Wk.refl _) (Wks.cons (Wk.sl _ _) (Wks.refl _))) rfl (by first | exact fun _ => rfl | exact Cl.sl (ClL.mapOf (fun _ => Cl.s _) _) | exact ClL.cons (Cl.sl (ClL.mapOf (fun _ => Cl.s _) _)) (fun _ => rfl)) (by first | exact fun _ => rfl | exact Cl.sl (ClL.mapOf (fun _ => Cl.s _) _) | exact ClL.cons (Cl.sl (ClL.mapOf (fun _ => Cl.s _) _)) (fun _ => rfl)) ?_; conv => whnf)
  exact owes_b rfl
def valsG (vs : List Val) : List GV := vs.map Val.gv
theorem valsG_cl (vs : List Val) : ClL (valsG vs) := ClL.mapOf Val.cl vs
theorem c_IndexFuncV (vs : List Val) (hb : vs.length < most) :
    SC Tryz.prog 203 [.sl .none (valsG vs), .fn (.func 187) [] []] [] (.val (.i .i64 (match vs.findIdx? (fun v => !v.ok) with | some i => (i : Int) | none => -1))) [] := by
  unfold most at hb
  refine SC.of_gwp noM mixed Tryz.func203 rfl (Nat.le_of_ble_eq_true rfl) (by first | exact Nat.le_refl _ | simp) rfl ?_
  conv => whnf
  refine GLoop.intro (fun i : Nat => i ≤ vs.length ∧ (vs.take i).findIdx? (fun v => !v.ok) = none) (fun i => [(0, .sl .none (valsG vs)), (1, .fn (.func 187) [] []), (7, .i .i64 (valsG vs).length), (8, .i .i64 i)]) (fun _ => ⟨[], 0, []⟩) (fun i => vs.length - i) 0 ⟨Nat.zero_le _, rfl⟩ ⟨rfl, rfl, rfl, rfl, trivial⟩ rfl (fun i φ0 hi => ?_)
  conv => whnf
  refine GIf.mk (fun h => ?_) (fun h => ?_) <;> conv => whnf
  · have hlt : i < vs.length := by simp [valsG] at h; omega
    refine ⟨Int.natCast_nonneg _, vs[i].gv, by simp [hlt, valsG], rfl, ?_⟩
    conv => whnf
    refine callP (c_ValidRow1 vs[i]) (Wks.refl _) rfl (fun _ => rfl) (.b _) ?_
    conv => whnf
    refine GIf.mk (fun hv => ?_) (fun hv => ?_) <;> conv => whnf
    · refine owes_i ?_
      have : vs.findIdx? (fun v => !v.ok) = some i := by
        rw [List.findIdx?_eq_some_iff_getElem]
        refine ⟨hlt, by simpa using hv, fun j hj => ?_⟩
        have := List.findIdx?_eq_none_iff.1 hi.2 vs[j] (by
          rw [List.mem_iff_getElem?]; exact ⟨j, by rw [List.getElem?_take, if_pos hj, List.getElem?_eq_getElem]⟩)
        simpa using this
      simp [this]
    · refine GLoop.next (i + 1) ⟨hlt, ?_⟩ (by omega) ⟨rfl, rfl, rfl, wrap_succ (by omega), trivial⟩ rfl
      rw [List.take_succ_eq_append_getElem hlt, List.findIdx?_append, hi.2]
      simp at hv; simp [hv]
  · refine owes_i ?_
    have : i = vs.length := by have := hi.1; simp [valsG] at h; omega
    have ha := hi.2
    rw [this, List.take_length] at ha
    simp [ha]
theorem c_ContainsFuncV (vs : List Val) (hb : vs.length < most) :
    SC Tryz.prog 186 [.sl .none (valsG vs), .fn (.func 187) [] []] [] (.val (.b (vs.any fun v => !v.ok))) [] := by
  refine SC.of_gwp noM mixed Tryz.func186 rfl (Nat.le_of_ble_eq_true rfl) (by first | exact Nat.le_refl _ | simp) rfl ?_
  conv => whnf
  refine callP (c_IndexFuncV vs hb) (Wks.refl _) rfl (ClL.cons (Cl.sl (valsG_cl vs)) (fun _ => rfl)) (.i _ _) ?_
  conv => whnf
  refine owes_b ?_
  cases h : vs.findIdx? (fun v => !v.ok) with
  | none =>
    have := List.findIdx?_eq_none_iff.1 h
    simp at this ⊢
    exact this
  | some i =>
    obtain ⟨hi, h1, _⟩ := List.findIdx?_eq_some_iff_getElem.1 h
    simp at h1 ⊢
    exact ⟨_, List.getElem_mem hi, h1⟩
def rowOk (vs : List Val) : Bool := decide (vs.length ≤ 8) && vs.all Val.ok
theorem c_ValidRow (vs : List Val) (hb : vs.length < most) : SC Tryz.prog 168 [.sl .none (valsG vs)] [] (.val (.b (rowOk vs))) [] := by
  refine SC.of_gwp noM mixed Tryz.func168 rfl (Nat.le_of_ble_eq_true rfl) (by first | exact Nat.le_refl _ | simp) rfl ?_
  conv => whnf
  refine GIf.mk (fun h => ?_) (fun h => ?_) <;> conv => whnf
  · refine callP (c_ContainsFuncV vs hb) (Wks.refl _) rfl (ClL.cons (Cl.sl (valsG_cl vs)) (fun _ => rfl)) (.b _) ?_
    conv => whnf
    refine owes_b ?_
    simp [valsG] at h
    simp [rowOk, List.not_any_eq_all_not]; omega
  · refine owes_b ?_
    simp [valsG] at h
    simp [rowOk]; omega
def rdI (s : List UInt8) (n : Nat) : GObj := .box 203 [.s s, .i .i64 n]
theorem c_next (s : List UInt8) (n : Nat) (hs : s.length < most) : SC Tryz.prog 184 [.ptr 0 0] [rdI s n] (.val (.i .u8 (s.getD n 0).toNat)) [rdI s n] := by
  refine SC.of_gwp noM mixed Tryz.func184 rfl (Nat.le_of_ble_eq_true rfl) (by first | exact Nat.le_refl _ | simp) rfl ?_
  conv => whnf
  refine GDraw.calm (by kernel_rfl) ?_
  conv => whnf
  refine GIf.mk (fun h => ?_) (fun h => ?_) <;> conv => whnf
  · skip
    refine GDraw.calm (by kernel_rfl) ?_
    conv => whnf
    have hlt : n < s.length := by simp at h; omega
    refine ⟨Int.natCast_nonneg _, s[n], by simp [hlt], ?_⟩
    conv => whnf
    refine owesB rfl ?_ (fun _ => rfl) (.i _ _)
    simp [hlt]
    exact .refl _
  · refine owesB rfl ?_ (fun _ => rfl) (.i _ _)
    have : s.length ≤ n := by simp at h; omega
    rw [List.getD_eq_getElem?_getD, List.getElem?_eq_none this]
    exact .refl _
end Go.Proofs.YtlhabmglchgdnaaGreatDoor
