/-
  The text of every currencies, and what every text is read as.
-/
import Derived.Test.YtcbknpdjdlgljaaGreatDoorQ14
import Derived.IntWalk
import Derived.Test.YtcbknpdjdlgljaaGreatDoorQ1
import Derived.Test.YtcbknpdjdlgljaaGreatDoorChecked
import Derived.Shelf.Spec.SlicesGrow
import Derived.Shelf.Strings.Builder1
import Derived.Shelf.Strings.Builder2
import Derived.Shelf.Strings.OnBuilder
import Derived.Shelf.Strings.BuilderF
import Derived.Shelf.Strings.BuilderK
import Derived.Shelf.Strconv.Atoi
import Derived.Shelf.Strconv.Itoa0
import Derived.Shelf.Strconv.Itoa1
import Derived.Shelf.LaysM
import Derived.Shelf.Strconv.Itoa2
import Derived.Shelf.Strconv.Itoa3
import Derived.Shelf.Strconv.AtoiErrFast
import Derived.Shelf.Strconv.ParseIntEmpty
import Derived.Shelf.Strconv.AtoiFail
import Derived.Shelf.Strconv.Clone
import Derived.Shelf.Strconv.SyntaxError
import Derived.Shelf.LaysC
import Derived.Shelf.Strconv.ToError
import Derived.Shelf.Strconv.AtoiErr
import Derived.Shelf.Strconv.Lower
import Derived.Shelf.Strconv.ParseUint10
import Derived.Shelf.Strconv.ParseUint10Empty
import Derived.Shelf.Strconv.ParseUint10Any
import Derived.Shelf.Strconv.ParseInt10
import Derived.Shelf.Strconv.AtoiLong
import Derived.Shelf.Strconv.AtoiInnerAll
import Derived.Shelf.Strconv.RangeError
import Derived.Shelf.Strconv.ToErrorRange
import Derived.Shelf.Strconv.AtoiAll
import Derived.Shelf.Strconv.ErrVarAll
import Derived.Shelf.Strings.Search1
import Derived.Shelf.Strings.Search2
import Derived.Shelf.Strings.Search3
import Derived.Shelf.Strings.Cut
import Derived.Shelf.Strings.Count
import Derived.Shelf.Strings.Shaped
import Derived.Shelf.Strings.Split
import Derived.Shelf.Strings.SplitShaped
import Derived.Shelf.Unicode.DecodeSlow
import Derived.Sort.Grow
import Derived.Deep.Draws
set_option linter.all false
namespace Go.Proofs.YtcbknpdjdlgljaaGreatDoor
open Go.RowKit
set_option linter.unusedSectionVars false
variable [Globals]
set_option linter.unusedVariables false
theorem Lies.nil {objs : List GObj} : Lies [] [] objs := ⟨List.nodup_nil, rfl, fun i k x h => by simp at h, fun x h => by simp at h⟩
def Cl (g : GV) : Prop := ∀ f, g.ren f = g
def ClL (l : List GV) : Prop := ∀ f, l.map (GV.ren f) = l
theorem ClL.nil : ClL [] := fun _ => rfl
theorem ClL.cons {g : GV} {l : List GV} (h : Cl g) (hl : ClL l) : ClL (g :: l) := fun f => by rw [List.map_cons, h f, hl f]
theorem ClL.mapOf {α : Type} {e : α → GV} (h : ∀ a, Cl (e a)) (l : List α) : ClL (l.map e) := fun f => by
  rw [List.map_map]; exact List.map_congr_left fun a _ => h a f
theorem Cl.i (k : IntKind) (n : Int) : Cl (.i k n) := fun _ => rfl
theorem Cl.s (l : List UInt8) : Cl (.s l) := fun _ => rfl
theorem Cl.agg {l : List GV} (h : ClL l) : Cl (.agg l) := fun f => by rw [GV.ren, renL_map, h f]
theorem Cl.tup {l : List GV} (h : ClL l) : Cl (.tup l) := fun f => by rw [GV.ren, renL_map, h f]
theorem Cl.sl {l : List GV} (h : ClL l) : Cl (.sl .none l) := fun f => by rw [GV.ren, renL_map, h f]; rfl
theorem owes_wk {g g' : GV} {σ0 : GS} (h : Wk g g') (hc : Cl g') : Owes [] (.val g') [] (.val g) σ0 :=
  ⟨[], Lies.nil, fun i h => absurd h (Nat.not_lt_zero i), by show Wk g (g'.ren _); rw [hc]; exact h⟩
theorem owes_val {g g' : GV} {σ0 : GS} (h : g = g') (hc : Cl g') : Owes [] (.val g') [] (.val g) σ0 := owes_wk (by rw [h]; exact .refl _) hc
theorem owes_s {v v' : List UInt8} {σ0 : GS} (h : v = v') : Owes [] (.val (.s v')) [] (.val (.s v)) σ0 := owes_val (by rw [h]) (.s _)
def agree (φ : Fr) (l : List (Nat × GV)) : Prop := List.rec (motive := fun _ => Prop) True (fun p _ ih => φ p.1 = p.2 ∧ ih) l
noncomputable def fpts (φ : Fr) (l : List (Nat × GV)) : Fr := List.rec (motive := fun _ => Fr) φ (fun p _ ih => fpt ih p.1 p.2) l
theorem agree_fpts {φ : Fr} : ∀ {l : List (Nat × GV)}, agree φ l → fpts φ l = φ
  | [], _ => rfl
  | p :: l, h => by
    show fpt (fpts φ l) p.1 p.2 = φ
    rw [agree_fpts (show agree φ l from h.2), fpt_eq]
    exact fput_self h.1
theorem GLoop.intro {α : Type} {f : GRun} {φ : Fr} {σ : GS} {K : GX → Fr → GS → Prop} (J : α → Prop) (L : α → List (Nat × GV)) (S : α → GS) (μ : α → Nat) (a0 : α)
    (h0 : J a0) (hφ : agree φ (L a0)) (hσ : σ = S a0)
    (step : ∀ a φ0, J a → f (fpts φ0 (L a)) (S a) fun x φ' σ' => match x with
      | .normal => ∃ m', m' < μ a ∧ ∃ a', J a' ∧ μ a' = m' ∧ agree φ' (L a') ∧ σ' = S a'
      | .exit i => K (.exit i) φ' σ'
      | .ret => K .ret φ' σ'
      | .panic g => K (.panic g) φ' σ') : GLoop f φ σ K :=
  ⟨⟨fun m φ σ => ∃ a, J a ∧ μ a = m ∧ agree φ (L a) ∧ σ = S a, fun m φ σ => ∃ a, J a ∧ μ a = m ∧ agree φ (L a) ∧ σ = S a, μ a0, ⟨a0, h0, rfl, hφ, hσ⟩, fun _ _ _ h => .inl h, fun m φ σ ⟨a, ha, hm, hf, hs⟩ => by
    subst hs; subst hm
    have := step a φ ha
    rwa [agree_fpts hf] at this⟩⟩
theorem fput_same (φ : Fr) (d : Nat) (g : GV) : fput φ d g d = g := by simp [fput]
theorem fput_other {φ : Fr} {d t : Nat} {g : GV} (h : ¬ t = d) : fput φ d g t = φ t := by simp [fput, h]
theorem agree_iff {φ : Fr} : ∀ {l : List (Nat × GV)}, agree φ l ↔ ∀ p ∈ l, φ p.1 = p.2
  | [] => ⟨fun _ p hp => (List.not_mem_nil hp).elim, fun _ => trivial⟩
  | q :: l => ⟨fun h p hp => by
      rcases List.mem_cons.1 hp with rfl | hp
      · exact h.1
      · exact agree_iff.1 (show agree φ l from h.2) p hp, fun h => ⟨h q (List.mem_cons_self ..), agree_iff.2 fun p hp => h p (List.mem_cons_of_mem _ hp)⟩⟩
theorem fpts_key {φ' ψ : Fr} : ∀ {l : List (Nat × GV)}, agree φ' l → ∀ p ∈ l, fpts ψ l p.1 = p.2
  | q :: l, h, p, hp => by
    show fpt (fpts ψ l) q.1 q.2 p.1 = p.2
    rw [fpt_eq]
    by_cases ht : p.1 = q.1
    · rw [ht, fput_same]
      have h1 := agree_iff.1 h p hp
      have h2 := agree_iff.1 h q (List.mem_cons_self ..)
      rw [← h1, ← h2, ht]
    · rw [fput_other ht]
      rcases List.mem_cons.1 hp with rfl | hp
      · exact absurd rfl ht
      · exact fpts_key (show agree φ' l from h.2) p hp
theorem agree_self {φ' ψ : Fr} {l : List (Nat × GV)} (h : agree φ' l) : agree (fpts ψ l) l := agree_iff.2 (fpts_key h)
theorem fpts_mem {φ : Fr} (e : Nat → Nat) : ∀ {l : List (Nat × GV)} {φ' : Fr}, agree φ' l → (∀ p ∈ l, p.2.ren e = p.2) → ∀ t, φ' t = ((fpts (fun _ => .any) l) t).ren e ∨ fpts (fun _ => .any) l t = .any
  | [], φ', _, _, t => .inr rfl
  | p :: l, φ', h, hr, t => by
    show φ' t = (fpt (fpts _ l) p.1 p.2 t).ren e ∨ fpt (fpts _ l) p.1 p.2 t = .any
    rw [fpt_eq]
    by_cases ht : t = p.1
    · subst ht
      left
      have h1 : φ' p.1 = p.2 := h.1
      rw [fput_same, h1, hr p (List.mem_cons_self ..)]
    · rw [fput_other ht]
      exact fpts_mem (φ := φ) e (show agree φ' l from h.2) (fun q hq => hr q (List.mem_cons_of_mem _ hq)) t
theorem GLoop.introS {α : Type} {f : GRun} {φ : Fr} {σ : GS} {K : GX → Fr → GS → Prop} (J : α → Prop) (L : α → List (Nat × GV)) (S : α → GS) (μ : α → Nat) (a0 : α)
    (h0 : J a0) (hφ : agree φ (L a0)) (hσ : σ = S a0)
    (hn : ∀ a, J a → (S a0).objs.length ≤ (S a).objs.length)
    (hh : ∀ a, J a → (S a).objs.all GObj.notHeld = true)
    (hc : ∀ a, J a → ∀ e : Nat → Nat, (∀ i, i < (S a).objs.length → e i = i) → (S a).objs.map (GObj.ren e) = (S a).objs ∧ (S a).ds.map (GDef.ren e) = (S a).ds ∧ (L a).map (fun p => p.2.ren e) = (L a).map (·.2))
    (step : ∀ a φ0, J a → f (fpts φ0 (L a)) (S a) fun x φ' σ' => match x with
      | .normal => ∃ m', m' < μ a ∧ ∃ a', J a' ∧ μ a' = m' ∧ agree φ' (L a') ∧ ∃ extra, σ'.objs = (S a').objs ++ extra ∧ σ'.ds = (S a').ds
      | .exit i => K (.exit i) φ' σ'
      | .ret => K .ret φ' σ'
      | .panic g => K (.panic g) φ' σ') : GLoop f φ σ K :=
  ⟨⟨fun m φ σ => ∃ a, J a ∧ μ a = m ∧ agree φ (L a) ∧ σ = S a, fun m φ' σ' => ∃ a', J a' ∧ μ a' = m ∧ agree φ' (L a') ∧ ∃ extra, σ'.objs = (S a').objs ++ extra ∧ σ'.ds = (S a').ds, μ a0, ⟨a0, h0, rfl, hφ, hσ⟩, fun m φ' σ' ⟨a', hJ, hm, hf, extra, ho, hd⟩ => by
    refine .inr ⟨fpts (fun _ => .any) (L a'), S a', ⟨⟨List.range (S a').objs.length, σ'.objs, LessO.refl _, ?_, fun i hi => ?_, ?_, ?_⟩⟩, a', hJ, hm, ?_, rfl⟩
    all_goals (try have he : ∀ i, i < (S a').objs.length → emb (List.range (S a').objs.length) σ'.objs.length i = i := fun i hi => by rw [emb_lt (by simpa using hi)]; simp)
    · obtain ⟨c1, _, _⟩ := hc a' hJ _ he
      refine ⟨List.nodup_range, by simp, fun i k x h1 h2 => ?_, fun x hx e => by subst e; have := List.all_eq_true.1 (hh a' hJ) _ hx; cases this⟩
      obtain ⟨h3, h4⟩ := List.getElem?_eq_some_iff.1 h1
      simp at h4; subst h4
      have hi : i < (S a').objs.length := by simpa using h3
      have := congrArg (fun l : List GObj => l[i]?) c1
      simp only [List.getElem?_map, h2, Option.map_some, Option.some.injEq] at this
      rw [this, ho, List.getElem?_append_left hi]
      exact h2
    · have : i < (S a').objs.length := Nat.lt_of_lt_of_le (by rw [← hσ]; exact hi) (hn a' hJ)
      simp [this]
    · rw [hd]; exact (hc a' hJ _ he).2.1.symm
    · refine fpts_mem (φ := φ) _ hf (fun p hp => ?_)
      have c3 := (hc a' hJ _ he).2.2
      obtain ⟨j, hj⟩ := List.mem_iff_getElem?.1 hp
      have := congrArg (fun l : List GV => l[j]?) c3
      simpa [List.getElem?_map, hj] using this
    · exact agree_self hf, fun m φ σ ⟨a, ha, hm, hf, hs⟩ => by
    subst hs; subst hm
    have := step a φ ha
    rwa [agree_fpts hf] at this⟩⟩
theorem wrap_in {n : Int} (h0 : -9223372036854775808 ≤ n) (h1 : n ≤ 9223372036854775807) : IntKind.i64.wrap n = n := IntWalk.i64_in n ⟨h0, h1⟩
theorem wrap_succ {i : Nat} (h : i < 9223372036854775807) : GV.i .i64 (IntKind.i64.wrap ((i : Int) + 1)) = .i .i64 ((i + 1 : Nat) : Int) := by
  rw [wrap_in (by omega) (by omega)]; rfl
theorem u8_eq {c d : UInt8} (h : ((c.toNat : Int) == (d.toNat : Int)) = true) : c = d := by
  simp at h; exact UInt8.toNat_inj.1 (by omega)
theorem u8_ne {c d : UInt8} (h : ((c.toNat : Int) == (d.toNat : Int)) = false) : c ≠ d := fun e => by simp [e] at h
theorem putBack_nil (objs : List GObj) : putBack [] [] objs = objs := by
  apply List.ext_getElem?
  intro r
  rw [putBack_get (fun k h => by cases h) (Nat.le_refl _)]
  unfold unemb
  by_cases hr : r < objs.length
  · rw [if_pos hr]; rfl
  · rw [if_neg hr]; simp; omega
theorem SC.pureFact {P : Program} {k : FuncId} {a args : List GV} {r : GV} (h : SC P k a [] (.val r) []) (σ : GS) (hlo : σ.lo = 0) (ha : ClL a) (hr : Cl r) (hw : Wks args a) : Fact P (.fn k) args σ (.val r) σ := by
  have := h.fact (σ := σ) [] Lies.nil hlo (by rw [ha]; exact hw)
  rw [putBack_nil] at this
  rw [show (GRes.val r).ren (emb [] σ.objs.length) = .val r by show GRes.val (r.ren _) = _; rw [hr]] at this
  exact this
theorem callP {P : Program} {M : FuncId → Bool} {k : FuncId} {a args : List GV} {r : GV} {σ : GS} {K : GRes → GS → Prop} (h : SC P k a [] (.val r) []) (hw : Wks args a) (hlo : σ.lo = 0) (ha : ClL a) (hr : Cl r) (hk : K (.val r) σ) :
    gcallK P M (.fn k) args σ K := ⟨.val r, σ, h.pureFact σ hlo ha hr hw, fun _ _ _ => rfl, hk⟩
theorem Lies.one {q : Nat} {x : GObj} {objs : List GObj} (hq : objs[q]? = some x) (hx : ∀ f, x.ren f = x) (hne : x ≠ .held) : Lies [q] [x] objs :=
  ⟨by simp, rfl, fun i k y h1 h2 => by
    rcases i with _ | i
    · simp at h1 h2; subst h1; subst h2; rw [hx]; exact hq
    · simp at h1, fun y hy => by simp at hy; subst hy; exact hne⟩
theorem GObj.box_cl {T : TypeId} {cs : List GV} (h : ClL cs) (f : Nat → Nat) : (GObj.box T cs).ren f = .box T cs := by
  show GObj.box T (cs.map _) = _
  rw [h f]
theorem Wks.cons {g h : GV} {gs hs : List GV} (a : Wk g h) (b : Wks gs hs) : Wks (g :: gs) (h :: hs) := ⟨a, b⟩
theorem Wks.nil : Wks [] [] := trivial
end Go.Proofs.YtcbknpdjdlgljaaGreatDoor
namespace Go.Proofs.YtcbknpdjdlgljaaGreatDoor
def laid6 : List GV := [.i .u8 0, .i .u8 1, .i .u8 28, .i .u8 2, .i .u8 29, .i .u8 14, .i .u8 24, .i .u8 3, .i .u8 30, .i .u8 22, .i .u8 20, .i .u8 15, .i .u8 25, .i .u8 17, .i .u8 4, .i .u8 8, .i .u8 31, .i .u8 27, .i .u8 13, .i .u8 23, .i .u8 21, .i .u8 19, .i .u8 16, .i .u8 7, .i .u8 26, .i .u8 12, .i .u8 18, .i .u8 6, .i .u8 11, .i .u8 5, .i .u8 10, .i .u8 9]
def laid7 : List GV := [.i .u8 0, .i .u8 1, .i .u8 56, .i .u8 2, .i .u8 57, .i .u8 49, .i .u8 28, .i .u8 3, .i .u8 61, .i .u8 58, .i .u8 42, .i .u8 50, .i .u8 38, .i .u8 29, .i .u8 17, .i .u8 4, .i .u8 62, .i .u8 47, .i .u8 59, .i .u8 36, .i .u8 45, .i .u8 43, .i .u8 51, .i .u8 22, .i .u8 53, .i .u8 39, .i .u8 33, .i .u8 30, .i .u8 24, .i .u8 18, .i .u8 12, .i .u8 5, .i .u8 63, .i .u8 55, .i .u8 48, .i .u8 27, .i .u8 60, .i .u8 41, .i .u8 37, .i .u8 16, .i .u8 46, .i .u8 35, .i .u8 44, .i .u8 21, .i .u8 52, .i .u8 32, .i .u8 23, .i .u8 11, .i .u8 54, .i .u8 26, .i .u8 40, .i .u8 15, .i .u8 34, .i .u8 20, .i .u8 31, .i .u8 10, .i .u8 25, .i .u8 14, .i .u8 19, .i .u8 9, .i .u8 13, .i .u8 8, .i .u8 7, .i .u8 6]
def laid3 : List GV := [.i .u64 1, .i .u64 10, .i .u64 100, .i .u64 1000, .i .u64 10000, .i .u64 100000, .i .u64 1000000, .i .u64 10000000, .i .u64 100000000, .i .u64 1000000000, .i .u64 10000000000, .i .u64 100000000000, .i .u64 1000000000000, .i .u64 10000000000000, .i .u64 100000000000000, .i .u64 1000000000000000, .i .u64 10000000000000000, .i .u64 100000000000000000, .i .u64 1000000000000000000, .i .u64 10000000000000000000]
def laid1 : List GV := [.ifc 311 (.snap [.s [118, 97, 108, 117, 101, 32, 111, 117, 116, 32, 111, 102, 32, 114, 97, 110, 103, 101]] 0)]
def laid0 : List GV := [.ifc 311 (.snap [.s [105, 110, 118, 97, 108, 105, 100, 32, 115, 121, 110, 116, 97, 120]] 0)]
class MaxL where
  m : Int
instance [MaxL] : Globals := ⟨fun g => match g with
  | 2 => some [.i .i64 MaxL.m]
  | 0 => some laid0
  | 1 => some laid1
  | 3 => some laid3
  | 6 => some laid6
  | 7 => some laid7
  | _ => none, fun t => Nat.beq t 115 || Nat.beq t 116 || Nat.beq t 180 || Nat.beq t 181 || Nat.beq t 235 || Nat.beq t 356 || Nat.beq t 413, fun _ => false, fun t => Nat.beq t 3 || Nat.beq t 67 || Nat.beq t 9⟩
end Go.Proofs.YtcbknpdjdlgljaaGreatDoor
namespace Go.Proofs.YtcbknpdjdlgljaaGreatDoor
open Go.RowKit
set_option maxRecDepth 100000
set_option linter.unusedVariables false
theorem mixed : Tryz.prog.follows .mixedOrders = true := by kernel_rfl
def noM : FuncId → Bool := fun _ => true
end Go.Proofs.YtcbknpdjdlgljaaGreatDoor
namespace Go.Proofs
open Go.Shelf
def Tryz.lays156_ren : Go.Shelf.Ren := ⟨fun | 156 => 20 | 165 => 63 | 166 => 64 | 169 => 65 | 240 => 107 | 241 => 108 | 276 => 163 | 277 => 164 | n => n, fun | 31 => 58 | 9 => 9 | 3 => 3 | 4 => 4 | 0 => 0 | 20 => 20 | 72 => 143 | 76 => 77 | 70 => 140 | 37 => 141 | 75 => 76 | 127 => 192 | 164 => 248 | 5 => 5 | 80 => 145 | n => n, fun | n => n⟩
theorem Tryz.lays156 : Go.Proofs.Lays.n156 Tryz.prog Tryz.lays156_ren := {
  mixed := by kernel_rfl
  f156 := Tryz.func20.trans (congrArg some (by kernel_rfl))
  f165 := Tryz.func63.trans (congrArg some (by kernel_rfl))
  f166 := Tryz.func64.trans (congrArg some (by kernel_rfl))
  f169 := Tryz.func65.trans (congrArg some (by kernel_rfl))
  f240 := Tryz.func107.trans (congrArg some (by kernel_rfl))
  f241 := Tryz.func108.trans (congrArg some (by kernel_rfl))
  f276 := Tryz.func163.trans (congrArg some (by kernel_rfl))
  f277 := Tryz.func164.trans (congrArg some (by kernel_rfl))
  t0 := Tryz.underlying0
  a0 := Tryz.isAgg0
  z0 := Tryz.sizeOf0
  v0 := Tryz.zeroValue0
  t3 := Tryz.underlying3
  a3 := Tryz.isAgg3
  z3 := Tryz.sizeOf3
  v3 := Tryz.zeroValue3
  t4 := Tryz.underlying4
  a4 := Tryz.isAgg4
  z4 := Tryz.sizeOf4
  v4 := Tryz.zeroValue4
  t9 := Tryz.underlying9
  a9 := Tryz.isAgg9
  z9 := Tryz.sizeOf9
  v9 := Tryz.zeroValue9
  t20 := Tryz.underlying20
  a20 := Tryz.isAgg20
  z20 := Tryz.sizeOf20
  v20 := Tryz.zeroValue20
  t31 := Tryz.underlying58
  a31 := Tryz.isAgg58
  z31 := Tryz.sizeOf58
  v31 := Tryz.zeroValue58
  t37 := Tryz.underlying141
  a37 := Tryz.isAgg141
  z37 := Tryz.sizeOf141
  v37 := Tryz.zeroValue141
  t70 := Tryz.underlying140
  a70 := Tryz.isAgg140
  z70 := Tryz.sizeOf140
  v70 := Tryz.zeroValue140
  t72 := Tryz.underlying143
  a72 := Tryz.isAgg143
  z72 := Tryz.sizeOf143
  v72 := Tryz.zeroValue143
  t75 := Tryz.underlying76
  a75 := Tryz.isAgg76
  z75 := Tryz.sizeOf76
  v75 := Tryz.zeroValue76
  t76 := Tryz.underlying77
  a76 := Tryz.isAgg77
  z76 := Tryz.sizeOf77
  v76 := Tryz.zeroValue77
  t127 := Tryz.underlying192
  a127 := Tryz.isAgg192
  z127 := Tryz.sizeOf192
  v127 := Tryz.zeroValue192
  t164 := Tryz.underlying248
  a164 := Tryz.isAgg248
  z164 := Tryz.sizeOf248
  v164 := Tryz.zeroValue248 }
theorem Tryz.Builder_Extra_156 : Builder.Extra Tryz.prog Tryz.lays156_ren := {
  sizeBuilder := by kernel_rfl
  liesBuilder := by kernel_rfl
  t5 := Tryz.underlying5
  a5 := Tryz.isAgg5
  z5 := Tryz.sizeOf5
  v5 := Tryz.zeroValue5
  infoByte := by kernel_rfl
  cellsByte := by kernel_rfl
  sizeByte := by kernel_rfl
  neB5 := by decide }
open Go.RowKit in
theorem Tryz.strings_Join_none (a : Option Addr) (c : Nat) (sep : ByteArray) (w : World) :
    Calls Tryz.prog 20 #[.slice a 0 c, .string sep] w fun e w' => e = .returned (.string ⟨#[]⟩) ∧ w' = w := Any.strings_Join_none Tryz.lays156 Tryz.Builder_Extra_156 a c sep w
open Go.RowKit in
theorem Tryz.strings_Join (bk o c : Nat) (xs : List ByteArray) (sep : ByteArray) (w : World) (hcells : ∀ (j : Nat) x, xs[j]? = some x → w.cell? ⟨bk, o + j, none⟩ = some (.string x)) (hbk : bk < w.heap.size) (hN : xs.length ≤ 140737488355328) (hcap : xs.length ≤ c) (hlen : (Lib.join (xs.map (·.data.toList)) sep.data.toList).length ≤ 140737488355328) :
    Calls Tryz.prog 20 #[.slice (some ⟨bk, o, none⟩) xs.length c, .string sep] w fun e w' => e = .returned (.string ⟨(Lib.join (xs.map (·.data.toList)) sep.data.toList).toArray⟩) ∧ Below w.heap.size w w' := Any.strings_Join Tryz.lays156 Tryz.Builder_Extra_156 bk o c xs sep w hcells hbk hN hcap hlen
def Tryz.lays172_ren : Go.Shelf.Ren := ⟨fun | 172 => 26 | 244 => 67 | 245 => 68 | 247 => 112 | 279 => 113 | 280 => 114 | 281 => 115 | 282 => 116 | 287 => 167 | 316 => 168 | 171 => 19 | 205 => 169 | 321 => 233 | 322 => 234 | 243 => 62 | 246 => 106 | 283 => 159 | 284 => 160 | 285 => 161 | 286 => 162 | 129 => 229 | 317 => 228 | 318 => 230 | 319 => 231 | 320 => 232 | 337 => 285 | 338 => 286 | n => n, fun | 9 => 9 | 3 => 3 | 75 => 76 | 76 => 77 | 4 => 4 | 5 => 5 | 167 => 194 | 37 => 141 | 0 => 0 | 85 => 195 | 2 => 2 | 168 => 197 | 53 => 146 | 175 => 253 | 46 => 255 | 210 => 258 | 127 => 192 | 145 => 313 | 143 => 311 | 21 => 21 | 171 => 243 | 173 => 246 | 212 => 306 | 51 => 307 | 20 => 20 | 213 => 308 | 232 => 393 | 233 => 394 | 80 => 145 | n => n, fun | 15 => 0 | 16 => 1 | 17 => 3 | 18 => 6 | 19 => 7 | n => n⟩
def Tryz.laysM246_ren : Go.Shelf.Ren := ⟨fun | 246 => 106 | 283 => 159 | 284 => 160 | 285 => 161 | 286 => 162 | 129 => 229 | 317 => 228 | 318 => 230 | 319 => 231 | 320 => 232 | 337 => 285 | 338 => 286 | n => n, fun | 2 => 2 | 3 => 3 | 9 => 9 | 4 => 4 | 171 => 243 | 0 => 0 | 53 => 146 | 37 => 141 | 5 => 5 | 173 => 246 | 212 => 306 | 51 => 307 | 20 => 20 | 213 => 308 | 46 => 255 | 232 => 393 | 233 => 394 | n => n, fun | 17 => 3 | 18 => 6 | 19 => 7 | n => n⟩
def Tryz.laysM243_ren : Go.Shelf.Ren := ⟨fun | 243 => 62 | 246 => 106 | 283 => 159 | 284 => 160 | 285 => 161 | 286 => 162 | 129 => 229 | 317 => 228 | 318 => 230 | 319 => 231 | 320 => 232 | 337 => 285 | 338 => 286 | n => n, fun | 3 => 3 | 9 => 9 | 2 => 2 | 4 => 4 | 171 => 243 | 0 => 0 | 53 => 146 | 37 => 141 | 5 => 5 | 173 => 246 | 212 => 306 | 51 => 307 | 20 => 20 | 213 => 308 | 46 => 255 | 232 => 393 | 233 => 394 | n => n, fun | 17 => 3 | 18 => 6 | 19 => 7 | n => n⟩
def Tryz.laysM171_ren : Go.Shelf.Ren := ⟨fun | 171 => 19 | 243 => 62 | 246 => 106 | 283 => 159 | 284 => 160 | 285 => 161 | 286 => 162 | 129 => 229 | 317 => 228 | 318 => 230 | 319 => 231 | 320 => 232 | 337 => 285 | 338 => 286 | n => n, fun | 3 => 3 | 9 => 9 | 2 => 2 | 4 => 4 | 171 => 243 | 0 => 0 | 53 => 146 | 37 => 141 | 5 => 5 | 173 => 246 | 212 => 306 | 51 => 307 | 20 => 20 | 213 => 308 | 46 => 255 | 232 => 393 | 233 => 394 | n => n, fun | 17 => 3 | 18 => 6 | 19 => 7 | n => n⟩
theorem Tryz.laysM171 : Go.Proofs.LaysM.n171 Tryz.prog Tryz.laysM171_ren := {
  mixed := by kernel_rfl
  f129 := Tryz.func229.trans (congrArg some (by kernel_rfl))
  f171 := Tryz.func19.trans (congrArg some (by kernel_rfl))
  f243 := Tryz.func62.trans (congrArg some (by kernel_rfl))
  f246 := Tryz.func106.trans (congrArg some (by kernel_rfl))
  f283 := Tryz.func159.trans (congrArg some (by kernel_rfl))
  f284 := Tryz.func160.trans (congrArg some (by kernel_rfl))
  f285 := Tryz.func161.trans (congrArg some (by kernel_rfl))
  f286 := Tryz.func162.trans (congrArg some (by kernel_rfl))
  f317 := Tryz.func228.trans (congrArg some (by kernel_rfl))
  f318 := Tryz.func230.trans (congrArg some (by kernel_rfl))
  f319 := Tryz.func231.trans (congrArg some (by kernel_rfl))
  f320 := Tryz.func232.trans (congrArg some (by kernel_rfl))
  f337 := Tryz.func285.trans (congrArg some (by kernel_rfl))
  f338 := Tryz.func286.trans (congrArg some (by kernel_rfl))
  t0 := Tryz.underlying0
  a0 := Tryz.isAgg0
  z0 := Tryz.sizeOf0
  v0 := Tryz.zeroValue0
  t2 := Tryz.underlying2
  a2 := Tryz.isAgg2
  z2 := Tryz.sizeOf2
  v2 := Tryz.zeroValue2
  t3 := Tryz.underlying3
  a3 := Tryz.isAgg3
  z3 := Tryz.sizeOf3
  v3 := Tryz.zeroValue3
  t4 := Tryz.underlying4
  a4 := Tryz.isAgg4
  z4 := Tryz.sizeOf4
  v4 := Tryz.zeroValue4
  t5 := Tryz.underlying5
  a5 := Tryz.isAgg5
  z5 := Tryz.sizeOf5
  v5 := Tryz.zeroValue5
  t9 := Tryz.underlying9
  a9 := Tryz.isAgg9
  z9 := Tryz.sizeOf9
  v9 := Tryz.zeroValue9
  t20 := Tryz.underlying20
  a20 := Tryz.isAgg20
  z20 := Tryz.sizeOf20
  v20 := Tryz.zeroValue20
  t37 := Tryz.underlying141
  a37 := Tryz.isAgg141
  z37 := Tryz.sizeOf141
  v37 := Tryz.zeroValue141
  t46 := Tryz.underlying255
  a46 := Tryz.isAgg255
  z46 := Tryz.sizeOf255
  v46 := Tryz.zeroValue255
  t51 := Tryz.underlying307
  a51 := Tryz.isAgg307
  z51 := Tryz.sizeOf307
  v51 := Tryz.zeroValue307
  t53 := Tryz.underlying146
  a53 := Tryz.isAgg146
  z53 := Tryz.sizeOf146
  v53 := Tryz.zeroValue146
  t171 := Tryz.underlying243
  a171 := Tryz.isAgg243
  z171 := Tryz.sizeOf243
  v171 := Tryz.zeroValue243
  t173 := Tryz.underlying246
  a173 := Tryz.isAgg246
  z173 := Tryz.sizeOf246
  v173 := Tryz.zeroValue246
  t212 := Tryz.underlying306
  a212 := Tryz.isAgg306
  z212 := Tryz.sizeOf306
  v212 := Tryz.zeroValue306
  t213 := Tryz.underlying308
  a213 := Tryz.isAgg308
  z213 := Tryz.sizeOf308
  t232 := Tryz.underlying393
  a232 := Tryz.isAgg393
  z232 := Tryz.sizeOf393
  v232 := Tryz.zeroValue393
  t233 := Tryz.underlying394
  a233 := Tryz.isAgg394
  z233 := Tryz.sizeOf394
  v233 := Tryz.zeroValue394
  g17 := by kernel_rfl
  g18 := by kernel_rfl
  g19 := by kernel_rfl
  i0 := by kernel_rfl
  i2 := by kernel_rfl
  i3 := by kernel_rfl
  i4 := by kernel_rfl
  i5 := by kernel_rfl
  i9 := by kernel_rfl
  i20 := by kernel_rfl
  i37 := by kernel_rfl
  i46 := by kernel_rfl
  i51 := by kernel_rfl
  i53 := by kernel_rfl
  i171 := by kernel_rfl
  i173 := by kernel_rfl
  i212 := by kernel_rfl
  i232 := by kernel_rfl
  i233 := by kernel_rfl
  m17 := by kernel_rfl
  m18 := by kernel_rfl
  m19 := by kernel_rfl }
open Go.RowKit Go.Sort Go.Lib in
theorem Tryz.strconv_Itoa (n : Int) (h0 : -9223372036854775808 ≤ n) (h1 : n ≤ 9223372036854775807) (w : World) (htab : Lib.TabIs Tryz.prog w "internal/strconv.uint64pow10" .u64 Lib.pow10Tab) :
    Calls Tryz.prog 19 #[.int .i64 n] w fun e w' => e = .returned (.string ⟨(Lib.itoa n).toArray⟩) ∧ ∃ k os, w' = grow (w.drewN k) os := Any.strconv_Itoa Tryz.laysM171 n h0 h1 w htab
def Tryz.laysC172_ren : Go.Shelf.Ren := ⟨fun | 172 => 26 | 244 => 67 | 245 => 68 | 247 => 112 | 279 => 113 | 280 => 114 | 281 => 115 | 282 => 116 | 287 => 167 | 316 => 168 | 171 => 19 | 205 => 169 | 321 => 233 | 322 => 234 | 243 => 62 | 246 => 106 | 283 => 159 | 284 => 160 | 285 => 161 | 286 => 162 | 129 => 229 | 317 => 228 | 318 => 230 | 319 => 231 | 320 => 232 | 337 => 285 | 338 => 286 | n => n, fun | 9 => 9 | 3 => 3 | 75 => 76 | 76 => 77 | 4 => 4 | 5 => 5 | 167 => 194 | 37 => 141 | 0 => 0 | 85 => 195 | 2 => 2 | 168 => 197 | 53 => 146 | 175 => 253 | 46 => 255 | 210 => 258 | 127 => 192 | 145 => 313 | 143 => 311 | 21 => 21 | 171 => 243 | 173 => 246 | 212 => 306 | 51 => 307 | 20 => 20 | 213 => 308 | 232 => 393 | 233 => 394 | 80 => 145 | n => n, fun | 15 => 0 | 16 => 1 | 17 => 3 | 18 => 6 | 19 => 7 | n => n⟩
theorem Tryz.laysC172 : Go.Proofs.LaysC.n172 Tryz.prog Tryz.laysC172_ren := {
  mixed := by kernel_rfl
  f129 := Tryz.func229.trans (congrArg some (by kernel_rfl))
  f171 := Tryz.func19.trans (congrArg some (by kernel_rfl))
  f172 := Tryz.func26.trans (congrArg some (by kernel_rfl))
  f205 := Tryz.func169.trans (congrArg some (by kernel_rfl))
  f243 := Tryz.func62.trans (congrArg some (by kernel_rfl))
  f244 := Tryz.func67.trans (congrArg some (by kernel_rfl))
  f245 := Tryz.func68.trans (congrArg some (by kernel_rfl))
  f246 := Tryz.func106.trans (congrArg some (by kernel_rfl))
  f247 := Tryz.func112.trans (congrArg some (by kernel_rfl))
  f279 := Tryz.func113.trans (congrArg some (by kernel_rfl))
  f280 := Tryz.func114.trans (congrArg some (by kernel_rfl))
  f281 := Tryz.func115.trans (congrArg some (by kernel_rfl))
  f282 := Tryz.func116.trans (congrArg some (by kernel_rfl))
  f283 := Tryz.func159.trans (congrArg some (by kernel_rfl))
  f284 := Tryz.func160.trans (congrArg some (by kernel_rfl))
  f285 := Tryz.func161.trans (congrArg some (by kernel_rfl))
  f286 := Tryz.func162.trans (congrArg some (by kernel_rfl))
  f287 := Tryz.func167.trans (congrArg some (by kernel_rfl))
  f316 := Tryz.func168.trans (congrArg some (by kernel_rfl))
  f317 := Tryz.func228.trans (congrArg some (by kernel_rfl))
  f318 := Tryz.func230.trans (congrArg some (by kernel_rfl))
  f319 := Tryz.func231.trans (congrArg some (by kernel_rfl))
  f320 := Tryz.func232.trans (congrArg some (by kernel_rfl))
  f321 := Tryz.func233.trans (congrArg some (by kernel_rfl))
  f322 := Tryz.func234.trans (congrArg some (by kernel_rfl))
  f337 := Tryz.func285.trans (congrArg some (by kernel_rfl))
  f338 := Tryz.func286.trans (congrArg some (by kernel_rfl))
  t0 := Tryz.underlying0
  a0 := Tryz.isAgg0
  z0 := Tryz.sizeOf0
  v0 := Tryz.zeroValue0
  t2 := Tryz.underlying2
  a2 := Tryz.isAgg2
  z2 := Tryz.sizeOf2
  v2 := Tryz.zeroValue2
  t3 := Tryz.underlying3
  a3 := Tryz.isAgg3
  z3 := Tryz.sizeOf3
  v3 := Tryz.zeroValue3
  t4 := Tryz.underlying4
  a4 := Tryz.isAgg4
  z4 := Tryz.sizeOf4
  v4 := Tryz.zeroValue4
  t5 := Tryz.underlying5
  a5 := Tryz.isAgg5
  z5 := Tryz.sizeOf5
  v5 := Tryz.zeroValue5
  t9 := Tryz.underlying9
  a9 := Tryz.isAgg9
  z9 := Tryz.sizeOf9
  v9 := Tryz.zeroValue9
  t20 := Tryz.underlying20
  a20 := Tryz.isAgg20
  z20 := Tryz.sizeOf20
  v20 := Tryz.zeroValue20
  t21 := Tryz.underlying21
  a21 := Tryz.isAgg21
  z21 := Tryz.sizeOf21
  v21 := Tryz.zeroValue21
  t37 := Tryz.underlying141
  a37 := Tryz.isAgg141
  z37 := Tryz.sizeOf141
  v37 := Tryz.zeroValue141
  t46 := Tryz.underlying255
  a46 := Tryz.isAgg255
  z46 := Tryz.sizeOf255
  v46 := Tryz.zeroValue255
  t51 := Tryz.underlying307
  a51 := Tryz.isAgg307
  z51 := Tryz.sizeOf307
  v51 := Tryz.zeroValue307
  t53 := Tryz.underlying146
  a53 := Tryz.isAgg146
  z53 := Tryz.sizeOf146
  v53 := Tryz.zeroValue146
  t75 := Tryz.underlying76
  a75 := Tryz.isAgg76
  z75 := Tryz.sizeOf76
  v75 := Tryz.zeroValue76
  t76 := Tryz.underlying77
  a76 := Tryz.isAgg77
  z76 := Tryz.sizeOf77
  v76 := Tryz.zeroValue77
  t85 := Tryz.underlying195
  a85 := Tryz.isAgg195
  z85 := Tryz.sizeOf195
  v85 := Tryz.zeroValue195
  t127 := Tryz.underlying192
  a127 := Tryz.isAgg192
  z127 := Tryz.sizeOf192
  v127 := Tryz.zeroValue192
  t143 := Tryz.underlying311
  a143 := Tryz.isAgg311
  z143 := Tryz.sizeOf311
  v143 := Tryz.zeroValue311
  t145 := Tryz.underlying313
  a145 := Tryz.isAgg313
  z145 := Tryz.sizeOf313
  v145 := Tryz.zeroValue313
  t167 := Tryz.underlying194
  a167 := Tryz.isAgg194
  z167 := Tryz.sizeOf194
  v167 := Tryz.zeroValue194
  t168 := Tryz.underlying197
  a168 := Tryz.isAgg197
  z168 := Tryz.sizeOf197
  v168 := Tryz.zeroValue197
  t171 := Tryz.underlying243
  a171 := Tryz.isAgg243
  z171 := Tryz.sizeOf243
  v171 := Tryz.zeroValue243
  t173 := Tryz.underlying246
  a173 := Tryz.isAgg246
  z173 := Tryz.sizeOf246
  v173 := Tryz.zeroValue246
  t175 := Tryz.underlying253
  a175 := Tryz.isAgg253
  z175 := Tryz.sizeOf253
  v175 := Tryz.zeroValue253
  t210 := Tryz.underlying258
  a210 := Tryz.isAgg258
  z210 := Tryz.sizeOf258
  v210 := Tryz.zeroValue258
  t212 := Tryz.underlying306
  a212 := Tryz.isAgg306
  z212 := Tryz.sizeOf306
  v212 := Tryz.zeroValue306
  t213 := Tryz.underlying308
  a213 := Tryz.isAgg308
  z213 := Tryz.sizeOf308
  t232 := Tryz.underlying393
  a232 := Tryz.isAgg393
  z232 := Tryz.sizeOf393
  v232 := Tryz.zeroValue393
  t233 := Tryz.underlying394
  a233 := Tryz.isAgg394
  z233 := Tryz.sizeOf394
  v233 := Tryz.zeroValue394
  g15 := by kernel_rfl
  g16 := by kernel_rfl
  g17 := by kernel_rfl
  g18 := by kernel_rfl
  g19 := by kernel_rfl
  t80 := Tryz.underlying145
  a80 := Tryz.isAgg145
  z80 := Tryz.sizeOf145
  v80 := Tryz.zeroValue145
  i0 := by kernel_rfl
  i2 := by kernel_rfl
  i3 := by kernel_rfl
  i4 := by kernel_rfl
  i5 := by kernel_rfl
  i9 := by kernel_rfl
  i20 := by kernel_rfl
  i21 := by kernel_rfl
  i37 := by kernel_rfl
  i46 := by kernel_rfl
  i51 := by kernel_rfl
  i53 := by kernel_rfl
  i75 := by kernel_rfl
  i76 := by kernel_rfl
  i80 := by kernel_rfl
  i85 := by kernel_rfl
  i127 := by kernel_rfl
  i143 := by kernel_rfl
  i145 := by kernel_rfl
  i167 := by kernel_rfl
  i168 := by kernel_rfl
  i171 := by kernel_rfl
  i173 := by kernel_rfl
  i175 := by kernel_rfl
  i210 := by kernel_rfl
  i212 := by kernel_rfl
  i232 := by kernel_rfl
  i233 := by kernel_rfl
  m15 := by kernel_rfl
  m16 := by kernel_rfl
  m17 := by kernel_rfl
  m18 := by kernel_rfl
  m19 := by kernel_rfl
  c0 := by kernel_rfl
  c2 := by kernel_rfl
  c3 := by kernel_rfl
  c4 := by kernel_rfl
  c5 := by kernel_rfl
  c9 := by kernel_rfl
  c20 := by kernel_rfl
  c21 := by kernel_rfl
  c37 := by kernel_rfl
  c46 := by kernel_rfl
  c51 := by kernel_rfl
  c53 := by kernel_rfl
  c75 := by kernel_rfl
  c76 := by kernel_rfl
  c80 := by kernel_rfl
  c85 := by kernel_rfl
  c127 := by kernel_rfl
  c143 := by kernel_rfl
  c145 := by kernel_rfl
  c167 := by kernel_rfl
  c168 := by kernel_rfl
  c171 := by kernel_rfl
  c173 := by kernel_rfl
  c175 := by kernel_rfl
  c210 := by kernel_rfl
  c212 := by kernel_rfl
  c213 := by kernel_rfl
  c232 := by kernel_rfl
  c233 := by kernel_rfl }
open Go.RowKit in
theorem Tryz.strconv_Atoi_ok (s : ByteArray) (hmax : s.size ≤ 9223372036854775806) (v : Int) (h : Lib.atoiAll s.data.toList = .ok v) (w : World) :
    Calls Tryz.prog 26 #[.string s] w fun e w' => e = .returned (.tuple #[.int .i64 v, .nilIface]) ∧ (w' = w ∨ ∃ t, w' = Lib.bytesWorld w 5 t) := Any.strconv_Atoi_ok Tryz.laysC172 s hmax v h w
open Go.RowKit in
theorem Tryz.strconv_Atoi_range (s : ByteArray) (hlim : s.size ≤ 281474976710656) (h : Lib.atoiAll s.data.toList = .range) (ev : Value) (w : World) (hv : w.cell? ⟨1, 0, none⟩ = some ev) (hev : ev = .nilIface ∨ ∃ te pe, ev = .iface te pe) :
    Calls Tryz.prog 26 #[.string s] w fun e w' => ∃ N, e = .returned (.tuple #[.int .i64 (Lib.atoiSat s.data.toList), .iface 197 (.pointer (some ⟨N, 0, none⟩))]) ∧ w.heap.size ≤ N ∧ w'.heap[N]? = some (.cells #[.string ⟨#[65, 116, 111, 105]⟩, .string s, ev] 258 (0, 0)) ∧ Below w.heap.size w w' := Any.strconv_Atoi_range Tryz.laysC172 s hlim h ev w hv hev
def Tryz.lays219_ren : Go.Shelf.Ren := ⟨fun | 219 => 119 | 217 => 171 | 225 => 172 | 224 => 173 | 267 => 174 | 266 => 235 | 314 => 236 | n => n, fun | 9 => 9 | 3 => 3 | 4 => 4 | 5 => 5 | 46 => 255 | 146 => 318 | 51 => 307 | n => n, fun | 1 => 2 | n => n⟩
def Tryz.lays143_ren : Go.Shelf.Ren := ⟨fun | 143 => 111 | 219 => 119 | 217 => 171 | 225 => 172 | 224 => 173 | 267 => 174 | 266 => 235 | 314 => 236 | n => n, fun | 9 => 9 | 3 => 3 | 4 => 4 | 5 => 5 | 46 => 255 | 146 => 318 | 51 => 307 | n => n, fun | 1 => 2 | n => n⟩
theorem Tryz.lays143 : Go.Proofs.Lays.n143 Tryz.prog Tryz.lays143_ren := {
  mixed := by kernel_rfl
  f143 := Tryz.func111.trans (congrArg some (by kernel_rfl))
  f217 := Tryz.func171.trans (congrArg some (by kernel_rfl))
  f219 := Tryz.func119.trans (congrArg some (by kernel_rfl))
  f224 := Tryz.func173.trans (congrArg some (by kernel_rfl))
  f225 := Tryz.func172.trans (congrArg some (by kernel_rfl))
  f266 := Tryz.func235.trans (congrArg some (by kernel_rfl))
  f267 := Tryz.func174.trans (congrArg some (by kernel_rfl))
  f314 := Tryz.func236.trans (congrArg some (by kernel_rfl))
  t3 := Tryz.underlying3
  a3 := Tryz.isAgg3
  z3 := Tryz.sizeOf3
  v3 := Tryz.zeroValue3
  t4 := Tryz.underlying4
  a4 := Tryz.isAgg4
  z4 := Tryz.sizeOf4
  v4 := Tryz.zeroValue4
  t5 := Tryz.underlying5
  a5 := Tryz.isAgg5
  z5 := Tryz.sizeOf5
  v5 := Tryz.zeroValue5
  t9 := Tryz.underlying9
  a9 := Tryz.isAgg9
  z9 := Tryz.sizeOf9
  v9 := Tryz.zeroValue9
  t46 := Tryz.underlying255
  a46 := Tryz.isAgg255
  z46 := Tryz.sizeOf255
  v46 := Tryz.zeroValue255
  t51 := Tryz.underlying307
  a51 := Tryz.isAgg307
  z51 := Tryz.sizeOf307
  v51 := Tryz.zeroValue307
  t146 := Tryz.underlying318
  a146 := Tryz.isAgg318
  z146 := Tryz.sizeOf318
  v146 := Tryz.zeroValue318
  g1 := by kernel_rfl }
open Go.RowKit Go.Lib in
theorem Tryz.strings_Index (s sub : ByteArray) (m : Int) (w : World) (hs : s.size < 4294967281) (hm : w.cell? ⟨2, 0, none⟩ = some (.int .i64 m)) :
    Calls Tryz.prog 111 #[.string s, .string sub] w fun e w' => e = .returned (.int .i64 (Lib.index s.data.toList sub.data.toList)) ∧ w' = w := Any.strings_Index Tryz.lays143 s sub m w hs hm
def Tryz.lays145_ren : Go.Shelf.Ren := ⟨fun | 145 => 28 | 220 => 70 | 219 => 119 | 217 => 171 | 225 => 172 | 224 => 173 | 267 => 174 | 266 => 235 | 314 => 236 | n => n, fun | 9 => 9 | 4 => 4 | 59 => 82 | 3 => 3 | 5 => 5 | 46 => 255 | 146 => 318 | 51 => 307 | n => n, fun | 1 => 2 | n => n⟩
theorem Tryz.lays145 : Go.Proofs.Lays.n145 Tryz.prog Tryz.lays145_ren := {
  mixed := by kernel_rfl
  f145 := Tryz.func28.trans (congrArg some (by kernel_rfl))
  f217 := Tryz.func171.trans (congrArg some (by kernel_rfl))
  f219 := Tryz.func119.trans (congrArg some (by kernel_rfl))
  f220 := Tryz.func70.trans (congrArg some (by kernel_rfl))
  f224 := Tryz.func173.trans (congrArg some (by kernel_rfl))
  f225 := Tryz.func172.trans (congrArg some (by kernel_rfl))
  f266 := Tryz.func235.trans (congrArg some (by kernel_rfl))
  f267 := Tryz.func174.trans (congrArg some (by kernel_rfl))
  f314 := Tryz.func236.trans (congrArg some (by kernel_rfl))
  t3 := Tryz.underlying3
  a3 := Tryz.isAgg3
  z3 := Tryz.sizeOf3
  v3 := Tryz.zeroValue3
  t4 := Tryz.underlying4
  a4 := Tryz.isAgg4
  z4 := Tryz.sizeOf4
  v4 := Tryz.zeroValue4
  t5 := Tryz.underlying5
  a5 := Tryz.isAgg5
  z5 := Tryz.sizeOf5
  v5 := Tryz.zeroValue5
  t9 := Tryz.underlying9
  a9 := Tryz.isAgg9
  z9 := Tryz.sizeOf9
  v9 := Tryz.zeroValue9
  t46 := Tryz.underlying255
  a46 := Tryz.isAgg255
  z46 := Tryz.sizeOf255
  v46 := Tryz.zeroValue255
  t51 := Tryz.underlying307
  a51 := Tryz.isAgg307
  z51 := Tryz.sizeOf307
  v51 := Tryz.zeroValue307
  t59 := Tryz.underlying82
  a59 := Tryz.isAgg82
  z59 := Tryz.sizeOf82
  v59 := Tryz.zeroValue82
  t146 := Tryz.underlying318
  a146 := Tryz.isAgg318
  z146 := Tryz.sizeOf318
  v146 := Tryz.zeroValue318
  g1 := by kernel_rfl }
open Go.RowKit Go.Lib in
theorem Tryz.strings_Cut (s sep : ByteArray) (m : Int) (w : World) (hs : s.size < 4294967281) (hm : w.cell? ⟨2, 0, none⟩ = some (.int .i64 m)) :
    Calls Tryz.prog 28 #[.string s, .string sep] w fun e w' => e = .returned (.tuple #[.string ⟨(Lib.cut s.data.toList sep.data.toList).1.toArray⟩, .string ⟨(Lib.cut s.data.toList sep.data.toList).2.1.toArray⟩, .bool (Lib.cut s.data.toList sep.data.toList).2.2]) ∧ ∃ n, w' = w.drewN n := Any.strings_Cut Tryz.lays145 s sep m w hs hm
def Tryz.lays221_ren : Go.Shelf.Ren := ⟨fun | 221 => 66 | 268 => 109 | 138 => 110 | 143 => 111 | 195 => 165 | 197 => 118 | 218 => 166 | 219 => 119 | 260 => 170 | 217 => 171 | 225 => 172 | 224 => 173 | 267 => 174 | 266 => 235 | 314 => 236 | n => n, fun | 9 => 9 | 3 => 3 | 31 => 58 | 4 => 4 | 0 => 0 | 105 => 200 | 21 => 21 | 5 => 5 | 46 => 255 | 119 => 314 | 139 => 317 | 138 => 316 | 146 => 318 | 51 => 307 | n => n, fun | 1 => 2 | 3 => 4 | 4 => 5 | n => n⟩
def Tryz.lays146_ren : Go.Shelf.Ren := ⟨fun | 146 => 24 | 221 => 66 | 268 => 109 | 138 => 110 | 143 => 111 | 195 => 165 | 197 => 118 | 218 => 166 | 219 => 119 | 260 => 170 | 217 => 171 | 225 => 172 | 224 => 173 | 267 => 174 | 266 => 235 | 314 => 236 | n => n, fun | 9 => 9 | 31 => 58 | 3 => 3 | 4 => 4 | 0 => 0 | 105 => 200 | 21 => 21 | 5 => 5 | 46 => 255 | 119 => 314 | 139 => 317 | 138 => 316 | 146 => 318 | 51 => 307 | n => n, fun | 1 => 2 | 3 => 4 | 4 => 5 | n => n⟩
theorem Tryz.lays146 : Go.Proofs.Lays.n146 Tryz.prog Tryz.lays146_ren := {
  mixed := by kernel_rfl
  f138 := Tryz.func110.trans (congrArg some (by kernel_rfl))
  f143 := Tryz.func111.trans (congrArg some (by kernel_rfl))
  f146 := Tryz.func24.trans (congrArg some (by kernel_rfl))
  f195 := Tryz.func165.trans (congrArg some (by kernel_rfl))
  f197 := Tryz.func118.trans (congrArg some (by kernel_rfl))
  f217 := Tryz.func171.trans (congrArg some (by kernel_rfl))
  f218 := Tryz.func166.trans (congrArg some (by kernel_rfl))
  f219 := Tryz.func119.trans (congrArg some (by kernel_rfl))
  f221 := Tryz.func66.trans (congrArg some (by kernel_rfl))
  f224 := Tryz.func173.trans (congrArg some (by kernel_rfl))
  f225 := Tryz.func172.trans (congrArg some (by kernel_rfl))
  f260 := Tryz.func170.trans (congrArg some (by kernel_rfl))
  f266 := Tryz.func235.trans (congrArg some (by kernel_rfl))
  f267 := Tryz.func174.trans (congrArg some (by kernel_rfl))
  f268 := Tryz.func109.trans (congrArg some (by kernel_rfl))
  f314 := Tryz.func236.trans (congrArg some (by kernel_rfl))
  t0 := Tryz.underlying0
  a0 := Tryz.isAgg0
  z0 := Tryz.sizeOf0
  v0 := Tryz.zeroValue0
  t3 := Tryz.underlying3
  a3 := Tryz.isAgg3
  z3 := Tryz.sizeOf3
  v3 := Tryz.zeroValue3
  t4 := Tryz.underlying4
  a4 := Tryz.isAgg4
  z4 := Tryz.sizeOf4
  v4 := Tryz.zeroValue4
  t5 := Tryz.underlying5
  a5 := Tryz.isAgg5
  z5 := Tryz.sizeOf5
  v5 := Tryz.zeroValue5
  t9 := Tryz.underlying9
  a9 := Tryz.isAgg9
  z9 := Tryz.sizeOf9
  v9 := Tryz.zeroValue9
  t21 := Tryz.underlying21
  a21 := Tryz.isAgg21
  z21 := Tryz.sizeOf21
  v21 := Tryz.zeroValue21
  t31 := Tryz.underlying58
  a31 := Tryz.isAgg58
  z31 := Tryz.sizeOf58
  v31 := Tryz.zeroValue58
  t46 := Tryz.underlying255
  a46 := Tryz.isAgg255
  z46 := Tryz.sizeOf255
  v46 := Tryz.zeroValue255
  t51 := Tryz.underlying307
  a51 := Tryz.isAgg307
  z51 := Tryz.sizeOf307
  v51 := Tryz.zeroValue307
  t105 := Tryz.underlying200
  a105 := Tryz.isAgg200
  z105 := Tryz.sizeOf200
  v105 := Tryz.zeroValue200
  t119 := Tryz.underlying314
  a119 := Tryz.isAgg314
  z119 := Tryz.sizeOf314
  t138 := Tryz.underlying316
  a138 := Tryz.isAgg316
  z138 := Tryz.sizeOf316
  v138 := Tryz.zeroValue316
  t139 := Tryz.underlying317
  a139 := Tryz.isAgg317
  z139 := Tryz.sizeOf317
  v139 := Tryz.zeroValue317
  t146 := Tryz.underlying318
  a146 := Tryz.isAgg318
  z146 := Tryz.sizeOf318
  v146 := Tryz.zeroValue318
  g1 := by kernel_rfl
  g3 := by kernel_rfl
  g4 := by kernel_rfl }
open Go.RowKit Go.Lib in
theorem Tryz.strings_Split (s sep : ByteArray) (m : Int) (w : World) (hs : s.size < 4294967281) (hm : w.cell? ⟨2, 0, none⟩ = some (.int .i64 m)) (h1 : 1 ≤ sep.size) :
    Calls Tryz.prog 24 #[.string s, .string sep] w fun e w' =>
      e = .returned (.slice (some ⟨w.heap.size, 0, none⟩) (Lib.countB s sep + 1) (Lib.countB s sep + 1)) ∧ w' = w.alloc (.cells ((Lib.splitB sep 0 (Lib.countB s sep) s).map Value.string).toArray 9) := Any.strings_Split Tryz.lays146 (by kernel_rfl) s sep m w hs hm h1
end Go.Proofs
namespace Go.Proofs.YtcbknpdjdlgljaaGreatDoor
open Go.RowKit Go.Sort
theorem SC.of_calls [Globals] {P : Program} {k : FuncId} {args : List GV} {g : GV}
    (h : ∀ (C : Cx) (w : World) (vs : Array Value), Rel C ⟨[], 0, []⟩ w w → VRs C args vs.toList → Calls P k vs w fun e w' => ∃ v, e = .returned v ∧ Base (fun _ => False) w w' ∧ VR C g v) :
    SC P k args [] (.val g) [] := by
  refine ⟨Nat.le_refl _, fun C w vs hr hv => (h C w vs hr hv).mono fun e w' ⟨v, he, hb, hg⟩ => ⟨C, .refl C, ?_, v, he, hg⟩, fun x hx => by simp at hx⟩
  have hb' : Base C.mine w w' := ⟨hb.os, hb.output, hb.size, fun i hi _ => hb.block i hi (fun h => h)⟩
  refine ⟨hb', fun b o v hx => ?_, fun r x hx => by simp at hx, hr.dom, hr.new, hr.inj, hr.sepB, hr.sepO, hr.fxn, hr.gl, hr.gs⟩
  have h1 := hr.fxc b o v hx
  have hlt : b < w.heap.size := block_lt_of_cell h1
  unfold World.cell? at h1 ⊢
  rw [hb.block b hlt (fun h => h)]
  exact h1
theorem Base.grow_drew (w : World) (k : Nat) (os : Array Obj) : Base (fun _ => False) w (grow (w.drewN k) os) := by
  refine ⟨rfl, rfl, ?_, fun i hi _ => ?_⟩
  · show w.heap.size ≤ (w.heap ++ os).size
    simp
  · show (w.heap ++ os)[i]? = w.heap[i]?
    rw [Array.getElem?_append_left hi]
end Go.Proofs.YtcbknpdjdlgljaaGreatDoor
namespace Go.Proofs.YtcbknpdjdlgljaaGreatDoor
open Go.RowKit Go.Sort
set_option maxRecDepth 100000
set_option linter.unusedVariables false
theorem Base.below {w w' : World} (h : Below w.heap.size w w') : Base (fun _ => False) w w' := ⟨h.os, h.output, h.size, fun i hi _ => h.block i hi⟩
theorem Base.bytes (w : World) (e : TypeId) (s : ByteArray) : Base (fun _ => False) w (Lib.bytesWorld w e s) := .below (Lib.bytesWorld_below w e s)
theorem var_of [MaxL] {C : Cx} {σ : GS} {w : World} (hr : Rel C σ w w) {P : Program} {g : Nat} {name : String} {cs : List GV} {vs : List Value} (hn : P.globalNamed name = some g) (ht : Globals.tab g = some cs) (hlen : vs.length = cs.length)
    (hv : ∀ (j : Nat) x u, cs[j]? = some x → VR C x u → vs[j]? = some u) : w.var? P name = some vs.toArray := by
  obtain ⟨_, c, t, fr, ho, hsz⟩ := hr.gs g cs ht
  unfold World.var?
  rw [hn]
  show (match w.heap[g]? with | some (.cells cs _ _) => some cs | _ => none) = _
  rw [ho]
  simp only [Option.some.injEq]
  apply Array.ext (by simp [hsz, hlen])
  intro i h1 h2
  have hi : i < cs.length := by omega
  obtain ⟨u, hfx, hvr⟩ := hr.gl g cs i cs[i] ht (List.getElem?_eq_getElem hi)
  have hc := hr.fxc _ _ _ hfx
  have hu := hv i _ u (List.getElem?_eq_getElem hi) (hvr C fun _ _ _ h => h)
  unfold World.cell? at hc
  rw [ho] at hc
  simp at hc
  rw [Array.getElem?_eq_getElem h1] at hc
  rw [List.getElem?_eq_getElem (by simpa using h2)] at hu
  simp at hc hu ⊢
  rw [hc, hu]
theorem c_Itoa [MaxL] (n : Int) (h0 : -9223372036854775808 ≤ n) (h1 : n ≤ 9223372036854775807) : SC Tryz.prog 19 [.i .i64 n] [] (.val (.s (Lib.itoa n))) [] := by
  refine SC.of_calls fun C w vs hr hv => ?_
  obtain ⟨v, vs', e, hv1, hv2⟩ := hv.cons_inv
  have : vs' = [] := List.eq_nil_of_length_eq_zero (by simpa using hv2.1)
  subst this
  obtain rfl : vs = #[v] := by rw [← Array.toArray_toList (xs := vs), e]
  cases hv1
  have htab : Lib.TabIs Tryz.prog w "internal/strconv.uint64pow10" .u64 Lib.pow10Tab := by
    refine var_of hr (g := 3) (cs := laid3) (by kernel_rfl) rfl (by kernel_rfl) (fun j x u hx hu => ?_)
    have key : laid3 = Lib.pow10Tab.map fun z => GV.i .u64 z := by kernel_rfl
    rw [key, List.getElem?_map, Option.map_eq_some_iff] at hx
    obtain ⟨z, hz, rfl⟩ := hx
    cases hu
    rw [List.getElem?_map, hz]; rfl
  refine (Tryz.strconv_Itoa n h0 h1 w htab).mono ?_
  rintro e w' ⟨he, k, os, rfl⟩
  exact ⟨_, he, Base.grow_drew w k os, .s _⟩
theorem c_Join [MaxL] (xs : List (List UInt8)) (sep : List UInt8) (h1 : xs.length ≤ 140737488355328) (h2 : (Lib.join xs sep).length ≤ 140737488355328) : SC Tryz.prog 20 [.sl .none (xs.map .s), .s sep] [] (.val (.s (Lib.join xs sep))) [] := by
  refine SC.of_calls fun C w vs hr hv => ?_
  obtain ⟨u, vs', e, hv1, hv2⟩ := hv.cons_inv
  obtain ⟨u2, vs'', rfl, hv3, hv4⟩ := hv2.cons_inv
  have : vs'' = [] := List.eq_nil_of_length_eq_zero (by simpa using hv4.1)
  subst this
  obtain rfl : vs = #[u, u2] := by rw [← Array.toArray_toList (xs := vs), e]
  cases hv3
  cases hv1 with
  | sl esz b off us hn hc ha hw hx hvv ht =>
  rename_i a n c
  have hn' : n = xs.length := by simpa using hn
  subst hn'
  have he1 : ∀ (j : Nat) x, xs[j]? = some x → esz = 1 := fun j x hj => by
    have := hw (.s x) (List.mem_map.2 ⟨x, List.mem_iff_getElem?.2 ⟨j, hj⟩, rfl⟩)
    simpa [GV.cells] using this.symm
  by_cases h0 : xs.length = 0
  · have : xs = [] := List.eq_nil_of_length_eq_zero h0
    subst this
    refine (Tryz.strings_Join_none a c ⟨sep.toArray⟩ w).mono ?_
    rintro e w' ⟨he, rfl⟩
    exact ⟨_, he, .refl _ _, .s []⟩
  · rcases ha with ⟨rfl, hc0⟩ | rfl | h9
    · omega
    rotate_left
    · omega
    · have hcell : ∀ (j : Nat) x, xs[j]? = some x → w.cell? ⟨b, off + j, none⟩ = some (.string ⟨x.toArray⟩) := fun j x hj => by
        have e1 := he1 j x hj
        subst e1
        have hm : (xs.map GV.s)[j]? = some (.s x) := by rw [List.getElem?_map, hj]; rfl
        have q1 := hr.fxc _ _ _ (hx j (.s x) 0 (.s x) hm rfl)
        have q2 := hvv j (.s x) 0 (.s x) hm rfl
        rw [show off + j * 1 + 0 = off + j by omega] at q1
        rw [q1]
        generalize us (j * 1 + 0) = z at q2
        cases q2
        rfl
      have hbk : b < w.heap.size := by
        have := hcell 0 xs[0] (List.getElem?_eq_getElem (by omega))
        exact block_lt_of_cell this
      have key : (xs.map fun x => (⟨x.toArray⟩ : ByteArray)).map (·.data.toList) = xs := by rw [List.map_map]; simp [Function.comp_def]
      have := Tryz.strings_Join b off c (xs.map fun x => ⟨x.toArray⟩) ⟨sep.toArray⟩ w (fun j x hj => by
        rw [List.getElem?_map, Option.map_eq_some_iff] at hj
        obtain ⟨y, hy, rfl⟩ := hj
        exact hcell j y hy) hbk (by simpa using h1) (by simpa using hc) (by rw [key]; simpa using h2)
      rw [key] at this
      simp only [List.length_map] at this
      refine this.mono ?_
      rintro e w' ⟨he, hb⟩
      exact ⟨_, he, .below hb, .s _⟩
end Go.Proofs.YtcbknpdjdlgljaaGreatDoor
namespace Go.Proofs.YtcbknpdjdlgljaaGreatDoor
open Go.RowKit
set_option linter.unusedSectionVars false
variable [Globals]
set_option linter.unusedVariables false
theorem callG {P : Program} {M : FuncId → Bool} {k : FuncId} {a args : List GV} {s s' : List GObj} {r r' : GRes} {σ : GS} {K : GRes → GS → Prop} (h : SC P k a s r s') (ks : List Nat) {objs' : List GObj} (hl : Lies ks s σ.objs)
    (hw : Wks args (a.map (GV.ren (emb ks σ.objs.length)))) (hlo : σ.lo = 0) (hM : M k = false) (ho : putBack ks s' σ.objs = objs') (hr : r.ren (emb ks σ.objs.length) = r') (hk : K r' ⟨objs', σ.lo, σ.ds⟩) (hD : dynM M = false := by rfl) : gcallK P M (.fn k) args σ K := by
  have hf := h.fact (σ := σ) (args' := args) ks hl hlo hw
  rw [ho, hr] at hf
  exact ⟨r', _, hf, (noPure hM hD), hk⟩
theorem Wk.agg {l l' : List GV} (hl : l.length = l'.length) (h : ∀ (j : Nat) g g', l[j]? = some g → l'[j]? = some g' → Wk g g') : Wk (.agg l) (.agg l') := fun C v hv => by
  cases hv with
  | agg hs hv =>
  refine .agg (by rw [hs, hl]) (fun j g u h1 h2 => ?_)
  have hj : j < l.length := by rw [hl]; exact (List.getElem?_eq_some_iff.1 h1).1
  exact h j l[j] g (List.getElem?_eq_getElem hj) h1 C u (hv j _ u (List.getElem?_eq_getElem hj) h2)
end Go.Proofs.YtcbknpdjdlgljaaGreatDoor
namespace Go.Proofs.YtcbknpdjdlgljaaGreatDoor
open Go.RowKit
set_option linter.unusedSectionVars false
variable [Globals]
set_option linter.unusedVariables false
def roundEnd (r : Nat) (ds : List GDef) (res : GRes) (σ' : GS) : GX → Fr → GS → Prop
  | .normal, _, σ2 => gendRound r ds none σ2 = some (res, σ')
  | .ret, _, σ2 => gendRound r ds (some .ret) σ2 = some (res, σ')
  | .exit id, _, σ2 => gendRound r ds (some (.exit id)) σ2 = some (res, σ')
  | .panic _, _, _ => False
def roundMid (P : Program) (M : FuncId → Bool) (r n : Nat) (body : Code) (ds : List GDef) (res : GRes) (σ' : GS) : GX → Fr → GS → Prop
  | .normal, φ1, σ1 => match σ1.objs[r]? with
    | some (.loop .ready pe' n' φ' ps' asg' body' rd') => gsetK σ1 r (.loop .busy pe' n' φ' ps' asg' body' rd') fun s => gwp P M (some r) n body φ1 s (roundEnd r ds res σ')
    | _ => False
  | _, _, _ => False
theorem Fact.yld {P : Program} (M : FuncId → Bool) (hm : P.follows .mixedOrders = true) {r n rd : Nat} {pe : Option Code} {φ : Fr} {ps : Array Tmp} {asg body : Code} {σ σ' : GS} {args : List GV} {res : GRes}
    (ho : σ.objs[r]? = some (.loop .ready pe n φ ps asg body rd)) (hlen : args.length = ps.size) (hps : ps.toList.all (fun t => Nat.blt t n) = true) (hlo : σ.lo = 0) (hh : σ.objs.all GObj.notHeld = true) (hsz : σ.objs.length ≤ σ'.objs.length) (hlo' : σ'.lo = 0) (hds : σ'.ds = σ.ds)
    (h : gwp P M (some r) n asg ((ps.toList.zip args).foldl (fun φ p => fput φ p.1 p.2) φ) { σ with ds := [] } (roundMid P M r n body σ.ds res σ')) : Fact P (.yld r) args σ res σ' := by
  have hnh : ∀ k : Nat, σ.objs[k]? ≠ some .held := fun k hk => by
    have := List.all_eq_true.1 hh .held (List.mem_iff_getElem?.2 ⟨k, hk⟩)
    cases this
  have hps' : ∀ t ∈ ps.toList, t < n := fun t ht => by
    have := List.all_eq_true.1 hps t ht
    simpa [Nat.blt_eq] using this
  refine ⟨⟨by rw [hlo', hlo], hsz, fun _ k hk => by omega, fun k hk => absurd hk (hnh k)⟩, hds, fun w0 C w vs hr hv b hb => ?_⟩
  obtain ⟨h0, b', L, h1, h2, h3, h4, h5, h6, h7, h8, h9, h10⟩ := hr.obj r _ ho
  rw [hb] at h1; cases h1
  have hvs : vs.size = L.params.size := by rw [h5, ← hlen]; have := hv.1; simpa using this
  refine ⟨L.fn, _, L.assign, L.body, run_yield h2 hvs, ?_⟩
  obtain ⟨q1, q2⟩ := fputs_rel ps.toList args vs.toList φ L.tmps hv hps' h9 h8
  have etm : (L.params.zip vs).foldl (fun (tmps : Array Value) (x : Tmp × Value) => tmps.setIfInBounds x.1 x.2) L.tmps = (ps.toList.zip vs.toList).foldl (fun (tmps : Array Value) p => tmps.setIfInBounds p.1 p.2) L.tmps := by
    rw [h5, ← Array.foldl_toList, Array.toList_zip]
  refine roundIn_of_wpIn (F := Fence.wide) trivial ?_
  rw [h6, h7]
  show Code.wpIn (FW (some b)) 0 P asg _ _ w
  refine gwp_sound (ro := some r) hm asg _ _ C (some b) _ _ _ w h hb (hr.ds _) (by rw [etm]; exact q1) (by rw [etm]; exact q2) trivial (fun x φ1 σ1 hk => ?_)
  cases x with
  | exit id => exact hk.elim
  | ret => exact hk.elim
  | panic g => exact hk.elim
  | normal =>
  intro D a1 w1 hl hf1 hn1 hd1 hr1
  simp only [roundMid] at hk
  split at hk
  · rename_i pe' n' φ' ps' asg' body' rd' ho1
    have hk := gsetK_of (K := fun s => gwp P M (some r) n body φ1 s (roundEnd r σ.ds res σ')) hk
    have hbD : D.bk r = some b := hl.bk _ _ hb
    obtain ⟨g0, b', L1, g1, g2, g3, g4, g5, g6, g7, g8, g9, g10⟩ := hr1.obj r _ ho1
    rw [hbD] at g1; cases g1
    have hlt : b < w1.heap.size := (Array.getElem?_eq_some_iff.1 g2).1
    refine ⟨_, run_beginRound g2 g3, ?_⟩
    have hr2 : Rel D (gset σ1 r (.loop .busy pe' n' φ' ps' asg' body' rd')) w0 (w1.putObj b (.loop { L1 with state := .busy })) :=
      hr1.putLoop (List.getElem?_eq_some_iff.1 ho1).1 hbD _ ⟨g0, b, _, hbD, World.putObj_heap_same hlt, rfl, g4, g5, g6, g7, g8, g9, g10⟩
    show Code.wpIn (FW (some b)) 0 P body _ _ _
    refine gwp_sound (ro := some r) hm body _ _ D (some b) _ _ _ _ hk hbD hr2 hf1 hn1 hd1 (fun x φ2 σ2 hend => ?_)
    intro E a2 w2 hE hf2 hn2 hd2 hr3
    have done : ∀ {jump : Option Code}, gendRound r σ.ds jump σ2 = some (res, σ') → ∃ v w', (Instr.endRound b jump).run P w2 = .ok v w' ∧ ∃ D, C.le D ∧ Rel D σ' w0 w' ∧ ERel D res (.returned v) := fun {jump} he => by
      by_cases hlo2 : σ2.lo ≤ r
      · obtain ⟨v, w3, p1, F, p2, p3, p4⟩ := (gendRound_sound (P := P) (w0 := w0) (C := E) (b := b) (w := w2) hlo2 he).2.2 hr3 (hE.bk _ _ hbD)
        exact ⟨v, w3, p1, F, (hl.trans hE).trans p2, p3, p4⟩
      · exfalso
        unfold gendRound at he
        split at he
        · cases he
          have : σ2.lo = 0 := hlo'
          omega
        · cases he
    cases x with
    | normal => obtain ⟨v, w3, p1, p2⟩ := done hend; exact ⟨v, w3, p1, p2⟩
    | ret => obtain ⟨v, w3, p1, p2⟩ := done hend; exact ⟨v, w3, p1, p2⟩
    | exit id => obtain ⟨v, w3, p1, p2⟩ := done hend; exact ⟨v, w3, p1, p2⟩
    | panic g => exact hend.elim
  · exact hk.elim
theorem callY {P : Program} {M : FuncId → Bool} {r : Nat} {args : List GV} {res : GRes} {σ σ' : GS} {K : GRes → GS → Prop} (h : Fact P (.yld r) args σ res σ') (hk : K res σ') (hD : dynM M = false := by rfl) : gcallK P M (.yld r) args σ K := ⟨res, σ', h, (fun k e => by rcases e with e | e; cases e; rw [hD] at e; cases e), hk⟩
theorem emb_range {N i : Nat} : emb (List.range N) N i = i := by
  by_cases h : i < N
  · rw [emb_lt (by simpa using h)]; simp
  · rw [emb_ge (by simp; omega)]; simp; omega
theorem emb_id {N : Nat} : emb (List.range N) N = id := funext fun i => emb_range
mutual
theorem GV.ren_id : ∀ g : GV, g.ren id = g
  | .agg cs => by rw [GV.ren, GV.renL_id cs]
  | .tup cs => by rw [GV.ren, GV.renL_id cs]
  | .ifc t g => by rw [GV.ren, GV.ren_id g]
  | .fn k a c => by rw [GV.ren, GV.renL_id a, GV.renL_id c]
  | .sl k xs => by rw [GV.ren, GV.renL_id xs]; cases k <;> rfl
  | .ptr r off => rfl
  | .snap cs off => by rw [GV.ren, GV.renL_id cs]
  | .mp r => rfl
  | .rs r off esz n c => rfl
  | .yld r => rfl
  | .dat r cs => by rw [GV.ren, GV.renL_id cs]; rfl
  | .glb g off => rfl
  | .b t => rfl
  | .i k n => rfl
  | .s l => rfl
  | .o v => rfl
  | .any => rfl
theorem GV.renL_id : ∀ l : List GV, GV.renL id l = l
  | [] => rfl
  | x :: xs => by rw [GV.renL, GV.ren_id x, GV.renL_id xs]
end
theorem map_ren_id (l : List GV) : l.map (GV.ren id) = l := by rw [← renL_map, GV.renL_id]
theorem GObj.ren_id (x : GObj) : x.ren id = x := by
  cases x with
  | box T cs => show GObj.box T (cs.map (GV.ren id)) = _; rw [map_ren_id]
  | mp es => show GObj.mp (es.map fun e => (e.1.ren id, e.2.ren id)) = _; simp [GV.ren_id]
  | mx es bs clk => show GObj.mx (es.map fun e => (e.1.ren id, e.2.ren id)) bs clk = _; simp [GV.ren_id]
  | it m since seen last => show GObj.it (m.map id) since seen last = _; simp
  | loop st pe n φ ps asg body rd => show GObj.loop st pe n (fun t => (φ t).ren id) ps asg body rd = _; simp [GV.ren_id]
  | _ => rfl
theorem Lies.all (s : List GObj) (hh : ∀ x ∈ s, x ≠ .held) : Lies (List.range s.length) s s :=
  ⟨List.nodup_range, by simp, fun i k x h1 h2 => by
    rw [emb_id, GObj.ren_id]
    obtain ⟨h3, h4⟩ := List.getElem?_eq_some_iff.1 h1
    simp at h4; subst h4; exact h2, hh⟩
theorem GRes.ren_id (r : GRes) : r.ren id = r := by cases r <;> (simp only [GRes.ren]; rw [GV.ren_id])
theorem putBack_all {s s' : List GObj} (h : s.length ≤ s'.length) : putBack (List.range s.length) s' s = s' := by
  apply List.ext_getElem?
  intro r
  rw [putBack_get (fun k hk => by simpa using hk) (by simpa using h), emb_id]
  unfold unemb
  by_cases hr : r < s.length
  · rw [if_pos hr]
    have : (List.range s.length).idxOf? r = some r := idxOf?_nodup List.nodup_range (by simp [hr])
    rw [this]
    show Option.map (GObj.ren id) s'[r]? = s'[r]?
    cases s'[r]? with
    | none => rfl
    | some x => rw [Option.map_some, GObj.ren_id]
  · rw [if_neg hr]
    simp only [List.length_range]
    rw [show s.length + (r - s.length) = r by omega]
    cases s'[r]? with
    | none => rfl
    | some x => rw [Option.map_some, GObj.ren_id]
theorem SC.factAll {P : Program} {k : FuncId} {args : List GV} {s s' : List GObj} {r : GRes} {σ : GS} (h : SC P k args s r s') (hs : σ.objs = s) (hlo : σ.lo = 0) (hh : ∀ x ∈ s, x ≠ .held) : Fact P (.fn k) args σ r { σ with objs := s' } := by
  have := h.fact (σ := σ) (args' := args) (List.range s.length) (by rw [hs]; exact Lies.all s hh) hlo (by rw [hs, emb_id, map_ren_id]; exact .refl _)
  rw [hs, emb_id, GRes.ren_id, putBack_all h.len] at this
  exact this
end Go.Proofs.YtcbknpdjdlgljaaGreatDoor
namespace Go.Proofs.YtcbknpdjdlgljaaGreatDoor
open Go.RowKit
set_option linter.unusedSectionVars false
variable [Globals]
set_option linter.unusedVariables false
theorem glistK_mk {α : Type} : ∀ {l : List α} {K : List α → Prop}, K l → glistK l K
  | [], K, h => h
  | x :: l, K, h => glistK_mk (l := l) (K := fun ys => K (x :: ys)) h
end Go.Proofs.YtcbknpdjdlgljaaGreatDoor
namespace Go.Proofs.YtcbknpdjdlgljaaGreatDoor
open Go.RowKit
set_option linter.unusedSectionVars false
variable [Globals]
set_option linter.unusedVariables false
def Own0 (s : List GObj) : Prop := ∀ e : Nat → Nat, (∀ i, i < s.length → e i = i) → s.map (GObj.ren e) = s
theorem emb_pre {m N i : Nat} (h : i < m) : emb (List.range m) N i = i := by rw [emb_lt (by simpa using h)]; simp
theorem Lies.pre {s rest : List GObj} (hc : Own0 s) (hh : ∀ x ∈ s, x ≠ .held) : Lies (List.range s.length) s (s ++ rest) :=
  ⟨List.nodup_range, by simp, fun i k x h1 h2 => by
    obtain ⟨h3, h4⟩ := List.getElem?_eq_some_iff.1 h1
    simp at h4; subst h4
    have hi : i < s.length := by simpa using h3
    have := congrArg (fun l : List GObj => l[i]?) (hc _ (fun j hj => emb_pre (N := (s ++ rest).length) hj))
    simp only [List.getElem?_map, h2, Option.map_some, Option.some.injEq] at this
    rw [this, List.getElem?_append_left hi]
    exact h2, hh⟩
theorem owesPre {s s' rest : List GObj} {r r' : GRes} {lo : Nat} {ds : List GDef} {objs : List GObj} (ho : objs = s' ++ rest) (hl : s.length ≤ s'.length) (hc : Own0 s') (hh : s'.all GObj.notHeld = true) (hr : ∀ e : Nat → Nat, (∀ i, i < s'.length → e i = i) → r'.ren e = r') (hw : WkRes r r') :
    Owes s r' s' r ⟨objs, lo, ds⟩ := by
  subst ho
  have hh' : ∀ x ∈ s', x ≠ .held := fun x hx e => by subst e; have := List.all_eq_true.1 hh _ hx; cases this
  refine ⟨List.range s'.length, Lies.pre hc hh', fun i hi => by rw [List.getElem?_range (by omega)], ?_⟩
  rw [hr _ (fun i hi => emb_pre hi)]; exact hw
end Go.Proofs.YtcbknpdjdlgljaaGreatDoor
