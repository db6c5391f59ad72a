/-
  HostNothing: the methods of no program tell nothing: whatever the text, the law answers true: the card, for every input.
-/
import Derived.Test.YtldggonlkafckaaGreatDoorQ1
import Derived.Test.YtldggonlkafckaaGreatDoorRows
import Derived.Test.YtldggonlkafckaaGreatDoorQ16
import Derived.HandedShaped
import Derived.Shelf.Vars
import Derived.Test.YtldggonlkafckaaGreatDoorTie
import Derived.Test.YtldggonlkafckaaGreatDoorCards
import Derived.Carry
import Derived.Lay
import Derived.Test.YtldggonlkafckaaGreatDoorChecked
import Derived.Shelf.Spec.SlicesGrow
import Derived.Shelf.Strings.Builder1
import Derived.Shelf.Strings.Builder2
import Derived.Shelf.Strings.OnBuilder
import Derived.Shelf.Strings.BuilderF
import Derived.Shelf.Strings.BuilderK
import Derived.Shelf.Strconv.Atoi
import Derived.Shelf.Strconv.Itoa0
import Derived.Shelf.Strconv.Itoa1
import Derived.Shelf.LaysM
import Derived.Shelf.Strconv.Itoa2
import Derived.Shelf.Strconv.Itoa3
import Derived.Shelf.Strconv.AtoiErrFast
import Derived.Shelf.Strconv.ParseIntEmpty
import Derived.Shelf.Strconv.AtoiFail
import Derived.Shelf.Strconv.Clone
import Derived.Shelf.Strconv.SyntaxError
import Derived.Shelf.LaysC
import Derived.Shelf.Strconv.ToError
import Derived.Shelf.Strconv.AtoiErr
import Derived.Shelf.Strconv.Lower
import Derived.Shelf.Strconv.ParseUint10
import Derived.Shelf.Strconv.ParseUint10Empty
import Derived.Shelf.Strconv.ParseUint10Any
import Derived.Shelf.Strconv.ParseInt10
import Derived.Shelf.Strconv.AtoiLong
import Derived.Shelf.Strconv.AtoiInnerAll
import Derived.Shelf.Strconv.RangeError
import Derived.Shelf.Strconv.ToErrorRange
import Derived.Shelf.Strconv.AtoiAll
import Derived.Shelf.Strconv.ErrVarAll
import Derived.Shelf.Strings.Search1
import Derived.Shelf.Strings.Search2
import Derived.Shelf.Strings.Search3
import Derived.Shelf.Strings.Cut
import Derived.Shelf.Strings.Shaped
import Derived.Shelf.Strings.Fields
import Derived.Shelf.Strings.SplitShaped
import Derived.Shelf.Unicode.Latin
import Derived.Shelf.Unicode.Decode
import Derived.Shelf.Unicode.DecodeSlow
import Derived.Shelf.Unicode.DecodeAny
import Derived.Shelf.Unicode.Is16White
import Derived.Shelf.Unicode.IsSpaceAny
import Derived.Shelf.Unicode.Is16Any
import Derived.Shelf.Unicode.Is32Any
import Derived.Shelf.Unicode.ExclAny
import Derived.Shelf.Slices.Turned
import Derived.Sort.Grow
import Derived.Deep.Draws
set_option linter.all false
namespace Go.Proofs.YtldggonlkafckaaGreatDoor
def laid8 : List GV := [.i .u8 0, .i .u8 1, .i .u8 28, .i .u8 2, .i .u8 29, .i .u8 14, .i .u8 24, .i .u8 3, .i .u8 30, .i .u8 22, .i .u8 20, .i .u8 15, .i .u8 25, .i .u8 17, .i .u8 4, .i .u8 8, .i .u8 31, .i .u8 27, .i .u8 13, .i .u8 23, .i .u8 21, .i .u8 19, .i .u8 16, .i .u8 7, .i .u8 26, .i .u8 12, .i .u8 18, .i .u8 6, .i .u8 11, .i .u8 5, .i .u8 10, .i .u8 9]
def laid9 : List GV := [.i .u8 0, .i .u8 1, .i .u8 56, .i .u8 2, .i .u8 57, .i .u8 49, .i .u8 28, .i .u8 3, .i .u8 61, .i .u8 58, .i .u8 42, .i .u8 50, .i .u8 38, .i .u8 29, .i .u8 17, .i .u8 4, .i .u8 62, .i .u8 47, .i .u8 59, .i .u8 36, .i .u8 45, .i .u8 43, .i .u8 51, .i .u8 22, .i .u8 53, .i .u8 39, .i .u8 33, .i .u8 30, .i .u8 24, .i .u8 18, .i .u8 12, .i .u8 5, .i .u8 63, .i .u8 55, .i .u8 48, .i .u8 27, .i .u8 60, .i .u8 41, .i .u8 37, .i .u8 16, .i .u8 46, .i .u8 35, .i .u8 44, .i .u8 21, .i .u8 52, .i .u8 32, .i .u8 23, .i .u8 11, .i .u8 54, .i .u8 26, .i .u8 40, .i .u8 15, .i .u8 34, .i .u8 20, .i .u8 31, .i .u8 10, .i .u8 25, .i .u8 14, .i .u8 19, .i .u8 9, .i .u8 13, .i .u8 8, .i .u8 7, .i .u8 6]
def laid7 : List GV := [.i .u64 1, .i .u64 10, .i .u64 100, .i .u64 1000, .i .u64 10000, .i .u64 100000, .i .u64 1000000, .i .u64 10000000, .i .u64 100000000, .i .u64 1000000000, .i .u64 10000000000, .i .u64 100000000000, .i .u64 1000000000000, .i .u64 10000000000000, .i .u64 100000000000000, .i .u64 1000000000000000, .i .u64 10000000000000000, .i .u64 100000000000000000, .i .u64 1000000000000000000, .i .u64 10000000000000000000]
def laid5 : List GV := [.ifc 364 (.snap [.s [118, 97, 108, 117, 101, 32, 111, 117, 116, 32, 111, 102, 32, 114, 97, 110, 103, 101]] 0)]
def laid4 : List GV := [.ifc 364 (.snap [.s [105, 110, 118, 97, 108, 105, 100, 32, 115, 121, 110, 116, 97, 120]] 0)]
def laid3 : List GV := [.i .u8 0, .i .u8 0, .i .u8 0, .i .u8 0, .i .u8 0, .i .u8 0, .i .u8 0, .i .u8 0, .i .u8 0, .i .u8 1, .i .u8 1, .i .u8 1, .i .u8 1, .i .u8 1, .i .u8 0, .i .u8 0, .i .u8 0, .i .u8 0, .i .u8 0, .i .u8 0, .i .u8 0, .i .u8 0, .i .u8 0, .i .u8 0, .i .u8 0, .i .u8 0, .i .u8 0, .i .u8 0, .i .u8 0, .i .u8 0, .i .u8 0, .i .u8 0, .i .u8 1, .i .u8 0, .i .u8 0, .i .u8 0, .i .u8 0, .i .u8 0, .i .u8 0, .i .u8 0, .i .u8 0, .i .u8 0, .i .u8 0, .i .u8 0, .i .u8 0, .i .u8 0, .i .u8 0, .i .u8 0, .i .u8 0, .i .u8 0, .i .u8 0, .i .u8 0, .i .u8 0, .i .u8 0, .i .u8 0, .i .u8 0, .i .u8 0, .i .u8 0, .i .u8 0, .i .u8 0, .i .u8 0, .i .u8 0, .i .u8 0, .i .u8 0, .i .u8 0, .i .u8 0, .i .u8 0, .i .u8 0, .i .u8 0, .i .u8 0, .i .u8 0, .i .u8 0, .i .u8 0, .i .u8 0, .i .u8 0, .i .u8 0, .i .u8 0, .i .u8 0, .i .u8 0, .i .u8 0, .i .u8 0, .i .u8 0, .i .u8 0, .i .u8 0, .i .u8 0, .i .u8 0, .i .u8 0, .i .u8 0, .i .u8 0, .i .u8 0, .i .u8 0, .i .u8 0, .i .u8 0, .i .u8 0, .i .u8 0, .i .u8 0, .i .u8 0, .i .u8 0, .i .u8 0, .i .u8 0, .i .u8 0, .i .u8 0, .i .u8 0, .i .u8 0, .i .u8 0, .i .u8 0, .i .u8 0, .i .u8 0, .i .u8 0, .i .u8 0, .i .u8 0, .i .u8 0, .i .u8 0, .i .u8 0, .i .u8 0, .i .u8 0, .i .u8 0, .i .u8 0, .i .u8 0, .i .u8 0, .i .u8 0, .i .u8 0, .i .u8 0, .i .u8 0, .i .u8 0, .i .u8 0, .i .u8 0, .i .u8 0, .i .u8 0, .i .u8 0, .i .u8 0, .i .u8 0, .i .u8 0, .i .u8 0, .i .u8 0, .i .u8 0, .i .u8 0, .i .u8 0, .i .u8 0, .i .u8 0, .i .u8 0, .i .u8 0, .i .u8 0, .i .u8 0, .i .u8 0, .i .u8 0, .i .u8 0, .i .u8 0, .i .u8 0, .i .u8 0, .i .u8 0, .i .u8 0, .i .u8 0, .i .u8 0, .i .u8 0, .i .u8 0, .i .u8 0, .i .u8 0, .i .u8 0, .i .u8 0, .i .u8 0, .i .u8 0, .i .u8 0, .i .u8 0, .i .u8 0, .i .u8 0, .i .u8 0, .i .u8 0, .i .u8 0, .i .u8 0, .i .u8 0, .i .u8 0, .i .u8 0, .i .u8 0, .i .u8 0, .i .u8 0, .i .u8 0, .i .u8 0, .i .u8 0, .i .u8 0, .i .u8 0, .i .u8 0, .i .u8 0, .i .u8 0, .i .u8 0, .i .u8 0, .i .u8 0, .i .u8 0, .i .u8 0, .i .u8 0, .i .u8 0, .i .u8 0, .i .u8 0, .i .u8 0, .i .u8 0, .i .u8 0, .i .u8 0, .i .u8 0, .i .u8 0, .i .u8 0, .i .u8 0, .i .u8 0, .i .u8 0, .i .u8 0, .i .u8 0, .i .u8 0, .i .u8 0, .i .u8 0, .i .u8 0, .i .u8 0, .i .u8 0, .i .u8 0, .i .u8 0, .i .u8 0, .i .u8 0, .i .u8 0, .i .u8 0, .i .u8 0, .i .u8 0, .i .u8 0, .i .u8 0, .i .u8 0, .i .u8 0, .i .u8 0, .i .u8 0, .i .u8 0, .i .u8 0, .i .u8 0, .i .u8 0, .i .u8 0, .i .u8 0, .i .u8 0, .i .u8 0, .i .u8 0, .i .u8 0, .i .u8 0, .i .u8 0, .i .u8 0, .i .u8 0, .i .u8 0, .i .u8 0, .i .u8 0, .i .u8 0, .i .u8 0, .i .u8 0, .i .u8 0, .i .u8 0, .i .u8 0, .i .u8 0, .i .u8 0, .i .u8 0, .i .u8 0, .i .u8 0, .i .u8 0, .i .u8 0, .i .u8 0]
class MaxL where
  m : Int
instance [MaxL] : Globals := ⟨fun g => match g with
  | 0 => some [.i .i64 MaxL.m]
  | 3 => some laid3
  | 4 => some laid4
  | 5 => some laid5
  | 7 => some laid7
  | 8 => some laid8
  | 9 => some laid9
  | _ => none, fun t => Nat.beq t 133, fun _ => false⟩
end Go.Proofs.YtldggonlkafckaaGreatDoor
namespace Go.Proofs.YtldggonlkafckaaGreatDoor
open Go Go.ChangeShapes Go.WideShapes Go.RowKit
set_option maxRecDepth 100000
theorem own : ownKnob Tryz.prog.godebug = none := by kernel_rfl
theorem star : "*" ++ "errors.errorString" = "*errors.errorString" := by decide
theorem rowErr (u : TypeId) (h : Tryz.prog.typeName? 3 u = some "*errors.errorString") : u = 364 :=
  typeName_ptr_named (nm := "errors.errorString") (by rw [star]; kernel_rfl) (by kernel_rfl) (by decide) u (by rw [star]; exact h)
theorem und_err : Tryz.prog.underlying 129 = some (.interface #[("Error", 57)]) := by kernel_rfl
theorem und_ptr : Tryz.prog.underlying 364 = some (.pointer 366) := by kernel_rfl
theorem und_est : Tryz.prog.underlying 366 = some (.struct #[{ name := "s", type := 9, offset := 0, embedded := false, tag := "", pkgPath := "errors", byteOffset := 0 }]) := by kernel_rfl
theorem und_str : Tryz.prog.underlying 9 = some .string := by kernel_rfl
theorem und_bool : Tryz.prog.underlying 4 = some .bool := by kernel_rfl
theorem told_err [MaxL] {W : World} {g : Nat} {n : String} {t f : Nat} {cs : Array Value} {s : List UInt8} {p : List MemPlace} (hg : Tryz.prog.globalNamed n = some g) (hv : W.var? Tryz.prog n = some cs)
    (ht : t = 129)
    (h : DataW.trod (fun _ => ()) Tryz.prog W 0 (fun _ => true) false f t cs.toList = some (.iface "*errors.errorString" (.ptr (.agg [.lit (.string s)])), p))
    (hok : ∀ u v, cs.toList = [.iface u v] → Value.okWide Tryz.prog W .any 0 u v) :
    cs.size = 1 ∧ ∀ (j : Nat) x, ([.ifc 364 (.snap [.s s] 0)] : List GV)[j]? = some x → ∃ u, W.cell? ⟨g, j, none⟩ = some u ∧ ∀ D : Cx, (∀ b o v, W.cell? ⟨b, o, none⟩ = some v → D.fx b o v) → VR D x u := by
  subst ht
  obtain ⟨a, b, e, hc, hb, _, _⟩ := errorString_of_trod und_err rowErr und_ptr und_est rfl rfl und_str (by kernel_rfl) (by kernel_rfl) h hok
  refine ⟨by have := congrArg List.length e; simpa using this, ?_⟩
  refine told_cells (l := cs.toList) (fun j => by rw [World.var?_cell hg hv j]; simp) (by rw [e]; rfl) fun j x u hx hu D hD => ?_
  rw [e] at hu
  have hj : j = 0 := by
    have := (List.getElem?_eq_some_iff.1 hx).1
    simpa using this
  subst hj
  cases hx; cases hu
  obtain ⟨ab, ao, asp⟩ := a
  have hsp : asp = none := by
    unfold World.cell? at hc
    split at hc
    · simp only at hc
      split at hc
      · cases hc
      · rename_i h0; simpa using h0
    · cases hc
  subst hsp
  refine .ifc ?_
  have := VR.snap (C := D) (cs := [.s s]) (off := 0) ab ao (fun _ => .string b) (fun j g hj => ?_) (fun j g hj => ?_)
  · simpa using this
  · have hj0 : j = 0 := by
      have := (List.getElem?_eq_some_iff.1 hj).1
      simpa using this
    subst hj0
    exact hD _ _ _ (by simpa using hc)
  · have hj0 : j = 0 := by
      have := (List.getElem?_eq_some_iff.1 hj).1
      simpa using this
    subst hj0
    cases hj
    have : b = ⟨s.toArray⟩ := by rw [← hb]
    rw [this]
    exact .s s
theorem told_ints [MaxL] {W : World} {g n e : Nat} {k : IntKind} {nm : String} {t f : Nat} {cs : Array Value} {p : List MemPlace} (l : List Int) (hg : Tryz.prog.globalNamed nm = some g) (hv : W.var? Tryz.prog nm = some cs)
    (ht : Tryz.prog.underlying t = some (.array n e)) (he : Tryz.prog.underlying e = some (.int k)) (hc : Tryz.prog.cellsOf e = 1) (hn : l.length = n) (hct : Tryz.prog.cellsOf t = n)
    (h : DataW.trod (fun _ => ()) Tryz.prog W 0 (fun _ => true) false f t cs.toList = some (.agg (l.map fun x => .lit (.int k x)), p)) :
    cs.size = l.length ∧ ∀ (j : Nat) x, (l.map (GV.i k))[j]? = some x → ∃ u, W.cell? ⟨g, j, none⟩ = some u ∧ ∀ D : Cx, (∀ b o v, W.cell? ⟨b, o, none⟩ = some v → D.fx b o v) → VR D x u := by
  have hcs := ints_of_trod l ht he hc hn hct h
  refine ⟨by have := congrArg List.length hcs; simpa using this, ?_⟩
  refine told_cells (l := cs.toList) (fun j => by rw [World.var?_cell hg hv j]; simp) (by rw [hcs]; simp) fun j x u hx hu D hD => ?_
  rw [hcs, List.getElem?_map] at hu
  rw [List.getElem?_map] at hx
  obtain ⟨z, hz, rfl⟩ := Option.map_eq_some_iff.1 hx
  rw [hz] at hu
  cases hu
  exact .i k z
end Go.Proofs.YtldggonlkafckaaGreatDoor
namespace Go.Proofs.YtldggonlkafckaaGreatDoor
open Go Go.ChangeShapes Go.WideShapes Go.RowKit Go.ChangeMaps
set_option maxRecDepth 100000
set_option linter.unusedVariables false
def iv : GV → Option Int
  | .i _ n => some n
  | _ => none
theorem told [MaxL] {W : World} (h : laidMetH Tryz.prog Rows.hostNothingRow.laid W) (hm : W.cell? ⟨0, 0, none⟩ = some (.int .i64 MaxL.m)) (hms : ∃ c t fr, W.heap[(0 : Nat)]? = some (.cells c t fr) ∧ c.size = 1) : Told W := by
  rw [MakeChecks.laidMetH_plain _ _ _ (by kernel_rfl)] at h
  obtain ⟨ps, ⟨gA, tA, csA, fA, pA, qA, hgA, htA, hvA, hdA, ⟨gB, tB, csB, fB, pB, qB, hgB, htB, hvB, hdB, ⟨gC, tC, csC, fC, pC, qC, hgC, htC, hvC, hdC, ⟨gD, tD, csD, fD, pD, qD, hgD, htD, hvD, hdD, ⟨gE, tE, csE, fE, pE, qE, hgE, htE, hvE, hdE, ⟨gF, tF, csF, fF, pF, qF, hgF, htF, hvF, hdF, ⟨gG, tG, csG, fG, pG, qG, hgG, htG, hvG, hdG, eN, eG⟩, eF⟩, eE⟩, eD⟩, eC⟩, eB⟩, eA⟩, hnd, hrows⟩ := h
  obtain rfl := Option.some.inj ((show Tryz.prog.globalNamed "math/bits.deBruijn32tab" = some 8 by kernel_rfl).symm.trans hgA)
  obtain rfl := Option.some.inj ((show (Tryz.prog.globals[(8 : Nat)]?).map (·.type) = some 395 by kernel_rfl).symm.trans htA)
  obtain rfl := Option.some.inj ((show Tryz.prog.globalNamed "math/bits.deBruijn64tab" = some 9 by kernel_rfl).symm.trans hgB)
  obtain rfl := Option.some.inj ((show (Tryz.prog.globals[(9 : Nat)]?).map (·.type) = some 396 by kernel_rfl).symm.trans htB)
  obtain rfl := Option.some.inj ((show Tryz.prog.globalNamed "internal/strconv.uint64pow10" = some 7 by kernel_rfl).symm.trans hgC)
  obtain rfl := Option.some.inj ((show (Tryz.prog.globals[(7 : Nat)]?).map (·.type) = some 368 by kernel_rfl).symm.trans htC)
  obtain rfl := Option.some.inj ((show Tryz.prog.globalNamed "strconv.ErrRange" = some 5 by kernel_rfl).symm.trans hgD)
  obtain rfl := Option.some.inj ((show (Tryz.prog.globals[(5 : Nat)]?).map (·.type) = some 129 by kernel_rfl).symm.trans htD)
  obtain rfl := Option.some.inj ((show Tryz.prog.globalNamed "strconv.ErrSyntax" = some 4 by kernel_rfl).symm.trans hgE)
  obtain rfl := Option.some.inj ((show (Tryz.prog.globals[(4 : Nat)]?).map (·.type) = some 129 by kernel_rfl).symm.trans htE)
  obtain rfl := Option.some.inj ((show Tryz.prog.globalNamed "strings.asciiSpace" = some 3 by kernel_rfl).symm.trans hgG)
  obtain rfl := Option.some.inj ((show (Tryz.prog.globals[(3 : Nat)]?).map (·.type) = some 324 by kernel_rfl).symm.trans htG)
  obtain ⟨lD⟩ := csD
  have okD : ∀ u v, lD = [.iface u v] → Value.okWide Tryz.prog W .any 0 u v := fun u v e => by
    subst e
    exact (hrows 5 0 (by rw [eA, eB, eC, eD, eE, eF, eG]; simp [MemPlace.row])).2 u v (by simpa using World.var?_cell hgD hvD 0)
  obtain ⟨lE⟩ := csE
  have okE : ∀ u v, lE = [.iface u v] → Value.okWide Tryz.prog W .any 0 u v := fun u v e => by
    subst e
    exact (hrows 4 0 (by rw [eA, eB, eC, eD, eE, eF, eG]; simp [MemPlace.row])).2 u v (by simpa using World.var?_cell hgE hvE 0)
  have eE' := told_err hgE hvE rfl hdE okE
  have eD' := told_err hgD hvD rfl hdD okD
  have eC' := told_ints (k := .u64) (e := 237) (n := 20) (laid7.filterMap iv) hgC hvC (by kernel_rfl) (by kernel_rfl) (by kernel_rfl) (by kernel_rfl) (by kernel_rfl) hdC
  have eA' := told_ints (k := .u8) (e := 5) (n := 32) (laid8.filterMap iv) hgA hvA (by kernel_rfl) (by kernel_rfl) (by kernel_rfl) (by kernel_rfl) (by kernel_rfl) hdA
  have eB' := told_ints (k := .u8) (e := 5) (n := 64) (laid9.filterMap iv) hgB hvB (by kernel_rfl) (by kernel_rfl) (by kernel_rfl) (by kernel_rfl) (by kernel_rfl) hdB
  have eG' := told_ints (k := .u8) (e := 5) (n := 256) (laid3.filterMap iv) hgG hvG (by kernel_rfl) (by kernel_rfl) (by kernel_rfl) (by kernel_rfl) (by kernel_rfl) hdG
  have one : ∀ {g : Nat} {n : String} {cs : Array Value} {k : Nat}, Tryz.prog.globalNamed n = some g → W.var? Tryz.prog n = some cs → cs.size = k → ∃ c t fr, W.heap[g]? = some (.cells c t fr) ∧ c.size = k := fun hg hv h => by
    obtain ⟨t, fr, ho⟩ := heap_of_var hg hv
    exact ⟨_, t, fr, ho, h⟩
  have hmax : ∀ (j : Nat) x, ([.i .i64 MaxL.m] : List GV)[j]? = some x → ∃ u, W.cell? ⟨0, j, none⟩ = some u ∧ ∀ D : Cx, (∀ b o v, W.cell? ⟨b, o, none⟩ = some v → D.fx b o v) → VR D x u := fun j x hx => by
    match j, hx with
    | 0, hx => cases hx; exact ⟨_, hm, fun D hD => .i _ _⟩
    | j + 1, hx => cases hx
  refine ⟨fun g cs hg => ?_, fun g cs j x hg hx => ?_⟩
  · match g, hg with
    | 0, hg => obtain rfl := Option.some.inj hg; exact hms
    | 1, hg => cases hg
    | 2, hg => cases hg
    | 3, hg => obtain rfl := Option.some.inj hg; exact one hgG hvG eG'.1
    | 4, hg => obtain rfl := Option.some.inj hg; exact one hgE hvE eE'.1
    | 5, hg => obtain rfl := Option.some.inj hg; exact one hgD hvD eD'.1
    | 6, hg => cases hg
    | 7, hg => obtain rfl := Option.some.inj hg; exact one hgC hvC eC'.1
    | 8, hg => obtain rfl := Option.some.inj hg; exact one hgA hvA eA'.1
    | 9, hg => obtain rfl := Option.some.inj hg; exact one hgB hvB eB'.1
    | n + 10, hg => cases hg
  · match g, hg with
    | 0, hg => obtain rfl := Option.some.inj hg; exact hmax j x hx
    | 1, hg => cases hg
    | 2, hg => cases hg
    | 3, hg => obtain rfl := Option.some.inj hg; exact eG'.2 j x hx
    | 4, hg => obtain rfl := Option.some.inj hg; exact eE'.2 j x hx
    | 5, hg => obtain rfl := Option.some.inj hg; exact eD'.2 j x hx
    | 6, hg => cases hg
    | 7, hg => obtain rfl := Option.some.inj hg; exact eC'.2 j x hx
    | 8, hg => obtain rfl := Option.some.inj hg; exact eA'.2 j x hx
    | 9, hg => obtain rfl := Option.some.inj hg; exact eB'.2 j x hx
    | n + 10, hg => cases hg
theorem laid_shaped (os : Os) : (World.laidAll Tryz.prog os Rows.hostNothingRow.laid).Shaped Tryz.prog := World.shaped_of_ZipB (by kernel_rfl) (by kernel_rfl)
theorem door_met (os : Os) (args : Array Value) : laidMetH Tryz.prog Rows.hostNothingRow.laid ((World.laidAll Tryz.prog os Rows.hostNothingRow.laid).forCall (fun _ _ => 0) ⟨#[], args, []⟩).memory := by
  rw [MakeChecks.laidMetH_plain _ _ _ (by kernel_rfl)]; exact laidMet_laidAll _ (by kernel_rfl) (by kernel_rfl)
theorem calls_true [MaxL] {k : FuncId} {args : List GV} {s' : List GObj} {W : World} {vs : Array Value} (h : SC Tryz.prog k args [] (.val (.b true)) s') (ht : Told W) (hv : VRs (C0 W) args vs.toList) :
    Calls Tryz.prog k vs W fun e W' => e = .returned (.bool true) ∧ Base (fun _ => False) W W' :=
  (h.calls (C0 W) W vs (rel_start ht) hv).mono fun e W' ⟨D, hl, hr, he⟩ => by
    obtain ⟨v, rfl, hv⟩ := he
    have hm : D.mine = fun _ => False := hl.fix.1
    refine ⟨?_, hm ▸ hr.below⟩
    cases hv
    rfl
theorem s_up [MaxL] (s : ByteArray) {C : Cx} : VR C (.s s.data.toList) (.string s) := by
  have : s = ⟨s.data.toList.toArray⟩ := by simp
  exact this ▸ VR.s s.data.toList
theorem laidOut_ : laidOutB Tryz.checked.prog = true := by kernel_rfl
section
variable {H : Type} {enc : TypeId × Value → H}
theorem handed_both {a : Assume} {C : Checked} {os : Os} {f : FuncId} {fn : Func} {s : ChangeSpec} {conds : List PathCond} {apart fresh handsOn again : Bool} {X : World → Array Value → Prop}
    (hX : ∀ (w w' : World) (args : Array Value), w.heap = w'.heap → X w args → X w' args)
    (own : ownKnob C.prog.godebug = none) (started : os.Started) (noInit : C.prog.inits.idxOf? f = none) (hfn : C.prog.funcs[f]? = some fn)
    (witness : ∃ (w : World) (tape : Tape) (i : Input), w.os = os ∧ (w.forCall tape i).Shaped C.prog ∧ i.vars = [] ∧ Input.okWide C.prog (w.forCall tape i) .any w.heap.size f i ∧
      ((s.pre enc C.prog fn conds apart (w.forCall tape i).memory i.args ∧ X (w.forCall tape i).memory i.args) ∧ sizedMet enc C.prog fn (OpenSpec.ofChange s) apart (w.forCall tape i).memory i.args) ∧ a.holds C.prog (lone (Frame.enter C.prog f i.args .normal) [] (w.forCall tape i)))
    (contract : ∀ (W : World) (base : Nat) (args : Array Value) (ds gs : List (DataW H)) (before : List MemPlace),
      (∀ (j : Nat) t v, fn.params[j]? = some t → args[j]? = some v → Value.okWide C.prog W .any base t v) →
      DataW.Whole enc C.prog fn.params.toList s.vars apart W args.toList ds gs before →
      (DataW.weightsEach C.prog (fn.params.toList ++ s.plain.varTypes C.prog) (ds ++ gs)).all (· ≤ reachBytes) = true → X W args → W.ShapedOpen C.prog →
      Calls C.prog f args W fun e W' => ∃ v, e = .returned v ∧ s.post enc C.prog fn apart fresh handsOn again W args v W') :
    ReturnsInHanded a C os f .any (fun w args => (s.pre enc C.prog fn conds apart w args ∧ X w args) ∧ sizedMet enc C.prog fn (OpenSpec.ofChange s) apart w args) (s.post enc C.prog fn apart fresh handsOn again) := by
  refine returnsInHanded_of_calls own started noInit witness ?_
  intro w tape i _ hsh _ hok hpre hholds
  obtain ⟨_, _, _, fn', hfn', _, _, _, _, hval⟩ := hok
  have e : fn' = fn := Option.some.inj (hfn'.symm.trans hfn)
  subst e
  obtain ⟨⟨⟨ds, gs, before, hw, hc⟩, hx⟩, hz⟩ := hpre
  have hw' := DataW.Whole.of_heap (w' := w.forCall tape i) (by rfl) hw
  refine (contract (w.forCall tape i) w.heap.size i.args ds gs before hval hw' (hz.weights hw) (hX _ _ _ (by rfl) hx) hsh).mono fun e W' ⟨v, he, hp⟩ => ?_
  subst he
  exact ChangeSpec.post_blind hp
end
theorem maxLen_told {W : World} (h : W.ShapedOpen Tryz.prog) : ∃ m, W.cell? ⟨0, 0, none⟩ = some (.int .i64 m) ∧ ∃ c t fr, W.heap[(0 : Nat)]? = some (.cells c t fr) ∧ c.size = 1 := by
  have h0 : ((begin Tryz.prog (fun _ _ => 0) default).world.heap[(0 : Nat)]?).bind Obj.row? = some (#[.int .i64 0], 3) := by kernel_rfl
  have hg : (0 : Nat) < Tryz.prog.globals.size := of_decide_eq_true (by kernel_rfl)
  obtain ⟨m, hm⟩ := cell_of_shapedOpen_int (zero := #[.int .i64 0]) (t := 3) (k := .i64) h hg h0 rfl (by kernel_rfl) (by kernel_rfl) (by kernel_rfl)
  obtain ⟨cs, hh, hs, _⟩ := h.1 _ _ _ hg h0
  exact ⟨m, hm, cs, _, _, hh, hs⟩
def LawHostNothing : Prop := ∀ [MaxL] (t : List UInt8), SC Tryz.prog 5 [.s t] [] (.val (.b true)) []
theorem hostNothing_lifted (law : LawHostNothing)
    (os : Os) (started : os.Started) (H : Type) (enc : TypeId × Value → H) :
    ReturnsInHanded {} Tryz.checked os 5 .any (fun w args => (Rows.hostNothingSpec.pre enc Tryz.prog Tryz.f5 [] false w args ∧ laidMetH Tryz.prog Rows.hostNothingRow.laid w) ∧ sizedMet enc Tryz.prog Tryz.f5 (OpenSpec.ofChange Rows.hostNothingSpec) false w args)
      (Rows.hostNothingSpec.post enc Tryz.prog Tryz.f5 false true false false) := by
  refine handed_both (C := Tryz.checked) (X := fun w _ => laidMetH Tryz.prog Rows.hostNothingRow.laid w) (fun _ _ _ hh h => h.of_heap hh) own started (by kernel_rfl) Tryz.func5
    (ChangeSpec.witness_shaped (enc := enc) (C := Tryz.checked) (os := os) (X := fun w _ => laidMetH Tryz.prog Rows.hostNothingRow.laid w) false (World.laidAll Tryz.prog os Rows.hostNothingRow.laid) #[.string ⟨#[]⟩] 8 (World.laidAll_os _ _ _) (laid_shaped os) (by kernel_rfl) (by kernel_rfl) (by kernel_rfl) (door_met os _)) ?_
  intro W base args ds gs before hval0 hW hwt hL hsh
  have hval : ∀ (j : Nat) t v, Tryz.f5.params[j]? = some t → args[j]? = some v → Value.okWide Tryz.prog W .any base t v := hval0
  have hW' := hW
  obtain ⟨p, q, hA0, hV, rfl, hfz, hnd⟩ := hW
  have hA : DataW.TrodAll enc Tryz.prog W 0 (fun _ => true) true Tryz.f5.params.toList args.toList ds p := hA0
  rw [show Tryz.f5.params = #[9] from rfl] at hA hval
  obtain ⟨v0, vs, d0, ds1, p0, q0, hargs, rfl, rfl, h0, hrest⟩ := trodAll_cons hA
  obtain ⟨rfl, rfl, rfl⟩ := trodAll_nil hrest
  obtain rfl : args = #[v0] := by rw [← Array.toArray_toList (xs := args), hargs]
  obtain ⟨rfl, rfl⟩ := trodVars_none hV
  have hlt0 : ∀ x ∈ p0, x.block < W.heap.size := fun x hx => by simpa using hW'.lt x (by simp [hx])
  obtain ⟨m, hm, hms⟩ := maxLen_told hsh
  letI : MaxL := ⟨m⟩
  have hh0 := h0
  obtain ⟨s, rfl, rfl, rfl, hs⟩ := open_string und_str (hval 0 9 v0 rfl rfl) h0
  refine (calls_true (law s.data.toList) (told hL hm hms) ⟨rfl, fun j g u g1 g2 => ?_⟩).mono fun e W' ⟨he, hb⟩ => ?_
  · match j, g1, g2 with
    | 0, g1, g2 => cases g1; cases g2; exact s_up _
  · subst he
    have hbel : Below W.heap.size W W' := ⟨hb.os, hb.tape, hb.output, hb.size, fun k hk => hb.block k hk (fun h => h)⟩
    refine ⟨_, rfl, _, _, _, [], [], [], hW', ?_, ?_, rfl, kept_below (fun _ h => h) hb, fun h => by cases h⟩
    · exact trodAll_mk1 (shut_bool und_bool true)
    · exact trodAll_mk1 (Below.trod laidOut_ (by kernel_rfl) (of_decide_eq_true (by kernel_rfl)) hh0 hbel hlt0)
theorem hn_closed : joinedFacts Tryz.pinned.checked.prog 5 Tryz.f5 Rows.hostNothingSpec Rows.hostNothingRow = true := by kernel_rfl
theorem hn_inst : Tryz.f5.isInstance Tryz.pinned.checked.prog Rows.hostNothingRow.origin Rows.hostNothingRow.targs := (of_decide_eq_true (by kernel_rfl))
theorem hn_wrap : Tryz.f5.isWrapper Tryz.pinned.checked.prog Rows.hostNothingRow.wrapper Rows.hostNothingRow.mainSum := (by unfold Func.isWrapper; first | (rw [if_pos (by decide +kernel)]; kernel_rfl) | (rw [if_neg (by decide +kernel)]; exact ⟨rfl, rfl⟩))
theorem hostNothing_of (law : LawHostNothing) : Rows.HostNothingSaid :=
  OpenClaim.holds_of_wide 5 Tryz.f5 rfl rfl rfl rfl rfl rfl rfl ⟨rfl, rfl, rfl, rfl, rfl⟩ rfl rfl rfl rfl rfl (by kernel_rfl) Tryz.func5 hn_closed
    hn_inst hn_wrap
    (fun os started H enc _ => hostNothing_lifted law os started H enc)
end Go.Proofs.YtldggonlkafckaaGreatDoor
namespace Go.Proofs.YtldggonlkafckaaGreatDoor
open Go
theorem hostNothing_card_of (h : Rows.HostNothingSaid) : Rows.HostNothingCardSaid :=
  Claim7.holds_tied_plain_at .later [] [.data, .data, .data, .sentinel, .sentinel, .listed, .data] true (true, "05372343198e1a489d40f1414a62519f19aaba00849636b7f91c0ff16e364d76") true
    h (fun _ h => by cases h) (by kernel_rfl) (fun _ h => by cases h) hostNothing_row_tie rfl ⟨rfl, rfl⟩ (by kernel_rfl) rfl
    (fun f fn hf hfn => by
      obtain rfl : f = 5 := Option.some.inj ((show Tryz.prog.funcNamed "ringwork/ringworklaw17.HostNothing" = some 5 by kernel_rfl).symm.trans hf) |>.symm
      obtain rfl : fn = Tryz.f5 := (Option.some.inj (Tryz.func5.symm.trans hfn)).symm
      exact ⟨by kernel_rfl, fun j t ht => by
        rw [show Tryz.f5.params = #[9] from rfl] at ht
        match j, ht with
        | 0, ht => cases ht; exact (show Tryz.prog.wantsStandIn 9 = false by kernel_rfl)
        | j + 1, ht => cases ht⟩)
    (by kernel_rfl)
end Go.Proofs.YtldggonlkafckaaGreatDoor
namespace Go.Proofs.YtldggonlkafckaaGreatDoor
open Go.RowKit
set_option maxRecDepth 100000
set_option linter.unusedVariables false
theorem mixed : Tryz.prog.follows .mixedOrders = true := by kernel_rfl
end Go.Proofs.YtldggonlkafckaaGreatDoor
namespace Go.Proofs
open Go.Shelf
def Tryz.lays156_ren : Go.Shelf.Ren := ⟨fun | 156 => 73 | 165 => 129 | 166 => 55 | 169 => 57 | 240 => 118 | 241 => 175 | 276 => 168 | 277 => 212 | n => n, fun | 31 => 45 | 9 => 9 | 3 => 3 | 4 => 4 | 0 => 0 | 20 => 20 | 72 => 127 | 76 => 130 | 70 => 124 | 37 => 125 | 75 => 129 | 127 => 201 | 164 => 238 | 5 => 5 | 80 => 57 | n => n, fun | n => n⟩
theorem Tryz.lays156 : Go.Proofs.Lays.n156 Tryz.prog Tryz.lays156_ren := {
  mixed := by kernel_rfl
  f156 := Tryz.func73.trans (congrArg some (by kernel_rfl))
  f165 := Tryz.func129.trans (congrArg some (by kernel_rfl))
  f166 := Tryz.func55.trans (congrArg some (by kernel_rfl))
  f169 := Tryz.func57.trans (congrArg some (by kernel_rfl))
  f240 := Tryz.func118.trans (congrArg some (by kernel_rfl))
  f241 := Tryz.func175.trans (congrArg some (by kernel_rfl))
  f276 := Tryz.func168.trans (congrArg some (by kernel_rfl))
  f277 := Tryz.func212.trans (congrArg some (by kernel_rfl))
  t0 := Tryz.underlying0
  a0 := Tryz.isAgg0
  z0 := Tryz.sizeOf0
  v0 := Tryz.zeroValue0
  t3 := Tryz.underlying3
  a3 := Tryz.isAgg3
  z3 := Tryz.sizeOf3
  v3 := Tryz.zeroValue3
  t4 := Tryz.underlying4
  a4 := Tryz.isAgg4
  z4 := Tryz.sizeOf4
  v4 := Tryz.zeroValue4
  t9 := Tryz.underlying9
  a9 := Tryz.isAgg9
  z9 := Tryz.sizeOf9
  v9 := Tryz.zeroValue9
  t20 := Tryz.underlying20
  a20 := Tryz.isAgg20
  z20 := Tryz.sizeOf20
  v20 := Tryz.zeroValue20
  t31 := Tryz.underlying45
  a31 := Tryz.isAgg45
  z31 := Tryz.sizeOf45
  v31 := Tryz.zeroValue45
  t37 := Tryz.underlying125
  a37 := Tryz.isAgg125
  z37 := Tryz.sizeOf125
  v37 := Tryz.zeroValue125
  t70 := Tryz.underlying124
  a70 := Tryz.isAgg124
  z70 := Tryz.sizeOf124
  v70 := Tryz.zeroValue124
  t72 := Tryz.underlying127
  a72 := Tryz.isAgg127
  z72 := Tryz.sizeOf127
  v72 := Tryz.zeroValue127
  t75 := Tryz.underlying129
  a75 := Tryz.isAgg129
  z75 := Tryz.sizeOf129
  v75 := Tryz.zeroValue129
  t76 := Tryz.underlying130
  a76 := Tryz.isAgg130
  z76 := Tryz.sizeOf130
  v76 := Tryz.zeroValue130
  t127 := Tryz.underlying201
  a127 := Tryz.isAgg201
  z127 := Tryz.sizeOf201
  v127 := Tryz.zeroValue201
  t164 := Tryz.underlying238
  a164 := Tryz.isAgg238
  z164 := Tryz.sizeOf238
  v164 := Tryz.zeroValue238 }
theorem Tryz.Builder_Extra_156 : Builder.Extra Tryz.prog Tryz.lays156_ren := {
  sizeBuilder := by kernel_rfl
  liesBuilder := by kernel_rfl
  t5 := Tryz.underlying5
  a5 := Tryz.isAgg5
  z5 := Tryz.sizeOf5
  v5 := Tryz.zeroValue5
  infoByte := by kernel_rfl
  cellsByte := by kernel_rfl
  sizeByte := by kernel_rfl
  neB5 := by decide }
def Tryz.lays219_ren : Go.Shelf.Ren := ⟨fun | 219 => 131 | 217 => 178 | 225 => 179 | 224 => 180 | 267 => 181 | 266 => 216 | 314 => 217 | n => n, fun | 9 => 9 | 3 => 3 | 4 => 4 | 5 => 5 | 46 => 257 | 146 => 296 | 51 => 295 | n => n, fun | 1 => 0 | n => n⟩
def Tryz.lays143_ren : Go.Shelf.Ren := ⟨fun | 143 => 184 | 219 => 131 | 217 => 178 | 225 => 179 | 224 => 180 | 267 => 181 | 266 => 216 | 314 => 217 | n => n, fun | 9 => 9 | 3 => 3 | 4 => 4 | 5 => 5 | 46 => 257 | 146 => 296 | 51 => 295 | n => n, fun | 1 => 0 | n => n⟩
theorem Tryz.lays143 : Go.Proofs.Lays.n143 Tryz.prog Tryz.lays143_ren := {
  mixed := by kernel_rfl
  f143 := Tryz.func184.trans (congrArg some (by kernel_rfl))
  f217 := Tryz.func178.trans (congrArg some (by kernel_rfl))
  f219 := Tryz.func131.trans (congrArg some (by kernel_rfl))
  f224 := Tryz.func180.trans (congrArg some (by kernel_rfl))
  f225 := Tryz.func179.trans (congrArg some (by kernel_rfl))
  f266 := Tryz.func216.trans (congrArg some (by kernel_rfl))
  f267 := Tryz.func181.trans (congrArg some (by kernel_rfl))
  f314 := Tryz.func217.trans (congrArg some (by kernel_rfl))
  t3 := Tryz.underlying3
  a3 := Tryz.isAgg3
  z3 := Tryz.sizeOf3
  v3 := Tryz.zeroValue3
  t4 := Tryz.underlying4
  a4 := Tryz.isAgg4
  z4 := Tryz.sizeOf4
  v4 := Tryz.zeroValue4
  t5 := Tryz.underlying5
  a5 := Tryz.isAgg5
  z5 := Tryz.sizeOf5
  v5 := Tryz.zeroValue5
  t9 := Tryz.underlying9
  a9 := Tryz.isAgg9
  z9 := Tryz.sizeOf9
  v9 := Tryz.zeroValue9
  t46 := Tryz.underlying257
  a46 := Tryz.isAgg257
  z46 := Tryz.sizeOf257
  v46 := Tryz.zeroValue257
  t51 := Tryz.underlying295
  a51 := Tryz.isAgg295
  z51 := Tryz.sizeOf295
  v51 := Tryz.zeroValue295
  t146 := Tryz.underlying296
  a146 := Tryz.isAgg296
  z146 := Tryz.sizeOf296
  v146 := Tryz.zeroValue296
  g1 := by kernel_rfl }
open Go.RowKit Go.Lib in
theorem Tryz.strings_Index (s sub : ByteArray) (m : Int) (w : World) (hs : s.size < 4294967281) (hm : w.cell? ⟨0, 0, none⟩ = some (.int .i64 m)) :
    Calls Tryz.prog 184 #[.string s, .string sub] w fun e w' => e = .returned (.int .i64 (Lib.index s.data.toList sub.data.toList)) ∧ w' = w := Any.strings_Index Tryz.lays143 s sub m w hs hm
end Go.Proofs
namespace Go.Proofs.YtldggonlkafckaaGreatDoor
open Go.RowKit Go.Sort
theorem SC.of_calls [Globals] {P : Program} {k : FuncId} {args : List GV} {g : GV}
    (h : ∀ (C : Cx) (w : World) (vs : Array Value), Rel C ⟨[], 0, []⟩ w w → VRs C args vs.toList → Calls P k vs w fun e w' => ∃ v, e = .returned v ∧ Base (fun _ => False) w w' ∧ VR C g v) :
    SC P k args [] (.val g) [] := by
  refine ⟨Nat.le_refl _, fun C w vs hr hv => (h C w vs hr hv).mono fun e w' ⟨v, he, hb, hg⟩ => ⟨C, .refl C, ?_, v, he, hg⟩, fun x hx => by simp at hx⟩
  have hb' : Base C.mine w w' := ⟨hb.os, hb.tape, hb.output, hb.size, fun i hi _ => hb.block i hi (fun h => h)⟩
  refine ⟨hb', fun b o v hx => ?_, fun r x hx => by simp at hx, hr.dom, hr.new, hr.inj, hr.sepB, hr.sepO, hr.fxn, hr.gl, hr.gs⟩
  have h1 := hr.fxc b o v hx
  have hlt : b < w.heap.size := block_lt_of_cell h1
  unfold World.cell? at h1 ⊢
  rw [hb.block b hlt (fun h => h)]
  exact h1
end Go.Proofs.YtldggonlkafckaaGreatDoor
namespace Go.Proofs.YtldggonlkafckaaGreatDoor
open Go.RowKit Go.Sort
set_option maxRecDepth 100000
set_option linter.unusedVariables false
end Go.Proofs.YtldggonlkafckaaGreatDoor
namespace Go.Proofs.YtldggonlkafckaaGreatDoor
open Go.RowKit
set_option linter.unusedSectionVars false
variable [Globals]
set_option linter.unusedVariables false
end Go.Proofs.YtldggonlkafckaaGreatDoor
namespace Go.Proofs.YtldggonlkafckaaGreatDoor
open Go.RowKit
set_option linter.unusedSectionVars false
variable [Globals]
set_option linter.unusedVariables false
end Go.Proofs.YtldggonlkafckaaGreatDoor
namespace Go.Proofs.YtldggonlkafckaaGreatDoor
open Go.RowKit
set_option linter.unusedSectionVars false
variable [Globals]
set_option linter.unusedVariables false
end Go.Proofs.YtldggonlkafckaaGreatDoor
namespace Go.Proofs.YtldggonlkafckaaGreatDoor
open Go.RowKit
set_option linter.unusedSectionVars false
variable [Globals]
set_option linter.unusedVariables false
end Go.Proofs.YtldggonlkafckaaGreatDoor
namespace Go.Proofs.YtldggonlkafckaaGreatDoor
open Go.RowKit
set_option maxRecDepth 100000
set_option linter.unusedVariables false
variable [Globals]
theorem EnvSound.of {P : Program} {w0 : World} {M : FuncId → Bool} {Γ : GEnv} (h : ∀ k f, Γ k = some f → ∀ args σ r σ', f args σ = some (r, σ') → Fact P (.fn k) args σ r σ' ∧ (M k = true → σ' = σ)) : EnvSound P w0 M Γ := by
  refine ⟨fun t args σ r σ' he => ?_, fun k hk args σ r σ' he => ?_⟩
  · cases t with
    | yld q => cases he
    | fn k =>
      simp only [envCall] at he
      cases hg : Γ k with
      | none => rw [hg] at he; cases he
      | some f =>
        rw [hg] at he
        obtain ⟨hf, _⟩ := h k f hg args σ r σ' he
        exact ⟨hf.keep, hf.ds, fun C w vs hr hv => hf.calls w0 C w vs hr hv⟩
  · simp only [envCall] at he
    cases hg : Γ k with
    | none => rw [hg] at he; cases he
    | some f =>
      rw [hg] at he
      exact (h k f hg args σ r σ' he).2 hk
theorem SC.factNil {P : Program} {k : FuncId} {args args' : List GV} {r : GRes} {σ : GS} (h : SC P k args [] r []) (ha : ClL args) (hr : ∀ e, r.ren e = r) (hw : Wks args' args) : Fact P (.fn k) args' σ r σ := by
  have hf := h.fact (σ := { σ with lo := 0 }) (args' := args') [] Lies.nil rfl (by rw [ha]; exact hw)
  rw [hr] at hf
  simp only [putBack_nil] at hf
  exact ⟨Keep.refl _, rfl, fun w0 C w vs hR hv => (hf.calls w0 C w vs ⟨hR.below, hR.fxc, hR.obj, hR.dom, hR.new, hR.inj, hR.sepB, hR.sepO, hR.fxn, hR.gl, hR.gs⟩ hv).mono fun e w' ⟨D, h1, h2, h3⟩ => ⟨D, h1, ⟨h2.below, h2.fxc, h2.obj, h2.dom, h2.new, h2.inj, h2.sepB, h2.sepO, h2.fxn, h2.gl, h2.gs⟩, h3⟩⟩
theorem SC.of_gcall {P : Program} (hm : P.follows .mixedOrders = true) {M : FuncId → Bool} {Γ : GEnv} (hΓ : ∀ w0, EnvSound P w0 M Γ) {m : Nat} {k : FuncId} {args : List GV} {r : GRes}
    (h : (gcall P M Γ m (.fn k) args ⟨[], 0, []⟩).map (·.1) = some r) (hr : ∀ e, r.ren e = r) : SC P k args [] r [] := by
  obtain ⟨⟨r1, σ'⟩, h1, rfl⟩ := Option.map_eq_some_iff.1 h
  refine ⟨Nat.le_refl _, fun C w vs hR hv => ?_, fun x hx => by cases hx⟩
  refine Calls.mono (((gcall_sound (w0 := w) hm (hΓ w) m).1 (.fn k) args _ _ _ h1).2.2 C w vs hR hv) ?_
  rintro e w' ⟨D, hl, hrD, he⟩
  refine ⟨D.pull (emb [] σ'.objs.length), ?_, hrD.pull Lies.nil, ?_⟩
  · refine ⟨hl.fx, fun i b hb => ?_, fun i I hI => ?_, hl.hd, hl.fix⟩
    · rw [(hR.dom i (Nat.zero_le _)).1] at hb; cases hb
    · rw [(hR.dom i (Nat.zero_le _)).2] at hI; cases hI
  · have he2 : ERel D (r1.ren (emb [] σ'.objs.length)) e := by rw [hr]; exact he
    exact he2.pull (D := D) (f := emb [] σ'.objs.length) (E := D.pull (emb [] σ'.objs.length)) (fun _ _ _ h => h) (fun _ => rfl) (fun _ => rfl)
end Go.Proofs.YtldggonlkafckaaGreatDoor
namespace Go.Proofs.YtldggonlkafckaaGreatDoor
open Go.RowKit
set_option linter.unusedSectionVars false
set_option linter.unusedVariables false
variable [Globals]
inductive Tr (α : Type) where
  | nil
  | node (x : Option α) (l r : Tr α)
noncomputable def pathF (f : Nat) : Nat → List Bool :=
  Nat.rec (motive := fun _ => Nat → List Bool) (fun _ => []) (fun _ ih m => Bool.rec (motive := fun _ => List Bool) (Nat.beq (Nat.mod m 2) 1 :: ih (Nat.div m 2)) [] (Nat.ble m 1)) f
noncomputable def path (i : Nat) : List Bool := pathF (Nat.succ i) (Nat.succ i)
def pval : List Bool → Nat
  | [] => 1
  | b :: p => 2 * pval p + (if b then 1 else 0)
theorem pval_path : ∀ (f m : Nat), 1 ≤ m → m ≤ f → pval (pathF f m) = m := by
  intro f
  induction f with
  | zero => intro m h1 h2; omega
  | succ f ih =>
    intro m h1 h2
    show pval (Bool.rec (motive := fun _ => List Bool) (Nat.beq (Nat.mod m 2) 1 :: pathF f (Nat.div m 2)) [] (Nat.ble m 1)) = m
    cases hb : Nat.ble m 1 with
    | true => have := Nat.le_of_ble_eq_true hb; show 1 = m; omega
    | false =>
      have h3 : ¬ m ≤ 1 := fun h => by rw [Nat.ble_eq_true_of_le h] at hb; cases hb
      show 2 * pval (pathF f (m / 2)) + (if Nat.beq (m % 2) 1 then 1 else 0) = m
      rw [ih (m / 2) (by omega) (by omega)]
      by_cases h4 : m % 2 = 1
      · have : Nat.beq (m % 2) 1 = true := by rw [h4]; rfl
        rw [this, if_pos rfl]; omega
      · have : Nat.beq (m % 2) 1 = false := by
          cases hc : Nat.beq (m % 2) 1 with
          | true => exact absurd (Nat.eq_of_beq_eq_true hc) h4
          | false => rfl
        rw [this]; simp; omega
theorem path_inj {i j : Nat} (h : path i = path j) : i = j := by
  have h1 := pval_path (i + 1) (i + 1) (by omega) (Nat.le_refl _)
  have h2 := pval_path (j + 1) (j + 1) (by omega) (Nat.le_refl _)
  have h3 : pathF (i + 1) (i + 1) = pathF (j + 1) (j + 1) := h
  rw [h3] at h1
  omega
section
variable {α β : Type}
noncomputable def Tr.get (p : List Bool) : Tr α → Option α :=
  List.rec (motive := fun _ => Tr α → Option α) (fun t => Tr.rec (motive := fun _ => Option α) none (fun x _ _ _ _ => x) t)
    (fun b _ ih t => Tr.rec (motive := fun _ => Option α) none (fun _ l r _ _ => Bool.rec (motive := fun _ => Option α) (ih l) (ih r) b) t) p
noncomputable def Tr.setK (p : List Bool) (a : α) : Tr α → (Tr α → β) → β :=
  List.rec (motive := fun _ => Tr α → (Tr α → β) → β)
    (fun t K => Tr.rec (motive := fun _ => β) (K (.node (some a) .nil .nil)) (fun _ l r _ _ => K (.node (some a) l r)) t)
    (fun b _ ih t K => Tr.rec (motive := fun _ => β) (Bool.rec (motive := fun _ => β) (ih .nil fun l => K (.node none l .nil)) (ih .nil fun r => K (.node none .nil r)) b)
      (fun x l r _ _ => Bool.rec (motive := fun _ => β) (ih l fun l => K (.node x l r)) (ih r fun r => K (.node x l r)) b) t) p
def Tr.put (a : α) : List Bool → Tr α → Tr α
  | [], .nil => .node (some a) .nil .nil
  | [], .node _ l r => .node (some a) l r
  | false :: p, .nil => .node none (Tr.put a p .nil) .nil
  | true :: p, .nil => .node none .nil (Tr.put a p .nil)
  | false :: p, .node x l r => .node x (Tr.put a p l) r
  | true :: p, .node x l r => .node x l (Tr.put a p r)
theorem Tr.setK_eq (a : α) : ∀ (p : List Bool) (t : Tr α) (K : Tr α → β), Tr.setK p a t K = K (Tr.put a p t) := by
  intro p
  induction p with
  | nil => intro t K; cases t <;> rfl
  | cons b p ih =>
    intro t K
    cases t with
    | nil =>
      cases b
      · exact ih .nil fun l => K (.node none l .nil)
      · exact ih .nil fun r => K (.node none .nil r)
    | node x l r =>
      cases b
      · exact ih l fun l => K (.node x l r)
      · exact ih r fun r => K (.node x l r)
theorem Tr.get_nil : ∀ q : List Bool, Tr.get q (.nil : Tr α) = none := fun q => by cases q <;> rfl
theorem Tr.get_put (a : α) : ∀ (p q : List Bool) (t : Tr α), Tr.get q (Tr.put a p t) = if q = p then some a else Tr.get q t := by
  intro p
  induction p with
  | nil =>
    intro q t
    cases q with
    | nil => cases t <;> rfl
    | cons c q =>
      rw [if_neg (by simp)]
      cases t with
      | nil => cases c <;> exact Tr.get_nil q
      | node x l r => rfl
  | cons b p ih =>
    intro q t
    cases q with
    | nil => rw [if_neg (by simp)]; cases b <;> cases t <;> rfl
    | cons c q =>
      by_cases hc : c = b
      · subst hc
        have e : (c :: q = c :: p) = (q = p) := by simp
        simp only [e]
        cases c <;> cases t with
        | nil => exact (ih q .nil).trans (by rw [Tr.get_nil]; rfl)
        | node x l r => first | exact ih q l | exact ih q r
      · rw [if_neg (by simp [hc])]
        cases b <;> cases c <;> cases t with
        | nil => first | exact absurd rfl hc | exact Tr.get_nil q
        | node x l r => first | exact absurd rfl hc | rfl
end
end Go.Proofs.YtldggonlkafckaaGreatDoor
