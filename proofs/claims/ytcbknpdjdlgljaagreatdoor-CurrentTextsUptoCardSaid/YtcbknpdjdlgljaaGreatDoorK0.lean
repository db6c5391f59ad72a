/-
  CurrentTexts: what is computed of the program.
-/
import Derived.Test.YtcbknpdjdlgljaaGreatDoorRows
import Derived.HandedShaped
import Derived.JoinedCond
import Derived.Shelf.Vars
import Derived.Test.YtcbknpdjdlgljaaGreatDoorTie
import Derived.Test.YtcbknpdjdlgljaaGreatDoorCards
import Derived.Carry
import Derived.Lay
namespace Go.Proofs.YtcbknpdjdlgljaaGreatDoor
open Go Go.ChangeShapes Go.WideShapes Go.RowKit Go.ChangeMaps
set_option maxRecDepth 100000
set_option linter.unusedVariables false
theorem q2 : laidOutB Tryz.pinned.checked.prog = true := by kernel_rfl
theorem q3 : mapsRowed Tryz.pinned.checked.prog = true := by kernel_rfl
theorem q9 : Tryz.pinned.checked.prog.stopsHeard = true := by kernel_rfl
theorem q10 : Tryz.pinned.checked.prog.mayEnter = true := by kernel_rfl
theorem vt_m : Tryz.pinned.checked.prog.mainIs = some (true, ("6c07f98c952523acaccb94cb39e13145bd7690fe5987041110671f9af2c9c16d").toList) := by kernel_rfl
theorem vt_l : true = Tryz.pinned.checked.prog.looks [] := by kernel_rfl
theorem q1S : Rows.currentTextsUptoRow.wf (OpenSpec.ofChange (Rows.OpenSpec.upto Rows.currentTextsSpec).bare) = true := by kernel_rfl
theorem q4S : (Rows.currentTextsUptoRow.inPlace == Tryz.pinned.checked.prog.inPlace 3) = true := by kernel_rfl
theorem q5S : (Rows.currentTextsUptoRow.unfollowed == Tryz.pinned.checked.prog.unfollowed 3) = true := by kernel_rfl
theorem q6S : (Rows.currentTextsUptoRow.recurses == Tryz.pinned.checked.prog.recurses 3) = true := by kernel_rfl
theorem q7S : (Rows.currentTextsUptoRow.named == Tryz.pinned.checked.prog.varsNamed 3) = true := by kernel_rfl
theorem q8S : (Rows.currentTextsUptoRow.plainKeys == Tryz.pinned.checked.prog.plainKeys) = true := by kernel_rfl
theorem q11S : (Rows.currentTextsUptoRow.lifted == Tryz.pinned.checked.prog.liftsFinal) = true := by kernel_rfl
theorem vt_closedS : joinedFacts Tryz.pinned.checked.prog 3 Tryz.f3 (Rows.OpenSpec.upto Rows.currentTextsSpec).bare Rows.currentTextsUptoRow = true := by
  unfold joinedFacts
  rw [q1S, q2, q3, q4S, q5S, q6S, q7S, q8S, q9, q10, q11S]
  kernel_rfl
theorem vt_instS : Tryz.f3.isInstance Tryz.pinned.checked.prog Rows.currentTextsUptoRow.origin Rows.currentTextsUptoRow.targs := (of_decide_eq_true (by kernel_rfl))
theorem vt_wrapS : Tryz.f3.isWrapper Tryz.pinned.checked.prog Rows.currentTextsUptoRow.wrapper Rows.currentTextsUptoRow.mainSum := (by unfold Func.isWrapper; first | (rw [if_pos (by decide +kernel)]; kernel_rfl) | (rw [if_neg (by decide +kernel)]; exact ⟨rfl, rfl⟩))
theorem vt_wS : Rows.currentTextsUptoRow.wfByText (Rows.OpenSpec.upto Rows.currentTextsSpec) = true := by kernel_rfl
theorem vt_gS : false = Rows.currentTextsUptoRow.goesBy Tryz.pinned.checked.prog := by kernel_rfl
end Go.Proofs.YtcbknpdjdlgljaaGreatDoor
