/-
  CurrentTexts: the text of every currencies, and what every text is read as: where what it reads is of a bulk of at most 1048576.
-/
import Derived.Test.YtcbknpdjdlgljaaGreatDoorK8
import Derived.Test.YtcbknpdjdlgljaaGreatDoorK0
namespace Go.Proofs.YtcbknpdjdlgljaaGreatDoor
open Go
theorem currentTexts_of : Rows.CurrentTextsUptoSaid :=
  OpenClaim.holds_of_cond 3 Tryz.f3 rfl rfl rfl rfl rfl rfl rfl ⟨rfl, rfl, rfl, rfl, rfl⟩ rfl rfl rfl rfl rfl (by kernel_rfl) Tryz.func3 vt_closedS
    vt_instS vt_wrapS
    (fun os started H enc _ F => by rw [OpenClaim.pre_eq_preRow]; exact currentTexts_lifted os started H enc F)
theorem currentTextsUpto_holds : Rows.CurrentTextsUptoCardSaid :=
  Claim7.holds_tied_plain_at .later [] [.data, .data, .data, .data, .sentinel, .sentinel, .pinned] true (true, "6c07f98c952523acaccb94cb39e13145bd7690fe5987041110671f9af2c9c16d") true
    currentTexts_of (fun _ h => by cases h) vt_wS (fun _ h => by cases h) currentTextsUpto_row_tie rfl ⟨rfl, rfl⟩ vt_m rfl
    (fun f fn hf hfn => by
      obtain rfl : f = 3 := Option.some.inj ((show Tryz.prog.funcNamed "ringwork/ringworklaw15.CurrentTexts" = some 3 by kernel_rfl).symm.trans hf) |>.symm
      obtain rfl : fn = Tryz.f3 := (Option.some.inj (Tryz.func3.symm.trans hfn)).symm
      exact ⟨vt_l, fun j t ht => by
        rw [show Tryz.f3.params = #[25, 9] from rfl] at ht
        match j, ht with
        | 0, ht => cases ht; exact (show Tryz.prog.wantsStandIn 25 = false by kernel_rfl)
        | 1, ht => cases ht; exact (show Tryz.prog.wantsStandIn 9 = false by kernel_rfl)
        | j + 2, ht => cases ht⟩)
    vt_gS
#print axioms currentTextsUpto_holds
end Go.Proofs.YtcbknpdjdlgljaaGreatDoor
