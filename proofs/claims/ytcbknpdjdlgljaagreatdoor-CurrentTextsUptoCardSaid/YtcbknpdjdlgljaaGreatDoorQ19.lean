/-
  The text of every currencies, and what every text is read as.
-/
import Derived.Test.YtcbknpdjdlgljaaGreatDoorQ18
import Derived.Test.YtcbknpdjdlgljaaGreatDoorQ17
import Derived.Lib.Index
import Derived.Lib.Join
import Derived.Lib.IndexMore
import Derived.Lib.ItoaNum
import Derived.Lib.ItoaLen
import Derived.Test.YtcbknpdjdlgljaaGreatDoorQ15
set_option linter.all false
namespace Go.Proofs.YtcbknpdjdlgljaaGreatDoor
open Go.RowKit
set_option maxRecDepth 100000
set_option linter.unusedVariables false
def vS0 : GV := .sl .none [.agg [.s [97], .i .i64 4]]
def vS1 : GV := .sl .none [.agg [.s [100], .s [97], .sl .none [.agg [.s [110], .i .i64 1, .i .i64 0, .i .i64 9, .i .i64 0]], .i .i64 1, .sl .full [], .b false, .s [], .s []]]
def vS2 : GV := .sl .none [.agg [.s [119], .s [100], .sl .none [.agg [.s [100], .b false, .i .i64 3, .sl .full []]], .i .i64 2, .sl .full [], .i .i64 0, .i .i64 1]]
def vB0 : GV := .agg [.sl .full [], .sl .full [], .i .i64 1]
def vB1 : GV := .agg [.sl .none [.agg [.i .i64 1, .s [100], .sl .none [.agg [.i .i64 1, .i .i64 1, .s []]]]], .sl .full [], .i .i64 2]
def vB2 : GV := .agg [.sl .none [.agg [.i .i64 1, .s [100], .sl .none [.agg [.i .i64 1, .i .i64 1, .s []]]], .agg [.i .i64 2, .s [100], .sl .none [.agg [.i .i64 1, .i .i64 1, .s []]]]], .sl .full [], .i .i64 3]
def vB3 : GV := .agg [.sl .none [.agg [.i .i64 1, .s [100], .sl .none [.agg [.i .i64 1, .i .i64 1, .s []]]], .agg [.i .i64 2, .s [100], .sl .none [.agg [.i .i64 1, .i .i64 1, .s []]]], .agg [.i .i64 3, .s [100], .sl .none [.agg [.i .i64 1, .i .i64 1, .s []]]]], .sl .full [], .i .i64 4]
def vB4 : GV := .agg [.sl .none [.agg [.i .i64 1, .s [100], .sl .none [.agg [.i .i64 1, .i .i64 1, .s []]]], .agg [.i .i64 2, .s [100], .sl .none [.agg [.i .i64 1, .i .i64 1, .s []]]], .agg [.i .i64 3, .s [100], .sl .none [.agg [.i .i64 1, .i .i64 1, .s []]]], .agg [.i .i64 4, .s [100], .sl .none [.agg [.i .i64 1, .i .i64 1, .s []]]]], .sl .full [], .i .i64 5]
def vB5 : GV := .agg [.sl .none [.agg [.i .i64 1, .s [100], .sl .none [.agg [.i .i64 1, .i .i64 1, .s []]]], .agg [.i .i64 2, .s [100], .sl .none [.agg [.i .i64 1, .i .i64 1, .s []]]], .agg [.i .i64 3, .s [100], .sl .none [.agg [.i .i64 1, .i .i64 1, .s []]]], .agg [.i .i64 4, .s [100], .sl .none [.agg [.i .i64 1, .i .i64 1, .s []]]]], .sl .none [.agg [.s [119], .i .i64 1, .sl .none [.i .i64 2]]], .i .i64 5]
def vB6 : GV := .agg [.sl .none [.agg [.i .i64 1, .s [100], .sl .none [.agg [.i .i64 1, .i .i64 1, .s []]]], .agg [.i .i64 2, .s [100], .sl .none [.agg [.i .i64 1, .i .i64 1, .s []]]], .agg [.i .i64 3, .s [100], .sl .none [.agg [.i .i64 1, .i .i64 1, .s []]]], .agg [.i .i64 4, .s [100], .sl .none [.agg [.i .i64 1, .i .i64 1, .s []]]]], .sl .none [.agg [.s [119], .i .i64 1, .sl .none [.i .i64 2, .i .i64 3]]], .i .i64 5]
def vS : GV := .agg [vS0, vS1, vS2]
def vActs : GV := .sl .none [.agg [.i .i64 1, .i .i64 0, .s [100], .s [], .sl .none [.agg [.i .i64 1, .i .i64 1, .s []]], .sl .full [], .i .i64 0], .agg [.i .i64 1, .i .i64 0, .s [100], .s [], .sl .none [.agg [.i .i64 1, .i .i64 1, .s []]], .sl .full [], .i .i64 0], .agg [.i .i64 1, .i .i64 0, .s [100], .s [], .sl .none [.agg [.i .i64 1, .i .i64 1, .s []]], .sl .full [], .i .i64 0], .agg [.i .i64 1, .i .i64 0, .s [100], .s [], .sl .none [.agg [.i .i64 1, .i .i64 1, .s []]], .sl .full [], .i .i64 0], .agg [.i .i64 4, .i .i64 2, .s [], .s [], .sl .full [], .sl .none [.agg [.s [119], .i .i64 1, .i .i64 0]], .i .i64 0], .agg [.i .i64 4, .i .i64 3, .s [], .s [], .sl .full [], .sl .none [.agg [.s [119], .i .i64 1, .i .i64 0]], .i .i64 0], .agg [.i .i64 4, .i .i64 4, .s [], .s [], .sl .full [], .sl .none [.agg [.s [119], .i .i64 1, .i .i64 0]], .i .i64 0]]
def vB : GV := .agg [.sl .none [.agg [.i .i64 1, .s [100], .sl .none [.agg [.i .i64 1, .i .i64 1, .s []]]], .agg [.i .i64 2, .s [100], .sl .none [.agg [.i .i64 1, .i .i64 1, .s []]]], .agg [.i .i64 3, .s [100], .sl .none [.agg [.i .i64 1, .i .i64 1, .s []]]], .agg [.i .i64 4, .s [100], .sl .none [.agg [.i .i64 1, .i .i64 1, .s []]]]], .sl .none [.agg [.s [119], .i .i64 1, .sl .none [.i .i64 2, .i .i64 3, .i .i64 4]]], .i .i64 5]
def vD : GV := .agg [.sl .none [.agg [.i .i64 1, .s [100], .sl .none [.agg [.i .i64 1, .i .i64 1, .s []]]], .agg [.i .i64 2, .s [100], .sl .none [.agg [.i .i64 1, .i .i64 1, .s []]]], .agg [.i .i64 4, .s [100], .sl .none [.agg [.i .i64 1, .i .i64 1, .s []]]]], .sl .none [.agg [.s [119], .i .i64 1, .sl .none [.i .i64 2, .i .i64 4]]], .i .i64 5]
def vN0 : GV := .agg [.i .i64 0, .sl .none [.i .i64 0], .sl .none [.agg [.i .i64 0, .i .i64 0, .i .i64 0, .i .i64 0, .i .i64 0]], .sl .none [.i .i64 0]]
def vN1 : GV := .agg [.i .i64 3, .sl .none [.i .i64 3], .sl .none [.agg [.i .i64 2, .i .i64 1, .i .i64 3, .i .i64 0, .i .i64 0]], .sl .none [.i .i64 3]]
def vN2 : GV := .agg [.i .i64 0, .sl .none [.i .i64 0], .sl .none [.agg [.i .i64 3, .i .i64 1, .i .i64 0, .i .i64 2, .i .i64 4]], .sl .none [.i .i64 0]]
section
variable [MaxL]
instance : KG vS0 := ⟨fun _ => rfl⟩
instance : KG vS1 := ⟨fun _ => rfl⟩
instance : KG vS2 := ⟨fun _ => rfl⟩
instance : KG vB0 := ⟨fun _ => rfl⟩
instance : KG vB1 := ⟨fun _ => rfl⟩
instance : KG vB2 := ⟨fun _ => rfl⟩
instance : KG vB3 := ⟨fun _ => rfl⟩
instance : KG vB4 := ⟨fun _ => rfl⟩
instance : KG vB5 := ⟨fun _ => rfl⟩
instance : KG vB6 := ⟨fun _ => rfl⟩
instance : KG vS := ⟨fun _ => rfl⟩
instance : KG vActs := ⟨fun _ => rfl⟩
instance : KG vB := ⟨fun _ => rfl⟩
instance : KG vD := ⟨fun _ => rfl⟩
instance : KG vN0 := ⟨fun _ => rfl⟩
instance : KG vN1 := ⟨fun _ => rfl⟩
instance : KG vN2 := ⟨fun _ => rfl⟩
end
end Go.Proofs.YtcbknpdjdlgljaaGreatDoor
namespace Go.Proofs.YtcbknpdjdlgljaaGreatDoor
open Go.RowKit
set_option maxRecDepth 100000
set_option linter.unusedVariables false
theorem e_ofB [MaxL] : SC Tryz.prog 44 [vS, vB] [] (.val (.ptr 0 0)) [.box 118 [vS0, vS1, vS2, .mp 1, .mp 2], .mx [(.i .i64 1, .s [100]), (.i .i64 2, .s [100]), (.i .i64 3, .s [100]), (.i .i64 4, .s [100])] [0, 1, 2, 3] 4, .mx [(.agg [.i .i64 0, .i .i64 1], .sl .none [.i .i64 2, .i .i64 3, .i .i64 4])] [0] 1] :=
  SC.of_hcallO [4, 2, 3] 13 mixed (kEnv_sound [142] rfl (l := []) (fun e h => by cases h)) (kEnv_q []) (m := 300) (by kernel_rfl) rfl (by decide) rfl rfl
theorem e_ofD [MaxL] : SC Tryz.prog 44 [vS, vD] [] (.val (.ptr 0 0)) [.box 118 [vS0, vS1, vS2, .mp 1, .mp 2], .mx [(.i .i64 1, .s [100]), (.i .i64 2, .s [100]), (.i .i64 4, .s [100])] [0, 1, 2] 3, .mx [(.agg [.i .i64 0, .i .i64 1], .sl .none [.i .i64 2, .i .i64 4])] [0] 1] :=
  SC.of_hcallO [4, 2, 3] 12 mixed (kEnv_sound [142] rfl (l := []) (fun e h => by cases h)) (kEnv_q []) (m := 300) (by kernel_rfl) rfl (by decide) rfl rfl
theorem e_clone [MaxL] : SC Tryz.prog 47 [vN1] [] (.val (.agg [.i .i64 3, .rs 0 0 1 1 0, .rs 1 0 5 1 0, .rs 2 0 1 1 0])) [.box 3 [.i .i64 3], .box 67 [.i .i64 2, .i .i64 1, .i .i64 3, .i .i64 0, .i .i64 0], .box 3 [.i .i64 3]] :=
  SC.of_hcallO [2, 3, 4] 5 mixed (kEnv_sound [142] rfl (l := []) (fun e h => by cases h)) (kEnv_q []) (m := 300) (by kernel_rfl) rfl (by decide) rfl rfl
theorem e_VN [MaxL] : SC Tryz.prog 43 [vS, vB, vN1] [] (.val (.b true)) [] :=
  SC.of_hcallF mixed (kEnv_sound [142] rfl (l := []) (fun e h => by cases h)) (kEnv_q []) (m := 300) (by kernel_rfl)
end Go.Proofs.YtcbknpdjdlgljaaGreatDoor
namespace Go.Proofs.YtcbknpdjdlgljaaGreatDoor
open Go.RowKit
set_option maxRecDepth 100000
set_option linter.unusedVariables false
theorem e_VD [MaxL] : SC Tryz.prog 54 [vS, vD] [] (.val (.b true)) [] :=
  SC.of_hcallF mixed (kEnv_sound [142] rfl (l := []) (fun e h => by cases h)) (kEnv_q []) (m := 300) (by kernel_rfl)
end Go.Proofs.YtcbknpdjdlgljaaGreatDoor
namespace Go.Proofs.YtcbknpdjdlgljaaGreatDoor
open Go.RowKit
set_option maxRecDepth 100000
set_option linter.unusedVariables false
theorem GLoop.once [MaxL] {f : GRun} {φ0 φ1 : Fr} {σ0 σ1 : GS} {K : GX → Fr → GS → Prop}
    (h0 : f φ0 σ0 fun x φ' σ' => match x with
      | .normal => ∃ m', m' < 1 ∧ (m' = 1 ∧ φ' = φ0 ∧ σ' = σ0 ∨ m' = 0 ∧ φ' = φ1 ∧ σ' = σ1)
      | .exit i => K (.exit i) φ' σ'
      | .ret => K .ret φ' σ'
      | .panic g => K (.panic g) φ' σ')
    (h1 : f φ1 σ1 fun x φ' σ' => match x with
      | .normal => ∃ m', m' < 0 ∧ (m' = 1 ∧ φ' = φ0 ∧ σ' = σ0 ∨ m' = 0 ∧ φ' = φ1 ∧ σ' = σ1)
      | .exit i => K (.exit i) φ' σ'
      | .ret => K .ret φ' σ'
      | .panic g => K (.panic g) φ' σ') : GLoop f φ0 σ0 K :=
  ⟨⟨fun m φ σ => m = 1 ∧ φ = φ0 ∧ σ = σ0 ∨ m = 0 ∧ φ = φ1 ∧ σ = σ1, fun m φ σ => m = 1 ∧ φ = φ0 ∧ σ = σ0 ∨ m = 0 ∧ φ = φ1 ∧ σ = σ1, 1, .inl ⟨rfl, rfl, rfl⟩, fun _ _ _ h => .inl h, fun m φ σ h => by
    rcases h with ⟨rfl, rfl, rfl⟩ | ⟨rfl, rfl, rfl⟩
    · exact h0
    · exact h1⟩⟩
def aftO (l : List Nat) : List GObj := [.box 37 [vS0, vS1, vS2], .box 52 vB.cells, .box 52 vD.cells, .box 25 vN1.cells,
  .box 25 [.i .i64 0, .sl .full [], .sl .full [], .sl .full []], .box 112 [.ptr 9 0], .box 118 [vS0, vS1, vS2, .mp 7, .mp 8],
  .mx [(.i .i64 1, .s [100]), (.i .i64 2, .s [100]), (.i .i64 3, .s [100]), (.i .i64 4, .s [100])] [0, 1, 2, 3] 4, .mx [(.agg [.i .i64 0, .i .i64 1], .sl .none [.i .i64 2, .i .i64 3, .i .i64 4])] [0] 1,
  .box 118 [vS0, vS1, vS2, .mp 10, .mp 11], .mx [(.i .i64 1, .s [100]), (.i .i64 2, .s [100]), (.i .i64 4, .s [100])] [0, 1, 2] 3, .mx [(.agg [.i .i64 0, .i .i64 1], .sl .none [.i .i64 2, .i .i64 4])] [0] 1,
  .it (some 7) 4 l 4]
def aftL : List (Nat × GV) := [(4, .ptr 0 0), (5, .ptr 1 0), (6, .ptr 2 0), (7, .ptr 3 0), (8, .ptr 4 0), (9, .i .i64 0), (10, .ptr 6 0), (11, .ptr 5 0), (40, .ptr 12 0)]
theorem nodup_le {n : Nat} : ∀ {l : List Nat}, l.Nodup → (∀ x ∈ l, x < n) → l.length ≤ n := by
  induction n with
  | zero =>
    intro l h hl
    cases l with
    | nil => exact Nat.le_refl _
    | cons x l => exact absurd (hl x (by simp)) (Nat.not_lt_zero x)
  | succ n ih =>
    intro l h hl
    have := ih (l := l.erase n) (h.erase n) (fun x hx => by
      have h1 := (h.mem_erase_iff).1 hx
      have h2 := hl x h1.2
      have h3 := h1.1
      omega)
    rw [List.length_erase] at this
    split at this <;> omega
def mA : FuncId → Bool := fun k => !(Nat.beq k 44 || Nat.beq k 47)
section
variable [MaxL]
instance {n : Nat} {l : List (GV × GV)} {bs : List Nat} {c : Nat} [k : KM l] : FO n (.mx l bs c) := ⟨fun e _ => by rw [GObj.ren, k.h]⟩
end
abbrev gonO : List GObj := [.box 112 [.ptr 1 0], .box 118 [vS0, vS1, vS2, .mp 2, .mp 3], .mx [(.i .i64 1, .s [100]), (.i .i64 2, .s [100]), (.i .i64 4, .s [100])] [0, 1, 2] 3, .mx [(.agg [.i .i64 0, .i .i64 1], .sl .none [.i .i64 2, .i .i64 4])] [0] 1]
def mD : FuncId → Bool := fun k => !Nat.beq k 999998
theorem e_gone3 [MaxL] : SC Tryz.prog 55 [.i .i64 3, .ptr 0 0] gonO (.val (.i .i64 0)) gonO := by
  refine SC.of_gwp mA mixed Tryz.func55 rfl (Nat.le_of_ble_eq_true rfl) (Nat.le_refl _) rfl ?_
  conv => whnf
  refine ⟨_, rfl, ?_⟩
  conv => whnf
  exact fin 4
theorem e_gone1 [MaxL] : SC Tryz.prog 55 [.i .i64 1, .ptr 0 0] gonO (.val (.i .i64 1)) gonO := by
  refine SC.of_gwp mA mixed Tryz.func55 rfl (Nat.le_of_ble_eq_true rfl) (Nat.le_refl _) rfl ?_
  conv => whnf
  refine ⟨_, rfl, ?_⟩
  conv => whnf
  exact fin 4
theorem e_moved [MaxL] : SC Tryz.prog 56 [.agg [.i .i64 2, .i .i64 1, .i .i64 3, .i .i64 0, .i .i64 0], .sl .none [.i .i64 2, .i .i64 3, .i .i64 4], .sl .none [.i .i64 2, .i .i64 4], .b false] [] (.val (.agg [.i .i64 3, .i .i64 1, .i .i64 0, .i .i64 2, .i .i64 4])) [] :=
  SC.of_hcallF mixed (kEnv_sound [] rfl (l := []) (fun e h => by cases h)) (kEnv_q []) (m := 300) (by kernel_rfl)
theorem e_After0 [MaxL] : SC Tryz.prog 15 [vS, vB, vD, vN1] [] (.val (.tup [.agg [.i .i64 0, .rs 0 0 1 1 0, .rs 1 0 5 1 0, .rs 2 0 1 1 0], .i .i64 0]))
    [.box 3 [.i .i64 0], .box 67 [.i .i64 3, .i .i64 1, .i .i64 0, .i .i64 2, .i .i64 4], .box 3 [.i .i64 0]] := by
  refine SC.of_gwp mA mixed Tryz.func15 rfl (Nat.le_of_ble_eq_true rfl) (Nat.zero_le _) rfl ?_
  conv => whnf
  refine cP e_VN ?_
  conv => whnf
  refine cP e_VD ?_
  conv => whnf
  refine GDraw.wildT [some 0, some 1, none, some 0, some 2, none, some 5, none, some 5] rfl rfl (by kernel_rfl) ?_
  conv => whnf
  refine cN e_ofB ?_
  conv => whnf
  refine cN e_ofD ?_
  conv => whnf
  refine st ?_
  conv => whnf
  refine GLoop.intro (fun l : List Nat => l.Nodup ∧ ∀ x ∈ l, x < 4) (fun _ => aftL) (fun l => ⟨aftO l, 0, []⟩) (fun l => 4 - l.length) [] ⟨List.nodup_nil, fun x h => by cases h⟩ ?_ rfl ?_
  · repeat' first | exact trivial | exact rfl | refine And.intro ?_ ?_
  intro l φ0 hJ
  conv => whnf
  refine ⟨rfl, ?_⟩
  conv => whnf
  refine ⟨⟨Nat.zero_le _, rfl, Nat.le_refl _⟩, fun _ => ?_, fun i k v b hk hb hn => ?_⟩
  rotate_left
  · have hb4 : b < 4 := by
      rcases i with _ | _ | _ | _ | i <;> simp at hb <;> omega
    have hlt : l.length < 4 := by
      have := nodup_le (n := 4) (l := b :: l) (List.nodup_cons.2 ⟨hn, hJ.1⟩) (fun x hx => by rcases List.mem_cons.1 hx with rfl | hx; exact hb4; exact hJ.2 x hx)
      simp at this; omega
    have hJ' : (b :: l).Nodup ∧ ∀ x ∈ b :: l, x < 4 := ⟨List.nodup_cons.2 ⟨hn, hJ.1⟩, fun x hx => by rcases List.mem_cons.1 hx with rfl | hx; exact hb4; exact hJ.2 x hx⟩
    have hm : 4 - (b :: l).length < 4 - l.length := by rw [List.length_cons]; omega
    rcases i with _ | _ | _ | _ | i
    · cases hk; cases hb
      conv => whnf
      refine ⟨_, rfl, ?_⟩
      conv => whnf
      refine ⟨_, rfl, ?_⟩
      conv => whnf
      refine ⟨_, hm, _ :: l, hJ', rfl, ?_, rfl⟩
      repeat' first | exact trivial | exact rfl | refine And.intro ?_ ?_
    · cases hk; cases hb
      conv => whnf
      refine ⟨_, rfl, ?_⟩
      conv => whnf
      refine ⟨_, rfl, ?_⟩
      conv => whnf
      refine ⟨_, hm, _ :: l, hJ', rfl, ?_, rfl⟩
      repeat' first | exact trivial | exact rfl | refine And.intro ?_ ?_
    · cases hk; cases hb
      conv => whnf
      refine ⟨_, rfl, ?_⟩
      conv => whnf
      refine ⟨_, hm, _ :: l, hJ', rfl, ?_, rfl⟩
      repeat' first | exact trivial | exact rfl | refine And.intro ?_ ?_
    · cases hk; cases hb
      conv => whnf
      refine ⟨_, rfl, ?_⟩
      conv => whnf
      refine ⟨_, rfl, ?_⟩
      conv => whnf
      refine ⟨_, hm, _ :: l, hJ', rfl, ?_, rfl⟩
      repeat' first | exact trivial | exact rfl | refine And.intro ?_ ?_
    · simp at hb
  conv => whnf
  refine cN e_clone ?_
  conv => whnf
  refine st ?_
  conv => whnf
  refine cS [5, 9, 10, 11] e_gone3 ?_
  conv => whnf
  refine st ?_
  conv => whnf
  apply GLoop.once
  · conv => whnf
    refine GDraw.wildT [none, some 3, none, none, none, some 3, none, none, some 13, none, none, some 13] rfl rfl (by kernel_rfl) ?_
    conv => whnf
    refine ⟨⟨Int.le_refl _, rfl, by decide⟩, ?_⟩
    conv => whnf
    refine ⟨_, rfl, ?_⟩
    conv => whnf
    refine cS [5, 9, 10, 11] e_gone3 ?_
    conv => whnf
    refine ⟨⟨Int.le_refl _, rfl, by decide⟩, ?_⟩
    conv => whnf
    refine ⟨_, ⟨rfl, Nat.zero_le _, rfl, Nat.le_of_ble_eq_true rfl⟩, ?_⟩
    conv => whnf
    exact ⟨0, Nat.zero_lt_one, .inr ⟨rfl, rfl, rfl⟩⟩
  conv => whnf
  apply GLoop.once
  · conv => whnf
    refine GDraw.wildT [none, some 3, none, none, none, some 3, none, none, some 15, none, none, some 15] rfl rfl (by kernel_rfl) ?_
    conv => whnf
    refine ⟨⟨Int.le_refl _, rfl, by decide⟩, ?_⟩
    conv => whnf
    refine ⟨_, rfl, ?_⟩
    conv => whnf
    refine cS [5, 9, 10, 11] e_gone3 ?_
    conv => whnf
    refine ⟨⟨Int.le_refl _, rfl, by decide⟩, ?_⟩
    conv => whnf
    refine ⟨_, ⟨rfl, Nat.zero_le _, rfl, Nat.le_of_ble_eq_true rfl⟩, ?_⟩
    conv => whnf
    exact ⟨0, Nat.zero_lt_one, .inr ⟨rfl, rfl, rfl⟩⟩
  conv => whnf
  apply GLoop.once
  · conv => whnf
    refine GDraw.at mD ?_
    refine GDraw.wildT [none, some 3, none, none, some 3, none, none, some 14, none, none, none, some 6, none, none, some 3, none, none, none, some 14, none, some 8, some 5, none, none, some 9, none, none, some 3, none, none, none, some 14, none, some 11, none, some 3, none, none, none, some 14, none, none, none, none, some 3, none, none, none, some 14, none, none, none, none, none, some 14] rfl rfl (by kernel_rfl) ?_
    conv => whnf
    refine ⟨⟨Int.le_refl _, rfl, by decide⟩, ?_⟩
    conv => whnf
    refine ⟨_, rfl, ?_⟩
    conv => whnf
    refine ⟨⟨Int.le_refl _, rfl, by decide⟩, ?_⟩
    conv => whnf
    refine ⟨_, rfl, ?_⟩
    conv => whnf
    refine ⟨_, rfl, ?_⟩
    conv => whnf
    refine ⟨⟨Int.le_refl _, rfl, by decide⟩, ?_⟩
    conv => whnf
    refine ⟨_, rfl, ?_⟩
    conv => whnf
    refine ⟨_, rfl, ?_⟩
    conv => whnf
    refine ⟨⟨Int.le_refl _, rfl, by decide⟩, ?_⟩
    conv => whnf
    refine ⟨_, rfl, ?_⟩
    conv => whnf
    refine ⟨⟨Int.le_refl _, rfl, by decide⟩, ?_⟩
    conv => whnf
    refine ⟨_, rfl, ?_⟩
    conv => whnf
    refine cS [5, 9, 10, 11] e_gone1 ?_
    conv => whnf
    refine cP e_moved ?_
    conv => whnf
    refine ⟨⟨Int.le_refl _, rfl, by decide⟩, ?_⟩
    conv => whnf
    refine ⟨_, ⟨rfl, Nat.zero_le _, rfl, Nat.le_of_ble_eq_true rfl⟩, ?_⟩
    conv => whnf
    exact ⟨0, Nat.zero_lt_one, .inr ⟨rfl, rfl, rfl⟩⟩
  conv => whnf
  refine st ?_
  conv => whnf
  refine ⟨[13, 14, 15], Lies.mk' rfl rfl (by decide) rfl, fun i hi => absurd hi (Nat.not_lt_zero i), ?_⟩
  exact Wk.refl _
end Go.Proofs.YtcbknpdjdlgljaaGreatDoor
namespace Go.Proofs.YtcbknpdjdlgljaaGreatDoor
open Go.RowKit
set_option maxRecDepth 100000
set_option linter.unusedVariables false
theorem e_Parse [MaxL] : SC Tryz.prog 10 [.s [97, 114, 101, 97, 32, 97, 32, 52, 10, 114, 101, 99, 111, 114, 100, 32, 100, 32, 105, 110, 32, 97, 32, 100, 105, 114, 101, 99, 116, 32, 123, 32, 110, 32, 105, 110, 116, 32, 48, 32, 57, 32, 125, 10, 115, 101, 116, 32, 119, 32, 111, 119, 110, 101, 114, 32, 100, 32, 108, 97, 115, 116, 32, 99, 104, 97, 105, 110, 32, 123, 32, 100, 32, 109, 97, 110, 117, 97, 108, 32, 111, 112, 116, 105, 111, 110, 97, 108, 32, 125, 10]] [] (.val (.tup [vS, .i .i64 0, .i .i64 0])) [] :=
  SC.of_hcallF mixed (kEnv_sound [142] rfl (l := []) (fun e h => by cases h)) (kEnv_q []) (m := 300) (by kernel_rfl)
end Go.Proofs.YtcbknpdjdlgljaaGreatDoor
namespace Go.Proofs.YtcbknpdjdlgljaaGreatDoor
open Go.RowKit
set_option maxRecDepth 100000
set_option linter.unusedVariables false
theorem e_Do0 [MaxL] : SC Tryz.prog 41 [vS, vB0, .agg [.i .i64 1, .i .i64 0, .s [100], .s [], .sl .none [.agg [.i .i64 1, .i .i64 1, .s []]], .sl .full [], .i .i64 0]] [] (.val (.tup [vB1, .sl .none [.i .i64 1], .i .i64 0])) [] :=
  SC.of_hcallF mixed (kEnv_sound [142] rfl (l := []) (fun e h => by cases h)) (kEnv_q []) (m := 300) (by kernel_rfl)
end Go.Proofs.YtcbknpdjdlgljaaGreatDoor
namespace Go.Proofs.YtcbknpdjdlgljaaGreatDoor
open Go.RowKit
set_option maxRecDepth 100000
set_option linter.unusedVariables false
theorem e_Do1 [MaxL] : SC Tryz.prog 41 [vS, vB1, .agg [.i .i64 1, .i .i64 0, .s [100], .s [], .sl .none [.agg [.i .i64 1, .i .i64 1, .s []]], .sl .full [], .i .i64 0]] [] (.val (.tup [vB2, .sl .none [.i .i64 2], .i .i64 0])) [] :=
  SC.of_hcallF mixed (kEnv_sound [142] rfl (l := []) (fun e h => by cases h)) (kEnv_q []) (m := 300) (by kernel_rfl)
end Go.Proofs.YtcbknpdjdlgljaaGreatDoor
namespace Go.Proofs.YtcbknpdjdlgljaaGreatDoor
open Go.RowKit
set_option maxRecDepth 100000
set_option linter.unusedVariables false
theorem e_Do2 [MaxL] : SC Tryz.prog 41 [vS, vB2, .agg [.i .i64 1, .i .i64 0, .s [100], .s [], .sl .none [.agg [.i .i64 1, .i .i64 1, .s []]], .sl .full [], .i .i64 0]] [] (.val (.tup [vB3, .sl .none [.i .i64 3], .i .i64 0])) [] :=
  SC.of_hcallF mixed (kEnv_sound [142] rfl (l := []) (fun e h => by cases h)) (kEnv_q []) (m := 300) (by kernel_rfl)
end Go.Proofs.YtcbknpdjdlgljaaGreatDoor
namespace Go.Proofs.YtcbknpdjdlgljaaGreatDoor
open Go.RowKit
set_option maxRecDepth 100000
set_option linter.unusedVariables false
theorem e_Do3 [MaxL] : SC Tryz.prog 41 [vS, vB3, .agg [.i .i64 1, .i .i64 0, .s [100], .s [], .sl .none [.agg [.i .i64 1, .i .i64 1, .s []]], .sl .full [], .i .i64 0]] [] (.val (.tup [vB4, .sl .none [.i .i64 4], .i .i64 0])) [] :=
  SC.of_hcallF mixed (kEnv_sound [142] rfl (l := []) (fun e h => by cases h)) (kEnv_q []) (m := 300) (by kernel_rfl)
end Go.Proofs.YtcbknpdjdlgljaaGreatDoor
namespace Go.Proofs.YtcbknpdjdlgljaaGreatDoor
open Go.RowKit
set_option maxRecDepth 100000
set_option linter.unusedVariables false
theorem e_Do4 [MaxL] : SC Tryz.prog 41 [vS, vB4, .agg [.i .i64 4, .i .i64 2, .s [], .s [], .sl .full [], .sl .none [.agg [.s [119], .i .i64 1, .i .i64 0]], .i .i64 0]] [] (.val (.tup [vB5, .sl .none [], .i .i64 0])) [] :=
  SC.of_hcallF mixed (kEnv_sound [142] rfl (l := []) (fun e h => by cases h)) (kEnv_q []) (m := 300) (by kernel_rfl)
end Go.Proofs.YtcbknpdjdlgljaaGreatDoor
namespace Go.Proofs.YtcbknpdjdlgljaaGreatDoor
open Go.RowKit
set_option maxRecDepth 100000
set_option linter.unusedVariables false
theorem e_Do5 [MaxL] : SC Tryz.prog 41 [vS, vB5, .agg [.i .i64 4, .i .i64 3, .s [], .s [], .sl .full [], .sl .none [.agg [.s [119], .i .i64 1, .i .i64 0]], .i .i64 0]] [] (.val (.tup [vB6, .sl .none [], .i .i64 0])) [] :=
  SC.of_hcallF mixed (kEnv_sound [142] rfl (l := []) (fun e h => by cases h)) (kEnv_q []) (m := 300) (by kernel_rfl)
end Go.Proofs.YtcbknpdjdlgljaaGreatDoor
namespace Go.Proofs.YtcbknpdjdlgljaaGreatDoor
open Go.RowKit
set_option maxRecDepth 100000
set_option linter.unusedVariables false
theorem e_Do6 [MaxL] : SC Tryz.prog 41 [vS, vB6, .agg [.i .i64 4, .i .i64 4, .s [], .s [], .sl .full [], .sl .none [.agg [.s [119], .i .i64 1, .i .i64 0]], .i .i64 0]] [] (.val (.tup [vB, .sl .none [], .i .i64 0])) [] :=
  SC.of_hcallF mixed (kEnv_sound [142] rfl (l := []) (fun e h => by cases h)) (kEnv_q []) (m := 300) (by kernel_rfl)
end Go.Proofs.YtcbknpdjdlgljaaGreatDoor
namespace Go.Proofs.YtcbknpdjdlgljaaGreatDoor
open Go.RowKit
set_option maxRecDepth 100000
set_option linter.unusedVariables false
def tabDo : List Ent := [⟨41, [vS, vB0, .agg [.i .i64 1, .i .i64 0, .s [100], .s [], .sl .none [.agg [.i .i64 1, .i .i64 1, .s []]], .sl .full [], .i .i64 0]], .tup [vB1, .sl .none [.i .i64 1], .i .i64 0]⟩, ⟨41, [vS, vB1, .agg [.i .i64 1, .i .i64 0, .s [100], .s [], .sl .none [.agg [.i .i64 1, .i .i64 1, .s []]], .sl .full [], .i .i64 0]], .tup [vB2, .sl .none [.i .i64 2], .i .i64 0]⟩, ⟨41, [vS, vB2, .agg [.i .i64 1, .i .i64 0, .s [100], .s [], .sl .none [.agg [.i .i64 1, .i .i64 1, .s []]], .sl .full [], .i .i64 0]], .tup [vB3, .sl .none [.i .i64 3], .i .i64 0]⟩, ⟨41, [vS, vB3, .agg [.i .i64 1, .i .i64 0, .s [100], .s [], .sl .none [.agg [.i .i64 1, .i .i64 1, .s []]], .sl .full [], .i .i64 0]], .tup [vB4, .sl .none [.i .i64 4], .i .i64 0]⟩, ⟨41, [vS, vB4, .agg [.i .i64 4, .i .i64 2, .s [], .s [], .sl .full [], .sl .none [.agg [.s [119], .i .i64 1, .i .i64 0]], .i .i64 0]], .tup [vB5, .sl .none [], .i .i64 0]⟩, ⟨41, [vS, vB5, .agg [.i .i64 4, .i .i64 3, .s [], .s [], .sl .full [], .sl .none [.agg [.s [119], .i .i64 1, .i .i64 0]], .i .i64 0]], .tup [vB6, .sl .none [], .i .i64 0]⟩, ⟨41, [vS, vB6, .agg [.i .i64 4, .i .i64 4, .s [], .s [], .sl .full [], .sl .none [.agg [.s [119], .i .i64 1, .i .i64 0]], .i .i64 0]], .tup [vB, .sl .none [], .i .i64 0]⟩]
theorem tabDo_ok [MaxL] : ∀ e ∈ tabDo, EntOk Tryz.prog e := fun e h => by
  unfold tabDo at h
  simp only [List.mem_cons, List.not_mem_nil, or_false] at h
  rcases h with rfl | rfl | rfl | rfl | rfl | rfl | rfl
  · exact ⟨e_Do0, fun _ => rfl, fun _ => rfl⟩
  · exact ⟨e_Do1, fun _ => rfl, fun _ => rfl⟩
  · exact ⟨e_Do2, fun _ => rfl, fun _ => rfl⟩
  · exact ⟨e_Do3, fun _ => rfl, fun _ => rfl⟩
  · exact ⟨e_Do4, fun _ => rfl, fun _ => rfl⟩
  · exact ⟨e_Do5, fun _ => rfl, fun _ => rfl⟩
  · exact ⟨e_Do6, fun _ => rfl, fun _ => rfl⟩
theorem e_Play [MaxL] : SC Tryz.prog 11 [vS, vActs] [] (.val (.tup [vB, .sl .none [.i .i64 0, .i .i64 0, .i .i64 0, .i .i64 0, .i .i64 0, .i .i64 0, .i .i64 0], .i .i64 0])) [] :=
  SC.of_hcallF mixed (kEnv_sound [142] rfl (l := tabDo) tabDo_ok) (kEnv_q tabDo) (m := 300) (by kernel_rfl)
end Go.Proofs.YtcbknpdjdlgljaaGreatDoor
namespace Go.Proofs.YtcbknpdjdlgljaaGreatDoor
open Go.RowKit
set_option maxRecDepth 100000
set_option linter.unusedVariables false
theorem e_Start [MaxL] : SC Tryz.prog 12 [vS] [] (.val (.tup [vN0, .i .i64 0])) [] :=
  SC.of_hcallF mixed (kEnv_sound [142] rfl (l := []) (fun e h => by cases h)) (kEnv_q []) (m := 300) (by kernel_rfl)
end Go.Proofs.YtcbknpdjdlgljaaGreatDoor
namespace Go.Proofs.YtcbknpdjdlgljaaGreatDoor
open Go.RowKit
set_option maxRecDepth 100000
set_option linter.unusedVariables false
theorem e_Found [MaxL] : SC Tryz.prog 13 [vS, vB, vN0, .i .i64 3, .agg [.b false, .b false, .sl .full []]] [] (.val (.tup [vN1, .i .i64 0])) [] :=
  SC.of_hcallF mixed (kEnv_sound [142] rfl (l := []) (fun e h => by cases h)) (kEnv_q []) (m := 300) (by kernel_rfl)
end Go.Proofs.YtcbknpdjdlgljaaGreatDoor
namespace Go.Proofs.YtcbknpdjdlgljaaGreatDoor
open Go.RowKit
set_option maxRecDepth 100000
set_option linter.unusedVariables false
theorem e_Erase [MaxL] : SC Tryz.prog 14 [vS, vB, .i .i64 3, .i .i64 1] [] (.val (.tup [vD, .sl .none [.i .i64 3], .i .i64 0])) [] :=
  SC.of_hcallF mixed (kEnv_sound [142] rfl (l := []) (fun e h => by cases h)) (kEnv_q []) (m := 300) (by kernel_rfl)
end Go.Proofs.YtcbknpdjdlgljaaGreatDoor
namespace Go.Proofs.YtcbknpdjdlgljaaGreatDoor
open Go.RowKit
set_option maxRecDepth 100000
set_option linter.unusedVariables false
theorem e_After [MaxL] : SC Tryz.prog 15 [vS, vB, vD, vN1] [] (.val (.tup [vN2, .i .i64 0])) [] := e_After0.cool (by kernel_rfl)
def tabA : List Ent := [⟨10, [.s [97, 114, 101, 97, 32, 97, 32, 52, 10, 114, 101, 99, 111, 114, 100, 32, 100, 32, 105, 110, 32, 97, 32, 100, 105, 114, 101, 99, 116, 32, 123, 32, 110, 32, 105, 110, 116, 32, 48, 32, 57, 32, 125, 10, 115, 101, 116, 32, 119, 32, 111, 119, 110, 101, 114, 32, 100, 32, 108, 97, 115, 116, 32, 99, 104, 97, 105, 110, 32, 123, 32, 100, 32, 109, 97, 110, 117, 97, 108, 32, 111, 112, 116, 105, 111, 110, 97, 108, 32, 125, 10]], .tup [vS, .i .i64 0, .i .i64 0]⟩, ⟨11, [vS, vActs], .tup [vB, .sl .none [.i .i64 0, .i .i64 0, .i .i64 0, .i .i64 0, .i .i64 0, .i .i64 0, .i .i64 0], .i .i64 0]⟩, ⟨12, [vS], .tup [vN0, .i .i64 0]⟩, ⟨13, [vS, vB, vN0, .i .i64 3, .agg [.b false, .b false, .sl .full []]], .tup [vN1, .i .i64 0]⟩, ⟨14, [vS, vB, .i .i64 3, .i .i64 1], .tup [vD, .sl .none [.i .i64 3], .i .i64 0]⟩, ⟨15, [vS, vB, vD, vN1], .tup [vN2, .i .i64 0]⟩]
theorem tabA_ok [MaxL] : ∀ e ∈ tabA, EntOk Tryz.prog e := fun e h => by
  unfold tabA at h
  simp only [List.mem_cons, List.not_mem_nil, or_false] at h
  rcases h with rfl | rfl | rfl | rfl | rfl | rfl
  · exact ⟨e_Parse, fun _ => rfl, fun _ => rfl⟩
  · exact ⟨e_Play, fun _ => rfl, fun _ => rfl⟩
  · exact ⟨e_Start, fun _ => rfl, fun _ => rfl⟩
  · exact ⟨e_Found, fun _ => rfl, fun _ => rfl⟩
  · exact ⟨e_Erase, fun _ => rfl, fun _ => rfl⟩
  · exact ⟨e_After, fun _ => rfl, fun _ => rfl⟩
theorem e_awakeK [MaxL] : SC Tryz.prog 4 [] [] (.val (.b true)) [] :=
  SC.of_hcallF mixed (kEnv_sound [142] rfl (l := tabA) tabA_ok) (kEnv_q tabA) (m := 300) (by kernel_rfl)
end Go.Proofs.YtcbknpdjdlgljaaGreatDoor
namespace Go.Proofs.YtcbknpdjdlgljaaGreatDoor
open Go.RowKit
set_option maxRecDepth 100000
set_option linter.unusedVariables false
theorem u64w (n : Int) : IntKind.u64.wrap n = n % 18446744073709551616 := by unfold IntKind.wrap; simp [IntKind.signed, IntKind.bits]
theorem occ_app (s sub r : By) : Lib.occAt (s ++ sub ++ r) sub s.length = true := by
  unfold Lib.occAt
  rw [List.append_assoc, List.drop_left]
  exact List.isPrefixOf_iff_prefix.2 ⟨r, rfl⟩
theorem index_some : ∀ {s sub : By}, 0 ≤ Lib.index s sub → ∃ a b, s = a ++ sub ++ b ∧ Lib.index s sub = (a.length : Nat) ∧ ∀ j, j < a.length → Lib.occAt s sub j = false
  | [], sub, h => by
    unfold Lib.index at h ⊢
    split at h
    · rename_i h1
      have : sub = [] := by simpa using h1
      subst this
      exact ⟨[], [], rfl, by simp, fun j hj => absurd hj (Nat.not_lt_zero j)⟩
    · omega
  | c :: l, sub, h => by
    unfold Lib.index at h ⊢
    split at h
    · rename_i h1
      obtain ⟨t, ht⟩ := List.isPrefixOf_iff_prefix.1 h1
      exact ⟨[], t, by simp [ht], by rw [if_pos h1]; rfl, fun j hj => absurd hj (Nat.not_lt_zero j)⟩
    · rename_i h1
      split at h
      · omega
      · rename_i h2
        have h3 := Lib.index_ge l sub
        have h4 : Lib.index l sub ≠ -1 := by simpa using h2
        obtain ⟨a, b, hs, hi, hf⟩ := index_some (s := l) (sub := sub) (by omega)
        refine ⟨c :: a, b, by rw [hs]; rfl, ?_, fun j hj => ?_⟩
        · rw [if_neg h1, if_neg h2, hi]; simp
        · cases j with
          | zero =>
            show List.isPrefixOf sub (c :: l) = false
            exact Bool.eq_false_iff.2 h1
          | succ j => exact hf j (by simpa using hj)
theorem index_no {s sub : By} (h : ¬ 0 ≤ Lib.index s sub) : Lib.index s sub = -1 := by have := Lib.index_ge s sub; omega
theorem index_at {sub : By} (a b : By) (h : ∀ j, j < a.length → Lib.occAt (a ++ sub ++ b) sub j = false) : Lib.index (a ++ sub ++ b) sub = (a.length : Nat) :=
  Lib.index_first (by simp) (occ_app a sub b) h
theorem index_c {c : UInt8} {t : By} (a b : By) (h : c ∉ a) : Lib.index (a ++ (c :: t) ++ b) (c :: t) = (a.length : Nat) :=
  index_at a b fun j hj => by
    cases e : Lib.occAt (a ++ (c :: t) ++ b) (c :: t) j with
    | false => rfl
    | true =>
      have h1 := Lib.occAt_head rfl e
      rw [List.append_assoc, List.getElem?_append_left hj] at h1
      exact absurd (List.mem_of_getElem? h1) h
theorem cut_c {c : UInt8} {t : By} (a b : By) (h : c ∉ a) : Lib.cut (a ++ (c :: t) ++ b) (c :: t) = (a, b, true) := by
  unfold Lib.cut
  rw [index_c a b h, if_pos (Int.natCast_nonneg _), Int.toNat_natCast, List.append_assoc, List.take_left, ← List.append_assoc, show a.length + (c :: t).length = (a ++ (c :: t)).length by simp, List.drop_left]
theorem cut_no {c : UInt8} {t : By} {s : By} (h : c ∉ s) : Lib.cut s (c :: t) = (s, [], false) := by
  unfold Lib.cut
  rw [if_neg]
  intro h1
  obtain ⟨a, b, hs, _⟩ := index_some h1
  exact h (by rw [hs]; simp)
theorem cut_cases (s sub : By) : (∃ a b, s = a ++ sub ++ b ∧ Lib.cut s sub = (a, b, true) ∧ Lib.index s sub = (a.length : Nat) ∧ ∀ j, j < a.length → Lib.occAt s sub j = false) ∨ (Lib.cut s sub = (s, [], false) ∧ Lib.index s sub = -1) := by
  unfold Lib.cut
  by_cases h : 0 ≤ Lib.index s sub
  · left
    obtain ⟨a, b, hs, hi, hf⟩ := index_some h
    refine ⟨a, b, hs, ?_, hi, hf⟩
    rw [if_pos h, hi, Int.toNat_natCast]
    conv => lhs; rw [hs]
    rw [List.append_assoc, List.take_left, ← List.append_assoc, show a.length + sub.length = (a ++ sub).length by simp, List.drop_left]
  · exact .inr ⟨if_neg h, index_no h⟩
def piecesF (sub : By) : Nat → By → List By
  | 0, s => [s]
  | n + 1, s => if 0 ≤ Lib.index s sub then s.take (Lib.index s sub).toNat :: piecesF sub n (s.drop ((Lib.index s sub).toNat + sub.length)) else [s]
def pieces (sub s : By) : List By := piecesF sub (s.length + 1) s
theorem piecesF_eq {sub : By} (hs : sub ≠ []) : ∀ (n m : Nat) (s : By), s.length < n → s.length < m → piecesF sub n s = piecesF sub m s
  | 0, m, s, h, _ => absurd h (Nat.not_lt_zero _)
  | n + 1, 0, s, _, h => absurd h (Nat.not_lt_zero _)
  | n + 1, m + 1, s, h, h' => by
    unfold piecesF
    by_cases hi : 0 ≤ Lib.index s sub
    · rw [if_pos hi, if_pos hi]
      have hl : 0 < sub.length := List.length_pos_iff.2 hs
      obtain ⟨a, b, e, _⟩ := index_some hi
      have : 0 < s.length := by rw [e]; simp; omega
      rw [piecesF_eq hs n m _ (by simp; omega) (by simp; omega)]
    · rw [if_neg hi, if_neg hi]
theorem pieces_cut {sub : By} (hs : sub ≠ []) (s : By) : pieces sub s = if (Lib.cut s sub).2.2 = true then (Lib.cut s sub).1 :: pieces sub (Lib.cut s sub).2.1 else [s] := by
  have hl : 0 < sub.length := List.length_pos_iff.2 hs
  unfold pieces
  rw [piecesF]
  unfold Lib.cut
  by_cases hi : 0 ≤ Lib.index s sub
  · rw [if_pos hi, if_pos hi, if_pos rfl]
    obtain ⟨a, b, e, _⟩ := index_some hi
    have : 0 < s.length := by rw [e]; simp; omega
    rw [piecesF_eq hs s.length _ _ (by simp; omega) (Nat.lt_succ_self _)]
  · rw [if_neg hi, if_neg hi, if_neg (by simp)]
theorem pieces_c {c : UInt8} {t : By} (a b : By) (h : c ∉ a) : pieces (c :: t) (a ++ (c :: t) ++ b) = a :: pieces (c :: t) b := by
  rw [pieces_cut (List.cons_ne_nil _ _), cut_c a b h]; rfl
theorem pieces_no {c : UInt8} {t : By} {s : By} (h : c ∉ s) : pieces (c :: t) s = [s] := by
  rw [pieces_cut (List.cons_ne_nil _ _), cut_no h]; rfl
theorem pieces_ne (sub s : By) (hs : sub ≠ []) : pieces sub s ≠ [] := by
  rw [pieces_cut hs]; split <;> exact List.cons_ne_nil _ _
theorem pieces_len {sub : By} (hs : sub ≠ []) : ∀ (n : Nat) (s : By), s.length ≤ n → (pieces sub s).length ≤ s.length + 1 ∧ ∀ x ∈ pieces sub s, x.length ≤ s.length := by
  intro n
  induction n with
  | zero =>
    intro s h
    have : s = [] := List.length_eq_zero_iff.1 (by omega)
    subst this
    rw [pieces_cut hs]
    rcases cut_cases [] sub with ⟨a, b, e, _⟩ | ⟨e, _⟩
    · have h2 := congrArg List.length e; have hl : 0 < sub.length := List.length_pos_iff.2 hs; simp at h2; omega
    · rw [e]; simp
  | succ n ih =>
    intro s h
    rw [pieces_cut hs]
    rcases cut_cases s sub with ⟨a, b, e, h1, _⟩ | ⟨e, _⟩
    · rw [h1]
      have hl : 0 < sub.length := List.length_pos_iff.2 hs
      have h2 : s.length = a.length + sub.length + b.length := by rw [e]; simp; omega
      obtain ⟨i1, i2⟩ := ih b (by omega)
      simp only [if_true, List.length_cons]
      refine ⟨by omega, fun x hx => ?_⟩
      rcases List.mem_cons.1 hx with rfl | hx
      · omega
      · have := i2 x hx; omega
    · rw [e]; simp
theorem join_cons2 (x y : By) (l : List By) (sep : By) : Lib.join (x :: y :: l) sep = x ++ sep ++ Lib.join (y :: l) sep := by
  unfold Lib.join
  simp [List.intercalate]
theorem join_one (x sep : By) : Lib.join [x] sep = x := by
  unfold Lib.join
  simp [List.intercalate]
theorem pieces_join {sub : By} (hs : sub ≠ []) : ∀ (n : Nat) (s : By), s.length ≤ n → Lib.join (pieces sub s) sub = s := by
  intro n
  induction n with
  | zero =>
    intro s h
    have : s = [] := List.length_eq_zero_iff.1 (by omega)
    subst this
    rw [pieces_cut hs]
    rcases cut_cases [] sub with ⟨a, b, e, _⟩ | ⟨e, _⟩
    · have h2 := congrArg List.length e; have hl : 0 < sub.length := List.length_pos_iff.2 hs; simp at h2; omega
    · rw [e]; exact join_one _ _
  | succ n ih =>
    intro s h
    rw [pieces_cut hs]
    rcases cut_cases s sub with ⟨a, b, e, h1, _⟩ | ⟨e, _⟩
    · rw [h1]
      have hl : 0 < sub.length := List.length_pos_iff.2 hs
      have h2 : s.length = a.length + sub.length + b.length := by rw [e]; simp; omega
      have h3 := ih b (by omega)
      simp only [if_true]
      cases hp : pieces sub b with
      | nil => exact absurd hp (pieces_ne sub b hs)
      | cons x l => rw [hp] at h3; rw [join_cons2, h3]; exact e.symm
    · rw [e]; exact join_one _ _
theorem pieces_at {sub t : By} (hs : sub ≠ []) {k : Nat} (h : Lib.index t sub = (k : Nat)) : pieces sub t = t.take k :: pieces sub (t.drop (k + sub.length)) := by
  rw [pieces_cut hs]
  have : Lib.cut t sub = (t.take k, t.drop (k + sub.length), true) := by
    unfold Lib.cut; rw [h, if_pos (Int.natCast_nonneg _), Int.toNat_natCast]
  rw [this]; rfl
theorem pieces_end {sub t : By} (hs : sub ≠ []) (h : Lib.index t sub = -1) : pieces sub t = [t] := by
  rw [pieces_cut hs]
  have : Lib.cut t sub = (t, [], false) := by
    unfold Lib.cut; rw [h, if_neg (by omega)]
  rw [this]; rfl
theorem pieces_of_join {c : UInt8} {t : By} : ∀ (L : List By), L ≠ [] → (∀ x ∈ L, c ∉ x) → pieces (c :: t) (Lib.join L (c :: t)) = L
  | [], h, _ => absurd rfl h
  | [x], _, h => by rw [join_one]; exact pieces_no (h x (by simp))
  | x :: y :: l, _, h => by
    rw [join_cons2, pieces_c x _ (h x (by simp)), pieces_of_join (y :: l) (List.cons_ne_nil _ _) (fun z hz => h z (List.mem_cons_of_mem _ hz))]
theorem mem_join {c : UInt8} : ∀ (L : List By) (sep : By), c ∈ Lib.join L sep → c ∈ sep ∨ ∃ x ∈ L, c ∈ x
  | [], sep, h => by unfold Lib.join at h; simp [List.intercalate] at h
  | [x], sep, h => by rw [join_one] at h; exact .inr ⟨x, by simp, h⟩
  | x :: y :: l, sep, h => by
    rw [join_cons2] at h
    rcases List.mem_append.1 h with h | h
    · rcases List.mem_append.1 h with h | h
      · exact .inr ⟨x, by simp, h⟩
      · exact .inl h
    · rcases mem_join (y :: l) sep h with h | ⟨z, hz, h⟩
      · exact .inl h
      · exact .inr ⟨z, List.mem_cons_of_mem _ hz, h⟩
end Go.Proofs.YtcbknpdjdlgljaaGreatDoor
namespace Go.Proofs.YtcbknpdjdlgljaaGreatDoor
open Go.RowKit
set_option maxRecDepth 100000
set_option linter.unusedVariables false
theorem u8w' (n : Int) : IntKind.u8.wrap n = n % 256 := by unfold IntKind.wrap; simp [IntKind.signed, IntKind.bits]
def digU (m : Nat) : By := if m = 0 then [] else Lib.decDigits m
theorem itoa_nul : Lib.itoa 0 = [48] := by unfold Lib.itoa; rw [if_neg (by decide)]; exact Lib.decDigits_one (by decide)
theorem digU_step {m : Nat} (h : 0 < m) : digU m = digU (m / 10) ++ [UInt8.ofNat (48 + m % 10)] := by
  unfold digU
  rw [if_neg (by omega)]
  by_cases h10 : m < 10
  · rw [if_pos (by omega), Lib.decDigits_one h10, Nat.mod_eq_of_lt h10]; rfl
  · rw [if_neg (by omega)]
    conv => lhs; rw [Lib.decDigits, dif_neg h10]
theorem digU_len {m : Nat} (h : m < 18446744073709551616) : (digU m).length ≤ 21 := by
  unfold digU
  split
  · simp
  · have hb : ∀ (n k : Nat), n < 10 ^ k → 0 < k → (Lib.decDigits n).length ≤ k := by
      intro n k
      induction k generalizing n with
      | zero => intro _ h; omega
      | succ k ih =>
        intro h1 _
        by_cases h2 : n < 10
        · rw [Lib.decDigits_one h2]; simp
        · rw [Lib.decDigits, dif_neg h2, List.length_append]
          have hk : 0 < k := by
            rcases Nat.eq_zero_or_pos k with rfl | h3
            · simp at h1; omega
            · exact h3
          have := ih (n / 10) (by rw [Nat.pow_succ] at h1; exact Nat.div_lt_of_lt_mul (by omega)) hk
          simp; omega
    exact Nat.le_trans (hb m 20 (by omega) (by decide)) (by decide)
theorem dig_byte (k : Nat) : gbytes [.i .u8 (IntKind.u8.wrap (IntKind.u64.wrap (48 + ((k : Nat) : Int).tmod 10)))] = some [UInt8.ofNat (48 + k % 10)] := by
  have hw : ((k : Nat) : Int).tmod 10 = ((k % 10 : Nat) : Int) := by rw [Int.tmod_eq_emod_of_nonneg (by omega)]; omega
  have hm : k % 10 < 10 := Nat.mod_lt _ (by decide)
  rw [hw, u64w, u8w', show (48 + ((k % 10 : Nat) : Int)) % 18446744073709551616 % 256 = ((48 + k % 10 : Nat) : Int) by omega]
  rfl
theorem dig_div [MaxL] {k : Nat} (hk : k < 18446744073709551616) : GV.i .u64 (IntKind.u64.wrap (((k : Nat) : Int).tdiv 10)) = .i .u64 ((k / 10 : Nat) : Int) := by
  rw [Int.tdiv_eq_ediv_of_nonneg (by omega), u64w]
  congr 1; omega
theorem r_Digits [MaxL] (n : Int) (h0 : -9223372036854775808 ≤ n) (h1 : n ≤ 9223372036854775807) : SC Tryz.prog 22 [.i .i64 n] [] (.val (.s (Lib.itoa n))) [] := by
  refine SC.of_gwp noM mixed Tryz.func22 rfl (Nat.le_of_ble_eq_true rfl) (by first | exact Nat.le_refl _ | simp) rfl ?_
  conv => whnf
  refine GIf.mk (fun h2 => ?_) (fun h2 => ?_) <;> conv => whnf
  · have : n = 0 := by simpa using h2
    subst this
    exact owes_s itoa_nul.symm
  have h2' : n ≠ 0 := by simpa using h2
  obtain ⟨m, hm⟩ : ∃ m : Nat, m = n.natAbs := ⟨_, rfl⟩
  have hm0 : 0 < m := by omega
  have hml : m < 18446744073709551616 := by omega
  refine GIf.mk (fun h3 => ?_) (fun h3 => ?_) <;> conv => whnf
  · refine GLoop.introS (fun q : Nat × By => q.1 < 18446744073709551616 ∧ digU q.1 ++ q.2 = digU m) (fun q => [(0, .i .i64 n), (3, .i .u64 (q.1 : Nat)), (4, .s q.2)]) (fun q => ⟨[], 0, []⟩) (fun q => q.1) (m, []) ⟨hml, List.append_nil _⟩ ⟨rfl, ?_, rfl, trivial⟩ rfl (fun _ _ => Nat.le_refl _) (fun _ _ => rfl) (fun _ _ _ _ => ⟨rfl, rfl, rfl⟩) (fun q φ0 hq => ?_)
    · show GV.i .u64 (IntKind.u64.wrap (0 - IntKind.u64.wrap n)) = .i .u64 ((m : Nat) : Int)
      rw [u64w, u64w]
      have := of_decide_eq_true h3
      congr 1; omega
    obtain ⟨k, acc⟩ := q
    obtain ⟨hk, hq⟩ := hq
    replace hk : k < 18446744073709551616 := hk
    replace hq : digU k ++ acc = digU m := hq
    have hal : acc.length ≤ 21 := by have := digU_len hml; rw [← hq] at this; simp at this; omega
    conv => whnf
    refine GIf.mk (fun h4 => ?_) (fun h4 => ?_) <;> conv => whnf
    · have h4' : 0 < k := by have := of_decide_eq_true h4; omega
      refine ⟨by decide, ?_⟩
      conv => whnf
      refine ⟨[UInt8.ofNat (48 + k % 10)], dig_byte k, ?_⟩
      conv => whnf
      refine ⟨by show 1 + acc.length < slim; unfold slim; omega, _, rfl, ?_⟩
      conv => whnf
      refine ⟨by decide, ?_⟩
      conv => whnf
      exact ⟨k / 10, (by show k / 10 < k; omega), (k / 10, UInt8.ofNat (48 + k % 10) :: acc), ⟨(by show k / 10 < _; omega), (by show digU (k / 10) ++ UInt8.ofNat (48 + k % 10) :: acc = _; rw [← hq, digU_step h4']; simp)⟩, rfl, ⟨rfl, dig_div hk, rfl, trivial⟩, _, rfl, rfl⟩
    · have h4' : k = 0 := by have := of_decide_eq_false h4; omega
      subst h4'
      replace hq : acc = digU m := hq
      refine GIf.mk (fun h5 => ?_) (fun h5 => ?_) <;> conv => whnf
      · refine ⟨by show 1 + acc.length < slim; unfold slim; omega, _, rfl, ?_⟩
        conv => whnf
        refine owes_s ?_
        show 45 :: acc = _
        have := of_decide_eq_true h3
        rw [hq]
        unfold Lib.itoa digU
        rw [if_pos this, if_neg (by omega), hm]
      · exfalso; have := of_decide_eq_true h3; have := of_decide_eq_false h5; omega
  · refine GLoop.introS (fun q : Nat × By => q.1 < 18446744073709551616 ∧ digU q.1 ++ q.2 = digU m) (fun q => [(0, .i .i64 n), (3, .i .u64 (q.1 : Nat)), (4, .s q.2)]) (fun q => ⟨[], 0, []⟩) (fun q => q.1) (m, []) ⟨hml, List.append_nil _⟩ ⟨rfl, ?_, rfl, trivial⟩ rfl (fun _ _ => Nat.le_refl _) (fun _ _ => rfl) (fun _ _ _ _ => ⟨rfl, rfl, rfl⟩) (fun q φ0 hq => ?_)
    · show GV.i .u64 (IntKind.u64.wrap n) = .i .u64 ((m : Nat) : Int)
      rw [u64w]
      have := of_decide_eq_false h3
      congr 1; omega
    obtain ⟨k, acc⟩ := q
    obtain ⟨hk, hq⟩ := hq
    replace hk : k < 18446744073709551616 := hk
    replace hq : digU k ++ acc = digU m := hq
    have hal : acc.length ≤ 21 := by have := digU_len hml; rw [← hq] at this; simp at this; omega
    conv => whnf
    refine GIf.mk (fun h4 => ?_) (fun h4 => ?_) <;> conv => whnf
    · have h4' : 0 < k := by have := of_decide_eq_true h4; omega
      refine ⟨by decide, ?_⟩
      conv => whnf
      refine ⟨[UInt8.ofNat (48 + k % 10)], dig_byte k, ?_⟩
      conv => whnf
      refine ⟨by show 1 + acc.length < slim; unfold slim; omega, _, rfl, ?_⟩
      conv => whnf
      refine ⟨by decide, ?_⟩
      conv => whnf
      exact ⟨k / 10, (by show k / 10 < k; omega), (k / 10, UInt8.ofNat (48 + k % 10) :: acc), ⟨(by show k / 10 < _; omega), (by show digU (k / 10) ++ UInt8.ofNat (48 + k % 10) :: acc = _; rw [← hq, digU_step h4']; simp)⟩, rfl, ⟨rfl, dig_div hk, rfl, trivial⟩, _, rfl, rfl⟩
    · have h4' : k = 0 := by have := of_decide_eq_false h4; omega
      subst h4'
      replace hq : acc = digU m := hq
      refine GIf.mk (fun h5 => ?_) (fun h5 => ?_) <;> conv => whnf
      · exfalso; have := of_decide_eq_false h3; have := of_decide_eq_true h5; omega
      · refine owes_s ?_
        have := of_decide_eq_false h3
        rw [hq]
        unfold Lib.itoa digU
        rw [if_neg this, if_neg (by omega), hm, show n.natAbs = n.toNat by omega]
end Go.Proofs.YtcbknpdjdlgljaaGreatDoor
namespace Go.Proofs.YtcbknpdjdlgljaaGreatDoor
open Go.RowKit
set_option maxRecDepth 100000
set_option linter.unusedVariables false
def numsW (sep : By) (l : List Int) : By := Lib.join (l.map Lib.itoa) sep
structure Sp where
  st : Int
  ow : Int
  ky : Int
  be : Int
  af : Int
def wrS (p : Sp) : By :=
  if p.st = 1 then [111, 58] ++ numsW [58] [p.ow] else if p.st = 2 then [109, 58] ++ numsW [58] [p.ow, p.ky] else if p.st = 3 then [103, 58] ++ numsW [58] [p.ow, p.be, p.af] else [45]
structure Nw where
  u : Int
  rs : List Int
  ss : List Sp
  ar : List Int
def fmtN (n : Nw) : By := Lib.itoa n.u ++ [124] ++ numsW [32] n.rs ++ [124] ++ Lib.join (n.ss.map wrS) [32] ++ [124] ++ numsW [32] n.ar
abbrev inR (x : Int) : Prop := -9223372036854775808 ≤ x ∧ x ≤ 9223372036854775807
structure Sp.ok (p : Sp) : Prop where
  st : inR p.st
  ow : inR p.ow
  ky : inR p.ky
  be : inR p.be
  af : inR p.af
structure Nw.ok (n : Nw) : Prop where
  u : inR n.u
  rs : ∀ x ∈ n.rs, inR x
  ss : ∀ p ∈ n.ss, p.ok
  ar : ∀ x ∈ n.ar, inR x
  lr : n.rs.length ≤ 1048576
  ls : n.ss.length ≤ 1048576
  la : n.ar.length ≤ 1048576
def intsG (l : List Int) : List GV := l.map (.i .i64)
def spG (p : Sp) : GV := .agg [.i .i64 p.st, .i .i64 p.ow, .i .i64 p.ky, .i .i64 p.be, .i .i64 p.af]
def spsG (l : List Sp) : List GV := l.map spG
def nowG (n : Nw) : GV := .agg [.i .i64 n.u, .sl .none (intsG n.rs), .sl .none (spsG n.ss), .sl .none (intsG n.ar)]
def txG (l : List By) : List GV := l.map .s
theorem intsG_len (l : List Int) : (intsG l).length = l.length := List.length_map ..
theorem spsG_len (l : List Sp) : (spsG l).length = l.length := List.length_map ..
theorem txG_len (l : List By) : (txG l).length = l.length := List.length_map ..
section
variable [MaxL]
instance {l : List Int} : KL (intsG l) := ⟨ClL.mapOf (fun _ => Cl.i _ _) _⟩
instance {l : List By} : KL (txG l) := ⟨ClL.mapOf (fun _ => Cl.s _) _⟩
instance {p : Sp} : KG (spG p) := ⟨fun _ => rfl⟩
instance {l : List Sp} : KL (spsG l) := ⟨ClL.mapOf (fun p => (show KG (spG p) from inferInstance).h) _⟩
instance {n : Nw} : KG (nowG n) := ⟨Cl.agg (ClL.cons (.i _ _) (ClL.cons (Cl.sl (show KL (intsG n.rs) from inferInstance).h) (ClL.cons (Cl.sl (show KL (spsG n.ss) from inferInstance).h) (ClL.cons (Cl.sl (show KL (intsG n.ar) from inferInstance).h) .nil))))⟩
end
def ow (T : TypeId) (k : Nat) : Nat → GObj
  | 0 => .own 0 0 0
  | i + 1 => .own (i + 1) k T
theorem ow_ren [MaxL] (T : TypeId) (k i : Nat) (f : Nat → Nat) : (ow T k i).ren f = ow T k i := by cases i <;> rfl
theorem ow_held (T : TypeId) (k i : Nat) : (ow T k i).notHeld = true := by cases i <;> rfl
section
variable [MaxL]
instance {m : Nat} {T : TypeId} {k n : Nat} : FO m (ow T k n) := ⟨fun e _ => ow_ren T k n e⟩
instance {e : Nat → Nat} {T : TypeId} {k n : Nat} : RO e (ow T k n) (ow T k n) := ⟨ow_ren T k n e⟩
end
theorem map_at [MaxL] {α : Type} {f : α → GV} {l : List α} {i : Nat} {x : α} (h : l[i]? = some x) : (l.map f)[i]? = some (f x) := by rw [List.getElem?_map, h]; rfl
theorem ex_at {α : Type} {l : List α} {i : Nat} (h : i < l.length) : ∃ x, l[i]? = some x := ⟨l[i], List.getElem?_eq_getElem h⟩
theorem ap1 [MaxL] {α : Type} {f : α → GV} {c : Nat} (hf : ∀ a, (f a).cells.length = c) (o : List α) (y : α) {A : Prop} {K : List GV → Nat → Prop} (hA : A) (hl : o.length < 4294967296) (k : K ((o ++ [y]).map f) (o ++ [y]).length) :
    GNeed (A ∧ (o.map f).all (fun x => x.cells.length == c) = true ∧ (o.map f).length + 1 ≤ 4294967296) (∃ zs m, GNeed (zs = o.map f ++ [f y] ∧ m = (o.map f).length + 1) (K zs m)) :=
  ⟨⟨hA, by
    rw [List.all_eq_true]
    intro x hx
    obtain ⟨b, _, rfl⟩ := List.mem_map.1 hx
    rw [hf]; exact beq_self_eq_true _, by rw [List.length_map]; omega⟩, _, _, ⟨by rw [List.map_append]; rfl, by rw [List.length_map, List.length_append]; rfl⟩, k⟩
theorem itoa_len {x : Int} (h : inR x) : (Lib.itoa x).length ≤ 21 := Lib.itoa_length_le x h.1 h.2
theorem join_bound (sep : By) (k : Nat) (hs : sep.length ≤ 1) : ∀ l : List By, (∀ x ∈ l, x.length ≤ k) → (Lib.join l sep).length ≤ l.length * (k + 1)
  | [], _ => by simp [Lib.join]
  | [x], h => by rw [join_one]; have := h x (by simp); simp; omega
  | x :: y :: l, h => by
    rw [join_cons2, List.length_append, List.length_append]
    have h1 := h x (by simp)
    have h2 := join_bound sep k hs (y :: l) (fun z hz => h z (List.mem_cons_of_mem _ hz))
    rw [List.length_cons (a := x), Nat.add_mul]; omega
theorem nums_len {sep : By} (hs : sep.length ≤ 1) {l : List Int} (h : ∀ x ∈ l, inR x) : (numsW sep l).length ≤ l.length * 22 := by
  have := join_bound sep 21 hs (l.map Lib.itoa) (fun x hx => by
    obtain ⟨y, hy, rfl⟩ := List.mem_map.1 hx
    exact itoa_len (h y hy))
  rw [List.length_map] at this
  exact this
theorem wrS_len {p : Sp} (h : p.ok) : (wrS p).length ≤ 68 := by
  unfold wrS
  split
  · have := nums_len (sep := [58]) (by simp) (l := [p.ow]) (by simpa using h.ow)
    simp at this ⊢; omega
  · split
    · have := nums_len (sep := [58]) (by simp) (l := [p.ow, p.ky]) (by simpa using ⟨h.ow, h.ky⟩)
      simp at this ⊢; omega
    · split
      · have := nums_len (sep := [58]) (by simp) (l := [p.ow, p.be, p.af]) (by simpa using ⟨h.ow, h.be, h.af⟩)
        simp at this ⊢; omega
      · simp
theorem k_numbers [MaxL] (l : List Int) (sep : By) (hl : l.length ≤ 1048576) (hr : ∀ x ∈ l, inR x) (hs : sep.length ≤ 1) : SC Tryz.prog 18 [.sl .none (intsG l), .s sep] [] (.val (.s (numsW sep l))) [] := by
  refine SC.of_gwp noM mixed Tryz.func18 rfl (Nat.le_of_ble_eq_true rfl) (by first | exact Nat.le_refl _ | simp) rfl ?_
  conv => whnf
  refine GLoop.rng 1 l.length (fun i (o : List By) => o = (l.take i).map Lib.itoa) (fun i o => [(1, .s sep), (5, .sl (.own 0) (txG o)), (8, .sl .none (intsG l)), (9, .i .i64 (l.length : Nat)), (10, .i .i64 (i : Nat))]) (fun _ o => [ow 9 1 o.length]) [] [] rfl (fun i o φ0 hi ho => ?_) (hh := fun _ _ => by simp only [List.all_cons, ow_held]; rfl) (hφ := ?_)
  · have hol : o.length = i := by rw [ho, List.length_map, List.length_take]; omega
    conv => whnf
    refine GIf.mk (fun h => ?_) (fun h => ?_) <;> conv => whnf
    · have hlt : i < l.length := by have := of_decide_eq_true h; omega
      refine (ex_at hlt).elim fun x hx => ?_
      have hxr := hr x (List.mem_of_getElem? hx)
      have ho' : o ++ [Lib.itoa x] = (l.take (i + 1)).map Lib.itoa := by rw [List.take_add_one, hx, List.map_append, ← ho]; rfl
      refine ix (map_at hx) ⟨rfl, ?_⟩
      conv => whnf
      refine cP (c_Itoa x hxr.1 hxr.2) ?_
      conv => whnf
      cases o with
      | nil =>
        refine ap1 (f := .s) (c := 1) (fun _ => rfl) [] (Lib.itoa x) rfl (by simp) ?_
        conv => whnf
        refine ⟨⟨Nat.zero_le _, rfl, .inr ⟨rfl, rfl⟩⟩, ?_⟩
        conv => whnf
        exact nx ([] ++ [Lib.itoa x]) hlt ⟨hlt, ho'⟩
      | cons z zs =>
        refine ap1 (f := .s) (c := 1) (fun _ => rfl) (z :: zs) (Lib.itoa x) rfl (by omega) ?_
        conv => whnf
        refine ⟨⟨Nat.zero_le _, (txG_len (z :: zs)).symm, .inl ⟨rfl, rfl⟩⟩, ?_⟩
        conv => whnf
        exact nx ((z :: zs) ++ [Lib.itoa x]) hlt ⟨hlt, ho'⟩
    · have hi' : i = l.length := by have := of_decide_eq_false h; omega
      have ho' : o = l.map Lib.itoa := by rw [ho, hi', List.take_length]
      subst ho'
      refine cP (c_Join (l.map Lib.itoa) sep (by rw [List.length_map]; omega) (by have := nums_len hs hr; unfold numsW at this; omega)) ?_ (Wks.cons (Wk.sl _ _) (Wks.refl _))
      conv => whnf
      exact fin 0
  · refine ⟨rfl, rfl, rfl, ?_, rfl, trivial⟩
    show GV.i .i64 (((intsG l).length : Nat) : Int) = _
    rw [intsG_len]
end Go.Proofs.YtcbknpdjdlgljaaGreatDoor
