/-
  The text of every currencies, and what every text is read as.
-/
import Derived.Test.YtcbknpdjdlgljaaGreatDoorQ15
set_option linter.all false
namespace Go.Proofs.YtcbknpdjdlgljaaGreatDoor
open Go.RowKit
set_option maxRecDepth 100000
set_option linter.unusedVariables false
variable [Globals]
theorem EnvSound.of {P : Program} {w0 : World} {M : FuncId → Bool} {Γ : GEnv} (h : ∀ k f, Γ k = some f → ∀ args σ r σ', f args σ = some (r, σ') → Fact P (.fn k) args σ r σ' ∧ (M k = true → σ' = σ)) (hD : dynM M = false := by rfl) : EnvSound P w0 M Γ := by
  refine ⟨hD, fun t args σ r σ' he => ?_, fun k hk t ht args σ r σ' he => ?_⟩
  · cases t with
    | yld q => cases he
    | fn k =>
      simp only [envCall] at he
      cases hg : Γ k with
      | none => rw [hg] at he; cases he
      | some f =>
        rw [hg] at he
        obtain ⟨hf, _⟩ := h k f hg args σ r σ' he
        exact ⟨hf.keep, hf.ds, fun C w vs hr hv => hf.calls w0 C w vs hr hv⟩
  · have hk := hk.resolve_right (by rw [hD]; simp)
    have ht := ht.resolve_right (by rw [hD]; simp)
    subst ht
    simp only [envCall] at he
    cases hg : Γ k with
    | none => rw [hg] at he; cases he
    | some f =>
      rw [hg] at he
      exact (h k f hg args σ r σ' he).2 hk
theorem SC.factNil {P : Program} {k : FuncId} {args args' : List GV} {r : GRes} {σ : GS} (h : SC P k args [] r []) (ha : ClL args) (hr : ∀ e, r.ren e = r) (hw : Wks args' args) : Fact P (.fn k) args' σ r σ := by
  have hf := h.fact (σ := { σ with lo := 0 }) (args' := args') [] Lies.nil rfl (by rw [ha]; exact hw)
  rw [hr] at hf
  simp only [putBack_nil] at hf
  exact ⟨Keep.refl _, rfl, fun w0 C w vs hR hv => (hf.calls w0 C w vs ⟨hR.below, hR.fxc, hR.obj, hR.dom, hR.new, hR.inj, hR.sepB, hR.sepO, hR.fxn, hR.gl, hR.gs⟩ hv).mono fun e w' ⟨D, h1, h2, h3⟩ => ⟨D, h1, ⟨h2.below, h2.fxc, h2.obj, h2.dom, h2.new, h2.inj, h2.sepB, h2.sepO, h2.fxn, h2.gl, h2.gs⟩, h3⟩⟩
end Go.Proofs.YtcbknpdjdlgljaaGreatDoor
namespace Go.Proofs.YtcbknpdjdlgljaaGreatDoor
open Go.RowKit
set_option linter.unusedSectionVars false
set_option linter.unusedVariables false
variable [Globals]
inductive Tr (α : Type) where
  | nil
  | node (x : Option α) (l r : Tr α)
noncomputable def pathF (f : Nat) : Nat → List Bool :=
  Nat.rec (motive := fun _ => Nat → List Bool) (fun _ => []) (fun _ ih m => Bool.rec (motive := fun _ => List Bool) (Nat.beq (Nat.mod m 2) 1 :: ih (Nat.div m 2)) [] (Nat.ble m 1)) f
noncomputable def path (i : Nat) : List Bool := pathF (Nat.succ i) (Nat.succ i)
def pval : List Bool → Nat
  | [] => 1
  | b :: p => 2 * pval p + (if b then 1 else 0)
theorem pval_path : ∀ (f m : Nat), 1 ≤ m → m ≤ f → pval (pathF f m) = m := by
  intro f
  induction f with
  | zero => intro m h1 h2; omega
  | succ f ih =>
    intro m h1 h2
    show pval (Bool.rec (motive := fun _ => List Bool) (Nat.beq (Nat.mod m 2) 1 :: pathF f (Nat.div m 2)) [] (Nat.ble m 1)) = m
    cases hb : Nat.ble m 1 with
    | true => have := Nat.le_of_ble_eq_true hb; show 1 = m; omega
    | false =>
      have h3 : ¬ m ≤ 1 := fun h => by rw [Nat.ble_eq_true_of_le h] at hb; cases hb
      show 2 * pval (pathF f (m / 2)) + (if Nat.beq (m % 2) 1 then 1 else 0) = m
      rw [ih (m / 2) (by omega) (by omega)]
      by_cases h4 : m % 2 = 1
      · have : Nat.beq (m % 2) 1 = true := by rw [h4]; rfl
        rw [this, if_pos rfl]; omega
      · have : Nat.beq (m % 2) 1 = false := by
          cases hc : Nat.beq (m % 2) 1 with
          | true => exact absurd (Nat.eq_of_beq_eq_true hc) h4
          | false => rfl
        rw [this]; simp; omega
theorem path_inj {i j : Nat} (h : path i = path j) : i = j := by
  have h1 := pval_path (i + 1) (i + 1) (by omega) (Nat.le_refl _)
  have h2 := pval_path (j + 1) (j + 1) (by omega) (Nat.le_refl _)
  have h3 : pathF (i + 1) (i + 1) = pathF (j + 1) (j + 1) := h
  rw [h3] at h1
  omega
section
variable {α β : Type}
noncomputable def Tr.get (p : List Bool) : Tr α → Option α :=
  List.rec (motive := fun _ => Tr α → Option α) (fun t => Tr.rec (motive := fun _ => Option α) none (fun x _ _ _ _ => x) t)
    (fun b _ ih t => Tr.rec (motive := fun _ => Option α) none (fun _ l r _ _ => Bool.rec (motive := fun _ => Option α) (ih l) (ih r) b) t) p
noncomputable def Tr.setK (p : List Bool) (a : α) : Tr α → (Tr α → β) → β :=
  List.rec (motive := fun _ => Tr α → (Tr α → β) → β)
    (fun t K => Tr.rec (motive := fun _ => β) (K (.node (some a) .nil .nil)) (fun _ l r _ _ => K (.node (some a) l r)) t)
    (fun b _ ih t K => Tr.rec (motive := fun _ => β) (Bool.rec (motive := fun _ => β) (ih .nil fun l => K (.node none l .nil)) (ih .nil fun r => K (.node none .nil r)) b)
      (fun x l r _ _ => Bool.rec (motive := fun _ => β) (ih l fun l => K (.node x l r)) (ih r fun r => K (.node x l r)) b) t) p
def Tr.put (a : α) : List Bool → Tr α → Tr α
  | [], .nil => .node (some a) .nil .nil
  | [], .node _ l r => .node (some a) l r
  | false :: p, .nil => .node none (Tr.put a p .nil) .nil
  | true :: p, .nil => .node none .nil (Tr.put a p .nil)
  | false :: p, .node x l r => .node x (Tr.put a p l) r
  | true :: p, .node x l r => .node x l (Tr.put a p r)
theorem Tr.setK_eq (a : α) : ∀ (p : List Bool) (t : Tr α) (K : Tr α → β), Tr.setK p a t K = K (Tr.put a p t) := by
  intro p
  induction p with
  | nil => intro t K; cases t <;> rfl
  | cons b p ih =>
    intro t K
    cases t with
    | nil =>
      cases b
      · exact ih .nil fun l => K (.node none l .nil)
      · exact ih .nil fun r => K (.node none .nil r)
    | node x l r =>
      cases b
      · exact ih l fun l => K (.node x l r)
      · exact ih r fun r => K (.node x l r)
theorem Tr.get_nil : ∀ q : List Bool, Tr.get q (.nil : Tr α) = none := fun q => by cases q <;> rfl
theorem Tr.get_put (a : α) : ∀ (p q : List Bool) (t : Tr α), Tr.get q (Tr.put a p t) = if q = p then some a else Tr.get q t := by
  intro p
  induction p with
  | nil =>
    intro q t
    cases q with
    | nil => cases t <;> rfl
    | cons c q =>
      rw [if_neg (by simp)]
      cases t with
      | nil => cases c <;> exact Tr.get_nil q
      | node x l r => rfl
  | cons b p ih =>
    intro q t
    cases q with
    | nil => rw [if_neg (by simp)]; cases b <;> cases t <;> rfl
    | cons c q =>
      by_cases hc : c = b
      · subst hc
        have e : (c :: q = c :: p) = (q = p) := by simp
        simp only [e]
        cases c <;> cases t with
        | nil => exact (ih q .nil).trans (by rw [Tr.get_nil]; rfl)
        | node x l r => first | exact ih q l | exact ih q r
      · rw [if_neg (by simp [hc])]
        cases b <;> cases c <;> cases t with
        | nil => first | exact absurd rfl hc | exact Tr.get_nil q
        | node x l r => first | exact absurd rfl hc | rfl
end
end Go.Proofs.YtcbknpdjdlgljaaGreatDoor
namespace Go.Proofs.YtcbknpdjdlgljaaGreatDoor
open Go.RowKit
set_option linter.unusedSectionVars false
set_option linter.unusedVariables false
variable [Globals]
abbrev HR := Option GRes
noncomputable def fnat {β : Type} (n : Nat) (K : Nat → β) : β := Nat.rec (motive := fun _ => β) (K 0) (fun m _ => K (Nat.succ m)) n
theorem fnat_eq {β : Type} (n : Nat) (K : Nat → β) : fnat n K = K n := by cases n <;> rfl
noncomputable def fint {β : Type} (n : Int) (K : Int → β) : β := Int.rec (motive := fun _ => β) (fun n => fnat n fun n => K (Int.ofNat n)) (fun n => fnat n fun n => K (Int.negSucc n)) n
theorem fint_eq {β : Type} (n : Int) (K : Int → β) : fint n K = K n := by
  cases n with
  | ofNat n => exact fnat_eq n fun n => K (.ofNat n)
  | negSucc n => exact fnat_eq n fun n => K (.negSucc n)
noncomputable def fbool {β : Type} (b : Bool) (K : Bool → β) : β := Bool.rec (motive := fun _ => β) (K false) (K true) b
theorem fbool_eq {β : Type} (b : Bool) (K : Bool → β) : fbool b K = K b := by cases b <;> rfl
noncomputable def flist {α β : Type} (l : List α) : (List α → β) → β :=
  List.rec (motive := fun _ => (List α → β) → β) (fun K => K []) (fun x _ ih K => ih fun ys => K (x :: ys)) l
theorem flist_eq {α β : Type} : ∀ (l : List α) (K : List α → β), flist l K = K l := by
  intro l
  induction l with
  | nil => intro K; rfl
  | cons x l ih => intro K; exact ih fun ys => K (x :: ys)
noncomputable def flistF {α β : Type} (f : α → (α → β) → β) (l : List α) : (List α → β) → β :=
  List.rec (motive := fun _ => (List α → β) → β) (fun K => K []) (fun x _ ih K => f x fun x => ih fun ys => K (x :: ys)) l
theorem flistF_eq {α β : Type} {f : α → (α → β) → β} (hf : ∀ x K, f x K = K x) : ∀ (l : List α) (K : List α → β), flistF f l K = K l := by
  intro l
  induction l with
  | nil => intro K; rfl
  | cons x l ih => intro K; exact (hf x _).trans (ih fun ys => K (x :: ys))
noncomputable def fhead {β : Type} (g : GV) (K : GV → β) : β :=
  match g with
  | .b x => fbool x fun x => K (.b x)
  | .i k n => fint n fun n => K (.i k n)
  | .s l => flist l fun l => K (.s l)
  | .o v => K (.o v)
  | .agg cs => flist cs fun cs => K (.agg cs)
  | .tup cs => flist cs fun cs => K (.tup cs)
  | .ifc t v => K (.ifc t v)
  | .fn f a c => K (.fn f a c)
  | .sl k xs => flist xs fun xs => K (.sl k xs)
  | .ptr r off => fnat off fun off => K (.ptr r off)
  | .snap cs off => fnat off fun off => flist cs fun cs => K (.snap cs off)
  | .mp r => K (.mp r)
  | .rs r off e n c => fnat off fun off => fnat n fun n => K (.rs r off e n c)
  | .glb g off => fnat off fun off => K (.glb g off)
  | .yld r => K (.yld r)
  | .dat r cs => flist cs fun cs => K (.dat r cs)
  | .any => K .any
theorem fhead_eq {β : Type} (g : GV) (K : GV → β) : fhead g K = K g := by
  cases g <;> simp only [fhead, fbool_eq, fint_eq, flist_eq, fnat_eq]
noncomputable def fval {β : Type} (g : GV) (K : GV → β) : β :=
  match g with
  | .b x => fbool x fun x => K (.b x)
  | .i k n => fint n fun n => K (.i k n)
  | .s l => flist l fun l => K (.s l)
  | .o v => K (.o v)
  | .agg cs => flistF fhead cs fun cs => K (.agg cs)
  | .tup cs => flistF fhead cs fun cs => K (.tup cs)
  | .ifc t v => fhead v fun v => K (.ifc t v)
  | .fn f a c => flistF fhead a fun a => flistF fhead c fun c => K (.fn f a c)
  | .sl k xs => flistF fhead xs fun xs => K (.sl k xs)
  | .ptr r off => fnat off fun off => K (.ptr r off)
  | .snap cs off => fnat off fun off => flist cs fun cs => K (.snap cs off)
  | .mp r => K (.mp r)
  | .rs r off e n c => fnat off fun off => fnat n fun n => K (.rs r off e n c)
  | .glb g off => fnat off fun off => K (.glb g off)
  | .yld r => K (.yld r)
  | .dat r cs => flist cs fun cs => K (.dat r cs)
  | .any => K .any
theorem fval_eq {β : Type} (g : GV) (K : GV → β) : fval g K = K g := by
  cases g <;> simp only [fval, fbool_eq, fint_eq, flist_eq, fnat_eq, fhead_eq, flistF_eq fhead_eq]
noncomputable def fr (T : Tr GV) : Fr := fun t => Option.rec (motive := fun _ => GV) (.tup []) (fun g => g) (Tr.get (path t) T)
theorem fr_nil : fr .nil = fun _ => .tup [] := by funext t; simp only [fr, Tr.get_nil]
theorem fr_put (T : Tr GV) (d : Nat) (g : GV) : fr (Tr.put g (path d) T) = fput (fr T) d g := by
  funext t
  simp only [fr, fput, Tr.get_put]
  by_cases h : t = d
  · subst h; rw [if_pos rfl, if_pos rfl]
  · rw [if_neg (fun e => h (path_inj e)), if_neg h]
noncomputable def hput (T : Tr GV) (d : Option Tmp) (g : GV) (K : Tr GV → HR) : HR :=
  match d with
  | some d => Tr.setK (path d) g T K
  | none => K T
noncomputable def putT (T : Tr GV) (d : Option Tmp) (g : GV) : Tr GV :=
  match d with
  | some d => Tr.put g (path d) T
  | none => T
theorem hput_eq (T : Tr GV) (d : Option Tmp) (g : GV) (K : Tr GV → HR) : hput T d g K = K (putT T d g) := by
  cases d with
  | none => rfl
  | some d => simp only [hput, Tr.setK_eq, putT]
theorem fr_putT (T : Tr GV) (d : Option Tmp) (g : GV) : fr (putT T d g) = fputo (fr T) d g := by
  cases d with
  | none => rfl
  | some d => exact fr_put T d g
structure HRd (β : Type) where
  run : Tr GV → (GV → β) → β
noncomputable def crd {β : Type} (x : Operand) : HRd β :=
  match x with
  | .tmp t => ⟨fun T K => Option.rec (motive := fun _ => β) (K (.tup [])) K (Tr.get (path t) T)⟩
  | .const v => ⟨fun _ K => K (gconst v)⟩
  | .global g => ⟨fun _ K => K (.glb g 0)⟩
  | .func f => ⟨fun _ K => K (.fn (.func f) [] [])⟩
theorem rd_eq {β : Type} (T : Tr GV) (x : Operand) (K : GV → β) : (crd x).run T K = K (geval (fr T) x) := by
  cases x with
  | tmp t => simp only [crd, geval, fr]; cases Tr.get (path t) T <;> rfl
  | _ => rfl
noncomputable def rdL {β : Type} (T : Tr GV) (l : List Operand) : (List GV → β) → β :=
  List.rec (motive := fun _ => (List GV → β) → β) (fun K => K []) (fun x _ ih K => (crd x).run T fun v => ih fun vs => K (v :: vs)) l
theorem rdL_eq {β : Type} (T : Tr GV) : ∀ (l : List Operand) (K : List GV → β), rdL T l K = K (l.map (geval (fr T))) := by
  intro l
  induction l with
  | nil => intro K; rfl
  | cons x l ih => intro K; exact (rd_eq T x fun v => rdL T l fun vs => K (v :: vs)).trans (ih fun vs => K (geval (fr T) x :: vs))
noncomputable def rdP {β : Type} (T : Tr GV) (l : List (Nat × Operand)) : (List (Nat × GV) → β) → β :=
  List.rec (motive := fun _ => (List (Nat × GV) → β) → β) (fun K => K []) (fun x _ ih K => (crd x.2).run T fun v => ih fun vs => K ((x.1, v) :: vs)) l
theorem rdP_eq {β : Type} (T : Tr GV) : ∀ (l : List (Nat × Operand)) (K : List (Nat × GV) → β), rdP T l K = K (l.map fun p => (p.1, geval (fr T) p.2)) := by
  intro l
  induction l with
  | nil => intro K; rfl
  | cons x l ih => intro K; exact (rd_eq T x.2 fun v => rdP T l fun vs => K ((x.1, v) :: vs)).trans (ih fun vs => K ((x.1, geval (fr T) x.2) :: vs))
noncomputable def rdO {β : Type} (T : Tr GV) (x : Option Operand) (K : Option GV → β) : β :=
  match x with
  | some x => (crd x).run T fun v => K (some v)
  | none => K none
theorem rdO_eq {β : Type} (T : Tr GV) (x : Option Operand) (K : Option GV → β) : rdO T x K = K (x.map (geval (fr T))) := by
  cases x with
  | none => rfl
  | some x => exact rd_eq T x fun v => K (some v)
noncomputable def hopt {α : Type} (x : Option α) (K : α → HR) : HR := Option.rec (motive := fun _ => HR) none K x
theorem hopt_of {α : Type} {x : Option α} {K : α → HR} {r : GRes} (h : hopt x K = some r) : ∃ a, x = some a ∧ K a = some r := by
  cases x with
  | none => cases h
  | some a => exact ⟨a, rfl, h⟩
noncomputable def hif (c : Bool) (x : HR) : HR := Bool.rec (motive := fun _ => HR) none x c
theorem hif_of {c : Bool} {x : HR} {r : GRes} (h : hif c x = some r) : c = true ∧ x = some r := by
  cases c with
  | false => cases h
  | true => exact ⟨rfl, h⟩
inductive HObj where
  | o (x : GObj)
  | lp (st : LoopState) (pe : Option Code) (n : Nat) (T : Tr GV) (ps : Array Tmp) (asg body : Code) (rd : Nat)
noncomputable def HObj.g : HObj → GObj
  | .o x => x
  | .lp st pe n T ps asg body rd => .loop st pe n (fr T) ps asg body rd
structure HS where
  t : Tr HObj
  n : Nat
  lo : Nat
  ds : List GDef
noncomputable def look (t : Tr HObj) (r : Nat) : HObj := Option.rec (motive := fun _ => HObj) (.o .dead) (fun x => x) (Tr.get (path r) t)
noncomputable def ab (H : HS) : GS := ⟨(List.range H.n).map fun r => (look H.t r).g, H.lo, H.ds⟩
noncomputable def getO (H : HS) (r : Nat) : Option HObj := Bool.rec (motive := fun _ => Option HObj) none (some (look H.t r)) (Nat.blt r H.n)
theorem blt_of {a b : Nat} (h : Nat.blt a b = true) : a < b := Nat.le_of_ble_eq_true h
theorem of_blt {a b : Nat} (h : Nat.blt a b = false) : ¬ a < b := fun h2 => by
  have : Nat.blt a b = true := Nat.ble_eq_true_of_le h2
  rw [this] at h; cases h
theorem getO_ab (H : HS) (r : Nat) : (ab H).objs[r]? = (getO H r).map HObj.g := by
  unfold getO
  cases hb : Nat.blt r H.n with
  | true => simp [ab, List.getElem?_map, List.getElem?_range (blt_of hb)]
  | false => simp [ab, of_blt hb]
theorem ab_len (H : HS) : (ab H).objs.length = H.n := by simp [ab]
theorem look_put (t : Tr HObj) (x : HObj) (r q : Nat) : look (Tr.put x (path r) t) q = if q = r then x else look t q := by
  unfold look
  rw [Tr.get_put]
  by_cases h : q = r
  · subst h; rw [if_pos rfl, if_pos rfl]
  · rw [if_neg (fun e => h (path_inj e)), if_neg h]
noncomputable def setO (H : HS) (r : Nat) (x : HObj) : HS := ⟨Tr.put x (path r) H.t, H.n, H.lo, H.ds⟩
noncomputable def newO (H : HS) (x : HObj) : HS := ⟨Tr.put x (path H.n) H.t, H.n + 1, H.lo, H.ds⟩
theorem ab_set (H : HS) (r : Nat) (x : HObj) : ab (setO H r x) = gset (ab H) r x.g := by
  have : (List.range H.n).map (fun q => (look (Tr.put x (path r) H.t) q).g) = ((List.range H.n).map fun q => (look H.t q).g).set r x.g := by
    apply List.ext_getElem?
    intro q
    rw [List.getElem?_set, List.getElem?_map, List.getElem?_map]
    by_cases hq : q < H.n
    · rw [List.getElem?_range hq]
      simp only [Option.map_some, look_put, List.length_map, List.length_range]
      by_cases h : r = q
      · subst h; rw [if_pos rfl, if_pos rfl, if_pos hq]
      · rw [if_neg (Ne.symm h), if_neg h]
    · have : (List.range H.n)[q]? = none := by simp; omega
      rw [this]
      simp
      intro h1; omega
  exact congrArg (fun l => (⟨l, H.lo, H.ds⟩ : GS)) this
theorem ab_new (H : HS) (x : HObj) : ab (newO H x) = gnew (ab H) x.g := by
  have : (List.range (H.n + 1)).map (fun q => (look (Tr.put x (path H.n) H.t) q).g) = ((List.range H.n).map fun q => (look H.t q).g) ++ [x.g] := by
    rw [List.range_succ, List.map_append]
    congr 1
    · apply List.map_congr_left
      intro q hq
      have := List.mem_range.1 hq
      rw [look_put, if_neg (by omega)]
    · simp [look_put]
  exact congrArg (fun l => (⟨l, H.lo, H.ds⟩ : GS)) this
noncomputable def hset (H : HS) (r : Nat) (x : HObj) (K : HS → HR) : HR := HS.rec (motive := fun _ => HR) (fun t n lo ds => Tr.setK (path r) x t fun t => K ⟨t, n, lo, ds⟩) H
theorem hset_eq (H : HS) (r : Nat) (x : HObj) (K : HS → HR) : hset H r x K = K (setO H r x) := Tr.setK_eq x (path r) H.t _
noncomputable def hnew (H : HS) (x : HObj) (K : Nat → HS → HR) : HR := HS.rec (motive := fun _ => HR) (fun t n lo ds => fnat n fun n => Tr.setK (path n) x t fun t => K n ⟨t, Nat.succ n, lo, ds⟩) H
theorem hnew_eq (H : HS) (x : HObj) (K : Nat → HS → HR) : hnew H x K = K H.n (newO H x) := by cases H; simp only [hnew, fnat_eq, Tr.setK_eq]; rfl
noncomputable def hds (H : HS) (f : List GDef → List GDef) (K : HS → HR) : HR := HS.rec (motive := fun _ => HR) (fun t n lo ds => K ⟨t, n, lo, f ds⟩) H
theorem hds_eq (H : HS) (f : List GDef → List GDef) (K : HS → HR) : hds H f K = K ⟨H.t, H.n, H.lo, f H.ds⟩ := rfl
end Go.Proofs.YtcbknpdjdlgljaaGreatDoor
namespace Go.Proofs.YtcbknpdjdlgljaaGreatDoor
open Go.RowKit
set_option linter.unusedSectionVars false
set_option linter.unusedVariables false
variable [Globals]
variable {P : Program}
theorem ab_newo (H : HS) (x : GObj) : gnew (ab H) x = ab (newO H (.o x)) := (ab_new H (.o x)).symm
theorem ab_seto (H : HS) (r : Nat) (x : GObj) : gset (ab H) r x = ab (setO H r (.o x)) := (ab_set H r (.o x)).symm
noncomputable def hpart (P : Program) (t : TypeId) (x : Option HObj) (off : Nat) : Option GV :=
  match x with
  | some (.o (.box _ cs)) => gpart P t cs off
  | _ => none
noncomputable def hload (P : Program) (t : TypeId) (a : GV) (H : HS) : Option GV :=
  match a with
  | .ptr r off => hpart P t (getO H r) off
  | .rs r off e _ _ => Bool.rec (motive := fun _ => Option GV) none (hpart P t (getO H r) off) (Nat.beq e 0)
  | .snap cs off => gpart P t cs off
  | .glb g off => match Globals.tab g with
    | some cs => gpart P t cs off
    | none => none
  | _ => none
theorem hpart_ab {t : TypeId} {H : HS} {r off : Nat} {g : GV} (h : hpart P t (getO H r) off = some g) : (match (ab H).objs[r]? with | some (.box _ cs) => gpart P t cs off | _ => none) = some g := by
  rw [getO_ab]
  unfold hpart at h
  split at h
  · rename_i he; rw [he]; exact h
  · cases h
theorem hload_ab {t : TypeId} {a : GV} {H : HS} {g : GV} (h : hload P t a H = some g) : gload P t a (ab H) = some g := by
  cases a <;> simp only [hload] at h <;> first
    | (cases h; done)
    | exact h
    | exact hpart_ab h
    | skip
  rename_i r off e n c
  simp only [gload]
  cases hb : Nat.beq e 0 with
  | true =>
    rw [hb] at h
    rw [if_pos (Nat.eq_of_beq_eq_true hb)]
    exact hpart_ab h
  | false => rw [hb] at h; cases h
noncomputable def hstoreAt (P : Program) (t : TypeId) (r off : Nat) (v : GV) (H : HS) (K : HS → HR) : HR :=
  match getO H r with
  | some (.o (.box T cs)) =>
    hif (decide (H.lo ≤ r) && okEl ((sizeT P t).getD 0) v && (sizeT P t).isSome && decide (off + v.cells.length ≤ cs.length))
      (flist (cs.take off ++ v.cells ++ cs.drop (off + v.cells.length)) fun cs => hset H r (.o (.box T cs)) K)
  | _ => none
noncomputable def hstore (P : Program) (t : TypeId) (a v : GV) (H : HS) (K : HS → HR) : HR :=
  match a with
  | .ptr r off => hstoreAt P t r off v H K
  | .rs r off e _ _ => hif (Nat.beq e 0) (hstoreAt P t r off v H K)
  | _ => none
theorem hstoreAt_ab {t : TypeId} {r off : Nat} {v : GV} {H : HS} {K : HS → HR} {x : GRes} (h : hstoreAt P t r off v H K = some x) : ∃ H', gstoreAt P t r off v (ab H) = some (ab H') ∧ K H' = some x := by
  unfold hstoreAt at h
  split at h
  · rename_i T cs he
    obtain ⟨hc, h⟩ := hif_of h
    rw [flist_eq, hset_eq] at h
    refine ⟨_, ?_, h⟩
    unfold gstoreAt
    rw [getO_ab, he]
    simp only [Option.map_some, HObj.g]
    have hlo : (ab H).lo = H.lo := rfl
    rw [hlo, if_pos hc, ab_set]; rfl
  · cases h
theorem hstore_ab {t : TypeId} {a v : GV} {H : HS} {K : HS → HR} {x : GRes} (h : hstore P t a v H K = some x) : ∃ H', gstore P t a v (ab H) = some (ab H') ∧ K H' = some x := by
  unfold hstore at h
  split at h
  · exact hstoreAt_ab h
  · obtain ⟨hc, h⟩ := hif_of h
    simp only [gstore, if_pos (Nat.eq_of_beq_eq_true hc)]
    exact hstoreAt_ab h
  · cases h
noncomputable def hlookup (P : Program) (t : TypeId) (m k : GV) (ok : Bool) (H : HS) : Option GV :=
  match mapT P t with
  | some (kt, et) => match P.underlying kt, gzero P et with
    | some d, some z => Bool.rec (motive := fun _ => Option GV) (Bool.rec (motive := fun _ => Option GV) none (match m with
        | .mp r => match getO H r with
          | some (.o (.mx es _ _)) => match gfindA P kt k es 0 with
            | some (some (_, v)) => some (if ok then .tup [v, .b true] else v)
            | some none => some (if ok then .tup [z, .b false] else z)
            | none => none
          | _ => none
        | _ => none) (gkeyA P kt k))
        (match m with
        | .mp r => match getO H r with
          | some (.o (.mp es)) => match gfind d k es 0 with
            | some (some (_, v)) => some (if ok then .tup [v, .b true] else v)
            | some none => some (if ok then .tup [z, .b false] else z)
            | none => none
          | some (.o (.mx es _ _)) => match gfind d k es 0 with
            | some (some (_, v)) => some (if ok then .tup [v, .b true] else v)
            | some none => some (if ok then .tup [z, .b false] else z)
            | none => none
          | _ => none
        | .o (.map none) => some (if ok then .tup [z, .b false] else z)
        | _ => none) (gkey d k)
    | _, _ => none
  | none => none
theorem hlookup_ab {t : TypeId} {m k : GV} {ok : Bool} {H : HS} {g : GV} (h : hlookup P t m k ok H = some g) : glookup P t m k ok (ab H) = some g := by
  unfold hlookup at h
  unfold glookup
  split at h
  · rename_i kt et hm
    rw [hm]
    simp only
    split at h
    · rename_i d z hd hz
      rw [hd, hz]
      simp only
      cases hk : gkey d k with
      | false =>
        rw [hk] at h
        simp only [Bool.false_eq_true, if_false]
        cases ha : gkeyA P kt k with
        | false => rw [ha] at h; cases h
        | true =>
          rw [ha] at h
          rw [if_pos rfl]
          simp only at h
          split at h
          · rename_i r
            simp only [getO_ab]
            split at h
            · rename_i es bs clk he
              rw [he]
              exact h
            · cases h
          · cases h
      | true =>
        rw [hk] at h
        rw [if_pos rfl]
        simp only at h
        split at h
        · rename_i r
          simp only [getO_ab]
          split at h
          · rename_i es he
            rw [he]
            exact h
          · rename_i es bs clk he
            rw [he]
            exact h
          · cases h
        · exact h
        · cases h
    · cases h
  · cases h
noncomputable def hupdate (P : Program) (t : TypeId) (m k v : GV) (H : HS) (K : HS → HR) : HR :=
  match m with
  | .mp r => match mapT P t with
    | some (kt, _) => match P.underlying kt with
      | some d => match getO H r with
        | some (.o (.mp es)) =>
          hif (decide (H.lo ≤ r) && gkey d k)
            (match gfind d k es 0 with
            | some (some (i, _)) => flist (es.set i (k, v)) fun es => hset H r (.o (.mp es)) K
            | some none => flist (es ++ [(k, v)]) fun es => hset H r (.o (.mp es)) K
            | none => none)
        | some (.o (.mx es bs clk)) =>
          hif (decide (H.lo ≤ r))
            (match (if gkey d k then gfind d k es 0 else if gkeyA P kt k then gfindA P kt k es 0 else none) with
            | some (some (i, _)) => flist (es.set i (k, v)) fun es => hset H r (.o (.mx es bs clk)) K
            | some none => flist (es ++ [(k, v)]) fun es => flist (bs ++ [clk]) fun bs => fnat (clk + 1) fun c => hset H r (.o (.mx es bs c)) K
            | none => none)
        | _ => none
      | none => none
    | none => none
  | _ => none
theorem hupdate_ab {t : TypeId} {m k v : GV} {H : HS} {K : HS → HR} {x : GRes} (h : hupdate P t m k v H K = some x) : ∃ H', gupdate P t m k v (ab H) = some (ab H') ∧ K H' = some x := by
  unfold hupdate at h
  split at h
  · rename_i r
    split at h
    · rename_i kt et hm
      split at h
      · rename_i d hd
        split at h
        · rename_i es he
          obtain ⟨hc, h⟩ := hif_of h
          have hlo : (ab H).lo = H.lo := rfl
          have hg : ∀ es', gset (ab H) r (.mp es') = ab (setO H r (.o (.mp es'))) := fun es' => by rw [ab_set]; rfl
          simp only [gupdate, hm, hd, getO_ab, he, Option.map_some, HObj.g, hlo, if_pos hc]
          split at h
          · rename_i i q hf
            rw [flist_eq, hset_eq] at h
            rw [hf]; simp only [hg]
            exact ⟨_, rfl, h⟩
          · rename_i hf
            rw [flist_eq, hset_eq] at h
            rw [hf]; simp only [hg]
            exact ⟨_, rfl, h⟩
          · cases h
        · rename_i es bs clk he
          obtain ⟨hc, h⟩ := hif_of h
          have hc : H.lo ≤ r := of_decide_eq_true hc
          have hlo : (ab H).lo = H.lo := rfl
          have hg : ∀ x', gset (ab H) r x' = ab (setO H r (.o x')) := fun x' => by rw [ab_set]; rfl
          have hfin : ∀ f, (gkey d k || gkeyA P kt k) = true → (if gkey d k then gfind d k es 0 else gfindA P kt k es 0) = f → (match f with
              | some (some (i, _)) => flist (es.set i (k, v)) fun es => hset H r (.o (.mx es bs clk)) K
              | some none => flist (es ++ [(k, v)]) fun es => flist (bs ++ [clk]) fun bs => fnat (clk + 1) fun c => hset H r (.o (.mx es bs c)) K
              | none => none) = some x → ∃ H', gupdate P t (.mp r) k v (ab H) = some (ab H') ∧ K H' = some x := fun f hk hf h => by
            simp only [gupdate, hm, hd, getO_ab, he, Option.map_some, HObj.g, hlo]
            rw [if_pos (by rw [decide_eq_true hc, hk]; rfl), hf]
            split at h
            · rw [flist_eq, hset_eq] at h
              simp only [hg]
              exact ⟨_, rfl, h⟩
            · rw [flist_eq, flist_eq, fnat_eq, hset_eq] at h
              simp only [hg]
              exact ⟨_, rfl, h⟩
            · cases h
          cases hk : gkey d k with
          | true =>
            rw [hk, if_pos rfl] at h
            exact hfin _ (by rw [hk]; rfl) (by rw [hk]; exact if_pos rfl) h
          | false =>
            rw [hk] at h
            simp only [Bool.false_eq_true, if_false] at h
            cases ha : gkeyA P kt k with
            | true =>
              rw [ha, if_pos rfl] at h
              exact hfin _ (by rw [hk, ha]; rfl) (by rw [hk]; exact if_neg (by simp)) h
            | false =>
              rw [ha] at h
              simp at h
        · cases h
      · cases h
    · cases h
  · cases h
noncomputable def hlen (P : Program) (t : TypeId) (x : GV) (H : HS) : Option GV :=
  match x with
  | .mp r => match getO H r with
    | some (.o (.mp es)) => if (mapT P t).isSome then some (.i .i64 es.length) else none
    | some (.o (.mx es _ _)) => if (mapT P t).isSome then some (.i .i64 es.length) else none
    | _ => none
  | x => glen P t x ⟨[], 0, []⟩
theorem hlen_ab {t : TypeId} {x : GV} {H : HS} {g : GV} (h : hlen P t x H = some g) : glen P t x (ab H) = some g := by
  cases x with
  | mp r =>
    simp only [hlen] at h
    simp only [glen, getO_ab]
    split at h
    · rename_i es he
      rw [he]; exact h
    · rename_i es bs clk he
      rw [he]; exact h
    · cases h
  | o v =>
    have e : glen P t (.o v) (ab H) = glen P t (.o v) ⟨[], 0, []⟩ := by
      unfold glen; cases v <;> first | rfl | (rename_i o; cases o <;> rfl)
    rw [e]; exact h
  | _ => exact h
theorem ab_mx (H : HS) (r : Nat) (x : GObj) : gset (ab H) r x = ab (setO H r (.o x)) := (ab_set H r (.o x)).symm
noncomputable def hiter (P : Program) (t : TypeId) (x : GV) (H : HS) (K : GV → HS → HR) : HR :=
  match x with
  | .mp r => match mapT P t with
    | some _ => match getO H r with
      | some (.o (.mx _ _ clk)) => hnew H (.o (.it (some r) clk [] clk)) fun n H' => K (.ptr n 0) H'
      | _ => none
    | none => none
  | _ => none
theorem hiter_ab {t : TypeId} {x : GV} {H : HS} {K : GV → HS → HR} {q : GRes} (h : hiter P t x H K = some q) : ∃ g H', giter P t x (ab H) = some (g, ab H') ∧ K g H' = some q := by
  unfold hiter at h
  split at h
  · rename_i r
    split at h
    · rename_i y hm
      split at h
      · rename_i es bs clk he
        simp only [hnew_eq] at h
        simp only [giter, hm, getO_ab, he, Option.map_some, HObj.g]
        rw [ab_len, ab_newo]
        exact ⟨_, _, rfl, h⟩
      · cases h
    · cases h
  · cases h
noncomputable def hnext (it : GV) (H : HS) (K : GV → HS → HR) : HR :=
  match it with
  | .ptr r 0 => match getO H r with
    | some (.o (.it (some m) since seen last)) => match getO H m with
      | some (.o (.mx es bs clk)) =>
        hif (decide (H.lo ≤ r) && bs.all (fun b => decide (b < since)) && decide (since ≤ last))
          (match (es.zip bs).filter (fun e => !seen.contains e.2) with
          | [] => K (.tup [.b false]) H
          | [e] => flist (e.2 :: seen) fun sn => hset H r (.o (.it (some m) since sn clk)) (K (.tup [.b true, e.1.1, e.1.2]))
          | _ => none)
      | _ => none
    | _ => none
  | _ => none
theorem hnext_ab {it : GV} {H : HS} {K : GV → HS → HR} {q : GRes} (h : hnext it H K = some q) : ∃ g H', gnext it (ab H) = some (g, ab H') ∧ K g H' = some q := by
  unfold hnext at h
  split at h
  · rename_i r
    split at h
    · rename_i m since seen last ho
      split at h
      · rename_i es bs clk hm
        obtain ⟨hc, h⟩ := hif_of h
        have hlo : (ab H).lo = H.lo := rfl
        simp only [gnext, getO_ab, ho, hm, Option.map_some, HObj.g, hlo]
        rw [if_pos hc]
        split at h
        · rename_i hf
          rw [hf]
          exact ⟨_, H, rfl, h⟩
        · rename_i e hf
          rw [hf]
          rw [flist_eq, hset_eq] at h
          simp only [ab_mx]
          exact ⟨_, _, rfl, h⟩
        · cases h
      · cases h
    · cases h
  · cases h
noncomputable def hentry (it : GV) (H : HS) : Option GV :=
  match it with
  | .ptr r 0 => match getO H r with
    | some (.o (.it (some m) _ (b :: _) last)) => match getO H m with
      | some (.o (.mx es bs clk)) => Bool.rec (motive := fun _ => Option GV) none (match (es.zip bs).find? (fun e => Nat.beq e.2 b) with
        | some e => some (.tup [e.1.1, e.1.2])
        | none => none) (Nat.beq clk last)
      | _ => none
    | _ => none
  | _ => none
theorem hentry_ab {it : GV} {H : HS} {g : GV} (h : hentry it H = some g) : gentry it (ab H) = some g := by
  unfold hentry at h
  split at h
  · rename_i r
    split at h
    · rename_i m since b seen last ho
      split at h
      · rename_i es bs clk hm
        simp only [gentry, getO_ab, ho, hm, Option.map_some, HObj.g]
        cases hb : Nat.beq clk last with
        | true => rw [hb] at h; rw [if_pos rfl]; exact h
        | false => rw [hb] at h; cases h
      · cases h
    · cases h
  · cases h
noncomputable def hmapEntry (P : Program) (t : TypeId) (m k : GV) (H : HS) (K : GV → HS → HR) : HR :=
  match m with
  | .mp r => match mapT P t with
    | some (kt, et) => match P.underlying kt, gzero P et with
      | some d, some z => match getO H r with
        | some (.o (.mx es bs clk)) =>
          hif (decide (H.lo ≤ r))
            (match gfindK P kt d k es with
            | some (some (i, v)) => match bs[i]?, es[i]? with
              | some b, some e => flist (es.set i (k, e.2)) fun es => hset H r (.o (.mx es bs clk)) (K (.tup [v, .i .i64 b]))
              | _, _ => none
            | some none => flist (es ++ [(k, z)]) fun es => flist (bs ++ [clk]) fun bs => fnat (clk + 1) fun c => hset H r (.o (.mx es bs c)) (K (.tup [z, .i .i64 clk]))
            | none => none)
        | _ => none
      | _, _ => none
    | none => none
  | _ => none
theorem hmapEntry_ab {t : TypeId} {m k : GV} {H : HS} {K : GV → HS → HR} {q : GRes} (h : hmapEntry P t m k H K = some q) : ∃ g H', gmapEntry P t m k (ab H) = some (g, ab H') ∧ K g H' = some q := by
  unfold hmapEntry at h
  split at h
  · rename_i r
    split at h
    · rename_i kt et hm
      split at h
      · rename_i d z hd hz
        split at h
        · rename_i es bs clk he
          obtain ⟨hc, h⟩ := hif_of h
          have hc : H.lo ≤ r := of_decide_eq_true hc
          have hlo : (ab H).lo = H.lo := rfl
          simp only [gmapEntry, hm, hd, hz, getO_ab, he, Option.map_some, HObj.g, hlo]
          rw [if_pos hc]
          split at h
          · rename_i i v hf
            rw [hf]
            simp only
            split at h
            · rename_i b e hb he2
              rw [flist_eq, hset_eq] at h
              rw [hb, he2]
              simp only [ab_mx]
              exact ⟨_, _, rfl, h⟩
            · cases h
          · rename_i hf
            rw [flist_eq, flist_eq, fnat_eq, hset_eq] at h
            rw [hf]
            simp only [ab_mx]
            exact ⟨_, _, rfl, h⟩
          · cases h
        · cases h
      · cases h
    · cases h
  · cases h
noncomputable def hentryStore (m st v : GV) (H : HS) (K : HS → HR) : HR :=
  match m, st with
  | .mp r, .i _ n => match getO H r with
    | some (.o (.mx es bs clk)) => hif (decide (H.lo ≤ r)) (match bs.findIdx? (fun (b : Nat) => (b : Int) == n) with
      | some i => match es[i]? with
        | some e => flist (es.set i (e.1, v)) fun es => hset H r (.o (.mx es bs clk)) K
        | none => none
      | none => none)
    | _ => none
  | _, _ => none
theorem hentryStore_ab {m st v : GV} {H : HS} {K : HS → HR} {q : GRes} (h : hentryStore m st v H K = some q) : ∃ H', gentryStore m st v (ab H) = some (ab H') ∧ K H' = some q := by
  unfold hentryStore at h
  split at h
  · rename_i r k n
    split at h
    · rename_i es bs clk he
      obtain ⟨hc, h⟩ := hif_of h
      have hc : H.lo ≤ r := of_decide_eq_true hc
      have hlo : (ab H).lo = H.lo := rfl
      simp only [gentryStore, getO_ab, he, Option.map_some, HObj.g, hlo]
      rw [if_pos hc]
      split at h
      · rename_i i hi
        rw [hi]
        simp only
        split at h
        · rename_i e he2
          rw [flist_eq, hset_eq] at h
          rw [he2]
          simp only [ab_mx]
          exact ⟨_, rfl, h⟩
        · cases h
      · cases h
    · cases h
  · cases h
noncomputable def hdelete (P : Program) (t : TypeId) (m k : GV) (H : HS) (K : HS → HR) : HR :=
  match m with
  | .mp r => match mapT P t with
    | some (kt, _) => match P.underlying kt with
      | some d => match getO H r with
        | some (.o (.mx es bs clk)) =>
          hif (decide (H.lo ≤ r))
            (match gfindK P kt d k es with
            | some (some (i, _)) => flist (es.eraseIdx i) fun es => flist (bs.eraseIdx i) fun bs => hset H r (.o (.mx es bs clk)) K
            | some none => hset H r (.o (.mx es bs clk)) K
            | none => none)
        | _ => none
      | none => none
    | none => none
  | _ => none
theorem hdelete_ab {t : TypeId} {m k : GV} {H : HS} {K : HS → HR} {q : GRes} (h : hdelete P t m k H K = some q) : ∃ H', gdelete P t m k (ab H) = some (ab H') ∧ K H' = some q := by
  unfold hdelete at h
  split at h
  · rename_i r
    split at h
    · rename_i kt et hm
      split at h
      · rename_i d hd
        split at h
        · rename_i es bs clk he
          obtain ⟨hc, h⟩ := hif_of h
          have hc : H.lo ≤ r := of_decide_eq_true hc
          have hlo : (ab H).lo = H.lo := rfl
          simp only [gdelete, hm, hd, getO_ab, he, Option.map_some, HObj.g, hlo]
          rw [if_pos hc]
          split at h
          · rename_i i v hf
            rw [flist_eq, flist_eq, hset_eq] at h
            rw [hf]
            simp only [ab_mx]
            exact ⟨_, rfl, h⟩
          · rename_i hf
            rw [hset_eq] at h
            rw [hf]
            simp only [ab_mx]
            exact ⟨_, rfl, h⟩
          · cases h
        · cases h
      · cases h
    · cases h
  · cases h
noncomputable def hsrc (P : Program) (t u : TypeId) (x : GV) (H : HS) : Option (List GV) :=
  match x with
  | .rs r off (sz + 1) n _ => if t = u then match elemT P t, getO H r with
    | some e, some (.o (.box _ cs)) => if sizeT P e = some (sz + 1) then gchunk P e (sz + 1) n (cs.drop off) else none
    | _, _ => none
    else none
  | x => gsrc P t u x ⟨[], 0, []⟩
theorem hsrc_ab {t u : TypeId} {x : GV} {H : HS} {ys : List GV} (h : hsrc P t u x H = some ys) : gsrc P t u x (ab H) = some ys := by
  unfold hsrc at h
  split at h
  · rename_i r off sz n c
    simp only [gsrc]
    split at h
    · rename_i htu
      rw [if_pos htu]
      split at h
      · rename_i e T cs h1 h2
        rw [h1, getO_ab, h2]
        exact h
      · cases h
    · cases h
  · rename_i x hx
    rw [← h]
    unfold gsrc
    split
    · exact absurd rfl (hx _ _ _ _ _)
    all_goals rfl
noncomputable def happend (P : Program) (t u : TypeId) (s x : GV) (H : HS) (K : GV → HS → HR) : HR :=
  match s, hsrc P t u x H with
  | .sl k xs, some ys =>
    match elemT P t with
    | some e => match sizeT P e, bytesT P e, gzero P e with
      | some size, some bytes, some z =>
        hif (z.known && z.cells.length == size)
          (Bool.rec (motive := fun _ => HR)
            (hif (decide (0 < size) && ys.all (okEl size) && xs.all (fun x => x.cells.length == size) && decide (xs.length + ys.length ≤ lim) && decide (bytes ≤ 4096))
              (match k with
              | .full => Bool.rec (motive := fun _ => HR)
                  (fnat (xs.length + ys.length) fun l => flist (xs ++ ys) fun zs => hnew H (.o (.own l size e)) fun n H' => K (.sl (.own n) zs) H')
                  (flist ((xs ++ ys).flatMap GV.cells) fun cs => hnew H (.o (.box e cs)) fun n H' => fnat (xs.length + ys.length) fun l => K (.rs n 0 size l 0) H') (Globals.wr e)
              | .own r => match getO H r with
                | some (.o (.own n esz ty)) =>
                  Bool.rec (motive := fun _ => HR)
                    (hif (decide (H.lo ≤ r) && n == xs.length && (esz == size && ty == e || (n == 0 && esz == 0)))
                      (fnat (xs.length + ys.length) fun l => flist (xs ++ ys) fun zs => hset H r (.o (.own l size e)) (K (.sl (.own r) zs))))
                    (flist ((xs ++ ys).flatMap GV.cells) fun cs => hnew H (.o (.box e cs)) fun n H' => fnat (xs.length + ys.length) fun l => K (.rs n 0 size l 0) H')
                    (Globals.wr e && (esz == 0 && n == 0) && xs.isEmpty)
                | _ => none
              | .none => none))
            (K (.sl k xs) H) ys.isEmpty)
      | _, _, _ => none
    | none => none
  | _, _ => none
theorem happend_ab {t u : TypeId} {s x : GV} {H : HS} {K : GV → HS → HR} {q : GRes} (h : happend P t u s x H K = some q) : ∃ g H', gappend P t u s x (ab H) = some (g, ab H') ∧ K g H' = some q := by
  unfold happend at h
  split at h
  · rename_i k xs ys hs
    split at h
    · rename_i e he
      split at h
      · rename_i size bytes z h1 h2 h3
        obtain ⟨hz, h⟩ := hif_of h
        simp only [gappend, hsrc_ab hs, he, h1, h2, h3, if_pos hz]
        cases hy : ys.isEmpty with
        | true =>
          rw [hy] at h
          exact ⟨_, _, by rw [if_pos rfl], h⟩
        | false =>
          rw [hy] at h
          obtain ⟨hc, h⟩ := hif_of h
          have hlo : (ab H).lo = H.lo := rfl
          simp only [Bool.false_eq_true, if_false]
          rw [if_pos hc]
          cases k with
          | full =>
            cases hw : Globals.wr e with
            | true =>
              rw [hw] at h
              simp only [flist_eq, hnew_eq, fnat_eq] at h
              rw [if_pos rfl, ab_len, ab_newo]
              exact ⟨_, _, rfl, h⟩
            | false =>
              rw [hw] at h
              simp only [fnat_eq, flist_eq, hnew_eq] at h
              simp only [Bool.false_eq_true, if_false]
              rw [ab_len, ab_newo]
              exact ⟨_, _, rfl, h⟩
          | own r =>
            simp only [getO_ab]
            simp only at h
            split at h
            · rename_i n esz ty ho
              rw [ho]
              simp only [Option.map_some, HObj.g, hlo]
              cases hw : (Globals.wr e && (esz == 0 && n == 0) && xs.isEmpty) with
              | true =>
                rw [hw] at h
                simp only [flist_eq, hnew_eq, fnat_eq] at h
                rw [if_pos rfl, ab_len, ab_newo]
                exact ⟨_, _, rfl, h⟩
              | false =>
                rw [hw] at h
                obtain ⟨hc2, h⟩ := hif_of h
                simp only [fnat_eq, flist_eq, hset_eq] at h
                simp only [Bool.false_eq_true, if_false]
                rw [if_pos hc2, ab_seto]
                exact ⟨_, _, rfl, h⟩
            · cases h
          | none => cases h
      · cases h
    · cases h
  · cases h
noncomputable def hmake (P : Program) (t : TypeId) (l c : GV) (H : HS) (K : GV → HS → HR) : HR :=
  match l, c with
  | .i _ n, .i _ m => match elemT P t with
    | some e => match sizeT P e, bytesT P e, gzero P e with
      | some size, some bytes, some z =>
        hif (z.known && z.cells.length == size && decide (0 < size) && decide (bytes ≤ 4096) && decide (0 ≤ n) && decide (n = m) && decide (n ≤ lim))
          (flist (List.replicate n.toNat z.cells).flatten fun cs => hnew H (.o (.box e cs)) fun r H' => fnat n.toNat fun l => K (.rs r 0 size l l) H')
      | _, _, _ => none
    | none => none
  | _, _ => none
theorem hmake_ab {t : TypeId} {l c : GV} {H : HS} {K : GV → HS → HR} {q : GRes} (h : hmake P t l c H K = some q) : ∃ g H', gmake P t l c (ab H) = some (g, ab H') ∧ K g H' = some q := by
  unfold hmake at h
  split at h
  · rename_i k1 n k2 m
    split at h
    · rename_i e he
      split at h
      · rename_i size bytes z h1 h2 h3
        obtain ⟨hz, h⟩ := hif_of h
        simp only [gmake, he, h1, h2, h3, if_pos hz]
        simp only [flist_eq, hnew_eq, fnat_eq] at h
        rw [ab_len, ab_newo]
        exact ⟨_, _, rfl, h⟩
      · cases h
    · cases h
  · cases h
noncomputable def htext (P : Program) (pt : TypeId) (x n : GV) (H : HS) (K : GV → HS → HR) : HR :=
  match x, n with
  | .dat r cs, .i .i64 n => match getO H r, gbytes cs with
    | some (.o (.own m _ ty)), some l =>
      hif (decide (n = (l.length : Int)) && m == cs.length && !l.isEmpty && decide (H.lo ≤ r) && (ptrT P pt == some ty) && P.cellsOf ty == 1 && decide (l.length ≤ lim) && cs.all gbyte) (hset H r (.o .dead) (K (.s l)))
    | _, _ => none
  | _, _ => none
theorem htext_ab {pt : TypeId} {x n : GV} {H : HS} {K : GV → HS → HR} {q : GRes} (h : htext P pt x n H K = some q) : ∃ g H', gtext P pt x n (ab H) = some (g, ab H') ∧ K g H' = some q := by
  unfold htext at h
  split at h
  · rename_i r cs n
    split at h
    · rename_i m esz ty l h1 h2
      obtain ⟨hc, h⟩ := hif_of h
      have hlo : (ab H).lo = H.lo := rfl
      simp only [gtext, getO_ab, h1, h2, Option.map_some, HObj.g, hlo]
      rw [if_pos (by simpa using hc), ab_seto]
      rw [hset_eq] at h
      exact ⟨_, _, rfl, h⟩
    · cases h
  · cases h
noncomputable def hbuiltin (P : Program) (b : Builtin) (ts : List TypeId) (args : List GV) (H : HS) (K : GV → HS → HR) : HR :=
  match b, ts, args with
  | .len, [t], [x] => hopt (hlen P t x H) fun v => fhead v fun v => K v H
  | .append, [t, u], [s, x] => happend P t u s x H K
  | .unsafeSliceData, _, [x] => hopt (gdata x) fun v => fhead v fun v => K v H
  | .unsafeString, [pt, _], [x, n] => htext P pt x n H K
  | .delete, t :: _, [m, k] => hdelete P t m k H (K (.tup []))
  | .min, _, x :: xs => hopt (gfold gmin2 x xs) fun v => fhead v fun v => K v H
  | .max, _, x :: xs => hopt (gfold gmax2 x xs) fun v => fhead v fun v => K v H
  | _, _, _ => none
theorem hbuiltin_ab {b : Builtin} {ts : List TypeId} {args : List GV} {H : HS} {K : GV → HS → HR} {q : GRes} (h : hbuiltin P b ts args H K = some q) : ∃ g H', gbuiltin P b ts args (ab H) = some (g, ab H') ∧ K g H' = some q := by
  unfold hbuiltin at h
  split at h
  · obtain ⟨v, h1, h⟩ := hopt_of h
    rw [fhead_eq] at h
    exact ⟨v, H, by simp only [gbuiltin, hlen_ab h1]; rfl, h⟩
  · exact happend_ab h
  · obtain ⟨v, h1, h⟩ := hopt_of h
    rw [fhead_eq] at h
    exact ⟨v, H, by simp only [gbuiltin, h1]; rfl, h⟩
  · exact htext_ab h
  · obtain ⟨H', h1, h⟩ := hdelete_ab h
    exact ⟨_, H', by simp only [gbuiltin, h1]; rfl, h⟩
  · obtain ⟨v, h1, h⟩ := hopt_of h
    rw [fhead_eq] at h
    exact ⟨v, H, by simp only [gbuiltin, h1]; rfl, h⟩
  · obtain ⟨v, h1, h⟩ := hopt_of h
    rw [fhead_eq] at h
    exact ⟨v, H, by simp only [gbuiltin, h1]; rfl, h⟩
  · cases h
end Go.Proofs.YtcbknpdjdlgljaaGreatDoor
namespace Go.Proofs.YtcbknpdjdlgljaaGreatDoor
open Go.RowKit
set_option linter.unusedSectionVars false
set_option linter.unusedVariables false
variable [Globals]
noncomputable def fsp {β : Type} (g : GV) (K : GV → β) : β :=
  match g with
  | .agg cs => flist cs fun cs => K (.agg cs)
  | .tup cs => flist cs fun cs => K (.tup cs)
  | g => K g
theorem fsp_eq {β : Type} (g : GV) (K : GV → β) : fsp g K = K g := by
  cases g <;> simp only [fsp, flist_eq]
structure HOp where
  run : Tr GV → HS → (GV → HS → HR) → HR
noncomputable def hpure (f : Tr GV → (Option GV → HR) → HR) : HOp := ⟨fun T H K => f T fun x => hopt x fun v => fhead v fun v => K v H⟩
noncomputable def hspine (f : Tr GV → (Option GV → HR) → HR) : HOp := ⟨fun T H K => f T fun x => hopt x fun v => fsp v fun v => K v H⟩
noncomputable def hnewop (x : Option GNew) (H : HS) (K : GV → HS → HR) : HR := hopt x fun f => hnew H (.o f.2) fun n H' => K (f.1 n) H'
noncomputable def cop (P : Program) (op : Op) : HOp :=
  match op with
  | .assign (.const (.slice none 0 0)) => ⟨fun T H K => hnew H (.o (.own 0 0 0)) fun n H' => K (.sl (.own n) []) H'⟩
  | .alloc t => ⟨fun T H K => hnewop (galloc P t) H K⟩
  | .box t x => ⟨fun T H K => (crd x).run T fun a => hnewop (gbox t a) H K⟩
  | .buildSlice t len parts => ⟨fun T H K => rdP T parts.toList fun ps => hopt (gbuildSlice P t len ps) fun f => hnew H (.o f.2) fun n H' => fhead (f.1 n) fun v => K v H'⟩
  | .makeMap t none => ⟨fun T H K => hnew H (.o (if Globals.wr t then .mx [] [] 0 else .mp [])) fun n H' => K (.mp n) H'⟩
  | .move x => ⟨fun T H K => (crd x).run T fun a => K a H⟩
  | .assign x => ⟨fun T H K => (crd x).run T fun a => K a H⟩
  | .pick c a b => ⟨fun T H K => (crd c).run T fun c => match c with
    | .b t => Bool.rec (motive := fun _ => HR) ((crd b).run T fun v => K v H) ((crd a).run T fun v => K v H) t
    | _ => none⟩
  | .build t parts => hpure fun T K => rdP T parts.toList fun ps => K (gbuild P t ps)
  | .load t a => ⟨fun T H K => (crd a).run T fun a => hopt (hload P t a H) fun v => fsp v fun v => K v H⟩
  | .store t a v => ⟨fun T H K => (crd a).run T fun a => (crd v).run T fun v => hstore P t a v H (K .any)⟩
  | .nilCheck x => hpure fun T K => (crd x).run T fun x => K (gnilCheck x)
  | .binOp op t x y _ => hpure fun T K => (crd x).run T fun a => (crd y).run T fun b => K (gbin P op t (isConstOp x) (isConstOp y) a b)
  | .unOp op _ x => hpure fun T K => (crd x).run T fun a => K (gun op a)
  | .convert src dst x => ⟨fun T H K => (crd x).run T fun a => hopt (gconvert P src dst a) fun v => fval v fun v => K v H⟩
  | .makeInterface t x => hpure fun T K => (crd x).run T fun a => K (gmakeIface P t a)
  | .makeFunc f a c => ⟨fun T H K => rdL T a.toList fun a => rdL T c.toList fun c => K (.fn f a c) H⟩
  | .slice t x lo hi mx => hpure fun T K => (crd x).run T fun x => rdO T lo fun lo => rdO T hi fun hi => rdO T mx fun mx => K (gslice P t x lo hi mx)
  | .fieldAddr s x f => hpure fun T K => (crd x).run T fun x => K (gfieldAddr P s x f)
  | .field s x f => hspine fun T K => (crd x).run T fun x => K (gfield P s x f)
  | .indexAddr t x i => hpure fun T K => (crd x).run T fun x => (crd i).run T fun i => K (gindexAddr P t x i)
  | .makeSlice t l c => ⟨fun T H K => (crd l).run T fun l => (crd c).run T fun c => hmake P t l c H K⟩
  | .index t x i => hpure fun T K => (crd x).run T fun x => (crd i).run T fun i => K (gindex P t x i)
  | .lookup t m k ok => ⟨fun T H K => (crd m).run T fun m => (crd k).run T fun k => hopt (hlookup P t m k ok H) fun v => K v H⟩
  | .mapUpdate t m k v => ⟨fun T H K => (crd m).run T fun m => (crd k).run T fun k => (crd v).run T fun v => hupdate P t m k v H (K .any)⟩
  | .insert t m k v => ⟨fun T H K => (crd m).run T fun m => (crd k).run T fun k => (crd v).run T fun v => hupdate P t m k v H (K .any)⟩
  | .typeAssert x _ t ok => hspine fun T K => (crd x).run T fun x => K (gassert P t ok x)
  | .extract x i => hspine fun T K => (crd x).run T fun x => K (gextract x i)
  | .range t x => ⟨fun T H K => (crd x).run T fun x => hiter P t x H K⟩
  | .next it false => ⟨fun T H K => (crd it).run T fun x => hnext x H K⟩
  | .entry it => ⟨fun T H K => (crd it).run T fun x => hopt (hentry x H) fun v => K v H⟩
  | .mapEntry t m k => ⟨fun T H K => (crd m).run T fun m => (crd k).run T fun k => hmapEntry P t m k H K⟩
  | .entryStore _ m st v => ⟨fun T H K => (crd m).run T fun m => (crd st).run T fun st => (crd v).run T fun v => hentryStore m st v H (K .any)⟩
  | .call { callee := .builtin b, args, argTypes } => ⟨fun T H K => rdL T args.toList fun az => hbuiltin P b argTypes.toList az H K⟩
  | _ => ⟨fun _ _ _ => none⟩
variable {P : Program}
theorem hnewop_ab {x : Option GNew} {H : HS} {K : GV → HS → HR} {q : GRes} (h : hnewop x H K = some q) : ∃ f, x = some f ∧ ∃ H', gnew (ab H) f.2 = ab H' ∧ K (f.1 (ab H).objs.length) H' = some q := by
  obtain ⟨f, h1, h⟩ := hopt_of h
  rw [hnew_eq] at h
  exact ⟨f, h1, newO H (.o f.2), ab_newo H f.2, by rw [ab_len]; exact h⟩
set_option maxHeartbeats 1000000 in
theorem cop_ab {op : Op} {T : Tr GV} {H : HS} {K : GV → HS → HR} {q : GRes} (h : (cop P op).run T H K = some q) : ∃ g H', gop P (geval (fr T)) op (ab H) = some (g, ab H') ∧ K g H' = some q := by
  unfold cop at h
  split at h
  case h_1 =>
    simp only [hnew_eq] at h
    exact ⟨_, _, by rw [← ab_newo, ← ab_len]; rfl, h⟩
  case h_2 t =>
    obtain ⟨f, h1, H', h2, h⟩ := hnewop_ab h
    exact ⟨_, H', by rw [← h2]; simp only [gop, gnewop, h1], h⟩
  case h_3 t x =>
    simp only [rd_eq] at h
    obtain ⟨f, h1, H', h2, h⟩ := hnewop_ab h
    exact ⟨_, H', by rw [← h2]; simp only [gop, gnewop, h1], h⟩
  case h_4 t len parts =>
    simp only [rdP_eq] at h
    obtain ⟨f, h1, h⟩ := hopt_of h
    simp only [hnew_eq, fhead_eq] at h
    exact ⟨_, _, by rw [← ab_newo, ← ab_len]; simp only [gop, gnewop, h1], h⟩
  case h_5 =>
    simp only [hnew_eq] at h
    exact ⟨_, _, by rw [← ab_newo, ← ab_len]; rfl, h⟩
  case h_7 x hx =>
    simp only [rd_eq] at h
    refine ⟨_, H, gop_assign (M := fun _ => false) fun hk => ?_, h⟩
    simp only [opKind] at hk
    cases hk
  case h_8 c a b =>
    simp only [rd_eq] at h
    split at h
    · rename_i t ht
      refine ⟨if t then geval (fr T) a else geval (fr T) b, H, ?_, ?_⟩
      · simp only [gop, gnewop, gop0, ht]
      · cases t <;> exact h
    · cases h
  case h_10 t a =>
    simp only [rd_eq] at h
    obtain ⟨v, h1, h⟩ := hopt_of h
    rw [fsp_eq] at h
    exact ⟨v, H, by simp only [gop, gnewop, gop0, hload_ab h1]; rfl, h⟩
  case h_11 t a v =>
    simp only [rd_eq] at h
    obtain ⟨H', h1, h⟩ := hstore_ab h
    exact ⟨_, H', by simp only [gop, gnewop, gop0, h1]; rfl, h⟩
  case h_22 t l c =>
    simp only [rd_eq] at h
    obtain ⟨g, H', h1, h⟩ := hmake_ab h
    exact ⟨g, H', by simp only [gop, gnewop, gop0, h1], h⟩
  case h_24 t m k ok =>
    simp only [rd_eq] at h
    obtain ⟨v, h1, h⟩ := hopt_of h
    exact ⟨v, H, by simp only [gop, gnewop, gop0, hlookup_ab h1]; rfl, h⟩
  case h_25 t m k v =>
    simp only [rd_eq] at h
    obtain ⟨H', h1, h⟩ := hupdate_ab h
    exact ⟨_, H', by simp only [gop, gnewop, gop0, h1]; rfl, h⟩
  case h_26 t m k v =>
    simp only [rd_eq] at h
    obtain ⟨H', h1, h⟩ := hupdate_ab h
    exact ⟨_, H', by simp only [gop, gnewop, gop0, h1]; rfl, h⟩
  case h_29 t x =>
    simp only [rd_eq] at h
    obtain ⟨g, H', h1, h⟩ := hiter_ab h
    exact ⟨g, H', by simp only [gop, gnewop, gop0, h1], h⟩
  case h_30 it =>
    simp only [rd_eq] at h
    obtain ⟨g, H', h1, h⟩ := hnext_ab h
    exact ⟨g, H', by simp only [gop, gnewop, gop0, h1], h⟩
  case h_31 it =>
    simp only [rd_eq] at h
    obtain ⟨v, h1, h⟩ := hopt_of h
    exact ⟨v, H, by simp only [gop, gnewop, gop0, hentry_ab h1]; rfl, h⟩
  case h_32 t m k =>
    simp only [rd_eq] at h
    obtain ⟨g, H', h1, h⟩ := hmapEntry_ab h
    exact ⟨g, H', by simp only [gop, gnewop, gop0, h1], h⟩
  case h_33 t m st v =>
    simp only [rd_eq] at h
    obtain ⟨H', h1, h⟩ := hentryStore_ab h
    exact ⟨_, H', by simp only [gop, gnewop, gop0, h1]; rfl, h⟩
  case h_34 b args ts =>
    simp only [rdL_eq] at h
    obtain ⟨g, H', h1, h⟩ := hbuiltin_ab h
    exact ⟨g, H', by simp only [gop, gnewop, gop0, h1], h⟩
  all_goals first
    | (cases h; done)
    | (simp only [hpure, hspine, rd_eq, rdP_eq, rdL_eq, rdO_eq, fhead_eq, fsp_eq, fval_eq] at h
       obtain ⟨v, h1, h⟩ := hopt_of h
       exact ⟨v, H, by simp only [gop, gnewop, gop0, h1]; rfl, h⟩)
    | (simp only [rd_eq, rdL_eq] at h
       exact ⟨_, H, by simp only [gop, gnewop, gop0], h⟩)
abbrev HCall := Tgt → List GV → HS → (GRes → HS → HR) → HR
structure HC where
  h : HCall
  g : GCall
def HSound (c : HCall) (g : GCall) : Prop := ∀ t args H K q, c t args H K = some q → ∃ r H', g t args (ab H) = some (r, ab H') ∧ K r H' = some q
noncomputable def hres (K Kp : GV → HS → HR) (r : GRes) (H : HS) : HR :=
  match r with
  | .val g => K g H
  | .panic g => Kp g H
structure HOpr where
  run : HC → Tr GV → HS → (GV → HS → HR) → (GV → HS → HR) → HR
noncomputable def coper (P : Program) (op : Op) : HOpr :=
  match op with
  | .panic x => ⟨fun _ T H _ Kp => (crd x).run T fun v => match v with
    | .ifc t g => Kp (.ifc t g) H
    | _ => none⟩
  | .call { callee := .value f, args, .. } => ⟨fun call T H K Kp => (crd f).run T fun v => match v with
    | .fn (.func k) first cap => rdL T args.toList fun az => match callable P k with
      | true => call.h (.fn k) (first ++ az ++ cap) H (hres K Kp)
      | false => hopt (gextern P k (first ++ az ++ cap)) fun g => K g H
    | .yld r => rdL T args.toList fun az => call.h (.yld r) az H (hres K Kp)
    | _ => none⟩
  | .call { callee := .invoke r name, args, .. } => ⟨fun call T H K Kp => (crd r).run T fun v => match v with
    | .ifc t g => match gmethod P t name with
      | some k => rdL T args.toList fun az => match callable P k with
        | true => call.h (.fn k) (g :: az) H (hres K Kp)
        | false => none
      | none => none
    | _ => none⟩
  | op => ⟨fun _ T H K _ => (cop P op).run T H K⟩
theorem hres_of {K Kp : GV → HS → HR} {r : GRes} {H : HS} {q : GRes} (h : hres K Kp r H = some q) : (∃ g, r = .val g ∧ K g H = some q) ∨ (∃ g, r = .panic g ∧ Kp g H = some q) := by
  cases r with
  | val g => exact .inl ⟨g, rfl, h⟩
  | panic g => exact .inr ⟨g, rfl, h⟩
theorem coper_ab {call : HC} (hs : HSound call.h call.g) {o : Oper} {T : Tr GV} {H : HS} {K Kp : GV → HS → HR} {q : GRes} (h : (coper P o.op).run call T H K Kp = some q) :
    ∃ r H', goper P call.g o (geval (fr T)) (ab H) = some (r, ab H') ∧ ((∃ g, r = .val g ∧ K g H' = some q) ∨ (∃ g, r = .panic g ∧ Kp g H' = some q)) := by
  obtain ⟨dst, op, ty, pos, af, gd⟩ := o
  simp only at h
  unfold coper at h
  unfold goper
  split at h
  · rename_i x
    simp only [rd_eq] at h
    split at h
    · rename_i t g hx
      exact ⟨_, H, by simp only [hx], .inr ⟨_, rfl, h⟩⟩
    · cases h
  · rename_i f args ts
    simp only [rd_eq] at h
    split at h
    · rename_i k first cap hx
      simp only [rdL_eq] at h
      split at h
      · rename_i hc
        obtain ⟨r, H', h1, h⟩ := hs _ _ _ _ _ h
        exact ⟨r, H', by simp only [hx, hc, if_pos, h1], hres_of h⟩
      · rename_i hc
        obtain ⟨g, h1, h⟩ := hopt_of h
        exact ⟨.val g, H, by simp only [hx, hc, Bool.false_eq_true, if_false, h1]; rfl, .inl ⟨g, rfl, h⟩⟩
    · rename_i r hx
      simp only [rdL_eq] at h
      obtain ⟨r, H', h1, h⟩ := hs _ _ _ _ _ h
      exact ⟨r, H', by simp only [hx, h1], hres_of h⟩
    · cases h
  · rename_i rc name args ts
    simp only [rd_eq] at h
    split at h
    · rename_i t g hx
      split at h
      · rename_i k hm
        simp only [rdL_eq] at h
        split at h
        · rename_i hc
          obtain ⟨r, H', h1, h⟩ := hs _ _ _ _ _ h
          exact ⟨r, H', by simp only [hx, hm, hc, if_pos, h1], hres_of h⟩
        · cases h
      · cases h
    · cases h
  · rename_i hn1 hn2 hn3
    obtain ⟨g, H', h1, h⟩ := cop_ab h
    refine ⟨.val g, H', ?_, .inl ⟨g, rfl, h⟩⟩
    simp only
    rw [h1]; rfl
end Go.Proofs.YtcbknpdjdlgljaaGreatDoor
