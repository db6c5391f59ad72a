/-
  The text of every currencies, and what every text is read as.
-/
import Derived.Test.YtcbknpdjdlgljaaGreatDoorQ16
import Derived.Test.YtcbknpdjdlgljaaGreatDoorQ15
import Derived.Lib.Index
import Derived.Lib.IndexMore
import Derived.Laws.Rows
set_option linter.all false
namespace Go.Proofs.YtcbknpdjdlgljaaGreatDoor
open Go.RowKit
set_option linter.unusedSectionVars false
set_option linter.unusedVariables false
variable [Globals]
def isDef (op : Op) : Bool :=
  match op with
  | .defer _ => true
  | _ => false
theorem gdefer_not {ρ : Operand → GV} {op : Op} (h : isDef op = false) : gdefer ρ op = none := by
  unfold gdefer
  split
  · cases h
  · rfl
def eqY (y : Option Bool) (want : Bool) : Bool :=
  match y with
  | some true => want
  | some false => !want
  | none => false
theorem eqY_eq (y : Option Bool) (want : Bool) : (y == some want) = eqY y want := by
  cases y with
  | none => rfl
  | some b => cases b <;> cases want <;> rfl
noncomputable def hwant (ops : Array Oper) (o : Oper) (T : Tr GV) (K : Bool → HR) : HR :=
  match o.guard with
  | none => K true
  | some (j, want) => hopt (gyield ops (fr T) j) fun y => K (eqY y want)
theorem hwant_of {ops : Array Oper} {o : Oper} {T : Tr GV} {K : Bool → HR} {q : GRes} (h : hwant ops o T K = some q) : ∃ b, gwanted ops o (fr T) = some b ∧ K b = some q := by
  unfold hwant at h
  unfold gwanted
  split at h
  · rename_i hg; rw [hg]; exact ⟨true, rfl, h⟩
  · rename_i j want hg
    obtain ⟨y, h1, h⟩ := hopt_of h
    rw [hg]; simp only [h1]
    exact ⟨_, congrArg some (eqY_eq y want), h⟩
structure HRun where
  run : HC → Bool → Tr GV → HS → (GX → Tr GV → HS → HR) → HR
noncomputable def hops1 (P : Program) (n : Nat) (ops : Array Oper) (o : Oper) (ih : HRun) : HRun :=
  match o.dst.all fun d => decide (d < n) with
  | false => ⟨fun _ _ _ _ _ => none⟩
  | true => match isDef o.op with
    | true => ⟨fun call dz T H K => hwant ops o T fun w => Bool.rec (motive := fun _ => HR) (hput T o.dst (.tup []) fun T => ih.run call dz T H K)
        (hif dz (hopt (gdefer (geval (fr T)) o.op) fun d => hput T o.dst (.tup []) fun T => hds H (fun ds => d :: ds) fun H => ih.run call dz T H K)) w⟩
    | false => match o.guard with
      | none => ⟨fun call dz T H K => (coper P o.op).run call T H (fun g H => hput T o.dst g fun T => ih.run call dz T H K) (fun g H => K (.panic g) T H)⟩
      | some _ => ⟨fun call dz T H K => hwant ops o T fun w => Bool.rec (motive := fun _ => HR) (hput T o.dst (.tup []) fun T => ih.run call dz T H K)
        ((coper P o.op).run call T H (fun g H => hput T o.dst g fun T => ih.run call dz T H K) (fun g H => K (.panic g) T H)) w⟩
noncomputable def hops (P : Program) (n : Nat) (ops : Array Oper) (l : List Oper) : HRun :=
  List.rec (motive := fun _ => HRun) ⟨fun _ _ T H K => K .normal T H⟩ (fun o _ ih => hops1 P n ops o ih) l
variable {P : Program}
theorem hops_ab {call : HC} (hs : HSound call.h call.g) {dz : Bool} {n : Nat} {ops : Array Oper} : ∀ (l : List Oper) (T : Tr GV) (H : HS) (K : GX → Tr GV → HS → HR) (q : GRes),
    (hops P n ops l).run call dz T H K = some q → ∃ x T' H', gops P call.g dz n ops l (fr T) (ab H) = some (x, fr T', ab H') ∧ K x T' H' = some q := by
  intro l
  induction l with
  | nil => intro T H K q h; exact ⟨.normal, T, H, rfl, h⟩
  | cons o l ih =>
    intro T H K q h
    replace h : (hops1 P n ops o (hops P n ops l)).run call dz T H K = some q := h
    unfold hops1 at h
    split at h
    · cases h
    · rename_i hd
      split at h
      · rename_i hdf
        simp only at h
        obtain ⟨w, hw, h⟩ := hwant_of h
        simp only [gops, hd, if_pos, hw]
        cases w with
        | false =>
          simp only [hput_eq] at h
          obtain ⟨x, T', H', h1, h⟩ := ih _ _ _ _ h
          rw [fr_putT] at h1
          exact ⟨x, T', H', h1, h⟩
        | true =>
          obtain ⟨hz, h⟩ := hif_of h
          obtain ⟨d, h2, h⟩ := hopt_of h
          simp only [hput_eq, hds_eq] at h
          obtain ⟨x, T', H', h1, h⟩ := ih _ _ _ _ h
          rw [fr_putT] at h1
          refine ⟨x, T', H', ?_, h⟩
          simp only [hz, if_pos, h2]
          exact hz ▸ h1
      · rename_i hdf
        replace h : hwant ops o T (fun w => Bool.rec (motive := fun _ => HR) (hput T o.dst (.tup []) fun T => (hops P n ops l).run call dz T H K)
            ((coper P o.op).run call T H (fun g H => hput T o.dst g fun T => (hops P n ops l).run call dz T H K) (fun g H => K (.panic g) T H)) w) = some q := by
          split at h
          · rename_i hg; unfold hwant; rw [hg]; exact h
          · exact h
        obtain ⟨w, hw, h⟩ := hwant_of h
        have hgd : (if dz = true then gdefer (geval (fr T)) o.op else none) = none := by rw [gdefer_not hdf]; simp
        simp only [gops, hd, if_pos, hw]
        cases w with
        | false =>
          simp only [hput_eq] at h
          obtain ⟨x, T', H', h1, h⟩ := ih _ _ _ _ h
          rw [fr_putT] at h1
          exact ⟨x, T', H', h1, h⟩
        | true =>
          obtain ⟨r, H1, h2, h⟩ := coper_ab hs h
          simp only [hgd, h2]
          rcases h with ⟨g, rfl, h⟩ | ⟨g, rfl, h⟩
          · simp only [hput_eq] at h
            obtain ⟨x, T', H', h1, h⟩ := ih _ _ _ _ h
            rw [fr_putT] at h1
            exact ⟨x, T', H', h1, h⟩
          · exact ⟨_, T, H1, rfl, h⟩
noncomputable def hmask (Mk : List Nat) (H : HS) (K : HS → HR) : HR :=
  List.rec (motive := fun _ => HS → HR) K (fun r _ ih H => hset H r (.o .held) ih) Mk H
noncomputable def maskO (Mk : List Nat) (H : HS) : HS := Mk.foldl (fun H r => setO H r (.o .held)) H
theorem hmask_eq (K : HS → HR) : ∀ (Mk : List Nat) (H : HS), hmask Mk H K = K (maskO Mk H) := by
  intro Mk
  induction Mk with
  | nil => intro H; rfl
  | cons r Mk ih =>
    intro H
    show hset H r (.o .held) (fun H => hmask Mk H K) = _
    rw [hset_eq, ih]; rfl
theorem setO_get (H : HS) (r q : Nat) (x : HObj) : getO (setO H r x) q = (getO H q).map fun y => if q = r then x else y := by
  unfold getO
  have : (setO H r x).n = H.n := rfl
  rw [this]
  cases Nat.blt q H.n with
  | false => rfl
  | true => exact congrArg some (look_put H.t x r q)
theorem maskO_get : ∀ (Mk : List Nat) (H : HS) (q : Nat), getO (maskO Mk H) q = (getO H q).map fun y => if Mk.contains q then .o .held else y := by
  intro Mk
  induction Mk with
  | nil => intro H q; simp [maskO]
  | cons r Mk ih =>
    intro H q
    show getO (maskO Mk (setO H r (.o .held))) q = _
    rw [ih, setO_get]
    cases getO H q with
    | none => rfl
    | some y =>
      simp only [Option.map_some, List.contains_cons]
      by_cases h1 : q = r
      · subst h1; simp
      · have : (q == r) = false := by simpa using h1
        rw [this, if_neg h1]; simp
theorem maskO_ab (Mk : List Nat) (H : HS) : ab (maskO Mk H) = gmask Mk (ab H) := by
  have hf : ∀ (Mk : List Nat) (H : HS), (maskO Mk H).lo = H.lo ∧ (maskO Mk H).ds = H.ds := by
    intro Mk
    induction Mk with
    | nil => exact fun H => ⟨rfl, rfl⟩
    | cons r Mk ih => exact fun H => ih (setO H r _)
  have ho : (ab (maskO Mk H)).objs = (gmask Mk (ab H)).objs := by
    apply List.ext_getElem?
    intro q
    rw [gmask_get, getO_ab, getO_ab, maskO_get]
    cases getO H q with
    | none => rfl
    | some y => simp only [Option.map_some]; split <;> rfl
  show (⟨(ab (maskO Mk H)).objs, (maskO Mk H).lo, (maskO Mk H).ds⟩ : GS) = ⟨(gmask Mk (ab H)).objs, H.lo, H.ds⟩
  rw [ho, (hf Mk H).1, (hf Mk H).2]
noncomputable def hunmask (Mk : List Nat) (H H1 : HS) (K : HS → HR) : HR :=
  List.rec (motive := fun _ => HS → HR) K (fun r _ ih H1 => Option.rec (motive := fun _ => HR) (ih H1) (fun y => hset H1 r y ih) (getO H r)) Mk H1
noncomputable def unmaskO (Mk : List Nat) (H H1 : HS) : HS := Mk.foldl (fun H1 r => Option.rec (motive := fun _ => HS) H1 (fun y => setO H1 r y) (getO H r)) H1
theorem hunmask_eq (H : HS) (K : HS → HR) : ∀ (Mk : List Nat) (H1 : HS), hunmask Mk H H1 K = K (unmaskO Mk H H1) := by
  intro Mk
  induction Mk with
  | nil => intro H1; rfl
  | cons r Mk ih =>
    intro H1
    show Option.rec (motive := fun _ => HR) (hunmask Mk H H1 K) (fun y => hset H1 r y fun H1 => hunmask Mk H H1 K) (getO H r) = K (unmaskO Mk H (Option.rec (motive := fun _ => HS) H1 (fun y => setO H1 r y) (getO H r)))
    cases getO H r with
    | none => exact ih H1
    | some y => simp only [hset_eq]; exact ih _
theorem unmaskO_get (H : HS) : ∀ (Mk : List Nat) (H1 : HS) (q : Nat), getO (unmaskO Mk H H1) q = (getO H1 q).map fun y => if Mk.contains q then (getO H q).getD y else y := by
  intro Mk
  induction Mk with
  | nil => intro H1 q; simp [unmaskO]
  | cons r Mk ih =>
    intro H1 q
    show getO (unmaskO Mk H (Option.rec (motive := fun _ => HS) H1 (fun y => setO H1 r y) (getO H r))) q = _
    rw [ih]
    cases hr : getO H r with
    | none =>
      simp only
      cases getO H1 q with
      | none => rfl
      | some y =>
        simp only [Option.map_some, List.contains_cons]
        by_cases h1 : q = r
        · subst h1; rw [hr]; simp
        · have : (q == r) = false := by simpa using h1
          rw [this]; simp
    | some z =>
      simp only [setO_get]
      cases getO H1 q with
      | none => rfl
      | some y =>
        simp only [Option.map_some, List.contains_cons]
        by_cases h1 : q = r
        · subst h1; rw [hr]; simp
        · have : (q == r) = false := by simpa using h1
          rw [this, if_neg h1]; simp
theorem unmaskO_ab (Mk : List Nat) (H H1 : HS) : ab (unmaskO Mk H H1) = gunmask Mk (ab H) (ab H1) := by
  have hf : ∀ (Mk : List Nat) (H1 : HS), (unmaskO Mk H H1).lo = H1.lo ∧ (unmaskO Mk H H1).ds = H1.ds := by
    intro Mk
    induction Mk with
    | nil => exact fun H1 => ⟨rfl, rfl⟩
    | cons r Mk ih =>
      intro H1
      show (unmaskO Mk H (Option.rec (motive := fun _ => HS) H1 (fun y => setO H1 r y) (getO H r))).lo = _ ∧ (unmaskO Mk H (Option.rec (motive := fun _ => HS) H1 (fun y => setO H1 r y) (getO H r))).ds = _
      rw [(ih _).1, (ih _).2]
      cases getO H r <;> exact ⟨rfl, rfl⟩
  have ho : (ab (unmaskO Mk H H1)).objs = (gunmask Mk (ab H) (ab H1)).objs := by
    apply List.ext_getElem?
    intro q
    rw [gunmask_get, getO_ab, getO_ab, unmaskO_get]
    cases getO H1 q with
    | none => rfl
    | some y =>
      simp only [Option.map_some, List.getD_eq_getElem?_getD, getO_ab]
      split
      · cases getO H q <;> rfl
      · rfl
  show (⟨(ab (unmaskO Mk H H1)).objs, (unmaskO Mk H H1).lo, (unmaskO Mk H H1).ds⟩ : GS) = ⟨(gunmask Mk (ab H) (ab H1)).objs, H1.lo, H1.ds⟩
  rw [ho, (hf Mk H1).1, (hf Mk H1).2]
end Go.Proofs.YtcbknpdjdlgljaaGreatDoor
namespace Go.Proofs.YtcbknpdjdlgljaaGreatDoor
open Go.RowKit
set_option linter.unusedSectionVars false
set_option linter.unusedVariables false
variable [Globals]
variable {M : FuncId → Bool}
noncomputable def hstep (P : Program) (M : FuncId → Bool) (call : HC) (U : Nat → Option Nat) (Mk : Nat → List Nat) (i : Nat) (o : Oper) (T : Tr GV) (H : HS) (K : GV → HS → HR) : HR :=
  match opClass M o.op with
  | 0 => (coper P o.op).run call T H K (fun _ _ => none)
  | 1 => hif (decide (gtarget (geval (fr T)) o.op = U i ∨ U i = some unk)) ((coper P o.op).run call T H K (fun _ _ => none))
  | 2 => hif (decide (gtarget (geval (fr T)) o.op = U i)) ((coper P o.op).run call T H K (fun _ _ => none))
  | 3 => hopt (gnewopD P (geval (fr T)) o.op) fun f => hopt (U i) fun r => match getO H r with
    | some (.o .free) => hif (decide (H.lo ≤ r)) (hset H r (.o f.2) (K (f.1 r)))
    | _ => none
  | 4 => hmask (Mk i) H fun H1 => (coper P o.op).run call T H1 (fun g H2 => hunmask (Mk i) H H2 (K g)) (fun _ _ => none)
  | _ => none
noncomputable def hsteps (P : Program) (M : FuncId → Bool) (call : HC) (U : Nat → Option Nat) (Mk : Nat → List Nat) (n : Nat) (ops : Array Oper) (l : List Oper) : Nat → Tr GV → HS → (Tr GV → HS → HR) → HR :=
  List.rec (motive := fun _ => Nat → Tr GV → HS → (Tr GV → HS → HR) → HR) (fun _ T H K => K T H) (fun o _ ih i T H K =>
    hif (o.dst.all fun d => decide (d < n)) (hwant ops o T fun w => Bool.rec (motive := fun _ => HR) (hput T o.dst (.tup []) fun T => ih (Nat.succ i) T H K)
      (hstep P M call U Mk i o T H fun g H => hput T o.dst g fun T => ih (Nat.succ i) T H K) w)) l
noncomputable def hfree (c : Nat) : HS → (HS → HR) → HR := Nat.rec (motive := fun _ => HS → (HS → HR) → HR) (fun H K => K H) (fun _ ih H K => hnew H (.o .free) fun _ H => ih H K) c
noncomputable def fopt {β : Type} (x : Option Nat) (K : Option Nat → β) : β := Option.rec (motive := fun _ => β) (K none) (fun r => K (some r)) x
theorem fopt_eq {β : Type} (x : Option Nat) (K : Option Nat → β) : fopt x K = K x := by cases x <;> rfl
noncomputable def hdraw2 (P : Program) (M : FuncId → Bool) (n : Nat) (ops : Array Oper) : HRun :=
  ⟨fun call _ T H K => flistF fopt (gtargets P M call.g (H.n + (ops.toList.filter fun o => opClass M o.op == 3).length) (ab H) ops.toList H.n (fr T)) fun U =>
    hfree (ops.toList.filter fun o => opClass M o.op == 3).length H fun H0 =>
      hif (wild M ops (ancs ops.toList []) U H0.n) (hsteps P M call (fun i => U.getD i none) (masks M ops (ancs ops.toList []) U) n ops ops.toList 0 T H0 fun T H => K .normal T H)⟩
noncomputable def hlost {β : Type} (l : List Oper) : Tr GV → (Tr GV → β) → β :=
  List.rec (motive := fun _ => Tr GV → (Tr GV → β) → β) (fun T K => K T) (fun o _ ih T K => match o.dst with
    | some d => Tr.setK (path d) .any T fun T => ih T K
    | none => ih T K) l
noncomputable def hpan (P : Program) (M : FuncId → Bool) (n : Nat) (ops : Array Oper) : HRun :=
  match panCand P M n ops with
  | [p] => match ops[p]? with
    | some op => ⟨fun call _ T H K => (hops P n ops (ops.toList.take p)).run call false T H fun x T1 H1 => match x with
      | .normal => hwant ops op T1 fun w => hif w ((coper P op.op).run call T1 H1 (fun _ _ => none) fun g H2 => hlost ops.toList T fun T' => K (.panic g) T' H2)
      | _ => none⟩
    | none => ⟨fun _ _ _ _ _ => none⟩
  | _ => ⟨fun _ _ _ _ _ => none⟩
noncomputable def hregion (P : Program) (M : FuncId → Bool) (n id : Nat) (ops : Array Oper) (draw : Bool) : HRun :=
  match draw with
  | true => match M (rkey id ops) with
   | true => hpan P M n ops
   | false => match calm M ops with
    | true => ⟨fun call _ T H K => (hops P n ops ops.toList).run call false T H fun x T H => match x with
      | .normal => K .normal T H
      | _ => none⟩
    | false => hdraw2 P M n ops
  | false => hops P n ops ops.toList
variable {P : Program}
theorem hval_of {call : HC} (hs : HSound call.h call.g) {o : Oper} {T : Tr GV} {H : HS} {K : GV → HS → HR} {q : GRes} (h : (coper P o.op).run call T H K (fun _ _ => none) = some q) :
    ∃ g H', gval (goper P call.g o (geval (fr T)) (ab H)) = some (g, ab H') ∧ K g H' = some q := by
  obtain ⟨r, H', h1, h⟩ := coper_ab hs h
  rcases h with ⟨g, rfl, h⟩ | ⟨g, _, h⟩
  · exact ⟨g, H', by rw [h1]; rfl, h⟩
  · cases h
theorem hstep_ab {call : HC} (hs : HSound call.h call.g) {U : Nat → Option Nat} {Mk : Nat → List Nat} {i : Nat} {o : Oper} {T : Tr GV} {H : HS} {K : GV → HS → HR} {q : GRes}
    (h : hstep P M call U Mk i o T H K = some q) : ∃ g H', gstep P M call.g U Mk i o (fr T) (ab H) = some (g, ab H') ∧ K g H' = some q := by
  unfold hstep at h
  unfold gstep
  split at h
  · rename_i hc
    rw [hc]; exact hval_of hs h
  · rename_i hc
    obtain ⟨hd, h⟩ := hif_of h
    rw [hc]
    simp only [if_pos (of_decide_eq_true hd)]
    exact hval_of hs h
  · rename_i hc
    obtain ⟨hd, h⟩ := hif_of h
    rw [hc]
    simp only [if_pos (of_decide_eq_true hd)]
    exact hval_of hs h
  · rename_i hc
    obtain ⟨f, h1, h⟩ := hopt_of h
    obtain ⟨r, h2, h⟩ := hopt_of h
    split at h
    · rename_i ho
      obtain ⟨hd, h⟩ := hif_of h
      rw [hset_eq] at h
      have hlo : (ab H).lo = H.lo := rfl
      rw [hc]
      simp only [h1, h2, getO_ab, ho, Option.map_some, HObj.g, hlo, if_pos (of_decide_eq_true hd), ab_seto]
      exact ⟨_, _, rfl, h⟩
    · cases h
  · rename_i hc
    rw [hmask_eq] at h
    obtain ⟨g, H1, h1, h⟩ := hval_of hs h
    rw [hunmask_eq] at h
    rw [hc]
    simp only
    rw [← maskO_ab, h1]
    simp only [← unmaskO_ab]
    exact ⟨_, _, rfl, h⟩
  · cases h
theorem hsteps_ab {call : HC} (hs : HSound call.h call.g) {U : Nat → Option Nat} {Mk : Nat → List Nat} {n : Nat} {ops : Array Oper} : ∀ (l : List Oper) (i : Nat) (T : Tr GV) (H : HS) (K : Tr GV → HS → HR) (q : GRes),
    hsteps P M call U Mk n ops l i T H K = some q → ∃ T' H', gsteps P M call.g U Mk n ops l i (fr T) (ab H) = some (fr T', ab H') ∧ K T' H' = some q := by
  intro l
  induction l with
  | nil => intro i T H K q h; exact ⟨T, H, rfl, h⟩
  | cons o l ih =>
    intro i T H K q h
    obtain ⟨hd, h⟩ := hif_of h
    obtain ⟨w, hw, h⟩ := hwant_of h
    simp only [gsteps, hd, if_pos, hw]
    cases w with
    | false =>
      replace h : hput T o.dst (.tup []) (fun T => hsteps P M call U Mk n ops l (i + 1) T H K) = some q := h
      rw [hput_eq] at h
      obtain ⟨T', H', h1, h⟩ := ih _ _ _ _ _ h
      rw [fr_putT] at h1
      exact ⟨T', H', h1, h⟩
    | true =>
      obtain ⟨g, H1, h2, h⟩ := hstep_ab hs h
      replace h : hput T o.dst g (fun T => hsteps P M call U Mk n ops l (i + 1) T H1 K) = some q := h
      rw [hput_eq] at h
      obtain ⟨T', H', h1, h⟩ := ih _ _ _ _ _ h
      rw [fr_putT] at h1
      simp only [h2]
      exact ⟨T', H', h1, h⟩
theorem hfree_ab : ∀ (c : Nat) (H : HS) (K : HS → HR) (q : GRes), hfree c H K = some q → ∃ H', ab H' = { ab H with objs := (ab H).objs ++ List.replicate c .free } ∧ K H' = some q := by
  intro c
  induction c with
  | zero => intro H K q h; exact ⟨H, by simp, h⟩
  | succ c ih =>
    intro H K q h
    replace h : hnew H (.o .free) (fun _ H => hfree c H K) = some q := h
    rw [hnew_eq] at h
    obtain ⟨H', h1, h⟩ := ih _ _ _ h
    refine ⟨H', ?_, h⟩
    rw [h1, ← ab_newo]
    simp [gnew, List.replicate_succ]
theorem hdraw2_ab {call : HC} (hs : HSound call.h call.g) {dz : Bool} {n : Nat} {ops : Array Oper} {T : Tr GV} {H : HS} {K : GX → Tr GV → HS → HR} {q : GRes}
    (h : (hdraw2 P M n ops).run call dz T H K = some q) : ∃ x T' H', gdraw2 P M call.g n ops (fr T) (ab H) = some (x, fr T', ab H') ∧ K x T' H' = some q := by
  unfold hdraw2 at h
  simp only [flistF_eq fopt_eq] at h
  obtain ⟨H0, h0, h⟩ := hfree_ab _ _ _ _ h
  obtain ⟨hw, h⟩ := hif_of h
  obtain ⟨T', H', h1, h⟩ := hsteps_ab hs _ _ _ _ _ _ h
  refine ⟨.normal, T', H', ?_, h⟩
  unfold gdraw2
  have hl := ab_len H
  have hn : ((ab H).objs ++ List.replicate (ops.toList.filter fun o => opClass M o.op == 3).length GObj.free).length = H0.n := by rw [← ab_len H0, h0]
  have he : H.n + (ops.toList.filter fun o => opClass M o.op == 3).length = H0.n := by rw [← hn, List.length_append, List.length_replicate, hl]
  rw [he] at hw h1
  simp only [hl, hn]
  rw [if_pos hw]
  rw [h0] at h1
  rw [h1]
  rfl
theorem hlost_ab : ∀ (l : List Oper) (T : Tr GV) (K : Tr GV → HR) (q : GRes), hlost l T K = some q → ∃ T', (∀ t, fr T' t = if (l.any fun o => o.dst == some t) = true then .any else fr T t) ∧ K T' = some q := by
  intro l
  induction l with
  | nil => intro T K q h; exact ⟨T, fun t => by simp, h⟩
  | cons o l ih =>
    intro T K q h
    cases hd : o.dst with
    | none =>
      replace h : (match o.dst with | some d => Tr.setK (path d) .any T fun T => hlost l T K | none => hlost l T K) = some q := h
      rw [hd] at h
      obtain ⟨T', h1, h⟩ := ih _ _ _ h
      exact ⟨T', fun t => by rw [h1 t, List.any_cons, hd]; simp, h⟩
    | some d =>
      replace h : (match o.dst with | some d => Tr.setK (path d) .any T fun T => hlost l T K | none => hlost l T K) = some q := h
      rw [hd] at h
      replace h : Tr.setK (path d) .any T (fun T => hlost l T K) = some q := h
      rw [Tr.setK_eq] at h
      obtain ⟨T', h1, h⟩ := ih _ _ _ h
      refine ⟨T', fun t => ?_, h⟩
      rw [h1 t, List.any_cons, hd, fr_put]
      simp only [fput]
      by_cases ht : t = d
      · subst ht; simp
      · have : (some d == some t) = false := by simp [Ne.symm ht]
        rw [this, if_neg ht]; simp
theorem hpan_ab {call : HC} (hs : HSound call.h call.g) {dz : Bool} {n : Nat} {ops : Array Oper} {T : Tr GV} {H : HS} {K : GX → Tr GV → HS → HR} {q : GRes}
    (h : (hpan P M n ops).run call dz T H K = some q) : ∃ x T' H', gpanD P M call.g n ops (fr T) (ab H) = some (x, fr T', ab H') ∧ K x T' H' = some q := by
  unfold hpan at h
  split at h
  · rename_i p hp
    split at h
    · rename_i op hop
      obtain ⟨x, T1, H1, h1, h⟩ := hops_ab hs _ _ _ _ _ h
      cases x with
      | normal =>
        obtain ⟨w, hw, h⟩ := hwant_of h
        obtain ⟨rfl, h⟩ := hif_of h
        obtain ⟨r, H2, h2, h⟩ := coper_ab hs h
        rcases h with ⟨g, _, h⟩ | ⟨g, rfl, h⟩
        · cases h
        · obtain ⟨T', h3, h⟩ := hlost_ab _ _ _ _ h
          refine ⟨_, T', H2, ?_, h⟩
          have : fr T' = lost ops (fr T) := funext fun t => h3 t
          simp only [gpanD, hp, gpanAt, hop, h1, hw, h2, this]
      | _ => cases h
    · cases h
  · cases h
theorem hregion_ab {call : HC} (hs : HSound call.h call.g) {ro : Option Nat} {n m id : Nat} {ops : Array Oper} {draw : Bool} {T : Tr GV} {H : HS} {K : GX → Tr GV → HS → HR} {q : GRes}
    (h : (hregion P M n id ops draw).run call ro.isNone T H K = some q) : ∃ x T' H', gcode P M call.g ro n m (.region id ops draw) (fr T) (ab H) = some (x, fr T', ab H') ∧ K x T' H' = some q := by
  unfold hregion at h
  simp only [gcode]
  split at h
  · rw [if_pos rfl]
    split at h
    · rename_i hM
      rw [if_pos hM]
      exact hpan_ab hs h
    rename_i hM
    rw [if_neg (by simp [hM])]
    split at h
    · rename_i hc
      obtain ⟨x, T', H', h1, h⟩ := hops_ab hs _ _ _ _ _ h
      split at h
      · refine ⟨.normal, T', H', ?_, h⟩
        rw [if_pos hc]
        simp only [gdraw, hc, if_pos, h1]
      · cases h
    · rename_i hc
      obtain ⟨x, T', H', h1, h⟩ := hdraw2_ab hs h
      refine ⟨x, T', H', ?_, h⟩
      rw [hc, if_neg (by simp), h1]
  · rw [if_neg (by simp)]
    exact hops_ab hs _ _ _ _ _ h
structure HCd where
  run : HC → Nat → Option Nat → Tr GV → HS → (GX → Tr GV → HS → HR) → HR
noncomputable def hloop (m : Nat) (f : Tr GV → HS → (GX → Tr GV → HS → HR) → HR) : Tr GV → HS → (GX → Tr GV → HS → HR) → HR :=
  Nat.rec (motive := fun _ => Tr GV → HS → (GX → Tr GV → HS → HR) → HR) (fun _ _ _ => none) (fun _ ih T H K => f T H fun x T H => match x with
    | .normal => ih T H K
    | x => K x T H) m
noncomputable def henter (ro : Option Nat) (H : HS) (K : Nat → HS → HR) : HR :=
  match ro with
  | none => hnew H (.o .dfr) fun n H => hds H (fun ds => .coll n :: ds) (K n)
  | some r0 => match getO H r0 with
    | some (.lp _ _ _ _ _ _ _ rd) => K rd H
    | _ => none
noncomputable def hendLoop (l : Nat) (T : Tr GV) (H : HS) (K : GX → Tr GV → HS → HR) : HR :=
  hif (Nat.ble H.lo l) (match getO H l with
    | some (.lp .busy _ _ _ _ _ _ _) => none
    | some (.lp _ none _ _ _ _ _ _) => hset H l (.o .dead) (K .normal T)
    | some (.lp _ (some .ret) _ _ _ _ _ _) => hset H l (.o .dead) (K .ret T)
    | some (.lp _ (some (.exit id)) _ _ _ _ _ _) => hset H l (.o .dead) (K (.exit id) T)
    | _ => none)
noncomputable def hcode (P : Program) (M : FuncId → Bool) (n : Nat) (c : Code) : HCd :=
  Code.rec (motive := fun _ => HCd)
    ⟨fun _ _ _ T H K => K .normal T H⟩
    (fun id ops draw => ⟨fun call _ ro T H K => (hregion P M n id ops draw).run call ro.isNone T H K⟩)
    (fun _ _ a b => ⟨fun call m ro T H K => a.run call m ro T H fun x T H => match x with
      | .normal => b.run call m ro T H K
      | x => K x T H⟩)
    (fun c _ _ a b => ⟨fun call m ro T H K => (crd c).run T fun c => match c with
      | .b t => Bool.rec (motive := fun _ => HR) (b.run call m ro T H K) (a.run call m ro T H K) t
      | _ => none⟩)
    (fun id _ c => ⟨fun call m ro T H K => c.run call m ro T H fun x T H => match x with
      | .exit i => Bool.rec (motive := fun _ => HR) (K (.exit i) T H) (K .normal T H) (Nat.beq i id)
      | x => K x T H⟩)
    (fun _ c => ⟨fun call m ro T H K => hloop m (c.run call m ro) T H K⟩)
    (fun f ps asg body _ _ => ⟨fun call m ro T H K => (crd f).run T fun v => match v with
      | .fn (.func k) first cap => match callable P k with
        | true => henter ro H fun rd H1 => hnew H1 (.lp .ready none n T ps asg body rd) fun l H2 => call.h (.fn k) (first ++ .yld l :: cap) H2 fun r H3 => match r with
          | .val _ => hendLoop l T H3 K
          | .panic g => K (.panic g) T H3
        | false => none
      | _ => none⟩)
    (fun id => ⟨fun _ _ _ T H K => K (.exit id) T H⟩)
    (fun _ _ => ⟨fun _ _ _ _ _ _ => none⟩)
    (fun _ => ⟨fun _ _ _ T H K => K .normal T H⟩)
    (fun _ => ⟨fun _ _ _ _ _ _ => none⟩)
    ⟨fun _ _ _ T H K => K .ret T H⟩
    (fun _ => ⟨fun _ _ _ _ _ _ => none⟩)
    c
theorem hloop_ab {f : Tr GV → HS → (GX → Tr GV → HS → HR) → HR} {g : Fr → GS → Option (GX × Fr × GS)} (hf : ∀ T H K q, f T H K = some q → ∃ x T' H', g (fr T) (ab H) = some (x, fr T', ab H') ∧ K x T' H' = some q) :
    ∀ (m : Nat) (T : Tr GV) (H : HS) (K : GX → Tr GV → HS → HR) (q : GRes), hloop m f T H K = some q → ∃ x T' H', gloop m g (fr T) (ab H) = some (x, fr T', ab H') ∧ K x T' H' = some q := by
  intro m
  induction m with
  | zero => intro T H K q h; cases h
  | succ m ih =>
    intro T H K q h
    obtain ⟨x, T1, H1, h1, h⟩ := hf _ _ _ _ h
    simp only [gloop, h1]
    cases x with
    | normal => exact ih _ _ _ _ h
    | _ => exact ⟨_, T1, H1, rfl, h⟩
theorem henter_ab {ro : Option Nat} {H : HS} {K : Nat → HS → HR} {q : GRes} (h : henter ro H K = some q) : ∃ rd H', genter ro (ab H) = some (rd, ab H') ∧ K rd H' = some q := by
  unfold henter at h
  unfold genter
  split at h
  · rw [hnew_eq] at h
    refine ⟨_, _, ?_, h⟩
    rw [ab_newo, ab_len]; rfl
  · rename_i r0
    split at h
    · rename_i ho
      simp only [getO_ab, ho, Option.map_some, HObj.g]
      exact ⟨_, _, rfl, h⟩
    · cases h
theorem hendLoop_ab {l : Nat} {T : Tr GV} {H : HS} {K : GX → Tr GV → HS → HR} {q : GRes} (h : hendLoop l T H K = some q) : ∃ x T' H', gendLoop l (fr T) (ab H) = some (x, fr T', ab H') ∧ K x T' H' = some q := by
  obtain ⟨hl, h⟩ := hif_of h
  have hlo : (ab H).lo = H.lo := rfl
  simp only [gendLoop, hlo, if_pos (Nat.le_of_ble_eq_true hl), getO_ab]
  cases ho : getO H l with
  | none => rw [ho] at h; cases h
  | some y =>
    rw [ho] at h
    cases y with
    | o x => cases h
    | lp st pe n T0 ps asg body rd =>
      have hg : ∀ (x : GX), hset H l (.o .dead) (K x T) = some q → ∃ y T' H', some (x, fr T, gset (ab H) l .dead) = some (y, fr T', ab H') ∧ K y T' H' = some q := fun x hx => by
        rw [hset_eq] at hx
        exact ⟨x, T, _, by rw [ab_seto], hx⟩
      simp only [Option.map_some, HObj.g]
      cases st with
      | busy => cases h
      | ready =>
        cases pe with
        | none => exact hg _ h
        | some c => cases c <;> first | exact hg _ h | (cases h; done)
      | done =>
        cases pe with
        | none => exact hg _ h
        | some c => cases c <;> first | exact hg _ h | (cases h; done)
      | exhausted =>
        cases pe with
        | none => exact hg _ h
        | some c => cases c <;> first | exact hg _ h | (cases h; done)
theorem hcode_ab {call : HC} (hs : HSound call.h call.g) {n m : Nat} {ro : Option Nat} : ∀ (c : Code) (T : Tr GV) (H : HS) (K : GX → Tr GV → HS → HR) (q : GRes),
    (hcode P M n c).run call m ro T H K = some q → ∃ x T' H', gcode P M call.g ro n m c (fr T) (ab H) = some (x, fr T', ab H') ∧ K x T' H' = some q := by
  intro c
  induction c with
  | skip => intro T H K q h; exact ⟨.normal, T, H, rfl, h⟩
  | label l => intro T H K q h; exact ⟨.normal, T, H, rfl, h⟩
  | region id ops draw => intro T H K q h; exact hregion_ab hs h
  | seq a b iha ihb =>
    intro T H K q h
    obtain ⟨x, T1, H1, h1, h⟩ := iha _ _ _ _ h
    simp only [gcode, h1]
    cases x with
    | normal => exact ihb _ _ _ _ h
    | _ => exact ⟨_, T1, H1, rfl, h⟩
  | cond c a b iha ihb =>
    intro T H K q h
    replace h : (crd c).run T (fun c => match c with
      | .b t => Bool.rec (motive := fun _ => HR) ((hcode P M n b).run call m ro T H K) ((hcode P M n a).run call m ro T H K) t
      | _ => none) = some q := h
    rw [rd_eq] at h
    simp only [gcode]
    split at h
    · rename_i t ht
      rw [ht]
      cases t with
      | true => simp only [if_pos]; exact iha _ _ _ _ h
      | false => simp only [Bool.false_eq_true, if_false]; exact ihb _ _ _ _ h
    · cases h
  | block id c ih =>
    intro T H K q h
    obtain ⟨x, T1, H1, h1, h⟩ := ih _ _ _ _ h
    simp only [gcode, h1]
    cases x with
    | exit i =>
      replace h : Bool.rec (motive := fun _ => HR) (K (.exit i) T1 H1) (K .normal T1 H1) (Nat.beq i id) = some q := h
      simp only
      cases hb : Nat.beq i id with
      | true => rw [hb] at h; rw [if_pos (Nat.eq_of_beq_eq_true hb)]; exact ⟨_, T1, H1, rfl, h⟩
      | false =>
        rw [hb] at h
        rw [if_neg (fun e => by subst e; rw [Nat.beq_refl] at hb; cases hb)]
        exact ⟨_, T1, H1, rfl, h⟩
    | _ => exact ⟨_, T1, H1, rfl, h⟩
  | loop c ih =>
    intro T H K q h
    simp only [gcode]
    exact hloop_ab (f := (hcode P M n c).run call m ro) (fun T H K q h => ih T H K q h) m T H K q h
  | exit id => intro T H K q h; exact ⟨.exit id, T, H, rfl, h⟩
  | ret => intro T H K q h; exact ⟨.ret, T, H, rfl, h⟩
  | rangeFunc f ps asg body iha ihb =>
    intro T H K q h
    replace h : (crd f).run T (fun v => match v with
      | .fn (.func k) first cap => match callable P k with
        | true => henter ro H fun rd H1 => hnew H1 (.lp .ready none n T ps asg body rd) fun l H2 => call.h (.fn k) (first ++ .yld l :: cap) H2 fun r H3 => match r with
          | .val _ => hendLoop l T H3 K
          | .panic g => K (.panic g) T H3
        | false => none
      | _ => none) = some q := h
    rw [rd_eq] at h
    simp only [gcode]
    split at h
    · rename_i k first cap hf
      rw [hf]
      split at h
      · rename_i hc
        obtain ⟨rd, H1, h1, h⟩ := henter_ab h
        rw [hnew_eq] at h
        obtain ⟨r, H3, h3, h⟩ := hs _ _ _ _ _ h
        simp only [hc, if_pos, h1]
        rw [ab_new, ← ab_len] at h3
        simp only [HObj.g] at h3
        rw [h3]
        cases r with
        | val g =>
          simp only [ab_len]
          exact hendLoop_ab h
        | panic g => exact ⟨_, T, H3, rfl, h⟩
      · cases h
    · cases h
  | _ => intro T H K q h; cases h
end Go.Proofs.YtcbknpdjdlgljaaGreatDoor
namespace Go.Proofs.YtcbknpdjdlgljaaGreatDoor
open Go.RowKit
set_option linter.unusedSectionVars false
set_option linter.unusedVariables false
variable [Globals]
variable {M : FuncId → Bool}
noncomputable def hmany (P : Program) (T : Tr GV) (H : HS) (l : List ResultVar) : (List GV → HR) → HR :=
  List.rec (motive := fun _ => (List GV → HR) → HR) (fun K => K []) (fun x _ ih K => match x with
    | .tmp t => (crd (.tmp t)).run T fun v => ih fun vs => K (v :: vs)
    | .cell a t => (crd (.tmp a)).run T fun a => hopt (hload P t a H) fun v => fsp v fun v => ih fun vs => K (v :: vs)) l
noncomputable def hresults (P : Program) (fn : Func) (T : Tr GV) (H : HS) (K : GV → HR) : HR := hmany P T H fn.results.toList fun vs => match vs with
  | [v] => K v
  | vs => K (.tup vs)
noncomputable def hbuild (l : List GObj) : Nat → Tr HObj → (Nat → Tr HObj → HR) → HR :=
  List.rec (motive := fun _ => Nat → Tr HObj → (Nat → Tr HObj → HR) → HR) (fun n t K => K n t) (fun x _ ih n t K => Tr.setK (path n) (.o x) t fun t => ih (Nat.succ n) t K) l
noncomputable def hof (σ : GS) (K : HS → HR) : HR := hbuild σ.objs 0 .nil fun n t => K ⟨t, n, σ.lo, σ.ds⟩
noncomputable def hleave (P : Program) (M : FuncId → Bool) (Γ : GEnv) (m : Nat) (fn : Func) (T : Tr GV) (ds : List GDef) : GMode → HS → (GRes → HS → HR) → HR :=
  List.rec (motive := fun _ => GMode → HS → (GRes → HS → HR) → HR)
    (fun u H K => match u with
      | .ret => hresults P fn T H fun v => K (.val v) H
      | .pan g => K (.panic g) H
      | .rcv => none)
    (fun d _ ih u H K => match d with
      | .coll r => match getO H r with
        | some (.o .dfr) => hif (Nat.ble H.lo r) (hset H r (.o .dead) fun H => ih u H K)
        | _ => none
      | .fn k args cap => match gdeferred P M (gcall P M Γ m) m k (args ++ cap) u (ab H) with
        | some (.val _, .rcv, σ') => hof σ' fun H => ih .ret H K
        | some (.val _, .ret, σ') => hof σ' fun H => ih .ret H K
        | some (.val _, .pan g, σ') => hof σ' fun H => ih (.pan g) H K
        | some (.panic g, .ret, σ') => hof σ' fun H => ih (.pan g) H K
        | _ => none) ds
noncomputable def hargs (l : List GV) : Nat → Tr GV → (Tr GV → HR) → HR :=
  List.rec (motive := fun _ => Nat → Tr GV → (Tr GV → HR) → HR) (fun _ T K => K T) (fun g _ ih i T K => Tr.setK (path i) g T fun T => ih (Nat.succ i) T K) l
structure HFn where
  run : HC → Nat → List GV → HS → (GRes → HS → HR) → HR
noncomputable def hbody (P : Program) (M : FuncId → Bool) (Γ : GEnv) (fn : Func) (c : Code) : HFn :=
  ⟨fun call m args H K => hif (decide (args.length ≤ fn.ntmps)) (hargs args 0 .nil fun T =>
        hds H (fun _ => []) fun H0 => (hcode P M fn.ntmps c).run call m none T H0 fun x T' H' => match x with
          | .normal => hleave P M Γ m fn T' H'.ds .ret H' fun r H2 => hds H2 (fun _ => H.ds) (K r)
          | .ret => hleave P M Γ m fn T' H'.ds .ret H' fun r H2 => hds H2 (fun _ => H.ds) (K r)
          | .panic g => hleave P M Γ m fn T' H'.ds (.pan g) H' fun r H2 => hds H2 (fun _ => H.ds) (K r)
          | .exit _ => none)⟩
noncomputable def hfn (P : Program) (M : FuncId → Bool) (Γ : GEnv) (k : FuncId) : HFn :=
  match P.funcs[k]? with
  | none => ⟨fun _ _ _ _ _ => none⟩
  | some fn => match fn.body with
    | none => ⟨fun _ _ _ _ _ => none⟩
    | some c => match M k with
      | false => hbody P M Γ fn c
      | true => ⟨fun call m args H K => flistF fval (args.map GV.pur) fun args => (hbody P M Γ fn c).run call m args ⟨H.t, H.n, H.n, []⟩ fun r _ => match r with
        | .val g => hif (GV.bel H.n g.pur) (fval g.pur fun g => K (.val g) H)
        | .panic g => hif (GV.bel H.n g.pur) (fval g.pur fun g => K (.panic g) H)⟩
noncomputable def hendRound (r : Nat) (ds : List GDef) (jump : Option Code) (H : HS) (K : GRes → HS → HR) : HR :=
  match getO H r with
  | some (.lp _ _ n T ps asg body rd) => hset H r (.lp (if jump.isNone then .ready else .done) jump n T ps asg body rd) fun H => hds H (fun _ => ds) (K (.val (.b jump.isNone)))
  | _ => none
noncomputable def hputs (l : List (Tmp × GV)) : Tr GV → (Tr GV → HR) → HR :=
  List.rec (motive := fun _ => Tr GV → (Tr GV → HR) → HR) (fun T K => K T) (fun p _ ih T K => fval p.2 fun g => Tr.setK (path p.1) g T fun T => ih T K) l
noncomputable def hyld (P : Program) (M : FuncId → Bool) (call : HC) (m r : Nat) (args : List GV) (H : HS) (K : GRes → HS → HR) : HR :=
  match getO H r with
  | some (.lp .ready _ n T ps asg body _) =>
    hif (decide (H.lo ≤ r) && args.length == ps.size && ps.toList.all (fun t => decide (t < n)))
      (hputs (ps.toList.zip args) T fun T => hds H (fun _ => []) fun H0 => (hcode P M n asg).run call m (some r) T H0 fun x T1 H1 => match x with
        | .normal => match getO H1 r with
          | some (.lp .ready pe' n' T' ps' asg' body' rd') => hset H1 r (.lp .busy pe' n' T' ps' asg' body' rd') fun H1 =>
            (hcode P M n body).run call m (some r) T1 H1 fun x _ H2 => match x with
              | .normal => hendRound r H.ds none H2 K
              | .ret => hendRound r H.ds (some .ret) H2 K
              | .exit id => hendRound r H.ds (some (.exit id)) H2 K
              | _ => none
          | _ => none
        | _ => none)
  | _ => none
abbrev HEnv := FuncId → List GV → HS → Option ((GRes → HS → HR) → HR)
noncomputable def hcall (P : Program) (M : FuncId → Bool) (Γ : GEnv) (Δ : HEnv) (m : Nat) : HCall :=
  Nat.rec (motive := fun _ => HCall) (fun _ _ _ _ => none) (fun m ih t args H K => match t with
    | .fn k => match Δ k args H with
      | some f => f K
      | none => (hfn P M Γ k).run ⟨ih, gcall P M Γ m⟩ m args H K
    | .yld r => hyld P M ⟨ih, gcall P M Γ m⟩ m r args H K) m
def EnvQ (Γ : GEnv) (Δ : HEnv) : Prop := ∀ k args H, match Δ k args H with
  | some f => ∀ K q, f K = some q → ∃ r H', envCall Γ (.fn k) args (ab H) = some (r, ab H') ∧ K r H' = some q
  | none => envCall Γ (.fn k) args (ab H) = none
variable {P : Program}
theorem hmany_ab {T : Tr GV} {H : HS} : ∀ (l : List ResultVar) (K : List GV → HR) (q : GRes), hmany P T H l K = some q → ∃ vs, gmany (gres P (fr T) (ab H)) l = some vs ∧ K vs = some q := by
  intro l
  induction l with
  | nil => intro K q h; exact ⟨[], rfl, h⟩
  | cons x l ih =>
    intro K q h
    cases x with
    | tmp t =>
      replace h : (crd (.tmp t)).run T (fun v => hmany P T H l fun vs => K (v :: vs)) = some q := h
      rw [rd_eq] at h
      obtain ⟨vs, h1, h⟩ := ih _ _ h
      exact ⟨_, by simp only [gmany, gres, Option.bind_some, h1, Option.map_some]; rfl, h⟩
    | cell a t =>
      replace h : (crd (.tmp a)).run T (fun a => hopt (hload P t a H) fun v => fsp v fun v => hmany P T H l fun vs => K (v :: vs)) = some q := h
      rw [rd_eq] at h
      obtain ⟨v, h2, h⟩ := hopt_of h
      rw [fsp_eq] at h
      obtain ⟨vs, h1, h⟩ := ih _ _ h
      have h3 : gload P t (fr T a) (ab H) = some v := hload_ab h2
      exact ⟨_, by simp only [gmany, gres, h3, Option.bind_some, h1, Option.map_some], h⟩
theorem hresults_ab {fn : Func} {T : Tr GV} {H : HS} {K : GV → HR} {q : GRes} (h : hresults P fn T H K = some q) : ∃ v, gresults P fn (fr T) (ab H) = some v ∧ K v = some q := by
  obtain ⟨vs, h1, h⟩ := hmany_ab _ _ _ h
  refine ⟨gone vs, by simp only [gresults, h1, Option.map_some], ?_⟩
  split at h
  · exact h
  · rename_i hn
    unfold gone
    split
    · exact absurd rfl (hn _)
    · exact h
theorem hbuild_ab : ∀ (l : List GObj) (n : Nat) (t : Tr HObj) (K : Nat → Tr HObj → HR) (q : GRes), hbuild l n t K = some q →
    ∃ t', (∀ r, r < n → look t' r = look t r) ∧ (∀ r x, l[r]? = some x → look t' (n + r) = .o x) ∧ K (n + l.length) t' = some q := by
  intro l
  induction l with
  | nil => intro n t K q h; exact ⟨t, fun _ _ => rfl, fun r x hx => by simp at hx, h⟩
  | cons x l ih =>
    intro n t K q h
    replace h : Tr.setK (path n) (.o x) t (fun t => hbuild l (n + 1) t K) = some q := h
    rw [Tr.setK_eq] at h
    obtain ⟨t', h1, h2, h⟩ := ih _ _ _ _ h
    refine ⟨t', fun r hr => ?_, fun r y hy => ?_, ?_⟩
    · rw [h1 r (by omega), look_put, if_neg (by omega)]
    · cases r with
      | zero => simp at hy; subst hy; rw [Nat.add_zero, h1 n (by omega), look_put, if_pos rfl]
      | succ r => rw [show n + (r + 1) = n + 1 + r by omega]; exact h2 r y (by simpa using hy)
    · rw [show n + (x :: l).length = n + 1 + l.length by simp; omega]; exact h
theorem hof_ab {σ : GS} {K : HS → HR} {q : GRes} (h : hof σ K = some q) : ∃ H, ab H = σ ∧ K H = some q := by
  obtain ⟨t, _, h2, h⟩ := hbuild_ab _ _ _ _ _ h
  refine ⟨_, ?_, h⟩
  have : (List.range (0 + σ.objs.length)).map (fun r => (look t r).g) = σ.objs := by
    apply List.ext_getElem?
    intro r
    rw [List.getElem?_map]
    by_cases hr : r < σ.objs.length
    · rw [List.getElem?_range (by omega), List.getElem?_eq_getElem hr]
      have := h2 r _ (List.getElem?_eq_getElem hr)
      rw [Nat.zero_add] at this
      simp only [Option.map_some, this, HObj.g]
    · rw [List.getElem?_eq_none (by simp; omega), List.getElem?_eq_none (by omega)]; rfl
  show (⟨_, σ.lo, σ.ds⟩ : GS) = σ
  rw [this]
theorem hleave_ab {Γ : GEnv} {m : Nat} {fn : Func} {T : Tr GV} : ∀ (ds : List GDef) (u : GMode) (H : HS) (K : GRes → HS → HR) (q : GRes), hleave P M Γ m fn T ds u H K = some q →
    ∃ r H', gleave P M (gcall P M Γ m) m fn (fr T) ds u (ab H) = some (r, ab H') ∧ K r H' = some q := by
  intro ds
  induction ds with
  | nil =>
    intro u H K q h
    cases u with
    | ret =>
      obtain ⟨v, h1, h⟩ := hresults_ab (K := fun v => K (.val v) H) h
      exact ⟨_, H, by simp only [gleave, h1, Option.map_some], h⟩
    | pan g => exact ⟨_, H, rfl, h⟩
    | rcv => cases h
  | cons d ds ih =>
    intro u H K q h
    cases d with
    | coll r =>
      replace h : (match getO H r with
        | some (.o .dfr) => hif (Nat.ble H.lo r) (hset H r (.o .dead) fun H => hleave P M Γ m fn T ds u H K)
        | _ => none) = some q := h
      split at h
      · rename_i ho
        obtain ⟨hl, h⟩ := hif_of h
        rw [hset_eq] at h
        have hlo : (ab H).lo = H.lo := rfl
        simp only [gleave, getO_ab, ho, Option.map_some, HObj.g, hlo, if_pos (Nat.le_of_ble_eq_true hl), ab_seto]
        exact ih _ _ _ _ h
      · cases h
    | fn k args cap =>
      replace h : (match gdeferred P M (gcall P M Γ m) m k (args ++ cap) u (ab H) with
        | some (.val _, .rcv, σ') => hof σ' fun H => hleave P M Γ m fn T ds .ret H K
        | some (.val _, .ret, σ') => hof σ' fun H => hleave P M Γ m fn T ds .ret H K
        | some (.val _, .pan g, σ') => hof σ' fun H => hleave P M Γ m fn T ds (.pan g) H K
        | some (.panic g, .ret, σ') => hof σ' fun H => hleave P M Γ m fn T ds (.pan g) H K
        | _ => none) = some q := h
      simp only [gleave]
      split at h
      all_goals first
        | (cases h; done)
        | (rename_i hd
           rw [hd]
           obtain ⟨H1, h1, h2⟩ := hof_ab h
           subst h1
           exact ih _ _ _ _ h2)
theorem hargs_ab : ∀ (l : List GV) (i : Nat) (T : Tr GV) (K : Tr GV → HR) (q : GRes), hargs l i T K = some q → ∃ T', fr T' = (fun t => if i ≤ t then l.getD (t - i) (fr T t) else fr T t) ∧ K T' = some q := by
  intro l
  induction l with
  | nil => intro i T K q h; exact ⟨T, by funext t; simp, h⟩
  | cons g l ih =>
    intro i T K q h
    replace h : Tr.setK (path i) g T (fun T => hargs l (i + 1) T K) = some q := h
    rw [Tr.setK_eq] at h
    obtain ⟨T', h1, h⟩ := ih _ _ _ _ h
    refine ⟨T', ?_, h⟩
    rw [h1]
    funext t
    rw [fr_put]
    simp only [fput]
    by_cases h2 : t = i
    · subst h2; rw [if_neg (by omega), if_pos rfl, if_pos (Nat.le_refl _), Nat.sub_self]; rfl
    · by_cases h3 : i ≤ t
      · rw [if_pos (by omega), if_pos h3, if_neg h2]
        obtain ⟨j, rfl⟩ : ∃ j, t = i + 1 + j := ⟨t - (i + 1), by omega⟩
        rw [show i + 1 + j - (i + 1) = j by omega, show i + 1 + j - i = j + 1 by omega]
        rfl
      · rw [if_neg (by omega), if_neg h2, if_neg h3]
theorem hputs_ab : ∀ (l : List (Tmp × GV)) (T : Tr GV) (K : Tr GV → HR) (q : GRes), hputs l T K = some q → ∃ T', fr T' = l.foldl (fun φ p => fput φ p.1 p.2) (fr T) ∧ K T' = some q := by
  intro l
  induction l with
  | nil => intro T K q h; exact ⟨T, rfl, h⟩
  | cons p l ih =>
    intro T K q h
    replace h : fval p.2 (fun g => Tr.setK (path p.1) g T fun T => hputs l T K) = some q := h
    rw [fval_eq, Tr.setK_eq] at h
    obtain ⟨T', h1, h⟩ := ih _ _ _ h
    exact ⟨T', by rw [h1, fr_put]; rfl, h⟩
theorem hendRound_ab {r : Nat} {ds : List GDef} {jump : Option Code} {H : HS} {K : GRes → HS → HR} {q : GRes} (h : hendRound r ds jump H K = some q) :
    ∃ x H', gendRound r ds jump (ab H) = some (x, ab H') ∧ K x H' = some q := by
  unfold hendRound at h
  unfold gendRound
  split at h
  · rename_i ho
    rw [hset_eq] at h
    refine ⟨_, _, ?_, h⟩
    simp only [getO_ab, ho, Option.map_some, HObj.g]
    rw [show ∀ st n T ps asg body rd, gset (ab H) r (.loop st jump n (fr T) ps asg body rd) = ab (setO H r (.lp st jump n T ps asg body rd)) from fun st n T ps asg body rd => (ab_set H r (.lp st jump n T ps asg body rd)).symm]
    rfl
  · cases h
theorem hyld_ab {call : HC} (hs : HSound call.h call.g) {m r : Nat} {args : List GV} {H : HS} {K : GRes → HS → HR} {q : GRes} (h : hyld P M call m r args H K = some q) :
    ∃ x H', gyld P M call.g m r args (ab H) = some (x, ab H') ∧ K x H' = some q := by
  unfold hyld at h
  unfold gyld
  split at h
  · rename_i ho
    obtain ⟨hc, h⟩ := hif_of h
    have hlo : (ab H).lo = H.lo := rfl
    have hds : (ab H).ds = H.ds := rfl
    simp only [getO_ab, ho, Option.map_some, HObj.g, hlo, hds]
    rw [if_pos hc]
    obtain ⟨T0, h0, h⟩ := hputs_ab _ _ _ _ h
    obtain ⟨x, T1, H1, h1, h⟩ := hcode_ab hs _ _ _ _ _ h
    rw [h0] at h1
    rw [show ({ objs := (ab H).objs, lo := H.lo, ds := [] } : GS) = ab ⟨H.t, H.n, H.lo, []⟩ from rfl, h1]
    split at h
    · simp only [getO_ab]
      split at h
      · rename_i ho1
        rw [hset_eq] at h
        obtain ⟨y, T2, H2, h2, h⟩ := hcode_ab hs _ _ _ _ _ h
        rw [ab_set] at h2
        simp only [ho1, Option.map_some, HObj.g]
        simp only [HObj.g] at h2
        rw [h2]
        cases y with
        | panic g => cases h
        | _ => exact hendRound_ab h
      · cases h
    · cases h
  · cases h
theorem hbody_ab {Γ : GEnv} {m : Nat} {fn : Func} {c : Code} {ih : HCall} (hs : HSound ih (gcall P M Γ m)) {args : List GV} {H : HS} {K : GRes → HS → HR} {q : GRes}
    (h : (hbody P M Γ fn c).run ⟨ih, gcall P M Γ m⟩ m args H K = some q) : ∃ r H', gbody P M (gcall P M Γ m) m fn c args (ab H) = some (r, ab H') ∧ K r H' = some q := by
  unfold hbody at h
  obtain ⟨hn, h⟩ := hif_of h
  obtain ⟨T, h0, h⟩ := hargs_ab _ _ _ _ _ h
  obtain ⟨x, T1, H1, h1, h⟩ := hcode_ab (call := ⟨ih, gcall P M Γ m⟩) hs _ _ _ _ _ h
  have hst : fr T = gstart args := by
    rw [h0]; funext t; simp [gstart, fr_nil]
  rw [hst] at h1
  simp only [gbody, if_pos (of_decide_eq_true hn)]
  rw [show ({ ab H with ds := [] } : GS) = ab ⟨H.t, H.n, H.lo, []⟩ from rfl]
  have hds : (ab H).ds = H.ds := rfl
  rw [h1]
  cases x with
  | exit id => cases h
  | panic g =>
    obtain ⟨r, H2, h2, h⟩ := hleave_ab _ _ _ _ _ h
    refine ⟨r, _, ?_, h⟩
    simp only
    rw [show (ab H1).ds = H1.ds from rfl, h2]; rfl
  | _ =>
    obtain ⟨r, H2, h2, h⟩ := hleave_ab _ _ _ _ _ h
    refine ⟨r, _, ?_, h⟩
    simp only
    rw [show (ab H1).ds = H1.ds from rfl, h2]; rfl
theorem hfn_ab {Γ : GEnv} {k : FuncId} {m : Nat} {ih : HCall} (hs : HSound ih (gcall P M Γ m)) {args : List GV} {H : HS} {K : GRes → HS → HR} {q : GRes} (hk : envCall Γ (.fn k) args (ab H) = none)
    (h : (hfn P M Γ k).run ⟨ih, gcall P M Γ m⟩ m args H K = some q) : ∃ r H', gcall P M Γ (m + 1) (.fn k) args (ab H) = some (r, ab H') ∧ K r H' = some q := by
  unfold hfn at h
  split at h
  · cases h
  · rename_i fn hfn
    split at h
    · cases h
    · rename_i c hb
      split at h
      · rename_i hM
        simp only [gcall, hk, hfn, hb, hM, Bool.false_eq_true, if_false]
        exact hbody_ab hs h
      · rename_i hM
        simp only [flistF_eq fval_eq] at h
        obtain ⟨r, H', h1, h⟩ := hbody_ab hs h
        have e : ab ⟨H.t, H.n, H.n, []⟩ = { objs := (ab H).objs, lo := (ab H).objs.length } := by rw [ab_len]; rfl
        rw [e] at h1
        simp only [gcall, hk, hfn, hb, hM, if_true, gpure, h1]
        cases r with
        | val g =>
          obtain ⟨hbl, h⟩ := hif_of h
          rw [fval_eq] at h
          exact ⟨_, H, by simp only [ab_len, hbl, if_true], h⟩
        | panic g =>
          obtain ⟨hbl, h⟩ := hif_of h
          rw [fval_eq] at h
          exact ⟨_, H, by simp only [ab_len, hbl, if_true], h⟩
theorem hcall_ab {Γ : GEnv} {Δ : HEnv} (hE : EnvQ Γ Δ) : ∀ m : Nat, HSound (hcall P M Γ Δ m) (gcall P M Γ m) := by
  intro m
  induction m with
  | zero => intro t args H K q h; cases h
  | succ m ih =>
    intro t args H K q h
    cases t with
    | fn k =>
      replace h : (match Δ k args H with
        | some f => f K
        | none => (hfn P M Γ k).run ⟨hcall P M Γ Δ m, gcall P M Γ m⟩ m args H K) = some q := h
      have he := hE k args H
      split at h
      · rename_i f hd
        rw [hd] at he
        obtain ⟨r, H', h1, h⟩ := he _ _ h
        exact ⟨r, H', by simp only [gcall, h1], h⟩
      · rename_i hd
        rw [hd] at he
        exact hfn_ab ih he h
    | yld r => exact hyld_ab (call := ⟨hcall P M Γ Δ m, gcall P M Γ m⟩) ih h
end Go.Proofs.YtcbknpdjdlgljaaGreatDoor
namespace Go.Proofs.YtcbknpdjdlgljaaGreatDoor
open Go.RowKit
set_option maxRecDepth 100000
set_option linter.unusedVariables false
theorem shape_of {w : World} {b : Nat} {c : Array Value} {t : TypeId} {fr : Nat × Nat} (h : w.heap[b]? = some (.cells c t fr)) : w.shape? b = some (t, c.size) := by
  unfold World.shape?; rw [h]
theorem lays_cc : Go.Proofs.Lays.n240 Tryz.prog Tryz.lays156_ren := { Tryz.lays156 with }
theorem VRs.arr1 [MaxL] {C : Cx} {g : GV} {vs : Array Value} (h : VRs C [g] vs.toList) : ∃ v, vs = #[v] ∧ VR C g v := by
  obtain ⟨v, vs', e, h1, h2⟩ := h.cons_inv
  have : vs' = [] := List.eq_nil_of_length_eq_zero (by simpa using h2.1)
  subst this
  exact ⟨v, by rw [← Array.toArray_toList (xs := vs), e], h1⟩
theorem VRs.arr2 [MaxL] {C : Cx} {g g' : GV} {vs : Array Value} (h : VRs C [g, g'] vs.toList) : ∃ v v', vs = #[v, v'] ∧ VR C g v ∧ VR C g' v' := by
  obtain ⟨v, vs', e, h1, h2⟩ := h.cons_inv
  obtain ⟨v', vs', rfl, h3, h4⟩ := h2.cons_inv
  have : vs' = [] := List.eq_nil_of_length_eq_zero (by simpa using h4.1)
  subst this
  exact ⟨v, v', by rw [← Array.toArray_toList (xs := vs), e], h1, h3⟩
theorem VR.unit [MaxL] {C : Cx} : VR C (.tup []) (.tuple #[]) := .tup rfl (fun j g u h => by simp at h)
abbrev By := List UInt8
def wOr : By := [111, 114]
def wAnd : By := [97, 110, 100]
def sep (a : Bool) : By := if a then 32 :: (wAnd ++ [32]) else 32 :: (wOr ++ [32])
theorem maxl_cell [MaxL] {C : Cx} {w : World} (hr : Rel C ⟨[], 0, []⟩ w w) : w.cell? ⟨2, 0, none⟩ = some (.int .i64 MaxL.m) := by
  obtain ⟨u, h1, h2⟩ := hr.gl 2 [.i .i64 MaxL.m] 0 (.i .i64 MaxL.m) rfl rfl
  have := h2 C (fun _ _ _ h => h)
  cases this
  exact hr.fxc _ _ _ h1
theorem args_ss [MaxL] {C : Cx} {a b : By} {vs : Array Value} (hv : VRs C [.s a, .s b] vs.toList) : vs = #[.string ⟨a.toArray⟩, .string ⟨b.toArray⟩] := by
  obtain ⟨u, vs', e, hv1, hv2⟩ := hv.cons_inv
  obtain ⟨u2, vs2, e2, hv3, hv4⟩ := hv2.cons_inv
  have : vs2 = [] := List.eq_nil_of_length_eq_zero (by simpa using hv4.1)
  subst this
  cases hv1; cases hv3
  rw [← Array.toArray_toList (xs := vs), e, e2]
theorem c_Index [MaxL] (s sep : By) (hs : s.length < 4000000000) : SC Tryz.prog 111 [.s s, .s sep] [] (.val (.i .i64 (Lib.index s sep))) [] := by
  refine SC.of_calls fun C w vs hr hv => ?_
  obtain rfl := args_ss hv
  refine (Tryz.strings_Index ⟨s.toArray⟩ ⟨sep.toArray⟩ _ w (by simp [ByteArray.size]; omega) (maxl_cell hr)).mono ?_
  rintro e w' ⟨rfl, rfl⟩
  exact ⟨_, rfl, .refl _ _, .i _ _⟩
end Go.Proofs.YtcbknpdjdlgljaaGreatDoor
namespace Go.Proofs.YtcbknpdjdlgljaaGreatDoor
open Go.RowKit Go.Sort
set_option maxRecDepth 100000
set_option linter.unusedVariables false
theorem fact_ccN [MaxL] {σ : GS} {r : Nat} (hlo : σ.lo = 0) (ho : σ.objs[r]? = some (.box 143 [.o (.pointer none), .sl .full []])) :
    Fact Tryz.prog (.fn 107) [.ptr r 0] σ (.val (.tup [])) (gset σ r (.box 143 [.ptr r 0, .sl .full []])) := by
  refine ⟨.gset σ _ (by omega) ho (by simp), rfl, fun w0 C w vs hr hv => ?_⟩
  show Calls _ _ _ _ _
  obtain ⟨v, rfl, hv1⟩ := hv.arr1
  obtain ⟨h0, b, cs, hb, ho', hcs⟩ := hr.obj r _ ho
  obtain ⟨u, u', rfl, hu, hu'⟩ := (BoxV.exact hcs rfl).arr2
  cases hv1 with
  | ptr hb' =>
  rw [hb] at hb'; cases hb'
  cases hu
  have hc0 : w.cell? ⟨b, 0, none⟩ = some (.pointer none) := by simp [World.cell?, ho']
  refine (Any.Builder_copyCheck_fresh lays_cc Tryz.Builder_Extra_156.toX72 b w hc0 (shape_of ho') (by simp [World.frozen?, ho'])).mono ?_
  rintro e w' ⟨rfl, rfl⟩
  refine ⟨C, .refl C, Rel.setObj (r := r) (b := b) hr (List.getElem?_eq_some_iff.1 ho).1 hb _ ⟨h0, b, _, hb, heap_setCell_same w b 0 _ _ _ ho', ?_⟩ rfl rfl rfl (by simp [World.setCell]) (fun k hk => heap_setCell_other w _ k _ hk), _, rfl, .unit⟩
  exact VRs.box (.cons (.ptr hb) (.cons hu' .nil))
theorem fact_cc [MaxL] {σ : GS} {r : Nat} {x : GV} (ho : σ.objs[r]? = some (.box 143 [.ptr r 0, x])) :
    Fact Tryz.prog (.fn 107) [.ptr r 0] σ (.val (.tup [])) σ := by
  refine ⟨.refl σ, rfl, fun w0 C w vs hr hv => ?_⟩
  show Calls _ _ _ _ _
  obtain ⟨v, rfl, hv1⟩ := hv.arr1
  obtain ⟨h0, b, cs, hb, ho', hcs⟩ := hr.obj r _ ho
  obtain ⟨u, u', rfl, hu, hu'⟩ := (BoxV.exact hcs rfl).arr2
  cases hv1 with
  | ptr hb' =>
  rw [hb] at hb'; cases hb'
  cases hu with
  | ptr hb' =>
  rw [hb] at hb'; cases hb'
  have hc0 : w.cell? ⟨b, 0, none⟩ = some (.pointer (some ⟨b, 0, none⟩)) := by simp [World.cell?, ho']
  refine (Any.Builder_copyCheck_used lays_cc Tryz.Builder_Extra_156.toX72 b w hc0).mono ?_
  rintro e w' ⟨rfl, rfl⟩
  exact ⟨C, .refl C, hr, _, rfl, .unit⟩
def gcc (args : List GV) (σ : GS) : Option (GRes × GS) :=
  match args with
  | [.ptr r 0] => match σ.objs[r]? with
    | some (.box t [.o (.pointer none), .sl .full []]) => if σ.lo = 0 ∧ t = 143 then some (.val (.tup []), gset σ r (.box t [.ptr r 0, .sl .full []])) else none
    | some (.box t [.ptr q 0, x]) => if q = r ∧ t = 143 then some (.val (.tup []), σ) else none
    | _ => none
  | _ => none
theorem gcc_fact [MaxL] {args : List GV} {σ σ' : GS} {r : GRes} (h : gcc args σ = some (r, σ')) : Fact Tryz.prog (.fn 107) args σ r σ' := by
  unfold gcc at h
  split at h
  · split at h
    · rename_i ho
      split at h
      · rename_i hc
        obtain ⟨h1, rfl⟩ := hc
        cases h
        exact fact_ccN h1 ho
      · cases h
    · rename_i ho
      split at h
      · rename_i hc
        obtain ⟨rfl, rfl⟩ := hc
        cases h
        exact fact_cc ho
      · cases h
    · cases h
  · cases h
noncomputable def hcc (args : List GV) (H : HS) : Option ((GRes → HS → HR) → HR) :=
  match args with
  | [.ptr r 0] => match getO H r with
    | some (.o (.box t [.o (.pointer none), .sl .full []])) => if H.lo = 0 ∧ t = 143 then some fun K => hset H r (.o (.box t [.ptr r 0, .sl .full []])) (K (.val (.tup []))) else none
    | some (.o (.box t [.ptr q 0, x])) => if q = r ∧ t = 143 then some fun K => K (.val (.tup [])) H else none
    | _ => none
  | _ => none
def HQ (f : Option ((GRes → HS → HR) → HR)) (g : Option (GRes × GS)) : Prop :=
  match f with
  | some f => ∀ K q, f K = some q → ∃ r H', g = some (r, ab H') ∧ K r H' = some q
  | none => g = none
theorem hcc_ab [MaxL] (args : List GV) (H : HS) : HQ (hcc args H) (gcc args (ab H)) := by
  unfold hcc gcc
  split
  · simp only [getO_ab]
    have hlo : (ab H).lo = H.lo := rfl
    split
    · rename_i ho
      simp only [ho, Option.map_some, HObj.g, hlo]
      split
      · intro K q h
        dsimp only at h
        rw [hset_eq] at h
        exact ⟨_, _, by rw [ab_seto], h⟩
      · rfl
    · rename_i ho
      simp only [ho, Option.map_some, HObj.g]
      split
      · intro K q h
        exact ⟨_, _, rfl, h⟩
      · rfl
    · rename_i h1 h2
      show _ = none
      cases ho : getO H _ with
      | none => rfl
      | some y =>
        cases y with
        | lp => rfl
        | o x =>
          simp only [Option.map_some, HObj.g]
          split
          · rename_i e; cases e; exact absurd ho (h1 _)
          · rename_i e; cases e; exact absurd ho (h2 _ _ _)
          · rfl
  · rfl
end Go.Proofs.YtcbknpdjdlgljaaGreatDoor
