/-
  HostNothing: the methods of no program tell nothing: whatever the text, the law answers true: the card, for every input.
-/
import Derived.Test.YtldggonlkafckaaGreatDoorQ18
set_option linter.all false
namespace Go.Proofs.YtldggonlkafckaaGreatDoor
open Go.RowKit
set_option linter.unusedSectionVars false
set_option linter.unusedVariables false
variable [Globals]
def MP (l : List Nat) : FuncId → Bool := fun k => l.any fun i => Nat.beq k i
def isDef (op : Op) : Bool :=
  match op with
  | .defer _ => true
  | _ => false
theorem gdefer_not {ρ : Operand → GV} {op : Op} (h : isDef op = false) : gdefer ρ op = none := by
  unfold gdefer
  split
  · cases h
  · rfl
def eqY (y : Option Bool) (want : Bool) : Bool :=
  match y with
  | some true => want
  | some false => !want
  | none => false
theorem eqY_eq (y : Option Bool) (want : Bool) : (y == some want) = eqY y want := by
  cases y with
  | none => rfl
  | some b => cases b <;> cases want <;> rfl
noncomputable def hwant (ops : Array Oper) (o : Oper) (T : Tr GV) (K : Bool → HR) : HR :=
  match o.guard with
  | none => K true
  | some (j, want) => hopt (gyield ops (fr T) j) fun y => K (eqY y want)
theorem hwant_of {ops : Array Oper} {o : Oper} {T : Tr GV} {K : Bool → HR} {q : GRes} (h : hwant ops o T K = some q) : ∃ b, gwanted ops o (fr T) = some b ∧ K b = some q := by
  unfold hwant at h
  unfold gwanted
  split at h
  · rename_i hg; rw [hg]; exact ⟨true, rfl, h⟩
  · rename_i j want hg
    obtain ⟨y, h1, h⟩ := hopt_of h
    rw [hg]; simp only [h1]
    exact ⟨_, congrArg some (eqY_eq y want), h⟩
structure HRun where
  run : HC → Bool → Tr GV → HS → (GX → Tr GV → HS → HR) → HR
noncomputable def hops1 (P : Program) (n : Nat) (ops : Array Oper) (o : Oper) (ih : HRun) : HRun :=
  match o.dst.all fun d => decide (d < n) with
  | false => ⟨fun _ _ _ _ _ => none⟩
  | true => match isDef o.op with
    | true => ⟨fun call dz T H K => hwant ops o T fun w => Bool.rec (motive := fun _ => HR) (hput T o.dst (.tup []) fun T => ih.run call dz T H K)
        (hif dz (hopt (gdefer (geval (fr T)) o.op) fun d => hput T o.dst (.tup []) fun T => hds H (fun ds => d :: ds) fun H => ih.run call dz T H K)) w⟩
    | false => match o.guard with
      | none => ⟨fun call dz T H K => (coper P o.op).run call T H (fun g H => hput T o.dst g fun T => ih.run call dz T H K) (fun g H => K (.panic g) T H)⟩
      | some _ => ⟨fun call dz T H K => hwant ops o T fun w => Bool.rec (motive := fun _ => HR) (hput T o.dst (.tup []) fun T => ih.run call dz T H K)
        ((coper P o.op).run call T H (fun g H => hput T o.dst g fun T => ih.run call dz T H K) (fun g H => K (.panic g) T H)) w⟩
noncomputable def hops (P : Program) (n : Nat) (ops : Array Oper) (l : List Oper) : HRun :=
  List.rec (motive := fun _ => HRun) ⟨fun _ _ T H K => K .normal T H⟩ (fun o _ ih => hops1 P n ops o ih) l
variable {P : Program}
theorem hops_ab {call : HC} (hs : HSound call.h call.g) {dz : Bool} {n : Nat} {ops : Array Oper} : ∀ (l : List Oper) (T : Tr GV) (H : HS) (K : GX → Tr GV → HS → HR) (q : GRes),
    (hops P n ops l).run call dz T H K = some q → ∃ x T' H', gops P call.g dz n ops l (fr T) (ab H) = some (x, fr T', ab H') ∧ K x T' H' = some q := by
  intro l
  induction l with
  | nil => intro T H K q h; exact ⟨.normal, T, H, rfl, h⟩
  | cons o l ih =>
    intro T H K q h
    replace h : (hops1 P n ops o (hops P n ops l)).run call dz T H K = some q := h
    unfold hops1 at h
    split at h
    · cases h
    · rename_i hd
      split at h
      · rename_i hdf
        simp only at h
        obtain ⟨w, hw, h⟩ := hwant_of h
        simp only [gops, hd, if_pos, hw]
        cases w with
        | false =>
          simp only [hput_eq] at h
          obtain ⟨x, T', H', h1, h⟩ := ih _ _ _ _ h
          rw [fr_putT] at h1
          exact ⟨x, T', H', h1, h⟩
        | true =>
          obtain ⟨hz, h⟩ := hif_of h
          obtain ⟨d, h2, h⟩ := hopt_of h
          simp only [hput_eq, hds_eq] at h
          obtain ⟨x, T', H', h1, h⟩ := ih _ _ _ _ h
          rw [fr_putT] at h1
          refine ⟨x, T', H', ?_, h⟩
          simp only [hz, if_pos, h2]
          exact hz ▸ h1
      · rename_i hdf
        replace h : hwant ops o T (fun w => Bool.rec (motive := fun _ => HR) (hput T o.dst (.tup []) fun T => (hops P n ops l).run call dz T H K)
            ((coper P o.op).run call T H (fun g H => hput T o.dst g fun T => (hops P n ops l).run call dz T H K) (fun g H => K (.panic g) T H)) w) = some q := by
          split at h
          · rename_i hg; unfold hwant; rw [hg]; exact h
          · exact h
        obtain ⟨w, hw, h⟩ := hwant_of h
        have hgd : (if dz = true then gdefer (geval (fr T)) o.op else none) = none := by rw [gdefer_not hdf]; simp
        simp only [gops, hd, if_pos, hw]
        cases w with
        | false =>
          simp only [hput_eq] at h
          obtain ⟨x, T', H', h1, h⟩ := ih _ _ _ _ h
          rw [fr_putT] at h1
          exact ⟨x, T', H', h1, h⟩
        | true =>
          obtain ⟨r, H1, h2, h⟩ := coper_ab hs h
          simp only [hgd, h2]
          rcases h with ⟨g, rfl, h⟩ | ⟨g, rfl, h⟩
          · simp only [hput_eq] at h
            obtain ⟨x, T', H', h1, h⟩ := ih _ _ _ _ h
            rw [fr_putT] at h1
            exact ⟨x, T', H', h1, h⟩
          · exact ⟨_, T, H1, rfl, h⟩
noncomputable def hmask (Mk : List Nat) (H : HS) (K : HS → HR) : HR :=
  List.rec (motive := fun _ => HS → HR) K (fun r _ ih H => hset H r (.o .held) ih) Mk H
noncomputable def maskO (Mk : List Nat) (H : HS) : HS := Mk.foldl (fun H r => setO H r (.o .held)) H
theorem hmask_eq (K : HS → HR) : ∀ (Mk : List Nat) (H : HS), hmask Mk H K = K (maskO Mk H) := by
  intro Mk
  induction Mk with
  | nil => intro H; rfl
  | cons r Mk ih =>
    intro H
    show hset H r (.o .held) (fun H => hmask Mk H K) = _
    rw [hset_eq, ih]; rfl
theorem setO_get (H : HS) (r q : Nat) (x : HObj) : getO (setO H r x) q = (getO H q).map fun y => if q = r then x else y := by
  unfold getO
  have : (setO H r x).n = H.n := rfl
  rw [this]
  cases Nat.blt q H.n with
  | false => rfl
  | true => exact congrArg some (look_put H.t x r q)
theorem maskO_get : ∀ (Mk : List Nat) (H : HS) (q : Nat), getO (maskO Mk H) q = (getO H q).map fun y => if Mk.contains q then .o .held else y := by
  intro Mk
  induction Mk with
  | nil => intro H q; simp [maskO]
  | cons r Mk ih =>
    intro H q
    show getO (maskO Mk (setO H r (.o .held))) q = _
    rw [ih, setO_get]
    cases getO H q with
    | none => rfl
    | some y =>
      simp only [Option.map_some, List.contains_cons]
      by_cases h1 : q = r
      · subst h1; simp
      · have : (q == r) = false := by simpa using h1
        rw [this, if_neg h1]; simp
theorem maskO_ab (Mk : List Nat) (H : HS) : ab (maskO Mk H) = gmask Mk (ab H) := by
  have hf : ∀ (Mk : List Nat) (H : HS), (maskO Mk H).lo = H.lo ∧ (maskO Mk H).ds = H.ds := by
    intro Mk
    induction Mk with
    | nil => exact fun H => ⟨rfl, rfl⟩
    | cons r Mk ih => exact fun H => ih (setO H r _)
  have ho : (ab (maskO Mk H)).objs = (gmask Mk (ab H)).objs := by
    apply List.ext_getElem?
    intro q
    rw [gmask_get, getO_ab, getO_ab, maskO_get]
    cases getO H q with
    | none => rfl
    | some y => simp only [Option.map_some]; split <;> rfl
  show (⟨(ab (maskO Mk H)).objs, (maskO Mk H).lo, (maskO Mk H).ds⟩ : GS) = ⟨(gmask Mk (ab H)).objs, H.lo, H.ds⟩
  rw [ho, (hf Mk H).1, (hf Mk H).2]
noncomputable def hunmask (Mk : List Nat) (H H1 : HS) (K : HS → HR) : HR :=
  List.rec (motive := fun _ => HS → HR) K (fun r _ ih H1 => Option.rec (motive := fun _ => HR) (ih H1) (fun y => hset H1 r y ih) (getO H r)) Mk H1
noncomputable def unmaskO (Mk : List Nat) (H H1 : HS) : HS := Mk.foldl (fun H1 r => Option.rec (motive := fun _ => HS) H1 (fun y => setO H1 r y) (getO H r)) H1
theorem hunmask_eq (H : HS) (K : HS → HR) : ∀ (Mk : List Nat) (H1 : HS), hunmask Mk H H1 K = K (unmaskO Mk H H1) := by
  intro Mk
  induction Mk with
  | nil => intro H1; rfl
  | cons r Mk ih =>
    intro H1
    show Option.rec (motive := fun _ => HR) (hunmask Mk H H1 K) (fun y => hset H1 r y fun H1 => hunmask Mk H H1 K) (getO H r) = K (unmaskO Mk H (Option.rec (motive := fun _ => HS) H1 (fun y => setO H1 r y) (getO H r)))
    cases getO H r with
    | none => exact ih H1
    | some y => simp only [hset_eq]; exact ih _
theorem unmaskO_get (H : HS) : ∀ (Mk : List Nat) (H1 : HS) (q : Nat), getO (unmaskO Mk H H1) q = (getO H1 q).map fun y => if Mk.contains q then (getO H q).getD y else y := by
  intro Mk
  induction Mk with
  | nil => intro H1 q; simp [unmaskO]
  | cons r Mk ih =>
    intro H1 q
    show getO (unmaskO Mk H (Option.rec (motive := fun _ => HS) H1 (fun y => setO H1 r y) (getO H r))) q = _
    rw [ih]
    cases hr : getO H r with
    | none =>
      simp only
      cases getO H1 q with
      | none => rfl
      | some y =>
        simp only [Option.map_some, List.contains_cons]
        by_cases h1 : q = r
        · subst h1; rw [hr]; simp
        · have : (q == r) = false := by simpa using h1
          rw [this]; simp
    | some z =>
      simp only [setO_get]
      cases getO H1 q with
      | none => rfl
      | some y =>
        simp only [Option.map_some, List.contains_cons]
        by_cases h1 : q = r
        · subst h1; rw [hr]; simp
        · have : (q == r) = false := by simpa using h1
          rw [this, if_neg h1]; simp
theorem unmaskO_ab (Mk : List Nat) (H H1 : HS) : ab (unmaskO Mk H H1) = gunmask Mk (ab H) (ab H1) := by
  have hf : ∀ (Mk : List Nat) (H1 : HS), (unmaskO Mk H H1).lo = H1.lo ∧ (unmaskO Mk H H1).ds = H1.ds := by
    intro Mk
    induction Mk with
    | nil => exact fun H1 => ⟨rfl, rfl⟩
    | cons r Mk ih =>
      intro H1
      show (unmaskO Mk H (Option.rec (motive := fun _ => HS) H1 (fun y => setO H1 r y) (getO H r))).lo = _ ∧ (unmaskO Mk H (Option.rec (motive := fun _ => HS) H1 (fun y => setO H1 r y) (getO H r))).ds = _
      rw [(ih _).1, (ih _).2]
      cases getO H r <;> exact ⟨rfl, rfl⟩
  have ho : (ab (unmaskO Mk H H1)).objs = (gunmask Mk (ab H) (ab H1)).objs := by
    apply List.ext_getElem?
    intro q
    rw [gunmask_get, getO_ab, getO_ab, unmaskO_get]
    cases getO H1 q with
    | none => rfl
    | some y =>
      simp only [Option.map_some, List.getD_eq_getElem?_getD, getO_ab]
      split
      · cases getO H q <;> rfl
      · rfl
  show (⟨(ab (unmaskO Mk H H1)).objs, (unmaskO Mk H H1).lo, (unmaskO Mk H H1).ds⟩ : GS) = ⟨(gunmask Mk (ab H) (ab H1)).objs, H1.lo, H1.ds⟩
  rw [ho, (hf Mk H1).1, (hf Mk H1).2]
end Go.Proofs.YtldggonlkafckaaGreatDoor
namespace Go.Proofs.YtldggonlkafckaaGreatDoor
open Go.RowKit
set_option linter.unusedSectionVars false
set_option linter.unusedVariables false
variable [Globals]
variable {M : FuncId → Bool}
noncomputable def hstep (P : Program) (M : FuncId → Bool) (call : HC) (U : Nat → Option Nat) (Mk : Nat → List Nat) (i : Nat) (o : Oper) (T : Tr GV) (H : HS) (K : GV → HS → HR) : HR :=
  match opClass M o.op with
  | 0 => (coper P o.op).run call T H K (fun _ _ => none)
  | 1 => hif (decide (gtarget (geval (fr T)) o.op = U i ∨ U i = some unk)) ((coper P o.op).run call T H K (fun _ _ => none))
  | 2 => hif (decide (gtarget (geval (fr T)) o.op = U i)) ((coper P o.op).run call T H K (fun _ _ => none))
  | 3 => hopt (gnewop P (geval (fr T)) o.op) fun f => hopt (U i) fun r => match getO H r with
    | some (.o .free) => hif (decide (H.lo ≤ r)) (hset H r (.o f.2) (K (f.1 r)))
    | _ => none
  | 4 => hmask (Mk i) H fun H1 => (coper P o.op).run call T H1 (fun g H2 => hunmask (Mk i) H H2 (K g)) (fun _ _ => none)
  | _ => none
noncomputable def hsteps (P : Program) (M : FuncId → Bool) (call : HC) (U : Nat → Option Nat) (Mk : Nat → List Nat) (n : Nat) (ops : Array Oper) (l : List Oper) : Nat → Tr GV → HS → (Tr GV → HS → HR) → HR :=
  List.rec (motive := fun _ => Nat → Tr GV → HS → (Tr GV → HS → HR) → HR) (fun _ T H K => K T H) (fun o _ ih i T H K =>
    hif (o.dst.all fun d => decide (d < n)) (hwant ops o T fun w => Bool.rec (motive := fun _ => HR) (hput T o.dst (.tup []) fun T => ih (Nat.succ i) T H K)
      (hstep P M call U Mk i o T H fun g H => hput T o.dst g fun T => ih (Nat.succ i) T H K) w)) l
noncomputable def hfree (c : Nat) : HS → (HS → HR) → HR := Nat.rec (motive := fun _ => HS → (HS → HR) → HR) (fun H K => K H) (fun _ ih H K => hnew H (.o .free) fun _ H => ih H K) c
noncomputable def fopt {β : Type} (x : Option Nat) (K : Option Nat → β) : β := Option.rec (motive := fun _ => β) (K none) (fun r => K (some r)) x
theorem fopt_eq {β : Type} (x : Option Nat) (K : Option Nat → β) : fopt x K = K x := by cases x <;> rfl
noncomputable def hdraw2 (P : Program) (M : FuncId → Bool) (n : Nat) (ops : Array Oper) : HRun :=
  ⟨fun call _ T H K => flistF fopt (gtargets P M call.g (H.n + (ops.toList.filter fun o => opClass M o.op == 3).length) (ab H) ops.toList H.n (fr T)) fun U =>
    hfree (ops.toList.filter fun o => opClass M o.op == 3).length H fun H0 =>
      hif (wild M ops (ancs ops.toList []) U H0.n) (hsteps P M call (fun i => U.getD i none) (masks M ops (ancs ops.toList []) U) n ops ops.toList 0 T H0 fun T H => K .normal T H)⟩
noncomputable def hlost {β : Type} (l : List Oper) : Tr GV → (Tr GV → β) → β :=
  List.rec (motive := fun _ => Tr GV → (Tr GV → β) → β) (fun T K => K T) (fun o _ ih T K => match o.dst with
    | some d => Tr.setK (path d) .any T fun T => ih T K
    | none => ih T K) l
noncomputable def hpan (P : Program) (M : FuncId → Bool) (n : Nat) (ops : Array Oper) : HRun :=
  match panCand P M n ops with
  | [p] => match ops[p]? with
    | some op => ⟨fun call _ T H K => (hops P n ops (ops.toList.take p)).run call false T H fun x T1 H1 => match x with
      | .normal => hwant ops op T1 fun w => hif w ((coper P op.op).run call T1 H1 (fun _ _ => none) fun g H2 => hlost ops.toList T fun T' => K (.panic g) T' H2)
      | _ => none⟩
    | none => ⟨fun _ _ _ _ _ => none⟩
  | _ => ⟨fun _ _ _ _ _ => none⟩
noncomputable def hregion (P : Program) (M : FuncId → Bool) (n id : Nat) (ops : Array Oper) (draw : Bool) : HRun :=
  match draw with
  | true => match M (rkey id ops) with
   | true => hpan P M n ops
   | false => match calm M ops with
    | true => ⟨fun call _ T H K => (hops P n ops ops.toList).run call false T H fun x T H => match x with
      | .normal => K .normal T H
      | _ => none⟩
    | false => hdraw2 P M n ops
  | false => hops P n ops ops.toList
variable {P : Program}
theorem hval_of {call : HC} (hs : HSound call.h call.g) {o : Oper} {T : Tr GV} {H : HS} {K : GV → HS → HR} {q : GRes} (h : (coper P o.op).run call T H K (fun _ _ => none) = some q) :
    ∃ g H', gval (goper P call.g o (geval (fr T)) (ab H)) = some (g, ab H') ∧ K g H' = some q := by
  obtain ⟨r, H', h1, h⟩ := coper_ab hs h
  rcases h with ⟨g, rfl, h⟩ | ⟨g, _, h⟩
  · exact ⟨g, H', by rw [h1]; rfl, h⟩
  · cases h
theorem hstep_ab {call : HC} (hs : HSound call.h call.g) {U : Nat → Option Nat} {Mk : Nat → List Nat} {i : Nat} {o : Oper} {T : Tr GV} {H : HS} {K : GV → HS → HR} {q : GRes}
    (h : hstep P M call U Mk i o T H K = some q) : ∃ g H', gstep P M call.g U Mk i o (fr T) (ab H) = some (g, ab H') ∧ K g H' = some q := by
  unfold hstep at h
  unfold gstep
  split at h
  · rename_i hc
    rw [hc]; exact hval_of hs h
  · rename_i hc
    obtain ⟨hd, h⟩ := hif_of h
    rw [hc]
    simp only [if_pos (of_decide_eq_true hd)]
    exact hval_of hs h
  · rename_i hc
    obtain ⟨hd, h⟩ := hif_of h
    rw [hc]
    simp only [if_pos (of_decide_eq_true hd)]
    exact hval_of hs h
  · rename_i hc
    obtain ⟨f, h1, h⟩ := hopt_of h
    obtain ⟨r, h2, h⟩ := hopt_of h
    split at h
    · rename_i ho
      obtain ⟨hd, h⟩ := hif_of h
      rw [hset_eq] at h
      have hlo : (ab H).lo = H.lo := rfl
      rw [hc]
      simp only [h1, h2, getO_ab, ho, Option.map_some, HObj.g, hlo, if_pos (of_decide_eq_true hd), ab_seto]
      exact ⟨_, _, rfl, h⟩
    · cases h
  · rename_i hc
    rw [hmask_eq] at h
    obtain ⟨g, H1, h1, h⟩ := hval_of hs h
    rw [hunmask_eq] at h
    rw [hc]
    simp only
    rw [← maskO_ab, h1]
    simp only [← unmaskO_ab]
    exact ⟨_, _, rfl, h⟩
  · cases h
theorem hsteps_ab {call : HC} (hs : HSound call.h call.g) {U : Nat → Option Nat} {Mk : Nat → List Nat} {n : Nat} {ops : Array Oper} : ∀ (l : List Oper) (i : Nat) (T : Tr GV) (H : HS) (K : Tr GV → HS → HR) (q : GRes),
    hsteps P M call U Mk n ops l i T H K = some q → ∃ T' H', gsteps P M call.g U Mk n ops l i (fr T) (ab H) = some (fr T', ab H') ∧ K T' H' = some q := by
  intro l
  induction l with
  | nil => intro i T H K q h; exact ⟨T, H, rfl, h⟩
  | cons o l ih =>
    intro i T H K q h
    obtain ⟨hd, h⟩ := hif_of h
    obtain ⟨w, hw, h⟩ := hwant_of h
    simp only [gsteps, hd, if_pos, hw]
    cases w with
    | false =>
      replace h : hput T o.dst (.tup []) (fun T => hsteps P M call U Mk n ops l (i + 1) T H K) = some q := h
      rw [hput_eq] at h
      obtain ⟨T', H', h1, h⟩ := ih _ _ _ _ _ h
      rw [fr_putT] at h1
      exact ⟨T', H', h1, h⟩
    | true =>
      obtain ⟨g, H1, h2, h⟩ := hstep_ab hs h
      replace h : hput T o.dst g (fun T => hsteps P M call U Mk n ops l (i + 1) T H1 K) = some q := h
      rw [hput_eq] at h
      obtain ⟨T', H', h1, h⟩ := ih _ _ _ _ _ h
      rw [fr_putT] at h1
      simp only [h2]
      exact ⟨T', H', h1, h⟩
theorem hfree_ab : ∀ (c : Nat) (H : HS) (K : HS → HR) (q : GRes), hfree c H K = some q → ∃ H', ab H' = { ab H with objs := (ab H).objs ++ List.replicate c .free } ∧ K H' = some q := by
  intro c
  induction c with
  | zero => intro H K q h; exact ⟨H, by simp, h⟩
  | succ c ih =>
    intro H K q h
    replace h : hnew H (.o .free) (fun _ H => hfree c H K) = some q := h
    rw [hnew_eq] at h
    obtain ⟨H', h1, h⟩ := ih _ _ _ h
    refine ⟨H', ?_, h⟩
    rw [h1, ← ab_newo]
    simp [gnew, List.replicate_succ]
theorem hdraw2_ab {call : HC} (hs : HSound call.h call.g) {dz : Bool} {n : Nat} {ops : Array Oper} {T : Tr GV} {H : HS} {K : GX → Tr GV → HS → HR} {q : GRes}
    (h : (hdraw2 P M n ops).run call dz T H K = some q) : ∃ x T' H', gdraw2 P M call.g n ops (fr T) (ab H) = some (x, fr T', ab H') ∧ K x T' H' = some q := by
  unfold hdraw2 at h
  simp only [flistF_eq fopt_eq] at h
  obtain ⟨H0, h0, h⟩ := hfree_ab _ _ _ _ h
  obtain ⟨hw, h⟩ := hif_of h
  obtain ⟨T', H', h1, h⟩ := hsteps_ab hs _ _ _ _ _ _ h
  refine ⟨.normal, T', H', ?_, h⟩
  unfold gdraw2
  have hl := ab_len H
  have hn : ((ab H).objs ++ List.replicate (ops.toList.filter fun o => opClass M o.op == 3).length GObj.free).length = H0.n := by rw [← ab_len H0, h0]
  have he : H.n + (ops.toList.filter fun o => opClass M o.op == 3).length = H0.n := by rw [← hn, List.length_append, List.length_replicate, hl]
  rw [he] at hw h1
  simp only [hl, hn]
  rw [if_pos hw]
  rw [h0] at h1
  rw [h1]
  rfl
theorem hlost_ab : ∀ (l : List Oper) (T : Tr GV) (K : Tr GV → HR) (q : GRes), hlost l T K = some q → ∃ T', (∀ t, fr T' t = if (l.any fun o => o.dst == some t) = true then .any else fr T t) ∧ K T' = some q := by
  intro l
  induction l with
  | nil => intro T K q h; exact ⟨T, fun t => by simp, h⟩
  | cons o l ih =>
    intro T K q h
    cases hd : o.dst with
    | none =>
      replace h : (match o.dst with | some d => Tr.setK (path d) .any T fun T => hlost l T K | none => hlost l T K) = some q := h
      rw [hd] at h
      obtain ⟨T', h1, h⟩ := ih _ _ _ h
      exact ⟨T', fun t => by rw [h1 t, List.any_cons, hd]; simp, h⟩
    | some d =>
      replace h : (match o.dst with | some d => Tr.setK (path d) .any T fun T => hlost l T K | none => hlost l T K) = some q := h
      rw [hd] at h
      replace h : Tr.setK (path d) .any T (fun T => hlost l T K) = some q := h
      rw [Tr.setK_eq] at h
      obtain ⟨T', h1, h⟩ := ih _ _ _ h
      refine ⟨T', fun t => ?_, h⟩
      rw [h1 t, List.any_cons, hd, fr_put]
      simp only [fput]
      by_cases ht : t = d
      · subst ht; simp
      · have : (some d == some t) = false := by simp [Ne.symm ht]
        rw [this, if_neg ht]; simp
theorem hpan_ab {call : HC} (hs : HSound call.h call.g) {dz : Bool} {n : Nat} {ops : Array Oper} {T : Tr GV} {H : HS} {K : GX → Tr GV → HS → HR} {q : GRes}
    (h : (hpan P M n ops).run call dz T H K = some q) : ∃ x T' H', gpanD P M call.g n ops (fr T) (ab H) = some (x, fr T', ab H') ∧ K x T' H' = some q := by
  unfold hpan at h
  split at h
  · rename_i p hp
    split at h
    · rename_i op hop
      obtain ⟨x, T1, H1, h1, h⟩ := hops_ab hs _ _ _ _ _ h
      cases x with
      | normal =>
        obtain ⟨w, hw, h⟩ := hwant_of h
        obtain ⟨rfl, h⟩ := hif_of h
        obtain ⟨r, H2, h2, h⟩ := coper_ab hs h
        rcases h with ⟨g, _, h⟩ | ⟨g, rfl, h⟩
        · cases h
        · obtain ⟨T', h3, h⟩ := hlost_ab _ _ _ _ h
          refine ⟨_, T', H2, ?_, h⟩
          have : fr T' = lost ops (fr T) := funext fun t => h3 t
          simp only [gpanD, hp, gpanAt, hop, h1, hw, h2, this]
      | _ => cases h
    · cases h
  · cases h
theorem hregion_ab {call : HC} (hs : HSound call.h call.g) {ro : Option Nat} {n m id : Nat} {ops : Array Oper} {draw : Bool} {T : Tr GV} {H : HS} {K : GX → Tr GV → HS → HR} {q : GRes}
    (h : (hregion P M n id ops draw).run call ro.isNone T H K = some q) : ∃ x T' H', gcode P M call.g ro n m (.region id ops draw) (fr T) (ab H) = some (x, fr T', ab H') ∧ K x T' H' = some q := by
  unfold hregion at h
  simp only [gcode]
  split at h
  · rw [if_pos rfl]
    split at h
    · rename_i hM
      rw [if_pos hM]
      exact hpan_ab hs h
    rename_i hM
    rw [if_neg (by simp [hM])]
    split at h
    · rename_i hc
      obtain ⟨x, T', H', h1, h⟩ := hops_ab hs _ _ _ _ _ h
      split at h
      · refine ⟨.normal, T', H', ?_, h⟩
        rw [if_pos hc]
        simp only [gdraw, hc, if_pos, h1]
      · cases h
    · rename_i hc
      obtain ⟨x, T', H', h1, h⟩ := hdraw2_ab hs h
      refine ⟨x, T', H', ?_, h⟩
      rw [hc, if_neg (by simp), h1]
  · rw [if_neg (by simp)]
    exact hops_ab hs _ _ _ _ _ h
structure HCd where
  run : HC → Nat → Option Nat → Tr GV → HS → (GX → Tr GV → HS → HR) → HR
noncomputable def hloop (m : Nat) (f : Tr GV → HS → (GX → Tr GV → HS → HR) → HR) : Tr GV → HS → (GX → Tr GV → HS → HR) → HR :=
  Nat.rec (motive := fun _ => Tr GV → HS → (GX → Tr GV → HS → HR) → HR) (fun _ _ _ => none) (fun _ ih T H K => f T H fun x T H => match x with
    | .normal => ih T H K
    | x => K x T H) m
noncomputable def henter (ro : Option Nat) (H : HS) (K : Nat → HS → HR) : HR :=
  match ro with
  | none => hnew H (.o .dfr) fun n H => hds H (fun ds => .coll n :: ds) (K n)
  | some r0 => match getO H r0 with
    | some (.lp _ _ _ _ _ _ _ rd) => K rd H
    | _ => none
noncomputable def hendLoop (l : Nat) (T : Tr GV) (H : HS) (K : GX → Tr GV → HS → HR) : HR :=
  hif (Nat.ble H.lo l) (match getO H l with
    | some (.lp .busy _ _ _ _ _ _ _) => none
    | some (.lp _ none _ _ _ _ _ _) => hset H l (.o .dead) (K .normal T)
    | some (.lp _ (some .ret) _ _ _ _ _ _) => hset H l (.o .dead) (K .ret T)
    | some (.lp _ (some (.exit id)) _ _ _ _ _ _) => hset H l (.o .dead) (K (.exit id) T)
    | _ => none)
noncomputable def hcode (P : Program) (M : FuncId → Bool) (n : Nat) (c : Code) : HCd :=
  Code.rec (motive := fun _ => HCd)
    ⟨fun _ _ _ T H K => K .normal T H⟩
    (fun id ops draw => ⟨fun call _ ro T H K => (hregion P M n id ops draw).run call ro.isNone T H K⟩)
    (fun _ _ a b => ⟨fun call m ro T H K => a.run call m ro T H fun x T H => match x with
      | .normal => b.run call m ro T H K
      | x => K x T H⟩)
    (fun c _ _ a b => ⟨fun call m ro T H K => (crd c).run T fun c => match c with
      | .b t => Bool.rec (motive := fun _ => HR) (b.run call m ro T H K) (a.run call m ro T H K) t
      | _ => none⟩)
    (fun id _ c => ⟨fun call m ro T H K => c.run call m ro T H fun x T H => match x with
      | .exit i => Bool.rec (motive := fun _ => HR) (K (.exit i) T H) (K .normal T H) (Nat.beq i id)
      | x => K x T H⟩)
    (fun _ c => ⟨fun call m ro T H K => hloop m (c.run call m ro) T H K⟩)
    (fun f ps asg body _ _ => ⟨fun call m ro T H K => (crd f).run T fun v => match v with
      | .fn (.func k) first cap => match callable P k with
        | true => henter ro H fun rd H1 => hnew H1 (.lp .ready none n T ps asg body rd) fun l H2 => call.h (.fn k) (first ++ .yld l :: cap) H2 fun r H3 => match r with
          | .val _ => hendLoop l T H3 K
          | .panic g => K (.panic g) T H3
        | false => none
      | _ => none⟩)
    (fun id => ⟨fun _ _ _ T H K => K (.exit id) T H⟩)
    (fun _ _ => ⟨fun _ _ _ _ _ _ => none⟩)
    (fun _ => ⟨fun _ _ _ T H K => K .normal T H⟩)
    (fun _ => ⟨fun _ _ _ _ _ _ => none⟩)
    ⟨fun _ _ _ T H K => K .ret T H⟩
    (fun _ => ⟨fun _ _ _ _ _ _ => none⟩)
    c
theorem hloop_ab {f : Tr GV → HS → (GX → Tr GV → HS → HR) → HR} {g : Fr → GS → Option (GX × Fr × GS)} (hf : ∀ T H K q, f T H K = some q → ∃ x T' H', g (fr T) (ab H) = some (x, fr T', ab H') ∧ K x T' H' = some q) :
    ∀ (m : Nat) (T : Tr GV) (H : HS) (K : GX → Tr GV → HS → HR) (q : GRes), hloop m f T H K = some q → ∃ x T' H', gloop m g (fr T) (ab H) = some (x, fr T', ab H') ∧ K x T' H' = some q := by
  intro m
  induction m with
  | zero => intro T H K q h; cases h
  | succ m ih =>
    intro T H K q h
    obtain ⟨x, T1, H1, h1, h⟩ := hf _ _ _ _ h
    simp only [gloop, h1]
    cases x with
    | normal => exact ih _ _ _ _ h
    | _ => exact ⟨_, T1, H1, rfl, h⟩
theorem henter_ab {ro : Option Nat} {H : HS} {K : Nat → HS → HR} {q : GRes} (h : henter ro H K = some q) : ∃ rd H', genter ro (ab H) = some (rd, ab H') ∧ K rd H' = some q := by
  unfold henter at h
  unfold genter
  split at h
  · rw [hnew_eq] at h
    refine ⟨_, _, ?_, h⟩
    rw [ab_newo, ab_len]; rfl
  · rename_i r0
    split at h
    · rename_i ho
      simp only [getO_ab, ho, Option.map_some, HObj.g]
      exact ⟨_, _, rfl, h⟩
    · cases h
theorem hendLoop_ab {l : Nat} {T : Tr GV} {H : HS} {K : GX → Tr GV → HS → HR} {q : GRes} (h : hendLoop l T H K = some q) : ∃ x T' H', gendLoop l (fr T) (ab H) = some (x, fr T', ab H') ∧ K x T' H' = some q := by
  obtain ⟨hl, h⟩ := hif_of h
  have hlo : (ab H).lo = H.lo := rfl
  simp only [gendLoop, hlo, if_pos (Nat.le_of_ble_eq_true hl), getO_ab]
  cases ho : getO H l with
  | none => rw [ho] at h; cases h
  | some y =>
    rw [ho] at h
    cases y with
    | o x => cases h
    | lp st pe n T0 ps asg body rd =>
      have hg : ∀ (x : GX), hset H l (.o .dead) (K x T) = some q → ∃ y T' H', some (x, fr T, gset (ab H) l .dead) = some (y, fr T', ab H') ∧ K y T' H' = some q := fun x hx => by
        rw [hset_eq] at hx
        exact ⟨x, T, _, by rw [ab_seto], hx⟩
      simp only [Option.map_some, HObj.g]
      cases st with
      | busy => cases h
      | ready =>
        cases pe with
        | none => exact hg _ h
        | some c => cases c <;> first | exact hg _ h | (cases h; done)
      | done =>
        cases pe with
        | none => exact hg _ h
        | some c => cases c <;> first | exact hg _ h | (cases h; done)
      | exhausted =>
        cases pe with
        | none => exact hg _ h
        | some c => cases c <;> first | exact hg _ h | (cases h; done)
theorem hcode_ab {call : HC} (hs : HSound call.h call.g) {n m : Nat} {ro : Option Nat} : ∀ (c : Code) (T : Tr GV) (H : HS) (K : GX → Tr GV → HS → HR) (q : GRes),
    (hcode P M n c).run call m ro T H K = some q → ∃ x T' H', gcode P M call.g ro n m c (fr T) (ab H) = some (x, fr T', ab H') ∧ K x T' H' = some q := by
  intro c
  induction c with
  | skip => intro T H K q h; exact ⟨.normal, T, H, rfl, h⟩
  | label l => intro T H K q h; exact ⟨.normal, T, H, rfl, h⟩
  | region id ops draw => intro T H K q h; exact hregion_ab hs h
  | seq a b iha ihb =>
    intro T H K q h
    obtain ⟨x, T1, H1, h1, h⟩ := iha _ _ _ _ h
    simp only [gcode, h1]
    cases x with
    | normal => exact ihb _ _ _ _ h
    | _ => exact ⟨_, T1, H1, rfl, h⟩
  | cond c a b iha ihb =>
    intro T H K q h
    replace h : (crd c).run T (fun c => match c with
      | .b t => Bool.rec (motive := fun _ => HR) ((hcode P M n b).run call m ro T H K) ((hcode P M n a).run call m ro T H K) t
      | _ => none) = some q := h
    rw [rd_eq] at h
    simp only [gcode]
    split at h
    · rename_i t ht
      rw [ht]
      cases t with
      | true => simp only [if_pos]; exact iha _ _ _ _ h
      | false => simp only [Bool.false_eq_true, if_false]; exact ihb _ _ _ _ h
    · cases h
  | block id c ih =>
    intro T H K q h
    obtain ⟨x, T1, H1, h1, h⟩ := ih _ _ _ _ h
    simp only [gcode, h1]
    cases x with
    | exit i =>
      replace h : Bool.rec (motive := fun _ => HR) (K (.exit i) T1 H1) (K .normal T1 H1) (Nat.beq i id) = some q := h
      simp only
      cases hb : Nat.beq i id with
      | true => rw [hb] at h; rw [if_pos (Nat.eq_of_beq_eq_true hb)]; exact ⟨_, T1, H1, rfl, h⟩
      | false =>
        rw [hb] at h
        rw [if_neg (fun e => by subst e; rw [Nat.beq_refl] at hb; cases hb)]
        exact ⟨_, T1, H1, rfl, h⟩
    | _ => exact ⟨_, T1, H1, rfl, h⟩
  | loop c ih =>
    intro T H K q h
    simp only [gcode]
    exact hloop_ab (f := (hcode P M n c).run call m ro) (fun T H K q h => ih T H K q h) m T H K q h
  | exit id => intro T H K q h; exact ⟨.exit id, T, H, rfl, h⟩
  | ret => intro T H K q h; exact ⟨.ret, T, H, rfl, h⟩
  | rangeFunc f ps asg body iha ihb =>
    intro T H K q h
    replace h : (crd f).run T (fun v => match v with
      | .fn (.func k) first cap => match callable P k with
        | true => henter ro H fun rd H1 => hnew H1 (.lp .ready none n T ps asg body rd) fun l H2 => call.h (.fn k) (first ++ .yld l :: cap) H2 fun r H3 => match r with
          | .val _ => hendLoop l T H3 K
          | .panic g => K (.panic g) T H3
        | false => none
      | _ => none) = some q := h
    rw [rd_eq] at h
    simp only [gcode]
    split at h
    · rename_i k first cap hf
      rw [hf]
      split at h
      · rename_i hc
        obtain ⟨rd, H1, h1, h⟩ := henter_ab h
        rw [hnew_eq] at h
        obtain ⟨r, H3, h3, h⟩ := hs _ _ _ _ _ h
        simp only [hc, if_pos, h1]
        rw [ab_new, ← ab_len] at h3
        simp only [HObj.g] at h3
        rw [h3]
        cases r with
        | val g =>
          simp only [ab_len]
          exact hendLoop_ab h
        | panic g => exact ⟨_, T, H3, rfl, h⟩
      · cases h
    · cases h
  | _ => intro T H K q h; cases h
end Go.Proofs.YtldggonlkafckaaGreatDoor
