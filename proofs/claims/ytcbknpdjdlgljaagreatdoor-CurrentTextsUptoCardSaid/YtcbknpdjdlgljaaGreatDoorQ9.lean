/-
  The text of every currencies, and what every text is read as.
-/
import Derived.Test.YtcbknpdjdlgljaaGreatDoorQ8
set_option linter.all false
namespace Go.Proofs.YtcbknpdjdlgljaaGreatDoor
open Go.RowKit
set_option linter.unusedSectionVars false
variable [Globals]
set_option linter.unusedVariables false
section
variable {P : Program} {call : GCall} {M : FuncId → Bool} {w0 : World}
theorem gval_some {x : Option (GRes × GS)} {g : GV} {σ : GS} (h : gval x = some (g, σ)) : x = some (.val g, σ) := by
  unfold gval at h
  split at h
  · cases h; rfl
  · cases h
theorem goper_gop {o : Oper} {ρ : Operand → GV} {σ : GS} (h : opClass M o.op ≠ 4) (h0 : opClass M o.op ≠ 0) (h5 : opClass M o.op ≠ 5) : goper P call o ρ σ = (gop P ρ o.op σ).map fun x => (.val x.1, x.2) := by
  obtain ⟨dst, op, type, pos, after, guard⟩ := o
  simp only at h h0 h5 ⊢
  unfold goper
  split
  · rename_i x hop
    simp only at hop
    subst hop
    exact absurd rfl h
  · rename_i f args ts hop
    simp only at hop
    subst hop
    exfalso
    simp only [opClass] at h h0
    split at h
    · exact h0 (if_pos (by assumption))
    · exact h rfl
  · rename_i hop
    simp only at hop
    subst hop
    exact absurd rfl h
  · rfl
theorem gop_local {ρ : Operand → GV} {op : Op} {σ σ' : GS} {g : GV} (hk : opClass M op = 1) (h : gop P ρ op σ = some (g, σ')) :
    σ' = σ ∧ ∀ τ : GS, (∀ r, gtarget ρ op = some r → τ.objs[r]? = σ.objs[r]?) → gop P ρ op τ = some (g, τ) := by
  have mp : ∀ {x : Option GV} {q : GV × GS}, x.map (fun v => (v, σ)) = some q → x = some q.1 ∧ q.2 = σ := fun hx => by
    rw [Option.map_eq_some_iff] at hx; obtain ⟨a, rfl, rfl⟩ := hx; exact ⟨rfl, rfl⟩
  cases op
  case load t a =>
    simp only [gop, gnewop, gop0] at h ⊢
    obtain ⟨h1, h2⟩ := mp h
    refine ⟨h2, fun τ hτ => ?_⟩
    have e : gload P t (ρ a) τ = gload P t (ρ a) σ := by
      unfold gload
      split
      · rename_i r off ha
        rw [hτ r (by simp [gtarget, ha])]
      · rename_i r off _ _ _ ha
        rw [hτ r (by simp [gtarget, ha])]
      · rfl
      · rfl
      · rfl
    rw [e, h1]; rfl
  case lookup t m k ok =>
    simp only [gop, gnewop, gop0] at h ⊢
    obtain ⟨h1, h2⟩ := mp h
    refine ⟨h2, fun τ hτ => ?_⟩
    have e : glookup P t (ρ m) (ρ k) ok τ = glookup P t (ρ m) (ρ k) ok σ := by
      have hm : ∀ r, ρ m = .mp r → τ.objs[r]? = σ.objs[r]? := fun r hr => hτ r (by simp [gtarget, hr])
      unfold glookup
      revert hm
      generalize ρ m = m'
      intro hm
      cases m' with
      | mp r => simp only [hm r rfl]
      | o v => cases v <;> first | rfl | (rename_i x; cases x <;> rfl)
      | _ => rfl
    rw [e, h1]; rfl
  case call c =>
    obtain ⟨callee, args, ts⟩ := c
    cases callee with
    | builtin b =>
      cases b with
      | len =>
        simp only [gop, gnewop, gop0] at h ⊢
        have ht : gtarget ρ (.call { callee := .builtin .len, args, argTypes := ts }) = match args.toList.map ρ with
          | [.mp r] => some r
          | _ => none := rfl
        rw [ht] at *
        revert h
        generalize args.toList.map ρ = xs
        intro h
        unfold gbuiltin at h ⊢
        split at h
        · rename_i t x _ _
          obtain ⟨h1, h2⟩ := mp h
          refine ⟨h2, fun τ hτ => ?_⟩
          have e : glen P t x τ = glen P t x σ := by
            unfold glen
            cases x with
            | mp r => simp only [hτ r rfl]
            | o v => cases v <;> first | rfl | (rename_i x; cases x <;> rfl)
            | _ => rfl
          rw [e, h1]; rfl
        all_goals first
          | contradiction
          | (cases h; done)
      | _ => simp [opClass, opKind] at hk
    | value f =>
      simp only [opClass] at hk
      split at hk <;> cases hk
    | invoke r m => simp [opClass, opKind] at hk
  all_goals (exfalso; simp only [opClass] at hk; (repeat' split at hk) <;> first | (cases hk; done) | (simp_all; done))
theorem gop_writes {ρ : Operand → GV} {op : Op} {σ σ' : GS} {g : GV} (hk : opClass M op = 2) (h : gop P ρ op σ = some (g, σ')) :
    ∃ r x y, gtarget ρ op = some r ∧ σ.lo ≤ r ∧ σ.objs[r]? = some y ∧ y ≠ .held ∧ σ' = gset σ r x ∧ ∀ τ : GS, τ.lo = σ.lo → τ.objs[r]? = σ.objs[r]? → gop P ρ op τ = some (g, gset τ r x) := by
  have mu : ∀ {x : Option GS} {q : GV × GS}, x.map (fun s => (GV.any, s)) = some q → x = some q.2 ∧ q.1 = .any := fun hx => by
    rw [Option.map_eq_some_iff] at hx; obtain ⟨a, rfl, rfl⟩ := hx; exact ⟨rfl, rfl⟩
  have up : ∀ {t : TypeId} {m k v : GV}, gupdate P t m k v σ = some σ' → ∃ r x y, m = .mp r ∧ σ.lo ≤ r ∧ σ.objs[r]? = some y ∧ y ≠ .held ∧ σ' = gset σ r x ∧
      ∀ τ : GS, τ.lo = σ.lo → τ.objs[r]? = σ.objs[r]? → gupdate P t m k v τ = some (gset τ r x) := by
    intro t m k v hg
    unfold gupdate at hg
    split at hg
    · rename_i r
      split at hg
      · rename_i kt et hmt
        split at hg
        · rename_i d es hd ho
          split at hg
          · rename_i hc
            simp only [Bool.and_eq_true, decide_eq_true_eq] at hc
            have fin : ∀ {x : GObj}, (∀ τ : GS, τ.lo = σ.lo → τ.objs[r]? = σ.objs[r]? → gupdate P t (.mp r) k v τ = some (gset τ r x)) → σ' = gset σ r x → ∃ r' x y, GV.mp r = .mp r' ∧ σ.lo ≤ r' ∧ σ.objs[r']? = some y ∧ y ≠ .held ∧ σ' = gset σ r' x ∧
                ∀ τ : GS, τ.lo = σ.lo → τ.objs[r']? = σ.objs[r']? → gupdate P t (.mp r) k v τ = some (gset τ r' x) := fun h1 h2 =>
              ⟨r, _, _, rfl, hc.1, ho, by simp, h2, h1⟩
            split at hg
            · rename_i i x hf
              cases hg
              refine fin (x := .mp (es.set i (k, v))) (fun τ h1 h2 => ?_) rfl
              unfold gupdate
              simp only [hmt, hd, h2, ho, h1, hf]
              rw [if_pos (by simpa using hc)]
            · rename_i hf
              cases hg
              refine fin (x := .mp (es ++ [(k, v)])) (fun τ h1 h2 => ?_) rfl
              unfold gupdate
              simp only [hmt, hd, h2, ho, h1, hf]
              rw [if_pos (by simpa using hc)]
            · cases hg
          · cases hg
        · rename_i d es bs clk hd ho
          split at hg
          · rename_i hc
            simp only [Bool.and_eq_true, decide_eq_true_eq] at hc
            generalize hF : (if gkey d k = true then gfind d k es 0 else gfindA P kt k es 0) = F at hg
            rcases F with _ | _ | ⟨i, x⟩
            · cases hg
            · cases hg
              refine ⟨r, .mx (es ++ [(k, v)]) (bs ++ [clk]) (clk + 1), _, rfl, hc.1, ho, by simp, rfl, fun τ h1 h2 => ?_⟩
              unfold gupdate
              simp only [hmt, hd, h2, ho, h1, hF]
              rw [if_pos (by simpa using hc)]
            · cases hg
              refine ⟨r, .mx (es.set i (k, v)) bs clk, _, rfl, hc.1, ho, by simp, rfl, fun τ h1 h2 => ?_⟩
              unfold gupdate
              simp only [hmt, hd, h2, ho, h1, hF]
              rw [if_pos (by simpa using hc)]
          · cases hg
        · cases hg
      · cases hg
    · cases hg
  cases op
  case store t a v =>
    simp only [gop, gnewop, gop0] at h ⊢
    obtain ⟨h1, h2⟩ := mu h
    simp only at h1 h2
    subst h2
    have fin : ∀ {r off : Nat} {g : GV}, gtarget ρ (.store t a v) = some r → gstoreAt P t r off g σ = some σ' → ∃ r x y, gtarget ρ (.store t a v) = some r ∧ σ.lo ≤ r ∧ σ.objs[r]? = some y ∧ y ≠ .held ∧ σ' = gset σ r x ∧
        ∀ τ : GS, τ.lo = σ.lo → τ.objs[r]? = σ.objs[r]? → gstoreAt P t r off g τ = some (gset τ r x) := fun hr h1 => by
      unfold gstoreAt at h1
      split at h1
      · rename_i cs ho
        split at h1
        · rename_i hc
          have hc' := hc
          simp only [Bool.and_eq_true, decide_eq_true_eq] at hc'
          refine ⟨_, _, _, hr, hc'.1.1.1, ho, by simp, (Option.some.inj h1).symm, fun τ h3 h4 => ?_⟩
          unfold gstoreAt
          simp only [h4, ho, h3]
          rw [if_pos hc]
        · cases h1
      · cases h1
    unfold gstore at h1
    split at h1
    · rename_i r off ha
      have hr : gtarget ρ (.store t a v) = some r := by simp [gtarget, ha]
      obtain ⟨r', x, y, g1, g2, g3, g4, g5, g6⟩ := fin hr h1
      rw [hr] at g1; cases g1
      exact ⟨r, x, y, hr, g2, g3, g4, g5, fun τ h3 h4 => by unfold gstore; simp only [ha]; rw [g6 τ h3 h4]; rfl⟩
    · rename_i r off e _ _ ha
      have hr : gtarget ρ (.store t a v) = some r := by simp [gtarget, ha]
      split at h1
      · rename_i he
        obtain ⟨r', x, y, g1, g2, g3, g4, g5, g6⟩ := fin hr h1
        rw [hr] at g1; cases g1
        exact ⟨r, x, y, hr, g2, g3, g4, g5, fun τ h3 h4 => by unfold gstore; simp only [ha]; rw [if_pos he, g6 τ h3 h4]; rfl⟩
      · cases h1
    · cases h1
  case mapUpdate t m k v =>
    simp only [gop, gnewop, gop0] at h ⊢
    obtain ⟨h1, h2⟩ := mu h
    simp only at h1 h2
    subst h2
    obtain ⟨r, x, y, e, h3, h4, h5, h6, h7⟩ := up h1
    exact ⟨r, x, y, by simp [gtarget, e], h3, h4, h5, h6, fun τ h8 h9 => by rw [h7 τ h8 h9]; rfl⟩
  case insert t m k v =>
    simp only [gop, gnewop, gop0] at h ⊢
    obtain ⟨h1, h2⟩ := mu h
    simp only at h1 h2
    subst h2
    obtain ⟨r, x, y, e, h3, h4, h5, h6, h7⟩ := up h1
    exact ⟨r, x, y, by simp [gtarget, e], h3, h4, h5, h6, fun τ h8 h9 => by rw [h7 τ h8 h9]; rfl⟩
  case call c =>
    exfalso
    obtain ⟨callee, args, ts⟩ := c
    simp only [opClass] at hk
    (repeat' split at hk) <;> first | (cases hk; done) | (simp_all; done)
  all_goals (exfalso; simp only [opClass] at hk; (repeat' split at hk) <;> first | (cases hk; done) | (simp_all; done))
structure Trace2 (P : Program) (M : FuncId → Bool) (B : Nat → Bool) (call : Nat → GCall) (T : Nat → Option Nat) (Mk : Nat → List Nat) (n : Nat) (ops : Array Oper) (Φ : Nat → Fr) (S : Nat → GS) (G : Nat → GV) : Prop where
  step : ∀ (i : Nat) o, ops[i]? = some o → (o.dst.all fun d => decide (d < n)) = true ∧ Φ (i + 1) = fputo (Φ i) o.dst (G i) ∧
    ((gwanted ops o (Φ i) = some false ∧ G i = .tup [] ∧ S (i + 1) = S i) ∨ (gwanted ops o (Φ i) = some true ∧ B i = false ∧ gstep P M (call i) T Mk i o (Φ i) (S i) = some (G i, S (i + 1))) ∨
      (gwanted ops o (Φ i) = some true ∧ B i = true ∧ S (i + 1) = S i ∧ ∀ τ : GS, τ.lo = (S i).lo → goper P (call i) o (geval (Φ i)) τ = some (.val (G i), τ)))
theorem trace2_of {T : Nat → Option Nat} {Mk : Nat → List Nat} {n : Nat} {ops : Array Oper} : ∀ (l : List Oper) (k : Nat) (φ φ' : Fr) (σ σ' : GS), (∀ j : Nat, l[j]? = ops[k + j]?) → gsteps P M call T Mk n ops l k φ σ = some (φ', σ') →
    ∃ (Φ : Nat → Fr) (S : Nat → GS) (G : Nat → GV), Φ k = φ ∧ S k = σ ∧ Φ (k + l.length) = φ' ∧ S (k + l.length) = σ' ∧
      ∀ (i : Nat) o, k ≤ i → ops[i]? = some o → (o.dst.all fun d => decide (d < n)) = true ∧ Φ (i + 1) = fputo (Φ i) o.dst (G i) ∧
        ((gwanted ops o (Φ i) = some false ∧ G i = .tup [] ∧ S (i + 1) = S i) ∨ (gwanted ops o (Φ i) = some true ∧ gstep P M call T Mk i o (Φ i) (S i) = some (G i, S (i + 1))))
  | [], k, φ, φ', σ, σ', hl, hg => by
    cases hg
    refine ⟨fun _ => φ, fun _ => σ, fun _ => .any, rfl, rfl, rfl, rfl, fun i o hi ho => ?_⟩
    have := hl (i - k)
    rw [show k + (i - k) = i by omega, ho] at this
    simp at this
  | o :: l, k, φ, φ', σ, σ', hl, hg => by
    have ho : ops[k]? = some o := by have := hl 0; simpa using this.symm
    simp only [gsteps] at hg
    split at hg
    · rename_i hd
      have go : ∀ (g : GV) (σ1 : GS), gsteps P M call T Mk n ops l (k + 1) (fputo φ o.dst g) σ1 = some (φ', σ') →
          ((gwanted ops o φ = some false ∧ g = .tup [] ∧ σ1 = σ) ∨ (gwanted ops o φ = some true ∧ gstep P M call T Mk k o φ σ = some (g, σ1))) →
          ∃ (Φ : Nat → Fr) (S : Nat → GS) (G : Nat → GV), Φ k = φ ∧ S k = σ ∧ Φ (k + (o :: l).length) = φ' ∧ S (k + (o :: l).length) = σ' ∧
            ∀ (i : Nat) o, k ≤ i → ops[i]? = some o → (o.dst.all fun d => decide (d < n)) = true ∧ Φ (i + 1) = fputo (Φ i) o.dst (G i) ∧
              ((gwanted ops o (Φ i) = some false ∧ G i = .tup [] ∧ S (i + 1) = S i) ∨ (gwanted ops o (Φ i) = some true ∧ gstep P M call T Mk i o (Φ i) (S i) = some (G i, S (i + 1)))) := by
        intro g σ1 hrest hstep
        obtain ⟨Φ, S, G, e1, e2, e3, e4, e5⟩ := trace2_of l (k + 1) _ φ' σ1 σ' (fun j => by have := hl (j + 1); rw [show k + 1 + j = k + (j + 1) by omega]; simpa using this) hrest
        refine ⟨fun i => if i = k then φ else Φ i, fun i => if i = k then σ else S i, fun i => if i = k then g else G i, if_pos rfl, if_pos rfl, ?_, ?_, fun i o' hi ho' => ?_⟩
        · show (if k + (l.length + 1) = k then φ else Φ (k + (l.length + 1))) = φ'
          rw [if_neg (by omega), show k + (l.length + 1) = k + 1 + l.length by omega]; exact e3
        · show (if k + (l.length + 1) = k then σ else S (k + (l.length + 1))) = σ'
          rw [if_neg (by omega), show k + (l.length + 1) = k + 1 + l.length by omega]; exact e4
        · by_cases hik : i = k
          · subst hik
            rw [ho] at ho'; cases ho'
            simp only [if_true, if_neg (show i + 1 ≠ i by omega), e1, e2]
            exact ⟨hd, trivial, hstep⟩
          · simp only [if_neg hik, if_neg (show i + 1 ≠ k by omega)]
            exact e5 i o' (by omega) ho'
      split at hg
      · rename_i hw
        exact go (.tup []) σ hg (.inl ⟨hw, rfl, rfl⟩)
      · rename_i hw
        split at hg
        · rename_i g σ1 hop
          exact go g σ1 hg (.inr ⟨hw, hop⟩)
        · cases hg
      · cases hg
    · cases hg
end
def wrAt (M : FuncId → Bool) (ops : Array Oper) (T : Nat → Option Nat) (Mk : Nat → List Nat) (i r : Nat) : Bool :=
  match clsAt M ops i with
  | 2 | 3 => T i == some r
  | 4 => !pureAt M ops i && !(Mk i).contains r
  | _ => false
def obL (S : Nat → GS) (W : Nat → Nat → Bool) (L : Array Bool) (r : Nat) : Nat → Option GObj
  | 0 => (S 0).objs[r]?
  | k + 1 => if L.getD k false && W k r then (S (k + 1)).objs[r]? else obL S W L r k
section
variable {P : Program} {call : Nat → GCall} {M : FuncId → Bool} {B : Nat → Bool} {w0 : World} {n : Nat} {ops : Array Oper} {Φ : Nat → Fr} {S : Nat → GS} {G : Nat → GV} {T : Nat → Option Nat} {Mk : Nat → List Nat}
theorem Trace2.put (R : Trace2 P M B call T Mk n ops Φ S G) (i : Nat) (hi : i < ops.size) (t : Nat) : Φ (i + 1) t = if dstOf ops i = some t then G i else Φ i t := by
  have ho : ops[i]? = some (ops[i]'hi) := Array.getElem?_eq_getElem hi
  rw [(R.step i _ ho).2.1, fputo_get, dstOf, ho, Option.bind_some]
theorem frL_at2 (R : Trace2 P M B call T Mk n ops Φ S G) {L : Array Bool} {j t : Nat} (hw : ∀ i, i < ops.size → dstOf ops i = some t → (i < j → L.getD i false = true) ∧ (j ≤ i → L.getD i false = false)) :
    ∀ k, k ≤ ops.size → frL ops G (Φ 0) L k t = Φ (min k j) t
  | 0, _ => by simp [frL]
  | k + 1, hk => by
    have ih := frL_at2 R hw k (by omega)
    have hp := R.put k (by omega) t
    simp only [frL]
    by_cases hd : dstOf ops k = some t
    · obtain ⟨h1, h2⟩ := hw k (by omega) hd
      by_cases hkj : k < j
      · rw [h1 hkj, if_pos rfl, fputo_get, if_pos hd, show min (k + 1) j = k + 1 by omega, hp, if_pos hd]
      · rw [h2 (by omega)]
        simp only [Bool.false_eq_true, if_false]
        rw [ih, show min (k + 1) j = min k j by omega]
    · have e : (if L.getD k false = true then fputo (frL ops G (Φ 0) L k) (dstOf ops k) (G k) else frL ops G (Φ 0) L k) t = frL ops G (Φ 0) L k t := by
        split
        · rw [fputo_get, if_neg hd]
        · rfl
      rw [e, ih]
      by_cases hkj : k < j
      · rw [show min (k + 1) j = k + 1 by omega, show min k j = k by omega, hp, if_neg hd]
      · rw [show min (k + 1) j = min k j by omega]
theorem obL_at {W : Nat → Nat → Bool} {L : Array Bool} {j r : Nat} (hstill : ∀ i, i < ops.size → W i r = false → (S (i + 1)).objs[r]? = (S i).objs[r]?)
    (hw : ∀ i, i < ops.size → W i r = true → (i < j → L.getD i false = true) ∧ (j ≤ i → L.getD i false = false)) : ∀ k, k ≤ ops.size → obL S W L r k = (S (min k j)).objs[r]?
  | 0, _ => by simp [obL]
  | k + 1, hk => by
    have ih := obL_at hstill hw k (by omega)
    simp only [obL]
    cases hW : W k r with
    | true =>
      obtain ⟨h1, h2⟩ := hw k (by omega) hW
      by_cases hkj : k < j
      · rw [h1 hkj, show min (k + 1) j = k + 1 by omega]; rfl
      · rw [h2 (by omega)]
        simp only [Bool.false_and, Bool.false_eq_true, if_false]
        rw [ih, show min (k + 1) j = min k j by omega]
    | false =>
      simp only [Bool.and_false, Bool.false_eq_true, if_false]
      rw [ih]
      by_cases hkj : k < j
      · rw [show min (k + 1) j = k + 1 by omega, show min k j = k by omega, hstill k (by omega) hW]
      · rw [show min (k + 1) j = min k j by omega]
theorem obL_other {W : Nat → Nat → Bool} {L L' : Array Bool} {j r : Nat} (hL : ∀ i, i ≠ j → L'.getD i false = L.getD i false) (hd : W j r = false) : ∀ k, obL S W L' r k = obL S W L r k
  | 0 => rfl
  | k + 1 => by
    simp only [obL]
    rw [obL_other hL hd k]
    by_cases hk : k = j
    · subst hk; rw [hd]; simp
    · rw [hL k hk]
end
end Go.Proofs.YtcbknpdjdlgljaaGreatDoor
namespace Go.Proofs.YtcbknpdjdlgljaaGreatDoor
open Go.RowKit
set_option linter.unusedSectionVars false
variable [Globals]
set_option linter.unusedVariables false
section
variable {P : Program} {call : GCall} {M : FuncId → Bool} {B : Nat → Bool} {w0 : World} {n : Nat} {ops : Array Oper} {T : Nat → Option Nat} {Mk : Nat → List Nat}
theorem opClass_zero {op : Op} (h : opClass M op = 0) : opKind M op = 0 := by
  unfold opClass at h
  split at h <;> first
    | (cases h; done)
    | skip
  split at h
  · assumption
  · cases h
theorem gstep_facts (hcall : CallSound P w0 call) {i : Nat} {o : Oper} {φ : Fr} {σ σ' : GS} {g : GV} (ho : ops[i]? = some o) (hMk : ∀ r ∈ Mk i, r < σ.objs.length) (h : gstep P M call T Mk i o φ σ = some (g, σ')) :
    Keep σ σ' ∧ σ'.ds = σ.ds ∧ ∀ r, wrAt M ops T Mk i r = false → PureCall M call → σ'.objs[r]? = σ.objs[r]? := by
  have hcl : clsAt M ops i = opClass M o.op := by unfold clsAt; rw [ho]
  unfold gstep at h
  split at h
  · rename_i hk
    obtain ⟨e, _⟩ := goper_free (opClass_zero hk) (gval_some h)
    subst e
    exact ⟨.refl _, rfl, fun _ _ _ => rfl⟩
  · rename_i hk
    split at h
    · have h1 := gval_some h
      rw [goper_gop (M := M) (by rw [hk]; decide) (by rw [hk]; decide) (by rw [hk]; decide), Option.map_eq_some_iff] at h1
      obtain ⟨⟨g', s⟩, h2, e⟩ := h1
      cases e
      obtain ⟨e, _⟩ := gop_local hk h2
      subst e
      exact ⟨.refl _, rfl, fun _ _ _ => rfl⟩
    · cases h
  · rename_i hk
    split at h
    · rename_i hT
      have h1 := gval_some h
      rw [goper_gop (M := M) (by rw [hk]; decide) (by rw [hk]; decide) (by rw [hk]; decide), Option.map_eq_some_iff] at h1
      obtain ⟨⟨g', s⟩, h2, e⟩ := h1
      cases e
      obtain ⟨r, x, y, ht, hlo, hy, hne, rfl, _⟩ := gop_writes hk h2
      refine ⟨.gset σ x hlo hy hne, rfl, fun q hq hpu => ?_⟩
      unfold wrAt at hq
      rw [hcl, hk] at hq
      have : q ≠ r := fun e => by subst e; rw [← hT, ht] at hq; simp at hq
      show (σ.objs.set r x)[q]? = _
      rw [List.getElem?_set_ne (Ne.symm this)]
    · cases h
  · rename_i hk
    split at h
    · rename_i f r hf hT
      split at h
      · rename_i hfree
        split at h
        · rename_i hlo
          cases h
          refine ⟨.gset σ _ hlo hfree (by simp), rfl, fun q hq hpu => ?_⟩
          unfold wrAt at hq
          rw [hcl, hk] at hq
          have : q ≠ r := fun e => by subst e; rw [hT] at hq; simp at hq
          show (σ.objs.set r f.2)[q]? = _
          rw [List.getElem?_set_ne (Ne.symm this)]
        · cases h
      · cases h
    · cases h
  · rename_i hk4
    split at h
    · rename_i g' σ1 hg
      cases h
      have hop := gval_some hg
      have hkp := goper_keep hcall hop
      have hds := goper_ds hcall hop
      have held : ∀ r ∈ Mk i, σ1.objs[r]? = some .held := fun r hr => hkp.held r (by
        rw [gmask_get, List.getElem?_eq_getElem (hMk r hr)]; simp only [Option.map_some]; rw [if_pos (by simpa using hr)])
      have inM : ∀ r ∈ Mk i, (gunmask (Mk i) σ σ1).objs[r]? = σ.objs[r]? := fun r hr => by
        rw [gunmask_get, held r hr]; simp only [Option.map_some]
        rw [if_pos (by simpa using hr), List.getD_eq_getElem?_getD, List.getElem?_eq_getElem (hMk r hr), Option.getD_some]
      have notM : ∀ r, ¬ r ∈ Mk i → (gunmask (Mk i) σ σ1).objs[r]? = σ1.objs[r]? := fun r hr => by
        rw [gunmask_get]
        have : ¬ (Mk i).contains r = true := by simpa using hr
        simp only [if_neg this, Option.map_id']
      have notM0 : ∀ r, ¬ r ∈ Mk i → (gmask (Mk i) σ).objs[r]? = σ.objs[r]? := fun r hr => by
        rw [gmask_get]
        have : ¬ (Mk i).contains r = true := by simpa using hr
        simp only [if_neg this, Option.map_id']
      refine ⟨⟨hkp.lo, ?_, fun hl r hr => ?_, fun r hr => ?_⟩, hds, fun r hr hpu => ?_⟩
      · have := hkp.len; rw [gmask_len] at this; rw [gunmask_len]; exact this
      · by_cases hm : r ∈ Mk i
        · exact inM r hm
        · rw [notM r hm, hkp.old (by rw [gmask_len]; exact hl) r hr, notM0 r hm]
      · by_cases hm : r ∈ Mk i
        · rw [inM r hm]; exact hr
        · rw [notM r hm]; exact hkp.held r (by rw [notM0 r hm]; exact hr)
      · unfold wrAt at hr
        rw [hcl, hk4] at hr
        by_cases hpa : pureAt M ops i = true
        · have hkd : opKind M o.op ≠ 2 := by
            unfold pureAt at hpa
            rw [ho] at hpa
            simp only [Bool.and_eq_true, bne_iff_ne] at hpa
            exact hpa.2
          have e := goper_still hpu hkd hop
          by_cases hm : r ∈ Mk i
          · exact inM r hm
          · rw [notM r hm, e, notM0 r hm]
        · rw [Bool.not_eq_true] at hpa
          rw [hpa] at hr
          exact inM r (by simpa using hr)
    · cases h
  · cases h
theorem wild_pair {A : List (List Nat)} {TL : List (Option Nat)} {N : Nat} (h : wildB M B ops A TL N = true) {i j : Nat} {oi oj : Oper} (hi : ops[i]? = some oi) (hj : ops[j]? = some oj) (hij : i < j) :
    i ∈ A.getD j [] ∨ ((B i = true ∨ B j = true ∨ okPair (pureAt M ops i) (pureAt M ops j) (opClass M oi.op) (opClass M oj.op) (TL.getD i none) (TL.getD j none) = true) ∧ oi.apart ops oj = true) := by
  unfold wildB at h
  simp only [Bool.and_eq_true, List.all_eq_true, List.mem_range] at h
  have h1 := h.2 j (Array.getElem?_eq_some_iff.1 hj).1
  simp only [hj, Bool.and_eq_true, List.all_eq_true, List.mem_range] at h1
  have h2 := h1.2 i hij
  simpa only [hi, Bool.or_eq_true, Bool.and_eq_true, List.contains_iff_mem, or_assoc] using h2
theorem wild_edge {A : List (List Nat)} {TL : List (Option Nat)} {N : Nat} (h : wildB M B ops A TL N = true) {j : Nat} {oj : Oper} (hj : ops[j]? = some oj) : ∀ e ∈ oj.after, Region.binds .any e = true → e.on < j := by
  unfold wildB at h
  simp only [Bool.and_eq_true, List.all_eq_true, List.mem_range] at h
  have h1 := h.2 j (Array.getElem?_eq_some_iff.1 hj).1
  simp only [hj, Bool.and_eq_true] at h1
  intro e he hb
  have h2 := (Array.all_eq_true'.1 h1.1.2) e he
  simpa [hb] using h2
theorem wild_T {A : List (List Nat)} {TL : List (Option Nat)} {N : Nat} (h : wildB M B ops A TL N = true) {i r : Nat} (hi : i < ops.size) (hr : TL.getD i none = some r) : r < N ∨ (r = unk ∧ clsAt M ops i = 1) := by
  unfold wildB at h
  simp only [Bool.and_eq_true, List.all_eq_true] at h
  have h1 := h.1.1.1 i (by simpa using hi)
  rw [hr] at h1
  simp only [Bool.or_eq_true, Bool.and_eq_true, decide_eq_true_eq, beq_iff_eq] at h1
  exact h1
theorem wild_N {A : List (List Nat)} {TL : List (Option Nat)} {N : Nat} (h : wildB M B ops A TL N = true) : N ≤ unk := by
  unfold wildB at h
  simp only [Bool.and_eq_true, decide_eq_true_eq] at h
  exact h.1.1.2
theorem wild_B {A : List (List Nat)} {TL : List (Option Nat)} {N : Nat} (h : wildB M B ops A TL N = true) {i : Nat} (hi : i < ops.size) (hb : B i = true) : pureAt M ops i = true := by
  unfold wildB at h
  simp only [Bool.and_eq_true, List.all_eq_true] at h
  have h1 := h.1.2 i (by simpa using hi)
  rw [hb] at h1
  simpa using h1
theorem mem_masks {A : List (List Nat)} {TL : List (Option Nat)} {j r : Nat} : r ∈ masks M ops A TL j ↔ ∃ i, i < ops.size ∧ i ≠ j ∧ loose A i j = true ∧ (bif pureAt M ops j then 2 else 1) ≤ clsAt M ops i ∧ clsAt M ops i ≤ 3 ∧ TL.getD i none = some r ∧ r ≠ unk := by
  unfold masks
  simp only [List.mem_filterMap, List.mem_range]
  constructor
  · rintro ⟨i, hi, h⟩
    split at h
    · rename_i hc
      simp only [Bool.and_eq_true, bne_iff_ne, decide_eq_true_eq] at hc
      exact ⟨i, hi, hc.1.1.1.1, hc.1.1.1.2, hc.1.1.2, hc.1.2, h, fun e => hc.2 (by rw [h, e])⟩
    · cases h
  · rintro ⟨i, hi, h1, h2, h3, h4, h5, h6⟩
    exact ⟨i, hi, by rw [if_pos (by rw [h5]; simp [h1, h2, h3, h4, h6])]; exact h5⟩
theorem no_meet {A : List (List Nat)} {TL : List (Option Nat)} {N i j r : Nat} (hw : wildB M B ops A TL N = true) (hi : i < ops.size) (hj : j < ops.size) (hij : i ≠ j) (hl : loose A i j = true) (hl' : loose A j i = true)
    (hok0 : (B i = true ∨ B j = true ∨ okPair (pureAt M ops i) (pureAt M ops j) (clsAt M ops i) (clsAt M ops j) (TL.getD i none) (TL.getD j none) = true) ∨ (B j = true ∨ B i = true ∨ okPair (pureAt M ops j) (pureAt M ops i) (clsAt M ops j) (clsAt M ops i) (TL.getD j none) (TL.getD i none) = true))
    (hwi : wrAt M ops (fun i => TL.getD i none) (masks M ops A TL) i r = true)
    (hwj : wrAt M ops (fun i => TL.getD i none) (masks M ops A TL) j r = true ∨ (clsAt M ops j = 1 ∧ (TL.getD j none = some r ∨ TL.getD j none = some unk)) ∨ (pureAt M ops j = true ∧ B j = false ∧ ¬ r ∈ masks M ops A TL j)) : False := by
  have hwi' : 2 ≤ clsAt M ops i ∧ clsAt M ops i ≤ 4 := by
    unfold wrAt at hwi
    split at hwi
    · omega
    · omega
    · omega
    · cases hwi
  have p4 : ∀ {q : Nat}, pureAt M ops q = true → clsAt M ops q = 4 := fun {q} h => by
    unfold pureAt at h; unfold clsAt
    split at h
    · rename_i o ho
      simp only [Bool.and_eq_true, beq_iff_eq] at h
      exact h.1
    · cases h
  have np : ∀ {q : Nat}, clsAt M ops q ≠ 4 → pureAt M ops q = false := fun {q} h => by
    cases hp : pureAt M ops q with
    | false => rfl
    | true => exact absurd (p4 hp) h
  have npi : pureAt M ops i = false := by
    cases hp : pureAt M ops i with
    | false => rfl
    | true =>
      have h4 := p4 hp
      unfold wrAt at hwi
      rw [h4, hp] at hwi
      simp at hwi
  have hBi : B i = false := by
    cases hb : B i with
    | false => rfl
    | true => have := wild_B hw hi hb; rw [npi] at this; cases this
  have hBj : B j = false := by
    cases hb : B j with
    | false => rfl
    | true =>
      have hp := wild_B hw hj hb
      rcases hwj with h | ⟨h, _⟩ | ⟨_, h, _⟩
      · unfold wrAt at h; rw [p4 hp, hp] at h; simp at h
      · rw [p4 hp] at h; omega
      · rw [hb] at h; cases h
  have hok : okPair (pureAt M ops i) (pureAt M ops j) (clsAt M ops i) (clsAt M ops j) (TL.getD i none) (TL.getD j none) = true ∨ okPair (pureAt M ops j) (pureAt M ops i) (clsAt M ops j) (clsAt M ops i) (TL.getD j none) (TL.getD i none) = true := by
    rw [hBi, hBj] at hok0
    rcases hok0 with (h | h | h) | (h | h | h) <;> first | (cases h; done) | exact .inl h | exact .inr h
  replace hwj : wrAt M ops (fun i => TL.getD i none) (masks M ops A TL) j r = true ∨ (clsAt M ops j = 1 ∧ (TL.getD j none = some r ∨ TL.getD j none = some unk)) ∨ (pureAt M ops j = true ∧ ¬ r ∈ masks M ops A TL j) := hwj.imp id (fun h => h.imp id fun h => ⟨h.1, h.2.2⟩)
  have nounk : clsAt M ops j = 1 → TL.getD j none ≠ some unk := fun h1 h2 => by
    rcases hok with hok | hok <;> rw [h1, h2, npi] at hok <;> simp only [okPair, Bool.and_eq_true, Bool.or_eq_true, Bool.not_eq_true', decide_eq_true_eq] at hok
    · rcases hok.2 with (h3 | h3) | h3
      · simp at h3
      · omega
      · cases h3
    · rcases hok.1.2 with (h3 | h3) | h3
      · simp at h3
      · omega
      · cases h3
  replace hwj : wrAt M ops (fun i => TL.getD i none) (masks M ops A TL) j r = true ∨ (clsAt M ops j = 1 ∧ TL.getD j none = some r) ∨ (pureAt M ops j = true ∧ ¬ r ∈ masks M ops A TL j) := by
    rcases hwj with h | ⟨h1, h2 | h2⟩ | h
    · exact .inl h
    · exact .inr (.inl ⟨h1, h2⟩)
    · exact absurd h2 (nounk h1)
    · exact .inr (.inr h)
  have ne : ∀ q, q < ops.size → clsAt M ops q ≠ 1 → TL.getD q none = some r → r ≠ unk := fun q hq h1 h2 => by
    have := wild_N hw
    rcases wild_T hw hq h2 with h3 | ⟨_, h3⟩
    · omega
    · exact absurd h3 h1
  have inMi : pureAt M ops i = false → 1 ≤ clsAt M ops j → clsAt M ops j ≤ 3 → TL.getD j none = some r → r ∈ masks M ops A TL i := fun h0 h1 h2 h3 => mem_masks.2 ⟨j, hj, Ne.symm hij, hl', by rw [h0]; exact h1, h2, h3, fun e => by
    by_cases h4 : clsAt M ops j = 1
    · exact nounk h4 (by rw [h3, e])
    · exact ne j hj h4 h3 e⟩
  have inMj : 1 ≤ clsAt M ops i → clsAt M ops i ≤ 3 → TL.getD i none = some r → r ∈ masks M ops A TL j := fun h1 h2 h3 => mem_masks.2 ⟨i, hi, hij, hl, (by cases pureAt M ops j <;> simp only [cond_true, cond_false] <;> omega), h2, h3, ne i hi (by omega) h3⟩
  have tj : clsAt M ops j ≠ 4 → (1 ≤ clsAt M ops j ∧ clsAt M ops j ≤ 3) ∧ TL.getD j none = some r := fun h4 => by
    rcases hwj with hwj | ⟨h1, h2⟩ | ⟨h1, _⟩
    rotate_right
    · exact absurd (p4 h1) h4
    · unfold wrAt at hwj
      split at hwj
      · rename_i h; exact ⟨by omega, by simpa using hwj⟩
      · rename_i h; exact ⟨by omega, by simpa using hwj⟩
      · rename_i h; exact absurd h h4
      · cases hwj
    · exact ⟨by omega, h2⟩
  unfold wrAt at hwi
  split at hwi
  · rename_i hc
    have hti : TL.getD i none = some r := by simpa using hwi
    by_cases h4 : clsAt M ops j = 4
    · have hm := inMj (by omega) (by omega) hti
      rcases hwj with hwj | ⟨h1, _⟩ | ⟨_, h1⟩
      · unfold wrAt at hwj; rw [h4] at hwj; simp [hm] at hwj
      · omega
      · exact h1 hm
    · obtain ⟨⟨h1, h2⟩, h3⟩ := tj h4
      rcases hok with hok | hok <;> rw [hti, h3, hc] at hok <;> (generalize clsAt M ops j = c at *; have : c = 1 ∨ c = 2 ∨ c = 3 := by omega) <;> rcases this with rfl | rfl | rfl <;> simp [okPair] at hok
  · rename_i hc
    have hti : TL.getD i none = some r := by simpa using hwi
    by_cases h4 : clsAt M ops j = 4
    · have hm := inMj (by omega) (by omega) hti
      rcases hwj with hwj | ⟨h1, _⟩ | ⟨_, h1⟩
      · unfold wrAt at hwj; rw [h4] at hwj; simp [hm] at hwj
      · omega
      · exact h1 hm
    · obtain ⟨⟨h1, h2⟩, h3⟩ := tj h4
      rcases hok with hok | hok <;> rw [hti, h3, hc] at hok <;> (generalize clsAt M ops j = c at *; have : c = 1 ∨ c = 2 ∨ c = 3 := by omega) <;> rcases this with rfl | rfl | rfl <;> simp [okPair] at hok
  · rename_i hc
    by_cases h4 : clsAt M ops j = 4
    · rcases hok with hok | hok <;> rw [hc, h4, npi] at hok <;> simp [okPair] at hok
    · obtain ⟨⟨h1, h2⟩, h3⟩ := tj h4
      simp only [Bool.and_eq_true, Bool.not_eq_true'] at hwi
      have hm := inMi hwi.1 h1 h2 h3
      have := hwi.2
      simp [hm] at this
  · cases hwi
theorem Rel.frees {C : Cx} {σ : GS} {w : World} (h : Rel C σ w0 w) : ∀ k : Nat, Rel C { σ with objs := σ.objs ++ List.replicate k .free } w0 w := fun k => by
  refine ⟨h.below, h.fxc, fun r x hx => ?_, fun r hr => h.dom r (by simp at hr; omega), h.new, h.inj, h.sepB, h.sepO, h.fxn, h.gl, h.gs⟩
  have hx' : (σ.objs ++ List.replicate k GObj.free)[r]? = some x := hx
  by_cases hr : r < σ.objs.length
  · rw [List.getElem?_append_left hr] at hx'; exact h.obj r x hx'
  · rw [List.getElem?_append_right (by omega), List.getElem?_replicate] at hx'
    split at hx'
    · cases hx'; exact h.dom r (by omega)
    · cases hx'
end
end Go.Proofs.YtcbknpdjdlgljaaGreatDoor
