/-
  The text of every currencies, and what every text is read as.
-/
import Derived.Test.YtcbknpdjdlgljaaGreatDoorQ10
import Derived.LoopN
import Derived.Recover
import Derived.RangeFuncNested
set_option linter.all false
namespace Go.Proofs.YtcbknpdjdlgljaaGreatDoor
open Go.RowKit
set_option linter.unusedSectionVars false
variable [Globals]
set_option linter.unusedVariables false
def lateA (P : Program) (n : Nat) (o : Oper) : Bool :=
  match o.op, o.guard, o.dst with
  | .alloc t, none, some d => (galloc P t).isSome && decide (d < n)
  | _, _, _ => false
def calmP (P : Program) (M : FuncId → Bool) (n : Nat) (ops : Array Oper) (p : Nat) : Bool :=
  let A := ancs ops.toList []
  (List.range ops.size).all fun j =>
    match ops[j]? with
    | none => true
    | some oj =>
      (oj.after.all fun e => !Region.binds .any e || decide (e.on < j)) &&
      if p < j then (A.getD j []).contains p || (lateA P n oj && (List.range (p + 1)).all fun i => match ops[i]? with | none => true | some oi => oi.apart ops oj) else
      (List.range j).all fun i =>
        match ops[i]? with
        | none => true
        | some oi => (A.getD j []).contains i ||
            ((opKind M oi.op != 2 || opKind M oj.op == 0) && (opKind M oj.op != 2 || opKind M oi.op == 0 || (j == p && opKind M oi.op == 1)) && oi.apart ops oj)
def lost (ops : Array Oper) (φ : Fr) : Fr := fun t => if ops.toList.any (fun o => o.dst == some t) then .any else φ t
section
variable {P : Program} {call : Nat → GCall} {M : FuncId → Bool} {w0 : World} {n : Nat} {ops : Array Oper} {Φ : Nat → Fr} {S : Nat → GS} {G : Nat → GV} {p : Nat}
theorem calmP_pair (hc : calmP P M n ops p = true) {i j : Nat} {oi oj : Oper} (hi : ops[i]? = some oi) (hj : ops[j]? = some oj) (hij : i < j) (hjp : j ≤ p) :
    i ∈ (ancs ops.toList []).getD j [] ∨ ((opKind M oi.op ≠ 2 ∨ opKind M oj.op = 0) ∧ (opKind M oj.op ≠ 2 ∨ opKind M oi.op = 0 ∨ (j = p ∧ opKind M oi.op = 1)) ∧ oi.apart ops oj = true) := by
  unfold calmP at hc
  simp only [List.all_eq_true, List.mem_range] at hc
  have h1 := hc j (Array.getElem?_eq_some_iff.1 hj).1
  simp only [hj, if_neg (show ¬ p < j by omega), Bool.and_eq_true, List.all_eq_true, List.mem_range] at h1
  have h2 := h1.2 i hij
  simp only [hi, Bool.or_eq_true, Bool.and_eq_true, List.contains_iff_mem, bne_iff_ne, beq_iff_eq] at h2
  rcases h2 with h2 | ⟨⟨h2, h3⟩, h4⟩
  · exact .inl h2
  · refine .inr ⟨h2, ?_, h4⟩
    rcases h3 with (h3 | h3) | h3
    · exact .inl h3
    · exact .inr (.inl h3)
    · exact .inr (.inr h3)
theorem calmP_late (hc : calmP P M n ops p = true) {j : Nat} {oj : Oper} (hj : ops[j]? = some oj) (hjp : p < j) : p ∈ (ancs ops.toList []).getD j [] ∨ (lateA P n oj = true ∧ ∀ i oi, i ≤ p → ops[i]? = some oi → oi.apart ops oj = true) := by
  unfold calmP at hc
  simp only [List.all_eq_true, List.mem_range] at hc
  have h1 := hc j (Array.getElem?_eq_some_iff.1 hj).1
  simp only [hj, if_pos hjp, Bool.and_eq_true, Bool.or_eq_true, List.contains_iff_mem, List.all_eq_true, List.mem_range] at h1
  refine h1.2.imp id fun h2 => ⟨h2.1, fun i oi hi ho => ?_⟩
  have h3 := h2.2 i (by omega)
  rwa [ho] at h3
theorem calmP_edge (hc : calmP P M n ops p = true) {j : Nat} {oj : Oper} (hj : ops[j]? = some oj) : ∀ e ∈ oj.after, Region.binds .any e = true → e.on < j := by
  unfold calmP at hc
  simp only [List.all_eq_true, List.mem_range] at hc
  have h1 := hc j (Array.getElem?_eq_some_iff.1 hj).1
  simp only [hj, Bool.and_eq_true] at h1
  intro e he hb
  have h2 := (Array.all_eq_true_iff_forall_mem.1 h1.1) e he
  simpa [hb] using h2
theorem frL_atN {N : Nat} (hp : ∀ i, i < N → ∀ t, Φ (i + 1) t = if dstOf ops i = some t then G i else Φ i t) {L : Array Bool} {j t : Nat} (hw : ∀ i, i < N → dstOf ops i = some t → (i < j → L.getD i false = true) ∧ (j ≤ i → L.getD i false = false)) :
    ∀ k, k ≤ N → frL ops G (Φ 0) L k t = Φ (min k j) t
  | 0, _ => by simp [frL]
  | k + 1, hk => by
    have ih := frL_atN hp hw k (by omega)
    have hp := hp k (by omega) t
    simp only [frL]
    by_cases hd : dstOf ops k = some t
    · obtain ⟨h1, h2⟩ := hw k (by omega) hd
      by_cases hkj : k < j
      · rw [h1 hkj, if_pos rfl, fputo_get, if_pos hd, show min (k + 1) j = k + 1 by omega, hp, if_pos hd]
      · rw [h2 (by omega)]
        simp only [Bool.false_eq_true, if_false]
        rw [ih, show min (k + 1) j = min k j by omega]
    · have e : (if L.getD k false = true then fputo (frL ops G (Φ 0) L k) (dstOf ops k) (G k) else frL ops G (Φ 0) L k) t = frL ops G (Φ 0) L k t := by
        split
        · rw [fputo_get, if_neg hd]
        · rfl
      rw [e, ih]
      by_cases hkj : k < j
      · rw [show min (k + 1) j = k + 1 by omega, show min k j = k by omega, hp, if_neg hd]
      · rw [show min (k + 1) j = min k j by omega]
theorem hpL_atN {N : Nat} {W : Nat → Bool} {L : Array Bool} {j : Nat} (hstill : ∀ i, i < N → W i = false → S (i + 1) = S i)
    (hw : ∀ i, i < N → W i = true → (i < j → L.getD i false = true) ∧ (j ≤ i → L.getD i false = false)) : ∀ k, k ≤ N → hpL S W L k = S (min k j)
  | 0, _ => by simp [hpL]
  | k + 1, hk => by
    have ih := hpL_atN hstill hw k (by omega)
    simp only [hpL]
    cases hW : W k with
    | true =>
      obtain ⟨h1, h2⟩ := hw k (by omega) hW
      by_cases hkj : k < j
      · rw [h1 hkj, show min (k + 1) j = k + 1 by omega]; rfl
      · rw [h2 (by omega)]
        simp only [Bool.false_and, Bool.false_eq_true, if_false]
        rw [ih, show min (k + 1) j = min k j by omega]
    | false =>
      simp only [Bool.and_false, Bool.false_eq_true, if_false]
      rw [ih]
      by_cases hkj : k < j
      · rw [show min (k + 1) j = k + 1 by omega, show min k j = k by omega, hstill k (by omega) hW]
      · rw [show min (k + 1) j = min k j by omega]
theorem frL_lost {L : Array Bool} {t : Nat} : ∀ k, k ≤ ops.size → (ops.toList.any (fun o => o.dst == some t)) = false → frL ops G (Φ 0) L k t = Φ 0 t
  | 0, _, _ => rfl
  | k + 1, hk, h => by
    have ih := frL_lost (L := L) k (by omega) h
    have hd : dstOf ops k ≠ some t := fun e => by
      have ho : ops[k]? = some (ops[k]'(by omega)) := Array.getElem?_eq_getElem (by omega)
      rw [dstOf, ho, Option.bind_some] at e
      have := List.any_eq_false.1 h (ops[k]'(by omega)) (by simp)
      simp [e] at this
    simp only [frL]
    split
    · rw [fputo_get, if_neg hd]; exact ih
    · exact ih
theorem goper_nopanic {call : GCall} {o : Oper} {ρ : Operand → GV} {σ σ' : GS} {g : GV} (hk : opKind M o.op = 0) (h : goper P call o ρ σ = some (.panic g, σ')) : False := by
  obtain ⟨dst, op, type, pos, after, guard⟩ := o
  simp only at hk
  unfold goper at h
  cases op
  case panic x => simp [opKind] at hk
  case call c =>
    obtain ⟨callee, args, ts⟩ := c
    cases callee with
    | value f => cases f <;> simp [opKind] at hk <;> (split at hk <;> simp at hk)
    | invoke r m => simp [opKind] at hk
    | builtin b => simp only [Option.map_eq_some_iff] at h; obtain ⟨_, _, h⟩ := h; cases h
  all_goals (simp only [Option.map_eq_some_iff] at h; obtain ⟨_, _, h⟩ := h; cases h)
theorem drawp_sound (hm : P.follows .mixedOrders = true) (hcall : ∀ i, CallSound P w0 (call i)) (hpure : ∀ i, PureCall M (call i)) {ro : Option Nat} {C : Cx} {φ : Fr} {σ σ' : GS} {id : Nat} {Q : Exit → Act → World → Prop} {a : Act} {w : World} {op : Oper} {g : GV}
    (hcalm : calmP P M n ops p = true) (hop : ops[p]? = some op)
    (T : ∀ (i : Nat) o, i < p → ops[i]? = some o → (o.dst.all fun d => decide (d < n)) = true ∧ Φ (i + 1) = fputo (Φ i) o.dst (G i) ∧
      ((gwanted ops o (Φ i) = some false ∧ G i = .tup [] ∧ S (i + 1) = S i) ∨ (gwanted ops o (Φ i) = some true ∧ goper P (call i) o (geval (Φ i)) (S i) = some (.val (G i), S (i + 1)))))
    (hwp : gwanted ops op (Φ p) = some true) (hpan : goper P (call p) op (geval (Φ p)) (S p) = some (.panic g, σ')) (e1 : Φ 0 = φ) (e2 : S 0 = σ)
    (hr : Rel C σ w0 w) (hf : FRel C φ a) (hn : a.tmps.size = n) (hd0 : DRel C σ.ds a.defers) (hq : QOk w0 C Q n (.panic g) (lost ops φ) σ') : (Code.region id ops true).wpIn (FW ro) 0 P Q a w := by
  have hps : p < ops.size := (Array.getElem?_eq_some_iff.1 hop).1
  have hput : ∀ i, i < p → ∀ t, Φ (i + 1) t = if dstOf ops i = some t then G i else Φ i t := fun i hi t => by
    have ho : ops[i]? = some (ops[i]'(by omega)) := Array.getElem?_eq_getElem (by omega)
    rw [(T i _ hi ho).2.1, fputo_get, dstOf, ho, Option.bind_some]
  let W : Nat → Bool := fun i => match ops[i]? with
    | some o => opKind M o.op == 2
    | none => false
  have hW : ∀ i o, ops[i]? = some o → (W i = (opKind M o.op == 2)) := fun i o ho => by simp only [W, ho]
  have hstill : ∀ i, i < p → W i = false → S (i + 1) = S i := fun i hi hw => by
    have ho : ops[i]? = some (ops[i]'(by omega)) := Array.getElem?_eq_getElem (by omega)
    rcases (T i _ hi ho).2.2 with ⟨_, _, h⟩ | ⟨_, h⟩
    · exact h
    · rw [hW i _ ho] at hw
      exact goper_still (hpure _) (by simpa using hw) h
  have hds : σ'.ds = σ.ds := by
    have hall : ∀ k, k ≤ p → (S k).ds = (S 0).ds := fun k => by
      induction k with
      | zero => intro _; rfl
      | succ k ih =>
        intro hk
        have ho : ops[k]? = some (ops[k]'(by omega)) := Array.getElem?_eq_getElem (by omega)
        rw [← ih (by omega)]
        rcases (T k _ (by omega) ho).2.2 with ⟨_, _, h⟩ | ⟨_, h⟩
        · rw [h]
        · exact goper_ds (hcall _) h
    rw [goper_ds (hcall _) hpan, ← e2]; exact hall _ (Nat.le_refl _)
  have ahead : ∀ (L : Array Bool), Closed ops L → ∀ (i j : Nat) oi oj, ops[i]? = some oi → ops[j]? = some oj → i < j → i ∈ (ancs ops.toList []).getD j [] →
      ((∀ e ∈ oj.after, Region.binds .any e = true → L.getD e.on false = true) → L.getD i false = true) ∧ (L.getD i false = false → L.getD j false = false) := fun L hc i j oi oj hi hj hij hanc => by
    refine ⟨fun hready => anc_done hc j oj hj hready i hanc, fun hni => ?_⟩
    cases hjl : L.getD j false with
    | false => rfl
    | true =>
      have := anc_done hc j oj hj (fun e he hb => hc j oj hj hjl e he hb) i hanc
      rw [hni] at this; cases this
  obtain ⟨lateD, hlateD⟩ : ∃ f : Nat → Bool, f = fun t => (List.range ops.size).any fun j => decide (p < j) && (match ops[j]? with | some oj => !((ancs ops.toList []).getD j []).contains p && (oj.dst == some t) | none => false) := ⟨_, rfl⟩
  have late_of : ∀ (j : Nat) oj t, ops[j]? = some oj → p < j → ¬ p ∈ (ancs ops.toList []).getD j [] → oj.dst = some t → lateD t = true := fun j oj t hj hpj hn hd => by
    rw [hlateD]
    simp only [List.any_eq_true, List.mem_range]
    exact ⟨j, (Array.getElem?_eq_some_iff.1 hj).1, by simp only [hpj, hj, hd]; simpa [List.getD_eq_getElem?_getD] using hn⟩
  have late_no : ∀ (i : Nat) oi t, i ≤ p → ops[i]? = some oi → (t ∈ oi.looksAt ops ∨ oi.dst = some t) → lateD t = false := fun i oi t hi ho ht => by
    cases hb : lateD t with
    | false => rfl
    | true =>
      rw [hlateD] at hb
      simp only [List.any_eq_true, List.mem_range, Bool.and_eq_true, decide_eq_true_eq] at hb
      obtain ⟨j, hj, hpj, hb⟩ := hb
      have hoj : ops[j]? = some (ops[j]'hj) := Array.getElem?_eq_getElem hj
      rw [hoj] at hb
      simp only [Bool.and_eq_true, Bool.not_eq_true', beq_iff_eq] at hb
      rcases calmP_late hcalm hoj hpj with h1 | ⟨_, h1⟩
      · rw [List.contains_iff_mem.2 h1] at hb; cases hb.1
      · obtain ⟨a1, a2, a3⟩ := Oper.apart_spec (h1 i oi hi ho)
        rcases ht with ht | ht
        · exact absurd ht (a3 t hb.2)
        · exact absurd hb.2 (a2 t ht)
  obtain ⟨F, hF⟩ : ∃ F : Array Bool → Fr, F = fun L t => if lateD t = true then .any else frL ops G (Φ 0) L p t := ⟨_, rfl⟩
  have hFn : ∀ L t, lateD t = false → F L t = frL ops G (Φ 0) L p t := fun L t h => by rw [hF]; simp [h]
  have key : ∀ (fuel : Nat) (L : Array Bool) (D : Cx) (a' : Act) (w' : World), L.size = ops.size → Closed ops L → L.getD p false = false → cntL L ops.size ≤ fuel → C.le D → Rel D (hpL S W L p) w0 w' →
      FRel D (F L) a' → a'.tmps.size = n → a'.defers = a.defers → wpAnyIn (FW ro) 0 P .any ops Q fuel L a' w' := by
    intro fuel
    induction fuel with
    | zero =>
      intro L D a' w' hLs hc hpn hcnt hl hrel hfr hna hda
      have hall := cntL_zero (L := L) ops.size (by omega) p hps
      rw [hpn] at hall; cases hall
    | succ fuel ih =>
      intro L D a' w' hLs hc hpn hcnt hl hrel hfr hna hda
      refine ⟨fun hend => ?_, fun j hj => ?_⟩
      ·
        have hall : ∀ i, i < ops.size → L.getD i false = true := by
          intro i
          induction i using Nat.strongRecOn with
          | _ i ihi =>
            intro hi
            cases hb : L.getD i false with
            | true => rfl
            | false =>
              have ho : ops[i]? = some (ops[i]'hi) := Array.getElem?_eq_getElem hi
              have : i ∈ Region.ready .any ops L := mem_ready.2 ⟨by
                rw [Array.getD_eq_getD_getElem?] at hb ⊢
                rw [Array.getElem?_eq_getElem (by omega : i < L.size)] at hb ⊢
                simpa using hb, _, ho, fun e he hbe => by
                  have := calmP_edge hcalm ho e he hbe
                  exact ihi e.on this (by omega)⟩
              rw [hend] at this; cases this
        have := hall p hps
        rw [hpn] at this; cases this
      · obtain ⟨hj0, o, ho, hready⟩ := mem_ready.1 hj
        have hjs := (Array.getElem?_eq_some_iff.1 ho).1
        have hjn : L.getD j false = false := by
          rw [Array.getD_eq_getD_getElem?] at hj0 ⊢
          rw [Array.getElem?_eq_getElem (by omega : j < L.size)] at hj0 ⊢
          simpa using hj0
        rcases Nat.lt_or_ge p j with hlt | hjp
        ·
          have hna' : ¬ p ∈ (ancs ops.toList []).getD j [] := fun h => by
            have := (ahead L hc p j _ _ hop ho hlt h).1 hready
            rw [hpn] at this; cases this
          have hla := ((calmP_late hcalm ho hlt).resolve_left hna').1
          let L' := L.setIfInBounds j true
          have hL'o : ∀ i, i ≠ j → L'.getD i false = L.getD i false := fun i hi => getD_set_ne false (Ne.symm hi)
          have hL'j : L'.getD j false = true := by
            simp [L', Array.getD_eq_getD_getElem?, show j < L.size by omega]
          have hc' : Closed ops L' := fun k ok hk hkl e he hb => by
            by_cases hkj : k = j
            · subst hkj; rw [ho] at hk; cases hk
              exact getD_set_true (hready e he hb)
            · rw [hL'o k hkj] at hkl
              exact getD_set_true (hc k ok hk hkl e he hb)
          have hcnt' : cntL L' ops.size ≤ fuel := by
            have := (cntL_le hL'o hL'j hjn ops.size).2 hjs
            omega
          have hheap' : ∀ k, k ≤ p → hpL S W L' k = hpL S W L k := fun k => by
            induction k with
            | zero => intro _; rfl
            | succ k ihk => intro hk; simp only [hpL]; rw [hL'o k (by omega), ihk (by omega)]
          unfold lateA at hla
          split at hla
          · rename_i t0 d hopA hgd hdst
            simp only [Bool.and_eq_true, decide_eq_true_eq] at hla
            obtain ⟨hga, hdn⟩ := hla
            unfold wpOpIn
            simp only [ho]
            rw [gwanted_sound hfr (show gwanted ops o (F L) = some true by unfold gwanted; rw [hgd])]
            simp only [if_true]
            obtain ⟨v0, hv0⟩ : ∃ v0, (zeroValue t0).run P w' = .ok v0 w' := by
              unfold galloc at hga
              cases hz : gzero P t0 with
              | none => rw [hz] at hga; cases hga
              | some z => obtain ⟨v0, h1, _⟩ := gzero_run hz w'; exact ⟨v0, h1⟩
            have hrun : (execOp a'.eval o).run P w' = .ok (.value (.pointer (some ⟨w'.heap.size, 0, none⟩))) (w'.alloc (.cells v0.cells t0)) := by
              unfold execOp
              rw [hopA]
              simp [Instr.alloc, newVar, newRow, hv0]
            refine ⟨fun f _ => trivial, ?_⟩
            rw [Oper.semAt_eq _ _ _ (fun c e => by rw [hopA] at e; cases e), hrun]
            have hw2 : Rel D (hpL S W L' p) w0 (w'.alloc (.cells v0.cells t0)) := by
              rw [hheap' p (Nat.le_refl _)]
              exact hrel.world rfl rfl rfl (by simp) (fun k hk => Below.heap_alloc w' _ k hk)
            obtain ⟨q1, q2, q3⟩ := hfr.put (d := o.dst) (g := .any) (v := .pointer (some ⟨w'.heap.size, 0, none⟩)) (.any _) hna (n := n) (by rw [hdst]; simpa using hdn)
            refine ih L' D _ _ (by simp [L', hLs]) hc' ((hL'o p (by omega)).trans hpn) hcnt' hl hw2 (fun t => ?_) q2 (q3.trans hda)
            have hq1 := q1 t
            rw [fputo_get] at hq1
            by_cases ht : lateD t = true
            · rw [hF]; simp only [ht, if_true]; exact .any _
            · have ht' : lateD t = false := by simpa using ht
              rw [hFn L' t ht', frL_other hL'o (by rw [dstOf, ho, Option.bind_some]; exact fun e => ht (late_of j o t ho hlt hna' e)), ← hFn L t ht']
              rwa [if_neg (fun e => ht (late_of j o t ho hlt hna' e))] at hq1
          · cases hla
        have names : ∀ t, (t ∈ o.looksAt ops ∨ o.dst = some t) → ∀ i, i < p → dstOf ops i = some t → (i < j → L.getD i false = true) ∧ (j ≤ i → L.getD i false = false) := fun t ht i hi hd => by
          have hoi : ops[i]? = some (ops[i]'(by omega)) := Array.getElem?_eq_getElem (by omega)
          have hdi : (ops[i]'(by omega)).dst = some t := by rw [dstOf, hoi, Option.bind_some] at hd; exact hd
          refine ⟨fun hij => ?_, fun hij => ?_⟩
          · rcases calmP_pair hcalm hoi ho hij hjp with h1 | ⟨_, _, h1⟩
            · exact (ahead L hc i j _ _ hoi ho hij h1).1 hready
            · obtain ⟨a1, a2, a3⟩ := Oper.apart_spec h1
              rcases ht with ht | ht
              · exact absurd ht (a1 t hdi)
              · exact absurd ht (a2 t hdi)
          · by_cases hij2 : i = j
            · subst hij2; exact hjn
            · rcases calmP_pair hcalm ho hoi (by omega) (by omega) with h1 | ⟨_, _, h1⟩
              · exact (ahead L hc j i _ _ ho hoi (by omega) h1).2 hjn
              · obtain ⟨a1, a2, a3⟩ := Oper.apart_spec h1
                rcases ht with ht | ht
                · exact absurd ht (a3 t hdi)
                · exact absurd hdi (a2 t ht)
        have hframe : ∀ t, (t ∈ o.looksAt ops ∨ o.dst = some t) → F L t = Φ j t := fun t ht => by
          rw [hFn L t (late_no j o t hjp ho ht), frL_atN hput (names t ht) p (Nat.le_refl _), show min p j = j by omega]
        have hheap : opKind M o.op ≠ 0 → hpL S W L p = S j := fun hk => by
          rw [hpL_atN hstill (j := j) (fun i hi hWi => ?_) p (Nat.le_refl _), show min p j = j by omega]
          have hoi : ops[i]? = some (ops[i]'(by omega)) := Array.getElem?_eq_getElem (by omega)
          rw [hW i _ hoi] at hWi
          have hWi : opKind M (ops[i]'(by omega)).op = 2 := by simpa using hWi
          refine ⟨fun hij => ?_, fun hij => ?_⟩
          · rcases calmP_pair hcalm hoi ho hij hjp with h1 | ⟨h1, h2, _⟩
            · exact (ahead L hc i j _ _ hoi ho hij h1).1 hready
            · rcases h1 with h1 | h1
              · exact absurd hWi h1
              · exact absurd h1 hk
          · by_cases hij2 : i = j
            · subst hij2; exact hjn
            · rcases calmP_pair hcalm ho hoi (by omega) (by omega) with h1 | ⟨h1, h2, _⟩
              · exact (ahead L hc j i _ _ ho hoi (by omega) h1).2 hjn
              · rcases h2 with h2 | h2 | h2
                · exact absurd hWi h2
                · exact absurd h2 hk
                · omega
        have hwant : gwanted ops o (F L) = gwanted ops o (Φ j) := by
          unfold gwanted
          cases hgd : o.guard with
          | none => rfl
          | some gw =>
            obtain ⟨k, want⟩ := gw
            simp only
            congr 1
            unfold gyield
            cases hdk : (ops[k]?).bind (·.dst) with
            | none => rfl
            | some d =>
              simp only
              rw [hframe d (.inl (by simp [Oper.looksAt, hgd, hdk]))]
        have hcong : ∀ τ, goper P (call j) o (geval (F L)) τ = goper P (call j) o (geval (Φ j)) τ := fun τ => goper_congr (fun x hx => by
          cases x with
          | tmp t => exact hframe t (.inl (by
              unfold Oper.looksAt
              exact List.mem_append_left _ (List.mem_filterMap.2 ⟨.tmp t, by simpa using hx, rfl⟩)))
          | _ => rfl)
        by_cases hjeq : j = p
        ·
          subst hjeq
          obtain rfl := Option.some.inj (ho.symm.trans hop)
          unfold wpOpIn
          simp only [ho]
          rw [gwanted_sound hfr (hwant.trans hwp)]
          simp only [if_true]
          have hrun : goper P (call j) o (geval (F L)) (hpL S W L j) = some (.panic g, σ') := by
            rw [hcong]
            by_cases hk0 : opKind M o.op = 0
            · exfalso
              exact goper_nopanic hk0 hpan
            · rw [hheap hk0]; exact hpan
          refine goper_sound (hcall j) hrel (geval_sound hfr) hrun (fun g' E v w'' eg => by cases eg) (fun g' E v w'' eg hE hrE hv => ?_)
          cases eg
          refine hq E a' w'' (hl.trans hE) (fun t => ?_) hna (by rw [hda, hds]; exact hd0.mono (hl.trans hE)) hrE v hv
          unfold lost
          split
          · exact .any _
          · rename_i h
            have h : (ops.toList.any fun o => o.dst == some t) = false := by simpa using h
            have := hfr t
            have hnl : lateD t = false := by
              cases hb : lateD t with
              | false => rfl
              | true =>
                rw [hlateD] at hb
                simp only [List.any_eq_true, List.mem_range, Bool.and_eq_true, decide_eq_true_eq] at hb
                obtain ⟨k, hk, _, hb⟩ := hb
                have hok : ops[k]? = some (ops[k]'hk) := Array.getElem?_eq_getElem hk
                rw [hok] at hb
                simp only [Bool.and_eq_true, beq_iff_eq] at hb
                have : (ops.toList.any fun o => o.dst == some t) = true := List.any_eq_true.2 ⟨ops[k]'hk, by simp, by simp [hb.2]⟩
                rw [h] at this; cases this
            rw [hFn L t hnl, frL_lost j (by omega) h, e1] at this
            exact this.mono hE
        · have hjlt : j < p := by omega
          let L' := L.setIfInBounds j true
          have hL'o : ∀ i, i ≠ j → L'.getD i false = L.getD i false := fun i hi => getD_set_ne false (Ne.symm hi)
          have hL'j : L'.getD j false = true := by
            simp [L', Array.getD_eq_getD_getElem?, show j < L.size by omega]
          have hc' : Closed ops L' := fun k ok hk hkl e he hb => by
            by_cases hkj : k = j
            · subst hkj; rw [ho] at hk; cases hk
              exact getD_set_true (hready e he hb)
            · rw [hL'o k hkj] at hkl
              exact getD_set_true (hc k ok hk hkl e he hb)
          have hcnt' : cntL L' ops.size ≤ fuel := by
            have := (cntL_le hL'o hL'j hjn ops.size).2 hjs
            omega
          have hnewheap : opKind M o.op = 2 → hpL S W L' p = S (j + 1) := fun hk => by
            rw [hpL_atN hstill (j := j + 1) (fun i hi hWi => ?_) p (Nat.le_refl _), show min p (j + 1) = j + 1 by omega]
            have hoi : ops[i]? = some (ops[i]'(by omega)) := Array.getElem?_eq_getElem (by omega)
            rw [hW i _ hoi] at hWi
            have hWi : opKind M (ops[i]'(by omega)).op = 2 := by simpa using hWi
            refine ⟨fun hij => ?_, fun hij => ?_⟩
            · by_cases hij2 : i = j
              · subst hij2; exact hL'j
              · rw [hL'o i hij2]
                rcases calmP_pair hcalm hoi ho (by omega) hjp with h1 | ⟨h1, h2, _⟩
                · exact (ahead L hc i j _ _ hoi ho (by omega) h1).1 hready
                · rcases h1 with h1 | h1
                  · exact absurd hWi h1
                  · omega
            · rw [hL'o i (by omega)]
              rcases calmP_pair hcalm ho hoi (by omega) (by omega) with h1 | ⟨h1, h2, _⟩
              · exact (ahead L hc j i _ _ ho hoi (by omega) h1).2 hjn
              · rcases h2 with h2 | h2 | h2
                · exact absurd hWi h2
                · omega
                · omega
          have hsameheap : opKind M o.op ≠ 2 → hpL S W L' p = hpL S W L p := fun hk => hpL_other hL'o (by rw [hW j o ho]; simpa using hk) _
          have hnewframe : ∀ t, frL ops G (Φ 0) L' p t = if o.dst = some t then G j else frL ops G (Φ 0) L p t := fun t => by
            by_cases hd : o.dst = some t
            · rw [if_pos hd, frL_atN hput (j := j + 1) (fun i hi hdi => ?_) p (Nat.le_refl _), show min p (j + 1) = j + 1 by omega, hput j hjlt t, dstOf, ho, Option.bind_some, if_pos hd]
              obtain ⟨h1, h2⟩ := names t (.inr hd) i hi hdi
              refine ⟨fun hij => ?_, fun hij => ?_⟩
              · by_cases hij2 : i = j
                · subst hij2; exact hL'j
                · rw [hL'o i hij2]; exact h1 (by omega)
              · rw [hL'o i (by omega)]; exact h2 (by omega)
            · rw [if_neg hd]
              exact frL_other hL'o (by rw [dstOf, ho, Option.bind_some]; exact hd) _
          have next : ∀ (E : Cx) (v : Value) (w'' : World), D.le E → Rel E (hpL S W L' p) w0 w'' → VR E (G j) v → wpAnyIn (FW ro) 0 P .any ops Q fuel L' (a'.put o.dst v) w'' := fun E v w'' hE hrelE hv => by
            obtain ⟨p1, p2, p3⟩ := (hfr.mono hE).put hv hna (T j o hjlt ho).1
            refine ih L' E _ w'' (by simp [L', hLs]) hc' ((hL'o p (by omega)).trans hpn) hcnt' (hl.trans hE) hrelE (fun t => ?_) p2 (p3.trans hda)
            by_cases ht : lateD t = true
            · rw [hF]; simp only [ht, if_true]; exact .any _
            have ht' : lateD t = false := by simpa using ht
            rw [hFn L' t ht', hnewframe t]
            have := p1 t
            rw [fputo_get] at this
            split at this
            · rename_i hd; rw [if_pos hd]; exact this
            · rename_i hd; rw [if_neg hd, ← hFn L t ht']; exact this
          unfold wpOpIn
          simp only [ho]
          rcases (T j o hjlt ho).2.2 with ⟨hw0, hG, hS⟩ | ⟨hw1, hop'⟩
          · rw [gwanted_sound hfr (hwant.trans hw0)]
            simp only [Bool.false_eq_true, if_false]
            refine ⟨fun _ _ => trivial, next D undef w' (.refl D) ?_ (by rw [hG]; exact tupnil D)⟩
            by_cases hk2 : opKind M o.op = 2
            · rw [hnewheap hk2, hS, ← hheap (by omega)]; exact hrel
            · rw [hsameheap hk2]; exact hrel
          · rw [gwanted_sound hfr (hwant.trans hw1)]
            simp only [if_true]
            have hrun : goper P (call j) o (geval (F L)) (hpL S W L p) = some (.val (G j), hpL S W L' p) := by
              rw [hcong]
              by_cases hk0 : opKind M o.op = 0
              · rw [hsameheap (by omega)]
                exact (goper_free hk0 hop').2 _
              · rw [hheap hk0, hop']
                by_cases hk2 : opKind M o.op = 2
                · rw [hnewheap hk2]
                · rw [hsameheap hk2, hheap hk0, goper_still (hpure _) hk2 hop']
            refine goper_sound (hcall j) hrel (geval_sound hfr) hrun (fun g E v w'' eg hE hrE hv => ?_) (fun g E v w'' eg => by cases eg)
            cases eg
            exact next E v w'' hE hrE hv
  refine wpIn_region_any hm (key ops.size (Array.replicate ops.size false) C a _ (by simp) (fun j o ho hj => ?_) ?_ ?_ (.refl C) ?_ ?_ hn rfl)
  · have hjs := (Array.getElem?_eq_some_iff.1 ho).1
    simp [Array.getD_eq_getD_getElem?, hjs] at hj
  · simp [Array.getD_eq_getD_getElem?, hps]
  · have : ∀ (L : Array Bool) k, cntL L k ≤ k := fun L k => by
      induction k with
      | zero => exact Nat.le_refl _
      | succ k ih => simp only [cntL]; split <;> omega
    exact this _ _
  · have : ∀ k, hpL S W (Array.replicate ops.size false) k = S 0 := fun k => by
      induction k with
      | zero => rfl
      | succ k ih =>
        simp only [hpL]
        rw [if_neg (by simp [Array.getD_eq_getD_getElem?, Array.getElem?_replicate]; intro h1; split at h1 <;> simp at h1), ih]
    rw [this, e2]
    exact hr.drew
  · have : ∀ k, frL ops G (Φ 0) (Array.replicate ops.size false) k = Φ 0 := fun k => by
      induction k with
      | zero => rfl
      | succ k ih =>
        simp only [frL]
        rw [if_neg (by simp [Array.getD_eq_getD_getElem?, Array.getElem?_replicate]; split <;> simp), ih]
    refine fun t => ?_
    by_cases ht : lateD t = true
    · rw [hF]; simp only [ht, if_true]; exact .any _
    · rw [hFn _ t (by simpa using ht), this, e1]
      exact hf t
end
end Go.Proofs.YtcbknpdjdlgljaaGreatDoor
namespace Go.Proofs.YtcbknpdjdlgljaaGreatDoor
open Go.RowKit
set_option linter.unusedSectionVars false
variable [Globals]
set_option linter.unusedVariables false
def gloop : Nat → (Fr → GS → Option (GX × Fr × GS)) → Fr → GS → Option (GX × Fr × GS)
  | 0, _, _, _ => none
  | m + 1, f, φ, σ =>
    match f φ σ with
    | some (.normal, φ', σ') => gloop m f φ' σ'
    | r => r
def genter (ro : Option Nat) (σ : GS) : Option (Nat × GS) :=
  match ro with
  | none => some (σ.objs.length, { gnew σ .dfr with ds := .coll σ.objs.length :: σ.ds })
  | some r0 => match σ.objs[r0]? with
    | some (.loop _ _ _ _ _ _ _ rd) => some (rd, σ)
    | _ => none
def gendLoop (l : Nat) (φ : Fr) (σ : GS) : Option (GX × Fr × GS) :=
  if σ.lo ≤ l then
    match σ.objs[l]? with
    | some (.loop .busy _ _ _ _ _ _ _) => none
    | some (.loop _ none _ _ _ _ _ _) => some (.normal, φ, gset σ l .dead)
    | some (.loop _ (some .ret) _ _ _ _ _ _) => some (.ret, φ, gset σ l .dead)
    | some (.loop _ (some (.exit id)) _ _ _ _ _ _) => some (.exit id, φ, gset σ l .dead)
    | _ => none
  else none
def pan0 : Nat := 1000000
def rkey (id : Nat) (ops : Array Oper) : Nat := pan0 + (id + 1000 * ((ops[0]?).bind (·.dst)).getD 0 + 100000 * ops.size)
def gpanAt (P : Program) (M : FuncId → Bool) (call : GCall) (n : Nat) (ops : Array Oper) (φ : Fr) (σ : GS) (p : Nat) : Option (GX × Fr × GS) :=
  match ops[p]? with
  | some op => match gops P call false n ops (ops.toList.take p) φ σ with
    | some (.normal, φ1, σ1) => match gwanted ops op φ1 with
      | some true => match goper P call op (geval φ1) σ1 with
        | some (.panic g, σ') => some (.panic g, lost ops φ, σ')
        | _ => none
      | _ => none
    | _ => none
  | none => none
def panCand (P : Program) (M : FuncId → Bool) (n : Nat) (ops : Array Oper) : List Nat := (List.range ops.size).filter fun p => calmP P M n ops p && (match ops[p]? with | some o => opKind M o.op == 2 | none => false)
def gpanD (P : Program) (M : FuncId → Bool) (call : GCall) (n : Nat) (ops : Array Oper) (φ : Fr) (σ : GS) : Option (GX × Fr × GS) :=
  match panCand P M n ops with
  | [p] => gpanAt P M call n ops φ σ p
  | _ => none
def gcode (P : Program) (M : FuncId → Bool) (call : GCall) (ro : Option Nat) (n m : Nat) : Code → Fr → GS → Option (GX × Fr × GS)
  | .skip, φ, σ => some (.normal, φ, σ)
  | .label _, φ, σ => some (.normal, φ, σ)
  | .region id ops draw, φ, σ => if draw then (if M (rkey id ops) then gpanD P M call n ops φ σ else if calm M ops then gdraw P M call n ops φ σ else gdraw2 P M call n ops φ σ) else gops P call ro.isNone n ops ops.toList φ σ
  | .seq a b, φ, σ =>
    match gcode P M call ro n m a φ σ with
    | some (.normal, φ', σ') => gcode P M call ro n m b φ' σ'
    | r => r
  | .cond c a b, φ, σ =>
    match geval φ c with
    | .b t => if t then gcode P M call ro n m a φ σ else gcode P M call ro n m b φ σ
    | _ => none
  | .block id c, φ, σ =>
    match gcode P M call ro n m c φ σ with
    | some (.exit i, φ', σ') => if i = id then some (.normal, φ', σ') else some (.exit i, φ', σ')
    | r => r
  | .loop c, φ, σ => gloop m (gcode P M call ro n m c) φ σ
  | .exit id, φ, σ => some (.exit id, φ, σ)
  | .ret, φ, σ => some (.ret, φ, σ)
  | .rangeFunc f ps asg body, φ, σ =>
    match geval φ f with
    | .fn (.func k) first cap =>
      if callable P k then
        match genter ro σ with
        | some (rd, σ1) =>
          match call (.fn k) (first ++ .yld σ1.objs.length :: cap) (gnew σ1 (.loop .ready none n φ ps asg body rd)) with
          | some (.val _, σ2) => gendLoop σ1.objs.length φ σ2
          | some (.panic g, σ2) => some (.panic g, φ, σ2)
          | none => none
        | none => none
      else none
    | _ => none
  | _, _, _ => none
section
variable {P : Program} {call : GCall} {M : FuncId → Bool} {w0 : World} {n m : Nat} {ro : Option Nat}
theorem gloop_keep {f : Fr → GS → Option (GX × Fr × GS)} (hf : ∀ φ σ x φ' σ', f φ σ = some (x, φ', σ') → Keep σ σ') : ∀ (m : Nat) (φ φ' : Fr) (σ σ' : GS) (x : GX), gloop m f φ σ = some (x, φ', σ') → Keep σ σ'
  | 0, _, _, _, _, _, h => by cases h
  | m + 1, φ, φ', σ, σ', x, h => by
    simp only [gloop] at h
    split at h
    · rename_i φ1 σ1 h1
      exact (hf _ _ _ _ _ h1).trans (gloop_keep hf m _ _ _ _ _ h)
    · exact hf _ _ _ _ _ h
theorem gdraw_keep (hcall : CallSound P w0 call) {ops : Array Oper} {φ φ' : Fr} {σ σ' : GS} {x : GX} (h : gdraw P M call n ops φ σ = some (x, φ', σ')) : Keep σ σ' := by
  unfold gdraw at h
  split at h
  · split at h
    · rename_i h1
      cases h
      exact gops_keep hcall _ _ _ _ _ _ h1
    · cases h
  · cases h
theorem gpanAt_keep (hcall : CallSound P w0 call) {ops : Array Oper} {φ φ' : Fr} {σ σ' : GS} {x : GX} {p : Nat} (h : gpanAt P M call n ops φ σ p = some (x, φ', σ')) : Keep σ σ' := by
  unfold gpanAt at h
  split at h
  · split at h
    · rename_i h1
      split at h
      · split at h
        · rename_i h2
          cases h
          exact (gops_keep hcall _ _ _ _ _ _ h1).trans (goper_keep hcall h2)
        · cases h
      · cases h
    · cases h
  · cases h
theorem gpanD_keep (hcall : CallSound P w0 call) {ops : Array Oper} {φ φ' : Fr} {σ σ' : GS} {x : GX} (h : gpanD P M call n ops φ σ = some (x, φ', σ')) : Keep σ σ' := by
  unfold gpanD at h
  split at h
  · exact gpanAt_keep hcall h
  · cases h
theorem gpanD_sound (hm : P.follows .mixedOrders = true) (hcall : CallSound P w0 call) (hpure : PureCall M call) {rb : Option Nat} {C : Cx} {φ φ' : Fr} {σ σ' : GS} {x : GX} {id : Nat} {ops : Array Oper} {Q : Exit → Act → World → Prop} {a : Act} {w : World}
    (hg : gpanD P M call n ops φ σ = some (x, φ', σ')) (hr : Rel C σ w0 w) (hf : FRel C φ a) (hn : a.tmps.size = n) (hd0 : DRel C σ.ds a.defers) (hq : QOk w0 C Q n x φ' σ') : (Code.region id ops true).wpIn (FW rb) 0 P Q a w := by
  unfold gpanD at hg
  split at hg
  · rename_i p hp
    have hmem : p ∈ panCand P M n ops := by rw [hp]; simp
    unfold panCand at hmem
    simp only [List.mem_filter, List.mem_range, Bool.and_eq_true] at hmem
    obtain ⟨hps, hcp, _⟩ := hmem
    unfold gpanAt at hg
    split at hg
    · rename_i op hop
      split at hg
      · rename_i φ1 σ1 h1
        split at hg
        · rename_i hw
          split at hg
          · rename_i g σ2 h2
            cases hg
            have hlen : (ops.toList.take p).length = p := by simp; omega
            obtain ⟨Φ, S, G, e1, e2, e3, e4, e5⟩ := trace_of (ops.toList.take p) 0 φ φ1 σ σ1 (fun j hj => by rw [hlen] at hj; rw [List.getElem?_take, if_pos hj]; simp) h1
            rw [Nat.zero_add, hlen] at e3 e4
            refine drawp_sound (call := fun _ => call) (Φ := Φ) (S := S) (G := G) hm (fun _ => hcall) (fun _ => hpure) hcp hop (fun i o hi ho => e5 i o (Nat.zero_le _) (by rw [hlen]; omega) ho) ?_ ?_ e1 e2 hr hf hn hd0 hq
            · rw [e3]; exact hw
            · rw [e3, e4]; exact h2
          · cases hg
        · cases hg
      · cases hg
    · cases hg
  · cases hg
theorem genter_keep {σ σ1 : GS} {rd : Nat} (h : genter ro σ = some (rd, σ1)) : Keep σ σ1 := by
  unfold genter at h
  split at h
  · cases h; exact (Keep.gnew σ _).dsr
  · split at h
    · cases h; exact .refl σ
    · cases h
theorem gendLoop_keep {l : Nat} {φ φ' : Fr} {σ σ' : GS} {x : GX} (h : gendLoop l φ σ = some (x, φ', σ')) : Keep σ σ' := by
  unfold gendLoop at h
  split at h
  · rename_i hlo
    split at h <;> first
      | (cases h; done)
      | (rename_i ho; cases h; exact .gset σ _ hlo ho (by simp))
  · cases h
theorem gcode_keep (hcall : CallSound P w0 call) : ∀ (c : Code) (φ φ' : Fr) (σ σ' : GS) (x : GX), gcode P M call ro n m c φ σ = some (x, φ', σ') → Keep σ σ' := by
  intro c
  induction c with
  | skip => intro φ φ' σ σ' x h; simp only [gcode] at h; cases h; exact .refl σ
  | label l => intro φ φ' σ σ' x h; simp only [gcode] at h; cases h; exact .refl σ
  | region id ops draw =>
    intro φ φ' σ σ' x h
    simp only [gcode] at h
    split at h
    · split at h
      · exact gpanD_keep hcall h
      split at h
      · exact gdraw_keep hcall h
      · exact gdraw2_keep hcall h
    · exact gops_keep hcall _ _ _ _ _ _ h
  | seq a b iha ihb =>
    intro φ φ' σ σ' x h
    simp only [gcode] at h
    split at h
    · rename_i h1; exact (iha _ _ _ _ _ h1).trans (ihb _ _ _ _ _ h)
    · exact iha _ _ _ _ _ h
  | cond c a b iha ihb =>
    intro φ φ' σ σ' x h
    simp only [gcode] at h
    split at h
    · split at h
      · exact iha _ _ _ _ _ h
      · exact ihb _ _ _ _ _ h
    · cases h
  | block id c ih =>
    intro φ φ' σ σ' x h
    simp only [gcode] at h
    split at h
    · rename_i h1
      split at h <;> (cases h; exact ih _ _ _ _ _ h1)
    · exact ih _ _ _ _ _ h
  | loop c ih =>
    intro φ φ' σ σ' x h
    simp only [gcode] at h
    exact gloop_keep (fun φ σ x φ' σ' h => ih φ φ' σ σ' x h) m _ _ _ _ _ h
  | exit id => intro φ φ' σ σ' x h; simp only [gcode] at h; cases h; exact .refl σ
  | ret => intro φ φ' σ σ' x h; simp only [gcode] at h; cases h; exact .refl σ
  | rangeFunc f ps asg body iha ihb =>
    intro φ φ' σ σ' x h
    simp only [gcode] at h
    split at h
    · split at h
      · split at h
        · rename_i rd σ1 hent
          have k1 := genter_keep hent
          split at h
          · rename_i hc
            exact (k1.trans (.gnew σ1 _)).trans ((hcall _ _ _ _ _ hc).1.trans (gendLoop_keep h))
          · rename_i hc
            cases h
            exact (k1.trans (.gnew σ1 _)).trans (hcall _ _ _ _ _ hc).1
          · cases h
        · cases h
      · cases h
    · cases h
  | _ => intro φ φ' σ σ' x h; simp only [gcode] at h; cases h
def RoR (C : Cx) : Option Nat → Option Nat → Prop
  | none, none => True
  | some r, some b => C.bk r = some b
  | _, _ => False
theorem RoR.mono {C D : Cx} (hl : C.le D) : ∀ {ro rb : Option Nat}, RoR C ro rb → RoR D ro rb
  | none, none, _ => trivial
  | some _, some _, h => hl.bk _ _ h
theorem RoR.none_of {C : Cx} : ∀ {ro rb : Option Nat}, RoR C ro rb → ro.isNone = true → rb = none
  | none, none, _, _ => rfl
theorem Rel.putLoop {C : Cx} {σ : GS} {w : World} (h : Rel C σ w0 w) {r b : Nat} {o : Obj} (hr : r < σ.objs.length) (hb : C.bk r = some b) (x : GObj) (hx : ORel C (w.putObj b o) r x) :
    Rel C (gset σ r x) w0 (w.putObj b o) :=
  h.setObj hr hb x hx rfl rfl rfl (by simp [World.putObj]) (fun k hk => World.putObj_heap_other hk)
theorem gendLoop_sound {C : Cx} {σ : GS} {w : World} {l b : Nat} {φ φ' : Fr} {σ' : GS} {x : GX} (h : Rel C σ w0 w) (hb : C.bk l = some b) (hg : gendLoop l φ σ = some (x, φ', σ')) :
    φ' = φ ∧ σ'.ds = σ.ds ∧ ∃ jump w', (Instr.endLoop b).run P w = .ok jump w' ∧ Rel C σ' w0 w' ∧
      ((jump = none ∧ x = .normal) ∨ (jump = some .ret ∧ x = .ret) ∨ ∃ id, jump = some (.exit id) ∧ x = .exit id) := by
  unfold gendLoop at hg
  split at hg
  · have fin : ∀ {st : LoopState} {pe : Option Code} {n : Nat} {ψ : Fr} {ps : Array Tmp} {asg body : Code} {rd : Nat}, σ.objs[l]? = some (.loop st pe n ψ ps asg body rd) → st ≠ .busy →
        ∃ w', (Instr.endLoop b).run P w = .ok pe w' ∧ Rel C (gset σ l .dead) w0 w' := by
      intro st pe n ψ ps asg body rd ho hst
      obtain ⟨h0, b', L, h1, h2, h3, h4, _⟩ := h.obj l _ ho
      rw [hb] at h1; cases h1
      have hlt : b < w.heap.size := (Array.getElem?_eq_some_iff.1 h2).1
      refine ⟨_, by rw [run_endLoop h2 (by rw [h3]; exact hst), h4], h.putLoop (List.getElem?_eq_some_iff.1 ho).1 hb .dead ⟨.inr h0, fun b' hb' => ?_⟩⟩
      rw [blkOf_bk hb] at hb'; cases hb'
      simpa [World.putObj] using hlt
    split at hg
    · cases hg
    · rename_i st _ _ _ _ _ _ hne ho
      cases hg
      obtain ⟨w', h1, h2⟩ := fin ho (fun e => hne e)
      exact ⟨rfl, rfl, none, w', h1, h2, .inl ⟨rfl, rfl⟩⟩
    · rename_i st _ _ _ _ _ _ hne ho
      cases hg
      obtain ⟨w', h1, h2⟩ := fin ho (fun e => hne e)
      exact ⟨rfl, rfl, _, w', h1, h2, .inr (.inl ⟨rfl, rfl⟩)⟩
    · rename_i st id _ _ _ _ _ _ hne ho
      cases hg
      obtain ⟨w', h1, h2⟩ := fin ho (fun e => hne e)
      exact ⟨rfl, rfl, _, w', h1, h2, .inr (.inr ⟨id, rfl, rfl⟩)⟩
    · cases hg
  · cases hg
def roundsIn (F : Fence) (n : Nat) (P : Program) (c : Code) (Q : Exit → Act → World → Prop) : Nat → Act → World → Prop
  | 0, _, _ => False
  | j + 1, a, w => c.wpIn F n P (Exit.then (roundsIn F n P c Q j) Q) a w
theorem wpIn_loop_rounds {F : Fence} {i : Nat} {Q : Exit → Act → World → Prop} {a : Act} {w : World} {c : Code} (j : Nat) (h : roundsIn F i P c Q j a w) : (Code.loop c).wpIn F i P Q a w := by
  intro b k cs hro hb hr
  have key : ∀ j a w, roundsIn F i P c Q j a w →
      ∃ e a' w', Q e a' w' ∧ ArrivesIn (Machine.fenced P F) P (lone (b.atR a (.code c :: .inLoop c :: k)) cs w) b k cs e a' w' := by
    intro j
    induction j with
    | zero => intro a w h; exact h.elim
    | succ j ih =>
      intro a w h
      obtain ⟨e, a₁, w₁, hq, harr⟩ := h b (.inLoop c :: k) cs hro hb hr
      cases e with
      | normal =>
        obtain ⟨e₂, a₂, w₂, hq₂, harr₂⟩ := ih a₁ w₁ hq
        exact ⟨e₂, a₂, w₂, hq₂, .of_steps (StepsIn.trans harr (.one (fenced_calm hb hr rfl) stepR_inLoop)) harr₂⟩
      | exit id => exact ⟨_, a₁, w₁, hq, .pass (x := .inLoop c) rfl (fun _ _ => .inl (by simp)) harr⟩
      | goto l => exact ⟨_, a₁, w₁, hq, .pass (x := .inLoop c) rfl (fun _ _ => .inl (by simp)) harr⟩
      | ret => exact ⟨_, a₁, w₁, hq, .pass (x := .inLoop c) rfl (fun _ _ => .inl (by simp)) harr⟩
      | panic ch => exact ⟨_, a₁, w₁, hq, .pass (x := .inLoop c) rfl (fun _ _ => .inl (by simp)) harr⟩
      | outgrown => exact ⟨_, a₁, w₁, hq, .pass (x := .inLoop c) rfl (fun _ _ => .inl (by simp)) harr⟩
  obtain ⟨e, a', w', hq, harr⟩ := key j a w h
  exact ⟨e, a', w', hq, .of_steps (.one (fenced_calm hb hr rfl) stepR_loop) harr⟩
theorem gcode_sound (hm : P.follows .mixedOrders = true) (hcall : CallSound P w0 call) (hpure : PureCall M call) : ∀ (c : Code) (Q : Exit → Act → World → Prop) (C : Cx) (rb : Option Nat) (φ φ' : Fr) (σ σ' : GS) (x : GX) (a : Act) (w : World),
    gcode P M call ro n m c φ σ = some (x, φ', σ') → RoR C ro rb → Rel C σ w0 w → FRel C φ a → a.tmps.size = n → DRel C σ.ds a.defers → QOk w0 C Q n x φ' σ' → c.wpIn (FW rb) 0 P Q a w := by
  intro c
  induction c with
  | skip => intro Q C rb φ φ' σ σ' x a w h ho hr hf hn hd hq; simp only [gcode] at h; cases h; exact wpIn_skip (hq C a w (.refl C) hf hn hd hr)
  | label l => intro Q C rb φ φ' σ σ' x a w h ho hr hf hn hd hq; simp only [gcode] at h; cases h; exact wpIn_label (hq C a w (.refl C) hf hn hd hr)
  | exit id => intro Q C rb φ φ' σ σ' x a w h ho hr hf hn hd hq; simp only [gcode] at h; cases h; exact wpIn_exit (hq C a w (.refl C) hf hn hd hr)
  | ret => intro Q C rb φ φ' σ σ' x a w h ho hr hf hn hd hq; simp only [gcode] at h; cases h; exact wpIn_ret (hq C a w (.refl C) hf hn hd hr)
  | region id ops draw =>
    intro Q C rb φ φ' σ σ' x a w h ho hr hf hn hd hq
    simp only [gcode] at h
    cases draw with
    | true =>
      rw [if_pos rfl] at h
      split at h
      · exact gpanD_sound hm hcall hpure h hr hf hn hd hq
      split at h
      · exact gdraw_sound hm hcall hpure h hr hf hn hd hq
      · exact gdraw2_sound hm hcall hpure h hr hf hn hd hq
    | false => exact wpIn_region_list (gops_sound hcall (fun e => ho.none_of e) _ C φ φ' σ σ' x a w (by simpa using h) hr hf hn hd hq)
  | seq c1 c2 ih1 ih2 =>
    intro Q C rb φ φ' σ σ' x a w h ho hr hf hn hd hq
    simp only [gcode] at h
    refine wpIn_seq ?_
    split at h
    · rename_i φ1 σ1 h1
      refine ih1 _ C rb φ φ1 σ σ1 _ a w h1 ho hr hf hn hd (fun D a1 w1 hl hf1 hn1 hd1 hr1 => ?_)
      exact ih2 Q D rb φ1 φ' σ1 σ' x a1 w1 h (ho.mono hl) hr1 hf1 hn1 hd1 (hq.mono hl)
    · rename_i hne
      refine ih1 _ C rb φ φ' σ σ' x a w h ho hr hf hn hd (fun D a1 w1 hl hf1 hn1 hd1 hr1 => ?_)
      have := hq D a1 w1 hl hf1 hn1 hd1 hr1
      cases x with
      | normal => exact absurd h (hne _ _)
      | exit id => exact this
      | ret => exact this
      | panic g => exact this
  | cond c c1 c2 ih1 ih2 =>
    intro Q C rb φ φ' σ σ' x a w h ho hr hf hn hd hq
    simp only [gcode] at h
    split at h
    · rename_i t ht
      have hv := geval_sound hf c
      rw [ht] at hv
      generalize hu : a.eval c = u at hv
      cases hv
      refine wpIn_cond hu ?_
      cases t with
      | true => exact ih1 Q C rb φ φ' σ σ' x a w (by simpa using h) ho hr hf hn hd hq
      | false => exact ih2 Q C rb φ φ' σ σ' x a w (by simpa using h) ho hr hf hn hd hq
    · cases h
  | block id c ih =>
    intro Q C rb φ φ' σ σ' x a w h ho hr hf hn hd hq
    simp only [gcode] at h
    refine wpIn_block ?_
    split at h
    · rename_i i φ1 σ1 h1
      refine ih _ C rb φ φ1 σ σ1 _ a w h1 ho hr hf hn hd (fun D a1 w1 hl hf1 hn1 hd1 hr1 => ?_)
      split at h
      · rename_i hi
        cases h
        show if i = id then Q .normal a1 w1 else Q (.exit i) a1 w1
        rw [if_pos hi]
        exact hq D a1 w1 hl hf1 hn1 hd1 hr1
      · rename_i hi
        cases h
        show if i = id then Q .normal a1 w1 else Q (.exit i) a1 w1
        rw [if_neg hi]
        exact hq D a1 w1 hl hf1 hn1 hd1 hr1
    · rename_i hne
      refine ih _ C rb φ φ' σ σ' x a w h ho hr hf hn hd (fun D a1 w1 hl hf1 hn1 hd1 hr1 => ?_)
      have := hq D a1 w1 hl hf1 hn1 hd1 hr1
      cases x with
      | normal => exact this
      | exit id => exact absurd h (hne _ _ _)
      | ret => exact this
      | panic g => exact this
  | loop c ih =>
    intro Q C rb φ φ' σ σ' x a w h ho hr hf hn hd hq
    simp only [gcode] at h
    refine wpIn_loop_rounds m ?_
    have key : ∀ (k : Nat) (C : Cx) (φ : Fr) (σ : GS) (a : Act) (w : World), gloop k (gcode P M call ro n m c) φ σ = some (x, φ', σ') → RoR C ro rb → Rel C σ w0 w → FRel C φ a → a.tmps.size = n →
        DRel C σ.ds a.defers → QOk w0 C Q n x φ' σ' → roundsIn (FW rb) 0 P c Q k a w := by
      intro k
      induction k with
      | zero => intro C φ σ a w h; cases h
      | succ k ihk =>
        intro C φ σ a w h ho hr hf hn hd hq
        simp only [gloop] at h
        unfold roundsIn
        split at h
        · rename_i φ1 σ1 h1
          refine ih _ C rb φ φ1 σ σ1 _ a w h1 ho hr hf hn hd (fun D a1 w1 hl hf1 hn1 hd1 hr1 => ?_)
          exact ihk D φ1 σ1 a1 w1 h (ho.mono hl) hr1 hf1 hn1 hd1 (hq.mono hl)
        · rename_i hne
          refine ih _ C rb φ φ' σ σ' x a w h ho hr hf hn hd (fun D a1 w1 hl hf1 hn1 hd1 hr1 => ?_)
          have := hq D a1 w1 hl hf1 hn1 hd1 hr1
          cases x with
          | normal => exact absurd h (hne _ _)
          | exit id => exact this
          | ret => exact this
          | panic g => exact this
    exact key m C φ σ a w h ho hr hf hn hd hq
  | rangeFunc f ps asg body iha ihb =>
    intro Q C rb φ φ' σ σ' x a w h ho hr hf hn hd hq
    simp only [gcode] at h
    split at h
    · rename_i k first cap hfv
      split at h
      · rename_i hk
        split at h
        · rename_i rd σ1 hent
          have hv0 := geval_sound hf f
          rw [hfv] at hv0
          generalize hu : a.eval f = u at hv0
          cases hv0 with
          | fn h1 h2 h3 h4 =>
          rename_i va vc
          have e1 : VRs C first va.toList := ⟨by simpa using h1, fun j g u a b => h3 j g u a (by simpa using b)⟩
          have e2 : VRs C cap vc.toList := ⟨by simpa using h2, fun j g u a b => h4 j g u a (by simpa using b)⟩
          refine wpIn_rangeFunc (fun fn _ => ?_)
          have enter : ∃ (D : Cx) (l : Nat) (mark : List Deferred) (w1 : World), C.le D ∧ D.bk σ1.objs.length = some l ∧ (Instr.enterLoop fn a.tmps ps asg body (FW rb).round).run P w = .ok (l, mark) w1 ∧
              Rel D (gnew σ1 (.loop .ready none n φ ps asg body rd)) w0 w1 ∧ DRel D σ1.ds (mark ++ a.defers) := by
            cases ro with
            | none =>
              cases rb with
              | some b => exact ho.elim
              | none =>
              simp only [genter] at hent
              cases hent
              obtain ⟨D1, hl1, hb1, hr1⟩ := hr.newObj .dfr (.deferred (some [])) (fun D _ hb ho => ⟨ho, _, hb, heap_alloc_new w _⟩)
              have hr1' : Rel D1 { gnew σ .dfr with ds := .coll σ.objs.length :: σ.ds } w0 (w.alloc (.deferred (some []))) := hr1.ds _
              obtain ⟨D2, hl2, hb2, hr2⟩ := hr1'.newObj (.loop .ready none n φ ps asg body σ.objs.length) (.loop { state := .ready, pending := none, fn, tmps := a.tmps, params := ps, assign := asg, body, defers := w.heap.size })
                (fun D hl hb ho => ⟨ho, _, _, hb, heap_alloc_new _ _, rfl, rfl, rfl, rfl, rfl, hn, fun t => (hf t).mono (hl1.trans hl), hl.bk _ _ hb1⟩)
              refine ⟨D2, w.heap.size + 1, _, _, hl1.trans hl2, by rw [hb2]; simp, run_enterLoop_outer _ _ _ _ _, hr2, ⟨w.heap.size, hl2.bk _ _ hb1, rfl⟩, hd.mono (hl1.trans hl2)⟩
            | some r0 =>
              cases rb with
              | none => exact ho.elim
              | some b =>
              have hob : C.bk r0 = some b := ho
              simp only [genter] at hent
              split at hent
              · rename_i ho0
                cases hent
                obtain ⟨h0, b', L, g1, g2, _, _, _, _, _, _, _, g9⟩ := hr.obj _ _ ho0
                rw [hob] at g1; cases g1
                obtain ⟨D2, hl2, hb2, hr2⟩ := hr.newObj (.loop .ready none n φ ps asg body rd) (.loop { state := .ready, pending := none, fn, tmps := a.tmps, params := ps, assign := asg, body, defers := L.defers })
                  (fun D hl hb ho => ⟨ho, _, _, hb, heap_alloc_new _ _, rfl, rfl, rfl, rfl, rfl, hn, fun t => (hf t).mono hl, hl.bk _ _ g9⟩)
                exact ⟨D2, w.heap.size, [], _, hl2, hb2, run_enterLoop_inner g2 _ _ _ _ _, hr2, hd.mono hl2⟩
              · cases hent
          obtain ⟨D, l, mark, w1, hl, hbl, hrun, hrel, hdr⟩ := enter
          have hargs : VRs D (first ++ .yld σ1.objs.length :: cap) (va ++ #[Value.func (.yield l) #[] #[]] ++ vc).toList := by
            simp only [Array.toList_append]
            rw [List.append_assoc]
            exact (e1.mono hl).append (VRs.cons (.yld hbl) (e2.mono hl))
          have hcs : ∀ (r : GRes) (σ2 : GS), call (.fn k) (first ++ .yld σ1.objs.length :: cap) (gnew σ1 (.loop .ready none n φ ps asg body rd)) = some (r, σ2) → σ2.ds = σ1.ds ∧
              Calls P k (va ++ #[Value.func (.yield l) #[] #[]] ++ vc) w1 fun e w' => ∃ E, D.le E ∧ Rel E σ2 w0 w' ∧ ERel E r e := fun r σ2 hc => by
            obtain ⟨_, q1, q2⟩ := hcall _ _ _ _ _ hc
            exact ⟨q1, q2 D w1 _ hrel hargs⟩
          refine ⟨l, mark, w1, { target := .fn (.func k) vc, args := va ++ #[Value.func (.yield l) #[] #[]] }, w1, k, va ++ #[Value.func (.yield l) #[] #[]] ++ vc, w1, hrun, ?_, fun _ _ => trivial, ?_, fun h => (by cases h), ?_⟩
          · simp only [resolve, hu]
            simp [go_sem, Deferred.ofValue]
          · simp [invoke, callFunc_run hk]
          · refine callsIn_FW ?_
            have fr' : ∀ {E : Cx}, D.le E → FRel E φ { a with defers := mark ++ a.defers } := fun hE t => (hf t).mono (hl.trans hE)
            split at h
            · rename_i g σ2 hc
              obtain ⟨q1, q2⟩ := hcs _ _ hc
              refine q2.mono ?_
              rintro e w' ⟨E, hE, hrE, v, rfl, hv⟩
              obtain ⟨rfl, p1, jump, w'', p2, p3, p4⟩ := gendLoop_sound hrE (hE.bk _ _ hbl) h
              refine ⟨jump, w'', p2, ?_⟩
              have hfin := hq E { a with defers := mark ++ a.defers } w'' (hl.trans hE) (fr' hE) hn (by rw [p1, q1]; exact hdr.mono hE) p3
              rcases p4 with ⟨rfl, rfl⟩ | ⟨rfl, rfl⟩ | ⟨id, rfl, rfl⟩
              · exact hfin
              · exact wpIn_ret hfin
              · exact wpIn_exit hfin
            · rename_i g σ2 hc
              cases h
              obtain ⟨q1, q2⟩ := hcs _ _ hc
              refine q2.mono ?_
              rintro e w' ⟨E, hE, hrE, v, rfl, hv⟩
              exact hq E { a with defers := mark ++ a.defers } w' (hl.trans hE) (fr' hE) hn (by rw [q1]; exact hdr.mono hE) hrE v hv
            · cases h
        · cases h
      · cases h
    · cases h
  | _ => intro Q C rb φ φ' σ σ' x a w h; simp only [gcode] at h; cases h
end
end Go.Proofs.YtcbknpdjdlgljaaGreatDoor
