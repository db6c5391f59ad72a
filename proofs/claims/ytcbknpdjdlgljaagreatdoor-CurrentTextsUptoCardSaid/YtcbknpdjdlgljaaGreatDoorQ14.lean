/-
  The text of every currencies, and what every text is read as.
-/
import Derived.Maps.RangeRun
import Derived.Test.YtcbknpdjdlgljaaGreatDoorQ13
import Derived.Test.YtcbknpdjdlgljaaGreatDoorQ11
set_option linter.all false
namespace Go.Proofs.YtcbknpdjdlgljaaGreatDoor
open Go.RowKit
set_option linter.unusedSectionVars false
variable [Globals]
set_option linter.unusedVariables false
def GIf (c : Bool) (A B : Prop) : Prop := Bool.rec (motive := fun _ => Prop) B A c
theorem GIf.mk {c : Bool} {A B : Prop} (yes : c = true → A) (no : c = false → B) : GIf c A B := by
  cases c with
  | true => exact yes rfl
  | false => exact no rfl
theorem GIf.yes {c : Bool} {A B : Prop} (h : GIf c A B) (hc : c = true) : A := by subst hc; exact h
theorem GIf.no {c : Bool} {A B : Prop} (h : GIf c A B) (hc : c = false) : B := by subst hc; exact h
structure GNeed (c A : Prop) : Prop where
  need : c
  next : A
def gopt {α : Type} (x : Option α) (K : α → Prop) : Prop :=
  match x with
  | some a => K a
  | none => False
theorem gopt_of {α : Type} {x : Option α} {K : α → Prop} (h : gopt x K) : ∃ a, x = some a ∧ K a := by
  cases x with
  | none => exact h.elim
  | some a => exact ⟨a, rfl, h⟩
def glistK {α : Type} (l : List α) : (List α → Prop) → Prop :=
  List.rec (motive := fun _ => (List α → Prop) → Prop) (fun K => K []) (fun x _ ih K => ih fun ys => K (x :: ys)) l
theorem glistK_of {α : Type} : ∀ {l : List α} {K : List α → Prop}, glistK l K → K l := by
  intro l
  induction l with
  | nil => exact fun h => h
  | cons x xs ih => exact fun h => ih h
def gsetK (σ : GS) (r : Nat) (x : GObj) (K : GS → Prop) : Prop := glistK (σ.objs.set r x) fun l => K ⟨l, σ.lo, σ.ds⟩
theorem gsetK_of {σ : GS} {r : Nat} {x : GObj} {K : GS → Prop} (h : gsetK σ r x K) : K (gset σ r x) := glistK_of (K := fun l => K ⟨l, σ.lo, σ.ds⟩) h
def gnewK (σ : GS) (x : GObj) (K : GS → Prop) : Prop := glistK (σ.objs ++ [x]) fun l => K ⟨l, σ.lo, σ.ds⟩
theorem gnewK_of {σ : GS} {x : GObj} {K : GS → Prop} (h : gnewK σ x K) : K (gnew σ x) := glistK_of (K := fun l => K ⟨l, σ.lo, σ.ds⟩) h
def gforceK (g : GV) (K : GV → Prop) : Prop :=
  match g with
  | .b x => K (.b x)
  | .i k n => K (.i k n)
  | .s l => K (.s l)
  | .o v => K (.o v)
  | .agg cs => K (.agg cs)
  | .tup cs => K (.tup cs)
  | .ifc t v => K (.ifc t v)
  | .fn f a c => K (.fn f a c)
  | .sl k xs => K (.sl k xs)
  | .ptr r off => K (.ptr r off)
  | .snap cs off => K (.snap cs off)
  | .mp r => K (.mp r)
  | .rs r off e n c => K (.rs r off e n c)
  | .glb g off => K (.glb g off)
  | .yld r => K (.yld r)
  | .dat r cs => K (.dat r cs)
  | .any => K .any
theorem gforceK_of {g : GV} {K : GV → Prop} (h : gforceK g K) : K g := by cases g <;> exact h
noncomputable def fpt (φ : Fr) (d : Nat) (g : GV) : Fr := fun t => Bool.rec (motive := fun _ => GV) (φ t) g (Nat.beq t d)
theorem fpt_eq (φ : Fr) (d : Nat) (g : GV) : fpt φ d g = fput φ d g := by
  funext t
  show Bool.rec (motive := fun _ => GV) (φ t) g (Nat.beq t d) = if t = d then g else φ t
  by_cases h : t = d
  · subst h; rw [if_pos rfl, Nat.beq_refl]
  · rw [if_neg h]
    cases hb : Nat.beq t d with
    | false => rfl
    | true => exact absurd (Nat.eq_of_beq_eq_true hb) h
def gputK (φ : Fr) (d : Option Tmp) (g : GV) (K : Fr → Prop) : Prop :=
  match d with
  | some d => gforceK g fun g => K (fpt φ d g)
  | none => K φ
theorem gputK_of {φ : Fr} {d : Option Tmp} {g : GV} {K : Fr → Prop} (h : gputK φ d g K) : K (fputo φ d g) := by
  cases d with
  | none => exact h
  | some d => rw [show fputo φ (some d) g = fput φ d g from rfl, ← fpt_eq]; exact gforceK_of (K := fun g => K (fpt φ d g)) h
def gboundK (x : Option GV) (dflt : Nat) (K : Nat → Prop) : Prop :=
  match x with
  | none => K dflt
  | some (.i _ n) => GNeed (0 ≤ n) (K n.toNat)
  | _ => False
theorem gboundK_of {x : Option GV} {d : Nat} {K : Nat → Prop} (h : gboundK x d K) : ∃ a, gbound x d = some a ∧ K a := by
  unfold gboundK at h
  unfold gbound
  split at h
  · exact ⟨d, rfl, h⟩
  · rename_i k n
    exact ⟨_, if_pos h.need, h.next⟩
  · exact h.elim
def gsliceK (P : Program) (t : TypeId) (x : GV) (lo hi mx : Option GV) (K : GV → Prop) : Prop :=
  match x with
  | .s l => if kindT P t = some 1 && mx.isNone then gboundK lo 0 fun a => gboundK hi l.length fun b => GNeed (a ≤ b ∧ b ≤ l.length) (∃ r, r = (l.drop a).take (b - a) ∧ K (.s r)) else False
  | .sl k xs =>
    match elemT P t with
    | some e => match sizeT P e with
      | some size => GNeed (xs.all (fun x => x.cells.length == size) = true) <|
        gboundK lo 0 fun a => gboundK hi xs.length fun b => GNeed (a ≤ b ∧ b ≤ xs.length) <| ∃ ys, ys = (xs.drop a).take (b - a) ∧
          match mx with
          | none => ∃ k', k' = (if a = 0 && b = xs.length then k else if k = .full && b = xs.length && a < b then .full else .none) ∧ K (.sl k' ys)
          | some m => GNeed (hi.isSome = true ∧ gbound (some m) 0 = some b) (K (.sl (if a < b then .full else .none) ys))
      | none => False
    | none => False
  | .rs r off esz n c =>
    match elemT P t with
    | some e => match sizeT P e with
      | some size => bif Nat.beq esz size && Nat.blt 0 size && mx.isNone then
          gboundK lo 0 fun a => gboundK hi n fun b => GNeed (a ≤ b ∧ b ≤ n ∧ (a = 0 ∨ a < n)) (∃ off' m c', GNeed (off' = off + a * esz ∧ m = b - a ∧ c' = (if a = 0 then c else 0)) (K (.rs r off' esz m c')))
        else False
      | none => False
    | none => False
  | x => gopt (gslice P t x lo hi mx) K
theorem gsliceK_of {P : Program} {t : TypeId} {x : GV} {lo hi mx : Option GV} {K : GV → Prop} (h : gsliceK P t x lo hi mx K) : ∃ g, gslice P t x lo hi mx = some g ∧ K g := by
  unfold gsliceK at h
  split at h
  · rename_i l
    split at h
    · rename_i hc
      obtain ⟨a, ha, h⟩ := gboundK_of h
      obtain ⟨b, hb, h⟩ := gboundK_of h
      obtain ⟨hab, r, rfl, h⟩ := h
      refine ⟨_, ?_, h⟩
      simp only [gslice, hc, ha, hb, if_true]
      rw [if_pos (by simpa using hab)]
    · exact h.elim
  · rename_i k xs
    split at h
    · rename_i e he
      split at h
      · rename_i size hs
        have hall := h.need
        obtain ⟨a, ha, h⟩ := gboundK_of h.next
        obtain ⟨b, hb, h⟩ := gboundK_of h
        have hab : (decide (a ≤ b) && decide (b ≤ xs.length)) = true := by simpa using h.need
        obtain ⟨ys, rfl, h⟩ := h.next
        split at h
        · obtain ⟨k', rfl, h⟩ := h
          refine ⟨_, ?_, h⟩
          simp only [gslice, he, hs, hall, if_true, ha, hb, hab]
        · rename_i m
          refine ⟨_, ?_, h.next⟩
          simp only [gslice, he, hs, hall, if_true, ha, hb, hab]
          rw [if_pos (by simpa using h.need)]
      · exact h.elim
    · exact h.elim
  · rename_i r off esz n c
    split at h
    · rename_i e he
      split at h
      · rename_i size hs
        cases hq : (Nat.beq esz size && Nat.blt 0 size && mx.isNone) with
        | false => rw [hq] at h; exact h.elim
        | true =>
          rw [hq] at h
          simp only [cond_true] at h
          obtain ⟨a, ha, h⟩ := gboundK_of h
          obtain ⟨b, hb, h⟩ := gboundK_of h
          obtain ⟨⟨h1, h2, h3⟩, off', m, c', ⟨rfl, rfl, rfl⟩, h⟩ := h
          refine ⟨_, ?_, h⟩
          have hq' : (decide (esz = size) && decide (0 < size) && mx.isNone) = true := by
            simp only [Bool.and_eq_true] at hq ⊢
            exact ⟨⟨decide_eq_true (Nat.eq_of_beq_eq_true hq.1.1), decide_eq_true (Nat.le_of_ble_eq_true hq.1.2)⟩, hq.2⟩
          simp only [gslice, he, hs, hq', if_true, ha, hb]
          rw [if_pos (by simp only [Bool.and_eq_true, decide_eq_true_eq]; exact ⟨⟨h1, h2⟩, h3⟩)]
      · exact h.elim
    · exact h.elim
  · exact gopt_of h
def gindexK (P : Program) (t : TypeId) (x ix : GV) (K : GV → Prop) : Prop :=
  match x, ix with
  | .s l, .i _ n => if kindT P t = some 1 then GNeed (0 ≤ n) (∃ b, l[n.toNat]? = some b ∧ K (.i .u8 b.toNat)) else False
  | x, ix => gopt (gindex P t x ix) K
theorem gindexK_of {P : Program} {t : TypeId} {x ix : GV} {K : GV → Prop} (h : gindexK P t x ix K) : ∃ g, gindex P t x ix = some g ∧ K g := by
  unfold gindexK at h
  split at h
  · split at h
    · rename_i hk
      obtain ⟨h0, b, hb, h1⟩ := h
      refine ⟨_, ?_, h1⟩
      simp only [gindex, if_pos h0, if_pos hk, hb]
      rfl
    · exact h.elim
  · exact gopt_of h
def gindexAddrK (P : Program) (t : TypeId) (x ix : GV) (K : GV → Prop) : Prop :=
  match x, ix with
  | .sl _ xs, .i _ n => match elemT P t with
    | some e => match sizeT P e with
      | some size => GNeed (0 ≤ n) (∃ y, xs[n.toNat]? = some y ∧ GNeed (y.cells.length = size) (K (.snap y.cells 0)))
      | none => False
    | none => False
  | .ptr r off, .i _ n => match arrT P t with
    | some (len, e) => match sizeT P e with
      | some size => GNeed (0 ≤ n ∧ n < len) (K (.ptr r (off + n.toNat * size)))
      | none => False
    | none => False
  | .snap cs off, .i _ n => match arrT P t with
    | some (len, e) => match sizeT P e with
      | some size => GNeed (0 ≤ n ∧ n < len) (K (.snap cs (off + n.toNat * size)))
      | none => False
    | none => False
  | .glb g off, .i _ n => match arrT P t with
    | some (len, e) => match sizeT P e with
      | some size => GNeed (0 ≤ n ∧ n < len) (K (.glb g (off + n.toNat * size)))
      | none => False
    | none => False
  | .rs r off esz m _, .i _ n => match elemT P t with
    | some e => match sizeT P e with
      | some size => GNeed (0 ≤ n ∧ (esz = size ∧ n < (m : Int))) (K (.rs r (off + n.toNat * esz) 0 0 0))
      | none => False
    | none => False
  | _, _ => False
theorem gindexAddrK_of {P : Program} {t : TypeId} {x ix : GV} {K : GV → Prop} (h : gindexAddrK P t x ix K) : ∃ g, gindexAddr P t x ix = some g ∧ K g := by
  unfold gindexAddrK at h
  split at h
  · split at h
    · rename_i e he
      split at h
      · rename_i size hs
        obtain ⟨h0, y, hy, h1, h2⟩ := h
        refine ⟨_, ?_, h2⟩
        simp only [gindexAddr, if_pos h0, he, hs, hy, if_pos h1]
      · exact h.elim
    · exact h.elim
  all_goals try (split at h <;> first
    | exact h.elim
    | (rename_i len e he
       split at h <;> first
         | exact h.elim
         | (rename_i size hs
            obtain ⟨⟨h0, h1⟩, h2⟩ := h
            refine ⟨_, ?_, h2⟩
            simp only [gindexAddr, if_pos h0, he, hs]
            first
              | rw [if_pos h1]
              | rw [if_pos (by simpa using h1)])))
  exact h.elim
def gappendK (P : Program) (t u : TypeId) (s x : GV) (σ : GS) (K : GV → GS → Prop) : Prop :=
  match s, gsrc P t u x σ with
  | .sl k xs, some ys =>
    match elemT P t with
    | some e => match sizeT P e, bytesT P e, gzero P e with
      | some size, some bytes, some z =>
        if z.known && z.cells.length == size && decide (0 < size) && decide (bytes ≤ 4096) then
          GIf ys.isEmpty (K (.sl k xs) σ) <|
          GNeed (ys.all (okEl size) = true ∧ xs.all (fun x => x.cells.length == size) = true ∧ xs.length + ys.length ≤ lim) <|
          ∃ zs m, GNeed (zs = xs ++ ys ∧ m = xs.length + ys.length) <|
            match k with
            | .full => bif Globals.wr e then ∃ cs, GNeed (cs = zs.flatMap GV.cells) (gnewK σ (.box e cs) fun s => K (.rs σ.objs.length 0 size m 0) s)
              else gnewK σ (.own m size e) fun s => K (.sl (.own σ.objs.length) zs) s
            | .own r => match σ.objs[r]? with
              | some (.own n esz ty) => bif Globals.wr e && (esz == 0 && n == 0) then ∃ cs, GNeed (cs = zs.flatMap GV.cells ∧ xs.length = 0) (gnewK σ (.box e cs) fun s => K (.rs σ.objs.length 0 size m 0) s)
                else GNeed (σ.lo ≤ r ∧ n = xs.length ∧ ((esz = size ∧ ty = e) ∨ (n = 0 ∧ esz = 0))) (gsetK σ r (.own m size e) fun s => K (.sl (.own r) zs) s)
              | _ => False
            | .none => False
        else False
      | _, _, _ => False
    | none => False
  | _, _ => False
theorem gappendK_of {P : Program} {t u : TypeId} {s x : GV} {σ : GS} {K : GV → GS → Prop} (h : gappendK P t u s x σ K) : ∃ g σ', gappend P t u s x σ = some (g, σ') ∧ K g σ' := by
  unfold gappendK at h
  split at h
  · rename_i k xs ys hsrc
    split at h
    · rename_i e he
      split at h
      · rename_i size bytes z hs hb hz
        split at h
        · rename_i hc
          simp only [Bool.and_eq_true, decide_eq_true_eq, beq_iff_eq] at hc
          obtain ⟨⟨⟨c2, c3⟩, c4⟩, c5⟩ := hc
          simp only [gappend, hsrc, he, hs, hb, hz]
          rw [if_pos (by simp [c2, c3])]
          cases hy : ys.isEmpty with
          | true =>
            rw [if_pos rfl]
            exact ⟨_, _, rfl, h.yes hy⟩
          | false =>
            rw [if_neg (by simp)]
            obtain ⟨⟨n1, n2, n3⟩, zs, m, ⟨rfl, rfl⟩, h⟩ := h.no hy
            rw [if_pos (by simp only [Bool.and_eq_true, decide_eq_true_eq]; exact ⟨⟨⟨⟨c4, n1⟩, n2⟩, n3⟩, c5⟩)]
            split at h
            · cases hwr : Globals.wr e with
              | true =>
                rw [hwr] at h
                obtain ⟨cs, rfl, h⟩ := h
                exact ⟨_, _, rfl, gnewK_of (K := fun s => K _ s) h⟩
              | false =>
                rw [hwr] at h
                exact ⟨_, _, rfl, gnewK_of (K := fun s => K _ s) h⟩
            · rename_i r
              split at h
              · rename_i n esz ty ho
                simp only [ho]
                cases hwr : (Globals.wr e && (esz == 0 && n == 0)) with
                | true =>
                  rw [hwr] at h
                  obtain ⟨cs, ⟨rfl, hx0⟩, h⟩ := h
                  have hxe : xs = [] := List.eq_nil_of_length_eq_zero hx0
                  rw [if_pos (by rw [hxe]; rfl)]
                  exact ⟨_, _, rfl, gnewK_of (K := fun s => K _ s) h⟩
                | false =>
                rw [hwr] at h
                rw [if_neg (by simp)]
                obtain ⟨⟨m1, m2, m3⟩, h⟩ := h
                replace h := gsetK_of (K := fun s => K _ s) h
                rw [if_pos (by simp only [Bool.and_eq_true, decide_eq_true_eq, Bool.or_eq_true, beq_iff_eq]; exact ⟨⟨m1, m2⟩, m3⟩)]
                exact ⟨_, _, rfl, h⟩
              · exact h.elim
            · exact h.elim
        · exact h.elim
      · exact h.elim
    · exact h.elim
  · exact h.elim
def gbinK (P : Program) (op : BinOp) (t : TypeId) (ca cb : Bool) (a b : GV) (K : GV → Prop) : Prop :=
  match op, a, b with
  | .add, .s x, .s y => GNeed (x.length + y.length < slim) (∃ r, r = x ++ y ∧ K (.s r))
  | .quo, .i k x, .i k' y => if k = k' then GNeed (y ≠ 0) (K (.i k (k.wrap (x.tdiv y)))) else False
  | .rem, .i k x, .i k' y => if k = k' then GNeed (y ≠ 0) (K (.i k (x.tmod y))) else False
  | .shl, .i k x, .i _ y => GNeed (0 ≤ y) (K (.i k (k.wrap (x * 2 ^ min y.toNat k.bits))))
  | .shr, .i k x, .i _ y => GNeed (0 ≤ y) (K (.i k (x.fdiv (2 ^ min y.toNat k.bits))))
  | .eql, .agg cs, .agg ds => GNeed (structB P t = true) (gopt (geqFlds P (fldsT P t) cs ds) fun x => K (.b x))
  | .neq, .agg cs, .agg ds => GNeed (structB P t = true) (gopt (geqFlds P (fldsT P t) cs ds) fun x => K (.b (!x)))
  | op, a, b => gopt (gbin P op t ca cb a b) K
theorem gbinK_of {P : Program} {op : BinOp} {t : TypeId} {ca cb : Bool} {a b : GV} {K : GV → Prop} (h : gbinK P op t ca cb a b K) : ∃ g, gbin P op t ca cb a b = some g ∧ K g := by
  unfold gbinK at h
  split at h
  · obtain ⟨h1, r, rfl, h⟩ := h
    exact ⟨_, by simp only [gbin, gstr]; exact if_pos h1, h⟩
  · split at h
    · rename_i hk
      exact ⟨_, by simp only [gbin, if_pos hk, gint]; exact if_neg h.need, h.next⟩
    · exact h.elim
  · split at h
    · rename_i hk
      exact ⟨_, by simp only [gbin, if_pos hk, gint]; exact if_neg h.need, h.next⟩
    · exact h.elim
  · exact ⟨_, by simp only [gbin]; exact if_pos h.need, h.next⟩
  · exact ⟨_, by simp only [gbin]; exact if_pos h.need, h.next⟩
  · obtain ⟨x, hx, hk⟩ := gopt_of h.next
    exact ⟨.b x, by simp only [gbin, geq, if_pos h.need, hx]; rfl, hk⟩
  · obtain ⟨x, hx, hk⟩ := gopt_of h.next
    exact ⟨.b !x, by simp only [gbin, geq, if_pos h.need, hx]; rfl, hk⟩
  · exact gopt_of h
def gconvertK (P : Program) (src dst : TypeId) (x : GV) (K : GV → Prop) : Prop :=
  match x with
  | .sl _ xs => match elemT P src with
    | some e => if intT P e = some .u8 && kindT P dst = some 1 then ∃ l, gbytes xs = some l ∧ K (.s l) else False
    | none => False
  | x => gopt (gconvert P src dst x) K
theorem gconvertK_of {P : Program} {src dst : TypeId} {x : GV} {K : GV → Prop} (h : gconvertK P src dst x K) : ∃ g, gconvert P src dst x = some g ∧ K g := by
  unfold gconvertK at h
  split at h
  · split at h
    · rename_i e he
      split at h
      · rename_i hc
        obtain ⟨l, hl, h⟩ := h
        refine ⟨_, ?_, h⟩
        simp only [gconvert, he, hc, if_true, hl]
        rfl
      · exact h.elim
    · exact h.elim
  · exact gopt_of h
def glookupK (P : Program) (t : TypeId) (m k : GV) (ok : Bool) (σ : GS) (K : GV → Prop) : Prop :=
  match mapT P t with
  | some (kt, et) => match P.underlying kt, gzero P et with
    | some d, some z =>
      if gkey d k then
        match m with
        | .mp r => match σ.objs[r]? with
          | some (.mp es) => ∃ f, gfind d k es 0 = some f ∧ match f with
            | some (_, v) => K (if ok then .tup [v, .b true] else v)
            | none => K (if ok then .tup [z, .b false] else z)
          | some (.mx es _ _) => ∃ f, gfind d k es 0 = some f ∧ match f with
            | some (_, v) => K (if ok then .tup [v, .b true] else v)
            | none => K (if ok then .tup [z, .b false] else z)
          | _ => False
        | .o (.map none) => K (if ok then .tup [z, .b false] else z)
        | _ => False
      else match gkeyA P kt k, m with
        | true, .mp r => match σ.objs[r]? with
          | some (.mx es _ _) => ∃ f, gfindA P kt k es 0 = some f ∧ match f with
            | some (_, v) => K (if ok then .tup [v, .b true] else v)
            | none => K (if ok then .tup [z, .b false] else z)
          | _ => False
        | _, _ => False
    | _, _ => False
  | none => False
theorem glookupK_of {P : Program} {t : TypeId} {m k : GV} {ok : Bool} {σ : GS} {K : GV → Prop} (h : glookupK P t m k ok σ K) : ∃ g, glookup P t m k ok σ = some g ∧ K g := by
  unfold glookupK at h
  split at h
  · rename_i kt et hmt
    split at h
    · rename_i d z hd hz
      split at h
      · rename_i hk
        split at h
        · rename_i r
          split at h
          · rename_i es ho
            obtain ⟨f, hf, h⟩ := h
            simp only [glookup, hmt, hd, hz, hk, if_true, ho, hf]
            split at h
            · exact ⟨_, rfl, h⟩
            · exact ⟨_, rfl, h⟩
          · rename_i es bs clk ho
            obtain ⟨f, hf, h⟩ := h
            simp only [glookup, hmt, hd, hz, hk, if_true, ho, hf]
            split at h
            · exact ⟨_, rfl, h⟩
            · exact ⟨_, rfl, h⟩
          · exact h.elim
        · simp only [glookup, hmt, hd, hz, hk, if_true]
          exact ⟨_, rfl, h⟩
        · exact h.elim
      · rename_i hk
        split at h
        · rename_i r ha
          split at h
          · rename_i es bs clk ho
            obtain ⟨f, hf, h⟩ := h
            simp only [glookup, hmt, hd, hz, hk, ha, if_true, ho, hf, Bool.false_eq_true, if_false]
            split at h
            · exact ⟨_, rfl, h⟩
            · exact ⟨_, rfl, h⟩
          · exact h.elim
        · exact h.elim
    · exact h.elim
  · exact h.elim
def gupdateK (P : Program) (t : TypeId) (m k v : GV) (σ : GS) (K : GS → Prop) : Prop :=
  match m with
  | .mp r => match mapT P t with
    | some (kt, _) => match P.underlying kt, σ.objs[r]? with
      | some d, some (.mp es) =>
        if gkey d k then GNeed (σ.lo ≤ r) <|
          ∃ f, gfind d k es 0 = some f ∧ match f with
            | some (i, _) => gsetK σ r (.mp (es.set i (k, v))) K
            | none => gsetK σ r (.mp (es ++ [(k, v)])) K
        else False
      | some d, some (.mx es bs clk) => GNeed (σ.lo ≤ r) <|
          ∃ f, gfindK P kt d k es = some f ∧ match f with
            | some (i, _) => gsetK σ r (.mx (es.set i (k, v)) bs clk) K
            | none => gsetK σ r (.mx (es ++ [(k, v)]) (bs ++ [clk]) (clk + 1)) K
      | _, _ => False
    | none => False
  | _ => False
theorem gupdateK_of {P : Program} {t : TypeId} {m k v : GV} {σ : GS} {K : GS → Prop} (h : gupdateK P t m k v σ K) : ∃ s, gupdate P t m k v σ = some s ∧ K s := by
  unfold gupdateK at h
  split at h
  · split at h
    · rename_i kt et hmt
      split at h
      · rename_i d es hd ho
        split at h
        · rename_i hk
          obtain ⟨hlo, f, hf, h⟩ := h
          simp only [gupdate, hmt, hd, ho]
          rw [if_pos (by simp [hlo, hk])]
          simp only [hf]
          split at h
          · exact ⟨_, rfl, gsetK_of h⟩
          · exact ⟨_, rfl, gsetK_of h⟩
        · exact h.elim
      · rename_i d es bs clk hd ho
        obtain ⟨hlo, f, hf, h⟩ := h
        have hk : (gkey d k || gkeyA P kt k) = true ∧ (if gkey d k then gfind d k es 0 else gfindA P kt k es 0) = some f := by
          unfold gfindK at hf
          cases h1 : gkey d k with
          | true => rw [h1, if_pos rfl] at hf; exact ⟨rfl, by rw [if_pos rfl]; exact hf⟩
          | false =>
            rw [h1] at hf
            simp only [Bool.false_eq_true, if_false] at hf ⊢
            cases h2 : gkeyA P kt k with
            | true => rw [h2, if_pos rfl] at hf; exact ⟨rfl, hf⟩
            | false => rw [h2] at hf; simp at hf
        simp only [gupdate, hmt, hd, ho]
        rw [if_pos (by simp [hlo, hk.1]), hk.2]
        split at h
        · exact ⟨_, rfl, gsetK_of h⟩
        · exact ⟨_, rfl, gsetK_of h⟩
      · exact h.elim
    · exact h.elim
  · exact h.elim
def gstoreAtK (P : Program) (t : TypeId) (r off : Nat) (v : GV) (σ : GS) (K : GS → Prop) : Prop :=
  match σ.objs[r]? with
  | some (.box T cs) => ∃ vc, GNeed (vc = v.cells ∧ σ.lo ≤ r ∧ (okEl ((sizeT P t).getD 0) v && (sizeT P t).isSome) = true ∧ off + vc.length ≤ cs.length) (glistK (cs.take off ++ vc ++ cs.drop (off + vc.length)) fun cs' => gsetK σ r (.box T cs') K)
  | _ => False
theorem gstoreAtK_of {P : Program} {t : TypeId} {r off : Nat} {v : GV} {σ : GS} {K : GS → Prop} (h : gstoreAtK P t r off v σ K) : ∃ s, gstoreAt P t r off v σ = some s ∧ K s := by
  unfold gstoreAtK at h
  split at h
  · rename_i cs ho
    obtain ⟨vc, ⟨rfl, h1, h2, h3⟩, h⟩ := h
    refine ⟨_, ?_, gsetK_of (glistK_of (K := fun cs' => gsetK σ _ (.box _ cs') K) h)⟩
    simp only [gstoreAt, ho]
    rw [Bool.and_eq_true] at h2
    rw [if_pos (by simp only [Bool.and_eq_true, decide_eq_true_eq]; exact ⟨⟨⟨h1, h2.1⟩, h2.2⟩, h3⟩)]
  · exact h.elim
def gstoreRK (P : Program) (t : TypeId) (r off : Nat) (v : GV) (σ : GS) (K : GS → Prop) : Prop :=
  match σ.objs[r]? with
  | some (.box T cs) => ∃ cs', GNeed (cs' = cs.take off ++ v.cells ++ cs.drop (off + v.cells.length) ∧ σ.lo ≤ r ∧ (okEl ((sizeT P t).getD 0) v && (sizeT P t).isSome) = true ∧ off + v.cells.length ≤ cs.length) (gsetK σ r (.box T cs') K)
  | _ => False
theorem gstoreRK_of {P : Program} {t : TypeId} {r off : Nat} {v : GV} {σ : GS} {K : GS → Prop} (h : gstoreRK P t r off v σ K) : ∃ s, gstoreAt P t r off v σ = some s ∧ K s := by
  unfold gstoreRK at h
  split at h
  · rename_i cs ho
    obtain ⟨cs', ⟨rfl, h1, h2, h3⟩, h⟩ := h
    refine ⟨_, ?_, gsetK_of h⟩
    simp only [gstoreAt, ho]
    rw [Bool.and_eq_true] at h2
    rw [if_pos (by simp only [Bool.and_eq_true, decide_eq_true_eq]; exact ⟨⟨⟨h1, h2.1⟩, h2.2⟩, h3⟩)]
  · exact h.elim
def gstoreK (P : Program) (t : TypeId) (a v : GV) (σ : GS) (K : GS → Prop) : Prop :=
  match a with
  | .ptr r off => gstoreAtK P t r off v σ K
  | .rs r off e _ _ => bif Nat.beq e 0 then gstoreRK P t r off v σ K else False
  | _ => False
theorem gstoreK_of {P : Program} {t : TypeId} {a v : GV} {σ : GS} {K : GS → Prop} (h : gstoreK P t a v σ K) : ∃ s, gstore P t a v σ = some s ∧ K s := by
  unfold gstoreK at h
  split at h
  · exact gstoreAtK_of h
  · rename_i r off e _ _
    cases he : Nat.beq e 0 with
    | true =>
      rw [he] at h
      have e0 : e = 0 := Nat.eq_of_beq_eq_true he
      rw [gstore, if_pos e0]
      exact gstoreRK_of h
    | false => rw [he] at h; exact h.elim
  · exact h.elim
def gloadK (P : Program) (t : TypeId) (a : GV) (σ : GS) (K : GV → Prop) : Prop :=
  match a with
  | .rs r off e _ _ => bif Nat.beq e 0 then match σ.objs[r]? with
      | some (.box _ cs) => ∃ g, GNeed (gpart P t cs off = some g) (K g)
      | _ => False
    else False
  | a => gopt (gload P t a σ) K
theorem gloadK_of {P : Program} {t : TypeId} {a : GV} {σ : GS} {K : GV → Prop} (h : gloadK P t a σ K) : ∃ g, gload P t a σ = some g ∧ K g := by
  unfold gloadK at h
  split at h
  · rename_i r off e _ _
    cases he : Nat.beq e 0 with
    | true =>
      rw [he] at h
      have e0 : e = 0 := Nat.eq_of_beq_eq_true he
      rw [gload, if_pos e0]
      simp only [cond_true] at h
      split at h
      · rename_i ho
        obtain ⟨g, h1, h2⟩ := h
        exact ⟨g, by simp only [ho]; exact h1, h2⟩
      · exact h.elim
    | false => rw [he] at h; exact h.elim
  · exact gopt_of h
def gmakeK (P : Program) (t : TypeId) (l c : GV) (σ : GS) (K : GV → GS → Prop) : Prop :=
  match l, c with
  | .i _ n, .i _ m => match elemT P t with
    | some e => match sizeT P e, bytesT P e, gzero P e with
      | some size, some bytes, some z =>
        bif z.known && z.cells.length == size && decide (0 < size) && decide (bytes ≤ 4096) then
          ∃ k cs, GNeed (n = (k : Nat) ∧ n = m ∧ n ≤ (lim : Nat) ∧ cs = (List.replicate k z.cells).flatten) (gnewK σ (.box e cs) fun s => K (.rs σ.objs.length 0 size k k) s)
        else False
      | _, _, _ => False
    | none => False
  | _, _ => False
theorem gmakeK_of {P : Program} {t : TypeId} {l c : GV} {σ : GS} {K : GV → GS → Prop} (h : gmakeK P t l c σ K) : ∃ g σ', gmake P t l c σ = some (g, σ') ∧ K g σ' := by
  unfold gmakeK at h
  split at h
  · rename_i n _ m
    split at h
    · rename_i e he
      split at h
      · rename_i size bytes z hs hb hz
        cases hc : (z.known && z.cells.length == size && decide (0 < size) && decide (bytes ≤ 4096)) with
        | true =>
          rw [hc] at h
          obtain ⟨k, cs, ⟨rfl, h1, h2, rfl⟩, h⟩ := h
          have h := gnewK_of (K := fun s => K _ s) h
          refine ⟨_, _, ?_, h⟩
          simp only [gmake, he, hs, hb, hz]
          rw [if_pos (by rw [hc]; simp only [Bool.true_and, Bool.and_eq_true, decide_eq_true_eq]; exact ⟨⟨Int.natCast_nonneg _, h1⟩, h2⟩)]
          simp only [Int.toNat_natCast]
        | false => rw [hc] at h; exact h.elim
      · exact h.elim
    · exact h.elim
  · exact h.elim
def gclearK (P : Program) (t : TypeId) (x : GV) (σ : GS) (K : GV → GS → Prop) : Prop :=
  match x with
  | .rs r off esz n _ => match elemT P t with
    | some e => match sizeT P e, gzero P e, σ.objs[r]? with
      | some size, some z, some (.box T cs) =>
        bif okEl size z && Nat.beq esz size && Nat.blt 0 size then
          ∃ cs', GNeed (cs' = cs.take off ++ (List.replicate n z.cells).flatten ++ cs.drop (off + n * size) ∧ σ.lo ≤ r ∧ off + n * size ≤ cs.length) (gsetK σ r (.box T cs') (K (.tup [])))
        else False
      | _, _, _ => False
    | none => False
  | _ => False
theorem gclearK_of {P : Program} {t : TypeId} {x : GV} {σ : GS} {K : GV → GS → Prop} (h : gclearK P t x σ K) : ∃ g σ', gclear P t x σ = some (g, σ') ∧ K g σ' := by
  unfold gclearK at h
  split at h
  · rename_i r off esz n c
    split at h
    · rename_i e he
      split at h
      · rename_i size z T cs hs hz hcs
        cases hq : (okEl size z && Nat.beq esz size && Nat.blt 0 size) with
        | false => rw [hq] at h; exact h.elim
        | true =>
          rw [hq] at h
          simp only [cond_true] at h
          obtain ⟨cs', ⟨rfl, h1, h2⟩, h⟩ := h
          have h := gsetK_of h
          refine ⟨_, _, ?_, h⟩
          simp only [Bool.and_eq_true] at hq
          simp only [gclear, he, hs, hz, hcs]
          rw [if_pos (by simp only [Bool.and_eq_true, decide_eq_true_eq]; exact ⟨⟨⟨⟨hq.1.1, Nat.eq_of_beq_eq_true hq.1.2⟩, Nat.le_of_ble_eq_true hq.2⟩, h1⟩, h2⟩)]
      · exact h.elim
    · exact h.elim
  · exact h.elim
def gbuiltinK (P : Program) (b : Builtin) (ts : List TypeId) (args : List GV) (σ : GS) (K : GV → GS → Prop) : Prop :=
  match b, ts, args with
  | .append, [t, u], [s, x] => gappendK P t u s x σ K
  | .clear, [t], [x] => gclearK P t x σ K
  | b, ts, args => gopt (gbuiltin P b ts args σ) fun q => K q.1 q.2
theorem gbuiltinK_of {P : Program} {b : Builtin} {ts : List TypeId} {args : List GV} {σ : GS} {K : GV → GS → Prop} (h : gbuiltinK P b ts args σ K) : ∃ g σ', gbuiltin P b ts args σ = some (g, σ') ∧ K g σ' := by
  unfold gbuiltinK at h
  split at h
  · obtain ⟨g, σ', h1, h2⟩ := gappendK_of h
    exact ⟨g, σ', h1, h2⟩
  · obtain ⟨g, σ', h1, h2⟩ := gclearK_of h
    exact ⟨g, σ', h1, h2⟩
  · obtain ⟨⟨g, σ'⟩, h1, h2⟩ := gopt_of h
    exact ⟨g, σ', h1, h2⟩
def gop0K (P : Program) (ρ : Operand → GV) (op : Op) (σ : GS) (K : GV → GS → Prop) : Prop :=
  match op with
  | .move x => K (ρ x) σ
  | .assign x => K (ρ x) σ
  | .pick c a b =>
    match ρ c with
    | .b t => GIf t (K (ρ a) σ) (K (ρ b) σ)
    | _ => False
  | .load t a => gloadK P t (ρ a) σ fun g => K g σ
  | .store t a v => gstoreK P t (ρ a) (ρ v) σ fun s => K .any s
  | .binOp op t x y _ => gbinK P op t (isConstOp x) (isConstOp y) (ρ x) (ρ y) fun g => K g σ
  | .convert src dst x => gconvertK P src dst (ρ x) fun g => K g σ
  | .slice t x lo hi mx => gsliceK P t (ρ x) (lo.map ρ) (hi.map ρ) (mx.map ρ) fun g => K g σ
  | .indexAddr t x i => gindexAddrK P t (ρ x) (ρ i) fun g => K g σ
  | .index t x i => gindexK P t (ρ x) (ρ i) fun g => K g σ
  | .lookup t m k ok => glookupK P t (ρ m) (ρ k) ok σ fun g => K g σ
  | .mapUpdate t m k v => gupdateK P t (ρ m) (ρ k) (ρ v) σ fun s => K .any s
  | .insert t m k v => gupdateK P t (ρ m) (ρ k) (ρ v) σ fun s => K .any s
  | .makeSlice t l c => gmakeK P t (ρ l) (ρ c) σ K
  | .call { callee := .builtin b, args, argTypes } => gbuiltinK P b argTypes.toList (args.toList.map ρ) σ K
  | op => gopt (gop0 P ρ op σ) fun q => K q.1 q.2
theorem gop0K_of {P : Program} {ρ : Operand → GV} {op : Op} {σ : GS} {K : GV → GS → Prop} (h : gop0K P ρ op σ K) : ∃ g σ', gop0 P ρ op σ = some (g, σ') ∧ K g σ' := by
  have mp : ∀ {x : Option GV}, (∃ g, x = some g ∧ K g σ) → ∃ g σ', x.map (fun v => (v, σ)) = some (g, σ') ∧ K g σ' := fun ⟨g, e, h⟩ => ⟨g, σ, by rw [e]; rfl, h⟩
  have mu : ∀ {x : Option GS}, (∃ s, x = some s ∧ K .any s) → ∃ g σ', x.map (fun s => (GV.any, s)) = some (g, σ') ∧ K g σ' := fun ⟨s, e, h⟩ => ⟨_, s, by rw [e]; rfl, h⟩
  unfold gop0K at h
  split at h
  · exact ⟨_, _, rfl, h⟩
  · exact ⟨_, _, rfl, h⟩
  · simp only [gop0]
    split at h
    · rename_i t ht
      simp only [ht]
      cases t with
      | true => exact ⟨_, _, rfl, h.yes rfl⟩
      | false => exact ⟨_, _, rfl, h.no rfl⟩
    · exact h.elim
  · exact mp (gloadK_of h)
  · exact mu (gstoreK_of h)
  · exact mp (gbinK_of h)
  · exact mp (gconvertK_of h)
  · exact mp (gsliceK_of h)
  · exact mp (gindexAddrK_of h)
  · exact mp (gindexK_of h)
  · exact mp (glookupK_of h)
  · exact mu (gupdateK_of h)
  · exact mu (gupdateK_of h)
  · exact gmakeK_of h
  · exact gbuiltinK_of h
  · obtain ⟨⟨g, s⟩, h1, h2⟩ := gopt_of h
    exact ⟨g, s, h1, h2⟩
def gopK (P : Program) (ρ : Operand → GV) (op : Op) (σ : GS) (K : GV → GS → Prop) : Prop :=
  match gnewop P ρ op with
  | some f => gnewK σ f.2 fun s => K (f.1 σ.objs.length) s
  | none => gop0K P ρ op σ K
theorem gopK_of {P : Program} {ρ : Operand → GV} {op : Op} {σ : GS} {K : GV → GS → Prop} (h : gopK P ρ op σ K) : ∃ g σ', gop P ρ op σ = some (g, σ') ∧ K g σ' := by
  unfold gopK at h
  unfold gop
  split at h
  · rename_i f hf
    exact ⟨_, _, by rw [hf], gnewK_of (K := fun s => K _ s) h⟩
  · rename_i hf
    obtain ⟨g, s, h1, h2⟩ := gop0K_of h
    exact ⟨g, s, by rw [hf]; exact h1, h2⟩
def gcallK (P : Program) (M : FuncId → Bool) (t : Tgt) (args : List GV) (σ : GS) (K : GRes → GS → Prop) : Prop :=
  ∃ r σ', Fact P t args σ r σ' ∧ (∀ k, (t = .fn k ∨ dynM M = true) → (M k = true ∨ dynM M = true) → σ' = σ) ∧ K r σ'
theorem noPure {M : FuncId → Bool} {k : FuncId} {A : Prop} (hM : M k = false) (hD : dynM M = false) : ∀ q, (Tgt.fn k = .fn q ∨ dynM M = true) → (M q = true ∨ dynM M = true) → A := fun q e hk => by
  rcases e with e | e
  · cases e
    rcases hk with hk | hk
    · rw [hM] at hk; cases hk
    · rw [hD] at hk; cases hk
  · rw [hD] at e; cases e
def goperK (P : Program) (M : FuncId → Bool) (o : Oper) (ρ : Operand → GV) (σ : GS) (K : GRes → GS → Prop) : Prop :=
  match o.op with
  | .panic x => match ρ x with
    | .ifc t g => K (.panic (.ifc t g)) σ
    | _ => False
  | .call { callee := .value f, args, .. } => match ρ f with
    | .fn (.func k) first cap => if callable P k then gcallK P M (.fn k) (first ++ args.toList.map ρ ++ cap) σ K else gopt (gextern P k (first ++ args.toList.map ρ ++ cap)) fun g => K (.val g) σ
    | .yld r => gcallK P M (.yld r) (args.toList.map ρ) σ K
    | _ => False
  | .call { callee := .invoke r name, args, .. } => match ρ r with
    | .ifc t g => gopt (gmethod P t name) fun k => if callable P k then gcallK P M (.fn k) (g :: args.toList.map ρ) σ K else False
    | _ => False
  | op => gopK P ρ op σ fun g s => K (.val g) s
def GOper (P : Program) (M : FuncId → Bool) (o : Oper) (ρ : Operand → GV) (σ : GS) (r : GRes) (σ' : GS) : Prop :=
  ∃ call : GCall, (∀ w0, CallSound P w0 call) ∧ PureCall M call ∧ goper P call o ρ σ = some (r, σ')
open Classical in
noncomputable def theCall (t : Tgt) (args : List GV) (σ : GS) (r : GRes) (σ' : GS) : GCall := fun t' a' s' => if t' = t ∧ a' = args ∧ s' = σ then some (r, σ') else none
theorem theCall_at {t : Tgt} {args : List GV} {σ σ' : GS} {r : GRes} : theCall t args σ r σ' t args σ = some (r, σ') := if_pos ⟨rfl, rfl, rfl⟩
theorem theCall_inv {t t' : Tgt} {args a' : List GV} {σ σ' s s' : GS} {r r' : GRes} (h : theCall t args σ r σ' t' a' s = some (r', s')) : t' = t ∧ a' = args ∧ s = σ ∧ r' = r ∧ s' = σ' := by
  unfold theCall at h
  split at h
  · rename_i hc
    cases h
    exact ⟨hc.1, hc.2.1, hc.2.2, rfl, rfl⟩
  · cases h
theorem theCall_sound {P : Program} {t : Tgt} {args : List GV} {σ σ' : GS} {r : GRes} (h : Fact P t args σ r σ') (w0 : World) : CallSound P w0 (theCall t args σ r σ') := fun t' a' s r' s' hc => by
  obtain ⟨rfl, rfl, rfl, rfl, rfl⟩ := theCall_inv hc
  exact ⟨h.keep, h.ds, h.calls w0⟩
theorem theCall_pure {M : FuncId → Bool} {t : Tgt} {args : List GV} {σ σ' : GS} {r : GRes} (h : ∀ k, (t = .fn k ∨ dynM M = true) → (M k = true ∨ dynM M = true) → σ' = σ) : PureCall M (theCall t args σ r σ') := fun k hk t' ht a' s r' s' hc => by
  obtain ⟨e1, rfl, rfl, rfl, rfl⟩ := theCall_inv hc
  subst e1
  exact h k ht hk
theorem noCall_sound {P : Program} (w0 : World) : CallSound P w0 (fun _ _ _ => none) := fun _ _ _ _ _ h => by cases h
theorem noCall_pure {M : FuncId → Bool} : PureCall M (fun _ _ _ => none) := fun _ _ _ _ _ _ _ _ h => by cases h
theorem goperK_of {P : Program} {M : FuncId → Bool} {o : Oper} {ρ : Operand → GV} {σ : GS} {K : GRes → GS → Prop} (h : goperK P M o ρ σ K) : ∃ r σ', GOper P M o ρ σ r σ' ∧ K r σ' := by
  have viaCall : ∀ {t : Tgt} {args : List GV}, gcallK P M t args σ K → (∀ call : GCall, goper P call o ρ σ = call t args σ) → ∃ r σ', GOper P M o ρ σ r σ' ∧ K r σ' := fun ⟨r, σ', hf, hp, hk⟩ hg =>
    ⟨r, σ', ⟨theCall _ _ _ r σ', theCall_sound hf, theCall_pure hp, (hg _).trans theCall_at⟩, hk⟩
  unfold goperK at h
  split at h
  · rename_i x hop
    split at h
    · rename_i t g hx
      exact ⟨_, _, ⟨_, noCall_sound, noCall_pure, by unfold goper; simp only [hop, hx]⟩, h⟩
    · exact h.elim
  · rename_i f args ts hop
    split at h
    · rename_i k first cap hf
      split at h
      · rename_i hk
        exact viaCall h (fun call => by unfold goper; simp only [hop, hf]; rw [if_pos hk])
      · rename_i hk
        obtain ⟨g, hg, h⟩ := gopt_of h
        exact ⟨_, _, ⟨_, noCall_sound, noCall_pure, by unfold goper; simp only [hop, hf]; rw [if_neg hk, hg]; rfl⟩, h⟩
    · rename_i r hf
      exact viaCall h (fun call => by unfold goper; simp only [hop, hf])
    · exact h.elim
  · rename_i rv name args ts hop
    split at h
    · rename_i t g hrv
      obtain ⟨k, hm, h⟩ := gopt_of h
      split at h
      · rename_i hk
        exact viaCall h (fun call => by unfold goper; simp only [hop, hrv, hm]; rw [if_pos hk])
      · exact h.elim
    · exact h.elim
  · rename_i hn1 hn2 hn3
    obtain ⟨g, s, hg, h⟩ := gopK_of h
    refine ⟨_, _, ⟨_, noCall_sound, noCall_pure, ?_⟩, h⟩
    obtain ⟨dst, op, type, pos, after, guard⟩ := o
    simp only at hn1 hn2 hn3 hg
    unfold goper
    cases op
    case panic x => exact absurd rfl (hn1 x)
    case call c =>
      obtain ⟨callee, args, ts⟩ := c
      cases callee with
      | value f => exact absurd rfl (hn2 f args ts)
      | invoke r m => exact absurd rfl (hn3 r m args ts)
      | builtin b => simp only [hg]; rfl
    all_goals (simp only [hg]; rfl)
theorem fput_self {φ : Fr} {d : Nat} {g : GV} (h : φ d = g) : fput φ d g = φ := by
  funext t
  show (if t = d then g else φ t) = φ t
  split
  · rename_i e; rw [e, h]
  · rfl
def gwantK (ops : Array Oper) (o : Oper) (φ : Fr) (K : Bool → Fr → Prop) : Prop :=
  match o.guard with
  | none => K true φ
  | some (j, want) => match (ops[j]?).bind (·.dst) with
    | some d => match φ d with
      | .b t => GIf t (K want (fpt φ d (.b true))) (K (!want) (fpt φ d (.b false)))
      | .tup [] => K false φ
      | _ => False
    | none => K false φ
theorem gwantK_of {ops : Array Oper} {o : Oper} {φ : Fr} {K : Bool → Fr → Prop} (h : gwantK ops o φ K) : ∃ b, gwanted ops o φ = some b ∧ K b φ := by
  unfold gwantK at h
  unfold gwanted
  split at h
  · rename_i hg
    rw [hg]; exact ⟨true, rfl, h⟩
  · rename_i j want hg
    rw [hg]
    simp only [gyield]
    split at h
    · rename_i d hd
      rw [hd]
      simp only
      split at h
      · rename_i t ht
        rw [ht]
        simp only [Option.map_some]
        cases t with
        | true =>
          have := h.yes rfl
          rw [fpt_eq, fput_self ht] at this
          exact ⟨_, rfl, by cases want <;> exact this⟩
        | false =>
          have := h.no rfl
          rw [fpt_eq, fput_self ht] at this
          exact ⟨_, rfl, by cases want <;> exact this⟩
      · rename_i ht
        rw [ht]
        exact ⟨false, rfl, h⟩
      · exact h.elim
    · rename_i hd
      rw [hd]
      exact ⟨false, rfl, h⟩
def gcondK (φ : Fr) (c : Operand) (K : Bool → Fr → Prop) : Prop :=
  match c with
  | .tmp d => match φ d with
    | .b t => GIf t (K true (fpt φ d (.b true))) (K false (fpt φ d (.b false)))
    | _ => False
  | c => match geval φ c with
    | .b t => K t φ
    | _ => False
theorem gcondK_of {φ : Fr} {c : Operand} {K : Bool → Fr → Prop} (h : gcondK φ c K) : ∃ t, geval φ c = .b t ∧ K t φ := by
  unfold gcondK at h
  split at h
  · rename_i d
    show ∃ t, φ d = .b t ∧ K t φ
    split at h
    · rename_i t ht
      cases t with
      | true => exact ⟨true, ht, by have := h.yes rfl; rwa [fpt_eq, fput_self ht] at this⟩
      | false => exact ⟨false, ht, by have := h.no rfl; rwa [fpt_eq, fput_self ht] at this⟩
    · exact h.elim
  · split at h
    · rename_i t ht
      exact ⟨t, ht, h⟩
    · exact h.elim
abbrev GRun := Fr → GS → (GX → Fr → GS → Prop) → Prop
def gopsStep (P : Program) (M : FuncId → Bool) (dz : Bool) (n : Nat) (ops : Array Oper) (o : Oper) (ih : GRun) : GRun := fun φ σ K =>
  if (o.dst.all fun d => Nat.blt d n) then
    gwantK ops o φ fun b φ => match b with
    | false => gputK φ o.dst (.tup []) fun φ => ih φ σ K
    | true =>
      match (if dz then gdefer (geval φ) o.op else none) with
      | some d => gputK φ o.dst (.tup []) fun φ => ih φ { σ with ds := d :: σ.ds } K
      | none => goperK P M o (geval φ) σ fun r σ' => match r with
        | .val g => gputK φ o.dst g fun φ => ih φ σ' K
        | .panic g => K (.panic g) φ σ'
  else False
def gopsK (P : Program) (M : FuncId → Bool) (dz : Bool) (n : Nat) (ops : Array Oper) (l : List Oper) : GRun :=
  List.rec (motive := fun _ => GRun) (fun φ σ K => K .normal φ σ) (fun o _ ih => gopsStep P M dz n ops o ih) l
theorem gopsK_cons {P : Program} {M : FuncId → Bool} {dz : Bool} {n : Nat} {ops : Array Oper} {o : Oper} {l : List Oper} {φ : Fr} {σ : GS} {K : GX → Fr → GS → Prop} :
    gopsK P M dz n ops (o :: l) φ σ K = gopsStep P M dz n ops o (gopsK P M dz n ops l) φ σ K := rfl
theorem dst_ok {o : Oper} {n : Nat} (h : (o.dst.all fun d => Nat.blt d n) = true) : (o.dst.all fun d => decide (d < n)) = true := by
  cases hd : o.dst with
  | none => rfl
  | some d =>
    rw [hd] at h
    have : Nat.blt d n = true := h
    simpa [Nat.blt_eq] using this
section
variable {P : Program} {M : FuncId → Bool} {w0 : World} {n : Nat} {ops : Array Oper}
theorem gopsStep_sound {ro : Option Nat} {dz : Bool} (hdz : dz = true → ro = none) {Q : Exit → Act → World → Prop} {K : GX → Fr → GS → Prop} {o : Oper} {l : List Oper} {R : GRun}
    (ih : ∀ (C : Cx) (φ : Fr) (σ : GS) (a : Act) (w : World), R φ σ K → Rel C σ w0 w → FRel C φ a → a.tmps.size = n → DRel C σ.ds a.defers → (∀ x φ' σ', K x φ' σ' → QOk w0 C Q n x φ' σ') → wpListIn (FW ro) 0 P ops Q l a w)
    (C : Cx) (φ : Fr) (σ : GS) (a : Act) (w : World) (hg : gopsStep P M dz n ops o R φ σ K) (hr : Rel C σ w0 w) (hf : FRel C φ a) (hn : a.tmps.size = n) (hd0 : DRel C σ.ds a.defers) (hq : ∀ x φ' σ', K x φ' σ' → QOk w0 C Q n x φ' σ') : wpListIn (FW ro) 0 P ops Q (o :: l) a w := by
  unfold gopsStep at hg
  split at hg
  · rename_i hd
    replace hd := dst_ok hd
    unfold wpListIn
    obtain ⟨b, hw, hg⟩ := gwantK_of hg
    cases b with
    | false =>
      rw [gwanted_sound hf hw]
      simp only [Bool.false_eq_true, if_false]
      replace hg := gputK_of (K := fun φ => R φ σ K) hg
      obtain ⟨h1, h2, h3⟩ := hf.put (tupnil C) hn hd
      exact ⟨fun f _ => trivial, ih C _ σ _ w hg hr h1 h2 (by rw [h3]; exact hd0) hq⟩
    | true =>
      rw [gwanted_sound hf hw]
      simp only [if_true]
      rcases hdef : (if dz = true then gdefer (geval φ) o.op else none) with _ | d
      rotate_left
      · simp only [hdef] at hg
        replace hg := gputK_of (K := fun φ => R φ { σ with ds := d :: σ.ds } K) hg
        have hdzt : dz = true := by
          cases hdz' : dz with
          | true => rfl
          | false => rw [hdz'] at hdef; simp at hdef
        have hro := hdz hdzt
        subst hro
        rw [if_pos hdzt] at hdef
        unfold gdefer at hdef
        split at hdef
        · rename_i f args ts hop
          split at hdef
          · rename_i k first cap hf0
            cases hdef
            have hv0 := geval_sound hf f
            rw [hf0] at hv0
            generalize hu : a.eval f = u at hv0
            cases hv0 with
            | fn h1 h2 h3 h4 =>
              rename_i va vc
              have e1 : VRs C first va.toList := ⟨by simpa using h1, fun j g u a b => h3 j g u a (by simpa using b)⟩
              have e2 : VRs C cap vc.toList := ⟨by simpa using h2, fun j g u a b => h4 j g u a (by simpa using b)⟩
              have hrun : (execOp a.eval o).run P w = .ok (.defer { target := .fn (.func k) vc, args := va ++ args.map a.eval }) w := by
                unfold execOp
                rw [hop]
                simp [resolve, hu, Deferred.ofValue]
              refine ⟨fun f _ => trivial, ?_⟩
              show Oper.uponIn _ _ _ _ _ _ _ ((execOp a.eval o).run P w)
              rw [hrun, Oper.uponIn_defer]
              have hf1 : FRel C φ { a with defers := { target := .fn (.func k) vc, args := va ++ args.map a.eval } :: a.defers } := hf
              obtain ⟨p1, p2, p3⟩ := hf1.put (tupnil C) (n := n) hn hd
              refine ih C _ _ _ w hg (hr.ds _) p1 p2 ?_ hq
              rw [p3]
              refine ⟨⟨_, _, rfl, ?_, e2⟩, hd0⟩
              simp only [Array.toList_append, Array.toList_map]
              exact e1.append (VRs.mapOp (geval_sound hf) args.toList)
          · cases hdef
        · cases hdef
      · simp only [hdef] at hg
        obtain ⟨r, σ1, ⟨call, hcall, _, hop⟩, hg⟩ := goperK_of hg
        refine goper_sound (hcall w0) hr (geval_sound hf) hop (fun g' D v w' e hl hr' hv => ?_) (fun g' D v w' e hl hr' hv => ?_)
        · subst e
          replace hg := gputK_of (K := fun φ => R φ σ1 K) hg
          obtain ⟨h1, h2, h3⟩ := (hf.mono hl).put hv hn hd
          exact ih D _ σ1 _ w' hg hr' h1 h2 (by rw [h3, goper_ds (hcall w0) hop]; exact hd0.mono hl) (fun x φ' σ' hk => (hq x φ' σ' hk).mono hl)
        · subst e
          exact hq _ _ _ hg D a w' hl (hf.mono hl) hn (by rw [goper_ds (hcall w0) hop]; exact hd0.mono hl) hr' v hv
  · exact hg.elim
def rsApp (o : Oper) : Option (TypeId × TypeId × Operand × Operand) :=
  match o.guard, o.op with
  | none, .call { callee := .builtin .append, args, argTypes } => match args.toList, argTypes.toList with
    | [s, x], [t, u] => some (t, u, s, x)
    | _, _ => none
  | _, _ => none
structure GAppRs (P : Program) (t u : TypeId) (r size n c : Nat) (x : GV) (σ : GS) (K : GV → GS → Prop) : Prop where
  ex : ∃ (e bytes : Nat) (z : GV) (cs ys : List GV), (σ.objs[r]? = some (.box e cs) ∧ gsrc P t u x σ = some ys ∧ elemT P t = some e ∧ sizeT P e = some size ∧ bytesT P e = some bytes ∧ gzero P e = some z ∧ Globals.wr e = true) ∧
    (cs.length = c * size ∧ (z.known && z.cells.length == size && ys.all (okEl size) && decide (bytes ≤ 4096) && decide (σ.lo ≤ r)) = true ∧ ys ≠ [] ∧ n + ys.length ≤ lim ∧ 0 < c ∧ n ≤ c) ∧
    (n + ys.length ≤ c → ∃ cs', cs' = cs.take (n * size) ++ flat ys ++ cs.drop (n * size + (flat ys).length) ∧ gsetK σ r (.box e cs') fun s => K (.rs r 0 size (n + ys.length) c) s) ∧
    (c < n + ys.length → ∀ cap cs', n + ys.length ≤ cap → cs' = cs.take (n * size) ++ flat ys ++ List.replicate ((cap - (n + ys.length)) * size) .any → gnewK σ (.box e cs') fun s => K (.rs σ.objs.length 0 size (n + ys.length) cap) s)
def nextIt (o : Oper) : Option Operand :=
  match o.guard, o.op with
  | none, .next it false => some it
  | _, _ => none
structure GNexts (σ : GS) (r m since : Nat) (seen : List Nat) (last : Nat) (es : List (GV × GV)) (bs : List Nat) (clk : Nat) (K : GV → GS → Prop) : Prop where
  ok : σ.lo ≤ r ∧ (bs.all fun b => Nat.blt b since) = true ∧ since ≤ last
  over : (∀ b ∈ bs, b ∈ seen) → K (.tup [.b false]) σ
  step : ∀ (i : Nat) k v b, es[i]? = some (k, v) → bs[i]? = some b → ¬ b ∈ seen → gsetK σ r (.it (some m) since (b :: seen) clk) fun s => K (.tup [.b true, k, v]) s
def gnextK (it : GV) (σ : GS) (K : GV → GS → Prop) : Prop :=
  match it with
  | .ptr r 0 => match σ.objs[r]? with
    | some (.it (some m) since seen last) => match σ.objs[m]? with
      | some (.mx es bs clk) => GNexts σ r m since seen last es bs clk K
      | _ => False
    | _ => False
  | _ => False
theorem gnextK_sound {P : Program} {w0 w : World} {C : Cx} {σ : GS} {it : GV} {vit : Value} {ty : TypeId} {K : GV → GS → Prop} (h : Rel C σ w0 w) (hit : VR C it vit) (hg : gnextK it σ K) :
    ∃ g σ' v w', K g σ' ∧ σ'.ds = σ.ds ∧ Rel C σ' w0 w' ∧ VR C g v ∧ (Instr.next vit false ty).run P w = .ok v w' := by
  unfold gnextK at hg
  split at hg
  · rename_i r
    cases hit with
    | ptr hbk =>
    rename_i b
    split at hg
    · rename_i m since seen last ho
      obtain ⟨hown, b', mb, hb', hh, hmb⟩ := h.obj r _ ho
      rw [hbk] at hb'; cases hb'
      obtain ⟨c, rfl, hc⟩ := hmb m rfl
      have hr : r < σ.objs.length := (List.getElem?_eq_some_iff.1 ho).1
      split at hg
      · rename_i es bs clk hom
        obtain ⟨_, b2, ents, hb2, hheap, hbn, hks, hvs⟩ := h.obj m _ hom
        rw [hc] at hb2; cases hb2
        obtain ⟨⟨hlo, hall, hsl⟩, hover, hstep⟩ := hg
        rw [List.all_eq_true] at hall
        have hold : ∀ x ∈ ents.toList, x.born < since := fun x hx => Nat.le_of_ble_eq_true (hall x.born (by rw [← hbn]; exact List.mem_map_of_mem hx))
        rcases run_next_at (P := P) w ty _ _ since last seen.reverse.toArray ents clk hh hheap hold hsl with ⟨h0, hrun⟩ | ⟨e, he, w1, hw1, hrun⟩
        · refine ⟨_, _, _, w, hover (fun b hb => ?_), rfl, h, tup1f, hrun⟩
          rw [← hbn] at hb
          obtain ⟨x, hx, rfl⟩ := List.mem_map.1 hb
          have := all_seen ents seen.reverse.toArray h0 x hx
          simpa using this
        · obtain ⟨hem, hes⟩ := mem_left he
          obtain ⟨i, hi⟩ := List.getElem?_of_mem hem
          have hlen : ents.toList.length = es.length := by have := hks.1; simpa using this
          have hil : i < es.length := by rw [← hlen]; exact (List.getElem?_eq_some_iff.1 hi).1
          have hei : es[i]? = some es[i] := List.getElem?_eq_getElem hil
          have hbi : bs[i]? = some e.born := by rw [← hbn, List.getElem?_map, hi]; rfl
          have hk := hks.2 i _ e.key (by rw [List.getElem?_map, hei]; rfl) (by rw [List.getElem?_map, hi]; rfl)
          have hv := hvs.2 i _ e.val (by rw [List.getElem?_map, hei]; rfl) (by rw [List.getElem?_map, hi]; rfl)
          have hns : ¬ e.born ∈ seen := fun hm => by
            have : seen.reverse.toArray.contains e.born = true := by simpa using hm
            rw [this] at hes; cases hes
          have hK := gsetK_of (K := fun s => K (.tup [.b true, es[i].1, es[i].2]) s) (hstep i es[i].1 es[i].2 e.born hei hbi hns)
          have h1 : Rel C σ w0 w1 := by
            rcases hw1 with rfl | rfl
            · exact h
            · exact h.drew
          have hh1 : w1.heap[b]? = some (Obj.mapIter (some c) since seen.reverse.toArray last) := by
            rcases hw1 with rfl | rfl <;> exact hh
          refine ⟨_, _, _, _, hK, rfl, h1.setIt hr hbk hown hh1 since (e.born :: seen) clk hmb, tup3 hk hv, ?_⟩
          rw [hrun]
          simp [ChangeMaps.setBlock]
      · exact hg.elim
    · exact hg.elim
  · exact hg.elim
def gplainStep (P : Program) (M : FuncId → Bool) (dz : Bool) (n : Nat) (ops : Array Oper) (o : Oper) (ih : GRun) : GRun := fun φ σ K =>
  match rsApp o with
  | none => (match nextIt o with
    | none => gopsStep P M dz n ops o ih φ σ K
    | some it => (o.dst.all fun d => Nat.blt d n) = true ∧ gnextK (geval φ it) σ fun g σ' => gputK φ o.dst g fun φ => ih φ σ' K)
  | some q => match geval φ q.2.2.1 with
    | .rs r 0 (sz + 1) m c => (o.dst.all fun d => Nat.blt d n) = true ∧ GAppRs P q.1 q.2.1 r (sz + 1) m c (geval φ q.2.2.2) σ fun g σ' => gputK φ o.dst g fun φ => ih φ σ' K
    | _ => gopsStep P M dz n ops o ih φ σ K
def gplainK (P : Program) (M : FuncId → Bool) (dz : Bool) (n : Nat) (ops : Array Oper) (l : List Oper) : GRun :=
  List.rec (motive := fun _ => GRun) (fun φ σ K => K .normal φ σ) (fun o _ ih => gplainStep P M dz n ops o ih) l
theorem gplainK_sound {ro : Option Nat} {dz : Bool} (hdz : dz = true → ro = none) {Q : Exit → Act → World → Prop} {K : GX → Fr → GS → Prop} : ∀ (l : List Oper) (C : Cx) (φ : Fr) (σ : GS) (a : Act) (w : World),
    gplainK P M dz n ops l φ σ K → Rel C σ w0 w → FRel C φ a → a.tmps.size = n → DRel C σ.ds a.defers → (∀ x φ' σ', K x φ' σ' → QOk w0 C Q n x φ' σ') → wpListIn (FW ro) 0 P ops Q l a w
  | [], C, φ, σ, a, w, hg, hr, hf, hn, hd0, hq => hq _ _ _ hg C a w (.refl C) hf hn hd0 hr
  | o :: l, C, φ, σ, a, w, hg, hr, hf, hn, hd0, hq => by
    have ih := fun (C : Cx) (φ : Fr) (σ : GS) (a : Act) (w : World) h1 h2 h3 h4 h5 (hq : ∀ x φ' σ', K x φ' σ' → QOk w0 C Q n x φ' σ') => gplainK_sound (ro := ro) hdz (K := K) l C φ σ a w h1 h2 h3 h4 h5 hq
    replace hg : gplainStep P M dz n ops o (gplainK P M dz n ops l) φ σ K := hg
    unfold gplainStep at hg
    split at hg
    · split at hg
      · exact gopsStep_sound hdz ih C φ σ a w hg hr hf hn hd0 hq
      · rename_i it hit
        obtain ⟨hd, hg⟩ := hg
        replace hd := dst_ok hd
        unfold nextIt at hit
        split at hit
        · rename_i it' hgd hop
          cases hit
          obtain ⟨g, σ1, v, w', hk, hds, hr', hv, hrn⟩ := gnextK_sound (P := P) (ty := o.type) hr (geval_sound hf it) hg
          unfold wpListIn
          rw [gwanted_sound hf (show gwanted ops o φ = some true by unfold gwanted; rw [hgd])]
          simp only [if_true]
          have hnd : ∀ c, o.op ≠ .defer c := fun c e => by rw [hop] at e; cases e
          refine ⟨fun f _ => trivial, ?_⟩
          have hrun : (execOp a.eval o).run P w = .ok (.value v) w' := by
            unfold execOp
            rw [hop]
            simp [hrn]
          rw [Oper.semAt_eq _ _ _ hnd, hrun]
          replace hk := gputK_of (K := fun φ => gplainK P M dz n ops l φ σ1 K) hk
          obtain ⟨h1, h2, h3⟩ := hf.put hv hn hd
          exact ih C _ σ1 _ w' hk hr' h1 h2 (by rw [h3, hds]; exact hd0) hq
        · cases hit
    · rename_i q hq0
      split at hg
      · rename_i r sz m c hs
        obtain ⟨hd, ⟨e, bytes, z, cs, ys, ⟨p1, p2, p3, p4, p5, p6, p7⟩, ⟨q1, q2, q3, q4, q5, q6⟩, k1, k2⟩⟩ := hg
        simp only [Bool.and_eq_true, decide_eq_true_eq, beq_iff_eq, List.all_eq_true] at q2
        obtain ⟨⟨⟨⟨q2, q7⟩, q8⟩, q9⟩, q10⟩ := q2
        replace hd := dst_ok hd
        obtain ⟨t, u, s, x⟩ := q
        unfold rsApp at hq0
        split at hq0
        · rename_i args ts hgd hop
          split at hq0
          · rename_i s' x' t' u' hargs hts
            cases hq0
            have hvs := geval_sound hf s
            rw [hs] at hvs
            have ea : args = #[s, x] := by rw [← Array.toList_inj]; exact hargs
            have et : ts = #[t, u] := by rw [← Array.toList_inj]; exact hts
            have hrun : ∀ v w', (Builtin.append_ #[t, u] o.type #[a.eval s, a.eval x]).run P w = .ok v w' → (execOp a.eval o).run P w = .ok (.value v) w' := fun v w' hr' => by
              unfold execOp
              rw [hop, ea, et]
              simp [resolve, invoke, builtin, hr']
            have hput : ∀ {σ1 : GS} {g : GV}, σ1.ds = σ.ds → (gputK φ o.dst g fun φ => gplainK P M dz n ops l φ σ1 K) → Runs P C w0 w σ1 g (Builtin.append_ #[t, u] o.type #[a.eval s, a.eval x]) → wpListIn (FW ro) 0 P ops Q (o :: l) a w := fun {σ1 g} hds hk hR => by
              obtain ⟨D, v, w', hl, hr', hv, hrn⟩ := hR
              unfold wpListIn
              rw [gwanted_sound hf (show gwanted ops o φ = some true by unfold gwanted; rw [hgd])]
              simp only [if_true]
              have hnd : ∀ c, o.op ≠ .defer c := fun c e => by rw [hop] at e; cases e
              refine ⟨fun f _ => trivial, ?_⟩
              rw [Oper.semAt_eq _ _ _ hnd, hrun v w' hrn]
              replace hk := gputK_of (K := fun φ => gplainK P M dz n ops l φ σ1 K) hk
              obtain ⟨h1, h2, h3⟩ := (hf.mono hl).put hv hn hd
              exact ih D _ σ1 _ w' hk hr' h1 h2 (by rw [h3, hds]; exact hd0.mono hl) (fun x φ' σ' hk => (hq x φ' σ' hk).mono hl)
            rcases gappRs_sound (ty := o.type) hr hvs (geval_sound hf x) p1 q1 p2 p3 p4 p5 p6 q2 q7 q3 q8 q4 q9 q5 p7 q6 with ⟨h1, hR⟩ | ⟨h1, cap, h2, hR⟩
            · obtain ⟨cs', rfl, hk⟩ := k1 h1
              exact hput (σ1 := gset σ r _) rfl (gsetK_of (K := fun s => gputK φ o.dst _ fun φ => gplainK P M dz n ops l φ s K) hk) hR
            · exact hput (σ1 := gnew σ _) rfl (gnewK_of (K := fun s => gputK φ o.dst _ fun φ => gplainK P M dz n ops l φ s K) (k2 h1 cap _ h2 rfl)) hR
          · cases hq0
        · cases hq0
      · exact gopsStep_sound hdz ih C φ σ a w hg hr hf hn hd0 hq
def normK (K : GX → Fr → GS → Prop) : GX → Fr → GS → Prop
  | .normal, φ, σ => K .normal φ σ
  | _, _, _ => False
theorem gopsK_trace {K : GX → Fr → GS → Prop} : ∀ (l : List Oper) (k : Nat) (φ : Fr) (σ : GS), (∀ j : Nat, l[j]? = ops[k + j]?) → gopsK P M false n ops l φ σ (normK K) →
    ∃ (call : Nat → GCall) (Φ : Nat → Fr) (S : Nat → GS) (G : Nat → GV), (∀ i w0, CallSound P w0 (call i)) ∧ (∀ i, PureCall M (call i)) ∧ Φ k = φ ∧ S k = σ ∧ K .normal (Φ (k + l.length)) (S (k + l.length)) ∧
      ∀ (i : Nat) o, k ≤ i → ops[i]? = some o → (o.dst.all fun d => decide (d < n)) = true ∧ Φ (i + 1) = fputo (Φ i) o.dst (G i) ∧
        ((gwanted ops o (Φ i) = some false ∧ G i = .tup [] ∧ S (i + 1) = S i) ∨ (gwanted ops o (Φ i) = some true ∧ goper P (call i) o (geval (Φ i)) (S i) = some (.val (G i), S (i + 1))))
  | [], k, φ, σ, hl, hg => by
    refine ⟨fun _ _ _ _ => none, fun _ => φ, fun _ => σ, fun _ => .any, fun _ => noCall_sound, fun _ => noCall_pure, rfl, rfl, hg, fun i o hi ho => ?_⟩
    have := hl (i - k)
    rw [show k + (i - k) = i by omega, ho] at this
    simp at this
  | o :: l, k, φ, σ, hl, hg => by
    have ho : ops[k]? = some o := by have := hl 0; simpa using this.symm
    rw [gopsK_cons] at hg
    unfold gopsStep at hg
    split at hg
    · rename_i hd
      replace hd := dst_ok hd
      have go : ∀ (c0 : GCall) (g : GV) (σ1 : GS), (∀ w0, CallSound P w0 c0) → PureCall M c0 → gopsK P M false n ops l (fputo φ o.dst g) σ1 (normK K) →
          ((gwanted ops o φ = some false ∧ g = .tup [] ∧ σ1 = σ) ∨ (gwanted ops o φ = some true ∧ goper P c0 o (geval φ) σ = some (.val g, σ1))) →
          ∃ (call : Nat → GCall) (Φ : Nat → Fr) (S : Nat → GS) (G : Nat → GV), (∀ i w0, CallSound P w0 (call i)) ∧ (∀ i, PureCall M (call i)) ∧ Φ k = φ ∧ S k = σ ∧ K .normal (Φ (k + (o :: l).length)) (S (k + (o :: l).length)) ∧
            ∀ (i : Nat) o, k ≤ i → ops[i]? = some o → (o.dst.all fun d => decide (d < n)) = true ∧ Φ (i + 1) = fputo (Φ i) o.dst (G i) ∧
              ((gwanted ops o (Φ i) = some false ∧ G i = .tup [] ∧ S (i + 1) = S i) ∨ (gwanted ops o (Φ i) = some true ∧ goper P (call i) o (geval (Φ i)) (S i) = some (.val (G i), S (i + 1)))) := by
        intro c0 g σ1 hc0 hp0 hrest hstep
        obtain ⟨call, Φ, S, G, hc, hp, e1, e2, e3, e5⟩ := gopsK_trace l (k + 1) _ σ1 (fun j => by have := hl (j + 1); rw [show k + 1 + j = k + (j + 1) by omega]; simpa using this) hrest
        refine ⟨fun i => if i = k then c0 else call i, fun i => if i = k then φ else Φ i, fun i => if i = k then σ else S i, fun i => if i = k then g else G i, fun i => ?_, fun i => ?_, if_pos rfl, if_pos rfl, ?_, fun i o' hi ho' => ?_⟩
        · show ∀ w0, CallSound P w0 (if i = k then c0 else call i)
          split
          · exact hc0
          · exact hc i
        · show PureCall M (if i = k then c0 else call i)
          split
          · exact hp0
          · exact hp i
        · show K .normal (if k + (l.length + 1) = k then φ else Φ (k + (l.length + 1))) (if k + (l.length + 1) = k then σ else S (k + (l.length + 1)))
          rw [if_neg (by omega), if_neg (by omega), show k + (l.length + 1) = k + 1 + l.length by omega]; exact e3
        · by_cases hik : i = k
          · subst hik
            rw [ho] at ho'; cases ho'
            simp only [if_true, if_neg (show i + 1 ≠ i by omega), e1, e2]
            exact ⟨hd, trivial, hstep⟩
          · simp only [if_neg hik, if_neg (show i + 1 ≠ k by omega)]
            exact e5 i o' (by omega) ho'
      obtain ⟨b, hw, hg⟩ := gwantK_of hg
      cases b with
      | false => exact go _ (.tup []) σ noCall_sound noCall_pure (gputK_of (K := fun φ => gopsK P M false n ops l φ σ (normK K)) hg) (.inl ⟨hw, rfl, rfl⟩)
      | true =>
        simp only [Bool.false_eq_true, if_false] at hg
        obtain ⟨r, σ1, ⟨call, hcall, hpure, hop⟩, hg⟩ := goperK_of hg
        cases r with
        | val g => exact go call g σ1 hcall hpure (gputK_of (K := fun φ => gopsK P M false n ops l φ σ1 (normK K)) hg) (.inr ⟨hw, hop⟩)
        | panic g => exact hg.elim
    · exact hg.elim
theorem gopsK_traceN {K : GX → Fr → GS → Prop} : ∀ (l : List Oper) (k : Nat) (φ : Fr) (σ : GS), (∀ j : Nat, j < l.length → l[j]? = ops[k + j]?) → gopsK P M false n ops l φ σ (normK K) →
    ∃ (call : Nat → GCall) (Φ : Nat → Fr) (S : Nat → GS) (G : Nat → GV), (∀ i w0, CallSound P w0 (call i)) ∧ (∀ i, PureCall M (call i)) ∧ Φ k = φ ∧ S k = σ ∧ K .normal (Φ (k + l.length)) (S (k + l.length)) ∧
      ∀ (i : Nat) o, k ≤ i → i < k + l.length → ops[i]? = some o → (o.dst.all fun d => decide (d < n)) = true ∧ Φ (i + 1) = fputo (Φ i) o.dst (G i) ∧
        ((gwanted ops o (Φ i) = some false ∧ G i = .tup [] ∧ S (i + 1) = S i) ∨ (gwanted ops o (Φ i) = some true ∧ goper P (call i) o (geval (Φ i)) (S i) = some (.val (G i), S (i + 1))))
  | [], k, φ, σ, hl, hg => by
    refine ⟨fun _ _ _ _ => none, fun _ => φ, fun _ => σ, fun _ => .any, fun _ => noCall_sound, fun _ => noCall_pure, rfl, rfl, hg, fun i o hi hi2 ho => ?_⟩
    simp at hi2; omega
  | o :: l, k, φ, σ, hl, hg => by
    have ho : ops[k]? = some o := by have := hl 0 (by simp); simpa using this.symm
    rw [gopsK_cons] at hg
    unfold gopsStep at hg
    split at hg
    · rename_i hd
      replace hd := dst_ok hd
      have go : ∀ (c0 : GCall) (g : GV) (σ1 : GS), (∀ w0, CallSound P w0 c0) → PureCall M c0 → gopsK P M false n ops l (fputo φ o.dst g) σ1 (normK K) →
          ((gwanted ops o φ = some false ∧ g = .tup [] ∧ σ1 = σ) ∨ (gwanted ops o φ = some true ∧ goper P c0 o (geval φ) σ = some (.val g, σ1))) →
          ∃ (call : Nat → GCall) (Φ : Nat → Fr) (S : Nat → GS) (G : Nat → GV), (∀ i w0, CallSound P w0 (call i)) ∧ (∀ i, PureCall M (call i)) ∧ Φ k = φ ∧ S k = σ ∧ K .normal (Φ (k + (o :: l).length)) (S (k + (o :: l).length)) ∧
            ∀ (i : Nat) o', k ≤ i → i < k + (o :: l).length → ops[i]? = some o' → (o'.dst.all fun d => decide (d < n)) = true ∧ Φ (i + 1) = fputo (Φ i) o'.dst (G i) ∧
              ((gwanted ops o' (Φ i) = some false ∧ G i = .tup [] ∧ S (i + 1) = S i) ∨ (gwanted ops o' (Φ i) = some true ∧ goper P (call i) o' (geval (Φ i)) (S i) = some (.val (G i), S (i + 1)))) := by
        intro c0 g σ1 hc0 hp0 hrest hstep
        obtain ⟨call, Φ, S, G, hc, hp, e1, e2, e3, e5⟩ := gopsK_traceN l (k + 1) _ σ1 (fun j hj => by have := hl (j + 1) (by simp; omega); rw [show k + 1 + j = k + (j + 1) by omega]; simpa using this) hrest
        refine ⟨fun i => if i = k then c0 else call i, fun i => if i = k then φ else Φ i, fun i => if i = k then σ else S i, fun i => if i = k then g else G i, fun i => ?_, fun i => ?_, if_pos rfl, if_pos rfl, ?_, fun i o' hi hi2 ho' => ?_⟩
        · show ∀ w0, CallSound P w0 (if i = k then c0 else call i)
          split
          · exact hc0
          · exact hc i
        · show PureCall M (if i = k then c0 else call i)
          split
          · exact hp0
          · exact hp i
        · show K .normal (if k + (l.length + 1) = k then φ else Φ (k + (l.length + 1))) (if k + (l.length + 1) = k then σ else S (k + (l.length + 1)))
          rw [if_neg (by omega), if_neg (by omega), show k + (l.length + 1) = k + 1 + l.length by omega]; exact e3
        · by_cases hik : i = k
          · subst hik
            rw [ho] at ho'; cases ho'
            simp only [if_true, if_neg (show i + 1 ≠ i by omega), e1, e2]
            exact ⟨hd, trivial, hstep⟩
          · simp only [if_neg hik, if_neg (show i + 1 ≠ k by omega)]
            exact e5 i o' (by omega) (by simp at hi2; omega) ho'
      obtain ⟨b, hw, hg⟩ := gwantK_of hg
      cases b with
      | false => exact go _ (.tup []) σ noCall_sound noCall_pure (gputK_of (K := fun φ => gopsK P M false n ops l φ σ (normK K)) hg) (.inl ⟨hw, rfl, rfl⟩)
      | true =>
        simp only [Bool.false_eq_true, if_false] at hg
        obtain ⟨r, σ1, ⟨call, hcall, hpure, hop⟩, hg⟩ := goperK_of hg
        cases r with
        | val g => exact go call g σ1 hcall hpure (gputK_of (K := fun φ => gopsK P M false n ops l φ σ1 (normK K)) hg) (.inr ⟨hw, hop⟩)
        | panic g => exact hg.elim
    · exact hg.elim
def gstepK (P : Program) (M : FuncId → Bool) (T : Nat → Option Nat) (Mk : Nat → List Nat) (i : Nat) (o : Oper) (φ : Fr) (σ : GS) (K : GV → GS → Prop) : Prop :=
  let V : GRes → GS → Prop := fun r s => match r with | .val g => K g s | .panic _ => False
  match opClass M o.op with
  | 0 => goperK P M o (geval φ) σ V
  | 1 => if gtarget (geval φ) o.op = T i ∨ T i = some unk then goperK P M o (geval φ) σ V else False
  | 2 => if gtarget (geval φ) o.op = T i then goperK P M o (geval φ) σ V else False
  | 3 => match gnewopD P (geval φ) o.op, T i with
    | some f, some r => match σ.objs[r]? with
      | some .free => if σ.lo ≤ r then gsetK σ r f.2 fun s => K (f.1 r) s else False
      | _ => False
    | _, _ => False
  | 4 => goperK P M o (geval φ) (gmask (Mk i) σ) fun r s => match r with | .val g => K g (gunmask (Mk i) σ s) | .panic _ => False
  | _ => False
theorem gstepK_of {T : Nat → Option Nat} {Mk : Nat → List Nat} {i : Nat} {o : Oper} {φ : Fr} {σ : GS} {K : GV → GS → Prop} (h : gstepK P M T Mk i o φ σ K) :
    ∃ (call : GCall) (g : GV) (σ' : GS), ((∀ w0, CallSound P w0 call) ∧ PureCall M call) ∧ gstep P M call T Mk i o φ σ = some (g, σ') ∧ K g σ' := by
  unfold gstepK at h
  simp only at h
  split at h
  · rename_i hc
    obtain ⟨r, σ1, ⟨call, hcall, hpu, hop⟩, hk⟩ := goperK_of h
    cases r with
    | val g => exact ⟨call, g, σ1, ⟨hcall, hpu⟩, by unfold gstep; rw [hc]; simp only [hop, gval], hk⟩
    | panic g => exact hk.elim
  · rename_i hc
    split at h
    · rename_i ht
      obtain ⟨r, σ1, ⟨call, hcall, hpu, hop⟩, hk⟩ := goperK_of h
      cases r with
      | val g => exact ⟨call, g, σ1, ⟨hcall, hpu⟩, by unfold gstep; rw [hc]; simp only [if_pos ht, hop, gval], hk⟩
      | panic g => exact hk.elim
    · exact h.elim
  · rename_i hc
    split at h
    · rename_i ht
      obtain ⟨r, σ1, ⟨call, hcall, hpu, hop⟩, hk⟩ := goperK_of h
      cases r with
      | val g => exact ⟨call, g, σ1, ⟨hcall, hpu⟩, by unfold gstep; rw [hc]; simp only [if_pos ht, hop, gval], hk⟩
      | panic g => exact hk.elim
    · exact h.elim
  · rename_i hc
    split at h
    · rename_i f r hf hT
      split at h
      · rename_i hfree
        split at h
        · rename_i hlo
          exact ⟨_, _, _, ⟨noCall_sound, noCall_pure⟩, by unfold gstep; rw [hc]; simp only [hf, hT, hfree, if_pos hlo], gsetK_of (K := fun s => K _ s) h⟩
        · exact h.elim
      · exact h.elim
    · exact h.elim
  · rename_i hc
    obtain ⟨r, σ1, ⟨call, hcall, hpu, hop⟩, hk⟩ := goperK_of h
    cases r with
    | val g => exact ⟨call, g, _, ⟨hcall, hpu⟩, by unfold gstep; rw [hc]; simp only [hop, gval], hk⟩
    | panic g => exact hk.elim
  · exact h.elim
def gblindK (P : Program) (o : Oper) (ρ : Operand → GV) (σ : GS) (K : GV → GS → Prop) : Prop :=
  match o.op with
  | .call { callee := .value f, args, .. } => match ρ f with
    | .fn (.func k) first cap => if callable P k then ∃ g, (∀ τ : GS, τ.lo = σ.lo → Fact P (.fn k) (first ++ args.toList.map ρ ++ cap) τ (.val g) τ) ∧ K g σ else False
    | _ => False
  | _ => False
open Classical in
noncomputable def blindCall (t : Tgt) (args : List GV) (lo : Nat) (g : GV) : GCall := fun t' a' s' => if t' = t ∧ a' = args ∧ s'.lo = lo then some (.val g, s') else none
theorem gblindK_of {o : Oper} {ρ : Operand → GV} {σ : GS} {K : GV → GS → Prop} (h : gblindK P o ρ σ K) :
    ∃ (call : GCall) (g : GV), ((∀ w0, CallSound P w0 call) ∧ PureCall M call) ∧ (∀ τ : GS, τ.lo = σ.lo → goper P call o ρ τ = some (.val g, τ)) ∧ K g σ := by
  unfold gblindK at h
  split at h
  · rename_i f args ts hop
    split at h
    · rename_i k first cap hf
      split at h
      · rename_i hk
        obtain ⟨g, hfact, hK⟩ := h
        refine ⟨blindCall (.fn k) (first ++ args.toList.map ρ ++ cap) σ.lo g, g, ⟨fun w0 t' a' s r' s' hc => ?_, fun k' hk' t' ht' a' s r' s' hc => ?_⟩, fun τ hτ => ?_, hK⟩
        · unfold blindCall at hc
          split at hc
          · rename_i hc1
            obtain ⟨rfl, rfl, hlo⟩ := hc1
            cases hc
            exact ⟨(hfact _ hlo).keep, (hfact _ hlo).ds, (hfact _ hlo).calls w0⟩
          · cases hc
        · unfold blindCall at hc
          split at hc
          · cases hc; rfl
          · cases hc
        · unfold goper
          simp only [hop, hf]
          rw [if_pos hk]
          exact if_pos ⟨rfl, rfl, hτ⟩
      · exact h.elim
    · exact h.elim
  · exact h.elim
def gstepBK (P : Program) (M : FuncId → Bool) (B : Nat → Bool) (T : Nat → Option Nat) (Mk : Nat → List Nat) (i : Nat) (o : Oper) (φ : Fr) (σ : GS) (K : GV → GS → Prop) : Prop :=
  bif B i then gblindK P o (geval φ) σ K else gstepK P M T Mk i o φ σ K
theorem gstepBK_of {B : Nat → Bool} {T : Nat → Option Nat} {Mk : Nat → List Nat} {i : Nat} {o : Oper} {φ : Fr} {σ : GS} {K : GV → GS → Prop} (h : gstepBK P M B T Mk i o φ σ K) :
    ∃ (call : GCall) (g : GV) (σ' : GS), ((∀ w0, CallSound P w0 call) ∧ PureCall M call) ∧
      ((B i = false ∧ gstep P M call T Mk i o φ σ = some (g, σ')) ∨ (B i = true ∧ σ' = σ ∧ ∀ τ : GS, τ.lo = σ.lo → goper P call o (geval φ) τ = some (.val g, τ))) ∧ K g σ' := by
  unfold gstepBK at h
  cases hb : B i with
  | true =>
    rw [hb] at h
    obtain ⟨call, g, hc, hf, hk⟩ := gblindK_of (M := M) h
    exact ⟨call, g, σ, hc, .inr ⟨rfl, rfl, hf⟩, hk⟩
  | false =>
    rw [hb] at h
    obtain ⟨call, g, σ', hc, hs, hk⟩ := gstepK_of h
    exact ⟨call, g, σ', hc, .inl ⟨rfl, hs⟩, hk⟩
def gstepsK (P : Program) (M : FuncId → Bool) (B : Nat → Bool) (T : Nat → Option Nat) (Mk : Nat → List Nat) (n : Nat) (ops : Array Oper) (l : List Oper) : Nat → GRun :=
  List.rec (motive := fun _ => Nat → GRun) (fun _ φ σ K => K .normal φ σ) (fun o _ ih i φ σ K =>
    if (o.dst.all fun d => Nat.blt d n) then
      gwantK ops o φ fun b φ => match b with
      | false => gputK φ o.dst (.tup []) fun φ => ih (i + 1) φ σ K
      | true => gstepBK P M B T Mk i o φ σ fun g σ' => gputK φ o.dst g fun φ => ih (i + 1) φ σ' K
    else False) l
theorem gstepsK_cons {B : Nat → Bool} {T : Nat → Option Nat} {Mk : Nat → List Nat} {o : Oper} {l : List Oper} {i : Nat} {φ : Fr} {σ : GS} {K : GX → Fr → GS → Prop} :
    gstepsK P M B T Mk n ops (o :: l) i φ σ K = if (o.dst.all fun d => Nat.blt d n) then
      gwantK ops o φ fun b φ => match b with
      | false => gputK φ o.dst (.tup []) fun φ => gstepsK P M B T Mk n ops l (i + 1) φ σ K
      | true => gstepBK P M B T Mk i o φ σ fun g σ' => gputK φ o.dst g fun φ => gstepsK P M B T Mk n ops l (i + 1) φ σ' K
    else False := rfl
theorem gstepsK_trace {B : Nat → Bool} {T : Nat → Option Nat} {Mk : Nat → List Nat} {K : GX → Fr → GS → Prop} : ∀ (l : List Oper) (k : Nat) (φ : Fr) (σ : GS), (∀ j : Nat, l[j]? = ops[k + j]?) → gstepsK P M B T Mk n ops l k φ σ K →
    ∃ (call : Nat → GCall) (Φ : Nat → Fr) (S : Nat → GS) (G : Nat → GV), (∀ i, (∀ w0, CallSound P w0 (call i)) ∧ PureCall M (call i)) ∧ Φ k = φ ∧ S k = σ ∧ K .normal (Φ (k + l.length)) (S (k + l.length)) ∧
      ∀ (i : Nat) o, k ≤ i → ops[i]? = some o → (o.dst.all fun d => decide (d < n)) = true ∧ Φ (i + 1) = fputo (Φ i) o.dst (G i) ∧
        ((gwanted ops o (Φ i) = some false ∧ G i = .tup [] ∧ S (i + 1) = S i) ∨ (gwanted ops o (Φ i) = some true ∧ B i = false ∧ gstep P M (call i) T Mk i o (Φ i) (S i) = some (G i, S (i + 1))) ∨
          (gwanted ops o (Φ i) = some true ∧ B i = true ∧ S (i + 1) = S i ∧ ∀ τ : GS, τ.lo = (S i).lo → goper P (call i) o (geval (Φ i)) τ = some (.val (G i), τ)))
  | [], k, φ, σ, hl, hg => by
    refine ⟨fun _ _ _ _ => none, fun _ => φ, fun _ => σ, fun _ => .any, fun _ => ⟨noCall_sound, noCall_pure⟩, rfl, rfl, hg, fun i o hi ho => ?_⟩
    have := hl (i - k)
    rw [show k + (i - k) = i by omega, ho] at this
    simp at this
  | o :: l, k, φ, σ, hl, hg => by
    have ho : ops[k]? = some o := by have := hl 0; simpa using this.symm
    rw [gstepsK_cons] at hg
    split at hg
    · rename_i hd
      replace hd := dst_ok hd
      have go : ∀ (c0 : GCall) (g : GV) (σ1 : GS), ((∀ w0, CallSound P w0 c0) ∧ PureCall M c0) → gstepsK P M B T Mk n ops l (k + 1) (fputo φ o.dst g) σ1 K →
          ((gwanted ops o φ = some false ∧ g = .tup [] ∧ σ1 = σ) ∨ (gwanted ops o φ = some true ∧ B k = false ∧ gstep P M c0 T Mk k o φ σ = some (g, σ1)) ∨ (gwanted ops o φ = some true ∧ B k = true ∧ σ1 = σ ∧ ∀ τ : GS, τ.lo = σ.lo → goper P c0 o (geval φ) τ = some (.val g, τ))) →
          ∃ (call : Nat → GCall) (Φ : Nat → Fr) (S : Nat → GS) (G : Nat → GV), (∀ i, (∀ w0, CallSound P w0 (call i)) ∧ PureCall M (call i)) ∧ Φ k = φ ∧ S k = σ ∧ K .normal (Φ (k + (o :: l).length)) (S (k + (o :: l).length)) ∧
            ∀ (i : Nat) o, k ≤ i → ops[i]? = some o → (o.dst.all fun d => decide (d < n)) = true ∧ Φ (i + 1) = fputo (Φ i) o.dst (G i) ∧
              ((gwanted ops o (Φ i) = some false ∧ G i = .tup [] ∧ S (i + 1) = S i) ∨ (gwanted ops o (Φ i) = some true ∧ B i = false ∧ gstep P M (call i) T Mk i o (Φ i) (S i) = some (G i, S (i + 1))) ∨
          (gwanted ops o (Φ i) = some true ∧ B i = true ∧ S (i + 1) = S i ∧ ∀ τ : GS, τ.lo = (S i).lo → goper P (call i) o (geval (Φ i)) τ = some (.val (G i), τ))) := by
        intro c0 g σ1 hc0 hrest hstep
        obtain ⟨call, Φ, S, G, hc, e1, e2, e3, e5⟩ := gstepsK_trace l (k + 1) _ σ1 (fun j => by have := hl (j + 1); rw [show k + 1 + j = k + (j + 1) by omega]; simpa using this) hrest
        refine ⟨fun i => if i = k then c0 else call i, fun i => if i = k then φ else Φ i, fun i => if i = k then σ else S i, fun i => if i = k then g else G i, fun i => ?_, if_pos rfl, if_pos rfl, ?_, fun i o' hi ho' => ?_⟩
        · show (∀ w0, CallSound P w0 (if i = k then c0 else call i)) ∧ PureCall M (if i = k then c0 else call i)
          split
          · exact hc0
          · exact hc i
        · show K .normal (if k + (l.length + 1) = k then φ else Φ (k + (l.length + 1))) (if k + (l.length + 1) = k then σ else S (k + (l.length + 1)))
          rw [if_neg (by omega), if_neg (by omega), show k + (l.length + 1) = k + 1 + l.length by omega]; exact e3
        · by_cases hik : i = k
          · subst hik
            rw [ho] at ho'; cases ho'
            simp only [if_true, if_neg (show i + 1 ≠ i by omega), e1, e2]
            exact ⟨hd, trivial, hstep⟩
          · simp only [if_neg hik, if_neg (show i + 1 ≠ k by omega)]
            exact e5 i o' (by omega) ho'
      obtain ⟨b, hw, hg⟩ := gwantK_of hg
      cases b with
      | false => exact go _ (.tup []) σ ⟨noCall_sound, noCall_pure⟩ (gputK_of (K := fun φ => gstepsK P M B T Mk n ops l (k + 1) φ σ K) hg) (.inl ⟨hw, rfl, rfl⟩)
      | true =>
        obtain ⟨call, g, σ1, hcall, hop, hg⟩ := gstepBK_of hg
        exact go call g σ1 hcall (gputK_of (K := fun φ => gstepsK P M B T Mk n ops l (k + 1) φ σ1 K) hg) (.inr (hop.imp (fun q => ⟨hw, q⟩) fun q => ⟨hw, q⟩))
    · exact hg.elim
end
def GDef.ren (f : Nat → Nat) : GDef → GDef
  | .fn k a c => .fn k (a.map (GV.ren f)) (c.map (GV.ren f))
  | .coll r => .coll (f r)
def LessO (s s2 : List GObj) : Prop := s2.length = s.length ∧ ∀ (C : Cx) (w : World) (i : Nat) x y, s[i]? = some x → s2[i]? = some y → ORel C w i x → ORel C w i y
theorem LessO.refl (s : List GObj) : LessO s s := ⟨rfl, fun _ _ _ _ _ h1 h2 h => by rw [h1] at h2; cases h2; exact h⟩
theorem LessO.rel {C : Cx} {σ : GS} {w0 w : World} {s : List GObj} (h : LessO σ.objs s) (hr : Rel C σ w0 w) : Rel C { σ with objs := s } w0 w :=
  ⟨hr.below, hr.fxc, fun r y hy => (by
    have hi : r < σ.objs.length := by rw [← h.1]; exact (List.getElem?_eq_some_iff.1 hy).1
    exact h.2 C w r _ y (List.getElem?_eq_getElem hi) hy (hr.obj r _ (List.getElem?_eq_getElem hi))), fun r hd => hr.dom r (by rw [← h.1]; exact hd), hr.new, hr.inj, hr.sepB, hr.sepO, hr.fxn, hr.gl, hr.gs⟩
structure Shr (n0 : Nat) (φ : Fr) (σ : GS) (φ1 : Fr) (σ1 : GS) : Prop where
  ex : ∃ (ks : List Nat) (s : List GObj), LessO σ.objs s ∧ Lies ks σ1.objs s ∧ (∀ i, i < n0 → ks[i]? = some i) ∧ σ.ds = σ1.ds.map (GDef.ren (emb ks σ.objs.length)) ∧ ∀ t, φ t = (φ1 t).ren (emb ks σ.objs.length) ∨ φ1 t = .any
structure GLoop (f : Fr → GS → (GX → Fr → GS → Prop) → Prop) (φ : Fr) (σ : GS) (K : GX → Fr → GS → Prop) : Prop where
  ex : ∃ (I N : Nat → Fr → GS → Prop) (m : Nat), I m φ σ ∧ (∀ m φ' σ', N m φ' σ' → I m φ' σ' ∨ ∃ φ2 σ2, Shr σ.objs.length φ' σ' φ2 σ2 ∧ I m φ2 σ2) ∧ ∀ m φ1 σ1, I m φ1 σ1 → f φ1 σ1 fun x φ' σ' => match x with
    | .normal => ∃ m', m' < m ∧ N m' φ' σ'
    | .exit i => K (.exit i) φ' σ'
    | .ret => K .ret φ' σ'
    | .panic g => K (.panic g) φ' σ'
theorem GDefR.pull {D E : Cx} {f : Nat → Nat} (hfx : ∀ b o v, D.fx b o v → E.fx b o v) (hbk : ∀ i, E.bk i = D.bk (f i)) (hown : ∀ i, E.own i = D.own (f i)) : ∀ {g : GDef} {d : Deferred}, GDefR D (g.ren f) d → GDefR E g d
  | .fn _ _ _, _, ⟨va, vc, e, h1, h2⟩ => ⟨va, vc, e, h1.pull hfx hbk hown, h2.pull hfx hbk hown⟩
  | .coll r, _, ⟨b, h1, e⟩ => ⟨b, (hbk r).trans h1, e⟩
theorem DRel.pull {D E : Cx} {f : Nat → Nat} (hfx : ∀ b o v, D.fx b o v → E.fx b o v) (hbk : ∀ i, E.bk i = D.bk (f i)) (hown : ∀ i, E.own i = D.own (f i)) : ∀ {gs : List GDef} {ds : List Deferred}, DRel D (gs.map (GDef.ren f)) ds → DRel E gs ds
  | [], [], _ => trivial
  | _ :: _, _ :: _, ⟨h1, h2⟩ => ⟨h1.pull hfx hbk hown, DRel.pull hfx hbk hown h2⟩
  | [], _ :: _, h => h.elim
  | _ :: _, [], h => h.elim
theorem Shr.rel {C D : Cx} {w0 w wc : World} {σ0 σ σ1 : GS} {φ φ1 : Fr} {a : Act} (h : Shr σ0.objs.length φ σ φ1 σ1) (hc : Rel C σ0 w0 wc) (hl : C.le D) (hr : Rel D σ w0 w) (hf : FRel D φ a) (hd : DRel D σ.ds a.defers) :
    ∃ E : Cx, C.le E ∧ Rel E σ1 w0 w ∧ FRel E φ1 a ∧ DRel E σ1.ds a.defers := by
  obtain ⟨ks, s, hless, hlies, hpre, hds, hφ⟩ := h.ex
  rw [← hless.1] at hds
  rw [← hless.1] at hφ
  replace hr := hless.rel hr
  have atb : ∀ i, i < σ0.objs.length → emb ks s.length i = i := fun i hi => by
    have h3 := hpre i hi
    obtain ⟨h4, h5⟩ := List.getElem?_eq_some_iff.1 h3
    rw [emb_lt h4, h5]
  have hp := hr.pull hlies
  refine ⟨D.pull (emb ks s.length), ⟨hl.fx, fun i b hb' => ?_, fun i I hI => ?_, hl.hd, hl.fix⟩, ⟨hp.below, hp.fxc, hp.obj, hp.dom, hp.new, hp.inj, hp.sepB, hp.sepO, hp.fxn, hp.gl, hp.gs⟩, fun t => ?_, ?_⟩
  · have hi : i < σ0.objs.length := by
      rcases Nat.lt_or_ge i σ0.objs.length with h4 | h4
      · exact h4
      · rw [(hc.dom i h4).1] at hb'; cases hb'
    show D.bk (emb ks s.length i) = some b
    rw [atb i hi]; exact hl.bk i b hb'
  · have hi : i < σ0.objs.length := by
      rcases Nat.lt_or_ge i σ0.objs.length with h4 | h4
      · exact h4
      · rw [(hc.dom i h4).2] at hI; cases hI
    show ∃ J, D.own (emb ks s.length i) = some J ∧ _
    rw [atb i hi]; exact hl.own i I hI
  · rcases hφ t with e | e
    · have := hf t
      rw [e] at this
      exact this.pull (D := D) (f := emb ks s.length) (E := D.pull (emb ks s.length)) (fun _ _ _ h => h) (fun _ => rfl) (fun _ => rfl) rfl
    · rw [e]; exact .any _
  · rw [hds] at hd
    exact hd.pull (D := D) (f := emb ks s.length) (E := D.pull (emb ks s.length)) (fun _ _ _ h => h) (fun _ => rfl) (fun _ => rfl)
def panK (P : Program) (M : FuncId → Bool) (ops : Array Oper) (op : Oper) (φ : Fr) (σ : GS) (K : GV → GS → Prop) : Prop :=
  gwantK ops op φ fun b φ => match b with
  | true => goperK P M op (geval φ) σ fun r σ' => match r with
    | .panic g => K g σ'
    | .val _ => False
  | false => False
structure GDraw (P : Program) (M : FuncId → Bool) (n : Nat) (ops : Array Oper) (φ : Fr) (σ : GS) (K : GX → Fr → GS → Prop) : Prop where
  ex : ∃ M : FuncId → Bool, (calm M ops = true ∧ gopsK P M false n ops ops.toList φ σ (normK K)) ∨
    (∃ (B : Nat → Bool) (A : List (List Nat)) (TL : List (Option Nat)) (k : Nat), A = ancs ops.toList [] ∧ k = (ops.toList.filter fun o => opClass M o.op == 3).length ∧
      wildB M B ops A TL (σ.objs ++ List.replicate k GObj.free).length = true ∧
      gstepsK P M B (fun i => TL.getD i none) (masks M ops A TL) n ops ops.toList 0 φ { σ with objs := σ.objs ++ List.replicate k .free } K) ∨
    (∃ p op, ops[p]? = some op ∧ calmP P M n ops p = true ∧ gopsK P M false n ops (ops.toList.take p) φ σ (normK fun _ φ1 σ1 => panK P M ops op φ1 σ1 fun g σ' => K (.panic g) (lost ops φ) σ'))
theorem GDraw.calm {P : Program} {M : FuncId → Bool} {n : Nat} {ops : Array Oper} {φ : Fr} {σ : GS} {K : GX → Fr → GS → Prop} (h : Go.Proofs.YtcbknpdjdlgljaaGreatDoor.calm M ops = true) (k : gopsK P M false n ops ops.toList φ σ (normK K)) : GDraw P M n ops φ σ K := ⟨M, .inl ⟨h, k⟩⟩
theorem GDraw.wildT {P : Program} {M : FuncId → Bool} {n : Nat} {ops : Array Oper} {φ : Fr} {σ : GS} {K : GX → Fr → GS → Prop} (TL : List (Option Nat)) {A : List (List Nat)} {k : Nat} (hA : ancs ops.toList [] = A)
    (hk : (ops.toList.filter fun o => opClass M o.op == 3).length = k) (h : Go.Proofs.YtcbknpdjdlgljaaGreatDoor.wild M ops A TL (σ.objs ++ List.replicate k GObj.free).length = true)
    (g : gstepsK P M (fun _ => false) (fun i => TL.getD i none) (masks M ops A TL) n ops ops.toList 0 φ { σ with objs := σ.objs ++ List.replicate k .free } K) : GDraw P M n ops φ σ K := ⟨M, .inr (.inl ⟨_, A, TL, k, hA.symm, hk.symm, h, g⟩)⟩
theorem GDraw.at {P : Program} {M : FuncId → Bool} {n : Nat} {ops : Array Oper} {φ : Fr} {σ : GS} {K : GX → Fr → GS → Prop} (M' : FuncId → Bool) (h : GDraw P M' n ops φ σ K) : GDraw P M n ops φ σ K := ⟨h.ex⟩
def gregion (P : Program) (M : FuncId → Bool) (ro : Option Nat) (n : Nat) (ops : Array Oper) (draw : Bool) : GRun := fun φ σ K =>
  match draw with
  | true => GDraw P M n ops φ σ K
  | false => gplainK P (fun _ => false) ro.isNone n ops ops.toList φ σ K
def gseq (a b : GRun) : GRun := fun φ σ K => a φ σ fun x φ' σ' => match x with
  | .normal => b φ' σ' K
  | .exit i => K (.exit i) φ' σ'
  | .ret => K .ret φ' σ'
  | .panic g => K (.panic g) φ' σ'
def gcond (c : Operand) (a b : GRun) : GRun := fun φ σ K => gcondK φ c fun t φ => match t with
  | true => a φ σ K
  | false => b φ σ K
def gblock (id : Nat) (c : GRun) : GRun := fun φ σ K => c φ σ fun x φ' σ' => match x with
  | .exit i => Bool.rec (motive := fun _ => Prop) (K (.exit i) φ' σ') (K .normal φ' σ') (Nat.beq i id)
  | .normal => K .normal φ' σ'
  | .ret => K .ret φ' σ'
  | .panic g => K (.panic g) φ' σ'
def grange (P : Program) (ro : Option Nat) (n : Nat) (f : Operand) (ps : Array Tmp) (asg body : Code) : GRun := fun φ σ K =>
  match geval φ f with
  | .fn (.func k) first cap =>
    if callable P k then
      match genter ro σ with
      | some (rd, σ1) => ∃ r σ2, Fact P (.fn k) (first ++ .yld σ1.objs.length :: cap) (gnew σ1 (.loop .ready none n φ ps asg body rd)) r σ2 ∧
        match r with
        | .val _ => gopt (gendLoop σ1.objs.length φ σ2) fun q => K q.1 q.2.1 q.2.2
        | .panic g => K (.panic g) φ σ2
      | none => False
    else False
  | _ => False
def gwp (P : Program) (M : FuncId → Bool) (ro : Option Nat) (n : Nat) (c : Code) : GRun :=
  Code.rec (motive := fun _ => GRun)
    (fun φ σ K => K .normal φ σ)
    (fun _ ops draw => gregion P M ro n ops draw)
    (fun _ _ a b => gseq a b)
    (fun c _ _ a b => gcond c a b)
    (fun id _ c => gblock id c)
    (fun _ c => GLoop c)
    (fun f ps asg body _ _ => grange P ro n f ps asg body)
    (fun id φ σ K => K (.exit id) φ σ)
    (fun _ _ _ _ _ => False)
    (fun _ φ σ K => K .normal φ σ)
    (fun _ _ _ _ => False)
    (fun φ σ K => K .ret φ σ)
    (fun _ _ _ _ => False)
    c
section
variable {P : Program} {M : FuncId → Bool} {w0 : World} {n : Nat} {ro : Option Nat}
theorem gwp_sound (hm : P.follows .mixedOrders = true) : ∀ (c : Code) (Q : Exit → Act → World → Prop) (K : GX → Fr → GS → Prop) (C : Cx) (rb : Option Nat) (φ : Fr) (σ : GS) (a : Act) (w : World),
    gwp P M ro n c φ σ K → RoR C ro rb → Rel C σ w0 w → FRel C φ a → a.tmps.size = n → DRel C σ.ds a.defers → (∀ x φ' σ', K x φ' σ' → QOk w0 C Q n x φ' σ') → c.wpIn (FW rb) 0 P Q a w := by
  intro c
  induction c with
  | skip => intro Q K C rb φ σ a w h ho hr hf hn hd hq; exact wpIn_skip (hq _ _ _ h C a w (.refl C) hf hn hd hr)
  | label l => intro Q K C rb φ σ a w h ho hr hf hn hd hq; exact wpIn_label (hq _ _ _ h C a w (.refl C) hf hn hd hr)
  | exit id => intro Q K C rb φ σ a w h ho hr hf hn hd hq; exact wpIn_exit (hq _ _ _ h C a w (.refl C) hf hn hd hr)
  | ret => intro Q K C rb φ σ a w h ho hr hf hn hd hq; exact wpIn_ret (hq _ _ _ h C a w (.refl C) hf hn hd hr)
  | region id ops draw =>
    intro Q K C rb φ σ a w h ho hr hf hn hd hq
    replace h : gregion P M ro n ops draw φ σ K := h
    unfold gregion at h
    cases draw with
    | true =>
      obtain ⟨M, h⟩ := h.ex
      rcases h with ⟨hcalm, h⟩ | ⟨B, A, TL, k, rfl, rfl, hwild, h⟩ | ⟨p, op, hop, hcp, h⟩
      · obtain ⟨call, Φ, S, G, hc, hp, e1, e2, e3, e5⟩ := gopsK_trace ops.toList 0 φ σ (fun j => by simp) h
        rw [Nat.zero_add, Array.length_toList] at e3
        exact draw_sound hm (fun i => hc i w0) hp hcalm (⟨fun i o ho => e5 i o (Nat.zero_le _) ho⟩ : Trace P call n ops Φ S G) e1 e2 rfl rfl hr hf hn hd (hq _ _ _ e3)
      · obtain ⟨call, Φ, S, G, hc, e1, e2, e3, e5⟩ := gstepsK_trace ops.toList 0 φ _ (fun j => by simp) h
        rw [Nat.zero_add, Array.length_toList] at e3
        exact draw2_sound (B := B) (call := call) hm (fun i => (hc i).1 w0) (fun i => (hc i).2) rfl hwild ⟨fun i o ho => e5 i o (Nat.zero_le _) ho⟩ e1 e2 rfl rfl rfl (hr.frees _) hf hn hd (hq _ _ _ e3)
      · have hps : p < ops.size := (Array.getElem?_eq_some_iff.1 hop).1
        have hlen : (ops.toList.take p).length = p := by simp; omega
        obtain ⟨call, Φ, S, G, hc, hp, e1, e2, e3, e5⟩ := gopsK_traceN (ops.toList.take p) 0 φ σ (fun j hj => by rw [hlen] at hj; rw [List.getElem?_take, if_pos hj]; simp) h
        rw [Nat.zero_add, hlen] at e3
        obtain ⟨b, hw, e3⟩ := gwantK_of e3
        cases b with
        | false => exact e3.elim
        | true =>
          obtain ⟨r, σ', ⟨cp, hcp1, hcp2, hop'⟩, hk⟩ := goperK_of e3
          cases r with
          | val g => exact hk.elim
          | panic g =>
            refine drawp_sound (call := fun i => if i = p then cp else call i) (Φ := Φ) (S := S) (G := G) hm (fun i => ?_) (fun i => ?_) hcp hop (fun i o hi ho => ?_) hw (by rw [if_pos rfl]; exact hop') e1 e2 hr hf hn hd (hq _ _ _ hk)
            · show CallSound P w0 (if i = p then cp else call i)
              split
              · exact hcp1 w0
              · exact hc i w0
            · show PureCall M (if i = p then cp else call i)
              split
              · exact hcp2
              · exact hp i
            · rw [if_neg (show i ≠ p by omega)]
              exact e5 i o (Nat.zero_le _) (by rw [hlen]; omega) ho
    | false => exact wpIn_region_list (gplainK_sound (fun e => ho.none_of e) _ C φ σ a w (by simpa using h) hr hf hn hd hq)
  | seq c1 c2 ih1 ih2 =>
    intro Q K C rb φ σ a w h ho hr hf hn hd hq
    replace h : gseq (gwp P M ro n c1) (gwp P M ro n c2) φ σ K := h
    unfold gseq at h
    refine wpIn_seq (ih1 _ _ C rb φ σ a w h ho hr hf hn hd (fun x φ' σ' hk D a1 w1 hl hf1 hn1 hd1 hr1 => ?_))
    cases x with
    | normal => exact ih2 Q K D rb φ' σ' a1 w1 hk (ho.mono hl) hr1 hf1 hn1 hd1 (fun x φ' σ' hk => (hq x φ' σ' hk).mono hl)
    | exit id => exact hq _ _ _ hk D a1 w1 hl hf1 hn1 hd1 hr1
    | ret => exact hq _ _ _ hk D a1 w1 hl hf1 hn1 hd1 hr1
    | panic g => exact hq _ _ _ hk D a1 w1 hl hf1 hn1 hd1 hr1
  | cond c c1 c2 ih1 ih2 =>
    intro Q K C rb φ σ a w h ho hr hf hn hd hq
    replace h : gcond c (gwp P M ro n c1) (gwp P M ro n c2) φ σ K := h
    unfold gcond at h
    obtain ⟨t, ht, h⟩ := gcondK_of h
    have hv := geval_sound hf c
    rw [ht] at hv
    generalize hu : a.eval c = u at hv
    cases hv
    refine wpIn_cond hu ?_
    cases t with
    | true => exact ih1 Q K C rb φ σ a w h ho hr hf hn hd hq
    | false => exact ih2 Q K C rb φ σ a w h ho hr hf hn hd hq
  | block id c ih =>
    intro Q K C rb φ σ a w h ho hr hf hn hd hq
    replace h : gblock id (gwp P M ro n c) φ σ K := h
    unfold gblock at h
    refine wpIn_block (ih _ _ C rb φ σ a w h ho hr hf hn hd (fun x φ' σ' hk D a1 w1 hl hf1 hn1 hd1 hr1 => ?_))
    cases x with
    | normal => exact hq _ _ _ hk D a1 w1 hl hf1 hn1 hd1 hr1
    | exit i =>
      show if i = id then Q .normal a1 w1 else Q (.exit i) a1 w1
      have hk' : Bool.rec (motive := fun _ => Prop) (K (.exit i) φ' σ') (K .normal φ' σ') (Nat.beq i id) := hk
      split
      · rename_i hi
        subst hi
        rw [Nat.beq_refl] at hk'
        exact hq _ _ _ hk' D a1 w1 hl hf1 hn1 hd1 hr1
      · rename_i hi
        cases hb : Nat.beq i id with
        | true => exact absurd (Nat.eq_of_beq_eq_true hb) hi
        | false =>
          rw [hb] at hk'
          exact hq _ _ _ hk' D a1 w1 hl hf1 hn1 hd1 hr1
    | ret => exact hq _ _ _ hk D a1 w1 hl hf1 hn1 hd1 hr1
    | panic g => exact hq _ _ _ hk D a1 w1 hl hf1 hn1 hd1 hr1
  | loop c ih =>
    intro Q K C rb φ σ a w h ho hr hf hn hd hq
    replace h : GLoop (gwp P M ro n c) φ σ K := h
    obtain ⟨I, N, m, hI, hN, hstep⟩ := h.ex
    refine wpIn_loop_rounds (m + 1) ?_
    have key : ∀ (k m : Nat) (D : Cx) (φ1 : Fr) (σ1 : GS) (a : Act) (w : World), m < k → I m φ1 σ1 → C.le D → Rel D σ1 w0 w → FRel D φ1 a → a.tmps.size = n →
        DRel D σ1.ds a.defers → roundsIn (FW rb) 0 P c Q k a w := by
      intro k
      induction k with
      | zero => intro m D φ1 σ1 a w hm; omega
      | succ k ihk =>
        intro m D φ1 σ1 a w hm hI hCD hr1 hf1 hn1 hd1
        unfold roundsIn
        refine ih _ _ D rb φ1 σ1 a w (hstep m φ1 σ1 hI) (ho.mono hCD) hr1 hf1 hn1 hd1 (fun x φ' σ' hk D1 a1 w1 hl hf2 hn2 hd2 hr2 => ?_)
        cases x with
        | normal =>
          obtain ⟨m', hm', hk⟩ := hk
          rcases hN _ _ _ hk with hI' | ⟨φ2, σ2, hs, hI'⟩
          · exact ihk m' D1 φ' σ' a1 w1 (by omega) hI' (hCD.trans hl) hr2 hf2 hn2 hd2
          · obtain ⟨E, hE, hrE, hfE, hdE⟩ := hs.rel hr (hCD.trans hl) hr2 hf2 hd2
            exact ihk m' E φ2 σ2 a1 w1 (by omega) hI' hE hrE hfE hn2 hdE
        | exit id => exact hq _ _ _ hk D1 a1 w1 (hCD.trans hl) hf2 hn2 hd2 hr2
        | ret => exact hq _ _ _ hk D1 a1 w1 (hCD.trans hl) hf2 hn2 hd2 hr2
        | panic g => exact hq _ _ _ hk D1 a1 w1 (hCD.trans hl) hf2 hn2 hd2 hr2
    exact key (m + 1) m C φ σ a w (by omega) hI (.refl C) hr hf hn hd
  | rangeFunc f ps asg body iha ihb =>
    intro Q K C rb φ σ a w h ho hr hf hn hd hq
    replace h : grange P ro n f ps asg body φ σ K := h
    unfold grange at h
    split at h
    · rename_i k first cap hfv
      split at h
      · rename_i hk
        split at h
        · rename_i rd σ1 hent
          obtain ⟨r, σ2, hfact, h⟩ := h
          cases r with
          | val g =>
            obtain ⟨⟨x, φ', σ'⟩, he, h⟩ := gopt_of h
            refine gcode_sound (call := theCall _ _ _ _ _) (M := fun _ => false) (m := 0) hm (theCall_sound hfact w0) (fun _ hk => by rcases hk with hk | hk <;> cases hk) (.rangeFunc f ps asg body) Q C rb φ φ' σ σ' x a w ?_ ho hr hf hn hd (hq _ _ _ h)
            simp only [gcode, hfv, hent]
            rw [if_pos hk]
            simp only [theCall_at, he]
          | panic g =>
            refine gcode_sound (call := theCall _ _ _ _ _) (M := fun _ => false) (m := 0) hm (theCall_sound hfact w0) (fun _ hk => by rcases hk with hk | hk <;> cases hk) (.rangeFunc f ps asg body) Q C rb φ φ σ σ2 (.panic g) a w ?_ ho hr hf hn hd (hq _ _ _ h)
            simp only [gcode, hfv, hent]
            rw [if_pos hk]
            simp only [theCall_at]
        · exact h.elim
      · exact h.elim
    · exact h.elim
  | _ => intro Q K C rb φ σ a w h; exact h.elim
end
def endK (P : Program) (fn : Func) (R : GRes → GS → Prop) : GX → Fr → GS → Prop
  | .normal, φ, σ => gopt (gleave P (fun _ => false) (fun _ _ _ => none) 50 fn φ σ.ds .ret σ) fun q => R q.1 q.2
  | .ret, φ, σ => gopt (gleave P (fun _ => false) (fun _ _ _ => none) 50 fn φ σ.ds .ret σ) fun q => R q.1 q.2
  | .panic g, φ, σ => gopt (gleave P (fun _ => false) (fun _ _ _ => none) 50 fn φ σ.ds (.pan g) σ) fun q => R q.1 q.2
  | .exit _, _, _ => False
def WkRes : GRes → GRes → Prop
  | .val g, .val h => Wk g h
  | .panic g, .panic h => Wk g h
  | _, _ => False
theorem WkRes.erel {C : Cx} {r r' : GRes} {e : Ending} (h : WkRes r r') (he : ERel C r e) : ERel C r' e := by
  cases r <;> cases r' <;> first | exact h.elim | skip
  · obtain ⟨v, e1, h1⟩ := he; exact ⟨v, e1, h C v h1⟩
  · obtain ⟨v, e1, h1⟩ := he; exact ⟨v, e1, h C v h1⟩
theorem WkRes.refl : ∀ r : GRes, WkRes r r
  | .val g => Wk.refl g
  | .panic g => Wk.refl g
structure Owes (s : List GObj) (r : GRes) (s' : List GObj) (r0 : GRes) (σ0 : GS) : Prop where
  ex : ∃ ks : List Nat, Lies ks s' σ0.objs ∧ (∀ i, i < s.length → ks[i]? = some i) ∧ WkRes r0 (r.ren (emb ks σ0.objs.length))
def GObj.notHeld : GObj → Bool
  | .held => false
  | _ => true
theorem SC.of_gwp {P : Program} (M : FuncId → Bool) (hm : P.follows .mixedOrders = true) {k : FuncId} {fn : Func} {c : Code} (hfn : P.funcs[k]? = some fn) (hb : fn.body = some c) {args : List GV} {s s' : List GObj} {r : GRes}
    (hlen : args.length ≤ fn.ntmps) (hs : s.length ≤ s'.length) (hh0 : s'.all GObj.notHeld = true) (h : gwp P M none fn.ntmps c (gstart args) ⟨s, 0, []⟩ (endK P fn (Owes s r s'))) : SC P k args s r s' := by
  have hh : ∀ x ∈ s', x ≠ .held := fun x hx e => by subst e; have := List.all_eq_true.1 hh0 _ hx; cases this
  refine ⟨hs, fun C w vs hr hv => ?_, hh⟩
  obtain ⟨h1, h2⟩ := gstart_rel (fn := fn) hlen hv
  have fin : ∀ (φ' : Fr) (σ1 : GS) (u : GMode) (D : Cx) (a' : Act) (w' : World) (um : FrameMode), gopt (gleave P (fun _ => false) (fun _ _ _ => none) 50 fn φ' σ1.ds u σ1) (fun q => Owes s r s' q.1 q.2) →
      C.le D → FRel D φ' a' → DRel D σ1.ds a'.defers → Rel D σ1 w w' → MRel D u um → LeavesX P fn a'.tmps (fun e w' => ∃ D, C.le D ∧ Rel D ⟨s', 0, []⟩ w w' ∧ ERel D r e) a'.defers um w' := by
    intro φ' σ1 u D a' w' um hk hl hf' hd' hr' hmr
    obtain ⟨⟨r0, σ2⟩, hlv, ⟨ks, hlies, hpre, hwk⟩⟩ := gopt_of hk
    refine (gleave_sound (tmps := a'.tmps) (w0 := w) hm (noCall_sound w) noCall_pure _ _ _ hlv).2 D w' a'.defers um hr' hf' hd' hmr (fun E e w'' hE hrE he => ?_)
    refine ⟨E.pull (emb ks σ2.objs.length), ?_, hrE.pull hlies, ?_⟩
    · have hlE := hl.trans hE
      have atb : ∀ i, i < s.length → emb ks σ2.objs.length i = i := fun i hi => by
        have h3 := hpre i hi
        obtain ⟨h4, h5⟩ := List.getElem?_eq_some_iff.1 h3
        rw [emb_lt h4, h5]
      refine ⟨hlE.fx, fun i b hb' => ?_, fun i I hI => ?_, ?_, hlE.fix⟩
      · have hi : i < s.length := by
          rcases Nat.lt_or_ge i s.length with h4 | h4
          · exact h4
          · rw [(hr.dom i h4).1] at hb'; cases hb'
        show E.bk (emb ks σ2.objs.length i) = some b
        rw [atb i hi]; exact hlE.bk i b hb'
      · have hi : i < s.length := by
          rcases Nat.lt_or_ge i s.length with h4 | h4
          · exact h4
          · rw [(hr.dom i h4).2] at hI; cases hI
        show ∃ J, E.own (emb ks σ2.objs.length i) = some J ∧ _
        rw [atb i hi]; exact hlE.own i I hI
      · exact hlE.hd
    · exact (hwk.erel he).pull (D := E) (f := emb ks σ2.objs.length) (E := E.pull (emb ks σ2.objs.length)) (fun _ _ _ h => h) (fun _ => rfl) (fun _ => rfl)
  refine calls_of_wpX hfn hb (wpIn_wide (n := 0).1 (gwp_sound (w0 := w) (ro := none) (n := fn.ntmps) hm c _ _ C none _ _ _ w h trivial hr h1 h2 trivial (fun x φ' σ1 hk D a' w' hl hf' hn' hd' hr' => ?_)))
  cases x with
  | normal => exact fin φ' σ1 .ret D a' w' .returning hk hl hf' hd' hr' rfl
  | ret => exact fin φ' σ1 .ret D a' w' .returning hk hl hf' hd' hr' rfl
  | exit id => exact hk.elim
  | panic g => exact fun v hv => fin φ' σ1 (.pan g) D a' w' (.panicking [{ v, recovered := false }]) hk hl hf' hd' hr' ⟨v, rfl, hv⟩
end Go.Proofs.YtcbknpdjdlgljaaGreatDoor
