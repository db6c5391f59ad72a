/-
 CondChecks: Check and Eval of every text, items, row, variables and values are those of the reference, and a condition and its canonical text have one truth; part 32 of 46. Conditions: none beyond the given statement.
-/
import Derived.Test.YtlhabmglchgdnaaGreatDoorQ31
set_option linter.all false
namespace Go.Proofs.YtlhabmglchgdnaaGreatDoor
open Go.RowKit
set_option maxRecDepth 100000
set_option linter.unusedVariables false
def runW (t : List UInt8) : Nat := 1 + (t.takeWhile isInner).length
def sw : List UInt8 -> Option Nat
 | [] => none
 | c :: t =>
  if isInner c = true /\ c ≠ 95 then
   (if 97 <= c.toNat then (if isName ((c :: t).take (runW t)) then some (runW t) else none) else if (wholeS ((c :: t).take (runW t))).2 then some (runW t) else none)
  else if c = 45 then (if (wholeS ((c :: t).take (runW t))).2 then some (runW t) else none)
  else if c = 34 then (if (quoteS (c :: t) 0).2 = 0 then none else some (quoteS (c :: t) 0).2)
  else if (c = 60 /\ (t.head? = some 62 ∨ t.head? = some 61)) ∨ (c = 62 /\ t.head? = some 61) then some 2
  else if c = 40 ∨ c = 41 ∨ c = 58 ∨ c = 61 ∨ c = 60 ∨ c = 62 then some 1 else none
def splitF : Nat -> List UInt8 -> Option (List By)
 | 0, _ => none
 | _ + 1, [] => some []
 | f + 1, c :: t => if c = 32 then splitF f t else match sw (c :: t) with
  | some k => (splitF f ((c :: t).drop k)).map fun ws => (c :: t).take k :: ws
  | none => none
theorem runW_pos (t : List UInt8) : 1 <= runW t := by unfold runW; omega
theorem runW_le (t : List UInt8) : runW t <= t.length + 1 := by
 have := (List.takeWhile_prefix (l := t) isInner).length_le
 unfold runW; omega
theorem rq_suf : ∀ (n : Nat) {l t r : List UInt8}, l.length <= n -> rq l = some (t, r) -> r.length < l.length
 | 0, l, t, r, h, e => by
  cases l with
  | nil => cases e
  | cons _ _ => simp at h
 | n + 1, [], t, r, h, e => by cases e
 | n + 1, c :: l, t, r, h, e => by
  have hl : l.length <= n := by simp at h; omega
  by_cases h34 : c = 34
  ·rw [h34, rq_34] at e; cases e; simp
  ·by_cases hb : c.toNat < 32 ∨ 126 < c.toNat
   ·rw [rq_bad h34 hb] at e; cases e
   ·by_cases h92 : c = 92
    ·subst h92
     by_cases hx : ∃ a b l2, l = 120 :: a :: b :: l2
     ·obtain ⟨a, b, l2, rfl⟩ := hx
      rw [rq_x] at e
      split at e
      ·split at e
       ·split at e
        ·cases e
        ·cases hq : rq l2 with
         | none => rw [hq] at e; cases e
         | some p => rw [hq] at e; cases e; have := rq_suf n (l := l2) (t := p.1) (r := p.2) (by simp at hl; omega) hq; simp; omega
       ·cases e
      ·cases e
     ·by_cases he : ∃ c' l1, l = c' :: l1 /\ (c' = 34 ∨ c' = 92)
      ·obtain ⟨c', l1, rfl, hc'⟩ := he
       rw [rq_esc hc'] at e
       cases hq : rq l1 with
       | none => rw [hq] at e; cases e
       | some p => rw [hq] at e; cases e; have := rq_suf n (l := l1) (t := p.1) (r := p.2) (by simp at hl; omega) hq; simp; omega
      ·rw [rq_none (fun e0 r1 h1 => ⟨fun h => he ⟨e0, r1, h1, h⟩, fun h a b r2 h2 => hx ⟨a, b, r2, by rw [h1, h, h2]⟩⟩)] at e; cases e
    ·rw [rq_c h34 hb h92] at e
     cases hq : rq l with
     | none => rw [hq] at e; cases e
     | some p => rw [hq] at e; cases e; have := rq_suf n (l := l) (t := p.1) (r := p.2) hl hq; simp; omega
theorem quoteS_drop (s : List UInt8) (i : Nat) : quoteS s i = quoteS (s.drop i) 0 := by
 unfold quoteS
 rw [show (s.drop i)[0]? = s[i]? by rw [List.getElem?_drop]; rfl, List.drop_drop, Nat.zero_add]
 split
 ·cases h : rq (s.drop (i + 1)) with
  | none => rfl
  | some p => simp only [qres, List.length_drop]; congr 1; omega
 ·rfl
theorem quoteS_le (s : List UInt8) : (quoteS s 0).2 <= s.length := by
 unfold quoteS
 split
 ·cases h : rq (s.drop (0 + 1)) with
  | none => exact Nat.zero_le _
  | some p => simp only [qres]; omega
 ·exact Nat.zero_le _
theorem sw_pos {l : List UInt8} {k : Nat} (h : sw l = some k) : 1 <= k /\ k <= l.length := by
 cases l with
 | nil => cases h
 | cons c t =>
  have h1 := runW_pos t
  have h2 := runW_le t
  have h3 := quoteS_le (c :: t)
  have h4 : (t.head? = some 62 ∨ t.head? = some 61) -> 1 <= t.length := fun h => by
   cases t with
   | nil => simp at h
   | cons _ _ => simp
  simp only [sw] at h
  simp only [List.length_cons] at h3 ⊢
  split at h
  ·split at h
   ·split at h
    ·cases h; omega
    ·cases h
   ·split at h
    ·cases h; omega
    ·cases h
  ·split at h
   ·split at h
    ·cases h; omega
    ·cases h
   ·split at h
    ·split at h
     ·cases h
     ·cases h; omega
    ·split at h
     ·rename_i hh
      cases h
      have : 1 <= t.length := h4 (hh.elim (fun h => h.2) (fun h => .inr h.2))
      omega
     ·split at h
      ·cases h; omega
      ·cases h
def splitS (s : By) : Option (List By) := splitF (s.length + 1) s
theorem splitF_nil (f : Nat) : splitF (f + 1) [] = some [] := rfl
theorem splitF_sp (f : Nat) (t : By) : splitF (f + 1) (32 :: t) = splitF f t := by
 show (if (32 : UInt8) = 32 then _ else _) = _
 rw [if_pos rfl]
theorem splitF_c (f : Nat) {c : UInt8} (h : c ≠ 32) (t : By) : splitF (f + 1) (c :: t) = match sw (c :: t) with
  | some k => (splitF f ((c :: t).drop k)).map fun ws => (c :: t).take k :: ws
  | none => none := by
 show (if c = 32 then _ else _) = _
 rw [if_neg h]
 try rfl
theorem splitF_fuel : ∀ (f g : Nat) (l : By), l.length < f -> l.length < g -> splitF f l = splitF g l
 | 0, _, _, h, _ => by omega
 | _, 0, _, _, h => by omega
 | f + 1, g + 1, [], _, _ => rfl
 | f + 1, g + 1, c :: t, h, h' => by
  simp only [List.length_cons] at h h'
  by_cases hc : c = 32
  ·rw [hc, splitF_sp, splitF_sp]; exact splitF_fuel f g t (by omega) (by omega)
  ·rw [splitF_c f hc, splitF_c g hc]
   cases hk : sw (c :: t) with
   | none => rfl
   | some k =>
    have := sw_pos hk
    have hd : ((c :: t).drop k).length <= t.length := by simp; omega
    simp only
    rw [splitF_fuel f g _ (by omega) (by omega)]
end Go.Proofs.YtlhabmglchgdnaaGreatDoor
