/-
  The text of every currencies, and what every text is read as.
-/
import Derived.Test.YtcbknpdjdlgljaaGreatDoorQ3
import Derived.Laws.Slices
import Derived.Laws.StructEq
set_option linter.all false
namespace Go.Proofs.YtcbknpdjdlgljaaGreatDoor
open Go.RowKit
set_option linter.unusedSectionVars false
variable [Globals]
set_option linter.unusedVariables false
def flat (xs : List GV) : List GV := xs.flatMap GV.cells
theorem flat_cons (x : GV) (xs : List GV) : flat (x :: xs) = x.cells ++ flat xs := by simp [flat]
theorem flat_append (xs ys : List GV) : flat (xs ++ ys) = flat xs ++ flat ys := by simp [flat]
theorem flat_len {n : Nat} : ∀ (xs : List GV), (∀ x ∈ xs, x.cells.length = n) → (flat xs).length = xs.length * n
  | [], _ => by simp [flat]
  | x :: xs, h => by
    rw [flat_cons, List.length_append, h x (by simp), flat_len xs (fun y hy => h y (by simp [hy])), List.length_cons, Nat.succ_mul]; omega
theorem flat_get {n : Nat} : ∀ (xs : List GV), (∀ x ∈ xs, x.cells.length = n) → ∀ (i : Nat) x (j : Nat) g, xs[i]? = some x → x.cells[j]? = some g → (flat xs)[i * n + j]? = some g
  | [], _, i, x, j, g, h, _ => by simp at h
  | y :: xs, hw, 0, x, j, g, h, hj => by
    simp at h; subst h
    rw [flat_cons, Nat.zero_mul, Nat.zero_add, List.getElem?_append_left (List.getElem?_eq_some_iff.1 hj).1]; exact hj
  | y :: xs, hw, i + 1, x, j, g, h, hj => by
    have ih := flat_get xs (fun z hz => hw z (by simp [hz])) i x j g (by simpa using h) hj
    rw [flat_cons, List.getElem?_append_right (by rw [hw y (by simp), Nat.succ_mul]; omega), hw y (by simp), show (i + 1) * n + j - n = i * n + j by rw [Nat.succ_mul]; omega]
    exact ih
section
variable {P : Program} {C : Cx} {σ : GS} {w0 w : World}
theorem flat_list {esz : Nat} (F : Nat → Value → Prop) : ∀ (xs : List GV) (o : Nat), (∀ x ∈ xs, x.cells.length = esz) →
    (∀ (i : Nat) x (j : Nat) g, xs[i]? = some x → x.cells[j]? = some g → ∃ u, F (o + i * esz + j) u ∧ VR C g u) → ∃ us : List Value, VRs C (flat xs) us ∧ ∀ (j : Nat) u, us[j]? = some u → F (o + j) u
  | [], o, _, _ => ⟨[], VRs.nil, fun j u h => by simp at h⟩
  | x :: xs, o, hw, h => by
    have hx : ∀ (cs : List GV) (k : Nat), (∀ (j : Nat) g, cs[j]? = some g → ∃ u, F (k + j) u ∧ VR C g u) → ∃ us : List Value, VRs C cs us ∧ ∀ (j : Nat) u, us[j]? = some u → F (k + j) u := by
      intro cs
      induction cs with
      | nil => exact fun k _ => ⟨[], VRs.nil, fun j u h => by simp at h⟩
      | cons c cs ih =>
        intro k h
        obtain ⟨u, hu, hr⟩ := h 0 c rfl
        obtain ⟨us, h1, h2⟩ := ih (k + 1) (fun j g hg => by rw [show k + 1 + j = k + (j + 1) by omega]; exact h (j + 1) g (by simpa using hg))
        refine ⟨u :: us, VRs.cons hr h1, fun j v hv => ?_⟩
        cases j with
        | zero => simp at hv; subst hv; exact hu
        | succ j => rw [show k + (j + 1) = k + 1 + j by omega]; exact h2 j v (by simpa using hv)
    obtain ⟨us1, a1, a2⟩ := hx x.cells o (fun j g hg => by have := h 0 x j g rfl hg; simpa using this)
    obtain ⟨us2, b1, b2⟩ := flat_list F xs (o + esz) (fun y hy => hw y (by simp [hy])) (fun i y j g hy hg => by
      have := h (i + 1) y j g (by simpa using hy) hg
      rw [show o + (i + 1) * esz + j = o + esz + i * esz + j by rw [Nat.succ_mul]; omega] at this
      exact this)
    refine ⟨us1 ++ us2, by rw [flat_cons]; exact a1.append b1, fun j u hu => ?_⟩
    have hl : us1.length = esz := by rw [a1.1]; exact hw x (by simp)
    by_cases hj : j < us1.length
    · rw [List.getElem?_append_left hj] at hu; exact a2 j u hu
    · rw [List.getElem?_append_right (by omega)] at hu
      have := b2 _ u hu
      rw [show o + esz + (j - us1.length) = o + j by omega] at this
      exact this
theorem sl_of {k : Tok} {xs : List GV} {esz b off c : Nat} {us : List Value} (hw : ∀ x ∈ xs, x.cells.length = esz) (hv : VRs C (flat xs) us)
    (hfx : ∀ (j : Nat) u, us[j]? = some u → C.fx b (off + j) u) (hc : xs.length ≤ c) (ht : TokOk C k xs.length c esz (some ⟨b, off, none⟩)) :
    VR C (.sl k xs) (.slice (some ⟨b, off, none⟩) xs.length c) := by
  have hg : ∀ (i : Nat) x (j : Nat) g, xs[i]? = some x → x.cells[j]? = some g → us[i * esz + j]? = some (us.getD (i * esz + j) undef) ∧ VR C g (us.getD (i * esz + j) undef) := fun i x j g hx hj => by
    obtain ⟨u, hu, hr⟩ := hv.get (flat_get xs hw i x j g hx hj)
    rw [List.getD_eq_getElem?_getD, hu]; exact ⟨rfl, hr⟩
  exact .sl esz b off (fun k => us.getD k undef) rfl hc (.inr (.inl rfl)) hw (fun i x j g hx hj => by
    have := hfx _ _ (hg i x j g hx hj).1
    rw [← Nat.add_assoc] at this; exact this) (fun i x j g hx hj => (hg i x j g hx hj).2) ht
theorem gint_sound {op : BinOp} {t : TypeId} {x y : Operand} {k : IntKind} {a b : Int} {g : GV} (hop : op ≠ .shl) (hop' : op ≠ .shr) (h : Rel C σ w0 w) (hg : gint op k a b = some g) :
    Runs P C w0 w σ g (do eqGuard op t x y (.int k a) (.int k b); binOp op t (.int k a) (.int k b)) := by
  cases op <;> simp only [gint] at hg <;> first
    | exact absurd rfl hop
    | exact absurd rfl hop'
    | (cases hg; exact .pure h (.i _ _) (by simp [go_sem, Op.intArith]))
    | (cases hg; exact .pure h (.b _) (by simp [go_sem]))
    | (split at hg
       · cases hg
       · rename_i hb
         cases hg; exact .pure h (.i _ _) (by simp [go_sem, Op.intDiv, hb]))
theorem gstr_sound {op : BinOp} {t : TypeId} {x y : Operand} {a b : List UInt8} {g : GV} (h : Rel C σ w0 w) (hg : gstr op a b = some g) :
    Runs P C w0 w σ g (do eqGuard op t x y (.string ⟨a.toArray⟩) (.string ⟨b.toArray⟩); binOp op t (.string ⟨a.toArray⟩) (.string ⟨b.toArray⟩)) := by
  have hl : ∀ l : List UInt8, (ByteArray.mk l.toArray).toList = l := fun l => by simp
  cases op <;> simp only [gstr] at hg <;> first
    | (cases hg; done)
    | (cases hg; exact .pure h (.b _) (by simp [eqGuard_at_string, binOp, Op.stringOp, hl]))
    | (split at hg
       · rename_i hb
         cases hg
         refine .pure h (.s _) ?_
         have hs : ∀ l : List UInt8, (ByteArray.mk l.toArray).size = l.length := fun l => by simp [ByteArray.size]
         have hn : ¬ ((9223372036854775807 : Int) < ((a.length : Int) + (b.length : Int))) := by unfold slim at hb; omega
         simp [eqGuard_at_string, binOp, Op.stringOp, hs, hn]
         rfl
       · cases hg)
theorem equal_bool {t : TypeId} (hk : P.underlying t = some .bool) (a b : Bool) : (Op.equal t (.bool a) (.bool b)).run P w = .ok (a == b) w := run_equal_bool w t a b hk
theorem equal_nil_nil {t : TypeId} {ms : Array (String × TypeId)} (hk : P.underlying t = some (.interface ms)) : (Op.equal t .nilIface .nilIface).run P w = .ok true w :=
  (fun d => by simp [Op.equalIn, run_underlying hk] : ∀ d : Nat, (Op.equalIn (d + 1) t .nilIface .nilIface).run P w = .ok true w) 9999
theorem equal_ifc_nil {t u : TypeId} {v : Value} {ms : Array (String × TypeId)} (hk : P.underlying t = some (.interface ms)) : (Op.equal t (.iface u v) .nilIface).run P w = .ok false w :=
  (fun d => by simp [Op.equalIn, run_underlying hk] : ∀ d : Nat, (Op.equalIn (d + 1) t (.iface u v) .nilIface).run P w = .ok false w) 9999
theorem equal_nil_ifc {t u : TypeId} {v : Value} {ms : Array (String × TypeId)} (hk : P.underlying t = some (.interface ms)) : (Op.equal t .nilIface (.iface u v)).run P w = .ok false w :=
  (fun d => by simp [Op.equalIn, run_underlying hk] : ∀ d : Nat, (Op.equalIn (d + 1) t .nilIface (.iface u v)).run P w = .ok false w) 9999
theorem equal_ptr_nil {t e : TypeId} {a : Option Addr} (hk : P.underlying t = some (.pointer e)) : (Op.equal t (.pointer a) (.pointer none)).run P w = .ok a.isNone w :=
  (fun d => by cases a <;> simp [Op.equalIn, run_underlying hk] : ∀ d : Nat, (Op.equalIn (d + 1) t (.pointer a) (.pointer none)).run P w = .ok a.isNone w) 9999
theorem equal_nil_ptr {t e : TypeId} {a : Option Addr} (hk : P.underlying t = some (.pointer e)) : (Op.equal t (.pointer none) (.pointer a)).run P w = .ok a.isNone w :=
  (fun d => by simp [Op.equalIn, run_underlying hk] : ∀ d : Nat, (Op.equalIn (d + 1) t (.pointer none) (.pointer a)).run P w = .ok a.isNone w) 9999
theorem equal_sl_nil {t e : TypeId} {a : Option Addr} {n c : Nat} (hk : P.underlying t = some (.slice e)) : (Op.equal t (.slice a n c) (.slice none 0 0)).run P w = .ok a.isNone w :=
  (fun d => by cases a <;> simp [Op.equalIn, run_underlying hk] : ∀ d : Nat, (Op.equalIn (d + 1) t (.slice a n c) (.slice none 0 0)).run P w = .ok a.isNone w) 9999
theorem nil_full {C : Cx} {v : Value} (h : VR C (.sl .full []) v) : v = .slice none 0 0 := by
  cases h with
  | sl esz b off us hn hc ha hw hx hv ht =>
    obtain ⟨h1, h2⟩ := ht
    rw [h2 rfl]
    cases hn
    cases h1
    rfl
theorem ptrT_und {t e : TypeId} (h : ptrT P t = some e) : P.underlying t = some (.pointer e) := by
  unfold ptrT at h; split at h <;> simp_all
theorem equal_ptr_ptr {t e : TypeId} (hk : P.underlying t = some (.pointer e)) {n : Nat} (hs : sizeT P e = some n) (hn : 0 < n) (b o o' : Nat) :
    (Op.equal t (.pointer (some ⟨b, o, none⟩)) (.pointer (some ⟨b, o', none⟩))).run P w = .ok (o == o') w :=
  (fun d => by
    have hne : n ≠ 0 := by omega
    have hb : ((⟨b, o, none⟩ : Addr) == ⟨b, o', none⟩) = (o == o') := by
      by_cases h : o = o'
      · subst h; simp
      · have h1 : ((⟨b, o, none⟩ : Addr) == ⟨b, o', none⟩) = false := by
          rw [beq_eq_false_iff_ne]; intro e; cases e; exact h rfl
        rw [h1, beq_eq_false_iff_ne.2 h]
    simp [Op.equalIn, run_underlying hk, run_sizeOf hs, hne, sameAddr, hb] : ∀ d : Nat, (Op.equalIn (d + 1) t (.pointer (some ⟨b, o, none⟩)) (.pointer (some ⟨b, o', none⟩))).run P w = .ok (o == o') w) 9999
def eqv : Value → Bool
  | .bool _ | .nilIface | .iface _ _ | .pointer _ | .agg _ | .slice _ _ _ => true
  | _ => false
theorem eqFlds_run : ∀ (fs : List Field) (i : Nat) (cs ds : List GV) (xs ys : Array Value) (r : Bool) (d : Nat), okFlds fs i = true → geqFlds P fs cs ds = some r →
    (∀ (j : Nat) g, cs[j]? = some g → ∃ u, xs[i + j]? = some u ∧ VR C g u) → (∀ (j : Nat) g, ds[j]? = some g → ∃ u, ys[i + j]? = some u ∧ VR C g u) → (Op.eqFields (d + 1) xs ys fs).run P w = .ok r w
  | [], i, cs, ds, xs, ys, r, d, _, hg, _, _ => by
    simp only [geqFlds, Option.some.injEq] at hg
    subst hg
    simp [Op.eqFields]
  | f :: fs, i, cs, ds, xs, ys, r, d, ho, hg, hx, hy => by
    simp only [okFlds, Bool.and_eq_true, bne_iff_ne, ne_eq, beq_iff_eq] at ho
    obtain ⟨⟨hn, hoff⟩, hrest⟩ := ho
    have shape : (∃ k a k' b cs' ds', cs = GV.i k a :: cs' ∧ ds = GV.i k' b :: ds') ∨ (∃ a b cs' ds', cs = GV.s a :: cs' ∧ ds = GV.s b :: ds') ∨ (∃ a b cs' ds', cs = GV.b a :: cs' ∧ ds = GV.b b :: ds') := by
      unfold geqFlds at hg
      split at hg
      · rename_i h; cases h
      · exact .inl ⟨_, _, _, _, _, _, rfl, rfl⟩
      · exact .inr (.inl ⟨_, _, _, _, rfl, rfl⟩)
      · exact .inr (.inr ⟨_, _, _, _, rfl, rfl⟩)
      · cases hg
    rcases shape with ⟨k, a, k', b, cs', ds', rfl, rfl⟩ | ⟨a, b, cs', ds', rfl, rfl⟩ | ⟨a, b, cs', ds', rfl, rfl⟩
    · simp only [geqFlds] at hg
      split at hg
      · rename_i hk
        subst hk
        split at hg
        · rename_i hi
          obtain ⟨q, hq⟩ := Option.isSome_iff_exists.1 hi
          have hu := int_und hq
          obtain ⟨r', hr', rfl⟩ := Option.map_eq_some_iff.1 hg
          obtain ⟨u, hu1, hv1⟩ := hx 0 _ rfl
          obtain ⟨v, hu2, hv2⟩ := hy 0 _ rfl
          cases hv1; cases hv2
          have ih := eqFlds_run fs (i + 1) cs' ds' xs ys r' d hrest hr' (fun j g h => by have := hx (j + 1) g (by simpa using h); rw [show i + 1 + j = i + (j + 1) by omega]; exact this) (fun j g h => by have := hy (j + 1) g (by simpa using h); rw [show i + 1 + j = i + (j + 1) by omega]; exact this)
          rw [Nat.add_zero] at hu1 hu2
          have p1 : (part f.type xs f.offset).run P w = .ok (.int k a) w := by simp [part, isAgg, run_underlying hu, hoff, hu1]
          have p2 : (part f.type ys f.offset).run P w = .ok (.int k b) w := by simp [part, isAgg, run_underlying hu, hoff, hu2]
          have p3 := run_equalIn_int (P := P) w d f.type k q a b hu
          unfold Op.eqFields
          rw [if_pos hn]
          simp only [Sem.run_bind, p1, p2, p3, Result.andThen_ok]
          cases hab : (a == b) with
          | true => simpa using ih
          | false => simp
        · cases hg
      · cases hg
    · simp only [geqFlds] at hg
      split at hg
      · rename_i hi
        have hu := kind_str hi
        obtain ⟨r', hr', rfl⟩ := Option.map_eq_some_iff.1 hg
        obtain ⟨u, hu1, hv1⟩ := hx 0 _ rfl
        obtain ⟨v, hu2, hv2⟩ := hy 0 _ rfl
        cases hv1; cases hv2
        have ih := eqFlds_run fs (i + 1) cs' ds' xs ys r' d hrest hr' (fun j g h => by have := hx (j + 1) g (by simpa using h); rw [show i + 1 + j = i + (j + 1) by omega]; exact this) (fun j g h => by have := hy (j + 1) g (by simpa using h); rw [show i + 1 + j = i + (j + 1) by omega]; exact this)
        rw [Nat.add_zero] at hu1 hu2
        have p1 : (part f.type xs f.offset).run P w = .ok (.string ⟨a.toArray⟩) w := by simp [part, isAgg, run_underlying hu, hoff, hu1]
        have p2 : (part f.type ys f.offset).run P w = .ok (.string ⟨b.toArray⟩) w := by simp [part, isAgg, run_underlying hu, hoff, hu2]
        have p3 := run_equalIn_string (P := P) w d f.type ⟨a.toArray⟩ ⟨b.toArray⟩ hu
        rw [show ((⟨a.toArray⟩ : ByteArray).toList == (⟨b.toArray⟩ : ByteArray).toList) = (a == b) by rw [ByteArray.toList_eq, ByteArray.toList_eq]] at p3
        unfold Op.eqFields
        rw [if_pos hn]
        simp only [Sem.run_bind, p1, p2, p3, Result.andThen_ok]
        cases hab : (a == b) with
        | true => simpa using ih
        | false => simp
      · cases hg
    · simp only [geqFlds] at hg
      split at hg
      · rename_i hi
        have hu := kind_bool hi
        obtain ⟨r', hr', rfl⟩ := Option.map_eq_some_iff.1 hg
        obtain ⟨u, hu1, hv1⟩ := hx 0 _ rfl
        obtain ⟨v, hu2, hv2⟩ := hy 0 _ rfl
        cases hv1; cases hv2
        have ih := eqFlds_run fs (i + 1) cs' ds' xs ys r' d hrest hr' (fun j g h => by have := hx (j + 1) g (by simpa using h); rw [show i + 1 + j = i + (j + 1) by omega]; exact this) (fun j g h => by have := hy (j + 1) g (by simpa using h); rw [show i + 1 + j = i + (j + 1) by omega]; exact this)
        rw [Nat.add_zero] at hu1 hu2
        have p1 : (part f.type xs f.offset).run P w = .ok (.bool a) w := by simp [part, isAgg, run_underlying hu, hoff, hu1]
        have p2 : (part f.type ys f.offset).run P w = .ok (.bool b) w := by simp [part, isAgg, run_underlying hu, hoff, hu2]
        have p3 : (Op.equalIn (d + 1) f.type (.bool a) (.bool b)).run P w = .ok (a == b) w := by simp [Op.equalIn, run_underlying hu]
        unfold Op.eqFields
        rw [if_pos hn]
        simp only [Sem.run_bind, p1, p2, p3, Result.andThen_ok]
        cases hab : (a == b) with
        | true => simpa using ih
        | false => simp
      · cases hg
theorem geq_sound {op : BinOp} {t : TypeId} {x y : Operand} {a b : GV} {va vb : Value} {r : Bool} (h : Rel C σ w0 w) (ha : VR C a va) (hb : VR C b vb)
    (hg : geq P t (isConstOp x) (isConstOp y) a b = some r) :
    (eqGuard op t x y va vb).run P w = .ok () w ∧ (Op.equal t va vb).run P w = .ok r w ∧ eqv va = true ∧ eqv vb = true := by
  unfold geq at hg
  split at hg
  · cases ha; cases hb
    split at hg
    · rename_i hk
      cases hg
      exact ⟨by cases op <;> rfl, equal_bool (kind_bool hk) _ _, rfl, rfl⟩
    · cases hg
  · cases ha; cases hb
    split at hg
    · rename_i hk
      cases hg
      simp only [Bool.and_eq_true, Bool.or_eq_true, decide_eq_true_eq] at hk
      obtain ⟨ms, hms⟩ := kind_iface hk.1
      refine ⟨?_, equal_nil_nil hms, rfl, rfl⟩
      rcases hk.2 with hc | hc
      · cases x <;> simp [isConstOp] at hc
        cases op <;> rfl
      · cases y <;> simp [isConstOp] at hc
        cases op <;> cases x <;> rfl
    · cases hg
  · cases ha; cases hb
    split at hg
    · rename_i hk
      cases hg
      obtain ⟨ms, hms⟩ := kind_iface hk
      exact ⟨by cases op <;> rfl, equal_ifc_nil hms, rfl, rfl⟩
    · cases hg
  · cases ha; cases hb
    split at hg
    · rename_i hk
      cases hg
      obtain ⟨ms, hms⟩ := kind_iface hk
      exact ⟨by cases op <;> rfl, equal_nil_ifc hms, rfl, rfl⟩
    · cases hg
  · cases ha; cases hb
    split at hg
    · rename_i hk
      cases hg
      obtain ⟨e, he⟩ := kind_ptr hk
      exact ⟨by cases op <;> rfl, equal_ptr_nil he, rfl, rfl⟩
    · cases hg
  · cases ha; cases hb
    split at hg
    · rename_i hk
      cases hg
      obtain ⟨e, he⟩ := kind_ptr hk
      exact ⟨by cases op <;> rfl, equal_nil_ptr he, rfl, rfl⟩
    · cases hg
  · cases ha; cases hb
    split at hg
    · rename_i hk
      cases hg
      obtain ⟨e, he⟩ := kind_ptr hk
      exact ⟨by cases op <;> rfl, equal_ptr_nil he, rfl, rfl⟩
    · cases hg
  · cases ha; cases hb
    split at hg
    · rename_i hk
      cases hg
      obtain ⟨e, he⟩ := kind_ptr hk
      exact ⟨by cases op <;> rfl, equal_nil_ptr he, rfl, rfl⟩
    · cases hg
  · cases ha; cases hb
    split at hg
    · rename_i hk
      cases hg
      obtain ⟨e, he⟩ := kind_ptr hk
      exact ⟨by cases op <;> rfl, equal_nil_ptr he, rfl, rfl⟩
    · cases hg
  · rename_i cs ds
    split at hg
    · rename_i hk
      unfold structB at hk
      simp only [Bool.and_eq_true, Bool.not_eq_true'] at hk
      obtain ⟨⟨⟨h1, h2⟩, h3⟩, h4⟩ := hk
      obtain ⟨fs, hfs⟩ : ∃ fs, P.underlying t = some (.struct fs) := by
        split at h1
        · exact ⟨_, by assumption⟩
        · cases h1
      have hff : P.fieldsOf t = fs := by unfold Program.fieldsOf; rw [hfs]
      have ef : fldsT P t = fs.toList := by unfold fldsT; rw [hfs]
      rw [ef] at h2 hg
      have cell : ∀ {cs : List GV} {vs : Array Value}, vs.size = cs.length → (∀ (j : Nat) g u, cs[j]? = some g → vs[j]? = some u → VR C g u) → ∀ (j : Nat) g, cs[j]? = some g → ∃ u, vs[0 + j]? = some u ∧ VR C g u := fun {cs vs} hl hv j g hj => by
        have hlt := (List.getElem?_eq_some_iff.1 hj).1
        have hu : vs[j]? = some (vs[j]'(by omega)) := Array.getElem?_eq_getElem (by omega)
        exact ⟨_, by rw [Nat.zero_add]; exact hu, hv j g _ hj hu⟩
      cases ha with
      | agg hl1 hv1 =>
        cases hb with
        | agg hl2 hv2 =>
          refine ⟨run_eqGuard_agg w op t x y _ _ h4, ?_, rfl, rfl⟩
          rename_i vs1 vs2
          have h5 := run_equalIn_struct (P := P) w 9999 t vs1 vs2 (by rw [hff]; exact hfs) h3
          rw [hff] at h5
          exact h5.trans (eqFlds_run fs.toList 0 cs ds _ _ r 9998 h2 hg (cell hl1 hv1) (cell hl2 hv2))
    · cases hg
  · rename_i r0 o0 r1 o1
    split at hg
    · rename_i hk
      cases hg
      simp only [Bool.and_eq_true, decide_eq_true_eq] at hk
      obtain ⟨rfl, hk⟩ := hk
      cases hp : ptrT P t with
      | none => rw [hp] at hk; simp at hk
      | some e =>
        rw [hp] at hk
        have hk : decide (0 < (sizeT P e).getD 0) = true := hk
        cases hs : sizeT P e with
        | none => rw [hs] at hk; simp at hk
        | some n =>
          rw [hs] at hk
          have hn : 0 < n := by simpa using hk
          cases ha with
          | ptr h1 =>
            cases hb with
            | ptr h2 =>
              rw [h1] at h2; cases h2
              exact ⟨by cases op <;> rfl, equal_ptr_ptr (ptrT_und hp) hs hn _ _ _, rfl, rfl⟩
    · cases hg
  · rename_i x0 xs0
    split at hg
    · rename_i hk
      cases hg
      obtain ⟨e, he⟩ := kind_slice hk
      cases nil_full hb
      cases ha with
      | sl esz b off us hn hc ha hw hx hv ht =>
      rename_i a n c
      have : a.isNone = false := by
        rcases ha with ⟨_, h2⟩ | h2 | h2
        · simp at hn; omega
        · rw [h2]; rfl
        · simp at hn; omega
      exact ⟨by cases op <;> rfl, by rw [equal_sl_nil he, this], rfl, rfl⟩
    · cases hg
  · split at hg
    · rename_i hk
      cases hg
      obtain ⟨e, he⟩ := kind_slice hk
      cases nil_full hb
      cases nil_full ha
      exact ⟨by cases op <;> rfl, equal_sl_nil he, rfl, rfl⟩
    · cases hg
  · split at hg
    · rename_i hk
      cases hg
      obtain ⟨e, he⟩ := kind_slice hk
      cases nil_full hb
      cases ha
      exact ⟨by cases op <;> rfl, equal_sl_nil he, rfl, rfl⟩
    · cases hg
  · split at hg
    · rename_i hk
      cases hg
      obtain ⟨e, he⟩ := kind_slice hk
      cases nil_full hb
      cases ha
      exact ⟨by cases op <;> rfl, equal_sl_nil he, rfl, rfl⟩
    · cases hg
  · cases hg
theorem gbin_sound {op : BinOp} {t : TypeId} {x y : Operand} {a b g : GV} {va vb : Value} (h : Rel C σ w0 w) (ha : VR C a va) (hb : VR C b vb)
    (hg : gbin P op t (isConstOp x) (isConstOp y) a b = some g) : Runs P C w0 w σ g (do eqGuard op t x y va vb; binOp op t va vb) := by
  unfold gbin at hg
  split at hg
  · cases ha; cases hb
    split at hg
    · rename_i h0
      cases hg
      exact .pure h (.i _ _) (by simp [go_sem, binOp, Op.shift, show ¬ (_ : Int) < 0 from Int.not_lt.2 h0])
    · cases hg
  · cases ha; cases hb
    split at hg
    · rename_i h0
      cases hg
      exact .pure h (.i _ _) (by simp [go_sem, binOp, Op.shift, show ¬ (_ : Int) < 0 from Int.not_lt.2 h0])
    · cases hg
  · rename_i hn1 hn2
    cases ha; cases hb
    split at hg
    · rename_i hk
      subst hk
      exact gint_sound (fun e => hn1 e) (fun e => hn2 e) h hg
    · cases hg
  · cases ha; cases hb
    exact gstr_sound h hg
  · cases he : geq P t (isConstOp x) (isConstOp y) a b with
    | none => rw [he] at hg; cases hg
    | some r =>
      rw [he] at hg; cases hg
      obtain ⟨h1, h2, h3, h4⟩ := geq_sound (op := .eql) h ha hb he
      refine .pure h (.b r) ?_
      rw [Sem.run_bind, h1, Result.andThen_ok]
      cases va <;> cases vb <;> first
        | (cases h3; done)
        | (cases h4; done)
        | simp [binOp, h2]
  · cases he : geq P t (isConstOp x) (isConstOp y) a b with
    | none => rw [he] at hg; cases hg
    | some r =>
      rw [he] at hg; cases hg
      obtain ⟨h1, h2, h3, h4⟩ := geq_sound (op := .neq) h ha hb he
      refine .pure h (.b (!r)) ?_
      rw [Sem.run_bind, h1, Result.andThen_ok]
      cases va <;> cases vb <;> first
        | (cases h3; done)
        | (cases h4; done)
        | simp [binOp, h2]
  · cases hg
inductive OR (C : Cx) : Option GV → Option Value → Prop where
  | none : OR C none none
  | some {g : GV} {v : Value} (h : VR C g v) : OR C (some g) (some v)
theorem gbound_run {x : GV} {v : Value} {d a y : Nat} {code : BoundsCode} (hx : VR C x v) (hg : gbound (some x) d = some a) (hy : a ≤ y) : (Instr.sliceBound v y code).run P w = .ok a w := by
  unfold gbound at hg
  split at hg
  · rename_i e; cases e
  · rename_i k n e
    cases e
    split at hg
    · rename_i h0
      cases hg
      cases hx
      have h1 : n ≤ (y : Int) := by omega
      simp [Instr.sliceBound, asIntOf, h0, h1]
    · cases hg
  · cases hg
theorem bounds_run2 {lo hi : Option GV} {vlo vhi : Option Value} {is : Bool} {len cap a b : Nat} (hlo : OR C lo vlo) (hhi : OR C hi vhi)
    (ga : gbound lo 0 = some a) (gb : gbound hi len = some b) (hab : a ≤ b) (hb : b ≤ cap) : (Instr.sliceBounds is len cap vlo vhi none).run P w = .ok (a, b, cap) w := by
  unfold Instr.sliceBounds
  cases hhi with
  | none =>
    cases gb
    cases hlo with
    | none => cases ga; simp
    | some h => simp [gbound_run h ga hab]
  | some hh =>
    cases hlo with
    | none => cases ga; simp [gbound_run hh gb hb]
    | some h => simp [gbound_run h ga hab, gbound_run hh gb hb]
theorem bounds_run3 {lo hi : Option GV} {m : GV} {vlo vhi : Option Value} {vm : Value} {is : Bool} {len cap a b : Nat} (hlo : OR C lo vlo) (hhi : OR C hi vhi) (hm : VR C m vm)
    (ga : gbound lo 0 = some a) (gb : gbound hi len = some b) (gm : gbound (some m) 0 = some b) (hi' : hi.isSome = true) (hab : a ≤ b) (hb : b ≤ cap) :
    (Instr.sliceBounds is len cap vlo vhi (some vm)).run P w = .ok (a, b, b) w := by
  unfold Instr.sliceBounds
  cases hhi with
  | none => cases hi'
  | some hh =>
    cases hlo with
    | none => cases ga; simp [gbound_run hh gb (Nat.le_refl b), gbound_run hm gm hb]
    | some h => simp [gbound_run h ga hab, gbound_run hh gb (Nat.le_refl b), gbound_run hm gm hb]
theorem sliceAt_of {t : TypeId} {x : Value} {lo hi mx : Option Value} {d : TypeDesc} (hd : P.underlying t = some d) (hne : ∀ n e, d ≠ .array n e) :
    (Instr.sliceAt t x lo hi mx).run P w = (Instr.slice t x lo hi mx).run P w := by
  unfold Instr.sliceAt
  simp only [Sem.run_bind, run_underlying hd, Result.andThen_ok]
theorem gslice_sound {t : TypeId} {x g : GV} {lo hi mx : Option GV} {vx : Value} {vlo vhi vmx : Option Value} (h : Rel C σ w0 w) (hx : VR C x vx) (hlo : OR C lo vlo) (hhi : OR C hi vhi) (hmx : OR C mx vmx)
    (hg : gslice P t x lo hi mx = some g) : Runs P C w0 w σ g (Instr.sliceAt t vx vlo vhi vmx) := by
  cases hx with
  | s l =>
    simp only [gslice] at hg
    split at hg
    · rename_i hc
      simp only [Bool.and_eq_true, decide_eq_true_eq, Option.isNone_iff_eq_none] at hc
      obtain ⟨hk, rfl⟩ := hc
      cases hmx
      split at hg
      · rename_i a b ga gb
        split at hg
        · rename_i hab
          simp only [Bool.and_eq_true, decide_eq_true_eq] at hab
          cases hg
          refine .pure h (.s _) ?_
          rw [sliceAt_of (kind_str hk) (by simp)]
          have hs : (ByteArray.mk l.toArray).size = l.length := by simp [ByteArray.size]
          have hbr := bounds_run2 (P := P) (w := w) (is := false) (cap := l.length) hlo hhi ga gb hab.1 hab.2
          unfold Instr.slice
          simp only [Sem.run_bind, run_underlying (kind_str hk), Result.andThen_ok, hs]
          simp [ByteArray.extract_mk, hbr]
        · cases hg
      · cases hg
    · cases hg
  | sl esz bb off us hn hcc ha hw hxx hv ht =>
    rename_i k xs aa n c
    simp only [gslice] at hg
    split at hg
    · rename_i e he
      split at hg
      · rename_i size hs
        split at hg
        · rename_i hall
          split at hg
          · rename_i a b ga gb
            split at hg
            · rename_i hab
              simp only [Bool.and_eq_true, decide_eq_true_eq] at hab
              obtain ⟨hab1, hab2⟩ := hab
              have hesz : xs ≠ [] → esz = size := fun hne => by
                obtain ⟨y, hy⟩ := List.exists_mem_of_ne_nil xs hne
                rw [← hw y hy]
                simp only [List.all_eq_true, beq_iff_eq] at hall
                exact hall y hy
              have cut : ∀ (k' : Tok) (m : Nat), b ≤ m → (aa = none ∨ c = 0 → m = 0) → TokOk C k' (b - a) (m - a) esz (if m = a then aa else aa.map (·.add (a * size))) →
                  VR C (.sl k' ((xs.drop a).take (b - a))) (.slice (if m = a then aa else aa.map (·.add (a * size))) (b - a) (m - a)) := by
                intro k' m hbm hnone htok
                have hlen : ((xs.drop a).take (b - a)).length = b - a := by simp; omega
                have hcut : ∀ (i : Nat) x, ((xs.drop a).take (b - a))[i]? = some x → xs[a + i]? = some x := fun i x hi => by
                  rw [List.getElem?_take] at hi
                  split at hi
                  · rw [List.getElem?_drop] at hi; exact hi
                  · cases hi
                have hoff : b - a ≠ 0 → esz = size := fun hne => hesz (fun e0 => by subst e0; simp at hab2; omega)
                refine .sl esz bb (if m = a then off else off + a * size) (fun q => us (a * esz + q)) hlen.symm (by omega) ?_ (fun x hx => hw x ?_) (fun i x j g hi hj => ?_) (fun i x j g hi hj => ?_) (by rw [hlen]; exact htok)
                · rcases ha with ⟨rfl, rfl⟩ | rfl | h9
                  · have := hnone (.inl rfl)
                    left
                    refine ⟨by split <;> rfl, by omega⟩
                  · right; left
                    split
                    · rfl
                    · simp [add_none]
                  · right; right
                    have := hnone (.inr h9)
                    omega
                · exact List.mem_of_mem_drop (List.mem_of_mem_take hx)
                · have hi' := hcut i x hi
                  have hne : b - a ≠ 0 := fun e0 => by rw [e0] at hi; simp at hi
                  have hm : m ≠ a := by omega
                  rw [if_neg hm]
                  have := hxx (a + i) x j g hi' hj
                  rw [hoff hne] at this ⊢
                  rw [show off + a * size + i * size + j = off + (a + i) * size + j by rw [Nat.add_mul]; omega, show a * size + (i * size + j) = (a + i) * size + j by rw [Nat.add_mul]; omega]
                  exact this
                · have hi' := hcut i x hi
                  have := hv (a + i) x j g hi' hj
                  rw [show a * esz + (i * esz + j) = (a + i) * esz + j by rw [Nat.add_mul]; omega]
                  exact this
              have hund := elem_und he
              have hna : ∀ n e', TypeDesc.slice e ≠ .array n e' := by simp
              split at hg
              · cases hmx
                cases hg
                have hbr := bounds_run2 (P := P) (w := w) (is := true) (len := n) (cap := c) hlo hhi ga (by rw [hn]; exact gb) hab1 (by omega)
                refine .pure h (cut _ c (by omega) (fun e0 => by rcases e0 with e0 | e0; (rcases ha with ⟨_, h2⟩ | h2 | h2; exact h2; (rw [e0] at h2; cases h2); exact h2); exact e0) ?_) ?_
                · split
                  · rename_i hf
                    simp only [Bool.and_eq_true, decide_eq_true_eq] at hf
                    obtain ⟨rfl, rfl⟩ := hf
                    have e1 : (if c = 0 then aa else aa.map (·.add (0 * size))) = aa := by
                      split
                      · rfl
                      · cases aa <;> simp [Addr.add]
                    rw [e1]
                    exact ht
                  · split
                    · rename_i hf
                      simp only [Bool.and_eq_true, decide_eq_true_eq] at hf
                      obtain ⟨⟨rfl, rfl⟩, hlt⟩ := hf
                      have : c = xs.length := ht.1
                      refine ⟨?_, fun h0 => ?_⟩
                      · show c - a = xs.length - a
                        omega
                      · omega
                    · trivial
                · rw [sliceAt_of hund hna]
                  unfold Instr.slice
                  simp only [Sem.run_bind, run_underlying hund, Result.andThen_ok, hbr, run_sizeOf hs, Sem.run_pure]
              · rename_i m
                cases hmx with
                | some hm =>
                  split at hg
                  · rename_i hf
                    simp only [Bool.and_eq_true, decide_eq_true_eq] at hf
                    cases hg
                    have hbr := bounds_run3 (P := P) (w := w) (is := true) (len := n) (cap := c) hlo hhi hm ga (by rw [hn]; exact gb) hf.2 hf.1 hab1 (by omega)
                    refine .pure h (cut _ b (Nat.le_refl _) (fun e0 => by rcases e0 with e0 | e0; (rcases ha with ⟨_, h2⟩ | h2 | h2; omega; (rw [e0] at h2; cases h2); omega); omega) (by split; exact ⟨rfl, fun h0 => by omega⟩; trivial)) ?_
                    rw [sliceAt_of hund hna]
                    unfold Instr.slice
                    simp only [Sem.run_bind, run_underlying hund, Result.andThen_ok, hbr, run_sizeOf hs, Sem.run_pure]
                  · cases hg
            · cases hg
          · cases hg
        · cases hg
      · cases hg
    · cases hg
  | rp hb =>
    simp only [gslice] at hg
    split at hg
    · split at hg
      · split at hg
        · rename_i hq
          simp only [Bool.and_eq_true, decide_eq_true_eq] at hq
          omega
        · cases hg
      · cases hg
    · cases hg
  | rs hb hcc hp hxc =>
    rename_i r off esz n c bb c'
    simp only [gslice] at hg
    split at hg
    · rename_i e he
      split at hg
      · rename_i size hs
        split at hg
        · rename_i hq
          simp only [Bool.and_eq_true, decide_eq_true_eq, Option.isNone_iff_eq_none] at hq
          obtain ⟨⟨rfl, hpos⟩, rfl⟩ := hq
          cases hmx
          split at hg
          · rename_i a b ga gb
            split at hg
            · rename_i hab
              simp only [Bool.and_eq_true, decide_eq_true_eq] at hab
              obtain ⟨⟨hab1, hab2⟩, hab3⟩ := hab
              cases hg
              have hund := elem_und he
              have hna : ∀ n e', TypeDesc.slice e ≠ .array n e' := by simp
              have hbr := bounds_run2 (P := P) (w := w) (is := true) (len := n) (cap := c') hlo hhi ga gb hab1 (by omega)
              have hv9 : VR C (.rs r (off + a * esz) esz (b - a) (if a = 0 then c else 0)) (.slice (if c' = a then some ⟨bb, off, none⟩ else (some (⟨bb, off, none⟩ : Addr)).map (·.add (a * esz))) (b - a) (c' - a)) := by
                have e1 : (if c' = a then some (⟨bb, off, none⟩ : Addr) else (some (⟨bb, off, none⟩ : Addr)).map (·.add (a * esz))) = some ⟨bb, off + a * esz, none⟩ := by
                  split
                  · have : a = 0 := by omega
                    subst this; simp
                  · simp [add_none]
                rw [e1]
                refine .rs hb (by omega) hp ?_
                split
                · rename_i h0
                  subst h0
                  rcases hxc with h1 | h1
                  · exact .inl h1
                  · exact .inr (by omega)
                · exact .inl rfl
              refine .pure h hv9 ?_
              rw [sliceAt_of hund hna]
              unfold Instr.slice
              simp only [Sem.run_bind, run_underlying hund, Result.andThen_ok, hbr, run_sizeOf hs, Sem.run_pure]
            · cases hg
          · cases hg
        · cases hg
      · cases hg
    · cases hg
  | _ => simp [gslice] at hg
def PRs (C : Cx) (ps : List (Nat × GV)) (qs : List (Nat × Value)) : Prop := qs.map (·.1) = ps.map (·.1) ∧ VRs C (ps.map (·.2)) (qs.map (·.2))
theorem PRs.cons_inv {p : Nat × GV} {ps : List (Nat × GV)} {qs : List (Nat × Value)} (h : PRs C (p :: ps) qs) : ∃ v qs', qs = (p.1, v) :: qs' ∧ VR C p.2 v ∧ PRs C ps qs' := by
  obtain ⟨h1, h2⟩ := h
  cases qs with
  | nil => cases h1
  | cons q qs' =>
    simp only [List.map_cons, List.cons.injEq] at h1
    obtain ⟨v, vs', e, hv, hvs⟩ := VRs.cons_inv (by simpa using h2)
    simp only [List.cons.injEq] at e
    obtain ⟨e1, e2⟩ := e
    refine ⟨q.2, qs', by rw [← h1.1], e1 ▸ hv, h1.2, ?_⟩
    rw [e2]; exact hvs
theorem PRs.of {ps : List (Nat × Operand)} {ρ : Operand → GV} {ρ' : Operand → Value} (h : ∀ x, VR C (ρ x) (ρ' x)) : PRs C (ps.map fun p => (p.1, ρ p.2)) (ps.map fun p => (p.1, ρ' p.2)) := by
  refine ⟨by simp, by simp, fun j g u h1 h2 => ?_⟩
  simp only [List.map_map, List.getElem?_map, Option.map_eq_some_iff] at h1 h2
  obtain ⟨p, hp, rfl⟩ := h1
  obtain ⟨q, hq, rfl⟩ := h2
  rw [hp] at hq; cases hq
  exact h _
def lput : List Value → Nat → List Value → List Value
  | cs, _, [] => cs
  | cs, off, x :: xs => lput (cs.set off x) (off + 1) xs
theorem lput_len : ∀ (xs cs : List Value) (off : Nat), (lput cs off xs).length = cs.length
  | [], cs, off => rfl
  | x :: xs, cs, off => by rw [lput, lput_len xs]; simp
theorem VRs.lput : ∀ (xs : List GV) (us : List Value) (cs : List GV) (vs : List Value) (off : Nat), VRs C cs vs → VRs C xs us → VRs C (gput cs off xs) (lput vs off us)
  | [], us, cs, vs, off, h, k => by
    have : us = [] := List.eq_nil_of_length_eq_zero (by simpa using k.1)
    subst this; exact h
  | x :: xs, us, cs, vs, off, h, k => by
    obtain ⟨u, us', rfl, hu, hus⟩ := k.cons_inv
    exact VRs.lput xs us' _ _ _ (h.set off hu) hus
theorem fold_lput : ∀ (l : List Value) (k off : Nat) (cells : Array Value), ((l.zipIdx k).foldl (fun (cs : Array Value) (p : Value × Nat) => cs.setIfInBounds (off + p.2) p.1) cells).toList = lput cells.toList (off + k) l
  | [], k, off, cells => rfl
  | x :: l, k, off, cells => by
    rw [List.zipIdx_cons, List.foldl_cons, fold_lput l (k + 1) off, lput, Array.toList_setIfInBounds, Nat.add_assoc]
theorem lput_eq : ∀ (xs cs : List Value) (off : Nat), off + xs.length ≤ cs.length → lput cs off xs = cs.take off ++ xs ++ cs.drop (off + xs.length)
  | [], cs, off, _ => by simp [lput]
  | x :: xs, cs, off, h => by
    simp at h
    rw [lput, lput_eq xs (cs.set off x) (off + 1) (by simp; omega)]
    have e := list_seg_step cs off x xs (by omega)
    rw [e, List.length_cons]
theorem fill_cells (v : Value) (off : Nat) (cells : Array Value) : (v.cells.zipIdx.foldl (fun (cs : Array Value) (p : Value × Nat) => cs.setIfInBounds (off + p.2) p.1) cells).toList = lput cells.toList off v.cells.toList := by
  rw [← Array.foldl_toList, Array.toList_zipIdx, fold_lput]
  rfl
theorem gfill_sound {place : Nat → Option (Nat × Nat)} : ∀ (ps : List (Nat × GV)) (qs : List (Nat × Value)) (cs : List GV) (vs : Array Value) (r : List GV), VRs C cs vs.toList → PRs C ps qs →
    gfill place cs ps = some r → ∃ us : Array Value, Instr.fill place vs qs = some us ∧ VRs C r us.toList
  | [], qs, cs, vs, r, h, hp, hg => by
    have : qs = [] := by have := hp.1; simpa using this
    subst this
    cases hg
    exact ⟨vs, rfl, h⟩
  | p :: ps, qs, cs, vs, r, h, hp, hg => by
    obtain ⟨v, qs', rfl, hv, hps⟩ := hp.cons_inv
    obtain ⟨i, g⟩ := p
    simp only [gfill] at hg
    split at hg
    · cases hg
    · rename_i off size hpl
      split at hg
      · cases hg
      · rename_i hc
        simp only [Bool.or_eq_true, Bool.not_eq_true', decide_eq_true_eq, not_or] at hc
        obtain ⟨⟨hk, hsz⟩, hle⟩ := hc
        have hk : g.known = true := by simpa using hk
        have hcl := hv.cells hk
        have hvs : v.cells.size = g.cells.length := by rw [← Array.length_toList]; exact hcl.1
        have hcs : vs.size = cs.length := by rw [← Array.length_toList]; exact h.1
        obtain ⟨us, h1, h2⟩ := gfill_sound ps qs' _ (v.cells.zipIdx.foldl (fun (cs : Array Value) (p : Value × Nat) => cs.setIfInBounds (off + p.2) p.1) vs) r (by rw [fill_cells]; exact VRs.lput _ _ _ _ _ h hcl) hps hg
        refine ⟨us, ?_, h2⟩
        simp only [Instr.fill, hpl]
        rw [if_neg (by simp; refine ⟨?_, ?_⟩ <;> omega)]
        exact h1
theorem places_get : ∀ (fs : List Field) (places : List (Nat × Nat)), fs.mapM (fun (f : Field) => (P.info? f.type).map fun i => (f.offset, i.size)) = some places →
    ∀ i : Nat, places[i]? = (fs[i]?).bind fun (f : Field) => (P.info? f.type).map fun i => (f.offset, i.size)
  | [], places, h, i => by simp at h; subst h; simp
  | f :: fs, places, h, i => by
    simp only [List.mapM_cons, Option.bind_eq_bind, Option.pure_def, Option.bind_eq_some_iff] at h
    obtain ⟨p, hp, rest, hr, he⟩ := h
    cases he
    cases i with
    | zero => simp [hp]
    | succ i => simpa using places_get fs rest hr i
theorem places_some : ∀ (fs : List Field), (∀ f ∈ fs, (P.info? f.type).isSome = true) → ∃ places, fs.mapM (fun (f : Field) => (P.info? f.type).map fun i => (f.offset, i.size)) = some places
  | [], _ => ⟨[], rfl⟩
  | f :: fs, h => by
    obtain ⟨pl, hp⟩ := places_some fs (fun g hg => h g (by simp [hg]))
    obtain ⟨i, hi⟩ := Option.isSome_iff_exists.1 (h f (by simp))
    exact ⟨(f.offset, i.size) :: pl, by simp [List.mapM_cons, hi, hp]⟩
theorem gbuild_sound {t : TypeId} {ps : List (Nat × GV)} {qs : Array (Nat × Value)} {g : GV} (h : Rel C σ w0 w) (hp : PRs C ps qs.toList) (hg : gbuild P t ps = some g) : Runs P C w0 w σ g (Instr.build t qs) := by
  unfold gbuild at hg
  split at hg
  · rename_i z hz
    split at hg
    · rename_i hsz
      cases hf : gfill (placeT P t) z ps with
      | none => rw [hf] at hg; cases hg
      | some r =>
        rw [hf] at hg; cases hg
        unfold sizedT at hsz
        split at hsz
        · rename_i fs hu
          have hall : ∀ f ∈ fs.toList, (P.info? f.type).isSome = true := fun f hf => by
            rw [List.all_eq_true] at hsz
            exact hsz f hf
          obtain ⟨places, hpl⟩ := places_some (P := P) fs.toList hall
          unfold gzero at hz
          cases hi : P.info? t with
          | none => rw [hi] at hz; cases hz
          | some it =>
            rw [hi] at hz
            cases hzz : it.zero with
            | none => rw [Option.bind_some, hzz] at hz; cases hz
            | some zv =>
              rw [Option.bind_some, hzz] at hz
              have hz' : gconst zv = .agg z := by simpa using hz
              have hzr := (gconst_sound C zv).cells (by rw [hz']; rfl)
              rw [hz'] at hzr
              have hplace : (fun i => places.toArray[i]?) = placeT P t := by
                funext i
                rw [List.getElem?_toArray, places_get fs.toList places hpl i]
                unfold placeT arrT fieldT sizeT
                rw [hu]
                simp only
                cases hfi : fs[i]? with
                | none => simp [hfi]
                | some f => cases hii : P.info? f.type <;> simp [hfi, hii]
              obtain ⟨us, h1, h2⟩ := gfill_sound ps qs.toList z zv.cells r hzr hp hf
              refine .pure h (v := .agg us) (.agg (by rw [← Array.length_toList]; exact h2.1) (fun j g u a b => h2.2 j g u a (by simpa using b))) ?_
              apply run_build
              unfold Program.built
              simp only [hi, hu, hzz, hpl]
              rw [hplace]
              exact h1
        · rename_i len e hu
          obtain ⟨ie, hie⟩ := Option.isSome_iff_exists.1 hsz
          unfold gzero at hz
          cases hi : P.info? t with
          | none => rw [hi] at hz; cases hz
          | some it =>
            rw [hi] at hz
            cases hzz : it.zero with
            | none => rw [Option.bind_some, hzz] at hz; cases hz
            | some zv =>
              rw [Option.bind_some, hzz] at hz
              have hz' : gconst zv = .agg z := by simpa using hz
              have hzr := (gconst_sound C zv).cells (by rw [hz']; rfl)
              rw [hz'] at hzr
              have hplace : (fun i => some (i * ie.size, ie.size)) = placeT P t := by
                funext i
                unfold placeT arrT sizeT
                rw [hu]
                simp only [hie, Option.map_some]
              obtain ⟨us, h1, h2⟩ := gfill_sound ps qs.toList z zv.cells r hzr hp hf
              refine .pure h (v := .agg us) (.agg (by rw [← Array.length_toList]; exact h2.1) (fun j g u a b => h2.2 j g u a (by simpa using b))) ?_
              apply run_build
              unfold Program.built
              simp only [hi, hu, hzz, hie]
              rw [hplace]
              exact h1
        · cases hsz
    · cases hg
  · cases hg
theorem fill_all {size : Nat} : ∀ (qs : List (Nat × Value)) (k : Nat) (cells : Array Value), qs.map (·.1) = List.range' k qs.length → (∀ q ∈ qs, q.2.cells.size = size) → cells.size = (k + qs.length) * size →
    ∃ us : Array Value, Instr.fill (fun i => some (i * size, size)) cells qs = some us ∧ us.toList = cells.toList.take (k * size) ++ (qs.map (·.2)).flatMap fun v => v.cells.toList
  | [], k, cells, _, _, hs => ⟨cells, rfl, by simp at hs ⊢; rw [List.take_of_length_le]; simp; omega⟩
  | (i, v) :: qs, k, cells, hi, hw, hs => by
    simp only [List.map_cons, List.length_cons, List.range'_succ, List.cons.injEq] at hi
    obtain ⟨rfl, hi⟩ := hi
    have hvs : v.cells.size = size := hw (i, v) (by simp)
    simp only [List.length_cons] at hs
    have hmul : (i + (qs.length + 1)) * size = i * size + size + qs.length * size := by rw [Nat.add_mul, Nat.succ_mul]; omega
    let c2 := v.cells.zipIdx.foldl (fun (cs : Array Value) (p : Value × Nat) => cs.setIfInBounds (i * size + p.2) p.1) cells
    have h2 : c2.toList = lput cells.toList (i * size) v.cells.toList := fill_cells v (i * size) cells
    have h2s : c2.size = cells.size := by rw [← Array.length_toList, h2, lput_len]; simp
    obtain ⟨us, h3, h4⟩ := fill_all qs (i + 1) c2 hi (fun q hq => hw q (by simp [hq])) (by rw [h2s, hs]; congr 1; omega)
    refine ⟨us, ?_, ?_⟩
    · simp only [Instr.fill]
      rw [if_neg (by simp; refine ⟨hvs, ?_⟩; omega)]
      exact h3
    · rw [h4, h2, lput_eq _ _ _ (by simp; omega)]
      have e1 : (cells.toList.take (i * size) ++ v.cells.toList).length = (i + 1) * size := by simp [hvs, Nat.succ_mul]; omega
      rw [← e1, List.take_left, List.map_cons, List.flatMap_cons, List.append_assoc]
theorem VRs.flat : ∀ (xs : List GV) (us : List Value), (∀ x ∈ xs, x.known = true) → VRs C xs us → VRs C (flat xs) (us.flatMap fun v => v.cells.toList)
  | [], us, _, h => by
    have : us = [] := List.eq_nil_of_length_eq_zero (by simpa using h.1)
    subst this; exact VRs.nil
  | x :: xs, us, hk, h => by
    obtain ⟨u, us', rfl, hu, hus⟩ := h.cons_inv
    rw [flat_cons, List.flatMap_cons]
    exact (hu.cells (hk x (by simp))).append (VRs.flat xs us' (fun y hy => hk y (by simp [hy])) hus)
theorem gbuildSlice_sound {t : TypeId} {len : Nat} {ps : List (Nat × GV)} {qs : Array (Nat × Value)} {f : GNew} {r0 : Nat} {σ' : GS} (h : Rel C σ w0 w) (hp : PRs C ps qs.toList)
    (hg : gbuildSlice P t len ps = some f) (hx : NewAt C σ r0 f.2 σ') : Runs P C w0 w σ' (f.1 r0) (Instr.buildSlice t len qs) := by
  unfold gbuildSlice at hg
  split at hg
  · rename_i e he
    split at hg
    · rename_i size z hs hz
      split at hg
      · rename_i hc
        simp only [Bool.and_eq_true, decide_eq_true_eq, beq_iff_eq, List.all_eq_true] at hc
        obtain ⟨⟨⟨⟨hsz, hzk⟩, hrange⟩, hok⟩, hlim⟩ := hc
        split at hg
        · rename_i hwl
          simp only [Bool.and_eq_true, beq_iff_eq] at hwl
          obtain ⟨_, rfl⟩ := hwl
          cases hg
          have h2 : ps = [] := by simpa using hrange
          have hq' : qs = #[] := by
            have h1 := hp.1
            rw [h2] at h1
            simpa using h1
          subst hq'
          obtain ⟨D, hl, ho, hr⟩ := h.newNil hx
          refine ⟨D, .slice (some ⟨w.heap.size, 0, none⟩) 0 0, w.alloc (.cells #[] e), hl, hr.world rfl rfl rfl (by simp) (fun k hk => Below.heap_alloc w _ k hk), .sl 0 w.heap.size 0 (fun _ => undef) rfl (Nat.le_refl _) (.inr (.inl rfl)) (fun x hx => by cases hx) (fun i x j g h => by simp at h) (fun i x j g h => by simp at h) ⟨_, ho, Nat.le_refl _, fun h => absurd h (Nat.lt_irrefl 0), fun _ => .inl ⟨rfl, rfl⟩⟩, ?_⟩
          have hu := elem_und he
          have hr0 : Array.range 0 = #[] := rfl
          unfold Instr.buildSlice
          simp [run_underlying hu, run_sizeOf hs, Instr.fill, newRow, hr0]
        obtain ⟨vz, hvz, rfl⟩ := gzero_run hz w
        have hlen : qs.toList.length = len := by
          have := congrArg List.length hp.1
          have h2 := congrArg List.length hrange
          simp at this h2
          simp; omega
        have hw : ∀ q ∈ qs.toList, q.2.cells.size = size := fun q hq => by
          obtain ⟨j, hj⟩ := List.mem_iff_getElem?.1 hq
          have hj2 : (qs.toList.map (·.2))[j]? = some q.2 := by simp [List.getElem?_map] at hj ⊢; exact ⟨q.1, hj⟩
          have hjl : j < (ps.map (·.2)).length := by rw [← hp.2.1]; exact (List.getElem?_eq_some_iff.1 hj2).1
          have hr := hp.2.2 j _ q.2 (List.getElem?_eq_getElem hjl) hj2
          have ho := hok _ (List.getElem_mem hjl)
          rw [← Array.length_toList, (hr.cells (okEl_known ho)).1]
          exact okEl_len ho
        let c0 : Array Value := (Array.range (len * size)).map (fun i => vz.cells[i % vz.cells.size]!)
        obtain ⟨us, h1, h2⟩ := fill_all (size := size) qs.toList 0 c0 (by rw [hp.1, hrange, hlen, List.range_eq_range']) hw (by simp [c0]; simp at hlen; rw [hlen])
        have hus : us.toList = (qs.toList.map (·.2)).flatMap fun v => v.cells.toList := by simpa using h2
        have hflat : VRs C (flat (ps.map (·.2))) us.toList := by rw [hus]; exact VRs.flat _ _ (fun x hx => okEl_known (hok x hx)) hp.2
        have hwid : ∀ x ∈ ps.map (·.2), x.cells.length = size := fun x hx => okEl_len (hok x hx)
        have hplen : (ps.map (·.2)).length = len := by have := hp.2.1; simp at this hlen ⊢; omega
        have husz : us.size = len * size := by rw [← Array.length_toList, hflat.1, flat_len _ hwid, hplen]
        have hrun : (Instr.buildSlice t len qs).run P w = .ok (.slice (some ⟨w.heap.size, 0, none⟩) len len) (w.alloc (.cells us e)) := by
          have hu := elem_und he
          unfold Instr.buildSlice
          have hlim2 : ¬ (2 ^ 24 < len * size) := by simpa using hlim
          by_cases h0 : len * size = 0
          · have hq : qs.toList = [] := by
              have : len = 0 := by rcases Nat.mul_eq_zero.1 h0 with h | h; exact h; omega
              exact List.eq_nil_of_length_eq_zero (by omega)
            have hq' : qs = #[] := by rw [← Array.toList_inj]; exact hq
            have hue : us = #[] := by rw [← Array.toList_inj, hus, hq]; rfl
            subst hq'
            have hr0 : Array.range 0 = #[] := rfl
            simp [run_underlying hu, run_sizeOf hs, h0, Instr.fill, newRow, hue, hr0]
          · simp [run_underlying hu, run_sizeOf hs, hlim2, h0, hvz, newRow]
            have h1' : Instr.fill (fun i => some (i * size, size)) ((Array.range (len * size)).map fun i => vz.cells[i % vz.cells.size]!) qs.toList = some us := h1
            simp only [h1']
            rfl
        split at hg
        · cases hg
          obtain ⟨hl, hr⟩ := h.newBox _ e hx us hflat
          exact ⟨_, _, _, hl, hr, .rs (if_pos rfl) (Nat.le_refl _) hsz (.inr rfl), hrun⟩
        cases hg
        obtain ⟨D, hl, hown, hfx, hrel⟩ := h.newRow len size e hx us hsz (by omega)
        refine ⟨D, .slice (some ⟨w.heap.size, 0, none⟩) (ps.map (·.2)).length len, _, hl, hrel, sl_of (k := .own r0) hwid (hflat.mono hl) (fun j u hj => ?_) (by omega) ⟨_, hown, by rw [hplen]; exact Nat.le_refl _, fun _ => rfl, fun _ => .inr ⟨_, _, rfl, rfl, by rw [husz]; exact Nat.le_refl _⟩⟩, ?_⟩
        · rw [Nat.zero_add]
          refine hfx j u ?_ (by simpa using hj)
          have := (List.getElem?_eq_some_iff.1 hj).1
          rw [Array.length_toList] at this; omega
        · rw [hplen]; exact hrun
      · cases hg
    · cases hg
  · cases hg
end
end Go.Proofs.YtcbknpdjdlgljaaGreatDoor
