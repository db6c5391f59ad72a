/-
  CondShows: Show, Valid, Names and Vars of every text are those of the reference, and the canonical text is shown as itself, for every text; part 41 of 42. Conditions: none beyond the given statement.

-/
import Derived.Test.YtlhabmglchgdnaaGreatDoorQ40
import Derived.Test.YtlhabmglchgdnaaGreatDoorQ38
import Derived.Test.YtlhabmglchgdnaaGreatDoorQ20
set_option linter.all false
namespace Go.Proofs.YtlhabmglchgdnaaGreatDoor
open Go.RowKit
set_option maxRecDepth 100000
set_option linter.unusedVariables false
theorem tok_len : ∀ (n : Nat) (l : List UInt8), l.length ≤ n → ∀ w ∈ toks l, w.length ≤ l.length
  | 0, l, h, w, hw => by
    have : l = [] := List.eq_nil_of_length_eq_zero (by omega)
    subst this; rw [toks_nil rfl] at hw; cases hw
  | n + 1, l, h, w, hw => by
    cases hk : skip l with
    | nil => rw [toks_nil hk] at hw; cases hw
    | cons c t =>
      rw [toks_cons hk] at hw
      have h1 := skip_len l
      rw [hk] at h1
      have h2 := wlen_pos c t
      simp only [List.length_cons] at h1
      rcases List.mem_cons.1 hw with rfl | hw
      · unfold wrd
        rw [List.length_take]
        simp only [List.length_cons]; omega
      · have := tok_len n ((c :: t).drop (wlen (c :: t))) (by simp; omega) w hw
        simp at this; omega
def nodeN : GV := .agg (ndc 0 [] t0 t0 [] false)
def readRG (s : By) : GV := match readR s with
  | .ok t => .tup [t.ng, .i .i64 0]
  | .err e => .tup [nodeN, .i .i64 e]
theorem nodeN_cl : Cl nodeN := Cl.agg (ndc_cl ClL.nil t0 t0 [] false)
theorem readRG_cl (s : By) : Cl (readRG s) := by
  unfold readRG
  split
  · exact Cl.tup (.cons (Tree.ng_cl _) (.cons (.i _ _) .nil))
  · exact Cl.tup (.cons nodeN_cl (.cons (.i _ _) .nil))
theorem r_Read (s : By) (hs : s.length < 1000000) : SC Tryz.prog 48 [.s s] [] (.val (readRG s)) [] := by
  by_cases hl : 1000 < s.length
  · have e : readRG s = .tup [nodeN, .i .i64 3] := by unfold readRG readR; rw [if_pos hl]
    rw [e]
    refine SC.of_gwp noM mixed Tryz.func48 rfl (Nat.le_of_ble_eq_true rfl) (by first | exact Nat.le_refl _ | simp) rfl ?_
    conv => whnf
    refine GIf.mk (fun h => ?_) (fun h => ?_) <;> conv => whnf
    · skip
      refine ⟨_, ⟨rfl, Nat.zero_le _, rfl, Nat.le_of_ble_eq_true rfl⟩, ?_⟩
      conv => whnf
      exact owes_wk (wk_t2 wk_node (.refl _)) (Cl.tup (.cons nodeN_cl (.cons (.i _ _) .nil)))
    · exfalso; have := of_decide_eq_false h; omega
  · have hsp := r_split s hs
    cases hss : splitS s with
    | none =>
      rw [hss] at hsp
      have e : readRG s = .tup [nodeN, .i .i64 2] := by unfold readRG readR; rw [if_neg hl, hss]
      rw [e]
      replace hsp : SC Tryz.prog 79 [.s s] [] (.val (.tup [.sl .none [], .b false])) [] := hsp
      refine SC.of_gwp noM mixed Tryz.func48 rfl (Nat.le_of_ble_eq_true rfl) (by first | exact Nat.le_refl _ | simp) rfl ?_
      conv => whnf
      refine GIf.mk (fun h => ?_) (fun h => ?_) <;> conv => whnf
      · exfalso; have := of_decide_eq_true h; omega
      refine callP hsp (Wks.refl _) rfl (fun _ => rfl) (fun _ => rfl) ?_
      conv => whnf
      refine ⟨_, ⟨rfl, Nat.zero_le _, rfl, Nat.le_of_ble_eq_true rfl⟩, ?_⟩
      conv => whnf
      exact owes_wk (wk_t2 wk_node (.refl _)) (Cl.tup (.cons nodeN_cl (.cons (.i _ _) .nil)))
    | some ws =>
      rw [hss] at hsp
      replace hsp : SC Tryz.prog 79 [.s s] [] (.val (.tup [.sl .none (strG ws), .b true])) [] := hsp
      have ht := split_to _ _ _ hss
      have hwl := toks_len s.length s (Nat.le_refl _)
      rw [ht] at hwl
      have hx : ∀ w ∈ ws, w.length < 1000000 := fun w hw => by
        have := tok_len s.length s (Nat.le_refl _) w (by rw [ht]; exact hw)
        omega
      have h4 := (fourR ws (by omega) hx (fuel s) 0 0 0 (Nat.zero_le _) (by omega)).1 (by unfold fuel; omega)
      rw [List.drop_zero] at h4
      have hcl0 : Cl (.tup [.sl .none (strG ws), .b true]) := Cl.tup (.cons (Cl.sl (strG_cl ws)) (.cons (.b _) .nil))
      cases hp : pars litR (fuel s) .or 0 0 ws with
      | none =>
        rw [hp] at h4
        obtain ⟨t, a', l', b1, b2, b3, hc⟩ := h4
        have e : readRG s = .tup [nodeN, .i .i64 2] := by unfold readRG readR; rw [if_neg hl, hss]; simp only; rw [hp]
        rw [e]
        have hcl := t.ng_cl
        obtain ⟨k, kids, A, B, op, yes, hng⟩ := ng_form t
        rw [hng] at hc hcl
        refine SC.of_gwp noM mixed Tryz.func48 rfl (Nat.le_of_ble_eq_true rfl) (by first | exact Nat.le_refl _ | simp) rfl ?_
        conv => whnf
        refine GIf.mk (fun h => ?_) (fun h => ?_) <;> conv => whnf
        · exfalso; have := of_decide_eq_true h; omega
        refine callP hsp (Wks.refl _) rfl (fun _ => rfl) hcl0 ?_
        conv => whnf
        refine callB (q := 1) hc rfl (Wks.refl _) rfl rfl (rdr_cl _ _ _ _ _) (rdr_cl _ _ _ _ _) (fun _ => rfl) hcl ?_
        conv => whnf
        refine ⟨_, ⟨rfl, Nat.zero_le _, rfl, Nat.le_of_ble_eq_true rfl⟩, ?_⟩
        conv => whnf
        refine ⟨_, ⟨rfl, Nat.zero_le _, rfl, Nat.le_of_ble_eq_true rfl⟩, ?_⟩
        conv => whnf
        exact owes_wk (wk_t2 wk_node (.refl _)) (Cl.tup (.cons nodeN_cl (.cons (.i _ _) .nil)))
      | some p =>
        obtain ⟨t, r, e⟩ := p
        rw [hp] at h4
        obtain ⟨a', b1, b2, hr, b3, hc⟩ := h4
        have hcl := t.ng_cl
        obtain ⟨k, kids, A, B, op, yes, hng⟩ := ng_form t
        have hsl := strG_len ws
        by_cases hlt : a' < ws.length
        · have e : readRG s = .tup [nodeN, .i .i64 2] := by
            unfold readRG readR; rw [if_neg hl, hss]; simp only; rw [hp]; simp only
            rw [if_neg (by intro h; rw [h] at hr; have := congrArg List.length hr; simp at this; omega)]
          rw [e]
          rw [hng] at hc hcl
          refine SC.of_gwp noM mixed Tryz.func48 rfl (Nat.le_of_ble_eq_true rfl) (by first | exact Nat.le_refl _ | simp) rfl ?_
          conv => whnf
          refine GIf.mk (fun h => ?_) (fun h => ?_) <;> conv => whnf
          · exfalso; have := of_decide_eq_true h; omega
          refine callP hsp (Wks.refl _) rfl (fun _ => rfl) hcl0 ?_
          conv => whnf
          refine callB (q := 1) hc rfl (Wks.refl _) rfl rfl (rdr_cl _ _ _ _ _) (rdr_cl _ _ _ _ _) (fun _ => rfl) hcl ?_
          conv => whnf
          refine ⟨_, ⟨rfl, Nat.zero_le _, rfl, Nat.le_of_ble_eq_true rfl⟩, ?_⟩
          conv => whnf
          refine GIf.mk (fun h2 => ?_) (fun h2 => ?_) <;> conv => whnf
          · skip
            refine ⟨_, ⟨rfl, Nat.zero_le _, rfl, Nat.le_of_ble_eq_true rfl⟩, ?_⟩
            conv => whnf
            exact owes_wk (wk_t2 wk_node (.refl _)) (Cl.tup (.cons nodeN_cl (.cons (.i _ _) .nil)))
          · exfalso; have := of_decide_eq_false h2; omega
        · have hr0 : r = [] := by rw [hr]; exact List.drop_eq_nil_of_le (by omega)
          by_cases h20 : 20 < e
          · have e : readRG s = .tup [nodeN, .i .i64 4] := by
              unfold readRG readR; rw [if_neg hl, hss]; simp only; rw [hp]; simp only
              rw [if_pos hr0, if_pos h20]
            rw [e]
            rw [hng] at hc hcl
            rw [decide_eq_true h20] at hc
            refine SC.of_gwp noM mixed Tryz.func48 rfl (Nat.le_of_ble_eq_true rfl) (by first | exact Nat.le_refl _ | simp) rfl ?_
            conv => whnf
            refine GIf.mk (fun h => ?_) (fun h => ?_) <;> conv => whnf
            · exfalso; have := of_decide_eq_true h; omega
            refine callP hsp (Wks.refl _) rfl (fun _ => rfl) hcl0 ?_
            conv => whnf
            refine callB (q := 1) hc rfl (Wks.refl _) rfl rfl (rdr_cl _ _ _ _ _) (rdr_cl _ _ _ _ _) (fun _ => rfl) hcl ?_
            conv => whnf
            refine ⟨_, ⟨rfl, Nat.zero_le _, rfl, Nat.le_of_ble_eq_true rfl⟩, ?_⟩
            conv => whnf
            refine GIf.mk (fun h2 => ?_) (fun h2 => ?_) <;> conv => whnf
            · exfalso; have := of_decide_eq_true h2; omega
            · skip
              refine ⟨_, ⟨rfl, Nat.zero_le _, rfl, Nat.le_of_ble_eq_true rfl⟩, ?_⟩
              conv => whnf
              exact owes_wk (wk_t2 wk_node (.refl _)) (Cl.tup (.cons nodeN_cl (.cons (.i _ _) .nil)))
          · have e : readRG s = .tup [t.ng, .i .i64 0] := by
              unfold readRG readR; rw [if_neg hl, hss]; simp only; rw [hp]; simp only
              rw [if_pos hr0, if_neg h20]
            rw [e]
            rw [hng] at hc hcl ⊢
            rw [decide_eq_false h20] at hc
            refine SC.of_gwp noM mixed Tryz.func48 rfl (Nat.le_of_ble_eq_true rfl) (by first | exact Nat.le_refl _ | simp) rfl ?_
            conv => whnf
            refine GIf.mk (fun h => ?_) (fun h => ?_) <;> conv => whnf
            · exfalso; have := of_decide_eq_true h; omega
            refine callP hsp (Wks.refl _) rfl (fun _ => rfl) hcl0 ?_
            conv => whnf
            refine callB (q := 1) hc rfl (Wks.refl _) rfl rfl (rdr_cl _ _ _ _ _) (rdr_cl _ _ _ _ _) (fun _ => rfl) hcl ?_
            conv => whnf
            refine ⟨_, ⟨rfl, Nat.zero_le _, rfl, Nat.le_of_ble_eq_true rfl⟩, ?_⟩
            conv => whnf
            refine GIf.mk (fun h2 => ?_) (fun h2 => ?_) <;> conv => whnf
            · exfalso; have := of_decide_eq_true h2; omega
            · skip
              refine ⟨_, ⟨rfl, Nat.zero_le _, rfl, Nat.le_of_ble_eq_true rfl⟩, ?_⟩
              conv => whnf
              exact owes_wk (.refl _) (Cl.tup (.cons hcl (.cons (.i _ _) .nil)))
theorem readR_err {s : By} {e : Int} (h : readR s = .err e) : e = 2 ∨ e = 3 ∨ e = 4 := by
  unfold readR at h
  split at h
  · cases h; omega
  · split at h
    · cases h; omega
    · split at h
      · split at h
        · split at h
          · cases h; omega
          · cases h
        · cases h; omega
      · cases h; omega
theorem r_told (t : Tree) (hg : t.good) (hz : t.size ≤ 2000) : SC Tryz.prog 49 [t.ng] [] (.val (.tup [.s (toldR t).1, .i .i64 (toldR t).2])) [] := by
  have hw := r_Written2 2000 t hz hz hg
  have hcl := t.ng_cl
  have hb := plain_le t.flat (flat_nice (nice_of hg))
  rw [flat_size] at hb
  have hr := r_Read t.flat.plain (by omega)
  have hrc := readRG_cl t.flat.plain
  unfold readRG at hr hrc
  obtain ⟨k, kids, A, B, op, yes, hng⟩ := ng_form t
  rw [hng] at hw hcl ⊢
  unfold toldR
  clear hg hng
  generalize t.flat.plain = X at *
  by_cases hl : 1000 < X.length
  · rw [if_pos hl]
    refine SC.of_gwp noM mixed Tryz.func49 rfl (Nat.le_of_ble_eq_true rfl) (by first | exact Nat.le_refl _ | simp) rfl ?_
    conv => whnf
    refine callP hw (Wks.refl _) rfl (ClL.cons hcl .nil) (.s _) ?_
    conv => whnf
    refine GIf.mk (fun h => ?_) (fun h => ?_) <;> conv => whnf
    · exact owes_wk (.refl _) (fun _ => rfl)
    · exfalso; have := of_decide_eq_false h; omega
  · rw [if_neg hl]
    cases hx : readR X with
    | ok u =>
      rw [hx] at hr hrc
      replace hr : SC Tryz.prog 48 [.s X] [] (.val (.tup [u.ng, .i .i64 0])) [] := hr
      replace hrc : Cl (.tup [u.ng, .i .i64 0]) := hrc
      obtain ⟨k2, kids2, A2, B2, op2, yes2, hng2⟩ := ng_form u
      rw [hng2] at hr hrc
      refine SC.of_gwp noM mixed Tryz.func49 rfl (Nat.le_of_ble_eq_true rfl) (by first | exact Nat.le_refl _ | simp) rfl ?_
      conv => whnf
      refine callP hw (Wks.refl _) rfl (ClL.cons hcl .nil) (.s _) ?_
      conv => whnf
      refine GIf.mk (fun h => ?_) (fun h => ?_) <;> conv => whnf
      · exfalso; have := of_decide_eq_true h; omega
      refine callP hr (Wks.refl _) rfl (fun _ => rfl) hrc ?_
      conv => whnf
      refine ⟨_, ⟨rfl, Nat.zero_le _, rfl, Nat.le_of_ble_eq_true rfl⟩, ?_⟩
      conv => whnf
      exact owes_wk (.refl _) (fun _ => rfl)
    | err e =>
      rw [hx] at hr hrc
      replace hr : SC Tryz.prog 48 [.s X] [] (.val (.tup [nodeN, .i .i64 e])) [] := hr
      replace hrc : Cl (.tup [nodeN, .i .i64 e]) := hrc
      have he := readR_err hx
      refine SC.of_gwp noM mixed Tryz.func49 rfl (Nat.le_of_ble_eq_true rfl) (by first | exact Nat.le_refl _ | simp) rfl ?_
      conv => whnf
      refine callP hw (Wks.refl _) rfl (ClL.cons hcl .nil) (.s _) ?_
      conv => whnf
      refine GIf.mk (fun h => ?_) (fun h => ?_) <;> conv => whnf
      · exfalso; have := of_decide_eq_true h; omega
      refine callP hr (Wks.refl _) rfl (fun _ => rfl) hrc ?_
      conv => whnf
      refine ⟨_, ⟨rfl, Nat.zero_le _, rfl, Nat.le_of_ble_eq_true rfl⟩, ?_⟩
      conv => whnf
      refine GIf.mk (fun h2 => ?_) (fun h2 => ?_) <;> conv => whnf
      · exact owes_wk (.refl _) (fun _ => rfl)
      · exfalso
        have : e = 0 := by simpa using h2
        omega
theorem readR_size {s : By} {t : Tree} (h : readR s = .ok t) : t.size ≤ 1000 := by
  have hr := readR_eq s
  rw [h] at hr
  have := (readS_bound hr).2.1
  rw [flat_size] at this
  exact this
theorem r_Show (s : By) (hs : s.length < 1000000) : SC Tryz.prog 11 [.s s] [] (.val (.tup [.s (showR s).1, .i .i64 (showR s).2])) [] := by
  have hr := r_Read s hs
  have hrc := readRG_cl s
  unfold readRG at hr hrc
  unfold showR
  cases hx : readR s with
  | ok t =>
    rw [hx] at hr hrc
    replace hr : SC Tryz.prog 48 [.s s] [] (.val (.tup [t.ng, .i .i64 0])) [] := hr
    replace hrc : Cl (.tup [t.ng, .i .i64 0]) := hrc
    have ht := r_told t (readR_good hx) (by have := readR_size hx; omega)
    have hcl := t.ng_cl
    obtain ⟨k, kids, A, B, op, yes, hng⟩ := ng_form t
    rw [hng] at hr hrc ht hcl
    simp only
    refine SC.of_gwp noM mixed Tryz.func11 rfl (Nat.le_of_ble_eq_true rfl) (by first | exact Nat.le_refl _ | simp) rfl ?_
    conv => whnf
    refine callP hr (Wks.refl _) rfl (fun _ => rfl) hrc ?_
    conv => whnf
    refine ⟨_, ⟨rfl, Nat.zero_le _, rfl, Nat.le_of_ble_eq_true rfl⟩, ?_⟩
    conv => whnf
    refine callP ht (Wks.refl _) rfl (ClL.cons hcl .nil) (fun _ => rfl) ?_
    conv => whnf
    exact owes_wk (.refl _) (fun _ => rfl)
  | err e =>
    rw [hx] at hr hrc
    replace hr : SC Tryz.prog 48 [.s s] [] (.val (.tup [nodeN, .i .i64 e])) [] := hr
    replace hrc : Cl (.tup [nodeN, .i .i64 e]) := hrc
    have he := readR_err hx
    simp only
    refine SC.of_gwp noM mixed Tryz.func11 rfl (Nat.le_of_ble_eq_true rfl) (by first | exact Nat.le_refl _ | simp) rfl ?_
    conv => whnf
    refine callP hr (Wks.refl _) rfl (fun _ => rfl) hrc ?_
    conv => whnf
    refine ⟨_, ⟨rfl, Nat.zero_le _, rfl, Nat.le_of_ble_eq_true rfl⟩, ?_⟩
    conv => whnf
    refine GIf.mk (fun h2 => ?_) (fun h2 => ?_) <;> conv => whnf
    · exact owes_wk (.refl _) (fun _ => rfl)
    · exfalso
      have : e = 0 := by simpa using h2
      omega
theorem r_Valid (s : By) (hs : s.length < 1000000) : SC Tryz.prog 13 [.s s] [] (.val (.b ((showR s).2 == 0))) [] := by
  have hr := r_Show s hs
  refine SC.of_gwp noM mixed Tryz.func13 rfl (Nat.le_of_ble_eq_true rfl) (by first | exact Nat.le_refl _ | simp) rfl ?_
  conv => whnf
  refine callP hr (by first | exact Wks.refl _ | exact Wks.cons (Wk.sl _ _) (Wks.refl _) | exact Wks.cons (Wk.sl _ _) (Wks.cons (Wk.sl _ _) (Wks.refl _)) | exact Wks.cons (Wk.refl _) (Wks.cons (Wk.sl _ _) (Wks.refl _))) rfl (by first | exact fun _ => rfl | exact Cl.sl (ClL.mapOf (fun _ => Cl.s _) _) | exact ClL.cons (Cl.sl (ClL.mapOf (fun _ => Cl.s _) _)) (fun _ => rfl)) (by first | exact fun _ => rfl | exact Cl.sl (ClL.mapOf (fun _ => Cl.s _) _) | exact ClL.cons (Cl.sl (ClL.mapOf (fun _ => Cl.s _) _)) (fun _ => rfl)) ?_
  conv => whnf
  exact owes_b rfl
end Go.Proofs.YtlhabmglchgdnaaGreatDoor
namespace Go.Proofs.YtlhabmglchgdnaaGreatDoor
open Go.RowKit
set_option maxRecDepth 100000
set_option linter.unusedVariables false
def strs (l : List By) : List GV := l.map .s
theorem strs_cl (l : List By) : ClL (strs l) := ClL.mapOf Cl.s l
theorem strs_ok (l : List By) : (strs l).all (fun x => x.cells.length == 1) = true := by
  rw [List.all_eq_true]; intro x hx
  obtain ⟨v, _, rfl⟩ := List.mem_map.1 hx
  rfl
def gH (vr : Bool) (l : List By) : List GObj := [.box 4 [.b vr], .box 27 [.sl (.own 2) (strs l)], ow 9 1 l.length]
def addT (vr : Bool) (l : List By) (t : Term) : List By := if t.name ≠ [] ∧ t.var = vr ∧ ¬ t.name ∈ l then l ++ [t.name] else l
theorem gH_own (vr : Bool) (l : List By) : Own0 (gH vr l) := fun e he => by
  show [GObj.box _ [.b vr], GObj.box _ [(GV.sl (.own 2) (strs l)).ren e], (ow _ 1 l.length).ren e] = _
  rw [ren_own (he 2 (by simp [gH])) (strs_cl l), ow_ren]; rfl
theorem gHt_own (vr : Bool) (l : List By) {T : TypeId} {cs : List GV} (hc : ClL cs) : Own0 (gH vr l ++ [GObj.box T cs]) := fun e he => by
  show [GObj.box _ [.b vr], GObj.box _ [(GV.sl (.own 2) (strs l)).ren e], (ow _ 1 l.length).ren e, GObj.box T (cs.map (GV.ren e))] = _
  rw [ren_own (he 2 (by simp [gH])) (strs_cl l), ow_ren, hc e]; rfl
theorem gH_held (vr : Bool) (l : List By) : (gH vr l).all GObj.notHeld = true := by
  simp only [gH, List.all_cons, ow_held, List.all_nil]; rfl
theorem gHt_held (vr : Bool) (l : List By) {T : TypeId} {cs : List GV} : (gH vr l ++ [GObj.box T cs]).all GObj.notHeld = true := by
  rw [List.all_append, gH_held]; rfl
def termAt (op : By) (a b : Term) (second : Bool) : Term := if second then b else a
theorem c_g1 (vr : Bool) (l : List By) (hl : l.length ≤ 100000) (op : By) (a b : Term) (second : Bool) :
    SC Tryz.prog 99 [.ptr 3 (if second then 6 else 1), .ptr 0 0, .ptr 1 0] (gH vr l ++ [.box 117 (Tree.test op a b).cs]) (.val (.tup [])) (gH vr (addT vr l (termAt op a b second)) ++ [.box 117 (Tree.test op a b).cs]) := by
  cases second with
  | false =>
    show SC _ _ [.ptr 3 1, .ptr 0 0, .ptr 1 0] _ _ (gH vr (addT vr l a) ++ _)
    refine SC.of_gwp noM mixed Tryz.func99 rfl (Nat.le_of_ble_eq_true rfl) (by simp [gH]) (gHt_held _ _) ?_
    conv => whnf
    have same : addT vr l a = l → ∀ (rest : List GObj) (objs : List GObj), objs = gH vr l ++ [.box 117 (Tree.test op a b).cs] ++ rest → Owes (gH vr l ++ [.box 117 (Tree.test op a b).cs]) (.val (.tup [])) (gH vr (addT vr l a) ++ [.box 117 (Tree.test op a b).cs]) (.val (.tup [])) ⟨objs, 0, []⟩ := fun e rest objs ho => by
      rw [e]
      exact owesPre ho (Nat.le_refl _) (gHt_own vr l (Tree.cs_cl _)) (gHt_held _ _) (fun _ _ => rfl) (Wk.refl _)
    refine GDraw.calm (by kernel_rfl) ?_
    conv => whnf
    refine GIf.mk (fun hn => ?_) (fun hn => ?_) <;> conv => whnf
    · have hn' : a.name ≠ [] := by simpa using hn
      refine GIf.mk (fun hv => ?_) (fun hv => ?_) <;> conv => whnf
      · have hv' : a.var = vr := by simpa using hv
        refine callP (c_ContainsS l a.name (by unfold most; omega)) (Wks.cons (Wk.sl _ _) (Wks.refl _)) rfl (ClL.cons (Cl.sl (strs_cl l)) (fun _ => rfl)) (.b _) ?_
        conv => whnf
        refine GIf.mk (fun hc => ?_) (fun hc => ?_) <;> conv => whnf
        · have hc' : ¬ a.name ∈ l := by simpa using hc
          have e : addT vr l a = l ++ [a.name] := if_pos ⟨hn', hv', hc'⟩
          clear same
          rw [e]
          cases l with
          | nil =>
            refine GDraw.wild _ _ _ rfl rfl rfl (by kernel_rfl) ?_
            conv => whnf
            refine ⟨⟨rfl, rfl, Nat.le_of_ble_eq_true rfl⟩, strs [a.name], 1, ⟨rfl, rfl⟩, ?_⟩
            conv => whnf
            refine ⟨⟨Nat.zero_le _, rfl, .inr ⟨rfl, rfl⟩⟩, ?_⟩
            conv => whnf
            refine ⟨_, ⟨rfl, Nat.zero_le _, rfl, Nat.le_of_ble_eq_true rfl⟩, ?_⟩
            conv => whnf
            exact owesPre (rest := [_]) rfl (by simp [gH]) (gHt_own vr [a.name] (Tree.cs_cl _)) (gHt_held _ _) (fun _ _ => rfl) (Wk.refl _)
          | cons z l =>
            refine GDraw.wild _ _ _ rfl rfl rfl (by kernel_rfl) ?_
            conv => whnf
            refine ⟨⟨rfl, strs_ok (z :: l), by show (strs (z :: l)).length + 1 ≤ 4294967296; simp [strs] at hl ⊢; omega⟩, strs (z :: l ++ [a.name]), (z :: l ++ [a.name]).length, ⟨by simp [strs]; rfl, by show _ = (strs (z :: l)).length + 1; simp [strs]⟩, ?_⟩
            conv => whnf
            refine ⟨⟨Nat.zero_le _, by simp [strs], .inl ⟨rfl, rfl⟩⟩, ?_⟩
            conv => whnf
            refine ⟨_, ⟨rfl, Nat.zero_le _, rfl, Nat.le_of_ble_eq_true rfl⟩, ?_⟩
            conv => whnf
            exact owesPre (rest := [_]) rfl (by simp [gH]) (gHt_own vr (z :: l ++ [a.name]) (Tree.cs_cl _)) (gHt_held _ _) (fun _ _ => rfl) (Wk.refl _)
        · have hc' : a.name ∈ l := by simpa using hc
          exact same (if_neg (fun h => h.2.2 hc')) [] _ rfl
      · have hv' : ¬ a.var = vr := by simpa using hv
        exact same (if_neg (fun h => hv' h.2.1)) [] _ rfl
    · have hn' : a.name = [] := by simpa using hn
      exact same (if_neg (fun h => h.1 hn')) [] _ rfl
  | true =>
    show SC _ _ [.ptr 3 6, .ptr 0 0, .ptr 1 0] _ _ (gH vr (addT vr l b) ++ _)
    refine SC.of_gwp noM mixed Tryz.func99 rfl (Nat.le_of_ble_eq_true rfl) (by simp [gH]) (gHt_held _ _) ?_
    conv => whnf
    have same : addT vr l b = l → ∀ (rest : List GObj) (objs : List GObj), objs = gH vr l ++ [.box 117 (Tree.test op a b).cs] ++ rest → Owes (gH vr l ++ [.box 117 (Tree.test op a b).cs]) (.val (.tup [])) (gH vr (addT vr l b) ++ [.box 117 (Tree.test op a b).cs]) (.val (.tup [])) ⟨objs, 0, []⟩ := fun e rest objs ho => by
      rw [e]
      exact owesPre ho (Nat.le_refl _) (gHt_own vr l (Tree.cs_cl _)) (gHt_held _ _) (fun _ _ => rfl) (Wk.refl _)
    refine GDraw.calm (by kernel_rfl) ?_
    conv => whnf
    refine GIf.mk (fun hn => ?_) (fun hn => ?_) <;> conv => whnf
    · have hn' : b.name ≠ [] := by simpa using hn
      refine GIf.mk (fun hv => ?_) (fun hv => ?_) <;> conv => whnf
      · have hv' : b.var = vr := by simpa using hv
        refine callP (c_ContainsS l b.name (by unfold most; omega)) (Wks.cons (Wk.sl _ _) (Wks.refl _)) rfl (ClL.cons (Cl.sl (strs_cl l)) (fun _ => rfl)) (.b _) ?_
        conv => whnf
        refine GIf.mk (fun hc => ?_) (fun hc => ?_) <;> conv => whnf
        · have hc' : ¬ b.name ∈ l := by simpa using hc
          have e : addT vr l b = l ++ [b.name] := if_pos ⟨hn', hv', hc'⟩
          clear same
          rw [e]
          cases l with
          | nil =>
            refine GDraw.wild _ _ _ rfl rfl rfl (by kernel_rfl) ?_
            conv => whnf
            refine ⟨⟨rfl, rfl, Nat.le_of_ble_eq_true rfl⟩, strs [b.name], 1, ⟨rfl, rfl⟩, ?_⟩
            conv => whnf
            refine ⟨⟨Nat.zero_le _, rfl, .inr ⟨rfl, rfl⟩⟩, ?_⟩
            conv => whnf
            refine ⟨_, ⟨rfl, Nat.zero_le _, rfl, Nat.le_of_ble_eq_true rfl⟩, ?_⟩
            conv => whnf
            exact owesPre (rest := [_]) rfl (by simp [gH]) (gHt_own vr [b.name] (Tree.cs_cl _)) (gHt_held _ _) (fun _ _ => rfl) (Wk.refl _)
          | cons z l =>
            refine GDraw.wild _ _ _ rfl rfl rfl (by kernel_rfl) ?_
            conv => whnf
            refine ⟨⟨rfl, strs_ok (z :: l), by show (strs (z :: l)).length + 1 ≤ 4294967296; simp [strs] at hl ⊢; omega⟩, strs (z :: l ++ [b.name]), (z :: l ++ [b.name]).length, ⟨by simp [strs]; rfl, by show _ = (strs (z :: l)).length + 1; simp [strs]⟩, ?_⟩
            conv => whnf
            refine ⟨⟨Nat.zero_le _, by simp [strs], .inl ⟨rfl, rfl⟩⟩, ?_⟩
            conv => whnf
            refine ⟨_, ⟨rfl, Nat.zero_le _, rfl, Nat.le_of_ble_eq_true rfl⟩, ?_⟩
            conv => whnf
            exact owesPre (rest := [_]) rfl (by simp [gH]) (gHt_own vr (z :: l ++ [b.name]) (Tree.cs_cl _)) (gHt_held _ _) (fun _ _ => rfl) (Wk.refl _)
        · have hc' : b.name ∈ l := by simpa using hc
          exact same (if_neg (fun h => h.2.2 hc')) [] _ rfl
      · have hv' : ¬ b.var = vr := by simpa using hv
        exact same (if_neg (fun h => hv' h.2.1)) [] _ rfl
    · have hn' : b.name = [] := by simpa using hn
      exact same (if_neg (fun h => h.1 hn')) [] _ rfl
def addAll (vr : Bool) (l : List By) : Tree → List By
  | .pair _ x y => addAll vr (addAll vr l x) y
  | .no t => addAll vr l t
  | .test _ a b => addT vr (addT vr l a) b
  | .truth _ => l
theorem addT_len (vr : Bool) (l : List By) (t : Term) : (addT vr l t).length ≤ l.length + 1 := by
  unfold addT; split <;> simp
theorem addAll_len (vr : Bool) : ∀ (t : Tree) (l : List By), (addAll vr l t).length ≤ l.length + 2 * t.size
  | .pair _ x y, l => by
    have h1 := addAll_len vr x l
    have h2 := addAll_len vr y (addAll vr l x)
    simp only [addAll, Tree.size]; omega
  | .no t, l => by
    have h1 := addAll_len vr t l
    simp only [addAll, Tree.size]; omega
  | .test _ a b, l => by
    have h1 := addT_len vr l a
    have h2 := addT_len vr (addT vr l a) b
    simp only [addAll, Tree.size]; omega
  | .truth _, l => by simp only [addAll, Tree.size]; omega
def gF : GV := .fn (.func 99) [] [.ptr 0 0, .ptr 1 0]
theorem gF_ren {e : Nat → Nat} (h0 : e 0 = 0) (h1 : e 1 = 1) : gF.ren e = gF := by
  show GV.fn _ [] [.ptr (e 0) 0, .ptr (e 1) 0] = _
  rw [h0, h1]; rfl
theorem args_ren {vr : Bool} {l : List By} {t : Tree} (e : Nat → Nat) (he : ∀ i, i < (gH vr l).length → e i = i) : [t.gv, gF].map (GV.ren e) = [t.gv, gF] := by
  show [t.gv.ren e, gF.ren e] = _
  rw [t.cl e, gF_ren (he 0 (by simp [gH])) (he 1 (by simp [gH]))]
theorem c_terms (vr : Bool) : ∀ (t : Tree) (l : List By), l.length + 2 * t.size ≤ 100000 → SC Tryz.prog 98 [t.gv, gF] (gH vr l) (.val (.tup [])) (gH vr (addAll vr l t))
  | .pair a x y, l, hb => by
    simp only [Tree.size] at hb
    have s1 := c_terms vr x l (by omega)
    have h1 := addAll_len vr x l
    have s2 := c_terms vr y (addAll vr l x) (by omega)
    refine SC.of_gwp noM mixed Tryz.func98 rfl (Nat.le_of_ble_eq_true rfl) (by simp [gH]) (gH_held _ _) ?_
    conv => whnf
    refine ⟨_, ⟨rfl, Nat.zero_le _, rfl, Nat.le_of_ble_eq_true rfl⟩, ?_⟩
    conv => whnf
    refine callPre (rest := [.box 134 (Tree.pair a x y).cs]) s1 rfl (by simp [gH]) rfl rfl (gH_own vr l) (gH_own vr _) (gH_held _ _) (args_ren) (fun _ _ => rfl) (Wks.refl _) ?_
    conv => whnf
    refine callPre (rest := [.box 134 (Tree.pair a x y).cs]) s2 rfl (by simp [gH]) rfl rfl (gH_own vr _) (gH_own vr _) (gH_held _ _) (args_ren) (fun _ _ => rfl) (Wks.refl _) ?_
    conv => whnf
    exact owesPre (rest := [_]) rfl (by simp [gH]) (gH_own vr _) (gH_held _ _) (fun _ _ => rfl) (Wk.refl _)
  | .no x, l, hb => by
    simp only [Tree.size] at hb
    have s1 := c_terms vr x l (by omega)
    refine SC.of_gwp noM mixed Tryz.func98 rfl (Nat.le_of_ble_eq_true rfl) (by simp [gH]) (gH_held _ _) ?_
    conv => whnf
    refine ⟨_, ⟨rfl, Nat.zero_le _, rfl, Nat.le_of_ble_eq_true rfl⟩, ?_⟩
    conv => whnf
    refine callPre (rest := [.box 88 (Tree.no x).cs]) s1 rfl (by simp [gH]) rfl rfl (gH_own vr l) (gH_own vr _) (gH_held _ _) (args_ren) (fun _ _ => rfl) (Wks.refl _) ?_
    conv => whnf
    exact owesPre (rest := [_]) rfl (by simp [gH]) (gH_own vr _) (gH_held _ _) (fun _ _ => rfl) (Wk.refl _)
  | .test op a b, l, hb => by
    simp only [Tree.size] at hb
    have s1 := c_g1 vr l (by omega) op a b false
    have h1 := addT_len vr l a
    have s2 := c_g1 vr (addT vr l a) (by omega) op a b true
    have hcs := (Tree.test op a b).cs_cl
    refine SC.of_gwp noM mixed Tryz.func98 rfl (Nat.le_of_ble_eq_true rfl) (by simp [gH]) (gH_held _ _) ?_
    conv => whnf
    refine ⟨_, ⟨rfl, Nat.zero_le _, rfl, Nat.le_of_ble_eq_true rfl⟩, ?_⟩
    conv => whnf
    refine callPre (rest := []) s1 rfl (by simp [gH]) rfl rfl (gHt_own vr l hcs) (gHt_own vr _ hcs) (gHt_held _ _) (fun e he => by show [GV.ptr (e 3) 1, .ptr (e 0) 0, .ptr (e 1) 0] = _; rw [he 3 (by simp [gH]), he 0 (by simp [gH]), he 1 (by simp [gH])]; rfl) (fun _ _ => rfl) (Wks.refl _) ?_
    conv => whnf
    refine callPre (rest := []) s2 rfl (by simp [gH]) rfl rfl (gHt_own vr _ hcs) (gHt_own vr _ hcs) (gHt_held _ _) (fun e he => by show [GV.ptr (e 3) 6, .ptr (e 0) 0, .ptr (e 1) 0] = _; rw [he 3 (by simp [gH]), he 0 (by simp [gH]), he 1 (by simp [gH])]; rfl) (fun _ _ => rfl) (Wks.refl _) ?_
    conv => whnf
    exact owesPre (rest := [_]) rfl (by simp [gH]) (gH_own vr _) (gH_held _ _) (fun _ _ => rfl) (Wk.refl _)
  | .truth b, l, hb => by
    refine SC.of_gwp noM mixed Tryz.func98 rfl (Nat.le_of_ble_eq_true rfl) (by simp [gH]) (gH_held _ _) ?_
    conv => whnf
    exact owesPre (rest := []) rfl (by simp [gH]) (gH_own vr _) (gH_held _ _) (fun _ _ => rfl) (Wk.refl _)
theorem SC.nilOwn {k : FuncId} {args : List GV} {r : GRes} {s' : List GObj} (vr : Bool) (h : SC Tryz.prog k args (gH vr []) r s') :
    SC Tryz.prog k args [.box 4 [.b vr], .box 27 [.sl .full []]] r s' := by
  refine ⟨Nat.le_trans (by simp [gH]) h.len, fun C w vs hr hv => ?_, h.noheld⟩
  obtain ⟨D, hl, hown, hrel⟩ := Rel.newNil hr (hr.newAt _)
  have hrel2 : Rel D ⟨gH vr [], 0, []⟩ w w := by
    refine ⟨hrel.below, hrel.fxc, fun q x hx => ?_, fun q hq => hrel.dom q (by simpa [gH] using hq), hrel.new, hrel.inj, hrel.sepB, hrel.sepO, hrel.fxn, hrel.gl, hrel.gs⟩
    rcases q with _ | _ | _ | q
    · simp [gH] at hx; subst hx; exact hrel.obj 0 _ rfl
    · simp [gH] at hx; subst hx
      obtain ⟨h0, b, cs, hb, ho, hcs⟩ := hrel.obj 1 _ rfl
      refine ⟨h0, b, cs, hb, ho, ?_⟩
      obtain ⟨v, rfl, hv1⟩ := hcs.arr1
      cases hv1 with
      | sl esz b' off us hn hc ha hw hx hvv ht =>
      obtain ⟨hc0, ha0⟩ := ht
      obtain rfl := ha0 rfl
      simp at hn hc0
      subst hn; subst hc0
      refine .cons (.sl 0 0 0 us rfl (Nat.le_refl _) (.inl ⟨rfl, rfl⟩) (fun x hx => by cases hx) (fun i x j g h => by simp [strs] at h) (fun i x j g h => by simp [strs] at h) ⟨_, hown, Nat.zero_le _, (fun h => absurd h (Nat.lt_irrefl 0)), fun _ => .inl ⟨rfl, rfl⟩⟩) ⟨rfl, fun j g u h => by simp at h⟩
    · simp [gH, ow] at hx; subst hx; exact hrel.obj 2 _ rfl
    · simp [gH] at hx
  refine (h.calls D w vs hrel2 (hv.mono hl)).mono fun e w' ⟨E, hE, hrE, he⟩ => ⟨E, hl.trans hE, hrE, he⟩
def gathS (s : By) (vr : Bool) : GV := match readS s with
  | .ok t => .tup [.sl .none (strs (addAll vr [] t)), .i .i64 0]
  | .err e => .tup [.sl .none [], .i .i64 e]
theorem c_gathered (s : By) (hs : s.length < most) (vr : Bool) : SC Tryz.prog 50 [.s s, .b vr] [] (.val (gathS s vr)) [] := by
  have hr := c_read s hs
  have hcl := readG_cl s
  unfold readG at hr hcl
  unfold gathS
  cases h : readS s with
  | err e =>
    rw [h] at hr hcl
    replace hr : SC Tryz.prog 46 [.s s] [] (.val (.tup [.o .nilIface, .i .i64 e])) [] := hr
    have he := readS_err h
    refine SC.of_gwp noM mixed Tryz.func50 rfl (Nat.le_of_ble_eq_true rfl) (by first | exact Nat.le_refl _ | simp) rfl ?_
    conv => whnf
    refine callP hr (Wks.refl _) rfl (fun _ => rfl) hcl ?_
    conv => whnf
    refine GIf.mk (fun h0 => ?_) (fun h0 => ?_) <;> conv => whnf
    · exact owes_wk (wk_t2 (Wk.sl _ _) (.refl _)) (Cl.tup (.cons (Cl.sl ClL.nil) (.cons (.i _ _) .nil)))
    · exfalso
      have : e = 0 := by simpa using h0
      omega
  | ok t =>
    rw [h] at hr hcl
    replace hr : SC Tryz.prog 46 [.s s] [] (.val (.tup [t.gv, .i .i64 0])) [] := hr
    obtain ⟨hn, hz, _⟩ := readS_bound h
    have hterm := SC.nilOwn vr (c_terms vr t [] (by simp; omega))
    show SC _ _ _ _ (.val (.tup [.sl .none (strs (addAll vr [] t)), .i .i64 0])) []
    generalize addAll vr [] t = L at hterm ⊢
    refine SC.of_gwp noM mixed Tryz.func50 rfl (Nat.le_of_ble_eq_true rfl) (by first | exact Nat.le_refl _ | simp) rfl ?_
    conv => whnf
    refine callP hr (Wks.refl _) rfl (fun _ => rfl) hcl ?_
    conv => whnf
    refine callG hterm [0, 2] (objs' := [.box 4 [.b vr], .own 0 0 0, .box 27 [.sl (.own 3) (strs L)], ow 9 1 L.length]) (Lies.two (by decide) rfl rfl (by simp) (by simp)) ?hw rfl rfl ?ho rfl ?_
    case hw =>
      show Wks [t.gv, .fn (.func 99) [] [.ptr 0 0, .ptr 2 0]] [t.gv.ren _, .fn (.func 99) [] [.ptr 0 0, .ptr 2 0]]
      rw [t.cl]; exact Wks.refl _
    case ho =>
      show [.box 4 [.b vr], .own 0 0 0, GObj.box 27 [(GV.sl (.own 2) (strs L)).ren (emb [0, 2] 3)], (ow 9 1 L.length).ren (emb [0, 2] 3)] = _
      rw [ow_ren]
      have : (GV.sl (.own 2) (strs L)).ren (emb [0, 2] 3) = .sl (.own 3) (strs L) := by
        rw [GV.ren, renL_map, strs_cl L]; rfl
      rw [this]
    conv => whnf
    exact owes_wk (wk_t2 (Wk.sl _ _) (.refl _)) (Cl.tup (.cons (Cl.sl (strs_cl L)) (.cons (.i _ _) .nil)))
theorem gathS_cl (s : By) (vr : Bool) : Cl (gathS s vr) := by
  unfold gathS
  split
  · exact Cl.tup (.cons (Cl.sl (strs_cl _)) (.cons (.i _ _) .nil))
  · exact Cl.tup (.cons (Cl.sl ClL.nil) (.cons (.i _ _) .nil))
def gathL (s : By) (vr : Bool) : List By := match readS s with
  | .ok t => addAll vr [] t
  | .err e => []
def readE (s : By) : Int := match readS s with
  | .ok t => 0
  | .err e => e
theorem gathS_eq (s : By) (vr : Bool) : gathS s vr = .tup [.sl .none (strs (gathL s vr)), .i .i64 (readE s)] := by
  unfold gathS gathL readE
  cases readS s <;> rfl
theorem c_Names (s : By) (hs : s.length < most) : SC Tryz.prog 14 [.s s] [] (.val (gathS s false)) [] := by
  have hg := c_gathered s hs false
  have hcl := gathS_cl s false
  rw [gathS_eq] at hg hcl ⊢
  refine SC.of_gwp noM mixed Tryz.func14 rfl (Nat.le_of_ble_eq_true rfl) (by first | exact Nat.le_refl _ | simp) rfl ?_
  conv => whnf
  refine callP hg (Wks.refl _) rfl (fun _ => rfl) hcl ?_
  conv => whnf
  exact owes_wk (.refl _) hcl
theorem c_Vars (s : By) (hs : s.length < most) : SC Tryz.prog 17 [.s s] [] (.val (gathS s true)) [] := by
  have hg := c_gathered s hs true
  have hcl := gathS_cl s true
  rw [gathS_eq] at hg hcl ⊢
  refine SC.of_gwp noM mixed Tryz.func17 rfl (Nat.le_of_ble_eq_true rfl) (by first | exact Nat.le_refl _ | simp) rfl ?_
  conv => whnf
  refine callP hg (Wks.refl _) rfl (fun _ => rfl) hcl ?_
  conv => whnf
  exact owes_wk (.refl _) hcl
end Go.Proofs.YtlhabmglchgdnaaGreatDoor
