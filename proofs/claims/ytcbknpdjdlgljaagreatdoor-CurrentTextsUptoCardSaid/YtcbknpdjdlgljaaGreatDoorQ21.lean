/-
  The text of every currencies, and what every text is read as.
-/
import Derived.Test.YtcbknpdjdlgljaaGreatDoorQ20
import Derived.Test.YtcbknpdjdlgljaaGreatDoorQ18
set_option linter.all false
namespace Go.Proofs.YtcbknpdjdlgljaaGreatDoor
open Go.RowKit
set_option maxRecDepth 100000
set_option linter.unusedVariables false
theorem PF.put [MaxL] {e : Nat → Nat} {φ : Fr} {d : Nat} {g : GV} (h : ∀ t, (φ t).ren e = φ t) (hg : g.ren e = g) : ∀ t, (fpt φ d g t).ren e = fpt φ d g t := fun t => by
  rw [fpt_eq]
  by_cases ht : t = d
  · subst ht; rw [fput_same]; exact hg
  · rw [fput_other ht]; exact h t
theorem PF.start [MaxL] {e : Nat → Nat} {args : List GV} (h : args.map (GV.ren e) = args) : ∀ t, (gstart args t).ren e = gstart args t := fun t => by
  unfold gstart
  rw [List.getD_eq_getElem?_getD]
  have h1 := congrArg (fun l : List GV => l[t]?) h
  simp only [List.getElem?_map] at h1
  cases h2 : args[t]? with
  | none => rfl
  | some g => rw [h2] at h1; simpa using h1
theorem mrc [MaxL] {e : Nat → Nat} {x : GObj} {l : List GObj} (hx : x.ren e = x) (hl : l.map (GObj.ren e) = l) : (x :: l).map (GObj.ren e) = x :: l := by rw [List.map_cons, hx, hl]
theorem loop_ren [MaxL] {e : Nat → Nat} {st : LoopState} {pe : Option Code} {n : Nat} {φ : Fr} {ps : Array Tmp} {asg body : Code} {rd : Nat} (h : ∀ t, (φ t).ren e = φ t) (h8 : e rd = rd) : (GObj.loop st pe n φ ps asg body rd).ren e = .loop st pe n φ ps asg body rd := by
  show GObj.loop st pe n (fun t => (φ t).ren e) ps asg body (e rd) = _
  rw [h8, show (fun t => (φ t).ren e) = φ from funext h]
theorem SC.castS [MaxL] {P : Program} {k : FuncId} {a : List GV} {s s' s2 : List GObj} {r : GRes} (h : SC P k a s r s') (e : s' = s2) : SC P k a s r s2 := e ▸ h
theorem ren_own [MaxL] {e : Nat → Nat} {r : Nat} {l : List GV} (h : e r = r) (hl : ClL l) : (GV.sl (.own r) l).ren e = .sl (.own r) l := by
  rw [GV.ren, renL_map, hl e]; show GV.sl (.own (e r)) l = _; rw [h]
def lenL (c : UInt8) (s : By) : List Int := if s = [] then [] else (pieces [c] s).map attN
def liS : List By → GV
  | [] => .sl .full []
  | x :: l => .sl (.own 8) (intsG ((x :: l).map attN))
def liO : List By → List GObj
  | [] => []
  | x :: l => [.own 1 1 3, .own (l.length + 1) 1 3]
theorem intsG_cl [MaxL] (l : List Int) : ClL (intsG l) := (show KL (intsG l) from inferInstance).h
theorem ren_sl [MaxL] {e : Nat → Nat} {r : Nat} {l : List GV} (hl : ClL l) : (GV.sl (.own r) l).ren e = .sl (.own (e r)) l := by
  rw [GV.ren, renL_map, hl e]; rfl
set_option maxHeartbeats 4000000 in
theorem k_list [MaxL] (s : By) (c : UInt8) (hs : s.length ≤ 20000) : SC Tryz.prog 25 [.s s, .s [c]] [] (.val (.sl .none (intsG (lenL c s)))) [] := by
  have fs := c_SplitSeq s [c]
  unfold lenL
  by_cases h0 : s = []
  · rw [if_pos h0]
    refine SC.of_gwp noM mixed Tryz.func25 rfl (Nat.le_of_ble_eq_true rfl) (by first | exact Nat.le_refl _ | simp) rfl ?_
    conv => whnf
    refine gY (by subst h0; rfl) ?_
    conv => whnf
    exact fin 0 (hw := Wk.sl _ _)
  rw [if_neg h0]
  have hpn := pieces_ne [c] s (List.cons_ne_nil _ _)
  have hpl := (pieces_len (sub := [c]) (List.cons_ne_nil _ _) s.length s (Nat.le_refl _)).1
  cases hpe : pieces [c] s with
  | nil => exact absurd hpe hpn
  | cons p0 pl =>
  obtain ⟨lst, hlst⟩ : ∃ lst, lst = (p0 :: pl).getLastD [] := ⟨_, rfl⟩
  have heq : ∀ L : GObj, sqK (fun _ => .own 0 0 0) (fun d => .box 22 [liS d]) liO L [c] (pieces [c] s) ((pieces [c] s).getLastD []) = [.own 0 0 0, .box 22 [.sl (.own 8) (intsG ((p0 :: pl).map attN))], .box 9 [.s lst], .box 9 [.s [c]], .box 3 [.i .i64 0], .dfr, L, .own 1 1 3, .own (pl.length + 1) 1 3] := fun L => by
    rw [hpe, hlst]; rfl
  refine SC.of_gwp noM mixed Tryz.func25 rfl (Nat.le_of_ble_eq_true rfl) (by first | exact Nat.le_refl _ | simp) rfl ?_
  conv => whnf
  refine gN (by simpa using h0) ?_
  conv => whnf
  refine callG fs [] (objs' := [.own 0 0 0, .box 22 [.sl .full []], .box 9 [.s s], .box 9 [.s [c]], .box 3 [.i .i64 0]]) Lies.nil (Wks.refl _) rfl rfl rfl rfl ?_
  conv => whnf
  refine ⟨.val (.tup []), ⟨[.own 0 0 0, .box 22 [.sl (.own 8) (intsG ((p0 :: pl).map attN))], .box 9 [.s lst], .box 9 [.s [c]], .box 3 [.i .i64 0], .dfr, (.loop .ready none _ _ _ _ _ 5), .own 1 1 3, .own (pl.length + 1) 1 3], 0, [.coll 5]⟩, SC.factAll (SC.castS (c_split2 (fun _ => .own 0 0 0) (fun d => .box 22 [liS d]) liO (.loop .ready none _ _ _ _ _ 5) [c] s (by simp) (by simp) (by omega) rfl ?hh0 ?hb) (heq _)) rfl rfl ?hh, ?_⟩
  case hh0 =>
    intro done rest
    cases done <;> simp only [sqK, liO, List.all_cons] <;> rfl
  case hh =>
    intro x hx e
    subst e
    have h1 := List.all_eq_true.1 (show List.all _ GObj.notHeld = true by simp only [sqK, liO, List.all_cons]; rfl) _ hx
    cases h1
  case hb =>
    intro done rest x hd hx
    have fx := c_AtoiX x (by omega)
    rcases done with _ | ⟨y, ys⟩
    · refine Fact.yld noM mixed (r := 6) rfl rfl (by kernel_rfl) rfl (by simp only [List.all_cons, sqK, liO]; rfl) (by simp [liO, sqK]) rfl rfl ?_
      conv => whnf
      refine callP fx (Wks.refl _) rfl (fun _ => rfl) (fun _ => rfl) ?_
      conv => whnf
      refine ⟨⟨rfl, rfl, Nat.le_of_ble_eq_true rfl⟩, intsG [attN x], 1, ⟨rfl, rfl⟩, ?_⟩
      conv => whnf
      refine ⟨_, ⟨rfl, Nat.zero_le _, rfl, Nat.le_of_ble_eq_true rfl⟩, ?_⟩
      conv => whnf
      rfl
    · have hyl : (y :: ys).length ≤ 100000 := by omega
      have e4 : liS ((y :: ys) ++ [x]) = .sl (.own 8) (intsG ((y :: ys).map attN ++ [attN x])) := by
        show GV.sl (.own 8) (intsG ((y :: (ys ++ [x])).map attN)) = _
        rw [List.map_cons, List.map_append]; rfl
      have e5 : liO ((y :: ys) ++ [x]) = [.own 1 1 3, .own ((y :: ys).length + 1) 1 3] := by
        show [_, GObj.own ((ys ++ [x]).length + 1) _ _] = _
        rw [List.length_append]; rfl
      unfold sqK
      dsimp only
      rw [e4, e5]
      refine Fact.forget (extra := [.own 1 1 3]) ?fy rfl (by simp [liO]) ?own ?held (fun _ => rfl) ?held0
      case held => simp only [List.all_cons]; rfl
      case held0 => simp only [List.all_cons, liO]; rfl
      case own =>
        intro e he
        have hh : ∀ i, i < 9 → e i = i := fun i hi => he i (by simp only [List.length_cons, List.length_nil]; omega)
        refine mrc rfl (mrc ?_ (mrc rfl (mrc rfl (mrc rfl (mrc rfl (mrc (loop_ren ?_ (hh 5 (by omega))) (mrc rfl (mrc rfl rfl))))))))
        · show GObj.box _ [(GV.sl (.own 8) (intsG _)).ren e] = _
          rw [ren_own (hh 8 (by omega)) (intsG_cl _)]
        · repeat' first
            | exact PF.start (by rfl)
            | refine PF.put ?_ ?_
            | exact rfl
            | (show GV.ptr (e 1) 0 = GV.ptr 1 0; rw [hh 1 (by omega)])
            | (show GV.sl (.own (e 0)) [] = GV.sl (.own 0) []; rw [hh 0 (by omega)])
            | (show GV.fn (.func _) [] [.ptr (e 3) 0, .ptr (e 2) 0, .ptr (e 4) 0] = .fn (.func _) [] [.ptr 3 0, .ptr 2 0, .ptr 4 0]; rw [hh 2 (by omega), hh 3 (by omega), hh 4 (by omega)])
      case fy =>
        refine Fact.yld noM mixed (r := 6) rfl rfl (by kernel_rfl) rfl (by simp only [List.all_cons, liO]; rfl) (by simp [liO]) rfl rfl ?_
        conv => whnf
        refine callP fx (Wks.refl _) rfl (fun _ => rfl) (fun _ => rfl) ?_
        conv => whnf
        refine ⟨⟨rfl, by
          rw [List.all_eq_true]
          intro z hz
          obtain ⟨b, _, rfl⟩ := List.mem_map.1 hz
          rfl, by show (intsG ((y :: ys).map attN)).length + 1 ≤ 4294967296; rw [intsG_len, List.length_map]; omega⟩, intsG ((y :: ys).map attN ++ [attN x]), (y :: ys).length + 1, ⟨by unfold intsG; rw [List.map_append]; rfl, by show _ = (intsG ((y :: ys).map attN)).length + 1; rw [intsG_len, List.length_map]⟩, ?_⟩
        conv => whnf
        refine ⟨⟨Nat.zero_le _, by show _ = (intsG ((y :: ys).map attN)).length; rw [intsG_len, List.length_map]; rfl, .inl ⟨rfl, rfl⟩⟩, ?_⟩
        conv => whnf
        refine ⟨_, ⟨rfl, Nat.zero_le _, rfl, Nat.le_of_ble_eq_true rfl⟩, ?_⟩
        conv => whnf
        rfl
  conv => whnf
  exact fin 0 (hw := Wk.sl _ _)
set_option maxHeartbeats 4000000 in
theorem k_listO [MaxL] (s : By) (c : UInt8) (hs : s.length ≤ 20000) : SC Tryz.prog 25 [.s s, .s [c]] [] (.val (.sl (.own 0) (intsG (lenL c s)))) [ow 3 1 (lenL c s).length] := by
  have fs := c_SplitSeq s [c]
  unfold lenL
  by_cases h0 : s = []
  · rw [if_pos h0]
    refine SC.of_gwp noM mixed Tryz.func25 rfl (Nat.le_of_ble_eq_true rfl) (by first | exact Nat.le_refl _ | simp) rfl ?_
    conv => whnf
    refine gY (by subst h0; rfl) ?_
    conv => whnf
    refine ⟨[1], Lies.mk' (show _ = List.map some [GObj.own 0 0 0] from rfl) rfl (by decide) rfl, fun i hi => absurd hi (Nat.not_lt_zero i), ?_⟩
    exact WkRes.refl _
  rw [if_neg h0]
  have hpn := pieces_ne [c] s (List.cons_ne_nil _ _)
  have hpl := (pieces_len (sub := [c]) (List.cons_ne_nil _ _) s.length s (Nat.le_refl _)).1
  cases hpe : pieces [c] s with
  | nil => exact absurd hpe hpn
  | cons p0 pl =>
  obtain ⟨lst, hlst⟩ : ∃ lst, lst = (p0 :: pl).getLastD [] := ⟨_, rfl⟩
  have heq : ∀ L : GObj, sqK (fun _ => .own 0 0 0) (fun d => .box 22 [liS d]) liO L [c] (pieces [c] s) ((pieces [c] s).getLastD []) = [.own 0 0 0, .box 22 [.sl (.own 8) (intsG ((p0 :: pl).map attN))], .box 9 [.s lst], .box 9 [.s [c]], .box 3 [.i .i64 0], .dfr, L, .own 1 1 3, .own (pl.length + 1) 1 3] := fun L => by
    rw [hpe, hlst]; rfl
  refine SC.of_gwp noM mixed Tryz.func25 rfl (Nat.le_of_ble_eq_true rfl) (by first | exact Nat.le_refl _ | simp) rfl ?_
  conv => whnf
  refine gN (by simpa using h0) ?_
  conv => whnf
  refine callG fs [] (objs' := [.own 0 0 0, .box 22 [.sl .full []], .box 9 [.s s], .box 9 [.s [c]], .box 3 [.i .i64 0]]) Lies.nil (Wks.refl _) rfl rfl rfl rfl ?_
  conv => whnf
  refine ⟨.val (.tup []), ⟨[.own 0 0 0, .box 22 [.sl (.own 8) (intsG ((p0 :: pl).map attN))], .box 9 [.s lst], .box 9 [.s [c]], .box 3 [.i .i64 0], .dfr, (.loop .ready none _ _ _ _ _ 5), .own 1 1 3, .own (pl.length + 1) 1 3], 0, [.coll 5]⟩, SC.factAll (SC.castS (c_split2 (fun _ => .own 0 0 0) (fun d => .box 22 [liS d]) liO (.loop .ready none _ _ _ _ _ 5) [c] s (by simp) (by simp) (by omega) rfl ?hh0 ?hb) (heq _)) rfl rfl ?hh, ?_⟩
  case hh0 =>
    intro done rest
    cases done <;> simp only [sqK, liO, List.all_cons] <;> rfl
  case hh =>
    intro x hx e
    subst e
    have h1 := List.all_eq_true.1 (show List.all _ GObj.notHeld = true by simp only [sqK, liO, List.all_cons]; rfl) _ hx
    cases h1
  case hb =>
    intro done rest x hd hx
    have fx := c_AtoiX x (by omega)
    rcases done with _ | ⟨y, ys⟩
    · refine Fact.yld noM mixed (r := 6) rfl rfl (by kernel_rfl) rfl (by simp only [List.all_cons, sqK, liO]; rfl) (by simp [liO, sqK]) rfl rfl ?_
      conv => whnf
      refine callP fx (Wks.refl _) rfl (fun _ => rfl) (fun _ => rfl) ?_
      conv => whnf
      refine ⟨⟨rfl, rfl, Nat.le_of_ble_eq_true rfl⟩, intsG [attN x], 1, ⟨rfl, rfl⟩, ?_⟩
      conv => whnf
      refine ⟨_, ⟨rfl, Nat.zero_le _, rfl, Nat.le_of_ble_eq_true rfl⟩, ?_⟩
      conv => whnf
      rfl
    · have hyl : (y :: ys).length ≤ 100000 := by omega
      have e4 : liS ((y :: ys) ++ [x]) = .sl (.own 8) (intsG ((y :: ys).map attN ++ [attN x])) := by
        show GV.sl (.own 8) (intsG ((y :: (ys ++ [x])).map attN)) = _
        rw [List.map_cons, List.map_append]; rfl
      have e5 : liO ((y :: ys) ++ [x]) = [.own 1 1 3, .own ((y :: ys).length + 1) 1 3] := by
        show [_, GObj.own ((ys ++ [x]).length + 1) _ _] = _
        rw [List.length_append]; rfl
      unfold sqK
      dsimp only
      rw [e4, e5]
      refine Fact.forget (extra := [.own 1 1 3]) ?fy rfl (by simp [liO]) ?own ?held (fun _ => rfl) ?held0
      case held => simp only [List.all_cons]; rfl
      case held0 => simp only [List.all_cons, liO]; rfl
      case own =>
        intro e he
        have hh : ∀ i, i < 9 → e i = i := fun i hi => he i (by simp only [List.length_cons, List.length_nil]; omega)
        refine mrc rfl (mrc ?_ (mrc rfl (mrc rfl (mrc rfl (mrc rfl (mrc (loop_ren ?_ (hh 5 (by omega))) (mrc rfl (mrc rfl rfl))))))))
        · show GObj.box _ [(GV.sl (.own 8) (intsG _)).ren e] = _
          rw [ren_own (hh 8 (by omega)) (intsG_cl _)]
        · repeat' first
            | exact PF.start (by rfl)
            | refine PF.put ?_ ?_
            | exact rfl
            | (show GV.ptr (e 1) 0 = GV.ptr 1 0; rw [hh 1 (by omega)])
            | (show GV.sl (.own (e 0)) [] = GV.sl (.own 0) []; rw [hh 0 (by omega)])
            | (show GV.fn (.func _) [] [.ptr (e 3) 0, .ptr (e 2) 0, .ptr (e 4) 0] = .fn (.func _) [] [.ptr 3 0, .ptr 2 0, .ptr 4 0]; rw [hh 2 (by omega), hh 3 (by omega), hh 4 (by omega)])
      case fy =>
        refine Fact.yld noM mixed (r := 6) rfl rfl (by kernel_rfl) rfl (by simp only [List.all_cons, liO]; rfl) (by simp [liO]) rfl rfl ?_
        conv => whnf
        refine callP fx (Wks.refl _) rfl (fun _ => rfl) (fun _ => rfl) ?_
        conv => whnf
        refine ⟨⟨rfl, by
          rw [List.all_eq_true]
          intro z hz
          obtain ⟨b, _, rfl⟩ := List.mem_map.1 hz
          rfl, by show (intsG ((y :: ys).map attN)).length + 1 ≤ 4294967296; rw [intsG_len, List.length_map]; omega⟩, intsG ((y :: ys).map attN ++ [attN x]), (y :: ys).length + 1, ⟨by unfold intsG; rw [List.map_append]; rfl, by show _ = (intsG ((y :: ys).map attN)).length + 1; rw [intsG_len, List.length_map]⟩, ?_⟩
        conv => whnf
        refine ⟨⟨Nat.zero_le _, by show _ = (intsG ((y :: ys).map attN)).length; rw [intsG_len, List.length_map]; rfl, .inl ⟨rfl, rfl⟩⟩, ?_⟩
        conv => whnf
        refine ⟨_, ⟨rfl, Nat.zero_le _, rfl, Nat.le_of_ble_eq_true rfl⟩, ?_⟩
        conv => whnf
        rfl
  conv => whnf
  have hlen : ((p0 :: pl).map attN).length = pl.length + 1 := by simp
  rw [hlen]
  refine ⟨[8], Lies.mk' (show _ = List.map some [GObj.own (pl.length + 1) 1 3] from rfl) rfl (by decide) rfl, fun i hi => absurd hi (Nat.not_lt_zero i), ?_⟩
  show WkRes _ (.val ((GV.sl (.own 0) (intsG ((p0 :: pl).map attN))).ren _))
  rw [ren_sl (intsG_cl _), emb_lt (by decide)]
  exact WkRes.refl _
end Go.Proofs.YtcbknpdjdlgljaaGreatDoor
namespace Go.Proofs.YtcbknpdjdlgljaaGreatDoor
open Go.RowKit
set_option maxRecDepth 100000
set_option linter.unusedVariables false
theorem k_Format [MaxL] (n : Nw) (h : n.ok) : SC Tryz.prog 5 [nowG n] [] (.val (.s (fmtN n))) [] := by
  have hu := itoa_len h.u
  have h1 := nums_len (sep := [32]) (by simp) h.rs
  have h2 := nums_len (sep := [32]) (by simp) h.ar
  have b1 := h.lr
  have b2 := h.ls
  have b3 := h.la
  have h' := h
  refine SC.of_gwp noM mixed Tryz.func5 rfl (Nat.le_of_ble_eq_true rfl) (by first | exact Nat.le_refl _ | simp) rfl ?_
  conv => whnf
  refine GLoop.rng 2 n.ss.length (fun i (o : List By) => o = (n.ss.take i).map wrS) (fun i o => [(1, .ptr 0 0), (3, .sl (.own 1) (txG o)), (8, .sl .none (spsG n.ss)), (9, .i .i64 (n.ss.length : Nat)), (10, .i .i64 (i : Nat))]) (fun _ o => [.box 25 [.i .i64 n.u, .sl .none (intsG n.rs), .sl .none (spsG n.ss), .sl .none (intsG n.ar)], ow 9 1 o.length]) [] [] rfl (fun i o φ0 hi ho => ?_) (hh := fun _ _ => by simp only [List.all_cons, ow_held]; rfl) (hφ := ?_)
  rotate_left
  · refine ⟨rfl, rfl, rfl, ?_, rfl, trivial⟩
    show GV.i .i64 (((spsG n.ss).length : Nat) : Int) = _
    rw [spsG_len]
  have hol : o.length = i := by rw [ho, List.length_map, List.length_take]; omega
  conv => whnf
  refine GIf.mk (fun h => ?_) (fun h => ?_) <;> conv => whnf
  rotate_left
  · have hi' : i = n.ss.length := by have := of_decide_eq_false h; omega
    have ho' : o = n.ss.map wrS := by rw [ho, hi', List.take_length]
    subst ho'
    have hj := joinS_len h'.ss
    refine GDraw.calm (by kernel_rfl) ?_
    conv => whnf
    refine cP (c_Itoa n.u h'.u.1 h'.u.2) ?_
    conv => whnf
    refine ⟨by simp only [List.length_cons, List.length_nil, List.length_append]; show _ < 4611686018427387904; omega, _, rfl, ?_⟩
    conv => whnf
    refine cP (k_numbers n.rs [32] b1 h'.rs (Nat.le_refl _)) ?_
    conv => whnf
    refine ⟨by simp only [List.length_cons, List.length_nil, List.length_append]; show _ < 4611686018427387904; omega, _, rfl, ?_⟩
    conv => whnf
    refine ⟨by simp only [List.length_cons, List.length_nil, List.length_append]; show _ < 4611686018427387904; omega, _, rfl, ?_⟩
    conv => whnf
    refine cP (c_Join (n.ss.map wrS) [32] (by rw [List.length_map]; omega) (by omega)) ?_ (Wks.cons (Wk.sl _ _) (Wks.refl _))
    conv => whnf
    refine ⟨by simp only [List.length_cons, List.length_nil, List.length_append]; show _ < 4611686018427387904; omega, _, rfl, ?_⟩
    conv => whnf
    refine ⟨by simp only [List.length_cons, List.length_nil, List.length_append]; show _ < 4611686018427387904; omega, _, rfl, ?_⟩
    conv => whnf
    refine cP (k_numbers n.ar [32] b3 h'.ar (Nat.le_refl _)) ?_
    conv => whnf
    refine ⟨by simp only [List.length_cons, List.length_nil, List.length_append]; show _ < 4611686018427387904; omega, _, rfl, ?_⟩
    conv => whnf
    exact fin 0
  have hlt : i < n.ss.length := by have := of_decide_eq_true h; omega
  refine (ex_at hlt).elim fun x hx => ?_
  have hxr := h'.ss x (List.mem_of_getElem? hx)
  have hxl := wrS_len hxr
  have ho' : o ++ [wrS x] = (n.ss.take (i + 1)).map wrS := by rw [List.take_add_one, hx, List.map_append, ← ho]; rfl
  refine ix (map_at hx) ⟨rfl, ?_⟩
  conv => whnf
  refine st ?_
  conv => whnf
  refine GIf.mk (fun e => ?_) (fun e => ?_) <;> conv => whnf
  · have e : x.st = 1 := by simpa using e
    have hw : wrS x = [111, 58] ++ numsW [58] [x.ow] := by unfold wrS; rw [if_pos e]
    have hl := nums_len (sep := [58]) (by simp) (l := [x.ow]) (by simpa using hxr.ow)
    simp only [List.length_cons, List.length_nil] at hl
    refine cP (k_numbers [x.ow] [58] (Nat.le_of_ble_eq_true rfl) (by simpa using hxr.ow) (Nat.le_refl _)) ?_ (Wks.cons (Wk.sl _ _) (Wks.refl _))
    conv => whnf
    refine ⟨by simp only [List.length_cons, List.length_nil]; show _ < 4611686018427387904; omega, wrS x, hw, ?_⟩
    conv => whnf
    cases o with
    | nil =>
      refine ap1 (f := .s) (c := 1) (fun _ => rfl) [] (wrS x) rfl (by simp) ?_
      conv => whnf
      refine ⟨⟨Nat.zero_le _, rfl, .inr ⟨rfl, rfl⟩⟩, ?_⟩
      conv => whnf
      exact nx ([] ++ [(wrS x)]) hlt ⟨hlt, ho'⟩
    | cons z zs =>
      refine ap1 (f := .s) (c := 1) (fun _ => rfl) (z :: zs) (wrS x) rfl (by omega) ?_
      conv => whnf
      refine ⟨⟨Nat.zero_le _, (txG_len (z :: zs)).symm, .inl ⟨rfl, rfl⟩⟩, ?_⟩
      conv => whnf
      exact nx ((z :: zs) ++ [(wrS x)]) hlt ⟨hlt, ho'⟩
  have e1 : ¬ x.st = 1 := by simpa using e
  refine GIf.mk (fun e => ?_) (fun e => ?_) <;> conv => whnf
  · have e : x.st = 2 := by simpa using e
    have hw : wrS x = [109, 58] ++ numsW [58] [x.ow, x.ky] := by unfold wrS; rw [if_neg e1, if_pos e]
    have hl := nums_len (sep := [58]) (by simp) (l := [x.ow, x.ky]) (by simpa using ⟨hxr.ow, hxr.ky⟩)
    simp only [List.length_cons, List.length_nil] at hl
    refine cP (k_numbers [x.ow, x.ky] [58] (Nat.le_of_ble_eq_true rfl) (by simpa using ⟨hxr.ow, hxr.ky⟩) (Nat.le_refl _)) ?_ (Wks.cons (Wk.sl _ _) (Wks.refl _))
    conv => whnf
    refine ⟨by simp only [List.length_cons, List.length_nil]; show _ < 4611686018427387904; omega, wrS x, hw, ?_⟩
    conv => whnf
    cases o with
    | nil =>
      refine ap1 (f := .s) (c := 1) (fun _ => rfl) [] (wrS x) rfl (by simp) ?_
      conv => whnf
      refine ⟨⟨Nat.zero_le _, rfl, .inr ⟨rfl, rfl⟩⟩, ?_⟩
      conv => whnf
      exact nx ([] ++ [(wrS x)]) hlt ⟨hlt, ho'⟩
    | cons z zs =>
      refine ap1 (f := .s) (c := 1) (fun _ => rfl) (z :: zs) (wrS x) rfl (by omega) ?_
      conv => whnf
      refine ⟨⟨Nat.zero_le _, (txG_len (z :: zs)).symm, .inl ⟨rfl, rfl⟩⟩, ?_⟩
      conv => whnf
      exact nx ((z :: zs) ++ [(wrS x)]) hlt ⟨hlt, ho'⟩
  have e2 : ¬ x.st = 2 := by simpa using e
  refine GIf.mk (fun e => ?_) (fun e => ?_) <;> conv => whnf
  · have e : x.st = 3 := by simpa using e
    have hw : wrS x = [103, 58] ++ numsW [58] [x.ow, x.be, x.af] := by unfold wrS; rw [if_neg e1, if_neg e2, if_pos e]
    have hl := nums_len (sep := [58]) (by simp) (l := [x.ow, x.be, x.af]) (by simpa using ⟨hxr.ow, hxr.be, hxr.af⟩)
    simp only [List.length_cons, List.length_nil] at hl
    refine cP (k_numbers [x.ow, x.be, x.af] [58] (Nat.le_of_ble_eq_true rfl) (by simpa using ⟨hxr.ow, hxr.be, hxr.af⟩) (Nat.le_refl _)) ?_ (Wks.cons (Wk.sl _ _) (Wks.refl _))
    conv => whnf
    refine ⟨by simp only [List.length_cons, List.length_nil]; show _ < 4611686018427387904; omega, wrS x, hw, ?_⟩
    conv => whnf
    cases o with
    | nil =>
      refine ap1 (f := .s) (c := 1) (fun _ => rfl) [] (wrS x) rfl (by simp) ?_
      conv => whnf
      refine ⟨⟨Nat.zero_le _, rfl, .inr ⟨rfl, rfl⟩⟩, ?_⟩
      conv => whnf
      exact nx ([] ++ [(wrS x)]) hlt ⟨hlt, ho'⟩
    | cons z zs =>
      refine ap1 (f := .s) (c := 1) (fun _ => rfl) (z :: zs) (wrS x) rfl (by omega) ?_
      conv => whnf
      refine ⟨⟨Nat.zero_le _, (txG_len (z :: zs)).symm, .inl ⟨rfl, rfl⟩⟩, ?_⟩
      conv => whnf
      exact nx ((z :: zs) ++ [(wrS x)]) hlt ⟨hlt, ho'⟩
  have e3 : ¬ x.st = 3 := by simpa using e
  have hw : wrS x = [45] := by unfold wrS; rw [if_neg e1, if_neg e2, if_neg e3]
  rw [hw] at ho'
  cases o with
  | nil =>
    refine ap1 (f := .s) (c := 1) (fun _ => rfl) [] ([45] : By) rfl (by simp) ?_
    conv => whnf
    refine ⟨⟨Nat.zero_le _, rfl, .inr ⟨rfl, rfl⟩⟩, ?_⟩
    conv => whnf
    exact nx ([] ++ [([45] : By)]) hlt ⟨hlt, ho'⟩
  | cons z zs =>
    refine ap1 (f := .s) (c := 1) (fun _ => rfl) (z :: zs) ([45] : By) rfl (by omega) ?_
    conv => whnf
    refine ⟨⟨Nat.zero_le _, (txG_len (z :: zs)).symm, .inl ⟨rfl, rfl⟩⟩, ?_⟩
    conv => whnf
    exact nx ((z :: zs) ++ [([45] : By)]) hlt ⟨hlt, ho'⟩
end Go.Proofs.YtcbknpdjdlgljaaGreatDoor
namespace Go.Proofs.YtcbknpdjdlgljaaGreatDoor
open Go.RowKit
set_option maxRecDepth 100000
set_option linter.unusedVariables false
section
variable [Globals]
theorem fpts_ren [MaxL] (e : Nat → Nat) {φ : Fr} : ∀ {l : List (Nat × GV)}, (∀ p ∈ l, φ p.1 = p.2.ren e) → ∀ t, φ t = ((fpts (fun _ => .any) l) t).ren e ∨ fpts (fun _ => .any) l t = .any
  | [], _, t => .inr rfl
  | p :: l, h, t => by
    have ih := fpts_ren (φ := φ) e (l := l) (fun q hq => h q (List.mem_cons_of_mem _ hq)) t
    show φ t = (fpt (fpts (fun _ => .any) l) p.1 p.2 t).ren e ∨ fpt (fpts (fun _ => .any) l) p.1 p.2 t = .any
    rw [fpt_eq]
    unfold fput
    by_cases ht : t = p.1
    · rw [if_pos ht]; left; rw [ht]; exact h p (List.mem_cons_self ..)
    · rw [if_neg ht]; exact ih
theorem GLoop.mv [MaxL] {β : Type} {f : GRun} {φ : Fr} {σ : GS} {K : GX → Fr → GS → Prop} (n : Nat) (I : Nat → β → Prop) (L : Nat → β → List (Nat × GV)) (O : Nat → β → List GObj) (b0 : β) (h0 : I 0 b0) (hφ : agree φ (L 0 b0)) (hσ : σ = ⟨O 0 b0, 0, []⟩)
    (hL : ∀ i b, agree (fpts (fun _ => .any) (L i b)) (L i b))
    (step : ∀ i b φ0, i ≤ n → I i b → f (fpts φ0 (L i b)) ⟨O i b, 0, []⟩ fun x φ' σ' => match x with
      | .normal => ∃ m', m' < n - i ∧ ∃ (a' : Nat × β) (ks : List Nat), (a'.1 ≤ n ∧ I a'.1 a'.2) ∧ n - a'.1 = m' ∧ Lies ks (O a'.1 a'.2) σ'.objs ∧ (∀ j, j < σ.objs.length → ks[j]? = some j) ∧ σ'.ds = [] ∧ ∀ p ∈ L a'.1 a'.2, φ' p.1 = p.2.ren (emb ks σ'.objs.length)
      | .exit i => K (.exit i) φ' σ'
      | .ret => K .ret φ' σ'
      | .panic g => K (.panic g) φ' σ') : GLoop f φ σ K := by
  refine ⟨⟨fun m φ1 σ1 => ∃ i b, i ≤ n ∧ I i b ∧ n - i = m ∧ agree φ1 (L i b) ∧ σ1 = ⟨O i b, 0, []⟩,
    fun m φ' σ' => ∃ (a' : Nat × β) (ks : List Nat), (a'.1 ≤ n ∧ I a'.1 a'.2) ∧ n - a'.1 = m ∧ Lies ks (O a'.1 a'.2) σ'.objs ∧ (∀ j, j < σ.objs.length → ks[j]? = some j) ∧ σ'.ds = [] ∧ ∀ p ∈ L a'.1 a'.2, φ' p.1 = p.2.ren (emb ks σ'.objs.length),
    n, ⟨0, b0, Nat.zero_le _, h0, rfl, hφ, hσ⟩, fun m φ' σ' ⟨a', ks, h1, h2, h3, h4, h5, h6⟩ => .inr ⟨_, ⟨O a'.1 a'.2, 0, []⟩, ⟨⟨ks, σ'.objs, .refl _, h3, h4, h5, fpts_ren _ h6⟩⟩, a'.1, a'.2, h1.1, h1.2, h2, hL _ _, rfl⟩,
    fun m φ1 σ1 ⟨i, b, h1, h2, h3, h4, h5⟩ => ?_⟩⟩
  subst h5; subst h3
  have := step i b φ1 h1 h2
  rwa [agree_fpts h4] at this
structure OwesZ (P : Program) (g' : GV) (r0 : GRes) (σ0 : GS) : Prop where
  ex : ∃ g, r0 = .val g ∧ gfrz P (fun r => σ0.objs[r]?) 30 g = some g'
theorem SC.of_gwpZ [MaxL] {P : Program} (M : FuncId → Bool) (hm : P.follows .mixedOrders = true) {k : FuncId} {fn : Func} {c : Code} (hfn : P.funcs[k]? = some fn) (hb : fn.body = some c) {args : List GV} {g' : GV}
    (hlen : args.length ≤ fn.ntmps) (h : gwp P M none fn.ntmps c (gstart args) ⟨[], 0, []⟩ (endK P fn (OwesZ P g'))) : SC P k args [] (.val g') [] := by
  refine ⟨Nat.le_refl _, fun C w vs hr hv => ?_, fun x hx => by cases hx⟩
  obtain ⟨h1, h2⟩ := gstart_rel (fn := fn) hlen hv
  have fin : ∀ (φ' : Fr) (σ1 : GS) (u : GMode) (D : Cx) (a' : Act) (w' : World) (um : FrameMode), gopt (gleave P (fun _ => false) (fun _ _ _ => none) 50 fn φ' σ1.ds u σ1) (fun q => OwesZ P g' q.1 q.2) →
      C.le D → FRel D φ' a' → DRel D σ1.ds a'.defers → Rel D σ1 w w' → MRel D u um → LeavesX P fn a'.tmps (fun e w' => ∃ D, C.le D ∧ Rel D ⟨[], 0, []⟩ w w' ∧ ERel D (.val g') e) a'.defers um w' := by
    intro φ' σ1 u D a' w' um hk hl hf' hd' hr' hmr
    obtain ⟨⟨r0, σ2⟩, hlv, ⟨g, hg, hz⟩⟩ := gopt_of hk
    refine (gleave_sound (tmps := a'.tmps) (w0 := w) hm (noCall_sound w) noCall_pure _ _ _ hlv).2 D w' a'.defers um hr' hf' hd' hmr (fun E e w'' hE hrE he => ?_)
    have hlE := hl.trans hE
    replace hg : r0 = .val g := hg
    subst hg
    obtain ⟨v, rfl, hv1⟩ := he
    refine ⟨E.cold σ2.objs w'', ⟨fun b o v hx => .inl (hlE.fx _ _ _ hx), fun i b hb => ?_, fun i I hI => ?_, hlE.hd, hlE.fix⟩, hrE.cold, v, rfl, frz_sound hrE (fun r x hx => hx) 30 g g' v hz hv1⟩
    · rw [(hr.dom i (Nat.zero_le _)).1] at hb; cases hb
    · rw [(hr.dom i (Nat.zero_le _)).2] at hI; cases hI
  refine calls_of_wpX hfn hb (wpIn_wide (n := 0).1 (gwp_sound (w0 := w) (ro := none) (n := fn.ntmps) hm c _ _ C none _ _ _ w h trivial hr h1 h2 trivial (fun x φ' σ1 hk D a' w' hl hf' hn' hd' hr' => ?_)))
  cases x with
  | normal => exact fin φ' σ1 .ret D a' w' .returning hk hl hf' hd' hr' rfl
  | ret => exact fin φ' σ1 .ret D a' w' .returning hk hl hf' hd' hr' rfl
  | exit id => exact hk.elim
  | panic g => exact fun v hv => fin φ' σ1 (.pan g) D a' w' (.panicking [{ v, recovered := false }]) hk hl hf' hd' hr' ⟨v, rfl, hv⟩
end
end Go.Proofs.YtcbknpdjdlgljaaGreatDoor
namespace Go.Proofs.YtcbknpdjdlgljaaGreatDoor
open Go.RowKit
set_option maxRecDepth 100000
set_option linter.unusedVariables false
abbrev gS [MaxL] : Globals := ⟨fun _ => none, fun t => Globals.wr t || Globals.sp t, fun t => Nat.beq t 9, fun _ => false⟩
def rowC (l : List By) (cap : Nat) : List GV := txG l ++ List.replicate (cap - l.length) .any
section
variable [MaxL]
instance {l : List By} {cap : Nat} : KL (rowC l cap) := ⟨fun e => by
  unfold rowC
  rw [List.map_append, (show KL (txG l) from inferInstance).h e, List.map_replicate]; rfl⟩
end
theorem rowC_len {l : List By} {cap : Nat} (h : l.length ≤ cap) : (rowC l cap).length = cap := by
  unfold rowC; rw [List.length_append, txG_len, List.length_replicate]; omega
theorem rowC_at {l : List By} {cap i : Nat} {x : By} (h : l[i]? = some x) : (rowC l cap)[i]? = some (.s x) := by
  unfold rowC
  rw [List.getElem?_append_left (by rw [txG_len]; exact (List.getElem?_eq_some_iff.1 h).1)]
  unfold txG
  rw [List.getElem?_map, h]; rfl
theorem rowC_app {l : List By} {cap : Nat} (x : By) (h : l.length + 1 ≤ cap) : rowC (l ++ [x]) cap = (rowC l cap).take l.length ++ [.s x] ++ (rowC l cap).drop (l.length + 1) := by
  unfold rowC txG
  have e : cap - l.length = (cap - (l.length + 1)) + 1 := by omega
  rw [List.take_left' (List.length_map ..), List.map_append, List.length_append, List.length_singleton, e, List.replicate_succ]
  rw [show (l.map GV.s ++ GV.any :: List.replicate (cap - (l.length + 1)) GV.any) = (l.map GV.s ++ [GV.any]) ++ List.replicate (cap - (l.length + 1)) GV.any by simp]
  rw [List.drop_left' (by simp)]; rfl
theorem rowC_new {l : List By} {cap cap' : Nat} (x : By) (h : l.length ≤ cap) : rowC (l ++ [x]) cap' = (rowC l cap).take l.length ++ [.s x] ++ List.replicate (cap' - (l.length + 1)) .any := by
  unfold rowC txG
  rw [List.take_left' (List.length_map ..), List.map_append, List.length_append, List.length_singleton]; rfl
theorem rowC_set {l : List By} {cap : Nat} (x y : By) (h : l.length + 1 ≤ cap) : rowC (l ++ [y]) cap = (rowC (l ++ [x]) cap).take l.length ++ [.s y] ++ (rowC (l ++ [x]) cap).drop (l.length + 1) := by
  unfold rowC txG
  rw [List.map_append, List.map_append, List.length_append, List.length_append, List.length_singleton, List.length_singleton]
  rw [show (l.map GV.s ++ [x].map GV.s ++ List.replicate (cap - (l.length + 1)) GV.any).take l.length = l.map GV.s by rw [List.append_assoc]; exact List.take_left' (List.length_map ..)]
  rw [List.drop_left' (by simp)]; rfl
theorem gchunk_txt [Globals] {P : Program} {T : TypeId} (ht : aggT P T = some false) (rest : List GV) : ∀ l : List By, gchunk P T 1 l.length (txG l ++ rest) = some (txG l)
  | [] => rfl
  | x :: l => by
    have ih := gchunk_txt ht rest l
    simp only [List.length_cons, gchunk, ht]
    rw [show List.drop 1 (txG (x :: l) ++ rest) = txG l ++ rest from rfl, ih]
    rfl
theorem frzL_txt [Globals] {P : Program} {ob : Nat → Option GObj} {n : Nat} : ∀ l : List By, gfrzL (gfrz P ob (n + 1)) (txG l) = some (txG l)
  | [] => rfl
  | x :: l => by
    show (match some (GV.s x), gfrzL (gfrz P ob (n + 1)) (txG l) with | some y, some ys => some (y :: ys) | _, _ => none) = _
    rw [frzL_txt l]; rfl
theorem frz_txt [Globals] {P : Program} {ob : Nat → Option GObj} {r c : Nat} {T : TypeId} (ht : aggT P T = some false) {l : List By} {cap : Nat} (ho : ob r = some (.box T (rowC l cap))) : gfrz P ob 30 (.rs r 0 1 l.length c) = some (.sl .none (txG l)) := by
  have hok : (txG l).all (okEl 1) = true := by
    rw [List.all_eq_true]; intro x hx
    obtain ⟨y, _, rfl⟩ := List.mem_map.1 hx; rfl
  have hg : gchunk P T (0 + 1) l.length ((rowC l cap).drop 0) = some (txG l) := gchunk_txt ht _ l
  have hz : gfrzL (gfrz P ob 29) (txG l) = some (txG l) := frzL_txt l
  unfold gfrz
  simp only [ho, hg, hz, hok, if_true, Option.map_some]
structure SpS where
  done : List By
  cur : By
  cap : Nat
  old : Option (List By × Nat)
def spO (b : SpS) : List GObj :=
  match b.old with
  | none => [.own 0 0 0, .box 9 (rowC (b.done ++ [b.cur]) b.cap)]
  | some o => [.own 0 0 0, .box 9 (rowC o.1 o.2), .box 9 (rowC (b.done ++ [b.cur]) b.cap)]
def spR (b : SpS) : Nat := match b.old with | none => 1 | some _ => 2
theorem b_Split [MaxL] (s : By) (c : UInt8) (hs : s.length ≤ 100000000) : @SC gS Tryz.prog 29 [.s s, .i .u8 c.toNat] [] (.val (.sl .none (txG (pieces [c] s)))) [] := by
  letI : Globals := gS
  refine SC.of_gwpZ noM mixed Tryz.func29 rfl (Nat.le_of_ble_eq_true rfl) ?_
  conv => whnf
  refine GLoop.mv s.length (fun i b => pieces [c] s = b.done ++ pieces [c] (b.cur ++ s.drop i) ∧ c ∉ b.cur ∧ b.done.length + 1 ≤ b.cap ∧ b.done.length ≤ i ∧ b.cur.length ≤ i)
    (fun i b => [(0, .s s), (1, .i .u8 c.toNat), (5, .rs (spR b) 0 1 (b.done.length + 1) b.cap), (6, .i .i64 (i : Nat))]) (fun _ b => spO b) ⟨[], [], 1, none⟩ ⟨by simp, by simp, Nat.le_refl _, Nat.le_refl _, Nat.le_refl _⟩ ?_ rfl ?_ (fun i b φ0 hi hI => ?_)
  · exact ⟨rfl, rfl, rfl, rfl, trivial⟩
  · exact fun i b => ⟨rfl, rfl, rfl, rfl, trivial⟩
  obtain ⟨done, cur, cap, old⟩ := b
  obtain ⟨hp, hc, hcap, hdl, hcl⟩ := hI
  replace hp : pieces [c] s = done ++ pieces [c] (cur ++ s.drop i) := hp
  replace hc : c ∉ cur := hc
  replace hcap : done.length + 1 ≤ cap := hcap
  replace hdl : done.length ≤ i := hdl
  replace hcl : cur.length ≤ i := hcl
  cases old with
  | none =>
    conv => whnf
    refine GIf.mk (fun h => ?_) (fun h => ?_) <;> conv => whnf
    rotate_left
    · have hi' : i = s.length := by have := of_decide_eq_false h; omega
      rw [hi', List.drop_length, List.append_nil, pieces_no hc] at hp
      refine ⟨_, rfl, ?_⟩
      rw [hp]
      show gfrz Tryz.prog _ 30 (.rs 1 0 1 (done.length + 1) cap) = _
      rw [show done.length + 1 = (done ++ [cur]).length by simp]
      exact frz_txt (T := 9) (cap := cap) rfl rfl
    have hlt : i < s.length := by have := of_decide_eq_true h; omega
    refine (ex_at hlt).elim fun b hx => ?_
    have hdr : s.drop i = b :: s.drop (i + 1) := by rw [List.drop_eq_getElem_cons hlt]; congr 1; exact (List.getElem?_eq_some_iff.1 hx).2
    refine ⟨Int.natCast_nonneg _, b, by rw [Int.toNat_natCast]; exact hx, ?_⟩
    conv => whnf
    refine GIf.mk (fun e => ?_) (fun e => ?_) <;> conv => whnf
    · have e : b = c := u8_eq e
      subst e
      have hl : (done ++ [cur]).length = done.length + 1 := by simp
      have hI : ∀ cap2, (done ++ [cur]).length + 1 ≤ cap2 → pieces [b] s = (done ++ [cur]) ++ pieces [b] ([] ++ s.drop (i + 1)) ∧ b ∉ ([] : By) ∧ (done ++ [cur]).length + 1 ≤ cap2 ∧ (done ++ [cur]).length ≤ i + 1 ∧ ([] : By).length ≤ i + 1 := fun cap2 h2 =>
        ⟨by rw [hp, hdr, show cur ++ b :: s.drop (i + 1) = cur ++ [b] ++ s.drop (i + 1) by simp, pieces_c cur _ hc]; simp, by simp, h2, by rw [hl]; omega, Nat.zero_le _⟩
      refine ⟨rfl, ⟨_, _, _, _, _, ⟨rfl, rfl, rfl, rfl, rfl, rfl, rfl⟩, ⟨by rw [Nat.mul_one]; exact rowC_len (by rw [hl]; exact hcap), rfl, by simp, (by show done.length + 1 + 1 ≤ 4294967296; omega), (by show 0 < cap; omega), (by show done.length + 1 ≤ cap; exact hcap)⟩, fun hle => ⟨rowC ((done ++ [cur]) ++ [[]]) cap, ?_, ?_⟩, fun hgt cap2 cs2 hc1 hc2 => ?_⟩⟩
      · show _ = List.take ((done.length + 1) * 1) _ ++ [GV.s []] ++ List.drop ((done.length + 1) * 1 + 1) _
        rw [Nat.mul_one, ← hl]; exact rowC_app [] (by rw [hl]; exact hle)
      · conv => whnf
        have hI' := hI cap (by rw [hl]; exact hle)
        refine ⟨s.length - (i + 1), by omega, (i + 1, ⟨done ++ [cur], [], cap, none⟩), [0, 1], ⟨hlt, ?_⟩, rfl, ?_, ?_, rfl, ?_⟩
        · exact hI'
        · show Lies [0, 1] [.own 0 0 0, .box 9 (rowC ((done ++ [cur]) ++ [[]]) cap)] _
          exact Lies.mk' rfl rfl (by decide) rfl
        · intro j hj
          match j, hj with | 0, _ => rfl | 1, _ => rfl
        · intro p hp
          simp only [List.mem_cons, List.not_mem_nil, or_false] at hp
          rcases hp with rfl | rfl | rfl | rfl
          · rfl
          · rfl
          · show GV.rs _ 0 1 _ _ = GV.rs (emb [0, 1] _ 1) 0 1 _ _
            rw [emb_lt (by simp)]
            rw [hl]; rfl
          · exact wrap_succ (by omega)
      · have hcs : cs2 = rowC ((done ++ [cur]) ++ [[]]) cap2 := by
          rw [hc2]
          show List.take ((done.length + 1) * 1) _ ++ [GV.s []] ++ List.replicate ((cap2 - (done.length + 1 + 1)) * 1) _ = _
          rw [Nat.mul_one, Nat.mul_one, ← hl]; exact (rowC_new [] (by rw [hl]; exact hcap)).symm
        clear hc2
        subst hcs
        conv => whnf
        have hI' := hI cap2 (by rw [hl]; exact hc1)
        refine ⟨s.length - (i + 1), by omega, (i + 1, ⟨done ++ [cur], [], cap2, some (done ++ [cur], cap)⟩), [0, 1, 3], ⟨hlt, ?_⟩, rfl, ?_, ?_, rfl, ?_⟩
        · exact hI'
        · show Lies [0, 1, 3] [.own 0 0 0, .box 9 (rowC (done ++ [cur]) cap), .box 9 (rowC ((done ++ [cur]) ++ [[]]) cap2)] _
          exact Lies.mk' rfl rfl (by decide) rfl
        · intro j hj
          match j, hj with | 0, _ => rfl | 1, _ => rfl
        · intro p hp
          simp only [List.mem_cons, List.not_mem_nil, or_false] at hp
          rcases hp with rfl | rfl | rfl | rfl
          · rfl
          · rfl
          · show GV.rs _ 0 1 _ _ = GV.rs (emb [0, 1, 3] _ 2) 0 1 _ _
            rw [emb_lt (by simp)]
            rw [hl]; rfl
          · exact wrap_succ (by omega)
    · have e : b ≠ c := u8_ne e
      have w1 : IntKind.i64.wrap (((done.length + 1 : Nat) : Int) - 1) = ((done.length : Nat) : Int) := by rw [wrap_in (by omega) (by omega)]; omega
      have w2 : IntKind.i64.wrap (((i : Nat) : Int) + 1) = ((i + 1 : Nat) : Int) := by rw [wrap_in (by omega) (by omega)]; omega
      have hat : (rowC (done ++ [cur]) cap)[done.length]? = some (.s cur) := rowC_at (by simp)
      have hI' : pieces [c] s = done ++ pieces [c] ((cur ++ [b]) ++ s.drop (i + 1)) ∧ c ∉ cur ++ [b] ∧ done.length + 1 ≤ cap ∧ done.length ≤ i + 1 ∧ (cur ++ [b]).length ≤ i + 1 :=
        ⟨by rw [hp, hdr]; simp, by simp [hc]; exact fun h => e h.symm, hcap, by omega, by simp; omega⟩
      refine GDraw.calm (by kernel_rfl) ?_
      conv => whnf
      refine ⟨⟨by rw [w1]; exact Int.natCast_nonneg _, rfl, by rw [w1]; show ((done.length : Nat) : Int) < ((done.length + 1 : Nat) : Int); omega⟩, ?_⟩
      conv => whnf
      refine ⟨.s cur, ⟨?_, ?_⟩⟩
      · show (rowC (done ++ [cur]) cap)[0 + (IntKind.i64.wrap (((done.length + 1 : Nat) : Int) - 1)).toNat * 1]? = _
        rw [w1, Int.toNat_natCast, Nat.mul_one, Nat.zero_add]; exact hat
      refine ⟨Int.natCast_nonneg _, ⟨by rw [w2]; exact Int.natCast_nonneg _, ⟨by rw [w2]; exact ⟨Nat.le_succ _, hlt⟩, [b], ?_, ?_⟩⟩⟩
      · rw [w2]; show [b] = List.take (i + 1 - i) (s.drop i); rw [hdr, Nat.add_sub_cancel_left]; rfl
      conv => whnf
      refine ⟨by show cur.length + 1 < 4611686018427387904; omega, cur ++ [b], rfl, ?_⟩
      conv => whnf
      refine ⟨⟨by rw [w1]; exact Int.natCast_nonneg _, rfl, by rw [w1]; show ((done.length : Nat) : Int) < ((done.length + 1 : Nat) : Int); omega⟩, ?_⟩
      conv => whnf
      refine ⟨rowC (done ++ [cur ++ [b]]) cap, ⟨?_, Nat.zero_le _, rfl, ?_⟩, ?_⟩
      · rw [w1]
        show _ = List.take (0 + done.length * 1) (rowC (done ++ [cur]) cap) ++ [GV.s (cur ++ [b])] ++ List.drop (0 + done.length * 1 + 1) (rowC (done ++ [cur]) cap)
        rw [Nat.mul_one, Nat.zero_add]; exact rowC_set _ _ hcap
      · rw [w1]
        show 0 + done.length * 1 + 1 ≤ (rowC (done ++ [cur]) cap).length
        rw [rowC_len (by simp; omega)]; omega
      conv => whnf
      refine ⟨s.length - (i + 1), by omega, (i + 1, ⟨done, cur ++ [b], cap, none⟩), [0, 1], ⟨hlt, ?_⟩, rfl, ?_, ?_, rfl, ?_⟩
      · exact hI'
      · show Lies [0, 1] [.own 0 0 0, .box 9 (rowC (done ++ [cur ++ [b]]) cap)] _
        exact Lies.mk' rfl rfl (by decide) rfl
      · intro j hj
        match j, hj with | 0, _ => rfl | 1, _ => rfl
      · intro p hp
        simp only [List.mem_cons, List.not_mem_nil, or_false] at hp
        rcases hp with rfl | rfl | rfl | rfl
        · rfl
        · rfl
        · show GV.rs _ 0 1 _ _ = GV.rs (emb [0, 1] _ 1) 0 1 _ _
          rw [emb_lt (by simp)]
          rfl
        · exact wrap_succ (by omega)
  | some o =>
    conv => whnf
    refine GIf.mk (fun h => ?_) (fun h => ?_) <;> conv => whnf
    rotate_left
    · have hi' : i = s.length := by have := of_decide_eq_false h; omega
      rw [hi', List.drop_length, List.append_nil, pieces_no hc] at hp
      refine ⟨_, rfl, ?_⟩
      rw [hp]
      show gfrz Tryz.prog _ 30 (.rs 2 0 1 (done.length + 1) cap) = _
      rw [show done.length + 1 = (done ++ [cur]).length by simp]
      exact frz_txt (T := 9) (cap := cap) rfl rfl
    have hlt : i < s.length := by have := of_decide_eq_true h; omega
    refine (ex_at hlt).elim fun b hx => ?_
    have hdr : s.drop i = b :: s.drop (i + 1) := by rw [List.drop_eq_getElem_cons hlt]; congr 1; exact (List.getElem?_eq_some_iff.1 hx).2
    refine ⟨Int.natCast_nonneg _, b, by rw [Int.toNat_natCast]; exact hx, ?_⟩
    conv => whnf
    refine GIf.mk (fun e => ?_) (fun e => ?_) <;> conv => whnf
    · have e : b = c := u8_eq e
      subst e
      have hl : (done ++ [cur]).length = done.length + 1 := by simp
      have hI : ∀ cap2, (done ++ [cur]).length + 1 ≤ cap2 → pieces [b] s = (done ++ [cur]) ++ pieces [b] ([] ++ s.drop (i + 1)) ∧ b ∉ ([] : By) ∧ (done ++ [cur]).length + 1 ≤ cap2 ∧ (done ++ [cur]).length ≤ i + 1 ∧ ([] : By).length ≤ i + 1 := fun cap2 h2 =>
        ⟨by rw [hp, hdr, show cur ++ b :: s.drop (i + 1) = cur ++ [b] ++ s.drop (i + 1) by simp, pieces_c cur _ hc]; simp, by simp, h2, by rw [hl]; omega, Nat.zero_le _⟩
      refine ⟨rfl, ⟨_, _, _, _, _, ⟨rfl, rfl, rfl, rfl, rfl, rfl, rfl⟩, ⟨by rw [Nat.mul_one]; exact rowC_len (by rw [hl]; exact hcap), rfl, by simp, (by show done.length + 1 + 1 ≤ 4294967296; omega), (by show 0 < cap; omega), (by show done.length + 1 ≤ cap; exact hcap)⟩, fun hle => ⟨rowC ((done ++ [cur]) ++ [[]]) cap, ?_, ?_⟩, fun hgt cap2 cs2 hc1 hc2 => ?_⟩⟩
      · show _ = List.take ((done.length + 1) * 1) _ ++ [GV.s []] ++ List.drop ((done.length + 1) * 1 + 1) _
        rw [Nat.mul_one, ← hl]; exact rowC_app [] (by rw [hl]; exact hle)
      · conv => whnf
        have hI' := hI cap (by rw [hl]; exact hle)
        refine ⟨s.length - (i + 1), by omega, (i + 1, ⟨done ++ [cur], [], cap, some o⟩), [0, 1, 2], ⟨hlt, ?_⟩, rfl, ?_, ?_, rfl, ?_⟩
        · exact hI'
        · show Lies [0, 1, 2] [.own 0 0 0, .box 9 (rowC o.1 o.2), .box 9 (rowC ((done ++ [cur]) ++ [[]]) cap)] _
          exact Lies.mk' rfl rfl (by decide) rfl
        · intro j hj
          match j, hj with | 0, _ => rfl | 1, _ => rfl
        · intro p hp
          simp only [List.mem_cons, List.not_mem_nil, or_false] at hp
          rcases hp with rfl | rfl | rfl | rfl
          · rfl
          · rfl
          · show GV.rs _ 0 1 _ _ = GV.rs (emb [0, 1, 2] _ 2) 0 1 _ _
            rw [emb_lt (by simp)]
            rw [hl]; rfl
          · exact wrap_succ (by omega)
      · have hcs : cs2 = rowC ((done ++ [cur]) ++ [[]]) cap2 := by
          rw [hc2]
          show List.take ((done.length + 1) * 1) _ ++ [GV.s []] ++ List.replicate ((cap2 - (done.length + 1 + 1)) * 1) _ = _
          rw [Nat.mul_one, Nat.mul_one, ← hl]; exact (rowC_new [] (by rw [hl]; exact hcap)).symm
        clear hc2
        subst hcs
        conv => whnf
        have hI' := hI cap2 (by rw [hl]; exact hc1)
        refine ⟨s.length - (i + 1), by omega, (i + 1, ⟨done ++ [cur], [], cap2, some o⟩), [0, 1, 4], ⟨hlt, ?_⟩, rfl, ?_, ?_, rfl, ?_⟩
        · exact hI'
        · show Lies [0, 1, 4] [.own 0 0 0, .box 9 (rowC o.1 o.2), .box 9 (rowC ((done ++ [cur]) ++ [[]]) cap2)] _
          exact Lies.mk' rfl rfl (by decide) rfl
        · intro j hj
          match j, hj with | 0, _ => rfl | 1, _ => rfl
        · intro p hp
          simp only [List.mem_cons, List.not_mem_nil, or_false] at hp
          rcases hp with rfl | rfl | rfl | rfl
          · rfl
          · rfl
          · show GV.rs _ 0 1 _ _ = GV.rs (emb [0, 1, 4] _ 2) 0 1 _ _
            rw [emb_lt (by simp)]
            rw [hl]; rfl
          · exact wrap_succ (by omega)
    · have e : b ≠ c := u8_ne e
      have w1 : IntKind.i64.wrap (((done.length + 1 : Nat) : Int) - 1) = ((done.length : Nat) : Int) := by rw [wrap_in (by omega) (by omega)]; omega
      have w2 : IntKind.i64.wrap (((i : Nat) : Int) + 1) = ((i + 1 : Nat) : Int) := by rw [wrap_in (by omega) (by omega)]; omega
      have hat : (rowC (done ++ [cur]) cap)[done.length]? = some (.s cur) := rowC_at (by simp)
      have hI' : pieces [c] s = done ++ pieces [c] ((cur ++ [b]) ++ s.drop (i + 1)) ∧ c ∉ cur ++ [b] ∧ done.length + 1 ≤ cap ∧ done.length ≤ i + 1 ∧ (cur ++ [b]).length ≤ i + 1 :=
        ⟨by rw [hp, hdr]; simp, by simp [hc]; exact fun h => e h.symm, hcap, by omega, by simp; omega⟩
      refine GDraw.calm (by kernel_rfl) ?_
      conv => whnf
      refine ⟨⟨by rw [w1]; exact Int.natCast_nonneg _, rfl, by rw [w1]; show ((done.length : Nat) : Int) < ((done.length + 1 : Nat) : Int); omega⟩, ?_⟩
      conv => whnf
      refine ⟨.s cur, ⟨?_, ?_⟩⟩
      · show (rowC (done ++ [cur]) cap)[0 + (IntKind.i64.wrap (((done.length + 1 : Nat) : Int) - 1)).toNat * 1]? = _
        rw [w1, Int.toNat_natCast, Nat.mul_one, Nat.zero_add]; exact hat
      refine ⟨Int.natCast_nonneg _, ⟨by rw [w2]; exact Int.natCast_nonneg _, ⟨by rw [w2]; exact ⟨Nat.le_succ _, hlt⟩, [b], ?_, ?_⟩⟩⟩
      · rw [w2]; show [b] = List.take (i + 1 - i) (s.drop i); rw [hdr, Nat.add_sub_cancel_left]; rfl
      conv => whnf
      refine ⟨by show cur.length + 1 < 4611686018427387904; omega, cur ++ [b], rfl, ?_⟩
      conv => whnf
      refine ⟨⟨by rw [w1]; exact Int.natCast_nonneg _, rfl, by rw [w1]; show ((done.length : Nat) : Int) < ((done.length + 1 : Nat) : Int); omega⟩, ?_⟩
      conv => whnf
      refine ⟨rowC (done ++ [cur ++ [b]]) cap, ⟨?_, Nat.zero_le _, rfl, ?_⟩, ?_⟩
      · rw [w1]
        show _ = List.take (0 + done.length * 1) (rowC (done ++ [cur]) cap) ++ [GV.s (cur ++ [b])] ++ List.drop (0 + done.length * 1 + 1) (rowC (done ++ [cur]) cap)
        rw [Nat.mul_one, Nat.zero_add]; exact rowC_set _ _ hcap
      · rw [w1]
        show 0 + done.length * 1 + 1 ≤ (rowC (done ++ [cur]) cap).length
        rw [rowC_len (by simp; omega)]; omega
      conv => whnf
      refine ⟨s.length - (i + 1), by omega, (i + 1, ⟨done, cur ++ [b], cap, some o⟩), [0, 1, 2], ⟨hlt, ?_⟩, rfl, ?_, ?_, rfl, ?_⟩
      · exact hI'
      · show Lies [0, 1, 2] [.own 0 0 0, .box 9 (rowC o.1 o.2), .box 9 (rowC (done ++ [cur ++ [b]]) cap)] _
        exact Lies.mk' rfl rfl (by decide) rfl
      · intro j hj
        match j, hj with | 0, _ => rfl | 1, _ => rfl
      · intro p hp
        simp only [List.mem_cons, List.not_mem_nil, or_false] at hp
        rcases hp with rfl | rfl | rfl | rfl
        · rfl
        · rfl
        · show GV.rs _ 0 1 _ _ = GV.rs (emb [0, 1, 2] _ 2) 0 1 _ _
          rw [emb_lt (by simp)]
          rfl
        · exact wrap_succ (by omega)
theorem r_Split [MaxL] (s : By) (c : UInt8) (hs : s.length ≤ 100000000) : SC Tryz.prog 29 [.s s, .i .u8 c.toNat] [] (.val (.sl .none (txG (pieces [c] s)))) [] :=
  SC.swap (G := gS) (fun _ => rfl) (fun T => Bool.or_false _) (b_Split s c hs)
end Go.Proofs.YtcbknpdjdlgljaaGreatDoor
namespace Go.Proofs.YtcbknpdjdlgljaaGreatDoor
open Go.RowKit
set_option maxRecDepth 100000
set_option linter.unusedVariables false
theorem Wk.tup1 [MaxL] {l l' : List GV} (h : Wks l l') : Wk (.tup l) (.tup l') := fun C v hv => by
  obtain ⟨h1, h2⟩ := h.at_
  cases hv with
  | tup hs hvv =>
    refine .tup (by rw [hs, h1]) fun j g u g1 g2 => ?_
    have hj := (List.getElem?_eq_some_iff.1 g1).1
    exact h2 j _ g (List.getElem?_eq_getElem (by omega)) g1 C u (hvv j _ u (List.getElem?_eq_getElem (by omega)) g2)
theorem pc_len {c : UInt8} (s : By) : (pieces [c] s).length ≤ s.length + 1 := (pieces_len (List.cons_ne_nil _ _) s.length s (Nat.le_refl _)).1
theorem pc_mem {c : UInt8} {s x : By} (h : x ∈ pieces [c] s) : x.length ≤ s.length := (pieces_len (List.cons_ne_nil _ _) s.length s (Nat.le_refl _)).2 x h
def numsR (s : By) : List Int × Bool := if s = [] then ([], true) else if (pieces [32] s).all (fun x => (nbR x).2) then ((pieces [32] s).map (fun x => (nbR x).1), true) else ([], false)
theorem all_no {α : Type} {p : α → Bool} {l : List α} {x : α} (hx : x ∈ l) (h : p x = false) : l.all p = false := by
  cases e : l.all p with
  | false => rfl
  | true => rw [List.all_eq_true.1 e x hx] at h; cases h
theorem r_numbers [MaxL] (s : By) (hs : s.length ≤ 1048576) : SC Tryz.prog 31 [.s s] [] (.val (.tup [.sl .none (intsG (numsR s).1), .b (numsR s).2])) [] := by
  have hp := pc_len (c := 32) s
  generalize hL : pieces [32] s = L at hp
  have hm : ∀ x ∈ L, x.length ≤ 1048576 := fun x hx => Nat.le_trans (pc_mem (by rw [hL]; exact hx)) hs
  refine SC.of_gwp noM mixed Tryz.func31 rfl (Nat.le_of_ble_eq_true rfl) (by first | exact Nat.le_refl _ | simp) rfl ?_
  conv => whnf
  refine GIf.mk (fun h => ?_) (fun h => ?_) <;> conv => whnf
  · have h : s = [] := by simpa using h
    subst h
    exact fin 0 (hw := Wk.tup1 ⟨Wk.sl _ _, .refl _, trivial⟩)
  have h : s ≠ [] := by simpa using h
  refine cP (r_Split s 32 (by omega)) ?_
  rw [hL]
  conv => whnf
  refine GLoop.rng 2 L.length (fun i (o : List Int) => o = (L.take i).map (fun x => (nbR x).1) ∧ (L.take i).all (fun x => (nbR x).2) = true) (fun i o => [(4, .sl (.own 1) (intsG o)), (5, .sl .none (txG L)), (6, .i .i64 (i : Nat))]) (fun _ o => [.own 0 0 0, ow 3 1 o.length]) [] [] ⟨rfl, rfl⟩ (fun i o φ0 hi ho => ?_) (hh := fun _ _ => by simp only [List.all_cons, ow_held]; rfl)
  obtain ⟨ho, ha⟩ := ho
  have hol : o.length = i := by rw [ho, List.length_map, List.length_take]; omega
  have htl := txG_len L
  conv => whnf
  refine GIf.mk (fun h2 => ?_) (fun h2 => ?_) <;> conv => whnf
  rotate_left
  · have hi' : i = L.length := by have := of_decide_eq_false h2; omega
    rw [hi', List.take_length] at ho ha
    rw [show numsR s = (o, true) by unfold numsR; rw [if_neg h, hL, if_pos ha, ho]]
    exact fin 0 (hw := Wk.tup1 ⟨Wk.sl _ _, .refl _, trivial⟩)
  have hlt : i < L.length := by have := of_decide_eq_true h2; omega
  refine (ex_at hlt).elim fun x hx => ?_
  have hxm := List.mem_of_getElem? hx
  refine ix (map_at hx) ⟨rfl, ?_⟩
  conv => whnf
  refine cP (r_Number x (by have := hm x hxm; omega)) ?_
  conv => whnf
  refine GIf.mk (fun h3 => ?_) (fun h3 => ?_) <;> conv => whnf
  · have h3 : (nbR x).2 = false := by simpa using h3
    rw [show numsR s = ([], false) by unfold numsR; rw [if_neg h, hL, if_neg (by rw [all_no hxm h3]; simp)]]
    exact fin 0 (hw := Wk.tup1 ⟨Wk.sl _ _, .refl _, trivial⟩)
  have h3 : (nbR x).2 = true := by simpa using h3
  have htk : L.take (i + 1) = L.take i ++ [x] := by rw [List.take_add_one, hx]; rfl
  have ho' : o ++ [(nbR x).1] = (L.take (i + 1)).map (fun x => (nbR x).1) := by rw [htk, List.map_append, ← ho]; rfl
  have ha' : (L.take (i + 1)).all (fun x => (nbR x).2) = true := by rw [htk, List.all_append, ha]; simp [h3]
  cases o with
  | nil =>
    refine ap1 (f := .i .i64) (c := 1) (fun _ => rfl) [] (nbR x).1 rfl (by simp) ?_
    conv => whnf
    refine ⟨⟨Nat.zero_le _, rfl, .inr ⟨rfl, rfl⟩⟩, ?_⟩
    conv => whnf
    exact nx ([] ++ [(nbR x).1]) hlt ⟨hlt, ho', ha'⟩
  | cons z zs =>
    refine ap1 (f := .i .i64) (c := 1) (fun _ => rfl) (z :: zs) (nbR x).1 rfl (by omega) ?_
    conv => whnf
    refine ⟨⟨Nat.zero_le _, (intsG_len (z :: zs)).symm, .inl ⟨rfl, rfl⟩⟩, ?_⟩
    conv => whnf
    exact nx ((z :: zs) ++ [(nbR x).1]) hlt ⟨hlt, ho', ha'⟩
end Go.Proofs.YtcbknpdjdlgljaaGreatDoor
