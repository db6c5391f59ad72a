/-
  The text of every currencies, and what every text is read as.
-/
import Derived.Test.YtcbknpdjdlgljaaGreatDoorQ21
import Derived.Test.YtcbknpdjdlgljaaGreatDoorQ22
set_option linter.all false
namespace Go.Proofs.YtcbknpdjdlgljaaGreatDoor
open Go.RowKit
set_option maxRecDepth 100000
set_option linter.unusedVariables false
def mAll : FuncId → Bool := fun _ => true
theorem putBack_app [MaxL] {ks : List Nat} {s1 x objs : List GObj} (hn : ks.Nodup) (hl : ks.length = s1.length) (hk : ∀ k ∈ ks, k < objs.length) : putBack ks (s1 ++ x) objs = putBack ks s1 objs ++ x.map (GObj.ren (emb ks objs.length)) := by
  have hlen : (putBack ks s1 objs).length = objs.length := by rw [putBack_set hn hl hk, setAll_len]
  apply List.ext_getElem?
  intro r
  by_cases hr : r < objs.length
  · rw [List.getElem?_append_left (by rw [hlen]; exact hr), putBack_get hk (by rw [List.length_append]; omega), putBack_get hk (Nat.le_of_eq hl)]
    unfold unemb
    rw [if_pos hr]
    cases h : ks.idxOf? r with
    | none => rfl
    | some i =>
      have hi : i < s1.length := by rw [← hl]; exact (List.idxOf?_eq_some_iff.1 h).1
      show ((s1 ++ x)[i]?).map _ = (s1[i]?).map _
      rw [List.getElem?_append_left hi]
  · rw [List.getElem?_append_right (by omega), putBack_get hk (by rw [List.length_append]; omega)]
    unfold unemb
    rw [if_neg hr]
    show ((s1 ++ x)[ks.length + (r - objs.length)]?).map _ = _
    rw [hlen, hl, List.getElem?_append_right (by omega), List.getElem?_map, show s1.length + (r - objs.length) - s1.length = r - objs.length by omega]
theorem cX [MaxL] (ks : List Nat) {P : Program} {M : FuncId → Bool} {k : FuncId} {args a a' : List GV} {s t s' t' x x' : List GObj} {r r' : GRes} {σ : GS} {K : GRes → GS → Prop} (h : SC P k a s r (s' ++ x))
    [i1 : RL (emb ks σ.objs.length) a a'] [i2 : RH (emb ks σ.objs.length) s t] [i3 : RH (emb ks σ.objs.length) s' t'] [i5 : RH (emb ks σ.objs.length) x x'] [i4 : RR (emb ks σ.objs.length) r r']
    (hk : K r' ⟨setAll ks t' σ.objs ++ x', σ.lo, σ.ds⟩) (hw : Wks args a' := by first | exact Wks.refl _ | exact Wks.cons (Wk.sl _ _) (Wks.refl _) | exact Wks.cons (Wk.sl _ _) (Wks.cons (Wk.sl _ _) (Wks.refl _)) | exact Wks.cons (Wk.refl _) (Wks.cons (Wk.sl _ _) (Wks.refl _))) (ho : ks.map (fun q => σ.objs[q]?) = t.map some := by rfl) (hl : ks.length = s.length := by rfl) (hl' : ks.length = s'.length := by rfl) (hn : ks.Nodup := by decide)
    (hh : s.all GObj.notHeld = true := by rfl) (hlo : σ.lo = 0 := by rfl) (hM : M k = false := by rfl) (hD : dynM M = false := by rfl) : gcallK P M (.fn k) args σ K := by
  have hL : Lies ks s σ.objs := Lies.mk' ho hl hn hh
  have hf := h.fact (σ := σ) (args' := args) ks hL hlo (by rw [i1.h]; exact hw)
  rw [putBack_app hn hl' (fun k hk => hL.lt k hk), putBack_set hn hl' (fun k hk => hL.lt k hk), i3.h, i5.h, i4.h] at hf
  exact ⟨r', _, hf, (noPure hM hD), hk⟩
theorem cut_len (s p : By) : (Lib.cut s p).1.length ≤ s.length ∧ (Lib.cut s p).2.1.length ≤ s.length := by
  rcases cut_cases s p with ⟨a, b, e, h, _⟩ | ⟨h, _⟩
  · rw [h]
    have := congrArg List.length e
    simp only [List.length_append] at this
    exact ⟨by show a.length ≤ _; omega, by show b.length ≤ _; omega⟩
  · rw [h]; simp
def mkS (w : By) (L : List Int) : Sp :=
  let l := L ++ [0, 0, 0]
  if w = [111] then ⟨1, l.getD 0 0, 0, 0, 0⟩ else if w = [109] then ⟨2, l.getD 0 0, l.getD 1 0, 0, 0⟩
  else if w = [103] then ⟨3, l.getD 0 0, 0, l.getD 1 0, l.getD 2 0⟩ else sp0
def lenS (x : By) : Sp := mkS (Lib.cut x [58]).1 (lenL 58 (Lib.cut x [58]).2.1)
theorem mkS_1 {w : By} {L : List Int} (h : w = [111]) : mkS w L = ⟨1, (L ++ [0, 0, 0]).getD 0 0, 0, 0, 0⟩ := if_pos h
theorem mkS_2 {w : By} {L : List Int} (h : w = [109]) : mkS w L = ⟨2, (L ++ [0, 0, 0]).getD 0 0, (L ++ [0, 0, 0]).getD 1 0, 0, 0⟩ := by subst h; rfl
theorem mkS_3 {w : By} {L : List Int} (h : w = [103]) : mkS w L = ⟨3, (L ++ [0, 0, 0]).getD 0 0, 0, (L ++ [0, 0, 0]).getD 1 0, (L ++ [0, 0, 0]).getD 2 0⟩ := by subst h; rfl
theorem mkS_0 {w : By} {L : List Int} (h1 : ¬ w = [111]) (h2 : ¬ w = [109]) (h3 : ¬ w = [103]) : mkS w L = sp0 := by unfold mkS; dsimp only; rw [if_neg h1, if_neg h2, if_neg h3]
theorem mk_at (L : List Int) {i : Nat} (h : i < 3) : (L ++ [0, 0, 0])[i]? = some ((L ++ [0, 0, 0]).getD i 0) := by
  have : i < (L ++ [0, 0, 0]).length := by simp; omega
  rw [List.getD_eq_getElem?_getD, List.getElem?_eq_getElem this]; rfl
def lenSs (c : By) : List Sp := if c = [] then [] else (pieces [32] c).map lenS
def lenN (s : By) : Nw :=
  match pieces [124] s with
  | [a, b, c, d] => ⟨attN a, lenL 32 b, lenSs c, lenL 32 d⟩
  | _ => nw0
def parseK (s : By) : Nw × Int := if 20000 < s.length then (nw0, 3) else if (pieces [124] s).length = 4 then (if fmtN (lenN s) = s then (lenN s, 0) else (nw0, 2)) else (nw0, 2)
theorem lenL_in {c : UInt8} {s : By} {x : Int} (h : x ∈ lenL c s) : inR x := by
  unfold lenL at h
  split at h
  · cases h
  · obtain ⟨y, _, rfl⟩ := List.mem_map.1 h; exact attN_in y
theorem lenL_len {c : UInt8} (s : By) : (lenL c s).length ≤ s.length + 1 := by
  unfold lenL
  split
  · simp
  · rw [List.length_map]; exact (pieces_len (List.cons_ne_nil _ _) s.length s (Nat.le_refl _)).1
theorem getD_in {l : List Int} (h : ∀ x ∈ l, inR x) (i : Nat) : inR (l.getD i 0) := by
  rw [List.getD_eq_getElem?_getD]
  cases e : l[i]? with
  | none => exact ⟨by decide, by decide⟩
  | some x => exact h x (List.mem_of_getElem? e)
theorem lenS_ok (x : By) : (lenS x).ok := by
  have h : ∀ y ∈ lenL 58 (Lib.cut x [58]).2.1 ++ [0, 0, 0], inR y := fun y hy => by
    rcases List.mem_append.1 hy with hy | hy
    · exact lenL_in hy
    · simp at hy; subst hy; exact ⟨by decide, by decide⟩
  have z : inR 0 := ⟨by decide, by decide⟩
  unfold lenS mkS
  dsimp only
  split
  · exact ⟨show inR 1 from ⟨by decide, by decide⟩, getD_in h 0, z, z, z⟩
  split
  · exact ⟨show inR 2 from ⟨by decide, by decide⟩, getD_in h 0, getD_in h 1, z, z⟩
  split
  · exact ⟨show inR 3 from ⟨by decide, by decide⟩, getD_in h 0, z, getD_in h 1, getD_in h 2⟩
  · exact ⟨z, z, z, z, z⟩
theorem lenSs_ok {c : By} {p : Sp} (h : p ∈ lenSs c) : p.ok := by
  unfold lenSs at h
  split at h
  · cases h
  · obtain ⟨y, _, rfl⟩ := List.mem_map.1 h; exact lenS_ok y
theorem lenSs_len (c : By) : (lenSs c).length ≤ c.length + 1 := by
  unfold lenSs
  split
  · simp
  · rw [List.length_map]; exact (pieces_len (List.cons_ne_nil _ _) c.length c (Nat.le_refl _)).1
theorem lenN_ok {a b c d : By} (hb : b.length ≤ 20000) (hc : c.length ≤ 20000) (hd : d.length ≤ 20000) : (⟨attN a, lenL 32 b, lenSs c, lenL 32 d⟩ : Nw).ok :=
  ⟨attN_in a, fun x hx => lenL_in hx, fun p hp => lenSs_ok hp, fun x hx => lenL_in hx, by have := lenL_len (c := 32) b; show (lenL 32 b).length ≤ _; omega, by have := lenSs_len c; show (lenSs c).length ≤ _; omega, by have := lenL_len (c := 32) d; show (lenL 32 d).length ≤ _; omega⟩
def nwS : List By → GV
  | [] => .sl .full []
  | x :: l => .sl (.own 11) (spsG ((x :: l).map lenS))
def nwT : List By → List GObj
  | [] => []
  | x :: l => [.own ((lenL 58 (Lib.cut x [58]).2.1).length + 3) 1 3, .own 3 1 3, .box 67 (spG (lenS x)).cells, .own 1 5 67, .own (l.length + 1) 5 67]
theorem spsG_cl [MaxL] (l : List Sp) : ClL (spsG l) := (show KL (spsG l) from inferInstance).h
set_option maxHeartbeats 16000000 in
theorem k_Parse [MaxL] (s : By) : SC Tryz.prog 7 [.s s] [] (.val (.tup [nowG (parseK s).1, .i .i64 (parseK s).2])) [] := by
  by_cases hs : 20000 < s.length
  · rw [show parseK s = (nw0, 3) by unfold parseK; rw [if_pos hs]]
    refine SC.of_gwp noM mixed Tryz.func7 rfl (Nat.le_of_ble_eq_true rfl) (by first | exact Nat.le_refl _ | simp) rfl ?_
    conv => whnf
    refine gY (decide_eq_true (by omega)) ?_
    conv => whnf
    refine ⟨_, ⟨rfl, Nat.zero_le _, rfl, Nat.le_of_ble_eq_true rfl⟩, ?_⟩
    conv => whnf
    exact fin 0 (hw := wkNow nw0 _ _ _ _)
  have hp := pc_len (c := 124) s
  have hm : ∀ x ∈ pieces [124] s, x.length ≤ 20000 := fun x hx => Nat.le_trans (pc_mem hx) (by omega)
  have hwl := txG_len (pieces [124] s)
  by_cases h4 : (pieces [124] s).length = 4
  rotate_left
  · rw [show parseK s = (nw0, 2) by unfold parseK; rw [if_neg hs, if_neg h4]]
    refine SC.of_gwp noM mixed Tryz.func7 rfl (Nat.le_of_ble_eq_true rfl) (by first | exact Nat.le_refl _ | simp) rfl ?_
    conv => whnf
    refine gN (decide_eq_false (by omega)) ?_
    conv => whnf
    refine cP (c_SplitP s 124 (by omega)) ?_
    conv => whnf
    rw [show ((((txG (pieces [124] s)).length : Nat) : Int) != 4) = true by rw [bne_iff_ne]; omega]
    conv => whnf
    refine ⟨_, ⟨rfl, Nat.zero_le _, rfl, Nat.le_of_ble_eq_true rfl⟩, ?_⟩
    conv => whnf
    exact fin 0 (hw := wkNow nw0 _ _ _ _)
  have hpk : parseK s = if fmtN (lenN s) = s then (lenN s, 0) else (nw0, 2) := by unfold parseK; rw [if_neg hs, if_pos h4]
  rw [hpk]
  clear hpk hwl
  obtain ⟨a, b, c, d, hL⟩ := len4 h4
  rw [show lenN s = ⟨attN a, lenL 32 b, lenSs c, lenL 32 d⟩ by unfold lenN; rw [hL]]
  rw [hL] at hm
  have ha := hm a (by simp)
  have hb := hm b (by simp)
  have hc := hm c (by simp)
  have hd := hm d (by simp)
  have hok := lenN_ok (a := a) hb hc hd
  have na := c_AtoiX a (by omega)
  have nb := k_list b 32 hb
  have nd := k_list d 32 hd
  refine SC.of_gwp noM mixed Tryz.func7 rfl (Nat.le_of_ble_eq_true rfl) (by first | exact Nat.le_refl _ | simp) rfl ?_
  conv => whnf
  refine gN (decide_eq_false (by omega)) ?_
  conv => whnf
  refine cP (c_SplitP s 124 (by omega)) ?_
  rw [hL]
  conv => whnf
  first
  | refine GDraw.at mAll (GDraw.wildT [none, none, none, none, none, none, none, none, none, some 1, some 1] rfl rfl (by kernel_rfl) ?_)
  | refine GDraw.at mAll (GDraw.wildT [none, none, none, none, none, none, none, none, none, none, some 1] rfl rfl (by kernel_rfl) ?_)
  conv => whnf
  refine ⟨by decide, .s b, rfl, rfl, ?_⟩
  conv => whnf
  refine cP nb ?_
  conv => whnf
  refine ⟨by decide, .s d, rfl, rfl, ?_⟩
  conv => whnf
  refine cP nd ?_
  conv => whnf
  refine ⟨_, ⟨rfl, Nat.zero_le _, rfl, Nat.le_of_ble_eq_true rfl⟩, ?_⟩
  conv => whnf
  refine ⟨by decide, .s a, rfl, rfl, ?_⟩
  conv => whnf
  refine cP na ?_
  conv => whnf
  refine ⟨_, ⟨rfl, Nat.zero_le _, rfl, Nat.le_of_ble_eq_true rfl⟩, ?_⟩
  conv => whnf
  refine ⟨by decide, .s c, rfl, rfl, ?_⟩
  conv => whnf
  by_cases hc0 : c = []
  · rw [show (c == (⟨#[]⟩ : ByteArray).data.toList) = true by subst hc0; rfl]
    rw [show lenSs c = [] by unfold lenSs; rw [if_pos hc0]] at hok ⊢
    conv => whnf
    refine cP (k_Format ⟨attN a, lenL 32 b, [], lenL 32 d⟩ hok) ?_ (Wks.cons (Wks.agg ⟨.refl _, Wk.sl _ _, Wk.sl _ _, Wk.sl _ _, trivial⟩) trivial)
    conv => whnf
    by_cases hf : fmtN ⟨attN a, lenL 32 b, [], lenL 32 d⟩ = s
    · rw [if_pos hf]
      rw [show (fmtN ⟨attN a, lenL 32 b, [], lenL 32 d⟩ == s) = true from beq_iff_eq.2 hf]
      conv => whnf
      refine ⟨_, ⟨rfl, Nat.zero_le _, rfl, Nat.le_of_ble_eq_true rfl⟩, ?_⟩
      conv => whnf
      exact fin 0 (hw := wkNow ⟨attN a, lenL 32 b, [], lenL 32 d⟩ _ _ _ _)
    rw [if_neg hf]
    rw [show (fmtN ⟨attN a, lenL 32 b, [], lenL 32 d⟩ == s) = false from beq_eq_false_iff_ne.2 hf]
    conv => whnf
    refine ⟨_, ⟨rfl, Nat.zero_le _, rfl, Nat.le_of_ble_eq_true rfl⟩, ?_⟩
    conv => whnf
    exact fin 0 (hw := wkNow nw0 _ _ _ _)
  rw [show (c == (⟨#[]⟩ : ByteArray).data.toList) = false by simpa using hc0]
  have hpn := pieces_ne [32] c (List.cons_ne_nil _ _)
  have hpl := pc_len (c := 32) c
  have fs := c_SplitSeq c [32]
  rw [show lenSs c = (pieces [32] c).map lenS by unfold lenSs; rw [if_neg hc0]] at hok ⊢
  cases hpe : pieces [32] c with
  | nil => exact absurd hpe hpn
  | cons p0 pl =>
  rw [hpe] at hok
  obtain ⟨lst, hlst⟩ : ∃ lst, lst = (p0 :: pl).getLastD [] := ⟨_, rfl⟩
  have heq : ∀ L : GObj, sqK (fun _ => .box 25 [.i .i64 0, .sl .full [], .sl .full [], .sl .full []]) (fun dn => .box 25 [.i .i64 (attN a), .sl .none (intsG (lenL 32 b)), nwS dn, .sl .none (intsG (lenL 32 d))]) nwT L [32] (pieces [32] c) ((pieces [32] c).getLastD []) = [.box 25 [.i .i64 0, .sl .full [], .sl .full [], .sl .full []], .box 25 [.i .i64 (attN a), .sl .none (intsG (lenL 32 b)), .sl (.own 11) (spsG ((p0 :: pl).map lenS)), .sl .none (intsG (lenL 32 d))], .box 9 [.s lst], .box 9 [.s [32]], .box 3 [.i .i64 0], .dfr, L, .own ((lenL 58 (Lib.cut p0 [58]).2.1).length + 3) 1 3, .own 3 1 3, .box 67 (spG (lenS p0)).cells, .own 1 5 67, .own (pl.length + 1) 5 67] := fun L => by
    rw [hpe, hlst]; rfl
  conv => whnf
  refine ⟨by decide, .s c, rfl, rfl, ?_⟩
  conv => whnf
  refine callG fs [] (objs' := [.box 25 [.i .i64 0, .sl .full [], .sl .full [], .sl .full []], .box 25 [.i .i64 (attN a), .sl .none (intsG (lenL 32 b)), .sl .full [], .sl .none (intsG (lenL 32 d))], .box 9 [.s c], .box 9 [.s [32]], .box 3 [.i .i64 0]]) Lies.nil (Wks.refl _) rfl rfl rfl rfl ?_
  conv => whnf
  refine ⟨.val (.tup []), ⟨[.box 25 [.i .i64 0, .sl .full [], .sl .full [], .sl .full []], .box 25 [.i .i64 (attN a), .sl .none (intsG (lenL 32 b)), .sl (.own 11) (spsG ((p0 :: pl).map lenS)), .sl .none (intsG (lenL 32 d))], .box 9 [.s lst], .box 9 [.s [32]], .box 3 [.i .i64 0], .dfr, (.loop .ready none _ _ _ _ _ 5), .own ((lenL 58 (Lib.cut p0 [58]).2.1).length + 3) 1 3, .own 3 1 3, .box 67 (spG (lenS p0)).cells, .own 1 5 67, .own (pl.length + 1) 5 67], 0, [.coll 5]⟩, SC.factAll (SC.castS (c_split2 (fun _ => .box 25 [.i .i64 0, .sl .full [], .sl .full [], .sl .full []]) (fun dn => .box 25 [.i .i64 (attN a), .sl .none (intsG (lenL 32 b)), nwS dn, .sl .none (intsG (lenL 32 d))]) nwT (.loop .ready none _ _ _ _ _ 5) [32] c (by simp) (by simp) (by omega) rfl ?hh0 ?hb) (heq _)) rfl rfl ?hh, ?_⟩
  case hh0 =>
    intro done rest
    cases done <;> simp only [sqK, nwT, List.all_cons] <;> rfl
  case hh =>
    intro x hx e
    subst e
    have h1 := List.all_eq_true.1 (show List.all _ GObj.notHeld = true by simp only [sqK, nwT, List.all_cons]; rfl) _ hx
    cases h1
  case hb =>
    intro done rest x hd hx
    have fx := c_Cut x [58] (by omega)
    have qx := cut_len x [58]
    have fl := k_listO (Lib.cut x [58]).2.1 58 (by omega)
    have hll : (lenL 58 (Lib.cut x [58]).2.1).length ≤ 30000 := by have := lenL_len (c := 58) (Lib.cut x [58]).2.1; omega
    have hall : (intsG (lenL 58 (Lib.cut x [58]).2.1)).all (fun x => x.cells.length == 1) = true := by
      rw [List.all_eq_true]
      intro q hq
      obtain ⟨r, _, rfl⟩ := List.mem_map.1 hq
      rfl
    have hT : nwT ([] ++ [x]) = [.own ((lenL 58 (Lib.cut x [58]).2.1).length + 3) 1 3, .own 3 1 3, .box 67 (spG (mkS (Lib.cut x [58]).1 (lenL 58 (Lib.cut x [58]).2.1))).cells, .own 1 5 67, .own 1 5 67] := rfl
    have hX0 : lenS x = mkS (Lib.cut x [58]).1 (lenL 58 (Lib.cut x [58]).2.1) := rfl
    have hU : nwS ([] ++ [x]) = .sl (.own 11) (spsG [mkS (Lib.cut x [58]).1 (lenL 58 (Lib.cut x [58]).2.1)]) := rfl
    generalize lenL 58 (Lib.cut x [58]).2.1 = Lst at *
    generalize Lib.cut x [58] = cx at *
    obtain ⟨W, R, Bo⟩ := cx
    dsimp only at fx fl hT hU
    have hX0 : lenS x = mkS W Lst := hX0
    clear hok heq hlst hpe
    unfold sqK
    dsimp only
    rcases done with _ | ⟨y, ys⟩
    · rcases Lst with _ | ⟨z, l⟩
      · by_cases w1 : W = [111]
        · subst w1
          have hX : mkS [111] ([] : List Int) = ⟨1, 0, 0, 0, 0⟩ := mkS_1 rfl
          rw [hX] at hT hU
          rw [hT, hU]
          clear hT hU hX
          refine Fact.yld noM mixed (r := 6) rfl rfl (by kernel_rfl) rfl (by simp only [List.all_cons]; rfl) (by simp [nwT]) rfl rfl ?_
          conv => whnf
          refine callP fx (Wks.refl _) rfl (fun _ => rfl) (fun _ => rfl) ?_
          conv => whnf
          refine cX [] (s' := []) (x := [ow 3 1 0]) fl ?_
          conv => whnf
          refine ⟨⟨rfl, rfl, Nat.le_of_ble_eq_true rfl⟩, intsG [0, 0, 0], 3, ⟨rfl, rfl⟩, ?_⟩
          conv => whnf
          refine ⟨⟨Nat.zero_le _, rfl, .inr ⟨rfl, rfl⟩⟩, ?_⟩
          conv => whnf
          refine ⟨by decide, .i .i64 0, rfl, rfl, ?_⟩
          conv => whnf
          refine ⟨_, ⟨rfl, Nat.zero_le _, rfl, Nat.le_of_ble_eq_true rfl⟩, ?_⟩
          conv => whnf
          refine ap1 (f := spG) (c := 5) (fun _ => rfl) [] (⟨1, 0, 0, 0, 0⟩ : Sp) rfl (by simp) ?_
          conv => whnf
          refine ⟨_, ⟨rfl, Nat.zero_le _, rfl, Nat.le_of_ble_eq_true rfl⟩, ?_⟩
          conv => whnf
          rfl
        by_cases w2 : W = [109]
        · subst w2
          have hX : mkS [109] ([] : List Int) = ⟨2, 0, 0, 0, 0⟩ := mkS_2 rfl
          rw [hX] at hT hU
          rw [hT, hU]
          clear hT hU hX
          refine Fact.yld noM mixed (r := 6) rfl rfl (by kernel_rfl) rfl (by simp only [List.all_cons]; rfl) (by simp [nwT]) rfl rfl ?_
          conv => whnf
          refine callP fx (Wks.refl _) rfl (fun _ => rfl) (fun _ => rfl) ?_
          conv => whnf
          refine cX [] (s' := []) (x := [ow 3 1 0]) fl ?_
          conv => whnf
          refine ⟨⟨rfl, rfl, Nat.le_of_ble_eq_true rfl⟩, intsG [0, 0, 0], 3, ⟨rfl, rfl⟩, ?_⟩
          conv => whnf
          refine ⟨⟨Nat.zero_le _, rfl, .inr ⟨rfl, rfl⟩⟩, ?_⟩
          conv => whnf
          refine GDraw.calm (by kernel_rfl) ?_
          conv => whnf
          refine ⟨by decide, .i .i64 0, rfl, rfl, ?_⟩
          conv => whnf
          refine ⟨by decide, .i .i64 0, rfl, rfl, ?_⟩
          conv => whnf
          refine ⟨_, ⟨rfl, Nat.zero_le _, rfl, Nat.le_of_ble_eq_true rfl⟩, ?_⟩
          conv => whnf
          refine ap1 (f := spG) (c := 5) (fun _ => rfl) [] (⟨2, 0, 0, 0, 0⟩ : Sp) rfl (by simp) ?_
          conv => whnf
          refine ⟨_, ⟨rfl, Nat.zero_le _, rfl, Nat.le_of_ble_eq_true rfl⟩, ?_⟩
          conv => whnf
          rfl
        by_cases w3 : W = [103]
        · subst w3
          have hX : mkS [103] ([] : List Int) = ⟨3, 0, 0, 0, 0⟩ := mkS_3 rfl
          rw [hX] at hT hU
          rw [hT, hU]
          clear hT hU hX
          refine Fact.yld noM mixed (r := 6) rfl rfl (by kernel_rfl) rfl (by simp only [List.all_cons]; rfl) (by simp [nwT]) rfl rfl ?_
          conv => whnf
          refine callP fx (Wks.refl _) rfl (fun _ => rfl) (fun _ => rfl) ?_
          conv => whnf
          refine cX [] (s' := []) (x := [ow 3 1 0]) fl ?_
          conv => whnf
          refine ⟨⟨rfl, rfl, Nat.le_of_ble_eq_true rfl⟩, intsG [0, 0, 0], 3, ⟨rfl, rfl⟩, ?_⟩
          conv => whnf
          refine ⟨⟨Nat.zero_le _, rfl, .inr ⟨rfl, rfl⟩⟩, ?_⟩
          conv => whnf
          refine GDraw.calm (by kernel_rfl) ?_
          conv => whnf
          refine ⟨by decide, .i .i64 0, rfl, rfl, ?_⟩
          conv => whnf
          refine ⟨by decide, .i .i64 0, rfl, rfl, ?_⟩
          conv => whnf
          refine ⟨by decide, .i .i64 0, rfl, rfl, ?_⟩
          conv => whnf
          refine ⟨_, ⟨rfl, Nat.zero_le _, rfl, Nat.le_of_ble_eq_true rfl⟩, ?_⟩
          conv => whnf
          refine ap1 (f := spG) (c := 5) (fun _ => rfl) [] (⟨3, 0, 0, 0, 0⟩ : Sp) rfl (by simp) ?_
          conv => whnf
          refine ⟨_, ⟨rfl, Nat.zero_le _, rfl, Nat.le_of_ble_eq_true rfl⟩, ?_⟩
          conv => whnf
          rfl
        have hX : mkS W ([] : List Int) = sp0 := mkS_0 w1 w2 w3
        rw [hX] at hT hU
        rw [hT, hU]
        clear hT hU hX
        refine Fact.yld noM mixed (r := 6) rfl rfl (by kernel_rfl) rfl (by simp only [List.all_cons]; rfl) (by simp [nwT]) rfl rfl ?_
        conv => whnf
        refine callP fx (Wks.refl _) rfl (fun _ => rfl) (fun _ => rfl) ?_
        conv => whnf
        refine cX [] (s' := []) (x := [ow 3 1 0]) fl ?_
        conv => whnf
        refine ⟨⟨rfl, rfl, Nat.le_of_ble_eq_true rfl⟩, intsG [0, 0, 0], 3, ⟨rfl, rfl⟩, ?_⟩
        conv => whnf
        refine ⟨⟨Nat.zero_le _, rfl, .inr ⟨rfl, rfl⟩⟩, ?_⟩
        conv => whnf
        refine gN (by simpa using w1) ?_
        conv => whnf
        refine gN (by simpa using w2) ?_
        conv => whnf
        refine gN (by simpa using w3) ?_
        conv => whnf
        refine ap1 (f := spG) (c := 5) (fun _ => rfl) [] (sp0 : Sp) rfl (by simp) ?_
        conv => whnf
        refine ⟨_, ⟨rfl, Nat.zero_le _, rfl, Nat.le_of_ble_eq_true rfl⟩, ?_⟩
        conv => whnf
        rfl
      · by_cases w1 : W = [111]
        · subst w1
          obtain ⟨v0, hv0, g0⟩ : ∃ v, v = ((z :: l) ++ [0, 0, 0]).getD 0 0 ∧ (intsG ((z :: l) ++ [0, 0, 0]))[0]? = some (.i .i64 v) := ⟨_, rfl, map_at (f := GV.i .i64) (mk_at (z :: l) (by decide))⟩
          have hX : mkS [111] (z :: l) = ⟨1, v0, 0, 0, 0⟩ := by rw [mkS_1 rfl, ← hv0]
          rw [hX] at hT hU
          rw [hT, hU]
          clear hT hU hX
          refine Fact.yld noM mixed (r := 6) rfl rfl (by kernel_rfl) rfl (by simp only [List.all_cons]; rfl) (by simp [nwT]) rfl rfl ?_
          conv => whnf
          refine callP fx (Wks.refl _) rfl (fun _ => rfl) (fun _ => rfl) ?_
          conv => whnf
          refine cX [] (s' := []) (x := [ow 3 1 (l.length + 1)]) fl ?_
          conv => whnf
          refine ⟨⟨rfl, hall, by show (intsG (z :: l)).length + 3 ≤ 4294967296; rw [intsG_len]; simp only [List.length_cons] at hll ⊢; omega⟩, intsG ((z :: l) ++ [0, 0, 0]), l.length + 1 + 3, ⟨by unfold intsG; rw [List.map_append]; rfl, by show _ = (intsG (z :: l)).length + 3; rw [intsG_len]; rfl⟩, ?_⟩
          conv => whnf
          refine ⟨⟨Nat.zero_le _, by show _ = (intsG (z :: l)).length; rw [intsG_len]; rfl, .inl ⟨rfl, rfl⟩⟩, ?_⟩
          conv => whnf
          refine ⟨by decide, .i .i64 v0, g0, rfl, ?_⟩
          conv => whnf
          refine ⟨_, ⟨rfl, Nat.zero_le _, rfl, Nat.le_of_ble_eq_true rfl⟩, ?_⟩
          conv => whnf
          refine ap1 (f := spG) (c := 5) (fun _ => rfl) [] (⟨1, v0, 0, 0, 0⟩ : Sp) rfl (by simp) ?_
          conv => whnf
          refine ⟨_, ⟨rfl, Nat.zero_le _, rfl, Nat.le_of_ble_eq_true rfl⟩, ?_⟩
          conv => whnf
          rfl
        by_cases w2 : W = [109]
        · subst w2
          obtain ⟨v0, hv0, g0⟩ : ∃ v, v = ((z :: l) ++ [0, 0, 0]).getD 0 0 ∧ (intsG ((z :: l) ++ [0, 0, 0]))[0]? = some (.i .i64 v) := ⟨_, rfl, map_at (f := GV.i .i64) (mk_at (z :: l) (by decide))⟩
          obtain ⟨v1, hv1, g1⟩ : ∃ v, v = ((z :: l) ++ [0, 0, 0]).getD 1 0 ∧ (intsG ((z :: l) ++ [0, 0, 0]))[1]? = some (.i .i64 v) := ⟨_, rfl, map_at (f := GV.i .i64) (mk_at (z :: l) (by decide))⟩
          have hX : mkS [109] (z :: l) = ⟨2, v0, v1, 0, 0⟩ := by rw [mkS_2 rfl, ← hv0, ← hv1]
          rw [hX] at hT hU
          rw [hT, hU]
          clear hT hU hX
          refine Fact.yld noM mixed (r := 6) rfl rfl (by kernel_rfl) rfl (by simp only [List.all_cons]; rfl) (by simp [nwT]) rfl rfl ?_
          conv => whnf
          refine callP fx (Wks.refl _) rfl (fun _ => rfl) (fun _ => rfl) ?_
          conv => whnf
          refine cX [] (s' := []) (x := [ow 3 1 (l.length + 1)]) fl ?_
          conv => whnf
          refine ⟨⟨rfl, hall, by show (intsG (z :: l)).length + 3 ≤ 4294967296; rw [intsG_len]; simp only [List.length_cons] at hll ⊢; omega⟩, intsG ((z :: l) ++ [0, 0, 0]), l.length + 1 + 3, ⟨by unfold intsG; rw [List.map_append]; rfl, by show _ = (intsG (z :: l)).length + 3; rw [intsG_len]; rfl⟩, ?_⟩
          conv => whnf
          refine ⟨⟨Nat.zero_le _, by show _ = (intsG (z :: l)).length; rw [intsG_len]; rfl, .inl ⟨rfl, rfl⟩⟩, ?_⟩
          conv => whnf
          refine GDraw.calm (by kernel_rfl) ?_
          conv => whnf
          refine ⟨by decide, .i .i64 v0, g0, rfl, ?_⟩
          conv => whnf
          refine ⟨by decide, .i .i64 v1, g1, rfl, ?_⟩
          conv => whnf
          refine ⟨_, ⟨rfl, Nat.zero_le _, rfl, Nat.le_of_ble_eq_true rfl⟩, ?_⟩
          conv => whnf
          refine ap1 (f := spG) (c := 5) (fun _ => rfl) [] (⟨2, v0, v1, 0, 0⟩ : Sp) rfl (by simp) ?_
          conv => whnf
          refine ⟨_, ⟨rfl, Nat.zero_le _, rfl, Nat.le_of_ble_eq_true rfl⟩, ?_⟩
          conv => whnf
          rfl
        by_cases w3 : W = [103]
        · subst w3
          obtain ⟨v0, hv0, g0⟩ : ∃ v, v = ((z :: l) ++ [0, 0, 0]).getD 0 0 ∧ (intsG ((z :: l) ++ [0, 0, 0]))[0]? = some (.i .i64 v) := ⟨_, rfl, map_at (f := GV.i .i64) (mk_at (z :: l) (by decide))⟩
          obtain ⟨v1, hv1, g1⟩ : ∃ v, v = ((z :: l) ++ [0, 0, 0]).getD 1 0 ∧ (intsG ((z :: l) ++ [0, 0, 0]))[1]? = some (.i .i64 v) := ⟨_, rfl, map_at (f := GV.i .i64) (mk_at (z :: l) (by decide))⟩
          obtain ⟨v2, hv2, g2⟩ : ∃ v, v = ((z :: l) ++ [0, 0, 0]).getD 2 0 ∧ (intsG ((z :: l) ++ [0, 0, 0]))[2]? = some (.i .i64 v) := ⟨_, rfl, map_at (f := GV.i .i64) (mk_at (z :: l) (by decide))⟩
          have hX : mkS [103] (z :: l) = ⟨3, v0, 0, v1, v2⟩ := by rw [mkS_3 rfl, ← hv0, ← hv1, ← hv2]
          rw [hX] at hT hU
          rw [hT, hU]
          clear hT hU hX
          refine Fact.yld noM mixed (r := 6) rfl rfl (by kernel_rfl) rfl (by simp only [List.all_cons]; rfl) (by simp [nwT]) rfl rfl ?_
          conv => whnf
          refine callP fx (Wks.refl _) rfl (fun _ => rfl) (fun _ => rfl) ?_
          conv => whnf
          refine cX [] (s' := []) (x := [ow 3 1 (l.length + 1)]) fl ?_
          conv => whnf
          refine ⟨⟨rfl, hall, by show (intsG (z :: l)).length + 3 ≤ 4294967296; rw [intsG_len]; simp only [List.length_cons] at hll ⊢; omega⟩, intsG ((z :: l) ++ [0, 0, 0]), l.length + 1 + 3, ⟨by unfold intsG; rw [List.map_append]; rfl, by show _ = (intsG (z :: l)).length + 3; rw [intsG_len]; rfl⟩, ?_⟩
          conv => whnf
          refine ⟨⟨Nat.zero_le _, by show _ = (intsG (z :: l)).length; rw [intsG_len]; rfl, .inl ⟨rfl, rfl⟩⟩, ?_⟩
          conv => whnf
          refine GDraw.calm (by kernel_rfl) ?_
          conv => whnf
          refine ⟨by decide, .i .i64 v0, g0, rfl, ?_⟩
          conv => whnf
          refine ⟨by decide, .i .i64 v1, g1, rfl, ?_⟩
          conv => whnf
          refine ⟨by decide, .i .i64 v2, g2, rfl, ?_⟩
          conv => whnf
          refine ⟨_, ⟨rfl, Nat.zero_le _, rfl, Nat.le_of_ble_eq_true rfl⟩, ?_⟩
          conv => whnf
          refine ap1 (f := spG) (c := 5) (fun _ => rfl) [] (⟨3, v0, 0, v1, v2⟩ : Sp) rfl (by simp) ?_
          conv => whnf
          refine ⟨_, ⟨rfl, Nat.zero_le _, rfl, Nat.le_of_ble_eq_true rfl⟩, ?_⟩
          conv => whnf
          rfl
        have hX : mkS W (z :: l) = sp0 := mkS_0 w1 w2 w3
        rw [hX] at hT hU
        rw [hT, hU]
        clear hT hU hX
        refine Fact.yld noM mixed (r := 6) rfl rfl (by kernel_rfl) rfl (by simp only [List.all_cons]; rfl) (by simp [nwT]) rfl rfl ?_
        conv => whnf
        refine callP fx (Wks.refl _) rfl (fun _ => rfl) (fun _ => rfl) ?_
        conv => whnf
        refine cX [] (s' := []) (x := [ow 3 1 (l.length + 1)]) fl ?_
        conv => whnf
        refine ⟨⟨rfl, hall, by show (intsG (z :: l)).length + 3 ≤ 4294967296; rw [intsG_len]; simp only [List.length_cons] at hll ⊢; omega⟩, intsG ((z :: l) ++ [0, 0, 0]), l.length + 1 + 3, ⟨by unfold intsG; rw [List.map_append]; rfl, by show _ = (intsG (z :: l)).length + 3; rw [intsG_len]; rfl⟩, ?_⟩
        conv => whnf
        refine ⟨⟨Nat.zero_le _, by show _ = (intsG (z :: l)).length; rw [intsG_len]; rfl, .inl ⟨rfl, rfl⟩⟩, ?_⟩
        conv => whnf
        refine gN (by simpa using w1) ?_
        conv => whnf
        refine gN (by simpa using w2) ?_
        conv => whnf
        refine gN (by simpa using w3) ?_
        conv => whnf
        refine ap1 (f := spG) (c := 5) (fun _ => rfl) [] (sp0 : Sp) rfl (by simp) ?_
        conv => whnf
        refine ⟨_, ⟨rfl, Nat.zero_le _, rfl, Nat.le_of_ble_eq_true rfl⟩, ?_⟩
        conv => whnf
        rfl
    · clear hT hU
      have hU1 : nwS (y :: ys) = .sl (.own 11) (spsG ((y :: ys).map lenS)) := rfl
      have hU2 : nwS ((y :: ys) ++ [x]) = .sl (.own 11) (spsG ((y :: ys).map lenS ++ [mkS W Lst])) := by
        rw [← hX0, ← List.map_singleton, ← List.map_append]; rfl
      have hSS : ((y :: ys).map lenS).length = ys.length + 1 := by rw [List.length_map]; rfl
      have hT1 : nwT (y :: ys) = [.own ((lenL 58 (Lib.cut y [58]).2.1).length + 3) 1 3, .own 3 1 3, .box 67 (spG (lenS y)).cells, .own 1 5 67, .own (ys.length + 1) 5 67] := rfl
      have hT2 : nwT ((y :: ys) ++ [x]) = [.own ((lenL 58 (Lib.cut y [58]).2.1).length + 3) 1 3, .own 3 1 3, .box 67 (spG (lenS y)).cells, .own 1 5 67, .own ((y :: ys).map lenS ++ [mkS W Lst]).length 5 67] := by
        rw [show ((y :: ys).map lenS ++ [mkS W Lst]).length = (ys ++ [x]).length + 1 by rw [List.length_append, List.length_map, List.length_append]; rfl]
        rfl
      generalize (y :: ys).map lenS = SS at hU1 hU2 hSS hT2
      generalize lenS y = Y at hT1 hT2
      generalize (lenL 58 (Lib.cut y [58]).2.1).length = ny at hT1 hT2
      have hyl : ys.length + 1 ≤ 20000 := by simp only [List.length_cons] at hd; omega
      clear hX0
      rcases Lst with _ | ⟨z, l⟩
      · by_cases w1 : W = [111]
        · subst w1
          have hX : mkS [111] ([] : List Int) = ⟨1, 0, 0, 0, 0⟩ := mkS_1 rfl
          rw [hX] at hT2 hU2
          rw [hU2, hT2, hU1, hT1]
          refine Fact.forget (extra := [.own (0 + 3) 1 3, .own 3 1 3, .box 67 (spG (⟨1, 0, 0, 0, 0⟩ : Sp)).cells, .own 1 5 67]) ?fy rfl (by simp) ?own ?held (fun _ => rfl) ?held0
          case held => simp only [List.all_cons]; rfl
          case held0 => simp only [List.all_cons]; rfl
          case own =>
            clear fx fl hT1 hT2 hU1 hU2
            intro e he
            have hh : ∀ i, i < 12 → e i = i := fun i hi => he i (by simp only [List.length_cons, List.length_nil]; omega)
            refine mrc rfl (mrc ?_ (mrc rfl (mrc rfl (mrc rfl (mrc rfl (mrc (loop_ren ?_ (hh 5 (by omega))) (mrc rfl (mrc rfl (mrc rfl (mrc rfl (mrc rfl rfl)))))))))))
            · show GObj.box _ [_, (GV.sl .none (intsG _)).ren e, (GV.sl (.own 11) (spsG _)).ren e, (GV.sl .none (intsG _)).ren e] = _
              rw [Cl.sl (intsG_cl _), ren_own (hh 11 (by omega)) (spsG_cl _), Cl.sl (intsG_cl _)]; rfl
            · repeat' first
                | exact PF.start (by rfl)
                | refine PF.put ?_ ?_
                | exact rfl
                | exact Cl.sl (intsG_cl _) _
                | (show GV.ptr (e 0) 0 = GV.ptr 0 0; rw [hh 0 (by omega)])
                | (show GV.ptr (e 1) 0 = GV.ptr 1 0; rw [hh 1 (by omega)])
                | (show GV.ptr (e 1) _ = GV.ptr 1 _; rw [hh 1 (by omega)])
                | (show GV.agg [_, (GV.sl .none (intsG _)).ren e, _, (GV.sl .none (intsG _)).ren e] = _; rw [Cl.sl (intsG_cl _), Cl.sl (intsG_cl _)]; rfl)
                | (show GV.fn (.func _) [] [.ptr (e 3) 0, .ptr (e 2) 0, .ptr (e 4) 0] = .fn (.func _) [] [.ptr 3 0, .ptr 2 0, .ptr 4 0]; rw [hh 2 (by omega), hh 3 (by omega), hh 4 (by omega)])
          case fy =>
          clear hT1 hT2 hU1 hU2 hX
          refine Fact.yld noM mixed (r := 6) rfl rfl (by kernel_rfl) rfl (by simp only [List.all_cons]; rfl) (by simp [nwT]) rfl rfl ?_
          conv => whnf
          refine callP fx (Wks.refl _) rfl (fun _ => rfl) (fun _ => rfl) ?_
          conv => whnf
          refine cX [] (s' := []) (x := [ow 3 1 0]) fl ?_
          conv => whnf
          refine ⟨⟨rfl, rfl, Nat.le_of_ble_eq_true rfl⟩, intsG [0, 0, 0], 3, ⟨rfl, rfl⟩, ?_⟩
          conv => whnf
          refine ⟨⟨Nat.zero_le _, rfl, .inr ⟨rfl, rfl⟩⟩, ?_⟩
          conv => whnf
          refine ⟨by decide, .i .i64 0, rfl, rfl, ?_⟩
          conv => whnf
          refine ⟨_, ⟨rfl, Nat.zero_le _, rfl, Nat.le_of_ble_eq_true rfl⟩, ?_⟩
          conv => whnf
          refine ap1 (f := spG) (c := 5) (fun _ => rfl) SS (⟨1, 0, 0, 0, 0⟩ : Sp) rfl (by omega) ?_
          conv => whnf
          refine ⟨⟨Nat.zero_le _, by show _ = (spsG SS).length; rw [spsG_len]; exact hSS.symm, .inl ⟨rfl, rfl⟩⟩, ?_⟩
          conv => whnf
          refine ⟨_, ⟨rfl, Nat.zero_le _, rfl, Nat.le_of_ble_eq_true rfl⟩, ?_⟩
          conv => whnf
          rfl
        by_cases w2 : W = [109]
        · subst w2
          have hX : mkS [109] ([] : List Int) = ⟨2, 0, 0, 0, 0⟩ := mkS_2 rfl
          rw [hX] at hT2 hU2
          rw [hU2, hT2, hU1, hT1]
          refine Fact.forget (extra := [.own (0 + 3) 1 3, .own 3 1 3, .box 67 (spG (⟨2, 0, 0, 0, 0⟩ : Sp)).cells, .own 1 5 67]) ?fy rfl (by simp) ?own ?held (fun _ => rfl) ?held0
          case held => simp only [List.all_cons]; rfl
          case held0 => simp only [List.all_cons]; rfl
          case own =>
            clear fx fl hT1 hT2 hU1 hU2
            intro e he
            have hh : ∀ i, i < 12 → e i = i := fun i hi => he i (by simp only [List.length_cons, List.length_nil]; omega)
            refine mrc rfl (mrc ?_ (mrc rfl (mrc rfl (mrc rfl (mrc rfl (mrc (loop_ren ?_ (hh 5 (by omega))) (mrc rfl (mrc rfl (mrc rfl (mrc rfl (mrc rfl rfl)))))))))))
            · show GObj.box _ [_, (GV.sl .none (intsG _)).ren e, (GV.sl (.own 11) (spsG _)).ren e, (GV.sl .none (intsG _)).ren e] = _
              rw [Cl.sl (intsG_cl _), ren_own (hh 11 (by omega)) (spsG_cl _), Cl.sl (intsG_cl _)]; rfl
            · repeat' first
                | exact PF.start (by rfl)
                | refine PF.put ?_ ?_
                | exact rfl
                | exact Cl.sl (intsG_cl _) _
                | (show GV.ptr (e 0) 0 = GV.ptr 0 0; rw [hh 0 (by omega)])
                | (show GV.ptr (e 1) 0 = GV.ptr 1 0; rw [hh 1 (by omega)])
                | (show GV.ptr (e 1) _ = GV.ptr 1 _; rw [hh 1 (by omega)])
                | (show GV.agg [_, (GV.sl .none (intsG _)).ren e, _, (GV.sl .none (intsG _)).ren e] = _; rw [Cl.sl (intsG_cl _), Cl.sl (intsG_cl _)]; rfl)
                | (show GV.fn (.func _) [] [.ptr (e 3) 0, .ptr (e 2) 0, .ptr (e 4) 0] = .fn (.func _) [] [.ptr 3 0, .ptr 2 0, .ptr 4 0]; rw [hh 2 (by omega), hh 3 (by omega), hh 4 (by omega)])
          case fy =>
          clear hT1 hT2 hU1 hU2 hX
          refine Fact.yld noM mixed (r := 6) rfl rfl (by kernel_rfl) rfl (by simp only [List.all_cons]; rfl) (by simp [nwT]) rfl rfl ?_
          conv => whnf
          refine callP fx (Wks.refl _) rfl (fun _ => rfl) (fun _ => rfl) ?_
          conv => whnf
          refine cX [] (s' := []) (x := [ow 3 1 0]) fl ?_
          conv => whnf
          refine ⟨⟨rfl, rfl, Nat.le_of_ble_eq_true rfl⟩, intsG [0, 0, 0], 3, ⟨rfl, rfl⟩, ?_⟩
          conv => whnf
          refine ⟨⟨Nat.zero_le _, rfl, .inr ⟨rfl, rfl⟩⟩, ?_⟩
          conv => whnf
          refine GDraw.calm (by kernel_rfl) ?_
          conv => whnf
          refine ⟨by decide, .i .i64 0, rfl, rfl, ?_⟩
          conv => whnf
          refine ⟨by decide, .i .i64 0, rfl, rfl, ?_⟩
          conv => whnf
          refine ⟨_, ⟨rfl, Nat.zero_le _, rfl, Nat.le_of_ble_eq_true rfl⟩, ?_⟩
          conv => whnf
          refine ap1 (f := spG) (c := 5) (fun _ => rfl) SS (⟨2, 0, 0, 0, 0⟩ : Sp) rfl (by omega) ?_
          conv => whnf
          refine ⟨⟨Nat.zero_le _, by show _ = (spsG SS).length; rw [spsG_len]; exact hSS.symm, .inl ⟨rfl, rfl⟩⟩, ?_⟩
          conv => whnf
          refine ⟨_, ⟨rfl, Nat.zero_le _, rfl, Nat.le_of_ble_eq_true rfl⟩, ?_⟩
          conv => whnf
          rfl
        by_cases w3 : W = [103]
        · subst w3
          have hX : mkS [103] ([] : List Int) = ⟨3, 0, 0, 0, 0⟩ := mkS_3 rfl
          rw [hX] at hT2 hU2
          rw [hU2, hT2, hU1, hT1]
          refine Fact.forget (extra := [.own (0 + 3) 1 3, .own 3 1 3, .box 67 (spG (⟨3, 0, 0, 0, 0⟩ : Sp)).cells, .own 1 5 67]) ?fy rfl (by simp) ?own ?held (fun _ => rfl) ?held0
          case held => simp only [List.all_cons]; rfl
          case held0 => simp only [List.all_cons]; rfl
          case own =>
            clear fx fl hT1 hT2 hU1 hU2
            intro e he
            have hh : ∀ i, i < 12 → e i = i := fun i hi => he i (by simp only [List.length_cons, List.length_nil]; omega)
            refine mrc rfl (mrc ?_ (mrc rfl (mrc rfl (mrc rfl (mrc rfl (mrc (loop_ren ?_ (hh 5 (by omega))) (mrc rfl (mrc rfl (mrc rfl (mrc rfl (mrc rfl rfl)))))))))))
            · show GObj.box _ [_, (GV.sl .none (intsG _)).ren e, (GV.sl (.own 11) (spsG _)).ren e, (GV.sl .none (intsG _)).ren e] = _
              rw [Cl.sl (intsG_cl _), ren_own (hh 11 (by omega)) (spsG_cl _), Cl.sl (intsG_cl _)]; rfl
            · repeat' first
                | exact PF.start (by rfl)
                | refine PF.put ?_ ?_
                | exact rfl
                | exact Cl.sl (intsG_cl _) _
                | (show GV.ptr (e 0) 0 = GV.ptr 0 0; rw [hh 0 (by omega)])
                | (show GV.ptr (e 1) 0 = GV.ptr 1 0; rw [hh 1 (by omega)])
                | (show GV.ptr (e 1) _ = GV.ptr 1 _; rw [hh 1 (by omega)])
                | (show GV.agg [_, (GV.sl .none (intsG _)).ren e, _, (GV.sl .none (intsG _)).ren e] = _; rw [Cl.sl (intsG_cl _), Cl.sl (intsG_cl _)]; rfl)
                | (show GV.fn (.func _) [] [.ptr (e 3) 0, .ptr (e 2) 0, .ptr (e 4) 0] = .fn (.func _) [] [.ptr 3 0, .ptr 2 0, .ptr 4 0]; rw [hh 2 (by omega), hh 3 (by omega), hh 4 (by omega)])
          case fy =>
          clear hT1 hT2 hU1 hU2 hX
          refine Fact.yld noM mixed (r := 6) rfl rfl (by kernel_rfl) rfl (by simp only [List.all_cons]; rfl) (by simp [nwT]) rfl rfl ?_
          conv => whnf
          refine callP fx (Wks.refl _) rfl (fun _ => rfl) (fun _ => rfl) ?_
          conv => whnf
          refine cX [] (s' := []) (x := [ow 3 1 0]) fl ?_
          conv => whnf
          refine ⟨⟨rfl, rfl, Nat.le_of_ble_eq_true rfl⟩, intsG [0, 0, 0], 3, ⟨rfl, rfl⟩, ?_⟩
          conv => whnf
          refine ⟨⟨Nat.zero_le _, rfl, .inr ⟨rfl, rfl⟩⟩, ?_⟩
          conv => whnf
          refine GDraw.calm (by kernel_rfl) ?_
          conv => whnf
          refine ⟨by decide, .i .i64 0, rfl, rfl, ?_⟩
          conv => whnf
          refine ⟨by decide, .i .i64 0, rfl, rfl, ?_⟩
          conv => whnf
          refine ⟨by decide, .i .i64 0, rfl, rfl, ?_⟩
          conv => whnf
          refine ⟨_, ⟨rfl, Nat.zero_le _, rfl, Nat.le_of_ble_eq_true rfl⟩, ?_⟩
          conv => whnf
          refine ap1 (f := spG) (c := 5) (fun _ => rfl) SS (⟨3, 0, 0, 0, 0⟩ : Sp) rfl (by omega) ?_
          conv => whnf
          refine ⟨⟨Nat.zero_le _, by show _ = (spsG SS).length; rw [spsG_len]; exact hSS.symm, .inl ⟨rfl, rfl⟩⟩, ?_⟩
          conv => whnf
          refine ⟨_, ⟨rfl, Nat.zero_le _, rfl, Nat.le_of_ble_eq_true rfl⟩, ?_⟩
          conv => whnf
          rfl
        have hX : mkS W ([] : List Int) = sp0 := mkS_0 w1 w2 w3
        rw [hX] at hT2 hU2
        rw [hU2, hT2, hU1, hT1]
        refine Fact.forget (extra := [.own (0 + 3) 1 3, .own 3 1 3, .box 67 (spG (sp0 : Sp)).cells, .own 1 5 67]) ?fy rfl (by simp) ?own ?held (fun _ => rfl) ?held0
        case held => simp only [List.all_cons]; rfl
        case held0 => simp only [List.all_cons]; rfl
        case own =>
          clear fx fl hT1 hT2 hU1 hU2
          intro e he
          have hh : ∀ i, i < 12 → e i = i := fun i hi => he i (by simp only [List.length_cons, List.length_nil]; omega)
          refine mrc rfl (mrc ?_ (mrc rfl (mrc rfl (mrc rfl (mrc rfl (mrc (loop_ren ?_ (hh 5 (by omega))) (mrc rfl (mrc rfl (mrc rfl (mrc rfl (mrc rfl rfl)))))))))))
          · show GObj.box _ [_, (GV.sl .none (intsG _)).ren e, (GV.sl (.own 11) (spsG _)).ren e, (GV.sl .none (intsG _)).ren e] = _
            rw [Cl.sl (intsG_cl _), ren_own (hh 11 (by omega)) (spsG_cl _), Cl.sl (intsG_cl _)]; rfl
          · repeat' first
              | exact PF.start (by rfl)
              | refine PF.put ?_ ?_
              | exact rfl
              | exact Cl.sl (intsG_cl _) _
              | (show GV.ptr (e 0) 0 = GV.ptr 0 0; rw [hh 0 (by omega)])
              | (show GV.ptr (e 1) 0 = GV.ptr 1 0; rw [hh 1 (by omega)])
              | (show GV.ptr (e 1) _ = GV.ptr 1 _; rw [hh 1 (by omega)])
              | (show GV.agg [_, (GV.sl .none (intsG _)).ren e, _, (GV.sl .none (intsG _)).ren e] = _; rw [Cl.sl (intsG_cl _), Cl.sl (intsG_cl _)]; rfl)
              | (show GV.fn (.func _) [] [.ptr (e 3) 0, .ptr (e 2) 0, .ptr (e 4) 0] = .fn (.func _) [] [.ptr 3 0, .ptr 2 0, .ptr 4 0]; rw [hh 2 (by omega), hh 3 (by omega), hh 4 (by omega)])
        case fy =>
        clear hT1 hT2 hU1 hU2 hX
        refine Fact.yld noM mixed (r := 6) rfl rfl (by kernel_rfl) rfl (by simp only [List.all_cons]; rfl) (by simp [nwT]) rfl rfl ?_
        conv => whnf
        refine callP fx (Wks.refl _) rfl (fun _ => rfl) (fun _ => rfl) ?_
        conv => whnf
        refine cX [] (s' := []) (x := [ow 3 1 0]) fl ?_
        conv => whnf
        refine ⟨⟨rfl, rfl, Nat.le_of_ble_eq_true rfl⟩, intsG [0, 0, 0], 3, ⟨rfl, rfl⟩, ?_⟩
        conv => whnf
        refine ⟨⟨Nat.zero_le _, rfl, .inr ⟨rfl, rfl⟩⟩, ?_⟩
        conv => whnf
        refine gN (by simpa using w1) ?_
        conv => whnf
        refine gN (by simpa using w2) ?_
        conv => whnf
        refine gN (by simpa using w3) ?_
        conv => whnf
        refine ap1 (f := spG) (c := 5) (fun _ => rfl) SS (sp0 : Sp) rfl (by omega) ?_
        conv => whnf
        refine ⟨⟨Nat.zero_le _, by show _ = (spsG SS).length; rw [spsG_len]; exact hSS.symm, .inl ⟨rfl, rfl⟩⟩, ?_⟩
        conv => whnf
        refine ⟨_, ⟨rfl, Nat.zero_le _, rfl, Nat.le_of_ble_eq_true rfl⟩, ?_⟩
        conv => whnf
        rfl
      · by_cases w1 : W = [111]
        · subst w1
          obtain ⟨v0, hv0, g0⟩ : ∃ v, v = ((z :: l) ++ [0, 0, 0]).getD 0 0 ∧ (intsG ((z :: l) ++ [0, 0, 0]))[0]? = some (.i .i64 v) := ⟨_, rfl, map_at (f := GV.i .i64) (mk_at (z :: l) (by decide))⟩
          have hX : mkS [111] (z :: l) = ⟨1, v0, 0, 0, 0⟩ := by rw [mkS_1 rfl, ← hv0]
          rw [hX] at hT2 hU2
          rw [hU2, hT2, hU1, hT1]
          refine Fact.forget (extra := [.own ((l.length + 1) + 3) 1 3, .own 3 1 3, .box 67 (spG (⟨1, v0, 0, 0, 0⟩ : Sp)).cells, .own 1 5 67]) ?fy rfl (by simp) ?own ?held (fun _ => rfl) ?held0
          case held => simp only [List.all_cons]; rfl
          case held0 => simp only [List.all_cons]; rfl
          case own =>
            clear fx fl hT1 hT2 hU1 hU2
            intro e he
            have hh : ∀ i, i < 12 → e i = i := fun i hi => he i (by simp only [List.length_cons, List.length_nil]; omega)
            refine mrc rfl (mrc ?_ (mrc rfl (mrc rfl (mrc rfl (mrc rfl (mrc (loop_ren ?_ (hh 5 (by omega))) (mrc rfl (mrc rfl (mrc rfl (mrc rfl (mrc rfl rfl)))))))))))
            · show GObj.box _ [_, (GV.sl .none (intsG _)).ren e, (GV.sl (.own 11) (spsG _)).ren e, (GV.sl .none (intsG _)).ren e] = _
              rw [Cl.sl (intsG_cl _), ren_own (hh 11 (by omega)) (spsG_cl _), Cl.sl (intsG_cl _)]; rfl
            · repeat' first
                | exact PF.start (by rfl)
                | refine PF.put ?_ ?_
                | exact rfl
                | exact Cl.sl (intsG_cl _) _
                | (show GV.ptr (e 0) 0 = GV.ptr 0 0; rw [hh 0 (by omega)])
                | (show GV.ptr (e 1) 0 = GV.ptr 1 0; rw [hh 1 (by omega)])
                | (show GV.ptr (e 1) _ = GV.ptr 1 _; rw [hh 1 (by omega)])
                | (show GV.agg [_, (GV.sl .none (intsG _)).ren e, _, (GV.sl .none (intsG _)).ren e] = _; rw [Cl.sl (intsG_cl _), Cl.sl (intsG_cl _)]; rfl)
                | (show GV.fn (.func _) [] [.ptr (e 3) 0, .ptr (e 2) 0, .ptr (e 4) 0] = .fn (.func _) [] [.ptr 3 0, .ptr 2 0, .ptr 4 0]; rw [hh 2 (by omega), hh 3 (by omega), hh 4 (by omega)])
          case fy =>
          clear hT1 hT2 hU1 hU2 hX
          refine Fact.yld noM mixed (r := 6) rfl rfl (by kernel_rfl) rfl (by simp only [List.all_cons]; rfl) (by simp [nwT]) rfl rfl ?_
          conv => whnf
          refine callP fx (Wks.refl _) rfl (fun _ => rfl) (fun _ => rfl) ?_
          conv => whnf
          refine cX [] (s' := []) (x := [ow 3 1 (l.length + 1)]) fl ?_
          conv => whnf
          refine ⟨⟨rfl, hall, by show (intsG (z :: l)).length + 3 ≤ 4294967296; rw [intsG_len]; simp only [List.length_cons] at hll ⊢; omega⟩, intsG ((z :: l) ++ [0, 0, 0]), l.length + 1 + 3, ⟨by unfold intsG; rw [List.map_append]; rfl, by show _ = (intsG (z :: l)).length + 3; rw [intsG_len]; rfl⟩, ?_⟩
          conv => whnf
          refine ⟨⟨Nat.zero_le _, by show _ = (intsG (z :: l)).length; rw [intsG_len]; rfl, .inl ⟨rfl, rfl⟩⟩, ?_⟩
          conv => whnf
          refine ⟨by decide, .i .i64 v0, g0, rfl, ?_⟩
          conv => whnf
          refine ⟨_, ⟨rfl, Nat.zero_le _, rfl, Nat.le_of_ble_eq_true rfl⟩, ?_⟩
          conv => whnf
          refine ap1 (f := spG) (c := 5) (fun _ => rfl) SS (⟨1, v0, 0, 0, 0⟩ : Sp) rfl (by omega) ?_
          conv => whnf
          refine ⟨⟨Nat.zero_le _, by show _ = (spsG SS).length; rw [spsG_len]; exact hSS.symm, .inl ⟨rfl, rfl⟩⟩, ?_⟩
          conv => whnf
          refine ⟨_, ⟨rfl, Nat.zero_le _, rfl, Nat.le_of_ble_eq_true rfl⟩, ?_⟩
          conv => whnf
          rfl
        by_cases w2 : W = [109]
        · subst w2
          obtain ⟨v0, hv0, g0⟩ : ∃ v, v = ((z :: l) ++ [0, 0, 0]).getD 0 0 ∧ (intsG ((z :: l) ++ [0, 0, 0]))[0]? = some (.i .i64 v) := ⟨_, rfl, map_at (f := GV.i .i64) (mk_at (z :: l) (by decide))⟩
          obtain ⟨v1, hv1, g1⟩ : ∃ v, v = ((z :: l) ++ [0, 0, 0]).getD 1 0 ∧ (intsG ((z :: l) ++ [0, 0, 0]))[1]? = some (.i .i64 v) := ⟨_, rfl, map_at (f := GV.i .i64) (mk_at (z :: l) (by decide))⟩
          have hX : mkS [109] (z :: l) = ⟨2, v0, v1, 0, 0⟩ := by rw [mkS_2 rfl, ← hv0, ← hv1]
          rw [hX] at hT2 hU2
          rw [hU2, hT2, hU1, hT1]
          refine Fact.forget (extra := [.own ((l.length + 1) + 3) 1 3, .own 3 1 3, .box 67 (spG (⟨2, v0, v1, 0, 0⟩ : Sp)).cells, .own 1 5 67]) ?fy rfl (by simp) ?own ?held (fun _ => rfl) ?held0
          case held => simp only [List.all_cons]; rfl
          case held0 => simp only [List.all_cons]; rfl
          case own =>
            clear fx fl hT1 hT2 hU1 hU2
            intro e he
            have hh : ∀ i, i < 12 → e i = i := fun i hi => he i (by simp only [List.length_cons, List.length_nil]; omega)
            refine mrc rfl (mrc ?_ (mrc rfl (mrc rfl (mrc rfl (mrc rfl (mrc (loop_ren ?_ (hh 5 (by omega))) (mrc rfl (mrc rfl (mrc rfl (mrc rfl (mrc rfl rfl)))))))))))
            · show GObj.box _ [_, (GV.sl .none (intsG _)).ren e, (GV.sl (.own 11) (spsG _)).ren e, (GV.sl .none (intsG _)).ren e] = _
              rw [Cl.sl (intsG_cl _), ren_own (hh 11 (by omega)) (spsG_cl _), Cl.sl (intsG_cl _)]; rfl
            · repeat' first
                | exact PF.start (by rfl)
                | refine PF.put ?_ ?_
                | exact rfl
                | exact Cl.sl (intsG_cl _) _
                | (show GV.ptr (e 0) 0 = GV.ptr 0 0; rw [hh 0 (by omega)])
                | (show GV.ptr (e 1) 0 = GV.ptr 1 0; rw [hh 1 (by omega)])
                | (show GV.ptr (e 1) _ = GV.ptr 1 _; rw [hh 1 (by omega)])
                | (show GV.agg [_, (GV.sl .none (intsG _)).ren e, _, (GV.sl .none (intsG _)).ren e] = _; rw [Cl.sl (intsG_cl _), Cl.sl (intsG_cl _)]; rfl)
                | (show GV.fn (.func _) [] [.ptr (e 3) 0, .ptr (e 2) 0, .ptr (e 4) 0] = .fn (.func _) [] [.ptr 3 0, .ptr 2 0, .ptr 4 0]; rw [hh 2 (by omega), hh 3 (by omega), hh 4 (by omega)])
          case fy =>
          clear hT1 hT2 hU1 hU2 hX
          refine Fact.yld noM mixed (r := 6) rfl rfl (by kernel_rfl) rfl (by simp only [List.all_cons]; rfl) (by simp [nwT]) rfl rfl ?_
          conv => whnf
          refine callP fx (Wks.refl _) rfl (fun _ => rfl) (fun _ => rfl) ?_
          conv => whnf
          refine cX [] (s' := []) (x := [ow 3 1 (l.length + 1)]) fl ?_
          conv => whnf
          refine ⟨⟨rfl, hall, by show (intsG (z :: l)).length + 3 ≤ 4294967296; rw [intsG_len]; simp only [List.length_cons] at hll ⊢; omega⟩, intsG ((z :: l) ++ [0, 0, 0]), l.length + 1 + 3, ⟨by unfold intsG; rw [List.map_append]; rfl, by show _ = (intsG (z :: l)).length + 3; rw [intsG_len]; rfl⟩, ?_⟩
          conv => whnf
          refine ⟨⟨Nat.zero_le _, by show _ = (intsG (z :: l)).length; rw [intsG_len]; rfl, .inl ⟨rfl, rfl⟩⟩, ?_⟩
          conv => whnf
          refine GDraw.calm (by kernel_rfl) ?_
          conv => whnf
          refine ⟨by decide, .i .i64 v0, g0, rfl, ?_⟩
          conv => whnf
          refine ⟨by decide, .i .i64 v1, g1, rfl, ?_⟩
          conv => whnf
          refine ⟨_, ⟨rfl, Nat.zero_le _, rfl, Nat.le_of_ble_eq_true rfl⟩, ?_⟩
          conv => whnf
          refine ap1 (f := spG) (c := 5) (fun _ => rfl) SS (⟨2, v0, v1, 0, 0⟩ : Sp) rfl (by omega) ?_
          conv => whnf
          refine ⟨⟨Nat.zero_le _, by show _ = (spsG SS).length; rw [spsG_len]; exact hSS.symm, .inl ⟨rfl, rfl⟩⟩, ?_⟩
          conv => whnf
          refine ⟨_, ⟨rfl, Nat.zero_le _, rfl, Nat.le_of_ble_eq_true rfl⟩, ?_⟩
          conv => whnf
          rfl
        by_cases w3 : W = [103]
        · subst w3
          obtain ⟨v0, hv0, g0⟩ : ∃ v, v = ((z :: l) ++ [0, 0, 0]).getD 0 0 ∧ (intsG ((z :: l) ++ [0, 0, 0]))[0]? = some (.i .i64 v) := ⟨_, rfl, map_at (f := GV.i .i64) (mk_at (z :: l) (by decide))⟩
          obtain ⟨v1, hv1, g1⟩ : ∃ v, v = ((z :: l) ++ [0, 0, 0]).getD 1 0 ∧ (intsG ((z :: l) ++ [0, 0, 0]))[1]? = some (.i .i64 v) := ⟨_, rfl, map_at (f := GV.i .i64) (mk_at (z :: l) (by decide))⟩
          obtain ⟨v2, hv2, g2⟩ : ∃ v, v = ((z :: l) ++ [0, 0, 0]).getD 2 0 ∧ (intsG ((z :: l) ++ [0, 0, 0]))[2]? = some (.i .i64 v) := ⟨_, rfl, map_at (f := GV.i .i64) (mk_at (z :: l) (by decide))⟩
          have hX : mkS [103] (z :: l) = ⟨3, v0, 0, v1, v2⟩ := by rw [mkS_3 rfl, ← hv0, ← hv1, ← hv2]
          rw [hX] at hT2 hU2
          rw [hU2, hT2, hU1, hT1]
          refine Fact.forget (extra := [.own ((l.length + 1) + 3) 1 3, .own 3 1 3, .box 67 (spG (⟨3, v0, 0, v1, v2⟩ : Sp)).cells, .own 1 5 67]) ?fy rfl (by simp) ?own ?held (fun _ => rfl) ?held0
          case held => simp only [List.all_cons]; rfl
          case held0 => simp only [List.all_cons]; rfl
          case own =>
            clear fx fl hT1 hT2 hU1 hU2
            intro e he
            have hh : ∀ i, i < 12 → e i = i := fun i hi => he i (by simp only [List.length_cons, List.length_nil]; omega)
            refine mrc rfl (mrc ?_ (mrc rfl (mrc rfl (mrc rfl (mrc rfl (mrc (loop_ren ?_ (hh 5 (by omega))) (mrc rfl (mrc rfl (mrc rfl (mrc rfl (mrc rfl rfl)))))))))))
            · show GObj.box _ [_, (GV.sl .none (intsG _)).ren e, (GV.sl (.own 11) (spsG _)).ren e, (GV.sl .none (intsG _)).ren e] = _
              rw [Cl.sl (intsG_cl _), ren_own (hh 11 (by omega)) (spsG_cl _), Cl.sl (intsG_cl _)]; rfl
            · repeat' first
                | exact PF.start (by rfl)
                | refine PF.put ?_ ?_
                | exact rfl
                | exact Cl.sl (intsG_cl _) _
                | (show GV.ptr (e 0) 0 = GV.ptr 0 0; rw [hh 0 (by omega)])
                | (show GV.ptr (e 1) 0 = GV.ptr 1 0; rw [hh 1 (by omega)])
                | (show GV.ptr (e 1) _ = GV.ptr 1 _; rw [hh 1 (by omega)])
                | (show GV.agg [_, (GV.sl .none (intsG _)).ren e, _, (GV.sl .none (intsG _)).ren e] = _; rw [Cl.sl (intsG_cl _), Cl.sl (intsG_cl _)]; rfl)
                | (show GV.fn (.func _) [] [.ptr (e 3) 0, .ptr (e 2) 0, .ptr (e 4) 0] = .fn (.func _) [] [.ptr 3 0, .ptr 2 0, .ptr 4 0]; rw [hh 2 (by omega), hh 3 (by omega), hh 4 (by omega)])
          case fy =>
          clear hT1 hT2 hU1 hU2 hX
          refine Fact.yld noM mixed (r := 6) rfl rfl (by kernel_rfl) rfl (by simp only [List.all_cons]; rfl) (by simp [nwT]) rfl rfl ?_
          conv => whnf
          refine callP fx (Wks.refl _) rfl (fun _ => rfl) (fun _ => rfl) ?_
          conv => whnf
          refine cX [] (s' := []) (x := [ow 3 1 (l.length + 1)]) fl ?_
          conv => whnf
          refine ⟨⟨rfl, hall, by show (intsG (z :: l)).length + 3 ≤ 4294967296; rw [intsG_len]; simp only [List.length_cons] at hll ⊢; omega⟩, intsG ((z :: l) ++ [0, 0, 0]), l.length + 1 + 3, ⟨by unfold intsG; rw [List.map_append]; rfl, by show _ = (intsG (z :: l)).length + 3; rw [intsG_len]; rfl⟩, ?_⟩
          conv => whnf
          refine ⟨⟨Nat.zero_le _, by show _ = (intsG (z :: l)).length; rw [intsG_len]; rfl, .inl ⟨rfl, rfl⟩⟩, ?_⟩
          conv => whnf
          refine GDraw.calm (by kernel_rfl) ?_
          conv => whnf
          refine ⟨by decide, .i .i64 v0, g0, rfl, ?_⟩
          conv => whnf
          refine ⟨by decide, .i .i64 v1, g1, rfl, ?_⟩
          conv => whnf
          refine ⟨by decide, .i .i64 v2, g2, rfl, ?_⟩
          conv => whnf
          refine ⟨_, ⟨rfl, Nat.zero_le _, rfl, Nat.le_of_ble_eq_true rfl⟩, ?_⟩
          conv => whnf
          refine ap1 (f := spG) (c := 5) (fun _ => rfl) SS (⟨3, v0, 0, v1, v2⟩ : Sp) rfl (by omega) ?_
          conv => whnf
          refine ⟨⟨Nat.zero_le _, by show _ = (spsG SS).length; rw [spsG_len]; exact hSS.symm, .inl ⟨rfl, rfl⟩⟩, ?_⟩
          conv => whnf
          refine ⟨_, ⟨rfl, Nat.zero_le _, rfl, Nat.le_of_ble_eq_true rfl⟩, ?_⟩
          conv => whnf
          rfl
        have hX : mkS W (z :: l) = sp0 := mkS_0 w1 w2 w3
        rw [hX] at hT2 hU2
        rw [hU2, hT2, hU1, hT1]
        refine Fact.forget (extra := [.own ((l.length + 1) + 3) 1 3, .own 3 1 3, .box 67 (spG (sp0 : Sp)).cells, .own 1 5 67]) ?fy rfl (by simp) ?own ?held (fun _ => rfl) ?held0
        case held => simp only [List.all_cons]; rfl
        case held0 => simp only [List.all_cons]; rfl
        case own =>
          clear fx fl hT1 hT2 hU1 hU2
          intro e he
          have hh : ∀ i, i < 12 → e i = i := fun i hi => he i (by simp only [List.length_cons, List.length_nil]; omega)
          refine mrc rfl (mrc ?_ (mrc rfl (mrc rfl (mrc rfl (mrc rfl (mrc (loop_ren ?_ (hh 5 (by omega))) (mrc rfl (mrc rfl (mrc rfl (mrc rfl (mrc rfl rfl)))))))))))
          · show GObj.box _ [_, (GV.sl .none (intsG _)).ren e, (GV.sl (.own 11) (spsG _)).ren e, (GV.sl .none (intsG _)).ren e] = _
            rw [Cl.sl (intsG_cl _), ren_own (hh 11 (by omega)) (spsG_cl _), Cl.sl (intsG_cl _)]; rfl
          · repeat' first
              | exact PF.start (by rfl)
              | refine PF.put ?_ ?_
              | exact rfl
              | exact Cl.sl (intsG_cl _) _
              | (show GV.ptr (e 0) 0 = GV.ptr 0 0; rw [hh 0 (by omega)])
              | (show GV.ptr (e 1) 0 = GV.ptr 1 0; rw [hh 1 (by omega)])
              | (show GV.ptr (e 1) _ = GV.ptr 1 _; rw [hh 1 (by omega)])
              | (show GV.agg [_, (GV.sl .none (intsG _)).ren e, _, (GV.sl .none (intsG _)).ren e] = _; rw [Cl.sl (intsG_cl _), Cl.sl (intsG_cl _)]; rfl)
              | (show GV.fn (.func _) [] [.ptr (e 3) 0, .ptr (e 2) 0, .ptr (e 4) 0] = .fn (.func _) [] [.ptr 3 0, .ptr 2 0, .ptr 4 0]; rw [hh 2 (by omega), hh 3 (by omega), hh 4 (by omega)])
        case fy =>
        clear hT1 hT2 hU1 hU2 hX
        refine Fact.yld noM mixed (r := 6) rfl rfl (by kernel_rfl) rfl (by simp only [List.all_cons]; rfl) (by simp [nwT]) rfl rfl ?_
        conv => whnf
        refine callP fx (Wks.refl _) rfl (fun _ => rfl) (fun _ => rfl) ?_
        conv => whnf
        refine cX [] (s' := []) (x := [ow 3 1 (l.length + 1)]) fl ?_
        conv => whnf
        refine ⟨⟨rfl, hall, by show (intsG (z :: l)).length + 3 ≤ 4294967296; rw [intsG_len]; simp only [List.length_cons] at hll ⊢; omega⟩, intsG ((z :: l) ++ [0, 0, 0]), l.length + 1 + 3, ⟨by unfold intsG; rw [List.map_append]; rfl, by show _ = (intsG (z :: l)).length + 3; rw [intsG_len]; rfl⟩, ?_⟩
        conv => whnf
        refine ⟨⟨Nat.zero_le _, by show _ = (intsG (z :: l)).length; rw [intsG_len]; rfl, .inl ⟨rfl, rfl⟩⟩, ?_⟩
        conv => whnf
        refine gN (by simpa using w1) ?_
        conv => whnf
        refine gN (by simpa using w2) ?_
        conv => whnf
        refine gN (by simpa using w3) ?_
        conv => whnf
        refine ap1 (f := spG) (c := 5) (fun _ => rfl) SS (sp0 : Sp) rfl (by omega) ?_
        conv => whnf
        refine ⟨⟨Nat.zero_le _, by show _ = (spsG SS).length; rw [spsG_len]; exact hSS.symm, .inl ⟨rfl, rfl⟩⟩, ?_⟩
        conv => whnf
        refine ⟨_, ⟨rfl, Nat.zero_le _, rfl, Nat.le_of_ble_eq_true rfl⟩, ?_⟩
        conv => whnf
        rfl
  conv => whnf
  refine cP (k_Format ⟨attN a, lenL 32 b, (p0 :: pl).map lenS, lenL 32 d⟩ hok) ?_ (Wks.cons (Wks.agg ⟨.refl _, Wk.sl _ _, Wk.sl _ _, Wk.sl _ _, trivial⟩) trivial)
  conv => whnf
  by_cases hf : fmtN ⟨attN a, lenL 32 b, (p0 :: pl).map lenS, lenL 32 d⟩ = s
  · rw [if_pos hf]
    rw [show (fmtN ⟨attN a, lenL 32 b, (p0 :: pl).map lenS, lenL 32 d⟩ == s) = true from beq_iff_eq.2 hf]
    conv => whnf
    refine ⟨_, ⟨rfl, Nat.zero_le _, rfl, Nat.le_of_ble_eq_true rfl⟩, ?_⟩
    conv => whnf
    exact fin 0 (hw := wkNow ⟨attN a, lenL 32 b, (p0 :: pl).map lenS, lenL 32 d⟩ _ _ _ _)
  rw [if_neg hf]
  rw [show (fmtN ⟨attN a, lenL 32 b, (p0 :: pl).map lenS, lenL 32 d⟩ == s) = false from beq_eq_false_iff_ne.2 hf]
  conv => whnf
  refine ⟨_, ⟨rfl, Nat.zero_le _, rfl, Nat.le_of_ble_eq_true rfl⟩, ?_⟩
  conv => whnf
  exact fin 0 (hw := wkNow nw0 _ _ _ _)
end Go.Proofs.YtcbknpdjdlgljaaGreatDoor
