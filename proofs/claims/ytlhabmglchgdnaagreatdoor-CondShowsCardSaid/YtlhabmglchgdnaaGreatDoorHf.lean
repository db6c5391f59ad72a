/-
  CondShows: Show, Valid, Names and Vars of every text are those of the reference, and the canonical text is shown as itself, for every text; part 42 of 42. Conditions: none beyond the given statement.

-/
import Derived.Test.YtlhabmglchgdnaaGreatDoorQ41
import Derived.Test.YtlhabmglchgdnaaGreatDoorQ17
set_option linter.all false
namespace Go.Proofs.YtlhabmglchgdnaaGreatDoor
open Go.RowKit
set_option maxRecDepth 100000
set_option linter.unusedVariables false
def leaves : Tree → List Term
  | .pair _ l r => leaves l ++ leaves r
  | .no t => leaves t
  | .test _ a b => [a, b]
  | .truth _ => []
theorem leaves_sides (a : Bool) : ∀ t : Tree, (t.sides a).flatMap leaves = leaves t
  | .pair b l r => by
    unfold Tree.sides
    split
    · rw [List.flatMap_append, leaves_sides a l, leaves_sides a r]; rfl
    · simp
  | .no t => by simp [Tree.sides]
  | .test _ _ _ => by simp [Tree.sides]
  | .truth _ => by simp [Tree.sides]
theorem leaves_size : ∀ t : Tree, (leaves t).length ≤ 2 * t.size
  | .pair _ l r => by
    have h1 := leaves_size l
    have h2 := leaves_size r
    simp only [leaves, Tree.size, List.length_append]; omega
  | .no t => by
    have := leaves_size t
    simp only [leaves, Tree.size]; omega
  | .test _ _ _ => by simp [leaves, Tree.size]
  | .truth _ => by simp [leaves]
def sds (l : List Term) : List GV := l.map fun t => .agg (sdc t)
theorem sds_cl (l : List Term) : ClL (sds l) := ClL.mapOf (fun t => Cl.agg (sdc_cl t)) l
theorem sds_len (l : List Term) : (sds l).length = l.length := by simp [sds]
theorem sds_ok (l : List Term) : (sds l).all (fun x => x.cells.length == 5) = true := by
  rw [List.all_eq_true]; intro x hx
  obtain ⟨t, _, rfl⟩ := List.mem_map.1 hx
  rfl
theorem sds_okEl (l : List Term) : (sds l).all (okEl 5) = true := by
  rw [List.all_eq_true]; intro x hx
  obtain ⟨t, _, rfl⟩ := List.mem_map.1 hx
  rfl
theorem sds_app (a b : List Term) : sds (a ++ b) = sds a ++ sds b := by unfold sds; rw [List.map_append]
theorem r_sd_test (op : By) (l r : Term) : SC Tryz.prog 51 [.agg (ndc 4 [] l r op false)] [] (.val (.sl .none (sds [l, r]))) [] := by
  refine SC.of_gwp noM mixed Tryz.func51 rfl (Nat.le_of_ble_eq_true rfl) (by first | exact Nat.le_refl _ | simp) rfl ?_
  conv => whnf
  exact owes_wk (Wk.sl _ _) (Cl.sl (sds_cl _))
def lvs (L : List Tree) (i : Nat) : List Term := (L.take i).flatMap leaves
theorem lvs_succ {L : List Tree} {i : Nat} {y : Tree} (h : L[i]? = some y) : lvs L (i + 1) = lvs L i ++ leaves y := by
  unfold lvs
  rw [List.take_add_one, h, List.flatMap_append]
  simp
theorem lvs_le (L : List Tree) (i : Nat) : (lvs L i).length ≤ (L.flatMap leaves).length := by
  have : L.flatMap leaves = lvs L i ++ (L.drop i).flatMap leaves := by
    unfold lvs
    rw [← List.flatMap_append, List.take_append_drop]
  rw [this, List.length_append]; omega
theorem r_sd_kids (k : Nat) (hk : k ≠ 4) (L : List Tree) (yes : Bool) (hL : L.length ≤ 100000) (hb : (L.flatMap leaves).length ≤ 1000000) (hc : ∀ y ∈ L, SC Tryz.prog 51 [y.ng] [] (.val (.sl .none (sds (leaves y)))) []) :
    SC Tryz.prog 51 [.agg (ndc k (ngs L) t0 t0 [] yes)] [] (.val (.sl .none (sds (L.flatMap leaves)))) [] := by
  have hnl : (ngs L).length = L.length := ngs_len L
  refine SC.of_gwp noM mixed Tryz.func51 rfl (Nat.le_of_ble_eq_true rfl) (by first | exact Nat.le_refl _ | simp) rfl ?_
  conv => whnf
  refine GIf.mk (fun h4 => ?_) (fun h4 => ?_) <;> conv => whnf
  · exfalso
    have h9 : (k : Int) = 4 := by simpa using h4
    omega
  refine GLoop.introS (fun q : Nat × List Term => q.1 ≤ L.length ∧ lvs L q.1 = q.2) (fun q => [(1, .ptr 0 0), (3, .sl (.own 2) (sds q.2)), (4, .i .i64 (q.1 : Nat))])
    (fun q => ⟨[.box 69 (ndc k (ngs L) t0 t0 [] yes), .own 0 0 0, ow 67 5 q.2.length], 0, []⟩) (fun q => L.length - q.1) (0, []) ⟨Nat.zero_le _, rfl⟩ ⟨rfl, rfl, rfl, trivial⟩ rfl (fun _ _ => Nat.le_refl _) (fun q _ => by simp only [List.all_cons, ow_held]; rfl) (fun q _ e he => ?_) (fun q φ0 hi => ?_)
  · refine ⟨?_, rfl, ?_⟩
    · show [(GObj.box _ (ndc k (ngs L) t0 t0 [] yes)).ren e, _, (ow _ 5 _).ren e] = _
      rw [ow_ren, GObj.box_cl (ndc_cl (ngs_cl L) t0 t0 [] yes) e]; rfl
    · show [GV.ptr (e 0) 0, (GV.sl (.own 2) (sds q.2)).ren e, _] = _
      rw [ren_own (he 2 (by simp)) (sds_cl _), he 0 (by simp)]; rfl
  obtain ⟨i, o⟩ := q
  obtain ⟨hi, ho⟩ := hi
  replace hi : i ≤ L.length := hi
  replace ho : lvs L i = o := ho
  conv => whnf
  refine GIf.mk (fun h => ?_) (fun h => ?_) <;> conv => whnf
  rotate_left
  · have hie : i = L.length := by have := of_decide_eq_false h; rw [hnl] at this; omega
    have hoe : o = L.flatMap leaves := by rw [← ho, hie]; unfold lvs; rw [List.take_length]
    rw [← hoe]
    exact owes_wk (Wk.sl _ _) (Cl.sl (sds_cl _))
  have hlt : i < L.length := by have := of_decide_eq_true h; rw [hnl] at this; omega
  obtain ⟨y, hy⟩ : ∃ y, L[i]? = some y := ⟨L[i], List.getElem?_eq_getElem hlt⟩
  have hgy : (ngs L)[i]? = some y.ng := by unfold ngs; rw [List.getElem?_map, hy]; rfl
  have hcy := hc y (List.mem_of_getElem? hy)
  have hcl := y.ng_cl
  have hsucc := lvs_succ hy
  have hle := lvs_le L (i + 1)
  rw [hsucc, ho, List.length_append] at hle
  rw [ho] at hsucc
  obtain ⟨k2, kids, A, B, op, yes2, hng⟩ := ng_form y
  rw [hng] at hgy hcy hcl
  refine ⟨Int.natCast_nonneg _, .agg (ndc k2 kids A B op yes2), by rw [Int.toNat_natCast]; exact hgy, rfl, ?_⟩
  conv => whnf
  generalize leaves y = ys at *
  rcases ys with _ | ⟨y1, ys⟩
  · refine callP hcy (Wks.refl _) rfl (ClL.cons hcl .nil) (Cl.sl (sds_cl _)) ?_
    conv => whnf
    rw [List.append_nil] at hsucc
    exact ⟨L.length - (i + 1), (by show _ < L.length - i; omega), (i + 1, o), ⟨hlt, hsucc⟩, rfl, ⟨rfl, rfl, wrap_succ (by omega), trivial⟩, [], rfl, rfl⟩
  · refine callP hcy (Wks.refl _) rfl (ClL.cons hcl .nil) (Cl.sl (sds_cl _)) ?_
    conv => whnf
    cases o with
    | nil =>
      refine ⟨⟨sds_okEl (y1 :: ys), sds_ok _, by show (sds ([] : List Term)).length + (sds (y1 :: ys)).length ≤ 4294967296; rw [sds_len, sds_len]; omega⟩, sds (([] : List Term) ++ y1 :: ys), (([] : List Term) ++ y1 :: ys).length, ⟨sds_app ([] : List Term) (y1 :: ys), by show _ = (sds ([] : List Term)).length + (sds (y1 :: ys)).length; rw [sds_len, sds_len, List.length_append]⟩, ?_⟩
      conv => whnf
      refine ⟨⟨Nat.zero_le _, by first | rfl | (rw [sds_len]; rfl) | (rw [sds_len]; simp), by first | exact .inr ⟨rfl, rfl⟩ | exact .inl ⟨rfl, rfl⟩⟩, ?_⟩
      conv => whnf
      exact ⟨L.length - (i + 1), (by show _ < L.length - i; omega), (i + 1, ([] : List Term) ++ y1 :: ys), ⟨hlt, hsucc⟩, rfl, ⟨rfl, rfl, wrap_succ (by omega), trivial⟩, _, rfl, rfl⟩
    | cons z zs =>
      refine ⟨⟨sds_okEl (y1 :: ys), sds_ok _, by show (sds (z :: zs)).length + (sds (y1 :: ys)).length ≤ 4294967296; rw [sds_len, sds_len]; omega⟩, sds ((z :: zs) ++ y1 :: ys), ((z :: zs) ++ y1 :: ys).length, ⟨sds_app (z :: zs) (y1 :: ys), by show _ = (sds (z :: zs)).length + (sds (y1 :: ys)).length; rw [sds_len, sds_len, List.length_append]⟩, ?_⟩
      conv => whnf
      refine ⟨⟨Nat.zero_le _, by first | rfl | (rw [sds_len]; rfl) | (rw [sds_len]; simp), by first | exact .inr ⟨rfl, rfl⟩ | exact .inl ⟨rfl, rfl⟩⟩, ?_⟩
      conv => whnf
      exact ⟨L.length - (i + 1), (by show _ < L.length - i; omega), (i + 1, (z :: zs) ++ y1 :: ys), ⟨hlt, hsucc⟩, rfl, ⟨rfl, rfl, wrap_succ (by omega), trivial⟩, _, rfl, rfl⟩
theorem r_has (l : List By) (s : By) (hl : l.length < 1000000) : SC Tryz.prog 52 [.sl .none (strG l), .s s] [] (.val (.b (l.contains s))) [] := by
  have hlen := strG_len l
  refine SC.of_gwp noM mixed Tryz.func52 rfl (Nat.le_of_ble_eq_true rfl) (by first | exact Nat.le_refl _ | simp) rfl ?_
  conv => whnf
  refine GLoop.intro (fun i : Nat => i ≤ l.length ∧ (l.take i).contains s = false) (fun i => [(0, .sl .none (strG l)), (1, .s s), (4, .b false), (5, .i .i64 (i : Nat))]) (fun _ => ⟨[], 0, []⟩) (fun i => l.length - i) 0 ⟨Nat.zero_le _, rfl⟩ ⟨rfl, rfl, rfl, rfl, trivial⟩ rfl (fun i φ0 hi => ?_)
  obtain ⟨hi, hni⟩ := hi
  conv => whnf
  refine GIf.mk (fun h => ?_) (fun h => ?_) <;> conv => whnf
  rotate_left
  · have hie : i = l.length := by have := of_decide_eq_false h; rw [hlen] at this; omega
    refine owes_b ?_
    rw [hie, List.take_length] at hni
    exact hni.symm
  have hlt : i < l.length := by have := of_decide_eq_true h; rw [hlen] at this; omega
  obtain ⟨y, hy⟩ : ∃ y, l[i]? = some y := ⟨l[i], List.getElem?_eq_getElem hlt⟩
  have hgy : (strG l)[i]? = some (.s y) := by unfold strG; rw [List.getElem?_map, hy]; rfl
  have htk : (l.take (i + 1)).contains s = (s == y) := by
    rw [List.take_add_one, hy]
    rw [List.contains_eq_mem] at hni ⊢
    simp at hni ⊢
    rw [Bool.eq_iff_iff]
    simp [hni]
  refine ⟨Int.natCast_nonneg _, .s y, by rw [Int.toNat_natCast]; exact hgy, rfl, ?_⟩
  conv => whnf
  refine GIf.mk (fun heq => ?_) (fun heq => ?_) <;> conv => whnf
  · refine owes_b ?_
    have e : y = s := by simpa using heq
    rw [e] at hy
    rw [List.contains_eq_mem]
    exact (decide_eq_true (List.mem_of_getElem? hy)).symm
  · refine ⟨l.length - (i + 1), (by show _ < l.length - i; omega), i + 1, ⟨hlt, ?_⟩, rfl, ⟨rfl, rfl, rfl, wrap_succ (by omega), trivial⟩, rfl⟩
    rw [htk]
    have e : ¬ y = s := by simpa using heq
    simp [Ne.symm e]
theorem r_sides : ∀ (n : Nat) (t : Tree), t.size ≤ n → t.size ≤ 5000 → SC Tryz.prog 51 [t.ng] [] (.val (.sl .none (sds (leaves t)))) []
  | 0, t, h, _ => by cases t <;> simp [Tree.size] at h
  | n + 1, t, h, h2 => by
    have hz := leaves_size t
    cases t with
    | truth b =>
      have := r_sd_kids 5 (by decide) [] b (by simp) (by simp) (fun y hy => by cases hy)
      exact this
    | test op l r => exact r_sd_test op l r
    | no t =>
      simp only [Tree.size] at h h2
      have := r_sd_kids 3 (by decide) [t] false (by simp) (by simp [leaves] at hz ⊢; simp only [Tree.size] at hz; omega) (fun y hy => by
        rw [List.mem_singleton.1 hy]; exact r_sides n t (by omega) (by omega))
      have e : [t].flatMap leaves = leaves (.no t) := by simp [leaves]
      rw [e] at this
      exact this
    | pair a l r =>
      have hs := @sides_len a (Tree.pair a l r)
      have hk : ∀ y ∈ (Tree.pair a l r).sides a, SC Tryz.prog 51 [y.ng] [] (.val (.sl .none (sds (leaves y)))) [] := fun y hy => by
        have := sides_lt hy
        exact r_sides n y (by omega) (by omega)
      have := r_sd_kids (opn a) (by cases a <;> decide) ((Tree.pair a l r).sides a) false (by omega) (by rw [leaves_sides]; omega) hk
      rw [leaves_sides] at this
      rw [show (Tree.pair a l r).ng = .agg (ndc (opn a) (ngs ((Tree.pair a l r).sides a)) t0 t0 [] false) by show GV.agg _ = _; rw [ncs_pair]]
      exact this
def addN (l : List By) (x : By) : List By := if x ≠ [] ∧ ¬ x ∈ l then l ++ [x] else l
def itm (t : Term) : By := if t.var then [] else t.name
def vrn (t : Term) : By := if t.var then t.name else []
theorem addN_len (l : List By) (x : By) : (addN l x).length ≤ l.length + 1 := by
  unfold addN; split <;> simp
theorem fold_len (f : Term → By) : ∀ (ts : List Term) (l : List By), (ts.foldl (fun l t => addN l (f t)) l).length ≤ l.length + ts.length
  | [], l => by simp
  | t :: ts, l => by
    have := fold_len f ts (addN l (f t))
    have h2 := addN_len l (f t)
    rw [List.foldl_cons, List.length_cons]; omega
def namesR (f : Term → By) (t : Tree) : List By := (leaves t).foldl (fun l x => addN l (f x)) []
theorem addAll_fold (vr : Bool) : ∀ (t : Tree) (l : List By), addAll vr l t = (leaves t).foldl (fun l x => addN l (if vr then vrn x else itm x)) l
  | .pair _ x y, l => by
    unfold addAll leaves
    rw [List.foldl_append, ← addAll_fold vr x l, ← addAll_fold vr y]
  | .no t, l => by unfold addAll leaves; exact addAll_fold vr t l
  | .test _ a b, l => by
    have key : ∀ (l : List By) (t : Term), addT vr l t = addN l (if vr then vrn t else itm t) := fun l t => by
      obtain ⟨nm, v, x⟩ := t
      unfold addT addN
      cases vr <;> cases v <;> simp [itm, vrn]
    show addT vr (addT vr l a) b = addN (addN l _) _
    rw [key, key]
  | .truth _, l => rfl
def accL : Option Tree → List Term
  | none => []
  | some x => leaves x
theorem leaves_join (a : Bool) (acc : Option Tree) (t : Tree) : leaves (joinA a acc t) = accL acc ++ leaves t := by cases acc <;> rfl
theorem leaves_flatA (a : Bool) : ∀ (t : Tree) (acc : Option Tree), leaves (flatA a acc t) = accL acc ++ leaves t := by
  intro t
  induction t generalizing a with
  | pair b l r i1 i2 =>
    intro acc
    unfold flatA
    split
    · rw [i2]
      show leaves (flatA a acc l) ++ leaves r = accL acc ++ (leaves l ++ leaves r)
      rw [i1, List.append_assoc]
    · rw [leaves_join, i2]
      show accL acc ++ (leaves (flatA b none l) ++ leaves r) = accL acc ++ (leaves l ++ leaves r)
      rw [i1]; rfl
  | no t i =>
    intro acc
    unfold flatA
    rw [leaves_join]
    show _ ++ leaves (flatA true none t) = _
    rw [i]; rfl
  | test op l r => intro acc; unfold flatA; rw [leaves_join]
  | truth b => intro acc; unfold flatA; rw [leaves_join]
theorem leaves_flat (t : Tree) : leaves t.flat = leaves t := by
  unfold Tree.flat; rw [leaves_flatA]; rfl
end Go.Proofs.YtlhabmglchgdnaaGreatDoor
namespace Go.Proofs.YtlhabmglchgdnaaGreatDoor
open Go.RowKit
set_option maxRecDepth 100000
set_option linter.unusedVariables false
def namesG (f : Term → By) (s : By) : GV := match readR s with
  | .ok t => .tup [.sl .none (strG (namesR f t)), .i .i64 0]
  | .err e => .tup [.sl .none [], .i .i64 e]
def part (f : Term → By) (L : List Term) (i : Nat) : List By := (L.take i).foldl (fun l x => addN l (f x)) []
theorem part_succ {f : Term → By} {L : List Term} {i : Nat} {y : Term} (h : L[i]? = some y) : part f L (i + 1) = addN (part f L i) (f y) := by
  unfold part
  rw [List.take_add_one, h, List.foldl_append]; rfl
theorem part_len (f : Term → By) (L : List Term) (i : Nat) : (part f L i).length ≤ L.length := by
  have := fold_len f (L.take i) []
  simp at this
  unfold part; omega
theorem r_Names (s : By) (hs : s.length < 1000000) : SC Tryz.prog 15 [.s s] [] (.val (namesG itm s)) [] := by
  have hr := r_Read s hs
  have hrc := readRG_cl s
  unfold readRG at hr hrc
  unfold namesG
  cases hx : readR s with
  | err e =>
    rw [hx] at hr hrc
    replace hr : SC Tryz.prog 48 [.s s] [] (.val (.tup [nodeN, .i .i64 e])) [] := hr
    replace hrc : Cl (.tup [nodeN, .i .i64 e]) := hrc
    have he := readR_err hx
    simp only
    refine SC.of_gwp noM mixed Tryz.func15 rfl (Nat.le_of_ble_eq_true rfl) (by first | exact Nat.le_refl _ | simp) rfl ?_
    conv => whnf
    refine callP hr (Wks.refl _) rfl (fun _ => rfl) hrc ?_
    conv => whnf
    refine ⟨_, ⟨rfl, Nat.zero_le _, rfl, Nat.le_of_ble_eq_true rfl⟩, ?_⟩
    conv => whnf
    refine GIf.mk (fun h2 => ?_) (fun h2 => ?_) <;> conv => whnf
    · exact owes_wk (wk_t2 (Wk.sl _ _) (.refl _)) (Cl.tup (.cons (Cl.sl ClL.nil) (.cons (.i _ _) .nil)))
    · exfalso
      have : e = 0 := by simpa using h2
      omega
  | ok t =>
    rw [hx] at hr hrc
    replace hr : SC Tryz.prog 48 [.s s] [] (.val (.tup [t.ng, .i .i64 0])) [] := hr
    replace hrc : Cl (.tup [t.ng, .i .i64 0]) := hrc
    have hz := readR_size hx
    have hsd := r_sides 5000 t (by omega) (by omega)
    have hll := leaves_size t
    have hcl := t.ng_cl
    obtain ⟨k, kids, A, B, op, yes, hng⟩ := ng_form t
    rw [hng] at hr hrc hsd hcl
    have hncl : ClL (ndc k kids A B op yes) := by
      have h9 : t.ncs = ndc k kids A B op yes := by
        have h8 : GV.agg t.ncs = GV.agg (ndc k kids A B op yes) := hng
        injection h8
      rw [← h9]; exact t.ncs_cl
    simp only
    unfold namesR
    generalize leaves t = L at *
    have hsl := sds_len L
    refine SC.of_gwp noM mixed Tryz.func15 rfl (Nat.le_of_ble_eq_true rfl) (by first | exact Nat.le_refl _ | simp) rfl ?_
    conv => whnf
    refine callP hr (Wks.refl _) rfl (fun _ => rfl) hrc ?_
    conv => whnf
    refine ⟨_, ⟨rfl, Nat.zero_le _, rfl, Nat.le_of_ble_eq_true rfl⟩, ?_⟩
    conv => whnf
    refine callP hsd (Wks.refl _) rfl (ClL.cons hcl .nil) (Cl.sl (sds_cl _)) ?_
    conv => whnf
    refine GLoop.introS (fun q : Nat × List By => q.1 ≤ L.length ∧ part itm L q.1 = q.2) (fun q => [(6, .sl (.own 2) (strG q.2)), (7, .sl .none (sds L)), (8, .i .i64 (q.1 : Nat))])
      (fun q => ⟨[.own 0 0 0, .box 69 (ndc k kids A B op yes), ow 9 1 q.2.length], 0, []⟩) (fun q => L.length - q.1) (0, []) ⟨Nat.zero_le _, rfl⟩ ⟨rfl, rfl, rfl, trivial⟩ rfl (fun _ _ => Nat.le_refl _) (fun q _ => by simp only [List.all_cons, ow_held]; rfl) (fun q _ e he => ?_) (fun q φ0 hi => ?_)
    · have hkc : (GObj.box 69 (ndc k kids A B op yes)).ren e = .box 69 (ndc k kids A B op yes) := GObj.box_cl hncl e
      refine ⟨?_, rfl, ?_⟩
      · show [_, (GObj.box 69 (ndc k kids A B op yes)).ren e, (ow _ 1 _).ren e] = _
        rw [ow_ren, hkc]; rfl
      · show [(GV.sl (.own 2) (strG q.2)).ren e, (GV.sl .none (sds L)).ren e, _] = _
        rw [ren_own (he 2 (by simp)) (strG_cl _), Cl.sl (sds_cl L) e]; rfl
    obtain ⟨i, o⟩ := q
    obtain ⟨hi, ho⟩ := hi
    replace hi : i ≤ L.length := hi
    replace ho : part itm L i = o := ho
    conv => whnf
    refine GIf.mk (fun h => ?_) (fun h => ?_) <;> conv => whnf
    rotate_left
    · have hie : i = L.length := by have := of_decide_eq_false h; rw [hsl] at this; omega
      have hoe : o = L.foldl (fun l x => addN l (itm x)) [] := by rw [← ho, hie]; unfold part; rw [List.take_length]
      rw [← hoe]
      exact owes_wk (wk_t2 (Wk.sl _ _) (.refl _)) (Cl.tup (.cons (Cl.sl (strG_cl _)) (.cons (.i _ _) .nil)))
    have hlt : i < L.length := by have := of_decide_eq_true h; rw [hsl] at this; omega
    obtain ⟨y, hy⟩ : ∃ y, L[i]? = some y := ⟨L[i], List.getElem?_eq_getElem hlt⟩
    have hgy : (sds L)[i]? = some (.agg [.s (itm y), .s (vrn y), .i .i64 y.v.k, .i .i64 y.v.n, .s y.v.s]) := by unfold sds; rw [List.getElem?_map, hy]; rfl
    have hsucc := part_succ (f := itm) hy
    have hle := part_len itm L i
    rw [ho] at hsucc hle
    generalize itm y = X1 at *
    generalize vrn y = X2 at *
    have hhas := r_has o X1 (by omega)
    refine ⟨Int.natCast_nonneg _, _, by rw [Int.toNat_natCast]; exact hgy, rfl, ?_⟩
    conv => whnf
    refine GIf.mk (fun c1 => ?_) (fun c1 => ?_) <;> conv => whnf
    rotate_left
    · have c1' : X1 = [] := by simpa using c1
      have hno : addN o X1 = o := if_neg (fun h => h.1 c1')
      rw [hno] at hsucc
      exact ⟨L.length - (i + 1), (by show _ < L.length - i; omega), (i + 1, o), ⟨hlt, hsucc⟩, rfl, ⟨rfl, rfl, wrap_succ (by omega), trivial⟩, [], rfl, rfl⟩
    have c1' : X1 ≠ [] := by simpa using c1
    refine ⟨Int.natCast_nonneg _, _, by rw [Int.toNat_natCast]; exact hgy, rfl, ?_⟩
    conv => whnf
    refine callP hhas (Wks.cons (Wk.sl _ _) (Wks.refl _)) rfl (ClL.cons (Cl.sl (strG_cl o)) (.cons (.s _) .nil)) (.b _) ?_
    conv => whnf
    refine GIf.mk (fun c2 => ?_) (fun c2 => ?_) <;> conv => whnf
    rotate_left
    · have c2' : X1 ∈ o := by simpa using c2
      have hno : addN o X1 = o := if_neg (fun h => h.2 c2')
      rw [hno] at hsucc
      exact ⟨L.length - (i + 1), (by show _ < L.length - i; omega), (i + 1, o), ⟨hlt, hsucc⟩, rfl, ⟨rfl, rfl, wrap_succ (by omega), trivial⟩, [], rfl, rfl⟩
    have c2' : ¬ X1 ∈ o := by simpa using c2
    have hyes : addN o X1 = o ++ [X1] := if_pos ⟨c1', c2'⟩
    rw [hyes] at hsucc
    refine ⟨Int.natCast_nonneg _, _, by rw [Int.toNat_natCast]; exact hgy, rfl, ?_⟩
    conv => whnf
    cases o with
    | nil =>
      refine ⟨⟨rfl, strG_ok _, by show (strG ([] : List By)).length + 1 ≤ 4294967296; rw [strG_len]; omega⟩, strG (([] : List By) ++ [X1]), (([] : List By) ++ [X1]).length, ⟨(by show strG (([] : List By) ++ [X1]) = strG ([] : List By) ++ [GV.s X1]; simp [strG]), by show _ = (strG ([] : List By)).length + 1; rw [strG_len]; simp⟩, ?_⟩
      conv => whnf
      refine ⟨⟨Nat.zero_le _, by first | rfl | (rw [strG_len]; rfl) | (rw [strG_len]; simp), by first | exact .inr ⟨rfl, rfl⟩ | exact .inl ⟨rfl, rfl⟩⟩, ?_⟩
      conv => whnf
      exact ⟨L.length - (i + 1), (by show _ < L.length - i; omega), (i + 1, ([] : List By) ++ [X1]), ⟨hlt, hsucc⟩, rfl, ⟨rfl, rfl, wrap_succ (by omega), trivial⟩, _, rfl, rfl⟩
    | cons z zs =>
      refine ⟨⟨rfl, strG_ok _, by show (strG (z :: zs)).length + 1 ≤ 4294967296; rw [strG_len]; omega⟩, strG ((z :: zs) ++ [X1]), ((z :: zs) ++ [X1]).length, ⟨(by show strG ((z :: zs) ++ [X1]) = strG (z :: zs) ++ [GV.s X1]; simp [strG]), by show _ = (strG (z :: zs)).length + 1; rw [strG_len]; simp⟩, ?_⟩
      conv => whnf
      refine ⟨⟨Nat.zero_le _, by first | rfl | (rw [strG_len]; rfl) | (rw [strG_len]; simp), by first | exact .inr ⟨rfl, rfl⟩ | exact .inl ⟨rfl, rfl⟩⟩, ?_⟩
      conv => whnf
      exact ⟨L.length - (i + 1), (by show _ < L.length - i; omega), (i + 1, (z :: zs) ++ [X1]), ⟨hlt, hsucc⟩, rfl, ⟨rfl, rfl, wrap_succ (by omega), trivial⟩, _, rfl, rfl⟩
theorem r_Vars (s : By) (hs : s.length < 1000000) : SC Tryz.prog 18 [.s s] [] (.val (namesG vrn s)) [] := by
  have hr := r_Read s hs
  have hrc := readRG_cl s
  unfold readRG at hr hrc
  unfold namesG
  cases hx : readR s with
  | err e =>
    rw [hx] at hr hrc
    replace hr : SC Tryz.prog 48 [.s s] [] (.val (.tup [nodeN, .i .i64 e])) [] := hr
    replace hrc : Cl (.tup [nodeN, .i .i64 e]) := hrc
    have he := readR_err hx
    simp only
    refine SC.of_gwp noM mixed Tryz.func18 rfl (Nat.le_of_ble_eq_true rfl) (by first | exact Nat.le_refl _ | simp) rfl ?_
    conv => whnf
    refine callP hr (Wks.refl _) rfl (fun _ => rfl) hrc ?_
    conv => whnf
    refine ⟨_, ⟨rfl, Nat.zero_le _, rfl, Nat.le_of_ble_eq_true rfl⟩, ?_⟩
    conv => whnf
    refine GIf.mk (fun h2 => ?_) (fun h2 => ?_) <;> conv => whnf
    · exact owes_wk (wk_t2 (Wk.sl _ _) (.refl _)) (Cl.tup (.cons (Cl.sl ClL.nil) (.cons (.i _ _) .nil)))
    · exfalso
      have : e = 0 := by simpa using h2
      omega
  | ok t =>
    rw [hx] at hr hrc
    replace hr : SC Tryz.prog 48 [.s s] [] (.val (.tup [t.ng, .i .i64 0])) [] := hr
    replace hrc : Cl (.tup [t.ng, .i .i64 0]) := hrc
    have hz := readR_size hx
    have hsd := r_sides 5000 t (by omega) (by omega)
    have hll := leaves_size t
    have hcl := t.ng_cl
    obtain ⟨k, kids, A, B, op, yes, hng⟩ := ng_form t
    rw [hng] at hr hrc hsd hcl
    have hncl : ClL (ndc k kids A B op yes) := by
      have h9 : t.ncs = ndc k kids A B op yes := by
        have h8 : GV.agg t.ncs = GV.agg (ndc k kids A B op yes) := hng
        injection h8
      rw [← h9]; exact t.ncs_cl
    simp only
    unfold namesR
    generalize leaves t = L at *
    have hsl := sds_len L
    refine SC.of_gwp noM mixed Tryz.func18 rfl (Nat.le_of_ble_eq_true rfl) (by first | exact Nat.le_refl _ | simp) rfl ?_
    conv => whnf
    refine callP hr (Wks.refl _) rfl (fun _ => rfl) hrc ?_
    conv => whnf
    refine ⟨_, ⟨rfl, Nat.zero_le _, rfl, Nat.le_of_ble_eq_true rfl⟩, ?_⟩
    conv => whnf
    refine callP hsd (Wks.refl _) rfl (ClL.cons hcl .nil) (Cl.sl (sds_cl _)) ?_
    conv => whnf
    refine GLoop.introS (fun q : Nat × List By => q.1 ≤ L.length ∧ part vrn L q.1 = q.2) (fun q => [(6, .sl (.own 2) (strG q.2)), (7, .sl .none (sds L)), (8, .i .i64 (q.1 : Nat))])
      (fun q => ⟨[.own 0 0 0, .box 69 (ndc k kids A B op yes), ow 9 1 q.2.length], 0, []⟩) (fun q => L.length - q.1) (0, []) ⟨Nat.zero_le _, rfl⟩ ⟨rfl, rfl, rfl, trivial⟩ rfl (fun _ _ => Nat.le_refl _) (fun q _ => by simp only [List.all_cons, ow_held]; rfl) (fun q _ e he => ?_) (fun q φ0 hi => ?_)
    · have hkc : (GObj.box 69 (ndc k kids A B op yes)).ren e = .box 69 (ndc k kids A B op yes) := GObj.box_cl hncl e
      refine ⟨?_, rfl, ?_⟩
      · show [_, (GObj.box 69 (ndc k kids A B op yes)).ren e, (ow _ 1 _).ren e] = _
        rw [ow_ren, hkc]; rfl
      · show [(GV.sl (.own 2) (strG q.2)).ren e, (GV.sl .none (sds L)).ren e, _] = _
        rw [ren_own (he 2 (by simp)) (strG_cl _), Cl.sl (sds_cl L) e]; rfl
    obtain ⟨i, o⟩ := q
    obtain ⟨hi, ho⟩ := hi
    replace hi : i ≤ L.length := hi
    replace ho : part vrn L i = o := ho
    conv => whnf
    refine GIf.mk (fun h => ?_) (fun h => ?_) <;> conv => whnf
    rotate_left
    · have hie : i = L.length := by have := of_decide_eq_false h; rw [hsl] at this; omega
      have hoe : o = L.foldl (fun l x => addN l (vrn x)) [] := by rw [← ho, hie]; unfold part; rw [List.take_length]
      rw [← hoe]
      exact owes_wk (wk_t2 (Wk.sl _ _) (.refl _)) (Cl.tup (.cons (Cl.sl (strG_cl _)) (.cons (.i _ _) .nil)))
    have hlt : i < L.length := by have := of_decide_eq_true h; rw [hsl] at this; omega
    obtain ⟨y, hy⟩ : ∃ y, L[i]? = some y := ⟨L[i], List.getElem?_eq_getElem hlt⟩
    have hgy : (sds L)[i]? = some (.agg [.s (itm y), .s (vrn y), .i .i64 y.v.k, .i .i64 y.v.n, .s y.v.s]) := by unfold sds; rw [List.getElem?_map, hy]; rfl
    have hsucc := part_succ (f := vrn) hy
    have hle := part_len vrn L i
    rw [ho] at hsucc hle
    generalize itm y = X1 at *
    generalize vrn y = X2 at *
    have hhas := r_has o X2 (by omega)
    refine ⟨Int.natCast_nonneg _, _, by rw [Int.toNat_natCast]; exact hgy, rfl, ?_⟩
    conv => whnf
    refine GIf.mk (fun c1 => ?_) (fun c1 => ?_) <;> conv => whnf
    rotate_left
    · have c1' : X2 = [] := by simpa using c1
      have hno : addN o X2 = o := if_neg (fun h => h.1 c1')
      rw [hno] at hsucc
      exact ⟨L.length - (i + 1), (by show _ < L.length - i; omega), (i + 1, o), ⟨hlt, hsucc⟩, rfl, ⟨rfl, rfl, wrap_succ (by omega), trivial⟩, [], rfl, rfl⟩
    have c1' : X2 ≠ [] := by simpa using c1
    refine ⟨Int.natCast_nonneg _, _, by rw [Int.toNat_natCast]; exact hgy, rfl, ?_⟩
    conv => whnf
    refine callP hhas (Wks.cons (Wk.sl _ _) (Wks.refl _)) rfl (ClL.cons (Cl.sl (strG_cl o)) (.cons (.s _) .nil)) (.b _) ?_
    conv => whnf
    refine GIf.mk (fun c2 => ?_) (fun c2 => ?_) <;> conv => whnf
    rotate_left
    · have c2' : X2 ∈ o := by simpa using c2
      have hno : addN o X2 = o := if_neg (fun h => h.2 c2')
      rw [hno] at hsucc
      exact ⟨L.length - (i + 1), (by show _ < L.length - i; omega), (i + 1, o), ⟨hlt, hsucc⟩, rfl, ⟨rfl, rfl, wrap_succ (by omega), trivial⟩, [], rfl, rfl⟩
    have c2' : ¬ X2 ∈ o := by simpa using c2
    have hyes : addN o X2 = o ++ [X2] := if_pos ⟨c1', c2'⟩
    rw [hyes] at hsucc
    refine ⟨Int.natCast_nonneg _, _, by rw [Int.toNat_natCast]; exact hgy, rfl, ?_⟩
    conv => whnf
    cases o with
    | nil =>
      refine ⟨⟨rfl, strG_ok _, by show (strG ([] : List By)).length + 1 ≤ 4294967296; rw [strG_len]; omega⟩, strG (([] : List By) ++ [X2]), (([] : List By) ++ [X2]).length, ⟨(by show strG (([] : List By) ++ [X2]) = strG ([] : List By) ++ [GV.s X2]; simp [strG]), by show _ = (strG ([] : List By)).length + 1; rw [strG_len]; simp⟩, ?_⟩
      conv => whnf
      refine ⟨⟨Nat.zero_le _, by first | rfl | (rw [strG_len]; rfl) | (rw [strG_len]; simp), by first | exact .inr ⟨rfl, rfl⟩ | exact .inl ⟨rfl, rfl⟩⟩, ?_⟩
      conv => whnf
      exact ⟨L.length - (i + 1), (by show _ < L.length - i; omega), (i + 1, ([] : List By) ++ [X2]), ⟨hlt, hsucc⟩, rfl, ⟨rfl, rfl, wrap_succ (by omega), trivial⟩, _, rfl, rfl⟩
    | cons z zs =>
      refine ⟨⟨rfl, strG_ok _, by show (strG (z :: zs)).length + 1 ≤ 4294967296; rw [strG_len]; omega⟩, strG ((z :: zs) ++ [X2]), ((z :: zs) ++ [X2]).length, ⟨(by show strG ((z :: zs) ++ [X2]) = strG (z :: zs) ++ [GV.s X2]; simp [strG]), by show _ = (strG (z :: zs)).length + 1; rw [strG_len]; simp⟩, ?_⟩
      conv => whnf
      refine ⟨⟨Nat.zero_le _, by first | rfl | (rw [strG_len]; rfl) | (rw [strG_len]; simp), by first | exact .inr ⟨rfl, rfl⟩ | exact .inl ⟨rfl, rfl⟩⟩, ?_⟩
      conv => whnf
      exact ⟨L.length - (i + 1), (by show _ < L.length - i; omega), (i + 1, (z :: zs) ++ [X2]), ⟨hlt, hsucc⟩, rfl, ⟨rfl, rfl, wrap_succ (by omega), trivial⟩, _, rfl, rfl⟩
end Go.Proofs.YtlhabmglchgdnaaGreatDoor
namespace Go.Proofs.YtlhabmglchgdnaaGreatDoor
open Go.RowKit
set_option maxRecDepth 100000
set_option linter.unusedVariables false
theorem names_eq (s : By) (vr : Bool) : namesG (if vr then vrn else itm) s = gathS s vr := by
  unfold namesG gathS
  have hr := readR_eq s
  cases hx : readR s with
  | err e => rw [hx] at hr; rw [hr]
  | ok t =>
    rw [hx] at hr; rw [hr]
    simp only
    unfold namesR
    rw [addAll_fold, leaves_flat]
    cases vr <;> rfl
theorem l_sameNames (l : List By) (hl : l.length < 1000000) : SC Tryz.prog 16 [.sl .none (strG l), .sl .none (strG l)] [] (.val (.b true)) [] := by
  have hlen := strG_len l
  refine SC.of_gwp noM mixed Tryz.func16 rfl (Nat.le_of_ble_eq_true rfl) (by first | exact Nat.le_refl _ | simp) rfl ?_
  conv => whnf
  refine GIf.mk (fun h0 => ?_) (fun h0 => ?_) <;> conv => whnf
  · simp at h0
  refine GLoop.intro (fun i : Nat => i ≤ l.length) (fun i => [(0, .sl .none (strG l)), (1, .sl .none (strG l)), (5, .i .i64 (i : Nat))]) (fun _ => ⟨[], 0, []⟩) (fun i => l.length - i) 0 (Nat.zero_le _) ⟨rfl, rfl, rfl, trivial⟩ rfl (fun i φ0 hi => ?_)
  conv => whnf
  refine GIf.mk (fun h => ?_) (fun h => ?_) <;> conv => whnf
  rotate_left
  · exact owes_b rfl
  have hlt : i < l.length := by have := of_decide_eq_true h; rw [hlen] at this; omega
  obtain ⟨y, hy⟩ : ∃ y, l[i]? = some y := ⟨l[i], List.getElem?_eq_getElem hlt⟩
  have hgy : (strG l)[i]? = some (.s y) := by unfold strG; rw [List.getElem?_map, hy]; rfl
  refine GDraw.calm (by kernel_rfl) ?_
  conv => whnf
  refine ⟨Int.natCast_nonneg _, .s y, by rw [Int.toNat_natCast]; exact hgy, rfl, ?_⟩
  conv => whnf
  refine ⟨Int.natCast_nonneg _, .s y, by rw [Int.toNat_natCast]; exact hgy, rfl, ?_⟩
  conv => whnf
  refine GIf.mk (fun hne => ?_) (fun hne => ?_) <;> conv => whnf
  · simp at hne
  · exact ⟨l.length - (i + 1), (by show _ < l.length - i; omega), i + 1, hlt, rfl, ⟨rfl, rfl, wrap_succ (by omega), trivial⟩, rfl⟩
def wakeT : By := [97, 61, 49, 32, 97, 110, 100, 32, 40, 98, 60, 62, 34, 120, 34, 32, 111, 114, 32, 110, 111, 116, 40, 99, 32, 60, 32, 58, 118, 41, 41]
def wakeS : By := [97, 32, 61, 32, 49, 32, 97, 110, 100, 32, 40, 98, 32, 60, 62, 32, 34, 120, 34, 32, 111, 114, 32, 110, 111, 116, 32, 99, 32, 60, 32, 58, 118, 41]
theorem wake_show : showS wakeT = (wakeS, 0) := by
  rw [← showR_eq]
  kernel_rfl
theorem l_awake : SC Tryz.prog 9 [] [] (.val (.b true)) [] := by
  have h := c_Show wakeT (by unfold most wakeT; simp)
  rw [wake_show] at h
  replace h : SC Tryz.prog 10 [.s wakeT] [] (.val (.tup [.s wakeS, .i .i64 0])) [] := h
  refine SC.of_gwp noM mixed Tryz.func9 rfl (Nat.le_of_ble_eq_true rfl) (by first | exact Nat.le_refl _ | simp) rfl ?_
  conv => whnf
  refine callP h (Wks.refl _) rfl (fun _ => rfl) (fun _ => rfl) ?_
  conv => whnf
  exact owes_b rfl
theorem showS_len (s : By) : (showS s).1.length ≤ 1000 := by
  unfold showS
  split
  · unfold resS
    split
    · exact Nat.zero_le _
    · rename_i h
      show List.length _ ≤ 1000
      rcases Nat.lt_or_ge 1000 (List.length (Tree.plain (Tree.flat _))) with h1 | h1
      · exact absurd (.inl h1) h
      · exact h1
  · exact Nat.zero_le _
theorem gathL_len (s : By) (vr : Bool) : (gathL s vr).length ≤ 10000 := by
  unfold gathL
  split
  · rename_i t h
    have h1 := (readS_bound h).2.1
    have h2 := leaves_size t
    rw [addAll_fold]
    have := fold_len (if vr then vrn else itm) (leaves t) []
    simp at this
    have e : (fun (l : List By) x => addN l (if vr = true then vrn x else itm x)) = fun l x => addN l ((if vr = true then vrn else itm) x) := by
      cases vr <;> rfl
    rw [e]
    simp; omega
  · exact Nat.zero_le _
theorem l_CondShows (s : By) (hs : s.length ≤ maxLen) : SC Tryz.prog 3 [.s s] [] (.val (.b true)) [] := by
  have haw := l_awake
  by_cases hl : 2000 < s.length
  · skip
    refine SC.of_gwp noM mixed Tryz.func3 rfl (Nat.le_of_ble_eq_true rfl) (by first | exact Nat.le_refl _ | simp) rfl ?_
    conv => whnf
    refine GIf.mk (fun h => ?_) (fun h => ?_) <;> conv => whnf
    · skip
      refine callP haw (Wks.refl _) rfl (fun _ => rfl) (.b _) ?_
      conv => whnf
      exact owes_b rfl
    · exfalso; have := of_decide_eq_false h; omega
  · have c1 := c_Show s (by unfold most; omega)
    have r1 := r_Show s (by omega)
    have c2 := c_Valid s (by unfold most; omega)
    have r2 := r_Valid s (by omega)
    have hlen := showS_len s
    have c3 := c_Show (showS s).1 (by unfold most; omega)
    have hag := show_again (s := s)
    have c4 := c_Names s (by unfold most; omega)
    have c5 := c_Vars s (by unfold most; omega)
    have r4 := r_Names s (by omega)
    have r5 := r_Vars s (by omega)
    rw [show namesG itm s = gathS s false from names_eq s false] at r4
    rw [show namesG vrn s = gathS s true from names_eq s true] at r5
    rw [showR_eq] at r1 r2
    rw [gathS_eq] at c4 c5 r4 r5
    have s4 := l_sameNames (gathL s false) (by have := gathL_len s false; omega)
    have s5 := l_sameNames (gathL s true) (by have := gathL_len s true; omega)
    have k4 : ClL (strG (gathL s false)) := strG_cl _
    have k5 : ClL (strG (gathL s true)) := strG_cl _
    replace c4 : SC Tryz.prog 14 [.s s] [] (.val (.tup [.sl .none (strG (gathL s false)), .i .i64 (readE s)])) [] := c4
    replace c5 : SC Tryz.prog 17 [.s s] [] (.val (.tup [.sl .none (strG (gathL s true)), .i .i64 (readE s)])) [] := c5
    replace r4 : SC Tryz.prog 15 [.s s] [] (.val (.tup [.sl .none (strG (gathL s false)), .i .i64 (readE s)])) [] := r4
    replace r5 : SC Tryz.prog 18 [.s s] [] (.val (.tup [.sl .none (strG (gathL s true)), .i .i64 (readE s)])) [] := r5
    generalize strG (gathL s false) = N4 at *
    generalize strG (gathL s true) = N5 at *
    generalize readE s = E at *
    generalize showS s = q at *
    obtain ⟨x, e⟩ := q
    simp only at c1 r1 c2 r2 c3 hag
    generalize showS x = q2 at *
    obtain ⟨y, g⟩ := q2
    simp only at c3
    have c4c : Cl (.tup [.sl .none N4, .i .i64 E]) := Cl.tup (.cons (Cl.sl k4) (.cons (.i _ _) .nil))
    have c5c : Cl (.tup [.sl .none N5, .i .i64 E]) := Cl.tup (.cons (Cl.sl k5) (.cons (.i _ _) .nil))
    refine SC.of_gwp noM mixed Tryz.func3 rfl (Nat.le_of_ble_eq_true rfl) (by first | exact Nat.le_refl _ | simp) rfl ?_
    conv => whnf
    refine GIf.mk (fun h => ?_) (fun h => ?_) <;> conv => whnf
    · exfalso; have := of_decide_eq_true h; omega
    refine callP c1 (Wks.refl _) rfl (fun _ => rfl) (fun _ => rfl) ?_
    conv => whnf
    refine callP r1 (Wks.refl _) rfl (fun _ => rfl) (fun _ => rfl) ?_
    conv => whnf
    refine GIf.mk (fun n1 => ?_) (fun n1 => ?_) <;> conv => whnf
    · simp at n1
    refine GIf.mk (fun n2 => ?_) (fun n2 => ?_) <;> conv => whnf
    · simp at n2
    refine callP c2 (Wks.refl _) rfl (fun _ => rfl) (.b _) ?_
    conv => whnf
    refine callP r2 (Wks.refl _) rfl (fun _ => rfl) (.b _) ?_
    conv => whnf
    refine GIf.mk (fun n3 => ?_) (fun n3 => ?_) <;> conv => whnf
    · simp at n3
    refine callP c3 (Wks.refl _) rfl (fun _ => rfl) (fun _ => rfl) ?_
    conv => whnf
    refine GIf.mk (fun z => ?_) (fun z => ?_) <;> conv => whnf
    · have he0 : e = 0 := by simpa using z
      have hh := hag he0
      have hy : y = x := congrArg Prod.fst hh
      have hg : g = 0 := congrArg Prod.snd hh
      refine GIf.mk (fun g1 => ?_) (fun g1 => ?_) <;> conv => whnf
      · rw [hg] at g1; simp at g1
      refine GIf.mk (fun g2 => ?_) (fun g2 => ?_) <;> conv => whnf
      · rw [hy] at g2; simp at g2
      refine callP c4 (Wks.refl _) rfl (fun _ => rfl) c4c ?_
      conv => whnf
      refine callP r4 (Wks.refl _) rfl (fun _ => rfl) c4c ?_
      conv => whnf
      refine GIf.mk (fun f1 => ?_) (fun f1 => ?_) <;> conv => whnf
      · simp at f1
      refine callP s4 (Wks.refl _) rfl (ClL.cons (Cl.sl k4) (.cons (Cl.sl k4) .nil)) (.b _) ?_
      conv => whnf
      refine callP c5 (Wks.refl _) rfl (fun _ => rfl) c5c ?_
      conv => whnf
      refine callP r5 (Wks.refl _) rfl (fun _ => rfl) c5c ?_
      conv => whnf
      refine GIf.mk (fun f2 => ?_) (fun f2 => ?_) <;> conv => whnf
      rotate_left
      · simp at f2
      refine callP s5 (Wks.refl _) rfl (ClL.cons (Cl.sl k5) (.cons (Cl.sl k5) .nil)) (.b _) ?_
      conv => whnf
      refine callP haw (Wks.refl _) rfl (fun _ => rfl) (.b _) ?_
      conv => whnf
      exact owes_b rfl
    · skip
      refine callP c4 (Wks.refl _) rfl (fun _ => rfl) c4c ?_
      conv => whnf
      refine callP r4 (Wks.refl _) rfl (fun _ => rfl) c4c ?_
      conv => whnf
      refine GIf.mk (fun f1 => ?_) (fun f1 => ?_) <;> conv => whnf
      · simp at f1
      refine callP s4 (Wks.refl _) rfl (ClL.cons (Cl.sl k4) (.cons (Cl.sl k4) .nil)) (.b _) ?_
      conv => whnf
      refine callP c5 (Wks.refl _) rfl (fun _ => rfl) c5c ?_
      conv => whnf
      refine callP r5 (Wks.refl _) rfl (fun _ => rfl) c5c ?_
      conv => whnf
      refine GIf.mk (fun f2 => ?_) (fun f2 => ?_) <;> conv => whnf
      rotate_left
      · simp at f2
      refine callP s5 (Wks.refl _) rfl (ClL.cons (Cl.sl k5) (.cons (Cl.sl k5) .nil)) (.b _) ?_
      conv => whnf
      refine callP haw (Wks.refl _) rfl (fun _ => rfl) (.b _) ?_
      conv => whnf
      exact owes_b rfl
end Go.Proofs.YtlhabmglchgdnaaGreatDoor
namespace Go.Proofs.YtlhabmglchgdnaaGreatDoor
theorem condShows_holds : Rows.CondShowsCardSaid := condShows_card_of (condShows_of fun s hs => ⟨[], l_CondShows s hs⟩)
end Go.Proofs.YtlhabmglchgdnaaGreatDoor
