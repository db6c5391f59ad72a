/-
  The text of every currencies, and what every text is read as.
-/
import Derived.Test.YtcbknpdjdlgljaaGreatDoorQ24
import Derived.HandedShaped
import Derived.Shelf.Vars
import Derived.Test.YtcbknpdjdlgljaaGreatDoorTie
import Derived.Test.YtcbknpdjdlgljaaGreatDoorCards
import Derived.Carry
import Derived.Lay
import Derived.Deep.DeepHandedRow
set_option linter.all false
namespace Go.Proofs.YtcbknpdjdlgljaaGreatDoor
open Go Go.ChangeShapes Go.WideShapes Go.RowKit Go.ChangeMaps
set_option maxRecDepth 100000
set_option linter.unusedVariables false
def iv : GV → Option Int
  | .i _ n => some n
  | _ => none
theorem told [MaxL] {W : World} (h : laidMetH Tryz.prog Rows.currentTextsUptoRow.laid W) (hm : W.cell? ⟨2, 0, none⟩ = some (.int .i64 MaxL.m)) (hms : ∃ c t fr, W.heap[(2 : Nat)]? = some (.cells c t fr) ∧ c.size = 1) : Told W := by
  rw [MakeChecks.laidMetH_plain _ _ _ (by kernel_rfl)] at h
  obtain ⟨ps, ⟨gA, tA, csA, fA, pA, qA, hgA, htA, hvA, hdA, ⟨gB, tB, csB, fB, pB, qB, hgB, htB, hvB, hdB, ⟨gC, tC, csC, fC, pC, qC, hgC, htC, hvC, hdC, ⟨gD, tD, csD, fD, pD, qD, hgD, htD, hvD, hdD, ⟨gE, tE, csE, fE, pE, qE, hgE, htE, hvE, hdE, ⟨gF, tF, csF, fF, pF, qF, hgF, htF, hvF, hdF, ⟨gG, tG, csG, fG, pG, qG, hgG, htG, hvG, hdG, eN, eG⟩, eF⟩, eE⟩, eD⟩, eC⟩, eB⟩, eA⟩, hnd, hrows⟩ := h
  obtain rfl := Option.some.inj ((show Tryz.prog.globalNamed "math/bits.deBruijn32tab" = some 6 by kernel_rfl).symm.trans hgA)
  obtain rfl := Option.some.inj ((show (Tryz.prog.globals[(6 : Nat)]?).map (·.type) = some 393 by kernel_rfl).symm.trans htA)
  obtain rfl := Option.some.inj ((show Tryz.prog.globalNamed "math/bits.deBruijn64tab" = some 7 by kernel_rfl).symm.trans hgB)
  obtain rfl := Option.some.inj ((show (Tryz.prog.globals[(7 : Nat)]?).map (·.type) = some 394 by kernel_rfl).symm.trans htB)
  obtain rfl := Option.some.inj ((show Tryz.prog.globalNamed "internal/strconv.uint64pow10" = some 3 by kernel_rfl).symm.trans hgC)
  obtain rfl := Option.some.inj ((show (Tryz.prog.globals[(3 : Nat)]?).map (·.type) = some 306 by kernel_rfl).symm.trans htC)
  obtain rfl := Option.some.inj ((show Tryz.prog.globalNamed "strconv.ErrRange" = some 1 by kernel_rfl).symm.trans hgE)
  obtain rfl := Option.some.inj ((show (Tryz.prog.globals[(1 : Nat)]?).map (·.type) = some 76 by kernel_rfl).symm.trans htE)
  obtain rfl := Option.some.inj ((show Tryz.prog.globalNamed "strconv.ErrSyntax" = some 0 by kernel_rfl).symm.trans hgF)
  obtain rfl := Option.some.inj ((show (Tryz.prog.globals[(0 : Nat)]?).map (·.type) = some 76 by kernel_rfl).symm.trans htF)
  obtain ⟨lE⟩ := csE
  have okE : ∀ u v, lE = [.iface u v] → Value.okWide Tryz.prog W .any 0 u v := fun u v e => by
    subst e
    exact (hrows 1 0 (by rw [eA, eB, eC, eD, eE, eF, eG]; simp [MemPlace.row])).2 u v (by simpa using World.var?_cell hgE hvE 0)
  obtain ⟨lF⟩ := csF
  have okF : ∀ u v, lF = [.iface u v] → Value.okWide Tryz.prog W .any 0 u v := fun u v e => by
    subst e
    exact (hrows 0 0 (by rw [eA, eB, eC, eD, eE, eF, eG]; simp [MemPlace.row])).2 u v (by simpa using World.var?_cell hgF hvF 0)
  have eF' := told_err hgF hvF rfl hdF okF
  have eE' := told_err hgE hvE rfl hdE okE
  have eC' := told_ints (k := .u64) (e := 146) (n := 20) (laid3.filterMap iv) hgC hvC (by kernel_rfl) (by kernel_rfl) (by kernel_rfl) (by kernel_rfl) (by kernel_rfl) hdC
  have eA' := told_ints (k := .u8) (e := 5) (n := 32) (laid6.filterMap iv) hgA hvA (by kernel_rfl) (by kernel_rfl) (by kernel_rfl) (by kernel_rfl) (by kernel_rfl) hdA
  have eB' := told_ints (k := .u8) (e := 5) (n := 64) (laid7.filterMap iv) hgB hvB (by kernel_rfl) (by kernel_rfl) (by kernel_rfl) (by kernel_rfl) (by kernel_rfl) hdB
  have one : ∀ {g : Nat} {n : String} {cs : Array Value} {k : Nat}, Tryz.prog.globalNamed n = some g → W.var? Tryz.prog n = some cs → cs.size = k → ∃ c t fr, W.heap[g]? = some (.cells c t fr) ∧ c.size = k := fun hg hv h => by
    obtain ⟨t, fr, ho⟩ := heap_of_var hg hv
    exact ⟨_, t, fr, ho, h⟩
  have hmax : ∀ (j : Nat) x, ([.i .i64 MaxL.m] : List GV)[j]? = some x → ∃ u, W.cell? ⟨2, j, none⟩ = some u ∧ ∀ D : Cx, (∀ b o v, W.cell? ⟨b, o, none⟩ = some v → D.fx b o v) → VR D x u := fun j x hx => by
    match j, hx with
    | 0, hx => cases hx; exact ⟨_, hm, fun D hD => .i _ _⟩
    | j + 1, hx => cases hx
  refine ⟨fun g cs hg => ?_, fun g cs j x hg hx => ?_⟩
  · match g, hg with
    | 0, hg => obtain rfl := Option.some.inj hg; exact one hgF hvF eF'.1
    | 1, hg => obtain rfl := Option.some.inj hg; exact one hgE hvE eE'.1
    | 2, hg => obtain rfl := Option.some.inj hg; exact hms
    | 3, hg => obtain rfl := Option.some.inj hg; exact one hgC hvC eC'.1
    | 4, hg => cases hg
    | 5, hg => cases hg
    | 6, hg => obtain rfl := Option.some.inj hg; exact one hgA hvA eA'.1
    | 7, hg => obtain rfl := Option.some.inj hg; exact one hgB hvB eB'.1
    | n + 8, hg => cases hg
  · match g, hg with
    | 0, hg => obtain rfl := Option.some.inj hg; exact eF'.2 j x hx
    | 1, hg => obtain rfl := Option.some.inj hg; exact eE'.2 j x hx
    | 2, hg => obtain rfl := Option.some.inj hg; exact hmax j x hx
    | 3, hg => obtain rfl := Option.some.inj hg; exact eC'.2 j x hx
    | 4, hg => cases hg
    | 5, hg => cases hg
    | 6, hg => obtain rfl := Option.some.inj hg; exact eA'.2 j x hx
    | 7, hg => obtain rfl := Option.some.inj hg; exact eB'.2 j x hx
    | n + 8, hg => cases hg
theorem laid_shaped (os : Os) : (World.laidAll Tryz.prog os Rows.currentTextsUptoRow.laid).Shaped Tryz.prog := World.shaped_of_ZipB (by kernel_rfl) (by kernel_rfl)
theorem door_met (os : Os) (args : Array Value) : laidMetH Tryz.prog Rows.currentTextsUptoRow.laid ((World.laidAll Tryz.prog os Rows.currentTextsUptoRow.laid).forCall (fun _ _ => 0) ⟨#[], args, []⟩).memory := by
  rw [MakeChecks.laidMetH_plain _ _ _ (by kernel_rfl)]; exact laidMet_laidAll _ (by kernel_rfl) (by kernel_rfl)
theorem calls_true [MaxL] {k : FuncId} {args : List GV} {s' : List GObj} {W : World} {vs : Array Value} (h : SC Tryz.prog k args [] (.val (.b true)) s') (ht : Told W) (hv : VRs (C0 W) args vs.toList) :
    Calls Tryz.prog k vs W fun e W' => e = .returned (.bool true) ∧ Base (fun _ => False) W W' :=
  (h.calls (C0 W) W vs (rel_start ht) hv).mono fun e W' ⟨D, hl, hr, he⟩ => by
    obtain ⟨v, rfl, hv⟩ := he
    have hm : D.mine = fun _ => False := hl.fix.1
    refine ⟨?_, hm ▸ hr.below⟩
    cases hv
    rfl
theorem s_up [MaxL] (s : ByteArray) {C : Cx} : VR C (.s s.data.toList) (.string s) := by
  have : s = ⟨s.data.toList.toArray⟩ := by simp
  exact this ▸ VR.s s.data.toList
theorem laidOut_ : laidOutB Tryz.checked.prog = true := by kernel_rfl
section
variable {H : Type} {enc : TypeId × Value → H} {P : Program} {w : World} {base : Nat} {spare : Nat → Bool} {held : Bool}
theorem trodAll_n2 {t0 t1 : TypeId} {args : Array Value} {ds : List (DataW H)} {ps : List MemPlace} (h : DataW.TrodAll enc P w base spare held [t0, t1] args.toList ds ps) :
    ∃ v0 v1 d0 d1 p0 p1, args = #[v0, v1] ∧ ds = [d0, d1] ∧ ps = p0 ++ p1 ∧ DataW.Trod enc P w base spare held t0 v0 d0 p0 ∧ DataW.Trod enc P w base spare held t1 v1 d1 p1 := by
  obtain ⟨v0, vs0, d0, ds0, p0, q0, hargs, rfl, rfl, h0, r0⟩ := trodAll_cons h
  obtain ⟨v1, vs1, d1, ds1, p1, q1, rfl, rfl, rfl, h1, r1⟩ := trodAll_cons r0
  obtain ⟨rfl, rfl, rfl⟩ := trodAll_nil r1
  exact ⟨v0, v1, d0, d1, p0, p1, by cases args; simp_all, rfl, by simp, h0, h1⟩
end
theorem maxLen_told {W : World} (h : W.ShapedOpen Tryz.prog) : ∃ m, W.cell? ⟨2, 0, none⟩ = some (.int .i64 m) ∧ ∃ c t fr, W.heap[(2 : Nat)]? = some (.cells c t fr) ∧ c.size = 1 := by
  have h0 : ((begin Tryz.prog (fun _ _ => 0) default).world.heap[(2 : Nat)]?).bind Obj.row? = some (#[.int .i64 0], 3) := by kernel_rfl
  have hg : (2 : Nat) < Tryz.prog.globals.size := of_decide_eq_true (by kernel_rfl)
  obtain ⟨m, hm⟩ := cell_of_shapedOpen_int (zero := #[.int .i64 0]) (t := 3) (k := .i64) h hg h0 rfl (by kernel_rfl) (by kernel_rfl) (by kernel_rfl)
  obtain ⟨cs, hh, hs, _⟩ := h.1 _ _ _ hg h0
  exact ⟨m, hm, cs, _, _, hh, hs⟩
theorem reads (os : Os) {H : Type} (enc : TypeId × Value → H) : ∃ places, DataW.whole enc Tryz.prog ((World.laidAll Tryz.prog os Rows.currentTextsUptoRow.laid).forCall (fun _ _ => 0) ⟨#[], #[.agg #[.int .i64 0, .slice none 0 0, .slice none 0 0, .slice none 0 0], .string ⟨#[]⟩], []⟩).memory Tryz.f3.params.toList Rows.currentTextsSpec.vars false (#[.agg #[.int .i64 0, .slice none 0 0, .slice none 0 0, .slice none 0 0], .string ⟨#[]⟩] : Array Value).toList 8 = some ([.agg [.lit (.int .i64 0), .nil, .nil, .nil], .lit (.string [])], [], places) := ⟨[], by kernel_rfl⟩
theorem currentTexts_lifted (os : Os) (started : os.Started) (H : Type) (enc : TypeId × Value → H) (F : Stop.Interp) :
    ReturnsInHanded {} Tryz.checked os 3 .any ((Rows.OpenSpec.upto Rows.currentTextsSpec).preRow enc Tryz.prog Tryz.f3 Rows.currentTextsUptoRow.domain false Rows.currentTextsUptoRow.laid) (((Rows.OpenSpec.upto Rows.currentTextsSpec).at F).post enc Tryz.prog Tryz.f3 false true false false) := by
  obtain ⟨places, hx⟩ := reads os enc
  have hok : Input.okWideB Tryz.prog ((World.laidAll Tryz.prog os Rows.currentTextsUptoRow.laid).forCall (fun _ _ => 0) ⟨#[], #[.agg #[.int .i64 0, .slice none 0 0, .slice none 0 0, .slice none 0 0], .string ⟨#[]⟩], []⟩) 3 ⟨#[], #[.agg #[.int .i64 0, .slice none 0 0, .slice none 0 0, .slice none 0 0], .string ⟨#[]⟩], []⟩ = true := by kernel_rfl
  refine returnsInHanded_of_row (C := Tryz.checked) (s := Rows.OpenSpec.upto Rows.currentTextsSpec) own started (by kernel_rfl) Tryz.func3
    ⟨World.laidAll Tryz.prog os Rows.currentTextsUptoRow.laid, fun _ _ => 0, ⟨#[], #[.agg #[.int .i64 0, .slice none 0 0, .slice none 0 0, .slice none 0 0], .string ⟨#[]⟩], []⟩, World.laidAll_os _ _ _, laid_shaped os, (Input.okWide_of_okWideB (base := 0) hok).1, (Input.okWide_of_okWideB hok).2,
      OpenSpec.preRow_of_cond 8 hx (by kernel_rfl) (fun k hk => by cases hk; kernel_rfl) (by kernel_rfl) (door_met os _), by
        simp only [Assume.holds]
        exact ⟨by simp, by simp, fun _ => Modest.zero, by simp, by simp⟩⟩ ?_
  intro W base args ds gs before hval0 hW _ hk hwt hL hsh _
  show Calls Tryz.prog 3 args W fun e W' => ∃ v, e = .returned v ∧ Rows.currentTextsSpec.post enc Tryz.prog Tryz.f3 false true false false W args v W'
  have hval : ∀ (j : Nat) t v, Tryz.f3.params[j]? = some t → args[j]? = some v → Value.okWide Tryz.prog W .any base t v := hval0
  have hW1 : DataW.Whole enc Tryz.prog Tryz.f3.params.toList Rows.currentTextsSpec.vars false W args.toList ds gs before := hW
  clear hW
  have hW' := hW1
  have hbk : Rows.uptoBulkAll (ds ++ gs) ≤ 1048576 := of_decide_eq_true (hk _ rfl)
  obtain ⟨p, q, hA0, hV, rfl, hfz, hnd⟩ := hW1
  have hA : DataW.TrodAll enc Tryz.prog W 0 (fun _ => true) true Tryz.f3.params.toList args.toList ds p := hA0
  rw [show Tryz.f3.params = #[25, 9] from rfl] at hA hval
  obtain ⟨v0, v1, d0, d1, p0, p1, rfl, rfl, rfl, h0, h1⟩ := trodAll_n2 hA
  obtain ⟨rfl, rfl⟩ := trodVars_none hV
  have hlt : ∀ x ∈ p0 ++ p1, x.block < W.heap.size := fun x hx => by simpa using hW'.lt x (by simpa using hx)
  have hlt0 : ∀ x ∈ p0, x.block < W.heap.size := fun x hx => hlt x (by simp [hx])
  have hlt1 : ∀ x ∈ p1, x.block < W.heap.size := fun x hx => hlt x (by simp [hx])
  obtain ⟨m, hm, hms⟩ := maxLen_told hsh
  letI : MaxL := ⟨m⟩
  have hb0 : Bk d0 := by
    unfold Bk
    simp only [List.append_nil, Rows.uptoBulkAll] at hbk
    omega
  obtain ⟨n, hn, hv0⟩ := now_up (hval 0 _ v0 rfl rfl) h0 hb0
  have hh1 := h1
  obtain ⟨s, rfl, rfl, rfl, hs⟩ := open_string und_str (hval 1 9 v1 rfl rfl) h1
  refine (calls_true (l_CurrentTexts n hn s.data.toList) (told hL hm hms) ⟨rfl, fun j g u g1 g2 => ?_⟩).mono fun e W' ⟨he, hb⟩ => ?_
  · match j, g1, g2 with
    | 0, g1, g2 => cases g1; cases g2; exact hv0
    | 1, g1, g2 => cases g1; cases g2; exact s_up _
  · subst he
    have hbel : Below W.heap.size W { W' with tape := W.tape } := ⟨hb.os, rfl, hb.output, hb.size, fun k hk => hb.block k hk (fun h => h)⟩
    refine ⟨_, rfl, _, _, _, [], p0 ++ [], [], hW', ?_, ?_, rfl, kept_below (fun _ h => h) hb, fun h => by cases h⟩
    · exact trodAll_mk1 (shut_bool und_bool true)
    · refine trodAll_mk2 ?_ ?_
      · exact DataW.Trod.of_heap (w := { W' with tape := W.tape }) (w' := W') rfl (Below.trod laidOut_ (by kernel_rfl) (of_decide_eq_true (by kernel_rfl)) h0 hbel hlt0)
      · exact DataW.Trod.of_heap (w := { W' with tape := W.tape }) (w' := W') rfl (Below.trod laidOut_ (by kernel_rfl) (of_decide_eq_true (by kernel_rfl)) hh1 hbel hlt1)
end Go.Proofs.YtcbknpdjdlgljaaGreatDoor
