/-
  A part of the proof of ViewTexts.
-/
import Derived.Test.YtldggonlkafckaaGreatDoorQ36
import Derived.Test.YtldggonlkafckaaGreatDoorQ33
import Derived.Test.YtldggonlkafckaaGreatDoorQ31
import Derived.Test.YtldggonlkafckaaGreatDoorQ37
set_option linter.all false
namespace Go.Proofs.YtldggonlkafckaaGreatDoor
open Go.RowKit
set_option maxRecDepth 100000
set_option linter.unusedVariables false
def rdr (ws:List By) (a dp:Int) (bad lim:Bool):GObj:=.box 292 [.sl .none (strG ws),.i .i64 a,.i .i64 dp,.b bad,.b lim]
theorem rdr_cl [MaxL] (ws:List By) (a dp:Int) (bad lim:Bool):ClL [.sl .none (strG ws),.i .i64 a,.i .i64 dp,.b bad,.b lim]:=.cons (Cl.sl (strG_cl ws)) (fun _=>rfl)
theorem rdC [MaxL] {ws:List By} {a dp:Int} {bad lim:Bool}:ClL [.sl .none (strG ws),.i .i64 a,.i .i64 dp,.b bad,.b lim]:=rdr_cl _ _ _ _ _
def wat (ws:List By) (a:Nat):By:=(ws.drop a).headD []
theorem wat_lt {ws:List By} {a:Nat} (h:a<ws.length):(strG ws)[a]?=some (.s (wat ws a)):=by
 unfold wat strG
 rw[List.getElem?_map,List.drop_eq_getElem_cons h,gL h];rfl
theorem wat_ge {ws:List By} {a:Nat} (h:ws.length<=a):wat ws a=[]:=by
 unfold wat;rw[List.drop_eq_nil_of_le h];rfl
theorem r_now [MaxL] (ws:List By) (hw:ws.length<most) (a:Nat) (dp:Int) (bad lim:Bool):SC Tryz.prog 281 [.ptr 0 0] [rdr ws a dp bad lim] (.val (.s (wat ws a))) [rdr ws a dp bad lim]:=by
 have hl:(strG ws).length=ws.length:=strG_len ws
 unfold most at hw
 refine gwS Tryz.func281 rfl ?_
 conv=>whnf
 refine GDraw.calm (by kernel_rfl) ?_
 conv=>whnf
 refine GIf.mk (fun h=>?_) (fun h=>?_)<;>conv=>whnf
 ·have ha:a<ws.length:=by have:=of_decide_eq_true h;rw[hl] at this;omega
  refine GDraw.calm (by kernel_rfl) ?_
  conv=>whnf
  refine⟨cN _,.s (wat ws a),by rw[Int.toNat_natCast];exact wat_lt ha,rfl,?_⟩
  conv=>whnf
  exact owesB_s rfl rfl (rdr_cl ws a dp bad lim)
 ·have ha:ws.length<=a:=by have:=of_decide_eq_false h;rw[hl] at this;omega
  rw[wat_ge ha]
  exact owesB_s rfl rfl (rdr_cl ws a dp bad lim)
def skipB (ws:List By) (a:Nat) (bad:Bool) (w:By):Bool:=!bad&&(wat ws a==w)
theorem r_skip [MaxL] (ws:List By) (hw:ws.length<most) (a:Nat) (ha:a<=ws.length) (dp:Int) (bad lim:Bool) (w:By):
  SC Tryz.prog 251 [.ptr 0 0,.s w] [rdr ws a dp bad lim] (.val (.b (skipB ws a bad w))) [rdr ws (if skipB ws a bad w then a+1 else a:Nat) dp bad lim]:=by
 have hn:=r_now ws hw a dp bad lim
 have hw':=hw
 unfold most at hw'
 cases bad with
 |true=>
  refine gwS Tryz.func251 rfl ?_
  conv=>whnf
  exact owesB_b rfl rfl (rdr_cl ws a dp true lim)
 |false=>
  have e:skipB ws a false w=(wat ws a==w):=by simp[skipB]
  rw[e]
  generalize wat ws a=x at*
  refine gwS Tryz.func251 rfl ?_
  conv=>whnf
  refine callB (q:=0) hn rfl (wR _) rfl rfl (rdr_cl ws a dp false lim) (rdr_cl ws a dp false lim) (fun _=>rfl) (.s _) ?_
  conv=>whnf
  refine GIf.mk (fun hc=>?_) (fun hc=>?_)<;>conv=>whnf
  ·have e2:(x==w)=false:=by simpa using hc
   rw[e2]
   exact owesB_b rfl rfl (rdr_cl ws a dp false lim)
  ·have e2:(x==w)=true:=by simpa using hc
   rw[e2]
   refine⟨[.i .i64 (a+1:Nat)],⟨(by rw[wrap_succ (by omega)];rfl),rL _,rfl,bL rfl⟩,?_⟩
   conv=>whnf
   exact owesB_b rfl rfl (rdr_cl ws (a+1:Nat) dp false lim)
theorem r_name [MaxL] (ws:List By) (hw:ws.length<most) (a:Nat) (dp:Int) (bad lim:Bool):
  SC Tryz.prog 330 [.ptr 0 0] [rdr ws a dp bad lim] (.val (.b (isName (wat ws a)&&!kept.contains (wat ws a)))) [rdr ws a dp bad lim]:=by
 have hn:=r_now ws hw a dp bad lim
 generalize wat ws a=x at*
 refine gwS Tryz.func330 rfl ?_
 conv=>whnf
 refine callB (q:=0) hn rfl (wR _) rfl rfl (rdr_cl ws a dp bad lim) (rdr_cl ws a dp bad lim) (fun _=>rfl) (.s _) ?_
 conv=>whnf
 refine callP (r_Name x) (by first|exact wR _|exact wC (Wk.sl _ _) (wR _)|exact wC (Wk.sl _ _) (wC (Wk.sl _ _) (wR _))|exact wC (Wk.refl _) (wC (Wk.sl _ _) (wR _))) rfl (by first|exact fun _=>rfl|exact cA|exact cB fun _=>rfl) (by first|exact fun _=>rfl|exact cA|exact cB fun _=>rfl) ?_
 conv=>whnf
 refine GIf.mk (fun h1=>?_) (fun h1=>?_)<;>conv=>whnf
 ·skip
  refine callP (r_kept x) (by first|exact wR _|exact wC (Wk.sl _ _) (wR _)|exact wC (Wk.sl _ _) (wC (Wk.sl _ _) (wR _))|exact wC (Wk.refl _) (wC (Wk.sl _ _) (wR _))) rfl (by first|exact fun _=>rfl|exact cA|exact cB fun _=>rfl) (by first|exact fun _=>rfl|exact cA|exact cB fun _=>rfl) ?_
  conv=>whnf
  refine owesB_b rfl ?_ (rdr_cl ws a dp bad lim)
  rw[h1];rfl
 ·refine owesB_b rfl ?_ (rdr_cl ws a dp bad lim)
  rw[h1];rfl
theorem r_in [MaxL] (ws:List By) (a lv:Nat) (hl:lv<1000000) (bad lim:Bool):
  SC Tryz.prog 300 [.ptr 0 0] [rdr ws a lv bad lim] (.val (.tup [])) [rdr ws a (lv+1:Nat) bad (lim||decide (20<lv+1))]:=by
 have e:IntKind.i64.wrap ((lv:Int)+1)=((lv+1:Nat):Int):=wrap_lv hl
 refine gwS Tryz.func300 rfl ?_
 conv=>whnf
 refine⟨[.i .i64 (lv+1:Nat)],⟨(by rw[e];rfl),rL _,rfl,bL rfl⟩,?_⟩
 conv=>whnf
 have e2:((20:Int)<((lv+1:Nat):Int))↔20<lv+1:=by omega
 refine GIf.mk (fun h=>?_) (fun h=>?_)<;>conv=>whnf
 ·have h':20<lv+1:=by have:=of_decide_eq_true h;omega
  refine⟨_,⟨rfl,zL _,rfl,bL rfl⟩,?_⟩
  conv=>whnf
  refine owesB ?_ (.refl _) (rdr_cl ws a (lv+1:Nat) bad _) (fun _=>rfl)
  rw[decide_eq_true h',Bool.or_true];rfl
 ·have h':¬20<lv+1:=by have:=of_decide_eq_false h;omega
  refine owesB ?_ (.refl _) (rdr_cl ws a (lv+1:Nat) bad _) (fun _=>rfl)
  rw[decide_eq_false h',Bool.or_false]
def sdc (t:Term):List GV:=[.s (if t.var then[] else t.name),.s (if t.var then t.name else[]),.i .i64 t.v.k,.i .i64 t.v.n,.s t.v.s]
def t0:Term:=⟨[],false,v0⟩
theorem sdc_cl [MaxL] (t:Term):ClL (sdc t):=fun _=>rfl
theorem r_side_bad [MaxL] (ws:List By) (hw:ws.length<most) (a:Nat) (dp:Int) (lim:Bool):
  SC Tryz.prog 315 [.ptr 0 0] [rdr ws a dp true lim] (.val (.agg (sdc t0))) [rdr ws a dp true lim]:=by
 have hn:=r_now ws hw a dp true lim
 generalize wat ws a=x at*
 refine gwS Tryz.func315 rfl ?_
 conv=>whnf
 refine callB (q:=0) hn rfl (wR _) rfl rfl (rdr_cl ws a dp true lim) (rdr_cl ws a dp true lim) (fun _=>rfl) (.s _) ?_
 conv=>whnf
 refine⟨_,⟨rfl,zL _,rfl,bL rfl⟩,?_⟩
 conv=>whnf
 exact owesB rfl (.refl _) (rdr_cl ws a dp true lim) (fun _=>rfl)
def nmOk (x:By):Bool:=isName x&&!kept.contains x
theorem termW_cons {lit:By->Option Val} (w:By) (ts:List By):termW lit (w::ts)=if w=[58] then(match termW lit ts with
   |some (t,r)=>if t.name=[]∨t.var=true then none else some (⟨t.name,true,t.v⟩,r)
   |none=>none)
  else if nmOk w then some (⟨w,false,v0⟩,ts) else match lit w with
   |some v=>some (⟨[],false,v⟩,ts)
   |none=>none:=by
 conv=>lhs;unfold termW
 rfl
theorem wat_drop {ws:List By} {a:Nat} (h:a<ws.length):ws.drop a=wat ws a::ws.drop (a+1):=by
 unfold wat
 rw[List.drop_eq_getElem_cons h];rfl
theorem nm_ne {x:By} (h:nmOk x=true):x≠[]/\x≠[58]:=by
 constructor<;>(rintro rfl;exact absurd h (by decide))
theorem wat_in {ws:List By} {a:Nat} (h:wat ws a≠[]):a<ws.length:=by
 rcases Nat.lt_or_ge a ws.length with h1|h1
 ·exact h1
 ·exact absurd (wat_ge h1) h
theorem litR_nil:litR []=none:=by unfold litR;rw[if_neg (fun h=>h.1 rfl)]
theorem termW_at (ws:List By) (a:Nat):termW litR (ws.drop a)=if nmOk (wat ws a) then some (⟨wat ws a,false,v0⟩,ws.drop (a+1)) else if wat ws a=[58] then
   (if nmOk (wat ws (a+1)) then some (⟨wat ws (a+1),true,v0⟩,ws.drop (a+2)) else none)
  else match litR (wat ws a) with
   |some v=>some (⟨[],false,v⟩,ws.drop (a+1))
   |none=>none:=by
 by_cases ha:a<ws.length
 ·rw[wat_drop ha,termW_cons]
  by_cases h1:wat ws a=[58]
  ·rw[if_pos h1,h1,if_neg (by decide),if_pos rfl]
   by_cases hb:a+1<ws.length
   ·rw[wat_drop hb,termW_cons]
    by_cases h3:nmOk (wat ws (a+1))=true
    ·rw[if_pos h3,if_neg (nm_ne h3).2,if_pos h3]
     simp only
     rw[if_neg (by rintro(h|h);exact(nm_ne h3).1 h;cases h)]
    ·rw[if_neg h3,if_neg h3]
     by_cases h4:wat ws (a+1)=[58]
     ·rw[if_pos h4]
      cases termW litR (ws.drop (a+1+1)) with
      |none=>rfl
      |some p=>
       obtain⟨t,r⟩:=p
       simp only
       by_cases h5:t.name=[]∨t.var=true
       ·rw[if_pos h5]
       ·rw[if_neg h5];simp only;rw[if_pos (.inr trivial)]
     ·rw[if_neg h4]
      cases litR (wat ws (a+1)) with
      |none=>rfl
      |some v=>simp only;rw[if_pos (.inl trivial)]
   ·rw[wat_ge (by omega),List.drop_eq_nil_of_le (by omega)]
    rfl
  ·rw[if_neg h1,if_neg h1]
 ·rw[wat_ge (by omega),List.drop_eq_nil_of_le (by omega),if_neg (by decide),if_neg (by decide),litR_nil]
  rfl
theorem litR_case (x:By):(litR x=some (litQ x).1/\x≠[]/\(litQ x).2=x.length/\(litQ x).1.ok=true)∨(litR x=none/\¬(x≠[]/\(litQ x).2=x.length/\(litQ x).1.ok=true)):=by
 unfold litR
 by_cases h:x≠[]/\(litQ x).2=x.length/\(litQ x).1.ok=true
 ·rw[if_pos h];exact .inl ⟨rfl,h⟩
 ·rw[if_neg h];exact .inr ⟨rfl,h⟩
theorem r_side [MaxL] (ws : List By) (hw : ws.length < most) (hx : ∀ w ∈ ws, w.length < 1000000) (a : Nat) (ha : a ≤ ws.length) (dp : Int) (lim : Bool) :
    match termW litR (ws.drop a) with
    | some (t, r) => ∃ a', a ≤ a' ∧ a' ≤ ws.length ∧ r = ws.drop a' ∧ SC Tryz.prog 315 [.ptr 0 0] [rdr ws a dp false lim] (.val (.agg (sdc t))) [rdr ws a' dp false lim]
    | none => ∃ a', a ≤ a' ∧ a' ≤ ws.length ∧ SC Tryz.prog 315 [.ptr 0 0] [rdr ws a dp false lim] (.val (.agg (sdc t0))) [rdr ws a' dp true lim] := by
  have hn := r_now ws hw a dp false lim
  have hn1 := r_name ws hw a dp false lim
  have hn2 := r_name ws hw (a + 1) dp false lim
  have hxl : (wat ws a).length < 1000000 := by
    rcases Nat.lt_or_ge a ws.length with h1 | h1
    · exact hx _ (by have := wat_drop h1; exact List.mem_of_mem_drop (i := a) (by rw [this]; simp))
    · rw [wat_ge h1]; decide
  have hw' := hw
  unfold most at hw'
  have hlen : (strG ws).length = ws.length := strG_len ws
  rw [termW_at]
  by_cases h1 : nmOk (wat ws a) = true
  · rw [if_pos h1]
    have hlt := wat_in (nm_ne h1).1
    refine ⟨a + 1, by omega, hlt, rfl, ?_⟩
    replace hn1 : SC Tryz.prog 330 [.ptr 0 0] [rdr ws a dp false lim] (.val (.b (nmOk (wat ws a)))) [rdr ws a dp false lim] := hn1
    rw [h1] at hn1
    generalize wat ws a = x at *
    refine gwS Tryz.func315 rfl ?_
    conv => whnf
    refine callB (q := 0) hn rfl (wR _) rfl rfl (rdr_cl ws a dp false lim) (rdr_cl ws a dp false lim) (fun _ => rfl) (.s _) ?_
    conv => whnf
    refine callB (q := 0) hn1 rfl (wR _) rfl rfl (rdr_cl ws a dp false lim) (rdr_cl ws a dp false lim) (fun _ => rfl) (.b _) ?_
    conv => whnf
    refine ⟨[.i .i64 (a + 1 : Nat)], ⟨(by rw [wrap_succ (by omega)]; rfl), rL _, rfl, bL rfl⟩, ?_⟩
    conv => whnf
    refine ⟨_, ⟨rfl, zL _, rfl, bL rfl⟩, ?_⟩
    conv => whnf
    exact owesB rfl (.refl _) (rdr_cl ws (a + 1 : Nat) dp false lim) (fun _ => rfl)
  rw [if_neg h1]
  have h1' : nmOk (wat ws a) = false := by simpa using h1
  replace hn1 : SC Tryz.prog 330 [.ptr 0 0] [rdr ws a dp false lim] (.val (.b (nmOk (wat ws a)))) [rdr ws a dp false lim] := hn1
  rw [h1'] at hn1
  by_cases h2 : wat ws a = [58]
  · rw [if_pos h2]
    have hlt := wat_in (ws := ws) (a := a) (by rw [h2]; simp)
    replace hn2 : SC Tryz.prog 330 [.ptr 0 0] [rdr ws (a + 1 : Nat) dp false lim] (.val (.b (nmOk (wat ws (a + 1))))) [rdr ws (a + 1 : Nat) dp false lim] := hn2
    rw [h2] at hn
    by_cases h3 : nmOk (wat ws (a + 1)) = true
    · rw [if_pos h3]
      have hlt2 := wat_in (nm_ne h3).1
      have hget := wat_lt hlt2
      refine ⟨a + 2, by omega, hlt2, rfl, ?_⟩
      rw [h3] at hn2
      generalize wat ws (a + 1) = y at *
      clear h1 h1' h2 hxl
      refine gwS Tryz.func315 rfl ?_
      conv => whnf
      refine callB (q := 0) hn rfl (wR _) rfl rfl (rdr_cl ws a dp false lim) (rdr_cl ws a dp false lim) (fun _ => rfl) (.s _) ?_
      conv => whnf
      refine callB (q := 0) hn1 rfl (wR _) rfl rfl (rdr_cl ws a dp false lim) (rdr_cl ws a dp false lim) (fun _ => rfl) (.b _) ?_
      conv => whnf
      refine ⟨[.i .i64 (a + 1 : Nat)], ⟨(by rw [wrap_succ (by omega)]; rfl), rL _, rfl, bL rfl⟩, ?_⟩
      conv => whnf
      refine callB (q := 0) hn2 rfl (wR _) rfl rfl (rdr_cl ws (a + 1 : Nat) dp false lim) (rdr_cl ws (a + 1 : Nat) dp false lim) (fun _ => rfl) (.b _) ?_
      conv => whnf
      refine ⟨[.i .i64 (a + 2 : Nat)], ⟨(by rw [wrap_succ (i := a + 1) (by omega)]; rfl), rL _, rfl, bL rfl⟩, ?_⟩
      conv => whnf
      refine GDraw.calm (by kernel_rfl) ?_
      conv => whnf
      have w2 : IntKind.i64.wrap (((a + 2 : Nat) : Int) - 1) = ((a + 1 : Nat) : Int) := by rw [wrap_in (by omega) (by omega)]; omega
      refine ⟨by rw [w2]; exact cN _, .s y, by rw [w2, Int.toNat_natCast]; exact hget, rfl, ?_⟩
      conv => whnf
      refine ⟨_, ⟨rfl, zL _, rfl, bL rfl⟩, ?_⟩
      conv => whnf
      exact owesB rfl (.refl _) (rdr_cl ws (a + 2 : Nat) dp false lim) (fun _ => rfl)
    · rw [if_neg h3]
      refine ⟨a + 1, by omega, hlt, ?_⟩
      have h3' : nmOk (wat ws (a + 1)) = false := by simpa using h3
      rw [h3'] at hn2
      generalize wat ws (a + 1) = y at *
      clear h1 h1' h2 hxl
      refine gwS Tryz.func315 rfl ?_
      conv => whnf
      refine callB (q := 0) hn rfl (wR _) rfl rfl (rdr_cl ws a dp false lim) (rdr_cl ws a dp false lim) (fun _ => rfl) (.s _) ?_
      conv => whnf
      refine callB (q := 0) hn1 rfl (wR _) rfl rfl (rdr_cl ws a dp false lim) (rdr_cl ws a dp false lim) (fun _ => rfl) (.b _) ?_
      conv => whnf
      refine ⟨[.i .i64 (a + 1 : Nat)], ⟨(by rw [wrap_succ (by omega)]; rfl), rL _, rfl, bL rfl⟩, ?_⟩
      conv => whnf
      refine callB (q := 0) hn2 rfl (wR _) rfl rfl (rdr_cl ws (a + 1 : Nat) dp false lim) (rdr_cl ws (a + 1 : Nat) dp false lim) (fun _ => rfl) (.b _) ?_
      conv => whnf
      refine ⟨_, ⟨rfl, zL _, rfl, bL rfl⟩, ?_⟩
      conv => whnf
      refine ⟨_, ⟨rfl, zL _, rfl, bL rfl⟩, ?_⟩
      conv => whnf
      exact owesB rfl (.refl _) (rdr_cl ws (a + 1 : Nat) dp true lim) (fun _ => rfl)
  · rw [if_neg h2]
    have hl := litR_case (wat ws a)
    have hlit := r_Literal (wat ws a) hxl
    have hok := r_ValidValue (litQ (wat ws a)).1
    have hin := wat_in (ws := ws) (a := a)
    generalize wat ws a = x at *
    generalize litQ x = q at *
    obtain ⟨v, k⟩ := q
    simp only at hl hlit hok
    rcases hl with ⟨e, l1, l2, l3⟩ | ⟨e, l0⟩
    · rw [e]
      refine ⟨a + 1, by omega, hin l1, rfl, ?_⟩
      rw [l3] at hok
      refine gwS Tryz.func315 rfl ?_
      conv => whnf
      refine callB (q := 0) hn rfl (wR _) rfl rfl (rdr_cl ws a dp false lim) (rdr_cl ws a dp false lim) (fun _ => rfl) (.s _) ?_
      conv => whnf
      refine callB (q := 0) hn1 rfl (wR _) rfl rfl (rdr_cl ws a dp false lim) (rdr_cl ws a dp false lim) (fun _ => rfl) (.b _) ?_
      conv => whnf
      refine GIf.mk (fun hc => ?_) (fun hc => ?_) <;> conv => whnf
      · exact absurd (by simpa using hc) h2
      refine callP hlit (wR _) rfl (fun _ => rfl) (fun _ => rfl) ?_
      conv => whnf
      refine ⟨_, ⟨rfl, zL _, rfl, bL rfl⟩, ?_⟩
      conv => whnf
      refine GIf.mk (fun s1 => ?_) (fun s1 => ?_) <;> conv => whnf
      rotate_left
      · exact absurd (by simpa using s1) l1
      refine GIf.mk (fun s2 => ?_) (fun s2 => ?_) <;> conv => whnf
      rotate_left
      · have := of_decide_eq_false s2; exact absurd (by omega) this
      refine callP hok (wR _) rfl (fun _ => rfl) (.b _) ?_
      conv => whnf
      refine ⟨[.i .i64 (a + 1 : Nat)], ⟨(by rw [wrap_succ (by have := hin l1; omega)]; rfl), rL _, rfl, bL rfl⟩, ?_⟩
      conv => whnf
      refine ⟨_, ⟨rfl, zL _, rfl, bL rfl⟩, ?_⟩
      conv => whnf
      exact owesB rfl (.refl _) (rdr_cl ws (a + 1 : Nat) dp false lim) (fun _ => rfl)
    · rw [e]
      refine ⟨a, rL _, ha, ?_⟩
      refine gwS Tryz.func315 rfl ?_
      conv => whnf
      refine callB (q := 0) hn rfl (wR _) rfl rfl (rdr_cl ws a dp false lim) (rdr_cl ws a dp false lim) (fun _ => rfl) (.s _) ?_
      conv => whnf
      refine callB (q := 0) hn1 rfl (wR _) rfl rfl (rdr_cl ws a dp false lim) (rdr_cl ws a dp false lim) (fun _ => rfl) (.b _) ?_
      conv => whnf
      refine GIf.mk (fun hc => ?_) (fun hc => ?_) <;> conv => whnf
      · exact absurd (by simpa using hc) h2
      refine callP hlit (wR _) rfl (fun _ => rfl) (fun _ => rfl) ?_
      conv => whnf
      refine ⟨_, ⟨rfl, zL _, rfl, bL rfl⟩, ?_⟩
      conv => whnf
      refine GIf.mk (fun s1 => ?_) (fun s1 => ?_) <;> conv => whnf
      · refine GIf.mk (fun s2 => ?_) (fun s2 => ?_) <;> conv => whnf
        · have hvo : v.ok = false := by
            cases hv : v.ok with
            | false => rfl
            | true => exact absurd ⟨by simpa using s1, by have : (k : Int) = (x.length : Int) := by simpa using s2
                                                          omega, hv⟩ l0
          rw [hvo] at hok
          refine callP hok (wR _) rfl (fun _ => rfl) (.b _) ?_
          conv => whnf
          refine ⟨_, ⟨rfl, zL _, rfl, bL rfl⟩, ?_⟩
          conv => whnf
          refine ⟨_, ⟨rfl, zL _, rfl, bL rfl⟩, ?_⟩
          conv => whnf
          exact owesB rfl (.refl _) (rdr_cl ws a dp true lim) (fun _ => rfl)
        · skip
          refine ⟨_, ⟨rfl, zL _, rfl, bL rfl⟩, ?_⟩
          conv => whnf
          refine ⟨_, ⟨rfl, zL _, rfl, bL rfl⟩, ?_⟩
          conv => whnf
          exact owesB rfl (.refl _) (rdr_cl ws a dp true lim) (fun _ => rfl)
      · skip
        refine ⟨_, ⟨rfl, zL _, rfl, bL rfl⟩, ?_⟩
        conv => whnf
        refine ⟨_, ⟨rfl, zL _, rfl, bL rfl⟩, ?_⟩
        conv => whnf
        exact owesB rfl (.refl _) (rdr_cl ws a dp true lim) (fun _ => rfl)
def ndc (k:Nat) (kids:List GV) (a b:Term) (op:By) (yes:Bool):List GV:=.i .i64 k::.sl .none kids::(sdc a++(sdc b++[.s op,.b yes]))
def pick2 {α:Type} (a:Bool) (p:α×α):α:=if a then p.2 else p.1
def nk:Tree->List GV×(List GV×List GV)
 |.pair b l r=>let ks:=pick2 b (nk l).2++pick2 b (nk r).2
   let cs:=ndc (opn b) ks t0 t0 [] false
   (cs,if b then([.agg cs],ks) else(ks,[.agg cs]))
 |.no t=>let cs:=ndc 3 [.agg (nk t).1] t0 t0 [] false
   (cs,[.agg cs],[.agg cs])
 |.test op l r=>let cs:=ndc 4 [] l r op false
   (cs,[.agg cs],[.agg cs])
 |.truth b=>let cs:=ndc 5 [] t0 t0 [] b
   (cs,[.agg cs],[.agg cs])
def Tree.ncs (t:Tree):List GV:=(nk t).1
def Tree.ng (t:Tree):GV:=.agg t.ncs
def ngs (l:List Tree):List GV:=l.map Tree.ng
theorem nk_sides (a:Bool):∀t:Tree,pick2 a (nk t).2=ngs (t.sides a)
 |.pair b l r=>by
  have h1:=nk_sides a l
  have h2:=nk_sides a r
  unfold Tree.sides
  by_cases hab:a=b
  ·subst hab
   rw[if_pos rfl]
   unfold ngs at*
   rw[List.map_append,<-h1,<-h2]
   cases a<;>rfl
  ·rw[if_neg hab]
   cases a<;>cases b<;>first|rfl|exact absurd rfl hab
 |.no t=>by cases a<;>rfl
 |.test _ _ _=>by cases a<;>rfl
 |.truth _=>by cases a<;>rfl
theorem ncs_pair (a:Bool) (l r:Tree):(Tree.pair a l r).ncs=ndc (opn a) (ngs ((Tree.pair a l r).sides a)) t0 t0 [] false:=by
 show ndc (opn a) (pick2 a (nk l).2++pick2 a (nk r).2) t0 t0 [] false=_
 rw[nk_sides,nk_sides]
 congr 1
 have e:(Tree.pair a l r).sides a=l.sides a++r.sides a:=if_pos rfl
 rw[e]
 unfold ngs;rw[List.map_append]
theorem ncs_no (t:Tree):(Tree.no t).ncs=ndc 3 [t.ng] t0 t0 [] false:=rfl
theorem ncs_test (op:By) (l r:Term):(Tree.test op l r).ncs=ndc 4 [] l r op false:=rfl
theorem ncs_truth (b:Bool):(Tree.truth b).ncs=ndc 5 [] t0 t0 [] b:=rfl
theorem ndc_cl [MaxL] {k:Nat} {kids:List GV} (h:ClL kids) (a b:Term) (op:By) (yes:Bool):ClL (ndc k kids a b op yes):=.cons (.i _ _) (.cons (Cl.sl h) (fun _=>rfl))
theorem ClL.app [MaxL] {a b:List GV} (ha:ClL a) (hb:ClL b):ClL (a++b):=fun f=>by rw[List.map_append,ha f,hb f]
theorem nk_cl [MaxL]:∀t:Tree,ClL (nk t).1/\(∀a,ClL (pick2 a (nk t).2))
 |.pair b l r=>by
  have h1:=nk_cl l
  have h2:=nk_cl r
  have hk:ClL (pick2 b (nk l).2++pick2 b (nk r).2):=ClL.app (h1.2 b) (h2.2 b)
  have hc:=ndc_cl (k:=opn b) hk t0 t0 [] false
  exact⟨hc,fun a=>by
   cases a<;>cases b<;>first|exact hk|exact cC (Cl.agg hc) .nil⟩
 |.no t=>by
  have hc:=ndc_cl (k:=3) (cC (Cl.agg (nk_cl t).1) .nil) t0 t0 [] false
  exact⟨hc,fun a=>by cases a<;>exact cC (Cl.agg hc) .nil⟩
 |.test op l r=>by
  have hc:=ndc_cl (k:=4) ClL.nil l r op false
  exact⟨hc,fun a=>by cases a<;>exact cC (Cl.agg hc) .nil⟩
 |.truth b=>by
  have hc:=ndc_cl (k:=5) ClL.nil t0 t0 [] b
  exact⟨hc,fun a=>by cases a<;>exact cC (Cl.agg hc) .nil⟩
theorem Tree.ncs_cl [MaxL] (t:Tree):ClL t.ncs:=(nk_cl t).1
theorem Tree.ng_cl [MaxL] (t:Tree):Cl t.ng:=Cl.agg t.ncs_cl
theorem ngs_cl [MaxL] (l:List Tree):ClL (ngs l):=ClL.mapOf Tree.ng_cl l
theorem ncs_len (t:Tree):t.ncs.length=14:=by cases t<;>rfl
theorem ngs_len (l:List Tree):(ngs l).length=l.length:=by simp[ngs]
theorem ngs_ok (l:List Tree):(ngs l).all (fun x=>x.cells.length==14)=true:=by
 rw[List.all_eq_true];intro x hx
 obtain⟨t,_,rfl⟩:=List.mem_map.1 hx
 show(t.ncs.length==14)=true
 rw[ncs_len];rfl
theorem ngs_okEl (l:List Tree):(ngs l).all (okEl 14)=true:=by
 rw[List.all_eq_true];intro x hx
 obtain⟨t,_,rfl⟩:=List.mem_map.1 hx
 have:=ncs_len t
 cases t<;>rfl
theorem ncs_form (a:Bool) (t:Tree):(t.ncs=ndc (opn a) (ngs (t.sides a)) t0 t0 [] false/\2<=(t.sides a).length)∨(∃k kids x y op yes,t.ncs=ndc k kids x y op yes/\k≠opn a/\t.sides a=[t]):=by
 cases t with
 |pair b l r=>
  by_cases hab:a=b
  ·subst hab
   refine .inl ⟨ncs_pair a l r,?_⟩
   have e:(Tree.pair a l r).sides a=l.sides a++r.sides a:=if_pos rfl
   rw[e,List.length_append]
   have h1:=List.length_pos_iff.2 (sides_ne a l)
   have h2:=List.length_pos_iff.2 (sides_ne a r)
   omega
  ·exact .inr ⟨_,_,_,_,_,_,ncs_pair b l r,(by cases a<;>cases b<;>first|exact absurd rfl hab|decide),if_neg hab⟩
 |no t=>exact .inr ⟨_,_,_,_,_,_,ncs_no t,(by cases a<;>decide),rfl⟩
 |test op l r=>exact .inr ⟨_,_,_,_,_,_,ncs_test op l r,(by cases a<;>decide),rfl⟩
 |truth b=>exact .inr ⟨_,_,_,_,_,_,ncs_truth b,(by cases a<;>decide),rfl⟩
def joinL (a:Bool) (x:Tree) (l:List Tree):Tree:=l.foldl (fun q y=>.pair a q y) x
theorem joinL_sides (a:Bool):∀(l:List Tree) (x:Tree),(joinL a x l).sides a=(x::l).flatMap (Tree.sides a)
 |[],x=>by simp[joinL]
 |y::l,x=>by
  have:=joinL_sides a l (.pair a x y)
  show(joinL a (.pair a x y) l).sides a=_
  rw[this,List.flatMap_cons,List.flatMap_cons,List.flatMap_cons]
  have e:(Tree.pair a x y).sides a=x.sides a++y.sides a:=if_pos rfl
  rw[e,List.append_assoc]
theorem wk_node [MaxL] {c:GV} {k:Tok} {xs rest:List GV}:Wk (.agg (c::.sl k xs::rest)) (.agg (c::.sl .none xs::rest)):=Wk.agg rfl (fun j g g' h h'=>by
 rcases j with _|_|j
 ·simp at h h';subst h;subst h';exact .refl _
 ·simp at h h';subst h;subst h';exact Wk.sl _ _
 ·simp at h h';rw[h] at h';cases h';exact .refl _)
def nodeZ:List GV:=[.i .i64 0,.sl .full [],.s [],.s [],.i .i64 0,.i .i64 0,.s [],.s [],.s [],.i .i64 0,.i .i64 0,.s [],.s [],.b false]
def outT (a:Bool) (l:List Tree) (i:Nat):List Tree:=(l.take i).flatMap (Tree.sides a)
theorem outT_succ {a:Bool} {l:List Tree} {i:Nat} {y:Tree} (h:l[i]?=some y):outT a l (i+1)=outT a l i++y.sides a:=by
 unfold outT
 rw[List.take_add_one,h,List.flatMap_append]
 simp
theorem outT_le (a:Bool) (l:List Tree) (i:Nat):(outT a l i).length<=(l.flatMap (Tree.sides a)).length:=by
 have:l.flatMap (Tree.sides a)=outT a l i++(l.drop i).flatMap (Tree.sides a):=by
  unfold outT
  rw[<-List.flatMap_append,List.take_append_drop]
 rw[this,List.length_append];omega
theorem r_Joined [MaxL] (a:Bool) (x:Tree) (l:List Tree) (hl:l.length<=100000) (hs:((x::l).flatMap (Tree.sides a)).length<=1000000):
  SC Tryz.prog 252 [.i .i64 (opn a:Nat),.sl .none (ngs (x::l))] [] (.val (joinL a x l).ng) []:=by
 have hjs:=joinL_sides a l x
 have hform:=ncs_form a (joinL a x l)
 have hcl:=(joinL a x l).ng_cl
 generalize hm:joinL a x l=m at*
 have hlen:(x::l).length<=100001:=by simp;omega
 generalize x::l=M at*
 clear hm hl l x
 have hle:=outT_le a M
 refine gwS Tryz.func252 rfl ?_
 conv=>whnf
 refine GLoop.introS (fun q:Nat×List Tree=>q.1<=M.length/\outT a M q.1=q.2) (fun q=>[(0,.i .i64 (opn a:Nat)),(1,.sl .none (ngs M)),(4,.ptr 0 0),(5,.sl (.own 1) (ngs q.2)),(6,.i .i64 (q.1:Nat))])
  (fun q=>⟨[.box 251 nodeZ,ow 251 14 q.2.length],0,[]⟩) (fun q=>M.length - q.1) (0,[]) ⟨zL _,rfl⟩ ⟨rfl,rfl,rfl,rfl,rfl,trivial⟩ rfl (fun _ _=>rL _) (fun q _=>by simp only[List.all_cons,ow_held];rfl) (fun q _ e he=>?_) (fun q φ0 hi=>?_)
 ·refine⟨?_,rfl,?_⟩
  ·show[GObj.box _ (nodeZ.map (GV.ren e)),(ow _ 14 _).ren e]=_
   rw[ow_ren];rfl
  ·show[_,(GV.sl .none (ngs M)).ren e,GV.ptr (e 0) 0,(GV.sl (.own 1) (ngs q.2)).ren e,_]=_
   rw[ren_own (he 1 (by simp)) (ngs_cl _),Cl.sl (ngs_cl M) e,he 0 (by simp)];rfl
 obtain⟨i,o⟩:=q
 obtain⟨hi,ho⟩:=hi
 replace hi:i<=M.length:=hi
 replace ho:outT a M i=o:=ho
 conv=>whnf
 have hnl:(ngs M).length=M.length:=ngs_len M
 refine GIf.mk (fun h=>?_) (fun h=>?_)<;>conv=>whnf
 rotate_left
 ·have hie:i=M.length:=by have:=of_decide_eq_false h;rw[hnl] at this;omega
  have ho':o=m.sides a:=by rw[<-ho,hjs,hie];unfold outT;rw[List.take_length]
  rcases hform with⟨e,h2⟩|⟨k,kids,A,B,op,yes,e,hk,h2⟩
  ·rw[ho']
   have hcl':Cl (.agg (ndc (opn a) (ngs (m.sides a)) t0 t0 [] false)):=by rw[<-e];exact hcl
   have hng:m.ng=.agg (ndc (opn a) (ngs (m.sides a)) t0 t0 [] false):=by show GV.agg m.ncs=_;rw[e]
   rw[hng]
   have hml:=ngs_len (m.sides a)
   generalize m.sides a=ms at*
   refine GIf.mk (fun h1=>?_) (fun h1=>?_)<;>conv=>whnf
   ·have h3:((ngs ms).length:Int)=1:=by simpa using h1
    omega
   refine⟨_,⟨rfl,zL _,rfl,bL rfl⟩,?_⟩
   conv=>whnf
   exact owes_wk wk_node hcl'
  ·rw[ho',h2]
   have hng:m.ng=.agg (ndc k kids A B op yes):=by show GV.agg m.ncs=_;rw[e]
   have hgm:(ngs [m])[0]?=some (.agg (ndc k kids A B op yes)):=by rw[<-hng];rfl
   rw[hng] at hcl⊢
   refine⟨Int.le_refl 0,.agg (ndc k kids A B op yes),hgm,rfl,?_⟩
   conv=>whnf
   refine⟨_,⟨rfl,zL _,rfl,bL rfl⟩,?_⟩
   conv=>whnf
   exact owes_wk (.refl _) hcl
 have hlt:i<M.length:=by have:=of_decide_eq_true h;rw[hnl] at this;omega
 obtain⟨y,hy⟩:∃y,M[i]?=some y:=⟨M[i],gL hlt⟩
 have hgy:(ngs M)[i]?=some (.agg y.ncs):=by unfold ngs;rw[List.getElem?_map,hy];rfl
 have hos:=outT_succ (a:=a) hy
 have hle1:=hle (i+1)
 rw[hos,List.length_append] at hle1
 rw[ho] at hos hle1
 rcases ncs_form a y with⟨e,h2⟩|⟨k,kids,A,B,op,yes,e,hk,h2⟩
 ·rw[e] at hgy
  generalize y.sides a=ys at*
  rcases ys with _|⟨y1,ys⟩
  ·simp at h2
  refine⟨cN _,.agg (ndc (opn a) (ngs (y1::ys)) t0 t0 [] false),by rw[Int.toNat_natCast];exact hgy,rfl,?_⟩
  conv=>whnf
  refine GIf.mk (fun heq=>?_) (fun heq=>?_)<;>conv=>whnf
  rotate_left
  ·simp at heq
  refine⟨cN _,.agg (ndc (opn a) (ngs (y1::ys)) t0 t0 [] false),by rw[Int.toNat_natCast];exact hgy,rfl,?_⟩
  conv=>whnf
  cases o with
  |nil=>
   refine⟨⟨ngs_okEl (y1::ys),ngs_ok _,by show(ngs (([]:List Tree))).length+(ngs (y1::ys)).length<=4294967296;rw[ngs_len,ngs_len];omega⟩,ngs (([]:List Tree)++(y1::ys)),(([]:List Tree)++(y1::ys)).length,⟨(by show ngs (([]:List Tree)++y1::ys)=ngs (([]:List Tree))++ngs (y1::ys);unfold ngs;rw[List.map_append]),by show _=(ngs (([]:List Tree))).length+(ngs (y1::ys)).length;rw[ngs_len,ngs_len,List.length_append]⟩,?_⟩
   conv=>whnf
   refine⟨⟨zL _,by first|rfl|(rw[ngs_len];rfl)|(rw[ngs_len];simp),by first|exact .inr ⟨rfl,rfl⟩|exact .inl ⟨rfl,rfl⟩⟩,?_⟩
   conv=>whnf
   exact⟨M.length - (i+1),(by show _<M.length - i;omega),(i+1,([]:List Tree)++(y1::ys)),⟨hlt,hos⟩,rfl,⟨rfl,rfl,rfl,rfl,wrap_succ (by omega),trivial⟩,_,rfl,rfl⟩
  |cons z zs=>
   refine⟨⟨ngs_okEl (y1::ys),ngs_ok _,by show(ngs ((z::zs))).length+(ngs (y1::ys)).length<=4294967296;rw[ngs_len,ngs_len];omega⟩,ngs ((z::zs)++(y1::ys)),((z::zs)++(y1::ys)).length,⟨(by show ngs ((z::zs)++y1::ys)=ngs ((z::zs))++ngs (y1::ys);unfold ngs;rw[List.map_append]),by show _=(ngs ((z::zs))).length+(ngs (y1::ys)).length;rw[ngs_len,ngs_len,List.length_append]⟩,?_⟩
   conv=>whnf
   refine⟨⟨zL _,by first|rfl|(rw[ngs_len];rfl)|(rw[ngs_len];simp),by first|exact .inr ⟨rfl,rfl⟩|exact .inl ⟨rfl,rfl⟩⟩,?_⟩
   conv=>whnf
   exact⟨M.length - (i+1),(by show _<M.length - i;omega),(i+1,(z::zs)++(y1::ys)),⟨hlt,hos⟩,rfl,⟨rfl,rfl,rfl,rfl,wrap_succ (by omega),trivial⟩,_,rfl,rfl⟩
 ·rw[e] at hgy
  refine⟨cN _,.agg (ndc k kids A B op yes),by rw[Int.toNat_natCast];exact hgy,rfl,?_⟩
  conv=>whnf
  refine GIf.mk (fun heq=>?_) (fun heq=>?_)<;>conv=>whnf
  ·exfalso
   apply hk
   have:=eq_of_beq heq
   omega
  refine⟨cN _,.agg (ndc k kids A B op yes),by rw[Int.toNat_natCast];exact hgy,rfl,?_⟩
  conv=>whnf
  have hyng:y.ng=.agg (ndc k kids A B op yes):=by show GV.agg y.ncs=_;rw[e]
  rw[h2] at hos hle1
  simp only[List.length_singleton] at hle1
  cases o with
  |nil=>
   refine⟨⟨rfl,ngs_ok _,by show(ngs (([]:List Tree))).length+1<=4294967296;rw[ngs_len];omega⟩,ngs (([]:List Tree)++[y]),(([]:List Tree)++[y]).length,⟨(by show ngs (([]:List Tree)++[y])=ngs (([]:List Tree))++[GV.agg (ndc k kids A B op yes)];rw[<-hyng];unfold ngs;rw[List.map_append];rfl),by show _=(ngs (([]:List Tree))).length+1;rw[ngs_len,List.length_append];rfl⟩,?_⟩
   conv=>whnf
   refine⟨⟨zL _,by first|rfl|(rw[ngs_len];rfl)|(rw[ngs_len];simp),by first|exact .inr ⟨rfl,rfl⟩|exact .inl ⟨rfl,rfl⟩⟩,?_⟩
   conv=>whnf
   exact⟨M.length - (i+1),(by show _<M.length - i;omega),(i+1,([]:List Tree)++[y]),⟨hlt,hos⟩,rfl,⟨rfl,rfl,rfl,rfl,wrap_succ (by omega),trivial⟩,_,rfl,rfl⟩
  |cons z zs=>
   refine⟨⟨rfl,ngs_ok _,by show(ngs ((z::zs))).length+1<=4294967296;rw[ngs_len];omega⟩,ngs ((z::zs)++[y]),((z::zs)++[y]).length,⟨(by show ngs ((z::zs)++[y])=ngs ((z::zs))++[GV.agg (ndc k kids A B op yes)];rw[<-hyng];unfold ngs;rw[List.map_append];rfl),by show _=(ngs ((z::zs))).length+1;rw[ngs_len,List.length_append];rfl⟩,?_⟩
   conv=>whnf
   refine⟨⟨zL _,by first|rfl|(rw[ngs_len];rfl)|(rw[ngs_len];simp),by first|exact .inr ⟨rfl,rfl⟩|exact .inl ⟨rfl,rfl⟩⟩,?_⟩
   conv=>whnf
   exact⟨M.length - (i+1),(by show _<M.length - i;omega),(i+1,(z::zs)++[y]),⟨hlt,hos⟩,rfl,⟨rfl,rfl,rfl,rfl,wrap_succ (by omega),trivial⟩,_,rfl,rfl⟩
end Go.Proofs.YtldggonlkafckaaGreatDoor
