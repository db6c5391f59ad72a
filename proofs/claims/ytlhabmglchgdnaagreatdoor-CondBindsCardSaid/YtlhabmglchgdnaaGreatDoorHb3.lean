/-
  CondBinds: Bound and Term of every texts, items, row, variables and values are those of the reference, and a condition whose variables are bound is as true as with their values; part 46 of 46. Conditions: none beyond the given statement.
-/
import Derived.Test.YtlhabmglchgdnaaGreatDoorQ44
import Derived.Test.YtlhabmglchgdnaaGreatDoorQ45
import Derived.Test.YtlhabmglchgdnaaGreatDoorQ28
set_option linter.all false
namespace Go.Proofs.YtlhabmglchgdnaaGreatDoor
open Go.RowKit
set_option maxRecDepth 100000
set_option linter.unusedVariables false
def oneR (s:By):Option Term:=match splitS s with
 |none=>none
 |some ws=>match termW litR ws with
  |some (t,[])=>some t
  |_=>none
theorem oneR_eq (s:By):oneR s=oneS s:=by
 have hl:litR=litP:=funext litR_eq
 unfold oneR oneS
 rw[hl]
 cases hs:splitS s with
 |some ws=>rw[split_to _ _ _ hs];rfl
 |none=>
  cases hp:termW litP (toks s) with
  |none=>rfl
  |some p=>
   obtain⟨t,r⟩:=p
   cases r with
   |cons w r=>rfl
   |nil=>
    exfalso
    obtain⟨pre,e1,h2⟩:=termW_cw hp
    rw[List.append_nil] at e1
    have:=split_of (s.length+1) s (by omega) (by rw[e1];exact h2)
    unfold splitS at hs
    rw[hs] at this;cases this
theorem one_good {s:By} {t:Term} (h:oneS s=some t):t.good:=by
 unfold oneS at h
 cases hp:termW litP (toks s) with
 |none=>rw[hp] at h;cases h
 |some p=>
  obtain⟨u,r⟩:=p
  rw[hp] at h
  cases r with
  |nil=>cases h;exact termW_good hp
  |cons w r=>cases h
theorem r_oneside (s:By) (hs:s.length<=1000) {ws:List By} (hss:splitS s=some ws):
  ∃(t:Term) (a:Nat) (bad:Bool),SC Tryz.prog 80 [.ptr 0 0] [rdr ws (0:Nat) (0:Nat) false false] (.val (.agg (sdc t))) [rdr ws (a:Nat) (0:Nat) bad false]/\a<=ws.length/\
   ((bad=true∨a<ws.length)/\oneR s=none∨(bad=false/\a=ws.length)/\oneR s=some t):=by
 have ht:=split_to _ _ _ hss
 have hwl:=toks_len s.length s (Nat.le_refl _)
 rw[ht] at hwl
 have hx:∀w∈ws,w.length<1000000:=fun w hw=>by
  have:=tok_len s.length s (Nat.le_refl _) w (by rw[ht];exact hw)
  omega
 have h4:=r_side ws (by unfold most;omega) hx 0 (Nat.zero_le _) (0:Nat) false
 rw[List.drop_zero] at h4
 unfold oneR
 rw[hss]
 simp only
 cases hp:termW litR ws with
 |none=>
  rw[hp] at h4
  obtain⟨a,_,h5,h6⟩:=h4
  exact⟨t0,a,true,h6,h5,.inl ⟨.inl rfl,rfl⟩⟩
 |some p=>
  obtain⟨t,r⟩:=p
  rw[hp] at h4
  obtain⟨a,_,h5,hr,h6⟩:=h4
  refine⟨t,a,false,h6,h5,?_⟩
  rcases Nat.lt_or_ge a ws.length with hlt|hge
  ·refine .inl ⟨.inr hlt,?_⟩
   cases r with
   |nil=>have:=congrArg List.length hr;simp at this;omega
   |cons w r=>rfl
  ·have hr0:r=[]:=by rw[hr];exact List.drop_eq_nil_of_le hge
   exact .inr ⟨⟨rfl,by omega⟩,by rw[hr0]⟩
def termR (I V:List Itm) (R W:List Val) (s:By):Val×Int:=if 1000<s.length then(v0,3) else match oneR s with
 |none=>(v0,2)
 |some t=>if knownB I&&knownB V&&fits2 I R then
   if kindR I V t=0 then(v0,5)
   else if W.length=V.length then
    if kinds2 V W then(valT I V R W t,0) else(v0,1)
   else(v0,11)
  else(v0,1)
theorem termR_eq (I V:List Itm) (R W:List Val) (s:By):termR I V R W s=termS I V R W s:=by
 unfold termR termS
 rw[oneR_eq]
 split
 ·rfl
 ·cases ho:oneS s with
  |none=>rfl
  |some t=>
   simp only
   unfold termT
   by_cases h:(knownB I&&knownB V&&fits2 I R)=true
   ·rw[if_pos h,if_pos h]
    simp only[Bool.and_eq_true] at h
    have hk:=kind_zero h.1.1 h.1.2 (one_good ho)
    by_cases h0:kindR I V t=0
    ·have:kindE I V t=5:=by rw[h0] at hk;simpa using hk.symm
     rw[if_pos h0,if_pos this]
    ·have:¬kindE I V t=5:=fun e=>by rw[e] at hk;simp at hk;exact h0 hk
     rw[if_neg h0,if_neg this]
   ·rw[if_neg h,if_neg h]
theorem r_Term (I V:List Itm) (R W:List Val) (hI:I.length<most) (hV:V.length<most) (hR:R.length<most) (hW:W.length<most) (s:By):
  SC Tryz.prog 39 [.s s,.sl .none (itms I),.sl .none (vlsG R),.sl .none (itms V),.sl .none (vlsG W)] [] (.val (.tup [(termR I V R W s).1.gv,.i .i64 (termR I V R W s).2])) []:=by
 unfold termR
 by_cases hl:1000<s.length
 ·rw[if_pos hl]
  refine SC.of_gwp noM mixed Tryz.func39 rfl (Nat.le_of_ble_eq_true rfl) (by first|exact Nat.le_refl _|simp) rfl ?_
  conv=>whnf
  refine GIf.mk (fun h=>?_) (fun h=>?_)<;>conv=>whnf
  ·skip
   refine⟨_,⟨rfl,Nat.zero_le _,rfl,Nat.le_of_ble_eq_true rfl⟩,?_⟩
   conv=>whnf
   exact owes_wk (.refl _) (v0_cl 3)
  ·exfalso;have:=of_decide_eq_false h;omega
 rw[if_neg hl]
 have hsp:=r_split s (by omega)
 cases hss:splitS s with
 |none=>
  rw[hss] at hsp
  have e:oneR s=none:=by unfold oneR;rw[hss]
  rw[e]
  replace hsp:SC Tryz.prog 79 [.s s] [] (.val (.tup [.sl .none [],.b false])) []:=hsp
  refine SC.of_gwp noM mixed Tryz.func39 rfl (Nat.le_of_ble_eq_true rfl) (by first|exact Nat.le_refl _|simp) rfl ?_
  conv=>whnf
  refine GIf.mk (fun h=>?_) (fun h=>?_)<;>conv=>whnf
  ·exfalso;have:=of_decide_eq_true h;omega
  refine callP hsp (Wks.refl _) rfl (fun _=>rfl) (fun _=>rfl) ?_
  conv=>whnf
  refine⟨_,⟨rfl,Nat.zero_le _,rfl,Nat.le_of_ble_eq_true rfl⟩,?_⟩
  conv=>whnf
  exact owes_wk (.refl _) (v0_cl 2)
 |some ws=>
  rw[hss] at hsp
  replace hsp:SC Tryz.prog 79 [.s s] [] (.val (.tup [.sl .none (strG ws),.b true])) []:=hsp
  have hcl0:Cl (.tup [.sl .none (strG ws),.b true]):=Cl.tup (.cons (Cl.sl (strG_cl ws)) (.cons (.b _) .nil))
  have hsl:=strG_len ws
  obtain⟨t,a,bad,hc,ha,hcase⟩:=r_oneside s (by omega) hss
  rcases hcase with⟨hb,e⟩|⟨⟨rfl,hae⟩,e⟩
  ·rw[e]
   simp only
   cases bad with
   |true=>
    refine SC.of_gwp noM mixed Tryz.func39 rfl (Nat.le_of_ble_eq_true rfl) (by first|exact Nat.le_refl _|simp) rfl ?_
    conv=>whnf
    refine GIf.mk (fun h=>?_) (fun h=>?_)<;>conv=>whnf
    ·exfalso;have:=of_decide_eq_true h;omega
    refine callP hsp (Wks.refl _) rfl (fun _=>rfl) hcl0 ?_
    conv=>whnf
    refine callB (q:=1) hc rfl (Wks.refl _) rfl rfl (rdr_cl _ _ _ _ _) (rdr_cl _ _ _ _ _) (fun _=>rfl) (fun _=>rfl) ?_
    conv=>whnf
    refine⟨_,⟨rfl,Nat.zero_le _,rfl,Nat.le_of_ble_eq_true rfl⟩,?_⟩
    conv=>whnf
    refine⟨_,⟨rfl,Nat.zero_le _,rfl,Nat.le_of_ble_eq_true rfl⟩,?_⟩
    conv=>whnf
    exact owes_wk (.refl _) (v0_cl 2)
   |false=>
    have hlt:a<ws.length:=hb.resolve_left (by simp)
    refine SC.of_gwp noM mixed Tryz.func39 rfl (Nat.le_of_ble_eq_true rfl) (by first|exact Nat.le_refl _|simp) rfl ?_
    conv=>whnf
    refine GIf.mk (fun h=>?_) (fun h=>?_)<;>conv=>whnf
    ·exfalso;have:=of_decide_eq_true h;omega
    refine callP hsp (Wks.refl _) rfl (fun _=>rfl) hcl0 ?_
    conv=>whnf
    refine callB (q:=1) hc rfl (Wks.refl _) rfl rfl (rdr_cl _ _ _ _ _) (rdr_cl _ _ _ _ _) (fun _=>rfl) (fun _=>rfl) ?_
    conv=>whnf
    refine⟨_,⟨rfl,Nat.zero_le _,rfl,Nat.le_of_ble_eq_true rfl⟩,?_⟩
    conv=>whnf
    refine GIf.mk (fun h9=>?_) (fun h9=>?_)<;>conv=>whnf
    rotate_left
    ·exfalso;have:=of_decide_eq_false h9;omega
    refine⟨_,⟨rfl,Nat.zero_le _,rfl,Nat.le_of_ble_eq_true rfl⟩,?_⟩
    conv=>whnf
    exact owes_wk (.refl _) (v0_cl 2)
  rw[e]
  simp only
  have h1:=r_Known1 I hI
  have h2:=r_Known1 V hV
  have h3:=r_fits2 I R hI hR
  have h4:=r_kind I V hI hV t
  have hl1:=itms_len V
  have hl2:=vlsG_len W
  have hg:=one_good ((oneR_eq s).symm.trans e)
  cases k1:knownB I with
  |false=>
   rw[k1] at h1
   refine SC.of_gwp noM mixed Tryz.func39 rfl (Nat.le_of_ble_eq_true rfl) (by first|exact Nat.le_refl _|simp) rfl ?_
   conv=>whnf
   refine GIf.mk (fun h=>?_) (fun h=>?_)<;>conv=>whnf
   ·exfalso;have:=of_decide_eq_true h;omega
   refine callP hsp (Wks.refl _) rfl (fun _=>rfl) hcl0 ?_
   conv=>whnf
   refine callB (q:=1) hc rfl (Wks.refl _) rfl rfl (rdr_cl _ _ _ _ _) (rdr_cl _ _ _ _ _) (fun _=>rfl) (fun _=>rfl) ?_
   conv=>whnf
   refine⟨_,⟨rfl,Nat.zero_le _,rfl,Nat.le_of_ble_eq_true rfl⟩,?_⟩
   conv=>whnf
   refine GIf.mk (fun h9=>?_) (fun h9=>?_)<;>conv=>whnf
   ·exfalso;have:=of_decide_eq_true h9;omega
   refine callP h1 (Wks.refl _) rfl (ClL.cons (Cl.sl (itms_cl I)) .nil) (.b _) ?_
   conv=>whnf
   refine⟨_,⟨rfl,Nat.zero_le _,rfl,Nat.le_of_ble_eq_true rfl⟩,?_⟩
   conv=>whnf
   exact owes_wk (.refl _) (v0_cl 1)
  |true=>
   rw[k1] at h1
   cases k2:knownB V with
   |false=>
    rw[k2] at h2
    refine SC.of_gwp noM mixed Tryz.func39 rfl (Nat.le_of_ble_eq_true rfl) (by first|exact Nat.le_refl _|simp) rfl ?_
    conv=>whnf
    refine GIf.mk (fun h=>?_) (fun h=>?_)<;>conv=>whnf
    ·exfalso;have:=of_decide_eq_true h;omega
    refine callP hsp (Wks.refl _) rfl (fun _=>rfl) hcl0 ?_
    conv=>whnf
    refine callB (q:=1) hc rfl (Wks.refl _) rfl rfl (rdr_cl _ _ _ _ _) (rdr_cl _ _ _ _ _) (fun _=>rfl) (fun _=>rfl) ?_
    conv=>whnf
    refine⟨_,⟨rfl,Nat.zero_le _,rfl,Nat.le_of_ble_eq_true rfl⟩,?_⟩
    conv=>whnf
    refine GIf.mk (fun h9=>?_) (fun h9=>?_)<;>conv=>whnf
    ·exfalso;have:=of_decide_eq_true h9;omega
    refine callP h1 (Wks.refl _) rfl (ClL.cons (Cl.sl (itms_cl I)) .nil) (.b _) ?_
    conv=>whnf
    refine callP h2 (Wks.refl _) rfl (ClL.cons (Cl.sl (itms_cl V)) .nil) (.b _) ?_
    conv=>whnf
    refine⟨_,⟨rfl,Nat.zero_le _,rfl,Nat.le_of_ble_eq_true rfl⟩,?_⟩
    conv=>whnf
    exact owes_wk (.refl _) (v0_cl 1)
   |true=>
    rw[k2] at h2
    cases k3:fits2 I R with
    |false=>
     rw[k3] at h3
     refine SC.of_gwp noM mixed Tryz.func39 rfl (Nat.le_of_ble_eq_true rfl) (by first|exact Nat.le_refl _|simp) rfl ?_
     conv=>whnf
     refine GIf.mk (fun h=>?_) (fun h=>?_)<;>conv=>whnf
     ·exfalso;have:=of_decide_eq_true h;omega
     refine callP hsp (Wks.refl _) rfl (fun _=>rfl) hcl0 ?_
     conv=>whnf
     refine callB (q:=1) hc rfl (Wks.refl _) rfl rfl (rdr_cl _ _ _ _ _) (rdr_cl _ _ _ _ _) (fun _=>rfl) (fun _=>rfl) ?_
     conv=>whnf
     refine⟨_,⟨rfl,Nat.zero_le _,rfl,Nat.le_of_ble_eq_true rfl⟩,?_⟩
     conv=>whnf
     refine GIf.mk (fun h9=>?_) (fun h9=>?_)<;>conv=>whnf
     ·exfalso;have:=of_decide_eq_true h9;omega
     refine callP h1 (Wks.refl _) rfl (ClL.cons (Cl.sl (itms_cl I)) .nil) (.b _) ?_
     conv=>whnf
     refine callP h2 (Wks.refl _) rfl (ClL.cons (Cl.sl (itms_cl V)) .nil) (.b _) ?_
     conv=>whnf
     refine callP h3 (Wks.refl _) rfl (ClL.cons (Cl.sl (itms_cl I)) (ClL.cons (Cl.sl (vlsG_cl R)) .nil)) (.b _) ?_
     conv=>whnf
     refine⟨_,⟨rfl,Nat.zero_le _,rfl,Nat.le_of_ble_eq_true rfl⟩,?_⟩
     conv=>whnf
     exact owes_wk (.refl _) (v0_cl 1)
    |true=>
     rw[k3] at h3
     rw[if_pos (show(true&&true&&true)=true from rfl)]
     by_cases b2:kindR I V t=0
     ·rw[if_pos b2]
      rw[b2] at h4
      refine SC.of_gwp noM mixed Tryz.func39 rfl (Nat.le_of_ble_eq_true rfl) (by first|exact Nat.le_refl _|simp) rfl ?_
      conv=>whnf
      refine GIf.mk (fun h=>?_) (fun h=>?_)<;>conv=>whnf
      ·exfalso;have:=of_decide_eq_true h;omega
      refine callP hsp (Wks.refl _) rfl (fun _=>rfl) hcl0 ?_
      conv=>whnf
      refine callB (q:=1) hc rfl (Wks.refl _) rfl rfl (rdr_cl _ _ _ _ _) (rdr_cl _ _ _ _ _) (fun _=>rfl) (fun _=>rfl) ?_
      conv=>whnf
      refine⟨_,⟨rfl,Nat.zero_le _,rfl,Nat.le_of_ble_eq_true rfl⟩,?_⟩
      conv=>whnf
      refine GIf.mk (fun h9=>?_) (fun h9=>?_)<;>conv=>whnf
      ·exfalso;have:=of_decide_eq_true h9;omega
      refine callP h1 (Wks.refl _) rfl (ClL.cons (Cl.sl (itms_cl I)) .nil) (.b _) ?_
      conv=>whnf
      refine callP h2 (Wks.refl _) rfl (ClL.cons (Cl.sl (itms_cl V)) .nil) (.b _) ?_
      conv=>whnf
      refine callP h3 (Wks.refl _) rfl (ClL.cons (Cl.sl (itms_cl I)) (ClL.cons (Cl.sl (vlsG_cl R)) .nil)) (.b _) ?_
      conv=>whnf
      refine callP h4 (Wks.refl _) rfl (ClL.cons (fun _=>rfl) (ClL.cons (Cl.sl (itms_cl I)) (ClL.cons (Cl.sl (itms_cl V)) .nil))) (.i _ _) ?_
      conv=>whnf
      refine⟨_,⟨rfl,Nat.zero_le _,rfl,Nat.le_of_ble_eq_true rfl⟩,?_⟩
      conv=>whnf
      exact owes_wk (.refl _) (v0_cl 5)
     rw[if_neg b2]
     have b3:kindE I V t≠5:=fun q=>by
      have:=kind_zero k1 k2 hg
      rw[q] at this;simp at this;exact b2 this
     have hgo:=h4
     generalize kindR I V t=kk at b2 h4
     by_cases b4:W.length=V.length
     rotate_left
     ·rw[if_neg b4]
      refine SC.of_gwp noM mixed Tryz.func39 rfl (Nat.le_of_ble_eq_true rfl) (by first|exact Nat.le_refl _|simp) rfl ?_
      conv=>whnf
      refine GIf.mk (fun h=>?_) (fun h=>?_)<;>conv=>whnf
      ·exfalso;have:=of_decide_eq_true h;omega
      refine callP hsp (Wks.refl _) rfl (fun _=>rfl) hcl0 ?_
      conv=>whnf
      refine callB (q:=1) hc rfl (Wks.refl _) rfl rfl (rdr_cl _ _ _ _ _) (rdr_cl _ _ _ _ _) (fun _=>rfl) (fun _=>rfl) ?_
      conv=>whnf
      refine⟨_,⟨rfl,Nat.zero_le _,rfl,Nat.le_of_ble_eq_true rfl⟩,?_⟩
      conv=>whnf
      refine GIf.mk (fun h9=>?_) (fun h9=>?_)<;>conv=>whnf
      ·exfalso;have:=of_decide_eq_true h9;omega
      refine callP h1 (Wks.refl _) rfl (ClL.cons (Cl.sl (itms_cl I)) .nil) (.b _) ?_
      conv=>whnf
      refine callP h2 (Wks.refl _) rfl (ClL.cons (Cl.sl (itms_cl V)) .nil) (.b _) ?_
      conv=>whnf
      refine callP h3 (Wks.refl _) rfl (ClL.cons (Cl.sl (itms_cl I)) (ClL.cons (Cl.sl (vlsG_cl R)) .nil)) (.b _) ?_
      conv=>whnf
      refine callP h4 (Wks.refl _) rfl (ClL.cons (fun _=>rfl) (ClL.cons (Cl.sl (itms_cl I)) (ClL.cons (Cl.sl (itms_cl V)) .nil))) (.i _ _) ?_
      conv=>whnf
      refine GIf.mk (fun z0=>?_) (fun z0=>?_)<;>conv=>whnf
      ·exfalso;exact b2 (by simpa using z0)
      refine GIf.mk (fun z=>?_) (fun z=>?_)<;>conv=>whnf
      rotate_left
      ·exfalso;have h9:((vlsG W).length:Int)=(itms V).length:=by simpa using z
       omega
      refine⟨_,⟨rfl,Nat.zero_le _,rfl,Nat.le_of_ble_eq_true rfl⟩,?_⟩
      conv=>whnf
      exact owes_wk (.refl _) (v0_cl 11)
     rw[if_pos b4]
     have h5:=r_kinds V W hW b4
     have h6:=r_value I V R W hI hV t (okT_of (fits2_len k3) b4 b3)
     cases b5:kinds2 V W with
     |false=>
      rw[b5] at h5
      refine SC.of_gwp noM mixed Tryz.func39 rfl (Nat.le_of_ble_eq_true rfl) (by first|exact Nat.le_refl _|simp) rfl ?_
      conv=>whnf
      refine GIf.mk (fun h=>?_) (fun h=>?_)<;>conv=>whnf
      ·exfalso;have:=of_decide_eq_true h;omega
      refine callP hsp (Wks.refl _) rfl (fun _=>rfl) hcl0 ?_
      conv=>whnf
      refine callB (q:=1) hc rfl (Wks.refl _) rfl rfl (rdr_cl _ _ _ _ _) (rdr_cl _ _ _ _ _) (fun _=>rfl) (fun _=>rfl) ?_
      conv=>whnf
      refine⟨_,⟨rfl,Nat.zero_le _,rfl,Nat.le_of_ble_eq_true rfl⟩,?_⟩
      conv=>whnf
      refine GIf.mk (fun h9=>?_) (fun h9=>?_)<;>conv=>whnf
      ·exfalso;have:=of_decide_eq_true h9;omega
      refine callP h1 (Wks.refl _) rfl (ClL.cons (Cl.sl (itms_cl I)) .nil) (.b _) ?_
      conv=>whnf
      refine callP h2 (Wks.refl _) rfl (ClL.cons (Cl.sl (itms_cl V)) .nil) (.b _) ?_
      conv=>whnf
      refine callP h3 (Wks.refl _) rfl (ClL.cons (Cl.sl (itms_cl I)) (ClL.cons (Cl.sl (vlsG_cl R)) .nil)) (.b _) ?_
      conv=>whnf
      refine callP h4 (Wks.refl _) rfl (ClL.cons (fun _=>rfl) (ClL.cons (Cl.sl (itms_cl I)) (ClL.cons (Cl.sl (itms_cl V)) .nil))) (.i _ _) ?_
      conv=>whnf
      refine GIf.mk (fun z0=>?_) (fun z0=>?_)<;>conv=>whnf
      ·exfalso;exact b2 (by simpa using z0)
      refine GIf.mk (fun z=>?_) (fun z=>?_)<;>conv=>whnf
      ·exfalso;have h9:¬((vlsG W).length:Int)=(itms V).length:=by simpa using z
       omega
      refine callP h5 (Wks.refl _) rfl (ClL.cons (Cl.sl (itms_cl V)) (ClL.cons (Cl.sl (vlsG_cl W)) .nil)) (.b _) ?_
      conv=>whnf
      refine⟨_,⟨rfl,Nat.zero_le _,rfl,Nat.le_of_ble_eq_true rfl⟩,?_⟩
      conv=>whnf
      exact owes_wk (.refl _) (v0_cl 1)
     |true=>
      rw[b5] at h5
      refine SC.of_gwp noM mixed Tryz.func39 rfl (Nat.le_of_ble_eq_true rfl) (by first|exact Nat.le_refl _|simp) rfl ?_
      conv=>whnf
      refine GIf.mk (fun h=>?_) (fun h=>?_)<;>conv=>whnf
      ·exfalso;have:=of_decide_eq_true h;omega
      refine callP hsp (Wks.refl _) rfl (fun _=>rfl) hcl0 ?_
      conv=>whnf
      refine callB (q:=1) hc rfl (Wks.refl _) rfl rfl (rdr_cl _ _ _ _ _) (rdr_cl _ _ _ _ _) (fun _=>rfl) (fun _=>rfl) ?_
      conv=>whnf
      refine⟨_,⟨rfl,Nat.zero_le _,rfl,Nat.le_of_ble_eq_true rfl⟩,?_⟩
      conv=>whnf
      refine GIf.mk (fun h9=>?_) (fun h9=>?_)<;>conv=>whnf
      ·exfalso;have:=of_decide_eq_true h9;omega
      refine callP h1 (Wks.refl _) rfl (ClL.cons (Cl.sl (itms_cl I)) .nil) (.b _) ?_
      conv=>whnf
      refine callP h2 (Wks.refl _) rfl (ClL.cons (Cl.sl (itms_cl V)) .nil) (.b _) ?_
      conv=>whnf
      refine callP h3 (Wks.refl _) rfl (ClL.cons (Cl.sl (itms_cl I)) (ClL.cons (Cl.sl (vlsG_cl R)) .nil)) (.b _) ?_
      conv=>whnf
      refine callP h4 (Wks.refl _) rfl (ClL.cons (fun _=>rfl) (ClL.cons (Cl.sl (itms_cl I)) (ClL.cons (Cl.sl (itms_cl V)) .nil))) (.i _ _) ?_
      conv=>whnf
      refine GIf.mk (fun z0=>?_) (fun z0=>?_)<;>conv=>whnf
      ·exfalso;exact b2 (by simpa using z0)
      refine GIf.mk (fun z=>?_) (fun z=>?_)<;>conv=>whnf
      ·exfalso;have h9:¬((vlsG W).length:Int)=(itms V).length:=by simpa using z
       omega
      refine callP h5 (Wks.refl _) rfl (ClL.cons (Cl.sl (itms_cl V)) (ClL.cons (Cl.sl (vlsG_cl W)) .nil)) (.b _) ?_
      conv=>whnf
      refine callP h6 (Wks.refl _) rfl (ClL.cons (fun _=>rfl) (ws4_cl I V R W)) (fun _=>rfl) ?_
      conv=>whnf
      repeat (refine⟨_,⟨rfl,Nat.zero_le _,rfl,Nat.le_of_ble_eq_true rfl⟩,?_⟩;conv=>whnf)
      exact owes_wk (.refl _) (fun _=>rfl)
end Go.Proofs.YtlhabmglchgdnaaGreatDoor
namespace Go.Proofs.YtlhabmglchgdnaaGreatDoor
open Go.RowKit
set_option maxRecDepth 100000
set_option linter.unusedVariables false
theorem c_EvalU (I V:List Itm) (R W:List Val) (hI:I.length<most) (hV:V.length<most) (hR:R.length<most) (hW:W.length<most) (s:By):
  SC Tryz.prog 23 [.s s,.sl .none (itms I),.sl .none (vlsG R),.sl .none (itms V),.sl .none (vlsG W)] [] (.val (.tup [.b (evalS I V R W s).1,.i .i64 (evalS I V R W s).2])) []:=by
 by_cases hl:1000<s.length
 ·have hr:=c_readU s
  have hcl:=readG_cl s
  unfold readG at hr hcl
  have e1:readS s=.err 3:=by unfold readS;rw[if_pos hl]
  unfold evalS
  rw[e1] at hr hcl⊢
  replace hr:SC Tryz.prog 46 [.s s] [] (.val (.tup [.o .nilIface,.i .i64 3])) []:=hr
  refine SC.of_gwp noM mixed Tryz.func23 rfl (Nat.le_of_ble_eq_true rfl) (by first|exact Nat.le_refl _|simp) rfl ?_
  conv=>whnf
  refine callP hr (Wks.refl _) rfl (fun _=>rfl) hcl ?_
  conv=>whnf
  refine⟨_,⟨rfl,Nat.zero_le _,rfl,Nat.le_of_ble_eq_true rfl⟩,?_⟩
  conv=>whnf
  exact owes_wk (.refl _) (fun _=>rfl)
 ·exact c_Eval I V R W hI hV hR hW s (by unfold most;omega)
def pB (P:List (By×Val)) (s:By) (q:Nat×By×Bool):Prop:=q.1<=P.length/\if q.2.2 then bindN (P.drop q.1) q.2.1=bindN P s else bindN P s=(q.2.1,false)
theorem pB_step {P:List (By×Val)} {s w:By} {i:Nat} {p:By×Val} (h:pB P s (i,w,true)) (hp:P[i]?=some p):pB P s (i+1,(boundS w p.1 p.2).1,decide ((boundS w p.1 p.2).2=0)):=by
 have hi:=(List.getElem?_eq_some_iff.1 hp).1
 refine⟨hi,?_⟩
 have h2:bindN (P.drop i) w=bindN P s:=h.2
 rw[List.drop_eq_getElem_cons hi,(List.getElem?_eq_some_iff.1 hp).2] at h2
 conv at h2=>lhs;unfold bindN
 by_cases h0:(boundS w p.1 p.2).2=0
 ·rw[if_pos h0] at h2
  show(if decide ((boundS w p.1 p.2).2=0)=true then _ else _)
  rw[if_pos (by simpa using h0)]
  exact h2
 ·rw[if_neg h0] at h2
  show(if decide ((boundS w p.1 p.2).2=0)=true then _ else _)
  rw[if_neg (by simpa using h0)]
  exact h2.symm
theorem pB_end {P:List (By×Val)} {s w:By} {i:Nat} (h:pB P s (i,w,true)) (hi:P.length<=i):bindN P s=(w,true):=by
 have h2:bindN (P.drop i) w=bindN P s:=h.2
 rw[List.drop_eq_nil_of_le hi] at h2
 exact h2.symm
theorem pairs_at {V:List Itm} {W:List Val} {i:Nat} {y:Itm} {v:Val} (hy:V[i]?=some y) (hv:W[i]?=some v):(pairsV V W)[i]?=some (y.name,v):=by
 unfold pairsV
 rw[List.getElem?_zip_eq_some]
 exact⟨by rw[List.getElem?_map,hy];rfl,hv⟩
theorem pairs_len (V:List Itm) (W:List Val):(pairsV V W).length=min V.length W.length:=by
 unfold pairsV
 rw[List.length_zip,List.length_map]
theorem vls_at {l:List Val} {i:Nat} {v:Val} (h:l[i]?=some v):(vlsG l)[i]?=some (.agg [.i .i64 v.k,.i .i64 v.n,.s v.s]):=by
 unfold vlsG
 rw[List.getElem?_map,h];rfl
theorem l_CondBinds (s u:By) (I V:List Itm) (R W:List Val):
  SC Tryz.prog 7 [.s s,.s u,.sl .none (itms I),.sl .none (vlsG R),.sl .none (itms V),.sl .none (vlsG W)] [] (.val (.b true)) []:=by
 have haw:=l_awake
 have i1:=l_Items I
 have i2:=l_Items V
 have i3:=l_Rows [R,W] (by simp)
 have hRW:[R,W].all rowB=true->R.length<most/\W.length<most:=fun h=>by
  simp only[List.all_cons,List.all_nil,Bool.and_true,Bool.and_eq_true] at h
  exact⟨row_le h.1,row_le h.2⟩
 generalize[R,W].all rowB=b3 at*
 cases b1:itemsB I with
 |false=>
  rw[b1] at i1
  refine SC.of_gwp noM mixed Tryz.func7 rfl (Nat.le_of_ble_eq_true rfl) (by first|exact Nat.le_refl _|simp) rfl ?_
  conv=>whnf
  refine GIf.mk (fun h=>?_) (fun h=>?_)<;>conv=>whnf
  ·skip
   refine callP haw (Wks.refl _) rfl (fun _=>rfl) (.b _) ?_
   conv=>whnf
   exact owes_b rfl
  refine callP i1 (Wks.refl _) rfl (ClL.cons (Cl.sl (itms_cl I)) .nil) (.b _) ?_
  conv=>whnf
  refine callP haw (Wks.refl _) rfl (fun _=>rfl) (.b _) ?_
  conv=>whnf
  exact owes_b rfl
 |true=>
 rw[b1] at i1
 cases b2:itemsB V with
 |false=>
  rw[b2] at i2
  refine SC.of_gwp noM mixed Tryz.func7 rfl (Nat.le_of_ble_eq_true rfl) (by first|exact Nat.le_refl _|simp) rfl ?_
  conv=>whnf
  refine GIf.mk (fun h=>?_) (fun h=>?_)<;>conv=>whnf
  ·skip
   refine callP haw (Wks.refl _) rfl (fun _=>rfl) (.b _) ?_
   conv=>whnf
   exact owes_b rfl
  refine callP i1 (Wks.refl _) rfl (ClL.cons (Cl.sl (itms_cl I)) .nil) (.b _) ?_
  conv=>whnf
  refine callP i2 (Wks.refl _) rfl (ClL.cons (Cl.sl (itms_cl V)) .nil) (.b _) ?_
  conv=>whnf
  refine callP haw (Wks.refl _) rfl (fun _=>rfl) (.b _) ?_
  conv=>whnf
  exact owes_b rfl
 |true=>
 rw[b2] at i2
 cases b3 with
 |false=>
  refine SC.of_gwp noM mixed Tryz.func7 rfl (Nat.le_of_ble_eq_true rfl) (by first|exact Nat.le_refl _|simp) rfl ?_
  conv=>whnf
  refine GIf.mk (fun h=>?_) (fun h=>?_)<;>conv=>whnf
  ·skip
   refine callP haw (Wks.refl _) rfl (fun _=>rfl) (.b _) ?_
   conv=>whnf
   exact owes_b rfl
  refine callP i1 (Wks.refl _) rfl (ClL.cons (Cl.sl (itms_cl I)) .nil) (.b _) ?_
  conv=>whnf
  refine callP i2 (Wks.refl _) rfl (ClL.cons (Cl.sl (itms_cl V)) .nil) (.b _) ?_
  conv=>whnf
  refine callP i3 (Wks.cons (Wk.sl _ _) (Wks.refl _)) rfl (ClL.cons (Cl.sl (rowsG_cl [R,W])) .nil) (.b _) ?_
  conv=>whnf
  refine callP haw (Wks.refl _) rfl (fun _=>rfl) (.b _) ?_
  conv=>whnf
  exact owes_b rfl
 |true=>
  obtain⟨hR,hW⟩:=hRW rfl
  have hI:=items_le b1
  have hV:=items_le b2
  have c1:=c_Term I V R W hI hV hR hW u
  have r1:=r_Term I V R W hI hV hR hW u
  rw[termR_eq] at r1
  have e1:=c_EvalU I V R W hI hV hR hW s
  have e2:=fun w=>c_EvalU I [] R [] hI (by unfold most;simp) hR (by unfold most;simp) w
  have hfin:=fun b w h h'=>@eval_bound I V R W s w b h h'
  have hpl:=pairs_len V W
  have hl1:=itms_len V
  have hl2:=vlsG_len W
  have hPat:=fun i y v hy hv=>@pairs_at V W i y v hy hv
  generalize termS I V R W u=T at*
  obtain⟨tv,te⟩:=T
  generalize evalS I V R W s=X at*
  obtain⟨x,p⟩:=X
  simp only at c1 r1 e1
  generalize pairsV V W=P at*
  refine SC.of_gwp noM mixed Tryz.func7 rfl (Nat.le_of_ble_eq_true rfl) (by first|exact Nat.le_refl _|simp) rfl ?_
  conv=>whnf
  refine GIf.mk (fun h=>?_) (fun h=>?_)<;>conv=>whnf
  ·skip
   refine callP haw (Wks.refl _) rfl (fun _=>rfl) (.b _) ?_
   conv=>whnf
   exact owes_b rfl
  refine callP i1 (Wks.refl _) rfl (ClL.cons (Cl.sl (itms_cl I)) .nil) (.b _) ?_
  conv=>whnf
  refine callP i2 (Wks.refl _) rfl (ClL.cons (Cl.sl (itms_cl V)) .nil) (.b _) ?_
  conv=>whnf
  refine callP i3 (Wks.cons (Wk.sl _ _) (Wks.refl _)) rfl (ClL.cons (Cl.sl (rowsG_cl [R,W])) .nil) (.b _) ?_
  conv=>whnf
  refine callP c1 (Wks.refl _) rfl (ClL.cons (.s _) (ws4_cl I V R W)) (fun _=>rfl) ?_
  conv=>whnf
  repeat (refine⟨_,⟨rfl,Nat.zero_le _,rfl,Nat.le_of_ble_eq_true rfl⟩,?_⟩;conv=>whnf)
  refine callP r1 (Wks.refl _) rfl (ClL.cons (.s _) (ws4_cl I V R W)) (fun _=>rfl) ?_
  conv=>whnf
  repeat (refine⟨_,⟨rfl,Nat.zero_le _,rfl,Nat.le_of_ble_eq_true rfl⟩,?_⟩;conv=>whnf)
  refine⟨by kernel_rfl,?_⟩
  conv=>whnf
  refine GIf.mk (fun n1=>?_) (fun n1=>?_)<;>conv=>whnf
  ·simp at n1
  refine GIf.mk (fun n2=>?_) (fun n2=>?_)<;>conv=>whnf
  ·simp at n2
  have ht3:=fun(w:By) (e:Int)=>l_tell w e
  have hBo:=fun w y v=>c_Bound w y v
  have rBo:=fun w y v=>r_Bound w y v
  refine GLoop.introS (pB P s) (fun q=>[(0,.s s),(2,.sl .none (itms I)),(3,.sl .none (vlsG R)),(4,.sl .none (itms V)),(5,.sl .none (vlsG W)),(17,.s q.2.1),(18,.b q.2.2),(19,.i .i64 (q.1:Nat))])
   (fun q=>⟨[.own 2 1 32,.box 53 tv.cs,.box 53 tv.cs],0,[]⟩) (fun q=>P.length+1 - (q.1+if q.2.2 then 0 else 1)) (0,s,true) ⟨Nat.zero_le _,rfl⟩ ⟨rfl,rfl,rfl,rfl,rfl,rfl,rfl,rfl,trivial⟩ rfl (fun _ _=>Nat.le_refl _) (fun q _=>rfl) (fun q _ e he=>?_) (fun q φ0 hi=>?_)
  ·refine⟨rfl,rfl,?_⟩
   show[_,(GV.sl .none (itms I)).ren e,(GV.sl .none (vlsG R)).ren e,(GV.sl .none (itms V)).ren e,(GV.sl .none (vlsG W)).ren e,_,_,_]=_
   rw[Cl.sl (itms_cl I) e,Cl.sl (vlsG_cl R) e,Cl.sl (itms_cl V) e,Cl.sl (vlsG_cl W) e];rfl
  obtain⟨i,w,b⟩:=q
  have hiP:i<=P.length:=hi.1
  cases b with
  |false=>
   conv=>whnf
   refine GIf.mk (fun h1=>?_) (fun h1=>?_)<;>conv=>whnf
   ·skip
    refine GIf.mk (fun h2=>?_) (fun h2=>?_)<;>conv=>whnf
    ·skip
     refine callP e1 (Wks.refl _) rfl (ClL.cons (.s _) (ws4_cl I V R W)) (fun _=>rfl) ?_
     conv=>whnf
     refine GIf.mk (fun z1=>?_) (fun z1=>?_)<;>conv=>whnf
     ·skip
      refine callP haw (Wks.refl _) rfl (fun _=>rfl) (.b _) ?_
      conv=>whnf
      exact owes_b rfl
     refine callP haw (Wks.refl _) rfl (fun _=>rfl) (.b _) ?_
     conv=>whnf
     exact owes_b rfl
    ·skip
     refine callP e1 (Wks.refl _) rfl (ClL.cons (.s _) (ws4_cl I V R W)) (fun _=>rfl) ?_
     conv=>whnf
     refine GIf.mk (fun z1=>?_) (fun z1=>?_)<;>conv=>whnf
     ·skip
      refine callP haw (Wks.refl _) rfl (fun _=>rfl) (.b _) ?_
      conv=>whnf
      exact owes_b rfl
     refine callP haw (Wks.refl _) rfl (fun _=>rfl) (.b _) ?_
     conv=>whnf
     exact owes_b rfl
   ·skip
    refine callP e1 (Wks.refl _) rfl (ClL.cons (.s _) (ws4_cl I V R W)) (fun _=>rfl) ?_
    conv=>whnf
    refine GIf.mk (fun z1=>?_) (fun z1=>?_)<;>conv=>whnf
    ·skip
     refine callP haw (Wks.refl _) rfl (fun _=>rfl) (.b _) ?_
     conv=>whnf
     exact owes_b rfl
    refine callP haw (Wks.refl _) rfl (fun _=>rfl) (.b _) ?_
    conv=>whnf
    exact owes_b rfl
  |true=>
   conv=>whnf
   refine GIf.mk (fun h1=>?_) (fun h1=>?_)<;>conv=>whnf
   rotate_left
   ·have hb:=pB_end hi (by have:=of_decide_eq_false h1;omega)
    refine callP e1 (Wks.refl _) rfl (ClL.cons (.s _) (ws4_cl I V R W)) (fun _=>rfl) ?_
    conv=>whnf
    refine GIf.mk (fun z1=>?_) (fun z1=>?_)<;>conv=>whnf
    ·skip
     refine callP haw (Wks.refl _) rfl (fun _=>rfl) (.b _) ?_
     conv=>whnf
     exact owes_b rfl
    have hX:(x,p)=(x,(0:Int)):=by rw[show p=0 by simpa using z1]
    have e3:=e2 w
    rw[hfin x w hX hb] at e3
    refine callP e3 (Wks.cons (Wk.refl _) (Wks.cons (Wk.refl _) (Wks.cons (Wk.refl _) (Wks.cons (Wk.sl _ _) (Wks.cons (Wk.sl _ _) (Wks.refl _)))))) rfl (ClL.cons (.s _) (ClL.cons (Cl.sl (itms_cl I)) (ClL.cons (Cl.sl (vlsG_cl R)) (ClL.cons (Cl.sl ClL.nil) (ClL.cons (Cl.sl ClL.nil) .nil))))) (fun _=>rfl) ?_
    conv=>whnf
    refine GIf.mk (fun z2=>?_) (fun z2=>?_)<;>conv=>whnf
    ·skip
     refine callP haw (Wks.refl _) rfl (fun _=>rfl) (.b _) ?_
     conv=>whnf
     exact owes_b rfl
    ·simp at z2
   have hiW:i<W.length:=by have:=of_decide_eq_true h1;omega
   refine GIf.mk (fun h2=>?_) (fun h2=>?_)<;>conv=>whnf
   rotate_left
   ·have hb:=pB_end hi (by have:=of_decide_eq_false h2;omega)
    refine callP e1 (Wks.refl _) rfl (ClL.cons (.s _) (ws4_cl I V R W)) (fun _=>rfl) ?_
    conv=>whnf
    refine GIf.mk (fun z1=>?_) (fun z1=>?_)<;>conv=>whnf
    ·skip
     refine callP haw (Wks.refl _) rfl (fun _=>rfl) (.b _) ?_
     conv=>whnf
     exact owes_b rfl
    have hX:(x,p)=(x,(0:Int)):=by rw[show p=0 by simpa using z1]
    have e3:=e2 w
    rw[hfin x w hX hb] at e3
    refine callP e3 (Wks.cons (Wk.refl _) (Wks.cons (Wk.refl _) (Wks.cons (Wk.refl _) (Wks.cons (Wk.sl _ _) (Wks.cons (Wk.sl _ _) (Wks.refl _)))))) rfl (ClL.cons (.s _) (ClL.cons (Cl.sl (itms_cl I)) (ClL.cons (Cl.sl (vlsG_cl R)) (ClL.cons (Cl.sl ClL.nil) (ClL.cons (Cl.sl ClL.nil) .nil))))) (fun _=>rfl) ?_
    conv=>whnf
    refine GIf.mk (fun z2=>?_) (fun z2=>?_)<;>conv=>whnf
    ·skip
     refine callP haw (Wks.refl _) rfl (fun _=>rfl) (.b _) ?_
     conv=>whnf
     exact owes_b rfl
    ·simp at z2
   have hiV:i<V.length:=by have:=of_decide_eq_true h2;omega
   obtain⟨y,hy⟩:∃y,V[i]?=some y:=⟨V[i],List.getElem?_eq_getElem hiV⟩
   obtain⟨v,hv⟩:∃v,W[i]?=some v:=⟨W[i],List.getElem?_eq_getElem hiW⟩
   have hVm:V.length<4611686018427387904:=hV
   have hst:=pB_step hi (hPat i y v hy hv)
   have hgy:=itms_at hy
   have hgv:=vls_at hv
   have hB:=hBo w y.name v
   have rB:=rBo w y.name v
   rw[boundR_eq] at rB
   simp only at hst
   generalize boundS w y.name v=q at*
   obtain⟨w2,e⟩:=q
   have t1:=ht3 w2 e
   refine GDraw.calm (by kernel_rfl) ?_
   conv=>whnf
   refine⟨Int.natCast_nonneg _,_,by rw[Int.toNat_natCast];exact hgy,rfl,?_⟩
   conv=>whnf
   refine⟨Int.natCast_nonneg _,_,by rw[Int.toNat_natCast];exact hgv,rfl,?_⟩
   conv=>whnf
   refine callP hB (Wks.refl _) rfl (fun _=>rfl) (fun _=>rfl) ?_
   conv=>whnf
   refine GDraw.calm (by kernel_rfl) ?_
   conv=>whnf
   refine callP t1 (Wks.refl _) rfl (fun _=>rfl) (fun _=>rfl) ?_
   conv=>whnf
   refine⟨Int.natCast_nonneg _,_,by rw[Int.toNat_natCast];exact hgy,rfl,?_⟩
   conv=>whnf
   refine⟨Int.natCast_nonneg _,_,by rw[Int.toNat_natCast];exact hgv,rfl,?_⟩
   conv=>whnf
   refine callP rB (Wks.refl _) rfl (fun _=>rfl) (fun _=>rfl) ?_
   conv=>whnf
   refine callP t1 (Wks.refl _) rfl (fun _=>rfl) (fun _=>rfl) ?_
   conv=>whnf
   refine⟨by kernel_rfl,?_⟩
   conv=>whnf
   refine GIf.mk (fun n3=>?_) (fun n3=>?_)<;>conv=>whnf
   ·simp at n3
   refine⟨P.length+1 - (i+1+if decide (e=0)=true then 0 else 1),?_,(i+1,w2,decide (e=0)),hst,rfl,⟨rfl,rfl,rfl,rfl,rfl,rfl,rfl,wrap_succ (by omega),trivial⟩,[],rfl,rfl⟩
   show _<P.length+1 - (i+0)
   split<;>omega
end Go.Proofs.YtlhabmglchgdnaaGreatDoor
namespace Go.Proofs.YtlhabmglchgdnaaGreatDoor
theorem condBinds_holds:Rows.CondBindsCardSaid:=condBinds_card_of (condBinds_of fun a0 a1 a2 a3 a4 a5 _ _ _ _ _ _=>⟨[],l_CondBinds a0 a1 a2 a4 a3 a5⟩)
end Go.Proofs.YtlhabmglchgdnaaGreatDoor
