/-
  CondParts: Parts and Told of every texts are those of the reference, a condition is true exactly if all of its Parts are, and what Told tells is the item's value in every row that makes it true; part 43 of 44. Conditions: none beyond the given statement.
-/
import Derived.Test.YtlhabmglchgdnaaGreatDoorQ42
set_option linter.all false
namespace Go.Proofs.YtlhabmglchgdnaaGreatDoor
open Go.RowKit
set_option maxRecDepth 100000
set_option linter.unusedVariables false
def tz:Term:=⟨[],false,v0⟩
def oneG (s:By):GV:=match termW litP (toks s) with
 |some (t,r)=>.tup [t.gv,.b (r.headD []==[])]
 |none=>.tup [tz.gv,.b false]
theorem c_oneTerm (s:By) (hs:s.length<=20000):SC Tryz.prog 76 [.s s] [] (.val (oneG s)) []:=by
 have hm:s.length<most:=by unfold most;omega
 have h0:At s 0 (toks s):=⟨Nat.zero_le _,rfl⟩
 have hc:=c_term s hs 0 (toks s) 0 h0
 unfold termO at hc
 unfold oneG
 cases hp:termW litP (toks s) with
 |none=>
  rw[hp] at hc
  replace hc:SC Tryz.prog 118 [.ptr 0 0] [rd s 0 (0:Nat)] (.panic wrongC) [.dead]:=hc
  refine SC.of_gwp noM mixed Tryz.func76 rfl (Nat.le_of_ble_eq_true rfl) (by first|exact Nat.le_refl _|simp) rfl ?_
  conv=>whnf
  refine callBd (q:=2) hc rfl (by first|exact Wks.refl _|exact Wks.cons (Wk.sl _ _) (Wks.refl _)|exact Wks.cons (Wk.sl _ _) (Wks.cons (Wk.sl _ _) (Wks.refl _))|exact Wks.cons (Wk.refl _) (Wks.cons (Wk.sl _ _) (Wks.refl _))) rfl rfl (by first|exact fun _=>rfl|exact Cl.sl (ClL.mapOf (fun _=>Cl.s _) _)|exact ClL.cons (Cl.sl (ClL.mapOf (fun _=>Cl.s _) _)) (fun _=>rfl)) (by first|exact fun _=>rfl|exact Cl.sl (ClL.mapOf (fun _=>Cl.s _) _)|exact ClL.cons (Cl.sl (ClL.mapOf (fun _=>Cl.s _) _)) (fun _=>rfl)) (by first|exact fun _=>rfl|exact Cl.sl (ClL.mapOf (fun _=>Cl.s _) _)|exact ClL.cons (Cl.sl (ClL.mapOf (fun _=>Cl.s _) _)) (fun _=>rfl)) ?_
  conv=>whnf
  refine owes0 (g:=.tup [tz.gv,.b false]) ?_ ?_ ?_
  ·kernel_rfl
  ·exact .refl _
  ·exact fun _=>rfl
 |some p=>
  obtain⟨t,r⟩:=p
  rw[hp] at hc
  obtain⟨m,hA,hc⟩:=hc
  replace hA:At s m r:=hA
  replace hc:SC Tryz.prog 118 [.ptr 0 0] [rd s 0 (0:Nat)] (.val t.gv) [rd s m (0:Nat)]:=hc
  have hwd:=c_word' s m (0:Nat) hA hm
  refine SC.of_gwp (onM [119]) mixed Tryz.func76 rfl (Nat.le_of_ble_eq_true rfl) (Nat.le_refl _) rfl ?_
  conv=>whnf
  refine callB (q:=2) hc rfl (Wks.refl _) rfl rfl (fun _=>rfl) (fun _=>rfl) (fun _=>rfl) t.cl ?_
  conv=>whnf
  refine⟨_,⟨rfl,Nat.zero_le _,rfl,Nat.le_of_ble_eq_true rfl⟩,?_⟩
  conv=>whnf
  refine GDraw.wild _ _ _ rfl rfl rfl (by kernel_rfl) ?_
  conv=>whnf
  refine callB (q:=2) hwd rfl (by first|exact Wks.refl _|exact Wks.cons (Wk.sl _ _) (Wks.refl _)|exact Wks.cons (Wk.sl _ _) (Wks.cons (Wk.sl _ _) (Wks.refl _))|exact Wks.cons (Wk.refl _) (Wks.cons (Wk.sl _ _) (Wks.refl _))) rfl rfl (by first|exact fun _=>rfl|exact Cl.sl (ClL.mapOf (fun _=>Cl.s _) _)|exact ClL.cons (Cl.sl (ClL.mapOf (fun _=>Cl.s _) _)) (fun _=>rfl)) (by first|exact fun _=>rfl|exact Cl.sl (ClL.mapOf (fun _=>Cl.s _) _)|exact ClL.cons (Cl.sl (ClL.mapOf (fun _=>Cl.s _) _)) (fun _=>rfl)) (by first|exact fun _=>rfl|exact Cl.sl (ClL.mapOf (fun _=>Cl.s _) _)|exact ClL.cons (Cl.sl (ClL.mapOf (fun _=>Cl.s _) _)) (fun _=>rfl)) (by first|exact fun _=>rfl|exact Cl.sl (ClL.mapOf (fun _=>Cl.s _) _)|exact ClL.cons (Cl.sl (ClL.mapOf (fun _=>Cl.s _) _)) (fun _=>rfl)) ?_
  conv=>whnf
  refine⟨_,⟨rfl,Nat.zero_le _,rfl,Nat.le_of_ble_eq_true rfl⟩,?_⟩
  conv=>whnf
  refine⟨_,⟨rfl,Nat.zero_le _,rfl,Nat.le_of_ble_eq_true rfl⟩,?_⟩
  conv=>whnf
  exact owes_wk (.refl _) (Cl.tup (.cons t.cl (.cons (.b _) .nil)))
def oneS (s:By):Option Term:=match termW litP (toks s) with
 |some (t,[])=>some t
 |_=>none
def termT (I V:List Itm) (R W:List Val) (t:Term):Val×Int:=
 if knownB I&&knownB V&&fits2 I R then
  if kindE I V t=5 then(v0,5)
  else if W.length=V.length then
   if kinds2 V W then(valT I V R W t,0) else(v0,1)
  else(v0,11)
 else(v0,1)
def termS (I V:List Itm) (R W:List Val) (s:By):Val×Int:=if 1000<s.length then(v0,3) else match oneS s with
 |none=>(v0,2)
 |some t=>termT I V R W t
theorem oneG_some {s:By} {t:Term} (h:oneS s=some t):oneG s=.tup [t.gv,.b true]:=by
 unfold oneS at h
 unfold oneG
 cases hp:termW litP (toks s) with
 |none=>rw[hp] at h;cases h
 |some p=>
  obtain⟨u,r⟩:=p
  rw[hp] at h
  cases r with
  |nil=>cases h;rfl
  |cons w r=>cases h
theorem oneG_none {s:By} (h:oneS s=none):∃t:Term,oneG s=.tup [t.gv,.b false]:=by
 unfold oneS at h
 unfold oneG
 cases hp:termW litP (toks s) with
 |none=>exact⟨tz,rfl⟩
 |some p=>
  obtain⟨u,r⟩:=p
  rw[hp] at h
  cases r with
  |nil=>cases h
  |cons w r=>
   obtain⟨pre,e1,_⟩:=termW_cw hp
   have hne:w≠[]:=toks_ne s.length s (Nat.le_refl _) w (by rw[e1];simp)
   exact⟨u,by show GV.tup [u.gv,.b (w==[])]=_;rw[show(w==[])=false by simpa using hne]⟩
theorem kindE_in (I V:List Itm) (t:Term):kindE I V t=0∨kindE I V t=5:=by
 unfold kindE
 split
 ·exact .inl rfl
 ·split
  ·exact .inl rfl
  ·exact .inr rfl
theorem v0_cl (e:Int):Cl (.tup [v0.gv,.i .i64 e]):=fun _=>rfl
theorem c_Term (I V:List Itm) (R W:List Val) (hI:I.length<most) (hV:V.length<most) (hR:R.length<most) (hW:W.length<most) (s:By):
  SC Tryz.prog 38 [.s s,.sl .none (itms I),.sl .none (vlsG R),.sl .none (itms V),.sl .none (vlsG W)] [] (.val (.tup [(termS I V R W s).1.gv,.i .i64 (termS I V R W s).2])) []:=by
 have hw:=wcs_cl I V R W
 unfold termS
 by_cases hl:1000<s.length
 ·rw[if_pos hl]
  refine SC.of_gwp noM mixed Tryz.func38 rfl (Nat.le_of_ble_eq_true rfl) (by first|exact Nat.le_refl _|simp) rfl ?_
  conv=>whnf
  refine GIf.mk (fun h=>?_) (fun h=>?_)<;>conv=>whnf
  ·skip
   repeat (refine⟨_,⟨rfl,Nat.zero_le _,rfl,Nat.le_of_ble_eq_true rfl⟩,?_⟩;conv=>whnf)
   exact owes_wk (.refl _) (v0_cl 3)
  ·exfalso;have:=of_decide_eq_false h;omega
 rw[if_neg hl]
 have h0:=c_oneTerm s (by omega)
 cases ho:oneS s with
 |none=>
  obtain⟨t,e⟩:=oneG_none ho
  rw[e] at h0
  refine SC.of_gwp noM mixed Tryz.func38 rfl (Nat.le_of_ble_eq_true rfl) (by first|exact Nat.le_refl _|simp) rfl ?_
  conv=>whnf
  refine GIf.mk (fun h=>?_) (fun h=>?_)<;>conv=>whnf
  ·exfalso;have:=of_decide_eq_true h;omega
  refine callP h0 (Wks.refl _) rfl (fun _=>rfl) (fun _=>rfl) ?_
  conv=>whnf
  repeat (refine⟨_,⟨rfl,Nat.zero_le _,rfl,Nat.le_of_ble_eq_true rfl⟩,?_⟩;conv=>whnf)
  exact owes_wk (.refl _) (v0_cl 2)
 |some t=>
  rw[oneG_some ho] at h0
  have h1:=c_wrong I V R W hI hV hR
  have h2:=c_kind I V hI hV t
  have h3:=c_toldW I V R W hV hW
  have hk:=kindE_in I V t
  simp only
  unfold termT
  unfold wrongS at h1
  by_cases b1:(knownB I&&knownB V&&fits2 I R)=true
  rotate_left
  ·rw[if_neg b1] at h1⊢
   refine SC.of_gwp noM mixed Tryz.func38 rfl (Nat.le_of_ble_eq_true rfl) (by first|exact Nat.le_refl _|simp) rfl ?_
   conv=>whnf
   refine GIf.mk (fun h=>?_) (fun h=>?_)<;>conv=>whnf
   ·exfalso;have:=of_decide_eq_true h;omega
   refine callP h0 (Wks.refl _) rfl (fun _=>rfl) (fun _=>rfl) ?_
   conv=>whnf
   repeat (refine⟨_,⟨rfl,Nat.zero_le _,rfl,Nat.le_of_ble_eq_true rfl⟩,?_⟩;conv=>whnf)
   refine callP h1 (Wks.refl _) rfl (ClL.cons (Cl.agg hw) .nil) (.i _ _) ?_
   conv=>whnf
   repeat (refine⟨_,⟨rfl,Nat.zero_le _,rfl,Nat.le_of_ble_eq_true rfl⟩,?_⟩;conv=>whnf)
   exact owes_wk (.refl _) (v0_cl 1)
  rw[if_pos b1] at h1⊢
  have b1':=b1
  simp only[Bool.and_eq_true] at b1'
  by_cases b2:kindE I V t=5
  ·rw[if_pos b2]
   rw[b2] at h2
   refine SC.of_gwp noM mixed Tryz.func38 rfl (Nat.le_of_ble_eq_true rfl) (by first|exact Nat.le_refl _|simp) rfl ?_
   conv=>whnf
   refine GIf.mk (fun h=>?_) (fun h=>?_)<;>conv=>whnf
   ·exfalso;have:=of_decide_eq_true h;omega
   refine callP h0 (Wks.refl _) rfl (fun _=>rfl) (fun _=>rfl) ?_
   conv=>whnf
   repeat (refine⟨_,⟨rfl,Nat.zero_le _,rfl,Nat.le_of_ble_eq_true rfl⟩,?_⟩;conv=>whnf)
   refine callP h1 (Wks.refl _) rfl (ClL.cons (Cl.agg hw) .nil) (.i _ _) ?_
   conv=>whnf
   refine callP h2 (Wks.refl _) rfl (ClL.cons t.cl (ClL.cons (Cl.sl (itms_cl I)) (ClL.cons (Cl.sl (itms_cl V)) .nil))) (fun _=>rfl) ?_
   conv=>whnf
   repeat (refine⟨_,⟨rfl,Nat.zero_le _,rfl,Nat.le_of_ble_eq_true rfl⟩,?_⟩;conv=>whnf)
   exact owes_wk (.refl _) (v0_cl 5)
  rw[if_neg b2]
  have b3:kindE I V t=0:=hk.resolve_right b2
  rw[b3] at h2
  unfold toldS at h3
  by_cases b4:W.length=V.length
  rotate_left
  ·rw[if_neg b4]
   rw[if_pos b4] at h3
   refine SC.of_gwp noM mixed Tryz.func38 rfl (Nat.le_of_ble_eq_true rfl) (by first|exact Nat.le_refl _|simp) rfl ?_
   conv=>whnf
   refine GIf.mk (fun h=>?_) (fun h=>?_)<;>conv=>whnf
   ·exfalso;have:=of_decide_eq_true h;omega
   refine callP h0 (Wks.refl _) rfl (fun _=>rfl) (fun _=>rfl) ?_
   conv=>whnf
   repeat (refine⟨_,⟨rfl,Nat.zero_le _,rfl,Nat.le_of_ble_eq_true rfl⟩,?_⟩;conv=>whnf)
   refine callP h1 (Wks.refl _) rfl (ClL.cons (Cl.agg hw) .nil) (.i _ _) ?_
   conv=>whnf
   refine callP h2 (Wks.refl _) rfl (ClL.cons t.cl (ClL.cons (Cl.sl (itms_cl I)) (ClL.cons (Cl.sl (itms_cl V)) .nil))) (fun _=>rfl) ?_
   conv=>whnf
   refine callP h3 (Wks.refl _) rfl (ClL.cons (Cl.agg hw) .nil) (.i _ _) ?_
   conv=>whnf
   repeat (refine⟨_,⟨rfl,Nat.zero_le _,rfl,Nat.le_of_ble_eq_true rfl⟩,?_⟩;conv=>whnf)
   exact owes_wk (.refl _) (v0_cl 11)
  rw[if_pos b4]
  rw[if_neg (by simpa using b4)] at h3
  cases b5:kinds2 V W with
  |false=>
   rw[b5] at h3
   replace h3:SC Tryz.prog 57 [.agg (wcs I V R W)] [] (.val (.i .i64 1)) []:=h3
   refine SC.of_gwp noM mixed Tryz.func38 rfl (Nat.le_of_ble_eq_true rfl) (by first|exact Nat.le_refl _|simp) rfl ?_
   conv=>whnf
   refine GIf.mk (fun h=>?_) (fun h=>?_)<;>conv=>whnf
   ·exfalso;have:=of_decide_eq_true h;omega
   refine callP h0 (Wks.refl _) rfl (fun _=>rfl) (fun _=>rfl) ?_
   conv=>whnf
   repeat (refine⟨_,⟨rfl,Nat.zero_le _,rfl,Nat.le_of_ble_eq_true rfl⟩,?_⟩;conv=>whnf)
   refine callP h1 (Wks.refl _) rfl (ClL.cons (Cl.agg hw) .nil) (.i _ _) ?_
   conv=>whnf
   refine callP h2 (Wks.refl _) rfl (ClL.cons t.cl (ClL.cons (Cl.sl (itms_cl I)) (ClL.cons (Cl.sl (itms_cl V)) .nil))) (fun _=>rfl) ?_
   conv=>whnf
   refine callP h3 (Wks.refl _) rfl (ClL.cons (Cl.agg hw) .nil) (.i _ _) ?_
   conv=>whnf
   repeat (refine⟨_,⟨rfl,Nat.zero_le _,rfl,Nat.le_of_ble_eq_true rfl⟩,?_⟩;conv=>whnf)
   exact owes_wk (.refl _) (v0_cl 1)
  |true=>
   rw[b5] at h3
   replace h3:SC Tryz.prog 57 [.agg (wcs I V R W)] [] (.val (.i .i64 0)) []:=h3
   have hh:=c_value2 I V R W hI hV t (okT_of (fits2_len b1'.2) b4 b2)
   refine SC.of_gwp noM mixed Tryz.func38 rfl (Nat.le_of_ble_eq_true rfl) (by first|exact Nat.le_refl _|simp) rfl ?_
   conv=>whnf
   refine GIf.mk (fun h=>?_) (fun h=>?_)<;>conv=>whnf
   ·exfalso;have:=of_decide_eq_true h;omega
   refine callP h0 (Wks.refl _) rfl (fun _=>rfl) (fun _=>rfl) ?_
   conv=>whnf
   repeat (refine⟨_,⟨rfl,Nat.zero_le _,rfl,Nat.le_of_ble_eq_true rfl⟩,?_⟩;conv=>whnf)
   refine callP h1 (Wks.refl _) rfl (ClL.cons (Cl.agg hw) .nil) (.i _ _) ?_
   conv=>whnf
   refine callP h2 (Wks.refl _) rfl (ClL.cons t.cl (ClL.cons (Cl.sl (itms_cl I)) (ClL.cons (Cl.sl (itms_cl V)) .nil))) (fun _=>rfl) ?_
   conv=>whnf
   refine callP h3 (Wks.refl _) rfl (ClL.cons (Cl.agg hw) .nil) (.i _ _) ?_
   conv=>whnf
   refine callP hh (Wks.refl _) rfl (ClL.cons (Cl.agg hw) (ClL.cons t.cl .nil)) (fun _=>rfl) ?_
   conv=>whnf
   repeat (refine⟨_,⟨rfl,Nat.zero_le _,rfl,Nat.le_of_ble_eq_true rfl⟩,?_⟩;conv=>whnf)
   exact owes_wk (.refl _) (fun _=>rfl)
end Go.Proofs.YtlhabmglchgdnaaGreatDoor
namespace Go.Proofs.YtlhabmglchgdnaaGreatDoor
open Go.RowKit
set_option maxRecDepth 100000
set_option linter.unusedVariables false
def partsL (l:List Tree):List By×Int:=if l.all (fun x=>(resS x).2==0) then(l.map fun x=>(resS x).1,0) else([],4)
theorem res_flat (x:Tree):resS x.flat=resS x:=by
 unfold resS
 rw[flat_flat]
theorem partsL_flat (l:List Tree):partsL (l.map Tree.flat)=partsL l:=by
 unfold partsL
 rw[List.all_map,List.map_map]
 have e:(fun x=>(resS x).2==0)∘Tree.flat=fun x=>(resS x).2==0:=funext fun x=>by show((resS x.flat).2==0)=_;rw[res_flat]
 have e2:(fun x=>(resS x).1)∘Tree.flat=fun x=>(resS x).1:=funext fun x=>by show(resS x.flat).1=_;rw[res_flat]
 rw[e,e2]
def partsS (s:By):List By×Int:=match readS s with
 |.err e=>([],e)
 |.ok t=>partsL (t.sides true)
def tellA (name:By) (a:Term):Bool:=decide (a.name=name)&&!a.var&&decide (name≠[])
def openT (a:Term):Bool:=decide (a.name=[])||a.var
def tellT (name:By):Tree->Option Term
 |.test op a b=>if op=[61] then(if tellA name a&&openT b then some b else if tellA name b&&openT a then some a else none) else none
 |_=>none
theorem tell_flat (name:By) (t:Tree):tellT name t.flat=tellT name t:=by
 cases t with
 |pair b l r=>
  have:=isP_flat b (.pair b l r)
  cases h:(Tree.pair b l r).flat with
  |pair _ _ _=>rfl
  |no _=>rfl
  |test _ _ _=>rw[h] at this;simp[isP] at this
  |truth _=>rfl
 |no t=>rfl
 |test _ _ _=>rfl
 |truth _=>rfl
def toldL (name:By) (l:List Tree):By×Bool×Int:=match l.findSome? (tellT name) with
 |some u=>(u.txt,true,0)
 |none=>([],false,0)
theorem toldL_flat (name:By) (l:List Tree):toldL name (l.map Tree.flat)=toldL name l:=by
 unfold toldL
 rw[List.findSome?_map]
 have e:tellT name∘Tree.flat=tellT name:=funext fun x=>tell_flat name x
 rw[e]
def toldQ (s name:By):By×Bool×Int:=match readS s with
 |.err e=>([],false,e)
 |.ok t=>toldL name (t.sides true)
theorem leaf_in {a:Bool} {t x:Tree} (hx:x∈t.sides a) {p:Term×Term} (hp:p∈tsts x):p∈tsts t:=by
 induction t with
 |pair b l r ihl ihr=>
  unfold Tree.sides at hx
  split at hx
  ·rcases List.mem_append.1 hx with hx|hx
   ·exact List.mem_append.2 (.inl (ihl hx))
   ·exact List.mem_append.2 (.inr (ihr hx))
  ·rw[List.mem_singleton.1 hx] at hp;exact hp
 |no t _=>rw[List.mem_singleton.1 (show x∈[Tree.no t] from hx)] at hp;exact hp
 |test op l r=>rw[List.mem_singleton.1 (show x∈[Tree.test op l r] from hx)] at hp;exact hp
 |truth b=>rw[List.mem_singleton.1 (show x∈[Tree.truth b] from hx)] at hp;exact hp
theorem check_side {I V:List Itm} {a:Bool} {t x:Tree} (h:checkS I V t=0) (hx:x∈t.sides a):checkS I V x=0:=by
 rw[check_zero] at*
 obtain⟨h1,h2⟩:=h
 refine⟨?_,?_⟩
 ·rw[Bool.eq_false_iff]
  intro ha
  obtain⟨y,hy,h0⟩:=List.any_eq_true.1 ha
  rw[leaves_tsts] at hy
  obtain⟨p,hp,hy⟩:=List.mem_flatMap.1 hy
  have:(leaves t).any (fun x=>kindR I V x==0)=true:=List.any_eq_true.2 ⟨y,by rw[leaves_tsts];exact List.mem_flatMap.2 ⟨p,leaf_in hx hp,hy⟩,h0⟩
  rw[this] at h1;cases h1
 ·rw[Bool.eq_false_iff]
  intro ha
  obtain⟨p,hp,h0⟩:=List.any_eq_true.1 ha
  have:(tsts t).any (fun p=>kindR I V p.1 !=kindR I V p.2)=true:=List.any_eq_true.2 ⟨p,leaf_in hx hp,h0⟩
  rw[this] at h2;cases h2
theorem side_good {a:Bool}:∀{t:Tree},t.good->∀x∈t.sides a,x.good:=good_side
theorem evT_side {I V:List Itm} {R W:List Val} {a:Bool} {t x:Tree} {b:Bool} (h:evT I V R W t=(b,0)) (hx:x∈t.sides a):evT I V R W x=(truthV (valT I V R W) x,0):=by
 obtain⟨k1,k2,k3,k4,k5⟩:=evT_ok h
 exact evT_mk k1 (check_side k2 hx) k3 k4
theorem parts_eval {I V:List Itm} {R W:List Val} {s:By} {b:Bool} {l:List By} (h:evalS I V R W s=(b,0)) (hp:partsS s=(l,0)):
  ∃bs:List Bool,bs.length=l.length/\(∀(i:Nat) p c,l[i]?=some p->bs[i]?=some c->evalS I V R W p=(c,0))/\b=bs.all id:=by
 obtain⟨t,hr,he⟩:=eval_ok h
 have hg:=(readS_good hr).1
 unfold partsS at hp
 rw[hr] at hp
 simp only at hp
 unfold partsL at hp
 split at hp
 ·rename_i ha
  have hl:(t.sides true).map (fun x=>(resS x).1)=l:=congrArg Prod.fst hp
  refine⟨(t.sides true).map (truthV (valT I V R W)),by rw[<-hl];simp,fun i p c h1 h2=>?_,?_⟩
  ·rw[<-hl,List.getElem?_map,Option.map_eq_some_iff] at h1
   obtain⟨x,hx,rfl⟩:=h1
   rw[List.getElem?_map,hx,Option.map_some,Option.some.injEq] at h2
   have hm:=List.mem_of_getElem? hx
   have h0:(resS x).2=0:=by simpa using List.all_eq_true.1 ha x hm
   unfold evalS
   rw[res_read (good_side hg x hm) h0]
   simp only
   rw[evT_flat,evT_side he hm,h2]
  ·obtain⟨_,_,_,_,k5⟩:=evT_ok he
   rw[k5,truth_sides _ true,if_pos rfl,List.all_map]
   rfl
 ·have:=congrArg Prod.snd hp
  simp at this
theorem cmpI_zero {x y:Int} (h:cmpI x y=0):x=y:=by
 unfold cmpI at h
 split at h
 ·cases h
 ·split at h
  ·cases h
  ·omega
theorem bl_total:∀(a b:By),Op.bytesLess a b=false->Op.bytesLess b a=false->a=b
 |[],[],_,_=>rfl
 |[],_::_,h,_=>by simp[Op.bytesLess] at h
 |_::_,[],_,h=>by simp[Op.bytesLess] at h
 |x::a,y::b,h1,h2=>by
  unfold Op.bytesLess at h1 h2
  simp only[Bool.or_eq_false_iff,decide_eq_false_iff_not] at h1 h2
  have hxy:x=y:=by
   apply UInt8.toNat_inj.1
   have a1:=h1.1
   have a2:=h2.1
   rw[UInt8.lt_iff_toNat_lt] at a1 a2
   omega
  subst hxy
  rw[bl_total a b (by simpa using h1.2) (by simpa using h2.2)]
theorem cmpV_zero {a b:Val} (h:cmpV a b=0):a=b:=by
 unfold cmpV at h
 split at h
 ·rename_i h1;exact absurd h h1
 ·rename_i h1
  split at h
  ·rename_i h2;exact absurd h h2
  ·rename_i h2
   have e1:=cmpI_zero (Decidable.not_not.1 h1)
   have e2:=cmpI_zero (Decidable.not_not.1 h2)
   have e3:a.s=b.s:=by
    unfold cmpB at h
    split at h
    ·cases h
    ·rename_i h3
     split at h
     ·cases h
     ·rename_i h4
      exact bl_total _ _ (by simpa using h3) (by simpa using h4)
   obtain⟨k,n,s⟩:=a
   obtain⟨k',n',s'⟩:=b
   simp only at e1 e2 e3
   rw[e1,e2,e3]
theorem one_txt {t:Term} (h:t.good):oneS t.txt=some t:=by
 have h1:=toks_term h (y:=[]) (.inl rfl)
 rw[List.append_nil] at h1
 have h2:=termW_words h []
 rw[List.append_nil] at h2
 unfold oneS
 rw[h1,toks_nil rfl,List.append_nil,h2]
theorem termT_ok {I V:List Itm} {R W:List Val} {t:Term} (h1:(knownB I&&knownB V&&fits2 I R)=true) (h2:kindR I V t≠0) (hg:t.good) (h3:W.length=V.length) (h4:kinds2 V W=true):termT I V R W t=(valT I V R W t,0):=by
 unfold termT
 rw[if_pos h1]
 simp only[Bool.and_eq_true] at h1
 have hk:=kind_zero h1.1.1 h1.1.2 hg
 rw[if_neg (fun e=>by rw[e] at hk;simp at hk;exact h2 hk),if_pos h3,if_pos h4]
theorem told_val {I V:List Itm} {R W:List Val} {s name w:By} {e2:Int} (h:evalS I V R W s=(true,0)) (ht:toldQ s name=(w,true,e2)):∃v,termS I V R W w=(v,0)/\termS I V R W name=(v,0):=by
 obtain⟨t,hr,he⟩:=eval_ok h
 have hg:=(readS_good hr).1
 unfold toldQ at ht
 rw[hr] at ht
 simp only at ht
 unfold toldL at ht
 split at ht
 ·rename_i u hu
  have hw:u.txt=w:=congrArg Prod.fst ht
  obtain⟨x,hx,hxu⟩:=List.exists_of_findSome?_eq_some hu
  obtain⟨k1,k2,k3,k4,k5⟩:=evT_ok he
  have hxt:truthV (valT I V R W) x=true:=by
   rw[truth_sides _ true,if_pos rfl] at k5
   exact List.all_eq_true.1 k5.symm x hx
  have hc:=check_side k2 hx
  have hxg:=good_side hg x hx
  cases x with
  |pair _ _ _=>cases hxu
  |no _=>cases hxu
  |truth _=>cases hxu
  |test op a b=>
   replace hxu:(if op=[61] then(if tellA name a&&openT b then some b else if tellA name b&&openT a then some a else none) else none)=some u:=hxu
   split at hxu
   ·rename_i hop
    subst hop
    have hv:valT I V R W a=valT I V R W b:=cmpV_zero (by
     simp only[truthV,relB] at hxt
     simpa using hxt)
    obtain⟨c1,_⟩:=check_zero.1 hc
    have ca:kindR I V a≠0:=fun e=>by simp[leaves,e] at c1
    have cb:kindR I V b≠0:=fun e=>by simp[leaves,e] at c1
    obtain⟨_,ga,gb⟩:=hxg
    have key:∀x:Term,x.good->kindR I V x≠0->termS I V R W x.txt=(valT I V R W x,0):=fun x gx cx=>by
     have hl:=(termW_nice (termW_words gx [])).2
     unfold termS
     rw[if_neg (by omega),one_txt gx]
     exact termT_ok k1 cx gx k3 k4
    have nm:∀x:Term,tellA name x=true->x.txt=name:=fun x hx=>by
     unfold tellA at hx
     simp only[Bool.and_eq_true,decide_eq_true_eq,Bool.not_eq_true'] at hx
     unfold Term.txt
     rw[hx.1.2,if_neg (by simp),if_pos (by rw[hx.1.1];exact hx.2),hx.1.1]
    split at hxu
    ·rename_i hq
     have hbu:b=u:=Option.some.inj hxu
     subst hbu
     simp only[Bool.and_eq_true] at hq
     refine⟨valT I V R W b,by rw[<-hw];exact key b gb cb,?_⟩
     rw[<-hv,<-nm a hq.1]
     exact key a ga ca
    ·split at hxu
     ·rename_i hq
      have hbu:a=u:=Option.some.inj hxu
      subst hbu
      simp only[Bool.and_eq_true] at hq
      refine⟨valT I V R W a,by rw[<-hw];exact key a ga ca,?_⟩
      rw[hv,<-nm b hq.1]
      exact key b gb cb
     ·cases hxu
   ·cases hxu
 ·cases ht
end Go.Proofs.YtlhabmglchgdnaaGreatDoor
namespace Go.Proofs.YtlhabmglchgdnaaGreatDoor
open Go.RowKit
set_option maxRecDepth 100000
set_option linter.unusedVariables false
def partsAt (L:List Tree) (i:Nat):List By:=(L.take i).map fun x=>(resS x).1
theorem partsAt_succ {L:List Tree} {i:Nat} {y:Tree} (h:L[i]?=some y):partsAt L (i+1)=partsAt L i++[(resS y).1]:=by
 unfold partsAt
 rw[List.take_add_one,h,List.map_append];rfl
theorem partsAt_len (L:List Tree) (i:Nat):(partsAt L i).length<=L.length:=by
 unfold partsAt
 rw[List.length_map,List.length_take];omega
theorem parts_no {L:List Tree} {i:Nat} {y:Tree} (hy:L[i]?=some y) (h:(resS y).2≠0):partsL L=([],4):=by
 unfold partsL
 rw[if_neg (fun q=>h (by simpa using List.all_eq_true.1 q y (List.mem_of_getElem? hy)))]
theorem parts_end {L:List Tree} (h:∀z∈L,(resS z).2=0):partsL L=(partsAt L L.length,0):=by
 unfold partsL partsAt
 rw[if_pos (List.all_eq_true.2 fun z hz=>by simpa using h z hz),List.take_length]
theorem parts_take {L:List Tree} {i:Nat} {y:Tree} (h:∀z∈L.take i,(resS z).2=0) (hy:L[i]?=some y) (h0:(resS y).2=0):∀z∈L.take (i+1),(resS z).2=0:=fun z hz=>by
 rw[List.take_add_one,hy] at hz
 rcases List.mem_append.1 hz with q|q
 ·exact h z q
 ·simp at q;rw[q];exact h0
theorem res_e (t:Tree):(resS t).2=0∨(resS t).2=4:=by
 unfold resS
 split
 ·exact .inr rfl
 ·exact .inl rfl
theorem c_Parts (s:By):SC Tryz.prog 42 [.s s] [] (.val (.tup [.sl .none (strG (partsS s).1),.i .i64 (partsS s).2])) []:=by
 have hr:=c_readU s
 have hcl:=readG_cl s
 unfold readG at hr hcl
 unfold partsS
 cases h:readS s with
 |err e=>
  rw[h] at hr hcl
  replace hr:SC Tryz.prog 46 [.s s] [] (.val (.tup [.o .nilIface,.i .i64 e])) []:=hr
  have he:=readS_err h
  simp only
  rcases he with rfl|rfl|rfl
  all_goals
   refine SC.of_gwp noM mixed Tryz.func42 rfl (Nat.le_of_ble_eq_true rfl) (by first|exact Nat.le_refl _|simp) rfl ?_
   conv=>whnf
   refine callP hr (Wks.refl _) rfl (fun _=>rfl) hcl ?_
   conv=>whnf
   exact owes_wk (wk_t2 (Wk.sl _ _) (.refl _)) (Cl.tup (.cons (Cl.sl ClL.nil) (.cons (.i _ _) .nil)))
 |ok t=>
  rw[h] at hr hcl
  replace hr:SC Tryz.prog 46 [.s s] [] (.val (.tup [t.gv,.i .i64 0])) []:=hr
  obtain⟨hn,hz,_⟩:=readS_bound h
  have hg:=(readS_good h).1
  have hsd:=c_sides true t (by omega)
  have hsl:=sides_len (a:=true) t
  have hres:∀y∈t.sides true,SC Tryz.prog 47 [y.gv] [] (.val (.tup [.s (resS y).1,.i .i64 (resS y).2])) []:=fun y hy=>
   c_result y (nice_of (side_good hg y hy)) (by have:=sides_size hy;omega)
  have htc:=t.cl
  simp only
  generalize t.sides true=L at*
  have hL:L.length<=1000:=by omega
  have hlt:(treesG L).length=L.length:=by simp[treesG]
  refine SC.of_gwp noM mixed Tryz.func42 rfl (Nat.le_of_ble_eq_true rfl) (by first|exact Nat.le_refl _|simp) rfl ?_
  conv=>whnf
  refine callP hr (Wks.refl _) rfl (fun _=>rfl) hcl ?_
  conv=>whnf
  refine callP hsd (Wks.refl _) rfl (ClL.cons htc (fun _=>rfl)) (Cl.sl (treesG_cl L)) ?_
  conv=>whnf
  refine GLoop.introS (fun q:Nat×List By=>q.1<=L.length/\partsAt L q.1=q.2/\∀z∈L.take q.1,(resS z).2=0) (fun q=>[(6,.sl (.own 1) (strG q.2)),(20,.sl .none (treesG L)),(21,.i .i64 (treesG L).length),(22,.i .i64 (q.1:Nat))])
   (fun q=>⟨[.own 0 0 0,ow 9 1 q.2.length],0,[]⟩) (fun q=>L.length - q.1) (0,[]) ⟨Nat.zero_le _,rfl,fun z hz=>by simp at hz⟩ ⟨rfl,rfl,rfl,rfl,trivial⟩ rfl (fun _ _=>Nat.le_refl _) (fun q _=>by simp only[List.all_cons,ow_held];rfl) (fun q _ e he=>?_) (fun q φ0 hi=>?_)
  ·refine⟨by simp[ow_ren];rfl,rfl,?_⟩
   show[(GV.sl (.own 1) (strG q.2)).ren e,(GV.sl .none (treesG L)).ren e,_,_]=_
   rw[ren_own (he 1 (by simp)) (strG_cl _),Cl.sl (treesG_cl L) e];rfl
  obtain⟨i,o⟩:=q
  obtain⟨hi,ho,hall⟩:=hi
  replace hi:i<=L.length:=hi
  replace ho:partsAt L i=o:=ho
  replace hall:∀z∈L.take i,(resS z).2=0:=hall
  have hol:=partsAt_len L (i+1)
  conv=>whnf
  refine GIf.mk (fun hc=>?_) (fun hc=>?_)<;>conv=>whnf
  rotate_left
  ·have hie:i=L.length:=by have:=of_decide_eq_false hc;rw[hlt] at this;omega
   rw[hie,List.take_length] at hall
   rw[hie] at ho
   rw[parts_end hall,ho]
   exact owes_wk (wk_t2 (Wk.sl _ _) (.refl _)) (Cl.tup (.cons (Cl.sl (strG_cl _)) (.cons (.i _ _) .nil)))
  have hlt2:i<L.length:=by have:=of_decide_eq_true hc;rw[hlt] at this;omega
  obtain⟨y,hy⟩:∃y,L[i]?=some y:=⟨L[i],List.getElem?_eq_getElem hlt2⟩
  have hgy:(treesG L)[i]?=some y.gv:=by unfold treesG;rw[List.getElem?_map,hy];rfl
  have hcy:=hres y (List.mem_of_getElem? hy)
  have hsucc:=partsAt_succ hy
  rw[hsucc,ho,List.length_append,List.length_singleton] at hol
  rw[ho] at hsucc
  have hre:=res_e y
  have hpn:=parts_no hy
  have hpt:=parts_take hall hy
  have hyc:=y.cl
  generalize resS y=q at*
  obtain⟨w,e⟩:=q
  replace hsucc:partsAt L (i+1)=o++[w]:=hsucc
  refine⟨Int.natCast_nonneg _,y.gv,by rw[Int.toNat_natCast];exact hgy,rfl,?_⟩
  conv=>whnf
  refine callP hcy (Wks.refl _) rfl (ClL.cons hyc .nil) (fun _=>rfl) ?_
  conv=>whnf
  refine GIf.mk (fun h0=>?_) (fun h0=>?_)<;>conv=>whnf
  ·have hne:e≠0:=by simpa using h0
   rw[hpn hne]
   have h4:e=4:=hre.resolve_left hne
   subst h4
   exact owes_wk (wk_t2 (Wk.sl _ _) (.refl _)) (Cl.tup (.cons (Cl.sl ClL.nil) (.cons (.i _ _) .nil)))
  have he0:e=0:=by simpa using h0
  cases o with
  |nil=>
   refine⟨⟨rfl,strG_ok _,by show(strG ([]:List By)).length+1<=4294967296;rw[strG_len];decide⟩,strG (([]:List By)++[w]),(([]:List By)++[w]).length,⟨rfl,rfl⟩,?_⟩
   conv=>whnf
   refine⟨⟨Nat.zero_le _,by first|rfl|(rw[strG_len];rfl)|(rw[strG_len];simp),by first|exact .inr ⟨rfl,rfl⟩|exact .inl ⟨rfl,rfl⟩⟩,?_⟩
   conv=>whnf
   exact⟨L.length - (i+1),(by show _<L.length - i;omega),(i+1,([]:List By)++[w]),⟨hlt2,hsucc,hpt he0⟩,rfl,⟨rfl,rfl,rfl,wrap_succ (by omega),trivial⟩,_,rfl,rfl⟩
  |cons z zs=>
   refine⟨⟨rfl,strG_ok _,by show(strG (z::zs)).length+1<=4294967296;rw[strG_len];omega⟩,strG ((z::zs)++[w]),((z::zs)++[w]).length,⟨(by show strG ((z::zs)++[w])=strG (z::zs)++[GV.s w];simp[strG]),by show _=(strG (z::zs)).length+1;rw[strG_len];simp⟩,?_⟩
   conv=>whnf
   refine⟨⟨Nat.zero_le _,by first|rfl|(rw[strG_len];rfl)|(rw[strG_len];simp),by first|exact .inr ⟨rfl,rfl⟩|exact .inl ⟨rfl,rfl⟩⟩,?_⟩
   conv=>whnf
   exact⟨L.length - (i+1),(by show _<L.length - i;omega),(i+1,(z::zs)++[w]),⟨hlt2,hsucc,hpt he0⟩,rfl,⟨rfl,rfl,rfl,wrap_succ (by omega),trivial⟩,_,rfl,rfl⟩
end Go.Proofs.YtlhabmglchgdnaaGreatDoor
namespace Go.Proofs.YtlhabmglchgdnaaGreatDoor
open Go.RowKit
set_option maxRecDepth 100000
set_option linter.unusedVariables false
theorem r_ands (t:Tree):SC Tryz.prog 87 [t.ng] [] (.val (.sl .none (ngs (t.sides true)))) []:=by
 have hcl:=t.ng_cl
 rcases ncs_form true t with⟨e,_⟩|⟨k,kids,A,B,op,yes,e,hk,h2⟩
 ·have hng:t.ng=.agg (ndc (opn true) (ngs (t.sides true)) t0 t0 [] false):=by show GV.agg t.ncs=_;rw[e]
  rw[hng] at hcl⊢
  have hsc:=ngs_cl (t.sides true)
  generalize t.sides true=L at*
  refine SC.of_gwp noM mixed Tryz.func87 rfl (Nat.le_of_ble_eq_true rfl) (by first|exact Nat.le_refl _|simp) rfl ?_
  conv=>whnf
  exact owes_wk (.refl _) (Cl.sl hsc)
 ·have hng:t.ng=.agg (ndc k kids A B op yes):=by show GV.agg t.ncs=_;rw[e]
  have hs:ngs (t.sides true)=[.agg (ndc k kids A B op yes)]:=by rw[h2,<-hng];rfl
  rw[hs,hng]
  rw[hng] at hcl
  refine SC.of_gwp noM mixed Tryz.func87 rfl (Nat.le_of_ble_eq_true rfl) (by first|exact Nat.le_refl _|simp) rfl ?_
  conv=>whnf
  refine GIf.mk (fun h=>?_) (fun h=>?_)<;>conv=>whnf
  ·exfalso
   apply hk
   have:=eq_of_beq h
   show k=2
   omega
  ·skip
   repeat (refine⟨_,⟨rfl,Nat.zero_le _,rfl,Nat.le_of_ble_eq_true rfl⟩,?_⟩;conv=>whnf)
   exact owes_wk (Wk.sl _ _) (Cl.sl (ClL.cons hcl .nil))
theorem r_Parts (s:By):SC Tryz.prog 43 [.s s] [] (.val (.tup [.sl .none (strG (partsS s).1),.i .i64 (partsS s).2])) []:=by
 have hr:=r_ReadU s
 have hrc:=readRG_cl s
 have hrq:=readR_eq s
 unfold readRG at hr hrc
 unfold partsS
 cases hx:readR s with
 |err e=>
  rw[hx] at hr hrc hrq
  rw[hrq]
  replace hr:SC Tryz.prog 48 [.s s] [] (.val (.tup [nodeN,.i .i64 e])) []:=hr
  replace hrc:Cl (.tup [nodeN,.i .i64 e]):=hrc
  have he:=readR_err hx
  simp only
  rcases he with rfl|rfl|rfl
  all_goals
   refine SC.of_gwp noM mixed Tryz.func43 rfl (Nat.le_of_ble_eq_true rfl) (by first|exact Nat.le_refl _|simp) rfl ?_
   conv=>whnf
   refine callP hr (Wks.refl _) rfl (fun _=>rfl) hrc ?_
   conv=>whnf
   repeat (refine⟨_,⟨rfl,Nat.zero_le _,rfl,Nat.le_of_ble_eq_true rfl⟩,?_⟩;conv=>whnf)
   exact owes_wk (wk_t2 (Wk.sl _ _) (.refl _)) (Cl.tup (.cons (Cl.sl ClL.nil) (.cons (.i _ _) .nil)))
 |ok t=>
  rw[hx] at hr hrc hrq
  rw[hrq]
  replace hr:SC Tryz.prog 48 [.s s] [] (.val (.tup [t.ng,.i .i64 0])) []:=hr
  replace hrc:Cl (.tup [t.ng,.i .i64 0]):=hrc
  have hz:=readR_size hx
  have hgd:=readR_good hx
  have htc:=t.ng_cl
  have hsd:=r_ands t
  have hsl:=sides_len (a:=true) t
  have hres:∀y∈t.sides true,SC Tryz.prog 49 [y.ng] [] (.val (.tup [.s (resS y).1,.i .i64 (resS y).2])) []:=fun y hy=>by
   have hg:=side_good hgd y hy
   have:=sides_size hy
   rw[<-toldR_eq hg]
   exact r_told y hg (by omega)
  simp only
  rw[sides_flat,partsL_flat]
  generalize t.sides true=L at*
  have hL:L.length<=1000:=by omega
  have hlt:(ngs L).length=L.length:=ngs_len L
  obtain⟨k,kids,A,B,op,yes,hng⟩:=ng_form t
  rw[hng] at hr hrc htc hsd
  refine SC.of_gwp noM mixed Tryz.func43 rfl (Nat.le_of_ble_eq_true rfl) (by first|exact Nat.le_refl _|simp) rfl ?_
  conv=>whnf
  refine callP hr (Wks.refl _) rfl (fun _=>rfl) hrc ?_
  conv=>whnf
  repeat (refine⟨_,⟨rfl,Nat.zero_le _,rfl,Nat.le_of_ble_eq_true rfl⟩,?_⟩;conv=>whnf)
  refine callP hsd (Wks.refl _) rfl (ClL.cons htc .nil) (Cl.sl (ngs_cl L)) ?_
  conv=>whnf
  have hbc:ClL (ndc k kids A B op yes):=fun e=>by
   have:=htc e
   exact GV.agg.inj this
  refine GLoop.introS (fun q:Nat×List By=>q.1<=L.length/\partsAt L q.1=q.2/\∀z∈L.take q.1,(resS z).2=0) (fun q=>[(6,.sl (.own 2) (strG q.2)),(7,.sl .none (ngs L)),(8,.i .i64 (q.1:Nat))])
   (fun q=>⟨[.own 0 0 0,.box 69 (ndc k kids A B op yes),ow 9 1 q.2.length],0,[]⟩) (fun q=>L.length - q.1) (0,[]) ⟨Nat.zero_le _,rfl,fun z hz=>by simp at hz⟩ ⟨rfl,rfl,rfl,trivial⟩ rfl (fun _ _=>Nat.le_refl _) (fun q _=>by simp only[List.all_cons,ow_held];rfl) (fun q _ e he=>?_) (fun q φ0 hi=>?_)
  ·refine⟨?_,rfl,?_⟩
   ·show[_,(GObj.box _ (ndc k kids A B op yes)).ren e,(ow _ 1 _).ren e]=_
    rw[ow_ren,GObj.box_cl hbc e];rfl
   ·show[(GV.sl (.own 2) (strG q.2)).ren e,(GV.sl .none (ngs L)).ren e,_]=_
    rw[ren_own (he 2 (by simp)) (strG_cl _),Cl.sl (ngs_cl L) e];rfl
  obtain⟨i,o⟩:=q
  obtain⟨hi,ho,hall⟩:=hi
  replace hi:i<=L.length:=hi
  replace ho:partsAt L i=o:=ho
  replace hall:∀z∈L.take i,(resS z).2=0:=hall
  have hol:=partsAt_len L (i+1)
  conv=>whnf
  refine GIf.mk (fun hc=>?_) (fun hc=>?_)<;>conv=>whnf
  rotate_left
  ·have hie:i=L.length:=by have:=of_decide_eq_false hc;rw[hlt] at this;omega
   rw[hie,List.take_length] at hall
   rw[hie] at ho
   rw[parts_end hall,ho]
   exact owes_wk (wk_t2 (Wk.sl _ _) (.refl _)) (Cl.tup (.cons (Cl.sl (strG_cl _)) (.cons (.i _ _) .nil)))
  have hlt2:i<L.length:=by have:=of_decide_eq_true hc;rw[hlt] at this;omega
  obtain⟨y,hy⟩:∃y,L[i]?=some y:=⟨L[i],List.getElem?_eq_getElem hlt2⟩
  have hgy:(ngs L)[i]?=some y.ng:=by unfold ngs;rw[List.getElem?_map,hy];rfl
  have hcy:=hres y (List.mem_of_getElem? hy)
  have hsucc:=partsAt_succ hy
  rw[hsucc,ho,List.length_append,List.length_singleton] at hol
  rw[ho] at hsucc
  have hre:=res_e y
  have hpn:=parts_no hy
  have hpt:=parts_take hall hy
  have hyc:=y.ng_cl
  obtain⟨k2,kids2,A2,B2,op2,yes2,hng2⟩:=ng_form y
  rw[hng2] at hgy hcy hyc
  generalize resS y=q at*
  obtain⟨w,e⟩:=q
  replace hsucc:partsAt L (i+1)=o++[w]:=hsucc
  refine⟨Int.natCast_nonneg _,.agg (ndc k2 kids2 A2 B2 op2 yes2),by rw[Int.toNat_natCast];exact hgy,rfl,?_⟩
  conv=>whnf
  refine callP hcy (Wks.refl _) rfl (ClL.cons hyc .nil) (fun _=>rfl) ?_
  conv=>whnf
  refine GIf.mk (fun h0=>?_) (fun h0=>?_)<;>conv=>whnf
  ·have hne:e≠0:=by simpa using h0
   rw[hpn hne]
   have h4:e=4:=hre.resolve_left hne
   subst h4
   exact owes_wk (wk_t2 (Wk.sl _ _) (.refl _)) (Cl.tup (.cons (Cl.sl ClL.nil) (.cons (.i _ _) .nil)))
  have he0:e=0:=by simpa using h0
  cases o with
  |nil=>
   refine⟨⟨rfl,strG_ok _,by show(strG ([]:List By)).length+1<=4294967296;rw[strG_len];decide⟩,strG (([]:List By)++[w]),(([]:List By)++[w]).length,⟨rfl,rfl⟩,?_⟩
   conv=>whnf
   refine⟨⟨Nat.zero_le _,by first|rfl|(rw[strG_len];rfl)|(rw[strG_len];simp),by first|exact .inr ⟨rfl,rfl⟩|exact .inl ⟨rfl,rfl⟩⟩,?_⟩
   conv=>whnf
   exact⟨L.length - (i+1),(by show _<L.length - i;omega),(i+1,([]:List By)++[w]),⟨hlt2,hsucc,hpt he0⟩,rfl,⟨rfl,rfl,wrap_succ (by omega),trivial⟩,_,rfl,rfl⟩
  |cons z zs=>
   refine⟨⟨rfl,strG_ok _,by show(strG (z::zs)).length+1<=4294967296;rw[strG_len];omega⟩,strG ((z::zs)++[w]),((z::zs)++[w]).length,⟨(by show strG ((z::zs)++[w])=strG (z::zs)++[GV.s w];simp[strG]),by show _=(strG (z::zs)).length+1;rw[strG_len];simp⟩,?_⟩
   conv=>whnf
   refine⟨⟨Nat.zero_le _,by first|rfl|(rw[strG_len];rfl)|(rw[strG_len];simp),by first|exact .inr ⟨rfl,rfl⟩|exact .inl ⟨rfl,rfl⟩⟩,?_⟩
   conv=>whnf
   exact⟨L.length - (i+1),(by show _<L.length - i;omega),(i+1,(z::zs)++[w]),⟨hlt2,hsucc,hpt he0⟩,rfl,⟨rfl,rfl,wrap_succ (by omega),trivial⟩,_,rfl,rfl⟩
end Go.Proofs.YtlhabmglchgdnaaGreatDoor
namespace Go.Proofs.YtlhabmglchgdnaaGreatDoor
open Go.RowKit
set_option maxRecDepth 100000
set_option linter.unusedVariables false
theorem callPreP {P:Program} {M:FuncId->Bool} {k:FuncId} {args args':List GV} {s rest:List GObj} {r:GV} {σ:GS} {K:GRes->GS->Prop} (h:SC P k args s (.val r) s) (ho:σ.objs=s++rest) (hlo:σ.lo=0)
  (hc:Own0 s) (hh:s.all GObj.notHeld=true) (ha:∀e:Nat->Nat,(∀i,i<s.length->e i=i)->args.map (GV.ren e)=args) (hr:Cl r) (hw:Wks args' args) (hk:K (.val r) σ):gcallK P M (.fn k) args' σ K:=by
 have hh':∀x∈s,x≠ .held:=fun x hx e=>by subst e;have:=List.all_eq_true.1 hh _ hx;cases this
 have he:∀i,i<s.length->emb (List.range s.length) σ.objs.length i=i:=fun i hi=>emb_pre hi
 have hf:=h.fact (σ:=σ) (args':=args') (List.range s.length) (by rw[ho];exact Lies.pre hc hh') hlo (by rw[ha _ he];exact hw)
 rw[show(GRes.val r).ren (emb (List.range s.length) σ.objs.length)=.val r by show GRes.val (r.ren _)=_;rw[hr],ho,putBack_pre rfl hc,<-ho] at hf
 exact⟨_,σ,hf,(fun _ _ _=>rfl),hk⟩
end Go.Proofs.YtlhabmglchgdnaaGreatDoor
