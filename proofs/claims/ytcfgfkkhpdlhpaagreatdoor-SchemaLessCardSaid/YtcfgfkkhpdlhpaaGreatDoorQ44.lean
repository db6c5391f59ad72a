/-
  A part of the proof of SchemaLess.
-/
import Derived.Test.YtcfgfkkhpdlhpaaGreatDoorQ43
import Derived.Test.YtcfgfkkhpdlhpaaGreatDoorQ34
set_option linter.all false
namespace Go.Proofs.YtcfgfkkhpdlhpaaGreatDoor
open Go.RowKit
set_option maxRecDepth 100000
set_option linter.unusedVariables false
def evT (I V:List Itm) (R W:List Val) (t:Tree):Bool×Int:=
 if knownB I&&knownB V&&fits2 I R then
  if checkS I V t=0 then
   if W.length=V.length then
    if kinds2 V W then(truthV (valT I V R W) t,0) else(false,1)
   else(false,11)
  else(false,checkS I V t)
 else(false,1)
def evalS (I V:List Itm) (R W:List Val) (s:By):Bool×Int:=match readS s with
 |.ok t=>evT I V R W t
 |.err e=>(false,e)
def chkS (I V:List Itm) (s:By):Int:=match readS s with
 |.ok t=>if knownB I&&knownB V then checkS I V t else 1
 |.err e=>e
theorem c_Check [MaxL] (I V:List Itm) (hI:I.length<most) (hV:V.length<most) (s:By) (hs:s.length<most):SC Tryz.prog 121 [.s s,.sl .none (itms I),.sl .none (itms V)] [] (.val (.i .i64 (chkS I V s))) []:=by
 have hr:=c_read s hs
 have hcl:=readG_cl s
 unfold readG at hr hcl
 unfold chkS
 have h1:=c_listed I hI
 have h2:=c_listed V hV
 cases h:readS s with
 |err e=>
  rw[h] at hr hcl
  replace hr:SC Tryz.prog 182 [.s s] [] (.val (.tup [.o .nilIface,.i .i64 e])) []:=hr
  have he:=readS_err h
  refine gwS Tryz.func121 rfl ?_
  conv=>whnf
  refine callP hr (wR _) rfl (fun _=>rfl) hcl ?_
  conv=>whnf
  refine GIf.mk (fun h0=>?_) (fun h0=>?_)<;>conv=>whnf
  ·exact owes_i rfl
  ·exfalso
   have:e=0:=by simpa using h0
   omega
 |ok t=>
  rw[h] at hr hcl
  replace hr:SC Tryz.prog 182 [.s s] [] (.val (.tup [t.gv,.i .i64 0])) []:=hr
  have hg:t.good:=(readS_good h).1
  have h3:=c_check I V hI hV t
  cases k1:knownB I with
  |false=>
   rw[k1] at h1
   refine gwS Tryz.func121 rfl ?_
   conv=>whnf
   refine callP hr (wR _) rfl (fun _=>rfl) hcl ?_
   conv=>whnf
   refine callP h1 (wR _) rfl (cC (Cl.sl (itms_cl I)) .nil) (.b _) ?_
   conv=>whnf
   exact owes_i rfl
  |true=>
   rw[k1] at h1
   cases k2:knownB V with
   |false=>
    rw[k2] at h2
    refine gwS Tryz.func121 rfl ?_
    conv=>whnf
    refine callP hr (wR _) rfl (fun _=>rfl) hcl ?_
    conv=>whnf
    refine callP h1 (wR _) rfl (cC (Cl.sl (itms_cl I)) .nil) (.b _) ?_
    conv=>whnf
    refine callP h2 (wR _) rfl (cC (Cl.sl (itms_cl V)) .nil) (.b _) ?_
    conv=>whnf
    exact owes_i rfl
   |true=>
    rw[k2] at h2
    rw[checkE_eq k1 k2 hg] at h3
    refine gwS Tryz.func121 rfl ?_
    conv=>whnf
    refine callP hr (wR _) rfl (fun _=>rfl) hcl ?_
    conv=>whnf
    refine callP h1 (wR _) rfl (cC (Cl.sl (itms_cl I)) .nil) (.b _) ?_
    conv=>whnf
    refine callP h2 (wR _) rfl (cC (Cl.sl (itms_cl V)) .nil) (.b _) ?_
    conv=>whnf
    refine callP h3 (wR _) rfl (cC t.cl (cC (Cl.sl (itms_cl I)) (cC (Cl.sl (itms_cl V)) .nil))) (.i _ _) ?_
    conv=>whnf
    exact owes_i rfl
def knownI (l:List Itm):Bool:=decide (0<l.length)&&knownB l
def canonB (s:By):Bool:=decide ((showS s).2=0)&&decide ((showS s).1=s)
def recF (s:Sch) (i:Nat) (r:Rc):Int:=recE knownI canonB (fun l c=>chkS l [] c) s (areaN s++(recN s).take i) r
def recsX (s:Sch):Nat×Int:=if !inB s.rc.length 1 10 then(0,4) else(firstX (recF s) 0 s.rc).getD (0,0)
theorem endX [MaxL] {kd:By} {s s1 objs:List GObj} {i xi:Nat} {e xe:Int} {lo:Nat} {ds:List GDef} (hX:((i,e):Nat×Int)=(xi,xe)) (he:e≠0) (hl:s.length=2:=by rfl) (hn:(objs.take 2).length=2:=by rfl) (hm:(objs.take 2).all GObj.mort=true:=by rfl):
  OwesD 2 s (outR kd xi xe) (outH xe s1) (.panic (badG kd i e)) ⟨objs,lo,ds⟩:=by
 obtain⟨rfl,rfl⟩:=Prod.mk.inj hX
 rw[outR_no he,outH_no he]
 exact finX 2 (hl:=Nat.le_of_eq hl) (hn:=hn) (hm:=hm)
theorem stopE_yes {w:Bool} {e b:Int} (h:w=true):stopE w e b=e:=by subst h;rfl
theorem stopE_no {w:Bool} {e b:Int} (h:w=false):stopE w e b=b:=by subst h;rfl
theorem ex_at {α:Type} {l:List α} {i:Nat} (h:i<l.length):∃x,l[i]?=some x:=⟨l[i],gL h⟩
theorem notT {b:Bool} (h:(!b)=true):b=false:=by cases b<;>first|rfl|cases h
theorem orE_no {a b:Int} (h:a≠0):orE a b=a:=if_neg h
theorem orE_ok {a b:Int} (h:a=0):orE a b=b:=if_pos h
theorem cStop [MaxL] {k:FuncId} {kd:By} (hs:∀(w:Bool) (e:Int) (i:Nat),(w=true->e≠0)->SC Tryz.prog k [.b w,.i .i64 e,.ptr 0 0] [.box 3 [.i .i64 (i:Nat)]] (outR kd i (if w then e else 0)) [.box 3 [.i .i64 (i:Nat)]])
  (q:Nat) (e:Int) {M:FuncId->Bool} {w:Bool} {i:Nat} {args:List GV} {σ:GS} {K:GRes->GS->Prop} (h1:w=true->K (.panic (badG kd i e)) σ) (h0:w=false->K (.val (.tup [])) σ) (he:w=true->e≠0:=by intro _;decide)
  (hw:Wks args [.b w,.i .i64 e,.ptr q 0]:=by exact wR _) (ho:σ.objs[q]?=some (.box 3 [.i .i64 (i:Nat)]):=by rfl) (hlo:σ.lo=0:=by rfl):gcallK Tryz.prog M (.fn k) args σ K:=by
 refine cS [q] (hs w e i he) ?_ (by rw[show emb [q] σ.objs.length 0=q from rfl];exact hw) (by show[σ.objs[q]?]=_;rw[ho];rfl) rfl (by simp) rfl hlo
 cases w with
 |true=>
  rw[if_pos rfl,outR_no (he rfl)]
  exact h1 rfl
 |false=>exact h0 rfl
set_option maxHeartbeats 4000000 in
theorem s_records [MaxL] (s:Sch) (hz:schOk s):SC Tryz.prog 52 [.ptr 0 0] (chkH s (areaN s)) (outR recordW (recsX s).1 (recsX s).2) (outH (recsX s).2 (chkH s (areaN s++recN s))):=by
 obtain⟨⟨ha,hl,ht⟩,hr,hst⟩:=hz
 unfold most at hl
 have hlen:(rcsG s.rc).length=s.rc.length:=mapG_len _ _
 generalize hX:recsX s=X
 obtain⟨xi,xe⟩:=X
 unfold recsX at hX
 have hh:(outH xe (chkH s (areaN s++recN s))).all GObj.notHeld=true:=by unfold outH;split<;>rfl
 have hs:(chkH s (areaN s)).length<=(outH xe (chkH s (areaN s++recN s))).length:=by unfold outH;split<;>exact rL _
 refine SC.of_gwpD 2 noM mixed Tryz.func52 rfl (bL rfl) hs hh ?_
 conv=>whnf
 have hw:=s_within (rcsG s.rc).length 1 10
 refine cP hw ?_
 conv=>whnf
 refine GIf.mk (fun h=>?_) (fun h=>?_)<;>conv=>whnf
 ·rw[hlen] at h
  rw[h,if_pos rfl] at hX
  refine cS [] (s_fail recordW 0 4) ?_
  conv=>whnf
  exact endX hX (by decide)
 rw[hlen] at h
 rw[h,if_neg (by simp)] at hX
 refine GLoop.rng 2 s.rc.length (fun i _=>∀j z,j<i->s.rc[j]?=some z->recF s j z=0) (fun i _=>[(0,.ptr 0 0),(25,.sl .none (rcsG s.rc)),(26,.i .i64 (rcsG s.rc).length),(27,.i .i64 (i:Nat))]) (fun i (_:Unit)=>chkH s (areaN s++(recN s).take i)) [] () (fun j z h=>absurd h (Nat.not_lt_zero j)) (fun i _ φ0 hi hok=>?_) (hσ:=by rw[List.take_zero,List.append_nil])
 conv=>whnf
 refine GIf.mk (fun h=>?_) (fun h=>?_)<;>conv=>whnf
 rotate_left
 ·have hie:i=s.rc.length:=by have:=of_decide_eq_false h;rw[hlen] at this;omega
  rw[firstX0_no (Nat.le_of_eq hie.symm) hok] at hX
  cases hX
  have hm:(recN s).take i=recN s:=List.take_of_length_le (by rw[hie];simp[recN])
  show OwesD 2 _ _ (chkH s (areaN s++recN s)) _ _
  exact .val (fin 2 (ho:=congrArg (fun m=>chkH s (areaN s++m)) hm))
 have hlt:i<s.rc.length:=by have:=of_decide_eq_true h;rw[hlen] at this;omega
 obtain⟨y,hy⟩:∃y,s.rc[i]?=some y:=⟨s.rc[i],gL hlt⟩
 obtain⟨y1,y2,y3⟩:=hr y (List.mem_of_getElem? hy)
 unfold most at y2
 have bad0:∀{e:Int},recF s i y=e->e≠0->((i,e):Nat×Int)=(xi,xe):=fun he h0=>by
  subst he
  rw[firstX0_at hy h0 hok] at hX;exact hX
 have bad:∀{w:Bool} {e b:Int},recF s i y=stopE w e b->w=true->e≠0->((i,e):Nat×Int)=(xi,xe):=fun he h h0=>bad0 (he.trans (stopE_yes h)) h0
 have hE:recF s i y=nameE (areaN s++(recN s).take i) y.name (stopE (!((areaN s).contains y.area)) 5 (stopE (!knownI y.its||!inB y.place 1 3) 1 (orE (keysE y) (orE (viaE s y) (chkdE canonB (fun l c=>chkS l [] c) y))))):=rfl
 rw[nameE_b] at hE
 refine ix (map_at hy) ⟨rfl,?_⟩
 conv=>whnf
 refine st ?_
 conv=>whnf
 refine st ?_
 conv=>whnf
 by_cases hn:nameE (areaN s++(recN s).take i) y.name 0=0
 rotate_left
 ·rw[if_neg hn] at hE
  refine cG [0,1] (named_no (kd:=recordW) (i:=i) hn) ?_
  conv=>whnf
  exact endX (bad0 hE hn) hn
 rw[if_pos hn] at hE
 refine cG [0,1] (named_ok (kd:=recordW) (i:=i) hn) ?_
 conv=>whnf
 refine cS [0,1] (s_area s ha _ y.area) ?_
 conv=>whnf
 refine cStop s_stop1 2 5 (fun h=>?_) (fun h=>?_)<;>conv=>whnf
 ·exact endX (bad hE h (by decide)) (by decide)
 replace hE:=hE.trans (stopE_no h)
 refine cP (c_ValidItems y.its y1) ?_
 conv=>whnf
 refine GIf.mk (fun h=>?_) (fun h=>?_)<;>conv=>whnf
 ·refine cStop s_stop1 2 1 (w:=true) (fun _=>?_) (fun h9=>nomatch h9)
  conv=>whnf
  exact endX (bad hE (by rw[show knownI y.its=false from notT h];rfl) (by decide)) (by decide)
 refine cP (s_within y.place 1 3) ?_
 conv=>whnf
 refine cStop s_stop1 2 1 (fun h2=>?_) (fun h2=>?_)<;>conv=>whnf
 ·exact endX (bad hE (by rw[h2];simp) (by decide)) (by decide)
 replace hE:=hE.trans (stopE_no (by rw[h2,show(!knownI y.its)=false from h];rfl))
 have badK:∀{e:Int},keysE y=e->e≠0->((i,e):Nat×Int)=(xi,xe):=fun he h0=>bad0 (hE.trans (by rw[he,orE_no h0])) h0
 have hm:(chkH s (areaN s++(recN s).take i++[y.name]))=chkH s (areaN s++(recN s).take (i+1)):=by rw[List.append_assoc];exact congrArg (fun m=>chkH s (areaN s++m)) (names_succ (fun r:Rc=>r.name) hy).symm
 refine GIf.mk (fun hp=>?b1) (fun hp=>?b2)
 case' b1=>
  conv=>whnf
  have hK:keysE y=stopE (!inB y.keys.length 1 4) 11 (firstE (keyE y) y.keys):=if_pos (by simpa using hp)
  refine cP (s_within (strG y.keys).length 1 4) ?_
  conv=>whnf
  refine cStop s_stop1 2 11 (fun h3=>?_) (fun h3=>?_)<;>rw[strG_len] at h3<;>conv=>whnf
  ·exact endX (badK (hK.trans (stopE_yes h3)) (by decide)) (by decide)
  replace hK:=hK.trans (stopE_no h3)
  refine GLoop.rng 4 y.keys.length (fun k _=>∀j n,j<k->y.keys[j]?=some n->keyE y j n=0) (fun k _=>[(0,.ptr 0 0),(3,.ptr 3 0),(4,.fn (.func 115) [] [.ptr 2 0]),(25,.sl .none (rcsG s.rc)),(26,.i .i64 (rcsG s.rc).length),(27,.i .i64 (i:Nat)),(68,.sl .none (strG y.keys)),(69,.i .i64 (strG y.keys).length),(70,.i .i64 (k:Nat))])
   (fun k (_:Unit)=>chkH s (areaN s++(recN s).take i++[y.name])++[.box 3 [.i .i64 (i:Nat)],.box 35 (rcC y)]) [] () (fun j n h=>absurd h (Nat.not_lt_zero j)) (fun k _ φ1 hk hok2=>?_)
  conv=>whnf
  refine GIf.mk (fun h=>?_) (fun h=>?_)<;>conv=>whnf
  ·have hlt2:k<y.keys.length:=by have:=of_decide_eq_true h;rw[strG_len] at this;omega
   refine(ex_at hlt2).elim fun n hn2=>?_
   have badJ:∀{e:Int},keyE y k n=e->e≠0->((i,e):Nat×Int)=(xi,xe):=fun he h0=>badK (hK.trans ((firstE_at hn2 (by rw[he];exact h0) hok2).trans he)) h0
   refine ix (map_at hn2) ⟨rfl,?_⟩
   conv=>whnf
   refine cP (s_part y y1 n) ?_
   conv=>whnf
   refine st ?_
   conv=>whnf
   refine cStop s_stop1 2 5 (fun h4=>?_) (fun h4=>?_)<;>conv=>whnf
   ·exact endX (badJ (stopE_yes h4) (by decide)) (by decide)
   refine slTo (zs:=strG (y.keys.take k)) (strG_ok _) (by rw[strG_len];omega) ?_ (List.map_take ..).symm
   conv=>whnf
   refine cP (c_ContainsS (y.keys.take k) n (by unfold most;rw[List.length_take];omega)) ?_
   conv=>whnf
   refine cStop s_stop1 2 6 (fun h5=>?_) (fun h5=>?_)<;>conv=>whnf
   ·exact endX (badJ ((stopE_no h4).trans (stopE_yes h5)) (by decide)) (by decide)
   exact nx () hlt2 ⟨hlt2,ok_succ hn2 ((stopE_no h4).trans (stopE_no h5)) hok2⟩
  have hK0:keysE y=0:=hK.trans (firstE_no fun j z hz=>hok2 j z (by have:=of_decide_eq_false h;rw[strG_len] at this;have:=(List.getElem?_eq_some_iff.1 hz).1;omega) hz)
 case' b2=>
  conv=>whnf
  have hK:keysE y=stopE (!y.keys.isEmpty||y.dups) 1 0:=if_neg (by simpa using hp)
  refine GIf.mk (fun h3=>?_) (fun h3=>?_)<;>conv=>whnf
  ·refine cStop s_stop1 2 1 (w:=true) (fun _=>?_) (fun h9=>nomatch h9)
   conv=>whnf
   exact endX (badK (hK.trans (stopE_yes (by have:((strG y.keys).length:Int)>0:=of_decide_eq_true h3;rw[strG_len] at this;cases hk:y.keys with|nil=>rw[hk] at this;exact absurd this (by decide)|cons a l=>rfl))) (by decide)) (by decide)
  have hke:y.keys.isEmpty=true:=by have:¬((strG y.keys).length:Int)>0:=of_decide_eq_false h3;rw[strG_len] at this;cases hk:y.keys with|nil=>rfl|cons a l=>rw[hk] at this;simp at this
  rw[hke] at hK
  refine cStop s_stop1 2 1 (fun h4=>?_) (fun h4=>?_)<;>conv=>whnf
  ·exact endX (badK (hK.trans (stopE_yes h4)) (by decide)) (by decide)
  have hK0:keysE y=0:=hK.trans (stopE_no h4)
 all_goals
  replace hE:=hE.trans (orE_ok hK0)
  have badV:∀{e:Int},viaE s y=e->e≠0->((i,e):Nat×Int)=(xi,xe):=fun he h0=>bad0 (hE.trans (by rw[he,orE_no h0])) h0
  refine GIf.mk (fun hv=>?_) (fun hv=>?_)<;>conv=>whnf
  focus
   have hV:viaE s y=stopE (match s.st.find? (·.name==y.via) with|none=>true|some t=>!(t.ms.any (·.of==y.name))) 5 0:=if_pos (by simpa using hv)
   have hset:=s_set s ht y.via
   refine GDraw.calm (by kernel_rfl) ?_
   conv=>whnf
   refine(at_cases (fun t:Sy=>t.name==y.via) s.st).elim (fun⟨h5,h6,_⟩=>?_) (fun⟨j,t,h5,h6,h7,_⟩=>?_)
   ·refine cP hset ?_
    conv=>whnf
    refine GDraw.pan 17 _ rfl (by kernel_rfl) ?_
    conv=>whnf
    refine gY (decide_eq_true h5) ?_
    conv=>whnf
    refine cStop s_stop1 2 5 (w:=true) (fun _=>?_) (fun h9=>nomatch h9)
    conv=>whnf
    exact endX (badV (e:=5) (by rw[hV,h6];rfl) (by decide)) (by decide)
   rw[h5] at hset
   rw[h7] at hV
   refine cP hset ?_
   conv=>whnf
   have hmb:=s_member t (hst t (List.mem_of_getElem? h6)).1 y.name
   refine(Bool.eq_false_or_eq_true (decide (atI (fun m:Mb=>m.of==y.name) t.ms<0))).elim (fun h8=>?_) (fun h8=>?_)
   ·refine GDraw.pan 17 _ rfl (by kernel_rfl) ?_
    conv=>whnf
    refine ix (map_at h6) ⟨rfl,?_⟩
    conv=>whnf
    refine cP hmb ?_
    conv=>whnf
    refine cStop s_stop1 2 5 (w:=decide (atI (fun m:Mb=>m.of==y.name) t.ms<0)) (fun h9=>?_) (fun h9=>by rw[h8] at h9;cases h9)
    conv=>whnf
    exact endX (badV (hV.trans (stopE_yes ((atI_none _ _).symm.trans h8))) (by decide)) (by decide)
   refine GDraw.calm (by kernel_rfl) ?_
   conv=>whnf
   refine ix (map_at h6) ⟨rfl,?_⟩
   conv=>whnf
   refine cP hmb ?_
   conv=>whnf
   refine cStop s_stop1 2 5 (w:=decide (atI (fun m:Mb=>m.of==y.name) t.ms<0)) (fun h9=>by rw[h8] at h9;cases h9) (fun h9=>?_)
   conv=>whnf
   replace hV:=hV.trans (stopE_no ((atI_none _ _).symm.trans h8))
  rotate_left
  focus
   have hV:viaE s y=stopE (y.via !=[]) 1 0:=if_neg (by simpa using hv)
   refine cStop s_stop1 2 1 (fun h4=>?_) (fun h4=>?_)<;>conv=>whnf
   ·exact endX (badV (hV.trans (stopE_yes h4)) (by decide)) (by decide)
   replace hV:=hV.trans (stopE_no h4)
  all_goals
   replace hE:=hE.trans (orE_ok ‹viaE s y=0›)
   refine GIf.mk (fun hc=>?_) (fun hc=>?_)<;>conv=>whnf
   rotate_left
   ·exact nx () hlt ⟨hlt,ok_succ hy (hE.trans (if_pos (by simpa using hc))) hok⟩ hm
   have hE2:=hE.trans (if_neg (by simpa using hc))
   refine cP (c_Show y.check y3) ?_
   conv=>whnf
   refine GIf.mk (fun h5=>?_) (fun h5=>?_)<;>conv=>whnf
   ·refine cStop s_stop1 2 2 (w:=true) (fun _=>?_) (fun h9=>nomatch h9)
    conv=>whnf
    exact endX (bad hE2 (by unfold canonB;rw[decide_eq_false (by simpa using h5)];rfl) (by decide)) (by decide)
   refine cStop s_stop1 2 2 (fun h6=>?_) (fun h6=>?_)<;>conv=>whnf
   ·exact endX (bad hE2 (by unfold canonB;rw[decide_eq_false (p:=(showS y.check).1=y.check) (by simpa using h6),Bool.and_false];rfl) (by decide)) (by decide)
   replace hE2:=hE2.trans (stopE_no (by unfold canonB;rw[decide_eq_true (by simpa using h5),decide_eq_true (by simpa using h6)];rfl))
   refine cP (c_Check y.its [] y1 (by decide) y.check y3) ?_ (wC (Wk.refl _) (wC (Wk.refl _) (wC (Wk.sl _ _) (wR _))))
   conv=>whnf
   refine cStop s_stop1 2 (chkS y.its [] y.check) (w:=chkS y.its [] y.check !=0) (fun h7=>?_) (fun h7=>?_) (by intro h;simpa using h)<;>conv=>whnf
   ·exact endX (bad0 hE2 (by simpa using h7)) (by simpa using h7)
   exact nx () hlt ⟨hlt,ok_succ hy (hE2.trans (by simpa using h7)) hok⟩ hm
theorem r_AreaAt [MaxL] (s:Sch) (hl:s.ar.length<most) (n:By):SC Tryz.prog 101 [schG s,.s n] [] (.val (.i .i64 (atI (fun a=>a.name==n) s.ar))) []:=by
 have hlen:(arsG s.ar).length=s.ar.length:=mapG_len _ _
 unfold most at hl
 refine gwS Tryz.func101 rfl ?_
 conv=>whnf
 refine GLoop.rng 1 s.ar.length (fun i _=>∀a∈s.ar.take i,(a.name==n)=false) (fun i _=>[(2,.ptr 0 0),(1,.s n),(5,.i .i64 (i:Nat))]) (fun _ (_:Unit)=>[.box 26 (schC s)]) [] () (by simp) (fun i _ φ0 hi hne=>?_)
 conv=>whnf
 refine GIf.mk (fun h=>?_) (fun h=>?_)<;>conv=>whnf
 rotate_left
 ·have hie:i=s.ar.length:=by have:=of_decide_eq_false h;rw[hlen] at this;omega
  rw[hie,List.take_length] at hne
  rw[atI_no hne]
  exact fin 0
 have hlt:i<s.ar.length:=by have:=of_decide_eq_true h;rw[hlen] at this;omega
 refine(ex_at hlt).elim fun y hy=>?_
 refine ix (map_at hy) ⟨rfl,?_⟩
 conv=>whnf
 refine GIf.mk (fun hp=>?_) (fun hp=>?_)<;>conv=>whnf
 ·rw[atI_at hy hp hne]
  exact fin 0
 ·exact nx () hlt ⟨hlt,tk_no hy hp hne⟩
theorem r_RecordAt [MaxL] (s:Sch) (hl:s.rc.length<most) (n:By):SC Tryz.prog 93 [schG s,.s n] [] (.val (.i .i64 (atI (fun a=>a.name==n) s.rc))) []:=by
 have hlen:(rcsG s.rc).length=s.rc.length:=mapG_len _ _
 unfold most at hl
 refine gwS Tryz.func93 rfl ?_
 conv=>whnf
 refine GLoop.rng 1 s.rc.length (fun i _=>∀a∈s.rc.take i,(a.name==n)=false) (fun i _=>[(2,.ptr 0 0),(1,.s n),(5,.i .i64 (i:Nat))]) (fun _ (_:Unit)=>[.box 26 (schC s)]) [] () (by simp) (fun i _ φ0 hi hne=>?_)
 conv=>whnf
 refine GIf.mk (fun h=>?_) (fun h=>?_)<;>conv=>whnf
 rotate_left
 ·have hie:i=s.rc.length:=by have:=of_decide_eq_false h;rw[hlen] at this;omega
  rw[hie,List.take_length] at hne
  rw[atI_no hne]
  exact fin 0
 have hlt:i<s.rc.length:=by have:=of_decide_eq_true h;rw[hlen] at this;omega
 refine(ex_at hlt).elim fun y hy=>?_
 refine ix (map_at hy) ⟨rfl,?_⟩
 conv=>whnf
 refine GIf.mk (fun hp=>?_) (fun hp=>?_)<;>conv=>whnf
 ·rw[atI_at hy hp hne]
  exact fin 0
 ·exact nx () hlt ⟨hlt,tk_no hy hp hne⟩
theorem r_SetAt [MaxL] (s:Sch) (hl:s.st.length<most) (n:By):SC Tryz.prog 98 [schG s,.s n] [] (.val (.i .i64 (atI (fun a=>a.name==n) s.st))) []:=by
 have hlen:(sysG s.st).length=s.st.length:=mapG_len _ _
 unfold most at hl
 refine gwS Tryz.func98 rfl ?_
 conv=>whnf
 refine GLoop.rng 1 s.st.length (fun i _=>∀a∈s.st.take i,(a.name==n)=false) (fun i _=>[(2,.ptr 0 0),(1,.s n),(5,.i .i64 (i:Nat))]) (fun _ (_:Unit)=>[.box 26 (schC s)]) [] () (by simp) (fun i _ φ0 hi hne=>?_)
 conv=>whnf
 refine GIf.mk (fun h=>?_) (fun h=>?_)<;>conv=>whnf
 rotate_left
 ·have hie:i=s.st.length:=by have:=of_decide_eq_false h;rw[hlen] at this;omega
  rw[hie,List.take_length] at hne
  rw[atI_no hne]
  exact fin 0
 have hlt:i<s.st.length:=by have:=of_decide_eq_true h;rw[hlen] at this;omega
 refine(ex_at hlt).elim fun y hy=>?_
 refine ix (map_at hy) ⟨rfl,?_⟩
 conv=>whnf
 refine GIf.mk (fun hp=>?_) (fun hp=>?_)<;>conv=>whnf
 ·rw[atI_at hy hp hne]
  exact fin 0
 ·exact nx () hlt ⟨hlt,tk_no hy hp hne⟩
theorem r_MemberAt [MaxL] (t:Sy) (hl:t.ms.length<most) (n:By):SC Tryz.prog 83 [syG t,.s n] [] (.val (.i .i64 (atI (fun a=>a.of==n) t.ms))) []:=by
 have hlen:(mbsG t.ms).length=t.ms.length:=mapG_len _ _
 unfold most at hl
 refine gwS Tryz.func83 rfl ?_
 conv=>whnf
 refine GLoop.rng 1 t.ms.length (fun i _=>∀a∈t.ms.take i,(a.of==n)=false) (fun i _=>[(2,.ptr 0 0),(1,.s n),(5,.i .i64 (i:Nat))]) (fun _ (_:Unit)=>[.box 39 (syC t)]) [] () (by simp) (fun i _ φ0 hi hne=>?_)
 conv=>whnf
 refine GIf.mk (fun h=>?_) (fun h=>?_)<;>conv=>whnf
 rotate_left
 ·have hie:i=t.ms.length:=by have:=of_decide_eq_false h;rw[hlen] at this;omega
  rw[hie,List.take_length] at hne
  rw[atI_no hne]
  exact fin 0
 have hlt:i<t.ms.length:=by have:=of_decide_eq_true h;rw[hlen] at this;omega
 refine(ex_at hlt).elim fun y hy=>?_
 refine ix (map_at hy) ⟨rfl,?_⟩
 conv=>whnf
 refine GIf.mk (fun hp=>?_) (fun hp=>?_)<;>conv=>whnf
 ·rw[atI_at hy hp hne]
  exact fin 0
 ·exact nx () hlt ⟨hlt,tk_no hy hp hne⟩
theorem r_ItemAt [MaxL] (l:List Itm) (hl:l.length<most) (n:By):SC Tryz.prog 127 [.sl .none (itms l),.s n] [] (.val (.i .i64 (atI (fun a=>a.name==n) l))) []:=by
 have hlen:(itms l).length=l.length:=mapG_len _ _
 unfold most at hl
 refine gwS Tryz.func127 rfl ?_
 conv=>whnf
 refine GLoop.rng 0 l.length (fun i _=>∀a∈l.take i,(a.name==n)=false) (fun i _=>[(0,.sl .none (itms l)),(1,.s n),(5,.i .i64 (i:Nat))]) (fun _ (_:Unit)=>[]) [] () (by simp) (fun i _ φ0 hi hne=>?_)
 conv=>whnf
 refine GIf.mk (fun h=>?_) (fun h=>?_)<;>conv=>whnf
 rotate_left
 ·have hie:i=l.length:=by have:=of_decide_eq_false h;rw[hlen] at this;omega
  rw[hie,List.take_length] at hne
  rw[atI_no hne]
  exact fin 0
 have hlt:i<l.length:=by have:=of_decide_eq_true h;rw[hlen] at this;omega
 refine(ex_at hlt).elim fun y hy=>?_
 refine ix (map_at hy) ⟨rfl,?_⟩
 conv=>whnf
 refine GIf.mk (fun hp=>?_) (fun hp=>?_)<;>conv=>whnf
 ·rw[atI_at hy hp hne]
  exact fin 0
 ·exact nx () hlt ⟨hlt,tk_no hy hp hne⟩
theorem r_Index [MaxL] (l:List By) (hl:l.length<most) (n:By):SC Tryz.prog 86 [.sl .none (strG l),.s n] [] (.val (.i .i64 (atI (fun a=>a==n) l))) []:=by
 have hlen:(strG l).length=l.length:=mapG_len _ _
 unfold most at hl
 refine gwS Tryz.func86 rfl ?_
 conv=>whnf
 refine GLoop.rng 0 l.length (fun i _=>∀a∈l.take i,(a==n)=false) (fun i _=>[(0,.sl .none (strG l)),(1,.s n),(5,.i .i64 (i:Nat))]) (fun _ (_:Unit)=>[]) [] () (by simp) (fun i _ φ0 hi hne=>?_)
 conv=>whnf
 refine GIf.mk (fun h=>?_) (fun h=>?_)<;>conv=>whnf
 rotate_left
 ·have hie:i=l.length:=by have:=of_decide_eq_false h;rw[hlen] at this;omega
  rw[hie,List.take_length] at hne
  rw[atI_no hne]
  exact fin 0
 have hlt:i<l.length:=by have:=of_decide_eq_true h;rw[hlen] at this;omega
 refine(ex_at hlt).elim fun y hy=>?_
 refine ix (map_at hy) ⟨rfl,?_⟩
 conv=>whnf
 refine GIf.mk (fun hp=>?_) (fun hp=>?_)<;>conv=>whnf
 ·rw[atI_at hy hp hne]
  exact fin 0
 ·exact nx () hlt ⟨hlt,tk_no hy hp hne⟩
abbrev setH (s:Sch) (m:List By) (i:Nat):List GObj:=chkH s m++[.box 3 [.i .i64 (i:Nat)]]
def allM:FuncId->Bool:=fun _=>true
theorem rec_at {s:Sch} {n:By} (h:(recN s).contains n=true):∃i:Nat,atI (fun r:Rc=>r.name==n) s.rc=i/\s.rc[i]?=some (recOf s n):=by
 rcases at_cases (fun r:Rc=>r.name==n) s.rc with⟨_,_,h3⟩|⟨i,y,h1,h2,h3,_⟩
 ·rw[show(recN s).contains n=s.rc.any fun r=>r.name==n from contains_map _ _ _,h3] at h;cases h
 ·exact⟨i,h1,by unfold recOf;rw[h3];exact h2⟩
theorem kind_part (l:List Itm) (n:By):kindOf l n=(partI l n).k:=by unfold kindOf partI;cases l.find? (·.name==n)<;>rfl
theorem endS [MaxL] (n:Nat) {kd:By} {s objs:List GObj} {i:Nat} {e xe:Int} {lo:Nat} {ds:List GDef} [FH n s] (hX:e=xe) (he:e≠0) (ho:objs.take n=s:=by rfl) (hn:s.length=n:=by rfl) (hh:s.all GObj.notHeld=true:=by rfl):Owes s (outR kd i xe) s (.panic (badG kd i e)) ⟨objs,lo,ds⟩:=by
 subst hX
 rw[outR_no he]
 exact fin n (ho:=ho) (hn:=hn) (hl:=Nat.le_of_eq hn) (hh:=hh)
theorem s_selected [MaxL] (s:Sch) (hz:schOk s) (m0:List By) (i:Nat) (t:Sy) (m:Mb) (hml:m.sel.length<most) (hm:(recN s).contains m.of=true) (ho:t.owner≠[]->(recN s).contains t.owner=true) (hg:∀r∈s.rc,Good knownI r):
  SC Tryz.prog 123 [.ptr 0 0,syG t,mbG m,.fn (.func 122) [] [.ptr 2 0]] (setH s m0 i) (outR setW3 i (selE s t m)) (setH s m0 i):=by
 obtain⟨⟨ha,hl,ht⟩,hr,hst⟩:=hz
 unfold most at hml
 generalize hX:selE s t m=xe
 refine SC.of_gwp allM mixed Tryz.func123 rfl (bL rfl) (by first|exact rL _|simp) rfl ?_
 conv=>whnf
 refine GIf.mk (fun h=>?_) (fun h=>?_)<;>conv=>whnf
 ·rw[show xe=0 from hX.symm.trans (if_pos (by simpa[strG] using h))]
  exact fin 3
 replace hX:=(if_neg (by simpa[strG] using h)).symm.trans hX
 refine cStop s_stop2 2 10 (fun h=>?_) (fun h=>?_)<;>conv=>whnf
 ·exact endS 3 ((stopE_yes h).symm.trans hX) (by decide)
 replace hX:=(stopE_no h).symm.trans hX
 have hto:=ho (by simpa using h)
 obtain⟨io,ho1,ho2⟩:=rec_at hto
 obtain⟨ir,hr1,hr2⟩:=rec_at hm
 have hgo:=hg _ (List.mem_of_getElem? ho2)
 obtain⟨o1,o2,_⟩:=hr _ (List.mem_of_getElem? ho2)
 obtain⟨r1,r2,_⟩:=hr _ (List.mem_of_getElem? hr2)
 have hro:=s_record s hl t.owner
 have hrr:=s_record s hl m.of
 rw[ho1] at hro
 rw[hr1] at hrr
 generalize recOf s t.owner=o at*
 generalize recOf s m.of=r at*
 refine GDraw.wildT [none,none,none,none,some 0,none,none,none,some 0,none,some 3,none,none,none,some 5,some 5] rfl rfl (by kernel_rfl) ?_
 conv=>whnf
 refine cP hro ?_
 conv=>whnf
 refine ix (map_at ho2) ⟨rfl,?_⟩
 conv=>whnf
 refine st ?_
 conv=>whnf
 refine GIf.mk (fun h=>?_) (fun h=>?_)<;>conv=>whnf
 ·refine cStop s_stop2 2 10 (w:=true) (fun _=>?_) (fun h9=>nomatch h9)
  conv=>whnf
  exact endS 3 ((stopE_yes (by rw[show(o.place !=2)=true from h];rfl)).symm.trans hX) (by decide)
 have hp:(o.place !=2)=false:=h
 rw[hp] at hX
 refine cStop s_stop2 2 10 (fun h=>?_) (fun h=>?_)<;>conv=>whnf
 ·exact endS 3 ((stopE_yes h).symm.trans hX) (by decide)
 replace hX:=(stopE_no h).symm.trans hX
 refine cStop s_stop2 2 11 (fun h=>?_) (fun h=>?_)<;>conv=>whnf
 ·have h8:¬(m.sel.length:Int)=o.keys.length:=by simpa[strG] using h
  exact endS 3 ((stopE_yes (by simp;omega)).symm.trans hX) (by decide)
 have hlk:m.sel.length=o.keys.length:=by
  have h8:(m.sel.length:Int)=o.keys.length:=by simpa[strG] using h
  omega
 replace hX:=(stopE_no (by rw[hlk];simp)).symm.trans hX
 refine GDraw.wildT [none,none,none,none,some 0,none,none,none,some 0,none,some 4,none,none,none,some 6,some 6] rfl rfl (by kernel_rfl) ?_
 conv=>whnf
 refine cP hrr ?_
 conv=>whnf
 refine ix (map_at hr2) ⟨rfl,?_⟩
 conv=>whnf
 refine st ?_
 conv=>whnf
 refine GLoop.rng 7 m.sel.length (fun k _=>∀j n,j<k->m.sel[j]?=some n->pickE o r j n=0) (fun k _=>[(3,.fn (.func 122) [] [.ptr 2 0]),(8,.ptr 5 0),(9,.ptr 6 0),(72,.sl .none (strG m.sel)),(73,.i .i64 (strG m.sel).length),(74,.i .i64 (k:Nat))])
  (fun k (_:Unit)=>setH s m0 i++[.box 39 (syC t),.box 46 (mbC m),.box 35 (rcC o),.box 35 (rcC r)]) [] () (fun j n h=>absurd h (Nat.not_lt_zero j)) (fun k _ φ1 hk hok=>?_)
 conv=>whnf
 refine GIf.mk (fun h=>?_) (fun h=>?_)<;>conv=>whnf
 rotate_left
 ·rw[show xe=0 from hX.symm.trans (firstE_no fun j z hz=>hok j z (by have:=of_decide_eq_false h;rw[strG_len] at this;have:=(List.getElem?_eq_some_iff.1 hz).1;omega) hz)]
  exact fin 3
 have hlt:k<m.sel.length:=by have:=of_decide_eq_true h;rw[strG_len] at this;omega
 refine(ex_at hlt).elim fun n hn=>?_
 refine(ex_at (show k<o.keys.length by omega)).elim fun n' hn'=>?_
 have bad:∀{e:Int},pickE o r k n=e->e≠0->e=xe:=fun he h0=>he.symm.trans ((firstE_at hn (by rw[he];exact h0) hok).symm.trans hX)
 have hk':(o.keys[k]?).getD []=n':=by rw[hn'];rfl
 refine ix (map_at hn) ⟨rfl,?_⟩
 conv=>whnf
 refine cP (s_part r r1 n) ?_
 conv=>whnf
 refine st ?_
 conv=>whnf
 refine cStop s_stop2 2 5 (fun h4=>?_) (fun h4=>?_)<;>conv=>whnf
 ·exact endS 3 (bad (stopE_yes h4) (by decide)) (by decide)
 refine GDraw.wildT [some 5,none,some 5,none,none,none,none,none,none,none,some 8,some 8] rfl rfl (by kernel_rfl) ?_
 conv=>whnf
 refine ix (map_at hn') ⟨rfl,?_⟩
 conv=>whnf
 refine cP (s_part o o1 n') ?_
 conv=>whnf
 refine st ?_
 conv=>whnf
 refine cStop s_stop2 2 10 (fun h5=>?_) (fun h5=>?_)<;>conv=>whnf
 ·exact endS 3 (bad ((stopE_no h4).trans (stopE_yes (by rw[hk',kind_part,kind_part];exact h5))) (by decide)) (by decide)
 exact nx () hlt ⟨hlt,ok_succ hn ((stopE_no h4).trans (stopE_no (by rw[hk',kind_part,kind_part];exact h5))) hok⟩
theorem item_kind {l:List Itm} {n:By} (hk:knownI l=true) (ha:l.any (·.name==n)=true):kindOf l n≠0:=by
 rcases at_cases (fun x:Itm=>x.name==n) l with⟨_,_,h⟩|⟨i,y,_,hy,hf,_⟩
 ·rw[h] at ha;cases ha
 ·unfold kindOf
  rw[hf]
  have h1:y.ok=true:=by
   unfold knownI knownB at hk
   simp only[Bool.and_eq_true,List.all_eq_true] at hk
   exact hk.2.1.1 y (List.mem_of_getElem? hy)
  intro h0
  unfold Itm.ok at h1
  rw[show y.k=0 from h0] at h1
  simp at h1
theorem s_conK [MaxL] (l:List Ky) (hl:l.length<most) (z:Ky):SC Tryz.prog 186 [.sl .none (kysG l),.fn (.func 187) [] [.ptr 0 0]] [.box 78 (kyC z)] (.val (.b (l.any fun y=>y.item==z.item))) [.box 78 (kyC z)]:=by
 have hi:=c_idxF (fun y=>rowF (kyC y)) l hl (fun y=>y.item==z.item) _ 78 (kyC z) _ 2 (fun y _=>s_srt1 y z) (.inr (.inr (.inr (.inr (.inr ⟨rfl,rfl,rfl⟩)))))
 refine gwS Tryz.func186 rfl ?_
 conv=>whnf
 refine cS [0] hi ?_
 conv=>whnf
 rw[<-atI_any]
 exact fin 1
theorem all_false {α:Type} {p:α->Bool} {l:List α} {i:Nat} {y:α} (hy:l[i]?=some y) (h:p y=false):l.all p=false:=by
 rw[Bool.eq_false_iff];intro h9
 rw[List.all_eq_true] at h9
 rw[h9 y (List.mem_of_getElem? hy)] at h;cases h
theorem tk_all {α:Type} {p:α->Prop} {l:List α} {i:Nat} {y:α} (hy:l[i]?=some y) (hp:p y) (h:∀z∈l.take i,p z):∀z∈l.take (i+1),p z:=fun z hz=>by
 rw[List.take_add_one,hy] at hz
 rcases List.mem_append.1 hz with hz|hz
 ·exact h z hz
 ·simp at hz;subst hz;exact hp
theorem all_true {α:Type} {p:α->Bool} {l:List α} {i:Nat} (hi:l.length<=i) (h:∀z∈l.take i,p z=true):l.all p=true:=by
 rw[List.take_of_length_le hi] at h;exact List.all_eq_true.2 h
theorem mbs_len [MaxL] (l:List Mb):(mbsG l).length=l.length:=mapG_len _ _
theorem kys_len [MaxL] (l:List Ky):(kysG l).length=l.length:=mapG_len _ _
theorem kys_ok [MaxL] (l:List Ky):(kysG l).all (fun x=>x.cells.length==2)=true:=by
 rw[List.all_eq_true];intro x hx
 obtain⟨b,_,rfl⟩:=List.mem_map.1 hx
 rfl
abbrev srtL (t:Sy) (k:Nat):List (Nat×GV):=[(0,.ptr 0 0),(2,.fn (.func 122) [] [.ptr 2 0]),(4,.ptr 3 0),(25,.sl .none (kysG t.keys)),(26,.i .i64 (kysG t.keys).length),(27,.i .i64 (k:Nat))]
abbrev srtH (s:Sch) (m:List By) (i:Nat) (t:Sy):List GObj:=setH s m i++[.box 39 (syC t)]
def srtT:List (Option Nat):=[none,none,none,none,some 0,none,none,none,some 0,none,some 5,none,none,none,none,some 4,none,none,none,none,some 6,some 6,none]
set_option maxHeartbeats 8000000 in
theorem s_sorted [MaxL] (s:Sch) (hz:schOk s) (m0:List By) (i:Nat) (t:Sy) (htl:t.ms.length<most) (hkl:t.keys.length<most) (hm:∀m∈t.ms,(recN s).contains m.of=true) (hg:∀r∈s.rc,Good knownI r):
  SC Tryz.prog 124 [.ptr 0 0,syG t,.fn (.func 122) [] [.ptr 2 0]] (setH s m0 i) (outR setW3 i (sortE s t)) (setH s m0 i):=by
 obtain⟨⟨ha,hl,ht⟩,hr,hst⟩:=hz
 unfold most at htl hkl
 generalize hX:sortE s t=xe
 refine SC.of_gwp allM mixed Tryz.func124 rfl (bL rfl) (by first|exact rL _|simp) rfl ?_
 conv=>whnf
 refine cP (s_within (kysG t.keys).length 1 4) ?_
 conv=>whnf
 refine cStop s_stop2 2 11 (fun h=>?_) (fun h=>?_)<;>rw[kys_len] at h<;>conv=>whnf
 ·exact endS 3 ((stopE_yes h).symm.trans hX) (by decide)
 replace hX:=(stopE_no h).symm.trans hX
 have badK:∀{e:Int},firstE (sortKeyE s t) t.keys=e->e≠0->e=xe:=fun he h0=>(by rw[he,orE_no h0] at hX;exact hX)
 refine GLoop.rng 4 t.keys.length (fun k _=>∀j y,j<k->t.keys[j]?=some y->sortKeyE s t j y=0) (fun k _=>srtL t k) (fun k (_:Unit)=>srtH s m0 i t) [] () (fun j n h=>absurd h (Nat.not_lt_zero j)) (fun k _ φ1 hk hok=>?_)
 conv=>whnf
 refine GIf.mk (fun h=>?_) (fun h=>?_)<;>conv=>whnf
 rotate_left
 ·have h0:firstE (sortKeyE s t) t.keys=0:=firstE_no fun j z hz=>hok j z (by have:=of_decide_eq_false h;rw[kys_len] at this;have:=(List.getElem?_eq_some_iff.1 hz).1;omega) hz
  rw[orE_ok h0] at hX
  refine cP (s_within t.dups 1 3) ?_
  conv=>whnf
  refine cStop s_stop2 2 1 (fun h=>?_) (fun h=>?_)<;>conv=>whnf
  ·exact endS 3 ((stopE_yes h).symm.trans hX) (by decide)
  rw[show xe=0 from hX.symm.trans (stopE_no h)]
  exact fin 3
 have hlt:k<t.keys.length:=by have:=of_decide_eq_true h;rw[kys_len] at this;omega
 refine(ex_at hlt).elim fun y hy=>?_
 have bad:∀{e:Int},sortKeyE s t k y=e->e≠0->e=xe:=fun he h0=>badK ((firstE_at hy (by rw[he];exact h0) hok).trans he) h0
 refine ix (map_at hy) ⟨rfl,?_⟩
 conv=>whnf
 refine st ?_
 conv=>whnf
 refine GLoop.rng 5 t.ms.length (fun j _=>∀m∈t.ms.take j,(recOf s m.of).its.any (·.name==y.item)=true) (fun j _=>(6,.i .i64 (k:Nat))::(7,.ptr 4 0)::(8,.i .i64 0)::(33,.sl .none (mbsG t.ms))::(34,.i .i64 (mbsG t.ms).length)::(35,.i .i64 (j:Nat))::srtL t k)
  (fun j (_:Unit)=>srtH s m0 i t++[.box 78 (kyC y)]) [] () (fun m h=>by simp at h) (fun j _ φ2 hj hall=>?_)
 conv=>whnf
 refine GIf.mk (fun h=>?_) (fun h=>?_)<;>conv=>whnf
 ·have hlt2:j<t.ms.length:=by have:=of_decide_eq_true h;rw[mbs_len] at this;omega
  refine(ex_at hlt2).elim fun m hm2=>?_
  refine(rec_at (hm m (List.mem_of_getElem? hm2))).elim fun ir hir=>?_
  have hrr:=s_record s hl m.of
  rw[hir.1] at hrr
  refine ix (map_at hm2) ⟨rfl,?_⟩
  conv=>whnf
  refine st ?_
  conv=>whnf
  refine GDraw.wildT srtT rfl rfl (by kernel_rfl) ?_
  conv=>whnf
  refine cP hrr ?_
  conv=>whnf
  refine ix (map_at hir.2) ⟨rfl,?_⟩
  conv=>whnf
  refine cP (s_part _ (hr _ (List.mem_of_getElem? hir.2)).1 y.item) ?_
  conv=>whnf
  refine st ?_
  conv=>whnf
  refine cStop s_stop2 2 5 (fun h4=>?_) (fun h4=>?_)<;>conv=>whnf
  ·exact endS 3 (bad (stopE_yes (by rw[all_false hm2 (notT h4)];rfl)) (by decide)) (by decide)
  exact nx () hlt2 ⟨hlt2,tk_all hm2 (by simpa using h4) hall⟩
 have hall':=all_true (p:=fun m:Mb=>(recOf s m.of).its.any (·.name==y.item)) (by have:=of_decide_eq_false h;rw[mbs_len] at this;omega) hall
 have hp1:sortKeyE s t k y=stopE (!(t.ms.all fun m=>kindOf (recOf s m.of).its y.item==kindOf (recOf s ((t.ms.head?.map (·.of)).getD [])).its y.item)) 10 (stopE (((t.keys.take k).map (·.item)).contains y.item) 6 0):=stopE_no (by rw[hall'];rfl)
 have hne:∀m∈t.ms,kindOf (recOf s m.of).its y.item≠0:=fun m hm9=>by
  obtain⟨ir,_,hir⟩:=rec_at (hm m hm9)
  exact item_kind (hg _ (List.mem_of_getElem? hir)).1 (List.all_eq_true.1 hall' m hm9)
 have hd:∀m,t.ms[0]?=some m->kindOf (recOf s m.of).its y.item=kindOf (recOf s ((t.ms.head?.map (·.of)).getD [])).its y.item:=fun m hm9=>by
  cases hms:t.ms with
  |nil=>rw[hms] at hm9;cases hm9
  |cons x l=>rw[hms] at hm9;cases hm9;rfl
 generalize kindOf (recOf s ((t.ms.head?.map (·.of)).getD [])).its y.item=F at*
 refine GLoop.rng 5 t.ms.length (fun j (b:Int)=>(∀m∈t.ms.take j,(kindOf (recOf s m.of).its y.item==F)=true)/\b=if j=0 then 0 else F) (fun j (b:Int)=>(6,.i .i64 (k:Nat))::(7,.ptr 4 0)::(8,.i .i64 b)::(65,.sl .none (mbsG t.ms))::(66,.i .i64 (mbsG t.ms).length)::(67,.i .i64 (j:Nat))::srtL t k)
  (fun j _=>srtH s m0 i t++[.box 78 (kyC y)]) [] 0 ⟨fun m h=>by simp at h,rfl⟩ (fun j b φ2 hj hb=>?_)
 refine hb.elim fun hall2 hb=>?_
 conv=>whnf
 refine GIf.mk (fun h=>?_) (fun h=>?_)<;>conv=>whnf
 ·have hlt2:j<t.ms.length:=by have:=of_decide_eq_true h;rw[mbs_len] at this;omega
  refine(ex_at hlt2).elim fun m hm2=>?_
  refine(rec_at (hm m (List.mem_of_getElem? hm2))).elim fun ir hir=>?_
  have hrr:=s_record s hl m.of
  rw[hir.1] at hrr
  have hF:j≠0->F≠0:=fun h0=>by
   have hm9:=gL (l:=t.ms) (i:=0) (by omega)
   rw[<-hd _ hm9];exact hne _ (List.mem_of_getElem? hm9)
  refine ix (map_at hm2) ⟨rfl,?_⟩
  conv=>whnf
  refine st ?_
  conv=>whnf
  refine GDraw.wildT srtT rfl rfl (by kernel_rfl) ?_
  conv=>whnf
  refine cP hrr ?_
  conv=>whnf
  refine ix (map_at hir.2) ⟨rfl,?_⟩
  conv=>whnf
  refine cP (s_part _ (hr _ (List.mem_of_getElem? hir.2)).1 y.item) ?_
  conv=>whnf
  refine st ?_
  conv=>whnf
  have hk9:=kind_part (recOf s m.of).its y.item
  refine GIf.mk (fun h4=>?_) (fun h4=>?_)<;>conv=>whnf
  ·have hj0:j≠0:=fun h0=>by rw[if_pos h0] at hb;rw[hb] at h4;exact absurd h4 (by decide)
   rw[if_neg hj0] at hb
   refine cStop s_stop2 2 10 (w:=(partI (recOf s m.of).its y.item).k !=b) (fun h5=>?_) (fun h5=>?_)<;>conv=>whnf
   ·exact endS 3 (bad (hp1.trans (stopE_yes (by rw[all_false hm2 (by rw[hk9,<-hb];simpa using h5)];rfl))) (by decide)) (by decide)
   have h6:(kindOf (recOf s m.of).its y.item==F)=true:=by rw[hk9,<-hb];simpa using h5
   exact nx (partI (recOf s m.of).its y.item).k hlt2 ⟨hlt2,tk_all hm2 h6 hall2,by rw[if_neg (Nat.succ_ne_zero _),<-hk9];exact eq_of_beq h6⟩
  ·have hj0:j=0:=Nat.eq_zero_of_not_pos fun h0=>by
    rw[if_neg (by omega)] at hb
    exact hF (by omega) (by rw[<-hb];simpa using h4)
   refine cStop s_stop2 2 10 (w:=false) (fun h9=>nomatch h9) (fun _=>?_)
   conv=>whnf
   have h6:(kindOf (recOf s m.of).its y.item==F)=true:=by rw[hd m (by rw[<-hj0];exact hm2)];simp
   exact nx (partI (recOf s m.of).its y.item).k hlt2 ⟨hlt2,tk_all hm2 h6 hall2,by rw[if_neg (Nat.succ_ne_zero _),<-hk9];exact eq_of_beq h6⟩
 have hp2:=hp1.trans (stopE_no (by rw[all_true (by have:=of_decide_eq_false h;rw[mbs_len] at this;omega) hall2];rfl))
 refine slTo (zs:=kysG (t.keys.take k)) (kys_ok _) (by rw[kys_len];omega) ?_ (List.map_take ..).symm
 conv=>whnf
 refine cS [4] (s_conK (t.keys.take k) (by unfold most;rw[List.length_take];omega) y) ?_
 conv=>whnf
 rw[contains_map] at hp2
 refine cStop s_stop2 2 6 (fun h4=>?_) (fun h4=>?_)<;>conv=>whnf
 ·exact endS 3 (bad (hp2.trans (stopE_yes h4)) (by decide)) (by decide)
 exact nx () hlt ⟨hlt,ok_succ hy (hp2.trans (stopE_no h4)) hok⟩
end Go.Proofs.YtcfgfkkhpdlhpaaGreatDoor
