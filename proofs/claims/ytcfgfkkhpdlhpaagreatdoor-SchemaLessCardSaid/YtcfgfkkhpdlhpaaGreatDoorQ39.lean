/-
  A part of the proof of SchemaLess.
-/
import Derived.Test.YtcfgfkkhpdlhpaaGreatDoorQ38
set_option linter.all false
namespace Go.Proofs.YtcfgfkkhpdlhpaaGreatDoor
open Go.RowKit
set_option maxRecDepth 100000
set_option linter.unusedVariables false
theorem r_skip_yes [MaxL] {ws:List By} (hw:ws.length<most) {a:Nat} {w:By} (h:wat ws a=w) (hne:w≠[]) (dp:Int) (lim:Bool):
  SC Tryz.prog 268 [.ptr 0 0,.s w] [rdr ws a dp false lim] (.val (.b true)) [rdr ws (a+1:Nat) dp false lim]:=by
 have ha:=wat_in (ws:=ws) (a:=a) (by rw[h];exact hne)
 have:=r_skip ws hw a (by omega) dp false lim w
 have e:skipB ws a false w=true:=by unfold skipB;rw[h];simp
 rw[e] at this
 exact this
theorem r_skip_no [MaxL] {ws:List By} (hw:ws.length<most) {a:Nat} (ha:a<=ws.length) {w:By} (h:wat ws a≠w) (dp:Int) (lim:Bool):
  SC Tryz.prog 268 [.ptr 0 0,.s w] [rdr ws a dp false lim] (.val (.b false)) [rdr ws a dp false lim]:=by
 have:=r_skip ws hw a ha dp false lim w
 have e:skipB ws a false w=false:=by unfold skipB;simp[h]
 rw[e] at this
 exact this
theorem r_skip_bad [MaxL] {ws:List By} (hw:ws.length<most) {a:Nat} (ha:a<=ws.length) (w:By) (dp:Int) (lim:Bool):
  SC Tryz.prog 268 [.ptr 0 0,.s w] [rdr ws a dp true lim] (.val (.b false)) [rdr ws a dp true lim]:=by
 have:=r_skip ws hw a ha dp true lim w
 have e:skipB ws a true w=false:=rfl
 rw[e] at this
 exact this
def Rr [MaxL] (k:FuncId) (ws:List By) (a lv d:Nat) (o:Option (Tree×List By×Nat)):Prop:=match o with
 |some (t,r,e)=>∃a',a<=a'/\a'<=ws.length/\r=ws.drop a'/\t.size<=a' - a/\SC Tryz.prog k [.ptr 0 0] [rdr ws a lv false (decide (20<d))] (.val t.ng) [rdr ws a' lv false (decide (20<e))]
 |none=>∃t a' l',a<=a'/\a'<=ws.length/\t.size<=a' - a+1/\SC Tryz.prog k [.ptr 0 0] [rdr ws a lv false (decide (20<d))] (.val (Tree.ng t)) [rdr ws a' lv true l']
theorem lim_max (d lv:Nat):(decide (20<d)||decide (20<lv+1))=decide (20<max d (lv+1)):=by
 rw[Bool.eq_iff_iff];simp;omega
theorem ng_form (t:Tree):∃k kids A B op yes,t.ng=.agg (ndc k kids A B op yes):=by
 rcases ncs_form true t with⟨e,_⟩|⟨k,kids,A,B,op,yes,e,_⟩
 ·exact⟨_,_,_,_,_,_,by show GV.agg t.ncs=_;rw[e]⟩
 ·exact⟨_,_,_,_,_,_,by show GV.agg t.ncs=_;rw[e]⟩
def parenR (o:Option (Tree×List By×Nat)):Option (Tree×List By×Nat):=match o with
 |some (t,r,e)=>if r.headD []=[41] then some (t,r.tail,e) else none
 |none=>none
theorem drop_tail (ws:List By) (a:Nat):(ws.drop a).tail=ws.drop (a+1):=by simp
theorem r_prim_p [MaxL] (ws:List By) (hw:ws.length<1000000) (a lv d:Nat) (hlv:lv<100000) (h:wat ws a=[40]) (o:Option (Tree×List By×Nat))
  (hc:Rr 231 ws (a+1) (lv+1) (max d (lv+1)) o):Rr 322 ws a lv d (parenR o):=by
 have hm:ws.length<most:=by unfold most;omega
 have ha:=wat_in (ws:=ws) (a:=a) (by rw[h];simp)
 have h1:=r_skip_yes hm h (by simp) lv (decide (20<d))
 have h2:=r_in ws (a+1) lv (by omega) false (decide (20<d))
 rw[lim_max] at h2
 have hdec:IntKind.i64.wrap (((lv+1:Nat):Int) - 1)=((lv:Nat):Int):=by rw[wrap_in (by omega) (by omega)];omega
 cases o with
 |none=>
  obtain⟨t,a',l',b1,b2,b3,hc⟩:=hc
  have h3:=r_skip_bad hm b2 [41] lv l'
  refine⟨t,a',l',by omega,b2,by omega,?_⟩
  have hcl:=t.ng_cl
  obtain⟨k,kids,A,B,op,yes,hng⟩:=ng_form t
  rw[hng] at hc hcl⊢
  refine gwS Tryz.func322 rfl ?_
  conv=>whnf
  refine callB (q:=0) h1 rfl (wR _) rfl rfl rdC rdC (fun _=>rfl) (.b _) ?_
  conv=>whnf
  refine callB (q:=0) h2 rfl (wR _) rfl rfl rdC rdC (fun _=>rfl) (Cl.tup .nil) ?_
  conv=>whnf
  refine callB (q:=0) hc rfl (wR _) rfl rfl rdC rdC (fun _=>rfl) hcl ?_
  conv=>whnf
  refine⟨_,⟨rfl,zL _,rfl,bL rfl⟩,?_⟩
  conv=>whnf
  refine⟨[.i .i64 (lv:Nat)],⟨(by rw[hdec];rfl),rL _,rfl,bL rfl⟩,?_⟩
  conv=>whnf
  refine callB (q:=0) h3 rfl (wR _) rfl rfl rdC rdC (fun _=>rfl) (.b _) ?_
  conv=>whnf
  refine⟨_,⟨rfl,zL _,rfl,bL rfl⟩,?_⟩
  conv=>whnf
  refine⟨_,⟨rfl,zL _,rfl,bL rfl⟩,?_⟩
  conv=>whnf
  exact owesB rfl (.refl _) (rdr_cl ws a' lv true l') hcl
 |some p=>
  obtain⟨t,r,e⟩:=p
  obtain⟨a',b1,b2,rfl,b3,hc⟩:=hc
  by_cases h4:wat ws a'=[41]
  ·have ha':=wat_in (ws:=ws) (a:=a') (by rw[h4];simp)
   have h3:=r_skip_yes hm h4 (by simp) lv (decide (20<e))
   have hp:parenR (some (t,ws.drop a',e))=some (t,ws.drop (a'+1),e):=by
    show(if(ws.drop a').headD []=[41] then some (t,(ws.drop a').tail,e) else none)=_
    rw[if_pos (show(ws.drop a').headD []=[41] from h4),drop_tail]
   rw[hp]
   refine⟨a'+1,by omega,ha',rfl,by omega,?_⟩
   have hcl:=t.ng_cl
   obtain⟨k,kids,A,B,op,yes,hng⟩:=ng_form t
   rw[hng] at hc hcl⊢
   refine gwS Tryz.func322 rfl ?_
   conv=>whnf
   refine callB (q:=0) h1 rfl (wR _) rfl rfl rdC rdC (fun _=>rfl) (.b _) ?_
   conv=>whnf
   refine callB (q:=0) h2 rfl (wR _) rfl rfl rdC rdC (fun _=>rfl) (Cl.tup .nil) ?_
   conv=>whnf
   refine callB (q:=0) hc rfl (wR _) rfl rfl rdC rdC (fun _=>rfl) hcl ?_
   conv=>whnf
   refine⟨_,⟨rfl,zL _,rfl,bL rfl⟩,?_⟩
   conv=>whnf
   refine⟨[.i .i64 (lv:Nat)],⟨(by rw[hdec];rfl),rL _,rfl,bL rfl⟩,?_⟩
   conv=>whnf
   refine callB (q:=0) h3 rfl (wR _) rfl rfl rdC rdC (fun _=>rfl) (.b _) ?_
   conv=>whnf
   refine⟨_,⟨rfl,zL _,rfl,bL rfl⟩,?_⟩
   conv=>whnf
   exact owesB rfl (.refl _) (rdr_cl ws (a'+1:Nat) lv false (decide (20<e))) hcl
  ·have h3:=r_skip_no hm b2 h4 lv (decide (20<e))
   have hp:parenR (some (t,ws.drop a',e))=none:=by
    show(if(ws.drop a').headD []=[41] then some (t,(ws.drop a').tail,e) else none)=_
    rw[if_neg (show¬(ws.drop a').headD []=[41] from h4)]
   rw[hp]
   refine⟨t,a',decide (20<e),by omega,b2,by omega,?_⟩
   have hcl:=t.ng_cl
   obtain⟨k,kids,A,B,op,yes,hng⟩:=ng_form t
   rw[hng] at hc hcl⊢
   refine gwS Tryz.func322 rfl ?_
   conv=>whnf
   refine callB (q:=0) h1 rfl (wR _) rfl rfl rdC rdC (fun _=>rfl) (.b _) ?_
   conv=>whnf
   refine callB (q:=0) h2 rfl (wR _) rfl rfl rdC rdC (fun _=>rfl) (Cl.tup .nil) ?_
   conv=>whnf
   refine callB (q:=0) hc rfl (wR _) rfl rfl rdC rdC (fun _=>rfl) hcl ?_
   conv=>whnf
   refine⟨_,⟨rfl,zL _,rfl,bL rfl⟩,?_⟩
   conv=>whnf
   refine⟨[.i .i64 (lv:Nat)],⟨(by rw[hdec];rfl),rL _,rfl,bL rfl⟩,?_⟩
   conv=>whnf
   refine callB (q:=0) h3 rfl (wR _) rfl rfl rdC rdC (fun _=>rfl) (.b _) ?_
   conv=>whnf
   refine⟨_,⟨rfl,zL _,rfl,bL rfl⟩,?_⟩
   conv=>whnf
   refine⟨_,⟨rfl,zL _,rfl,bL rfl⟩,?_⟩
   conv=>whnf
   exact owesB rfl (.refl _) (rdr_cl ws a' lv true (decide (20<e))) hcl
theorem r_prim_1 [MaxL] (ws:List By) (hw:ws.length<1000000) (a lv d:Nat) (h:wat ws a=wTrue):Rr 322 ws a lv d (some (.truth true,ws.drop (a+1),d)):=by
 have hm:ws.length<most:=by unfold most;omega
 have ha:=wat_in (ws:=ws) (a:=a) (by rw[h];decide)
 have n0:=r_skip_no hm (Nat.le_of_lt ha) (w:=([40])) (by rw[h];decide) lv (decide (20<d))
 have y:=r_skip_yes hm h (by decide) lv (decide (20<d))
 refine⟨a+1,by omega,ha,rfl,by simp only[Tree.size];omega,?_⟩
 show SC _ _ _ _ (.val (.agg (ndc 5 [] t0 t0 [] true))) _
 refine gwS Tryz.func322 rfl ?_
 conv=>whnf
 refine callB (q:=0) n0 rfl (wR _) rfl rfl rdC rdC (fun _=>rfl) (.b _) ?_
 conv=>whnf
 refine callB (q:=0) y rfl (wR _) rfl rfl rdC rdC (fun _=>rfl) (.b _) ?_
 conv=>whnf
 refine⟨_,⟨rfl,zL _,rfl,bL rfl⟩,?_⟩
 conv=>whnf
 exact owesB rfl wk_node (rdr_cl ws (a+1:Nat) lv false (decide (20<d))) (Cl.agg (ndc_cl ClL.nil t0 t0 [] true))
theorem r_prim_2 [MaxL] (ws:List By) (hw:ws.length<1000000) (a lv d:Nat) (h:wat ws a=wFalse):Rr 322 ws a lv d (some (.truth false,ws.drop (a+1),d)):=by
 have hm:ws.length<most:=by unfold most;omega
 have ha:=wat_in (ws:=ws) (a:=a) (by rw[h];decide)
 have n0:=r_skip_no hm (Nat.le_of_lt ha) (w:=([40])) (by rw[h];decide) lv (decide (20<d))
 have n1:=r_skip_no hm (Nat.le_of_lt ha) (w:=wTrue) (by rw[h];decide) lv (decide (20<d))
 have y:=r_skip_yes hm h (by decide) lv (decide (20<d))
 refine⟨a+1,by omega,ha,rfl,by simp only[Tree.size];omega,?_⟩
 show SC _ _ _ _ (.val (.agg (ndc 5 [] t0 t0 [] false))) _
 refine gwS Tryz.func322 rfl ?_
 conv=>whnf
 refine callB (q:=0) n0 rfl (wR _) rfl rfl rdC rdC (fun _=>rfl) (.b _) ?_
 conv=>whnf
 refine callB (q:=0) n1 rfl (wR _) rfl rfl rdC rdC (fun _=>rfl) (.b _) ?_
 conv=>whnf
 refine callB (q:=0) y rfl (wR _) rfl rfl rdC rdC (fun _=>rfl) (.b _) ?_
 conv=>whnf
 refine⟨_,⟨rfl,zL _,rfl,bL rfl⟩,?_⟩
 conv=>whnf
 exact owesB rfl wk_node (rdr_cl ws (a+1:Nat) lv false (decide (20<d))) (Cl.agg (ndc_cl ClL.nil t0 t0 [] false))
set_option maxHeartbeats 2000000 in
theorem r_prim_x [MaxL] (ws:List By) (hw:ws.length<1000000) (hx:∀w∈ws,w.length<1000000) (a:Nat) (ha:a<=ws.length) (lv d:Nat) (h1:wat ws a≠[40]) (h2:wat ws a≠wTrue) (h3:wat ws a≠wFalse):
  Rr 322 ws a lv d (match termW litR (ws.drop a) with
   |some (x,r)=>if relop (r.headD []) then(match termW litR r.tail with
     |some (y,r')=>some (.test (r.headD []) x y,r',d)
     |none=>none)
    else none
   |none=>none):=by
 have hm:ws.length<most:=by unfold most;omega
 have n1:=r_skip_no hm ha h1 lv (decide (20<d))
 have n2:=r_skip_no hm ha h2 lv (decide (20<d))
 have n3:=r_skip_no hm ha h3 lv (decide (20<d))
 have hs:=r_side ws hm hx a ha lv (decide (20<d))
 cases ht:termW litR (ws.drop a) with
 |none=>
  rw[ht] at hs
  obtain⟨a',hle,ha',hs⟩:=hs
  have hn:=r_now ws hm a' lv true (decide (20<d))
  have k1:=r_skip_bad hm ha' [61] lv (decide (20<d))
  have k2:=r_skip_bad hm ha' [60,62] lv (decide (20<d))
  have k3:=r_skip_bad hm ha' [60] lv (decide (20<d))
  have k4:=r_skip_bad hm ha' [60,61] lv (decide (20<d))
  have k5:=r_skip_bad hm ha' [62] lv (decide (20<d))
  have k6:=r_skip_bad hm ha' [62,61] lv (decide (20<d))
  have hs2:=r_side_bad ws hm a' lv (decide (20<d))
  refine⟨.test (wat ws a') t0 t0,a',decide (20<d),hle,ha',Nat.le_add_left _ _,?_⟩
  show SC _ _ _ _ (.val (.agg (ndc 4 [] t0 t0 (wat ws a') false))) _
  generalize wat ws a'=op at*
  refine gwS Tryz.func322 rfl ?_
  conv=>whnf
  refine callB (q:=0) n1 rfl (wR _) rfl rfl rdC rdC (fun _=>rfl) (.b _) ?_
  conv=>whnf
  refine callB (q:=0) n2 rfl (wR _) rfl rfl rdC rdC (fun _=>rfl) (.b _) ?_
  conv=>whnf
  refine callB (q:=0) n3 rfl (wR _) rfl rfl rdC rdC (fun _=>rfl) (.b _) ?_
  conv=>whnf
  refine callB (q:=0) hs rfl (wR _) rfl rfl rdC rdC (fun _=>rfl) (fun _=>rfl) ?_
  conv=>whnf
  refine callB (q:=0) hn rfl (wR _) rfl rfl rdC rdC (fun _=>rfl) (.s _) ?_
  conv=>whnf
  refine⟨_,⟨rfl,zL _,rfl,bL rfl⟩,?_⟩
  conv=>whnf
  refine callB (q:=0) k1 rfl (wR _) rfl rfl rdC rdC (fun _=>rfl) (.b _) ?_
  conv=>whnf
  refine callB (q:=0) k2 rfl (wR _) rfl rfl rdC rdC (fun _=>rfl) (.b _) ?_
  conv=>whnf
  refine callB (q:=0) k3 rfl (wR _) rfl rfl rdC rdC (fun _=>rfl) (.b _) ?_
  conv=>whnf
  refine callB (q:=0) k4 rfl (wR _) rfl rfl rdC rdC (fun _=>rfl) (.b _) ?_
  conv=>whnf
  refine callB (q:=0) k5 rfl (wR _) rfl rfl rdC rdC (fun _=>rfl) (.b _) ?_
  conv=>whnf
  refine callB (q:=0) k6 rfl (wR _) rfl rfl rdC rdC (fun _=>rfl) (.b _) ?_
  conv=>whnf
  refine⟨_,⟨rfl,zL _,rfl,bL rfl⟩,?_⟩
  conv=>whnf
  refine callB (q:=0) hs2 rfl (wR _) rfl rfl rdC rdC (fun _=>rfl) (fun _=>rfl) ?_
  conv=>whnf
  refine⟨_,⟨rfl,zL _,rfl,bL rfl⟩,?_⟩
  conv=>whnf
  refine⟨_,⟨rfl,zL _,rfl,bL rfl⟩,?_⟩
  conv=>whnf
  exact owesB rfl wk_node rdC (Cl.agg (ndc_cl ClL.nil t0 t0 op false))
 |some p=>
  obtain⟨x,r⟩:=p
  rw[ht] at hs
  obtain⟨a',hle,ha',rfl,hs⟩:=hs
  have hlt:a<a':=by
   have:=termW_len ht
   simp only[List.length_drop] at this;omega
  have hn:=r_now ws hm a' lv false (decide (20<d))
  simp only
  rw[show(ws.drop a').headD []=wat ws a' from rfl,drop_tail]
  by_cases o1:wat ws a'=[61]
  ·have hin:=wat_in (ws:=ws) (a:=a') (by rw[o1];simp)
   rw[o1] at hn⊢
   rw[if_pos (by decide)]
   have k1:=r_skip_yes hm o1 (by simp) lv (decide (20<d))
   have hs2:=r_side ws hm hx (a'+1) hin lv (decide (20<d))
   cases ht2:termW litR (ws.drop (a'+1)) with
   |none=>
    rw[ht2] at hs2
    obtain⟨b',hle2,hb',hs2⟩:=hs2
    refine⟨.test [61] x t0,b',decide (20<d),by omega,hb',Nat.le_add_left _ _,?_⟩
    show SC _ _ _ _ (.val (.agg (ndc 4 [] x t0 [61] false))) _
    refine gwS Tryz.func322 rfl ?_
    conv=>whnf
    refine callB (q:=0) n1 rfl (wR _) rfl rfl rdC rdC (fun _=>rfl) (.b _) ?_
    conv=>whnf
    refine callB (q:=0) n2 rfl (wR _) rfl rfl rdC rdC (fun _=>rfl) (.b _) ?_
    conv=>whnf
    refine callB (q:=0) n3 rfl (wR _) rfl rfl rdC rdC (fun _=>rfl) (.b _) ?_
    conv=>whnf
    refine callB (q:=0) hs rfl (wR _) rfl rfl rdC rdC (fun _=>rfl) (fun _=>rfl) ?_
    conv=>whnf
    refine callB (q:=0) hn rfl (wR _) rfl rfl rdC rdC (fun _=>rfl) (.s _) ?_
    conv=>whnf
    refine⟨_,⟨rfl,zL _,rfl,bL rfl⟩,?_⟩
    conv=>whnf
    refine callB (q:=0) k1 rfl (wR _) rfl rfl rdC rdC (fun _=>rfl) (.b _) ?_
    conv=>whnf
    refine callB (q:=0) hs2 rfl (wR _) rfl rfl rdC rdC (fun _=>rfl) (fun _=>rfl) ?_
    conv=>whnf
    refine⟨_,⟨rfl,zL _,rfl,bL rfl⟩,?_⟩
    conv=>whnf
    refine⟨_,⟨rfl,zL _,rfl,bL rfl⟩,?_⟩
    conv=>whnf
    exact owesB rfl wk_node rdC (Cl.agg (ndc_cl ClL.nil x t0 [61] false))
   |some p=>
    obtain⟨y,r⟩:=p
    rw[ht2] at hs2
    obtain⟨b',hle2,hb',rfl,hs2⟩:=hs2
    refine⟨b',by omega,hb',rfl,by simp only[Tree.size];omega,?_⟩
    show SC _ _ _ _ (.val (.agg (ndc 4 [] x y [61] false))) _
    refine gwS Tryz.func322 rfl ?_
    conv=>whnf
    refine callB (q:=0) n1 rfl (wR _) rfl rfl rdC rdC (fun _=>rfl) (.b _) ?_
    conv=>whnf
    refine callB (q:=0) n2 rfl (wR _) rfl rfl rdC rdC (fun _=>rfl) (.b _) ?_
    conv=>whnf
    refine callB (q:=0) n3 rfl (wR _) rfl rfl rdC rdC (fun _=>rfl) (.b _) ?_
    conv=>whnf
    refine callB (q:=0) hs rfl (wR _) rfl rfl rdC rdC (fun _=>rfl) (fun _=>rfl) ?_
    conv=>whnf
    refine callB (q:=0) hn rfl (wR _) rfl rfl rdC rdC (fun _=>rfl) (.s _) ?_
    conv=>whnf
    refine⟨_,⟨rfl,zL _,rfl,bL rfl⟩,?_⟩
    conv=>whnf
    refine callB (q:=0) k1 rfl (wR _) rfl rfl rdC rdC (fun _=>rfl) (.b _) ?_
    conv=>whnf
    refine callB (q:=0) hs2 rfl (wR _) rfl rfl rdC rdC (fun _=>rfl) (fun _=>rfl) ?_
    conv=>whnf
    refine⟨_,⟨rfl,zL _,rfl,bL rfl⟩,?_⟩
    conv=>whnf
    refine⟨_,⟨rfl,zL _,rfl,bL rfl⟩,?_⟩
    conv=>whnf
    exact owesB rfl wk_node rdC (Cl.agg (ndc_cl ClL.nil x y [61] false))
  by_cases o2:wat ws a'=[60,62]
  ·have hin:=wat_in (ws:=ws) (a:=a') (by rw[o2];simp)
   rw[o2] at hn⊢
   rw[if_pos (by decide)]
   have k1:=r_skip_no hm ha' (w:=[61]) (by rw[o2];decide) lv (decide (20<d))
   have k2:=r_skip_yes hm o2 (by simp) lv (decide (20<d))
   have hs2:=r_side ws hm hx (a'+1) hin lv (decide (20<d))
   cases ht2:termW litR (ws.drop (a'+1)) with
   |none=>
    rw[ht2] at hs2
    obtain⟨b',hle2,hb',hs2⟩:=hs2
    refine⟨.test [60,62] x t0,b',decide (20<d),by omega,hb',Nat.le_add_left _ _,?_⟩
    show SC _ _ _ _ (.val (.agg (ndc 4 [] x t0 [60,62] false))) _
    refine gwS Tryz.func322 rfl ?_
    conv=>whnf
    refine callB (q:=0) n1 rfl (wR _) rfl rfl rdC rdC (fun _=>rfl) (.b _) ?_
    conv=>whnf
    refine callB (q:=0) n2 rfl (wR _) rfl rfl rdC rdC (fun _=>rfl) (.b _) ?_
    conv=>whnf
    refine callB (q:=0) n3 rfl (wR _) rfl rfl rdC rdC (fun _=>rfl) (.b _) ?_
    conv=>whnf
    refine callB (q:=0) hs rfl (wR _) rfl rfl rdC rdC (fun _=>rfl) (fun _=>rfl) ?_
    conv=>whnf
    refine callB (q:=0) hn rfl (wR _) rfl rfl rdC rdC (fun _=>rfl) (.s _) ?_
    conv=>whnf
    refine⟨_,⟨rfl,zL _,rfl,bL rfl⟩,?_⟩
    conv=>whnf
    refine callB (q:=0) k1 rfl (wR _) rfl rfl rdC rdC (fun _=>rfl) (.b _) ?_
    conv=>whnf
    refine callB (q:=0) k2 rfl (wR _) rfl rfl rdC rdC (fun _=>rfl) (.b _) ?_
    conv=>whnf
    refine callB (q:=0) hs2 rfl (wR _) rfl rfl rdC rdC (fun _=>rfl) (fun _=>rfl) ?_
    conv=>whnf
    refine⟨_,⟨rfl,zL _,rfl,bL rfl⟩,?_⟩
    conv=>whnf
    refine⟨_,⟨rfl,zL _,rfl,bL rfl⟩,?_⟩
    conv=>whnf
    exact owesB rfl wk_node rdC (Cl.agg (ndc_cl ClL.nil x t0 [60,62] false))
   |some p=>
    obtain⟨y,r⟩:=p
    rw[ht2] at hs2
    obtain⟨b',hle2,hb',rfl,hs2⟩:=hs2
    refine⟨b',by omega,hb',rfl,by simp only[Tree.size];omega,?_⟩
    show SC _ _ _ _ (.val (.agg (ndc 4 [] x y [60,62] false))) _
    refine gwS Tryz.func322 rfl ?_
    conv=>whnf
    refine callB (q:=0) n1 rfl (wR _) rfl rfl rdC rdC (fun _=>rfl) (.b _) ?_
    conv=>whnf
    refine callB (q:=0) n2 rfl (wR _) rfl rfl rdC rdC (fun _=>rfl) (.b _) ?_
    conv=>whnf
    refine callB (q:=0) n3 rfl (wR _) rfl rfl rdC rdC (fun _=>rfl) (.b _) ?_
    conv=>whnf
    refine callB (q:=0) hs rfl (wR _) rfl rfl rdC rdC (fun _=>rfl) (fun _=>rfl) ?_
    conv=>whnf
    refine callB (q:=0) hn rfl (wR _) rfl rfl rdC rdC (fun _=>rfl) (.s _) ?_
    conv=>whnf
    refine⟨_,⟨rfl,zL _,rfl,bL rfl⟩,?_⟩
    conv=>whnf
    refine callB (q:=0) k1 rfl (wR _) rfl rfl rdC rdC (fun _=>rfl) (.b _) ?_
    conv=>whnf
    refine callB (q:=0) k2 rfl (wR _) rfl rfl rdC rdC (fun _=>rfl) (.b _) ?_
    conv=>whnf
    refine callB (q:=0) hs2 rfl (wR _) rfl rfl rdC rdC (fun _=>rfl) (fun _=>rfl) ?_
    conv=>whnf
    refine⟨_,⟨rfl,zL _,rfl,bL rfl⟩,?_⟩
    conv=>whnf
    refine⟨_,⟨rfl,zL _,rfl,bL rfl⟩,?_⟩
    conv=>whnf
    exact owesB rfl wk_node rdC (Cl.agg (ndc_cl ClL.nil x y [60,62] false))
  by_cases o3:wat ws a'=[60]
  ·have hin:=wat_in (ws:=ws) (a:=a') (by rw[o3];simp)
   rw[o3] at hn⊢
   rw[if_pos (by decide)]
   have k1:=r_skip_no hm ha' (w:=[61]) (by rw[o3];decide) lv (decide (20<d))
   have k2:=r_skip_no hm ha' (w:=[60,62]) (by rw[o3];decide) lv (decide (20<d))
   have k3:=r_skip_yes hm o3 (by simp) lv (decide (20<d))
   have hs2:=r_side ws hm hx (a'+1) hin lv (decide (20<d))
   cases ht2:termW litR (ws.drop (a'+1)) with
   |none=>
    rw[ht2] at hs2
    obtain⟨b',hle2,hb',hs2⟩:=hs2
    refine⟨.test [60] x t0,b',decide (20<d),by omega,hb',Nat.le_add_left _ _,?_⟩
    show SC _ _ _ _ (.val (.agg (ndc 4 [] x t0 [60] false))) _
    refine gwS Tryz.func322 rfl ?_
    conv=>whnf
    refine callB (q:=0) n1 rfl (wR _) rfl rfl rdC rdC (fun _=>rfl) (.b _) ?_
    conv=>whnf
    refine callB (q:=0) n2 rfl (wR _) rfl rfl rdC rdC (fun _=>rfl) (.b _) ?_
    conv=>whnf
    refine callB (q:=0) n3 rfl (wR _) rfl rfl rdC rdC (fun _=>rfl) (.b _) ?_
    conv=>whnf
    refine callB (q:=0) hs rfl (wR _) rfl rfl rdC rdC (fun _=>rfl) (fun _=>rfl) ?_
    conv=>whnf
    refine callB (q:=0) hn rfl (wR _) rfl rfl rdC rdC (fun _=>rfl) (.s _) ?_
    conv=>whnf
    refine⟨_,⟨rfl,zL _,rfl,bL rfl⟩,?_⟩
    conv=>whnf
    refine callB (q:=0) k1 rfl (wR _) rfl rfl rdC rdC (fun _=>rfl) (.b _) ?_
    conv=>whnf
    refine callB (q:=0) k2 rfl (wR _) rfl rfl rdC rdC (fun _=>rfl) (.b _) ?_
    conv=>whnf
    refine callB (q:=0) k3 rfl (wR _) rfl rfl rdC rdC (fun _=>rfl) (.b _) ?_
    conv=>whnf
    refine callB (q:=0) hs2 rfl (wR _) rfl rfl rdC rdC (fun _=>rfl) (fun _=>rfl) ?_
    conv=>whnf
    refine⟨_,⟨rfl,zL _,rfl,bL rfl⟩,?_⟩
    conv=>whnf
    refine⟨_,⟨rfl,zL _,rfl,bL rfl⟩,?_⟩
    conv=>whnf
    exact owesB rfl wk_node rdC (Cl.agg (ndc_cl ClL.nil x t0 [60] false))
   |some p=>
    obtain⟨y,r⟩:=p
    rw[ht2] at hs2
    obtain⟨b',hle2,hb',rfl,hs2⟩:=hs2
    refine⟨b',by omega,hb',rfl,by simp only[Tree.size];omega,?_⟩
    show SC _ _ _ _ (.val (.agg (ndc 4 [] x y [60] false))) _
    refine gwS Tryz.func322 rfl ?_
    conv=>whnf
    refine callB (q:=0) n1 rfl (wR _) rfl rfl rdC rdC (fun _=>rfl) (.b _) ?_
    conv=>whnf
    refine callB (q:=0) n2 rfl (wR _) rfl rfl rdC rdC (fun _=>rfl) (.b _) ?_
    conv=>whnf
    refine callB (q:=0) n3 rfl (wR _) rfl rfl rdC rdC (fun _=>rfl) (.b _) ?_
    conv=>whnf
    refine callB (q:=0) hs rfl (wR _) rfl rfl rdC rdC (fun _=>rfl) (fun _=>rfl) ?_
    conv=>whnf
    refine callB (q:=0) hn rfl (wR _) rfl rfl rdC rdC (fun _=>rfl) (.s _) ?_
    conv=>whnf
    refine⟨_,⟨rfl,zL _,rfl,bL rfl⟩,?_⟩
    conv=>whnf
    refine callB (q:=0) k1 rfl (wR _) rfl rfl rdC rdC (fun _=>rfl) (.b _) ?_
    conv=>whnf
    refine callB (q:=0) k2 rfl (wR _) rfl rfl rdC rdC (fun _=>rfl) (.b _) ?_
    conv=>whnf
    refine callB (q:=0) k3 rfl (wR _) rfl rfl rdC rdC (fun _=>rfl) (.b _) ?_
    conv=>whnf
    refine callB (q:=0) hs2 rfl (wR _) rfl rfl rdC rdC (fun _=>rfl) (fun _=>rfl) ?_
    conv=>whnf
    refine⟨_,⟨rfl,zL _,rfl,bL rfl⟩,?_⟩
    conv=>whnf
    refine⟨_,⟨rfl,zL _,rfl,bL rfl⟩,?_⟩
    conv=>whnf
    exact owesB rfl wk_node rdC (Cl.agg (ndc_cl ClL.nil x y [60] false))
  by_cases o4:wat ws a'=[60,61]
  ·have hin:=wat_in (ws:=ws) (a:=a') (by rw[o4];simp)
   rw[o4] at hn⊢
   rw[if_pos (by decide)]
   have k1:=r_skip_no hm ha' (w:=[61]) (by rw[o4];decide) lv (decide (20<d))
   have k2:=r_skip_no hm ha' (w:=[60,62]) (by rw[o4];decide) lv (decide (20<d))
   have k3:=r_skip_no hm ha' (w:=[60]) (by rw[o4];decide) lv (decide (20<d))
   have k4:=r_skip_yes hm o4 (by simp) lv (decide (20<d))
   have hs2:=r_side ws hm hx (a'+1) hin lv (decide (20<d))
   cases ht2:termW litR (ws.drop (a'+1)) with
   |none=>
    rw[ht2] at hs2
    obtain⟨b',hle2,hb',hs2⟩:=hs2
    refine⟨.test [60,61] x t0,b',decide (20<d),by omega,hb',Nat.le_add_left _ _,?_⟩
    show SC _ _ _ _ (.val (.agg (ndc 4 [] x t0 [60,61] false))) _
    refine gwS Tryz.func322 rfl ?_
    conv=>whnf
    refine callB (q:=0) n1 rfl (wR _) rfl rfl rdC rdC (fun _=>rfl) (.b _) ?_
    conv=>whnf
    refine callB (q:=0) n2 rfl (wR _) rfl rfl rdC rdC (fun _=>rfl) (.b _) ?_
    conv=>whnf
    refine callB (q:=0) n3 rfl (wR _) rfl rfl rdC rdC (fun _=>rfl) (.b _) ?_
    conv=>whnf
    refine callB (q:=0) hs rfl (wR _) rfl rfl rdC rdC (fun _=>rfl) (fun _=>rfl) ?_
    conv=>whnf
    refine callB (q:=0) hn rfl (wR _) rfl rfl rdC rdC (fun _=>rfl) (.s _) ?_
    conv=>whnf
    refine⟨_,⟨rfl,zL _,rfl,bL rfl⟩,?_⟩
    conv=>whnf
    refine callB (q:=0) k1 rfl (wR _) rfl rfl rdC rdC (fun _=>rfl) (.b _) ?_
    conv=>whnf
    refine callB (q:=0) k2 rfl (wR _) rfl rfl rdC rdC (fun _=>rfl) (.b _) ?_
    conv=>whnf
    refine callB (q:=0) k3 rfl (wR _) rfl rfl rdC rdC (fun _=>rfl) (.b _) ?_
    conv=>whnf
    refine callB (q:=0) k4 rfl (wR _) rfl rfl rdC rdC (fun _=>rfl) (.b _) ?_
    conv=>whnf
    refine callB (q:=0) hs2 rfl (wR _) rfl rfl rdC rdC (fun _=>rfl) (fun _=>rfl) ?_
    conv=>whnf
    refine⟨_,⟨rfl,zL _,rfl,bL rfl⟩,?_⟩
    conv=>whnf
    refine⟨_,⟨rfl,zL _,rfl,bL rfl⟩,?_⟩
    conv=>whnf
    exact owesB rfl wk_node rdC (Cl.agg (ndc_cl ClL.nil x t0 [60,61] false))
   |some p=>
    obtain⟨y,r⟩:=p
    rw[ht2] at hs2
    obtain⟨b',hle2,hb',rfl,hs2⟩:=hs2
    refine⟨b',by omega,hb',rfl,by simp only[Tree.size];omega,?_⟩
    show SC _ _ _ _ (.val (.agg (ndc 4 [] x y [60,61] false))) _
    refine gwS Tryz.func322 rfl ?_
    conv=>whnf
    refine callB (q:=0) n1 rfl (wR _) rfl rfl rdC rdC (fun _=>rfl) (.b _) ?_
    conv=>whnf
    refine callB (q:=0) n2 rfl (wR _) rfl rfl rdC rdC (fun _=>rfl) (.b _) ?_
    conv=>whnf
    refine callB (q:=0) n3 rfl (wR _) rfl rfl rdC rdC (fun _=>rfl) (.b _) ?_
    conv=>whnf
    refine callB (q:=0) hs rfl (wR _) rfl rfl rdC rdC (fun _=>rfl) (fun _=>rfl) ?_
    conv=>whnf
    refine callB (q:=0) hn rfl (wR _) rfl rfl rdC rdC (fun _=>rfl) (.s _) ?_
    conv=>whnf
    refine⟨_,⟨rfl,zL _,rfl,bL rfl⟩,?_⟩
    conv=>whnf
    refine callB (q:=0) k1 rfl (wR _) rfl rfl rdC rdC (fun _=>rfl) (.b _) ?_
    conv=>whnf
    refine callB (q:=0) k2 rfl (wR _) rfl rfl rdC rdC (fun _=>rfl) (.b _) ?_
    conv=>whnf
    refine callB (q:=0) k3 rfl (wR _) rfl rfl rdC rdC (fun _=>rfl) (.b _) ?_
    conv=>whnf
    refine callB (q:=0) k4 rfl (wR _) rfl rfl rdC rdC (fun _=>rfl) (.b _) ?_
    conv=>whnf
    refine callB (q:=0) hs2 rfl (wR _) rfl rfl rdC rdC (fun _=>rfl) (fun _=>rfl) ?_
    conv=>whnf
    refine⟨_,⟨rfl,zL _,rfl,bL rfl⟩,?_⟩
    conv=>whnf
    refine⟨_,⟨rfl,zL _,rfl,bL rfl⟩,?_⟩
    conv=>whnf
    exact owesB rfl wk_node rdC (Cl.agg (ndc_cl ClL.nil x y [60,61] false))
  by_cases o5:wat ws a'=[62]
  ·have hin:=wat_in (ws:=ws) (a:=a') (by rw[o5];simp)
   rw[o5] at hn⊢
   rw[if_pos (by decide)]
   have k1:=r_skip_no hm ha' (w:=[61]) (by rw[o5];decide) lv (decide (20<d))
   have k2:=r_skip_no hm ha' (w:=[60,62]) (by rw[o5];decide) lv (decide (20<d))
   have k3:=r_skip_no hm ha' (w:=[60]) (by rw[o5];decide) lv (decide (20<d))
   have k4:=r_skip_no hm ha' (w:=[60,61]) (by rw[o5];decide) lv (decide (20<d))
   have k5:=r_skip_yes hm o5 (by simp) lv (decide (20<d))
   have hs2:=r_side ws hm hx (a'+1) hin lv (decide (20<d))
   cases ht2:termW litR (ws.drop (a'+1)) with
   |none=>
    rw[ht2] at hs2
    obtain⟨b',hle2,hb',hs2⟩:=hs2
    refine⟨.test [62] x t0,b',decide (20<d),by omega,hb',Nat.le_add_left _ _,?_⟩
    show SC _ _ _ _ (.val (.agg (ndc 4 [] x t0 [62] false))) _
    refine gwS Tryz.func322 rfl ?_
    conv=>whnf
    refine callB (q:=0) n1 rfl (wR _) rfl rfl rdC rdC (fun _=>rfl) (.b _) ?_
    conv=>whnf
    refine callB (q:=0) n2 rfl (wR _) rfl rfl rdC rdC (fun _=>rfl) (.b _) ?_
    conv=>whnf
    refine callB (q:=0) n3 rfl (wR _) rfl rfl rdC rdC (fun _=>rfl) (.b _) ?_
    conv=>whnf
    refine callB (q:=0) hs rfl (wR _) rfl rfl rdC rdC (fun _=>rfl) (fun _=>rfl) ?_
    conv=>whnf
    refine callB (q:=0) hn rfl (wR _) rfl rfl rdC rdC (fun _=>rfl) (.s _) ?_
    conv=>whnf
    refine⟨_,⟨rfl,zL _,rfl,bL rfl⟩,?_⟩
    conv=>whnf
    refine callB (q:=0) k1 rfl (wR _) rfl rfl rdC rdC (fun _=>rfl) (.b _) ?_
    conv=>whnf
    refine callB (q:=0) k2 rfl (wR _) rfl rfl rdC rdC (fun _=>rfl) (.b _) ?_
    conv=>whnf
    refine callB (q:=0) k3 rfl (wR _) rfl rfl rdC rdC (fun _=>rfl) (.b _) ?_
    conv=>whnf
    refine callB (q:=0) k4 rfl (wR _) rfl rfl rdC rdC (fun _=>rfl) (.b _) ?_
    conv=>whnf
    refine callB (q:=0) k5 rfl (wR _) rfl rfl rdC rdC (fun _=>rfl) (.b _) ?_
    conv=>whnf
    refine callB (q:=0) hs2 rfl (wR _) rfl rfl rdC rdC (fun _=>rfl) (fun _=>rfl) ?_
    conv=>whnf
    refine⟨_,⟨rfl,zL _,rfl,bL rfl⟩,?_⟩
    conv=>whnf
    refine⟨_,⟨rfl,zL _,rfl,bL rfl⟩,?_⟩
    conv=>whnf
    exact owesB rfl wk_node rdC (Cl.agg (ndc_cl ClL.nil x t0 [62] false))
   |some p=>
    obtain⟨y,r⟩:=p
    rw[ht2] at hs2
    obtain⟨b',hle2,hb',rfl,hs2⟩:=hs2
    refine⟨b',by omega,hb',rfl,by simp only[Tree.size];omega,?_⟩
    show SC _ _ _ _ (.val (.agg (ndc 4 [] x y [62] false))) _
    refine gwS Tryz.func322 rfl ?_
    conv=>whnf
    refine callB (q:=0) n1 rfl (wR _) rfl rfl rdC rdC (fun _=>rfl) (.b _) ?_
    conv=>whnf
    refine callB (q:=0) n2 rfl (wR _) rfl rfl rdC rdC (fun _=>rfl) (.b _) ?_
    conv=>whnf
    refine callB (q:=0) n3 rfl (wR _) rfl rfl rdC rdC (fun _=>rfl) (.b _) ?_
    conv=>whnf
    refine callB (q:=0) hs rfl (wR _) rfl rfl rdC rdC (fun _=>rfl) (fun _=>rfl) ?_
    conv=>whnf
    refine callB (q:=0) hn rfl (wR _) rfl rfl rdC rdC (fun _=>rfl) (.s _) ?_
    conv=>whnf
    refine⟨_,⟨rfl,zL _,rfl,bL rfl⟩,?_⟩
    conv=>whnf
    refine callB (q:=0) k1 rfl (wR _) rfl rfl rdC rdC (fun _=>rfl) (.b _) ?_
    conv=>whnf
    refine callB (q:=0) k2 rfl (wR _) rfl rfl rdC rdC (fun _=>rfl) (.b _) ?_
    conv=>whnf
    refine callB (q:=0) k3 rfl (wR _) rfl rfl rdC rdC (fun _=>rfl) (.b _) ?_
    conv=>whnf
    refine callB (q:=0) k4 rfl (wR _) rfl rfl rdC rdC (fun _=>rfl) (.b _) ?_
    conv=>whnf
    refine callB (q:=0) k5 rfl (wR _) rfl rfl rdC rdC (fun _=>rfl) (.b _) ?_
    conv=>whnf
    refine callB (q:=0) hs2 rfl (wR _) rfl rfl rdC rdC (fun _=>rfl) (fun _=>rfl) ?_
    conv=>whnf
    refine⟨_,⟨rfl,zL _,rfl,bL rfl⟩,?_⟩
    conv=>whnf
    refine⟨_,⟨rfl,zL _,rfl,bL rfl⟩,?_⟩
    conv=>whnf
    exact owesB rfl wk_node rdC (Cl.agg (ndc_cl ClL.nil x y [62] false))
  by_cases o6:wat ws a'=[62,61]
  ·have hin:=wat_in (ws:=ws) (a:=a') (by rw[o6];simp)
   rw[o6] at hn⊢
   rw[if_pos (by decide)]
   have k1:=r_skip_no hm ha' (w:=[61]) (by rw[o6];decide) lv (decide (20<d))
   have k2:=r_skip_no hm ha' (w:=[60,62]) (by rw[o6];decide) lv (decide (20<d))
   have k3:=r_skip_no hm ha' (w:=[60]) (by rw[o6];decide) lv (decide (20<d))
   have k4:=r_skip_no hm ha' (w:=[60,61]) (by rw[o6];decide) lv (decide (20<d))
   have k5:=r_skip_no hm ha' (w:=[62]) (by rw[o6];decide) lv (decide (20<d))
   have k6:=r_skip_yes hm o6 (by simp) lv (decide (20<d))
   have hs2:=r_side ws hm hx (a'+1) hin lv (decide (20<d))
   cases ht2:termW litR (ws.drop (a'+1)) with
   |none=>
    rw[ht2] at hs2
    obtain⟨b',hle2,hb',hs2⟩:=hs2
    refine⟨.test [62,61] x t0,b',decide (20<d),by omega,hb',Nat.le_add_left _ _,?_⟩
    show SC _ _ _ _ (.val (.agg (ndc 4 [] x t0 [62,61] false))) _
    refine gwS Tryz.func322 rfl ?_
    conv=>whnf
    refine callB (q:=0) n1 rfl (wR _) rfl rfl rdC rdC (fun _=>rfl) (.b _) ?_
    conv=>whnf
    refine callB (q:=0) n2 rfl (wR _) rfl rfl rdC rdC (fun _=>rfl) (.b _) ?_
    conv=>whnf
    refine callB (q:=0) n3 rfl (wR _) rfl rfl rdC rdC (fun _=>rfl) (.b _) ?_
    conv=>whnf
    refine callB (q:=0) hs rfl (wR _) rfl rfl rdC rdC (fun _=>rfl) (fun _=>rfl) ?_
    conv=>whnf
    refine callB (q:=0) hn rfl (wR _) rfl rfl rdC rdC (fun _=>rfl) (.s _) ?_
    conv=>whnf
    refine⟨_,⟨rfl,zL _,rfl,bL rfl⟩,?_⟩
    conv=>whnf
    refine callB (q:=0) k1 rfl (wR _) rfl rfl rdC rdC (fun _=>rfl) (.b _) ?_
    conv=>whnf
    refine callB (q:=0) k2 rfl (wR _) rfl rfl rdC rdC (fun _=>rfl) (.b _) ?_
    conv=>whnf
    refine callB (q:=0) k3 rfl (wR _) rfl rfl rdC rdC (fun _=>rfl) (.b _) ?_
    conv=>whnf
    refine callB (q:=0) k4 rfl (wR _) rfl rfl rdC rdC (fun _=>rfl) (.b _) ?_
    conv=>whnf
    refine callB (q:=0) k5 rfl (wR _) rfl rfl rdC rdC (fun _=>rfl) (.b _) ?_
    conv=>whnf
    refine callB (q:=0) k6 rfl (wR _) rfl rfl rdC rdC (fun _=>rfl) (.b _) ?_
    conv=>whnf
    refine callB (q:=0) hs2 rfl (wR _) rfl rfl rdC rdC (fun _=>rfl) (fun _=>rfl) ?_
    conv=>whnf
    refine⟨_,⟨rfl,zL _,rfl,bL rfl⟩,?_⟩
    conv=>whnf
    refine⟨_,⟨rfl,zL _,rfl,bL rfl⟩,?_⟩
    conv=>whnf
    exact owesB rfl wk_node rdC (Cl.agg (ndc_cl ClL.nil x t0 [62,61] false))
   |some p=>
    obtain⟨y,r⟩:=p
    rw[ht2] at hs2
    obtain⟨b',hle2,hb',rfl,hs2⟩:=hs2
    refine⟨b',by omega,hb',rfl,by simp only[Tree.size];omega,?_⟩
    show SC _ _ _ _ (.val (.agg (ndc 4 [] x y [62,61] false))) _
    refine gwS Tryz.func322 rfl ?_
    conv=>whnf
    refine callB (q:=0) n1 rfl (wR _) rfl rfl rdC rdC (fun _=>rfl) (.b _) ?_
    conv=>whnf
    refine callB (q:=0) n2 rfl (wR _) rfl rfl rdC rdC (fun _=>rfl) (.b _) ?_
    conv=>whnf
    refine callB (q:=0) n3 rfl (wR _) rfl rfl rdC rdC (fun _=>rfl) (.b _) ?_
    conv=>whnf
    refine callB (q:=0) hs rfl (wR _) rfl rfl rdC rdC (fun _=>rfl) (fun _=>rfl) ?_
    conv=>whnf
    refine callB (q:=0) hn rfl (wR _) rfl rfl rdC rdC (fun _=>rfl) (.s _) ?_
    conv=>whnf
    refine⟨_,⟨rfl,zL _,rfl,bL rfl⟩,?_⟩
    conv=>whnf
    refine callB (q:=0) k1 rfl (wR _) rfl rfl rdC rdC (fun _=>rfl) (.b _) ?_
    conv=>whnf
    refine callB (q:=0) k2 rfl (wR _) rfl rfl rdC rdC (fun _=>rfl) (.b _) ?_
    conv=>whnf
    refine callB (q:=0) k3 rfl (wR _) rfl rfl rdC rdC (fun _=>rfl) (.b _) ?_
    conv=>whnf
    refine callB (q:=0) k4 rfl (wR _) rfl rfl rdC rdC (fun _=>rfl) (.b _) ?_
    conv=>whnf
    refine callB (q:=0) k5 rfl (wR _) rfl rfl rdC rdC (fun _=>rfl) (.b _) ?_
    conv=>whnf
    refine callB (q:=0) k6 rfl (wR _) rfl rfl rdC rdC (fun _=>rfl) (.b _) ?_
    conv=>whnf
    refine callB (q:=0) hs2 rfl (wR _) rfl rfl rdC rdC (fun _=>rfl) (fun _=>rfl) ?_
    conv=>whnf
    refine⟨_,⟨rfl,zL _,rfl,bL rfl⟩,?_⟩
    conv=>whnf
    refine⟨_,⟨rfl,zL _,rfl,bL rfl⟩,?_⟩
    conv=>whnf
    exact owesB rfl wk_node rdC (Cl.agg (ndc_cl ClL.nil x y [62,61] false))
  rw[if_neg (by
   intro h
   simp only[relop,rels,List.contains_eq_mem,decide_eq_true_eq,List.mem_cons,List.not_mem_nil,or_false] at h
   rcases h with h|h|h|h|h|h
   ·exact o1 h
   ·exact o2 h
   ·exact o3 h
   ·exact o4 h
   ·exact o5 h
   ·exact o6 h)]
  have k1:=r_skip_no hm ha' o1 lv (decide (20<d))
  have k2:=r_skip_no hm ha' o2 lv (decide (20<d))
  have k3:=r_skip_no hm ha' o3 lv (decide (20<d))
  have k4:=r_skip_no hm ha' o4 lv (decide (20<d))
  have k5:=r_skip_no hm ha' o5 lv (decide (20<d))
  have k6:=r_skip_no hm ha' o6 lv (decide (20<d))
  have hs2:=r_side_bad ws hm a' lv (decide (20<d))
  refine⟨.test (wat ws a') x t0,a',decide (20<d),hle,ha',Nat.le_add_left _ _,?_⟩
  show SC _ _ _ _ (.val (.agg (ndc 4 [] x t0 (wat ws a') false))) _
  clear o1 o2 o3 o4 o5 o6
  generalize wat ws a'=op at*
  refine gwS Tryz.func322 rfl ?_
  conv=>whnf
  refine callB (q:=0) n1 rfl (wR _) rfl rfl rdC rdC (fun _=>rfl) (.b _) ?_
  conv=>whnf
  refine callB (q:=0) n2 rfl (wR _) rfl rfl rdC rdC (fun _=>rfl) (.b _) ?_
  conv=>whnf
  refine callB (q:=0) n3 rfl (wR _) rfl rfl rdC rdC (fun _=>rfl) (.b _) ?_
  conv=>whnf
  refine callB (q:=0) hs rfl (wR _) rfl rfl rdC rdC (fun _=>rfl) (fun _=>rfl) ?_
  conv=>whnf
  refine callB (q:=0) hn rfl (wR _) rfl rfl rdC rdC (fun _=>rfl) (.s _) ?_
  conv=>whnf
  refine⟨_,⟨rfl,zL _,rfl,bL rfl⟩,?_⟩
  conv=>whnf
  refine callB (q:=0) k1 rfl (wR _) rfl rfl rdC rdC (fun _=>rfl) (.b _) ?_
  conv=>whnf
  refine callB (q:=0) k2 rfl (wR _) rfl rfl rdC rdC (fun _=>rfl) (.b _) ?_
  conv=>whnf
  refine callB (q:=0) k3 rfl (wR _) rfl rfl rdC rdC (fun _=>rfl) (.b _) ?_
  conv=>whnf
  refine callB (q:=0) k4 rfl (wR _) rfl rfl rdC rdC (fun _=>rfl) (.b _) ?_
  conv=>whnf
  refine callB (q:=0) k5 rfl (wR _) rfl rfl rdC rdC (fun _=>rfl) (.b _) ?_
  conv=>whnf
  refine callB (q:=0) k6 rfl (wR _) rfl rfl rdC rdC (fun _=>rfl) (.b _) ?_
  conv=>whnf
  refine⟨_,⟨rfl,zL _,rfl,bL rfl⟩,?_⟩
  conv=>whnf
  refine callB (q:=0) hs2 rfl (wR _) rfl rfl rdC rdC (fun _=>rfl) (fun _=>rfl) ?_
  conv=>whnf
  refine⟨_,⟨rfl,zL _,rfl,bL rfl⟩,?_⟩
  conv=>whnf
  refine⟨_,⟨rfl,zL _,rfl,bL rfl⟩,?_⟩
  conv=>whnf
  exact owesB rfl wk_node rdC (Cl.agg (ndc_cl ClL.nil x t0 op false))
end Go.Proofs.YtcfgfkkhpdlhpaaGreatDoor
