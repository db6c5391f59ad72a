/-
  A part of the proof of SchemaFinds.
-/
import Derived.Test.YtcfgfkkhpdlhpaaGreatDoorT38
set_option linter.all false
set_option maxRecDepth 100000
namespace Go.Proofs.YtcfgfkkhpdlhpaaGreatDoor
open Go.RowKit
theorem iZ [MaxL] {ws:List By} (hw:ws.length<bH) {a:Nat} {w:By} (h:l7 ws a=w) (hne:w≠[]) (dp:Int) (gG:Bool):
  SC Tryz.prog 268 [.ptr 0 0,.s w] [qH ws a dp false gG] (.val (.b true)) [qH ws (a+1:Nat) dp false gG]:=by
 have ha:=kL (ws:=ws) (a:=a) (by rw[h];exact hne);have:=P3 ws hw a (by omega) dp false gG w;have e:zP ws a false w=true:=by unfold zP;rw[h];simp
 rw[e] at this;exact this
theorem dL [MaxL] {ws:List By} (hw:ws.length<bH) {a:Nat} (ha:a<=ws.length) {w:By} (h:l7 ws a≠w) (dp:Int) (gG:Bool):
  SC Tryz.prog 268 [.ptr 0 0,.s w] [qH ws a dp false gG] (.val (.b false)) [qH ws a dp false gG]:=by
 have:=P3 ws hw a ha dp false gG w;have e:zP ws a false w=false:=by unfold zP;simp[h]
 rw[e] at this;exact this
theorem lT [MaxL] {ws:List By} (hw:ws.length<bH) {a:Nat} (ha:a<=ws.length) (w:By) (dp:Int) (gG:Bool):
  SC Tryz.prog 268 [.ptr 0 0,.s w] [qH ws a dp true gG] (.val (.b false)) [qH ws a dp true gG]:=by
 have:=P3 ws hw a ha dp true gG w;have e:zP ws a true w=false:=rfl;rw[e] at this;exact this
def Rr [MaxL] (k:FuncId) (ws:List By) (a lv d:Nat) (o:Option (Tree×List By×Nat)):Prop:=match o with
 |some (t,r,e)=>∃a',a<=a'/\a'<=ws.length/\r=ws.drop a'/\t.size<=a' - a/\SC Tryz.prog k [.ptr 0 0] [qH ws a lv false (decide (20<d))] (.val t.ng) [qH ws a' lv false (decide (20<e))]
 |none=>∃t a' l',a<=a'/\a'<=ws.length/\t.size<=a' - a+1/\SC Tryz.prog k [.ptr 0 0] [qH ws a lv false (decide (20<d))] (.val (Tree.ng t)) [qH ws a' lv true l']
theorem RW (d lv:Nat):(decide (20<d)||decide (20<lv+1))=decide (20<max d (lv+1)):=by
 rw[eZ];simp;omega
theorem iW (t:Tree):∃k kids A B op yes,t.ng=.agg (k9 k kids A B op yes):=by
 rcases FF true t with⟨e,_⟩|⟨k,kids,A,B,op,yes,e,_⟩
 ·exact⟨_,_,_,_,_,_,by show GV.agg t.ncs=_;rw[e]⟩
 ·exact⟨_,_,_,_,_,_,by show GV.agg t.ncs=_;rw[e]⟩
def JS (o:Option (Tree×List By×Nat)):Option (Tree×List By×Nat):=match o with
 |some (t,r,e)=>if r.headD []=[41] then some (t,r.tail,e) else none
 |none=>none
theorem qO (ws:List By) (a:Nat):(ws.drop a).tail=ws.drop (a+1):=by simp
theorem WF [MaxL] (ws:List By) (hw:ws.length<1000000) (a lv d:Nat) (hlv:lv<100000) (h:l7 ws a=[40]) (o:Option (Tree×List By×Nat))
  (hc:Rr 231 ws (a+1) (lv+1) (max d (lv+1)) o):Rr 322 ws a lv d (JS o):=by
 have hm:ws.length<bH:=by unfold bH;omega
 have ha:=kL (ws:=ws) (a:=a) (by rw[h];simp);have h1:=iZ hm h (by simp) lv (decide (20<d));have h2:=a2a ws (a+1) lv (by omega) false (decide (20<d));rw[RW] at h2;have hdec:IntKind.i64.wrap (((lv+1:Nat):Int) - 1)=((lv:Nat):Int):=by rw[cD (by omega) (by omega)];omega
 cases o with
 |none=>
  obtain⟨t,a',l',b1,b2,b3,hc⟩:=hc;have h3:=lT hm b2 [41] lv l';refine⟨t,a',l',by omega,b2,by omega,?_⟩;have hcl:=t.ng_cl;obtain⟨k,kids,A,B,op,yes,hng⟩:=iW t;rw[hng] at hc hcl⊢;refine cZ Tryz.func322 rfl ?_;conv=>whnf
  refine aW (q:=0) h1 rfl (wR _) rfl rfl bO bO (fun _=>rfl) (.b _) ?_;conv=>whnf
  refine aW (q:=0) h2 rfl (wR _) rfl rfl bO bO (fun _=>rfl) (fJ .nil) ?_;conv=>whnf
  refine aW (q:=0) hc rfl (wR _) rfl rfl bO bO (fun _=>rfl) hcl ?_;conv=>whnf
  refine⟨_,⟨rfl,zL _,rfl,bL rfl⟩,?_⟩;conv=>whnf
  refine⟨[.i .i64 (lv:Nat)],⟨(by rw[hdec];rfl),rL _,rfl,bL rfl⟩,?_⟩;conv=>whnf
  refine aW (q:=0) h3 rfl (wR _) rfl rfl bO bO (fun _=>rfl) (.b _) ?_;conv=>whnf
  refine⟨_,⟨rfl,zL _,rfl,bL rfl⟩,?_⟩;conv=>whnf
  refine⟨_,⟨rfl,zL _,rfl,bL rfl⟩,?_⟩;conv=>whnf
  exact gC rfl (.refl _) (dP ws a' lv true l') hcl
 |some p=>
  obtain⟨t,r,e⟩:=p;obtain⟨a',b1,b2,rfl,b3,hc⟩:=hc;by_cases h4:l7 ws a'=[41]
  ·have ha':=kL (ws:=ws) (a:=a') (by rw[h4];simp);have h3:=iZ hm h4 (by simp) lv (decide (20<e));have hp:JS (some (t,ws.drop a',e))=some (t,ws.drop (a'+1),e):=by
    show(if(ws.drop a').headD []=[41] then some (t,(ws.drop a').tail,e) else none)=_;rw[aG (show(ws.drop a').headD []=[41] from h4),qO]
   rw[hp];refine⟨a'+1,by omega,ha',rfl,by omega,?_⟩;have hcl:=t.ng_cl;obtain⟨k,kids,A,B,op,yes,hng⟩:=iW t;rw[hng] at hc hcl⊢;refine cZ Tryz.func322 rfl ?_;(conv=>whnf);refine aW (q:=0) h1 rfl (wR _) rfl rfl bO bO (fun _=>rfl) (.b _) ?_;(conv=>whnf);refine aW (q:=0) h2 rfl (wR _) rfl rfl bO bO (fun _=>rfl) (fJ .nil) ?_;(conv=>whnf);refine aW (q:=0) hc rfl (wR _) rfl rfl bO bO (fun _=>rfl) hcl ?_;(conv=>whnf);refine⟨_,⟨rfl,zL _,rfl,bL rfl⟩,?_⟩;(conv=>whnf);refine⟨[.i .i64 (lv:Nat)],⟨(by rw[hdec];rfl),rL _,rfl,bL rfl⟩,?_⟩;(conv=>whnf);refine aW (q:=0) h3 rfl (wR _) rfl rfl bO bO (fun _=>rfl) (.b _) ?_;(conv=>whnf);refine⟨_,⟨rfl,zL _,rfl,bL rfl⟩,?_⟩;(conv=>whnf);exact gC rfl (.refl _) (dP ws (a'+1:Nat) lv false (decide (20<e))) hcl
  ·have h3:=dL hm b2 h4 lv (decide (20<e));have hp:JS (some (t,ws.drop a',e))=none:=by
    show(if(ws.drop a').headD []=[41] then some (t,(ws.drop a').tail,e) else none)=_;rw[aE (show¬(ws.drop a').headD []=[41] from h4)]
   rw[hp];refine⟨t,a',decide (20<e),by omega,b2,by omega,?_⟩;have hcl:=t.ng_cl;obtain⟨k,kids,A,B,op,yes,hng⟩:=iW t;rw[hng] at hc hcl⊢;refine cZ Tryz.func322 rfl ?_;(conv=>whnf);refine aW (q:=0) h1 rfl (wR _) rfl rfl bO bO (fun _=>rfl) (.b _) ?_;(conv=>whnf);refine aW (q:=0) h2 rfl (wR _) rfl rfl bO bO (fun _=>rfl) (fJ .nil) ?_;(conv=>whnf);refine aW (q:=0) hc rfl (wR _) rfl rfl bO bO (fun _=>rfl) hcl ?_;(conv=>whnf);refine⟨_,⟨rfl,zL _,rfl,bL rfl⟩,?_⟩;(conv=>whnf);refine⟨[.i .i64 (lv:Nat)],⟨(by rw[hdec];rfl),rL _,rfl,bL rfl⟩,?_⟩;(conv=>whnf);refine aW (q:=0) h3 rfl (wR _) rfl rfl bO bO (fun _=>rfl) (.b _) ?_;(conv=>whnf);refine⟨_,⟨rfl,zL _,rfl,bL rfl⟩,?_⟩;(conv=>whnf);refine⟨_,⟨rfl,zL _,rfl,bL rfl⟩,?_⟩;(conv=>whnf);exact gC rfl (.refl _) (dP ws a' lv true (decide (20<e))) hcl
theorem WH [MaxL] (ws:List By) (hw:ws.length<1000000) (a lv d:Nat) (h:l7 ws a=l8):Rr 322 ws a lv d (some (.truth true,ws.drop (a+1),d)):=by
 have hm:ws.length<bH:=by unfold bH;omega
 have ha:=kL (ws:=ws) (a:=a) (by rw[h];decide);have n0:=dL hm (Nat.le_of_lt ha) (w:=([40])) (by rw[h];decide) lv (decide (20<d));have y:=iZ hm h (by decide) lv (decide (20<d));refine⟨a+1,by omega,ha,rfl,by simp only[Tree.size];omega,?_⟩;show SC _ _ _ _ (.val (.agg (k9 5 [] t0 t0 [] true))) _;refine cZ Tryz.func322 rfl ?_;conv=>whnf
 refine aW (q:=0) n0 rfl (wR _) rfl rfl bO bO (fun _=>rfl) (.b _) ?_;conv=>whnf
 refine aW (q:=0) y rfl (wR _) rfl rfl bO bO (fun _=>rfl) (.b _) ?_;conv=>whnf
 refine⟨_,⟨rfl,zL _,rfl,bL rfl⟩,?_⟩;conv=>whnf
 exact gC rfl iB (dP ws (a+1:Nat) lv false (decide (20<d))) (eO (jO dM t0 t0 [] true))
theorem WG [MaxL] (ws:List By) (hw:ws.length<1000000) (a lv d:Nat) (h:l7 ws a=jU):Rr 322 ws a lv d (some (.truth false,ws.drop (a+1),d)):=by
 have hm:ws.length<bH:=by unfold bH;omega
 have ha:=kL (ws:=ws) (a:=a) (by rw[h];decide);have n0:=dL hm (Nat.le_of_lt ha) (w:=([40])) (by rw[h];decide) lv (decide (20<d));have n1:=dL hm (Nat.le_of_lt ha) (w:=l8) (by rw[h];decide) lv (decide (20<d));have y:=iZ hm h (by decide) lv (decide (20<d));refine⟨a+1,by omega,ha,rfl,by simp only[Tree.size];omega,?_⟩;show SC _ _ _ _ (.val (.agg (k9 5 [] t0 t0 [] false))) _;refine cZ Tryz.func322 rfl ?_;conv=>whnf
 refine aW (q:=0) n0 rfl (wR _) rfl rfl bO bO (fun _=>rfl) (.b _) ?_;conv=>whnf
 refine aW (q:=0) n1 rfl (wR _) rfl rfl bO bO (fun _=>rfl) (.b _) ?_;conv=>whnf
 refine aW (q:=0) y rfl (wR _) rfl rfl bO bO (fun _=>rfl) (.b _) ?_;conv=>whnf
 refine⟨_,⟨rfl,zL _,rfl,bL rfl⟩,?_⟩;conv=>whnf
 exact gC rfl iB (dP ws (a+1:Nat) lv false (decide (20<d))) (eO (jO dM t0 t0 [] false))
set_option maxHeartbeats 2000000 in
theorem WE [MaxL] (ws:List By) (hw:ws.length<1000000) (hx:∀w∈ws,w.length<1000000) (a:Nat) (ha:a<=ws.length) (lv d:Nat) (h1:l7 ws a≠[40]) (h2:l7 ws a≠l8) (h3:l7 ws a≠jU):
  Rr 322 ws a lv d (match gB iJ (ws.drop a) with
   |some (x,r)=>if mU (r.headD []) then(match gB iJ r.tail with
     |some (y,r')=>some (.test (r.headD []) x y,r',d)
     |none=>none)
    else none
   |none=>none):=by
 have hm:ws.length<bH:=by unfold bH;omega
 have n1:=dL hm ha h1 lv (decide (20<d));have n2:=dL hm ha h2 lv (decide (20<d));have n3:=dL hm ha h3 lv (decide (20<d));have hs:=yU ws hm hx a ha lv (decide (20<d));cases ht:gB iJ (ws.drop a) with
 |none=>
  rw[ht] at hs;obtain⟨a',hle,ha',hs⟩:=hs;have hn:=I6 ws hm a' lv true (decide (20<d));have k1:=lT hm ha' [61] lv (decide (20<d));have k2:=lT hm ha' [60,62] lv (decide (20<d));have k3:=lT hm ha' [60] lv (decide (20<d));have k4:=lT hm ha' [60,61] lv (decide (20<d));have k5:=lT hm ha' [62] lv (decide (20<d));have k6:=lT hm ha' [62,61] lv (decide (20<d));have hs2:=F4 ws hm a' lv (decide (20<d));refine⟨.test (l7 ws a') t0 t0,a',decide (20<d),hle,ha',Nat.le_add_left _ _,?_⟩;show SC _ _ _ _ (.val (.agg (k9 4 [] t0 t0 (l7 ws a') false))) _;generalize l7 ws a'=op at*;refine cZ Tryz.func322 rfl ?_;conv=>whnf
  refine aW (q:=0) n1 rfl (wR _) rfl rfl bO bO (fun _=>rfl) (.b _) ?_;conv=>whnf
  refine aW (q:=0) n2 rfl (wR _) rfl rfl bO bO (fun _=>rfl) (.b _) ?_;conv=>whnf
  refine aW (q:=0) n3 rfl (wR _) rfl rfl bO bO (fun _=>rfl) (.b _) ?_;conv=>whnf
  refine aW (q:=0) hs rfl (wR _) rfl rfl bO bO (fun _=>rfl) (fun _=>rfl) ?_;conv=>whnf
  refine aW (q:=0) hn rfl (wR _) rfl rfl bO bO (fun _=>rfl) (.s _) ?_;conv=>whnf
  refine⟨_,⟨rfl,zL _,rfl,bL rfl⟩,?_⟩;conv=>whnf
  refine aW (q:=0) k1 rfl (wR _) rfl rfl bO bO (fun _=>rfl) (.b _) ?_;conv=>whnf
  refine aW (q:=0) k2 rfl (wR _) rfl rfl bO bO (fun _=>rfl) (.b _) ?_;conv=>whnf
  refine aW (q:=0) k3 rfl (wR _) rfl rfl bO bO (fun _=>rfl) (.b _) ?_;conv=>whnf
  refine aW (q:=0) k4 rfl (wR _) rfl rfl bO bO (fun _=>rfl) (.b _) ?_;conv=>whnf
  refine aW (q:=0) k5 rfl (wR _) rfl rfl bO bO (fun _=>rfl) (.b _) ?_;conv=>whnf
  refine aW (q:=0) k6 rfl (wR _) rfl rfl bO bO (fun _=>rfl) (.b _) ?_;conv=>whnf
  refine⟨_,⟨rfl,zL _,rfl,bL rfl⟩,?_⟩;conv=>whnf
  refine aW (q:=0) hs2 rfl (wR _) rfl rfl bO bO (fun _=>rfl) (fun _=>rfl) ?_;conv=>whnf
  refine⟨_,⟨rfl,zL _,rfl,bL rfl⟩,?_⟩;conv=>whnf
  refine⟨_,⟨rfl,zL _,rfl,bL rfl⟩,?_⟩;conv=>whnf
  exact gC rfl iB bO (eO (jO dM t0 t0 op false))
 |some p=>
  obtain⟨x,r⟩:=p;rw[ht] at hs;obtain⟨a',hle,ha',rfl,hs⟩:=hs;have hlt:a<a':=by
   have:=pZ ht;simp only[dW] at this;omega
  have hn:=I6 ws hm a' lv false (decide (20<d));simp only;rw[show(ws.drop a').headD []=l7 ws a' from rfl,qO];by_cases o1:l7 ws a'=[61]
  ·have hin:=kL (ws:=ws) (a:=a') (by rw[o1];simp);rw[o1] at hn⊢;rw[aG (by decide)];have k1:=iZ hm o1 (by simp) lv (decide (20<d));have hs2:=yU ws hm hx (a'+1) hin lv (decide (20<d));cases ht2:gB iJ (ws.drop (a'+1)) with
   |none=>
    rw[ht2] at hs2;obtain⟨b',hle2,hb',hs2⟩:=hs2;refine⟨.test [61] x t0,b',decide (20<d),by omega,hb',Nat.le_add_left _ _,?_⟩;show SC _ _ _ _ (.val (.agg (k9 4 [] x t0 [61] false))) _;refine cZ Tryz.func322 rfl ?_;(conv=>whnf);refine aW (q:=0) n1 rfl (wR _) rfl rfl bO bO (fun _=>rfl) (.b _) ?_;(conv=>whnf);refine aW (q:=0) n2 rfl (wR _) rfl rfl bO bO (fun _=>rfl) (.b _) ?_;(conv=>whnf);refine aW (q:=0) n3 rfl (wR _) rfl rfl bO bO (fun _=>rfl) (.b _) ?_;(conv=>whnf);refine aW (q:=0) hs rfl (wR _) rfl rfl bO bO (fun _=>rfl) (fun _=>rfl) ?_;(conv=>whnf);refine aW (q:=0) hn rfl (wR _) rfl rfl bO bO (fun _=>rfl) (.s _) ?_;(conv=>whnf);refine⟨_,⟨rfl,zL _,rfl,bL rfl⟩,?_⟩;(conv=>whnf);refine aW (q:=0) k1 rfl (wR _) rfl rfl bO bO (fun _=>rfl) (.b _) ?_;(conv=>whnf);refine aW (q:=0) hs2 rfl (wR _) rfl rfl bO bO (fun _=>rfl) (fun _=>rfl) ?_;(conv=>whnf);refine⟨_,⟨rfl,zL _,rfl,bL rfl⟩,?_⟩;(conv=>whnf);refine⟨_,⟨rfl,zL _,rfl,bL rfl⟩,?_⟩;(conv=>whnf);exact gC rfl iB bO (eO (jO dM x t0 [61] false))
   |some p=>
    obtain⟨y,r⟩:=p;rw[ht2] at hs2;obtain⟨b',hle2,hb',rfl,hs2⟩:=hs2;refine⟨b',by omega,hb',rfl,by simp only[Tree.size];omega,?_⟩;show SC _ _ _ _ (.val (.agg (k9 4 [] x y [61] false))) _;refine cZ Tryz.func322 rfl ?_;(conv=>whnf);refine aW (q:=0) n1 rfl (wR _) rfl rfl bO bO (fun _=>rfl) (.b _) ?_;(conv=>whnf);refine aW (q:=0) n2 rfl (wR _) rfl rfl bO bO (fun _=>rfl) (.b _) ?_;(conv=>whnf);refine aW (q:=0) n3 rfl (wR _) rfl rfl bO bO (fun _=>rfl) (.b _) ?_;(conv=>whnf);refine aW (q:=0) hs rfl (wR _) rfl rfl bO bO (fun _=>rfl) (fun _=>rfl) ?_;(conv=>whnf);refine aW (q:=0) hn rfl (wR _) rfl rfl bO bO (fun _=>rfl) (.s _) ?_;(conv=>whnf);refine⟨_,⟨rfl,zL _,rfl,bL rfl⟩,?_⟩;(conv=>whnf);refine aW (q:=0) k1 rfl (wR _) rfl rfl bO bO (fun _=>rfl) (.b _) ?_;(conv=>whnf);refine aW (q:=0) hs2 rfl (wR _) rfl rfl bO bO (fun _=>rfl) (fun _=>rfl) ?_;(conv=>whnf);refine⟨_,⟨rfl,zL _,rfl,bL rfl⟩,?_⟩;(conv=>whnf);refine⟨_,⟨rfl,zL _,rfl,bL rfl⟩,?_⟩;(conv=>whnf);exact gC rfl iB bO (eO (jO dM x y [61] false))
  by_cases o2:l7 ws a'=[60,62]
  ·have hin:=kL (ws:=ws) (a:=a') (by rw[o2];simp);rw[o2] at hn⊢;rw[aG (by decide)];have k1:=dL hm ha' (w:=[61]) (by rw[o2];decide) lv (decide (20<d));have k2:=iZ hm o2 (by simp) lv (decide (20<d));have hs2:=yU ws hm hx (a'+1) hin lv (decide (20<d));cases ht2:gB iJ (ws.drop (a'+1)) with
   |none=>
    rw[ht2] at hs2;obtain⟨b',hle2,hb',hs2⟩:=hs2;refine⟨.test [60,62] x t0,b',decide (20<d),by omega,hb',Nat.le_add_left _ _,?_⟩;show SC _ _ _ _ (.val (.agg (k9 4 [] x t0 [60,62] false))) _;refine cZ Tryz.func322 rfl ?_;(conv=>whnf);refine aW (q:=0) n1 rfl (wR _) rfl rfl bO bO (fun _=>rfl) (.b _) ?_;(conv=>whnf);refine aW (q:=0) n2 rfl (wR _) rfl rfl bO bO (fun _=>rfl) (.b _) ?_;(conv=>whnf);refine aW (q:=0) n3 rfl (wR _) rfl rfl bO bO (fun _=>rfl) (.b _) ?_;(conv=>whnf);refine aW (q:=0) hs rfl (wR _) rfl rfl bO bO (fun _=>rfl) (fun _=>rfl) ?_;(conv=>whnf);refine aW (q:=0) hn rfl (wR _) rfl rfl bO bO (fun _=>rfl) (.s _) ?_;(conv=>whnf);refine⟨_,⟨rfl,zL _,rfl,bL rfl⟩,?_⟩;(conv=>whnf);refine aW (q:=0) k1 rfl (wR _) rfl rfl bO bO (fun _=>rfl) (.b _) ?_;(conv=>whnf);refine aW (q:=0) k2 rfl (wR _) rfl rfl bO bO (fun _=>rfl) (.b _) ?_;(conv=>whnf);refine aW (q:=0) hs2 rfl (wR _) rfl rfl bO bO (fun _=>rfl) (fun _=>rfl) ?_;(conv=>whnf);refine⟨_,⟨rfl,zL _,rfl,bL rfl⟩,?_⟩;(conv=>whnf);refine⟨_,⟨rfl,zL _,rfl,bL rfl⟩,?_⟩;(conv=>whnf);exact gC rfl iB bO (eO (jO dM x t0 [60,62] false))
   |some p=>
    obtain⟨y,r⟩:=p;rw[ht2] at hs2;obtain⟨b',hle2,hb',rfl,hs2⟩:=hs2;refine⟨b',by omega,hb',rfl,by simp only[Tree.size];omega,?_⟩;show SC _ _ _ _ (.val (.agg (k9 4 [] x y [60,62] false))) _;refine cZ Tryz.func322 rfl ?_;(conv=>whnf);refine aW (q:=0) n1 rfl (wR _) rfl rfl bO bO (fun _=>rfl) (.b _) ?_;(conv=>whnf);refine aW (q:=0) n2 rfl (wR _) rfl rfl bO bO (fun _=>rfl) (.b _) ?_;(conv=>whnf);refine aW (q:=0) n3 rfl (wR _) rfl rfl bO bO (fun _=>rfl) (.b _) ?_;(conv=>whnf);refine aW (q:=0) hs rfl (wR _) rfl rfl bO bO (fun _=>rfl) (fun _=>rfl) ?_;(conv=>whnf);refine aW (q:=0) hn rfl (wR _) rfl rfl bO bO (fun _=>rfl) (.s _) ?_;(conv=>whnf);refine⟨_,⟨rfl,zL _,rfl,bL rfl⟩,?_⟩;(conv=>whnf);refine aW (q:=0) k1 rfl (wR _) rfl rfl bO bO (fun _=>rfl) (.b _) ?_;(conv=>whnf);refine aW (q:=0) k2 rfl (wR _) rfl rfl bO bO (fun _=>rfl) (.b _) ?_;(conv=>whnf);refine aW (q:=0) hs2 rfl (wR _) rfl rfl bO bO (fun _=>rfl) (fun _=>rfl) ?_;(conv=>whnf);refine⟨_,⟨rfl,zL _,rfl,bL rfl⟩,?_⟩;(conv=>whnf);refine⟨_,⟨rfl,zL _,rfl,bL rfl⟩,?_⟩;(conv=>whnf);exact gC rfl iB bO (eO (jO dM x y [60,62] false))
  by_cases o3:l7 ws a'=[60]
  ·have hin:=kL (ws:=ws) (a:=a') (by rw[o3];simp);rw[o3] at hn⊢;rw[aG (by decide)];have k1:=dL hm ha' (w:=[61]) (by rw[o3];decide) lv (decide (20<d));have k2:=dL hm ha' (w:=[60,62]) (by rw[o3];decide) lv (decide (20<d));have k3:=iZ hm o3 (by simp) lv (decide (20<d));have hs2:=yU ws hm hx (a'+1) hin lv (decide (20<d));cases ht2:gB iJ (ws.drop (a'+1)) with
   |none=>
    rw[ht2] at hs2;obtain⟨b',hle2,hb',hs2⟩:=hs2;refine⟨.test [60] x t0,b',decide (20<d),by omega,hb',Nat.le_add_left _ _,?_⟩;show SC _ _ _ _ (.val (.agg (k9 4 [] x t0 [60] false))) _;refine cZ Tryz.func322 rfl ?_;(conv=>whnf);refine aW (q:=0) n1 rfl (wR _) rfl rfl bO bO (fun _=>rfl) (.b _) ?_;(conv=>whnf);refine aW (q:=0) n2 rfl (wR _) rfl rfl bO bO (fun _=>rfl) (.b _) ?_;(conv=>whnf);refine aW (q:=0) n3 rfl (wR _) rfl rfl bO bO (fun _=>rfl) (.b _) ?_;(conv=>whnf);refine aW (q:=0) hs rfl (wR _) rfl rfl bO bO (fun _=>rfl) (fun _=>rfl) ?_;(conv=>whnf);refine aW (q:=0) hn rfl (wR _) rfl rfl bO bO (fun _=>rfl) (.s _) ?_;(conv=>whnf);refine⟨_,⟨rfl,zL _,rfl,bL rfl⟩,?_⟩;(conv=>whnf);refine aW (q:=0) k1 rfl (wR _) rfl rfl bO bO (fun _=>rfl) (.b _) ?_;(conv=>whnf);refine aW (q:=0) k2 rfl (wR _) rfl rfl bO bO (fun _=>rfl) (.b _) ?_;(conv=>whnf);refine aW (q:=0) k3 rfl (wR _) rfl rfl bO bO (fun _=>rfl) (.b _) ?_;(conv=>whnf);refine aW (q:=0) hs2 rfl (wR _) rfl rfl bO bO (fun _=>rfl) (fun _=>rfl) ?_;(conv=>whnf);refine⟨_,⟨rfl,zL _,rfl,bL rfl⟩,?_⟩;(conv=>whnf);refine⟨_,⟨rfl,zL _,rfl,bL rfl⟩,?_⟩;(conv=>whnf);exact gC rfl iB bO (eO (jO dM x t0 [60] false))
   |some p=>
    obtain⟨y,r⟩:=p;rw[ht2] at hs2;obtain⟨b',hle2,hb',rfl,hs2⟩:=hs2;refine⟨b',by omega,hb',rfl,by simp only[Tree.size];omega,?_⟩;show SC _ _ _ _ (.val (.agg (k9 4 [] x y [60] false))) _;refine cZ Tryz.func322 rfl ?_;(conv=>whnf);refine aW (q:=0) n1 rfl (wR _) rfl rfl bO bO (fun _=>rfl) (.b _) ?_;(conv=>whnf);refine aW (q:=0) n2 rfl (wR _) rfl rfl bO bO (fun _=>rfl) (.b _) ?_;(conv=>whnf);refine aW (q:=0) n3 rfl (wR _) rfl rfl bO bO (fun _=>rfl) (.b _) ?_;(conv=>whnf);refine aW (q:=0) hs rfl (wR _) rfl rfl bO bO (fun _=>rfl) (fun _=>rfl) ?_;(conv=>whnf);refine aW (q:=0) hn rfl (wR _) rfl rfl bO bO (fun _=>rfl) (.s _) ?_;(conv=>whnf);refine⟨_,⟨rfl,zL _,rfl,bL rfl⟩,?_⟩;(conv=>whnf);refine aW (q:=0) k1 rfl (wR _) rfl rfl bO bO (fun _=>rfl) (.b _) ?_;(conv=>whnf);refine aW (q:=0) k2 rfl (wR _) rfl rfl bO bO (fun _=>rfl) (.b _) ?_;(conv=>whnf);refine aW (q:=0) k3 rfl (wR _) rfl rfl bO bO (fun _=>rfl) (.b _) ?_;(conv=>whnf);refine aW (q:=0) hs2 rfl (wR _) rfl rfl bO bO (fun _=>rfl) (fun _=>rfl) ?_;(conv=>whnf);refine⟨_,⟨rfl,zL _,rfl,bL rfl⟩,?_⟩;(conv=>whnf);refine⟨_,⟨rfl,zL _,rfl,bL rfl⟩,?_⟩;(conv=>whnf);exact gC rfl iB bO (eO (jO dM x y [60] false))
  by_cases o4:l7 ws a'=[60,61]
  ·have hin:=kL (ws:=ws) (a:=a') (by rw[o4];simp);rw[o4] at hn⊢;rw[aG (by decide)];have k1:=dL hm ha' (w:=[61]) (by rw[o4];decide) lv (decide (20<d));have k2:=dL hm ha' (w:=[60,62]) (by rw[o4];decide) lv (decide (20<d));have k3:=dL hm ha' (w:=[60]) (by rw[o4];decide) lv (decide (20<d));have k4:=iZ hm o4 (by simp) lv (decide (20<d));have hs2:=yU ws hm hx (a'+1) hin lv (decide (20<d));cases ht2:gB iJ (ws.drop (a'+1)) with
   |none=>
    rw[ht2] at hs2;obtain⟨b',hle2,hb',hs2⟩:=hs2;refine⟨.test [60,61] x t0,b',decide (20<d),by omega,hb',Nat.le_add_left _ _,?_⟩;show SC _ _ _ _ (.val (.agg (k9 4 [] x t0 [60,61] false))) _;refine cZ Tryz.func322 rfl ?_;(conv=>whnf);refine aW (q:=0) n1 rfl (wR _) rfl rfl bO bO (fun _=>rfl) (.b _) ?_;(conv=>whnf);refine aW (q:=0) n2 rfl (wR _) rfl rfl bO bO (fun _=>rfl) (.b _) ?_;(conv=>whnf);refine aW (q:=0) n3 rfl (wR _) rfl rfl bO bO (fun _=>rfl) (.b _) ?_;(conv=>whnf);refine aW (q:=0) hs rfl (wR _) rfl rfl bO bO (fun _=>rfl) (fun _=>rfl) ?_;(conv=>whnf);refine aW (q:=0) hn rfl (wR _) rfl rfl bO bO (fun _=>rfl) (.s _) ?_;(conv=>whnf);refine⟨_,⟨rfl,zL _,rfl,bL rfl⟩,?_⟩;(conv=>whnf);refine aW (q:=0) k1 rfl (wR _) rfl rfl bO bO (fun _=>rfl) (.b _) ?_;(conv=>whnf);refine aW (q:=0) k2 rfl (wR _) rfl rfl bO bO (fun _=>rfl) (.b _) ?_;(conv=>whnf);refine aW (q:=0) k3 rfl (wR _) rfl rfl bO bO (fun _=>rfl) (.b _) ?_;(conv=>whnf);refine aW (q:=0) k4 rfl (wR _) rfl rfl bO bO (fun _=>rfl) (.b _) ?_;(conv=>whnf);refine aW (q:=0) hs2 rfl (wR _) rfl rfl bO bO (fun _=>rfl) (fun _=>rfl) ?_;(conv=>whnf);refine⟨_,⟨rfl,zL _,rfl,bL rfl⟩,?_⟩;(conv=>whnf);refine⟨_,⟨rfl,zL _,rfl,bL rfl⟩,?_⟩;(conv=>whnf);exact gC rfl iB bO (eO (jO dM x t0 [60,61] false))
   |some p=>
    obtain⟨y,r⟩:=p;rw[ht2] at hs2;obtain⟨b',hle2,hb',rfl,hs2⟩:=hs2;refine⟨b',by omega,hb',rfl,by simp only[Tree.size];omega,?_⟩;show SC _ _ _ _ (.val (.agg (k9 4 [] x y [60,61] false))) _;refine cZ Tryz.func322 rfl ?_;(conv=>whnf);refine aW (q:=0) n1 rfl (wR _) rfl rfl bO bO (fun _=>rfl) (.b _) ?_;(conv=>whnf);refine aW (q:=0) n2 rfl (wR _) rfl rfl bO bO (fun _=>rfl) (.b _) ?_;(conv=>whnf);refine aW (q:=0) n3 rfl (wR _) rfl rfl bO bO (fun _=>rfl) (.b _) ?_;(conv=>whnf);refine aW (q:=0) hs rfl (wR _) rfl rfl bO bO (fun _=>rfl) (fun _=>rfl) ?_;(conv=>whnf);refine aW (q:=0) hn rfl (wR _) rfl rfl bO bO (fun _=>rfl) (.s _) ?_;(conv=>whnf);refine⟨_,⟨rfl,zL _,rfl,bL rfl⟩,?_⟩;(conv=>whnf);refine aW (q:=0) k1 rfl (wR _) rfl rfl bO bO (fun _=>rfl) (.b _) ?_;(conv=>whnf);refine aW (q:=0) k2 rfl (wR _) rfl rfl bO bO (fun _=>rfl) (.b _) ?_;(conv=>whnf);refine aW (q:=0) k3 rfl (wR _) rfl rfl bO bO (fun _=>rfl) (.b _) ?_;(conv=>whnf);refine aW (q:=0) k4 rfl (wR _) rfl rfl bO bO (fun _=>rfl) (.b _) ?_;(conv=>whnf);refine aW (q:=0) hs2 rfl (wR _) rfl rfl bO bO (fun _=>rfl) (fun _=>rfl) ?_;(conv=>whnf);refine⟨_,⟨rfl,zL _,rfl,bL rfl⟩,?_⟩;(conv=>whnf);refine⟨_,⟨rfl,zL _,rfl,bL rfl⟩,?_⟩;(conv=>whnf);exact gC rfl iB bO (eO (jO dM x y [60,61] false))
  by_cases o5:l7 ws a'=[62]
  ·have hin:=kL (ws:=ws) (a:=a') (by rw[o5];simp);rw[o5] at hn⊢;rw[aG (by decide)];have k1:=dL hm ha' (w:=[61]) (by rw[o5];decide) lv (decide (20<d));have k2:=dL hm ha' (w:=[60,62]) (by rw[o5];decide) lv (decide (20<d));have k3:=dL hm ha' (w:=[60]) (by rw[o5];decide) lv (decide (20<d));have k4:=dL hm ha' (w:=[60,61]) (by rw[o5];decide) lv (decide (20<d));have k5:=iZ hm o5 (by simp) lv (decide (20<d));have hs2:=yU ws hm hx (a'+1) hin lv (decide (20<d));cases ht2:gB iJ (ws.drop (a'+1)) with
   |none=>
    rw[ht2] at hs2;obtain⟨b',hle2,hb',hs2⟩:=hs2;refine⟨.test [62] x t0,b',decide (20<d),by omega,hb',Nat.le_add_left _ _,?_⟩;show SC _ _ _ _ (.val (.agg (k9 4 [] x t0 [62] false))) _;refine cZ Tryz.func322 rfl ?_;(conv=>whnf);refine aW (q:=0) n1 rfl (wR _) rfl rfl bO bO (fun _=>rfl) (.b _) ?_;(conv=>whnf);refine aW (q:=0) n2 rfl (wR _) rfl rfl bO bO (fun _=>rfl) (.b _) ?_;(conv=>whnf);refine aW (q:=0) n3 rfl (wR _) rfl rfl bO bO (fun _=>rfl) (.b _) ?_;(conv=>whnf);refine aW (q:=0) hs rfl (wR _) rfl rfl bO bO (fun _=>rfl) (fun _=>rfl) ?_;(conv=>whnf);refine aW (q:=0) hn rfl (wR _) rfl rfl bO bO (fun _=>rfl) (.s _) ?_;(conv=>whnf);refine⟨_,⟨rfl,zL _,rfl,bL rfl⟩,?_⟩;(conv=>whnf);refine aW (q:=0) k1 rfl (wR _) rfl rfl bO bO (fun _=>rfl) (.b _) ?_;(conv=>whnf);refine aW (q:=0) k2 rfl (wR _) rfl rfl bO bO (fun _=>rfl) (.b _) ?_;(conv=>whnf);refine aW (q:=0) k3 rfl (wR _) rfl rfl bO bO (fun _=>rfl) (.b _) ?_;(conv=>whnf);refine aW (q:=0) k4 rfl (wR _) rfl rfl bO bO (fun _=>rfl) (.b _) ?_;(conv=>whnf);refine aW (q:=0) k5 rfl (wR _) rfl rfl bO bO (fun _=>rfl) (.b _) ?_;(conv=>whnf);refine aW (q:=0) hs2 rfl (wR _) rfl rfl bO bO (fun _=>rfl) (fun _=>rfl) ?_;(conv=>whnf);refine⟨_,⟨rfl,zL _,rfl,bL rfl⟩,?_⟩;(conv=>whnf);refine⟨_,⟨rfl,zL _,rfl,bL rfl⟩,?_⟩;(conv=>whnf);exact gC rfl iB bO (eO (jO dM x t0 [62] false))
   |some p=>
    obtain⟨y,r⟩:=p;rw[ht2] at hs2;obtain⟨b',hle2,hb',rfl,hs2⟩:=hs2;refine⟨b',by omega,hb',rfl,by simp only[Tree.size];omega,?_⟩;show SC _ _ _ _ (.val (.agg (k9 4 [] x y [62] false))) _;refine cZ Tryz.func322 rfl ?_;(conv=>whnf);refine aW (q:=0) n1 rfl (wR _) rfl rfl bO bO (fun _=>rfl) (.b _) ?_;(conv=>whnf);refine aW (q:=0) n2 rfl (wR _) rfl rfl bO bO (fun _=>rfl) (.b _) ?_;(conv=>whnf);refine aW (q:=0) n3 rfl (wR _) rfl rfl bO bO (fun _=>rfl) (.b _) ?_;(conv=>whnf);refine aW (q:=0) hs rfl (wR _) rfl rfl bO bO (fun _=>rfl) (fun _=>rfl) ?_;(conv=>whnf);refine aW (q:=0) hn rfl (wR _) rfl rfl bO bO (fun _=>rfl) (.s _) ?_;(conv=>whnf);refine⟨_,⟨rfl,zL _,rfl,bL rfl⟩,?_⟩;(conv=>whnf);refine aW (q:=0) k1 rfl (wR _) rfl rfl bO bO (fun _=>rfl) (.b _) ?_;(conv=>whnf);refine aW (q:=0) k2 rfl (wR _) rfl rfl bO bO (fun _=>rfl) (.b _) ?_;(conv=>whnf);refine aW (q:=0) k3 rfl (wR _) rfl rfl bO bO (fun _=>rfl) (.b _) ?_;(conv=>whnf);refine aW (q:=0) k4 rfl (wR _) rfl rfl bO bO (fun _=>rfl) (.b _) ?_;(conv=>whnf);refine aW (q:=0) k5 rfl (wR _) rfl rfl bO bO (fun _=>rfl) (.b _) ?_;(conv=>whnf);refine aW (q:=0) hs2 rfl (wR _) rfl rfl bO bO (fun _=>rfl) (fun _=>rfl) ?_;(conv=>whnf);refine⟨_,⟨rfl,zL _,rfl,bL rfl⟩,?_⟩;(conv=>whnf);refine⟨_,⟨rfl,zL _,rfl,bL rfl⟩,?_⟩;(conv=>whnf);exact gC rfl iB bO (eO (jO dM x y [62] false))
  by_cases o6:l7 ws a'=[62,61]
  ·have hin:=kL (ws:=ws) (a:=a') (by rw[o6];simp);rw[o6] at hn⊢;rw[aG (by decide)];have k1:=dL hm ha' (w:=[61]) (by rw[o6];decide) lv (decide (20<d));have k2:=dL hm ha' (w:=[60,62]) (by rw[o6];decide) lv (decide (20<d));have k3:=dL hm ha' (w:=[60]) (by rw[o6];decide) lv (decide (20<d));have k4:=dL hm ha' (w:=[60,61]) (by rw[o6];decide) lv (decide (20<d));have k5:=dL hm ha' (w:=[62]) (by rw[o6];decide) lv (decide (20<d));have k6:=iZ hm o6 (by simp) lv (decide (20<d));have hs2:=yU ws hm hx (a'+1) hin lv (decide (20<d));cases ht2:gB iJ (ws.drop (a'+1)) with
   |none=>
    rw[ht2] at hs2;obtain⟨b',hle2,hb',hs2⟩:=hs2;refine⟨.test [62,61] x t0,b',decide (20<d),by omega,hb',Nat.le_add_left _ _,?_⟩;show SC _ _ _ _ (.val (.agg (k9 4 [] x t0 [62,61] false))) _;refine cZ Tryz.func322 rfl ?_;(conv=>whnf);refine aW (q:=0) n1 rfl (wR _) rfl rfl bO bO (fun _=>rfl) (.b _) ?_;(conv=>whnf);refine aW (q:=0) n2 rfl (wR _) rfl rfl bO bO (fun _=>rfl) (.b _) ?_;(conv=>whnf);refine aW (q:=0) n3 rfl (wR _) rfl rfl bO bO (fun _=>rfl) (.b _) ?_;(conv=>whnf);refine aW (q:=0) hs rfl (wR _) rfl rfl bO bO (fun _=>rfl) (fun _=>rfl) ?_;(conv=>whnf);refine aW (q:=0) hn rfl (wR _) rfl rfl bO bO (fun _=>rfl) (.s _) ?_;(conv=>whnf);refine⟨_,⟨rfl,zL _,rfl,bL rfl⟩,?_⟩;(conv=>whnf);refine aW (q:=0) k1 rfl (wR _) rfl rfl bO bO (fun _=>rfl) (.b _) ?_;(conv=>whnf);refine aW (q:=0) k2 rfl (wR _) rfl rfl bO bO (fun _=>rfl) (.b _) ?_;(conv=>whnf);refine aW (q:=0) k3 rfl (wR _) rfl rfl bO bO (fun _=>rfl) (.b _) ?_;(conv=>whnf);refine aW (q:=0) k4 rfl (wR _) rfl rfl bO bO (fun _=>rfl) (.b _) ?_;(conv=>whnf);refine aW (q:=0) k5 rfl (wR _) rfl rfl bO bO (fun _=>rfl) (.b _) ?_;(conv=>whnf);refine aW (q:=0) k6 rfl (wR _) rfl rfl bO bO (fun _=>rfl) (.b _) ?_;(conv=>whnf);refine aW (q:=0) hs2 rfl (wR _) rfl rfl bO bO (fun _=>rfl) (fun _=>rfl) ?_;(conv=>whnf);refine⟨_,⟨rfl,zL _,rfl,bL rfl⟩,?_⟩;(conv=>whnf);refine⟨_,⟨rfl,zL _,rfl,bL rfl⟩,?_⟩;(conv=>whnf);exact gC rfl iB bO (eO (jO dM x t0 [62,61] false))
   |some p=>
    obtain⟨y,r⟩:=p;rw[ht2] at hs2;obtain⟨b',hle2,hb',rfl,hs2⟩:=hs2;refine⟨b',by omega,hb',rfl,by simp only[Tree.size];omega,?_⟩;show SC _ _ _ _ (.val (.agg (k9 4 [] x y [62,61] false))) _;refine cZ Tryz.func322 rfl ?_;(conv=>whnf);refine aW (q:=0) n1 rfl (wR _) rfl rfl bO bO (fun _=>rfl) (.b _) ?_;(conv=>whnf);refine aW (q:=0) n2 rfl (wR _) rfl rfl bO bO (fun _=>rfl) (.b _) ?_;(conv=>whnf);refine aW (q:=0) n3 rfl (wR _) rfl rfl bO bO (fun _=>rfl) (.b _) ?_;(conv=>whnf);refine aW (q:=0) hs rfl (wR _) rfl rfl bO bO (fun _=>rfl) (fun _=>rfl) ?_;(conv=>whnf);refine aW (q:=0) hn rfl (wR _) rfl rfl bO bO (fun _=>rfl) (.s _) ?_;(conv=>whnf);refine⟨_,⟨rfl,zL _,rfl,bL rfl⟩,?_⟩;(conv=>whnf);refine aW (q:=0) k1 rfl (wR _) rfl rfl bO bO (fun _=>rfl) (.b _) ?_;(conv=>whnf);refine aW (q:=0) k2 rfl (wR _) rfl rfl bO bO (fun _=>rfl) (.b _) ?_;(conv=>whnf);refine aW (q:=0) k3 rfl (wR _) rfl rfl bO bO (fun _=>rfl) (.b _) ?_;(conv=>whnf);refine aW (q:=0) k4 rfl (wR _) rfl rfl bO bO (fun _=>rfl) (.b _) ?_;(conv=>whnf);refine aW (q:=0) k5 rfl (wR _) rfl rfl bO bO (fun _=>rfl) (.b _) ?_;(conv=>whnf);refine aW (q:=0) k6 rfl (wR _) rfl rfl bO bO (fun _=>rfl) (.b _) ?_;(conv=>whnf);refine aW (q:=0) hs2 rfl (wR _) rfl rfl bO bO (fun _=>rfl) (fun _=>rfl) ?_;(conv=>whnf);refine⟨_,⟨rfl,zL _,rfl,bL rfl⟩,?_⟩;(conv=>whnf);refine⟨_,⟨rfl,zL _,rfl,bL rfl⟩,?_⟩;(conv=>whnf);exact gC rfl iB bO (eO (jO dM x y [62,61] false))
  rw[aE (by
   intro h;simp only[mU,TC,List.contains_eq_mem,aL,List.mem_cons,List.not_mem_nil,or_false] at h;rcases h with h|h|h|h|h|h
   ·exact o1 h
   ·exact o2 h
   ·exact o3 h
   ·exact o4 h
   ·exact o5 h
   ·exact o6 h)]
  have k1:=dL hm ha' o1 lv (decide (20<d));have k2:=dL hm ha' o2 lv (decide (20<d));have k3:=dL hm ha' o3 lv (decide (20<d));have k4:=dL hm ha' o4 lv (decide (20<d));have k5:=dL hm ha' o5 lv (decide (20<d));have k6:=dL hm ha' o6 lv (decide (20<d));have hs2:=F4 ws hm a' lv (decide (20<d));refine⟨.test (l7 ws a') x t0,a',decide (20<d),hle,ha',Nat.le_add_left _ _,?_⟩;show SC _ _ _ _ (.val (.agg (k9 4 [] x t0 (l7 ws a') false))) _;clear o1 o2 o3 o4 o5 o6;generalize l7 ws a'=op at*;refine cZ Tryz.func322 rfl ?_;conv=>whnf
  refine aW (q:=0) n1 rfl (wR _) rfl rfl bO bO (fun _=>rfl) (.b _) ?_;conv=>whnf
  refine aW (q:=0) n2 rfl (wR _) rfl rfl bO bO (fun _=>rfl) (.b _) ?_;conv=>whnf
  refine aW (q:=0) n3 rfl (wR _) rfl rfl bO bO (fun _=>rfl) (.b _) ?_;conv=>whnf
  refine aW (q:=0) hs rfl (wR _) rfl rfl bO bO (fun _=>rfl) (fun _=>rfl) ?_;conv=>whnf
  refine aW (q:=0) hn rfl (wR _) rfl rfl bO bO (fun _=>rfl) (.s _) ?_;conv=>whnf
  refine⟨_,⟨rfl,zL _,rfl,bL rfl⟩,?_⟩;conv=>whnf
  refine aW (q:=0) k1 rfl (wR _) rfl rfl bO bO (fun _=>rfl) (.b _) ?_;conv=>whnf
  refine aW (q:=0) k2 rfl (wR _) rfl rfl bO bO (fun _=>rfl) (.b _) ?_;conv=>whnf
  refine aW (q:=0) k3 rfl (wR _) rfl rfl bO bO (fun _=>rfl) (.b _) ?_;conv=>whnf
  refine aW (q:=0) k4 rfl (wR _) rfl rfl bO bO (fun _=>rfl) (.b _) ?_;conv=>whnf
  refine aW (q:=0) k5 rfl (wR _) rfl rfl bO bO (fun _=>rfl) (.b _) ?_;conv=>whnf
  refine aW (q:=0) k6 rfl (wR _) rfl rfl bO bO (fun _=>rfl) (.b _) ?_;conv=>whnf
  refine⟨_,⟨rfl,zL _,rfl,bL rfl⟩,?_⟩;conv=>whnf
  refine aW (q:=0) hs2 rfl (wR _) rfl rfl bO bO (fun _=>rfl) (fun _=>rfl) ?_;conv=>whnf
  refine⟨_,⟨rfl,zL _,rfl,bL rfl⟩,?_⟩;conv=>whnf
  refine⟨_,⟨rfl,zL _,rfl,bL rfl⟩,?_⟩;conv=>whnf
  exact gC rfl iB bO (eO (jO dM x t0 op false))
