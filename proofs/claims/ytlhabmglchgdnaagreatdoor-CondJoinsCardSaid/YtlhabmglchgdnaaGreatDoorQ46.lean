/-
  CondJoins: And, Or and Not of every two texts are those of the reference, and are true of a row as they say; part 46 of 48. Conditions: none beyond the given statement.
-/
import Derived.Test.YtlhabmglchgdnaaGreatDoorQ45
import Derived.Test.YtlhabmglchgdnaaGreatDoorQ43
set_option linter.all false
namespace Go.Proofs.YtlhabmglchgdnaaGreatDoor
open Go.RowKit
set_option maxRecDepth 100000
set_option linter.unusedVariables false
theorem r_value (I V:List Itm) (R W:List Val) (hI:I.length<most) (hV:V.length<most) (t:Term) (h:okT I V R W t):
  SC Tryz.prog 82 [.agg (sdc t),.sl .none (itms I),.sl .none (vlsG R),.sl .none (itms V),.sl .none (vlsG W)] [] (.val (valT I V R W t).gv) []:=by
 rcases h with h|⟨h0,hv,j,v,h1,h2⟩|⟨h0,hv,j,v,h1,h2⟩
 ·have e:valT I V R W t=t.v:=if_pos h
  rw[e]
  obtain⟨nm,vr,v⟩:=t
  simp only at h
  subst h
  cases vr with
  |true=>
   refine SC.of_gwp noM mixed Tryz.func82 rfl (Nat.le_of_ble_eq_true rfl) (by first|exact Nat.le_refl _|simp) rfl ?_
   conv=>whnf
   refine⟨_,⟨rfl,Nat.zero_le _,rfl,Nat.le_of_ble_eq_true rfl⟩,?_⟩
   conv=>whnf
   exact owes_wk (g':=v.gv) (.refl _) (fun _=>rfl)
  |false=>
   refine SC.of_gwp noM mixed Tryz.func82 rfl (Nat.le_of_ble_eq_true rfl) (by first|exact Nat.le_refl _|simp) rfl ?_
   conv=>whnf
   refine⟨_,⟨rfl,Nat.zero_le _,rfl,Nat.le_of_ble_eq_true rfl⟩,?_⟩
   conv=>whnf
   exact owes_wk (g':=v.gv) (.refl _) (fun _=>rfl)
 ·have hk:=r_at V hV t.name
  rw[h1] at hk
  have hn:t.name≠[]:=h0
  have e:valT I V R W t=v:=by
   unfold valT
   rw[if_neg hn,hv]
   exact lkp_at h1 h2
  rw[e]
  obtain⟨nm,vr,tv⟩:=t
  simp only at hv hn hk
  subst hv
  refine SC.of_gwp noM mixed Tryz.func82 rfl (Nat.le_of_ble_eq_true rfl) (by first|exact Nat.le_refl _|simp) rfl ?_
  conv=>whnf
  refine GIf.mk (fun hz=>?_) (fun hz=>?_)<;>conv=>whnf
  rotate_left
  ·exact absurd (by simpa using hz) hn
  refine callP hk (Wks.refl _) rfl (ClL.cons (Cl.sl (itms_cl V)) (ClL.cons (.s _) .nil)) (.i _ _) ?_
  conv=>whnf
  refine⟨Int.natCast_nonneg _,_,by rw[Int.toNat_natCast];exact vlsG_at h2,rfl,?_⟩
  conv=>whnf
  refine⟨_,⟨rfl,Nat.zero_le _,rfl,Nat.le_of_ble_eq_true rfl⟩,?_⟩
  conv=>whnf
  exact owes_wk (.refl _) (fun _=>rfl)
 ·have hk:=r_at I hI t.name
  rw[h1] at hk
  have hn:t.name≠[]:=h0
  have e:valT I V R W t=v:=by
   unfold valT
   rw[if_neg hn,hv]
   exact lkp_at h1 h2
  rw[e]
  obtain⟨nm,vr,tv⟩:=t
  simp only at hv hn hk
  subst hv
  refine SC.of_gwp noM mixed Tryz.func82 rfl (Nat.le_of_ble_eq_true rfl) (by first|exact Nat.le_refl _|simp) rfl ?_
  conv=>whnf
  refine GIf.mk (fun hz=>?_) (fun hz=>?_)<;>conv=>whnf
  rotate_left
  ·exact absurd (by simpa using hz) hn
  refine callP hk (Wks.refl _) rfl (ClL.cons (Cl.sl (itms_cl I)) (ClL.cons (.s _) .nil)) (.i _ _) ?_
  conv=>whnf
  refine⟨Int.natCast_nonneg _,_,by rw[Int.toNat_natCast];exact vlsG_at h2,rfl,?_⟩
  conv=>whnf
  refine⟨_,⟨rfl,Nat.zero_le _,rfl,Nat.le_of_ble_eq_true rfl⟩,?_⟩
  conv=>whnf
  exact owes_wk (.refl _) (fun _=>rfl)
def tT (I V:List Itm) (R W:List Val) (t:Tree):Bool:=truthV (valT I V R W) t
def ws4 (I V:List Itm) (R W:List Val):List GV:=[.sl .none (itms I),.sl .none (vlsG R),.sl .none (itms V),.sl .none (vlsG W)]
theorem ws4_cl (I V:List Itm) (R W:List Val):ClL (ws4 I V R W):=ClL.cons (Cl.sl (itms_cl I)) (ClL.cons (Cl.sl (vlsG_cl R)) (ClL.cons (Cl.sl (itms_cl V)) (ClL.cons (Cl.sl (vlsG_cl W)) .nil)))
theorem all_of_any {a:Bool} {τ:Tree->Bool} {L:List Tree} (h:L.any (fun x=>τ x !=a)=false):(if a then L.all τ else L.any τ)=a:=by
 have h':∀x∈L,τ x=a:=fun x hx=>by
  have:=List.any_eq_false.1 h x hx
  simpa using this
 cases a with
 |true=>simpa[List.all_eq_true] using h'
 |false=>simpa[List.any_eq_false] using h'
theorem all_of_one {a:Bool} {τ:Tree->Bool} {L:List Tree} {i:Nat} {y:Tree} (hy:L[i]?=some y) (h:τ y=!a):(if a then L.all τ else L.any τ)=!a:=by
 have hm:=List.mem_of_getElem? hy
 cases a with
 |true=>
  have:L.all τ=false:=List.all_eq_false.2 ⟨y,hm,by rw[h];simp⟩
  simpa using this
 |false=>
  have:L.any τ=true:=List.any_eq_true.2 ⟨y,hm,by rw[h];rfl⟩
  simpa using this
theorem r_tr_kids (a:Bool) (I V:List Itm) (R W:List Val) (L:List Tree) (hL:L.length<=100000) (hc:∀y∈L,SC Tryz.prog 61 (y.ng::ws4 I V R W) [] (.val (.b (tT I V R W y))) []):
  SC Tryz.prog 61 (.agg (ndc (opn a) (ngs L) t0 t0 [] false)::ws4 I V R W) [] (.val (.b (if a then L.all (tT I V R W) else L.any (tT I V R W)))) []:=by
 have hnl:(ngs L).length=L.length:=ngs_len L
 unfold ws4 at*
 have hall:=@all_of_any a (tT I V R W) L
 have hone:=fun i y=>@all_of_one a (tT I V R W) L i y
 cases a with
 |false=>
  refine SC.of_gwp noM mixed Tryz.func61 rfl (Nat.le_of_ble_eq_true rfl) (by first|exact Nat.le_refl _|simp) rfl ?_
  conv=>whnf
  refine GLoop.introS (fun i:Nat=>i<=L.length/\(L.take i).any (fun x=>tT I V R W x !=false)=false) (fun i=>[(1,.sl .none (itms I)),(2,.sl .none (vlsG R)),(3,.sl .none (itms V)),(4,.sl .none (vlsG W)),(5,.ptr 0 0),(12,.i .i64 (i:Nat))])
   (fun _=>⟨[.box 69 (ndc (opn false) (ngs L) t0 t0 [] false)],0,[]⟩) (fun i=>L.length - i) 0 ⟨Nat.zero_le _,rfl⟩ ⟨rfl,rfl,rfl,rfl,rfl,rfl,trivial⟩ rfl (fun _ _=>Nat.le_refl _) (fun _ _=>rfl) (fun i _ e he=>?_) (fun i φ0 hi=>?_)
  ·refine⟨?_,rfl,?_⟩
   ·show[(GObj.box _ (ndc (opn false) (ngs L) t0 t0 [] false)).ren e]=_
    rw[GObj.box_cl (ndc_cl (ngs_cl L) t0 t0 [] false)]
   ·show[(GV.sl .none (itms I)).ren e,(GV.sl .none (vlsG R)).ren e,(GV.sl .none (itms V)).ren e,(GV.sl .none (vlsG W)).ren e,GV.ptr (e 0) 0,_]=_
    rw[Cl.sl (itms_cl I) e,Cl.sl (itms_cl V) e,Cl.sl (vlsG_cl R) e,Cl.sl (vlsG_cl W) e,he 0 (by simp)];rfl
  obtain⟨hi,hni⟩:=hi
  conv=>whnf
  refine GIf.mk (fun h=>?_) (fun h=>?_)<;>conv=>whnf
  rotate_left
  ·have hie:i=L.length:=by have:=of_decide_eq_false h;rw[hnl] at this;omega
   rw[hie,List.take_length] at hni
   rw[hall hni]
   exact owes_b rfl
  have hlt:i<L.length:=by have:=of_decide_eq_true h;rw[hnl] at this;omega
  obtain⟨y,hy⟩:∃y,L[i]?=some y:=⟨L[i],List.getElem?_eq_getElem hlt⟩
  have hgy:(ngs L)[i]?=some y.ng:=by unfold ngs;rw[List.getElem?_map,hy];rfl
  have hcy:=hc y (List.mem_of_getElem? hy)
  have hcl:=y.ng_cl
  have hys:=any_not_take hni hy
  have hon:=hone i y hy
  obtain⟨k2,kids,A,B,op,yes2,hng⟩:=ng_form y
  rw[hng] at hgy hcy hcl
  refine GDraw.calm (by kernel_rfl) ?_
  conv=>whnf
  refine⟨Int.natCast_nonneg _,.agg (ndc k2 kids A B op yes2),by rw[Int.toNat_natCast];exact hgy,rfl,?_⟩
  conv=>whnf
  generalize tT I V R W y=b at*
  refine callP hcy (Wks.refl _) rfl (ClL.cons hcl (ws4_cl I V R W)) (.b _) ?_
  conv=>whnf
  cases b with
  |false=>
   conv=>whnf
   exact⟨L.length - (i+1),(by show _<L.length - i;omega),i+1,⟨hlt,by rw[hys];rfl⟩,rfl,⟨rfl,rfl,rfl,rfl,rfl,wrap_succ (by omega),trivial⟩,_,rfl,rfl⟩
  |true=>
   conv=>whnf
   rw[hon rfl]
   exact owes_b rfl
 |true=>
  refine SC.of_gwp noM mixed Tryz.func61 rfl (Nat.le_of_ble_eq_true rfl) (by first|exact Nat.le_refl _|simp) rfl ?_
  conv=>whnf
  refine GLoop.introS (fun i:Nat=>i<=L.length/\(L.take i).any (fun x=>tT I V R W x !=true)=false) (fun i=>[(1,.sl .none (itms I)),(2,.sl .none (vlsG R)),(3,.sl .none (itms V)),(4,.sl .none (vlsG W)),(5,.ptr 0 0),(12,.i .i64 (i:Nat))])
   (fun _=>⟨[.box 69 (ndc (opn true) (ngs L) t0 t0 [] false)],0,[]⟩) (fun i=>L.length - i) 0 ⟨Nat.zero_le _,rfl⟩ ⟨rfl,rfl,rfl,rfl,rfl,rfl,trivial⟩ rfl (fun _ _=>Nat.le_refl _) (fun _ _=>rfl) (fun i _ e he=>?_) (fun i φ0 hi=>?_)
  ·refine⟨?_,rfl,?_⟩
   ·show[(GObj.box _ (ndc (opn true) (ngs L) t0 t0 [] false)).ren e]=_
    rw[GObj.box_cl (ndc_cl (ngs_cl L) t0 t0 [] false)]
   ·show[(GV.sl .none (itms I)).ren e,(GV.sl .none (vlsG R)).ren e,(GV.sl .none (itms V)).ren e,(GV.sl .none (vlsG W)).ren e,GV.ptr (e 0) 0,_]=_
    rw[Cl.sl (itms_cl I) e,Cl.sl (itms_cl V) e,Cl.sl (vlsG_cl R) e,Cl.sl (vlsG_cl W) e,he 0 (by simp)];rfl
  obtain⟨hi,hni⟩:=hi
  conv=>whnf
  refine GIf.mk (fun h=>?_) (fun h=>?_)<;>conv=>whnf
  rotate_left
  ·have hie:i=L.length:=by have:=of_decide_eq_false h;rw[hnl] at this;omega
   rw[hie,List.take_length] at hni
   rw[hall hni]
   exact owes_b rfl
  have hlt:i<L.length:=by have:=of_decide_eq_true h;rw[hnl] at this;omega
  obtain⟨y,hy⟩:∃y,L[i]?=some y:=⟨L[i],List.getElem?_eq_getElem hlt⟩
  have hgy:(ngs L)[i]?=some y.ng:=by unfold ngs;rw[List.getElem?_map,hy];rfl
  have hcy:=hc y (List.mem_of_getElem? hy)
  have hcl:=y.ng_cl
  have hys:=any_not_take hni hy
  have hon:=hone i y hy
  obtain⟨k2,kids,A,B,op,yes2,hng⟩:=ng_form y
  rw[hng] at hgy hcy hcl
  refine GDraw.calm (by kernel_rfl) ?_
  conv=>whnf
  refine⟨Int.natCast_nonneg _,.agg (ndc k2 kids A B op yes2),by rw[Int.toNat_natCast];exact hgy,rfl,?_⟩
  conv=>whnf
  generalize tT I V R W y=b at*
  refine callP hcy (Wks.refl _) rfl (ClL.cons hcl (ws4_cl I V R W)) (.b _) ?_
  conv=>whnf
  cases b with
  |true=>
   conv=>whnf
   exact⟨L.length - (i+1),(by show _<L.length - i;omega),i+1,⟨hlt,by rw[hys];rfl⟩,rfl,⟨rfl,rfl,rfl,rfl,rfl,wrap_succ (by omega),trivial⟩,_,rfl,rfl⟩
  |false=>
   conv=>whnf
   rw[hon rfl]
   exact owes_b rfl
theorem r_tr_test (op:By) (hop:relop op=true) (I V:List Itm) (R W:List Val) (hI:I.length<most) (hV:V.length<most) (a b:Term) (ha:okT I V R W a) (hb:okT I V R W b) (ha':(valT I V R W a).s.length<most) (hb':(valT I V R W b).s.length<most):
  SC Tryz.prog 61 (.agg (ndc 4 [] a b op false)::ws4 I V R W) [] (.val (.b (tT I V R W (.test op a b)))) []:=by
 have s1:=r_value I V R W hI hV a ha
 have s2:=r_value I V R W hI hV b hb
 have s3:=r_CompareV (valT I V R W a) (valT I V R W b) ha' hb'
 rw[show tT I V R W (Tree.test op a b)=relB op (cmpV (valT I V R W a) (valT I V R W b)) from rfl]
 generalize cmpV (valT I V R W a) (valT I V R W b)=c at*
 simp only[relop,rels,List.contains_eq_mem,decide_eq_true_eq,List.mem_cons,List.not_mem_nil,or_false] at hop
 unfold ws4
 rcases hop with rfl|rfl|rfl|rfl|rfl|rfl
 all_goals
  refine SC.of_gwp noM mixed Tryz.func61 rfl (Nat.le_of_ble_eq_true rfl) (by first|exact Nat.le_refl _|simp) rfl ?_
  conv=>whnf
  refine GDraw.calm (by kernel_rfl) ?_
  conv=>whnf
  refine callP s1 (Wks.refl _) rfl (ClL.cons (Cl.agg (sdc_cl a)) (ws4_cl I V R W)) (Val.cl _) ?_
  conv=>whnf
  refine callP s2 (Wks.refl _) rfl (ClL.cons (Cl.agg (sdc_cl b)) (ws4_cl I V R W)) (Val.cl _) ?_
  conv=>whnf
  refine callP s3 (Wks.refl _) rfl (ClL.cons (Val.cl _) (ClL.cons (Val.cl _) .nil)) (.i _ _) ?_
  conv=>whnf
  exact owes_b rfl
theorem r_tr_no (I V:List Itm) (R W:List Val) (t:Tree) (hc:SC Tryz.prog 61 (t.ng::ws4 I V R W) [] (.val (.b (tT I V R W t))) []):
  SC Tryz.prog 61 (.agg (ndc 3 [t.ng] t0 t0 [] false)::ws4 I V R W) [] (.val (.b (!tT I V R W t))) []:=by
 generalize tT I V R W t=b at*
 have hcl:=t.ng_cl
 obtain⟨k2,kids,A,B,op,yes2,hng⟩:=ng_form t
 rw[hng] at hc hcl⊢
 unfold ws4 at*
 refine SC.of_gwp noM mixed Tryz.func61 rfl (Nat.le_of_ble_eq_true rfl) (by first|exact Nat.le_refl _|simp) rfl ?_
 conv=>whnf
 refine⟨by decide,.agg (ndc k2 kids A B op yes2),rfl,rfl,?_⟩
 conv=>whnf
 refine callP hc (Wks.refl _) rfl (ClL.cons hcl (ws4_cl I V R W)) (.b _) ?_
 conv=>whnf
 exact owes_b rfl
theorem r_tr_truth (b:Bool) (I V:List Itm) (R W:List Val):SC Tryz.prog 61 (.agg (ndc 5 [] t0 t0 [] b)::ws4 I V R W) [] (.val (.b b)) []:=by
 unfold ws4
 refine SC.of_gwp noM mixed Tryz.func61 rfl (Nat.le_of_ble_eq_true rfl) (by first|exact Nat.le_refl _|simp) rfl ?_
 conv=>whnf
 exact owes_b rfl
end Go.Proofs.YtlhabmglchgdnaaGreatDoor
namespace Go.Proofs.YtlhabmglchgdnaaGreatDoor
open Go.RowKit
set_option maxRecDepth 100000
set_option linter.unusedVariables false
theorem good_side {a:Bool}:∀{t:Tree},t.good->∀x∈t.sides a,x.good
 |.pair b l r,h,x,hx=>by
  unfold Tree.sides at hx
  split at hx
  ·rcases List.mem_append.1 hx with hx|hx
   ·exact good_side h.1 x hx
   ·exact good_side h.2 x hx
  ·rw[List.mem_singleton.1 hx];exact h
 |.no t,h,x,hx=>by rw[List.mem_singleton.1 (show x∈[Tree.no t] from hx)];exact h
 |.test op l r,h,x,hx=>by rw[List.mem_singleton.1 (show x∈[Tree.test op l r] from hx)];exact h
 |.truth b,h,x,hx=>by rw[List.mem_singleton.1 (show x∈[Tree.truth b] from hx)];exact h
theorem leaf_side {a:Bool} {t x:Tree} (hx:x∈t.sides a) {y:Term} (hy:y∈leaves x):y∈leaves t:=by
 rw[<-leaves_sides a t]
 exact List.mem_flatMap.2 ⟨x,hx,hy⟩
theorem r_truth (I V:List Itm) (R W:List Val) (hI:I.length<most) (hV:V.length<most):∀(n:Nat) (t:Tree),t.size<=n->t.size<=5000->t.good->(∀x∈leaves t,okT I V R W x)->(∀x∈leaves t,(valT I V R W x).s.length<most)->
  SC Tryz.prog 61 (t.ng::ws4 I V R W) [] (.val (.b (tT I V R W t))) []
 |0,t,h,_,_,_,_=>by cases t<;>simp[Tree.size] at h
 |n+1,t,h,h2,hg,ho,hv=>by
  cases t with
  |truth b=>exact r_tr_truth b I V R W
  |test op l r=>exact r_tr_test op hg.1 I V R W hI hV l r (ho l (by simp[leaves])) (ho r (by simp[leaves])) (hv l (by simp[leaves])) (hv r (by simp[leaves]))
  |no t=>
   simp only[Tree.size] at h h2
   exact r_tr_no I V R W t (r_truth I V R W hI hV n t (by omega) (by omega) hg ho hv)
  |pair a l r=>
   have hs:=@sides_len a (Tree.pair a l r)
   have hk:∀y∈(Tree.pair a l r).sides a,SC Tryz.prog 61 (y.ng::ws4 I V R W) [] (.val (.b (tT I V R W y))) []:=fun y hy=>by
    have:=sides_lt hy
    exact r_truth I V R W hI hV n y (by omega) (by omega) (good_side hg y hy) (fun x hx=>ho x (leaf_side hy hx)) (fun x hx=>hv x (leaf_side hy hx))
   have:=r_tr_kids a I V R W ((Tree.pair a l r).sides a) (by omega) hk
   rw[show(Tree.pair a l r).ng=.agg (ndc (opn a) (ngs ((Tree.pair a l r).sides a)) t0 t0 [] false) by show GV.agg _=_;rw[ncs_pair]]
   rw[show tT I V R W (Tree.pair a l r)=if a then((Tree.pair a l r).sides a).all (tT I V R W) else((Tree.pair a l r).sides a).any (tT I V R W) from truth_sides (valT I V R W) a (Tree.pair a l r)]
   exact this
def chkR (I V:List Itm) (s:By):Int:=match readR s with
 |.ok t=>if knownB I&&knownB V then checkS I V t else 1
 |.err e=>e
def evalR (I V:List Itm) (R W:List Val) (s:By):Bool×Int:=match readR s with
 |.ok t=>evT I V R W t
 |.err e=>(false,e)
theorem evT_flat (I V:List Itm) (R W:List Val) (t:Tree):evT I V R W t.flat=evT I V R W t:=by
 unfold evT
 rw[check_flat,truth_flat]
theorem evalR_eq (I V:List Itm) (R W:List Val) (s:By):evalR I V R W s=evalS I V R W s:=by
 unfold evalR evalS
 have hr:=readR_eq s
 cases hx:readR s with
 |err e=>rw[hx] at hr;rw[hr]
 |ok t=>
  rw[hx] at hr;rw[hr]
  simp only
  rw[evT_flat]
end Go.Proofs.YtlhabmglchgdnaaGreatDoor
namespace Go.Proofs.YtlhabmglchgdnaaGreatDoor
open Go.RowKit
set_option maxRecDepth 100000
set_option linter.unusedVariables false
theorem there_mem {l:List Itm} {r:List Val} {s:By} (h:thereN l r s):lkp l r s∈r:=by
 obtain⟨j,v,h1,h2⟩:=h
 rw[lkp_at h1 h2]
 exact List.mem_of_getElem? h2
theorem valT_small {I V:List Itm} {R W:List Val} (hR:∀v∈R,v.s.length<most) (hW:∀v∈W,v.s.length<most) {x:Term} (hg:x.good) (ho:okT I V R W x):(valT I V R W x).s.length<most:=by
 unfold valT
 rcases ho with h|⟨h0,hv,h⟩|⟨h0,hv,h⟩
 ·rw[if_pos h]
  rcases hg with⟨h1,_⟩|⟨_,_,hk⟩
  ·exact absurd h h1
  ·unfold Val.ok at hk
   simp only[Bool.and_eq_true,Bool.or_eq_true,decide_eq_true_eq] at hk
   unfold most
   rcases hk with hk|hk
   ·rw[hk.1.1.2];simp
   ·omega
 ·rw[if_neg h0,hv]
  exact hW _ (there_mem h)
 ·rw[if_neg h0,hv]
  exact hR _ (there_mem h)
theorem r_Eval (I V:List Itm) (R W:List Val) (hI:I.length<most) (hV:V.length<most) (hR:R.length<most) (hW:W.length<most) (hRs:∀v∈R,v.s.length<most) (hWs:∀v∈W,v.s.length<most) (s:By) (hs:s.length<1000000):
  SC Tryz.prog 24 [.s s,.sl .none (itms I),.sl .none (vlsG R),.sl .none (itms V),.sl .none (vlsG W)] [] (.val (.tup [.b (evalR I V R W s).1,.i .i64 (evalR I V R W s).2])) []:=by
 have hr:=r_Read s hs
 have hrc:=readRG_cl s
 unfold readRG at hr hrc
 unfold evalR
 have h1:=r_Known1 I hI
 have h2:=r_Known1 V hV
 have h3:=r_fits2 I R hI hR
 have hl1:=itms_len V
 have hl2:=vlsG_len W
 cases hx:readR s with
 |err e=>
  rw[hx] at hr hrc
  replace hr:SC Tryz.prog 48 [.s s] [] (.val (.tup [nodeN,.i .i64 e])) []:=hr
  replace hrc:Cl (.tup [nodeN,.i .i64 e]):=hrc
  have he:=readR_err hx
  simp only
  rcases he with rfl|rfl|rfl
  all_goals
   refine SC.of_gwp noM mixed Tryz.func24 rfl (Nat.le_of_ble_eq_true rfl) (by first|exact Nat.le_refl _|simp) rfl ?_
   conv=>whnf
   refine callP hr (Wks.refl _) rfl (fun _=>rfl) hrc ?_
   conv=>whnf
   refine⟨_,⟨rfl,Nat.zero_le _,rfl,Nat.le_of_ble_eq_true rfl⟩,?_⟩
   conv=>whnf
   exact owes_wk (.refl _) (fun _=>rfl)
 |ok t=>
  rw[hx] at hr hrc
  replace hr:SC Tryz.prog 48 [.s s] [] (.val (.tup [t.ng,.i .i64 0])) []:=hr
  replace hrc:Cl (.tup [t.ng,.i .i64 0]):=hrc
  have hz:=readR_size hx
  have hg:=readR_good hx
  have h4:=r_right I V hI hV t (by omega)
  have h6:=fun ho hv=>r_truth I V R W hI hV 5000 t (by omega) (by omega) hg ho hv
  have hcl:=t.ng_cl
  obtain⟨k,kids,A,B,op,yes,hng⟩:=ng_form t
  rw[hng] at hr hrc h4 h6 hcl
  simp only
  unfold evT
  cases k1:knownB I with
  |false=>
   rw[k1] at h1
   refine SC.of_gwp noM mixed Tryz.func24 rfl (Nat.le_of_ble_eq_true rfl) (by first|exact Nat.le_refl _|simp) rfl ?_
   conv=>whnf
   refine callP hr (Wks.refl _) rfl (fun _=>rfl) hrc ?_
   conv=>whnf
   refine⟨_,⟨rfl,Nat.zero_le _,rfl,Nat.le_of_ble_eq_true rfl⟩,?_⟩
   conv=>whnf
   refine callP h1 (Wks.refl _) rfl (ClL.cons (Cl.sl (itms_cl I)) .nil) (.b _) ?_
   conv=>whnf
   exact owes_wk (.refl _) (fun _=>rfl)
  |true=>
   rw[k1] at h1
   cases k2:knownB V with
   |false=>
    rw[k2] at h2
    refine SC.of_gwp noM mixed Tryz.func24 rfl (Nat.le_of_ble_eq_true rfl) (by first|exact Nat.le_refl _|simp) rfl ?_
    conv=>whnf
    refine callP hr (Wks.refl _) rfl (fun _=>rfl) hrc ?_
    conv=>whnf
    refine⟨_,⟨rfl,Nat.zero_le _,rfl,Nat.le_of_ble_eq_true rfl⟩,?_⟩
    conv=>whnf
    refine callP h1 (Wks.refl _) rfl (ClL.cons (Cl.sl (itms_cl I)) .nil) (.b _) ?_
    conv=>whnf
    refine callP h2 (Wks.refl _) rfl (ClL.cons (Cl.sl (itms_cl V)) .nil) (.b _) ?_
    conv=>whnf
    exact owes_wk (.refl _) (fun _=>rfl)
   |true=>
    rw[k2] at h2
    cases k3:fits2 I R with
    |false=>
     rw[k3] at h3
     refine SC.of_gwp noM mixed Tryz.func24 rfl (Nat.le_of_ble_eq_true rfl) (by first|exact Nat.le_refl _|simp) rfl ?_
     conv=>whnf
     refine callP hr (Wks.refl _) rfl (fun _=>rfl) hrc ?_
     conv=>whnf
     refine⟨_,⟨rfl,Nat.zero_le _,rfl,Nat.le_of_ble_eq_true rfl⟩,?_⟩
     conv=>whnf
     refine callP h1 (Wks.refl _) rfl (ClL.cons (Cl.sl (itms_cl I)) .nil) (.b _) ?_
     conv=>whnf
     refine callP h2 (Wks.refl _) rfl (ClL.cons (Cl.sl (itms_cl V)) .nil) (.b _) ?_
     conv=>whnf
     refine callP h3 (Wks.refl _) rfl (ClL.cons (Cl.sl (itms_cl I)) (ClL.cons (Cl.sl (vlsG_cl R)) .nil)) (.b _) ?_
     conv=>whnf
     exact owes_wk (.refl _) (fun _=>rfl)
    |true=>
     rw[k3] at h3
     rw[if_pos (show(true&&true&&true)=true from rfl)]
     by_cases b2:checkS I V t=0
     rotate_left
     ·rw[if_neg b2]
      have b3:checkS I V t=5∨checkS I V t=10:=by
       revert b2
       unfold checkS
       repeat' split
       all_goals simp
      generalize checkS I V t=x at*
      rcases b3 with rfl|rfl
      all_goals
       refine SC.of_gwp noM mixed Tryz.func24 rfl (Nat.le_of_ble_eq_true rfl) (by first|exact Nat.le_refl _|simp) rfl ?_
       conv=>whnf
       refine callP hr (Wks.refl _) rfl (fun _=>rfl) hrc ?_
       conv=>whnf
       refine⟨_,⟨rfl,Nat.zero_le _,rfl,Nat.le_of_ble_eq_true rfl⟩,?_⟩
       conv=>whnf
       refine callP h1 (Wks.refl _) rfl (ClL.cons (Cl.sl (itms_cl I)) .nil) (.b _) ?_
       conv=>whnf
       refine callP h2 (Wks.refl _) rfl (ClL.cons (Cl.sl (itms_cl V)) .nil) (.b _) ?_
       conv=>whnf
       refine callP h3 (Wks.refl _) rfl (ClL.cons (Cl.sl (itms_cl I)) (ClL.cons (Cl.sl (vlsG_cl R)) .nil)) (.b _) ?_
       conv=>whnf
       refine callP h4 (Wks.refl _) rfl (ClL.cons hcl (ClL.cons (Cl.sl (itms_cl I)) (ClL.cons (Cl.sl (itms_cl V)) .nil))) (.i _ _) ?_
       conv=>whnf
       exact owes_wk (.refl _) (fun _=>rfl)
     rw[if_pos b2]
     have b3:=(checkE_eq k1 k2 hg).trans b2
     rw[b2] at h4
     by_cases b4:W.length=V.length
     rotate_left
     ·rw[if_neg b4]
      refine SC.of_gwp noM mixed Tryz.func24 rfl (Nat.le_of_ble_eq_true rfl) (by first|exact Nat.le_refl _|simp) rfl ?_
      conv=>whnf
      refine callP hr (Wks.refl _) rfl (fun _=>rfl) hrc ?_
      conv=>whnf
      refine⟨_,⟨rfl,Nat.zero_le _,rfl,Nat.le_of_ble_eq_true rfl⟩,?_⟩
      conv=>whnf
      refine callP h1 (Wks.refl _) rfl (ClL.cons (Cl.sl (itms_cl I)) .nil) (.b _) ?_
      conv=>whnf
      refine callP h2 (Wks.refl _) rfl (ClL.cons (Cl.sl (itms_cl V)) .nil) (.b _) ?_
      conv=>whnf
      refine callP h3 (Wks.refl _) rfl (ClL.cons (Cl.sl (itms_cl I)) (ClL.cons (Cl.sl (vlsG_cl R)) .nil)) (.b _) ?_
      conv=>whnf
      refine callP h4 (Wks.refl _) rfl (ClL.cons hcl (ClL.cons (Cl.sl (itms_cl I)) (ClL.cons (Cl.sl (itms_cl V)) .nil))) (.i _ _) ?_
      conv=>whnf
      refine GIf.mk (fun z=>?_) (fun z=>?_)<;>conv=>whnf
      rotate_left
      ·exfalso;have h9:((vlsG W).length:Int)=(itms V).length:=by simpa using z
       omega
      exact owes_wk (.refl _) (fun _=>rfl)
     rw[if_pos b4]
     have h5:=r_kinds V W hW b4
     have ho:=okT_all (fits2_len k3) b4 b3
     have h6:=h6 ho (fun x hx=>valT_small hRs hWs (leaf_good hg x hx) (ho x hx))
     unfold tT at h6
     unfold ws4 at h6
     cases b5:kinds2 V W with
     |false=>
      rw[b5] at h5
      refine SC.of_gwp noM mixed Tryz.func24 rfl (Nat.le_of_ble_eq_true rfl) (by first|exact Nat.le_refl _|simp) rfl ?_
      conv=>whnf
      refine callP hr (Wks.refl _) rfl (fun _=>rfl) hrc ?_
      conv=>whnf
      refine⟨_,⟨rfl,Nat.zero_le _,rfl,Nat.le_of_ble_eq_true rfl⟩,?_⟩
      conv=>whnf
      refine callP h1 (Wks.refl _) rfl (ClL.cons (Cl.sl (itms_cl I)) .nil) (.b _) ?_
      conv=>whnf
      refine callP h2 (Wks.refl _) rfl (ClL.cons (Cl.sl (itms_cl V)) .nil) (.b _) ?_
      conv=>whnf
      refine callP h3 (Wks.refl _) rfl (ClL.cons (Cl.sl (itms_cl I)) (ClL.cons (Cl.sl (vlsG_cl R)) .nil)) (.b _) ?_
      conv=>whnf
      refine callP h4 (Wks.refl _) rfl (ClL.cons hcl (ClL.cons (Cl.sl (itms_cl I)) (ClL.cons (Cl.sl (itms_cl V)) .nil))) (.i _ _) ?_
      conv=>whnf
      refine GIf.mk (fun z=>?_) (fun z=>?_)<;>conv=>whnf
      ·exfalso;have h9:¬((vlsG W).length:Int)=(itms V).length:=by simpa using z
       omega
      refine callP h5 (Wks.refl _) rfl (ClL.cons (Cl.sl (itms_cl V)) (ClL.cons (Cl.sl (vlsG_cl W)) .nil)) (.b _) ?_
      conv=>whnf
      exact owes_wk (.refl _) (fun _=>rfl)
     |true=>
      rw[b5] at h5
      refine SC.of_gwp noM mixed Tryz.func24 rfl (Nat.le_of_ble_eq_true rfl) (by first|exact Nat.le_refl _|simp) rfl ?_
      conv=>whnf
      refine callP hr (Wks.refl _) rfl (fun _=>rfl) hrc ?_
      conv=>whnf
      refine⟨_,⟨rfl,Nat.zero_le _,rfl,Nat.le_of_ble_eq_true rfl⟩,?_⟩
      conv=>whnf
      refine callP h1 (Wks.refl _) rfl (ClL.cons (Cl.sl (itms_cl I)) .nil) (.b _) ?_
      conv=>whnf
      refine callP h2 (Wks.refl _) rfl (ClL.cons (Cl.sl (itms_cl V)) .nil) (.b _) ?_
      conv=>whnf
      refine callP h3 (Wks.refl _) rfl (ClL.cons (Cl.sl (itms_cl I)) (ClL.cons (Cl.sl (vlsG_cl R)) .nil)) (.b _) ?_
      conv=>whnf
      refine callP h4 (Wks.refl _) rfl (ClL.cons hcl (ClL.cons (Cl.sl (itms_cl I)) (ClL.cons (Cl.sl (itms_cl V)) .nil))) (.i _ _) ?_
      conv=>whnf
      refine GIf.mk (fun z=>?_) (fun z=>?_)<;>conv=>whnf
      ·exfalso;have h9:¬((vlsG W).length:Int)=(itms V).length:=by simpa using z
       omega
      refine callP h5 (Wks.refl _) rfl (ClL.cons (Cl.sl (itms_cl V)) (ClL.cons (Cl.sl (vlsG_cl W)) .nil)) (.b _) ?_
      conv=>whnf
      refine callP h6 (Wks.refl _) rfl (ClL.cons hcl (ws4_cl I V R W)) (.b _) ?_
      conv=>whnf
      exact owes_wk (.refl _) (fun _=>rfl)
end Go.Proofs.YtlhabmglchgdnaaGreatDoor
namespace Go.Proofs.YtlhabmglchgdnaaGreatDoor
open Go.RowKit
set_option maxRecDepth 100000
set_option linter.unusedVariables false
theorem c_readU (s:By):SC Tryz.prog 46 [.s s] [] (.val (readG s)) []:=by
 by_cases hl:1000<s.length
 ·have e:readG s=.tup [.o .nilIface,.i .i64 3]:=by unfold readG readS;rw[if_pos hl]
  rw[e]
  refine SC.of_gwp noM mixed Tryz.func46 rfl (Nat.le_of_ble_eq_true rfl) (by first|exact Nat.le_refl _|simp) rfl ?_
  conv=>whnf
  refine GIf.mk (fun h=>?_) (fun h=>?_)<;>conv=>whnf
  ·exact owes_wk (.refl _) (fun _=>rfl)
  ·exfalso;have:=of_decide_eq_false h;omega
 ·exact c_read s (by unfold most;omega)
def bothG (s u:By):GV:=match readS s with
 |.err e=>.tup [.o .nilIface,.o .nilIface,.i .i64 e]
 |.ok x=>match readS u with
  |.err e=>.tup [x.gv,.o .nilIface,.i .i64 e]
  |.ok y=>.tup [x.gv,y.gv,.i .i64 0]
theorem bothG_cl (s u:By):Cl (bothG s u):=by
 unfold bothG
 split
 ·exact fun _=>rfl
 ·split
  ·exact Cl.tup (.cons (Tree.cl _) (fun _=>rfl))
  ·exact Cl.tup (.cons (Tree.cl _) (.cons (Tree.cl _) (.cons (.i _ _) .nil)))
theorem c_both (s u:By):SC Tryz.prog 110 [.s s,.s u] [] (.val (bothG s u)) []:=by
 have hr:=c_readU s
 have hcl:=readG_cl s
 have hr2:=c_readU u
 have hcl2:=readG_cl u
 have hcb:=bothG_cl s u
 unfold readG at hr hcl hr2 hcl2
 unfold bothG at hcb⊢
 cases h:readS s with
 |err e=>
  rw[h] at hr hcl hcb
  replace hr:SC Tryz.prog 46 [.s s] [] (.val (.tup [.o .nilIface,.i .i64 e])) []:=hr
  have he:=readS_err h
  simp only
  rcases he with rfl|rfl|rfl
  all_goals
   refine SC.of_gwp noM mixed Tryz.func110 rfl (Nat.le_of_ble_eq_true rfl) (by first|exact Nat.le_refl _|simp) rfl ?_
   conv=>whnf
   refine callP hr (Wks.refl _) rfl (fun _=>rfl) hcl ?_
   conv=>whnf
   exact owes_wk (.refl _) (fun _=>rfl)
 |ok x=>
  rw[h] at hr hcl hcb
  replace hr:SC Tryz.prog 46 [.s s] [] (.val (.tup [x.gv,.i .i64 0])) []:=hr
  simp only at hcb⊢
  cases h2:readS u with
  |err e=>
   rw[h2] at hr2 hcl2 hcb
   replace hr2:SC Tryz.prog 46 [.s u] [] (.val (.tup [.o .nilIface,.i .i64 e])) []:=hr2
   refine SC.of_gwp noM mixed Tryz.func110 rfl (Nat.le_of_ble_eq_true rfl) (by first|exact Nat.le_refl _|simp) rfl ?_
   conv=>whnf
   refine callP hr (Wks.refl _) rfl (fun _=>rfl) hcl ?_
   conv=>whnf
   refine callP hr2 (Wks.refl _) rfl (fun _=>rfl) hcl2 ?_
   conv=>whnf
   exact owes_wk (.refl _) hcb
  |ok y=>
   rw[h2] at hr2 hcl2 hcb
   replace hr2:SC Tryz.prog 46 [.s u] [] (.val (.tup [y.gv,.i .i64 0])) []:=hr2
   refine SC.of_gwp noM mixed Tryz.func110 rfl (Nat.le_of_ble_eq_true rfl) (by first|exact Nat.le_refl _|simp) rfl ?_
   conv=>whnf
   refine callP hr (Wks.refl _) rfl (fun _=>rfl) hcl ?_
   conv=>whnf
   refine callP hr2 (Wks.refl _) rfl (fun _=>rfl) hcl2 ?_
   conv=>whnf
   exact owes_wk (.refl _) hcb
def joinS (a:Bool) (s u:By):By×Int:=match readS s with
 |.err e=>([],e)
 |.ok x=>match readS u with
  |.err e=>([],e)
  |.ok y=>resS (.pair a x y)
def notS (s:By):By×Int:=match readS s with
 |.err e=>([],e)
 |.ok x=>resS (.no x)
theorem c_joined (a:Bool) (s u:By):SC Tryz.prog 62 [.s s,.s u,.i .i64 (opn a:Nat)] [] (.val (.tup [.s (joinS a s u).1,.i .i64 (joinS a s u).2])) []:=by
 have hr:=c_both s u
 have hcl:=bothG_cl s u
 unfold bothG at hr hcl
 unfold joinS
 cases h:readS s with
 |err e=>
  rw[h] at hr hcl
  replace hr:SC Tryz.prog 110 [.s s,.s u] [] (.val (.tup [.o .nilIface,.o .nilIface,.i .i64 e])) []:=hr
  have he:=readS_err h
  simp only
  rcases he with rfl|rfl|rfl
  all_goals
   refine SC.of_gwp noM mixed Tryz.func62 rfl (Nat.le_of_ble_eq_true rfl) (by first|exact Nat.le_refl _|simp) rfl ?_
   conv=>whnf
   refine callP hr (Wks.refl _) rfl (fun _=>rfl) hcl ?_
   conv=>whnf
   exact owes_wk (.refl _) (fun _=>rfl)
 |ok x=>
  rw[h] at hr hcl
  obtain⟨hn,hz,_⟩:=readS_bound h
  simp only at hr hcl⊢
  cases h2:readS u with
  |err e=>
   rw[h2] at hr hcl
   replace hr:SC Tryz.prog 110 [.s s,.s u] [] (.val (.tup [x.gv,.o .nilIface,.i .i64 e])) []:=hr
   have he:=readS_err h2
   simp only
   rcases he with rfl|rfl|rfl
   all_goals
    refine SC.of_gwp noM mixed Tryz.func62 rfl (Nat.le_of_ble_eq_true rfl) (by first|exact Nat.le_refl _|simp) rfl ?_
    conv=>whnf
    refine callP hr (Wks.refl _) rfl (fun _=>rfl) hcl ?_
    conv=>whnf
    exact owes_wk (.refl _) (fun _=>rfl)
  |ok y=>
   rw[h2] at hr hcl
   replace hr:SC Tryz.prog 110 [.s s,.s u] [] (.val (.tup [x.gv,y.gv,.i .i64 0])) []:=hr
   obtain⟨hn2,hz2,_⟩:=readS_bound h2
   have hres:=c_result (.pair a x y) ⟨hn,hn2⟩ (by simp only[Tree.size];omega)
   simp only
   generalize resS (.pair a x y)=q at*
   obtain⟨w,e⟩:=q
   refine SC.of_gwp noM mixed Tryz.func62 rfl (Nat.le_of_ble_eq_true rfl) (by first|exact Nat.le_refl _|simp) rfl ?_
   conv=>whnf
   refine callP hr (Wks.refl _) rfl (fun _=>rfl) hcl ?_
   conv=>whnf
   refine callP hres (Wks.refl _) rfl (ClL.cons (Tree.cl (.pair a x y)) .nil) (fun _=>rfl) ?_
   conv=>whnf
   exact owes_wk (.refl _) (fun _=>rfl)
theorem c_And (s u:By):SC Tryz.prog 25 [.s s,.s u] [] (.val (.tup [.s (joinS true s u).1,.i .i64 (joinS true s u).2])) []:=by
 have h:=c_joined true s u
 refine SC.of_gwp noM mixed Tryz.func25 rfl (Nat.le_of_ble_eq_true rfl) (by first|exact Nat.le_refl _|simp) rfl ?_
 conv=>whnf
 refine callP h (Wks.refl _) rfl (fun _=>rfl) (fun _=>rfl) ?_
 conv=>whnf
 exact owes_wk (.refl _) (fun _=>rfl)
theorem c_Or (s u:By):SC Tryz.prog 26 [.s s,.s u] [] (.val (.tup [.s (joinS false s u).1,.i .i64 (joinS false s u).2])) []:=by
 have h:=c_joined false s u
 refine SC.of_gwp noM mixed Tryz.func26 rfl (Nat.le_of_ble_eq_true rfl) (by first|exact Nat.le_refl _|simp) rfl ?_
 conv=>whnf
 refine callP h (Wks.refl _) rfl (fun _=>rfl) (fun _=>rfl) ?_
 conv=>whnf
 exact owes_wk (.refl _) (fun _=>rfl)
theorem c_Not (s:By):SC Tryz.prog 27 [.s s] [] (.val (.tup [.s (notS s).1,.i .i64 (notS s).2])) []:=by
 have hr:=c_readU s
 have hcl:=readG_cl s
 unfold readG at hr hcl
 unfold notS
 cases h:readS s with
 |err e=>
  rw[h] at hr hcl
  replace hr:SC Tryz.prog 46 [.s s] [] (.val (.tup [.o .nilIface,.i .i64 e])) []:=hr
  have he:=readS_err h
  simp only
  rcases he with rfl|rfl|rfl
  all_goals
   refine SC.of_gwp noM mixed Tryz.func27 rfl (Nat.le_of_ble_eq_true rfl) (by first|exact Nat.le_refl _|simp) rfl ?_
   conv=>whnf
   refine callP hr (Wks.refl _) rfl (fun _=>rfl) hcl ?_
   conv=>whnf
   exact owes_wk (.refl _) (fun _=>rfl)
 |ok x=>
  rw[h] at hr hcl
  replace hr:SC Tryz.prog 46 [.s s] [] (.val (.tup [x.gv,.i .i64 0])) []:=hr
  obtain⟨hn,hz,_⟩:=readS_bound h
  have hres:=c_result (.no x) hn (by simp only[Tree.size];omega)
  simp only
  generalize resS (.no x)=q at*
  obtain⟨w,e⟩:=q
  refine SC.of_gwp noM mixed Tryz.func27 rfl (Nat.le_of_ble_eq_true rfl) (by first|exact Nat.le_refl _|simp) rfl ?_
  conv=>whnf
  refine callP hr (Wks.refl _) rfl (fun _=>rfl) hcl ?_
  conv=>whnf
  refine callP hres (Wks.refl _) rfl (ClL.cons (Tree.cl (.no x)) .nil) (fun _=>rfl) ?_
  conv=>whnf
  exact owes_wk (.refl _) (fun _=>rfl)
end Go.Proofs.YtlhabmglchgdnaaGreatDoor
namespace Go.Proofs.YtlhabmglchgdnaaGreatDoor
open Go.RowKit
set_option maxRecDepth 100000
set_option linter.unusedVariables false
def part (f:Term->By) (L:List Term) (i:Nat):List By:=(L.take i).foldl (fun l x=>addN l (f x)) []
end Go.Proofs.YtlhabmglchgdnaaGreatDoor
namespace Go.Proofs.YtlhabmglchgdnaaGreatDoor
open Go.RowKit
set_option maxRecDepth 100000
set_option linter.unusedVariables false
def wakeT:By:=[97,61,49,32,97,110,100,32,40,98,60,62,34,120,34,32,111,114,32,110,111,116,40,99,32,60,32,58,118,41,41]
def wakeS:By:=[97,32,61,32,49,32,97,110,100,32,40,98,32,60,62,32,34,120,34,32,111,114,32,110,111,116,32,99,32,60,32,58,118,41]
theorem wake_show:showS wakeT=(wakeS,0):=by
 rw[<-showR_eq]
 kernel_rfl
theorem l_awake:SC Tryz.prog 9 [] [] (.val (.b true)) []:=by
 have h:=c_Show wakeT (by unfold most wakeT;simp)
 rw[wake_show] at h
 replace h:SC Tryz.prog 10 [.s wakeT] [] (.val (.tup [.s wakeS,.i .i64 0])) []:=h
 refine SC.of_gwp noM mixed Tryz.func9 rfl (Nat.le_of_ble_eq_true rfl) (by first|exact Nat.le_refl _|simp) rfl ?_
 conv=>whnf
 refine callP h (Wks.refl _) rfl (fun _=>rfl) (fun _=>rfl) ?_
 conv=>whnf
 exact owes_b rfl
end Go.Proofs.YtlhabmglchgdnaaGreatDoor
