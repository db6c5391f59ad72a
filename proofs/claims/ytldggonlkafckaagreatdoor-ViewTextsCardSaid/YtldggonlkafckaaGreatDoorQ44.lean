/-
  A part of the proof of ViewTexts.
-/
import Derived.Test.YtldggonlkafckaaGreatDoorQ43
import Derived.Test.YtldggonlkafckaaGreatDoorQ33
set_option linter.all false
namespace Go.Proofs.YtldggonlkafckaaGreatDoor
open Go.RowKit
set_option maxRecDepth 100000
set_option linter.unusedVariables false
theorem c_EqualI [MaxL] (a b:List (By×By)) (ha:a.length<=1000000):SC Tryz.prog 38 [.sl .none (itG a),.sl .none (itG b)] [] (.val (.b (decide (a=b)))) []:=by
 have l1:=itG_len a
 have l2:=itG_len b
 refine gwS Tryz.func38 rfl ?_
 conv=>whnf
 refine GIf.mk (fun g1=>?_) (fun g1=>?_)<;>conv=>whnf
 ·refine owes_b (decide_eq_false fun e=>?_).symm
  have h9:¬((itG a).length:Int)=(itG b).length:=by simpa using g1
  rw[e] at h9;exact h9 rfl
 have e1:a.length=b.length:=by
  have h9:((itG a).length:Int)=(itG b).length:=by simpa using g1
  omega
 clear g1
 refine GLoop.intro (fun i:Nat=>i<=a.length/\a.take i=b.take i) (fun i=>[(0,.sl .none (itG a)),(1,.sl .none (itG b)),(12,.i .i64 (itG a).length),(13,.i .i64 (i:Nat))]) (fun _=>⟨[],0,[]⟩) (fun i=>a.length - i) 0 ⟨zL _,rfl⟩ ⟨rfl,rfl,rfl,rfl,trivial⟩ rfl (fun i φ0 hi=>?_)
 obtain⟨hi,hall⟩:=hi
 conv=>whnf
 refine GIf.mk (fun h=>?_) (fun h=>?_)<;>conv=>whnf
 rotate_left
 ·have hie:i=a.length:=by have h9:¬((i:Nat):Int)<((itG a).length:Nat):=of_decide_eq_false h;omega
  rw[hie,List.take_length,e1,List.take_length] at hall
  exact owes_b (decide_eq_true hall).symm
 have hlt:i<a.length:=by have h9:((i:Nat):Int)<((itG a).length:Nat):=of_decide_eq_true h;omega
 have hex:∃p,a[i]?=some p:=⟨a[i],gL hlt⟩
 have hex2:∃p,b[i]?=some p:=⟨b[i]'(by omega),gL _⟩
 refine hex.elim (fun p hp=>hex2.elim (fun q hq=>?_))
 have gp:=itG_at hp
 have gq:=itG_at hq
 have bad:=at_ne hp hq
 have nxt:=take_snoc hp hq hall
 refine GDraw.calm (by kernel_rfl) ?_
 conv=>whnf
 refine⟨cN _,_,gp,rfl,?_⟩
 conv=>whnf
 refine⟨cN _,_,gq,rfl,?_⟩
 conv=>whnf
 refine⟨by kernel_rfl,?_⟩
 conv=>whnf
 refine GIf.mk (fun hne=>?_) (fun hne=>?_)<;>conv=>whnf
 ·refine owes_b (decide_eq_false (bad fun e=>?_)).symm
  rw[e] at hne
  simp at hne
 ·have hpq:p=q:=by
   obtain⟨pa,pb⟩:=p
   obtain⟨qa,qb⟩:=q
   simp at hne
   rw[hne.1,hne.2]
  exact GLoop.next (i+1) ⟨hlt,nxt hpq⟩ (by omega) ⟨rfl,rfl,rfl,wrap_succ (by omega),trivial⟩ rfl
theorem c_EqualS [MaxL] (a b:List (By×By)) (ha:a.length<=1000000):SC Tryz.prog 35 [.sl .none (itG a),.sl .none (itG b)] [] (.val (.b (decide (a=b)))) []:=by
 have l1:=itG_len a
 have l2:=itG_len b
 refine gwS Tryz.func35 rfl ?_
 conv=>whnf
 refine GIf.mk (fun g1=>?_) (fun g1=>?_)<;>conv=>whnf
 ·refine owes_b (decide_eq_false fun e=>?_).symm
  have h9:¬((itG a).length:Int)=(itG b).length:=by simpa using g1
  rw[e] at h9;exact h9 rfl
 have e1:a.length=b.length:=by
  have h9:((itG a).length:Int)=(itG b).length:=by simpa using g1
  omega
 clear g1
 refine GLoop.intro (fun i:Nat=>i<=a.length/\a.take i=b.take i) (fun i=>[(0,.sl .none (itG a)),(1,.sl .none (itG b)),(12,.i .i64 (itG a).length),(13,.i .i64 (i:Nat))]) (fun _=>⟨[],0,[]⟩) (fun i=>a.length - i) 0 ⟨zL _,rfl⟩ ⟨rfl,rfl,rfl,rfl,trivial⟩ rfl (fun i φ0 hi=>?_)
 obtain⟨hi,hall⟩:=hi
 conv=>whnf
 refine GIf.mk (fun h=>?_) (fun h=>?_)<;>conv=>whnf
 rotate_left
 ·have hie:i=a.length:=by have h9:¬((i:Nat):Int)<((itG a).length:Nat):=of_decide_eq_false h;omega
  rw[hie,List.take_length,e1,List.take_length] at hall
  exact owes_b (decide_eq_true hall).symm
 have hlt:i<a.length:=by have h9:((i:Nat):Int)<((itG a).length:Nat):=of_decide_eq_true h;omega
 have hex:∃p,a[i]?=some p:=⟨a[i],gL hlt⟩
 have hex2:∃p,b[i]?=some p:=⟨b[i]'(by omega),gL _⟩
 refine hex.elim (fun p hp=>hex2.elim (fun q hq=>?_))
 have gp:=itG_at hp
 have gq:=itG_at hq
 have bad:=at_ne hp hq
 have nxt:=take_snoc hp hq hall
 refine GDraw.calm (by kernel_rfl) ?_
 conv=>whnf
 refine⟨cN _,_,gp,rfl,?_⟩
 conv=>whnf
 refine⟨cN _,_,gq,rfl,?_⟩
 conv=>whnf
 refine⟨by kernel_rfl,?_⟩
 conv=>whnf
 refine GIf.mk (fun hne=>?_) (fun hne=>?_)<;>conv=>whnf
 ·refine owes_b (decide_eq_false (bad fun e=>?_)).symm
  rw[e] at hne
  simp at hne
 ·have hpq:p=q:=by
   obtain⟨pa,pb⟩:=p
   obtain⟨qa,qb⟩:=q
   simp at hne
   rw[hne.1,hne.2]
  exact GLoop.next (i+1) ⟨hlt,nxt hpq⟩ (by omega) ⟨rfl,rfl,rfl,wrap_succ (by omega),trivial⟩ rfl
theorem c_same1 [MaxL] (x y:VwR) (h:x.items.length<=1000000):SC Tryz.prog 37 [recG x,recG y] [] (.val (.b (decide (x=y)))) []:=by
 have hq:=c_EqualI x.items y.items h
 have no:∀q:x≠y,false=decide (x=y):=fun q=>(decide_eq_false q).symm
 refine gwS Tryz.func37 rfl ?_
 conv=>whnf
 refine GIf.mk (fun n1=>?_) (fun n1=>?_)<;>conv=>whnf
 rotate_left
 ·exact owes_b (no fun e=>by rw[e] at n1;simp at n1)
 refine GIf.mk (fun n2=>?_) (fun n2=>?_)<;>conv=>whnf
 rotate_left
 ·exact owes_b (no fun e=>by rw[e] at n2;simp at n2)
 refine GIf.mk (fun n3=>?_) (fun n3=>?_)<;>conv=>whnf
 rotate_left
 ·exact owes_b (no fun e=>by rw[e] at n3;simp at n3)
 refine callP hq (wR _) rfl (cC (Cl.sl (itG_cl _)) (cC (Cl.sl (itG_cl _)) .nil)) (.b _) ?_
 conv=>whnf
 refine owes_b ?_
 have m1:x.name=y.name:=by simpa using n1
 have m2:x.of=y.of:=by simpa using n2
 have m3:x.only=y.only:=by simpa using n3
 obtain⟨a,b,c,d⟩:=x
 obtain⟨a',b',c',d'⟩:=y
 simp only at m1 m2 m3
 subst m1 m2 m3
 rw[Bool.eq_iff_iff]
 simp
theorem c_EqualR [MaxL] (a b:List VwR) (ha:a.length<=1000000) (hi:∀r∈a,r.items.length<=1000000):SC Tryz.prog 36 [.sl .none (recsG a),.sl .none (recsG b),.fn (.func 37) [] []] [] (.val (.b (decide (a=b)))) []:=by
 have l1:=recsG_len a
 have l2:=recsG_len b
 refine gwS Tryz.func36 rfl ?_
 conv=>whnf
 refine GIf.mk (fun g1=>?_) (fun g1=>?_)<;>conv=>whnf
 ·refine owes_b (decide_eq_false fun e=>?_).symm
  have h9:¬((recsG a).length:Int)=(recsG b).length:=by simpa using g1
  rw[e] at h9;exact h9 rfl
 have e1:a.length=b.length:=by
  have h9:((recsG a).length:Int)=(recsG b).length:=by simpa using g1
  omega
 clear g1
 refine GLoop.introS (fun i:Nat=>i<=a.length/\a.take i=b.take i) (fun i=>[(1,.sl .none (recsG b)),(2,.fn (.func 37) [] []),(15,.sl .none (recsG a)),(16,.i .i64 (recsG a).length),(17,.i .i64 (i:Nat))]) (fun _=>⟨[],0,[]⟩) (fun i=>a.length - i) 0 ⟨zL _,rfl⟩ ⟨rfl,rfl,rfl,rfl,rfl,trivial⟩ rfl (fun _ _=>rL _) (fun _ _=>rfl) (fun i _ e he=>?_) (fun i φ0 hi=>?_)
 ·refine⟨rfl,rfl,?_⟩
  show[(GV.sl .none (recsG b)).ren e,_,(GV.sl .none (recsG a)).ren e,_,_]=_
  rw[Cl.sl (recsG_cl a) e,Cl.sl (recsG_cl b) e];rfl
 obtain⟨hi',hall⟩:=hi
 conv=>whnf
 refine GIf.mk (fun h=>?_) (fun h=>?_)<;>conv=>whnf
 rotate_left
 ·have hie:i=a.length:=by have h9:¬((i:Nat):Int)<((recsG a).length:Nat):=of_decide_eq_false h;omega
  rw[hie,List.take_length,e1,List.take_length] at hall
  exact owes_b (decide_eq_true hall).symm
 have hlt:i<a.length:=by have h9:((i:Nat):Int)<((recsG a).length:Nat):=of_decide_eq_true h;omega
 have hex:∃p,a[i]?=some p:=⟨a[i],gL hlt⟩
 have hex2:∃p,b[i]?=some p:=⟨b[i]'(by omega),gL _⟩
 refine hex.elim (fun p hp=>hex2.elim (fun q hq=>?_))
 have gp:=recsG_at hp
 have gq:=recsG_at hq
 have bad:=at_ne hp hq
 have nxt:=take_snoc hp hq hall
 have hc:=c_same1 p q (hi p (List.mem_of_getElem? hp))
 refine⟨cN _,_,gp,rfl,?_⟩
 conv=>whnf
 refine⟨_,⟨rfl,zL _,rfl,bL rfl⟩,?_⟩
 conv=>whnf
 refine⟨cN _,_,gq,rfl,?_⟩
 conv=>whnf
 refine⟨_,⟨rfl,zL _,rfl,bL rfl⟩,?_⟩
 conv=>whnf
 by_cases hpq:p=q
 ·rw[decide_eq_true hpq] at hc
  refine callP hc (wR _) rfl (cC (recG_cl _) (cC (recG_cl _) .nil)) (.b _) ?_
  conv=>whnf
  exact⟨a.length - (i+1),(by omega),i+1,⟨hlt,nxt hpq⟩,rfl,⟨rfl,rfl,rfl,rfl,wrap_succ (by omega),trivial⟩,_,rfl,rfl⟩
 ·rw[decide_eq_false hpq] at hc
  refine callP hc (wR _) rfl (cC (recG_cl _) (cC (recG_cl _) .nil)) (.b _) ?_
  conv=>whnf
  exact owes_b (decide_eq_false (bad hpq)).symm
theorem c_SameV [MaxL] (v w:Vw) (h1:v.recs.length<=100000) (h2:v.sets.length<=100000) (h3:∀r∈v.recs,r.items.length<=100000):SC Tryz.prog 11 [viewG v,viewG w] [] (.val (.b (decide (v=w)))) []:=by
 have q1:=c_EqualS v.sets w.sets (by omega)
 have q2:=c_EqualR v.recs w.recs (by omega) (fun r hr=>by have:=h3 r hr;omega)
 have e:decide (v=w)=(decide (v.sets=w.sets)&&decide (v.recs=w.recs)):=by
  obtain⟨a,b⟩:=v
  obtain⟨c,d⟩:=w
  rw[Bool.eq_iff_iff]
  simp[and_comm]
 rw[e]
 rcases Bool.eq_false_or_eq_true (decide (v.sets=w.sets)) with h|h
 ·rw[h] at q1⊢
  refine gwS Tryz.func11 rfl ?_
  conv=>whnf
  refine callP q1 (wR _) rfl (cC (Cl.sl (itG_cl _)) (cC (Cl.sl (itG_cl _)) .nil)) (.b _) ?_
  conv=>whnf
  refine callP q2 (wR _) rfl (cC (Cl.sl (recsG_cl _)) (cC (Cl.sl (recsG_cl _)) (fun _=>rfl))) (.b _) ?_
  conv=>whnf
  exact owes_b rfl
 ·rw[h] at q1⊢
  refine gwS Tryz.func11 rfl ?_
  conv=>whnf
  refine callP q1 (wR _) rfl (cC (Cl.sl (itG_cl _)) (cC (Cl.sl (itG_cl _)) .nil)) (.b _) ?_
  conv=>whnf
  exact owes_b rfl
theorem c_form1 [MaxL] (p:By×By):SC Tryz.prog 72 [pairG p] [] (.val (.b (!formP p))) []:=by
 have r1:=c_Name p.1
 have r2:=c_Name p.2
 unfold formP
 rcases Bool.eq_false_or_eq_true (isName p.1) with b1|b1
 ·rw[b1] at r1⊢
  refine gwS Tryz.func72 rfl ?_
  conv=>whnf
  refine callP r1 (wR _) rfl (fun _=>rfl) (.b _) ?_
  conv=>whnf
  refine callP r2 (wR _) rfl (fun _=>rfl) (.b _) ?_
  conv=>whnf
  exact owes_b (by simp)
 ·rw[b1] at r1⊢
  refine gwS Tryz.func72 rfl ?_
  conv=>whnf
  refine callP r1 (wR _) rfl (fun _=>rfl) (.b _) ?_
  conv=>whnf
  exact owes_b rfl
def idxF (l:List (By×By)):Int:=match l.findIdx? (fun p=>!formP p) with
 |some i=>(i:Nat)
 |none=> -1
theorem idxF_no {l:List (By×By)} (h:∀p∈l,formP p=true):idxF l= -1:=by
 unfold idxF
 rw[List.findIdx?_eq_none_iff.2 (fun p hp=>by rw[h p hp];rfl)]
theorem idxF_at {l:List (By×By)} {i:Nat} {p:By×By} (hp:l[i]?=some p) (h:∀q∈l.take i,formP q=true) (hf:formP p=false):idxF l=(i:Nat):=by
 unfold idxF
 obtain⟨h1,h2⟩:=List.getElem?_eq_some_iff.1 hp
 rw[List.findIdx?_eq_some_iff_getElem.2 ⟨h1,by rw[h2,hf];rfl,fun j hj=>?_⟩]
 have:=h (l[j]'(by omega)) (by rw[List.mem_take_iff_getElem];exact⟨j,by omega,rfl⟩)
 rw[this];simp
theorem c_IdxF [MaxL] (l:List (By×By)) (hl:l.length<=1000000):SC Tryz.prog 128 [.sl .none (itG l),.fn (.func 72) [] []] [] (.val (.i .i64 (idxF l))) []:=by
 have l1:=itG_len l
 refine gwS Tryz.func128 rfl ?_
 conv=>whnf
 refine GLoop.intro (fun i:Nat=>i<=l.length/\∀p∈l.take i,formP p=true) (fun i=>[(0,.sl .none (itG l)),(1,.fn (.func 72) [] []),(7,.i .i64 (itG l).length),(8,.i .i64 (i:Nat))]) (fun _=>⟨[],0,[]⟩) (fun i=>l.length - i) 0 ⟨zL _,fun p hp=>by cases hp⟩ ⟨rfl,rfl,rfl,rfl,trivial⟩ rfl (fun i φ0 hi=>?_)
 obtain⟨hi,hall⟩:=hi
 conv=>whnf
 refine GIf.mk (fun h=>?_) (fun h=>?_)<;>conv=>whnf
 rotate_left
 ·have hie:i=l.length:=by have h9:¬((i:Nat):Int)<((itG l).length:Nat):=of_decide_eq_false h;omega
  rw[hie,List.take_length] at hall
  exact owes_i (idxF_no hall).symm
 have hlt:i<l.length:=by have h9:((i:Nat):Int)<((itG l).length:Nat):=of_decide_eq_true h;omega
 have hex:∃p,l[i]?=some p:=⟨l[i],gL hlt⟩
 refine hex.elim (fun p hp=>?_)
 have gp:=itG_at hp
 have hc:=c_form1 p
 have nxt:=take_all hp hall
 have bad:=idxF_at hp hall
 refine⟨cN _,_,gp,rfl,?_⟩
 conv=>whnf
 refine(Bool.eq_false_or_eq_true (formP p)).elim (fun b=>?_) (fun b=>?_)
 ·rw[b] at hc
  refine callP hc (wR _) rfl (cC (pairG_cl _) .nil) (.b _) ?_
  conv=>whnf
  exact GLoop.next (i+1) ⟨hlt,nxt b⟩ (by omega) ⟨rfl,rfl,rfl,wrap_succ (by omega),trivial⟩ rfl
 ·rw[b] at hc
  refine callP hc (wR _) rfl (cC (pairG_cl _) .nil) (.b _) ?_
  conv=>whnf
  exact owes_i (bad b).symm
theorem idxF_ge (l:List (By×By)):decide (idxF l>=0)=!l.all formP:=by
 unfold idxF
 cases h:l.findIdx? (fun p=>!formP p) with
 |none=>
  have:=List.findIdx?_eq_none_iff.1 h
  rw[List.all_eq_true.2 (fun p hp=>by have:=this p hp;simpa using this)];rfl
 |some i=>
  obtain⟨h1,h2,_⟩:=List.findIdx?_eq_some_iff_getElem.1 h
  rw[List.all_eq_false.2 ⟨l[i],List.getElem_mem h1,by simpa using h2⟩]
  simp
theorem c_ContF [MaxL] (l:List (By×By)) (hl:l.length<=1000000):SC Tryz.prog 71 [.sl .none (itG l),.fn (.func 72) [] []] [] (.val (.b (!l.all formP))) []:=by
 have h:=c_IdxF l hl
 rw[<-idxF_ge]
 generalize idxF l=n at h
 refine gwS Tryz.func71 rfl ?_
 conv=>whnf
 refine callP h (wR _) rfl (cC (Cl.sl (itG_cl _)) (fun _=>rfl)) (.i _ _) ?_
 conv=>whnf
 exact owes_b rfl
set_option maxHeartbeats 4000000 in
theorem c_form [MaxL] (v:Vw) (h1:v.recs.length<=100000) (h2:v.sets.length<=100000) (h3:∀r∈v.recs,r.items.length<=100000/\r.only.length<1000000):SC Tryz.prog 32 [viewG v] [] (.val (.b (formV v))) []:=by
 have l1:=recsG_len v.recs
 have l2:=itG_len v.sets
 have hcf:=c_ContF v.sets (by omega)
 refine gwS Tryz.func32 rfl ?_
 conv=>whnf
 refine GLoop.introS (fun i:Nat=>i<=v.recs.length/\∀r∈v.recs.take i,formR r=true) (fun i=>[(1,.ptr 0 0),(10,.sl .none (recsG v.recs)),(11,.i .i64 (recsG v.recs).length),(12,.i .i64 (i:Nat))]) (fun _=>⟨[.box 25 (viewC v)],0,[]⟩) (fun i=>v.recs.length - i) 0 ⟨zL _,fun r hr=>by cases hr⟩ ⟨rfl,rfl,rfl,rfl,trivial⟩ rfl (fun _ _=>rL _) (fun _ _=>rfl) (fun i _ e he=>?_) (fun i φ0 hi=>?_)
 ·refine⟨by show[GObj.ren e _]=_;rw[viewBox_ren],rfl,?_⟩
  show[GV.ptr (e 0) 0,(GV.sl .none (recsG v.recs)).ren e,_,_]=_
  rw[he 0 (by simp),Cl.sl (recsG_cl _) e];rfl
 obtain⟨hi,hall⟩:=hi
 conv=>whnf
 refine GIf.mk (fun h=>?_) (fun h=>?_)<;>conv=>whnf
 rotate_left
 ·have hie:i=v.recs.length:=by have h9:¬((i:Nat):Int)<((recsG v.recs).length:Nat):=of_decide_eq_false h;omega
  rw[hie,List.take_length] at hall
  have e:formV v=(!v.recs.isEmpty&&v.sets.all formP):=by unfold formV;rw[List.all_eq_true.2 hall];rfl
  rw[e]
  refine GIf.mk (fun h8=>?_) (fun h8=>?_)<;>conv=>whnf
  ·have h9:((recsG v.recs).length:Int)>0:=by simpa using h8
   have hne:v.recs.isEmpty=false:=by
    cases hr:v.recs with
    |nil=>rw[hr] at h9;exact absurd h9 (by decide)
    |cons a l=>rfl
   rw[hne]
   refine callP hcf (wR _) rfl (cC (Cl.sl (itG_cl _)) (fun _=>rfl)) (.b _) ?_
   conv=>whnf
   exact owes_b (by simp)
  ·have h9:¬((recsG v.recs).length:Int)>0:=by simpa using h8
   have hne:v.recs.isEmpty=true:=by
    cases hr:v.recs with
    |nil=>rfl
    |cons a l=>rw[hr] at h9;exact absurd (by show((recsG (a::l)).length:Int)>0;rw[recsG_len];simp) h9
   rw[hne]
   exact owes_b rfl
 have hlt:i<v.recs.length:=by have h9:((i:Nat):Int)<((recsG v.recs).length:Nat):=of_decide_eq_true h;omega
 have hex:∃r,v.recs[i]?=some r:=⟨v.recs[i],gL hlt⟩
 refine hex.elim (fun r hr=>?_)
 have hg:=recsG_at hr
 have hm:=List.mem_of_getElem? hr
 obtain⟨h4,h5⟩:=h3 r hm
 have bad:=formV_bad1 (v:=v) hm
 have nxt:=take_all hr hall
 have r1:=c_Name r.name
 have r2:=c_Name r.of
 have r3:=c_Show r.only (by unfold most;omega)
 have l3:=itG_len r.items
 refine⟨cN _,_,hg,rfl,?_⟩
 conv=>whnf
 refine⟨_,⟨rfl,zL _,rfl,bL rfl⟩,?_⟩
 conv=>whnf
 unfold formR at bad nxt
 refine(Bool.eq_false_or_eq_true (isName r.name)).elim (fun b1=>?_) (fun b1=>?_)
 rotate_left
 ·rw[b1] at r1 bad
  refine callP r1 (wR _) rfl (fun _=>rfl) (.b _) ?_
  conv=>whnf
  exact owes_b (bad rfl).symm
 rw[b1] at r1 bad nxt
 refine callP r1 (wR _) rfl (fun _=>rfl) (.b _) ?_
 conv=>whnf
 refine(Bool.eq_false_or_eq_true (isName r.of)).elim (fun b2=>?_) (fun b2=>?_)
 rotate_left
 ·rw[b2] at r2 bad
  refine callP r2 (wR _) rfl (fun _=>rfl) (.b _) ?_
  conv=>whnf
  exact owes_b (bad rfl).symm
 rw[b2] at r2 bad nxt
 refine callP r2 (wR _) rfl (fun _=>rfl) (.b _) ?_
 conv=>whnf
 refine GIf.mk (fun h6=>?_) (fun h6=>?_)<;>conv=>whnf
 ·refine owes_b (bad ?_).symm
  have:r.items=[]:=by
   have h9:((itG r.items).length:Int)=0:=by simpa using h6
   exact List.length_eq_zero_iff.1 (by omega)
  rw[this];rfl
 have hne:r.items.isEmpty=false:=by
  have h9:¬((itG r.items).length:Int)=0:=by simpa using h6
  cases hri:r.items with
  |nil=>rw[hri] at h9;exact absurd rfl h9
  |cons a l=>rfl
 rw[hne] at bad nxt
 have bad1:r.items.all formP=false->formV v=false:=fun q=>bad (by rw[q];rfl)
 have n0:v.recs.length - (i+1)<v.recs.length - i:=by omega
 have hcan:canon r.only=(decide ((showS r.only).2=0)&&decide ((showS r.only).1=r.only)):=by
  unfold canon
  rw[Bool.eq_iff_iff]
  simp[Prod.ext_iff,and_comm]
 rw[hcan] at bad nxt
 generalize showS r.only=Q at r3 bad nxt
 obtain⟨Q1,Q2⟩:=Q
 have bad2:r.items.all formP=true->(r.only.isEmpty||(decide (Q2=0)&&decide (Q1=r.only)))=false->formV v=false:=fun q q2=>bad (by rw[q];exact q2)
 have good:r.items.all formP=true->(r.only.isEmpty||(decide (Q2=0)&&decide (Q1=r.only)))=true->i+1<=v.recs.length/\∀y∈v.recs.take (i+1),formR y=true:=fun q q2=>⟨hlt,nxt (by rw[q];exact q2)⟩
 clear bad nxt r1 r2 hcan h6 hall
 refine GLoop.introS (fun k:Nat=>k<=r.items.length/\∀p∈r.items.take k,formP p=true) (fun k=>[(1,.ptr 0 0),(10,.sl .none (recsG v.recs)),(11,.i .i64 (recsG v.recs).length),(12,.i .i64 (i:Nat)),(4,.ptr 1 0),(33,.sl .none (itG r.items)),(34,.i .i64 (itG r.items).length),(35,.i .i64 (k:Nat))]) (fun _=>⟨[.box 25 (viewC v),.box 68 (recC r)],0,[]⟩) (fun k=>r.items.length - k) 0 ⟨zL _,fun r hr=>by cases hr⟩ ⟨rfl,rfl,rfl,rfl,rfl,rfl,rfl,rfl,trivial⟩ rfl (fun _ _=>rL _) (fun _ _=>rfl) (fun k _ e he=>?_) (fun k φ1 hk=>?_)
 ·refine⟨by show[GObj.ren e _,GObj.ren e _]=_;rw[viewBox_ren,recBox_ren],rfl,?_⟩
  show[GV.ptr (e 0) 0,(GV.sl .none (recsG v.recs)).ren e,_,_,GV.ptr (e 1) 0,(GV.sl .none (itG r.items)).ren e,_,_]=_
  rw[he 0 (by simp),he 1 (by simp),Cl.sl (recsG_cl _) e,Cl.sl (itG_cl _) e];rfl
 clear h
 obtain⟨hk,hits⟩:=hk
 conv=>whnf
 refine GIf.mk (fun h=>?_) (fun h=>?_)<;>conv=>whnf
 rotate_left
 ·have hke:k=r.items.length:=by have h9:¬((k:Nat):Int)<((itG r.items).length:Nat):=of_decide_eq_false h;omega
  rw[hke,List.take_length] at hits
  have hai:=List.all_eq_true.2 hits
  replace bad2:=bad2 hai
  replace good:=good hai
  refine callP r3 (wR _) rfl (fun _=>rfl) (fun _=>rfl) ?_
  conv=>whnf
  refine GIf.mk (fun h7=>?_) (fun h7=>?_)<;>conv=>whnf
  rotate_left
  ·have h9:r.only=[]:=by simpa using h7
   have n1:=good (by rw[h9];rfl)
   exact⟨v.recs.length - (i+1),n0,i+1,n1,rfl,⟨rfl,rfl,rfl,wrap_succ (by omega),trivial⟩,[_],rfl,rfl⟩
  have h9:r.only≠[]:=by simpa using h7
  have he:r.only.isEmpty=false:=by
   cases ho:r.only with
   |nil=>exact absurd ho h9
   |cons a l=>rfl
  rw[he] at bad2 good
  refine GIf.mk (fun h8=>?_) (fun h8=>?_)<;>conv=>whnf
  ·have q:¬Q2=0:=by simpa using h8
   exact owes_b (bad2 (by rw[decide_eq_false q];rfl)).symm
  have q:Q2=0:=by simpa using h8
  refine GIf.mk (fun h10=>?_) (fun h10=>?_)<;>conv=>whnf
  ·have q2:¬Q1=r.only:=by simpa using h10
   exact owes_b (bad2 (by rw[decide_eq_false q2,Bool.and_false];rfl)).symm
  ·have q2:Q1=r.only:=by simpa using h10
   have n1:=good (by rw[decide_eq_true q,decide_eq_true q2];rfl)
   exact⟨v.recs.length - (i+1),n0,i+1,n1,rfl,⟨rfl,rfl,rfl,wrap_succ (by omega),trivial⟩,[_],rfl,rfl⟩
 have hkl:k<r.items.length:=by have h9:((k:Nat):Int)<((itG r.items).length:Nat):=of_decide_eq_true h;omega
 have hex2:∃p,r.items[k]?=some p:=⟨r.items[k],gL hkl⟩
 refine hex2.elim (fun p hp=>?_)
 have hgp:=itG_at hp
 have q1:=c_Name p.1
 have q2:=c_Name p.2
 have bad3:formP p=false->formV v=false:=fun w=>bad1 (List.all_eq_false.2 ⟨p,List.mem_of_getElem? hp,by rw[w];simp⟩)
 have nxt2:=take_all hp hits
 unfold formP at bad3 nxt2
 refine⟨cN _,_,hgp,rfl,?_⟩
 conv=>whnf
 refine⟨_,⟨rfl,zL _,rfl,bL rfl⟩,?_⟩
 conv=>whnf
 refine(Bool.eq_false_or_eq_true (isName p.1)).elim (fun b1=>?_) (fun b1=>?_)
 rotate_left
 ·rw[b1] at q1 bad3
  refine callP q1 (wR _) rfl (fun _=>rfl) (.b _) ?_
  conv=>whnf
  exact owes_b (bad3 rfl).symm
 rw[b1] at q1 bad3 nxt2
 refine callP q1 (wR _) rfl (fun _=>rfl) (.b _) ?_
 conv=>whnf
 refine(Bool.eq_false_or_eq_true (isName p.2)).elim (fun b2=>?_) (fun b2=>?_)
 rotate_left
 ·rw[b2] at q2 bad3
  refine callP q2 (wR _) rfl (fun _=>rfl) (.b _) ?_
  conv=>whnf
  exact owes_b (bad3 rfl).symm
 rw[b2] at q2 nxt2
 refine callP q2 (wR _) rfl (fun _=>rfl) (.b _) ?_
 conv=>whnf
 exact⟨r.items.length - (k+1),(by omega),k+1,⟨hkl,nxt2 rfl⟩,rfl,⟨rfl,rfl,rfl,rfl,rfl,rfl,rfl,wrap_succ (by omega),trivial⟩,[_],rfl,rfl⟩
end Go.Proofs.YtldggonlkafckaaGreatDoor
