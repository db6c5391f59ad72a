/-
  CondParts: Parts and Told of every texts are those of the reference, a condition is true exactly if all of its Parts are, and what Told tells is the item's value in every row that makes it true; part 44 of 44. Conditions: none beyond the given statement.
-/
import Derived.Test.YtlhabmglchgdnaaGreatDoorQ43
import Derived.Test.YtlhabmglchgdnaaGreatDoorQ42
import Derived.Test.YtlhabmglchgdnaaGreatDoorQ28
set_option linter.all false
namespace Go.Proofs.YtlhabmglchgdnaaGreatDoor
open Go.RowKit
set_option maxRecDepth 100000
set_option linter.unusedVariables false
theorem nm_own (x:By):Own0 [GObj.box 9 [.s x]]:=fun _ _=>rfl
theorem c_told1 (x:By) (t:Term):SC Tryz.prog 88 [t.gv,.ptr 0 0] [.box 9 [.s x]] (.val (.b (tellA x t))) [.box 9 [.s x]]:=by
 obtain⟨nm,vr,w⟩:=t
 cases vr with
 |true=>
  have e:tellA x ⟨nm,true,w⟩=false:=by simp[tellA]
  rw[e]
  refine SC.of_gwp noM mixed Tryz.func88 rfl (Nat.le_of_ble_eq_true rfl) (by first|exact Nat.le_refl _|simp) rfl ?_
  conv=>whnf
  repeat' first
   |exact owesB_b rfl rfl (fun _=>rfl)
   |(refine GIf.mk (fun _=>?_) (fun _=>?_)<;>conv=>whnf)
   |(refine GDraw.calm (by kernel_rfl) ?_;conv=>whnf)
   |(refine⟨_,⟨rfl,Nat.zero_le _,rfl,Nat.le_of_ble_eq_true rfl⟩,?_⟩;conv=>whnf)
 |false=>
  have e:tellA x ⟨nm,false,w⟩=(decide (nm=x)&&decide (x≠[])):=by simp[tellA]
  rw[e]
  refine SC.of_gwp noM mixed Tryz.func88 rfl (Nat.le_of_ble_eq_true rfl) (by first|exact Nat.le_refl _|simp) rfl ?_
  conv=>whnf
  refine GIf.mk (fun h1=>?_) (fun h1=>?_)<;>conv=>whnf
  ·have h1':nm=x:=by simpa using h1
   refine owesB_b rfl ?_ (fun _=>rfl)
   rw[decide_eq_true h1',Bool.true_and,Bool.eq_iff_iff]
   simp
  ·have h1':¬nm=x:=by simpa using h1
   refine owesB_b rfl ?_ (fun _=>rfl)
   rw[decide_eq_false h1',Bool.false_and]
theorem c_told2 (t:Term):SC Tryz.prog 89 [t.gv] [] (.val (.b (openT t))) []:=by
 obtain⟨nm,vr,w⟩:=t
 refine SC.of_gwp noM mixed Tryz.func89 rfl (Nat.le_of_ble_eq_true rfl) (by first|exact Nat.le_refl _|simp) rfl ?_
 conv=>whnf
 refine GIf.mk (fun h1=>?_) (fun h1=>?_)<;>conv=>whnf
 ·have h1':nm=[]:=by simpa using h1
  refine owes_b ?_
  simp[openT,h1']
 ·have h1':¬nm=[]:=by simpa using h1
  refine owes_b ?_
  simp[openT,h1']
def q3 (w:By×Bool×Int):GV:=.tup [.s w.1,.b w.2.1,.i .i64 w.2.2]
theorem tell_take {x:By} {L:List Tree} {i:Nat} {y:Tree} (h:∀z∈L.take i,tellT x z=none) (hy:L[i]?=some y) (h0:tellT x y=none):∀z∈L.take (i+1),tellT x z=none:=fun z hz=>by
 rw[List.take_add_one,hy] at hz
 rcases List.mem_append.1 hz with q|q
 ·exact h z q
 ·simp at q;rw[q];exact h0
theorem told_none {x:By} {L:List Tree} (h:∀z∈L,tellT x z=none):toldL x L=([],false,0):=by
 unfold toldL
 rw[List.findSome?_eq_none_iff.2 h]
theorem told_some {x:By} {L:List Tree} {i:Nat} {y:Tree} {u:Term} (h:∀z∈L.take i,tellT x z=none) (hy:L[i]?=some y) (h0:tellT x y=some u):toldL x L=(u.txt,true,0):=by
 have hlt:=(List.getElem?_eq_some_iff.1 hy).1
 have e:L=L.take i++y::L.drop (i+1):=by
  have:L.drop i=y::L.drop (i+1):=by rw[List.drop_eq_getElem_cons hlt,(List.getElem?_eq_some_iff.1 hy).2]
  rw[<-this,List.take_append_drop]
 have:L.findSome? (tellT x)=some u:=by
  rw[e,List.findSome?_append,List.findSome?_eq_none_iff.2 h]
  simp[h0]
 unfold toldL
 rw[this]
theorem c_Told (s x:By):SC Tryz.prog 44 [.s s,.s x] [] (.val (q3 (toldQ s x))) []:=by
 have hr:=c_readU s
 have hcl:=readG_cl s
 unfold readG at hr hcl
 unfold toldQ
 cases h:readS s with
 |err e=>
  rw[h] at hr hcl
  replace hr:SC Tryz.prog 46 [.s s] [] (.val (.tup [.o .nilIface,.i .i64 e])) []:=hr
  have he:=readS_err h
  simp only
  rcases he with rfl|rfl|rfl
  all_goals
   refine SC.of_gwp noM mixed Tryz.func44 rfl (Nat.le_of_ble_eq_true rfl) (by first|exact Nat.le_refl _|simp) rfl ?_
   conv=>whnf
   refine callP hr (Wks.refl _) rfl (fun _=>rfl) hcl ?_
   conv=>whnf
   exact owes_wk (.refl _) (fun _=>rfl)
 |ok t=>
  rw[h] at hr hcl
  replace hr:SC Tryz.prog 46 [.s s] [] (.val (.tup [t.gv,.i .i64 0])) []:=hr
  obtain⟨hn,hz,_⟩:=readS_bound h
  have hg:=(readS_good h).1
  have hsd:=c_sides true t (by omega)
  have hsl:=sides_len (a:=true) t
  have hgd:=fun y hy=>side_good (a:=true) hg y hy
  have htc:=t.cl
  have hw1:=fun a=>c_told1 x a
  simp only
  generalize t.sides true=L at*
  have hL:L.length<=1000:=by omega
  have hlt:(treesG L).length=L.length:=by simp[treesG]
  refine SC.of_gwp noM mixed Tryz.func44 rfl (Nat.le_of_ble_eq_true rfl) (by first|exact Nat.le_refl _|simp) rfl ?_
  conv=>whnf
  refine callP hr (Wks.refl _) rfl (fun _=>rfl) hcl ?_
  conv=>whnf
  repeat (refine⟨_,⟨rfl,Nat.zero_le _,rfl,Nat.le_of_ble_eq_true rfl⟩,?_⟩;conv=>whnf)
  refine callP hsd (Wks.refl _) rfl (ClL.cons htc (fun _=>rfl)) (Cl.sl (treesG_cl L)) ?_
  conv=>whnf
  refine GLoop.introS (fun i:Nat=>i<=L.length/\∀z∈L.take i,tellT x z=none) (fun i=>[(9,.fn (.func 88) [] [.ptr 0 0]),(10,.fn (.func 89) [] []),(25,.sl .none (treesG L)),(26,.i .i64 (treesG L).length),(27,.i .i64 (i:Nat))])
   (fun _=>⟨[.box 9 [.s x]],0,[]⟩) (fun i=>L.length - i) 0 ⟨Nat.zero_le _,fun z hz=>by simp at hz⟩ ⟨rfl,rfl,rfl,rfl,rfl,trivial⟩ rfl (fun _ _=>Nat.le_refl _) (fun _ _=>rfl) (fun i _ e he=>?_) (fun i φ0 hi=>?_)
  ·refine⟨rfl,rfl,?_⟩
   show[.fn _ [] [.ptr (e 0) 0],_,(GV.sl .none (treesG L)).ren e,_,_]=_
   rw[he 0 (by simp),Cl.sl (treesG_cl L) e];rfl
  obtain⟨hi,hall⟩:=hi
  conv=>whnf
  refine GIf.mk (fun hc=>?_) (fun hc=>?_)<;>conv=>whnf
  rotate_left
  ·have hie:i=L.length:=by have:=of_decide_eq_false hc;rw[hlt] at this;omega
   rw[hie,List.take_length] at hall
   rw[told_none hall]
   exact owes_wk (.refl _) (fun _=>rfl)
  have hlt2:i<L.length:=by have:=of_decide_eq_true hc;rw[hlt] at this;omega
  obtain⟨y,hy⟩:∃y,L[i]?=some y:=⟨L[i],List.getElem?_eq_getElem hlt2⟩
  have hgy:(treesG L)[i]?=some y.gv:=by unfold treesG;rw[List.getElem?_map,hy];rfl
  have hyg:=nice_of (hgd y (List.mem_of_getElem? hy))
  cases y with
  |pair pa pl pr=>
   refine⟨Int.natCast_nonneg _,(Tree.pair pa pl pr).gv,by rw[Int.toNat_natCast];exact hgy,rfl,?_⟩
   conv=>whnf
   repeat (refine⟨_,⟨rfl,Nat.zero_le _,rfl,Nat.le_of_ble_eq_true rfl⟩,?_⟩;conv=>whnf)
   exact⟨L.length - (i+1),(by show _<L.length - i;omega),i+1,⟨hlt2,tell_take hall hy rfl⟩,rfl,⟨rfl,rfl,rfl,rfl,wrap_succ (by omega),trivial⟩,_,rfl,rfl⟩
  |no pt=>
   refine⟨Int.natCast_nonneg _,(Tree.no pt).gv,by rw[Int.toNat_natCast];exact hgy,rfl,?_⟩
   conv=>whnf
   repeat (refine⟨_,⟨rfl,Nat.zero_le _,rfl,Nat.le_of_ble_eq_true rfl⟩,?_⟩;conv=>whnf)
   exact⟨L.length - (i+1),(by show _<L.length - i;omega),i+1,⟨hlt2,tell_take hall hy rfl⟩,rfl,⟨rfl,rfl,rfl,rfl,wrap_succ (by omega),trivial⟩,_,rfl,rfl⟩
  |truth pb=>
   refine⟨Int.natCast_nonneg _,(Tree.truth pb).gv,by rw[Int.toNat_natCast];exact hgy,rfl,?_⟩
   conv=>whnf
   repeat (refine⟨_,⟨rfl,Nat.zero_le _,rfl,Nat.le_of_ble_eq_true rfl⟩,?_⟩;conv=>whnf)
   exact⟨L.length - (i+1),(by show _<L.length - i;omega),i+1,⟨hlt2,tell_take hall hy rfl⟩,rfl,⟨rfl,rfl,rfl,rfl,wrap_succ (by omega),trivial⟩,_,rfl,rfl⟩
  |test op a b=>
   obtain⟨_,⟨na,_⟩,⟨nb,_⟩⟩:=hyg
   by_cases hop:op=[61]
   rotate_left
   ·have hT:tellT x (.test op a b)=none:=if_neg hop
    refine⟨Int.natCast_nonneg _,(Tree.test op a b).gv,by rw[Int.toNat_natCast];exact hgy,rfl,?_⟩
    conv=>whnf
    repeat (refine⟨_,⟨rfl,Nat.zero_le _,rfl,Nat.le_of_ble_eq_true rfl⟩,?_⟩;conv=>whnf)
    refine GIf.mk (fun ho=>?_) (fun ho=>?_)<;>conv=>whnf
    rotate_left
    ·exfalso;exact hop (by simpa using ho)
    exact⟨L.length - (i+1),(by show _<L.length - i;omega),i+1,⟨hlt2,tell_take hall hy hT⟩,rfl,⟨rfl,rfl,rfl,rfl,wrap_succ (by omega),trivial⟩,_,rfl,rfl⟩
   subst hop
   have k1:=hw1 a
   have k2:=c_told2 b
   have k3:=hw1 b
   have k4:=c_told2 a
   have xa:=c_ttext a (by omega)
   have xb:=c_ttext b (by omega)
   have hargs:∀{a:Term} (e:Nat->Nat),(∀i,i<[GObj.box 9 [.s x]].length->e i=i)->[a.gv,.ptr 0 0].map (GV.ren e)=[a.gv,.ptr 0 0]:=fun e he=>by
    show[GV.ren e (Term.gv _),GV.ptr (e 0) 0]=_
    rw[Term.cl,he 0 (by simp)]
   have hT:tellT x (.test [61] a b)=if tellA x a&&openT b then some b else if tellA x b&&openT a then some a else none:=rfl
   generalize tellA x a=ta at*
   generalize openT b=ob at*
   generalize tellA x b=tb at*
   generalize openT a=oa at*
   cases ta with
   |false=>
    cases tb with
    |false=>
     refine⟨Int.natCast_nonneg _,(Tree.test [61] a b).gv,by rw[Int.toNat_natCast];exact hgy,rfl,?_⟩
     conv=>whnf
     repeat (refine⟨_,⟨rfl,Nat.zero_le _,rfl,Nat.le_of_ble_eq_true rfl⟩,?_⟩;conv=>whnf)
     refine callPreP (rest:=[_]) k1 rfl rfl (nm_own x) rfl hargs (.b _) (Wks.refl _) ?_
     conv=>whnf
     refine callPreP (rest:=[_]) k3 rfl rfl (nm_own x) rfl hargs (.b _) (Wks.refl _) ?_
     conv=>whnf
     exact⟨L.length - (i+1),(by show _<L.length - i;omega),i+1,⟨hlt2,tell_take hall hy hT⟩,rfl,⟨rfl,rfl,rfl,rfl,wrap_succ (by omega),trivial⟩,_,rfl,rfl⟩
    |true=>
     cases oa with
     |false=>
      refine⟨Int.natCast_nonneg _,(Tree.test [61] a b).gv,by rw[Int.toNat_natCast];exact hgy,rfl,?_⟩
      conv=>whnf
      repeat (refine⟨_,⟨rfl,Nat.zero_le _,rfl,Nat.le_of_ble_eq_true rfl⟩,?_⟩;conv=>whnf)
      refine callPreP (rest:=[_]) k1 rfl rfl (nm_own x) rfl hargs (.b _) (Wks.refl _) ?_
      conv=>whnf
      refine callPreP (rest:=[_]) k3 rfl rfl (nm_own x) rfl hargs (.b _) (Wks.refl _) ?_
      conv=>whnf
      refine callP k4 (Wks.refl _) rfl (ClL.cons (Term.cl _) .nil) (.b _) ?_
      conv=>whnf
      exact⟨L.length - (i+1),(by show _<L.length - i;omega),i+1,⟨hlt2,tell_take hall hy hT⟩,rfl,⟨rfl,rfl,rfl,rfl,wrap_succ (by omega),trivial⟩,_,rfl,rfl⟩
     |true=>
      refine⟨Int.natCast_nonneg _,(Tree.test [61] a b).gv,by rw[Int.toNat_natCast];exact hgy,rfl,?_⟩
      conv=>whnf
      repeat (refine⟨_,⟨rfl,Nat.zero_le _,rfl,Nat.le_of_ble_eq_true rfl⟩,?_⟩;conv=>whnf)
      refine callPreP (rest:=[_]) k1 rfl rfl (nm_own x) rfl hargs (.b _) (Wks.refl _) ?_
      conv=>whnf
      refine callPreP (rest:=[_]) k3 rfl rfl (nm_own x) rfl hargs (.b _) (Wks.refl _) ?_
      conv=>whnf
      refine callP k4 (Wks.refl _) rfl (ClL.cons (Term.cl _) .nil) (.b _) ?_
      conv=>whnf
      rw[told_some hall hy (hT.trans rfl)]
      refine callP xa (Wks.refl _) rfl (ClL.cons (Term.cl _) .nil) (.s _) ?_
      conv=>whnf
      exact owes_wk (.refl _) (fun _=>rfl)
   |true=>
    cases ob with
    |false=>
     cases tb with
     |false=>
      refine⟨Int.natCast_nonneg _,(Tree.test [61] a b).gv,by rw[Int.toNat_natCast];exact hgy,rfl,?_⟩
      conv=>whnf
      repeat (refine⟨_,⟨rfl,Nat.zero_le _,rfl,Nat.le_of_ble_eq_true rfl⟩,?_⟩;conv=>whnf)
      refine callPreP (rest:=[_]) k1 rfl rfl (nm_own x) rfl hargs (.b _) (Wks.refl _) ?_
      conv=>whnf
      refine callP k2 (Wks.refl _) rfl (ClL.cons (Term.cl _) .nil) (.b _) ?_
      conv=>whnf
      refine callPreP (rest:=[_]) k3 rfl rfl (nm_own x) rfl hargs (.b _) (Wks.refl _) ?_
      conv=>whnf
      exact⟨L.length - (i+1),(by show _<L.length - i;omega),i+1,⟨hlt2,tell_take hall hy hT⟩,rfl,⟨rfl,rfl,rfl,rfl,wrap_succ (by omega),trivial⟩,_,rfl,rfl⟩
     |true=>
      cases oa with
      |false=>
       refine⟨Int.natCast_nonneg _,(Tree.test [61] a b).gv,by rw[Int.toNat_natCast];exact hgy,rfl,?_⟩
       conv=>whnf
       repeat (refine⟨_,⟨rfl,Nat.zero_le _,rfl,Nat.le_of_ble_eq_true rfl⟩,?_⟩;conv=>whnf)
       refine callPreP (rest:=[_]) k1 rfl rfl (nm_own x) rfl hargs (.b _) (Wks.refl _) ?_
       conv=>whnf
       refine callP k2 (Wks.refl _) rfl (ClL.cons (Term.cl _) .nil) (.b _) ?_
       conv=>whnf
       refine callPreP (rest:=[_]) k3 rfl rfl (nm_own x) rfl hargs (.b _) (Wks.refl _) ?_
       conv=>whnf
       refine callP k4 (Wks.refl _) rfl (ClL.cons (Term.cl _) .nil) (.b _) ?_
       conv=>whnf
       exact⟨L.length - (i+1),(by show _<L.length - i;omega),i+1,⟨hlt2,tell_take hall hy hT⟩,rfl,⟨rfl,rfl,rfl,rfl,wrap_succ (by omega),trivial⟩,_,rfl,rfl⟩
      |true=>
       refine⟨Int.natCast_nonneg _,(Tree.test [61] a b).gv,by rw[Int.toNat_natCast];exact hgy,rfl,?_⟩
       conv=>whnf
       repeat (refine⟨_,⟨rfl,Nat.zero_le _,rfl,Nat.le_of_ble_eq_true rfl⟩,?_⟩;conv=>whnf)
       refine callPreP (rest:=[_]) k1 rfl rfl (nm_own x) rfl hargs (.b _) (Wks.refl _) ?_
       conv=>whnf
       refine callP k2 (Wks.refl _) rfl (ClL.cons (Term.cl _) .nil) (.b _) ?_
       conv=>whnf
       refine callPreP (rest:=[_]) k3 rfl rfl (nm_own x) rfl hargs (.b _) (Wks.refl _) ?_
       conv=>whnf
       refine callP k4 (Wks.refl _) rfl (ClL.cons (Term.cl _) .nil) (.b _) ?_
       conv=>whnf
       rw[told_some hall hy (hT.trans rfl)]
       refine callP xa (Wks.refl _) rfl (ClL.cons (Term.cl _) .nil) (.s _) ?_
       conv=>whnf
       exact owes_wk (.refl _) (fun _=>rfl)
    |true=>
     refine⟨Int.natCast_nonneg _,(Tree.test [61] a b).gv,by rw[Int.toNat_natCast];exact hgy,rfl,?_⟩
     conv=>whnf
     repeat (refine⟨_,⟨rfl,Nat.zero_le _,rfl,Nat.le_of_ble_eq_true rfl⟩,?_⟩;conv=>whnf)
     refine callPreP (rest:=[_]) k1 rfl rfl (nm_own x) rfl hargs (.b _) (Wks.refl _) ?_
     conv=>whnf
     refine callP k2 (Wks.refl _) rfl (ClL.cons (Term.cl _) .nil) (.b _) ?_
     conv=>whnf
     rw[told_some hall hy (hT.trans rfl)]
     refine callP xb (Wks.refl _) rfl (ClL.cons (Term.cl _) .nil) (.s _) ?_
     conv=>whnf
     exact owes_wk (.refl _) (fun _=>rfl)
end Go.Proofs.YtlhabmglchgdnaaGreatDoor
namespace Go.Proofs.YtlhabmglchgdnaaGreatDoor
open Go.RowKit
set_option maxRecDepth 100000
set_option linter.unusedVariables false
theorem tellA_itm (x:By) (a:Term):tellA x a=(decide (itm a=x)&&decide (x≠[])):=by
 obtain⟨nm,vr,w⟩:=a
 unfold tellA itm
 cases vr with
 |false=>simp
 |true=>
  by_cases hx:x=[]
  ·simp[hx]
  ·have:¬([]:By)=x:=fun e=>hx e.symm
   simp[this]
theorem openT_itm (a:Term):openT a=decide (itm a=[]):=by
 obtain⟨nm,vr,w⟩:=a
 unfold openT itm
 cases vr<;>simp
theorem tellT_eq (x op:By) (a b:Term):tellT x (.test op a b)=if op=[61] then(if tellA x a&&openT b then some b else if tellA x b&&openT a then some a else none) else none:=rfl
theorem tell_yes1 {x:By} {a b:Term} (hx:x≠[]) (ha:itm a=x) (hb:itm b=[]):tellT x (.test [61] a b)=some b:=by
 rw[tellT_eq,if_pos rfl,tellA_itm,openT_itm,if_pos (by simp[hx,ha,hb])]
theorem tell_yes2 {x:By} {a b:Term} (hx:x≠[]) (hn:¬(itm a=x/\itm b=[])) (hb:itm b=x) (ha:itm a=[]):tellT x (.test [61] a b)=some a:=by
 rw[tellT_eq,if_pos rfl,tellA_itm,openT_itm,tellA_itm,openT_itm,if_neg (by simp only[Bool.and_eq_true,decide_eq_true_eq];exact fun q=>hn ⟨q.1.1,q.2⟩),if_pos (by simp[hx,ha,hb])]
theorem tell_no {x:By} {a b:Term} (hn:¬(itm a=x/\itm b=[])) (hm:¬(itm b=x/\itm a=[])):tellT x (.test [61] a b)=none:=by
 rw[tellT_eq,if_pos rfl,tellA_itm,openT_itm,tellA_itm,openT_itm,if_neg (by simp only[Bool.and_eq_true,decide_eq_true_eq];exact fun q=>hn ⟨q.1.1,q.2⟩),if_neg (by simp only[Bool.and_eq_true,decide_eq_true_eq];exact fun q=>hm ⟨q.1.1,q.2⟩)]
theorem tell_e (op:By) (a b:Term):tellT [] (.test op a b)=none:=by
 rw[tellT_eq,tellA_itm,tellA_itm]
 simp
theorem r_Told (s x:By):SC Tryz.prog 45 [.s s,.s x] [] (.val (q3 (toldQ s x))) []:=by
 have hr:=r_ReadU s
 have hrc:=readRG_cl s
 have hrq:=readR_eq s
 unfold readRG at hr hrc
 unfold toldQ
 cases hx:readR s with
 |err e=>
  rw[hx] at hr hrc hrq
  rw[hrq]
  replace hr:SC Tryz.prog 48 [.s s] [] (.val (.tup [nodeN,.i .i64 e])) []:=hr
  replace hrc:Cl (.tup [nodeN,.i .i64 e]):=hrc
  have he:=readR_err hx
  simp only
  rcases he with rfl|rfl|rfl
  all_goals
   refine SC.of_gwp noM mixed Tryz.func45 rfl (Nat.le_of_ble_eq_true rfl) (by first|exact Nat.le_refl _|simp) rfl ?_
   conv=>whnf
   refine callP hr (Wks.refl _) rfl (fun _=>rfl) hrc ?_
   conv=>whnf
   repeat (refine⟨_,⟨rfl,Nat.zero_le _,rfl,Nat.le_of_ble_eq_true rfl⟩,?_⟩;conv=>whnf)
   exact owes_wk (.refl _) (fun _=>rfl)
 |ok t=>
  rw[hx] at hr hrc hrq
  rw[hrq]
  replace hr:SC Tryz.prog 48 [.s s] [] (.val (.tup [t.ng,.i .i64 0])) []:=hr
  replace hrc:Cl (.tup [t.ng,.i .i64 0]):=hrc
  have hz:=readR_size hx
  have hgd:=readR_good hx
  have htc:=t.ng_cl
  have hsd:=r_ands t
  have hsl:=sides_len (a:=true) t
  have hgs:=fun y hy=>side_good (a:=true) hgd y hy
  simp only
  rw[sides_flat,toldL_flat]
  generalize t.sides true=L at*
  have hL:L.length<=1000:=by omega
  have hlt:(ngs L).length=L.length:=ngs_len L
  obtain⟨k,kids,A,B,op,yes,hng⟩:=ng_form t
  rw[hng] at hr hrc htc hsd
  have hbc:ClL (ndc k kids A B op yes):=fun e=>by
   have:=htc e
   exact GV.agg.inj this
  refine SC.of_gwp noM mixed Tryz.func45 rfl (Nat.le_of_ble_eq_true rfl) (by first|exact Nat.le_refl _|simp) rfl ?_
  conv=>whnf
  refine callP hr (Wks.refl _) rfl (fun _=>rfl) hrc ?_
  conv=>whnf
  repeat (refine⟨_,⟨rfl,Nat.zero_le _,rfl,Nat.le_of_ble_eq_true rfl⟩,?_⟩;conv=>whnf)
  refine callP hsd (Wks.refl _) rfl (ClL.cons htc .nil) (Cl.sl (ngs_cl L)) ?_
  conv=>whnf
  refine GLoop.introS (fun i:Nat=>i<=L.length/\∀z∈L.take i,tellT x z=none) (fun i=>[(1,.s x),(9,.sl .none (ngs L)),(10,.i .i64 (i:Nat))])
   (fun _=>⟨[.box 69 (ndc k kids A B op yes)],0,[]⟩) (fun i=>L.length - i) 0 ⟨Nat.zero_le _,fun z hz=>by simp at hz⟩ ⟨rfl,rfl,rfl,trivial⟩ rfl (fun _ _=>Nat.le_refl _) (fun _ _=>rfl) (fun i _ e he=>?_) (fun i φ0 hi=>?_)
  ·refine⟨?_,rfl,?_⟩
   ·show[(GObj.box _ (ndc k kids A B op yes)).ren e]=_
    rw[GObj.box_cl hbc e]
   ·show[_,(GV.sl .none (ngs L)).ren e,_]=_
    rw[Cl.sl (ngs_cl L) e];rfl
  obtain⟨hi,hall⟩:=hi
  conv=>whnf
  refine GIf.mk (fun hc=>?_) (fun hc=>?_)<;>conv=>whnf
  rotate_left
  ·have hie:i=L.length:=by have:=of_decide_eq_false hc;rw[hlt] at this;omega
   rw[hie,List.take_length] at hall
   rw[told_none hall]
   exact owes_wk (.refl _) (fun _=>rfl)
  have hlt2:i<L.length:=by have:=of_decide_eq_true hc;rw[hlt] at this;omega
  obtain⟨y,hy⟩:∃y,L[i]?=some y:=⟨L[i],List.getElem?_eq_getElem hlt2⟩
  have hgy:(ngs L)[i]?=some y.ng:=by unfold ngs;rw[List.getElem?_map,hy];rfl
  cases y with
  |pair pa pl pr=>
   rw[show(Tree.pair pa pl pr).ng=.agg (ndc (opn pa) (ngs ((Tree.pair pa pl pr).sides pa)) t0 t0 [] false) by show GV.agg _=_;rw[ncs_pair]] at hgy
   cases pa
   all_goals
    refine⟨Int.natCast_nonneg _,_,by rw[Int.toNat_natCast];exact hgy,rfl,?_⟩
    conv=>whnf
    exact⟨L.length - (i+1),(by show _<L.length - i;omega),i+1,⟨hlt2,tell_take hall hy rfl⟩,rfl,⟨rfl,rfl,wrap_succ (by omega),trivial⟩,_,rfl,rfl⟩
  |no pt=>
   refine⟨Int.natCast_nonneg _,_,by rw[Int.toNat_natCast];exact hgy,rfl,?_⟩
   conv=>whnf
   exact⟨L.length - (i+1),(by show _<L.length - i;omega),i+1,⟨hlt2,tell_take hall hy rfl⟩,rfl,⟨rfl,rfl,wrap_succ (by omega),trivial⟩,_,rfl,rfl⟩
  |truth pb=>
   refine⟨Int.natCast_nonneg _,_,by rw[Int.toNat_natCast];exact hgy,rfl,?_⟩
   conv=>whnf
   exact⟨L.length - (i+1),(by show _<L.length - i;omega),i+1,⟨hlt2,tell_take hall hy rfl⟩,rfl,⟨rfl,rfl,wrap_succ (by omega),trivial⟩,_,rfl,rfl⟩
  |test op a b=>
   obtain⟨_,ga,gb⟩:=hgs _ (List.mem_of_getElem? hy)
   have sa:=r_Said a ga
   have sb:=r_Said b gb
   replace hgy:(ngs L)[i]?=some (.agg (ndc 4 [] a b op false)):=hgy
   refine⟨Int.natCast_nonneg _,_,by rw[Int.toNat_natCast];exact hgy,rfl,?_⟩
   conv=>whnf
   refine⟨Int.natCast_nonneg _,_,by rw[Int.toNat_natCast];exact hgy,rfl,?_⟩
   conv=>whnf
   refine GIf.mk (fun h1=>?_) (fun h1=>?_)<;>conv=>whnf
   ·have e1:¬op=[61]:=by simpa using h1
    have hT:tellT x (.test op a b)=none:=by rw[tellT_eq,if_neg e1]
    exact⟨L.length - (i+1),(by show _<L.length - i;omega),i+1,⟨hlt2,tell_take hall hy hT⟩,rfl,⟨rfl,rfl,wrap_succ (by omega),trivial⟩,_,rfl,rfl⟩
   have e1:op=[61]:=by simpa using h1
   cases e1
   refine GIf.mk (fun h2=>?_) (fun h2=>?_)<;>conv=>whnf
   ·have e2:x=[]:=by simpa using h2
    exact⟨L.length - (i+1),(by show _<L.length - i;omega),i+1,⟨hlt2,tell_take hall hy (by rw[e2];exact tell_e _ _ _)⟩,rfl,⟨rfl,rfl,wrap_succ (by omega),trivial⟩,_,rfl,rfl⟩
   have hx0:x≠[]:=by simpa using h2
   refine⟨Int.natCast_nonneg _,_,by rw[Int.toNat_natCast];exact hgy,rfl,?_⟩
   conv=>whnf
   refine GIf.mk (fun h3=>?_) (fun h3=>?_)<;>conv=>whnf
   ·have e3:itm a=x:=by unfold itm;simpa using h3
    refine⟨Int.natCast_nonneg _,_,by rw[Int.toNat_natCast];exact hgy,rfl,?_⟩
    conv=>whnf
    refine GIf.mk (fun h4=>?_) (fun h4=>?_)<;>conv=>whnf
    ·have e4:itm b=[]:=by unfold itm;simpa using h4
     rw[told_some hall hy (tell_yes1 hx0 e3 e4)]
     refine⟨Int.natCast_nonneg _,_,by rw[Int.toNat_natCast];exact hgy,rfl,?_⟩
     conv=>whnf
     refine callP sb (Wks.refl _) rfl (ClL.cons (Cl.agg (sdc_cl _)) .nil) (.s _) ?_
     conv=>whnf
     exact owes_wk (.refl _) (fun _=>rfl)
    ·have e4:¬itm b=[]:=by unfold itm;simpa using h4
     refine⟨Int.natCast_nonneg _,_,by rw[Int.toNat_natCast];exact hgy,rfl,?_⟩
     conv=>whnf
     refine GIf.mk (fun h5=>?_) (fun h5=>?_)<;>conv=>whnf
     ·have e5:itm b=x:=by unfold itm;simpa using h5
      refine⟨Int.natCast_nonneg _,_,by rw[Int.toNat_natCast];exact hgy,rfl,?_⟩
      conv=>whnf
      refine GIf.mk (fun h6=>?_) (fun h6=>?_)<;>conv=>whnf
      ·have e6:itm a=[]:=by unfold itm;simpa using h6
       rw[told_some hall hy (tell_yes2 hx0 (fun q=>e4 q.2) e5 e6)]
       refine⟨Int.natCast_nonneg _,_,by rw[Int.toNat_natCast];exact hgy,rfl,?_⟩
       conv=>whnf
       refine callP sa (Wks.refl _) rfl (ClL.cons (Cl.agg (sdc_cl _)) .nil) (.s _) ?_
       conv=>whnf
       exact owes_wk (.refl _) (fun _=>rfl)
      ·have e6:¬itm a=[]:=by unfold itm;simpa using h6
       exact⟨L.length - (i+1),(by show _<L.length - i;omega),i+1,⟨hlt2,tell_take hall hy (tell_no (fun q=>e4 q.2) (fun q=>e6 q.2))⟩,rfl,⟨rfl,rfl,wrap_succ (by omega),trivial⟩,_,rfl,rfl⟩
     ·have e5:¬itm b=x:=by unfold itm;simpa using h5
      exact⟨L.length - (i+1),(by show _<L.length - i;omega),i+1,⟨hlt2,tell_take hall hy (tell_no (fun q=>e4 q.2) (fun q=>e5 q.1))⟩,rfl,⟨rfl,rfl,wrap_succ (by omega),trivial⟩,_,rfl,rfl⟩
   ·have e3:¬itm a=x:=by unfold itm;simpa using h3
    refine⟨Int.natCast_nonneg _,_,by rw[Int.toNat_natCast];exact hgy,rfl,?_⟩
    conv=>whnf
    refine GIf.mk (fun h5=>?_) (fun h5=>?_)<;>conv=>whnf
    ·have e5:itm b=x:=by unfold itm;simpa using h5
     refine⟨Int.natCast_nonneg _,_,by rw[Int.toNat_natCast];exact hgy,rfl,?_⟩
     conv=>whnf
     refine GIf.mk (fun h6=>?_) (fun h6=>?_)<;>conv=>whnf
     ·have e6:itm a=[]:=by unfold itm;simpa using h6
      rw[told_some hall hy (tell_yes2 hx0 (fun q=>e3 q.1) e5 e6)]
      refine⟨Int.natCast_nonneg _,_,by rw[Int.toNat_natCast];exact hgy,rfl,?_⟩
      conv=>whnf
      refine callP sa (Wks.refl _) rfl (ClL.cons (Cl.agg (sdc_cl _)) .nil) (.s _) ?_
      conv=>whnf
      exact owes_wk (.refl _) (fun _=>rfl)
     ·have e6:¬itm a=[]:=by unfold itm;simpa using h6
      exact⟨L.length - (i+1),(by show _<L.length - i;omega),i+1,⟨hlt2,tell_take hall hy (tell_no (fun q=>e3 q.1) (fun q=>e6 q.2))⟩,rfl,⟨rfl,rfl,wrap_succ (by omega),trivial⟩,_,rfl,rfl⟩
    ·have e5:¬itm b=x:=by unfold itm;simpa using h5
     exact⟨L.length - (i+1),(by show _<L.length - i;omega),i+1,⟨hlt2,tell_take hall hy (tell_no (fun q=>e3 q.1) (fun q=>e5 q.1))⟩,rfl,⟨rfl,rfl,wrap_succ (by omega),trivial⟩,_,rfl,rfl⟩
end Go.Proofs.YtlhabmglchgdnaaGreatDoor
namespace Go.Proofs.YtlhabmglchgdnaaGreatDoor
open Go.RowKit
set_option maxRecDepth 100000
set_option linter.unusedVariables false
end Go.Proofs.YtlhabmglchgdnaaGreatDoor
namespace Go.Proofs.YtlhabmglchgdnaaGreatDoor
open Go.RowKit
set_option maxRecDepth 100000
set_option linter.unusedVariables false
end Go.Proofs.YtlhabmglchgdnaaGreatDoor
namespace Go.Proofs.YtlhabmglchgdnaaGreatDoor
open Go.RowKit
set_option maxRecDepth 100000
set_option linter.unusedVariables false
end Go.Proofs.YtlhabmglchgdnaaGreatDoor
namespace Go.Proofs.YtlhabmglchgdnaaGreatDoor
open Go.RowKit
set_option maxRecDepth 100000
set_option linter.unusedVariables false
end Go.Proofs.YtlhabmglchgdnaaGreatDoor
namespace Go.Proofs.YtlhabmglchgdnaaGreatDoor
open Go.RowKit
set_option maxRecDepth 100000
set_option linter.unusedVariables false
end Go.Proofs.YtlhabmglchgdnaaGreatDoor
namespace Go.Proofs.YtlhabmglchgdnaaGreatDoor
open Go.RowKit
set_option maxRecDepth 100000
set_option linter.unusedVariables false
theorem c_EvalU (I V:List Itm) (R W:List Val) (hI:I.length<most) (hV:V.length<most) (hR:R.length<most) (hW:W.length<most) (s:By):
  SC Tryz.prog 23 [.s s,.sl .none (itms I),.sl .none (vlsG R),.sl .none (itms V),.sl .none (vlsG W)] [] (.val (.tup [.b (evalS I V R W s).1,.i .i64 (evalS I V R W s).2])) []:=by
 by_cases hl:1000<s.length
 ·have hr:=c_readU s
  have hcl:=readG_cl s
  unfold readG at hr hcl
  have e1:readS s=.err 3:=by unfold readS;rw[if_pos hl]
  unfold evalS
  rw[e1] at hr hcl⊢
  replace hr:SC Tryz.prog 46 [.s s] [] (.val (.tup [.o .nilIface,.i .i64 3])) []:=hr
  refine SC.of_gwp noM mixed Tryz.func23 rfl (Nat.le_of_ble_eq_true rfl) (by first|exact Nat.le_refl _|simp) rfl ?_
  conv=>whnf
  refine callP hr (Wks.refl _) rfl (fun _=>rfl) hcl ?_
  conv=>whnf
  refine⟨_,⟨rfl,Nat.zero_le _,rfl,Nat.le_of_ble_eq_true rfl⟩,?_⟩
  conv=>whnf
  exact owes_wk (.refl _) (fun _=>rfl)
 ·exact c_Eval I V R W hI hV hR hW s (by unfold most;omega)
end Go.Proofs.YtlhabmglchgdnaaGreatDoor
namespace Go.Proofs.YtlhabmglchgdnaaGreatDoor
open Go.RowKit
set_option maxRecDepth 100000
set_option linter.unusedVariables false
theorem parts_bound (s:By):(partsS s).1.length<=1000:=by
 unfold partsS
 cases h:readS s with
 |err e=>simp
 |ok t=>
  have:=sides_len (a:=true) t
  obtain⟨_,hz,_⟩:=readS_bound h
  simp only
  unfold partsL
  split
  ·show((t.sides true).map _).length<=1000
   rw[List.length_map];omega
  ·simp
theorem all_succ {bs:List Bool} {i:Nat} {c:Bool} (h:bs[i]?=some c):(bs.take (i+1)).all id=((bs.take i).all id&&c):=by
 rw[List.take_add_one,h,List.all_append]
 simp
theorem l_CondParts (s x:By) (I:List Itm) (R:List Val):
  SC Tryz.prog 8 [.s s,.s x,.sl .none (itms I),.sl .none (vlsG R)] [] (.val (.b true)) []:=by
 have haw:=l_awake
 have i1:=l_Items I
 have i3:=l_Rows [R] (by simp)
 have hRW:[R].all rowB=true->R.length<most:=fun h=>by
  simp only[List.all_cons,List.all_nil,Bool.and_true] at h
  exact row_le h
 generalize[R].all rowB=b3 at*
 cases b1:itemsB I with
 |false=>
  rw[b1] at i1
  refine SC.of_gwp noM mixed Tryz.func8 rfl (Nat.le_of_ble_eq_true rfl) (by first|exact Nat.le_refl _|simp) rfl ?_
  conv=>whnf
  refine GIf.mk (fun h=>?_) (fun h=>?_)<;>conv=>whnf
  ·skip
   refine callP haw (Wks.refl _) rfl (fun _=>rfl) (.b _) ?_
   conv=>whnf
   exact owes_b rfl
  refine GIf.mk (fun hh=>?_) (fun hh=>?_)<;>conv=>whnf
  ·skip
   refine callP haw (Wks.refl _) rfl (fun _=>rfl) (.b _) ?_
   conv=>whnf
   exact owes_b rfl
  refine callP i1 (Wks.refl _) rfl (ClL.cons (Cl.sl (itms_cl I)) .nil) (.b _) ?_
  conv=>whnf
  refine callP haw (Wks.refl _) rfl (fun _=>rfl) (.b _) ?_
  conv=>whnf
  exact owes_b rfl
 |true=>
 rw[b1] at i1
 cases b3 with
 |false=>
  refine SC.of_gwp noM mixed Tryz.func8 rfl (Nat.le_of_ble_eq_true rfl) (by first|exact Nat.le_refl _|simp) rfl ?_
  conv=>whnf
  refine GIf.mk (fun h=>?_) (fun h=>?_)<;>conv=>whnf
  ·skip
   refine callP haw (Wks.refl _) rfl (fun _=>rfl) (.b _) ?_
   conv=>whnf
   exact owes_b rfl
  refine GIf.mk (fun hh=>?_) (fun hh=>?_)<;>conv=>whnf
  ·skip
   refine callP haw (Wks.refl _) rfl (fun _=>rfl) (.b _) ?_
   conv=>whnf
   exact owes_b rfl
  refine callP i1 (Wks.refl _) rfl (ClL.cons (Cl.sl (itms_cl I)) .nil) (.b _) ?_
  conv=>whnf
  refine callP i3 (Wks.cons (Wk.sl _ _) (Wks.refl _)) rfl (ClL.cons (Cl.sl (rowsG_cl [R])) .nil) (.b _) ?_
  conv=>whnf
  refine callP haw (Wks.refl _) rfl (fun _=>rfl) (.b _) ?_
  conv=>whnf
  exact owes_b rfl
 |true=>
  have hR:=hRW rfl
  have hI:=items_le b1
  have c1:=c_Parts s
  have r1:=r_Parts s
  have c2:=c_Told s x
  have r2:=r_Told s x
  have ev:=fun w=>c_EvalU I [] R [] hI (by unfold most;simp) hR (by unfold most;simp) w
  have e1:=ev s
  have hpl:=parts_bound s
  have hS:=l_sameNames (partsS s).1 (by omega)
  have hbs:∃bs:List Bool,(evalS I [] R [] s).2=0->(partsS s).2=0->bs.length=(partsS s).1.length/\(∀(i:Nat) p c,(partsS s).1[i]?=some p->bs[i]?=some c->evalS I [] R [] p=(c,0))/\(evalS I [] R [] s).1=bs.all id:=by
   by_cases hz:(evalS I [] R [] s).2=0/\(partsS s).2=0
   ·obtain⟨bs,h1,h2,h3⟩:=@parts_eval I [] R [] s (evalS I [] R [] s).1 (partsS s).1 (by rw[<-hz.1]) (by rw[<-hz.2])
    exact⟨bs,fun _ _=>⟨h1,h2,h3⟩⟩
   ·exact⟨[],fun a b=>absurd ⟨a,b⟩ hz⟩
  have hval:∃v,(evalS I [] R [] s).2=0->(evalS I [] R [] s).1=true->(toldQ s x).2.1=true->termS I [] R [] (toldQ s x).1=(v,0)/\termS I [] R [] x=(v,0):=by
   by_cases hz:(evalS I [] R [] s).2=0/\(evalS I [] R [] s).1=true/\(toldQ s x).2.1=true
   ·obtain⟨v,h1⟩:=@told_val I [] R [] s x (toldQ s x).1 (toldQ s x).2.2 (by rw[<-hz.1,<-hz.2.1]) (by rw[<-hz.2.2])
    exact⟨v,fun _ _ _=>h1⟩
   ·exact⟨v0,fun a b c=>absurd ⟨a,b,c⟩ hz⟩
  obtain⟨bs,hbs⟩:=hbs
  obtain⟨v,hval⟩:=hval
  have c3:=c_Term I [] R [] hI (by unfold most;simp) hR (by unfold most;simp) (toldQ s x).1
  have c4:=c_Term I [] R [] hI (by unfold most;simp) hR (by unfold most;simp) x
  generalize termS I [] R [] x=X4 at*
  generalize hX3:termS I [] R [] (toldQ s x).1=X3 at*
  generalize partsS s=X1 at*
  obtain⟨l,e⟩:=X1
  generalize toldQ s x=X2 at*
  obtain⟨w,fd,e2⟩:=X2
  generalize evalS I [] R [] s=X at*
  obtain⟨t,p⟩:=X
  simp only at c1 r1 e1 hpl hS hbs hval c3
  unfold q3 at c2 r2
  simp only at c2 r2
  clear hX3
  refine SC.of_gwp noM mixed Tryz.func8 rfl (Nat.le_of_ble_eq_true rfl) (by first|exact Nat.le_refl _|simp) rfl ?_
  conv=>whnf
  refine GIf.mk (fun h=>?_) (fun h=>?_)<;>conv=>whnf
  ·skip
   refine callP haw (Wks.refl _) rfl (fun _=>rfl) (.b _) ?_
   conv=>whnf
   exact owes_b rfl
  refine GIf.mk (fun hh=>?_) (fun hh=>?_)<;>conv=>whnf
  ·skip
   refine callP haw (Wks.refl _) rfl (fun _=>rfl) (.b _) ?_
   conv=>whnf
   exact owes_b rfl
  refine callP i1 (Wks.refl _) rfl (ClL.cons (Cl.sl (itms_cl I)) .nil) (.b _) ?_
  conv=>whnf
  refine callP i3 (Wks.cons (Wk.sl _ _) (Wks.refl _)) rfl (ClL.cons (Cl.sl (rowsG_cl [R])) .nil) (.b _) ?_
  conv=>whnf
  have hcp:Cl (.tup [.sl .none (strG l),.i .i64 e]):=Cl.tup (.cons (Cl.sl (strG_cl l)) (.cons (.i _ _) .nil))
  refine callP c1 (Wks.refl _) rfl (fun _=>rfl) hcp ?_
  conv=>whnf
  refine callP r1 (Wks.refl _) rfl (fun _=>rfl) hcp ?_
  conv=>whnf
  refine GIf.mk (fun n1=>?_) (fun n1=>?_)<;>conv=>whnf
  ·simp at n1
  refine callP hS (Wks.refl _) rfl (ClL.cons (Cl.sl (strG_cl l)) (ClL.cons (Cl.sl (strG_cl l)) .nil)) (.b _) ?_
  conv=>whnf
  refine callP c2 (Wks.refl _) rfl (fun _=>rfl) (fun _=>rfl) ?_
  conv=>whnf
  refine callP r2 (Wks.refl _) rfl (fun _=>rfl) (fun _=>rfl) ?_
  conv=>whnf
  refine GIf.mk (fun n2=>?_) (fun n2=>?_)<;>conv=>whnf
  ·simp at n2
  refine GIf.mk (fun n3=>?_) (fun n3=>?_)<;>conv=>whnf
  ·simp at n3
  refine GIf.mk (fun n4=>?_) (fun n4=>?_)<;>conv=>whnf
  ·simp at n4
  refine callP e1 (Wks.cons (Wk.refl _) (Wks.cons (Wk.refl _) (Wks.cons (Wk.refl _) (Wks.cons (Wk.sl _ _) (Wks.cons (Wk.sl _ _) (Wks.refl _)))))) rfl (ClL.cons (.s _) (ClL.cons (Cl.sl (itms_cl I)) (ClL.cons (Cl.sl (vlsG_cl R)) (ClL.cons (Cl.sl ClL.nil) (ClL.cons (Cl.sl ClL.nil) .nil))))) (fun _=>rfl) ?_
  conv=>whnf
  refine GIf.mk (fun z1=>?_) (fun z1=>?_)<;>conv=>whnf
  ·skip
   refine callP haw (Wks.refl _) rfl (fun _=>rfl) (.b _) ?_
   conv=>whnf
   exact owes_b rfl
  refine GIf.mk (fun z2=>?_) (fun z2=>?_)<;>conv=>whnf
  ·skip
   refine callP haw (Wks.refl _) rfl (fun _=>rfl) (.b _) ?_
   conv=>whnf
   exact owes_b rfl
  have hp0:p=0:=by simpa using z2
  have he0:e=0:=by simpa using z1
  have hb1:=(hbs hp0 he0).1
  have hb2:=(hbs hp0 he0).2.1
  have hb3:=(hbs hp0 he0).2.2
  have hlen:=strG_len l
  refine GLoop.intro (fun i:Nat=>i<=l.length) (fun i=>[(1,.s x),(2,.sl .none (itms I)),(3,.sl .none (vlsG R)),(9,.sl .none (strG l)),(14,.s w),(15,.b fd),(18,.b t),(19,.b ((bs.take i).all id)),(20,.i .i64 (i:Nat))]) (fun _=>⟨[.own 1 1 32],0,[]⟩) (fun i=>l.length - i) 0 (Nat.zero_le _) ⟨rfl,rfl,rfl,rfl,rfl,rfl,rfl,rfl,rfl,trivial⟩ rfl (fun i φ0 hi=>?_)
  generalize hA:(bs.take i).all id=A
  conv=>whnf
  refine GIf.mk (fun hc=>?_) (fun hc=>?_)<;>conv=>whnf
  rotate_left
  ·have hie:i=l.length:=by have:=of_decide_eq_false hc;rw[hlen] at this;omega
   have hAt:A=t:=by rw[<-hA,hb3,hie,<-hb1,List.take_length]
   refine GIf.mk (fun n5=>?_) (fun n5=>?_)<;>conv=>whnf
   ·exfalso;simp[hAt] at n5
   refine GIf.mk (fun f1=>?_) (fun f1=>?_)<;>conv=>whnf
   ·skip
    refine GIf.mk (fun f2=>?_) (fun f2=>?_)<;>conv=>whnf
    ·have hv:=hval hp0 f2 f1
     rw[hv.1] at c3
     rw[hv.2] at c4
     refine callP c3 (Wks.cons (Wk.refl _) (Wks.cons (Wk.refl _) (Wks.cons (Wk.refl _) (Wks.cons (Wk.sl _ _) (Wks.cons (Wk.sl _ _) (Wks.refl _)))))) rfl (ClL.cons (.s _) (ClL.cons (Cl.sl (itms_cl I)) (ClL.cons (Cl.sl (vlsG_cl R)) (ClL.cons (Cl.sl ClL.nil) (ClL.cons (Cl.sl ClL.nil) .nil))))) (fun _=>rfl) ?_
     conv=>whnf
     repeat (refine⟨_,⟨rfl,Nat.zero_le _,rfl,Nat.le_of_ble_eq_true rfl⟩,?_⟩;conv=>whnf)
     refine callP c4 (Wks.cons (Wk.refl _) (Wks.cons (Wk.refl _) (Wks.cons (Wk.refl _) (Wks.cons (Wk.sl _ _) (Wks.cons (Wk.sl _ _) (Wks.refl _)))))) rfl (ClL.cons (.s _) (ClL.cons (Cl.sl (itms_cl I)) (ClL.cons (Cl.sl (vlsG_cl R)) (ClL.cons (Cl.sl ClL.nil) (ClL.cons (Cl.sl ClL.nil) .nil))))) (fun _=>rfl) ?_
     conv=>whnf
     repeat (refine⟨_,⟨rfl,Nat.zero_le _,rfl,Nat.le_of_ble_eq_true rfl⟩,?_⟩;conv=>whnf)
     refine⟨by kernel_rfl,?_⟩
     conv=>whnf
     refine GIf.mk (fun n6=>?_) (fun n6=>?_)<;>conv=>whnf
     ·simp at n6
     refine callP haw (Wks.refl _) rfl (fun _=>rfl) (.b _) ?_
     conv=>whnf
     exact owes_b rfl
    ·skip
     refine callP haw (Wks.refl _) rfl (fun _=>rfl) (.b _) ?_
     conv=>whnf
     exact owes_b rfl
   ·skip
    refine callP haw (Wks.refl _) rfl (fun _=>rfl) (.b _) ?_
    conv=>whnf
    exact owes_b rfl
  have hlt2:i<l.length:=by have:=of_decide_eq_true hc;rw[hlen] at this;omega
  obtain⟨y,hy⟩:∃y,l[i]?=some y:=⟨l[i],List.getElem?_eq_getElem hlt2⟩
  obtain⟨c,hcb⟩:∃c,bs[i]?=some c:=⟨bs[i]'(by omega),List.getElem?_eq_getElem _⟩
  have hgy:(strG l)[i]?=some (.s y):=by unfold strG;rw[List.getElem?_map,hy];rfl
  have e3:=ev y
  rw[hb2 i y c hy hcb] at e3
  have hsucc:=all_succ hcb
  rw[hA] at hsucc
  refine⟨Int.natCast_nonneg _,.s y,by rw[Int.toNat_natCast];exact hgy,rfl,?_⟩
  conv=>whnf
  refine callP e3 (Wks.cons (Wk.refl _) (Wks.cons (Wk.refl _) (Wks.cons (Wk.refl _) (Wks.cons (Wk.sl _ _) (Wks.cons (Wk.sl _ _) (Wks.refl _)))))) rfl (ClL.cons (.s _) (ClL.cons (Cl.sl (itms_cl I)) (ClL.cons (Cl.sl (vlsG_cl R)) (ClL.cons (Cl.sl ClL.nil) (ClL.cons (Cl.sl ClL.nil) .nil))))) (fun _=>rfl) ?_
  conv=>whnf
  refine GIf.mk (fun g1=>?_) (fun g1=>?_)<;>conv=>whnf
  ·have hAc:GV.b c=.b ((bs.take (i+1)).all id):=by rw[hsucc,g1,Bool.true_and]
   exact⟨l.length - (i+1),(by show _<l.length - i;omega),i+1,hlt2,rfl,⟨rfl,rfl,rfl,rfl,rfl,rfl,rfl,hAc,wrap_succ (by omega),trivial⟩,rfl⟩
  ·have hAc:GV.b false=.b ((bs.take (i+1)).all id):=by rw[hsucc,g1,Bool.false_and]
   exact⟨l.length - (i+1),(by show _<l.length - i;omega),i+1,hlt2,rfl,⟨rfl,rfl,rfl,rfl,rfl,rfl,rfl,hAc,wrap_succ (by omega),trivial⟩,rfl⟩
end Go.Proofs.YtlhabmglchgdnaaGreatDoor
namespace Go.Proofs.YtlhabmglchgdnaaGreatDoor
theorem condParts_holds:Rows.CondPartsCardSaid:=condParts_card_of (condParts_of fun a0 a1 a2 a3 _ _ _ _=>⟨[],l_CondParts a0 a1 a2 a3⟩)
end Go.Proofs.YtlhabmglchgdnaaGreatDoor
