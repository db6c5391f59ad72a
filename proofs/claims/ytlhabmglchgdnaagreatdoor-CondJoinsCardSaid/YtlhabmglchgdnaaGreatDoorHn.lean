/-
  CondJoins: And, Or and Not of every two texts are those of the reference, and are true of a row as they say; part 48 of 48. Conditions: none beyond the given statement.
-/
import Derived.Test.YtlhabmglchgdnaaGreatDoorQ47
import Derived.Test.YtlhabmglchgdnaaGreatDoorQ29
set_option linter.all false
namespace Go.Proofs.YtlhabmglchgdnaaGreatDoor
open Go.RowKit
set_option maxRecDepth 100000
set_option linter.unusedVariables false
theorem l_tell (s:By) (e:Int):SC Tryz.prog 28 [.s s,.i .i64 e] [] (.val (.agg [.s s,.i .i64 e])) []:=by
 refine SC.of_gwp noM mixed Tryz.func28 rfl (Nat.le_of_ble_eq_true rfl) (by first|exact Nat.le_refl _|simp) rfl ?_
 conv=>whnf
 refine⟨_,⟨rfl,Nat.zero_le _,rfl,Nat.le_of_ble_eq_true rfl⟩,?_⟩
 conv=>whnf
 exact owes_wk (g':=.agg [.s s,.i .i64 e]) (.refl _) (fun _=>rfl)
theorem joinS_len (a:Bool) (s u:By):(joinS a s u).1.length<=1000:=by
 unfold joinS
 split
 ·exact Nat.zero_le _
 ·split
  ·exact Nat.zero_le _
  ·exact res_len _
theorem notS_len (s:By):(notS s).1.length<=1000:=by
 unfold notS
 split
 ·exact Nat.zero_le _
 ·exact res_len _
theorem eval_ok {I V:List Itm} {R W:List Val} {s:By} {b:Bool} (h:evalS I V R W s=(b,0)):∃t,readS s=.ok t/\evT I V R W t=(b,0):=by
 unfold evalS at h
 cases hx:readS s with
 |err e=>
  rw[hx] at h
  have:=readS_err hx
  have h0:e=0:=congrArg Prod.snd h
  omega
 |ok t=>rw[hx] at h;exact⟨t,rfl,h⟩
theorem eval_join {I V:List Itm} {R W:List Val} {a:Bool} {s u:By} {x y:Bool} (hx:evalS I V R W s=(x,0)) (hy:evalS I V R W u=(y,0)) (h:(joinS a s u).2=0):
  evalS I V R W (joinS a s u).1=(if a then x&&y else x||y,0):=by
 obtain⟨t,h1,h2⟩:=eval_ok hx
 obtain⟨t',h3,h4⟩:=eval_ok hy
 have e:joinS a s u=resS (.pair a t t'):=by unfold joinS;rw[h1,h3]
 rw[e] at h⊢
 have hg:(Tree.pair a t t').good:=⟨(readS_good h1).1,(readS_good h3).1⟩
 unfold evalS
 rw[res_read hg h]
 simp only
 rw[evT_flat]
 obtain⟨k1,k2,k3,k4,k5⟩:=evT_ok h2
 obtain⟨_,k2',_,_,k5'⟩:=evT_ok h4
 rw[evT_mk k1 (check_pair k2 k2') k3 k4,k5,k5']
 rfl
theorem eval_not {I V:List Itm} {R W:List Val} {s:By} {x:Bool} (hx:evalS I V R W s=(x,0)) (h:(notS s).2=0):evalS I V R W (notS s).1=(!x,0):=by
 obtain⟨t,h1,h2⟩:=eval_ok hx
 have e:notS s=resS (.no t):=by unfold notS;rw[h1]
 rw[e] at h⊢
 have hg:(Tree.no t).good:=(readS_good h1).1
 unfold evalS
 rw[res_read hg h]
 simp only
 rw[evT_flat]
 obtain⟨k1,k2,k3,k4,k5⟩:=evT_ok h2
 rw[evT_mk k1 (check_no k2) k3 k4,k5]
 rfl
theorem l_CondJoins (s u:By) (I:List Itm) (R:List Val):
  SC Tryz.prog 5 [.s s,.s u,.sl .none (itms I),.sl .none (vlsG R)] [] (.val (.b true)) []:=by
 have haw:=l_awake
 have i1:=l_Items I
 have i3:=l_Rows [R] (by simp)
 have hRW:[R].all rowB=true->R.length<most:=fun h=>by
  simp only[List.all_cons,List.all_nil,Bool.and_true] at h
  exact row_le h
 have hRs:[R].all rowB=true->(∀v∈R,v.s.length<most):=fun h=>by
  simp only[List.all_cons,List.all_nil,Bool.and_true,Bool.and_eq_true,rowB,List.all_eq_true,decide_eq_true_eq] at h
  unfold most
  exact fun v hv=>by have:=h.2 v hv;omega
 generalize[R].all rowB=b3 at*
 cases b1:itemsB I with
 |false=>
  rw[b1] at i1
  refine SC.of_gwp noM mixed Tryz.func5 rfl (Nat.le_of_ble_eq_true rfl) (by first|exact Nat.le_refl _|simp) rfl ?_
  conv=>whnf
  refine GIf.mk (fun h=>?_) (fun h=>?_)<;>conv=>whnf
  ·skip
   refine callP haw (Wks.refl _) rfl (fun _=>rfl) (.b _) ?_
   conv=>whnf
   exact owes_b rfl
  refine callP i1 (Wks.refl _) rfl (ClL.cons (Cl.sl (itms_cl I)) .nil) (.b _) ?_
  conv=>whnf
  refine callP haw (Wks.refl _) rfl (fun _=>rfl) (.b _) ?_
  conv=>whnf
  exact owes_b rfl
 |true=>
 rw[b1] at i1
 cases b3 with
 |false=>
  refine SC.of_gwp noM mixed Tryz.func5 rfl (Nat.le_of_ble_eq_true rfl) (by first|exact Nat.le_refl _|simp) rfl ?_
  conv=>whnf
  refine GIf.mk (fun h=>?_) (fun h=>?_)<;>conv=>whnf
  ·skip
   refine callP haw (Wks.refl _) rfl (fun _=>rfl) (.b _) ?_
   conv=>whnf
   exact owes_b rfl
  refine callP i1 (Wks.refl _) rfl (ClL.cons (Cl.sl (itms_cl I)) .nil) (.b _) ?_
  conv=>whnf
  refine callP i3 (Wks.cons (Wk.sl _ _) (Wks.refl _)) rfl (ClL.cons (Cl.sl (rowsG_cl [R])) .nil) (.b _) ?_
  conv=>whnf
  refine callP haw (Wks.refl _) rfl (fun _=>rfl) (.b _) ?_
  conv=>whnf
  exact owes_b rfl
 |true=>
  have hRs:=hRs rfl
  have hR:=hRW rfl
  have hI:=items_le b1
  have c1:=c_And s u
  have c2:=c_Or s u
  have c3:=c_Not s
  have r1:=r_And s u
  have r2:=r_Or s u
  have r3:=r_Not s
  have e1:=r_EvalU I R hI hR hRs s
  have e2:=r_EvalU I R hI hR hRs u
  rw[twoR_eq] at r1 r2
  rw[notR_eq] at r3
  rw[evalR_eq] at e1 e2
  have ev:=fun w hw=>c_Eval I [] R [] hI (by unfold most;simp) hR (by unfold most;simp) w hw
  have d1:=ev (joinS true s u).1 (by have:=joinS_len true s u;unfold most;omega)
  have d2:=ev (joinS false s u).1 (by have:=joinS_len false s u;unfold most;omega)
  have d3:=ev (notS s).1 (by have:=notS_len s;unfold most;omega)
  have c4:=c_Not (notS s).1
  have d4:=ev (notS (notS s).1).1 (by have:=notS_len (notS s).1;unfold most;omega)
  have j1:=fun x y hx hy=>@eval_join I [] R [] true s u x y hx hy
  have j2:=fun x y hx hy=>@eval_join I [] R [] false s u x y hx hy
  have j3:=fun x hx=>@eval_not I [] R [] s x hx
  have j4:=fun x hx=>@eval_not I [] R [] (notS s).1 x hx
  clear ev
  generalize joinS true s u=A1 at*
  generalize joinS false s u=A2 at*
  generalize notS s=A3 at*
  obtain⟨w1,f1⟩:=A1
  obtain⟨w2,f2⟩:=A2
  obtain⟨w3,f3⟩:=A3
  simp only at c1 c2 c3 c4 r1 r2 r3 d1 d2 d3 d4 j1 j2 j3 j4
  generalize notS w3=A4 at*
  obtain⟨w4,f4⟩:=A4
  simp only at c4 d4 j4
  generalize evalS I [] R [] s=X1 at*
  generalize evalS I [] R [] u=X2 at*
  obtain⟨x,p⟩:=X1
  obtain⟨y,q⟩:=X2
  simp only at e1 e2
  have t1:=l_tell w1 f1
  have t2:=l_tell w2 f2
  have t3:=l_tell w3 f3
  refine SC.of_gwp noM mixed Tryz.func5 rfl (Nat.le_of_ble_eq_true rfl) (by first|exact Nat.le_refl _|simp) rfl ?_
  conv=>whnf
  refine GIf.mk (fun h=>?_) (fun h=>?_)<;>conv=>whnf
  ·skip
   refine callP haw (Wks.refl _) rfl (fun _=>rfl) (.b _) ?_
   conv=>whnf
   exact owes_b rfl
  refine callP i1 (Wks.refl _) rfl (ClL.cons (Cl.sl (itms_cl I)) .nil) (.b _) ?_
  conv=>whnf
  refine callP i3 (Wks.cons (Wk.sl _ _) (Wks.refl _)) rfl (ClL.cons (Cl.sl (rowsG_cl [R])) .nil) (.b _) ?_
  conv=>whnf
  refine callP c1 (Wks.refl _) rfl (fun _=>rfl) (fun _=>rfl) ?_
  conv=>whnf
  refine callP c2 (Wks.refl _) rfl (fun _=>rfl) (fun _=>rfl) ?_
  conv=>whnf
  refine callP c3 (Wks.refl _) rfl (fun _=>rfl) (fun _=>rfl) ?_
  conv=>whnf
  refine callP t1 (Wks.refl _) rfl (fun _=>rfl) (fun _=>rfl) ?_
  conv=>whnf
  refine callP r1 (Wks.refl _) rfl (fun _=>rfl) (fun _=>rfl) ?_
  conv=>whnf
  refine callP t1 (Wks.refl _) rfl (fun _=>rfl) (fun _=>rfl) ?_
  conv=>whnf
  refine⟨by kernel_rfl,?_⟩
  conv=>whnf
  refine GIf.mk (fun n1=>?_) (fun n1=>?_)<;>conv=>whnf
  ·simp at n1
  refine callP t2 (Wks.refl _) rfl (fun _=>rfl) (fun _=>rfl) ?_
  conv=>whnf
  refine callP r2 (Wks.refl _) rfl (fun _=>rfl) (fun _=>rfl) ?_
  conv=>whnf
  refine callP t2 (Wks.refl _) rfl (fun _=>rfl) (fun _=>rfl) ?_
  conv=>whnf
  refine⟨by kernel_rfl,?_⟩
  conv=>whnf
  refine GIf.mk (fun n2=>?_) (fun n2=>?_)<;>conv=>whnf
  ·simp at n2
  refine callP t3 (Wks.refl _) rfl (fun _=>rfl) (fun _=>rfl) ?_
  conv=>whnf
  refine callP r3 (Wks.refl _) rfl (fun _=>rfl) (fun _=>rfl) ?_
  conv=>whnf
  refine callP t3 (Wks.refl _) rfl (fun _=>rfl) (fun _=>rfl) ?_
  conv=>whnf
  refine⟨by kernel_rfl,?_⟩
  conv=>whnf
  refine GIf.mk (fun n3=>?_) (fun n3=>?_)<;>conv=>whnf
  ·simp at n3
  refine callP e1 (Wks.cons (Wk.refl _) (Wks.cons (Wk.refl _) (Wks.cons (Wk.refl _) (Wks.cons (Wk.sl _ _) (Wks.cons (Wk.sl _ _) (Wks.refl _)))))) rfl (ClL.cons (.s _) (ClL.cons (Cl.sl (itms_cl I)) (ClL.cons (Cl.sl (vlsG_cl R)) (ClL.cons (Cl.sl ClL.nil) (ClL.cons (Cl.sl ClL.nil) .nil))))) (fun _=>rfl) ?_
  conv=>whnf
  refine callP e2 (Wks.cons (Wk.refl _) (Wks.cons (Wk.refl _) (Wks.cons (Wk.refl _) (Wks.cons (Wk.sl _ _) (Wks.cons (Wk.sl _ _) (Wks.refl _)))))) rfl (ClL.cons (.s _) (ClL.cons (Cl.sl (itms_cl I)) (ClL.cons (Cl.sl (vlsG_cl R)) (ClL.cons (Cl.sl ClL.nil) (ClL.cons (Cl.sl ClL.nil) .nil))))) (fun _=>rfl) ?_
  conv=>whnf
  refine GIf.mk (fun z1=>?_) (fun z1=>?_)<;>conv=>whnf
  ·skip
   refine callP haw (Wks.refl _) rfl (fun _=>rfl) (.b _) ?_
   conv=>whnf
   exact owes_b rfl
  refine GIf.mk (fun z2=>?_) (fun z2=>?_)<;>conv=>whnf
  ·skip
   refine callP haw (Wks.refl _) rfl (fun _=>rfl) (.b _) ?_
   conv=>whnf
   exact owes_b rfl
  have hX:(x,p)=(x,(0:Int)):=by rw[show p=0 by simpa using z1]
  have hY:(y,q)=(y,(0:Int)):=by rw[show q=0 by simpa using z2]
  cases x<;>cases y
  all_goals
   refine GIf.mk (fun z3=>?_) (fun z3=>?_)<;>conv=>whnf
   ·have h1:=j1 _ _ hX hY (by simpa using z3)
    rw[h1] at d1
    refine callP d1 (Wks.cons (Wk.refl _) (Wks.cons (Wk.refl _) (Wks.cons (Wk.refl _) (Wks.cons (Wk.sl _ _) (Wks.cons (Wk.sl _ _) (Wks.refl _)))))) rfl (ClL.cons (.s _) (ClL.cons (Cl.sl (itms_cl I)) (ClL.cons (Cl.sl (vlsG_cl R)) (ClL.cons (Cl.sl ClL.nil) (ClL.cons (Cl.sl ClL.nil) .nil))))) (fun _=>rfl) ?_
    conv=>whnf
    refine GIf.mk (fun z4=>?_) (fun z4=>?_)<;>conv=>whnf
    ·have h2:=j2 _ _ hX hY (by simpa using z4)
     rw[h2] at d2
     refine callP d2 (Wks.cons (Wk.refl _) (Wks.cons (Wk.refl _) (Wks.cons (Wk.refl _) (Wks.cons (Wk.sl _ _) (Wks.cons (Wk.sl _ _) (Wks.refl _)))))) rfl (ClL.cons (.s _) (ClL.cons (Cl.sl (itms_cl I)) (ClL.cons (Cl.sl (vlsG_cl R)) (ClL.cons (Cl.sl ClL.nil) (ClL.cons (Cl.sl ClL.nil) .nil))))) (fun _=>rfl) ?_
     conv=>whnf
     refine GIf.mk (fun z5=>?_) (fun z5=>?_)<;>conv=>whnf
     ·have h3:=j3 _ hX (by simpa using z5)
      rw[h3] at d3
      refine callP d3 (Wks.cons (Wk.refl _) (Wks.cons (Wk.refl _) (Wks.cons (Wk.refl _) (Wks.cons (Wk.sl _ _) (Wks.cons (Wk.sl _ _) (Wks.refl _)))))) rfl (ClL.cons (.s _) (ClL.cons (Cl.sl (itms_cl I)) (ClL.cons (Cl.sl (vlsG_cl R)) (ClL.cons (Cl.sl ClL.nil) (ClL.cons (Cl.sl ClL.nil) .nil))))) (fun _=>rfl) ?_
      conv=>whnf
      refine callP c4 (Wks.refl _) rfl (fun _=>rfl) (fun _=>rfl) ?_
      conv=>whnf
      refine GIf.mk (fun z6=>?_) (fun z6=>?_)<;>conv=>whnf
      ·have h4:=j4 _ h3 (by simpa using z6)
       rw[h4] at d4
       refine callP d4 (Wks.cons (Wk.refl _) (Wks.cons (Wk.refl _) (Wks.cons (Wk.refl _) (Wks.cons (Wk.sl _ _) (Wks.cons (Wk.sl _ _) (Wks.refl _)))))) rfl (ClL.cons (.s _) (ClL.cons (Cl.sl (itms_cl I)) (ClL.cons (Cl.sl (vlsG_cl R)) (ClL.cons (Cl.sl ClL.nil) (ClL.cons (Cl.sl ClL.nil) .nil))))) (fun _=>rfl) ?_
       conv=>whnf
       refine callP haw (Wks.refl _) rfl (fun _=>rfl) (.b _) ?_
       conv=>whnf
       exact owes_b rfl
      ·skip
       refine callP haw (Wks.refl _) rfl (fun _=>rfl) (.b _) ?_
       conv=>whnf
       exact owes_b rfl
     ·skip
      refine callP haw (Wks.refl _) rfl (fun _=>rfl) (.b _) ?_
      conv=>whnf
      exact owes_b rfl
    ·skip
     refine GIf.mk (fun z5=>?_) (fun z5=>?_)<;>conv=>whnf
     ·have h3:=j3 _ hX (by simpa using z5)
      rw[h3] at d3
      refine callP d3 (Wks.cons (Wk.refl _) (Wks.cons (Wk.refl _) (Wks.cons (Wk.refl _) (Wks.cons (Wk.sl _ _) (Wks.cons (Wk.sl _ _) (Wks.refl _)))))) rfl (ClL.cons (.s _) (ClL.cons (Cl.sl (itms_cl I)) (ClL.cons (Cl.sl (vlsG_cl R)) (ClL.cons (Cl.sl ClL.nil) (ClL.cons (Cl.sl ClL.nil) .nil))))) (fun _=>rfl) ?_
      conv=>whnf
      refine callP c4 (Wks.refl _) rfl (fun _=>rfl) (fun _=>rfl) ?_
      conv=>whnf
      refine GIf.mk (fun z6=>?_) (fun z6=>?_)<;>conv=>whnf
      ·have h4:=j4 _ h3 (by simpa using z6)
       rw[h4] at d4
       refine callP d4 (Wks.cons (Wk.refl _) (Wks.cons (Wk.refl _) (Wks.cons (Wk.refl _) (Wks.cons (Wk.sl _ _) (Wks.cons (Wk.sl _ _) (Wks.refl _)))))) rfl (ClL.cons (.s _) (ClL.cons (Cl.sl (itms_cl I)) (ClL.cons (Cl.sl (vlsG_cl R)) (ClL.cons (Cl.sl ClL.nil) (ClL.cons (Cl.sl ClL.nil) .nil))))) (fun _=>rfl) ?_
       conv=>whnf
       refine callP haw (Wks.refl _) rfl (fun _=>rfl) (.b _) ?_
       conv=>whnf
       exact owes_b rfl
      ·skip
       refine callP haw (Wks.refl _) rfl (fun _=>rfl) (.b _) ?_
       conv=>whnf
       exact owes_b rfl
     ·skip
      refine callP haw (Wks.refl _) rfl (fun _=>rfl) (.b _) ?_
      conv=>whnf
      exact owes_b rfl
   ·skip
    refine GIf.mk (fun z4=>?_) (fun z4=>?_)<;>conv=>whnf
    ·have h2:=j2 _ _ hX hY (by simpa using z4)
     rw[h2] at d2
     refine callP d2 (Wks.cons (Wk.refl _) (Wks.cons (Wk.refl _) (Wks.cons (Wk.refl _) (Wks.cons (Wk.sl _ _) (Wks.cons (Wk.sl _ _) (Wks.refl _)))))) rfl (ClL.cons (.s _) (ClL.cons (Cl.sl (itms_cl I)) (ClL.cons (Cl.sl (vlsG_cl R)) (ClL.cons (Cl.sl ClL.nil) (ClL.cons (Cl.sl ClL.nil) .nil))))) (fun _=>rfl) ?_
     conv=>whnf
     refine GIf.mk (fun z5=>?_) (fun z5=>?_)<;>conv=>whnf
     ·have h3:=j3 _ hX (by simpa using z5)
      rw[h3] at d3
      refine callP d3 (Wks.cons (Wk.refl _) (Wks.cons (Wk.refl _) (Wks.cons (Wk.refl _) (Wks.cons (Wk.sl _ _) (Wks.cons (Wk.sl _ _) (Wks.refl _)))))) rfl (ClL.cons (.s _) (ClL.cons (Cl.sl (itms_cl I)) (ClL.cons (Cl.sl (vlsG_cl R)) (ClL.cons (Cl.sl ClL.nil) (ClL.cons (Cl.sl ClL.nil) .nil))))) (fun _=>rfl) ?_
      conv=>whnf
      refine callP c4 (Wks.refl _) rfl (fun _=>rfl) (fun _=>rfl) ?_
      conv=>whnf
      refine GIf.mk (fun z6=>?_) (fun z6=>?_)<;>conv=>whnf
      ·have h4:=j4 _ h3 (by simpa using z6)
       rw[h4] at d4
       refine callP d4 (Wks.cons (Wk.refl _) (Wks.cons (Wk.refl _) (Wks.cons (Wk.refl _) (Wks.cons (Wk.sl _ _) (Wks.cons (Wk.sl _ _) (Wks.refl _)))))) rfl (ClL.cons (.s _) (ClL.cons (Cl.sl (itms_cl I)) (ClL.cons (Cl.sl (vlsG_cl R)) (ClL.cons (Cl.sl ClL.nil) (ClL.cons (Cl.sl ClL.nil) .nil))))) (fun _=>rfl) ?_
       conv=>whnf
       refine callP haw (Wks.refl _) rfl (fun _=>rfl) (.b _) ?_
       conv=>whnf
       exact owes_b rfl
      ·skip
       refine callP haw (Wks.refl _) rfl (fun _=>rfl) (.b _) ?_
       conv=>whnf
       exact owes_b rfl
     ·skip
      refine callP haw (Wks.refl _) rfl (fun _=>rfl) (.b _) ?_
      conv=>whnf
      exact owes_b rfl
    ·skip
     refine GIf.mk (fun z5=>?_) (fun z5=>?_)<;>conv=>whnf
     ·have h3:=j3 _ hX (by simpa using z5)
      rw[h3] at d3
      refine callP d3 (Wks.cons (Wk.refl _) (Wks.cons (Wk.refl _) (Wks.cons (Wk.refl _) (Wks.cons (Wk.sl _ _) (Wks.cons (Wk.sl _ _) (Wks.refl _)))))) rfl (ClL.cons (.s _) (ClL.cons (Cl.sl (itms_cl I)) (ClL.cons (Cl.sl (vlsG_cl R)) (ClL.cons (Cl.sl ClL.nil) (ClL.cons (Cl.sl ClL.nil) .nil))))) (fun _=>rfl) ?_
      conv=>whnf
      refine callP c4 (Wks.refl _) rfl (fun _=>rfl) (fun _=>rfl) ?_
      conv=>whnf
      refine GIf.mk (fun z6=>?_) (fun z6=>?_)<;>conv=>whnf
      ·have h4:=j4 _ h3 (by simpa using z6)
       rw[h4] at d4
       refine callP d4 (Wks.cons (Wk.refl _) (Wks.cons (Wk.refl _) (Wks.cons (Wk.refl _) (Wks.cons (Wk.sl _ _) (Wks.cons (Wk.sl _ _) (Wks.refl _)))))) rfl (ClL.cons (.s _) (ClL.cons (Cl.sl (itms_cl I)) (ClL.cons (Cl.sl (vlsG_cl R)) (ClL.cons (Cl.sl ClL.nil) (ClL.cons (Cl.sl ClL.nil) .nil))))) (fun _=>rfl) ?_
       conv=>whnf
       refine callP haw (Wks.refl _) rfl (fun _=>rfl) (.b _) ?_
       conv=>whnf
       exact owes_b rfl
      ·skip
       refine callP haw (Wks.refl _) rfl (fun _=>rfl) (.b _) ?_
       conv=>whnf
       exact owes_b rfl
     ·skip
      refine callP haw (Wks.refl _) rfl (fun _=>rfl) (.b _) ?_
      conv=>whnf
      exact owes_b rfl
end Go.Proofs.YtlhabmglchgdnaaGreatDoor
namespace Go.Proofs.YtlhabmglchgdnaaGreatDoor
theorem condJoins_holds:Rows.CondJoinsCardSaid:=condJoins_card_of (condJoins_of fun s u I R _ _ _ _=>⟨[],l_CondJoins s u I R⟩)
end Go.Proofs.YtlhabmglchgdnaaGreatDoor
