/-
  A part of the proof of ViewTexts.
-/
import Derived.Test.YtldggonlkafckaaGreatDoorQ19
import Derived.Laws.Rows
set_option linter.all false
namespace Go.Proofs.YtldggonlkafckaaGreatDoor
open Go.RowKit
set_option maxRecDepth 100000
set_option linter.unusedVariables false
def dval (l:List UInt8):Nat:=l.foldl (fun a c=>10*a+(c.toNat - 48)) 0
theorem dval_snoc (l:List UInt8) (c:UInt8):dval (l++[c])=10*dval l+(c.toNat - 48):=by simp[dval]
def digs (l:List UInt8):Nat:=min 17 (l.takeWhile isDigit).length
def numS (s:List UInt8):Int×Nat:=
 let mi:=decide (s.head?=some 45)
 let l:=if mi then s.tail else s
 let k:=digs l
 let n:=dval (l.take k)
 if k=0∨(1<k/\l.head?=some 48)∨(mi=true/\n=0)∨17<=k then(0,0) else(if mi then -(n:Int) else n,(if mi then 1 else 0)+k)
theorem dval_lt:∀(k:Nat) (l:List UInt8),l.length<=k->(∀c∈l,isDigit c=true)->dval l<10^k:=by
 intro k
 induction k with
 |zero=>intro l h _;have:l=[]:=List.eq_nil_of_length_eq_zero (by omega);subst this;decide
 |succ k ih=>
  intro l h hd
  rcases List.eq_nil_or_concat l with rfl|⟨l',c,rfl⟩
  ·exact Nat.pos_of_ne_zero (by simp)
  ·rw[List.concat_eq_append,dval_snoc]
   have h1:=ih l' (by simp at h;omega) (fun d hd'=>hd d (by simp[hd']))
   have h2:=hd c (by simp)
   simp[isDigit] at h2
   rw[Nat.pow_succ];omega
theorem digs_lt {l:List UInt8} {j:Nat} (h:j<=digs l):∀c∈l.take j,isDigit c=true:=fun c hc=>by
 have h1:j<=(l.takeWhile isDigit).length:=by unfold digs at h;omega
 have h2:l.take j<+:l.takeWhile isDigit:=by
  have:=List.takeWhile_prefix (l:=l) isDigit
  exact List.prefix_of_prefix_length_le (List.take_prefix j l) this (by rw[List.length_take];omega)
 exact List.all_eq_true.1 (List.all_takeWhile (p:=isDigit) (l:=l)) c (h2.subset hc)
theorem digs_next {l:List UInt8} {j:Nat} {c:UInt8} (hj:j<=digs l) (hc:l[j]?=some c) (hd:isDigit c=true) (h17:j<17):j+1<=digs l:=by
 have h1:j<=(l.takeWhile isDigit).length:=by unfold digs at hj;omega
 have:j<(l.takeWhile isDigit).length:=by
  rcases Nat.lt_or_ge j (l.takeWhile isDigit).length with h|h
  ·exact h
  ·exfalso
   have e:j=(l.takeWhile isDigit).length:=by omega
   have key:∀l:List UInt8,∀c,l[(l.takeWhile isDigit).length]?=some c->isDigit c=false:=by
    intro l
    induction l with
    |nil=>intro c h;cases h
    |cons a l ih=>
     intro c h
     rw[List.takeWhile_cons] at h
     split at h
     ·simp at h;exact ih c h
     ·rename_i ha;simp at h;subst h;simpa using ha
   rw[e] at hc
   rw[key l c hc] at hd;cases hd
 unfold digs;omega
theorem digs_end {l:List UInt8} {j:Nat} (hj:j<=digs l) (h:j=17∨(∀c,l[j]?=some c->isDigit c=false)):j=digs l:=by
 rcases h with h|h
 ·unfold digs at hj⊢;omega
 ·rcases Nat.lt_or_ge j (digs l) with hlt|hge
  ·exfalso
   have h1:j<(l.takeWhile isDigit).length:=by unfold digs at hlt;omega
   have h2:=List.takeWhile_prefix (l:=l) isDigit
   have h3:l[j]?=some (l.takeWhile isDigit)[j]:=by
    obtain⟨r,hr⟩:=h2
    conv=>lhs;rw[<-hr]
    rw[List.getElem?_append_left h1,gL h1]
   have h4:=List.all_eq_true.1 (List.all_takeWhile (p:=isDigit) (l:=l)) _ (List.getElem_mem h1)
   rw[h _ h3] at h4;cases h4
  ·omega
theorem num_step [MaxL] (n c:Nat) (hn:n<100000000000000000) (h1:48<=c) (h2:c<=57):IntKind.i64.wrap (IntKind.i64.wrap (10*(n:Int))+IntKind.i64.wrap (IntKind.u8.wrap ((c:Int) - 48)))=((10*n+(c - 48):Nat):Int):=by
 rw[u8_wrap (n:=(c:Int) - 48) (by omega) (by omega),wrap_in (n:=(c:Int) - 48) (by omega) (by omega),wrap_in (n:=10*(n:Int)) (by omega) (by omega),wrap_in (by omega) (by omega)]
 omega
set_option maxHeartbeats 2000000 in
theorem r_NumberM [MaxL] (s:List UInt8) (hs:s.length<most) (h45:s.head?=some 45):SC Tryz.prog 240 [.s s,.i .i64 0] [] (.val (.tup [.i .i64 (numS s).1,.i .i64 ((numS s).2:Nat)])) []:=by
 unfold most at hs
 obtain⟨R,hR⟩:∃R,R=numS s:=⟨_,rfl⟩
 rw[<-hR]
 refine gwS Tryz.func240 rfl ?_
 conv=>whnf
 have hg0:s[0]?=some 45:=by rw[<-List.head?_eq_getElem?];exact h45
 have hpos:0<s.length:=(List.getElem?_eq_some_iff.1 hg0).1
 refine GIf.mk (fun _=>?_) (fun h0=>?_)
 rotate_left
 ·exfalso;have:=of_decide_eq_false h0;omega
 conv=>whnf
 refine GNeed.mk (Int.le_refl 0) ⟨45,hg0,?_⟩
 conv=>whnf
 have hmi:decide (s.head?=some 45)=true:=decide_eq_true h45
 obtain⟨l,hlst⟩:∃l,l=s.tail:=⟨_,rfl⟩
 have hN:numS s=if digs l=0∨(1<digs l/\l.head?=some 48)∨(true=true/\dval (l.take (digs l))=0)∨17<=digs l then(0,0) else(-(dval (l.take (digs l)):Int),1+digs l):=by
  rw[hlst];unfold numS;simp only[hmi];rfl
 have hget:∀j:Nat,l[j]?=s[1+j]?:=fun j=>by rw[hlst];rw[List.getElem?_tail,Nat.add_comm]
 have hll:l.length=s.length - 1:=by rw[hlst];rw[List.length_tail]
 clear hlst
 refine GLoop.intro (fun j:Nat=>j<=digs l) (fun j=>[(0,.s s),(1,.i .i64 0),(4,.i .i64 (dval (l.take j):Nat)),(5,.i .i64 0),(6,.i .i64 (1+j:Nat)),(7,.b true),(8,.i .i64 (1:Nat))]) (fun _=>⟨[],0,[]⟩) (fun j=>17 - j) 0 (zL _) ⟨rfl,rfl,rfl,rfl,rfl,rfl,rfl,trivial⟩ rfl (fun j φ0 hj=>?_)
 have hj17:j<=17:=by unfold digs at hj;omega
 have hjl:j<=l.length:=by
  have:=(List.takeWhile_prefix (l:=l) isDigit).length_le
  unfold digs at hj;omega
 have hdv:=dval_lt j (l.take j) (by rw[List.length_take];omega) (digs_lt hj)
 have hdv17:dval (l.take j)<10^17:=Nat.lt_of_lt_of_le hdv (Nat.pow_le_pow_right (by decide) hj17)
 have hdv18:dval (l.take j)<100000000000000000:=hdv17
 have wj:IntKind.i64.wrap (((1+j:Nat):Int) - ((1:Nat):Int))=(j:Int):=by rw[wrap_in (by omega) (by omega)];omega
 clear hdv hdv17
 conv=>whnf
 refine GIf.mk (fun h1=>?lt) (fun h1=>?stop1)
 case' lt=>
  have h1':1+j<s.length:=by have:=of_decide_eq_true h1;omega
  have hgi:s[1+j]?=some (s.getD (1+j) 0):=by rw[List.getD_eq_getElem?_getD,gL h1'];rfl
  have hlj:l[j]?=some (s.getD (1+j) 0):=(hget j).trans hgi
  generalize s.getD (1+j) 0=c at*
  have hgi':s[((1+j:Nat):Int).toNat]?=some c:=by rw[Int.toNat_natCast];exact hgi
  have hcl:=UInt8.toNat_lt c
  conv=>whnf
  refine GNeed.mk (cN _) ⟨c,hgi',?_⟩
  conv=>whnf
  refine GIf.mk (fun h2=>?ge) (fun h2=>?stop2)
  case' stop2=>
   have hend:=digs_end hj (.inr (fun d hd=>by rw[hlj] at hd;cases hd;have:=of_decide_eq_false h2;simp[isDigit];omega))
   clear hgi' hlj hgi h1' h2 hcl
  case' ge=>
   conv=>whnf
   refine GNeed.mk (cN _) ⟨c,hgi',?_⟩
   conv=>whnf
   refine GIf.mk (fun h3=>?le) (fun h3=>?stop3)
   case' stop3=>
    have hend:=digs_end hj (.inr (fun d hd=>by rw[hlj] at hd;cases hd;have:=of_decide_eq_false h3;simp[isDigit];omega))
    clear hgi' hlj hgi h1' h2 h3 hcl
   case' le=>
    conv=>whnf
    refine GIf.mk (fun h4=>?go) (fun h4=>?stop4)
    case' stop4=>
     have hend:=digs_end hj (.inl (by have:=of_decide_eq_false h4;rw[wj] at this;omega))
     clear hgi' hlj hgi h1' h2 h3 h4 hcl
    case' go=>
     have g2:=of_decide_eq_true h2
     have g3:=of_decide_eq_true h3
     have g4:=of_decide_eq_true h4
     rw[wj] at g4
     have htk:l.take (j+1)=l.take j++[c]:=by rw[List.take_add_one,hlj];rfl
     conv=>whnf
     refine GNeed.mk (cN _) ⟨c,hgi',?_⟩
     conv=>whnf
     refine GLoop.next (j+1) (digs_next hj hlj (by simp[isDigit];omega) (by omega)) (by omega) ⟨rfl,rfl,?_,rfl,wrap_succ (by omega),rfl,rfl,trivial⟩ rfl
     refine congrArg (GV.i .i64) ?_
     rw[htk,dval_snoc]
     exact num_step _ _ hdv18 (by omega) (by omega)
 case' stop1=>
  have hend:=digs_end hj (.inr (fun d hd=>by have:=(List.getElem?_eq_some_iff.1 hd).1;have:=of_decide_eq_false h1;omega))
 all_goals
  clear h1
  subst hend
  conv=>whnf
  refine GIf.mk (fun e1=>?_) (fun e1=>?_)<;>conv=>whnf
  ·have hk0:digs l=0:=by have:=eq_of_beq e1;omega
   have hr:R=(0,0):=hR.trans (hN.trans (if_pos (.inl hk0)))
   cases hr
   exact owes_wk (.refl _) (Cl.tup (.cons (.i _ _) (.cons (.i _ _) .nil)))
  have hk0:¬digs l=0:=fun h=>by rw[h] at e1;simp at e1
  refine GIf.mk (fun e2=>?_) (fun e2=>?_)<;>conv=>whnf
  ·have hk1:1<digs l:=by have:=of_decide_eq_true e2;rw[wj] at this;omega
   obtain⟨c0,hc0⟩:∃c0,l[0]?=some c0:=⟨l[0]'(by omega),gL (by omega)⟩
   have hs0:s[((1:Nat):Int).toNat]?=some c0:=by rw[Int.toNat_natCast];exact(hget 0).symm.trans hc0
   refine GNeed.mk (cN _) ⟨c0,hs0,?_⟩
   conv=>whnf
   refine GIf.mk (fun e3=>?_) (fun e3=>?_)<;>conv=>whnf
   ·have h48:l.head?=some 48:=by rw[List.head?_eq_getElem?,hc0,u8_eq (d:=48) e3]
    have hr:R=(0,0):=hR.trans (hN.trans (if_pos (.inr (.inl ⟨hk1,h48⟩))))
    cases hr
    exact owes_wk (.refl _) (Cl.tup (.cons (.i _ _) (.cons (.i _ _) .nil)))
   have h48:¬l.head?=some 48:=fun h=>u8_ne (d:=48) e3 (by rw[List.head?_eq_getElem?,hc0] at h;exact Option.some.inj h)
   refine GIf.mk (fun e4=>?_) (fun e4=>?_)<;>conv=>whnf
   ·have hn0:dval (l.take (digs l))=0:=by have:=eq_of_beq e4;omega
    have hr:R=(0,0):=hR.trans (hN.trans (if_pos (.inr (.inr (.inl ⟨rfl,hn0⟩)))))
    cases hr
    exact owes_wk (.refl _) (Cl.tup (.cons (.i _ _) (.cons (.i _ _) .nil)))
   ·have hn0:¬dval (l.take (digs l))=0:=fun h=>by rw[h] at e4;cases e4
    refine GIf.mk (fun e5=>?_) (fun e5=>?_)<;>conv=>whnf
    ·have h17:17<=digs l:=by have:=of_decide_eq_true e5;rw[wj] at this;omega
     have hr:R=(0,0):=hR.trans (hN.trans (if_pos (.inr (.inr (.inr h17)))))
     cases hr
     exact owes_wk (.refl _) (Cl.tup (.cons (.i _ _) (.cons (.i _ _) .nil)))
    ·have h17:¬17<=digs l:=by have:=of_decide_eq_false e5;rw[wj] at this;omega
     have hr:R=(-(dval (l.take (digs l)):Int),1+digs l):=hR.trans (hN.trans (if_neg (fun h=>h.elim hk0 (fun h=>h.elim (fun h=>h48 h.2) (fun h=>h.elim (fun h=>hn0 h.2) h17)))))
     cases hr
     have w2:IntKind.i64.wrap (((1+digs l:Nat):Int) - 0)=((1+digs l:Nat):Int):=by rw[wrap_in (by omega) (by omega)];omega
     have w3:IntKind.i64.wrap (0 - (dval (l.take (digs l)):Int))= -(dval (l.take (digs l)):Int):=by rw[wrap_in (by omega) (by omega)];omega
     refine owes_wk (Wk.of_eq ?_) (Cl.tup (.cons (.i _ _) (.cons (.i _ _) .nil)))
     show GV.tup [.i .i64 (IntKind.i64.wrap (0 - (dval (l.take (digs l)):Int))),.i .i64 (IntKind.i64.wrap (((1+digs l:Nat):Int) - 0))]=_
     rw[w2,w3]
  have hk1:¬1<digs l:=by have:=of_decide_eq_false e2;rw[wj] at this;omega
  refine GIf.mk (fun e4=>?_) (fun e4=>?_)<;>conv=>whnf
  ·have hn0:dval (l.take (digs l))=0:=by have:=eq_of_beq e4;omega
   have hr:R=(0,0):=hR.trans (hN.trans (if_pos (.inr (.inr (.inl ⟨rfl,hn0⟩)))))
   cases hr
   exact owes_wk (.refl _) (Cl.tup (.cons (.i _ _) (.cons (.i _ _) .nil)))
  ·have hn0:¬dval (l.take (digs l))=0:=fun h=>by rw[h] at e4;cases e4
   refine GIf.mk (fun e5=>?_) (fun e5=>?_)<;>conv=>whnf
   ·have h17:17<=digs l:=by have:=of_decide_eq_true e5;rw[wj] at this;omega
    have hr:R=(0,0):=hR.trans (hN.trans (if_pos (.inr (.inr (.inr h17)))))
    cases hr
    exact owes_wk (.refl _) (Cl.tup (.cons (.i _ _) (.cons (.i _ _) .nil)))
   ·have h17:¬17<=digs l:=by have:=of_decide_eq_false e5;rw[wj] at this;omega
    have hr:R=(-(dval (l.take (digs l)):Int),1+digs l):=hR.trans (hN.trans (if_neg (fun h=>h.elim hk0 (fun h=>h.elim (fun h=>hk1 h.1) (fun h=>h.elim (fun h=>hn0 h.2) h17)))))
    cases hr
    have w2:IntKind.i64.wrap (((1+digs l:Nat):Int) - 0)=((1+digs l:Nat):Int):=by rw[wrap_in (by omega) (by omega)];omega
    have w3:IntKind.i64.wrap (0 - (dval (l.take (digs l)):Int))= -(dval (l.take (digs l)):Int):=by rw[wrap_in (by omega) (by omega)];omega
    refine owes_wk (Wk.of_eq ?_) (Cl.tup (.cons (.i _ _) (.cons (.i _ _) .nil)))
    show GV.tup [.i .i64 (IntKind.i64.wrap (0 - (dval (l.take (digs l)):Int))),.i .i64 (IntKind.i64.wrap (((1+digs l:Nat):Int) - 0))]=_
    rw[w2,w3]
set_option maxHeartbeats 2000000 in
theorem r_NumberP [MaxL] (s:List UInt8) (hs:s.length<most) (h45:¬s.head?=some 45) (hne:s≠[]):SC Tryz.prog 240 [.s s,.i .i64 0] [] (.val (.tup [.i .i64 (numS s).1,.i .i64 ((numS s).2:Nat)])) []:=by
 unfold most at hs
 obtain⟨R,hR⟩:∃R,R=numS s:=⟨_,rfl⟩
 rw[<-hR]
 refine gwS Tryz.func240 rfl ?_
 conv=>whnf
 obtain⟨c1,hc1⟩:∃c1,s[0]?=some c1:=by
  obtain⟨c,t,rfl⟩:=List.exists_cons_of_ne_nil hne
  exact⟨c,rfl⟩
 have hpos:0<s.length:=List.length_pos_iff.2 hne
 refine GIf.mk (fun h0=>?_) (fun h0=>?_)
 rotate_left
 ·exfalso;have:=of_decide_eq_false h0;omega
 conv=>whnf
 refine GNeed.mk (Int.le_refl 0) ⟨c1,hc1,?_⟩
 conv=>whnf
 refine GIf.mk (fun hm=>?_) (fun hm=>?_)
 ·exact absurd (by rw[List.head?_eq_getElem?,hc1,u8_eq (d:=45) hm]) h45
 conv=>whnf
 have hmi:decide (s.head?=some 45)=false:=decide_eq_false h45
 obtain⟨l,hlst⟩:∃l,l=s:=⟨_,rfl⟩
 have hN:numS s=if digs l=0∨(1<digs l/\l.head?=some 48)∨(false=true/\dval (l.take (digs l))=0)∨17<=digs l then(0,0) else((dval (l.take (digs l)):Int),0+digs l):=by
  rw[hlst];unfold numS;simp only[hmi];rfl
 have hget:∀j:Nat,l[j]?=s[0+j]?:=fun j=>by rw[hlst];rw[Nat.zero_add]
 have hll:l.length=s.length - 0:=by rw[hlst];omega
 clear hlst
 refine GLoop.intro (fun j:Nat=>j<=digs l) (fun j=>[(0,.s s),(1,.i .i64 0),(4,.i .i64 (dval (l.take j):Nat)),(5,.i .i64 0),(6,.i .i64 (0+j:Nat)),(7,.b _),(8,.i .i64 (0:Nat))]) (fun _=>⟨[],0,[]⟩) (fun j=>17 - j) 0 (zL _) ⟨rfl,rfl,rfl,rfl,rfl,rfl,rfl,trivial⟩ rfl (fun j φ0 hj=>?_)
 have hj17:j<=17:=by unfold digs at hj;omega
 have hjl:j<=l.length:=by
  have:=(List.takeWhile_prefix (l:=l) isDigit).length_le
  unfold digs at hj;omega
 have hdv:=dval_lt j (l.take j) (by rw[List.length_take];omega) (digs_lt hj)
 have hdv17:dval (l.take j)<10^17:=Nat.lt_of_lt_of_le hdv (Nat.pow_le_pow_right (by decide) hj17)
 have hdv18:dval (l.take j)<100000000000000000:=hdv17
 have wj:IntKind.i64.wrap (((0+j:Nat):Int) - ((0:Nat):Int))=(j:Int):=by rw[wrap_in (by omega) (by omega)];omega
 clear hdv hdv17
 conv=>whnf
 refine GIf.mk (fun h1=>?lt) (fun h1=>?stop1)
 case' lt=>
  have h1':0+j<s.length:=by have:=of_decide_eq_true h1;omega
  have hgi:s[0+j]?=some (s.getD (0+j) 0):=by rw[List.getD_eq_getElem?_getD,gL h1'];rfl
  have hlj:l[j]?=some (s.getD (0+j) 0):=(hget j).trans hgi
  generalize s.getD (0+j) 0=c at*
  have hgi':s[((0+j:Nat):Int).toNat]?=some c:=by rw[Int.toNat_natCast];exact hgi
  have hcl:=UInt8.toNat_lt c
  conv=>whnf
  refine GNeed.mk (cN _) ⟨c,hgi',?_⟩
  conv=>whnf
  refine GIf.mk (fun h2=>?ge) (fun h2=>?stop2)
  case' stop2=>
   have hend:=digs_end hj (.inr (fun d hd=>by rw[hlj] at hd;cases hd;have:=of_decide_eq_false h2;simp[isDigit];omega))
   clear hgi' hlj hgi h1' h2 hcl
  case' ge=>
   conv=>whnf
   refine GNeed.mk (cN _) ⟨c,hgi',?_⟩
   conv=>whnf
   refine GIf.mk (fun h3=>?le) (fun h3=>?stop3)
   case' stop3=>
    have hend:=digs_end hj (.inr (fun d hd=>by rw[hlj] at hd;cases hd;have:=of_decide_eq_false h3;simp[isDigit];omega))
    clear hgi' hlj hgi h1' h2 h3 hcl
   case' le=>
    conv=>whnf
    refine GIf.mk (fun h4=>?go) (fun h4=>?stop4)
    case' stop4=>
     have hend:=digs_end hj (.inl (by have:=of_decide_eq_false h4;rw[wj] at this;omega))
     clear hgi' hlj hgi h1' h2 h3 h4 hcl
    case' go=>
     have g2:=of_decide_eq_true h2
     have g3:=of_decide_eq_true h3
     have g4:=of_decide_eq_true h4
     rw[wj] at g4
     have htk:l.take (j+1)=l.take j++[c]:=by rw[List.take_add_one,hlj];rfl
     conv=>whnf
     refine GNeed.mk (cN _) ⟨c,hgi',?_⟩
     conv=>whnf
     refine GLoop.next (j+1) (digs_next hj hlj (by simp[isDigit];omega) (by omega)) (by omega) ⟨rfl,rfl,?_,rfl,wrap_succ (by omega),rfl,rfl,trivial⟩ rfl
     refine congrArg (GV.i .i64) ?_
     rw[htk,dval_snoc]
     exact num_step _ _ hdv18 (by omega) (by omega)
 case' stop1=>
  have hend:=digs_end hj (.inr (fun d hd=>by have:=(List.getElem?_eq_some_iff.1 hd).1;have:=of_decide_eq_false h1;omega))
 all_goals
  clear h1
  subst hend
  conv=>whnf
  refine GIf.mk (fun e1=>?_) (fun e1=>?_)<;>conv=>whnf
  ·have hk0:digs l=0:=by have:=eq_of_beq e1;omega
   have hr:R=(0,0):=hR.trans (hN.trans (if_pos (.inl hk0)))
   cases hr
   exact owes_wk (.refl _) (Cl.tup (.cons (.i _ _) (.cons (.i _ _) .nil)))
  have hk0:¬digs l=0:=fun h=>by rw[h] at e1;simp at e1
  refine GIf.mk (fun e2=>?_) (fun e2=>?_)<;>conv=>whnf
  ·have hk1:1<digs l:=by have:=of_decide_eq_true e2;rw[wj] at this;omega
   obtain⟨c0,hc0⟩:∃c0,l[0]?=some c0:=⟨l[0]'(by omega),gL (by omega)⟩
   have hs0:s[((0:Nat):Int).toNat]?=some c0:=by rw[Int.toNat_natCast];exact(hget 0).symm.trans hc0
   refine GNeed.mk (cN _) ⟨c0,hs0,?_⟩
   conv=>whnf
   refine GIf.mk (fun e3=>?_) (fun e3=>?_)<;>conv=>whnf
   ·have h48:l.head?=some 48:=by rw[List.head?_eq_getElem?,hc0,u8_eq (d:=48) e3]
    have hr:R=(0,0):=hR.trans (hN.trans (if_pos (.inr (.inl ⟨hk1,h48⟩))))
    cases hr
    exact owes_wk (.refl _) (Cl.tup (.cons (.i _ _) (.cons (.i _ _) .nil)))
   have h48:¬l.head?=some 48:=fun h=>u8_ne (d:=48) e3 (by rw[List.head?_eq_getElem?,hc0] at h;exact Option.some.inj h)
   refine GIf.mk (fun hx=>absurd hx (by simp[*])) (fun _=>?_)
   conv=>whnf
   refine GIf.mk (fun e5=>?_) (fun e5=>?_)<;>conv=>whnf
   ·have h17:17<=digs l:=by have:=of_decide_eq_true e5;rw[wj] at this;omega
    have hr:R=(0,0):=hR.trans (hN.trans (if_pos (.inr (.inr (.inr h17)))))
    cases hr
    exact owes_wk (.refl _) (Cl.tup (.cons (.i _ _) (.cons (.i _ _) .nil)))
   ·have h17:¬17<=digs l:=by have:=of_decide_eq_false e5;rw[wj] at this;omega
    have hr:R=((dval (l.take (digs l)):Int),0+digs l):=hR.trans (hN.trans (if_neg (fun h=>h.elim hk0 (fun h=>h.elim (fun h=>h48 h.2) (fun h=>h.elim (fun h=>by cases h.1) h17)))))
    cases hr
    refine GIf.mk (fun hx=>absurd hx (by simp[*])) (fun _=>?_)
    conv=>whnf
    have w2:IntKind.i64.wrap (((0+digs l:Nat):Int) - 0)=((0+digs l:Nat):Int):=by rw[wrap_in (by omega) (by omega)];omega
    refine owes_wk (Wk.of_eq ?_) (Cl.tup (.cons (.i _ _) (.cons (.i _ _) .nil)))
    show GV.tup [.i .i64 ((dval (l.take (digs l)):Int)),.i .i64 (IntKind.i64.wrap (((0+digs l:Nat):Int) - 0))]=_
    rw[w2]
  have hk1:¬1<digs l:=by have:=of_decide_eq_false e2;rw[wj] at this;omega
  refine GIf.mk (fun hx=>absurd hx (by simp[*])) (fun _=>?_)
  conv=>whnf
  refine GIf.mk (fun e5=>?_) (fun e5=>?_)<;>conv=>whnf
  ·have h17:17<=digs l:=by have:=of_decide_eq_true e5;rw[wj] at this;omega
   have hr:R=(0,0):=hR.trans (hN.trans (if_pos (.inr (.inr (.inr h17)))))
   cases hr
   exact owes_wk (.refl _) (Cl.tup (.cons (.i _ _) (.cons (.i _ _) .nil)))
  ·have h17:¬17<=digs l:=by have:=of_decide_eq_false e5;rw[wj] at this;omega
   have hr:R=((dval (l.take (digs l)):Int),0+digs l):=hR.trans (hN.trans (if_neg (fun h=>h.elim hk0 (fun h=>h.elim (fun h=>hk1 h.1) (fun h=>h.elim (fun h=>by cases h.1) h17)))))
   cases hr
   refine GIf.mk (fun hx=>absurd hx (by simp[*])) (fun _=>?_)
   conv=>whnf
   have w2:IntKind.i64.wrap (((0+digs l:Nat):Int) - 0)=((0+digs l:Nat):Int):=by rw[wrap_in (by omega) (by omega)];omega
   refine owes_wk (Wk.of_eq ?_) (Cl.tup (.cons (.i _ _) (.cons (.i _ _) .nil)))
   show GV.tup [.i .i64 ((dval (l.take (digs l)):Int)),.i .i64 (IntKind.i64.wrap (((0+digs l:Nat):Int) - 0))]=_
   rw[w2]
theorem r_Number [MaxL] (s:List UInt8) (hs:s.length<most):SC Tryz.prog 240 [.s s,.i .i64 0] [] (.val (.tup [.i .i64 (numS s).1,.i .i64 ((numS s).2:Nat)])) []:=by
 by_cases h45:s.head?=some 45
 ·exact r_NumberM s hs h45
 by_cases hne:s=[]
 ·subst hne
  show SC _ _ _ _ (.val (.tup [.i .i64 0,.i .i64 (0:Nat)])) _
  refine gwS Tryz.func240 rfl ?_
  conv=>whnf
  refine GLoop.intro (fun _:Unit=>True) (fun _=>[(0,.s []),(1,.i .i64 0),(4,.i .i64 0),(5,.i .i64 0),(6,.i .i64 0),(7,.b false),(8,.i .i64 0)]) (fun _=>⟨[],0,[]⟩) (fun _=>0) () trivial ⟨rfl,rfl,rfl,rfl,rfl,rfl,rfl,trivial⟩ rfl (fun _ φ0 _=>?_)
  conv=>whnf
  exact owes_wk (.refl _) (fun _=>rfl)
 ·exact r_NumberP s hs h45 hne
end Go.Proofs.YtldggonlkafckaaGreatDoor
namespace Go.Proofs.YtldggonlkafckaaGreatDoor
open Go.RowKit Go.Sort
set_option maxRecDepth 100000
set_option linter.unusedVariables false
theorem err_cell [MaxL] {C:Cx} {w:World} (g:Nat) (x:GV) (t:TypeId) (hr:Rel C ⟨[],0,[]⟩ w w) (ht:Globals.tab g=some [.ifc t x]):∃p,w.cell? ⟨g,0,none⟩=some (.iface t p):=by
 obtain⟨u,hfx,hvr⟩:=hr.gl g _ 0 _ ht rfl
 have:=hvr _ (fun _ _ _ h=>h)
 cases this
 exact⟨_,hr.fxc _ _ _ hfx⟩
theorem c_toErrorS [MaxL] (fn s:List UInt8) (base bits:Int) (hs:s.length<=281474976710656):SC Tryz.prog 223 [.s fn,.s s,.i .i64 base,.i .i64 bits,.ifc 328 (.i .i64 2)] [] (.val (.ifc 331 .any)) []:=by
 refine SC.of_calls fun C w vs hr hv=>?_
 obtain⟨v1,vs1,e,h1,hv⟩:=hv.cons_inv
 obtain⟨v2,vs2,rfl,h2,hv⟩:=hv.cons_inv
 obtain⟨v3,vs3,rfl,h3,hv⟩:=hv.cons_inv
 obtain⟨v4,vs4,rfl,h4,hv⟩:=hv.cons_inv
 obtain⟨v5,vs5,rfl,h5,hv⟩:=hv.cons_inv
 have:vs5=[]:=List.eq_nil_of_length_eq_zero (by simpa using hv.1)
 subst this
 obtain rfl:vs= #[v1,v2,v3,v4,v5]:=by rw[<-Array.toArray_toList (xs:=vs),e]
 cases h1;cases h2;cases h3;cases h4
 cases h5 with
 |ifc h5=>
 cases h5
 obtain⟨p,hp⟩:=err_cell 4 _ _ hr rfl
 refine(Tryz.strconv_toError_syntax ⟨fn.toArray⟩ ⟨s.toArray⟩ base bits _ w (by simpa[ByteArray.size] using hs) hp (.inr ⟨_,_,rfl⟩)).mono ?_
 rintro e w' ⟨N,he,_,_,hb⟩
 exact⟨_,he,.below hb,.ifc (.any _)⟩
theorem c_ParseUint16 [MaxL] (a b:UInt8):SC Tryz.prog 290 [.s [a,b],.i .i64 16,.i .i64 8] [] (.val (match hex2 a b with|some n=>.tup [.i .u64 n,.o .nilIface]|none=>.tup [.i .u64 0,.ifc 331 .any])) []:=by
 have hI:=c_ParseUintI a b
 refine gwS Tryz.func290 rfl ?_
 conv=>whnf
 cases h:hex2 a b with
 |some n=>
  rw[h] at hI
  refine callP hI (wR _) rfl (fun _=>rfl) (fun _=>rfl) ?_
  conv=>whnf
  exact owes_val rfl (fun _=>rfl)
 |none=>
  rw[h] at hI
  refine callP hI (wR _) rfl (fun _=>rfl) (fun _=>rfl) ?_
  conv=>whnf
  refine callP (c_toErrorS _ [a,b] 16 8 (by simp)) (wR _) rfl (fun _=>rfl) (fun _=>rfl) ?_
  conv=>whnf
  exact owes_val rfl (fun _=>rfl)
theorem shape_of {w:World} {b:Nat} {c:Array Value} {t:TypeId} {fr:Nat×Nat} (h:w.heap[b]?=some (.cells c t fr)):w.shape? b=some (t,c.size):=by
 unfold World.shape?;rw[h]
def bldN:GObj:=.box 127 [.o (.pointer none),.sl .full []]
def bld (bs:List UInt8):List GObj:=[.box 127 [.ptr 0 0,.sl (.own 1) (bs.map fun b=>.i .u8 b.toNat)],.own bs.length 1 5]
theorem lays_cc:Go.Proofs.Lays.n240 Tryz.prog Tryz.lays156_ren:={Tryz.lays156 with}
theorem VRs.arr1 [MaxL] {C:Cx} {g:GV} {vs:Array Value} (h:VRs C [g] vs.toList):∃v,vs= #[v]/\VR C g v:=by
 obtain⟨v,vs',e,h1,h2⟩:=h.cons_inv
 have:vs'=[]:=List.eq_nil_of_length_eq_zero (by simpa using h2.1)
 subst this
 exact⟨v,by rw[<-Array.toArray_toList (xs:=vs),e],h1⟩
theorem VRs.arr2 [MaxL] {C:Cx} {g g':GV} {vs:Array Value} (h:VRs C [g,g'] vs.toList):∃v v',vs= #[v,v']/\VR C g v/\VR C g' v':=by
 obtain⟨v,vs',e,h1,h2⟩:=h.cons_inv
 obtain⟨v',vs',rfl,h3,h4⟩:=h2.cons_inv
 have:vs'=[]:=List.eq_nil_of_length_eq_zero (by simpa using h4.1)
 subst this
 exact⟨v,v',by rw[<-Array.toArray_toList (xs:=vs),e],h1,h3⟩
theorem VR.unit [MaxL] {C:Cx}:VR C (.tup []) (.tuple #[]):=.tup rfl (fun j g u h=>by simp at h)
theorem c_copyCheckN [MaxL]:SC Tryz.prog 118 [.ptr 0 0] [bldN] (.val (.tup [])) [.box 127 [.ptr 0 0,.sl .full []]]:=by
 refine⟨rL _,fun C w vs hr hv=>?_,fun x hx=>by simp at hx;subst hx;simp⟩
 obtain⟨v,rfl,hv1⟩:=hv.arr1
 obtain⟨h0,b,cs,hb,ho,hcs⟩:=hr.obj 0 _ rfl
 obtain⟨u,u',rfl,hu,hu'⟩:=(BoxV.exact hcs rfl).arr2
 cases hv1 with
 |ptr hb'=>
 rw[hb] at hb';cases hb'
 cases hu
 have hc0:w.cell? ⟨b,0,none⟩=some (.pointer none):=by simp[World.cell?,ho]
 refine(Any.Builder_copyCheck_fresh lays_cc Tryz.Builder_Extra_156.toX72 b w hc0 (shape_of ho) (by simp[World.frozen?,ho])).mono ?_
 rintro e w' ⟨rfl,rfl⟩
 refine⟨C,.refl C,Rel.setObj (r:=0) (b:=b) hr (by simp) hb _ ⟨h0,b,_,hb,heap_setCell_same w b 0 _ _ _ ho,?_⟩ rfl rfl rfl (by simp[World.setCell]) (fun k hk=>heap_setCell_other w _ k _ hk),_,rfl,.unit⟩
 exact VRs.box (.cons (.ptr hb) (.cons hu' .nil))
theorem c_copyCheck [MaxL] (x:GV) (os:List GObj) (hn:∀y∈os,y≠ .held):SC Tryz.prog 118 [.ptr 0 0] (.box 127 [.ptr 0 0,x]::os) (.val (.tup [])) (.box 127 [.ptr 0 0,x]::os):=by
 refine⟨rL _,fun C w vs hr hv=>?_,fun y hy=>by
  rcases List.mem_cons.1 hy with rfl|hy
  ·simp
  ·exact hn y hy⟩
 obtain⟨v,rfl,hv1⟩:=hv.arr1
 obtain⟨h0,b,cs,hb,ho,hcs⟩:=hr.obj 0 _ rfl
 obtain⟨u,u',rfl,hu,hu'⟩:=(BoxV.exact hcs rfl).arr2
 cases hv1 with
 |ptr hb'=>
 rw[hb] at hb';cases hb'
 cases hu with
 |ptr hb'=>
 rw[hb] at hb';cases hb'
 have hc0:w.cell? ⟨b,0,none⟩=some (.pointer (some ⟨b,0,none⟩)):=by simp[World.cell?,ho]
 refine(Any.Builder_copyCheck_used lays_cc Tryz.Builder_Extra_156.toX72 b w hc0).mono ?_
 rintro e w' ⟨rfl,rfl⟩
 exact⟨C,.refl C,hr,_,rfl,.unit⟩
def byG (bs:List UInt8):List GV:=bs.map fun b=>.i .u8 b.toNat
theorem byG_cl [MaxL] (bs:List UInt8) (f:Nat->Nat):GV.renL f (byG bs)=byG bs:=by rw[renL_map];exact ClL.mapOf (fun _=>Cl.i _ _) bs f
theorem byG_len (bs:List UInt8):(byG bs).length=bs.length:=by simp[byG]
theorem byG_ok (bs:List UInt8):(byG bs).all (fun x=>x.cells.length==1)=true:=by
 rw[List.all_eq_true];intro x hx
 obtain⟨b,_,rfl⟩:=List.mem_map.1 hx
 rfl
theorem byG_okEl (bs:List UInt8):(byG bs).all (okEl 1)=true:=by
 rw[List.all_eq_true];intro x hx
 obtain⟨b,_,rfl⟩:=List.mem_map.1 hx
 rfl
def bldAt (q p:Nat) (bs:List UInt8):GObj:=.box 127 [.ptr q 0,.sl (.own p) (byG bs)]
def ownB (n:Nat):GObj:=.own n 1 5
theorem bldAt_ren [MaxL] (f:Nat->Nat) (q p:Nat) (bs:List UInt8):(bldAt q p bs).ren f=bldAt (f q) (f p) bs:=by
 show GObj.box _ [.ptr (f q) 0,.sl (.own (f p)) (GV.renL f (byG bs))]=_
 rw[byG_cl];rfl
theorem bld_lies [MaxL] {q p:Nat} {bs:List UInt8} {objs:List GObj} (hn:q≠p) (hq:objs[q]?=some (bldAt q p bs)) (hp:objs[p]?=some (ownB bs.length)):Lies [q,p] (bld bs) objs:=by
 refine Lies.two hn ?_ hp (by simp) (by simp)
 have:=bldAt_ren (emb [q,p] objs.length) 0 1 bs
 rw[show GObj.box 127 [.ptr 0 0,.sl (.own 1) (bs.map fun b=>.i .u8 b.toNat)]=bldAt 0 1 bs from rfl,this,hq]
 rfl
theorem owesBld [MaxL] {p:Nat} {s:List GObj} {r r':GRes} {bs:List UInt8} {σ:GS} (hs:s.length<=2) (hp:s.length=2->p=1) (hp0:0≠p) (h0:σ.objs[0]?=some (bldAt 0 p bs)) (h1:σ.objs[p]?=some (ownB bs.length)) (hr:r'.ren (emb [0,p] σ.objs.length)=r') (hrr:WkRes r r'):Owes s r' (bld bs) r σ:=by
 refine⟨[0,p],bld_lies hp0 h0 h1,fun i hi=>?_,by rw[hr];exact hrr⟩
 rcases i with _|_|i
 ·rfl
 ·simp[hp (by omega)]
 ·omega
theorem c_WriteByteN [MaxL] (c:UInt8):SC Tryz.prog 237 [.ptr 0 0,.i .u8 c.toNat] [bldN] (.val (.o .nilIface)) (bld [c]):=by
 refine SC.of_gwp noM mixed Tryz.func237 rfl (bL rfl) (by simp[bld]) rfl ?_
 conv=>whnf
 refine callG c_copyCheckN [0] (objs':=[.box 127 [.ptr 0 0,.sl .full []]]) (Lies.one' rfl (by simp[bldN])) (wR _) rfl rfl rfl rfl ?_
 conv=>whnf
 refine⟨⟨rfl,rfl,bL rfl⟩,byG [c],1,⟨rfl,rfl⟩,?_⟩
 conv=>whnf
 refine⟨_,⟨rfl,zL _,rfl,bL rfl⟩,?_⟩
 conv=>whnf
 exact owesBld (p:=2) (by simp) (by simp) (by decide) rfl rfl rfl (Wk.refl _)
theorem c_WriteByte [MaxL] (bs:List UInt8) (c:UInt8) (hl:bs.length<1000000000):SC Tryz.prog 237 [.ptr 0 0,.i .u8 c.toNat] (bld bs) (.val (.o .nilIface)) (bld (bs++[c])):=by
 refine SC.of_gwp noM mixed Tryz.func237 rfl (bL rfl) (by simp[bld]) rfl ?_
 conv=>whnf
 refine callG (c_copyCheck (.sl (.own 1) (byG bs)) [ownB bs.length] (by simp[ownB])) [0,1] (objs':=[bldAt 0 1 bs,ownB bs.length]) (bld_lies (by decide) rfl rfl) (wR _) rfl rfl ?_ rfl ?_
 ·show[(bldAt 0 1 bs).ren (emb [0,1] 2),ownB bs.length]=_
  rw[bldAt_ren];rfl
 conv=>whnf
 refine⟨⟨rfl,byG_ok bs,by show(byG bs).length+1<=4294967296;rw[byG_len];omega⟩,byG (bs++[c]),(bs++[c]).length,⟨by simp[byG];rfl,by show _=(byG bs).length+1;rw[byG_len];simp⟩,?_⟩
 conv=>whnf
 refine⟨⟨zL _,by rw[byG_len],.inl ⟨rfl,rfl⟩⟩,?_⟩
 conv=>whnf
 refine⟨_,⟨rfl,zL _,rfl,bL rfl⟩,?_⟩
 conv=>whnf
 exact owesBld (p:=1) (by simp[bld]) (fun _=>rfl) (by decide) rfl rfl rfl (Wk.refl _)
theorem c_WriteString [MaxL] (bs l:List UInt8) (hl:bs.length+l.length<1000000000):SC Tryz.prog 55 [.ptr 0 0,.s l] (bld bs) (.val (.tup [.i .i64 l.length,.o .nilIface])) (bld (bs++l)):=by
 refine SC.of_gwp noM mixed Tryz.func55 rfl (bL rfl) (by simp[bld]) rfl ?_
 conv=>whnf
 refine callG (c_copyCheck (.sl (.own 1) (byG bs)) [ownB bs.length] (by simp[ownB])) [0,1] (objs':=[bldAt 0 1 bs,ownB bs.length]) (bld_lies (by decide) rfl rfl) (wR _) rfl rfl ?_ rfl ?_
 ·show[(bldAt 0 1 bs).ren (emb [0,1] 2),ownB bs.length]=_
  rw[bldAt_ren];rfl
 conv=>whnf
 refine GIf.mk (fun h=>?_) (fun h=>?_)<;>conv=>whnf
 ·have:l=[]:=by simpa using h
  subst this
  refine⟨_,⟨rfl,zL _,rfl,bL rfl⟩,?_⟩
  conv=>whnf
  rw[List.append_nil]
  exact owesBld (p:=1) (by simp[bld]) (fun _=>rfl) (by decide) rfl rfl rfl (Wk.refl _)
 ·refine⟨⟨byG_okEl l,byG_ok bs,by show(byG bs).length+(byG l).length<=4294967296;rw[byG_len,byG_len];omega⟩,byG (bs++l),(bs++l).length,⟨by simp[byG],by show _=(byG bs).length+(byG l).length;rw[byG_len,byG_len];simp⟩,?_⟩
  conv=>whnf
  refine⟨⟨zL _,by rw[byG_len],.inl ⟨rfl,rfl⟩⟩,?_⟩
  conv=>whnf
  refine⟨_,⟨rfl,zL _,rfl,bL rfl⟩,?_⟩
  conv=>whnf
  exact owesBld (p:=1) (by simp[bld]) (fun _=>rfl) (by decide) rfl rfl rfl (Wk.refl _)
theorem goptI {α:Type} {x:Option α} {K:α->Prop} {a:α} (h:x=some a) (k:K a):gopt x K:=by rw[h];exact k
theorem byG_flat [MaxL] (l:List UInt8):(byG l).flatMap GV.cells=byG l:=by
 induction l with
 |nil=>rfl
 |cons c t ih=>show[GV.i .u8 c.toNat]++(byG t).flatMap GV.cells=_;rw[ih];rfl
theorem gdata_by [MaxL] (c:UInt8) (t:List UInt8) (r:Nat):gdata (.sl (.own r) (byG (c::t)))=some (.dat r (byG (c::t))):=by
 show(if(!(byG (c::t)).isEmpty&&(byG (c::t)).all fun x=>x.cells.length==1)=true then some (GV.dat r (List.flatMap GV.cells (byG (c::t)))) else none)=_
 rw[byG_ok,byG_flat];rfl
theorem gbytes_by (l:List UInt8):gbytes (byG l)=some l:=by
 induction l with
 |nil=>rfl
 |cons c t ih=>show(gbytes (byG t)).map _=_;rw[ih];simp
theorem byG_gbyte (l:List UInt8):(byG l).all gbyte=true:=by
 rw[List.all_eq_true];intro x hx
 obtain⟨b,_,rfl⟩:=List.mem_map.1 hx
 have:=UInt8.toNat_lt b
 simp[gbyte];omega
theorem gtext_by [MaxL] {P:Program} {pt ty:TypeId} {r esz:Nat} {σ:GS} (l:List UInt8) (ho:σ.objs[r]?=some (.own l.length esz ty)) (hl:l≠[]) (hlo:σ.lo<=r) (hp:ptrT P pt=some ty) (hc:P.cellsOf ty=1) (hlim:l.length<=lim):
  gtext P pt (.dat r (byG l)) (.i .i64 l.length) σ=some (.s l,gset σ r .dead):=by
 simp only[gtext,ho,gbytes_by,byG_len,byG_gbyte,hp,hc]
 rw[if_pos]
 simp[hlo,hlim]
 exact hl
theorem c_String [MaxL] (c:UInt8) (t:List UInt8) (hl:t.length<1000000000):SC Tryz.prog 57 [.ptr 0 0] (bld (c::t)) (.val (.s (c::t))) [bldAt 0 1 (c::t),.dead]:=by
 refine SC.of_gwp noM mixed Tryz.func57 rfl (bL rfl) (by simp[bld]) rfl ?_
 conv=>whnf
 refine GDraw.wild _ _ _ rfl rfl rfl (by kernel_rfl) ?_
 conv=>whnf
 refine goptI (a:=(.dat 1 (byG (c::t)),_)) (by show Option.map _ (gdata (.sl (.own 1) (byG (c::t))))=_;rw[gdata_by];rfl) ?_
 conv=>whnf
 refine goptI (a:=(.s (c::t),⟨[bldAt 0 1 (c::t),.dead],0,[]⟩)) ?_ ?_
 ·show gtext Tryz.prog _ (.dat 1 (byG (c::t))) (.i .i64 (byG (c::t)).length) ⟨[bldAt 0 1 (c::t),ownB (c::t).length],0,[]⟩=_
  rw[byG_len]
  exact gtext_by (c::t) rfl (by simp) (by simp) (by kernel_rfl) (by kernel_rfl) (by unfold lim;simp;omega)
 conv=>whnf
 refine⟨[0,1],Lies.two (by decide) ?_ rfl (by simp[bldAt]) (by simp),fun i hi=>?_,Wk.refl _⟩
 ·show some (bldAt 0 1 (c::t))=some ((bldAt 0 1 (c::t)).ren (emb [0,1] 2))
  rw[bldAt_ren];rfl
 ·rcases i with _|_|i
  ·rfl
  ·rfl
  ·simp[bld] at hi;omega
end Go.Proofs.YtldggonlkafckaaGreatDoor
