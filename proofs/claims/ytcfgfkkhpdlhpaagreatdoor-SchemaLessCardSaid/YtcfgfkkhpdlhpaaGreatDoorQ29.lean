/-
  A part of the proof of SchemaLess.
-/
import Derived.Test.YtcfgfkkhpdlhpaaGreatDoorQ21
import Derived.Test.YtcfgfkkhpdlhpaaGreatDoorQ28
set_option linter.all false
namespace Go.Proofs.YtcfgfkkhpdlhpaaGreatDoor
open Go.RowKit
set_option maxRecDepth 100000
set_option linter.unusedVariables false
def dval (l:List UInt8):Nat:=l.foldl (fun a c=>10*a+(c.toNat - 48)) 0
theorem dval_snoc (l:List UInt8) (c:UInt8):dval (l++[c])=10*dval l+(c.toNat - 48):=by simp[dval]
def digs (l:List UInt8):Nat:=min 17 (l.takeWhile isDigit).length
def numS (s:List UInt8):Int×Nat:=
 let mi:=decide (s.head?=some 45)
 let l:=if mi then s.tail else s
 let k:=digs l
 let n:=dval (l.take k)
 if k=0∨(1<k/\l.head?=some 48)∨(mi=true/\n=0)∨17<=k then(0,0) else(if mi then -(n:Int) else n,(if mi then 1 else 0)+k)
theorem dval_lt:∀(k:Nat) (l:List UInt8),l.length<=k->(∀c∈l,isDigit c=true)->dval l<10^k:=by
 intro k
 induction k with
 |zero=>intro l h _;have:l=[]:=List.eq_nil_of_length_eq_zero (by omega);subst this;decide
 |succ k ih=>
  intro l h hd
  rcases List.eq_nil_or_concat l with rfl|⟨l',c,rfl⟩
  ·exact Nat.pos_of_ne_zero (by simp)
  ·rw[List.concat_eq_append,dval_snoc]
   have h1:=ih l' (by simp at h;omega) (fun d hd'=>hd d (by simp[hd']))
   have h2:=hd c (by simp)
   simp[isDigit] at h2
   rw[Nat.pow_succ];omega
theorem digs_lt {l:List UInt8} {j:Nat} (h:j<=digs l):∀c∈l.take j,isDigit c=true:=fun c hc=>by
 have h1:j<=(l.takeWhile isDigit).length:=by unfold digs at h;omega
 have h2:l.take j<+:l.takeWhile isDigit:=by
  have:=List.takeWhile_prefix (l:=l) isDigit
  exact List.prefix_of_prefix_length_le (List.take_prefix j l) this (by rw[List.length_take];omega)
 exact List.all_eq_true.1 (List.all_takeWhile (p:=isDigit) (l:=l)) c (h2.subset hc)
theorem digs_next {l:List UInt8} {j:Nat} {c:UInt8} (hj:j<=digs l) (hc:l[j]?=some c) (hd:isDigit c=true) (h17:j<17):j+1<=digs l:=by
 have h1:j<=(l.takeWhile isDigit).length:=by unfold digs at hj;omega
 have:j<(l.takeWhile isDigit).length:=by
  rcases Nat.lt_or_ge j (l.takeWhile isDigit).length with h|h
  ·exact h
  ·exfalso
   have e:j=(l.takeWhile isDigit).length:=by omega
   have key:∀l:List UInt8,∀c,l[(l.takeWhile isDigit).length]?=some c->isDigit c=false:=by
    intro l
    induction l with
    |nil=>intro c h;cases h
    |cons a l ih=>
     intro c h
     rw[List.takeWhile_cons] at h
     split at h
     ·simp at h;exact ih c h
     ·rename_i ha;simp at h;subst h;simpa using ha
   rw[e] at hc
   rw[key l c hc] at hd;cases hd
 unfold digs;omega
theorem digs_end {l:List UInt8} {j:Nat} (hj:j<=digs l) (h:j=17∨(∀c,l[j]?=some c->isDigit c=false)):j=digs l:=by
 rcases h with h|h
 ·unfold digs at hj⊢;omega
 ·rcases Nat.lt_or_ge j (digs l) with hlt|hge
  ·exfalso
   have h1:j<(l.takeWhile isDigit).length:=by unfold digs at hlt;omega
   have h2:=List.takeWhile_prefix (l:=l) isDigit
   have h3:l[j]?=some (l.takeWhile isDigit)[j]:=by
    obtain⟨r,hr⟩:=h2
    conv=>lhs;rw[<-hr]
    rw[List.getElem?_append_left h1,gL h1]
   have h4:=List.all_eq_true.1 (List.all_takeWhile (p:=isDigit) (l:=l)) _ (List.getElem_mem h1)
   rw[h _ h3] at h4;cases h4
  ·omega
theorem num_step [MaxL] (n c:Nat) (hn:n<100000000000000000) (h1:48<=c) (h2:c<=57):IntKind.i64.wrap (IntKind.i64.wrap (10*(n:Int))+IntKind.i64.wrap (IntKind.u8.wrap ((c:Int) - 48)))=((10*n+(c - 48):Nat):Int):=by
 rw[u8_wrap (n:=(c:Int) - 48) (by omega) (by omega),wrap_in (n:=(c:Int) - 48) (by omega) (by omega),wrap_in (n:=10*(n:Int)) (by omega) (by omega),wrap_in (by omega) (by omega)]
 omega
set_option maxHeartbeats 2000000 in
theorem r_NumberM [MaxL] (s:List UInt8) (hs:s.length<most) (h45:s.head?=some 45):SC Tryz.prog 303 [.s s,.i .i64 0] [] (.val (.tup [.i .i64 (numS s).1,.i .i64 ((numS s).2:Nat)])) []:=by
 unfold most at hs
 obtain⟨R,hR⟩:∃R,R=numS s:=⟨_,rfl⟩
 rw[<-hR]
 refine gwS Tryz.func303 rfl ?_
 conv=>whnf
 have hg0:s[0]?=some 45:=by rw[<-List.head?_eq_getElem?];exact h45
 have hpos:0<s.length:=(List.getElem?_eq_some_iff.1 hg0).1
 refine GIf.mk (fun _=>?_) (fun h0=>?_)
 rotate_left
 ·exfalso;have:=of_decide_eq_false h0;omega
 conv=>whnf
 refine GNeed.mk (Int.le_refl 0) ⟨45,hg0,?_⟩
 conv=>whnf
 have hmi:decide (s.head?=some 45)=true:=decide_eq_true h45
 obtain⟨l,hlst⟩:∃l,l=s.tail:=⟨_,rfl⟩
 have hN:numS s=if digs l=0∨(1<digs l/\l.head?=some 48)∨(true=true/\dval (l.take (digs l))=0)∨17<=digs l then(0,0) else(-(dval (l.take (digs l)):Int),1+digs l):=by
  rw[hlst];unfold numS;simp only[hmi];rfl
 have hget:∀j:Nat,l[j]?=s[1+j]?:=fun j=>by rw[hlst];rw[List.getElem?_tail,Nat.add_comm]
 have hll:l.length=s.length - 1:=by rw[hlst];rw[List.length_tail]
 clear hlst
 refine GLoop.intro (fun j:Nat=>j<=digs l) (fun j=>[(0,.s s),(1,.i .i64 0),(4,.i .i64 (dval (l.take j):Nat)),(5,.i .i64 0),(6,.i .i64 (1+j:Nat)),(7,.b true),(8,.i .i64 (1:Nat))]) (fun _=>⟨[],0,[]⟩) (fun j=>17 - j) 0 (zL _) ⟨rfl,rfl,rfl,rfl,rfl,rfl,rfl,trivial⟩ rfl (fun j φ0 hj=>?_)
 have hj17:j<=17:=by unfold digs at hj;omega
 have hjl:j<=l.length:=by
  have:=(List.takeWhile_prefix (l:=l) isDigit).length_le
  unfold digs at hj;omega
 have hdv:=dval_lt j (l.take j) (by rw[List.length_take];omega) (digs_lt hj)
 have hdv17:dval (l.take j)<10^17:=Nat.lt_of_lt_of_le hdv (Nat.pow_le_pow_right (by decide) hj17)
 have hdv18:dval (l.take j)<100000000000000000:=hdv17
 have wj:IntKind.i64.wrap (((1+j:Nat):Int) - ((1:Nat):Int))=(j:Int):=by rw[wrap_in (by omega) (by omega)];omega
 clear hdv hdv17
 conv=>whnf
 refine GIf.mk (fun h1=>?lt) (fun h1=>?stop1)
 case' lt=>
  have h1':1+j<s.length:=by have:=of_decide_eq_true h1;omega
  have hgi:s[1+j]?=some (s.getD (1+j) 0):=by rw[List.getD_eq_getElem?_getD,gL h1'];rfl
  have hlj:l[j]?=some (s.getD (1+j) 0):=(hget j).trans hgi
  generalize s.getD (1+j) 0=c at*
  have hgi':s[((1+j:Nat):Int).toNat]?=some c:=by rw[Int.toNat_natCast];exact hgi
  have hcl:=UInt8.toNat_lt c
  conv=>whnf
  refine GNeed.mk (cN _) ⟨c,hgi',?_⟩
  conv=>whnf
  refine GIf.mk (fun h2=>?ge) (fun h2=>?stop2)
  case' stop2=>
   have hend:=digs_end hj (.inr (fun d hd=>by rw[hlj] at hd;cases hd;have:=of_decide_eq_false h2;simp[isDigit];omega))
   clear hgi' hlj hgi h1' h2 hcl
  case' ge=>
   conv=>whnf
   refine GNeed.mk (cN _) ⟨c,hgi',?_⟩
   conv=>whnf
   refine GIf.mk (fun h3=>?le) (fun h3=>?stop3)
   case' stop3=>
    have hend:=digs_end hj (.inr (fun d hd=>by rw[hlj] at hd;cases hd;have:=of_decide_eq_false h3;simp[isDigit];omega))
    clear hgi' hlj hgi h1' h2 h3 hcl
   case' le=>
    conv=>whnf
    refine GIf.mk (fun h4=>?go) (fun h4=>?stop4)
    case' stop4=>
     have hend:=digs_end hj (.inl (by have:=of_decide_eq_false h4;rw[wj] at this;omega))
     clear hgi' hlj hgi h1' h2 h3 h4 hcl
    case' go=>
     have g2:=of_decide_eq_true h2
     have g3:=of_decide_eq_true h3
     have g4:=of_decide_eq_true h4
     rw[wj] at g4
     have htk:l.take (j+1)=l.take j++[c]:=by rw[List.take_add_one,hlj];rfl
     conv=>whnf
     refine GNeed.mk (cN _) ⟨c,hgi',?_⟩
     conv=>whnf
     refine GLoop.next (j+1) (digs_next hj hlj (by simp[isDigit];omega) (by omega)) (by omega) ⟨rfl,rfl,?_,rfl,wrap_succ (by omega),rfl,rfl,trivial⟩ rfl
     refine congrArg (GV.i .i64) ?_
     rw[htk,dval_snoc]
     exact num_step _ _ hdv18 (by omega) (by omega)
 case' stop1=>
  have hend:=digs_end hj (.inr (fun d hd=>by have:=(List.getElem?_eq_some_iff.1 hd).1;have:=of_decide_eq_false h1;omega))
 all_goals
  clear h1
  subst hend
  conv=>whnf
  refine GIf.mk (fun e1=>?_) (fun e1=>?_)<;>conv=>whnf
  ·have hk0:digs l=0:=by have:=eq_of_beq e1;omega
   have hr:R=(0,0):=hR.trans (hN.trans (if_pos (.inl hk0)))
   cases hr
   exact owes_wk (.refl _) (Cl.tup (.cons (.i _ _) (.cons (.i _ _) .nil)))
  have hk0:¬digs l=0:=fun h=>by rw[h] at e1;simp at e1
  refine GIf.mk (fun e2=>?_) (fun e2=>?_)<;>conv=>whnf
  ·have hk1:1<digs l:=by have:=of_decide_eq_true e2;rw[wj] at this;omega
   obtain⟨c0,hc0⟩:∃c0,l[0]?=some c0:=⟨l[0]'(by omega),gL (by omega)⟩
   have hs0:s[((1:Nat):Int).toNat]?=some c0:=by rw[Int.toNat_natCast];exact(hget 0).symm.trans hc0
   refine GNeed.mk (cN _) ⟨c0,hs0,?_⟩
   conv=>whnf
   refine GIf.mk (fun e3=>?_) (fun e3=>?_)<;>conv=>whnf
   ·have h48:l.head?=some 48:=by rw[List.head?_eq_getElem?,hc0,u8_eq (d:=48) e3]
    have hr:R=(0,0):=hR.trans (hN.trans (if_pos (.inr (.inl ⟨hk1,h48⟩))))
    cases hr
    exact owes_wk (.refl _) (Cl.tup (.cons (.i _ _) (.cons (.i _ _) .nil)))
   have h48:¬l.head?=some 48:=fun h=>u8_ne (d:=48) e3 (by rw[List.head?_eq_getElem?,hc0] at h;exact Option.some.inj h)
   refine GIf.mk (fun e4=>?_) (fun e4=>?_)<;>conv=>whnf
   ·have hn0:dval (l.take (digs l))=0:=by have:=eq_of_beq e4;omega
    have hr:R=(0,0):=hR.trans (hN.trans (if_pos (.inr (.inr (.inl ⟨rfl,hn0⟩)))))
    cases hr
    exact owes_wk (.refl _) (Cl.tup (.cons (.i _ _) (.cons (.i _ _) .nil)))
   ·have hn0:¬dval (l.take (digs l))=0:=fun h=>by rw[h] at e4;cases e4
    refine GIf.mk (fun e5=>?_) (fun e5=>?_)<;>conv=>whnf
    ·have h17:17<=digs l:=by have:=of_decide_eq_true e5;rw[wj] at this;omega
     have hr:R=(0,0):=hR.trans (hN.trans (if_pos (.inr (.inr (.inr h17)))))
     cases hr
     exact owes_wk (.refl _) (Cl.tup (.cons (.i _ _) (.cons (.i _ _) .nil)))
    ·have h17:¬17<=digs l:=by have:=of_decide_eq_false e5;rw[wj] at this;omega
     have hr:R=(-(dval (l.take (digs l)):Int),1+digs l):=hR.trans (hN.trans (if_neg (fun h=>h.elim hk0 (fun h=>h.elim (fun h=>h48 h.2) (fun h=>h.elim (fun h=>hn0 h.2) h17)))))
     cases hr
     have w2:IntKind.i64.wrap (((1+digs l:Nat):Int) - 0)=((1+digs l:Nat):Int):=by rw[wrap_in (by omega) (by omega)];omega
     have w3:IntKind.i64.wrap (0 - (dval (l.take (digs l)):Int))= -(dval (l.take (digs l)):Int):=by rw[wrap_in (by omega) (by omega)];omega
     refine owes_wk (Wk.of_eq ?_) (Cl.tup (.cons (.i _ _) (.cons (.i _ _) .nil)))
     show GV.tup [.i .i64 (IntKind.i64.wrap (0 - (dval (l.take (digs l)):Int))),.i .i64 (IntKind.i64.wrap (((1+digs l:Nat):Int) - 0))]=_
     rw[w2,w3]
  have hk1:¬1<digs l:=by have:=of_decide_eq_false e2;rw[wj] at this;omega
  refine GIf.mk (fun e4=>?_) (fun e4=>?_)<;>conv=>whnf
  ·have hn0:dval (l.take (digs l))=0:=by have:=eq_of_beq e4;omega
   have hr:R=(0,0):=hR.trans (hN.trans (if_pos (.inr (.inr (.inl ⟨rfl,hn0⟩)))))
   cases hr
   exact owes_wk (.refl _) (Cl.tup (.cons (.i _ _) (.cons (.i _ _) .nil)))
  ·have hn0:¬dval (l.take (digs l))=0:=fun h=>by rw[h] at e4;cases e4
   refine GIf.mk (fun e5=>?_) (fun e5=>?_)<;>conv=>whnf
   ·have h17:17<=digs l:=by have:=of_decide_eq_true e5;rw[wj] at this;omega
    have hr:R=(0,0):=hR.trans (hN.trans (if_pos (.inr (.inr (.inr h17)))))
    cases hr
    exact owes_wk (.refl _) (Cl.tup (.cons (.i _ _) (.cons (.i _ _) .nil)))
   ·have h17:¬17<=digs l:=by have:=of_decide_eq_false e5;rw[wj] at this;omega
    have hr:R=(-(dval (l.take (digs l)):Int),1+digs l):=hR.trans (hN.trans (if_neg (fun h=>h.elim hk0 (fun h=>h.elim (fun h=>hk1 h.1) (fun h=>h.elim (fun h=>hn0 h.2) h17)))))
    cases hr
    have w2:IntKind.i64.wrap (((1+digs l:Nat):Int) - 0)=((1+digs l:Nat):Int):=by rw[wrap_in (by omega) (by omega)];omega
    have w3:IntKind.i64.wrap (0 - (dval (l.take (digs l)):Int))= -(dval (l.take (digs l)):Int):=by rw[wrap_in (by omega) (by omega)];omega
    refine owes_wk (Wk.of_eq ?_) (Cl.tup (.cons (.i _ _) (.cons (.i _ _) .nil)))
    show GV.tup [.i .i64 (IntKind.i64.wrap (0 - (dval (l.take (digs l)):Int))),.i .i64 (IntKind.i64.wrap (((1+digs l:Nat):Int) - 0))]=_
    rw[w2,w3]
set_option maxHeartbeats 2000000 in
theorem r_NumberP [MaxL] (s:List UInt8) (hs:s.length<most) (h45:¬s.head?=some 45) (hne:s≠[]):SC Tryz.prog 303 [.s s,.i .i64 0] [] (.val (.tup [.i .i64 (numS s).1,.i .i64 ((numS s).2:Nat)])) []:=by
 unfold most at hs
 obtain⟨R,hR⟩:∃R,R=numS s:=⟨_,rfl⟩
 rw[<-hR]
 refine gwS Tryz.func303 rfl ?_
 conv=>whnf
 obtain⟨c1,hc1⟩:∃c1,s[0]?=some c1:=by
  obtain⟨c,t,rfl⟩:=List.exists_cons_of_ne_nil hne
  exact⟨c,rfl⟩
 have hpos:0<s.length:=List.length_pos_iff.2 hne
 refine GIf.mk (fun h0=>?_) (fun h0=>?_)
 rotate_left
 ·exfalso;have:=of_decide_eq_false h0;omega
 conv=>whnf
 refine GNeed.mk (Int.le_refl 0) ⟨c1,hc1,?_⟩
 conv=>whnf
 refine GIf.mk (fun hm=>?_) (fun hm=>?_)
 ·exact absurd (by rw[List.head?_eq_getElem?,hc1,u8_eq (d:=45) hm]) h45
 conv=>whnf
 have hmi:decide (s.head?=some 45)=false:=decide_eq_false h45
 obtain⟨l,hlst⟩:∃l,l=s:=⟨_,rfl⟩
 have hN:numS s=if digs l=0∨(1<digs l/\l.head?=some 48)∨(false=true/\dval (l.take (digs l))=0)∨17<=digs l then(0,0) else((dval (l.take (digs l)):Int),0+digs l):=by
  rw[hlst];unfold numS;simp only[hmi];rfl
 have hget:∀j:Nat,l[j]?=s[0+j]?:=fun j=>by rw[hlst];rw[Nat.zero_add]
 have hll:l.length=s.length - 0:=by rw[hlst];omega
 clear hlst
 refine GLoop.intro (fun j:Nat=>j<=digs l) (fun j=>[(0,.s s),(1,.i .i64 0),(4,.i .i64 (dval (l.take j):Nat)),(5,.i .i64 0),(6,.i .i64 (0+j:Nat)),(7,.b _),(8,.i .i64 (0:Nat))]) (fun _=>⟨[],0,[]⟩) (fun j=>17 - j) 0 (zL _) ⟨rfl,rfl,rfl,rfl,rfl,rfl,rfl,trivial⟩ rfl (fun j φ0 hj=>?_)
 have hj17:j<=17:=by unfold digs at hj;omega
 have hjl:j<=l.length:=by
  have:=(List.takeWhile_prefix (l:=l) isDigit).length_le
  unfold digs at hj;omega
 have hdv:=dval_lt j (l.take j) (by rw[List.length_take];omega) (digs_lt hj)
 have hdv17:dval (l.take j)<10^17:=Nat.lt_of_lt_of_le hdv (Nat.pow_le_pow_right (by decide) hj17)
 have hdv18:dval (l.take j)<100000000000000000:=hdv17
 have wj:IntKind.i64.wrap (((0+j:Nat):Int) - ((0:Nat):Int))=(j:Int):=by rw[wrap_in (by omega) (by omega)];omega
 clear hdv hdv17
 conv=>whnf
 refine GIf.mk (fun h1=>?lt) (fun h1=>?stop1)
 case' lt=>
  have h1':0+j<s.length:=by have:=of_decide_eq_true h1;omega
  have hgi:s[0+j]?=some (s.getD (0+j) 0):=by rw[List.getD_eq_getElem?_getD,gL h1'];rfl
  have hlj:l[j]?=some (s.getD (0+j) 0):=(hget j).trans hgi
  generalize s.getD (0+j) 0=c at*
  have hgi':s[((0+j:Nat):Int).toNat]?=some c:=by rw[Int.toNat_natCast];exact hgi
  have hcl:=UInt8.toNat_lt c
  conv=>whnf
  refine GNeed.mk (cN _) ⟨c,hgi',?_⟩
  conv=>whnf
  refine GIf.mk (fun h2=>?ge) (fun h2=>?stop2)
  case' stop2=>
   have hend:=digs_end hj (.inr (fun d hd=>by rw[hlj] at hd;cases hd;have:=of_decide_eq_false h2;simp[isDigit];omega))
   clear hgi' hlj hgi h1' h2 hcl
  case' ge=>
   conv=>whnf
   refine GNeed.mk (cN _) ⟨c,hgi',?_⟩
   conv=>whnf
   refine GIf.mk (fun h3=>?le) (fun h3=>?stop3)
   case' stop3=>
    have hend:=digs_end hj (.inr (fun d hd=>by rw[hlj] at hd;cases hd;have:=of_decide_eq_false h3;simp[isDigit];omega))
    clear hgi' hlj hgi h1' h2 h3 hcl
   case' le=>
    conv=>whnf
    refine GIf.mk (fun h4=>?go) (fun h4=>?stop4)
    case' stop4=>
     have hend:=digs_end hj (.inl (by have:=of_decide_eq_false h4;rw[wj] at this;omega))
     clear hgi' hlj hgi h1' h2 h3 h4 hcl
    case' go=>
     have g2:=of_decide_eq_true h2
     have g3:=of_decide_eq_true h3
     have g4:=of_decide_eq_true h4
     rw[wj] at g4
     have htk:l.take (j+1)=l.take j++[c]:=by rw[List.take_add_one,hlj];rfl
     conv=>whnf
     refine GNeed.mk (cN _) ⟨c,hgi',?_⟩
     conv=>whnf
     refine GLoop.next (j+1) (digs_next hj hlj (by simp[isDigit];omega) (by omega)) (by omega) ⟨rfl,rfl,?_,rfl,wrap_succ (by omega),rfl,rfl,trivial⟩ rfl
     refine congrArg (GV.i .i64) ?_
     rw[htk,dval_snoc]
     exact num_step _ _ hdv18 (by omega) (by omega)
 case' stop1=>
  have hend:=digs_end hj (.inr (fun d hd=>by have:=(List.getElem?_eq_some_iff.1 hd).1;have:=of_decide_eq_false h1;omega))
 all_goals
  clear h1
  subst hend
  conv=>whnf
  refine GIf.mk (fun e1=>?_) (fun e1=>?_)<;>conv=>whnf
  ·have hk0:digs l=0:=by have:=eq_of_beq e1;omega
   have hr:R=(0,0):=hR.trans (hN.trans (if_pos (.inl hk0)))
   cases hr
   exact owes_wk (.refl _) (Cl.tup (.cons (.i _ _) (.cons (.i _ _) .nil)))
  have hk0:¬digs l=0:=fun h=>by rw[h] at e1;simp at e1
  refine GIf.mk (fun e2=>?_) (fun e2=>?_)<;>conv=>whnf
  ·have hk1:1<digs l:=by have:=of_decide_eq_true e2;rw[wj] at this;omega
   obtain⟨c0,hc0⟩:∃c0,l[0]?=some c0:=⟨l[0]'(by omega),gL (by omega)⟩
   have hs0:s[((0:Nat):Int).toNat]?=some c0:=by rw[Int.toNat_natCast];exact(hget 0).symm.trans hc0
   refine GNeed.mk (cN _) ⟨c0,hs0,?_⟩
   conv=>whnf
   refine GIf.mk (fun e3=>?_) (fun e3=>?_)<;>conv=>whnf
   ·have h48:l.head?=some 48:=by rw[List.head?_eq_getElem?,hc0,u8_eq (d:=48) e3]
    have hr:R=(0,0):=hR.trans (hN.trans (if_pos (.inr (.inl ⟨hk1,h48⟩))))
    cases hr
    exact owes_wk (.refl _) (Cl.tup (.cons (.i _ _) (.cons (.i _ _) .nil)))
   have h48:¬l.head?=some 48:=fun h=>u8_ne (d:=48) e3 (by rw[List.head?_eq_getElem?,hc0] at h;exact Option.some.inj h)
   refine GIf.mk (fun hx=>absurd hx (by simp[*])) (fun _=>?_)
   conv=>whnf
   refine GIf.mk (fun e5=>?_) (fun e5=>?_)<;>conv=>whnf
   ·have h17:17<=digs l:=by have:=of_decide_eq_true e5;rw[wj] at this;omega
    have hr:R=(0,0):=hR.trans (hN.trans (if_pos (.inr (.inr (.inr h17)))))
    cases hr
    exact owes_wk (.refl _) (Cl.tup (.cons (.i _ _) (.cons (.i _ _) .nil)))
   ·have h17:¬17<=digs l:=by have:=of_decide_eq_false e5;rw[wj] at this;omega
    have hr:R=((dval (l.take (digs l)):Int),0+digs l):=hR.trans (hN.trans (if_neg (fun h=>h.elim hk0 (fun h=>h.elim (fun h=>h48 h.2) (fun h=>h.elim (fun h=>by cases h.1) h17)))))
    cases hr
    refine GIf.mk (fun hx=>absurd hx (by simp[*])) (fun _=>?_)
    conv=>whnf
    have w2:IntKind.i64.wrap (((0+digs l:Nat):Int) - 0)=((0+digs l:Nat):Int):=by rw[wrap_in (by omega) (by omega)];omega
    refine owes_wk (Wk.of_eq ?_) (Cl.tup (.cons (.i _ _) (.cons (.i _ _) .nil)))
    show GV.tup [.i .i64 ((dval (l.take (digs l)):Int)),.i .i64 (IntKind.i64.wrap (((0+digs l:Nat):Int) - 0))]=_
    rw[w2]
  have hk1:¬1<digs l:=by have:=of_decide_eq_false e2;rw[wj] at this;omega
  refine GIf.mk (fun hx=>absurd hx (by simp[*])) (fun _=>?_)
  conv=>whnf
  refine GIf.mk (fun e5=>?_) (fun e5=>?_)<;>conv=>whnf
  ·have h17:17<=digs l:=by have:=of_decide_eq_true e5;rw[wj] at this;omega
   have hr:R=(0,0):=hR.trans (hN.trans (if_pos (.inr (.inr (.inr h17)))))
   cases hr
   exact owes_wk (.refl _) (Cl.tup (.cons (.i _ _) (.cons (.i _ _) .nil)))
  ·have h17:¬17<=digs l:=by have:=of_decide_eq_false e5;rw[wj] at this;omega
   have hr:R=((dval (l.take (digs l)):Int),0+digs l):=hR.trans (hN.trans (if_neg (fun h=>h.elim hk0 (fun h=>h.elim (fun h=>hk1 h.1) (fun h=>h.elim (fun h=>by cases h.1) h17)))))
   cases hr
   refine GIf.mk (fun hx=>absurd hx (by simp[*])) (fun _=>?_)
   conv=>whnf
   have w2:IntKind.i64.wrap (((0+digs l:Nat):Int) - 0)=((0+digs l:Nat):Int):=by rw[wrap_in (by omega) (by omega)];omega
   refine owes_wk (Wk.of_eq ?_) (Cl.tup (.cons (.i _ _) (.cons (.i _ _) .nil)))
   show GV.tup [.i .i64 ((dval (l.take (digs l)):Int)),.i .i64 (IntKind.i64.wrap (((0+digs l:Nat):Int) - 0))]=_
   rw[w2]
theorem r_Number [MaxL] (s:List UInt8) (hs:s.length<most):SC Tryz.prog 303 [.s s,.i .i64 0] [] (.val (.tup [.i .i64 (numS s).1,.i .i64 ((numS s).2:Nat)])) []:=by
 by_cases h45:s.head?=some 45
 ·exact r_NumberM s hs h45
 by_cases hne:s=[]
 ·subst hne
  show SC _ _ _ _ (.val (.tup [.i .i64 0,.i .i64 (0:Nat)])) _
  refine gwS Tryz.func303 rfl ?_
  conv=>whnf
  refine GLoop.intro (fun _:Unit=>True) (fun _=>[(0,.s []),(1,.i .i64 0),(4,.i .i64 0),(5,.i .i64 0),(6,.i .i64 0),(7,.b false),(8,.i .i64 0)]) (fun _=>⟨[],0,[]⟩) (fun _=>0) () trivial ⟨rfl,rfl,rfl,rfl,rfl,rfl,rfl,trivial⟩ rfl (fun _ φ0 _=>?_)
  conv=>whnf
  exact owes_wk (.refl _) (fun _=>rfl)
 ·exact r_NumberP s hs h45 hne
end Go.Proofs.YtcfgfkkhpdlhpaaGreatDoor
