/-
  A part of the proof of SchemaSorts.
-/
import Derived.Test.YtcfgfkkhpdlhpaaGreatDoorS28
set_option linter.all false
set_option maxRecDepth 100000
namespace Go.Proofs.YtcfgfkkhpdlhpaaGreatDoor
open Go.RowKit
def jH (l:List UInt8):Nat:=l.foldl (fun a c=>10*a+(c.toNat - 48)) 0
theorem uF (l:List UInt8) (c:UInt8):jH (l++[c])=10*jH l+(c.toNat - 48):=by simp[jH]
def eI (l:List UInt8):Nat:=min 17 (l.takeWhile cO).length
def jU (s:List UInt8):Int×Nat:=
 let mi:=decide (s.head?=some 45);let l:=if mi then s.tail else s;let k:=eI l;let n:=jH (l.take k)
 if k=0∨(1<k/\l.head?=some 48)∨(mi=true/\n=0)∨17<=k then(0,0) else(if mi then -(n:Int) else n,(if mi then 1 else 0)+k)
theorem SW:∀(k:Nat) (l:List UInt8),l.length<=k->(∀c∈l,cO c=true)->jH l<10^k:=by
 intro k;induction k with
 |zero=>intro l h _;have:l=[]:=aN (by omega);subst this;decide
 |succ k ih=>
  intro l h hd;rcases List.eq_nil_or_concat l with rfl|⟨l',c,rfl⟩
  ·exact Nat.pos_of_ne_zero (by simp)
  ·rw[List.concat_eq_append,uF];have h1:=ih l' (by simp at h;omega) (fun d hd'=>hd d (by simp[hd']));have h2:=hd c (by simp);simp[cO] at h2;rw[Nat.pow_succ];omega
theorem LH {l:List UInt8} {j:Nat} (h:j<=eI l):∀c∈l.take j,cO c=true:=fun c hc=>by
 have h1:j<=(l.takeWhile cO).length:=by unfold eI at h;omega
 have h2:l.take j<+:l.takeWhile cO:=by
  have:=gJ (l:=l) cO;exact List.prefix_of_prefix_length_le (List.take_prefix j l) this (by rw[bM];omega)
 exact List.all_eq_true.1 (List.all_takeWhile (p:=cO) (l:=l)) c (h2.subset hc)
theorem J9 {l:List UInt8} {j:Nat} {c:UInt8} (hj:j<=eI l) (hc:l[j]?=some c) (hd:cO c=true) (h17:j<17):j+1<=eI l:=by
 have h1:j<=(l.takeWhile cO).length:=by unfold eI at hj;omega
 have:j<(l.takeWhile cO).length:=by
  rcases eO j (l.takeWhile cO).length with h|h
  ·exact h
  ·exfalso;have e:j=(l.takeWhile cO).length:=by omega
   have key:∀l:List UInt8,∀c,l[(l.takeWhile cO).length]?=some c->cO c=false:=by
    intro l;induction l with
    |nil=>intro c h;cases h
    |cons a l ih=>
     intro c h;rw[eW] at h;split at h
     ·simp at h;exact ih c h
     ·rename_i ha;simp at h;subst h;simpa using ha
   rw[e] at hc;rw[key l c hc] at hd;cases hd
 unfold eI;omega
theorem oT {l:List UInt8} {j:Nat} (hj:j<=eI l) (h:j=17∨(∀c,l[j]?=some c->cO c=false)):j=eI l:=by
 rcases h with h|h
 ·unfold eI at hj⊢;omega
 ·rcases eO j (eI l) with hlt|hge
  ·exfalso;have h1:j<(l.takeWhile cO).length:=by unfold eI at hlt;omega
   have h2:=gJ (l:=l) cO;have h3:l[j]?=some (l.takeWhile cO)[j]:=by
    obtain⟨r,hr⟩:=h2;conv=>lhs;rw[<-hr]
    rw[aV h1,gL h1]
   have h4:=List.all_eq_true.1 (List.all_takeWhile (p:=cO) (l:=l)) _ (dY h1);rw[h _ h3] at h4;cases h4
  ·omega
theorem N3 [MaxL] (n c:Nat) (hn:n<100000000000000000) (h1:48<=c) (h2:c<=57):IntKind.i64.wrap (IntKind.i64.wrap (10*(n:Int))+IntKind.i64.wrap (IntKind.u8.wrap ((c:Int) - 48)))=((10*n+(c - 48):Nat):Int):=by
 rw[ZA (n:=(c:Int) - 48) (by omega) (by omega),bV (n:=(c:Int) - 48) (by omega) (by omega),bV (n:=10*(n:Int)) (by omega) (by omega),bV (by omega) (by omega)];omega
set_option maxHeartbeats 2000000 in
theorem U2 [MaxL] (s:List UInt8) (hs:s.length<bB) (h45:s.head?=some 45):SC Tryz.prog 303 [.s s,.i .i64 0] [] (.val (.tup [.i .i64 (jU s).1,.i .i64 ((jU s).2:Nat)])) []:=by
 unfold bB at hs;obtain⟨R,hR⟩:∃R,R=jU s:=⟨_,rfl⟩;rw[<-hR];refine cY Tryz.func303 rfl ?_;conv=>whnf
 have hg0:s[0]?=some 45:=by rw[<-f7];exact h45
 have hpos:0<s.length:=(List.getElem?_eq_some_iff.1 hg0).1;refine aE (fun _=>?_) (fun h0=>?_);rotate_left
 ·exfalso;have:=aC h0;omega
 conv=>whnf
 refine GNeed.mk (dE 0) ⟨45,hg0,?_⟩;conv=>whnf
 have hmi:decide (s.head?=some 45)=true:=bN h45;obtain⟨l,hlst⟩:∃l,l=s.tail:=⟨_,rfl⟩;have hN:jU s=if eI l=0∨(1<eI l/\l.head?=some 48)∨(true=true/\jH (l.take (eI l))=0)∨17<=eI l then(0,0) else(-(jH (l.take (eI l)):Int),1+eI l):=by
  rw[hlst];unfold jU;simp only[hmi];rfl
 have hget:∀j:Nat,l[j]?=s[1+j]?:=fun j=>by rw[hlst];rw[List.getElem?_tail,Nat.add_comm]
 have hll:l.length=s.length - 1:=by rw[hlst];rw[List.length_tail]
 clear hlst;refine cV (fun j:Nat=>j<=eI l) (fun j=>[(0,.s s),(1,.i .i64 0),(4,.i .i64 (jH (l.take j):Nat)),(5,.i .i64 0),(6,.i .i64 (1+j:Nat)),(7,.b true),(8,.i .i64 (1:Nat))]) (fun _=>⟨[],0,[]⟩) (fun j=>17 - j) 0 (zL _) ⟨rfl,rfl,rfl,rfl,rfl,rfl,rfl,trivial⟩ rfl (fun j φ0 hj=>?_);have hj17:j<=17:=by unfold eI at hj;omega
 have hjl:j<=l.length:=by
  have:=(gJ (l:=l) cO).length_le;unfold eI at hj;omega
 have hdv:=SW j (l.take j) (by rw[bM];omega) (LH hj);have hdv17:jH (l.take j)<10^17:=cL hdv (Nat.pow_le_pow_right (by decide) hj17);have hdv18:jH (l.take j)<100000000000000000:=hdv17;have wj:IntKind.i64.wrap (((1+j:Nat):Int) - ((1:Nat):Int))=(j:Int):=by rw[bV (by omega) (by omega)];omega
 clear hdv hdv17;conv=>whnf
 refine aE (fun h1=>?lt) (fun h1=>?stop1)
 case' lt=>
  have h1':1+j<s.length:=by have:=aB h1;omega
  have hgi:s[1+j]?=some (s.getD (1+j) 0):=by rw[aO,gL h1'];rfl
  have hlj:l[j]?=some (s.getD (1+j) 0):=(hget j).trans hgi;generalize s.getD (1+j) 0=c at*;have hgi':s[((1+j:Nat):Int).toNat]?=some c:=by rw[aA];exact hgi
  have hcl:=bX c;conv=>whnf
  refine GNeed.mk (cN _) ⟨c,hgi',?_⟩;conv=>whnf
  refine aE (fun h2=>?ge) (fun h2=>?stop2)
  case' stop2=>
   have hend:=oT hj (.inr (fun d hd=>by rw[hlj] at hd;cases hd;have:=aC h2;simp[cO];omega));clear hgi' hlj hgi h1' h2 hcl
  case' ge=>
   (conv=>whnf);refine GNeed.mk (cN _) ⟨c,hgi',?_⟩;(conv=>whnf);refine aE (fun h3=>?le) (fun h3=>?stop3)
   case' stop3=>
    have hend:=oT hj (.inr (fun d hd=>by rw[hlj] at hd;cases hd;have:=aC h3;simp[cO];omega));clear hgi' hlj hgi h1' h2 h3 hcl
   case' le=>
    (conv=>whnf);refine aE (fun h4=>?go) (fun h4=>?stop4)
    case' stop4=>
     have hend:=oT hj (.inl (by have:=aC h4;rw[wj] at this;omega));clear hgi' hlj hgi h1' h2 h3 h4 hcl
    case' go=>
     have g2:=aB h2;have g3:=aB h3;have g4:=aB h4;rw[wj] at g4;have htk:l.take (j+1)=l.take j++[c]:=by rw[bP,hlj];rfl
     (conv=>whnf);refine GNeed.mk (cN _) ⟨c,hgi',?_⟩;(conv=>whnf);refine eP (j+1) (J9 hj hlj (by simp[cO];omega) (by omega)) (by omega) ⟨rfl,rfl,?_,rfl,b7 (by omega),rfl,rfl,trivial⟩ rfl;refine aQ (GV.i .i64) ?_;rw[htk,uF];exact N3 _ _ hdv18 (by omega) (by omega)
 case' stop1=>
  have hend:=oT hj (.inr (fun d hd=>by have:=(List.getElem?_eq_some_iff.1 hd).1;have:=aC h1;omega))
 all_goals
  clear h1;subst hend;conv=>whnf
  refine aE (fun e1=>?_) (fun e1=>?_)<;>conv=>whnf
  ·have hk0:eI l=0:=by have:=eq_of_beq e1;omega
   have hr:R=(0,0):=hR.trans (hN.trans (aF (.inl hk0)));cases hr;exact bE (.refl _) (fH (.cons (.i _ _) (.cons (.i _ _) .nil)))
  have hk0:¬eI l=0:=fun h=>by rw[h] at e1;simp at e1
  refine aE (fun e2=>?_) (fun e2=>?_)<;>conv=>whnf
  ·have hk1:1<eI l:=by have:=aB e2;rw[wj] at this;omega
   obtain⟨c0,hc0⟩:∃c0,l[0]?=some c0:=⟨l[0]'(by omega),gL (by omega)⟩;have hs0:s[((1:Nat):Int).toNat]?=some c0:=by rw[aA];exact(hget 0).symm.trans hc0
   refine GNeed.mk (cN _) ⟨c0,hs0,?_⟩;(conv=>whnf);refine aE (fun e3=>?_) (fun e3=>?_)<;>conv=>whnf
   ·have h48:l.head?=some 48:=by rw[f7,hc0,iU (d:=48) e3]
    have hr:R=(0,0):=hR.trans (hN.trans (aF (.inr (.inl ⟨hk1,h48⟩))));cases hr;exact bE (.refl _) (fH (.cons (.i _ _) (.cons (.i _ _) .nil)))
   have h48:¬l.head?=some 48:=fun h=>jT (d:=48) e3 (by rw[f7,hc0] at h;exact aY h);refine aE (fun e4=>?_) (fun e4=>?_)<;>conv=>whnf
   ·have hn0:jH (l.take (eI l))=0:=by have:=eq_of_beq e4;omega
    have hr:R=(0,0):=hR.trans (hN.trans (aF (.inr (.inr (.inl ⟨rfl,hn0⟩)))));cases hr;exact bE (.refl _) (fH (.cons (.i _ _) (.cons (.i _ _) .nil)))
   ·have hn0:¬jH (l.take (eI l))=0:=fun h=>by rw[h] at e4;cases e4
    refine aE (fun e5=>?_) (fun e5=>?_)<;>conv=>whnf
    ·have h17:17<=eI l:=by have:=aB e5;rw[wj] at this;omega
     have hr:R=(0,0):=hR.trans (hN.trans (aF (.inr (.inr (.inr h17)))));cases hr;exact bE (.refl _) (fH (.cons (.i _ _) (.cons (.i _ _) .nil)))
    ·have h17:¬17<=eI l:=by have:=aC e5;rw[wj] at this;omega
     have hr:R=(-(jH (l.take (eI l)):Int),1+eI l):=hR.trans (hN.trans (aD (fun h=>h.elim hk0 (fun h=>h.elim (fun h=>h48 h.2) (fun h=>h.elim (fun h=>hn0 h.2) h17)))));cases hr;have w2:IntKind.i64.wrap (((1+eI l:Nat):Int) - 0)=((1+eI l:Nat):Int):=by rw[bV (by omega) (by omega)];omega
     have w3:IntKind.i64.wrap (0 - (jH (l.take (eI l)):Int))= -(jH (l.take (eI l)):Int):=by rw[bV (by omega) (by omega)];omega
     refine bE (Wk.of_eq ?_) (fH (.cons (.i _ _) (.cons (.i _ _) .nil)));show GV.tup [.i .i64 (IntKind.i64.wrap (0 - (jH (l.take (eI l)):Int))),.i .i64 (IntKind.i64.wrap (((1+eI l:Nat):Int) - 0))]=_;rw[w2,w3]
  have hk1:¬1<eI l:=by have:=aC e2;rw[wj] at this;omega
  refine aE (fun e4=>?_) (fun e4=>?_)<;>conv=>whnf
  ·have hn0:jH (l.take (eI l))=0:=by have:=eq_of_beq e4;omega
   have hr:R=(0,0):=hR.trans (hN.trans (aF (.inr (.inr (.inl ⟨rfl,hn0⟩)))));cases hr;exact bE (.refl _) (fH (.cons (.i _ _) (.cons (.i _ _) .nil)))
  ·have hn0:¬jH (l.take (eI l))=0:=fun h=>by rw[h] at e4;cases e4
   refine aE (fun e5=>?_) (fun e5=>?_)<;>conv=>whnf
   ·have h17:17<=eI l:=by have:=aB e5;rw[wj] at this;omega
    have hr:R=(0,0):=hR.trans (hN.trans (aF (.inr (.inr (.inr h17)))));cases hr;exact bE (.refl _) (fH (.cons (.i _ _) (.cons (.i _ _) .nil)))
   ·have h17:¬17<=eI l:=by have:=aC e5;rw[wj] at this;omega
    have hr:R=(-(jH (l.take (eI l)):Int),1+eI l):=hR.trans (hN.trans (aD (fun h=>h.elim hk0 (fun h=>h.elim (fun h=>hk1 h.1) (fun h=>h.elim (fun h=>hn0 h.2) h17)))));cases hr;have w2:IntKind.i64.wrap (((1+eI l:Nat):Int) - 0)=((1+eI l:Nat):Int):=by rw[bV (by omega) (by omega)];omega
    have w3:IntKind.i64.wrap (0 - (jH (l.take (eI l)):Int))= -(jH (l.take (eI l)):Int):=by rw[bV (by omega) (by omega)];omega
    refine bE (Wk.of_eq ?_) (fH (.cons (.i _ _) (.cons (.i _ _) .nil)));show GV.tup [.i .i64 (IntKind.i64.wrap (0 - (jH (l.take (eI l)):Int))),.i .i64 (IntKind.i64.wrap (((1+eI l:Nat):Int) - 0))]=_;rw[w2,w3]
set_option maxHeartbeats 2000000 in
theorem U1 [MaxL] (s:List UInt8) (hs:s.length<bB) (h45:¬s.head?=some 45) (hne:s≠[]):SC Tryz.prog 303 [.s s,.i .i64 0] [] (.val (.tup [.i .i64 (jU s).1,.i .i64 ((jU s).2:Nat)])) []:=by
 unfold bB at hs;obtain⟨R,hR⟩:∃R,R=jU s:=⟨_,rfl⟩;rw[<-hR];refine cY Tryz.func303 rfl ?_;conv=>whnf
 obtain⟨c1,hc1⟩:∃c1,s[0]?=some c1:=by
  obtain⟨c,t,rfl⟩:=cU hne;exact⟨c,rfl⟩
 have hpos:0<s.length:=List.length_pos_iff.2 hne;refine aE (fun h0=>?_) (fun h0=>?_);rotate_left
 ·exfalso;have:=aC h0;omega
 conv=>whnf
 refine GNeed.mk (dE 0) ⟨c1,hc1,?_⟩;conv=>whnf
 refine aE (fun hm=>?_) (fun hm=>?_)
 ·exact absurd (by rw[f7,hc1,iU (d:=45) hm]) h45
 conv=>whnf
 have hmi:decide (s.head?=some 45)=false:=cD h45;obtain⟨l,hlst⟩:∃l,l=s:=⟨_,rfl⟩;have hN:jU s=if eI l=0∨(1<eI l/\l.head?=some 48)∨(false=true/\jH (l.take (eI l))=0)∨17<=eI l then(0,0) else((jH (l.take (eI l)):Int),0+eI l):=by
  rw[hlst];unfold jU;simp only[hmi];rfl
 have hget:∀j:Nat,l[j]?=s[0+j]?:=fun j=>by rw[hlst];rw[bH]
 have hll:l.length=s.length - 0:=by rw[hlst];omega
 clear hlst;refine cV (fun j:Nat=>j<=eI l) (fun j=>[(0,.s s),(1,.i .i64 0),(4,.i .i64 (jH (l.take j):Nat)),(5,.i .i64 0),(6,.i .i64 (0+j:Nat)),(7,.b _),(8,.i .i64 (0:Nat))]) (fun _=>⟨[],0,[]⟩) (fun j=>17 - j) 0 (zL _) ⟨rfl,rfl,rfl,rfl,rfl,rfl,rfl,trivial⟩ rfl (fun j φ0 hj=>?_);have hj17:j<=17:=by unfold eI at hj;omega
 have hjl:j<=l.length:=by
  have:=(gJ (l:=l) cO).length_le;unfold eI at hj;omega
 have hdv:=SW j (l.take j) (by rw[bM];omega) (LH hj);have hdv17:jH (l.take j)<10^17:=cL hdv (Nat.pow_le_pow_right (by decide) hj17);have hdv18:jH (l.take j)<100000000000000000:=hdv17;have wj:IntKind.i64.wrap (((0+j:Nat):Int) - ((0:Nat):Int))=(j:Int):=by rw[bV (by omega) (by omega)];omega
 clear hdv hdv17;conv=>whnf
 refine aE (fun h1=>?lt) (fun h1=>?stop1)
 case' lt=>
  have h1':0+j<s.length:=by have:=aB h1;omega
  have hgi:s[0+j]?=some (s.getD (0+j) 0):=by rw[aO,gL h1'];rfl
  have hlj:l[j]?=some (s.getD (0+j) 0):=(hget j).trans hgi;generalize s.getD (0+j) 0=c at*;have hgi':s[((0+j:Nat):Int).toNat]?=some c:=by rw[aA];exact hgi
  have hcl:=bX c;conv=>whnf
  refine GNeed.mk (cN _) ⟨c,hgi',?_⟩;conv=>whnf
  refine aE (fun h2=>?ge) (fun h2=>?stop2)
  case' stop2=>
   have hend:=oT hj (.inr (fun d hd=>by rw[hlj] at hd;cases hd;have:=aC h2;simp[cO];omega));clear hgi' hlj hgi h1' h2 hcl
  case' ge=>
   (conv=>whnf);refine GNeed.mk (cN _) ⟨c,hgi',?_⟩;(conv=>whnf);refine aE (fun h3=>?le) (fun h3=>?stop3)
   case' stop3=>
    have hend:=oT hj (.inr (fun d hd=>by rw[hlj] at hd;cases hd;have:=aC h3;simp[cO];omega));clear hgi' hlj hgi h1' h2 h3 hcl
   case' le=>
    (conv=>whnf);refine aE (fun h4=>?go) (fun h4=>?stop4)
    case' stop4=>
     have hend:=oT hj (.inl (by have:=aC h4;rw[wj] at this;omega));clear hgi' hlj hgi h1' h2 h3 h4 hcl
    case' go=>
     have g2:=aB h2;have g3:=aB h3;have g4:=aB h4;rw[wj] at g4;have htk:l.take (j+1)=l.take j++[c]:=by rw[bP,hlj];rfl
     (conv=>whnf);refine GNeed.mk (cN _) ⟨c,hgi',?_⟩;(conv=>whnf);refine eP (j+1) (J9 hj hlj (by simp[cO];omega) (by omega)) (by omega) ⟨rfl,rfl,?_,rfl,b7 (by omega),rfl,rfl,trivial⟩ rfl;refine aQ (GV.i .i64) ?_;rw[htk,uF];exact N3 _ _ hdv18 (by omega) (by omega)
 case' stop1=>
  have hend:=oT hj (.inr (fun d hd=>by have:=(List.getElem?_eq_some_iff.1 hd).1;have:=aC h1;omega))
 all_goals
  clear h1;subst hend;conv=>whnf
  refine aE (fun e1=>?_) (fun e1=>?_)<;>conv=>whnf
  ·have hk0:eI l=0:=by have:=eq_of_beq e1;omega
   have hr:R=(0,0):=hR.trans (hN.trans (aF (.inl hk0)));cases hr;exact bE (.refl _) (fH (.cons (.i _ _) (.cons (.i _ _) .nil)))
  have hk0:¬eI l=0:=fun h=>by rw[h] at e1;simp at e1
  refine aE (fun e2=>?_) (fun e2=>?_)<;>conv=>whnf
  ·have hk1:1<eI l:=by have:=aB e2;rw[wj] at this;omega
   obtain⟨c0,hc0⟩:∃c0,l[0]?=some c0:=⟨l[0]'(by omega),gL (by omega)⟩;have hs0:s[((0:Nat):Int).toNat]?=some c0:=by rw[aA];exact(hget 0).symm.trans hc0
   refine GNeed.mk (cN _) ⟨c0,hs0,?_⟩;(conv=>whnf);refine aE (fun e3=>?_) (fun e3=>?_)<;>conv=>whnf
   ·have h48:l.head?=some 48:=by rw[f7,hc0,iU (d:=48) e3]
    have hr:R=(0,0):=hR.trans (hN.trans (aF (.inr (.inl ⟨hk1,h48⟩))));cases hr;exact bE (.refl _) (fH (.cons (.i _ _) (.cons (.i _ _) .nil)))
   have h48:¬l.head?=some 48:=fun h=>jT (d:=48) e3 (by rw[f7,hc0] at h;exact aY h);refine aE (fun hx=>absurd hx (by simp[*])) (fun _=>?_);(conv=>whnf);refine aE (fun e5=>?_) (fun e5=>?_)<;>conv=>whnf
   ·have h17:17<=eI l:=by have:=aB e5;rw[wj] at this;omega
    have hr:R=(0,0):=hR.trans (hN.trans (aF (.inr (.inr (.inr h17)))));cases hr;exact bE (.refl _) (fH (.cons (.i _ _) (.cons (.i _ _) .nil)))
   ·have h17:¬17<=eI l:=by have:=aC e5;rw[wj] at this;omega
    have hr:R=((jH (l.take (eI l)):Int),0+eI l):=hR.trans (hN.trans (aD (fun h=>h.elim hk0 (fun h=>h.elim (fun h=>h48 h.2) (fun h=>h.elim (fun h=>by cases h.1) h17)))));cases hr;refine aE (fun hx=>absurd hx (by simp[*])) (fun _=>?_);(conv=>whnf);have w2:IntKind.i64.wrap (((0+eI l:Nat):Int) - 0)=((0+eI l:Nat):Int):=by rw[bV (by omega) (by omega)];omega
    refine bE (Wk.of_eq ?_) (fH (.cons (.i _ _) (.cons (.i _ _) .nil)));show GV.tup [.i .i64 ((jH (l.take (eI l)):Int)),.i .i64 (IntKind.i64.wrap (((0+eI l:Nat):Int) - 0))]=_;rw[w2]
  have hk1:¬1<eI l:=by have:=aC e2;rw[wj] at this;omega
  refine aE (fun hx=>absurd hx (by simp[*])) (fun _=>?_);conv=>whnf
  refine aE (fun e5=>?_) (fun e5=>?_)<;>conv=>whnf
  ·have h17:17<=eI l:=by have:=aB e5;rw[wj] at this;omega
   have hr:R=(0,0):=hR.trans (hN.trans (aF (.inr (.inr (.inr h17)))));cases hr;exact bE (.refl _) (fH (.cons (.i _ _) (.cons (.i _ _) .nil)))
  ·have h17:¬17<=eI l:=by have:=aC e5;rw[wj] at this;omega
   have hr:R=((jH (l.take (eI l)):Int),0+eI l):=hR.trans (hN.trans (aD (fun h=>h.elim hk0 (fun h=>h.elim (fun h=>hk1 h.1) (fun h=>h.elim (fun h=>by cases h.1) h17)))));cases hr;refine aE (fun hx=>absurd hx (by simp[*])) (fun _=>?_);(conv=>whnf);have w2:IntKind.i64.wrap (((0+eI l:Nat):Int) - 0)=((0+eI l:Nat):Int):=by rw[bV (by omega) (by omega)];omega
   refine bE (Wk.of_eq ?_) (fH (.cons (.i _ _) (.cons (.i _ _) .nil)));show GV.tup [.i .i64 ((jH (l.take (eI l)):Int)),.i .i64 (IntKind.i64.wrap (((0+eI l:Nat):Int) - 0))]=_;rw[w2]
theorem FI [MaxL] (s:List UInt8) (hs:s.length<bB):SC Tryz.prog 303 [.s s,.i .i64 0] [] (.val (.tup [.i .i64 (jU s).1,.i .i64 ((jU s).2:Nat)])) []:=by
 by_cases h45:s.head?=some 45
 ·exact U2 s hs h45
 by_cases hne:s=[]
 ·subst hne;show SC _ _ _ _ (.val (.tup [.i .i64 0,.i .i64 (0:Nat)])) _;refine cY Tryz.func303 rfl ?_;conv=>whnf
  refine cV (fun _:Unit=>True) (fun _=>[(0,.s []),(1,.i .i64 0),(4,.i .i64 0),(5,.i .i64 0),(6,.i .i64 0),(7,.b false),(8,.i .i64 0)]) (fun _=>⟨[],0,[]⟩) (fun _=>0) () trivial ⟨rfl,rfl,rfl,rfl,rfl,rfl,rfl,trivial⟩ rfl (fun _ φ0 _=>?_);conv=>whnf
  exact bE (.refl _) (fun _=>rfl)
 ·exact U1 s hs h45 hne
