/-
  A part of the proof of SchemaChosen.
-/
import Derived.Test.YtcfgfkkhpdlhpaaGreatDoorR28
set_option linter.all false
set_option maxRecDepth 100000
namespace Go.Proofs.YtcfgfkkhpdlhpaaGreatDoor
open Go.RowKit
def j4 (l:List UInt8):Nat:=l.foldl (fun a c=>10*a+(c.toNat - 48)) 0
theorem tU (l:List UInt8) (c:UInt8):j4 (l++[c])=10*j4 l+(c.toNat - 48):=by simp[j4]
def e8 (l:List UInt8):Nat:=min 17 (l.takeWhile cL).length
def jP (s:List UInt8):Int×Nat:=
 let mi:=decide (s.head?=some 45);let l:=if mi then s.tail else s;let k:=e8 l;let n:=j4 (l.take k)
 if k=0∨(1<k/\l.head?=some 48)∨(mi=true/\n=0)∨17<=k then(0,0) else(if mi then -(n:Int) else n,(if mi then 1 else 0)+k)
theorem RF:∀(k:Nat) (l:List UInt8),l.length<=k->(∀c∈l,cL c=true)->j4 l<10^k:=by
 intro k;induction k with
 |zero=>intro l h _;have:l=[]:=aN (by omega);subst this;decide
 |succ k ih=>
  intro l h hd;rcases List.eq_nil_or_concat l with rfl|⟨l',c,rfl⟩
  ·exact Nat.pos_of_ne_zero (by simp)
  ·rw[List.concat_eq_append,tU];have h1:=ih l' (by simp at h;omega) (fun d hd'=>hd d (by simp[hd']));have h2:=hd c (by simp);simp[cL] at h2;rw[Nat.pow_succ];omega
theorem KK {l:List UInt8} {j:Nat} (h:j<=e8 l):∀c∈l.take j,cL c=true:=fun c hc=>by
 have h1:j<=(l.takeWhile cL).length:=by unfold e8 at h;omega
 have h2:l.take j<+:l.takeWhile cL:=by
  have:=gJ (l:=l) cL;exact List.prefix_of_prefix_length_le (List.take_prefix j l) this (by rw[bQ];omega)
 exact List.all_eq_true.1 (List.all_takeWhile (p:=cL) (l:=l)) c (h2.subset hc)
theorem IK {l:List UInt8} {j:Nat} {c:UInt8} (hj:j<=e8 l) (hc:l[j]?=some c) (hd:cL c=true) (h17:j<17):j+1<=e8 l:=by
 have h1:j<=(l.takeWhile cL).length:=by unfold e8 at hj;omega
 have:j<(l.takeWhile cL).length:=by
  rcases eO j (l.takeWhile cL).length with h|h
  ·exact h
  ·exfalso;have e:j=(l.takeWhile cL).length:=by omega
   have key:∀l:List UInt8,∀c,l[(l.takeWhile cL).length]?=some c->cL c=false:=by
    intro l;induction l with
    |nil=>intro c h;cases h
    |cons a l ih=>
     intro c h;rw[eV] at h;split at h
     ·simp at h;exact ih c h
     ·rename_i ha;simp at h;subst h;simpa using ha
   rw[e] at hc;rw[key l c hc] at hd;cases hd
 unfold e8;omega
theorem oH {l:List UInt8} {j:Nat} (hj:j<=e8 l) (h:j=17∨(∀c,l[j]?=some c->cL c=false)):j=e8 l:=by
 rcases h with h|h
 ·unfold e8 at hj⊢;omega
 ·rcases eO j (e8 l) with hlt|hge
  ·exfalso;have h1:j<(l.takeWhile cL).length:=by unfold e8 at hlt;omega
   have h2:=gJ (l:=l) cL;have h3:l[j]?=some (l.takeWhile cL)[j]:=by
    obtain⟨r,hr⟩:=h2;conv=>lhs;rw[<-hr]
    rw[aV h1,gL h1]
   have h4:=List.all_eq_true.1 (List.all_takeWhile (p:=cL) (l:=l)) _ (dX h1);rw[h _ h3] at h4;cases h4
  ·omega
theorem M1 [MaxL] (n c:Nat) (hn:n<100000000000000000) (h1:48<=c) (h2:c<=57):IntKind.i64.wrap (IntKind.i64.wrap (10*(n:Int))+IntKind.i64.wrap (IntKind.u8.wrap ((c:Int) - 48)))=((10*n+(c - 48):Nat):Int):=by
 rw[XV (n:=(c:Int) - 48) (by omega) (by omega),bU (n:=(c:Int) - 48) (by omega) (by omega),bU (n:=10*(n:Int)) (by omega) (by omega),bU (by omega) (by omega)];omega
set_option maxHeartbeats 2000000 in
theorem SO [MaxL] (s:List UInt8) (hs:s.length<bB) (h45:s.head?=some 45):SC Tryz.prog 303 [.s s,.i .i64 0] [] (.val (.tup [.i .i64 (jP s).1,.i .i64 ((jP s).2:Nat)])) []:=by
 unfold bB at hs;obtain⟨R,hR⟩:∃R,R=jP s:=⟨_,rfl⟩;rw[<-hR];refine cX Tryz.func303 rfl ?_;conv=>whnf
 have hg0:s[0]?=some 45:=by rw[<-f8];exact h45
 have hpos:0<s.length:=(List.getElem?_eq_some_iff.1 hg0).1;refine aF (fun _=>?_) (fun h0=>?_);rotate_left
 ·exfalso;have:=aC h0;omega
 conv=>whnf
 refine GNeed.mk (dP 0) ⟨45,hg0,?_⟩;conv=>whnf
 have hmi:decide (s.head?=some 45)=true:=bM h45;obtain⟨l,hlst⟩:∃l,l=s.tail:=⟨_,rfl⟩;have hN:jP s=if e8 l=0∨(1<e8 l/\l.head?=some 48)∨(true=true/\j4 (l.take (e8 l))=0)∨17<=e8 l then(0,0) else(-(j4 (l.take (e8 l)):Int),1+e8 l):=by
  rw[hlst];unfold jP;simp only[hmi];rfl
 have hget:∀j:Nat,l[j]?=s[1+j]?:=fun j=>by rw[hlst];rw[List.getElem?_tail,Nat.add_comm]
 have hll:l.length=s.length - 1:=by rw[hlst];rw[List.length_tail]
 clear hlst;refine cW (fun j:Nat=>j<=e8 l) (fun j=>[(0,.s s),(1,.i .i64 0),(4,.i .i64 (j4 (l.take j):Nat)),(5,.i .i64 0),(6,.i .i64 (1+j:Nat)),(7,.b true),(8,.i .i64 (1:Nat))]) (fun _=>⟨[],0,[]⟩) (fun j=>17 - j) 0 (zL _) ⟨rfl,rfl,rfl,rfl,rfl,rfl,rfl,trivial⟩ rfl (fun j φ0 hj=>?_);have hj17:j<=17:=by unfold e8 at hj;omega
 have hjl:j<=l.length:=by
  have:=(gJ (l:=l) cL).length_le;unfold e8 at hj;omega
 have hdv:=RF j (l.take j) (by rw[bQ];omega) (KK hj);have hdv17:j4 (l.take j)<10^17:=cJ hdv (Nat.pow_le_pow_right (by decide) hj17);have hdv18:j4 (l.take j)<100000000000000000:=hdv17;have wj:IntKind.i64.wrap (((1+j:Nat):Int) - ((1:Nat):Int))=(j:Int):=by rw[bU (by omega) (by omega)];omega
 clear hdv hdv17;conv=>whnf
 refine aF (fun h1=>?lt) (fun h1=>?stop1)
 case' lt=>
  have h1':1+j<s.length:=by have:=aB h1;omega
  have hgi:s[1+j]?=some (s.getD (1+j) 0):=by rw[aO,gL h1'];rfl
  have hlj:l[j]?=some (s.getD (1+j) 0):=(hget j).trans hgi;generalize s.getD (1+j) 0=c at*;have hgi':s[((1+j:Nat):Int).toNat]?=some c:=by rw[aA];exact hgi
  have hcl:=bW c;conv=>whnf
  refine GNeed.mk (cN _) ⟨c,hgi',?_⟩;conv=>whnf
  refine aF (fun h2=>?ge) (fun h2=>?stop2)
  case' stop2=>
   have hend:=oH hj (.inr (fun d hd=>by rw[hlj] at hd;cases hd;have:=aC h2;simp[cL];omega));clear hgi' hlj hgi h1' h2 hcl
  case' ge=>
   (conv=>whnf);refine GNeed.mk (cN _) ⟨c,hgi',?_⟩;(conv=>whnf);refine aF (fun h3=>?le) (fun h3=>?stop3)
   case' stop3=>
    have hend:=oH hj (.inr (fun d hd=>by rw[hlj] at hd;cases hd;have:=aC h3;simp[cL];omega));clear hgi' hlj hgi h1' h2 h3 hcl
   case' le=>
    (conv=>whnf);refine aF (fun h4=>?go) (fun h4=>?stop4)
    case' stop4=>
     have hend:=oH hj (.inl (by have:=aC h4;rw[wj] at this;omega));clear hgi' hlj hgi h1' h2 h3 h4 hcl
    case' go=>
     have g2:=aB h2;have g3:=aB h3;have g4:=aB h4;rw[wj] at g4;have htk:l.take (j+1)=l.take j++[c]:=by rw[bR,hlj];rfl
     (conv=>whnf);refine GNeed.mk (cN _) ⟨c,hgi',?_⟩;(conv=>whnf);refine eP (j+1) (IK hj hlj (by simp[cL];omega) (by omega)) (by omega) ⟨rfl,rfl,?_,rfl,b7 (by omega),rfl,rfl,trivial⟩ rfl;refine aQ (GV.i .i64) ?_;rw[htk,tU];exact M1 _ _ hdv18 (by omega) (by omega)
 case' stop1=>
  have hend:=oH hj (.inr (fun d hd=>by have:=(List.getElem?_eq_some_iff.1 hd).1;have:=aC h1;omega))
 all_goals
  clear h1;subst hend;conv=>whnf
  refine aF (fun e1=>?_) (fun e1=>?_)<;>conv=>whnf
  ·have hk0:e8 l=0:=by have:=eq_of_beq e1;omega
   have hr:R=(0,0):=hR.trans (hN.trans (aG (.inl hk0)));cases hr;exact bC (.refl _) (fH (.cons (.i _ _) (.cons (.i _ _) .nil)))
  have hk0:¬e8 l=0:=fun h=>by rw[h] at e1;simp at e1
  refine aF (fun e2=>?_) (fun e2=>?_)<;>conv=>whnf
  ·have hk1:1<e8 l:=by have:=aB e2;rw[wj] at this;omega
   obtain⟨c0,hc0⟩:∃c0,l[0]?=some c0:=⟨l[0]'(by omega),gL (by omega)⟩;have hs0:s[((1:Nat):Int).toNat]?=some c0:=by rw[aA];exact(hget 0).symm.trans hc0
   refine GNeed.mk (cN _) ⟨c0,hs0,?_⟩;(conv=>whnf);refine aF (fun e3=>?_) (fun e3=>?_)<;>conv=>whnf
   ·have h48:l.head?=some 48:=by rw[f8,hc0,iT (d:=48) e3]
    have hr:R=(0,0):=hR.trans (hN.trans (aG (.inr (.inl ⟨hk1,h48⟩))));cases hr;exact bC (.refl _) (fH (.cons (.i _ _) (.cons (.i _ _) .nil)))
   have h48:¬l.head?=some 48:=fun h=>jO (d:=48) e3 (by rw[f8,hc0] at h;exact aY h);refine aF (fun e4=>?_) (fun e4=>?_)<;>conv=>whnf
   ·have hn0:j4 (l.take (e8 l))=0:=by have:=eq_of_beq e4;omega
    have hr:R=(0,0):=hR.trans (hN.trans (aG (.inr (.inr (.inl ⟨rfl,hn0⟩)))));cases hr;exact bC (.refl _) (fH (.cons (.i _ _) (.cons (.i _ _) .nil)))
   ·have hn0:¬j4 (l.take (e8 l))=0:=fun h=>by rw[h] at e4;cases e4
    refine aF (fun e5=>?_) (fun e5=>?_)<;>conv=>whnf
    ·have h17:17<=e8 l:=by have:=aB e5;rw[wj] at this;omega
     have hr:R=(0,0):=hR.trans (hN.trans (aG (.inr (.inr (.inr h17)))));cases hr;exact bC (.refl _) (fH (.cons (.i _ _) (.cons (.i _ _) .nil)))
    ·have h17:¬17<=e8 l:=by have:=aC e5;rw[wj] at this;omega
     have hr:R=(-(j4 (l.take (e8 l)):Int),1+e8 l):=hR.trans (hN.trans (aD (fun h=>h.elim hk0 (fun h=>h.elim (fun h=>h48 h.2) (fun h=>h.elim (fun h=>hn0 h.2) h17)))));cases hr;have w2:IntKind.i64.wrap (((1+e8 l:Nat):Int) - 0)=((1+e8 l:Nat):Int):=by rw[bU (by omega) (by omega)];omega
     have w3:IntKind.i64.wrap (0 - (j4 (l.take (e8 l)):Int))= -(j4 (l.take (e8 l)):Int):=by rw[bU (by omega) (by omega)];omega
     refine bC (Wk.of_eq ?_) (fH (.cons (.i _ _) (.cons (.i _ _) .nil)));show GV.tup [.i .i64 (IntKind.i64.wrap (0 - (j4 (l.take (e8 l)):Int))),.i .i64 (IntKind.i64.wrap (((1+e8 l:Nat):Int) - 0))]=_;rw[w2,w3]
  have hk1:¬1<e8 l:=by have:=aC e2;rw[wj] at this;omega
  refine aF (fun e4=>?_) (fun e4=>?_)<;>conv=>whnf
  ·have hn0:j4 (l.take (e8 l))=0:=by have:=eq_of_beq e4;omega
   have hr:R=(0,0):=hR.trans (hN.trans (aG (.inr (.inr (.inl ⟨rfl,hn0⟩)))));cases hr;exact bC (.refl _) (fH (.cons (.i _ _) (.cons (.i _ _) .nil)))
  ·have hn0:¬j4 (l.take (e8 l))=0:=fun h=>by rw[h] at e4;cases e4
   refine aF (fun e5=>?_) (fun e5=>?_)<;>conv=>whnf
   ·have h17:17<=e8 l:=by have:=aB e5;rw[wj] at this;omega
    have hr:R=(0,0):=hR.trans (hN.trans (aG (.inr (.inr (.inr h17)))));cases hr;exact bC (.refl _) (fH (.cons (.i _ _) (.cons (.i _ _) .nil)))
   ·have h17:¬17<=e8 l:=by have:=aC e5;rw[wj] at this;omega
    have hr:R=(-(j4 (l.take (e8 l)):Int),1+e8 l):=hR.trans (hN.trans (aD (fun h=>h.elim hk0 (fun h=>h.elim (fun h=>hk1 h.1) (fun h=>h.elim (fun h=>hn0 h.2) h17)))));cases hr;have w2:IntKind.i64.wrap (((1+e8 l:Nat):Int) - 0)=((1+e8 l:Nat):Int):=by rw[bU (by omega) (by omega)];omega
    have w3:IntKind.i64.wrap (0 - (j4 (l.take (e8 l)):Int))= -(j4 (l.take (e8 l)):Int):=by rw[bU (by omega) (by omega)];omega
    refine bC (Wk.of_eq ?_) (fH (.cons (.i _ _) (.cons (.i _ _) .nil)));show GV.tup [.i .i64 (IntKind.i64.wrap (0 - (j4 (l.take (e8 l)):Int))),.i .i64 (IntKind.i64.wrap (((1+e8 l:Nat):Int) - 0))]=_;rw[w2,w3]
set_option maxHeartbeats 2000000 in
theorem SN [MaxL] (s:List UInt8) (hs:s.length<bB) (h45:¬s.head?=some 45) (hne:s≠[]):SC Tryz.prog 303 [.s s,.i .i64 0] [] (.val (.tup [.i .i64 (jP s).1,.i .i64 ((jP s).2:Nat)])) []:=by
 unfold bB at hs;obtain⟨R,hR⟩:∃R,R=jP s:=⟨_,rfl⟩;rw[<-hR];refine cX Tryz.func303 rfl ?_;conv=>whnf
 obtain⟨c1,hc1⟩:∃c1,s[0]?=some c1:=by
  obtain⟨c,t,rfl⟩:=cT hne;exact⟨c,rfl⟩
 have hpos:0<s.length:=List.length_pos_iff.2 hne;refine aF (fun h0=>?_) (fun h0=>?_);rotate_left
 ·exfalso;have:=aC h0;omega
 conv=>whnf
 refine GNeed.mk (dP 0) ⟨c1,hc1,?_⟩;conv=>whnf
 refine aF (fun hm=>?_) (fun hm=>?_)
 ·exact absurd (by rw[f8,hc1,iT (d:=45) hm]) h45
 conv=>whnf
 have hmi:decide (s.head?=some 45)=false:=cE h45;obtain⟨l,hlst⟩:∃l,l=s:=⟨_,rfl⟩;have hN:jP s=if e8 l=0∨(1<e8 l/\l.head?=some 48)∨(false=true/\j4 (l.take (e8 l))=0)∨17<=e8 l then(0,0) else((j4 (l.take (e8 l)):Int),0+e8 l):=by
  rw[hlst];unfold jP;simp only[hmi];rfl
 have hget:∀j:Nat,l[j]?=s[0+j]?:=fun j=>by rw[hlst];rw[bH]
 have hll:l.length=s.length - 0:=by rw[hlst];omega
 clear hlst;refine cW (fun j:Nat=>j<=e8 l) (fun j=>[(0,.s s),(1,.i .i64 0),(4,.i .i64 (j4 (l.take j):Nat)),(5,.i .i64 0),(6,.i .i64 (0+j:Nat)),(7,.b _),(8,.i .i64 (0:Nat))]) (fun _=>⟨[],0,[]⟩) (fun j=>17 - j) 0 (zL _) ⟨rfl,rfl,rfl,rfl,rfl,rfl,rfl,trivial⟩ rfl (fun j φ0 hj=>?_);have hj17:j<=17:=by unfold e8 at hj;omega
 have hjl:j<=l.length:=by
  have:=(gJ (l:=l) cL).length_le;unfold e8 at hj;omega
 have hdv:=RF j (l.take j) (by rw[bQ];omega) (KK hj);have hdv17:j4 (l.take j)<10^17:=cJ hdv (Nat.pow_le_pow_right (by decide) hj17);have hdv18:j4 (l.take j)<100000000000000000:=hdv17;have wj:IntKind.i64.wrap (((0+j:Nat):Int) - ((0:Nat):Int))=(j:Int):=by rw[bU (by omega) (by omega)];omega
 clear hdv hdv17;conv=>whnf
 refine aF (fun h1=>?lt) (fun h1=>?stop1)
 case' lt=>
  have h1':0+j<s.length:=by have:=aB h1;omega
  have hgi:s[0+j]?=some (s.getD (0+j) 0):=by rw[aO,gL h1'];rfl
  have hlj:l[j]?=some (s.getD (0+j) 0):=(hget j).trans hgi;generalize s.getD (0+j) 0=c at*;have hgi':s[((0+j:Nat):Int).toNat]?=some c:=by rw[aA];exact hgi
  have hcl:=bW c;conv=>whnf
  refine GNeed.mk (cN _) ⟨c,hgi',?_⟩;conv=>whnf
  refine aF (fun h2=>?ge) (fun h2=>?stop2)
  case' stop2=>
   have hend:=oH hj (.inr (fun d hd=>by rw[hlj] at hd;cases hd;have:=aC h2;simp[cL];omega));clear hgi' hlj hgi h1' h2 hcl
  case' ge=>
   (conv=>whnf);refine GNeed.mk (cN _) ⟨c,hgi',?_⟩;(conv=>whnf);refine aF (fun h3=>?le) (fun h3=>?stop3)
   case' stop3=>
    have hend:=oH hj (.inr (fun d hd=>by rw[hlj] at hd;cases hd;have:=aC h3;simp[cL];omega));clear hgi' hlj hgi h1' h2 h3 hcl
   case' le=>
    (conv=>whnf);refine aF (fun h4=>?go) (fun h4=>?stop4)
    case' stop4=>
     have hend:=oH hj (.inl (by have:=aC h4;rw[wj] at this;omega));clear hgi' hlj hgi h1' h2 h3 h4 hcl
    case' go=>
     have g2:=aB h2;have g3:=aB h3;have g4:=aB h4;rw[wj] at g4;have htk:l.take (j+1)=l.take j++[c]:=by rw[bR,hlj];rfl
     (conv=>whnf);refine GNeed.mk (cN _) ⟨c,hgi',?_⟩;(conv=>whnf);refine eP (j+1) (IK hj hlj (by simp[cL];omega) (by omega)) (by omega) ⟨rfl,rfl,?_,rfl,b7 (by omega),rfl,rfl,trivial⟩ rfl;refine aQ (GV.i .i64) ?_;rw[htk,tU];exact M1 _ _ hdv18 (by omega) (by omega)
 case' stop1=>
  have hend:=oH hj (.inr (fun d hd=>by have:=(List.getElem?_eq_some_iff.1 hd).1;have:=aC h1;omega))
 all_goals
  clear h1;subst hend;conv=>whnf
  refine aF (fun e1=>?_) (fun e1=>?_)<;>conv=>whnf
  ·have hk0:e8 l=0:=by have:=eq_of_beq e1;omega
   have hr:R=(0,0):=hR.trans (hN.trans (aG (.inl hk0)));cases hr;exact bC (.refl _) (fH (.cons (.i _ _) (.cons (.i _ _) .nil)))
  have hk0:¬e8 l=0:=fun h=>by rw[h] at e1;simp at e1
  refine aF (fun e2=>?_) (fun e2=>?_)<;>conv=>whnf
  ·have hk1:1<e8 l:=by have:=aB e2;rw[wj] at this;omega
   obtain⟨c0,hc0⟩:∃c0,l[0]?=some c0:=⟨l[0]'(by omega),gL (by omega)⟩;have hs0:s[((0:Nat):Int).toNat]?=some c0:=by rw[aA];exact(hget 0).symm.trans hc0
   refine GNeed.mk (cN _) ⟨c0,hs0,?_⟩;(conv=>whnf);refine aF (fun e3=>?_) (fun e3=>?_)<;>conv=>whnf
   ·have h48:l.head?=some 48:=by rw[f8,hc0,iT (d:=48) e3]
    have hr:R=(0,0):=hR.trans (hN.trans (aG (.inr (.inl ⟨hk1,h48⟩))));cases hr;exact bC (.refl _) (fH (.cons (.i _ _) (.cons (.i _ _) .nil)))
   have h48:¬l.head?=some 48:=fun h=>jO (d:=48) e3 (by rw[f8,hc0] at h;exact aY h);refine aF (fun hx=>absurd hx (by simp[*])) (fun _=>?_);(conv=>whnf);refine aF (fun e5=>?_) (fun e5=>?_)<;>conv=>whnf
   ·have h17:17<=e8 l:=by have:=aB e5;rw[wj] at this;omega
    have hr:R=(0,0):=hR.trans (hN.trans (aG (.inr (.inr (.inr h17)))));cases hr;exact bC (.refl _) (fH (.cons (.i _ _) (.cons (.i _ _) .nil)))
   ·have h17:¬17<=e8 l:=by have:=aC e5;rw[wj] at this;omega
    have hr:R=((j4 (l.take (e8 l)):Int),0+e8 l):=hR.trans (hN.trans (aD (fun h=>h.elim hk0 (fun h=>h.elim (fun h=>h48 h.2) (fun h=>h.elim (fun h=>by cases h.1) h17)))));cases hr;refine aF (fun hx=>absurd hx (by simp[*])) (fun _=>?_);(conv=>whnf);have w2:IntKind.i64.wrap (((0+e8 l:Nat):Int) - 0)=((0+e8 l:Nat):Int):=by rw[bU (by omega) (by omega)];omega
    refine bC (Wk.of_eq ?_) (fH (.cons (.i _ _) (.cons (.i _ _) .nil)));show GV.tup [.i .i64 ((j4 (l.take (e8 l)):Int)),.i .i64 (IntKind.i64.wrap (((0+e8 l:Nat):Int) - 0))]=_;rw[w2]
  have hk1:¬1<e8 l:=by have:=aC e2;rw[wj] at this;omega
  refine aF (fun hx=>absurd hx (by simp[*])) (fun _=>?_);conv=>whnf
  refine aF (fun e5=>?_) (fun e5=>?_)<;>conv=>whnf
  ·have h17:17<=e8 l:=by have:=aB e5;rw[wj] at this;omega
   have hr:R=(0,0):=hR.trans (hN.trans (aG (.inr (.inr (.inr h17)))));cases hr;exact bC (.refl _) (fH (.cons (.i _ _) (.cons (.i _ _) .nil)))
  ·have h17:¬17<=e8 l:=by have:=aC e5;rw[wj] at this;omega
   have hr:R=((j4 (l.take (e8 l)):Int),0+e8 l):=hR.trans (hN.trans (aD (fun h=>h.elim hk0 (fun h=>h.elim (fun h=>hk1 h.1) (fun h=>h.elim (fun h=>by cases h.1) h17)))));cases hr;refine aF (fun hx=>absurd hx (by simp[*])) (fun _=>?_);(conv=>whnf);have w2:IntKind.i64.wrap (((0+e8 l:Nat):Int) - 0)=((0+e8 l:Nat):Int):=by rw[bU (by omega) (by omega)];omega
   refine bC (Wk.of_eq ?_) (fH (.cons (.i _ _) (.cons (.i _ _) .nil)));show GV.tup [.i .i64 ((j4 (l.take (e8 l)):Int)),.i .i64 (IntKind.i64.wrap (((0+e8 l:Nat):Int) - 0))]=_;rw[w2]
theorem EW [MaxL] (s:List UInt8) (hs:s.length<bB):SC Tryz.prog 303 [.s s,.i .i64 0] [] (.val (.tup [.i .i64 (jP s).1,.i .i64 ((jP s).2:Nat)])) []:=by
 by_cases h45:s.head?=some 45
 ·exact SO s hs h45
 by_cases hne:s=[]
 ·subst hne;show SC _ _ _ _ (.val (.tup [.i .i64 0,.i .i64 (0:Nat)])) _;refine cX Tryz.func303 rfl ?_;conv=>whnf
  refine cW (fun _:Unit=>True) (fun _=>[(0,.s []),(1,.i .i64 0),(4,.i .i64 0),(5,.i .i64 0),(6,.i .i64 0),(7,.b false),(8,.i .i64 0)]) (fun _=>⟨[],0,[]⟩) (fun _=>0) () trivial ⟨rfl,rfl,rfl,rfl,rfl,rfl,rfl,trivial⟩ rfl (fun _ φ0 _=>?_);conv=>whnf
  exact bC (.refl _) (fun _=>rfl)
 ·exact SN s hs h45 hne
