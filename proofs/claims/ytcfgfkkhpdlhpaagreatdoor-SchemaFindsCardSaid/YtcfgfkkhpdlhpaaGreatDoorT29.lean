/-
  A part of the proof of SchemaFinds.
-/
import Derived.Test.YtcfgfkkhpdlhpaaGreatDoorT28
set_option linter.all false
set_option maxRecDepth 100000
namespace Go.Proofs.YtcfgfkkhpdlhpaaGreatDoor
open Go.RowKit
def jK (l:List UInt8):Nat:=l.foldl (fun a c=>10*a+(c.toNat - 48)) 0
theorem uA (l:List UInt8) (c:UInt8):jK (l++[c])=10*jK l+(c.toNat - 48):=by simp[jK]
def eK (l:List UInt8):Nat:=min 17 (l.takeWhile cR).length
def jW (s:List UInt8):Int×Nat:=
 let mi:=decide (s.head?=some 45);let l:=if mi then s.tail else s;let k:=eK l;let n:=jK (l.take k)
 if k=0∨(1<k/\l.head?=some 48)∨(mi=true/\n=0)∨17<=k then(0,0) else(if mi then -(n:Int) else n,(if mi then 1 else 0)+k)
theorem SJ:∀(k:Nat) (l:List UInt8),l.length<=k->(∀c∈l,cR c=true)->jK l<10^k:=by
 intro k;induction k with
 |zero=>intro l h _;have:l=[]:=aN (by omega);subst this;decide
 |succ k ih=>
  intro l h hd;rcases List.eq_nil_or_concat l with rfl|⟨l',c,rfl⟩
  ·exact Nat.pos_of_ne_zero (by simp)
  ·rw[List.concat_eq_append,uA];have h1:=ih l' (by simp at h;omega) (fun d hd'=>hd d (by simp[hd']));have h2:=hd c (by simp);simp[cR] at h2;rw[Nat.pow_succ];omega
theorem LA {l:List UInt8} {j:Nat} (h:j<=eK l):∀c∈l.take j,cR c=true:=fun c hc=>by
 have h1:j<=(l.takeWhile cR).length:=by unfold eK at h;omega
 have h2:l.take j<+:l.takeWhile cR:=by
  have:=gM (l:=l) cR;exact List.prefix_of_prefix_length_le (List.take_prefix j l) this (by rw[bN];omega)
 exact List.all_eq_true.1 (List.all_takeWhile (p:=cR) (l:=l)) c (h2.subset hc)
theorem J0 {l:List UInt8} {j:Nat} {c:UInt8} (hj:j<=eK l) (hc:l[j]?=some c) (hd:cR c=true) (h17:j<17):j+1<=eK l:=by
 have h1:j<=(l.takeWhile cR).length:=by unfold eK at hj;omega
 have:j<(l.takeWhile cR).length:=by
  rcases dX j (l.takeWhile cR).length with h|h
  ·exact h
  ·exfalso;have e:j=(l.takeWhile cR).length:=by omega
   have key:∀l:List UInt8,∀c,l[(l.takeWhile cR).length]?=some c->cR c=false:=by
    intro l;induction l with
    |nil=>intro c h;cases h
    |cons a l ih=>
     intro c h;rw[eU] at h;split at h
     ·simp at h;exact ih c h
     ·rename_i ha;simp at h;subst h;simpa using ha
   rw[e] at hc;rw[key l c hc] at hd;cases hd
 unfold eK;omega
theorem oS {l:List UInt8} {j:Nat} (hj:j<=eK l) (h:j=17∨(∀c,l[j]?=some c->cR c=false)):j=eK l:=by
 rcases h with h|h
 ·unfold eK at hj⊢;omega
 ·rcases dX j (eK l) with hlt|hge
  ·exfalso;have h1:j<(l.takeWhile cR).length:=by unfold eK at hlt;omega
   have h2:=gM (l:=l) cR;have h3:l[j]?=some (l.takeWhile cR)[j]:=by
    obtain⟨r,hr⟩:=h2;conv=>lhs;rw[<-hr]
    rw[aT h1,gL h1]
   have h4:=List.all_eq_true.1 (List.all_takeWhile (p:=cR) (l:=l)) _ (eI h1);rw[h _ h3] at h4;cases h4
  ·omega
theorem MP [MaxL] (n c:Nat) (hn:n<100000000000000000) (h1:48<=c) (h2:c<=57):IntKind.i64.wrap (IntKind.i64.wrap (10*(n:Int))+IntKind.i64.wrap (IntKind.u8.wrap ((c:Int) - 48)))=((10*n+(c - 48):Nat):Int):=by
 rw[YU (n:=(c:Int) - 48) (by omega) (by omega),cD (n:=(c:Int) - 48) (by omega) (by omega),cD (n:=10*(n:Int)) (by omega) (by omega),cD (by omega) (by omega)];omega
set_option maxHeartbeats 2000000 in
theorem TM [MaxL] (s:List UInt8) (hs:s.length<bH) (h45:s.head?=some 45):SC Tryz.prog 303 [.s s,.i .i64 0] [] (.val (.tup [.i .i64 (jW s).1,.i .i64 ((jW s).2:Nat)])) []:=by
 unfold bH at hs;obtain⟨R,hR⟩:∃R,R=jW s:=⟨_,rfl⟩;rw[<-hR];refine cZ Tryz.func303 rfl ?_;conv=>whnf
 have hg0:s[0]?=some 45:=by rw[<-f7];exact h45
 have hpos:0<s.length:=(List.getElem?_eq_some_iff.1 hg0).1;refine aF (fun _=>?_) (fun h0=>?_);rotate_left
 ·exfalso;have:=aB h0;omega
 conv=>whnf
 refine GNeed.mk (dN 0) ⟨45,hg0,?_⟩;conv=>whnf
 have hmi:decide (s.head?=some 45)=true:=bS h45;obtain⟨l,hlst⟩:∃l,l=s.tail:=⟨_,rfl⟩;have hN:jW s=if eK l=0∨(1<eK l/\l.head?=some 48)∨(true=true/\jK (l.take (eK l))=0)∨17<=eK l then(0,0) else(-(jK (l.take (eK l)):Int),1+eK l):=by
  rw[hlst];unfold jW;simp only[hmi];rfl
 have hget:∀j:Nat,l[j]?=s[1+j]?:=fun j=>by rw[hlst];rw[List.getElem?_tail,Nat.add_comm]
 have hll:l.length=s.length - 1:=by rw[hlst];rw[List.length_tail]
 clear hlst;refine dG (fun j:Nat=>j<=eK l) (fun j=>[(0,.s s),(1,.i .i64 0),(4,.i .i64 (jK (l.take j):Nat)),(5,.i .i64 0),(6,.i .i64 (1+j:Nat)),(7,.b true),(8,.i .i64 (1:Nat))]) (fun _=>⟨[],0,[]⟩) (fun j=>17 - j) 0 (zL _) ⟨rfl,rfl,rfl,rfl,rfl,rfl,rfl,trivial⟩ rfl (fun j φ0 hj=>?_);have hj17:j<=17:=by unfold eK at hj;omega
 have hjl:j<=l.length:=by
  have:=(gM (l:=l) cR).length_le;unfold eK at hj;omega
 have hdv:=SJ j (l.take j) (by rw[bN];omega) (LA hj);have hdv17:jK (l.take j)<10^17:=cT hdv (Nat.pow_le_pow_right (by decide) hj17);have hdv18:jK (l.take j)<100000000000000000:=hdv17;have wj:IntKind.i64.wrap (((1+j:Nat):Int) - ((1:Nat):Int))=(j:Int):=by rw[cD (by omega) (by omega)];omega
 clear hdv hdv17;conv=>whnf
 refine aF (fun h1=>?lt) (fun h1=>?stop1)
 case' lt=>
  have h1':1+j<s.length:=by have:=aA h1;omega
  have hgi:s[1+j]?=some (s.getD (1+j) 0):=by rw[aO,gL h1'];rfl
  have hlj:l[j]?=some (s.getD (1+j) 0):=(hget j).trans hgi;generalize s.getD (1+j) 0=c at*;have hgi':s[((1+j:Nat):Int).toNat]?=some c:=by rw[aC];exact hgi
  have hcl:=cJ c;conv=>whnf
  refine GNeed.mk (cN _) ⟨c,hgi',?_⟩;conv=>whnf
  refine aF (fun h2=>?ge) (fun h2=>?stop2)
  case' stop2=>
   have hend:=oS hj (.inr (fun d hd=>by rw[hlj] at hd;cases hd;have:=aB h2;simp[cR];omega));clear hgi' hlj hgi h1' h2 hcl
  case' ge=>
   (conv=>whnf);refine GNeed.mk (cN _) ⟨c,hgi',?_⟩;(conv=>whnf);refine aF (fun h3=>?le) (fun h3=>?stop3)
   case' stop3=>
    have hend:=oS hj (.inr (fun d hd=>by rw[hlj] at hd;cases hd;have:=aB h3;simp[cR];omega));clear hgi' hlj hgi h1' h2 h3 hcl
   case' le=>
    (conv=>whnf);refine aF (fun h4=>?go) (fun h4=>?stop4)
    case' stop4=>
     have hend:=oS hj (.inl (by have:=aB h4;rw[wj] at this;omega));clear hgi' hlj hgi h1' h2 h3 h4 hcl
    case' go=>
     have g2:=aA h2;have g3:=aA h3;have g4:=aA h4;rw[wj] at g4;have htk:l.take (j+1)=l.take j++[c]:=by rw[bR,hlj];rfl
     (conv=>whnf);refine GNeed.mk (cN _) ⟨c,hgi',?_⟩;(conv=>whnf);refine eQ (j+1) (J0 hj hlj (by simp[cR];omega) (by omega)) (by omega) ⟨rfl,rfl,?_,rfl,b8 (by omega),rfl,rfl,trivial⟩ rfl;refine aQ (GV.i .i64) ?_;rw[htk,uA];exact MP _ _ hdv18 (by omega) (by omega)
 case' stop1=>
  have hend:=oS hj (.inr (fun d hd=>by have:=(List.getElem?_eq_some_iff.1 hd).1;have:=aB h1;omega))
 all_goals
  clear h1;subst hend;conv=>whnf
  refine aF (fun e1=>?_) (fun e1=>?_)<;>conv=>whnf
  ·have hk0:eK l=0:=by have:=eq_of_beq e1;omega
   have hr:R=(0,0):=hR.trans (hN.trans (aG (.inl hk0)));cases hr;exact bA (.refl _) (fJ (.cons (.i _ _) (.cons (.i _ _) .nil)))
  have hk0:¬eK l=0:=fun h=>by rw[h] at e1;simp at e1
  refine aF (fun e2=>?_) (fun e2=>?_)<;>conv=>whnf
  ·have hk1:1<eK l:=by have:=aA e2;rw[wj] at this;omega
   obtain⟨c0,hc0⟩:∃c0,l[0]?=some c0:=⟨l[0]'(by omega),gL (by omega)⟩;have hs0:s[((1:Nat):Int).toNat]?=some c0:=by rw[aC];exact(hget 0).symm.trans hc0
   refine GNeed.mk (cN _) ⟨c0,hs0,?_⟩;(conv=>whnf);refine aF (fun e3=>?_) (fun e3=>?_)<;>conv=>whnf
   ·have h48:l.head?=some 48:=by rw[f7,hc0,j2 (d:=48) e3]
    have hr:R=(0,0):=hR.trans (hN.trans (aG (.inr (.inl ⟨hk1,h48⟩))));cases hr;exact bA (.refl _) (fJ (.cons (.i _ _) (.cons (.i _ _) .nil)))
   have h48:¬l.head?=some 48:=fun h=>jV (d:=48) e3 (by rw[f7,hc0] at h;exact aY h);refine aF (fun e4=>?_) (fun e4=>?_)<;>conv=>whnf
   ·have hn0:jK (l.take (eK l))=0:=by have:=eq_of_beq e4;omega
    have hr:R=(0,0):=hR.trans (hN.trans (aG (.inr (.inr (.inl ⟨rfl,hn0⟩)))));cases hr;exact bA (.refl _) (fJ (.cons (.i _ _) (.cons (.i _ _) .nil)))
   ·have hn0:¬jK (l.take (eK l))=0:=fun h=>by rw[h] at e4;cases e4
    refine aF (fun e5=>?_) (fun e5=>?_)<;>conv=>whnf
    ·have h17:17<=eK l:=by have:=aA e5;rw[wj] at this;omega
     have hr:R=(0,0):=hR.trans (hN.trans (aG (.inr (.inr (.inr h17)))));cases hr;exact bA (.refl _) (fJ (.cons (.i _ _) (.cons (.i _ _) .nil)))
    ·have h17:¬17<=eK l:=by have:=aB e5;rw[wj] at this;omega
     have hr:R=(-(jK (l.take (eK l)):Int),1+eK l):=hR.trans (hN.trans (aE (fun h=>h.elim hk0 (fun h=>h.elim (fun h=>h48 h.2) (fun h=>h.elim (fun h=>hn0 h.2) h17)))));cases hr;have w2:IntKind.i64.wrap (((1+eK l:Nat):Int) - 0)=((1+eK l:Nat):Int):=by rw[cD (by omega) (by omega)];omega
     have w3:IntKind.i64.wrap (0 - (jK (l.take (eK l)):Int))= -(jK (l.take (eK l)):Int):=by rw[cD (by omega) (by omega)];omega
     refine bA (Wk.of_eq ?_) (fJ (.cons (.i _ _) (.cons (.i _ _) .nil)));show GV.tup [.i .i64 (IntKind.i64.wrap (0 - (jK (l.take (eK l)):Int))),.i .i64 (IntKind.i64.wrap (((1+eK l:Nat):Int) - 0))]=_;rw[w2,w3]
  have hk1:¬1<eK l:=by have:=aB e2;rw[wj] at this;omega
  refine aF (fun e4=>?_) (fun e4=>?_)<;>conv=>whnf
  ·have hn0:jK (l.take (eK l))=0:=by have:=eq_of_beq e4;omega
   have hr:R=(0,0):=hR.trans (hN.trans (aG (.inr (.inr (.inl ⟨rfl,hn0⟩)))));cases hr;exact bA (.refl _) (fJ (.cons (.i _ _) (.cons (.i _ _) .nil)))
  ·have hn0:¬jK (l.take (eK l))=0:=fun h=>by rw[h] at e4;cases e4
   refine aF (fun e5=>?_) (fun e5=>?_)<;>conv=>whnf
   ·have h17:17<=eK l:=by have:=aA e5;rw[wj] at this;omega
    have hr:R=(0,0):=hR.trans (hN.trans (aG (.inr (.inr (.inr h17)))));cases hr;exact bA (.refl _) (fJ (.cons (.i _ _) (.cons (.i _ _) .nil)))
   ·have h17:¬17<=eK l:=by have:=aB e5;rw[wj] at this;omega
    have hr:R=(-(jK (l.take (eK l)):Int),1+eK l):=hR.trans (hN.trans (aE (fun h=>h.elim hk0 (fun h=>h.elim (fun h=>hk1 h.1) (fun h=>h.elim (fun h=>hn0 h.2) h17)))));cases hr;have w2:IntKind.i64.wrap (((1+eK l:Nat):Int) - 0)=((1+eK l:Nat):Int):=by rw[cD (by omega) (by omega)];omega
    have w3:IntKind.i64.wrap (0 - (jK (l.take (eK l)):Int))= -(jK (l.take (eK l)):Int):=by rw[cD (by omega) (by omega)];omega
    refine bA (Wk.of_eq ?_) (fJ (.cons (.i _ _) (.cons (.i _ _) .nil)));show GV.tup [.i .i64 (IntKind.i64.wrap (0 - (jK (l.take (eK l)):Int))),.i .i64 (IntKind.i64.wrap (((1+eK l:Nat):Int) - 0))]=_;rw[w2,w3]
set_option maxHeartbeats 2000000 in
theorem TK [MaxL] (s:List UInt8) (hs:s.length<bH) (h45:¬s.head?=some 45) (hne:s≠[]):SC Tryz.prog 303 [.s s,.i .i64 0] [] (.val (.tup [.i .i64 (jW s).1,.i .i64 ((jW s).2:Nat)])) []:=by
 unfold bH at hs;obtain⟨R,hR⟩:∃R,R=jW s:=⟨_,rfl⟩;rw[<-hR];refine cZ Tryz.func303 rfl ?_;conv=>whnf
 obtain⟨c1,hc1⟩:∃c1,s[0]?=some c1:=by
  obtain⟨c,t,rfl⟩:=cV hne;exact⟨c,rfl⟩
 have hpos:0<s.length:=List.length_pos_iff.2 hne;refine aF (fun h0=>?_) (fun h0=>?_);rotate_left
 ·exfalso;have:=aB h0;omega
 conv=>whnf
 refine GNeed.mk (dN 0) ⟨c1,hc1,?_⟩;conv=>whnf
 refine aF (fun hm=>?_) (fun hm=>?_)
 ·exact absurd (by rw[f7,hc1,j2 (d:=45) hm]) h45
 conv=>whnf
 have hmi:decide (s.head?=some 45)=false:=cW h45;obtain⟨l,hlst⟩:∃l,l=s:=⟨_,rfl⟩;have hN:jW s=if eK l=0∨(1<eK l/\l.head?=some 48)∨(false=true/\jK (l.take (eK l))=0)∨17<=eK l then(0,0) else((jK (l.take (eK l)):Int),0+eK l):=by
  rw[hlst];unfold jW;simp only[hmi];rfl
 have hget:∀j:Nat,l[j]?=s[0+j]?:=fun j=>by rw[hlst];rw[bB]
 have hll:l.length=s.length - 0:=by rw[hlst];omega
 clear hlst;refine dG (fun j:Nat=>j<=eK l) (fun j=>[(0,.s s),(1,.i .i64 0),(4,.i .i64 (jK (l.take j):Nat)),(5,.i .i64 0),(6,.i .i64 (0+j:Nat)),(7,.b _),(8,.i .i64 (0:Nat))]) (fun _=>⟨[],0,[]⟩) (fun j=>17 - j) 0 (zL _) ⟨rfl,rfl,rfl,rfl,rfl,rfl,rfl,trivial⟩ rfl (fun j φ0 hj=>?_);have hj17:j<=17:=by unfold eK at hj;omega
 have hjl:j<=l.length:=by
  have:=(gM (l:=l) cR).length_le;unfold eK at hj;omega
 have hdv:=SJ j (l.take j) (by rw[bN];omega) (LA hj);have hdv17:jK (l.take j)<10^17:=cT hdv (Nat.pow_le_pow_right (by decide) hj17);have hdv18:jK (l.take j)<100000000000000000:=hdv17;have wj:IntKind.i64.wrap (((0+j:Nat):Int) - ((0:Nat):Int))=(j:Int):=by rw[cD (by omega) (by omega)];omega
 clear hdv hdv17;conv=>whnf
 refine aF (fun h1=>?lt) (fun h1=>?stop1)
 case' lt=>
  have h1':0+j<s.length:=by have:=aA h1;omega
  have hgi:s[0+j]?=some (s.getD (0+j) 0):=by rw[aO,gL h1'];rfl
  have hlj:l[j]?=some (s.getD (0+j) 0):=(hget j).trans hgi;generalize s.getD (0+j) 0=c at*;have hgi':s[((0+j:Nat):Int).toNat]?=some c:=by rw[aC];exact hgi
  have hcl:=cJ c;conv=>whnf
  refine GNeed.mk (cN _) ⟨c,hgi',?_⟩;conv=>whnf
  refine aF (fun h2=>?ge) (fun h2=>?stop2)
  case' stop2=>
   have hend:=oS hj (.inr (fun d hd=>by rw[hlj] at hd;cases hd;have:=aB h2;simp[cR];omega));clear hgi' hlj hgi h1' h2 hcl
  case' ge=>
   (conv=>whnf);refine GNeed.mk (cN _) ⟨c,hgi',?_⟩;(conv=>whnf);refine aF (fun h3=>?le) (fun h3=>?stop3)
   case' stop3=>
    have hend:=oS hj (.inr (fun d hd=>by rw[hlj] at hd;cases hd;have:=aB h3;simp[cR];omega));clear hgi' hlj hgi h1' h2 h3 hcl
   case' le=>
    (conv=>whnf);refine aF (fun h4=>?go) (fun h4=>?stop4)
    case' stop4=>
     have hend:=oS hj (.inl (by have:=aB h4;rw[wj] at this;omega));clear hgi' hlj hgi h1' h2 h3 h4 hcl
    case' go=>
     have g2:=aA h2;have g3:=aA h3;have g4:=aA h4;rw[wj] at g4;have htk:l.take (j+1)=l.take j++[c]:=by rw[bR,hlj];rfl
     (conv=>whnf);refine GNeed.mk (cN _) ⟨c,hgi',?_⟩;(conv=>whnf);refine eQ (j+1) (J0 hj hlj (by simp[cR];omega) (by omega)) (by omega) ⟨rfl,rfl,?_,rfl,b8 (by omega),rfl,rfl,trivial⟩ rfl;refine aQ (GV.i .i64) ?_;rw[htk,uA];exact MP _ _ hdv18 (by omega) (by omega)
 case' stop1=>
  have hend:=oS hj (.inr (fun d hd=>by have:=(List.getElem?_eq_some_iff.1 hd).1;have:=aB h1;omega))
 all_goals
  clear h1;subst hend;conv=>whnf
  refine aF (fun e1=>?_) (fun e1=>?_)<;>conv=>whnf
  ·have hk0:eK l=0:=by have:=eq_of_beq e1;omega
   have hr:R=(0,0):=hR.trans (hN.trans (aG (.inl hk0)));cases hr;exact bA (.refl _) (fJ (.cons (.i _ _) (.cons (.i _ _) .nil)))
  have hk0:¬eK l=0:=fun h=>by rw[h] at e1;simp at e1
  refine aF (fun e2=>?_) (fun e2=>?_)<;>conv=>whnf
  ·have hk1:1<eK l:=by have:=aA e2;rw[wj] at this;omega
   obtain⟨c0,hc0⟩:∃c0,l[0]?=some c0:=⟨l[0]'(by omega),gL (by omega)⟩;have hs0:s[((0:Nat):Int).toNat]?=some c0:=by rw[aC];exact(hget 0).symm.trans hc0
   refine GNeed.mk (cN _) ⟨c0,hs0,?_⟩;(conv=>whnf);refine aF (fun e3=>?_) (fun e3=>?_)<;>conv=>whnf
   ·have h48:l.head?=some 48:=by rw[f7,hc0,j2 (d:=48) e3]
    have hr:R=(0,0):=hR.trans (hN.trans (aG (.inr (.inl ⟨hk1,h48⟩))));cases hr;exact bA (.refl _) (fJ (.cons (.i _ _) (.cons (.i _ _) .nil)))
   have h48:¬l.head?=some 48:=fun h=>jV (d:=48) e3 (by rw[f7,hc0] at h;exact aY h);refine aF (fun hx=>absurd hx (by simp[*])) (fun _=>?_);(conv=>whnf);refine aF (fun e5=>?_) (fun e5=>?_)<;>conv=>whnf
   ·have h17:17<=eK l:=by have:=aA e5;rw[wj] at this;omega
    have hr:R=(0,0):=hR.trans (hN.trans (aG (.inr (.inr (.inr h17)))));cases hr;exact bA (.refl _) (fJ (.cons (.i _ _) (.cons (.i _ _) .nil)))
   ·have h17:¬17<=eK l:=by have:=aB e5;rw[wj] at this;omega
    have hr:R=((jK (l.take (eK l)):Int),0+eK l):=hR.trans (hN.trans (aE (fun h=>h.elim hk0 (fun h=>h.elim (fun h=>h48 h.2) (fun h=>h.elim (fun h=>by cases h.1) h17)))));cases hr;refine aF (fun hx=>absurd hx (by simp[*])) (fun _=>?_);(conv=>whnf);have w2:IntKind.i64.wrap (((0+eK l:Nat):Int) - 0)=((0+eK l:Nat):Int):=by rw[cD (by omega) (by omega)];omega
    refine bA (Wk.of_eq ?_) (fJ (.cons (.i _ _) (.cons (.i _ _) .nil)));show GV.tup [.i .i64 ((jK (l.take (eK l)):Int)),.i .i64 (IntKind.i64.wrap (((0+eK l:Nat):Int) - 0))]=_;rw[w2]
  have hk1:¬1<eK l:=by have:=aB e2;rw[wj] at this;omega
  refine aF (fun hx=>absurd hx (by simp[*])) (fun _=>?_);conv=>whnf
  refine aF (fun e5=>?_) (fun e5=>?_)<;>conv=>whnf
  ·have h17:17<=eK l:=by have:=aA e5;rw[wj] at this;omega
   have hr:R=(0,0):=hR.trans (hN.trans (aG (.inr (.inr (.inr h17)))));cases hr;exact bA (.refl _) (fJ (.cons (.i _ _) (.cons (.i _ _) .nil)))
  ·have h17:¬17<=eK l:=by have:=aB e5;rw[wj] at this;omega
   have hr:R=((jK (l.take (eK l)):Int),0+eK l):=hR.trans (hN.trans (aE (fun h=>h.elim hk0 (fun h=>h.elim (fun h=>hk1 h.1) (fun h=>h.elim (fun h=>by cases h.1) h17)))));cases hr;refine aF (fun hx=>absurd hx (by simp[*])) (fun _=>?_);(conv=>whnf);have w2:IntKind.i64.wrap (((0+eK l:Nat):Int) - 0)=((0+eK l:Nat):Int):=by rw[cD (by omega) (by omega)];omega
   refine bA (Wk.of_eq ?_) (fJ (.cons (.i _ _) (.cons (.i _ _) .nil)));show GV.tup [.i .i64 ((jK (l.take (eK l)):Int)),.i .i64 (IntKind.i64.wrap (((0+eK l:Nat):Int) - 0))]=_;rw[w2]
theorem F6 [MaxL] (s:List UInt8) (hs:s.length<bH):SC Tryz.prog 303 [.s s,.i .i64 0] [] (.val (.tup [.i .i64 (jW s).1,.i .i64 ((jW s).2:Nat)])) []:=by
 by_cases h45:s.head?=some 45
 ·exact TM s hs h45
 by_cases hne:s=[]
 ·subst hne;show SC _ _ _ _ (.val (.tup [.i .i64 0,.i .i64 (0:Nat)])) _;refine cZ Tryz.func303 rfl ?_;conv=>whnf
  refine dG (fun _:Unit=>True) (fun _=>[(0,.s []),(1,.i .i64 0),(4,.i .i64 0),(5,.i .i64 0),(6,.i .i64 0),(7,.b false),(8,.i .i64 0)]) (fun _=>⟨[],0,[]⟩) (fun _=>0) () trivial ⟨rfl,rfl,rfl,rfl,rfl,rfl,rfl,trivial⟩ rfl (fun _ φ0 _=>?_);conv=>whnf
  exact bA (.refl _) (fun _=>rfl)
 ·exact TK s hs h45 hne
