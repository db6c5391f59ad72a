/- Part of ViewWrong. -/
import Derived.Test.YtimgfjldcdhejaaGreatDoorK18
set_option linter.all false
set_option maxRecDepth 100000
namespace Go.Proofs.YtimgfjldcdhejaaGreatDoor
open Go.RowKit
def lO (l:List UInt8):Nat:=l.foldl (fun a c=>10*a+(c.toNat - 48)) 0
theorem xF (l:List UInt8) (c:UInt8):lO (l++[c])=10*lO l+(c.toNat - 48):=by simp[lO]
def fW (l:List UInt8):Nat:=min 17 (l.takeWhile cY).length
def kQ (s:List UInt8):Int×Nat:=
 let mi:=decide (s.head?=some 45);let l:=if mi then s.tail else s;let k:=fW l;let n:=lO (l.take k)
 if k=0∨(1<k/\l.head?=some 48)∨(mi=true/\n=0)∨17<=k then(0,0) else(if mi then -(n:Int) else n,(if mi then 1 else 0)+k)
theorem Y2:∀(k:Nat) (l:List UInt8),l.length<=k->(∀c∈l,cY c=true)->lO l<10^k:=by
 intro k;induction k with
 |zero=>intro l h _;have:l=[]:=aM (by omega);subst this;decide
 |succ k ih=>
  intro l h hd;rcases List.eq_nil_or_concat l with rfl|⟨l',c,rfl⟩
  ·exact Nat.pos_of_ne_zero (by simp)
  ·rw[List.concat_eq_append,xF];have h1:=ih l' (by simp at h;omega) (fun d hd'=>hd d (by simp[hd']));have h2:=hd c (by simp);simp[cY] at h2;rw[Nat.pow_succ];omega
theorem PK {l:List UInt8} {j:Nat} (h:j<=fW l):∀c∈l.take j,cY c=true:=fun c hc=>by
 have h1:j<=(l.takeWhile cY).length:=by unfold fW at h;omega
 have h2:l.take j<+:l.takeWhile cY:=by
  have:=gW (l:=l) cY;exact List.prefix_of_prefix_length_le (List.take_prefix j l) this (by rw[aS];omega)
 exact List.all_eq_true.1 (List.all_takeWhile (p:=cY) (l:=l)) c (h2.subset hc)
theorem NA {l:List UInt8} {j:Nat} {c:UInt8} (hj:j<=fW l) (hc:l[j]?=some c) (hd:cY c=true) (h17:j<17):j+1<=fW l:=by
 have h1:j<=(l.takeWhile cY).length:=by unfold fW at hj;omega
 have:j<(l.takeWhile cY).length:=by
  rcases eO j (l.takeWhile cY).length with h|h
  ·exact h
  ·exfalso;have e:j=(l.takeWhile cY).length:=by omega
   have key:∀l:List UInt8,∀c,l[(l.takeWhile cY).length]?=some c->cY c=false:=by
    intro l;induction l with
    |nil=>intro c h;cases h
    |cons a l ih=>
     intro c h;rw[gS] at h;split at h
     ·simp at h;exact ih c h
     ·rename_i ha;simp at h;subst h;simpa using ha
   rw[e] at hc;rw[key l c hc] at hd;cases hd
 unfold fW;omega
theorem s5 {l:List UInt8} {j:Nat} (hj:j<=fW l) (h:j=17∨(∀c,l[j]?=some c->cY c=false)):j=fW l:=by
 rcases h with h|h
 ·unfold fW at hj⊢;omega
 ·rcases eO j (fW l) with hlt|hge
  ·exfalso;have h1:j<(l.takeWhile cY).length:=by unfold fW at hlt;omega
   have h2:=gW (l:=l) cY;have h3:l[j]?=some (l.takeWhile cY)[j]:=by
    obtain⟨r,hr⟩:=h2;conv=>lhs;rw[<-hr]
    rw[b7 h1,gL h1]
   have h4:=List.all_eq_true.1 (List.all_takeWhile (p:=cY) (l:=l)) _ (dX h1);rw[h _ h3] at h4;cases h4
  ·omega
theorem R2 [MaxL] (n c:Nat) (hn:n<100000000000000000) (h1:48<=c) (h2:c<=57):IntKind.i64.wrap (IntKind.i64.wrap (10*(n:Int))+IntKind.i64.wrap (IntKind.u8.wrap ((c:Int) - 48)))=((10*n+(c - 48):Nat):Int):=by
 rw[a3Y (n:=(c:Int) - 48) (by omega) (by omega),dB (n:=(c:Int) - 48) (by omega) (by omega),dB (n:=10*(n:Int)) (by omega) (by omega),dB (by omega) (by omega)];omega
set_option maxHeartbeats 2000000 in
theorem Z9 [MaxL] (s:List UInt8) (hs:s.length<b9) (h45:s.head?=some 45):SC Tryz.prog 277 [.s s,.i .i64 0] [] (.val (.tup [.i .i64 (kQ s).1,.i .i64 ((kQ s).2:Nat)])) []:=by
 unfold b9 at hs;obtain⟨R,hR⟩:∃R,R=kQ s:=⟨_,rfl⟩;rw[<-hR];have no:R=(0,0)->∀{a:GS},Owes [] (.val (.tup [.i .i64 R.1,.i .i64 (R.2:Nat)])) [] (.val (.tup [.i .i64 0,.i .i64 0])) a:=fun h=>by
  cases h;exact oW
 refine cO Tryz.func277 rfl ?_;conv=>whnf
 have hg0:s[0]?=some 45:=by rw[<-fZ];exact h45
 have hpos:0<s.length:=(List.getElem?_eq_some_iff.1 hg0).1;refine bZ (fun _=>?_) (fun h0=>?_);rotate_left
 ·exfalso;have:=aA h0;omega
 conv=>whnf
 refine GNeed.mk (eU 0) ⟨45,hg0,?_⟩;conv=>whnf
 have hmi:decide (s.head?=some 45)=true:=bC h45;obtain⟨l,hlst⟩:∃l,l=s.tail:=⟨_,rfl⟩;have hN:kQ s=if fW l=0∨(1<fW l/\l.head?=some 48)∨(true=true/\lO (l.take (fW l))=0)∨17<=fW l then(0,0) else(-(lO (l.take (fW l)):Int),1+fW l):=by
  rw[hlst];unfold kQ;simp only[hmi];rfl
 have hget:∀j:Nat,l[j]?=s[1+j]?:=fun j=>by rw[hlst];rw[List.getElem?_tail,Nat.add_comm]
 have hll:l.length=s.length - 1:=by rw[hlst];rw[List.length_tail]
 clear hlst;refine dD (fun j:Nat=>j<=fW l) (fun j=>[(0,.s s),(1,.i .i64 0),(4,.i .i64 (lO (l.take j):Nat)),(5,.i .i64 0),(6,.i .i64 (1+j:Nat)),(7,.b true),(8,.i .i64 (1:Nat))]) (fun _=>⟨[],0,[]⟩) (fun j=>17 - j) 0 (zL _) ⟨rfl,rfl,rfl,rfl,rfl,rfl,rfl,trivial⟩ rfl (fun j φ0 hj=>?_);have hj17:j<=17:=by unfold fW at hj;omega
 have hjl:j<=l.length:=by
  have:=(gW (l:=l) cY).length_le;unfold fW at hj;omega
 have hdv:=Y2 j (l.take j) (by rw[aS];omega) (PK hj);have hdv17:lO (l.take j)<10^17:=cI hdv (Nat.pow_le_pow_right (by decide) hj17);have hdv18:lO (l.take j)<100000000000000000:=hdv17;have wj:IntKind.i64.wrap (((1+j:Nat):Int) - ((1:Nat):Int))=(j:Int):=by rw[dB (by omega) (by omega)];omega
 clear hdv hdv17;conv=>whnf
 refine bZ (fun h1=>?lt) (fun h1=>?stop1)
 case' lt=>
  have h1':1+j<s.length:=by have:=aB h1;omega
  have hgi:s[1+j]?=some (s.getD (1+j) 0):=by rw[aO,gL h1'];rfl
  have hlj:l[j]?=some (s.getD (1+j) 0):=(hget j).trans hgi;generalize s.getD (1+j) 0=c at*;have hgi':s[((1+j:Nat):Int).toNat]?=some c:=by rw[aL];exact hgi
  have hcl:=cV c;conv=>whnf
  refine GNeed.mk (jR _) ⟨c,hgi',?_⟩;conv=>whnf
  refine bZ (fun h2=>?ge) (fun h2=>?stop2)
  case' stop2=>
   have hend:=s5 hj (.inr (fun d hd=>by rw[hlj] at hd;cases hd;have:=aA h2;simp[cY];omega));clear hgi' hlj hgi h1' h2 hcl
  case' ge=>
   (conv=>whnf);refine GNeed.mk (jR _) ⟨c,hgi',?_⟩;(conv=>whnf);refine bZ (fun h3=>?le) (fun h3=>?stop3)
   case' stop3=>
    have hend:=s5 hj (.inr (fun d hd=>by rw[hlj] at hd;cases hd;have:=aA h3;simp[cY];omega));clear hgi' hlj hgi h1' h2 h3 hcl
   case' le=>
    (conv=>whnf);refine bZ (fun h4=>?go) (fun h4=>?stop4)
    case' stop4=>
     have hend:=s5 hj (.inl (by have:=aA h4;rw[wj] at this;omega));clear hgi' hlj hgi h1' h2 h3 h4 hcl
    case' go=>
     have g2:=aB h2;have g3:=aB h3;have g4:=aB h4;rw[wj] at g4;have htk:l.take (j+1)=l.take j++[c]:=by rw[aT,hlj];rfl
     (conv=>whnf);refine GNeed.mk (jR _) ⟨c,hgi',?_⟩;(conv=>whnf);refine fR (j+1) (NA hj hlj (by simp[cY];omega) (by omega)) (by omega) ⟨rfl,rfl,?_,rfl,bH (by omega),rfl,rfl,trivial⟩ rfl;refine aR (GV.i .i64) ?_;rw[htk,xF];exact R2 _ _ hdv18 (by omega) (by omega)
 case' stop1=>
  have hend:=s5 hj (.inr (fun d hd=>by have:=(List.getElem?_eq_some_iff.1 hd).1;have:=aA h1;omega))
 all_goals
  clear h1;subst hend;conv=>whnf
  apply gM<;>intro e1<;>conv=>whnf
  ·exact no (hR.trans (hN.trans (aD (.inl (by have:=eq_of_beq e1;omega)))))
  have hk0:¬fW l=0:=fun h=>by rw[h] at e1;simp at e1
  apply bZ<;>intro e2
  case' yes=>
   (conv=>whnf);have hk1:1<fW l:=by have:=aB e2;rw[wj] at this;omega
   obtain⟨c0,hc0⟩:∃c0,l[0]?=some c0:=⟨l[0]'(by omega),gL (by omega)⟩;have hs0:s[((1:Nat):Int).toNat]?=some c0:=by rw[aL];exact(hget 0).symm.trans hc0
   refine GNeed.mk (jR _) ⟨c0,hs0,?_⟩;(conv=>whnf);apply bZ<;>intro e3
   case yes=>
    (conv=>whnf);exact no (hR.trans (hN.trans (aD (.inr (.inl ⟨hk1,by rw[fZ,hc0,mO (d:=48) e3]⟩)))))
   have h48:¬(1<fW l/\l.head?=some 48):=fun h=>o9 (d:=48) e3 (by have h:=h.2;rw[fZ,hc0] at h;exact bA h)
  case' no=>have h48:¬(1<fW l/\l.head?=some 48):=fun h=>by have h:=h.1;have:=aA e2;rw[wj] at this;omega
  all_goals
   (conv=>whnf);apply gM<;>intro e4<;>conv=>whnf
   ·exact no (hR.trans (hN.trans (aD (.inr (.inr (.inl ⟨rfl,by have:=eq_of_beq e4;omega⟩))))))
   have hn0:¬lO (l.take (fW l))=0:=fun h=>by rw[h] at e4;cases e4
   apply gM<;>intro e5<;>conv=>whnf
   ·exact no (hR.trans (hN.trans (aD (.inr (.inr (.inr (by have:=aB e5;rw[wj] at this;omega)))))))
   have h17:¬17<=fW l:=by have:=aA e5;rw[wj] at this;omega
   have hr:R=(-(lO (l.take (fW l)):Int),1+fW l):=hR.trans (hN.trans (aC (fun h=>h.elim hk0 (fun h=>h.elim h48 (fun h=>h.elim (fun h=>hn0 h.2) h17)))));cases hr;have w2:IntKind.i64.wrap (((1+fW l:Nat):Int) - 0)=((1+fW l:Nat):Int):=by rw[dB (by omega) (by omega)];omega
   have w3:IntKind.i64.wrap (0 - (lO (l.take (fW l)):Int))= -(lO (l.take (fW l)):Int):=by rw[dB (by omega) (by omega)];omega
   refine cZ (Wk.of_eq ?_) (i8 (.cons (.i _ _) (.cons (.i _ _) .nil)));show GV.tup [.i .i64 (IntKind.i64.wrap (0 - (lO (l.take (fW l)):Int))),.i .i64 (IntKind.i64.wrap (((1+fW l:Nat):Int) - 0))]=_;rw[w2,w3]
set_option maxHeartbeats 2000000 in
theorem Z8 [MaxL] (s:List UInt8) (hs:s.length<b9) (h45:¬s.head?=some 45) (hne:s≠[]):SC Tryz.prog 277 [.s s,.i .i64 0] [] (.val (.tup [.i .i64 (kQ s).1,.i .i64 ((kQ s).2:Nat)])) []:=by
 unfold b9 at hs;obtain⟨R,hR⟩:∃R,R=kQ s:=⟨_,rfl⟩;rw[<-hR];have no:R=(0,0)->∀{a:GS},Owes [] (.val (.tup [.i .i64 R.1,.i .i64 (R.2:Nat)])) [] (.val (.tup [.i .i64 0,.i .i64 0])) a:=fun h=>by
  cases h;exact oW
 refine cO Tryz.func277 rfl ?_;conv=>whnf
 obtain⟨c1,hc1⟩:∃c1,s[0]?=some c1:=by
  obtain⟨c,t,rfl⟩:=iI hne;exact⟨c,rfl⟩
 have hpos:0<s.length:=List.length_pos_iff.2 hne;refine bZ (fun h0=>?_) (fun h0=>?_);rotate_left
 ·exfalso;have:=aA h0;omega
 conv=>whnf
 refine GNeed.mk (eU 0) ⟨c1,hc1,?_⟩;conv=>whnf
 refine bZ (fun hm=>?_) (fun hm=>?_)
 ·exact absurd (by rw[fZ,hc1,mO (d:=45) hm]) h45
 conv=>whnf
 have hmi:decide (s.head?=some 45)=false:=bN h45;obtain⟨l,hlst⟩:∃l,l=s:=⟨_,rfl⟩;have hN:kQ s=if fW l=0∨(1<fW l/\l.head?=some 48)∨(false=true/\lO (l.take (fW l))=0)∨17<=fW l then(0,0) else((lO (l.take (fW l)):Int),0+fW l):=by
  rw[hlst];unfold kQ;simp only[hmi];rfl
 have hget:∀j:Nat,l[j]?=s[0+j]?:=fun j=>by rw[hlst];rw[bI]
 have hll:l.length=s.length - 0:=by rw[hlst];omega
 clear hlst;refine dD (fun j:Nat=>j<=fW l) (fun j=>[(0,.s s),(1,.i .i64 0),(4,.i .i64 (lO (l.take j):Nat)),(5,.i .i64 0),(6,.i .i64 (0+j:Nat)),(7,.b _),(8,.i .i64 (0:Nat))]) (fun _=>⟨[],0,[]⟩) (fun j=>17 - j) 0 (zL _) ⟨rfl,rfl,rfl,rfl,rfl,rfl,rfl,trivial⟩ rfl (fun j φ0 hj=>?_);have hj17:j<=17:=by unfold fW at hj;omega
 have hjl:j<=l.length:=by
  have:=(gW (l:=l) cY).length_le;unfold fW at hj;omega
 have hdv:=Y2 j (l.take j) (by rw[aS];omega) (PK hj);have hdv17:lO (l.take j)<10^17:=cI hdv (Nat.pow_le_pow_right (by decide) hj17);have hdv18:lO (l.take j)<100000000000000000:=hdv17;have wj:IntKind.i64.wrap (((0+j:Nat):Int) - ((0:Nat):Int))=(j:Int):=by rw[dB (by omega) (by omega)];omega
 clear hdv hdv17;conv=>whnf
 refine bZ (fun h1=>?lt) (fun h1=>?stop1)
 case' lt=>
  have h1':0+j<s.length:=by have:=aB h1;omega
  have hgi:s[0+j]?=some (s.getD (0+j) 0):=by rw[aO,gL h1'];rfl
  have hlj:l[j]?=some (s.getD (0+j) 0):=(hget j).trans hgi;generalize s.getD (0+j) 0=c at*;have hgi':s[((0+j:Nat):Int).toNat]?=some c:=by rw[aL];exact hgi
  have hcl:=cV c;conv=>whnf
  refine GNeed.mk (jR _) ⟨c,hgi',?_⟩;conv=>whnf
  refine bZ (fun h2=>?ge) (fun h2=>?stop2)
  case' stop2=>
   have hend:=s5 hj (.inr (fun d hd=>by rw[hlj] at hd;cases hd;have:=aA h2;simp[cY];omega));clear hgi' hlj hgi h1' h2 hcl
  case' ge=>
   (conv=>whnf);refine GNeed.mk (jR _) ⟨c,hgi',?_⟩;(conv=>whnf);refine bZ (fun h3=>?le) (fun h3=>?stop3)
   case' stop3=>
    have hend:=s5 hj (.inr (fun d hd=>by rw[hlj] at hd;cases hd;have:=aA h3;simp[cY];omega));clear hgi' hlj hgi h1' h2 h3 hcl
   case' le=>
    (conv=>whnf);refine bZ (fun h4=>?go) (fun h4=>?stop4)
    case' stop4=>
     have hend:=s5 hj (.inl (by have:=aA h4;rw[wj] at this;omega));clear hgi' hlj hgi h1' h2 h3 h4 hcl
    case' go=>
     have g2:=aB h2;have g3:=aB h3;have g4:=aB h4;rw[wj] at g4;have htk:l.take (j+1)=l.take j++[c]:=by rw[aT,hlj];rfl
     (conv=>whnf);refine GNeed.mk (jR _) ⟨c,hgi',?_⟩;(conv=>whnf);refine fR (j+1) (NA hj hlj (by simp[cY];omega) (by omega)) (by omega) ⟨rfl,rfl,?_,rfl,bH (by omega),rfl,rfl,trivial⟩ rfl;refine aR (GV.i .i64) ?_;rw[htk,xF];exact R2 _ _ hdv18 (by omega) (by omega)
 case' stop1=>
  have hend:=s5 hj (.inr (fun d hd=>by have:=(List.getElem?_eq_some_iff.1 hd).1;have:=aA h1;omega))
 all_goals
  clear h1;subst hend;conv=>whnf
  apply gM<;>intro e1<;>conv=>whnf
  ·exact no (hR.trans (hN.trans (aD (.inl (by have:=eq_of_beq e1;omega)))))
  have hk0:¬fW l=0:=fun h=>by rw[h] at e1;simp at e1
  apply bZ<;>intro e2
  case' yes=>
   (conv=>whnf);have hk1:1<fW l:=by have:=aB e2;rw[wj] at this;omega
   obtain⟨c0,hc0⟩:∃c0,l[0]?=some c0:=⟨l[0]'(by omega),gL (by omega)⟩;have hs0:s[((0:Nat):Int).toNat]?=some c0:=by rw[aL];exact(hget 0).symm.trans hc0
   refine GNeed.mk (jR _) ⟨c0,hs0,?_⟩;(conv=>whnf);apply bZ<;>intro e3
   case yes=>
    (conv=>whnf);exact no (hR.trans (hN.trans (aD (.inr (.inl ⟨hk1,by rw[fZ,hc0,mO (d:=48) e3]⟩)))))
   have h48:¬(1<fW l/\l.head?=some 48):=fun h=>o9 (d:=48) e3 (by have h:=h.2;rw[fZ,hc0] at h;exact bA h)
  case' no=>have h48:¬(1<fW l/\l.head?=some 48):=fun h=>by have h:=h.1;have:=aA e2;rw[wj] at this;omega
  all_goals
   (conv=>whnf);refine bZ (fun hx=>absurd hx (by simp[*])) (fun _=>?_);(conv=>whnf);apply gM<;>intro e5<;>conv=>whnf
   ·exact no (hR.trans (hN.trans (aD (.inr (.inr (.inr (by have:=aB e5;rw[wj] at this;omega)))))))
   have h17:¬17<=fW l:=by have:=aA e5;rw[wj] at this;omega
   have hr:R=((lO (l.take (fW l)):Int),0+fW l):=hR.trans (hN.trans (aC (fun h=>h.elim hk0 (fun h=>h.elim h48 (fun h=>h.elim (fun h=>by cases h.1) h17)))));cases hr;refine bZ (fun hx=>absurd hx (by simp[*])) (fun _=>?_);(conv=>whnf);have w2:IntKind.i64.wrap (((0+fW l:Nat):Int) - 0)=((0+fW l:Nat):Int):=by rw[dB (by omega) (by omega)];omega
   refine cZ (Wk.of_eq ?_) (i8 (.cons (.i _ _) (.cons (.i _ _) .nil)));show GV.tup [.i .i64 ((lO (l.take (fW l)):Int)),.i .i64 (IntKind.i64.wrap (((0+fW l:Nat):Int) - 0))]=_;rw[w2]
theorem J7 [MaxL] (s:List UInt8) (hs:s.length<b9):SC Tryz.prog 277 [.s s,.i .i64 0] [] (.val (.tup [.i .i64 (kQ s).1,.i .i64 ((kQ s).2:Nat)])) []:=by
 by_cases h45:s.head?=some 45
 ·exact Z9 s hs h45
 by_cases hne:s=[]
 ·subst hne;show SC _ _ _ _ (.val (.tup [.i .i64 0,.i .i64 (0:Nat)])) _;refine cO Tryz.func277 rfl ?_;conv=>whnf
  refine dD (fun _:Unit=>True) (fun _=>[(0,.s []),(1,.i .i64 0),(4,.i .i64 0),(5,.i .i64 0),(6,.i .i64 0),(7,.b false),(8,.i .i64 0)]) (fun _=>⟨[],0,[]⟩) (fun _=>0) () trivial ⟨rfl,rfl,rfl,rfl,rfl,rfl,rfl,trivial⟩ rfl (fun _ φ0 _=>?_);conv=>whnf
  exact oW
 ·exact Z8 s hs h45 hne
def uB (c:UInt8):Option Nat:=if 48<=c.toNat/\c.toNat<=57 then some (c.toNat - 48) else if 97<=c.toNat/\c.toNat<=102 then some (c.toNat - 87) else none
def rq:List UInt8->Option (List UInt8×List UInt8)
 |[]=>none
 |c::r=>if c=34 then some ([],r) else if c.toNat<32∨126<c.toNat then none else if c=92 then(match r with
   |[]=>none
   |e::r1=>if e=34∨e=92 then(rq r1).map fun p=>(e::p.1,p.2) else if e=120 then(match r1 with
     |a::b::r2=>(match uB a with
      |some x=>(match uB b with
       |some y=>if 32<=16*x+y/\16*x+y<=126 then none else(rq r2).map fun p=>(UInt8.ofNat (16*x+y)::p.1,p.2)
       |none=>none)
      |none=>none)
     |_=>none) else none)
  else(rq r).map fun p=>(c::p.1,p.2)
theorem a5w:rq []=none:=rfl
theorem WR (r:List UInt8):rq (34::r)=some ([],r):=by
 conv=>lhs;unfold rq
 rfl
theorem NX {c:UInt8} (h:c≠34) (h':c.toNat<32∨126<c.toNat) (r:List UInt8):rq (c::r)=none:=by
 conv=>lhs;unfold rq
 rw[aC h,aD h']
theorem a3n {c:UInt8} (h:c≠34) (h':¬(c.toNat<32∨126<c.toNat)) (h'':c≠92) (r:List UInt8):rq (c::r)=(rq r).map fun p=>(c::p.1,p.2):=by
 conv=>lhs;unfold rq
 rw[aC h,aC h',aC h'']
theorem NW {e:UInt8} (h:e=34∨e=92) (r:List UInt8):rq (92::e::r)=(rq r).map fun p=>(e::p.1,p.2):=by
 conv=>lhs;unfold rq
 rw[aC (by decide),aC (by decide),aD rfl];show(if e=34∨e=92 then _ else _)=_;rw[aD h]
theorem a3m (a b:UInt8) (r:List UInt8):rq (92::120::a::b::r)=match uB a with
  |some x=>(match uB b with
   |some y=>if 32<=16*x+y/\16*x+y<=126 then none else(rq r).map fun p=>(UInt8.ofNat (16*x+y)::p.1,p.2)
   |none=>none)
  |none=>none:=by
 conv=>lhs;unfold rq
 rfl
theorem D5 {r:List UInt8} (h:∀e r1,r=e::r1->¬(e=34∨e=92)/\(e=120->∀a b r2,r1≠a::b::r2)):rq (92::r)=none:=by
 conv=>lhs;unfold rq
 rw[aC (by decide),aC (by decide),aD rfl];cases r with
 |nil=>rfl
 |cons e r1=>
  obtain⟨h1,h2⟩:=h e r1 rfl;show(if e=34∨e=92 then _ else _)=_;rw[aC h1];by_cases h3:e=120
  ·rw[aD h3];rcases r1 with _|⟨a,_|⟨b,r2⟩⟩
   ·rfl
   ·rfl
   ·exact absurd rfl (h2 h3 a b r2)
  ·rw[aC h3]
theorem DB {c:UInt8} {n:Nat} (h:uB c=some n):n<16:=by
 unfold uB at h;split at h
 ·cases h;omega
 ·split at h
  ·cases h;omega
  ·cases h
theorem EV (c:UInt8):LJ c=match uB c with|some n=>(n:Int)|none=> -1:=by
 unfold LJ uB;split
 ·simp;omega
 ·split
  ·simp;omega
  ·rfl
def ER (n k:Nat):Option (List UInt8×List UInt8)->List UInt8×Nat
 |some (t,r)=>(t,n - r.length - k)
 |none=>([],0)
def jS (s:List UInt8) (k:Nat):List UInt8×Nat:=if s[k]?=some 34 then ER s.length k (rq (s.drop (k+1))) else([],0)
theorem apL [MaxL] {α:Type} {f:α->GV} {c n:Nat} (hf:∀a,(f a).cells.length=c) (o ys:List α) {vs:List GV} {A:Prop} {K:List GV->Nat->Prop} (hA:A) (hl:o.length+ys.length<=4294967296) (k:K ((o++ys).map f) (o++ys).length) (hv:ys.map f=vs) (hn:ys.length=n):
  GNeed (A/\(o.map f).all (fun x=>x.cells.length==c)=true/\(o.map f).length+n<=4294967296) (∃zs m,GNeed (zs=o.map f++vs/\m=(o.map f).length+n) (K zs m)):=by
 subst hv hn;exact⟨⟨hA,by
  rw[aQ];intro x hx;obtain⟨b,_,rfl⟩:=List.mem_map.1 hx;rw[hf];exact beq_self_eq_true _,by rw[b6];exact hl⟩,_,_,⟨by rw[b5],by rw[b6,aG]⟩,k⟩
set_option maxHeartbeats 4000000 in
theorem WY [MaxL] (s:List UInt8) (hs:s.length<1000000) (k:Nat) (hk:k<=s.length):SC Tryz.prog 223 [.s s,.i .i64 (k:Nat)] [] (.val (.tup [.s (jS s k).1,.i .i64 ((jS s k).2:Nat)])) []:=by
 obtain⟨O,hO0⟩:∃O,O=jS s k:=⟨_,rfl⟩;rw[<-hO0];unfold jS at hO0;refine cO Tryz.func223 rfl ?_;conv=>whnf
 refine bZ (fun h1=>?_) (fun h1=>?_)
 ·have h1':s.length<=k:=by have:=aB h1;omega
  rw[aC (by rw[bG h1'];simp)] at hO0;cases hO0;conv=>whnf
  exact oW
 have h1':k<s.length:=by have:=aA h1;omega
 have hgk:s[k]?=some (s.getD k 0):=by rw[aO,gL h1'];rfl
 generalize s.getD k 0=c0 at*;conv=>whnf
 refine GNeed.mk (jR _) ⟨c0,by rw[aL];exact hgk,?_⟩;conv=>whnf
 apply gM<;>intro h34<;>conv=>whnf
 ·have:=tO (d:=34) h34;rw[aC (by rw[hgk];intro h;exact this (bA h))] at hO0;cases hO0;exact oW
 have h34':=tP (d:=34) h34;rw[aD (by rw[hgk,h34'])] at hO0;generalize hR:rq (s.drop (k+1))=R at hO0;have hO:O=ER s.length k R:=hO0;clear hO0 h34 h34' hgk h1;refine dH (fun q:Nat×List UInt8=>k<q.1/\q.1<=s.length/\q.2.length<=q.1/\(rq (s.drop q.1)).map (fun p=>(q.2++p.1,p.2))=R)
  (fun q=>[(0,.s s),(1,.i .i64 (k:Nat)),(6,.sl (.own 0) (w9 q.2)),(7,.i .i64 (q.1:Nat))]) (fun q=>⟨[ow 5 1 q.2.length],0,[]⟩) (fun q=>s.length - q.1) (k+1,[]) ⟨by omega,by omega,by simp,?_⟩ ⟨rfl,rfl,rfl,bH (by omega),trivial⟩ rfl (fun _ _=>rL _) (fun q _=>by simp only[e8,l5];rfl) (fun q _ e he=>?_) (fun q φ0 hq=>?_)
 ·rw[<-hR];show Option.map _ (rq (s.drop (k+1)))=_;cases rq (s.drop (k+1))<;>rfl
 ·refine⟨by simp[qO],rfl,?_⟩;show[_,_,(GV.sl (.own 0) (w9 q.2)).ren e,_]=_;rw[nB (he 0 (by simp)) (l:=w9 q.2) (iA (fun _=>Cl.i _ _) _)];rfl
 obtain⟨i,out⟩:=q;obtain⟨hik,hi,hol,hq⟩:=hq;replace hik:k<i:=hik;replace hi:i<=s.length:=hi;replace hol:out.length<=i:=hol;replace hq:(rq (s.drop i)).map (fun p=>(out++p.1,p.2))=R:=hq;conv=>whnf
 refine bZ (fun h1=>?_) (fun h1=>?_);rotate_left
 ·have hie:i=s.length:=by have:=aA h1;omega
  subst hie;conv=>whnf
  apply gM<;>intro h2<;>conv=>whnf
  ·have hr:O=([],0):=hO.trans (by rw[<-hq,eP (rL _),a5w];rfl);cases hr;exact oW
  ·exfalso;have:=aA h2;omega
 have hlt:i<s.length:=by have:=aB h1;omega
 have hgi:s[i]?=some (s.getD i 0):=by rw[aO,gL hlt];rfl
 have hd:s.drop i=s.getD i 0::s.drop (i+1):=by
  rw[b8 hlt,aO,gL hlt];rfl
 generalize s.getD i 0=c at*;have hgi':s[((i:Nat):Int).toNat]?=some c:=by rw[aL];exact hgi
 rw[hd] at hq;conv=>whnf
 refine GNeed.mk (jR _) ⟨c,hgi',?_⟩;conv=>whnf
 refine bZ (fun h34=>?_) (fun h34=>?_);rotate_left
 ·have hc:=tP (d:=34) h34;rw[hc,WR] at hq;conv=>whnf
  apply gM<;>intro h2<;>conv=>whnf
  ·exfalso;have:=aB h2;omega
  have hr:O=(out,i+1 - k):=hO.trans (by
   rw[<-hq];show(out++[],s.length - (s.drop (i+1)).length - k)=_;rw[f5,d9];congr 1;omega)
  cases hr;refine⟨out,FC out,?_⟩;conv=>whnf
  refine cZ (Wk.of_eq ?_) (i8 (.cons (.s _) (.cons (.i _ _) .nil)));show GV.tup [.s out,.i .i64 (IntKind.i64.wrap (IntKind.i64.wrap ((i:Int)+1) - (k:Int)))]=.tup [.s out,.i .i64 ((i+1 - k:Nat):Int)];rw[dB (n:=(i:Int)+1) (by omega) (by omega),dB (by omega) (by omega)];have h:(i:Int)+1 - (k:Int)=((i+1 - k:Nat):Int):=by omega
  rw[h]
 have hc34:=tO (d:=34) h34;conv=>whnf
 refine GNeed.mk (jR _) ⟨c,hgi',?_⟩;conv=>whnf
 apply gM<;>intro hl32<;>conv=>whnf
 ·have:=aB hl32;have hr:O=([],0):=hO.trans (by rw[<-hq,NX hc34 (.inl (by omega))];rfl);cases hr;exact oW
 apply gM<;>intro hg126<;>conv=>whnf
 ·have:=aB hg126;have hr:O=([],0):=hO.trans (by rw[<-hq,NX hc34 (.inr (by omega))];rfl);cases hr;exact oW
 have hpr:¬(c.toNat<32∨126<c.toNat):=by have h8:=aA hl32;have h9:=aA hg126;omega
 clear hl32 hg126;have W:∀j:Nat,j<=4->IntKind.i64.wrap ((i:Int)+(j:Int))=((i+j:Nat):Int):=fun j h=>by rw[dB (by omega) (by omega)];rfl
 have w1:IntKind.i64.wrap ((i:Int)+1)=((i+1:Nat):Int):=W 1 (by decide);have w2:IntKind.i64.wrap ((i:Int)+2)=((i+2:Nat):Int):=W 2 (by decide);have w3:IntKind.i64.wrap ((i:Int)+3)=((i+3:Nat):Int):=W 3 (by decide);have w4:IntKind.i64.wrap ((i:Int)+4)=((i+4:Nat):Int):=W 4 (by decide);refine bZ (fun h92=>?zp) (fun h92=>?zq)
 case' zp=>
  rw[a3n hc34 hpr (tO (d:=92) h92)] at hq;obtain⟨m,em⟩:∃m,m=i+1:=⟨_,rfl⟩;obtain⟨w,ew⟩:∃w,w=c:=⟨_,rfl⟩;have hv:(c.toNat:Int)=(w.toNat:Int):=by rw[ew]
  rw[<-em] at hq w1;rw[<-ew] at hq;have wm:=w1;have hm:m<=s.length:=by omega
 case' zq=>
  conv=>whnf
  have hc92:=tP (d:=92) h92;subst hc92;clear h92 hgi' hd hgi;apply gM<;>intro e1<;>conv=>whnf
  rotate_left
  ·have hl1:s.length<=i+1:=by have:=aA e1;rw[w1] at this;omega
   have hn:s.drop (i+1)=[]:=eP hl1;apply gM<;>intro e3<;>conv=>whnf
   ·exfalso;have:=aB e3;rw[w3] at this;omega
   have hr:O=([],0):=hO.trans (by rw[<-hq,hn,D5 (fun e r1 h=>by cases h)];rfl);cases hr;exact oW
  have hl1:i+1<s.length:=by have:=aB e1;rw[w1] at this;omega
  have hge:s[i+1]?=some (s.getD (i+1) 0):=by rw[aO,gL hl1];rfl
  have hd1:s.drop (i+1)=s.getD (i+1) 0::s.drop (i+2):=by
   rw[b8 hl1,aO,gL hl1];rfl
  generalize s.getD (i+1) 0=e at*;rw[hd1] at hq;have ge1:s[(IntKind.i64.wrap ((i:Int)+1)).toNat]?=some e:=by rw[w1,aL];exact hge
  have gp1:0<=IntKind.i64.wrap ((i:Int)+1):=by rw[w1];exact jR _
  refine GNeed.mk gp1 ⟨e,ge1,?_⟩;conv=>whnf
  refine bZ (fun e34=>?zr) (fun e34=>?zt)
  case' zr=>have he:e=34∨e=92:=.inl (mO (d:=34) e34)
  case' zt=>
   have he34:=o9 (d:=34) e34;(conv=>whnf);refine GNeed.mk gp1 ⟨e,ge1,?_⟩;(conv=>whnf);refine bZ (fun e92=>?zu) (fun e92=>?zv)
   case' zu=>have he:e=34∨e=92:=.inr (mO (d:=92) e92)
   case' zv=>
    (conv=>whnf);have he92:=o9 (d:=92) e92;apply gM<;>intro e3<;>conv=>whnf
    rotate_left
    ·have hl3:s.length<=i+3:=by have:=aA e3;rw[w3] at this;omega
     have hsh:(s.drop (i+2)).length<=1:=by rw[d9];omega
     have hr:O=([],0):=hO.trans (by rw[<-hq,D5 (fun e0 r1 h=>by cases h;exact⟨fun h=>h.elim he34 he92,fun _ a b r2 h=>by rw[h] at hsh;simp at hsh⟩)];rfl);cases hr;exact oW
    have hl3:i+3<s.length:=by have:=aB e3;rw[w3] at this;omega
    refine GNeed.mk gp1 ⟨e,ge1,?_⟩;(conv=>whnf);apply gM<;>intro e120<;>conv=>whnf
    rotate_left
    ·have he120:=o9 (d:=120) e120;have hr:O=([],0):=hO.trans (by rw[<-hq,D5 (fun e0 r1 h=>by cases h;exact⟨fun h=>h.elim he34 he92,fun h=>absurd h he120⟩)];rfl);cases hr;exact oW
    have he120:=mO (d:=120) e120;obtain⟨a,b,hab,ha,hb⟩:∃a b,s.drop (i+2)=a::b::s.drop (i+4)/\s[i+2]?=some a/\s[i+3]?=some b:=
     ⟨s[i+2],s[i+3],by rw[b8 (by omega),b8 (by omega)],gL _,gL _⟩
    rw[hab,he120,a3m] at hq;have ga:s[(IntKind.i64.wrap ((i:Int)+2)).toNat]?=some a:=by rw[w2,aL];exact ha
    have gb:s[(IntKind.i64.wrap ((i:Int)+3)).toNat]?=some b:=by rw[w3,aL];exact hb
    have gp2:0<=IntKind.i64.wrap ((i:Int)+2):=by rw[w2];exact jR _
    have gp3:0<=IntKind.i64.wrap ((i:Int)+3):=by rw[w3];exact jR _
    refine GNeed.mk gp2 ⟨a,ga,?_⟩;(conv=>whnf);refine sL (D6 a) ?_;(conv=>whnf);apply gM<;>intro na<;>conv=>whnf
    rotate_left
    ·have hx:=aA na;rw[EV] at hx;have hxn:uB a=none:=by
      cases h:uB a with
      |none=>rfl
      |some x=>rw[h] at hx;simp at hx
     have hr:O=([],0):=hO.trans (by rw[<-hq,hxn];rfl);cases hr;exact oW
    obtain⟨x,hxn⟩:∃x,uB a=some x:=by
     have hx:=aB na;rw[EV] at hx;cases h:uB a with
     |none=>rw[h] at hx;simp at hx
     |some x=>exact⟨x,rfl⟩
    refine GNeed.mk gp3 ⟨b,gb,?_⟩;(conv=>whnf);refine sL (D6 b) ?_;(conv=>whnf);apply gM<;>intro nb<;>conv=>whnf
    rotate_left
    ·have hx:=aA nb;rw[EV] at hx;have hyn:uB b=none:=by
      cases h:uB b with
      |none=>rfl
      |some x=>rw[h] at hx;simp at hx
     have hr:O=([],0):=hO.trans (by rw[<-hq,hxn,hyn];rfl);cases hr;exact oW
    obtain⟨y,hyn⟩:∃y,uB b=some y:=by
     have hx:=aB nb;rw[EV] at hx;cases h:uB b with
     |none=>rw[h] at hx;simp at hx
     |some x=>exact⟨x,rfl⟩
    have hx16:=DB hxn;have hy16:=DB hyn;have sa:LJ a=(x:Int):=by rw[EV,hxn]
    have sb:LJ b=(y:Int):=by rw[EV,hyn]
    rw[hxn,hyn] at hq;replace hq:Option.map (fun p=>(out++p.1,p.2)) (if 32<=16*x+y/\16*x+y<=126 then none else(rq (s.drop (i+4))).map fun p=>(UInt8.ofNat (16*x+y)::p.1,p.2))=R:=hq;have hv:IntKind.i64.wrap (IntKind.i64.wrap (16*LJ a)+LJ b)=((16*x+y:Nat):Int):=by
     rw[sa,sb,dB (n:=16*(x:Int)) (by omega) (by omega),dB (by omega) (by omega)];omega
    have hV:IntKind.u8.wrap (IntKind.i64.wrap (IntKind.i64.wrap (16*LJ a)+LJ b))=((UInt8.ofNat (16*x+y)).toNat:Int):=by
     rw[hv,u8w,UInt8.toNat_ofNat'];omega
    refine lQ ?_;(conv=>whnf);refine GNeed.mk gp2 ⟨a,ga,?_⟩;(conv=>whnf);refine sL (D6 a) ?_;(conv=>whnf);refine GNeed.mk gp3 ⟨b,gb,?_⟩;(conv=>whnf);refine sL (D6 b) ?_;(conv=>whnf);refine bZ (fun g1=>?zx) (fun g1=>?zz)
    case' zx=>
     (conv=>whnf);refine bZ (fun g2=>?zx1) (fun g2=>?zx2)
     case zx1=>
      (conv=>whnf);have g1':=aB g1;have g2':=aB g2;rw[hv] at g1' g2';have hr:O=([],0):=hO.trans (by rw[<-hq,aD ⟨by omega,by omega⟩];rfl);cases hr;exact oW
     have hn:¬(32<=16*x+y/\16*x+y<=126):=by have g2':=aA g2;rw[hv] at g2';omega
    case' zz=>have hn:¬(32<=16*x+y/\16*x+y<=126):=by have g1':=aA g1;rw[hv] at g1';omega
    all_goals
     rw[aC hn] at hq;obtain⟨m,em⟩:∃m,m=i+4:=⟨_,rfl⟩;generalize UInt8.ofNat (16*x+y)=w at hV hq;rw[<-em] at hq w4;have wm:=w4;have hm:m<=s.length:=by omega
     clear hv;have hv:=hV
  case' zr|zu=>
   rw[NW he] at hq;obtain⟨m,em⟩:∃m,m=i+2:=⟨_,rfl⟩;obtain⟨w,ew⟩:∃w,w=e:=⟨_,rfl⟩;have hv:(e.toNat:Int)=(w.toNat:Int):=by rw[ew]
   rw[<-em] at hq w2;rw[<-ew] at hq;have wm:=w2;have hm:m<=s.length:=by omega
   (conv=>whnf);refine GNeed.mk gp1 ⟨e,ge1,?_⟩
 all_goals
  conv=>whnf
  cases out;all_goals
   refine apL (f:=fun c:UInt8=>GV.i .u8 c.toNat) (c:=1) (fun _=>rfl) _ [w] rfl (by simp only[aI,bO] at hol⊢;omega) ?_ (by first|(rw[hv];done)|(rw[hv];rfl)) rfl;(conv=>whnf);refine aN ?_ (h:=by first|rfl|exact(nY (_::_)).symm);(conv=>whnf);exact⟨s.length - m,(by show _<s.length - i;omega),(m,_++[w]),⟨by show k<m;omega,hm,(by show(_++[w]:List UInt8).length<=m;simp only[aG,aI,bO] at hol⊢;omega),by
    rw[<-hq];show Option.map _ (rq (s.drop m))=_;simp[i6]⟩,rfl,⟨rfl,rfl,rfl,(by show GV.i .i64 (IntKind.i64.wrap _)=_;rw[wm]),trivial⟩,_,rfl,rfl⟩
def zF (s:List UInt8):Int×Bool:=((kQ s).1,decide (0<(kQ s).2)&&((kQ s).2==s.length))
theorem a3w [MaxL] (s:List UInt8) (hs:s.length<b9):SC Tryz.prog 222 [.s s] [] (.val (.tup [.i .i64 (zF s).1,.b (zF s).2])) []:=by
 refine cO Tryz.func222 rfl ?_;conv=>whnf
 refine sL (J7 s hs) ?_;conv=>whnf
 apply gM<;>intro h1<;>conv=>whnf
 ·refine cZ (Wk.of_eq ?_) (i8 (.cons (.i _ _) (.cons (.b _) .nil)));have h1':0<(kQ s).2:=by have:=aB h1;omega
  show GV.tup [.i .i64 (kQ s).1,.b (((kQ s).2:Int)==(s.length:Int))]=.tup [.i .i64 (kQ s).1,.b (decide (0<(kQ s).2)&&((kQ s).2==s.length))];rw[bC h1',Bool.true_and];have:(((kQ s).2:Int)==(s.length:Int))=((kQ s).2==s.length):=by rw[dQ];simp;omega
  rw[this]
 ·refine cZ (Wk.of_eq ?_) (i8 (.cons (.i _ _) (.cons (.b _) .nil)));have h1':¬0<(kQ s).2:=by have:=aA h1;omega
  show GV.tup [.i .i64 (kQ s).1,.b false]=.tup [.i .i64 (kQ s).1,.b (decide (0<(kQ s).2)&&((kQ s).2==s.length))];rw[bN h1',Bool.false_and]
def sP (s:List UInt8):Val×Nat:=if s.head?=some 34 then(⟨2,0,(jS s 0).1⟩,(jS s 0).2) else(⟨1,(kQ s).1,[]⟩,(kQ s).2)
theorem ZA [MaxL] (s:List UInt8) (hs:s.length<1000000):SC Tryz.prog 320 [.s s,.i .i64 0] [] (.val (.tup [(sP s).1.gv,.i .i64 ((sP s).2:Nat)])) []:=by
 refine cO Tryz.func320 rfl ?_;conv=>whnf
 apply gM<;>intro h1<;>conv=>whnf
 rotate_left
 ·have hn:s=[]:=by
   have:=aA h1;exact aM (by omega)
  subst hn;refine sL (J7 [] (by show 0<b9;decide)) ?_;conv=>whnf
  refine sT ?_;conv=>whnf
  refine cZ (.refl _) (fun _=>rfl)
 have h1':0<s.length:=by have:=aB h1;omega
 obtain⟨c,r,rfl⟩:∃c r,s=c::r:=by
  cases s with
  |nil=>simp at h1'
  |cons c r=>exact⟨c,r,rfl⟩
 refine GNeed.mk (eU _) ⟨c,rfl,?_⟩;conv=>whnf
 apply gM<;>intro h2<;>conv=>whnf
 ·have hc:=mO (d:=34) h2;refine sL (WY (c::r) hs 0 (zL _)) ?_;conv=>whnf
  refine sT ?_;conv=>whnf
  have hq:sP (c::r)=(⟨2,0,(jS (c::r) 0).1⟩,(jS (c::r) 0).2):=by unfold sP;rw[aD (by rw[hc];rfl)]
  rw[hq];exact oW
 have hc:=o9 (d:=34) h2;refine sL (J7 (c::r) (by unfold b9;omega)) ?_;conv=>whnf
 refine sT ?_;conv=>whnf
 have hq:sP (c::r)=(⟨1,(kQ (c::r)).1,[]⟩,(kQ (c::r)).2):=by unfold sP;exact aC (fun h=>hc (bA h))
 rw[hq];exact oW
theorem a2d:∀d:Fin 10,(Utf8.encode ((48+d.1:Nat):Int)).data.toList=[UInt8.ofNat (48+d.1)]:=by decide+kernel
theorem Y1 (d:Nat) (h:d<10):(Utf8.encode ((48+d:Nat):Int)).data.toList=[UInt8.ofNat (48+d)]:=by
 obtain⟨e,rfl⟩:∃e:Fin 10,d=e.1:=⟨⟨d,h⟩,rfl⟩;exact a2d e
theorem Y3 (n:Nat) (hn:n<9223372036854775808):(Lib.decDigits n).length<=21:=by
 have h:=Lib.itoa_length_le (n:Int) (by omega) (by omega);unfold Lib.itoa at h;rw[aC (by omega),aL] at h;exact h
theorem a7p (n:Int):IntKind.i32.wrap n=(n+2147483648)%4294967296 - 2147483648:=by
 unfold IntKind.wrap;simp[IntKind.signed,IntKind.bits];omega
theorem JB [MaxL] (n : Nat) (hn : n < 9223372036854775808) : SC Tryz.prog 317 [.i .i64 (n : Nat)] [] (.val (.s (Lib.decDigits n))) [] := by
  refine cO Tryz.func317 rfl ?_;conv => whnf
  refine dH (fun q : Nat × List UInt8 => q.1 ≤ n ∧ Lib.decDigits q.1 ++ q.2 = Lib.decDigits n) (fun q => [(0, .i .i64 (q.1 : Nat)), (3, .s q.2)]) (fun q => ⟨[], 0, []⟩) (fun q => q.1) (n, []) ⟨rL _, f5 _⟩ ⟨rfl, rfl, trivial⟩ rfl (fun _ _ => rL _) (fun q _ => rfl) (fun q _ e he => ⟨rfl, rfl, rfl⟩) (fun q φ0 hq => ?_);obtain ⟨m, acc⟩ := q;obtain ⟨hm, hq⟩ := hq;replace hm : m ≤ n := hm;replace hq : Lib.decDigits m ++ acc = Lib.decDigits n := hq;have hal : acc.length ≤ 21 := by have := Y3 n hn; rw [← hq] at this; simp at this; omega
  conv => whnf
  apply gM<;>intro h3<;>conv=>whnf
  · have h3' : 10 ≤ m := by have := aB h3; omega
    have hm10 : m % 10 < 10 := Nat.mod_lt _ (by decide);have he : (Utf8.encode (IntKind.i32.wrap (IntKind.i64.wrap (48 + ((m : Nat) : Int).tmod 10)))).data.toList = [UInt8.ofNat (48 + m % 10)] := by
      have hw : ((m : Nat) : Int).tmod 10 = ((m % 10 : Nat) : Int) := by rw [Int.tmod_eq_emod_of_nonneg (by omega)]; omega
      rw [hw, dB (by omega) (by omega), a7p, show (48 + ((m % 10 : Nat) : Int) + 2147483648) % 4294967296 - 2147483648 = ((48 + m % 10 : Nat) : Int) by omega];exact Y1 _ hm10
    refine ⟨by decide, ?_⟩;conv => whnf
    refine ⟨by
      show (Utf8.encode (IntKind.i32.wrap (IntKind.i64.wrap (48 + ((m : Nat) : Int).tmod 10)))).data.toList.length + acc.length < wL;rw [he]; unfold wL; simp; omega, _, rfl, ?_⟩
    conv => whnf
    refine ⟨by decide, ?_⟩;conv => whnf
    have hd : Lib.decDigits m = Lib.decDigits (m / 10) ++ [UInt8.ofNat (48 + m % 10)] := by rw [Lib.decDigits, dif_neg (by omega)]
    exact ⟨m / 10, (by show m / 10 < m; omega), (m / 10, UInt8.ofNat (48 + m % 10) :: acc), ⟨(by show m / 10 ≤ n; omega), (by show Lib.decDigits (m / 10) ++ UInt8.ofNat (48 + m % 10) :: acc = _; rw [← hq, hd]; simp)⟩, rfl,
      ⟨(by show GV.i .i64 (IntKind.i64.wrap (((m : Nat) : Int).tdiv 10)) = .i .i64 ((m / 10 : Nat) : Int)
           rw [Int.tdiv_eq_ediv_of_nonneg (by omega), dB (by omega) (by omega)]; rfl), (by
        show GV.s ((Utf8.encode (IntKind.i32.wrap (IntKind.i64.wrap (48 + ((m : Nat) : Int).tmod 10)))).data.toList ++ acc) = .s (UInt8.ofNat (48 + m % 10) :: acc);rw [he]; rfl), trivial⟩, _, rfl, rfl⟩
  · have h3' : m < 10 := by have := aA h3; omega
    have he : (Utf8.encode (IntKind.i32.wrap (IntKind.i64.wrap (48 + ((m : Nat) : Int))))).data.toList = [UInt8.ofNat (48 + m)] := by
      rw [dB (by omega) (by omega), a7p, show (48 + (m : Int) + 2147483648) % 4294967296 - 2147483648 = ((48 + m : Nat) : Int) by omega];exact Y1 m h3'
    refine ⟨by
      show (Utf8.encode (IntKind.i32.wrap (IntKind.i64.wrap (48 + ((m : Nat) : Int))))).data.toList.length + acc.length < wL;rw [he]; unfold wL; simp; omega, _, rfl, ?_⟩
    conv => whnf
    refine cZ (Wk.of_eq ?_) (.s _);show GV.s ((Utf8.encode (IntKind.i32.wrap (IntKind.i64.wrap (48 + ((m : Nat) : Int))))).data.toList ++ acc) = _;rw [he, ← hq, Lib.decDigits_one h3']
theorem a2C:Lib.itoa (-9223372036854775808)=[45,57,50,50,51,51,55,50,48,51,54,56,53,52,55,55,53,56,48,56]:=by
 unfold Lib.itoa;rw[aD (by decide)];repeat (rw[Lib.decDigits];simp)
theorem ZB [MaxL] (n:Int) (h0: -9223372036854775808<=n) (h1:n<=9223372036854775807):SC Tryz.prog 317 [.i .i64 n] [] (.val (.s (Lib.itoa n))) []:=by
 by_cases hp:0<=n
 ·obtain⟨k,rfl⟩:∃k:Nat,n=k:=⟨n.toNat,by omega⟩;unfold Lib.itoa;rw[aC (by omega),aL];exact JB k (by omega)
 refine cO Tryz.func317 rfl ?_;conv=>whnf
 apply gM<;>intro h2<;>conv=>whnf
 ·have:n= -9223372036854775808:=by simpa using h2
  subst this;rw[a2C];exact oW
 have h2':n≠ -9223372036854775808:=by simpa using h2
 apply gM<;>intro h3<;>conv=>whnf
 rotate_left
 ·exfalso;have:=aA h3;omega
 obtain⟨k,rfl⟩:∃k:Nat,n= -(k:Int):=⟨n.natAbs,by omega⟩;have hk:IntKind.i64.wrap (0 - -(k:Int))=(k:Int):=by rw[dB (by omega) (by omega)];omega
 have hc:=JB k (by omega);rw[<-hk] at hc;refine sL hc ?_;conv=>whnf
 have hl:=Y3 k (by omega);refine⟨by show 1+(Lib.decDigits k).length<wL;unfold wL;omega,_,rfl,?_⟩;conv=>whnf
 refine cZ (Wk.of_eq ?_) (.s _);unfold Lib.itoa;rw[aD (by omega),Int.natAbs_neg,Int.natAbs_natCast];rfl
theorem a5D:∀n:Fin 256,0<=IntKind.u8.wrap (((n:Nat):Int).tdiv 16)/\a2H[(IntKind.u8.wrap (((n:Nat):Int).tdiv 16)).toNat]?=some (jY ((n:Nat) / 16)):=by decide+kernel
theorem a5C:∀n:Fin 256,0<=(((n:Nat):Int).tmod 16)/\a2H[(((n:Nat):Int).tmod 16).toNat]?=some (jY ((n:Nat)%16)):=by decide+kernel
set_option maxHeartbeats 2000000 in
theorem a1d [MaxL] (s:List UInt8) (hs:s.length<1000000):SC Tryz.prog 318 [.s s] [] (.val (.s (sC s))) []:=by
 refine cO Tryz.func318 rfl ?_;conv=>whnf
 refine dH (fun q:Nat×List UInt8=>q.1<=s.length/\q.2=(s.take q.1).flatMap nS)
  (fun q=>[(0,.s s),(3,.sl (.own 0) (w9 q.2)),(4,.s a2H),(5,.i .i64 (q.1:Nat))]) (fun q=>⟨[ow 5 1 q.2.length],0,[]⟩) (fun q=>s.length - q.1) (0,[]) ⟨zL _,rfl⟩ ⟨rfl,rfl,rfl,rfl,trivial⟩ rfl (fun _ _=>rL _) (fun q _=>by simp only[e8,l5];rfl) (fun q _ e he=>?_) (fun q φ0 hq=>?_)
 ·refine⟨by simp[qO],rfl,?_⟩;show[_,(GV.sl (.own 0) (w9 q.2)).ren e,_,_]=_;rw[nB (he 0 (by simp)) (l:=w9 q.2) (iA (fun _=>Cl.i _ _) _)];rfl
 obtain⟨i,out⟩:=q;obtain⟨hi,hout⟩:=hq;replace hi:i<=s.length:=hi;replace hout:out=(s.take i).flatMap nS:=hout;have hol:out.length<=4*i:=by
  rw[hout];refine dG (DP _) ?_;rw[aS];omega
 conv=>whnf
 apply gM<;>intro h1<;>conv=>whnf
 rotate_left
 ·have hie:i=s.length:=by have:=aA h1;omega
  refine⟨out,FC out,?_⟩;conv=>whnf
  have hoq:out=s.flatMap nS:=by rw[hout,hie,aV]
  refine⟨by show 1+out.length<wL;unfold wL;omega,_,rfl,?_⟩;conv=>whnf
  refine⟨by show([34]++out).length+1<wL;rw[aG];show 1+out.length+1<wL;unfold wL;omega,_,rfl,?_⟩;conv=>whnf
  refine cZ (Wk.of_eq ?_) (.s _);show GV.s ([34]++out++[34])=.s (sC s);rw[hoq];unfold sC;simp
 have hlt:i<s.length:=by have:=aB h1;omega
 have hgi:s[i]?=some (s.getD i 0):=by rw[aO,gL hlt];rfl
 generalize s.getD i 0=c at*;have hgi':s[((i:Nat):Int).toNat]?=some c:=by rw[aL];exact hgi
 have ht:(s.take (i+1)).flatMap nS=(s.take i).flatMap nS++nS c:=by
  rw[aT,hgi];simp
 refine GNeed.mk (jR _) ⟨c,hgi',?_⟩;conv=>whnf
 refine bZ (fun h34=>?za) (fun h34=>?zb)
 case' za=>have hesc:nS c=[92,c]:=by unfold nS;rw[aD (.inl (mO (d:=34) h34))]
 case' zb=>
  conv=>whnf
  have hc34:=o9 (d:=34) h34;refine bZ (fun h92=>?zc) (fun h92=>?zd)
  case' zc=>have hesc:nS c=[92,c]:=by unfold nS;rw[aD (.inr (mO (d:=92) h92))]
  case' zd=>
   (conv=>whnf);have hc92:=o9 (d:=92) h92;refine bZ (fun hl=>?ze) (fun hl=>?zf)
   case' ze=>have hx:c.toNat<32∨126<c.toNat:=.inl (by have:=aB hl;omega)
   case' zf=>
    (conv=>whnf);have hl':=aA hl;refine bZ (fun hg=>?zg) (fun hg=>?zh)
    case' zg=>have hx:c.toNat<32∨126<c.toNat:=.inr (by have:=aB hg;omega)
    case' zh=>have hesc:nS c=[c]:=by unfold nS;rw[aC (fun h=>h.elim hc34 hc92),aC (by have hg':=aA hg;omega)]
   case' ze|zg=>
    have hesc:nS c=[92,120,jY (c.toNat / 16),jY (c.toNat%16)]:=by unfold nS;rw[aC (fun h=>h.elim hc34 hc92),aD hx]
    have hc8:=cV c;(conv=>whnf);refine lQ ?_;(conv=>whnf);refine⟨by decide,?_⟩;(conv=>whnf);refine GNeed.mk (a5D ⟨c.toNat,hc8⟩).1 ⟨jY (c.toNat / 16),(a5D ⟨c.toNat,hc8⟩).2,?_⟩;(conv=>whnf);refine⟨by decide,?_⟩;(conv=>whnf);refine GNeed.mk (a5C ⟨c.toNat,hc8⟩).1 ⟨jY (c.toNat%16),(a5C ⟨c.toNat,hc8⟩).2,?_⟩
 all_goals
  have hel:(nS c).length<=4:=by rw[hesc];simp
  obtain⟨y,ys,hE⟩:∃y ys,nS c=y::ys:=by rw[hesc];exact⟨_,_,rfl⟩
  conv=>whnf
  cases out;all_goals
   refine apL (f:=fun c:UInt8=>GV.i .u8 c.toNat) (c:=1) (fun _=>rfl) _ (y::ys) rfl (by rw[hE] at hel;simp only[aI,bO] at hol hel⊢;omega) ?_ (by rw[<-hE,hesc];rfl) (by rw[<-hE,hesc];rfl);(conv=>whnf);refine aN ?_ (h:=by first|rfl|exact(nY (_::_)).symm);(conv=>whnf);exact⟨s.length - (i+1),(by show _<s.length - i;omega),(i+1,_++(y::ys)),⟨hlt,(by show _++(y::ys)=_;rw[ht,<-hout,hE])⟩,rfl,⟨rfl,rfl,rfl,bH (by omega),trivial⟩,_,rfl,rfl⟩
theorem Z6 [MaxL] (v:Val) (hv:v.s.length<1000000) (h0: -9223372036854775808<=v.n) (h1:v.n<=9223372036854775807):SC Tryz.prog 309 [v.gv] [] (.val (.s (eY v))) []:=by
 obtain⟨k,n,s⟩:=v;refine cO Tryz.func309 rfl ?_;conv=>whnf
 apply gM<;>intro h<;>conv=>whnf
 ·have h':k=1:=by simpa using h
  refine sL (ZB n h0 h1) ?_;conv=>whnf
  refine cZ (Wk.of_eq ?_) (.s _);show GV.s (Lib.itoa n)=_;unfold eY;rw[aD h']
 ·have h':k≠1:=by simpa using h
  refine sL (a1d s hv) ?_;conv=>whnf
  refine cZ (Wk.of_eq ?_) (.s _);show GV.s (sC s)=_;unfold eY;rw[aC h']
theorem a1M [MaxL] (c:UInt8):SC Tryz.prog 221 [.i .u8 c.toNat] [] (.val (.b (dL c))) []:=by
 refine cO Tryz.func221 rfl ?_;conv=>whnf
 repeat' (apply gM<;>intro _<;>conv=>whnf)
 all_goals
  refine d6 ?_;rw[dQ,zX];simp only[aJ,bV,dI,iW,ne_eq,bX] at*;first|done|omega|(refine iff_of_true trivial ?_;omega)|(refine iff_of_false (fun h=>h) ?_;omega)
theorem UB [MaxL] (w:List UInt8):SC Tryz.prog 213 [.s w] [] (.val (.b (a7o.contains w))) []:=by
 refine cO Tryz.func213 rfl ?_;conv=>whnf
 repeat' (apply gM<;>intro _<;>conv=>whnf)
 all_goals
  refine d6 ?_;rw[dQ];simp[a7o] at*;try simp[*]
