/-
  A part of the proof of SchemaFinds.
-/
import Derived.Test.YtcfgfkkhpdlhpaaGreatDoorT21
set_option linter.all false
set_option maxRecDepth 100000
namespace Go.Proofs.YtcfgfkkhpdlhpaaGreatDoor
open Go.RowKit
def lV (c:UInt8):Bool:=c !=44
def rv (l:List UInt8):Option (Val×List UInt8):=
 if l.head?=some 34 then(rt l.tail).map fun p=>(⟨2,0,p.1⟩,p.2)
 else match Lib.atoiAll (l.takeWhile lV) with
  |.ok n=>if Lib.itoa n=l.takeWhile lV then some (⟨1,n,[]⟩,l.dropWhile lV) else none
  |_=>none
theorem OJ {p:UInt8->Bool}:∀{l:List UInt8} {k:Nat},(∀c∈l.take k,p c=true)->(∀c,l[k]?=some c->p c=false)->l.takeWhile p=l.take k/\l.dropWhile p=l.drop k
 |[],k,_,_=>by simp
 |c::l,0,_,h=>by
  have:=h c rfl;simp[this]
 |c::l,k+1,h1,h2=>by
  have hc:=h1 c (by simp);have ih:=OJ (l:=l) (k:=k) (fun d hd=>h1 d (by simp[hd])) (fun d hd=>h2 d (by simpa using hd));simp[hc,ih]
theorem LO {l:List UInt8} {n:Int} (h:Lib.atoiAll l=.ok n): -9223372036854775808<=n/\n<=9223372036854775807:=by
 unfold Lib.atoiAll at h;split at h
 ·cases h
 ·dsimp only at h;split at h
  ·cases h
  ·cases h
  ·split at h
   ·cases h
   ·split at h
    ·cases h
    ·cases h;rename_i h1 h2;split<;>omega
theorem a0O [MaxL] (s:List UInt8) (n:Nat) (hn:n<=s.length) (hs:s.length<1000000):
  Ct Tryz.prog 356 [.ptr 0 0] (DC s n) UY ((rv (s.drop n)).map fun p=>(p.1.gv,DC s (s.length - p.2.length))):=by
 refine gS oY mixed Tryz.func356 rfl (bL rfl) (fun _=>rfl) ?hh ?_
 case hh=>cases rv (s.drop n)<;>rfl
 have hm:s.length<bH:=by unfold bH;omega
 have htx:=fun h=>a2A s n h hs;conv=>whnf
 refine rQ (q:=0) (xB s n hm) ?_;conv=>whnf
 refine aF (fun h34=>?_) (fun h34=>?_)<;>conv=>whnf
 ·have h34':=j2 (d:=34) h34;have hlt:n<s.length:=by
   rcases dX n s.length with h|h
   ·exact h
   ·rw[aO,b6 h] at h34';simp at h34'
  have hd:s.drop n=34::s.drop (n+1):=by
   rw[aX hlt,<-h34',aO,gL hlt];rfl
  have hrv:rv (s.drop n)=(rt (s.drop (n+1))).map fun p=>(⟨2,0,p.1⟩,p.2):=by rw[hd];rfl
  replace htx:=htx hlt;rw[hrv];cases hr:rt (s.drop (n+1)) with
  |none=>
   rw[hr] at htx;refine m5 (q:=0) htx rfl (by first|exact wR _|exact wC (bE _ _) (wR _)|exact wC (bE _ _) (wC (bE _ _) (wR _))|exact wC (cY _) (wC (bE _ _) (wR _))) rfl rfl (by first|exact fun _=>rfl|exact cA|exact cB fun _=>rfl) (by first|exact fun _=>rfl|exact cA|exact cB fun _=>rfl) (by first|exact fun _=>rfl|exact cA|exact cB fun _=>rfl) ?_;(conv=>whnf);exact j0 rfl
  |some p=>
   rw[hr] at htx;refine rQ (q:=0) htx ?_;(conv=>whnf);refine⟨_,⟨rfl,zL _,rfl,bL rfl⟩,?_⟩;(conv=>whnf);exact gE rfl rfl (.refl _) (fun _=>rfl) (Val.cl _)
 ·have h34':=jV (d:=34) h34;have hd34:¬(s.drop n).head?=some 34:=fun e=>by
   rw[List.head?_drop] at e;exact h34' (by rw[aO,e];rfl)
  have hrv:rv (s.drop n)=match Lib.atoiAll ((s.drop n).takeWhile lV) with
   |.ok k=>if Lib.itoa k=(s.drop n).takeWhile lV then some (⟨1,k,[]⟩,(s.drop n).dropWhile lV) else none
   |_=>none:=by unfold rv;rw[aE hd34]
  refine dG (fun i:Nat=>n<=i/\i<=s.length/\∀c∈(s.drop n).take (i - n),lV c=true)
   (fun i=>[(0,.ptr 0 0),(2,.ptr 1 0),(3,.i .i64 n)]) (fun i=>⟨[DC s i,.box 138 [.i .i64 0,.i .i64 0,.s []]],0,[]⟩) (fun i=>s.length - i) n ⟨rL _,hn,by simp⟩ ⟨rfl,rfl,rfl,trivial⟩ rfl (fun i φ0 hi=>?_)
  obtain⟨hi1,hi2,hi3⟩:=hi;conv=>whnf
  refine b9 (by kernel_rfl) ?_;conv=>whnf
  have fin:(∀c,(s.drop n)[i - n]?=some c->lV c=false)->(s.drop n).takeWhile lV=(s.drop n).take (i - n)/\(s.drop n).dropWhile lV=s.drop i:=fun h=>by
   have:=OJ (l:=s.drop n) (k:=i - n) hi3 h;rw[j8,show n+(i - n)=i by omega] at this;exact this
  have hw:(s.drop n).take (i - n)=(s.drop n).take (i - n):=rfl;refine aF (fun hlt=>?in1) (fun hlt=>?in2)
  case' in1=>
   have hlt':i<s.length:=by simp at hlt;omega
   have hgi:s[i]?=some (s.getD i 0):=by rw[aO,gL hlt'];rfl
   have hdi:(s.drop n)[i - n]?=some (s.getD i 0):=by rw[gW,show n+(i - n)=i by omega,hgi]
   (conv=>whnf);refine⟨cN _,s.getD i 0,by simpa using hgi,?_⟩;(conv=>whnf);refine aF (fun hc=>?go) (fun hc=>?out)
   case' go=>
    (conv=>whnf);refine⟨[.i .i64 (i+1:Nat)],⟨kH (by omega),rL _,rfl,bL rfl⟩,?_⟩;(conv=>whnf);have hc':=nD (d:=44) hc;refine eQ (i+1) ⟨by omega,hlt',?_⟩ (by omega) ⟨rfl,rfl,rfl,trivial⟩ rfl;intro c hcm;rw[show i+1 - n=i - n+1 by omega,bR,hdi] at hcm;rcases List.mem_append.1 hcm with h|h
    ·exact hi3 c h
    ·have h:=List.mem_singleton.1 (show c∈[s.getD i 0] from h);subst h;exact bne_iff_ne.2 hc'
   case' out=>
    have hc':=mD (d:=44) hc;obtain⟨ht,hdr⟩:=fin (fun c h=>by rw[hdi] at h;cases h;exact(aQ lV hc').trans rfl);clear hdi hc hc' hlt' hgi
  case' in2=>
   have hge:i=s.length:=by simp at hlt;omega
   obtain⟨ht,hdr⟩:=fin (fun c h=>by rw[b6 (by simp;omega)] at h;cases h);clear hge
  all_goals
   clear fin hlt;rw[ht,hdr] at hrv;(conv=>whnf);refine b9 (by kernel_rfl) ?_;(conv=>whnf);refine⟨cN _,?_⟩;(conv=>whnf);refine⟨cN _,?_⟩;(conv=>whnf);refine⟨⟨by simpa using hi1,by simpa using hi2⟩,(s.drop n).take (i - n),by simp,?_⟩;(conv=>whnf);have hl:((s.drop n).take (i - n)).length<=281474976710656:=by simp;omega
   have no:(∀v,Lib.atoiAll ((s.drop n).take (i - n))≠ .ok v)->(match Lib.atoiAll ((s.drop n).take (i - n)) with
     |.ok k=>if Lib.itoa k=(s.drop n).take (i - n) then some ((⟨1,k,[]⟩,s.drop i):Val×List UInt8) else none
     |_=>none)=none:=fun h=>by
    split
    ·rename_i v e;exact absurd e (h v)
    ·rfl
   generalize hw0:(s.drop n).take (i - n)=w0 at*;by_cases hex:∃v,Lib.atoiAll w0=.ok v
   ·obtain⟨v,hv⟩:=hex;obtain⟨lo,hi⟩:=LO hv;have hrv1:rv (s.drop n)=if Lib.itoa v=w0 then some (⟨1,v,[]⟩,s.drop i) else none:=by rw[hrv,hv]
    refine nH (CB w0 (by omega) v hv) ?_;(conv=>whnf);refine b9 (by kernel_rfl) ?_;(conv=>whnf);refine nH (LJ v lo hi) ?_;(conv=>whnf);refine⟨cN _,?_⟩;(conv=>whnf);refine⟨cN _,?_⟩;(conv=>whnf);refine⟨⟨by simpa using hi1,by simpa using hi2⟩,w0,by simpa using hw0.symm,?_⟩;(conv=>whnf);refine aF (fun hne=>?_) (fun hne=>?_)<;>conv=>whnf
    ·exact bW (by rw[hrv1,aE (by simpa using hne)];rfl)
    ·rw[aG (by simpa using hne)] at hrv1;refine⟨_,⟨rfl,zL _,rfl,bL rfl⟩,?_⟩;(conv=>whnf);refine gE (cs':=[.s s,.i .i64 i]) ?_ rfl (.refl _) (fun _=>rfl) (Val.cl ⟨1,v,[]⟩);rw[hrv1];show some (_,DC s (s.length - (s.drop i).length))=_;rw[show s.length - (s.drop i).length=i by simp;omega];rfl
   ·obtain⟨v,hv⟩:=xX w0 hl (fun v e=>hex ⟨v,e⟩);refine nH hv ?_;(conv=>whnf);refine b9 (by kernel_rfl) ?_;(conv=>whnf);exact bW (by rw[hrv,no (fun v e=>hex ⟨v,e⟩)];rfl)
theorem LL [MaxL] (l v:List UInt8):SC Tryz.prog 287 [.s l,.s v] [] (.val (.b (v.isPrefixOf l))) []:=by
 refine cZ Tryz.func287 rfl ?_;conv=>whnf
 refine aF (fun h=>?_) (fun h=>?_)<;>conv=>whnf
 ·have h1:v.length<=l.length:=by simp at h;omega
  refine⟨cN _,⟨zL _,by simpa using h1⟩,l.take v.length,by simp,?_⟩;conv=>whnf
  refine d7 ?_;rw[eZ];simp[List.isPrefixOf_iff_prefix,List.prefix_iff_eq_take];exact eq_comm
 ·refine d7 ?_;have:¬v<+:l:=fun hp=>by have:=hp.length_le;simp at h;omega
  rw[eq_comm,<-Bool.not_eq_true,List.isPrefixOf_iff_prefix];exact this
theorem xC [MaxL] (l v:List UInt8):SC Tryz.prog 297 [.s l,.s v] [] (.val (.b (v.isPrefixOf l))) []:=by
 refine cZ Tryz.func297 rfl ?_;conv=>whnf
 refine nH (LL l v) ?_;conv=>whnf
 exact d7 rfl
def rd (s:List UInt8) (n:Nat) (d:Int):GObj:=.box 275 [.s s,.i .i64 n,.i .i64 d]
def nb (s:List UInt8) (n:Nat):Nat:=n+((s.drop n).takeWhile (· ==32)).length
theorem a0m {s:List UInt8} {n:Nat} (h:∀b,s[n]?=some b->b≠32):nb s n=n:=by
 unfold nb;cases hd:s.drop n with
 |nil=>rfl
 |cons b t=>
  have:s[n]?=some b:=by rw[<-List.head?_drop,hd];rfl
  have:=h b this;simp[this]
theorem a1n {s:List UInt8} {n:Nat} (h:s[n]?=some 32):nb s n=nb s (n+1):=by
 unfold nb;obtain⟨hn,h1⟩:=List.getElem?_eq_some_iff.1 h;rw[aX hn,eU,h1];simp;omega
theorem YB [MaxL] (s:List UInt8) (n:Nat) (d:Int) (hn:n<=s.length) (hs:s.length<bH):
  SC Tryz.prog 296 [.ptr 0 0] [rd s n d] (.val (.tup [])) [rd s (nb s n) d]:=by
 unfold bH at hs;refine cZ Tryz.func296 rfl ?_;conv=>whnf
 refine dG (fun i:Nat=>i<=s.length/\nb s i=nb s n) (fun i=>[(0,.ptr 0 0)]) (fun i=>⟨[rd s i d],0,[]⟩) (fun i=>s.length - i) n ⟨hn,rfl⟩ ⟨rfl,trivial⟩ rfl (fun i φ0 hi=>?_);conv=>whnf
 refine b9 (by kernel_rfl) ?_;conv=>whnf
 refine aF (fun h=>?_) (fun h=>?_)<;>conv=>whnf
 ·have hlt:i<s.length:=by simp at h;omega
  refine⟨cN _,s[i],by simp,?_⟩;conv=>whnf
  refine aF (fun hb=>?_) (fun hb=>?_)<;>conv=>whnf
  ·have hb':s[i]?=some 32:=by rw[gL hlt,j2 (d:=32) hb]
   refine⟨[.i .i64 (i+1:Nat)],⟨kH (by omega),rL _,rfl,bL rfl⟩,?_⟩;(conv=>whnf);exact eQ (i+1) ⟨hlt,by rw[<-hi.2,a1n hb']⟩ (by omega) ⟨rfl,trivial⟩ rfl
  ·have hb':=jV (d:=32) hb;have:nb s i=i:=a0m fun b hb2=>by rw[gL hlt] at hb2;cases hb2;exact hb'
   rw[<-hi.2,this];exact gC rfl (.refl _) (fun _=>rfl) (fun _=>rfl)
 ·have:nb s i=i:=a0m fun b hb2=>by
   have:=(List.getElem?_eq_some_iff.1 hb2).1;simp at h;omega
  rw[<-hi.2,this];exact gC rfl (.refl _) (fun _=>rfl) (fun _=>rfl)
def mQ:List UInt8->Nat
 |[]=>0
 |c::r=>if c=34 then 0 else if c=92 then(match r with
  |[]=>2
  |_::r'=>2+mQ r') else 1+mQ r
theorem JP (l:List UInt8):mQ (34::l)=0:=by cases l<;>rfl
theorem MC:mQ [92]=2:=rfl
theorem DT (x:UInt8) (l:List UInt8):mQ (92::x::l)=2+mQ l:=by
 conv=>lhs;unfold mQ
 rw[aE (by decide),aG rfl]
theorem F9 {c:UInt8} (h:¬c=34) (h':¬c=92) (l:List UInt8):mQ (c::l)=1+mQ l:=by
 conv=>lhs;unfold mQ
 rw[aE h,aE h']
def lQ (l:List UInt8):Nat:=
 match l with
 |[]=>0
 |c::t=>
  if[60,62].isPrefixOf l||[60,61].isPrefixOf l||[62,61].isPrefixOf l then 2
  else if d9 c||(c==45&&t.head?.any cR) then 1+(t.takeWhile d9).length
  else if c=34 then min (2+mQ t) l.length
  else 1
def H6 (l:List UInt8):List UInt8:=l.take (lQ l)
theorem a29 [MaxL] (s:List UInt8) (n:Nat) (d:Int) (hn:n<=s.length) (hs:s.length<bH):
  SC Tryz.prog 258 [.ptr 0 0] [rd s n d] (.val (.s (H6 (s.drop (nb s n))))) [rd s (nb s n) d]:=by
 have hbl:=YB s n d hn hs;have hnb:nb s n<=s.length:=by
  have:=(gM (l:=s.drop n) (· ==32)).length_le;simp at this;unfold nb;omega
 generalize nb s n=m at*;generalize hr:s.drop m=r at*;unfold bH at hs;have hrl:r.length<=s.length:=by rw[<-hr];simp
 refine cZ Tryz.func258 rfl ?_;conv=>whnf
 refine rQ (q:=0) hbl ?_;conv=>whnf
 refine b9 (by kernel_rfl) ?_;conv=>whnf
 refine⟨cN _,⟨by simpa using hnb,rL _⟩,r,by rw[aC,hr,bX (by rw[<-hr];simp)],?_⟩;conv=>whnf
 cases r with
 |nil=>exact gC rfl (.refl _) (fun _=>rfl) (fun _=>rfl)
 |cons c t=>
 conv=>whnf
 refine dG (fun i:Nat=>i<=3/\(0<i->[60,62].isPrefixOf (c::t)=false)/\(1<i->[60,61].isPrefixOf (c::t)=false)/\(2<i->[62,61].isPrefixOf (c::t)=false))
  (fun i=>[(3,.s (c::t)),(20,.sl (.own 1) [.s [60,62],.s [60,61],.s [62,61]]),(21,.i .i64 3),(22,.i .i64 i)]) (fun _=>⟨[rd s m d,.own 3 1 9],0,[]⟩) (fun i=>3 - i) 0
  ⟨by omega,fun h=>absurd h (by omega),fun h=>absurd h (by omega),fun h=>absurd h (by omega)⟩ ⟨rfl,rfl,rfl,rfl,trivial⟩ rfl (fun i φ0 hi=>?_)
 obtain⟨hi0,hi1,hi2,hi3⟩:=hi;have hc4:i=0∨i=1∨i=2∨i=3:=by omega
 have ends:∀k:Nat,k=lQ (c::t)->(c::t).take k=H6 (c::t):=fun k hk=>by rw[H6,hk]
 rcases hc4 with rfl|rfl|rfl|rfl
 ·conv=>whnf
  refine⟨dN 0,.s [60,62],rfl,rfl,?_⟩;conv=>whnf
  refine nH (xC (c::t) [60,62]) ?_;conv=>whnf
  refine aF (fun h=>?_) (fun h=>?_)<;>conv=>whnf
  ·refine kJ rfl ?_ (fun _=>rfl);rw[<-ends 2 (by simp[lQ,h])];exact List.prefix_iff_eq_take.1 (List.isPrefixOf_iff_prefix.1 h)
  ·exact eQ 1 ⟨by omega,fun _=>h,fun h=>absurd h (by omega),fun h=>absurd h (by omega)⟩ (by omega) ⟨rfl,rfl,rfl,rfl,trivial⟩ rfl
 ·conv=>whnf
  refine⟨by decide,.s [60,61],rfl,rfl,?_⟩;conv=>whnf
  refine nH (xC (c::t) [60,61]) ?_;conv=>whnf
  refine aF (fun h=>?_) (fun h=>?_)<;>conv=>whnf
  ·refine kJ rfl ?_ (fun _=>rfl);rw[<-ends 2 (by simp[lQ,h])];exact List.prefix_iff_eq_take.1 (List.isPrefixOf_iff_prefix.1 h)
  ·exact eQ 2 ⟨by omega,fun _=>hi1 (by omega),fun _=>h,fun h=>absurd h (by omega)⟩ (by omega) ⟨rfl,rfl,rfl,rfl,trivial⟩ rfl
 ·conv=>whnf
  refine⟨by decide,.s [62,61],rfl,rfl,?_⟩;conv=>whnf
  refine nH (xC (c::t) [62,61]) ?_;conv=>whnf
  refine aF (fun h=>?_) (fun h=>?_)<;>conv=>whnf
  ·refine kJ rfl ?_ (fun _=>rfl);rw[<-ends 2 (by simp[lQ,h])];exact List.prefix_iff_eq_take.1 (List.isPrefixOf_iff_prefix.1 h)
  ·exact eQ 3 ⟨by omega,fun _=>hi1 (by omega),fun _=>hi2 (by omega),fun _=>h⟩ (by omega) ⟨rfl,rfl,rfl,rfl,trivial⟩ rfl
 ·have hp1:=hi1 (by omega);have hp2:=hi2 (by omega);have hp3:=hi3 (by omega);clear hi0 hi1 hi2 hi3;have hwl:lQ (c::t)=if d9 c||(c==45&&t.head?.any cR) then 1+(t.takeWhile d9).length else if c=34 then min (2+mQ t) (c::t).length else 1:=by
   simp only[lQ,hp1,hp2,hp3];rfl
  conv=>whnf
  refine⟨dN 0,c,rfl,?_⟩;conv=>whnf
  refine nH (GZ c) ?_;conv=>whnf
  refine aF (fun h1=>?in1) (fun h1=>?_);rotate_left
  ·(conv=>whnf);refine⟨dN 0,c,rfl,?_⟩;(conv=>whnf);refine aF (fun h2=>?_) (fun h2=>?el1);have hc45:c=45:=j2 (d:=45) h2;cases t with
   |nil=>
    have hw:(d9 c||(c==45&&([]:List UInt8).head?.any cR))=false:=by simp[h1]
    (conv=>whnf);refine⟨dN 0,c,rfl,?_⟩;(conv=>whnf);have hc34:¬c=34:=by rw[hc45];decide
    refine aF (fun h34=>?_) (fun h34=>?_)<;>conv=>whnf
    ·exact absurd (j2 (d:=34) h34) hc34
    refine⟨by decide,⟨by decide,by simp⟩,[c],rfl,?_⟩;(conv=>whnf);exact kJ rfl (ends 1 (by rw[hwl,hw,aE (by simp),aE hc34])) (fun _=>rfl)
   |cons e t'=>
    (conv=>whnf);refine aF (fun h3=>?_) (fun h3=>?_);rotate_left
    ·exfalso;simp at h3;omega
    (conv=>whnf);refine⟨by decide,e,rfl,?_⟩;(conv=>whnf);refine nH (a0W e) ?_;(conv=>whnf);refine aF (fun h4=>?_) (fun h4=>?_)
    ·have hw:(d9 c||(c==45&&(e::t').head?.any cR))=true:=by simp[hc45,h4]
     (conv=>whnf);refine dG (fun k:Nat=>1<=k/\k<=(c::(e::t')).length/\k+(((c::(e::t')).drop k).takeWhile d9).length=1+((e::t').takeWhile d9).length)
      (fun k=>[(3,.s (c::(e::t'))),(6,.i .i64 k)]) (fun _=>⟨[rd s m d,.own 3 1 9],0,[]⟩) (fun k=>(c::(e::t')).length - k) 1
      ⟨rL _,by simp,rfl⟩ ⟨rfl,rfl,trivial⟩ rfl (fun k φ1 hk=>?_)
     obtain⟨hk1,hk2,hk3⟩:=hk;(conv=>whnf);have fin:((c::(e::t')).drop k).takeWhile d9=[]->(c::(e::t')).take k=H6 (c::(e::t')):=fun h0=>ends k (by rw[hwl,hw,aG rfl,<-hk3,h0];rfl);refine aF (fun hlt=>?_) (fun hlt=>?_)<;>conv=>whnf
     ·have hlt':k<(c::(e::t')).length:=by simp at hlt⊢;omega
      refine⟨cN _,(c::(e::t'))[k],by simp,?_⟩;(conv=>whnf);refine nH (GZ (c::(e::t'))[k]) ?_;(conv=>whnf);refine aF (fun hin=>?_) (fun hin=>?_)<;>conv=>whnf
      ·refine eQ (k+1) ⟨by omega,hlt',?_⟩ (by omega) ⟨rfl,b8 (by omega),trivial⟩ rfl;rw[aX hlt',eU,hin,aG rfl,aJ] at hk3;omega
      ·refine⟨cN _,⟨zL _,by simpa using hk2⟩,(c::(e::t')).take k,by simp,?_⟩;(conv=>whnf);exact kJ rfl (fin (by rw[aX hlt',eU,hin];rfl)) (fun _=>rfl)
     ·have hge:(c::(e::t')).length<=k:=by simp at hlt⊢;omega
      refine⟨cN _,⟨zL _,by simpa using hk2⟩,(c::(e::t')).take k,by simp,?_⟩;(conv=>whnf);exact kJ rfl (fin (by rw[fH hge];rfl)) (fun _=>rfl)
    ·have hw:(d9 c||(c==45&&(e::t').head?.any cR))=false:=by simp[h1,h4]
     (conv=>whnf);refine⟨dN 0,c,rfl,?_⟩;(conv=>whnf);refine aF (fun h34=>?_) (fun h34=>?_)<;>conv=>whnf
     ·have hc34:c=34:=j2 (d:=34) h34;refine dG (fun k:Nat=>1<=k/\k<=(c::(e::t')).length+1/\k+mQ ((c::(e::t')).drop k)=1+mQ (e::t'))
       (fun k=>[(3,.s (c::(e::t'))),(6,.i .i64 k)]) (fun _=>⟨[rd s m d,.own 3 1 9],0,[]⟩) (fun k=>(c::(e::t')).length+1 - k) 1
       ⟨rL _,by simp,rfl⟩ ⟨rfl,rfl,trivial⟩ rfl (fun k φ1 hk=>?_)
      obtain⟨hk1,hk2,hk3⟩:=hk;(conv=>whnf);have fin:mQ ((c::(e::t')).drop k)=0->∀q:Int,q=(if(((c::(e::t')).length:Nat):Int)<(k:Int)+1 then(((c::(e::t')).length:Nat):Int) else(k:Int)+1)->q.toNat=lQ (c::(e::t')):=fun h0 q hq=>by
       rw[hwl,hw,aE (by simp),aG hc34];rw[h0] at hk3;subst hq;split<;>omega
      have fin2:mQ ((c::(e::t')).drop k)=0->∀q:Int,q=(if(((c::(e::t')).length:Nat):Int)<IntKind.i64.wrap ((k:Int)+1) then(((c::(e::t')).length:Nat):Int) else IntKind.i64.wrap ((k:Int)+1))->0<=q/\q.toNat<=(c::(e::t')).length/\(c::(e::t')).take q.toNat=H6 (c::(e::t')):=fun h0 q hq=>by
       rw[cD (by omega) (by omega)] at hq;refine⟨?_,?_,ends _ (fin h0 q hq)⟩
       ·subst hq;split<;>omega
       ·subst hq;split<;>omega
      refine aF (fun hlt=>?_) (fun hlt=>?_)<;>conv=>whnf
      ·have hlt':k<(c::(e::t')).length:=by simp at hlt⊢;omega
       refine⟨cN _,(c::(e::t'))[k],by simp,?_⟩;(conv=>whnf);refine aF (fun hne=>?_) (fun hne=>?_)<;>conv=>whnf
       ·have hne':¬(c::(e::t'))[k]=34:=fun e=>by rw[e] at hne;simp at hne
        refine⟨cN _,(c::(e::t'))[k],by simp,?_⟩;(conv=>whnf);have hd:=aX hlt';refine aF (fun h92=>?_) (fun h92=>?_)<;>conv=>whnf
        ·have h92':=j2 (d:=92) h92;rw[hd,h92'] at hk3;refine eQ (k+2) ⟨by omega,by omega,?_⟩ (by omega) ⟨rfl,?_,trivial⟩ rfl
         ·rw[<-hk3];cases hdr:(c::(e::t')).drop (k+1) with
          |nil=>
           have:(c::(e::t')).drop (k+2)=[]:=by rw[<-j8 (i:=1),hdr];rfl
           rw[this,MC];rfl
          |cons x y=>
           have:(c::(e::t')).drop (k+2)=y:=by rw[<-j8 (i:=1),hdr];rfl
           rw[this,DT];omega
         ·show GV.i .i64 (IntKind.i64.wrap (IntKind.i64.wrap ((k:Int)+1)+1))=_;rw[cD (n:=(k:Int)+1) (by omega) (by omega),cD (n:=(k:Int)+1+1) (by omega) (by omega)];rfl
        ·have h92':=jV (d:=92) h92;refine eQ (k+1) ⟨by omega,by omega,?_⟩ (by omega) ⟨rfl,b8 (by omega),trivial⟩ rfl;rw[hd] at hk3;rw[F9 hne' h92'] at hk3;rw[<-hk3];omega
       ·have he:(c::(e::t'))[k]=34:=by
         have:((((c::(e::t'))[k]).toNat:Int)==((34:UInt8).toNat:Int))=true:=by simpa using hne
         exact j2 this
        have h0:mQ ((c::(e::t')).drop k)=0:=by rw[aX hlt',he,JP]
        obtain⟨f1,f2,f3⟩:=fin2 h0 _ rfl;refine⟨f1,⟨zL _,f2⟩,_,rfl,?_⟩;(conv=>whnf);exact kJ rfl (by simpa using f3) (fun _=>rfl)
      ·have hge:(c::(e::t')).length<=k:=by simp at hlt⊢;omega
       have h0:mQ ((c::(e::t')).drop k)=0:=by rw[fH hge];rfl
       obtain⟨f1,f2,f3⟩:=fin2 h0 _ rfl;refine⟨f1,⟨zL _,f2⟩,_,rfl,?_⟩;(conv=>whnf);exact kJ rfl (by simpa using f3) (fun _=>rfl)
     ·have hc34:=jV (d:=34) h34;refine⟨by decide,⟨by decide,by simp⟩,[c],rfl,?_⟩;(conv=>whnf);exact kJ rfl (ends 1 (by rw[hwl,hw,aE (by simp),aE hc34])) (fun _=>rfl)
   case el1=>
    have hw:(d9 c||(c==45&&t.head?.any cR))=false:=by
     have:=jV (d:=45) h2;simp[h1,this]
    (conv=>whnf);refine⟨dN 0,c,rfl,?_⟩;(conv=>whnf);refine aF (fun h34=>?_) (fun h34=>?_)<;>conv=>whnf
    ·have hc34:c=34:=j2 (d:=34) h34;refine dG (fun k:Nat=>1<=k/\k<=(c::t).length+1/\k+mQ ((c::t).drop k)=1+mQ t)
      (fun k=>[(3,.s (c::t)),(6,.i .i64 k)]) (fun _=>⟨[rd s m d,.own 3 1 9],0,[]⟩) (fun k=>(c::t).length+1 - k) 1
      ⟨rL _,by simp,rfl⟩ ⟨rfl,rfl,trivial⟩ rfl (fun k φ1 hk=>?_)
     obtain⟨hk1,hk2,hk3⟩:=hk;(conv=>whnf);have fin:mQ ((c::t).drop k)=0->∀q:Int,q=(if(((c::t).length:Nat):Int)<(k:Int)+1 then(((c::t).length:Nat):Int) else(k:Int)+1)->q.toNat=lQ (c::t):=fun h0 q hq=>by
      rw[hwl,hw,aE (by simp),aG hc34];rw[h0] at hk3;subst hq;split<;>omega
     have fin2:mQ ((c::t).drop k)=0->∀q:Int,q=(if(((c::t).length:Nat):Int)<IntKind.i64.wrap ((k:Int)+1) then(((c::t).length:Nat):Int) else IntKind.i64.wrap ((k:Int)+1))->0<=q/\q.toNat<=(c::t).length/\(c::t).take q.toNat=H6 (c::t):=fun h0 q hq=>by
      rw[cD (by omega) (by omega)] at hq;refine⟨?_,?_,ends _ (fin h0 q hq)⟩
      ·subst hq;split<;>omega
      ·subst hq;split<;>omega
     refine aF (fun hlt=>?_) (fun hlt=>?_)<;>conv=>whnf
     ·have hlt':k<(c::t).length:=by simp at hlt⊢;omega
      refine⟨cN _,(c::t)[k],by simp,?_⟩;(conv=>whnf);refine aF (fun hne=>?_) (fun hne=>?_)<;>conv=>whnf
      ·have hne':¬(c::t)[k]=34:=fun e=>by rw[e] at hne;simp at hne
       refine⟨cN _,(c::t)[k],by simp,?_⟩;(conv=>whnf);have hd:=aX hlt';refine aF (fun h92=>?_) (fun h92=>?_)<;>conv=>whnf
       ·have h92':=j2 (d:=92) h92;rw[hd,h92'] at hk3;refine eQ (k+2) ⟨by omega,by omega,?_⟩ (by omega) ⟨rfl,?_,trivial⟩ rfl
        ·rw[<-hk3];cases hdr:(c::t).drop (k+1) with
         |nil=>
          have:(c::t).drop (k+2)=[]:=by rw[<-j8 (i:=1),hdr];rfl
          rw[this,MC];rfl
         |cons x y=>
          have:(c::t).drop (k+2)=y:=by rw[<-j8 (i:=1),hdr];rfl
          rw[this,DT];omega
        ·show GV.i .i64 (IntKind.i64.wrap (IntKind.i64.wrap ((k:Int)+1)+1))=_;rw[cD (n:=(k:Int)+1) (by omega) (by omega),cD (n:=(k:Int)+1+1) (by omega) (by omega)];rfl
       ·have h92':=jV (d:=92) h92;refine eQ (k+1) ⟨by omega,by omega,?_⟩ (by omega) ⟨rfl,b8 (by omega),trivial⟩ rfl;rw[hd] at hk3;rw[F9 hne' h92'] at hk3;rw[<-hk3];omega
      ·have he:(c::t)[k]=34:=by
        have:((((c::t)[k]).toNat:Int)==((34:UInt8).toNat:Int))=true:=by simpa using hne
        exact j2 this
       have h0:mQ ((c::t).drop k)=0:=by rw[aX hlt',he,JP]
       obtain⟨f1,f2,f3⟩:=fin2 h0 _ rfl;refine⟨f1,⟨zL _,f2⟩,_,rfl,?_⟩;(conv=>whnf);exact kJ rfl (by simpa using f3) (fun _=>rfl)
     ·have hge:(c::t).length<=k:=by simp at hlt⊢;omega
      have h0:mQ ((c::t).drop k)=0:=by rw[fH hge];rfl
      obtain⟨f1,f2,f3⟩:=fin2 h0 _ rfl;refine⟨f1,⟨zL _,f2⟩,_,rfl,?_⟩;(conv=>whnf);exact kJ rfl (by simpa using f3) (fun _=>rfl)
    ·have hc34:=jV (d:=34) h34;refine⟨by decide,⟨by decide,by simp⟩,[c],rfl,?_⟩;(conv=>whnf);exact kJ rfl (ends 1 (by rw[hwl,hw,aE (by simp),aE hc34])) (fun _=>rfl)
  case in1=>
   have hw:(d9 c||(c==45&&t.head?.any cR))=true:=by simp[h1]
   (conv=>whnf);refine dG (fun k:Nat=>1<=k/\k<=(c::t).length/\k+(((c::t).drop k).takeWhile d9).length=1+(t.takeWhile d9).length)
    (fun k=>[(3,.s (c::t)),(6,.i .i64 k)]) (fun _=>⟨[rd s m d,.own 3 1 9],0,[]⟩) (fun k=>(c::t).length - k) 1
    ⟨rL _,by simp,rfl⟩ ⟨rfl,rfl,trivial⟩ rfl (fun k φ1 hk=>?_)
   obtain⟨hk1,hk2,hk3⟩:=hk;(conv=>whnf);have fin:((c::t).drop k).takeWhile d9=[]->(c::t).take k=H6 (c::t):=fun h0=>ends k (by rw[hwl,hw,aG rfl,<-hk3,h0];rfl);refine aF (fun hlt=>?_) (fun hlt=>?_)<;>conv=>whnf
   ·have hlt':k<(c::t).length:=by simp at hlt⊢;omega
    refine⟨cN _,(c::t)[k],by simp,?_⟩;(conv=>whnf);refine nH (GZ (c::t)[k]) ?_;(conv=>whnf);refine aF (fun hin=>?_) (fun hin=>?_)<;>conv=>whnf
    ·refine eQ (k+1) ⟨by omega,hlt',?_⟩ (by omega) ⟨rfl,b8 (by omega),trivial⟩ rfl;rw[aX hlt',eU,hin,aG rfl,aJ] at hk3;omega
    ·refine⟨cN _,⟨zL _,by simpa using hk2⟩,(c::t).take k,by simp,?_⟩;(conv=>whnf);exact kJ rfl (fin (by rw[aX hlt',eU,hin];rfl)) (fun _=>rfl)
   ·have hge:(c::t).length<=k:=by simp at hlt⊢;omega
    refine⟨cN _,⟨zL _,by simpa using hk2⟩,(c::t).take k,by simp,?_⟩;(conv=>whnf);exact kJ rfl (fin (by rw[fH hge];rfl)) (fun _=>rfl)
