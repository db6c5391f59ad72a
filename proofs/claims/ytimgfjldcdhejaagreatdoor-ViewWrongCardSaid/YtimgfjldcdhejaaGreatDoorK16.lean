/- Part of ViewWrong. -/
import Derived.Test.YtimgfjldcdhejaaGreatDoorK15
import Derived.Lib.ItoaNum
import Derived.Lib.ItoaLen
set_option linter.all false
set_option maxRecDepth 100000
namespace Go.Proofs.YtimgfjldcdhejaaGreatDoor
section
open Go.RowKit
def sD:List UInt8->Nat
 |[]=>0
 |c::r=>if c=34 then 0 else if c=92 then(match r with
  |[]=>2
  |_::r'=>2+sD r') else 1+sD r
theorem X4 (l:List UInt8):sD (34::l)=0:=by cases l<;>rfl
theorem a1f:sD [92]=2:=rfl
theorem O8 (x:UInt8) (l:List UInt8):sD (92::x::l)=2+sD l:=by
 conv=>lhs;unfold sD
 rw[aC (by decide),aD rfl]
theorem O7 {c:UInt8} (h:¬c=34) (h':¬c=92) (l:List UInt8):sD (c::l)=1+sD l:=by
 conv=>lhs;unfold sD
 rw[aC h,aC h']
def mL (l:List UInt8):Nat:=
 match l with
 |[]=>0
 |c::t=>
  if[60,62].isPrefixOf l||[60,61].isPrefixOf l||[62,61].isPrefixOf l then 2
  else if dL c||(c==45&&t.head?.any cY) then 1+(t.takeWhile dL).length
  else if c=34 then min (2+sD t) l.length
  else 1
def NK (l:List UInt8):List UInt8:=l.take (mL l)
theorem a6i [MaxL] (s:List UInt8) (n:Nat) (d:Int) (hn:n<=s.length) (hs:s.length<b9):
  SC Tryz.prog 249 [.ptr 0 0] [rd s n d] (.val (.s (NK (s.drop (nb s n))))) [rd s (nb s n) d]:=by
 have hbl:=a2v s n d hn hs;have hnb:nb s n<=s.length:=by
  have:=(gW (l:=s.drop n) (· ==32)).length_le;simp at this;unfold nb;omega
 generalize nb s n=m at*;generalize hr:s.drop m=r at*;unfold b9 at hs;have hrl:r.length<=s.length:=by rw[<-hr];simp
 refine cO Tryz.func249 rfl ?_;conv=>whnf
 refine B0 (q:=0) hbl ?_;conv=>whnf
 refine lQ ?_;conv=>whnf
 refine⟨jR _,⟨by simpa using hnb,rL _⟩,r,by rw[aL,hr,aW (by rw[<-hr];simp)],?_⟩;conv=>whnf
 cases r with
 |nil=>exact jU rfl (.refl _) (fun _=>rfl) (fun _=>rfl)
 |cons c t=>
 conv=>whnf
 refine dD (fun i:Nat=>i<=3/\(0<i->[60,62].isPrefixOf (c::t)=false)/\(1<i->[60,61].isPrefixOf (c::t)=false)/\(2<i->[62,61].isPrefixOf (c::t)=false))
  (fun i=>[(3,.s (c::t)),(20,.sl (.own 1) [.s [60,62],.s [60,61],.s [62,61]]),(21,.i .i64 3),(22,.i .i64 i)]) (fun _=>⟨[rd s m d,.own 3 1 9],0,[]⟩) (fun i=>3 - i) 0
  ⟨by omega,fun h=>absurd h (by omega),fun h=>absurd h (by omega),fun h=>absurd h (by omega)⟩ ⟨rfl,rfl,rfl,rfl,trivial⟩ rfl (fun i φ0 hi=>?_)
 obtain⟨hi0,hi1,hi2,hi3⟩:=hi;have hc4:i=0∨i=1∨i=2∨i=3:=by omega
 have ends:∀k:Nat,k=mL (c::t)->(c::t).take k=NK (c::t):=fun k hk=>by rw[NK,hk]
 rcases hc4 with rfl|rfl|rfl|rfl
 ·conv=>whnf
  refine⟨eU 0,.s [60,62],rfl,rfl,?_⟩;conv=>whnf
  refine sL (AN (c::t) [60,62]) ?_;conv=>whnf
  apply gM<;>intro h<;>conv=>whnf
  ·refine r8 rfl ?_ (fun _=>rfl);rw[<-ends 2 (by simp[mL,h])];exact List.prefix_iff_eq_take.1 (List.isPrefixOf_iff_prefix.1 h)
  ·exact fR 1 ⟨by omega,fun _=>h,fun h=>absurd h (by omega),fun h=>absurd h (by omega)⟩ (by omega) ⟨rfl,rfl,rfl,rfl,trivial⟩ rfl
 ·conv=>whnf
  refine⟨by decide,.s [60,61],rfl,rfl,?_⟩;conv=>whnf
  refine sL (AN (c::t) [60,61]) ?_;conv=>whnf
  apply gM<;>intro h<;>conv=>whnf
  ·refine r8 rfl ?_ (fun _=>rfl);rw[<-ends 2 (by simp[mL,h])];exact List.prefix_iff_eq_take.1 (List.isPrefixOf_iff_prefix.1 h)
  ·exact fR 2 ⟨by omega,fun _=>hi1 (by omega),fun _=>h,fun h=>absurd h (by omega)⟩ (by omega) ⟨rfl,rfl,rfl,rfl,trivial⟩ rfl
 ·conv=>whnf
  refine⟨by decide,.s [62,61],rfl,rfl,?_⟩;conv=>whnf
  refine sL (AN (c::t) [62,61]) ?_;conv=>whnf
  apply gM<;>intro h<;>conv=>whnf
  ·refine r8 rfl ?_ (fun _=>rfl);rw[<-ends 2 (by simp[mL,h])];exact List.prefix_iff_eq_take.1 (List.isPrefixOf_iff_prefix.1 h)
  ·exact fR 3 ⟨by omega,fun _=>hi1 (by omega),fun _=>hi2 (by omega),fun _=>h⟩ (by omega) ⟨rfl,rfl,rfl,rfl,trivial⟩ rfl
 ·have hp1:=hi1 (by omega);have hp2:=hi2 (by omega);have hp3:=hi3 (by omega);clear hi0 hi1 hi2 hi3;have hwl:mL (c::t)=if dL c||(c==45&&t.head?.any cY) then 1+(t.takeWhile dL).length else if c=34 then min (2+sD t) (c::t).length else 1:=by
   simp only[mL,hp1,hp2,hp3];rfl
  conv=>whnf
  refine⟨eU 0,c,rfl,?_⟩;conv=>whnf
  refine sL (SY c) ?_;conv=>whnf
  refine bZ (fun h1=>?in1) (fun h1=>?n1)
  case' in1=>have hw:(dL c||(c==45&&t.head?.any cY))=true:=by simp[h1]
  case' n1=>
   (conv=>whnf);refine⟨eU 0,c,rfl,?_⟩;(conv=>whnf);refine bZ (fun h2=>?mi) (fun h2=>?el)
   case' el=>have hw:(dL c||(c==45&&t.head?.any cY))=false:=by simp[h1,o9 (d:=45) h2]
   case' mi=>
    have hc45:c=45:=mO (d:=45) h2;(conv=>whnf);refine bZ (fun h3=>?ln) (fun h3=>?sh)
    case' sh=>
     have hw:(dL c||(c==45&&t.head?.any cY))=false:=by
      cases t with
      |nil=>simp[h1]
      |cons a l=>have:=aA h3;simp only[aI] at this;omega
    case' ln=>
     have hl1:1<(c::t).length:=by have:=aB h3;omega
     obtain⟨e,he⟩:∃e,(c::t)[1]?=some e:=⟨_,gL hl1⟩;have hte:t.head?=some e:=by rw[fZ];exact he
     (conv=>whnf);refine⟨by decide,e,he,?_⟩;(conv=>whnf);refine sL (a4n e) ?_;(conv=>whnf);refine bZ (fun h4=>?tt) (fun h4=>?ff)
     case' tt=>have hw:(dL c||(c==45&&t.head?.any cY))=true:=by simp[hc45,hte,h4]
     case' ff=>have hw:(dL c||(c==45&&t.head?.any cY))=false:=by simp[h1,hte,h4]
  case el|sh|ff=>
   (conv=>whnf);refine⟨eU 0,c,rfl,?_⟩;(conv=>whnf);apply gM<;>intro h34<;>conv=>whnf
   ·have hc34:c=34:=mO (d:=34) h34;refine dD (fun k:Nat=>1<=k/\k<=(c::t).length+1/\k+sD ((c::t).drop k)=1+sD t)
     (fun k=>[(3,.s (c::t)),(6,.i .i64 k)]) (fun _=>⟨[rd s m d,.own 3 1 9],0,[]⟩) (fun k=>(c::t).length+1 - k) 1
     ⟨rL _,by simp,rfl⟩ ⟨rfl,rfl,trivial⟩ rfl (fun k φ1 hk=>?_)
    obtain⟨hk1,hk2,hk3⟩:=hk;(conv=>whnf);have fin:sD ((c::t).drop k)=0->∀q:Int,q=(if(((c::t).length:Nat):Int)<(k:Int)+1 then(((c::t).length:Nat):Int) else(k:Int)+1)->q.toNat=mL (c::t):=fun h0 q hq=>by
     rw[hwl,hw,aC (by simp),aD hc34];rw[h0] at hk3;subst hq;split<;>omega
    have fin2:sD ((c::t).drop k)=0->∀q:Int,q=(if(((c::t).length:Nat):Int)<IntKind.i64.wrap ((k:Int)+1) then(((c::t).length:Nat):Int) else IntKind.i64.wrap ((k:Int)+1))->0<=q/\q.toNat<=(c::t).length/\(c::t).take q.toNat=NK (c::t):=fun h0 q hq=>by
     rw[dB (by omega) (by omega)] at hq;refine⟨?_,?_,ends _ (fin h0 q hq)⟩
     ·subst hq;split<;>omega
     ·subst hq;split<;>omega
    apply gM<;>intro hlt<;>conv=>whnf
    ·have hlt':k<(c::t).length:=by simp at hlt⊢;omega
     refine⟨jR _,(c::t)[k],by simp,?_⟩;(conv=>whnf);apply gM<;>intro hne<;>conv=>whnf
     ·have hne':¬(c::t)[k]=34:=fun e=>by rw[e] at hne;simp at hne
      refine⟨jR _,(c::t)[k],by simp,?_⟩;(conv=>whnf);have hd:=b8 hlt';apply gM<;>intro h92<;>conv=>whnf
      ·have h92':=mO (d:=92) h92;rw[hd,h92'] at hk3;refine fR (k+2) ⟨by omega,by omega,?_⟩ (by omega) ⟨rfl,?_,trivial⟩ rfl
       ·rw[<-hk3];cases hdr:(c::t).drop (k+1) with
        |nil=>
         have:(c::t).drop (k+2)=[]:=by rw[<-j7 (i:=1),hdr];rfl
         rw[this,a1f];rfl
        |cons x y=>
         have:(c::t).drop (k+2)=y:=by rw[<-j7 (i:=1),hdr];rfl
         rw[this,O8];omega
       ·show GV.i .i64 (IntKind.i64.wrap (IntKind.i64.wrap ((k:Int)+1)+1))=_;rw[dB (n:=(k:Int)+1) (by omega) (by omega),dB (n:=(k:Int)+1+1) (by omega) (by omega)];rfl
      ·have h92':=o9 (d:=92) h92;refine fR (k+1) ⟨by omega,by omega,?_⟩ (by omega) ⟨rfl,bH (by omega),trivial⟩ rfl;rw[hd] at hk3;rw[O7 hne' h92'] at hk3;rw[<-hk3];omega
     ·have he:(c::t)[k]=34:=by
       have:((((c::t)[k]).toNat:Int)==((34:UInt8).toNat:Int))=true:=by simpa using hne
       exact mO this
      have h0:sD ((c::t).drop k)=0:=by rw[b8 hlt',he,X4]
      obtain⟨f1,f2,f3⟩:=fin2 h0 _ rfl;refine⟨f1,⟨zL _,f2⟩,_,rfl,?_⟩;(conv=>whnf);exact r8 rfl (by simpa using f3) (fun _=>rfl)
    ·have hge:(c::t).length<=k:=by simp at hlt⊢;omega
     have h0:sD ((c::t).drop k)=0:=by rw[eP hge];rfl
     obtain⟨f1,f2,f3⟩:=fin2 h0 _ rfl;refine⟨f1,⟨zL _,f2⟩,_,rfl,?_⟩;(conv=>whnf);exact r8 rfl (by simpa using f3) (fun _=>rfl)
   ·have hc34:=o9 (d:=34) h34;refine⟨by decide,⟨by decide,by simp⟩,[c],rfl,?_⟩;(conv=>whnf);exact r8 rfl (ends 1 (by rw[hwl,hw,aC (by simp),aC hc34])) (fun _=>rfl)
  case in1|tt=>
   (conv=>whnf);refine dD (fun k:Nat=>1<=k/\k<=(c::t).length/\k+(((c::t).drop k).takeWhile dL).length=1+(t.takeWhile dL).length)
    (fun k=>[(3,.s (c::t)),(6,.i .i64 k)]) (fun _=>⟨[rd s m d,.own 3 1 9],0,[]⟩) (fun k=>(c::t).length - k) 1
    ⟨rL _,by simp,rfl⟩ ⟨rfl,rfl,trivial⟩ rfl (fun k φ1 hk=>?_)
   obtain⟨hk1,hk2,hk3⟩:=hk;(conv=>whnf);have fin:((c::t).drop k).takeWhile dL=[]->(c::t).take k=NK (c::t):=fun h0=>ends k (by rw[hwl,hw,aD rfl,<-hk3,h0];rfl);apply gM<;>intro hlt<;>conv=>whnf
   ·have hlt':k<(c::t).length:=by simp at hlt⊢;omega
    refine⟨jR _,(c::t)[k],by simp,?_⟩;(conv=>whnf);refine sL (SY (c::t)[k]) ?_;(conv=>whnf);apply gM<;>intro hin<;>conv=>whnf
    ·refine fR (k+1) ⟨by omega,hlt',?_⟩ (by omega) ⟨rfl,bH (by omega),trivial⟩ rfl;rw[b8 hlt',gS,hin,aD rfl,aI] at hk3;omega
    ·refine⟨jR _,⟨zL _,by simpa using hk2⟩,(c::t).take k,by simp,?_⟩;(conv=>whnf);exact r8 rfl (fin (by rw[b8 hlt',gS,hin];rfl)) (fun _=>rfl)
   ·have hge:(c::t).length<=k:=by simp at hlt⊢;omega
    refine⟨jR _,⟨zL _,by simpa using hk2⟩,(c::t).take k,by simp,?_⟩;(conv=>whnf);exact r8 rfl (fin (by rw[eP hge];rfl)) (fun _=>rfl)
def skip (l:List UInt8):List UInt8:=l.dropWhile (· ==32)
theorem CX (l:List UInt8):(skip l).length<=l.length:=(List.dropWhile_suffix (· ==32)).length_le
theorem oQ (c:UInt8) (t:List UInt8):1<=mL (c::t):=by
 simp only[mL];split
 ·omega
 ·split
  ·omega
  ·split
   ·simp;omega
   ·omega
theorem W3 (l:List UInt8):mL l<=l.length:=by
 cases l with
 |nil=>simp[mL]
 |cons c t=>
  simp only[mL];split
  ·rename_i h;simp only[f6,List.isPrefixOf_iff_prefix] at h;rcases h with(h|h)|h<;>(have:=h.length_le;simpa using this)
  ·split
   ·have:=(gW (l:=t) dL).length_le;simp;omega
   ·split
    ·omega
    ·simp
def j6 (l:List UInt8):List (List UInt8):=
 match h:skip l with
 |[]=>[]
 |c::t=>NK (c::t)::j6 ((c::t).drop (mL (c::t)))
termination_by l.length
decreasing_by
 have h1:=CX l;have h2:=oQ c t;rw[h] at h1;simp at h1⊢;omega
theorem lI {l:List UInt8} (h:skip l=[]):j6 l=[]:=by
 rw[j6];split
 ·rfl
 ·rename_i h2;rw[h] at h2;cases h2
theorem oA {l:List UInt8} {c:UInt8} {t:List UInt8} (h:skip l=c::t):j6 l=NK (c::t)::j6 ((c::t).drop (mL (c::t))):=by
 rw[j6];split
 ·rename_i h2;rw[h] at h2;cases h2
 ·rename_i c' t' h2;rw[h] at h2;cases h2;rfl
theorem YX (l:List UInt8):skip (skip l)=skip l:=by
 induction l with
 |nil=>rfl
 |cons c t ih=>
  unfold skip at*;rw[List.dropWhile_cons];split
  ·exact ih
  ·rename_i h;rw[List.dropWhile_cons,aC h]
theorem EG (l:List UInt8):j6 (skip l)=j6 l:=by
 cases h:skip l with
 |nil=>rw[lI h];exact lI rfl
 |cons c t=>rw[oA h,oA (l:=c::t) (by rw[<-h,YX])]
theorem I0 (s:List UInt8) (n:Nat):s.drop (nb s n)=skip (s.drop n):=by
 unfold nb skip;rw[<-j7];generalize s.drop n=l;induction l with
 |nil=>rfl
 |cons c t ih=>
  rw[gS,List.dropWhile_cons];split
  ·simpa using ih
  ·simp
theorem a56 {s:List UInt8} {n:Nat} (hn:n<=s.length):nb s n<=s.length:=by
 have:=(gW (l:=s.drop n) (· ==32)).length_le;simp at this;unfold nb;omega
def At (s:List UInt8) (n:Nat) (ts:List (List UInt8)):Prop:=n<=s.length/\j6 (s.drop n)=ts
theorem At.nb {s:List UInt8} {n:Nat} {ts:List (List UInt8)} (h:At s n ts):At s (nb s n) ts:=⟨a56 h.1,by rw[I0,EG];exact h.2⟩
theorem At.head {s:List UInt8} {n:Nat} {ts:List (List UInt8)} (h:At s n ts):NK (s.drop (Go.Proofs.YtimgfjldcdhejaaGreatDoor.nb s n))=ts.headD []:=by
 rw[I0];cases hk:skip (s.drop n) with
 |nil=>rw[<-h.2,lI hk];rfl
 |cons c t=>rw[<-h.2,oA hk];rfl
theorem At.tail {s:List UInt8} {n:Nat} {w:List UInt8} {ts:List (List UInt8)} (h:At s n (w::ts)):1<=w.length/\At s (Go.Proofs.YtimgfjldcdhejaaGreatDoor.nb s n+w.length) ts:=by
 have h2:=h.2;have hd:=I0 s n;cases hk:skip (s.drop n) with
 |nil=>rw[lI hk] at h2;cases h2
 |cons c t=>
  rw[oA hk] at h2;cases h2;rw[hk] at hd;have hl:(NK (c::t)).length=mL (c::t):=by unfold NK;rw[aS];exact Nat.min_eq_left (W3 _)
  have hp:=oQ c t;have hle:=W3 (c::t);have hnl:=a56 h.1;have hlen:(s.drop (Go.Proofs.YtimgfjldcdhejaaGreatDoor.nb s n)).length=(c::t).length:=by rw[hd]
  rw[d9] at hlen;refine⟨by omega,by omega,?_⟩;rw[<-j7,hd,hl]
theorem rD [MaxL] (s:List UInt8) (n:Nat) (d:Int) {ts:List (List UInt8)} (h:At s n ts) (hs:s.length<b9):
  SC Tryz.prog 249 [.ptr 0 0] [rd s n d] (.val (.s (ts.headD []))) [rd s (nb s n) d]:=by
 have:=a6i s n d h.1 hs;rw[h.head] at this;exact this
theorem wI [MaxL] (s:List UInt8) (n:Nat) (d:Int) {w:List UInt8} {ts:List (List UInt8)} (h:At s n (w::ts)) (hs:s.length<b9):
  SC Tryz.prog 289 [.ptr 0 0,.s w] [rd s n d] (.val (.b true)) [rd s (nb s n+w.length) d]:=by
 have hw:=rD s n d h hs;obtain⟨h1,h2,_⟩:=h.tail;unfold b9 at hs;refine cO Tryz.func289 rfl ?_;conv=>whnf
 refine B0 (q:=0) hw ?_;conv=>whnf
 apply gM<;>intro hc<;>conv=>whnf
 ·simp at hc
 ·refine⟨[.i .i64 (nb s n+w.length:Nat)],⟨?_,rL _,rfl,bL rfl⟩,?_⟩
  ·rw[dB (by omega) (by omega)];rfl
  ·(conv=>whnf);exact uY rfl rfl (fun _=>rfl)
theorem H9 [MaxL] (s:List UInt8) (n:Nat) (d:Int) {w:List UInt8} {ts:List (List UInt8)} (h:At s n ts) (hs:s.length<b9) (hne:ts.headD []≠w):
  SC Tryz.prog 289 [.ptr 0 0,.s w] [rd s n d] (.val (.b false)) [rd s (nb s n) d]:=by
 have hw:=rD s n d h hs;unfold b9 at hs;refine cO Tryz.func289 rfl ?_;conv=>whnf
 refine B0 (q:=0) hw ?_;conv=>whnf
 apply gM<;>intro hc<;>conv=>whnf
 ·exact uY rfl rfl (fun _=>rfl)
 ·exact absurd (by simpa using hc) hne
end
section
abbrev By:=List UInt8
structure Term where
 name:By
 var:Bool
 v:Val
 deriving DecidableEq
inductive Tree where
 |pair (a:Bool) (l r:Tree)
 |no (t:Tree)
 |test (op:By) (l r:Term)
 |truth (b:Bool)
def EA:By:=[111,114]
def oS:By:=[97,110,100]
def kX:By:=[110,111,116]
def m8:By:=[116,114,117,101]
def kN:By:=[102,97,108,115,101]
def Z1:List By:=[[61],[60,62],[60],[60,61],[62],[62,61]]
def oB (w:By):Bool:=Z1.contains w
def v0:Val:=⟨0,0,[]⟩
def iB (lit:By->Option Val):List By->Option (Term×List By)
 |[]=>none
 |w::ts=>
  if w=[58] then match iB lit ts with
   |some (t,r)=>if t.name=[]∨t.var=true then none else some (⟨t.name,true,t.v⟩,r)
   |none=>none
  else if dU w&&!a7o.contains w then some (⟨w,false,v0⟩,ts)
  else match lit w with
   |some v=>some (⟨[],false,v⟩,ts)
   |none=>none
inductive Md where
 |or|orL (n:Tree)|and|andL (n:Tree)|not|prim
def Md.rk:Md->Nat
 |.or=>4
 |.and=>3
 |.not=>2
 |.prim=>1
 |_=>0
def bU (lit:By->Option Val):Nat->Md->Nat->Nat->List By->Option (Tree×List By×Nat)
 |0,_,_,_,_=>none
 |f+1,.or,lv,d,ts=>match bU lit f .and lv d ts with
  |some (n,r,e)=>bU lit f (.orL n) lv e r
  |none=>none
 |f+1,.orL n,lv,d,ts=>if ts.headD []=EA then match bU lit f .and lv d ts.tail with
   |some (m,r,e)=>bU lit f (.orL (.pair false n m)) lv e r
   |none=>none
  else some (n,ts,d)
 |f+1,.and,lv,d,ts=>match bU lit f .not lv d ts with
  |some (n,r,e)=>bU lit f (.andL n) lv e r
  |none=>none
 |f+1,.andL n,lv,d,ts=>if ts.headD []=oS then match bU lit f .not lv d ts.tail with
   |some (m,r,e)=>bU lit f (.andL (.pair true n m)) lv e r
   |none=>none
  else some (n,ts,d)
 |f+1,.not,lv,d,ts=>if ts.headD []=kX then match bU lit f .prim (lv+1) (max d (lv+1)) ts.tail with
   |some (n,r,e)=>some (.no n,r,e)
   |none=>none
  else bU lit f .prim lv d ts
 |f+1,.prim,lv,d,ts=>
  if ts.headD []=m8 then some (.truth true,ts.tail,d)
  else if ts.headD []=kN then some (.truth false,ts.tail,d)
  else if ts.headD []=[40] then match bU lit f .or (lv+1) (max d (lv+1)) ts.tail with
   |some (n,r,e)=>if r.headD []=[41] then some (n,r.tail,e) else none
   |none=>none
  else match iB lit ts with
   |some (a,r)=>if oB (r.headD []) then match iB lit r.tail with
     |some (b,r')=>some (.test (r.headD []) a b,r',d)
     |none=>none
    else none
   |none=>none
theorem sY {lit:By->Option Val}:∀{ts r:List By} {t:Term},iB lit ts=some (t,r)->r.length<ts.length
 |[],r,t,h=>by cases h
 |w::ts,r,t,h=>by
  unfold iB at h;split at h
  ·split at h
   ·rename_i h1;split at h
    ·cases h
    ·cases h;have:=sY h1;simp;omega
   ·cases h
  ·split at h
   ·cases h;simp
   ·split at h
    ·cases h;simp
    ·cases h
def Md.loop:Md->Bool
 |.orL _=>true
 |.andL _=>true
 |_=>false
theorem fU {ts:List By} {w:By} (h:ts.headD []=w) (hw:w≠[]):∃r,ts=w::r:=by
 cases ts with
 |nil=>exact absurd h.symm hw
 |cons a r=>exact⟨r,by rw[<-h];rfl⟩
theorem jT {lit:By->Option Val}:∀(f:Nat) (m:Md) (lv d:Nat) (ts r:List By) (t:Tree) (e:Nat),bU lit f m lv d ts=some (t,r,e)->
  r.length<=ts.length/\(m.loop=false->r.length<ts.length)/\d<=e/\e<=max d (lv+ts.length)
 |0,m,lv,d,ts,r,t,e,h=>by cases h
 |f+1,.or,lv,d,ts,r,t,e,h=>by
  unfold bU at h;split at h
  ·rename_i n r1 e1 h1;have a:=jT f _ _ _ _ _ _ _ h1;have b:=jT f _ _ _ _ _ _ _ h;have a2:=a.2.1 rfl;refine⟨?_,fun _=>?_,?_,?_⟩<;>omega
  ·cases h
 |f+1,.orL n,lv,d,ts,r,t,e,h=>by
  unfold bU at h;split at h
  ·rename_i hd;obtain⟨r0,rfl⟩:=fU hd (by decide);split at h
   ·rename_i n r1 e1 h1;have a:=jT f _ _ _ _ _ _ _ h1;have b:=jT f _ _ _ _ _ _ _ h;simp only[iH,aI] at*;exact⟨by omega,(fun h=>by cases h),by omega,by omega⟩
   ·cases h
  ·cases h;exact⟨rL _,(fun h=>by cases h),by omega,by omega⟩
 |f+1,.and,lv,d,ts,r,t,e,h=>by
  unfold bU at h;split at h
  ·rename_i n r1 e1 h1;have a:=jT f _ _ _ _ _ _ _ h1;have b:=jT f _ _ _ _ _ _ _ h;have a2:=a.2.1 rfl;refine⟨?_,fun _=>?_,?_,?_⟩<;>omega
  ·cases h
 |f+1,.andL n,lv,d,ts,r,t,e,h=>by
  unfold bU at h;split at h
  ·rename_i hd;obtain⟨r0,rfl⟩:=fU hd (by decide);split at h
   ·rename_i n r1 e1 h1;have a:=jT f _ _ _ _ _ _ _ h1;have b:=jT f _ _ _ _ _ _ _ h;simp only[iH,aI] at*;exact⟨by omega,(fun h=>by cases h),by omega,by omega⟩
   ·cases h
  ·cases h;exact⟨rL _,(fun h=>by cases h),by omega,by omega⟩
 |f+1,.not,lv,d,ts,r,t,e,h=>by
  unfold bU at h;split at h
  ·rename_i hd;obtain⟨r0,rfl⟩:=fU hd (by decide);split at h
   ·rename_i n r1 e1 h1;cases h;have a:=jT f _ _ _ _ _ _ _ h1;have a2:=a.2.1 rfl;simp only[iH,aI] at*;refine⟨?_,fun _=>?_,?_,?_⟩<;>omega
   ·cases h
  ·have a:=jT f _ _ _ _ _ _ _ h;exact⟨a.1,fun _=>a.2.1 rfl,a.2.2⟩
 |f+1,.prim,lv,d,ts,r,t,e,h=>by
  unfold bU at h;split at h
  ·rename_i hd;obtain⟨r0,rfl⟩:=fU hd (by decide);cases h;simp only[iH,aI] at*;refine⟨?_,fun _=>?_,?_,?_⟩<;>omega
  ·split at h
   ·rename_i hd;obtain⟨r0,rfl⟩:=fU hd (by decide);cases h;simp only[iH,aI] at*;refine⟨?_,fun _=>?_,?_,?_⟩<;>omega
   ·split at h
    ·rename_i hd;obtain⟨r0,rfl⟩:=fU hd (by decide);split at h
     ·rename_i n r1 e1 h1;have a:=jT f _ _ _ _ _ _ _ h1;have a2:=a.2.1 rfl;split at h
      ·rename_i hr;obtain⟨r2,rfl⟩:=fU hr (by decide);cases h;simp only[iH,aI] at*;refine⟨?_,fun _=>?_,?_,?_⟩<;>omega
      ·cases h
     ·cases h
    ·split at h
     ·rename_i a r1 h1;have l1:=sY h1;split at h
      ·split at h
       ·rename_i b r2 h2;have l2:=sY h2;cases h;simp only[List.length_tail] at*;refine⟨?_,fun _=>?_,?_,?_⟩<;>omega
       ·cases h
      ·cases h
     ·cases h
def jY (n:Nat):UInt8:=if n<10 then UInt8.ofNat (48+n) else UInt8.ofNat (87+n)
def nS (c:UInt8):By:=if c=34∨c=92 then[92,c] else if c.toNat<32∨126<c.toNat then[92,120,jY (c.toNat / 16),jY (c.toNat%16)] else[c]
def sC (s:By):By:=34::(s.flatMap nS++[34])
def eY (v:Val):By:=if v.k=1 then Lib.itoa v.n else sC v.s
def UO (v:Val):By:=if v.ok then eY v else[]
def Term.txt (t:Term):By:=if t.var then 58::t.name else if t.name≠[] then t.name else UO t.v
def lL (a:Bool):Nat:=if a then 2 else 1
def Tree.level:Tree->Nat
 |.pair a _ _=>lL a
 |.no _=>3
 |.test _ _ _=>4
 |.truth _=>4
def pQ (a:Bool):By:=if a then 32::(oS++[32]) else 32::(EA++[32])
def paren (b:Bool) (s:By):By:=if b then 40::(s++[41]) else s
def Tree.plain:Tree->By
 |.pair a l r=>paren (decide (l.level<lL a)) l.plain++pQ a++paren (decide (r.level<lL a)) r.plain
 |.no t=>kX++[32]++paren (decide (t.level<4)) t.plain
 |.test op l r=>l.txt++[32]++op++[32]++r.txt
 |.truth b=>if b then m8 else kN
def Tree.deep:Tree->Nat->Nat
 |.pair a l r,k=>(if lL a<k then 1 else 0)+max (l.deep (lL a)) (r.deep (lL a))
 |.no t,k=>(if 3<k then 1 else 0)+1+t.deep 4
 |_,k=>if 4<k then 1 else 0
def pW (a:Bool):Option Tree->Tree->Tree
 |none,t=>t
 |some x,t=>.pair a x t
def dA (a:Bool) (acc:Option Tree):Tree->Tree
 |.pair b l r=>if a=b then dA a (some (dA a acc l)) r else pW a acc (dA b (some (dA b none l)) r)
 |.no t=>pW a acc (.no (dA true none t))
 |t=>pW a acc t
def Tree.flat (t:Tree):Tree:=dA true none t
def Tree.sides (a:Bool):Tree->List Tree
 |.pair b l r=>if a=b then l.sides a++r.sides a else[.pair b l r]
 |t=>[t]
theorem KS (a b:Bool) (t:Tree):dA a none t=dA b none t:=by
 cases t with
 |pair c l r=>
  unfold dA;cases a<;>cases b<;>cases c<;>rfl
 |_=>rfl
theorem BE (a:Bool) (t:Tree):t.flat=dA a none t:=KS true a t
theorem s3 (a:Bool):∀(t:Tree) (acc:Option Tree),some (dA a acc t)=(t.sides a).foldl (fun q x=>some (pW a q x.flat)) acc
 |.pair b l r,acc=>by
  unfold dA Tree.sides;by_cases h:a=b
  ·rw[aD h,aD h,k6,<-s3 a l acc,<-s3 a r]
  ·rw[aC h,aC h];show _=some (pW a acc (Tree.pair b l r).flat);rw[BE b];congr 2;conv=>rhs;unfold dA
   rw[aD rfl]
 |.no t,acc=>rfl
 |.test _ _ _,acc=>rfl
 |.truth _,acc=>rfl
theorem tR (a:Bool) (t:Tree):t.sides a≠[]:=by
 induction t with
 |pair b l r ihl ihr=>
  unfold Tree.sides;split
  ·simp[ihl]
  ·simp
 |_=>simp[Tree.sides]
def Tree.size:Tree->Nat
 |.pair _ l r=>l.size+r.size+1
 |.no t=>t.size+1
 |_=>1
theorem xU {a:Bool}:∀{t x:Tree},x∈t.sides a->x.size<=t.size
 |.pair b l r,x,h=>by
  unfold Tree.sides at h;split at h
  ·rcases List.mem_append.1 h with h|h
   ·have:=xU h;simp only[Tree.size];omega
   ·have:=xU h;simp only[Tree.size];omega
  ·simp at h;subst h;exact rL _
 |.no t,x,h=>by simp[Tree.sides] at h;subst h;exact rL _
 |.test _ _ _,x,h=>by simp[Tree.sides] at h;subst h;exact rL _
 |.truth _,x,h=>by simp[Tree.sides] at h;subst h;exact rL _
theorem CZ {a:Bool} {l r x:Tree} (h:x∈(Tree.pair a l r).sides a):x.size<(Tree.pair a l r).size:=by
 unfold Tree.sides at h;rw[aD rfl] at h;rcases List.mem_append.1 h with h|h
 ·have:=xU h;simp only[Tree.size];omega
 ·have:=xU h;simp only[Tree.size];omega
theorem FJ (a:Bool) (l r:Tree):∃x xs,(Tree.pair a l r).sides a=x::xs/\(Tree.pair a l r).flat=xs.foldl (fun q y=>.pair a q y.flat) x.flat:=by
 cases h:(Tree.pair a l r).sides a with
 |nil=>exact absurd h (tR _ _)
 |cons x xs=>
  refine⟨x,xs,rfl,?_⟩;have:=s3 a (.pair a l r) none;rw[h] at this;rw[BE a];have key:∀(ys:List Tree) (q:Tree),ys.foldl (fun q x=>some (pW a q x.flat)) (some q)=some (ys.foldl (fun q y=>.pair a q y.flat) q):=by
   intro ys;induction ys with
   |nil=>intro q;rfl
   |cons y ys ih=>intro q;exact ih _
  rw[eV] at this;rw[show(pW a none x.flat)=x.flat from rfl,key] at this;exact bA this
open Go.RowKit
theorem a07 [MaxL] (l:List UInt8):SC Tryz.prog 316 [.s l] [] (.val (.fn (.func 325) [] [.ptr 0 0])) [.box 9 [.s l]]:=by
 refine bQ oP mixed Tryz.func316 rfl (bL rfl) (by simp) rfl ?_;conv=>whnf
 refine⟨[0],Lies.one rfl (fun _=>rfl) (by simp),fun i hi=>absurd hi (bP i),?_⟩;show Wk _ (GV.fn _ [] [.ptr (jZ [0] 1 0) 0]);rw[lD (by simp)];exact .refl _
def a2H:List UInt8:=[48,49,50,51,52,53,54,55,56,57,97,98,99,100,101,102]
theorem GE:∀n:Fin 256,0<=((n:Nat):Int).fdiv (2^min (Int.toNat 4) IntKind.u8.bits)/\a2H[(((n:Nat):Int).fdiv (2^min (Int.toNat 4) IntKind.u8.bits)).toNat]?=some (jY ((n:Nat) / 16))/\
  (Utf8.encode ((jY ((n:Nat) / 16)).toNat:Int)).data.toList=[jY ((n:Nat) / 16)]:=by decide+kernel
theorem GD:∀n:Fin 256,0<=bits .and .u8 ((n:Nat):Int) 15/\a2H[(bits .and .u8 ((n:Nat):Int) 15).toNat]?=some (jY ((n:Nat)%16))/\
  (Utf8.encode ((jY ((n:Nat)%16)).toNat:Int)).data.toList=[jY ((n:Nat)%16)]:=by decide+kernel
theorem DP (l:List UInt8):(l.flatMap nS).length<=4*l.length:=by
 induction l with
 |nil=>simp
 |cons c l ih=>
  rw[dV,aG,aI];have:(nS c).length<=4:=by unfold nS;split;simp;split<;>simp
  omega
def wrO (vc:List GV) (s:List UInt8) (L:GObj) (bs:List UInt8):List GObj:=[.box 101 vc,iO 1 2 bs,nN bs.length,.box 9 [.s s],.dfr,L]
theorem VU [MaxL] (vc:List GV) (s:List UInt8) (L:GObj) (hL:L.notHeld=true) (hs:s.length<100000) (bs0:List UInt8) (h0:bs0.length<100)
  (hb:∀bs e:List UInt8,bs.length+e.length<1000000000->Fact Tryz.prog (.yld 5) [.s e] ⟨wrO vc s L bs,0,[]⟩ (.val (.b true)) ⟨wrO vc s L (bs++e),0,[]⟩):
  SC Tryz.prog 325 [.yld 5,.ptr 3 0] (wrO vc s L bs0) (.val (.tup [])) (wrO vc s L (bs0++s.flatMap nS)):=by
 refine bQ oP mixed Tryz.func325 rfl (bL rfl) (by simp[wrO]) (by simp only[wrO,e8,hL];rfl) ?_;conv=>whnf
 refine dD (fun i:Nat=>i<=s.length) (fun i=>[(0,.yld 5),(1,.ptr 3 0),(7,.i .i64 s.length),(8,.i .i64 i)]) (fun i=>⟨wrO vc s L (bs0++(s.take i).flatMap nS),0,[]⟩) (fun i=>s.length - i) 0 (zL _) ⟨rfl,rfl,rfl,rfl,trivial⟩ (by simp) (fun i φ0 hi=>?_);conv=>whnf
 apply gM<;>intro h<;>conv=>whnf
 ·have hlt:i<s.length:=by simp at h;omega
  have hgi:s[i]?=some (s.getD i 0):=by rw[aO,gL hlt];rfl
  have htk:(s.take (i+1)).flatMap nS=(s.take i).flatMap nS++nS (s.getD i 0):=by
   rw[aT,hgi,List.flatMap_append];simp
  have hlen:((s.take i).flatMap nS).length<=4*i:=by
   have:=DP (s.take i);rw[aS] at this;omega
  have w1:IntKind.i64.wrap ((i:Int)+1)=((i+1:Nat):Int):=dB (by omega) (by omega);generalize hc:s.getD i 0=c at*;refine⟨jR _,?_⟩;conv=>whnf
  refine⟨by rw[w1];omega,?_⟩;conv=>whnf
  refine⟨⟨by rw[w1];omega,by rw[w1];omega⟩,[c],?_,?_⟩
  ·rw[w1,aL,aL,b8 hlt,show i+1 - i=1 by omega];rw[gL hlt] at hgi;cases hgi;rfl
  conv=>whnf
  refine⟨jR _,c,by simpa using hgi,?_⟩;conv=>whnf
  apply gM<;>intro h34<;>conv=>whnf
  ·refine⟨by simp[wL],[92,c],rfl,?_⟩;(conv=>whnf);refine SV (hb _ [92,c] (by rw[aG];simp only[aI,bO];omega)) ?_;(conv=>whnf);refine fR (i+1) hlt (by omega) ⟨rfl,rfl,rfl,bH (by omega),trivial⟩ ?_;rw[htk,<-bD,show nS c=[92,c] from aD (.inl (mO (d:=34) h34))]
  apply gM<;>intro h92<;>conv=>whnf
  ·refine⟨by simp[wL],[92,c],rfl,?_⟩;(conv=>whnf);refine SV (hb _ [92,c] (by rw[aG];simp only[aI,bO];omega)) ?_;(conv=>whnf);refine fR (i+1) hlt (by omega) ⟨rfl,rfl,rfl,bH (by omega),trivial⟩ ?_;rw[htk,<-bD,show nS c=[92,c] from aD (.inr (mO (d:=92) h92))]
  have hn34:=o9 (d:=34) h34;have hn92:=o9 (d:=92) h92;have e1:∀{x y:List UInt8},(if c=34∨c=92 then x else y)=y:=fun{x y}=>aC (by simp[hn34,hn92]);apply gM<;>intro h32<;>conv=>whnf
  ·skip;refine lQ ?_;(conv=>whnf);refine⟨by decide,?_⟩;(conv=>whnf);refine⟨(GE ⟨c.toNat,cV c⟩).1,jY (c.toNat / 16),(GE ⟨c.toNat,cV c⟩).2.1,?_⟩;(conv=>whnf);refine⟨by rw[(GE ⟨c.toNat,cV c⟩).2.2];simp[wL],[92,120,jY (c.toNat / 16)],by rw[(GE ⟨c.toNat,cV c⟩).2.2];rfl,?_⟩;(conv=>whnf);refine⟨(GD ⟨c.toNat,cV c⟩).1,jY (c.toNat%16),(GD ⟨c.toNat,cV c⟩).2.1,?_⟩;(conv=>whnf);refine⟨by rw[(GD ⟨c.toNat,cV c⟩).2.2];simp[wL],[92,120,jY (c.toNat / 16),jY (c.toNat%16)],by rw[(GD ⟨c.toNat,cV c⟩).2.2];rfl,?_⟩;(conv=>whnf);refine SV (hb _ [92,120,jY (c.toNat / 16),jY (c.toNat%16)] (by rw[aG];simp only[aI,bO];omega)) ?_;(conv=>whnf);refine fR (i+1) hlt (by omega) ⟨rfl,rfl,rfl,bH (by omega),trivial⟩ ?_;rw[htk,<-bD,show nS c=[92,120,jY (c.toNat / 16),jY (c.toNat%16)] from(e1).trans (aD (by simp at h32;omega))]
  apply gM<;>intro h126<;>conv=>whnf
  ·skip;refine lQ ?_;(conv=>whnf);refine⟨by decide,?_⟩;(conv=>whnf);refine⟨(GE ⟨c.toNat,cV c⟩).1,jY (c.toNat / 16),(GE ⟨c.toNat,cV c⟩).2.1,?_⟩;(conv=>whnf);refine⟨by rw[(GE ⟨c.toNat,cV c⟩).2.2];simp[wL],[92,120,jY (c.toNat / 16)],by rw[(GE ⟨c.toNat,cV c⟩).2.2];rfl,?_⟩;(conv=>whnf);refine⟨(GD ⟨c.toNat,cV c⟩).1,jY (c.toNat%16),(GD ⟨c.toNat,cV c⟩).2.1,?_⟩;(conv=>whnf);refine⟨by rw[(GD ⟨c.toNat,cV c⟩).2.2];simp[wL],[92,120,jY (c.toNat / 16),jY (c.toNat%16)],by rw[(GD ⟨c.toNat,cV c⟩).2.2];rfl,?_⟩;(conv=>whnf);refine SV (hb _ [92,120,jY (c.toNat / 16),jY (c.toNat%16)] (by rw[aG];simp only[aI,bO];omega)) ?_;(conv=>whnf);refine fR (i+1) hlt (by omega) ⟨rfl,rfl,rfl,bH (by omega),trivial⟩ ?_;rw[htk,<-bD,show nS c=[92,120,jY (c.toNat / 16),jY (c.toNat%16)] from(e1).trans (aD (by simp at h126;omega))]
  refine SV (hb _ [c] (by rw[aG];simp only[aI,bO];omega)) ?_;conv=>whnf
  refine fR (i+1) hlt (by omega) ⟨rfl,rfl,rfl,bH (by omega),trivial⟩ ?_;rw[htk,<-bD,show nS c=[c] from(e1).trans (aC (by simp at h32 h126;omega))]
 ·have:i=s.length:=by simp at h;omega
  subst this;rw[aV];refine⟨List.range 6,Lies.all (wrO vc s L (bs0++s.flatMap nS)) (fun x hx e=>?_),fun j hj=>?_,?_⟩
  ·subst e;simp[wrO,iO,nN] at hx;subst hx;cases hL
  ·have:j<6:=hj;simp[this]
  ·exact .refl _
theorem a05 [MaxL] (v:Val) (hv:v.s.length<100000) (h0: -9223372036854775808<=v.n) (h1:v.n<=9223372036854775807):SC Tryz.prog 308 [v.gv] [] (.val (.s (eY v))) []:=by
 obtain⟨k,n,s⟩:=v;refine cO Tryz.func308 rfl ?_;conv=>whnf
 apply gM<;>intro hk<;>conv=>whnf
 ·have:k=1:=by simpa using hk
  subst this;refine sL (VW n h0 h1) ?_;conv=>whnf
  exact gO rfl
 ·have:k≠1:=by simpa using hk
  refine uN (DZ 34) [1] (objs':=[.box 101 [.i .i64 k,.i .i64 n,.s s],iO 1 2 [34],nN 1]) (Lies.one' rfl (by simp[E3])) (wR _) rfl rfl rfl rfl ?_;conv=>whnf
  refine uN (a07 s) [] (objs':=[.box 101 [.i .i64 k,.i .i64 n,.s s],iO 1 2 [34],nN 1,.box 9 [.s s]]) Lies.nil (wR _) rfl rfl rfl rfl ?_;conv=>whnf
  have hv':s.length<100000:=hv;refine⟨.val (.tup []),⟨wrO [.i .i64 k,.i .i64 n,.s s] s (.loop .ready none _ _ _ _ _ 4) ([34]++s.flatMap nS),0,[.coll 4]⟩,SC.factAll (VU [.i .i64 k,.i .i64 n,.s s] s (.loop .ready none _ _ _ _ _ 4) rfl (by omega) [34] (by simp) (fun bs e hl=>?hb)) rfl rfl ?hh,?_⟩
  case hb=>
   refine Fact.yld oP mixed (r:=5) rfl rfl (by kernel_rfl) rfl rfl (rL _) rfl rfl ?_;(conv=>whnf);refine a4c hl rfl ?_;(conv=>whnf);rfl
  case hh=>
   intro x hx e;subst e;simp[wrO,iO,nN] at hx
  have hlen:=DP s;conv=>whnf
  refine a4d (bs:=[34]++s.flatMap nS) (c:=34) (by rw[aG];simp only[aI,bO];omega) rfl ?_;conv=>whnf
  refine a2n (M:=fun _=>false) (c:=34) (t:=s.flatMap nS++[34]) (by rw[aG];simp only[aI,bO];omega) rfl ?_;conv=>whnf
  refine gO ?_;unfold eY;rw[aC this];rfl
def nV (vs:List Val):List UInt8:=Lib.join (vs.map eY) [44]
theorem MJ {v:Val} (h:v.ok=true): -1000000000<=v.n/\v.n<=1000000000/\v.s.length<=40:=by
 simp[Val.ok] at h;rcases h with⟨⟨⟨_,h1⟩,h2⟩,h3⟩|⟨⟨_,h2⟩,h3⟩
 ·refine⟨h2,h3,by rw[h1];simp⟩
 ·refine⟨by omega,by omega,h3⟩
theorem nB [MaxL] {e:Nat->Nat} {r:Nat} {l:List GV} (h:e r=r) (hl:ClL l):(GV.sl (.own r) l).ren e=.sl (.own r) l:=by
 rw[GV.ren,cU,hl e];show GV.sl (.own (e r)) l=_;rw[h]
def ow (T:TypeId) (k:Nat):Nat->GObj
 |0=>.own 0 0 0
 |i+1=>.own (i+1) k T
theorem qO [MaxL] (T:TypeId) (k i:Nat) (f:Nat->Nat):(ow T k i).ren f=ow T k i:=by cases i<;>rfl
theorem l5 (T:TypeId) (k i:Nat):(ow T k i).notHeld=true:=by cases i<;>rfl
def C2 (vs:List Val):List GV:=vs.map fun v=>.s (eY v)
theorem a4G (l:List (List UInt8)) (pQ:List UInt8) (b:Nat) (h:∀x∈l,x.length<=b):(Lib.join l pQ).length<=(b+pQ.length)*l.length:=by
 have hl:∀l:List (List UInt8),(∀x∈l,x.length<=b)->Lib.lens l<=b*l.length:=by
  intro l;induction l with
  |nil=>intro _;simp[Lib.lens]
  |cons x r ih=>
   intro h;have h1:=h x (by simp);have h2:=ih fun y hy=>h y (by simp[hy]);have e:Lib.lens (x::r)=x.length+Lib.lens r:=by simp[Lib.lens]
   rw[e,aI,Nat.mul_add];omega
 cases l with
 |nil=>simp[Lib.join]
 |cons x r=>
  rw[Lib.join_length];have:=hl _ h;have e:(b+pQ.length)*(x::r).length=b*(x::r).length+pQ.length*(r.length+1):=by rw[gR,aI]
  rw[e,Nat.mul_add];omega
theorem a3a (vs:List Val):(C2 vs).all (fun x=>x.cells.length==1)=true:=by
 rw[aQ];intro x hx;obtain⟨v,_,rfl⟩:=List.mem_map.1 hx;rfl
theorem CQ [MaxL] (vs:List Val) (hb:vs.length<b9):SC Tryz.prog 295 [.sl .none (kF vs)] [] (.val (.s (if tV vs then nV vs else[]))) []:=by
 refine cO Tryz.func295 rfl ?_;conv=>whnf
 refine bT (CO vs hb) (wR _) rfl (cC (bK (lH vs)) (fun _=>rfl)) (.b _) ?_;conv=>whnf
 by_cases hok:tV vs=true
 ·rw[hok];conv=>whnf
  have hok':=hok;simp only[tV,aF,aJ] at hok';obtain⟨h8,hall⟩:=hok';rw[aQ] at hall;refine dH (fun i:Nat=>i<=vs.length) (fun i=>[(3,.sl (.own 0) (C2 (vs.take i))),(9,.sl .none (kF vs)),(10,.i .i64 (kF vs).length),(11,.i .i64 i)])
   (fun i=>⟨[ow 9 1 i],0,[]⟩) (fun i=>vs.length - i) 0 (zL _) ⟨rfl,rfl,rfl,rfl,trivial⟩ rfl (fun _ _=>rL _) (fun i _=>by simp[l5]) (fun i _ e he=>?_) (fun i φ0 hi=>?_)
  ·refine⟨by simp[qO],rfl,?_⟩;show[(GV.sl (.own 0) (C2 (vs.take i))).ren e,(GV.sl .none (kF vs)).ren e,_,_]=_;rw[nB (he 0 (by simp)) (l:=C2 (vs.take i)) (iA (fun _=>Cl.s _) _),bK (lH vs) e];rfl
  conv=>whnf
  apply gM<;>intro h<;>conv=>whnf
  ·have hlt:i<vs.length:=by simp[kF] at h;omega
   have hgi:vs[i]?=some (vs.getD i ⟨0,0,[]⟩):=by rw[aO,gL hlt];rfl
   have hin:=MJ (hall _ (aE hgi));have htk:C2 (vs.take (i+1))=C2 (vs.take i)++[.s (eY (vs.getD i ⟨0,0,[]⟩))]:=by
    rw[aT,hgi];simp[C2]
   generalize vs.getD i ⟨0,0,[]⟩=v at*;refine⟨jR _,v.gv,by simp[kF,hgi],rfl,?_⟩;(conv=>whnf);refine sT ?_;(conv=>whnf);refine mG (a05 v (by omega) (by omega) (by omega)) (.s _) ?_;(conv=>whnf);have hlen:(C2 (vs.take i)).length=i:=by simp[C2];omega
   cases i with
   |zero=>
    refine⟨⟨rfl,rfl,bL rfl⟩,C2 (vs.take 1),1,⟨htk,rfl⟩,?_⟩;(conv=>whnf);refine aN ?_;(conv=>whnf);exact⟨vs.length - 1,(by show _<vs.length - 0;omega),1,hlt,rfl,⟨rfl,rfl,rfl,rfl,trivial⟩,_,rfl,rfl⟩
   |succ j=>
    refine⟨⟨rfl,a3a _,by show(C2 (vs.take (j+1))).length+1<=4294967296;omega⟩,C2 (vs.take (j+1+1)),j+1+1,⟨htk,by show _=(C2 (vs.take (j+1))).length+1;omega⟩,?_⟩;(conv=>whnf);refine⟨⟨zL _,by rw[hlen],.inl ⟨rfl,rfl⟩⟩,?_⟩;(conv=>whnf);exact⟨vs.length - (j+1+1),(by show _<vs.length - (j+1);omega),j+1+1,hlt,rfl,⟨rfl,rfl,rfl,bH (by omega),trivial⟩,_,rfl,rfl⟩
  ·have:i=vs.length:=by simp[kF] at h;omega
   subst this;rw[aV];have e:C2 vs=(vs.map eY).map .s:=by simp[C2]
   rw[e];have hlw:∀x∈vs.map eY,x.length<=170:=fun x hx=>by
    obtain⟨v,hv,rfl⟩:=List.mem_map.1 hx;have:=MJ (hall v hv);unfold eY;split
    ·have:=Lib.itoa_length_le v.n (by omega) (by omega);omega
    ·have:=DP v.s;simp only[sC,aI,aG,bO];omega
   refine bT (a2x (vs.map eY) [44] (by simp;omega) ?_) (wC (bY _ _) (wR _)) rfl (cC (bK (iA Cl.s _)) (fun _=>rfl)) (.s _) ?_
   ·exact dG (a4G (vs.map eY) [44] 170 hlw) (by simp;omega)
   (conv=>whnf);exact gO rfl
 ·rw[Bool.not_eq_true] at hok;rw[hok];exact gO rfl
end
