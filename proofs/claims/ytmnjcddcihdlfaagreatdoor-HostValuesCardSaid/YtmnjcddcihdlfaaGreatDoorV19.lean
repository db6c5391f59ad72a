/- Part of HostValues. -/
import Derived.Test.YtmnjcddcihdlfaaGreatDoorV18
set_option linter.all false
set_option maxRecDepth 100000
namespace Go.Proofs.YtmnjcddcihdlfaaGreatDoor
section
open Go.RowKit
def lY (c:UInt8):Option Nat:=if 48<=c.toNat/\c.toNat<=57 then some (c.toNat - 48) else if 97<=c.toNat/\c.toNat<=102 then some (c.toNat - 87) else none
def rq:List UInt8->Option (List UInt8×List UInt8)
 |[]=>none
 |c::r=>if c=34 then some ([],r) else if c.toNat<32∨126<c.toNat then none else if c=92 then(match r with
   |[]=>none
   |e::r1=>if e=34∨e=92 then(rq r1).map fun p=>(e::p.1,p.2) else if e=120 then(match r1 with
     |a::b::r2=>(match lY a with
      |some x=>(match lY b with
       |some y=>if 32<=16*x+y/\16*x+y<=126 then none else(rq r2).map fun p=>(UInt8.ofNat (16*x+y)::p.1,p.2)
       |none=>none)
      |none=>none)
     |_=>none) else none)
  else(rq r).map fun p=>(c::p.1,p.2)
theorem YJ:rq []=none:=rfl
theorem II (r:List UInt8):rq (34::r)=some ([],r):=by
 conv=>lhs;unfold rq
 rfl
theorem AW {c:UInt8} (h:c≠34) (h':c.toNat<32∨126<c.toNat) (r:List UInt8):rq (c::r)=none:=by
 conv=>lhs;unfold rq
 rw[aB h,aA h']
theorem SE {c:UInt8} (h:c≠34) (h':¬(c.toNat<32∨126<c.toNat)) (h'':c≠92) (r:List UInt8):rq (c::r)=(rq r).map fun p=>(c::p.1,p.2):=by
 conv=>lhs;unfold rq
 rw[aB h,aB h',aB h'']
theorem AV {e:UInt8} (h:e=34∨e=92) (r:List UInt8):rq (92::e::r)=(rq r).map fun p=>(e::p.1,p.2):=by
 conv=>lhs;unfold rq
 rw[aB (by decide),aB (by decide),aA rfl];show(if e=34∨e=92 then _ else _)=_;rw[aA h]
theorem SD (a b:UInt8) (r:List UInt8):rq (92::120::a::b::r)=match lY a with
  |some x=>(match lY b with
   |some y=>if 32<=16*x+y/\16*x+y<=126 then none else(rq r).map fun p=>(UInt8.ofNat (16*x+y)::p.1,p.2)
   |none=>none)
  |none=>none:=by
 conv=>lhs;unfold rq
 rfl
theorem oL {r:List UInt8} (h:∀e r1,r=e::r1->¬(e=34∨e=92)/\(e=120->∀a b r2,r1≠a::b::r2)):rq (92::r)=none:=by
 conv=>lhs;unfold rq
 rw[aB (by decide),aB (by decide),aA rfl];cases r with
 |nil=>rfl
 |cons e r1=>
  obtain⟨h1,h2⟩:=h e r1 rfl;show(if e=34∨e=92 then _ else _)=_;rw[aB h1];by_cases h3:e=120
  ·rw[aA h3];rcases r1 with _|⟨a,_|⟨b,r2⟩⟩
   ·rfl
   ·rfl
   ·exact absurd rfl (h2 h3 a b r2)
  ·rw[aB h3]
theorem wI {c:UInt8} {n:Nat} (h:lY c=some n):n<16:=by
 unfold lY at h;split at h
 ·cases h;omega
 ·split at h
  ·cases h;omega
  ·cases h
theorem xV (c:UInt8):DC c=match lY c with|some n=>(n:Int)|none=> -1:=by
 unfold DC lY;split
 ·simp;omega
 ·split
  ·simp;omega
  ·rfl
def LU (n k:Nat):Option (List UInt8×List UInt8)->List UInt8×Nat
 |some (t,r)=>(t,n - r.length - k)
 |none=>([],0)
def kB (s:List UInt8) (k:Nat):List UInt8×Nat:=if s[k]?=some 34 then LU s.length k (rq (s.drop (k+1))) else([],0)
theorem XL [MaxL] {α:Type} {f:α->GV} {c n:Nat} (hf:∀a,(f a).cells.length=c) (o ys:List α) {vs:List GV} {A:Prop} {K:List GV->Nat->Prop} (hA:A) (hl:o.length+ys.length<=4294967296) (k:K ((o++ys).map f) (o++ys).length) (hv:ys.map f=vs) (hn:ys.length=n):
  GNeed (A/\(o.map f).all (fun x=>x.cells.length==c)=true/\(o.map f).length+n<=4294967296) (∃zs m,GNeed (zs=o.map f++vs/\m=(o.map f).length+n) (K zs m)):=by
 subst hv hn;exact⟨⟨hA,by
  rw[aZ];intro x hx;obtain⟨b,_,rfl⟩:=List.mem_map.1 hx;rw[hf];exact beq_self_eq_true _,by rw[aS];exact hl⟩,_,_,⟨by rw[dI],by rw[aS,aX]⟩,k⟩
set_option maxHeartbeats 4000000 in
theorem VX [MaxL] (s:List UInt8) (hs:s.length<1000000) (k:Nat) (hk:k<=s.length):SC Tryz.prog 221 [.s s,.i .i64 (k:Nat)] [] (.val (.tup [.s (kB s k).1,.i .i64 ((kB s k).2:Nat)])) []:=by
 obtain⟨O,hO0⟩:∃O,O=kB s k:=⟨_,rfl⟩;rw[<-hO0];unfold kB at hO0;refine bI Tryz.func221 rfl ?_;conv=>whnf
 refine e6 (fun h1=>?_) (fun h1=>?_)
 ·have h1':s.length<=k:=by have:=aO h1;omega
  rw[aB (by rw[b6 h1'];simp)] at hO0;cases hO0;conv=>whnf
  exact oW
 have h1':k<s.length:=by have:=aW h1;omega
 have hgk:s[k]?=some (s.getD k 0):=by rw[aL,gL h1'];rfl
 generalize s.getD k 0=c0 at*;conv=>whnf
 refine GNeed.mk (fK _) ⟨c0,by rw[aD];exact hgk,?_⟩;conv=>whnf
 apply gM<;>intro h34<;>conv=>whnf
 ·have:=p8 (d:=34) h34;rw[aB (by rw[hgk];intro h;exact this (aV h))] at hO0;cases hO0;exact oW
 have h34':=nV (d:=34) h34;rw[aA (by rw[hgk,h34'])] at hO0;generalize hR:rq (s.drop (k+1))=R at hO0;have hO:O=LU s.length k R:=hO0;clear hO0 h34 h34' hgk h1;refine GLoop.introS (fun q:Nat×List UInt8=>k<q.1/\q.1<=s.length/\q.2.length<=q.1/\(rq (s.drop q.1)).map (fun p=>(q.2++p.1,p.2))=R)
  (fun q=>[(0,.s s),(1,.i .i64 (k:Nat)),(6,.sl (.own 0) (qP q.2)),(7,.i .i64 (q.1:Nat))]) (fun q=>⟨[ow 5 1 q.2.length],0,[]⟩) (fun q=>s.length - q.1) (k+1,[]) ⟨by omega,by omega,by simp,?_⟩ ⟨rfl,rfl,rfl,cT (by omega),trivial⟩ rfl (fun _ _=>rL _) (fun q _=>by simp only[List.all_cons,G0];rfl) (fun q _ e he=>?_) (fun q φ0 hq=>?_)
 ·rw[<-hR];show Option.map _ (rq (s.drop (k+1)))=_;cases rq (s.drop (k+1))<;>rfl
 ·refine⟨by simp[LX],rfl,?_⟩;show[_,_,(GV.sl (.own 0) (qP q.2)).ren e,_]=_;rw[A4 (he 0 (by simp)) (l:=qP q.2) (ClL.mapOf (fun _=>Cl.i _ _) _)];rfl
 obtain⟨i,out⟩:=q;obtain⟨hik,hi,hol,hq⟩:=hq;replace hik:k<i:=hik;replace hi:i<=s.length:=hi;replace hol:out.length<=i:=hol;replace hq:(rq (s.drop i)).map (fun p=>(out++p.1,p.2))=R:=hq;conv=>whnf
 refine e6 (fun h1=>?_) (fun h1=>?_);rotate_left
 ·have hie:i=s.length:=by have:=aW h1;omega
  subst hie;conv=>whnf
  apply gM<;>intro h2<;>conv=>whnf
  ·have hr:O=([],0):=hO.trans (by rw[<-hq,eQ (rL _),YJ];rfl);cases hr;exact oW
  ·exfalso;have:=aW h2;omega
 have hlt:i<s.length:=by have:=aO h1;omega
 have hgi:s[i]?=some (s.getD i 0):=by rw[aL,gL hlt];rfl
 have hd:s.drop i=s.getD i 0::s.drop (i+1):=by
  rw[bD hlt,aL,gL hlt];rfl
 generalize s.getD i 0=c at*;have hgi':s[((i:Nat):Int).toNat]?=some c:=by rw[aD];exact hgi
 rw[hd] at hq;conv=>whnf
 refine GNeed.mk (fK _) ⟨c,hgi',?_⟩;conv=>whnf
 refine e6 (fun h34=>?_) (fun h34=>?_);rotate_left
 ·have hc:=nV (d:=34) h34;rw[hc,II] at hq;conv=>whnf
  apply gM<;>intro h2<;>conv=>whnf
  ·exfalso;have:=aO h2;omega
  have hr:O=(out,i+1 - k):=hO.trans (by
   rw[<-hq];show(out++[],s.length - (s.drop (i+1)).length - k)=_;rw[eH,cU];congr 1;omega)
  cases hr;refine⟨out,EZ out,?_⟩;conv=>whnf
  refine oO (cJ ?_) (Cl.tup (.cons (.s _) (.cons (.i _ _) .nil)));show GV.tup [.s out,.i .i64 (IntKind.i64.wrap (IntKind.i64.wrap ((i:Int)+1) - (k:Int)))]=.tup [.s out,.i .i64 ((i+1 - k:Nat):Int)];rw[bN (n:=(i:Int)+1) (by omega) (by omega),bN (by omega) (by omega)];have h:(i:Int)+1 - (k:Int)=((i+1 - k:Nat):Int):=by omega
  rw[h]
 have hc34:=p8 (d:=34) h34;conv=>whnf
 refine GNeed.mk (fK _) ⟨c,hgi',?_⟩;conv=>whnf
 apply gM<;>intro hl32<;>conv=>whnf
 ·have:=aO hl32;have hr:O=([],0):=hO.trans (by rw[<-hq,AW hc34 (.inl (by omega))];rfl);cases hr;exact oW
 apply gM<;>intro hg126<;>conv=>whnf
 ·have:=aO hg126;have hr:O=([],0):=hO.trans (by rw[<-hq,AW hc34 (.inr (by omega))];rfl);cases hr;exact oW
 have hpr:¬(c.toNat<32∨126<c.toNat):=by have h8:=aW hl32;have h9:=aW hg126;omega
 clear hl32 hg126;have W:∀j:Nat,j<=4->IntKind.i64.wrap ((i:Int)+(j:Int))=((i+j:Nat):Int):=fun j h=>by rw[bN (by omega) (by omega)];rfl
 have w1:IntKind.i64.wrap ((i:Int)+1)=((i+1:Nat):Int):=W 1 (by decide);have w2:IntKind.i64.wrap ((i:Int)+2)=((i+2:Nat):Int):=W 2 (by decide);have w3:IntKind.i64.wrap ((i:Int)+3)=((i+3:Nat):Int):=W 3 (by decide);have w4:IntKind.i64.wrap ((i:Int)+4)=((i+4:Nat):Int):=W 4 (by decide);refine e6 (fun h92=>?zp) (fun h92=>?zq)
 case' zp=>
  rw[SE hc34 hpr (p8 (d:=92) h92)] at hq;obtain⟨m,em⟩:∃m,m=i+1:=⟨_,rfl⟩;obtain⟨w,ew⟩:∃w,w=c:=⟨_,rfl⟩;have hv:(c.toNat:Int)=(w.toNat:Int):=by rw[ew]
  rw[<-em] at hq w1;rw[<-ew] at hq;have wm:=w1;have hm:m<=s.length:=by omega
 case' zq=>
  conv=>whnf
  have hc92:=nV (d:=92) h92;subst hc92;clear h92 hgi' hd hgi;apply gM<;>intro e1<;>conv=>whnf
  rotate_left
  ·have hl1:s.length<=i+1:=by have:=aW e1;rw[w1] at this;omega
   have hn:s.drop (i+1)=[]:=eQ hl1;apply gM<;>intro e3<;>conv=>whnf
   ·exfalso;have:=aO e3;rw[w3] at this;omega
   have hr:O=([],0):=hO.trans (by rw[<-hq,hn,oL (fun e r1 h=>by cases h)];rfl);cases hr;exact oW
  have hl1:i+1<s.length:=by have:=aO e1;rw[w1] at this;omega
  have hge:s[i+1]?=some (s.getD (i+1) 0):=by rw[aL,gL hl1];rfl
  have hd1:s.drop (i+1)=s.getD (i+1) 0::s.drop (i+2):=by
   rw[bD hl1,aL,gL hl1];rfl
  generalize s.getD (i+1) 0=e at*;rw[hd1] at hq;have ge1:s[(IntKind.i64.wrap ((i:Int)+1)).toNat]?=some e:=by rw[w1,aD];exact hge
  have gp1:0<=IntKind.i64.wrap ((i:Int)+1):=by rw[w1];exact fK _
  refine GNeed.mk gp1 ⟨e,ge1,?_⟩;conv=>whnf
  refine e6 (fun e34=>?zr) (fun e34=>?zt)
  case' zr=>have he:e=34∨e=92:=.inl (s9 (d:=34) e34)
  case' zt=>
   have he34:=uN (d:=34) e34;(conv=>whnf);refine GNeed.mk gp1 ⟨e,ge1,?_⟩;(conv=>whnf);refine e6 (fun e92=>?zu) (fun e92=>?zv)
   case' zu=>have he:e=34∨e=92:=.inr (s9 (d:=92) e92)
   case' zv=>
    (conv=>whnf);have he92:=uN (d:=92) e92;apply gM<;>intro e3<;>conv=>whnf
    rotate_left
    ·have hl3:s.length<=i+3:=by have:=aW e3;rw[w3] at this;omega
     have hsh:(s.drop (i+2)).length<=1:=by rw[cU];omega
     have hr:O=([],0):=hO.trans (by rw[<-hq,oL (fun e0 r1 h=>by cases h;exact⟨fun h=>h.elim he34 he92,fun _ a b r2 h=>by rw[h] at hsh;simp at hsh⟩)];rfl);cases hr;exact oW
    have hl3:i+3<s.length:=by have:=aO e3;rw[w3] at this;omega
    refine GNeed.mk gp1 ⟨e,ge1,?_⟩;(conv=>whnf);apply gM<;>intro e120<;>conv=>whnf
    rotate_left
    ·have he120:=uN (d:=120) e120;have hr:O=([],0):=hO.trans (by rw[<-hq,oL (fun e0 r1 h=>by cases h;exact⟨fun h=>h.elim he34 he92,fun h=>absurd h he120⟩)];rfl);cases hr;exact oW
    have he120:=s9 (d:=120) e120;obtain⟨a,b,hab,ha,hb⟩:∃a b,s.drop (i+2)=a::b::s.drop (i+4)/\s[i+2]?=some a/\s[i+3]?=some b:=
     ⟨s[i+2],s[i+3],by rw[bD (by omega),bD (by omega)],gL _,gL _⟩
    rw[hab,he120,SD] at hq;have ga:s[(IntKind.i64.wrap ((i:Int)+2)).toNat]?=some a:=by rw[w2,aD];exact ha
    have gb:s[(IntKind.i64.wrap ((i:Int)+3)).toNat]?=some b:=by rw[w3,aD];exact hb
    have gp2:0<=IntKind.i64.wrap ((i:Int)+2):=by rw[w2];exact fK _
    have gp3:0<=IntKind.i64.wrap ((i:Int)+3):=by rw[w3];exact fK _
    refine GNeed.mk gp2 ⟨a,ga,?_⟩;(conv=>whnf);refine vD (w7 a) ?_;(conv=>whnf);apply gM<;>intro na<;>conv=>whnf
    rotate_left
    ·have hx:=aW na;rw[xV] at hx;have hxn:lY a=none:=by
      cases h:lY a with
      |none=>rfl
      |some x=>rw[h] at hx;simp at hx
     have hr:O=([],0):=hO.trans (by rw[<-hq,hxn];rfl);cases hr;exact oW
    obtain⟨x,hxn⟩:∃x,lY a=some x:=by
     have hx:=aO na;rw[xV] at hx;cases h:lY a with
     |none=>rw[h] at hx;simp at hx
     |some x=>exact⟨x,rfl⟩
    refine GNeed.mk gp3 ⟨b,gb,?_⟩;(conv=>whnf);refine vD (w7 b) ?_;(conv=>whnf);apply gM<;>intro nb<;>conv=>whnf
    rotate_left
    ·have hx:=aW nb;rw[xV] at hx;have hyn:lY b=none:=by
      cases h:lY b with
      |none=>rfl
      |some x=>rw[h] at hx;simp at hx
     have hr:O=([],0):=hO.trans (by rw[<-hq,hxn,hyn];rfl);cases hr;exact oW
    obtain⟨y,hyn⟩:∃y,lY b=some y:=by
     have hx:=aO nb;rw[xV] at hx;cases h:lY b with
     |none=>rw[h] at hx;simp at hx
     |some x=>exact⟨x,rfl⟩
    have hx16:=wI hxn;have hy16:=wI hyn;have sa:DC a=(x:Int):=by rw[xV,hxn]
    have sb:DC b=(y:Int):=by rw[xV,hyn]
    rw[hxn,hyn] at hq;replace hq:Option.map (fun p=>(out++p.1,p.2)) (if 32<=16*x+y/\16*x+y<=126 then none else(rq (s.drop (i+4))).map fun p=>(UInt8.ofNat (16*x+y)::p.1,p.2))=R:=hq;have hv:IntKind.i64.wrap (IntKind.i64.wrap (16*DC a)+DC b)=((16*x+y:Nat):Int):=by
     rw[sa,sb,bN (n:=16*(x:Int)) (by omega) (by omega),bN (by omega) (by omega)];omega
    have hV:IntKind.u8.wrap (IntKind.i64.wrap (IntKind.i64.wrap (16*DC a)+DC b))=((UInt8.ofNat (16*x+y)).toNat:Int):=by
     rw[hv,YB,UInt8.toNat_ofNat'];omega
    refine gP ?_;(conv=>whnf);refine GNeed.mk gp2 ⟨a,ga,?_⟩;(conv=>whnf);refine vD (w7 a) ?_;(conv=>whnf);refine GNeed.mk gp3 ⟨b,gb,?_⟩;(conv=>whnf);refine vD (w7 b) ?_;(conv=>whnf);refine e6 (fun g1=>?zx) (fun g1=>?zz)
    case' zx=>
     (conv=>whnf);refine e6 (fun g2=>?zx1) (fun g2=>?zx2)
     case zx1=>
      (conv=>whnf);have g1':=aO g1;have g2':=aO g2;rw[hv] at g1' g2';have hr:O=([],0):=hO.trans (by rw[<-hq,aA ⟨by omega,by omega⟩];rfl);cases hr;exact oW
     have hn:¬(32<=16*x+y/\16*x+y<=126):=by have g2':=aW g2;rw[hv] at g2';omega
    case' zz=>have hn:¬(32<=16*x+y/\16*x+y<=126):=by have g1':=aW g1;rw[hv] at g1';omega
    all_goals
     rw[aB hn] at hq;obtain⟨m,em⟩:∃m,m=i+4:=⟨_,rfl⟩;generalize UInt8.ofNat (16*x+y)=w at hV hq;rw[<-em] at hq w4;have wm:=w4;have hm:m<=s.length:=by omega
     clear hv;have hv:=hV
  case' zr|zu=>
   rw[AV he] at hq;obtain⟨m,em⟩:∃m,m=i+2:=⟨_,rfl⟩;obtain⟨w,ew⟩:∃w,w=e:=⟨_,rfl⟩;have hv:(e.toNat:Int)=(w.toNat:Int):=by rw[ew]
   rw[<-em] at hq w2;rw[<-ew] at hq;have wm:=w2;have hm:m<=s.length:=by omega
   (conv=>whnf);refine GNeed.mk gp1 ⟨e,ge1,?_⟩
 all_goals
  conv=>whnf
  cases out;all_goals
   refine XL (f:=fun c:UInt8=>GV.i .u8 c.toNat) (c:=1) (fun _=>rfl) _ [w] rfl (by simp only[aM,bW] at hol⊢;omega) ?_ (by first|(rw[hv];done)|(rw[hv];rfl)) rfl;(conv=>whnf);refine aN ?_ (h:=by first|rfl|exact(lN (_::_)).symm);(conv=>whnf);exact⟨s.length - m,(by show _<s.length - i;omega),(m,_++[w]),⟨by show k<m;omega,hm,(by show(_++[w]:List UInt8).length<=m;simp only[aX,aM,bW] at hol⊢;omega),by
    rw[<-hq];show Option.map _ (rq (s.drop m))=_;simp[dP]⟩,rfl,⟨rfl,rfl,rfl,(by show GV.i .i64 (IntKind.i64.wrap _)=_;rw[wm]),trivial⟩,_,rfl,rfl⟩
def mO (s:List UInt8):Val×Nat:=if s.head?=some 34 then(⟨2,0,(kB s 0).1⟩,(kB s 0).2) else(⟨1,(lX s).1,[]⟩,(lX s).2)
theorem PY [MaxL] (s:List UInt8) (hs:s.length<1000000):SC Tryz.prog 196 [.s s,.i .i64 0] [] (.val (.tup [(mO s).1.gv,.i .i64 ((mO s).2:Nat)])) []:=by
 refine bI Tryz.func196 rfl ?_;conv=>whnf
 apply gM<;>intro h1<;>conv=>whnf
 rotate_left
 ·have hn:s=[]:=by
   have:=aW h1;exact aI (by omega)
  subst hn;refine vD (IR [] (by show 0<dD;decide)) ?_;conv=>whnf
  refine sT ?_;conv=>whnf
  refine oO (.refl _) (fun _=>rfl)
 have h1':0<s.length:=by have:=aO h1;omega
 obtain⟨c,r,rfl⟩:∃c r,s=c::r:=by
  cases s with
  |nil=>simp at h1'
  |cons c r=>exact⟨c,r,rfl⟩
 refine GNeed.mk (cD _) ⟨c,rfl,?_⟩;conv=>whnf
 apply gM<;>intro h2<;>conv=>whnf
 ·have hc:=s9 (d:=34) h2;refine vD (VX (c::r) hs 0 (zL _)) ?_;conv=>whnf
  refine sT ?_;conv=>whnf
  have hq:mO (c::r)=(⟨2,0,(kB (c::r) 0).1⟩,(kB (c::r) 0).2):=by unfold mO;rw[aA (by rw[hc];rfl)]
  rw[hq];exact oW
 have hc:=uN (d:=34) h2;refine vD (IR (c::r) (by unfold dD;omega)) ?_;conv=>whnf
 refine sT ?_;conv=>whnf
 have hq:mO (c::r)=(⟨1,(lX (c::r)).1,[]⟩,(lX (c::r)).2):=by unfold mO;exact aB (fun h=>hc (aV h))
 rw[hq];exact oW
def rr:Nat->List UInt8->Option (List Val)
 |0,_=>none
 |f+1,l=>match rv l with
  |none=>none
  |some (v,r)=>if r=[] then some [v] else if r.head?=some 44 then(rr f r.tail).map (v:: ·) else none
def iG (w:List UInt8):Option (List Val):=
 if w=[] then some [] else match rr (w.length+1) w with
 |some vs=>if nX vs&&decide (mB vs=w) then some vs else none
 |none=>none
theorem S9:∀(f:Nat) {l t r:List UInt8},l.length<f->rt l=some (t,r)->r<:+l
 |0,l,_,_,hf,_=>by omega
 |f+1,l,t,r,hf,h=>by
  have step:∀{l':List UInt8} {g:List UInt8->List UInt8},l'.length<f->(rt l').map (fun p=>(g p.1,p.2))=some (t,r)->r<:+l':=fun hl h=>by
   rw[aC] at h;obtain⟨⟨t',r'⟩,h1,h2⟩:=h;cases h2;exact S9 f hl h1
  cases l with
  |nil=>cases h
  |cons c l=>
   simp only[aM] at hf;by_cases h34:c=34
   ·subst h34;rw[SB] at h;cases h;exact List.suffix_cons _ _
   by_cases h92:c=92
   ·subst h92;cases l with
    |nil=>cases h
    |cons e l=>
     by_cases h120:e=120
     ·subst h120;rcases l with _|⟨a,_|⟨b,l⟩⟩
      ·cases h
      ·cases h
      ·rw[YH] at h;split at h
       ·simp only[aM] at hf;have:=step (g:=fun x=>_::x) (by omega) h;exact this.trans ⟨[92,120,a,b],rfl⟩
       ·cases h
     ·rw[SA h120] at h;simp only[aM] at hf;have:=step (g:=fun x=>_::x) (by omega) h;exact this.trans ⟨[92,e],rfl⟩
   ·rw[YI h34 h92] at h;have:=step (g:=fun x=>_::x) (by omega) h;exact this.trans ⟨[c],rfl⟩
theorem YG {l r:List UInt8} {v:Val} (h:rv l=some (v,r)):r<:+l:=by
 unfold rv at h;split at h
 ·rename_i hd;cases l with
  |nil=>cases hd
  |cons c l=>
   rw[aC] at h;obtain⟨⟨t',r'⟩,h1,h2⟩:=h;cases h2;exact(S9 _ (eJ _) h1).trans (List.suffix_cons _ _)
 ·split at h
  ·split at h
   ·cases h;exact List.dropWhile_suffix _
   ·cases h
  ·cases h
def onM (l:List FuncId):FuncId->Bool:=fun k=>!l.contains k
def O2 (s:List UInt8) (n:Nat):List Val->List GObj
 |[]=>[.box 23 [.sl .full []],.box 28 [.i .i64 0],zI s n]
 |v::vs=>[.box 23 [.sl (.own 4) (hU (v::vs))],.box 28 [.i .i64 0],zI s n,.own 1 3 27,.own (v::vs).length 3 27]
theorem tZ (s:List UInt8) (n m:Nat) (vs:List Val):(O2 s n []).length<=(O2 s m vs).length:=by cases vs<;>simp[O2]
theorem SV [MaxL] (s:List UInt8) (n:Nat) (vs:List Val):(O2 s n vs).all GObj.notHeld=true:=by cases vs<;>rfl
theorem VZ [MaxL] (s:List UInt8) (n:Nat) (vs:List Val) {e:Nat->Nat} (he:∀i,i<(O2 s n vs).length->e i=i):(O2 s n vs).map (GObj.ren e)=O2 s n vs:=by
 cases vs with
 |nil=>rfl
 |cons v vs=>
  show[GObj.box _ [(GV.sl (.own 4) (hU (v::vs))).ren e],_,_,_,_]=_;rw[A4 (he 4 (by simp[O2])) (jF _)];rfl
theorem J1 {s:List UInt8} {vs:List Val} (hs:s≠[]) (hr:rr (s.length+1) s=some vs) (h:nX vs=false∨¬mB vs=s):iG s=none:=by
 unfold iG;rw[aB hs,hr];rcases h with h|h<;>simp[h]
theorem FX {s:List UInt8} {vs:List Val} (hs:s≠[]) (hr:rr (s.length+1) s=some vs) (h:nX vs=true) (h':mB vs=s):iG s=some vs:=by
 unfold iG;rw[aB hs,hr];simp[h,h']
theorem J3 [MaxL] {g g':GV} {r0:GRes} {σ0:GS} (h:r0=.val g) (hw:Wk g g') (hc:Cl g'):Owes [] (.val g') [] r0 σ0:=by
 subst h;exact oO hw hc
theorem a0J [MaxL] {a a' b b':GV} (h:Wk a a') (h':Wk b b'):Wk (.tup [a,b]) (.tup [a',b']):=fun C v hv=>by
 cases hv with
 |tup hl hv=>
 refine .tup hl (fun j g u h1 h2=>?_);rcases j with _|_|j
 ·simp at h1;subst h1;exact h C _ (hv 0 a u rfl h2)
 ·simp at h1;subst h1;exact h' C _ (hv 1 b u rfl h2)
 ·simp at h1
theorem AM [MaxL] {k:IntKind} {n:Int}:Wk (.tup [.sl .full [],.i k n]) (.tup [.sl .none [],.i k n]):=a0J (b5 _ _) (.refl _)
theorem L2 [MaxL] {k:IntKind} {n:Int}:Cl (.tup [.sl .none [],.i k n]):=Cl.tup (.cons (Cl.sl ClL.nil) (.cons (.i _ _) .nil))
theorem RV (vs:List Val):(hU vs).all (fun x=>x.cells.length==3)=true:=by
 rw[aZ];intro x hx;obtain⟨v,_,rfl⟩:=List.mem_map.1 hx;rfl
set_option maxHeartbeats 4000000 in
theorem XH [MaxL] (s:List UInt8) (hs:s.length<1000000):SC Tryz.prog 162 [.s s] [] (.val (if 20000<s.length then .tup [.sl .none [],.i .i64 3] else match iG s with|some vs=>.tup [.sl .none (hU vs),.i .i64 0]|none=>.tup [.sl .none [],.i .i64 2])) []:=by
 refine f8 (onM [182]) mixed Tryz.func162 rfl (bL rfl) (rL _) rfl ?_;conv=>whnf
 apply gM<;>intro h<;>conv=>whnf
 ·have:20000<s.length:=by simp at h;omega
  rw[aA this];refine sT ?_;conv=>whnf
  refine sT ?_;conv=>whnf
  exact FY (b5 _ _) (.refl _) (Cl.sl ClL.nil) (.i _ _)
 rw[aB (by simp at h;omega)];generalize hO:(match iG s with|some vs=>GV.tup [.sl .none (hU vs),.i .i64 0]|none=>.tup [.sl .none [],.i .i64 2])=O;generalize hR:rr (s.length+1) s=R;refine GLoop.introS (fun q:Nat×Nat×List Val=>q.2.1<=s.length/\s.length - q.2.1<q.1/\q.2.2.length<=q.2.1/\(rr q.1 (s.drop q.2.1)).map (fun x=>q.2.2++x)=R)
  (fun q=>[(0,.s s),(2,.ptr 0 0),(3,.ptr 1 0),(4,.ptr 2 0)]) (fun q=>⟨O2 s q.2.1 q.2.2,0,[.fn 181 [] [.ptr 0 0,.ptr 1 0]]⟩) (fun q=>q.1) (s.length+1,0,[]) ⟨zL _,by simp,by simp,?_⟩ ⟨rfl,rfl,rfl,rfl,trivial⟩ rfl ?_ ?_ ?_ (fun q φ0 hq=>?_)
 ·rw[<-hR];cases h:rr (s.length+1) (s.drop 0)<;>(rw[List.drop_zero] at h;simp[h])
 ·intro q _;exact tZ s 0 q.2.1 q.2.2
 ·intro q _;exact SV s q.2.1 q.2.2
 ·intro q _ e he;refine⟨VZ s q.2.1 q.2.2 he,?_,?_⟩
  ·show[GDef.fn _ [] [.ptr (e 0) 0,.ptr (e 1) 0]]=_;rw[he 0 (bV (by simp[O2]) (tZ s 0 q.2.1 q.2.2)),he 1 (bV (by simp[O2]) (tZ s 0 q.2.1 q.2.2))]
  ·show[GV.s s,.ptr (e 0) 0,.ptr (e 1) 0,.ptr (e 2) 0]=_;rw[he 0 (bV (by simp[O2]) (tZ s 0 q.2.1 q.2.2)),he 1 (bV (by simp[O2]) (tZ s 0 q.2.1 q.2.2)),he 2 (bV (by simp[O2]) (tZ s 0 q.2.1 q.2.2))];rfl
 obtain⟨f,n,vs⟩:=q;obtain⟨hn,hf,hv,hq⟩:=hq;replace hn:n<=s.length:=hn;replace hf:s.length - n<f:=hf;replace hv:vs.length<=n:=hv;replace hq:(rr f (s.drop n)).map (fun x=>vs++x)=R:=hq;obtain⟨f,rfl⟩:∃g,f=g+1:=⟨f - 1,by omega⟩;have hval:=XD s n hn hs;have hm:s.length<dD:=by unfold dD;omega
 have bad:iG s=none->GV.tup [.sl .none [],.i .i64 2]=O:=fun h=>by rw[<-hO,h]
 have good:∀ws,iG s=some ws->GV.tup [.sl .none (hU ws),.i .i64 0]=O:=fun ws h=>by rw[<-hO,h]
 by_cases hs0:s=[]
 ·obtain rfl:vs=[]:=aI (by rw[hs0] at hn;simp at hn;omega);conv=>whnf
  apply gM<;>intro hne<;>conv=>whnf
  ·exact absurd hs0 (by simpa using hne)
  have hpn:nX []=false∨¬mB []=s->iG s=none:=fun h=>h.elim (fun h=>by cases h) (fun h=>by subst hs0;exact absurd rfl h);have hpy:nX []=true->mB []=s->iG s=some []:=fun _ _=>by subst hs0;rfl
  have hb:(([]:List Val)).length<dD:=by decide
  refine iY (vQ ([]:List Val) hb) (wC (b5 _ _) Wks.nil) rfl (cC (Cl.sl (jF _)) ClL.nil) (.b _) ?_;conv=>whnf
  have hrow:nX ([]:List Val)=true:=rfl;obtain⟨T,hT⟩:∃T,T=mB ([]:List Val):=⟨_,rfl⟩;have hIT:=CY ([]:List Val) hb;rw[hrow,aA rfl,<-hT] at hIT;conv=>whnf
  refine iY hIT (wC (b5 _ _) Wks.nil) rfl (cC (Cl.sl (jF _)) ClL.nil) (.s _) ?_;conv=>whnf
  apply gM<;>intro htx<;>conv=>whnf
  ·have hOO:=bad (hpn (.inr (by rw[<-hT];simpa using htx)));cases hOO;exact J3 (g:=.tup [.sl .full [],.i .i64 2]) (by kernel_rfl) AM L2
  have hOO:=good _ (hpy hrow (by rw[<-hT];simpa using htx));cases hOO;refine sT ?_;conv=>whnf
  refine sT ?_;conv=>whnf
  exact FY (b5 _ _) (.refl _) (Cl.sl (jF _)) (.i _ _)
 have hpr:R=none->iG s=none:=fun h=>by unfold iG;rw[aB hs0,hR,h]
 obtain⟨os,hos⟩:∃os,os=vs:=⟨_,rfl⟩;rw[<-hos] at hv hq;rcases vs with _|⟨v0,vs⟩;all_goals
  conv=>whnf
  apply e6<;>intro hne;rotate_left
  ·exact absurd (by simpa using hne) hs0
  conv=>whnf
  rcases hrv:rv (s.drop n) with _|⟨v,r⟩<;>rw[hrv] at hval
  case none=>
   have hOO:=bad (hpr (by rw[<-hq];simp[rr,hrv]));cases hOO;refine GDraw.pan 2 _ rfl (by kernel_rfl) ?_;(conv=>whnf);refine pcD (q:=2) hval ?_;(conv=>whnf);exact J3 (g:=.tup [.sl .full [],.i .i64 2]) (by kernel_rfl) AM L2
  refine hH _ _ _ rfl rfl rfl (by kernel_rfl) ?_;conv=>whnf
  have hsuf:=YG hrv;have hrl:r.length<=s.length - n:=by simpa using hsuf.length_le
  have hrd:r=s.drop (s.length - r.length):=List.suffix_iff_eq_drop.1 (hsuf.trans (List.drop_suffix n s));obtain⟨z,zs,hz⟩:∃z zs,z::zs=os++[v]:=by rw[hos];exact⟨_,_,rfl⟩
  refine xK (q:=2) hval rfl (by first|exact wR _|exact wC (b5 _ _) (wR _)|exact wC (b5 _ _) (wC (b5 _ _) (wR _))|exact wC (iN _) (wC (b5 _ _) (wR _))) rfl rfl (by first|exact fun _=>rfl|exact cA|exact cB fun _=>rfl) (by first|exact fun _=>rfl|exact cA|exact cB fun _=>rfl) (by first|exact fun _=>rfl|exact cA|exact cB fun _=>rfl) (by first|exact fun _=>rfl|exact cA|exact cB fun _=>rfl) ?_;conv=>whnf
  first
   |refine⟨⟨rfl,rfl,bL rfl⟩,hU (z::zs),(z::zs).length,⟨by rw[hz,hos];rfl,by rw[hz,hos];rfl⟩,?_⟩
   |refine⟨⟨rfl,RV _,by show(hU (v0::vs)).length+1<=4294967296;rw[hos] at hv;simp[hU] at hv⊢;omega⟩,hU (z::zs),(z::zs).length,⟨by rw[hz,hos];simp[hU];rfl,by rw[hz,hos];simp[hU]⟩,?_⟩
    (conv=>whnf);refine⟨⟨zL _,by simp[hU],.inl ⟨rfl,rfl⟩⟩,?_⟩
  conv=>whnf
  refine sT ?_;conv=>whnf
  apply e6<;>intro he
  case yes=>
   (conv=>whnf);have hr0:r=[]:=by
    have:s.length - r.length=s.length:=by have h5:=eq_of_beq he;exact Int.ofNat.inj h5
    have h6:=List.length_pos_iff.2 hs0;exact aI (by omega)
   have hR0:R=some (z::zs):=by rw[<-hq,hz];simp[rr,hrv,hr0]
   have hpn:=fun h=>J1 hs0 (hR.trans hR0) h;have hpy:=fun h h'=>FX hs0 (hR.trans hR0) h h';have hb:(z::zs).length<dD:=by rw[hz];have h9:=hv;unfold dD;simp;omega
   refine iY (vQ (z::zs) hb) (wC (b5 _ _) Wks.nil) rfl (cC (Cl.sl (jF _)) ClL.nil) (.b _) ?_;(conv=>whnf);cases hrow:nX (z::zs)
   case false=>
    have hOO:=bad (hpn (.inl hrow));cases hOO;(conv=>whnf);exact J3 (g:=.tup [.sl .full [],.i .i64 2]) (by kernel_rfl) AM L2
   obtain⟨T,hT⟩:∃T,T=mB (z::zs):=⟨_,rfl⟩;have hIT:=CY (z::zs) hb;rw[hrow,aA rfl,<-hT] at hIT;(conv=>whnf);refine iY hIT (wC (b5 _ _) Wks.nil) rfl (cC (Cl.sl (jF _)) ClL.nil) (.s _) ?_;(conv=>whnf);apply gM<;>intro htx<;>conv=>whnf
   ·have hOO:=bad (hpn (.inr (by rw[<-hT];simpa using htx)));cases hOO;exact J3 (g:=.tup [.sl .full [],.i .i64 2]) (by kernel_rfl) AM L2
   have hOO:=good _ (hpy hrow (by rw[<-hT];simpa using htx));cases hOO;refine sT ?_;(conv=>whnf);refine sT ?_;(conv=>whnf);exact FY (b5 _ _) (.refl _) (Cl.sl (jF _)) (.i _ _)
  have hr0:r≠[]:=fun e=>by
   subst e;simp at he
  conv=>whnf
  refine xK (q:=2) (vP s (s.length - r.length) hm) rfl (by first|exact wR _|exact wC (b5 _ _) (wR _)|exact wC (b5 _ _) (wC (b5 _ _) (wR _))|exact wC (iN _) (wC (b5 _ _) (wR _))) rfl rfl (by first|exact fun _=>rfl|exact cA|exact cB fun _=>rfl) (by first|exact fun _=>rfl|exact cA|exact cB fun _=>rfl) (by first|exact fun _=>rfl|exact cA|exact cB fun _=>rfl) (by first|exact fun _=>rfl|exact cA|exact cB fun _=>rfl) ?_;conv=>whnf
  have hget:s.getD (s.length - r.length) 0=r.headD 0:=by
   rw[aL];conv=>rhs;rw[hrd]
   rw[List.headD_eq_head?_getD,List.head?_drop]
  rw[hget];obtain⟨c,r',rfl⟩:=List.exists_cons_of_ne_nil hr0;apply gM<;>intro h44<;>conv=>whnf
  ·have h44':c≠44:=p8 (d:=44) h44;have hOO:=bad (hpr (by rw[<-hq];simp[rr,hrv,h44']));cases hOO;exact J3 (g:=.tup [.sl .full [],.i .i64 2]) (by kernel_rfl) AM L2
  have h44':c=44:=nV (d:=44) h44;refine⟨[.i .i64 (s.length - (c::r').length+1:Nat)],⟨bE (by omega),zL _,rfl,bL rfl⟩,?_⟩;conv=>whnf
  refine⟨f,eJ f,(f,s.length - (c::r').length+1,z::zs),⟨?_,?_,?_,?_⟩,rfl,⟨rfl,rfl,rfl,rfl,trivial⟩,_,rfl,rfl⟩
  ·show _<=_;simp at hrl⊢;try omega
  ·show _ - _<_;simp at hrl⊢;try omega
  ·show(z::zs).length<=_;rw[hz];simp at hrl hv⊢;try omega
  ·show(rr f (s.drop (s.length - (c::r').length+1))).map (fun x=>z::zs++x)=R;have e:s.drop (s.length - (c::r').length+1)=r':=by rw[<-List.drop_drop,<-hrd];rfl
   rw[e,<-hq,hz];simp[rr,hrv,h44',dP]
variable [Globals]
theorem EnvSound.of {P:Program} {w0:World} {M:FuncId->Bool} {Γ:s7} (h:∀k f,Γ k=some f->∀args σ r σ',f args σ=some (r,σ')->Fact P (.fn k) args σ r σ'/\(M k=true->σ'=σ)) (hD:kK M=false:=by rfl):EnvSound P w0 M Γ:=by
 refine⟨hD,fun t args σ r σ' he=>?_,fun k hk t ht args σ r σ' he=>?_⟩
 ·cases t with
  |yld q=>cases he
  |fn k=>
   simp only[oX] at he;cases hg:Γ k with
   |none=>rw[hg] at he;cases he
   |some f=>
    rw[hg] at he;obtain⟨hf,_⟩:=h k f hg args σ r σ' he;exact⟨hf.keep,hf.ds,fun C w vs hr hv=>hf.calls w0 C w vs hr hv⟩
 ·have hk:=hk.resolve_right (by rw[hD];simp);have ht:=ht.resolve_right (by rw[hD];simp);subst ht;simp only[oX] at he;cases hg:Γ k with
  |none=>rw[hg] at he;cases he
  |some f=>
   rw[hg] at he;exact(h k f hg args σ r σ' he).2 hk
theorem SC.factNil {P:Program} {k:FuncId} {args args':List GV} {r:GRes} {σ:GS} (h:SC P k args [] r []) (ha:ClL args) (hr:∀e,r.ren e=r) (hw:Wks args' args):Fact P (.fn k) args' σ r σ:=by
 have hf:=h.fact (σ:={σ with lo:=0}) (args':=args') [] Lies.nil rfl (by rw[ha];exact hw);rw[hr] at hf;simp only[yQ] at hf;exact⟨Keep.refl _,rfl,fun w0 C w vs hR hv=>(hf.calls w0 C w vs ⟨hR.below,hR.fxc,hR.obj,hR.dom,hR.new,hR.inj,hR.sepB,hR.sepO,hR.fxn,hR.gl,hR.gs⟩ hv).mono fun e w' ⟨D,h1,h2,h3⟩=>⟨D,h1,⟨h2.below,h2.fxc,h2.obj,h2.dom,h2.new,h2.inj,h2.sepB,h2.sepO,h2.fxn,h2.gl,h2.gs⟩,h3⟩⟩
theorem SC.of_gcall {P:Program} (hm:P.follows .mixedOrders=true) {M:FuncId->Bool} {Γ:s7} (hΓ:∀w0,EnvSound P w0 M Γ) {m:Nat} {k:FuncId} {args:List GV} {r:GRes}
  (h:(j7 P M Γ m (.fn k) args ⟨[],0,[]⟩).map (·.1)=some r) (hr:∀e,r.ren e=r):SC P k args [] r []:=by
 obtain⟨⟨r1,σ'⟩,h1,rfl⟩:=Option.map_eq_some_iff.1 h;refine⟨rL _,fun C w vs hR hv=>?_,fun x hx=>by cases hx⟩;refine Calls.mono (((t8 (w0:=w) hm (hΓ w) m).1 (.fn k) args _ _ _ h1).2.2 C w vs hR hv) ?_;rintro e w' ⟨D,hl,hrD,he⟩;refine⟨D.pull (iB [] σ'.objs.length),?_,hrD.pull Lies.nil,?_⟩
 ·refine⟨hl.fx,fun i b hb=>?_,fun i I hI=>?_,hl.hd,hl.fix⟩
  ·rw[(hR.dom i (zL _)).1] at hb;cases hb
  ·rw[(hR.dom i (zL _)).2] at hI;cases hI
 ·have he2:ERel D (r1.ren (iB [] σ'.objs.length)) e:=by rw[hr];exact he
  exact he2.pull (D:=D) (f:=iB [] σ'.objs.length) (E:=D.pull (iB [] σ'.objs.length)) (fun _ _ _ h=>h) (fun _=>rfl) (fun _=>rfl)
end
section
open Go.RowKit
variable [Globals]
inductive Tr (α:Type) where
 |nil
 |node (x:Option α) (l r:Tr α)
noncomputable def ED (f:Nat):Nat->List Bool:=
 Nat.rec (motive:=fun _=>Nat->List Bool) (fun _=>[]) (fun _ ih m=>Bool.rec (motive:=fun _=>List Bool) (Nat.beq (Nat.mod m 2) 1::ih (Nat.div m 2)) [] (Nat.ble m 1)) f
noncomputable def path (i:Nat):List Bool:=ED (Nat.succ i) (Nat.succ i)
def VY:List Bool->Nat
 |[]=>1
 |b::p=>2*VY p+(if b then 1 else 0)
theorem EA:∀(f m:Nat),1<=m->m<=f->VY (ED f m)=m:=by
 intro f;induction f with
 |zero=>intro m h1 h2;omega
 |succ f ih=>
  intro m h1 h2;show VY (Bool.rec (motive:=fun _=>List Bool) (Nat.beq (Nat.mod m 2) 1::ED f (Nat.div m 2)) [] (Nat.ble m 1))=m;cases hb:Nat.ble m 1 with
  |true=>have:=bL hb;show 1=m;omega
  |false=>
   have h3:¬m<=1:=fun h=>by rw[Nat.ble_eq_true_of_le h] at hb;cases hb
   show 2*VY (ED f (m / 2))+(if Nat.beq (m%2) 1 then 1 else 0)=m;rw[ih (m / 2) (by omega) (by omega)];by_cases h4:m%2=1
   ·have:Nat.beq (m%2) 1=true:=by rw[h4];rfl
    rw[this,aA rfl];omega
   ·have:Nat.beq (m%2) 1=false:=by
     cases hc:Nat.beq (m%2) 1 with
     |true=>exact absurd (cI hc) h4
     |false=>rfl
    rw[this];simp;omega
theorem IZ {i j:Nat} (h:path i=path j):i=j:=by
 have h1:=EA (i+1) (i+1) (by omega) (rL _);have h2:=EA (j+1) (j+1) (by omega) (rL _);have h3:ED (i+1) (i+1)=ED (j+1) (j+1):=h;rw[h3] at h1;omega
section
variable {α β : Type}
noncomputable def Tr.get (p:List Bool):Tr α->Option α:=
 List.rec (motive:=fun _=>Tr α->Option α) (fun t=>Tr.rec (motive:=fun _=>Option α) none (fun x _ _ _ _=>x) t)
  (fun b _ ih t=>Tr.rec (motive:=fun _=>Option α) none (fun _ l r _ _=>Bool.rec (motive:=fun _=>Option α) (ih l) (ih r) b) t) p
noncomputable def Tr.setK (p:List Bool) (a:α):Tr α->(Tr α->β)->β:=
 List.rec (motive:=fun _=>Tr α->(Tr α->β)->β)
  (fun t K=>Tr.rec (motive:=fun _=>β) (K (.node (some a) .nil .nil)) (fun _ l r _ _=>K (.node (some a) l r)) t)
  (fun b _ ih t K=>Tr.rec (motive:=fun _=>β) (Bool.rec (motive:=fun _=>β) (ih .nil fun l=>K (.node none l .nil)) (ih .nil fun r=>K (.node none .nil r)) b)
   (fun x l r _ _=>Bool.rec (motive:=fun _=>β) (ih l fun l=>K (.node x l r)) (ih r fun r=>K (.node x l r)) b) t) p
def Tr.put (a:α):List Bool->Tr α->Tr α
 |[],.nil=>.node (some a) .nil .nil
 |[],.node _ l r=>.node (some a) l r
 |false::p,.nil=>.node none (Tr.put a p .nil) .nil
 |true::p,.nil=>.node none .nil (Tr.put a p .nil)
 |false::p,.node x l r=>.node x (Tr.put a p l) r
 |true::p,.node x l r=>.node x l (Tr.put a p r)
theorem Tr.setK_eq (a:α):∀(p:List Bool) (t:Tr α) (K:Tr α->β),Tr.setK p a t K=K (Tr.put a p t):=by
 intro p;induction p with
 |nil=>intro t K;cases t<;>rfl
 |cons b p ih=>
  intro t K;cases t with
  |nil=>
   cases b
   ·exact ih .nil fun l=>K (.node none l .nil)
   ·exact ih .nil fun r=>K (.node none .nil r)
  |node x l r=>
   cases b
   ·exact ih l fun l=>K (.node x l r)
   ·exact ih r fun r=>K (.node x l r)
theorem Tr.get_nil:∀q:List Bool,Tr.get q (.nil:Tr α)=none:=fun q=>by cases q<;>rfl
theorem Tr.get_put (a:α):∀(p q:List Bool) (t:Tr α),Tr.get q (Tr.put a p t)=if q=p then some a else Tr.get q t:=by
 intro p;induction p with
 |nil=>
  intro q t;cases q with
  |nil=>cases t<;>rfl
  |cons c q=>
   rw[aB (by simp)];cases t with
   |nil=>cases c<;>exact Tr.get_nil q
   |node x l r=>rfl
 |cons b p ih=>
  intro q t;cases q with
  |nil=>rw[aB (by simp)];cases b<;>cases t<;>rfl
  |cons c q=>
   by_cases hc:c=b
   ·subst hc;have e:(c::q=c::p)=(q=p):=by simp
    simp only[e];cases c<;>cases t with
    |nil=>exact(ih q .nil).trans (by rw[Tr.get_nil];rfl)
    |node x l r=>first|exact ih q l|exact ih q r
   ·rw[aB (by simp[hc])];cases b<;>cases c<;>cases t with
    |nil=>first|exact absurd rfl hc|exact Tr.get_nil q
    |node x l r=>first|exact absurd rfl hc|rfl
end
end
