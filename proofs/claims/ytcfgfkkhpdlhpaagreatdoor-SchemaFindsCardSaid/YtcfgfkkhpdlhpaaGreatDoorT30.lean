/-
  A part of the proof of SchemaFinds.
-/
import Derived.Test.YtcfgfkkhpdlhpaaGreatDoorT29
set_option linter.all false
set_option maxRecDepth 100000
namespace Go.Proofs.YtcfgfkkhpdlhpaaGreatDoor
open Go.RowKit
def r6 (c:UInt8):Option Nat:=if 48<=c.toNat/\c.toNat<=57 then some (c.toNat - 48) else if 97<=c.toNat/\c.toNat<=102 then some (c.toNat - 87) else none
def rq:List UInt8->Option (List UInt8×List UInt8)
 |[]=>none
 |c::r=>if c=34 then some ([],r) else if c.toNat<32∨126<c.toNat then none else if c=92 then(match r with
   |[]=>none
   |e::r1=>if e=34∨e=92 then(rq r1).map fun p=>(e::p.1,p.2) else if e=120 then(match r1 with
     |a::b::r2=>(match r6 a with
      |some x=>(match r6 b with
       |some y=>if 32<=16*x+y/\16*x+y<=126 then none else(rq r2).map fun p=>(UInt8.ofNat (16*x+y)::p.1,p.2)
       |none=>none)
      |none=>none)
     |_=>none) else none)
  else(rq r).map fun p=>(c::p.1,p.2)
theorem a1U:rq []=none:=rfl
theorem QX (r:List UInt8):rq (34::r)=some ([],r):=by
 conv=>lhs;unfold rq
 rfl
theorem JJ {c:UInt8} (h:c≠34) (h':c.toNat<32∨126<c.toNat) (r:List UInt8):rq (c::r)=none:=by
 conv=>lhs;unfold rq
 rw[aE h,aG h']
theorem ZI {c:UInt8} (h:c≠34) (h':¬(c.toNat<32∨126<c.toNat)) (h'':c≠92) (r:List UInt8):rq (c::r)=(rq r).map fun p=>(c::p.1,p.2):=by
 conv=>lhs;unfold rq
 rw[aE h,aE h',aE h'']
theorem F0 {e:UInt8} (h:e=34∨e=92) (r:List UInt8):rq (92::e::r)=(rq r).map fun p=>(e::p.1,p.2):=by
 conv=>lhs;unfold rq
 rw[aE (by decide),aE (by decide),aG rfl];show(if e=34∨e=92 then _ else _)=_;rw[aG h]
theorem ZH (a b:UInt8) (r:List UInt8):rq (92::120::a::b::r)=match r6 a with
  |some x=>(match r6 b with
   |some y=>if 32<=16*x+y/\16*x+y<=126 then none else(rq r).map fun p=>(UInt8.ofNat (16*x+y)::p.1,p.2)
   |none=>none)
  |none=>none:=by
 conv=>lhs;unfold rq
 rfl
theorem zU {r:List UInt8} (h:∀e r1,r=e::r1->¬(e=34∨e=92)/\(e=120->∀a b r2,r1≠a::b::r2)):rq (92::r)=none:=by
 conv=>lhs;unfold rq
 rw[aE (by decide),aE (by decide),aG rfl];cases r with
 |nil=>rfl
 |cons e r1=>
  obtain⟨h1,h2⟩:=h e r1 rfl;show(if e=34∨e=92 then _ else _)=_;rw[aE h1];by_cases h3:e=120
  ·rw[aG h3];rcases r1 with _|⟨a,_|⟨b,r2⟩⟩
   ·rfl
   ·rfl
   ·exact absurd rfl (h2 h3 a b r2)
  ·rw[aE h3]
theorem A5 {c:UInt8} {n:Nat} (h:r6 c=some n):n<16:=by
 unfold r6 at h;split at h
 ·cases h;omega
 ·split at h
  ·cases h;omega
  ·cases h
theorem BJ (c:UInt8):HD c=match r6 c with|some n=>(n:Int)|none=> -1:=by
 unfold HD r6;split
 ·simp;omega
 ·split
  ·simp;omega
  ·rfl
def BG (n k:Nat):Option (List UInt8×List UInt8)->List UInt8×Nat
 |some (t,r)=>(t,n - r.length - k)
 |none=>([],0)
def jN (s:List UInt8) (k:Nat):List UInt8×Nat:=if s[k]?=some 34 then BG s.length k (rq (s.drop (k+1))) else([],0)
set_option maxHeartbeats 2000000 in
theorem R4 [MaxL] (s:List UInt8) (hs:s.length<1000000) (k:Nat) (hk:k<=s.length):SC Tryz.prog 266 [.s s,.i .i64 (k:Nat)] [] (.val (.tup [.s (jN s k).1,.i .i64 ((jN s k).2:Nat)])) []:=by
 obtain⟨O,hO0⟩:∃O,O=jN s k:=⟨_,rfl⟩;rw[<-hO0];unfold jN at hO0;refine cZ Tryz.func266 rfl ?_;conv=>whnf
 refine aF (fun h1=>?_) (fun h1=>?_)
 ·have h1':s.length<=k:=by have:=aA h1;omega
  rw[aE (by rw[b6 h1'];simp)] at hO0;cases hO0;conv=>whnf
  exact bA (.refl _) (fun _=>rfl)
 have h1':k<s.length:=by have:=aB h1;omega
 have hgk:s[k]?=some (s.getD k 0):=by rw[aO,gL h1'];rfl
 generalize s.getD k 0=c0 at*;conv=>whnf
 refine GNeed.mk (cN _) ⟨c0,by rw[aC];exact hgk,?_⟩;conv=>whnf
 refine aF (fun h34=>?_) (fun h34=>?_)<;>conv=>whnf
 ·have:=nD (d:=34) h34;rw[aE (by rw[hgk];intro h;exact this (aY h))] at hO0;cases hO0;exact bA (.refl _) (fun _=>rfl)
 have h34':=mD (d:=34) h34;rw[aG (by rw[hgk,h34'])] at hO0;generalize hR:rq (s.drop (k+1))=R at hO0;have hO:O=BG s.length k R:=hO0;clear hO0 h34 h34' hgk h1;refine fI (fun q:Nat×List UInt8=>k<q.1/\q.1<=s.length/\q.2.length<=q.1/\(rq (s.drop q.1)).map (fun p=>(q.2++p.1,p.2))=R)
  (fun q=>[(0,.s s),(1,.i .i64 (k:Nat)),(6,.sl (.own 0) (gA q.2)),(7,.i .i64 (q.1:Nat))]) (fun q=>⟨[ow 5 1 q.2.length],0,[]⟩) (fun q=>s.length - q.1) (k+1,[]) ⟨by omega,by omega,by simp,?_⟩ ⟨rfl,rfl,rfl,b8 (by omega),trivial⟩ rfl (fun _ _=>rL _) (fun q _=>by simp only[gK,lN];rfl) (fun q _ e he=>?_) (fun q φ0 hq=>?_)
 ·rw[<-hR];show Option.map _ (rq (s.drop (k+1)))=_;cases rq (s.drop (k+1))<;>rfl
 ·refine⟨by simp[yX],rfl,?_⟩;show[_,_,(GV.sl (.own 0) (gA q.2)).ren e,_]=_;rw[pP (he 0 (by simp)) (l:=gA q.2) (gT (fun _=>Cl.i _ _) _)];rfl
 obtain⟨i,out⟩:=q;obtain⟨hik,hi,hol,hq⟩:=hq;replace hik:k<i:=hik;replace hi:i<=s.length:=hi;replace hol:out.length<=i:=hol;replace hq:(rq (s.drop i)).map (fun p=>(out++p.1,p.2))=R:=hq;conv=>whnf
 refine aF (fun h1=>?_) (fun h1=>?_);rotate_left
 ·have hie:i=s.length:=by have:=aB h1;omega
  subst hie;conv=>whnf
  refine aF (fun h2=>?_) (fun h2=>?_)<;>conv=>whnf
  ·have hr:O=([],0):=hO.trans (by rw[<-hq,fH (rL _),a1U];rfl);cases hr;exact bA (.refl _) (fun _=>rfl)
  ·exfalso;have:=aB h2;omega
 have hlt:i<s.length:=by have:=aA h1;omega
 have hgi:s[i]?=some (s.getD i 0):=by rw[aO,gL hlt];rfl
 have hd:s.drop i=s.getD i 0::s.drop (i+1):=by
  rw[aX hlt,aO,gL hlt];rfl
 generalize s.getD i 0=c at*;have hgi':s[((i:Nat):Int).toNat]?=some c:=by rw[aC];exact hgi
 rw[hd] at hq;conv=>whnf
 refine GNeed.mk (cN _) ⟨c,hgi',?_⟩;conv=>whnf
 refine aF (fun h34=>?_) (fun h34=>?_);rotate_left
 ·have hc:=mD (d:=34) h34;rw[hc,QX] at hq;conv=>whnf
  refine aF (fun h2=>?_) (fun h2=>?_)<;>conv=>whnf
  ·exfalso;have:=aA h2;omega
  have hr:O=(out,i+1 - k):=hO.trans (by
   rw[<-hq];show(out++[],s.length - (s.drop (i+1)).length - k)=_;rw[iV,dW];congr 1;omega)
  cases hr;refine⟨out,C2 out,?_⟩;conv=>whnf
  refine bA (Wk.of_eq ?_) (fJ (.cons (.s _) (.cons (.i _ _) .nil)));show GV.tup [.s out,.i .i64 (IntKind.i64.wrap (IntKind.i64.wrap ((i:Int)+1) - (k:Int)))]=.tup [.s out,.i .i64 ((i+1 - k:Nat):Int)];rw[cD (n:=(i:Int)+1) (by omega) (by omega),cD (by omega) (by omega)];have h:(i:Int)+1 - (k:Int)=((i+1 - k:Nat):Int):=by omega
  rw[h]
 have hc34:=nD (d:=34) h34;conv=>whnf
 refine GNeed.mk (cN _) ⟨c,hgi',?_⟩;conv=>whnf
 refine aF (fun hl32=>?_) (fun hl32=>?_)<;>conv=>whnf
 ·have:=aA hl32;have hr:O=([],0):=hO.trans (by rw[<-hq,JJ hc34 (.inl (by omega))];rfl);cases hr;exact bA (.refl _) (fun _=>rfl)
 refine aF (fun hg126=>?_) (fun hg126=>?_)<;>conv=>whnf
 ·have:=aA hg126;have hr:O=([],0):=hO.trans (by rw[<-hq,JJ hc34 (.inr (by omega))];rfl);cases hr;exact bA (.refl _) (fun _=>rfl)
 have hpr:¬(c.toNat<32∨126<c.toNat):=by have h8:=aB hl32;have h9:=aB hg126;omega
 clear hl32 hg126;refine aF (fun h92=>?_) (fun h92=>?_)<;>conv=>whnf
 ·have hc92:=nD (d:=92) h92;rw[ZI hc34 hpr hc92] at hq;cases out with
  |nil=>
   refine⟨⟨rfl,jZ _,by show(gA ([]:List UInt8)).length+1<=4294967296;rw[bC];omega⟩,gA (([]:List UInt8)++[c]),(([]:List UInt8)++[c]).length,⟨by simp[gA];rfl,by show _=(gA ([]:List UInt8)).length+1;rw[bC];simp⟩,?_⟩;(conv=>whnf);refine⟨⟨zL _,by first|rfl|(rw[bC];rfl)|(rw[bC];simp),by first|exact .inr ⟨rfl,rfl⟩|exact .inl ⟨rfl,rfl⟩⟩,?_⟩;(conv=>whnf);exact⟨s.length - (i+1),(by show _<s.length - i;omega),(i+1,([]:List UInt8)++[c]),⟨by show k<i+1;omega,by show i+1<=_;omega,(by show(_:List UInt8).length<=i+1;simp only[aD,aJ,b5] at hol⊢;omega),by
    rw[<-hq];show Option.map _ (rq (s.drop (i+1)))=_;simp[cU]⟩,rfl,⟨rfl,rfl,rfl,b8 (by omega),trivial⟩,_,rfl,rfl⟩
  |cons z out=>
   refine⟨⟨rfl,jZ _,by show(gA (z::out)).length+1<=4294967296;rw[bC];omega⟩,gA ((z::out)++[c]),((z::out)++[c]).length,⟨by simp[gA];rfl,by show _=(gA (z::out)).length+1;rw[bC];simp⟩,?_⟩;(conv=>whnf);refine⟨⟨zL _,by first|rfl|(rw[bC];rfl)|(rw[bC];simp),by first|exact .inr ⟨rfl,rfl⟩|exact .inl ⟨rfl,rfl⟩⟩,?_⟩;(conv=>whnf);exact⟨s.length - (i+1),(by show _<s.length - i;omega),(i+1,(z::out)++[c]),⟨by show k<i+1;omega,by show i+1<=_;omega,(by show(_:List UInt8).length<=i+1;simp only[aD,aJ,b5] at hol⊢;omega),by
    rw[<-hq];show Option.map _ (rq (s.drop (i+1)))=_;simp[cU]⟩,rfl,⟨rfl,rfl,rfl,b8 (by omega),trivial⟩,_,rfl,rfl⟩
 have hc92:=mD (d:=92) h92;subst hc92;clear h92 hgi' hd hgi;have w1:IntKind.i64.wrap ((i:Int)+1)=((i+1:Nat):Int):=by rw[cD (by omega) (by omega)];rfl
 have w2:IntKind.i64.wrap ((i:Int)+2)=((i+2:Nat):Int):=by rw[cD (by omega) (by omega)];rfl
 have w3:IntKind.i64.wrap ((i:Int)+3)=((i+3:Nat):Int):=by rw[cD (by omega) (by omega)];rfl
 have w4:IntKind.i64.wrap ((i:Int)+4)=((i+4:Nat):Int):=by rw[cD (by omega) (by omega)];rfl
 refine aF (fun e1=>?_) (fun e1=>?_)<;>conv=>whnf
 rotate_left
 ·have hl1:s.length<=i+1:=by have:=aB e1;rw[w1] at this;omega
  have hn:s.drop (i+1)=[]:=fH hl1;refine aF (fun e3=>?_) (fun e3=>?_)<;>conv=>whnf
  ·exfalso;have:=aA e3;rw[w3] at this;omega
  have hr:O=([],0):=hO.trans (by rw[<-hq,hn,zU (fun e r1 h=>by cases h)];rfl);cases hr;exact bA (.refl _) (fun _=>rfl)
 have hl1:i+1<s.length:=by have:=aA e1;rw[w1] at this;omega
 have hge:s[i+1]?=some (s.getD (i+1) 0):=by rw[aO,gL hl1];rfl
 have hd1:s.drop (i+1)=s.getD (i+1) 0::s.drop (i+2):=by
  rw[aX hl1,aO,gL hl1];rfl
 generalize s.getD (i+1) 0=e at*;rw[hd1] at hq;have ge1:s[(IntKind.i64.wrap ((i:Int)+1)).toNat]?=some e:=by rw[w1,aC];exact hge
 have gp1:0<=IntKind.i64.wrap ((i:Int)+1):=by rw[w1];exact cN _
 refine GNeed.mk gp1 ⟨e,ge1,?_⟩;conv=>whnf
 refine aF (fun e34=>?_) (fun e34=>?_)<;>conv=>whnf
 ·have he:=j2 (d:=34) e34;rw[F0 (.inl he)] at hq;refine GNeed.mk gp1 ⟨e,ge1,?_⟩;conv=>whnf
  cases out with
  |nil=>
   refine⟨⟨rfl,jZ _,by show(gA ([]:List UInt8)).length+1<=4294967296;rw[bC];omega⟩,gA (([]:List UInt8)++[e]),(([]:List UInt8)++[e]).length,⟨by simp[gA];rfl,by show _=(gA ([]:List UInt8)).length+1;rw[bC];simp⟩,?_⟩;(conv=>whnf);refine⟨⟨zL _,by first|rfl|(rw[bC];rfl)|(rw[bC];simp),by first|exact .inr ⟨rfl,rfl⟩|exact .inl ⟨rfl,rfl⟩⟩,?_⟩;(conv=>whnf);exact⟨s.length - (i+2),(by show _<s.length - i;omega),(i+2,([]:List UInt8)++[e]),⟨by show k<i+2;omega,by show i+2<=_;omega,(by show(_:List UInt8).length<=i+2;simp only[aD,aJ,b5] at hol⊢;omega),by
    rw[<-hq];show Option.map _ (rq (s.drop (i+2)))=_;simp[cU]⟩,rfl,⟨rfl,rfl,rfl,(by show GV.i .i64 (IntKind.i64.wrap ((i:Int)+2))=_;rw[w2]),trivial⟩,_,rfl,rfl⟩
  |cons z out=>
   refine⟨⟨rfl,jZ _,by show(gA (z::out)).length+1<=4294967296;rw[bC];omega⟩,gA ((z::out)++[e]),((z::out)++[e]).length,⟨by simp[gA];rfl,by show _=(gA (z::out)).length+1;rw[bC];simp⟩,?_⟩;(conv=>whnf);refine⟨⟨zL _,by first|rfl|(rw[bC];rfl)|(rw[bC];simp),by first|exact .inr ⟨rfl,rfl⟩|exact .inl ⟨rfl,rfl⟩⟩,?_⟩;(conv=>whnf);exact⟨s.length - (i+2),(by show _<s.length - i;omega),(i+2,(z::out)++[e]),⟨by show k<i+2;omega,by show i+2<=_;omega,(by show(_:List UInt8).length<=i+2;simp only[aD,aJ,b5] at hol⊢;omega),by
    rw[<-hq];show Option.map _ (rq (s.drop (i+2)))=_;simp[cU]⟩,rfl,⟨rfl,rfl,rfl,(by show GV.i .i64 (IntKind.i64.wrap ((i:Int)+2))=_;rw[w2]),trivial⟩,_,rfl,rfl⟩
 have he34:=jV (d:=34) e34;refine GNeed.mk gp1 ⟨e,ge1,?_⟩;conv=>whnf
 refine aF (fun e92=>?_) (fun e92=>?_)<;>conv=>whnf
 ·have he:=j2 (d:=92) e92;rw[F0 (.inr he)] at hq;refine GNeed.mk gp1 ⟨e,ge1,?_⟩;conv=>whnf
  cases out with
  |nil=>
   refine⟨⟨rfl,jZ _,by show(gA ([]:List UInt8)).length+1<=4294967296;rw[bC];omega⟩,gA (([]:List UInt8)++[e]),(([]:List UInt8)++[e]).length,⟨by simp[gA];rfl,by show _=(gA ([]:List UInt8)).length+1;rw[bC];simp⟩,?_⟩;(conv=>whnf);refine⟨⟨zL _,by first|rfl|(rw[bC];rfl)|(rw[bC];simp),by first|exact .inr ⟨rfl,rfl⟩|exact .inl ⟨rfl,rfl⟩⟩,?_⟩;(conv=>whnf);exact⟨s.length - (i+2),(by show _<s.length - i;omega),(i+2,([]:List UInt8)++[e]),⟨by show k<i+2;omega,by show i+2<=_;omega,(by show(_:List UInt8).length<=i+2;simp only[aD,aJ,b5] at hol⊢;omega),by
    rw[<-hq];show Option.map _ (rq (s.drop (i+2)))=_;simp[cU]⟩,rfl,⟨rfl,rfl,rfl,(by show GV.i .i64 (IntKind.i64.wrap ((i:Int)+2))=_;rw[w2]),trivial⟩,_,rfl,rfl⟩
  |cons z out=>
   refine⟨⟨rfl,jZ _,by show(gA (z::out)).length+1<=4294967296;rw[bC];omega⟩,gA ((z::out)++[e]),((z::out)++[e]).length,⟨by simp[gA];rfl,by show _=(gA (z::out)).length+1;rw[bC];simp⟩,?_⟩;(conv=>whnf);refine⟨⟨zL _,by first|rfl|(rw[bC];rfl)|(rw[bC];simp),by first|exact .inr ⟨rfl,rfl⟩|exact .inl ⟨rfl,rfl⟩⟩,?_⟩;(conv=>whnf);exact⟨s.length - (i+2),(by show _<s.length - i;omega),(i+2,(z::out)++[e]),⟨by show k<i+2;omega,by show i+2<=_;omega,(by show(_:List UInt8).length<=i+2;simp only[aD,aJ,b5] at hol⊢;omega),by
    rw[<-hq];show Option.map _ (rq (s.drop (i+2)))=_;simp[cU]⟩,rfl,⟨rfl,rfl,rfl,(by show GV.i .i64 (IntKind.i64.wrap ((i:Int)+2))=_;rw[w2]),trivial⟩,_,rfl,rfl⟩
 have he92:=jV (d:=92) e92;refine aF (fun e3=>?_) (fun e3=>?_)<;>conv=>whnf
 rotate_left
 ·have hl3:s.length<=i+3:=by have:=aB e3;rw[w3] at this;omega
  have hsh:(s.drop (i+2)).length<=1:=by rw[dW];omega
  have hr:O=([],0):=hO.trans (by rw[<-hq,zU (fun e0 r1 h=>by cases h;exact⟨fun h=>h.elim he34 he92,fun _ a b r2 h=>by rw[h] at hsh;simp at hsh⟩)];rfl);cases hr;exact bA (.refl _) (fun _=>rfl)
 have hl3:i+3<s.length:=by have:=aA e3;rw[w3] at this;omega
 refine GNeed.mk gp1 ⟨e,ge1,?_⟩;conv=>whnf
 refine aF (fun e120=>?_) (fun e120=>?_)<;>conv=>whnf
 rotate_left
 ·have he120:=jV (d:=120) e120;have hr:O=([],0):=hO.trans (by rw[<-hq,zU (fun e0 r1 h=>by cases h;exact⟨fun h=>h.elim he34 he92,fun h=>absurd h he120⟩)];rfl);cases hr;exact bA (.refl _) (fun _=>rfl)
 have he120:=j2 (d:=120) e120;obtain⟨a,b,hab,ha,hb⟩:∃a b,s.drop (i+2)=a::b::s.drop (i+4)/\s[i+2]?=some a/\s[i+3]?=some b:=
  ⟨s[i+2],s[i+3],by rw[aX (by omega),aX (by omega)],gL _,gL _⟩
 rw[hab,he120,ZH] at hq;have ga:s[(IntKind.i64.wrap ((i:Int)+2)).toNat]?=some a:=by rw[w2,aC];exact ha
 have gb:s[(IntKind.i64.wrap ((i:Int)+3)).toNat]?=some b:=by rw[w3,aC];exact hb
 have gp2:0<=IntKind.i64.wrap ((i:Int)+2):=by rw[w2];exact cN _
 have gp3:0<=IntKind.i64.wrap ((i:Int)+3):=by rw[w3];exact cN _
 refine GNeed.mk gp2 ⟨a,ga,?_⟩;conv=>whnf
 refine nH (zX a) ?_;conv=>whnf
 refine aF (fun na=>?_) (fun na=>?_)<;>conv=>whnf
 rotate_left
 ·have hx:=aB na;rw[BJ] at hx;have hxn:r6 a=none:=by
   cases h:r6 a with
   |none=>rfl
   |some x=>rw[h] at hx;simp at hx
  have hr:O=([],0):=hO.trans (by rw[<-hq,hxn];rfl);cases hr;exact bA (.refl _) (fun _=>rfl)
 obtain⟨x,hxn⟩:∃x,r6 a=some x:=by
  have hx:=aA na;rw[BJ] at hx;cases h:r6 a with
  |none=>rw[h] at hx;simp at hx
  |some x=>exact⟨x,rfl⟩
 refine GNeed.mk gp3 ⟨b,gb,?_⟩;conv=>whnf
 refine nH (zX b) ?_;conv=>whnf
 refine aF (fun nb=>?_) (fun nb=>?_)<;>conv=>whnf
 rotate_left
 ·have hx:=aB nb;rw[BJ] at hx;have hyn:r6 b=none:=by
   cases h:r6 b with
   |none=>rfl
   |some x=>rw[h] at hx;simp at hx
  have hr:O=([],0):=hO.trans (by rw[<-hq,hxn,hyn];rfl);cases hr;exact bA (.refl _) (fun _=>rfl)
 obtain⟨y,hyn⟩:∃y,r6 b=some y:=by
  have hx:=aA nb;rw[BJ] at hx;cases h:r6 b with
  |none=>rw[h] at hx;simp at hx
  |some x=>exact⟨x,rfl⟩
 have hx16:=A5 hxn;have hy16:=A5 hyn;have sa:HD a=(x:Int):=by rw[BJ,hxn]
 have sb:HD b=(y:Int):=by rw[BJ,hyn]
 rw[hxn,hyn] at hq;replace hq:Option.map (fun p=>(out++p.1,p.2)) (if 32<=16*x+y/\16*x+y<=126 then none else(rq (s.drop (i+4))).map fun p=>(UInt8.ofNat (16*x+y)::p.1,p.2))=R:=hq;have hv:IntKind.i64.wrap (IntKind.i64.wrap (16*HD a)+HD b)=((16*x+y:Nat):Int):=by
  rw[sa,sb,cD (n:=16*(x:Int)) (by omega) (by omega),cD (by omega) (by omega)];omega
 have hV:IntKind.u8.wrap (IntKind.i64.wrap (IntKind.i64.wrap (16*HD a)+HD b))=((UInt8.ofNat (16*x+y)).toNat:Int):=by
  rw[hv,u8w,UInt8.toNat_ofNat'];omega
 refine b9 (by kernel_rfl) ?_;conv=>whnf
 refine GNeed.mk gp2 ⟨a,ga,?_⟩;conv=>whnf
 refine nH (zX a) ?_;conv=>whnf
 refine GNeed.mk gp3 ⟨b,gb,?_⟩;conv=>whnf
 refine nH (zX b) ?_;conv=>whnf
 refine aF (fun g1=>?_) (fun g1=>?_)<;>conv=>whnf
 ·refine aF (fun g2=>?_) (fun g2=>?_)<;>conv=>whnf
  ·have g1':=aA g1;have g2':=aA g2;rw[hv] at g1' g2';have hr:O=([],0):=hO.trans (by rw[<-hq,aG ⟨by omega,by omega⟩];rfl);cases hr;exact bA (.refl _) (fun _=>rfl)
  have hn:¬(32<=16*x+y/\16*x+y<=126):=by have g2':=aB g2;rw[hv] at g2';omega
  rw[aE hn] at hq;cases out with
  |nil=>
   refine⟨⟨rfl,jZ _,by show(gA ([]:List UInt8)).length+1<=4294967296;rw[bC];omega⟩,gA (([]:List UInt8)++[UInt8.ofNat (16*x+y)]),(([]:List UInt8)++[UInt8.ofNat (16*x+y)]).length,⟨(by first|(rw[hV];simp[gA];done)|(rw[hV];simp[gA];rfl)),by show _=(gA ([]:List UInt8)).length+1;rw[bC];simp⟩,?_⟩;(conv=>whnf);refine⟨⟨zL _,by first|rfl|(rw[bC];rfl)|(rw[bC];simp),by first|exact .inr ⟨rfl,rfl⟩|exact .inl ⟨rfl,rfl⟩⟩,?_⟩;(conv=>whnf);exact⟨s.length - (i+4),(by show _<s.length - i;omega),(i+4,([]:List UInt8)++[UInt8.ofNat (16*x+y)]),⟨by show k<i+4;omega,by show i+4<=_;omega,(by show(_:List UInt8).length<=i+4;simp only[aD,aJ,b5] at hol⊢;omega),by
    rw[<-hq];show Option.map _ (rq (s.drop (i+4)))=_;simp[cU]⟩,rfl,⟨rfl,rfl,rfl,(by show GV.i .i64 (IntKind.i64.wrap ((i:Int)+4))=_;rw[w4]),trivial⟩,_,rfl,rfl⟩
  |cons z out=>
   refine⟨⟨rfl,jZ _,by show(gA (z::out)).length+1<=4294967296;rw[bC];omega⟩,gA ((z::out)++[UInt8.ofNat (16*x+y)]),((z::out)++[UInt8.ofNat (16*x+y)]).length,⟨(by first|(rw[hV];simp[gA];done)|(rw[hV];simp[gA];rfl)),by show _=(gA (z::out)).length+1;rw[bC];simp⟩,?_⟩;(conv=>whnf);refine⟨⟨zL _,by first|rfl|(rw[bC];rfl)|(rw[bC];simp),by first|exact .inr ⟨rfl,rfl⟩|exact .inl ⟨rfl,rfl⟩⟩,?_⟩;(conv=>whnf);exact⟨s.length - (i+4),(by show _<s.length - i;omega),(i+4,(z::out)++[UInt8.ofNat (16*x+y)]),⟨by show k<i+4;omega,by show i+4<=_;omega,(by show(_:List UInt8).length<=i+4;simp only[aD,aJ,b5] at hol⊢;omega),by
    rw[<-hq];show Option.map _ (rq (s.drop (i+4)))=_;simp[cU]⟩,rfl,⟨rfl,rfl,rfl,(by show GV.i .i64 (IntKind.i64.wrap ((i:Int)+4))=_;rw[w4]),trivial⟩,_,rfl,rfl⟩
 ·have hn:¬(32<=16*x+y/\16*x+y<=126):=by have g1':=aB g1;rw[hv] at g1';omega
  rw[aE hn] at hq;cases out with
  |nil=>
   refine⟨⟨rfl,jZ _,by show(gA ([]:List UInt8)).length+1<=4294967296;rw[bC];omega⟩,gA (([]:List UInt8)++[UInt8.ofNat (16*x+y)]),(([]:List UInt8)++[UInt8.ofNat (16*x+y)]).length,⟨(by first|(rw[hV];simp[gA];done)|(rw[hV];simp[gA];rfl)),by show _=(gA ([]:List UInt8)).length+1;rw[bC];simp⟩,?_⟩;(conv=>whnf);refine⟨⟨zL _,by first|rfl|(rw[bC];rfl)|(rw[bC];simp),by first|exact .inr ⟨rfl,rfl⟩|exact .inl ⟨rfl,rfl⟩⟩,?_⟩;(conv=>whnf);exact⟨s.length - (i+4),(by show _<s.length - i;omega),(i+4,([]:List UInt8)++[UInt8.ofNat (16*x+y)]),⟨by show k<i+4;omega,by show i+4<=_;omega,(by show(_:List UInt8).length<=i+4;simp only[aD,aJ,b5] at hol⊢;omega),by
    rw[<-hq];show Option.map _ (rq (s.drop (i+4)))=_;simp[cU]⟩,rfl,⟨rfl,rfl,rfl,(by show GV.i .i64 (IntKind.i64.wrap ((i:Int)+4))=_;rw[w4]),trivial⟩,_,rfl,rfl⟩
  |cons z out=>
   refine⟨⟨rfl,jZ _,by show(gA (z::out)).length+1<=4294967296;rw[bC];omega⟩,gA ((z::out)++[UInt8.ofNat (16*x+y)]),((z::out)++[UInt8.ofNat (16*x+y)]).length,⟨(by first|(rw[hV];simp[gA];done)|(rw[hV];simp[gA];rfl)),by show _=(gA (z::out)).length+1;rw[bC];simp⟩,?_⟩;(conv=>whnf);refine⟨⟨zL _,by first|rfl|(rw[bC];rfl)|(rw[bC];simp),by first|exact .inr ⟨rfl,rfl⟩|exact .inl ⟨rfl,rfl⟩⟩,?_⟩;(conv=>whnf);exact⟨s.length - (i+4),(by show _<s.length - i;omega),(i+4,(z::out)++[UInt8.ofNat (16*x+y)]),⟨by show k<i+4;omega,by show i+4<=_;omega,(by show(_:List UInt8).length<=i+4;simp only[aD,aJ,b5] at hol⊢;omega),by
    rw[<-hq];show Option.map _ (rq (s.drop (i+4)))=_;simp[cU]⟩,rfl,⟨rfl,rfl,rfl,(by show GV.i .i64 (IntKind.i64.wrap ((i:Int)+4))=_;rw[w4]),trivial⟩,_,rfl,rfl⟩
def AW (s:List UInt8):Int×Bool:=((jW s).1,decide (0<(jW s).2)&&((jW s).2==s.length))
theorem R3 [MaxL] (s:List UInt8) (hs:s.length<bH):SC Tryz.prog 265 [.s s] [] (.val (.tup [.i .i64 (AW s).1,.b (AW s).2])) []:=by
 refine cZ Tryz.func265 rfl ?_;conv=>whnf
 refine nH (F6 s hs) ?_;conv=>whnf
 refine aF (fun h1=>?_) (fun h1=>?_)<;>conv=>whnf
 ·refine bA (Wk.of_eq ?_) (fJ (.cons (.i _ _) (.cons (.b _) .nil)));have h1':0<(jW s).2:=by have:=aA h1;omega
  show GV.tup [.i .i64 (jW s).1,.b (((jW s).2:Int)==(s.length:Int))]=.tup [.i .i64 (jW s).1,.b (decide (0<(jW s).2)&&((jW s).2==s.length))];rw[bS h1',Bool.true_and];have:(((jW s).2:Int)==(s.length:Int))=((jW s).2==s.length):=by rw[eZ];simp;omega
  rw[this]
 ·refine bA (Wk.of_eq ?_) (fJ (.cons (.i _ _) (.cons (.b _) .nil)));have h1':¬0<(jW s).2:=by have:=aB h1;omega
  show GV.tup [.i .i64 (jW s).1,.b false]=.tup [.i .i64 (jW s).1,.b (decide (0<(jW s).2)&&((jW s).2==s.length))];rw[cW h1',Bool.false_and]
def pR (s:List UInt8):Val×Nat:=if s.head?=some 34 then(⟨2,0,(jN s 0).1⟩,(jN s 0).2) else(⟨1,(jW s).1,[]⟩,(jW s).2)
theorem TN [MaxL] (s:List UInt8) (hs:s.length<1000000):SC Tryz.prog 342 [.s s,.i .i64 0] [] (.val (.tup [(pR s).1.gv,.i .i64 ((pR s).2:Nat)])) []:=by
 refine cZ Tryz.func342 rfl ?_;conv=>whnf
 refine aF (fun h1=>?_) (fun h1=>?_)<;>conv=>whnf
 rotate_left
 ·have hn:s=[]:=by
   have:=aB h1;exact aN (by omega)
  subst hn;refine nH (F6 [] (by show 0<bH;decide)) ?_;conv=>whnf
  refine⟨_,⟨rfl,zL _,rfl,bL rfl⟩,?_⟩;conv=>whnf
  refine bA (.refl _) (fun _=>rfl)
 have h1':0<s.length:=by have:=aA h1;omega
 obtain⟨c,r,rfl⟩:∃c r,s=c::r:=by
  cases s with
  |nil=>simp at h1'
  |cons c r=>exact⟨c,r,rfl⟩
 refine GNeed.mk (dN _) ⟨c,rfl,?_⟩;conv=>whnf
 refine aF (fun h2=>?_) (fun h2=>?_)<;>conv=>whnf
 ·have hc:=j2 (d:=34) h2;refine nH (R4 (c::r) hs 0 (zL _)) ?_;conv=>whnf
  refine⟨_,⟨rfl,zL _,rfl,bL rfl⟩,?_⟩;conv=>whnf
  have hq:pR (c::r)=(⟨2,0,(jN (c::r) 0).1⟩,(jN (c::r) 0).2):=by unfold pR;rw[aG (by rw[hc];rfl)]
  rw[hq];exact bA (.refl _) (fun _=>rfl)
 have hc:=jV (d:=34) h2;refine nH (F6 (c::r) (by unfold bH;omega)) ?_;conv=>whnf
 refine⟨_,⟨rfl,zL _,rfl,bL rfl⟩,?_⟩;conv=>whnf
 have hq:pR (c::r)=(⟨1,(jW (c::r)).1,[]⟩,(jW (c::r)).2):=by unfold pR;exact aE (fun h=>hc (aY h))
 rw[hq];exact bA (.refl _) (fun _=>rfl)
theorem XX:∀d:Fin 10,(Utf8.encode ((48+d.1:Nat):Int)).data.toList=[UInt8.ofNat (48+d.1)]:=by decide+kernel
theorem SI (d:Nat) (h:d<10):(Utf8.encode ((48+d:Nat):Int)).data.toList=[UInt8.ofNat (48+d)]:=by
 obtain⟨e,rfl⟩:∃e:Fin 10,d=e.1:=⟨⟨d,h⟩,rfl⟩;exact XX e
theorem SK (n:Nat) (hn:n<9223372036854775808):(Lib.decDigits n).length<=21:=by
 have h:=Lib.itoa_length_le (n:Int) (by omega) (by omega);unfold Lib.itoa at h;rw[aE (by omega),aC] at h;exact h
theorem a2s (n:Int):IntKind.i32.wrap n=(n+2147483648)%4294967296 - 2147483648:=by
 unfold IntKind.wrap;simp[IntKind.signed,IntKind.bits];omega
theorem F8 [MaxL] (n : Nat) (hn : n < 9223372036854775808) : SC Tryz.prog 62 [.i .i64 (n : Nat)] [] (.val (.s (Lib.decDigits n))) [] := by
  refine cZ Tryz.func62 rfl ?_;conv => whnf
  refine fI (fun q : Nat × List UInt8 => q.1 ≤ n ∧ Lib.decDigits q.1 ++ q.2 = Lib.decDigits n) (fun q => [(0, .i .i64 (q.1 : Nat)), (3, .s q.2)]) (fun q => ⟨[], 0, []⟩) (fun q => q.1) (n, []) ⟨rL _, iV _⟩ ⟨rfl, rfl, trivial⟩ rfl (fun _ _ => rL _) (fun q _ => rfl) (fun q _ e he => ⟨rfl, rfl, rfl⟩) (fun q φ0 hq => ?_);obtain ⟨m, acc⟩ := q;obtain ⟨hm, hq⟩ := hq;replace hm : m ≤ n := hm;replace hq : Lib.decDigits m ++ acc = Lib.decDigits n := hq;have hal : acc.length ≤ 21 := by have := SK n hn; rw [← hq] at this; simp at this; omega
  conv => whnf
  refine aF (fun h3 => ?_) (fun h3 => ?_) <;> conv => whnf
  · have h3' : 10 ≤ m := by have := aA h3; omega
    have hm10 : m % 10 < 10 := Nat.mod_lt _ (by decide);have he : (Utf8.encode (IntKind.i32.wrap (IntKind.i64.wrap (48 + ((m : Nat) : Int).tmod 10)))).data.toList = [UInt8.ofNat (48 + m % 10)] := by
      have hw : ((m : Nat) : Int).tmod 10 = ((m % 10 : Nat) : Int) := by rw [Int.tmod_eq_emod_of_nonneg (by omega)]; omega
      rw [hw, cD (by omega) (by omega), a2s, show (48 + ((m % 10 : Nat) : Int) + 2147483648) % 4294967296 - 2147483648 = ((48 + m % 10 : Nat) : Int) by omega];exact SI _ hm10
    refine ⟨by decide, ?_⟩;conv => whnf
    refine ⟨by
      show (Utf8.encode (IntKind.i32.wrap (IntKind.i64.wrap (48 + ((m : Nat) : Int).tmod 10)))).data.toList.length + acc.length < tI;rw [he]; unfold tI; simp; omega, _, rfl, ?_⟩
    conv => whnf
    refine ⟨by decide, ?_⟩;conv => whnf
    have hd : Lib.decDigits m = Lib.decDigits (m / 10) ++ [UInt8.ofNat (48 + m % 10)] := by rw [Lib.decDigits, dif_neg (by omega)]
    exact ⟨m / 10, (by show m / 10 < m; omega), (m / 10, UInt8.ofNat (48 + m % 10) :: acc), ⟨(by show m / 10 ≤ n; omega), (by show Lib.decDigits (m / 10) ++ UInt8.ofNat (48 + m % 10) :: acc = _; rw [← hq, hd]; simp)⟩, rfl,
      ⟨(by show GV.i .i64 (IntKind.i64.wrap (((m : Nat) : Int).tdiv 10)) = .i .i64 ((m / 10 : Nat) : Int)
           rw [Int.tdiv_eq_ediv_of_nonneg (by omega), cD (by omega) (by omega)]; rfl), (by
        show GV.s ((Utf8.encode (IntKind.i32.wrap (IntKind.i64.wrap (48 + ((m : Nat) : Int).tmod 10)))).data.toList ++ acc) = .s (UInt8.ofNat (48 + m % 10) :: acc);rw [he]; rfl), trivial⟩, _, rfl, rfl⟩
  · have h3' : m < 10 := by have := aB h3; omega
    have he : (Utf8.encode (IntKind.i32.wrap (IntKind.i64.wrap (48 + ((m : Nat) : Int))))).data.toList = [UInt8.ofNat (48 + m)] := by
      rw [cD (by omega) (by omega), a2s, show (48 + (m : Int) + 2147483648) % 4294967296 - 2147483648 = ((48 + m : Nat) : Int) by omega];exact SI m h3'
    refine ⟨by
      show (Utf8.encode (IntKind.i32.wrap (IntKind.i64.wrap (48 + ((m : Nat) : Int))))).data.toList.length + acc.length < tI;rw [he]; unfold tI; simp; omega, _, rfl, ?_⟩
    conv => whnf
    refine bA (Wk.of_eq ?_) (.s _);show GV.s ((Utf8.encode (IntKind.i32.wrap (IntKind.i64.wrap (48 + ((m : Nat) : Int))))).data.toList ++ acc) = _;rw [he, ← hq, Lib.decDigits_one h3']
theorem XF:Lib.itoa (-9223372036854775808)=[45,57,50,50,51,51,55,50,48,51,54,56,53,52,55,55,53,56,48,56]:=by
 unfold Lib.itoa;rw[aG (by decide)];repeat (rw[Lib.decDigits];simp)
theorem TO [MaxL] (n:Int) (h0: -9223372036854775808<=n) (h1:n<=9223372036854775807):SC Tryz.prog 62 [.i .i64 n] [] (.val (.s (Lib.itoa n))) []:=by
 by_cases hp:0<=n
 ·obtain⟨k,rfl⟩:∃k:Nat,n=k:=⟨n.toNat,by omega⟩;unfold Lib.itoa;rw[aE (by omega),aC];exact F8 k (by omega)
 refine cZ Tryz.func62 rfl ?_;conv=>whnf
 refine aF (fun h2=>?_) (fun h2=>?_)<;>conv=>whnf
 ·have:n= -9223372036854775808:=by simpa using h2
  subst this;rw[XF];exact bA (.refl _) (.s _)
 have h2':n≠ -9223372036854775808:=by simpa using h2
 refine aF (fun h3=>?_) (fun h3=>?_)<;>conv=>whnf
 rotate_left
 ·exfalso;have:=aB h3;omega
 obtain⟨k,rfl⟩:∃k:Nat,n= -(k:Int):=⟨n.natAbs,by omega⟩;have hk:IntKind.i64.wrap (0 - -(k:Int))=(k:Int):=by rw[cD (by omega) (by omega)];omega
 have hc:=F8 k (by omega);rw[<-hk] at hc;refine nH hc ?_;conv=>whnf
 have hl:=SK k (by omega);refine⟨by show 1+(Lib.decDigits k).length<tI;unfold tI;omega,_,rfl,?_⟩;conv=>whnf
 refine bA (Wk.of_eq ?_) (.s _);unfold Lib.itoa;rw[aG (by omega),Int.natAbs_neg,Int.natAbs_natCast];rfl
