/-
  A part of the proof of SchemaFinds.
-/
import Derived.Test.YtcfgfkkhpdlhpaaGreatDoorT30
set_option linter.all false
set_option maxRecDepth 100000
namespace Go.Proofs.YtcfgfkkhpdlhpaaGreatDoor
open Go.RowKit
theorem S3:∀n:Fin 256,0<=IntKind.u8.wrap (((n:Nat):Int).tdiv 16)/\XI[(IntKind.u8.wrap (((n:Nat):Int).tdiv 16)).toNat]?=some (dT ((n:Nat) / 16)):=by decide+kernel
theorem RZ:∀n:Fin 256,0<=(((n:Nat):Int).tmod 16)/\XI[(((n:Nat):Int).tmod 16).toNat]?=some (dT ((n:Nat)%16)):=by decide+kernel
theorem WP [MaxL] (s:List UInt8) (hs:s.length<1000000):SC Tryz.prog 332 [.s s] [] (.val (.s (oV s))) []:=by
 refine cZ Tryz.func332 rfl ?_;conv=>whnf
 refine fI (fun q:Nat×List UInt8=>q.1<=s.length/\q.2=(s.take q.1).flatMap mM)
  (fun q=>[(0,.s s),(3,.sl (.own 0) (gA q.2)),(4,.s XI),(5,.i .i64 (q.1:Nat))]) (fun q=>⟨[ow 5 1 q.2.length],0,[]⟩) (fun q=>s.length - q.1) (0,[]) ⟨zL _,rfl⟩ ⟨rfl,rfl,rfl,rfl,trivial⟩ rfl (fun _ _=>rL _) (fun q _=>by simp only[gK,lN];rfl) (fun q _ e he=>?_) (fun q φ0 hq=>?_)
 ·refine⟨by simp[yX],rfl,?_⟩;show[_,(GV.sl (.own 0) (gA q.2)).ren e,_,_]=_;rw[pP (he 0 (by simp)) (l:=gA q.2) (gT (fun _=>Cl.i _ _) _)];rfl
 obtain⟨i,out⟩:=q;obtain⟨hi,hout⟩:=hq;replace hi:i<=s.length:=hi;replace hout:out=(s.take i).flatMap mM:=hout;have hol:out.length<=4*i:=by
  rw[hout];refine e8 (AJ _) ?_;rw[bN];omega
 conv=>whnf
 refine aF (fun h1=>?_) (fun h1=>?_)<;>conv=>whnf
 rotate_left
 ·have hie:i=s.length:=by have:=aB h1;omega
  refine⟨out,C2 out,?_⟩;conv=>whnf
  have hoq:out=s.flatMap mM:=by rw[hout,hie,b7]
  refine⟨by show 1+out.length<tI;unfold tI;omega,_,rfl,?_⟩;conv=>whnf
  refine⟨by show([34]++out).length+1<tI;rw[aD];show 1+out.length+1<tI;unfold tI;omega,_,rfl,?_⟩;conv=>whnf
  refine bA (Wk.of_eq ?_) (.s _);show GV.s ([34]++out++[34])=.s (oV s);rw[hoq];unfold oV;simp
 have hlt:i<s.length:=by have:=aA h1;omega
 have hgi:s[i]?=some (s.getD i 0):=by rw[aO,gL hlt];rfl
 generalize s.getD i 0=c at*;have hgi':s[((i:Nat):Int).toNat]?=some c:=by rw[aC];exact hgi
 have ht:(s.take (i+1)).flatMap mM=(s.take i).flatMap mM++mM c:=by
  rw[bR,hgi];simp
 refine GNeed.mk (cN _) ⟨c,hgi',?_⟩;conv=>whnf
 refine aF (fun h34=>?_) (fun h34=>?_)<;>conv=>whnf
 ·have hc:=j2 (d:=34) h34;have hesc:mM c=[92,c]:=by unfold mM;rw[aG (.inl hc)]
  cases out with
  |nil=>
   refine⟨⟨rfl,jZ _,by show(gA ([]:List UInt8)).length+2<=4294967296;rw[bC];omega⟩,gA (([]:List UInt8)++[92,c]),(([]:List UInt8)++[92,c]).length,⟨(by show gA (([]:List UInt8)++[92,c])=gA ([]:List UInt8)++[GV.i .u8 92,GV.i .u8 c.toNat];simp[gA]),by show _=(gA ([]:List UInt8)).length+2;rw[bC];simp⟩,?_⟩;(conv=>whnf);refine⟨⟨zL _,by first|rfl|(rw[bC];rfl)|(rw[bC];simp),by first|exact .inr ⟨rfl,rfl⟩|exact .inl ⟨rfl,rfl⟩⟩,?_⟩;(conv=>whnf);exact⟨s.length - (i+1),(by show _<s.length - i;omega),(i+1,([]:List UInt8)++[92,c]),⟨by show i+1<=_;omega,(by show([]:List UInt8)++[92,c]=_;rw[ht,<-hout,hesc])⟩,rfl,⟨rfl,rfl,rfl,b8 (by omega),trivial⟩,_,rfl,rfl⟩
  |cons z out=>
   refine⟨⟨rfl,jZ _,by show(gA (z::out)).length+2<=4294967296;rw[bC];omega⟩,gA ((z::out)++[92,c]),((z::out)++[92,c]).length,⟨(by show gA ((z::out)++[92,c])=gA (z::out)++[GV.i .u8 92,GV.i .u8 c.toNat];simp[gA]),by show _=(gA (z::out)).length+2;rw[bC];simp⟩,?_⟩;(conv=>whnf);refine⟨⟨zL _,by first|rfl|(rw[bC];rfl)|(rw[bC];simp),by first|exact .inr ⟨rfl,rfl⟩|exact .inl ⟨rfl,rfl⟩⟩,?_⟩;(conv=>whnf);exact⟨s.length - (i+1),(by show _<s.length - i;omega),(i+1,(z::out)++[92,c]),⟨by show i+1<=_;omega,(by show(z::out)++[92,c]=_;rw[ht,<-hout,hesc])⟩,rfl,⟨rfl,rfl,rfl,b8 (by omega),trivial⟩,_,rfl,rfl⟩
 have hc34:=jV (d:=34) h34;refine aF (fun h92=>?_) (fun h92=>?_)<;>conv=>whnf
 ·have hc:=j2 (d:=92) h92;have hesc:mM c=[92,c]:=by unfold mM;rw[aG (.inr hc)]
  cases out with
  |nil=>
   refine⟨⟨rfl,jZ _,by show(gA ([]:List UInt8)).length+2<=4294967296;rw[bC];omega⟩,gA (([]:List UInt8)++[92,c]),(([]:List UInt8)++[92,c]).length,⟨(by show gA (([]:List UInt8)++[92,c])=gA ([]:List UInt8)++[GV.i .u8 92,GV.i .u8 c.toNat];simp[gA]),by show _=(gA ([]:List UInt8)).length+2;rw[bC];simp⟩,?_⟩;(conv=>whnf);refine⟨⟨zL _,by first|rfl|(rw[bC];rfl)|(rw[bC];simp),by first|exact .inr ⟨rfl,rfl⟩|exact .inl ⟨rfl,rfl⟩⟩,?_⟩;(conv=>whnf);exact⟨s.length - (i+1),(by show _<s.length - i;omega),(i+1,([]:List UInt8)++[92,c]),⟨by show i+1<=_;omega,(by show([]:List UInt8)++[92,c]=_;rw[ht,<-hout,hesc])⟩,rfl,⟨rfl,rfl,rfl,b8 (by omega),trivial⟩,_,rfl,rfl⟩
  |cons z out=>
   refine⟨⟨rfl,jZ _,by show(gA (z::out)).length+2<=4294967296;rw[bC];omega⟩,gA ((z::out)++[92,c]),((z::out)++[92,c]).length,⟨(by show gA ((z::out)++[92,c])=gA (z::out)++[GV.i .u8 92,GV.i .u8 c.toNat];simp[gA]),by show _=(gA (z::out)).length+2;rw[bC];simp⟩,?_⟩;(conv=>whnf);refine⟨⟨zL _,by first|rfl|(rw[bC];rfl)|(rw[bC];simp),by first|exact .inr ⟨rfl,rfl⟩|exact .inl ⟨rfl,rfl⟩⟩,?_⟩;(conv=>whnf);exact⟨s.length - (i+1),(by show _<s.length - i;omega),(i+1,(z::out)++[92,c]),⟨by show i+1<=_;omega,(by show(z::out)++[92,c]=_;rw[ht,<-hout,hesc])⟩,rfl,⟨rfl,rfl,rfl,b8 (by omega),trivial⟩,_,rfl,rfl⟩
 have hc92:=jV (d:=92) h92;refine aF (fun hl=>?_) (fun hl=>?_)<;>conv=>whnf
 ·have hl':=aA hl;have hesc:mM c=[92,120,dT (c.toNat / 16),dT (c.toNat%16)]:=by unfold mM;rw[aE (fun h=>h.elim hc34 hc92),aG (.inl (by omega))]
  have hc8:=cJ c;refine b9 (by kernel_rfl) ?_;conv=>whnf
  refine⟨by decide,?_⟩;conv=>whnf
  refine GNeed.mk (S3 ⟨c.toNat,hc8⟩).1 ⟨dT (c.toNat / 16),(S3 ⟨c.toNat,hc8⟩).2,?_⟩;conv=>whnf
  refine⟨by decide,?_⟩;conv=>whnf
  refine GNeed.mk (RZ ⟨c.toNat,hc8⟩).1 ⟨dT (c.toNat%16),(RZ ⟨c.toNat,hc8⟩).2,?_⟩;conv=>whnf
  cases out with
  |nil=>
   refine⟨⟨rfl,jZ _,by show(gA ([]:List UInt8)).length+4<=4294967296;rw[bC];omega⟩,gA (([]:List UInt8)++[92,120,dT (c.toNat / 16),dT (c.toNat%16)]),(([]:List UInt8)++[92,120,dT (c.toNat / 16),dT (c.toNat%16)]).length,⟨(by show gA (([]:List UInt8)++[92,120,dT (c.toNat / 16),dT (c.toNat%16)])=gA ([]:List UInt8)++[GV.i .u8 92,GV.i .u8 120,GV.i .u8 (dT (c.toNat / 16)).toNat,GV.i .u8 (dT (c.toNat%16)).toNat];simp[gA]),by show _=(gA ([]:List UInt8)).length+4;rw[bC];simp⟩,?_⟩;(conv=>whnf);refine⟨⟨zL _,by first|rfl|(rw[bC];rfl)|(rw[bC];simp),by first|exact .inr ⟨rfl,rfl⟩|exact .inl ⟨rfl,rfl⟩⟩,?_⟩;(conv=>whnf);exact⟨s.length - (i+1),(by show _<s.length - i;omega),(i+1,([]:List UInt8)++[92,120,dT (c.toNat / 16),dT (c.toNat%16)]),⟨by show i+1<=_;omega,(by show([]:List UInt8)++[92,120,dT (c.toNat / 16),dT (c.toNat%16)]=_;rw[ht,<-hout,hesc])⟩,rfl,⟨rfl,rfl,rfl,b8 (by omega),trivial⟩,_,rfl,rfl⟩
  |cons z out=>
   refine⟨⟨rfl,jZ _,by show(gA (z::out)).length+4<=4294967296;rw[bC];omega⟩,gA ((z::out)++[92,120,dT (c.toNat / 16),dT (c.toNat%16)]),((z::out)++[92,120,dT (c.toNat / 16),dT (c.toNat%16)]).length,⟨(by show gA ((z::out)++[92,120,dT (c.toNat / 16),dT (c.toNat%16)])=gA (z::out)++[GV.i .u8 92,GV.i .u8 120,GV.i .u8 (dT (c.toNat / 16)).toNat,GV.i .u8 (dT (c.toNat%16)).toNat];simp[gA]),by show _=(gA (z::out)).length+4;rw[bC];simp⟩,?_⟩;(conv=>whnf);refine⟨⟨zL _,by first|rfl|(rw[bC];rfl)|(rw[bC];simp),by first|exact .inr ⟨rfl,rfl⟩|exact .inl ⟨rfl,rfl⟩⟩,?_⟩;(conv=>whnf);exact⟨s.length - (i+1),(by show _<s.length - i;omega),(i+1,(z::out)++[92,120,dT (c.toNat / 16),dT (c.toNat%16)]),⟨by show i+1<=_;omega,(by show(z::out)++[92,120,dT (c.toNat / 16),dT (c.toNat%16)]=_;rw[ht,<-hout,hesc])⟩,rfl,⟨rfl,rfl,rfl,b8 (by omega),trivial⟩,_,rfl,rfl⟩
 have hl':=aB hl;refine aF (fun hg=>?_) (fun hg=>?_)<;>conv=>whnf
 ·have hg':=aA hg;have hesc:mM c=[92,120,dT (c.toNat / 16),dT (c.toNat%16)]:=by unfold mM;rw[aE (fun h=>h.elim hc34 hc92),aG (.inr (by omega))]
  have hc8:=cJ c;refine b9 (by kernel_rfl) ?_;conv=>whnf
  refine⟨by decide,?_⟩;conv=>whnf
  refine GNeed.mk (S3 ⟨c.toNat,hc8⟩).1 ⟨dT (c.toNat / 16),(S3 ⟨c.toNat,hc8⟩).2,?_⟩;conv=>whnf
  refine⟨by decide,?_⟩;conv=>whnf
  refine GNeed.mk (RZ ⟨c.toNat,hc8⟩).1 ⟨dT (c.toNat%16),(RZ ⟨c.toNat,hc8⟩).2,?_⟩;conv=>whnf
  cases out with
  |nil=>
   refine⟨⟨rfl,jZ _,by show(gA ([]:List UInt8)).length+4<=4294967296;rw[bC];omega⟩,gA (([]:List UInt8)++[92,120,dT (c.toNat / 16),dT (c.toNat%16)]),(([]:List UInt8)++[92,120,dT (c.toNat / 16),dT (c.toNat%16)]).length,⟨(by show gA (([]:List UInt8)++[92,120,dT (c.toNat / 16),dT (c.toNat%16)])=gA ([]:List UInt8)++[GV.i .u8 92,GV.i .u8 120,GV.i .u8 (dT (c.toNat / 16)).toNat,GV.i .u8 (dT (c.toNat%16)).toNat];simp[gA]),by show _=(gA ([]:List UInt8)).length+4;rw[bC];simp⟩,?_⟩;(conv=>whnf);refine⟨⟨zL _,by first|rfl|(rw[bC];rfl)|(rw[bC];simp),by first|exact .inr ⟨rfl,rfl⟩|exact .inl ⟨rfl,rfl⟩⟩,?_⟩;(conv=>whnf);exact⟨s.length - (i+1),(by show _<s.length - i;omega),(i+1,([]:List UInt8)++[92,120,dT (c.toNat / 16),dT (c.toNat%16)]),⟨by show i+1<=_;omega,(by show([]:List UInt8)++[92,120,dT (c.toNat / 16),dT (c.toNat%16)]=_;rw[ht,<-hout,hesc])⟩,rfl,⟨rfl,rfl,rfl,b8 (by omega),trivial⟩,_,rfl,rfl⟩
  |cons z out=>
   refine⟨⟨rfl,jZ _,by show(gA (z::out)).length+4<=4294967296;rw[bC];omega⟩,gA ((z::out)++[92,120,dT (c.toNat / 16),dT (c.toNat%16)]),((z::out)++[92,120,dT (c.toNat / 16),dT (c.toNat%16)]).length,⟨(by show gA ((z::out)++[92,120,dT (c.toNat / 16),dT (c.toNat%16)])=gA (z::out)++[GV.i .u8 92,GV.i .u8 120,GV.i .u8 (dT (c.toNat / 16)).toNat,GV.i .u8 (dT (c.toNat%16)).toNat];simp[gA]),by show _=(gA (z::out)).length+4;rw[bC];simp⟩,?_⟩;(conv=>whnf);refine⟨⟨zL _,by first|rfl|(rw[bC];rfl)|(rw[bC];simp),by first|exact .inr ⟨rfl,rfl⟩|exact .inl ⟨rfl,rfl⟩⟩,?_⟩;(conv=>whnf);exact⟨s.length - (i+1),(by show _<s.length - i;omega),(i+1,(z::out)++[92,120,dT (c.toNat / 16),dT (c.toNat%16)]),⟨by show i+1<=_;omega,(by show(z::out)++[92,120,dT (c.toNat / 16),dT (c.toNat%16)]=_;rw[ht,<-hout,hesc])⟩,rfl,⟨rfl,rfl,rfl,b8 (by omega),trivial⟩,_,rfl,rfl⟩
 have hg':=aB hg;have hesc:mM c=[c]:=by unfold mM;rw[aE (fun h=>h.elim hc34 hc92),aE (by omega)]
 cases out with
 |nil=>
  refine⟨⟨rfl,jZ _,by show(gA ([]:List UInt8)).length+1<=4294967296;rw[bC];omega⟩,gA (([]:List UInt8)++[c]),(([]:List UInt8)++[c]).length,⟨(by show gA (([]:List UInt8)++[c])=gA ([]:List UInt8)++[GV.i .u8 c.toNat];simp[gA]),by show _=(gA ([]:List UInt8)).length+1;rw[bC];simp⟩,?_⟩;conv=>whnf
  refine⟨⟨zL _,by first|rfl|(rw[bC];rfl)|(rw[bC];simp),by first|exact .inr ⟨rfl,rfl⟩|exact .inl ⟨rfl,rfl⟩⟩,?_⟩;conv=>whnf
  exact⟨s.length - (i+1),(by show _<s.length - i;omega),(i+1,([]:List UInt8)++[c]),⟨by show i+1<=_;omega,(by show([]:List UInt8)++[c]=_;rw[ht,<-hout,hesc])⟩,rfl,⟨rfl,rfl,rfl,b8 (by omega),trivial⟩,_,rfl,rfl⟩
 |cons z out=>
  refine⟨⟨rfl,jZ _,by show(gA (z::out)).length+1<=4294967296;rw[bC];omega⟩,gA ((z::out)++[c]),((z::out)++[c]).length,⟨(by show gA ((z::out)++[c])=gA (z::out)++[GV.i .u8 c.toNat];simp[gA]),by show _=(gA (z::out)).length+1;rw[bC];simp⟩,?_⟩;conv=>whnf
  refine⟨⟨zL _,by first|rfl|(rw[bC];rfl)|(rw[bC];simp),by first|exact .inr ⟨rfl,rfl⟩|exact .inl ⟨rfl,rfl⟩⟩,?_⟩;conv=>whnf
  exact⟨s.length - (i+1),(by show _<s.length - i;omega),(i+1,(z::out)++[c]),⟨by show i+1<=_;omega,(by show(z::out)++[c]=_;rw[ht,<-hout,hesc])⟩,rfl,⟨rfl,rfl,rfl,b8 (by omega),trivial⟩,_,rfl,rfl⟩
theorem TI [MaxL] (v:Val) (hv:v.s.length<1000000) (h0: -9223372036854775808<=v.n) (h1:v.n<=9223372036854775807):SC Tryz.prog 321 [v.gv] [] (.val (.s (eV v))) []:=by
 obtain⟨k,n,s⟩:=v;refine cZ Tryz.func321 rfl ?_;conv=>whnf
 refine aF (fun h=>?_) (fun h=>?_)<;>conv=>whnf
 ·have h':k=1:=by simpa using h
  refine nH (TO n h0 h1) ?_;conv=>whnf
  refine bA (Wk.of_eq ?_) (.s _);show GV.s (Lib.itoa n)=_;unfold eV;rw[aG h']
 ·have h':k≠1:=by simpa using h
  refine nH (WP s hv) ?_;conv=>whnf
  refine bA (Wk.of_eq ?_) (.s _);show GV.s (oV s)=_;unfold eV;rw[aE h']
theorem P2 [MaxL] (c:UInt8):SC Tryz.prog 264 [.i .u8 c.toNat] [] (.val (.b (d9 c))) []:=by
 refine cZ Tryz.func264 rfl ?_;conv=>whnf
 repeat' (refine aF (fun _=>?_) (fun _=>?_)<;>conv=>whnf)
 all_goals
  refine d7 ?_;rw[eZ,wI];simp only[aL,bM,dE,iG,ne_eq,bT] at*;first|done|omega|(refine iff_of_true trivial ?_;omega)|(refine iff_of_false (fun h=>h) ?_;omega)
theorem a1c [MaxL] (w:List UInt8):SC Tryz.prog 354 [.s w] [] (.val (.b (a2q.contains w))) []:=by
 refine cZ Tryz.func354 rfl ?_;conv=>whnf
 repeat' (refine aF (fun _=>?_) (fun _=>?_)<;>conv=>whnf)
 all_goals
  refine d7 ?_;rw[eZ];simp[a2q] at*;try simp[*]
def pO (t:List UInt8):Nat:=1+(t.takeWhile d9).length
def sw:List UInt8->Option Nat
 |[]=>none
 |c::t=>
  if d9 c=true/\c≠95 then
   (if 97<=c.toNat then(if fV ((c::t).take (pO t)) then some (pO t) else none) else if(AW ((c::t).take (pO t))).2 then some (pO t) else none)
  else if c=45 then(if(AW ((c::t).take (pO t))).2 then some (pO t) else none)
  else if c=34 then(if(jN (c::t) 0).2=0 then none else some (jN (c::t) 0).2)
  else if(c=60/\(t.head?=some 62∨t.head?=some 61))∨(c=62/\t.head?=some 61) then some 2
  else if c=40∨c=41∨c=58∨c=61∨c=60∨c=62 then some 1 else none
def kT:Nat->List UInt8->Option (List By)
 |0,_=>none
 |_+1,[]=>some []
 |f+1,c::t=>if c=32 then kT f t else match sw (c::t) with
  |some k=>(kT f ((c::t).drop k)).map fun ws=>(c::t).take k::ws
  |none=>none
theorem W3 (t:List UInt8):1<=pO t:=by unfold pO;omega
theorem QW (t:List UInt8):pO t<=t.length+1:=by
 have:=(gM (l:=t) d9).length_le;unfold pO;omega
theorem EZ:∀(n:Nat) {l t r:List UInt8},l.length<=n->rq l=some (t,r)->r.length<l.length
 |0,l,t,r,h,e=>by
  cases l with
  |nil=>cases e
  |cons _ _=>simp at h
 |n+1,[],t,r,h,e=>by cases e
 |n+1,c::l,t,r,h,e=>by
  have hl:l.length<=n:=by simp at h;omega
  by_cases h34:c=34
  ·rw[h34,QX] at e;cases e;simp
  ·by_cases hb:c.toNat<32∨126<c.toNat
   ·rw[JJ h34 hb] at e;cases e
   ·by_cases h92:c=92
    ·subst h92;by_cases hx:∃a b l2,l=120::a::b::l2
     ·obtain⟨a,b,l2,rfl⟩:=hx;rw[ZH] at e;split at e
      ·split at e
       ·split at e
        ·cases e
        ·cases hq:rq l2 with
         |none=>rw[hq] at e;cases e
         |some p=>rw[hq] at e;cases e;have:=EZ n (l:=l2) (t:=p.1) (r:=p.2) (by simp at hl;omega) hq;simp;omega
       ·cases e
      ·cases e
     ·by_cases he:∃c' l1,l=c'::l1/\(c'=34∨c'=92)
      ·obtain⟨c',l1,rfl,hc'⟩:=he;rw[F0 hc'] at e;cases hq:rq l1 with
       |none=>rw[hq] at e;cases e
       |some p=>rw[hq] at e;cases e;have:=EZ n (l:=l1) (t:=p.1) (r:=p.2) (by simp at hl;omega) hq;simp;omega
      ·rw[zU (fun e0 r1 h1=>⟨fun h=>he ⟨e0,r1,h1,h⟩,fun h a b r2 h2=>hx ⟨a,b,r2,by rw[h1,h,h2]⟩⟩)] at e;cases e
    ·rw[ZI h34 hb h92] at e;cases hq:rq l with
     |none=>rw[hq] at e;cases e
     |some p=>rw[hq] at e;cases e;have:=EZ n (l:=l) (t:=p.1) (r:=p.2) hl hq;simp;omega
theorem MB (s:List UInt8) (i:Nat):jN s i=jN (s.drop i) 0:=by
 unfold jN;rw[show(s.drop i)[0]?=s[i]? by rw[gW];rfl,j8,bB];split
 ·cases h:rq (s.drop (i+1)) with
  |none=>rfl
  |some p=>simp only[BG,dW];congr 1;omega
 ·rfl
theorem I7 (s:List UInt8):(jN s 0).2<=s.length:=by
 unfold jN;split
 ·cases h:rq (s.drop (0+1)) with
  |none=>exact zL _
  |some p=>simp only[BG];omega
 ·exact zL _
theorem EQ {l:List UInt8} {k:Nat} (h:sw l=some k):1<=k/\k<=l.length:=by
 cases l with
 |nil=>cases h
 |cons c t=>
  have h1:=W3 t;have h2:=QW t;have h3:=I7 (c::t);have h4:(t.head?=some 62∨t.head?=some 61)->1<=t.length:=fun h=>by
   cases t with
   |nil=>simp at h
   |cons _ _=>simp
  simp only[sw] at h;simp only[aJ] at h3⊢;split at h
  ·split at h
   ·split at h
    ·cases h;omega
    ·cases h
   ·split at h
    ·cases h;omega
    ·cases h
  ·split at h
   ·split at h
    ·cases h;omega
    ·cases h
   ·split at h
    ·split at h
     ·cases h
     ·cases h;omega
    ·split at h
     ·rename_i hh;cases h;have:1<=t.length:=h4 (hh.elim (fun h=>h.2) (fun h=>.inr h.2));omega
     ·split at h
      ·cases h;omega
      ·cases h
def B4 (s:By):Option (List By):=kT (s.length+1) s
theorem yP (f:Nat):kT (f+1) []=some []:=rfl
theorem t7 (f:Nat) (t:By):kT (f+1) (32::t)=kT f t:=by
 show(if(32:UInt8)=32 then _ else _)=_;rw[aG rfl]
theorem t8 (f:Nat) {c:UInt8} (h:c≠32) (t:By):kT (f+1) (c::t)=match sw (c::t) with
  |some k=>(kT f ((c::t).drop k)).map fun ws=>(c::t).take k::ws
  |none=>none:=by
 show(if c=32 then _ else _)=_;rw[aE h];try rfl
theorem rV:∀(f g:Nat) (l:By),l.length<f->l.length<g->kT f l=kT g l
 |0,_,_,h,_=>by omega
 |_,0,_,_,h=>by omega
 |f+1,g+1,[],_,_=>rfl
 |f+1,g+1,c::t,h,h'=>by
  simp only[aJ] at h h';by_cases hc:c=32
  ·rw[hc,t7,t7];exact rV f g t (by omega) (by omega)
  ·rw[t8 f hc,t8 g hc];cases hk:sw (c::t) with
   |none=>rfl
   |some k=>
    have:=EQ hk;have hd:((c::t).drop k).length<=t.length:=by simp;omega
    simp only;rw[rV f g _ (by omega) (by omega)]
