/-
  A part of the proof of SchemaSorts.
-/
import Derived.Test.YtcfgfkkhpdlhpaaGreatDoorS30
set_option linter.all false
set_option maxRecDepth 100000
namespace Go.Proofs.YtcfgfkkhpdlhpaaGreatDoor
open Go.RowKit
theorem SI:∀n:Fin 256,0<=IntKind.u8.wrap (((n:Nat):Int).tdiv 16)/\XY[(IntKind.u8.wrap (((n:Nat):Int).tdiv 16)).toNat]?=some (dS ((n:Nat) / 16)):=by decide+kernel
theorem SH:∀n:Fin 256,0<=(((n:Nat):Int).tmod 16)/\XY[(((n:Nat):Int).tmod 16).toNat]?=some (dS ((n:Nat)%16)):=by decide+kernel
theorem X5 [MaxL] (s:List UInt8) (hs:s.length<1000000):SC Tryz.prog 332 [.s s] [] (.val (.s (oX s))) []:=by
 refine cY Tryz.func332 rfl ?_;conv=>whnf
 refine eT (fun q:Nat×List UInt8=>q.1<=s.length/\q.2=(s.take q.1).flatMap mL)
  (fun q=>[(0,.s s),(3,.sl (.own 0) (fU q.2)),(4,.s XY),(5,.i .i64 (q.1:Nat))]) (fun q=>⟨[ow 5 1 q.2.length],0,[]⟩) (fun q=>s.length - q.1) (0,[]) ⟨zL _,rfl⟩ ⟨rfl,rfl,rfl,rfl,trivial⟩ rfl (fun _ _=>rL _) (fun q _=>by simp only[iX,oB];rfl) (fun q _ e he=>?_) (fun q φ0 hq=>?_)
 ·refine⟨by simp[z7],rfl,?_⟩;show[_,(GV.sl (.own 0) (fU q.2)).ren e,_,_]=_;rw[pR (he 0 (by simp)) (l:=fU q.2) (gI (fun _=>Cl.i _ _) _)];rfl
 obtain⟨i,out⟩:=q;obtain⟨hi,hout⟩:=hq;replace hi:i<=s.length:=hi;replace hout:out=(s.take i).flatMap mL:=hout;have hol:out.length<=4*i:=by
  rw[hout];refine fZ (AT _) ?_;rw[bM];omega
 conv=>whnf
 refine aE (fun h1=>?_) (fun h1=>?_)<;>conv=>whnf
 rotate_left
 ·have hie:i=s.length:=by have:=aC h1;omega
  refine⟨out,CE out,?_⟩;conv=>whnf
  have hoq:out=s.flatMap mL:=by rw[hout,hie,b6]
  refine⟨by show 1+out.length<tO;unfold tO;omega,_,rfl,?_⟩;conv=>whnf
  refine⟨by show([34]++out).length+1<tO;rw[aG];show 1+out.length+1<tO;unfold tO;omega,_,rfl,?_⟩;conv=>whnf
  refine bE (Wk.of_eq ?_) (.s _);show GV.s ([34]++out++[34])=.s (oX s);rw[hoq];unfold oX;simp
 have hlt:i<s.length:=by have:=aB h1;omega
 have hgi:s[i]?=some (s.getD i 0):=by rw[aO,gL hlt];rfl
 generalize s.getD i 0=c at*;have hgi':s[((i:Nat):Int).toNat]?=some c:=by rw[aA];exact hgi
 have ht:(s.take (i+1)).flatMap mL=(s.take i).flatMap mL++mL c:=by
  rw[bP,hgi];simp
 refine GNeed.mk (cN _) ⟨c,hgi',?_⟩;conv=>whnf
 refine aE (fun h34=>?_) (fun h34=>?_)<;>conv=>whnf
 ·have hc:=iU (d:=34) h34;have hesc:mL c=[92,c]:=by unfold mL;rw[aF (.inl hc)]
  cases out with
  |nil=>
   refine⟨⟨rfl,jW _,by show(fU ([]:List UInt8)).length+2<=4294967296;rw[bF];omega⟩,fU (([]:List UInt8)++[92,c]),(([]:List UInt8)++[92,c]).length,⟨(by show fU (([]:List UInt8)++[92,c])=fU ([]:List UInt8)++[GV.i .u8 92,GV.i .u8 c.toNat];simp[fU]),by show _=(fU ([]:List UInt8)).length+2;rw[bF];simp⟩,?_⟩;(conv=>whnf);refine⟨⟨zL _,by first|rfl|(rw[bF];rfl)|(rw[bF];simp),by first|exact .inr ⟨rfl,rfl⟩|exact .inl ⟨rfl,rfl⟩⟩,?_⟩;(conv=>whnf);exact⟨s.length - (i+1),(by show _<s.length - i;omega),(i+1,([]:List UInt8)++[92,c]),⟨by show i+1<=_;omega,(by show([]:List UInt8)++[92,c]=_;rw[ht,<-hout,hesc])⟩,rfl,⟨rfl,rfl,rfl,b7 (by omega),trivial⟩,_,rfl,rfl⟩
  |cons z out=>
   refine⟨⟨rfl,jW _,by show(fU (z::out)).length+2<=4294967296;rw[bF];omega⟩,fU ((z::out)++[92,c]),((z::out)++[92,c]).length,⟨(by show fU ((z::out)++[92,c])=fU (z::out)++[GV.i .u8 92,GV.i .u8 c.toNat];simp[fU]),by show _=(fU (z::out)).length+2;rw[bF];simp⟩,?_⟩;(conv=>whnf);refine⟨⟨zL _,by first|rfl|(rw[bF];rfl)|(rw[bF];simp),by first|exact .inr ⟨rfl,rfl⟩|exact .inl ⟨rfl,rfl⟩⟩,?_⟩;(conv=>whnf);exact⟨s.length - (i+1),(by show _<s.length - i;omega),(i+1,(z::out)++[92,c]),⟨by show i+1<=_;omega,(by show(z::out)++[92,c]=_;rw[ht,<-hout,hesc])⟩,rfl,⟨rfl,rfl,rfl,b7 (by omega),trivial⟩,_,rfl,rfl⟩
 have hc34:=jT (d:=34) h34;refine aE (fun h92=>?_) (fun h92=>?_)<;>conv=>whnf
 ·have hc:=iU (d:=92) h92;have hesc:mL c=[92,c]:=by unfold mL;rw[aF (.inr hc)]
  cases out with
  |nil=>
   refine⟨⟨rfl,jW _,by show(fU ([]:List UInt8)).length+2<=4294967296;rw[bF];omega⟩,fU (([]:List UInt8)++[92,c]),(([]:List UInt8)++[92,c]).length,⟨(by show fU (([]:List UInt8)++[92,c])=fU ([]:List UInt8)++[GV.i .u8 92,GV.i .u8 c.toNat];simp[fU]),by show _=(fU ([]:List UInt8)).length+2;rw[bF];simp⟩,?_⟩;(conv=>whnf);refine⟨⟨zL _,by first|rfl|(rw[bF];rfl)|(rw[bF];simp),by first|exact .inr ⟨rfl,rfl⟩|exact .inl ⟨rfl,rfl⟩⟩,?_⟩;(conv=>whnf);exact⟨s.length - (i+1),(by show _<s.length - i;omega),(i+1,([]:List UInt8)++[92,c]),⟨by show i+1<=_;omega,(by show([]:List UInt8)++[92,c]=_;rw[ht,<-hout,hesc])⟩,rfl,⟨rfl,rfl,rfl,b7 (by omega),trivial⟩,_,rfl,rfl⟩
  |cons z out=>
   refine⟨⟨rfl,jW _,by show(fU (z::out)).length+2<=4294967296;rw[bF];omega⟩,fU ((z::out)++[92,c]),((z::out)++[92,c]).length,⟨(by show fU ((z::out)++[92,c])=fU (z::out)++[GV.i .u8 92,GV.i .u8 c.toNat];simp[fU]),by show _=(fU (z::out)).length+2;rw[bF];simp⟩,?_⟩;(conv=>whnf);refine⟨⟨zL _,by first|rfl|(rw[bF];rfl)|(rw[bF];simp),by first|exact .inr ⟨rfl,rfl⟩|exact .inl ⟨rfl,rfl⟩⟩,?_⟩;(conv=>whnf);exact⟨s.length - (i+1),(by show _<s.length - i;omega),(i+1,(z::out)++[92,c]),⟨by show i+1<=_;omega,(by show(z::out)++[92,c]=_;rw[ht,<-hout,hesc])⟩,rfl,⟨rfl,rfl,rfl,b7 (by omega),trivial⟩,_,rfl,rfl⟩
 have hc92:=jT (d:=92) h92;refine aE (fun hl=>?_) (fun hl=>?_)<;>conv=>whnf
 ·have hl':=aB hl;have hesc:mL c=[92,120,dS (c.toNat / 16),dS (c.toNat%16)]:=by unfold mL;rw[aD (fun h=>h.elim hc34 hc92),aF (.inl (by omega))]
  have hc8:=bX c;refine aZ (by kernel_rfl) ?_;conv=>whnf
  refine⟨by decide,?_⟩;conv=>whnf
  refine GNeed.mk (SI ⟨c.toNat,hc8⟩).1 ⟨dS (c.toNat / 16),(SI ⟨c.toNat,hc8⟩).2,?_⟩;conv=>whnf
  refine⟨by decide,?_⟩;conv=>whnf
  refine GNeed.mk (SH ⟨c.toNat,hc8⟩).1 ⟨dS (c.toNat%16),(SH ⟨c.toNat,hc8⟩).2,?_⟩;conv=>whnf
  cases out with
  |nil=>
   refine⟨⟨rfl,jW _,by show(fU ([]:List UInt8)).length+4<=4294967296;rw[bF];omega⟩,fU (([]:List UInt8)++[92,120,dS (c.toNat / 16),dS (c.toNat%16)]),(([]:List UInt8)++[92,120,dS (c.toNat / 16),dS (c.toNat%16)]).length,⟨(by show fU (([]:List UInt8)++[92,120,dS (c.toNat / 16),dS (c.toNat%16)])=fU ([]:List UInt8)++[GV.i .u8 92,GV.i .u8 120,GV.i .u8 (dS (c.toNat / 16)).toNat,GV.i .u8 (dS (c.toNat%16)).toNat];simp[fU]),by show _=(fU ([]:List UInt8)).length+4;rw[bF];simp⟩,?_⟩;(conv=>whnf);refine⟨⟨zL _,by first|rfl|(rw[bF];rfl)|(rw[bF];simp),by first|exact .inr ⟨rfl,rfl⟩|exact .inl ⟨rfl,rfl⟩⟩,?_⟩;(conv=>whnf);exact⟨s.length - (i+1),(by show _<s.length - i;omega),(i+1,([]:List UInt8)++[92,120,dS (c.toNat / 16),dS (c.toNat%16)]),⟨by show i+1<=_;omega,(by show([]:List UInt8)++[92,120,dS (c.toNat / 16),dS (c.toNat%16)]=_;rw[ht,<-hout,hesc])⟩,rfl,⟨rfl,rfl,rfl,b7 (by omega),trivial⟩,_,rfl,rfl⟩
  |cons z out=>
   refine⟨⟨rfl,jW _,by show(fU (z::out)).length+4<=4294967296;rw[bF];omega⟩,fU ((z::out)++[92,120,dS (c.toNat / 16),dS (c.toNat%16)]),((z::out)++[92,120,dS (c.toNat / 16),dS (c.toNat%16)]).length,⟨(by show fU ((z::out)++[92,120,dS (c.toNat / 16),dS (c.toNat%16)])=fU (z::out)++[GV.i .u8 92,GV.i .u8 120,GV.i .u8 (dS (c.toNat / 16)).toNat,GV.i .u8 (dS (c.toNat%16)).toNat];simp[fU]),by show _=(fU (z::out)).length+4;rw[bF];simp⟩,?_⟩;(conv=>whnf);refine⟨⟨zL _,by first|rfl|(rw[bF];rfl)|(rw[bF];simp),by first|exact .inr ⟨rfl,rfl⟩|exact .inl ⟨rfl,rfl⟩⟩,?_⟩;(conv=>whnf);exact⟨s.length - (i+1),(by show _<s.length - i;omega),(i+1,(z::out)++[92,120,dS (c.toNat / 16),dS (c.toNat%16)]),⟨by show i+1<=_;omega,(by show(z::out)++[92,120,dS (c.toNat / 16),dS (c.toNat%16)]=_;rw[ht,<-hout,hesc])⟩,rfl,⟨rfl,rfl,rfl,b7 (by omega),trivial⟩,_,rfl,rfl⟩
 have hl':=aC hl;refine aE (fun hg=>?_) (fun hg=>?_)<;>conv=>whnf
 ·have hg':=aB hg;have hesc:mL c=[92,120,dS (c.toNat / 16),dS (c.toNat%16)]:=by unfold mL;rw[aD (fun h=>h.elim hc34 hc92),aF (.inr (by omega))]
  have hc8:=bX c;refine aZ (by kernel_rfl) ?_;conv=>whnf
  refine⟨by decide,?_⟩;conv=>whnf
  refine GNeed.mk (SI ⟨c.toNat,hc8⟩).1 ⟨dS (c.toNat / 16),(SI ⟨c.toNat,hc8⟩).2,?_⟩;conv=>whnf
  refine⟨by decide,?_⟩;conv=>whnf
  refine GNeed.mk (SH ⟨c.toNat,hc8⟩).1 ⟨dS (c.toNat%16),(SH ⟨c.toNat,hc8⟩).2,?_⟩;conv=>whnf
  cases out with
  |nil=>
   refine⟨⟨rfl,jW _,by show(fU ([]:List UInt8)).length+4<=4294967296;rw[bF];omega⟩,fU (([]:List UInt8)++[92,120,dS (c.toNat / 16),dS (c.toNat%16)]),(([]:List UInt8)++[92,120,dS (c.toNat / 16),dS (c.toNat%16)]).length,⟨(by show fU (([]:List UInt8)++[92,120,dS (c.toNat / 16),dS (c.toNat%16)])=fU ([]:List UInt8)++[GV.i .u8 92,GV.i .u8 120,GV.i .u8 (dS (c.toNat / 16)).toNat,GV.i .u8 (dS (c.toNat%16)).toNat];simp[fU]),by show _=(fU ([]:List UInt8)).length+4;rw[bF];simp⟩,?_⟩;(conv=>whnf);refine⟨⟨zL _,by first|rfl|(rw[bF];rfl)|(rw[bF];simp),by first|exact .inr ⟨rfl,rfl⟩|exact .inl ⟨rfl,rfl⟩⟩,?_⟩;(conv=>whnf);exact⟨s.length - (i+1),(by show _<s.length - i;omega),(i+1,([]:List UInt8)++[92,120,dS (c.toNat / 16),dS (c.toNat%16)]),⟨by show i+1<=_;omega,(by show([]:List UInt8)++[92,120,dS (c.toNat / 16),dS (c.toNat%16)]=_;rw[ht,<-hout,hesc])⟩,rfl,⟨rfl,rfl,rfl,b7 (by omega),trivial⟩,_,rfl,rfl⟩
  |cons z out=>
   refine⟨⟨rfl,jW _,by show(fU (z::out)).length+4<=4294967296;rw[bF];omega⟩,fU ((z::out)++[92,120,dS (c.toNat / 16),dS (c.toNat%16)]),((z::out)++[92,120,dS (c.toNat / 16),dS (c.toNat%16)]).length,⟨(by show fU ((z::out)++[92,120,dS (c.toNat / 16),dS (c.toNat%16)])=fU (z::out)++[GV.i .u8 92,GV.i .u8 120,GV.i .u8 (dS (c.toNat / 16)).toNat,GV.i .u8 (dS (c.toNat%16)).toNat];simp[fU]),by show _=(fU (z::out)).length+4;rw[bF];simp⟩,?_⟩;(conv=>whnf);refine⟨⟨zL _,by first|rfl|(rw[bF];rfl)|(rw[bF];simp),by first|exact .inr ⟨rfl,rfl⟩|exact .inl ⟨rfl,rfl⟩⟩,?_⟩;(conv=>whnf);exact⟨s.length - (i+1),(by show _<s.length - i;omega),(i+1,(z::out)++[92,120,dS (c.toNat / 16),dS (c.toNat%16)]),⟨by show i+1<=_;omega,(by show(z::out)++[92,120,dS (c.toNat / 16),dS (c.toNat%16)]=_;rw[ht,<-hout,hesc])⟩,rfl,⟨rfl,rfl,rfl,b7 (by omega),trivial⟩,_,rfl,rfl⟩
 have hg':=aC hg;have hesc:mL c=[c]:=by unfold mL;rw[aD (fun h=>h.elim hc34 hc92),aD (by omega)]
 cases out with
 |nil=>
  refine⟨⟨rfl,jW _,by show(fU ([]:List UInt8)).length+1<=4294967296;rw[bF];omega⟩,fU (([]:List UInt8)++[c]),(([]:List UInt8)++[c]).length,⟨(by show fU (([]:List UInt8)++[c])=fU ([]:List UInt8)++[GV.i .u8 c.toNat];simp[fU]),by show _=(fU ([]:List UInt8)).length+1;rw[bF];simp⟩,?_⟩;conv=>whnf
  refine⟨⟨zL _,by first|rfl|(rw[bF];rfl)|(rw[bF];simp),by first|exact .inr ⟨rfl,rfl⟩|exact .inl ⟨rfl,rfl⟩⟩,?_⟩;conv=>whnf
  exact⟨s.length - (i+1),(by show _<s.length - i;omega),(i+1,([]:List UInt8)++[c]),⟨by show i+1<=_;omega,(by show([]:List UInt8)++[c]=_;rw[ht,<-hout,hesc])⟩,rfl,⟨rfl,rfl,rfl,b7 (by omega),trivial⟩,_,rfl,rfl⟩
 |cons z out=>
  refine⟨⟨rfl,jW _,by show(fU (z::out)).length+1<=4294967296;rw[bF];omega⟩,fU ((z::out)++[c]),((z::out)++[c]).length,⟨(by show fU ((z::out)++[c])=fU (z::out)++[GV.i .u8 c.toNat];simp[fU]),by show _=(fU (z::out)).length+1;rw[bF];simp⟩,?_⟩;conv=>whnf
  refine⟨⟨zL _,by first|rfl|(rw[bF];rfl)|(rw[bF];simp),by first|exact .inr ⟨rfl,rfl⟩|exact .inl ⟨rfl,rfl⟩⟩,?_⟩;conv=>whnf
  exact⟨s.length - (i+1),(by show _<s.length - i;omega),(i+1,(z::out)++[c]),⟨by show i+1<=_;omega,(by show(z::out)++[c]=_;rw[ht,<-hout,hesc])⟩,rfl,⟨rfl,rfl,rfl,b7 (by omega),trivial⟩,_,rfl,rfl⟩
theorem TX [MaxL] (v:Val) (hv:v.s.length<1000000) (h0: -9223372036854775808<=v.n) (h1:v.n<=9223372036854775807):SC Tryz.prog 321 [v.gv] [] (.val (.s (eX v))) []:=by
 obtain⟨k,n,s⟩:=v;refine cY Tryz.func321 rfl ?_;conv=>whnf
 refine aE (fun h=>?_) (fun h=>?_)<;>conv=>whnf
 ·have h':k=1:=by simpa using h
  refine lM (U4 n h0 h1) ?_;conv=>whnf
  refine bE (Wk.of_eq ?_) (.s _);show GV.s (Lib.itoa n)=_;unfold eX;rw[aF h']
 ·have h':k≠1:=by simpa using h
  refine lM (X5 s hv) ?_;conv=>whnf
  refine bE (Wk.of_eq ?_) (.s _);show GV.s (oX s)=_;unfold eX;rw[aD h']
theorem PI [MaxL] (c:UInt8):SC Tryz.prog 264 [.i .u8 c.toNat] [] (.val (.b (d8 c))) []:=by
 refine cY Tryz.func264 rfl ?_;conv=>whnf
 repeat' (refine aE (fun _=>?_) (fun _=>?_)<;>conv=>whnf)
 all_goals
  refine bY ?_;rw[dU,wL];simp only[aK,bC,cT,iA,ne_eq,bU] at*;first|done|omega|(refine iff_of_true trivial ?_;omega)|(refine iff_of_false (fun h=>h) ?_;omega)
theorem a1h [MaxL] (w:List UInt8):SC Tryz.prog 354 [.s w] [] (.val (.b (a2y.contains w))) []:=by
 refine cY Tryz.func354 rfl ?_;conv=>whnf
 repeat' (refine aE (fun _=>?_) (fun _=>?_)<;>conv=>whnf)
 all_goals
  refine bY ?_;rw[dU];simp[a2y] at*;try simp[*]
def pQ (t:List UInt8):Nat:=1+(t.takeWhile d8).length
def sw:List UInt8->Option Nat
 |[]=>none
 |c::t=>
  if d8 c=true/\c≠95 then
   (if 97<=c.toNat then(if fP ((c::t).take (pQ t)) then some (pQ t) else none) else if(B9 ((c::t).take (pQ t))).2 then some (pQ t) else none)
  else if c=45 then(if(B9 ((c::t).take (pQ t))).2 then some (pQ t) else none)
  else if c=34 then(if(jK (c::t) 0).2=0 then none else some (jK (c::t) 0).2)
  else if(c=60/\(t.head?=some 62∨t.head?=some 61))∨(c=62/\t.head?=some 61) then some 2
  else if c=40∨c=41∨c=58∨c=61∨c=60∨c=62 then some 1 else none
def kR:Nat->List UInt8->Option (List By)
 |0,_=>none
 |_+1,[]=>some []
 |f+1,c::t=>if c=32 then kR f t else match sw (c::t) with
  |some k=>(kR f ((c::t).drop k)).map fun ws=>(c::t).take k::ws
  |none=>none
theorem WF (t:List UInt8):1<=pQ t:=by unfold pQ;omega
theorem RK (t:List UInt8):pQ t<=t.length+1:=by
 have:=(gJ (l:=t) d8).length_le;unfold pQ;omega
theorem F9:∀(n:Nat) {l t r:List UInt8},l.length<=n->rq l=some (t,r)->r.length<l.length
 |0,l,t,r,h,e=>by
  cases l with
  |nil=>cases e
  |cons _ _=>simp at h
 |n+1,[],t,r,h,e=>by cases e
 |n+1,c::l,t,r,h,e=>by
  have hl:l.length<=n:=by simp at h;omega
  by_cases h34:c=34
  ·rw[h34,RM] at e;cases e;simp
  ·by_cases hb:c.toNat<32∨126<c.toNat
   ·rw[JU h34 hb] at e;cases e
   ·by_cases h92:c=92
    ·subst h92;by_cases hx:∃a b l2,l=120::a::b::l2
     ·obtain⟨a,b,l2,rfl⟩:=hx;rw[ZQ] at e;split at e
      ·split at e
       ·split at e
        ·cases e
        ·cases hq:rq l2 with
         |none=>rw[hq] at e;cases e
         |some p=>rw[hq] at e;cases e;have:=F9 n (l:=l2) (t:=p.1) (r:=p.2) (by simp at hl;omega) hq;simp;omega
       ·cases e
      ·cases e
     ·by_cases he:∃c' l1,l=c'::l1/\(c'=34∨c'=92)
      ·obtain⟨c',l1,rfl,hc'⟩:=he;rw[FA hc'] at e;cases hq:rq l1 with
       |none=>rw[hq] at e;cases e
       |some p=>rw[hq] at e;cases e;have:=F9 n (l:=l1) (t:=p.1) (r:=p.2) (by simp at hl;omega) hq;simp;omega
      ·rw[A0 (fun e0 r1 h1=>⟨fun h=>he ⟨e0,r1,h1,h⟩,fun h a b r2 h2=>hx ⟨a,b,r2,by rw[h1,h,h2]⟩⟩)] at e;cases e
    ·rw[ZR h34 hb h92] at e;cases hq:rq l with
     |none=>rw[hq] at e;cases e
     |some p=>rw[hq] at e;cases e;have:=F9 n (l:=l) (t:=p.1) (r:=p.2) hl hq;simp;omega
theorem MO (s:List UInt8) (i:Nat):jK s i=jK (s.drop i) 0:=by
 unfold jK;rw[show(s.drop i)[0]?=s[i]? by rw[gT];rfl,j3,bH];split
 ·cases h:rq (s.drop (i+1)) with
  |none=>rfl
  |some p=>simp only[BT,d6];congr 1;omega
 ·rfl
theorem IE (s:List UInt8):(jK s 0).2<=s.length:=by
 unfold jK;split
 ·cases h:rq (s.drop (0+1)) with
  |none=>exact zL _
  |some p=>simp only[BT];omega
 ·exact zL _
theorem EZ {l:List UInt8} {k:Nat} (h:sw l=some k):1<=k/\k<=l.length:=by
 cases l with
 |nil=>cases h
 |cons c t=>
  have h1:=WF t;have h2:=RK t;have h3:=IE (c::t);have h4:(t.head?=some 62∨t.head?=some 61)->1<=t.length:=fun h=>by
   cases t with
   |nil=>simp at h
   |cons _ _=>simp
  simp only[sw] at h;simp only[aJ] at h3⊢;split at h
  ·split at h
   ·split at h
    ·cases h;omega
    ·cases h
   ·split at h
    ·cases h;omega
    ·cases h
  ·split at h
   ·split at h
    ·cases h;omega
    ·cases h
   ·split at h
    ·split at h
     ·cases h
     ·cases h;omega
    ·split at h
     ·rename_i hh;cases h;have:1<=t.length:=h4 (hh.elim (fun h=>h.2) (fun h=>.inr h.2));omega
     ·split at h
      ·cases h;omega
      ·cases h
def BG (s:By):Option (List By):=kR (s.length+1) s
theorem yU (f:Nat):kR (f+1) []=some []:=rfl
theorem tM (f:Nat) (t:By):kR (f+1) (32::t)=kR f t:=by
 show(if(32:UInt8)=32 then _ else _)=_;rw[aF rfl]
theorem tN (f:Nat) {c:UInt8} (h:c≠32) (t:By):kR (f+1) (c::t)=match sw (c::t) with
  |some k=>(kR f ((c::t).drop k)).map fun ws=>(c::t).take k::ws
  |none=>none:=by
 show(if c=32 then _ else _)=_;rw[aD h];try rfl
theorem s7:∀(f g:Nat) (l:By),l.length<f->l.length<g->kR f l=kR g l
 |0,_,_,h,_=>by omega
 |_,0,_,_,h=>by omega
 |f+1,g+1,[],_,_=>rfl
 |f+1,g+1,c::t,h,h'=>by
  simp only[aJ] at h h';by_cases hc:c=32
  ·rw[hc,tM,tM];exact s7 f g t (by omega) (by omega)
  ·rw[tN f hc,tN g hc];cases hk:sw (c::t) with
   |none=>rfl
   |some k=>
    have:=EZ hk;have hd:((c::t).drop k).length<=t.length:=by simp;omega
    simp only;rw[s7 f g _ (by omega) (by omega)]
