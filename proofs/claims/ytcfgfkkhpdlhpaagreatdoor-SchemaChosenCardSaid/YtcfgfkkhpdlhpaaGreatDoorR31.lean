/-
  A part of the proof of SchemaChosen.
-/
import Derived.Test.YtcfgfkkhpdlhpaaGreatDoorR30
set_option linter.all false
set_option maxRecDepth 100000
namespace Go.Proofs.YtcfgfkkhpdlhpaaGreatDoor
open Go.RowKit
theorem QX:∀n:Fin 256,0<=IntKind.u8.wrap (((n:Nat):Int).tdiv 16)/\WI[(IntKind.u8.wrap (((n:Nat):Int).tdiv 16)).toNat]?=some (dR ((n:Nat) / 16)):=by decide+kernel
theorem QW:∀n:Fin 256,0<=(((n:Nat):Int).tmod 16)/\WI[(((n:Nat):Int).tmod 16).toNat]?=some (dR ((n:Nat)%16)):=by decide+kernel
theorem VN [MaxL] (s:List UInt8) (hs:s.length<1000000):SC Tryz.prog 332 [.s s] [] (.val (.s (oL s))) []:=by
 refine cX Tryz.func332 rfl ?_;conv=>whnf
 refine eS (fun q:Nat×List UInt8=>q.1<=s.length/\q.2=(s.take q.1).flatMap mC)
  (fun q=>[(0,.s s),(3,.sl (.own 0) (fU q.2)),(4,.s WI),(5,.i .i64 (q.1:Nat))]) (fun q=>⟨[ow 5 1 q.2.length],0,[]⟩) (fun q=>s.length - q.1) (0,[]) ⟨zL _,rfl⟩ ⟨rfl,rfl,rfl,rfl,trivial⟩ rfl (fun _ _=>rL _) (fun q _=>by simp only[List.all_cons,rR];rfl) (fun q _ e he=>?_) (fun q φ0 hq=>?_)
 ·refine⟨by simp[yJ],rfl,?_⟩;show[_,(GV.sl (.own 0) (fU q.2)).ren e,_,_]=_;rw[p8 (he 0 (by simp)) (l:=fU q.2) (gI (fun _=>Cl.i _ _) _)];rfl
 obtain⟨i,out⟩:=q;obtain⟨hi,hout⟩:=hq;replace hi:i<=s.length:=hi;replace hout:out=(s.take i).flatMap mC:=hout;have hol:out.length<=4*i:=by
  rw[hout];refine fZ (AB _) ?_;rw[bQ];omega
 conv=>whnf
 refine aF (fun h1=>?_) (fun h1=>?_)<;>conv=>whnf
 rotate_left
 ·have hie:i=s.length:=by have:=aC h1;omega
  refine⟨out,BW out,?_⟩;conv=>whnf
  have hoq:out=s.flatMap mC:=by rw[hout,hie,b5]
  refine⟨by show 1+out.length<sU;unfold sU;omega,_,rfl,?_⟩;conv=>whnf
  refine⟨by show([34]++out).length+1<sU;rw[aE];show 1+out.length+1<sU;unfold sU;omega,_,rfl,?_⟩;conv=>whnf
  refine bC (Wk.of_eq ?_) (.s _);show GV.s ([34]++out++[34])=.s (oL s);rw[hoq];unfold oL;simp
 have hlt:i<s.length:=by have:=aB h1;omega
 have hgi:s[i]?=some (s.getD i 0):=by rw[aO,gL hlt];rfl
 generalize s.getD i 0=c at*;have hgi':s[((i:Nat):Int).toNat]?=some c:=by rw[aA];exact hgi
 have ht:(s.take (i+1)).flatMap mC=(s.take i).flatMap mC++mC c:=by
  rw[bR,hgi];simp
 refine GNeed.mk (cN _) ⟨c,hgi',?_⟩;conv=>whnf
 refine aF (fun h34=>?_) (fun h34=>?_)<;>conv=>whnf
 ·have hc:=iT (d:=34) h34;have hesc:mC c=[92,c]:=by unfold mC;rw[aG (.inl hc)]
  cases out with
  |nil=>
   refine⟨⟨rfl,jR _,by show(fU ([]:List UInt8)).length+2<=4294967296;rw[bE];omega⟩,fU (([]:List UInt8)++[92,c]),(([]:List UInt8)++[92,c]).length,⟨(by show fU (([]:List UInt8)++[92,c])=fU ([]:List UInt8)++[GV.i .u8 92,GV.i .u8 c.toNat];simp[fU]),by show _=(fU ([]:List UInt8)).length+2;rw[bE];simp⟩,?_⟩;(conv=>whnf);refine⟨⟨zL _,by first|rfl|(rw[bE];rfl)|(rw[bE];simp),by first|exact .inr ⟨rfl,rfl⟩|exact .inl ⟨rfl,rfl⟩⟩,?_⟩;(conv=>whnf);exact⟨s.length - (i+1),(by show _<s.length - i;omega),(i+1,([]:List UInt8)++[92,c]),⟨by show i+1<=_;omega,(by show([]:List UInt8)++[92,c]=_;rw[ht,<-hout,hesc])⟩,rfl,⟨rfl,rfl,rfl,b7 (by omega),trivial⟩,_,rfl,rfl⟩
  |cons z out=>
   refine⟨⟨rfl,jR _,by show(fU (z::out)).length+2<=4294967296;rw[bE];omega⟩,fU ((z::out)++[92,c]),((z::out)++[92,c]).length,⟨(by show fU ((z::out)++[92,c])=fU (z::out)++[GV.i .u8 92,GV.i .u8 c.toNat];simp[fU]),by show _=(fU (z::out)).length+2;rw[bE];simp⟩,?_⟩;(conv=>whnf);refine⟨⟨zL _,by first|rfl|(rw[bE];rfl)|(rw[bE];simp),by first|exact .inr ⟨rfl,rfl⟩|exact .inl ⟨rfl,rfl⟩⟩,?_⟩;(conv=>whnf);exact⟨s.length - (i+1),(by show _<s.length - i;omega),(i+1,(z::out)++[92,c]),⟨by show i+1<=_;omega,(by show(z::out)++[92,c]=_;rw[ht,<-hout,hesc])⟩,rfl,⟨rfl,rfl,rfl,b7 (by omega),trivial⟩,_,rfl,rfl⟩
 have hc34:=jO (d:=34) h34;refine aF (fun h92=>?_) (fun h92=>?_)<;>conv=>whnf
 ·have hc:=iT (d:=92) h92;have hesc:mC c=[92,c]:=by unfold mC;rw[aG (.inr hc)]
  cases out with
  |nil=>
   refine⟨⟨rfl,jR _,by show(fU ([]:List UInt8)).length+2<=4294967296;rw[bE];omega⟩,fU (([]:List UInt8)++[92,c]),(([]:List UInt8)++[92,c]).length,⟨(by show fU (([]:List UInt8)++[92,c])=fU ([]:List UInt8)++[GV.i .u8 92,GV.i .u8 c.toNat];simp[fU]),by show _=(fU ([]:List UInt8)).length+2;rw[bE];simp⟩,?_⟩;(conv=>whnf);refine⟨⟨zL _,by first|rfl|(rw[bE];rfl)|(rw[bE];simp),by first|exact .inr ⟨rfl,rfl⟩|exact .inl ⟨rfl,rfl⟩⟩,?_⟩;(conv=>whnf);exact⟨s.length - (i+1),(by show _<s.length - i;omega),(i+1,([]:List UInt8)++[92,c]),⟨by show i+1<=_;omega,(by show([]:List UInt8)++[92,c]=_;rw[ht,<-hout,hesc])⟩,rfl,⟨rfl,rfl,rfl,b7 (by omega),trivial⟩,_,rfl,rfl⟩
  |cons z out=>
   refine⟨⟨rfl,jR _,by show(fU (z::out)).length+2<=4294967296;rw[bE];omega⟩,fU ((z::out)++[92,c]),((z::out)++[92,c]).length,⟨(by show fU ((z::out)++[92,c])=fU (z::out)++[GV.i .u8 92,GV.i .u8 c.toNat];simp[fU]),by show _=(fU (z::out)).length+2;rw[bE];simp⟩,?_⟩;(conv=>whnf);refine⟨⟨zL _,by first|rfl|(rw[bE];rfl)|(rw[bE];simp),by first|exact .inr ⟨rfl,rfl⟩|exact .inl ⟨rfl,rfl⟩⟩,?_⟩;(conv=>whnf);exact⟨s.length - (i+1),(by show _<s.length - i;omega),(i+1,(z::out)++[92,c]),⟨by show i+1<=_;omega,(by show(z::out)++[92,c]=_;rw[ht,<-hout,hesc])⟩,rfl,⟨rfl,rfl,rfl,b7 (by omega),trivial⟩,_,rfl,rfl⟩
 have hc92:=jO (d:=92) h92;refine aF (fun hl=>?_) (fun hl=>?_)<;>conv=>whnf
 ·have hl':=aB hl;have hesc:mC c=[92,120,dR (c.toNat / 16),dR (c.toNat%16)]:=by unfold mC;rw[aD (fun h=>h.elim hc34 hc92),aG (.inl (by omega))]
  have hc8:=bW c;refine b6 (by kernel_rfl) ?_;conv=>whnf
  refine⟨by decide,?_⟩;conv=>whnf
  refine GNeed.mk (QX ⟨c.toNat,hc8⟩).1 ⟨dR (c.toNat / 16),(QX ⟨c.toNat,hc8⟩).2,?_⟩;conv=>whnf
  refine⟨by decide,?_⟩;conv=>whnf
  refine GNeed.mk (QW ⟨c.toNat,hc8⟩).1 ⟨dR (c.toNat%16),(QW ⟨c.toNat,hc8⟩).2,?_⟩;conv=>whnf
  cases out with
  |nil=>
   refine⟨⟨rfl,jR _,by show(fU ([]:List UInt8)).length+4<=4294967296;rw[bE];omega⟩,fU (([]:List UInt8)++[92,120,dR (c.toNat / 16),dR (c.toNat%16)]),(([]:List UInt8)++[92,120,dR (c.toNat / 16),dR (c.toNat%16)]).length,⟨(by show fU (([]:List UInt8)++[92,120,dR (c.toNat / 16),dR (c.toNat%16)])=fU ([]:List UInt8)++[GV.i .u8 92,GV.i .u8 120,GV.i .u8 (dR (c.toNat / 16)).toNat,GV.i .u8 (dR (c.toNat%16)).toNat];simp[fU]),by show _=(fU ([]:List UInt8)).length+4;rw[bE];simp⟩,?_⟩;(conv=>whnf);refine⟨⟨zL _,by first|rfl|(rw[bE];rfl)|(rw[bE];simp),by first|exact .inr ⟨rfl,rfl⟩|exact .inl ⟨rfl,rfl⟩⟩,?_⟩;(conv=>whnf);exact⟨s.length - (i+1),(by show _<s.length - i;omega),(i+1,([]:List UInt8)++[92,120,dR (c.toNat / 16),dR (c.toNat%16)]),⟨by show i+1<=_;omega,(by show([]:List UInt8)++[92,120,dR (c.toNat / 16),dR (c.toNat%16)]=_;rw[ht,<-hout,hesc])⟩,rfl,⟨rfl,rfl,rfl,b7 (by omega),trivial⟩,_,rfl,rfl⟩
  |cons z out=>
   refine⟨⟨rfl,jR _,by show(fU (z::out)).length+4<=4294967296;rw[bE];omega⟩,fU ((z::out)++[92,120,dR (c.toNat / 16),dR (c.toNat%16)]),((z::out)++[92,120,dR (c.toNat / 16),dR (c.toNat%16)]).length,⟨(by show fU ((z::out)++[92,120,dR (c.toNat / 16),dR (c.toNat%16)])=fU (z::out)++[GV.i .u8 92,GV.i .u8 120,GV.i .u8 (dR (c.toNat / 16)).toNat,GV.i .u8 (dR (c.toNat%16)).toNat];simp[fU]),by show _=(fU (z::out)).length+4;rw[bE];simp⟩,?_⟩;(conv=>whnf);refine⟨⟨zL _,by first|rfl|(rw[bE];rfl)|(rw[bE];simp),by first|exact .inr ⟨rfl,rfl⟩|exact .inl ⟨rfl,rfl⟩⟩,?_⟩;(conv=>whnf);exact⟨s.length - (i+1),(by show _<s.length - i;omega),(i+1,(z::out)++[92,120,dR (c.toNat / 16),dR (c.toNat%16)]),⟨by show i+1<=_;omega,(by show(z::out)++[92,120,dR (c.toNat / 16),dR (c.toNat%16)]=_;rw[ht,<-hout,hesc])⟩,rfl,⟨rfl,rfl,rfl,b7 (by omega),trivial⟩,_,rfl,rfl⟩
 have hl':=aC hl;refine aF (fun hg=>?_) (fun hg=>?_)<;>conv=>whnf
 ·have hg':=aB hg;have hesc:mC c=[92,120,dR (c.toNat / 16),dR (c.toNat%16)]:=by unfold mC;rw[aD (fun h=>h.elim hc34 hc92),aG (.inr (by omega))]
  have hc8:=bW c;refine b6 (by kernel_rfl) ?_;conv=>whnf
  refine⟨by decide,?_⟩;conv=>whnf
  refine GNeed.mk (QX ⟨c.toNat,hc8⟩).1 ⟨dR (c.toNat / 16),(QX ⟨c.toNat,hc8⟩).2,?_⟩;conv=>whnf
  refine⟨by decide,?_⟩;conv=>whnf
  refine GNeed.mk (QW ⟨c.toNat,hc8⟩).1 ⟨dR (c.toNat%16),(QW ⟨c.toNat,hc8⟩).2,?_⟩;conv=>whnf
  cases out with
  |nil=>
   refine⟨⟨rfl,jR _,by show(fU ([]:List UInt8)).length+4<=4294967296;rw[bE];omega⟩,fU (([]:List UInt8)++[92,120,dR (c.toNat / 16),dR (c.toNat%16)]),(([]:List UInt8)++[92,120,dR (c.toNat / 16),dR (c.toNat%16)]).length,⟨(by show fU (([]:List UInt8)++[92,120,dR (c.toNat / 16),dR (c.toNat%16)])=fU ([]:List UInt8)++[GV.i .u8 92,GV.i .u8 120,GV.i .u8 (dR (c.toNat / 16)).toNat,GV.i .u8 (dR (c.toNat%16)).toNat];simp[fU]),by show _=(fU ([]:List UInt8)).length+4;rw[bE];simp⟩,?_⟩;(conv=>whnf);refine⟨⟨zL _,by first|rfl|(rw[bE];rfl)|(rw[bE];simp),by first|exact .inr ⟨rfl,rfl⟩|exact .inl ⟨rfl,rfl⟩⟩,?_⟩;(conv=>whnf);exact⟨s.length - (i+1),(by show _<s.length - i;omega),(i+1,([]:List UInt8)++[92,120,dR (c.toNat / 16),dR (c.toNat%16)]),⟨by show i+1<=_;omega,(by show([]:List UInt8)++[92,120,dR (c.toNat / 16),dR (c.toNat%16)]=_;rw[ht,<-hout,hesc])⟩,rfl,⟨rfl,rfl,rfl,b7 (by omega),trivial⟩,_,rfl,rfl⟩
  |cons z out=>
   refine⟨⟨rfl,jR _,by show(fU (z::out)).length+4<=4294967296;rw[bE];omega⟩,fU ((z::out)++[92,120,dR (c.toNat / 16),dR (c.toNat%16)]),((z::out)++[92,120,dR (c.toNat / 16),dR (c.toNat%16)]).length,⟨(by show fU ((z::out)++[92,120,dR (c.toNat / 16),dR (c.toNat%16)])=fU (z::out)++[GV.i .u8 92,GV.i .u8 120,GV.i .u8 (dR (c.toNat / 16)).toNat,GV.i .u8 (dR (c.toNat%16)).toNat];simp[fU]),by show _=(fU (z::out)).length+4;rw[bE];simp⟩,?_⟩;(conv=>whnf);refine⟨⟨zL _,by first|rfl|(rw[bE];rfl)|(rw[bE];simp),by first|exact .inr ⟨rfl,rfl⟩|exact .inl ⟨rfl,rfl⟩⟩,?_⟩;(conv=>whnf);exact⟨s.length - (i+1),(by show _<s.length - i;omega),(i+1,(z::out)++[92,120,dR (c.toNat / 16),dR (c.toNat%16)]),⟨by show i+1<=_;omega,(by show(z::out)++[92,120,dR (c.toNat / 16),dR (c.toNat%16)]=_;rw[ht,<-hout,hesc])⟩,rfl,⟨rfl,rfl,rfl,b7 (by omega),trivial⟩,_,rfl,rfl⟩
 have hg':=aC hg;have hesc:mC c=[c]:=by unfold mC;rw[aD (fun h=>h.elim hc34 hc92),aD (by omega)]
 cases out with
 |nil=>
  refine⟨⟨rfl,jR _,by show(fU ([]:List UInt8)).length+1<=4294967296;rw[bE];omega⟩,fU (([]:List UInt8)++[c]),(([]:List UInt8)++[c]).length,⟨(by show fU (([]:List UInt8)++[c])=fU ([]:List UInt8)++[GV.i .u8 c.toNat];simp[fU]),by show _=(fU ([]:List UInt8)).length+1;rw[bE];simp⟩,?_⟩;conv=>whnf
  refine⟨⟨zL _,by first|rfl|(rw[bE];rfl)|(rw[bE];simp),by first|exact .inr ⟨rfl,rfl⟩|exact .inl ⟨rfl,rfl⟩⟩,?_⟩;conv=>whnf
  exact⟨s.length - (i+1),(by show _<s.length - i;omega),(i+1,([]:List UInt8)++[c]),⟨by show i+1<=_;omega,(by show([]:List UInt8)++[c]=_;rw[ht,<-hout,hesc])⟩,rfl,⟨rfl,rfl,rfl,b7 (by omega),trivial⟩,_,rfl,rfl⟩
 |cons z out=>
  refine⟨⟨rfl,jR _,by show(fU (z::out)).length+1<=4294967296;rw[bE];omega⟩,fU ((z::out)++[c]),((z::out)++[c]).length,⟨(by show fU ((z::out)++[c])=fU (z::out)++[GV.i .u8 c.toNat];simp[fU]),by show _=(fU (z::out)).length+1;rw[bE];simp⟩,?_⟩;conv=>whnf
  refine⟨⟨zL _,by first|rfl|(rw[bE];rfl)|(rw[bE];simp),by first|exact .inr ⟨rfl,rfl⟩|exact .inl ⟨rfl,rfl⟩⟩,?_⟩;conv=>whnf
  exact⟨s.length - (i+1),(by show _<s.length - i;omega),(i+1,(z::out)++[c]),⟨by show i+1<=_;omega,(by show(z::out)++[c]=_;rw[ht,<-hout,hesc])⟩,rfl,⟨rfl,rfl,rfl,b7 (by omega),trivial⟩,_,rfl,rfl⟩
theorem SL [MaxL] (v:Val) (hv:v.s.length<1000000) (h0: -9223372036854775808<=v.n) (h1:v.n<=9223372036854775807):SC Tryz.prog 321 [v.gv] [] (.val (.s (eW v))) []:=by
 obtain⟨k,n,s⟩:=v;refine cX Tryz.func321 rfl ?_;conv=>whnf
 refine aF (fun h=>?_) (fun h=>?_)<;>conv=>whnf
 ·have h':k=1:=by simpa using h
  refine lX (SQ n h0 h1) ?_;conv=>whnf
  refine bC (Wk.of_eq ?_) (.s _);show GV.s (Lib.itoa n)=_;unfold eW;rw[aG h']
 ·have h':k≠1:=by simpa using h
  refine lX (VN s hv) ?_;conv=>whnf
  refine bC (Wk.of_eq ?_) (.s _);show GV.s (oL s)=_;unfold eW;rw[aD h']
theorem OD [MaxL] (c:UInt8):SC Tryz.prog 264 [.i .u8 c.toNat] [] (.val (.b (d6 c))) []:=by
 refine cX Tryz.func264 rfl ?_;conv=>whnf
 repeat' (refine aF (fun _=>?_) (fun _=>?_)<;>conv=>whnf)
 all_goals
  refine bX ?_;rw[eJ,vX];simp only[aK,bG,dC,i7,ne_eq,bT] at*;first|done|omega|(refine iff_of_true trivial ?_;omega)|(refine iff_of_false (fun h=>h) ?_;omega)
theorem a0s [MaxL] (w:List UInt8):SC Tryz.prog 354 [.s w] [] (.val (.b (a2B.contains w))) []:=by
 refine cX Tryz.func354 rfl ?_;conv=>whnf
 repeat' (refine aF (fun _=>?_) (fun _=>?_)<;>conv=>whnf)
 all_goals
  refine bX ?_;rw[eJ];simp[a2B] at*;try simp[*]
def oZ (t:List UInt8):Nat:=1+(t.takeWhile d6).length
def sw:List UInt8->Option Nat
 |[]=>none
 |c::t=>
  if d6 c=true/\c≠95 then
   (if 97<=c.toNat then(if fP ((c::t).take (oZ t)) then some (oZ t) else none) else if(AT ((c::t).take (oZ t))).2 then some (oZ t) else none)
  else if c=45 then(if(AT ((c::t).take (oZ t))).2 then some (oZ t) else none)
  else if c=34 then(if(j8 (c::t) 0).2=0 then none else some (j8 (c::t) 0).2)
  else if(c=60/\(t.head?=some 62∨t.head?=some 61))∨(c=62/\t.head?=some 61) then some 2
  else if c=40∨c=41∨c=58∨c=61∨c=60∨c=62 then some 1 else none
def kL:Nat->List UInt8->Option (List By)
 |0,_=>none
 |_+1,[]=>some []
 |f+1,c::t=>if c=32 then kL f t else match sw (c::t) with
  |some k=>(kL f ((c::t).drop k)).map fun ws=>(c::t).take k::ws
  |none=>none
theorem V0 (t:List UInt8):1<=oZ t:=by unfold oZ;omega
theorem Q9 (t:List UInt8):oZ t<=t.length+1:=by
 have:=(gJ (l:=t) d6).length_le;unfold oZ;omega
theorem EQ:∀(n:Nat) {l t r:List UInt8},l.length<=n->rq l=some (t,r)->r.length<l.length
 |0,l,t,r,h,e=>by
  cases l with
  |nil=>cases e
  |cons _ _=>simp at h
 |n+1,[],t,r,h,e=>by cases e
 |n+1,c::l,t,r,h,e=>by
  have hl:l.length<=n:=by simp at h;omega
  by_cases h34:c=34
  ·rw[h34,QA] at e;cases e;simp
  ·by_cases hb:c.toNat<32∨126<c.toNat
   ·rw[J2 h34 hb] at e;cases e
   ·by_cases h92:c=92
    ·subst h92;by_cases hx:∃a b l2,l=120::a::b::l2
     ·obtain⟨a,b,l2,rfl⟩:=hx;rw[YD] at e;split at e
      ·split at e
       ·split at e
        ·cases e
        ·cases hq:rq l2 with
         |none=>rw[hq] at e;cases e
         |some p=>rw[hq] at e;cases e;have:=EQ n (l:=l2) (t:=p.1) (r:=p.2) (by simp at hl;omega) hq;simp;omega
       ·cases e
      ·cases e
     ·by_cases he:∃c' l1,l=c'::l1/\(c'=34∨c'=92)
      ·obtain⟨c',l1,rfl,hc'⟩:=he;rw[ER hc'] at e;cases hq:rq l1 with
       |none=>rw[hq] at e;cases e
       |some p=>rw[hq] at e;cases e;have:=EQ n (l:=l1) (t:=p.1) (r:=p.2) (by simp at hl;omega) hq;simp;omega
      ·rw[zF (fun e0 r1 h1=>⟨fun h=>he ⟨e0,r1,h1,h⟩,fun h a b r2 h2=>hx ⟨a,b,r2,by rw[h1,h,h2]⟩⟩)] at e;cases e
    ·rw[YE h34 hb h92] at e;cases hq:rq l with
     |none=>rw[hq] at e;cases e
     |some p=>rw[hq] at e;cases e;have:=EQ n (l:=l) (t:=p.1) (r:=p.2) hl hq;simp;omega
theorem LN (s:List UInt8) (i:Nat):j8 s i=j8 (s.drop i) 0:=by
 unfold j8;rw[show(s.drop i)[0]?=s[i]? by rw[gT];rfl,iX,bH];split
 ·cases h:rq (s.drop (i+1)) with
  |none=>rfl
  |some p=>simp only[BC,cV];congr 1;omega
 ·rfl
theorem HR (s:List UInt8):(j8 s 0).2<=s.length:=by
 unfold j8;split
 ·cases h:rq (s.drop (0+1)) with
  |none=>exact zL _
  |some p=>simp only[BC];omega
 ·exact zL _
theorem EI {l:List UInt8} {k:Nat} (h:sw l=some k):1<=k/\k<=l.length:=by
 cases l with
 |nil=>cases h
 |cons c t=>
  have h1:=V0 t;have h2:=Q9 t;have h3:=HR (c::t);have h4:(t.head?=some 62∨t.head?=some 61)->1<=t.length:=fun h=>by
   cases t with
   |nil=>simp at h
   |cons _ _=>simp
  simp only[sw] at h;simp only[aJ] at h3⊢;split at h
  ·split at h
   ·split at h
    ·cases h;omega
    ·cases h
   ·split at h
    ·cases h;omega
    ·cases h
  ·split at h
   ·split at h
    ·cases h;omega
    ·cases h
   ·split at h
    ·split at h
     ·cases h
     ·cases h;omega
    ·split at h
     ·rename_i hh;cases h;have:1<=t.length:=h4 (hh.elim (fun h=>h.2) (fun h=>.inr h.2));omega
     ·split at h
      ·cases h;omega
      ·cases h
def B0 (s:By):Option (List By):=kL (s.length+1) s
theorem yC (f:Nat):kL (f+1) []=some []:=rfl
theorem sS (f:Nat) (t:By):kL (f+1) (32::t)=kL f t:=by
 show(if(32:UInt8)=32 then _ else _)=_;rw[aG rfl]
theorem sT (f:Nat) {c:UInt8} (h:c≠32) (t:By):kL (f+1) (c::t)=match sw (c::t) with
  |some k=>(kL f ((c::t).drop k)).map fun ws=>(c::t).take k::ws
  |none=>none:=by
 show(if c=32 then _ else _)=_;rw[aD h];try rfl
theorem rP:∀(f g:Nat) (l:By),l.length<f->l.length<g->kL f l=kL g l
 |0,_,_,h,_=>by omega
 |_,0,_,_,h=>by omega
 |f+1,g+1,[],_,_=>rfl
 |f+1,g+1,c::t,h,h'=>by
  simp only[aJ] at h h';by_cases hc:c=32
  ·rw[hc,sS,sS];exact rP f g t (by omega) (by omega)
  ·rw[sT f hc,sT g hc];cases hk:sw (c::t) with
   |none=>rfl
   |some k=>
    have:=EI hk;have hd:((c::t).drop k).length<=t.length:=by simp;omega
    simp only;rw[rP f g _ (by omega) (by omega)]
