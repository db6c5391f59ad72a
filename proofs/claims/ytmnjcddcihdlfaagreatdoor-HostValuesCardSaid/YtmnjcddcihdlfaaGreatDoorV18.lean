/- Part of HostValues. -/
import Derived.Test.YtmnjcddcihdlfaaGreatDoorV17
import Derived.Lib.ItoaNum
import Derived.Lib.ItoaLen
set_option linter.all false
set_option maxRecDepth 100000
namespace Go.Proofs.YtmnjcddcihdlfaaGreatDoor
section
open Go.RowKit
def rt:List UInt8->Option (List UInt8×List UInt8)
 |[]=>none
 |c::r=>if c=34 then some ([],r) else if c=92 then(match r with
   |[]=>none
   |e::r1=>if e=120 then(match r1 with
     |a::b::r2=>(match wX a b with
      |some n=>(rt r2).map fun p=>(UInt8.ofNat n::p.1,p.2)
      |none=>none)
     |_=>none)
    else(rt r1).map fun p=>(e::p.1,p.2))
  else(rt r).map fun p=>(c::p.1,p.2)
def RI:GV:=.ifc 245 (.agg [])
theorem SC.of_callsO [MaxL] {P:Program} {k:FuncId} {args:List GV} {s:List GObj} {r:GRes} (hh:∀x∈s,x≠ .held)
  (h:∀(C:Cx) (w:World) (vs:Array Value),Rel C ⟨s,0,[]⟩ w w->VRs C args vs.toList->Calls P k vs w fun e w'=>Base (fun _=>False) w w'/\ERel C r e):
  SC P k args s r s:=by
 refine⟨rL _,fun C w vs hr hv=>(h C w vs hr hv).mono fun e w' ⟨hb,hg⟩=>⟨C,.refl C,?_,hg⟩,hh⟩;refine⟨⟨hb.os,hb.output,hb.size,fun i hi _=>hb.block i hi (fun h=>h)⟩,fun b o v hx=>?_,fun r x hx=>ORel.keep hr (.refl C) rfl rfl hb.size (fun b hb'=>hb.block b (n8 hr hb') (fun h=>h)) (hr.obj r x hx),hr.dom,hr.new,hr.inj,hr.sepB,hr.sepO,hr.fxn,hr.gl,hr.gs⟩;have h1:=hr.fxc b o v hx;have hlt:b<w.heap.size:=block_lt_of_cell h1;unfold World.cell? at h1⊢;rw[hb.block b hlt (fun h=>h)];exact h1
theorem R6 [MaxL]:SC Tryz.prog 46 [.ptr 0 0] [xN] (.val (.s [])) [xN]:=by
 refine SC.of_callsO (by simp[xN]) fun C w vs hr hv=>?_;obtain⟨v,rfl,hv1⟩:=hv.arr1;obtain⟨h0,b,cs,hb,ho,hcs⟩:=hr.obj 0 _ rfl;obtain⟨u,u',rfl,hu,hu'⟩:=(BoxV.exact hcs rfl).arr2;cases hv1 with
 |ptr hb'=>
 rw[hb] at hb';cases hb';cases hu' with
 |sl esz b' off us hn hc ha hw hx hv ht=>
 obtain⟨hc0,ha0⟩:=ht;obtain rfl:=ha0 rfl;simp at hn hc0;subst hn;subst hc0;refine(Any.Builder_String_nil Tryz.lays169 Tryz.Builder_Extra_169 w.heap.size b u w ho).mono ?_;rintro e w' ⟨rfl,hb⟩;exact⟨.below hb,_,rfl,.s []⟩
theorem XB [MaxL] {M:FuncId->Bool} {K:GRes->GS->Prop} {x:GObj} {c:UInt8} {ds:List GDef} (hM:M 192=false) (hk:K (.val (.o .nilIface)) ⟨[x,fI 1 2 [c],kH 1],0,ds⟩) (hD:kK M=false:=by rfl):
  iC Tryz.prog M (.fn 192) [.ptr 1 0,.i .u8 c.toNat] ⟨[x,xN],0,ds⟩ K:=by
 refine rY (xM c) [1] (objs':=[x,fI 1 2 [c],kH 1]) (Lies.one' rfl (by simp[xN])) (wR _) rfl hM ?_ rfl hk (hD:=hD);rfl
theorem a03 [MaxL] {M:FuncId->Bool} {K:GRes->GS->Prop} {x:GObj} {bs:List UInt8} {c:UInt8} {ds:List GDef} (hl:bs.length<1000000000) (hM:M 192=false) (hk:K (.val (.o .nilIface)) ⟨[x,fI 1 2 (bs++[c]),kH (bs++[c]).length],0,ds⟩) (hD:kK M=false:=by rfl):
  iC Tryz.prog M (.fn 192) [.ptr 1 0,.i .u8 c.toNat] ⟨[x,fI 1 2 bs,kH bs.length],0,ds⟩ K:=by
 refine rY (zH bs c hl) [1,2] (objs':=[x,fI 1 2 (bs++[c]),kH (bs++[c]).length]) (n4 (by decide) rfl rfl) (wR _) rfl hM ?_ rfl hk (hD:=hD);show[x,(fI 0 1 (bs++[c])).ren (iB [1,2] 3),kH (bs++[c]).length]=_;rw[m9];rfl
theorem XC [MaxL] {M:FuncId->Bool} {K:GRes->GS->Prop} {x:GObj} {c:UInt8} {t:List UInt8} {ds:List GDef} (hl:t.length<1000000000) (hM:M 46=false) (hk:K (.val (.s (c::t))) ⟨[x,fI 1 2 (c::t),.dead],0,ds⟩) (hD:kK M=false:=by rfl):
  iC Tryz.prog M (.fn 46) [.ptr 1 0] ⟨[x,fI 1 2 (c::t),kH (c::t).length],0,ds⟩ K:=by
 refine rY (L6 c t hl) [1,2] (objs':=[x,fI 1 2 (c::t),.dead]) (n4 (by decide) rfl rfl) (wR _) rfl hM ?_ rfl hk (hD:=hD);show[x,(fI 0 1 (c::t)).ren (iB [1,2] 3),GObj.dead]=_;rw[m9];rfl
theorem UT [MaxL] {M:FuncId->Bool} {K:GRes->GS->Prop} {x:GObj} {ds:List GDef} (hM:M 46=false) (hk:K (.val (.s [])) ⟨[x,xN],0,ds⟩) (hD:kK M=false:=by rfl):
  iC Tryz.prog M (.fn 46) [.ptr 1 0] ⟨[x,xN],0,ds⟩ K:=by
 refine rY R6 [1] (objs':=[x,xN]) (Lies.one' rfl (by simp[xN])) (wR _) rfl hM ?_ rfl hk (hD:=hD);rfl
theorem I1 [MaxL] {x y z:GObj} {rest:List GObj} {bs':List UInt8} {o:GObj} (ho:∀f,o.ren f=o):
  hY [1,2] [fI 0 1 bs',o] (x::y::z::rest)=x::fI 1 2 bs'::o::rest:=by
 rw[IT (by decide) (by simp) (by simp),m9,ho];rfl
theorem X9 [MaxL] {M:FuncId->Bool} {K:GRes->GS->Prop} {x:GObj} {rest:List GObj} {bs l:List UInt8} {ds:List GDef} (hl:bs.length+l.length<1000000000) (hM:M 44=false) (hk:K (.val (.tup [.i .i64 l.length,.o .nilIface])) ⟨x::fI 1 2 (bs++l)::kH (bs++l).length::rest,0,ds⟩) (hD:kK M=false:=by rfl):
  iC Tryz.prog M (.fn 44) [.ptr 1 0,.s l] ⟨x::fI 1 2 bs::kH bs.length::rest,0,ds⟩ K:=
 rY (DW bs l hl) [1,2] (n4 (by decide) rfl rfl) (wR _) rfl hM (I1 fun _=>rfl) rfl hk (hD:=hD)
theorem XA [MaxL] {M:FuncId->Bool} {K:GRes->GS->Prop} {x:GObj} {rest:List GObj} {bs:List UInt8} {c:UInt8} {ds:List GDef} (hl:bs.length<1000000000) (hM:M 192=false) (hk:K (.val (.o .nilIface)) ⟨x::fI 1 2 (bs++[c])::kH (bs++[c]).length::rest,0,ds⟩) (hD:kK M=false:=by rfl):
  iC Tryz.prog M (.fn 192) [.ptr 1 0,.i .u8 c.toNat] ⟨x::fI 1 2 bs::kH bs.length::rest,0,ds⟩ K:=
 rY (zH bs c hl) [1,2] (n4 (by decide) rfl rfl) (wR _) rfl hM (I1 fun _=>rfl) rfl hk (hD:=hD)
theorem US [MaxL] {M:FuncId->Bool} {K:GRes->GS->Prop} {x:GObj} {rest:List GObj} {c:UInt8} {t:List UInt8} {ds:List GDef} (hl:t.length<1000000000) (hM:M 46=false) (hk:K (.val (.s (c::t))) ⟨x::fI 1 2 (c::t)::.dead::rest,0,ds⟩) (hD:kK M=false:=by rfl):
  iC Tryz.prog M (.fn 46) [.ptr 1 0] ⟨x::fI 1 2 (c::t)::kH (c::t).length::rest,0,ds⟩ K:=
 rY (L6 c t hl) [1,2] (n4 (by decide) rfl rfl) (wR _) rfl hM (I1 fun _=>rfl) rfl hk (hD:=hD)
theorem p8 {c d:UInt8} (h:((c.toNat:Int) !=(d.toNat:Int))=true):c≠d:=fun e=>by simp[e] at h
theorem nV {c d:UInt8} (h:((c.toNat:Int) !=(d.toNat:Int))=false):c=d:=by
 simp at h;exact UInt8.toNat_inj.1 (by omega)
theorem SB (r:List UInt8):rt (34::r)=some ([],r):=by
 conv=>lhs;unfold rt
 rfl
theorem YI {c:UInt8} (h:c≠34) (h':c≠92) (r:List UInt8):rt (c::r)=(rt r).map fun p=>(c::p.1,p.2):=by
 conv=>lhs;unfold rt
 rw[aB h,aB h']
theorem SA {e:UInt8} (h:e≠120) (r:List UInt8):rt (92::e::r)=(rt r).map fun p=>(e::p.1,p.2):=by
 conv=>lhs;unfold rt
 rw[aB (by decide),aA rfl];show(if e=120 then _ else _)=_;rw[aB h]
theorem YH (a b:UInt8) (r:List UInt8):rt (92::120::a::b::r)=match wX a b with
  |some n=>(rt r).map fun p=>(UInt8.ofNat n::p.1,p.2)
  |none=>none:=by
 conv=>lhs;unfold rt
 rfl
def tB (bs:List UInt8):List GObj:=if bs=[] then[xN] else[fI 1 2 bs,kH bs.length]
theorem QZ [MaxL] {i:Nat} (k:Nat) (h:i+k<9223372036854775807):[GV.i .i64 ((i+k:Nat):Int)]=(GV.i .i64 (IntKind.i64.wrap ((i:Int)+(k:Int)))).cells:=by
 rw[bN (by omega) (by omega)];rfl
theorem a05 [MaxL] (s:List UInt8) (n:Nat) (hn:n<s.length) (hs:s.length<1000000):
  Ct Tryz.prog 206 [.ptr 0 0] (zI s n) RI ((rt (s.drop (n+1))).map fun p=>(.s p.1,zI s (s.length - p.2.length))):=by
 refine Ct.of_gwp D6 mixed Tryz.func206 rfl (bL rfl) (fun _=>rfl) ?hh ?_
 case hh=>cases rt (s.drop (n+1))<;>rfl
 conv=>whnf
 refine⟨[.i .i64 (n+1:Nat)],⟨bE (by omega),rL _,rfl,bL rfl⟩,?_⟩;conv=>whnf
 generalize hR:rt (s.drop (n+1))=R;refine bA (fun q:Nat×List UInt8=>q.1<=s.length+1/\q.2.length<=q.1/\(rt (s.drop q.1)).map (fun p=>(q.2++p.1,p.2))=R)
  (fun q=>[(0,.ptr 0 0),(3,.ptr 1 0)]) (fun q=>⟨zI s q.1::tB q.2,0,[]⟩) (fun q=>s.length+2 - q.1) (n+1,[]) ⟨by omega,by simp,?_⟩ ⟨rfl,rfl,trivial⟩ rfl (fun q φ0 hq=>?_)
 ·rw[<-hR];cases rt (s.drop (n+1))<;>rfl
 obtain⟨i,bs⟩:=q;obtain⟨hi,hbl,hq⟩:=hq;replace hi:i<=s.length+1:=hi;replace hbl:bs.length<=i:=hbl;replace hq:(rt (s.drop i)).map (fun p=>(bs++p.1,p.2))=R:=hq;have wr:∀(x:GObj) (c:UInt8) (M:FuncId->Bool) (K:GRes->GS->Prop) (ds:List GDef),(M 192=false/\kK M=false)->K (.val (.o .nilIface)) ⟨x::tB (bs++[c]),0,ds⟩->
   iC Tryz.prog M (.fn 192) [.ptr 1 0,.i .u8 c.toNat] ⟨x::tB bs,0,ds⟩ K:=fun x c M K ds hM hk=>by
  have e2:tB (bs++[c])=[fI 1 2 (bs++[c]),kH (bs++[c]).length]:=aB (by simp);rw[e2] at hk;by_cases hb:bs=[]
  ·subst hb;exact XB hM.1 hk hM.2
  ·rw[show tB bs=[fI 1 2 bs,kH bs.length] from aB hb];exact a03 (by omega) hM.1 hk hM.2
 conv=>whnf
 refine xK (q:=0) (vP s i (by unfold dD;omega)) rfl (by first|exact wR _|exact wC (b5 _ _) (wR _)|exact wC (b5 _ _) (wC (b5 _ _) (wR _))|exact wC (iN _) (wC (b5 _ _) (wR _))) rfl rfl (by first|exact fun _=>rfl|exact cA|exact cB fun _=>rfl) (by first|exact fun _=>rfl|exact cA|exact cB fun _=>rfl) (by first|exact fun _=>rfl|exact cA|exact cB fun _=>rfl) (by first|exact fun _=>rfl|exact cA|exact cB fun _=>rfl) (jQ (l:=zI s i::tB bs) rfl ?_);conv=>whnf
 have hdrop:i<s.length->s.drop i=s.getD i 0::s.drop (i+1):=fun h=>by
  rw[bD h,aL,gL h];rfl
 apply gM<;>intro h34<;>conv=>whnf
 ·
  replace h34:=p8 (d:=34) h34;refine gP ?_;conv=>whnf
  apply gM<;>intro hge<;>conv=>whnf
  ·refine OwesO.panics ?_;have:s.drop i=[]:=eQ (by simp at hge;omega);rw[this] at hq;rw[<-hq];rfl
  have hlt:i<s.length:=by simp at hge;omega
  refine xK (q:=0) (vP s i (by unfold dD;omega)) rfl (by first|exact wR _|exact wC (b5 _ _) (wR _)|exact wC (b5 _ _) (wC (b5 _ _) (wR _))|exact wC (iN _) (wC (b5 _ _) (wR _))) rfl rfl (by first|exact fun _=>rfl|exact cA|exact cB fun _=>rfl) (by first|exact fun _=>rfl|exact cA|exact cB fun _=>rfl) (by first|exact fun _=>rfl|exact cA|exact cB fun _=>rfl) (by first|exact fun _=>rfl|exact cA|exact cB fun _=>rfl) (jQ (l:=zI s i::tB bs) rfl ?_);conv=>whnf
  have hd:=hdrop hlt;apply gM<;>intro h92<;>conv=>whnf
  ·replace h92:=p8 (d:=92) h92;refine xK (q:=0) (vP s i (by unfold dD;omega)) rfl (by first|exact wR _|exact wC (b5 _ _) (wR _)|exact wC (b5 _ _) (wC (b5 _ _) (wR _))|exact wC (iN _) (wC (b5 _ _) (wR _))) rfl rfl (by first|exact fun _=>rfl|exact cA|exact cB fun _=>rfl) (by first|exact fun _=>rfl|exact cA|exact cB fun _=>rfl) (by first|exact fun _=>rfl|exact cA|exact cB fun _=>rfl) (by first|exact fun _=>rfl|exact cA|exact cB fun _=>rfl) (jQ (l:=zI s i::tB bs) rfl ?_);(conv=>whnf);refine wr _ _ _ _ _ ⟨rfl,rfl⟩ ?_;(conv=>whnf);refine⟨[.i .i64 (i+1:Nat)],⟨?_,rL _,rfl,bL rfl⟩,l5 (jQ (l:=zI s (i+1)::tB (bs++[s.getD i 0])) rfl ?_)⟩
   ·exact bE (by omega)
   (conv=>whnf);refine⟨s.length+2 - (i+1),(by show _<s.length+2 - i;omega),(i+1,bs++[s.getD i 0]),⟨by show _<=_;omega,by show(_:List UInt8).length<=_;simp;omega,?_⟩,rfl,⟨rfl,rfl,trivial⟩,rfl⟩;rw[hd,YI h34 h92] at hq;rw[<-hq];simp[Option.map_map,dP]
  replace h92:=nV (d:=92) h92;refine⟨[.i .i64 (i+1:Nat)],⟨?_,rL _,rfl,bL rfl⟩,l5 (jQ (l:=zI s (i+1)::tB bs) rfl ?_)⟩
  ·exact bE (by omega)
  conv=>whnf
  refine xK (q:=0) (vP s (i+1) (by unfold dD;omega)) rfl (by first|exact wR _|exact wC (b5 _ _) (wR _)|exact wC (b5 _ _) (wC (b5 _ _) (wR _))|exact wC (iN _) (wC (b5 _ _) (wR _))) rfl rfl (by first|exact fun _=>rfl|exact cA|exact cB fun _=>rfl) (by first|exact fun _=>rfl|exact cA|exact cB fun _=>rfl) (by first|exact fun _=>rfl|exact cA|exact cB fun _=>rfl) (by first|exact fun _=>rfl|exact cA|exact cB fun _=>rfl) (jQ (l:=zI s (i+1)::tB bs) rfl ?_);conv=>whnf
  apply gM<;>intro h120<;>conv=>whnf
  ·replace h120:=p8 (d:=120) h120;refine xK (q:=0) (vP s (i+1) (by unfold dD;omega)) rfl (by first|exact wR _|exact wC (b5 _ _) (wR _)|exact wC (b5 _ _) (wC (b5 _ _) (wR _))|exact wC (iN _) (wC (b5 _ _) (wR _))) rfl rfl (by first|exact fun _=>rfl|exact cA|exact cB fun _=>rfl) (by first|exact fun _=>rfl|exact cA|exact cB fun _=>rfl) (by first|exact fun _=>rfl|exact cA|exact cB fun _=>rfl) (by first|exact fun _=>rfl|exact cA|exact cB fun _=>rfl) (jQ (l:=zI s (i+1)::tB bs) rfl ?_);(conv=>whnf);refine wr _ _ _ _ _ ⟨rfl,rfl⟩ ?_;(conv=>whnf);refine⟨[.i .i64 (i+1+1:Nat)],⟨?_,rL _,rfl,bL rfl⟩,l5 (jQ (l:=zI s (i+1+1)::tB (bs++[s.getD (i+1) 0])) rfl ?_)⟩
   ·exact bE (by omega)
   (conv=>whnf);refine⟨s.length+2 - (i+1+1),(by show _<s.length+2 - i;omega),(i+1+1,bs++[s.getD (i+1) 0]),⟨by show _<=_;omega,by show(_:List UInt8).length<=_;simp;omega,?_⟩,rfl,⟨rfl,rfl,trivial⟩,rfl⟩;rw[hd,h92] at hq;by_cases hl2:i+1<s.length
   ·have hd2:s.drop (i+1)=s.getD (i+1) 0::s.drop (i+1+1):=by
     rw[bD hl2,aL,gL hl2];rfl
    rw[hd2,SA h120] at hq;rw[<-hq];simp[Option.map_map,dP]
   ·have e1:s.drop (i+1)=[]:=eQ (by omega);have e2:s.drop (i+1+1)=[]:=eQ (by omega);rw[e1] at hq;show Option.map _ (rt (s.drop (i+1+1)))=R;rw[e2,<-hq];rfl
  replace h120:=nV (d:=120) h120;have hl2:i+1<s.length:=by
   rcases dF (i+1) s.length with h|h
   ·exact h
   ·rw[aL,b6 h] at h120;simp at h120
  have hd2:s.drop (i+1)=120::s.drop (i+1+1):=by
   rw[bD hl2,<-h120,aL,gL hl2];rfl
  rw[hd,h92,hd2] at hq;refine gP ?_;conv=>whnf
  apply gM<;>intro hge2<;>conv=>whnf
  ·refine OwesO.panics ?_;have hl3:(s.drop (i+1+1)).length<=1:=by
    rw[bN (by omega) (by omega)] at hge2;simp at hge2⊢;omega
   rw[<-hq];rcases hr:s.drop (i+1+1) with _|⟨a,_|⟨b,r⟩⟩
   ·rfl
   ·rfl
   ·rw[hr] at hl3;simp at hl3
  have hl4:i+3<s.length:=by
   rw[bN (by omega) (by omega)] at hge2;simp at hge2;omega
  obtain⟨a,b,hab⟩:∃a b,s.drop (i+1+1)=a::b::s.drop (i+4):=
   ⟨s[i+2],s[i+3],by rw[bD (by omega),bD (by omega)]⟩
  rw[hab,YH] at hq;refine gP ?_;conv=>whnf
  have w1:IntKind.i64.wrap (((i+1:Nat):Int)+1)=((i+2:Nat):Int):=bN (by omega) (by omega);have w3:IntKind.i64.wrap (((i+1:Nat):Int)+3)=((i+4:Nat):Int):=bN (by omega) (by omega);refine⟨by rw[w1];omega,?_⟩;conv=>whnf
  refine⟨by rw[w3];omega,?_⟩;conv=>whnf
  refine⟨⟨by rw[w1,w3];omega,by rw[w3];omega⟩,[a,b],?_,?_⟩
  ·rw[w1,w3,aD,aD,hab,show i+4 - (i+2)=2 by omega];rfl
  conv=>whnf
  cases hx:wX a b with
  |none=>
   have hPU:SC Tryz.prog 231 [.s [a,b],.i .i64 16,.i .i64 8] [] (.val (.tup [.i .u64 0,.ifc 270 .any])) []:=by
    have:=uY a b;rw[hx] at this;exact this
   rw[hx] at hq;refine vD hPU ?_;(conv=>whnf);exact OwesO.panics (by rw[<-hq];rfl)
  |some v=>
   have hPU:SC Tryz.prog 231 [.s [a,b],.i .i64 16,.i .i64 8] [] (.val (.tup [.i .u64 v,.o .nilIface])) []:=by
    have:=uY a b;rw[hx] at this;exact this
   rw[hx] at hq;refine vD hPU ?_;(conv=>whnf);have hv:IntKind.u8.wrap (v:Int)=((UInt8.ofNat v).toNat:Int):=by
    rw[YB];simp
   rw[hv];refine wr _ _ _ _ _ ⟨rfl,rfl⟩ ?_;(conv=>whnf);refine⟨[.i .i64 (i+3:Nat)],⟨?_,rL _,rfl,bL rfl⟩,l5 (jQ (l:=zI s (i+3)::tB (bs++[UInt8.ofNat v])) rfl ?_)⟩
   ·exact QZ 2 (by omega)
   (conv=>whnf);refine⟨[.i .i64 (i+4:Nat)],⟨?_,rL _,rfl,bL rfl⟩,l5 (jQ (l:=zI s (i+4)::tB (bs++[UInt8.ofNat v])) rfl ?_)⟩
   ·exact bE (by omega)
   (conv=>whnf);refine⟨s.length+2 - (i+4),(by show _<s.length+2 - i;omega),(i+4,bs++[UInt8.ofNat v]),⟨by show _<=_;omega,by show(_:List UInt8).length<=_;simp;omega,?_⟩,rfl,⟨rfl,rfl,trivial⟩,rfl⟩;rw[<-hq];simp[Option.map_map,dP]
 ·replace h34:=nV (d:=34) h34;have hlt:i<s.length:=by
   rcases dF i s.length with h|h
   ·exact h
   ·rw[aL,b6 h] at h34;simp at h34
  rw[hdrop hlt,h34,SB] at hq;refine⟨[.i .i64 (i+1:Nat)],⟨bE (by omega),rL _,rfl,bL rfl⟩,l5 (jQ (l:=zI s (i+1)::tB bs) rfl ?_)⟩;conv=>whnf
  have e:s.length - (s.drop (i+1)).length=i+1:=by simp;omega
  have hres:Option.map (fun p:List UInt8×List UInt8=>(GV.s p.1,zI s (s.length - p.2.length))) R=some (.s bs,zI s (i+1)):=by
   rw[<-hq];show some (GV.s (bs++[]),zI s (s.length - (s.drop (i+1)).length))=_;rw[e,eH]
  by_cases hb:bs=[]
  ·subst hb;refine UT rfl ?_;(conv=>whnf);exact OwesO.box hres rfl (.refl _) (fun _=>rfl) (.s _)
  ·obtain⟨c,t,rfl⟩:=List.exists_cons_of_ne_nil hb;have e3:tB (c::t)=[fI 1 2 (c::t),kH (c::t).length]:=aB hb;rw[e3];refine XC (by simp at hbl;omega) rfl ?_;(conv=>whnf);exact OwesO.box hres rfl (.refl _) (fun _=>rfl) (.s _)
def jP (c:UInt8):Bool:=c !=44
def rv (l:List UInt8):Option (Val×List UInt8):=
 if l.head?=some 34 then(rt l.tail).map fun p=>(⟨2,0,p.1⟩,p.2)
 else match Lib.atoiAll (l.takeWhile jP) with
  |.ok n=>if Lib.itoa n=l.takeWhile jP then some (⟨1,n,[]⟩,l.dropWhile jP) else none
  |_=>none
theorem S1 {p:UInt8->Bool}:∀{l:List UInt8} {k:Nat},(∀c∈l.take k,p c=true)->(∀c,l[k]?=some c->p c=false)->l.takeWhile p=l.take k/\l.dropWhile p=l.drop k
 |[],k,_,_=>by simp
 |c::l,0,_,h=>by
  have:=h c rfl;simp[this]
 |c::l,k+1,h1,h2=>by
  have hc:=h1 c (by simp);have ih:=S1 (l:=l) (k:=k) (fun d hd=>h1 d (by simp[hd])) (fun d hd=>h2 d (by simpa using hd));simp[hc,ih]
theorem P0 {l:List UInt8} {n:Int} (h:Lib.atoiAll l=.ok n): -9223372036854775808<=n/\n<=9223372036854775807:=by
 unfold Lib.atoiAll at h;split at h
 ·cases h
 ·dsimp only at h;split at h
  ·cases h
  ·cases h
  ·split at h
   ·cases h
   ·split at h
    ·cases h
    ·cases h;rename_i h1 h2;split<;>omega
theorem XD [MaxL] (s:List UInt8) (n:Nat) (hn:n<=s.length) (hs:s.length<1000000):
  Ct Tryz.prog 182 [.ptr 0 0] (zI s n) RI ((rv (s.drop n)).map fun p=>(p.1.gv,zI s (s.length - p.2.length))):=by
 refine Ct.of_gwp D6 mixed Tryz.func182 rfl (bL rfl) (fun _=>rfl) ?hh ?_
 case hh=>cases rv (s.drop n)<;>rfl
 have hm:s.length<dD:=by unfold dD;omega
 have htx:=fun h=>a05 s n h hs;conv=>whnf
 refine xK (q:=0) (vP s n hm) rfl (by first|exact wR _|exact wC (b5 _ _) (wR _)|exact wC (b5 _ _) (wC (b5 _ _) (wR _))|exact wC (iN _) (wC (b5 _ _) (wR _))) rfl rfl (by first|exact fun _=>rfl|exact cA|exact cB fun _=>rfl) (by first|exact fun _=>rfl|exact cA|exact cB fun _=>rfl) (by first|exact fun _=>rfl|exact cA|exact cB fun _=>rfl) (by first|exact fun _=>rfl|exact cA|exact cB fun _=>rfl) ?_;conv=>whnf
 apply gM<;>intro h34<;>conv=>whnf
 ·have h34':=s9 (d:=34) h34;have hlt:n<s.length:=by
   rcases dF n s.length with h|h
   ·exact h
   ·rw[aL,b6 h] at h34';simp at h34'
  have hd:s.drop n=34::s.drop (n+1):=by
   rw[bD hlt,<-h34',aL,gL hlt];rfl
  have hrv:rv (s.drop n)=(rt (s.drop (n+1))).map fun p=>(⟨2,0,p.1⟩,p.2):=by rw[hd];rfl
  replace htx:=htx hlt;rw[hrv];cases hr:rt (s.drop (n+1)) with
  |none=>
   rw[hr] at htx;refine pcD (q:=0) htx ?_;(conv=>whnf);exact OwesO.deads rfl
  |some p=>
   rw[hr] at htx;refine xK (q:=0) htx rfl (by first|exact wR _|exact wC (b5 _ _) (wR _)|exact wC (b5 _ _) (wC (b5 _ _) (wR _))|exact wC (iN _) (wC (b5 _ _) (wR _))) rfl rfl (by first|exact fun _=>rfl|exact cA|exact cB fun _=>rfl) (by first|exact fun _=>rfl|exact cA|exact cB fun _=>rfl) (by first|exact fun _=>rfl|exact cA|exact cB fun _=>rfl) (by first|exact fun _=>rfl|exact cA|exact cB fun _=>rfl) ?_;(conv=>whnf);refine sT ?_;(conv=>whnf);exact OwesO.box rfl rfl (.refl _) (fun _=>rfl) (Val.cl _)
 ·have h34':=uN (d:=34) h34;have hd34:¬(s.drop n).head?=some 34:=fun e=>by
   rw[List.head?_drop] at e;exact h34' (by rw[aL,e];rfl)
  have hrv:rv (s.drop n)=match Lib.atoiAll ((s.drop n).takeWhile jP) with
   |.ok k=>if Lib.itoa k=(s.drop n).takeWhile jP then some (⟨1,k,[]⟩,(s.drop n).dropWhile jP) else none
   |_=>none:=by unfold rv;rw[aB hd34]
  refine bA (fun i:Nat=>n<=i/\i<=s.length/\∀c∈(s.drop n).take (i - n),jP c=true)
   (fun i=>[(0,.ptr 0 0),(2,.ptr 1 0),(3,.i .i64 n)]) (fun i=>⟨[zI s i,.box 27 [.i .i64 0,.i .i64 0,.s []]],0,[]⟩) (fun i=>s.length - i) n ⟨rL _,hn,by simp⟩ ⟨rfl,rfl,rfl,trivial⟩ rfl (fun i φ0 hi=>?_)
  obtain⟨hi1,hi2,hi3⟩:=hi;conv=>whnf
  refine gP ?_;conv=>whnf
  have fin:(∀c,(s.drop n)[i - n]?=some c->jP c=false)->(s.drop n).takeWhile jP=(s.drop n).take (i - n)/\(s.drop n).dropWhile jP=s.drop i:=fun h=>by
   have:=S1 (l:=s.drop n) (k:=i - n) hi3 h;rw[List.drop_drop,show n+(i - n)=i by omega] at this;exact this
  have hw:(s.drop n).take (i - n)=(s.drop n).take (i - n):=rfl;refine e6 (fun hlt=>?in1) (fun hlt=>?in2)
  case' in1=>
   have hlt':i<s.length:=by simp at hlt;omega
   have hgi:s[i]?=some (s.getD i 0):=by rw[aL,gL hlt'];rfl
   have hdi:(s.drop n)[i - n]?=some (s.getD i 0):=by rw[eP,show n+(i - n)=i by omega,hgi]
   (conv=>whnf);refine⟨fK _,s.getD i 0,by simpa using hgi,?_⟩;(conv=>whnf);refine e6 (fun hc=>?go) (fun hc=>?out)
   case' go=>
    (conv=>whnf);refine⟨[.i .i64 (i+1:Nat)],⟨bE (by omega),rL _,rfl,bL rfl⟩,?_⟩;(conv=>whnf);have hc':=p8 (d:=44) hc;refine gK (i+1) ⟨by omega,hlt',?_⟩ (by omega) ⟨rfl,rfl,rfl,trivial⟩ rfl;intro c hcm;rw[show i+1 - n=i - n+1 by omega,dS,hdi] at hcm;rcases List.mem_append.1 hcm with h|h
    ·exact hi3 c h
    ·have h:=List.mem_singleton.1 (show c∈[s.getD i 0] from h);subst h;exact bne_iff_ne.2 hc'
   case' out=>
    have hc':=nV (d:=44) hc;obtain⟨ht,hdr⟩:=fin (fun c h=>by rw[hdi] at h;cases h;exact(aJ jP hc').trans rfl);clear hdi hc hc' hlt' hgi
  case' in2=>
   have hge:i=s.length:=by simp at hlt;omega
   obtain⟨ht,hdr⟩:=fin (fun c h=>by rw[b6 (by simp;omega)] at h;cases h);clear hge
  all_goals
   clear fin hlt;rw[ht,hdr] at hrv;(conv=>whnf);refine gP ?_;(conv=>whnf);refine⟨fK _,?_⟩;(conv=>whnf);refine⟨fK _,?_⟩;(conv=>whnf);refine⟨⟨by simpa using hi1,by simpa using hi2⟩,(s.drop n).take (i - n),by simp,?_⟩;(conv=>whnf);have hl:((s.drop n).take (i - n)).length<=281474976710656:=by simp;omega
   have no:(∀v,Lib.atoiAll ((s.drop n).take (i - n))≠ .ok v)->(match Lib.atoiAll ((s.drop n).take (i - n)) with
     |.ok k=>if Lib.itoa k=(s.drop n).take (i - n) then some ((⟨1,k,[]⟩,s.drop i):Val×List UInt8) else none
     |_=>none)=none:=fun h=>by
    split
    ·rename_i v e;exact absurd e (h v)
    ·rfl
   generalize hw0:(s.drop n).take (i - n)=w0 at*;by_cases hex:∃v,Lib.atoiAll w0=.ok v
   ·obtain⟨v,hv⟩:=hex;obtain⟨lo,hi⟩:=P0 hv;have hrv1:rv (s.drop n)=if Lib.itoa v=w0 then some (⟨1,v,[]⟩,s.drop i) else none:=by rw[hrv,hv]
    refine vD (FA w0 (by omega) v hv) ?_;(conv=>whnf);refine gP ?_;(conv=>whnf);refine vD (NM v lo hi) ?_;(conv=>whnf);refine⟨fK _,?_⟩;(conv=>whnf);refine⟨fK _,?_⟩;(conv=>whnf);refine⟨⟨by simpa using hi1,by simpa using hi2⟩,w0,by simpa using hw0.symm,?_⟩;(conv=>whnf);apply gM<;>intro hne<;>conv=>whnf
    ·exact OwesO.panics (by rw[hrv1,aB (by simpa using hne)];rfl)
    ·rw[aA (by simpa using hne)] at hrv1;refine sT ?_;(conv=>whnf);refine OwesO.box (cs':=[.s s,.i .i64 i]) ?_ rfl (.refl _) (fun _=>rfl) (Val.cl ⟨1,v,[]⟩);rw[hrv1];show some (_,zI s (s.length - (s.drop i).length))=_;rw[show s.length - (s.drop i).length=i by simp;omega];rfl
   ·obtain⟨v,hv⟩:=FB w0 hl (fun v e=>hex ⟨v,e⟩);refine vD hv ?_;(conv=>whnf);refine gP ?_;(conv=>whnf);exact OwesO.panics (by rw[hrv,no (fun v e=>hex ⟨v,e⟩)];rfl)
def nb (s:List UInt8) (n:Nat):Nat:=n+((s.drop n).takeWhile (· ==32)).length
def kG:List UInt8->Nat
 |[]=>0
 |c::r=>if c=34 then 0 else if c=92 then(match r with
  |[]=>2
  |_::r'=>2+kG r') else 1+kG r
theorem O1 (l:List UInt8):kG (34::l)=0:=by cases l<;>rfl
theorem ST:kG [92]=2:=rfl
theorem O0 (x:UInt8) (l:List UInt8):kG (92::x::l)=2+kG l:=by
 conv=>lhs;unfold kG
 rw[aB (by decide),aA rfl]
theorem SS {c:UInt8} (h:¬c=34) (h':¬c=92) (l:List UInt8):kG (c::l)=1+kG l:=by
 conv=>lhs;unfold kG
 rw[aB h,aB h']
def skip (l:List UInt8):List UInt8:=l.dropWhile (· ==32)
end
section
abbrev By:=List UInt8
def wOr:By:=[111,114]
def a1P:By:=[97,110,100]
def v0:Val:=⟨0,0,[]⟩
def iI (n:Nat):UInt8:=if n<10 then UInt8.ofNat (48+n) else UInt8.ofNat (87+n)
def oH (c:UInt8):By:=if c=34∨c=92 then[92,c] else if c.toNat<32∨126<c.toNat then[92,120,iI (c.toNat / 16),iI (c.toNat%16)] else[c]
def sE (s:By):By:=34::(s.flatMap oH++[34])
def kL (v:Val):By:=if v.k=1 then Lib.itoa v.n else sE v.s
def AT (a:Bool):By:=if a then 32::(a1P++[32]) else 32::(wOr++[32])
open Go.RowKit
theorem R2 [MaxL] (l:List UInt8):SC Tryz.prog 193 [.s l] [] (.val (.fn (.func 216) [] [.ptr 0 0])) [.box 9 [.s l]]:=by
 refine f8 D6 mixed Tryz.func193 rfl (bL rfl) (by simp) rfl ?_;conv=>whnf
 refine⟨[0],Lies.one rfl (fun _=>rfl) (by simp),fun i hi=>absurd hi (Nat.not_lt_zero i),?_⟩;show Wk _ (GV.fn _ [] [.ptr (iB [0] 1 0) 0]);rw[jD (by simp)];exact .refl _
def a0t:List UInt8:=[48,49,50,51,52,53,54,55,56,57,97,98,99,100,101,102]
theorem yY:∀n:Fin 256,0<=((n:Nat):Int).fdiv (2^min (Int.toNat 4) IntKind.u8.bits)/\a0t[(((n:Nat):Int).fdiv (2^min (Int.toNat 4) IntKind.u8.bits)).toNat]?=some (iI ((n:Nat) / 16))/\
  (Utf8.encode ((iI ((n:Nat) / 16)).toNat:Int)).data.toList=[iI ((n:Nat) / 16)]:=by decide+kernel
theorem yX:∀n:Fin 256,0<=bits .and .u8 ((n:Nat):Int) 15/\a0t[(bits .and .u8 ((n:Nat):Int) 15).toNat]?=some (iI ((n:Nat)%16))/\
  (Utf8.encode ((iI ((n:Nat)%16)).toNat:Int)).data.toList=[iI ((n:Nat)%16)]:=by decide+kernel
theorem HT (l:List UInt8):(l.flatMap oH).length<=4*l.length:=by
 induction l with
 |nil=>simp
 |cons c l ih=>
  rw[gZ,aX,aM];have:(oH c).length<=4:=by unfold oH;split;simp;split<;>simp
  omega
def RJ (vc:List GV) (s:List UInt8) (L:GObj) (bs:List UInt8):List GObj:=[.box 27 vc,fI 1 2 bs,kH bs.length,.box 9 [.s s],.dfr,L]
theorem NK [MaxL] (vc:List GV) (s:List UInt8) (L:GObj) (hL:L.notHeld=true) (hs:s.length<100000) (bs0:List UInt8) (h0:bs0.length<100)
  (hb:∀bs e:List UInt8,bs.length+e.length<1000000000->Fact Tryz.prog (.yld 5) [.s e] ⟨RJ vc s L bs,0,[]⟩ (.val (.b true)) ⟨RJ vc s L (bs++e),0,[]⟩):
  SC Tryz.prog 216 [.yld 5,.ptr 3 0] (RJ vc s L bs0) (.val (.tup [])) (RJ vc s L (bs0++s.flatMap oH)):=by
 refine f8 D6 mixed Tryz.func216 rfl (bL rfl) (by simp[RJ]) (by simp only[RJ,List.all_cons,hL];rfl) ?_;conv=>whnf
 refine bA (fun i:Nat=>i<=s.length) (fun i=>[(0,.yld 5),(1,.ptr 3 0),(7,.i .i64 s.length),(8,.i .i64 i)]) (fun i=>⟨RJ vc s L (bs0++(s.take i).flatMap oH),0,[]⟩) (fun i=>s.length - i) 0 (zL _) ⟨rfl,rfl,rfl,rfl,trivial⟩ (by simp) (fun i φ0 hi=>?_);conv=>whnf
 apply gM<;>intro h<;>conv=>whnf
 ·have hlt:i<s.length:=by simp at h;omega
  have hgi:s[i]?=some (s.getD i 0):=by rw[aL,gL hlt];rfl
  have htk:(s.take (i+1)).flatMap oH=(s.take i).flatMap oH++oH (s.getD i 0):=by
   rw[dS,hgi,List.flatMap_append];simp
  have hlen:((s.take i).flatMap oH).length<=4*i:=by
   have:=HT (s.take i);rw[cL] at this;omega
  have w1:IntKind.i64.wrap ((i:Int)+1)=((i+1:Nat):Int):=bN (by omega) (by omega);generalize hc:s.getD i 0=c at*;refine⟨fK _,?_⟩;conv=>whnf
  refine⟨by rw[w1];omega,?_⟩;conv=>whnf
  refine⟨⟨by rw[w1];omega,by rw[w1];omega⟩,[c],?_,?_⟩
  ·rw[w1,aD,aD,bD hlt,show i+1 - i=1 by omega];rw[gL hlt] at hgi;cases hgi;rfl
  conv=>whnf
  refine⟨fK _,c,by simpa using hgi,?_⟩;conv=>whnf
  apply gM<;>intro h34<;>conv=>whnf
  ·refine⟨by simp[jN],[92,c],rfl,?_⟩;(conv=>whnf);refine xJ (hb _ [92,c] (by rw[aX];simp only[aM,bW];omega)) ?_;(conv=>whnf);refine gK (i+1) hlt (by omega) ⟨rfl,rfl,rfl,cT (by omega),trivial⟩ ?_;rw[htk,<-cW,show oH c=[92,c] from aA (.inl (s9 (d:=34) h34))]
  apply gM<;>intro h92<;>conv=>whnf
  ·refine⟨by simp[jN],[92,c],rfl,?_⟩;(conv=>whnf);refine xJ (hb _ [92,c] (by rw[aX];simp only[aM,bW];omega)) ?_;(conv=>whnf);refine gK (i+1) hlt (by omega) ⟨rfl,rfl,rfl,cT (by omega),trivial⟩ ?_;rw[htk,<-cW,show oH c=[92,c] from aA (.inr (s9 (d:=92) h92))]
  have hn34:=uN (d:=34) h34;have hn92:=uN (d:=92) h92;have e1:∀{x y:List UInt8},(if c=34∨c=92 then x else y)=y:=fun{x y}=>aB (by simp[hn34,hn92]);apply gM<;>intro h32<;>conv=>whnf
  ·skip;refine gP ?_;(conv=>whnf);refine⟨by decide,?_⟩;(conv=>whnf);refine⟨(yY ⟨c.toNat,bS c⟩).1,iI (c.toNat / 16),(yY ⟨c.toNat,bS c⟩).2.1,?_⟩;(conv=>whnf);refine⟨by rw[(yY ⟨c.toNat,bS c⟩).2.2];simp[jN],[92,120,iI (c.toNat / 16)],by rw[(yY ⟨c.toNat,bS c⟩).2.2];rfl,?_⟩;(conv=>whnf);refine⟨(yX ⟨c.toNat,bS c⟩).1,iI (c.toNat%16),(yX ⟨c.toNat,bS c⟩).2.1,?_⟩;(conv=>whnf);refine⟨by rw[(yX ⟨c.toNat,bS c⟩).2.2];simp[jN],[92,120,iI (c.toNat / 16),iI (c.toNat%16)],by rw[(yX ⟨c.toNat,bS c⟩).2.2];rfl,?_⟩;(conv=>whnf);refine xJ (hb _ [92,120,iI (c.toNat / 16),iI (c.toNat%16)] (by rw[aX];simp only[aM,bW];omega)) ?_;(conv=>whnf);refine gK (i+1) hlt (by omega) ⟨rfl,rfl,rfl,cT (by omega),trivial⟩ ?_;rw[htk,<-cW,show oH c=[92,120,iI (c.toNat / 16),iI (c.toNat%16)] from(e1).trans (aA (by simp at h32;omega))]
  apply gM<;>intro h126<;>conv=>whnf
  ·skip;refine gP ?_;(conv=>whnf);refine⟨by decide,?_⟩;(conv=>whnf);refine⟨(yY ⟨c.toNat,bS c⟩).1,iI (c.toNat / 16),(yY ⟨c.toNat,bS c⟩).2.1,?_⟩;(conv=>whnf);refine⟨by rw[(yY ⟨c.toNat,bS c⟩).2.2];simp[jN],[92,120,iI (c.toNat / 16)],by rw[(yY ⟨c.toNat,bS c⟩).2.2];rfl,?_⟩;(conv=>whnf);refine⟨(yX ⟨c.toNat,bS c⟩).1,iI (c.toNat%16),(yX ⟨c.toNat,bS c⟩).2.1,?_⟩;(conv=>whnf);refine⟨by rw[(yX ⟨c.toNat,bS c⟩).2.2];simp[jN],[92,120,iI (c.toNat / 16),iI (c.toNat%16)],by rw[(yX ⟨c.toNat,bS c⟩).2.2];rfl,?_⟩;(conv=>whnf);refine xJ (hb _ [92,120,iI (c.toNat / 16),iI (c.toNat%16)] (by rw[aX];simp only[aM,bW];omega)) ?_;(conv=>whnf);refine gK (i+1) hlt (by omega) ⟨rfl,rfl,rfl,cT (by omega),trivial⟩ ?_;rw[htk,<-cW,show oH c=[92,120,iI (c.toNat / 16),iI (c.toNat%16)] from(e1).trans (aA (by simp at h126;omega))]
  refine xJ (hb _ [c] (by rw[aX];simp only[aM,bW];omega)) ?_;conv=>whnf
  refine gK (i+1) hlt (by omega) ⟨rfl,rfl,rfl,cT (by omega),trivial⟩ ?_;rw[htk,<-cW,show oH c=[c] from(e1).trans (aB (by simp at h32 h126;omega))]
 ·have:i=s.length:=by simp at h;omega
  subst this;rw[dG];refine⟨List.range 6,Lies.all (RJ vc s L (bs0++s.flatMap oH)) (fun x hx e=>?_),fun j hj=>?_,?_⟩
  ·subst e;simp[RJ,fI,kH] at hx;subst hx;cases hL
  ·have:j<6:=hj;simp[this]
  ·exact .refl _
theorem R1 [MaxL] (v:Val) (hv:v.s.length<100000) (h0: -9223372036854775808<=v.n) (h1:v.n<=9223372036854775807):SC Tryz.prog 169 [v.gv] [] (.val (.s (kL v))) []:=by
 obtain⟨k,n,s⟩:=v;refine bI Tryz.func169 rfl ?_;conv=>whnf
 apply gM<;>intro hk<;>conv=>whnf
 ·have:k=1:=by simpa using hk
  subst this;refine vD (NM n h0 h1) ?_;conv=>whnf
  exact FZ rfl
 ·have:k≠1:=by simpa using hk
  refine rY (xM 34) [1] (objs':=[.box 27 [.i .i64 k,.i .i64 n,.s s],fI 1 2 [34],kH 1]) (Lies.one' rfl (by simp[xN])) (wR _) rfl rfl rfl rfl ?_;conv=>whnf
  refine rY (R2 s) [] (objs':=[.box 27 [.i .i64 k,.i .i64 n,.s s],fI 1 2 [34],kH 1,.box 9 [.s s]]) Lies.nil (wR _) rfl rfl rfl rfl ?_;conv=>whnf
  have hv':s.length<100000:=hv;refine⟨.val (.tup []),⟨RJ [.i .i64 k,.i .i64 n,.s s] s (.loop .ready none _ _ _ _ _ 4) ([34]++s.flatMap oH),0,[.coll 4]⟩,SC.factAll (NK [.i .i64 k,.i .i64 n,.s s] s (.loop .ready none _ _ _ _ _ 4) rfl (by omega) [34] (by simp) (fun bs e hl=>?hb)) rfl rfl ?hh,?_⟩
  case hb=>
   refine Fact.yld D6 mixed (r:=5) rfl rfl (by kernel_rfl) rfl rfl (rL _) rfl rfl ?_;(conv=>whnf);refine X9 hl rfl ?_;(conv=>whnf);rfl
  case hh=>
   intro x hx e;subst e;simp[RJ,fI,kH] at hx
  have hlen:=HT s;conv=>whnf
  refine XA (bs:=[34]++s.flatMap oH) (c:=34) (by rw[aX];simp only[aM,bW];omega) rfl ?_;conv=>whnf
  refine US (M:=fun _=>false) (c:=34) (t:=s.flatMap oH++[34]) (by rw[aX];simp only[aM,bW];omega) rfl ?_;conv=>whnf
  refine FZ ?_;unfold kL;rw[aB this];rfl
def mB (vs:List Val):List UInt8:=Lib.join (vs.map kL) [44]
theorem O4 {v:Val} (h:v.ok=true): -1000000000<=v.n/\v.n<=1000000000/\v.s.length<=40:=by
 simp[Val.ok] at h;rcases h with⟨⟨⟨_,h1⟩,h2⟩,h3⟩|⟨⟨_,h2⟩,h3⟩
 ·refine⟨h2,h3,by rw[h1];simp⟩
 ·refine⟨by omega,by omega,h3⟩
theorem A4 [MaxL] {e:Nat->Nat} {r:Nat} {l:List GV} (h:e r=r) (hl:ClL l):(GV.sl (.own r) l).ren e=.sl (.own r) l:=by
 rw[GV.ren,bX,hl e];show GV.sl (.own (e r)) l=_;rw[h]
def ow (T:TypeId) (k:Nat):Nat->GObj
 |0=>.own 0 0 0
 |i+1=>.own (i+1) k T
theorem LX [MaxL] (T:TypeId) (k i:Nat) (f:Nat->Nat):(ow T k i).ren f=ow T k i:=by cases i<;>rfl
theorem G0 (T:TypeId) (k i:Nat):(ow T k i).notHeld=true:=by cases i<;>rfl
def v6 (vs:List Val):List GV:=vs.map fun v=>.s (kL v)
theorem W9 (l:List (List UInt8)) (AT:List UInt8) (b:Nat) (h:∀x∈l,x.length<=b):(Lib.join l AT).length<=(b+AT.length)*l.length:=by
 have hl:∀l:List (List UInt8),(∀x∈l,x.length<=b)->Lib.lens l<=b*l.length:=by
  intro l;induction l with
  |nil=>intro _;simp[Lib.lens]
  |cons x r ih=>
   intro h;have h1:=h x (by simp);have h2:=ih fun y hy=>h y (by simp[hy]);have e:Lib.lens (x::r)=x.length+Lib.lens r:=by simp[Lib.lens]
   rw[e,aM,Nat.mul_add];omega
 cases l with
 |nil=>simp[Lib.join]
 |cons x r=>
  rw[Lib.join_length];have:=hl _ h;have e:(b+AT.length)*(x::r).length=b*(x::r).length+AT.length*(r.length+1):=by rw[Nat.add_mul,aM]
  rw[e,Nat.mul_add];omega
theorem VK (vs:List Val):(v6 vs).all (fun x=>x.cells.length==1)=true:=by
 rw[aZ];intro x hx;obtain⟨v,_,rfl⟩:=List.mem_map.1 hx;rfl
theorem CY [MaxL] (vs:List Val) (hb:vs.length<dD):SC Tryz.prog 120 [.sl .none (hU vs)] [] (.val (.s (if nX vs then mB vs else[]))) []:=by
 refine bI Tryz.func120 rfl ?_;conv=>whnf
 refine iY (vQ vs hb) (wR _) rfl (cC (Cl.sl (jF vs)) (fun _=>rfl)) (.b _) ?_;conv=>whnf
 by_cases hok:nX vs=true
 ·rw[hok];conv=>whnf
  have hok':=hok;simp only[nX,aF,aH] at hok';obtain⟨h8,hall⟩:=hok';rw[aZ] at hall;refine GLoop.introS (fun i:Nat=>i<=vs.length) (fun i=>[(3,.sl (.own 0) (v6 (vs.take i))),(9,.sl .none (hU vs)),(10,.i .i64 (hU vs).length),(11,.i .i64 i)])
   (fun i=>⟨[ow 9 1 i],0,[]⟩) (fun i=>vs.length - i) 0 (zL _) ⟨rfl,rfl,rfl,rfl,trivial⟩ rfl (fun _ _=>rL _) (fun i _=>by simp[G0]) (fun i _ e he=>?_) (fun i φ0 hi=>?_)
  ·refine⟨by simp[LX],rfl,?_⟩;show[(GV.sl (.own 0) (v6 (vs.take i))).ren e,(GV.sl .none (hU vs)).ren e,_,_]=_;rw[A4 (he 0 (by simp)) (l:=v6 (vs.take i)) (ClL.mapOf (fun _=>Cl.s _) _),Cl.sl (jF vs) e];rfl
  conv=>whnf
  apply gM<;>intro h<;>conv=>whnf
  ·have hlt:i<vs.length:=by simp[hU] at h;omega
   have hgi:vs[i]?=some (vs.getD i ⟨0,0,[]⟩):=by rw[aL,gL hlt];rfl
   have hin:=O4 (hall _ (b9 hgi));have htk:v6 (vs.take (i+1))=v6 (vs.take i)++[.s (kL (vs.getD i ⟨0,0,[]⟩))]:=by
    rw[dS,hgi];simp[v6]
   generalize vs.getD i ⟨0,0,[]⟩=v at*;refine⟨fK _,v.gv,by simp[hU,hgi],rfl,?_⟩;(conv=>whnf);refine sT ?_;(conv=>whnf);refine iY (R1 v (by omega) (by omega) (by omega)) (wR _) rfl (fun _=>rfl) (.s _) ?_;(conv=>whnf);have hlen:(v6 (vs.take i)).length=i:=by simp[v6];omega
   cases i with
   |zero=>
    refine⟨⟨rfl,rfl,bL rfl⟩,v6 (vs.take 1),1,⟨htk,rfl⟩,?_⟩;(conv=>whnf);refine aN ?_;(conv=>whnf);exact⟨vs.length - 1,(by show _<vs.length - 0;omega),1,hlt,rfl,⟨rfl,rfl,rfl,rfl,trivial⟩,_,rfl,rfl⟩
   |succ j=>
    refine⟨⟨rfl,VK _,by show(v6 (vs.take (j+1))).length+1<=4294967296;omega⟩,v6 (vs.take (j+1+1)),j+1+1,⟨htk,by show _=(v6 (vs.take (j+1))).length+1;omega⟩,?_⟩;(conv=>whnf);refine⟨⟨zL _,by rw[hlen],.inl ⟨rfl,rfl⟩⟩,?_⟩;(conv=>whnf);exact⟨vs.length - (j+1+1),(by show _<vs.length - (j+1);omega),j+1+1,hlt,rfl,⟨rfl,rfl,rfl,cT (by omega),trivial⟩,_,rfl,rfl⟩
  ·have:i=vs.length:=by simp[hU] at h;omega
   subst this;rw[dG];have e:v6 vs=(vs.map kL).map .s:=by simp[v6]
   rw[e];have hlw:∀x∈vs.map kL,x.length<=170:=fun x hx=>by
    obtain⟨v,hv,rfl⟩:=List.mem_map.1 hx;have:=O4 (hall v hv);unfold kL;split
    ·have:=Lib.itoa_length_le v.n (by omega) (by omega);omega
    ·have:=HT v.s;simp only[sE,aM,aX,bW];omega
   refine iY (a08 (vs.map kL) [44] (by simp;omega) ?_) (wC (b5 _ _) (wR _)) rfl (cC (Cl.sl (ClL.mapOf Cl.s _)) (fun _=>rfl)) (.s _) ?_
   ·exact gX (W9 (vs.map kL) [44] 170 hlw) (by simp;omega)
   (conv=>whnf);exact FZ rfl
 ·rw[Bool.not_eq_true] at hok;rw[hok];exact FZ rfl
end
