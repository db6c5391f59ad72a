/-
  A part of the proof of ViewTexts.
-/
import Derived.Test.YtldggonlkafckaaGreatDoorQ20
import Derived.Test.YtldggonlkafckaaGreatDoorQ19
import Derived.Test.YtldggonlkafckaaGreatDoorQ18
import Derived.Test.YtldggonlkafckaaGreatDoorQ17
set_option linter.all false
namespace Go.Proofs.YtldggonlkafckaaGreatDoor
open Go.RowKit
set_option maxRecDepth 100000
set_option linter.unusedVariables false
def rt:List UInt8->Option (List UInt8×List UInt8)
 |[]=>none
 |c::r=>if c=34 then some ([],r) else if c=92 then(match r with
   |[]=>none
   |e::r1=>if e=120 then(match r1 with
     |a::b::r2=>(match hex2 a b with
      |some n=>(rt r2).map fun p=>(UInt8.ofNat n::p.1,p.2)
      |none=>none)
     |_=>none)
    else(rt r1).map fun p=>(e::p.1,p.2))
  else(rt r).map fun p=>(c::p.1,p.2)
def wrongI:GV:=.ifc 299 (.agg [])
theorem SC.of_callsO [MaxL] {P:Program} {k:FuncId} {args:List GV} {s:List GObj} {r:GRes} (hh:∀x∈s,x≠ .held)
  (h:∀(C:Cx) (w:World) (vs:Array Value),Rel C ⟨s,0,[]⟩ w w->VRs C args vs.toList->Calls P k vs w fun e w'=>Base (fun _=>False) w w'/\ERel C r e):
  SC P k args s r s:=by
 refine⟨rL _,fun C w vs hr hv=>(h C w vs hr hv).mono fun e w' ⟨hb,hg⟩=>⟨C,.refl C,?_,hg⟩,hh⟩
 refine⟨⟨hb.os,hb.tape,hb.output,hb.size,fun i hi _=>hb.block i hi (fun h=>h)⟩,fun b o v hx=>?_,fun r x hx=>ORel.keep hr (.refl C) rfl rfl hb.size (fun b hb'=>hb.block b (obj_lt hr hb') (fun h=>h)) (hr.obj r x hx),hr.dom,hr.new,hr.inj,hr.sepB,hr.sepO,hr.fxn,hr.gl,hr.gs⟩
 have h1:=hr.fxc b o v hx
 have hlt:b<w.heap.size:=block_lt_of_cell h1
 unfold World.cell? at h1⊢
 rw[hb.block b hlt (fun h=>h)]
 exact h1
theorem c_StringN [MaxL]:SC Tryz.prog 57 [.ptr 0 0] [bldN] (.val (.s [])) [bldN]:=by
 refine SC.of_callsO (by simp[bldN]) fun C w vs hr hv=>?_
 obtain⟨v,rfl,hv1⟩:=hv.arr1
 obtain⟨h0,b,cs,hb,ho,hcs⟩:=hr.obj 0 _ rfl
 obtain⟨u,u',rfl,hu,hu'⟩:=(BoxV.exact hcs rfl).arr2
 cases hv1 with
 |ptr hb'=>
 rw[hb] at hb';cases hb'
 cases hu' with
 |sl esz b' off us hn hc ha hw hx hv ht=>
 obtain⟨hc0,ha0⟩:=ht
 obtain rfl:=ha0 rfl
 simp at hn hc0
 subst hn;subst hc0
 refine(Any.Builder_String_nil Tryz.lays169 Tryz.Builder_Extra_169 w.heap.size b u w ho).mono ?_
 rintro e w' ⟨rfl,hb⟩
 exact⟨.below hb,_,rfl,.s []⟩
theorem callWBN [MaxL] {M:FuncId->Bool} {K:GRes->GS->Prop} {x:GObj} {c:UInt8} {ds:List GDef} (hM:M 237=false) (hk:K (.val (.o .nilIface)) ⟨[x,bldAt 1 2 [c],ownB 1],0,ds⟩):
  gcallK Tryz.prog M (.fn 237) [.ptr 1 0,.i .u8 c.toNat] ⟨[x,bldN],0,ds⟩ K:=by
 refine callG (c_WriteByteN c) [1] (objs':=[x,bldAt 1 2 [c],ownB 1]) (Lies.one' rfl (by simp[bldN])) (wR _) rfl hM ?_ rfl hk
 rfl
theorem callWB [MaxL] {M:FuncId->Bool} {K:GRes->GS->Prop} {x:GObj} {bs:List UInt8} {c:UInt8} {ds:List GDef} (hl:bs.length<1000000000) (hM:M 237=false) (hk:K (.val (.o .nilIface)) ⟨[x,bldAt 1 2 (bs++[c]),ownB (bs++[c]).length],0,ds⟩):
  gcallK Tryz.prog M (.fn 237) [.ptr 1 0,.i .u8 c.toNat] ⟨[x,bldAt 1 2 bs,ownB bs.length],0,ds⟩ K:=by
 refine callG (c_WriteByte bs c hl) [1,2] (objs':=[x,bldAt 1 2 (bs++[c]),ownB (bs++[c]).length]) (bld_lies (by decide) rfl rfl) (wR _) rfl hM ?_ rfl hk
 show[x,(bldAt 0 1 (bs++[c])).ren (emb [1,2] 3),ownB (bs++[c]).length]=_
 rw[bldAt_ren];rfl
theorem callStr [MaxL] {M:FuncId->Bool} {K:GRes->GS->Prop} {x:GObj} {c:UInt8} {t:List UInt8} {ds:List GDef} (hl:t.length<1000000000) (hM:M 57=false) (hk:K (.val (.s (c::t))) ⟨[x,bldAt 1 2 (c::t),.dead],0,ds⟩):
  gcallK Tryz.prog M (.fn 57) [.ptr 1 0] ⟨[x,bldAt 1 2 (c::t),ownB (c::t).length],0,ds⟩ K:=by
 refine callG (c_String c t hl) [1,2] (objs':=[x,bldAt 1 2 (c::t),.dead]) (bld_lies (by decide) rfl rfl) (wR _) rfl hM ?_ rfl hk
 show[x,(bldAt 0 1 (c::t)).ren (emb [1,2] 3),GObj.dead]=_
 rw[bldAt_ren];rfl
theorem callStrN [MaxL] {M:FuncId->Bool} {K:GRes->GS->Prop} {x:GObj} {ds:List GDef} (hM:M 57=false) (hk:K (.val (.s [])) ⟨[x,bldN],0,ds⟩):
  gcallK Tryz.prog M (.fn 57) [.ptr 1 0] ⟨[x,bldN],0,ds⟩ K:=by
 refine callG c_StringN [1] (objs':=[x,bldN]) (Lies.one' rfl (by simp[bldN])) (wR _) rfl hM ?_ rfl hk
 rfl
theorem bld_put [MaxL] {x y z:GObj} {rest:List GObj} {bs':List UInt8} {o:GObj} (ho:∀f,o.ren f=o):
  putBack [1,2] [bldAt 0 1 bs',o] (x::y::z::rest)=x::bldAt 1 2 bs'::o::rest:=by
 rw[putBack_two (by decide) (by simp) (by simp),bldAt_ren,ho]
 rfl
theorem callWSr [MaxL] {M:FuncId->Bool} {K:GRes->GS->Prop} {x:GObj} {rest:List GObj} {bs l:List UInt8} {ds:List GDef} (hl:bs.length+l.length<1000000000) (hM:M 55=false) (hk:K (.val (.tup [.i .i64 l.length,.o .nilIface])) ⟨x::bldAt 1 2 (bs++l)::ownB (bs++l).length::rest,0,ds⟩):
  gcallK Tryz.prog M (.fn 55) [.ptr 1 0,.s l] ⟨x::bldAt 1 2 bs::ownB bs.length::rest,0,ds⟩ K:=
 callG (c_WriteString bs l hl) [1,2] (bld_lies (by decide) rfl rfl) (wR _) rfl hM (bld_put fun _=>rfl) rfl hk
theorem callWBr [MaxL] {M:FuncId->Bool} {K:GRes->GS->Prop} {x:GObj} {rest:List GObj} {bs:List UInt8} {c:UInt8} {ds:List GDef} (hl:bs.length<1000000000) (hM:M 237=false) (hk:K (.val (.o .nilIface)) ⟨x::bldAt 1 2 (bs++[c])::ownB (bs++[c]).length::rest,0,ds⟩):
  gcallK Tryz.prog M (.fn 237) [.ptr 1 0,.i .u8 c.toNat] ⟨x::bldAt 1 2 bs::ownB bs.length::rest,0,ds⟩ K:=
 callG (c_WriteByte bs c hl) [1,2] (bld_lies (by decide) rfl rfl) (wR _) rfl hM (bld_put fun _=>rfl) rfl hk
theorem callStrr [MaxL] {M:FuncId->Bool} {K:GRes->GS->Prop} {x:GObj} {rest:List GObj} {c:UInt8} {t:List UInt8} {ds:List GDef} (hl:t.length<1000000000) (hM:M 57=false) (hk:K (.val (.s (c::t))) ⟨x::bldAt 1 2 (c::t)::.dead::rest,0,ds⟩):
  gcallK Tryz.prog M (.fn 57) [.ptr 1 0] ⟨x::bldAt 1 2 (c::t)::ownB (c::t).length::rest,0,ds⟩ K:=
 callG (c_String c t hl) [1,2] (bld_lies (by decide) rfl rfl) (wR _) rfl hM (bld_put fun _=>rfl) rfl hk
theorem u8n_ne {c d:UInt8} (h:((c.toNat:Int) !=(d.toNat:Int))=true):c≠d:=fun e=>by simp[e] at h
theorem u8n_eq {c d:UInt8} (h:((c.toNat:Int) !=(d.toNat:Int))=false):c=d:=by
 simp at h;exact UInt8.toNat_inj.1 (by omega)
theorem rt_34 (r:List UInt8):rt (34::r)=some ([],r):=by
 conv=>lhs;unfold rt
 rfl
theorem rt_c {c:UInt8} (h:c≠34) (h':c≠92) (r:List UInt8):rt (c::r)=(rt r).map fun p=>(c::p.1,p.2):=by
 conv=>lhs;unfold rt
 rw[if_neg h,if_neg h']
theorem rt_92 {e:UInt8} (h:e≠120) (r:List UInt8):rt (92::e::r)=(rt r).map fun p=>(e::p.1,p.2):=by
 conv=>lhs;unfold rt
 rw[if_neg (by decide),if_pos rfl]
 show(if e=120 then _ else _)=_
 rw[if_neg h]
theorem rt_x (a b:UInt8) (r:List UInt8):rt (92::120::a::b::r)=match hex2 a b with
  |some n=>(rt r).map fun p=>(UInt8.ofNat n::p.1,p.2)
  |none=>none:=by
 conv=>lhs;unfold rt
 rfl
def tB (bs:List UInt8):List GObj:=if bs=[] then[bldN] else[bldAt 1 2 bs,ownB bs.length]
theorem cells_add [MaxL] {i:Nat} (k:Nat) (h:i+k<9223372036854775807):[GV.i .i64 ((i+k:Nat):Int)]=(GV.i .i64 (IntKind.i64.wrap ((i:Int)+(k:Int)))).cells:=by
 rw[wrap_in (by omega) (by omega)];rfl
theorem c_text [MaxL] (s:List UInt8) (n:Nat) (hn:n<s.length) (hs:s.length<1000000):
  Ct Tryz.prog 262 [.ptr 0 0] (rdI s n) wrongI ((rt (s.drop (n+1))).map fun p=>(.s p.1,rdI s (s.length - p.2.length))):=by
 refine Ct.of_gwp noM mixed Tryz.func262 rfl (bL rfl) (fun _=>rfl) ?hh ?_
 case hh=>cases rt (s.drop (n+1))<;>rfl
 conv=>whnf
 refine⟨[.i .i64 (n+1:Nat)],⟨cells_succ (by omega),rL _,rfl,bL rfl⟩,?_⟩
 conv=>whnf
 generalize hR:rt (s.drop (n+1))=R
 refine GLoop.intro (fun q:Nat×List UInt8=>q.1<=s.length+1/\q.2.length<=q.1/\(rt (s.drop q.1)).map (fun p=>(q.2++p.1,p.2))=R)
  (fun q=>[(0,.ptr 0 0),(3,.ptr 1 0)]) (fun q=>⟨rdI s q.1::tB q.2,0,[]⟩) (fun q=>s.length+2 - q.1) (n+1,[]) ⟨by omega,by simp,?_⟩ ⟨rfl,rfl,trivial⟩ rfl (fun q φ0 hq=>?_)
 ·rw[<-hR];cases rt (s.drop (n+1))<;>rfl
 obtain⟨i,bs⟩:=q
 obtain⟨hi,hbl,hq⟩:=hq
 replace hi:i<=s.length+1:=hi
 replace hbl:bs.length<=i:=hbl
 replace hq:(rt (s.drop i)).map (fun p=>(bs++p.1,p.2))=R:=hq
 have wr:∀(x:GObj) (c:UInt8) (M:FuncId->Bool) (K:GRes->GS->Prop) (ds:List GDef),M 237=false->K (.val (.o .nilIface)) ⟨x::tB (bs++[c]),0,ds⟩->
   gcallK Tryz.prog M (.fn 237) [.ptr 1 0,.i .u8 c.toNat] ⟨x::tB bs,0,ds⟩ K:=fun x c M K ds hM hk=>by
  have e2:tB (bs++[c])=[bldAt 1 2 (bs++[c]),ownB (bs++[c]).length]:=if_neg (by simp)
  rw[e2] at hk
  by_cases hb:bs=[]
  ·subst hb
   exact callWBN hM hk
  ·rw[show tB bs=[bldAt 1 2 bs,ownB bs.length] from if_neg hb]
   exact callWB (by omega) hM hk
 conv=>whnf
 refine callB (q:=0) (c_next s i (by unfold most;omega)) rfl (by first|exact wR _|exact wC (Wk.sl _ _) (wR _)|exact wC (Wk.sl _ _) (wC (Wk.sl _ _) (wR _))|exact wC (Wk.refl _) (wC (Wk.sl _ _) (wR _))) rfl rfl (by first|exact fun _=>rfl|exact cA|exact cB fun _=>rfl) (by first|exact fun _=>rfl|exact cA|exact cB fun _=>rfl) (by first|exact fun _=>rfl|exact cA|exact cB fun _=>rfl) (by first|exact fun _=>rfl|exact cA|exact cB fun _=>rfl) (gsetK_mk (l:=rdI s i::tB bs) rfl ?_)
 conv=>whnf
 have hdrop:i<s.length->s.drop i=s.getD i 0::s.drop (i+1):=fun h=>by
  rw[List.drop_eq_getElem_cons h,List.getD_eq_getElem?_getD,gL h];rfl
 refine GIf.mk (fun h34=>?_) (fun h34=>?_)<;>conv=>whnf
 ·
  replace h34:=u8n_ne (d:=34) h34
  refine GDraw.calm (by kernel_rfl) ?_
  conv=>whnf
  refine GIf.mk (fun hge=>?_) (fun hge=>?_)<;>conv=>whnf
  ·refine OwesO.panics ?_
   have:s.drop i=[]:=List.drop_of_length_le (by simp at hge;omega)
   rw[this] at hq
   rw[<-hq];rfl
  have hlt:i<s.length:=by simp at hge;omega
  refine callB (q:=0) (c_next s i (by unfold most;omega)) rfl (by first|exact wR _|exact wC (Wk.sl _ _) (wR _)|exact wC (Wk.sl _ _) (wC (Wk.sl _ _) (wR _))|exact wC (Wk.refl _) (wC (Wk.sl _ _) (wR _))) rfl rfl (by first|exact fun _=>rfl|exact cA|exact cB fun _=>rfl) (by first|exact fun _=>rfl|exact cA|exact cB fun _=>rfl) (by first|exact fun _=>rfl|exact cA|exact cB fun _=>rfl) (by first|exact fun _=>rfl|exact cA|exact cB fun _=>rfl) (gsetK_mk (l:=rdI s i::tB bs) rfl ?_)
  conv=>whnf
  have hd:=hdrop hlt
  refine GIf.mk (fun h92=>?_) (fun h92=>?_)<;>conv=>whnf
  ·replace h92:=u8n_ne (d:=92) h92
   refine callB (q:=0) (c_next s i (by unfold most;omega)) rfl (by first|exact wR _|exact wC (Wk.sl _ _) (wR _)|exact wC (Wk.sl _ _) (wC (Wk.sl _ _) (wR _))|exact wC (Wk.refl _) (wC (Wk.sl _ _) (wR _))) rfl rfl (by first|exact fun _=>rfl|exact cA|exact cB fun _=>rfl) (by first|exact fun _=>rfl|exact cA|exact cB fun _=>rfl) (by first|exact fun _=>rfl|exact cA|exact cB fun _=>rfl) (by first|exact fun _=>rfl|exact cA|exact cB fun _=>rfl) (gsetK_mk (l:=rdI s i::tB bs) rfl ?_)
   conv=>whnf
   refine wr _ _ _ _ _ rfl ?_
   conv=>whnf
   refine⟨[.i .i64 (i+1:Nat)],⟨?_,rL _,rfl,bL rfl⟩,glistK_mk (gsetK_mk (l:=rdI s (i+1)::tB (bs++[s.getD i 0])) rfl ?_)⟩
   ·exact cells_succ (by omega)
   conv=>whnf
   refine⟨s.length+2 - (i+1),(by show _<s.length+2 - i;omega),(i+1,bs++[s.getD i 0]),⟨by show _<=_;omega,by show(_:List UInt8).length<=_;simp;omega,?_⟩,rfl,⟨rfl,rfl,trivial⟩,rfl⟩
   rw[hd,rt_c h34 h92] at hq
   rw[<-hq]
   simp[Option.map_map,Function.comp_def]
  replace h92:=u8n_eq (d:=92) h92
  refine⟨[.i .i64 (i+1:Nat)],⟨?_,rL _,rfl,bL rfl⟩,glistK_mk (gsetK_mk (l:=rdI s (i+1)::tB bs) rfl ?_)⟩
  ·exact cells_succ (by omega)
  conv=>whnf
  refine callB (q:=0) (c_next s (i+1) (by unfold most;omega)) rfl (by first|exact wR _|exact wC (Wk.sl _ _) (wR _)|exact wC (Wk.sl _ _) (wC (Wk.sl _ _) (wR _))|exact wC (Wk.refl _) (wC (Wk.sl _ _) (wR _))) rfl rfl (by first|exact fun _=>rfl|exact cA|exact cB fun _=>rfl) (by first|exact fun _=>rfl|exact cA|exact cB fun _=>rfl) (by first|exact fun _=>rfl|exact cA|exact cB fun _=>rfl) (by first|exact fun _=>rfl|exact cA|exact cB fun _=>rfl) (gsetK_mk (l:=rdI s (i+1)::tB bs) rfl ?_)
  conv=>whnf
  refine GIf.mk (fun h120=>?_) (fun h120=>?_)<;>conv=>whnf
  ·replace h120:=u8n_ne (d:=120) h120
   refine callB (q:=0) (c_next s (i+1) (by unfold most;omega)) rfl (by first|exact wR _|exact wC (Wk.sl _ _) (wR _)|exact wC (Wk.sl _ _) (wC (Wk.sl _ _) (wR _))|exact wC (Wk.refl _) (wC (Wk.sl _ _) (wR _))) rfl rfl (by first|exact fun _=>rfl|exact cA|exact cB fun _=>rfl) (by first|exact fun _=>rfl|exact cA|exact cB fun _=>rfl) (by first|exact fun _=>rfl|exact cA|exact cB fun _=>rfl) (by first|exact fun _=>rfl|exact cA|exact cB fun _=>rfl) (gsetK_mk (l:=rdI s (i+1)::tB bs) rfl ?_)
   conv=>whnf
   refine wr _ _ _ _ _ rfl ?_
   conv=>whnf
   refine⟨[.i .i64 (i+1+1:Nat)],⟨?_,rL _,rfl,bL rfl⟩,glistK_mk (gsetK_mk (l:=rdI s (i+1+1)::tB (bs++[s.getD (i+1) 0])) rfl ?_)⟩
   ·exact cells_succ (by omega)
   conv=>whnf
   refine⟨s.length+2 - (i+1+1),(by show _<s.length+2 - i;omega),(i+1+1,bs++[s.getD (i+1) 0]),⟨by show _<=_;omega,by show(_:List UInt8).length<=_;simp;omega,?_⟩,rfl,⟨rfl,rfl,trivial⟩,rfl⟩
   rw[hd,h92] at hq
   by_cases hl2:i+1<s.length
   ·have hd2:s.drop (i+1)=s.getD (i+1) 0::s.drop (i+1+1):=by
     rw[List.drop_eq_getElem_cons hl2,List.getD_eq_getElem?_getD,gL hl2];rfl
    rw[hd2,rt_92 h120] at hq
    rw[<-hq]
    simp[Option.map_map,Function.comp_def]
   ·have e1:s.drop (i+1)=[]:=List.drop_of_length_le (by omega)
    have e2:s.drop (i+1+1)=[]:=List.drop_of_length_le (by omega)
    rw[e1] at hq
    show Option.map _ (rt (s.drop (i+1+1)))=R
    rw[e2,<-hq];rfl
  replace h120:=u8n_eq (d:=120) h120
  have hl2:i+1<s.length:=by
   rcases Nat.lt_or_ge (i+1) s.length with h|h
   ·exact h
   ·rw[List.getD_eq_getElem?_getD,List.getElem?_eq_none h] at h120;simp at h120
  have hd2:s.drop (i+1)=120::s.drop (i+1+1):=by
   rw[List.drop_eq_getElem_cons hl2,<-h120,List.getD_eq_getElem?_getD,gL hl2];rfl
  rw[hd,h92,hd2] at hq
  refine GDraw.calm (by kernel_rfl) ?_
  conv=>whnf
  refine GIf.mk (fun hge2=>?_) (fun hge2=>?_)<;>conv=>whnf
  ·refine OwesO.panics ?_
   have hl3:(s.drop (i+1+1)).length<=1:=by
    rw[wrap_in (by omega) (by omega)] at hge2
    simp at hge2⊢;omega
   rw[<-hq]
   rcases hr:s.drop (i+1+1) with _|⟨a,_|⟨b,r⟩⟩
   ·rfl
   ·rfl
   ·rw[hr] at hl3;simp at hl3
  have hl4:i+3<s.length:=by
   rw[wrap_in (by omega) (by omega)] at hge2
   simp at hge2;omega
  obtain⟨a,b,hab⟩:∃a b,s.drop (i+1+1)=a::b::s.drop (i+4):=
   ⟨s[i+2],s[i+3],by rw[List.drop_eq_getElem_cons (by omega),List.drop_eq_getElem_cons (by omega)]⟩
  rw[hab,rt_x] at hq
  refine GDraw.calm (by kernel_rfl) ?_
  conv=>whnf
  have w1:IntKind.i64.wrap (((i+1:Nat):Int)+1)=((i+2:Nat):Int):=wrap_in (by omega) (by omega)
  have w3:IntKind.i64.wrap (((i+1:Nat):Int)+3)=((i+4:Nat):Int):=wrap_in (by omega) (by omega)
  refine⟨by rw[w1];omega,?_⟩
  conv=>whnf
  refine⟨by rw[w3];omega,?_⟩
  conv=>whnf
  refine⟨⟨by rw[w1,w3];omega,by rw[w3];omega⟩,[a,b],?_,?_⟩
  ·rw[w1,w3,Int.toNat_natCast,Int.toNat_natCast,hab,show i+4 - (i+2)=2 by omega];rfl
  conv=>whnf
  cases hx:hex2 a b with
  |none=>
   have hPU:SC Tryz.prog 290 [.s [a,b],.i .i64 16,.i .i64 8] [] (.val (.tup [.i .u64 0,.ifc 331 .any])) []:=by
    have:=c_ParseUint16 a b
    rw[hx] at this;exact this
   rw[hx] at hq
   refine callP hPU (by first|exact wR _|exact wC (Wk.sl _ _) (wR _)|exact wC (Wk.sl _ _) (wC (Wk.sl _ _) (wR _))|exact wC (Wk.refl _) (wC (Wk.sl _ _) (wR _))) rfl (by first|exact fun _=>rfl|exact cA|exact cB fun _=>rfl) (by first|exact fun _=>rfl|exact cA|exact cB fun _=>rfl) ?_
   conv=>whnf
   exact OwesO.panics (by rw[<-hq];rfl)
  |some v=>
   have hPU:SC Tryz.prog 290 [.s [a,b],.i .i64 16,.i .i64 8] [] (.val (.tup [.i .u64 v,.o .nilIface])) []:=by
    have:=c_ParseUint16 a b
    rw[hx] at this;exact this
   rw[hx] at hq
   refine callP hPU (by first|exact wR _|exact wC (Wk.sl _ _) (wR _)|exact wC (Wk.sl _ _) (wC (Wk.sl _ _) (wR _))|exact wC (Wk.refl _) (wC (Wk.sl _ _) (wR _))) rfl (by first|exact fun _=>rfl|exact cA|exact cB fun _=>rfl) (by first|exact fun _=>rfl|exact cA|exact cB fun _=>rfl) ?_
   conv=>whnf
   have hv:IntKind.u8.wrap (v:Int)=((UInt8.ofNat v).toNat:Int):=by
    rw[u8w];simp
   rw[hv]
   refine wr _ _ _ _ _ rfl ?_
   conv=>whnf
   refine⟨[.i .i64 (i+3:Nat)],⟨?_,rL _,rfl,bL rfl⟩,glistK_mk (gsetK_mk (l:=rdI s (i+3)::tB (bs++[UInt8.ofNat v])) rfl ?_)⟩
   ·exact cells_add 2 (by omega)
   conv=>whnf
   refine⟨[.i .i64 (i+4:Nat)],⟨?_,rL _,rfl,bL rfl⟩,glistK_mk (gsetK_mk (l:=rdI s (i+4)::tB (bs++[UInt8.ofNat v])) rfl ?_)⟩
   ·exact cells_succ (by omega)
   conv=>whnf
   refine⟨s.length+2 - (i+4),(by show _<s.length+2 - i;omega),(i+4,bs++[UInt8.ofNat v]),⟨by show _<=_;omega,by show(_:List UInt8).length<=_;simp;omega,?_⟩,rfl,⟨rfl,rfl,trivial⟩,rfl⟩
   rw[<-hq]
   simp[Option.map_map,Function.comp_def]
 ·replace h34:=u8n_eq (d:=34) h34
  have hlt:i<s.length:=by
   rcases Nat.lt_or_ge i s.length with h|h
   ·exact h
   ·rw[List.getD_eq_getElem?_getD,List.getElem?_eq_none h] at h34;simp at h34
  rw[hdrop hlt,h34,rt_34] at hq
  refine⟨[.i .i64 (i+1:Nat)],⟨cells_succ (by omega),rL _,rfl,bL rfl⟩,glistK_mk (gsetK_mk (l:=rdI s (i+1)::tB bs) rfl ?_)⟩
  conv=>whnf
  have e:s.length - (s.drop (i+1)).length=i+1:=by simp;omega
  have hres:Option.map (fun p:List UInt8×List UInt8=>(GV.s p.1,rdI s (s.length - p.2.length))) R=some (.s bs,rdI s (i+1)):=by
   rw[<-hq]
   show some (GV.s (bs++[]),rdI s (s.length - (s.drop (i+1)).length))=_
   rw[e,List.append_nil]
  by_cases hb:bs=[]
  ·subst hb
   refine callStrN rfl ?_
   conv=>whnf
   exact OwesO.box hres rfl (.refl _) (fun _=>rfl) (.s _)
  ·obtain⟨c,t,rfl⟩:=List.exists_cons_of_ne_nil hb
   have e3:tB (c::t)=[bldAt 1 2 (c::t),ownB (c::t).length]:=if_neg hb
   rw[e3]
   refine callStr (by simp at hbl;omega) rfl ?_
   conv=>whnf
   exact OwesO.box hres rfl (.refl _) (fun _=>rfl) (.s _)
def notComma (c:UInt8):Bool:=c !=44
def rv (l:List UInt8):Option (Val×List UInt8):=
 if l.head?=some 34 then(rt l.tail).map fun p=>(⟨2,0,p.1⟩,p.2)
 else match Lib.atoiAll (l.takeWhile notComma) with
  |.ok n=>if Lib.itoa n=l.takeWhile notComma then some (⟨1,n,[]⟩,l.dropWhile notComma) else none
  |_=>none
theorem tw_end {p:UInt8->Bool}:∀{l:List UInt8} {k:Nat},(∀c∈l.take k,p c=true)->(∀c,l[k]?=some c->p c=false)->l.takeWhile p=l.take k/\l.dropWhile p=l.drop k
 |[],k,_,_=>by simp
 |c::l,0,_,h=>by
  have:=h c rfl
  simp[this]
 |c::l,k+1,h1,h2=>by
  have hc:=h1 c (by simp)
  have ih:=tw_end (l:=l) (k:=k) (fun d hd=>h1 d (by simp[hd])) (fun d hd=>h2 d (by simpa using hd))
  simp[hc,ih]
theorem atoi_lo {l:List UInt8} {n:Int} (h:Lib.atoiAll l=.ok n): -9223372036854775808<=n/\n<=9223372036854775807:=by
 unfold Lib.atoiAll at h
 split at h
 ·cases h
 ·dsimp only at h
  split at h
  ·cases h
  ·cases h
  ·split at h
   ·cases h
   ·split at h
    ·cases h
    ·cases h
     rename_i h1 h2
     split<;>omega
theorem c_value [MaxL] (s:List UInt8) (n:Nat) (hn:n<=s.length) (hs:s.length<1000000):
  Ct Tryz.prog 226 [.ptr 0 0] (rdI s n) wrongI ((rv (s.drop n)).map fun p=>(p.1.gv,rdI s (s.length - p.2.length))):=by
 refine Ct.of_gwp noM mixed Tryz.func226 rfl (bL rfl) (fun _=>rfl) ?hh ?_
 case hh=>cases rv (s.drop n)<;>rfl
 have hm:s.length<most:=by unfold most;omega
 have htx:=fun h=>c_text s n h hs
 conv=>whnf
 refine callB (q:=0) (c_next s n hm) rfl (by first|exact wR _|exact wC (Wk.sl _ _) (wR _)|exact wC (Wk.sl _ _) (wC (Wk.sl _ _) (wR _))|exact wC (Wk.refl _) (wC (Wk.sl _ _) (wR _))) rfl rfl (by first|exact fun _=>rfl|exact cA|exact cB fun _=>rfl) (by first|exact fun _=>rfl|exact cA|exact cB fun _=>rfl) (by first|exact fun _=>rfl|exact cA|exact cB fun _=>rfl) (by first|exact fun _=>rfl|exact cA|exact cB fun _=>rfl) ?_
 conv=>whnf
 refine GIf.mk (fun h34=>?_) (fun h34=>?_)<;>conv=>whnf
 ·have h34':=u8_eq (d:=34) h34
  have hlt:n<s.length:=by
   rcases Nat.lt_or_ge n s.length with h|h
   ·exact h
   ·rw[List.getD_eq_getElem?_getD,List.getElem?_eq_none h] at h34';simp at h34'
  have hd:s.drop n=34::s.drop (n+1):=by
   rw[List.drop_eq_getElem_cons hlt,<-h34',List.getD_eq_getElem?_getD,gL hlt];rfl
  have hrv:rv (s.drop n)=(rt (s.drop (n+1))).map fun p=>(⟨2,0,p.1⟩,p.2):=by rw[hd];rfl
  replace htx:=htx hlt
  rw[hrv]
  cases hr:rt (s.drop (n+1)) with
  |none=>
   rw[hr] at htx
   refine callBd (q:=0) htx rfl (by first|exact wR _|exact wC (Wk.sl _ _) (wR _)|exact wC (Wk.sl _ _) (wC (Wk.sl _ _) (wR _))|exact wC (Wk.refl _) (wC (Wk.sl _ _) (wR _))) rfl rfl (by first|exact fun _=>rfl|exact cA|exact cB fun _=>rfl) (by first|exact fun _=>rfl|exact cA|exact cB fun _=>rfl) (by first|exact fun _=>rfl|exact cA|exact cB fun _=>rfl) ?_
   conv=>whnf
   exact OwesO.deads rfl
  |some p=>
   rw[hr] at htx
   refine callB (q:=0) htx rfl (by first|exact wR _|exact wC (Wk.sl _ _) (wR _)|exact wC (Wk.sl _ _) (wC (Wk.sl _ _) (wR _))|exact wC (Wk.refl _) (wC (Wk.sl _ _) (wR _))) rfl rfl (by first|exact fun _=>rfl|exact cA|exact cB fun _=>rfl) (by first|exact fun _=>rfl|exact cA|exact cB fun _=>rfl) (by first|exact fun _=>rfl|exact cA|exact cB fun _=>rfl) (by first|exact fun _=>rfl|exact cA|exact cB fun _=>rfl) ?_
   conv=>whnf
   refine⟨_,⟨rfl,zL _,rfl,bL rfl⟩,?_⟩
   conv=>whnf
   exact OwesO.box rfl rfl (.refl _) (fun _=>rfl) (Val.cl _)
 ·have h34':=u8_ne (d:=34) h34
  have hd34:¬(s.drop n).head?=some 34:=fun e=>by
   rw[List.head?_drop] at e
   exact h34' (by rw[List.getD_eq_getElem?_getD,e];rfl)
  have hrv:rv (s.drop n)=match Lib.atoiAll ((s.drop n).takeWhile notComma) with
   |.ok k=>if Lib.itoa k=(s.drop n).takeWhile notComma then some (⟨1,k,[]⟩,(s.drop n).dropWhile notComma) else none
   |_=>none:=by unfold rv;rw[if_neg hd34]
  refine GLoop.intro (fun i:Nat=>n<=i/\i<=s.length/\∀c∈(s.drop n).take (i - n),notComma c=true)
   (fun i=>[(0,.ptr 0 0),(2,.ptr 1 0),(3,.i .i64 n)]) (fun i=>⟨[rdI s i,.box 51 [.i .i64 0,.i .i64 0,.s []]],0,[]⟩) (fun i=>s.length - i) n ⟨rL _,hn,by simp⟩ ⟨rfl,rfl,rfl,trivial⟩ rfl (fun i φ0 hi=>?_)
  obtain⟨hi1,hi2,hi3⟩:=hi
  conv=>whnf
  refine GDraw.calm (by kernel_rfl) ?_
  conv=>whnf
  have fin:(∀c,(s.drop n)[i - n]?=some c->notComma c=false)->(s.drop n).takeWhile notComma=(s.drop n).take (i - n)/\(s.drop n).dropWhile notComma=s.drop i:=fun h=>by
   have:=tw_end (l:=s.drop n) (k:=i - n) hi3 h
   rw[List.drop_drop,show n+(i - n)=i by omega] at this
   exact this
  have hw:(s.drop n).take (i - n)=(s.drop n).take (i - n):=rfl
  refine GIf.mk (fun hlt=>?in1) (fun hlt=>?in2)
  case' in1=>
   have hlt':i<s.length:=by simp at hlt;omega
   have hgi:s[i]?=some (s.getD i 0):=by rw[List.getD_eq_getElem?_getD,gL hlt'];rfl
   have hdi:(s.drop n)[i - n]?=some (s.getD i 0):=by rw[List.getElem?_drop,show n+(i - n)=i by omega,hgi]
   conv=>whnf
   refine⟨cN _,s.getD i 0,by simpa using hgi,?_⟩
   conv=>whnf
   refine GIf.mk (fun hc=>?go) (fun hc=>?out)
   case' go=>
    conv=>whnf
    refine⟨[.i .i64 (i+1:Nat)],⟨cells_succ (by omega),rL _,rfl,bL rfl⟩,?_⟩
    conv=>whnf
    have hc':=u8n_ne (d:=44) hc
    refine GLoop.next (i+1) ⟨by omega,hlt',?_⟩ (by omega) ⟨rfl,rfl,rfl,trivial⟩ rfl
    intro c hcm
    rw[show i+1 - n=i - n+1 by omega,List.take_add_one,hdi] at hcm
    rcases List.mem_append.1 hcm with h|h
    ·exact hi3 c h
    ·have h:=List.mem_singleton.1 (show c∈[s.getD i 0] from h);subst h;exact bne_iff_ne.2 hc'
   case' out=>
    have hc':=u8n_eq (d:=44) hc
    obtain⟨ht,hdr⟩:=fin (fun c h=>by rw[hdi] at h;cases h;exact(congrArg notComma hc').trans rfl)
    clear hdi hc hc' hlt' hgi
  case' in2=>
   have hge:i=s.length:=by simp at hlt;omega
   obtain⟨ht,hdr⟩:=fin (fun c h=>by rw[List.getElem?_eq_none (by simp;omega)] at h;cases h)
   clear hge
  all_goals
   clear fin hlt
   rw[ht,hdr] at hrv
   conv=>whnf
   refine GDraw.calm (by kernel_rfl) ?_
   conv=>whnf
   refine⟨cN _,?_⟩
   conv=>whnf
   refine⟨cN _,?_⟩
   conv=>whnf
   refine⟨⟨by simpa using hi1,by simpa using hi2⟩,(s.drop n).take (i - n),by simp,?_⟩
   conv=>whnf
   have hl:((s.drop n).take (i - n)).length<=281474976710656:=by simp;omega
   have no:(∀v,Lib.atoiAll ((s.drop n).take (i - n))≠ .ok v)->(match Lib.atoiAll ((s.drop n).take (i - n)) with
     |.ok k=>if Lib.itoa k=(s.drop n).take (i - n) then some ((⟨1,k,[]⟩,s.drop i):Val×List UInt8) else none
     |_=>none)=none:=fun h=>by
    split
    ·rename_i v e;exact absurd e (h v)
    ·rfl
   generalize hw0:(s.drop n).take (i - n)=w0 at*
   by_cases hex:∃v,Lib.atoiAll w0=.ok v
   ·obtain⟨v,hv⟩:=hex
    obtain⟨lo,hi⟩:=atoi_lo hv
    have hrv1:rv (s.drop n)=if Lib.itoa v=w0 then some (⟨1,v,[]⟩,s.drop i) else none:=by rw[hrv,hv]
    refine callP (c_Atoi_ok w0 (by omega) v hv) (by first|exact wR _|exact wC (Wk.sl _ _) (wR _)|exact wC (Wk.sl _ _) (wC (Wk.sl _ _) (wR _))|exact wC (Wk.refl _) (wC (Wk.sl _ _) (wR _))) rfl (by first|exact fun _=>rfl|exact cA|exact cB fun _=>rfl) (by first|exact fun _=>rfl|exact cA|exact cB fun _=>rfl) ?_
    conv=>whnf
    refine GDraw.calm (by kernel_rfl) ?_
    conv=>whnf
    refine callP (c_Itoa v lo hi) (by first|exact wR _|exact wC (Wk.sl _ _) (wR _)|exact wC (Wk.sl _ _) (wC (Wk.sl _ _) (wR _))|exact wC (Wk.refl _) (wC (Wk.sl _ _) (wR _))) rfl (by first|exact fun _=>rfl|exact cA|exact cB fun _=>rfl) (by first|exact fun _=>rfl|exact cA|exact cB fun _=>rfl) ?_
    conv=>whnf
    refine⟨cN _,?_⟩
    conv=>whnf
    refine⟨cN _,?_⟩
    conv=>whnf
    refine⟨⟨by simpa using hi1,by simpa using hi2⟩,w0,by simpa using hw0.symm,?_⟩
    conv=>whnf
    refine GIf.mk (fun hne=>?_) (fun hne=>?_)<;>conv=>whnf
    ·exact OwesO.panics (by rw[hrv1,if_neg (by simpa using hne)];rfl)
    ·rw[if_pos (by simpa using hne)] at hrv1
     refine⟨_,⟨rfl,zL _,rfl,bL rfl⟩,?_⟩
     conv=>whnf
     refine OwesO.box (cs':=[.s s,.i .i64 i]) ?_ rfl (.refl _) (fun _=>rfl) (Val.cl ⟨1,v,[]⟩)
     rw[hrv1]
     show some (_,rdI s (s.length - (s.drop i).length))=_
     rw[show s.length - (s.drop i).length=i by simp;omega];rfl
   ·obtain⟨v,hv⟩:=c_Atoi_no w0 hl (fun v e=>hex ⟨v,e⟩)
    refine callP hv (by first|exact wR _|exact wC (Wk.sl _ _) (wR _)|exact wC (Wk.sl _ _) (wC (Wk.sl _ _) (wR _))|exact wC (Wk.refl _) (wC (Wk.sl _ _) (wR _))) rfl (by first|exact fun _=>rfl|exact cA|exact cB fun _=>rfl) (by first|exact fun _=>rfl|exact cA|exact cB fun _=>rfl) ?_
    conv=>whnf
    refine GDraw.calm (by kernel_rfl) ?_
    conv=>whnf
    exact OwesO.panics (by rw[hrv,no (fun v e=>hex ⟨v,e⟩)];rfl)
theorem c_HasPrefixL [MaxL] (l v:List UInt8):SC Tryz.prog 185 [.s l,.s v] [] (.val (.b (v.isPrefixOf l))) []:=by
 refine gwS Tryz.func185 rfl ?_
 conv=>whnf
 refine GIf.mk (fun h=>?_) (fun h=>?_)<;>conv=>whnf
 ·have h1:v.length<=l.length:=by simp at h;omega
  refine⟨cN _,⟨zL _,by simpa using h1⟩,l.take v.length,by simp,?_⟩
  conv=>whnf
  refine owes_b ?_
  rw[Bool.eq_iff_iff]
  simp[List.isPrefixOf_iff_prefix,List.prefix_iff_eq_take]
  exact eq_comm
 ·refine owes_b ?_
  have:¬v<+:l:=fun hp=>by have:=hp.length_le;simp at h;omega
  rw[eq_comm,<-Bool.not_eq_true,List.isPrefixOf_iff_prefix];exact this
theorem c_HasPrefix [MaxL] (l v:List UInt8):SC Tryz.prog 244 [.s l,.s v] [] (.val (.b (v.isPrefixOf l))) []:=by
 refine gwS Tryz.func244 rfl ?_
 conv=>whnf
 refine callP (c_HasPrefixL l v) (by first|exact wR _|exact wC (Wk.sl _ _) (wR _)|exact wC (Wk.sl _ _) (wC (Wk.sl _ _) (wR _))|exact wC (Wk.refl _) (wC (Wk.sl _ _) (wR _))) rfl (by first|exact fun _=>rfl|exact cA|exact cB fun _=>rfl) (by first|exact fun _=>rfl|exact cA|exact cB fun _=>rfl) ?_
 conv=>whnf
 exact owes_b rfl
def rd (s:List UInt8) (n:Nat) (d:Int):GObj:=.box 272 [.s s,.i .i64 n,.i .i64 d]
def nb (s:List UInt8) (n:Nat):Nat:=n+((s.drop n).takeWhile (· ==32)).length
theorem nb_no {s:List UInt8} {n:Nat} (h:∀b,s[n]?=some b->b≠32):nb s n=n:=by
 unfold nb
 cases hd:s.drop n with
 |nil=>rfl
 |cons b t=>
  have:s[n]?=some b:=by rw[<-List.head?_drop,hd];rfl
  have:=h b this
  simp[this]
theorem nb_yes {s:List UInt8} {n:Nat} (h:s[n]?=some 32):nb s n=nb s (n+1):=by
 unfold nb
 obtain⟨hn,h1⟩:=List.getElem?_eq_some_iff.1 h
 rw[List.drop_eq_getElem_cons hn,List.takeWhile_cons,h1]
 simp;omega
theorem c_blanks [MaxL] (s:List UInt8) (n:Nat) (d:Int) (hn:n<=s.length) (hs:s.length<most):
  SC Tryz.prog 243 [.ptr 0 0] [rd s n d] (.val (.tup [])) [rd s (nb s n) d]:=by
 unfold most at hs
 refine gwS Tryz.func243 rfl ?_
 conv=>whnf
 refine GLoop.intro (fun i:Nat=>i<=s.length/\nb s i=nb s n) (fun i=>[(0,.ptr 0 0)]) (fun i=>⟨[rd s i d],0,[]⟩) (fun i=>s.length - i) n ⟨hn,rfl⟩ ⟨rfl,trivial⟩ rfl (fun i φ0 hi=>?_)
 conv=>whnf
 refine GDraw.calm (by kernel_rfl) ?_
 conv=>whnf
 refine GIf.mk (fun h=>?_) (fun h=>?_)<;>conv=>whnf
 ·have hlt:i<s.length:=by simp at h;omega
  refine⟨cN _,s[i],by simp,?_⟩
  conv=>whnf
  refine GIf.mk (fun hb=>?_) (fun hb=>?_)<;>conv=>whnf
  ·have hb':s[i]?=some 32:=by rw[gL hlt,u8_eq (d:=32) hb]
   refine⟨[.i .i64 (i+1:Nat)],⟨cells_succ (by omega),rL _,rfl,bL rfl⟩,?_⟩
   conv=>whnf
   exact GLoop.next (i+1) ⟨hlt,by rw[<-hi.2,nb_yes hb']⟩ (by omega) ⟨rfl,trivial⟩ rfl
  ·have hb':=u8_ne (d:=32) hb
   have:nb s i=i:=nb_no fun b hb2=>by rw[gL hlt] at hb2;cases hb2;exact hb'
   rw[<-hi.2,this]
   exact owesB rfl (.refl _) (fun _=>rfl) (fun _=>rfl)
 ·have:nb s i=i:=nb_no fun b hb2=>by
   have:=(List.getElem?_eq_some_iff.1 hb2).1
   simp at h;omega
  rw[<-hi.2,this]
  exact owesB rfl (.refl _) (fun _=>rfl) (fun _=>rfl)
end Go.Proofs.YtldggonlkafckaaGreatDoor
