/-
  A part of the proof of SchemaFinds.
-/
import Derived.Test.YtcfgfkkhpdlhpaaGreatDoorT26
set_option linter.all false
set_option maxRecDepth 100000
namespace Go.Proofs.YtcfgfkkhpdlhpaaGreatDoor
open Go.RowKit
theorem wW [MaxL] {d:TypeDesc} {w:List UInt8} (hd:∀a b,AE d (.s a) (.s b)=some (a==b)):∀{es:List (GV×GV)} {i:Nat},(∀e∈es,∃l,e.1=.s l/\l≠w)->nO d (.s w) es i=some none
 |[],i,h=>rfl
 |e::es,i,h=>by
  obtain⟨l,hl,hne⟩:=h e (by simp);obtain⟨e1,e2⟩:=e;replace hl:e1=.s l:=hl;subst hl;have ih:=wW hd (es:=es) (i:=i+1) (fun q hq=>h q (by simp[hq]));unfold nO;rw[hd,show(w==l)=false from beq_eq_false_iff_ne.2 (j7 hne)];exact ih
theorem QF [MaxL] (s:List UInt8) (lv n d:Nat):SC Tryz.prog 343 [.ptr 0 0,.i .i64 lv] [rd s n d] (.val (Tree.truth true).gv) [rd s n d]:=by
 refine cZ Tryz.func343 rfl ?_;conv=>whnf
 exact gC rfl (.refl _) (fun _=>rfl) (fun _=>rfl)
theorem QE [MaxL] (s:List UInt8) (lv n d:Nat):SC Tryz.prog 344 [.ptr 0 0,.i .i64 lv] [rd s n d] (.val (Tree.truth false).gv) [rd s n d]:=by
 refine cZ Tryz.func344 rfl ?_;conv=>whnf
 exact gC rfl (.refl _) (fun _=>rfl) (fun _=>rfl)
def P6 (s:List UInt8) (o:Option (Tree×Nat×Nat)) (ts:List (List UInt8)):Option (Tree×Nat×Nat):=match o with
 |some (t,m,e)=>if ts.headD []=[41] then some (t,nb s m+1,e) else none
 |none=>none
theorem SO [MaxL] (s:List UInt8) (hs:s.length<bH) (lv n d:Nat) (hlv:lv<1000000) (fin:Option (Tree×Nat×Nat)) (ts:List (List UInt8)) (hA:∀t m e,fin=some (t,m,e)->At s m ts)
  (hc:Ct Tryz.prog 257 [.ptr 0 0,.i .i64 (lv+1:Nat)] (rd s n (max d (lv+1):Nat)) gO (rS s fin)):
  Ct Tryz.prog 345 [.ptr 0 0,.i .i64 lv] (rd s n d) gO (rS s (P6 s fin ts)):=by
 refine gS oY mixed Tryz.func345 rfl (bL rfl) (fun _=>rfl) ?hh ?_
 case hh=>exact n8 s _
 conv=>whnf
 refine⟨[.i .i64 (max d (lv+1):Nat)],⟨J4 hlv,zL _,rfl,bL rfl⟩,?_⟩;conv=>whnf
 have e:GV.i .i64 (IntKind.i64.wrap ((lv:Int)+1))=.i .i64 ((lv+1:Nat):Int):=by rw[DK hlv]
 cases fin with
 |none=>
  replace hc:SC Tryz.prog 257 [.ptr 0 0,.i .i64 (lv+1:Nat)] [rd s n (max d (lv+1):Nat)] (.panic gO) [.dead]:=hc;rw[<-e] at hc;refine m5 (q:=0) hc rfl (wR _) rfl rfl (fun _=>rfl) (fun _=>rfl) (fun _=>rfl) ?_;conv=>whnf
  exact j0 rfl
 |some p=>
  obtain⟨t,m,ee⟩:=p;replace hc:SC Tryz.prog 257 [.ptr 0 0,.i .i64 (lv+1:Nat)] [rd s n (max d (lv+1):Nat)] (.val t.gv) [rd s m ee]:=hc;rw[<-e] at hc;have hA':=hA _ _ _ rfl;refine aW (q:=0) hc rfl (wR _) rfl rfl (fun _=>rfl) (fun _=>rfl) (fun _=>rfl) t.cl ?_;conv=>whnf
  by_cases hh:ts.headD []=[41]
  ·obtain⟨r,rfl⟩:=fY hh (by decide);refine rQ (q:=0) (t6 s m ee hA' hs) ?_;(conv=>whnf);refine gE ?_ rfl (.refl _) (fun _=>rfl) t.cl;show rS s (if[41]=[41] then _ else none)=_;rw[aG rfl];rfl
  ·skip;refine rQ (q:=0) (DM s m ee hA' hs hh) ?_;(conv=>whnf);refine bW ?_;show rS s (if ts.headD []=[41] then _ else none)=none;rw[aE hh];rfl
theorem a0Q [MaxL] (s:List UInt8) (hs:s.length<bH) (lv n d:Nat) {ts:List (List UInt8)} (h:At s n ([116,114,117,101]::ts)) (fin:Option (Tree×Nat×Nat))
  (hc:Ct Tryz.prog 343 [.ptr 0 0,.i .i64 lv] (rd s (nb s n+([116,114,117,101]:List UInt8).length) d) gO (rS s fin)):
  Ct Tryz.prog 327 [.ptr 0 0,.i .i64 lv] (rd s n d) gO (rS s fin):=by
 have hl2:=h.tail.2.1;have hm:=hs;unfold bH at hs;refine gS oY mixed Tryz.func327 rfl (bL rfl) (fun _=>rfl) ?hh ?_
 case hh=>exact n8 s _
 conv=>whnf
 refine rQ (q:=0) (l6 s n d h hm) ?_;conv=>whnf
 refine sS oA jL rfl rfl dM kR ?_;conv=>whnf
 refine⟨some (0,.fn (.func 343) [] []),rfl,?_⟩;conv=>whnf
 have hst:[GV.i .i64 ((nb s n+([116,114,117,101]:List UInt8).length:Nat):Int)]=(GV.i .i64 (IntKind.i64.wrap ((nb s n:Int)+(([116,114,117,101]:List UInt8).length:Int)))).cells:=by rw[cD (by omega) (by omega)];rfl
 refine⟨[.i .i64 (nb s n+([116,114,117,101]:List UInt8).length:Nat)],⟨hst,zL _,rfl,bL rfl⟩,?_⟩;conv=>whnf
 cases fin with
 |none=>
  replace hc:SC Tryz.prog 343 [.ptr 0 0,.i .i64 lv] [rd s (nb s n+([116,114,117,101]:List UInt8).length:Nat) d] (.panic gO) [.dead]:=hc;refine m5 (q:=0) hc rfl (by first|exact wR _|exact wC (bE _ _) (wR _)|exact wC (bE _ _) (wC (bE _ _) (wR _))|exact wC (cY _) (wC (bE _ _) (wR _))) rfl rfl (by first|exact fun _=>rfl|exact cA|exact cB fun _=>rfl) (by first|exact fun _=>rfl|exact cA|exact cB fun _=>rfl) (by first|exact fun _=>rfl|exact cA|exact cB fun _=>rfl) ?_;conv=>whnf
  exact j0 rfl
 |some p=>
  replace hc:SC Tryz.prog 343 [.ptr 0 0,.i .i64 lv] [rd s (nb s n+([116,114,117,101]:List UInt8).length:Nat) d] (.val p.1.gv) [rd s p.2.1 p.2.2]:=hc;refine aW (q:=0) hc rfl (wR _) rfl rfl (fun _=>rfl) (fun _=>rfl) (fun _=>rfl) (Tree.cl _) ?_;conv=>whnf
  exact gE rfl rfl (.refl _) (fun _=>rfl) (Tree.cl _)
theorem a0P [MaxL] (s:List UInt8) (hs:s.length<bH) (lv n d:Nat) {ts:List (List UInt8)} (h:At s n ([102,97,108,115,101]::ts)) (fin:Option (Tree×Nat×Nat))
  (hc:Ct Tryz.prog 344 [.ptr 0 0,.i .i64 lv] (rd s (nb s n+([102,97,108,115,101]:List UInt8).length) d) gO (rS s fin)):
  Ct Tryz.prog 327 [.ptr 0 0,.i .i64 lv] (rd s n d) gO (rS s fin):=by
 have hl2:=h.tail.2.1;have hm:=hs;unfold bH at hs;refine gS oY mixed Tryz.func327 rfl (bL rfl) (fun _=>rfl) ?hh ?_
 case hh=>exact n8 s _
 conv=>whnf
 refine rQ (q:=0) (l6 s n d h hm) ?_;conv=>whnf
 refine sS oA jL rfl rfl dM kR ?_;conv=>whnf
 refine⟨some (1,.fn (.func 344) [] []),rfl,?_⟩;conv=>whnf
 have hst:[GV.i .i64 ((nb s n+([102,97,108,115,101]:List UInt8).length:Nat):Int)]=(GV.i .i64 (IntKind.i64.wrap ((nb s n:Int)+(([102,97,108,115,101]:List UInt8).length:Int)))).cells:=by rw[cD (by omega) (by omega)];rfl
 refine⟨[.i .i64 (nb s n+([102,97,108,115,101]:List UInt8).length:Nat)],⟨hst,zL _,rfl,bL rfl⟩,?_⟩;conv=>whnf
 cases fin with
 |none=>
  replace hc:SC Tryz.prog 344 [.ptr 0 0,.i .i64 lv] [rd s (nb s n+([102,97,108,115,101]:List UInt8).length:Nat) d] (.panic gO) [.dead]:=hc;refine m5 (q:=0) hc rfl (by first|exact wR _|exact wC (bE _ _) (wR _)|exact wC (bE _ _) (wC (bE _ _) (wR _))|exact wC (cY _) (wC (bE _ _) (wR _))) rfl rfl (by first|exact fun _=>rfl|exact cA|exact cB fun _=>rfl) (by first|exact fun _=>rfl|exact cA|exact cB fun _=>rfl) (by first|exact fun _=>rfl|exact cA|exact cB fun _=>rfl) ?_;conv=>whnf
  exact j0 rfl
 |some p=>
  replace hc:SC Tryz.prog 344 [.ptr 0 0,.i .i64 lv] [rd s (nb s n+([102,97,108,115,101]:List UInt8).length:Nat) d] (.val p.1.gv) [rd s p.2.1 p.2.2]:=hc;refine aW (q:=0) hc rfl (wR _) rfl rfl (fun _=>rfl) (fun _=>rfl) (fun _=>rfl) (Tree.cl _) ?_;conv=>whnf
  exact gE rfl rfl (.refl _) (fun _=>rfl) (Tree.cl _)
theorem SN [MaxL] (s:List UInt8) (hs:s.length<bH) (lv n d:Nat) {ts:List (List UInt8)} (h:At s n ([40]::ts)) (fin:Option (Tree×Nat×Nat))
  (hc:Ct Tryz.prog 345 [.ptr 0 0,.i .i64 lv] (rd s (nb s n+([40]:List UInt8).length) d) gO (rS s fin)):
  Ct Tryz.prog 327 [.ptr 0 0,.i .i64 lv] (rd s n d) gO (rS s fin):=by
 have hl2:=h.tail.2.1;have hm:=hs;unfold bH at hs;refine gS oY mixed Tryz.func327 rfl (bL rfl) (fun _=>rfl) ?hh ?_
 case hh=>exact n8 s _
 conv=>whnf
 refine rQ (q:=0) (l6 s n d h hm) ?_;conv=>whnf
 refine sS oA jL rfl rfl dM kR ?_;conv=>whnf
 refine⟨some (2,.fn (.func 345) [] []),rfl,?_⟩;conv=>whnf
 have hst:[GV.i .i64 ((nb s n+([40]:List UInt8).length:Nat):Int)]=(GV.i .i64 (IntKind.i64.wrap ((nb s n:Int)+(([40]:List UInt8).length:Int)))).cells:=by rw[cD (by omega) (by omega)];rfl
 refine⟨[.i .i64 (nb s n+([40]:List UInt8).length:Nat)],⟨hst,zL _,rfl,bL rfl⟩,?_⟩;conv=>whnf
 cases fin with
 |none=>
  replace hc:SC Tryz.prog 345 [.ptr 0 0,.i .i64 lv] [rd s (nb s n+([40]:List UInt8).length:Nat) d] (.panic gO) [.dead]:=hc;refine m5 (q:=0) hc rfl (by first|exact wR _|exact wC (bE _ _) (wR _)|exact wC (bE _ _) (wC (bE _ _) (wR _))|exact wC (cY _) (wC (bE _ _) (wR _))) rfl rfl (by first|exact fun _=>rfl|exact cA|exact cB fun _=>rfl) (by first|exact fun _=>rfl|exact cA|exact cB fun _=>rfl) (by first|exact fun _=>rfl|exact cA|exact cB fun _=>rfl) ?_;conv=>whnf
  exact j0 rfl
 |some p=>
  replace hc:SC Tryz.prog 345 [.ptr 0 0,.i .i64 lv] [rd s (nb s n+([40]:List UInt8).length:Nat) d] (.val p.1.gv) [rd s p.2.1 p.2.2]:=hc;refine aW (q:=0) hc rfl (wR _) rfl rfl (fun _=>rfl) (fun _=>rfl) (fun _=>rfl) (Tree.cl _) ?_;conv=>whnf
  exact gE rfl rfl (.refl _) (fun _=>rfl) (Tree.cl _)
theorem qL (a b:List UInt8):AE .string (.s a) (.s b)=some (a==b):=rfl
theorem Y7 [MaxL] (s:List UInt8) (hs:s.length<=20000) (lv n d:Nat) {ts:List (List UInt8)} (h:At s n ts) (h1:ts.headD []≠l8) (h2:ts.headD []≠jU) (h3:ts.headD []≠[40]):
  ∃m,(∀t r e,bP cL 1 .prim lv d ts=some (t,r,e)->At s m r)/\Ct Tryz.prog 327 [.ptr 0 0,.i .i64 lv] (rd s n d) gO (rS s ((bP cL 1 .prim lv d ts).map fun p=>(p.1,m,p.2.2))):=by
 have hm:s.length<bH:=by unfold bH;omega
 have hfr:nO .string (.s (ts.headD [])) xK 0=some none:=wW qL (fun e he=>by
  simp only[xK,List.mem_cons,List.not_mem_nil,or_false] at he;rcases he with rfl|rfl|rfl
  ·exact⟨_,rfl,j7 h1⟩
  ·exact⟨_,rfl,j7 h2⟩
  ·exact⟨_,rfl,j7 h3⟩)
 have ht:=QC s hs d ts (nb s n) h.nb;unfold y6 at ht;cases hT:gB cL ts with
 |none=>
  rw[hT] at ht;have hp:bP cL 1 .prim lv d ts=none:=by unfold bP;rw[aE h1,aE h2,aE h3,hT]
  rw[hp];refine⟨0,(fun t r e h=>by cases h),?_⟩;refine gS oY mixed Tryz.func327 rfl (bL rfl) (fun _=>rfl) ?hh ?_
  case hh=>rfl
  conv=>whnf
  refine rQ (q:=0) (l6 s n d h hm) ?_;conv=>whnf
  refine sS oA jL rfl rfl dM kR ?_;conv=>whnf
  refine⟨none,hfr,?_⟩;conv=>whnf
  refine m5 (q:=0) ht rfl (by first|exact wR _|exact wC (bE _ _) (wR _)|exact wC (bE _ _) (wC (bE _ _) (wR _))|exact wC (cY _) (wC (bE _ _) (wR _))) rfl rfl (by first|exact fun _=>rfl|exact cA|exact cB fun _=>rfl) (by first|exact fun _=>rfl|exact cA|exact cB fun _=>rfl) (by first|exact fun _=>rfl|exact cA|exact cB fun _=>rfl) ?_;conv=>whnf
  exact j0 rfl
 |some p=>
  obtain⟨a,r⟩:=p;rw[hT] at ht;obtain⟨m1,hA1,hc1⟩:=ht;replace hA1:At s m1 r:=hA1;replace hc1:SC Tryz.prog 337 [.ptr 0 0] [rd s (nb s n) d] (.val a.gv) [rd s m1 d]:=hc1;cases hrel:mU (r.headD []) with
  |false=>
   have hp:bP cL 1 .prim lv d ts=none:=by unfold bP;rw[aE h1,aE h2,aE h3,hT];simp only[hrel];rfl
   rw[hp];refine⟨0,(fun t r e h=>by cases h),?_⟩;have hfl:nO .string (.s (r.headD [])) OY 0=some none:=wW qL (fun e he=>by
    simp only[mU,TC,List.contains_eq_mem,bM,List.mem_cons,List.not_mem_nil,or_false,not_or] at hrel;simp only[OY,List.mem_cons,List.not_mem_nil,or_false] at he;rcases he with rfl|rfl|rfl|rfl|rfl|rfl
    ·exact⟨_,rfl,j7 hrel.1⟩
    ·exact⟨_,rfl,j7 hrel.2.1⟩
    ·exact⟨_,rfl,j7 hrel.2.2.1⟩
    ·exact⟨_,rfl,j7 hrel.2.2.2.1⟩
    ·exact⟨_,rfl,j7 hrel.2.2.2.2.1⟩
    ·exact⟨_,rfl,j7 hrel.2.2.2.2.2⟩)
   refine gS oY mixed Tryz.func327 rfl (bL rfl) (fun _=>rfl) ?hh ?_
   case hh=>rfl
   (conv=>whnf);refine rQ (q:=0) (l6 s n d h hm) ?_;(conv=>whnf);refine sS oA jL rfl rfl dM kR ?_;(conv=>whnf);refine⟨none,hfr,?_⟩;(conv=>whnf);refine rQ (q:=0) hc1 ?_;(conv=>whnf);refine⟨_,⟨rfl,zL _,rfl,bL rfl⟩,?_⟩;(conv=>whnf);refine rQ (q:=0) (l6 s m1 d hA1 hm) ?_;(conv=>whnf);refine sS xA jL rfl rfl dM zV ?_;(conv=>whnf);refine⟨none,hfl,?_⟩;(conv=>whnf);exact bW rfl
  |true=>
   obtain⟨op,r2,rfl⟩:∃op r2,r=op::r2:=by
    cases r with
    |nil=>cases hrel
    |cons op r2=>exact⟨_,_,rfl⟩
   replace hrel:mU op=true:=hrel;obtain⟨qi,qk,hfl⟩:∃j k,nO .string (.s op) OY 0=some (some (j,.fn (.func k) [] [])):=by
    simp only[mU,TC,List.contains_eq_mem,aL,List.mem_cons,List.not_mem_nil,or_false] at hrel;rcases hrel with rfl|rfl|rfl|rfl|rfl|rfl<;>exact⟨_,_,rfl⟩
   have htl:=hA1.tail;have hl2:=htl.2.1;have ht2:=QC s hs d r2 _ htl.2;unfold y6 at ht2;have hst:[GV.i .i64 ((nb s m1+op.length:Nat):Int)]=(GV.i .i64 (IntKind.i64.wrap ((nb s m1:Int)+(op.length:Int)))).cells:=by rw[cD (by omega) (by omega)];rfl
   cases hT2:gB cL r2 with
   |none=>
    rw[hT2] at ht2;have hp:bP cL 1 .prim lv d ts=none:=by unfold bP;rw[aE h1,aE h2,aE h3,hT];show(if mU op=true then _ else _)=_;rw[aG hrel];show(match gB cL r2 with|some (b,r')=>_|none=>_)=_;rw[hT2]
    rw[hp];refine⟨0,(fun t r e h=>by cases h),?_⟩;refine gS (onM [337]) mixed Tryz.func327 rfl (bL rfl) (fun _=>rfl) ?hh ?_
    case hh=>rfl
    (conv=>whnf);refine rQ (q:=0) (l6 s n d h hm) ?_;(conv=>whnf);refine sS oA jL rfl rfl dM kR ?_;(conv=>whnf);refine⟨none,hfr,?_⟩;(conv=>whnf);refine rQ (q:=0) hc1 ?_;(conv=>whnf);refine⟨_,⟨rfl,zL _,rfl,bL rfl⟩,?_⟩;(conv=>whnf);refine rQ (q:=0) (l6 s m1 d hA1 hm) ?_;(conv=>whnf);refine sS xA jL rfl rfl dM zV ?_;(conv=>whnf);refine⟨some (qi,.fn (.func qk) [] []),hfl,?_⟩;(conv=>whnf);refine⟨[.i .i64 (nb s m1+op.length:Nat)],⟨hst,zL _,rfl,bL rfl⟩,?_⟩;(conv=>whnf);refine GDraw.pan 3 _ rfl (by kernel_rfl) ?_;(conv=>whnf);refine m5 (q:=0) ht2 rfl (by first|exact wR _|exact wC (bE _ _) (wR _)|exact wC (bE _ _) (wC (bE _ _) (wR _))|exact wC (cY _) (wC (bE _ _) (wR _))) rfl rfl (by first|exact fun _=>rfl|exact cA|exact cB fun _=>rfl) (by first|exact fun _=>rfl|exact cA|exact cB fun _=>rfl) (by first|exact fun _=>rfl|exact cA|exact cB fun _=>rfl) ?_;(conv=>whnf);exact j0 rfl
   |some p2=>
    obtain⟨b,r'⟩:=p2;rw[hT2] at ht2;obtain⟨m2,hA2,hc2⟩:=ht2;replace hA2:At s m2 r':=hA2;replace hc2:SC Tryz.prog 337 [.ptr 0 0] [rd s (nb s m1+op.length:Nat) d] (.val b.gv) [rd s m2 d]:=hc2;have hp:bP cL 1 .prim lv d ts=some (.test op a b,r',d):=by unfold bP;rw[aE h1,aE h2,aE h3,hT];show(if mU op=true then _ else _)=_;rw[aG hrel];show(match gB cL r2 with|some (b,r')=>_|none=>_)=_;rw[hT2];rfl
    rw[hp];refine⟨m2,(fun t r e h=>by cases h;exact hA2),?_⟩;refine gS (onM [337]) mixed Tryz.func327 rfl (bL rfl) (fun _=>rfl) ?hh ?_
    case hh=>rfl
    (conv=>whnf);refine rQ (q:=0) (l6 s n d h hm) ?_;(conv=>whnf);refine sS oA jL rfl rfl dM kR ?_;(conv=>whnf);refine⟨none,hfr,?_⟩;(conv=>whnf);refine rQ (q:=0) hc1 ?_;(conv=>whnf);refine⟨_,⟨rfl,zL _,rfl,bL rfl⟩,?_⟩;(conv=>whnf);refine rQ (q:=0) (l6 s m1 d hA1 hm) ?_;(conv=>whnf);refine sS xA jL rfl rfl dM zV ?_;(conv=>whnf);refine⟨some (qi,.fn (.func qk) [] []),hfl,?_⟩;(conv=>whnf);refine⟨[.i .i64 (nb s m1+op.length:Nat)],⟨hst,zL _,rfl,bL rfl⟩,?_⟩;(conv=>whnf);refine GDraw.wild _ _ _ rfl rfl rfl (by kernel_rfl) ?_;(conv=>whnf);refine rQ (q:=0) hc2 ?_;(conv=>whnf);exact gE rfl rfl (.refl _) (fun _=>rfl) (Tree.cl _)
theorem yC {lit:By->Option Val} {f:Nat} {m:Md} {lv d:Nat} {ts r:List By} {t:Tree} {e:Nat} (h:bP lit f m lv d ts=some (t,r,e)):r.length<=ts.length:=(j3 f m lv d ts r t e h).1
def a0c [MaxL] (s:List UInt8) (f:Nat):Prop:=∀(lv d n:Nat) (ts:List (List UInt8)),At s n ts->lv+ts.length<900000->
 (10*ts.length+4<f->∃m,(∀t r e,bP cL f .or lv d ts=some (t,r,e)->At s m r/\nb s m=m)/\Ct Tryz.prog 257 [.ptr 0 0,.i .i64 lv] (rd s n d) gO (rS s ((bP cL f .or lv d ts).map fun p=>(p.1,m,p.2.2))))/\
 (10*ts.length+3<f->∃m,(∀t r e,bP cL f .and lv d ts=some (t,r,e)->At s m r)/\Ct Tryz.prog 294 [.ptr 0 0,.i .i64 lv] (rd s n d) gO (rS s ((bP cL f .and lv d ts).map fun p=>(p.1,m,p.2.2))))/\
 (10*ts.length+2<f->∃m,(∀t r e,bP cL f .not lv d ts=some (t,r,e)->At s m r)/\Ct Tryz.prog 317 [.ptr 0 0,.i .i64 lv] (rd s n d) gO (rS s ((bP cL f .not lv d ts).map fun p=>(p.1,m,p.2.2))))/\
 (10*ts.length+1<f->∃m,(∀t r e,bP cL f .prim lv d ts=some (t,r,e)->At s m r)/\Ct Tryz.prog 327 [.ptr 0 0,.i .i64 lv] (rd s n d) gO (rS s ((bP cL f .prim lv d ts).map fun p=>(p.1,m,p.2.2))))
theorem a2k (s:List UInt8) (n:Nat):nb s (nb s n)=nb s n:=by
 have h:=E9 s n;show nb s n+((s.drop (nb s n)).takeWhile (· ==32)).length=nb s n;rw[h];have:∀l:List UInt8,((skip l).takeWhile (· ==32)).length=0:=by
  intro l;induction l with
  |nil=>rfl
  |cons c t ih=>
   unfold skip at*;rw[List.dropWhile_cons];split
   ·exact ih
   ·rename_i hc;rw[eU,aE hc];rfl
 rw[this];rfl
theorem a0r [MaxL] (s:List UInt8) (F:Nat) (IH:∀f,f<=F->a0c s f):∀(f:Nat) (t:Tree) (lv d n:Nat) (ts:List (List UInt8)),f<=F->At s n ts->lv+ts.length<900000->10*ts.length<f->
  ∃m j,(∀t' r e,bP cL f (.orL t) lv d ts=some (t',r,e)->At s m r/\nb s m=m)/\Lp s 294 AY false lv j t n d ((bP cL f (.orL t) lv d ts).map fun p=>(p.1,m,p.2.2))
 |0,t,lv,d,n,ts,hf,h,hb,hk=>by omega
 |f+1,t,lv,d,n,ts,hf,h,hb,hk=>by
  by_cases hw:ts.headD []=AY
  ·obtain⟨r,rfl⟩:=fY hw (by decide);simp only[aJ] at hb hk;obtain⟨_,ia,_⟩:=IH f (by omega) lv d (nb s n+AY.length) r h.tail.2 (by omega);obtain⟨m1,hm1,hc1⟩:=ia (by omega);cases hp:bP cL f .and lv d r with
   |none=>
    rw[hp] at hc1;have e:bP cL (f+1) (.orL t) lv d (AY::r)=none:=by
     conv=>lhs;unfold bP
     rw[aG hw];show(match bP cL f .and lv d r with|some (m,r,e)=>_|none=>_)=_;rw[hp]
    rw[e];exact⟨0,0,(fun _ _ _ h=>by cases h),.bad h hc1⟩
   |some p=>
    obtain⟨t1,r1,e1⟩:=p;rw[hp] at hc1;have e:bP cL (f+1) (.orL t) lv d (AY::r)=bP cL f (.orL (.pair false t t1)) lv e1 r1:=by
     conv=>lhs;unfold bP
     rw[aG hw];show(match bP cL f .and lv d r with|some (m,r,e)=>_|none=>_)=_;rw[hp]
    have hlen:=yC hp;obtain⟨m2,j,hm2,hl⟩:=a0r s F IH f (.pair false t t1) lv e1 m1 r1 (by omega) (hm1 _ _ _ hp) (by omega) (by omega);rw[e];exact⟨m2,j+1,hm2,.step h hc1 hl⟩
  ·have e:bP cL (f+1) (.orL t) lv d ts=some (t,ts,d):=by
    conv=>lhs;unfold bP
    rw[aE hw]
   rw[e];exact⟨nb s n,0,(fun _ _ _ h'=>by cases h';exact⟨h.nb,a2k s n⟩),.stop h hw⟩
theorem X5 [MaxL] (s:List UInt8) (F:Nat) (IH:∀f,f<=F->a0c s f):∀(f:Nat) (t:Tree) (lv d n:Nat) (ts:List (List UInt8)),f<=F->At s n ts->lv+ts.length<900000->10*ts.length<f->
  ∃m j,(∀t' r e,bP cL f (.andL t) lv d ts=some (t',r,e)->At s m r)/\Lp s 317 nC true lv j t n d ((bP cL f (.andL t) lv d ts).map fun p=>(p.1,m,p.2.2))
 |0,t,lv,d,n,ts,hf,h,hb,hk=>by omega
 |f+1,t,lv,d,n,ts,hf,h,hb,hk=>by
  by_cases hw:ts.headD []=nC
  ·obtain⟨r,rfl⟩:=fY hw (by decide);simp only[aJ] at hb hk;obtain⟨_,_,ia,_⟩:=IH f (by omega) lv d (nb s n+nC.length) r h.tail.2 (by omega);obtain⟨m1,hm1,hc1⟩:=ia (by omega);cases hp:bP cL f .not lv d r with
   |none=>
    rw[hp] at hc1;have e:bP cL (f+1) (.andL t) lv d (nC::r)=none:=by
     conv=>lhs;unfold bP
     rw[aG hw];show(match bP cL f .not lv d r with|some (m,r,e)=>_|none=>_)=_;rw[hp]
    rw[e];exact⟨0,0,(fun _ _ _ h=>by cases h),.bad h hc1⟩
   |some p=>
    obtain⟨t1,r1,e1⟩:=p;rw[hp] at hc1;have e:bP cL (f+1) (.andL t) lv d (nC::r)=bP cL f (.andL (.pair true t t1)) lv e1 r1:=by
     conv=>lhs;unfold bP
     rw[aG hw];show(match bP cL f .not lv d r with|some (m,r,e)=>_|none=>_)=_;rw[hp]
    have hlen:=yC hp;obtain⟨m2,j,hm2,hl⟩:=X5 s F IH f (.pair true t t1) lv e1 m1 r1 (by omega) (hm1 _ _ _ hp) (by omega) (by omega);rw[e];exact⟨m2,j+1,hm2,.step h hc1 hl⟩
  ·have e:bP cL (f+1) (.andL t) lv d ts=some (t,ts,d):=by
    conv=>lhs;unfold bP
    rw[aE hw]
   rw[e];exact⟨nb s n,0,(fun _ _ _ h'=>by cases h';exact h.nb),.stop h hw⟩
