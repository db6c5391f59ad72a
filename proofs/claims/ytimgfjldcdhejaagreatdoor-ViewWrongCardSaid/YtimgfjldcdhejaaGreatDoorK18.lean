/- Part of ViewWrong. -/
import Derived.Test.YtimgfjldcdhejaaGreatDoorK17
set_option linter.all false
set_option maxRecDepth 100000
namespace Go.Proofs.YtimgfjldcdhejaaGreatDoor
open Go.RowKit
theorem x7 [MaxL] {d:TypeDesc} {w:List UInt8} (hd:∀a b,BT d (.s a) (.s b)=some (a==b)):∀{es:List (GV×GV)} {i:Nat},(∀e∈es,∃l,e.1=.s l/\l≠w)->mK d (.s w) es i=some none
 |[],i,h=>rfl
 |e::es,i,h=>by
  obtain⟨l,hl,hne⟩:=h e (by simp);obtain⟨e1,e2⟩:=e;replace hl:e1=.s l:=hl;subst hl;have ih:=x7 hd (es:=es) (i:=i+1) (fun q hq=>h q (by simp[hq]));unfold mK;rw[hd,show(w==l)=false from beq_eq_false_iff_ne.2 (Ne.symm hne)];exact ih
theorem VS [MaxL] (s:List UInt8) (lv n d:Nat):SC Tryz.prog 326 [.ptr 0 0,.i .i64 lv] [rd s n d] (.val (Tree.truth true).gv) [rd s n d]:=by
 refine cO Tryz.func326 rfl ?_;conv=>whnf
 exact jU rfl (.refl _) (fun _=>rfl) (fun _=>rfl)
theorem VQ [MaxL] (s:List UInt8) (lv n d:Nat):SC Tryz.prog 327 [.ptr 0 0,.i .i64 lv] [rd s n d] (.val (Tree.truth false).gv) [rd s n d]:=by
 refine cO Tryz.func327 rfl ?_;conv=>whnf
 exact jU rfl (.refl _) (fun _=>rfl) (fun _=>rfl)
def UE (s:List UInt8) (o:Option (Tree×Nat×Nat)) (ts:List (List UInt8)):Option (Tree×Nat×Nat):=match o with
 |some (t,m,e)=>if ts.headD []=[41] then some (t,nb s m+1,e) else none
 |none=>none
theorem Y8 [MaxL] (s:List UInt8) (hs:s.length<b9) (lv n d:Nat) (hlv:lv<1000000) (fin:Option (Tree×Nat×Nat)) (ts:List (List UInt8)) (hA:∀t m e,fin=some (t,m,e)->At s m ts)
  (hc:Ct Tryz.prog 248 [.ptr 0 0,.i .i64 (lv+1:Nat)] (rd s n (max d (lv+1):Nat)) gX (uS s fin)):
  Ct Tryz.prog 328 [.ptr 0 0,.i .i64 lv] (rd s n d) gX (uS s (UE s fin ts)):=by
 refine jN oP mixed Tryz.func328 rfl (bL rfl) (fun _=>rfl) ?hh ?_
 case hh=>exact oL s _
 conv=>whnf
 refine⟨[.i .i64 (max d (lv+1):Nat)],⟨NG hlv,zL _,rfl,bL rfl⟩,?_⟩;conv=>whnf
 have e:GV.i .i64 (IntKind.i64.wrap ((lv:Int)+1))=.i .i64 ((lv+1:Nat):Int):=by rw[H6 hlv]
 cases fin with
 |none=>
  replace hc:SC Tryz.prog 248 [.ptr 0 0,.i .i64 (lv+1:Nat)] [rd s n (max d (lv+1):Nat)] (.panic gX) [.dead]:=hc;rw[<-e] at hc;refine TE (q:=0) hc ?_;conv=>whnf
  exact jK rfl
 |some p=>
  obtain⟨t,m,ee⟩:=p;replace hc:SC Tryz.prog 248 [.ptr 0 0,.i .i64 (lv+1:Nat)] [rd s n (max d (lv+1):Nat)] (.val t.gv) [rd s m ee]:=hc;rw[<-e] at hc;have hA':=hA _ _ _ rfl;refine BL (q:=0) hc (fun _=>rfl) (fun _=>rfl) (fun _=>rfl) t.cl ?_;conv=>whnf
  by_cases hh:ts.headD []=[41]
  ·obtain⟨r,rfl⟩:=fU hh (by decide);refine B0 (q:=0) (wI s m ee hA' hs) ?_;(conv=>whnf);refine kB ?_ rfl (.refl _) (fun _=>rfl) t.cl;show uS s (if[41]=[41] then _ else none)=_;rw[aD rfl];rfl
  ·skip;refine B0 (q:=0) (H9 s m ee hA' hs hh) ?_;(conv=>whnf);refine OwesO.panics ?_;show uS s (if ts.headD []=[41] then _ else none)=none;rw[aC hh];rfl
theorem a4i [MaxL] (s:List UInt8) (hs:s.length<b9) (lv n d:Nat) {ts:List (List UInt8)} (h:At s n ([116,114,117,101]::ts)) (fin:Option (Tree×Nat×Nat))
  (hc:Ct Tryz.prog 326 [.ptr 0 0,.i .i64 lv] (rd s (nb s n+([116,114,117,101]:List UInt8).length) d) gX (uS s fin)):
  Ct Tryz.prog 311 [.ptr 0 0,.i .i64 lv] (rd s n d) gX (uS s fin):=by
 have hl2:=h.tail.2.1;have hm:=hs;unfold b9 at hs;refine jN oP mixed Tryz.func311 rfl (bL rfl) (fun _=>rfl) ?hh ?_
 case hh=>exact oL s _
 conv=>whnf
 refine B0 (q:=0) (rD s n d h hm) ?_;conv=>whnf
 refine L4 BI Wks.nil rfl rfl jF rN ?_;conv=>whnf
 refine⟨some (0,.fn (.func 326) [] []),rfl,?_⟩;conv=>whnf
 have hst:[GV.i .i64 ((nb s n+([116,114,117,101]:List UInt8).length:Nat):Int)]=(GV.i .i64 (IntKind.i64.wrap ((nb s n:Int)+(([116,114,117,101]:List UInt8).length:Int)))).cells:=by rw[dB (by omega) (by omega)];rfl
 refine⟨[.i .i64 (nb s n+([116,114,117,101]:List UInt8).length:Nat)],⟨hst,zL _,rfl,bL rfl⟩,?_⟩;conv=>whnf
 cases fin with
 |none=>
  replace hc:SC Tryz.prog 326 [.ptr 0 0,.i .i64 lv] [rd s (nb s n+([116,114,117,101]:List UInt8).length:Nat) d] (.panic gX) [.dead]:=hc;refine TE (q:=0) hc ?_;conv=>whnf
  exact jK rfl
 |some p=>
  replace hc:SC Tryz.prog 326 [.ptr 0 0,.i .i64 lv] [rd s (nb s n+([116,114,117,101]:List UInt8).length:Nat) d] (.val p.1.gv) [rd s p.2.1 p.2.2]:=hc;refine BL (q:=0) hc (fun _=>rfl) (fun _=>rfl) (fun _=>rfl) (jE _) ?_;conv=>whnf
  exact kB rfl rfl (.refl _) (fun _=>rfl) (jE _)
theorem a4h [MaxL] (s:List UInt8) (hs:s.length<b9) (lv n d:Nat) {ts:List (List UInt8)} (h:At s n ([102,97,108,115,101]::ts)) (fin:Option (Tree×Nat×Nat))
  (hc:Ct Tryz.prog 327 [.ptr 0 0,.i .i64 lv] (rd s (nb s n+([102,97,108,115,101]:List UInt8).length) d) gX (uS s fin)):
  Ct Tryz.prog 311 [.ptr 0 0,.i .i64 lv] (rd s n d) gX (uS s fin):=by
 have hl2:=h.tail.2.1;have hm:=hs;unfold b9 at hs;refine jN oP mixed Tryz.func311 rfl (bL rfl) (fun _=>rfl) ?hh ?_
 case hh=>exact oL s _
 conv=>whnf
 refine B0 (q:=0) (rD s n d h hm) ?_;conv=>whnf
 refine L4 BI Wks.nil rfl rfl jF rN ?_;conv=>whnf
 refine⟨some (1,.fn (.func 327) [] []),rfl,?_⟩;conv=>whnf
 have hst:[GV.i .i64 ((nb s n+([102,97,108,115,101]:List UInt8).length:Nat):Int)]=(GV.i .i64 (IntKind.i64.wrap ((nb s n:Int)+(([102,97,108,115,101]:List UInt8).length:Int)))).cells:=by rw[dB (by omega) (by omega)];rfl
 refine⟨[.i .i64 (nb s n+([102,97,108,115,101]:List UInt8).length:Nat)],⟨hst,zL _,rfl,bL rfl⟩,?_⟩;conv=>whnf
 cases fin with
 |none=>
  replace hc:SC Tryz.prog 327 [.ptr 0 0,.i .i64 lv] [rd s (nb s n+([102,97,108,115,101]:List UInt8).length:Nat) d] (.panic gX) [.dead]:=hc;refine TE (q:=0) hc ?_;conv=>whnf
  exact jK rfl
 |some p=>
  replace hc:SC Tryz.prog 327 [.ptr 0 0,.i .i64 lv] [rd s (nb s n+([102,97,108,115,101]:List UInt8).length:Nat) d] (.val p.1.gv) [rd s p.2.1 p.2.2]:=hc;refine BL (q:=0) hc (fun _=>rfl) (fun _=>rfl) (fun _=>rfl) (jE _) ?_;conv=>whnf
  exact kB rfl rfl (.refl _) (fun _=>rfl) (jE _)
theorem Y7 [MaxL] (s:List UInt8) (hs:s.length<b9) (lv n d:Nat) {ts:List (List UInt8)} (h:At s n ([40]::ts)) (fin:Option (Tree×Nat×Nat))
  (hc:Ct Tryz.prog 328 [.ptr 0 0,.i .i64 lv] (rd s (nb s n+([40]:List UInt8).length) d) gX (uS s fin)):
  Ct Tryz.prog 311 [.ptr 0 0,.i .i64 lv] (rd s n d) gX (uS s fin):=by
 have hl2:=h.tail.2.1;have hm:=hs;unfold b9 at hs;refine jN oP mixed Tryz.func311 rfl (bL rfl) (fun _=>rfl) ?hh ?_
 case hh=>exact oL s _
 conv=>whnf
 refine B0 (q:=0) (rD s n d h hm) ?_;conv=>whnf
 refine L4 BI Wks.nil rfl rfl jF rN ?_;conv=>whnf
 refine⟨some (2,.fn (.func 328) [] []),rfl,?_⟩;conv=>whnf
 have hst:[GV.i .i64 ((nb s n+([40]:List UInt8).length:Nat):Int)]=(GV.i .i64 (IntKind.i64.wrap ((nb s n:Int)+(([40]:List UInt8).length:Int)))).cells:=by rw[dB (by omega) (by omega)];rfl
 refine⟨[.i .i64 (nb s n+([40]:List UInt8).length:Nat)],⟨hst,zL _,rfl,bL rfl⟩,?_⟩;conv=>whnf
 cases fin with
 |none=>
  replace hc:SC Tryz.prog 328 [.ptr 0 0,.i .i64 lv] [rd s (nb s n+([40]:List UInt8).length:Nat) d] (.panic gX) [.dead]:=hc;refine TE (q:=0) hc ?_;conv=>whnf
  exact jK rfl
 |some p=>
  replace hc:SC Tryz.prog 328 [.ptr 0 0,.i .i64 lv] [rd s (nb s n+([40]:List UInt8).length:Nat) d] (.val p.1.gv) [rd s p.2.1 p.2.2]:=hc;refine BL (q:=0) hc (fun _=>rfl) (fun _=>rfl) (fun _=>rfl) (jE _) ?_;conv=>whnf
  exact kB rfl rfl (.refl _) (fun _=>rfl) (jE _)
theorem oF (a b:List UInt8):BT .string (.s a) (.s b)=some (a==b):=rfl
set_option maxHeartbeats 2000000 in
theorem a2q [MaxL] (s:List UInt8) (hs:s.length<=20000) (lv n d:Nat) {ts:List (List UInt8)} (h:At s n ts) (h1:ts.headD []≠m8) (h2:ts.headD []≠kN) (h3:ts.headD []≠[40]):
  ∃m,(∀t r e,bU dM 1 .prim lv d ts=some (t,r,e)->At s m r)/\Ct Tryz.prog 311 [.ptr 0 0,.i .i64 lv] (rd s n d) gX (uS s ((bU dM 1 .prim lv d ts).map fun p=>(p.1,m,p.2.2))):=by
 have hm:s.length<b9:=by unfold b9;omega
 have hfr:mK .string (.s (ts.headD [])) AY 0=some none:=x7 oF (fun e he=>by
  simp only[AY,List.mem_cons,List.not_mem_nil,or_false] at he;rcases he with rfl|rfl|rfl
  ·exact⟨_,rfl,Ne.symm h1⟩
  ·exact⟨_,rfl,Ne.symm h2⟩
  ·exact⟨_,rfl,Ne.symm h3⟩)
 have ht:=VO s hs d ts (nb s n) h.nb;unfold BN at ht;have hp:bU dM 1 .prim lv d ts=match iB dM ts with
   |some (a,r)=>if oB (r.headD []) then(match iB dM r.tail with
     |some (b,r')=>some (.test (r.headD []) a b,r',d)
     |none=>none)
    else none
   |none=>none:=by
  conv=>lhs;unfold bU
  exact(aC h1).trans ((aC h2).trans (aC h3))
 rw[hp];clear hp;rcases hT:iB dM ts with _|⟨a,r⟩<;>rw[hT] at ht
 case' none=>refine⟨0,(fun t r e h=>by cases h),?_⟩
 case' some=>
  obtain⟨m1,hA1,hc1⟩:=ht;replace hA1:At s m1 r:=hA1;replace hc1:SC Tryz.prog 322 [.ptr 0 0] [rd s (nb s n) d] (.val a.gv) [rd s m1 d]:=hc1;dsimp only;cases hrel:oB (r.headD [])
  case' false=>
   have hfl:mK .string (.s (r.headD [])) U5 0=some none:=x7 oF (fun e he=>by
    simp only[oB,Z1,iJ,bV,List.mem_cons,List.not_mem_nil,or_false,not_or] at hrel;obtain⟨h1,h2,h3,h4,h5,h6⟩:=hrel;simp only[U5,List.mem_cons,List.not_mem_nil,or_false] at he;rcases he with rfl|rfl|rfl|rfl|rfl|rfl<;>exact⟨_,rfl,Ne.symm (by assumption)⟩)
   refine⟨0,(fun t r e h=>by cases h),?_⟩
  case' true=>
   obtain⟨op,r2,rfl⟩:∃op r2,r=op::r2:=by
    cases r with
    |nil=>cases hrel
    |cons op r2=>exact⟨_,_,rfl⟩
   replace hrel:oB op=true:=hrel;obtain⟨qi,qk,hfl⟩:∃j k,mK .string (.s op) U5 0=some (some (j,.fn (.func k) [] [])):=by
    simp only[oB,Z1,iJ,aJ,List.mem_cons,List.not_mem_nil,or_false] at hrel;rcases hrel with rfl|rfl|rfl|rfl|rfl|rfl<;>exact⟨_,_,rfl⟩
   have htl:=hA1.tail;have hl2:=htl.2.1;have ht2:=VO s hs d r2 _ htl.2;unfold BN at ht2;have hst:[GV.i .i64 ((nb s m1+op.length:Nat):Int)]=(GV.i .i64 (IntKind.i64.wrap ((nb s m1:Int)+(op.length:Int)))).cells:=by rw[dB (by omega) (by omega)];rfl
   rw[aD rfl,show(op::r2).tail=r2 from rfl];rcases hT2:iB dM r2 with _|⟨b,r'⟩<;>rw[hT2] at ht2
   case' none=>refine⟨0,(fun t r e h=>by cases h),?_⟩
   case' some=>
    obtain⟨m2,hA2,hc2⟩:=ht2;replace hA2:At s m2 r':=hA2;replace hc2:SC Tryz.prog 322 [.ptr 0 0] [rd s (nb s m1+op.length:Nat) d] (.val b.gv) [rd s m2 d]:=hc2;refine⟨m2,(fun t r e h=>by cases h;exact hA2),?_⟩
 all_goals
  refine jN (onM [322]) mixed Tryz.func311 rfl (bL rfl) (fun _=>rfl) (by rfl) ?_;conv=>whnf
  refine B0 (q:=0) (rD s n d h hm) ?_;conv=>whnf
  refine L4 BI Wks.nil rfl rfl jF rN ?_;conv=>whnf
  refine⟨none,hfr,?_⟩;conv=>whnf
  first
   |(refine TE (q:=0) ht ?_;(conv=>whnf);exact jK rfl)
   |refine BL (q:=0) hc1 (fun _=>rfl) (fun _=>rfl) (fun _=>rfl) (fun _=>rfl) ?_
    (conv=>whnf);refine sT ?_;(conv=>whnf);refine B0 (q:=0) (rD s m1 d hA1 hm) ?_;(conv=>whnf);refine L4 SW Wks.nil rfl rfl jF QI ?_;(conv=>whnf);first
     |(refine⟨none,hfl,?_⟩;(conv=>whnf);exact OwesO.panics rfl)
     |refine⟨some (qi,.fn (.func qk) [] []),hfl,?_⟩
      (conv=>whnf);refine⟨[.i .i64 (nb s m1+op.length:Nat)],⟨hst,zL _,rfl,bL rfl⟩,?_⟩;(conv=>whnf);first
       |refine GDraw.pan 3 _ rfl (by kernel_rfl) ?_
        (conv=>whnf);refine TE (q:=0) ht2 ?_;(conv=>whnf);exact jK rfl
       |refine GDraw.wild _ _ _ rfl rfl rfl (by kernel_rfl) ?_
        (conv=>whnf);refine BL (q:=0) hc2 (fun _=>rfl) (fun _=>rfl) (fun _=>rfl) (fun _=>rfl) ?_;(conv=>whnf);exact kB rfl rfl (.refl _) (fun _=>rfl) (jE _)
theorem BP {lit:By->Option Val} {f:Nat} {m:Md} {lv d:Nat} {ts r:List By} {t:Tree} {e:Nat} (h:bU lit f m lv d ts=some (t,r,e)):r.length<=ts.length:=(jT f m lv d ts r t e h).1
def a4v [MaxL] (s:List UInt8) (f:Nat):Prop:=∀(lv d n:Nat) (ts:List (List UInt8)),At s n ts->lv+ts.length<900000->
 (10*ts.length+4<f->∃m,(∀t r e,bU dM f .or lv d ts=some (t,r,e)->At s m r/\nb s m=m)/\Ct Tryz.prog 248 [.ptr 0 0,.i .i64 lv] (rd s n d) gX (uS s ((bU dM f .or lv d ts).map fun p=>(p.1,m,p.2.2))))/\
 (10*ts.length+3<f->∃m,(∀t r e,bU dM f .and lv d ts=some (t,r,e)->At s m r)/\Ct Tryz.prog 288 [.ptr 0 0,.i .i64 lv] (rd s n d) gX (uS s ((bU dM f .and lv d ts).map fun p=>(p.1,m,p.2.2))))/\
 (10*ts.length+2<f->∃m,(∀t r e,bU dM f .not lv d ts=some (t,r,e)->At s m r)/\Ct Tryz.prog 305 [.ptr 0 0,.i .i64 lv] (rd s n d) gX (uS s ((bU dM f .not lv d ts).map fun p=>(p.1,m,p.2.2))))/\
 (10*ts.length+1<f->∃m,(∀t r e,bU dM f .prim lv d ts=some (t,r,e)->At s m r)/\Ct Tryz.prog 311 [.ptr 0 0,.i .i64 lv] (rd s n d) gX (uS s ((bU dM f .prim lv d ts).map fun p=>(p.1,m,p.2.2))))
theorem a7g (s:List UInt8) (n:Nat):nb s (nb s n)=nb s n:=by
 have h:=I0 s n;show nb s n+((s.drop (nb s n)).takeWhile (· ==32)).length=nb s n;rw[h];have:∀l:List UInt8,((skip l).takeWhile (· ==32)).length=0:=by
  intro l;induction l with
  |nil=>rfl
  |cons c t ih=>
   unfold skip at*;rw[List.dropWhile_cons];split
   ·exact ih
   ·rename_i hc;rw[gS,aC hc];rfl
 rw[this];rfl
theorem a59 [MaxL] (s:List UInt8) (F:Nat) (IH:∀f,f<=F->a4v s f):∀(f:Nat) (t:Tree) (lv d n:Nat) (ts:List (List UInt8)),f<=F->At s n ts->lv+ts.length<900000->10*ts.length<f->
  ∃m j,(∀t' r e,bU dM f (.orL t) lv d ts=some (t',r,e)->At s m r/\nb s m=m)/\Lp s 288 EA false lv j t n d ((bU dM f (.orL t) lv d ts).map fun p=>(p.1,m,p.2.2))
 |0,t,lv,d,n,ts,hf,h,hb,hk=>by omega
 |f+1,t,lv,d,n,ts,hf,h,hb,hk=>by
  by_cases hw:ts.headD []=EA
  ·obtain⟨r,rfl⟩:=fU hw (by decide);simp only[aI] at hb hk;obtain⟨_,ia,_⟩:=IH f (by omega) lv d (nb s n+EA.length) r h.tail.2 (by omega);obtain⟨m1,hm1,hc1⟩:=ia (by omega);cases hp:bU dM f .and lv d r with
   |none=>
    rw[hp] at hc1;have e:bU dM (f+1) (.orL t) lv d (EA::r)=none:=by
     conv=>lhs;unfold bU
     rw[aD hw];show(match bU dM f .and lv d r with|some (m,r,e)=>_|none=>_)=_;rw[hp]
    rw[e];exact⟨0,0,(fun _ _ _ h=>by cases h),.bad h hc1⟩
   |some p=>
    obtain⟨t1,r1,e1⟩:=p;rw[hp] at hc1;have e:bU dM (f+1) (.orL t) lv d (EA::r)=bU dM f (.orL (.pair false t t1)) lv e1 r1:=by
     conv=>lhs;unfold bU
     rw[aD hw];show(match bU dM f .and lv d r with|some (m,r,e)=>_|none=>_)=_;rw[hp]
    have hlen:=BP hp;obtain⟨m2,j,hm2,hl⟩:=a59 s F IH f (.pair false t t1) lv e1 m1 r1 (by omega) (hm1 _ _ _ hp) (by omega) (by omega);rw[e];exact⟨m2,j+1,hm2,.step h hc1 hl⟩
  ·have e:bU dM (f+1) (.orL t) lv d ts=some (t,ts,d):=by
    conv=>lhs;unfold bU
    rw[aC hw]
   rw[e];exact⟨nb s n,0,(fun _ _ _ h'=>by cases h';exact⟨h.nb,a7g s n⟩),.stop h hw⟩
theorem a1z [MaxL] (s:List UInt8) (F:Nat) (IH:∀f,f<=F->a4v s f):∀(f:Nat) (t:Tree) (lv d n:Nat) (ts:List (List UInt8)),f<=F->At s n ts->lv+ts.length<900000->10*ts.length<f->
  ∃m j,(∀t' r e,bU dM f (.andL t) lv d ts=some (t',r,e)->At s m r)/\Lp s 305 oS true lv j t n d ((bU dM f (.andL t) lv d ts).map fun p=>(p.1,m,p.2.2))
 |0,t,lv,d,n,ts,hf,h,hb,hk=>by omega
 |f+1,t,lv,d,n,ts,hf,h,hb,hk=>by
  by_cases hw:ts.headD []=oS
  ·obtain⟨r,rfl⟩:=fU hw (by decide);simp only[aI] at hb hk;obtain⟨_,_,ia,_⟩:=IH f (by omega) lv d (nb s n+oS.length) r h.tail.2 (by omega);obtain⟨m1,hm1,hc1⟩:=ia (by omega);cases hp:bU dM f .not lv d r with
   |none=>
    rw[hp] at hc1;have e:bU dM (f+1) (.andL t) lv d (oS::r)=none:=by
     conv=>lhs;unfold bU
     rw[aD hw];show(match bU dM f .not lv d r with|some (m,r,e)=>_|none=>_)=_;rw[hp]
    rw[e];exact⟨0,0,(fun _ _ _ h=>by cases h),.bad h hc1⟩
   |some p=>
    obtain⟨t1,r1,e1⟩:=p;rw[hp] at hc1;have e:bU dM (f+1) (.andL t) lv d (oS::r)=bU dM f (.andL (.pair true t t1)) lv e1 r1:=by
     conv=>lhs;unfold bU
     rw[aD hw];show(match bU dM f .not lv d r with|some (m,r,e)=>_|none=>_)=_;rw[hp]
    have hlen:=BP hp;obtain⟨m2,j,hm2,hl⟩:=a1z s F IH f (.pair true t t1) lv e1 m1 r1 (by omega) (hm1 _ _ _ hp) (by omega) (by omega);rw[e];exact⟨m2,j+1,hm2,.step h hc1 hl⟩
  ·have e:bU dM (f+1) (.andL t) lv d ts=some (t,ts,d):=by
    conv=>lhs;unfold bU
    rw[aC hw]
   rw[e];exact⟨nb s n,0,(fun _ _ _ h'=>by cases h';exact h.nb),.stop h hw⟩
structure Itm where
 name:By
 k:Int
 lo:Int
 hi:Int
 len:Int
 deriving DecidableEq
def Itm.cs (i:Itm):List GV:=[.s i.name,.i .i64 i.k,.i .i64 i.lo,.i .i64 i.hi,.i .i64 i.len]
def Itm.gv (i:Itm):GV:=.agg i.cs
theorem Itm.cl [MaxL] (i:Itm):Cl i.gv:=fun _=>rfl
def fM (l:List Itm):List GV:=l.map Itm.gv
theorem dC [MaxL] (l:List Itm):ClL (fM l):=iA Itm.cl l
theorem rV (l:List Itm):(fM l).length=l.length:=by simp[fM]
theorem pJ {l:List Itm} {i:Nat} {y:Itm} (h:l[i]?=some y):(fM l)[i]?=some (.agg [.s y.name,.i .i64 y.k,.i .i64 y.lo,.i .i64 y.hi,.i .i64 y.len]):=by
 unfold fM;rw[aK,h];rfl
def Itm.ok (i:Itm):Bool:=dU i.name&&((decide (i.k=1)&&decide (i.lo<=i.hi)&&decide (-1000000000<=i.lo)&&decide (i.hi<=1000000000)&&decide (i.len=0))||(decide (i.k=2)&&decide (1<=i.len)&&decide (i.len<=40)&&decide (i.lo=0)&&decide (i.hi=0)))
theorem T2 [MaxL] (i:Itm):SC Tryz.prog 159 [i.gv] [] (.val (.b i.ok)) []:=by
 obtain⟨name,k,lo,hi,len⟩:=i;have hn:=CP name;have hw:=AM len 1 40;unfold Itm.ok;simp only;generalize dU name=nm at*;cases nm with
 |false=>
  refine cO Tryz.func159 rfl ?_;conv=>whnf
  refine sL hn ?_;conv=>whnf
  exact d6 rfl
 |true=>
  refine cO Tryz.func159 rfl ?_;conv=>whnf
  refine sL hn ?_;conv=>whnf
  repeat' first
   |(apply gM<;>intro _<;>conv=>whnf)
   |(refine lQ ?_;conv=>whnf)
   |(refine sT ?_;conv=>whnf)
   |(refine sL hw ?_;conv=>whnf)
  all_goals
   refine d6 ?_;rw[dQ];simp at*;try omega
theorem QM [MaxL] (i:Itm):SC Tryz.prog 169 [i.gv] [] (.val (.b i.ok)) []:=by
 obtain⟨name,k,lo,hi,len⟩:=i;have hn:=tY name;unfold Itm.ok;simp only;generalize dU name=nm at*;cases nm with
 |false=>
  refine cO Tryz.func169 rfl ?_;conv=>whnf
  refine sL hn ?_;conv=>whnf
  exact d6 rfl
 |true=>
  refine cO Tryz.func169 rfl ?_;conv=>whnf
  refine sL hn ?_;conv=>whnf
  repeat' first
   |(apply gM<;>intro _<;>conv=>whnf)
   |(refine lQ ?_;conv=>whnf)
   |(refine sT ?_;conv=>whnf)
  all_goals
   refine d6 ?_;rw[dQ];simp at*;try omega
def wW (l:List Itm) (s:By):Int:=match l.findIdx? (fun i=>i.name==s) with
 |some k=>k
 |none=> -1
theorem US {l:List Itm} {s:By} (h:∀y∈l,y.name≠s):wW l s= -1:=by
 unfold wW;rw[List.findIdx?_eq_none_iff.2 (fun y hy=>by simpa using h y hy)]
theorem HS {l:List Itm} {s:By} {i:Nat} {y:Itm} (h:l[i]?=some y) (hs:y.name=s) (hb:∀z∈l.take i,z.name≠s):wW l s=(i:Int):=by
 unfold wW;have hi:=(List.getElem?_eq_some_iff.1 h).1;have:l.findIdx? (fun i=>i.name==s)=some i:=by
  rw[List.findIdx?_eq_some_iff_getElem];refine⟨hi,by have:=(List.getElem?_eq_some_iff.1 h).2;rw[this];simpa using hs,fun j hj=>?_⟩;have:l[j]∈l.take i:=by
   rw[List.mem_take_iff_getElem];exact⟨j,by omega,rfl⟩
  simpa using hb _ this
 rw[this]
theorem MT (l:List Itm) (s:By):(wW l s= -1/\∀y∈l,y.name≠s)∨∃i y,wW l s=(i:Nat)/\l[i]?=some y/\y.name=s/\∀z∈l.take i,z.name≠s:=by
 cases h:l.findIdx? (fun i=>i.name==s) with
 |none=>
  refine .inl ⟨by unfold wW;rw[h],fun y hy=>?_⟩;have:=List.findIdx?_eq_none_iff.1 h y hy;simpa using this
 |some i=>
  obtain⟨hi,h1,h2⟩:=List.findIdx?_eq_some_iff_getElem.1 h;refine .inr ⟨i,l[i],by unfold wW;rw[h],gL hi,by simpa using h1,fun z hz=>?_⟩;rw[List.mem_take_iff_getElem] at hz;obtain⟨j,hj,rfl⟩:=hz;have:=h2 j (by omega);simpa using this
theorem xR {l:List Itm} {s:By} {i:Nat} {y:Itm} (h:∀z∈l.take i,z.name≠s) (hy:l[i]?=some y) (hn:y.name≠s):∀z∈l.take (i+1),z.name≠s:=fun z hz=>by
 rw[aT,hy] at hz;rcases List.mem_append.1 hz with hz|hz
 ·exact h z hz
 ·rw[List.mem_singleton.1 (show z∈[y] from hz)];exact hn
theorem a1X [MaxL] (l:List Itm) (hl:l.length<b9) (s:By):SC Tryz.prog 170 [.sl .none (fM l),.s s] [] (.val (.i .i64 (wW l s))) []:=by
 have hlen:=rV l;unfold b9 at hl;refine cO Tryz.func170 rfl ?_;conv=>whnf
 refine dD (fun i:Nat=>i<=l.length/\∀z∈l.take i,z.name≠s) (fun i=>[(0,.sl .none (fM l)),(1,.s s),(5,.i .i64 (i:Nat))]) (fun _=>⟨[],0,[]⟩) (fun i=>l.length - i) 0 ⟨zL _,fun z h=>by simp at h⟩ ⟨rfl,rfl,rfl,trivial⟩ rfl (fun i φ0 hi=>?_);obtain⟨hi,hne⟩:=hi;conv=>whnf
 apply gM<;>intro h<;>conv=>whnf
 rotate_left
 ·have hie:i=l.length:=by have:=aA h;omega
  refine bB ?_;rw[hie,aV] at hne;exact(US hne).symm
 have hlt:i<l.length:=by have:=aB h;omega
 obtain⟨y,hy⟩:∃y,l[i]?=some y:=⟨l[i],gL hlt⟩;refine⟨jR _,_,by rw[aL];exact pJ hy,rfl,?_⟩;conv=>whnf
 apply gM<;>intro heq<;>conv=>whnf
 ·have e:y.name=s:=by simpa using heq
  exact bB (HS hy e hne).symm
 ·have e:y.name≠s:=by simpa using heq
  exact⟨l.length - (i+1),(by show _<l.length - i;omega),i+1,⟨hlt,xR hne hy e⟩,rfl,⟨rfl,rfl,bH (by omega),trivial⟩,rfl⟩
theorem a7S [MaxL] (l:List Itm) (hl:l.length<b9) (s:By):SC Tryz.prog 227 [.sl .none (fM l),.s s] [] (.val (.i .i64 (wW l s))) []:=by
 have hlen:=rV l;unfold b9 at hl;refine cO Tryz.func227 rfl ?_;conv=>whnf
 refine dD (fun i:Nat=>i<=l.length/\∀z∈l.take i,z.name≠s) (fun i=>[(0,.sl .none (fM l)),(1,.s s),(5,.i .i64 (i:Nat))]) (fun _=>⟨[],0,[]⟩) (fun i=>l.length - i) 0 ⟨zL _,fun z h=>by simp at h⟩ ⟨rfl,rfl,rfl,trivial⟩ rfl (fun i φ0 hi=>?_);obtain⟨hi,hne⟩:=hi;conv=>whnf
 apply gM<;>intro h<;>conv=>whnf
 rotate_left
 ·have hie:i=l.length:=by have:=aA h;omega
  refine bB ?_;rw[hie,aV] at hne;exact(US hne).symm
 have hlt:i<l.length:=by have:=aB h;omega
 obtain⟨y,hy⟩:∃y,l[i]?=some y:=⟨l[i],gL hlt⟩;refine⟨jR _,_,by rw[aL];exact pJ hy,rfl,?_⟩;conv=>whnf
 apply gM<;>intro heq<;>conv=>whnf
 ·have e:y.name=s:=by simpa using heq
  exact bB (HS hy e hne).symm
 ·have e:y.name≠s:=by simpa using heq
  exact⟨l.length - (i+1),(by show _<l.length - i;omega),i+1,⟨hlt,xR hne hy e⟩,rfl,⟨rfl,rfl,bH (by omega),trivial⟩,rfl⟩
def iC (l:List Itm):Bool:=l.all Itm.ok&&decide ((l.map Itm.name).Nodup)&&decide (l.length<=8)
theorem BO {l:List Itm} {i:Nat} {y:Itm} (h:∀z∈l.take i,z.ok=true) (hy:l[i]?=some y) (hn:y.ok=true):∀z∈l.take (i+1),z.ok=true:=fun z hz=>by
 rw[aT,hy] at hz;rcases List.mem_append.1 hz with hz|hz
 ·exact h z hz
 ·rw[List.mem_singleton.1 (show z∈[y] from hz)];exact hn
theorem CA {l:List Itm} {i:Nat} {y:Itm} (h:((l.take i).map Itm.name).Nodup) (hy:l[i]?=some y):((l.take (i+1)).map Itm.name).Nodup↔∀z∈l.take i,z.name≠y.name:=by
 rw[aT,hy];show((l.take i++[y]).map Itm.name).Nodup↔_;rw[b5,List.nodup_append];constructor
 ·intro⟨_,_,h3⟩ z hz;exact h3 _ (List.mem_map_of_mem hz) _ (by simp)
 ·intro h3;refine⟨h,by simp,fun a ha b hb=>?_⟩;obtain⟨z,hz,rfl⟩:=List.mem_map.1 ha;simp at hb;rw[hb];exact h3 z hz
theorem DF {l:List Itm} {i:Nat} {y:Itm} (hy:l[i]?=some y) (h:y.ok=false∨∃z∈l.take i,z.name=y.name):iC l=false:=by
 unfold iC;rcases h with h|⟨z,hz,he⟩
 ·have:l.all Itm.ok=false:=by
   rw[List.all_eq_false];exact⟨y,aE hy,by simp[h]⟩
  rw[this];rfl
 ·have:¬(l.map Itm.name).Nodup:=fun hn=>by
   have h1:((l.take (i+1)).map Itm.name).Nodup:=List.Nodup.sublist (List.Sublist.map _ (List.take_sublist _ _)) hn;have h0:((l.take i).map Itm.name).Nodup:=List.Nodup.sublist (List.Sublist.map _ (List.take_sublist _ _)) hn;exact(CA h0 hy).1 h1 z hz he
  rw[bN this];simp
theorem MQ {l:List Itm} (h1:∀z∈l,z.ok=true) (h2:(l.map Itm.name).Nodup):iC l=decide (l.length<=8):=by
 unfold iC;rw[List.all_eq_true.2 h1,bC h2];simp
theorem a2G {l:List Itm} {i:Nat} {y:Itm} (h0:((l.take i).map Itm.name).Nodup) (hy:l[i]?=some y):wW l y.name=(i:Int)↔∀z∈l.take i,z.name≠y.name:=by
 constructor
 ·intro h z hz he;rcases MT l y.name with⟨h1,_⟩|⟨j,w,h1,h2,h3,h4⟩
  ·rw[h1] at h;omega
  ·rw[h1] at h;have hj:j=i:=by omega
   subst hj;exact h4 z hz he
 ·intro h;exact HS hy rfl h
theorem J9 [MaxL] (l:List Itm) (hl:l.length<b9):SC Tryz.prog 121 [.sl .none (fM l)] [] (.val (.b (iC l))) []:=by
 have hlen:=rV l;have hl':=hl;unfold b9 at hl';refine cO Tryz.func121 rfl ?_;conv=>whnf
 refine dD (fun i:Nat=>i<=l.length/\(∀z∈l.take i,z.ok=true)/\((l.take i).map Itm.name).Nodup) (fun i=>[(0,.sl .none (fM l)),(3,.i .i64 (i:Nat))]) (fun _=>⟨[],0,[]⟩) (fun i=>l.length - i) 0 ⟨zL _,(fun z h=>by simp at h),by simp⟩ ⟨rfl,rfl,trivial⟩ rfl (fun i φ0 hi=>?_);obtain⟨hi,hok,hnd⟩:=hi;conv=>whnf
 apply gM<;>intro h<;>conv=>whnf
 rotate_left
 ·have hie:i=l.length:=by have:=aA h;omega
  refine d6 ?_;rw[hie,aV] at hok hnd;rw[MQ hok hnd];rw[hlen];rw[decide_eq_decide];omega
 have hlt:i<l.length:=by have:=aB h;omega
 obtain⟨y,hy⟩:∃y,l[i]?=some y:=⟨l[i],gL hlt⟩;have hv:=QM y;have hx:=a1X l hl y.name;refine⟨jR _,_,by rw[aL];exact pJ hy,rfl,?_⟩;conv=>whnf
 refine mG hv (.b _) ?_;conv=>whnf
 apply gM<;>intro h1<;>conv=>whnf
 ·refine d6 ?_;rw[DF hy (.inl (by simpa using h1))]
 have h1':y.ok=true:=by simpa using h1
 refine⟨jR _,_,by rw[aL];exact pJ hy,rfl,?_⟩;conv=>whnf
 refine bT hx (wR _) rfl (cC (bK (dC l)) (.cons (.s _) .nil)) (.i _ _) ?_;conv=>whnf
 apply gM<;>intro h2<;>conv=>whnf
 ·refine d6 ?_;rw[DF hy (.inr ?_)];have h3:¬wW l y.name=(i:Int):=by simpa using h2
  rw[a2G hnd hy] at h3;simpa using h3
 ·have h3:wW l y.name=(i:Int):=by simpa using h2
  exact⟨l.length - (i+1),(by show _<l.length - i;omega),i+1,⟨hlt,BO hok hy h1',(CA hnd hy).2 ((a2G hnd hy).1 h3)⟩,rfl,⟨rfl,bH (by omega),trivial⟩,rfl⟩
theorem LH [MaxL] (l:List Itm) (hl:l.length<b9):SC Tryz.prog 111 [.sl .none (fM l)] [] (.val (.b (decide (0<l.length)&&iC l))) []:=by
 have hk:=J9 l hl;have hlen:=rV l;generalize iC l=b at*;refine cO Tryz.func111 rfl ?_;conv=>whnf
 apply gM<;>intro h<;>conv=>whnf
 ·refine bT hk (wR _) rfl (cC (bK (dC l)) .nil) (.b _) ?_;conv=>whnf
  refine d6 ?_;rw[bC (by have:=aB h;omega)];rfl
 ·refine d6 ?_;rw[bN (by have:=aA h;omega)];rfl
structure Ar where
 name:By
 pages:Int
structure Rc where
 name:By
 area:By
 its:List Itm
 place:Int
 keys:List By
 dups:Bool
 via:By
 check:By
structure Mb where
 of:By
 auto:Bool
 keep:Int
 sel:List By
structure Ky where
 item:By
 down:Bool
structure Sy where
 name:By
 owner:By
 ms:List Mb
 order:Int
 keys:List Ky
 dups:Int
 mode:Int
structure Sch where
 ar:List Ar
 rc:List Rc
 st:List Sy
def jJ {α:Type} (p:α->Bool):List α->Int
 |[]=> -1
 |x::l=>if p x then 0 else if jJ p l<0 then -1 else jJ p l+1
theorem o7 {α:Type} {p:α->Bool} {l:List α} {i:Nat} {y:α} (hy:l[i]?=some y) (hp:p y=true) (h:∀z∈l.take i,p z=false):jJ p l=i:=by
 induction l generalizing i with
 |nil=>cases hy
 |cons x l ih=>
  match i,hy,h with
  |0,hy,h=>cases hy;unfold jJ;rw[aD hp];rfl
  |i+1,hy,h=>
   have h0:=ih (i:=i) hy (fun z hz=>h z (by rw[iX];exact eR _ hz));have hx:p x=false:=h x (by rw[iX];exact fY);unfold jJ;rw[hx,h0,aC (by simp),aC (by omega)];rfl
theorem nJ {α:Type} {p:α->Bool} {l:List α} (h:∀z∈l,p z=false):jJ p l= -1:=by
 induction l with
 |nil=>rfl
 |cons x l ih=>
  unfold jJ;rw[h x fY,ih fun z hz=>h z (eR _ hz)];rfl
theorem a8C {α:Type} {p:α->Bool} {l:List α}:jJ p l<0↔∀z∈l,p z=false:=by
 constructor
 ·induction l with
  |nil=>intro _ z hz;cases hz
  |cons x l ih=>
   intro h z hz;unfold jJ at h;cases hx:p x with
   |true=>rw[hx,aD rfl] at h;omega
   |false=>
    rw[hx,aC (by simp)] at h;have hl:jJ p l<0:=by
     by_cases hl:jJ p l<0
     ·exact hl
     ·rw[aC hl] at h;omega
    rcases List.mem_cons.1 hz with rfl|hz
    ·exact hx
    ·exact ih hl z hz
 ·intro h;rw[nJ h];omega
theorem E4 {α:Type} {p:α->Bool} {l:List α} (h:0<=jJ p l):∃i y,jJ p l=(i:Nat)/\l[i]?=some y/\p y=true/\(∀z∈l.take i,p z=false)/\l.find? p=some y:=by
 induction l with
 |nil=>exact absurd h (by unfold jJ;omega)
 |cons x l ih=>
  cases hx:p x with
  |true=>exact⟨0,x,by unfold jJ;rw[aD hx];rfl,rfl,hx,by simp,by simp[hx]⟩
  |false=>
   have hl:0<=jJ p l:=by
    unfold jJ at h;rw[hx,aC (by simp)] at h;by_cases hl:jJ p l<0
    ·rw[aD hl] at h;omega
    ·omega
   obtain⟨i,y,e,hy,hp,ht,hf⟩:=ih hl;refine⟨i+1,y,?_,hy,hp,fun z hz=>?_,by simp[hx,hf]⟩
   ·unfold jJ;rw[hx,aC (by simp),e,aC (by omega)];rfl
   ·rw[iX] at hz;rcases List.mem_cons.1 hz with rfl|hz
    ·exact hx
    ·exact ht z hz
theorem yR {α:Type} {p:α->Bool} {l:List α} {i:Nat} {y:α} (hy:l[i]?=some y) (hp:p y=true):decide (jJ p l<(i:Int))=(l.take i).any p:=by
 cases h:(l.take i).any p with
 |false=>
  rw[o7 hy hp fun z hz=>by
   cases hz':p z with
   |false=>rfl
   |true=>exact absurd (List.any_eq_true.2 ⟨z,hz,hz'⟩) (by rw[h];simp)]
  simp
 |true=>
  obtain⟨z,hz,hz'⟩:=List.any_eq_true.1 h;obtain⟨j,hj,rfl⟩:=List.getElem_of_mem hz;have hj':j<i:=by rw[aS] at hj;omega
  have hjl:j<l.length:=by rw[aS] at hj;omega
  rw[List.getElem_take] at hz';have h0:0<=jJ p l:=by
   rcases Int.lt_or_le (jJ p l) 0 with h9|h9
   ·rw[a8C.1 h9 _ (dX hjl)] at hz';cases hz'
   ·exact h9
  obtain⟨k,w,e,hw,hpw,ht, -⟩:=E4 h0;have hk:k<=j:=Nat.le_of_not_lt fun h9=>by
   have:=ht l[j] (List.mem_take_iff_getElem.2 ⟨j,by omega,rfl⟩);rw[this] at hz';cases hz'
  rw[e];simp;omega
def dZ {α:Type} (f:Nat->α->Int):Nat->List α->Option (Nat×Int)
 |_,[]=>none
 |i,x::l=>if f i x=0 then dZ f (i+1) l else some (i,f i x)
theorem N8 {α:Type} {f:Nat->α->Int} {l:List α} {n i:Nat} {y:α} (hy:l[i]?=some y) (hn:f (n+i) y≠0) (h:∀j z,j<i->l[j]?=some z->f (n+j) z=0):
  dZ f n l=some (n+i,f (n+i) y):=by
 induction l generalizing i n with
 |nil=>cases hy
 |cons x l ih=>
  match i,hy,hn,h with
  |0,hy,hn,h=>cases hy;rw[k4] at hn⊢;unfold dZ;rw[aC hn]
  |i+1,hy,hn,h=>
   unfold dZ;rw[aD (show f n x=0 from h 0 x (Nat.succ_pos _) rfl),ih (n:=n+1) (i:=i) hy (by rw[show n+1+i=n+(i+1) by omega];exact hn) fun j z hj hz=>by
    rw[show n+1+j=n+(j+1) by omega];exact h (j+1) z (by omega) hz]
   rw[show n+1+i=n+(i+1) by omega]
theorem N7 {α:Type} {f:Nat->α->Int} {l:List α} {n:Nat} (h:∀j z,l[j]?=some z->f (n+j) z=0):dZ f n l=none:=by
 induction l generalizing n with
 |nil=>rfl
 |cons x l ih=>
  unfold dZ;rw[aD (show f n x=0 from h 0 x rfl)];exact ih fun j z hz=>by rw[show n+1+j=n+(j+1) by omega];exact h (j+1) z hz
theorem o5 {α:Type} {f:Nat->α->Int} {l:List α} {n:Nat} (h:dZ f n l=none):∀j z,l[j]?=some z->f (n+j) z=0:=by
 induction l generalizing n with
 |nil=>intro j z hz;cases hz
 |cons x l ih=>
  unfold dZ at h;intro j z hz;by_cases h0:f n x=0
  ·rw[aD h0] at h
   match j,hz with
   |0,hz=>cases hz;exact h0
   |j+1,hz=>rw[show n+(j+1)=n+1+j by omega];exact ih h j z hz
  ·rw[aC h0] at h;cases h
def kE {α:Type} (f:Nat->α->Int) (l:List α):Int:=match dZ f 0 l with
 |some (_,e)=>e
 |none=>0
theorem mE {α:Type} {f:Nat->α->Int} {l:List α} {i:Nat} {y:α} (hy:l[i]?=some y) (hn:f i y≠0) (h:∀j z,j<i->l[j]?=some z->f j z=0):kE f l=f i y:=by
 unfold kE;rw[N8 (n:=0) hy (by rw[bI];exact hn) fun j z hj hz=>by rw[bI];exact h j z hj hz,bI]
theorem mD {α:Type} {f:Nat->α->Int} {l:List α} (h:∀j z,l[j]?=some z->f j z=0):kE f l=0:=by
 unfold kE;rw[N7 (n:=0) fun j z hz=>by rw[bI];exact h j z hz]
def UF (a b:Int):Int:=if a=0 then b else a
def cX (w:Bool) (e b:Int):Int:=if w then e else b
def YW:By:=[115,121,115,116,101,109]
def t8 (n lo hi:Int):Bool:=decide (lo<=n)&&decide (n<=hi)
def gJ (met:List By) (n:By) (b:Int):Int:=cX (!dU n||n==YW) 1 (cX (met.contains n) 6 b)
def nH (met:List By) (a:Ar):Int:=gJ met a.name (cX (!t8 a.pages 1 200) 7 0)
def bW (s:Sch):List By:=s.ar.map (·.name)
def fV (s:Sch):List By:=s.rc.map (·.name)
def sA (s:Sch):List By:=s.st.map (·.name)
def ON (r:Rc) (k:Nat) (n:By):Int:=cX (!(r.its.any (·.name==n))) 5 (cX ((r.keys.take k).contains n) 6 0)
def vA (r:Rc):Int:=if r.place=2 then cX (!t8 r.keys.length 1 4) 11 (kE (ON r) r.keys) else cX (!r.keys.isEmpty||r.dups) 1 0
def LE (s:Sch) (r:Rc):Int:=if r.place=3 then cX (match s.st.find? (·.name==r.via) with|none=>true|some t=>!(t.ms.any (·.of==r.name))) 5 0 else cX (r.via !=[]) 1 0
section
variable (known : List Itm → Bool) (canon : By → Bool) (check : List Itm → By → Int)
def a5I (r:Rc):Int:=if r.check=[] then 0 else cX (!canon r.check) 2 (check r.its r.check)
def J2 (s:Sch) (met:List By) (r:Rc):Int:=gJ met r.name (cX (!((bW s).contains r.area)) 5 (cX (!known r.its||!t8 r.place 1 3) 1 (UF (vA r) (UF (LE s r) (a5I canon check r)))))
end
def j0 (its:List Itm) (n:By):Int:=match its.find? (·.name==n) with
 |some x=>x.k
 |none=>0
def bS (s:Sch) (n:By):Rc:=(s.rc.find? (·.name==n)).getD ⟨[],[],[],0,[],false,[],[]⟩
def MD (o r:Rc) (k:Nat) (n:By):Int:=cX (!(r.its.any (·.name==n))) 5 (cX (j0 r.its n !=j0 o.its ((o.keys[k]?).getD [])) 10 0)
def TY (s:Sch) (t:Sy) (m:Mb):Int:=if m.sel=[] then 0 else
 cX (t.owner==[]) 10 (cX ((bS s t.owner).place !=2||(bS s t.owner).dups) 10 (cX (m.sel.length !=(bS s t.owner).keys.length) 11 (kE (MD (bS s t.owner) (bS s m.of)) m.sel)))
def uC (s:Sch) (t:Sy) (k:Nat) (m:Mb):Int:=
 cX (!((fV s).contains m.of)) 5 (cX (((t.ms.take k).map (·.of)).contains m.of) 6 (cX (!t8 m.keep 1 3) 1 (TY s t m)))
def mP (s:Sch) (t:Sy) (k:Nat) (y:Ky):Int:=
 cX (!(t.ms.all fun m=>(bS s m.of).its.any (·.name==y.item))) 5
  (cX (!(t.ms.all fun m=>j0 (bS s m.of).its y.item==j0 (bS s ((t.ms.head?.map (·.of)).getD [])).its y.item)) 10
   (cX (((t.keys.take k).map (·.item)).contains y.item) 6 0))
def G0 (s:Sch) (t:Sy):Int:=cX (!t8 t.keys.length 1 4) 11 (UF (kE (mP s t) t.keys) (cX (!t8 t.dups 1 3) 1 0))
def TX (s:Sch) (met:List By) (t:Sy):Int:=
 gJ met t.name (cX (t.owner !=[]&&!((fV s).contains t.owner)) 5 (cX (!t8 t.ms.length 1 4) 11 (UF (kE (uC s t) t.ms)
  (cX (!t8 t.order 1 5) 1 (UF (if t.order=5 then G0 s t else cX (!t.keys.isEmpty||t.dups !=0) 1 0)
   (cX (!t8 t.mode 1 3) 1 (cX (t.mode==3&&t.order !=5) 10 0)))))))
def xJ:By:=[97,114,101,97]
def iR:By:=[114,101,99,111,114,100]
def nF:By:=[115,101,116]
section
variable (known : List Itm → Bool) (canon : By → Bool) (check : List Itm → By → Int)
def M3 (s:Sch):By×Nat×Int:=if s.st.length>60 then(nF,0,4) else
 match dZ (fun i t=>TX s (bW s++(fV s++(sA s).take i)) t) 0 s.st with
 |some (i,e)=>(nF,i,e)
 |none=>([],0,0)
def M4 (s:Sch):By×Nat×Int:=if !t8 s.rc.length 1 10 then(iR,0,4) else
 match dZ (fun i r=>J2 known canon check s (bW s++(fV s).take i) r) 0 s.rc with
 |some (i,e)=>(iR,i,e)
 |none=>M3 s
def a3g (s:Sch):By×Nat×Int:=if !t8 s.ar.length 1 6 then(xJ,0,4) else
 match dZ (fun i a=>nH ((bW s).take i) a) 0 s.ar with
 |some (i,e)=>(xJ,i,e)
 |none=>M4 known canon check s
end
theorem bM {w:Bool} {e b:Int} (h:cX w e b=0) (he:e≠0):w=false/\b=0:=by
 cases w with
 |false=>exact⟨rfl,h⟩
 |true=>exact absurd h he
theorem zR {a b:Int} (h:UF a b=0):a=0/\b=0:=by
 unfold UF at h;by_cases ha:a=0
 ·rw[aD ha] at h;exact⟨ha,h⟩
 ·rw[aC ha] at h;exact absurd h ha
theorem yL {α:Type} {f:Nat->α->Int} {l:List α} (h:kE f l=0):∀j z,l[j]?=some z->f j z=0:=by
 unfold kE at h;cases hx:dZ f 0 l with
 |none=>intro j z hz;have:=o5 hx j z hz;rwa [bI] at this
 |some p=>
  obtain⟨i,e⟩:=p;rw[hx] at h;have aux:∀(l:List α) (n:Nat),dZ f n l=some (i,e)->e≠0:=by
   intro l;induction l with
   |nil=>intro n h;cases h
   |cons x l ih=>
    intro n h;unfold dZ at h;by_cases h0:f n x=0
    ·rw[aD h0] at h;exact ih _ h
    ·rw[aC h0] at h;cases h;exact h0
  exact absurd h (aux l 0 hx)
def Q0 (known:List Itm->Bool) (r:Rc):Prop:=known r.its=true/\(r.place=2->∀n∈r.keys,r.its.any (·.name==n)=true)
theorem a1L {known:List Itm->Bool} {canon:By->Bool} {check:List Itm->By->Int} {s:Sch} {met:List By} {r:Rc} (h:J2 known canon check s met r=0):Q0 known r:=by
 unfold J2 gJ at h;obtain⟨-,h⟩:=bM h (by decide);obtain⟨-,h⟩:=bM h (by decide);obtain⟨-,h⟩:=bM h (by decide);obtain⟨hk,h⟩:=bM h (by decide);obtain⟨h1, -⟩:=zR h;refine⟨by simpa using(Bool.or_eq_false_iff.1 hk).1,fun hp n hn=>?_⟩;unfold vA at h1;rw[aD hp] at h1;obtain⟨-,h1⟩:=bM h1 (by decide);obtain⟨j,hj⟩:=f9 hn;have h2:=yL h1 j n hj;unfold ON at h2;obtain⟨h2, -⟩:=bM h2 (by decide);simpa using h2
theorem Z3 {known:List Itm->Bool} {canon:By->Bool} {check:List Itm->By->Int} {s:Sch} {f:Nat->List By} (h:dZ (fun i r=>J2 known canon check s (f i) r) 0 s.rc=none):∀r∈s.rc,Q0 known r:=by
 intro r hr;obtain⟨j,hj⟩:=f9 hr;exact a1L (o5 h j r hj)
theorem M5 {s:Sch} {n:By} (h:(fV s).contains n=true):bS s n∈s.rc/\s.rc.find? (·.name==n)=some (bS s n):=by
 have:∃r,s.rc.find? (·.name==n)=some r:=by
  cases hf:s.rc.find? (·.name==n) with
  |some r=>exact⟨r,rfl⟩
  |none=>
   have h9:n∈fV s:=by simpa using h
   obtain⟨r,hr,e⟩:=List.mem_map.1 h9;have:=List.find?_eq_none.1 hf r hr;rw[e] at this;simp at this
 obtain⟨r,hr⟩:=this;have e:bS s n=r:=by unfold bS;rw[hr];rfl
 rw[e];exact⟨List.mem_of_find?_eq_some hr,hr⟩
theorem cE {α:Type} (f:α->By) (l:List α) (n:By):(l.map f).contains n=l.any (fun x=>f x==n):=by
 induction l with
 |nil=>rfl
 |cons x l ih=>rw[dJ,iK,List.any_cons,ih,Bool.beq_comm]
theorem l8 {α:Type} (p:α->Bool) (l:List α):decide (0<=jJ p l)=l.any p:=by
 rw[dQ,aJ,List.any_eq_true];constructor
 ·intro h;obtain⟨i,y, -,hy,hp, -, -⟩:=E4 h;exact⟨y,aE hy,hp⟩
 ·intro⟨y,hy,hp⟩;rcases Int.lt_or_le (jJ p l) 0 with h9|h9
  ·rw[a8C.1 h9 y hy] at hp;cases hp
  ·exact h9
theorem nT {α:Type} (p:α->Bool) (l:List α):decide (jJ p l<0)=!l.any p:=by
 rw[<-l8];by_cases h:jJ p l<0
 ·rw[bC h,bN (by omega)];rfl
 ·rw[bN h,bC (by omega)];rfl
theorem B5 (a b:List By) (n:By):(a++b).contains n=(a.contains n||b.contains n):=by
 induction a with
 |nil=>simp
 |cons x a ih=>rw[List.cons_append,iK,iK,ih,Bool.or_assoc]
theorem a8Y (s:Sch) (i:Nat) (n:By):((bW s).take i).contains n=(s.ar.take i).any (fun x=>x.name==n):=by
 unfold bW;rw[<-eS];exact cE _ _ _
theorem a8X (s:Sch) (i:Nat) (n:By):(bW s++(fV s).take i).contains n=(s.ar.any (fun x=>x.name==n)||(s.rc.take i).any (fun x=>x.name==n)):=by
 rw[B5];unfold bW fV;rw[<-eS,cE,cE]
theorem a8W (s:Sch) (i:Nat) (n:By):(bW s++(fV s++(sA s).take i)).contains n=(s.ar.any (fun x=>x.name==n)||(s.rc.any (fun x=>x.name==n)||(s.st.take i).any (fun x=>x.name==n))):=by
 rw[B5,B5];unfold bW fV sA;rw[<-eS,cE,cE,cE]
