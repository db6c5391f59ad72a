/-
  A part of the proof of SchemaLess.
-/
import Derived.Test.YtcfgfkkhpdlhpaaGreatDoorQ24
set_option linter.all false
namespace Go.Proofs.YtcfgfkkhpdlhpaaGreatDoor
open Go.RowKit
set_option maxRecDepth 100000
set_option linter.unusedVariables false
def Term.cs (t:Term):List GV:=[.s t.name,.b t.var,.i .i64 t.v.k,.i .i64 t.v.n,.s t.v.s]
def Term.gv (t:Term):GV:=.agg t.cs
theorem Term.cl [MaxL] (t:Term):Cl t.gv:=fun _=>rfl
def wrongC:GV:=.ifc 271 (.agg [])
def qlit (w:List UInt8):Option Val:=match parseRow w with
 |some [v]=>if w.head?=some 34 then some v else none
 |_=>none
def litP (w:List UInt8):Option Val:=match Lib.atoiAll w with
 |.ok n=>if Lib.itoa n=w/\Val.ok ⟨1,n,[]⟩=true then some ⟨1,n,[]⟩ else qlit w
 |_=>qlit w
theorem litP_no {w:List UInt8} (h:∀v,Lib.atoiAll w≠ .ok v):litP w=qlit w:=by
 unfold litP
 split
 ·rename_i n e;exact absurd e (h n)
 ·rfl
theorem litP_ok {w:List UInt8} {n:Int} (h:Lib.atoiAll w=.ok n):litP w=if Lib.itoa n=w/\Val.ok ⟨1,n,[]⟩=true then some ⟨1,n,[]⟩ else qlit w:=by
 unfold litP;rw[h]
theorem c_Parse' [MaxL] (w:List UInt8) (h:w.length<=20000):SC Tryz.prog 347 [.s w] [] (.val (match parseRow w with|some vs=>.tup [.sl .none (valsG vs),.i .i64 0]|none=>.tup [.sl .none [],.i .i64 2])) []:=by
 have:=c_Parse w (by omega)
 rw[if_neg (by omega)] at this
 exact this
theorem cl_Parse [MaxL] (w:List UInt8):Cl (match parseRow w with|some vs=>.tup [.sl .none (valsG vs),.i .i64 0]|none=>.tup [.sl .none [],.i .i64 2]):=by
 cases parseRow w with
 |none=>exact clPan
 |some vs=>exact Cl.tup (.cons (Cl.sl (valsG_cl vs)) (.cons (.i _ _) .nil))
def Rd [MaxL] (k:FuncId) (a:List GV) (s:List UInt8) (n:Nat) (d:Int) (o:Option (GV×List (List UInt8)×Int)):Prop:=match o with
 |some (g,r,e)=>∃m,At s m r/\SC Tryz.prog k (.ptr 0 0::a) [rd s n d] (.val g) [rd s m e]
 |none=>SC Tryz.prog k (.ptr 0 0::a) [rd s n d] (.panic wrongC) [.dead]
theorem Rd.mk [MaxL] {k:FuncId} {a:List GV} {s:List UInt8} {n:Nat} {d:Int} {o:Option (GV×List (List UInt8)×Int)} (m:Nat) (hm:∀g r e,o=some (g,r,e)->At s m r)
  (h:Ct Tryz.prog k (.ptr 0 0::a) (rd s n d) wrongC (o.map fun p=>(p.1,rd s m p.2.2))):Rd k a s n d o:=by
 cases o with
 |none=>exact h
 |some p=>exact⟨m,hm _ _ _ rfl,h⟩
def termO (ts:List (List UInt8)) (d:Int):Option (GV×List (List UInt8)×Int):=(termW litP ts).map fun p=>(p.1.gv,p.2,d)
theorem termW_w {w:List UInt8} (h:w≠[58]) (ts:List (List UInt8)):termW litP (w::ts)=if isName w&&!kept.contains w then some (⟨w,false,v0⟩,ts) else match litP w with
   |some v=>some (⟨[],false,v⟩,ts)
   |none=>none:=by
 conv=>lhs;unfold termW
 rw[if_neg h]
 cases litP w<;>rfl
theorem termW_rest {w:List UInt8} {ts r:List (List UInt8)} {t:Term} (h:w≠[58]) (e:termW litP (w::ts)=some (t,r)):r=ts:=by
 rw[termW_w h] at e
 split at e
 ·cases e;rfl
 ·split at e
  ·cases e;rfl
  ·cases e
def Term.onV (t:Term):Term:=⟨t.name,true,t.v⟩
theorem termW_c (ts:List (List UInt8)):termW litP ([58]::ts)=match termW litP ts with
   |some (t,r)=>if t.name=[]∨t.var=true then none else some (t.onV,r)
   |none=>none:=by
 conv=>lhs;unfold termW
 rw[if_pos rfl];rfl
theorem c_term [MaxL] (s:List UInt8) (hs:s.length<=20000) (d:Int):∀(ts:List (List UInt8)) (n:Nat),At s n ts->Rd 337 [] s n d (termO ts d)
 |[],n,h=>by
  have hm:s.length<most:=by unfold most;omega
  have hw:=c_word' s n d h hm
  have hnb:=h.nb.1
  refine Rd.mk n (fun g r e h=>by cases h) ?_
  refine Ct.of_gwp noM mixed Tryz.func337 rfl (bL rfl) (fun _=>rfl) ?hh ?_
  case hh=>rfl
  have hP:=c_Parse' [] (by decide)
  have hPc:=cl_Parse []
  have hN:=c_Name []
  obtain⟨na,hA⟩:=c_Atoi_no [] (by decide) (fun v e=>by cases e)
  conv=>whnf
  refine pcB (q:=0) hw ?_
  conv=>whnf
  refine⟨[.i .i64 (nb s n:Nat)],⟨?_,zL _,rfl,bL rfl⟩,?_⟩
  ·show _=(GV.i .i64 (IntKind.i64.wrap ((nb s n:Int)+0))).cells
   rw[wrap_in (by omega) (by omega),Int.add_zero];rfl
  conv=>whnf
  refine pcP hN ?_
  conv=>whnf
  refine pcP hA ?_
  conv=>whnf
  refine callP hP (wR _) rfl (fun _=>rfl) hPc ?_
  conv=>whnf
  exact OwesO.panics rfl
 |w::ts,n,h=>by
  have hm:s.length<most:=by unfold most;omega
  have hw:=c_word' s n d h hm
  obtain⟨h1,h2⟩:=h.tail
  have hl2:=h2.1
  have hst:∀x:Int,x=((nb s n+w.length:Nat):Int)->[GV.i .i64 ((nb s n+w.length:Nat):Int)]=(GV.i .i64 (IntKind.i64.wrap ((nb s n:Int)+(w.length:Int)))).cells:=fun _ _=>by
   rw[wrap_in (by omega) (by omega)];rfl
  by_cases hc:w=[58]
  ·subst hc
   have ih:=c_term s hs d ts _ h2
   unfold termO at ih⊢
   rw[termW_c]
   cases ht:termW litP ts with
   |none=>
    rw[ht] at ih
    refine Rd.mk 0 (fun g r e h=>by cases h) ?_
    refine Ct.of_gwp noM mixed Tryz.func337 rfl (bL rfl) (fun _=>rfl) ?hh ?_
    case hh=>rfl
    conv=>whnf
    refine pcB (q:=0) hw ?_
    conv=>whnf
    refine⟨[.i .i64 (nb s n+1:Nat)],⟨hst _ rfl,zL _,rfl,bL rfl⟩,?_⟩
    conv=>whnf
    refine callBd (q:=0) ih rfl (by first|exact wR _|exact wC (Wk.sl _ _) (wR _)|exact wC (Wk.sl _ _) (wC (Wk.sl _ _) (wR _))|exact wC (Wk.refl _) (wC (Wk.sl _ _) (wR _))) rfl rfl (by first|exact fun _=>rfl|exact cA|exact cB fun _=>rfl) (by first|exact fun _=>rfl|exact cA|exact cB fun _=>rfl) (by first|exact fun _=>rfl|exact cA|exact cB fun _=>rfl) ?_
    conv=>whnf
    exact OwesO.deads rfl
   |some p=>
    obtain⟨t,r⟩:=p
    rw[ht] at ih
    obtain⟨m,hmA,hc⟩:=ih
    refine Rd.mk m (fun g r' e h=>?_) ?_
    ·dsimp only at h
     split at h
     ·cases h
     ·cases h;exact hmA
    obtain⟨nm,vr,v⟩:=t
    by_cases hbad:nm=[]∨vr=true
    ·show Ct _ _ _ _ _ (Option.map _ (Option.map _ (if nm=[]∨vr=true then none else some _)))
     rw[if_pos hbad]
     refine Ct.of_gwp noM mixed Tryz.func337 rfl (bL rfl) (fun _=>rfl) ?hh ?_
     case hh=>rfl
     conv=>whnf
     refine pcB (q:=0) hw ?_
     conv=>whnf
     refine⟨[.i .i64 (nb s n+1:Nat)],⟨hst _ rfl,zL _,rfl,bL rfl⟩,?_⟩
     conv=>whnf
     refine pcB (q:=0) hc ?_
     conv=>whnf
     refine⟨_,⟨rfl,zL _,rfl,bL rfl⟩,?_⟩
     conv=>whnf
     refine GIf.mk (fun hn0=>?_) (fun hn0=>?_)<;>conv=>whnf
     ·exact OwesO.panics rfl
     ·have hn0':nm≠[]:=by simpa using hn0
      have hvr:vr=true:=hbad.resolve_left hn0'
      subst hvr
      conv=>whnf
      exact OwesO.panics rfl
    ·show Ct _ _ _ _ _ (Option.map _ (Option.map _ (if nm=[]∨vr=true then none else some _)))
     rw[if_neg hbad]
     have hn0':nm≠[]:=fun e=>hbad (.inl e)
     have hvr:vr=false:=by cases vr with
      |false=>rfl
      |true=>exact absurd (.inr rfl) hbad
     subst hvr
     refine Ct.of_gwp noM mixed Tryz.func337 rfl (bL rfl) (fun _=>rfl) ?hh ?_
     case hh=>rfl
     conv=>whnf
     refine pcB (q:=0) hw ?_
     conv=>whnf
     refine⟨[.i .i64 (nb s n+1:Nat)],⟨hst _ rfl,zL _,rfl,bL rfl⟩,?_⟩
     conv=>whnf
     refine pcB (q:=0) hc ?_
     conv=>whnf
     refine⟨_,⟨rfl,zL _,rfl,bL rfl⟩,?_⟩
     conv=>whnf
     refine GIf.mk (fun hn0=>?_) (fun hn0=>?_)<;>conv=>whnf
     ·exact absurd (by simpa using hn0) hn0'
     ·skip
      refine⟨_,⟨rfl,zL _,rfl,bL rfl⟩,?_⟩
      conv=>whnf
      refine⟨_,⟨rfl,zL _,rfl,bL rfl⟩,?_⟩
      conv=>whnf
      exact OwesO.box rfl rfl (.refl _) (fun _=>rfl) (Term.cl _)
  ·have hrest:=fun(t:Term) (r:List (List UInt8))=>termW_rest (ts:=ts) (t:=t) (r:=r) hc
   have htw:=termW_w hc ts
   refine Rd.mk (nb s n+w.length) (fun g r e h=>?_) ?_
   ·unfold termO at h
    cases hT:termW litP (w::ts) with
    |none=>rw[hT] at h;cases h
    |some p=>
     obtain⟨t,r'⟩:=p
     rw[hT] at h;cases h
     rw[hrest _ _ hT];exact h2
   generalize hG:(termO (w::ts) d).map (fun p=>(p.1,rd s (nb s n+w.length) p.2.2))=G
   have hwl:w.length<=20000:=by omega
   have hP:=c_Parse' w hwl
   have hPc:=cl_Parse w
   refine Ct.of_gwp noM mixed Tryz.func337 rfl (bL rfl) (fun _=>rfl) ?hh ?_
   case hh=>
    rw[<-hG];unfold termO
    cases termW litP (w::ts)<;>rfl
   conv=>whnf
   refine pcB (q:=0) hw ?_
   conv=>whnf
   refine⟨[.i .i64 (nb s n+w.length:Nat)],⟨hst _ rfl,zL _,rfl,bL rfl⟩,?_⟩
   conv=>whnf
   refine GIf.mk (fun hcc=>?_) (fun hcc=>?_)<;>conv=>whnf
   ·exact absurd (by simpa using hcc) hc
   refine pcP (c_Name w) ?_
   conv=>whnf
   have names:isName w=true->kept.contains w=false->G=some (Term.gv ⟨w,false,v0⟩,rd s (nb s n+w.length) d):=fun a b=>by
    rw[<-hG];unfold termO;rw[htw,a,b];rfl
   have hlit:(isName w&&!kept.contains w)=false->(litP w=none->G=none)/\(∀v,litP w=some v->G=some (Term.gv ⟨[],false,v⟩,rd s (nb s n+w.length) d)):=fun a=>
    ⟨fun b=>by rw[<-hG];unfold termO;rw[htw,a,b];rfl,fun v b=>by rw[<-hG];unfold termO;rw[htw,a,b];rfl⟩
   clear htw hG hrest
   cases hnm:isName w with
   |true=>
    rw[hnm] at names hlit
    conv=>whnf
    refine pcP (c_keptC w) ?_
    conv=>whnf
    cases hk:kept.contains w with
    |false=>
     conv=>whnf
     refine⟨_,⟨rfl,zL _,rfl,bL rfl⟩,?_⟩
     conv=>whnf
     exact OwesO.box (names rfl hk) rfl (.refl _) (fun _=>rfl) (Term.cl _)
    |true=>
     obtain⟨hOn,hOs⟩:=hlit (by rw[hk];rfl)
     clear names hlit
     conv=>whnf
     by_cases hex:∃v,Lib.atoiAll w=.ok v
     ·obtain⟨k,hk1⟩:=hex
      obtain⟨lo,hi⟩:=atoi_lo hk1
      have hlo:=litP_ok hk1
      refine pcP (c_Atoi_ok w (by omega) k hk1) ?_
      conv=>whnf
      refine pcP (c_Itoa k lo hi) ?_
      conv=>whnf
      refine GIf.mk (fun heq=>?_) (fun heq=>?_)<;>conv=>whnf
      ·have heq':Lib.itoa k=w:=by simpa using heq
       refine⟨_,⟨rfl,zL _,rfl,bL rfl⟩,?_⟩
       conv=>whnf
       refine pcP (c_ValidValue ⟨1,k,[]⟩) ?_
       conv=>whnf
       cases hvv:Val.ok ⟨1,k,[]⟩ with
       |true=>
        have hO:=hOs _ (hlo.trans (if_pos ⟨heq',hvv⟩))
        conv=>whnf
        refine⟨_,⟨rfl,zL _,rfl,bL rfl⟩,?_⟩
        conv=>whnf
        exact OwesO.box hO rfl (.refl _) (fun _=>rfl) (Term.cl _)
       |false=>
        have hq1:litP w=qlit w:=hlo.trans (if_neg (fun h=>by rw[hvv] at h;exact absurd h.2 (by decide)))
        conv=>whnf
        refine callP hP (wR _) rfl (fun _=>rfl) hPc ?_
        cases hpr:parseRow w with
        |none=>
         conv=>whnf
         have hq0:litP w=none:=hq1.trans (by unfold qlit;rw[hpr])
         have hO:=hOn hq0
         exact OwesO.panics hO
        |some vs=>
         rcases vs with _|⟨v,_|⟨v2,vs⟩⟩
         ·conv=>whnf
          have hq0:litP w=none:=hq1.trans (by unfold qlit;rw[hpr])
          have hO:=hOn hq0
          exact OwesO.panics hO
         ·conv=>whnf
          have hwne:w≠[]:=fun e=>by subst e;cases hpr
          obtain⟨c,w',hcw⟩:=List.exists_cons_of_ne_nil hwne
          refine⟨by decide,c,by rw[hcw];rfl,?_⟩
          conv=>whnf
          refine GIf.mk (fun h34=>?_) (fun h34=>?_)<;>conv=>whnf
          ·have h34':=u8_eq (d:=34) h34
           have hq0:litP w=some v:=hq1.trans (by unfold qlit;rw[hpr,hcw,h34'];rfl)
           have hO:=hOs v hq0
           refine⟨Int.le_refl 0,v.gv,rfl,rfl,?_⟩
           conv=>whnf
           refine⟨_,⟨rfl,zL _,rfl,bL rfl⟩,?_⟩
           conv=>whnf
           refine OwesO.box hO rfl (.refl _) (fun _=>rfl) (Term.cl _)
          ·have h34':=u8_ne (d:=34) h34
           have hq0:litP w=none:=hq1.trans (by unfold qlit;rw[hpr,hcw];simp[h34'])
           have hO:=hOn hq0
           exact OwesO.panics hO
         ·conv=>whnf
          have hq0:litP w=none:=hq1.trans (by unfold qlit;rw[hpr])
          have hO:=hOn hq0
          exact OwesO.panics hO
      ·have heq':¬Lib.itoa k=w:=by simpa using heq
       have hq1:litP w=qlit w:=hlo.trans (if_neg (fun h=>heq' h.1))
       refine callP hP (wR _) rfl (fun _=>rfl) hPc ?_
       cases hpr:parseRow w with
       |none=>
        conv=>whnf
        have hq0:litP w=none:=hq1.trans (by unfold qlit;rw[hpr])
        have hO:=hOn hq0
        exact OwesO.panics hO
       |some vs=>
        rcases vs with _|⟨v,_|⟨v2,vs⟩⟩
        ·conv=>whnf
         have hq0:litP w=none:=hq1.trans (by unfold qlit;rw[hpr])
         have hO:=hOn hq0
         exact OwesO.panics hO
        ·conv=>whnf
         have hwne:w≠[]:=fun e=>by subst e;cases hpr
         obtain⟨c,w',hcw⟩:=List.exists_cons_of_ne_nil hwne
         refine⟨by decide,c,by rw[hcw];rfl,?_⟩
         conv=>whnf
         refine GIf.mk (fun h34=>?_) (fun h34=>?_)<;>conv=>whnf
         ·have h34':=u8_eq (d:=34) h34
          have hq0:litP w=some v:=hq1.trans (by unfold qlit;rw[hpr,hcw,h34'];rfl)
          have hO:=hOs v hq0
          refine⟨Int.le_refl 0,v.gv,rfl,rfl,?_⟩
          conv=>whnf
          refine⟨_,⟨rfl,zL _,rfl,bL rfl⟩,?_⟩
          conv=>whnf
          refine OwesO.box hO rfl (.refl _) (fun _=>rfl) (Term.cl _)
         ·have h34':=u8_ne (d:=34) h34
          have hq0:litP w=none:=hq1.trans (by unfold qlit;rw[hpr,hcw];simp[h34'])
          have hO:=hOn hq0
          exact OwesO.panics hO
        ·conv=>whnf
         have hq0:litP w=none:=hq1.trans (by unfold qlit;rw[hpr])
         have hO:=hOn hq0
         exact OwesO.panics hO
     ·obtain⟨na,hA⟩:=c_Atoi_no w (by omega) (fun v e=>hex ⟨v,e⟩)
      have hq1:litP w=qlit w:=litP_no (fun v e=>hex ⟨v,e⟩)
      refine pcP hA ?_
      conv=>whnf
      refine callP hP (wR _) rfl (fun _=>rfl) hPc ?_
      cases hpr:parseRow w with
      |none=>
       conv=>whnf
       have hq0:litP w=none:=hq1.trans (by unfold qlit;rw[hpr])
       have hO:=hOn hq0
       exact OwesO.panics hO
      |some vs=>
       rcases vs with _|⟨v,_|⟨v2,vs⟩⟩
       ·conv=>whnf
        have hq0:litP w=none:=hq1.trans (by unfold qlit;rw[hpr])
        have hO:=hOn hq0
        exact OwesO.panics hO
       ·conv=>whnf
        have hwne:w≠[]:=fun e=>by subst e;cases hpr
        obtain⟨c,w',hcw⟩:=List.exists_cons_of_ne_nil hwne
        refine⟨by decide,c,by rw[hcw];rfl,?_⟩
        conv=>whnf
        refine GIf.mk (fun h34=>?_) (fun h34=>?_)<;>conv=>whnf
        ·have h34':=u8_eq (d:=34) h34
         have hq0:litP w=some v:=hq1.trans (by unfold qlit;rw[hpr,hcw,h34'];rfl)
         have hO:=hOs v hq0
         refine⟨Int.le_refl 0,v.gv,rfl,rfl,?_⟩
         conv=>whnf
         refine⟨_,⟨rfl,zL _,rfl,bL rfl⟩,?_⟩
         conv=>whnf
         refine OwesO.box hO rfl (.refl _) (fun _=>rfl) (Term.cl _)
        ·have h34':=u8_ne (d:=34) h34
         have hq0:litP w=none:=hq1.trans (by unfold qlit;rw[hpr,hcw];simp[h34'])
         have hO:=hOn hq0
         exact OwesO.panics hO
       ·conv=>whnf
        have hq0:litP w=none:=hq1.trans (by unfold qlit;rw[hpr])
        have hO:=hOn hq0
        exact OwesO.panics hO
   |false=>
    rw[hnm] at hlit
    obtain⟨hOn,hOs⟩:=hlit rfl
    clear names hlit
    conv=>whnf
    by_cases hex:∃v,Lib.atoiAll w=.ok v
    ·obtain⟨k,hk1⟩:=hex
     obtain⟨lo,hi⟩:=atoi_lo hk1
     have hlo:=litP_ok hk1
     refine pcP (c_Atoi_ok w (by omega) k hk1) ?_
     conv=>whnf
     refine pcP (c_Itoa k lo hi) ?_
     conv=>whnf
     refine GIf.mk (fun heq=>?_) (fun heq=>?_)<;>conv=>whnf
     ·have heq':Lib.itoa k=w:=by simpa using heq
      refine⟨_,⟨rfl,zL _,rfl,bL rfl⟩,?_⟩
      conv=>whnf
      refine pcP (c_ValidValue ⟨1,k,[]⟩) ?_
      conv=>whnf
      cases hvv:Val.ok ⟨1,k,[]⟩ with
      |true=>
       have hO:=hOs _ (hlo.trans (if_pos ⟨heq',hvv⟩))
       conv=>whnf
       refine⟨_,⟨rfl,zL _,rfl,bL rfl⟩,?_⟩
       conv=>whnf
       exact OwesO.box hO rfl (.refl _) (fun _=>rfl) (Term.cl _)
      |false=>
       have hq1:litP w=qlit w:=hlo.trans (if_neg (fun h=>by rw[hvv] at h;exact absurd h.2 (by decide)))
       conv=>whnf
       refine callP hP (wR _) rfl (fun _=>rfl) hPc ?_
       cases hpr:parseRow w with
       |none=>
        conv=>whnf
        have hq0:litP w=none:=hq1.trans (by unfold qlit;rw[hpr])
        have hO:=hOn hq0
        exact OwesO.panics hO
       |some vs=>
        rcases vs with _|⟨v,_|⟨v2,vs⟩⟩
        ·conv=>whnf
         have hq0:litP w=none:=hq1.trans (by unfold qlit;rw[hpr])
         have hO:=hOn hq0
         exact OwesO.panics hO
        ·conv=>whnf
         have hwne:w≠[]:=fun e=>by subst e;cases hpr
         obtain⟨c,w',hcw⟩:=List.exists_cons_of_ne_nil hwne
         refine⟨by decide,c,by rw[hcw];rfl,?_⟩
         conv=>whnf
         refine GIf.mk (fun h34=>?_) (fun h34=>?_)<;>conv=>whnf
         ·have h34':=u8_eq (d:=34) h34
          have hq0:litP w=some v:=hq1.trans (by unfold qlit;rw[hpr,hcw,h34'];rfl)
          have hO:=hOs v hq0
          refine⟨Int.le_refl 0,v.gv,rfl,rfl,?_⟩
          conv=>whnf
          refine⟨_,⟨rfl,zL _,rfl,bL rfl⟩,?_⟩
          conv=>whnf
          refine OwesO.box hO rfl (.refl _) (fun _=>rfl) (Term.cl _)
         ·have h34':=u8_ne (d:=34) h34
          have hq0:litP w=none:=hq1.trans (by unfold qlit;rw[hpr,hcw];simp[h34'])
          have hO:=hOn hq0
          exact OwesO.panics hO
        ·conv=>whnf
         have hq0:litP w=none:=hq1.trans (by unfold qlit;rw[hpr])
         have hO:=hOn hq0
         exact OwesO.panics hO
     ·have heq':¬Lib.itoa k=w:=by simpa using heq
      have hq1:litP w=qlit w:=hlo.trans (if_neg (fun h=>heq' h.1))
      refine callP hP (wR _) rfl (fun _=>rfl) hPc ?_
      cases hpr:parseRow w with
      |none=>
       conv=>whnf
       have hq0:litP w=none:=hq1.trans (by unfold qlit;rw[hpr])
       have hO:=hOn hq0
       exact OwesO.panics hO
      |some vs=>
       rcases vs with _|⟨v,_|⟨v2,vs⟩⟩
       ·conv=>whnf
        have hq0:litP w=none:=hq1.trans (by unfold qlit;rw[hpr])
        have hO:=hOn hq0
        exact OwesO.panics hO
       ·conv=>whnf
        have hwne:w≠[]:=fun e=>by subst e;cases hpr
        obtain⟨c,w',hcw⟩:=List.exists_cons_of_ne_nil hwne
        refine⟨by decide,c,by rw[hcw];rfl,?_⟩
        conv=>whnf
        refine GIf.mk (fun h34=>?_) (fun h34=>?_)<;>conv=>whnf
        ·have h34':=u8_eq (d:=34) h34
         have hq0:litP w=some v:=hq1.trans (by unfold qlit;rw[hpr,hcw,h34'];rfl)
         have hO:=hOs v hq0
         refine⟨Int.le_refl 0,v.gv,rfl,rfl,?_⟩
         conv=>whnf
         refine⟨_,⟨rfl,zL _,rfl,bL rfl⟩,?_⟩
         conv=>whnf
         refine OwesO.box hO rfl (.refl _) (fun _=>rfl) (Term.cl _)
        ·have h34':=u8_ne (d:=34) h34
         have hq0:litP w=none:=hq1.trans (by unfold qlit;rw[hpr,hcw];simp[h34'])
         have hO:=hOn hq0
         exact OwesO.panics hO
       ·conv=>whnf
        have hq0:litP w=none:=hq1.trans (by unfold qlit;rw[hpr])
        have hO:=hOn hq0
        exact OwesO.panics hO
    ·obtain⟨na,hA⟩:=c_Atoi_no w (by omega) (fun v e=>hex ⟨v,e⟩)
     have hq1:litP w=qlit w:=litP_no (fun v e=>hex ⟨v,e⟩)
     refine pcP hA ?_
     conv=>whnf
     refine callP hP (wR _) rfl (fun _=>rfl) hPc ?_
     cases hpr:parseRow w with
     |none=>
      conv=>whnf
      have hq0:litP w=none:=hq1.trans (by unfold qlit;rw[hpr])
      have hO:=hOn hq0
      exact OwesO.panics hO
     |some vs=>
      rcases vs with _|⟨v,_|⟨v2,vs⟩⟩
      ·conv=>whnf
       have hq0:litP w=none:=hq1.trans (by unfold qlit;rw[hpr])
       have hO:=hOn hq0
       exact OwesO.panics hO
      ·conv=>whnf
       have hwne:w≠[]:=fun e=>by subst e;cases hpr
       obtain⟨c,w',hcw⟩:=List.exists_cons_of_ne_nil hwne
       refine⟨by decide,c,by rw[hcw];rfl,?_⟩
       conv=>whnf
       refine GIf.mk (fun h34=>?_) (fun h34=>?_)<;>conv=>whnf
       ·have h34':=u8_eq (d:=34) h34
        have hq0:litP w=some v:=hq1.trans (by unfold qlit;rw[hpr,hcw,h34'];rfl)
        have hO:=hOs v hq0
        refine⟨Int.le_refl 0,v.gv,rfl,rfl,?_⟩
        conv=>whnf
        refine⟨_,⟨rfl,zL _,rfl,bL rfl⟩,?_⟩
        conv=>whnf
        refine OwesO.box hO rfl (.refl _) (fun _=>rfl) (Term.cl _)
       ·have h34':=u8_ne (d:=34) h34
        have hq0:litP w=none:=hq1.trans (by unfold qlit;rw[hpr,hcw];simp[h34'])
        have hO:=hOn hq0
        exact OwesO.panics hO
      ·conv=>whnf
       have hq0:litP w=none:=hq1.trans (by unfold qlit;rw[hpr])
       have hO:=hOn hq0
       exact OwesO.panics hO
end Go.Proofs.YtcfgfkkhpdlhpaaGreatDoor
