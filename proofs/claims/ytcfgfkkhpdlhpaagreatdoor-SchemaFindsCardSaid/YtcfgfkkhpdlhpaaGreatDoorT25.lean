/-
  A part of the proof of SchemaFinds.
-/
import Derived.Test.YtcfgfkkhpdlhpaaGreatDoorT24
set_option linter.all false
set_option maxRecDepth 100000
namespace Go.Proofs.YtcfgfkkhpdlhpaaGreatDoor
open Go.RowKit
def Term.cs (t:Term):List GV:=[.s t.name,.b t.var,.i .i64 t.v.k,.i .i64 t.v.n,.s t.v.s]
def Term.gv (t:Term):GV:=.agg t.cs
theorem Term.cl [MaxL] (t:Term):Cl t.gv:=fun _=>rfl
def gO:GV:=.ifc 271 (.agg [])
def jQ (w:List UInt8):Option Val:=match eT w with
 |some [v]=>if w.head?=some 34 then some v else none
 |_=>none
def cL (w:List UInt8):Option Val:=match Lib.atoiAll w with
 |.ok n=>if Lib.itoa n=w/\Val.ok ⟨1,n,[]⟩=true then some ⟨1,n,[]⟩ else jQ w
 |_=>jQ w
theorem uT {w:List UInt8} (h:∀v,Lib.atoiAll w≠ .ok v):cL w=jQ w:=by
 unfold cL;split
 ·rename_i n e;exact absurd e (h n)
 ·rfl
theorem A7 {w:List UInt8} {n:Int} (h:Lib.atoiAll w=.ok n):cL w=if Lib.itoa n=w/\Val.ok ⟨1,n,[]⟩=true then some ⟨1,n,[]⟩ else jQ w:=by
 unfold cL;rw[h]
theorem O6 [MaxL] (w:List UInt8) (h:w.length<=20000):SC Tryz.prog 347 [.s w] [] (.val (match eT w with|some vs=>.tup [.sl .none (iQ vs),.i .i64 0]|none=>.tup [.sl .none [],.i .i64 2])) []:=by
 have:=a0Z w (by omega);rw[aE (by omega)] at this;exact this
theorem O0 [MaxL] (w:List UInt8):Cl (match eT w with|some vs=>.tup [.sl .none (iQ vs),.i .i64 0]|none=>.tup [.sl .none [],.i .i64 2]):=by
 cases eT w with
 |none=>exact yH
 |some vs=>exact fJ (.cons (bV (jJ vs)) (.cons (.i _ _) .nil))
def Rd [MaxL] (k:FuncId) (a:List GV) (s:List UInt8) (n:Nat) (d:Int) (o:Option (GV×List (List UInt8)×Int)):Prop:=match o with
 |some (g,r,e)=>∃m,At s m r/\SC Tryz.prog k (.ptr 0 0::a) [rd s n d] (.val g) [rd s m e]
 |none=>SC Tryz.prog k (.ptr 0 0::a) [rd s n d] (.panic gO) [.dead]
theorem Rd.mk [MaxL] {k:FuncId} {a:List GV} {s:List UInt8} {n:Nat} {d:Int} {o:Option (GV×List (List UInt8)×Int)} (m:Nat) (hm:∀g r e,o=some (g,r,e)->At s m r)
  (h:Ct Tryz.prog k (.ptr 0 0::a) (rd s n d) gO (o.map fun p=>(p.1,rd s m p.2.2))):Rd k a s n d o:=by
 cases o with
 |none=>exact h
 |some p=>exact⟨m,hm _ _ _ rfl,h⟩
def y6 (ts:List (List UInt8)) (d:Int):Option (GV×List (List UInt8)×Int):=(gB cL ts).map fun p=>(p.1.gv,p.2,d)
theorem JB {w:List UInt8} (h:w≠[58]) (ts:List (List UInt8)):gB cL (w::ts)=if fV w&&!a2q.contains w then some (⟨w,false,v0⟩,ts) else match cL w with
   |some v=>some (⟨[],false,v⟩,ts)
   |none=>none:=by
 conv=>lhs;unfold gB
 rw[aE h];cases cL w<;>rfl
theorem OO {w:List UInt8} {ts r:List (List UInt8)} {t:Term} (h:w≠[58]) (e:gB cL (w::ts)=some (t,r)):r=ts:=by
 rw[JB h] at e;split at e
 ·cases e;rfl
 ·split at e
  ·cases e;rfl
  ·cases e
def Term.onV (t:Term):Term:=⟨t.name,true,t.v⟩
theorem QM (ts:List (List UInt8)):gB cL ([58]::ts)=match gB cL ts with
   |some (t,r)=>if t.name=[]∨t.var=true then none else some (t.onV,r)
   |none=>none:=by
 conv=>lhs;unfold gB
 rw[aG rfl];rfl
theorem QC [MaxL] (s:List UInt8) (hs:s.length<=20000) (d:Int):∀(ts:List (List UInt8)) (n:Nat),At s n ts->Rd 337 [] s n d (y6 ts d)
 |[],n,h=>by
  have hm:s.length<bH:=by unfold bH;omega
  have hw:=l6 s n d h hm;have hnb:=h.nb.1;refine Rd.mk n (fun g r e h=>by cases h) ?_;refine gS oY mixed Tryz.func337 rfl (bL rfl) (fun _=>rfl) ?hh ?_
  case hh=>rfl
  have hP:=O6 [] (by decide);have hPc:=O0 [];have hN:=LI [];obtain⟨na,hA⟩:=xX [] (by decide) (fun v e=>by cases e);conv=>whnf
  refine rQ (q:=0) hw ?_;conv=>whnf
  refine⟨[.i .i64 (nb s n:Nat)],⟨?_,zL _,rfl,bL rfl⟩,?_⟩
  ·show _=(GV.i .i64 (IntKind.i64.wrap ((nb s n:Int)+0))).cells;rw[cD (by omega) (by omega),Int.add_zero];rfl
  conv=>whnf
  refine nH hN ?_;conv=>whnf
  refine nH hA ?_;conv=>whnf
  refine bG hP (wR _) rfl (fun _=>rfl) hPc ?_;conv=>whnf
  exact bW rfl
 |w::ts,n,h=>by
  have hm:s.length<bH:=by unfold bH;omega
  have hw:=l6 s n d h hm;obtain⟨h1,h2⟩:=h.tail;have hl2:=h2.1;have hst:∀x:Int,x=((nb s n+w.length:Nat):Int)->[GV.i .i64 ((nb s n+w.length:Nat):Int)]=(GV.i .i64 (IntKind.i64.wrap ((nb s n:Int)+(w.length:Int)))).cells:=fun _ _=>by
   rw[cD (by omega) (by omega)];rfl
  by_cases hc:w=[58]
  ·subst hc;have ih:=QC s hs d ts _ h2;unfold y6 at ih⊢;rw[QM];cases ht:gB cL ts with
   |none=>
    rw[ht] at ih;refine Rd.mk 0 (fun g r e h=>by cases h) ?_;refine gS oY mixed Tryz.func337 rfl (bL rfl) (fun _=>rfl) ?hh ?_
    case hh=>rfl
    (conv=>whnf);refine rQ (q:=0) hw ?_;(conv=>whnf);refine⟨[.i .i64 (nb s n+1:Nat)],⟨hst _ rfl,zL _,rfl,bL rfl⟩,?_⟩;(conv=>whnf);refine m5 (q:=0) ih rfl (by first|exact wR _|exact wC (bE _ _) (wR _)|exact wC (bE _ _) (wC (bE _ _) (wR _))|exact wC (cY _) (wC (bE _ _) (wR _))) rfl rfl (by first|exact fun _=>rfl|exact cA|exact cB fun _=>rfl) (by first|exact fun _=>rfl|exact cA|exact cB fun _=>rfl) (by first|exact fun _=>rfl|exact cA|exact cB fun _=>rfl) ?_;(conv=>whnf);exact j0 rfl
   |some p=>
    obtain⟨t,r⟩:=p;rw[ht] at ih;obtain⟨m,hmA,hc⟩:=ih;refine Rd.mk m (fun g r' e h=>?_) ?_
    ·dsimp only at h;split at h
     ·cases h
     ·cases h;exact hmA
    obtain⟨nm,vr,v⟩:=t;by_cases hbad:nm=[]∨vr=true
    ·show Ct _ _ _ _ _ (Option.map _ (Option.map _ (if nm=[]∨vr=true then none else some _)));rw[aG hbad];refine gS oY mixed Tryz.func337 rfl (bL rfl) (fun _=>rfl) ?hh ?_
     case hh=>rfl
     (conv=>whnf);refine rQ (q:=0) hw ?_;(conv=>whnf);refine⟨[.i .i64 (nb s n+1:Nat)],⟨hst _ rfl,zL _,rfl,bL rfl⟩,?_⟩;(conv=>whnf);refine rQ (q:=0) hc ?_;(conv=>whnf);refine⟨_,⟨rfl,zL _,rfl,bL rfl⟩,?_⟩;(conv=>whnf);refine aF (fun hn0=>?_) (fun hn0=>?_)<;>conv=>whnf
     ·exact bW rfl
     ·have hn0':nm≠[]:=by simpa using hn0
      have hvr:vr=true:=hbad.resolve_left hn0';subst hvr;(conv=>whnf);exact bW rfl
    ·show Ct _ _ _ _ _ (Option.map _ (Option.map _ (if nm=[]∨vr=true then none else some _)));rw[aE hbad];have hn0':nm≠[]:=fun e=>hbad (.inl e);have hvr:vr=false:=by cases vr with
      |false=>rfl
      |true=>exact absurd (.inr rfl) hbad
     subst hvr;refine gS oY mixed Tryz.func337 rfl (bL rfl) (fun _=>rfl) ?hh ?_
     case hh=>rfl
     (conv=>whnf);refine rQ (q:=0) hw ?_;(conv=>whnf);refine⟨[.i .i64 (nb s n+1:Nat)],⟨hst _ rfl,zL _,rfl,bL rfl⟩,?_⟩;(conv=>whnf);refine rQ (q:=0) hc ?_;(conv=>whnf);refine⟨_,⟨rfl,zL _,rfl,bL rfl⟩,?_⟩;(conv=>whnf);refine aF (fun hn0=>?_) (fun hn0=>?_)<;>conv=>whnf
     ·exact absurd (by simpa using hn0) hn0'
     ·skip;refine⟨_,⟨rfl,zL _,rfl,bL rfl⟩,?_⟩;(conv=>whnf);refine⟨_,⟨rfl,zL _,rfl,bL rfl⟩,?_⟩;(conv=>whnf);exact gE rfl rfl (.refl _) (fun _=>rfl) (Term.cl _)
  ·have hrest:=fun(t:Term) (r:List (List UInt8))=>OO (ts:=ts) (t:=t) (r:=r) hc;have htw:=JB hc ts;refine Rd.mk (nb s n+w.length) (fun g r e h=>?_) ?_
   ·unfold y6 at h;cases hT:gB cL (w::ts) with
    |none=>rw[hT] at h;cases h
    |some p=>
     obtain⟨t,r'⟩:=p;rw[hT] at h;cases h;rw[hrest _ _ hT];exact h2
   generalize hG:(y6 (w::ts) d).map (fun p=>(p.1,rd s (nb s n+w.length) p.2.2))=G;have hwl:w.length<=20000:=by omega
   have hP:=O6 w hwl;have hPc:=O0 w;refine gS oY mixed Tryz.func337 rfl (bL rfl) (fun _=>rfl) ?hh ?_
   case hh=>
    rw[<-hG];unfold y6;cases gB cL (w::ts)<;>rfl
   (conv=>whnf);refine rQ (q:=0) hw ?_;(conv=>whnf);refine⟨[.i .i64 (nb s n+w.length:Nat)],⟨hst _ rfl,zL _,rfl,bL rfl⟩,?_⟩;(conv=>whnf);refine aF (fun hcc=>?_) (fun hcc=>?_)<;>conv=>whnf
   ·exact absurd (by simpa using hcc) hc
   refine nH (LI w) ?_;(conv=>whnf);have names:fV w=true->a2q.contains w=false->G=some (Term.gv ⟨w,false,v0⟩,rd s (nb s n+w.length) d):=fun a b=>by
    rw[<-hG];unfold y6;rw[htw,a,b];rfl
   have hlit:(fV w&&!a2q.contains w)=false->(cL w=none->G=none)/\(∀v,cL w=some v->G=some (Term.gv ⟨[],false,v⟩,rd s (nb s n+w.length) d)):=fun a=>
    ⟨fun b=>by rw[<-hG];unfold y6;rw[htw,a,b];rfl,fun v b=>by rw[<-hG];unfold y6;rw[htw,a,b];rfl⟩
   clear htw hG hrest;cases hnm:fV w with
   |true=>
    rw[hnm] at names hlit;(conv=>whnf);refine nH (a0U w) ?_;(conv=>whnf);cases hk:a2q.contains w with
    |false=>
     (conv=>whnf);refine⟨_,⟨rfl,zL _,rfl,bL rfl⟩,?_⟩;(conv=>whnf);exact gE (names rfl hk) rfl (.refl _) (fun _=>rfl) (Term.cl _)
    |true=>
     obtain⟨hOn,hOs⟩:=hlit (by rw[hk];rfl);clear names hlit;(conv=>whnf);by_cases hex:∃v,Lib.atoiAll w=.ok v
     ·obtain⟨k,hk1⟩:=hex;obtain⟨lo,hi⟩:=LO hk1;have hlo:=A7 hk1;refine nH (CB w (by omega) k hk1) ?_;(conv=>whnf);refine nH (LJ k lo hi) ?_;(conv=>whnf);refine aF (fun heq=>?_) (fun heq=>?_)<;>conv=>whnf
      ·have heq':Lib.itoa k=w:=by simpa using heq
       refine⟨_,⟨rfl,zL _,rfl,bL rfl⟩,?_⟩;(conv=>whnf);refine nH (vJ ⟨1,k,[]⟩) ?_;(conv=>whnf);cases hvv:Val.ok ⟨1,k,[]⟩ with
       |true=>
        have hO:=hOs _ (hlo.trans (aG ⟨heq',hvv⟩));(conv=>whnf);refine⟨_,⟨rfl,zL _,rfl,bL rfl⟩,?_⟩;(conv=>whnf);exact gE hO rfl (.refl _) (fun _=>rfl) (Term.cl _)
       |false=>
        have hq1:cL w=jQ w:=hlo.trans (aE (fun h=>by rw[hvv] at h;exact absurd h.2 (by decide)));(conv=>whnf);refine bG hP (wR _) rfl (fun _=>rfl) hPc ?_;cases hpr:eT w with
        |none=>
         (conv=>whnf);have hq0:cL w=none:=hq1.trans (by unfold jQ;rw[hpr]);have hO:=hOn hq0;exact bW hO
        |some vs=>
         rcases vs with _|⟨v,_|⟨v2,vs⟩⟩
         ·(conv=>whnf);have hq0:cL w=none:=hq1.trans (by unfold jQ;rw[hpr]);have hO:=hOn hq0;exact bW hO
         ·(conv=>whnf);have hwne:w≠[]:=fun e=>by subst e;cases hpr
          obtain⟨c,w',hcw⟩:=cV hwne;refine⟨by decide,c,by rw[hcw];rfl,?_⟩;(conv=>whnf);refine aF (fun h34=>?_) (fun h34=>?_)<;>conv=>whnf
          ·have h34':=j2 (d:=34) h34;have hq0:cL w=some v:=hq1.trans (by unfold jQ;rw[hpr,hcw,h34'];rfl);have hO:=hOs v hq0;refine⟨dN 0,v.gv,rfl,rfl,?_⟩;(conv=>whnf);refine⟨_,⟨rfl,zL _,rfl,bL rfl⟩,?_⟩;(conv=>whnf);refine gE hO rfl (.refl _) (fun _=>rfl) (Term.cl _)
          ·have h34':=jV (d:=34) h34;have hq0:cL w=none:=hq1.trans (by unfold jQ;rw[hpr,hcw];simp[h34']);have hO:=hOn hq0;exact bW hO
         ·(conv=>whnf);have hq0:cL w=none:=hq1.trans (by unfold jQ;rw[hpr]);have hO:=hOn hq0;exact bW hO
      ·have heq':¬Lib.itoa k=w:=by simpa using heq
       have hq1:cL w=jQ w:=hlo.trans (aE (fun h=>heq' h.1));refine bG hP (wR _) rfl (fun _=>rfl) hPc ?_;cases hpr:eT w with
       |none=>
        (conv=>whnf);have hq0:cL w=none:=hq1.trans (by unfold jQ;rw[hpr]);have hO:=hOn hq0;exact bW hO
       |some vs=>
        rcases vs with _|⟨v,_|⟨v2,vs⟩⟩
        ·(conv=>whnf);have hq0:cL w=none:=hq1.trans (by unfold jQ;rw[hpr]);have hO:=hOn hq0;exact bW hO
        ·(conv=>whnf);have hwne:w≠[]:=fun e=>by subst e;cases hpr
         obtain⟨c,w',hcw⟩:=cV hwne;refine⟨by decide,c,by rw[hcw];rfl,?_⟩;(conv=>whnf);refine aF (fun h34=>?_) (fun h34=>?_)<;>conv=>whnf
         ·have h34':=j2 (d:=34) h34;have hq0:cL w=some v:=hq1.trans (by unfold jQ;rw[hpr,hcw,h34'];rfl);have hO:=hOs v hq0;refine⟨dN 0,v.gv,rfl,rfl,?_⟩;(conv=>whnf);refine⟨_,⟨rfl,zL _,rfl,bL rfl⟩,?_⟩;(conv=>whnf);refine gE hO rfl (.refl _) (fun _=>rfl) (Term.cl _)
         ·have h34':=jV (d:=34) h34;have hq0:cL w=none:=hq1.trans (by unfold jQ;rw[hpr,hcw];simp[h34']);have hO:=hOn hq0;exact bW hO
        ·(conv=>whnf);have hq0:cL w=none:=hq1.trans (by unfold jQ;rw[hpr]);have hO:=hOn hq0;exact bW hO
     ·obtain⟨na,hA⟩:=xX w (by omega) (fun v e=>hex ⟨v,e⟩);have hq1:cL w=jQ w:=uT (fun v e=>hex ⟨v,e⟩);refine nH hA ?_;(conv=>whnf);refine bG hP (wR _) rfl (fun _=>rfl) hPc ?_;cases hpr:eT w with
      |none=>
       (conv=>whnf);have hq0:cL w=none:=hq1.trans (by unfold jQ;rw[hpr]);have hO:=hOn hq0;exact bW hO
      |some vs=>
       rcases vs with _|⟨v,_|⟨v2,vs⟩⟩
       ·(conv=>whnf);have hq0:cL w=none:=hq1.trans (by unfold jQ;rw[hpr]);have hO:=hOn hq0;exact bW hO
       ·(conv=>whnf);have hwne:w≠[]:=fun e=>by subst e;cases hpr
        obtain⟨c,w',hcw⟩:=cV hwne;refine⟨by decide,c,by rw[hcw];rfl,?_⟩;(conv=>whnf);refine aF (fun h34=>?_) (fun h34=>?_)<;>conv=>whnf
        ·have h34':=j2 (d:=34) h34;have hq0:cL w=some v:=hq1.trans (by unfold jQ;rw[hpr,hcw,h34'];rfl);have hO:=hOs v hq0;refine⟨dN 0,v.gv,rfl,rfl,?_⟩;(conv=>whnf);refine⟨_,⟨rfl,zL _,rfl,bL rfl⟩,?_⟩;(conv=>whnf);refine gE hO rfl (.refl _) (fun _=>rfl) (Term.cl _)
        ·have h34':=jV (d:=34) h34;have hq0:cL w=none:=hq1.trans (by unfold jQ;rw[hpr,hcw];simp[h34']);have hO:=hOn hq0;exact bW hO
       ·(conv=>whnf);have hq0:cL w=none:=hq1.trans (by unfold jQ;rw[hpr]);have hO:=hOn hq0;exact bW hO
   |false=>
    rw[hnm] at hlit;obtain⟨hOn,hOs⟩:=hlit rfl;clear names hlit;(conv=>whnf);by_cases hex:∃v,Lib.atoiAll w=.ok v
    ·obtain⟨k,hk1⟩:=hex;obtain⟨lo,hi⟩:=LO hk1;have hlo:=A7 hk1;refine nH (CB w (by omega) k hk1) ?_;(conv=>whnf);refine nH (LJ k lo hi) ?_;(conv=>whnf);refine aF (fun heq=>?_) (fun heq=>?_)<;>conv=>whnf
     ·have heq':Lib.itoa k=w:=by simpa using heq
      refine⟨_,⟨rfl,zL _,rfl,bL rfl⟩,?_⟩;(conv=>whnf);refine nH (vJ ⟨1,k,[]⟩) ?_;(conv=>whnf);cases hvv:Val.ok ⟨1,k,[]⟩ with
      |true=>
       have hO:=hOs _ (hlo.trans (aG ⟨heq',hvv⟩));(conv=>whnf);refine⟨_,⟨rfl,zL _,rfl,bL rfl⟩,?_⟩;(conv=>whnf);exact gE hO rfl (.refl _) (fun _=>rfl) (Term.cl _)
      |false=>
       have hq1:cL w=jQ w:=hlo.trans (aE (fun h=>by rw[hvv] at h;exact absurd h.2 (by decide)));(conv=>whnf);refine bG hP (wR _) rfl (fun _=>rfl) hPc ?_;cases hpr:eT w with
       |none=>
        (conv=>whnf);have hq0:cL w=none:=hq1.trans (by unfold jQ;rw[hpr]);have hO:=hOn hq0;exact bW hO
       |some vs=>
        rcases vs with _|⟨v,_|⟨v2,vs⟩⟩
        ·(conv=>whnf);have hq0:cL w=none:=hq1.trans (by unfold jQ;rw[hpr]);have hO:=hOn hq0;exact bW hO
        ·(conv=>whnf);have hwne:w≠[]:=fun e=>by subst e;cases hpr
         obtain⟨c,w',hcw⟩:=cV hwne;refine⟨by decide,c,by rw[hcw];rfl,?_⟩;(conv=>whnf);refine aF (fun h34=>?_) (fun h34=>?_)<;>conv=>whnf
         ·have h34':=j2 (d:=34) h34;have hq0:cL w=some v:=hq1.trans (by unfold jQ;rw[hpr,hcw,h34'];rfl);have hO:=hOs v hq0;refine⟨dN 0,v.gv,rfl,rfl,?_⟩;(conv=>whnf);refine⟨_,⟨rfl,zL _,rfl,bL rfl⟩,?_⟩;(conv=>whnf);refine gE hO rfl (.refl _) (fun _=>rfl) (Term.cl _)
         ·have h34':=jV (d:=34) h34;have hq0:cL w=none:=hq1.trans (by unfold jQ;rw[hpr,hcw];simp[h34']);have hO:=hOn hq0;exact bW hO
        ·(conv=>whnf);have hq0:cL w=none:=hq1.trans (by unfold jQ;rw[hpr]);have hO:=hOn hq0;exact bW hO
     ·have heq':¬Lib.itoa k=w:=by simpa using heq
      have hq1:cL w=jQ w:=hlo.trans (aE (fun h=>heq' h.1));refine bG hP (wR _) rfl (fun _=>rfl) hPc ?_;cases hpr:eT w with
      |none=>
       (conv=>whnf);have hq0:cL w=none:=hq1.trans (by unfold jQ;rw[hpr]);have hO:=hOn hq0;exact bW hO
      |some vs=>
       rcases vs with _|⟨v,_|⟨v2,vs⟩⟩
       ·(conv=>whnf);have hq0:cL w=none:=hq1.trans (by unfold jQ;rw[hpr]);have hO:=hOn hq0;exact bW hO
       ·(conv=>whnf);have hwne:w≠[]:=fun e=>by subst e;cases hpr
        obtain⟨c,w',hcw⟩:=cV hwne;refine⟨by decide,c,by rw[hcw];rfl,?_⟩;(conv=>whnf);refine aF (fun h34=>?_) (fun h34=>?_)<;>conv=>whnf
        ·have h34':=j2 (d:=34) h34;have hq0:cL w=some v:=hq1.trans (by unfold jQ;rw[hpr,hcw,h34'];rfl);have hO:=hOs v hq0;refine⟨dN 0,v.gv,rfl,rfl,?_⟩;(conv=>whnf);refine⟨_,⟨rfl,zL _,rfl,bL rfl⟩,?_⟩;(conv=>whnf);refine gE hO rfl (.refl _) (fun _=>rfl) (Term.cl _)
        ·have h34':=jV (d:=34) h34;have hq0:cL w=none:=hq1.trans (by unfold jQ;rw[hpr,hcw];simp[h34']);have hO:=hOn hq0;exact bW hO
       ·(conv=>whnf);have hq0:cL w=none:=hq1.trans (by unfold jQ;rw[hpr]);have hO:=hOn hq0;exact bW hO
    ·obtain⟨na,hA⟩:=xX w (by omega) (fun v e=>hex ⟨v,e⟩);have hq1:cL w=jQ w:=uT (fun v e=>hex ⟨v,e⟩);refine nH hA ?_;(conv=>whnf);refine bG hP (wR _) rfl (fun _=>rfl) hPc ?_;cases hpr:eT w with
     |none=>
      (conv=>whnf);have hq0:cL w=none:=hq1.trans (by unfold jQ;rw[hpr]);have hO:=hOn hq0;exact bW hO
     |some vs=>
      rcases vs with _|⟨v,_|⟨v2,vs⟩⟩
      ·(conv=>whnf);have hq0:cL w=none:=hq1.trans (by unfold jQ;rw[hpr]);have hO:=hOn hq0;exact bW hO
      ·(conv=>whnf);have hwne:w≠[]:=fun e=>by subst e;cases hpr
       obtain⟨c,w',hcw⟩:=cV hwne;refine⟨by decide,c,by rw[hcw];rfl,?_⟩;(conv=>whnf);refine aF (fun h34=>?_) (fun h34=>?_)<;>conv=>whnf
       ·have h34':=j2 (d:=34) h34;have hq0:cL w=some v:=hq1.trans (by unfold jQ;rw[hpr,hcw,h34'];rfl);have hO:=hOs v hq0;refine⟨dN 0,v.gv,rfl,rfl,?_⟩;(conv=>whnf);refine⟨_,⟨rfl,zL _,rfl,bL rfl⟩,?_⟩;(conv=>whnf);refine gE hO rfl (.refl _) (fun _=>rfl) (Term.cl _)
       ·have h34':=jV (d:=34) h34;have hq0:cL w=none:=hq1.trans (by unfold jQ;rw[hpr,hcw];simp[h34']);have hO:=hOn hq0;exact bW hO
      ·(conv=>whnf);have hq0:cL w=none:=hq1.trans (by unfold jQ;rw[hpr]);have hO:=hOn hq0;exact bW hO
