/- Part of ViewWrong. -/
import Derived.Test.YtimgfjldcdhejaaGreatDoorK11
set_option linter.all false
namespace Go.Proofs.YtimgfjldcdhejaaGreatDoor
open Go.RowKit
variable [Globals]
def GIf (c:Bool) (A B:Prop):Prop:=Bool.rec (motive:=fun _=>Prop) B A c
theorem GIf.mk {c:Bool} {A B:Prop} (yes:c=true->A) (no:c=false->B):GIf c A B:=by
 cases c with
 |true=>exact yes rfl
 |false=>exact no rfl
def bZ:=@GIf.mk
theorem GIf.yes {c:Bool} {A B:Prop} (h:GIf c A B) (hc:c=true):A:=by subst hc;exact h
theorem GIf.no {c:Bool} {A B:Prop} (h:GIf c A B) (hc:c=false):B:=by subst hc;exact h
structure GNeed (c A:Prop):Prop where
 need:c
 next:A
def x5 {α:Type} (x:Option α) (K:α->Prop):Prop:=
 match x with
 |some a=>K a
 |none=>False
theorem mJ {α:Type} {x:Option α} {K:α->Prop} (h:x5 x K):∃a,x=some a/\K a:=by
 cases x with
 |none=>exact h.elim
 |some a=>exact⟨a,rfl,h⟩
def F5 {α:Type} (l:List α):(List α->Prop)->Prop:=
 List.rec (motive:=fun _=>(List α->Prop)->Prop) (fun K=>K []) (fun x _ ih K=>ih fun ys=>K (x::ys)) l
theorem BB {α:Type}:∀{l:List α} {K:List α->Prop},F5 l K->K l:=by
 intro l;induction l with
 |nil=>exact fun h=>h
 |cons x xs ih=>exact fun h=>ih h
def pX (σ:GS) (r:Nat) (x:GObj) (K:GS->Prop):Prop:=F5 (σ.objs.set r x) fun l=>K ⟨l,σ.lo,σ.ds⟩
theorem mZ {σ:GS} {r:Nat} {x:GObj} {K:GS->Prop} (h:pX σ r x K):K (gset σ r x):=BB (K:=fun l=>K ⟨l,σ.lo,σ.ds⟩) h
def K2 (σ:GS) (x:GObj) (K:GS->Prop):Prop:=F5 (σ.objs++[x]) fun l=>K ⟨l,σ.lo,σ.ds⟩
theorem x6 {σ:GS} {x:GObj} {K:GS->Prop} (h:K2 σ x K):K (gnew σ x):=BB (K:=fun l=>K ⟨l,σ.lo,σ.ds⟩) h
def XS (g:GV) (K:GV->Prop):Prop:=
 match g with
 |.b x=>K (.b x)
 |.i k n=>K (.i k n)
 |.s l=>K (.s l)
 |.o v=>K (.o v)
 |.agg cs=>K (.agg cs)
 |.tup cs=>K (.tup cs)
 |.ifc t v=>K (.ifc t v)
 |.fn f a c=>K (.fn f a c)
 |.sl k xs=>K (.sl k xs)
 |.ptr r off=>K (.ptr r off)
 |.snap cs off=>K (.snap cs off)
 |.mp r=>K (.mp r)
 |.rs r off e n c=>K (.rs r off e n c)
 |.glb g off=>K (.glb g off)
 |.yld r=>K (.yld r)
 |.dat r cs=>K (.dat r cs)
 |.any=>K .any
theorem V9 {g:GV} {K:GV->Prop} (h:XS g K):K g:=by cases g<;>exact h
noncomputable def fpt (φ:Fr) (d:Nat) (g:GV):Fr:=fun t=>Bool.rec (motive:=fun _=>GV) (φ t) g (Nat.beq t d)
theorem AJ (φ:Fr) (d:Nat) (g:GV):fpt φ d g=KK φ d g:=by
 funext t;show Bool.rec (motive:=fun _=>GV) (φ t) g (Nat.beq t d)=if t=d then g else φ t;by_cases h:t=d
 ·subst h;rw[aD rfl,Nat.beq_refl]
 ·rw[aC h];cases hb:Nat.beq t d with
  |false=>rfl
  |true=>exact absurd (Nat.eq_of_beq_eq_true hb) h
def yZ (φ:Fr) (d:Option Tmp) (g:GV) (K:Fr->Prop):Prop:=
 match d with
 |some d=>XS g fun g=>K (fpt φ d g)
 |none=>K φ
theorem nO {φ:Fr} {d:Option Tmp} {g:GV} {K:Fr->Prop} (h:yZ φ d g K):K (iV φ d g):=by
 cases d with
 |none=>exact h
 |some d=>rw[show iV φ (some d) g=KK φ d g from rfl,<-AJ];exact V9 (K:=fun g=>K (fpt φ d g)) h
def vD (x:Option GV) (dflt:Nat) (K:Nat->Prop):Prop:=
 match x with
 |none=>K dflt
 |some (.i _ n)=>GNeed (0<=n) (K n.toNat)
 |_=>False
theorem qU {x:Option GV} {d:Nat} {K:Nat->Prop} (h:vD x d K):∃a,n6 x d=some a/\K a:=by
 unfold vD at h;unfold n6;split at h
 ·exact⟨d,rfl,h⟩
 ·rename_i k n;exact⟨_,aD h.need,h.next⟩
 ·exact h.elim
def OY (P:Program) (t:TypeId) (x:GV) (lo hi mx:Option GV) (K:GV->Prop):Prop:=
 match x with
 |.s l=>if gT P t=some 1&&mx.isNone then vD lo 0 fun a=>vD hi l.length fun b=>GNeed (a<=b/\b<=l.length) (∃r,r=(l.drop a).take (b - a)/\K (.s r)) else False
 |.sl k xs=>
  match mB P t with
  |some e=>match fS P e with
   |some size=>GNeed (xs.all (fun x=>x.cells.length==size)=true) <|
    vD lo 0 fun a=>vD hi xs.length fun b=>GNeed (a<=b/\b<=xs.length) <| ∃ys,ys=(xs.drop a).take (b - a)/\
     match mx with
     |none=>∃k',k'=(if a=0&&b=xs.length then k else if k=.full&&b=xs.length&&a<b then .full else .none)/\K (.sl k' ys)
     |some m=>GNeed (hi.isSome=true/\n6 (some m) 0=some b) (K (.sl (if a<b then .full else .none) ys))
   |none=>False
  |none=>False
 |.rs r off esz n c=>
  match mB P t with
  |some e=>match fS P e with
   |some size=>bif Nat.beq esz size&&Nat.blt 0 size&&mx.isNone then
     vD lo 0 fun a=>vD hi n fun b=>GNeed (a<=b/\b<=n/\(a=0∨a<n)) (∃off' m c',GNeed (off'=off+a*esz/\m=b - a/\c'=(if a=0 then c else 0)) (K (.rs r off' esz m c')))
    else False
   |none=>False
  |none=>False
 |x=>x5 (qR P t x lo hi mx) K
theorem UZ {P:Program} {t:TypeId} {x:GV} {lo hi mx:Option GV} {K:GV->Prop} (h:OY P t x lo hi mx K):∃g,qR P t x lo hi mx=some g/\K g:=by
 unfold OY at h;split at h
 ·rename_i l;split at h
  ·rename_i hc;obtain⟨a,ha,h⟩:=qU h;obtain⟨b,hb,h⟩:=qU h;obtain⟨hab,r,rfl,h⟩:=h;refine⟨_,?_,h⟩;simp only[qR,hc,ha,hb,f7];rw[aD (by simpa using hab)]
  ·exact h.elim
 ·rename_i k xs;split at h
  ·rename_i e he;split at h
   ·rename_i size hs;have hall:=h.need;obtain⟨a,ha,h⟩:=qU h.next;obtain⟨b,hb,h⟩:=qU h;have hab:(decide (a<=b)&&decide (b<=xs.length))=true:=by simpa using h.need
    obtain⟨ys,rfl,h⟩:=h.next;split at h
    ·obtain⟨k',rfl,h⟩:=h;refine⟨_,?_,h⟩;simp only[qR,he,hs,hall,f7,ha,hb,hab]
    ·rename_i m;refine⟨_,?_,h.next⟩;simp only[qR,he,hs,hall,f7,ha,hb,hab];rw[aD (by simpa using h.need)]
   ·exact h.elim
  ·exact h.elim
 ·rename_i r off esz n c;split at h
  ·rename_i e he;split at h
   ·rename_i size hs;cases hq:(Nat.beq esz size&&Nat.blt 0 size&&mx.isNone) with
    |false=>rw[hq] at h;exact h.elim
    |true=>
     rw[hq] at h;simp only[cond_true] at h;obtain⟨a,ha,h⟩:=qU h;obtain⟨b,hb,h⟩:=qU h;obtain⟨⟨h1,h2,h3⟩,off',m,c',⟨rfl,rfl,rfl⟩,h⟩:=h;refine⟨_,?_,h⟩;have hq':(decide (esz=size)&&decide (0<size)&&mx.isNone)=true:=by
      simp only[aF] at hq⊢;exact⟨⟨bC (Nat.eq_of_beq_eq_true hq.1.1),bC (bL hq.1.2)⟩,hq.2⟩
     simp only[qR,he,hs,hq',f7,ha,hb];rw[aD (by simp only[aF,aJ];exact⟨⟨h1,h2⟩,h3⟩)]
   ·exact h.elim
  ·exact h.elim
 ·exact mJ h
def P3 (P:Program) (t:TypeId) (x ix:GV) (K:GV->Prop):Prop:=
 match x,ix with
 |.s l,.i _ n=>if gT P t=some 1 then GNeed (0<=n) (∃b,l[n.toNat]?=some b/\K (.i .u8 b.toNat)) else False
 |x,ix=>x5 (F8 P t x ix) K
theorem V8 {P:Program} {t:TypeId} {x ix:GV} {K:GV->Prop} (h:P3 P t x ix K):∃g,F8 P t x ix=some g/\K g:=by
 unfold P3 at h;split at h
 ·split at h
  ·rename_i hk;obtain⟨h0,b,hb,h1⟩:=h;refine⟨_,?_,h1⟩;simp only[F8,aD h0,aD hk,hb];rfl
  ·exact h.elim
 ·exact mJ h
def AA (P:Program) (t:TypeId) (x ix:GV) (K:GV->Prop):Prop:=
 match x,ix with
 |.sl _ xs,.i _ n=>match mB P t with
  |some e=>match fS P e with
   |some size=>GNeed (0<=n) (∃y,xs[n.toNat]?=some y/\GNeed (y.cells.length=size) (K (.snap y.cells 0)))
   |none=>False
  |none=>False
 |.ptr r off,.i _ n=>match H3 P t with
  |some (len,e)=>match fS P e with
   |some size=>GNeed (0<=n/\n<len) (K (.ptr r (off+n.toNat*size)))
   |none=>False
  |none=>False
 |.snap cs off,.i _ n=>match H3 P t with
  |some (len,e)=>match fS P e with
   |some size=>GNeed (0<=n/\n<len) (K (.snap cs (off+n.toNat*size)))
   |none=>False
  |none=>False
 |.glb g off,.i _ n=>match H3 P t with
  |some (len,e)=>match fS P e with
   |some size=>GNeed (0<=n/\n<len) (K (.glb g (off+n.toNat*size)))
   |none=>False
  |none=>False
 |.rs r off esz m _,.i _ n=>match mB P t with
  |some e=>match fS P e with
   |some size=>GNeed (0<=n/\(esz=size/\n<(m:Int))) (K (.rs r (off+n.toNat*esz) 0 0 0))
   |none=>False
  |none=>False
 |_,_=>False
theorem K6 {P : Program} {t : TypeId} {x ix : GV} {K : GV → Prop} (h : AA P t x ix K) : ∃ g, qS P t x ix = some g ∧ K g := by
  unfold AA at h;split at h
  · split at h
    · rename_i e he
      split at h
      · rename_i size hs
        obtain ⟨h0, y, hy, h1, h2⟩ := h;refine ⟨_, ?_, h2⟩;simp only [qS, aD h0, he, hs, hy, aD h1]
      · exact h.elim
    · exact h.elim
  all_goals try (split at h <;> first
    | exact h.elim
    | (rename_i len e he
       split at h <;> first
         | exact h.elim
         | (rename_i size hs
            obtain ⟨⟨h0, h1⟩, h2⟩ := h;refine ⟨_, ?_, h2⟩;simp only [qS, aD h0, he, hs];first
              | rw [aD h1]
              | rw [aD (by simpa using h1)])))
  exact h.elim
def KF (P:Program) (t u:TypeId) (s x:GV) (σ:GS) (K:GV->GS->Prop):Prop:=
 match s,RY P t u x with
 |.sl k xs,some ys=>
  match mB P t with
  |some e=>match fS P e,yP P e,mA P e with
   |some size,some bytes,some z=>
    if z.known&&z.cells.length==size&&decide (0<size)&&decide (bytes<=4096) then
     GIf ys.isEmpty (K (.sl k xs) σ) <|
     GNeed (ys.all (sO size)=true/\xs.all (fun x=>x.cells.length==size)=true/\xs.length+ys.length<=jO) <|
     ∃zs m,GNeed (zs=xs++ys/\m=xs.length+ys.length) <|
      match k with
      |.full=>bif Globals.wr e then∃cs,GNeed (cs=zs.flatMap GV.cells) (K2 σ (.box e cs) fun s=>K (.rs σ.objs.length 0 size m 0) s)
       else K2 σ (.own m size e) fun s=>K (.sl (.own σ.objs.length) zs) s
      |.own r=>match σ.objs[r]? with
       |some (.own n esz ty)=>bif Globals.wr e&&(esz==0&&n==0) then∃cs,GNeed (cs=zs.flatMap GV.cells/\xs.length=0) (K2 σ (.box e cs) fun s=>K (.rs σ.objs.length 0 size m 0) s)
        else GNeed (σ.lo<=r/\n=xs.length/\((esz=size/\ty=e)∨(n=0/\esz=0))) (pX σ r (.own m size e) fun s=>K (.sl (.own r) zs) s)
       |_=>False
      |.none=>False
    else False
   |_,_,_=>False
  |none=>False
 |_,_=>False
theorem SF {P:Program} {t u:TypeId} {s x:GV} {σ:GS} {K:GV->GS->Prop} (h:KF P t u s x σ K):∃g σ',yI P t u s x σ=some (g,σ')/\K g σ':=by
 unfold KF at h;split at h
 ·rename_i k xs ys hsrc;split at h
  ·rename_i e he;split at h
   ·rename_i size bytes z hs hb hz;split at h
    ·rename_i hc;simp only[aF,aJ,dI] at hc;obtain⟨⟨⟨c2,c3⟩,c4⟩,c5⟩:=hc;simp only[yI,hsrc,he,hs,hb,hz];rw[aD (by simp[c2,c3])];cases hy:ys.isEmpty with
     |true=>
      rw[aD rfl];exact⟨_,_,rfl,h.yes hy⟩
     |false=>
      rw[aC (by simp)];obtain⟨⟨n1,n2,n3⟩,zs,m,⟨rfl,rfl⟩,h⟩:=h.no hy;rw[aD (by simp only[aF,aJ];exact⟨⟨⟨⟨c4,n1⟩,n2⟩,n3⟩,c5⟩)];split at h
      ·cases hwr:Globals.wr e with
       |true=>
        rw[hwr] at h;obtain⟨cs,rfl,h⟩:=h;exact⟨_,_,rfl,x6 (K:=fun s=>K _ s) h⟩
       |false=>
        rw[hwr] at h;exact⟨_,_,rfl,x6 (K:=fun s=>K _ s) h⟩
      ·rename_i r;split at h
       ·rename_i n esz ty ho;simp only[ho];cases hwr:(Globals.wr e&&(esz==0&&n==0)) with
        |true=>
         rw[hwr] at h;obtain⟨cs,⟨rfl,hx0⟩,h⟩:=h;have hxe:xs=[]:=aM hx0;rw[aD (by rw[hxe];rfl)];exact⟨_,_,rfl,x6 (K:=fun s=>K _ s) h⟩
        |false=>
        rw[hwr] at h;rw[aC (by simp)];obtain⟨⟨m1,m2,m3⟩,h⟩:=h;replace h:=mZ (K:=fun s=>K _ s) h;rw[aD (by simp only[aF,aJ,f6,dI];exact⟨⟨m1,m2⟩,m3⟩)];exact⟨_,_,rfl,h⟩
       ·exact h.elim
      ·exact h.elim
    ·exact h.elim
   ·exact h.elim
  ·exact h.elim
 ·exact h.elim
def a2S (P:Program) (op:BinOp) (t:TypeId) (ca cb:Bool) (a b:GV) (K:GV->Prop):Prop:=
 match op,a,b with
 |.add,.s x,.s y=>GNeed (x.length+y.length<wL) (∃r,r=x++y/\K (.s r))
 |.quo,.i k x,.i k' y=>if k=k' then GNeed (y≠0) (K (.i k (k.wrap (x.tdiv y)))) else False
 |.rem,.i k x,.i k' y=>if k=k' then GNeed (y≠0) (K (.i k (x.tmod y))) else False
 |.shl,.i k x,.i _ y=>GNeed (0<=y) (K (.i k (k.wrap (x*2^min y.toNat k.bits))))
 |.shr,.i k x,.i _ y=>GNeed (0<=y) (K (.i k (x.fdiv (2^min y.toNat k.bits))))
 |.eql,.agg cs,.agg ds=>GNeed (HA P t=true) (x5 (nW P (N5 P t) cs ds) fun x=>K (.b x))
 |.neq,.agg cs,.agg ds=>GNeed (HA P t=true) (x5 (nW P (N5 P t) cs ds) fun x=>K (.b (!x)))
 |op,a,b=>x5 (H1 P op t ca cb a b) K
theorem a2R {P:Program} {op:BinOp} {t:TypeId} {ca cb:Bool} {a b:GV} {K:GV->Prop} (h:a2S P op t ca cb a b K):∃g,H1 P op t ca cb a b=some g/\K g:=by
 unfold a2S at h;split at h
 ·obtain⟨h1,r,rfl,h⟩:=h;exact⟨_,by simp only[H1,a4K];exact aD h1,h⟩
 ·split at h
  ·rename_i hk;exact⟨_,by simp only[H1,aD hk,a2N];exact aC h.need,h.next⟩
  ·exact h.elim
 ·split at h
  ·rename_i hk;exact⟨_,by simp only[H1,aD hk,a2N];exact aC h.need,h.next⟩
  ·exact h.elim
 ·exact⟨_,by simp only[H1];exact aD h.need,h.next⟩
 ·exact⟨_,by simp only[H1];exact aD h.need,h.next⟩
 ·obtain⟨x,hx,hk⟩:=mJ h.next;exact⟨.b x,by simp only[H1,geq,aD h.need,hx];rfl,hk⟩
 ·obtain⟨x,hx,hk⟩:=mJ h.next;exact⟨.b !x,by simp only[H1,geq,aD h.need,hx];rfl,hk⟩
 ·exact mJ h
def FB (P:Program) (src dst:TypeId) (x:GV) (K:GV->Prop):Prop:=
 match x with
 |.sl _ xs=>match mB P src with
  |some e=>if RQ P e=some .u8&&gT P dst=some 1 then∃l,AE xs=some l/\K (.s l) else False
  |none=>False
 |x=>x5 (x9 P src dst x) K
theorem P7 {P:Program} {src dst:TypeId} {x:GV} {K:GV->Prop} (h:FB P src dst x K):∃g,x9 P src dst x=some g/\K g:=by
 unfold FB at h;split at h
 ·split at h
  ·rename_i e he;split at h
   ·rename_i hc;obtain⟨l,hl,h⟩:=h;refine⟨_,?_,h⟩;simp only[x9,he,hc,f7,hl];rfl
   ·exact h.elim
  ·exact h.elim
 ·exact mJ h
def K5 (P:Program) (t:TypeId) (m k:GV) (ok:Bool) (σ:GS) (K:GV->Prop):Prop:=
 match RE P t with
 |some (kt,et)=>match P.underlying kt,mA P et with
  |some d,some z=>
   if ZV d k then
    match m with
    |.mp r=>match σ.objs[r]? with
     |some (.mp es)=>∃f,mK d k es 0=some f/\match f with
      |some (_,v)=>K (if ok then .tup [v,.b true] else v)
      |none=>K (if ok then .tup [z,.b false] else z)
     |_=>False
    |.o (.map none)=>K (if ok then .tup [z,.b false] else z)
    |_=>False
   else False
  |_,_=>False
 |none=>False
theorem S4 {P:Program} {t:TypeId} {m k:GV} {ok:Bool} {σ:GS} {K:GV->Prop} (h:K5 P t m k ok σ K):∃g,sU P t m k ok σ=some g/\K g:=by
 unfold K5 at h;split at h
 ·rename_i kt et hmt;split at h
  ·rename_i d z hd hz;split at h
   ·rename_i hk;split at h
    ·rename_i r;split at h
     ·rename_i es ho;obtain⟨f,hf,h⟩:=h;simp only[sU,hmt,hd,hz,hk,f7,ho,hf];split at h
      ·exact⟨_,rfl,h⟩
      ·exact⟨_,rfl,h⟩
     ·exact h.elim
    ·simp only[sU,hmt,hd,hz,hk,f7];exact⟨_,rfl,h⟩
    ·exact h.elim
   ·exact h.elim
  ·exact h.elim
 ·exact h.elim
def DK (P:Program) (t:TypeId) (m k v:GV) (σ:GS) (K:GS->Prop):Prop:=
 match m with
 |.mp r=>match RE P t with
  |some (kt,_)=>match P.underlying kt,σ.objs[r]? with
   |some d,some (.mp es)=>
    if ZV d k then GNeed (σ.lo<=r) <|
     ∃f,mK d k es 0=some f/\match f with
      |some (i,_)=>pX σ r (.mp (es.set i (k,v))) K
      |none=>pX σ r (.mp (es++[(k,v)])) K
    else False
   |_,_=>False
  |none=>False
 |_=>False
theorem GF {P:Program} {t:TypeId} {m k v:GV} {σ:GS} {K:GS->Prop} (h:DK P t m k v σ K):∃s,l7 P t m k v σ=some s/\K s:=by
 unfold DK at h;split at h
 ·split at h
  ·rename_i kt et hmt;split at h
   ·rename_i d es hd ho;split at h
    ·rename_i hk;obtain⟨hlo,f,hf,h⟩:=h;simp only[l7,hmt,hd,ho];rw[aD (by simp[hlo,hk])];simp only[hf];split at h
     ·exact⟨_,rfl,mZ h⟩
     ·exact⟨_,rfl,mZ h⟩
    ·exact h.elim
   ·exact h.elim
  ·exact h.elim
 ·exact h.elim
def F0 (P:Program) (t:TypeId) (r off:Nat) (v:GV) (σ:GS) (K:GS->Prop):Prop:=
 match σ.objs[r]? with
 |some (.box T cs)=>∃vc,GNeed (vc=v.cells/\σ.lo<=r/\(sO ((fS P t).getD 0) v&&(fS P t).isSome)=true/\off+vc.length<=cs.length) (F5 (cs.take off++vc++cs.drop (off+vc.length)) fun cs'=>pX σ r (.box T cs') K)
 |_=>False
theorem OV {P:Program} {t:TypeId} {r off:Nat} {v:GV} {σ:GS} {K:GS->Prop} (h:F0 P t r off v σ K):∃s,kS P t r off v σ=some s/\K s:=by
 unfold F0 at h;split at h
 ·rename_i cs ho;obtain⟨vc,⟨rfl,h1,h2,h3⟩,h⟩:=h;refine⟨_,?_,mZ (BB (K:=fun cs'=>pX σ _ (.box _ cs') K) h)⟩;simp only[kS,ho];rw[aF] at h2;rw[aD (by simp only[aF,aJ];exact⟨⟨⟨h1,h2.1⟩,h2.2⟩,h3⟩)]
 ·exact h.elim
def JW (P:Program) (t:TypeId) (r off:Nat) (v:GV) (σ:GS) (K:GS->Prop):Prop:=
 match σ.objs[r]? with
 |some (.box T cs)=>∃cs',GNeed (cs'=cs.take off++v.cells++cs.drop (off+v.cells.length)/\σ.lo<=r/\(sO ((fS P t).getD 0) v&&(fS P t).isSome)=true/\off+v.cells.length<=cs.length) (pX σ r (.box T cs') K)
 |_=>False
theorem RX {P:Program} {t:TypeId} {r off:Nat} {v:GV} {σ:GS} {K:GS->Prop} (h:JW P t r off v σ K):∃s,kS P t r off v σ=some s/\K s:=by
 unfold JW at h;split at h
 ·rename_i cs ho;obtain⟨cs',⟨rfl,h1,h2,h3⟩,h⟩:=h;refine⟨_,?_,mZ h⟩;simp only[kS,ho];rw[aF] at h2;rw[aD (by simp only[aF,aJ];exact⟨⟨⟨h1,h2.1⟩,h2.2⟩,h3⟩)]
 ·exact h.elim
def OU (P:Program) (t:TypeId) (a v:GV) (σ:GS) (K:GS->Prop):Prop:=
 match a with
 |.ptr r off=>F0 P t r off v σ K
 |.rs r off e _ _=>bif Nat.beq e 0 then JW P t r off v σ K else False
 |_=>False
theorem UW {P:Program} {t:TypeId} {a v:GV} {σ:GS} {K:GS->Prop} (h:OU P t a v σ K):∃s,sE P t a v σ=some s/\K s:=by
 unfold OU at h;split at h
 ·exact OV h
 ·rename_i r off e _ _;cases he:Nat.beq e 0 with
  |true=>
   rw[he] at h;have e0:e=0:=Nat.eq_of_beq_eq_true he;rw[sE,aD e0];exact RX h
  |false=>rw[he] at h;exact h.elim
 ·exact h.elim
def V5 (P:Program) (t:TypeId) (a:GV) (σ:GS) (K:GV->Prop):Prop:=
 match a with
 |.rs r off e _ _=>bif Nat.beq e 0 then match σ.objs[r]? with
   |some (.box _ cs)=>∃g,GNeed (wZ P t cs off=some g) (K g)
   |_=>False
  else False
 |a=>x5 (pO P t a σ) K
theorem ZU {P:Program} {t:TypeId} {a:GV} {σ:GS} {K:GV->Prop} (h:V5 P t a σ K):∃g,pO P t a σ=some g/\K g:=by
 unfold V5 at h;split at h
 ·rename_i r off e _ _;cases he:Nat.beq e 0 with
  |true=>
   rw[he] at h;have e0:e=0:=Nat.eq_of_beq_eq_true he;rw[pO,aD e0];simp only[cond_true] at h;split at h
   ·rename_i ho;obtain⟨g,h1,h2⟩:=h;exact⟨g,by simp only[ho];exact h1,h2⟩
   ·exact h.elim
  |false=>rw[he] at h;exact h.elim
 ·exact mJ h
def V4 (P:Program) (t:TypeId) (l c:GV) (σ:GS) (K:GV->GS->Prop):Prop:=
 match l,c with
 |.i _ n,.i _ m=>match mB P t with
  |some e=>match fS P e,yP P e,mA P e with
   |some size,some bytes,some z=>
    bif z.known&&z.cells.length==size&&decide (0<size)&&decide (bytes<=4096) then
     ∃k cs,GNeed (n=(k:Nat)/\n=m/\n<=(jO:Nat)/\cs=(List.replicate k z.cells).flatten) (K2 σ (.box e cs) fun s=>K (.rs σ.objs.length 0 size k k) s)
    else False
   |_,_,_=>False
  |none=>False
 |_,_=>False
theorem ZT {P:Program} {t:TypeId} {l c:GV} {σ:GS} {K:GV->GS->Prop} (h:V4 P t l c σ K):∃g σ',K3 P t l c σ=some (g,σ')/\K g σ':=by
 unfold V4 at h;split at h
 ·rename_i n _ m;split at h
  ·rename_i e he;split at h
   ·rename_i size bytes z hs hb hz;cases hc:(z.known&&z.cells.length==size&&decide (0<size)&&decide (bytes<=4096)) with
    |true=>
     rw[hc] at h;obtain⟨k,cs,⟨rfl,h1,h2,rfl⟩,h⟩:=h;have h:=x6 (K:=fun s=>K _ s) h;refine⟨_,_,?_,h⟩;simp only[K3,he,hs,hb,hz];rw[aD (by rw[hc];simp only[Bool.true_and,aF,aJ];exact⟨⟨jR _,h1⟩,h2⟩)];simp only[aL]
    |false=>rw[hc] at h;exact h.elim
   ·exact h.elim
  ·exact h.elim
 ·exact h.elim
def PA (P:Program) (t:TypeId) (x:GV) (σ:GS) (K:GV->GS->Prop):Prop:=
 match x with
 |.rs r off esz n _=>match mB P t with
  |some e=>match fS P e,mA P e,σ.objs[r]? with
   |some size,some z,some (.box T cs)=>
    bif sO size z&&Nat.beq esz size&&Nat.blt 0 size then
     ∃cs',GNeed (cs'=cs.take off++(List.replicate n z.cells).flatten++cs.drop (off+n*size)/\σ.lo<=r/\off+n*size<=cs.length) (pX σ r (.box T cs') (K (.tup [])))
    else False
   |_,_,_=>False
  |none=>False
 |_=>False
theorem VC {P:Program} {t:TypeId} {x:GV} {σ:GS} {K:GV->GS->Prop} (h:PA P t x σ K):∃g σ',CJ P t x σ=some (g,σ')/\K g σ':=by
 unfold PA at h;split at h
 ·rename_i r off esz n c;split at h
  ·rename_i e he;split at h
   ·rename_i size z T cs hs hz hcs;cases hq:(sO size z&&Nat.beq esz size&&Nat.blt 0 size) with
    |false=>rw[hq] at h;exact h.elim
    |true=>
     rw[hq] at h;simp only[cond_true] at h;obtain⟨cs',⟨rfl,h1,h2⟩,h⟩:=h;have h:=mZ h;refine⟨_,_,?_,h⟩;simp only[aF] at hq;simp only[CJ,he,hs,hz,hcs];rw[aD (by simp only[aF,aJ];exact⟨⟨⟨⟨hq.1.1,Nat.eq_of_beq_eq_true hq.1.2⟩,bL hq.2⟩,h1⟩,h2⟩)]
   ·exact h.elim
  ·exact h.elim
 ·exact h.elim
def FE (P:Program) (b:Builtin) (ts:List TypeId) (args:List GV) (σ:GS) (K:GV->GS->Prop):Prop:=
 match b,ts,args with
 |.append,[t,u],[s,x]=>KF P t u s x σ K
 |.clear,[t],[x]=>PA P t x σ K
 |b,ts,args=>x5 (nP P b ts args σ) fun q=>K q.1 q.2
theorem PB {P:Program} {b:Builtin} {ts:List TypeId} {args:List GV} {σ:GS} {K:GV->GS->Prop} (h:FE P b ts args σ K):∃g σ',nP P b ts args σ=some (g,σ')/\K g σ':=by
 unfold FE at h;split at h
 ·obtain⟨g,σ',h1,h2⟩:=SF h;exact⟨g,σ',h1,h2⟩
 ·obtain⟨g,σ',h1,h2⟩:=VC h;exact⟨g,σ',h1,h2⟩
 ·obtain⟨⟨g,σ'⟩,h1,h2⟩:=mJ h;exact⟨g,σ',h1,h2⟩
def a2M (P:Program) (ρ:Operand->GV) (op:Op) (σ:GS) (K:GV->GS->Prop):Prop:=
 match op with
 |.move x=>K (ρ x) σ
 |.assign x=>K (ρ x) σ
 |.pick c a b=>
  match ρ c with
  |.b t=>GIf t (K (ρ a) σ) (K (ρ b) σ)
  |_=>False
 |.load t a=>V5 P t (ρ a) σ fun g=>K g σ
 |.store t a v=>OU P t (ρ a) (ρ v) σ fun s=>K .any s
 |.binOp op t x y _=>a2S P op t (k9 x) (k9 y) (ρ x) (ρ y) fun g=>K g σ
 |.convert src dst x=>FB P src dst (ρ x) fun g=>K g σ
 |.slice t x lo hi mx=>OY P t (ρ x) (lo.map ρ) (hi.map ρ) (mx.map ρ) fun g=>K g σ
 |.indexAddr t x i=>AA P t (ρ x) (ρ i) fun g=>K g σ
 |.index t x i=>P3 P t (ρ x) (ρ i) fun g=>K g σ
 |.lookup t m k ok=>K5 P t (ρ m) (ρ k) ok σ fun g=>K g σ
 |.mapUpdate t m k v=>DK P t (ρ m) (ρ k) (ρ v) σ fun s=>K .any s
 |.insert t m k v=>DK P t (ρ m) (ρ k) (ρ v) σ fun s=>K .any s
 |.makeSlice t l c=>V4 P t (ρ l) (ρ c) σ K
 |.call {callee:=.builtin b,args,argTypes}=>FE P b argTypes.toList (args.toList.map ρ) σ K
 |op=>x5 (sS P ρ op σ) fun q=>K q.1 q.2
theorem a2L {P:Program} {ρ:Operand->GV} {op:Op} {σ:GS} {K:GV->GS->Prop} (h:a2M P ρ op σ K):∃g σ',sS P ρ op σ=some (g,σ')/\K g σ':=by
 have mp:∀{x:Option GV},(∃g,x=some g/\K g σ)->∃g σ',x.map (fun v=>(v,σ))=some (g,σ')/\K g σ':=fun⟨g,e,h⟩=>⟨g,σ,by rw[e];rfl,h⟩;have mu:∀{x:Option GS},(∃s,x=some s/\K .any s)->∃g σ',x.map (fun s=>(GV.any,s))=some (g,σ')/\K g σ':=fun⟨s,e,h⟩=>⟨_,s,by rw[e];rfl,h⟩;unfold a2M at h;split at h
 ·exact⟨_,_,rfl,h⟩
 ·exact⟨_,_,rfl,h⟩
 ·simp only[sS];split at h
  ·rename_i t ht;simp only[ht];cases t with
   |true=>exact⟨_,_,rfl,h.yes rfl⟩
   |false=>exact⟨_,_,rfl,h.no rfl⟩
  ·exact h.elim
 ·exact mp (ZU h)
 ·exact mu (UW h)
 ·exact mp (a2R h)
 ·exact mp (P7 h)
 ·exact mp (UZ h)
 ·exact mp (K6 h)
 ·exact mp (V8 h)
 ·exact mp (S4 h)
 ·exact mu (GF h)
 ·exact mu (GF h)
 ·exact ZT h
 ·exact PB h
 ·obtain⟨⟨g,s⟩,h1,h2⟩:=mJ h;exact⟨g,s,h1,h2⟩
def a6V (P:Program) (ρ:Operand->GV) (op:Op) (σ:GS) (K:GV->GS->Prop):Prop:=
 match iT P ρ op with
 |some f=>K2 σ f.2 fun s=>K (f.1 σ.objs.length) s
 |none=>a2M P ρ op σ K
theorem a4L {P:Program} {ρ:Operand->GV} {op:Op} {σ:GS} {K:GV->GS->Prop} (h:a6V P ρ op σ K):∃g σ',uR P ρ op σ=some (g,σ')/\K g σ':=by
 unfold a6V at h;unfold uR;split at h
 ·rename_i f hf;exact⟨_,_,by rw[hf],x6 (K:=fun s=>K _ s) h⟩
 ·rename_i hf;obtain⟨g,s,h1,h2⟩:=a2L h;exact⟨g,s,by rw[hf];exact h1,h2⟩
def gZ (P:Program) (M:FuncId->Bool) (t:Tgt) (args:List GV) (σ:GS) (K:GRes->GS->Prop):Prop:=
 ∃r σ',Fact P t args σ r σ'/\(∀k,t=.fn k->M k=true->σ'=σ)/\K r σ'
def A8 (P:Program) (M:FuncId->Bool) (o:Oper) (ρ:Operand->GV) (σ:GS) (K:GRes->GS->Prop):Prop:=
 match o.op with
 |.panic x=>match ρ x with
  |.ifc t g=>K (.panic (.ifc t g)) σ
  |_=>False
 |.call {callee:=.value f,args,..}=>match ρ f with
  |.fn (.func k) first cap=>if mC P k then gZ P M (.fn k) (first++args.toList.map ρ++cap) σ K else x5 (HV P k (first++args.toList.map ρ++cap)) fun g=>K (.val g) σ
  |.yld r=>gZ P M (.yld r) (args.toList.map ρ) σ K
  |_=>False
 |.call {callee:=.invoke r name,args,..}=>match ρ r with
  |.ifc t g=>x5 (HU P t name) fun k=>if mC P k then gZ P M (.fn k) (g::args.toList.map ρ) σ K else False
  |_=>False
 |op=>a6V P ρ op σ fun g s=>K (.val g) s
def a5N (P:Program) (M:FuncId->Bool) (o:Oper) (ρ:Operand->GV) (σ:GS) (r:GRes) (σ':GS):Prop:=
 ∃call:fQ,(∀w0,cK P w0 call)/\dS M call/\dN P call o ρ σ=some (r,σ')
open Classical in
noncomputable def uW (t:Tgt) (args:List GV) (σ:GS) (r:GRes) (σ':GS):fQ:=fun t' a' s'=>if t'=t/\a'=args/\s'=σ then some (r,σ') else none
theorem C4 {t:Tgt} {args:List GV} {σ σ':GS} {r:GRes}:uW t args σ r σ' t args σ=some (r,σ'):=aD ⟨rfl,rfl,rfl⟩
theorem FY {t t':Tgt} {args a':List GV} {σ σ' s s':GS} {r r':GRes} (h:uW t args σ r σ' t' a' s=some (r',s')):t'=t/\a'=args/\s=σ/\r'=r/\s'=σ':=by
 unfold uW at h;split at h
 ·rename_i hc;cases h;exact⟨hc.1,hc.2.1,hc.2.2,rfl,rfl⟩
 ·cases h
theorem vP {P:Program} {t:Tgt} {args:List GV} {σ σ':GS} {r:GRes} (h:Fact P t args σ r σ') (w0:World):cK P w0 (uW t args σ r σ'):=fun t' a' s r' s' hc=>by
 obtain⟨rfl,rfl,rfl,rfl,rfl⟩:=FY hc;exact⟨h.keep,h.ds,h.calls w0⟩
theorem NT {M:FuncId->Bool} {t:Tgt} {args:List GV} {σ σ':GS} {r:GRes} (h:∀k,t=.fn k->M k=true->σ'=σ):dS M (uW t args σ r σ'):=fun k hk a' s r' s' hc=>by
 obtain⟨e1,rfl,rfl,rfl,rfl⟩:=FY hc;exact h k e1.symm hk
theorem iF {P:Program} (w0:World):cK P w0 (fun _ _ _=>none):=fun _ _ _ _ _ h=>by cases h
theorem jA {M:FuncId->Bool}:dS M (fun _ _ _=>none):=fun _ _ _ _ _ _ h=>by cases h
theorem oH {P:Program} {M:FuncId->Bool} {o:Oper} {ρ:Operand->GV} {σ:GS} {K:GRes->GS->Prop} (h:A8 P M o ρ σ K):∃r σ',a5N P M o ρ σ r σ'/\K r σ':=by
 have viaCall:∀{t:Tgt} {args:List GV},gZ P M t args σ K->(∀call:fQ,dN P call o ρ σ=call t args σ)->∃r σ',a5N P M o ρ σ r σ'/\K r σ':=fun⟨r,σ',hf,hp,hk⟩ hg=>
  ⟨r,σ',⟨uW _ _ _ r σ',vP hf,NT hp,(hg _).trans C4⟩,hk⟩
 unfold A8 at h;split at h
 ·rename_i x hop;split at h
  ·rename_i t g hx;exact⟨_,_,⟨_,iF,jA,by unfold dN;simp only[hop,hx]⟩,h⟩
  ·exact h.elim
 ·rename_i f args ts hop;split at h
  ·rename_i k first cap hf
   split at h
   ·rename_i hk;exact viaCall h (fun call=>by unfold dN;simp only[hop,hf];rw[aD hk])
   ·rename_i hk;obtain⟨g,hg,h⟩:=mJ h;exact⟨_,_,⟨_,iF,jA,by unfold dN;simp only[hop,hf];rw[aC hk,hg];rfl⟩,h⟩
  ·rename_i r hf;exact viaCall h (fun call=>by unfold dN;simp only[hop,hf])
  ·exact h.elim
 ·rename_i rv name args ts hop;split at h
  ·rename_i t g hrv;obtain⟨k,hm,h⟩:=mJ h;split at h
   ·rename_i hk;exact viaCall h (fun call=>by unfold dN;simp only[hop,hrv,hm];rw[aD hk])
   ·exact h.elim
  ·exact h.elim
 ·rename_i hn1 hn2 hn3;obtain⟨g,s,hg,h⟩:=a4L h;refine⟨_,_,⟨_,iF,jA,?_⟩,h⟩;obtain⟨dst,op,type,pos,after,guard⟩:=o;simp only at hn1 hn2 hn3 hg;unfold dN;cases op
  case panic x=>exact absurd rfl (hn1 x)
  case call c=>
   obtain⟨callee,args,ts⟩:=c;cases callee with
   |value f=>exact absurd rfl (hn2 f args ts)
   |invoke r m=>exact absurd rfl (hn3 r m args ts)
   |builtin b=>simp only[hg];rfl
  all_goals (simp only[hg];rfl)
theorem xB {φ:Fr} {d:Nat} {g:GV} (h:φ d=g):KK φ d g=φ:=by
 funext t;show(if t=d then g else φ t)=φ t;split
 ·rename_i e;rw[e,h]
 ·rfl
def EZ (ops:Array Oper) (o:Oper) (φ:Fr) (K:Bool->Fr->Prop):Prop:=
 match o.guard with
 |none=>K true φ
 |some (j,want)=>match(ops[j]?).bind (·.dst) with
  |some d=>match φ d with
   |.b t=>GIf t (K want (fpt φ d (.b true))) (K (!want) (fpt φ d (.b false)))
   |.tup []=>K false φ
   |_=>False
  |none=>K false φ
theorem wY {ops:Array Oper} {o:Oper} {φ:Fr} {K:Bool->Fr->Prop} (h:EZ ops o φ K):∃b,cM ops o φ=some b/\K b φ:=by
 unfold EZ at h;unfold cM;split at h
 ·rename_i hg;rw[hg];exact⟨true,rfl,h⟩
 ·rename_i j want hg;rw[hg];simp only[CE];split at h
  ·rename_i d hd;rw[hd];simp only;split at h
   ·rename_i t ht;rw[ht];simp only[dP];cases t with
    |true=>
     have:=h.yes rfl;rw[AJ,xB ht] at this;exact⟨_,rfl,by cases want<;>exact this⟩
    |false=>
     have:=h.no rfl;rw[AJ,xB ht] at this;exact⟨_,rfl,by cases want<;>exact this⟩
   ·rename_i ht;rw[ht];exact⟨false,rfl,h⟩
   ·exact h.elim
  ·rename_i hd;rw[hd];exact⟨false,rfl,h⟩
def VB (φ:Fr) (c:Operand) (K:Bool->Fr->Prop):Prop:=
 match c with
 |.tmp d=>match φ d with
  |.b t=>GIf t (K true (fpt φ d (.b true))) (K false (fpt φ d (.b false)))
  |_=>False
 |c=>match dE φ c with
  |.b t=>K t φ
  |_=>False
theorem ZW {φ:Fr} {c:Operand} {K:Bool->Fr->Prop} (h:VB φ c K):∃t,dE φ c=.b t/\K t φ:=by
 unfold VB at h;split at h
 ·rename_i d;show∃t,φ d=.b t/\K t φ;split at h
  ·rename_i t ht;cases t with
   |true=>exact⟨true,ht,by have:=h.yes rfl;rwa [AJ,xB ht] at this⟩
   |false=>exact⟨false,ht,by have:=h.no rfl;rwa [AJ,xB ht] at this⟩
  ·exact h.elim
 ·split at h
  ·rename_i t ht;exact⟨t,ht,h⟩
  ·exact h.elim
abbrev r7:=Fr->GS->(GX->Fr->GS->Prop)->Prop
def rX (P:Program) (M:FuncId->Bool) (dz:Bool) (n:Nat) (ops:Array Oper) (o:Oper) (ih:r7):r7:=fun φ σ K=>
 if(o.dst.all fun d=>Nat.blt d n) then
  EZ ops o φ fun b φ=>match b with
  |false=>yZ φ o.dst (.tup []) fun φ=>ih φ σ K
  |true=>
   match(if dz then KC (dE φ) o.op else none) with
   |some d=>yZ φ o.dst (.tup []) fun φ=>ih φ {σ with ds:=d::σ.ds} K
   |none=>A8 P M o (dE φ) σ fun r σ'=>match r with
    |.val g=>yZ φ o.dst g fun φ=>ih φ σ' K
    |.panic g=>K (.panic g) φ σ'
 else False
def uH (P:Program) (M:FuncId->Bool) (dz:Bool) (n:Nat) (ops:Array Oper) (l:List Oper):r7:=
 List.rec (motive:=fun _=>r7) (fun φ σ K=>K .normal φ σ) (fun o _ ih=>rX P M dz n ops o ih) l
theorem JZ {P:Program} {M:FuncId->Bool} {dz:Bool} {n:Nat} {ops:Array Oper} {o:Oper} {l:List Oper} {φ:Fr} {σ:GS} {K:GX->Fr->GS->Prop}:
  uH P M dz n ops (o::l) φ σ K=rX P M dz n ops o (uH P M dz n ops l) φ σ K:=rfl
theorem KX {o:Oper} {n:Nat} (h:(o.dst.all fun d=>Nat.blt d n)=true):(o.dst.all fun d=>decide (d<n))=true:=by
 cases hd:o.dst with
 |none=>rfl
 |some d=>
  rw[hd] at h;have:Nat.blt d n=true:=h;simpa[Nat.blt_eq] using this
section
variable {P : Program} {M : FuncId → Bool} {w0 : World} {n : Nat} {ops : Array Oper}
theorem A5 {ro:Option Nat} {dz:Bool} (hdz:dz=true->ro=none) {Q:Exit->Act->World->Prop} {K:GX->Fr->GS->Prop} {o:Oper} {l:List Oper} {R:r7}
  (ih:∀(C:Cx) (φ:Fr) (σ:GS) (a:Act) (w:World),R φ σ K->Rel C σ w0 w->FRel C φ a->a.tmps.size=n->DRel C σ.ds a.defers->(∀x φ' σ',K x φ' σ'->QOk w0 C Q n x φ' σ')->wpListIn (FW ro) 0 P ops Q l a w)
  (C:Cx) (φ:Fr) (σ:GS) (a:Act) (w:World) (hg:rX P M dz n ops o R φ σ K) (hr:Rel C σ w0 w) (hf:FRel C φ a) (hn:a.tmps.size=n) (hd0:DRel C σ.ds a.defers) (hq:∀x φ' σ',K x φ' σ'->QOk w0 C Q n x φ' σ'):wpListIn (FW ro) 0 P ops Q (o::l) a w:=by
 unfold rX at hg;split at hg
 ·rename_i hd;replace hd:=KX hd;unfold wpListIn;obtain⟨b,hw,hg⟩:=wY hg;cases b with
  |false=>
   rw[fI hf hw];simp only[bX,fN];replace hg:=nO (K:=fun φ=>R φ σ K) hg;obtain⟨h1,h2,h3⟩:=hf.put (zJ C) hn hd;exact⟨fun f _=>trivial,ih C _ σ _ w hg hr h1 h2 (by rw[h3];exact hd0) hq⟩
  |true=>
   rw[fI hf hw];simp only[f7];rcases hdef:(if dz=true then KC (dE φ) o.op else none) with _|d;rotate_left
   ·simp only[hdef] at hg;replace hg:=nO (K:=fun φ=>R φ {σ with ds:=d::σ.ds} K) hg;have hdzt:dz=true:=by
     cases hdz':dz with
     |true=>rfl
     |false=>rw[hdz'] at hdef;simp at hdef
    have hro:=hdz hdzt;subst hro;rw[aD hdzt] at hdef;unfold KC at hdef;split at hdef
    ·rename_i f args ts hop;split at hdef
     ·rename_i k first cap hf0
      cases hdef;have hv0:=dR hf f;rw[hf0] at hv0;generalize hu:a.eval f=u at hv0;cases hv0 with
      |fn h1 h2 h3 h4=>
       rename_i va vc;have e1:VRs C first va.toList:=⟨by simpa using h1,fun j g u a b=>h3 j g u a (by simpa using b)⟩
       have e2:VRs C cap vc.toList:=⟨by simpa using h2,fun j g u a b=>h4 j g u a (by simpa using b)⟩;have hrun:(execOp a.eval o).run P w=.ok (.defer {target:=.fn (.func k) vc,args:=va++args.map a.eval}) w:=by
        unfold execOp;rw[hop];simp[resolve,hu,Deferred.ofValue]
       refine⟨fun f _=>trivial,?_⟩;show Oper.uponIn _ _ _ _ _ _ _ ((execOp a.eval o).run P w);rw[hrun,Oper.uponIn_defer];have hf1:FRel C φ {a with defers:={target:=.fn (.func k) vc,args:=va++args.map a.eval}::a.defers}:=hf;obtain⟨p1,p2,p3⟩:=hf1.put (zJ C) (n:=n) hn hd;refine ih C _ _ _ w hg (hr.ds _) p1 p2 ?_ hq;rw[p3];refine⟨⟨_,_,rfl,?_,e2⟩,hd0⟩;simp only[Array.toList_append,Array.toList_map];exact e1.append (VRs.mapOp (dR hf) args.toList)
     ·cases hdef
    ·cases hdef
   ·simp only[hdef] at hg;obtain⟨r,σ1,⟨call,hcall,_,hop⟩,hg⟩:=oH hg;refine jV (hcall w0) hr (dR hf) hop (fun g' D v w' e hl hr' hv=>?_) (fun g' D v w' e hl hr' hv=>?_)
    ·subst e;replace hg:=nO (K:=fun φ=>R φ σ1 K) hg;obtain⟨h1,h2,h3⟩:=(hf.mono hl).put hv hn hd;exact ih D _ σ1 _ w' hg hr' h1 h2 (by rw[h3,pM (hcall w0) hop];exact hd0.mono hl) (fun x φ' σ' hk=>(hq x φ' σ' hk).mono hl)
    ·subst e;exact hq _ _ _ hg D a w' hl (hf.mono hl) hn (by rw[pM (hcall w0) hop];exact hd0.mono hl) hr' v hv
 ·exact hg.elim
def a4z (o:Oper):Option (TypeId×TypeId×Operand×Operand):=
 match o.guard,o.op with
 |none,.call {callee:=.builtin .append,args,argTypes}=>match args.toList,argTypes.toList with
  |[s,x],[t,u]=>some (t,u,s,x)
  |_,_=>none
 |_,_=>none
structure GAppRs (P:Program) (t u:TypeId) (r size n c:Nat) (x:GV) (σ:GS) (K:GV->GS->Prop):Prop where
 ex:∃(e bytes:Nat) (z:GV) (cs ys:List GV),(σ.objs[r]?=some (.box e cs)/\RY P t u x=some ys/\mB P t=some e/\fS P e=some size/\yP P e=some bytes/\mA P e=some z/\Globals.wr e=true)/\
  (cs.length=c*size/\(z.known&&z.cells.length==size&&ys.all (sO size)&&decide (bytes<=4096)&&decide (σ.lo<=r))=true/\ys≠[]/\n+ys.length<=jO/\0<c/\n<=c)/\
  (n+ys.length<=c->∃cs',cs'=cs.take (n*size)++flat ys++cs.drop (n*size+(flat ys).length)/\pX σ r (.box e cs') fun s=>K (.rs r 0 size (n+ys.length) c) s)/\
  (c<n+ys.length->∀cap cs',n+ys.length<=cap->cs'=cs.take (n*size)++flat ys++List.replicate ((cap - (n+ys.length))*size) .any->K2 σ (.box e cs') fun s=>K (.rs σ.objs.length 0 size (n+ys.length) cap) s)
def CF (P:Program) (M:FuncId->Bool) (dz:Bool) (n:Nat) (ops:Array Oper) (o:Oper) (ih:r7):r7:=fun φ σ K=>
 match a4z o with
 |none=>rX P M dz n ops o ih φ σ K
 |some q=>match dE φ q.2.2.1 with
  |.rs r 0 (sz+1) m c=>(o.dst.all fun d=>Nat.blt d n)=true/\GAppRs P q.1 q.2.1 r (sz+1) m c (dE φ q.2.2.2) σ fun g σ'=>yZ φ o.dst g fun φ=>ih φ σ' K
  |_=>rX P M dz n ops o ih φ σ K
def yE (P:Program) (M:FuncId->Bool) (dz:Bool) (n:Nat) (ops:Array Oper) (l:List Oper):r7:=
 List.rec (motive:=fun _=>r7) (fun φ σ K=>K .normal φ σ) (fun o _ ih=>CF P M dz n ops o ih) l
theorem BU {ro:Option Nat} {dz:Bool} (hdz:dz=true->ro=none) {Q:Exit->Act->World->Prop} {K:GX->Fr->GS->Prop}:∀(l:List Oper) (C:Cx) (φ:Fr) (σ:GS) (a:Act) (w:World),
  yE P M dz n ops l φ σ K->Rel C σ w0 w->FRel C φ a->a.tmps.size=n->DRel C σ.ds a.defers->(∀x φ' σ',K x φ' σ'->QOk w0 C Q n x φ' σ')->wpListIn (FW ro) 0 P ops Q l a w
 |[],C,φ,σ,a,w,hg,hr,hf,hn,hd0,hq=>hq _ _ _ hg C a w (.refl C) hf hn hd0 hr
 |o::l,C,φ,σ,a,w,hg,hr,hf,hn,hd0,hq=>by
  have ih:=fun(C:Cx) (φ:Fr) (σ:GS) (a:Act) (w:World) h1 h2 h3 h4 h5 (hq:∀x φ' σ',K x φ' σ'->QOk w0 C Q n x φ' σ')=>BU (ro:=ro) hdz (K:=K) l C φ σ a w h1 h2 h3 h4 h5 hq;replace hg:CF P M dz n ops o (yE P M dz n ops l) φ σ K:=hg;unfold CF at hg;split at hg
  ·exact A5 hdz ih C φ σ a w hg hr hf hn hd0 hq
  ·rename_i q hq0;split at hg
   ·rename_i r sz m c hs;obtain⟨hd,⟨e,bytes,z,cs,ys,⟨p1,p2,p3,p4,p5,p6,p7⟩,⟨q1,q2,q3,q4,q5,q6⟩,k1,k2⟩⟩:=hg;simp only[aF,aJ,dI,aQ] at q2;obtain⟨⟨⟨⟨q2,q7⟩,q8⟩,q9⟩,q10⟩:=q2;replace hd:=KX hd;obtain⟨t,u,s,x⟩:=q;unfold a4z at hq0;split at hq0
    ·rename_i args ts hgd hop;split at hq0
     ·rename_i s' x' t' u' hargs hts;cases hq0;have hvs:=dR hf s;rw[hs] at hvs;have ea:args= #[s,x]:=by rw[<-Array.toList_inj];exact hargs
      have et:ts= #[t,u]:=by rw[<-Array.toList_inj];exact hts
      have hrun:∀v w',(Builtin.append_ #[t,u] o.type #[a.eval s,a.eval x]).run P w=.ok v w'->(execOp a.eval o).run P w=.ok (.value v) w':=fun v w' hr'=>by
       unfold execOp;rw[hop,ea,et];simp[resolve,invoke,builtin,hr']
      have hput:∀{σ1:GS} {g:GV},σ1.ds=σ.ds->(yZ φ o.dst g fun φ=>yE P M dz n ops l φ σ1 K)->Runs P C w0 w σ1 g (Builtin.append_ #[t,u] o.type #[a.eval s,a.eval x])->wpListIn (FW ro) 0 P ops Q (o::l) a w:=fun{σ1 g} hds hk hR=>by
       obtain⟨D,v,w',hl,hr',hv,hrn⟩:=hR;unfold wpListIn;rw[fI hf (show cM ops o φ=some true by unfold cM;rw[hgd])];simp only[f7];have hnd:∀c,o.op≠ .defer c:=fun c e=>by rw[hop] at e;cases e
       refine⟨fun f _=>trivial,?_⟩;rw[Oper.semAt_eq _ _ _ hnd,hrun v w' hrn];replace hk:=nO (K:=fun φ=>yE P M dz n ops l φ σ1 K) hk;obtain⟨h1,h2,h3⟩:=(hf.mono hl).put hv hn hd;exact ih D _ σ1 _ w' hk hr' h1 h2 (by rw[h3,hds];exact hd0.mono hl) (fun x φ' σ' hk=>(hq x φ' σ' hk).mono hl)
      rcases PF (ty:=o.type) hr hvs (dR hf x) p1 q1 p2 p3 p4 p5 p6 q2 q7 q3 q8 q4 q9 q5 p7 q6 with⟨h1,hR⟩|⟨h1,cap,h2,hR⟩
      ·obtain⟨cs',rfl,hk⟩:=k1 h1;exact hput (σ1:=gset σ r _) rfl (mZ (K:=fun s=>yZ φ o.dst _ fun φ=>yE P M dz n ops l φ s K) hk) hR
      ·exact hput (σ1:=gnew σ _) rfl (x6 (K:=fun s=>yZ φ o.dst _ fun φ=>yE P M dz n ops l φ s K) (k2 h1 cap _ h2 rfl)) hR
     ·cases hq0
    ·cases hq0
   ·exact A5 hdz ih C φ σ a w hg hr hf hn hd0 hq
def wT (K:GX->Fr->GS->Prop):GX->Fr->GS->Prop
 |.normal,φ,σ=>K .normal φ σ
 |_,_,_=>False
theorem GL {K:GX->Fr->GS->Prop}:∀(l:List Oper) (k:Nat) (φ:Fr) (σ:GS),(∀j:Nat,l[j]?=ops[k+j]?)->uH P M false n ops l φ σ (wT K)->
  ∃(call:Nat->fQ) (Φ:Nat->Fr) (S:Nat->GS) (G:Nat->GV),(∀i w0,cK P w0 (call i))/\(∀i,dS M (call i))/\Φ k=φ/\S k=σ/\K .normal (Φ (k+l.length)) (S (k+l.length))/\
   ∀(i:Nat) o,k<=i->ops[i]?=some o->(o.dst.all fun d=>decide (d<n))=true/\Φ (i+1)=iV (Φ i) o.dst (G i)/\
    ((cM ops o (Φ i)=some false/\G i=.tup []/\S (i+1)=S i)∨(cM ops o (Φ i)=some true/\dN P (call i) o (dE (Φ i)) (S i)=some (.val (G i),S (i+1))))
 |[],k,φ,σ,hl,hg=>by
  refine⟨fun _ _ _ _=>none,fun _=>φ,fun _=>σ,fun _=>.any,fun _=>iF,fun _=>jA,rfl,rfl,hg,fun i o hi ho=>?_⟩;have:=hl (i - k);rw[show k+(i - k)=i by omega,ho] at this;simp at this
 |o::l,k,φ,σ,hl,hg=>by
  have ho:ops[k]?=some o:=by have:=hl 0;simpa using this.symm
  rw[JZ] at hg;unfold rX at hg;split at hg
  ·rename_i hd;replace hd:=KX hd;have go:∀(c0:fQ) (g:GV) (σ1:GS),(∀w0,cK P w0 c0)->dS M c0->uH P M false n ops l (iV φ o.dst g) σ1 (wT K)->
     ((cM ops o φ=some false/\g=.tup []/\σ1=σ)∨(cM ops o φ=some true/\dN P c0 o (dE φ) σ=some (.val g,σ1)))->
     ∃(call:Nat->fQ) (Φ:Nat->Fr) (S:Nat->GS) (G:Nat->GV),(∀i w0,cK P w0 (call i))/\(∀i,dS M (call i))/\Φ k=φ/\S k=σ/\K .normal (Φ (k+(o::l).length)) (S (k+(o::l).length))/\
      ∀(i:Nat) o,k<=i->ops[i]?=some o->(o.dst.all fun d=>decide (d<n))=true/\Φ (i+1)=iV (Φ i) o.dst (G i)/\
       ((cM ops o (Φ i)=some false/\G i=.tup []/\S (i+1)=S i)∨(cM ops o (Φ i)=some true/\dN P (call i) o (dE (Φ i)) (S i)=some (.val (G i),S (i+1)))):=by
    intro c0 g σ1 hc0 hp0 hrest hstep;obtain⟨call,Φ,S,G,hc,hp,e1,e2,e3,e5⟩:=GL l (k+1) _ σ1 (fun j=>by have:=hl (j+1);rw[show k+1+j=k+(j+1) by omega];simpa using this) hrest;refine⟨fun i=>if i=k then c0 else call i,fun i=>if i=k then φ else Φ i,fun i=>if i=k then σ else S i,fun i=>if i=k then g else G i,fun i=>?_,fun i=>?_,aD rfl,aD rfl,?_,fun i o' hi ho'=>?_⟩
    ·show∀w0,cK P w0 (if i=k then c0 else call i);split
     ·exact hc0
     ·exact hc i
    ·show dS M (if i=k then c0 else call i);split
     ·exact hp0
     ·exact hp i
    ·show K .normal (if k+(l.length+1)=k then φ else Φ (k+(l.length+1))) (if k+(l.length+1)=k then σ else S (k+(l.length+1)));rw[aC (by omega),aC (by omega),show k+(l.length+1)=k+1+l.length by omega];exact e3
    ·by_cases hik:i=k
     ·subst hik;rw[ho] at ho';cases ho';simp only[f7,aC (show i+1≠i by omega),e1,e2];exact⟨hd,trivial,hstep⟩
     ·simp only[aC hik,aC (show i+1≠k by omega)];exact e5 i o' (by omega) ho'
   obtain⟨b,hw,hg⟩:=wY hg;cases b with
   |false=>exact go _ (.tup []) σ iF jA (nO (K:=fun φ=>uH P M false n ops l φ σ (wT K)) hg) (.inl ⟨hw,rfl,rfl⟩)
   |true=>
    simp only[bX,fN] at hg;obtain⟨r,σ1,⟨call,hcall,hpure,hop⟩,hg⟩:=oH hg;cases r with
    |val g=>exact go call g σ1 hcall hpure (nO (K:=fun φ=>uH P M false n ops l φ σ1 (wT K)) hg) (.inr ⟨hw,hop⟩)
    |panic g=>exact hg.elim
  ·exact hg.elim
theorem DL {K:GX->Fr->GS->Prop}:∀(l:List Oper) (k:Nat) (φ:Fr) (σ:GS),(∀j:Nat,j<l.length->l[j]?=ops[k+j]?)->uH P M false n ops l φ σ (wT K)->
  ∃(call:Nat->fQ) (Φ:Nat->Fr) (S:Nat->GS) (G:Nat->GV),(∀i w0,cK P w0 (call i))/\(∀i,dS M (call i))/\Φ k=φ/\S k=σ/\K .normal (Φ (k+l.length)) (S (k+l.length))/\
   ∀(i:Nat) o,k<=i->i<k+l.length->ops[i]?=some o->(o.dst.all fun d=>decide (d<n))=true/\Φ (i+1)=iV (Φ i) o.dst (G i)/\
    ((cM ops o (Φ i)=some false/\G i=.tup []/\S (i+1)=S i)∨(cM ops o (Φ i)=some true/\dN P (call i) o (dE (Φ i)) (S i)=some (.val (G i),S (i+1))))
 |[],k,φ,σ,hl,hg=>by
  refine⟨fun _ _ _ _=>none,fun _=>φ,fun _=>σ,fun _=>.any,fun _=>iF,fun _=>jA,rfl,rfl,hg,fun i o hi hi2 ho=>?_⟩;simp at hi2;omega
 |o::l,k,φ,σ,hl,hg=>by
  have ho:ops[k]?=some o:=by have:=hl 0 (by simp);simpa using this.symm
  rw[JZ] at hg;unfold rX at hg;split at hg
  ·rename_i hd;replace hd:=KX hd;have go:∀(c0:fQ) (g:GV) (σ1:GS),(∀w0,cK P w0 c0)->dS M c0->uH P M false n ops l (iV φ o.dst g) σ1 (wT K)->
     ((cM ops o φ=some false/\g=.tup []/\σ1=σ)∨(cM ops o φ=some true/\dN P c0 o (dE φ) σ=some (.val g,σ1)))->
     ∃(call:Nat->fQ) (Φ:Nat->Fr) (S:Nat->GS) (G:Nat->GV),(∀i w0,cK P w0 (call i))/\(∀i,dS M (call i))/\Φ k=φ/\S k=σ/\K .normal (Φ (k+(o::l).length)) (S (k+(o::l).length))/\
      ∀(i:Nat) o',k<=i->i<k+(o::l).length->ops[i]?=some o'->(o'.dst.all fun d=>decide (d<n))=true/\Φ (i+1)=iV (Φ i) o'.dst (G i)/\
       ((cM ops o' (Φ i)=some false/\G i=.tup []/\S (i+1)=S i)∨(cM ops o' (Φ i)=some true/\dN P (call i) o' (dE (Φ i)) (S i)=some (.val (G i),S (i+1)))):=by
    intro c0 g σ1 hc0 hp0 hrest hstep;obtain⟨call,Φ,S,G,hc,hp,e1,e2,e3,e5⟩:=DL l (k+1) _ σ1 (fun j hj=>by have:=hl (j+1) (by simp;omega);rw[show k+1+j=k+(j+1) by omega];simpa using this) hrest;refine⟨fun i=>if i=k then c0 else call i,fun i=>if i=k then φ else Φ i,fun i=>if i=k then σ else S i,fun i=>if i=k then g else G i,fun i=>?_,fun i=>?_,aD rfl,aD rfl,?_,fun i o' hi hi2 ho'=>?_⟩
    ·show∀w0,cK P w0 (if i=k then c0 else call i);split
     ·exact hc0
     ·exact hc i
    ·show dS M (if i=k then c0 else call i);split
     ·exact hp0
     ·exact hp i
    ·show K .normal (if k+(l.length+1)=k then φ else Φ (k+(l.length+1))) (if k+(l.length+1)=k then σ else S (k+(l.length+1)));rw[aC (by omega),aC (by omega),show k+(l.length+1)=k+1+l.length by omega];exact e3
    ·by_cases hik:i=k
     ·subst hik;rw[ho] at ho';cases ho';simp only[f7,aC (show i+1≠i by omega),e1,e2];exact⟨hd,trivial,hstep⟩
     ·simp only[aC hik,aC (show i+1≠k by omega)];exact e5 i o' (by omega) (by simp at hi2;omega) ho'
   obtain⟨b,hw,hg⟩:=wY hg;cases b with
   |false=>exact go _ (.tup []) σ iF jA (nO (K:=fun φ=>uH P M false n ops l φ σ (wT K)) hg) (.inl ⟨hw,rfl,rfl⟩)
   |true=>
    simp only[bX,fN] at hg;obtain⟨r,σ1,⟨call,hcall,hpure,hop⟩,hg⟩:=oH hg;cases r with
    |val g=>exact go call g σ1 hcall hpure (nO (K:=fun φ=>uH P M false n ops l φ σ1 (wT K)) hg) (.inr ⟨hw,hop⟩)
    |panic g=>exact hg.elim
  ·exact hg.elim
def UX (P:Program) (M:FuncId->Bool) (T:Nat->Option Nat) (Mk:Nat->List Nat) (i:Nat) (o:Oper) (φ:Fr) (σ:GS) (K:GV->GS->Prop):Prop:=
 let V:GRes->GS->Prop:=fun r s=>match r with|.val g=>K g s|.panic _=>False
 match eZ M o.op with
 |0=>A8 P M o (dE φ) σ V
 |1=>if jG (dE φ) o.op=T i∨T i=some LF then A8 P M o (dE φ) σ V else False
 |2=>if jG (dE φ) o.op=T i then A8 P M o (dE φ) σ V else False
 |3=>match iT P (dE φ) o.op,T i with
  |some f,some r=>match σ.objs[r]? with
   |some .free=>if σ.lo<=r then pX σ r f.2 fun s=>K (f.1 r) s else False
   |_=>False
  |_,_=>False
 |4=>A8 P M o (dE φ) (pN (Mk i) σ) fun r s=>match r with|.val g=>K g (sR (Mk i) σ s)|.panic _=>False
 |_=>False
theorem ZR {T:Nat->Option Nat} {Mk:Nat->List Nat} {i:Nat} {o:Oper} {φ:Fr} {σ:GS} {K:GV->GS->Prop} (h:UX P M T Mk i o φ σ K):
  ∃(call:fQ) (g:GV) (σ':GS),((∀w0,cK P w0 call)/\dS M call)/\pL P M call T Mk i o φ σ=some (g,σ')/\K g σ':=by
 unfold UX at h;simp only at h;split at h
 ·rename_i hc;obtain⟨r,σ1,⟨call,hcall,hpu,hop⟩,hk⟩:=oH h;cases r with
  |val g=>exact⟨call,g,σ1,⟨hcall,hpu⟩,by unfold pL;rw[hc];simp only[hop,JU],hk⟩
  |panic g=>exact hk.elim
 ·rename_i hc;split at h
  ·rename_i ht;obtain⟨r,σ1,⟨call,hcall,hpu,hop⟩,hk⟩:=oH h;cases r with
   |val g=>exact⟨call,g,σ1,⟨hcall,hpu⟩,by unfold pL;rw[hc];simp only[aD ht,hop,JU],hk⟩
   |panic g=>exact hk.elim
  ·exact h.elim
 ·rename_i hc;split at h
  ·rename_i ht;obtain⟨r,σ1,⟨call,hcall,hpu,hop⟩,hk⟩:=oH h;cases r with
   |val g=>exact⟨call,g,σ1,⟨hcall,hpu⟩,by unfold pL;rw[hc];simp only[aD ht,hop,JU],hk⟩
   |panic g=>exact hk.elim
  ·exact h.elim
 ·rename_i hc;split at h
  ·rename_i f r hf hT;split at h
   ·rename_i hfree;split at h
    ·rename_i hlo;exact⟨_,_,_,⟨iF,jA⟩,by unfold pL;rw[hc];simp only[hf,hT,hfree,aD hlo],mZ (K:=fun s=>K _ s) h⟩
    ·exact h.elim
   ·exact h.elim
  ·exact h.elim
 ·rename_i hc;obtain⟨r,σ1,⟨call,hcall,hpu,hop⟩,hk⟩:=oH h;cases r with
  |val g=>exact⟨call,g,_,⟨hcall,hpu⟩,by unfold pL;rw[hc];simp only[hop,JU],hk⟩
  |panic g=>exact hk.elim
 ·exact h.elim
def PD (P:Program) (o:Oper) (ρ:Operand->GV) (σ:GS) (K:GV->GS->Prop):Prop:=
 match o.op with
 |.call {callee:=.value f,args,..}=>match ρ f with
  |.fn (.func k) first cap=>if mC P k then∃g,(∀τ:GS,τ.lo=σ.lo->Fact P (.fn k) (first++args.toList.map ρ++cap) τ (.val g) τ)/\K g σ else False
  |_=>False
 |_=>False
open Classical in
noncomputable def FT (t:Tgt) (args:List GV) (lo:Nat) (g:GV):fQ:=fun t' a' s'=>if t'=t/\a'=args/\s'.lo=lo then some (.val g,s') else none
theorem VG {o:Oper} {ρ:Operand->GV} {σ:GS} {K:GV->GS->Prop} (h:PD P o ρ σ K):
  ∃(call:fQ) (g:GV),((∀w0,cK P w0 call)/\dS M call)/\(∀τ:GS,τ.lo=σ.lo->dN P call o ρ τ=some (.val g,τ))/\K g σ:=by
 unfold PD at h;split at h
 ·rename_i f args ts hop;split at h
  ·rename_i k first cap hf
   split at h
   ·rename_i hk;obtain⟨g,hfact,hK⟩:=h;refine⟨FT (.fn k) (first++args.toList.map ρ++cap) σ.lo g,g,⟨fun w0 t' a' s r' s' hc=>?_,fun k' hk' a' s r' s' hc=>?_⟩,fun τ hτ=>?_,hK⟩
    ·unfold FT at hc;split at hc
     ·rename_i hc1;obtain⟨rfl,rfl,hlo⟩:=hc1;cases hc;exact⟨(hfact _ hlo).keep,(hfact _ hlo).ds,(hfact _ hlo).calls w0⟩
     ·cases hc
    ·unfold FT at hc;split at hc
     ·cases hc;rfl
     ·cases hc
    ·unfold dN;simp only[hop,hf];rw[aD hk];exact aD ⟨rfl,rfl,hτ⟩
   ·exact h.elim
  ·exact h.elim
 ·exact h.elim
def HT (P:Program) (M:FuncId->Bool) (B:Nat->Bool) (T:Nat->Option Nat) (Mk:Nat->List Nat) (i:Nat) (o:Oper) (φ:Fr) (σ:GS) (K:GV->GS->Prop):Prop:=
 bif B i then PD P o (dE φ) σ K else UX P M T Mk i o φ σ K
theorem UY {B:Nat->Bool} {T:Nat->Option Nat} {Mk:Nat->List Nat} {i:Nat} {o:Oper} {φ:Fr} {σ:GS} {K:GV->GS->Prop} (h:HT P M B T Mk i o φ σ K):
  ∃(call:fQ) (g:GV) (σ':GS),((∀w0,cK P w0 call)/\dS M call)/\
   ((B i=false/\pL P M call T Mk i o φ σ=some (g,σ'))∨(B i=true/\σ'=σ/\∀τ:GS,τ.lo=σ.lo->dN P call o (dE φ) τ=some (.val g,τ)))/\K g σ':=by
 unfold HT at h;cases hb:B i with
 |true=>
  rw[hb] at h;obtain⟨call,g,hc,hf,hk⟩:=VG (M:=M) h;exact⟨call,g,σ,hc,.inr ⟨rfl,rfl,hf⟩,hk⟩
 |false=>
  rw[hb] at h;obtain⟨call,g,σ',hc,hs,hk⟩:=ZR h;exact⟨call,g,σ',hc,.inl ⟨rfl,hs⟩,hk⟩
def r9 (P:Program) (M:FuncId->Bool) (B:Nat->Bool) (T:Nat->Option Nat) (Mk:Nat->List Nat) (n:Nat) (ops:Array Oper) (l:List Oper):Nat->r7:=
 List.rec (motive:=fun _=>Nat->r7) (fun _ φ σ K=>K .normal φ σ) (fun o _ ih i φ σ K=>
  if(o.dst.all fun d=>Nat.blt d n) then
   EZ ops o φ fun b φ=>match b with
   |false=>yZ φ o.dst (.tup []) fun φ=>ih (i+1) φ σ K
   |true=>HT P M B T Mk i o φ σ fun g σ'=>yZ φ o.dst g fun φ=>ih (i+1) φ σ' K
  else False) l
theorem OW {B:Nat->Bool} {T:Nat->Option Nat} {Mk:Nat->List Nat} {o:Oper} {l:List Oper} {i:Nat} {φ:Fr} {σ:GS} {K:GX->Fr->GS->Prop}:
  r9 P M B T Mk n ops (o::l) i φ σ K=if(o.dst.all fun d=>Nat.blt d n) then
   EZ ops o φ fun b φ=>match b with
   |false=>yZ φ o.dst (.tup []) fun φ=>r9 P M B T Mk n ops l (i+1) φ σ K
   |true=>HT P M B T Mk i o φ σ fun g σ'=>yZ φ o.dst g fun φ=>r9 P M B T Mk n ops l (i+1) φ σ' K
  else False:=rfl
theorem BS {B:Nat->Bool} {T:Nat->Option Nat} {Mk:Nat->List Nat} {K:GX->Fr->GS->Prop}:∀(l:List Oper) (k:Nat) (φ:Fr) (σ:GS),(∀j:Nat,l[j]?=ops[k+j]?)->r9 P M B T Mk n ops l k φ σ K->
  ∃(call:Nat->fQ) (Φ:Nat->Fr) (S:Nat->GS) (G:Nat->GV),(∀i,(∀w0,cK P w0 (call i))/\dS M (call i))/\Φ k=φ/\S k=σ/\K .normal (Φ (k+l.length)) (S (k+l.length))/\
   ∀(i:Nat) o,k<=i->ops[i]?=some o->(o.dst.all fun d=>decide (d<n))=true/\Φ (i+1)=iV (Φ i) o.dst (G i)/\
    ((cM ops o (Φ i)=some false/\G i=.tup []/\S (i+1)=S i)∨(cM ops o (Φ i)=some true/\B i=false/\pL P M (call i) T Mk i o (Φ i) (S i)=some (G i,S (i+1)))∨
     (cM ops o (Φ i)=some true/\B i=true/\S (i+1)=S i/\∀τ:GS,τ.lo=(S i).lo->dN P (call i) o (dE (Φ i)) τ=some (.val (G i),τ)))
 |[],k,φ,σ,hl,hg=>by
  refine⟨fun _ _ _ _=>none,fun _=>φ,fun _=>σ,fun _=>.any,fun _=>⟨iF,jA⟩,rfl,rfl,hg,fun i o hi ho=>?_⟩;have:=hl (i - k);rw[show k+(i - k)=i by omega,ho] at this;simp at this
 |o::l,k,φ,σ,hl,hg=>by
  have ho:ops[k]?=some o:=by have:=hl 0;simpa using this.symm
  rw[OW] at hg;split at hg
  ·rename_i hd;replace hd:=KX hd;have go:∀(c0:fQ) (g:GV) (σ1:GS),((∀w0,cK P w0 c0)/\dS M c0)->r9 P M B T Mk n ops l (k+1) (iV φ o.dst g) σ1 K->
     ((cM ops o φ=some false/\g=.tup []/\σ1=σ)∨(cM ops o φ=some true/\B k=false/\pL P M c0 T Mk k o φ σ=some (g,σ1))∨(cM ops o φ=some true/\B k=true/\σ1=σ/\∀τ:GS,τ.lo=σ.lo->dN P c0 o (dE φ) τ=some (.val g,τ)))->
     ∃(call:Nat->fQ) (Φ:Nat->Fr) (S:Nat->GS) (G:Nat->GV),(∀i,(∀w0,cK P w0 (call i))/\dS M (call i))/\Φ k=φ/\S k=σ/\K .normal (Φ (k+(o::l).length)) (S (k+(o::l).length))/\
      ∀(i:Nat) o,k<=i->ops[i]?=some o->(o.dst.all fun d=>decide (d<n))=true/\Φ (i+1)=iV (Φ i) o.dst (G i)/\
       ((cM ops o (Φ i)=some false/\G i=.tup []/\S (i+1)=S i)∨(cM ops o (Φ i)=some true/\B i=false/\pL P M (call i) T Mk i o (Φ i) (S i)=some (G i,S (i+1)))∨
     (cM ops o (Φ i)=some true/\B i=true/\S (i+1)=S i/\∀τ:GS,τ.lo=(S i).lo->dN P (call i) o (dE (Φ i)) τ=some (.val (G i),τ))):=by
    intro c0 g σ1 hc0 hrest hstep;obtain⟨call,Φ,S,G,hc,e1,e2,e3,e5⟩:=BS l (k+1) _ σ1 (fun j=>by have:=hl (j+1);rw[show k+1+j=k+(j+1) by omega];simpa using this) hrest;refine⟨fun i=>if i=k then c0 else call i,fun i=>if i=k then φ else Φ i,fun i=>if i=k then σ else S i,fun i=>if i=k then g else G i,fun i=>?_,aD rfl,aD rfl,?_,fun i o' hi ho'=>?_⟩
    ·show(∀w0,cK P w0 (if i=k then c0 else call i))/\dS M (if i=k then c0 else call i);split
     ·exact hc0
     ·exact hc i
    ·show K .normal (if k+(l.length+1)=k then φ else Φ (k+(l.length+1))) (if k+(l.length+1)=k then σ else S (k+(l.length+1)));rw[aC (by omega),aC (by omega),show k+(l.length+1)=k+1+l.length by omega];exact e3
    ·by_cases hik:i=k
     ·subst hik;rw[ho] at ho';cases ho';simp only[f7,aC (show i+1≠i by omega),e1,e2];exact⟨hd,trivial,hstep⟩
     ·simp only[aC hik,aC (show i+1≠k by omega)];exact e5 i o' (by omega) ho'
   obtain⟨b,hw,hg⟩:=wY hg;cases b with
   |false=>exact go _ (.tup []) σ ⟨iF,jA⟩ (nO (K:=fun φ=>r9 P M B T Mk n ops l (k+1) φ σ K) hg) (.inl ⟨hw,rfl,rfl⟩)
   |true=>
    obtain⟨call,g,σ1,hcall,hop,hg⟩:=UY hg;exact go call g σ1 hcall (nO (K:=fun φ=>r9 P M B T Mk n ops l (k+1) φ σ1 K) hg) (.inr (hop.imp (fun q=>⟨hw,q⟩) fun q=>⟨hw,q⟩))
  ·exact hg.elim
end
def GDef.ren (f:Nat->Nat):GDef->GDef
 |.fn k a c=>.fn k (a.map (GV.ren f)) (c.map (GV.ren f))
 |.coll r=>.coll (f r)
def LessO (s s2:List GObj):Prop:=s2.length=s.length/\∀(C:Cx) (w:World) (i:Nat) x y,s[i]?=some x->s2[i]?=some y->ORel C w i x->ORel C w i y
theorem LessO.refl (s:List GObj):LessO s s:=⟨rfl,fun _ _ _ _ _ h1 h2 h=>by rw[h1] at h2;cases h2;exact h⟩
theorem LessO.rel {C:Cx} {σ:GS} {w0 w:World} {s:List GObj} (h:LessO σ.objs s) (hr:Rel C σ w0 w):Rel C {σ with objs:=s} w0 w:=
 ⟨hr.below,hr.fxc,fun r y hy=>(by
  have hi:r<σ.objs.length:=by rw[<-h.1];exact(List.getElem?_eq_some_iff.1 hy).1
  exact h.2 C w r _ y (gL hi) hy (hr.obj r _ (gL hi))),fun r hd=>hr.dom r (by rw[<-h.1];exact hd),hr.new,hr.inj,hr.sepB,hr.sepO,hr.fxn,hr.gl,hr.gs⟩
structure Shr (n0:Nat) (φ:Fr) (σ:GS) (φ1:Fr) (σ1:GS):Prop where
 ex:∃(ks:List Nat) (s:List GObj),LessO σ.objs s/\Lies ks σ1.objs s/\(∀i,i<n0->ks[i]?=some i)/\σ.ds=σ1.ds.map (GDef.ren (jZ ks σ.objs.length))/\∀t,φ t=(φ1 t).ren (jZ ks σ.objs.length)∨φ1 t=.any
structure GLoop (f:Fr->GS->(GX->Fr->GS->Prop)->Prop) (φ:Fr) (σ:GS) (K:GX->Fr->GS->Prop):Prop where
 ex:∃(I N:Nat->Fr->GS->Prop) (m:Nat),I m φ σ/\(∀m φ' σ',N m φ' σ'->I m φ' σ'∨∃φ2 σ2,Shr σ.objs.length φ' σ' φ2 σ2/\I m φ2 σ2)/\∀m φ1 σ1,I m φ1 σ1->f φ1 σ1 fun x φ' σ'=>match x with
  |.normal=>∃m',m'<m/\N m' φ' σ'
  |.exit i=>K (.exit i) φ' σ'
  |.ret=>K .ret φ' σ'
  |.panic g=>K (.panic g) φ' σ'
theorem GDefR.pull {D E:Cx} {f:Nat->Nat} (hfx:∀b o v,D.fx b o v->E.fx b o v) (hbk:∀i,E.bk i=D.bk (f i)) (hown:∀i,E.own i=D.own (f i)):∀{g:GDef} {d:Deferred},GDefR D (g.ren f) d->GDefR E g d
 |.fn _ _ _,_,⟨va,vc,e,h1,h2⟩=>⟨va,vc,e,h1.pull hfx hbk hown,h2.pull hfx hbk hown⟩
 |.coll r,_,⟨b,h1,e⟩=>⟨b,(hbk r).trans h1,e⟩
theorem DRel.pull {D E:Cx} {f:Nat->Nat} (hfx:∀b o v,D.fx b o v->E.fx b o v) (hbk:∀i,E.bk i=D.bk (f i)) (hown:∀i,E.own i=D.own (f i)):∀{gs:List GDef} {ds:List Deferred},DRel D (gs.map (GDef.ren f)) ds->DRel E gs ds
 |[],[],_=>trivial
 |_::_,_::_,⟨h1,h2⟩=>⟨h1.pull hfx hbk hown,DRel.pull hfx hbk hown h2⟩
 |[],_::_,h=>h.elim
 |_::_,[],h=>h.elim
theorem Shr.rel {C D:Cx} {w0 w wc:World} {σ0 σ σ1:GS} {φ φ1:Fr} {a:Act} (h:Shr σ0.objs.length φ σ φ1 σ1) (hc:Rel C σ0 w0 wc) (hl:C.le D) (hr:Rel D σ w0 w) (hf:FRel D φ a) (hd:DRel D σ.ds a.defers):
  ∃E:Cx,C.le E/\Rel E σ1 w0 w/\FRel E φ1 a/\DRel E σ1.ds a.defers:=by
 obtain⟨ks,s,hless,hlies,hpre,hds,hφ⟩:=h.ex;rw[<-hless.1] at hds;rw[<-hless.1] at hφ;replace hr:=hless.rel hr;have atb:∀i,i<σ0.objs.length->jZ ks s.length i=i:=fun i hi=>by
  have h3:=hpre i hi;obtain⟨h4,h5⟩:=List.getElem?_eq_some_iff.1 h3;rw[lD h4,h5]
 have hp:=hr.pull hlies;refine⟨D.pull (jZ ks s.length),⟨hl.fx,fun i b hb'=>?_,fun i I hI=>?_,hl.hd,hl.fix⟩,⟨hp.below,hp.fxc,hp.obj,hp.dom,hp.new,hp.inj,hp.sepB,hp.sepO,hp.fxn,hp.gl,hp.gs⟩,fun t=>?_,?_⟩
 ·have hi:i<σ0.objs.length:=by
   rcases eO i σ0.objs.length with h4|h4
   ·exact h4
   ·rw[(hc.dom i h4).1] at hb';cases hb'
  show D.bk (jZ ks s.length i)=some b;rw[atb i hi];exact hl.bk i b hb'
 ·have hi:i<σ0.objs.length:=by
   rcases eO i σ0.objs.length with h4|h4
   ·exact h4
   ·rw[(hc.dom i h4).2] at hI;cases hI
  show∃J,D.own (jZ ks s.length i)=some J/\_;rw[atb i hi];exact hl.own i I hI
 ·rcases hφ t with e|e
  ·have:=hf t;rw[e] at this;exact this.pull (D:=D) (f:=jZ ks s.length) (E:=D.pull (jZ ks s.length)) (fun _ _ _ h=>h) (fun _=>rfl) (fun _=>rfl) rfl
  ·rw[e];exact .any _
 ·rw[hds] at hd;exact hd.pull (D:=D) (f:=jZ ks s.length) (E:=D.pull (jZ ks s.length)) (fun _ _ _ h=>h) (fun _=>rfl) (fun _=>rfl)
def a43:fQ:=fun _ _ _=>none
def a7Y (P:Program) (M:FuncId->Bool) (ops:Array Oper) (op:Oper) (φ:Fr) (σ:GS) (K:GV->GS->Prop):Prop:=
 EZ ops op φ fun b φ=>match b with
 |true=>A8 P M op (dE φ) σ fun r σ'=>match r with
  |.panic g=>K g σ'
  |.val _=>False
 |false=>False
structure GDraw (P:Program) (M:FuncId->Bool) (n:Nat) (ops:Array Oper) (φ:Fr) (σ:GS) (K:GX->Fr->GS->Prop):Prop where
 ex:(calm M ops=true/\uH P M false n ops ops.toList φ σ (wT K))∨
  (∃(B:Nat->Bool) (A:List (List Nat)) (TL:List (Option Nat)) (k:Nat),A=sH ops.toList []/\k=(ops.toList.filter fun o=>eZ M o.op==3).length/\
   uU M B ops A TL (σ.objs++List.replicate k GObj.free).length=true/\
   r9 P M B (fun i=>TL.getD i none) (pI M ops A TL) n ops ops.toList 0 φ {σ with objs:=σ.objs++List.replicate k .free} K)∨
  (∃p op,ops[p]?=some op/\BW P M n ops p=true/\uH P M false n ops (ops.toList.take p) φ σ (wT fun _ φ1 σ1=>a7Y P M ops op φ1 σ1 fun g σ'=>K (.panic g) (a24 ops φ) σ'))
theorem GDraw.pan {P:Program} {M:FuncId->Bool} {n:Nat} {ops:Array Oper} {φ:Fr} {σ:GS} {K:GX->Fr->GS->Prop} (p:Nat) (op:Oper) (ho:ops[p]?=some op) (h:BW P M n ops p=true)
  (g:uH P M false n ops (ops.toList.take p) φ σ (wT fun _ φ1 σ1=>a7Y P M ops op φ1 σ1 fun g σ'=>K (.panic g) (a24 ops φ) σ')):GDraw P M n ops φ σ K:=⟨.inr (.inr ⟨p,op,ho,h,g⟩)⟩
theorem GDraw.calm {P:Program} {M:FuncId->Bool} {n:Nat} {ops:Array Oper} {φ:Fr} {σ:GS} {K:GX->Fr->GS->Prop} (h:Go.Proofs.YtimgfjldcdhejaaGreatDoor.calm M ops=true) (k:uH P M false n ops ops.toList φ σ (wT K)):GDraw P M n ops φ σ K:=⟨.inl ⟨h,k⟩⟩
theorem GDraw.wild {P:Program} {M:FuncId->Bool} {n:Nat} {ops:Array Oper} {φ:Fr} {σ:GS} {K:GX->Fr->GS->Prop} (A:List (List Nat)) (TL:List (Option Nat)) (k:Nat) (hA:sH ops.toList []=A) (hT:uF P M a43 LF σ ops.toList σ.objs.length φ=TL)
  (hk:(ops.toList.filter fun o=>eZ M o.op==3).length=k) (h:Go.Proofs.YtimgfjldcdhejaaGreatDoor.wild M ops A TL (σ.objs++List.replicate k GObj.free).length=true)
  (g:r9 P M (fun _=>false) (fun i=>TL.getD i none) (pI M ops A TL) n ops ops.toList 0 φ {σ with objs:=σ.objs++List.replicate k .free} K):GDraw P M n ops φ σ K:=⟨.inr (.inl ⟨_,A,TL,k,hA.symm,hk.symm,h,g⟩)⟩
theorem GDraw.wildT {P:Program} {M:FuncId->Bool} {n:Nat} {ops:Array Oper} {φ:Fr} {σ:GS} {K:GX->Fr->GS->Prop} (TL:List (Option Nat)) {A:List (List Nat)} {k:Nat} (hA:sH ops.toList []=A)
  (hk:(ops.toList.filter fun o=>eZ M o.op==3).length=k) (h:Go.Proofs.YtimgfjldcdhejaaGreatDoor.wild M ops A TL (σ.objs++List.replicate k GObj.free).length=true)
  (g:r9 P M (fun _=>false) (fun i=>TL.getD i none) (pI M ops A TL) n ops ops.toList 0 φ {σ with objs:=σ.objs++List.replicate k .free} K):GDraw P M n ops φ σ K:=⟨.inr (.inl ⟨_,A,TL,k,hA.symm,hk.symm,h,g⟩)⟩
def cT:=@GDraw.wildT
def OZ (P:Program) (M:FuncId->Bool) (ro:Option Nat) (n:Nat) (ops:Array Oper) (draw:Bool):r7:=fun φ σ K=>
 match draw with
 |true=>GDraw P M n ops φ σ K
 |false=>yE P (fun _=>false) ro.isNone n ops ops.toList φ σ K
def a6S (a b:r7):r7:=fun φ σ K=>a φ σ fun x φ' σ'=>match x with
 |.normal=>b φ' σ' K
 |.exit i=>K (.exit i) φ' σ'
 |.ret=>K .ret φ' σ'
 |.panic g=>K (.panic g) φ' σ'
def a2P (c:Operand) (a b:r7):r7:=fun φ σ K=>VB φ c fun t φ=>match t with
 |true=>a φ σ K
 |false=>b φ σ K
def VF (id:Nat) (c:r7):r7:=fun φ σ K=>c φ σ fun x φ' σ'=>match x with
 |.exit i=>Bool.rec (motive:=fun _=>Prop) (K (.exit i) φ' σ') (K .normal φ' σ') (Nat.beq i id)
 |.normal=>K .normal φ' σ'
 |.ret=>K .ret φ' σ'
 |.panic g=>K (.panic g) φ' σ'
def V1 (P:Program) (ro:Option Nat) (n:Nat) (f:Operand) (ps:Array Tmp) (asg body:Code):r7:=fun φ σ K=>
 match dE φ f with
 |.fn (.func k) first cap=>
  if mC P k then
   match FA ro σ with
   |some (rd,σ1)=>∃r σ2,Fact P (.fn k) (first++.yld σ1.objs.length::cap) (gnew σ1 (.loop .ready none n φ ps asg body rd)) r σ2/\
    match r with
    |.val _=>x5 (x8 σ1.objs.length φ σ2) fun q=>K q.1 q.2.1 q.2.2
    |.panic g=>K (.panic g) φ σ2
   |none=>False
  else False
 |_=>False
def UU (P:Program) (M:FuncId->Bool) (ro:Option Nat) (n:Nat) (c:Code):r7:=
 Code.rec (motive:=fun _=>r7)
  (fun φ σ K=>K .normal φ σ)
  (fun _ ops draw=>OZ P M ro n ops draw)
  (fun _ _ a b=>a6S a b)
  (fun c _ _ a b=>a2P c a b)
  (fun id _ c=>VF id c)
  (fun _ c=>GLoop c)
  (fun f ps asg body _ _=>V1 P ro n f ps asg body)
  (fun id φ σ K=>K (.exit id) φ σ)
  (fun _ _ _ _ _=>False)
  (fun _ φ σ K=>K .normal φ σ)
  (fun _ _ _ _=>False)
  (fun φ σ K=>K .ret φ σ)
  (fun _ _ _ _=>False)
  c
section
variable {P : Program} {M : FuncId → Bool} {w0 : World} {n : Nat} {ro : Option Nat}
theorem B9 (hm:P.follows .mixedOrders=true):∀(c:Code) (Q:Exit->Act->World->Prop) (K:GX->Fr->GS->Prop) (C:Cx) (rb:Option Nat) (φ:Fr) (σ:GS) (a:Act) (w:World),
  UU P M ro n c φ σ K->RoR C ro rb->Rel C σ w0 w->FRel C φ a->a.tmps.size=n->DRel C σ.ds a.defers->(∀x φ' σ',K x φ' σ'->QOk w0 C Q n x φ' σ')->c.wpIn (FW rb) 0 P Q a w:=by
 intro c;induction c with
 |skip=>intro Q K C rb φ σ a w h ho hr hf hn hd hq;exact wpIn_skip (hq _ _ _ h C a w (.refl C) hf hn hd hr)
 |label l=>intro Q K C rb φ σ a w h ho hr hf hn hd hq;exact wpIn_label (hq _ _ _ h C a w (.refl C) hf hn hd hr)
 |exit id=>intro Q K C rb φ σ a w h ho hr hf hn hd hq;exact wpIn_exit (hq _ _ _ h C a w (.refl C) hf hn hd hr)
 |ret=>intro Q K C rb φ σ a w h ho hr hf hn hd hq;exact wpIn_ret (hq _ _ _ h C a w (.refl C) hf hn hd hr)
 |region id ops draw=>
  intro Q K C rb φ σ a w h ho hr hf hn hd hq;replace h:OZ P M ro n ops draw φ σ K:=h;unfold OZ at h;cases draw with
  |true=>
   rcases h.ex with⟨hcalm,h⟩|⟨B,A,TL,k,rfl,rfl,hwild,h⟩|⟨p,op,hop,hcp,h⟩
   ·obtain⟨call,Φ,S,G,hc,hp,e1,e2,e3,e5⟩:=GL ops.toList 0 φ σ (fun j=>by simp) h;rw[bI,bJ] at e3;exact KY hm (fun i=>hc i w0) hp hcalm (⟨fun i o ho=>e5 i o (zL _) ho⟩:Trace P call n ops Φ S G) e1 e2 rfl rfl hr hf hn hd (hq _ _ _ e3)
   ·obtain⟨call,Φ,S,G,hc,e1,e2,e3,e5⟩:=BS ops.toList 0 φ _ (fun j=>by simp) h;rw[bI,bJ] at e3;exact GR (B:=B) (call:=call) hm (fun i=>(hc i).1 w0) (fun i=>(hc i).2) rfl hwild ⟨fun i o ho=>e5 i o (zL _) ho⟩ e1 e2 rfl rfl rfl (hr.frees _) hf hn hd (hq _ _ _ e3)
   ·have hps:p<ops.size:=(Array.getElem?_eq_some_iff.1 hop).1;have hlen:(ops.toList.take p).length=p:=by simp;omega
    obtain⟨call,Φ,S,G,hc,hp,e1,e2,e3,e5⟩:=DL (ops.toList.take p) 0 φ σ (fun j hj=>by rw[hlen] at hj;rw[dY,aD hj];simp) h;rw[bI,hlen] at e3;obtain⟨b,hw,e3⟩:=wY e3;cases b with
    |false=>exact e3.elim
    |true=>
     obtain⟨r,σ',⟨cp,hcp1,hcp2,hop'⟩,hk⟩:=oH e3;cases r with
     |val g=>exact hk.elim
     |panic g=>
      refine GQ (call:=fun i=>if i=p then cp else call i) (Φ:=Φ) (S:=S) (G:=G) hm (fun i=>?_) (fun i=>?_) hcp hop (fun i o hi ho=>?_) hw (by rw[aD rfl];exact hop') e1 e2 hr hf hn hd (hq _ _ _ hk)
      ·show cK P w0 (if i=p then cp else call i);split
       ·exact hcp1 w0
       ·exact hc i w0
      ·show dS M (if i=p then cp else call i);split
       ·exact hcp2
       ·exact hp i
      ·rw[aC (show i≠p by omega)];exact e5 i o (zL _) (by rw[hlen];omega) ho
  |false=>exact wpIn_region_list (BU (fun e=>ho.none_of e) _ C φ σ a w (by simpa using h) hr hf hn hd hq)
 |seq c1 c2 ih1 ih2=>
  intro Q K C rb φ σ a w h ho hr hf hn hd hq;replace h:a6S (UU P M ro n c1) (UU P M ro n c2) φ σ K:=h;unfold a6S at h;refine wpIn_seq (ih1 _ _ C rb φ σ a w h ho hr hf hn hd (fun x φ' σ' hk D a1 w1 hl hf1 hn1 hd1 hr1=>?_));cases x with
  |normal=>exact ih2 Q K D rb φ' σ' a1 w1 hk (ho.mono hl) hr1 hf1 hn1 hd1 (fun x φ' σ' hk=>(hq x φ' σ' hk).mono hl)
  |exit id=>exact hq _ _ _ hk D a1 w1 hl hf1 hn1 hd1 hr1
  |ret=>exact hq _ _ _ hk D a1 w1 hl hf1 hn1 hd1 hr1
  |panic g=>exact hq _ _ _ hk D a1 w1 hl hf1 hn1 hd1 hr1
 |cond c c1 c2 ih1 ih2=>
  intro Q K C rb φ σ a w h ho hr hf hn hd hq;replace h:a2P c (UU P M ro n c1) (UU P M ro n c2) φ σ K:=h;unfold a2P at h;obtain⟨t,ht,h⟩:=ZW h;have hv:=dR hf c;rw[ht] at hv;generalize hu:a.eval c=u at hv;cases hv;refine wpIn_cond hu ?_;cases t with
  |true=>exact ih1 Q K C rb φ σ a w h ho hr hf hn hd hq
  |false=>exact ih2 Q K C rb φ σ a w h ho hr hf hn hd hq
 |block id c ih=>
  intro Q K C rb φ σ a w h ho hr hf hn hd hq;replace h:VF id (UU P M ro n c) φ σ K:=h;unfold VF at h;refine wpIn_block (ih _ _ C rb φ σ a w h ho hr hf hn hd (fun x φ' σ' hk D a1 w1 hl hf1 hn1 hd1 hr1=>?_));cases x with
  |normal=>exact hq _ _ _ hk D a1 w1 hl hf1 hn1 hd1 hr1
  |exit i=>
   show if i=id then Q .normal a1 w1 else Q (.exit i) a1 w1;have hk':Bool.rec (motive:=fun _=>Prop) (K (.exit i) φ' σ') (K .normal φ' σ') (Nat.beq i id):=hk;split
   ·rename_i hi;subst hi;rw[Nat.beq_refl] at hk';exact hq _ _ _ hk' D a1 w1 hl hf1 hn1 hd1 hr1
   ·rename_i hi;cases hb:Nat.beq i id with
    |true=>exact absurd (Nat.eq_of_beq_eq_true hb) hi
    |false=>
     rw[hb] at hk';exact hq _ _ _ hk' D a1 w1 hl hf1 hn1 hd1 hr1
  |ret=>exact hq _ _ _ hk D a1 w1 hl hf1 hn1 hd1 hr1
  |panic g=>exact hq _ _ _ hk D a1 w1 hl hf1 hn1 hd1 hr1
 |loop c ih=>
  intro Q K C rb φ σ a w h ho hr hf hn hd hq;replace h:GLoop (UU P M ro n c) φ σ K:=h;obtain⟨I,N,m,hI,hN,hstep⟩:=h.ex;refine wB (m+1) ?_;have key:∀(k m:Nat) (D:Cx) (φ1:Fr) (σ1:GS) (a:Act) (w:World),m<k->I m φ1 σ1->C.le D->Rel D σ1 w0 w->FRel D φ1 a->a.tmps.size=n->
    DRel D σ1.ds a.defers->tW (FW rb) 0 P c Q k a w:=by
   intro k;induction k with
   |zero=>intro m D φ1 σ1 a w hm;omega
   |succ k ihk=>
    intro m D φ1 σ1 a w hm hI hCD hr1 hf1 hn1 hd1;unfold tW;refine ih _ _ D rb φ1 σ1 a w (hstep m φ1 σ1 hI) (ho.mono hCD) hr1 hf1 hn1 hd1 (fun x φ' σ' hk D1 a1 w1 hl hf2 hn2 hd2 hr2=>?_);cases x with
    |normal=>
     obtain⟨m',hm',hk⟩:=hk;rcases hN _ _ _ hk with hI'|⟨φ2,σ2,hs,hI'⟩
     ·exact ihk m' D1 φ' σ' a1 w1 (by omega) hI' (hCD.trans hl) hr2 hf2 hn2 hd2
     ·obtain⟨E,hE,hrE,hfE,hdE⟩:=hs.rel hr (hCD.trans hl) hr2 hf2 hd2;exact ihk m' E φ2 σ2 a1 w1 (by omega) hI' hE hrE hfE hn2 hdE
    |exit id=>exact hq _ _ _ hk D1 a1 w1 (hCD.trans hl) hf2 hn2 hd2 hr2
    |ret=>exact hq _ _ _ hk D1 a1 w1 (hCD.trans hl) hf2 hn2 hd2 hr2
    |panic g=>exact hq _ _ _ hk D1 a1 w1 (hCD.trans hl) hf2 hn2 hd2 hr2
  exact key (m+1) m C φ σ a w (by omega) hI (.refl C) hr hf hn hd
 |rangeFunc f ps asg body iha ihb=>
  intro Q K C rb φ σ a w h ho hr hf hn hd hq;replace h:V1 P ro n f ps asg body φ σ K:=h;unfold V1 at h;split at h
  ·rename_i k first cap hfv
   split at h
   ·rename_i hk;split at h
    ·rename_i rd σ1 hent;obtain⟨r,σ2,hfact,h⟩:=h;cases r with
     |val g=>
      obtain⟨⟨x,φ',σ'⟩,he,h⟩:=mJ h;refine oK (call:=uW _ _ _ _ _) (M:=fun _=>false) (m:=0) hm (vP hfact w0) (fun _ hk=>by cases hk) (.rangeFunc f ps asg body) Q C rb φ φ' σ σ' x a w ?_ ho hr hf hn hd (hq _ _ _ h);simp only[iM,hfv,hent];rw[aD hk];simp only[C4,he]
     |panic g=>
      refine oK (call:=uW _ _ _ _ _) (M:=fun _=>false) (m:=0) hm (vP hfact w0) (fun _ hk=>by cases hk) (.rangeFunc f ps asg body) Q C rb φ φ σ σ2 (.panic g) a w ?_ ho hr hf hn hd (hq _ _ _ h);simp only[iM,hfv,hent];rw[aD hk];simp only[C4]
    ·exact h.elim
   ·exact h.elim
  ·exact h.elim
 |_=>intro Q K C rb φ σ a w h;exact h.elim
end
def a2c (P:Program) (fn:Func) (R:GRes->GS->Prop):GX->Fr->GS->Prop
 |.normal,φ,σ=>x5 (lY P (fun _=>false) (fun _ _ _=>none) 50 fn φ σ.ds .ret σ) fun q=>R q.1 q.2
 |.ret,φ,σ=>x5 (lY P (fun _=>false) (fun _ _ _=>none) 50 fn φ σ.ds .ret σ) fun q=>R q.1 q.2
 |.panic g,φ,σ=>x5 (lY P (fun _=>false) (fun _ _ _=>none) 50 fn φ σ.ds (.pan g) σ) fun q=>R q.1 q.2
 |.exit _,_,_=>False
def WkRes:GRes->GRes->Prop
 |.val g,.val h=>Wk g h
 |.panic g,.panic h=>Wk g h
 |_,_=>False
theorem WkRes.erel {C:Cx} {r r':GRes} {e:Ending} (h:WkRes r r') (he:ERel C r e):ERel C r' e:=by
 cases r<;>cases r'<;>first|exact h.elim|skip
 ·obtain⟨v,e1,h1⟩:=he;exact⟨v,e1,h C v h1⟩
 ·obtain⟨v,e1,h1⟩:=he;exact⟨v,e1,h C v h1⟩
theorem WkRes.refl:∀r:GRes,WkRes r r
 |.val g=>bF g
 |.panic g=>bF g
structure Owes (s:List GObj) (r:GRes) (s':List GObj) (r0:GRes) (σ0:GS):Prop where
 ex:∃ks:List Nat,Lies ks s' σ0.objs/\(∀i,i<s.length->ks[i]?=some i)/\WkRes r0 (r.ren (jZ ks σ0.objs.length))
def GObj.notHeld:GObj->Bool
 |.held=>false
 |_=>true
theorem SC.of_gwp {P:Program} (M:FuncId->Bool) (hm:P.follows .mixedOrders=true) {k:FuncId} {fn:Func} {c:Code} (hfn:P.funcs[k]?=some fn) (hb:fn.body=some c) {args:List GV} {s s':List GObj} {r:GRes}
  (hlen:args.length<=fn.ntmps) (hs:s.length<=s'.length) (hh0:s'.all GObj.notHeld=true) (h:UU P M none fn.ntmps c (vZ args) ⟨s,0,[]⟩ (a2c P fn (Owes s r s'))):SC P k args s r s':=by
 have hh:∀x∈s',x≠ .held:=fun x hx e=>by subst e;have:=List.all_eq_true.1 hh0 _ hx;cases this
 refine⟨hs,fun C w vs hr hv=>?_,hh⟩;obtain⟨h1,h2⟩:=yD (fn:=fn) hlen hv;have fin:∀(φ':Fr) (σ1:GS) (u:GMode) (D:Cx) (a':Act) (w':World) (um:FrameMode),x5 (lY P (fun _=>false) (fun _ _ _=>none) 50 fn φ' σ1.ds u σ1) (fun q=>Owes s r s' q.1 q.2)->
   C.le D->FRel D φ' a'->DRel D σ1.ds a'.defers->Rel D σ1 w w'->MRel D u um->rF P fn a'.tmps (fun e w'=>∃D,C.le D/\Rel D ⟨s',0,[]⟩ w w'/\ERel D r e) a'.defers um w':=by
  intro φ' σ1 u D a' w' um hk hl hf' hd' hr' hmr;obtain⟨⟨r0,σ2⟩,hlv,⟨ks,hlies,hpre,hwk⟩⟩:=mJ hk;refine(sV (tmps:=a'.tmps) (w0:=w) hm (iF w) jA _ _ _ hlv).2 D w' a'.defers um hr' hf' hd' hmr (fun E e w'' hE hrE he=>?_);refine⟨E.pull (jZ ks σ2.objs.length),?_,hrE.pull hlies,?_⟩
  ·have hlE:=hl.trans hE;have atb:∀i,i<s.length->jZ ks σ2.objs.length i=i:=fun i hi=>by
    have h3:=hpre i hi;obtain⟨h4,h5⟩:=List.getElem?_eq_some_iff.1 h3;rw[lD h4,h5]
   refine⟨hlE.fx,fun i b hb'=>?_,fun i I hI=>?_,?_,hlE.fix⟩
   ·have hi:i<s.length:=by
     rcases eO i s.length with h4|h4
     ·exact h4
     ·rw[(hr.dom i h4).1] at hb';cases hb'
    show E.bk (jZ ks σ2.objs.length i)=some b;rw[atb i hi];exact hlE.bk i b hb'
   ·have hi:i<s.length:=by
     rcases eO i s.length with h4|h4
     ·exact h4
     ·rw[(hr.dom i h4).2] at hI;cases hI
    show∃J,E.own (jZ ks σ2.objs.length i)=some J/\_;rw[atb i hi];exact hlE.own i I hI
   ·exact hlE.hd
  ·exact(hwk.erel he).pull (D:=E) (f:=jZ ks σ2.objs.length) (E:=E.pull (jZ ks σ2.objs.length)) (fun _ _ _ h=>h) (fun _=>rfl) (fun _=>rfl)
 refine yO hfn hb (wpIn_wide (n:=0).1 (B9 (w0:=w) (ro:=none) (n:=fn.ntmps) hm c _ _ C none _ _ _ w h trivial hr h1 h2 trivial (fun x φ' σ1 hk D a' w' hl hf' hn' hd' hr'=>?_)));cases x with
 |normal=>exact fin φ' σ1 .ret D a' w' .returning hk hl hf' hd' hr' rfl
 |ret=>exact fin φ' σ1 .ret D a' w' .returning hk hl hf' hd' hr' rfl
 |exit id=>exact hk.elim
 |panic g=>exact fun v hv=>fin φ' σ1 (.pan g) D a' w' (.panicking [{v,recovered:=false}]) hk hl hf' hd' hr' ⟨v,rfl,hv⟩
def bQ:=@SC.of_gwp
