/- Part of HostValues. -/
import Derived.Maps.RangeRun
import Derived.Test.YtmnjcddcihdlfaaGreatDoorV13
set_option linter.all false
namespace Go.Proofs.YtmnjcddcihdlfaaGreatDoor
open Go.RowKit
variable [Globals]
def GIf (c:Bool) (A B:Prop):Prop:=Bool.rec (motive:=fun _=>Prop) B A c
theorem GIf.mk {c:Bool} {A B:Prop} (yes:c=true->A) (no:c=false->B):GIf c A B:=by
 cases c with
 |true=>exact yes rfl
 |false=>exact no rfl
def e6:=@GIf.mk
theorem GIf.yes {c:Bool} {A B:Prop} (h:GIf c A B) (hc:c=true):A:=by subst hc;exact h
theorem GIf.no {c:Bool} {A B:Prop} (h:GIf c A B) (hc:c=false):B:=by subst hc;exact h
structure GNeed (c A:Prop):Prop where
 need:c
 next:A
def rA {α:Type} (x:Option α) (K:α->Prop):Prop:=
 match x with
 |some a=>K a
 |none=>False
theorem jL {α:Type} {x:Option α} {K:α->Prop} (h:rA x K):∃a,x=some a/\K a:=by
 cases x with
 |none=>exact h.elim
 |some a=>exact⟨a,rfl,h⟩
def C6 {α:Type} (l:List α):(List α->Prop)->Prop:=
 List.rec (motive:=fun _=>(List α->Prop)->Prop) (fun K=>K []) (fun x _ ih K=>ih fun ys=>K (x::ys)) l
theorem y6 {α:Type}:∀{l:List α} {K:List α->Prop},C6 l K->K l:=by
 intro l;induction l with
 |nil=>exact fun h=>h
 |cons x xs ih=>exact fun h=>ih h
def lU (σ:GS) (r:Nat) (x:GObj) (K:GS->Prop):Prop:=C6 (σ.objs.set r x) fun l=>K ⟨l,σ.lo,σ.ds⟩
theorem iU {σ:GS} {r:Nat} {x:GObj} {K:GS->Prop} (h:lU σ r x K):K (gset σ r x):=y6 (K:=fun l=>K ⟨l,σ.lo,σ.ds⟩) h
def C2 (σ:GS) (x:GObj) (K:GS->Prop):Prop:=C6 (σ.objs++[x]) fun l=>K ⟨l,σ.lo,σ.ds⟩
theorem qJ {σ:GS} {x:GObj} {K:GS->Prop} (h:C2 σ x K):K (gnew σ x):=y6 (K:=fun l=>K ⟨l,σ.lo,σ.ds⟩) h
def ON (g:GV) (K:GV->Prop):Prop:=
 match g with
 |.b x=>K (.b x)
 |.i k n=>K (.i k n)
 |.s l=>K (.s l)
 |.o v=>K (.o v)
 |.agg cs=>K (.agg cs)
 |.tup cs=>K (.tup cs)
 |.ifc t v=>K (.ifc t v)
 |.fn f a c=>K (.fn f a c)
 |.sl k xs=>K (.sl k xs)
 |.ptr r off=>K (.ptr r off)
 |.snap cs off=>K (.snap cs off)
 |.mp r=>K (.mp r)
 |.rs r off e n c=>K (.rs r off e n c)
 |.glb g off=>K (.glb g off)
 |.yld r=>K (.yld r)
 |.dat r cs=>K (.dat r cs)
 |.any=>K .any
theorem N0 {g:GV} {K:GV->Prop} (h:ON g K):K g:=by cases g<;>exact h
noncomputable def OO (φ:Fr) (d:Nat) (g:GV):Fr:=fun t=>Bool.rec (motive:=fun _=>GV) (φ t) g (Nat.beq t d)
theorem rP (φ:Fr) (d:Nat) (g:GV):OO φ d g=uL φ d g:=by
 funext t;show Bool.rec (motive:=fun _=>GV) (φ t) g (Nat.beq t d)=if t=d then g else φ t;by_cases h:t=d
 ·subst h;rw[aA rfl,Nat.beq_refl]
 ·rw[aB h];cases hb:Nat.beq t d with
  |false=>rfl
  |true=>exact absurd (cI hb) h
def mR (φ:Fr) (d:Option Tmp) (g:GV) (K:Fr->Prop):Prop:=
 match d with
 |some d=>ON g fun g=>K (OO φ d g)
 |none=>K φ
theorem j0 {φ:Fr} {d:Option Tmp} {g:GV} {K:Fr->Prop} (h:mR φ d g K):K (f5 φ d g):=by
 cases d with
 |none=>exact h
 |some d=>rw[show f5 φ (some d) g=uL φ d g from rfl,<-rP];exact N0 (K:=fun g=>K (OO φ d g)) h
def oU (x:Option GV) (dflt:Nat) (K:Nat->Prop):Prop:=
 match x with
 |none=>K dflt
 |some (.i _ n)=>GNeed (0<=n) (K n.toNat)
 |_=>False
theorem m6 {x:Option GV} {d:Nat} {K:Nat->Prop} (h:oU x d K):∃a,jU x d=some a/\K a:=by
 unfold oU at h;unfold jU;split at h
 ·exact⟨d,rfl,h⟩
 ·rename_i k n;exact⟨_,aA h.need,h.next⟩
 ·exact h.elim
def GU (P:Program) (t:TypeId) (x:GV) (lo hi mx:Option GV) (K:GV->Prop):Prop:=
 match x with
 |.s l=>if eU P t=some 1&&mx.isNone then oU lo 0 fun a=>oU hi l.length fun b=>GNeed (a<=b/\b<=l.length) (∃r,r=(l.drop a).take (b - a)/\K (.s r)) else False
 |.sl k xs=>
  match iP P t with
  |some e=>match dR P e with
   |some size=>GNeed (xs.all (fun x=>x.cells.length==size)=true) <|
    oU lo 0 fun a=>oU hi xs.length fun b=>GNeed (a<=b/\b<=xs.length) <| ∃ys,ys=(xs.drop a).take (b - a)/\
     match mx with
     |none=>∃k',k'=(if a=0&&b=xs.length then k else if k=.full&&b=xs.length&&a<b then .full else .none)/\K (.sl k' ys)
     |some m=>GNeed (hi.isSome=true/\jU (some m) 0=some b) (K (.sl (if a<b then .full else .none) ys))
   |none=>False
  |none=>False
 |.rs r off esz n c=>
  match iP P t with
  |some e=>match dR P e with
   |some size=>bif Nat.beq esz size&&Nat.blt 0 size&&mx.isNone then
     oU lo 0 fun a=>oU hi n fun b=>GNeed (a<=b/\b<=n/\(a=0∨a<n)) (∃off' m c',GNeed (off'=off+a*esz/\m=b - a/\c'=(if a=0 then c else 0)) (K (.rs r off' esz m c')))
    else False
   |none=>False
  |none=>False
 |x=>rA (lK P t x lo hi mx) K
theorem MN {P:Program} {t:TypeId} {x:GV} {lo hi mx:Option GV} {K:GV->Prop} (h:GU P t x lo hi mx K):∃g,lK P t x lo hi mx=some g/\K g:=by
 unfold GU at h;split at h
 ·rename_i l;split at h
  ·rename_i hc;obtain⟨a,ha,h⟩:=m6 h;obtain⟨b,hb,h⟩:=m6 h;obtain⟨hab,r,rfl,h⟩:=h;refine⟨_,?_,h⟩;simp only[lK,hc,ha,hb,dL];rw[aA (by simpa using hab)]
  ·exact h.elim
 ·rename_i k xs;split at h
  ·rename_i e he;split at h
   ·rename_i size hs;have hall:=h.need;obtain⟨a,ha,h⟩:=m6 h.next;obtain⟨b,hb,h⟩:=m6 h;have hab:(decide (a<=b)&&decide (b<=xs.length))=true:=by simpa using h.need
    obtain⟨ys,rfl,h⟩:=h.next;split at h
    ·obtain⟨k',rfl,h⟩:=h;refine⟨_,?_,h⟩;simp only[lK,he,hs,hall,dL,ha,hb,hab]
    ·rename_i m;refine⟨_,?_,h.next⟩;simp only[lK,he,hs,hall,dL,ha,hb,hab];rw[aA (by simpa using h.need)]
   ·exact h.elim
  ·exact h.elim
 ·rename_i r off esz n c;split at h
  ·rename_i e he;split at h
   ·rename_i size hs;cases hq:(Nat.beq esz size&&Nat.blt 0 size&&mx.isNone) with
    |false=>rw[hq] at h;exact h.elim
    |true=>
     rw[hq] at h;simp only[cond_true] at h;obtain⟨a,ha,h⟩:=m6 h;obtain⟨b,hb,h⟩:=m6 h;obtain⟨⟨h1,h2,h3⟩,off',m,c',⟨rfl,rfl,rfl⟩,h⟩:=h;refine⟨_,?_,h⟩;have hq':(decide (esz=size)&&decide (0<size)&&mx.isNone)=true:=by
      simp only[aF] at hq⊢;exact⟨⟨aR (cI hq.1.1),aR (bL hq.1.2)⟩,hq.2⟩
     simp only[lK,he,hs,hq',dL,ha,hb];rw[aA (by simp only[aF,aH];exact⟨⟨h1,h2⟩,h3⟩)]
   ·exact h.elim
  ·exact h.elim
 ·exact jL h
def H7 (P:Program) (t:TypeId) (x ix:GV) (K:GV->Prop):Prop:=
 match x,ix with
 |.s l,.i _ n=>if eU P t=some 1 then GNeed (0<=n) (∃b,l[n.toNat]?=some b/\K (.i .u8 b.toNat)) else False
 |x,ix=>rA (vI P t x ix) K
theorem MZ {P:Program} {t:TypeId} {x ix:GV} {K:GV->Prop} (h:H7 P t x ix K):∃g,vI P t x ix=some g/\K g:=by
 unfold H7 at h;split at h
 ·split at h
  ·rename_i hk;obtain⟨h0,b,hb,h1⟩:=h;refine⟨_,?_,h1⟩;simp only[vI,aA h0,aA hk,hb];rfl
  ·exact h.elim
 ·exact jL h
def sU (P:Program) (t:TypeId) (x ix:GV) (K:GV->Prop):Prop:=
 match x,ix with
 |.sl _ xs,.i _ n=>match iP P t with
  |some e=>match dR P e with
   |some size=>GNeed (0<=n) (∃y,xs[n.toNat]?=some y/\GNeed (y.cells.length=size) (K (.snap y.cells 0)))
   |none=>False
  |none=>False
 |.ptr r off,.i _ n=>match zS P t with
  |some (len,e)=>match dR P e with
   |some size=>GNeed (0<=n/\n<len) (K (.ptr r (off+n.toNat*size)))
   |none=>False
  |none=>False
 |.snap cs off,.i _ n=>match zS P t with
  |some (len,e)=>match dR P e with
   |some size=>GNeed (0<=n/\n<len) (K (.snap cs (off+n.toNat*size)))
   |none=>False
  |none=>False
 |.glb g off,.i _ n=>match zS P t with
  |some (len,e)=>match dR P e with
   |some size=>GNeed (0<=n/\n<len) (K (.glb g (off+n.toNat*size)))
   |none=>False
  |none=>False
 |.rs r off esz m _,.i _ n=>match iP P t with
  |some e=>match dR P e with
   |some size=>GNeed (0<=n/\(esz=size/\n<(m:Int))) (K (.rs r (off+n.toNat*esz) 0 0 0))
   |none=>False
  |none=>False
 |_,_=>False
theorem C8 {P : Program} {t : TypeId} {x ix : GV} {K : GV → Prop} (h : sU P t x ix K) : ∃ g, kU P t x ix = some g ∧ K g := by
  unfold sU at h;split at h
  · split at h
    · rename_i e he
      split at h
      · rename_i size hs
        obtain ⟨h0, y, hy, h1, h2⟩ := h;refine ⟨_, ?_, h2⟩;simp only [kU, aA h0, he, hs, hy, aA h1]
      · exact h.elim
    · exact h.elim
  all_goals try (split at h <;> first
    | exact h.elim
    | (rename_i len e he
       split at h <;> first
         | exact h.elim
         | (rename_i size hs
            obtain ⟨⟨h0, h1⟩, h2⟩ := h;refine ⟨_, ?_, h2⟩;simp only [kU, aA h0, he, hs];first
              | rw [aA h1]
              | rw [aA (by simpa using h1)])))
  exact h.elim
def CH (P:Program) (t u:TypeId) (s x:GV) (σ:GS) (K:GV->GS->Prop):Prop:=
 match s,zN P t u x σ with
 |.sl k xs,some ys=>
  match iP P t with
  |some e=>match dR P e,m8 P e,iE P e with
   |some size,some bytes,some z=>
    if z.known&&z.cells.length==size&&decide (0<size)&&decide (bytes<=4096) then
     GIf ys.isEmpty (K (.sl k xs) σ) <|
     GNeed (ys.all (oE size)=true/\xs.all (fun x=>x.cells.length==size)=true/\xs.length+ys.length<=D7) <|
     ∃zs m,GNeed (zs=xs++ys/\m=xs.length+ys.length) <|
      match k with
      |.full=>bif Globals.wr e then∃cs,GNeed (cs=zs.flatMap GV.cells) (C2 σ (.box e cs) fun s=>K (.rs σ.objs.length 0 size m 0) s)
       else C2 σ (.own m size e) fun s=>K (.sl (.own σ.objs.length) zs) s
      |.own r=>match σ.objs[r]? with
       |some (.own n esz ty)=>bif Globals.wr e&&(esz==0&&n==0) then∃cs,GNeed (cs=zs.flatMap GV.cells/\xs.length=0) (C2 σ (.box e cs) fun s=>K (.rs σ.objs.length 0 size m 0) s)
        else GNeed (σ.lo<=r/\n=xs.length/\((esz=size/\ty=e)∨(n=0/\esz=0))) (lU σ r (.own m size e) fun s=>K (.sl (.own r) zs) s)
       |_=>False
      |.none=>False
    else False
   |_,_,_=>False
  |none=>False
 |_,_=>False
theorem KJ {P:Program} {t u:TypeId} {s x:GV} {σ:GS} {K:GV->GS->Prop} (h:CH P t u s x σ K):∃g σ',nI P t u s x σ=some (g,σ')/\K g σ':=by
 unfold CH at h;split at h
 ·rename_i k xs ys hsrc;split at h
  ·rename_i e he;split at h
   ·rename_i size bytes z hs hb hz;split at h
    ·rename_i hc;simp only[aF,aH,bU] at hc;obtain⟨⟨⟨c2,c3⟩,c4⟩,c5⟩:=hc;simp only[nI,hsrc,he,hs,hb,hz];rw[aA (by simp[c2,c3])];cases hy:ys.isEmpty with
     |true=>
      rw[aA rfl];exact⟨_,_,rfl,h.yes hy⟩
     |false=>
      rw[aB (by simp)];obtain⟨⟨n1,n2,n3⟩,zs,m,⟨rfl,rfl⟩,h⟩:=h.no hy;rw[aA (by simp only[aF,aH];exact⟨⟨⟨⟨c4,n1⟩,n2⟩,n3⟩,c5⟩)];split at h
      ·cases hwr:Globals.wr e with
       |true=>
        rw[hwr] at h;obtain⟨cs,rfl,h⟩:=h;exact⟨_,_,rfl,qJ (K:=fun s=>K _ s) h⟩
       |false=>
        rw[hwr] at h;exact⟨_,_,rfl,qJ (K:=fun s=>K _ s) h⟩
      ·rename_i r;split at h
       ·rename_i n esz ty ho;simp only[ho];cases hwr:(Globals.wr e&&(esz==0&&n==0)) with
        |true=>
         rw[hwr] at h;obtain⟨cs,⟨rfl,hx0⟩,h⟩:=h;have hxe:xs=[]:=aI hx0;rw[aA (by rw[hxe];rfl)];exact⟨_,_,rfl,qJ (K:=fun s=>K _ s) h⟩
        |false=>
        rw[hwr] at h;rw[aB (by simp)];obtain⟨⟨m1,m2,m3⟩,h⟩:=h;replace h:=iU (K:=fun s=>K _ s) h;rw[aA (by simp only[aF,aH,dJ,bU];exact⟨⟨m1,m2⟩,m3⟩)];exact⟨_,_,rfl,h⟩
       ·exact h.elim
      ·exact h.elim
    ·exact h.elim
   ·exact h.elim
  ·exact h.elim
 ·exact h.elim
def UF (P:Program) (op:BinOp) (t:TypeId) (ca cb:Bool) (a b:GV) (K:GV->Prop):Prop:=
 match op,a,b with
 |.add,.s x,.s y=>GNeed (x.length+y.length<jN) (∃r,r=x++y/\K (.s r))
 |.quo,.i k x,.i k' y=>if k=k' then GNeed (y≠0) (K (.i k (k.wrap (x.tdiv y)))) else False
 |.rem,.i k x,.i k' y=>if k=k' then GNeed (y≠0) (K (.i k (x.tmod y))) else False
 |.shl,.i k x,.i _ y=>GNeed (0<=y) (K (.i k (k.wrap (x*2^min y.toNat k.bits))))
 |.shr,.i k x,.i _ y=>GNeed (0<=y) (K (.i k (x.fdiv (2^min y.toNat k.bits))))
 |.eql,.agg cs,.agg ds=>GNeed (vW P t=true) (rA (k6 P (CM P t) cs ds) fun x=>K (.b x))
 |.neq,.agg cs,.agg ds=>GNeed (vW P t=true) (rA (k6 P (CM P t) cs ds) fun x=>K (.b (!x)))
 |op,a,b=>rA (yD P op t ca cb a b) K
theorem UE {P:Program} {op:BinOp} {t:TypeId} {ca cb:Bool} {a b:GV} {K:GV->Prop} (h:UF P op t ca cb a b K):∃g,yD P op t ca cb a b=some g/\K g:=by
 unfold UF at h;split at h
 ·obtain⟨h1,r,rfl,h⟩:=h;exact⟨_,by simp only[yD,WP];exact aA h1,h⟩
 ·split at h
  ·rename_i hk;exact⟨_,by simp only[yD,aA hk,U9];exact aB h.need,h.next⟩
  ·exact h.elim
 ·split at h
  ·rename_i hk;exact⟨_,by simp only[yD,aA hk,U9];exact aB h.need,h.next⟩
  ·exact h.elim
 ·exact⟨_,by simp only[yD];exact aA h.need,h.next⟩
 ·exact⟨_,by simp only[yD];exact aA h.need,h.next⟩
 ·obtain⟨x,hx,hk⟩:=jL h.next;exact⟨.b x,by simp only[yD,geq,aA h.need,hx];rfl,hk⟩
 ·obtain⟨x,hx,hk⟩:=jL h.next;exact⟨.b !x,by simp only[yD,geq,aA h.need,hx];rfl,hk⟩
 ·exact jL h
def yB (P:Program) (src dst:TypeId) (x:GV) (K:GV->Prop):Prop:=
 match x with
 |.sl _ xs=>match iP P src with
  |some e=>if G7 P e=some .u8&&eU P dst=some 1 then∃l,rO xs=some l/\K (.s l) else False
  |none=>False
 |x=>rA (oB P src dst x) K
theorem HB {P:Program} {src dst:TypeId} {x:GV} {K:GV->Prop} (h:yB P src dst x K):∃g,oB P src dst x=some g/\K g:=by
 unfold yB at h;split at h
 ·split at h
  ·rename_i e he;split at h
   ·rename_i hc;obtain⟨l,hl,h⟩:=h;refine⟨_,?_,h⟩;simp only[oB,he,hc,dL,hl];rfl
   ·exact h.elim
  ·exact h.elim
 ·exact jL h
def C5 (P:Program) (t:TypeId) (m k:GV) (ok:Bool) (σ:GS) (K:GV->Prop):Prop:=
 match pW P t with
 |some (kt,et)=>match P.underlying kt,iE P et with
  |some d,some z=>
   if mU d k then
    match m with
    |.mp r=>match σ.objs[r]? with
     |some (.mp es)=>∃f,i6 d k es 0=some f/\match f with
      |some (_,v)=>K (if ok then .tup [v,.b true] else v)
      |none=>K (if ok then .tup [z,.b false] else z)
     |some (.mx es _ _)=>∃f,i6 d k es 0=some f/\match f with
      |some (_,v)=>K (if ok then .tup [v,.b true] else v)
      |none=>K (if ok then .tup [z,.b false] else z)
     |_=>False
    |.o (.map none)=>K (if ok then .tup [z,.b false] else z)
    |_=>False
   else match lV P kt k,m with
    |true,.mp r=>match σ.objs[r]? with
     |some (.mx es _ _)=>∃f,jS P kt k es 0=some f/\match f with
      |some (_,v)=>K (if ok then .tup [v,.b true] else v)
      |none=>K (if ok then .tup [z,.b false] else z)
     |_=>False
    |_,_=>False
  |_,_=>False
 |none=>False
theorem K5 {P:Program} {t:TypeId} {m k:GV} {ok:Bool} {σ:GS} {K:GV->Prop} (h:C5 P t m k ok σ K):∃g,k5 P t m k ok σ=some g/\K g:=by
 unfold C5 at h;split at h
 ·rename_i kt et hmt;split at h
  ·rename_i d z hd hz;split at h
   ·rename_i hk;split at h
    ·rename_i r;split at h
     ·rename_i es ho;obtain⟨f,hf,h⟩:=h;simp only[k5,hmt,hd,hz,hk,dL,ho,hf];split at h
      ·exact⟨_,rfl,h⟩
      ·exact⟨_,rfl,h⟩
     ·rename_i es bs clk ho;obtain⟨f,hf,h⟩:=h;simp only[k5,hmt,hd,hz,hk,dL,ho,hf];split at h
      ·exact⟨_,rfl,h⟩
      ·exact⟨_,rfl,h⟩
     ·exact h.elim
    ·simp only[k5,hmt,hd,hz,hk,dL];exact⟨_,rfl,h⟩
    ·exact h.elim
   ·rename_i hk;split at h
    ·rename_i r ha;split at h
     ·rename_i es bs clk ho;obtain⟨f,hf,h⟩:=h;simp only[k5,hmt,hd,hz,hk,ha,dL,ho,hf,aY,cO];split at h
      ·exact⟨_,rfl,h⟩
      ·exact⟨_,rfl,h⟩
     ·exact h.elim
    ·exact h.elim
  ·exact h.elim
 ·exact h.elim
def wY (P:Program) (t:TypeId) (m k v:GV) (σ:GS) (K:GS->Prop):Prop:=
 match m with
 |.mp r=>match pW P t with
  |some (kt,_)=>match P.underlying kt,σ.objs[r]? with
   |some d,some (.mp es)=>
    if mU d k then GNeed (σ.lo<=r) <|
     ∃f,i6 d k es 0=some f/\match f with
      |some (i,_)=>lU σ r (.mp (es.set i (k,v))) K
      |none=>lU σ r (.mp (es++[(k,v)])) K
    else False
   |some d,some (.mx es bs clk)=>GNeed (σ.lo<=r) <|
     ∃f,sX P kt d k es=some f/\match f with
      |some (i,_)=>lU σ r (.mx (es.set i (k,v)) bs clk) K
      |none=>lU σ r (.mx (es++[(k,v)]) (bs++[clk]) (clk+1)) K
   |_,_=>False
  |none=>False
 |_=>False
theorem z6 {P:Program} {t:TypeId} {m k v:GV} {σ:GS} {K:GS->Prop} (h:wY P t m k v σ K):∃s,fP P t m k v σ=some s/\K s:=by
 unfold wY at h;split at h
 ·split at h
  ·rename_i kt et hmt;split at h
   ·rename_i d es hd ho;split at h
    ·rename_i hk;obtain⟨hlo,f,hf,h⟩:=h;simp only[fP,hmt,hd,ho];rw[aA (by simp[hlo,hk])];simp only[hf];split at h
     ·exact⟨_,rfl,iU h⟩
     ·exact⟨_,rfl,iU h⟩
    ·exact h.elim
   ·rename_i d es bs clk hd ho;obtain⟨hlo,f,hf,h⟩:=h;have hk:(mU d k||lV P kt k)=true/\(if mU d k then i6 d k es 0 else jS P kt k es 0)=some f:=by
     unfold sX at hf;cases h1:mU d k with
     |true=>rw[h1,aA rfl] at hf;exact⟨rfl,by rw[aA rfl];exact hf⟩
     |false=>
      rw[h1] at hf;simp only[aY,cO] at hf⊢;cases h2:lV P kt k with
      |true=>rw[h2,aA rfl] at hf;exact⟨rfl,hf⟩
      |false=>rw[h2] at hf;simp at hf
    simp only[fP,hmt,hd,ho];rw[aA (by simp[hlo,hk.1]),hk.2];split at h
    ·exact⟨_,rfl,iU h⟩
    ·exact⟨_,rfl,iU h⟩
   ·exact h.elim
  ·exact h.elim
 ·exact h.elim
def y2 (P:Program) (t:TypeId) (r off:Nat) (v:GV) (σ:GS) (K:GS->Prop):Prop:=
 match σ.objs[r]? with
 |some (.box T cs)=>∃vc,GNeed (vc=v.cells/\σ.lo<=r/\(oE ((dR P t).getD 0) v&&(dR P t).isSome)=true/\off+vc.length<=cs.length) (C6 (cs.take off++vc++cs.drop (off+vc.length)) fun cs'=>lU σ r (.box T cs') K)
 |_=>False
theorem GQ {P:Program} {t:TypeId} {r off:Nat} {v:GV} {σ:GS} {K:GS->Prop} (h:y2 P t r off v σ K):∃s,gT P t r off v σ=some s/\K s:=by
 unfold y2 at h;split at h
 ·rename_i cs ho;obtain⟨vc,⟨rfl,h1,h2,h3⟩,h⟩:=h;refine⟨_,?_,iU (y6 (K:=fun cs'=>lU σ _ (.box _ cs') K) h)⟩;simp only[gT,ho];rw[aF] at h2;rw[aA (by simp only[aF,aH];exact⟨⟨⟨h1,h2.1⟩,h2.2⟩,h3⟩)]
 ·exact h.elim
def BU (P:Program) (t:TypeId) (r off:Nat) (v:GV) (σ:GS) (K:GS->Prop):Prop:=
 match σ.objs[r]? with
 |some (.box T cs)=>∃cs',GNeed (cs'=cs.take off++v.cells++cs.drop (off+v.cells.length)/\σ.lo<=r/\(oE ((dR P t).getD 0) v&&(dR P t).isSome)=true/\off+v.cells.length<=cs.length) (lU σ r (.box T cs') K)
 |_=>False
theorem JW {P:Program} {t:TypeId} {r off:Nat} {v:GV} {σ:GS} {K:GS->Prop} (h:BU P t r off v σ K):∃s,gT P t r off v σ=some s/\K s:=by
 unfold BU at h;split at h
 ·rename_i cs ho;obtain⟨cs',⟨rfl,h1,h2,h3⟩,h⟩:=h;refine⟨_,?_,iU h⟩;simp only[gT,ho];rw[aF] at h2;rw[aA (by simp only[aF,aH];exact⟨⟨⟨h1,h2.1⟩,h2.2⟩,h3⟩)]
 ·exact h.elim
def GP (P:Program) (t:TypeId) (a v:GV) (σ:GS) (K:GS->Prop):Prop:=
 match a with
 |.ptr r off=>y2 P t r off v σ K
 |.rs r off e _ _=>bif Nat.beq e 0 then BU P t r off v σ K else False
 |_=>False
theorem MK {P:Program} {t:TypeId} {a v:GV} {σ:GS} {K:GS->Prop} (h:GP P t a v σ K):∃s,lI P t a v σ=some s/\K s:=by
 unfold GP at h;split at h
 ·exact GQ h
 ·rename_i r off e _ _;cases he:Nat.beq e 0 with
  |true=>
   rw[he] at h;have e0:e=0:=cI he;rw[lI,aA e0];exact JW h
  |false=>rw[he] at h;exact h.elim
 ·exact h.elim
def MW (P:Program) (t:TypeId) (a:GV) (σ:GS) (K:GV->Prop):Prop:=
 match a with
 |.rs r off e _ _=>bif Nat.beq e 0 then match σ.objs[r]? with
   |some (.box _ cs)=>∃g,GNeed (o7 P t cs off=some g) (K g)
   |_=>False
  else False
 |a=>rA (k9 P t a σ) K
theorem QT {P:Program} {t:TypeId} {a:GV} {σ:GS} {K:GV->Prop} (h:MW P t a σ K):∃g,k9 P t a σ=some g/\K g:=by
 unfold MW at h;split at h
 ·rename_i r off e _ _;cases he:Nat.beq e 0 with
  |true=>
   rw[he] at h;have e0:e=0:=cI he;rw[k9,aA e0];simp only[cond_true] at h;split at h
   ·rename_i ho;obtain⟨g,h1,h2⟩:=h;exact⟨g,by simp only[ho];exact h1,h2⟩
   ·exact h.elim
  |false=>rw[he] at h;exact h.elim
 ·exact jL h
def MV (P:Program) (t:TypeId) (l c:GV) (σ:GS) (K:GV->GS->Prop):Prop:=
 match l,c with
 |.i _ n,.i _ m=>match iP P t with
  |some e=>match dR P e,m8 P e,iE P e with
   |some size,some bytes,some z=>
    bif z.known&&z.cells.length==size&&decide (0<size)&&decide (bytes<=4096) then
     ∃k cs,GNeed (n=(k:Nat)/\n=m/\n<=(D7:Nat)/\cs=(List.replicate k z.cells).flatten) (C2 σ (.box e cs) fun s=>K (.rs σ.objs.length 0 size k k) s)
    else False
   |_,_,_=>False
  |none=>False
 |_,_=>False
theorem QS {P:Program} {t:TypeId} {l c:GV} {σ:GS} {K:GV->GS->Prop} (h:MV P t l c σ K):∃g σ',x5 P t l c σ=some (g,σ')/\K g σ':=by
 unfold MV at h;split at h
 ·rename_i n _ m;split at h
  ·rename_i e he;split at h
   ·rename_i size bytes z hs hb hz;cases hc:(z.known&&z.cells.length==size&&decide (0<size)&&decide (bytes<=4096)) with
    |true=>
     rw[hc] at h;obtain⟨k,cs,⟨rfl,h1,h2,rfl⟩,h⟩:=h;have h:=qJ (K:=fun s=>K _ s) h;refine⟨_,_,?_,h⟩;simp only[x5,he,hs,hb,hz];rw[aA (by rw[hc];simp only[Bool.true_and,aF,aH];exact⟨⟨fK _,h1⟩,h2⟩)];simp only[aD]
    |false=>rw[hc] at h;exact h.elim
   ·exact h.elim
  ·exact h.elim
 ·exact h.elim
def HF (P:Program) (t:TypeId) (x:GV) (σ:GS) (K:GV->GS->Prop):Prop:=
 match x with
 |.rs r off esz n _=>match iP P t with
  |some e=>match dR P e,iE P e,σ.objs[r]? with
   |some size,some z,some (.box T cs)=>
    bif oE size z&&Nat.beq esz size&&Nat.blt 0 size then
     ∃cs',GNeed (cs'=cs.take off++(List.replicate n z.cells).flatten++cs.drop (off+n*size)/\σ.lo<=r/\off+n*size<=cs.length) (lU σ r (.box T cs') (K (.tup [])))
    else False
   |_,_,_=>False
  |none=>False
 |_=>False
theorem N4 {P:Program} {t:TypeId} {x:GV} {σ:GS} {K:GV->GS->Prop} (h:HF P t x σ K):∃g σ',vK P t x σ=some (g,σ')/\K g σ':=by
 unfold HF at h;split at h
 ·rename_i r off esz n c;split at h
  ·rename_i e he;split at h
   ·rename_i size z T cs hs hz hcs;cases hq:(oE size z&&Nat.beq esz size&&Nat.blt 0 size) with
    |false=>rw[hq] at h;exact h.elim
    |true=>
     rw[hq] at h;simp only[cond_true] at h;obtain⟨cs',⟨rfl,h1,h2⟩,h⟩:=h;have h:=iU h;refine⟨_,_,?_,h⟩;simp only[aF] at hq;simp only[vK,he,hs,hz,hcs];rw[aA (by simp only[aF,aH];exact⟨⟨⟨⟨hq.1.1,cI hq.1.2⟩,bL hq.2⟩,h1⟩,h2⟩)]
   ·exact h.elim
  ·exact h.elim
 ·exact h.elim
def yC (P:Program) (b:Builtin) (ts:List TypeId) (args:List GV) (σ:GS) (K:GV->GS->Prop):Prop:=
 match b,ts,args with
 |.append,[t,u],[s,x]=>CH P t u s x σ K
 |.clear,[t],[x]=>HF P t x σ K
 |b,ts,args=>rA (i8 P b ts args σ) fun q=>K q.1 q.2
theorem HH {P:Program} {b:Builtin} {ts:List TypeId} {args:List GV} {σ:GS} {K:GV->GS->Prop} (h:yC P b ts args σ K):∃g σ',i8 P b ts args σ=some (g,σ')/\K g σ':=by
 unfold yC at h;split at h
 ·obtain⟨g,σ',h1,h2⟩:=KJ h;exact⟨g,σ',h1,h2⟩
 ·obtain⟨g,σ',h1,h2⟩:=N4 h;exact⟨g,σ',h1,h2⟩
 ·obtain⟨⟨g,σ'⟩,h1,h2⟩:=jL h;exact⟨g,σ',h1,h2⟩
def U7 (P:Program) (ρ:Operand->GV) (op:Op) (σ:GS) (K:GV->GS->Prop):Prop:=
 match op with
 |.move x=>K (ρ x) σ
 |.assign x=>K (ρ x) σ
 |.pick c a b=>
  match ρ c with
  |.b t=>GIf t (K (ρ a) σ) (K (ρ b) σ)
  |_=>False
 |.load t a=>MW P t (ρ a) σ fun g=>K g σ
 |.store t a v=>GP P t (ρ a) (ρ v) σ fun s=>K .any s
 |.binOp op t x y _=>UF P op t (fW x) (fW y) (ρ x) (ρ y) fun g=>K g σ
 |.convert src dst x=>yB P src dst (ρ x) fun g=>K g σ
 |.slice t x lo hi mx=>GU P t (ρ x) (lo.map ρ) (hi.map ρ) (mx.map ρ) fun g=>K g σ
 |.indexAddr t x i=>sU P t (ρ x) (ρ i) fun g=>K g σ
 |.index t x i=>H7 P t (ρ x) (ρ i) fun g=>K g σ
 |.lookup t m k ok=>C5 P t (ρ m) (ρ k) ok σ fun g=>K g σ
 |.mapUpdate t m k v=>wY P t (ρ m) (ρ k) (ρ v) σ fun s=>K .any s
 |.insert t m k v=>wY P t (ρ m) (ρ k) (ρ v) σ fun s=>K .any s
 |.makeSlice t l c=>MV P t (ρ l) (ρ c) σ K
 |.call {callee:=.builtin b,args,argTypes}=>yC P b argTypes.toList (args.toList.map ρ) σ K
 |op=>rA (jB P ρ op σ) fun q=>K q.1 q.2
theorem U6 {P:Program} {ρ:Operand->GV} {op:Op} {σ:GS} {K:GV->GS->Prop} (h:U7 P ρ op σ K):∃g σ',jB P ρ op σ=some (g,σ')/\K g σ':=by
 have mp:∀{x:Option GV},(∃g,x=some g/\K g σ)->∃g σ',x.map (fun v=>(v,σ))=some (g,σ')/\K g σ':=fun⟨g,e,h⟩=>⟨g,σ,by rw[e];rfl,h⟩;have mu:∀{x:Option GS},(∃s,x=some s/\K .any s)->∃g σ',x.map (fun s=>(GV.any,s))=some (g,σ')/\K g σ':=fun⟨s,e,h⟩=>⟨_,s,by rw[e];rfl,h⟩;unfold U7 at h;split at h
 ·exact⟨_,_,rfl,h⟩
 ·exact⟨_,_,rfl,h⟩
 ·simp only[jB];split at h
  ·rename_i t ht;simp only[ht];cases t with
   |true=>exact⟨_,_,rfl,h.yes rfl⟩
   |false=>exact⟨_,_,rfl,h.no rfl⟩
  ·exact h.elim
 ·exact mp (QT h)
 ·exact mu (MK h)
 ·exact mp (UE h)
 ·exact mp (HB h)
 ·exact mp (MN h)
 ·exact mp (C8 h)
 ·exact mp (MZ h)
 ·exact mp (K5 h)
 ·exact mu (z6 h)
 ·exact mu (z6 h)
 ·exact QS h
 ·exact HH h
 ·obtain⟨⟨g,s⟩,h1,h2⟩:=jL h;exact⟨g,s,h1,h2⟩
def ZU (P:Program) (ρ:Operand->GV) (op:Op) (σ:GS) (K:GV->GS->Prop):Prop:=
 match dN P ρ op with
 |some f=>C2 σ f.2 fun s=>K (f.1 σ.objs.length) s
 |none=>U7 P ρ op σ K
theorem WQ {P:Program} {ρ:Operand->GV} {op:Op} {σ:GS} {K:GV->GS->Prop} (h:ZU P ρ op σ K):∃g σ',kO P ρ op σ=some (g,σ')/\K g σ':=by
 unfold ZU at h;unfold kO;split at h
 ·rename_i f hf;exact⟨_,_,by rw[hf],qJ (K:=fun s=>K _ s) h⟩
 ·rename_i hf;obtain⟨g,s,h1,h2⟩:=U6 h;exact⟨g,s,by rw[hf];exact h1,h2⟩
def iC (P:Program) (M:FuncId->Bool) (t:Tgt) (args:List GV) (σ:GS) (K:GRes->GS->Prop):Prop:=
 ∃r σ',Fact P t args σ r σ'/\(∀k,(t=.fn k∨kK M=true)->(M k=true∨kK M=true)->σ'=σ)/\K r σ'
theorem B6 {M:FuncId->Bool} {k:FuncId} {A:Prop} (hM:M k=false) (hD:kK M=false):∀q,(Tgt.fn k=.fn q∨kK M=true)->(M q=true∨kK M=true)->A:=fun q e hk=>by
 rcases e with e|e
 ·cases e;rcases hk with hk|hk
  ·rw[hM] at hk;cases hk
  ·rw[hD] at hk;cases hk
 ·rw[hD] at e;cases e
def pN (P:Program) (M:FuncId->Bool) (o:Oper) (ρ:Operand->GV) (σ:GS) (K:GRes->GS->Prop):Prop:=
 match o.op with
 |.panic x=>match ρ x with
  |.ifc t g=>K (.panic (.ifc t g)) σ
  |_=>False
 |.call {callee:=.value f,args,..}=>match ρ f with
  |.fn (.func k) first cap=>if iL P k then iC P M (.fn k) (first++args.toList.map ρ++cap) σ K else rA (x9 P k (first++args.toList.map ρ++cap)) fun g=>K (.val g) σ
  |.yld r=>iC P M (.yld r) (args.toList.map ρ) σ K
  |_=>False
 |.call {callee:=.invoke r name,args,..}=>match ρ r with
  |.ifc t g=>rA (x4 P t name) fun k=>if iL P k then iC P M (.fn k) (g::args.toList.map ρ) σ K else False
  |_=>False
 |op=>ZU P ρ op σ fun g s=>K (.val g) s
def Y6 (P:Program) (M:FuncId->Bool) (o:Oper) (ρ:Operand->GV) (σ:GS) (r:GRes) (σ':GS):Prop:=
 ∃call:dQ,(∀w0,bK P w0 call)/\d6 M call/\cE P call o ρ σ=some (r,σ')
open Classical in
noncomputable def oK (t:Tgt) (args:List GV) (σ:GS) (r:GRes) (σ':GS):dQ:=fun t' a' s'=>if t'=t/\a'=args/\s'=σ then some (r,σ') else none
theorem v7 {t:Tgt} {args:List GV} {σ σ':GS} {r:GRes}:oK t args σ r σ' t args σ=some (r,σ'):=aA ⟨rfl,rfl,rfl⟩
theorem yM {t t':Tgt} {args a':List GV} {σ σ' s s':GS} {r r':GRes} (h:oK t args σ r σ' t' a' s=some (r',s')):t'=t/\a'=args/\s=σ/\r'=r/\s'=σ':=by
 unfold oK at h;split at h
 ·rename_i hc;cases h;exact⟨hc.1,hc.2.1,hc.2.2,rfl,rfl⟩
 ·cases h
theorem p9 {P:Program} {t:Tgt} {args:List GV} {σ σ':GS} {r:GRes} (h:Fact P t args σ r σ') (w0:World):bK P w0 (oK t args σ r σ'):=fun t' a' s r' s' hc=>by
 obtain⟨rfl,rfl,rfl,rfl,rfl⟩:=yM hc;exact⟨h.keep,h.ds,h.calls w0⟩
theorem FK {M:FuncId->Bool} {t:Tgt} {args:List GV} {σ σ':GS} {r:GRes} (h:∀k,(t=.fn k∨kK M=true)->(M k=true∨kK M=true)->σ'=σ):d6 M (oK t args σ r σ'):=fun k hk t' ht a' s r' s' hc=>by
 obtain⟨e1,rfl,rfl,rfl,rfl⟩:=yM hc;subst e1;exact h k ht hk
theorem dY {P:Program} (w0:World):bK P w0 (fun _ _ _=>none):=fun _ _ _ _ _ h=>by cases h
theorem fZ {M:FuncId->Bool}:d6 M (fun _ _ _=>none):=fun _ _ _ _ _ _ _ _ h=>by cases h
theorem jZ {P:Program} {M:FuncId->Bool} {o:Oper} {ρ:Operand->GV} {σ:GS} {K:GRes->GS->Prop} (h:pN P M o ρ σ K):∃r σ',Y6 P M o ρ σ r σ'/\K r σ':=by
 have viaCall:∀{t:Tgt} {args:List GV},iC P M t args σ K->(∀call:dQ,cE P call o ρ σ=call t args σ)->∃r σ',Y6 P M o ρ σ r σ'/\K r σ':=fun⟨r,σ',hf,hp,hk⟩ hg=>
  ⟨r,σ',⟨oK _ _ _ r σ',p9 hf,FK hp,(hg _).trans v7⟩,hk⟩
 unfold pN at h;split at h
 ·rename_i x hop;split at h
  ·rename_i t g hx;exact⟨_,_,⟨_,dY,fZ,by unfold cE;simp only[hop,hx]⟩,h⟩
  ·exact h.elim
 ·rename_i f args ts hop;split at h
  ·rename_i k first cap hf
   split at h
   ·rename_i hk;exact viaCall h (fun call=>by unfold cE;simp only[hop,hf];rw[aA hk])
   ·rename_i hk;obtain⟨g,hg,h⟩:=jL h;exact⟨_,_,⟨_,dY,fZ,by unfold cE;simp only[hop,hf];rw[aB hk,hg];rfl⟩,h⟩
  ·rename_i r hf;exact viaCall h (fun call=>by unfold cE;simp only[hop,hf])
  ·exact h.elim
 ·rename_i rv name args ts hop;split at h
  ·rename_i t g hrv;obtain⟨k,hm,h⟩:=jL h;split at h
   ·rename_i hk;exact viaCall h (fun call=>by unfold cE;simp only[hop,hrv,hm];rw[aA hk])
   ·exact h.elim
  ·exact h.elim
 ·rename_i hn1 hn2 hn3;obtain⟨g,s,hg,h⟩:=WQ h;refine⟨_,_,⟨_,dY,fZ,?_⟩,h⟩;obtain⟨dst,op,type,pos,after,guard⟩:=o;simp only at hn1 hn2 hn3 hg;unfold cE;cases op
  case panic x=>exact absurd rfl (hn1 x)
  case call c=>
   obtain⟨callee,args,ts⟩:=c;cases callee with
   |value f=>exact absurd rfl (hn2 f args ts)
   |invoke r m=>exact absurd rfl (hn3 r m args ts)
   |builtin b=>simp only[hg];rfl
  all_goals (simp only[hg];rfl)
theorem qL {φ:Fr} {d:Nat} {g:GV} (h:φ d=g):uL φ d g=φ:=by
 funext t;show(if t=d then g else φ t)=φ t;split
 ·rename_i e;rw[e,h]
 ·rfl
def sN (ops:Array Oper) (o:Oper) (φ:Fr) (K:Bool->Fr->Prop):Prop:=
 match o.guard with
 |none=>K true φ
 |some (j,want)=>match(ops[j]?).bind (·.dst) with
  |some d=>match φ d with
   |.b t=>GIf t (K want (OO φ d (.b true))) (K (!want) (OO φ d (.b false)))
   |.tup []=>K false φ
   |_=>False
  |none=>K false φ
theorem nP {ops:Array Oper} {o:Oper} {φ:Fr} {K:Bool->Fr->Prop} (h:sN ops o φ K):∃b,bF ops o φ=some b/\K b φ:=by
 unfold sN at h;unfold bF;split at h
 ·rename_i hg;rw[hg];exact⟨true,rfl,h⟩
 ·rename_i j want hg;rw[hg];simp only[r7];split at h
  ·rename_i d hd;rw[hd];simp only;split at h
   ·rename_i t ht;rw[ht];simp only[aT];cases t with
    |true=>
     have:=h.yes rfl;rw[rP,qL ht] at this;exact⟨_,rfl,by cases want<;>exact this⟩
    |false=>
     have:=h.no rfl;rw[rP,qL ht] at this;exact⟨_,rfl,by cases want<;>exact this⟩
   ·rename_i ht;rw[ht];exact⟨false,rfl,h⟩
   ·exact h.elim
  ·rename_i hd;rw[hd];exact⟨false,rfl,h⟩
def N3 (φ:Fr) (c:Operand) (K:Bool->Fr->Prop):Prop:=
 match c with
 |.tmp d=>match φ d with
  |.b t=>GIf t (K true (OO φ d (.b true))) (K false (OO φ d (.b false)))
  |_=>False
 |c=>match bO φ c with
  |.b t=>K t φ
  |_=>False
theorem QV {φ:Fr} {c:Operand} {K:Bool->Fr->Prop} (h:N3 φ c K):∃t,bO φ c=.b t/\K t φ:=by
 unfold N3 at h;split at h
 ·rename_i d;show∃t,φ d=.b t/\K t φ;split at h
  ·rename_i t ht;cases t with
   |true=>exact⟨true,ht,by have:=h.yes rfl;rwa [rP,qL ht] at this⟩
   |false=>exact⟨false,ht,by have:=h.no rfl;rwa [rP,qL ht] at this⟩
  ·exact h.elim
 ·split at h
  ·rename_i t ht;exact⟨t,ht,h⟩
  ·exact h.elim
abbrev nL:=Fr->GS->(GX->Fr->GS->Prop)->Prop
def mS (P:Program) (M:FuncId->Bool) (dz:Bool) (n:Nat) (ops:Array Oper) (o:Oper) (ih:nL):nL:=fun φ σ K=>
 if(o.dst.all fun d=>Nat.blt d n) then
  sN ops o φ fun b φ=>match b with
  |false=>mR φ o.dst (.tup []) fun φ=>ih φ σ K
  |true=>
   match(if dz then rK (bO φ) o.op else none) with
   |some d=>mR φ o.dst (.tup []) fun φ=>ih φ {σ with ds:=d::σ.ds} K
   |none=>pN P M o (bO φ) σ fun r σ'=>match r with
    |.val g=>mR φ o.dst g fun φ=>ih φ σ' K
    |.panic g=>K (.panic g) φ σ'
 else False
def o8 (P:Program) (M:FuncId->Bool) (dz:Bool) (n:Nat) (ops:Array Oper) (l:List Oper):nL:=
 List.rec (motive:=fun _=>nL) (fun φ σ K=>K .normal φ σ) (fun o _ ih=>mS P M dz n ops o ih) l
theorem BY {P:Program} {M:FuncId->Bool} {dz:Bool} {n:Nat} {ops:Array Oper} {o:Oper} {l:List Oper} {φ:Fr} {σ:GS} {K:GX->Fr->GS->Prop}:
  o8 P M dz n ops (o::l) φ σ K=mS P M dz n ops o (o8 P M dz n ops l) φ σ K:=rfl
theorem vO {o:Oper} {n:Nat} (h:(o.dst.all fun d=>Nat.blt d n)=true):(o.dst.all fun d=>decide (d<n))=true:=by
 cases hd:o.dst with
 |none=>rfl
 |some d=>
  rw[hd] at h;have:Nat.blt d n=true:=h;simpa[Nat.blt_eq] using this
section
variable {P : Program} {M : FuncId → Bool} {w0 : World} {n : Nat} {ops : Array Oper}
theorem sQ {ro:Option Nat} {dz:Bool} (hdz:dz=true->ro=none) {Q:Exit->Act->World->Prop} {K:GX->Fr->GS->Prop} {o:Oper} {l:List Oper} {R:nL}
  (ih:∀(C:Cx) (φ:Fr) (σ:GS) (a:Act) (w:World),R φ σ K->Rel C σ w0 w->FRel C φ a->a.tmps.size=n->DRel C σ.ds a.defers->(∀x φ' σ',K x φ' σ'->QOk w0 C Q n x φ' σ')->wpListIn (FW ro) 0 P ops Q l a w)
  (C:Cx) (φ:Fr) (σ:GS) (a:Act) (w:World) (hg:mS P M dz n ops o R φ σ K) (hr:Rel C σ w0 w) (hf:FRel C φ a) (hn:a.tmps.size=n) (hd0:DRel C σ.ds a.defers) (hq:∀x φ' σ',K x φ' σ'->QOk w0 C Q n x φ' σ'):wpListIn (FW ro) 0 P ops Q (o::l) a w:=by
 unfold mS at hg;split at hg
 ·rename_i hd;replace hd:=vO hd;unfold wpListIn;obtain⟨b,hw,hg⟩:=nP hg;cases b with
  |false=>
   rw[dB hf hw];simp only[aY,cO];replace hg:=j0 (K:=fun φ=>R φ σ K) hg;obtain⟨h1,h2,h3⟩:=hf.put (qQ C) hn hd;exact⟨fun f _=>trivial,ih C _ σ _ w hg hr h1 h2 (by rw[h3];exact hd0) hq⟩
  |true=>
   rw[dB hf hw];simp only[dL];rcases hdef:(if dz=true then rK (bO φ) o.op else none) with _|d;rotate_left
   ·simp only[hdef] at hg;replace hg:=j0 (K:=fun φ=>R φ {σ with ds:=d::σ.ds} K) hg;have hdzt:dz=true:=by
     cases hdz':dz with
     |true=>rfl
     |false=>rw[hdz'] at hdef;simp at hdef
    have hro:=hdz hdzt;subst hro;rw[aA hdzt] at hdef;unfold rK at hdef;split at hdef
    ·rename_i f args ts hop;split at hdef
     ·rename_i k first cap hf0
      cases hdef;have hv0:=cQ hf f;rw[hf0] at hv0;generalize hu:a.eval f=u at hv0;cases hv0 with
      |fn h1 h2 h3 h4=>
       rename_i va vc;have e1:VRs C first va.toList:=⟨by simpa using h1,fun j g u a b=>h3 j g u a (by simpa using b)⟩
       have e2:VRs C cap vc.toList:=⟨by simpa using h2,fun j g u a b=>h4 j g u a (by simpa using b)⟩;have hrun:(execOp a.eval o).run P w=.ok (.defer {target:=.fn (.func k) vc,args:=va++args.map a.eval}) w:=by
        unfold execOp;rw[hop];simp[resolve,hu,Deferred.ofValue]
       refine⟨fun f _=>trivial,?_⟩;show Oper.uponIn _ _ _ _ _ _ _ ((execOp a.eval o).run P w);rw[hrun,Oper.uponIn_defer];have hf1:FRel C φ {a with defers:={target:=.fn (.func k) vc,args:=va++args.map a.eval}::a.defers}:=hf;obtain⟨p1,p2,p3⟩:=hf1.put (qQ C) (n:=n) hn hd;refine ih C _ _ _ w hg (hr.ds _) p1 p2 ?_ hq;rw[p3];refine⟨⟨_,_,rfl,?_,e2⟩,hd0⟩;simp only[Array.toList_append,Array.toList_map];exact e1.append (VRs.mapOp (cQ hf) args.toList)
     ·cases hdef
    ·cases hdef
   ·simp only[hdef] at hg;obtain⟨r,σ1,⟨call,hcall,_,hop⟩,hg⟩:=jZ hg;refine fL (hcall w0) hr (cQ hf) hop (fun g' D v w' e hl hr' hv=>?_) (fun g' D v w' e hl hr' hv=>?_)
    ·subst e;replace hg:=j0 (K:=fun φ=>R φ σ1 K) hg;obtain⟨h1,h2,h3⟩:=(hf.mono hl).put hv hn hd;exact ih D _ σ1 _ w' hg hr' h1 h2 (by rw[h3,lL (hcall w0) hop];exact hd0.mono hl) (fun x φ' σ' hk=>(hq x φ' σ' hk).mono hl)
    ·subst e;exact hq _ _ _ hg D a w' hl (hf.mono hl) hn (by rw[lL (hcall w0) hop];exact hd0.mono hl) hr' v hv
 ·exact hg.elim
def XS (o:Oper):Option (TypeId×TypeId×Operand×Operand):=
 match o.guard,o.op with
 |none,.call {callee:=.builtin .append,args,argTypes}=>match args.toList,argTypes.toList with
  |[s,x],[t,u]=>some (t,u,s,x)
  |_,_=>none
 |_,_=>none
structure GAppRs (P:Program) (t u:TypeId) (r size n c:Nat) (x:GV) (σ:GS) (K:GV->GS->Prop):Prop where
 ex:∃(e bytes:Nat) (z:GV) (cs ys:List GV),(σ.objs[r]?=some (.box e cs)/\zN P t u x σ=some ys/\iP P t=some e/\dR P e=some size/\m8 P e=some bytes/\iE P e=some z/\Globals.wr e=true)/\
  (cs.length=c*size/\(z.known&&z.cells.length==size&&ys.all (oE size)&&decide (bytes<=4096)&&decide (σ.lo<=r))=true/\ys≠[]/\n+ys.length<=D7/\0<c/\n<=c)/\
  (n+ys.length<=c->∃cs',cs'=cs.take (n*size)++flat ys++cs.drop (n*size+(flat ys).length)/\lU σ r (.box e cs') fun s=>K (.rs r 0 size (n+ys.length) c) s)/\
  (c<n+ys.length->∀cap cs',n+ys.length<=cap->cs'=cs.take (n*size)++flat ys++List.replicate ((cap - (n+ys.length))*size) .any->C2 σ (.box e cs') fun s=>K (.rs σ.objs.length 0 size (n+ys.length) cap) s)
def T7 (o:Oper):Option Operand:=
 match o.guard,o.op with
 |none,.next it false=>some it
 |_,_=>none
structure GNexts (σ:GS) (r m since:Nat) (seen:List Nat) (last:Nat) (es:List (GV×GV)) (bs:List Nat) (clk:Nat) (K:GV->GS->Prop):Prop where
 ok:σ.lo<=r/\(bs.all fun b=>Nat.blt b since)=true/\since<=last
 over:(∀b∈bs,b∈seen)->K (.tup [.b false]) σ
 step:∀(i:Nat) k v b,es[i]?=some (k,v)->bs[i]?=some b->¬b∈seen->lU σ r (.it (some m) since (b::seen) clk) fun s=>K (.tup [.b true,k,v]) s
def MT (it:GV) (σ:GS) (K:GV->GS->Prop):Prop:=
 match it with
 |.ptr r 0=>match σ.objs[r]? with
  |some (.it (some m) since seen last)=>match σ.objs[m]? with
   |some (.mx es bs clk)=>GNexts σ r m since seen last es bs clk K
   |_=>False
  |_=>False
 |_=>False
theorem GZ {P:Program} {w0 w:World} {C:Cx} {σ:GS} {it:GV} {vit:Value} {ty:TypeId} {K:GV->GS->Prop} (h:Rel C σ w0 w) (hit:VR C it vit) (hg:MT it σ K):
  ∃g σ' v w',K g σ'/\σ'.ds=σ.ds/\Rel C σ' w0 w'/\VR C g v/\(Instr.next vit false ty).run P w=.ok v w':=by
 unfold MT at hg;split at hg
 ·rename_i r;cases hit with
  |ptr hbk=>
  rename_i b;split at hg
  ·rename_i m since seen last ho;obtain⟨hown,b',mb,hb',hh,hmb⟩:=h.obj r _ ho;rw[hbk] at hb';cases hb';obtain⟨c,rfl,hc⟩:=hmb m rfl;have hr:r<σ.objs.length:=(List.getElem?_eq_some_iff.1 ho).1;split at hg
   ·rename_i es bs clk hom;obtain⟨_,b2,ents,hb2,hheap,hbn,hks,hvs⟩:=h.obj m _ hom;rw[hc] at hb2;cases hb2;obtain⟨⟨hlo,hall,hsl⟩,hover,hstep⟩:=hg;rw[aZ] at hall;have hold:∀x∈ents.toList,x.born<since:=fun x hx=>bL (hall x.born (by rw[<-hbn];exact List.mem_map_of_mem hx));rcases run_next_at (P:=P) w ty _ _ since last seen.reverse.toArray ents clk hh hheap hold hsl with⟨h0,hrun⟩|⟨e,he,w1,hw1,hrun⟩
    ·refine⟨_,_,_,w,hover (fun b hb=>?_),rfl,h,XR,hrun⟩;rw[<-hbn] at hb;obtain⟨x,hx,rfl⟩:=List.mem_map.1 hb;have:=all_seen ents seen.reverse.toArray h0 x hx;simpa using this
    ·obtain⟨hem,hes⟩:=mem_left he;obtain⟨i,hi⟩:=List.getElem?_of_mem hem;have hlen:ents.toList.length=es.length:=by have:=hks.1;simpa using this
     have hil:i<es.length:=by rw[<-hlen];exact(List.getElem?_eq_some_iff.1 hi).1
     have hei:es[i]?=some es[i]:=gL hil;have hbi:bs[i]?=some e.born:=by rw[<-hbn,aG,hi];rfl
     have hk:=hks.2 i _ e.key (by rw[aG,hei];rfl) (by rw[aG,hi];rfl);have hv:=hvs.2 i _ e.val (by rw[aG,hei];rfl) (by rw[aG,hi];rfl);have hns:¬e.born∈seen:=fun hm=>by
      have:seen.reverse.toArray.contains e.born=true:=by simpa using hm
      rw[this] at hes;cases hes
     have hK:=iU (K:=fun s=>K (.tup [.b true,es[i].1,es[i].2]) s) (hstep i es[i].1 es[i].2 e.born hei hbi hns);have h1:Rel C σ w0 w1:=by
      rcases hw1 with rfl|rfl
      ·exact h
      ·exact h.drew
     have hh1:w1.heap[b]?=some (Obj.mapIter (some c) since seen.reverse.toArray last):=by
      rcases hw1 with rfl|rfl<;>exact hh
     refine⟨_,_,_,_,hK,rfl,h1.setIt hr hbk hown hh1 since (e.born::seen) clk hmb,a0O hk hv,?_⟩;rw[hrun];simp[ChangeMaps.setBlock]
   ·exact hg.elim
  ·exact hg.elim
 ·exact hg.elim
def vH (P:Program) (M:FuncId->Bool) (dz:Bool) (n:Nat) (ops:Array Oper) (o:Oper) (ih:nL):nL:=fun φ σ K=>
 match XS o with
 |none=>(match T7 o with
  |none=>mS P M dz n ops o ih φ σ K
  |some it=>(o.dst.all fun d=>Nat.blt d n)=true/\MT (bO φ it) σ fun g σ'=>mR φ o.dst g fun φ=>ih φ σ' K)
 |some q=>match bO φ q.2.2.1 with
  |.rs r 0 (sz+1) m c=>(o.dst.all fun d=>Nat.blt d n)=true/\GAppRs P q.1 q.2.1 r (sz+1) m c (bO φ q.2.2.2) σ fun g σ'=>mR φ o.dst g fun φ=>ih φ σ' K
  |_=>mS P M dz n ops o ih φ σ K
def oQ (P:Program) (M:FuncId->Bool) (dz:Bool) (n:Nat) (ops:Array Oper) (l:List Oper):nL:=
 List.rec (motive:=fun _=>nL) (fun φ σ K=>K .normal φ σ) (fun o _ ih=>vH P M dz n ops o ih) l
theorem uU {ro:Option Nat} {dz:Bool} (hdz:dz=true->ro=none) {Q:Exit->Act->World->Prop} {K:GX->Fr->GS->Prop}:∀(l:List Oper) (C:Cx) (φ:Fr) (σ:GS) (a:Act) (w:World),
  oQ P M dz n ops l φ σ K->Rel C σ w0 w->FRel C φ a->a.tmps.size=n->DRel C σ.ds a.defers->(∀x φ' σ',K x φ' σ'->QOk w0 C Q n x φ' σ')->wpListIn (FW ro) 0 P ops Q l a w
 |[],C,φ,σ,a,w,hg,hr,hf,hn,hd0,hq=>hq _ _ _ hg C a w (.refl C) hf hn hd0 hr
 |o::l,C,φ,σ,a,w,hg,hr,hf,hn,hd0,hq=>by
  have ih:=fun(C:Cx) (φ:Fr) (σ:GS) (a:Act) (w:World) h1 h2 h3 h4 h5 (hq:∀x φ' σ',K x φ' σ'->QOk w0 C Q n x φ' σ')=>uU (ro:=ro) hdz (K:=K) l C φ σ a w h1 h2 h3 h4 h5 hq;replace hg:vH P M dz n ops o (oQ P M dz n ops l) φ σ K:=hg;unfold vH at hg;split at hg
  ·split at hg
   ·exact sQ hdz ih C φ σ a w hg hr hf hn hd0 hq
   ·rename_i it hit;obtain⟨hd,hg⟩:=hg;replace hd:=vO hd;unfold T7 at hit;split at hit
    ·rename_i it' hgd hop;cases hit;obtain⟨g,σ1,v,w',hk,hds,hr',hv,hrn⟩:=GZ (P:=P) (ty:=o.type) hr (cQ hf it) hg;unfold wpListIn;rw[dB hf (show bF ops o φ=some true by unfold bF;rw[hgd])];simp only[dL];have hnd:∀c,o.op≠ .defer c:=fun c e=>by rw[hop] at e;cases e
     refine⟨fun f _=>trivial,?_⟩;have hrun:(execOp a.eval o).run P w=.ok (.value v) w':=by
      unfold execOp;rw[hop];simp[hrn]
     rw[Oper.semAt_eq _ _ _ hnd,hrun];replace hk:=j0 (K:=fun φ=>oQ P M dz n ops l φ σ1 K) hk;obtain⟨h1,h2,h3⟩:=hf.put hv hn hd;exact ih C _ σ1 _ w' hk hr' h1 h2 (by rw[h3,hds];exact hd0) hq
    ·cases hit
  ·rename_i q hq0;split at hg
   ·rename_i r sz m c hs;obtain⟨hd,⟨e,bytes,z,cs,ys,⟨p1,p2,p3,p4,p5,p6,p7⟩,⟨q1,q2,q3,q4,q5,q6⟩,k1,k2⟩⟩:=hg;simp only[aF,aH,bU,aZ] at q2;obtain⟨⟨⟨⟨q2,q7⟩,q8⟩,q9⟩,q10⟩:=q2;replace hd:=vO hd;obtain⟨t,u,s,x⟩:=q;unfold XS at hq0;split at hq0
    ·rename_i args ts hgd hop;split at hq0
     ·rename_i s' x' t' u' hargs hts;cases hq0;have hvs:=cQ hf s;rw[hs] at hvs;have ea:args= #[s,x]:=by rw[<-Array.toList_inj];exact hargs
      have et:ts= #[t,u]:=by rw[<-Array.toList_inj];exact hts
      have hrun:∀v w',(Builtin.append_ #[t,u] o.type #[a.eval s,a.eval x]).run P w=.ok v w'->(execOp a.eval o).run P w=.ok (.value v) w':=fun v w' hr'=>by
       unfold execOp;rw[hop,ea,et];simp[resolve,invoke,builtin,hr']
      have hput:∀{σ1:GS} {g:GV},σ1.ds=σ.ds->(mR φ o.dst g fun φ=>oQ P M dz n ops l φ σ1 K)->Runs P C w0 w σ1 g (Builtin.append_ #[t,u] o.type #[a.eval s,a.eval x])->wpListIn (FW ro) 0 P ops Q (o::l) a w:=fun{σ1 g} hds hk hR=>by
       obtain⟨D,v,w',hl,hr',hv,hrn⟩:=hR;unfold wpListIn;rw[dB hf (show bF ops o φ=some true by unfold bF;rw[hgd])];simp only[dL];have hnd:∀c,o.op≠ .defer c:=fun c e=>by rw[hop] at e;cases e
       refine⟨fun f _=>trivial,?_⟩;rw[Oper.semAt_eq _ _ _ hnd,hrun v w' hrn];replace hk:=j0 (K:=fun φ=>oQ P M dz n ops l φ σ1 K) hk;obtain⟨h1,h2,h3⟩:=(hf.mono hl).put hv hn hd;exact ih D _ σ1 _ w' hk hr' h1 h2 (by rw[h3,hds];exact hd0.mono hl) (fun x φ' σ' hk=>(hq x φ' σ' hk).mono hl)
      rcases HL (ty:=o.type) hr hvs (cQ hf x) p1 q1 p2 p3 p4 p5 p6 q2 q7 q3 q8 q4 q9 q5 p7 q6 with⟨h1,hR⟩|⟨h1,cap,h2,hR⟩
      ·obtain⟨cs',rfl,hk⟩:=k1 h1;exact hput (σ1:=gset σ r _) rfl (iU (K:=fun s=>mR φ o.dst _ fun φ=>oQ P M dz n ops l φ s K) hk) hR
      ·exact hput (σ1:=gnew σ _) rfl (qJ (K:=fun s=>mR φ o.dst _ fun φ=>oQ P M dz n ops l φ s K) (k2 h1 cap _ h2 rfl)) hR
     ·cases hq0
    ·cases hq0
   ·exact sQ hdz ih C φ σ a w hg hr hf hn hd0 hq
def pV (K:GX->Fr->GS->Prop):GX->Fr->GS->Prop
 |.normal,φ,σ=>K .normal φ σ
 |_,_,_=>False
theorem zC {K:GX->Fr->GS->Prop}:∀(l:List Oper) (k:Nat) (φ:Fr) (σ:GS),(∀j:Nat,l[j]?=ops[k+j]?)->o8 P M false n ops l φ σ (pV K)->
  ∃(call:Nat->dQ) (Φ:Nat->Fr) (S:Nat->GS) (G:Nat->GV),(∀i w0,bK P w0 (call i))/\(∀i,d6 M (call i))/\Φ k=φ/\S k=σ/\K .normal (Φ (k+l.length)) (S (k+l.length))/\
   ∀(i:Nat) o,k<=i->ops[i]?=some o->(o.dst.all fun d=>decide (d<n))=true/\Φ (i+1)=f5 (Φ i) o.dst (G i)/\
    ((bF ops o (Φ i)=some false/\G i=.tup []/\S (i+1)=S i)∨(bF ops o (Φ i)=some true/\cE P (call i) o (bO (Φ i)) (S i)=some (.val (G i),S (i+1))))
 |[],k,φ,σ,hl,hg=>by
  refine⟨fun _ _ _ _=>none,fun _=>φ,fun _=>σ,fun _=>.any,fun _=>dY,fun _=>fZ,rfl,rfl,hg,fun i o hi ho=>?_⟩;have:=hl (i - k);rw[show k+(i - k)=i by omega,ho] at this;simp at this
 |o::l,k,φ,σ,hl,hg=>by
  have ho:ops[k]?=some o:=by have:=hl 0;simpa using this.symm
  rw[BY] at hg;unfold mS at hg;split at hg
  ·rename_i hd;replace hd:=vO hd;have go:∀(c0:dQ) (g:GV) (σ1:GS),(∀w0,bK P w0 c0)->d6 M c0->o8 P M false n ops l (f5 φ o.dst g) σ1 (pV K)->
     ((bF ops o φ=some false/\g=.tup []/\σ1=σ)∨(bF ops o φ=some true/\cE P c0 o (bO φ) σ=some (.val g,σ1)))->
     ∃(call:Nat->dQ) (Φ:Nat->Fr) (S:Nat->GS) (G:Nat->GV),(∀i w0,bK P w0 (call i))/\(∀i,d6 M (call i))/\Φ k=φ/\S k=σ/\K .normal (Φ (k+(o::l).length)) (S (k+(o::l).length))/\
      ∀(i:Nat) o,k<=i->ops[i]?=some o->(o.dst.all fun d=>decide (d<n))=true/\Φ (i+1)=f5 (Φ i) o.dst (G i)/\
       ((bF ops o (Φ i)=some false/\G i=.tup []/\S (i+1)=S i)∨(bF ops o (Φ i)=some true/\cE P (call i) o (bO (Φ i)) (S i)=some (.val (G i),S (i+1)))):=by
    intro c0 g σ1 hc0 hp0 hrest hstep;obtain⟨call,Φ,S,G,hc,hp,e1,e2,e3,e5⟩:=zC l (k+1) _ σ1 (fun j=>by have:=hl (j+1);rw[show k+1+j=k+(j+1) by omega];simpa using this) hrest;refine⟨fun i=>if i=k then c0 else call i,fun i=>if i=k then φ else Φ i,fun i=>if i=k then σ else S i,fun i=>if i=k then g else G i,fun i=>?_,fun i=>?_,aA rfl,aA rfl,?_,fun i o' hi ho'=>?_⟩
    ·show∀w0,bK P w0 (if i=k then c0 else call i);split
     ·exact hc0
     ·exact hc i
    ·show d6 M (if i=k then c0 else call i);split
     ·exact hp0
     ·exact hp i
    ·show K .normal (if k+(l.length+1)=k then φ else Φ (k+(l.length+1))) (if k+(l.length+1)=k then σ else S (k+(l.length+1)));rw[aB (by omega),aB (by omega),show k+(l.length+1)=k+1+l.length by omega];exact e3
    ·by_cases hik:i=k
     ·subst hik;rw[ho] at ho';cases ho';simp only[dL,aB (show i+1≠i by omega),e1,e2];exact⟨hd,trivial,hstep⟩
     ·simp only[aB hik,aB (show i+1≠k by omega)];exact e5 i o' (by omega) ho'
   obtain⟨b,hw,hg⟩:=nP hg;cases b with
   |false=>exact go _ (.tup []) σ dY fZ (j0 (K:=fun φ=>o8 P M false n ops l φ σ (pV K)) hg) (.inl ⟨hw,rfl,rfl⟩)
   |true=>
    simp only[aY,cO] at hg;obtain⟨r,σ1,⟨call,hcall,hpure,hop⟩,hg⟩:=jZ hg;cases r with
    |val g=>exact go call g σ1 hcall hpure (j0 (K:=fun φ=>o8 P M false n ops l φ σ1 (pV K)) hg) (.inr ⟨hw,hop⟩)
    |panic g=>exact hg.elim
  ·exact hg.elim
theorem x2 {K:GX->Fr->GS->Prop}:∀(l:List Oper) (k:Nat) (φ:Fr) (σ:GS),(∀j:Nat,j<l.length->l[j]?=ops[k+j]?)->o8 P M false n ops l φ σ (pV K)->
  ∃(call:Nat->dQ) (Φ:Nat->Fr) (S:Nat->GS) (G:Nat->GV),(∀i w0,bK P w0 (call i))/\(∀i,d6 M (call i))/\Φ k=φ/\S k=σ/\K .normal (Φ (k+l.length)) (S (k+l.length))/\
   ∀(i:Nat) o,k<=i->i<k+l.length->ops[i]?=some o->(o.dst.all fun d=>decide (d<n))=true/\Φ (i+1)=f5 (Φ i) o.dst (G i)/\
    ((bF ops o (Φ i)=some false/\G i=.tup []/\S (i+1)=S i)∨(bF ops o (Φ i)=some true/\cE P (call i) o (bO (Φ i)) (S i)=some (.val (G i),S (i+1))))
 |[],k,φ,σ,hl,hg=>by
  refine⟨fun _ _ _ _=>none,fun _=>φ,fun _=>σ,fun _=>.any,fun _=>dY,fun _=>fZ,rfl,rfl,hg,fun i o hi hi2 ho=>?_⟩;simp at hi2;omega
 |o::l,k,φ,σ,hl,hg=>by
  have ho:ops[k]?=some o:=by have:=hl 0 (by simp);simpa using this.symm
  rw[BY] at hg;unfold mS at hg;split at hg
  ·rename_i hd;replace hd:=vO hd;have go:∀(c0:dQ) (g:GV) (σ1:GS),(∀w0,bK P w0 c0)->d6 M c0->o8 P M false n ops l (f5 φ o.dst g) σ1 (pV K)->
     ((bF ops o φ=some false/\g=.tup []/\σ1=σ)∨(bF ops o φ=some true/\cE P c0 o (bO φ) σ=some (.val g,σ1)))->
     ∃(call:Nat->dQ) (Φ:Nat->Fr) (S:Nat->GS) (G:Nat->GV),(∀i w0,bK P w0 (call i))/\(∀i,d6 M (call i))/\Φ k=φ/\S k=σ/\K .normal (Φ (k+(o::l).length)) (S (k+(o::l).length))/\
      ∀(i:Nat) o',k<=i->i<k+(o::l).length->ops[i]?=some o'->(o'.dst.all fun d=>decide (d<n))=true/\Φ (i+1)=f5 (Φ i) o'.dst (G i)/\
       ((bF ops o' (Φ i)=some false/\G i=.tup []/\S (i+1)=S i)∨(bF ops o' (Φ i)=some true/\cE P (call i) o' (bO (Φ i)) (S i)=some (.val (G i),S (i+1)))):=by
    intro c0 g σ1 hc0 hp0 hrest hstep;obtain⟨call,Φ,S,G,hc,hp,e1,e2,e3,e5⟩:=x2 l (k+1) _ σ1 (fun j hj=>by have:=hl (j+1) (by simp;omega);rw[show k+1+j=k+(j+1) by omega];simpa using this) hrest;refine⟨fun i=>if i=k then c0 else call i,fun i=>if i=k then φ else Φ i,fun i=>if i=k then σ else S i,fun i=>if i=k then g else G i,fun i=>?_,fun i=>?_,aA rfl,aA rfl,?_,fun i o' hi hi2 ho'=>?_⟩
    ·show∀w0,bK P w0 (if i=k then c0 else call i);split
     ·exact hc0
     ·exact hc i
    ·show d6 M (if i=k then c0 else call i);split
     ·exact hp0
     ·exact hp i
    ·show K .normal (if k+(l.length+1)=k then φ else Φ (k+(l.length+1))) (if k+(l.length+1)=k then σ else S (k+(l.length+1)));rw[aB (by omega),aB (by omega),show k+(l.length+1)=k+1+l.length by omega];exact e3
    ·by_cases hik:i=k
     ·subst hik;rw[ho] at ho';cases ho';simp only[dL,aB (show i+1≠i by omega),e1,e2];exact⟨hd,trivial,hstep⟩
     ·simp only[aB hik,aB (show i+1≠k by omega)];exact e5 i o' (by omega) (by simp at hi2;omega) ho'
   obtain⟨b,hw,hg⟩:=nP hg;cases b with
   |false=>exact go _ (.tup []) σ dY fZ (j0 (K:=fun φ=>o8 P M false n ops l φ σ (pV K)) hg) (.inl ⟨hw,rfl,rfl⟩)
   |true=>
    simp only[aY,cO] at hg;obtain⟨r,σ1,⟨call,hcall,hpure,hop⟩,hg⟩:=jZ hg;cases r with
    |val g=>exact go call g σ1 hcall hpure (j0 (K:=fun φ=>o8 P M false n ops l φ σ1 (pV K)) hg) (.inr ⟨hw,hop⟩)
    |panic g=>exact hg.elim
  ·exact hg.elim
def ML (P:Program) (M:FuncId->Bool) (T:Nat->Option Nat) (Mk:Nat->List Nat) (i:Nat) (o:Oper) (φ:Fr) (σ:GS) (K:GV->GS->Prop):Prop:=
 let V:GRes->GS->Prop:=fun r s=>match r with|.val g=>K g s|.panic _=>False
 match dH M o.op with
 |0=>pN P M o (bO φ) σ V
 |1=>if fQ (bO φ) o.op=T i∨T i=some D5 then pN P M o (bO φ) σ V else False
 |2=>if fQ (bO φ) o.op=T i then pN P M o (bO φ) σ V else False
 |3=>match mF P (bO φ) o.op,T i with
  |some f,some r=>match σ.objs[r]? with
   |some .free=>if σ.lo<=r then lU σ r f.2 fun s=>K (f.1 r) s else False
   |_=>False
  |_,_=>False
 |4=>pN P M o (bO φ) (k8 (Mk i) σ) fun r s=>match r with|.val g=>K g (kN (Mk i) σ s)|.panic _=>False
 |_=>False
theorem QP {T:Nat->Option Nat} {Mk:Nat->List Nat} {i:Nat} {o:Oper} {φ:Fr} {σ:GS} {K:GV->GS->Prop} (h:ML P M T Mk i o φ σ K):
  ∃(call:dQ) (g:GV) (σ':GS),((∀w0,bK P w0 call)/\d6 M call)/\kJ P M call T Mk i o φ σ=some (g,σ')/\K g σ':=by
 unfold ML at h;simp only at h;split at h
 ·rename_i hc;obtain⟨r,σ1,⟨call,hcall,hpu,hop⟩,hk⟩:=jZ h;cases r with
  |val g=>exact⟨call,g,σ1,⟨hcall,hpu⟩,by unfold kJ;rw[hc];simp only[hop,zM],hk⟩
  |panic g=>exact hk.elim
 ·rename_i hc;split at h
  ·rename_i ht;obtain⟨r,σ1,⟨call,hcall,hpu,hop⟩,hk⟩:=jZ h;cases r with
   |val g=>exact⟨call,g,σ1,⟨hcall,hpu⟩,by unfold kJ;rw[hc];simp only[aA ht,hop,zM],hk⟩
   |panic g=>exact hk.elim
  ·exact h.elim
 ·rename_i hc;split at h
  ·rename_i ht;obtain⟨r,σ1,⟨call,hcall,hpu,hop⟩,hk⟩:=jZ h;cases r with
   |val g=>exact⟨call,g,σ1,⟨hcall,hpu⟩,by unfold kJ;rw[hc];simp only[aA ht,hop,zM],hk⟩
   |panic g=>exact hk.elim
  ·exact h.elim
 ·rename_i hc;split at h
  ·rename_i f r hf hT;split at h
   ·rename_i hfree;split at h
    ·rename_i hlo;exact⟨_,_,_,⟨dY,fZ⟩,by unfold kJ;rw[hc];simp only[hf,hT,hfree,aA hlo],iU (K:=fun s=>K _ s) h⟩
    ·exact h.elim
   ·exact h.elim
  ·exact h.elim
 ·rename_i hc;obtain⟨r,σ1,⟨call,hcall,hpu,hop⟩,hk⟩:=jZ h;cases r with
  |val g=>exact⟨call,g,_,⟨hcall,hpu⟩,by unfold kJ;rw[hc];simp only[hop,zM],hk⟩
  |panic g=>exact hk.elim
 ·exact h.elim
def HK (P:Program) (o:Oper) (ρ:Operand->GV) (σ:GS) (K:GV->GS->Prop):Prop:=
 match o.op with
 |.call {callee:=.value f,args,..}=>match ρ f with
  |.fn (.func k) first cap=>if iL P k then∃g,(∀τ:GS,τ.lo=σ.lo->Fact P (.fn k) (first++args.toList.map ρ++cap) τ (.val g) τ)/\K g σ else False
  |_=>False
 |_=>False
open Classical in
noncomputable def yK (t:Tgt) (args:List GV) (lo:Nat) (g:GV):dQ:=fun t' a' s'=>if t'=t/\a'=args/\s'.lo=lo then some (.val g,s') else none
theorem N7 {o:Oper} {ρ:Operand->GV} {σ:GS} {K:GV->GS->Prop} (h:HK P o ρ σ K):
  ∃(call:dQ) (g:GV),((∀w0,bK P w0 call)/\d6 M call)/\(∀τ:GS,τ.lo=σ.lo->cE P call o ρ τ=some (.val g,τ))/\K g σ:=by
 unfold HK at h;split at h
 ·rename_i f args ts hop;split at h
  ·rename_i k first cap hf
   split at h
   ·rename_i hk;obtain⟨g,hfact,hK⟩:=h;refine⟨yK (.fn k) (first++args.toList.map ρ++cap) σ.lo g,g,⟨fun w0 t' a' s r' s' hc=>?_,fun k' hk' t' ht' a' s r' s' hc=>?_⟩,fun τ hτ=>?_,hK⟩
    ·unfold yK at hc;split at hc
     ·rename_i hc1;obtain⟨rfl,rfl,hlo⟩:=hc1;cases hc;exact⟨(hfact _ hlo).keep,(hfact _ hlo).ds,(hfact _ hlo).calls w0⟩
     ·cases hc
    ·unfold yK at hc;split at hc
     ·cases hc;rfl
     ·cases hc
    ·unfold cE;simp only[hop,hf];rw[aA hk];exact aA ⟨rfl,rfl,hτ⟩
   ·exact h.elim
  ·exact h.elim
 ·exact h.elim
def AH (P:Program) (M:FuncId->Bool) (B:Nat->Bool) (T:Nat->Option Nat) (Mk:Nat->List Nat) (i:Nat) (o:Oper) (φ:Fr) (σ:GS) (K:GV->GS->Prop):Prop:=
 bif B i then HK P o (bO φ) σ K else ML P M T Mk i o φ σ K
theorem MM {B:Nat->Bool} {T:Nat->Option Nat} {Mk:Nat->List Nat} {i:Nat} {o:Oper} {φ:Fr} {σ:GS} {K:GV->GS->Prop} (h:AH P M B T Mk i o φ σ K):
  ∃(call:dQ) (g:GV) (σ':GS),((∀w0,bK P w0 call)/\d6 M call)/\
   ((B i=false/\kJ P M call T Mk i o φ σ=some (g,σ'))∨(B i=true/\σ'=σ/\∀τ:GS,τ.lo=σ.lo->cE P call o (bO φ) τ=some (.val g,τ)))/\K g σ':=by
 unfold AH at h;cases hb:B i with
 |true=>
  rw[hb] at h;obtain⟨call,g,hc,hf,hk⟩:=N7 (M:=M) h;exact⟨call,g,σ,hc,.inr ⟨rfl,rfl,hf⟩,hk⟩
 |false=>
  rw[hb] at h;obtain⟨call,g,σ',hc,hs,hk⟩:=QP h;exact⟨call,g,σ',hc,.inl ⟨rfl,hs⟩,hk⟩
def mE (P:Program) (M:FuncId->Bool) (B:Nat->Bool) (T:Nat->Option Nat) (Mk:Nat->List Nat) (n:Nat) (ops:Array Oper) (l:List Oper):Nat->nL:=
 List.rec (motive:=fun _=>Nat->nL) (fun _ φ σ K=>K .normal φ σ) (fun o _ ih i φ σ K=>
  if(o.dst.all fun d=>Nat.blt d n) then
   sN ops o φ fun b φ=>match b with
   |false=>mR φ o.dst (.tup []) fun φ=>ih (i+1) φ σ K
   |true=>AH P M B T Mk i o φ σ fun g σ'=>mR φ o.dst g fun φ=>ih (i+1) φ σ' K
  else False) l
theorem GR {B:Nat->Bool} {T:Nat->Option Nat} {Mk:Nat->List Nat} {o:Oper} {l:List Oper} {i:Nat} {φ:Fr} {σ:GS} {K:GX->Fr->GS->Prop}:
  mE P M B T Mk n ops (o::l) i φ σ K=if(o.dst.all fun d=>Nat.blt d n) then
   sN ops o φ fun b φ=>match b with
   |false=>mR φ o.dst (.tup []) fun φ=>mE P M B T Mk n ops l (i+1) φ σ K
   |true=>AH P M B T Mk i o φ σ fun g σ'=>mR φ o.dst g fun φ=>mE P M B T Mk n ops l (i+1) φ σ' K
  else False:=rfl
theorem uT {B:Nat->Bool} {T:Nat->Option Nat} {Mk:Nat->List Nat} {K:GX->Fr->GS->Prop}:∀(l:List Oper) (k:Nat) (φ:Fr) (σ:GS),(∀j:Nat,l[j]?=ops[k+j]?)->mE P M B T Mk n ops l k φ σ K->
  ∃(call:Nat->dQ) (Φ:Nat->Fr) (S:Nat->GS) (G:Nat->GV),(∀i,(∀w0,bK P w0 (call i))/\d6 M (call i))/\Φ k=φ/\S k=σ/\K .normal (Φ (k+l.length)) (S (k+l.length))/\
   ∀(i:Nat) o,k<=i->ops[i]?=some o->(o.dst.all fun d=>decide (d<n))=true/\Φ (i+1)=f5 (Φ i) o.dst (G i)/\
    ((bF ops o (Φ i)=some false/\G i=.tup []/\S (i+1)=S i)∨(bF ops o (Φ i)=some true/\B i=false/\kJ P M (call i) T Mk i o (Φ i) (S i)=some (G i,S (i+1)))∨
     (bF ops o (Φ i)=some true/\B i=true/\S (i+1)=S i/\∀τ:GS,τ.lo=(S i).lo->cE P (call i) o (bO (Φ i)) τ=some (.val (G i),τ)))
 |[],k,φ,σ,hl,hg=>by
  refine⟨fun _ _ _ _=>none,fun _=>φ,fun _=>σ,fun _=>.any,fun _=>⟨dY,fZ⟩,rfl,rfl,hg,fun i o hi ho=>?_⟩;have:=hl (i - k);rw[show k+(i - k)=i by omega,ho] at this;simp at this
 |o::l,k,φ,σ,hl,hg=>by
  have ho:ops[k]?=some o:=by have:=hl 0;simpa using this.symm
  rw[GR] at hg;split at hg
  ·rename_i hd;replace hd:=vO hd;have go:∀(c0:dQ) (g:GV) (σ1:GS),((∀w0,bK P w0 c0)/\d6 M c0)->mE P M B T Mk n ops l (k+1) (f5 φ o.dst g) σ1 K->
     ((bF ops o φ=some false/\g=.tup []/\σ1=σ)∨(bF ops o φ=some true/\B k=false/\kJ P M c0 T Mk k o φ σ=some (g,σ1))∨(bF ops o φ=some true/\B k=true/\σ1=σ/\∀τ:GS,τ.lo=σ.lo->cE P c0 o (bO φ) τ=some (.val g,τ)))->
     ∃(call:Nat->dQ) (Φ:Nat->Fr) (S:Nat->GS) (G:Nat->GV),(∀i,(∀w0,bK P w0 (call i))/\d6 M (call i))/\Φ k=φ/\S k=σ/\K .normal (Φ (k+(o::l).length)) (S (k+(o::l).length))/\
      ∀(i:Nat) o,k<=i->ops[i]?=some o->(o.dst.all fun d=>decide (d<n))=true/\Φ (i+1)=f5 (Φ i) o.dst (G i)/\
       ((bF ops o (Φ i)=some false/\G i=.tup []/\S (i+1)=S i)∨(bF ops o (Φ i)=some true/\B i=false/\kJ P M (call i) T Mk i o (Φ i) (S i)=some (G i,S (i+1)))∨
     (bF ops o (Φ i)=some true/\B i=true/\S (i+1)=S i/\∀τ:GS,τ.lo=(S i).lo->cE P (call i) o (bO (Φ i)) τ=some (.val (G i),τ))):=by
    intro c0 g σ1 hc0 hrest hstep;obtain⟨call,Φ,S,G,hc,e1,e2,e3,e5⟩:=uT l (k+1) _ σ1 (fun j=>by have:=hl (j+1);rw[show k+1+j=k+(j+1) by omega];simpa using this) hrest;refine⟨fun i=>if i=k then c0 else call i,fun i=>if i=k then φ else Φ i,fun i=>if i=k then σ else S i,fun i=>if i=k then g else G i,fun i=>?_,aA rfl,aA rfl,?_,fun i o' hi ho'=>?_⟩
    ·show(∀w0,bK P w0 (if i=k then c0 else call i))/\d6 M (if i=k then c0 else call i);split
     ·exact hc0
     ·exact hc i
    ·show K .normal (if k+(l.length+1)=k then φ else Φ (k+(l.length+1))) (if k+(l.length+1)=k then σ else S (k+(l.length+1)));rw[aB (by omega),aB (by omega),show k+(l.length+1)=k+1+l.length by omega];exact e3
    ·by_cases hik:i=k
     ·subst hik;rw[ho] at ho';cases ho';simp only[dL,aB (show i+1≠i by omega),e1,e2];exact⟨hd,trivial,hstep⟩
     ·simp only[aB hik,aB (show i+1≠k by omega)];exact e5 i o' (by omega) ho'
   obtain⟨b,hw,hg⟩:=nP hg;cases b with
   |false=>exact go _ (.tup []) σ ⟨dY,fZ⟩ (j0 (K:=fun φ=>mE P M B T Mk n ops l (k+1) φ σ K) hg) (.inl ⟨hw,rfl,rfl⟩)
   |true=>
    obtain⟨call,g,σ1,hcall,hop,hg⟩:=MM hg;exact go call g σ1 hcall (j0 (K:=fun φ=>mE P M B T Mk n ops l (k+1) φ σ1 K) hg) (.inr (hop.imp (fun q=>⟨hw,q⟩) fun q=>⟨hw,q⟩))
  ·exact hg.elim
end
def GDef.ren (f:Nat->Nat):GDef->GDef
 |.fn k a c=>.fn k (a.map (GV.ren f)) (c.map (GV.ren f))
 |.coll r=>.coll (f r)
def LessO (s s2:List GObj):Prop:=s2.length=s.length/\∀(C:Cx) (w:World) (i:Nat) x y,s[i]?=some x->s2[i]?=some y->ORel C w i x->ORel C w i y
theorem LessO.refl (s:List GObj):LessO s s:=⟨rfl,fun _ _ _ _ _ h1 h2 h=>by rw[h1] at h2;cases h2;exact h⟩
theorem LessO.rel {C:Cx} {σ:GS} {w0 w:World} {s:List GObj} (h:LessO σ.objs s) (hr:Rel C σ w0 w):Rel C {σ with objs:=s} w0 w:=
 ⟨hr.below,hr.fxc,fun r y hy=>(by
  have hi:r<σ.objs.length:=by rw[<-h.1];exact(List.getElem?_eq_some_iff.1 hy).1
  exact h.2 C w r _ y (gL hi) hy (hr.obj r _ (gL hi))),fun r hd=>hr.dom r (by rw[<-h.1];exact hd),hr.new,hr.inj,hr.sepB,hr.sepO,hr.fxn,hr.gl,hr.gs⟩
structure Shr (n0:Nat) (φ:Fr) (σ:GS) (φ1:Fr) (σ1:GS):Prop where
 ex:∃(ks:List Nat) (s:List GObj),LessO σ.objs s/\Lies ks σ1.objs s/\(∀i,i<n0->ks[i]?=some i)/\σ.ds=σ1.ds.map (GDef.ren (iB ks σ.objs.length))/\∀t,φ t=(φ1 t).ren (iB ks σ.objs.length)∨φ1 t=.any
structure GLoop (f:Fr->GS->(GX->Fr->GS->Prop)->Prop) (φ:Fr) (σ:GS) (K:GX->Fr->GS->Prop):Prop where
 ex:∃(I N:Nat->Fr->GS->Prop) (m:Nat),I m φ σ/\(∀m φ' σ',N m φ' σ'->I m φ' σ'∨∃φ2 σ2,Shr σ.objs.length φ' σ' φ2 σ2/\I m φ2 σ2)/\∀m φ1 σ1,I m φ1 σ1->f φ1 σ1 fun x φ' σ'=>match x with
  |.normal=>∃m',m'<m/\N m' φ' σ'
  |.exit i=>K (.exit i) φ' σ'
  |.ret=>K .ret φ' σ'
  |.panic g=>K (.panic g) φ' σ'
theorem GDefR.pull {D E:Cx} {f:Nat->Nat} (hfx:∀b o v,D.fx b o v->E.fx b o v) (hbk:∀i,E.bk i=D.bk (f i)) (hown:∀i,E.own i=D.own (f i)):∀{g:GDef} {d:Deferred},GDefR D (g.ren f) d->GDefR E g d
 |.fn _ _ _,_,⟨va,vc,e,h1,h2⟩=>⟨va,vc,e,h1.pull hfx hbk hown,h2.pull hfx hbk hown⟩
 |.coll r,_,⟨b,h1,e⟩=>⟨b,(hbk r).trans h1,e⟩
theorem DRel.pull {D E:Cx} {f:Nat->Nat} (hfx:∀b o v,D.fx b o v->E.fx b o v) (hbk:∀i,E.bk i=D.bk (f i)) (hown:∀i,E.own i=D.own (f i)):∀{gs:List GDef} {ds:List Deferred},DRel D (gs.map (GDef.ren f)) ds->DRel E gs ds
 |[],[],_=>trivial
 |_::_,_::_,⟨h1,h2⟩=>⟨h1.pull hfx hbk hown,DRel.pull hfx hbk hown h2⟩
 |[],_::_,h=>h.elim
 |_::_,[],h=>h.elim
theorem Shr.rel {C D:Cx} {w0 w wc:World} {σ0 σ σ1:GS} {φ φ1:Fr} {a:Act} (h:Shr σ0.objs.length φ σ φ1 σ1) (hc:Rel C σ0 w0 wc) (hl:C.le D) (hr:Rel D σ w0 w) (hf:FRel D φ a) (hd:DRel D σ.ds a.defers):
  ∃E:Cx,C.le E/\Rel E σ1 w0 w/\FRel E φ1 a/\DRel E σ1.ds a.defers:=by
 obtain⟨ks,s,hless,hlies,hpre,hds,hφ⟩:=h.ex;rw[<-hless.1] at hds;rw[<-hless.1] at hφ;replace hr:=hless.rel hr;have atb:∀i,i<σ0.objs.length->iB ks s.length i=i:=fun i hi=>by
  have h3:=hpre i hi;obtain⟨h4,h5⟩:=List.getElem?_eq_some_iff.1 h3;rw[jD h4,h5]
 have hp:=hr.pull hlies;refine⟨D.pull (iB ks s.length),⟨hl.fx,fun i b hb'=>?_,fun i I hI=>?_,hl.hd,hl.fix⟩,⟨hp.below,hp.fxc,hp.obj,hp.dom,hp.new,hp.inj,hp.sepB,hp.sepO,hp.fxn,hp.gl,hp.gs⟩,fun t=>?_,?_⟩
 ·have hi:i<σ0.objs.length:=by
   rcases dF i σ0.objs.length with h4|h4
   ·exact h4
   ·rw[(hc.dom i h4).1] at hb';cases hb'
  show D.bk (iB ks s.length i)=some b;rw[atb i hi];exact hl.bk i b hb'
 ·have hi:i<σ0.objs.length:=by
   rcases dF i σ0.objs.length with h4|h4
   ·exact h4
   ·rw[(hc.dom i h4).2] at hI;cases hI
  show∃J,D.own (iB ks s.length i)=some J/\_;rw[atb i hi];exact hl.own i I hI
 ·rcases hφ t with e|e
  ·have:=hf t;rw[e] at this;exact this.pull (D:=D) (f:=iB ks s.length) (E:=D.pull (iB ks s.length)) (fun _ _ _ h=>h) (fun _=>rfl) (fun _=>rfl) rfl
  ·rw[e];exact .any _
 ·rw[hds] at hd;exact hd.pull (D:=D) (f:=iB ks s.length) (E:=D.pull (iB ks s.length)) (fun _ _ _ h=>h) (fun _=>rfl) (fun _=>rfl)
def W3:dQ:=fun _ _ _=>none
def a0h (P:Program) (M:FuncId->Bool) (ops:Array Oper) (op:Oper) (φ:Fr) (σ:GS) (K:GV->GS->Prop):Prop:=
 sN ops op φ fun b φ=>match b with
 |true=>pN P M op (bO φ) σ fun r σ'=>match r with
  |.panic g=>K g σ'
  |.val _=>False
 |false=>False
def o9 (P:Program) (M:FuncId->Bool) (n:Nat) (ops:Array Oper) (A:List (List Nat)) (g:GV) (σ:GS) (Z:Prop) (l:List Oper):Nat->List Nat->Fr->Prop:=
 List.rec (motive:=fun _=>Nat->List Nat->Fr->Prop) (fun _ dead _=>match dead with|[]=>False|_::_=>Z)
  (fun o _ ih i dead φ=>match(A.getD i []).all fun k=>Nat.blt k i with
   |false=>False
   |true=>match(A.getD i []).any fun k=>dead.any fun d=>Nat.beq d k with
    |true=>ih (i+1) (i::dead) φ
    |false=>match o.dst.all fun d=>Nat.blt d n with
     |false=>False
     |true=>sN ops o φ fun b φ=>match b with
      |false=>mR φ o.dst (.tup []) fun φ=>ih (i+1) dead φ
      |true=>pN P M o (bO φ) σ fun r _=>match r with
       |.val x=>mR φ o.dst x fun φ=>ih (i+1) dead φ
       |.panic g'=>g'=g/\ih (i+1) (i::dead) φ) l
theorem GY {P:Program} {M:FuncId->Bool} {call:dQ} (hp:d6 M call) {o:Oper} {φ:Fr} {σ σ':GS} {g:GV} (hk:cF M o.op≠2) (h:cE P call o (bO φ) σ=some (.panic g,σ')):σ'=σ:=by
 obtain⟨dst,op,type,pos,after,guard⟩:=o;simp only at hk;cases op
 case panic x=>exact absurd rfl hk
 case call c=>
  obtain⟨callee,args,ts⟩:=c;cases callee with
  |value f=>
   cases f with
   |func k=>
    simp only[cF] at hk;have hM:M k=true:=by
     cases hM:M k with
     |true=>rfl
     |false=>rw[hM] at hk;exact absurd rfl hk
    have hf:bO φ (.func k)=.fn (.func k) [] []:=rfl;simp only[cE,hf] at h;split at h
    ·exact hp k (.inl hM) _ (.inl rfl) _ _ _ _ h
    ·rw[aC] at h;obtain⟨g,_,e⟩:=h;cases e
   |tmp t=>
    simp only[cF] at hk;have hM:kK M=true:=by
     cases hM:kK M with
     |true=>rfl
     |false=>rw[hM] at hk;exact absurd rfl hk
    simp only[cE] at h;split at h
    ·split at h
     ·exact hp 0 (.inr hM) _ (.inr hM) _ _ _ _ h
     ·rw[aC] at h;obtain⟨g,_,e⟩:=h;cases e
    ·exact hp 0 (.inr hM) _ (.inr hM) _ _ _ _ h
    ·cases h
   |_=>exact absurd rfl hk
  |invoke r m=>exact absurd rfl hk
  |builtin b=>simp only[cE,aC] at h;obtain⟨_,_,h⟩:=h;cases h
 all_goals (simp only[cE,aC] at h;obtain⟨_,_,h⟩:=h;cases h)
def DTr (P:Program) (n:Nat) (ops:Array Oper) (g:GV) (σ:GS) (Z:Prop) (k:Nat) (dead:List Nat) (φ:Fr) (e:Nat):Prop:=
  Z/\∃(call:Nat->dQ) (Φ:Nat->Fr) (G:Nat->GV) (D:List Nat),(∀i w0,bK P w0 (call i))/\Φ k=φ/\(∀x,x∈D->x<k->x∈dead)/\(∀x∈dead,x∈D)/\(∃p,p∈D/\p<e)/\
   ∀(i:Nat) o,k<=i->ops[i]?=some o->(i∉D->(o.dst.all fun d=>decide (d<n))=true/\Φ (i+1)=f5 (Φ i) o.dst (G i)/\(∀j∈(gW ops.toList []).getD i [],j∉D)/\
     ((bF ops o (Φ i)=some false/\G i=.tup [])∨(bF ops o (Φ i)=some true/\cE P (call i) o (bO (Φ i)) σ=some (.val (G i),σ))))/\
    (i∈D->Φ (i+1)=Φ i/\((∃j∈(gW ops.toList []).getD i [],j∈D)∨(bF ops o (Φ i)=some true/\cE P (call i) o (bO (Φ i)) σ=some (.panic g,σ))))
theorem rD {P:Program} {M:FuncId->Bool} {n:Nat} {ops:Array Oper} {g:GV} {σ:GS} {Z:Prop} (hcalm:xI M ops=true):∀(l:List Oper) (k:Nat) (dead:List Nat) (φ:Fr),(∀j:Nat,l[j]?=ops[k+j]?)->(∀x∈dead,x<k)->o9 P M n ops (gW ops.toList []) g σ Z l k dead φ->
  DTr P n ops g σ Z k dead φ (k+l.length)
 |[],k,dead,φ,hl,hd,h=>by
  cases dead with
  |nil=>exact h.elim
  |cons d dead=>
   refine⟨h,fun _ _ _ _=>none,fun _=>φ,fun _=>.any,d::dead,fun _=>dY,rfl,fun x hx _=>hx,fun x hx=>hx,⟨d,by simp,by have:=hd d (by simp);simpa using this⟩,fun i o hi ho=>?_⟩;have:=hl (i - k);rw[show k+(i - k)=i by omega,ho] at this;simp at this
 |o::l,k,dead,φ,hl,hd,h=>by
  have ho:ops[k]?=some o:=by have:=hl 0;simpa using this.symm
  have hl':∀j:Nat,l[j]?=ops[k+1+j]?:=fun j=>by have:=hl (j+1);rw[show k+1+j=k+(j+1) by omega];simpa using this
  have hk2:cF M o.op≠2:=by
   unfold xI at hcalm;simp only[aZ,d9] at hcalm;have h1:=hcalm k (Array.getElem?_eq_some_iff.1 ho).1;simp only[ho,aF,bne_iff_ne] at h1;exact h1.1.2
  replace h:(match((gW ops.toList []).getD k []).all fun j=>Nat.blt j k with
   |false=>False
   |true=>match((gW ops.toList []).getD k []).any fun j=>dead.any fun d=>Nat.beq d j with
    |true=>o9 P M n ops (gW ops.toList []) g σ Z l (k+1) (k::dead) φ
    |false=>match o.dst.all fun d=>Nat.blt d n with
     |false=>False
     |true=>sN ops o φ fun b φ=>match b with
      |false=>mR φ o.dst (.tup []) fun φ=>o9 P M n ops (gW ops.toList []) g σ Z l (k+1) dead φ
      |true=>pN P M o (bO φ) σ fun r _=>match r with
       |.val x=>mR φ o.dst x fun φ=>o9 P M n ops (gW ops.toList []) g σ Z l (k+1) dead φ
       |.panic g'=>g'=g/\o9 P M n ops (gW ops.toList []) g σ Z l (k+1) (k::dead) φ):=h
  have hlen:∀p,p<k+1+l.length->p<k+(o::l).length:=fun p h=>by rw[aM];omega
  split at h
  ·exact h.elim
  rename_i hA;have hlt:∀j∈(gW ops.toList []).getD k [],j<k:=fun j hj=>by
   have:=List.all_eq_true.1 hA j hj;simpa[Nat.blt_eq] using this
  have isDead:∀(c0:dQ),(∀w0,bK P w0 c0)->o9 P M n ops (gW ops.toList []) g σ Z l (k+1) (k::dead) φ->((∃j∈(gW ops.toList []).getD k [],j∈dead)∨(bF ops o φ=some true/\cE P c0 o (bO φ) σ=some (.panic g,σ)))->DTr P n ops g σ Z k dead φ (k+(o::l).length):=fun c0 hc0 h1 hwhy=>by
   obtain⟨hZ,call,Φ,G,D,hc,e1,hD1,hD2,⟨p,hp,hp2⟩,hT⟩:=rD hcalm l (k+1) (k::dead) φ hl' (fun x hx=>by
    rcases List.mem_cons.1 hx with rfl|hx
    ·omega
    ·have:=hd x hx;omega) h1
   refine(⟨hZ,fun i=>if i=k then c0 else call i,fun i=>if i=k then φ else Φ i,G,D,fun i=>?_,aA rfl,fun x hx hxk=>?_,fun x hx=>hD2 x (fH _ hx),⟨p,hp,hlen p hp2⟩,fun i o' hi ho'=>?_⟩:DTr P n ops g σ Z k dead φ (k+(o::l).length))
   ·show∀w0,bK P w0 (if i=k then c0 else call i);split
    ·exact hc0
    ·exact hc i
   ·rcases List.mem_cons.1 (hD1 x hx (by omega)) with rfl|h2
    ·omega
    ·exact h2
   ·by_cases hik:i=k
    ·subst hik;rw[ho] at ho';cases ho';have hin:i∈D:=hD2 i (by simp);simp only[dL,aB (show i+1≠i by omega),e1];exact⟨fun h=>absurd hin h,fun _=>⟨trivial,hwhy.imp (fun⟨j,h1,h2⟩=>⟨j,h1,hD2 j (fH _ h2)⟩) id⟩⟩
    ·simp only[aB hik,aB (show i+1≠k by omega)];exact hT i o' (by omega) ho'
  have isLive:∀(c0:dQ) (x:GV),(∀w0,bK P w0 c0)->(∀j∈(gW ops.toList []).getD k [],j∉dead)->(o.dst.all fun d=>decide (d<n))=true->o9 P M n ops (gW ops.toList []) g σ Z l (k+1) dead (f5 φ o.dst x)->((bF ops o φ=some false/\x=.tup [])∨(bF ops o φ=some true/\cE P c0 o (bO φ) σ=some (.val x,σ)))->DTr P n ops g σ Z k dead φ (k+(o::l).length):=fun c0 x hc0 hanc hdst h1 hwhy=>by
   obtain⟨hZ,call,Φ,G,D,hc,e1,hD1,hD2,⟨p,hp,hp2⟩,hT⟩:=rD hcalm l (k+1) dead _ hl' (fun x hx=>by have:=hd x hx;omega) h1;have hno:k∉D:=fun h=>by have:=hd k (hD1 k h (by omega));omega
   refine(⟨hZ,fun i=>if i=k then c0 else call i,fun i=>if i=k then φ else Φ i,fun i=>if i=k then x else G i,D,fun i=>?_,aA rfl,fun x hx hxk=>hD1 x hx (by omega),hD2,⟨p,hp,hlen p hp2⟩,fun i o' hi ho'=>?_⟩:DTr P n ops g σ Z k dead φ (k+(o::l).length))
   ·show∀w0,bK P w0 (if i=k then c0 else call i);split
    ·exact hc0
    ·exact hc i
   ·by_cases hik:i=k
    ·subst hik;rw[ho] at ho';cases ho';simp only[dL,aB (show i+1≠i by omega),e1];exact⟨fun _=>⟨hdst,trivial,fun j hj h2=>hanc j hj (hD1 j h2 (by have:=hlt j hj;omega)),hwhy⟩,fun h=>absurd h hno⟩
    ·simp only[aB hik,aB (show i+1≠k by omega)];exact hT i o' (by omega) ho'
  split at h
  ·rename_i hB;obtain⟨j,hj,hj2⟩:=List.any_eq_true.1 hB;obtain⟨d,hd1,hd2⟩:=List.any_eq_true.1 hj2;have:=cI hd2;subst this;exact isDead _ dY h (.inl ⟨d,hj,hd1⟩)
  ·rename_i hB;have hanc:∀j∈(gW ops.toList []).getD k [],j∉dead:=fun j hj hjd=>by
    have:(((gW ops.toList []).getD k []).any fun j=>dead.any fun d=>Nat.beq d j)=true:=List.any_eq_true.2 ⟨j,hj,List.any_eq_true.2 ⟨j,hjd,Nat.beq_refl j⟩⟩;rw[hB] at this;cases this
   split at h
   ·exact h.elim
   rename_i hds;have hds:=vO hds;obtain⟨b,hw,h⟩:=nP h;cases b with
   |false=>exact isLive _ _ dY hanc hds (j0 (K:=fun φ=>o9 P M n ops (gW ops.toList []) g σ Z l (k+1) dead φ) h) (.inl ⟨hw,rfl⟩)
   |true=>
    obtain⟨r,σ',⟨c0,hc1,hc2,hop⟩,h⟩:=jZ h;cases r with
    |val x=>
     have:=(jR hc2 hk2 hop).symm;subst this;exact isLive c0 x hc1 hanc hds (j0 (K:=fun φ=>o9 P M n ops (gW ops.toList []) g σ Z l (k+1) dead φ) h) (.inr ⟨hw,hop⟩)
    |panic g'=>
     obtain⟨hg,h⟩:=h;subst hg;have:=(GY hc2 hk2 hop).symm;subst this;exact isDead c0 hc1 h (.inr ⟨hw,hop⟩)
structure GDraw (P:Program) (M:FuncId->Bool) (n:Nat) (ops:Array Oper) (φ:Fr) (σ:GS) (K:GX->Fr->GS->Prop):Prop where
 ex:∃M:FuncId->Bool,(calm M ops=true/\o8 P M false n ops ops.toList φ σ (pV K))∨
  (∃(B:Nat->Bool) (A:List (List Nat)) (TL:List (Option Nat)) (k:Nat),A=gW ops.toList []/\k=(ops.toList.filter fun o=>dH M o.op==3).length/\
   oI M B ops A TL (σ.objs++List.replicate k GObj.free).length=true/\
   mE P M B (fun i=>TL.getD i none) (kY M ops A TL) n ops ops.toList 0 φ {σ with objs:=σ.objs++List.replicate k .free} K)∨
  (∃p op,ops[p]?=some op/\uX P M n ops p=true/\o8 P M false n ops (ops.toList.take p) φ σ (pV fun _ φ1 σ1=>a0h P M ops op φ1 σ1 fun g σ'=>K (.panic g) (DE ops φ) σ'))∨
  (∃g,xI M ops=true/\o9 P M n ops (gW ops.toList []) g σ (K (.panic g) (DE ops φ) σ) ops.toList 0 [] φ)
theorem GDraw.pan {P:Program} {M:FuncId->Bool} {n:Nat} {ops:Array Oper} {φ:Fr} {σ:GS} {K:GX->Fr->GS->Prop} (p:Nat) (op:Oper) (ho:ops[p]?=some op) (h:uX P M n ops p=true)
  (g:o8 P M false n ops (ops.toList.take p) φ σ (pV fun _ φ1 σ1=>a0h P M ops op φ1 σ1 fun g σ'=>K (.panic g) (DE ops φ) σ')):GDraw P M n ops φ σ K:=⟨M,.inr (.inr (.inl ⟨p,op,ho,h,g⟩))⟩
theorem GDraw.pans {P:Program} {M:FuncId->Bool} {n:Nat} {ops:Array Oper} {φ:Fr} {σ:GS} {K:GX->Fr->GS->Prop} (g:GV) (h:xI (fun k=>!Nat.beq k 999998) ops=true) (k:o9 P (fun k=>!Nat.beq k 999998) n ops (gW ops.toList []) g σ (K (.panic g) (DE ops φ) σ) ops.toList 0 [] φ):GDraw P M n ops φ σ K:=⟨_,.inr (.inr (.inr ⟨g,h,k⟩))⟩
theorem GDraw.calm {P:Program} {M:FuncId->Bool} {n:Nat} {ops:Array Oper} {φ:Fr} {σ:GS} {K:GX->Fr->GS->Prop} (h:Go.Proofs.YtmnjcddcihdlfaaGreatDoor.calm M ops=true) (k:o8 P M false n ops ops.toList φ σ (pV K)):GDraw P M n ops φ σ K:=⟨M,.inl ⟨h,k⟩⟩
theorem GDraw.wild {P:Program} {M:FuncId->Bool} {n:Nat} {ops:Array Oper} {φ:Fr} {σ:GS} {K:GX->Fr->GS->Prop} (A:List (List Nat)) (TL:List (Option Nat)) (k:Nat) (hA:gW ops.toList []=A) (hT:mQ P M W3 D5 σ ops.toList σ.objs.length φ=TL)
  (hk:(ops.toList.filter fun o=>dH M o.op==3).length=k) (h:Go.Proofs.YtmnjcddcihdlfaaGreatDoor.wild M ops A TL (σ.objs++List.replicate k GObj.free).length=true)
  (g:mE P M (fun _=>false) (fun i=>TL.getD i none) (kY M ops A TL) n ops ops.toList 0 φ {σ with objs:=σ.objs++List.replicate k .free} K):GDraw P M n ops φ σ K:=⟨M,.inr (.inl ⟨_,A,TL,k,hA.symm,hk.symm,h,g⟩)⟩
def hH:=@GDraw.wild
theorem GDraw.wildT {P:Program} {M:FuncId->Bool} {n:Nat} {ops:Array Oper} {φ:Fr} {σ:GS} {K:GX->Fr->GS->Prop} (TL:List (Option Nat)) {A:List (List Nat)} {k:Nat} (hA:gW ops.toList []=A)
  (hk:(ops.toList.filter fun o=>dH M o.op==3).length=k) (h:Go.Proofs.YtmnjcddcihdlfaaGreatDoor.wild M ops A TL (σ.objs++List.replicate k GObj.free).length=true)
  (g:mE P M (fun _=>false) (fun i=>TL.getD i none) (kY M ops A TL) n ops ops.toList 0 φ {σ with objs:=σ.objs++List.replicate k .free} K):GDraw P M n ops φ σ K:=⟨M,.inr (.inl ⟨_,A,TL,k,hA.symm,hk.symm,h,g⟩)⟩
def b7:=@GDraw.wildT
theorem GDraw.at {P:Program} {M:FuncId->Bool} {n:Nat} {ops:Array Oper} {φ:Fr} {σ:GS} {K:GX->Fr->GS->Prop} (M':FuncId->Bool) (h:GDraw P M' n ops φ σ K):GDraw P M n ops φ σ K:=⟨h.ex⟩
def fY:=@GDraw.at
def GW (P:Program) (M:FuncId->Bool) (ro:Option Nat) (n:Nat) (ops:Array Oper) (draw:Bool):nL:=fun φ σ K=>
 match draw with
 |true=>GDraw P M n ops φ σ K
 |false=>oQ P (fun _=>false) ro.isNone n ops ops.toList φ σ K
def ZS (a b:nL):nL:=fun φ σ K=>a φ σ fun x φ' σ'=>match x with
 |.normal=>b φ' σ' K
 |.exit i=>K (.exit i) φ' σ'
 |.ret=>K .ret φ' σ'
 |.panic g=>K (.panic g) φ' σ'
def UB (c:Operand) (a b:nL):nL:=fun φ σ K=>N3 φ c fun t φ=>match t with
 |true=>a φ σ K
 |false=>b φ σ K
def N6 (id:Nat) (c:nL):nL:=fun φ σ K=>c φ σ fun x φ' σ'=>match x with
 |.exit i=>Bool.rec (motive:=fun _=>Prop) (K (.exit i) φ' σ') (K .normal φ' σ') (Nat.beq i id)
 |.normal=>K .normal φ' σ'
 |.ret=>K .ret φ' σ'
 |.panic g=>K (.panic g) φ' σ'
def MQ (P:Program) (ro:Option Nat) (n:Nat) (f:Operand) (ps:Array Tmp) (asg body:Code):nL:=fun φ σ K=>
 match bO φ f with
 |.fn (.func k) first cap=>
  if iL P k then
   match sZ ro σ with
   |some (rd,σ1)=>∃r σ2,Fact P (.fn k) (first++.yld σ1.objs.length::cap) (gnew σ1 (.loop .ready none n φ ps asg body rd)) r σ2/\
    match r with
    |.val _=>rA (mV σ1.objs.length φ σ2) fun q=>K q.1 q.2.1 q.2.2
    |.panic g=>K (.panic g) φ σ2
   |none=>False
  else False
 |_=>False
def OL (P:Program) (M:FuncId->Bool) (ro:Option Nat) (n:Nat) (c:Code):nL:=
 Code.rec (motive:=fun _=>nL)
  (fun φ σ K=>K .normal φ σ)
  (fun _ ops draw=>GW P M ro n ops draw)
  (fun _ _ a b=>ZS a b)
  (fun c _ _ a b=>UB c a b)
  (fun id _ c=>N6 id c)
  (fun _ c=>GLoop c)
  (fun f ps asg body _ _=>MQ P ro n f ps asg body)
  (fun id φ σ K=>K (.exit id) φ σ)
  (fun _ _ _ _ _=>False)
  (fun _ φ σ K=>K .normal φ σ)
  (fun _ _ _ _=>False)
  (fun φ σ K=>K .ret φ σ)
  (fun _ _ _ _=>False)
  c
section
variable {P : Program} {M : FuncId → Bool} {w0 : World} {n : Nat} {ro : Option Nat}
theorem uA (hm:P.follows .mixedOrders=true):∀(c:Code) (Q:Exit->Act->World->Prop) (K:GX->Fr->GS->Prop) (C:Cx) (rb:Option Nat) (φ:Fr) (σ:GS) (a:Act) (w:World),
  OL P M ro n c φ σ K->RoR C ro rb->Rel C σ w0 w->FRel C φ a->a.tmps.size=n->DRel C σ.ds a.defers->(∀x φ' σ',K x φ' σ'->QOk w0 C Q n x φ' σ')->c.wpIn (FW rb) 0 P Q a w:=by
 intro c;induction c with
 |skip=>intro Q K C rb φ σ a w h ho hr hf hn hd hq;exact wpIn_skip (hq _ _ _ h C a w (.refl C) hf hn hd hr)
 |label l=>intro Q K C rb φ σ a w h ho hr hf hn hd hq;exact wpIn_label (hq _ _ _ h C a w (.refl C) hf hn hd hr)
 |exit id=>intro Q K C rb φ σ a w h ho hr hf hn hd hq;exact wpIn_exit (hq _ _ _ h C a w (.refl C) hf hn hd hr)
 |ret=>intro Q K C rb φ σ a w h ho hr hf hn hd hq;exact wpIn_ret (hq _ _ _ h C a w (.refl C) hf hn hd hr)
 |region id ops draw=>
  intro Q K C rb φ σ a w h ho hr hf hn hd hq;replace h:GW P M ro n ops draw φ σ K:=h;unfold GW at h;cases draw with
  |true=>
   obtain⟨M,h⟩:=h.ex;rcases h with⟨hcalm,h⟩|⟨B,A,TL,k,rfl,rfl,hwild,h⟩|⟨p,op,hop,hcp,h⟩|⟨g,hcalm,h⟩
   ·obtain⟨call,Φ,S,G,hc,hp,e1,e2,e3,e5⟩:=zC ops.toList 0 φ σ (fun j=>by simp) h;rw[bM,b8] at e3;exact CQ hm (fun i=>hc i w0) hp hcalm (⟨fun i o ho=>e5 i o (zL _) ho⟩:Trace P call n ops Φ S G) e1 e2 rfl rfl hr hf hn hd (hq _ _ _ e3)
   ·obtain⟨call,Φ,S,G,hc,e1,e2,e3,e5⟩:=uT ops.toList 0 φ _ (fun j=>by simp) h;rw[bM,b8] at e3;exact zF (B:=B) (call:=call) hm (fun i=>(hc i).1 w0) (fun i=>(hc i).2) rfl hwild ⟨fun i o ho=>e5 i o (zL _) ho⟩ e1 e2 rfl rfl rfl (hr.frees _) hf hn hd (hq _ _ _ e3)
   ·have hps:p<ops.size:=(Array.getElem?_eq_some_iff.1 hop).1;have hlen:(ops.toList.take p).length=p:=by simp;omega
    obtain⟨call,Φ,S,G,hc,hp,e1,e2,e3,e5⟩:=x2 (ops.toList.take p) 0 φ σ (fun j hj=>by rw[hlen] at hj;rw[cH,aA hj];simp) h;rw[bM,hlen] at e3;obtain⟨b,hw,e3⟩:=nP e3;cases b with
    |false=>exact e3.elim
    |true=>
     obtain⟨r,σ',⟨cp,hcp1,hcp2,hop'⟩,hk⟩:=jZ e3;cases r with
     |val g=>exact hk.elim
     |panic g=>
      refine zE (call:=fun i=>if i=p then cp else call i) (Φ:=Φ) (S:=S) (G:=G) hm (fun i=>?_) (fun i=>?_) hcp hop (fun i o hi ho=>?_) hw (by rw[aA rfl];exact hop') e1 e2 hr hf hn hd (hq _ _ _ hk)
      ·show bK P w0 (if i=p then cp else call i);split
       ·exact hcp1 w0
       ·exact hc i w0
      ·show d6 M (if i=p then cp else call i);split
       ·exact hcp2
       ·exact hp i
      ·rw[aB (show i≠p by omega)];exact e5 i o (zL _) (by rw[hlen];omega) ho
   ·obtain⟨hZ,call,Φ,G,D,hc,e1,_,_,⟨p,hp,hp2⟩,hT⟩:=rD hcalm ops.toList 0 [] φ (fun j=>by simp) (fun x hx=>by cases hx) h;rw[bM,b8] at hp2;refine KY (call:=call) (Φ:=Φ) (G:=G) (D:=fun i=>decide (i∈D)) hm (fun i=>hc i w0) hcalm p hp2 (aR hp) (fun i o ho hD=>?_) (fun i o ho hD=>?_) e1 hr hf hn hd (hq _ _ _ hZ)
    ·obtain⟨t1,t2,t3,t4⟩:=(hT i o (zL _) ho).1 (aW hD);exact⟨t1,fun t=>by rw[t2,eI,eX,ho,bC],fun k hk=>aQ (t3 k hk),t4⟩
    ·obtain⟨t1,t2⟩:=(hT i o (zL _) ho).2 (aO hD);exact⟨fun t=>by rw[t1],t2.imp (fun⟨k,h1,h2⟩=>⟨k,h1,aR h2⟩) fun h=>h⟩
  |false=>exact wpIn_region_list (uU (fun e=>ho.none_of e) _ C φ σ a w (by simpa using h) hr hf hn hd hq)
 |seq c1 c2 ih1 ih2=>
  intro Q K C rb φ σ a w h ho hr hf hn hd hq;replace h:ZS (OL P M ro n c1) (OL P M ro n c2) φ σ K:=h;unfold ZS at h;refine wpIn_seq (ih1 _ _ C rb φ σ a w h ho hr hf hn hd (fun x φ' σ' hk D a1 w1 hl hf1 hn1 hd1 hr1=>?_));cases x with
  |normal=>exact ih2 Q K D rb φ' σ' a1 w1 hk (ho.mono hl) hr1 hf1 hn1 hd1 (fun x φ' σ' hk=>(hq x φ' σ' hk).mono hl)
  |exit id=>exact hq _ _ _ hk D a1 w1 hl hf1 hn1 hd1 hr1
  |ret=>exact hq _ _ _ hk D a1 w1 hl hf1 hn1 hd1 hr1
  |panic g=>exact hq _ _ _ hk D a1 w1 hl hf1 hn1 hd1 hr1
 |cond c c1 c2 ih1 ih2=>
  intro Q K C rb φ σ a w h ho hr hf hn hd hq;replace h:UB c (OL P M ro n c1) (OL P M ro n c2) φ σ K:=h;unfold UB at h;obtain⟨t,ht,h⟩:=QV h;have hv:=cQ hf c;rw[ht] at hv;generalize hu:a.eval c=u at hv;cases hv;refine wpIn_cond hu ?_;cases t with
  |true=>exact ih1 Q K C rb φ σ a w h ho hr hf hn hd hq
  |false=>exact ih2 Q K C rb φ σ a w h ho hr hf hn hd hq
 |block id c ih=>
  intro Q K C rb φ σ a w h ho hr hf hn hd hq;replace h:N6 id (OL P M ro n c) φ σ K:=h;unfold N6 at h;refine wpIn_block (ih _ _ C rb φ σ a w h ho hr hf hn hd (fun x φ' σ' hk D a1 w1 hl hf1 hn1 hd1 hr1=>?_));cases x with
  |normal=>exact hq _ _ _ hk D a1 w1 hl hf1 hn1 hd1 hr1
  |exit i=>
   show if i=id then Q .normal a1 w1 else Q (.exit i) a1 w1;have hk':Bool.rec (motive:=fun _=>Prop) (K (.exit i) φ' σ') (K .normal φ' σ') (Nat.beq i id):=hk;split
   ·rename_i hi;subst hi;rw[Nat.beq_refl] at hk';exact hq _ _ _ hk' D a1 w1 hl hf1 hn1 hd1 hr1
   ·rename_i hi;cases hb:Nat.beq i id with
    |true=>exact absurd (cI hb) hi
    |false=>
     rw[hb] at hk';exact hq _ _ _ hk' D a1 w1 hl hf1 hn1 hd1 hr1
  |ret=>exact hq _ _ _ hk D a1 w1 hl hf1 hn1 hd1 hr1
  |panic g=>exact hq _ _ _ hk D a1 w1 hl hf1 hn1 hd1 hr1
 |loop c ih=>
  intro Q K C rb φ σ a w h ho hr hf hn hd hq;replace h:GLoop (OL P M ro n c) φ σ K:=h;obtain⟨I,N,m,hI,hN,hstep⟩:=h.ex;refine pQ (m+1) ?_;have key:∀(k m:Nat) (D:Cx) (φ1:Fr) (σ1:GS) (a:Act) (w:World),m<k->I m φ1 σ1->C.le D->Rel D σ1 w0 w->FRel D φ1 a->a.tmps.size=n->
    DRel D σ1.ds a.defers->nY (FW rb) 0 P c Q k a w:=by
   intro k;induction k with
   |zero=>intro m D φ1 σ1 a w hm;omega
   |succ k ihk=>
    intro m D φ1 σ1 a w hm hI hCD hr1 hf1 hn1 hd1;unfold nY;refine ih _ _ D rb φ1 σ1 a w (hstep m φ1 σ1 hI) (ho.mono hCD) hr1 hf1 hn1 hd1 (fun x φ' σ' hk D1 a1 w1 hl hf2 hn2 hd2 hr2=>?_);cases x with
    |normal=>
     obtain⟨m',hm',hk⟩:=hk;rcases hN _ _ _ hk with hI'|⟨φ2,σ2,hs,hI'⟩
     ·exact ihk m' D1 φ' σ' a1 w1 (by omega) hI' (hCD.trans hl) hr2 hf2 hn2 hd2
     ·obtain⟨E,hE,hrE,hfE,hdE⟩:=hs.rel hr (hCD.trans hl) hr2 hf2 hd2;exact ihk m' E φ2 σ2 a1 w1 (by omega) hI' hE hrE hfE hn2 hdE
    |exit id=>exact hq _ _ _ hk D1 a1 w1 (hCD.trans hl) hf2 hn2 hd2 hr2
    |ret=>exact hq _ _ _ hk D1 a1 w1 (hCD.trans hl) hf2 hn2 hd2 hr2
    |panic g=>exact hq _ _ _ hk D1 a1 w1 (hCD.trans hl) hf2 hn2 hd2 hr2
  exact key (m+1) m C φ σ a w (by omega) hI (.refl C) hr hf hn hd
 |rangeFunc f ps asg body iha ihb=>
  intro Q K C rb φ σ a w h ho hr hf hn hd hq;replace h:MQ P ro n f ps asg body φ σ K:=h;unfold MQ at h;split at h
  ·rename_i k first cap hfv
   split at h
   ·rename_i hk;split at h
    ·rename_i rd σ1 hent;obtain⟨r,σ2,hfact,h⟩:=h;cases r with
     |val g=>
      obtain⟨⟨x,φ',σ'⟩,he,h⟩:=jL h;refine l7 (call:=oK _ _ _ _ _) (M:=fun _=>false) (m:=0) hm (p9 hfact w0) (fun _ hk=>by rcases hk with hk|hk<;>cases hk) (.rangeFunc f ps asg body) Q C rb φ φ' σ σ' x a w ?_ ho hr hf hn hd (hq _ _ _ h);simp only[eK,hfv,hent];rw[aA hk];simp only[v7,he]
     |panic g=>
      refine l7 (call:=oK _ _ _ _ _) (M:=fun _=>false) (m:=0) hm (p9 hfact w0) (fun _ hk=>by rcases hk with hk|hk<;>cases hk) (.rangeFunc f ps asg body) Q C rb φ φ σ σ2 (.panic g) a w ?_ ho hr hf hn hd (hq _ _ _ h);simp only[eK,hfv,hent];rw[aA hk];simp only[v7]
    ·exact h.elim
   ·exact h.elim
  ·exact h.elim
 |_=>intro Q K C rb φ σ a w h;exact h.elim
end
def WZ (P:Program) (fn:Func) (R:GRes->GS->Prop):GX->Fr->GS->Prop
 |.normal,φ,σ=>rA (iJ P (fun _=>false) (fun _ _ _=>none) 50 fn φ σ.ds .ret σ) fun q=>R q.1 q.2
 |.ret,φ,σ=>rA (iJ P (fun _=>false) (fun _ _ _=>none) 50 fn φ σ.ds .ret σ) fun q=>R q.1 q.2
 |.panic g,φ,σ=>rA (iJ P (fun _=>false) (fun _ _ _=>none) 50 fn φ σ.ds (.pan g) σ) fun q=>R q.1 q.2
 |.exit _,_,_=>False
def WkRes:GRes->GRes->Prop
 |.val g,.val h=>Wk g h
 |.panic g,.panic h=>Wk g h
 |_,_=>False
theorem WkRes.erel {C:Cx} {r r':GRes} {e:Ending} (h:WkRes r r') (he:ERel C r e):ERel C r' e:=by
 cases r<;>cases r'<;>first|exact h.elim|skip
 ·obtain⟨v,e1,h1⟩:=he;exact⟨v,e1,h C v h1⟩
 ·obtain⟨v,e1,h1⟩:=he;exact⟨v,e1,h C v h1⟩
theorem WkRes.refl:∀r:GRes,WkRes r r
 |.val g=>iN g
 |.panic g=>iN g
structure Owes (s:List GObj) (r:GRes) (s':List GObj) (r0:GRes) (σ0:GS):Prop where
 ex:∃ks:List Nat,Lies ks s' σ0.objs/\(∀i,i<s.length->ks[i]?=some i)/\WkRes r0 (r.ren (iB ks σ0.objs.length))
def GObj.notHeld:GObj->Bool
 |.held=>false
 |_=>true
theorem SC.of_gwp {P:Program} (M:FuncId->Bool) (hm:P.follows .mixedOrders=true) {k:FuncId} {fn:Func} {c:Code} (hfn:P.funcs[k]?=some fn) (hb:fn.body=some c) {args:List GV} {s s':List GObj} {r:GRes}
  (hlen:args.length<=fn.ntmps) (hs:s.length<=s'.length) (hh0:s'.all GObj.notHeld=true) (h:OL P M none fn.ntmps c (lJ args) ⟨s,0,[]⟩ (WZ P fn (Owes s r s'))):SC P k args s r s':=by
 have hh:∀x∈s',x≠ .held:=fun x hx e=>by subst e;have:=List.all_eq_true.1 hh0 _ hx;cases this
 refine⟨hs,fun C w vs hr hv=>?_,hh⟩;obtain⟨h1,h2⟩:=r8 (fn:=fn) hlen hv;have fin:∀(φ':Fr) (σ1:GS) (u:GMode) (D:Cx) (a':Act) (w':World) (um:FrameMode),rA (iJ P (fun _=>false) (fun _ _ _=>none) 50 fn φ' σ1.ds u σ1) (fun q=>Owes s r s' q.1 q.2)->
   C.le D->FRel D φ' a'->DRel D σ1.ds a'.defers->Rel D σ1 w w'->MRel D u um->mH P fn a'.tmps (fun e w'=>∃D,C.le D/\Rel D ⟨s',0,[]⟩ w w'/\ERel D r e) a'.defers um w':=by
  intro φ' σ1 u D a' w' um hk hl hf' hd' hr' hmr;obtain⟨⟨r0,σ2⟩,hlv,⟨ks,hlies,hpre,hwk⟩⟩:=jL hk;refine(nH (tmps:=a'.tmps) (w0:=w) hm (dY w) fZ _ _ _ hlv).2 D w' a'.defers um hr' hf' hd' hmr (fun E e w'' hE hrE he=>?_);refine⟨E.pull (iB ks σ2.objs.length),?_,hrE.pull hlies,?_⟩
  ·have hlE:=hl.trans hE;have atb:∀i,i<s.length->iB ks σ2.objs.length i=i:=fun i hi=>by
    have h3:=hpre i hi;obtain⟨h4,h5⟩:=List.getElem?_eq_some_iff.1 h3;rw[jD h4,h5]
   refine⟨hlE.fx,fun i b hb'=>?_,fun i I hI=>?_,?_,hlE.fix⟩
   ·have hi:i<s.length:=by
     rcases dF i s.length with h4|h4
     ·exact h4
     ·rw[(hr.dom i h4).1] at hb';cases hb'
    show E.bk (iB ks σ2.objs.length i)=some b;rw[atb i hi];exact hlE.bk i b hb'
   ·have hi:i<s.length:=by
     rcases dF i s.length with h4|h4
     ·exact h4
     ·rw[(hr.dom i h4).2] at hI;cases hI
    show∃J,E.own (iB ks σ2.objs.length i)=some J/\_;rw[atb i hi];exact hlE.own i I hI
   ·exact hlE.hd
  ·exact(hwk.erel he).pull (D:=E) (f:=iB ks σ2.objs.length) (E:=E.pull (iB ks σ2.objs.length)) (fun _ _ _ h=>h) (fun _=>rfl) (fun _=>rfl)
 refine rS hfn hb (wpIn_wide (n:=0).1 (uA (w0:=w) (ro:=none) (n:=fn.ntmps) hm c _ _ C none _ _ _ w h trivial hr h1 h2 trivial (fun x φ' σ1 hk D a' w' hl hf' hn' hd' hr'=>?_)));cases x with
 |normal=>exact fin φ' σ1 .ret D a' w' .returning hk hl hf' hd' hr' rfl
 |ret=>exact fin φ' σ1 .ret D a' w' .returning hk hl hf' hd' hr' rfl
 |exit id=>exact hk.elim
 |panic g=>exact fun v hv=>fin φ' σ1 (.pan g) D a' w' (.panicking [{v,recovered:=false}]) hk hl hf' hd' hr' ⟨v,rfl,hv⟩
def f8:=@SC.of_gwp
