/-
  A part of the proof of SchemaFinds.
-/
import Derived.Test.YtcfgfkkhpdlhpaaGreatDoorT16
set_option linter.all false
namespace Go.Proofs.YtcfgfkkhpdlhpaaGreatDoor
open Go.RowKit
variable [Globals]
def GIf (c:Bool) (A B:Prop):Prop:=Bool.rec (motive:=fun _=>Prop) B A c
theorem GIf.mk {c:Bool} {A B:Prop} (yes:c=true->A) (no:c=false->B):GIf c A B:=by
 cases c with
 |true=>exact yes rfl
 |false=>exact no rfl
def aF:=@GIf.mk
theorem GIf.yes {c:Bool} {A B:Prop} (h:GIf c A B) (hc:c=true):A:=by subst hc;exact h
theorem GIf.no {c:Bool} {A B:Prop} (h:GIf c A B) (hc:c=false):B:=by subst hc;exact h
structure GNeed (c A:Prop):Prop where
 need:c
 next:A
def tW {α:Type} (x:Option α) (K:α->Prop):Prop:=
 match x with
 |some a=>K a
 |none=>False
theorem lO {α:Type} {x:Option α} {K:α->Prop} (h:tW x K):∃a,x=some a/\K a:=by
 cases x with
 |none=>exact h.elim
 |some a=>exact⟨a,rfl,h⟩
def BU {α:Type} (l:List α):(List α->Prop)->Prop:=
 List.rec (motive:=fun _=>(List α->Prop)->Prop) (fun K=>K []) (fun x _ ih K=>ih fun ys=>K (x::ys)) l
theorem xQ {α:Type}:∀{l:List α} {K:List α->Prop},BU l K->K l:=by
 intro l;induction l with
 |nil=>exact fun h=>h
 |cons x xs ih=>exact fun h=>ih h
def s5 (σ:GS) (r:Nat) (x:GObj) (K:GS->Prop):Prop:=BU (σ.objs.set r x) fun l=>K ⟨l,σ.lo,σ.ds⟩
theorem mI {σ:GS} {r:Nat} {x:GObj} {K:GS->Prop} (h:s5 σ r x K):K (gset σ r x):=xQ (K:=fun l=>K ⟨l,σ.lo,σ.ds⟩) h
def G3 (σ:GS) (x:GObj) (K:GS->Prop):Prop:=BU (σ.objs++[x]) fun l=>K ⟨l,σ.lo,σ.ds⟩
theorem tX {σ:GS} {x:GObj} {K:GS->Prop} (h:G3 σ x K):K (gnew σ x):=xQ (K:=fun l=>K ⟨l,σ.lo,σ.ds⟩) h
def S7 (g:GV) (K:GV->Prop):Prop:=
 match g with
 |.b x=>K (.b x)
 |.i k n=>K (.i k n)
 |.s l=>K (.s l)
 |.o v=>K (.o v)
 |.agg cs=>K (.agg cs)
 |.tup cs=>K (.tup cs)
 |.ifc t v=>K (.ifc t v)
 |.fn f a c=>K (.fn f a c)
 |.sl k xs=>K (.sl k xs)
 |.ptr r off=>K (.ptr r off)
 |.snap cs off=>K (.snap cs off)
 |.mp r=>K (.mp r)
 |.rs r off e n c=>K (.rs r off e n c)
 |.glb g off=>K (.glb g off)
 |.yld r=>K (.yld r)
 |.dat r cs=>K (.dat r cs)
 |.any=>K .any
theorem PX {g:GV} {K:GV->Prop} (h:S7 g K):K g:=by cases g<;>exact h
noncomputable def SA (φ:Fr) (d:Nat) (g:GV):Fr:=fun t=>Bool.rec (motive:=fun _=>GV) (φ t) g (Nat.beq t d)
theorem vF (φ:Fr) (d:Nat) (g:GV):SA φ d g=GJ φ d g:=by
 funext t;show Bool.rec (motive:=fun _=>GV) (φ t) g (Nat.beq t d)=if t=d then g else φ t;by_cases h:t=d
 ·subst h;rw[aG rfl,Nat.beq_refl]
 ·rw[aE h];cases hb:Nat.beq t d with
  |false=>rfl
  |true=>exact absurd (Nat.eq_of_beq_eq_true hb) h
def vS (φ:Fr) (d:Option Tmp) (g:GV) (K:Fr->Prop):Prop:=
 match d with
 |some d=>S7 g fun g=>K (SA φ d g)
 |none=>K φ
theorem mJ {φ:Fr} {d:Option Tmp} {g:GV} {K:Fr->Prop} (h:vS φ d g K):K (iF φ d g):=by
 cases d with
 |none=>exact h
 |some d=>rw[show iF φ (some d) g=GJ φ d g from rfl,<-vF];exact PX (K:=fun g=>K (SA φ d g)) h
def xS (x:Option GV) (dflt:Nat) (K:Nat->Prop):Prop:=
 match x with
 |none=>K dflt
 |some (.i _ n)=>GNeed (0<=n) (K n.toNat)
 |_=>False
theorem vD {x:Option GV} {d:Nat} {K:Nat->Prop} (h:xS x d K):∃a,mR x d=some a/\K a:=by
 unfold xS at h;unfold mR;split at h
 ·exact⟨d,rfl,h⟩
 ·rename_i k n;exact⟨_,aG h.need,h.next⟩
 ·exact h.elim
def KK (P:Program) (t:TypeId) (x:GV) (lo hi mx:Option GV) (K:GV->Prop):Prop:=
 match x with
 |.s l=>if gP P t=some 1&&mx.isNone then xS lo 0 fun a=>xS hi l.length fun b=>GNeed (a<=b/\b<=l.length) (∃r,r=(l.drop a).take (b - a)/\K (.s r)) else False
 |.sl k xs=>
  match mN P t with
  |some e=>match gF P e with
   |some size=>GNeed (xs.all (fun x=>x.cells.length==size)=true) <|
    xS lo 0 fun a=>xS hi xs.length fun b=>GNeed (a<=b/\b<=xs.length) <| ∃ys,ys=(xs.drop a).take (b - a)/\
     match mx with
     |none=>∃k',k'=(if a=0&&b=xs.length then k else if k=.full&&b=xs.length&&a<b then .full else .none)/\K (.sl k' ys)
     |some m=>GNeed (hi.isSome=true/\mR (some m) 0=some b) (K (.sl (if a<b then .full else .none) ys))
   |none=>False
  |none=>False
 |x=>tW (sN P t x lo hi mx) K
theorem PN {P:Program} {t:TypeId} {x:GV} {lo hi mx:Option GV} {K:GV->Prop} (h:KK P t x lo hi mx K):∃g,sN P t x lo hi mx=some g/\K g:=by
 unfold KK at h;split at h
 ·rename_i l;split at h
  ·rename_i hc;obtain⟨a,ha,h⟩:=vD h;obtain⟨b,hb,h⟩:=vD h;obtain⟨hab,r,rfl,h⟩:=h;refine⟨_,?_,h⟩;simp only[sN,hc,ha,hb,fP];rw[aG (by simpa using hab)]
  ·exact h.elim
 ·rename_i k xs;split at h
  ·rename_i e he;split at h
   ·rename_i size hs;have hall:=h.need;obtain⟨a,ha,h⟩:=vD h.next;obtain⟨b,hb,h⟩:=vD h;have hab:(decide (a<=b)&&decide (b<=xs.length))=true:=by simpa using h.need
    obtain⟨ys,rfl,h⟩:=h.next;split at h
    ·obtain⟨k',rfl,h⟩:=h;refine⟨_,?_,h⟩;simp only[sN,he,hs,hall,fP,ha,hb,hab]
    ·rename_i m;refine⟨_,?_,h.next⟩;simp only[sN,he,hs,hall,fP,ha,hb,hab];rw[aG (by simpa using h.need)]
   ·exact h.elim
  ·exact h.elim
 ·exact lO h
def KR (P:Program) (t:TypeId) (x ix:GV) (K:GV->Prop):Prop:=
 match x,ix with
 |.s l,.i _ n=>if gP P t=some 1 then GNeed (0<=n) (∃b,l[n.toNat]?=some b/\K (.i .u8 b.toNat)) else False
 |x,ix=>tW (BX P t x ix) K
theorem PW {P:Program} {t:TypeId} {x ix:GV} {K:GV->Prop} (h:KR P t x ix K):∃g,BX P t x ix=some g/\K g:=by
 unfold KR at h;split at h
 ·split at h
  ·rename_i hk;obtain⟨h0,b,hb,h1⟩:=h;refine⟨_,?_,h1⟩;simp only[BX,aG h0,aG hk,hb];rfl
  ·exact h.elim
 ·exact lO h
def wU (P:Program) (t:TypeId) (x ix:GV) (K:GV->Prop):Prop:=
 match x,ix with
 |.sl _ xs,.i _ n=>match mN P t with
  |some e=>match gF P e with
   |some size=>GNeed (0<=n) (∃y,xs[n.toNat]?=some y/\GNeed (y.cells.length=size) (K (.snap y.cells 0)))
   |none=>False
  |none=>False
 |.ptr r off,.i _ n=>match DI P t with
  |some (len,e)=>match gF P e with
   |some size=>GNeed (0<=n/\n<len) (K (.ptr r (off+n.toNat*size)))
   |none=>False
  |none=>False
 |.snap cs off,.i _ n=>match DI P t with
  |some (len,e)=>match gF P e with
   |some size=>GNeed (0<=n/\n<len) (K (.snap cs (off+n.toNat*size)))
   |none=>False
  |none=>False
 |.glb g off,.i _ n=>match DI P t with
  |some (len,e)=>match gF P e with
   |some size=>GNeed (0<=n/\n<len) (K (.glb g (off+n.toNat*size)))
   |none=>False
  |none=>False
 |.rs r off esz m _,.i _ n=>match mN P t with
  |some e=>match gF P e with
   |some size=>GNeed (0<=n/\(esz=size/\n<(m:Int))) (K (.rs r (off+n.toNat*esz) 0 0 0))
   |none=>False
  |none=>False
 |_,_=>False
theorem G7 {P : Program} {t : TypeId} {x ix : GV} {K : GV → Prop} (h : wU P t x ix K) : ∃ g, nT P t x ix = some g ∧ K g := by
  unfold wU at h;split at h
  · split at h
    · rename_i e he
      split at h
      · rename_i size hs
        obtain ⟨h0, y, hy, h1, h2⟩ := h;refine ⟨_, ?_, h2⟩;simp only [nT, aG h0, he, hs, hy, aG h1]
      · exact h.elim
    · exact h.elim
  all_goals try (split at h <;> first
    | exact h.elim
    | (rename_i len e he
       split at h <;> first
         | exact h.elim
         | (rename_i size hs
            obtain ⟨⟨h0, h1⟩, h2⟩ := h;refine ⟨_, ?_, h2⟩;simp only [nT, aG h0, he, hs];first
              | rw [aG h1]
              | rw [aG (by simpa using h1)])))
  exact h.elim
def GG (P:Program) (t u:TypeId) (s x:GV) (σ:GS) (K:GV->GS->Prop):Prop:=
 match s,N9 P t u x with
 |.sl k xs,some ys=>
  match mN P t with
  |some e=>match gF P e,vM P e,lX P e with
   |some size,some bytes,some z=>
    if z.known&&z.cells.length==size&&decide (0<size)&&decide (bytes<=4096) then
     GIf ys.isEmpty (K (.sl k xs) σ) <|
     GNeed (ys.all (r4 size)=true/\xs.all (fun x=>x.cells.length==size)=true/\xs.length+ys.length<=gG) <|
     ∃zs m,GNeed (zs=xs++ys/\m=xs.length+ys.length) <|
      match k with
      |.full=>bif Globals.wr e then∃cs,GNeed (cs=zs.flatMap GV.cells) (G3 σ (.box e cs) fun s=>K (.rs σ.objs.length 0 size m 0) s)
       else G3 σ (.own m size e) fun s=>K (.sl (.own σ.objs.length) zs) s
      |.own r=>match σ.objs[r]? with
       |some (.own n esz ty)=>bif Globals.wr e&&(esz==0&&n==0) then∃cs,GNeed (cs=zs.flatMap GV.cells/\xs.length=0) (G3 σ (.box e cs) fun s=>K (.rs σ.objs.length 0 size m 0) s)
        else GNeed (σ.lo<=r/\n=xs.length/\((esz=size/\ty=e)∨(n=0/\esz=0))) (s5 σ r (.own m size e) fun s=>K (.sl (.own r) zs) s)
       |_=>False
      |.none=>False
    else False
   |_,_,_=>False
  |none=>False
 |_,_=>False
theorem NQ {P:Program} {t u:TypeId} {s x:GV} {σ:GS} {K:GV->GS->Prop} (h:GG P t u s x σ K):∃g σ',vE P t u s x σ=some (g,σ')/\K g σ':=by
 unfold GG at h;split at h
 ·rename_i k xs ys hsrc;split at h
  ·rename_i e he;split at h
   ·rename_i size bytes z hs hb hz;split at h
    ·rename_i hc;simp only[aH,aL,dE] at hc;obtain⟨⟨⟨c2,c3⟩,c4⟩,c5⟩:=hc;simp only[vE,hsrc,he,hs,hb,hz];rw[aG (by simp[c2,c3])];cases hy:ys.isEmpty with
     |true=>
      rw[aG rfl];exact⟨_,_,rfl,h.yes hy⟩
     |false=>
      rw[aE (by simp)];obtain⟨⟨n1,n2,n3⟩,zs,m,⟨rfl,rfl⟩,h⟩:=h.no hy;rw[aG (by simp only[aH,aL];exact⟨⟨⟨⟨c4,n1⟩,n2⟩,n3⟩,c5⟩)];split at h
      ·cases hwr:Globals.wr e with
       |true=>
        rw[hwr] at h;obtain⟨cs,rfl,h⟩:=h;exact⟨_,_,rfl,tX (K:=fun s=>K _ s) h⟩
       |false=>
        rw[hwr] at h;exact⟨_,_,rfl,tX (K:=fun s=>K _ s) h⟩
      ·rename_i r;split at h
       ·rename_i n esz ty ho;simp only[ho];cases hwr:(Globals.wr e&&(esz==0&&n==0)) with
        |true=>
         rw[hwr] at h;obtain⟨cs,⟨rfl,hx0⟩,h⟩:=h;have hxe:xs=[]:=aN hx0;rw[aG (by rw[hxe];rfl)];exact⟨_,_,rfl,tX (K:=fun s=>K _ s) h⟩
        |false=>
        rw[hwr] at h;rw[aE (by simp)];obtain⟨⟨m1,m2,m3⟩,h⟩:=h;replace h:=mI (K:=fun s=>K _ s) h;rw[aG (by simp only[aH,aL,eY,dE];exact⟨⟨m1,m2⟩,m3⟩)];exact⟨_,_,rfl,h⟩
       ·exact h.elim
      ·exact h.elim
    ·exact h.elim
   ·exact h.elim
  ·exact h.elim
 ·exact h.elim
def XT (P:Program) (op:BinOp) (t:TypeId) (ca cb:Bool) (a b:GV) (K:GV->Prop):Prop:=
 match op,a,b with
 |.add,.s x,.s y=>GNeed (x.length+y.length<tI) (∃r,r=x++y/\K (.s r))
 |.quo,.i k x,.i k' y=>if k=k' then GNeed (y≠0) (K (.i k (k.wrap (x.tdiv y)))) else False
 |.rem,.i k x,.i k' y=>if k=k' then GNeed (y≠0) (K (.i k (x.tmod y))) else False
 |.shl,.i k x,.i _ y=>GNeed (0<=y) (K (.i k (k.wrap (x*2^min y.toNat k.bits))))
 |.shr,.i k x,.i _ y=>GNeed (0<=y) (K (.i k (x.fdiv (2^min y.toNat k.bits))))
 |.eql,.agg cs,.agg ds=>GNeed (DN P t=true) (tW (oD P (IU P t) cs ds) fun x=>K (.b x))
 |.neq,.agg cs,.agg ds=>GNeed (DN P t=true) (tW (oD P (IU P t) cs ds) fun x=>K (.b (!x)))
 |op,a,b=>tW (DF P op t ca cb a b) K
theorem XS {P:Program} {op:BinOp} {t:TypeId} {ca cb:Bool} {a b:GV} {K:GV->Prop} (h:XT P op t ca cb a b K):∃g,DF P op t ca cb a b=some g/\K g:=by
 unfold XT at h;split at h
 ·obtain⟨h1,r,rfl,h⟩:=h;exact⟨_,by simp only[DF,a06];exact aG h1,h⟩
 ·split at h
  ·rename_i hk;exact⟨_,by simp only[DF,aG hk,XO];exact aE h.need,h.next⟩
  ·exact h.elim
 ·split at h
  ·rename_i hk;exact⟨_,by simp only[DF,aG hk,XO];exact aE h.need,h.next⟩
  ·exact h.elim
 ·exact⟨_,by simp only[DF];exact aG h.need,h.next⟩
 ·exact⟨_,by simp only[DF];exact aG h.need,h.next⟩
 ·obtain⟨x,hx,hk⟩:=lO h.next;exact⟨.b x,by simp only[DF,geq,aG h.need,hx];rfl,hk⟩
 ·obtain⟨x,hx,hk⟩:=lO h.next;exact⟨.b !x,by simp only[DF,geq,aG h.need,hx];rfl,hk⟩
 ·exact lO h
def C1 (P:Program) (src dst:TypeId) (x:GV) (K:GV->Prop):Prop:=
 match x with
 |.sl _ xs=>match mN P src with
  |some e=>if N3 P e=some .u8&&gP P dst=some 1 then∃l,wZ xs=some l/\K (.s l) else False
  |none=>False
 |x=>tW (tZ P src dst x) K
theorem KV {P:Program} {src dst:TypeId} {x:GV} {K:GV->Prop} (h:C1 P src dst x K):∃g,tZ P src dst x=some g/\K g:=by
 unfold C1 at h;split at h
 ·split at h
  ·rename_i e he;split at h
   ·rename_i hc;obtain⟨l,hl,h⟩:=h;refine⟨_,?_,h⟩;simp only[tZ,he,hc,fP,hl];rfl
   ·exact h.elim
  ·exact h.elim
 ·exact lO h
def G6 (P:Program) (t:TypeId) (m k:GV) (ok:Bool) (σ:GS) (K:GV->Prop):Prop:=
 match MV P t with
 |some (kt,et)=>match P.underlying kt,lX P et with
  |some d,some z=>
   if U9 d k then
    match m with
    |.mp r=>match σ.objs[r]? with
     |some (.mp es)=>∃f,nO d k es 0=some f/\match f with
      |some (_,v)=>K (if ok then .tup [v,.b true] else v)
      |none=>K (if ok then .tup [z,.b false] else z)
     |_=>False
    |.o (.map none)=>K (if ok then .tup [z,.b false] else z)
    |_=>False
   else False
  |_,_=>False
 |none=>False
theorem NF {P:Program} {t:TypeId} {m k:GV} {ok:Bool} {σ:GS} {K:GV->Prop} (h:G6 P t m k ok σ K):∃g,pV P t m k ok σ=some g/\K g:=by
 unfold G6 at h;split at h
 ·rename_i kt et hmt;split at h
  ·rename_i d z hd hz;split at h
   ·rename_i hk;split at h
    ·rename_i r;split at h
     ·rename_i es ho;obtain⟨f,hf,h⟩:=h;simp only[pV,hmt,hd,hz,hk,fP,ho,hf];split at h
      ·exact⟨_,rfl,h⟩
      ·exact⟨_,rfl,h⟩
     ·exact h.elim
    ·simp only[pV,hmt,hd,hz,hk,fP];exact⟨_,rfl,h⟩
    ·exact h.elim
   ·exact h.elim
  ·exact h.elim
 ·exact h.elim
def AD (P:Program) (t:TypeId) (m k v:GV) (σ:GS) (K:GS->Prop):Prop:=
 match m with
 |.mp r=>match MV P t with
  |some (kt,_)=>match P.underlying kt,σ.objs[r]? with
   |some d,some (.mp es)=>
    if U9 d k then GNeed (σ.lo<=r) <|
     ∃f,nO d k es 0=some f/\match f with
      |some (i,_)=>s5 σ r (.mp (es.set i (k,v))) K
      |none=>s5 σ r (.mp (es++[(k,v)])) K
    else False
   |_,_=>False
  |none=>False
 |_=>False
theorem CU {P:Program} {t:TypeId} {m k v:GV} {σ:GS} {K:GS->Prop} (h:AD P t m k v σ K):∃s,kE P t m k v σ=some s/\K s:=by
 unfold AD at h;split at h
 ·split at h
  ·rename_i kt et hmt;split at h
   ·rename_i d es hd ho;split at h
    ·rename_i hk;obtain⟨hlo,f,hf,h⟩:=h;simp only[kE,hmt,hd,ho];rw[aG (by simp[hlo,hk])];simp only[hf];split at h
     ·exact⟨_,rfl,mI h⟩
     ·exact⟨_,rfl,mI h⟩
    ·exact h.elim
   ·exact h.elim
  ·exact h.elim
 ·exact h.elim
def BQ (P:Program) (t:TypeId) (r off:Nat) (v:GV) (σ:GS) (K:GS->Prop):Prop:=
 match σ.objs[r]? with
 |some (.box T cs)=>∃vc,GNeed (vc=v.cells/\σ.lo<=r/\(r4 ((gF P t).getD 0) v&&(gF P t).isSome)=true/\off+vc.length<=cs.length) (BU (cs.take off++vc++cs.drop (off+vc.length)) fun cs'=>s5 σ r (.box T cs') K)
 |_=>False
theorem KH {P:Program} {t:TypeId} {r off:Nat} {v:GV} {σ:GS} {K:GS->Prop} (h:BQ P t r off v σ K):∃s,jX P t r off v σ=some s/\K s:=by
 unfold BQ at h;split at h
 ·rename_i cs ho;obtain⟨vc,⟨rfl,h1,h2,h3⟩,h⟩:=h;refine⟨_,?_,mI (xQ (K:=fun cs'=>s5 σ _ (.box _ cs') K) h)⟩;simp only[jX,ho];rw[aH] at h2;rw[aG (by simp only[aH,aL];exact⟨⟨⟨h1,h2.1⟩,h2.2⟩,h3⟩)]
 ·exact h.elim
def FY (P:Program) (t:TypeId) (r off:Nat) (v:GV) (σ:GS) (K:GS->Prop):Prop:=
 match σ.objs[r]? with
 |some (.box T cs)=>∃cs',GNeed (cs'=cs.take off++v.cells++cs.drop (off+v.cells.length)/\σ.lo<=r/\(r4 ((gF P t).getD 0) v&&(gF P t).isSome)=true/\off+v.cells.length<=cs.length) (s5 σ r (.box T cs') K)
 |_=>False
theorem N8 {P:Program} {t:TypeId} {r off:Nat} {v:GV} {σ:GS} {K:GS->Prop} (h:FY P t r off v σ K):∃s,jX P t r off v σ=some s/\K s:=by
 unfold FY at h;split at h
 ·rename_i cs ho;obtain⟨cs',⟨rfl,h1,h2,h3⟩,h⟩:=h;refine⟨_,?_,mI h⟩;simp only[jX,ho];rw[aH] at h2;rw[aG (by simp only[aH,aL];exact⟨⟨⟨h1,h2.1⟩,h2.2⟩,h3⟩)]
 ·exact h.elim
def KF (P:Program) (t:TypeId) (a v:GV) (σ:GS) (K:GS->Prop):Prop:=
 match a with
 |.ptr r off=>BQ P t r off v σ K
 |.rs r off e _ _=>bif Nat.beq e 0 then FY P t r off v σ K else False
 |_=>False
theorem PK {P:Program} {t:TypeId} {a v:GV} {σ:GS} {K:GS->Prop} (h:KF P t a v σ K):∃s,oZ P t a v σ=some s/\K s:=by
 unfold KF at h;split at h
 ·exact KH h
 ·rename_i r off e _ _;cases he:Nat.beq e 0 with
  |true=>
   rw[he] at h;have e0:e=0:=Nat.eq_of_beq_eq_true he;rw[oZ,aG e0];exact N8 h
  |false=>rw[he] at h;exact h.elim
 ·exact h.elim
def PT (P:Program) (t:TypeId) (a:GV) (σ:GS) (K:GV->Prop):Prop:=
 match a with
 |.rs r off e _ _=>bif Nat.beq e 0 then match σ.objs[r]? with
   |some (.box _ cs)=>∃g,GNeed (wN P t cs off=some g) (K g)
   |_=>False
  else False
 |a=>tW (nN P t a σ) K
theorem U8 {P:Program} {t:TypeId} {a:GV} {σ:GS} {K:GV->Prop} (h:PT P t a σ K):∃g,nN P t a σ=some g/\K g:=by
 unfold PT at h;split at h
 ·rename_i r off e _ _;cases he:Nat.beq e 0 with
  |true=>
   rw[he] at h;have e0:e=0:=Nat.eq_of_beq_eq_true he;rw[nN,aG e0];simp only[cond_true] at h;split at h
   ·rename_i ho;obtain⟨g,h1,h2⟩:=h;exact⟨g,by simp only[ho];exact h1,h2⟩
   ·exact h.elim
  |false=>rw[he] at h;exact h.elim
 ·exact lO h
def PS (P:Program) (t:TypeId) (l c:GV) (σ:GS) (K:GV->GS->Prop):Prop:=
 match l,c with
 |.i _ n,.i _ m=>match mN P t with
  |some e=>match gF P e,vM P e,lX P e with
   |some size,some bytes,some z=>
    bif z.known&&z.cells.length==size&&decide (0<size)&&decide (bytes<=4096) then
     ∃k cs,GNeed (n=(k:Nat)/\n=m/\n<=(gG:Nat)/\cs=(List.replicate k z.cells).flatten) (G3 σ (.box e cs) fun s=>K (.rs σ.objs.length 0 size k k) s)
    else False
   |_,_,_=>False
  |none=>False
 |_,_=>False
theorem U7 {P:Program} {t:TypeId} {l c:GV} {σ:GS} {K:GV->GS->Prop} (h:PS P t l c σ K):∃g σ',G4 P t l c σ=some (g,σ')/\K g σ':=by
 unfold PS at h;split at h
 ·rename_i n _ m;split at h
  ·rename_i e he;split at h
   ·rename_i size bytes z hs hb hz;cases hc:(z.known&&z.cells.length==size&&decide (0<size)&&decide (bytes<=4096)) with
    |true=>
     rw[hc] at h;obtain⟨k,cs,⟨rfl,h1,h2,rfl⟩,h⟩:=h;have h:=tX (K:=fun s=>K _ s) h;refine⟨_,_,?_,h⟩;simp only[G4,he,hs,hb,hz];rw[aG (by rw[hc];simp only[Bool.true_and,aH,aL];exact⟨⟨cN _,h1⟩,h2⟩)];simp only[aC]
    |false=>rw[hc] at h;exact h.elim
   ·exact h.elim
  ·exact h.elim
 ·exact h.elim
def C3 (P:Program) (b:Builtin) (ts:List TypeId) (args:List GV) (σ:GS) (K:GV->GS->Prop):Prop:=
 match b,ts,args with
 |.append,[t,u],[s,x]=>GG P t u s x σ K
 |b,ts,args=>tW (mK P b ts args σ) fun q=>K q.1 q.2
theorem KX {P:Program} {b:Builtin} {ts:List TypeId} {args:List GV} {σ:GS} {K:GV->GS->Prop} (h:C3 P b ts args σ K):∃g σ',mK P b ts args σ=some (g,σ')/\K g σ':=by
 unfold C3 at h;split at h
 ·obtain⟨g,σ',h1,h2⟩:=NQ h;exact⟨g,σ',h1,h2⟩
 ·obtain⟨⟨g,σ'⟩,h1,h2⟩:=lO h;exact⟨g,σ',h1,h2⟩
def XN (P:Program) (ρ:Operand->GV) (op:Op) (σ:GS) (K:GV->GS->Prop):Prop:=
 match op with
 |.move x=>K (ρ x) σ
 |.assign x=>K (ρ x) σ
 |.pick c a b=>
  match ρ c with
  |.b t=>GIf t (K (ρ a) σ) (K (ρ b) σ)
  |_=>False
 |.load t a=>PT P t (ρ a) σ fun g=>K g σ
 |.store t a v=>KF P t (ρ a) (ρ v) σ fun s=>K .any s
 |.binOp op t x y _=>XT P op t (j9 x) (j9 y) (ρ x) (ρ y) fun g=>K g σ
 |.convert src dst x=>C1 P src dst (ρ x) fun g=>K g σ
 |.slice t x lo hi mx=>KK P t (ρ x) (lo.map ρ) (hi.map ρ) (mx.map ρ) fun g=>K g σ
 |.indexAddr t x i=>wU P t (ρ x) (ρ i) fun g=>K g σ
 |.index t x i=>KR P t (ρ x) (ρ i) fun g=>K g σ
 |.lookup t m k ok=>G6 P t (ρ m) (ρ k) ok σ fun g=>K g σ
 |.mapUpdate t m k v=>AD P t (ρ m) (ρ k) (ρ v) σ fun s=>K .any s
 |.insert t m k v=>AD P t (ρ m) (ρ k) (ρ v) σ fun s=>K .any s
 |.makeSlice t l c=>PS P t (ρ l) (ρ c) σ K
 |.call {callee:=.builtin b,args,argTypes}=>C3 P b argTypes.toList (args.toList.map ρ) σ K
 |op=>tW (pU P ρ op σ) fun q=>K q.1 q.2
theorem XM {P:Program} {ρ:Operand->GV} {op:Op} {σ:GS} {K:GV->GS->Prop} (h:XN P ρ op σ K):∃g σ',pU P ρ op σ=some (g,σ')/\K g σ':=by
 have mp:∀{x:Option GV},(∃g,x=some g/\K g σ)->∃g σ',x.map (fun v=>(v,σ))=some (g,σ')/\K g σ':=fun⟨g,e,h⟩=>⟨g,σ,by rw[e];rfl,h⟩;have mu:∀{x:Option GS},(∃s,x=some s/\K .any s)->∃g σ',x.map (fun s=>(GV.any,s))=some (g,σ')/\K g σ':=fun⟨s,e,h⟩=>⟨_,s,by rw[e];rfl,h⟩;unfold XN at h;split at h
 ·exact⟨_,_,rfl,h⟩
 ·exact⟨_,_,rfl,h⟩
 ·simp only[pU];split at h
  ·rename_i t ht;simp only[ht];cases t with
   |true=>exact⟨_,_,rfl,h.yes rfl⟩
   |false=>exact⟨_,_,rfl,h.no rfl⟩
  ·exact h.elim
 ·exact mp (U8 h)
 ·exact mu (PK h)
 ·exact mp (XS h)
 ·exact mp (KV h)
 ·exact mp (PN h)
 ·exact mp (G7 h)
 ·exact mp (PW h)
 ·exact mp (NF h)
 ·exact mu (CU h)
 ·exact mu (CU h)
 ·exact U7 h
 ·exact KX h
 ·obtain⟨⟨g,s⟩,h1,h2⟩:=lO h;exact⟨g,s,h1,h2⟩
def a1z (P:Program) (ρ:Operand->GV) (op:Op) (σ:GS) (K:GV->GS->Prop):Prop:=
 match iE P ρ op with
 |some f=>G3 σ f.2 fun s=>K (f.1 σ.objs.length) s
 |none=>XN P ρ op σ K
theorem a07 {P:Program} {ρ:Operand->GV} {op:Op} {σ:GS} {K:GV->GS->Prop} (h:a1z P ρ op σ K):∃g σ',rR P ρ op σ=some (g,σ')/\K g σ':=by
 unfold a1z at h;unfold rR;split at h
 ·rename_i f hf;exact⟨_,_,by rw[hf],tX (K:=fun s=>K _ s) h⟩
 ·rename_i hf;obtain⟨g,s,h1,h2⟩:=XM h;exact⟨g,s,by rw[hf];exact h1,h2⟩
def iU (P:Program) (M:FuncId->Bool) (t:Tgt) (args:List GV) (σ:GS) (K:GRes->GS->Prop):Prop:=
 ∃r σ',Fact P t args σ r σ'/\(∀k,t=.fn k->M k=true->σ'=σ)/\K r σ'
def wS (P:Program) (M:FuncId->Bool) (o:Oper) (ρ:Operand->GV) (σ:GS) (K:GRes->GS->Prop):Prop:=
 match o.op with
 |.panic x=>match ρ x with
  |.ifc t g=>K (.panic (.ifc t g)) σ
  |_=>False
 |.call {callee:=.value f,args,..}=>match ρ f with
  |.fn (.func k) first cap=>if m4 P k then iU P M (.fn k) (first++args.toList.map ρ++cap) σ K else tW (E5 P k (first++args.toList.map ρ++cap)) fun g=>K (.val g) σ
  |.yld r=>iU P M (.yld r) (args.toList.map ρ) σ K
  |_=>False
 |.call {callee:=.invoke r name,args,..}=>match ρ r with
  |.ifc t g=>tW (E4 P t name) fun k=>if m4 P k then iU P M (.fn k) (g::args.toList.map ρ) σ K else False
  |_=>False
 |op=>a1z P ρ op σ fun g s=>K (.val g) s
def a13 (P:Program) (M:FuncId->Bool) (o:Oper) (ρ:Operand->GV) (σ:GS) (r:GRes) (σ':GS):Prop:=
 ∃call:fT,(∀w0,bZ P w0 call)/\dR M call/\dI P call o ρ σ=some (r,σ')
open Classical in
noncomputable def rU (t:Tgt) (args:List GV) (σ:GS) (r:GRes) (σ':GS):fT:=fun t' a' s'=>if t'=t/\a'=args/\s'=σ then some (r,σ') else none
theorem yM {t:Tgt} {args:List GV} {σ σ':GS} {r:GRes}:rU t args σ r σ' t args σ=some (r,σ'):=aG ⟨rfl,rfl,rfl⟩
theorem CG {t t':Tgt} {args a':List GV} {σ σ' s s':GS} {r r':GRes} (h:rU t args σ r σ' t' a' s=some (r',s')):t'=t/\a'=args/\s=σ/\r'=r/\s'=σ':=by
 unfold rU at h;split at h
 ·rename_i hc;cases h;exact⟨hc.1,hc.2.1,hc.2.2,rfl,rfl⟩
 ·cases h
theorem sF {P:Program} {t:Tgt} {args:List GV} {σ σ':GS} {r:GRes} (h:Fact P t args σ r σ') (w0:World):bZ P w0 (rU t args σ r σ'):=fun t' a' s r' s' hc=>by
 obtain⟨rfl,rfl,rfl,rfl,rfl⟩:=CG hc;exact⟨h.keep,h.ds,h.calls w0⟩
theorem JA {M:FuncId->Bool} {t:Tgt} {args:List GV} {σ σ':GS} {r:GRes} (h:∀k,t=.fn k->M k=true->σ'=σ):dR M (rU t args σ r σ'):=fun k hk a' s r' s' hc=>by
 obtain⟨e1,rfl,rfl,rfl,rfl⟩:=CG hc;exact h k e1.symm hk
theorem gU {P:Program} (w0:World):bZ P w0 (fun _ _ _=>none):=fun _ _ _ _ _ h=>by cases h
theorem iS {M:FuncId->Bool}:dR M (fun _ _ _=>none):=fun _ _ _ _ _ _ h=>by cases h
theorem mX {P:Program} {M:FuncId->Bool} {o:Oper} {ρ:Operand->GV} {σ:GS} {K:GRes->GS->Prop} (h:wS P M o ρ σ K):∃r σ',a13 P M o ρ σ r σ'/\K r σ':=by
 have viaCall:∀{t:Tgt} {args:List GV},iU P M t args σ K->(∀call:fT,dI P call o ρ σ=call t args σ)->∃r σ',a13 P M o ρ σ r σ'/\K r σ':=fun⟨r,σ',hf,hp,hk⟩ hg=>
  ⟨r,σ',⟨rU _ _ _ r σ',sF hf,JA hp,(hg _).trans yM⟩,hk⟩
 unfold wS at h;split at h
 ·rename_i x hop;split at h
  ·rename_i t g hx;exact⟨_,_,⟨_,gU,iS,by unfold dI;simp only[hop,hx]⟩,h⟩
  ·exact h.elim
 ·rename_i f args ts hop;split at h
  ·rename_i k first cap hf
   split at h
   ·rename_i hk;exact viaCall h (fun call=>by unfold dI;simp only[hop,hf];rw[aG hk])
   ·rename_i hk;obtain⟨g,hg,h⟩:=lO h;exact⟨_,_,⟨_,gU,iS,by unfold dI;simp only[hop,hf];rw[aE hk,hg];rfl⟩,h⟩
  ·rename_i r hf;exact viaCall h (fun call=>by unfold dI;simp only[hop,hf])
  ·exact h.elim
 ·rename_i rv name args ts hop;split at h
  ·rename_i t g hrv;obtain⟨k,hm,h⟩:=lO h;split at h
   ·rename_i hk;exact viaCall h (fun call=>by unfold dI;simp only[hop,hrv,hm];rw[aG hk])
   ·exact h.elim
  ·exact h.elim
 ·rename_i hn1 hn2 hn3;obtain⟨g,s,hg,h⟩:=a07 h;refine⟨_,_,⟨_,gU,iS,?_⟩,h⟩;obtain⟨dst,op,type,pos,after,guard⟩:=o;simp only at hn1 hn2 hn3 hg;unfold dI;cases op
  case panic x=>exact absurd rfl (hn1 x)
  case call c=>
   obtain⟨callee,args,ts⟩:=c;cases callee with
   |value f=>exact absurd rfl (hn2 f args ts)
   |invoke r m=>exact absurd rfl (hn3 r m args ts)
   |builtin b=>simp only[hg];rfl
  all_goals (simp only[hg];rfl)
theorem u6 {φ:Fr} {d:Nat} {g:GV} (h:φ d=g):GJ φ d g=φ:=by
 funext t;show(if t=d then g else φ t)=φ t;split
 ·rename_i e;rw[e,h]
 ·rfl
def BP (ops:Array Oper) (o:Oper) (φ:Fr) (K:Bool->Fr->Prop):Prop:=
 match o.guard with
 |none=>K true φ
 |some (j,want)=>match(ops[j]?).bind (·.dst) with
  |some d=>match φ d with
   |.b t=>GIf t (K want (SA φ d (.b true))) (K (!want) (SA φ d (.b false)))
   |.tup []=>K false φ
   |_=>False
  |none=>K false φ
theorem tV {ops:Array Oper} {o:Oper} {φ:Fr} {K:Bool->Fr->Prop} (h:BP ops o φ K):∃b,cI ops o φ=some b/\K b φ:=by
 unfold BP at h;unfold cI;split at h
 ·rename_i hg;rw[hg];exact⟨true,rfl,h⟩
 ·rename_i j want hg;rw[hg];simp only[z7];split at h
  ·rename_i d hd;rw[hd];simp only;split at h
   ·rename_i t ht;rw[ht];simp only[eL];cases t with
    |true=>
     have:=h.yes rfl;rw[vF,u6 ht] at this;exact⟨_,rfl,by cases want<;>exact this⟩
    |false=>
     have:=h.no rfl;rw[vF,u6 ht] at this;exact⟨_,rfl,by cases want<;>exact this⟩
   ·rename_i ht;rw[ht];exact⟨false,rfl,h⟩
   ·exact h.elim
  ·rename_i hd;rw[hd];exact⟨false,rfl,h⟩
def PZ (φ:Fr) (c:Operand) (K:Bool->Fr->Prop):Prop:=
 match c with
 |.tmp d=>match φ d with
  |.b t=>GIf t (K true (SA φ d (.b true))) (K false (SA φ d (.b false)))
  |_=>False
 |c=>match dA φ c with
  |.b t=>K t φ
  |_=>False
theorem UB {φ:Fr} {c:Operand} {K:Bool->Fr->Prop} (h:PZ φ c K):∃t,dA φ c=.b t/\K t φ:=by
 unfold PZ at h;split at h
 ·rename_i d;show∃t,φ d=.b t/\K t φ;split at h
  ·rename_i t ht;cases t with
   |true=>exact⟨true,ht,by have:=h.yes rfl;rwa [vF,u6 ht] at this⟩
   |false=>exact⟨false,ht,by have:=h.no rfl;rwa [vF,u6 ht] at this⟩
  ·exact h.elim
 ·split at h
  ·rename_i t ht;exact⟨t,ht,h⟩
  ·exact h.elim
abbrev pY:=Fr->GS->(GX->Fr->GS->Prop)->Prop
def oO (P:Program) (M:FuncId->Bool) (dz:Bool) (n:Nat) (ops:Array Oper) (o:Oper) (ih:pY):pY:=fun φ σ K=>
 if(o.dst.all fun d=>Nat.blt d n) then
  BP ops o φ fun b φ=>match b with
  |false=>vS φ o.dst (.tup []) fun φ=>ih φ σ K
  |true=>
   match(if dz then GD (dA φ) o.op else none) with
   |some d=>vS φ o.dst (.tup []) fun φ=>ih φ {σ with ds:=d::σ.ds} K
   |none=>wS P M o (dA φ) σ fun r σ'=>match r with
    |.val g=>vS φ o.dst g fun φ=>ih φ σ' K
    |.panic g=>K (.panic g) φ σ'
 else False
def s7 (P:Program) (M:FuncId->Bool) (dz:Bool) (n:Nat) (ops:Array Oper) (l:List Oper):pY:=
 List.rec (motive:=fun _=>pY) (fun φ σ K=>K .normal φ σ) (fun o _ ih=>oO P M dz n ops o ih) l
theorem G1 {P:Program} {M:FuncId->Bool} {dz:Bool} {n:Nat} {ops:Array Oper} {o:Oper} {l:List Oper} {φ:Fr} {σ:GS} {K:GX->Fr->GS->Prop}:
  s7 P M dz n ops (o::l) φ σ K=oO P M dz n ops o (s7 P M dz n ops l) φ σ K:=rfl
theorem GQ {o:Oper} {n:Nat} (h:(o.dst.all fun d=>Nat.blt d n)=true):(o.dst.all fun d=>decide (d<n))=true:=by
 cases hd:o.dst with
 |none=>rfl
 |some d=>
  rw[hd] at h;have:Nat.blt d n=true:=h;simpa[Nat.blt_eq] using this
section
variable {P : Program} {M : FuncId → Bool} {w0 : World} {n : Nat} {ops : Array Oper}
theorem wO {ro:Option Nat} {dz:Bool} (hdz:dz=true->ro=none) {Q:Exit->Act->World->Prop} {K:GX->Fr->GS->Prop} {o:Oper} {l:List Oper} {R:pY}
  (ih:∀(C:Cx) (φ:Fr) (σ:GS) (a:Act) (w:World),R φ σ K->Rel C σ w0 w->FRel C φ a->a.tmps.size=n->DRel C σ.ds a.defers->(∀x φ' σ',K x φ' σ'->QOk w0 C Q n x φ' σ')->wpListIn (FW ro) 0 P ops Q l a w)
  (C:Cx) (φ:Fr) (σ:GS) (a:Act) (w:World) (hg:oO P M dz n ops o R φ σ K) (hr:Rel C σ w0 w) (hf:FRel C φ a) (hn:a.tmps.size=n) (hd0:DRel C σ.ds a.defers) (hq:∀x φ' σ',K x φ' σ'->QOk w0 C Q n x φ' σ'):wpListIn (FW ro) 0 P ops Q (o::l) a w:=by
 unfold oO at hg;split at hg
 ·rename_i hd;replace hd:=GQ hd;unfold wpListIn;obtain⟨b,hw,hg⟩:=tV hg;cases b with
  |false=>
   rw[fM hf hw];simp only[bT,fR];replace hg:=mJ (K:=fun φ=>R φ σ K) hg;obtain⟨h1,h2,h3⟩:=hf.put (vZ C) hn hd;exact⟨fun f _=>trivial,ih C _ σ _ w hg hr h1 h2 (by rw[h3];exact hd0) hq⟩
  |true=>
   rw[fM hf hw];simp only[fP];rcases hdef:(if dz=true then GD (dA φ) o.op else none) with _|d;rotate_left
   ·simp only[hdef] at hg;replace hg:=mJ (K:=fun φ=>R φ {σ with ds:=d::σ.ds} K) hg;have hdzt:dz=true:=by
     cases hdz':dz with
     |true=>rfl
     |false=>rw[hdz'] at hdef;simp at hdef
    have hro:=hdz hdzt;subst hro;rw[aG hdzt] at hdef;unfold GD at hdef;split at hdef
    ·rename_i f args ts hop;split at hdef
     ·rename_i k first cap hf0
      cases hdef;have hv0:=dQ hf f;rw[hf0] at hv0;generalize hu:a.eval f=u at hv0;cases hv0 with
      |fn h1 h2 h3 h4=>
       rename_i va vc;have e1:VRs C first va.toList:=⟨by simpa using h1,fun j g u a b=>h3 j g u a (by simpa using b)⟩
       have e2:VRs C cap vc.toList:=⟨by simpa using h2,fun j g u a b=>h4 j g u a (by simpa using b)⟩;have hrun:(execOp a.eval o).run P w=.ok (.defer {target:=.fn (.func k) vc,args:=va++args.map a.eval}) w:=by
        unfold execOp;rw[hop];simp[resolve,hu,Deferred.ofValue]
       refine⟨fun f _=>trivial,?_⟩;show Oper.uponIn _ _ _ _ _ _ _ ((execOp a.eval o).run P w);rw[hrun,Oper.uponIn_defer];have hf1:FRel C φ {a with defers:={target:=.fn (.func k) vc,args:=va++args.map a.eval}::a.defers}:=hf;obtain⟨p1,p2,p3⟩:=hf1.put (vZ C) (n:=n) hn hd;refine ih C _ _ _ w hg (hr.ds _) p1 p2 ?_ hq;rw[p3];refine⟨⟨_,_,rfl,?_,e2⟩,hd0⟩;simp only[Array.toList_append,Array.toList_map];exact e1.append (VRs.mapOp (dQ hf) args.toList)
     ·cases hdef
    ·cases hdef
   ·simp only[hdef] at hg;obtain⟨r,σ1,⟨call,hcall,_,hop⟩,hg⟩:=mX hg;refine j4 (hcall w0) hr (dQ hf) hop (fun g' D v w' e hl hr' hv=>?_) (fun g' D v w' e hl hr' hv=>?_)
    ·subst e;replace hg:=mJ (K:=fun φ=>R φ σ1 K) hg;obtain⟨h1,h2,h3⟩:=(hf.mono hl).put hv hn hd;exact ih D _ σ1 _ w' hg hr' h1 h2 (by rw[h3,nL (hcall w0) hop];exact hd0.mono hl) (fun x φ' σ' hk=>(hq x φ' σ' hk).mono hl)
    ·subst e;exact hq _ _ _ hg D a w' hl (hf.mono hl) hn (by rw[nL (hcall w0) hop];exact hd0.mono hl) hr' v hv
 ·exact hg.elim
def a0h (o:Oper):Option (TypeId×TypeId×Operand×Operand):=
 match o.guard,o.op with
 |none,.call {callee:=.builtin .append,args,argTypes}=>match args.toList,argTypes.toList with
  |[s,x],[t,u]=>some (t,u,s,x)
  |_,_=>none
 |_,_=>none
structure GAppRs (P:Program) (t u:TypeId) (r size n c:Nat) (x:GV) (σ:GS) (K:GV->GS->Prop):Prop where
 ex:∃(e bytes:Nat) (z:GV) (cs ys:List GV),(σ.objs[r]?=some (.box e cs)/\N9 P t u x=some ys/\mN P t=some e/\gF P e=some size/\vM P e=some bytes/\lX P e=some z/\Globals.wr e=true)/\
  (cs.length=c*size/\(z.known&&z.cells.length==size&&ys.all (r4 size)&&decide (bytes<=4096)&&decide (σ.lo<=r))=true/\ys≠[]/\n+ys.length<=gG/\0<c/\n<=c)/\
  (n+ys.length<=c->∃cs',cs'=cs.take (n*size)++flat ys++cs.drop (n*size+(flat ys).length)/\s5 σ r (.box e cs') fun s=>K (.rs r 0 size (n+ys.length) c) s)/\
  (c<n+ys.length->∀cap cs',n+ys.length<=cap->cs'=cs.take (n*size)++flat ys++List.replicate ((cap - (n+ys.length))*size) .any->G3 σ (.box e cs') fun s=>K (.rs σ.objs.length 0 size (n+ys.length) cap) s)
def z8 (P:Program) (M:FuncId->Bool) (dz:Bool) (n:Nat) (ops:Array Oper) (o:Oper) (ih:pY):pY:=fun φ σ K=>
 match a0h o with
 |none=>oO P M dz n ops o ih φ σ K
 |some q=>match dA φ q.2.2.1 with
  |.rs r 0 (sz+1) m c=>(o.dst.all fun d=>Nat.blt d n)=true/\GAppRs P q.1 q.2.1 r (sz+1) m c (dA φ q.2.2.2) σ fun g σ'=>vS φ o.dst g fun φ=>ih φ σ' K
  |_=>oO P M dz n ops o ih φ σ K
def v8 (P:Program) (M:FuncId->Bool) (dz:Bool) (n:Nat) (ops:Array Oper) (l:List Oper):pY:=
 List.rec (motive:=fun _=>pY) (fun φ σ K=>K .normal φ σ) (fun o _ ih=>z8 P M dz n ops o ih) l
theorem yF {ro:Option Nat} {dz:Bool} (hdz:dz=true->ro=none) {Q:Exit->Act->World->Prop} {K:GX->Fr->GS->Prop}:∀(l:List Oper) (C:Cx) (φ:Fr) (σ:GS) (a:Act) (w:World),
  v8 P M dz n ops l φ σ K->Rel C σ w0 w->FRel C φ a->a.tmps.size=n->DRel C σ.ds a.defers->(∀x φ' σ',K x φ' σ'->QOk w0 C Q n x φ' σ')->wpListIn (FW ro) 0 P ops Q l a w
 |[],C,φ,σ,a,w,hg,hr,hf,hn,hd0,hq=>hq _ _ _ hg C a w (.refl C) hf hn hd0 hr
 |o::l,C,φ,σ,a,w,hg,hr,hf,hn,hd0,hq=>by
  have ih:=fun(C:Cx) (φ:Fr) (σ:GS) (a:Act) (w:World) h1 h2 h3 h4 h5 (hq:∀x φ' σ',K x φ' σ'->QOk w0 C Q n x φ' σ')=>yF (ro:=ro) hdz (K:=K) l C φ σ a w h1 h2 h3 h4 h5 hq;replace hg:z8 P M dz n ops o (v8 P M dz n ops l) φ σ K:=hg;unfold z8 at hg;split at hg
  ·exact wO hdz ih C φ σ a w hg hr hf hn hd0 hq
  ·rename_i q hq0;split at hg
   ·rename_i r sz m c hs;obtain⟨hd,⟨e,bytes,z,cs,ys,⟨p1,p2,p3,p4,p5,p6,p7⟩,⟨q1,q2,q3,q4,q5,q6⟩,k1,k2⟩⟩:=hg;simp only[aH,aL,dE,aS] at q2;obtain⟨⟨⟨⟨q2,q7⟩,q8⟩,q9⟩,q10⟩:=q2;replace hd:=GQ hd;obtain⟨t,u,s,x⟩:=q;unfold a0h at hq0;split at hq0
    ·rename_i args ts hgd hop;split at hq0
     ·rename_i s' x' t' u' hargs hts;cases hq0;have hvs:=dQ hf s;rw[hs] at hvs;have ea:args= #[s,x]:=by rw[<-Array.toList_inj];exact hargs
      have et:ts= #[t,u]:=by rw[<-Array.toList_inj];exact hts
      have hrun:∀v w',(Builtin.append_ #[t,u] o.type #[a.eval s,a.eval x]).run P w=.ok v w'->(execOp a.eval o).run P w=.ok (.value v) w':=fun v w' hr'=>by
       unfold execOp;rw[hop,ea,et];simp[resolve,invoke,builtin,hr']
      have hput:∀{σ1:GS} {g:GV},σ1.ds=σ.ds->(vS φ o.dst g fun φ=>v8 P M dz n ops l φ σ1 K)->Runs P C w0 w σ1 g (Builtin.append_ #[t,u] o.type #[a.eval s,a.eval x])->wpListIn (FW ro) 0 P ops Q (o::l) a w:=fun{σ1 g} hds hk hR=>by
       obtain⟨D,v,w',hl,hr',hv,hrn⟩:=hR;unfold wpListIn;rw[fM hf (show cI ops o φ=some true by unfold cI;rw[hgd])];simp only[fP];have hnd:∀c,o.op≠ .defer c:=fun c e=>by rw[hop] at e;cases e
       refine⟨fun f _=>trivial,?_⟩;rw[Oper.semAt_eq _ _ _ hnd,hrun v w' hrn];replace hk:=mJ (K:=fun φ=>v8 P M dz n ops l φ σ1 K) hk;obtain⟨h1,h2,h3⟩:=(hf.mono hl).put hv hn hd;exact ih D _ σ1 _ w' hk hr' h1 h2 (by rw[h3,hds];exact hd0.mono hl) (fun x φ' σ' hk=>(hq x φ' σ' hk).mono hl)
      rcases L2 (ty:=o.type) hr hvs (dQ hf x) p1 q1 p2 p3 p4 p5 p6 q2 q7 q3 q8 q4 q9 q5 p7 q6 with⟨h1,hR⟩|⟨h1,cap,h2,hR⟩
      ·obtain⟨cs',rfl,hk⟩:=k1 h1;exact hput (σ1:=gset σ r _) rfl (mI (K:=fun s=>vS φ o.dst _ fun φ=>v8 P M dz n ops l φ s K) hk) hR
      ·exact hput (σ1:=gnew σ _) rfl (tX (K:=fun s=>vS φ o.dst _ fun φ=>v8 P M dz n ops l φ s K) (k2 h1 cap _ h2 rfl)) hR
     ·cases hq0
    ·cases hq0
   ·exact wO hdz ih C φ σ a w hg hr hf hn hd0 hq
def vQ (K:GX->Fr->GS->Prop):GX->Fr->GS->Prop
 |.normal,φ,σ=>K .normal φ σ
 |_,_,_=>False
theorem D0 {K:GX->Fr->GS->Prop}:∀(l:List Oper) (k:Nat) (φ:Fr) (σ:GS),(∀j:Nat,l[j]?=ops[k+j]?)->s7 P M false n ops l φ σ (vQ K)->
  ∃(call:Nat->fT) (Φ:Nat->Fr) (S:Nat->GS) (G:Nat->GV),(∀i w0,bZ P w0 (call i))/\(∀i,dR M (call i))/\Φ k=φ/\S k=σ/\K .normal (Φ (k+l.length)) (S (k+l.length))/\
   ∀(i:Nat) o,k<=i->ops[i]?=some o->(o.dst.all fun d=>decide (d<n))=true/\Φ (i+1)=iF (Φ i) o.dst (G i)/\
    ((cI ops o (Φ i)=some false/\G i=.tup []/\S (i+1)=S i)∨(cI ops o (Φ i)=some true/\dI P (call i) o (dA (Φ i)) (S i)=some (.val (G i),S (i+1))))
 |[],k,φ,σ,hl,hg=>by
  refine⟨fun _ _ _ _=>none,fun _=>φ,fun _=>σ,fun _=>.any,fun _=>gU,fun _=>iS,rfl,rfl,hg,fun i o hi ho=>?_⟩;have:=hl (i - k);rw[show k+(i - k)=i by omega,ho] at this;simp at this
 |o::l,k,φ,σ,hl,hg=>by
  have ho:ops[k]?=some o:=by have:=hl 0;simpa using this.symm
  rw[G1] at hg;unfold oO at hg;split at hg
  ·rename_i hd;replace hd:=GQ hd;have go:∀(c0:fT) (g:GV) (σ1:GS),(∀w0,bZ P w0 c0)->dR M c0->s7 P M false n ops l (iF φ o.dst g) σ1 (vQ K)->
     ((cI ops o φ=some false/\g=.tup []/\σ1=σ)∨(cI ops o φ=some true/\dI P c0 o (dA φ) σ=some (.val g,σ1)))->
     ∃(call:Nat->fT) (Φ:Nat->Fr) (S:Nat->GS) (G:Nat->GV),(∀i w0,bZ P w0 (call i))/\(∀i,dR M (call i))/\Φ k=φ/\S k=σ/\K .normal (Φ (k+(o::l).length)) (S (k+(o::l).length))/\
      ∀(i:Nat) o,k<=i->ops[i]?=some o->(o.dst.all fun d=>decide (d<n))=true/\Φ (i+1)=iF (Φ i) o.dst (G i)/\
       ((cI ops o (Φ i)=some false/\G i=.tup []/\S (i+1)=S i)∨(cI ops o (Φ i)=some true/\dI P (call i) o (dA (Φ i)) (S i)=some (.val (G i),S (i+1)))):=by
    intro c0 g σ1 hc0 hp0 hrest hstep;obtain⟨call,Φ,S,G,hc,hp,e1,e2,e3,e5⟩:=D0 l (k+1) _ σ1 (fun j=>by have:=hl (j+1);rw[show k+1+j=k+(j+1) by omega];simpa using this) hrest;refine⟨fun i=>if i=k then c0 else call i,fun i=>if i=k then φ else Φ i,fun i=>if i=k then σ else S i,fun i=>if i=k then g else G i,fun i=>?_,fun i=>?_,aG rfl,aG rfl,?_,fun i o' hi ho'=>?_⟩
    ·show∀w0,bZ P w0 (if i=k then c0 else call i);split
     ·exact hc0
     ·exact hc i
    ·show dR M (if i=k then c0 else call i);split
     ·exact hp0
     ·exact hp i
    ·show K .normal (if k+(l.length+1)=k then φ else Φ (k+(l.length+1))) (if k+(l.length+1)=k then σ else S (k+(l.length+1)));rw[aE (by omega),aE (by omega),show k+(l.length+1)=k+1+l.length by omega];exact e3
    ·by_cases hik:i=k
     ·subst hik;rw[ho] at ho';cases ho';simp only[fP,aE (show i+1≠i by omega),e1,e2];exact⟨hd,trivial,hstep⟩
     ·simp only[aE hik,aE (show i+1≠k by omega)];exact e5 i o' (by omega) ho'
   obtain⟨b,hw,hg⟩:=tV hg;cases b with
   |false=>exact go _ (.tup []) σ gU iS (mJ (K:=fun φ=>s7 P M false n ops l φ σ (vQ K)) hg) (.inl ⟨hw,rfl,rfl⟩)
   |true=>
    simp only[bT,fR] at hg;obtain⟨r,σ1,⟨call,hcall,hpure,hop⟩,hg⟩:=mX hg;cases r with
    |val g=>exact go call g σ1 hcall hpure (mJ (K:=fun φ=>s7 P M false n ops l φ σ1 (vQ K)) hg) (.inr ⟨hw,hop⟩)
    |panic g=>exact hg.elim
  ·exact hg.elim
theorem AF {K:GX->Fr->GS->Prop}:∀(l:List Oper) (k:Nat) (φ:Fr) (σ:GS),(∀j:Nat,j<l.length->l[j]?=ops[k+j]?)->s7 P M false n ops l φ σ (vQ K)->
  ∃(call:Nat->fT) (Φ:Nat->Fr) (S:Nat->GS) (G:Nat->GV),(∀i w0,bZ P w0 (call i))/\(∀i,dR M (call i))/\Φ k=φ/\S k=σ/\K .normal (Φ (k+l.length)) (S (k+l.length))/\
   ∀(i:Nat) o,k<=i->i<k+l.length->ops[i]?=some o->(o.dst.all fun d=>decide (d<n))=true/\Φ (i+1)=iF (Φ i) o.dst (G i)/\
    ((cI ops o (Φ i)=some false/\G i=.tup []/\S (i+1)=S i)∨(cI ops o (Φ i)=some true/\dI P (call i) o (dA (Φ i)) (S i)=some (.val (G i),S (i+1))))
 |[],k,φ,σ,hl,hg=>by
  refine⟨fun _ _ _ _=>none,fun _=>φ,fun _=>σ,fun _=>.any,fun _=>gU,fun _=>iS,rfl,rfl,hg,fun i o hi hi2 ho=>?_⟩;simp at hi2;omega
 |o::l,k,φ,σ,hl,hg=>by
  have ho:ops[k]?=some o:=by have:=hl 0 (by simp);simpa using this.symm
  rw[G1] at hg;unfold oO at hg;split at hg
  ·rename_i hd;replace hd:=GQ hd;have go:∀(c0:fT) (g:GV) (σ1:GS),(∀w0,bZ P w0 c0)->dR M c0->s7 P M false n ops l (iF φ o.dst g) σ1 (vQ K)->
     ((cI ops o φ=some false/\g=.tup []/\σ1=σ)∨(cI ops o φ=some true/\dI P c0 o (dA φ) σ=some (.val g,σ1)))->
     ∃(call:Nat->fT) (Φ:Nat->Fr) (S:Nat->GS) (G:Nat->GV),(∀i w0,bZ P w0 (call i))/\(∀i,dR M (call i))/\Φ k=φ/\S k=σ/\K .normal (Φ (k+(o::l).length)) (S (k+(o::l).length))/\
      ∀(i:Nat) o',k<=i->i<k+(o::l).length->ops[i]?=some o'->(o'.dst.all fun d=>decide (d<n))=true/\Φ (i+1)=iF (Φ i) o'.dst (G i)/\
       ((cI ops o' (Φ i)=some false/\G i=.tup []/\S (i+1)=S i)∨(cI ops o' (Φ i)=some true/\dI P (call i) o' (dA (Φ i)) (S i)=some (.val (G i),S (i+1)))):=by
    intro c0 g σ1 hc0 hp0 hrest hstep;obtain⟨call,Φ,S,G,hc,hp,e1,e2,e3,e5⟩:=AF l (k+1) _ σ1 (fun j hj=>by have:=hl (j+1) (by simp;omega);rw[show k+1+j=k+(j+1) by omega];simpa using this) hrest;refine⟨fun i=>if i=k then c0 else call i,fun i=>if i=k then φ else Φ i,fun i=>if i=k then σ else S i,fun i=>if i=k then g else G i,fun i=>?_,fun i=>?_,aG rfl,aG rfl,?_,fun i o' hi hi2 ho'=>?_⟩
    ·show∀w0,bZ P w0 (if i=k then c0 else call i);split
     ·exact hc0
     ·exact hc i
    ·show dR M (if i=k then c0 else call i);split
     ·exact hp0
     ·exact hp i
    ·show K .normal (if k+(l.length+1)=k then φ else Φ (k+(l.length+1))) (if k+(l.length+1)=k then σ else S (k+(l.length+1)));rw[aE (by omega),aE (by omega),show k+(l.length+1)=k+1+l.length by omega];exact e3
    ·by_cases hik:i=k
     ·subst hik;rw[ho] at ho';cases ho';simp only[fP,aE (show i+1≠i by omega),e1,e2];exact⟨hd,trivial,hstep⟩
     ·simp only[aE hik,aE (show i+1≠k by omega)];exact e5 i o' (by omega) (by simp at hi2;omega) ho'
   obtain⟨b,hw,hg⟩:=tV hg;cases b with
   |false=>exact go _ (.tup []) σ gU iS (mJ (K:=fun φ=>s7 P M false n ops l φ σ (vQ K)) hg) (.inl ⟨hw,rfl,rfl⟩)
   |true=>
    simp only[bT,fR] at hg;obtain⟨r,σ1,⟨call,hcall,hpure,hop⟩,hg⟩:=mX hg;cases r with
    |val g=>exact go call g σ1 hcall hpure (mJ (K:=fun φ=>s7 P M false n ops l φ σ1 (vQ K)) hg) (.inr ⟨hw,hop⟩)
    |panic g=>exact hg.elim
  ·exact hg.elim
def PL (P:Program) (M:FuncId->Bool) (T:Nat->Option Nat) (Mk:Nat->List Nat) (i:Nat) (o:Oper) (φ:Fr) (σ:GS) (K:GV->GS->Prop):Prop:=
 let V:GRes->GS->Prop:=fun r s=>match r with|.val g=>K g s|.panic _=>False
 match eW M o.op with
 |0=>wS P M o (dA φ) σ V
 |1=>if iX (dA φ) o.op=T i∨T i=some H8 then wS P M o (dA φ) σ V else False
 |2=>if iX (dA φ) o.op=T i then wS P M o (dA φ) σ V else False
 |3=>match iE P (dA φ) o.op,T i with
  |some f,some r=>match σ.objs[r]? with
   |some .free=>if σ.lo<=r then s5 σ r f.2 fun s=>K (f.1 r) s else False
   |_=>False
  |_,_=>False
 |4=>wS P M o (dA φ) (nM (Mk i) σ) fun r s=>match r with|.val g=>K g (pT (Mk i) σ s)|.panic _=>False
 |_=>False
theorem U5 {T:Nat->Option Nat} {Mk:Nat->List Nat} {i:Nat} {o:Oper} {φ:Fr} {σ:GS} {K:GV->GS->Prop} (h:PL P M T Mk i o φ σ K):
  ∃(call:fT) (g:GV) (σ':GS),((∀w0,bZ P w0 call)/\dR M call)/\nK P M call T Mk i o φ σ=some (g,σ')/\K g σ':=by
 unfold PL at h;simp only at h;split at h
 ·rename_i hc;obtain⟨r,σ1,⟨call,hcall,hpu,hop⟩,hk⟩:=mX h;cases r with
  |val g=>exact⟨call,g,σ1,⟨hcall,hpu⟩,by unfold nK;rw[hc];simp only[hop,FV],hk⟩
  |panic g=>exact hk.elim
 ·rename_i hc;split at h
  ·rename_i ht;obtain⟨r,σ1,⟨call,hcall,hpu,hop⟩,hk⟩:=mX h;cases r with
   |val g=>exact⟨call,g,σ1,⟨hcall,hpu⟩,by unfold nK;rw[hc];simp only[aG ht,hop,FV],hk⟩
   |panic g=>exact hk.elim
  ·exact h.elim
 ·rename_i hc;split at h
  ·rename_i ht;obtain⟨r,σ1,⟨call,hcall,hpu,hop⟩,hk⟩:=mX h;cases r with
   |val g=>exact⟨call,g,σ1,⟨hcall,hpu⟩,by unfold nK;rw[hc];simp only[aG ht,hop,FV],hk⟩
   |panic g=>exact hk.elim
  ·exact h.elim
 ·rename_i hc;split at h
  ·rename_i f r hf hT;split at h
   ·rename_i hfree;split at h
    ·rename_i hlo;exact⟨_,_,_,⟨gU,iS⟩,by unfold nK;rw[hc];simp only[hf,hT,hfree,aG hlo],mI (K:=fun s=>K _ s) h⟩
    ·exact h.elim
   ·exact h.elim
  ·exact h.elim
 ·rename_i hc;obtain⟨r,σ1,⟨call,hcall,hpu,hop⟩,hk⟩:=mX h;cases r with
  |val g=>exact⟨call,g,_,⟨hcall,hpu⟩,by unfold nK;rw[hc];simp only[hop,FV],hk⟩
  |panic g=>exact hk.elim
 ·exact h.elim
def KZ (P:Program) (o:Oper) (ρ:Operand->GV) (σ:GS) (K:GV->GS->Prop):Prop:=
 match o.op with
 |.call {callee:=.value f,args,..}=>match ρ f with
  |.fn (.func k) first cap=>if m4 P k then∃g,(∀τ:GS,τ.lo=σ.lo->Fact P (.fn k) (first++args.toList.map ρ++cap) τ (.val g) τ)/\K g σ else False
  |_=>False
 |_=>False
open Classical in
noncomputable def CC (t:Tgt) (args:List GV) (lo:Nat) (g:GV):fT:=fun t' a' s'=>if t'=t/\a'=args/\s'.lo=lo then some (.val g,s') else none
theorem Q3 {o:Oper} {ρ:Operand->GV} {σ:GS} {K:GV->GS->Prop} (h:KZ P o ρ σ K):
  ∃(call:fT) (g:GV),((∀w0,bZ P w0 call)/\dR M call)/\(∀τ:GS,τ.lo=σ.lo->dI P call o ρ τ=some (.val g,τ))/\K g σ:=by
 unfold KZ at h;split at h
 ·rename_i f args ts hop;split at h
  ·rename_i k first cap hf
   split at h
   ·rename_i hk;obtain⟨g,hfact,hK⟩:=h;refine⟨CC (.fn k) (first++args.toList.map ρ++cap) σ.lo g,g,⟨fun w0 t' a' s r' s' hc=>?_,fun k' hk' a' s r' s' hc=>?_⟩,fun τ hτ=>?_,hK⟩
    ·unfold CC at hc;split at hc
     ·rename_i hc1;obtain⟨rfl,rfl,hlo⟩:=hc1;cases hc;exact⟨(hfact _ hlo).keep,(hfact _ hlo).ds,(hfact _ hlo).calls w0⟩
     ·cases hc
    ·unfold CC at hc;split at hc
     ·cases hc;rfl
     ·cases hc
    ·unfold dI;simp only[hop,hf];rw[aG hk];exact aG ⟨rfl,rfl,hτ⟩
   ·exact h.elim
  ·exact h.elim
 ·exact h.elim
def E3 (P:Program) (M:FuncId->Bool) (B:Nat->Bool) (T:Nat->Option Nat) (Mk:Nat->List Nat) (i:Nat) (o:Oper) (φ:Fr) (σ:GS) (K:GV->GS->Prop):Prop:=
 bif B i then KZ P o (dA φ) σ K else PL P M T Mk i o φ σ K
theorem PM {B:Nat->Bool} {T:Nat->Option Nat} {Mk:Nat->List Nat} {i:Nat} {o:Oper} {φ:Fr} {σ:GS} {K:GV->GS->Prop} (h:E3 P M B T Mk i o φ σ K):
  ∃(call:fT) (g:GV) (σ':GS),((∀w0,bZ P w0 call)/\dR M call)/\
   ((B i=false/\nK P M call T Mk i o φ σ=some (g,σ'))∨(B i=true/\σ'=σ/\∀τ:GS,τ.lo=σ.lo->dI P call o (dA φ) τ=some (.val g,τ)))/\K g σ':=by
 unfold E3 at h;cases hb:B i with
 |true=>
  rw[hb] at h;obtain⟨call,g,hc,hf,hk⟩:=Q3 (M:=M) h;exact⟨call,g,σ,hc,.inr ⟨rfl,rfl,hf⟩,hk⟩
 |false=>
  rw[hb] at h;obtain⟨call,g,σ',hc,hs,hk⟩:=U5 h;exact⟨call,g,σ',hc,.inl ⟨rfl,hs⟩,hk⟩
def oC (P:Program) (M:FuncId->Bool) (B:Nat->Bool) (T:Nat->Option Nat) (Mk:Nat->List Nat) (n:Nat) (ops:Array Oper) (l:List Oper):Nat->pY:=
 List.rec (motive:=fun _=>Nat->pY) (fun _ φ σ K=>K .normal φ σ) (fun o _ ih i φ σ K=>
  if(o.dst.all fun d=>Nat.blt d n) then
   BP ops o φ fun b φ=>match b with
   |false=>vS φ o.dst (.tup []) fun φ=>ih (i+1) φ σ K
   |true=>E3 P M B T Mk i o φ σ fun g σ'=>vS φ o.dst g fun φ=>ih (i+1) φ σ' K
  else False) l
theorem KI {B:Nat->Bool} {T:Nat->Option Nat} {Mk:Nat->List Nat} {o:Oper} {l:List Oper} {i:Nat} {φ:Fr} {σ:GS} {K:GX->Fr->GS->Prop}:
  oC P M B T Mk n ops (o::l) i φ σ K=if(o.dst.all fun d=>Nat.blt d n) then
   BP ops o φ fun b φ=>match b with
   |false=>vS φ o.dst (.tup []) fun φ=>oC P M B T Mk n ops l (i+1) φ σ K
   |true=>E3 P M B T Mk i o φ σ fun g σ'=>vS φ o.dst g fun φ=>oC P M B T Mk n ops l (i+1) φ σ' K
  else False:=rfl
theorem yE {B:Nat->Bool} {T:Nat->Option Nat} {Mk:Nat->List Nat} {K:GX->Fr->GS->Prop}:∀(l:List Oper) (k:Nat) (φ:Fr) (σ:GS),(∀j:Nat,l[j]?=ops[k+j]?)->oC P M B T Mk n ops l k φ σ K->
  ∃(call:Nat->fT) (Φ:Nat->Fr) (S:Nat->GS) (G:Nat->GV),(∀i,(∀w0,bZ P w0 (call i))/\dR M (call i))/\Φ k=φ/\S k=σ/\K .normal (Φ (k+l.length)) (S (k+l.length))/\
   ∀(i:Nat) o,k<=i->ops[i]?=some o->(o.dst.all fun d=>decide (d<n))=true/\Φ (i+1)=iF (Φ i) o.dst (G i)/\
    ((cI ops o (Φ i)=some false/\G i=.tup []/\S (i+1)=S i)∨(cI ops o (Φ i)=some true/\B i=false/\nK P M (call i) T Mk i o (Φ i) (S i)=some (G i,S (i+1)))∨
     (cI ops o (Φ i)=some true/\B i=true/\S (i+1)=S i/\∀τ:GS,τ.lo=(S i).lo->dI P (call i) o (dA (Φ i)) τ=some (.val (G i),τ)))
 |[],k,φ,σ,hl,hg=>by
  refine⟨fun _ _ _ _=>none,fun _=>φ,fun _=>σ,fun _=>.any,fun _=>⟨gU,iS⟩,rfl,rfl,hg,fun i o hi ho=>?_⟩;have:=hl (i - k);rw[show k+(i - k)=i by omega,ho] at this;simp at this
 |o::l,k,φ,σ,hl,hg=>by
  have ho:ops[k]?=some o:=by have:=hl 0;simpa using this.symm
  rw[KI] at hg;split at hg
  ·rename_i hd;replace hd:=GQ hd;have go:∀(c0:fT) (g:GV) (σ1:GS),((∀w0,bZ P w0 c0)/\dR M c0)->oC P M B T Mk n ops l (k+1) (iF φ o.dst g) σ1 K->
     ((cI ops o φ=some false/\g=.tup []/\σ1=σ)∨(cI ops o φ=some true/\B k=false/\nK P M c0 T Mk k o φ σ=some (g,σ1))∨(cI ops o φ=some true/\B k=true/\σ1=σ/\∀τ:GS,τ.lo=σ.lo->dI P c0 o (dA φ) τ=some (.val g,τ)))->
     ∃(call:Nat->fT) (Φ:Nat->Fr) (S:Nat->GS) (G:Nat->GV),(∀i,(∀w0,bZ P w0 (call i))/\dR M (call i))/\Φ k=φ/\S k=σ/\K .normal (Φ (k+(o::l).length)) (S (k+(o::l).length))/\
      ∀(i:Nat) o,k<=i->ops[i]?=some o->(o.dst.all fun d=>decide (d<n))=true/\Φ (i+1)=iF (Φ i) o.dst (G i)/\
       ((cI ops o (Φ i)=some false/\G i=.tup []/\S (i+1)=S i)∨(cI ops o (Φ i)=some true/\B i=false/\nK P M (call i) T Mk i o (Φ i) (S i)=some (G i,S (i+1)))∨
     (cI ops o (Φ i)=some true/\B i=true/\S (i+1)=S i/\∀τ:GS,τ.lo=(S i).lo->dI P (call i) o (dA (Φ i)) τ=some (.val (G i),τ))):=by
    intro c0 g σ1 hc0 hrest hstep;obtain⟨call,Φ,S,G,hc,e1,e2,e3,e5⟩:=yE l (k+1) _ σ1 (fun j=>by have:=hl (j+1);rw[show k+1+j=k+(j+1) by omega];simpa using this) hrest;refine⟨fun i=>if i=k then c0 else call i,fun i=>if i=k then φ else Φ i,fun i=>if i=k then σ else S i,fun i=>if i=k then g else G i,fun i=>?_,aG rfl,aG rfl,?_,fun i o' hi ho'=>?_⟩
    ·show(∀w0,bZ P w0 (if i=k then c0 else call i))/\dR M (if i=k then c0 else call i);split
     ·exact hc0
     ·exact hc i
    ·show K .normal (if k+(l.length+1)=k then φ else Φ (k+(l.length+1))) (if k+(l.length+1)=k then σ else S (k+(l.length+1)));rw[aE (by omega),aE (by omega),show k+(l.length+1)=k+1+l.length by omega];exact e3
    ·by_cases hik:i=k
     ·subst hik;rw[ho] at ho';cases ho';simp only[fP,aE (show i+1≠i by omega),e1,e2];exact⟨hd,trivial,hstep⟩
     ·simp only[aE hik,aE (show i+1≠k by omega)];exact e5 i o' (by omega) ho'
   obtain⟨b,hw,hg⟩:=tV hg;cases b with
   |false=>exact go _ (.tup []) σ ⟨gU,iS⟩ (mJ (K:=fun φ=>oC P M B T Mk n ops l (k+1) φ σ K) hg) (.inl ⟨hw,rfl,rfl⟩)
   |true=>
    obtain⟨call,g,σ1,hcall,hop,hg⟩:=PM hg;exact go call g σ1 hcall (mJ (K:=fun φ=>oC P M B T Mk n ops l (k+1) φ σ1 K) hg) (.inr (hop.imp (fun q=>⟨hw,q⟩) fun q=>⟨hw,q⟩))
  ·exact hg.elim
end
def GDef.ren (f:Nat->Nat):GDef->GDef
 |.fn k a c=>.fn k (a.map (GV.ren f)) (c.map (GV.ren f))
 |.coll r=>.coll (f r)
structure Shr (n0:Nat) (φ:Fr) (σ:GS) (φ1:Fr) (σ1:GS):Prop where
 ex:∃ks:List Nat,Lies ks σ1.objs σ.objs/\(∀i,i<n0->ks[i]?=some i)/\σ.ds=σ1.ds.map (GDef.ren (iT ks σ.objs.length))/\∀t,φ t=(φ1 t).ren (iT ks σ.objs.length)∨φ1 t=.any
structure GLoop (f:Fr->GS->(GX->Fr->GS->Prop)->Prop) (φ:Fr) (σ:GS) (K:GX->Fr->GS->Prop):Prop where
 ex:∃(I N:Nat->Fr->GS->Prop) (m:Nat),I m φ σ/\(∀m φ' σ',N m φ' σ'->I m φ' σ'∨∃φ2 σ2,Shr σ.objs.length φ' σ' φ2 σ2/\I m φ2 σ2)/\∀m φ1 σ1,I m φ1 σ1->f φ1 σ1 fun x φ' σ'=>match x with
  |.normal=>∃m',m'<m/\N m' φ' σ'
  |.exit i=>K (.exit i) φ' σ'
  |.ret=>K .ret φ' σ'
  |.panic g=>K (.panic g) φ' σ'
theorem GDefR.pull {D E:Cx} {f:Nat->Nat} (hfx:∀b o v,D.fx b o v->E.fx b o v) (hbk:∀i,E.bk i=D.bk (f i)) (hown:∀i,E.own i=D.own (f i)):∀{g:GDef} {d:Deferred},GDefR D (g.ren f) d->GDefR E g d
 |.fn _ _ _,_,⟨va,vc,e,h1,h2⟩=>⟨va,vc,e,h1.pull hfx hbk hown,h2.pull hfx hbk hown⟩
 |.coll r,_,⟨b,h1,e⟩=>⟨b,(hbk r).trans h1,e⟩
theorem DRel.pull {D E:Cx} {f:Nat->Nat} (hfx:∀b o v,D.fx b o v->E.fx b o v) (hbk:∀i,E.bk i=D.bk (f i)) (hown:∀i,E.own i=D.own (f i)):∀{gs:List GDef} {ds:List Deferred},DRel D (gs.map (GDef.ren f)) ds->DRel E gs ds
 |[],[],_=>trivial
 |_::_,_::_,⟨h1,h2⟩=>⟨h1.pull hfx hbk hown,DRel.pull hfx hbk hown h2⟩
 |[],_::_,h=>h.elim
 |_::_,[],h=>h.elim
theorem Shr.rel {C D:Cx} {w0 w wc:World} {σ0 σ σ1:GS} {φ φ1:Fr} {a:Act} (h:Shr σ0.objs.length φ σ φ1 σ1) (hc:Rel C σ0 w0 wc) (hl:C.le D) (hr:Rel D σ w0 w) (hf:FRel D φ a) (hd:DRel D σ.ds a.defers):
  ∃E:Cx,C.le E/\Rel E σ1 w0 w/\FRel E φ1 a/\DRel E σ1.ds a.defers:=by
 obtain⟨ks,hlies,hpre,hds,hφ⟩:=h.ex;have atb:∀i,i<σ0.objs.length->iT ks σ.objs.length i=i:=fun i hi=>by
  have h3:=hpre i hi;obtain⟨h4,h5⟩:=List.getElem?_eq_some_iff.1 h3;rw[kF h4,h5]
 have hp:=hr.pull hlies;refine⟨D.pull (iT ks σ.objs.length),⟨hl.fx,fun i b hb'=>?_,fun i I hI=>?_,hl.hd,hl.fix⟩,⟨hp.below,hp.fxc,hp.obj,hp.dom,hp.new,hp.inj,hp.sepB,hp.sepO,hp.fxn,hp.gl,hp.gs⟩,fun t=>?_,?_⟩
 ·have hi:i<σ0.objs.length:=by
   rcases dX i σ0.objs.length with h4|h4
   ·exact h4
   ·rw[(hc.dom i h4).1] at hb';cases hb'
  show D.bk (iT ks σ.objs.length i)=some b;rw[atb i hi];exact hl.bk i b hb'
 ·have hi:i<σ0.objs.length:=by
   rcases dX i σ0.objs.length with h4|h4
   ·exact h4
   ·rw[(hc.dom i h4).2] at hI;cases hI
  show∃J,D.own (iT ks σ.objs.length i)=some J/\_;rw[atb i hi];exact hl.own i I hI
 ·rcases hφ t with e|e
  ·have:=hf t;rw[e] at this;exact this.pull (D:=D) (f:=iT ks σ.objs.length) (E:=D.pull (iT ks σ.objs.length)) (fun _ _ _ h=>h) (fun _=>rfl) (fun _=>rfl) rfl
  ·rw[e];exact .any _
 ·rw[hds] at hd;exact hd.pull (D:=D) (f:=iT ks σ.objs.length) (E:=D.pull (iT ks σ.objs.length)) (fun _ _ _ h=>h) (fun _=>rfl) (fun _=>rfl)
def ZV:fT:=fun _ _ _=>none
def a2c (P:Program) (M:FuncId->Bool) (ops:Array Oper) (op:Oper) (φ:Fr) (σ:GS) (K:GV->GS->Prop):Prop:=
 BP ops op φ fun b φ=>match b with
 |true=>wS P M op (dA φ) σ fun r σ'=>match r with
  |.panic g=>K g σ'
  |.val _=>False
 |false=>False
structure GDraw (P:Program) (M:FuncId->Bool) (n:Nat) (ops:Array Oper) (φ:Fr) (σ:GS) (K:GX->Fr->GS->Prop):Prop where
 ex:(calm M ops=true/\s7 P M false n ops ops.toList φ σ (vQ K))∨
  (∃(B:Nat->Bool) (A:List (List Nat)) (TL:List (Option Nat)) (k:Nat),A=pH ops.toList []/\k=(ops.toList.filter fun o=>eW M o.op==3).length/\
   rT M B ops A TL (σ.objs++List.replicate k GObj.free).length=true/\
   oC P M B (fun i=>TL.getD i none) (nI M ops A TL) n ops ops.toList 0 φ {σ with objs:=σ.objs++List.replicate k .free} K)∨
  (∃p op,ops[p]?=some op/\yI P M n ops p=true/\s7 P M false n ops (ops.toList.take p) φ σ (vQ fun _ φ1 σ1=>a2c P M ops op φ1 σ1 fun g σ'=>K (.panic g) (X7 ops φ) σ'))
theorem GDraw.pan {P:Program} {M:FuncId->Bool} {n:Nat} {ops:Array Oper} {φ:Fr} {σ:GS} {K:GX->Fr->GS->Prop} (p:Nat) (op:Oper) (ho:ops[p]?=some op) (h:yI P M n ops p=true)
  (g:s7 P M false n ops (ops.toList.take p) φ σ (vQ fun _ φ1 σ1=>a2c P M ops op φ1 σ1 fun g σ'=>K (.panic g) (X7 ops φ) σ')):GDraw P M n ops φ σ K:=⟨.inr (.inr ⟨p,op,ho,h,g⟩)⟩
theorem GDraw.calm {P:Program} {M:FuncId->Bool} {n:Nat} {ops:Array Oper} {φ:Fr} {σ:GS} {K:GX->Fr->GS->Prop} (h:Go.Proofs.YtcfgfkkhpdlhpaaGreatDoor.calm M ops=true) (k:s7 P M false n ops ops.toList φ σ (vQ K)):GDraw P M n ops φ σ K:=⟨.inl ⟨h,k⟩⟩
def b9:=@GDraw.calm
theorem GDraw.wild {P:Program} {M:FuncId->Bool} {n:Nat} {ops:Array Oper} {φ:Fr} {σ:GS} {K:GX->Fr->GS->Prop} (A:List (List Nat)) (TL:List (Option Nat)) (k:Nat) (hA:pH ops.toList []=A) (hT:rE P M ZV H8 σ ops.toList σ.objs.length φ=TL)
  (hk:(ops.toList.filter fun o=>eW M o.op==3).length=k) (h:Go.Proofs.YtcfgfkkhpdlhpaaGreatDoor.wild M ops A TL (σ.objs++List.replicate k GObj.free).length=true)
  (g:oC P M (fun _=>false) (fun i=>TL.getD i none) (nI M ops A TL) n ops ops.toList 0 φ {σ with objs:=σ.objs++List.replicate k .free} K):GDraw P M n ops φ σ K:=⟨.inr (.inl ⟨_,A,TL,k,hA.symm,hk.symm,h,g⟩)⟩
theorem GDraw.wildT {P:Program} {M:FuncId->Bool} {n:Nat} {ops:Array Oper} {φ:Fr} {σ:GS} {K:GX->Fr->GS->Prop} (TL:List (Option Nat)) {A:List (List Nat)} {k:Nat} (hA:pH ops.toList []=A)
  (hk:(ops.toList.filter fun o=>eW M o.op==3).length=k) (h:Go.Proofs.YtcfgfkkhpdlhpaaGreatDoor.wild M ops A TL (σ.objs++List.replicate k GObj.free).length=true)
  (g:oC P M (fun _=>false) (fun i=>TL.getD i none) (nI M ops A TL) n ops ops.toList 0 φ {σ with objs:=σ.objs++List.replicate k .free} K):GDraw P M n ops φ σ K:=⟨.inr (.inl ⟨_,A,TL,k,hA.symm,hk.symm,h,g⟩)⟩
def KN (P:Program) (M:FuncId->Bool) (ro:Option Nat) (n:Nat) (ops:Array Oper) (draw:Bool):pY:=fun φ σ K=>
 match draw with
 |true=>GDraw P M n ops φ σ K
 |false=>v8 P (fun _=>false) ro.isNone n ops ops.toList φ σ K
def a1w (a b:pY):pY:=fun φ σ K=>a φ σ fun x φ' σ'=>match x with
 |.normal=>b φ' σ' K
 |.exit i=>K (.exit i) φ' σ'
 |.ret=>K .ret φ' σ'
 |.panic g=>K (.panic g) φ' σ'
def XQ (c:Operand) (a b:pY):pY:=fun φ σ K=>PZ φ c fun t φ=>match t with
 |true=>a φ σ K
 |false=>b φ σ K
def Q2 (id:Nat) (c:pY):pY:=fun φ σ K=>c φ σ fun x φ' σ'=>match x with
 |.exit i=>Bool.rec (motive:=fun _=>Prop) (K (.exit i) φ' σ') (K .normal φ' σ') (Nat.beq i id)
 |.normal=>K .normal φ' σ'
 |.ret=>K .ret φ' σ'
 |.panic g=>K (.panic g) φ' σ'
def PP (P:Program) (ro:Option Nat) (n:Nat) (f:Operand) (ps:Array Tmp) (asg body:Code):pY:=fun φ σ K=>
 match dA φ f with
 |.fn (.func k) first cap=>
  if m4 P k then
   match BZ ro σ with
   |some (rd,σ1)=>∃r σ2,Fact P (.fn k) (first++.yld σ1.objs.length::cap) (gnew σ1 (.loop .ready none n φ ps asg body rd)) r σ2/\
    match r with
    |.val _=>tW (tY σ1.objs.length φ σ2) fun q=>K q.1 q.2.1 q.2.2
    |.panic g=>K (.panic g) φ σ2
   |none=>False
  else False
 |_=>False
def PI (P:Program) (M:FuncId->Bool) (ro:Option Nat) (n:Nat) (c:Code):pY:=
 Code.rec (motive:=fun _=>pY)
  (fun φ σ K=>K .normal φ σ)
  (fun _ ops draw=>KN P M ro n ops draw)
  (fun _ _ a b=>a1w a b)
  (fun c _ _ a b=>XQ c a b)
  (fun id _ c=>Q2 id c)
  (fun _ c=>GLoop c)
  (fun f ps asg body _ _=>PP P ro n f ps asg body)
  (fun id φ σ K=>K (.exit id) φ σ)
  (fun _ _ _ _ _=>False)
  (fun _ φ σ K=>K .normal φ σ)
  (fun _ _ _ _=>False)
  (fun φ σ K=>K .ret φ σ)
  (fun _ _ _ _=>False)
  c
section
variable {P : Program} {M : FuncId → Bool} {w0 : World} {n : Nat} {ro : Option Nat}
theorem xO (hm:P.follows .mixedOrders=true):∀(c:Code) (Q:Exit->Act->World->Prop) (K:GX->Fr->GS->Prop) (C:Cx) (rb:Option Nat) (φ:Fr) (σ:GS) (a:Act) (w:World),
  PI P M ro n c φ σ K->RoR C ro rb->Rel C σ w0 w->FRel C φ a->a.tmps.size=n->DRel C σ.ds a.defers->(∀x φ' σ',K x φ' σ'->QOk w0 C Q n x φ' σ')->c.wpIn (FW rb) 0 P Q a w:=by
 intro c;induction c with
 |skip=>intro Q K C rb φ σ a w h ho hr hf hn hd hq;exact wpIn_skip (hq _ _ _ h C a w (.refl C) hf hn hd hr)
 |label l=>intro Q K C rb φ σ a w h ho hr hf hn hd hq;exact wpIn_label (hq _ _ _ h C a w (.refl C) hf hn hd hr)
 |exit id=>intro Q K C rb φ σ a w h ho hr hf hn hd hq;exact wpIn_exit (hq _ _ _ h C a w (.refl C) hf hn hd hr)
 |ret=>intro Q K C rb φ σ a w h ho hr hf hn hd hq;exact wpIn_ret (hq _ _ _ h C a w (.refl C) hf hn hd hr)
 |region id ops draw=>
  intro Q K C rb φ σ a w h ho hr hf hn hd hq;replace h:KN P M ro n ops draw φ σ K:=h;unfold KN at h;cases draw with
  |true=>
   rcases h.ex with⟨hcalm,h⟩|⟨B,A,TL,k,rfl,rfl,hwild,h⟩|⟨p,op,hop,hcp,h⟩
   ·obtain⟨call,Φ,S,G,hc,hp,e1,e2,e3,e5⟩:=D0 ops.toList 0 φ σ (fun j=>by simp) h;rw[bB,bJ] at e3;exact GR hm (fun i=>hc i w0) hp hcalm (⟨fun i o ho=>e5 i o (zL _) ho⟩:Trace P call n ops Φ S G) e1 e2 rfl rfl hr hf hn hd (hq _ _ _ e3)
   ·obtain⟨call,Φ,S,G,hc,e1,e2,e3,e5⟩:=yE ops.toList 0 φ _ (fun j=>by simp) h;rw[bB,bJ] at e3;exact D6 (B:=B) (call:=call) hm (fun i=>(hc i).1 w0) (fun i=>(hc i).2) rfl hwild ⟨fun i o ho=>e5 i o (zL _) ho⟩ e1 e2 rfl rfl rfl (hr.frees _) hf hn hd (hq _ _ _ e3)
   ·have hps:p<ops.size:=(Array.getElem?_eq_some_iff.1 hop).1;have hlen:(ops.toList.take p).length=p:=by simp;omega
    obtain⟨call,Φ,S,G,hc,hp,e1,e2,e3,e5⟩:=AF (ops.toList.take p) 0 φ σ (fun j hj=>by rw[hlen] at hj;rw[dJ,aG hj];simp) h;rw[bB,hlen] at e3;obtain⟨b,hw,e3⟩:=tV e3;cases b with
    |false=>exact e3.elim
    |true=>
     obtain⟨r,σ',⟨cp,hcp1,hcp2,hop'⟩,hk⟩:=mX e3;cases r with
     |val g=>exact hk.elim
     |panic g=>
      refine D5 (call:=fun i=>if i=p then cp else call i) (Φ:=Φ) (S:=S) (G:=G) hm (fun i=>?_) (fun i=>?_) hcp hop (fun i o hi ho=>?_) hw (by rw[aG rfl];exact hop') e1 e2 hr hf hn hd (hq _ _ _ hk)
      ·show bZ P w0 (if i=p then cp else call i);split
       ·exact hcp1 w0
       ·exact hc i w0
      ·show dR M (if i=p then cp else call i);split
       ·exact hcp2
       ·exact hp i
      ·rw[aE (show i≠p by omega)];exact e5 i o (zL _) (by rw[hlen];omega) ho
  |false=>exact wpIn_region_list (yF (fun e=>ho.none_of e) _ C φ σ a w (by simpa using h) hr hf hn hd hq)
 |seq c1 c2 ih1 ih2=>
  intro Q K C rb φ σ a w h ho hr hf hn hd hq;replace h:a1w (PI P M ro n c1) (PI P M ro n c2) φ σ K:=h;unfold a1w at h;refine wpIn_seq (ih1 _ _ C rb φ σ a w h ho hr hf hn hd (fun x φ' σ' hk D a1 w1 hl hf1 hn1 hd1 hr1=>?_));cases x with
  |normal=>exact ih2 Q K D rb φ' σ' a1 w1 hk (ho.mono hl) hr1 hf1 hn1 hd1 (fun x φ' σ' hk=>(hq x φ' σ' hk).mono hl)
  |exit id=>exact hq _ _ _ hk D a1 w1 hl hf1 hn1 hd1 hr1
  |ret=>exact hq _ _ _ hk D a1 w1 hl hf1 hn1 hd1 hr1
  |panic g=>exact hq _ _ _ hk D a1 w1 hl hf1 hn1 hd1 hr1
 |cond c c1 c2 ih1 ih2=>
  intro Q K C rb φ σ a w h ho hr hf hn hd hq;replace h:XQ c (PI P M ro n c1) (PI P M ro n c2) φ σ K:=h;unfold XQ at h;obtain⟨t,ht,h⟩:=UB h;have hv:=dQ hf c;rw[ht] at hv;generalize hu:a.eval c=u at hv;cases hv;refine wpIn_cond hu ?_;cases t with
  |true=>exact ih1 Q K C rb φ σ a w h ho hr hf hn hd hq
  |false=>exact ih2 Q K C rb φ σ a w h ho hr hf hn hd hq
 |block id c ih=>
  intro Q K C rb φ σ a w h ho hr hf hn hd hq;replace h:Q2 id (PI P M ro n c) φ σ K:=h;unfold Q2 at h;refine wpIn_block (ih _ _ C rb φ σ a w h ho hr hf hn hd (fun x φ' σ' hk D a1 w1 hl hf1 hn1 hd1 hr1=>?_));cases x with
  |normal=>exact hq _ _ _ hk D a1 w1 hl hf1 hn1 hd1 hr1
  |exit i=>
   show if i=id then Q .normal a1 w1 else Q (.exit i) a1 w1;have hk':Bool.rec (motive:=fun _=>Prop) (K (.exit i) φ' σ') (K .normal φ' σ') (Nat.beq i id):=hk;split
   ·rename_i hi;subst hi;rw[Nat.beq_refl] at hk';exact hq _ _ _ hk' D a1 w1 hl hf1 hn1 hd1 hr1
   ·rename_i hi;cases hb:Nat.beq i id with
    |true=>exact absurd (Nat.eq_of_beq_eq_true hb) hi
    |false=>
     rw[hb] at hk';exact hq _ _ _ hk' D a1 w1 hl hf1 hn1 hd1 hr1
  |ret=>exact hq _ _ _ hk D a1 w1 hl hf1 hn1 hd1 hr1
  |panic g=>exact hq _ _ _ hk D a1 w1 hl hf1 hn1 hd1 hr1
 |loop c ih=>
  intro Q K C rb φ σ a w h ho hr hf hn hd hq;replace h:GLoop (PI P M ro n c) φ σ K:=h;obtain⟨I,N,m,hI,hN,hstep⟩:=h.ex;refine sW (m+1) ?_;have key:∀(k m:Nat) (D:Cx) (φ1:Fr) (σ1:GS) (a:Act) (w:World),m<k->I m φ1 σ1->C.le D->Rel D σ1 w0 w->FRel D φ1 a->a.tmps.size=n->
    DRel D σ1.ds a.defers->qV (FW rb) 0 P c Q k a w:=by
   intro k;induction k with
   |zero=>intro m D φ1 σ1 a w hm;omega
   |succ k ihk=>
    intro m D φ1 σ1 a w hm hI hCD hr1 hf1 hn1 hd1;unfold qV;refine ih _ _ D rb φ1 σ1 a w (hstep m φ1 σ1 hI) (ho.mono hCD) hr1 hf1 hn1 hd1 (fun x φ' σ' hk D1 a1 w1 hl hf2 hn2 hd2 hr2=>?_);cases x with
    |normal=>
     obtain⟨m',hm',hk⟩:=hk;rcases hN _ _ _ hk with hI'|⟨φ2,σ2,hs,hI'⟩
     ·exact ihk m' D1 φ' σ' a1 w1 (by omega) hI' (hCD.trans hl) hr2 hf2 hn2 hd2
     ·obtain⟨E,hE,hrE,hfE,hdE⟩:=hs.rel hr (hCD.trans hl) hr2 hf2 hd2;exact ihk m' E φ2 σ2 a1 w1 (by omega) hI' hE hrE hfE hn2 hdE
    |exit id=>exact hq _ _ _ hk D1 a1 w1 (hCD.trans hl) hf2 hn2 hd2 hr2
    |ret=>exact hq _ _ _ hk D1 a1 w1 (hCD.trans hl) hf2 hn2 hd2 hr2
    |panic g=>exact hq _ _ _ hk D1 a1 w1 (hCD.trans hl) hf2 hn2 hd2 hr2
  exact key (m+1) m C φ σ a w (by omega) hI (.refl C) hr hf hn hd
 |rangeFunc f ps asg body iha ihb=>
  intro Q K C rb φ σ a w h ho hr hf hn hd hq;replace h:PP P ro n f ps asg body φ σ K:=h;unfold PP at h;split at h
  ·rename_i k first cap hfv
   split at h
   ·rename_i hk;split at h
    ·rename_i rd σ1 hent;obtain⟨r,σ2,hfact,h⟩:=h;cases r with
     |val g=>
      obtain⟨⟨x,φ',σ'⟩,he,h⟩:=lO h;refine n5 (call:=rU _ _ _ _ _) (M:=fun _=>false) (m:=0) hm (sF hfact w0) (fun _ hk=>by cases hk) (.rangeFunc f ps asg body) Q C rb φ φ' σ σ' x a w ?_ ho hr hf hn hd (hq _ _ _ h);simp only[gZ,hfv,hent];rw[aG hk];simp only[yM,he]
     |panic g=>
      refine n5 (call:=rU _ _ _ _ _) (M:=fun _=>false) (m:=0) hm (sF hfact w0) (fun _ hk=>by cases hk) (.rangeFunc f ps asg body) Q C rb φ φ σ σ2 (.panic g) a w ?_ ho hr hf hn hd (hq _ _ _ h);simp only[gZ,hfv,hent];rw[aG hk];simp only[yM]
    ·exact h.elim
   ·exact h.elim
  ·exact h.elim
 |_=>intro Q K C rb φ σ a w h;exact h.elim
end
def XW (P:Program) (fn:Func) (R:GRes->GS->Prop):GX->Fr->GS->Prop
 |.normal,φ,σ=>tW (kZ P (fun _=>false) (fun _ _ _=>none) 50 fn φ σ.ds .ret σ) fun q=>R q.1 q.2
 |.ret,φ,σ=>tW (kZ P (fun _=>false) (fun _ _ _=>none) 50 fn φ σ.ds .ret σ) fun q=>R q.1 q.2
 |.panic g,φ,σ=>tW (kZ P (fun _=>false) (fun _ _ _=>none) 50 fn φ σ.ds (.pan g) σ) fun q=>R q.1 q.2
 |.exit _,_,_=>False
def WkRes:GRes->GRes->Prop
 |.val g,.val h=>Wk g h
 |.panic g,.panic h=>Wk g h
 |_,_=>False
theorem WkRes.erel {C:Cx} {r r':GRes} {e:Ending} (h:WkRes r r') (he:ERel C r e):ERel C r' e:=by
 cases r<;>cases r'<;>first|exact h.elim|skip
 ·obtain⟨v,e1,h1⟩:=he;exact⟨v,e1,h C v h1⟩
 ·obtain⟨v,e1,h1⟩:=he;exact⟨v,e1,h C v h1⟩
theorem WkRes.refl:∀r:GRes,WkRes r r
 |.val g=>cY g
 |.panic g=>cY g
structure Owes (s:List GObj) (r:GRes) (s':List GObj) (r0:GRes) (σ0:GS):Prop where
 ex:∃ks:List Nat,Lies ks s' σ0.objs/\(∀i,i<s.length->ks[i]?=some i)/\WkRes r0 (r.ren (iT ks σ0.objs.length))
def GObj.notHeld:GObj->Bool
 |.held=>false
 |_=>true
theorem SC.of_gwp {P:Program} (M:FuncId->Bool) (hm:P.follows .mixedOrders=true) {k:FuncId} {fn:Func} {c:Code} (hfn:P.funcs[k]?=some fn) (hb:fn.body=some c) {args:List GV} {s s':List GObj} {r:GRes}
  (hlen:args.length<=fn.ntmps) (hs:s.length<=s'.length) (hh0:s'.all GObj.notHeld=true) (h:PI P M none fn.ntmps c (nS args) ⟨s,0,[]⟩ (XW P fn (Owes s r s'))):SC P k args s r s':=by
 have hh:∀x∈s',x≠ .held:=fun x hx e=>by subst e;have:=List.all_eq_true.1 hh0 _ hx;cases this
 refine⟨hs,fun C w vs hr hv=>?_,hh⟩;obtain⟨h1,h2⟩:=uZ (fn:=fn) hlen hv;have fin:∀(φ':Fr) (σ1:GS) (u:GMode) (D:Cx) (a':Act) (w':World) (um:FrameMode),tW (kZ P (fun _=>false) (fun _ _ _=>none) 50 fn φ' σ1.ds u σ1) (fun q=>Owes s r s' q.1 q.2)->
   C.le D->FRel D φ' a'->DRel D σ1.ds a'.defers->Rel D σ1 w w'->MRel D u um->oE P fn a'.tmps (fun e w'=>∃D,C.le D/\Rel D ⟨s',0,[]⟩ w w'/\ERel D r e) a'.defers um w':=by
  intro φ' σ1 u D a' w' um hk hl hf' hd' hr' hmr;obtain⟨⟨r0,σ2⟩,hlv,⟨ks,hlies,hpre,hwk⟩⟩:=lO hk;refine(pW (tmps:=a'.tmps) (w0:=w) hm (gU w) iS _ _ _ hlv).2 D w' a'.defers um hr' hf' hd' hmr (fun E e w'' hE hrE he=>?_);refine⟨E.pull (iT ks σ2.objs.length),?_,hrE.pull hlies,?_⟩
  ·have hlE:=hl.trans hE;have atb:∀i,i<s.length->iT ks σ2.objs.length i=i:=fun i hi=>by
    have h3:=hpre i hi;obtain⟨h4,h5⟩:=List.getElem?_eq_some_iff.1 h3;rw[kF h4,h5]
   refine⟨hlE.fx,fun i b hb'=>?_,fun i I hI=>?_,?_,hlE.fix⟩
   ·have hi:i<s.length:=by
     rcases dX i s.length with h4|h4
     ·exact h4
     ·rw[(hr.dom i h4).1] at hb';cases hb'
    show E.bk (iT ks σ2.objs.length i)=some b;rw[atb i hi];exact hlE.bk i b hb'
   ·have hi:i<s.length:=by
     rcases dX i s.length with h4|h4
     ·exact h4
     ·rw[(hr.dom i h4).2] at hI;cases hI
    show∃J,E.own (iT ks σ2.objs.length i)=some J/\_;rw[atb i hi];exact hlE.own i I hI
   ·exact hlE.hd
  ·exact(hwk.erel he).pull (D:=E) (f:=iT ks σ2.objs.length) (E:=E.pull (iT ks σ2.objs.length)) (fun _ _ _ h=>h) (fun _=>rfl) (fun _=>rfl)
 refine vI hfn hb (wpIn_wide (n:=0).1 (xO (w0:=w) (ro:=none) (n:=fn.ntmps) hm c _ _ C none _ _ _ w h trivial hr h1 h2 trivial (fun x φ' σ1 hk D a' w' hl hf' hn' hd' hr'=>?_)));cases x with
 |normal=>exact fin φ' σ1 .ret D a' w' .returning hk hl hf' hd' hr' rfl
 |ret=>exact fin φ' σ1 .ret D a' w' .returning hk hl hf' hd' hr' rfl
 |exit id=>exact hk.elim
 |panic g=>exact fun v hv=>fin φ' σ1 (.pan g) D a' w' (.panicking [{v,recovered:=false}]) hk hl hf' hd' hr' ⟨v,rfl,hv⟩
def cH:=@SC.of_gwp
