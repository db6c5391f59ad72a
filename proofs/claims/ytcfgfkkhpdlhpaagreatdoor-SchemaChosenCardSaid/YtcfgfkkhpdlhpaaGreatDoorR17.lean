/-
  A part of the proof of SchemaChosen.
-/
import Derived.Test.YtcfgfkkhpdlhpaaGreatDoorR16
set_option linter.all false
namespace Go.Proofs.YtcfgfkkhpdlhpaaGreatDoor
open Go.RowKit
variable [Globals]
def GIf (c:Bool) (A B:Prop):Prop:=Bool.rec (motive:=fun _=>Prop) B A c
theorem GIf.mk {c:Bool} {A B:Prop} (yes:c=true->A) (no:c=false->B):GIf c A B:=by
 cases c with
 |true=>exact yes rfl
 |false=>exact no rfl
def aF:=@GIf.mk
theorem GIf.yes {c:Bool} {A B:Prop} (h:GIf c A B) (hc:c=true):A:=by subst hc;exact h
theorem GIf.no {c:Bool} {A B:Prop} (h:GIf c A B) (hc:c=false):B:=by subst hc;exact h
structure GNeed (c A:Prop):Prop where
 need:c
 next:A
def tM {α:Type} (x:Option α) (K:α->Prop):Prop:=
 match x with
 |some a=>K a
 |none=>False
theorem l8 {α:Type} {x:Option α} {K:α->Prop} (h:tM x K):∃a,x=some a/\K a:=by
 cases x with
 |none=>exact h.elim
 |some a=>exact⟨a,rfl,h⟩
def BP {α:Type} (l:List α):(List α->Prop)->Prop:=
 List.rec (motive:=fun _=>(List α->Prop)->Prop) (fun K=>K []) (fun x _ ih K=>ih fun ys=>K (x::ys)) l
theorem xC {α:Type}:∀{l:List α} {K:List α->Prop},BP l K->K l:=by
 intro l;induction l with
 |nil=>exact fun h=>h
 |cons x xs ih=>exact fun h=>ih h
def rV (σ:GS) (r:Nat) (x:GObj) (K:GS->Prop):Prop:=BP (σ.objs.set r x) fun l=>K ⟨l,σ.lo,σ.ds⟩
theorem m8 {σ:GS} {r:Nat} {x:GObj} {K:GS->Prop} (h:rV σ r x K):K (gset σ r x):=xC (K:=fun l=>K ⟨l,σ.lo,σ.ds⟩) h
def FT (σ:GS) (x:GObj) (K:GS->Prop):Prop:=BP (σ.objs++[x]) fun l=>K ⟨l,σ.lo,σ.ds⟩
theorem tN {σ:GS} {x:GObj} {K:GS->Prop} (h:FT σ x K):K (gnew σ x):=xC (K:=fun l=>K ⟨l,σ.lo,σ.ds⟩) h
def R1 (g:GV) (K:GV->Prop):Prop:=
 match g with
 |.b x=>K (.b x)
 |.i k n=>K (.i k n)
 |.s l=>K (.s l)
 |.o v=>K (.o v)
 |.agg cs=>K (.agg cs)
 |.tup cs=>K (.tup cs)
 |.ifc t v=>K (.ifc t v)
 |.fn f a c=>K (.fn f a c)
 |.sl k xs=>K (.sl k xs)
 |.ptr r off=>K (.ptr r off)
 |.snap cs off=>K (.snap cs off)
 |.mp r=>K (.mp r)
 |.rs r off e n c=>K (.rs r off e n c)
 |.glb g off=>K (.glb g off)
 |.yld r=>K (.yld r)
 |.dat r cs=>K (.dat r cs)
 |.any=>K .any
theorem PB {g:GV} {K:GV->Prop} (h:R1 g K):K g:=by cases g<;>exact h
noncomputable def U1 (φ:Fr) (d:Nat) (g:GV):Fr:=fun t=>Bool.rec (motive:=fun _=>GV) (φ t) g (Nat.beq t d)
theorem wN (φ:Fr) (d:Nat) (g:GV):U1 φ d g=GB φ d g:=by
 funext t;show Bool.rec (motive:=fun _=>GV) (φ t) g (Nat.beq t d)=if t=d then g else φ t;by_cases h:t=d
 ·subst h;rw[aG rfl,Nat.beq_refl]
 ·rw[aD h];cases hb:Nat.beq t d with
  |false=>rfl
  |true=>exact absurd (Nat.eq_of_beq_eq_true hb) h
def vI (φ:Fr) (d:Option Tmp) (g:GV) (K:Fr->Prop):Prop:=
 match d with
 |some d=>R1 g fun g=>K (U1 φ d g)
 |none=>K φ
theorem m9 {φ:Fr} {d:Option Tmp} {g:GV} {K:Fr->Prop} (h:vI φ d g K):K (i6 φ d g):=by
 cases d with
 |none=>exact h
 |some d=>rw[show i6 φ (some d) g=GB φ d g from rfl,<-wN];exact PB (K:=fun g=>K (U1 φ d g)) h
def xE (x:Option GV) (dflt:Nat) (K:Nat->Prop):Prop:=
 match x with
 |none=>K dflt
 |some (.i _ n)=>GNeed (0<=n) (K n.toNat)
 |_=>False
theorem uY {x:Option GV} {d:Nat} {K:Nat->Prop} (h:xE x d K):∃a,mH x d=some a/\K a:=by
 unfold xE at h;unfold mH;split at h
 ·exact⟨d,rfl,h⟩
 ·rename_i k n;exact⟨_,aG h.need,h.next⟩
 ·exact h.elim
def JY (P:Program) (t:TypeId) (x:GV) (lo hi mx:Option GV) (K:GV->Prop):Prop:=
 match x with
 |.s l=>if gO P t=some 1&&mx.isNone then xE lo 0 fun a=>xE hi l.length fun b=>GNeed (a<=b/\b<=l.length) (∃r,r=(l.drop a).take (b - a)/\K (.s r)) else False
 |.sl k xs=>
  match mD P t with
  |some e=>match gD P e with
   |some size=>GNeed (xs.all (fun x=>x.cells.length==size)=true) <|
    xE lo 0 fun a=>xE hi xs.length fun b=>GNeed (a<=b/\b<=xs.length) <| ∃ys,ys=(xs.drop a).take (b - a)/\
     match mx with
     |none=>∃k',k'=(if a=0&&b=xs.length then k else if k=.full&&b=xs.length&&a<b then .full else .none)/\K (.sl k' ys)
     |some m=>GNeed (hi.isSome=true/\mH (some m) 0=some b) (K (.sl (if a<b then .full else .none) ys))
   |none=>False
  |none=>False
 |x=>tM (sH P t x lo hi mx) K
theorem P1 {P:Program} {t:TypeId} {x:GV} {lo hi mx:Option GV} {K:GV->Prop} (h:JY P t x lo hi mx K):∃g,sH P t x lo hi mx=some g/\K g:=by
 unfold JY at h;split at h
 ·rename_i l;split at h
  ·rename_i hc;obtain⟨a,ha,h⟩:=uY h;obtain⟨b,hb,h⟩:=uY h;obtain⟨hab,r,rfl,h⟩:=h;refine⟨_,?_,h⟩;simp only[sH,hc,ha,hb,fK];rw[aG (by simpa using hab)]
  ·exact h.elim
 ·rename_i k xs;split at h
  ·rename_i e he;split at h
   ·rename_i size hs;have hall:=h.need;obtain⟨a,ha,h⟩:=uY h.next;obtain⟨b,hb,h⟩:=uY h;have hab:(decide (a<=b)&&decide (b<=xs.length))=true:=by simpa using h.need
    obtain⟨ys,rfl,h⟩:=h.next;split at h
    ·obtain⟨k',rfl,h⟩:=h;refine⟨_,?_,h⟩;simp only[sH,he,hs,hall,fK,ha,hb,hab]
    ·rename_i m;refine⟨_,?_,h.next⟩;simp only[sH,he,hs,hall,fK,ha,hb,hab];rw[aG (by simpa using h.need)]
   ·exact h.elim
  ·exact h.elim
 ·exact l8 h
def K3 (P:Program) (t:TypeId) (x ix:GV) (K:GV->Prop):Prop:=
 match x,ix with
 |.s l,.i _ n=>if gO P t=some 1 then GNeed (0<=n) (∃b,l[n.toNat]?=some b/\K (.i .u8 b.toNat)) else False
 |x,ix=>tM (BS P t x ix) K
theorem PA {P:Program} {t:TypeId} {x ix:GV} {K:GV->Prop} (h:K3 P t x ix K):∃g,BS P t x ix=some g/\K g:=by
 unfold K3 at h;split at h
 ·split at h
  ·rename_i hk;obtain⟨h0,b,hb,h1⟩:=h;refine⟨_,?_,h1⟩;simp only[BS,aG h0,aG hk,hb];rfl
  ·exact h.elim
 ·exact l8 h
def wE (P:Program) (t:TypeId) (x ix:GV) (K:GV->Prop):Prop:=
 match x,ix with
 |.sl _ xs,.i _ n=>match mD P t with
  |some e=>match gD P e with
   |some size=>GNeed (0<=n) (∃y,xs[n.toNat]?=some y/\GNeed (y.cells.length=size) (K (.snap y.cells 0)))
   |none=>False
  |none=>False
 |.ptr r off,.i _ n=>match DF P t with
  |some (len,e)=>match gD P e with
   |some size=>GNeed (0<=n/\n<len) (K (.ptr r (off+n.toNat*size)))
   |none=>False
  |none=>False
 |.snap cs off,.i _ n=>match DF P t with
  |some (len,e)=>match gD P e with
   |some size=>GNeed (0<=n/\n<len) (K (.snap cs (off+n.toNat*size)))
   |none=>False
  |none=>False
 |.glb g off,.i _ n=>match DF P t with
  |some (len,e)=>match gD P e with
   |some size=>GNeed (0<=n/\n<len) (K (.glb g (off+n.toNat*size)))
   |none=>False
  |none=>False
 |.rs r off esz m _,.i _ n=>match mD P t with
  |some e=>match gD P e with
   |some size=>GNeed (0<=n/\(esz=size/\n<(m:Int))) (K (.rs r (off+n.toNat*esz) 0 0 0))
   |none=>False
  |none=>False
 |_,_=>False
theorem FY {P : Program} {t : TypeId} {x ix : GV} {K : GV → Prop} (h : wE P t x ix K) : ∃ g, nG P t x ix = some g ∧ K g := by
  unfold wE at h;split at h
  · split at h
    · rename_i e he
      split at h
      · rename_i size hs
        obtain ⟨h0, y, hy, h1, h2⟩ := h;refine ⟨_, ?_, h2⟩;simp only [nG, aG h0, he, hs, hy, aG h1]
      · exact h.elim
    · exact h.elim
  all_goals try (split at h <;> first
    | exact h.elim
    | (rename_i len e he
       split at h <;> first
         | exact h.elim
         | (rename_i size hs
            obtain ⟨⟨h0, h1⟩, h2⟩ := h;refine ⟨_, ?_, h2⟩;simp only [nG, aG h0, he, hs];first
              | rw [aG h1]
              | rw [aG (by simpa using h1)])))
  exact h.elim
def G7 (P:Program) (t u:TypeId) (s x:GV) (σ:GS) (K:GV->GS->Prop):Prop:=
 match s,MJ P t u x with
 |.sl k xs,some ys=>
  match mD P t with
  |some e=>match gD P e,vF P e,lL P e with
   |some size,some bytes,some z=>
    if z.known&&z.cells.length==size&&decide (0<size)&&decide (bytes<=4096) then
     GIf ys.isEmpty (K (.sl k xs) σ) <|
     GNeed (ys.all (rJ size)=true/\xs.all (fun x=>x.cells.length==size)=true/\xs.length+ys.length<=gE) <|
     ∃zs m,GNeed (zs=xs++ys/\m=xs.length+ys.length) <|
      match k with
      |.full=>bif Globals.wr e then∃cs,GNeed (cs=zs.flatMap GV.cells) (FT σ (.box e cs) fun s=>K (.rs σ.objs.length 0 size m 0) s)
       else FT σ (.own m size e) fun s=>K (.sl (.own σ.objs.length) zs) s
      |.own r=>match σ.objs[r]? with
       |some (.own n esz ty)=>bif Globals.wr e&&(esz==0&&n==0) then∃cs,GNeed (cs=zs.flatMap GV.cells/\xs.length=0) (FT σ (.box e cs) fun s=>K (.rs σ.objs.length 0 size m 0) s)
        else GNeed (σ.lo<=r/\n=xs.length/\((esz=size/\ty=e)∨(n=0/\esz=0))) (rV σ r (.own m size e) fun s=>K (.sl (.own r) zs) s)
       |_=>False
      |.none=>False
    else False
   |_,_,_=>False
  |none=>False
 |_,_=>False
theorem MZ {P:Program} {t u:TypeId} {s x:GV} {σ:GS} {K:GV->GS->Prop} (h:G7 P t u s x σ K):∃g σ',uZ P t u s x σ=some (g,σ')/\K g σ':=by
 unfold G7 at h;split at h
 ·rename_i k xs ys hsrc;split at h
  ·rename_i e he;split at h
   ·rename_i size bytes z hs hb hz;split at h
    ·rename_i hc;simp only[aH,aK,dC] at hc;obtain⟨⟨⟨c2,c3⟩,c4⟩,c5⟩:=hc;simp only[uZ,hsrc,he,hs,hb,hz];rw[aG (by simp[c2,c3])];cases hy:ys.isEmpty with
     |true=>
      rw[aG rfl];exact⟨_,_,rfl,h.yes hy⟩
     |false=>
      rw[aD (by simp)];obtain⟨⟨n1,n2,n3⟩,zs,m,⟨rfl,rfl⟩,h⟩:=h.no hy;rw[aG (by simp only[aH,aK];exact⟨⟨⟨⟨c4,n1⟩,n2⟩,n3⟩,c5⟩)];split at h
      ·cases hwr:Globals.wr e with
       |true=>
        rw[hwr] at h;obtain⟨cs,rfl,h⟩:=h;exact⟨_,_,rfl,tN (K:=fun s=>K _ s) h⟩
       |false=>
        rw[hwr] at h;exact⟨_,_,rfl,tN (K:=fun s=>K _ s) h⟩
      ·rename_i r;split at h
       ·rename_i n esz ty ho;simp only[ho];cases hwr:(Globals.wr e&&(esz==0&&n==0)) with
        |true=>
         rw[hwr] at h;obtain⟨cs,⟨rfl,hx0⟩,h⟩:=h;have hxe:xs=[]:=aN hx0;rw[aG (by rw[hxe];rfl)];exact⟨_,_,rfl,tN (K:=fun s=>K _ s) h⟩
        |false=>
        rw[hwr] at h;rw[aD (by simp)];obtain⟨⟨m1,m2,m3⟩,h⟩:=h;replace h:=m8 (K:=fun s=>K _ s) h;rw[aG (by simp only[aH,aK,f5,dC];exact⟨⟨m1,m2⟩,m3⟩)];exact⟨_,_,rfl,h⟩
       ·exact h.elim
      ·exact h.elim
    ·exact h.elim
   ·exact h.elim
  ·exact h.elim
 ·exact h.elim
def WT (P:Program) (op:BinOp) (t:TypeId) (ca cb:Bool) (a b:GV) (K:GV->Prop):Prop:=
 match op,a,b with
 |.add,.s x,.s y=>GNeed (x.length+y.length<sU) (∃r,r=x++y/\K (.s r))
 |.quo,.i k x,.i k' y=>if k=k' then GNeed (y≠0) (K (.i k (k.wrap (x.tdiv y)))) else False
 |.rem,.i k x,.i k' y=>if k=k' then GNeed (y≠0) (K (.i k (x.tmod y))) else False
 |.shl,.i k x,.i _ y=>GNeed (0<=y) (K (.i k (k.wrap (x*2^min y.toNat k.bits))))
 |.shr,.i k x,.i _ y=>GNeed (0<=y) (K (.i k (x.fdiv (2^min y.toNat k.bits))))
 |.eql,.agg cs,.agg ds=>GNeed (DL P t=true) (tM (nU P (ID P t) cs ds) fun x=>K (.b x))
 |.neq,.agg cs,.agg ds=>GNeed (DL P t=true) (tM (nU P (ID P t) cs ds) fun x=>K (.b (!x)))
 |op,a,b=>tM (DB P op t ca cb a b) K
theorem WS {P:Program} {op:BinOp} {t:TypeId} {ca cb:Bool} {a b:GV} {K:GV->Prop} (h:WT P op t ca cb a b K):∃g,DB P op t ca cb a b=some g/\K g:=by
 unfold WT at h;split at h
 ·obtain⟨h1,r,rfl,h⟩:=h;exact⟨_,by simp only[DB,Z6];exact aG h1,h⟩
 ·split at h
  ·rename_i hk;exact⟨_,by simp only[DB,aG hk,WO];exact aD h.need,h.next⟩
  ·exact h.elim
 ·split at h
  ·rename_i hk;exact⟨_,by simp only[DB,aG hk,WO];exact aD h.need,h.next⟩
  ·exact h.elim
 ·exact⟨_,by simp only[DB];exact aG h.need,h.next⟩
 ·exact⟨_,by simp only[DB];exact aG h.need,h.next⟩
 ·obtain⟨x,hx,hk⟩:=l8 h.next;exact⟨.b x,by simp only[DB,geq,aG h.need,hx];rfl,hk⟩
 ·obtain⟨x,hx,hk⟩:=l8 h.next;exact⟨.b !x,by simp only[DB,geq,aG h.need,hx];rfl,hk⟩
 ·exact l8 h
def BV (P:Program) (src dst:TypeId) (x:GV) (K:GV->Prop):Prop:=
 match x with
 |.sl _ xs=>match mD P src with
  |some e=>if MD P e=some .u8&&gO P dst=some 1 then∃l,wJ xs=some l/\K (.s l) else False
  |none=>False
 |x=>tM (tP P src dst x) K
theorem K7 {P:Program} {src dst:TypeId} {x:GV} {K:GV->Prop} (h:BV P src dst x K):∃g,tP P src dst x=some g/\K g:=by
 unfold BV at h;split at h
 ·split at h
  ·rename_i e he;split at h
   ·rename_i hc;obtain⟨l,hl,h⟩:=h;refine⟨_,?_,h⟩;simp only[tP,he,hc,fK,hl];rfl
   ·exact h.elim
  ·exact h.elim
 ·exact l8 h
def FX (P:Program) (t:TypeId) (m k:GV) (ok:Bool) (σ:GS) (K:GV->Prop):Prop:=
 match M7 P t with
 |some (kt,et)=>match P.underlying kt,lL P et with
  |some d,some z=>
   if TA d k then
    match m with
    |.mp r=>match σ.objs[r]? with
     |some (.mp es)=>∃f,nC d k es 0=some f/\match f with
      |some (_,v)=>K (if ok then .tup [v,.b true] else v)
      |none=>K (if ok then .tup [z,.b false] else z)
     |_=>False
    |.o (.map none)=>K (if ok then .tup [z,.b false] else z)
    |_=>False
   else False
  |_,_=>False
 |none=>False
theorem MP {P:Program} {t:TypeId} {m k:GV} {ok:Bool} {σ:GS} {K:GV->Prop} (h:FX P t m k ok σ K):∃g,pL P t m k ok σ=some g/\K g:=by
 unfold FX at h;split at h
 ·rename_i kt et hmt;split at h
  ·rename_i d z hd hz;split at h
   ·rename_i hk;split at h
    ·rename_i r;split at h
     ·rename_i es ho;obtain⟨f,hf,h⟩:=h;simp only[pL,hmt,hd,hz,hk,fK,ho,hf];split at h
      ·exact⟨_,rfl,h⟩
      ·exact⟨_,rfl,h⟩
     ·exact h.elim
    ·simp only[pL,hmt,hd,hz,hk,fK];exact⟨_,rfl,h⟩
    ·exact h.elim
   ·exact h.elim
  ·exact h.elim
 ·exact h.elim
def A5 (P:Program) (t:TypeId) (m k v:GV) (σ:GS) (K:GS->Prop):Prop:=
 match m with
 |.mp r=>match M7 P t with
  |some (kt,_)=>match P.underlying kt,σ.objs[r]? with
   |some d,some (.mp es)=>
    if TA d k then GNeed (σ.lo<=r) <|
     ∃f,nC d k es 0=some f/\match f with
      |some (i,_)=>rV σ r (.mp (es.set i (k,v))) K
      |none=>rV σ r (.mp (es++[(k,v)])) K
    else False
   |_,_=>False
  |none=>False
 |_=>False
theorem CN {P:Program} {t:TypeId} {m k v:GV} {σ:GS} {K:GS->Prop} (h:A5 P t m k v σ K):∃s,k7 P t m k v σ=some s/\K s:=by
 unfold A5 at h;split at h
 ·split at h
  ·rename_i kt et hmt;split at h
   ·rename_i d es hd ho;split at h
    ·rename_i hk;obtain⟨hlo,f,hf,h⟩:=h;simp only[k7,hmt,hd,ho];rw[aG (by simp[hlo,hk])];simp only[hf];split at h
     ·exact⟨_,rfl,m8 h⟩
     ·exact⟨_,rfl,m8 h⟩
    ·exact h.elim
   ·exact h.elim
  ·exact h.elim
 ·exact h.elim
def BL (P:Program) (t:TypeId) (r off:Nat) (v:GV) (σ:GS) (K:GS->Prop):Prop:=
 match σ.objs[r]? with
 |some (.box T cs)=>∃vc,GNeed (vc=v.cells/\σ.lo<=r/\(rJ ((gD P t).getD 0) v&&(gD P t).isSome)=true/\off+vc.length<=cs.length) (BP (cs.take off++vc++cs.drop (off+vc.length)) fun cs'=>rV σ r (.box T cs') K)
 |_=>False
theorem JV {P:Program} {t:TypeId} {r off:Nat} {v:GV} {σ:GS} {K:GS->Prop} (h:BL P t r off v σ K):∃s,jQ P t r off v σ=some s/\K s:=by
 unfold BL at h;split at h
 ·rename_i cs ho;obtain⟨vc,⟨rfl,h1,h2,h3⟩,h⟩:=h;refine⟨_,?_,m8 (xC (K:=fun cs'=>rV σ _ (.box _ cs') K) h)⟩;simp only[jQ,ho];rw[aH] at h2;rw[aG (by simp only[aH,aK];exact⟨⟨⟨h1,h2.1⟩,h2.2⟩,h3⟩)]
 ·exact h.elim
def FK (P:Program) (t:TypeId) (r off:Nat) (v:GV) (σ:GS) (K:GS->Prop):Prop:=
 match σ.objs[r]? with
 |some (.box T cs)=>∃cs',GNeed (cs'=cs.take off++v.cells++cs.drop (off+v.cells.length)/\σ.lo<=r/\(rJ ((gD P t).getD 0) v&&(gD P t).isSome)=true/\off+v.cells.length<=cs.length) (rV σ r (.box T cs') K)
 |_=>False
theorem MI {P:Program} {t:TypeId} {r off:Nat} {v:GV} {σ:GS} {K:GS->Prop} (h:FK P t r off v σ K):∃s,jQ P t r off v σ=some s/\K s:=by
 unfold FK at h;split at h
 ·rename_i cs ho;obtain⟨cs',⟨rfl,h1,h2,h3⟩,h⟩:=h;refine⟨_,?_,m8 h⟩;simp only[jQ,ho];rw[aH] at h2;rw[aG (by simp only[aH,aK];exact⟨⟨⟨h1,h2.1⟩,h2.2⟩,h3⟩)]
 ·exact h.elim
def JU (P:Program) (t:TypeId) (a v:GV) (σ:GS) (K:GS->Prop):Prop:=
 match a with
 |.ptr r off=>BL P t r off v σ K
 |.rs r off e _ _=>bif Nat.beq e 0 then FK P t r off v σ K else False
 |_=>False
theorem OY {P:Program} {t:TypeId} {a v:GV} {σ:GS} {K:GS->Prop} (h:JU P t a v σ K):∃s,oQ P t a v σ=some s/\K s:=by
 unfold JU at h;split at h
 ·exact JV h
 ·rename_i r off e _ _;cases he:Nat.beq e 0 with
  |true=>
   rw[he] at h;have e0:e=0:=Nat.eq_of_beq_eq_true he;rw[oQ,aG e0];exact MI h
  |false=>rw[he] at h;exact h.elim
 ·exact h.elim
def P7 (P:Program) (t:TypeId) (a:GV) (σ:GS) (K:GV->Prop):Prop:=
 match a with
 |.rs r off e _ _=>bif Nat.beq e 0 then match σ.objs[r]? with
   |some (.box _ cs)=>∃g,GNeed (w7 P t cs off=some g) (K g)
   |_=>False
  else False
 |a=>tM (nB P t a σ) K
theorem T9 {P:Program} {t:TypeId} {a:GV} {σ:GS} {K:GV->Prop} (h:P7 P t a σ K):∃g,nB P t a σ=some g/\K g:=by
 unfold P7 at h;split at h
 ·rename_i r off e _ _;cases he:Nat.beq e 0 with
  |true=>
   rw[he] at h;have e0:e=0:=Nat.eq_of_beq_eq_true he;rw[nB,aG e0];simp only[cond_true] at h;split at h
   ·rename_i ho;obtain⟨g,h1,h2⟩:=h;exact⟨g,by simp only[ho];exact h1,h2⟩
   ·exact h.elim
  |false=>rw[he] at h;exact h.elim
 ·exact l8 h
def P6 (P:Program) (t:TypeId) (l c:GV) (σ:GS) (K:GV->GS->Prop):Prop:=
 match l,c with
 |.i _ n,.i _ m=>match mD P t with
  |some e=>match gD P e,vF P e,lL P e with
   |some size,some bytes,some z=>
    bif z.known&&z.cells.length==size&&decide (0<size)&&decide (bytes<=4096) then
     ∃k cs,GNeed (n=(k:Nat)/\n=m/\n<=(gE:Nat)/\cs=(List.replicate k z.cells).flatten) (FT σ (.box e cs) fun s=>K (.rs σ.objs.length 0 size k k) s)
    else False
   |_,_,_=>False
  |none=>False
 |_,_=>False
theorem T8 {P:Program} {t:TypeId} {l c:GV} {σ:GS} {K:GV->GS->Prop} (h:P6 P t l c σ K):∃g σ',FU P t l c σ=some (g,σ')/\K g σ':=by
 unfold P6 at h;split at h
 ·rename_i n _ m;split at h
  ·rename_i e he;split at h
   ·rename_i size bytes z hs hb hz;cases hc:(z.known&&z.cells.length==size&&decide (0<size)&&decide (bytes<=4096)) with
    |true=>
     rw[hc] at h;obtain⟨k,cs,⟨rfl,h1,h2,rfl⟩,h⟩:=h;have h:=tN (K:=fun s=>K _ s) h;refine⟨_,_,?_,h⟩;simp only[FU,he,hs,hb,hz];rw[aG (by rw[hc];simp only[Bool.true_and,aH,aK];exact⟨⟨cN _,h1⟩,h2⟩)];simp only[aA]
    |false=>rw[hc] at h;exact h.elim
   ·exact h.elim
  ·exact h.elim
 ·exact h.elim
def BX (P:Program) (b:Builtin) (ts:List TypeId) (args:List GV) (σ:GS) (K:GV->GS->Prop):Prop:=
 match b,ts,args with
 |.append,[t,u],[s,x]=>G7 P t u s x σ K
 |b,ts,args=>tM (mA P b ts args σ) fun q=>K q.1 q.2
theorem K9 {P:Program} {b:Builtin} {ts:List TypeId} {args:List GV} {σ:GS} {K:GV->GS->Prop} (h:BX P b ts args σ K):∃g σ',mA P b ts args σ=some (g,σ')/\K g σ':=by
 unfold BX at h;split at h
 ·obtain⟨g,σ',h1,h2⟩:=MZ h;exact⟨g,σ',h1,h2⟩
 ·obtain⟨⟨g,σ'⟩,h1,h2⟩:=l8 h;exact⟨g,σ',h1,h2⟩
def WN (P:Program) (ρ:Operand->GV) (op:Op) (σ:GS) (K:GV->GS->Prop):Prop:=
 match op with
 |.move x=>K (ρ x) σ
 |.assign x=>K (ρ x) σ
 |.pick c a b=>
  match ρ c with
  |.b t=>GIf t (K (ρ a) σ) (K (ρ b) σ)
  |_=>False
 |.load t a=>P7 P t (ρ a) σ fun g=>K g σ
 |.store t a v=>JU P t (ρ a) (ρ v) σ fun s=>K .any s
 |.binOp op t x y _=>WT P op t (iZ x) (iZ y) (ρ x) (ρ y) fun g=>K g σ
 |.convert src dst x=>BV P src dst (ρ x) fun g=>K g σ
 |.slice t x lo hi mx=>JY P t (ρ x) (lo.map ρ) (hi.map ρ) (mx.map ρ) fun g=>K g σ
 |.indexAddr t x i=>wE P t (ρ x) (ρ i) fun g=>K g σ
 |.index t x i=>K3 P t (ρ x) (ρ i) fun g=>K g σ
 |.lookup t m k ok=>FX P t (ρ m) (ρ k) ok σ fun g=>K g σ
 |.mapUpdate t m k v=>A5 P t (ρ m) (ρ k) (ρ v) σ fun s=>K .any s
 |.insert t m k v=>A5 P t (ρ m) (ρ k) (ρ v) σ fun s=>K .any s
 |.makeSlice t l c=>P6 P t (ρ l) (ρ c) σ K
 |.call {callee:=.builtin b,args,argTypes}=>BX P b argTypes.toList (args.toList.map ρ) σ K
 |op=>tM (pK P ρ op σ) fun q=>K q.1 q.2
theorem WM {P:Program} {ρ:Operand->GV} {op:Op} {σ:GS} {K:GV->GS->Prop} (h:WN P ρ op σ K):∃g σ',pK P ρ op σ=some (g,σ')/\K g σ':=by
 have mp:∀{x:Option GV},(∃g,x=some g/\K g σ)->∃g σ',x.map (fun v=>(v,σ))=some (g,σ')/\K g σ':=fun⟨g,e,h⟩=>⟨g,σ,by rw[e];rfl,h⟩;have mu:∀{x:Option GS},(∃s,x=some s/\K .any s)->∃g σ',x.map (fun s=>(GV.any,s))=some (g,σ')/\K g σ':=fun⟨s,e,h⟩=>⟨_,s,by rw[e];rfl,h⟩;unfold WN at h;split at h
 ·exact⟨_,_,rfl,h⟩
 ·exact⟨_,_,rfl,h⟩
 ·simp only[pK];split at h
  ·rename_i t ht;simp only[ht];cases t with
   |true=>exact⟨_,_,rfl,h.yes rfl⟩
   |false=>exact⟨_,_,rfl,h.no rfl⟩
  ·exact h.elim
 ·exact mp (T9 h)
 ·exact mu (OY h)
 ·exact mp (WS h)
 ·exact mp (K7 h)
 ·exact mp (P1 h)
 ·exact mp (FY h)
 ·exact mp (PA h)
 ·exact mp (MP h)
 ·exact mu (CN h)
 ·exact mu (CN h)
 ·exact T8 h
 ·exact K9 h
 ·obtain⟨⟨g,s⟩,h1,h2⟩:=l8 h;exact⟨g,s,h1,h2⟩
def a1H (P:Program) (ρ:Operand->GV) (op:Op) (σ:GS) (K:GV->GS->Prop):Prop:=
 match hY P ρ op with
 |some f=>FT σ f.2 fun s=>K (f.1 σ.objs.length) s
 |none=>WN P ρ op σ K
theorem Z7 {P:Program} {ρ:Operand->GV} {op:Op} {σ:GS} {K:GV->GS->Prop} (h:a1H P ρ op σ K):∃g σ',rK P ρ op σ=some (g,σ')/\K g σ':=by
 unfold a1H at h;unfold rK;split at h
 ·rename_i f hf;exact⟨_,_,by rw[hf],tN (K:=fun s=>K _ s) h⟩
 ·rename_i hf;obtain⟨g,s,h1,h2⟩:=WM h;exact⟨g,s,by rw[hf];exact h1,h2⟩
def iM (P:Program) (M:FuncId->Bool) (t:Tgt) (args:List GV) (σ:GS) (K:GRes->GS->Prop):Prop:=
 ∃r σ',Fact P t args σ r σ'/\(∀k,t=.fn k->M k=true->σ'=σ)/\K r σ'
def wB (P:Program) (M:FuncId->Bool) (o:Oper) (ρ:Operand->GV) (σ:GS) (K:GRes->GS->Prop):Prop:=
 match o.op with
 |.panic x=>match ρ x with
  |.ifc t g=>K (.panic (.ifc t g)) σ
  |_=>False
 |.call {callee:=.value f,args,..}=>match ρ f with
  |.fn (.func k) first cap=>if lO P k then iM P M (.fn k) (first++args.toList.map ρ++cap) σ K else tM (DZ P k (first++args.toList.map ρ++cap)) fun g=>K (.val g) σ
  |.yld r=>iM P M (.yld r) (args.toList.map ρ) σ K
  |_=>False
 |.call {callee:=.invoke r name,args,..}=>match ρ r with
  |.ifc t g=>tM (DY P t name) fun k=>if lO P k then iM P M (.fn k) (g::args.toList.map ρ) σ K else False
  |_=>False
 |op=>a1H P ρ op σ fun g s=>K (.val g) s
def a0Q (P:Program) (M:FuncId->Bool) (o:Oper) (ρ:Operand->GV) (σ:GS) (r:GRes) (σ':GS):Prop:=
 ∃call:fO,(∀w0,cD P w0 call)/\dO M call/\dF P call o ρ σ=some (r,σ')
open Classical in
noncomputable def rO (t:Tgt) (args:List GV) (σ:GS) (r:GRes) (σ':GS):fO:=fun t' a' s'=>if t'=t/\a'=args/\s'=σ then some (r,σ') else none
theorem y9 {t:Tgt} {args:List GV} {σ σ':GS} {r:GRes}:rO t args σ r σ' t args σ=some (r,σ'):=aG ⟨rfl,rfl,rfl⟩
theorem C9 {t t':Tgt} {args a':List GV} {σ σ' s s':GS} {r r':GRes} (h:rO t args σ r σ' t' a' s=some (r',s')):t'=t/\a'=args/\s=σ/\r'=r/\s'=σ':=by
 unfold rO at h;split at h
 ·rename_i hc;cases h;exact⟨hc.1,hc.2.1,hc.2.2,rfl,rfl⟩
 ·cases h
theorem s9 {P:Program} {t:Tgt} {args:List GV} {σ σ':GS} {r:GRes} (h:Fact P t args σ r σ') (w0:World):cD P w0 (rO t args σ r σ'):=fun t' a' s r' s' hc=>by
 obtain⟨rfl,rfl,rfl,rfl,rfl⟩:=C9 hc;exact⟨h.keep,h.ds,h.calls w0⟩
theorem IX {M:FuncId->Bool} {t:Tgt} {args:List GV} {σ σ':GS} {r:GRes} (h:∀k,t=.fn k->M k=true->σ'=σ):dO M (rO t args σ r σ'):=fun k hk a' s r' s' hc=>by
 obtain⟨e1,rfl,rfl,rfl,rfl⟩:=C9 hc;exact h k e1.symm hk
theorem gR {P:Program} (w0:World):cD P w0 (fun _ _ _=>none):=fun _ _ _ _ _ h=>by cases h
theorem iH {M:FuncId->Bool}:dO M (fun _ _ _=>none):=fun _ _ _ _ _ _ h=>by cases h
theorem mP {P:Program} {M:FuncId->Bool} {o:Oper} {ρ:Operand->GV} {σ:GS} {K:GRes->GS->Prop} (h:wB P M o ρ σ K):∃r σ',a0Q P M o ρ σ r σ'/\K r σ':=by
 have viaCall:∀{t:Tgt} {args:List GV},iM P M t args σ K->(∀call:fO,dF P call o ρ σ=call t args σ)->∃r σ',a0Q P M o ρ σ r σ'/\K r σ':=fun⟨r,σ',hf,hp,hk⟩ hg=>
  ⟨r,σ',⟨rO _ _ _ r σ',s9 hf,IX hp,(hg _).trans y9⟩,hk⟩
 unfold wB at h;split at h
 ·rename_i x hop;split at h
  ·rename_i t g hx;exact⟨_,_,⟨_,gR,iH,by unfold dF;simp only[hop,hx]⟩,h⟩
  ·exact h.elim
 ·rename_i f args ts hop;split at h
  ·rename_i k first cap hf
   split at h
   ·rename_i hk;exact viaCall h (fun call=>by unfold dF;simp only[hop,hf];rw[aG hk])
   ·rename_i hk;obtain⟨g,hg,h⟩:=l8 h;exact⟨_,_,⟨_,gR,iH,by unfold dF;simp only[hop,hf];rw[aD hk,hg];rfl⟩,h⟩
  ·rename_i r hf;exact viaCall h (fun call=>by unfold dF;simp only[hop,hf])
  ·exact h.elim
 ·rename_i rv name args ts hop;split at h
  ·rename_i t g hrv;obtain⟨k,hm,h⟩:=l8 h;split at h
   ·rename_i hk;exact viaCall h (fun call=>by unfold dF;simp only[hop,hrv,hm];rw[aG hk])
   ·exact h.elim
  ·exact h.elim
 ·rename_i hn1 hn2 hn3;obtain⟨g,s,hg,h⟩:=Z7 h;refine⟨_,_,⟨_,gR,iH,?_⟩,h⟩;obtain⟨dst,op,type,pos,after,guard⟩:=o;simp only at hn1 hn2 hn3 hg;unfold dF;cases op
  case panic x=>exact absurd rfl (hn1 x)
  case call c=>
   obtain⟨callee,args,ts⟩:=c;cases callee with
   |value f=>exact absurd rfl (hn2 f args ts)
   |invoke r m=>exact absurd rfl (hn3 r m args ts)
   |builtin b=>simp only[hg];rfl
  all_goals (simp only[hg];rfl)
theorem tR {φ:Fr} {d:Nat} {g:GV} (h:φ d=g):GB φ d g=φ:=by
 funext t;show(if t=d then g else φ t)=φ t;split
 ·rename_i e;rw[e,h]
 ·rfl
def BK (ops:Array Oper) (o:Oper) (φ:Fr) (K:Bool->Fr->Prop):Prop:=
 match o.guard with
 |none=>K true φ
 |some (j,want)=>match(ops[j]?).bind (·.dst) with
  |some d=>match φ d with
   |.b t=>GIf t (K want (U1 φ d (.b true))) (K (!want) (U1 φ d (.b false)))
   |.tup []=>K false φ
   |_=>False
  |none=>K false φ
theorem tL {ops:Array Oper} {o:Oper} {φ:Fr} {K:Bool->Fr->Prop} (h:BK ops o φ K):∃b,cH ops o φ=some b/\K b φ:=by
 unfold BK at h;unfold cH;split at h
 ·rename_i hg;rw[hg];exact⟨true,rfl,h⟩
 ·rename_i j want hg;rw[hg];simp only[yO];split at h
  ·rename_i d hd;rw[hd];simp only;split at h
   ·rename_i t ht;rw[ht];simp only[eI];cases t with
    |true=>
     have:=h.yes rfl;rw[wN,tR ht] at this;exact⟨_,rfl,by cases want<;>exact this⟩
    |false=>
     have:=h.no rfl;rw[wN,tR ht] at this;exact⟨_,rfl,by cases want<;>exact this⟩
   ·rename_i ht;rw[ht];exact⟨false,rfl,h⟩
   ·exact h.elim
  ·rename_i hd;rw[hd];exact⟨false,rfl,h⟩
def PD (φ:Fr) (c:Operand) (K:Bool->Fr->Prop):Prop:=
 match c with
 |.tmp d=>match φ d with
  |.b t=>GIf t (K true (U1 φ d (.b true))) (K false (U1 φ d (.b false)))
  |_=>False
 |c=>match d7 φ c with
  |.b t=>K t φ
  |_=>False
theorem TC {φ:Fr} {c:Operand} {K:Bool->Fr->Prop} (h:PD φ c K):∃t,d7 φ c=.b t/\K t φ:=by
 unfold PD at h;split at h
 ·rename_i d;show∃t,φ d=.b t/\K t φ;split at h
  ·rename_i t ht;cases t with
   |true=>exact⟨true,ht,by have:=h.yes rfl;rwa [wN,tR ht] at this⟩
   |false=>exact⟨false,ht,by have:=h.no rfl;rwa [wN,tR ht] at this⟩
  ·exact h.elim
 ·split at h
  ·rename_i t ht;exact⟨t,ht,h⟩
  ·exact h.elim
abbrev pQ:=Fr->GS->(GX->Fr->GS->Prop)->Prop
def oD (P:Program) (M:FuncId->Bool) (dz:Bool) (n:Nat) (ops:Array Oper) (o:Oper) (ih:pQ):pQ:=fun φ σ K=>
 if(o.dst.all fun d=>Nat.blt d n) then
  BK ops o φ fun b φ=>match b with
  |false=>vI φ o.dst (.tup []) fun φ=>ih φ σ K
  |true=>
   match(if dz then G4 (d7 φ) o.op else none) with
   |some d=>vI φ o.dst (.tup []) fun φ=>ih φ {σ with ds:=d::σ.ds} K
   |none=>wB P M o (d7 φ) σ fun r σ'=>match r with
    |.val g=>vI φ o.dst g fun φ=>ih φ σ' K
    |.panic g=>K (.panic g) φ σ'
 else False
def rX (P:Program) (M:FuncId->Bool) (dz:Bool) (n:Nat) (ops:Array Oper) (l:List Oper):pQ:=
 List.rec (motive:=fun _=>pQ) (fun φ σ K=>K .normal φ σ) (fun o _ ih=>oD P M dz n ops o ih) l
theorem FQ {P:Program} {M:FuncId->Bool} {dz:Bool} {n:Nat} {ops:Array Oper} {o:Oper} {l:List Oper} {φ:Fr} {σ:GS} {K:GX->Fr->GS->Prop}:
  rX P M dz n ops (o::l) φ σ K=oD P M dz n ops o (rX P M dz n ops l) φ σ K:=rfl
theorem GH {o:Oper} {n:Nat} (h:(o.dst.all fun d=>Nat.blt d n)=true):(o.dst.all fun d=>decide (d<n))=true:=by
 cases hd:o.dst with
 |none=>rfl
 |some d=>
  rw[hd] at h;have:Nat.blt d n=true:=h;simpa[Nat.blt_eq] using this
section
variable {P : Program} {M : FuncId → Bool} {w0 : World} {n : Nat} {ops : Array Oper}
theorem w8 {ro:Option Nat} {dz:Bool} (hdz:dz=true->ro=none) {Q:Exit->Act->World->Prop} {K:GX->Fr->GS->Prop} {o:Oper} {l:List Oper} {R:pQ}
  (ih:∀(C:Cx) (φ:Fr) (σ:GS) (a:Act) (w:World),R φ σ K->Rel C σ w0 w->FRel C φ a->a.tmps.size=n->DRel C σ.ds a.defers->(∀x φ' σ',K x φ' σ'->QOk w0 C Q n x φ' σ')->wpListIn (FW ro) 0 P ops Q l a w)
  (C:Cx) (φ:Fr) (σ:GS) (a:Act) (w:World) (hg:oD P M dz n ops o R φ σ K) (hr:Rel C σ w0 w) (hf:FRel C φ a) (hn:a.tmps.size=n) (hd0:DRel C σ.ds a.defers) (hq:∀x φ' σ',K x φ' σ'->QOk w0 C Q n x φ' σ'):wpListIn (FW ro) 0 P ops Q (o::l) a w:=by
 unfold oD at hg;split at hg
 ·rename_i hd;replace hd:=GH hd;unfold wpListIn;obtain⟨b,hw,hg⟩:=tL hg;cases b with
  |false=>
   rw[fJ hf hw];simp only[bT,fM];replace hg:=m9 (K:=fun φ=>R φ σ K) hg;obtain⟨h1,h2,h3⟩:=hf.put (vN C) hn hd;exact⟨fun f _=>trivial,ih C _ σ _ w hg hr h1 h2 (by rw[h3];exact hd0) hq⟩
  |true=>
   rw[fJ hf hw];simp only[fK];rcases hdef:(if dz=true then G4 (d7 φ) o.op else none) with _|d;rotate_left
   ·simp only[hdef] at hg;replace hg:=m9 (K:=fun φ=>R φ {σ with ds:=d::σ.ds} K) hg;have hdzt:dz=true:=by
     cases hdz':dz with
     |true=>rfl
     |false=>rw[hdz'] at hdef;simp at hdef
    have hro:=hdz hdzt;subst hro;rw[aG hdzt] at hdef;unfold G4 at hdef;split at hdef
    ·rename_i f args ts hop;split at hdef
     ·rename_i k first cap hf0
      cases hdef;have hv0:=dN hf f;rw[hf0] at hv0;generalize hu:a.eval f=u at hv0;cases hv0 with
      |fn h1 h2 h3 h4=>
       rename_i va vc;have e1:VRs C first va.toList:=⟨by simpa using h1,fun j g u a b=>h3 j g u a (by simpa using b)⟩
       have e2:VRs C cap vc.toList:=⟨by simpa using h2,fun j g u a b=>h4 j g u a (by simpa using b)⟩;have hrun:(execOp a.eval o).run P w=.ok (.defer {target:=.fn (.func k) vc,args:=va++args.map a.eval}) w:=by
        unfold execOp;rw[hop];simp[resolve,hu,Deferred.ofValue]
       refine⟨fun f _=>trivial,?_⟩;show Oper.uponIn _ _ _ _ _ _ _ ((execOp a.eval o).run P w);rw[hrun,Oper.uponIn_defer];have hf1:FRel C φ {a with defers:={target:=.fn (.func k) vc,args:=va++args.map a.eval}::a.defers}:=hf;obtain⟨p1,p2,p3⟩:=hf1.put (vN C) (n:=n) hn hd;refine ih C _ _ _ w hg (hr.ds _) p1 p2 ?_ hq;rw[p3];refine⟨⟨_,_,rfl,?_,e2⟩,hd0⟩;simp only[Array.toList_append,Array.toList_map];exact e1.append (VRs.mapOp (dN hf) args.toList)
     ·cases hdef
    ·cases hdef
   ·simp only[hdef] at hg;obtain⟨r,σ1,⟨call,hcall,_,hop⟩,hg⟩:=mP hg;refine iV (hcall w0) hr (dN hf) hop (fun g' D v w' e hl hr' hv=>?_) (fun g' D v w' e hl hr' hv=>?_)
    ·subst e;replace hg:=m9 (K:=fun φ=>R φ σ1 K) hg;obtain⟨h1,h2,h3⟩:=(hf.mono hl).put hv hn hd;exact ih D _ σ1 _ w' hg hr' h1 h2 (by rw[h3,n9 (hcall w0) hop];exact hd0.mono hl) (fun x φ' σ' hk=>(hq x φ' σ' hk).mono hl)
    ·subst e;exact hq _ _ _ hg D a w' hl (hf.mono hl) hn (by rw[n9 (hcall w0) hop];exact hd0.mono hl) hr' v hv
 ·exact hg.elim
def a0A (o:Oper):Option (TypeId×TypeId×Operand×Operand):=
 match o.guard,o.op with
 |none,.call {callee:=.builtin .append,args,argTypes}=>match args.toList,argTypes.toList with
  |[s,x],[t,u]=>some (t,u,s,x)
  |_,_=>none
 |_,_=>none
structure GAppRs (P:Program) (t u:TypeId) (r size n c:Nat) (x:GV) (σ:GS) (K:GV->GS->Prop):Prop where
 ex:∃(e bytes:Nat) (z:GV) (cs ys:List GV),(σ.objs[r]?=some (.box e cs)/\MJ P t u x=some ys/\mD P t=some e/\gD P e=some size/\vF P e=some bytes/\lL P e=some z/\Globals.wr e=true)/\
  (cs.length=c*size/\(z.known&&z.cells.length==size&&ys.all (rJ size)&&decide (bytes<=4096)&&decide (σ.lo<=r))=true/\ys≠[]/\n+ys.length<=gE/\0<c/\n<=c)/\
  (n+ys.length<=c->∃cs',cs'=cs.take (n*size)++flat ys++cs.drop (n*size+(flat ys).length)/\rV σ r (.box e cs') fun s=>K (.rs r 0 size (n+ys.length) c) s)/\
  (c<n+ys.length->∀cap cs',n+ys.length<=cap->cs'=cs.take (n*size)++flat ys++List.replicate ((cap - (n+ys.length))*size) .any->FT σ (.box e cs') fun s=>K (.rs σ.objs.length 0 size (n+ys.length) cap) s)
def yP (P:Program) (M:FuncId->Bool) (dz:Bool) (n:Nat) (ops:Array Oper) (o:Oper) (ih:pQ):pQ:=fun φ σ K=>
 match a0A o with
 |none=>oD P M dz n ops o ih φ σ K
 |some q=>match d7 φ q.2.2.1 with
  |.rs r 0 (sz+1) m c=>(o.dst.all fun d=>Nat.blt d n)=true/\GAppRs P q.1 q.2.1 r (sz+1) m c (d7 φ q.2.2.2) σ fun g σ'=>vI φ o.dst g fun φ=>ih φ σ' K
  |_=>oD P M dz n ops o ih φ σ K
def uU (P:Program) (M:FuncId->Bool) (dz:Bool) (n:Nat) (ops:Array Oper) (l:List Oper):pQ:=
 List.rec (motive:=fun _=>pQ) (fun φ σ K=>K .normal φ σ) (fun o _ ih=>yP P M dz n ops o ih) l
theorem xX {ro:Option Nat} {dz:Bool} (hdz:dz=true->ro=none) {Q:Exit->Act->World->Prop} {K:GX->Fr->GS->Prop}:∀(l:List Oper) (C:Cx) (φ:Fr) (σ:GS) (a:Act) (w:World),
  uU P M dz n ops l φ σ K->Rel C σ w0 w->FRel C φ a->a.tmps.size=n->DRel C σ.ds a.defers->(∀x φ' σ',K x φ' σ'->QOk w0 C Q n x φ' σ')->wpListIn (FW ro) 0 P ops Q l a w
 |[],C,φ,σ,a,w,hg,hr,hf,hn,hd0,hq=>hq _ _ _ hg C a w (.refl C) hf hn hd0 hr
 |o::l,C,φ,σ,a,w,hg,hr,hf,hn,hd0,hq=>by
  have ih:=fun(C:Cx) (φ:Fr) (σ:GS) (a:Act) (w:World) h1 h2 h3 h4 h5 (hq:∀x φ' σ',K x φ' σ'->QOk w0 C Q n x φ' σ')=>xX (ro:=ro) hdz (K:=K) l C φ σ a w h1 h2 h3 h4 h5 hq;replace hg:yP P M dz n ops o (uU P M dz n ops l) φ σ K:=hg;unfold yP at hg;split at hg
  ·exact w8 hdz ih C φ σ a w hg hr hf hn hd0 hq
  ·rename_i q hq0;split at hg
   ·rename_i r sz m c hs;obtain⟨hd,⟨e,bytes,z,cs,ys,⟨p1,p2,p3,p4,p5,p6,p7⟩,⟨q1,q2,q3,q4,q5,q6⟩,k1,k2⟩⟩:=hg;simp only[aH,aK,dC,aS] at q2;obtain⟨⟨⟨⟨q2,q7⟩,q8⟩,q9⟩,q10⟩:=q2;replace hd:=GH hd;obtain⟨t,u,s,x⟩:=q;unfold a0A at hq0;split at hq0
    ·rename_i args ts hgd hop;split at hq0
     ·rename_i s' x' t' u' hargs hts;cases hq0;have hvs:=dN hf s;rw[hs] at hvs;have ea:args= #[s,x]:=by rw[<-Array.toList_inj];exact hargs
      have et:ts= #[t,u]:=by rw[<-Array.toList_inj];exact hts
      have hrun:∀v w',(Builtin.append_ #[t,u] o.type #[a.eval s,a.eval x]).run P w=.ok v w'->(execOp a.eval o).run P w=.ok (.value v) w':=fun v w' hr'=>by
       unfold execOp;rw[hop,ea,et];simp[resolve,invoke,builtin,hr']
      have hput:∀{σ1:GS} {g:GV},σ1.ds=σ.ds->(vI φ o.dst g fun φ=>uU P M dz n ops l φ σ1 K)->Runs P C w0 w σ1 g (Builtin.append_ #[t,u] o.type #[a.eval s,a.eval x])->wpListIn (FW ro) 0 P ops Q (o::l) a w:=fun{σ1 g} hds hk hR=>by
       obtain⟨D,v,w',hl,hr',hv,hrn⟩:=hR;unfold wpListIn;rw[fJ hf (show cH ops o φ=some true by unfold cH;rw[hgd])];simp only[fK];have hnd:∀c,o.op≠ .defer c:=fun c e=>by rw[hop] at e;cases e
       refine⟨fun f _=>trivial,?_⟩;rw[Oper.semAt_eq _ _ _ hnd,hrun v w' hrn];replace hk:=m9 (K:=fun φ=>uU P M dz n ops l φ σ1 K) hk;obtain⟨h1,h2,h3⟩:=(hf.mono hl).put hv hn hd;exact ih D _ σ1 _ w' hk hr' h1 h2 (by rw[h3,hds];exact hd0.mono hl) (fun x φ' σ' hk=>(hq x φ' σ' hk).mono hl)
      rcases KD (ty:=o.type) hr hvs (dN hf x) p1 q1 p2 p3 p4 p5 p6 q2 q7 q3 q8 q4 q9 q5 p7 q6 with⟨h1,hR⟩|⟨h1,cap,h2,hR⟩
      ·obtain⟨cs',rfl,hk⟩:=k1 h1;exact hput (σ1:=gset σ r _) rfl (m8 (K:=fun s=>vI φ o.dst _ fun φ=>uU P M dz n ops l φ s K) hk) hR
      ·exact hput (σ1:=gnew σ _) rfl (tN (K:=fun s=>vI φ o.dst _ fun φ=>uU P M dz n ops l φ s K) (k2 h1 cap _ h2 rfl)) hR
     ·cases hq0
    ·cases hq0
   ·exact w8 hdz ih C φ σ a w hg hr hf hn hd0 hq
def vH (K:GX->Fr->GS->Prop):GX->Fr->GS->Prop
 |.normal,φ,σ=>K .normal φ σ
 |_,_,_=>False
theorem CT {K:GX->Fr->GS->Prop}:∀(l:List Oper) (k:Nat) (φ:Fr) (σ:GS),(∀j:Nat,l[j]?=ops[k+j]?)->rX P M false n ops l φ σ (vH K)->
  ∃(call:Nat->fO) (Φ:Nat->Fr) (S:Nat->GS) (G:Nat->GV),(∀i w0,cD P w0 (call i))/\(∀i,dO M (call i))/\Φ k=φ/\S k=σ/\K .normal (Φ (k+l.length)) (S (k+l.length))/\
   ∀(i:Nat) o,k<=i->ops[i]?=some o->(o.dst.all fun d=>decide (d<n))=true/\Φ (i+1)=i6 (Φ i) o.dst (G i)/\
    ((cH ops o (Φ i)=some false/\G i=.tup []/\S (i+1)=S i)∨(cH ops o (Φ i)=some true/\dF P (call i) o (d7 (Φ i)) (S i)=some (.val (G i),S (i+1))))
 |[],k,φ,σ,hl,hg=>by
  refine⟨fun _ _ _ _=>none,fun _=>φ,fun _=>σ,fun _=>.any,fun _=>gR,fun _=>iH,rfl,rfl,hg,fun i o hi ho=>?_⟩;have:=hl (i - k);rw[show k+(i - k)=i by omega,ho] at this;simp at this
 |o::l,k,φ,σ,hl,hg=>by
  have ho:ops[k]?=some o:=by have:=hl 0;simpa using this.symm
  rw[FQ] at hg;unfold oD at hg;split at hg
  ·rename_i hd;replace hd:=GH hd;have go:∀(c0:fO) (g:GV) (σ1:GS),(∀w0,cD P w0 c0)->dO M c0->rX P M false n ops l (i6 φ o.dst g) σ1 (vH K)->
     ((cH ops o φ=some false/\g=.tup []/\σ1=σ)∨(cH ops o φ=some true/\dF P c0 o (d7 φ) σ=some (.val g,σ1)))->
     ∃(call:Nat->fO) (Φ:Nat->Fr) (S:Nat->GS) (G:Nat->GV),(∀i w0,cD P w0 (call i))/\(∀i,dO M (call i))/\Φ k=φ/\S k=σ/\K .normal (Φ (k+(o::l).length)) (S (k+(o::l).length))/\
      ∀(i:Nat) o,k<=i->ops[i]?=some o->(o.dst.all fun d=>decide (d<n))=true/\Φ (i+1)=i6 (Φ i) o.dst (G i)/\
       ((cH ops o (Φ i)=some false/\G i=.tup []/\S (i+1)=S i)∨(cH ops o (Φ i)=some true/\dF P (call i) o (d7 (Φ i)) (S i)=some (.val (G i),S (i+1)))):=by
    intro c0 g σ1 hc0 hp0 hrest hstep;obtain⟨call,Φ,S,G,hc,hp,e1,e2,e3,e5⟩:=CT l (k+1) _ σ1 (fun j=>by have:=hl (j+1);rw[show k+1+j=k+(j+1) by omega];simpa using this) hrest;refine⟨fun i=>if i=k then c0 else call i,fun i=>if i=k then φ else Φ i,fun i=>if i=k then σ else S i,fun i=>if i=k then g else G i,fun i=>?_,fun i=>?_,aG rfl,aG rfl,?_,fun i o' hi ho'=>?_⟩
    ·show∀w0,cD P w0 (if i=k then c0 else call i);split
     ·exact hc0
     ·exact hc i
    ·show dO M (if i=k then c0 else call i);split
     ·exact hp0
     ·exact hp i
    ·show K .normal (if k+(l.length+1)=k then φ else Φ (k+(l.length+1))) (if k+(l.length+1)=k then σ else S (k+(l.length+1)));rw[aD (by omega),aD (by omega),show k+(l.length+1)=k+1+l.length by omega];exact e3
    ·by_cases hik:i=k
     ·subst hik;rw[ho] at ho';cases ho';simp only[fK,aD (show i+1≠i by omega),e1,e2];exact⟨hd,trivial,hstep⟩
     ·simp only[aD hik,aD (show i+1≠k by omega)];exact e5 i o' (by omega) ho'
   obtain⟨b,hw,hg⟩:=tL hg;cases b with
   |false=>exact go _ (.tup []) σ gR iH (m9 (K:=fun φ=>rX P M false n ops l φ σ (vH K)) hg) (.inl ⟨hw,rfl,rfl⟩)
   |true=>
    simp only[bT,fM] at hg;obtain⟨r,σ1,⟨call,hcall,hpure,hop⟩,hg⟩:=mP hg;cases r with
    |val g=>exact go call g σ1 hcall hpure (m9 (K:=fun φ=>rX P M false n ops l φ σ1 (vH K)) hg) (.inr ⟨hw,hop⟩)
    |panic g=>exact hg.elim
  ·exact hg.elim
theorem A7 {K:GX->Fr->GS->Prop}:∀(l:List Oper) (k:Nat) (φ:Fr) (σ:GS),(∀j:Nat,j<l.length->l[j]?=ops[k+j]?)->rX P M false n ops l φ σ (vH K)->
  ∃(call:Nat->fO) (Φ:Nat->Fr) (S:Nat->GS) (G:Nat->GV),(∀i w0,cD P w0 (call i))/\(∀i,dO M (call i))/\Φ k=φ/\S k=σ/\K .normal (Φ (k+l.length)) (S (k+l.length))/\
   ∀(i:Nat) o,k<=i->i<k+l.length->ops[i]?=some o->(o.dst.all fun d=>decide (d<n))=true/\Φ (i+1)=i6 (Φ i) o.dst (G i)/\
    ((cH ops o (Φ i)=some false/\G i=.tup []/\S (i+1)=S i)∨(cH ops o (Φ i)=some true/\dF P (call i) o (d7 (Φ i)) (S i)=some (.val (G i),S (i+1))))
 |[],k,φ,σ,hl,hg=>by
  refine⟨fun _ _ _ _=>none,fun _=>φ,fun _=>σ,fun _=>.any,fun _=>gR,fun _=>iH,rfl,rfl,hg,fun i o hi hi2 ho=>?_⟩;simp at hi2;omega
 |o::l,k,φ,σ,hl,hg=>by
  have ho:ops[k]?=some o:=by have:=hl 0 (by simp);simpa using this.symm
  rw[FQ] at hg;unfold oD at hg;split at hg
  ·rename_i hd;replace hd:=GH hd;have go:∀(c0:fO) (g:GV) (σ1:GS),(∀w0,cD P w0 c0)->dO M c0->rX P M false n ops l (i6 φ o.dst g) σ1 (vH K)->
     ((cH ops o φ=some false/\g=.tup []/\σ1=σ)∨(cH ops o φ=some true/\dF P c0 o (d7 φ) σ=some (.val g,σ1)))->
     ∃(call:Nat->fO) (Φ:Nat->Fr) (S:Nat->GS) (G:Nat->GV),(∀i w0,cD P w0 (call i))/\(∀i,dO M (call i))/\Φ k=φ/\S k=σ/\K .normal (Φ (k+(o::l).length)) (S (k+(o::l).length))/\
      ∀(i:Nat) o',k<=i->i<k+(o::l).length->ops[i]?=some o'->(o'.dst.all fun d=>decide (d<n))=true/\Φ (i+1)=i6 (Φ i) o'.dst (G i)/\
       ((cH ops o' (Φ i)=some false/\G i=.tup []/\S (i+1)=S i)∨(cH ops o' (Φ i)=some true/\dF P (call i) o' (d7 (Φ i)) (S i)=some (.val (G i),S (i+1)))):=by
    intro c0 g σ1 hc0 hp0 hrest hstep;obtain⟨call,Φ,S,G,hc,hp,e1,e2,e3,e5⟩:=A7 l (k+1) _ σ1 (fun j hj=>by have:=hl (j+1) (by simp;omega);rw[show k+1+j=k+(j+1) by omega];simpa using this) hrest;refine⟨fun i=>if i=k then c0 else call i,fun i=>if i=k then φ else Φ i,fun i=>if i=k then σ else S i,fun i=>if i=k then g else G i,fun i=>?_,fun i=>?_,aG rfl,aG rfl,?_,fun i o' hi hi2 ho'=>?_⟩
    ·show∀w0,cD P w0 (if i=k then c0 else call i);split
     ·exact hc0
     ·exact hc i
    ·show dO M (if i=k then c0 else call i);split
     ·exact hp0
     ·exact hp i
    ·show K .normal (if k+(l.length+1)=k then φ else Φ (k+(l.length+1))) (if k+(l.length+1)=k then σ else S (k+(l.length+1)));rw[aD (by omega),aD (by omega),show k+(l.length+1)=k+1+l.length by omega];exact e3
    ·by_cases hik:i=k
     ·subst hik;rw[ho] at ho';cases ho';simp only[fK,aD (show i+1≠i by omega),e1,e2];exact⟨hd,trivial,hstep⟩
     ·simp only[aD hik,aD (show i+1≠k by omega)];exact e5 i o' (by omega) (by simp at hi2;omega) ho'
   obtain⟨b,hw,hg⟩:=tL hg;cases b with
   |false=>exact go _ (.tup []) σ gR iH (m9 (K:=fun φ=>rX P M false n ops l φ σ (vH K)) hg) (.inl ⟨hw,rfl,rfl⟩)
   |true=>
    simp only[bT,fM] at hg;obtain⟨r,σ1,⟨call,hcall,hpure,hop⟩,hg⟩:=mP hg;cases r with
    |val g=>exact go call g σ1 hcall hpure (m9 (K:=fun φ=>rX P M false n ops l φ σ1 (vH K)) hg) (.inr ⟨hw,hop⟩)
    |panic g=>exact hg.elim
  ·exact hg.elim
def OZ (P:Program) (M:FuncId->Bool) (T:Nat->Option Nat) (Mk:Nat->List Nat) (i:Nat) (o:Oper) (φ:Fr) (σ:GS) (K:GV->GS->Prop):Prop:=
 let V:GRes->GS->Prop:=fun r s=>match r with|.val g=>K g s|.panic _=>False
 match eX M o.op with
 |0=>wB P M o (d7 φ) σ V
 |1=>if iJ (d7 φ) o.op=T i∨T i=some GY then wB P M o (d7 φ) σ V else False
 |2=>if iJ (d7 φ) o.op=T i then wB P M o (d7 φ) σ V else False
 |3=>match hY P (d7 φ) o.op,T i with
  |some f,some r=>match σ.objs[r]? with
   |some .free=>if σ.lo<=r then rV σ r f.2 fun s=>K (f.1 r) s else False
   |_=>False
  |_,_=>False
 |4=>wB P M o (d7 φ) (nA (Mk i) σ) fun r s=>match r with|.val g=>K g (pJ (Mk i) σ s)|.panic _=>False
 |_=>False
theorem T6 {T:Nat->Option Nat} {Mk:Nat->List Nat} {i:Nat} {o:Oper} {φ:Fr} {σ:GS} {K:GV->GS->Prop} (h:OZ P M T Mk i o φ σ K):
  ∃(call:fO) (g:GV) (σ':GS),((∀w0,cD P w0 call)/\dO M call)/\n8 P M call T Mk i o φ σ=some (g,σ')/\K g σ':=by
 unfold OZ at h;simp only at h;split at h
 ·rename_i hc;obtain⟨r,σ1,⟨call,hcall,hpu,hop⟩,hk⟩:=mP h;cases r with
  |val g=>exact⟨call,g,σ1,⟨hcall,hpu⟩,by unfold n8;rw[hc];simp only[hop,FI],hk⟩
  |panic g=>exact hk.elim
 ·rename_i hc;split at h
  ·rename_i ht;obtain⟨r,σ1,⟨call,hcall,hpu,hop⟩,hk⟩:=mP h;cases r with
   |val g=>exact⟨call,g,σ1,⟨hcall,hpu⟩,by unfold n8;rw[hc];simp only[aG ht,hop,FI],hk⟩
   |panic g=>exact hk.elim
  ·exact h.elim
 ·rename_i hc;split at h
  ·rename_i ht;obtain⟨r,σ1,⟨call,hcall,hpu,hop⟩,hk⟩:=mP h;cases r with
   |val g=>exact⟨call,g,σ1,⟨hcall,hpu⟩,by unfold n8;rw[hc];simp only[aG ht,hop,FI],hk⟩
   |panic g=>exact hk.elim
  ·exact h.elim
 ·rename_i hc;split at h
  ·rename_i f r hf hT;split at h
   ·rename_i hfree;split at h
    ·rename_i hlo;exact⟨_,_,_,⟨gR,iH⟩,by unfold n8;rw[hc];simp only[hf,hT,hfree,aG hlo],m8 (K:=fun s=>K _ s) h⟩
    ·exact h.elim
   ·exact h.elim
  ·exact h.elim
 ·rename_i hc;obtain⟨r,σ1,⟨call,hcall,hpu,hop⟩,hk⟩:=mP h;cases r with
  |val g=>exact⟨call,g,_,⟨hcall,hpu⟩,by unfold n8;rw[hc];simp only[hop,FI],hk⟩
  |panic g=>exact hk.elim
 ·exact h.elim
def KB (P:Program) (o:Oper) (ρ:Operand->GV) (σ:GS) (K:GV->GS->Prop):Prop:=
 match o.op with
 |.call {callee:=.value f,args,..}=>match ρ f with
  |.fn (.func k) first cap=>if lO P k then∃g,(∀τ:GS,τ.lo=σ.lo->Fact P (.fn k) (first++args.toList.map ρ++cap) τ (.val g) τ)/\K g σ else False
  |_=>False
 |_=>False
open Classical in
noncomputable def C4 (t:Tgt) (args:List GV) (lo:Nat) (g:GV):fO:=fun t' a' s'=>if t'=t/\a'=args/\s'.lo=lo then some (.val g,s') else none
theorem PH {o:Oper} {ρ:Operand->GV} {σ:GS} {K:GV->GS->Prop} (h:KB P o ρ σ K):
  ∃(call:fO) (g:GV),((∀w0,cD P w0 call)/\dO M call)/\(∀τ:GS,τ.lo=σ.lo->dF P call o ρ τ=some (.val g,τ))/\K g σ:=by
 unfold KB at h;split at h
 ·rename_i f args ts hop;split at h
  ·rename_i k first cap hf
   split at h
   ·rename_i hk;obtain⟨g,hfact,hK⟩:=h;refine⟨C4 (.fn k) (first++args.toList.map ρ++cap) σ.lo g,g,⟨fun w0 t' a' s r' s' hc=>?_,fun k' hk' a' s r' s' hc=>?_⟩,fun τ hτ=>?_,hK⟩
    ·unfold C4 at hc;split at hc
     ·rename_i hc1;obtain⟨rfl,rfl,hlo⟩:=hc1;cases hc;exact⟨(hfact _ hlo).keep,(hfact _ hlo).ds,(hfact _ hlo).calls w0⟩
     ·cases hc
    ·unfold C4 at hc;split at hc
     ·cases hc;rfl
     ·cases hc
    ·unfold dF;simp only[hop,hf];rw[aG hk];exact aG ⟨rfl,rfl,hτ⟩
   ·exact h.elim
  ·exact h.elim
 ·exact h.elim
def DX (P:Program) (M:FuncId->Bool) (B:Nat->Bool) (T:Nat->Option Nat) (Mk:Nat->List Nat) (i:Nat) (o:Oper) (φ:Fr) (σ:GS) (K:GV->GS->Prop):Prop:=
 bif B i then KB P o (d7 φ) σ K else OZ P M T Mk i o φ σ K
theorem P0 {B:Nat->Bool} {T:Nat->Option Nat} {Mk:Nat->List Nat} {i:Nat} {o:Oper} {φ:Fr} {σ:GS} {K:GV->GS->Prop} (h:DX P M B T Mk i o φ σ K):
  ∃(call:fO) (g:GV) (σ':GS),((∀w0,cD P w0 call)/\dO M call)/\
   ((B i=false/\n8 P M call T Mk i o φ σ=some (g,σ'))∨(B i=true/\σ'=σ/\∀τ:GS,τ.lo=σ.lo->dF P call o (d7 φ) τ=some (.val g,τ)))/\K g σ':=by
 unfold DX at h;cases hb:B i with
 |true=>
  rw[hb] at h;obtain⟨call,g,hc,hf,hk⟩:=PH (M:=M) h;exact⟨call,g,σ,hc,.inr ⟨rfl,rfl,hf⟩,hk⟩
 |false=>
  rw[hb] at h;obtain⟨call,g,σ',hc,hs,hk⟩:=T6 h;exact⟨call,g,σ',hc,.inl ⟨rfl,hs⟩,hk⟩
def nT (P:Program) (M:FuncId->Bool) (B:Nat->Bool) (T:Nat->Option Nat) (Mk:Nat->List Nat) (n:Nat) (ops:Array Oper) (l:List Oper):Nat->pQ:=
 List.rec (motive:=fun _=>Nat->pQ) (fun _ φ σ K=>K .normal φ σ) (fun o _ ih i φ σ K=>
  if(o.dst.all fun d=>Nat.blt d n) then
   BK ops o φ fun b φ=>match b with
   |false=>vI φ o.dst (.tup []) fun φ=>ih (i+1) φ σ K
   |true=>DX P M B T Mk i o φ σ fun g σ'=>vI φ o.dst g fun φ=>ih (i+1) φ σ' K
  else False) l
theorem JW {B:Nat->Bool} {T:Nat->Option Nat} {Mk:Nat->List Nat} {o:Oper} {l:List Oper} {i:Nat} {φ:Fr} {σ:GS} {K:GX->Fr->GS->Prop}:
  nT P M B T Mk n ops (o::l) i φ σ K=if(o.dst.all fun d=>Nat.blt d n) then
   BK ops o φ fun b φ=>match b with
   |false=>vI φ o.dst (.tup []) fun φ=>nT P M B T Mk n ops l (i+1) φ σ K
   |true=>DX P M B T Mk i o φ σ fun g σ'=>vI φ o.dst g fun φ=>nT P M B T Mk n ops l (i+1) φ σ' K
  else False:=rfl
theorem xW {B:Nat->Bool} {T:Nat->Option Nat} {Mk:Nat->List Nat} {K:GX->Fr->GS->Prop}:∀(l:List Oper) (k:Nat) (φ:Fr) (σ:GS),(∀j:Nat,l[j]?=ops[k+j]?)->nT P M B T Mk n ops l k φ σ K->
  ∃(call:Nat->fO) (Φ:Nat->Fr) (S:Nat->GS) (G:Nat->GV),(∀i,(∀w0,cD P w0 (call i))/\dO M (call i))/\Φ k=φ/\S k=σ/\K .normal (Φ (k+l.length)) (S (k+l.length))/\
   ∀(i:Nat) o,k<=i->ops[i]?=some o->(o.dst.all fun d=>decide (d<n))=true/\Φ (i+1)=i6 (Φ i) o.dst (G i)/\
    ((cH ops o (Φ i)=some false/\G i=.tup []/\S (i+1)=S i)∨(cH ops o (Φ i)=some true/\B i=false/\n8 P M (call i) T Mk i o (Φ i) (S i)=some (G i,S (i+1)))∨
     (cH ops o (Φ i)=some true/\B i=true/\S (i+1)=S i/\∀τ:GS,τ.lo=(S i).lo->dF P (call i) o (d7 (Φ i)) τ=some (.val (G i),τ)))
 |[],k,φ,σ,hl,hg=>by
  refine⟨fun _ _ _ _=>none,fun _=>φ,fun _=>σ,fun _=>.any,fun _=>⟨gR,iH⟩,rfl,rfl,hg,fun i o hi ho=>?_⟩;have:=hl (i - k);rw[show k+(i - k)=i by omega,ho] at this;simp at this
 |o::l,k,φ,σ,hl,hg=>by
  have ho:ops[k]?=some o:=by have:=hl 0;simpa using this.symm
  rw[JW] at hg;split at hg
  ·rename_i hd;replace hd:=GH hd;have go:∀(c0:fO) (g:GV) (σ1:GS),((∀w0,cD P w0 c0)/\dO M c0)->nT P M B T Mk n ops l (k+1) (i6 φ o.dst g) σ1 K->
     ((cH ops o φ=some false/\g=.tup []/\σ1=σ)∨(cH ops o φ=some true/\B k=false/\n8 P M c0 T Mk k o φ σ=some (g,σ1))∨(cH ops o φ=some true/\B k=true/\σ1=σ/\∀τ:GS,τ.lo=σ.lo->dF P c0 o (d7 φ) τ=some (.val g,τ)))->
     ∃(call:Nat->fO) (Φ:Nat->Fr) (S:Nat->GS) (G:Nat->GV),(∀i,(∀w0,cD P w0 (call i))/\dO M (call i))/\Φ k=φ/\S k=σ/\K .normal (Φ (k+(o::l).length)) (S (k+(o::l).length))/\
      ∀(i:Nat) o,k<=i->ops[i]?=some o->(o.dst.all fun d=>decide (d<n))=true/\Φ (i+1)=i6 (Φ i) o.dst (G i)/\
       ((cH ops o (Φ i)=some false/\G i=.tup []/\S (i+1)=S i)∨(cH ops o (Φ i)=some true/\B i=false/\n8 P M (call i) T Mk i o (Φ i) (S i)=some (G i,S (i+1)))∨
     (cH ops o (Φ i)=some true/\B i=true/\S (i+1)=S i/\∀τ:GS,τ.lo=(S i).lo->dF P (call i) o (d7 (Φ i)) τ=some (.val (G i),τ))):=by
    intro c0 g σ1 hc0 hrest hstep;obtain⟨call,Φ,S,G,hc,e1,e2,e3,e5⟩:=xW l (k+1) _ σ1 (fun j=>by have:=hl (j+1);rw[show k+1+j=k+(j+1) by omega];simpa using this) hrest;refine⟨fun i=>if i=k then c0 else call i,fun i=>if i=k then φ else Φ i,fun i=>if i=k then σ else S i,fun i=>if i=k then g else G i,fun i=>?_,aG rfl,aG rfl,?_,fun i o' hi ho'=>?_⟩
    ·show(∀w0,cD P w0 (if i=k then c0 else call i))/\dO M (if i=k then c0 else call i);split
     ·exact hc0
     ·exact hc i
    ·show K .normal (if k+(l.length+1)=k then φ else Φ (k+(l.length+1))) (if k+(l.length+1)=k then σ else S (k+(l.length+1)));rw[aD (by omega),aD (by omega),show k+(l.length+1)=k+1+l.length by omega];exact e3
    ·by_cases hik:i=k
     ·subst hik;rw[ho] at ho';cases ho';simp only[fK,aD (show i+1≠i by omega),e1,e2];exact⟨hd,trivial,hstep⟩
     ·simp only[aD hik,aD (show i+1≠k by omega)];exact e5 i o' (by omega) ho'
   obtain⟨b,hw,hg⟩:=tL hg;cases b with
   |false=>exact go _ (.tup []) σ ⟨gR,iH⟩ (m9 (K:=fun φ=>nT P M B T Mk n ops l (k+1) φ σ K) hg) (.inl ⟨hw,rfl,rfl⟩)
   |true=>
    obtain⟨call,g,σ1,hcall,hop,hg⟩:=P0 hg;exact go call g σ1 hcall (m9 (K:=fun φ=>nT P M B T Mk n ops l (k+1) φ σ1 K) hg) (.inr (hop.imp (fun q=>⟨hw,q⟩) fun q=>⟨hw,q⟩))
  ·exact hg.elim
end
def GDef.ren (f:Nat->Nat):GDef->GDef
 |.fn k a c=>.fn k (a.map (GV.ren f)) (c.map (GV.ren f))
 |.coll r=>.coll (f r)
structure Shr (n0:Nat) (φ:Fr) (σ:GS) (φ1:Fr) (σ1:GS):Prop where
 ex:∃ks:List Nat,Lies ks σ1.objs σ.objs/\(∀i,i<n0->ks[i]?=some i)/\σ.ds=σ1.ds.map (GDef.ren (jI ks σ.objs.length))/\∀t,φ t=(φ1 t).ren (jI ks σ.objs.length)∨φ1 t=.any
structure GLoop (f:Fr->GS->(GX->Fr->GS->Prop)->Prop) (φ:Fr) (σ:GS) (K:GX->Fr->GS->Prop):Prop where
 ex:∃(I N:Nat->Fr->GS->Prop) (m:Nat),I m φ σ/\(∀m φ' σ',N m φ' σ'->I m φ' σ'∨∃φ2 σ2,Shr σ.objs.length φ' σ' φ2 σ2/\I m φ2 σ2)/\∀m φ1 σ1,I m φ1 σ1->f φ1 σ1 fun x φ' σ'=>match x with
  |.normal=>∃m',m'<m/\N m' φ' σ'
  |.exit i=>K (.exit i) φ' σ'
  |.ret=>K .ret φ' σ'
  |.panic g=>K (.panic g) φ' σ'
theorem GDefR.pull {D E:Cx} {f:Nat->Nat} (hfx:∀b o v,D.fx b o v->E.fx b o v) (hbk:∀i,E.bk i=D.bk (f i)) (hown:∀i,E.own i=D.own (f i)):∀{g:GDef} {d:Deferred},GDefR D (g.ren f) d->GDefR E g d
 |.fn _ _ _,_,⟨va,vc,e,h1,h2⟩=>⟨va,vc,e,h1.pull hfx hbk hown,h2.pull hfx hbk hown⟩
 |.coll r,_,⟨b,h1,e⟩=>⟨b,(hbk r).trans h1,e⟩
theorem DRel.pull {D E:Cx} {f:Nat->Nat} (hfx:∀b o v,D.fx b o v->E.fx b o v) (hbk:∀i,E.bk i=D.bk (f i)) (hown:∀i,E.own i=D.own (f i)):∀{gs:List GDef} {ds:List Deferred},DRel D (gs.map (GDef.ren f)) ds->DRel E gs ds
 |[],[],_=>trivial
 |_::_,_::_,⟨h1,h2⟩=>⟨h1.pull hfx hbk hown,DRel.pull hfx hbk hown h2⟩
 |[],_::_,h=>h.elim
 |_::_,[],h=>h.elim
theorem Shr.rel {C D:Cx} {w0 w wc:World} {σ0 σ σ1:GS} {φ φ1:Fr} {a:Act} (h:Shr σ0.objs.length φ σ φ1 σ1) (hc:Rel C σ0 w0 wc) (hl:C.le D) (hr:Rel D σ w0 w) (hf:FRel D φ a) (hd:DRel D σ.ds a.defers):
  ∃E:Cx,C.le E/\Rel E σ1 w0 w/\FRel E φ1 a/\DRel E σ1.ds a.defers:=by
 obtain⟨ks,hlies,hpre,hds,hφ⟩:=h.ex;have atb:∀i,i<σ0.objs.length->jI ks σ.objs.length i=i:=fun i hi=>by
  have h3:=hpre i hi;obtain⟨h4,h5⟩:=List.getElem?_eq_some_iff.1 h3;rw[kS h4,h5]
 have hp:=hr.pull hlies;refine⟨D.pull (jI ks σ.objs.length),⟨hl.fx,fun i b hb'=>?_,fun i I hI=>?_,hl.hd,hl.fix⟩,⟨hp.below,hp.fxc,hp.obj,hp.dom,hp.new,hp.inj,hp.sepB,hp.sepO,hp.fxn,hp.gl,hp.gs⟩,fun t=>?_,?_⟩
 ·have hi:i<σ0.objs.length:=by
   rcases eO i σ0.objs.length with h4|h4
   ·exact h4
   ·rw[(hc.dom i h4).1] at hb';cases hb'
  show D.bk (jI ks σ.objs.length i)=some b;rw[atb i hi];exact hl.bk i b hb'
 ·have hi:i<σ0.objs.length:=by
   rcases eO i σ0.objs.length with h4|h4
   ·exact h4
   ·rw[(hc.dom i h4).2] at hI;cases hI
  show∃J,D.own (jI ks σ.objs.length i)=some J/\_;rw[atb i hi];exact hl.own i I hI
 ·rcases hφ t with e|e
  ·have:=hf t;rw[e] at this;exact this.pull (D:=D) (f:=jI ks σ.objs.length) (E:=D.pull (jI ks σ.objs.length)) (fun _ _ _ h=>h) (fun _=>rfl) (fun _=>rfl) rfl
  ·rw[e];exact .any _
 ·rw[hds] at hd;exact hd.pull (D:=D) (f:=jI ks σ.objs.length) (E:=D.pull (jI ks σ.objs.length)) (fun _ _ _ h=>h) (fun _=>rfl) (fun _=>rfl)
def YV:fO:=fun _ _ _=>none
def a1t (P:Program) (M:FuncId->Bool) (ops:Array Oper) (op:Oper) (φ:Fr) (σ:GS) (K:GV->GS->Prop):Prop:=
 BK ops op φ fun b φ=>match b with
 |true=>wB P M op (d7 φ) σ fun r σ'=>match r with
  |.panic g=>K g σ'
  |.val _=>False
 |false=>False
structure GDraw (P:Program) (M:FuncId->Bool) (n:Nat) (ops:Array Oper) (φ:Fr) (σ:GS) (K:GX->Fr->GS->Prop):Prop where
 ex:(calm M ops=true/\rX P M false n ops ops.toList φ σ (vH K))∨
  (∃(B:Nat->Bool) (A:List (List Nat)) (TL:List (Option Nat)) (k:Nat),A=oT ops.toList []/\k=(ops.toList.filter fun o=>eX M o.op==3).length/\
   rN M B ops A TL (σ.objs++List.replicate k GObj.free).length=true/\
   nT P M B (fun i=>TL.getD i none) (n7 M ops A TL) n ops ops.toList 0 φ {σ with objs:=σ.objs++List.replicate k .free} K)∨
  (∃p op,ops[p]?=some op/\y5 P M n ops p=true/\rX P M false n ops (ops.toList.take p) φ σ (vH fun _ φ1 σ1=>a1t P M ops op φ1 σ1 fun g σ'=>K (.panic g) (W8 ops φ) σ'))
theorem GDraw.pan {P:Program} {M:FuncId->Bool} {n:Nat} {ops:Array Oper} {φ:Fr} {σ:GS} {K:GX->Fr->GS->Prop} (p:Nat) (op:Oper) (ho:ops[p]?=some op) (h:y5 P M n ops p=true)
  (g:rX P M false n ops (ops.toList.take p) φ σ (vH fun _ φ1 σ1=>a1t P M ops op φ1 σ1 fun g σ'=>K (.panic g) (W8 ops φ) σ')):GDraw P M n ops φ σ K:=⟨.inr (.inr ⟨p,op,ho,h,g⟩)⟩
theorem GDraw.calm {P:Program} {M:FuncId->Bool} {n:Nat} {ops:Array Oper} {φ:Fr} {σ:GS} {K:GX->Fr->GS->Prop} (h:Go.Proofs.YtcfgfkkhpdlhpaaGreatDoor.calm M ops=true) (k:rX P M false n ops ops.toList φ σ (vH K)):GDraw P M n ops φ σ K:=⟨.inl ⟨h,k⟩⟩
def b6:=@GDraw.calm
theorem GDraw.wild {P:Program} {M:FuncId->Bool} {n:Nat} {ops:Array Oper} {φ:Fr} {σ:GS} {K:GX->Fr->GS->Prop} (A:List (List Nat)) (TL:List (Option Nat)) (k:Nat) (hA:oT ops.toList []=A) (hT:r5 P M YV GY σ ops.toList σ.objs.length φ=TL)
  (hk:(ops.toList.filter fun o=>eX M o.op==3).length=k) (h:Go.Proofs.YtcfgfkkhpdlhpaaGreatDoor.wild M ops A TL (σ.objs++List.replicate k GObj.free).length=true)
  (g:nT P M (fun _=>false) (fun i=>TL.getD i none) (n7 M ops A TL) n ops ops.toList 0 φ {σ with objs:=σ.objs++List.replicate k .free} K):GDraw P M n ops φ σ K:=⟨.inr (.inl ⟨_,A,TL,k,hA.symm,hk.symm,h,g⟩)⟩
theorem GDraw.wildT {P:Program} {M:FuncId->Bool} {n:Nat} {ops:Array Oper} {φ:Fr} {σ:GS} {K:GX->Fr->GS->Prop} (TL:List (Option Nat)) {A:List (List Nat)} {k:Nat} (hA:oT ops.toList []=A)
  (hk:(ops.toList.filter fun o=>eX M o.op==3).length=k) (h:Go.Proofs.YtcfgfkkhpdlhpaaGreatDoor.wild M ops A TL (σ.objs++List.replicate k GObj.free).length=true)
  (g:nT P M (fun _=>false) (fun i=>TL.getD i none) (n7 M ops A TL) n ops ops.toList 0 φ {σ with objs:=σ.objs++List.replicate k .free} K):GDraw P M n ops φ σ K:=⟨.inr (.inl ⟨_,A,TL,k,hA.symm,hk.symm,h,g⟩)⟩
def iQ:=@GDraw.wildT
def JZ (P:Program) (M:FuncId->Bool) (ro:Option Nat) (n:Nat) (ops:Array Oper) (draw:Bool):pQ:=fun φ σ K=>
 match draw with
 |true=>GDraw P M n ops φ σ K
 |false=>uU P (fun _=>false) ro.isNone n ops ops.toList φ σ K
def a1E (a b:pQ):pQ:=fun φ σ K=>a φ σ fun x φ' σ'=>match x with
 |.normal=>b φ' σ' K
 |.exit i=>K (.exit i) φ' σ'
 |.ret=>K .ret φ' σ'
 |.panic g=>K (.panic g) φ' σ'
def WQ (c:Operand) (a b:pQ):pQ:=fun φ σ K=>PD φ c fun t φ=>match t with
 |true=>a φ σ K
 |false=>b φ σ K
def PG (id:Nat) (c:pQ):pQ:=fun φ σ K=>c φ σ fun x φ' σ'=>match x with
 |.exit i=>Bool.rec (motive:=fun _=>Prop) (K (.exit i) φ' σ') (K .normal φ' σ') (Nat.beq i id)
 |.normal=>K .normal φ' σ'
 |.ret=>K .ret φ' σ'
 |.panic g=>K (.panic g) φ' σ'
def P3 (P:Program) (ro:Option Nat) (n:Nat) (f:Operand) (ps:Array Tmp) (asg body:Code):pQ:=fun φ σ K=>
 match d7 φ f with
 |.fn (.func k) first cap=>
  if lO P k then
   match BU ro σ with
   |some (rd,σ1)=>∃r σ2,Fact P (.fn k) (first++.yld σ1.objs.length::cap) (gnew σ1 (.loop .ready none n φ ps asg body rd)) r σ2/\
    match r with
    |.val _=>tM (tO σ1.objs.length φ σ2) fun q=>K q.1 q.2.1 q.2.2
    |.panic g=>K (.panic g) φ σ2
   |none=>False
  else False
 |_=>False
def OW (P:Program) (M:FuncId->Bool) (ro:Option Nat) (n:Nat) (c:Code):pQ:=
 Code.rec (motive:=fun _=>pQ)
  (fun φ σ K=>K .normal φ σ)
  (fun _ ops draw=>JZ P M ro n ops draw)
  (fun _ _ a b=>a1E a b)
  (fun c _ _ a b=>WQ c a b)
  (fun id _ c=>PG id c)
  (fun _ c=>GLoop c)
  (fun f ps asg body _ _=>P3 P ro n f ps asg body)
  (fun id φ σ K=>K (.exit id) φ σ)
  (fun _ _ _ _ _=>False)
  (fun _ φ σ K=>K .normal φ σ)
  (fun _ _ _ _=>False)
  (fun φ σ K=>K .ret φ σ)
  (fun _ _ _ _=>False)
  c
section
variable {P : Program} {M : FuncId → Bool} {w0 : World} {n : Nat} {ro : Option Nat}
theorem xA (hm:P.follows .mixedOrders=true):∀(c:Code) (Q:Exit->Act->World->Prop) (K:GX->Fr->GS->Prop) (C:Cx) (rb:Option Nat) (φ:Fr) (σ:GS) (a:Act) (w:World),
  OW P M ro n c φ σ K->RoR C ro rb->Rel C σ w0 w->FRel C φ a->a.tmps.size=n->DRel C σ.ds a.defers->(∀x φ' σ',K x φ' σ'->QOk w0 C Q n x φ' σ')->c.wpIn (FW rb) 0 P Q a w:=by
 intro c;induction c with
 |skip=>intro Q K C rb φ σ a w h ho hr hf hn hd hq;exact wpIn_skip (hq _ _ _ h C a w (.refl C) hf hn hd hr)
 |label l=>intro Q K C rb φ σ a w h ho hr hf hn hd hq;exact wpIn_label (hq _ _ _ h C a w (.refl C) hf hn hd hr)
 |exit id=>intro Q K C rb φ σ a w h ho hr hf hn hd hq;exact wpIn_exit (hq _ _ _ h C a w (.refl C) hf hn hd hr)
 |ret=>intro Q K C rb φ σ a w h ho hr hf hn hd hq;exact wpIn_ret (hq _ _ _ h C a w (.refl C) hf hn hd hr)
 |region id ops draw=>
  intro Q K C rb φ σ a w h ho hr hf hn hd hq;replace h:JZ P M ro n ops draw φ σ K:=h;unfold JZ at h;cases draw with
  |true=>
   rcases h.ex with⟨hcalm,h⟩|⟨B,A,TL,k,rfl,rfl,hwild,h⟩|⟨p,op,hop,hcp,h⟩
   ·obtain⟨call,Φ,S,G,hc,hp,e1,e2,e3,e5⟩:=CT ops.toList 0 φ σ (fun j=>by simp) h;rw[bH,bJ] at e3;exact GI hm (fun i=>hc i w0) hp hcalm (⟨fun i o ho=>e5 i o (zL _) ho⟩:Trace P call n ops Φ S G) e1 e2 rfl rfl hr hf hn hd (hq _ _ _ e3)
   ·obtain⟨call,Φ,S,G,hc,e1,e2,e3,e5⟩:=xW ops.toList 0 φ _ (fun j=>by simp) h;rw[bH,bJ] at e3;exact CX (B:=B) (call:=call) hm (fun i=>(hc i).1 w0) (fun i=>(hc i).2) rfl hwild ⟨fun i o ho=>e5 i o (zL _) ho⟩ e1 e2 rfl rfl rfl (hr.frees _) hf hn hd (hq _ _ _ e3)
   ·have hps:p<ops.size:=(Array.getElem?_eq_some_iff.1 hop).1;have hlen:(ops.toList.take p).length=p:=by simp;omega
    obtain⟨call,Φ,S,G,hc,hp,e1,e2,e3,e5⟩:=A7 (ops.toList.take p) 0 φ σ (fun j hj=>by rw[hlen] at hj;rw[dJ,aG hj];simp) h;rw[bH,hlen] at e3;obtain⟨b,hw,e3⟩:=tL e3;cases b with
    |false=>exact e3.elim
    |true=>
     obtain⟨r,σ',⟨cp,hcp1,hcp2,hop'⟩,hk⟩:=mP e3;cases r with
     |val g=>exact hk.elim
     |panic g=>
      refine CW (call:=fun i=>if i=p then cp else call i) (Φ:=Φ) (S:=S) (G:=G) hm (fun i=>?_) (fun i=>?_) hcp hop (fun i o hi ho=>?_) hw (by rw[aG rfl];exact hop') e1 e2 hr hf hn hd (hq _ _ _ hk)
      ·show cD P w0 (if i=p then cp else call i);split
       ·exact hcp1 w0
       ·exact hc i w0
      ·show dO M (if i=p then cp else call i);split
       ·exact hcp2
       ·exact hp i
      ·rw[aD (show i≠p by omega)];exact e5 i o (zL _) (by rw[hlen];omega) ho
  |false=>exact wpIn_region_list (xX (fun e=>ho.none_of e) _ C φ σ a w (by simpa using h) hr hf hn hd hq)
 |seq c1 c2 ih1 ih2=>
  intro Q K C rb φ σ a w h ho hr hf hn hd hq;replace h:a1E (OW P M ro n c1) (OW P M ro n c2) φ σ K:=h;unfold a1E at h;refine wpIn_seq (ih1 _ _ C rb φ σ a w h ho hr hf hn hd (fun x φ' σ' hk D a1 w1 hl hf1 hn1 hd1 hr1=>?_));cases x with
  |normal=>exact ih2 Q K D rb φ' σ' a1 w1 hk (ho.mono hl) hr1 hf1 hn1 hd1 (fun x φ' σ' hk=>(hq x φ' σ' hk).mono hl)
  |exit id=>exact hq _ _ _ hk D a1 w1 hl hf1 hn1 hd1 hr1
  |ret=>exact hq _ _ _ hk D a1 w1 hl hf1 hn1 hd1 hr1
  |panic g=>exact hq _ _ _ hk D a1 w1 hl hf1 hn1 hd1 hr1
 |cond c c1 c2 ih1 ih2=>
  intro Q K C rb φ σ a w h ho hr hf hn hd hq;replace h:WQ c (OW P M ro n c1) (OW P M ro n c2) φ σ K:=h;unfold WQ at h;obtain⟨t,ht,h⟩:=TC h;have hv:=dN hf c;rw[ht] at hv;generalize hu:a.eval c=u at hv;cases hv;refine wpIn_cond hu ?_;cases t with
  |true=>exact ih1 Q K C rb φ σ a w h ho hr hf hn hd hq
  |false=>exact ih2 Q K C rb φ σ a w h ho hr hf hn hd hq
 |block id c ih=>
  intro Q K C rb φ σ a w h ho hr hf hn hd hq;replace h:PG id (OW P M ro n c) φ σ K:=h;unfold PG at h;refine wpIn_block (ih _ _ C rb φ σ a w h ho hr hf hn hd (fun x φ' σ' hk D a1 w1 hl hf1 hn1 hd1 hr1=>?_));cases x with
  |normal=>exact hq _ _ _ hk D a1 w1 hl hf1 hn1 hd1 hr1
  |exit i=>
   show if i=id then Q .normal a1 w1 else Q (.exit i) a1 w1;have hk':Bool.rec (motive:=fun _=>Prop) (K (.exit i) φ' σ') (K .normal φ' σ') (Nat.beq i id):=hk;split
   ·rename_i hi;subst hi;rw[Nat.beq_refl] at hk';exact hq _ _ _ hk' D a1 w1 hl hf1 hn1 hd1 hr1
   ·rename_i hi;cases hb:Nat.beq i id with
    |true=>exact absurd (Nat.eq_of_beq_eq_true hb) hi
    |false=>
     rw[hb] at hk';exact hq _ _ _ hk' D a1 w1 hl hf1 hn1 hd1 hr1
  |ret=>exact hq _ _ _ hk D a1 w1 hl hf1 hn1 hd1 hr1
  |panic g=>exact hq _ _ _ hk D a1 w1 hl hf1 hn1 hd1 hr1
 |loop c ih=>
  intro Q K C rb φ σ a w h ho hr hf hn hd hq;replace h:GLoop (OW P M ro n c) φ σ K:=h;obtain⟨I,N,m,hI,hN,hstep⟩:=h.ex;refine sN (m+1) ?_;have key:∀(k m:Nat) (D:Cx) (φ1:Fr) (σ1:GS) (a:Act) (w:World),m<k->I m φ1 σ1->C.le D->Rel D σ1 w0 w->FRel D φ1 a->a.tmps.size=n->
    DRel D σ1.ds a.defers->qQ (FW rb) 0 P c Q k a w:=by
   intro k;induction k with
   |zero=>intro m D φ1 σ1 a w hm;omega
   |succ k ihk=>
    intro m D φ1 σ1 a w hm hI hCD hr1 hf1 hn1 hd1;unfold qQ;refine ih _ _ D rb φ1 σ1 a w (hstep m φ1 σ1 hI) (ho.mono hCD) hr1 hf1 hn1 hd1 (fun x φ' σ' hk D1 a1 w1 hl hf2 hn2 hd2 hr2=>?_);cases x with
    |normal=>
     obtain⟨m',hm',hk⟩:=hk;rcases hN _ _ _ hk with hI'|⟨φ2,σ2,hs,hI'⟩
     ·exact ihk m' D1 φ' σ' a1 w1 (by omega) hI' (hCD.trans hl) hr2 hf2 hn2 hd2
     ·obtain⟨E,hE,hrE,hfE,hdE⟩:=hs.rel hr (hCD.trans hl) hr2 hf2 hd2;exact ihk m' E φ2 σ2 a1 w1 (by omega) hI' hE hrE hfE hn2 hdE
    |exit id=>exact hq _ _ _ hk D1 a1 w1 (hCD.trans hl) hf2 hn2 hd2 hr2
    |ret=>exact hq _ _ _ hk D1 a1 w1 (hCD.trans hl) hf2 hn2 hd2 hr2
    |panic g=>exact hq _ _ _ hk D1 a1 w1 (hCD.trans hl) hf2 hn2 hd2 hr2
  exact key (m+1) m C φ σ a w (by omega) hI (.refl C) hr hf hn hd
 |rangeFunc f ps asg body iha ihb=>
  intro Q K C rb φ σ a w h ho hr hf hn hd hq;replace h:P3 P ro n f ps asg body φ σ K:=h;unfold P3 at h;split at h
  ·rename_i k first cap hfv
   split at h
   ·rename_i hk;split at h
    ·rename_i rd σ1 hent;obtain⟨r,σ2,hfact,h⟩:=h;cases r with
     |val g=>
      obtain⟨⟨x,φ',σ'⟩,he,h⟩:=l8 h;refine mS (call:=rO _ _ _ _ _) (M:=fun _=>false) (m:=0) hm (s9 hfact w0) (fun _ hk=>by cases hk) (.rangeFunc f ps asg body) Q C rb φ φ' σ σ' x a w ?_ ho hr hf hn hd (hq _ _ _ h);simp only[gU,hfv,hent];rw[aG hk];simp only[y9,he]
     |panic g=>
      refine mS (call:=rO _ _ _ _ _) (M:=fun _=>false) (m:=0) hm (s9 hfact w0) (fun _ hk=>by cases hk) (.rangeFunc f ps asg body) Q C rb φ φ σ σ2 (.panic g) a w ?_ ho hr hf hn hd (hq _ _ _ h);simp only[gU,hfv,hent];rw[aG hk];simp only[y9]
    ·exact h.elim
   ·exact h.elim
  ·exact h.elim
 |_=>intro Q K C rb φ σ a w h;exact h.elim
end
def WW (P:Program) (fn:Func) (R:GRes->GS->Prop):GX->Fr->GS->Prop
 |.normal,φ,σ=>tM (kP P (fun _=>false) (fun _ _ _=>none) 50 fn φ σ.ds .ret σ) fun q=>R q.1 q.2
 |.ret,φ,σ=>tM (kP P (fun _=>false) (fun _ _ _=>none) 50 fn φ σ.ds .ret σ) fun q=>R q.1 q.2
 |.panic g,φ,σ=>tM (kP P (fun _=>false) (fun _ _ _=>none) 50 fn φ σ.ds (.pan g) σ) fun q=>R q.1 q.2
 |.exit _,_,_=>False
def WkRes:GRes->GRes->Prop
 |.val g,.val h=>Wk g h
 |.panic g,.panic h=>Wk g h
 |_,_=>False
theorem WkRes.erel {C:Cx} {r r':GRes} {e:Ending} (h:WkRes r r') (he:ERel C r e):ERel C r' e:=by
 cases r<;>cases r'<;>first|exact h.elim|skip
 ·obtain⟨v,e1,h1⟩:=he;exact⟨v,e1,h C v h1⟩
 ·obtain⟨v,e1,h1⟩:=he;exact⟨v,e1,h C v h1⟩
theorem WkRes.refl:∀r:GRes,WkRes r r
 |.val g=>cY g
 |.panic g=>cY g
structure Owes (s:List GObj) (r:GRes) (s':List GObj) (r0:GRes) (σ0:GS):Prop where
 ex:∃ks:List Nat,Lies ks s' σ0.objs/\(∀i,i<s.length->ks[i]?=some i)/\WkRes r0 (r.ren (jI ks σ0.objs.length))
def GObj.notHeld:GObj->Bool
 |.held=>false
 |_=>true
theorem SC.of_gwp {P:Program} (M:FuncId->Bool) (hm:P.follows .mixedOrders=true) {k:FuncId} {fn:Func} {c:Code} (hfn:P.funcs[k]?=some fn) (hb:fn.body=some c) {args:List GV} {s s':List GObj} {r:GRes}
  (hlen:args.length<=fn.ntmps) (hs:s.length<=s'.length) (hh0:s'.all GObj.notHeld=true) (h:OW P M none fn.ntmps c (sG args) ⟨s,0,[]⟩ (WW P fn (Owes s r s'))):SC P k args s r s':=by
 have hh:∀x∈s',x≠ .held:=fun x hx e=>by subst e;have:=List.all_eq_true.1 hh0 _ hx;cases this
 refine⟨hs,fun C w vs hr hv=>?_,hh⟩;obtain⟨h1,h2⟩:=uT (fn:=fn) hlen hv;have fin:∀(φ':Fr) (σ1:GS) (u:GMode) (D:Cx) (a':Act) (w':World) (um:FrameMode),tM (kP P (fun _=>false) (fun _ _ _=>none) 50 fn φ' σ1.ds u σ1) (fun q=>Owes s r s' q.1 q.2)->
   C.le D->FRel D φ' a'->DRel D σ1.ds a'.defers->Rel D σ1 w w'->MRel D u um->nV P fn a'.tmps (fun e w'=>∃D,C.le D/\Rel D ⟨s',0,[]⟩ w w'/\ERel D r e) a'.defers um w':=by
  intro φ' σ1 u D a' w' um hk hl hf' hd' hr' hmr;obtain⟨⟨r0,σ2⟩,hlv,⟨ks,hlies,hpre,hwk⟩⟩:=l8 hk;refine(pM (tmps:=a'.tmps) (w0:=w) hm (gR w) iH _ _ _ hlv).2 D w' a'.defers um hr' hf' hd' hmr (fun E e w'' hE hrE he=>?_);refine⟨E.pull (jI ks σ2.objs.length),?_,hrE.pull hlies,?_⟩
  ·have hlE:=hl.trans hE;have atb:∀i,i<s.length->jI ks σ2.objs.length i=i:=fun i hi=>by
    have h3:=hpre i hi;obtain⟨h4,h5⟩:=List.getElem?_eq_some_iff.1 h3;rw[kS h4,h5]
   refine⟨hlE.fx,fun i b hb'=>?_,fun i I hI=>?_,?_,hlE.fix⟩
   ·have hi:i<s.length:=by
     rcases eO i s.length with h4|h4
     ·exact h4
     ·rw[(hr.dom i h4).1] at hb';cases hb'
    show E.bk (jI ks σ2.objs.length i)=some b;rw[atb i hi];exact hlE.bk i b hb'
   ·have hi:i<s.length:=by
     rcases eO i s.length with h4|h4
     ·exact h4
     ·rw[(hr.dom i h4).2] at hI;cases hI
    show∃J,E.own (jI ks σ2.objs.length i)=some J/\_;rw[atb i hi];exact hlE.own i I hI
   ·exact hlE.hd
  ·exact(hwk.erel he).pull (D:=E) (f:=jI ks σ2.objs.length) (E:=E.pull (jI ks σ2.objs.length)) (fun _ _ _ h=>h) (fun _=>rfl) (fun _=>rfl)
 refine vB hfn hb (wpIn_wide (n:=0).1 (xA (w0:=w) (ro:=none) (n:=fn.ntmps) hm c _ _ C none _ _ _ w h trivial hr h1 h2 trivial (fun x φ' σ1 hk D a' w' hl hf' hn' hd' hr'=>?_)));cases x with
 |normal=>exact fin φ' σ1 .ret D a' w' .returning hk hl hf' hd' hr' rfl
 |ret=>exact fin φ' σ1 .ret D a' w' .returning hk hl hf' hd' hr' rfl
 |exit id=>exact hk.elim
 |panic g=>exact fun v hv=>fin φ' σ1 (.pan g) D a' w' (.panicking [{v,recovered:=false}]) hk hl hf' hd' hr' ⟨v,rfl,hv⟩
def cR:=@SC.of_gwp
