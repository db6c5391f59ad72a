/- Part of HostValues. -/
import Derived.Test.YtmnjcddcihdlfaaGreatDoorV19
set_option linter.all false
namespace Go.Proofs.YtmnjcddcihdlfaaGreatDoor
section
open Go.RowKit
variable [Globals]
abbrev HR:=Option GRes
noncomputable def oG {β:Type} (n:Nat) (K:Nat->β):β:=Nat.rec (motive:=fun _=>β) (K 0) (fun m _=>K (Nat.succ m)) n
theorem kP {β:Type} (n:Nat) (K:Nat->β):oG n K=K n:=by cases n<;>rfl
noncomputable def WV {β:Type} (n:Int) (K:Int->β):β:=Int.rec (motive:=fun _=>β) (fun n=>oG n fun n=>K (Int.ofNat n)) (fun n=>oG n fun n=>K (Int.negSucc n)) n
theorem HP {β:Type} (n:Int) (K:Int->β):WV n K=K n:=by
 cases n with
 |ofNat n=>exact kP n fun n=>K (.ofNat n)
 |negSucc n=>exact kP n fun n=>K (.negSucc n)
noncomputable def UK {β:Type} (b:Bool) (K:Bool->β):β:=Bool.rec (motive:=fun _=>β) (K false) (K true) b
theorem KW {β:Type} (b:Bool) (K:Bool->β):UK b K=K b:=by cases b<;>rfl
noncomputable def iA {α β:Type} (l:List α):(List α->β)->β:=
 List.rec (motive:=fun _=>(List α->β)->β) (fun K=>K []) (fun x _ ih K=>ih fun ys=>K (x::ys)) l
theorem f9 {α β:Type}:∀(l:List α) (K:List α->β),iA l K=K l:=by
 intro l;induction l with
 |nil=>intro K;rfl
 |cons x l ih=>intro K;exact ih fun ys=>K (x::ys)
noncomputable def tJ {α β:Type} (f:α->(α->β)->β) (l:List α):(List α->β)->β:=
 List.rec (motive:=fun _=>(List α->β)->β) (fun K=>K []) (fun x _ ih K=>f x fun x=>ih fun ys=>K (x::ys)) l
theorem yH {α β:Type} {f:α->(α->β)->β} (hf:∀x K,f x K=K x):∀(l:List α) (K:List α->β),tJ f l K=K l:=by
 intro l;induction l with
 |nil=>intro K;rfl
 |cons x l ih=>intro K;exact(hf x _).trans (ih fun ys=>K (x::ys))
noncomputable def oV {β:Type} (g:GV) (K:GV->β):β:=
 match g with
 |.b x=>UK x fun x=>K (.b x)
 |.i k n=>WV n fun n=>K (.i k n)
 |.s l=>iA l fun l=>K (.s l)
 |.o v=>K (.o v)
 |.agg cs=>iA cs fun cs=>K (.agg cs)
 |.tup cs=>iA cs fun cs=>K (.tup cs)
 |.ifc t v=>K (.ifc t v)
 |.fn f a c=>K (.fn f a c)
 |.sl k xs=>iA xs fun xs=>K (.sl k xs)
 |.ptr r off=>oG off fun off=>K (.ptr r off)
 |.snap cs off=>oG off fun off=>iA cs fun cs=>K (.snap cs off)
 |.mp r=>K (.mp r)
 |.rs r off e n c=>oG off fun off=>oG n fun n=>K (.rs r off e n c)
 |.glb g off=>oG off fun off=>K (.glb g off)
 |.yld r=>K (.yld r)
 |.dat r cs=>iA cs fun cs=>K (.dat r cs)
 |.any=>K .any
theorem mW {β:Type} (g:GV) (K:GV->β):oV g K=K g:=by
 cases g<;>simp only[oV,KW,HP,f9,kP]
noncomputable def KN {β:Type} (g:GV) (K:GV->β):β:=
 match g with
 |.b x=>UK x fun x=>K (.b x)
 |.i k n=>WV n fun n=>K (.i k n)
 |.s l=>iA l fun l=>K (.s l)
 |.o v=>K (.o v)
 |.agg cs=>tJ oV cs fun cs=>K (.agg cs)
 |.tup cs=>tJ oV cs fun cs=>K (.tup cs)
 |.ifc t v=>oV v fun v=>K (.ifc t v)
 |.fn f a c=>tJ oV a fun a=>tJ oV c fun c=>K (.fn f a c)
 |.sl k xs=>tJ oV xs fun xs=>K (.sl k xs)
 |.ptr r off=>oG off fun off=>K (.ptr r off)
 |.snap cs off=>oG off fun off=>iA cs fun cs=>K (.snap cs off)
 |.mp r=>K (.mp r)
 |.rs r off e n c=>oG off fun off=>oG n fun n=>K (.rs r off e n c)
 |.glb g off=>oG off fun off=>K (.glb g off)
 |.yld r=>K (.yld r)
 |.dat r cs=>iA cs fun cs=>K (.dat r cs)
 |.any=>K .any
theorem xE {β:Type} (g:GV) (K:GV->β):KN g K=K g:=by
 cases g<;>simp only[KN,KW,HP,f9,kP,mW,yH mW]
noncomputable def fr (T:Tr GV):Fr:=fun t=>Option.rec (motive:=fun _=>GV) (.tup []) (fun g=>g) (Tr.get (path t) T)
theorem ZZ:fr .nil=fun _=>.tup []:=by funext t;simp only[fr,Tr.get_nil]
theorem HN (T:Tr GV) (d:Nat) (g:GV):fr (Tr.put g (path d) T)=uL (fr T) d g:=by
 funext t;simp only[fr,uL,Tr.get_put];by_cases h:t=d
 ·subst h;rw[aA rfl,aA rfl]
 ·rw[aB (fun e=>h (IZ e)),aB h]
noncomputable def nA (T:Tr GV) (d:Option Tmp) (g:GV) (K:Tr GV->HR):HR:=
 match d with
 |some d=>Tr.setK (path d) g T K
 |none=>K T
noncomputable def YZ (T:Tr GV) (d:Option Tmp) (g:GV):Tr GV:=
 match d with
 |some d=>Tr.put g (path d) T
 |none=>T
theorem u9 (T:Tr GV) (d:Option Tmp) (g:GV) (K:Tr GV->HR):nA T d g K=K (YZ T d g):=by
 cases d with
 |none=>rfl
 |some d=>simp only[nA,Tr.setK_eq,YZ]
theorem uE (T:Tr GV) (d:Option Tmp) (g:GV):fr (YZ T d g)=f5 (fr T) d g:=by
 cases d with
 |none=>rfl
 |some d=>exact HN T d g
structure HRd (β:Type) where
 run:Tr GV->(GV->β)->β
noncomputable def lQ {β:Type} (x:Operand):HRd β:=
 match x with
 |.tmp t=>⟨fun T K=>Option.rec (motive:=fun _=>β) (K (.tup [])) K (Tr.get (path t) T)⟩
 |.const v=>⟨fun _ K=>K (kD v)⟩
 |.global g=>⟨fun _ K=>K (.glb g 0)⟩
 |.func f=>⟨fun _ K=>K (.fn (.func f) [] [])⟩
theorem j5 {β:Type} (T:Tr GV) (x:Operand) (K:GV->β):(lQ x).run T K=K (bO (fr T) x):=by
 cases x with
 |tmp t=>simp only[lQ,bO,fr];cases Tr.get (path t) T<;>rfl
 |_=>rfl
noncomputable def XT {β:Type} (T:Tr GV) (l:List Operand):(List GV->β)->β:=
 List.rec (motive:=fun _=>(List GV->β)->β) (fun K=>K []) (fun x _ ih K=>(lQ x).run T fun v=>ih fun vs=>K (v::vs)) l
theorem xT {β:Type} (T:Tr GV):∀(l:List Operand) (K:List GV->β),XT T l K=K (l.map (bO (fr T))):=by
 intro l;induction l with
 |nil=>intro K;rfl
 |cons x l ih=>intro K;exact(j5 T x fun v=>XT T l fun vs=>K (v::vs)).trans (ih fun vs=>K (bO (fr T) x::vs))
noncomputable def rdP {β:Type} (T:Tr GV) (l:List (Nat×Operand)):(List (Nat×GV)->β)->β:=
 List.rec (motive:=fun _=>(List (Nat×GV)->β)->β) (fun K=>K []) (fun x _ ih K=>(lQ x.2).run T fun v=>ih fun vs=>K ((x.1,v)::vs)) l
theorem SM {β:Type} (T:Tr GV):∀(l:List (Nat×Operand)) (K:List (Nat×GV)->β),rdP T l K=K (l.map fun p=>(p.1,bO (fr T) p.2)):=by
 intro l;induction l with
 |nil=>intro K;rfl
 |cons x l ih=>intro K;exact(j5 T x.2 fun v=>rdP T l fun vs=>K ((x.1,v)::vs)).trans (ih fun vs=>K ((x.1,bO (fr T) x.2)::vs))
noncomputable def rdO {β:Type} (T:Tr GV) (x:Option Operand) (K:Option GV->β):β:=
 match x with
 |some x=>(lQ x).run T fun v=>K (some v)
 |none=>K none
theorem YN {β:Type} (T:Tr GV) (x:Option Operand) (K:Option GV->β):rdO T x K=K (x.map (bO (fr T))):=by
 cases x with
 |none=>rfl
 |some x=>exact j5 T x fun v=>K (some v)
noncomputable def pZ {α:Type} (x:Option α) (K:α->HR):HR:=Option.rec (motive:=fun _=>HR) none K x
theorem iZ {α:Type} {x:Option α} {K:α->HR} {r:GRes} (h:pZ x K=some r):∃a,x=some a/\K a=some r:=by
 cases x with
 |none=>cases h
 |some a=>exact⟨a,rfl,h⟩
noncomputable def xQ (c:Bool) (x:HR):HR:=Bool.rec (motive:=fun _=>HR) none x c
theorem gS {c:Bool} {x:HR} {r:GRes} (h:xQ c x=some r):c=true/\x=some r:=by
 cases c with
 |false=>cases h
 |true=>exact⟨rfl,h⟩
inductive HObj where
 |o (x:GObj)
 |lp (st:LoopState) (pe:Option Code) (n:Nat) (T:Tr GV) (ps:Array Tmp) (asg body:Code) (rd:Nat)
noncomputable def HObj.g:HObj->GObj
 |.o x=>x
 |.lp st pe n T ps asg body rd=>.loop st pe n (fr T) ps asg body rd
structure HS where
 t:Tr HObj
 n:Nat
 lo:Nat
 ds:List GDef
noncomputable def xW (t:Tr HObj) (r:Nat):HObj:=Option.rec (motive:=fun _=>HObj) (.o .dead) (fun x=>x) (Tr.get (path r) t)
noncomputable def ab (H:HS):GS:=⟨(List.range H.n).map fun r=>(xW H.t r).g,H.lo,H.ds⟩
noncomputable def fR (H:HS) (r:Nat):Option HObj:=Bool.rec (motive:=fun _=>Option HObj) none (some (xW H.t r)) (Nat.blt r H.n)
theorem a0A {a b:Nat} (h:Nat.blt a b=true):a<b:=bL h
theorem Z3 {a b:Nat} (h:Nat.blt a b=false):¬a<b:=fun h2=>by
 have:Nat.blt a b=true:=Nat.ble_eq_true_of_le h2;rw[this] at h;cases h
theorem e8 (H:HS) (r:Nat):(ab H).objs[r]?=(fR H r).map HObj.g:=by
 unfold fR;cases hb:Nat.blt r H.n with
 |true=>simp[ab,aG,List.getElem?_range (a0A hb)]
 |false=>simp[ab,Z3 hb]
theorem jW (H:HS):(ab H).objs.length=H.n:=by simp[ab]
theorem pX (t:Tr HObj) (x:HObj) (r q:Nat):xW (Tr.put x (path r) t) q=if q=r then x else xW t q:=by
 unfold xW;rw[Tr.get_put];by_cases h:q=r
 ·subst h;rw[aA rfl,aA rfl]
 ·rw[aB (fun e=>h (IZ e)),aB h]
noncomputable def sD (H:HS) (r:Nat) (x:HObj):HS:=⟨Tr.put x (path r) H.t,H.n,H.lo,H.ds⟩
noncomputable def W4 (H:HS) (x:HObj):HS:=⟨Tr.put x (path H.n) H.t,H.n+1,H.lo,H.ds⟩
theorem vS (H:HS) (r:Nat) (x:HObj):ab (sD H r x)=gset (ab H) r x.g:=by
 have:(List.range H.n).map (fun q=>(xW (Tr.put x (path r) H.t) q).g)=((List.range H.n).map fun q=>(xW H.t q).g).set r x.g:=by
  apply cK;intro q;rw[List.getElem?_set,aG,aG];by_cases hq:q<H.n
  ·rw[List.getElem?_range hq];simp only[aT,pX,aS,List.length_range];by_cases h:r=q
   ·subst h;rw[aA rfl,aA rfl,aA hq]
   ·rw[aB (Ne.symm h),aB h]
  ·have:(List.range H.n)[q]?=none:=by simp;omega
   rw[this];simp;intro h1;omega
 exact aJ (fun l=>(⟨l,H.lo,H.ds⟩:GS)) this
theorem V4 (H:HS) (x:HObj):ab (W4 H x)=gnew (ab H) x.g:=by
 have:(List.range (H.n+1)).map (fun q=>(xW (Tr.put x (path H.n) H.t) q).g)=((List.range H.n).map fun q=>(xW H.t q).g)++[x.g]:=by
  rw[List.range_succ,dI];congr 1
  ·apply List.map_congr_left;intro q hq;have:=List.mem_range.1 hq;rw[pX,aB (by omega)]
  ·simp[pX]
 exact aJ (fun l=>(⟨l,H.lo,H.ds⟩:GS)) this
noncomputable def l9 (H:HS) (r:Nat) (x:HObj) (K:HS->HR):HR:=HS.rec (motive:=fun _=>HR) (fun t n lo ds=>Tr.setK (path r) x t fun t=>K ⟨t,n,lo,ds⟩) H
theorem gQ (H:HS) (r:Nat) (x:HObj) (K:HS->HR):l9 H r x K=K (sD H r x):=Tr.setK_eq x (path r) H.t _
noncomputable def uI (H:HS) (x:HObj) (K:Nat->HS->HR):HR:=HS.rec (motive:=fun _=>HR) (fun t n lo ds=>oG n fun n=>Tr.setK (path n) x t fun t=>K n ⟨t,Nat.succ n,lo,ds⟩) H
theorem kM (H:HS) (x:HObj) (K:Nat->HS->HR):uI H x K=K H.n (W4 H x):=by cases H;simp only[uI,kP,Tr.setK_eq];rfl
noncomputable def uJ (H:HS) (f:List GDef->List GDef) (K:HS->HR):HR:=HS.rec (motive:=fun _=>HR) (fun t n lo ds=>K ⟨t,n,lo,f ds⟩) H
theorem ZD (H:HS) (f:List GDef->List GDef) (K:HS->HR):uJ H f K=K ⟨H.t,H.n,H.lo,f H.ds⟩:=rfl
end
section
open Go.RowKit
variable [Globals]
variable {P : Program}
theorem lP (H:HS) (x:GObj):gnew (ab H) x=ab (W4 H (.o x)):=(V4 H (.o x)).symm
theorem uH (H:HS) (r:Nat) (x:GObj):gset (ab H) r x=ab (sD H r (.o x)):=(vS H r (.o x)).symm
noncomputable def OF (P:Program) (t:TypeId) (x:Option HObj) (off:Nat):Option GV:=
 match x with
 |some (.o (.box _ cs))=>o7 P t cs off
 |_=>none
noncomputable def BF (P:Program) (t:TypeId) (a:GV) (H:HS):Option GV:=
 match a with
 |.ptr r off=>OF P t (fR H r) off
 |.rs r off e _ _=>Bool.rec (motive:=fun _=>Option GV) none (OF P t (fR H r) off) (Nat.beq e 0)
 |.snap cs off=>o7 P t cs off
 |.glb g off=>match Globals.tab g with
  |some cs=>o7 P t cs off
  |none=>none
 |_=>none
theorem JG {t:TypeId} {H:HS} {r off:Nat} {g:GV} (h:OF P t (fR H r) off=some g):(match(ab H).objs[r]? with|some (.box _ cs)=>o7 P t cs off|_=>none)=some g:=by
 rw[e8];unfold OF at h;split at h
 ·rename_i he;rw[he];exact h
 ·cases h
theorem JI {t:TypeId} {a:GV} {H:HS} {g:GV} (h:BF P t a H=some g):k9 P t a (ab H)=some g:=by
 cases a<;>simp only[BF] at h<;>first
  |(cases h;done)
  |exact h
  |exact JG h
  |skip
 rename_i r off e n c;simp only[k9];cases hb:Nat.beq e 0 with
 |true=>
  rw[hb] at h;rw[aA (cI hb)];exact JG h
 |false=>rw[hb] at h;cases h
noncomputable def wV (P:Program) (t:TypeId) (r off:Nat) (v:GV) (H:HS) (K:HS->HR):HR:=
 match fR H r with
 |some (.o (.box T cs))=>
  xQ (decide (H.lo<=r)&&oE ((dR P t).getD 0) v&&(dR P t).isSome&&decide (off+v.cells.length<=cs.length))
   (iA (cs.take off++v.cells++cs.drop (off+v.cells.length)) fun cs=>l9 H r (.o (.box T cs)) K)
 |_=>none
noncomputable def M7 (P:Program) (t:TypeId) (a v:GV) (H:HS) (K:HS->HR):HR:=
 match a with
 |.ptr r off=>wV P t r off v H K
 |.rs r off e _ _=>xQ (Nat.beq e 0) (wV P t r off v H K)
 |_=>none
theorem yZ {t:TypeId} {r off:Nat} {v:GV} {H:HS} {K:HS->HR} {x:GRes} (h:wV P t r off v H K=some x):∃H',gT P t r off v (ab H)=some (ab H')/\K H'=some x:=by
 unfold wV at h;split at h
 ·rename_i T cs he;obtain⟨hc,h⟩:=gS h;rw[f9,gQ] at h;refine⟨_,?_,h⟩;unfold gT;rw[e8,he];simp only[aT,HObj.g];have hlo:(ab H).lo=H.lo:=rfl;rw[hlo,aA hc,vS];rfl
 ·cases h
theorem Q6 {t:TypeId} {a v:GV} {H:HS} {K:HS->HR} {x:GRes} (h:M7 P t a v H K=some x):∃H',lI P t a v (ab H)=some (ab H')/\K H'=some x:=by
 unfold M7 at h;split at h
 ·exact yZ h
 ·obtain⟨hc,h⟩:=gS h;simp only[lI,aA (cI hc)];exact yZ h
 ·cases h
noncomputable def GF (P:Program) (t:TypeId) (m k:GV) (ok:Bool) (H:HS):Option GV:=
 match pW P t with
 |some (kt,et)=>match P.underlying kt,iE P et with
  |some d,some z=>Bool.rec (motive:=fun _=>Option GV) (Bool.rec (motive:=fun _=>Option GV) none (match m with
    |.mp r=>match fR H r with
     |some (.o (.mx es _ _))=>match jS P kt k es 0 with
      |some (some (_,v))=>some (if ok then .tup [v,.b true] else v)
      |some none=>some (if ok then .tup [z,.b false] else z)
      |none=>none
     |_=>none
    |_=>none) (lV P kt k))
    (match m with
    |.mp r=>match fR H r with
     |some (.o (.mp es))=>match i6 d k es 0 with
      |some (some (_,v))=>some (if ok then .tup [v,.b true] else v)
      |some none=>some (if ok then .tup [z,.b false] else z)
      |none=>none
     |some (.o (.mx es _ _))=>match i6 d k es 0 with
      |some (some (_,v))=>some (if ok then .tup [v,.b true] else v)
      |some none=>some (if ok then .tup [z,.b false] else z)
      |none=>none
     |_=>none
    |.o (.map none)=>some (if ok then .tup [z,.b false] else z)
    |_=>none) (mU d k)
  |_,_=>none
 |none=>none
theorem MA {t:TypeId} {m k:GV} {ok:Bool} {H:HS} {g:GV} (h:GF P t m k ok H=some g):k5 P t m k ok (ab H)=some g:=by
 unfold GF at h;unfold k5;split at h
 ·rename_i kt et hm;rw[hm];simp only;split at h
  ·rename_i d z hd hz;rw[hd,hz];simp only;cases hk:mU d k with
   |false=>
    rw[hk] at h;simp only[aY,cO];cases ha:lV P kt k with
    |false=>rw[ha] at h;cases h
    |true=>
     rw[ha] at h;rw[aA rfl];simp only at h;split at h
     ·rename_i r;simp only[e8];split at h
      ·rename_i es bs clk he;rw[he];exact h
      ·cases h
     ·cases h
   |true=>
    rw[hk] at h;rw[aA rfl];simp only at h;split at h
    ·rename_i r;simp only[e8];split at h
     ·rename_i es he;rw[he];exact h
     ·rename_i es bs clk he;rw[he];exact h
     ·cases h
    ·exact h
    ·cases h
  ·cases h
 ·cases h
noncomputable def AC (P:Program) (t:TypeId) (m k v:GV) (H:HS) (K:HS->HR):HR:=
 match m with
 |.mp r=>match pW P t with
  |some (kt,_)=>match P.underlying kt with
   |some d=>match fR H r with
    |some (.o (.mp es))=>
     xQ (decide (H.lo<=r)&&mU d k)
      (match i6 d k es 0 with
      |some (some (i,_))=>iA (es.set i (k,v)) fun es=>l9 H r (.o (.mp es)) K
      |some none=>iA (es++[(k,v)]) fun es=>l9 H r (.o (.mp es)) K
      |none=>none)
    |some (.o (.mx es bs clk))=>
     xQ (decide (H.lo<=r))
      (match(if mU d k then i6 d k es 0 else if lV P kt k then jS P kt k es 0 else none) with
      |some (some (i,_))=>iA (es.set i (k,v)) fun es=>l9 H r (.o (.mx es bs clk)) K
      |some none=>iA (es++[(k,v)]) fun es=>iA (bs++[clk]) fun bs=>oG (clk+1) fun c=>l9 H r (.o (.mx es bs c)) K
      |none=>none)
    |_=>none
   |none=>none
  |none=>none
 |_=>none
theorem BC {t:TypeId} {m k v:GV} {H:HS} {K:HS->HR} {x:GRes} (h:AC P t m k v H K=some x):∃H',fP P t m k v (ab H)=some (ab H')/\K H'=some x:=by
 unfold AC at h;split at h
 ·rename_i r;split at h
  ·rename_i kt et hm;split at h
   ·rename_i d hd;split at h
    ·rename_i es he;obtain⟨hc,h⟩:=gS h;have hlo:(ab H).lo=H.lo:=rfl;have hg:∀es',gset (ab H) r (.mp es')=ab (sD H r (.o (.mp es'))):=fun es'=>by rw[vS];rfl
     simp only[fP,hm,hd,e8,he,aT,HObj.g,hlo,aA hc];split at h
     ·rename_i i q hf;rw[f9,gQ] at h;rw[hf];simp only[hg];exact⟨_,rfl,h⟩
     ·rename_i hf;rw[f9,gQ] at h;rw[hf];simp only[hg];exact⟨_,rfl,h⟩
     ·cases h
    ·rename_i es bs clk he;obtain⟨hc,h⟩:=gS h;have hc:H.lo<=r:=aO hc;have hlo:(ab H).lo=H.lo:=rfl;have hg:∀x',gset (ab H) r x'=ab (sD H r (.o x')):=fun x'=>by rw[vS];rfl
     have hfin:∀f,(mU d k||lV P kt k)=true->(if mU d k then i6 d k es 0 else jS P kt k es 0)=f->(match f with
       |some (some (i,_))=>iA (es.set i (k,v)) fun es=>l9 H r (.o (.mx es bs clk)) K
       |some none=>iA (es++[(k,v)]) fun es=>iA (bs++[clk]) fun bs=>oG (clk+1) fun c=>l9 H r (.o (.mx es bs c)) K
       |none=>none)=some x->∃H',fP P t (.mp r) k v (ab H)=some (ab H')/\K H'=some x:=fun f hk hf h=>by
      simp only[fP,hm,hd,e8,he,aT,HObj.g,hlo];rw[aA (by rw[aR hc,hk];rfl),hf];split at h
      ·rw[f9,gQ] at h;simp only[hg];exact⟨_,rfl,h⟩
      ·rw[f9,f9,kP,gQ] at h;simp only[hg];exact⟨_,rfl,h⟩
      ·cases h
     cases hk:mU d k with
     |true=>
      rw[hk,aA rfl] at h;exact hfin _ (by rw[hk];rfl) (by rw[hk];exact aA rfl) h
     |false=>
      rw[hk] at h;simp only[aY,cO] at h;cases ha:lV P kt k with
      |true=>
       rw[ha,aA rfl] at h;exact hfin _ (by rw[hk,ha];rfl) (by rw[hk];exact aB (by simp)) h
      |false=>
       rw[ha] at h;simp at h
    ·cases h
   ·cases h
  ·cases h
 ·cases h
noncomputable def bG (P:Program) (t:TypeId) (x:GV) (H:HS):Option GV:=
 match x with
 |.mp r=>match fR H r with
  |some (.o (.mp es))=>if(pW P t).isSome then some (.i .i64 es.length) else none
  |some (.o (.mx es _ _))=>if(pW P t).isSome then some (.i .i64 es.length) else none
  |_=>none
 |x=>rH P t x ⟨[],0,[]⟩
theorem WE {t:TypeId} {x:GV} {H:HS} {g:GV} (h:bG P t x H=some g):rH P t x (ab H)=some g:=by
 cases x with
 |mp r=>
  simp only[bG] at h;simp only[rH,e8];split at h
  ·rename_i es he;rw[he];exact h
  ·rename_i es bs clk he;rw[he];exact h
  ·cases h
 |o v=>
  have e:rH P t (.o v) (ab H)=rH P t (.o v) ⟨[],0,[]⟩:=by
   unfold rH;cases v<;>first|rfl|(rename_i o;cases o<;>rfl)
  rw[e];exact h
 |_=>exact h
theorem FF (H:HS) (r:Nat) (x:GObj):gset (ab H) r x=ab (sD H r (.o x)):=(vS H r (.o x)).symm
noncomputable def TW (P:Program) (t:TypeId) (x:GV) (H:HS) (K:GV->HS->HR):HR:=
 match x with
 |.mp r=>match pW P t with
  |some _=>match fR H r with
   |some (.o (.mx _ _ clk))=>uI H (.o (.it (some r) clk [] clk)) fun n H'=>K (.ptr n 0) H'
   |_=>none
  |none=>none
 |_=>none
theorem TV {t:TypeId} {x:GV} {H:HS} {K:GV->HS->HR} {q:GRes} (h:TW P t x H K=some q):∃g H',C7 P t x (ab H)=some (g,ab H')/\K g H'=some q:=by
 unfold TW at h;split at h
 ·rename_i r;split at h
  ·rename_i y hm;split at h
   ·rename_i es bs clk he;simp only[kM] at h;simp only[C7,hm,e8,he,aT,HObj.g];rw[jW,lP];exact⟨_,_,rfl,h⟩
   ·cases h
  ·cases h
 ·cases h
noncomputable def lT (it:GV) (H:HS) (K:GV->HS->HR):HR:=
 match it with
 |.ptr r 0=>match fR H r with
  |some (.o (.it (some m) since seen last))=>match fR H m with
   |some (.o (.mx es bs clk))=>
    xQ (decide (H.lo<=r)&&bs.all (fun b=>decide (b<since))&&decide (since<=last))
     (match(es.zip bs).filter (fun e=>!seen.contains e.2) with
     |[]=>K (.tup [.b false]) H
     |[e]=>iA (e.2::seen) fun sn=>l9 H r (.o (.it (some m) since sn clk)) (K (.tup [.b true,e.1.1,e.1.2]))
     |_=>none)
   |_=>none
  |_=>none
 |_=>none
theorem TO {it:GV} {H:HS} {K:GV->HS->HR} {q:GRes} (h:lT it H K=some q):∃g H',C1 it (ab H)=some (g,ab H')/\K g H'=some q:=by
 unfold lT at h;split at h
 ·rename_i r;split at h
  ·rename_i m since seen last ho;split at h
   ·rename_i es bs clk hm;obtain⟨hc,h⟩:=gS h;have hlo:(ab H).lo=H.lo:=rfl;simp only[C1,e8,ho,hm,aT,HObj.g,hlo];rw[aA hc];split at h
    ·rename_i hf;rw[hf];exact⟨_,H,rfl,h⟩
    ·rename_i e hf;rw[hf];rw[f9,gQ] at h;simp only[FF];exact⟨_,_,rfl,h⟩
    ·cases h
   ·cases h
  ·cases h
 ·cases h
noncomputable def MB (it:GV) (H:HS):Option GV:=
 match it with
 |.ptr r 0=>match fR H r with
  |some (.o (.it (some m) _ (b::_) last))=>match fR H m with
   |some (.o (.mx es bs clk))=>Bool.rec (motive:=fun _=>Option GV) none (match(es.zip bs).find? (fun e=>Nat.beq e.2 b) with
    |some e=>some (.tup [e.1.1,e.1.2])
    |none=>none) (Nat.beq clk last)
   |_=>none
  |_=>none
 |_=>none
theorem Q9 {it:GV} {H:HS} {g:GV} (h:MB it H=some g):CB it (ab H)=some g:=by
 unfold MB at h;split at h
 ·rename_i r;split at h
  ·rename_i m since b seen last ho;split at h
   ·rename_i es bs clk hm;simp only[CB,e8,ho,hm,aT,HObj.g];cases hb:Nat.beq clk last with
    |true=>rw[hb] at h;rw[aA rfl];exact h
    |false=>rw[hb] at h;cases h
   ·cases h
  ·cases h
 ·cases h
noncomputable def xY (P:Program) (t:TypeId) (m k:GV) (H:HS) (K:GV->HS->HR):HR:=
 match m with
 |.mp r=>match pW P t with
  |some (kt,et)=>match P.underlying kt,iE P et with
   |some d,some z=>match fR H r with
    |some (.o (.mx es bs clk))=>
     xQ (decide (H.lo<=r))
      (match sX P kt d k es with
      |some (some (i,v))=>match bs[i]?,es[i]? with
       |some b,some e=>iA (es.set i (k,e.2)) fun es=>l9 H r (.o (.mx es bs clk)) (K (.tup [v,.i .i64 b]))
       |_,_=>none
      |some none=>iA (es++[(k,z)]) fun es=>iA (bs++[clk]) fun bs=>oG (clk+1) fun c=>l9 H r (.o (.mx es bs c)) (K (.tup [z,.i .i64 clk]))
      |none=>none)
    |_=>none
   |_,_=>none
  |none=>none
 |_=>none
theorem GE {t:TypeId} {m k:GV} {H:HS} {K:GV->HS->HR} {q:GRes} (h:xY P t m k H K=some q):∃g H',m5 P t m k (ab H)=some (g,ab H')/\K g H'=some q:=by
 unfold xY at h;split at h
 ·rename_i r;split at h
  ·rename_i kt et hm;split at h
   ·rename_i d z hd hz;split at h
    ·rename_i es bs clk he;obtain⟨hc,h⟩:=gS h;have hc:H.lo<=r:=aO hc;have hlo:(ab H).lo=H.lo:=rfl;simp only[m5,hm,hd,hz,e8,he,aT,HObj.g,hlo];rw[aA hc];split at h
     ·rename_i i v hf;rw[hf];simp only;split at h
      ·rename_i b e hb he2;rw[f9,gQ] at h;rw[hb,he2];simp only[FF];exact⟨_,_,rfl,h⟩
      ·cases h
     ·rename_i hf;rw[f9,f9,kP,gQ] at h;rw[hf];simp only[FF];exact⟨_,_,rfl,h⟩
     ·cases h
    ·cases h
   ·cases h
  ·cases h
 ·cases h
noncomputable def sJ (m st v:GV) (H:HS) (K:HS->HR):HR:=
 match m,st with
 |.mp r,.i _ n=>match fR H r with
  |some (.o (.mx es bs clk))=>xQ (decide (H.lo<=r)) (match bs.findIdx? (fun(b:Nat)=>(b:Int)==n) with
   |some i=>match es[i]? with
    |some e=>iA (es.set i (e.1,v)) fun es=>l9 H r (.o (.mx es bs clk)) K
    |none=>none
   |none=>none)
  |_=>none
 |_,_=>none
theorem BG {m st v:GV} {H:HS} {K:HS->HR} {q:GRes} (h:sJ m st v H K=some q):∃H',jT m st v (ab H)=some (ab H')/\K H'=some q:=by
 unfold sJ at h;split at h
 ·rename_i r k n;split at h
  ·rename_i es bs clk he;obtain⟨hc,h⟩:=gS h;have hc:H.lo<=r:=aO hc;have hlo:(ab H).lo=H.lo:=rfl;simp only[jT,e8,he,aT,HObj.g,hlo];rw[aA hc];split at h
   ·rename_i i hi;rw[hi];simp only;split at h
    ·rename_i e he2;rw[f9,gQ] at h;rw[he2];simp only[FF];exact⟨_,rfl,h⟩
    ·cases h
   ·cases h
  ·cases h
 ·cases h
noncomputable def GH (P:Program) (t:TypeId) (m k:GV) (H:HS) (K:HS->HR):HR:=
 match m with
 |.mp r=>match pW P t with
  |some (kt,_)=>match P.underlying kt with
   |some d=>match fR H r with
    |some (.o (.mx es bs clk))=>
     xQ (decide (H.lo<=r))
      (match sX P kt d k es with
      |some (some (i,_))=>iA (es.eraseIdx i) fun es=>iA (bs.eraseIdx i) fun bs=>l9 H r (.o (.mx es bs clk)) K
      |some none=>l9 H r (.o (.mx es bs clk)) K
      |none=>none)
    |_=>none
   |none=>none
  |none=>none
 |_=>none
theorem MD {t:TypeId} {m k:GV} {H:HS} {K:HS->HR} {q:GRes} (h:GH P t m k H K=some q):∃H',rJ P t m k (ab H)=some (ab H')/\K H'=some q:=by
 unfold GH at h;split at h
 ·rename_i r;split at h
  ·rename_i kt et hm;split at h
   ·rename_i d hd;split at h
    ·rename_i es bs clk he;obtain⟨hc,h⟩:=gS h;have hc:H.lo<=r:=aO hc;have hlo:(ab H).lo=H.lo:=rfl;simp only[rJ,hm,hd,e8,he,aT,HObj.g,hlo];rw[aA hc];split at h
     ·rename_i i v hf;rw[f9,f9,gQ] at h;rw[hf];simp only[FF];exact⟨_,rfl,h⟩
     ·rename_i hf;rw[gQ] at h;rw[hf];simp only[FF];exact⟨_,rfl,h⟩
     ·cases h
    ·cases h
   ·cases h
  ·cases h
 ·cases h
noncomputable def DG (P:Program) (t u:TypeId) (x:GV) (H:HS):Option (List GV):=
 match x with
 |.rs r off (sz+1) n _=>if t=u then match iP P t,fR H r with
  |some e,some (.o (.box _ cs))=>if dR P e=some (sz+1) then t7 P e (sz+1) n (cs.drop off) else none
  |_,_=>none
  else none
 |x=>zN P t u x ⟨[],0,[]⟩
theorem WC {t u:TypeId} {x:GV} {H:HS} {ys:List GV} (h:DG P t u x H=some ys):zN P t u x (ab H)=some ys:=by
 unfold DG at h;split at h
 ·rename_i r off sz n c;simp only[zN];split at h
  ·rename_i htu;rw[aA htu];split at h
   ·rename_i e T cs h1 h2;rw[h1,e8,h2];exact h
   ·cases h
  ·cases h
 ·rename_i x hx;rw[<-h];unfold zN;split
  ·exact absurd rfl (hx _ _ _ _ _)
  all_goals rfl
noncomputable def GI (P:Program) (t u:TypeId) (s x:GV) (H:HS) (K:GV->HS->HR):HR:=
 match s,DG P t u x H with
 |.sl k xs,some ys=>
  match iP P t with
  |some e=>match dR P e,m8 P e,iE P e with
   |some size,some bytes,some z=>
    xQ (z.known&&z.cells.length==size)
     (Bool.rec (motive:=fun _=>HR)
      (xQ (decide (0<size)&&ys.all (oE size)&&xs.all (fun x=>x.cells.length==size)&&decide (xs.length+ys.length<=D7)&&decide (bytes<=4096))
       (match k with
       |.full=>Bool.rec (motive:=fun _=>HR)
         (oG (xs.length+ys.length) fun l=>iA (xs++ys) fun zs=>uI H (.o (.own l size e)) fun n H'=>K (.sl (.own n) zs) H')
         (iA ((xs++ys).flatMap GV.cells) fun cs=>uI H (.o (.box e cs)) fun n H'=>oG (xs.length+ys.length) fun l=>K (.rs n 0 size l 0) H') (Globals.wr e)
       |.own r=>match fR H r with
        |some (.o (.own n esz ty))=>
         Bool.rec (motive:=fun _=>HR)
          (xQ (decide (H.lo<=r)&&n==xs.length&&(esz==size&&ty==e||(n==0&&esz==0)))
           (oG (xs.length+ys.length) fun l=>iA (xs++ys) fun zs=>l9 H r (.o (.own l size e)) (K (.sl (.own r) zs))))
          (iA ((xs++ys).flatMap GV.cells) fun cs=>uI H (.o (.box e cs)) fun n H'=>oG (xs.length+ys.length) fun l=>K (.rs n 0 size l 0) H')
          (Globals.wr e&&(esz==0&&n==0)&&xs.isEmpty)
        |_=>none
       |.none=>none))
      (K (.sl k xs) H) ys.isEmpty)
   |_,_,_=>none
  |none=>none
 |_,_=>none
theorem MF {t u:TypeId} {s x:GV} {H:HS} {K:GV->HS->HR} {q:GRes} (h:GI P t u s x H K=some q):∃g H',nI P t u s x (ab H)=some (g,ab H')/\K g H'=some q:=by
 unfold GI at h;split at h
 ·rename_i k xs ys hs;split at h
  ·rename_i e he;split at h
   ·rename_i size bytes z h1 h2 h3;obtain⟨hz,h⟩:=gS h;simp only[nI,WC hs,he,h1,h2,h3,aA hz];cases hy:ys.isEmpty with
    |true=>
     rw[hy] at h;exact⟨_,_,by rw[aA rfl],h⟩
    |false=>
     rw[hy] at h;obtain⟨hc,h⟩:=gS h;have hlo:(ab H).lo=H.lo:=rfl;simp only[aY,cO];rw[aA hc];cases k with
     |full=>
      cases hw:Globals.wr e with
      |true=>
       rw[hw] at h;simp only[f9,kM,kP] at h;rw[aA rfl,jW,lP];exact⟨_,_,rfl,h⟩
      |false=>
       rw[hw] at h;simp only[kP,f9,kM] at h;simp only[aY,cO];rw[jW,lP];exact⟨_,_,rfl,h⟩
     |own r=>
      simp only[e8];simp only at h;split at h
      ·rename_i n esz ty ho;rw[ho];simp only[aT,HObj.g,hlo];cases hw:(Globals.wr e&&(esz==0&&n==0)&&xs.isEmpty) with
       |true=>
        rw[hw] at h;simp only[f9,kM,kP] at h;rw[aA rfl,jW,lP];exact⟨_,_,rfl,h⟩
       |false=>
        rw[hw] at h;obtain⟨hc2,h⟩:=gS h;simp only[kP,f9,gQ] at h;simp only[aY,cO];rw[aA hc2,uH];exact⟨_,_,rfl,h⟩
      ·cases h
     |none=>cases h
   ·cases h
  ·cases h
 ·cases h
noncomputable def TS (P:Program) (t:TypeId) (l c:GV) (H:HS) (K:GV->HS->HR):HR:=
 match l,c with
 |.i _ n,.i _ m=>match iP P t with
  |some e=>match dR P e,m8 P e,iE P e with
   |some size,some bytes,some z=>
    xQ (z.known&&z.cells.length==size&&decide (0<size)&&decide (bytes<=4096)&&decide (0<=n)&&decide (n=m)&&decide (n<=D7))
     (iA (List.replicate n.toNat z.cells).flatten fun cs=>uI H (.o (.box e cs)) fun r H'=>oG n.toNat fun l=>K (.rs r 0 size l l) H')
   |_,_,_=>none
  |none=>none
 |_,_=>none
theorem TR {t:TypeId} {l c:GV} {H:HS} {K:GV->HS->HR} {q:GRes} (h:TS P t l c H K=some q):∃g H',x5 P t l c (ab H)=some (g,ab H')/\K g H'=some q:=by
 unfold TS at h;split at h
 ·rename_i k1 n k2 m;split at h
  ·rename_i e he;split at h
   ·rename_i size bytes z h1 h2 h3;obtain⟨hz,h⟩:=gS h;simp only[x5,he,h1,h2,h3,aA hz];simp only[f9,kM,kP] at h;rw[jW,lP];exact⟨_,_,rfl,h⟩
   ·cases h
  ·cases h
 ·cases h
noncomputable def TI (P:Program) (pt:TypeId) (x n:GV) (H:HS) (K:GV->HS->HR):HR:=
 match x,n with
 |.dat r cs,.i .i64 n=>match fR H r,rO cs with
  |some (.o (.own m _ ty)),some l=>
   xQ (decide (n=(l.length:Int))&&m==cs.length&&!l.isEmpty&&decide (H.lo<=r)&&(LW P pt==some ty)&&P.cellsOf ty==1&&decide (l.length<=D7)&&cs.all KI) (l9 H r (.o .dead) (K (.s l)))
  |_,_=>none
 |_,_=>none
theorem TH {pt:TypeId} {x n:GV} {H:HS} {K:GV->HS->HR} {q:GRes} (h:TI P pt x n H K=some q):∃g H',uS P pt x n (ab H)=some (g,ab H')/\K g H'=some q:=by
 unfold TI at h;split at h
 ·rename_i r cs n;split at h
  ·rename_i m esz ty l h1 h2;obtain⟨hc,h⟩:=gS h;have hlo:(ab H).lo=H.lo:=rfl;simp only[uS,e8,h1,h2,aT,HObj.g,hlo];rw[aA (by simpa using hc),uH];rw[gQ] at h;exact⟨_,_,rfl,h⟩
  ·cases h
 ·cases h
noncomputable def BK (P:Program) (b:Builtin) (ts:List TypeId) (args:List GV) (H:HS) (K:GV->HS->HR):HR:=
 match b,ts,args with
 |.len,[t],[x]=>pZ (bG P t x H) fun v=>oV v fun v=>K v H
 |.append,[t,u],[s,x]=>GI P t u s x H K
 |.unsafeSliceData,_,[x]=>pZ (CD x) fun v=>oV v fun v=>K v H
 |.unsafeString,[pt,_],[x,n]=>TI P pt x n H K
 |.delete,t::_,[m,k]=>GH P t m k H (K (.tup []))
 |.min,_,x::xs=>pZ (x6 K2 x xs) fun v=>oV v fun v=>K v H
 |.max,_,x::xs=>pZ (x6 K3 x xs) fun v=>oV v fun v=>K v H
 |_,_,_=>none
theorem JN {b:Builtin} {ts:List TypeId} {args:List GV} {H:HS} {K:GV->HS->HR} {q:GRes} (h:BK P b ts args H K=some q):∃g H',i8 P b ts args (ab H)=some (g,ab H')/\K g H'=some q:=by
 unfold BK at h;split at h
 ·obtain⟨v,h1,h⟩:=iZ h;rw[mW] at h;exact⟨v,H,by simp only[i8,WE h1];rfl,h⟩
 ·exact MF h
 ·obtain⟨v,h1,h⟩:=iZ h;rw[mW] at h;exact⟨v,H,by simp only[i8,h1];rfl,h⟩
 ·exact TH h
 ·obtain⟨H',h1,h⟩:=MD h;exact⟨_,H',by simp only[i8,h1];rfl,h⟩
 ·obtain⟨v,h1,h⟩:=iZ h;rw[mW] at h;exact⟨v,H,by simp only[i8,h1];rfl,h⟩
 ·obtain⟨v,h1,h⟩:=iZ h;rw[mW] at h;exact⟨v,H,by simp only[i8,h1];rfl,h⟩
 ·cases h
end
section
open Go.RowKit
variable [Globals]
noncomputable def fsp {β:Type} (g:GV) (K:GV->β):β:=
 match g with
 |.agg cs=>iA cs fun cs=>K (.agg cs)
 |.tup cs=>iA cs fun cs=>K (.tup cs)
 |g=>K g
theorem N9 {β:Type} (g:GV) (K:GV->β):fsp g K=K g:=by
 cases g<;>simp only[fsp,f9]
structure HOp where
 run:Tr GV->HS->(GV->HS->HR)->HR
noncomputable def eV (f:Tr GV->(Option GV->HR)->HR):HOp:=⟨fun T H K=>f T fun x=>pZ x fun v=>oV v fun v=>K v H⟩
noncomputable def G8 (f:Tr GV->(Option GV->HR)->HR):HOp:=⟨fun T H K=>f T fun x=>pZ x fun v=>fsp v fun v=>K v H⟩
noncomputable def M9 (x:Option xP) (H:HS) (K:GV->HS->HR):HR:=pZ x fun f=>uI H (.o f.2) fun n H'=>K (f.1 n) H'
noncomputable def cop (P:Program) (op:Op):HOp:=
 match op with
 |.assign (.const (.slice none 0 0))=>⟨fun T H K=>uI H (.o (.own 0 0 0)) fun n H'=>K (.sl (.own n) []) H'⟩
 |.alloc t=>⟨fun T H K=>M9 (yE P t) H K⟩
 |.box t x=>⟨fun T H K=>(lQ x).run T fun a=>M9 (WT t a) H K⟩
 |.buildSlice t len parts=>⟨fun T H K=>rdP T parts.toList fun ps=>pZ (oT P t len ps) fun f=>uI H (.o f.2) fun n H'=>oV (f.1 n) fun v=>K v H'⟩
 |.makeMap t none=>⟨fun T H K=>uI H (.o (if Globals.wr t then .mx [] [] 0 else .mp [])) fun n H'=>K (.mp n) H'⟩
 |.move x=>⟨fun T H K=>(lQ x).run T fun a=>K a H⟩
 |.assign x=>⟨fun T H K=>(lQ x).run T fun a=>K a H⟩
 |.pick c a b=>⟨fun T H K=>(lQ c).run T fun c=>match c with
  |.b t=>Bool.rec (motive:=fun _=>HR) ((lQ b).run T fun v=>K v H) ((lQ a).run T fun v=>K v H) t
  |_=>none⟩
 |.build t parts=>eV fun T K=>rdP T parts.toList fun ps=>K (HJ P t ps)
 |.load t a=>⟨fun T H K=>(lQ a).run T fun a=>pZ (BF P t a H) fun v=>fsp v fun v=>K v H⟩
 |.store t a v=>⟨fun T H K=>(lQ a).run T fun a=>(lQ v).run T fun v=>M7 P t a v H (K .any)⟩
 |.nilCheck x=>eV fun T K=>(lQ x).run T fun x=>K (y3 x)
 |.binOp op t x y _=>eV fun T K=>(lQ x).run T fun a=>(lQ y).run T fun b=>K (yD P op t (fW x) (fW y) a b)
 |.unOp op _ x=>eV fun T K=>(lQ x).run T fun a=>K (gun op a)
 |.convert src dst x=>⟨fun T H K=>(lQ x).run T fun a=>pZ (oB P src dst a) fun v=>KN v fun v=>K v H⟩
 |.makeInterface t x=>eV fun T K=>(lQ x).run T fun a=>K (rG P t a)
 |.makeFunc f a c=>⟨fun T H K=>XT T a.toList fun a=>XT T c.toList fun c=>K (.fn f a c) H⟩
 |.slice t x lo hi mx=>eV fun T K=>(lQ x).run T fun x=>rdO T lo fun lo=>rdO T hi fun hi=>rdO T mx fun mx=>K (lK P t x lo hi mx)
 |.fieldAddr s x f=>eV fun T K=>(lQ x).run T fun x=>K (rI P s x f)
 |.field s x f=>G8 fun T K=>(lQ x).run T fun x=>K (C9 P s x f)
 |.indexAddr t x i=>eV fun T K=>(lQ x).run T fun x=>(lQ i).run T fun i=>K (kU P t x i)
 |.makeSlice t l c=>⟨fun T H K=>(lQ l).run T fun l=>(lQ c).run T fun c=>TS P t l c H K⟩
 |.index t x i=>eV fun T K=>(lQ x).run T fun x=>(lQ i).run T fun i=>K (vI P t x i)
 |.lookup t m k ok=>⟨fun T H K=>(lQ m).run T fun m=>(lQ k).run T fun k=>pZ (GF P t m k ok H) fun v=>K v H⟩
 |.mapUpdate t m k v=>⟨fun T H K=>(lQ m).run T fun m=>(lQ k).run T fun k=>(lQ v).run T fun v=>AC P t m k v H (K .any)⟩
 |.insert t m k v=>⟨fun T H K=>(lQ m).run T fun m=>(lQ k).run T fun k=>(lQ v).run T fun v=>AC P t m k v H (K .any)⟩
 |.typeAssert x _ t ok=>G8 fun T K=>(lQ x).run T fun x=>K (AJ P t ok x)
 |.extract x i=>G8 fun T K=>(lQ x).run T fun x=>K (x8 x i)
 |.range t x=>⟨fun T H K=>(lQ x).run T fun x=>TW P t x H K⟩
 |.next it false=>⟨fun T H K=>(lQ it).run T fun x=>lT x H K⟩
 |.entry it=>⟨fun T H K=>(lQ it).run T fun x=>pZ (MB x H) fun v=>K v H⟩
 |.mapEntry t m k=>⟨fun T H K=>(lQ m).run T fun m=>(lQ k).run T fun k=>xY P t m k H K⟩
 |.entryStore _ m st v=>⟨fun T H K=>(lQ m).run T fun m=>(lQ st).run T fun st=>(lQ v).run T fun v=>sJ m st v H (K .any)⟩
 |.call {callee:=.builtin b,args,argTypes}=>⟨fun T H K=>XT T args.toList fun az=>BK P b argTypes.toList az H K⟩
 |_=>⟨fun _ _ _=>none⟩
variable {P : Program}
theorem EN {x:Option xP} {H:HS} {K:GV->HS->HR} {q:GRes} (h:M9 x H K=some q):∃f,x=some f/\∃H',gnew (ab H) f.2=ab H'/\K (f.1 (ab H).objs.length) H'=some q:=by
 obtain⟨f,h1,h⟩:=iZ h;rw[kM] at h;exact⟨f,h1,W4 H (.o f.2),lP H f.2,by rw[jW];exact h⟩
set_option maxHeartbeats 1000000 in
theorem a02 {op : Op} {T : Tr GV} {H : HS} {K : GV → HS → HR} {q : GRes} (h : (cop P op).run T H K = some q) : ∃ g H', kO P (bO (fr T)) op (ab H) = some (g, ab H') ∧ K g H' = some q := by
  unfold cop at h;split at h
  case h_1 =>
    simp only [kM] at h;exact ⟨_, _, by rw [← lP, ← jW]; rfl, h⟩
  case h_2 t =>
    obtain ⟨f, h1, H', h2, h⟩ := EN h;exact ⟨_, H', by rw [← h2]; simp only [kO, dN, h1], h⟩
  case h_3 t x =>
    simp only [j5] at h;obtain ⟨f, h1, H', h2, h⟩ := EN h;exact ⟨_, H', by rw [← h2]; simp only [kO, dN, h1], h⟩
  case h_4 t len parts =>
    simp only [SM] at h;obtain ⟨f, h1, h⟩ := iZ h;simp only [kM, mW] at h;exact ⟨_, _, by rw [← lP, ← jW]; simp only [kO, dN, h1], h⟩
  case h_5 =>
    simp only [kM] at h;exact ⟨_, _, by rw [← lP, ← jW]; rfl, h⟩
  case h_7 x hx =>
    simp only [j5] at h;refine ⟨_, H, m4 (M := fun _ => false) fun hk => ?_, h⟩;simp only [cF] at hk;cases hk
  case h_8 c a b =>
    simp only [j5] at h;split at h
    · rename_i t ht
      refine ⟨if t then bO (fr T) a else bO (fr T) b, H, ?_, ?_⟩
      · simp only [kO, dN, jB, ht]
      · cases t <;> exact h
    · cases h
  case h_10 t a =>
    simp only [j5] at h;obtain ⟨v, h1, h⟩ := iZ h;rw [N9] at h;exact ⟨v, H, by simp only [kO, dN, jB, JI h1]; rfl, h⟩
  case h_11 t a v =>
    simp only [j5] at h;obtain ⟨H', h1, h⟩ := Q6 h;exact ⟨_, H', by simp only [kO, dN, jB, h1]; rfl, h⟩
  case h_22 t l c =>
    simp only [j5] at h;obtain ⟨g, H', h1, h⟩ := TR h;exact ⟨g, H', by simp only [kO, dN, jB, h1], h⟩
  case h_24 t m k ok =>
    simp only [j5] at h;obtain ⟨v, h1, h⟩ := iZ h;exact ⟨v, H, by simp only [kO, dN, jB, MA h1]; rfl, h⟩
  case h_25 t m k v =>
    simp only [j5] at h;obtain ⟨H', h1, h⟩ := BC h;exact ⟨_, H', by simp only [kO, dN, jB, h1]; rfl, h⟩
  case h_26 t m k v =>
    simp only [j5] at h;obtain ⟨H', h1, h⟩ := BC h;exact ⟨_, H', by simp only [kO, dN, jB, h1]; rfl, h⟩
  case h_29 t x =>
    simp only [j5] at h;obtain ⟨g, H', h1, h⟩ := TV h;exact ⟨g, H', by simp only [kO, dN, jB, h1], h⟩
  case h_30 it =>
    simp only [j5] at h;obtain ⟨g, H', h1, h⟩ := TO h;exact ⟨g, H', by simp only [kO, dN, jB, h1], h⟩
  case h_31 it =>
    simp only [j5] at h;obtain ⟨v, h1, h⟩ := iZ h;exact ⟨v, H, by simp only [kO, dN, jB, Q9 h1]; rfl, h⟩
  case h_32 t m k =>
    simp only [j5] at h;obtain ⟨g, H', h1, h⟩ := GE h;exact ⟨g, H', by simp only [kO, dN, jB, h1], h⟩
  case h_33 t m st v =>
    simp only [j5] at h;obtain ⟨H', h1, h⟩ := BG h;exact ⟨_, H', by simp only [kO, dN, jB, h1]; rfl, h⟩
  case h_34 b args ts =>
    simp only [xT] at h;obtain ⟨g, H', h1, h⟩ := JN h;exact ⟨g, H', by simp only [kO, dN, jB, h1], h⟩
  all_goals first
    | (cases h; done)
    | (simp only [eV, G8, j5, SM, xT, YN, mW, N9, xE] at h
       obtain ⟨v, h1, h⟩ := iZ h;exact ⟨v, H, by simp only [kO, dN, jB, h1]; rfl, h⟩)
    | (simp only [j5, xT] at h
       exact ⟨_, H, by simp only [kO, dN, jB], h⟩)
abbrev FI:=Tgt->List GV->HS->(GRes->HS->HR)->HR
structure HC where
 h:FI
 g:dQ
def mA (c:FI) (g:dQ):Prop:=∀t args H K q,c t args H K=some q->∃r H',g t args (ab H)=some (r,ab H')/\K r H'=some q
noncomputable def pY (K Kp:GV->HS->HR) (r:GRes) (H:HS):HR:=
 match r with
 |.val g=>K g H
 |.panic g=>Kp g H
structure HOpr where
 run:HC->Tr GV->HS->(GV->HS->HR)->(GV->HS->HR)->HR
noncomputable def tN (P:Program) (op:Op):HOpr:=
 match op with
 |.panic x=>⟨fun _ T H _ Kp=>(lQ x).run T fun v=>match v with
  |.ifc t g=>Kp (.ifc t g) H
  |_=>none⟩
 |.call {callee:=.value f,args,..}=>⟨fun call T H K Kp=>(lQ f).run T fun v=>match v with
  |.fn (.func k) first cap=>XT T args.toList fun az=>match iL P k with
   |true=>call.h (.fn k) (first++az++cap) H (pY K Kp)
   |false=>pZ (x9 P k (first++az++cap)) fun g=>K g H
  |.yld r=>XT T args.toList fun az=>call.h (.yld r) az H (pY K Kp)
  |_=>none⟩
 |.call {callee:=.invoke r name,args,..}=>⟨fun call T H K Kp=>(lQ r).run T fun v=>match v with
  |.ifc t g=>match x4 P t name with
   |some k=>XT T args.toList fun az=>match iL P k with
    |true=>call.h (.fn k) (g::az) H (pY K Kp)
    |false=>none
   |none=>none
  |_=>none⟩
 |op=>⟨fun _ T H K _=>(cop P op).run T H K⟩
theorem G9 {K Kp:GV->HS->HR} {r:GRes} {H:HS} {q:GRes} (h:pY K Kp r H=some q):(∃g,r=.val g/\K g H=some q)∨(∃g,r=.panic g/\Kp g H=some q):=by
 cases r with
 |val g=>exact .inl ⟨g,rfl,h⟩
 |panic g=>exact .inr ⟨g,rfl,h⟩
theorem CS {call:HC} (hs:mA call.h call.g) {o:Oper} {T:Tr GV} {H:HS} {K Kp:GV->HS->HR} {q:GRes} (h:(tN P o.op).run call T H K Kp=some q):
  ∃r H',cE P call.g o (bO (fr T)) (ab H)=some (r,ab H')/\((∃g,r=.val g/\K g H'=some q)∨(∃g,r=.panic g/\Kp g H'=some q)):=by
 obtain⟨dst,op,ty,pos,af,gd⟩:=o;simp only at h;unfold tN at h;unfold cE;split at h
 ·rename_i x;simp only[j5] at h;split at h
  ·rename_i t g hx;exact⟨_,H,by simp only[hx],.inr ⟨_,rfl,h⟩⟩
  ·cases h
 ·rename_i f args ts;simp only[j5] at h;split at h
  ·rename_i k first cap hx
   simp only[xT] at h;split at h
   ·rename_i hc;obtain⟨r,H',h1,h⟩:=hs _ _ _ _ _ h;exact⟨r,H',by simp only[hx,hc,aA,h1],G9 h⟩
   ·rename_i hc;obtain⟨g,h1,h⟩:=iZ h;exact⟨.val g,H,by simp only[hx,hc,aY,cO,h1];rfl,.inl ⟨g,rfl,h⟩⟩
  ·rename_i r hx;simp only[xT] at h;obtain⟨r,H',h1,h⟩:=hs _ _ _ _ _ h;exact⟨r,H',by simp only[hx,h1],G9 h⟩
  ·cases h
 ·rename_i rc name args ts;simp only[j5] at h;split at h
  ·rename_i t g hx;split at h
   ·rename_i k hm;simp only[xT] at h;split at h
    ·rename_i hc;obtain⟨r,H',h1,h⟩:=hs _ _ _ _ _ h;exact⟨r,H',by simp only[hx,hm,hc,aA,h1],G9 h⟩
    ·cases h
   ·cases h
  ·cases h
 ·rename_i hn1 hn2 hn3;obtain⟨g,H',h1,h⟩:=a02 h;refine⟨.val g,H',?_,.inl ⟨g,rfl,h⟩⟩;simp only;rw[h1];rfl
end
