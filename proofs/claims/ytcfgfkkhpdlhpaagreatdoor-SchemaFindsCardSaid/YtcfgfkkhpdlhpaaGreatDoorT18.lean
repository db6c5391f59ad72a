/-
  A part of the proof of SchemaFinds.
-/
import Derived.Test.YtcfgfkkhpdlhpaaGreatDoorT17
import Derived.IntWalk
import Derived.Test.YtcfgfkkhpdlhpaaGreatDoorChecked
set_option linter.all false
set_option maxRecDepth 100000
namespace Go.Proofs.YtcfgfkkhpdlhpaaGreatDoor
open Go.RowKit
variable [Globals]
theorem Lies.nil {objs:List GObj}:Lies [] [] objs:=⟨List.nodup_nil,rfl,fun i k x h=>by simp at h,fun x h=>by simp at h⟩
def Cl (g:GV):Prop:=∀f,g.ren f=g
def ClL (l:List GV):Prop:=∀f,l.map (GV.ren f)=l
theorem ClL.nil:ClL []:=fun _=>rfl
def dM:=@ClL.nil
theorem ClL.cons {g:GV} {l:List GV} (h:Cl g) (hl:ClL l):ClL (g::l):=fun f=>by rw[dO,h f,hl f]
theorem ClL.mapOf {α:Type} {e:α->GV} (h:∀a,Cl (e a)) (l:List α):ClL (l.map e):=fun f=>by
 rw[List.map_map];exact List.map_congr_left fun a _=>h a f
def gT:=@ClL.mapOf
theorem Cl.b (x:Bool):Cl (.b x):=fun _=>rfl
theorem Cl.i (k:IntKind) (n:Int):Cl (.i k n):=fun _=>rfl
theorem Cl.s (l:List UInt8):Cl (.s l):=fun _=>rfl
theorem Cl.agg {l:List GV} (h:ClL l):Cl (.agg l):=fun f=>by rw[GV.ren,cQ,h f]
def eO:=@Cl.agg
theorem Cl.tup {l:List GV} (h:ClL l):Cl (.tup l):=fun f=>by rw[GV.ren,cQ,h f]
def fJ:=@Cl.tup
theorem Cl.ifc {t:TypeId} {g:GV} (h:Cl g):Cl (.ifc t g):=fun f=>by rw[GV.ren,h f]
theorem Cl.sl {l:List GV} (h:ClL l):Cl (.sl .none l):=fun f=>by rw[GV.ren,cQ,h f];rfl
def bV:=@Cl.sl
theorem cA {l:List (List UInt8)}:Cl (.sl .none (l.map GV.s)):=bV (gT (fun _=>Cl.s _) _)
theorem cB {l:List (List UInt8)} {t:List GV} (h:ClL t):ClL (.sl .none (l.map GV.s)::t):=ClL.cons cA h
theorem cC {g:GV} {l:List GV} (h:Cl g) (k:ClL l):ClL (g::l):=ClL.cons h k
theorem bA {g g':GV} {σ0:GS} (h:Wk g g') (hc:Cl g'):Owes [] (.val g') [] (.val g) σ0:=
 ⟨[],Lies.nil,fun i h=>absurd h (cM i),by show Wk g (g'.ren _);rw[hc];exact h⟩
theorem oJ {g g':GV} {σ0:GS} (h:g=g') (hc:Cl g'):Owes [] (.val g') [] (.val g) σ0:=bA (by rw[h];exact .refl _) hc
theorem d7 {v v':Bool} {σ0:GS} (h:v=v'):Owes [] (.val (.b v')) [] (.val (.b v)) σ0:=oJ (by rw[h]) (.b _)
theorem bI {k:IntKind} {v v':Int} {σ0:GS} (h:v=v'):Owes [] (.val (.i k v')) [] (.val (.i k v)) σ0:=oJ (by rw[h]) (.i _ _)
theorem gI {v v':List UInt8} {σ0:GS} (h:v=v'):Owes [] (.val (.s v')) [] (.val (.s v)) σ0:=oJ (by rw[h]) (.s _)
theorem DU {a a' b b':GV} {σ0:GS} (h:Wk a a') (h':Wk b b') (hc:Cl a') (hc':Cl b'):Owes [] (.val (.tup [a',b'])) [] (.val (.tup [a,b])) σ0:=
 bA (fun C v hv=>by
  cases hv with
  |tup hl hv=>
  refine .tup hl (fun j g u h1 h2=>?_);rcases j with _|_|j
  ·simp at h1;subst h1;exact h C _ (hv 0 a u rfl h2)
  ·simp at h1;subst h1;exact h' C _ (hv 1 b u rfl h2)
  ·simp at h1) (.tup (.cons hc (.cons hc' .nil)))
def mC (φ:Fr) (l:List (Nat×GV)):Prop:=List.rec (motive:=fun _=>Prop) True (fun p _ ih=>φ p.1=p.2/\ih) l
noncomputable def C7 (φ:Fr) (l:List (Nat×GV)):Fr:=List.rec (motive:=fun _=>Fr) φ (fun p _ ih=>SA ih p.1 p.2) l
theorem zI {φ:Fr}:∀{l:List (Nat×GV)},mC φ l->C7 φ l=φ
 |[],_=>rfl
 |p::l,h=>by
  show SA (C7 φ l) p.1 p.2=φ;rw[zI (show mC φ l from h.2),vF];exact u6 h.1
theorem GLoop.intro {α:Type} {f:pY} {φ:Fr} {σ:GS} {K:GX->Fr->GS->Prop} (J:α->Prop) (L:α->List (Nat×GV)) (S:α->GS) (μ:α->Nat) (a0:α)
  (h0:J a0) (hφ:mC φ (L a0)) (hσ:σ=S a0)
  (step:∀a φ0,J a->f (C7 φ0 (L a)) (S a) fun x φ' σ'=>match x with
   |.normal=>∃m',m'<μ a/\∃a',J a'/\μ a'=m'/\mC φ' (L a')/\σ'=S a'
   |.exit i=>K (.exit i) φ' σ'
   |.ret=>K .ret φ' σ'
   |.panic g=>K (.panic g) φ' σ'):GLoop f φ σ K:=
 ⟨⟨fun m φ σ=>∃a,J a/\μ a=m/\mC φ (L a)/\σ=S a,fun m φ σ=>∃a,J a/\μ a=m/\mC φ (L a)/\σ=S a,μ a0,⟨a0,h0,rfl,hφ,hσ⟩,fun _ _ _ h=>.inl h,fun m φ σ ⟨a,ha,hm,hf,hs⟩=>by
  subst hs;subst hm;have:=step a φ ha;rwa [zI hf] at this⟩⟩
def dG:=@GLoop.intro
theorem C6 (φ:Fr) (d:Nat) (g:GV):GJ φ d g d=g:=by simp[GJ]
theorem zD {φ:Fr} {d t:Nat} {g:GV} (h:¬t=d):GJ φ d g t=φ t:=by simp[GJ,h]
theorem a2N {φ:Fr}:∀{l:List (Nat×GV)},mC φ l↔∀p∈l,φ p.1=p.2
 |[]=>⟨fun _ p hp=>(List.not_mem_nil hp).elim,fun _=>trivial⟩
 |q::l=>⟨fun h p hp=>by
   rcases List.mem_cons.1 hp with rfl|hp
   ·exact h.1
   ·exact a2N.1 (show mC φ l from h.2) p hp,fun h=>⟨h q (fO ..),a2N.2 fun p hp=>h p (f6 _ hp)⟩⟩
theorem NT {φ' ψ:Fr}:∀{l:List (Nat×GV)},mC φ' l->∀p∈l,C7 ψ l p.1=p.2
 |q::l,h,p,hp=>by
  show SA (C7 ψ l) q.1 q.2 p.1=p.2;rw[vF];by_cases ht:p.1=q.1
  ·rw[ht,C6];have h1:=a2N.1 h p hp;have h2:=a2N.1 h q (fO ..);rw[<-h1,<-h2,ht]
  ·rw[zD ht];rcases List.mem_cons.1 hp with rfl|hp
   ·exact absurd rfl ht
   ·exact NT (show mC φ' l from h.2) p hp
theorem QI {φ' ψ:Fr} {l:List (Nat×GV)} (h:mC φ' l):mC (C7 ψ l) l:=a2N.2 (NT h)
theorem NS {φ:Fr} (e:Nat->Nat):∀{l:List (Nat×GV)} {φ':Fr},mC φ' l->(∀p∈l,p.2.ren e=p.2)->∀t,φ' t=((C7 (fun _=>.any) l) t).ren e∨C7 (fun _=>.any) l t=.any
 |[],φ',_,_,t=>.inr rfl
 |p::l,φ',h,hr,t=>by
  show φ' t=(SA (C7 _ l) p.1 p.2 t).ren e∨SA (C7 _ l) p.1 p.2 t=.any;rw[vF];by_cases ht:t=p.1
  ·subst ht;left;have h1:φ' p.1=p.2:=h.1;rw[C6,h1,hr p (fO ..)]
  ·rw[zD ht];exact NS (φ:=φ) e (show mC φ' l from h.2) (fun q hq=>hr q (f6 _ hq)) t
theorem GLoop.introS {α:Type} {f:pY} {φ:Fr} {σ:GS} {K:GX->Fr->GS->Prop} (J:α->Prop) (L:α->List (Nat×GV)) (S:α->GS) (μ:α->Nat) (a0:α)
  (h0:J a0) (hφ:mC φ (L a0)) (hσ:σ=S a0)
  (hn:∀a,J a->(S a0).objs.length<=(S a).objs.length)
  (hh:∀a,J a->(S a).objs.all GObj.notHeld=true)
  (hc:∀a,J a->∀e:Nat->Nat,(∀i,i<(S a).objs.length->e i=i)->(S a).objs.map (GObj.ren e)=(S a).objs/\(S a).ds.map (GDef.ren e)=(S a).ds/\(L a).map (fun p=>p.2.ren e)=(L a).map (·.2))
  (step:∀a φ0,J a->f (C7 φ0 (L a)) (S a) fun x φ' σ'=>match x with
   |.normal=>∃m',m'<μ a/\∃a',J a'/\μ a'=m'/\mC φ' (L a')/\∃extra,σ'.objs=(S a').objs++extra/\σ'.ds=(S a').ds
   |.exit i=>K (.exit i) φ' σ'
   |.ret=>K .ret φ' σ'
   |.panic g=>K (.panic g) φ' σ'):GLoop f φ σ K:=
 ⟨⟨fun m φ σ=>∃a,J a/\μ a=m/\mC φ (L a)/\σ=S a,fun m φ' σ'=>∃a',J a'/\μ a'=m/\mC φ' (L a')/\∃extra,σ'.objs=(S a').objs++extra/\σ'.ds=(S a').ds,μ a0,⟨a0,h0,rfl,hφ,hσ⟩,fun m φ' σ' ⟨a',hJ,hm,hf,extra,ho,hd⟩=>by
  refine .inr ⟨C7 (fun _=>.any) (L a'),S a',⟨⟨List.range (S a').objs.length,?_,fun i hi=>?_,?_,?_⟩⟩,a',hJ,hm,?_,rfl⟩;all_goals (try have he:∀i,i<(S a').objs.length->iT (List.range (S a').objs.length) σ'.objs.length i=i:=fun i hi=>by rw[kF (by simpa using hi)];simp)
  ·obtain⟨c1,_,_⟩:=hc a' hJ _ he;refine⟨List.nodup_range,by simp,fun i k x h1 h2=>?_,fun x hx e=>by subst e;have:=List.all_eq_true.1 (hh a' hJ) _ hx;cases this⟩;obtain⟨h3,h4⟩:=List.getElem?_eq_some_iff.1 h1;simp at h4;subst h4;have hi:i<(S a').objs.length:=by simpa using h3
   have:=aQ (fun l:List GObj=>l[i]?) c1;simp only[aM,h2,eL,j6] at this;rw[this,ho,aT hi];exact h2
  ·have:i<(S a').objs.length:=cT (by rw[<-hσ];exact hi) (hn a' hJ);simp[this]
  ·rw[hd];exact(hc a' hJ _ he).2.1.symm
  ·refine NS (φ:=φ) _ hf (fun p hp=>?_);have c3:=(hc a' hJ _ he).2.2;obtain⟨j,hj⟩:=List.mem_iff_getElem?.1 hp;have:=aQ (fun l:List GV=>l[j]?) c3;simpa[aM,hj] using this
  ·exact QI hf,fun m φ σ ⟨a,ha,hm,hf,hs⟩=>by
  subst hs;subst hm;have:=step a φ ha;rwa [zI hf] at this⟩⟩
def fI:=@GLoop.introS
theorem GLoop.next {α:Type} {J:α->Prop} {L:α->List (Nat×GV)} {S:α->GS} {μ:α->Nat} {a:α} {φ':Fr} {σ':GS} (a':α) (h:J a') (hm:μ a'<μ a) (hf:mC φ' (L a')) (hs:σ'=S a'):
  ∃m',m'<μ a/\∃a',J a'/\μ a'=m'/\mC φ' (L a')/\σ'=S a':=⟨_,hm,a',h,rfl,hf,hs⟩
def eQ:=@GLoop.next
theorem cD {n:Int} (h0: -9223372036854775808<=n) (h1:n<=9223372036854775807):IntKind.i64.wrap n=n:=IntWalk.i64_in n ⟨h0,h1⟩
theorem b8 {i:Nat} (h:i<9223372036854775807):GV.i .i64 (IntKind.i64.wrap ((i:Int)+1))=.i .i64 ((i+1:Nat):Int):=by
 rw[cD (by omega) (by omega)];rfl
theorem j2 {c d:UInt8} (h:((c.toNat:Int)==(d.toNat:Int))=true):c=d:=by
 simp at h;exact UInt8.toNat_inj.1 (by omega)
theorem jV {c d:UInt8} (h:((c.toNat:Int)==(d.toNat:Int))=false):c≠d:=fun e=>by simp[e] at h
theorem kH {i:Nat} (h:i<9223372036854775807):[GV.i .i64 ((i+1:Nat):Int)]=(GV.i .i64 (IntKind.i64.wrap ((i:Int)+1))).cells:=by
 rw[b8 h];rfl
theorem CK (objs:List GObj):iI [] [] objs=objs:=by
 apply dS;intro r;rw[iR (fun k h=>by cases h) (rL _)];unfold gX;by_cases hr:r<objs.length
 ·rw[aG hr];rfl
 ·rw[aE hr];simp;omega
theorem SC.pureFact {P:Program} {k:FuncId} {a args:List GV} {r:GV} (h:SC P k a [] (.val r) []) (σ:GS) (hlo:σ.lo=0) (ha:ClL a) (hr:Cl r) (hw:Wks args a):Fact P (.fn k) args σ (.val r) σ:=by
 have:=h.fact (σ:=σ) [] Lies.nil hlo (by rw[ha];exact hw);rw[CK] at this;rw[show(GRes.val r).ren (iT [] σ.objs.length)=.val r by show GRes.val (r.ren _)=_;rw[hr]] at this;exact this
theorem bG {P:Program} {M:FuncId->Bool} {k:FuncId} {a args:List GV} {r:GV} {σ:GS} {K:GRes->GS->Prop} (h:SC P k a [] (.val r) []) (hw:Wks args a) (hlo:σ.lo=0) (ha:ClL a) (hr:Cl r) (hk:K (.val r) σ):
  iU P M (.fn k) args σ K:=⟨.val r,σ,h.pureFact σ hlo ha hr hw,fun _ _ _=>rfl,hk⟩
theorem wB {q:Nat} {x:GObj} {objs:List GObj} (hq:q<objs.length) (hx:x.ren (iT [q] objs.length)=x):iI [q] [x] objs=objs.set q x:=by
 apply dS;intro r;rw[iR (fun k h=>by simp at h;omega) (rL _)];unfold gX;by_cases hr:r<objs.length
 ·rw[aG hr];by_cases hrq:q=r
  ·subst hrq;have:([q]:List Nat).idxOf? q=some 0:=by simp[List.idxOf?,List.findIdx?_cons]
   rw[this];simp[hx,hr]
  ·have:([q]:List Nat).idxOf? r=none:=by simp[List.idxOf?,List.findIdx?_cons,hrq]
   rw[this,dF hrq]
 ·rw[aE hr];simp only[aV];rw[b6 (l:=[x]) (by simp only[aV];omega),b6 (l:=objs.set q x) (by rw[List.length_set];omega)];rfl
theorem Lies.one {q:Nat} {x:GObj} {objs:List GObj} (hq:objs[q]?=some x) (hx:∀f,x.ren f=x) (hne:x≠ .held):Lies [q] [x] objs:=
 ⟨by simp,rfl,fun i k y h1 h2=>by
  rcases i with _|i
  ·simp at h1 h2;subst h1;subst h2;rw[hx];exact hq
  ·simp at h1,fun y hy=>by simp at hy;subst hy;exact hne⟩
theorem GObj.box_cl {T:TypeId} {cs:List GV} (h:ClL cs) (f:Nat->Nat):(GObj.box T cs).ren f=.box T cs:=by
 show GObj.box T (cs.map _)=_;rw[h f]
def eM:=@GObj.box_cl
theorem nH {P:Program} {M:FuncId->Bool} {k:FuncId} {a args:List GV} {r:GV} {σ:GS} {K:GRes->GS->Prop} (h:SC P k a [] (.val r) []) (hk:K (.val r) σ) (hw:Wks args a:=by first|exact wR _|exact wC (bE _ _) (wR _)|exact wC (bE _ _) (wC (bE _ _) (wR _))|exact wC (cY _) (wC (bE _ _) (wR _))) (hlo:σ.lo=0:=by rfl) (ha:ClL a:=by first|exact fun _=>rfl|exact cA|exact cB fun _=>rfl) (hr:Cl r:=by first|exact fun _=>rfl|exact cA|exact cB fun _=>rfl):iU P M (.fn k) args σ K:=bG h hw hlo ha hr hk
theorem aW {P:Program} {M:FuncId->Bool} {k:FuncId} {q:Nat} {a args:List GV} {T:TypeId} {cs cs':List GV} {r:GV} {σ:GS} {K:GRes->GS->Prop} (h:SC P k (.ptr 0 0::a) [.box T cs] (.val r) [.box T cs'])
  (hq:σ.objs[q]?=some (.box T cs)) (hw:Wks args (.ptr q 0::a)) (hlo:σ.lo=0) (hM:M k=false) (hc:ClL cs) (hc':ClL cs') (ha:ClL a) (hr:Cl r) (hk:s5 σ q (.box T cs') fun s=>K (.val r) s):iU P M (.fn k) args σ K:=by
 have hql:q<σ.objs.length:=(List.getElem?_eq_some_iff.1 hq).1;have hf:=h.fact (σ:=σ) (args':=args) [q] (Lies.one hq (eM hc) (by simp)) hlo (by
  have e0:(GV.ptr 0 0).ren (iT [q] σ.objs.length)=.ptr q 0:=by show GV.ptr (iT [q] _ 0) 0=_;rw[kF (by simp)];rfl
  rw[dO,e0,ha];exact hw)
 rw[wB hql (eM hc' _)] at hf;rw[show(GRes.val r).ren (iT [q] σ.objs.length)=.val r by show GRes.val (r.ren _)=_;rw[hr]] at hf;exact⟨.val r,_,hf,(fun k' e hk'=>by cases e;rw[hM] at hk';cases hk'),mI (K:=fun s=>K (.val r) s) hk⟩
theorem gC {T:TypeId} {cs0 cs cs':List GV} {g g':GV} {rest:List GObj} {lo:Nat} {ds:List GDef} (hcs:cs=cs') (hw:Wk g g') (hc:ClL cs') (hr:Cl g'):
  Owes [.box T cs0] (.val g') [.box T cs'] (.val g) ⟨.box T cs::rest,lo,ds⟩:=by
 subst hcs;refine⟨[0],Lies.one rfl (eM hc) (by simp),fun i hi=>?_,by show Wk g (g'.ren _);rw[hr];exact hw⟩;have:i=0:=by simp at hi;omega
 subst this;rfl
theorem kJ {T:TypeId} {cs0 cs cs':List GV} {v v':List UInt8} {rest:List GObj} {lo:Nat} {ds:List GDef} (hcs:cs=cs') (h:v=v') (hc:ClL cs'):
  Owes [.box T cs0] (.val (.s v')) [.box T cs'] (.val (.s v)) ⟨.box T cs::rest,lo,ds⟩:=gC hcs (by rw[h];exact .refl _) hc (.s _)
theorem rX {T:TypeId} {cs0 cs cs':List GV} {v v':Bool} {rest:List GObj} {lo:Nat} {ds:List GDef} (hcs:cs=cs') (h:v=v') (hc:ClL cs'):
  Owes [.box T cs0] (.val (.b v')) [.box T cs'] (.val (.b v)) ⟨.box T cs::rest,lo,ds⟩:=gC hcs (by rw[h];exact .refl _) hc (.b _)
theorem Wks.cons {g h:GV} {gs hs:List GV} (a:Wk g h) (b:Wks gs hs):Wks (g::gs) (h::hs):=⟨a,b⟩
theorem wC {g h:GV} {gs hs:List GV} (a:Wk g h) (b:Wks gs hs):Wks (g::gs) (h::hs):=⟨a,b⟩
theorem Wks.nil:Wks [] []:=trivial
def jL:=@Wks.nil
end Go.Proofs.YtcfgfkkhpdlhpaaGreatDoor
namespace Go.Proofs.YtcfgfkkhpdlhpaaGreatDoor
def a2o:List GV:=[.i .u8 0,.i .u8 1,.i .u8 28,.i .u8 2,.i .u8 29,.i .u8 14,.i .u8 24,.i .u8 3,.i .u8 30,.i .u8 22,.i .u8 20,.i .u8 15,.i .u8 25,.i .u8 17,.i .u8 4,.i .u8 8,.i .u8 31,.i .u8 27,.i .u8 13,.i .u8 23,.i .u8 21,.i .u8 19,.i .u8 16,.i .u8 7,.i .u8 26,.i .u8 12,.i .u8 18,.i .u8 6,.i .u8 11,.i .u8 5,.i .u8 10,.i .u8 9]
def a2n:List GV:=[.i .u8 0,.i .u8 1,.i .u8 56,.i .u8 2,.i .u8 57,.i .u8 49,.i .u8 28,.i .u8 3,.i .u8 61,.i .u8 58,.i .u8 42,.i .u8 50,.i .u8 38,.i .u8 29,.i .u8 17,.i .u8 4,.i .u8 62,.i .u8 47,.i .u8 59,.i .u8 36,.i .u8 45,.i .u8 43,.i .u8 51,.i .u8 22,.i .u8 53,.i .u8 39,.i .u8 33,.i .u8 30,.i .u8 24,.i .u8 18,.i .u8 12,.i .u8 5,.i .u8 63,.i .u8 55,.i .u8 48,.i .u8 27,.i .u8 60,.i .u8 41,.i .u8 37,.i .u8 16,.i .u8 46,.i .u8 35,.i .u8 44,.i .u8 21,.i .u8 52,.i .u8 32,.i .u8 23,.i .u8 11,.i .u8 54,.i .u8 26,.i .u8 40,.i .u8 15,.i .u8 34,.i .u8 20,.i .u8 31,.i .u8 10,.i .u8 25,.i .u8 14,.i .u8 19,.i .u8 9,.i .u8 13,.i .u8 8,.i .u8 7,.i .u8 6]
def XB:List GV:=[.i .u64 1,.i .u64 10,.i .u64 100,.i .u64 1000,.i .u64 10000,.i .u64 100000,.i .u64 1000000,.i .u64 10000000,.i .u64 100000000,.i .u64 1000000000,.i .u64 10000000000,.i .u64 100000000000,.i .u64 1000000000000,.i .u64 10000000000000,.i .u64 100000000000000,.i .u64 1000000000000000,.i .u64 10000000000000000,.i .u64 100000000000000000,.i .u64 1000000000000000000,.i .u64 10000000000000000000]
def a2l:List GV:=[.ifc 342 (.snap [.s [118,97,108,117,101,32,111,117,116,32,111,102,32,114,97,110,103,101]] 0)]
def a2m:List GV:=[.ifc 342 (.snap [.s [105,110,118,97,108,105,100,32,115,121,110,116,97,120]] 0)]
class MaxL where
 m:Int
instance [MaxL]:Globals:=⟨fun g=>match g with
 |0=>some [.i .i64 MaxL.m]
 |1=>some XB
 |2=>some a2o
 |3=>some a2n
 |4=>some a2m
 |5=>some a2l
 |_=>none,fun t=>Nat.beq t 80||Nat.beq t 46,fun _=>false⟩
end Go.Proofs.YtcfgfkkhpdlhpaaGreatDoor
namespace Go.Proofs.YtcfgfkkhpdlhpaaGreatDoor
open Go.RowKit
theorem mixed:Tryz.prog.follows .mixedOrders=true:=by kernel_rfl
def oY:FuncId->Bool:=fun _=>true
theorem cZ [MaxL] {k:FuncId} {fn:Func} {c:Code} (hfn:Tryz.prog.funcs[k]?=some fn) (hb:fn.body=some c) {args:List GV} {s s':List GObj} {r:GRes} (h:PI Tryz.prog oY none fn.ntmps c (nS args) ⟨s,0,[]⟩ (XW Tryz.prog fn (Owes s r s'))) (h1:args.length<=fn.ntmps:=by exact bL rfl) (h2:s.length<=s'.length:=by first|exact rL _|simp) (h3:s'.all GObj.notHeld=true:=by rfl):SC Tryz.prog k args s r s':=cH oY mixed hfn hb h1 h2 h3 h
def mB (c:UInt8):Bool:=decide (97<=c.toNat)&&decide (c.toNat<=122)
def cR (c:UInt8):Bool:=decide (48<=c.toNat)&&decide (c.toNat<=57)
def d9 (c:UInt8):Bool:=mB c||cR c||c.toNat==95
theorem SM [MaxL] (c:UInt8):SC Tryz.prog 215 [.i .u8 c.toNat] [] (.val (.b (mB c))) []:=by
 refine cH oY mixed Tryz.func215 rfl (bL rfl) (rL _) rfl ?_;conv=>whnf
 repeat' ((refine aF (fun h=>?_) (fun h=>?_))<;>conv=>whnf)
 all_goals (refine d7 ?_;simp only[aL,bM] at*;rw[eZ];simp[mB];omega)
theorem a0W [MaxL] (c:UInt8):SC Tryz.prog 299 [.i .u8 c.toNat] [] (.val (.b (cR c))) []:=by
 refine cH oY mixed Tryz.func299 rfl (bL rfl) (rL _) rfl ?_;conv=>whnf
 repeat' ((refine aF (fun h=>?_) (fun h=>?_))<;>conv=>whnf)
 all_goals (refine d7 ?_;simp only[aL,bM] at*;rw[eZ];simp[cR];omega)
theorem GZ [MaxL] (c:UInt8):SC Tryz.prog 298 [.i .u8 c.toNat] [] (.val (.b (d9 c))) []:=by
 refine cH oY mixed Tryz.func298 rfl (bL rfl) (rL _) rfl ?_;conv=>whnf
 repeat' ((refine aF (fun h=>?_) (fun h=>?_))<;>conv=>whnf)
 all_goals (refine d7 ?_;simp only[aL,bM] at*;rw[eZ];simp[d9,mB,cR];omega)
theorem a0V [MaxL] (c : UInt8) : SC Tryz.prog 216 [.i .u8 c.toNat] [] (.val (.b (d9 c))) [] := by
 refine cH oY mixed Tryz.func216 rfl (bL rfl) (rL _) rfl ?_;conv => whnf
 refine bG (SM c) (wR _) rfl (fun _ => rfl) (.b _) ?_;conv => whnf
 repeat' ((refine aF (fun h => ?_) (fun h => ?_)) <;> conv => whnf)
 all_goals (refine d7 ?_; (try simp only [aL, bM] at *); rw [eZ]; simp [d9, cR, *]; try omega)
def fV (l:List UInt8):Bool:=match l with
 |[]=>false
 |c::_=>decide (l.length<=16)&&mB c&&l.all d9
theorem LI [MaxL] (l : List UInt8) : SC Tryz.prog 174 [.s l] [] (.val (.b (fV l))) [] := by
  refine cH oY mixed Tryz.func174 rfl (bL rfl) (rL _) rfl ?_;cases l with
  | nil => conv => whnf
           exact d7 rfl
  | cons c t =>
    conv => whnf
    refine aF (fun h16 => ?_) (fun h16 => ?_) <;> conv => whnf
    · refine d7 ?_
      simp [fV] at h16 ⊢; omega
    · refine ⟨dN 0, c, rfl, ?_⟩
      conv => whnf
      refine bG (SM c) (wR _) rfl (fun _ => rfl) (.b _) ?_;conv => whnf
      refine aF (fun hs => ?_) (fun hs => ?_) <;> conv => whnf
      · refine d7 ?_
        simp at hs;simp [fV, hs]
      · simp at hs
        have h16' : (c :: t).length ≤ 16 := by simp at h16 ⊢; omega
        refine dG (fun i : Nat => i ≤ (c :: t).length ∧ ((c :: t).take i).all d9 = true) (fun i => [(0, .s (c :: t)), (18, .i .i64 (c :: t).length), (19, .i .i64 i)]) (fun _ => ⟨[], 0, []⟩) (fun i => (c :: t).length - i) 0 ⟨zL _, rfl⟩ ⟨rfl, rfl, rfl, trivial⟩ rfl (fun i φ0 hi => ?_);conv => whnf
        refine aF (fun h => ?_) (fun h => ?_) <;> conv => whnf
        · have hlt : i < (c :: t).length := by simp at h ⊢; omega
          refine ⟨cN _, (c :: t)[i], by simp, ?_⟩;conv => whnf
          refine bG (a0V (c :: t)[i]) (wR _) rfl (fun _ => rfl) (.b _) ?_;conv => whnf
          refine aF (fun hb => ?_) (fun hb => ?_) <;> conv => whnf
          · refine d7 ?_
            simp at hb;have : (c :: t).all d9 = false := by
              rw [← Bool.not_eq_true, aS]; intro ha;exact absurd (ha _ (eI hlt)) (by simp [hb])
            simp [fV, this]
          · simp at hb
            refine eQ (i + 1) ⟨hlt, ?_⟩ (by omega) ⟨rfl, rfl, ?_, trivial⟩ rfl
            · rw [List.take_succ_eq_append_getElem hlt, List.all_append, hi.2]; simp [hb]
            · exact b8 (by omega)
        · refine d7 ?_
          have : i = (c :: t).length := by have := hi.1; simp at h; simp at this ⊢; omega
          have ha := hi.2;rw [this, b7] at ha;simp only [fV, hs, ha];simp; simp at h16'; omega
end Go.Proofs.YtcfgfkkhpdlhpaaGreatDoor
namespace Go.Proofs.YtcfgfkkhpdlhpaaGreatDoor
open Go.RowKit
def bH:Nat:=4611686018427387904
def a04 (xs:List (List UInt8)) (v:List UInt8):Int:=match xs.findIdx? (· ==v) with
 |some i=>i
 |none=> -1
theorem YD [MaxL] (xs:List (List UInt8)) (v:List UInt8) (hb:xs.length<bH):
  SC Tryz.prog 181 [.sl .none (xs.map .s),.s v] [] (.val (.i .i64 (a04 xs v))) []:=by
 unfold bH at hb;refine cZ Tryz.func181 rfl ?_;conv=>whnf
 refine dG (fun i:Nat=>i<=xs.length/\(xs.take i).findIdx? (· ==v)=none) (fun i=>[(0,.sl .none (xs.map .s)),(1,.s v),(7,.i .i64 (xs.map GV.s).length),(8,.i .i64 i)]) (fun _=>⟨[],0,[]⟩) (fun i=>xs.length - i) 0 ⟨zL _,rfl⟩ ⟨rfl,rfl,rfl,rfl,trivial⟩ rfl (fun i φ0 hi=>?_);conv=>whnf
 refine aF (fun h=>?_) (fun h=>?_)<;>conv=>whnf
 ·have hlt:i<xs.length:=by simp at h;omega
  refine⟨cN _,.s xs[i],by simp[hlt],rfl,?_⟩;conv=>whnf
  refine aF (fun hv=>?_) (fun hv=>?_)<;>conv=>whnf
  ·refine bI ?_;have hv':xs[i]=v:=by simpa using(eq_comm.1 (by simpa using hv))
   have:xs.findIdx? (· ==v)=some i:=by
    rw[List.findIdx?_eq_some_iff_getElem];refine⟨hlt,by simpa using hv',fun j hj=>?_⟩;have:=List.findIdx?_eq_none_iff.1 hi.2 xs[j] (by
     rw[List.mem_iff_getElem?];exact⟨j,by rw[dJ,aG hj,gL]⟩)
    simpa using this
   simp[a04,this]
  ·refine eQ (i+1) ⟨hlt,?_⟩ (by omega) ⟨rfl,rfl,rfl,b8 (by omega),trivial⟩ rfl;rw[List.take_succ_eq_append_getElem hlt,List.findIdx?_append,hi.2];have:¬xs[i]=v:=fun e=>by simp[e] at hv
   simp[this]
 ·refine bI ?_;have:i=xs.length:=by have:=hi.1;simp at h;omega
  have ha:=hi.2;rw[this,b7] at ha;simp[a04,ha]
theorem DA [MaxL] (xs:List (List UInt8)) (v:List UInt8) (hb:xs.length<bH):
  SC Tryz.prog 119 [.sl .none (xs.map .s),.s v] [] (.val (.b (xs.contains v))) []:=by
 refine cZ Tryz.func119 rfl ?_;conv=>whnf
 refine nH (YD xs v hb) ?_;conv=>whnf
 refine d7 ?_;unfold a04;cases h:xs.findIdx? (· ==v) with
 |none=>
  have:¬v∈xs:=fun hm=>by have:=List.findIdx?_eq_none_iff.1 h v hm;simp at this
  simp[this]
 |some i=>
  obtain⟨hi,h1,_⟩:=List.findIdx?_eq_some_iff_getElem.1 h;have:v∈xs:=by have:=eI hi;rwa [show xs[i]=v by simpa using h1] at this
  simp[this]
def a2q:List (List UInt8):=[[97,110,100],[111,114],[110,111,116],[116,114,117,101],[102,97,108,115,101]]
theorem a0U [MaxL] (l:List UInt8):SC Tryz.prog 346 [.s l] [] (.val (.b (a2q.contains l))) []:=by
 refine cZ Tryz.func346 rfl ?_;conv=>whnf
 refine nH (DA a2q l (by decide)) ?_;conv=>whnf
 exact d7 rfl
end Go.Proofs.YtcfgfkkhpdlhpaaGreatDoor
namespace Go.Proofs.YtcfgfkkhpdlhpaaGreatDoor
open Go.RowKit
variable [Globals]
theorem uC {P:Program} {M:FuncId->Bool} {k:FuncId} {a args:List GV} {s s':List GObj} {r r':GRes} {σ:GS} {K:GRes->GS->Prop} (h:SC P k a s r s') (ks:List Nat) {objs':List GObj} (hl:Lies ks s σ.objs)
  (hw:Wks args (a.map (GV.ren (iT ks σ.objs.length)))) (hlo:σ.lo=0) (hM:M k=false) (ho:iI ks s' σ.objs=objs') (hr:r.ren (iT ks σ.objs.length)=r') (hk:K r' ⟨objs',σ.lo,σ.ds⟩):iU P M (.fn k) args σ K:=by
 have hf:=h.fact (σ:=σ) (args':=args) ks hl hlo hw;rw[ho,hr] at hf;exact⟨r',_,hf,(fun k' e hk'=>by cases e;rw[hM] at hk';cases hk'),hk⟩
theorem Lies.one' {q:Nat} {x:GObj} {objs:List GObj} (hq:objs[q]?=some (x.ren (iT [q] objs.length))) (hne:x≠ .held):Lies [q] [x] objs:=
 ⟨by simp,rfl,fun i k y h1 h2=>by
  rcases i with _|i
  ·simp at h1 h2;subst h1;subst h2;exact hq
  ·simp at h1,fun y hy=>by simp at hy;subst hy;exact hne⟩
theorem Lies.two {q p:Nat} {x y:GObj} {objs:List GObj} (hn:q≠p) (hq:objs[q]?=some (x.ren (iT [q,p] objs.length))) (hp:objs[p]?=some (y.ren (iT [q,p] objs.length))) (hx:x≠ .held) (hy:y≠ .held):Lies [q,p] [x,y] objs:=
 ⟨by simp[hn],rfl,fun i k z h1 h2=>by
  rcases i with _|_|i
  ·simp at h1 h2;subst h1;subst h2;exact hq
  ·simp at h1 h2;subst h1;subst h2;exact hp
  ·simp at h1,fun z hz=>by simp at hz;rcases hz with rfl|rfl<;>assumption⟩
theorem Wk.agg {l l':List GV} (hl:l.length=l'.length) (h:∀(j:Nat) g g',l[j]?=some g->l'[j]?=some g'->Wk g g'):Wk (.agg l) (.agg l'):=fun C v hv=>by
 cases hv with
 |agg hs hv=>
 refine .agg (by rw[hs,hl]) (fun j g u h1 h2=>?_);have hj:j<l.length:=by rw[hl];exact(List.getElem?_eq_some_iff.1 h1).1
 exact h j l[j] g (gL hj) h1 C u (hv j _ u (gL hj) h2)
theorem Wk.of_eq {g g':GV} (h:g=g'):Wk g g':=h▸ .refl g
end Go.Proofs.YtcfgfkkhpdlhpaaGreatDoor
namespace Go.Proofs.YtcfgfkkhpdlhpaaGreatDoor
open Go.RowKit
structure Val where
 k:Int
 n:Int
 s:List UInt8
 deriving DecidableEq
def Val.cs (v:Val):List GV:=[.i .i64 v.k,.i .i64 v.n,.s v.s]
def Val.gv (v:Val):GV:=.agg v.cs
theorem Val.cl [MaxL] (v:Val):Cl v.gv:=fun _=>rfl
def Val.ok (v:Val):Bool:=(decide (v.k=1)&&decide (v.s=[])&&decide (-1000000000<=v.n)&&decide (v.n<=1000000000))||(decide (v.k=2)&&decide (v.n=0)&&decide (v.s.length<=40))
theorem x9 [MaxL] (n lo hi:Int):SC Tryz.prog 178 [.i .i64 n,.i .i64 lo,.i .i64 hi] [] (.val (.b (decide (lo<=n)&&decide (n<=hi)))) []:=by
 refine cZ Tryz.func178 rfl ?_;conv=>whnf
 repeat' first
  |(refine aF (fun _=>?_) (fun _=>?_)<;>conv=>whnf)
  |(refine b9 (by kernel_rfl) ?_;conv=>whnf)
  |(refine⟨_,⟨rfl,zL _,rfl,bL rfl⟩,?_⟩;conv=>whnf)
 all_goals (rename_i h;refine d7 ?_;simp at h⊢;omega)
def a0J:GV:=.agg [.fn (.func 291) [] [],.fn (.func 292) [] [],.fn (.func 293) [] []]
theorem YA [MaxL]:SC Tryz.prog 254 [] [] (.val a0J) []:=by
 refine cZ Tryz.func254 rfl ?_;conv=>whnf
 repeat' first
  |(refine aF (fun _=>?_) (fun _=>?_)<;>conv=>whnf)
  |(refine b9 (by kernel_rfl) ?_;conv=>whnf)
  |(refine⟨_,⟨rfl,zL _,rfl,bL rfl⟩,?_⟩;conv=>whnf)
 exact oJ rfl (fun _=>rfl)
theorem UP [MaxL] (v:Val):SC Tryz.prog 291 [v.gv] [] (.val (.b false)) []:=by
 refine cZ Tryz.func291 rfl ?_;conv=>whnf
 exact d7 rfl
theorem UO [MaxL] (v:Val):SC Tryz.prog 292 [v.gv] [] (.val (.b (decide (v.s=[])&&(decide (-1000000000<=v.n)&&decide (v.n<=1000000000))))) []:=by
 refine cZ Tryz.func292 rfl ?_;conv=>whnf
 repeat' first
  |(refine aF (fun _=>?_) (fun _=>?_)<;>conv=>whnf)
  |(refine b9 (by kernel_rfl) ?_;conv=>whnf)
  |(refine⟨_,⟨rfl,zL _,rfl,bL rfl⟩,?_⟩;conv=>whnf)
  |(refine nH (x9 _ _ _) ?_;conv=>whnf)
 ·rename_i h;refine d7 ?_;simp at h;simp[h]
 ·rename_i h;refine d7 ?_;simp at h;simp[h]
theorem UN [MaxL] (v:Val):SC Tryz.prog 293 [v.gv] [] (.val (.b (decide (v.n=0)&&decide (v.s.length<=40)))) []:=by
 refine cZ Tryz.func293 rfl ?_;conv=>whnf
 repeat' first
  |(refine aF (fun _=>?_) (fun _=>?_)<;>conv=>whnf)
  |(refine b9 (by kernel_rfl) ?_;conv=>whnf)
  |(refine⟨_,⟨rfl,zL _,rfl,bL rfl⟩,?_⟩;conv=>whnf)
  |(refine nH (x9 _ _ _) ?_;conv=>whnf)
 ·rename_i h;refine d7 ?_;simp at h;simp[h];omega
 ·rename_i h;refine d7 ?_;simp at h;simp[h]
theorem vJ [MaxL] (v:Val):SC Tryz.prog 210 [v.gv] [] (.val (.b v.ok)) []:=by
 obtain⟨k,n,s⟩:=v;refine cZ Tryz.func210 rfl ?_;conv=>whnf
 refine b9 (by kernel_rfl) ?_;conv=>whnf
 refine bG (x9 k 0 2) (wR _) rfl (fun _=>rfl) (.b _) ?_;conv=>whnf
 refine aF (fun h=>?_) (fun h=>?_)<;>conv=>whnf
 ·refine bG YA jL rfl dM (fun _=>rfl) ?_;conv=>whnf
  have hk:k=0∨k=1∨k=2:=by simp at h;omega
  rcases hk with rfl|rfl|rfl<;>conv=>whnf
  ·refine bG (UP ⟨0,n,s⟩) (wR _) rfl (fun _=>rfl) (.b _) ?_;(conv=>whnf);exact d7 (by simp[Val.ok])
  ·refine bG (UO ⟨1,n,s⟩) (wR _) rfl (fun _=>rfl) (.b _) ?_;(conv=>whnf);exact d7 (by simp[Val.ok,Bool.and_assoc])
  ·refine bG (UN ⟨2,n,s⟩) (wR _) rfl (fun _=>rfl) (.b _) ?_;(conv=>whnf);exact d7 (by simp[Val.ok])
 ·refine d7 ?_;simp at h;simp[Val.ok];omega
end Go.Proofs.YtcfgfkkhpdlhpaaGreatDoor
namespace Go.Proofs.YtcfgfkkhpdlhpaaGreatDoor
open Go.RowKit
theorem O3 [MaxL] (v:Val):SC Tryz.prog 329 [v.gv] [] (.val (.b (!v.ok))) []:=by
 refine cZ Tryz.func329 rfl ?_;conv=>whnf
 repeat' first
  |(refine aF (fun _=>?_) (fun _=>?_)<;>conv=>whnf)
  |(refine b9 (by kernel_rfl) ?_;conv=>whnf)
  |(refine⟨_,⟨rfl,zL _,rfl,bL rfl⟩,?_⟩;conv=>whnf)
  |(refine nH (vJ _) ?_;conv=>whnf)
 exact d7 rfl
def iQ (vs:List Val):List GV:=vs.map Val.gv
theorem jJ [MaxL] (vs:List Val):ClL (iQ vs):=gT Val.cl vs
theorem LK [MaxL] (vs:List Val) (hb:vs.length<bH):
  SC Tryz.prog 339 [.sl .none (iQ vs),.fn (.func 329) [] []] [] (.val (.i .i64 (match vs.findIdx? (fun v=>!v.ok) with|some i=>(i:Int)|none=> -1))) []:=by
 unfold bH at hb;refine cZ Tryz.func339 rfl ?_;conv=>whnf
 refine dG (fun i:Nat=>i<=vs.length/\(vs.take i).findIdx? (fun v=>!v.ok)=none) (fun i=>[(0,.sl .none (iQ vs)),(1,.fn (.func 329) [] []),(7,.i .i64 (iQ vs).length),(8,.i .i64 i)]) (fun _=>⟨[],0,[]⟩) (fun i=>vs.length - i) 0 ⟨zL _,rfl⟩ ⟨rfl,rfl,rfl,rfl,trivial⟩ rfl (fun i φ0 hi=>?_);conv=>whnf
 refine aF (fun h=>?_) (fun h=>?_)<;>conv=>whnf
 ·have hlt:i<vs.length:=by simp[iQ] at h;omega
  refine⟨cN _,vs[i].gv,by simp[hlt,iQ],rfl,?_⟩;conv=>whnf
  refine bG (O3 vs[i]) (wR _) rfl (fun _=>rfl) (.b _) ?_;conv=>whnf
  refine aF (fun hv=>?_) (fun hv=>?_)<;>conv=>whnf
  ·refine bI ?_;have:vs.findIdx? (fun v=>!v.ok)=some i:=by
    rw[List.findIdx?_eq_some_iff_getElem];refine⟨hlt,by simpa using hv,fun j hj=>?_⟩;have:=List.findIdx?_eq_none_iff.1 hi.2 vs[j] (by
     rw[List.mem_iff_getElem?];exact⟨j,by rw[dJ,aG hj,gL]⟩)
    simpa using this
   simp[this]
  ·refine eQ (i+1) ⟨hlt,?_⟩ (by omega) ⟨rfl,rfl,rfl,b8 (by omega),trivial⟩ rfl;rw[List.take_succ_eq_append_getElem hlt,List.findIdx?_append,hi.2];simp at hv;simp[hv]
 ·refine bI ?_;have:i=vs.length:=by have:=hi.1;simp[iQ] at h;omega
  have ha:=hi.2;rw[this,b7] at ha;simp[ha]
theorem DH [MaxL] (vs:List Val) (hb:vs.length<bH):
  SC Tryz.prog 328 [.sl .none (iQ vs),.fn (.func 329) [] []] [] (.val (.b (vs.any fun v=>!v.ok))) []:=by
 refine cZ Tryz.func328 rfl ?_;conv=>whnf
 refine bG (LK vs hb) (wR _) rfl (cC (bV (jJ vs)) (fun _=>rfl)) (.i _ _) ?_;conv=>whnf
 refine d7 ?_;cases h:vs.findIdx? (fun v=>!v.ok) with
 |none=>
  have:=List.findIdx?_eq_none_iff.1 h;simp at this⊢;exact this
 |some i=>
  obtain⟨hi,h1,_⟩:=List.findIdx?_eq_some_iff_getElem.1 h;simp at h1⊢;exact⟨_,eI hi,h1⟩
def pK (vs:List Val):Bool:=decide (vs.length<=8)&&vs.all Val.ok
theorem vK [MaxL] (vs:List Val) (hb:vs.length<bH):SC Tryz.prog 319 [.sl .none (iQ vs)] [] (.val (.b (pK vs))) []:=by
 refine cZ Tryz.func319 rfl ?_;conv=>whnf
 refine aF (fun h=>?_) (fun h=>?_)<;>conv=>whnf
 ·refine bG (DH vs hb) (wR _) rfl (cC (bV (jJ vs)) (fun _=>rfl)) (.b _) ?_;conv=>whnf
  refine d7 ?_;simp[iQ] at h;simp[pK,List.not_any_eq_all_not];omega
 ·refine d7 ?_;simp[iQ] at h;simp[pK];omega
def DC (s:List UInt8) (n:Nat):GObj:=.box 361 [.s s,.i .i64 n]
theorem xB [MaxL] (s:List UInt8) (n:Nat) (hs:s.length<bH):SC Tryz.prog 357 [.ptr 0 0] [DC s n] (.val (.i .u8 (s.getD n 0).toNat)) [DC s n]:=by
 refine cZ Tryz.func357 rfl ?_;conv=>whnf
 refine b9 (by kernel_rfl) ?_;conv=>whnf
 refine aF (fun h=>?_) (fun h=>?_)<;>conv=>whnf
 ·skip;refine b9 (by kernel_rfl) ?_;conv=>whnf
  have hlt:n<s.length:=by simp at h;omega
  refine⟨cN _,s[n],by simp[hlt],?_⟩;conv=>whnf
  refine gC rfl ?_ (fun _=>rfl) (.i _ _);simp[hlt];exact .refl _
 ·refine gC rfl ?_ (fun _=>rfl) (.i _ _);have:s.length<=n:=by simp at h;omega
  rw[aO,b6 this];exact .refl _
