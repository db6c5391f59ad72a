/- Part of HostValues. -/
import Derived.Test.YtmnjcddcihdlfaaGreatDoorV14
import Derived.IntWalk
import Derived.LaidMore
import Derived.LaidLaws
import Derived.OpenShut
import Derived.ProofKit
import Derived.Stop.Joined
import Derived.Test.YtmnjcddcihdlfaaGreatDoorRows
import Derived.Test.YtmnjcddcihdlfaaGreatDoorProg
set_option linter.all false
set_option maxRecDepth 100000
namespace Go.Proofs.YtmnjcddcihdlfaaGreatDoor
section
open Go.RowKit
variable [Globals]
theorem Lies.nil {objs:List GObj}:Lies [] [] objs:=⟨List.nodup_nil,rfl,fun i k x h=>by simp at h,fun x h=>by simp at h⟩
def Cl (g:GV):Prop:=∀f,g.ren f=g
def ClL (l:List GV):Prop:=∀f,l.map (GV.ren f)=l
theorem ClL.nil:ClL []:=fun _=>rfl
theorem ClL.cons {g:GV} {l:List GV} (h:Cl g) (hl:ClL l):ClL (g::l):=fun f=>by rw[bY,h f,hl f]
theorem ClL.mapOf {α:Type} {e:α->GV} (h:∀a,Cl (e a)) (l:List α):ClL (l.map e):=fun f=>by
 rw[List.map_map];exact List.map_congr_left fun a _=>h a f
theorem Cl.b (x:Bool):Cl (.b x):=fun _=>rfl
theorem Cl.i (k:IntKind) (n:Int):Cl (.i k n):=fun _=>rfl
theorem Cl.s (l:List UInt8):Cl (.s l):=fun _=>rfl
theorem Cl.agg {l:List GV} (h:ClL l):Cl (.agg l):=fun f=>by rw[GV.ren,bX,h f]
theorem Cl.tup {l:List GV} (h:ClL l):Cl (.tup l):=fun f=>by rw[GV.ren,bX,h f]
theorem Cl.sl {l:List GV} (h:ClL l):Cl (.sl .none l):=fun f=>by rw[GV.ren,bX,h f];rfl
theorem Cl.snap {l:List GV} (h:ClL l) (o:Nat):Cl (.snap l o):=fun f=>by rw[GV.ren,bX,h f]
theorem cA {l:List (List UInt8)}:Cl (.sl .none (l.map GV.s)):=Cl.sl (ClL.mapOf (fun _=>Cl.s _) _)
theorem cB {l:List (List UInt8)} {t:List GV} (h:ClL t):ClL (.sl .none (l.map GV.s)::t):=ClL.cons cA h
theorem cC {g:GV} {l:List GV} (h:Cl g) (k:ClL l):ClL (g::l):=ClL.cons h k
theorem oO {g g':GV} {σ0:GS} (h:Wk g g') (hc:Cl g'):Owes [] (.val g') [] (.val g) σ0:=
 ⟨[],Lies.nil,fun i h=>absurd h (Nat.not_lt_zero i),by show Wk g (g'.ren _);rw[hc];exact h⟩
theorem mN {g g':GV} {σ0:GS} (h:g=g') (hc:Cl g'):Owes [] (.val g') [] (.val g) σ0:=oO (by rw[h];exact .refl _) hc
theorem eM {v v':Bool} {σ0:GS} (h:v=v'):Owes [] (.val (.b v')) [] (.val (.b v)) σ0:=mN (by rw[h]) (.b _)
theorem iH {k:IntKind} {v v':Int} {σ0:GS} (h:v=v'):Owes [] (.val (.i k v')) [] (.val (.i k v)) σ0:=mN (by rw[h]) (.i _ _)
theorem FZ {v v':List UInt8} {σ0:GS} (h:v=v'):Owes [] (.val (.s v')) [] (.val (.s v)) σ0:=mN (by rw[h]) (.s _)
theorem FY {a a' b b':GV} {σ0:GS} (h:Wk a a') (h':Wk b b') (hc:Cl a') (hc':Cl b'):Owes [] (.val (.tup [a',b'])) [] (.val (.tup [a,b])) σ0:=
 oO (fun C v hv=>by
  cases hv with
  |tup hl hv=>
  refine .tup hl (fun j g u h1 h2=>?_);rcases j with _|_|j
  ·simp at h1;subst h1;exact h C _ (hv 0 a u rfl h2)
  ·simp at h1;subst h1;exact h' C _ (hv 1 b u rfl h2)
  ·simp at h1) (.tup (.cons hc (.cons hc' .nil)))
def jM (φ:Fr) (l:List (Nat×GV)):Prop:=List.rec (motive:=fun _=>Prop) True (fun p _ ih=>φ p.1=p.2/\ih) l
noncomputable def xG (φ:Fr) (l:List (Nat×GV)):Fr:=List.rec (motive:=fun _=>Fr) φ (fun p _ ih=>OO ih p.1 p.2) l
theorem rT {φ:Fr}:∀{l:List (Nat×GV)},jM φ l->xG φ l=φ
 |[],_=>rfl
 |p::l,h=>by
  show OO (xG φ l) p.1 p.2=φ;rw[rT (show jM φ l from h.2),rP];exact qL h.1
theorem GLoop.intro {α:Type} {f:nL} {φ:Fr} {σ:GS} {K:GX->Fr->GS->Prop} (J:α->Prop) (L:α->List (Nat×GV)) (S:α->GS) (μ:α->Nat) (a0:α)
  (h0:J a0) (hφ:jM φ (L a0)) (hσ:σ=S a0)
  (step:∀a φ0,J a->f (xG φ0 (L a)) (S a) fun x φ' σ'=>match x with
   |.normal=>∃m',m'<μ a/\∃a',J a'/\μ a'=m'/\jM φ' (L a')/\σ'=S a'
   |.exit i=>K (.exit i) φ' σ'
   |.ret=>K .ret φ' σ'
   |.panic g=>K (.panic g) φ' σ'):GLoop f φ σ K:=
 ⟨⟨fun m φ σ=>∃a,J a/\μ a=m/\jM φ (L a)/\σ=S a,fun m φ σ=>∃a,J a/\μ a=m/\jM φ (L a)/\σ=S a,μ a0,⟨a0,h0,rfl,hφ,hσ⟩,fun _ _ _ h=>.inl h,fun m φ σ ⟨a,ha,hm,hf,hs⟩=>by
  subst hs;subst hm;have:=step a φ ha;rwa [rT hf] at this⟩⟩
def bA:=@GLoop.intro
theorem yG (φ:Fr) (d:Nat) (g:GV):uL φ d g d=g:=by simp[uL]
theorem vL {φ:Fr} {d t:Nat} {g:GV} (h:¬t=d):uL φ d g t=φ t:=by simp[uL,h]
theorem a0H {φ:Fr}:∀{l:List (Nat×GV)},jM φ l↔∀p∈l,φ p.1=p.2
 |[]=>⟨fun _ p hp=>(cZ hp).elim,fun _=>trivial⟩
 |q::l=>⟨fun h p hp=>by
   rcases List.mem_cons.1 hp with rfl|hp
   ·exact h.1
   ·exact a0H.1 (show jM φ l from h.2) p hp,fun h=>⟨h q (gJ ..),a0H.2 fun p hp=>h p (fH _ hp)⟩⟩
theorem KP {φ' ψ:Fr}:∀{l:List (Nat×GV)},jM φ' l->∀p∈l,xG ψ l p.1=p.2
 |q::l,h,p,hp=>by
  show OO (xG ψ l) q.1 q.2 p.1=p.2;rw[rP];by_cases ht:p.1=q.1
  ·rw[ht,yG];have h1:=a0H.1 h p hp;have h2:=a0H.1 h q (gJ ..);rw[<-h1,<-h2,ht]
  ·rw[vL ht];rcases List.mem_cons.1 hp with rfl|hp
   ·exact absurd rfl ht
   ·exact KP (show jM φ' l from h.2) p hp
theorem D4 {φ' ψ:Fr} {l:List (Nat×GV)} (h:jM φ' l):jM (xG ψ l) l:=a0H.2 (KP h)
theorem CL {φ:Fr} (e:Nat->Nat):∀{l:List (Nat×GV)} {φ':Fr},jM φ' l->(∀p∈l,p.2.ren e=p.2)->∀t,φ' t=((xG (fun _=>.any) l) t).ren e∨xG (fun _=>.any) l t=.any
 |[],φ',_,_,t=>.inr rfl
 |p::l,φ',h,hr,t=>by
  show φ' t=(OO (xG _ l) p.1 p.2 t).ren e∨OO (xG _ l) p.1 p.2 t=.any;rw[rP];by_cases ht:t=p.1
  ·subst ht;left;have h1:φ' p.1=p.2:=h.1;rw[yG,h1,hr p (gJ ..)]
  ·rw[vL ht];exact CL (φ:=φ) e (show jM φ' l from h.2) (fun q hq=>hr q (fH _ hq)) t
theorem GLoop.introW {α:Type} {f:nL} {φ:Fr} {σ:GS} {K:GX->Fr->GS->Prop} (J:α->Prop) (L:α->List (Nat×GV)) (S:α->GS) (μ:α->Nat) (a0:α)
  (h0:J a0) (hφ:jM φ (L a0)) (hσ:σ=S a0)
  (hn:∀a,J a->(S a0).objs.length<=(S a).objs.length)
  (hh:∀a,J a->(S a).objs.all GObj.notHeld=true)
  (hc:∀a,J a->∀e:Nat->Nat,(∀i,i<(S a).objs.length->e i=i)->(S a).objs.map (GObj.ren e)=(S a).objs/\(S a).ds.map (GDef.ren e)=(S a).ds/\(L a).map (fun p=>p.2.ren e)=(L a).map (·.2))
  (step:∀a φ0,J a->f (xG φ0 (L a)) (S a) fun x φ' σ'=>match x with
   |.normal=>∃m',m'<μ a/\∃a',J a'/\μ a'=m'/\jM φ' (L a')/\∃s,LessO σ'.objs s/\∃extra,s=(S a').objs++extra/\σ'.ds=(S a').ds
   |.exit i=>K (.exit i) φ' σ'
   |.ret=>K .ret φ' σ'
   |.panic g=>K (.panic g) φ' σ'):GLoop f φ σ K:=
 ⟨⟨fun m φ σ=>∃a,J a/\μ a=m/\jM φ (L a)/\σ=S a,fun m φ' σ'=>∃a',J a'/\μ a'=m/\jM φ' (L a')/\∃s,LessO σ'.objs s/\∃extra,s=(S a').objs++extra/\σ'.ds=(S a').ds,μ a0,⟨a0,h0,rfl,hφ,hσ⟩,fun m φ' σ' ⟨a',hJ,hm,hf,s,hless,extra,ho,hd⟩=>by
  refine .inr ⟨xG (fun _=>.any) (L a'),S a',⟨⟨List.range (S a').objs.length,s,hless,?_,fun i hi=>?_,?_,?_⟩⟩,a',hJ,hm,?_,rfl⟩;all_goals (try have he:∀i,i<(S a').objs.length->iB (List.range (S a').objs.length) s.length i=i:=fun i hi=>by rw[jD (by simpa using hi)];simp)
  ·obtain⟨c1,_,_⟩:=hc a' hJ _ he;refine⟨List.nodup_range,by simp,fun i k x h1 h2=>?_,fun x hx e=>by subst e;have:=List.all_eq_true.1 (hh a' hJ) _ hx;cases this⟩;obtain⟨h3,h4⟩:=List.getElem?_eq_some_iff.1 h1;simp at h4;subst h4;have hi:i<(S a').objs.length:=by simpa using h3
   have:=aJ (fun l:List GObj=>l[i]?) c1;simp only[aG,h2,aT,eY] at this;rw[this,ho,aU hi];exact h2
  ·have:i<(S a').objs.length:=bV (by rw[<-hσ];exact hi) (hn a' hJ);simp[this]
  ·rw[hd,<-hless.1];exact(hc a' hJ _ he).2.1.symm
  ·rw[<-hless.1];refine CL (φ:=φ) _ hf (fun p hp=>?_);have c3:=(hc a' hJ _ he).2.2;obtain⟨j,hj⟩:=List.mem_iff_getElem?.1 hp;have:=aJ (fun l:List GV=>l[j]?) c3;simpa[aG,hj] using this
  ·exact D4 hf,fun m φ σ ⟨a,ha,hm,hf,hs⟩=>by
  subst hs;subst hm;have:=step a φ ha;rwa [rT hf] at this⟩⟩
theorem GLoop.introS {α:Type} {f:nL} {φ:Fr} {σ:GS} {K:GX->Fr->GS->Prop} (J:α->Prop) (L:α->List (Nat×GV)) (S:α->GS) (μ:α->Nat) (a0:α)
  (h0:J a0) (hφ:jM φ (L a0)) (hσ:σ=S a0)
  (hn:∀a,J a->(S a0).objs.length<=(S a).objs.length)
  (hh:∀a,J a->(S a).objs.all GObj.notHeld=true)
  (hc:∀a,J a->∀e:Nat->Nat,(∀i,i<(S a).objs.length->e i=i)->(S a).objs.map (GObj.ren e)=(S a).objs/\(S a).ds.map (GDef.ren e)=(S a).ds/\(L a).map (fun p=>p.2.ren e)=(L a).map (·.2))
  (step:∀a φ0,J a->f (xG φ0 (L a)) (S a) fun x φ' σ'=>match x with
   |.normal=>∃m',m'<μ a/\∃a',J a'/\μ a'=m'/\jM φ' (L a')/\∃extra,σ'.objs=(S a').objs++extra/\σ'.ds=(S a').ds
   |.exit i=>K (.exit i) φ' σ'
   |.ret=>K .ret φ' σ'
   |.panic g=>K (.panic g) φ' σ'):GLoop f φ σ K:=
 ⟨⟨fun m φ σ=>∃a,J a/\μ a=m/\jM φ (L a)/\σ=S a,fun m φ' σ'=>∃a',J a'/\μ a'=m/\jM φ' (L a')/\∃extra,σ'.objs=(S a').objs++extra/\σ'.ds=(S a').ds,μ a0,⟨a0,h0,rfl,hφ,hσ⟩,fun m φ' σ' ⟨a',hJ,hm,hf,extra,ho,hd⟩=>by
  refine .inr ⟨xG (fun _=>.any) (L a'),S a',⟨⟨List.range (S a').objs.length,σ'.objs,LessO.refl _,?_,fun i hi=>?_,?_,?_⟩⟩,a',hJ,hm,?_,rfl⟩;all_goals (try have he:∀i,i<(S a').objs.length->iB (List.range (S a').objs.length) σ'.objs.length i=i:=fun i hi=>by rw[jD (by simpa using hi)];simp)
  ·obtain⟨c1,_,_⟩:=hc a' hJ _ he;refine⟨List.nodup_range,by simp,fun i k x h1 h2=>?_,fun x hx e=>by subst e;have:=List.all_eq_true.1 (hh a' hJ) _ hx;cases this⟩;obtain⟨h3,h4⟩:=List.getElem?_eq_some_iff.1 h1;simp at h4;subst h4;have hi:i<(S a').objs.length:=by simpa using h3
   have:=aJ (fun l:List GObj=>l[i]?) c1;simp only[aG,h2,aT,eY] at this;rw[this,ho,aU hi];exact h2
  ·have:i<(S a').objs.length:=bV (by rw[<-hσ];exact hi) (hn a' hJ);simp[this]
  ·rw[hd];exact(hc a' hJ _ he).2.1.symm
  ·refine CL (φ:=φ) _ hf (fun p hp=>?_);have c3:=(hc a' hJ _ he).2.2;obtain⟨j,hj⟩:=List.mem_iff_getElem?.1 hp;have:=aJ (fun l:List GV=>l[j]?) c3;simpa[aG,hj] using this
  ·exact D4 hf,fun m φ σ ⟨a,ha,hm,hf,hs⟩=>by
  subst hs;subst hm;have:=step a φ ha;rwa [rT hf] at this⟩⟩
theorem GLoop.next {α:Type} {J:α->Prop} {L:α->List (Nat×GV)} {S:α->GS} {μ:α->Nat} {a:α} {φ':Fr} {σ':GS} (a':α) (h:J a') (hm:μ a'<μ a) (hf:jM φ' (L a')) (hs:σ'=S a'):
  ∃m',m'<μ a/\∃a',J a'/\μ a'=m'/\jM φ' (L a')/\σ'=S a':=⟨_,hm,a',h,rfl,hf,hs⟩
def gK:=@GLoop.next
theorem bN {n:Int} (h0: -9223372036854775808<=n) (h1:n<=9223372036854775807):IntKind.i64.wrap n=n:=IntWalk.i64_in n ⟨h0,h1⟩
theorem cT {i:Nat} (h:i<9223372036854775807):GV.i .i64 (IntKind.i64.wrap ((i:Int)+1))=.i .i64 ((i+1:Nat):Int):=by
 rw[bN (by omega) (by omega)];rfl
theorem s9 {c d:UInt8} (h:((c.toNat:Int)==(d.toNat:Int))=true):c=d:=by
 simp at h;exact UInt8.toNat_inj.1 (by omega)
theorem uN {c d:UInt8} (h:((c.toNat:Int)==(d.toNat:Int))=false):c≠d:=fun e=>by simp[e] at h
theorem bE {i:Nat} (h:i<9223372036854775807):[GV.i .i64 ((i+1:Nat):Int)]=(GV.i .i64 (IntKind.i64.wrap ((i:Int)+1))).cells:=by
 rw[cT h];rfl
theorem yQ (objs:List GObj):hY [] [] objs=objs:=by
 apply cK;intro r;rw[iR (fun k h=>by cases h) (rL _)];unfold fU;by_cases hr:r<objs.length
 ·rw[aA hr];rfl
 ·rw[aB hr];simp;omega
theorem SC.pureFact {P:Program} {k:FuncId} {a args:List GV} {r:GV} (h:SC P k a [] (.val r) []) (σ:GS) (hlo:σ.lo=0) (ha:ClL a) (hr:Cl r) (hw:Wks args a):Fact P (.fn k) args σ (.val r) σ:=by
 have:=h.fact (σ:=σ) [] Lies.nil hlo (by rw[ha];exact hw);rw[yQ] at this;rw[show(GRes.val r).ren (iB [] σ.objs.length)=.val r by show GRes.val (r.ren _)=_;rw[hr]] at this;exact this
theorem iY {P:Program} {M:FuncId->Bool} {k:FuncId} {a args:List GV} {r:GV} {σ:GS} {K:GRes->GS->Prop} (h:SC P k a [] (.val r) []) (hw:Wks args a) (hlo:σ.lo=0) (ha:ClL a) (hr:Cl r) (hk:K (.val r) σ):
  iC P M (.fn k) args σ K:=⟨.val r,σ,h.pureFact σ hlo ha hr hw,fun _ _ _=>rfl,hk⟩
theorem yP {q:Nat} {x:GObj} {objs:List GObj} (hq:q<objs.length) (hx:x.ren (iB [q] objs.length)=x):hY [q] [x] objs=objs.set q x:=by
 apply cK;intro r;rw[iR (fun k h=>by simp at h;omega) (rL _)];unfold fU;by_cases hr:r<objs.length
 ·rw[aA hr];by_cases hrq:q=r
  ·subst hrq;have:([q]:List Nat).idxOf? q=some 0:=by simp[List.idxOf?,List.findIdx?_cons]
   rw[this];simp[hx,hr]
  ·have:([q]:List Nat).idxOf? r=none:=by simp[List.idxOf?,List.findIdx?_cons,hrq]
   rw[this,cV hrq]
 ·rw[aB hr];simp only[List.length_singleton];rw[b6 (l:=[x]) (by simp only[List.length_singleton];omega),b6 (l:=objs.set q x) (by rw[List.length_set];omega)];rfl
theorem Lies.one {q:Nat} {x:GObj} {objs:List GObj} (hq:objs[q]?=some x) (hx:∀f,x.ren f=x) (hne:x≠ .held):Lies [q] [x] objs:=
 ⟨by simp,rfl,fun i k y h1 h2=>by
  rcases i with _|i
  ·simp at h1 h2;subst h1;subst h2;rw[hx];exact hq
  ·simp at h1,fun y hy=>by simp at hy;subst hy;exact hne⟩
theorem GObj.box_cl {T:TypeId} {cs:List GV} (h:ClL cs) (f:Nat->Nat):(GObj.box T cs).ren f=.box T cs:=by
 show GObj.box T (cs.map _)=_;rw[h f]
theorem vD {P:Program} {M:FuncId->Bool} {k:FuncId} {a args:List GV} {r:GV} {σ:GS} {K:GRes->GS->Prop} (h:SC P k a [] (.val r) []) (hk:K (.val r) σ) (hw:Wks args a:=by first|exact wR _|exact wC (b5 _ _) (wR _)|exact wC (b5 _ _) (wC (b5 _ _) (wR _))|exact wC (iN _) (wC (b5 _ _) (wR _))) (hlo:σ.lo=0:=by rfl) (ha:ClL a:=by first|exact fun _=>rfl|exact cA|exact cB fun _=>rfl) (hr:Cl r:=by first|exact fun _=>rfl|exact cA|exact cB fun _=>rfl):iC P M (.fn k) args σ K:=iY h hw hlo ha hr hk
theorem gM {c:Bool} {A B:Prop} (yes:c=true->A) (no:c=false->B):GIf c A B:=e6 yes no
theorem sT {l:List GV} {a b off n:Nat} {c:Bool} {K:List GV->Prop} (k:K l) (h1:a<=b:=by exact zL _) (h2:c=true:=by rfl) (h3:off+l.length<=n:=by exact bL rfl):∃vc,GNeed (vc=l/\a<=b/\c=true/\off+vc.length<=n) (K vc):=⟨l,⟨rfl,h1,h2,h3⟩,k⟩
theorem oW {g:GV} {σ0:GS} (hc:Cl g:=by exact fun _=>rfl):Owes [] (.val g) [] (.val g) σ0:=oO (.refl _) hc
theorem gP {P:Program} {M:FuncId->Bool} {n:Nat} {ops:Array Oper} {φ:Fr} {σ:GS} {K:GX->Fr->GS->Prop} (k:o8 P M false n ops ops.toList φ σ (pV K)) (h:calm M ops=true:=by kernel_rfl):GDraw P M n ops φ σ K:=.calm h k
theorem aN {lo r n m esz size ty e:Nat} {P:Prop} (k:P) (h1:lo<=r:=by exact zL _) (h:n=m:=by rfl) (h3:(esz=size/\ty=e)\/(n=0/\esz=0):=by first|exact .inr ⟨rfl,rfl⟩|exact .inl ⟨rfl,rfl⟩):GNeed (lo<=r/\n=m/\((esz=size/\ty=e)\/(n=0/\esz=0))) P:=⟨⟨h1,h,h3⟩,k⟩
theorem xK {P:Program} {M:FuncId->Bool} {k:FuncId} {q:Nat} {a args:List GV} {T:TypeId} {cs cs':List GV} {r:GV} {σ:GS} {K:GRes->GS->Prop} (h:SC P k (.ptr 0 0::a) [.box T cs] (.val r) [.box T cs'])
  (hq:σ.objs[q]?=some (.box T cs)) (hw:Wks args (.ptr q 0::a)) (hlo:σ.lo=0) (hM:M k=false) (hc:ClL cs) (hc':ClL cs') (ha:ClL a) (hr:Cl r) (hk:lU σ q (.box T cs') fun s=>K (.val r) s) (hD:kK M=false:=by rfl):iC P M (.fn k) args σ K:=by
 have hql:q<σ.objs.length:=(List.getElem?_eq_some_iff.1 hq).1;have hf:=h.fact (σ:=σ) (args':=args) [q] (Lies.one hq (GObj.box_cl hc) (by simp)) hlo (by
  have e0:(GV.ptr 0 0).ren (iB [q] σ.objs.length)=.ptr q 0:=by show GV.ptr (iB [q] _ 0) 0=_;rw[jD (by simp)];rfl
  rw[bY,e0,ha];exact hw)
 rw[yP hql (GObj.box_cl hc' _)] at hf;rw[show(GRes.val r).ren (iB [q] σ.objs.length)=.val r by show GRes.val (r.ren _)=_;rw[hr]] at hf;exact⟨.val r,_,hf,(B6 hM hD),iU (K:=fun s=>K (.val r) s) hk⟩
theorem XV {T:TypeId} {cs0 cs cs':List GV} {g g':GV} {rest:List GObj} {lo:Nat} {ds:List GDef} (hcs:cs=cs') (hw:Wk g g') (hc:ClL cs') (hr:Cl g'):
  Owes [.box T cs0] (.val g') [.box T cs'] (.val g) ⟨.box T cs::rest,lo,ds⟩:=by
 subst hcs;refine⟨[0],Lies.one rfl (GObj.box_cl hc) (by simp),fun i hi=>?_,by show Wk g (g'.ren _);rw[hr];exact hw⟩;have:i=0:=by simp at hi;omega
 subst this;rfl
theorem Wks.cons {g h:GV} {gs hs:List GV} (a:Wk g h) (b:Wks gs hs):Wks (g::gs) (h::hs):=⟨a,b⟩
theorem wC {g h:GV} {gs hs:List GV} (a:Wk g h) (b:Wks gs hs):Wks (g::gs) (h::hs):=⟨a,b⟩
theorem Wks.nil:Wks [] []:=trivial
theorem ORel.box_less {C:Cx} {w:World} {i:Nat} {T:TypeId} {cs cs':List GV} (hl:cs.length=cs'.length) (hw:∀(j:Nat) g g',cs[j]?=some g->cs'[j]?=some g'->Wk g g') (h:ORel C w i (.box T cs)):ORel C w i (.box T cs'):=by
 obtain⟨h0,b,vs,h1,h2,h3,h4⟩:=h;refine⟨h0,b,vs,h1,h2,⟨by rw[<-hl,h3.1,hl],fun j g u g1 g2=>?_⟩,fun q=>by rw[h4 q,hl]⟩;have hj:j<cs.length:=by rw[hl];exact(List.getElem?_eq_some_iff.1 g1).1
 rw[<-hl] at g2;exact hw j _ g (gL hj) g1 C u (h3.2 j _ u (gL hj) g2)
theorem LessO.box {s:List GObj} {r:Nat} {T:TypeId} {cs cs':List GV} (h:s[r]?=some (.box T cs)) (hl:cs.length=cs'.length) (hw:∀(j:Nat) g g',cs[j]?=some g->cs'[j]?=some g'->Wk g g'):LessO s (s.set r (.box T cs')):=
 ⟨List.length_set,fun C w i x y h1 h2 hx=>by
  by_cases hi:i=r
  ·subst hi;rw[h] at h1;cases h1;rw[List.getElem?_set_self (List.getElem?_eq_some_iff.1 h).1] at h2;cases h2;exact hx.box_less hl hw
  ·rw[cV (fun e=>hi e.symm),h1] at h2;cases h2;exact hx⟩
end
section
open Go Go.ChangeShapes Go.WideShapes Go.RowKit
section
variable {P : Program} {W : World} {sp : Nat → Bool}
theorem G6 {H:Type} {enc:TypeId×Value->H} {held:Bool} {base fuel n:Nat} {t e:TypeId} {k:IntKind} {cs:List Value} {p:List MemPlace} (l:List Int)
  (ht:P.underlying t=some (.array n e)) (he:P.underlying e=some (.int k)) (hc:P.cellsOf e=1) (hn:l.length=n) (hct:P.cellsOf t=n)
  (h:DataW.trod enc P W base sp held fuel t cs=some (.agg (l.map fun x=>.lit (.int k x)),p)):cs=l.map (Value.int k):=by
 obtain⟨xs,m,rfl,hx,hl,hxs,hel⟩:=DataW.trod_array ht h;simp only[Prod.mk.injEq,DataW.agg.injEq] at hx;refine cK fun i=>?_;by_cases hi:i<n
 ·have h1:=hel i hi;rw[hc,Nat.mul_one] at h1;have hxi:xs[i]?=some xs[i]:=gL (by omega);rw[hxi] at h1;obtain⟨z,hz,he',_⟩:=DataW.trod_int he h1;have h2:(xs.map (·.1))[i]?=some (.lit (.int k z)):=by rw[aG,hxi,he'];rfl
  rw[<-hx.1,aG] at h2;obtain⟨y,hy,hyz⟩:=Option.map_eq_some_iff.1 h2;cases hyz;rw[aG,hy];have h3:=aJ (·[0]?) hz;simpa[cH,eP] using h3
 ·rw[b6 (by rw[hl,hct];omega),b6 (by simp;omega)]
end
def C0 (W:World):Cx:={fx:=fun b o v=>W.cell? ⟨b,o,none⟩=some v,bk:=fun _=>none,own:=fun _=>none,hd:=fun _=>none,mine:=fun _=>False,f0:=fun b o v=>W.cell? ⟨b,o,none⟩=some v}
def a0C [Globals] (W:World):Prop:=(∀g cs,Globals.tab g=some cs->∃c t fr,W.heap[g]?=some (.cells c t fr)/\c.size=cs.length)/\∀g cs (j:Nat) x,Globals.tab g=some cs->cs[j]?=some x->∃u,W.cell? ⟨g,j,none⟩=some u/\∀D:Cx,(∀b o v,W.cell? ⟨b,o,none⟩=some v->D.fx b o v)->VR D x u
theorem PG [Globals] {W:World} (h:a0C W):Rel (C0 W) ⟨[],0,[]⟩ W W:=
 ⟨.refl _ _,fun _ _ _ h=>h,fun r x hx=>by simp at hx,fun _ _=>⟨rfl,rfl⟩,fun r b hb=>by simp[d8,C0] at hb,fun r r' b hb _=>by simp[d8,C0] at hb,
  fun r b o v hb _=>(by cases hb),fun r I b sz o v hI _ _=>(by cases hI),fun b o v h=>.inl h,h.2,fun g cs hg=>⟨fun h=>h,h.1 g cs hg⟩⟩
theorem JL {P:Program} {W:World} {g:Nat} {n:String} {cs:Array Value} (hg:P.globalNamed n=some g) (hv:W.var? P n=some cs):∃t fr,W.heap[g]?=some (.cells cs t fr):=by
 unfold World.var? at hv;rw[hg] at hv;simp only[bC] at hv;split at hv
 ·rename_i c t fr ho;cases hv;exact⟨_,_,ho⟩
 ·cases hv
theorem AQ [Globals] {W:World} {g:Nat} {l:List Value} (hv:∀j,W.cell? ⟨g,j,none⟩=l[j]?) {cs:List GV} (hl:cs.length=l.length)
  (h:∀(j:Nat) x u,cs[j]?=some x->l[j]?=some u->∀D:Cx,(∀b o v,W.cell? ⟨b,o,none⟩=some v->D.fx b o v)->VR D x u):
  ∀(j:Nat) x,cs[j]?=some x->∃u,W.cell? ⟨g,j,none⟩=some u/\∀D:Cx,(∀b o v,W.cell? ⟨b,o,none⟩=some v->D.fx b o v)->VR D x u:=fun j x hx=>by
 have hj:j<l.length:=by rw[<-hl];exact(List.getElem?_eq_some_iff.1 hx).1
 exact⟨l[j],by rw[hv,gL hj],h j x _ hx (gL hj)⟩
theorem M5 {W W':World} {m:Nat->Prop} {may:MemPlace->Prop} (hm:∀k,¬m k) (h:Base m W W'):W.keptBut W' may:=by
 refine⟨h.os,h.output,fun i hi=>?_⟩;rw[h.block i hi (hm i)];cases ho:W.heap[i]? with
 |none=>rfl
 |some o=>cases o<;>first|rfl|exact⟨rfl,rfl,rfl,fun _ _=>rfl⟩|exact .inr ⟨rfl,rfl⟩
end
section
def a0o:List GV:=[.i .u8 0,.i .u8 1,.i .u8 28,.i .u8 2,.i .u8 29,.i .u8 14,.i .u8 24,.i .u8 3,.i .u8 30,.i .u8 22,.i .u8 20,.i .u8 15,.i .u8 25,.i .u8 17,.i .u8 4,.i .u8 8,.i .u8 31,.i .u8 27,.i .u8 13,.i .u8 23,.i .u8 21,.i .u8 19,.i .u8 16,.i .u8 7,.i .u8 26,.i .u8 12,.i .u8 18,.i .u8 6,.i .u8 11,.i .u8 5,.i .u8 10,.i .u8 9]
def a0n:List GV:=[.i .u8 0,.i .u8 1,.i .u8 56,.i .u8 2,.i .u8 57,.i .u8 49,.i .u8 28,.i .u8 3,.i .u8 61,.i .u8 58,.i .u8 42,.i .u8 50,.i .u8 38,.i .u8 29,.i .u8 17,.i .u8 4,.i .u8 62,.i .u8 47,.i .u8 59,.i .u8 36,.i .u8 45,.i .u8 43,.i .u8 51,.i .u8 22,.i .u8 53,.i .u8 39,.i .u8 33,.i .u8 30,.i .u8 24,.i .u8 18,.i .u8 12,.i .u8 5,.i .u8 63,.i .u8 55,.i .u8 48,.i .u8 27,.i .u8 60,.i .u8 41,.i .u8 37,.i .u8 16,.i .u8 46,.i .u8 35,.i .u8 44,.i .u8 21,.i .u8 52,.i .u8 32,.i .u8 23,.i .u8 11,.i .u8 54,.i .u8 26,.i .u8 40,.i .u8 15,.i .u8 34,.i .u8 20,.i .u8 31,.i .u8 10,.i .u8 25,.i .u8 14,.i .u8 19,.i .u8 9,.i .u8 13,.i .u8 8,.i .u8 7,.i .u8 6]
def TC:List GV:=[.i .u64 1,.i .u64 10,.i .u64 100,.i .u64 1000,.i .u64 10000,.i .u64 100000,.i .u64 1000000,.i .u64 10000000,.i .u64 100000000,.i .u64 1000000000,.i .u64 10000000000,.i .u64 100000000000,.i .u64 1000000000000,.i .u64 10000000000000,.i .u64 100000000000000,.i .u64 1000000000000000,.i .u64 10000000000000000,.i .u64 100000000000000000,.i .u64 1000000000000000000,.i .u64 10000000000000000000]
def a0p:List GV:=[.ifc 309 (.snap [.s [118,97,108,117,101,32,111,117,116,32,111,102,32,114,97,110,103,101]] 0)]
def a0q:List GV:=[.ifc 309 (.snap [.s [105,110,118,97,108,105,100,32,115,121,110,116,97,120]] 0)]
def a0r:List GV:=[.i .u8 0,.i .u8 0,.i .u8 0,.i .u8 0,.i .u8 0,.i .u8 0,.i .u8 0,.i .u8 0,.i .u8 0,.i .u8 1,.i .u8 1,.i .u8 1,.i .u8 1,.i .u8 1,.i .u8 0,.i .u8 0,.i .u8 0,.i .u8 0,.i .u8 0,.i .u8 0,.i .u8 0,.i .u8 0,.i .u8 0,.i .u8 0,.i .u8 0,.i .u8 0,.i .u8 0,.i .u8 0,.i .u8 0,.i .u8 0,.i .u8 0,.i .u8 0,.i .u8 1,.i .u8 0,.i .u8 0,.i .u8 0,.i .u8 0,.i .u8 0,.i .u8 0,.i .u8 0,.i .u8 0,.i .u8 0,.i .u8 0,.i .u8 0,.i .u8 0,.i .u8 0,.i .u8 0,.i .u8 0,.i .u8 0,.i .u8 0,.i .u8 0,.i .u8 0,.i .u8 0,.i .u8 0,.i .u8 0,.i .u8 0,.i .u8 0,.i .u8 0,.i .u8 0,.i .u8 0,.i .u8 0,.i .u8 0,.i .u8 0,.i .u8 0,.i .u8 0,.i .u8 0,.i .u8 0,.i .u8 0,.i .u8 0,.i .u8 0,.i .u8 0,.i .u8 0,.i .u8 0,.i .u8 0,.i .u8 0,.i .u8 0,.i .u8 0,.i .u8 0,.i .u8 0,.i .u8 0,.i .u8 0,.i .u8 0,.i .u8 0,.i .u8 0,.i .u8 0,.i .u8 0,.i .u8 0,.i .u8 0,.i .u8 0,.i .u8 0,.i .u8 0,.i .u8 0,.i .u8 0,.i .u8 0,.i .u8 0,.i .u8 0,.i .u8 0,.i .u8 0,.i .u8 0,.i .u8 0,.i .u8 0,.i .u8 0,.i .u8 0,.i .u8 0,.i .u8 0,.i .u8 0,.i .u8 0,.i .u8 0,.i .u8 0,.i .u8 0,.i .u8 0,.i .u8 0,.i .u8 0,.i .u8 0,.i .u8 0,.i .u8 0,.i .u8 0,.i .u8 0,.i .u8 0,.i .u8 0,.i .u8 0,.i .u8 0,.i .u8 0,.i .u8 0,.i .u8 0,.i .u8 0,.i .u8 0,.i .u8 0,.i .u8 0,.i .u8 0,.i .u8 0,.i .u8 0,.i .u8 0,.i .u8 0,.i .u8 0,.i .u8 0,.i .u8 0,.i .u8 0,.i .u8 0,.i .u8 0,.i .u8 0,.i .u8 0,.i .u8 0,.i .u8 0,.i .u8 0,.i .u8 0,.i .u8 0,.i .u8 0,.i .u8 0,.i .u8 0,.i .u8 0,.i .u8 0,.i .u8 0,.i .u8 0,.i .u8 0,.i .u8 0,.i .u8 0,.i .u8 0,.i .u8 0,.i .u8 0,.i .u8 0,.i .u8 0,.i .u8 0,.i .u8 0,.i .u8 0,.i .u8 0,.i .u8 0,.i .u8 0,.i .u8 0,.i .u8 0,.i .u8 0,.i .u8 0,.i .u8 0,.i .u8 0,.i .u8 0,.i .u8 0,.i .u8 0,.i .u8 0,.i .u8 0,.i .u8 0,.i .u8 0,.i .u8 0,.i .u8 0,.i .u8 0,.i .u8 0,.i .u8 0,.i .u8 0,.i .u8 0,.i .u8 0,.i .u8 0,.i .u8 0,.i .u8 0,.i .u8 0,.i .u8 0,.i .u8 0,.i .u8 0,.i .u8 0,.i .u8 0,.i .u8 0,.i .u8 0,.i .u8 0,.i .u8 0,.i .u8 0,.i .u8 0,.i .u8 0,.i .u8 0,.i .u8 0,.i .u8 0,.i .u8 0,.i .u8 0,.i .u8 0,.i .u8 0,.i .u8 0,.i .u8 0,.i .u8 0,.i .u8 0,.i .u8 0,.i .u8 0,.i .u8 0,.i .u8 0,.i .u8 0,.i .u8 0,.i .u8 0,.i .u8 0,.i .u8 0,.i .u8 0,.i .u8 0,.i .u8 0,.i .u8 0,.i .u8 0,.i .u8 0,.i .u8 0,.i .u8 0,.i .u8 0,.i .u8 0,.i .u8 0,.i .u8 0,.i .u8 0,.i .u8 0,.i .u8 0,.i .u8 0,.i .u8 0,.i .u8 0,.i .u8 0,.i .u8 0,.i .u8 0,.i .u8 0,.i .u8 0,.i .u8 0,.i .u8 0,.i .u8 0,.i .u8 0,.i .u8 0,.i .u8 0,.i .u8 0,.i .u8 0]
class MaxL where
 m:Int
instance [MaxL]:Globals:=⟨fun g=>match g with
 |1=>some [.i .i64 MaxL.m]
 |0=>some a0r
 |2=>some a0q
 |3=>some a0p
 |5=>some TC
 |6=>some a0o
 |7=>some a0n
 |_=>none,fun _=>false,fun _=>false,fun _=>false,fun t cs=>Nat.beq t 108||(Nat.beq t 161&&match cs with|.s (_::_)::_=>true|_=>false)⟩
end
section
open Go Go.ChangeShapes Go.WideShapes Go.RowKit
theorem own:ownKnob Tryz.prog.godebug=none:=by kernel_rfl
theorem a0S: "*" ++ "errors.errorString" = "*errors.errorString" :=by decide
theorem YK (u:TypeId) (h:Tryz.prog.typeName? 3 u=some "*errors.errorString"):u=309:=
 typeName_ptr_named (nm:= "errors.errorString") (by rw[a0S];kernel_rfl) (by kernel_rfl) (by decide) u (by rw[a0S];exact h)
theorem VH:Tryz.prog.underlying 124=some (.interface #[("Error",37)]):=by kernel_rfl
theorem VE:Tryz.prog.underlying 309=some (.pointer 311):=by kernel_rfl
theorem VG:Tryz.prog.underlying 311=some (.struct #[{name:= "s",type:=9,offset:=0,embedded:=false,tag:= "",pkgPath:= "errors",byteOffset:=0}]):=by kernel_rfl
theorem zX:Tryz.prog.underlying 9=some .string:=by kernel_rfl
theorem RZ:Tryz.prog.underlying 4=some .bool:=by kernel_rfl
theorem IA [MaxL] {W:World} {g:Nat} {n:String} {t f:Nat} {cs:Array Value} {s:List UInt8} {p:List MemPlace} (hg:Tryz.prog.globalNamed n=some g) (hv:W.var? Tryz.prog n=some cs)
  (ht:t=124)
  (h:DataW.trod (fun _=>()) Tryz.prog W 0 (fun _=>true) false f t cs.toList=some (.iface "*errors.errorString" (.ptr (.agg [.lit (.string s)])),p))
  (hok:∀u v,cs.toList=[.iface u v]->Value.okWide Tryz.prog W .any 0 u v):
  cs.size=1/\∀(j:Nat) x,([.ifc 309 (.snap [.s s] 0)]:List GV)[j]?=some x->∃u,W.cell? ⟨g,j,none⟩=some u/\∀D:Cx,(∀b o v,W.cell? ⟨b,o,none⟩=some v->D.fx b o v)->VR D x u:=by
 subst ht;obtain⟨a,b,e,hc,hb,_,_⟩:=errorString_of_trod VH YK VE VG rfl rfl zX (by kernel_rfl) (by kernel_rfl) h hok;refine⟨by have:=aJ List.length e;simpa using this,?_⟩;refine AQ (l:=cs.toList) (fun j=>by rw[World.var?_cell hg hv j];simp) (by rw[e];rfl) fun j x u hx hu D hD=>?_;rw[e] at hu;have hj:j=0:=by
  have:=(List.getElem?_eq_some_iff.1 hx).1;simpa using this
 subst hj;cases hx;cases hu;obtain⟨ab,ao,asp⟩:=a;have hsp:asp=none:=by
  unfold World.cell? at hc;split at hc
  ·simp only at hc;split at hc
   ·cases hc
   ·rename_i h0;simpa using h0
  ·cases hc
 subst hsp;refine .ifc ?_;have:=VR.snap (C:=D) (cs:=[.s s]) (off:=0) ab ao (fun _=>.string b) (fun j g hj=>?_) (fun j g hj=>?_)
 ·simpa using this
 ·have hj0:j=0:=by
   have:=(List.getElem?_eq_some_iff.1 hj).1;simpa using this
  subst hj0;exact hD _ _ _ (by simpa using hc)
 ·have hj0:j=0:=by
   have:=(List.getElem?_eq_some_iff.1 hj).1;simpa using this
  subst hj0;cases hj;have:b=⟨s.toArray⟩:=by rw[<-hb]
  rw[this];exact .s s
theorem tS [MaxL] {W:World} {g n e:Nat} {k:IntKind} {nm:String} {t f:Nat} {cs:Array Value} {p:List MemPlace} (l:List Int) (hg:Tryz.prog.globalNamed nm=some g) (hv:W.var? Tryz.prog nm=some cs)
  (ht:Tryz.prog.underlying t=some (.array n e)) (he:Tryz.prog.underlying e=some (.int k)) (hc:Tryz.prog.cellsOf e=1) (hn:l.length=n) (hct:Tryz.prog.cellsOf t=n)
  (h:DataW.trod (fun _=>()) Tryz.prog W 0 (fun _=>true) false f t cs.toList=some (.agg (l.map fun x=>.lit (.int k x)),p)):
  cs.size=l.length/\∀(j:Nat) x,(l.map (GV.i k))[j]?=some x->∃u,W.cell? ⟨g,j,none⟩=some u/\∀D:Cx,(∀b o v,W.cell? ⟨b,o,none⟩=some v->D.fx b o v)->VR D x u:=by
 have hcs:=G6 l ht he hc hn hct h;refine⟨by have:=aJ List.length hcs;simpa using this,?_⟩;refine AQ (l:=cs.toList) (fun j=>by rw[World.var?_cell hg hv j];simp) (by rw[hcs];simp) fun j x u hx hu D hD=>?_;rw[hcs,aG] at hu;rw[aG] at hx;obtain⟨z,hz,rfl⟩:=Option.map_eq_some_iff.1 hx;rw[hz] at hu;cases hu;exact .i k z
end
section
open Go.RowKit
theorem mixed:Tryz.prog.follows .mixedOrders=true:=by kernel_rfl
def D6:FuncId->Bool:=fun _=>true
theorem bI [MaxL] {k:FuncId} {fn:Func} {c:Code} (hfn:Tryz.prog.funcs[k]?=some fn) (hb:fn.body=some c) {args:List GV} {s s':List GObj} {r:GRes} (h:OL Tryz.prog D6 none fn.ntmps c (lJ args) ⟨s,0,[]⟩ (WZ Tryz.prog fn (Owes s r s'))) (h1:args.length<=fn.ntmps:=by exact bL rfl) (h2:s.length<=s'.length:=by first|exact rL _|simp) (h3:s'.all GObj.notHeld=true:=by rfl):SC Tryz.prog k args s r s':=f8 D6 mixed hfn hb h1 h2 h3 h
def dA (c:UInt8):Bool:=decide (97<=c.toNat)&&decide (c.toNat<=122)
def bB (c:UInt8):Bool:=decide (48<=c.toNat)&&decide (c.toNat<=57)
def bQ (c:UInt8):Bool:=dA c||bB c||c.toNat==95
theorem OY [MaxL] (c:UInt8):SC Tryz.prog 127 [.i .u8 c.toNat] [] (.val (.b (dA c))) []:=by
 refine f8 D6 mixed Tryz.func127 rfl (bL rfl) (rL _) rfl ?_;conv=>whnf
 repeat' ((refine e6 (fun h=>?_) (fun h=>?_))<;>conv=>whnf)
 all_goals (refine eM ?_;simp only[aH,bR] at*;rw[Bool.eq_iff_iff];simp[dA];omega)
theorem XF [MaxL] (c : UInt8) : SC Tryz.prog 128 [.i .u8 c.toNat] [] (.val (.b (bQ c))) [] := by
 refine f8 D6 mixed Tryz.func128 rfl (bL rfl) (rL _) rfl ?_;conv => whnf
 refine iY (OY c) (wR _) rfl (fun _ => rfl) (.b _) ?_;conv => whnf
 repeat' ((refine e6 (fun h => ?_) (fun h => ?_)) <;> conv => whnf)
 all_goals (refine eM ?_; (try simp only [aH, bR] at *); rw [Bool.eq_iff_iff]; simp [bQ, bB, *]; try omega)
def dE (l:List UInt8):Bool:=match l with
 |[]=>false
 |c::_=>decide (l.length<=16)&&dA c&&l.all bQ
theorem UX [MaxL] (l : List UInt8) : SC Tryz.prog 87 [.s l] [] (.val (.b (dE l))) [] := by
  refine f8 D6 mixed Tryz.func87 rfl (bL rfl) (rL _) rfl ?_;cases l with
  | nil => conv => whnf
           exact eM rfl
  | cons c t =>
    conv => whnf
    apply gM<;>intro h16<;>conv=>whnf
    · refine eM ?_
      simp [dE] at h16 ⊢; omega
    · refine ⟨cD 0, c, rfl, ?_⟩
      conv => whnf
      refine iY (OY c) (wR _) rfl (fun _ => rfl) (.b _) ?_;conv => whnf
      apply gM<;>intro hs<;>conv=>whnf
      · refine eM ?_
        simp at hs;simp [dE, hs]
      · simp at hs
        have h16' : (c :: t).length ≤ 16 := by simp at h16 ⊢; omega
        refine bA (fun i : Nat => i ≤ (c :: t).length ∧ ((c :: t).take i).all bQ = true) (fun i => [(0, .s (c :: t)), (18, .i .i64 (c :: t).length), (19, .i .i64 i)]) (fun _ => ⟨[], 0, []⟩) (fun i => (c :: t).length - i) 0 ⟨zL _, rfl⟩ ⟨rfl, rfl, rfl, trivial⟩ rfl (fun i φ0 hi => ?_);conv => whnf
        apply gM<;>intro h<;>conv=>whnf
        · have hlt : i < (c :: t).length := by simp at h ⊢; omega
          refine ⟨fK _, (c :: t)[i], by simp, ?_⟩;conv => whnf
          refine iY (XF (c :: t)[i]) (wR _) rfl (fun _ => rfl) (.b _) ?_;conv => whnf
          apply gM<;>intro hb<;>conv=>whnf
          · refine eM ?_
            simp at hb;have : (c :: t).all bQ = false := by
              rw [← Bool.not_eq_true, aZ]; intro ha;exact absurd (ha _ (dO hlt)) (by simp [hb])
            simp [dE, this]
          · simp at hb
            refine gK (i + 1) ⟨hlt, ?_⟩ (by omega) ⟨rfl, rfl, ?_, trivial⟩ rfl
            · rw [List.take_succ_eq_append_getElem hlt, List.all_append, hi.2]; simp [hb]
            · exact cT (by omega)
        · refine eM ?_
          have : i = (c :: t).length := by have := hi.1; simp at h; simp at this ⊢; omega
          have ha := hi.2;rw [this, dG] at ha;simp only [dE, hs, ha];simp; simp at h16'; omega
end
section
open Go.RowKit
def dD:Nat:=4611686018427387904
def WA (xs:List (List UInt8)) (v:List UInt8):Int:=match xs.findIdx? (· ==v) with
 |some i=>i
 |none=> -1
theorem UY [MaxL] (xs:List (List UInt8)) (v:List UInt8) (hb:xs.length<dD):
  SC Tryz.prog 171 [.sl .none (xs.map .s),.s v] [] (.val (.i .i64 (WA xs v))) []:=by
 unfold dD at hb;refine bI Tryz.func171 rfl ?_;conv=>whnf
 refine bA (fun i:Nat=>i<=xs.length/\(xs.take i).findIdx? (· ==v)=none) (fun i=>[(0,.sl .none (xs.map .s)),(1,.s v),(7,.i .i64 (xs.map GV.s).length),(8,.i .i64 i)]) (fun _=>⟨[],0,[]⟩) (fun i=>xs.length - i) 0 ⟨zL _,rfl⟩ ⟨rfl,rfl,rfl,rfl,trivial⟩ rfl (fun i φ0 hi=>?_);conv=>whnf
 apply gM<;>intro h<;>conv=>whnf
 ·have hlt:i<xs.length:=by simp at h;omega
  refine⟨fK _,.s xs[i],by simp[hlt],rfl,?_⟩;conv=>whnf
  apply gM<;>intro hv<;>conv=>whnf
  ·refine iH ?_;have hv':xs[i]=v:=by simpa using(eq_comm.1 (by simpa using hv))
   have:xs.findIdx? (· ==v)=some i:=by
    rw[List.findIdx?_eq_some_iff_getElem];refine⟨hlt,by simpa using hv',fun j hj=>?_⟩;have:=List.findIdx?_eq_none_iff.1 hi.2 xs[j] (by
     rw[List.mem_iff_getElem?];exact⟨j,by rw[cH,aA hj,gL]⟩)
    simpa using this
   simp[WA,this]
  ·refine gK (i+1) ⟨hlt,?_⟩ (by omega) ⟨rfl,rfl,rfl,cT (by omega),trivial⟩ rfl;rw[List.take_succ_eq_append_getElem hlt,List.findIdx?_append,hi.2];have:¬xs[i]=v:=fun e=>by simp[e] at hv
   simp[this]
 ·refine iH ?_;have:i=xs.length:=by have:=hi.1;simp at h;omega
  have ha:=hi.2;rw[this,dG] at ha;simp[WA,ha]
theorem oY [MaxL] (xs:List (List UInt8)) (v:List UInt8) (hb:xs.length<dD):
  SC Tryz.prog 163 [.sl .none (xs.map .s),.s v] [] (.val (.b (xs.contains v))) []:=by
 refine bI Tryz.func163 rfl ?_;conv=>whnf
 refine vD (UY xs v hb) ?_;conv=>whnf
 refine eM ?_;unfold WA;cases h:xs.findIdx? (· ==v) with
 |none=>
  have:¬v∈xs:=fun hm=>by have:=List.findIdx?_eq_none_iff.1 h v hm;simp at this
  simp[this]
 |some i=>
  obtain⟨hi,h1,_⟩:=List.findIdx?_eq_some_iff_getElem.1 h;have:v∈xs:=by have:=dO hi;rwa [show xs[i]=v by simpa using h1] at this
  simp[this]
end
section
open Go.RowKit
variable [Globals]
theorem rY {P:Program} {M:FuncId->Bool} {k:FuncId} {a args:List GV} {s s':List GObj} {r r':GRes} {σ:GS} {K:GRes->GS->Prop} (h:SC P k a s r s') (ks:List Nat) {objs':List GObj} (hl:Lies ks s σ.objs)
  (hw:Wks args (a.map (GV.ren (iB ks σ.objs.length)))) (hlo:σ.lo=0) (hM:M k=false) (ho:hY ks s' σ.objs=objs') (hr:r.ren (iB ks σ.objs.length)=r') (hk:K r' ⟨objs',σ.lo,σ.ds⟩) (hD:kK M=false:=by rfl):iC P M (.fn k) args σ K:=by
 have hf:=h.fact (σ:=σ) (args':=args) ks hl hlo hw;rw[ho,hr] at hf;exact⟨r',_,hf,(B6 hM hD),hk⟩
theorem Lies.one' {q:Nat} {x:GObj} {objs:List GObj} (hq:objs[q]?=some (x.ren (iB [q] objs.length))) (hne:x≠ .held):Lies [q] [x] objs:=
 ⟨by simp,rfl,fun i k y h1 h2=>by
  rcases i with _|i
  ·simp at h1 h2;subst h1;subst h2;exact hq
  ·simp at h1,fun y hy=>by simp at hy;subst hy;exact hne⟩
theorem Lies.two {q p:Nat} {x y:GObj} {objs:List GObj} (hn:q≠p) (hq:objs[q]?=some (x.ren (iB [q,p] objs.length))) (hp:objs[p]?=some (y.ren (iB [q,p] objs.length))) (hx:x≠ .held) (hy:y≠ .held):Lies [q,p] [x,y] objs:=
 ⟨by simp[hn],rfl,fun i k z h1 h2=>by
  rcases i with _|_|i
  ·simp at h1 h2;subst h1;subst h2;exact hq
  ·simp at h1 h2;subst h1;subst h2;exact hp
  ·simp at h1,fun z hz=>by simp at hz;rcases hz with rfl|rfl<;>assumption⟩
theorem Wk.agg {l l':List GV} (hl:l.length=l'.length) (h:∀(j:Nat) g g',l[j]?=some g->l'[j]?=some g'->Wk g g'):Wk (.agg l) (.agg l'):=fun C v hv=>by
 cases hv with
 |agg hs hv=>
 refine .agg (by rw[hs,hl]) (fun j g u h1 h2=>?_);have hj:j<l.length:=by rw[hl];exact(List.getElem?_eq_some_iff.1 h1).1
 exact h j l[j] g (gL hj) h1 C u (hv j _ u (gL hj) h2)
theorem Wk.of_eq {g g':GV} (h:g=g'):Wk g g':=h▸ .refl g
def cJ:=@Wk.of_eq
end
section
open Go.RowKit
structure Val where
 k:Int
 n:Int
 s:List UInt8
 deriving DecidableEq
def Val.cs (v:Val):List GV:=[.i .i64 v.k,.i .i64 v.n,.s v.s]
def Val.gv (v:Val):GV:=.agg v.cs
theorem Val.cl [MaxL] (v:Val):Cl v.gv:=fun _=>rfl
def Val.ok (v:Val):Bool:=(decide (v.k=1)&&decide (v.s=[])&&decide (-1000000000<=v.n)&&decide (v.n<=1000000000))||(decide (v.k=2)&&decide (v.n=0)&&decide (v.s.length<=40))
theorem xL [MaxL] (n lo hi:Int):SC Tryz.prog 88 [.i .i64 n,.i .i64 lo,.i .i64 hi] [] (.val (.b (decide (lo<=n)&&decide (n<=hi)))) []:=by
 refine bI Tryz.func88 rfl ?_;conv=>whnf
 repeat' first
  |(apply gM<;>intro _<;>conv=>whnf)
  |(refine gP ?_;conv=>whnf)
  |(refine sT ?_;conv=>whnf)
 all_goals (rename_i h;refine eM ?_;simp at h⊢;omega)
def X8:GV:=.agg [.fn (.func 129) [] [],.fn (.func 130) [] [],.fn (.func 131) [] []]
theorem UW [MaxL]:SC Tryz.prog 89 [] [] (.val X8) []:=by
 refine bI Tryz.func89 rfl ?_;conv=>whnf
 repeat' first
  |(apply gM<;>intro _<;>conv=>whnf)
  |(refine gP ?_;conv=>whnf)
  |(refine sT ?_;conv=>whnf)
 exact mN rfl (fun _=>rfl)
theorem R5 [MaxL] (v:Val):SC Tryz.prog 129 [v.gv] [] (.val (.b false)) []:=by
 refine bI Tryz.func129 rfl ?_;conv=>whnf
 exact eM rfl
theorem R4 [MaxL] (v:Val):SC Tryz.prog 130 [v.gv] [] (.val (.b (decide (v.s=[])&&(decide (-1000000000<=v.n)&&decide (v.n<=1000000000))))) []:=by
 refine bI Tryz.func130 rfl ?_;conv=>whnf
 repeat' first
  |(apply gM<;>intro _<;>conv=>whnf)
  |(refine gP ?_;conv=>whnf)
  |(refine sT ?_;conv=>whnf)
  |(refine vD (xL _ _ _) ?_;conv=>whnf)
 ·rename_i h;refine eM ?_;simp at h;simp[h]
 ·rename_i h;refine eM ?_;simp at h;simp[h]
theorem R3 [MaxL] (v:Val):SC Tryz.prog 131 [v.gv] [] (.val (.b (decide (v.n=0)&&decide (v.s.length<=40)))) []:=by
 refine bI Tryz.func131 rfl ?_;conv=>whnf
 repeat' first
  |(apply gM<;>intro _<;>conv=>whnf)
  |(refine gP ?_;conv=>whnf)
  |(refine sT ?_;conv=>whnf)
  |(refine vD (xL _ _ _) ?_;conv=>whnf)
 ·rename_i h;refine eM ?_;simp at h;simp[h];omega
 ·rename_i h;refine eM ?_;simp at h;simp[h]
theorem jE [MaxL] (v:Val):SC Tryz.prog 48 [v.gv] [] (.val (.b v.ok)) []:=by
 obtain⟨k,n,s⟩:=v;refine bI Tryz.func48 rfl ?_;conv=>whnf
 refine gP ?_;conv=>whnf
 refine iY (xL k 0 2) (wR _) rfl (fun _=>rfl) (.b _) ?_;conv=>whnf
 apply gM<;>intro h<;>conv=>whnf
 ·refine iY UW Wks.nil rfl ClL.nil (fun _=>rfl) ?_;conv=>whnf
  have hk:k=0∨k=1∨k=2:=by simp at h;omega
  rcases hk with rfl|rfl|rfl<;>conv=>whnf
  ·refine iY (R5 ⟨0,n,s⟩) (wR _) rfl (fun _=>rfl) (.b _) ?_;(conv=>whnf);exact eM (by simp[Val.ok])
  ·refine iY (R4 ⟨1,n,s⟩) (wR _) rfl (fun _=>rfl) (.b _) ?_;(conv=>whnf);exact eM (by simp[Val.ok,Bool.and_assoc])
  ·refine iY (R3 ⟨2,n,s⟩) (wR _) rfl (fun _=>rfl) (.b _) ?_;(conv=>whnf);exact eM (by simp[Val.ok])
 ·refine eM ?_;simp at h;simp[Val.ok];omega
end
section
open Go.RowKit
theorem L4 [MaxL] (v:Val):SC Tryz.prog 191 [v.gv] [] (.val (.b (!v.ok))) []:=by
 refine bI Tryz.func191 rfl ?_;conv=>whnf
 repeat' first
  |(apply gM<;>intro _<;>conv=>whnf)
  |(refine gP ?_;conv=>whnf)
  |(refine sT ?_;conv=>whnf)
  |(refine vD (jE _) ?_;conv=>whnf)
 exact eM rfl
def hU (vs:List Val):List GV:=vs.map Val.gv
theorem jF [MaxL] (vs:List Val):ClL (hU vs):=ClL.mapOf Val.cl vs
theorem I0 [MaxL] (vs:List Val) (hb:vs.length<dD):
  SC Tryz.prog 215 [.sl .none (hU vs),.fn (.func 191) [] []] [] (.val (.i .i64 (match vs.findIdx? (fun v=>!v.ok) with|some i=>(i:Int)|none=> -1))) []:=by
 unfold dD at hb;refine bI Tryz.func215 rfl ?_;conv=>whnf
 refine bA (fun i:Nat=>i<=vs.length/\(vs.take i).findIdx? (fun v=>!v.ok)=none) (fun i=>[(0,.sl .none (hU vs)),(1,.fn (.func 191) [] []),(7,.i .i64 (hU vs).length),(8,.i .i64 i)]) (fun _=>⟨[],0,[]⟩) (fun i=>vs.length - i) 0 ⟨zL _,rfl⟩ ⟨rfl,rfl,rfl,rfl,trivial⟩ rfl (fun i φ0 hi=>?_);conv=>whnf
 apply gM<;>intro h<;>conv=>whnf
 ·have hlt:i<vs.length:=by simp[hU] at h;omega
  refine⟨fK _,vs[i].gv,by simp[hlt,hU],rfl,?_⟩;conv=>whnf
  refine iY (L4 vs[i]) (wR _) rfl (fun _=>rfl) (.b _) ?_;conv=>whnf
  apply gM<;>intro hv<;>conv=>whnf
  ·refine iH ?_;have:vs.findIdx? (fun v=>!v.ok)=some i:=by
    rw[List.findIdx?_eq_some_iff_getElem];refine⟨hlt,by simpa using hv,fun j hj=>?_⟩;have:=List.findIdx?_eq_none_iff.1 hi.2 vs[j] (by
     rw[List.mem_iff_getElem?];exact⟨j,by rw[cH,aA hj,gL]⟩)
    simpa using this
   simp[this]
  ·refine gK (i+1) ⟨hlt,?_⟩ (by omega) ⟨rfl,rfl,rfl,cT (by omega),trivial⟩ rfl;rw[List.take_succ_eq_append_getElem hlt,List.findIdx?_append,hi.2];simp at hv;simp[hv]
 ·refine iH ?_;have:i=vs.length:=by have:=hi.1;simp[hU] at h;omega
  have ha:=hi.2;rw[this,dG] at ha;simp[ha]
theorem zR [MaxL] (vs:List Val) (hb:vs.length<dD):
  SC Tryz.prog 190 [.sl .none (hU vs),.fn (.func 191) [] []] [] (.val (.b (vs.any fun v=>!v.ok))) []:=by
 refine bI Tryz.func190 rfl ?_;conv=>whnf
 refine iY (I0 vs hb) (wR _) rfl (cC (Cl.sl (jF vs)) (fun _=>rfl)) (.i _ _) ?_;conv=>whnf
 refine eM ?_;cases h:vs.findIdx? (fun v=>!v.ok) with
 |none=>
  have:=List.findIdx?_eq_none_iff.1 h;simp at this⊢;exact this
 |some i=>
  obtain⟨hi,h1,_⟩:=List.findIdx?_eq_some_iff_getElem.1 h;simp at h1⊢;exact⟨_,dO hi,h1⟩
def nX (vs:List Val):Bool:=decide (vs.length<=8)&&vs.all Val.ok
theorem vQ [MaxL] (vs:List Val) (hb:vs.length<dD):SC Tryz.prog 168 [.sl .none (hU vs)] [] (.val (.b (nX vs))) []:=by
 refine bI Tryz.func168 rfl ?_;conv=>whnf
 apply gM<;>intro h<;>conv=>whnf
 ·refine iY (zR vs hb) (wR _) rfl (cC (Cl.sl (jF vs)) (fun _=>rfl)) (.b _) ?_;conv=>whnf
  refine eM ?_;simp[hU] at h;simp[nX,List.not_any_eq_all_not];omega
 ·refine eM ?_;simp[hU] at h;simp[nX];omega
def zI (s:List UInt8) (n:Nat):GObj:=.box 249 [.s s,.i .i64 n]
theorem vP [MaxL] (s:List UInt8) (n:Nat) (hs:s.length<dD):SC Tryz.prog 183 [.ptr 0 0] [zI s n] (.val (.i .u8 (s.getD n 0).toNat)) [zI s n]:=by
 refine bI Tryz.func183 rfl ?_;conv=>whnf
 refine gP ?_;conv=>whnf
 apply gM<;>intro h<;>conv=>whnf
 ·skip;refine gP ?_;conv=>whnf
  have hlt:n<s.length:=by simp at h;omega
  refine⟨fK _,s[n],by simp[hlt],?_⟩;conv=>whnf
  refine XV rfl ?_ (fun _=>rfl) (.i _ _);simp[hlt];exact .refl _
 ·refine XV rfl ?_ (fun _=>rfl) (.i _ _);have:s.length<=n:=by simp at h;omega
  rw[aL,b6 this];exact .refl _
end
