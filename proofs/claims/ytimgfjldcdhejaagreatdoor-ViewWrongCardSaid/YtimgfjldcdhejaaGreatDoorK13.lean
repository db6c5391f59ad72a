/- Part of ViewWrong. -/
import Derived.Test.YtimgfjldcdhejaaGreatDoorK12
import Derived.IntWalk
import Derived.Test.YtimgfjldcdhejaaGreatDoorChecked
set_option linter.all false
set_option maxRecDepth 100000
namespace Go.Proofs.YtimgfjldcdhejaaGreatDoor
section
open Go.RowKit
variable [Globals]
theorem Lies.nil {objs:List GObj}:Lies [] [] objs:=⟨List.nodup_nil,rfl,fun i k x h=>by simp at h,fun x h=>by simp at h⟩
def Cl (g:GV):Prop:=∀f,g.ren f=g
def ClL (l:List GV):Prop:=∀f,l.map (GV.ren f)=l
theorem ClL.nil:ClL []:=fun _=>rfl
def jF:=@ClL.nil
theorem ClL.cons {g:GV} {l:List GV} (h:Cl g) (hl:ClL l):ClL (g::l):=fun f=>by rw[dJ,h f,hl f]
theorem ClL.mapOf {α:Type} {e:α->GV} (h:∀a,Cl (e a)) (l:List α):ClL (l.map e):=fun f=>by
 rw[List.map_map];exact List.map_congr_left fun a _=>h a f
def iA:=@ClL.mapOf
theorem Cl.b (x:Bool):Cl (.b x):=fun _=>rfl
theorem Cl.i (k:IntKind) (n:Int):Cl (.i k n):=fun _=>rfl
theorem Cl.s (l:List UInt8):Cl (.s l):=fun _=>rfl
theorem Cl.agg {l:List GV} (h:ClL l):Cl (.agg l):=fun f=>by rw[GV.ren,cU,h f]
def eQ:=@Cl.agg
theorem Cl.tup {l:List GV} (h:ClL l):Cl (.tup l):=fun f=>by rw[GV.ren,cU,h f]
def i8:=@Cl.tup
theorem Cl.ifc {t:TypeId} {g:GV} (h:Cl g):Cl (.ifc t g):=fun f=>by rw[GV.ren,h f]
theorem Cl.sl {l:List GV} (h:ClL l):Cl (.sl .none l):=fun f=>by rw[GV.ren,cU,h f];rfl
def bK:=@Cl.sl
theorem cA {l:List (List UInt8)}:Cl (.sl .none (l.map GV.s)):=bK (iA (fun _=>Cl.s _) _)
theorem cB {l:List (List UInt8)} {t:List GV} (h:ClL t):ClL (.sl .none (l.map GV.s)::t):=ClL.cons cA h
theorem cC {g:GV} {l:List GV} (h:Cl g) (k:ClL l):ClL (g::l):=ClL.cons h k
theorem cZ {g g':GV} {σ0:GS} (h:Wk g g') (hc:Cl g'):Owes [] (.val g') [] (.val g) σ0:=
 ⟨[],Lies.nil,fun i h=>absurd h (bP i),by show Wk g (g'.ren _);rw[hc];exact h⟩
theorem rQ {g g':GV} {σ0:GS} (h:g=g') (hc:Cl g'):Owes [] (.val g') [] (.val g) σ0:=cZ (by rw[h];exact .refl _) hc
theorem d6 {v v':Bool} {σ0:GS} (h:v=v'):Owes [] (.val (.b v')) [] (.val (.b v)) σ0:=rQ (by rw[h]) (.b _)
theorem bB {k:IntKind} {v v':Int} {σ0:GS} (h:v=v'):Owes [] (.val (.i k v')) [] (.val (.i k v)) σ0:=rQ (by rw[h]) (.i _ _)
theorem gO {v v':List UInt8} {σ0:GS} (h:v=v'):Owes [] (.val (.s v')) [] (.val (.s v)) σ0:=rQ (by rw[h]) (.s _)
theorem OG {a a' b b':GV} {σ0:GS} (h:Wk a a') (h':Wk b b') (hc:Cl a') (hc':Cl b'):Owes [] (.val (.tup [a',b'])) [] (.val (.tup [a,b])) σ0:=
 cZ (fun C v hv=>by
  cases hv with
  |tup hl hv=>
  refine .tup hl (fun j g u h1 h2=>?_);rcases j with _|_|j
  ·simp at h1;subst h1;exact h C _ (hv 0 a u rfl h2)
  ·simp at h1;subst h1;exact h' C _ (hv 1 b u rfl h2)
  ·simp at h1) (.tup (.cons hc (.cons hc' .nil)))
def kT (φ:Fr) (l:List (Nat×GV)):Prop:=List.rec (motive:=fun _=>Prop) True (fun p _ ih=>φ p.1=p.2/\ih) l
noncomputable def AI (φ:Fr) (l:List (Nat×GV)):Fr:=List.rec (motive:=fun _=>Fr) φ (fun p _ ih=>fpt ih p.1 p.2) l
theorem yT {φ:Fr}:∀{l:List (Nat×GV)},kT φ l->AI φ l=φ
 |[],_=>rfl
 |p::l,h=>by
  show fpt (AI φ l) p.1 p.2=φ;rw[yT (show kT φ l from h.2),AJ];exact xB h.1
theorem GLoop.intro {α:Type} {f:r7} {φ:Fr} {σ:GS} {K:GX->Fr->GS->Prop} (J:α->Prop) (L:α->List (Nat×GV)) (S:α->GS) (μ:α->Nat) (a0:α)
  (h0:J a0) (hφ:kT φ (L a0)) (hσ:σ=S a0)
  (step:∀a φ0,J a->f (AI φ0 (L a)) (S a) fun x φ' σ'=>match x with
   |.normal=>∃m',m'<μ a/\∃a',J a'/\μ a'=m'/\kT φ' (L a')/\σ'=S a'
   |.exit i=>K (.exit i) φ' σ'
   |.ret=>K .ret φ' σ'
   |.panic g=>K (.panic g) φ' σ'):GLoop f φ σ K:=
 ⟨⟨fun m φ σ=>∃a,J a/\μ a=m/\kT φ (L a)/\σ=S a,fun m φ σ=>∃a,J a/\μ a=m/\kT φ (L a)/\σ=S a,μ a0,⟨a0,h0,rfl,hφ,hσ⟩,fun _ _ _ h=>.inl h,fun m φ σ ⟨a,ha,hm,hf,hs⟩=>by
  subst hs;subst hm;have:=step a φ ha;rwa [yT hf] at this⟩⟩
def dD:=@GLoop.intro
theorem N3 (φ:Fr) (d:Nat) (g:GV):KK φ d g d=g:=by simp[KK]
theorem KJ {φ:Fr} {d t:Nat} {g:GV} (h:¬t=d):KK φ d g t=φ t:=by simp[KK,h]
theorem a79 {φ:Fr}:∀{l:List (Nat×GV)},kT φ l↔∀p∈l,φ p.1=p.2
 |[]=>⟨fun _ p hp=>(List.not_mem_nil hp).elim,fun _=>trivial⟩
 |q::l=>⟨fun h p hp=>by
   rcases List.mem_cons.1 hp with rfl|hp
   ·exact h.1
   ·exact a79.1 (show kT φ l from h.2) p hp,fun h=>⟨h q (fY ..),a79.2 fun p hp=>h p (eR _ hp)⟩⟩
theorem SH {φ' ψ:Fr}:∀{l:List (Nat×GV)},kT φ' l->∀p∈l,AI ψ l p.1=p.2
 |q::l,h,p,hp=>by
  show fpt (AI ψ l) q.1 q.2 p.1=p.2;rw[AJ];by_cases ht:p.1=q.1
  ·rw[ht,N3];have h1:=a79.1 h p hp;have h2:=a79.1 h q (fY ..);rw[<-h1,<-h2,ht]
  ·rw[KJ ht];rcases List.mem_cons.1 hp with rfl|hp
   ·exact absurd rfl ht
   ·exact SH (show kT φ' l from h.2) p hp
theorem LB {φ' ψ:Fr} {l:List (Nat×GV)} (h:kT φ' l):kT (AI ψ l) l:=a79.2 (SH h)
theorem KN {φ:Fr} (e:Nat->Nat):∀{l:List (Nat×GV)} {φ':Fr},kT φ' l->(∀p∈l,p.2.ren e=p.2)->∀t,φ' t=((AI (fun _=>.any) l) t).ren e∨AI (fun _=>.any) l t=.any
 |[],φ',_,_,t=>.inr rfl
 |p::l,φ',h,hr,t=>by
  show φ' t=(fpt (AI _ l) p.1 p.2 t).ren e∨fpt (AI _ l) p.1 p.2 t=.any;rw[AJ];by_cases ht:t=p.1
  ·subst ht;left;have h1:φ' p.1=p.2:=h.1;rw[N3,h1,hr p (fY ..)]
  ·rw[KJ ht];exact KN (φ:=φ) e (show kT φ' l from h.2) (fun q hq=>hr q (eR _ hq)) t
theorem GLoop.introW {α:Type} {f:r7} {φ:Fr} {σ:GS} {K:GX->Fr->GS->Prop} (J:α->Prop) (L:α->List (Nat×GV)) (S:α->GS) (μ:α->Nat) (a0:α)
  (h0:J a0) (hφ:kT φ (L a0)) (hσ:σ=S a0)
  (hn:∀a,J a->(S a0).objs.length<=(S a).objs.length)
  (hh:∀a,J a->(S a).objs.all GObj.notHeld=true)
  (hc:∀a,J a->∀e:Nat->Nat,(∀i,i<(S a).objs.length->e i=i)->(S a).objs.map (GObj.ren e)=(S a).objs/\(S a).ds.map (GDef.ren e)=(S a).ds/\(L a).map (fun p=>p.2.ren e)=(L a).map (·.2))
  (step:∀a φ0,J a->f (AI φ0 (L a)) (S a) fun x φ' σ'=>match x with
   |.normal=>∃m',m'<μ a/\∃a',J a'/\μ a'=m'/\kT φ' (L a')/\∃s,LessO σ'.objs s/\∃extra,s=(S a').objs++extra/\σ'.ds=(S a').ds
   |.exit i=>K (.exit i) φ' σ'
   |.ret=>K .ret φ' σ'
   |.panic g=>K (.panic g) φ' σ'):GLoop f φ σ K:=
 ⟨⟨fun m φ σ=>∃a,J a/\μ a=m/\kT φ (L a)/\σ=S a,fun m φ' σ'=>∃a',J a'/\μ a'=m/\kT φ' (L a')/\∃s,LessO σ'.objs s/\∃extra,s=(S a').objs++extra/\σ'.ds=(S a').ds,μ a0,⟨a0,h0,rfl,hφ,hσ⟩,fun m φ' σ' ⟨a',hJ,hm,hf,s,hless,extra,ho,hd⟩=>by
  refine .inr ⟨AI (fun _=>.any) (L a'),S a',⟨⟨List.range (S a').objs.length,s,hless,?_,fun i hi=>?_,?_,?_⟩⟩,a',hJ,hm,?_,rfl⟩;all_goals (try have he:∀i,i<(S a').objs.length->jZ (List.range (S a').objs.length) s.length i=i:=fun i hi=>by rw[lD (by simpa using hi)];simp)
  ·obtain⟨c1,_,_⟩:=hc a' hJ _ he;refine⟨List.nodup_range,by simp,fun i k x h1 h2=>?_,fun x hx e=>by subst e;have:=List.all_eq_true.1 (hh a' hJ) _ hx;cases this⟩;obtain⟨h3,h4⟩:=List.getElem?_eq_some_iff.1 h1;simp at h4;subst h4;have hi:i<(S a').objs.length:=by simpa using h3
   have:=aR (fun l:List GObj=>l[i]?) c1;simp only[aK,h2,dP,iY] at this;rw[this,ho,b7 hi];exact h2
  ·have:i<(S a').objs.length:=cI (by rw[<-hσ];exact hi) (hn a' hJ);simp[this]
  ·rw[hd,<-hless.1];exact(hc a' hJ _ he).2.1.symm
  ·rw[<-hless.1];refine KN (φ:=φ) _ hf (fun p hp=>?_);have c3:=(hc a' hJ _ he).2.2;obtain⟨j,hj⟩:=List.mem_iff_getElem?.1 hp;have:=aR (fun l:List GV=>l[j]?) c3;simpa[aK,hj] using this
  ·exact LB hf,fun m φ σ ⟨a,ha,hm,hf,hs⟩=>by
  subst hs;subst hm;have:=step a φ ha;rwa [yT hf] at this⟩⟩
theorem GLoop.introS {α:Type} {f:r7} {φ:Fr} {σ:GS} {K:GX->Fr->GS->Prop} (J:α->Prop) (L:α->List (Nat×GV)) (S:α->GS) (μ:α->Nat) (a0:α)
  (h0:J a0) (hφ:kT φ (L a0)) (hσ:σ=S a0)
  (hn:∀a,J a->(S a0).objs.length<=(S a).objs.length)
  (hh:∀a,J a->(S a).objs.all GObj.notHeld=true)
  (hc:∀a,J a->∀e:Nat->Nat,(∀i,i<(S a).objs.length->e i=i)->(S a).objs.map (GObj.ren e)=(S a).objs/\(S a).ds.map (GDef.ren e)=(S a).ds/\(L a).map (fun p=>p.2.ren e)=(L a).map (·.2))
  (step:∀a φ0,J a->f (AI φ0 (L a)) (S a) fun x φ' σ'=>match x with
   |.normal=>∃m',m'<μ a/\∃a',J a'/\μ a'=m'/\kT φ' (L a')/\∃extra,σ'.objs=(S a').objs++extra/\σ'.ds=(S a').ds
   |.exit i=>K (.exit i) φ' σ'
   |.ret=>K .ret φ' σ'
   |.panic g=>K (.panic g) φ' σ'):GLoop f φ σ K:=
 ⟨⟨fun m φ σ=>∃a,J a/\μ a=m/\kT φ (L a)/\σ=S a,fun m φ' σ'=>∃a',J a'/\μ a'=m/\kT φ' (L a')/\∃extra,σ'.objs=(S a').objs++extra/\σ'.ds=(S a').ds,μ a0,⟨a0,h0,rfl,hφ,hσ⟩,fun m φ' σ' ⟨a',hJ,hm,hf,extra,ho,hd⟩=>by
  refine .inr ⟨AI (fun _=>.any) (L a'),S a',⟨⟨List.range (S a').objs.length,σ'.objs,LessO.refl _,?_,fun i hi=>?_,?_,?_⟩⟩,a',hJ,hm,?_,rfl⟩;all_goals (try have he:∀i,i<(S a').objs.length->jZ (List.range (S a').objs.length) σ'.objs.length i=i:=fun i hi=>by rw[lD (by simpa using hi)];simp)
  ·obtain⟨c1,_,_⟩:=hc a' hJ _ he;refine⟨List.nodup_range,by simp,fun i k x h1 h2=>?_,fun x hx e=>by subst e;have:=List.all_eq_true.1 (hh a' hJ) _ hx;cases this⟩;obtain⟨h3,h4⟩:=List.getElem?_eq_some_iff.1 h1;simp at h4;subst h4;have hi:i<(S a').objs.length:=by simpa using h3
   have:=aR (fun l:List GObj=>l[i]?) c1;simp only[aK,h2,dP,iY] at this;rw[this,ho,b7 hi];exact h2
  ·have:i<(S a').objs.length:=cI (by rw[<-hσ];exact hi) (hn a' hJ);simp[this]
  ·rw[hd];exact(hc a' hJ _ he).2.1.symm
  ·refine KN (φ:=φ) _ hf (fun p hp=>?_);have c3:=(hc a' hJ _ he).2.2;obtain⟨j,hj⟩:=List.mem_iff_getElem?.1 hp;have:=aR (fun l:List GV=>l[j]?) c3;simpa[aK,hj] using this
  ·exact LB hf,fun m φ σ ⟨a,ha,hm,hf,hs⟩=>by
  subst hs;subst hm;have:=step a φ ha;rwa [yT hf] at this⟩⟩
def dH:=@GLoop.introS
theorem GLoop.next {α:Type} {J:α->Prop} {L:α->List (Nat×GV)} {S:α->GS} {μ:α->Nat} {a:α} {φ':Fr} {σ':GS} (a':α) (h:J a') (hm:μ a'<μ a) (hf:kT φ' (L a')) (hs:σ'=S a'):
  ∃m',m'<μ a/\∃a',J a'/\μ a'=m'/\kT φ' (L a')/\σ'=S a':=⟨_,hm,a',h,rfl,hf,hs⟩
def fR:=@GLoop.next
theorem dB {n:Int} (h0: -9223372036854775808<=n) (h1:n<=9223372036854775807):IntKind.i64.wrap n=n:=IntWalk.i64_in n ⟨h0,h1⟩
theorem bH {i:Nat} (h:i<9223372036854775807):GV.i .i64 (IntKind.i64.wrap ((i:Int)+1))=.i .i64 ((i+1:Nat):Int):=by
 rw[dB (by omega) (by omega)];rfl
theorem mO {c d:UInt8} (h:((c.toNat:Int)==(d.toNat:Int))=true):c=d:=by
 simp at h;exact UInt8.toNat_inj.1 (by omega)
theorem o9 {c d:UInt8} (h:((c.toNat:Int)==(d.toNat:Int))=false):c≠d:=fun e=>by simp[e] at h
theorem m5 {i:Nat} (h:i<9223372036854775807):[GV.i .i64 ((i+1:Nat):Int)]=(GV.i .i64 (IntKind.i64.wrap ((i:Int)+1))).cells:=by
 rw[bH h];rfl
theorem G5 (objs:List GObj):k8 [] [] objs=objs:=by
 apply eK;intro r;rw[kZ (fun k h=>by cases h) (rL _)];unfold iU;by_cases hr:r<objs.length
 ·rw[aD hr];rfl
 ·rw[aC hr];simp;omega
theorem SC.pureFact {P:Program} {k:FuncId} {a args:List GV} {r:GV} (h:SC P k a [] (.val r) []) (σ:GS) (hlo:σ.lo=0) (ha:ClL a) (hr:Cl r) (hw:Wks args a):Fact P (.fn k) args σ (.val r) σ:=by
 have:=h.fact (σ:=σ) [] Lies.nil hlo (by rw[ha];exact hw);rw[G5] at this;rw[show(GRes.val r).ren (jZ [] σ.objs.length)=.val r by show GRes.val (r.ren _)=_;rw[hr]] at this;exact this
theorem bT {P:Program} {M:FuncId->Bool} {k:FuncId} {a args:List GV} {r:GV} {σ:GS} {K:GRes->GS->Prop} (h:SC P k a [] (.val r) []) (hw:Wks args a) (hlo:σ.lo=0) (ha:ClL a) (hr:Cl r) (hk:K (.val r) σ):
  gZ P M (.fn k) args σ K:=⟨.val r,σ,h.pureFact σ hlo ha hr hw,fun _ _ _=>rfl,hk⟩
theorem zQ {q:Nat} {x:GObj} {objs:List GObj} (hq:q<objs.length) (hx:x.ren (jZ [q] objs.length)=x):k8 [q] [x] objs=objs.set q x:=by
 apply eK;intro r;rw[kZ (fun k h=>by simp at h;omega) (rL _)];unfold iU;by_cases hr:r<objs.length
 ·rw[aD hr];by_cases hrq:q=r
  ·subst hrq;have:([q]:List Nat).idxOf? q=some 0:=by simp[List.idxOf?,List.findIdx?_cons]
   rw[this];simp[hx,hr]
  ·have:([q]:List Nat).idxOf? r=none:=by simp[List.idxOf?,List.findIdx?_cons,hrq]
   rw[this,dK hrq]
 ·rw[aC hr];simp only[j5];rw[bG (l:=[x]) (by simp only[j5];omega),bG (l:=objs.set q x) (by rw[List.length_set];omega)];rfl
theorem Lies.one {q:Nat} {x:GObj} {objs:List GObj} (hq:objs[q]?=some x) (hx:∀f,x.ren f=x) (hne:x≠ .held):Lies [q] [x] objs:=
 ⟨by simp,rfl,fun i k y h1 h2=>by
  rcases i with _|i
  ·simp at h1 h2;subst h1;subst h2;rw[hx];exact hq
  ·simp at h1,fun y hy=>by simp at hy;subst hy;exact hne⟩
theorem GObj.box_cl {T:TypeId} {cs:List GV} (h:ClL cs) (f:Nat->Nat):(GObj.box T cs).ren f=.box T cs:=by
 show GObj.box T (cs.map _)=_;rw[h f]
def dW:=@GObj.box_cl
theorem sL {P:Program} {M:FuncId->Bool} {k:FuncId} {a args:List GV} {r:GV} {σ:GS} {K:GRes->GS->Prop} (h:SC P k a [] (.val r) []) (hk:K (.val r) σ) (hw:Wks args a:=by first|exact wR _|exact wC (bY _ _) (wR _)|exact wC (bY _ _) (wC (bY _ _) (wR _))|exact wC (bF _) (wC (bY _ _) (wR _))) (hlo:σ.lo=0:=by rfl) (ha:ClL a:=by first|exact fun _=>rfl|exact cA|exact cB fun _=>rfl) (hr:Cl r:=by first|exact fun _=>rfl|exact cA|exact cB fun _=>rfl):gZ P M (.fn k) args σ K:=bT h hw hlo ha hr hk
theorem gM {c:Bool} {A B:Prop} (yes:c=true->A) (no:c=false->B):GIf c A B:=bZ yes no
theorem sT {l:List GV} {a b off n:Nat} {c:Bool} {K:List GV->Prop} (k:K l) (h1:a<=b:=by exact zL _) (h2:c=true:=by rfl) (h3:off+l.length<=n:=by exact bL rfl):∃vc,GNeed (vc=l/\a<=b/\c=true/\off+vc.length<=n) (K vc):=⟨l,⟨rfl,h1,h2,h3⟩,k⟩
theorem oW {g:GV} {σ0:GS} (hc:Cl g:=by exact fun _=>rfl):Owes [] (.val g) [] (.val g) σ0:=cZ (.refl _) hc
theorem lQ {P:Program} {M:FuncId->Bool} {n:Nat} {ops:Array Oper} {φ:Fr} {σ:GS} {K:GX->Fr->GS->Prop} (k:uH P M false n ops ops.toList φ σ (wT K)) (h:calm M ops=true:=by kernel_rfl):GDraw P M n ops φ σ K:=.calm h k
theorem aN {lo r n m esz size ty e:Nat} {P:Prop} (k:P) (h1:lo<=r:=by exact zL _) (h:n=m:=by rfl) (h3:(esz=size/\ty=e)\/(n=0/\esz=0):=by first|exact .inr ⟨rfl,rfl⟩|exact .inl ⟨rfl,rfl⟩):GNeed (lo<=r/\n=m/\((esz=size/\ty=e)\/(n=0/\esz=0))) P:=⟨⟨h1,h,h3⟩,k⟩
theorem a2p {P:Program} {M:FuncId->Bool} {k:FuncId} {q:Nat} {a args:List GV} {T:TypeId} {cs cs':List GV} {r:GV} {σ:GS} {K:GRes->GS->Prop} (h:SC P k (.ptr 0 0::a) [.box T cs] (.val r) [.box T cs'])
  (hq:σ.objs[q]?=some (.box T cs)) (hw:Wks args (.ptr q 0::a)) (hlo:σ.lo=0) (hM:M k=false) (hc:ClL cs) (hc':ClL cs') (ha:ClL a) (hr:Cl r) (hk:pX σ q (.box T cs') fun s=>K (.val r) s):gZ P M (.fn k) args σ K:=by
 have hql:q<σ.objs.length:=(List.getElem?_eq_some_iff.1 hq).1;have hf:=h.fact (σ:=σ) (args':=args) [q] (Lies.one hq (dW hc) (by simp)) hlo (by
  have e0:(GV.ptr 0 0).ren (jZ [q] σ.objs.length)=.ptr q 0:=by show GV.ptr (jZ [q] _ 0) 0=_;rw[lD (by simp)];rfl
  rw[dJ,e0,ha];exact hw)
 rw[zQ hql (dW hc' _)] at hf;rw[show(GRes.val r).ren (jZ [q] σ.objs.length)=.val r by show GRes.val (r.ren _)=_;rw[hr]] at hf;exact⟨.val r,_,hf,(fun k' e hk'=>by cases e;rw[hM] at hk';cases hk'),mZ (K:=fun s=>K (.val r) s) hk⟩
theorem jU {T:TypeId} {cs0 cs cs':List GV} {g g':GV} {rest:List GObj} {lo:Nat} {ds:List GDef} (hcs:cs=cs') (hw:Wk g g') (hc:ClL cs') (hr:Cl g'):
  Owes [.box T cs0] (.val g') [.box T cs'] (.val g) ⟨.box T cs::rest,lo,ds⟩:=by
 subst hcs;refine⟨[0],Lies.one rfl (dW hc) (by simp),fun i hi=>?_,by show Wk g (g'.ren _);rw[hr];exact hw⟩;have:i=0:=by simp at hi;omega
 subst this;rfl
theorem r8 {T:TypeId} {cs0 cs cs':List GV} {v v':List UInt8} {rest:List GObj} {lo:Nat} {ds:List GDef} (hcs:cs=cs') (h:v=v') (hc:ClL cs'):
  Owes [.box T cs0] (.val (.s v')) [.box T cs'] (.val (.s v)) ⟨.box T cs::rest,lo,ds⟩:=jU hcs (by rw[h];exact .refl _) hc (.s _)
theorem uY {T:TypeId} {cs0 cs cs':List GV} {v v':Bool} {rest:List GObj} {lo:Nat} {ds:List GDef} (hcs:cs=cs') (h:v=v') (hc:ClL cs'):
  Owes [.box T cs0] (.val (.b v')) [.box T cs'] (.val (.b v)) ⟨.box T cs::rest,lo,ds⟩:=jU hcs (by rw[h];exact .refl _) hc (.b _)
theorem Wks.cons {g h:GV} {gs hs:List GV} (a:Wk g h) (b:Wks gs hs):Wks (g::gs) (h::hs):=⟨a,b⟩
theorem wC {g h:GV} {gs hs:List GV} (a:Wk g h) (b:Wks gs hs):Wks (g::gs) (h::hs):=⟨a,b⟩
theorem Wks.nil:Wks [] []:=trivial
theorem ORel.box_less {C:Cx} {w:World} {i:Nat} {T:TypeId} {cs cs':List GV} (hl:cs.length=cs'.length) (hw:∀(j:Nat) g g',cs[j]?=some g->cs'[j]?=some g'->Wk g g') (h:ORel C w i (.box T cs)):ORel C w i (.box T cs'):=by
 obtain⟨h0,b,vs,h1,h2,h3,h4⟩:=h;refine⟨h0,b,vs,h1,h2,⟨by rw[<-hl,h3.1,hl],fun j g u g1 g2=>?_⟩,fun q=>by rw[h4 q,hl]⟩;have hj:j<cs.length:=by rw[hl];exact(List.getElem?_eq_some_iff.1 g1).1
 rw[<-hl] at g2;exact hw j _ g (gL hj) g1 C u (h3.2 j _ u (gL hj) g2)
end
section
def a7k:List GV:=[.i .u8 0,.i .u8 1,.i .u8 28,.i .u8 2,.i .u8 29,.i .u8 14,.i .u8 24,.i .u8 3,.i .u8 30,.i .u8 22,.i .u8 20,.i .u8 15,.i .u8 25,.i .u8 17,.i .u8 4,.i .u8 8,.i .u8 31,.i .u8 27,.i .u8 13,.i .u8 23,.i .u8 21,.i .u8 19,.i .u8 16,.i .u8 7,.i .u8 26,.i .u8 12,.i .u8 18,.i .u8 6,.i .u8 11,.i .u8 5,.i .u8 10,.i .u8 9]
def a7j:List GV:=[.i .u8 0,.i .u8 1,.i .u8 56,.i .u8 2,.i .u8 57,.i .u8 49,.i .u8 28,.i .u8 3,.i .u8 61,.i .u8 58,.i .u8 42,.i .u8 50,.i .u8 38,.i .u8 29,.i .u8 17,.i .u8 4,.i .u8 62,.i .u8 47,.i .u8 59,.i .u8 36,.i .u8 45,.i .u8 43,.i .u8 51,.i .u8 22,.i .u8 53,.i .u8 39,.i .u8 33,.i .u8 30,.i .u8 24,.i .u8 18,.i .u8 12,.i .u8 5,.i .u8 63,.i .u8 55,.i .u8 48,.i .u8 27,.i .u8 60,.i .u8 41,.i .u8 37,.i .u8 16,.i .u8 46,.i .u8 35,.i .u8 44,.i .u8 21,.i .u8 52,.i .u8 32,.i .u8 23,.i .u8 11,.i .u8 54,.i .u8 26,.i .u8 40,.i .u8 15,.i .u8 34,.i .u8 20,.i .u8 31,.i .u8 10,.i .u8 25,.i .u8 14,.i .u8 19,.i .u8 9,.i .u8 13,.i .u8 8,.i .u8 7,.i .u8 6]
def a28:List GV:=[.i .u64 1,.i .u64 10,.i .u64 100,.i .u64 1000,.i .u64 10000,.i .u64 100000,.i .u64 1000000,.i .u64 10000000,.i .u64 100000000,.i .u64 1000000000,.i .u64 10000000000,.i .u64 100000000000,.i .u64 1000000000000,.i .u64 10000000000000,.i .u64 100000000000000,.i .u64 1000000000000000,.i .u64 10000000000000000,.i .u64 100000000000000000,.i .u64 1000000000000000000,.i .u64 10000000000000000000]
def a7l:List GV:=[.ifc 382 (.snap [.s [118,97,108,117,101,32,111,117,116,32,111,102,32,114,97,110,103,101]] 0)]
def a7m:List GV:=[.ifc 382 (.snap [.s [105,110,118,97,108,105,100,32,115,121,110,116,97,120]] 0)]
class MaxL where
 m:Int
instance [MaxL]:Globals:=⟨fun g=>match g with
 |0=>some [.i .i64 MaxL.m]
 |3=>some a28
 |4=>some a7m
 |5=>some a7l
 |6=>some a7k
 |7=>some a7j
 |_=>none,fun t=>Nat.beq t 69,fun _=>false⟩
end
section
open Go.RowKit
theorem mixed:Tryz.prog.follows .mixedOrders=true:=by kernel_rfl
def oP:FuncId->Bool:=fun _=>true
theorem cO [MaxL] {k:FuncId} {fn:Func} {c:Code} (hfn:Tryz.prog.funcs[k]?=some fn) (hb:fn.body=some c) {args:List GV} {s s':List GObj} {r:GRes} (h:UU Tryz.prog oP none fn.ntmps c (vZ args) ⟨s,0,[]⟩ (a2c Tryz.prog fn (Owes s r s'))) (h1:args.length<=fn.ntmps:=by exact bL rfl) (h2:s.length<=s'.length:=by first|exact rL _|simp) (h3:s'.all GObj.notHeld=true:=by rfl):SC Tryz.prog k args s r s':=bQ oP mixed hfn hb h1 h2 h3 h
def nE (c:UInt8):Bool:=decide (97<=c.toNat)&&decide (c.toNat<=122)
def cY (c:UInt8):Bool:=decide (48<=c.toNat)&&decide (c.toNat<=57)
def dL (c:UInt8):Bool:=nE c||cY c||c.toNat==95
theorem Y6 [MaxL] (c:UInt8):SC Tryz.prog 138 [.i .u8 c.toNat] [] (.val (.b (nE c))) []:=by
 refine bQ oP mixed Tryz.func138 rfl (bL rfl) (rL _) rfl ?_;conv=>whnf
 repeat' ((refine bZ (fun h=>?_) (fun h=>?_))<;>conv=>whnf)
 all_goals (refine d6 ?_;simp only[aJ,bV] at*;rw[dQ];simp[nE];omega)
theorem a4n [MaxL] (c:UInt8):SC Tryz.prog 293 [.i .u8 c.toNat] [] (.val (.b (cY c))) []:=by
 refine bQ oP mixed Tryz.func293 rfl (bL rfl) (rL _) rfl ?_;conv=>whnf
 repeat' ((refine bZ (fun h=>?_) (fun h=>?_))<;>conv=>whnf)
 all_goals (refine d6 ?_;simp only[aJ,bV] at*;rw[dQ];simp[cY];omega)
theorem SY [MaxL] (c:UInt8):SC Tryz.prog 292 [.i .u8 c.toNat] [] (.val (.b (dL c))) []:=by
 refine bQ oP mixed Tryz.func292 rfl (bL rfl) (rL _) rfl ?_;conv=>whnf
 repeat' ((refine bZ (fun h=>?_) (fun h=>?_))<;>conv=>whnf)
 all_goals (refine d6 ?_;simp only[aJ,bV] at*;rw[dQ];simp[dL,nE,cY];omega)
theorem a4m [MaxL] (c : UInt8) : SC Tryz.prog 139 [.i .u8 c.toNat] [] (.val (.b (dL c))) [] := by
 refine bQ oP mixed Tryz.func139 rfl (bL rfl) (rL _) rfl ?_;conv => whnf
 refine bT (Y6 c) (wR _) rfl (fun _ => rfl) (.b _) ?_;conv => whnf
 repeat' ((refine bZ (fun h => ?_) (fun h => ?_)) <;> conv => whnf)
 all_goals (refine d6 ?_; (try simp only [aJ, bV] at *); rw [dQ]; simp [dL, cY, *]; try omega)
def dU (l:List UInt8):Bool:=match l with
 |[]=>false
 |c::_=>decide (l.length<=16)&&nE c&&l.all dL
theorem CP [MaxL] (l : List UInt8) : SC Tryz.prog 75 [.s l] [] (.val (.b (dU l))) [] := by
  refine bQ oP mixed Tryz.func75 rfl (bL rfl) (rL _) rfl ?_;cases l with
  | nil => conv => whnf
           exact d6 rfl
  | cons c t =>
    conv => whnf
    apply gM<;>intro h16<;>conv=>whnf
    · refine d6 ?_
      simp [dU] at h16 ⊢; omega
    · refine ⟨eU 0, c, rfl, ?_⟩
      conv => whnf
      refine bT (Y6 c) (wR _) rfl (fun _ => rfl) (.b _) ?_;conv => whnf
      apply gM<;>intro hs<;>conv=>whnf
      · refine d6 ?_
        simp at hs;simp [dU, hs]
      · simp at hs
        have h16' : (c :: t).length ≤ 16 := by simp at h16 ⊢; omega
        refine dD (fun i : Nat => i ≤ (c :: t).length ∧ ((c :: t).take i).all dL = true) (fun i => [(0, .s (c :: t)), (18, .i .i64 (c :: t).length), (19, .i .i64 i)]) (fun _ => ⟨[], 0, []⟩) (fun i => (c :: t).length - i) 0 ⟨zL _, rfl⟩ ⟨rfl, rfl, rfl, trivial⟩ rfl (fun i φ0 hi => ?_);conv => whnf
        apply gM<;>intro h<;>conv=>whnf
        · have hlt : i < (c :: t).length := by simp at h ⊢; omega
          refine ⟨jR _, (c :: t)[i], by simp, ?_⟩;conv => whnf
          refine bT (a4m (c :: t)[i]) (wR _) rfl (fun _ => rfl) (.b _) ?_;conv => whnf
          apply gM<;>intro hb<;>conv=>whnf
          · refine d6 ?_
            simp at hb;have : (c :: t).all dL = false := by
              rw [← Bool.not_eq_true, aQ]; intro ha;exact absurd (ha _ (dX hlt)) (by simp [hb])
            simp [dU, this]
          · simp at hb
            refine fR (i + 1) ⟨hlt, ?_⟩ (by omega) ⟨rfl, rfl, ?_, trivial⟩ rfl
            · rw [List.take_succ_eq_append_getElem hlt, List.all_append, hi.2]; simp [hb]
            · exact bH (by omega)
        · refine d6 ?_
          have : i = (c :: t).length := by have := hi.1; simp at h; simp at this ⊢; omega
          have ha := hi.2;rw [this, aV] at ha;simp only [dU, hs, ha];simp; simp at h16'; omega
end
section
open Go.RowKit
def b9:Nat:=4611686018427387904
def RS (xs:List (List UInt8)) (v:List UInt8):Int:=match xs.findIdx? (· ==v) with
 |some i=>i
 |none=> -1
theorem T5 [MaxL] (xs:List (List UInt8)) (v:List UInt8) (hb:xs.length<b9):
  SC Tryz.prog 241 [.sl .none (xs.map .s),.s v] [] (.val (.i .i64 (RS xs v))) []:=by
 unfold b9 at hb;refine cO Tryz.func241 rfl ?_;conv=>whnf
 refine dD (fun i:Nat=>i<=xs.length/\(xs.take i).findIdx? (· ==v)=none) (fun i=>[(0,.sl .none (xs.map .s)),(1,.s v),(7,.i .i64 (xs.map GV.s).length),(8,.i .i64 i)]) (fun _=>⟨[],0,[]⟩) (fun i=>xs.length - i) 0 ⟨zL _,rfl⟩ ⟨rfl,rfl,rfl,rfl,trivial⟩ rfl (fun i φ0 hi=>?_);conv=>whnf
 apply gM<;>intro h<;>conv=>whnf
 ·have hlt:i<xs.length:=by simp at h;omega
  refine⟨jR _,.s xs[i],by simp[hlt],rfl,?_⟩;conv=>whnf
  apply gM<;>intro hv<;>conv=>whnf
  ·refine bB ?_;have hv':xs[i]=v:=by simpa using(eq_comm.1 (by simpa using hv))
   have:xs.findIdx? (· ==v)=some i:=by
    rw[List.findIdx?_eq_some_iff_getElem];refine⟨hlt,by simpa using hv',fun j hj=>?_⟩;have:=List.findIdx?_eq_none_iff.1 hi.2 xs[j] (by
     rw[List.mem_iff_getElem?];exact⟨j,by rw[dY,aD hj,gL]⟩)
    simpa using this
   simp[RS,this]
  ·refine fR (i+1) ⟨hlt,?_⟩ (by omega) ⟨rfl,rfl,rfl,bH (by omega),trivial⟩ rfl;rw[List.take_succ_eq_append_getElem hlt,List.findIdx?_append,hi.2];have:¬xs[i]=v:=fun e=>by simp[e] at hv
   simp[this]
 ·refine bB ?_;have:i=xs.length:=by have:=hi.1;simp at h;omega
  have ha:=hi.2;rw[this,aV] at ha;simp[RS,ha]
theorem s6 [MaxL] (xs:List (List UInt8)) (v:List UInt8) (hb:xs.length<b9):
  SC Tryz.prog 187 [.sl .none (xs.map .s),.s v] [] (.val (.b (xs.contains v))) []:=by
 refine cO Tryz.func187 rfl ?_;conv=>whnf
 refine sL (T5 xs v hb) ?_;conv=>whnf
 refine d6 ?_;unfold RS;cases h:xs.findIdx? (· ==v) with
 |none=>
  have:¬v∈xs:=fun hm=>by have:=List.findIdx?_eq_none_iff.1 h v hm;simp at this
  simp[this]
 |some i=>
  obtain⟨hi,h1,_⟩:=List.findIdx?_eq_some_iff_getElem.1 h;have:v∈xs:=by have:=dX hi;rwa [show xs[i]=v by simpa using h1] at this
  simp[this]
def a7o:List (List UInt8):=[[97,110,100],[111,114],[110,111,116],[116,114,117,101],[102,97,108,115,101]]
theorem Y9 [MaxL] (l:List UInt8):SC Tryz.prog 257 [.s l] [] (.val (.b (a7o.contains l))) []:=by
 refine cO Tryz.func257 rfl ?_;conv=>whnf
 refine sL (s6 a7o l (by decide)) ?_;conv=>whnf
 exact d6 rfl
end
section
open Go.RowKit
variable [Globals]
theorem uN {P:Program} {M:FuncId->Bool} {k:FuncId} {a args:List GV} {s s':List GObj} {r r':GRes} {σ:GS} {K:GRes->GS->Prop} (h:SC P k a s r s') (ks:List Nat) {objs':List GObj} (hl:Lies ks s σ.objs)
  (hw:Wks args (a.map (GV.ren (jZ ks σ.objs.length)))) (hlo:σ.lo=0) (hM:M k=false) (ho:k8 ks s' σ.objs=objs') (hr:r.ren (jZ ks σ.objs.length)=r') (hk:K r' ⟨objs',σ.lo,σ.ds⟩):gZ P M (.fn k) args σ K:=by
 have hf:=h.fact (σ:=σ) (args':=args) ks hl hlo hw;rw[ho,hr] at hf;exact⟨r',_,hf,(fun k' e hk'=>by cases e;rw[hM] at hk';cases hk'),hk⟩
theorem Lies.one' {q:Nat} {x:GObj} {objs:List GObj} (hq:objs[q]?=some (x.ren (jZ [q] objs.length))) (hne:x≠ .held):Lies [q] [x] objs:=
 ⟨by simp,rfl,fun i k y h1 h2=>by
  rcases i with _|i
  ·simp at h1 h2;subst h1;subst h2;exact hq
  ·simp at h1,fun y hy=>by simp at hy;subst hy;exact hne⟩
theorem Lies.two {q p:Nat} {x y:GObj} {objs:List GObj} (hn:q≠p) (hq:objs[q]?=some (x.ren (jZ [q,p] objs.length))) (hp:objs[p]?=some (y.ren (jZ [q,p] objs.length))) (hx:x≠ .held) (hy:y≠ .held):Lies [q,p] [x,y] objs:=
 ⟨by simp[hn],rfl,fun i k z h1 h2=>by
  rcases i with _|_|i
  ·simp at h1 h2;subst h1;subst h2;exact hq
  ·simp at h1 h2;subst h1;subst h2;exact hp
  ·simp at h1,fun z hz=>by simp at hz;rcases hz with rfl|rfl<;>assumption⟩
theorem Wk.agg {l l':List GV} (hl:l.length=l'.length) (h:∀(j:Nat) g g',l[j]?=some g->l'[j]?=some g'->Wk g g'):Wk (.agg l) (.agg l'):=fun C v hv=>by
 cases hv with
 |agg hs hv=>
 refine .agg (by rw[hs,hl]) (fun j g u h1 h2=>?_);have hj:j<l.length:=by rw[hl];exact(List.getElem?_eq_some_iff.1 h1).1
 exact h j l[j] g (gL hj) h1 C u (hv j _ u (gL hj) h2)
theorem Wk.of_eq {g g':GV} (h:g=g'):Wk g g':=h▸ .refl g
end
section
open Go.RowKit
structure Val where
 k:Int
 n:Int
 s:List UInt8
 deriving DecidableEq
def Val.cs (v:Val):List GV:=[.i .i64 v.k,.i .i64 v.n,.s v.s]
def Val.gv (v:Val):GV:=.agg v.cs
theorem Val.cl [MaxL] (v:Val):Cl v.gv:=fun _=>rfl
def Val.ok (v:Val):Bool:=(decide (v.k=1)&&decide (v.s=[])&&decide (-1000000000<=v.n)&&decide (v.n<=1000000000))||(decide (v.k=2)&&decide (v.n=0)&&decide (v.s.length<=40))
theorem AM [MaxL] (n lo hi:Int):SC Tryz.prog 160 [.i .i64 n,.i .i64 lo,.i .i64 hi] [] (.val (.b (decide (lo<=n)&&decide (n<=hi)))) []:=by
 refine cO Tryz.func160 rfl ?_;conv=>whnf
 repeat' first
  |(apply gM<;>intro _<;>conv=>whnf)
  |(refine lQ ?_;conv=>whnf)
  |(refine sT ?_;conv=>whnf)
 all_goals (rename_i h;refine d6 ?_;simp at h⊢;omega)
def a4b:GV:=.agg [.fn (.func 264) [] [],.fn (.func 265) [] [],.fn (.func 266) [] []]
theorem a2u [MaxL]:SC Tryz.prog 216 [] [] (.val a4b) []:=by
 refine cO Tryz.func216 rfl ?_;conv=>whnf
 repeat' first
  |(apply gM<;>intro _<;>conv=>whnf)
  |(refine lQ ?_;conv=>whnf)
  |(refine sT ?_;conv=>whnf)
 exact rQ rfl (fun _=>rfl)
theorem a0A [MaxL] (v:Val):SC Tryz.prog 264 [v.gv] [] (.val (.b false)) []:=by
 refine cO Tryz.func264 rfl ?_;conv=>whnf
 exact d6 rfl
theorem a09 [MaxL] (v:Val):SC Tryz.prog 265 [v.gv] [] (.val (.b (decide (v.s=[])&&(decide (-1000000000<=v.n)&&decide (v.n<=1000000000))))) []:=by
 refine cO Tryz.func265 rfl ?_;conv=>whnf
 repeat' first
  |(apply gM<;>intro _<;>conv=>whnf)
  |(refine lQ ?_;conv=>whnf)
  |(refine sT ?_;conv=>whnf)
  |(refine sL (AM _ _ _) ?_;conv=>whnf)
 ·rename_i h;refine d6 ?_;simp at h;simp[h]
 ·rename_i h;refine d6 ?_;simp at h;simp[h]
theorem a08 [MaxL] (v:Val):SC Tryz.prog 266 [v.gv] [] (.val (.b (decide (v.n=0)&&decide (v.s.length<=40)))) []:=by
 refine cO Tryz.func266 rfl ?_;conv=>whnf
 repeat' first
  |(apply gM<;>intro _<;>conv=>whnf)
  |(refine lQ ?_;conv=>whnf)
  |(refine sT ?_;conv=>whnf)
  |(refine sL (AM _ _ _) ?_;conv=>whnf)
 ·rename_i h;refine d6 ?_;simp at h;simp[h];omega
 ·rename_i h;refine d6 ?_;simp at h;simp[h]
theorem E0 [MaxL] (v:Val):SC Tryz.prog 161 [v.gv] [] (.val (.b v.ok)) []:=by
 obtain⟨k,n,s⟩:=v;refine cO Tryz.func161 rfl ?_;conv=>whnf
 refine lQ ?_;conv=>whnf
 refine bT (AM k 0 2) (wR _) rfl (fun _=>rfl) (.b _) ?_;conv=>whnf
 apply gM<;>intro h<;>conv=>whnf
 ·refine bT a2u Wks.nil rfl jF (fun _=>rfl) ?_;conv=>whnf
  have hk:k=0∨k=1∨k=2:=by simp at h;omega
  rcases hk with rfl|rfl|rfl<;>conv=>whnf
  ·refine bT (a0A ⟨0,n,s⟩) (wR _) rfl (fun _=>rfl) (.b _) ?_;(conv=>whnf);exact d6 (by simp[Val.ok])
  ·refine bT (a09 ⟨1,n,s⟩) (wR _) rfl (fun _=>rfl) (.b _) ?_;(conv=>whnf);exact d6 (by simp[Val.ok,Bool.and_assoc])
  ·refine bT (a08 ⟨2,n,s⟩) (wR _) rfl (fun _=>rfl) (.b _) ?_;(conv=>whnf);exact d6 (by simp[Val.ok])
 ·refine d6 ?_;simp at h;simp[Val.ok];omega
end
section
open Go.RowKit
theorem SZ [MaxL] (v:Val):SC Tryz.prog 313 [v.gv] [] (.val (.b (!v.ok))) []:=by
 refine cO Tryz.func313 rfl ?_;conv=>whnf
 repeat' first
  |(apply gM<;>intro _<;>conv=>whnf)
  |(refine lQ ?_;conv=>whnf)
  |(refine sT ?_;conv=>whnf)
  |(refine sL (E0 _) ?_;conv=>whnf)
 exact d6 rfl
def kF (vs:List Val):List GV:=vs.map Val.gv
theorem lH [MaxL] (vs:List Val):ClL (kF vs):=iA Val.cl vs
theorem PW [MaxL] (vs:List Val) (hb:vs.length<b9):
  SC Tryz.prog 323 [.sl .none (kF vs),.fn (.func 313) [] []] [] (.val (.i .i64 (match vs.findIdx? (fun v=>!v.ok) with|some i=>(i:Int)|none=> -1))) []:=by
 unfold b9 at hb;refine cO Tryz.func323 rfl ?_;conv=>whnf
 refine dD (fun i:Nat=>i<=vs.length/\(vs.take i).findIdx? (fun v=>!v.ok)=none) (fun i=>[(0,.sl .none (kF vs)),(1,.fn (.func 313) [] []),(7,.i .i64 (kF vs).length),(8,.i .i64 i)]) (fun _=>⟨[],0,[]⟩) (fun i=>vs.length - i) 0 ⟨zL _,rfl⟩ ⟨rfl,rfl,rfl,rfl,trivial⟩ rfl (fun i φ0 hi=>?_);conv=>whnf
 apply gM<;>intro h<;>conv=>whnf
 ·have hlt:i<vs.length:=by simp[kF] at h;omega
  refine⟨jR _,vs[i].gv,by simp[hlt,kF],rfl,?_⟩;conv=>whnf
  refine bT (SZ vs[i]) (wR _) rfl (fun _=>rfl) (.b _) ?_;conv=>whnf
  apply gM<;>intro hv<;>conv=>whnf
  ·refine bB ?_;have:vs.findIdx? (fun v=>!v.ok)=some i:=by
    rw[List.findIdx?_eq_some_iff_getElem];refine⟨hlt,by simpa using hv,fun j hj=>?_⟩;have:=List.findIdx?_eq_none_iff.1 hi.2 vs[j] (by
     rw[List.mem_iff_getElem?];exact⟨j,by rw[dY,aD hj,gL]⟩)
    simpa using this
   simp[this]
  ·refine fR (i+1) ⟨hlt,?_⟩ (by omega) ⟨rfl,rfl,rfl,bH (by omega),trivial⟩ rfl;rw[List.take_succ_eq_append_getElem hlt,List.findIdx?_append,hi.2];simp at hv;simp[hv]
 ·refine bB ?_;have:i=vs.length:=by have:=hi.1;simp[kF] at h;omega
  have ha:=hi.2;rw[this,aV] at ha;simp[ha]
theorem H2 [MaxL] (vs:List Val) (hb:vs.length<b9):
  SC Tryz.prog 312 [.sl .none (kF vs),.fn (.func 313) [] []] [] (.val (.b (vs.any fun v=>!v.ok))) []:=by
 refine cO Tryz.func312 rfl ?_;conv=>whnf
 refine bT (PW vs hb) (wR _) rfl (cC (bK (lH vs)) (fun _=>rfl)) (.i _ _) ?_;conv=>whnf
 refine d6 ?_;cases h:vs.findIdx? (fun v=>!v.ok) with
 |none=>
  have:=List.findIdx?_eq_none_iff.1 h;simp at this⊢;exact this
 |some i=>
  obtain⟨hi,h1,_⟩:=List.findIdx?_eq_some_iff_getElem.1 h;simp at h1⊢;exact⟨_,dX hi,h1⟩
def tV (vs:List Val):Bool:=decide (vs.length<=8)&&vs.all Val.ok
theorem CO [MaxL] (vs:List Val) (hb:vs.length<b9):SC Tryz.prog 307 [.sl .none (kF vs)] [] (.val (.b (tV vs))) []:=by
 refine cO Tryz.func307 rfl ?_;conv=>whnf
 apply gM<;>intro h<;>conv=>whnf
 ·refine bT (H2 vs hb) (wR _) rfl (cC (bK (lH vs)) (fun _=>rfl)) (.b _) ?_;conv=>whnf
  refine d6 ?_;simp[kF] at h;simp[tV,List.not_any_eq_all_not];omega
 ·refine d6 ?_;simp[kF] at h;simp[tV];omega
def GZ (s:List UInt8) (n:Nat):GObj:=.box 356 [.s s,.i .i64 n]
theorem CN [MaxL] (s:List UInt8) (n:Nat) (hs:s.length<b9):SC Tryz.prog 336 [.ptr 0 0] [GZ s n] (.val (.i .u8 (s.getD n 0).toNat)) [GZ s n]:=by
 refine cO Tryz.func336 rfl ?_;conv=>whnf
 refine lQ ?_;conv=>whnf
 apply gM<;>intro h<;>conv=>whnf
 ·skip;refine lQ ?_;conv=>whnf
  have hlt:n<s.length:=by simp at h;omega
  refine⟨jR _,s[n],by simp[hlt],?_⟩;conv=>whnf
  refine jU rfl ?_ (fun _=>rfl) (.i _ _);simp[hlt];exact .refl _
 ·refine jU rfl ?_ (fun _=>rfl) (.i _ _);have:s.length<=n:=by simp at h;omega
  rw[aO,bG this];exact .refl _
end
