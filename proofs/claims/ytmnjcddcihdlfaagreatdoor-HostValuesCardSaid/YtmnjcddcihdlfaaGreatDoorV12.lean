/- Part of HostValues. -/
import Derived.Test.YtmnjcddcihdlfaaGreatDoorV11
set_option linter.all false
namespace Go.Proofs.YtmnjcddcihdlfaaGreatDoor
section
open Go.RowKit
variable [Globals]
def mH (P:Program) (fn:Func) (tmps:Array Value) (R:Ending->World->Prop):List Deferred->FrameMode->World->Prop
 |[],.returning,w=>∃v,(results fn tmps).run P w=.ok v w/\R (.returned v) w
 |[],.panicking chain,w=>R (.panicked chain) w
 |[],.run,_=>False
 |d::ds,u,w=>u≠ .run/\
   ((∃r w',d.target=.collected r/\(Instr.takeDeferred r).run P w=.ok [] w'/\mH P fn tmps R ds u w')∨
   (∃fv cap f args,d.target=.fn fv cap/\(invoke d.target d.args).run P w=.ok (.enter f args) w/\
    CallsD P f args u w fun
     |.returned _,u',w'=>mH P fn tmps R ds (settle u') w'
     |.panicked chain,u',w'=>mH P fn tmps R ds (raised u' chain) w'
     |.outgrown,_,w'=>R .outgrown w'))
theorem pJ {P:Program} {fn:Func} {tmps:Array Value} {R:Ending->World->Prop}:∀(ds:List Deferred) (u:FrameMode) (w:World) (fr:Frame)
  (cs:List Frame),fr.mode=u->fr.defers=ds->fr.tmps=tmps->P.funcs[fr.fn]?=some fn->fr.kind=.normal->mH P fn tmps R ds u w->
  ∃e w' fr',R e w'/\Comes P (lone fr cs w) (lone fr' cs w') e/\fr'.fn=fr.fn/\fr'.leaving P w' e:=by
 intro ds;induction ds with
 |nil=>
  intro u w fr cs hu hd ht hf hk h;cases u with
  |run=>exact h.elim
  |returning=>
   obtain⟨v,hr,hR⟩:=h;exact⟨.returned v,w,fr,hR,Steps.refl P _,rfl,hu,hd,hk,fn,hf,ht▸hr⟩
  |panicking chain=>exact⟨.panicked chain,w,fr,h,Steps.refl P _,rfl,hu,hd,fn,hf⟩
 |cons d ds ih=>
  intro u w fr cs hu hd ht hf hk h;obtain⟨hrun,⟨r,w',htar,htake,hrest⟩|⟨fv,cap,f,args,htar,hinv,hcall⟩⟩:=h
  ·have h1:=step_collected (cs:=cs) (hu▸hrun) hd htar htake;rw[List.nil_append] at h1;obtain⟨e',w'',fr',hR',hs',hfn',hl'⟩:=ih u w' {fr with defers:=ds} cs hu rfl ht hf hk hrest;exact⟨e',w'',fr',hR',Comes.of_steps (.one h1) hs',hfn',hl'⟩
  ·have h1:=step_defer (cs:=cs) (hu▸hrun) hd htar hinv;obtain⟨e,u',w',frX,hR,hsteps,hkX,hgo⟩:=hcall {fr with defers:=ds} cs hu;cases e with
   |returned v=>
    have h2:=step_going_returned (c:={{fr with defers:=ds} with mode:=u'}) (cs:=cs) hkX hgo;obtain⟨e',w'',fr',hR',hs',hfn',hl'⟩:=ih (settle u') w' {{{fr with defers:=ds} with mode:=u'} with mode:=settle u'} cs rfl rfl ht hf hk hR;exact⟨e',w'',fr',hR',Comes.of_steps (.head h1 (Steps.trans hsteps (.one h2))) hs',hfn',hl'⟩
   |panicked chain=>
    have h2:=step_going_panicked (c:={{fr with defers:=ds} with mode:=u'}) (cs:=cs) hgo;obtain⟨e',w'',fr',hR',hs',hfn',hl'⟩:=ih (raised u' chain) w' {{{fr with defers:=ds} with mode:=u'} with mode:=raised u' chain} cs rfl rfl ht hf hk hR;exact⟨e',w'',fr',hR',Comes.of_steps (.head h1 (Steps.trans hsteps (.one h2))) hs',hfn',hl'⟩
   |outgrown=>exact⟨.outgrown,w',fr,hR,Outgrown.of_steps (.one h1) hsteps,rfl,trivial⟩
def R8 (P:Program) (fn:Func) (R:Ending->World->Prop):Exit->Act->World->Prop
 |.normal,a,w|.ret,a,w=>mH P fn a.tmps R a.defers .returning w
 |.panic chain,a,w=>mH P fn a.tmps R a.defers (.panicking chain) w
 |.outgrown,_,w=>R .outgrown w
 |_,_,_=>False
theorem rS {P:Program} {f:FuncId} {fn:Func} {c:Code} {args:Array Value} {w:World} {R:Ending->World->Prop}
  (hf:P.funcs[f]?=some fn) (hb:fn.body=some c)
  (h:c.wp P (R8 P fn R) {tmps:=args++Array.replicate (fn.ntmps - args.size) undef,defers:=[]} w):Calls P f args w R:=by
 intro cs;let b:Frame:={(default:Frame) with fn:=f,kind:=.normal};have henter:Frame.enter P f args .normal=
   b.at {tmps:=args++Array.replicate (fn.ntmps - args.size) undef,defers:=[]} [.code c]:=by
  simp[Frame.enter,Frame.at,hf,hb,b]
 obtain⟨e,a',w',hq,harr⟩:=h b [] cs;rw[<-henter] at harr;cases e with
 |normal=>
  obtain⟨e',w'',fr',hR,hs,hfn,hl⟩:=pJ a'.defers .returning w' {b.at a' [] with mode:=.returning} cs rfl rfl rfl hf rfl hq;exact⟨e',w'',fr',hR,Comes.of_steps (Steps.trans harr (.one step_end)) hs,hfn,hl⟩
 |ret=>
  obtain⟨todo,hs₀⟩:=harr;obtain⟨e',w'',fr',hR,hs,hfn,hl⟩:=pJ a'.defers .returning w' {b.at a' todo with mode:=.returning} cs rfl rfl rfl hf rfl hq;exact⟨e',w'',fr',hR,Comes.of_steps hs₀ hs,hfn,hl⟩
 |panic chain=>
  obtain⟨todo,hs₀⟩:=harr;obtain⟨e',w'',fr',hR,hs,hfn,hl⟩:=pJ a'.defers (.panicking chain) w' {b.at a' todo with mode:=.panicking chain} cs rfl rfl rfl hf rfl hq;exact⟨e',w'',fr',hR,Comes.of_steps hs₀ hs,hfn,hl⟩
 |exit id=>exact hq.elim
 |goto l=>exact hq.elim
 |outgrown=>exact⟨.outgrown,w',b,hq,harr.resolve_left (by simp[b]),rfl,trivial⟩
inductive GMode where
 |ret
 |pan (g:GV)
 |rcv
def u7:Op->Bool
 |.call {callee:=.builtin .recover,..}=>true
 |_=>false
def zB (P:Program) (n:Nat) (ops:Array Oper):List Nat->Fr->GMode->GS->Option (Fr×GMode×GS)
 |[],φ,u,σ=>some (φ,u,σ)
 |i::rest,φ,u,σ=>
  match ops[i]? with
  |none=>none
  |some o=>
   if(o.dst.all fun d=>decide (d<n))&&o.guard.isNone then
    if u7 o.op then
     match u with
     |.pan g=>zB P n ops rest (f5 φ o.dst g) .rcv σ
     |u=>zB P n ops rest (f5 φ o.dst (.o .nilIface)) u σ
    else
     match kO P (bO φ) o.op σ with
     |some (g,σ')=>zB P n ops rest (f5 φ o.dst g) u σ'
     |none=>none
   else none
def kF (P:Program) (M:FuncId->Bool) (call:dQ) (n m:Nat):Code->Fr->GMode->GS->Option (GX×Fr×GMode×GS)
 |.seq a b,φ,u,σ=>
  match kF P M call n m a φ u σ with
  |some (.normal,φ',u',σ')=>kF P M call n m b φ' u' σ'
  |r=>r
 |.cond c a b,φ,u,σ=>
  match bO φ c with
  |.b t=>if t then kF P M call n m a φ u σ else kF P M call n m b φ u σ
  |_=>none
 |.region id ops draw,φ,u,σ=>
  if !draw&&ops.toList.any (fun o=>u7 o.op) then(zB P n ops (List.range ops.size) φ u σ).map fun(φ',u',σ')=>(.normal,φ',u',σ')
  else(eK P M call none n m (.region id ops draw) φ σ).map fun(x,φ',σ')=>(x,φ',u,σ')
 |c,φ,u,σ=>(eK P M call none n m c φ σ).map fun(x,φ',σ')=>(x,φ',u,σ')
def QQ (P:Program) (φ:Fr) (σ:GS):ResultVar->Option GV
 |.tmp t=>some (φ t)
 |.cell a t=>k9 P t (φ a) σ
def C3 (f:ResultVar->Option GV):List ResultVar->Option (List GV)
 |[]=>some []
 |x::xs=>(f x).bind fun v=>(C3 f xs).map fun vs=>v::vs
def ZV:List GV->GV
 |[v]=>v
 |vs=>.tup vs
def o6 (P:Program) (fn:Func) (φ:Fr) (σ:GS):Option GV:=(C3 (QQ P φ σ) fn.results.toList).map ZV
def lJ (args:List GV):Fr:=fun t=>args.getD t (.tup [])
def nR (P:Program) (M:FuncId->Bool) (call:dQ) (m:Nat) (k:FuncId) (args:List GV) (u:GMode) (σ:GS):Option (GRes×GMode×GS):=
 match P.funcs[k]? with
 |some fn=>match fn.body with
  |some c=>
   if args.length<=fn.ntmps&&iL P k then
    match kF P M call fn.ntmps m c (lJ args) u {σ with ds:=[]} with
    |some (.normal,φ,u',σ')=>if σ'.ds.isEmpty then(o6 P fn φ σ').map fun v=>(.val v,u',{σ' with ds:=σ.ds}) else none
    |some (.ret,φ,u',σ')=>if σ'.ds.isEmpty then(o6 P fn φ σ').map fun v=>(.val v,u',{σ' with ds:=σ.ds}) else none
    |some (.panic g,_,u',σ')=>if σ'.ds.isEmpty then some (.panic g,u',{σ' with ds:=σ.ds}) else none
    |_=>none
   else none
  |none=>none
 |none=>none
def iJ (P:Program) (M:FuncId->Bool) (call:dQ) (m:Nat) (fn:Func) (φ:Fr):List GDef->GMode->GS->Option (GRes×GS)
 |[],.ret,σ=>(o6 P fn φ σ).map fun v=>(.val v,σ)
 |[],.pan g,σ=>some (.panic g,σ)
 |[],.rcv,_=>none
 |.coll r::ds,u,σ=>
  match σ.objs[r]? with
  |some .dfr=>if σ.lo<=r then iJ P M call m fn φ ds u (gset σ r .dead) else none
  |_=>none
 |.fn k args cap::ds,u,σ=>
  match nR P M call m k (args++cap) u σ with
  |some (.val _,.rcv,σ')=>iJ P M call m fn φ ds .ret σ'
  |some (.val _,u',σ')=>iJ P M call m fn φ ds u' σ'
  |some (.panic g,.ret,σ')=>iJ P M call m fn φ ds (.pan g) σ'
  |_=>none
def F0 (P:Program) (M:FuncId->Bool) (call:dQ) (m:Nat) (fn:Func) (c:Code) (args:List GV) (σ:GS):Option (GRes×GS):=
 if args.length<=fn.ntmps then
  match eK P M call none fn.ntmps m c (lJ args) {σ with ds:=[]} with
  |some (.normal,φ,σ')=>(iJ P M call m fn φ σ'.ds .ret σ').map fun r=>(r.1,{r.2 with ds:=σ.ds})
  |some (.ret,φ,σ')=>(iJ P M call m fn φ σ'.ds .ret σ').map fun r=>(r.1,{r.2 with ds:=σ.ds})
  |some (.panic g,φ,σ')=>(iJ P M call m fn φ σ'.ds (.pan g) σ').map fun r=>(r.1,{r.2 with ds:=σ.ds})
  |_=>none
 else none
def OM (f:List GV->GS->Option (GRes×GS)) (args:List GV) (σ:GS):Option (GRes×GS):=
 match f (args.map GV.pur) {objs:=σ.objs,lo:=σ.objs.length} with
 |some (.val g,_)=>if GV.bel σ.objs.length g.pur then some (.val g.pur,σ) else none
 |some (.panic g,_)=>if GV.bel σ.objs.length g.pur then some (.panic g.pur,σ) else none
 |none=>none
def iF (r:Nat) (ds:List GDef) (jump:Option Code) (σ:GS):Option (GRes×GS):=
 match σ.objs[r]? with
 |some (.loop _ _ n φ ps asg body rd)=>some (.val (.b jump.isNone),{gset σ r (.loop (if jump.isNone then .ready else .done) jump n φ ps asg body rd) with ds:=ds})
 |_=>none
def U3 (P:Program) (M:FuncId->Bool) (call:dQ) (m:Nat) (r:Nat) (args:List GV) (σ:GS):Option (GRes×GS):=
 match σ.objs[r]? with
 |some (.loop .ready _ n φ ps asg body _)=>
  if σ.lo<=r&&args.length==ps.size&&ps.toList.all (fun t=>decide (t<n)) then
   match eK P M call (some r) n m asg ((ps.toList.zip args).foldl (fun φ p=>uL φ p.1 p.2) φ) {σ with ds:=[]} with
   |some (.normal,φ1,σ1)=>
    match σ1.objs[r]? with
    |some (.loop .ready pe' n' φ' ps' asg' body' rd')=>
     match eK P M call (some r) n m body φ1 (gset σ1 r (.loop .busy pe' n' φ' ps' asg' body' rd')) with
     |some (.normal,_,σ2)=>iF r σ.ds none σ2
     |some (.ret,_,σ2)=>iF r σ.ds (some .ret) σ2
     |some (.exit id,_,σ2)=>iF r σ.ds (some (.exit id)) σ2
     |_=>none
    |_=>none
   |_=>none
  else none
 |_=>none
abbrev s7:=FuncId->Option (List GV->GS->Option (GRes×GS))
def oX (Γ:s7):dQ:=fun t args σ=>
 match t with
 |.fn k=>match Γ k with
  |some h=>h args σ
  |none=>none
 |.yld _=>none
def j7 (P:Program) (M:FuncId->Bool) (Γ:s7):Nat->dQ
 |0=>fun _ _ _=>none
 |m+1=>fun t args σ=>
  match t with
  |.fn k=>
   match oX Γ (.fn k) args σ with
   |some r=>some r
   |none=>
    match P.funcs[k]? with
    |some fn=>
     match fn.body with
     |some c=>if M k then OM (F0 P M (j7 P M Γ m) m fn c) args σ else F0 P M (j7 P M Γ m) m fn c args σ
     |none=>none
    |none=>none
  |.yld r=>U3 P M (j7 P M Γ m) m r args σ
structure EnvSound (P:Program) (w0:World) (M:FuncId->Bool) (Γ:s7):Prop where
 dyn:kK M=false
 call:bK P w0 (oX Γ)
 pure:d6 M (oX Γ)
end
section
open Go.RowKit
variable [Globals]
section
variable {P : Program} {call : dQ} {M : FuncId → Bool} {w0 : World} {n m : Nat}
theorem BV {C:Cx} {φ:Fr} {σ:GS} {w:World} {a:Act} (hr:Rel C σ w0 w) (hf:FRel C φ a):∀(rs:List ResultVar) (vs:List GV),C3 (QQ P φ σ) rs=some vs->
  ∃us:List Value,(rs.mapM fun|ResultVar.tmp t=>(pure (a.tmps.getD t undef):Sem Value)|.cell p t=>do loadVar t (<-asAddr (a.tmps.getD p undef))).run P w=.ok us w/\VRs C vs us
 |[],vs,h=>by cases h;exact⟨[],rfl,iO⟩
 |r::rs,vs,h=>by
  simp only[C3,Option.bind_eq_some_iff,aC] at h;obtain⟨v,hv,vs',hvs,rfl⟩:=h;obtain⟨us,h1,h2⟩:=BV hr hf rs vs' hvs;have one:∃u,((fun(r:ResultVar)=>match r with|ResultVar.tmp t=>(pure (a.tmps.getD t undef):Sem Value)|.cell p t=>do loadVar t (<-asAddr (a.tmps.getD p undef))) r).run P w=.ok u w/\VR C v u:=by
   cases r with
   |tmp t=>cases hv;exact⟨_,rfl,hf t⟩
   |cell p t=>
    simp only[QQ] at hv;have hp:=hf p;revert hv;generalize φ p=gp at hp⊢;generalize hu:a.tmps.getD p undef=up at hp⊢;intro hv;cases hp with
    |ptr hb=>
     rename_i r off b;simp only[k9] at hv;split at hv
     ·rename_i cs hcs;obtain⟨_,b',vs,h1,h2,h3,_⟩:=hr.obj r _ hcs;rw[hb] at h1;cases h1;obtain⟨u,hrun,huv⟩:=mT (P:=P) (b:=b) (o:=0) (uG h2 h3) hv;rw[bM] at hrun;refine⟨u,?_,huv⟩;show((asAddr (a.tmps.getD p undef))>>=fun ad=>loadVar t ad).run P w=_;rw[hu,Sem.run_bind];exact hrun
     ·cases hv
    |rs hb hc hp hx=>rw[k9,aB (by omega)] at hv;cases hv
    |rp hb=>
     rename_i r off b;rw[k9,aA rfl] at hv;split at hv
     ·rename_i cs hcs;obtain⟨_,b',vs,h1,h2,h3,_⟩:=hr.obj r _ hcs;rw[hb] at h1;cases h1;obtain⟨u,hrun,huv⟩:=mT (P:=P) (b:=b) (o:=0) (uG h2 h3) hv;rw[bM] at hrun;refine⟨u,?_,huv⟩;show((asAddr (a.tmps.getD p undef))>>=fun ad=>loadVar t ad).run P w=_;rw[hu,Sem.run_bind];exact hrun
     ·cases hv
    |glb q off=>
     simp only[k9] at hv;split at hv
     ·rename_i cs hcs;obtain⟨u,hrun,huv⟩:=mT (P:=P) (w:=w) (C:=C) (b:=q) (o:=0) (fun j x hj=>by
       obtain⟨u,h1,h2⟩:=hr.gl q cs j x hcs hj;exact⟨u,by rw[bM];exact hr.fxc _ _ _ h1,h2 C fun _ _ _ hx=>hx⟩) hv
      rw[bM] at hrun;refine⟨u,?_,huv⟩;show((asAddr (a.tmps.getD p undef))>>=fun ad=>loadVar t ad).run P w=_;rw[hu,Sem.run_bind];exact hrun
     ·cases hv
    |snap b o us hx hvv=>
     obtain⟨u,hrun,huv⟩:=mT (P:=P) (w:=w) (b:=b) (o:=o) (fun j g hj=>⟨_,hr.fxc _ _ _ (hx j g hj),hvv j g hj⟩) hv;refine⟨u,?_,huv⟩;show((asAddr (a.tmps.getD p undef))>>=fun ad=>loadVar t ad).run P w=_;rw[hu,Sem.run_bind];exact hrun
    |_=>simp[k9] at hv
  obtain⟨u,hu1,hu2⟩:=one;exact⟨u::us,by simp only[List.mapM_cons,Sem.run_bind,hu1,Result.andThen_ok,h1,Sem.run_pure],fS hu2 h2⟩
theorem o5 {C:Cx} {φ:Fr} {σ:GS} {w:World} {a:Act} {fn:Func} {g:GV} (hr:Rel C σ w0 w) (hf:FRel C φ a) (h:o6 P fn φ σ=some g):∃v,(results fn a.tmps).run P w=.ok v w/\VR C g v:=by
 unfold o6 at h;rw[aC] at h;obtain⟨vs,hvs,rfl⟩:=h;obtain⟨us,h1,h2⟩:=BV (P:=P) hr hf _ vs hvs;refine⟨if h:us.toArray.size=1 then us.toArray[0] else .tuple us.toArray,?_,?_⟩
 ·unfold results;rw[Array.mapM_eq_mapM_toList];simp only[Sem.run_bind,Sem.run_map,Result.andThen];have e:∀(f f':ResultVar->Sem Value),f=f'->∀l:List ResultVar,(l.mapM f).run P w=(l.mapM f').run P w:=fun f f' h l=>by rw[h]
  rw[e _ _ ?_ fn.results.toList,h1]
  ·rfl
  ·funext r;cases r<;>rfl
 ·match vs,us,h2 with
  |[],us,h2=>
   have:us=[]:=aI (by simpa using h2.1);subst this;exact .tup rfl (fun j g u h=>by simp at h)
  |[v],us,h2=>
   obtain⟨u,us',rfl,hu,hus⟩:=h2.cons_inv;have:us'=[]:=aI (by simpa using hus.1);subst this;exact hu
  |v1::v2::vs,us,h2=>
   have hl:=h2.1;rw[dif_neg (by simp;rw[hl];simp)];exact .tup (by simpa using hl) (fun j g u a b=>h2.2 j g u a (by simpa using b))
def MRel (D:Cx):GMode->FrameMode->Prop
 |.ret,u=>u=.returning
 |.pan g,u=>∃v,u=.panicking [{v,recovered:=false}]/\VR D g v
 |.rcv,u=>∃v,u=.panicking [{v,recovered:=true}]
theorem MRel.mono {C D:Cx} (hl:C.le D):∀{u:GMode} {um:FrameMode},MRel C u um->MRel D u um
 |.ret,_,h=>h
 |.pan _,_,⟨v,e,h⟩=>⟨v,e,h.mono hl⟩
 |.rcv,_,h=>h
theorem MRel.ne {C:Cx}:∀{u:GMode} {um:FrameMode},MRel C u um->um≠ .run
 |.ret,_,h=>by rw[show _=_ from h];simp
 |.pan _,_,⟨v,e,h⟩=>by rw[e];simp
 |.rcv,_,⟨v,e⟩=>by rw[e];simp
theorem IG {o:Oper} {ρ:Operand->Value} {w:World} (h:u7 o.op=true):(execOp ρ o).run P w=.ok .recover w:=by
 unfold u7 at h;split at h
 ·rename_i hop;unfold execOp;rw[hop];simp[resolve,invoke,builtin]
 ·cases h
theorem oR {ops:Array Oper} {Q:Exit->Act->List Frame->World->Prop} (c₀:Frame) (cs:List Frame):∀(l:List Nat) (C:Cx) (φ φ':Fr) (u u':GMode) (um:FrameMode) (σ σ':GS) (a:Act) (w:World),
  zB P n ops l φ u σ=some (φ',u',σ')->Rel C σ w0 w->FRel C φ a->a.tmps.size=n->MRel C u um->
  (∀D a' um' w',C.le D->FRel D φ' a'->a'.tmps.size=n->a'.defers=a.defers->MRel D u' um'->Rel D σ' w0 w'->Q .normal a' ({c₀ with mode:=um'}::cs) w')->
  wpOpsS P ops Q l a ({c₀ with mode:=um}::cs) w
 |[],C,φ,φ',u,u',um,σ,σ',a,w,hg,hr,hf,hn,hm,hq=>by
  cases hg;exact hq C a um w (.refl C) hf hn rfl hm hr
 |i::l,C,φ,φ',u,u',um,σ,σ',a,w,hg,hr,hf,hn,hm,hq=>by
  simp only[zB] at hg;split at hg
  ·cases hg
  ·rename_i o ho;split at hg
   ·rename_i hc;rw[aF] at hc;obtain⟨hd,hgd⟩:=hc;have hgn:o.guard=none:=by simpa using hgd
    have hw:Region.wanted o (yielded ops a.tmps)=true:=by unfold Region.wanted;rw[hgn]
    unfold wpOpsS;simp only[ho,hw,dL];split at hg
    ·rename_i hrec;rw[IG hrec];simp only;split at hg
     ·rename_i g;obtain⟨v,rfl,hv⟩:=hm;have e:recoverD ({c₀ with mode:=.panicking [{v,recovered:=false}]}::cs)=some (v,{c₀ with mode:=.panicking [{v,recovered:=true}]}::cs):=rfl;rw[e];obtain⟨p1,p2,p3⟩:=hf.put hv hn hd;exact oR c₀ cs l C _ φ' .rcv u' _ σ σ' _ w hg hr p1 p2 ⟨v,rfl⟩ (by rw[p3];exact hq)
     ·rename_i hne;have e:recoverD ({c₀ with mode:=um}::cs)=none:=by
       cases u with
       |ret=>rw[show um=_ from hm];rfl
       |pan g=>exact absurd rfl (hne g)
       |rcv=>obtain⟨v,rfl⟩:=hm;rfl
      rw[e];obtain⟨p1,p2,p3⟩:=hf.put (.o rfl:VR C (.o .nilIface) .nilIface) hn hd;exact oR c₀ cs l C _ φ' u u' _ σ σ' _ w hg hr p1 p2 hm (by rw[p3];exact hq)
    ·split at hg
     ·rename_i g σ1 hop;obtain⟨D,nx,w',hl,hr',hnx,hrun⟩:=ET (o:=o) hr (cQ hf) (fun v=>rfl) hop;rw[hrun];have fin:∀v,VR D g v->wpOpsS P ops Q l (a.put o.dst v) ({c₀ with mode:=um}::cs) w':=fun v hv=>by
       obtain⟨p1,p2,p3⟩:=(hf.mono hl).put hv hn hd;exact oR c₀ cs l D _ φ' u u' _ σ1 σ' _ w' hg hr' p1 p2 (hm.mono hl) (fun E a' um' w'' hE=>by rw[p3];exact hq E a' um' w'' (hl.trans hE))
      rcases hnx with⟨v,rfl,hv'⟩|⟨rfl,rfl⟩
      ·exact fin v hv'
      ·exact fin undef (.any _)
     ·cases hg
   ·cases hg
theorem sR {ops:Array Oper}:∀(l:List Nat) (φ φ':Fr) (u u':GMode) (σ σ':GS),zB P n ops l φ u σ=some (φ',u',σ')->Keep σ σ'/\σ'.ds=σ.ds
 |[],φ,φ',u,u',σ,σ',hg=>by cases hg;exact⟨.refl _,rfl⟩
 |i::l,φ,φ',u,u',σ,σ',hg=>by
  simp only[zB] at hg;split at hg
  ·cases hg
  ·split at hg
   ·split at hg
    ·split at hg
     ·exact sR l _ _ _ _ _ _ hg
     ·exact sR l _ _ _ _ _ _ hg
    ·split at hg
     ·rename_i g σ1 hop;obtain⟨h1,h2⟩:=sR l _ _ _ _ _ _ hg;exact⟨(K0 hop).trans h1,h2.trans (U5 hop)⟩
     ·cases hg
   ·cases hg
def a1D (w0:World) (C:Cx) (Q:Exit->Act->List Frame->World->Prop) (c₀:Frame) (cs:List Frame) (n:Nat) (x:GX) (φ':Fr) (u':GMode) (σ':GS):Prop:=
 ∀D a' um' w',C.le D->FRel D φ' a'->a'.tmps.size=n->DRel D σ'.ds a'.defers->MRel D u' um'->Rel D σ' w0 w'->
  match x with
  |.normal=>Q .normal a' ({c₀ with mode:=um'}::cs) w'
  |.exit id=>Q (.exit id) a' ({c₀ with mode:=um'}::cs) w'
  |.ret=>Q .ret a' ({c₀ with mode:=um'}::cs) w'
  |.panic g=>∀v,VR D g v->Q (.panic [{v,recovered:=false}]) a' ({c₀ with mode:=um'}::cs) w'
theorem HD (hm:P.follows .mixedOrders=true) (hcall:bK P w0 call) (hpure:d6 M call) (c₀:Frame) (cs:List Frame):∀(c:Code) (Q:Exit->Act->List Frame->World->Prop) (C:Cx) (φ φ':Fr) (u u':GMode) (um:FrameMode) (σ σ':GS) (x:GX) (a:Act) (w:World),
  kF P M call n m c φ u σ=some (x,φ',u',σ')->Rel C σ w0 w->FRel C φ a->a.tmps.size=n->DRel C σ.ds a.defers->MRel C u um->a1D w0 C Q c₀ cs n x φ' u' σ'->c.wpS P Q a ({c₀ with mode:=um}::cs) w:=by
 have plain:∀(c:Code) (Q:Exit->Act->List Frame->World->Prop) (C:Cx) (φ φ':Fr) (u u':GMode) (um:FrameMode) (σ σ':GS) (x:GX) (a:Act) (w:World),
   (eK P M call none n m c φ σ).map (fun(q:GX×Fr×GS)=>(q.1,q.2.1,u,q.2.2))=some (x,φ',u',σ')->Rel C σ w0 w->FRel C φ a->a.tmps.size=n->DRel C σ.ds a.defers->MRel C u um->a1D w0 C Q c₀ cs n x φ' u' σ'->
   c.wpS P Q a ({c₀ with mode:=um}::cs) w:=by
  intro c Q C φ φ' u u' um σ σ' x a w h hr hf hn hd hmr hq;rw[aC] at h;obtain⟨⟨y,ψ,τ⟩,h1,h2⟩:=h;cases h2;refine wpS_of_wp (wpIn_wide (n:=0).1 (l7 (ro:=none) hm hcall hpure c _ C none φ ψ σ τ y a w h1 trivial hr hf hn hd (fun D a' w' hl hf' hn' hd' hr'=>?_)));have:=hq D a' um w' hl hf' hn' hd' (hmr.mono hl) hr';cases y<;>exact this
 intro c;induction c with
 |seq c1 c2 ih1 ih2=>
  intro Q C φ φ' u u' um σ σ' x a w h hr hf hn hd hmr hq;simp only[kF] at h;refine wpS_seq ?_;split at h
  ·rename_i φ1 u1 σ1 h1;refine ih1 _ C φ φ1 u u1 um σ σ1 _ a w h1 hr hf hn hd hmr (fun D a1 um1 w1 hl hf1 hn1 hd1 hm1 hr1=>?_);exact ih2 Q D φ1 φ' u1 u' um1 σ1 σ' x a1 w1 h hr1 hf1 hn1 hd1 hm1 (fun E a' um' w' hE=>hq E a' um' w' (hl.trans hE))
  ·rename_i hne;refine ih1 _ C φ φ' u u' um σ σ' x a w h hr hf hn hd hmr (fun D a1 um1 w1 hl hf1 hn1 hd1 hm1 hr1=>?_);have:=hq D a1 um1 w1 hl hf1 hn1 hd1 hm1 hr1;cases x with
   |normal=>exact absurd h (hne _ _ _)
   |exit id=>exact this
   |ret=>exact this
   |panic g=>exact this
 |cond c c1 c2 ih1 ih2=>
  intro Q C φ φ' u u' um σ σ' x a w h hr hf hn hd hmr hq;simp only[kF] at h;split at h
  ·rename_i t ht;have hv:=cQ hf c;rw[ht] at hv;generalize hu:a.eval c=v at hv;cases hv;refine wpS_cond hu ?_;cases t with
   |true=>exact ih1 Q C φ φ' u u' um σ σ' x a w (by simpa using h) hr hf hn hd hmr hq
   |false=>exact ih2 Q C φ φ' u u' um σ σ' x a w (by simpa using h) hr hf hn hd hmr hq
  ·cases h
 |region id ops draw=>
  intro Q C φ φ' u u' um σ σ' x a w h hr hf hn hd hmr hq;simp only[kF] at h;split at h
  ·rename_i hc;rw[aF] at hc;have hdr:draw=false:=by simpa using hc.1
   subst hdr;rw[aC] at h;obtain⟨⟨ψ,v,τ⟩,h1,h2⟩:=h;cases h2;refine wpS_region (oR c₀ cs _ C φ ψ u v um σ τ a w h1 hr hf hn hmr (fun D a' um' w' hl hf' hn' hd' hm' hr'=>?_));exact hq D a' um' w' hl hf' hn' (by rw[hd',(sR _ _ _ _ _ _ _ h1).2];exact hd.mono hl) hm' hr'
  ·exact plain _ Q C φ φ' u u' um σ σ' x a w h hr hf hn hd hmr hq
 |_=>
  intro Q C φ φ' u u' um σ σ' x a w h hr hf hn hd hmr hq;exact plain _ Q C φ φ' u u' um σ σ' x a w (by simpa only[kF] using h) hr hf hn hd hmr hq
theorem KF (hcall:bK P w0 call):∀(c:Code) (φ φ':Fr) (u u':GMode) (σ σ':GS) (x:GX),kF P M call n m c φ u σ=some (x,φ',u',σ')->Keep σ σ':=by
 have plain:∀(c:Code) (φ φ':Fr) (u u':GMode) (σ σ':GS) (x:GX),(eK P M call none n m c φ σ).map (fun(q:GX×Fr×GS)=>(q.1,q.2.1,u,q.2.2))=some (x,φ',u',σ')->Keep σ σ':=by
  intro c φ φ' u u' σ σ' x h;rw[aC] at h;obtain⟨⟨y,ψ,τ⟩,h1,h2⟩:=h;cases h2;exact rM hcall c _ _ _ _ _ h1
 intro c;induction c with
 |seq c1 c2 ih1 ih2=>
  intro φ φ' u u' σ σ' x h;simp only[kF] at h;split at h
  ·rename_i h1;exact(ih1 _ _ _ _ _ _ _ h1).trans (ih2 _ _ _ _ _ _ _ h)
  ·exact ih1 _ _ _ _ _ _ _ h
 |cond c c1 c2 ih1 ih2=>
  intro φ φ' u u' σ σ' x h;simp only[kF] at h;split at h
  ·split at h
   ·exact ih1 _ _ _ _ _ _ _ h
   ·exact ih2 _ _ _ _ _ _ _ h
  ·cases h
 |region id ops draw=>
  intro φ φ' u u' σ σ' x h;simp only[kF] at h;split at h
  ·rw[aC] at h;obtain⟨⟨ψ,v,τ⟩,h1,h2⟩:=h;cases h2;exact(sR _ _ _ _ _ _ _ h1).1
  ·exact plain _ _ _ _ _ _ _ _ h
 |_=>
  intro φ φ' u u' σ σ' x h;exact plain _ _ _ _ _ _ _ _ (by simpa only[kF] using h)
theorem r8 {C:Cx} {fn:Func} {args:List GV} {vs:Array Value} (hlen:args.length<=fn.ntmps) (hv:VRs C args vs.toList):
  FRel C (lJ args) {tmps:=vs++Array.replicate (fn.ntmps - vs.size) undef,defers:=[]}/\(vs++Array.replicate (fn.ntmps - vs.size) undef).size=fn.ntmps:=by
 have hs:vs.size=args.length:=by have:=hv.1;simpa using this
 refine⟨fun t=>?_,by simp;omega⟩;show VR C (args.getD t (.tup [])) ((vs++Array.replicate (fn.ntmps - vs.size) undef).getD t undef);rw[aP,aL];by_cases ht:t<args.length
 ·rw[Array.getElem?_append_left (by omega),gL ht,aK (by omega)];exact hv.2 t _ _ (gL ht) (by rw[bJ];exact aK (by omega))
 ·rw[b6 (by omega),Array.getElem?_append_right (by omega),dV];split<;>exact qQ C
theorem DRel.nil {C:Cx}:∀{gs:List GDef} {ds:List Deferred},DRel C gs ds->gs.isEmpty=true->ds=[]
 |[],[],_,_=>rfl
theorem zP (hm:P.follows .mixedOrders=true) (hcall:bK P w0 call) (hpure:d6 M call) {k:FuncId} {args:List GV} {u u':GMode} {σ σ':GS} {r:GRes}
  (h:nR P M call m k args u σ=some (r,u',σ')):iL P k=true/\Keep σ σ'/\σ'.ds=σ.ds/\∀C w (vs:Array Value) um,Rel C σ w0 w->VRs C args vs.toList->MRel C u um->
   CallsD P k vs um w fun e um' w'=>∃D,C.le D/\Rel D σ' w0 w'/\ERel D r e/\MRel D u' um':=by
 unfold nR at h;split at h
 ·rename_i fn hfn;split at h
  ·rename_i c hb;split at h
   ·rename_i hc;simp only[aF,aH] at hc;obtain⟨hlen,hk⟩:=hc;have fin:∀{x:GX} {φ:Fr} {u1:GMode} {σ1:GS},kF P M call fn.ntmps m c (lJ args) u {σ with ds:=[]}=some (x,φ,u1,σ1)->σ1.ds.isEmpty=true->σ'={σ1 with ds:=σ.ds}->u'=u1->
      (∀D (a':Act) w',FRel D φ a'->Rel D σ1 w0 w'->match x with
       |.normal=>∃v,(results fn a'.tmps).run P w'=.ok v w'/\ERel D r (.returned v)
       |.ret=>∃v,(results fn a'.tmps).run P w'=.ok v w'/\ERel D r (.returned v)
       |.exit _=>False
       |.panic g=>∀v,VR D g v->ERel D r (.panicked [{v,recovered:=false}]))->
      Keep σ σ'/\σ'.ds=σ.ds/\∀C w (vs:Array Value) um,Rel C σ w0 w->VRs C args vs.toList->MRel C u um->
       CallsD P k vs um w fun e um' w'=>∃D,C.le D/\Rel D σ' w0 w'/\ERel D r e/\MRel D u' um':=by
     intro x φ u1 σ1 hg hemp e1 e2 hfin;subst e1;subst e2;refine⟨(KF hcall _ _ _ _ _ _ _ _ hg).dsl.dsr,rfl,fun C w vs um hr hv hmr=>?_⟩;obtain⟨p1,p2⟩:=r8 (fn:=fn) hlen hv;refine callsD_of_wpS hfn hb (fun c₀ cs hu=>?_);have e0:c₀={c₀ with mode:=um}:=by subst hu;rfl
     rw[e0];refine HD hm hcall hpure c₀ cs c _ C _ φ u u' um _ σ1 x _ w hg (hr.ds _) p1 p2 trivial hmr (fun D a' um' w' hl hf' hn' hd' hm' hr'=>?_);have hd0:=hd'.nil hemp;have:=hfin D a' w' hf' hr';cases x with
     |normal=>
      obtain⟨v,h1,h2⟩:=this;exact⟨hd0,um',rfl,v,h1,D,hl,hr'.ds _,h2,hm'⟩
     |ret=>
      obtain⟨v,h1,h2⟩:=this;exact⟨hd0,um',rfl,v,h1,D,hl,hr'.ds _,h2,hm'⟩
     |exit id=>exact this.elim
     |panic g=>exact fun v hv=>⟨hd0,um',rfl,D,hl,hr'.ds _,this v hv,hm'⟩
    refine⟨hk,?_⟩;split at h
    ·rename_i φ u1 σ1 hg;split at h
     ·rename_i hemp;rw[aC] at h;obtain⟨g,hres,e⟩:=h;cases e;refine fin hg hemp rfl rfl (fun D a' w' hf' hr'=>?_);obtain⟨v,h1,h2⟩:=o5 hr' hf' hres;exact⟨v,h1,v,rfl,h2⟩
     ·cases h
    ·rename_i φ u1 σ1 hg;split at h
     ·rename_i hemp;rw[aC] at h;obtain⟨g,hres,e⟩:=h;cases e;refine fin hg hemp rfl rfl (fun D a' w' hf' hr'=>?_);obtain⟨v,h1,h2⟩:=o5 hr' hf' hres;exact⟨v,h1,v,rfl,h2⟩
     ·cases h
    ·rename_i g φ u1 σ1 hg;split at h
     ·rename_i hemp;cases h;exact fin hg hemp rfl rfl (fun D a' w' hf' hr' v hv=>⟨v,rfl,hv⟩)
     ·cases h
    ·cases h
   ·cases h
  ·cases h
 ·cases h
theorem nH (hm:P.follows .mixedOrders=true) (hcall:bK P w0 call) (hpure:d6 M call) {fn:Func} {φ:Fr} {r:GRes} {σ':GS} {tmps:Array Value} {R:Ending->World->Prop}:
  ∀(gs:List GDef) (u:GMode) (σ:GS),iJ P M call m fn φ gs u σ=some (r,σ')->Keep σ σ'/\
   ∀C w dl um,Rel C σ w0 w->(∀t,VR C (φ t) (tmps.getD t undef))->DRel C gs dl->MRel C u um->(∀D e w',C.le D->Rel D σ' w0 w'->ERel D r e->R e w')->mH P fn tmps R dl um w:=by
 intro gs;induction gs with
 |nil=>
  intro u σ h;cases u with
  |ret=>
   simp only[iJ,aC] at h;obtain⟨g,hres,e⟩:=h;cases e;refine⟨.refl _,fun C w dl um hr hf hd hmr hR=>?_⟩;have e1:dl=[]:=hd.nil rfl;have e2:um=.returning:=hmr;subst e1;subst e2;obtain⟨v,h1,h2⟩:=o5 (a:={tmps:=tmps,defers:=[]}) hr hf hres;exact⟨v,h1,hR C _ w (.refl C) hr ⟨v,rfl,h2⟩⟩
  |pan g=>
   simp only[iJ] at h;cases h;refine⟨.refl _,fun C w dl um hr hf hd hmr hR=>?_⟩;have e1:dl=[]:=hd.nil rfl;obtain⟨v,e2,hv⟩:=hmr;subst e1;subst e2;exact hR C _ w (.refl C) hr ⟨v,rfl,hv⟩
  |rcv=>cases h
 |cons d gs ih=>
  intro u σ h;cases d with
  |coll q=>
   simp only[iJ] at h;split at h
   ·rename_i ho;split at h
    ·rename_i hlo;obtain⟨k1,ih'⟩:=ih u _ h;refine⟨(Keep.gset σ _ hlo ho (by simp)).trans k1,fun C w dl um hr hf hd hmr hR=>?_⟩;cases dl with
     |nil=>exact hd.elim
     |cons d dl=>
     obtain⟨⟨b,hb,rfl⟩,hd2⟩:=hd;obtain⟨h0,b',h1,h2⟩:=hr.obj q _ ho;rw[hb] at h1;cases h1;have hlt:b<w.heap.size:=(Array.getElem?_eq_some_iff.1 h2).1;have hr2:Rel C (gset σ q .dead) w0 (w.putObj b (.deferred none)):=hr.putLoop (List.getElem?_eq_some_iff.1 ho).1 hb .dead ⟨.inr h0,fun b' hb'=>by
      rw[dM hb] at hb';cases hb';simpa[World.putObj] using hlt⟩
     exact⟨hmr.ne,.inl ⟨b,_,rfl,run_takeDeferred h2,ih' C _ dl um hr2 hf hd2 hmr hR⟩⟩
    ·cases h
   ·cases h
  |fn k args cap=>
   simp only[iJ] at h;have step:∀{r1:GRes} {u1 u2:GMode} {σ1:GS},nR P M call m k (args++cap) u σ=some (r1,u1,σ1)->iJ P M call m fn φ gs u2 σ1=some (r,σ')->
     (∀(D:Cx) (e:Ending) (um1:FrameMode),ERel D r1 e->MRel D u1 um1->match e with
      |.returned _=>MRel D u2 (settle um1)
      |.panicked chain=>MRel D u2 (raised um1 chain)
      |.outgrown=>False)->
     Keep σ σ'/\∀C w dl um,Rel C σ w0 w->(∀t,VR C (φ t) (tmps.getD t undef))->DRel C (.fn k args cap::gs) dl->MRel C u um->(∀D e w',C.le D->Rel D σ' w0 w'->ERel D r e->R e w')->mH P fn tmps R dl um w:=by
    intro r1 u1 u2 σ1 hd1 hrest hmode;obtain⟨hk,k1,ds1,hc⟩:=zP hm hcall hpure hd1;obtain⟨k2,ih'⟩:=ih u2 σ1 hrest;refine⟨k1.trans k2,fun C w dl um hr hf hd hmr hR=>?_⟩;cases dl with
    |nil=>exact hd.elim
    |cons d dl=>
    obtain⟨⟨va,vc,rfl,e1,e2⟩,hd2⟩:=hd;refine⟨hmr.ne,.inr ⟨.func k,vc,k,va++vc,rfl,by simp[invoke,nK hk],?_⟩⟩;refine(hc C w (va++vc) um hr (by rw[Array.toList_append];exact e1.append e2) hmr).mono ?_;rintro e um1 w1 ⟨D,hl,hr1,he,hm1⟩;have hmo:=hmode D e um1 he hm1;cases e with
    |returned v=>exact ih' D w1 dl _ hr1 (fun t=>(hf t).mono hl) (hd2.mono hl) hmo (fun E e w' hE=>hR E e w' (hl.trans hE))
    |panicked chain=>exact ih' D w1 dl _ hr1 (fun t=>(hf t).mono hl) (hd2.mono hl) hmo (fun E e w' hE=>hR E e w' (hl.trans hE))
    |outgrown=>exact hmo.elim
   split at h
   ·rename_i g σ1 hd1;refine step hd1 h (fun D e um1 he hm1=>?_);obtain⟨v,rfl,hv⟩:=he;obtain⟨v',rfl⟩:=hm1;exact rfl
   ·rename_i g u1 σ1 hne hd1;refine step hd1 h (fun D e um1 he hm1=>?_);obtain⟨v,rfl,hv⟩:=he;cases u1 with
    |ret=>rw[show um1=_ from hm1];exact rfl
    |pan g=>obtain⟨v',rfl,h2⟩:=hm1;exact⟨v',rfl,h2⟩
    |rcv=>exact absurd rfl hne
   ·rename_i g σ1 hd1;refine step hd1 h (fun D e um1 he hm1=>?_);obtain⟨v,rfl,hv⟩:=he;rw[show um1=_ from hm1];exact⟨v,rfl,hv⟩
   ·cases h
theorem tI (hm:P.follows .mixedOrders=true) (hcall:bK P w0 call) (hpure:d6 M call) {k:FuncId} {fn:Func} {c:Code} (hfn:P.funcs[k]?=some fn) (hb:fn.body=some c)
  {args:List GV} {σ σ':GS} {r:GRes} (h:F0 P M call m fn c args σ=some (r,σ')):
  Keep σ σ'/\σ'.ds=σ.ds/\∀C w (vs:Array Value),Rel C σ w0 w->VRs C args vs.toList->Calls P k vs w fun e w'=>∃D,C.le D/\Rel D σ' w0 w'/\ERel D r e:=by
 unfold F0 at h;split at h
 ·rename_i hlen;have fin:∀{x:GX} {φ':Fr} {σ1:GS} (u:GMode),eK P M call none fn.ntmps m c (lJ args) {σ with ds:=[]}=some (x,φ',σ1)->((iJ P M call m fn φ' σ1.ds u σ1).map fun q=>(q.1,{q.2 with ds:=σ.ds}))=some (r,σ')->
    (match x with
     |.normal=>u=.ret
     |.ret=>u=.ret
     |.exit id=>False
     |.panic g=>u=.pan g)->
    Keep σ σ'/\σ'.ds=σ.ds/\∀C w (vs:Array Value),Rel C σ w0 w->VRs C args vs.toList->Calls P k vs w fun e w'=>∃D,C.le D/\Rel D σ' w0 w'/\ERel D r e:=by
   intro x φ' σ1 u hg hl hu;rw[aC] at hl;obtain⟨⟨r0,σ2⟩,hlv,e⟩:=hl;cases e;refine⟨((rM hcall _ _ _ _ _ _ hg).dsl.trans (nH (tmps:= #[]) (R:=fun _ _=>True) hm hcall hpure _ _ _ hlv).1).dsr,rfl,fun C w vs hr hv=>?_⟩;obtain⟨h1,h2⟩:=r8 (fn:=fn) hlen hv;refine rS hfn hb (wpIn_wide (n:=0).1 (l7 (ro:=none) hm hcall hpure c _ C none _ φ' _ σ1 x _ w hg trivial (hr.ds _) h1 h2 trivial (fun D a' w' hl hf' hn' hd' hr'=>?_)));have hfin:∀E e w'',D.le E->Rel E σ2 w0 w''->ERel E r0 e->∃D,C.le D/\Rel D {σ2 with ds:=σ.ds} w0 w''/\ERel D r0 e:=fun E e w'' hE hrE he=>⟨E,hl.trans hE,hrE.ds _,he⟩;have lv:=(nH (tmps:=a'.tmps) (R:=fun e w''=>∃D,C.le D/\Rel D {σ2 with ds:=σ.ds} w0 w''/\ERel D r0 e) hm hcall hpure _ _ _ hlv).2 D w' a'.defers;cases x with
   |normal=>subst hu;exact lv .returning hr' hf' hd' rfl hfin
   |ret=>subst hu;exact lv .returning hr' hf' hd' rfl hfin
   |exit id=>exact hu.elim
   |panic g=>subst hu;exact fun v hv=>lv (.panicking [{v,recovered:=false}]) hr' hf' hd' ⟨v,rfl,hv⟩ hfin
  split at h
  ·rename_i φ' σ1 hg;exact fin .ret hg h rfl
  ·rename_i φ' σ1 hg;exact fin .ret hg h rfl
  ·rename_i g φ' σ1 hg;exact fin (.pan g) hg h rfl
  ·cases h
 ·cases h
theorem yF {C:Cx} {n:Nat}:∀(ps:List Tmp) (args:List GV) (vs:List Value) (φ:Fr) (tmps:Array Value),VRs C args vs->(∀t∈ps,t<n)->(∀t,VR C (φ t) (tmps.getD t undef))->tmps.size=n->
  (∀t,VR C (((ps.zip args).foldl (fun φ p=>uL φ p.1 p.2) φ) t) (((ps.zip vs).foldl (fun(tmps:Array Value) p=>tmps.setIfInBounds p.1 p.2) tmps).getD t undef))/\((ps.zip vs).foldl (fun(tmps:Array Value) p=>tmps.setIfInBounds p.1 p.2) tmps).size=n
 |[],args,vs,φ,tmps,hv,hp,hf,hs=>⟨hf,hs⟩
 |p::ps,[],vs,φ,tmps,hv,hp,hf,hs=>by
  have:vs=[]:=aI hv.1;subst this;exact⟨hf,hs⟩
 |p::ps,g::args,vs,φ,tmps,hv,hp,hf,hs=>by
  obtain⟨v,vs',rfl,h1,h2⟩:=hv.cons_inv;have hput:=FRel.put (a:={tmps:=tmps,defers:=[]}) (d:=some p) hf h1 (n:=n) hs (by simpa using hp p (by simp));simp only[List.zip_cons_cons,List.foldl_cons];exact yF ps args vs' _ _ h2 (fun t ht=>hp t (by simp[ht])) hput.1 hput.2.1
theorem nB {C:Cx} {r b:Nat} {ds:List GDef} {jump:Option Code} {σ σ':GS} {w:World} {res:GRes} (hlo:σ.lo<=r) (h:iF r ds jump σ=some (res,σ')):
  Keep σ σ'/\σ'.ds=ds/\(Rel C σ w0 w->C.bk r=some b->∃v w',(Instr.endRound b jump).run P w=.ok v w'/\∃D,C.le D/\Rel D σ' w0 w'/\ERel D res (.returned v)):=by
 unfold iF at h;split at h
 ·rename_i ho;cases h;refine⟨(Keep.gset σ _ hlo ho (by simp)).dsr,rfl,fun hr hb=>?_⟩;obtain⟨h0,b',L,h1,h2,h3,h4,h5,h6,h7,h8,h9,h10⟩:=hr.obj r _ ho;rw[hb] at h1;cases h1;have hlt:b<w.heap.size:=(Array.getElem?_eq_some_iff.1 h2).1;refine⟨_,_,run_endRound jump h2,C,.refl C,Rel.ds (hr.putLoop (List.getElem?_eq_some_iff.1 ho).1 hb _ ?_) _,_,rfl,.b _⟩;exact⟨h0,b,_,hb,World.putObj_heap_same hlt,rfl,rfl,h5,h6,h7,h8,h9,h10⟩
 ·cases h
theorem MI (hm:P.follows .mixedOrders=true) (hcall:bK P w0 call) (hpure:d6 M call) {r:Nat} {args:List GV} {σ σ':GS} {res:GRes} (h:U3 P M call m r args σ=some (res,σ')):
  Keep σ σ'/\σ'.ds=σ.ds/\∀C w (vs:Array Value),Rel C σ w0 w->VRs C args vs.toList->P4 P C (.yld r) vs w fun e w'=>∃D,C.le D/\Rel D σ' w0 w'/\ERel D res e:=by
 unfold U3 at h;split at h
 ·rename_i ho;rename_i pe n φ ps asg body rd;split at h
  ·rename_i hc;simp only[aF,aH,bU,aZ] at hc;obtain⟨⟨hlo,hlen⟩,hps⟩:=hc;split at h
   ·rename_i φ1 σ1 hasg;split at h
    ·rename_i ho1;rename_i pe' n' φ' ps' asg' body' rd';have k1:=(rM hcall _ _ _ _ _ _ hasg).dsl;have hlo1:σ1.lo<=r:=by rw[k1.lo];exact hlo
     have fin:∀{x:GX} {φ2:Fr} {σ2:GS} {jump:Option Code},eK P M call (some r) n m body φ1 (gset σ1 r (.loop .busy pe' n' φ' ps' asg' body' rd'))=some (x,φ2,σ2)->iF r σ.ds jump σ2=some (res,σ')->
       (match x with
        |.normal=>jump=none
        |.ret=>jump=some .ret
        |.exit id=>jump=some (.exit id)
        |.panic _=>False)->
       Keep σ σ'/\σ'.ds=σ.ds/\∀C w (vs:Array Value),Rel C σ w0 w->VRs C args vs.toList->P4 P C (.yld r) vs w fun e w'=>∃D,C.le D/\Rel D σ' w0 w'/\ERel D res e:=by
      intro x φ2 σ2 jump hbody hend hx;have k2:=rM hcall _ _ _ _ _ _ hbody;have hlo2:σ2.lo<=r:=by rw[k2.lo];exact hlo1
      obtain⟨k3,d3,_⟩:=nB (P:=P) (w0:=w0) (C:=⟨fun _ _ _=>False,fun _=>none,fun _=>none,fun _=>none,fun _=>False,fun _ _ _=>False⟩) (b:=0) (w:=w0) hlo2 hend;refine⟨k1.trans ((Keep.gset σ1 _ hlo1 ho1 (by simp)).trans (k2.trans k3)),d3,fun C w vs hr hv b hb=>?_⟩;obtain⟨h0,b',L,h1,h2,h3,h4,h5,h6,h7,h8,h9,h10⟩:=hr.obj r _ ho;rw[hb] at h1;cases h1;have hvs:vs.size=L.params.size:=by rw[h5,<-hlen];have:=hv.1;simpa using this
      refine⟨L.fn,_,L.assign,L.body,run_yield h2 hvs,?_⟩;obtain⟨q1,q2⟩:=yF ps.toList args vs.toList φ L.tmps hv hps h9 h8;have etm:(L.params.zip vs).foldl (fun(tmps:Array Value) (x:Tmp×Value)=>tmps.setIfInBounds x.1 x.2) L.tmps=(ps.toList.zip vs.toList).foldl (fun(tmps:Array Value) p=>tmps.setIfInBounds p.1 p.2) L.tmps:=by
       rw[h5,<-Array.foldl_toList,Array.toList_zip]
      refine roundIn_of_wpIn (F:=Fence.wide) trivial ?_;rw[h6,h7];show Code.wpIn (FW (some b)) 0 P asg _ _ w;refine l7 (ro:=some r) hm hcall hpure asg _ C (some b) _ φ1 _ σ1 .normal _ w hasg hb (hr.ds _) (by rw[etm];exact q1) (by rw[etm];exact q2) trivial (fun D a1 w1 hl hf1 hn1 hd1 hr1=>?_);have hbD:D.bk r=some b:=hl.bk _ _ hb;obtain⟨g0,b',L1,g1,g2,g3,g4,g5,g6,g7,g8,g9,g10⟩:=hr1.obj r _ ho1;rw[hbD] at g1;cases g1;have hlt:b<w1.heap.size:=(Array.getElem?_eq_some_iff.1 g2).1;refine⟨_,run_beginRound g2 g3,?_⟩;have hr2:Rel D (gset σ1 r (.loop .busy pe' n' φ' ps' asg' body' rd')) w0 (w1.putObj b (.loop {L1 with state:=.busy})):=
       hr1.putLoop (List.getElem?_eq_some_iff.1 ho1).1 hbD _ ⟨g0,b,_,hbD,World.putObj_heap_same hlt,rfl,g4,g5,g6,g7,g8,g9,g10⟩
      show Code.wpIn (FW (some b)) 0 P body _ _ _;refine l7 (ro:=some r) hm hcall hpure body _ D (some b) _ φ2 _ σ2 x _ _ hbody hbD hr2 hf1 hn1 hd1 (fun E a2 w2 hE hf2 hn2 hd2 hr3=>?_);obtain⟨v,w3,p1,F,p2,p3,p4⟩:=(nB (P:=P) (w0:=w0) (C:=E) (b:=b) (w:=w2) hlo2 hend).2.2 hr3 (hE.bk _ _ hbD);have hR:∃D,C.le D/\Rel D σ' w0 w3/\ERel D res (.returned v):=⟨F,(hl.trans hE).trans p2,p3,p4⟩;cases x with
      |normal=>subst hx;exact⟨v,w3,p1,hR⟩
      |ret=>subst hx;exact⟨v,w3,p1,hR⟩
      |exit id=>subst hx;exact⟨v,w3,p1,hR⟩
      |panic g=>exact hx.elim
     split at h
     ·rename_i hb;exact fin hb h rfl
     ·rename_i hb;exact fin hb h rfl
     ·rename_i hb;exact fin hb h rfl
     ·cases h
    ·cases h
   ·cases h
  ·cases h
 ·cases h
theorem z8 {k:FuncId} {f:List GV->GS->Option (GRes×GS)}
  (hf:∀args σ r σ',f args σ=some (r,σ')->Keep σ σ'/\σ'.ds=σ.ds/\∀C w (vs:Array Value),Rel C σ w0 w->VRs C args vs.toList->Calls P k vs w fun e w'=>∃D,C.le D/\Rel D σ' w0 w'/\ERel D r e)
  {args:List GV} {σ σ':GS} {r:GRes} (h:OM f args σ=some (r,σ')):
  σ'=σ/\∀C w (vs:Array Value),Rel C σ w0 w->VRs C args vs.toList->Calls P k vs w fun e w'=>∃D,C.le D/\Rel D σ' w0 w'/\ERel D r e:=by
 have fin:∀{r0:GRes} {σ1:GS},f (args.map GV.pur) {objs:=σ.objs,lo:=σ.objs.length}=some (r0,σ1)->(∀(D:Cx) e,ERel D r0 e->ERel (D.cut σ.objs.length) r e)->
   ∀C w (vs:Array Value),Rel C σ w0 w->VRs C args vs.toList->Calls P k vs w fun e w'=>∃D,C.le D/\Rel D σ w0 w'/\ERel D r e:=by
  intro r0 σ1 hr0 he C w vs hr hv;obtain⟨hk,_,hc⟩:=hf _ _ _ _ hr0;refine(hc C w vs (((hr.lo σ.objs.length).ds []):Rel C {objs:=σ.objs,lo:=σ.objs.length} w0 w) hv.pur).mono ?_;rintro e w' ⟨D,hl,hr',her⟩;obtain⟨h1,h2⟩:=hr.cut hl hr' (fun q hq=>hk.old (rL _) q hq);exact⟨_,h1,h2,he D e her⟩
 unfold OM at h;split at h
 ·rename_i g σ1 hg;split at h
  ·rename_i hbel;cases h;exact⟨rfl,fin hg (fun D e ⟨v,h1,h2⟩=>⟨v,h1,h2.pur.cut hbel⟩)⟩
  ·cases h
 ·rename_i g σ1 hg;split at h
  ·rename_i hbel;cases h;exact⟨rfl,fin hg (fun D e ⟨v,h1,h2⟩=>⟨v,h1,h2.pur.cut hbel⟩)⟩
  ·cases h
 ·cases h
theorem t8 (hm:P.follows .mixedOrders=true) {Γ:s7} (hΓ:EnvSound P w0 M Γ):∀m:Nat,bK P w0 (j7 P M Γ m)/\d6 M (j7 P M Γ m)
 |0=>⟨fun k args σ r σ' h=>(by cases h),fun k hk t ht args σ r σ' h=>(by cases h)⟩
 |m+1=>by
  obtain⟨ih1,ih2⟩:=t8 hm hΓ m;refine⟨fun t args σ r σ' h=>?_,fun k hk t ht args σ r σ' h=>?_⟩
  ·cases t with
   |yld q=>exact MI hm ih1 ih2 h
   |fn k=>
   simp only[j7] at h;split at h
   ·rename_i hk;cases h;exact hΓ.call (.fn k) args σ r σ' hk
   ·split at h
    ·rename_i fn hfn;split at h
     ·rename_i c hb;split at h
      ·obtain⟨e,hc⟩:=z8 (P:=P) (w0:=w0) (k:=k) (fun args σ r σ' h=>tI hm ih1 ih2 hfn hb h) h;subst e;exact⟨.refl _,rfl,hc⟩
      ·exact tI hm ih1 ih2 hfn hb h
     ·cases h
    ·cases h
  ·have hk:=hk.resolve_right (by rw[hΓ.dyn];simp);have ht:=ht.resolve_right (by rw[hΓ.dyn];simp);subst ht;simp only[j7] at h;split at h
   ·rename_i hkk;cases h;exact hΓ.pure k (.inl hk) _ (.inl rfl) args σ r σ' hkk
   ·split at h
    ·rename_i fn hfn;split at h
     ·rename_i c hb;rw[aA hk] at h;exact(z8 (P:=P) (w0:=w0) (k:=k) (fun args σ r σ' h=>tI hm ih1 ih2 hfn hb h) h).1
     ·cases h
    ·cases h
end
end
