/- Part of ViewWrong. -/
import Derived.Test.YtimgfjldcdhejaaGreatDoorK5
import Derived.Tactics
import Derived.TacticsIn
import Derived.RangeFuncLeaves
import Derived.RangeFuncRecord
import Derived.RangeFuncSeq
import Derived.KernelRfl
import Derived.Lib.Bytealg
import Derived.Laws.Externs
set_option linter.all false
namespace Go.Proofs.YtimgfjldcdhejaaGreatDoor
open Go.RowKit
variable [Globals]
inductive GRes where
 |val (g:GV)
 |panic (g:GV)
inductive GX where
 |normal
 |exit (id:Nat)
 |ret
 |panic (g:GV)
abbrev Fr:=Nat->GV
def KK (φ:Fr) (d:Nat) (g:GV):Fr:=fun t=>if t=d then g else φ t
def iV (φ:Fr) (d:Option Tmp) (g:GV):Fr:=
 match d with
 |some d=>KK φ d g
 |none=>φ
inductive Tgt where
 |fn (k:FuncId)
 |yld (r:Nat)
abbrev fQ:=Tgt->List GV->GS->Option (GRes×GS)
def mC (P:Program) (k:FuncId):Bool:=
 match P.funcs[k]? with
 |some fn=>fn.body.isSome&&!(fn.name== "runtime.NumGoroutine")
 |none=>false
def HV (P:Program) (k:FuncId) (args:List GV):Option GV:=
 match P.funcs[k]? with
 |some fn=>
  if fn.body.isNone&&fn.origin== "" then
   if fn.name== "internal/abi.NoEscape" then
    match args with
    |[x]=>some x
    |_=>none
   else if fn.name== "internal/bytealg.IndexByteString" then
    match args with
    |[.s l,.i .u8 c]=>some (.i .i64 (Lib.indexByte l c.toNat.toUInt8))
    |_=>none
   else none
  else none
 |none=>none
def HU (P:Program) (t:TypeId) (name:String):Option FuncId:=
 match P.info? t with
 |some i=>match i.methods.find? (·.name==name) with
  |some m=>match m.func with
   |some (f,p)=>if m.path.isEmpty&&(p==(gT P t==some 4))&&(gT P t).isSome then some f else none
   |none=>none
  |none=>none
 |none=>none
def CE (ops:Array Oper) (φ:Fr) (j:Nat):Option (Option Bool):=
 match(ops[j]?).bind (·.dst) with
 |some d=>match φ d with
  |.b t=>some (some t)
  |.tup []=>some none
  |_=>none
 |none=>some none
def cM (ops:Array Oper) (o:Oper) (φ:Fr):Option Bool:=
 match o.guard with
 |none=>some true
 |some (j,want)=>(CE ops φ j).map (· ==some want)
def dN (P:Program) (call:fQ) (o:Oper) (ρ:Operand->GV) (σ:GS):Option (GRes×GS):=
 match o.op with
 |.panic x=>match ρ x with
  |.ifc t g=>some (.panic (.ifc t g),σ)
  |_=>none
 |.call {callee:=.value f,args,..}=>match ρ f with
  |.fn (.func k) first cap=>if mC P k then call (.fn k) (first++args.toList.map ρ++cap) σ else(HV P k (first++args.toList.map ρ++cap)).map fun g=>(.val g,σ)
  |.yld r=>call (.yld r) (args.toList.map ρ) σ
  |_=>none
 |.call {callee:=.invoke r name,args,..}=>match ρ r with
  |.ifc t g=>match HU P t name with
   |some k=>if mC P k then call (.fn k) (g::args.toList.map ρ) σ else none
   |none=>none
  |_=>none
 |op=>(uR P ρ op σ).map fun x=>(.val x.1,x.2)
def KC (ρ:Operand->GV):Op->Option GDef
 |.defer {callee:=.value f,args,..}=>match ρ f with
  |.fn (.func k) first cap=>some (.fn k (first++args.toList.map ρ) cap)
  |_=>none
 |_=>none
def F1 (P:Program) (call:fQ) (dz:Bool) (n:Nat) (ops:Array Oper):List Oper->Fr->GS->Option (GX×Fr×GS)
 |[],φ,σ=>some (.normal,φ,σ)
 |o::rest,φ,σ=>
  if(o.dst.all fun d=>decide (d<n)) then
   match cM ops o φ with
   |some false=>F1 P call dz n ops rest (iV φ o.dst (.tup [])) σ
   |some true=>
    match(if dz then KC (dE φ) o.op else none) with
    |some d=>F1 P call dz n ops rest (iV φ o.dst (.tup [])) {σ with ds:=d::σ.ds}
    |none=>
     match dN P call o (dE φ) σ with
     |some (.val g,σ')=>F1 P call dz n ops rest (iV φ o.dst g) σ'
     |some (.panic g,σ')=>some (.panic g,φ,σ')
     |none=>none
   |none=>none
  else none
def ERel (D:Cx) (r:GRes) (e:Ending):Prop:=
 match r with
 |.val g=>∃v,e=.returned v/\VR D g v
 |.panic g=>∃v,e=.panicked [{v,recovered:=false}]/\VR D g v
def FW (ro:Option Nat):Fence:={Fence.wide with round:=ro}
theorem L3 {ro:Option Nat} {n:Nat} {P:Program} {f:FuncId} {args:Array Value} {w:World} {R:Ending->World->Prop} (h:Calls P f args w R):CallsIn (FW ro) n P f args w R:=
 callsIn_wide.2 h
def YJ (P:Program) (C:Cx) (t:Tgt) (vs:Array Value) (w:World) (R:Ending->World->Prop):Prop:=
 match t with
 |.fn k=>Calls P k vs w R
 |.yld r=>∀b,C.bk r=some b->∃fn tmps assign body,(Instr.yield b vs).run P w=.ok (.round b fn tmps assign body) w/\RoundIn Fence.wide 0 P b fn tmps assign body w R
def cK (P:Program) (w0:World) (call:fQ):Prop:=
 ∀t args σ r σ',call t args σ=some (r,σ')->Keep σ σ'/\σ'.ds=σ.ds/\∀C w (vs:Array Value),Rel C σ w0 w->VRs C args vs.toList->
  YJ P C t vs w fun e w'=>∃D,C.le D/\Rel D σ' w0 w'/\ERel D r e
def GDefR (C:Cx):GDef->Deferred->Prop
 |.fn k args cap,d=>∃va vc:Array Value,d={target:=.fn (.func k) vc,args:=va}/\VRs C args va.toList/\VRs C cap vc.toList
 |.coll r,d=>∃b,C.bk r=some b/\d={target:=.collected b,args:= #[]}
def DRel (C:Cx):List GDef->List Deferred->Prop
 |[],[]=>True
 |g::gs,d::ds=>GDefR C g d/\DRel C gs ds
 |_,_=>False
theorem GDefR.mono {C D:Cx} (hl:C.le D):∀{g:GDef} {d:Deferred},GDefR C g d->GDefR D g d
 |.fn _ _ _,_,⟨va,vc,e,h1,h2⟩=>⟨va,vc,e,h1.mono hl,h2.mono hl⟩
 |.coll _,_,⟨b,h1,e⟩=>⟨b,hl.bk _ _ h1,e⟩
theorem DRel.mono {C D:Cx} (hl:C.le D):∀{gs:List GDef} {ds:List Deferred},DRel C gs ds->DRel D gs ds
 |[],[],_=>trivial
 |_::_,_::_,⟨h1,h2⟩=>⟨h1.mono hl,DRel.mono hl h2⟩
section
variable {P : Program} {call : fQ} {C : Cx} {σ : GS} {w0 w : World}
theorem uI (hcall:cK P w0 call) {o:Oper} {ρ:Operand->GV} {σ':GS} {r:GRes} (h:dN P call o ρ σ=some (r,σ')):Keep σ σ':=by
 unfold dN at h;split at h
 ·split at h
  ·cases h;exact .refl σ
  ·cases h
 ·split at h
  ·split at h
   ·exact(hcall _ _ _ _ _ h).1
   ·rw[aH] at h;obtain⟨g,_,e⟩:=h;cases e;exact .refl σ
  ·exact(hcall _ _ _ _ _ h).1
  ·cases h
 ·split at h
  ·split at h
   ·split at h
    ·exact(hcall _ _ _ _ _ h).1
    ·cases h
   ·cases h
  ·cases h
 ·rw[aH] at h;obtain⟨⟨g,s⟩,hg,e⟩:=h;cases e;exact S2 hg
theorem a4M {ρ:Operand->GV} {op:Op} {σ':GS} {g:GV} (h:sS P ρ op σ=some (g,σ')):σ'.ds=σ.ds:=by
 have mp:∀{x:Option GV} {q:GV×GS},x.map (fun v=>(v,σ))=some q->q.2.ds=σ.ds:=fun hx=>by
  rw[aH] at hx;obtain⟨a,_,rfl⟩:=hx;rfl
 have mu:∀{x:Option GS} {q:GV×GS},x.map (fun s=>(GV.any,s))=some q->x=some q.2:=fun hx=>by
  rw[aH] at hx;obtain⟨a,rfl,rfl⟩:=hx;rfl
 cases op<;>simp only[sS] at h
 case store t a v=>
  have hg:=mu h;unfold sE kS at hg;repeat' split at hg
  all_goals first
   |(cases hg;done)
   |(rw[show σ'=_ from(bA hg).symm];rfl)
 case mapUpdate t m k v=>
  have hg:=mu h;unfold l7 at hg;repeat' split at hg
  all_goals first
   |(cases hg;done)
   |(rw[show σ'=_ from(bA hg).symm];rfl)
 case insert t m k v=>
  have hg:=mu h;unfold l7 at hg;repeat' split at hg
  all_goals first
   |(cases hg;done)
   |(rw[show σ'=_ from(bA hg).symm];rfl)
 case call c=>
  obtain⟨callee,args,ts⟩:=c;cases callee with
  |builtin b=>
   simp only at h;unfold nP at h;split at h
   ·exact mp h
   ·unfold yI at h;repeat' split at h
    all_goals first
     |(cases h;done)
     |(cases h;rfl)
   ·exact mp h
   ·unfold GH at h;repeat' split at h
    all_goals first
     |(cases h;done)
     |(cases h;rfl)
   ·unfold CJ at h;repeat' split at h
    all_goals first
     |(cases h;done)
     |(cases h;rfl)
   ·exact mp h
   ·exact mp h
   ·cases h
  |_=>cases h
 case makeSlice t l c=>
  unfold K3 at h;repeat' split at h
  all_goals first
   |(cases h;done)
   |(cases h;rfl)
 case pick c a b=>
  split at h
  ·cases h;rfl
  ·cases h
 all_goals first
  |(cases h;done)
  |(cases h;rfl)
  |exact mp h
theorem a2K {ρ:Operand->GV} {op:Op} {σ':GS} {g:GV} (h:uR P ρ op σ=some (g,σ')):σ'.ds=σ.ds:=by
 unfold uR at h;split at h
 ·cases h;rfl
 ·exact a4M h
theorem pM (hcall:cK P w0 call) {o:Oper} {ρ:Operand->GV} {σ':GS} {r:GRes} (h:dN P call o ρ σ=some (r,σ')):σ'.ds=σ.ds:=by
 unfold dN at h;split at h
 ·split at h
  ·cases h;rfl
  ·cases h
 ·split at h
  ·split at h
   ·exact(hcall _ _ _ _ _ h).2.1
   ·rw[aH] at h;obtain⟨g,_,e⟩:=h;cases e;rfl
  ·exact(hcall _ _ _ _ _ h).2.1
  ·cases h
 ·split at h
  ·split at h
   ·split at h
    ·exact(hcall _ _ _ _ _ h).2.1
    ·cases h
   ·cases h
  ·cases h
 ·rw[aH] at h;obtain⟨⟨g,s⟩,hg,e⟩:=h;cases e;exact a2K hg
theorem MN {fn:Func} {n:String} (h:fn.name=n) (ho:fn.origin= "") (e1:Extern.allNextRows.lookup n=none):Extern.findNext fn=none:=by
 have e2:Extern.allNextRows.lookup "" =none:=by kernel_rfl
 unfold Extern.findNext;simp[h,ho,e1,e2]
theorem SK {fn:Func} {n:String} {e:Array Value->Sem Value} (h:fn.name=n) (e1:Extern.allGenericRows.lookup n=none) (e2:Extern.allTypedRows.lookup n=none) (e3:Extern.allRows.lookup n=some e):Extern.find fn=some e:=by
 unfold Extern.find;simp[h,e1,e2,e3]
theorem LR {fn:Func} (h:fn.name= "internal/abi.NoEscape"):Extern.find fn=some Extern.AbiNoEscape.same:=SK h (by kernel_rfl) (by kernel_rfl) (by kernel_rfl)
theorem LK {fn:Func} (h:fn.name= "internal/abi.NoEscape") (ho:fn.origin= ""):Extern.findNext fn=none:=MN h ho (by kernel_rfl)
theorem KU {fn:Func} (h:fn.name= "internal/bytealg.IndexByteString"):Extern.find fn=some Extern.BytealgIndexByte.indexByte:=SK h (by kernel_rfl) (by kernel_rfl) (by kernel_rfl)
theorem JF {fn:Func} (h:fn.name= "internal/bytealg.IndexByteString") (ho:fn.origin= ""):Extern.findNext fn=none:=MN h ho (by kernel_rfl)
theorem S7 {k:FuncId} {args:List GV} {g:GV} {vs:Array Value} (hv:VRs C args vs.toList) (h:HV P k args=some g):∃v,(callFunc k vs).run P w=.ok (.value v) w/\VR C g v:=by
 unfold HV at h;split at h
 ·rename_i fn hfn;split at h
  ·rename_i hc;simp only[aF,dI] at hc;split at h
   ·rename_i hn;have hn':fn.name= "internal/abi.NoEscape" :=by simpa using hn
    split at h
    ·cases h;obtain⟨v,vs',e,h1,h2⟩:=hv.cons_inv;have:vs'=[]:=aM h2.1;subst this;have hvs:vs= #[v]:=by rw[<-Array.toList_inj];exact e
     subst hvs;exact⟨v,by rw[run_callFunc_extern hfn (by rw[hn'];decide) hc.1 (LK hn' hc.2) (LR hn')];rfl,h1⟩
    ·cases h
   ·split at h
    ·rename_i hn;have hn':fn.name= "internal/bytealg.IndexByteString" :=by simpa using hn
     split at h
     ·cases h;obtain⟨v,vs',e,h1,h2⟩:=hv.cons_inv;obtain⟨u,us',e',h3,h4⟩:=h2.cons_inv;have:us'=[]:=aM h4.1;subst this;subst e';have hvs:vs= #[v,u]:=by rw[<-Array.toList_inj];exact e
      subst hvs;cases h1;cases h3;refine⟨_,?_,.i _ _⟩;rw[run_callFunc_extern hfn (by rw[hn'];decide) hc.1 (JF hn' hc.2) (KU hn'),Lib.run_indexByteString];rfl
     ·cases h
    ·cases h
  ·cases h
 ·cases h
theorem sW {k:FuncId} (h:mC P k=true) (args:Array Value):(callFunc k args).run P w=.ok (.enter k args) w:=by
 unfold mC at h;split at h
 ·rename_i fn hf;simp only[aF,eL] at h;have hn:¬fn.name= "runtime.NumGoroutine" :=by simpa using h.2
  have hb:fn.body≠none:=fun e=>by rw[e] at h;simp at h
  unfold callFunc;simp[hf,hn,hb]
 ·cases h
theorem UK {t:TypeId} {name:String} {k:FuncId} (v:Value) (h:HU P t name=some k):(method (P.types.size+Made.depth) t v name).run P w=.ok (k,v) w:=by
 unfold HU at h;split at h
 ·rename_i i hi;split at h
  ·rename_i m hm;split at h
   ·rename_i f p hf;split at h
    ·rename_i hc;simp only[aF,dI] at hc;obtain⟨⟨hp,hk⟩,hs⟩:=hc;cases h;obtain⟨q,hq⟩:=Option.isSome_iff_exists.1 hs;obtain⟨d,hd⟩:=DG hq;have hpath:m.path.toList=[]:=by simpa using hp
     have hdepth:P.types.size+Made.depth=(P.types.size+99)+1:=rfl;have hrecv:∀wr:Option String,(receiverAt t (.val v) p wr).run P w=.ok v w:=by
      intro wr;unfold receiverAt;simp only[Sem.run_bind,run_underlying hd,Result.andThen_ok];subst hk;unfold gT;rw[hd];cases d<;>simp[Place.get]
     rw[hdepth];unfold method;simp[typeInfo,hi,hm,hpath,follow,hf,hrecv]
    ·cases h
   ·cases h
  ·cases h
 ·cases h
theorem jV (hcall:cK P w0 call) {ro:Option Nat} {o:Oper} {ρ:Operand->GV} {a:Act} {r:GRes} {σ':GS} {K:Act->World->Prop} {Q:Exit->Act->World->Prop}
  (h:Rel C σ w0 w) (hρ:∀x,VR C (ρ x) (a.eval x)) (hg:dN P call o ρ σ=some (r,σ'))
  (hv:∀g D v w',r=.val g->C.le D->Rel D σ' w0 w'->VR D g v->K (a.put o.dst v) w')
  (hp:∀g D v w',r=.panic g->C.le D->Rel D σ' w0 w'->VR D g v->Q (.panic [{v,recovered:=false}]) a w'):o.wpIn (FW ro) 0 P a w K Q:=by
 have hnd:∀c,o.op≠ .defer c:=fun c e=>by
  unfold dN at hg;rw[e] at hg;simp[uR,iT,sS] at hg
 have hsem:o.semAt (FW ro).round a.eval=execOp a.eval o:=Oper.semAt_eq _ _ _ hnd;have hab:∀f,o.about P w a.eval=some f->(FW ro).fn f:=fun f _=>trivial;have viaCall:∀{k:FuncId} {args:List GV} {vs:Array Value},VRs C args vs.toList->call (.fn k) args σ=some (r,σ')->(execOp a.eval o).run P w=.ok (.enter k vs) w->o.wpIn (FW ro) 0 P a w K Q:=by
  intro k args vs hvs hc hrun;refine⟨hab,?_⟩;rw[hsem,hrun,Oper.uponIn_enter];refine⟨fun h=>(by cases h),L3 ?_⟩;refine Calls.mono ((hcall _ _ _ _ _ hc).2.2 C w vs h hvs) ?_;rintro e w' ⟨D,hl,hr,he⟩;cases r with
  |val g=>
   obtain⟨v,rfl,hv'⟩:=he;exact hv g D v w' rfl hl hr hv'
  |panic g=>
   obtain⟨v,rfl,hv'⟩:=he;exact hp g D v w' rfl hl hr hv'
 unfold dN at hg;split at hg
 ·rename_i x hop;split at hg
  ·rename_i t g hx;cases hg;have hv0:=hρ x;rw[hx] at hv0;generalize hu:a.eval x=u at hv0;cases hv0 with
   |ifc hin=>
    refine⟨hab,?_⟩;have hrun:(execOp a.eval o).run P w=.halt (.panic (a.eval x)) w:=by
     unfold execOp;simp[hop,hu,Instr.panic]
    rw[hsem,hrun,Oper.uponIn_panic,hu];exact hp _ C _ w rfl (.refl C) h (.ifc hin)
  ·cases hg
 ·rename_i f args ts hop;split at hg
  ·rename_i k first cap hf
   split at hg
   ·rename_i hk;have hv0:=hρ f;rw[hf] at hv0;generalize hu:a.eval f=u at hv0;cases hv0 with
    |fn h1 h2 h3 h4=>
     rename_i va vc;have e1:VRs C first va.toList:=⟨by simpa using h1,fun j g u a b=>h3 j g u a (by simpa using b)⟩
     have e2:VRs C cap vc.toList:=⟨by simpa using h2,fun j g u a b=>h4 j g u a (by simpa using b)⟩;refine viaCall (vs:=va++args.map a.eval++vc) ?_ hg ?_
     ·simp only[Array.toList_append,Array.toList_map];exact(e1.append (VRs.mapOp hρ args.toList)).append e2
     ·unfold execOp;rw[hop];simp[resolve,hu,Deferred.ofValue,invoke,sW hk]
   ·rename_i hk;rw[aH] at hg;obtain⟨g',hg',e⟩:=hg;cases e;have hv0:=hρ f;rw[hf] at hv0;generalize hu:a.eval f=u at hv0;cases hv0 with
    |fn h1 h2 h3 h4=>
     rename_i va vc;have e1:VRs C first va.toList:=⟨by simpa using h1,fun j g u a b=>h3 j g u a (by simpa using b)⟩
     have e2:VRs C cap vc.toList:=⟨by simpa using h2,fun j g u a b=>h4 j g u a (by simpa using b)⟩;have e3:VRs C (first++args.toList.map ρ++cap) (va++args.map a.eval++vc).toList:=by
      simp only[Array.toList_append,Array.toList_map];exact(e1.append (VRs.mapOp hρ args.toList)).append e2
     obtain⟨v,hcv,hvv⟩:=S7 (w:=w) e3 hg';have hrun:(execOp a.eval o).run P w=.ok (.value v) w:=by
      unfold execOp;rw[hop];rw[Array.append_assoc] at hcv;simp[resolve,hu,Deferred.ofValue,invoke,hcv]
     refine⟨hab,?_⟩;rw[hsem,hrun];exact hv _ C v w rfl (.refl C) h hvv
  ·rename_i q hf;have hv0:=hρ f;rw[hf] at hv0;generalize hu:a.eval f=u at hv0;cases hv0 with
   |yld hb=>
    rename_i b;have e1:VRs C (args.toList.map ρ) (args.map a.eval).toList:=by
     rw[Array.toList_map];exact VRs.mapOp hρ args.toList
    obtain⟨fn,tmps,asg,body,hy,hround⟩:=(hcall _ _ _ _ _ hg).2.2 C w _ h e1 b hb;have hrun:(execOp a.eval o).run P w=.ok (.round b fn tmps asg body) w:=by
     unfold execOp;rw[hop];simp[resolve,hu,Deferred.ofValue,invoke,hy]
    refine⟨hab,?_⟩;rw[hsem,hrun,Oper.uponIn_round];refine⟨fun h=>(by cases h),RoundIn.mono (F:=FW ro) hround ?_⟩;rintro e w' ⟨D,hl,hr,he⟩;cases r with
    |val g=>
     obtain⟨v,rfl,hv'⟩:=he;exact hv g D v w' rfl hl hr hv'
    |panic g=>
     obtain⟨v,rfl,hv'⟩:=he;exact hp g D v w' rfl hl hr hv'
  ·cases hg
 ·rename_i rv name args ts hop;split at hg
  ·rename_i t g hrv;split at hg
   ·rename_i k hm;split at hg
    ·rename_i hk;have hv0:=hρ rv;rw[hrv] at hv0;generalize hu:a.eval rv=u at hv0;cases hv0 with
     |ifc hin=>
      rename_i u0;refine viaCall (vs:= #[u0]++args.map a.eval) ?_ hg ?_
      ·simp only[Array.toList_append,Array.toList_map];exact VRs.cons hin (VRs.mapOp hρ args.toList)
      ·have hm':=UK (w:=w) u0 hm;have e:(#[Value.iface t u0]++Array.map a.eval args).extract 1 (#[Value.iface t u0]++Array.map a.eval args).size=Array.map a.eval args:=by
        apply Array.ext';simp[aW]
       have e0:(#[Value.iface t u0]++Array.map a.eval args)[0]?=some (Value.iface t u0):=by
        rw[Array.getElem?_append_left (Nat.zero_lt_one)];rfl
       have hinv:(invoke (.fn (.method name) #[]) (#[Value.iface t u0]++Array.map a.eval args)).run P w=.ok (.enter k (#[u0]++Array.map a.eval args)) w:=by
        unfold invoke;simp only[e0,e,callMethod,Sem.run_bind,run_program,Result.andThen_ok,hm',sW hk]
       unfold execOp;rw[hop];simp only[resolve,hu];exact hinv
    ·cases hg
   ·cases hg
  ·cases hg
 ·rename_i hn1 hn2 hn3;rw[aH] at hg;obtain⟨⟨g,s⟩,hg',e⟩:=hg;cases e;obtain⟨D,nx,w',hl,hr,hnx,hrun⟩:=MU h hρ (fun v=>rfl) hg';refine⟨hab,?_⟩;rw[hsem,hrun];rcases hnx with⟨v,rfl,hv'⟩|⟨rfl,rfl⟩
  ·exact hv g D v w' rfl hl hr hv'
  ·exact hv _ D _ w' rfl hl hr (.any _)
theorem FRel.put {D:Cx} {φ:Fr} {a:Act} (h:FRel D φ a) {d:Option Tmp} {g:GV} {v:Value} (hv:VR D g v) {n:Nat} (hs:a.tmps.size=n) (hd:(d.all fun d=>decide (d<n))=true):
  FRel D (iV φ d g) (a.put d v)/\(a.put d v).tmps.size=n/\(a.put d v).defers=a.defers:=by
 cases d with
 |none=>exact⟨h,hs,rfl⟩
 |some d=>
  have hlt:d<a.tmps.size:=by rw[hs];simpa using hd
  refine⟨fun t=>?_,by simp[Act.put,hs],rfl⟩;show VR D (if t=d then g else φ t) ((a.tmps.setIfInBounds d v).getD t undef);by_cases ht:t=d
  ·subst ht;rw[aD rfl];simpa[aX,hlt] using hv
  ·rw[aC ht];have:=h t;simpa[aX,Array.getElem?_setIfInBounds_ne (Ne.symm ht)] using this
theorem OS {φ:Fr} {a:Act} (h:FRel C φ a) {ops:Array Oper} {j:Nat} {y:Option Bool} (hg:CE ops φ j=some y):yielded ops a.tmps j=y:=by
 unfold CE at hg;unfold yielded;split at hg
 ·rename_i d hd;rw[hd,cH];have hv:=h d;split at hg
  ·rename_i t ht;cases hg;rw[ht] at hv;generalize hu:a.tmps.getD d undef=u at hv;cases hv;rw[aX] at hu;cases hx:a.tmps[d]? with
   |none=>rw[hx] at hu;simp[undef] at hu
   |some x=>rw[hx] at hu;simp at hu;subst hu;rfl
  ·rename_i ht;cases hg;rw[ht] at hv;generalize hu:a.tmps.getD d undef=u at hv;cases hv with
   |tup hl _=>
    rw[aX] at hu;cases hx:a.tmps[d]? with
    |none=>rfl
    |some x=>rw[hx] at hu;simp at hu;subst hu;rfl
  ·cases hg
 ·rename_i hd;cases hg;rw[hd];rfl
theorem fI {φ:Fr} {a:Act} (h:FRel C φ a) {ops:Array Oper} {o:Oper} {b:Bool} (hg:cM ops o φ=some b):Region.wanted o (yielded ops a.tmps)=b:=by
 unfold cM at hg;unfold Region.wanted;split at hg
 ·rename_i hgd;cases hg;rw[hgd]
 ·rename_i j want hgd;rw[aH] at hg;obtain⟨y,hy,rfl⟩:=hg;rw[hgd];simp only[OS h hy]
theorem zJ (D:Cx):VR D (.tup []) undef:=.tup rfl (fun j g u h=>by simp at h)
def QOk (w0:World) (C:Cx) (Q:Exit->Act->World->Prop) (n:Nat) (x:GX) (φ':Fr) (σ':GS):Prop:=
 ∀D a' w',C.le D->FRel D φ' a'->a'.tmps.size=n->DRel D σ'.ds a'.defers->Rel D σ' w0 w'->
  match x with
  |.normal=>Q .normal a' w'
  |.exit id=>Q (.exit id) a' w'
  |.ret=>Q .ret a' w'
  |.panic g=>∀v,VR D g v->Q (.panic [{v,recovered:=false}]) a' w'
theorem QOk.mono {D:Cx} {Q:Exit->Act->World->Prop} {n:Nat} {x:GX} {φ':Fr} {σ':GS} (hl:C.le D) (h:QOk w0 C Q n x φ' σ'):QOk w0 D Q n x φ' σ':=
 fun E a' w' hE=>h E a' w' (hl.trans hE)
theorem yF (hcall:cK P w0 call) {ro:Option Nat} {dz:Bool} (hdz:dz=true->ro=none) {n:Nat} {ops:Array Oper} {Q:Exit->Act->World->Prop}:∀(l:List Oper) (C:Cx) (φ φ':Fr) (σ σ':GS) (x:GX) (a:Act) (w:World),
  F1 P call dz n ops l φ σ=some (x,φ',σ')->Rel C σ w0 w->FRel C φ a->a.tmps.size=n->DRel C σ.ds a.defers->QOk w0 C Q n x φ' σ'->wpListIn (FW ro) 0 P ops Q l a w
 |[],C,φ,φ',σ,σ',x,a,w,hg,hr,hf,hn,hd0,hq=>by
  cases hg;exact hq C a w (.refl C) hf hn hd0 hr
 |o::l,C,φ,φ',σ,σ',x,a,w,hg,hr,hf,hn,hd0,hq=>by
  simp only[F1] at hg;split at hg
  ·rename_i hd;unfold wpListIn;split at hg
   ·rename_i hw;rw[fI hf hw];simp only[bX,fN];obtain⟨h1,h2,h3⟩:=hf.put (zJ C) hn hd;exact⟨fun f _=>trivial,yF hcall hdz l C _ φ' σ σ' x _ w hg hr h1 h2 (by rw[h3];exact hd0) hq⟩
   ·rename_i hw;rw[fI hf hw];simp only[f7];split at hg
    ·rename_i d hdef;have hdzt:dz=true:=by
      cases dz with
      |true=>rfl
      |false=>simp at hdef
     have hro:=hdz hdzt;subst hro;rw[hdzt,aD rfl] at hdef;unfold KC at hdef;split at hdef
     ·rename_i f args ts hop;split at hdef
      ·rename_i k first cap hf0
       cases hdef;have hv0:=dR hf f;rw[hf0] at hv0;generalize hu:a.eval f=u at hv0;cases hv0 with
       |fn h1 h2 h3 h4=>
        rename_i va vc;have e1:VRs C first va.toList:=⟨by simpa using h1,fun j g u a b=>h3 j g u a (by simpa using b)⟩
        have e2:VRs C cap vc.toList:=⟨by simpa using h2,fun j g u a b=>h4 j g u a (by simpa using b)⟩;have hrun:(execOp a.eval o).run P w=.ok (.defer {target:=.fn (.func k) vc,args:=va++args.map a.eval}) w:=by
         unfold execOp;rw[hop];simp[resolve,hu,Deferred.ofValue]
        refine⟨fun f _=>trivial,?_⟩;show Oper.uponIn _ _ _ _ _ _ _ ((execOp a.eval o).run P w);rw[hrun,Oper.uponIn_defer];have hf1:FRel C φ {a with defers:={target:=.fn (.func k) vc,args:=va++args.map a.eval}::a.defers}:=hf;obtain⟨p1,p2,p3⟩:=hf1.put (zJ C) (n:=n) hn hd;refine yF hcall hdz l C _ φ' _ σ' x _ w hg (hr.ds _) p1 p2 ?_ hq;rw[p3];refine⟨⟨_,_,rfl,?_,e2⟩,hd0⟩;simp only[Array.toList_append,Array.toList_map];exact e1.append (VRs.mapOp (dR hf) args.toList)
      ·cases hdef
     ·cases hdef
    ·split at hg
     ·rename_i g σ1 hop;refine jV hcall hr (dR hf) hop (fun g' D v w' e hl hr' hv=>?_) (fun g' D v w' e=>by cases e);cases e;obtain⟨h1,h2,h3⟩:=(hf.mono hl).put hv hn hd;exact yF hcall hdz l D _ φ' σ1 σ' x _ w' hg hr' h1 h2 (by rw[h3,pM hcall hop];exact hd0.mono hl) (hq.mono hl)
     ·rename_i g σ1 hop;cases hg;refine jV hcall hr (dR hf) hop (fun g' D v w' e=>by cases e) (fun g' D v w' e hl hr' hv=>?_);cases e;exact hq D a w' hl (hf.mono hl) hn (by rw[pM hcall hop];exact hd0.mono hl) hr' v hv
     ·cases hg
   ·cases hg
  ·cases hg
theorem Keep.dsl {σ σ':GS} {l:List GDef} (h:Keep {σ with ds:=l} σ'):Keep σ σ':=⟨h.lo,h.len,h.old,h.held⟩
theorem Keep.dsr {σ σ':GS} {l:List GDef} (h:Keep σ σ'):Keep σ {σ' with ds:=l}:=⟨h.lo,h.len,h.old,h.held⟩
theorem tH (hcall:cK P w0 call) {dz:Bool} {n:Nat} {ops:Array Oper}:∀(l:List Oper) (φ φ':Fr) (σ σ':GS) (x:GX),F1 P call dz n ops l φ σ=some (x,φ',σ')->Keep σ σ'
 |[],φ,φ',σ,σ',x,hg=>by cases hg;exact .refl σ
 |o::l,φ,φ',σ,σ',x,hg=>by
  simp only[F1] at hg;split at hg
  ·split at hg
   ·exact tH hcall l _ φ' σ σ' x hg
   ·split at hg
    ·exact(tH hcall l _ φ' _ σ' x hg).dsl
    ·split at hg
     ·rename_i g σ1 hop;exact(uI hcall hop).trans (tH hcall l _ φ' σ1 σ' x hg)
     ·rename_i g σ1 hop;cases hg;exact uI hcall hop
     ·cases hg
   ·cases hg
  ·cases hg
end
