/-
  A part of the proof of SchemaFinds.
-/
import Derived.Test.YtcfgfkkhpdlhpaaGreatDoorT10
set_option linter.all false
namespace Go.Proofs.YtcfgfkkhpdlhpaaGreatDoor
open Go.RowKit
variable [Globals]
def eW (M:FuncId->Bool) (op:Op):Nat:=
 match op with
 |.load .. |.lookup .. |.call {callee:=.builtin .len,..}=>1
 |.store .. |.mapUpdate .. |.insert .. =>2
 |.assign (.const (.slice none 0 0))|.alloc _|.box .. |.buildSlice .. |.makeMap _ none=>3
 |.defer .. =>5
 |op=>if dC M op=0 then 0 else 4
def iX (ρ:Operand->GV):Op->Option Nat
 |.load _ a|.store _ a _=>match ρ a with
  |.ptr r _=>some r
  |.rs r _ _ _ _=>some r
  |_=>none
 |.lookup _ m _ _|.mapUpdate _ m _ _|.insert _ m _ _=>match ρ m with
  |.mp r=>some r
  |_=>none
 |.call {callee:=.builtin .len,args,..}=>match args.toList.map ρ with
  |[.mp r]=>some r
  |_=>none
 |_=>none
def H8:Nat:=18446744073709551616
def N7 (ρ:Operand->GV) (op:Op):Option Nat:=
 match op with
 |.load _ a=>match ρ a with
  |.any=>some H8
  |_=>iX ρ op
 |.lookup _ m _ _=>match ρ m with
  |.any=>some H8
  |_=>iX ρ op
 |.call {callee:=.builtin .len,args,..}=>match args.toList.map ρ with
  |[.any]=>some H8
  |_=>iX ρ op
 |op=>iX ρ op
def nM (Mk:List Nat) (σ:GS):GS:={σ with objs:=σ.objs.zipIdx.map fun p=>if Mk.contains p.2 then .held else p.1}
def pT (Mk:List Nat) (σ σ1:GS):GS:={σ1 with objs:=σ1.objs.zipIdx.map fun p=>if Mk.contains p.2 then σ.objs.getD p.2 p.1 else p.1}
def FV (x:Option (GRes×GS)):Option (GV×GS):=
 match x with
 |some (.val g,σ)=>some (g,σ)
 |_=>none
def a23 (B:Nat) (t:Option Nat):Option Nat:=
 match t with
 |some r=>if r<B then some r else some H8
 |none=>none
def rE (P:Program) (M:FuncId->Bool) (call:fT) (B:Nat) (σ:GS):List Oper->Nat->Fr->List (Option Nat)
 |[],_,_=>[]
 |o::l,N,φ=>
  match eW M o.op with
  |3=>some N::rE P M call B σ l (N+1) (iF φ o.dst (match iE P (dA φ) o.op with|some f=>f.1 N|none=>.any))
  |4=>none::rE P M call B σ l N (iF φ o.dst (match FV (dI P call o (dA φ) σ) with|some (g,_)=>g|none=>.any))
  |1=>a23 B (N7 (dA φ) o.op)::rE P M call B σ l N (iF φ o.dst (match rR P (dA φ) o.op σ with|some (g,_)=>g|none=>.any))
  |_=>N7 (dA φ) o.op::rE P M call B σ l N (iF φ o.dst (match rR P (dA φ) o.op σ with|some (g,_)=>g|none=>.any))
def sJ (pi pj:Bool) (ci cj:Nat) (ti tj:Option Nat):Bool:=
 (ci==0||cj==0||(ci==1&&cj==1)||(ci==4&&cj==4&&pi&&pj)||
 (decide (ci<=3)&&decide (cj<=3)&&(match ti,tj with|some r,some q=>r !=q|_,_=>true))||
 (ci==4&&decide (cj<=3))||(decide (ci<=3)&&cj==4))&&
 (!(ci==1&&ti==some H8)||decide (cj<=1)||pj)&&(!(cj==1&&tj==some H8)||decide (ci<=1)||pi)
def fX (M:FuncId->Bool) (ops:Array Oper) (i:Nat):Bool:=match ops[i]? with|some o=>eW M o.op==4&&dC M o.op !=2|none=>false
def CP (A:List (List Nat)) (i j:Nat):Bool:=if i<j then !((A.getD j []).contains i) else !((A.getD i []).contains j)
def gR (M:FuncId->Bool) (ops:Array Oper) (i:Nat):Nat:=match ops[i]? with|some o=>eW M o.op|none=>0
def nI (M:FuncId->Bool) (ops:Array Oper) (A:List (List Nat)) (T:List (Option Nat)) (j:Nat):List Nat:=
 (List.range ops.size).filterMap fun i=>if i !=j&&CP A i j&&decide ((bif fX M ops j then 2 else 1)<=gR M ops i)&&decide (gR M ops i<=3)&&T.getD i none !=some H8 then T.getD i none else none
def rT (M:FuncId->Bool) (B:Nat->Bool) (ops:Array Oper) (A:List (List Nat)) (T:List (Option Nat)) (N:Nat):Bool:=
 ((List.range ops.size).all fun i=>match T.getD i none with|some r=>decide (r<N)||(r==H8&&gR M ops i==1)|none=>true)&&decide (N<=H8)&&((List.range ops.size).all fun i=>!B i||fX M ops i)&&
 (List.range ops.size).all fun j=>
  match ops[j]? with
  |none=>true
  |some oj=>
   decide (eW M oj.op<=4)&&
   (oj.after.all fun e=>!Region.binds .any e||decide (e.on<j))&&
   (List.range j).all fun i=>
    match ops[i]? with
    |none=>true
    |some oi=>(A.getD j []).contains i||((B i||B j||sJ (fX M ops i) (fX M ops j) (eW M oi.op) (eW M oj.op) (T.getD i none) (T.getD j none))&&oi.apart ops oj)
def wild (M:FuncId->Bool) (ops:Array Oper) (A:List (List Nat)) (T:List (Option Nat)) (N:Nat):Bool:=rT M (fun _=>false) ops A T N
def nK (P:Program) (M:FuncId->Bool) (call:fT) (T:Nat->Option Nat) (Mk:Nat->List Nat) (i:Nat) (o:Oper) (φ:Fr) (σ:GS):Option (GV×GS):=
 match eW M o.op with
 |0=>FV (dI P call o (dA φ) σ)
 |1=>if iX (dA φ) o.op=T i∨T i=some H8 then FV (dI P call o (dA φ) σ) else none
 |2=>if iX (dA φ) o.op=T i then FV (dI P call o (dA φ) σ) else none
 |3=>match iE P (dA φ) o.op,T i with
  |some f,some r=>match σ.objs[r]? with
   |some .free=>if σ.lo<=r then some (f.1 r,gset σ r f.2) else none
   |_=>none
  |_,_=>none
 |4=>match FV (dI P call o (dA φ) (nM (Mk i) σ)) with
  |some (g,σ1)=>some (g,pT (Mk i) σ σ1)
  |none=>none
 |_=>none
def wJ (P:Program) (M:FuncId->Bool) (call:fT) (T:Nat->Option Nat) (Mk:Nat->List Nat) (n:Nat) (ops:Array Oper):List Oper->Nat->Fr->GS->Option (Fr×GS)
 |[],_,φ,σ=>some (φ,σ)
 |o::l,i,φ,σ=>
  if(o.dst.all fun d=>decide (d<n)) then
   match cI ops o φ with
   |some false=>wJ P M call T Mk n ops l (i+1) (iF φ o.dst (.tup [])) σ
   |some true=>match nK P M call T Mk i o φ σ with
    |some (g,σ')=>wJ P M call T Mk n ops l (i+1) (iF φ o.dst g) σ'
    |none=>none
   |none=>none
  else none
def GC (P:Program) (M:FuncId->Bool) (call:fT) (n:Nat) (ops:Array Oper) (φ:Fr) (σ:GS):Option (GX×Fr×GS):=
 let A:=pH ops.toList [];let σ0:GS:={σ with objs:=σ.objs++List.replicate (ops.toList.filter fun o=>eW M o.op==3).length .free};let T:=rE P M call σ0.objs.length σ ops.toList σ.objs.length φ
 if wild M ops A T σ0.objs.length then
  (wJ P M call (fun i=>T.getD i none) (nI M ops A T) n ops ops.toList 0 φ σ0).map fun q=>(.normal,q.1,q.2)
 else none
section
variable {P : Program} {call : fT} {M : FuncId → Bool} {w0 : World}
theorem mY (Mk:List Nat) (σ:GS) (r:Nat):(nM Mk σ).objs[r]?=(σ.objs[r]?).map fun x=>if Mk.contains r then .held else x:=by
 simp[nM,aM,List.getElem?_zipIdx];cases σ.objs[r]?<;>simp
theorem oN (Mk:List Nat) (σ σ1:GS) (r:Nat):(pT Mk σ σ1).objs[r]?=(σ1.objs[r]?).map fun x=>if Mk.contains r then σ.objs.getD r x else x:=by
 simp[pT,aM,List.getElem?_zipIdx];cases σ1.objs[r]?<;>simp
theorem BS (Mk:List Nat) (σ:GS):(nM Mk σ).objs.length=σ.objs.length:=by simp[nM]
theorem CV (Mk:List Nat) (σ σ1:GS):(pT Mk σ σ1).objs.length=σ1.objs.length:=by simp[pT]
theorem ORel.one {C:Cx} {w:World} {r:Nat} {x:GObj} (h:ORel C w r x):C.bk r=none∨C.own r=none:=by
 cases x with
 |box T cs=>exact .inr h.1
 |own n e=>exact .inl h.1
 |mp es=>exact .inr h.1
 |loop st pe n φ ps asg body rd=>exact .inr h.1
 |dfr=>exact .inr h.1
 |dead=>exact h.1
 |free=>exact .inl h.1
 |held=>exact h.1
theorem ORel.rehd {C:Cx} {w:World} {r:Nat} {x:GObj} {hd:Nat->Option Held} (he:hd r=C.hd r) (h:ORel C w r x):ORel {C with hd:=hd} w r x:=by
 cases x with
 |box T cs=>obtain⟨h0,b,vs,h1,h2,h3⟩:=h;exact⟨h0,b,vs,h1,h2,h3.1.rehd,h3.2⟩
 |own n e=>exact h
 |mp es=>obtain⟨h0,b,ents,clk,h1,h2,h3,h4⟩:=h;exact⟨h0,b,ents,clk,h1,h2,h3.rehd,h4.rehd⟩
 |loop st pe n φ ps asg body rd=>obtain⟨h0,b,L,h1,h2,h3,h4,h5,h6,h7,h8,h9,h10⟩:=h;exact⟨h0,b,L,h1,h2,h3,h4,h5,h6,h7,h8,fun t=>(h9 t).rehd,h10⟩
 |dfr=>exact h
 |dead=>exact h
 |free=>exact h
 |held=>obtain⟨h1,h2,hh,h3,h4,h5,h6⟩:=h;exact⟨h1,h2,hh,he.trans h3,h4,h5,h6⟩
def hdm (C:Cx) (w:World) (Mk:List Nat):Nat->Option Held:=fun r=>if Mk.contains r then some ⟨C.bk r,C.own r,(dV C r).bind (w.heap[·]?)⟩ else C.hd r
theorem Rel.mask {C:Cx} {σ:GS} {w:World} (h:Rel C σ w0 w) (Mk:List Nat):Rel {C with hd:=hdm C w Mk} (nM Mk σ) w0 w:=by
 refine⟨h.below,h.fxc,fun r x hx=>?_,fun r hr=>h.dom r (by rw[BS] at hr;exact hr),h.new,h.inj,h.sepB,h.sepO,h.fxn,fun g cs j x h1 h2=>h.gl g cs j x h1 h2,h.gs⟩;rw[mY,aI] at hx;obtain⟨y,hy,rfl⟩:=hx;have ho:=h.obj r y hy;by_cases hm:Mk.contains r=true
 ·rw[aG hm];refine⟨ho.one,fun b hb=>r5 h hb,⟨C.bk r,C.own r,(dV C r).bind (w.heap[·]?)⟩,aG hm,rfl,rfl,fun b hb=>?_⟩;have hb':dV C r=some b:=hb;rw[hb'];rfl
 ·rw[aE hm];exact ho.rehd (aE hm)
theorem Rel.unmask {C D:Cx} {σ σ1:GS} {w w':World} {Mk:List Nat} (h:Rel C σ w0 w) (hl:Cx.le {C with hd:=hdm C w Mk} D) (h':Rel D σ1 w0 w')
  (hheld:∀r:Nat,(nM Mk σ).objs[r]?=some .held->σ1.objs[r]?=some .held) (hMk:∀r∈Mk,r<σ.objs.length):
  C.le {D with hd:=C.hd}/\Rel {D with hd:=C.hd} (pT Mk σ σ1) w0 w':=by
 have hlC:C.le {D with hd:=C.hd}:=⟨hl.fx,hl.bk,hl.own,rfl,hl.fix⟩;refine⟨hlC,h'.below,h'.fxc,fun r x hx=>?_,fun r hr=>h'.dom r (by rw[CV] at hr;exact hr),h'.new,h'.inj,h'.sepB,h'.sepO,h'.fxn,fun g cs j x h1 h2=>h'.gl g cs j x h1 h2,h'.gs⟩;rw[oN,aI] at hx;obtain⟨y,hy,rfl⟩:=hx;by_cases hm:Mk.contains r=true
 ·rw[aG hm];have hlt:=hMk r (by simpa using hm);have hx0:σ.objs[r]?=some (σ.objs[r]):=gL hlt;have hh:σ1.objs[r]?=some .held:=hheld r (by rw[mY,hx0];simp only[eL];rw[aG hm]);rw[aO,hx0,Option.getD_some];obtain⟨g1,g2,hh2,g3,g4,g5,g6⟩:=h'.obj r _ hh;have e3:D.hd r=some ⟨C.bk r,C.own r,(dV C r).bind (w.heap[·]?)⟩:=by rw[hl.hd];exact aG hm
  rw[g3] at e3;cases e3;have eb:dV D r=dV C r:=by simp only[dV];rw[show D.bk r=_ from g4,show D.own r=_ from g5]
  refine ORel.keep' hlC g4 g5 (fun b hb=>g2 b (eb.trans hb)) (fun b hb=>?_) (h.obj r _ hx0);rw[g6 b (eb.trans hb),hb];rfl
 ·rw[aE hm];refine(h'.obj r y hy).rehd ?_;rw[hl.hd];exact(aE hm).symm
end
end Go.Proofs.YtcfgfkkhpdlhpaaGreatDoor
namespace Go.Proofs.YtcfgfkkhpdlhpaaGreatDoor
open Go.RowKit
variable [Globals]
section
variable {P : Program} {call : fT} {M : FuncId → Bool} {w0 : World}
theorem mV {x:Option (GRes×GS)} {g:GV} {σ:GS} (h:FV x=some (g,σ)):x=some (.val g,σ):=by
 unfold FV at h;split at h
 ·cases h;rfl
 ·cases h
theorem xP {o:Oper} {ρ:Operand->GV} {σ:GS} (h:eW M o.op≠4) (h0:eW M o.op≠0) (h5:eW M o.op≠5):dI P call o ρ σ=(rR P ρ o.op σ).map fun x=>(.val x.1,x.2):=by
 obtain⟨dst,op,type,pos,after,guard⟩:=o;simp only at h h0 h5⊢;unfold dI;split
 ·rename_i x hop;simp only at hop;subst hop;exact absurd rfl h
 ·rename_i f args ts hop;simp only at hop;subst hop;exfalso;simp only[eW] at h h0;split at h
  ·exact h0 (aG (by assumption))
  ·exact h rfl
 ·rename_i hop;simp only at hop;subst hop;exact absurd rfl h
 ·rfl
theorem IN {ρ:Operand->GV} {op:Op} {σ σ':GS} {g:GV} (hk:eW M op=1) (h:rR P ρ op σ=some (g,σ')):
  σ'=σ/\∀τ:GS,(∀r,iX ρ op=some r->τ.objs[r]?=σ.objs[r]?)->rR P ρ op τ=some (g,τ):=by
 have mp:∀{x:Option GV} {q:GV×GS},x.map (fun v=>(v,σ))=some q->x=some q.1/\q.2=σ:=fun hx=>by
  rw[aI] at hx;obtain⟨a,rfl,rfl⟩:=hx;exact⟨rfl,rfl⟩
 cases op
 case load t a=>
  simp only[rR,iE,pU] at h⊢;obtain⟨h1,h2⟩:=mp h;refine⟨h2,fun τ hτ=>?_⟩;have e:nN P t (ρ a) τ=nN P t (ρ a) σ:=by
   unfold nN;split
   ·rename_i r off ha;rw[hτ r (by simp[iX,ha])]
   ·rename_i r off _ _ _ ha;rw[hτ r (by simp[iX,ha])]
   ·rfl
   ·rfl
   ·rfl
  rw[e,h1];rfl
 case lookup t m k ok=>
  simp only[rR,iE,pU] at h⊢;obtain⟨h1,h2⟩:=mp h;refine⟨h2,fun τ hτ=>?_⟩;have e:pV P t (ρ m) (ρ k) ok τ=pV P t (ρ m) (ρ k) ok σ:=by
   have hm:∀r,ρ m=.mp r->τ.objs[r]?=σ.objs[r]?:=fun r hr=>hτ r (by simp[iX,hr]);unfold pV;revert hm;generalize ρ m=m';intro hm;cases m' with
   |mp r=>simp only[hm r rfl]
   |o v=>cases v<;>first|rfl|(rename_i x;cases x<;>rfl)
   |_=>rfl
  rw[e,h1];rfl
 case call c=>
  obtain⟨callee,args,ts⟩:=c;cases callee with
  |builtin b=>
   cases b with
   |len=>
    simp only[rR,iE,pU] at h⊢;have ht:iX ρ (.call {callee:=.builtin .len,args,argTypes:=ts})=match args.toList.map ρ with
     |[.mp r]=>some r
     |_=>none:=rfl
    rw[ht] at*;revert h;generalize args.toList.map ρ=xs;intro h;unfold mK at h⊢;split at h
    ·rename_i t x _ _;obtain⟨h1,h2⟩:=mp h;refine⟨h2,fun τ hτ=>?_⟩;have e:BV P t x τ=BV P t x σ:=by
      unfold BV;cases x with
      |mp r=>simp only[hτ r rfl]
      |o v=>cases v<;>first|rfl|(rename_i x;cases x<;>rfl)
      |_=>rfl
     rw[e,h1];rfl
    all_goals first
     |contradiction
     |(cases h;done)
   |_=>simp[eW,dC] at hk
  |value f=>
   simp only[eW] at hk;split at hk<;>cases hk
  |invoke r m=>simp[eW,dC] at hk
 all_goals (exfalso;simp only[eW] at hk;(repeat' split at hk)<;>first|(cases hk;done)|(simp_all;done))
theorem G2 {ρ:Operand->GV} {op:Op} {σ σ':GS} {g:GV} (hk:eW M op=2) (h:rR P ρ op σ=some (g,σ')):
  ∃r x y,iX ρ op=some r/\σ.lo<=r/\σ.objs[r]?=some y/\y≠ .held/\σ'=gset σ r x/\∀τ:GS,τ.lo=σ.lo->τ.objs[r]?=σ.objs[r]?->rR P ρ op τ=some (g,gset τ r x):=by
 have mu:∀{x:Option GS} {q:GV×GS},x.map (fun s=>(GV.any,s))=some q->x=some q.2/\q.1=.any:=fun hx=>by
  rw[aI] at hx;obtain⟨a,rfl,rfl⟩:=hx;exact⟨rfl,rfl⟩
 have up:∀{t:TypeId} {m k v:GV},kE P t m k v σ=some σ'->∃r x y,m=.mp r/\σ.lo<=r/\σ.objs[r]?=some y/\y≠ .held/\σ'=gset σ r x/\
   ∀τ:GS,τ.lo=σ.lo->τ.objs[r]?=σ.objs[r]?->kE P t m k v τ=some (gset τ r x):=by
  intro t m k v hg;unfold kE at hg;split at hg
  ·rename_i r;split at hg
   ·rename_i kt et hmt;split at hg
    ·rename_i d es hd ho;split at hg
     ·rename_i hc;simp only[aH,aL] at hc;have fin:∀{x:GObj},(∀τ:GS,τ.lo=σ.lo->τ.objs[r]?=σ.objs[r]?->kE P t (.mp r) k v τ=some (gset τ r x))->σ'=gset σ r x->∃r' x y,GV.mp r=.mp r'/\σ.lo<=r'/\σ.objs[r']?=some y/\y≠ .held/\σ'=gset σ r' x/\
        ∀τ:GS,τ.lo=σ.lo->τ.objs[r']?=σ.objs[r']?->kE P t (.mp r) k v τ=some (gset τ r' x):=fun h1 h2=>
       ⟨r,_,_,rfl,hc.1,ho,by simp,h2,h1⟩
      split at hg
      ·rename_i i x hf;cases hg;refine fin (x:=.mp (es.set i (k,v))) (fun τ h1 h2=>?_) rfl;unfold kE;simp only[hmt,hd,h2,ho,h1,hf];rw[aG (by simpa using hc)]
      ·rename_i hf;cases hg;refine fin (x:=.mp (es++[(k,v)])) (fun τ h1 h2=>?_) rfl;unfold kE;simp only[hmt,hd,h2,ho,h1,hf];rw[aG (by simpa using hc)]
      ·cases hg
     ·cases hg
    ·cases hg
   ·cases hg
  ·cases hg
 cases op
 case store t a v=>
  simp only[rR,iE,pU] at h⊢;obtain⟨h1,h2⟩:=mu h;simp only at h1 h2;subst h2;have fin:∀{r off:Nat} {g:GV},iX ρ (.store t a v)=some r->jX P t r off g σ=some σ'->∃r x y,iX ρ (.store t a v)=some r/\σ.lo<=r/\σ.objs[r]?=some y/\y≠ .held/\σ'=gset σ r x/\
    ∀τ:GS,τ.lo=σ.lo->τ.objs[r]?=σ.objs[r]?->jX P t r off g τ=some (gset τ r x):=fun hr h1=>by
   unfold jX at h1;split at h1
   ·rename_i cs ho;split at h1
    ·rename_i hc;have hc':=hc;simp only[aH,aL] at hc';refine⟨_,_,_,hr,hc'.1.1.1,ho,by simp,(aY h1).symm,fun τ h3 h4=>?_⟩;unfold jX;simp only[h4,ho,h3];rw[aG hc]
    ·cases h1
   ·cases h1
  unfold oZ at h1;split at h1
  ·rename_i r off ha;have hr:iX ρ (.store t a v)=some r:=by simp[iX,ha]
   obtain⟨r',x,y,g1,g2,g3,g4,g5,g6⟩:=fin hr h1;rw[hr] at g1;cases g1;exact⟨r,x,y,hr,g2,g3,g4,g5,fun τ h3 h4=>by unfold oZ;simp only[ha];rw[g6 τ h3 h4];rfl⟩
  ·rename_i r off e _ _ ha;have hr:iX ρ (.store t a v)=some r:=by simp[iX,ha]
   split at h1
   ·rename_i he;obtain⟨r',x,y,g1,g2,g3,g4,g5,g6⟩:=fin hr h1;rw[hr] at g1;cases g1;exact⟨r,x,y,hr,g2,g3,g4,g5,fun τ h3 h4=>by unfold oZ;simp only[ha];rw[aG he,g6 τ h3 h4];rfl⟩
   ·cases h1
  ·cases h1
 case mapUpdate t m k v=>
  simp only[rR,iE,pU] at h⊢;obtain⟨h1,h2⟩:=mu h;simp only at h1 h2;subst h2;obtain⟨r,x,y,e,h3,h4,h5,h6,h7⟩:=up h1;exact⟨r,x,y,by simp[iX,e],h3,h4,h5,h6,fun τ h8 h9=>by rw[h7 τ h8 h9];rfl⟩
 case insert t m k v=>
  simp only[rR,iE,pU] at h⊢;obtain⟨h1,h2⟩:=mu h;simp only at h1 h2;subst h2;obtain⟨r,x,y,e,h3,h4,h5,h6,h7⟩:=up h1;exact⟨r,x,y,by simp[iX,e],h3,h4,h5,h6,fun τ h8 h9=>by rw[h7 τ h8 h9];rfl⟩
 case call c=>
  exfalso;obtain⟨callee,args,ts⟩:=c;simp only[eW] at hk
  (repeat' split at hk)<;>first|(cases hk;done)|(simp_all;done)
 all_goals (exfalso;simp only[eW] at hk;(repeat' split at hk)<;>first|(cases hk;done)|(simp_all;done))
structure Trace2 (P:Program) (M:FuncId->Bool) (B:Nat->Bool) (call:Nat->fT) (T:Nat->Option Nat) (Mk:Nat->List Nat) (n:Nat) (ops:Array Oper) (Φ:Nat->Fr) (S:Nat->GS) (G:Nat->GV):Prop where
 step:∀(i:Nat) o,ops[i]?=some o->(o.dst.all fun d=>decide (d<n))=true/\Φ (i+1)=iF (Φ i) o.dst (G i)/\
  ((cI ops o (Φ i)=some false/\G i=.tup []/\S (i+1)=S i)∨(cI ops o (Φ i)=some true/\B i=false/\nK P M (call i) T Mk i o (Φ i) (S i)=some (G i,S (i+1)))∨
   (cI ops o (Φ i)=some true/\B i=true/\S (i+1)=S i/\∀τ:GS,τ.lo=(S i).lo->dI P (call i) o (dA (Φ i)) τ=some (.val (G i),τ)))
theorem HX {T:Nat->Option Nat} {Mk:Nat->List Nat} {n:Nat} {ops:Array Oper}:∀(l:List Oper) (k:Nat) (φ φ':Fr) (σ σ':GS),(∀j:Nat,l[j]?=ops[k+j]?)->wJ P M call T Mk n ops l k φ σ=some (φ',σ')->
  ∃(Φ:Nat->Fr) (S:Nat->GS) (G:Nat->GV),Φ k=φ/\S k=σ/\Φ (k+l.length)=φ'/\S (k+l.length)=σ'/\
   ∀(i:Nat) o,k<=i->ops[i]?=some o->(o.dst.all fun d=>decide (d<n))=true/\Φ (i+1)=iF (Φ i) o.dst (G i)/\
    ((cI ops o (Φ i)=some false/\G i=.tup []/\S (i+1)=S i)∨(cI ops o (Φ i)=some true/\nK P M call T Mk i o (Φ i) (S i)=some (G i,S (i+1))))
 |[],k,φ,φ',σ,σ',hl,hg=>by
  cases hg;refine⟨fun _=>φ,fun _=>σ,fun _=>.any,rfl,rfl,rfl,rfl,fun i o hi ho=>?_⟩;have:=hl (i - k);rw[show k+(i - k)=i by omega,ho] at this;simp at this
 |o::l,k,φ,φ',σ,σ',hl,hg=>by
  have ho:ops[k]?=some o:=by have:=hl 0;simpa using this.symm
  simp only[wJ] at hg;split at hg
  ·rename_i hd;have go:∀(g:GV) (σ1:GS),wJ P M call T Mk n ops l (k+1) (iF φ o.dst g) σ1=some (φ',σ')->
     ((cI ops o φ=some false/\g=.tup []/\σ1=σ)∨(cI ops o φ=some true/\nK P M call T Mk k o φ σ=some (g,σ1)))->
     ∃(Φ:Nat->Fr) (S:Nat->GS) (G:Nat->GV),Φ k=φ/\S k=σ/\Φ (k+(o::l).length)=φ'/\S (k+(o::l).length)=σ'/\
      ∀(i:Nat) o,k<=i->ops[i]?=some o->(o.dst.all fun d=>decide (d<n))=true/\Φ (i+1)=iF (Φ i) o.dst (G i)/\
       ((cI ops o (Φ i)=some false/\G i=.tup []/\S (i+1)=S i)∨(cI ops o (Φ i)=some true/\nK P M call T Mk i o (Φ i) (S i)=some (G i,S (i+1)))):=by
    intro g σ1 hrest hstep;obtain⟨Φ,S,G,e1,e2,e3,e4,e5⟩:=HX l (k+1) _ φ' σ1 σ' (fun j=>by have:=hl (j+1);rw[show k+1+j=k+(j+1) by omega];simpa using this) hrest;refine⟨fun i=>if i=k then φ else Φ i,fun i=>if i=k then σ else S i,fun i=>if i=k then g else G i,aG rfl,aG rfl,?_,?_,fun i o' hi ho'=>?_⟩
    ·show(if k+(l.length+1)=k then φ else Φ (k+(l.length+1)))=φ';rw[aE (by omega),show k+(l.length+1)=k+1+l.length by omega];exact e3
    ·show(if k+(l.length+1)=k then σ else S (k+(l.length+1)))=σ';rw[aE (by omega),show k+(l.length+1)=k+1+l.length by omega];exact e4
    ·by_cases hik:i=k
     ·subst hik;rw[ho] at ho';cases ho';simp only[fP,aE (show i+1≠i by omega),e1,e2];exact⟨hd,trivial,hstep⟩
     ·simp only[aE hik,aE (show i+1≠k by omega)];exact e5 i o' (by omega) ho'
   split at hg
   ·rename_i hw;exact go (.tup []) σ hg (.inl ⟨hw,rfl,rfl⟩)
   ·rename_i hw;split at hg
    ·rename_i g σ1 hop;exact go g σ1 hg (.inr ⟨hw,hop⟩)
    ·cases hg
   ·cases hg
  ·cases hg
end
def rO (M:FuncId->Bool) (ops:Array Oper) (T:Nat->Option Nat) (Mk:Nat->List Nat) (i r:Nat):Bool:=
 match gR M ops i with
 |2|3=>T i==some r
 |4=>!fX M ops i&&!(Mk i).contains r
 |_=>false
def UX (S:Nat->GS) (W:Nat->Nat->Bool) (L:Array Bool) (r:Nat):Nat->Option GObj
 |0=>(S 0).objs[r]?
 |k+1=>if L.getD k false&&W k r then(S (k+1)).objs[r]? else UX S W L r k
section
variable {P : Program} {call : Nat → fT} {M : FuncId → Bool} {B : Nat → Bool} {w0 : World} {n : Nat} {ops : Array Oper} {Φ : Nat → Fr} {S : Nat → GS} {G : Nat → GV} {T : Nat → Option Nat} {Mk : Nat → List Nat}
theorem Trace2.put (R:Trace2 P M B call T Mk n ops Φ S G) (i:Nat) (hi:i<ops.size) (t:Nat):Φ (i+1) t=if jH ops i=some t then G i else Φ i t:=by
 have ho:ops[i]?=some (ops[i]'hi):=aR hi;rw[(R.step i _ ho).2.1,iA,jH,ho,bY]
theorem E7 (R:Trace2 P M B call T Mk n ops Φ S G) {L:Array Bool} {j t:Nat} (hw:∀i,i<ops.size->jH ops i=some t->(i<j->L.getD i false=true)/\(j<=i->L.getD i false=false)):
  ∀k,k<=ops.size->nQ ops G (Φ 0) L k t=Φ (min k j) t
 |0,_=>by simp[nQ]
 |k+1,hk=>by
  have ih:=E7 R hw k (by omega);have hp:=R.put k (by omega) t;simp only[nQ];by_cases hd:jH ops k=some t
  ·obtain⟨h1,h2⟩:=hw k (by omega) hd;by_cases hkj:k<j
   ·rw[h1 hkj,aG rfl,iA,aG hd,show min (k+1) j=k+1 by omega,hp,aG hd]
   ·rw[h2 (by omega)];simp only[bT,fR];rw[ih,show min (k+1) j=min k j by omega]
  ·have e:(if L.getD k false=true then iF (nQ ops G (Φ 0) L k) (jH ops k) (G k) else nQ ops G (Φ 0) L k) t=nQ ops G (Φ 0) L k t:=by
    split
    ·rw[iA,aE hd]
    ·rfl
   rw[e,ih];by_cases hkj:k<j
   ·rw[show min (k+1) j=k+1 by omega,show min k j=k by omega,hp,aE hd]
   ·rw[show min (k+1) j=min k j by omega]
theorem JY {W:Nat->Nat->Bool} {L:Array Bool} {j r:Nat} (hstill:∀i,i<ops.size->W i r=false->(S (i+1)).objs[r]?=(S i).objs[r]?)
  (hw:∀i,i<ops.size->W i r=true->(i<j->L.getD i false=true)/\(j<=i->L.getD i false=false)):∀k,k<=ops.size->UX S W L r k=(S (min k j)).objs[r]?
 |0,_=>by simp[UX]
 |k+1,hk=>by
  have ih:=JY hstill hw k (by omega);simp only[UX];cases hW:W k r with
  |true=>
   obtain⟨h1,h2⟩:=hw k (by omega) hW;by_cases hkj:k<j
   ·rw[h1 hkj,show min (k+1) j=k+1 by omega];rfl
   ·rw[h2 (by omega)];simp only[Bool.false_and,bT,fR];rw[ih,show min (k+1) j=min k j by omega]
  |false=>
   simp only[Bool.and_false,bT,fR];rw[ih];by_cases hkj:k<j
   ·rw[show min (k+1) j=k+1 by omega,show min k j=k by omega,hstill k (by omega) hW]
   ·rw[show min (k+1) j=min k j by omega]
theorem ID {W:Nat->Nat->Bool} {L L':Array Bool} {j r:Nat} (hL:∀i,i≠j->L'.getD i false=L.getD i false) (hd:W j r=false):∀k,UX S W L' r k=UX S W L r k
 |0=>rfl
 |k+1=>by
  simp only[UX];rw[ID hL hd k];by_cases hk:k=j
  ·subst hk;rw[hd];simp
  ·rw[hL k hk]
end
end Go.Proofs.YtcfgfkkhpdlhpaaGreatDoor
namespace Go.Proofs.YtcfgfkkhpdlhpaaGreatDoor
open Go.RowKit
variable [Globals]
section
variable {P : Program} {call : fT} {M : FuncId → Bool} {B : Nat → Bool} {w0 : World} {n : Nat} {ops : Array Oper} {T : Nat → Option Nat} {Mk : Nat → List Nat}
theorem A0 {op:Op} (h:eW M op=0):dC M op=0:=by
 unfold eW at h;split at h<;>first
  |(cases h;done)
  |skip
 split at h
 ·assumption
 ·cases h
theorem wK (hcall:bZ P w0 call) {i:Nat} {o:Oper} {φ:Fr} {σ σ':GS} {g:GV} (ho:ops[i]?=some o) (hMk:∀r∈Mk i,r<σ.objs.length) (h:nK P M call T Mk i o φ σ=some (g,σ')):
  Keep σ σ'/\σ'.ds=σ.ds/\∀r,rO M ops T Mk i r=false->dR M call->σ'.objs[r]?=σ.objs[r]?:=by
 have hcl:gR M ops i=eW M o.op:=by unfold gR;rw[ho]
 unfold nK at h;split at h
 ·rename_i hk;obtain⟨e,_⟩:=vB (A0 hk) (mV h);subst e;exact⟨.refl _,rfl,fun _ _ _=>rfl⟩
 ·rename_i hk;split at h
  ·have h1:=mV h;rw[xP (M:=M) (by rw[hk];decide) (by rw[hk];decide) (by rw[hk];decide),aI] at h1;obtain⟨⟨g',s⟩,h2,e⟩:=h1;cases e;obtain⟨e,_⟩:=IN hk h2;subst e;exact⟨.refl _,rfl,fun _ _ _=>rfl⟩
  ·cases h
 ·rename_i hk;split at h
  ·rename_i hT;have h1:=mV h;rw[xP (M:=M) (by rw[hk];decide) (by rw[hk];decide) (by rw[hk];decide),aI] at h1;obtain⟨⟨g',s⟩,h2,e⟩:=h1;cases e;obtain⟨r,x,y,ht,hlo,hy,hne,rfl,_⟩:=G2 hk h2;refine⟨.gset σ x hlo hy hne,rfl,fun q hq hpu=>?_⟩;unfold rO at hq;rw[hcl,hk] at hq;have:q≠r:=fun e=>by subst e;rw[<-hT,ht] at hq;simp at hq
   show(σ.objs.set r x)[q]?=_;rw[dF (j7 this)]
  ·cases h
 ·rename_i hk;split at h
  ·rename_i f r hf hT;split at h
   ·rename_i hfree;split at h
    ·rename_i hlo;cases h;refine⟨.gset σ _ hlo hfree (by simp),rfl,fun q hq hpu=>?_⟩;unfold rO at hq;rw[hcl,hk] at hq;have:q≠r:=fun e=>by subst e;rw[hT] at hq;simp at hq
     show(σ.objs.set r f.2)[q]?=_;rw[dF (j7 this)]
    ·cases h
   ·cases h
  ·cases h
 ·rename_i hk4;split at h
  ·rename_i g' σ1 hg;cases h;have hop:=mV hg;have hkp:=rG hcall hop;have hds:=nL hcall hop;have held:∀r∈Mk i,σ1.objs[r]?=some .held:=fun r hr=>hkp.held r (by
    rw[mY,gL (hMk r hr)];simp only[eL];rw[aG (by simpa using hr)])
   have inM:∀r∈Mk i,(pT (Mk i) σ σ1).objs[r]?=σ.objs[r]?:=fun r hr=>by
    rw[oN,held r hr];simp only[eL];rw[aG (by simpa using hr),aO,gL (hMk r hr),Option.getD_some]
   have notM:∀r,¬r∈Mk i->(pT (Mk i) σ σ1).objs[r]?=σ1.objs[r]?:=fun r hr=>by
    rw[oN];have:¬(Mk i).contains r=true:=by simpa using hr
    simp only[aE this,Option.map_id']
   have notM0:∀r,¬r∈Mk i->(nM (Mk i) σ).objs[r]?=σ.objs[r]?:=fun r hr=>by
    rw[mY];have:¬(Mk i).contains r=true:=by simpa using hr
    simp only[aE this,Option.map_id']
   refine⟨⟨hkp.lo,?_,fun hl r hr=>?_,fun r hr=>?_⟩,hds,fun r hr hpu=>?_⟩
   ·have:=hkp.len;rw[BS] at this;rw[CV];exact this
   ·by_cases hm:r∈Mk i
    ·exact inM r hm
    ·rw[notM r hm,hkp.old (by rw[BS];exact hl) r hr,notM0 r hm]
   ·by_cases hm:r∈Mk i
    ·rw[inM r hm];exact hr
    ·rw[notM r hm];exact hkp.held r (by rw[notM0 r hm];exact hr)
   ·unfold rO at hr;rw[hcl,hk4] at hr;by_cases hpa:fX M ops i=true
    ·have hkd:dC M o.op≠2:=by
      unfold fX at hpa;rw[ho] at hpa;simp only[aH,bne_iff_ne] at hpa;exact hpa.2
     have e:=mW hpu hkd hop;by_cases hm:r∈Mk i
     ·exact inM r hm
     ·rw[notM r hm,e,notM0 r hm]
    ·rw[Bool.not_eq_true] at hpa;rw[hpa] at hr;exact inM r (by simpa using hr)
  ·cases h
 ·cases h
theorem xF {A:List (List Nat)} {TL:List (Option Nat)} {N:Nat} (h:rT M B ops A TL N=true) {i j:Nat} {oi oj:Oper} (hi:ops[i]?=some oi) (hj:ops[j]?=some oj) (hij:i<j):
  i∈A.getD j []∨((B i=true∨B j=true∨sJ (fX M ops i) (fX M ops j) (eW M oi.op) (eW M oj.op) (TL.getD i none) (TL.getD j none)=true)/\oi.apart ops oj=true):=by
 unfold rT at h;simp only[aH,aS,f5] at h;have h1:=h.2 j (Array.getElem?_eq_some_iff.1 hj).1;simp only[hj,aH,aS,f5] at h1;have h2:=h1.2 i hij;simpa only[hi,eY,aH,List.contains_iff_mem,or_assoc] using h2
theorem SW {A:List (List Nat)} {TL:List (Option Nat)} {N:Nat} (h:rT M B ops A TL N=true) {j:Nat} {oj:Oper} (hj:ops[j]?=some oj):∀e∈oj.after,Region.binds .any e=true->e.on<j:=by
 unfold rT at h;simp only[aH,aS,f5] at h;have h1:=h.2 j (Array.getElem?_eq_some_iff.1 hj).1;simp only[hj,aH] at h1;intro e he hb;have h2:=(Array.all_eq_true'.1 h1.1.2) e he;simpa[hb] using h2
theorem OE {A:List (List Nat)} {TL:List (Option Nat)} {N:Nat} (h:rT M B ops A TL N=true) {i r:Nat} (hi:i<ops.size) (hr:TL.getD i none=some r):r<N∨(r=H8/\gR M ops i=1):=by
 unfold rT at h;simp only[aH,aS] at h;have h1:=h.1.1.1 i (by simpa using hi);rw[hr] at h1;simp only[eY,aH,aL,dE] at h1;exact h1
theorem a14 {A:List (List Nat)} {TL:List (Option Nat)} {N:Nat} (h:rT M B ops A TL N=true):N<=H8:=by
 unfold rT at h;simp only[aH,aL] at h;exact h.1.1.2
theorem V1 {A:List (List Nat)} {TL:List (Option Nat)} {N:Nat} (h:rT M B ops A TL N=true) {i:Nat} (hi:i<ops.size) (hb:B i=true):fX M ops i=true:=by
 unfold rT at h;simp only[aH,aS] at h;have h1:=h.1.2 i (by simpa using hi);rw[hb] at h1;simpa using h1
theorem a2L {A:List (List Nat)} {TL:List (Option Nat)} {j r:Nat}:r∈nI M ops A TL j↔∃i,i<ops.size/\i≠j/\CP A i j=true/\(bif fX M ops j then 2 else 1)<=gR M ops i/\gR M ops i<=3/\TL.getD i none=some r/\r≠H8:=by
 unfold nI;simp only[List.mem_filterMap,f5];constructor
 ·rintro⟨i,hi,h⟩;split at h
  ·rename_i hc;simp only[aH,bne_iff_ne,aL] at hc;exact⟨i,hi,hc.1.1.1.1,hc.1.1.1.2,hc.1.1.2,hc.1.2,h,fun e=>hc.2 (by rw[h,e])⟩
  ·cases h
 ·rintro⟨i,hi,h1,h2,h3,h4,h5,h6⟩;exact⟨i,hi,by rw[aG (by rw[h5];simp[h1,h2,h3,h4,h6])];exact h5⟩
theorem RE {A:List (List Nat)} {TL:List (Option Nat)} {N i j r:Nat} (hw:rT M B ops A TL N=true) (hi:i<ops.size) (hj:j<ops.size) (hij:i≠j) (hl:CP A i j=true) (hl':CP A j i=true)
  (hok0:(B i=true∨B j=true∨sJ (fX M ops i) (fX M ops j) (gR M ops i) (gR M ops j) (TL.getD i none) (TL.getD j none)=true)∨(B j=true∨B i=true∨sJ (fX M ops j) (fX M ops i) (gR M ops j) (gR M ops i) (TL.getD j none) (TL.getD i none)=true))
  (hwi:rO M ops (fun i=>TL.getD i none) (nI M ops A TL) i r=true)
  (hwj:rO M ops (fun i=>TL.getD i none) (nI M ops A TL) j r=true∨(gR M ops j=1/\(TL.getD j none=some r∨TL.getD j none=some H8))∨(fX M ops j=true/\B j=false/\¬r∈nI M ops A TL j)):False:=by
 have hwi':2<=gR M ops i/\gR M ops i<=4:=by
  unfold rO at hwi;split at hwi
  ·omega
  ·omega
  ·omega
  ·cases hwi
 have p4:∀{q:Nat},fX M ops q=true->gR M ops q=4:=fun{q} h=>by
  unfold fX at h;unfold gR;split at h
  ·rename_i o ho;simp only[aH,dE] at h;exact h.1
  ·cases h
 have np:∀{q:Nat},gR M ops q≠4->fX M ops q=false:=fun{q} h=>by
  cases hp:fX M ops q with
  |false=>rfl
  |true=>exact absurd (p4 hp) h
 have npi:fX M ops i=false:=by
  cases hp:fX M ops i with
  |false=>rfl
  |true=>
   have h4:=p4 hp;unfold rO at hwi;rw[h4,hp] at hwi;simp at hwi
 have hBi:B i=false:=by
  cases hb:B i with
  |false=>rfl
  |true=>have:=V1 hw hi hb;rw[npi] at this;cases this
 have hBj:B j=false:=by
  cases hb:B j with
  |false=>rfl
  |true=>
   have hp:=V1 hw hj hb;rcases hwj with h|⟨h,_⟩|⟨_,h,_⟩
   ·unfold rO at h;rw[p4 hp,hp] at h;simp at h
   ·rw[p4 hp] at h;omega
   ·rw[hb] at h;cases h
 have hok:sJ (fX M ops i) (fX M ops j) (gR M ops i) (gR M ops j) (TL.getD i none) (TL.getD j none)=true∨sJ (fX M ops j) (fX M ops i) (gR M ops j) (gR M ops i) (TL.getD j none) (TL.getD i none)=true:=by
  rw[hBi,hBj] at hok0;rcases hok0 with(h|h|h)|(h|h|h)<;>first|(cases h;done)|exact .inl h|exact .inr h
 replace hwj:rO M ops (fun i=>TL.getD i none) (nI M ops A TL) j r=true∨(gR M ops j=1/\(TL.getD j none=some r∨TL.getD j none=some H8))∨(fX M ops j=true/\¬r∈nI M ops A TL j):=hwj.imp id (fun h=>h.imp id fun h=>⟨h.1,h.2.2⟩);have nounk:gR M ops j=1->TL.getD j none≠some H8:=fun h1 h2=>by
  rcases hok with hok|hok<;>rw[h1,h2,npi] at hok<;>simp only[sJ,aH,eY,dK,aL] at hok
  ·rcases hok.2 with(h3|h3)|h3
   ·simp at h3
   ·omega
   ·cases h3
  ·rcases hok.1.2 with(h3|h3)|h3
   ·simp at h3
   ·omega
   ·cases h3
 replace hwj:rO M ops (fun i=>TL.getD i none) (nI M ops A TL) j r=true∨(gR M ops j=1/\TL.getD j none=some r)∨(fX M ops j=true/\¬r∈nI M ops A TL j):=by
  rcases hwj with h|⟨h1,h2|h2⟩|h
  ·exact .inl h
  ·exact .inr (.inl ⟨h1,h2⟩)
  ·exact absurd h2 (nounk h1)
  ·exact .inr (.inr h)
 have ne:∀q,q<ops.size->gR M ops q≠1->TL.getD q none=some r->r≠H8:=fun q hq h1 h2=>by
  have:=a14 hw;rcases OE hw hq h2 with h3|⟨_,h3⟩
  ·omega
  ·exact absurd h3 h1
 have inMi:fX M ops i=false->1<=gR M ops j->gR M ops j<=3->TL.getD j none=some r->r∈nI M ops A TL i:=fun h0 h1 h2 h3=>a2L.2 ⟨j,hj,j7 hij,hl',by rw[h0];exact h1,h2,h3,fun e=>by
  by_cases h4:gR M ops j=1
  ·exact nounk h4 (by rw[h3,e])
  ·exact ne j hj h4 h3 e⟩
 have inMj:1<=gR M ops i->gR M ops i<=3->TL.getD i none=some r->r∈nI M ops A TL j:=fun h1 h2 h3=>a2L.2 ⟨i,hi,hij,hl,(by cases fX M ops j<;>simp only[cond_true,cond_false]<;>omega),h2,h3,ne i hi (by omega) h3⟩;have tj:gR M ops j≠4->(1<=gR M ops j/\gR M ops j<=3)/\TL.getD j none=some r:=fun h4=>by
  rcases hwj with hwj|⟨h1,h2⟩|⟨h1,_⟩
  rotate_right
  ·exact absurd (p4 h1) h4
  ·unfold rO at hwj;split at hwj
   ·rename_i h;exact⟨by omega,by simpa using hwj⟩
   ·rename_i h;exact⟨by omega,by simpa using hwj⟩
   ·rename_i h;exact absurd h h4
   ·cases hwj
  ·exact⟨by omega,h2⟩
 unfold rO at hwi;split at hwi
 ·rename_i hc;have hti:TL.getD i none=some r:=by simpa using hwi
  by_cases h4:gR M ops j=4
  ·have hm:=inMj (by omega) (by omega) hti;rcases hwj with hwj|⟨h1,_⟩|⟨_,h1⟩
   ·unfold rO at hwj;rw[h4] at hwj;simp[hm] at hwj
   ·omega
   ·exact h1 hm
  ·obtain⟨⟨h1,h2⟩,h3⟩:=tj h4;rcases hok with hok|hok<;>rw[hti,h3,hc] at hok<;>(generalize gR M ops j=c at*;have:c=1∨c=2∨c=3:=by omega)<;>rcases this with rfl|rfl|rfl<;>simp[sJ] at hok
 ·rename_i hc;have hti:TL.getD i none=some r:=by simpa using hwi
  by_cases h4:gR M ops j=4
  ·have hm:=inMj (by omega) (by omega) hti;rcases hwj with hwj|⟨h1,_⟩|⟨_,h1⟩
   ·unfold rO at hwj;rw[h4] at hwj;simp[hm] at hwj
   ·omega
   ·exact h1 hm
  ·obtain⟨⟨h1,h2⟩,h3⟩:=tj h4;rcases hok with hok|hok<;>rw[hti,h3,hc] at hok<;>(generalize gR M ops j=c at*;have:c=1∨c=2∨c=3:=by omega)<;>rcases this with rfl|rfl|rfl<;>simp[sJ] at hok
 ·rename_i hc;by_cases h4:gR M ops j=4
  ·rcases hok with hok|hok<;>rw[hc,h4,npi] at hok<;>simp[sJ] at hok
  ·obtain⟨⟨h1,h2⟩,h3⟩:=tj h4;simp only[aH,dK] at hwi;have hm:=inMi hwi.1 h1 h2 h3;have:=hwi.2;simp[hm] at this
 ·cases hwi
theorem Rel.frees {C:Cx} {σ:GS} {w:World} (h:Rel C σ w0 w):∀k:Nat,Rel C {σ with objs:=σ.objs++List.replicate k .free} w0 w:=fun k=>by
 refine⟨h.below,h.fxc,fun r x hx=>?_,fun r hr=>h.dom r (by simp at hr;omega),h.new,h.inj,h.sepB,h.sepO,h.fxn,h.gl,h.gs⟩;have hx':(σ.objs++List.replicate k GObj.free)[r]?=some x:=hx;by_cases hr:r<σ.objs.length
 ·rw[aT hr] at hx';exact h.obj r x hx'
 ·rw[bF (by omega),List.getElem?_replicate] at hx';split at hx'
  ·cases hx';exact h.dom r (by omega)
  ·cases hx'
end
