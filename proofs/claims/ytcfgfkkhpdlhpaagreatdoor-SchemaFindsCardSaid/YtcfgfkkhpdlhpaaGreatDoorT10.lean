/-
  A part of the proof of SchemaFinds.
-/
import Derived.Test.YtcfgfkkhpdlhpaaGreatDoorT9
import Derived.OrdersIn
set_option linter.all false
namespace Go.Proofs.YtcfgfkkhpdlhpaaGreatDoor
open Go.RowKit
variable [Globals]
def dC (M:FuncId->Bool):Op->Nat
 |.move _|.pick .. |.build .. |.nilCheck _|.binOp .. |.unOp .. |.convert .. |.makeInterface .. |.typeAssert .. |.makeFunc .. |.slice .. |.fieldAddr .. |.field .. |.indexAddr .. |.index .. |.extract .. =>0
 |.assign (.const (.slice none 0 0))=>2
 |.assign _=>0
 |.load .. |.lookup .. =>1
 |.call {callee:=.builtin .len,..}=>1
 |.call {callee:=.builtin .min,..}|.call {callee:=.builtin .max,..}=>0
 |.call {callee:=.value (.func k),..}=>if M k then 1 else 2
 |_=>2
def nub (l:List Nat):List Nat:=l.foldl (fun acc x=>bif acc.any (fun y=>Nat.beq y x) then acc else x::acc) []
theorem ZX {l:List Nat} {x:Nat} (h:x∈nub l):x∈l:=by
 have key:∀(l acc:List Nat),x∈l.foldl (fun acc x=>bif acc.any (fun y=>Nat.beq y x) then acc else x::acc) acc->x∈acc∨x∈l:=by
  intro l;induction l with
  |nil=>exact fun acc h=>.inl h
  |cons y l ih=>
   intro acc h;rcases ih _ h with h1|h1
   ·have h1:x∈(bif acc.any (fun z=>Nat.beq z y) then acc else y::acc):=h1;cases hb:acc.any (fun z=>Nat.beq z y) with
    |true=>rw[hb] at h1;exact .inl h1
    |false=>
     rw[hb] at h1;rcases List.mem_cons.1 h1 with rfl|h2
     ·exact .inr (fO ..)
     ·exact .inl h2
   ·exact .inr (f6 _ h1)
 rcases key l [] h with h1|h1
 ·cases h1
 ·exact h1
def SR (acc:List (List Nat)) (o:Oper):List Nat:=nub ((o.after.toList.filter (Region.binds .any)).flatMap fun e=>e.on::acc.getD e.on [])
def pH:List Oper->List (List Nat)->List (List Nat)
 |[],acc=>acc
 |o::os,acc=>pH os (acc++[SR acc o])
def calm (M:FuncId->Bool) (ops:Array Oper):Bool:=
 let A:=pH ops.toList []
 (List.range ops.size).all fun j=>
  match ops[j]? with
  |none=>true
  |some oj=>
   (oj.after.all fun e=>!Region.binds .any e||decide (e.on<j))&&
   (List.range j).all fun i=>
    match ops[i]? with
    |none=>true
    |some oi=>(A.getD j []).contains i||
      ((dC M oi.op !=2||dC M oj.op==0)&&(dC M oj.op !=2||dC M oi.op==0)&&oi.apart ops oj)
def NN (P:Program) (M:FuncId->Bool) (call:fT) (n:Nat) (ops:Array Oper) (φ:Fr) (σ:GS):Option (GX×Fr×GS):=
 if calm M ops then
  match BR P call false n ops ops.toList φ σ with
  |some (.normal,φ',σ')=>some (.normal,φ',σ')
  |_=>none
 else none
def dR (M:FuncId->Bool) (call:fT):Prop:=∀k,M k=true->∀args σ r σ',call (.fn k) args σ=some (r,σ')->σ'=σ
section
variable {P : Program} {call : fT} {M : FuncId → Bool} {w0 : World}
theorem rH {ρ:Operand->GV} {x:Operand} {σ:GS} (hk:dC M (.assign x)≠2):rR P ρ (.assign x) σ=some (ρ x,σ):=by
 have h0:iE P ρ (.assign x)=none:=by
  unfold iE;split
  ·rename_i e;cases e;exact absurd rfl hk
  all_goals first
   |rfl
   |(rename_i he;cases he)
 unfold rR;rw[h0];rfl
theorem IO {ρ ρ':Operand->GV} {op:Op} {σ:GS} (h:∀x∈op.operands,ρ x=ρ' x):rR P ρ op σ=rR P ρ' op σ:=by
 have pairs:∀ps:Array (Nat×Operand),(∀x∈(ps.toList.map (·.2)).toArray,ρ x=ρ' x)->(ps.toList.map fun p=>(p.1,ρ p.2))=ps.toList.map fun p=>(p.1,ρ' p.2):=fun ps hp=>
  List.map_congr_left fun p hm=>by rw[hp p.2 (by simp;exact⟨p.1,by simpa using hm⟩)]
 have lst:∀xs:Array Operand,(∀x∈xs,ρ x=ρ' x)->xs.toList.map ρ=xs.toList.map ρ':=fun xs hp=>List.map_congr_left fun x hm=>hp x (by simpa using hm);cases op<;>simp only[Op.operands] at h<;>simp only[rR,iE,pU]
 case assign x=>
  have hx:=h x (by simp);show rR P ρ (.assign x) σ=rR P ρ' (.assign x) σ;by_cases hk:dC (fun _=>false) (.assign x)=2
  ·simp only[dC] at hk;split at hk<;>first
    |(cases hk;done)
    |(rename_i e;cases e;rfl)
    |(rename_i e;cases e;done)
    |(exfalso;simp_all;done)
  ·rw[rH (M:=fun _=>false) hk,rH (M:=fun _=>false) hk,hx]
 case build t ps=>rw[pairs ps h]
 case buildSlice t n ps=>rw[pairs ps h]
 case makeFunc f a c=>rw[lst a (fun x hx=>h x (by simp[hx])),lst c (fun x hx=>h x (by simp[hx]))]
 case makeMap t r=>cases r<;>rfl
 case slice t x lo hi mx=>
  cases lo<;>cases hi<;>cases mx<;>simp_all
 case call c=>
  obtain⟨callee,args,ts⟩:=c;cases callee with
  |builtin b=>simp only;rw[lst args (fun x hx=>h x (by simp[Call.operands,hx]))]
  |_=>rfl
 all_goals first
  |rfl
  |(simp_all;done)
theorem KP {ρ ρ':Operand->GV} {op:Op} (h:∀x∈op.operands,ρ x=ρ' x):iE P ρ op=iE P ρ' op:=by
 have pairs:∀ps:Array (Nat×Operand),(∀x∈(ps.toList.map (·.2)).toArray,ρ x=ρ' x)->(ps.toList.map fun p=>(p.1,ρ p.2))=ps.toList.map fun p=>(p.1,ρ' p.2):=fun ps hp=>
  List.map_congr_left fun p hm=>by rw[hp p.2 (by simp;exact⟨p.1,by simpa using hm⟩)]
 cases op<;>simp only[Op.operands] at h<;>try rfl
 case assign x=>
  by_cases hk:dC (fun _=>false) (.assign x)=2
  ·simp only[dC] at hk;split at hk<;>first
    |(cases hk;done)
    |(rename_i e;cases e;rfl)
    |(rename_i e;cases e;done)
    |(exfalso;simp_all;done)
  ·have h0:∀ρ:Operand->GV,iE P ρ (.assign x)=none:=fun ρ=>by
    unfold iE;split
    ·rename_i e;cases e;exact absurd rfl hk
    all_goals first
     |rfl
     |(rename_i he;cases he)
   rw[h0,h0]
 case box t x=>simp only[iE];rw[h x (by simp)]
 case buildSlice t n ps=>simp only[iE];rw[pairs ps h]
 case makeMap t r=>cases r<;>rfl
theorem wQ {ρ ρ':Operand->GV} {o:Oper} {σ:GS} (h:∀x∈o.op.operands,ρ x=ρ' x):dI P call o ρ σ=dI P call o ρ' σ:=by
 obtain⟨dst,op,type,pos,after,guard⟩:=o;simp only at h;have lst:∀xs:Array Operand,(∀x∈xs,ρ x=ρ' x)->xs.toList.map ρ=xs.toList.map ρ':=fun xs hp=>List.map_congr_left fun x hm=>hp x (by simpa using hm);cases op
 case panic x=>simp only[dI];rw[h x (by simp[Op.operands])]
 case call c=>
  obtain⟨callee,args,ts⟩:=c;have ha:=lst args (fun x hx=>h x (by simp[Op.operands,Call.operands,hx]));cases callee with
  |value f=>simp only[dI];rw[h f (by simp[Op.operands,Call.operands]),ha]
  |invoke r m=>simp only[dI];rw[h r (by simp[Op.operands,Call.operands]),ha]
  |builtin b=>simp only[dI];rw[IO h]
 all_goals simp only[dI];rw[IO h]
theorem mW (hp : dR M call) {o : Oper} {φ : Fr} {σ σ' : GS} {g : GV} (hk : dC M o.op ≠ 2) (h : dI P call o (dA φ) σ = some (.val g, σ')) : σ' = σ := by
  obtain ⟨dst, op, type, pos, after, guard⟩ := o;simp only at hk;have mp : ∀ {x : Option GV} {q : GV × GS}, x.map (fun v => (v, σ)) = some q → q.2 = σ := fun hx => by
    rw [aI] at hx; obtain ⟨a, _, rfl⟩ := hx; rfl
  have fin : ∀ {op : Op}, (∀ q : GV × GS, rR P (dA φ) op σ = some q → q.2 = σ) → (rR P (dA φ) op σ).map (fun x => (GRes.val x.1, x.2)) = some (.val g, σ') → σ' = σ := fun hq hx => by
    rw [aI] at hx;obtain ⟨q, h1, h2⟩ := hx;cases h2;exact hq q h1
  cases op
  case panic x => exact absurd rfl hk
  case call c =>
    obtain ⟨callee, args, ts⟩ := c;cases callee with
    | value f =>
      cases f with
      | func k =>
        simp only [dC] at hk;have hM : M k = true := by
          cases hM : M k with
          | true => rfl
          | false => rw [hM] at hk; exact absurd rfl hk
        have hf : dA φ (.func k) = .fn (.func k) [] [] := rfl;simp only [dI, hf] at h;split at h
        · exact hp k hM _ _ _ _ h
        · rw [aI] at h; obtain ⟨g, _, e⟩ := h; cases e; rfl
      | _ => exact absurd rfl hk
    | invoke r m => exact absurd rfl hk
    | builtin b =>
      simp only [dI] at h;refine fin (fun q hq => ?_) h;simp only [rR, iE, pU] at hq;cases b <;> first
        | exact absurd rfl hk
        | (unfold mK at hq
           split at hq <;> first
             | exact mp hq
             | (cases hq; done)
             | contradiction)
  case assign x =>
    simp only [dI] at h;refine fin (fun q hq => ?_) h;rw [rH (M := M) hk] at hq;cases hq; rfl
  case pick c a b =>
    simp only [dI] at h;refine fin (fun q hq => ?_) h;simp only [rR, iE, pU] at hq;split at hq
    · cases hq; rfl
    · cases hq
  all_goals first
    | exact absurd rfl hk
    | (simp only [dI] at h
       refine fin (fun q hq => ?_) h;simp only [rR, iE, pU] at hq;first
         | (cases hq; rfl)
         | exact mp hq)
theorem vB {o : Oper} {φ : Fr} {σ σ' : GS} {g : GV} (hk : dC M o.op = 0) (h : dI P call o (dA φ) σ = some (.val g, σ')) : σ' = σ ∧ ∀ τ, dI P call o (dA φ) τ = some (.val g, τ) := by
  obtain ⟨dst, op, type, pos, after, guard⟩ := o;simp only at hk;have fin : ∀ {op : Op}, (∀ q : GV × GS, rR P (dA φ) op σ = some q → q.2 = σ ∧ ∀ τ, rR P (dA φ) op τ = some (q.1, τ)) → (rR P (dA φ) op σ).map (fun x => (GRes.val x.1, x.2)) = some (.val g, σ') →
      σ' = σ ∧ ∀ τ, (rR P (dA φ) op τ).map (fun x => (GRes.val x.1, x.2)) = some (.val g, τ) := fun hq hx => by
    rw [aI] at hx;obtain ⟨q, h1, h2⟩ := hx;cases h2;obtain ⟨a, b⟩ := hq q h1;exact ⟨a, fun τ => by rw [b τ]; rfl⟩
  have mp : ∀ {x : Option GV} {q : GV × GS}, x.map (fun v => (v, σ)) = some q → q.2 = σ ∧ ∀ τ : GS, x.map (fun v => (v, τ)) = some (q.1, τ) := fun hx => by
    rw [aI] at hx; obtain ⟨a, rfl, rfl⟩ := hx; exact ⟨rfl, fun _ => rfl⟩
  cases op
  case call c =>
    obtain ⟨callee, args, ts⟩ := c;cases callee with
    | value f =>
      cases f with
      | func k => simp only [dC] at hk; split at hk <;> cases hk
      | _ => cases hk
    | invoke r m => cases hk
    | builtin b =>
      simp only [dI] at h ⊢;refine fin (fun q hq => ?_) h;simp only [rR, iE, pU] at hq ⊢;cases b <;> first
        | (cases hk; done)
        | (unfold mK at hq ⊢
           split at hq <;> first
             | exact mp hq
             | (cases hq; done)
             | contradiction)
  case assign x =>
    simp only [dI] at h ⊢;refine fin (fun q hq => ?_) h;have hk2 : dC M (.assign x) ≠ 2 := by rw [hk]; decide
    rw [rH (M := M) hk2] at hq;cases hq; exact ⟨rfl, fun _ => rH (M := M) hk2⟩
  case pick c a b =>
    simp only [dI] at h ⊢;refine fin (fun q hq => ?_) h;simp only [rR, iE, pU] at hq ⊢;split at hq
    · rename_i t ht
      cases hq; exact ⟨rfl, fun _ => rfl⟩
    · cases hq
  all_goals first
    | (cases hk; done)
    | (simp only [dI] at h ⊢
       refine fin (fun q hq => ?_) h;simp only [rR, iE, pU] at hq ⊢;first
         | (cases hq; exact ⟨rfl, fun _ => rfl⟩)
         | exact mp hq)
structure Trace (P:Program) (call:Nat->fT) (n:Nat) (ops:Array Oper) (Φ:Nat->Fr) (S:Nat->GS) (G:Nat->GV):Prop where
 step:∀(i:Nat) o,ops[i]?=some o->(o.dst.all fun d=>decide (d<n))=true/\Φ (i+1)=iF (Φ i) o.dst (G i)/\
  ((cI ops o (Φ i)=some false/\G i=.tup []/\S (i+1)=S i)∨(cI ops o (Φ i)=some true/\dI P (call i) o (dA (Φ i)) (S i)=some (.val (G i),S (i+1))))
theorem EK {n:Nat} {ops:Array Oper}:∀(l:List Oper) (k:Nat) (φ φ':Fr) (σ σ':GS),(∀j:Nat,j<l.length->l[j]?=ops[k+j]?)->BR P call false n ops l φ σ=some (.normal,φ',σ')->
  ∃(Φ:Nat->Fr) (S:Nat->GS) (G:Nat->GV),Φ k=φ/\S k=σ/\Φ (k+l.length)=φ'/\S (k+l.length)=σ'/\
   ∀(i:Nat) o,k<=i->i<k+l.length->ops[i]?=some o->(o.dst.all fun d=>decide (d<n))=true/\Φ (i+1)=iF (Φ i) o.dst (G i)/\
    ((cI ops o (Φ i)=some false/\G i=.tup []/\S (i+1)=S i)∨(cI ops o (Φ i)=some true/\dI P call o (dA (Φ i)) (S i)=some (.val (G i),S (i+1))))
 |[],k,φ,φ',σ,σ',hl,hg=>by
  cases hg;exact⟨fun _=>φ,fun _=>σ,fun _=>.any,rfl,rfl,rfl,rfl,fun i o hi hi2=>by simp at hi2;omega⟩
 |o::l,k,φ,φ',σ,σ',hl,hg=>by
  have ho:ops[k]?=some o:=by have:=hl 0 (by simp);simpa using this.symm
  simp only[BR] at hg;split at hg
  ·rename_i hd;have go:∀(g:GV) (σ1:GS),BR P call false n ops l (iF φ o.dst g) σ1=some (.normal,φ',σ')->
     ((cI ops o φ=some false/\g=.tup []/\σ1=σ)∨(cI ops o φ=some true/\dI P call o (dA φ) σ=some (.val g,σ1)))->
     ∃(Φ:Nat->Fr) (S:Nat->GS) (G:Nat->GV),Φ k=φ/\S k=σ/\Φ (k+(o::l).length)=φ'/\S (k+(o::l).length)=σ'/\
      ∀(i:Nat) o',k<=i->i<k+(o::l).length->ops[i]?=some o'->(o'.dst.all fun d=>decide (d<n))=true/\Φ (i+1)=iF (Φ i) o'.dst (G i)/\
       ((cI ops o' (Φ i)=some false/\G i=.tup []/\S (i+1)=S i)∨(cI ops o' (Φ i)=some true/\dI P call o' (dA (Φ i)) (S i)=some (.val (G i),S (i+1)))):=by
    intro g σ1 hrest hstep;obtain⟨Φ,S,G,e1,e2,e3,e4,e5⟩:=EK l (k+1) _ φ' σ1 σ' (fun j hj=>by have:=hl (j+1) (by simp;omega);rw[show k+1+j=k+(j+1) by omega];simpa using this) hrest;refine⟨fun i=>if i=k then φ else Φ i,fun i=>if i=k then σ else S i,fun i=>if i=k then g else G i,aG rfl,aG rfl,?_,?_,fun i o' hi hi2 ho'=>?_⟩
    ·show(if k+(l.length+1)=k then φ else Φ (k+(l.length+1)))=φ';rw[aE (by omega),show k+(l.length+1)=k+1+l.length by omega];exact e3
    ·show(if k+(l.length+1)=k then σ else S (k+(l.length+1)))=σ';rw[aE (by omega),show k+(l.length+1)=k+1+l.length by omega];exact e4
    ·by_cases hik:i=k
     ·subst hik;rw[ho] at ho';cases ho';simp only[fP,aE (show i+1≠i by omega),e1,e2];exact⟨hd,trivial,hstep⟩
     ·simp only[aE hik,aE (show i+1≠k by omega)];exact e5 i o' (by omega) (by simp at hi2;omega) ho'
   split at hg
   ·rename_i hw;exact go (.tup []) σ hg (.inl ⟨hw,rfl,rfl⟩)
   ·rename_i hw;simp only[bT,fR] at hg;split at hg
    ·rename_i g σ1 hop;exact go g σ1 hg (.inr ⟨hw,hop⟩)
    ·cases hg
    ·cases hg
   ·cases hg
  ·cases hg
end
def pI (ops:Array Oper) (L:Array Bool):Prop:=∀(j:Nat) o,ops[j]?=some o->L.getD j false=true->∀e∈o.after,Region.binds .any e=true->L.getD e.on false=true
theorem H5:∀(os:List Oper) (acc:List (List Nat)) (j:Nat),j<acc.length->(pH os acc)[j]?=acc[j]?
 |[],acc,j,h=>rfl
 |o::os,acc,j,h=>by rw[pH,H5 os _ j (by simp;omega),aT h]
theorem OA:∀(os:List Oper) (acc:List (List Nat)) (j:Nat) o,os[j]?=some o->∃acc':List (List Nat),(∀(k:Nat) (l:List Nat),acc'[k]?=some l->(pH os acc)[k]?=some l)/\acc'.length=acc.length+j/\
  (pH os acc)[acc.length+j]?=some (SR acc' o)
 |[],acc,j,o,h=>by simp at h
 |o'::os,acc,0,o,h=>by
  simp at h;subst h;refine⟨acc,fun k l hk=>?_,by simp,?_⟩
  ·have hlt:=(List.getElem?_eq_some_iff.1 hk).1;rw[H5 _ acc k hlt];exact hk
  ·rw[pH,Nat.add_zero,H5 os _ acc.length (by simp)];simp
 |o'::os,acc,j+1,o,h=>by
  obtain⟨acc',h1,h2,h3⟩:=OA os (acc++[SR acc o']) j o (by simpa using h);exact⟨acc',fun k l hk=>by rw[pH];exact h1 k l hk,by rw[h2];simp;omega,by rw[pH,<-h3];congr 1;simp;omega⟩
theorem uE {ops:Array Oper} {L:Array Bool} (hc:pI ops L):∀(j:Nat) o,ops[j]?=some o->(∀e∈o.after,Region.binds .any e=true->L.getD e.on false=true)->
  ∀i∈(pH ops.toList []).getD j [],L.getD i false=true:=by
 intro j;induction j using Nat.strongRecOn with
 |_ j ih=>
  intro o ho hready i hi;obtain⟨acc',h1,h2,h3⟩:=OA ops.toList [] j o (by simpa using ho);simp only[b5,bB] at h2 h3;rw[aO,h3,Option.getD_some] at hi;unfold SR at hi;replace hi:=ZX hi;rw[List.mem_flatMap] at hi;obtain⟨e,he,hie⟩:=hi;rw[List.mem_filter] at he;have hel:=hready e (by simpa using he.1) he.2;rcases List.mem_cons.1 hie with rfl|hie
  ·exact hel
  ·rw[aO] at hie;cases hk:acc'[e.on]? with
   |none=>rw[hk] at hie;simp at hie
   |some l=>
    rw[hk,Option.getD_some] at hie;have hlt:e.on<j:=by rw[<-h2];exact(List.getElem?_eq_some_iff.1 hk).1
    have hjs:j<ops.size:=(Array.getElem?_eq_some_iff.1 ho).1;have hoe:ops[e.on]?=some (ops[e.on]'(by omega)):=aR (by omega);refine ih e.on hlt _ hoe (fun e' he' hb'=>hc _ _ hoe hel e' he' hb') i ?_;rw[aO,h1 _ _ hk];exact hie
def jH (ops:Array Oper) (i:Nat):Option Tmp:=(ops[i]?).bind (·.dst)
def nQ (ops:Array Oper) (G:Nat->GV) (φ:Fr) (L:Array Bool):Nat->Fr
 |0=>φ
 |k+1=>if L.getD k false then iF (nQ ops G φ L k) (jH ops k) (G k) else nQ ops G φ L k
def vW (S:Nat->GS) (W:Nat->Bool) (L:Array Bool):Nat->GS
 |0=>S 0
 |k+1=>if L.getD k false&&W k then S (k+1) else vW S W L k
def sR (L:Array Bool):Nat->Nat
 |0=>0
 |k+1=>sR L k+if L.getD k false then 0 else 1
theorem iA {φ:Fr} {d:Option Tmp} {g:GV} {t:Nat}:iF φ d g t=if d=some t then g else φ t:=by
 cases d with
 |none=>simp[iF]
 |some d=>
  show(if t=d then g else φ t)=_;by_cases h:t=d
  ·subst h;simp
  ·rw[aE h,aE (fun e=>h (aY e).symm)]
section
variable {P : Program} {call : Nat → fT} {M : FuncId → Bool} {w0 : World} {n : Nat} {ops : Array Oper} {Φ : Nat → Fr} {S : Nat → GS} {G : Nat → GV}
theorem Trace.put (T:Trace P call n ops Φ S G) (i:Nat) (hi:i<ops.size) (t:Nat):Φ (i+1) t=if jH ops i=some t then G i else Φ i t:=by
 have ho:ops[i]?=some (ops[i]'hi):=aR hi;rw[(T.step i _ ho).2.1,iA,jH,ho,bY]
theorem GI (T:Trace P call n ops Φ S G) {L:Array Bool} {j t:Nat} (hw:∀i,i<ops.size->jH ops i=some t->(i<j->L.getD i false=true)/\(j<=i->L.getD i false=false)):
  ∀k,k<=ops.size->nQ ops G (Φ 0) L k t=Φ (min k j) t
 |0,_=>by simp[nQ]
 |k+1,hk=>by
  have ih:=GI T hw k (by omega);have hp:=T.put k (by omega) t;simp only[nQ];by_cases hd:jH ops k=some t
  ·obtain⟨h1,h2⟩:=hw k (by omega) hd;by_cases hkj:k<j
   ·rw[h1 hkj,aG rfl,iA,aG hd,show min (k+1) j=k+1 by omega,hp,aG hd]
   ·rw[h2 (by omega)];simp only[bT,fR];rw[ih,show min (k+1) j=min k j by omega]
  ·have e:(if L.getD k false=true then iF (nQ ops G (Φ 0) L k) (jH ops k) (G k) else nQ ops G (Φ 0) L k) t=nQ ops G (Φ 0) L k t:=by
    split
    ·rw[iA,aE hd]
    ·rfl
   rw[e,ih];by_cases hkj:k<j
   ·rw[show min (k+1) j=k+1 by omega,show min k j=k by omega,hp,aE hd]
   ·rw[show min (k+1) j=min k j by omega]
theorem FU {W:Nat->Bool} {L:Array Bool} {j:Nat} (hstill:∀i,i<ops.size->W i=false->S (i+1)=S i)
  (hw:∀i,i<ops.size->W i=true->(i<j->L.getD i false=true)/\(j<=i->L.getD i false=false)):∀k,k<=ops.size->vW S W L k=S (min k j)
 |0,_=>by simp[vW]
 |k+1,hk=>by
  have ih:=FU hstill hw k (by omega);simp only[vW];cases hW:W k with
  |true=>
   obtain⟨h1,h2⟩:=hw k (by omega) hW;by_cases hkj:k<j
   ·rw[h1 hkj,show min (k+1) j=k+1 by omega];rfl
   ·rw[h2 (by omega)];simp only[Bool.false_and,bT,fR];rw[ih,show min (k+1) j=min k j by omega]
  |false=>
   simp only[Bool.and_false,bT,fR];rw[ih];by_cases hkj:k<j
   ·rw[show min (k+1) j=k+1 by omega,show min k j=k by omega,hstill k (by omega) hW]
   ·rw[show min (k+1) j=min k j by omega]
theorem u5 {φ:Fr} {L L':Array Bool} {j t:Nat} (hL:∀i,i≠j->L'.getD i false=L.getD i false) (hd:jH ops j≠some t):∀k,nQ ops G φ L' k t=nQ ops G φ L k t
 |0=>rfl
 |k+1=>by
  have ih:=u5 (φ:=φ) hL hd k;simp only[nQ];by_cases hk:k=j
  ·subst hk;have e:∀L:Array Bool,(if L.getD k false=true then iF (nQ ops G φ L k) (jH ops k) (G k) else nQ ops G φ L k) t=nQ ops G φ L k t:=fun L=>by
    split
    ·rw[iA,aE hd]
    ·rfl
   rw[e,e,ih]
  ·rw[hL k hk];split
   ·rw[iA,iA,ih]
   ·exact ih
theorem BO {W:Nat->Bool} {L L':Array Bool} {j:Nat} (hL:∀i,i≠j->L'.getD i false=L.getD i false) (hd:W j=false):∀k,vW S W L' k=vW S W L k
 |0=>rfl
 |k+1=>by
  simp only[vW];rw[BO hL hd k];by_cases hk:k=j
  ·subst hk;rw[hd];simp
  ·rw[hL k hk]
theorem AM {L L':Array Bool} {j:Nat} (hL:∀i,i≠j->L'.getD i false=L.getD i false) (hj:L'.getD j false=true) (hj0:L.getD j false=false):∀k,sR L' k<=sR L k/\(j<k->sR L' k+1<=sR L k)
 |0=>⟨rL _,fun h=>by omega⟩
 |k+1=>by
  obtain⟨h1,h2⟩:=AM hL hj hj0 k;simp only[sR];by_cases hk:k=j
  ·subst hk;rw[hj,hj0];simp;omega
  ·rw[hL k hk];exact⟨by omega,fun h=>by have:=h2 (by omega);omega⟩
theorem xW {L:Array Bool}:∀k,sR L k=0->∀i,i<k->L.getD i false=true
 |0,_,i,h=>by omega
 |k+1,hc,i,h=>by
  simp only[sR] at hc;by_cases hi:i=k
  ·subst hi;cases hb:L.getD i false with
   |true=>rfl
   |false=>rw[hb] at hc;simp at hc
  ·exact xW k (by omega) i (by omega)
theorem qP (hc:calm M ops=true) {i j:Nat} {oi oj:Oper} (hi:ops[i]?=some oi) (hj:ops[j]?=some oj) (hij:i<j):
  i∈(pH ops.toList []).getD j []∨((dC M oi.op≠2∨dC M oj.op=0)/\(dC M oj.op≠2∨dC M oi.op=0)/\oi.apart ops oj=true):=by
 unfold calm at hc;simp only[aS,f5] at hc;have h1:=hc j (Array.getElem?_eq_some_iff.1 hj).1;simp only[hj,aH,aS,f5] at h1;have h2:=h1.2 i hij;simp only[hi,eY,aH,List.contains_iff_mem,bne_iff_ne,dE] at h2;rcases h2 with h2|⟨⟨h2,h3⟩,h4⟩
 ·exact .inl h2
 ·exact .inr ⟨h2,h3,h4⟩
theorem UJ (hc:calm M ops=true) {j:Nat} {oj:Oper} (hj:ops[j]?=some oj):∀e∈oj.after,Region.binds .any e=true->e.on<j:=by
 unfold calm at hc;simp only[aS,f5] at hc;have h1:=hc j (Array.getElem?_eq_some_iff.1 hj).1;simp only[hj,aH] at h1;intro e he hb;have h2:=(Array.all_eq_true_iff_forall_mem.1 h1.1) e he;simpa[hb] using h2
theorem GR (hm:P.follows .mixedOrders=true) (hcall:∀i,bZ P w0 (call i)) (hpure:∀i,dR M (call i)) {ro:Option Nat} {C:Cx} {φ φ':Fr} {σ σ':GS} {id:Nat} {Q:Exit->Act->World->Prop} {a:Act} {w:World}
  (hcalm:calm M ops=true) (T:Trace P call n ops Φ S G) (e1:Φ 0=φ) (e2:S 0=σ) (e3:Φ ops.size=φ') (e4:S ops.size=σ')
  (hr:Rel C σ w0 w) (hf:FRel C φ a) (hn:a.tmps.size=n) (hd0:DRel C σ.ds a.defers) (hq:QOk w0 C Q n .normal φ' σ'):(Code.region id ops true).wpIn (FW ro) 0 P Q a w:=by
 let W:Nat->Bool:=fun i=>match ops[i]? with
  |some o=>dC M o.op==2
  |none=>false
 have hW:∀i o,ops[i]?=some o->(W i=(dC M o.op==2)):=fun i o ho=>by simp only[W,ho]
 have hstill:∀i,i<ops.size->W i=false->S (i+1)=S i:=fun i hi hw=>by
  have ho:ops[i]?=some (ops[i]'hi):=aR hi;rcases(T.step i _ ho).2.2 with⟨_,_,h⟩|⟨_,h⟩
  ·exact h
  ·rw[hW i _ ho] at hw;exact mW (hpure _) (by simpa using hw) h
 have hds:σ'.ds=σ.ds:=by
  have hall:∀k,k<=ops.size->(S k).ds=(S 0).ds:=fun k=>by
   induction k with
   |zero=>intro _;rfl
   |succ k ih=>
    intro hk;have ho:ops[k]?=some (ops[k]'(by omega)):=aR (by omega);rw[<-ih (by omega)];rcases(T.step k _ ho).2.2 with⟨_,_,h⟩|⟨_,h⟩
    ·rw[h]
    ·exact nL (hcall _) h
  rw[<-e4,<-e2];exact hall _ (rL _)
 have ahead:∀(L:Array Bool),pI ops L->∀(i j:Nat) oi oj,ops[i]?=some oi->ops[j]?=some oj->i<j->i∈(pH ops.toList []).getD j []->
   ((∀e∈oj.after,Region.binds .any e=true->L.getD e.on false=true)->L.getD i false=true)/\(L.getD i false=false->L.getD j false=false):=fun L hc i j oi oj hi hj hij hanc=>by
  refine⟨fun hready=>uE hc j oj hj hready i hanc,fun hni=>?_⟩;cases hjl:L.getD j false with
  |false=>rfl
  |true=>
   have:=uE hc j oj hj (fun e he hb=>hc j oj hj hjl e he hb) i hanc;rw[hni] at this;cases this
 have key:∀(fuel:Nat) (L:Array Bool) (D:Cx) (a':Act) (w':World),L.size=ops.size->pI ops L->sR L ops.size<=fuel->C.le D->Rel D (vW S W L ops.size) w0 w'->
   FRel D (nQ ops G (Φ 0) L ops.size) a'->a'.tmps.size=n->a'.defers=a.defers->wpAnyIn (FW ro) 0 P .any ops Q fuel L a' w':=by
  intro fuel;induction fuel with
  |zero=>
   intro L D a' w' hLs hc hcnt hl hrel hfr hna hda;have hall:=xW (L:=L) ops.size (by omega);have hend:Region.ready .any ops L=[]:=by
    apply List.eq_nil_iff_forall_not_mem.2;intro j hj;obtain⟨hj0,o,ho,_⟩:=mem_ready.1 hj;have hjs:=(Array.getElem?_eq_some_iff.1 ho).1;have:=hall j hjs;rw[aU] at this hj0;cases hx:L[j]? with
    |none=>rw[hx] at this;simp at this
    |some b=>rw[hx] at this hj0;simp at this hj0;rw[this] at hj0;cases hj0
   have hfin1:nQ ops G (Φ 0) L ops.size=φ':=by
    funext t;rw[GI T (j:=ops.size) (fun i hi _=>⟨fun _=>hall i hi,fun h=>by omega⟩) ops.size (rL _),Nat.min_self,e3]
   have hfin2:vW S W L ops.size=σ':=by
    rw[FU hstill (j:=ops.size) (fun i hi _=>⟨fun _=>hall i hi,fun h=>by omega⟩) ops.size (rL _),Nat.min_self,e4]
   rw[hfin1] at hfr;rw[hfin2] at hrel;exact⟨hend,hq D a' w' hl hfr hna (by rw[hda,hds];exact hd0.mono hl) hrel⟩
  |succ fuel ih=>
   intro L D a' w' hLs hc hcnt hl hrel hfr hna hda;refine⟨fun hend=>?_,fun j hj=>?_⟩
   ·
    have hall:∀i,i<ops.size->L.getD i false=true:=by
     intro i;induction i using Nat.strongRecOn with
     |_ i ihi=>
      intro hi;cases hb:L.getD i false with
      |true=>rfl
      |false=>
       have ho:ops[i]?=some (ops[i]'hi):=aR hi;have:i∈Region.ready .any ops L:=mem_ready.2 ⟨by
        rw[aU] at hb⊢;rw[aR (by omega:i<L.size)] at hb⊢;simpa using hb,_,ho,fun e he hbe=>by
         have:=UJ hcalm ho e he hbe;exact ihi e.on this (by omega)⟩
       rw[hend] at this;cases this
    have hfin1:nQ ops G (Φ 0) L ops.size=φ':=by
     funext t;rw[GI T (j:=ops.size) (fun i hi _=>⟨fun _=>hall i hi,fun h=>by omega⟩) ops.size (rL _),Nat.min_self,e3]
    have hfin2:vW S W L ops.size=σ':=by
     rw[FU hstill (j:=ops.size) (fun i hi _=>⟨fun _=>hall i hi,fun h=>by omega⟩) ops.size (rL _),Nat.min_self,e4]
    rw[hfin1] at hfr;rw[hfin2] at hrel;exact hq D a' w' hl hfr hna (by rw[hda,hds];exact hd0.mono hl) hrel
   ·obtain⟨hj0,o,ho,hready⟩:=mem_ready.1 hj;have hjs:=(Array.getElem?_eq_some_iff.1 ho).1;have hjn:L.getD j false=false:=by
     rw[aU] at hj0⊢;rw[aR (by omega:j<L.size)] at hj0⊢;simpa using hj0
    let L':=L.setIfInBounds j true;have hL'o:∀i,i≠j->L'.getD i false=L.getD i false:=fun i hi=>getD_set_ne false (j7 hi);have hL'j:L'.getD j false=true:=by
     simp[L',aU,show j<L.size by omega]
    have hc':pI ops L':=fun k ok hk hkl e he hb=>by
     by_cases hkj:k=j
     ·subst hkj;rw[ho] at hk;cases hk;exact getD_set_true (hready e he hb)
     ·rw[hL'o k hkj] at hkl;exact getD_set_true (hc k ok hk hkl e he hb)
    have hcnt':sR L' ops.size<=fuel:=by
     have:=(AM hL'o hL'j hjn ops.size).2 hjs;omega
    have names:∀t,(t∈o.looksAt ops∨o.dst=some t)->∀i,i<ops.size->jH ops i=some t->(i<j->L.getD i false=true)/\(j<=i->L.getD i false=false):=fun t ht i hi hd=>by
     have hoi:ops[i]?=some (ops[i]'hi):=aR hi;have hdi:(ops[i]'hi).dst=some t:=by rw[jH,hoi,bY] at hd;exact hd
     refine⟨fun hij=>?_,fun hij=>?_⟩
     ·rcases qP hcalm hoi ho hij with h1|⟨_,_,h1⟩
      ·exact(ahead L hc i j _ _ hoi ho hij h1).1 hready
      ·obtain⟨a1,a2,a3⟩:=Oper.apart_spec h1;rcases ht with ht|ht
       ·exact absurd ht (a1 t hdi)
       ·exact absurd ht (a2 t hdi)
     ·by_cases hij2:i=j
      ·subst hij2;exact hjn
      ·rcases qP hcalm ho hoi (by omega) with h1|⟨_,_,h1⟩
       ·exact(ahead L hc j i _ _ ho hoi (by omega) h1).2 hjn
       ·obtain⟨a1,a2,a3⟩:=Oper.apart_spec h1;rcases ht with ht|ht
        ·exact absurd ht (a3 t hdi)
        ·exact absurd hdi (a2 t ht)
    have hframe:∀t,(t∈o.looksAt ops∨o.dst=some t)->nQ ops G (Φ 0) L ops.size t=Φ j t:=fun t ht=>by
     rw[GI T (names t ht) ops.size (rL _),show min ops.size j=j by omega]
    have hheap:dC M o.op≠0->vW S W L ops.size=S j:=fun hk=>by
     rw[FU hstill (j:=j) (fun i hi hWi=>?_) ops.size (rL _),show min ops.size j=j by omega];have hoi:ops[i]?=some (ops[i]'hi):=aR hi;rw[hW i _ hoi] at hWi;have hWi:dC M (ops[i]'hi).op=2:=by simpa using hWi
     refine⟨fun hij=>?_,fun hij=>?_⟩
     ·rcases qP hcalm hoi ho hij with h1|⟨h1,h2,_⟩
      ·exact(ahead L hc i j _ _ hoi ho hij h1).1 hready
      ·rcases h1 with h1|h1
       ·exact absurd hWi h1
       ·exact absurd h1 hk
     ·by_cases hij2:i=j
      ·subst hij2;exact hjn
      ·rcases qP hcalm ho hoi (by omega) with h1|⟨h1,h2,_⟩
       ·exact(ahead L hc j i _ _ ho hoi (by omega) h1).2 hjn
       ·rcases h2 with h2|h2
        ·exact absurd hWi h2
        ·exact absurd h2 hk
    have hnewheap:dC M o.op=2->vW S W L' ops.size=S (j+1):=fun hk=>by
     rw[FU hstill (j:=j+1) (fun i hi hWi=>?_) ops.size (rL _),show min ops.size (j+1)=j+1 by omega];have hoi:ops[i]?=some (ops[i]'hi):=aR hi;rw[hW i _ hoi] at hWi;have hWi:dC M (ops[i]'hi).op=2:=by simpa using hWi
     refine⟨fun hij=>?_,fun hij=>?_⟩
     ·by_cases hij2:i=j
      ·subst hij2;exact hL'j
      ·rw[hL'o i hij2];rcases qP hcalm hoi ho (by omega) with h1|⟨h1,h2,_⟩
       ·exact(ahead L hc i j _ _ hoi ho (by omega) h1).1 hready
       ·rcases h1 with h1|h1
        ·exact absurd hWi h1
        ·omega
     ·rw[hL'o i (by omega)];rcases qP hcalm ho hoi (by omega) with h1|⟨h1,h2,_⟩
      ·exact(ahead L hc j i _ _ ho hoi (by omega) h1).2 hjn
      ·rcases h2 with h2|h2
       ·exact absurd hWi h2
       ·omega
    have hsameheap:dC M o.op≠2->vW S W L' ops.size=vW S W L ops.size:=fun hk=>BO hL'o (by rw[hW j o ho];simpa using hk) _;have hnewframe:∀t,nQ ops G (Φ 0) L' ops.size t=if o.dst=some t then G j else nQ ops G (Φ 0) L ops.size t:=fun t=>by
     by_cases hd:o.dst=some t
     ·rw[aG hd,GI T (j:=j+1) (fun i hi hdi=>?_) ops.size (rL _),show min ops.size (j+1)=j+1 by omega,T.put j hjs t,jH,ho,bY,aG hd];obtain⟨h1,h2⟩:=names t (.inr hd) i hi hdi;refine⟨fun hij=>?_,fun hij=>?_⟩
      ·by_cases hij2:i=j
       ·subst hij2;exact hL'j
       ·rw[hL'o i hij2];exact h1 (by omega)
      ·rw[hL'o i (by omega)];exact h2 (by omega)
     ·rw[aE hd];exact u5 hL'o (by rw[jH,ho,bY];exact hd) _
    have next:∀(E:Cx) (v:Value) (w'':World),D.le E->Rel E (vW S W L' ops.size) w0 w''->VR E (G j) v->wpAnyIn (FW ro) 0 P .any ops Q fuel L' (a'.put o.dst v) w'':=fun E v w'' hE hrelE hv=>by
     obtain⟨p1,p2,p3⟩:=(hfr.mono hE).put hv hna (T.step j o ho).1;refine ih L' E _ w'' (by simp[L',hLs]) hc' hcnt' (hl.trans hE) hrelE (fun t=>?_) p2 (p3.trans hda);rw[hnewframe t];have:=p1 t;rw[iA] at this;exact this
    have hwant:cI ops o (nQ ops G (Φ 0) L ops.size)=cI ops o (Φ j):=by
     unfold cI;cases hgd:o.guard with
     |none=>rfl
     |some gw=>
      obtain⟨k,want⟩:=gw;simp only;congr 1;unfold z7;cases hdk:(ops[k]?).bind (·.dst) with
      |none=>rfl
      |some d=>
       simp only;rw[hframe d (.inl (by simp[Oper.looksAt,hgd,hdk]))]
    unfold wpOpIn;simp only[ho];rcases(T.step j o ho).2.2 with⟨hw0,hG,hS⟩|⟨hw1,hop⟩
    ·rw[fM hfr (hwant.trans hw0)];simp only[bT,fR];refine⟨fun _ _=>trivial,next D undef w' (.refl D) ?_ (by rw[hG];exact vZ D)⟩;by_cases hk2:dC M o.op=2
     ·rw[hnewheap hk2,hS,<-hheap (by omega)];exact hrel
     ·rw[hsameheap hk2];exact hrel
    ·rw[fM hfr (hwant.trans hw1)];simp only[fP];have hcong:∀τ,dI P (call j) o (dA (nQ ops G (Φ 0) L ops.size)) τ=dI P (call j) o (dA (Φ j)) τ:=fun τ=>wQ (fun x hx=>by
      cases x with
      |tmp t=>exact hframe t (.inl (by
        unfold Oper.looksAt;exact eR _ (List.mem_filterMap.2 ⟨.tmp t,by simpa using hx,rfl⟩)))
      |_=>rfl)
     have hrun:dI P (call j) o (dA (nQ ops G (Φ 0) L ops.size)) (vW S W L ops.size)=some (.val (G j),vW S W L' ops.size):=by
      rw[hcong];by_cases hk0:dC M o.op=0
      ·rw[hsameheap (by omega)];exact(vB hk0 hop).2 _
      ·rw[hheap hk0,hop];by_cases hk2:dC M o.op=2
       ·rw[hnewheap hk2]
       ·rw[hsameheap hk2,hheap hk0,mW (hpure _) hk2 hop]
     refine j4 (hcall j) hrel (dQ hfr) hrun (fun g E v w'' eg hE hrE hv=>?_) (fun g E v w'' eg=>by cases eg);cases eg;exact next E v w'' hE hrE hv
 refine wpIn_region_any hm (key ops.size (Array.replicate ops.size false) C a _ (by simp) (fun j o ho hj=>?_) ?_ (.refl C) ?_ ?_ hn rfl)
 ·have hjs:=(Array.getElem?_eq_some_iff.1 ho).1;simp[aU,hjs] at hj
 ·have:∀(L:Array Bool) k,sR L k<=k:=fun L k=>by
   induction k with
   |zero=>exact rL _
   |succ k ih=>simp only[sR];split<;>omega
  exact this _ _
 ·have:∀k,vW S W (Array.replicate ops.size false) k=S 0:=fun k=>by
   induction k with
   |zero=>rfl
   |succ k ih=>
    simp only[vW];rw[aE (by simp[aU,iP];intro h1;split at h1<;>simp at h1),ih]
  rw[this,e2];exact hr.drew
 ·have:∀k,nQ ops G (Φ 0) (Array.replicate ops.size false) k=Φ 0:=fun k=>by
   induction k with
   |zero=>rfl
   |succ k ih=>
    simp only[nQ];rw[aE (by simp[aU,iP];split<;>simp),ih]
  rw[this,e1];exact hf
end
section
variable {P : Program} {call : fT} {M : FuncId → Bool} {w0 : World} {n : Nat} {ops : Array Oper}
theorem NK (hm:P.follows .mixedOrders=true) (hcall:bZ P w0 call) (hpure:dR M call) {ro:Option Nat} {C:Cx} {φ φ':Fr} {σ σ':GS} {x:GX} {id:Nat} {Q:Exit->Act->World->Prop} {a:Act} {w:World}
  (hg:NN P M call n ops φ σ=some (x,φ',σ')) (hr:Rel C σ w0 w) (hf:FRel C φ a) (hn:a.tmps.size=n) (hd0:DRel C σ.ds a.defers) (hq:QOk w0 C Q n x φ' σ'):(Code.region id ops true).wpIn (FW ro) 0 P Q a w:=by
 unfold NN at hg;split at hg
 ·rename_i hcalm;split at hg
  ·rename_i φ1 σ1 hops;cases hg;obtain⟨Φ,S,G,e1,e2,e3,e4,e5⟩:=EK ops.toList 0 φ φ' σ σ' (fun j _=>by simp) hops;rw[bB,bJ] at e3 e4;exact GR hm (fun _=>hcall) (fun _=>hpure) hcalm (⟨fun i o ho=>e5 i o (zL _) (by have:=(Array.getElem?_eq_some_iff.1 ho).1;simp;omega) ho⟩:Trace P (fun _=>call) n ops Φ S G) e1 e2 e3 e4 hr hf hn hd0 hq
  ·cases hg
 ·cases hg
end
