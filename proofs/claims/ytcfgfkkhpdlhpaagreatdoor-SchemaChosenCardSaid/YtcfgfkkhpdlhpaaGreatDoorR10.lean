/-
  A part of the proof of SchemaChosen.
-/
import Derived.Test.YtcfgfkkhpdlhpaaGreatDoorR9
import Derived.OrdersIn
set_option linter.all false
namespace Go.Proofs.YtcfgfkkhpdlhpaaGreatDoor
open Go.RowKit
variable [Globals]
def d9 (M:FuncId->Bool):Op->Nat
 |.move _|.pick .. |.build .. |.nilCheck _|.binOp .. |.unOp .. |.convert .. |.makeInterface .. |.typeAssert .. |.makeFunc .. |.slice .. |.fieldAddr .. |.field .. |.indexAddr .. |.index .. |.extract .. =>0
 |.assign (.const (.slice none 0 0))=>2
 |.assign _=>0
 |.load .. |.lookup .. =>1
 |.call {callee:=.builtin .len,..}=>1
 |.call {callee:=.builtin .min,..}|.call {callee:=.builtin .max,..}=>0
 |.call {callee:=.value (.func k),..}=>if M k then 1 else 2
 |_=>2
def nub (l:List Nat):List Nat:=l.foldl (fun acc x=>bif acc.any (fun y=>Nat.beq y x) then acc else x::acc) []
theorem YX {l:List Nat} {x:Nat} (h:x∈nub l):x∈l:=by
 have key:∀(l acc:List Nat),x∈l.foldl (fun acc x=>bif acc.any (fun y=>Nat.beq y x) then acc else x::acc) acc->x∈acc∨x∈l:=by
  intro l;induction l with
  |nil=>exact fun acc h=>.inl h
  |cons y l ih=>
   intro acc h;rcases ih _ h with h1|h1
   ·have h1:x∈(bif acc.any (fun z=>Nat.beq z y) then acc else y::acc):=h1;cases hb:acc.any (fun z=>Nat.beq z y) with
    |true=>rw[hb] at h1;exact .inl h1
    |false=>
     rw[hb] at h1;rcases List.mem_cons.1 h1 with rfl|h2
     ·exact .inr (List.mem_cons_self ..)
     ·exact .inl h2
   ·exact .inr (iP _ h1)
 rcases key l [] h with h1|h1
 ·cases h1
 ·exact h1
def RS (acc:List (List Nat)) (o:Oper):List Nat:=nub ((o.after.toList.filter (Region.binds .any)).flatMap fun e=>e.on::acc.getD e.on [])
def oT:List Oper->List (List Nat)->List (List Nat)
 |[],acc=>acc
 |o::os,acc=>oT os (acc++[RS acc o])
def calm (M:FuncId->Bool) (ops:Array Oper):Bool:=
 let A:=oT ops.toList []
 (List.range ops.size).all fun j=>
  match ops[j]? with
  |none=>true
  |some oj=>
   (oj.after.all fun e=>!Region.binds .any e||decide (e.on<j))&&
   (List.range j).all fun i=>
    match ops[i]? with
    |none=>true
    |some oi=>(A.getD j []).contains i||
      ((d9 M oi.op !=2||d9 M oj.op==0)&&(d9 M oj.op !=2||d9 M oi.op==0)&&oi.apart ops oj)
def MW (P:Program) (M:FuncId->Bool) (call:fO) (n:Nat) (ops:Array Oper) (φ:Fr) (σ:GS):Option (GX×Fr×GS):=
 if calm M ops then
  match BM P call false n ops ops.toList φ σ with
  |some (.normal,φ',σ')=>some (.normal,φ',σ')
  |_=>none
 else none
def dO (M:FuncId->Bool) (call:fO):Prop:=∀k,M k=true->∀args σ r σ',call (.fn k) args σ=some (r,σ')->σ'=σ
section
variable {P : Program} {call : fO} {M : FuncId → Bool} {w0 : World}
theorem r8 {ρ:Operand->GV} {x:Operand} {σ:GS} (hk:d9 M (.assign x)≠2):rK P ρ (.assign x) σ=some (ρ x,σ):=by
 have h0:hY P ρ (.assign x)=none:=by
  unfold hY;split
  ·rename_i e;cases e;exact absurd rfl hk
  all_goals first
   |rfl
   |(rename_i he;cases he)
 unfold rK;rw[h0];rfl
theorem I6 {ρ ρ':Operand->GV} {op:Op} {σ:GS} (h:∀x∈op.operands,ρ x=ρ' x):rK P ρ op σ=rK P ρ' op σ:=by
 have pairs:∀ps:Array (Nat×Operand),(∀x∈(ps.toList.map (·.2)).toArray,ρ x=ρ' x)->(ps.toList.map fun p=>(p.1,ρ p.2))=ps.toList.map fun p=>(p.1,ρ' p.2):=fun ps hp=>
  List.map_congr_left fun p hm=>by rw[hp p.2 (by simp;exact⟨p.1,by simpa using hm⟩)]
 have lst:∀xs:Array Operand,(∀x∈xs,ρ x=ρ' x)->xs.toList.map ρ=xs.toList.map ρ':=fun xs hp=>List.map_congr_left fun x hm=>hp x (by simpa using hm);cases op<;>simp only[Op.operands] at h<;>simp only[rK,hY,pK]
 case assign x=>
  have hx:=h x (by simp);show rK P ρ (.assign x) σ=rK P ρ' (.assign x) σ;by_cases hk:d9 (fun _=>false) (.assign x)=2
  ·simp only[d9] at hk;split at hk<;>first
    |(cases hk;done)
    |(rename_i e;cases e;rfl)
    |(rename_i e;cases e;done)
    |(exfalso;simp_all;done)
  ·rw[r8 (M:=fun _=>false) hk,r8 (M:=fun _=>false) hk,hx]
 case build t ps=>rw[pairs ps h]
 case buildSlice t n ps=>rw[pairs ps h]
 case makeFunc f a c=>rw[lst a (fun x hx=>h x (by simp[hx])),lst c (fun x hx=>h x (by simp[hx]))]
 case makeMap t r=>cases r<;>rfl
 case slice t x lo hi mx=>
  cases lo<;>cases hi<;>cases mx<;>simp_all
 case call c=>
  obtain⟨callee,args,ts⟩:=c;cases callee with
  |builtin b=>simp only;rw[lst args (fun x hx=>h x (by simp[Call.operands,hx]))]
  |_=>rfl
 all_goals first
  |rfl
  |(simp_all;done)
theorem K1 {ρ ρ':Operand->GV} {op:Op} (h:∀x∈op.operands,ρ x=ρ' x):hY P ρ op=hY P ρ' op:=by
 have pairs:∀ps:Array (Nat×Operand),(∀x∈(ps.toList.map (·.2)).toArray,ρ x=ρ' x)->(ps.toList.map fun p=>(p.1,ρ p.2))=ps.toList.map fun p=>(p.1,ρ' p.2):=fun ps hp=>
  List.map_congr_left fun p hm=>by rw[hp p.2 (by simp;exact⟨p.1,by simpa using hm⟩)]
 cases op<;>simp only[Op.operands] at h<;>try rfl
 case assign x=>
  by_cases hk:d9 (fun _=>false) (.assign x)=2
  ·simp only[d9] at hk;split at hk<;>first
    |(cases hk;done)
    |(rename_i e;cases e;rfl)
    |(rename_i e;cases e;done)
    |(exfalso;simp_all;done)
  ·have h0:∀ρ:Operand->GV,hY P ρ (.assign x)=none:=fun ρ=>by
    unfold hY;split
    ·rename_i e;cases e;exact absurd rfl hk
    all_goals first
     |rfl
     |(rename_i he;cases he)
   rw[h0,h0]
 case box t x=>simp only[hY];rw[h x (by simp)]
 case buildSlice t n ps=>simp only[hY];rw[pairs ps h]
 case makeMap t r=>cases r<;>rfl
theorem wA {ρ ρ':Operand->GV} {o:Oper} {σ:GS} (h:∀x∈o.op.operands,ρ x=ρ' x):dF P call o ρ σ=dF P call o ρ' σ:=by
 obtain⟨dst,op,type,pos,after,guard⟩:=o;simp only at h;have lst:∀xs:Array Operand,(∀x∈xs,ρ x=ρ' x)->xs.toList.map ρ=xs.toList.map ρ':=fun xs hp=>List.map_congr_left fun x hm=>hp x (by simpa using hm);cases op
 case panic x=>simp only[dF];rw[h x (by simp[Op.operands])]
 case call c=>
  obtain⟨callee,args,ts⟩:=c;have ha:=lst args (fun x hx=>h x (by simp[Op.operands,Call.operands,hx]));cases callee with
  |value f=>simp only[dF];rw[h f (by simp[Op.operands,Call.operands]),ha]
  |invoke r m=>simp only[dF];rw[h r (by simp[Op.operands,Call.operands]),ha]
  |builtin b=>simp only[dF];rw[I6 h]
 all_goals simp only[dF];rw[I6 h]
theorem mO (hp : dO M call) {o : Oper} {φ : Fr} {σ σ' : GS} {g : GV} (hk : d9 M o.op ≠ 2) (h : dF P call o (d7 φ) σ = some (.val g, σ')) : σ' = σ := by
  obtain ⟨dst, op, type, pos, after, guard⟩ := o;simp only at hk;have mp : ∀ {x : Option GV} {q : GV × GS}, x.map (fun v => (v, σ)) = some q → q.2 = σ := fun hx => by
    rw [aI] at hx; obtain ⟨a, _, rfl⟩ := hx; rfl
  have fin : ∀ {op : Op}, (∀ q : GV × GS, rK P (d7 φ) op σ = some q → q.2 = σ) → (rK P (d7 φ) op σ).map (fun x => (GRes.val x.1, x.2)) = some (.val g, σ') → σ' = σ := fun hq hx => by
    rw [aI] at hx;obtain ⟨q, h1, h2⟩ := hx;cases h2;exact hq q h1
  cases op
  case panic x => exact absurd rfl hk
  case call c =>
    obtain ⟨callee, args, ts⟩ := c;cases callee with
    | value f =>
      cases f with
      | func k =>
        simp only [d9] at hk;have hM : M k = true := by
          cases hM : M k with
          | true => rfl
          | false => rw [hM] at hk; exact absurd rfl hk
        have hf : d7 φ (.func k) = .fn (.func k) [] [] := rfl;simp only [dF, hf] at h;split at h
        · exact hp k hM _ _ _ _ h
        · rw [aI] at h; obtain ⟨g, _, e⟩ := h; cases e; rfl
      | _ => exact absurd rfl hk
    | invoke r m => exact absurd rfl hk
    | builtin b =>
      simp only [dF] at h;refine fin (fun q hq => ?_) h;simp only [rK, hY, pK] at hq;cases b <;> first
        | exact absurd rfl hk
        | (unfold mA at hq
           split at hq <;> first
             | exact mp hq
             | (cases hq; done)
             | contradiction)
  case assign x =>
    simp only [dF] at h;refine fin (fun q hq => ?_) h;rw [r8 (M := M) hk] at hq;cases hq; rfl
  case pick c a b =>
    simp only [dF] at h;refine fin (fun q hq => ?_) h;simp only [rK, hY, pK] at hq;split at hq
    · cases hq; rfl
    · cases hq
  all_goals first
    | exact absurd rfl hk
    | (simp only [dF] at h
       refine fin (fun q hq => ?_) h;simp only [rK, hY, pK] at hq;first
         | (cases hq; rfl)
         | exact mp hq)
theorem uW {o : Oper} {φ : Fr} {σ σ' : GS} {g : GV} (hk : d9 M o.op = 0) (h : dF P call o (d7 φ) σ = some (.val g, σ')) : σ' = σ ∧ ∀ τ, dF P call o (d7 φ) τ = some (.val g, τ) := by
  obtain ⟨dst, op, type, pos, after, guard⟩ := o;simp only at hk;have fin : ∀ {op : Op}, (∀ q : GV × GS, rK P (d7 φ) op σ = some q → q.2 = σ ∧ ∀ τ, rK P (d7 φ) op τ = some (q.1, τ)) → (rK P (d7 φ) op σ).map (fun x => (GRes.val x.1, x.2)) = some (.val g, σ') →
      σ' = σ ∧ ∀ τ, (rK P (d7 φ) op τ).map (fun x => (GRes.val x.1, x.2)) = some (.val g, τ) := fun hq hx => by
    rw [aI] at hx;obtain ⟨q, h1, h2⟩ := hx;cases h2;obtain ⟨a, b⟩ := hq q h1;exact ⟨a, fun τ => by rw [b τ]; rfl⟩
  have mp : ∀ {x : Option GV} {q : GV × GS}, x.map (fun v => (v, σ)) = some q → q.2 = σ ∧ ∀ τ : GS, x.map (fun v => (v, τ)) = some (q.1, τ) := fun hx => by
    rw [aI] at hx; obtain ⟨a, rfl, rfl⟩ := hx; exact ⟨rfl, fun _ => rfl⟩
  cases op
  case call c =>
    obtain ⟨callee, args, ts⟩ := c;cases callee with
    | value f =>
      cases f with
      | func k => simp only [d9] at hk; split at hk <;> cases hk
      | _ => cases hk
    | invoke r m => cases hk
    | builtin b =>
      simp only [dF] at h ⊢;refine fin (fun q hq => ?_) h;simp only [rK, hY, pK] at hq ⊢;cases b <;> first
        | (cases hk; done)
        | (unfold mA at hq ⊢
           split at hq <;> first
             | exact mp hq
             | (cases hq; done)
             | contradiction)
  case assign x =>
    simp only [dF] at h ⊢;refine fin (fun q hq => ?_) h;have hk2 : d9 M (.assign x) ≠ 2 := by rw [hk]; decide
    rw [r8 (M := M) hk2] at hq;cases hq; exact ⟨rfl, fun _ => r8 (M := M) hk2⟩
  case pick c a b =>
    simp only [dF] at h ⊢;refine fin (fun q hq => ?_) h;simp only [rK, hY, pK] at hq ⊢;split at hq
    · rename_i t ht
      cases hq; exact ⟨rfl, fun _ => rfl⟩
    · cases hq
  all_goals first
    | (cases hk; done)
    | (simp only [dF] at h ⊢
       refine fin (fun q hq => ?_) h;simp only [rK, hY, pK] at hq ⊢;first
         | (cases hq; exact ⟨rfl, fun _ => rfl⟩)
         | exact mp hq)
structure Trace (P:Program) (call:Nat->fO) (n:Nat) (ops:Array Oper) (Φ:Nat->Fr) (S:Nat->GS) (G:Nat->GV):Prop where
 step:∀(i:Nat) o,ops[i]?=some o->(o.dst.all fun d=>decide (d<n))=true/\Φ (i+1)=i6 (Φ i) o.dst (G i)/\
  ((cH ops o (Φ i)=some false/\G i=.tup []/\S (i+1)=S i)∨(cH ops o (Φ i)=some true/\dF P (call i) o (d7 (Φ i)) (S i)=some (.val (G i),S (i+1))))
theorem EC {n:Nat} {ops:Array Oper}:∀(l:List Oper) (k:Nat) (φ φ':Fr) (σ σ':GS),(∀j:Nat,j<l.length->l[j]?=ops[k+j]?)->BM P call false n ops l φ σ=some (.normal,φ',σ')->
  ∃(Φ:Nat->Fr) (S:Nat->GS) (G:Nat->GV),Φ k=φ/\S k=σ/\Φ (k+l.length)=φ'/\S (k+l.length)=σ'/\
   ∀(i:Nat) o,k<=i->i<k+l.length->ops[i]?=some o->(o.dst.all fun d=>decide (d<n))=true/\Φ (i+1)=i6 (Φ i) o.dst (G i)/\
    ((cH ops o (Φ i)=some false/\G i=.tup []/\S (i+1)=S i)∨(cH ops o (Φ i)=some true/\dF P call o (d7 (Φ i)) (S i)=some (.val (G i),S (i+1))))
 |[],k,φ,φ',σ,σ',hl,hg=>by
  cases hg;exact⟨fun _=>φ,fun _=>σ,fun _=>.any,rfl,rfl,rfl,rfl,fun i o hi hi2=>by simp at hi2;omega⟩
 |o::l,k,φ,φ',σ,σ',hl,hg=>by
  have ho:ops[k]?=some o:=by have:=hl 0 (by simp);simpa using this.symm
  simp only[BM] at hg;split at hg
  ·rename_i hd;have go:∀(g:GV) (σ1:GS),BM P call false n ops l (i6 φ o.dst g) σ1=some (.normal,φ',σ')->
     ((cH ops o φ=some false/\g=.tup []/\σ1=σ)∨(cH ops o φ=some true/\dF P call o (d7 φ) σ=some (.val g,σ1)))->
     ∃(Φ:Nat->Fr) (S:Nat->GS) (G:Nat->GV),Φ k=φ/\S k=σ/\Φ (k+(o::l).length)=φ'/\S (k+(o::l).length)=σ'/\
      ∀(i:Nat) o',k<=i->i<k+(o::l).length->ops[i]?=some o'->(o'.dst.all fun d=>decide (d<n))=true/\Φ (i+1)=i6 (Φ i) o'.dst (G i)/\
       ((cH ops o' (Φ i)=some false/\G i=.tup []/\S (i+1)=S i)∨(cH ops o' (Φ i)=some true/\dF P call o' (d7 (Φ i)) (S i)=some (.val (G i),S (i+1)))):=by
    intro g σ1 hrest hstep;obtain⟨Φ,S,G,e1,e2,e3,e4,e5⟩:=EC l (k+1) _ φ' σ1 σ' (fun j hj=>by have:=hl (j+1) (by simp;omega);rw[show k+1+j=k+(j+1) by omega];simpa using this) hrest;refine⟨fun i=>if i=k then φ else Φ i,fun i=>if i=k then σ else S i,fun i=>if i=k then g else G i,aG rfl,aG rfl,?_,?_,fun i o' hi hi2 ho'=>?_⟩
    ·show(if k+(l.length+1)=k then φ else Φ (k+(l.length+1)))=φ';rw[aD (by omega),show k+(l.length+1)=k+1+l.length by omega];exact e3
    ·show(if k+(l.length+1)=k then σ else S (k+(l.length+1)))=σ';rw[aD (by omega),show k+(l.length+1)=k+1+l.length by omega];exact e4
    ·by_cases hik:i=k
     ·subst hik;rw[ho] at ho';cases ho';simp only[fK,aD (show i+1≠i by omega),e1,e2];exact⟨hd,trivial,hstep⟩
     ·simp only[aD hik,aD (show i+1≠k by omega)];exact e5 i o' (by omega) (by simp at hi2;omega) ho'
   split at hg
   ·rename_i hw;exact go (.tup []) σ hg (.inl ⟨hw,rfl,rfl⟩)
   ·rename_i hw;simp only[bT,fM] at hg;split at hg
    ·rename_i g σ1 hop;exact go g σ1 hg (.inr ⟨hw,hop⟩)
    ·cases hg
    ·cases hg
   ·cases hg
  ·cases hg
end
def oU (ops:Array Oper) (L:Array Bool):Prop:=∀(j:Nat) o,ops[j]?=some o->L.getD j false=true->∀e∈o.after,Region.binds .any e=true->L.getD e.on false=true
theorem GT:∀(os:List Oper) (acc:List (List Nat)) (j:Nat),j<acc.length->(oT os acc)[j]?=acc[j]?
 |[],acc,j,h=>rfl
 |o::os,acc,j,h=>by rw[oT,GT os _ j (by simp;omega),aV h]
theorem NN:∀(os:List Oper) (acc:List (List Nat)) (j:Nat) o,os[j]?=some o->∃acc':List (List Nat),(∀(k:Nat) (l:List Nat),acc'[k]?=some l->(oT os acc)[k]?=some l)/\acc'.length=acc.length+j/\
  (oT os acc)[acc.length+j]?=some (RS acc' o)
 |[],acc,j,o,h=>by simp at h
 |o'::os,acc,0,o,h=>by
  simp at h;subst h;refine⟨acc,fun k l hk=>?_,by simp,?_⟩
  ·have hlt:=(List.getElem?_eq_some_iff.1 hk).1;rw[GT _ acc k hlt];exact hk
  ·rw[oT,Nat.add_zero,GT os _ acc.length (by simp)];simp
 |o'::os,acc,j+1,o,h=>by
  obtain⟨acc',h1,h2,h3⟩:=NN os (acc++[RS acc o']) j o (by simpa using h);exact⟨acc',fun k l hk=>by rw[oT];exact h1 k l hk,by rw[h2];simp;omega,by rw[oT,<-h3];congr 1;simp;omega⟩
theorem tZ {ops:Array Oper} {L:Array Bool} (hc:oU ops L):∀(j:Nat) o,ops[j]?=some o->(∀e∈o.after,Region.binds .any e=true->L.getD e.on false=true)->
  ∀i∈(oT ops.toList []).getD j [],L.getD i false=true:=by
 intro j;induction j using Nat.strongRecOn with
 |_ j ih=>
  intro o ho hready i hi;obtain⟨acc',h1,h2,h3⟩:=NN ops.toList [] j o (by simpa using ho);simp only[b4,bH] at h2 h3;rw[aO,h3,Option.getD_some] at hi;unfold RS at hi;replace hi:=YX hi;rw[List.mem_flatMap] at hi;obtain⟨e,he,hie⟩:=hi;rw[List.mem_filter] at he;have hel:=hready e (by simpa using he.1) he.2;rcases List.mem_cons.1 hie with rfl|hie
  ·exact hel
  ·rw[aO] at hie;cases hk:acc'[e.on]? with
   |none=>rw[hk] at hie;simp at hie
   |some l=>
    rw[hk,Option.getD_some] at hie;have hlt:e.on<j:=by rw[<-h2];exact(List.getElem?_eq_some_iff.1 hk).1
    have hjs:j<ops.size:=(Array.getElem?_eq_some_iff.1 ho).1;have hoe:ops[e.on]?=some (ops[e.on]'(by omega)):=aR (by omega);refine ih e.on hlt _ hoe (fun e' he' hb'=>hc _ _ hoe hel e' he' hb') i ?_;rw[aO,h1 _ _ hk];exact hie
def j1 (ops:Array Oper) (i:Nat):Option Tmp:=(ops[i]?).bind (·.dst)
def nE (ops:Array Oper) (G:Nat->GV) (φ:Fr) (L:Array Bool):Nat->Fr
 |0=>φ
 |k+1=>if L.getD k false then i6 (nE ops G φ L k) (j1 ops k) (G k) else nE ops G φ L k
def vL (S:Nat->GS) (W:Nat->Bool) (L:Array Bool):Nat->GS
 |0=>S 0
 |k+1=>if L.getD k false&&W k then S (k+1) else vL S W L k
def sL (L:Array Bool):Nat->Nat
 |0=>0
 |k+1=>sL L k+if L.getD k false then 0 else 1
theorem hH {φ:Fr} {d:Option Tmp} {g:GV} {t:Nat}:i6 φ d g t=if d=some t then g else φ t:=by
 cases d with
 |none=>simp[i6]
 |some d=>
  show(if t=d then g else φ t)=_;by_cases h:t=d
  ·subst h;simp
  ·rw[aD h,aD (fun e=>h (aY e).symm)]
section
variable {P : Program} {call : Nat → fO} {M : FuncId → Bool} {w0 : World} {n : Nat} {ops : Array Oper} {Φ : Nat → Fr} {S : Nat → GS} {G : Nat → GV}
theorem Trace.put (T:Trace P call n ops Φ S G) (i:Nat) (hi:i<ops.size) (t:Nat):Φ (i+1) t=if j1 ops i=some t then G i else Φ i t:=by
 have ho:ops[i]?=some (ops[i]'hi):=aR hi;rw[(T.step i _ ho).2.1,hH,j1,ho,bZ]
theorem G9 (T:Trace P call n ops Φ S G) {L:Array Bool} {j t:Nat} (hw:∀i,i<ops.size->j1 ops i=some t->(i<j->L.getD i false=true)/\(j<=i->L.getD i false=false)):
  ∀k,k<=ops.size->nE ops G (Φ 0) L k t=Φ (min k j) t
 |0,_=>by simp[nE]
 |k+1,hk=>by
  have ih:=G9 T hw k (by omega);have hp:=T.put k (by omega) t;simp only[nE];by_cases hd:j1 ops k=some t
  ·obtain⟨h1,h2⟩:=hw k (by omega) hd;by_cases hkj:k<j
   ·rw[h1 hkj,aG rfl,hH,aG hd,show min (k+1) j=k+1 by omega,hp,aG hd]
   ·rw[h2 (by omega)];simp only[bT,fM];rw[ih,show min (k+1) j=min k j by omega]
  ·have e:(if L.getD k false=true then i6 (nE ops G (Φ 0) L k) (j1 ops k) (G k) else nE ops G (Φ 0) L k) t=nE ops G (Φ 0) L k t:=by
    split
    ·rw[hH,aD hd]
    ·rfl
   rw[e,ih];by_cases hkj:k<j
   ·rw[show min (k+1) j=k+1 by omega,show min k j=k by omega,hp,aD hd]
   ·rw[show min (k+1) j=min k j by omega]
theorem FF {W:Nat->Bool} {L:Array Bool} {j:Nat} (hstill:∀i,i<ops.size->W i=false->S (i+1)=S i)
  (hw:∀i,i<ops.size->W i=true->(i<j->L.getD i false=true)/\(j<=i->L.getD i false=false)):∀k,k<=ops.size->vL S W L k=S (min k j)
 |0,_=>by simp[vL]
 |k+1,hk=>by
  have ih:=FF hstill hw k (by omega);simp only[vL];cases hW:W k with
  |true=>
   obtain⟨h1,h2⟩:=hw k (by omega) hW;by_cases hkj:k<j
   ·rw[h1 hkj,show min (k+1) j=k+1 by omega];rfl
   ·rw[h2 (by omega)];simp only[Bool.false_and,bT,fM];rw[ih,show min (k+1) j=min k j by omega]
  |false=>
   simp only[Bool.and_false,bT,fM];rw[ih];by_cases hkj:k<j
   ·rw[show min (k+1) j=k+1 by omega,show min k j=k by omega,hstill k (by omega) hW]
   ·rw[show min (k+1) j=min k j by omega]
theorem tQ {φ:Fr} {L L':Array Bool} {j t:Nat} (hL:∀i,i≠j->L'.getD i false=L.getD i false) (hd:j1 ops j≠some t):∀k,nE ops G φ L' k t=nE ops G φ L k t
 |0=>rfl
 |k+1=>by
  have ih:=tQ (φ:=φ) hL hd k;simp only[nE];by_cases hk:k=j
  ·subst hk;have e:∀L:Array Bool,(if L.getD k false=true then i6 (nE ops G φ L k) (j1 ops k) (G k) else nE ops G φ L k) t=nE ops G φ L k t:=fun L=>by
    split
    ·rw[hH,aD hd]
    ·rfl
   rw[e,e,ih]
  ·rw[hL k hk];split
   ·rw[hH,hH,ih]
   ·exact ih
theorem BJ {W:Nat->Bool} {L L':Array Bool} {j:Nat} (hL:∀i,i≠j->L'.getD i false=L.getD i false) (hd:W j=false):∀k,vL S W L' k=vL S W L k
 |0=>rfl
 |k+1=>by
  simp only[vL];rw[BJ hL hd k];by_cases hk:k=j
  ·subst hk;rw[hd];simp
  ·rw[hL k hk]
theorem AH {L L':Array Bool} {j:Nat} (hL:∀i,i≠j->L'.getD i false=L.getD i false) (hj:L'.getD j false=true) (hj0:L.getD j false=false):∀k,sL L' k<=sL L k/\(j<k->sL L' k+1<=sL L k)
 |0=>⟨rL _,fun h=>by omega⟩
 |k+1=>by
  obtain⟨h1,h2⟩:=AH hL hj hj0 k;simp only[sL];by_cases hk:k=j
  ·subst hk;rw[hj,hj0];simp;omega
  ·rw[hL k hk];exact⟨by omega,fun h=>by have:=h2 (by omega);omega⟩
theorem xJ {L:Array Bool}:∀k,sL L k=0->∀i,i<k->L.getD i false=true
 |0,_,i,h=>by omega
 |k+1,hc,i,h=>by
  simp only[sL] at hc;by_cases hi:i=k
  ·subst hi;cases hb:L.getD i false with
   |true=>rfl
   |false=>rw[hb] at hc;simp at hc
  ·exact xJ k (by omega) i (by omega)
theorem qI (hc:calm M ops=true) {i j:Nat} {oi oj:Oper} (hi:ops[i]?=some oi) (hj:ops[j]?=some oj) (hij:i<j):
  i∈(oT ops.toList []).getD j []∨((d9 M oi.op≠2∨d9 M oj.op=0)/\(d9 M oj.op≠2∨d9 M oi.op=0)/\oi.apart ops oj=true):=by
 unfold calm at hc;simp only[aS,f6] at hc;have h1:=hc j (Array.getElem?_eq_some_iff.1 hj).1;simp only[hj,aH,aS,f6] at h1;have h2:=h1.2 i hij;simp only[hi,f5,aH,List.contains_iff_mem,bne_iff_ne,dC] at h2;rcases h2 with h2|⟨⟨h2,h3⟩,h4⟩
 ·exact .inl h2
 ·exact .inr ⟨h2,h3,h4⟩
theorem TM (hc:calm M ops=true) {j:Nat} {oj:Oper} (hj:ops[j]?=some oj):∀e∈oj.after,Region.binds .any e=true->e.on<j:=by
 unfold calm at hc;simp only[aS,f6] at hc;have h1:=hc j (Array.getElem?_eq_some_iff.1 hj).1;simp only[hj,aH] at h1;intro e he hb;have h2:=(Array.all_eq_true_iff_forall_mem.1 h1.1) e he;simpa[hb] using h2
theorem GI (hm:P.follows .mixedOrders=true) (hcall:∀i,cD P w0 (call i)) (hpure:∀i,dO M (call i)) {ro:Option Nat} {C:Cx} {φ φ':Fr} {σ σ':GS} {id:Nat} {Q:Exit->Act->World->Prop} {a:Act} {w:World}
  (hcalm:calm M ops=true) (T:Trace P call n ops Φ S G) (e1:Φ 0=φ) (e2:S 0=σ) (e3:Φ ops.size=φ') (e4:S ops.size=σ')
  (hr:Rel C σ w0 w) (hf:FRel C φ a) (hn:a.tmps.size=n) (hd0:DRel C σ.ds a.defers) (hq:QOk w0 C Q n .normal φ' σ'):(Code.region id ops true).wpIn (FW ro) 0 P Q a w:=by
 let W:Nat->Bool:=fun i=>match ops[i]? with
  |some o=>d9 M o.op==2
  |none=>false
 have hW:∀i o,ops[i]?=some o->(W i=(d9 M o.op==2)):=fun i o ho=>by simp only[W,ho]
 have hstill:∀i,i<ops.size->W i=false->S (i+1)=S i:=fun i hi hw=>by
  have ho:ops[i]?=some (ops[i]'hi):=aR hi;rcases(T.step i _ ho).2.2 with⟨_,_,h⟩|⟨_,h⟩
  ·exact h
  ·rw[hW i _ ho] at hw;exact mO (hpure _) (by simpa using hw) h
 have hds:σ'.ds=σ.ds:=by
  have hall:∀k,k<=ops.size->(S k).ds=(S 0).ds:=fun k=>by
   induction k with
   |zero=>intro _;rfl
   |succ k ih=>
    intro hk;have ho:ops[k]?=some (ops[k]'(by omega)):=aR (by omega);rw[<-ih (by omega)];rcases(T.step k _ ho).2.2 with⟨_,_,h⟩|⟨_,h⟩
    ·rw[h]
    ·exact n9 (hcall _) h
  rw[<-e4,<-e2];exact hall _ (rL _)
 have ahead:∀(L:Array Bool),oU ops L->∀(i j:Nat) oi oj,ops[i]?=some oi->ops[j]?=some oj->i<j->i∈(oT ops.toList []).getD j []->
   ((∀e∈oj.after,Region.binds .any e=true->L.getD e.on false=true)->L.getD i false=true)/\(L.getD i false=false->L.getD j false=false):=fun L hc i j oi oj hi hj hij hanc=>by
  refine⟨fun hready=>tZ hc j oj hj hready i hanc,fun hni=>?_⟩;cases hjl:L.getD j false with
  |false=>rfl
  |true=>
   have:=tZ hc j oj hj (fun e he hb=>hc j oj hj hjl e he hb) i hanc;rw[hni] at this;cases this
 have key:∀(fuel:Nat) (L:Array Bool) (D:Cx) (a':Act) (w':World),L.size=ops.size->oU ops L->sL L ops.size<=fuel->C.le D->Rel D (vL S W L ops.size) w0 w'->
   FRel D (nE ops G (Φ 0) L ops.size) a'->a'.tmps.size=n->a'.defers=a.defers->wpAnyIn (FW ro) 0 P .any ops Q fuel L a' w':=by
  intro fuel;induction fuel with
  |zero=>
   intro L D a' w' hLs hc hcnt hl hrel hfr hna hda;have hall:=xJ (L:=L) ops.size (by omega);have hend:Region.ready .any ops L=[]:=by
    apply List.eq_nil_iff_forall_not_mem.2;intro j hj;obtain⟨hj0,o,ho,_⟩:=mem_ready.1 hj;have hjs:=(Array.getElem?_eq_some_iff.1 ho).1;have:=hall j hjs;rw[aU] at this hj0;cases hx:L[j]? with
    |none=>rw[hx] at this;simp at this
    |some b=>rw[hx] at this hj0;simp at this hj0;rw[this] at hj0;cases hj0
   have hfin1:nE ops G (Φ 0) L ops.size=φ':=by
    funext t;rw[G9 T (j:=ops.size) (fun i hi _=>⟨fun _=>hall i hi,fun h=>by omega⟩) ops.size (rL _),Nat.min_self,e3]
   have hfin2:vL S W L ops.size=σ':=by
    rw[FF hstill (j:=ops.size) (fun i hi _=>⟨fun _=>hall i hi,fun h=>by omega⟩) ops.size (rL _),Nat.min_self,e4]
   rw[hfin1] at hfr;rw[hfin2] at hrel;exact⟨hend,hq D a' w' hl hfr hna (by rw[hda,hds];exact hd0.mono hl) hrel⟩
  |succ fuel ih=>
   intro L D a' w' hLs hc hcnt hl hrel hfr hna hda;refine⟨fun hend=>?_,fun j hj=>?_⟩
   ·
    have hall:∀i,i<ops.size->L.getD i false=true:=by
     intro i;induction i using Nat.strongRecOn with
     |_ i ihi=>
      intro hi;cases hb:L.getD i false with
      |true=>rfl
      |false=>
       have ho:ops[i]?=some (ops[i]'hi):=aR hi;have:i∈Region.ready .any ops L:=mem_ready.2 ⟨by
        rw[aU] at hb⊢;rw[aR (by omega:i<L.size)] at hb⊢;simpa using hb,_,ho,fun e he hbe=>by
         have:=TM hcalm ho e he hbe;exact ihi e.on this (by omega)⟩
       rw[hend] at this;cases this
    have hfin1:nE ops G (Φ 0) L ops.size=φ':=by
     funext t;rw[G9 T (j:=ops.size) (fun i hi _=>⟨fun _=>hall i hi,fun h=>by omega⟩) ops.size (rL _),Nat.min_self,e3]
    have hfin2:vL S W L ops.size=σ':=by
     rw[FF hstill (j:=ops.size) (fun i hi _=>⟨fun _=>hall i hi,fun h=>by omega⟩) ops.size (rL _),Nat.min_self,e4]
    rw[hfin1] at hfr;rw[hfin2] at hrel;exact hq D a' w' hl hfr hna (by rw[hda,hds];exact hd0.mono hl) hrel
   ·obtain⟨hj0,o,ho,hready⟩:=mem_ready.1 hj;have hjs:=(Array.getElem?_eq_some_iff.1 ho).1;have hjn:L.getD j false=false:=by
     rw[aU] at hj0⊢;rw[aR (by omega:j<L.size)] at hj0⊢;simpa using hj0
    let L':=L.setIfInBounds j true;have hL'o:∀i,i≠j->L'.getD i false=L.getD i false:=fun i hi=>getD_set_ne false (iR hi);have hL'j:L'.getD j false=true:=by
     simp[L',aU,show j<L.size by omega]
    have hc':oU ops L':=fun k ok hk hkl e he hb=>by
     by_cases hkj:k=j
     ·subst hkj;rw[ho] at hk;cases hk;exact getD_set_true (hready e he hb)
     ·rw[hL'o k hkj] at hkl;exact getD_set_true (hc k ok hk hkl e he hb)
    have hcnt':sL L' ops.size<=fuel:=by
     have:=(AH hL'o hL'j hjn ops.size).2 hjs;omega
    have names:∀t,(t∈o.looksAt ops∨o.dst=some t)->∀i,i<ops.size->j1 ops i=some t->(i<j->L.getD i false=true)/\(j<=i->L.getD i false=false):=fun t ht i hi hd=>by
     have hoi:ops[i]?=some (ops[i]'hi):=aR hi;have hdi:(ops[i]'hi).dst=some t:=by rw[j1,hoi,bZ] at hd;exact hd
     refine⟨fun hij=>?_,fun hij=>?_⟩
     ·rcases qI hcalm hoi ho hij with h1|⟨_,_,h1⟩
      ·exact(ahead L hc i j _ _ hoi ho hij h1).1 hready
      ·obtain⟨a1,a2,a3⟩:=Oper.apart_spec h1;rcases ht with ht|ht
       ·exact absurd ht (a1 t hdi)
       ·exact absurd ht (a2 t hdi)
     ·by_cases hij2:i=j
      ·subst hij2;exact hjn
      ·rcases qI hcalm ho hoi (by omega) with h1|⟨_,_,h1⟩
       ·exact(ahead L hc j i _ _ ho hoi (by omega) h1).2 hjn
       ·obtain⟨a1,a2,a3⟩:=Oper.apart_spec h1;rcases ht with ht|ht
        ·exact absurd ht (a3 t hdi)
        ·exact absurd hdi (a2 t ht)
    have hframe:∀t,(t∈o.looksAt ops∨o.dst=some t)->nE ops G (Φ 0) L ops.size t=Φ j t:=fun t ht=>by
     rw[G9 T (names t ht) ops.size (rL _),show min ops.size j=j by omega]
    have hheap:d9 M o.op≠0->vL S W L ops.size=S j:=fun hk=>by
     rw[FF hstill (j:=j) (fun i hi hWi=>?_) ops.size (rL _),show min ops.size j=j by omega];have hoi:ops[i]?=some (ops[i]'hi):=aR hi;rw[hW i _ hoi] at hWi;have hWi:d9 M (ops[i]'hi).op=2:=by simpa using hWi
     refine⟨fun hij=>?_,fun hij=>?_⟩
     ·rcases qI hcalm hoi ho hij with h1|⟨h1,h2,_⟩
      ·exact(ahead L hc i j _ _ hoi ho hij h1).1 hready
      ·rcases h1 with h1|h1
       ·exact absurd hWi h1
       ·exact absurd h1 hk
     ·by_cases hij2:i=j
      ·subst hij2;exact hjn
      ·rcases qI hcalm ho hoi (by omega) with h1|⟨h1,h2,_⟩
       ·exact(ahead L hc j i _ _ ho hoi (by omega) h1).2 hjn
       ·rcases h2 with h2|h2
        ·exact absurd hWi h2
        ·exact absurd h2 hk
    have hnewheap:d9 M o.op=2->vL S W L' ops.size=S (j+1):=fun hk=>by
     rw[FF hstill (j:=j+1) (fun i hi hWi=>?_) ops.size (rL _),show min ops.size (j+1)=j+1 by omega];have hoi:ops[i]?=some (ops[i]'hi):=aR hi;rw[hW i _ hoi] at hWi;have hWi:d9 M (ops[i]'hi).op=2:=by simpa using hWi
     refine⟨fun hij=>?_,fun hij=>?_⟩
     ·by_cases hij2:i=j
      ·subst hij2;exact hL'j
      ·rw[hL'o i hij2];rcases qI hcalm hoi ho (by omega) with h1|⟨h1,h2,_⟩
       ·exact(ahead L hc i j _ _ hoi ho (by omega) h1).1 hready
       ·rcases h1 with h1|h1
        ·exact absurd hWi h1
        ·omega
     ·rw[hL'o i (by omega)];rcases qI hcalm ho hoi (by omega) with h1|⟨h1,h2,_⟩
      ·exact(ahead L hc j i _ _ ho hoi (by omega) h1).2 hjn
      ·rcases h2 with h2|h2
       ·exact absurd hWi h2
       ·omega
    have hsameheap:d9 M o.op≠2->vL S W L' ops.size=vL S W L ops.size:=fun hk=>BJ hL'o (by rw[hW j o ho];simpa using hk) _;have hnewframe:∀t,nE ops G (Φ 0) L' ops.size t=if o.dst=some t then G j else nE ops G (Φ 0) L ops.size t:=fun t=>by
     by_cases hd:o.dst=some t
     ·rw[aG hd,G9 T (j:=j+1) (fun i hi hdi=>?_) ops.size (rL _),show min ops.size (j+1)=j+1 by omega,T.put j hjs t,j1,ho,bZ,aG hd];obtain⟨h1,h2⟩:=names t (.inr hd) i hi hdi;refine⟨fun hij=>?_,fun hij=>?_⟩
      ·by_cases hij2:i=j
       ·subst hij2;exact hL'j
       ·rw[hL'o i hij2];exact h1 (by omega)
      ·rw[hL'o i (by omega)];exact h2 (by omega)
     ·rw[aD hd];exact tQ hL'o (by rw[j1,ho,bZ];exact hd) _
    have next:∀(E:Cx) (v:Value) (w'':World),D.le E->Rel E (vL S W L' ops.size) w0 w''->VR E (G j) v->wpAnyIn (FW ro) 0 P .any ops Q fuel L' (a'.put o.dst v) w'':=fun E v w'' hE hrelE hv=>by
     obtain⟨p1,p2,p3⟩:=(hfr.mono hE).put hv hna (T.step j o ho).1;refine ih L' E _ w'' (by simp[L',hLs]) hc' hcnt' (hl.trans hE) hrelE (fun t=>?_) p2 (p3.trans hda);rw[hnewframe t];have:=p1 t;rw[hH] at this;exact this
    have hwant:cH ops o (nE ops G (Φ 0) L ops.size)=cH ops o (Φ j):=by
     unfold cH;cases hgd:o.guard with
     |none=>rfl
     |some gw=>
      obtain⟨k,want⟩:=gw;simp only;congr 1;unfold yO;cases hdk:(ops[k]?).bind (·.dst) with
      |none=>rfl
      |some d=>
       simp only;rw[hframe d (.inl (by simp[Oper.looksAt,hgd,hdk]))]
    unfold wpOpIn;simp only[ho];rcases(T.step j o ho).2.2 with⟨hw0,hG,hS⟩|⟨hw1,hop⟩
    ·rw[fJ hfr (hwant.trans hw0)];simp only[bT,fM];refine⟨fun _ _=>trivial,next D undef w' (.refl D) ?_ (by rw[hG];exact vN D)⟩;by_cases hk2:d9 M o.op=2
     ·rw[hnewheap hk2,hS,<-hheap (by omega)];exact hrel
     ·rw[hsameheap hk2];exact hrel
    ·rw[fJ hfr (hwant.trans hw1)];simp only[fK];have hcong:∀τ,dF P (call j) o (d7 (nE ops G (Φ 0) L ops.size)) τ=dF P (call j) o (d7 (Φ j)) τ:=fun τ=>wA (fun x hx=>by
      cases x with
      |tmp t=>exact hframe t (.inl (by
        unfold Oper.looksAt;exact List.mem_append_left _ (List.mem_filterMap.2 ⟨.tmp t,by simpa using hx,rfl⟩)))
      |_=>rfl)
     have hrun:dF P (call j) o (d7 (nE ops G (Φ 0) L ops.size)) (vL S W L ops.size)=some (.val (G j),vL S W L' ops.size):=by
      rw[hcong];by_cases hk0:d9 M o.op=0
      ·rw[hsameheap (by omega)];exact(uW hk0 hop).2 _
      ·rw[hheap hk0,hop];by_cases hk2:d9 M o.op=2
       ·rw[hnewheap hk2]
       ·rw[hsameheap hk2,hheap hk0,mO (hpure _) hk2 hop]
     refine iV (hcall j) hrel (dN hfr) hrun (fun g E v w'' eg hE hrE hv=>?_) (fun g E v w'' eg=>by cases eg);cases eg;exact next E v w'' hE hrE hv
 refine wpIn_region_any hm (key ops.size (Array.replicate ops.size false) C a _ (by simp) (fun j o ho hj=>?_) ?_ (.refl C) ?_ ?_ hn rfl)
 ·have hjs:=(Array.getElem?_eq_some_iff.1 ho).1;simp[aU,hjs] at hj
 ·have:∀(L:Array Bool) k,sL L k<=k:=fun L k=>by
   induction k with
   |zero=>exact rL _
   |succ k ih=>simp only[sL];split<;>omega
  exact this _ _
 ·have:∀k,vL S W (Array.replicate ops.size false) k=S 0:=fun k=>by
   induction k with
   |zero=>rfl
   |succ k ih=>
    simp only[vL];rw[aD (by simp[aU,iF];intro h1;split at h1<;>simp at h1),ih]
  rw[this,e2];exact hr.drew
 ·have:∀k,nE ops G (Φ 0) (Array.replicate ops.size false) k=Φ 0:=fun k=>by
   induction k with
   |zero=>rfl
   |succ k ih=>
    simp only[nE];rw[aD (by simp[aU,iF];split<;>simp),ih]
  rw[this,e1];exact hf
end
section
variable {P : Program} {call : fO} {M : FuncId → Bool} {w0 : World} {n : Nat} {ops : Array Oper}
theorem MU (hm:P.follows .mixedOrders=true) (hcall:cD P w0 call) (hpure:dO M call) {ro:Option Nat} {C:Cx} {φ φ':Fr} {σ σ':GS} {x:GX} {id:Nat} {Q:Exit->Act->World->Prop} {a:Act} {w:World}
  (hg:MW P M call n ops φ σ=some (x,φ',σ')) (hr:Rel C σ w0 w) (hf:FRel C φ a) (hn:a.tmps.size=n) (hd0:DRel C σ.ds a.defers) (hq:QOk w0 C Q n x φ' σ'):(Code.region id ops true).wpIn (FW ro) 0 P Q a w:=by
 unfold MW at hg;split at hg
 ·rename_i hcalm;split at hg
  ·rename_i φ1 σ1 hops;cases hg;obtain⟨Φ,S,G,e1,e2,e3,e4,e5⟩:=EC ops.toList 0 φ φ' σ σ' (fun j _=>by simp) hops;rw[bH,bJ] at e3 e4;exact GI hm (fun _=>hcall) (fun _=>hpure) hcalm (⟨fun i o ho=>e5 i o (zL _) (by have:=(Array.getElem?_eq_some_iff.1 ho).1;simp;omega) ho⟩:Trace P (fun _=>call) n ops Φ S G) e1 e2 e3 e4 hr hf hn hd0 hq
  ·cases hg
 ·cases hg
end
