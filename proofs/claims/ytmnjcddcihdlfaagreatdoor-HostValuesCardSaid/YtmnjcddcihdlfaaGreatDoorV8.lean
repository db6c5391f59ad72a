/- Part of HostValues. -/
import Derived.Test.YtmnjcddcihdlfaaGreatDoorV7
import Derived.OrdersIn
set_option linter.all false
namespace Go.Proofs.YtmnjcddcihdlfaaGreatDoor
section
open Go.RowKit
variable [Globals]
def kK (M:FuncId->Bool):Bool:=M 999999&&!M 999998
def cF (M:FuncId->Bool):Op->Nat
 |.move _|.pick .. |.build .. |.nilCheck _|.binOp .. |.unOp .. |.convert .. |.makeInterface .. |.typeAssert .. |.makeFunc .. |.slice .. |.fieldAddr .. |.field .. |.indexAddr .. |.index .. |.extract .. =>0
 |.assign (.const (.slice none 0 0))=>2
 |.assign _=>0
 |.load .. |.lookup .. =>1
 |.call {callee:=.builtin .len,..}=>1
 |.call {callee:=.builtin .min,..}|.call {callee:=.builtin .max,..}=>0
 |.call {callee:=.value (.func k),..}=>if M k then 1 else 2
 |.call {callee:=.value (.tmp _),..}=>if kK M then 1 else 2
 |_=>2
def nub (l:List Nat):List Nat:=l.foldl (fun acc x=>bif acc.any (fun y=>Nat.beq y x) then acc else x::acc) []
theorem W5 {l:List Nat} {x:Nat} (h:x∈nub l):x∈l:=by
 have key:∀(l acc:List Nat),x∈l.foldl (fun acc x=>bif acc.any (fun y=>Nat.beq y x) then acc else x::acc) acc->x∈acc∨x∈l:=by
  intro l;induction l with
  |nil=>exact fun acc h=>.inl h
  |cons y l ih=>
   intro acc h;rcases ih _ h with h1|h1
   ·have h1:x∈(bif acc.any (fun z=>Nat.beq z y) then acc else y::acc):=h1;cases hb:acc.any (fun z=>Nat.beq z y) with
    |true=>rw[hb] at h1;exact .inl h1
    |false=>
     rw[hb] at h1;rcases List.mem_cons.1 h1 with rfl|h2
     ·exact .inr (gJ ..)
     ·exact .inl h2
   ·exact .inr (fH _ h1)
 rcases key l [] h with h1|h1
 ·cases h1
 ·exact h1
def P2 (acc:List (List Nat)) (o:Oper):List Nat:=nub ((o.after.toList.filter (Region.binds .any)).flatMap fun e=>e.on::acc.getD e.on [])
def gW:List Oper->List (List Nat)->List (List Nat)
 |[],acc=>acc
 |o::os,acc=>gW os (acc++[P2 acc o])
def calm (M:FuncId->Bool) (ops:Array Oper):Bool:=
 let A:=gW ops.toList []
 (List.range ops.size).all fun j=>
  match ops[j]? with
  |none=>true
  |some oj=>
   (oj.after.all fun e=>!Region.binds .any e||decide (e.on<j))&&
   (List.range j).all fun i=>
    match ops[i]? with
    |none=>true
    |some oi=>(A.getD j []).contains i||
      ((cF M oi.op !=2||cF M oj.op==0)&&(cF M oj.op !=2||cF M oi.op==0)&&oi.apart ops oj)
def EY (P:Program) (M:FuncId->Bool) (call:dQ) (n:Nat) (ops:Array Oper) (φ:Fr) (σ:GS):Option (GX×Fr×GS):=
 if calm M ops then
  match uK P call false n ops ops.toList φ σ with
  |some (.normal,φ',σ')=>some (.normal,φ',σ')
  |_=>none
 else none
def d6 (M:FuncId->Bool) (call:dQ):Prop:=∀k,(M k=true∨kK M=true)->∀t,(t=.fn k∨kK M=true)->∀args σ r σ',call t args σ=some (r,σ')->σ'=σ
section
variable {P : Program} {call : dQ} {M : FuncId → Bool} {w0 : World}
theorem m4 {ρ:Operand->GV} {x:Operand} {σ:GS} (hk:cF M (.assign x)≠2):kO P ρ (.assign x) σ=some (ρ x,σ):=by
 have h0:dN P ρ (.assign x)=none:=by
  unfold dN;split
  ·rename_i e;cases e;exact absurd rfl hk
  all_goals first
   |rfl
   |(rename_i he;cases he)
 unfold kO;rw[h0];rfl
theorem EV {ρ ρ':Operand->GV} {op:Op} {σ:GS} (h:∀x∈op.operands,ρ x=ρ' x):kO P ρ op σ=kO P ρ' op σ:=by
 have pairs:∀ps:Array (Nat×Operand),(∀x∈(ps.toList.map (·.2)).toArray,ρ x=ρ' x)->(ps.toList.map fun p=>(p.1,ρ p.2))=ps.toList.map fun p=>(p.1,ρ' p.2):=fun ps hp=>
  List.map_congr_left fun p hm=>by rw[hp p.2 (by simp;exact⟨p.1,by simpa using hm⟩)]
 have lst:∀xs:Array Operand,(∀x∈xs,ρ x=ρ' x)->xs.toList.map ρ=xs.toList.map ρ':=fun xs hp=>List.map_congr_left fun x hm=>hp x (by simpa using hm);cases op<;>simp only[Op.operands] at h<;>simp only[kO,dN,jB]
 case assign x=>
  have hx:=h x (by simp);show kO P ρ (.assign x) σ=kO P ρ' (.assign x) σ;by_cases hk:cF (fun _=>false) (.assign x)=2
  ·simp only[cF] at hk;split at hk<;>first
    |(cases hk;done)
    |(rename_i e;cases e;rfl)
    |(rename_i e;cases e;done)
    |(exfalso;simp_all;done)
  ·rw[m4 (M:=fun _=>false) hk,m4 (M:=fun _=>false) hk,hx]
 case build t ps=>rw[pairs ps h]
 case buildSlice t n ps=>rw[pairs ps h]
 case makeFunc f a c=>rw[lst a (fun x hx=>h x (by simp[hx])),lst c (fun x hx=>h x (by simp[hx]))]
 case makeMap t r=>cases r<;>rfl
 case slice t x lo hi mx=>
  cases lo<;>cases hi<;>cases mx<;>simp_all
 case next it s=>cases s<;>simp_all
 case call c=>
  obtain⟨callee,args,ts⟩:=c;cases callee with
  |builtin b=>simp only;rw[lst args (fun x hx=>h x (by simp[Call.operands,hx]))]
  |_=>rfl
 all_goals first
  |rfl
  |(simp_all;done)
theorem H4 {ρ ρ':Operand->GV} {op:Op} (h:∀x∈op.operands,ρ x=ρ' x):dN P ρ op=dN P ρ' op:=by
 have pairs:∀ps:Array (Nat×Operand),(∀x∈(ps.toList.map (·.2)).toArray,ρ x=ρ' x)->(ps.toList.map fun p=>(p.1,ρ p.2))=ps.toList.map fun p=>(p.1,ρ' p.2):=fun ps hp=>
  List.map_congr_left fun p hm=>by rw[hp p.2 (by simp;exact⟨p.1,by simpa using hm⟩)]
 cases op<;>simp only[Op.operands] at h<;>try rfl
 case assign x=>
  by_cases hk:cF (fun _=>false) (.assign x)=2
  ·simp only[cF] at hk;split at hk<;>first
    |(cases hk;done)
    |(rename_i e;cases e;rfl)
    |(rename_i e;cases e;done)
    |(exfalso;simp_all;done)
  ·have h0:∀ρ:Operand->GV,dN P ρ (.assign x)=none:=fun ρ=>by
    unfold dN;split
    ·rename_i e;cases e;exact absurd rfl hk
    all_goals first
     |rfl
     |(rename_i he;cases he)
   rw[h0,h0]
 case box t x=>simp only[dN];rw[h x (by simp)]
 case buildSlice t n ps=>simp only[dN];rw[pairs ps h]
 case makeMap t r=>cases r<;>rfl
theorem DK {ρ ρ':Operand->GV} {op:Op} (h:∀x∈op.operands,ρ x=ρ' x):mF P ρ op=mF P ρ' op:=by
 unfold mF;split
 ·rename_i t l c;simp only[Op.operands] at h;rw[h l (by simp),h c (by simp)]
 ·exact H4 h
theorem oS {ρ ρ':Operand->GV} {o:Oper} {σ:GS} (h:∀x∈o.op.operands,ρ x=ρ' x):cE P call o ρ σ=cE P call o ρ' σ:=by
 obtain⟨dst,op,type,pos,after,guard⟩:=o;simp only at h;have lst:∀xs:Array Operand,(∀x∈xs,ρ x=ρ' x)->xs.toList.map ρ=xs.toList.map ρ':=fun xs hp=>List.map_congr_left fun x hm=>hp x (by simpa using hm);cases op
 case panic x=>simp only[cE];rw[h x (by simp[Op.operands])]
 case call c=>
  obtain⟨callee,args,ts⟩:=c;have ha:=lst args (fun x hx=>h x (by simp[Op.operands,Call.operands,hx]));cases callee with
  |value f=>simp only[cE];rw[h f (by simp[Op.operands,Call.operands]),ha]
  |invoke r m=>simp only[cE];rw[h r (by simp[Op.operands,Call.operands]),ha]
  |builtin b=>simp only[cE];rw[EV h]
 all_goals simp only[cE];rw[EV h]
theorem jR (hp : d6 M call) {o : Oper} {φ : Fr} {σ σ' : GS} {g : GV} (hk : cF M o.op ≠ 2) (h : cE P call o (bO φ) σ = some (.val g, σ')) : σ' = σ := by
  obtain ⟨dst, op, type, pos, after, guard⟩ := o;simp only at hk;have mp : ∀ {x : Option GV} {q : GV × GS}, x.map (fun v => (v, σ)) = some q → q.2 = σ := fun hx => by
    rw [aC] at hx; obtain ⟨a, _, rfl⟩ := hx; rfl
  have fin : ∀ {op : Op}, (∀ q : GV × GS, kO P (bO φ) op σ = some q → q.2 = σ) → (kO P (bO φ) op σ).map (fun x => (GRes.val x.1, x.2)) = some (.val g, σ') → σ' = σ := fun hq hx => by
    rw [aC] at hx;obtain ⟨q, h1, h2⟩ := hx;cases h2;exact hq q h1
  cases op
  case panic x => exact absurd rfl hk
  case call c =>
    obtain ⟨callee, args, ts⟩ := c;cases callee with
    | value f =>
      cases f with
      | func k =>
        simp only [cF] at hk;have hM : M k = true := by
          cases hM : M k with
          | true => rfl
          | false => rw [hM] at hk; exact absurd rfl hk
        have hf : bO φ (.func k) = .fn (.func k) [] [] := rfl;simp only [cE, hf] at h;split at h
        · exact hp k (.inl hM) _ (.inl rfl) _ _ _ _ h
        · rw [aC] at h; obtain ⟨g, _, e⟩ := h; cases e; rfl
      | tmp t =>
        simp only [cF] at hk;have hM : kK M = true := by
          cases hM : kK M with
          | true => rfl
          | false => rw [hM] at hk; exact absurd rfl hk
        simp only [cE] at h;split at h
        · split at h
          · exact hp 0 (.inr hM) _ (.inr hM) _ _ _ _ h
          · rw [aC] at h; obtain ⟨g, _, e⟩ := h; cases e; rfl
        · exact hp 0 (.inr hM) _ (.inr hM) _ _ _ _ h
        · cases h
      | _ => exact absurd rfl hk
    | invoke r m => exact absurd rfl hk
    | builtin b =>
      simp only [cE] at h;refine fin (fun q hq => ?_) h;simp only [kO, dN, jB] at hq;cases b <;> first
        | exact absurd rfl hk
        | (unfold i8 at hq
           split at hq <;> first
             | exact mp hq
             | (cases hq; done)
             | contradiction)
  case assign x =>
    simp only [cE] at h;refine fin (fun q hq => ?_) h;rw [m4 (M := M) hk] at hq;cases hq; rfl
  case pick c a b =>
    simp only [cE] at h;refine fin (fun q hq => ?_) h;simp only [kO, dN, jB] at hq;split at hq
    · cases hq; rfl
    · cases hq
  all_goals first
    | exact absurd rfl hk
    | (simp only [cE] at h
       refine fin (fun q hq => ?_) h;simp only [kO, dN, jB] at hq;first
         | (cases hq; rfl)
         | exact mp hq)
theorem rF {o : Oper} {φ : Fr} {σ σ' : GS} {g : GV} (hk : cF M o.op = 0) (h : cE P call o (bO φ) σ = some (.val g, σ')) : σ' = σ ∧ ∀ τ, cE P call o (bO φ) τ = some (.val g, τ) := by
  obtain ⟨dst, op, type, pos, after, guard⟩ := o;simp only at hk;have fin : ∀ {op : Op}, (∀ q : GV × GS, kO P (bO φ) op σ = some q → q.2 = σ ∧ ∀ τ, kO P (bO φ) op τ = some (q.1, τ)) → (kO P (bO φ) op σ).map (fun x => (GRes.val x.1, x.2)) = some (.val g, σ') →
      σ' = σ ∧ ∀ τ, (kO P (bO φ) op τ).map (fun x => (GRes.val x.1, x.2)) = some (.val g, τ) := fun hq hx => by
    rw [aC] at hx;obtain ⟨q, h1, h2⟩ := hx;cases h2;obtain ⟨a, b⟩ := hq q h1;exact ⟨a, fun τ => by rw [b τ]; rfl⟩
  have mp : ∀ {x : Option GV} {q : GV × GS}, x.map (fun v => (v, σ)) = some q → q.2 = σ ∧ ∀ τ : GS, x.map (fun v => (v, τ)) = some (q.1, τ) := fun hx => by
    rw [aC] at hx; obtain ⟨a, rfl, rfl⟩ := hx; exact ⟨rfl, fun _ => rfl⟩
  cases op
  case call c =>
    obtain ⟨callee, args, ts⟩ := c;cases callee with
    | value f =>
      cases f with
      | func k => simp only [cF] at hk; split at hk <;> cases hk
      | tmp t => simp only [cF] at hk; split at hk <;> cases hk
      | _ => cases hk
    | invoke r m => cases hk
    | builtin b =>
      simp only [cE] at h ⊢;refine fin (fun q hq => ?_) h;simp only [kO, dN, jB] at hq ⊢;cases b <;> first
        | (cases hk; done)
        | (unfold i8 at hq ⊢
           split at hq <;> first
             | exact mp hq
             | (cases hq; done)
             | contradiction)
  case assign x =>
    simp only [cE] at h ⊢;refine fin (fun q hq => ?_) h;have hk2 : cF M (.assign x) ≠ 2 := by rw [hk]; decide
    rw [m4 (M := M) hk2] at hq;cases hq; exact ⟨rfl, fun _ => m4 (M := M) hk2⟩
  case pick c a b =>
    simp only [cE] at h ⊢;refine fin (fun q hq => ?_) h;simp only [kO, dN, jB] at hq ⊢;split at hq
    · rename_i t ht
      cases hq; exact ⟨rfl, fun _ => rfl⟩
    · cases hq
  all_goals first
    | (cases hk; done)
    | (simp only [cE] at h ⊢
       refine fin (fun q hq => ?_) h;simp only [kO, dN, jB] at hq ⊢;first
         | (cases hq; exact ⟨rfl, fun _ => rfl⟩)
         | exact mp hq)
structure Trace (P:Program) (call:Nat->dQ) (n:Nat) (ops:Array Oper) (Φ:Nat->Fr) (S:Nat->GS) (G:Nat->GV):Prop where
 step:∀(i:Nat) o,ops[i]?=some o->(o.dst.all fun d=>decide (d<n))=true/\Φ (i+1)=f5 (Φ i) o.dst (G i)/\
  ((bF ops o (Φ i)=some false/\G i=.tup []/\S (i+1)=S i)∨(bF ops o (Φ i)=some true/\cE P (call i) o (bO (Φ i)) (S i)=some (.val (G i),S (i+1))))
theorem AO {n:Nat} {ops:Array Oper}:∀(l:List Oper) (k:Nat) (φ φ':Fr) (σ σ':GS),(∀j:Nat,j<l.length->l[j]?=ops[k+j]?)->uK P call false n ops l φ σ=some (.normal,φ',σ')->
  ∃(Φ:Nat->Fr) (S:Nat->GS) (G:Nat->GV),Φ k=φ/\S k=σ/\Φ (k+l.length)=φ'/\S (k+l.length)=σ'/\
   ∀(i:Nat) o,k<=i->i<k+l.length->ops[i]?=some o->(o.dst.all fun d=>decide (d<n))=true/\Φ (i+1)=f5 (Φ i) o.dst (G i)/\
    ((bF ops o (Φ i)=some false/\G i=.tup []/\S (i+1)=S i)∨(bF ops o (Φ i)=some true/\cE P call o (bO (Φ i)) (S i)=some (.val (G i),S (i+1))))
 |[],k,φ,φ',σ,σ',hl,hg=>by
  cases hg;exact⟨fun _=>φ,fun _=>σ,fun _=>.any,rfl,rfl,rfl,rfl,fun i o hi hi2=>by simp at hi2;omega⟩
 |o::l,k,φ,φ',σ,σ',hl,hg=>by
  have ho:ops[k]?=some o:=by have:=hl 0 (by simp);simpa using this.symm
  simp only[uK] at hg;split at hg
  ·rename_i hd;have go:∀(g:GV) (σ1:GS),uK P call false n ops l (f5 φ o.dst g) σ1=some (.normal,φ',σ')->
     ((bF ops o φ=some false/\g=.tup []/\σ1=σ)∨(bF ops o φ=some true/\cE P call o (bO φ) σ=some (.val g,σ1)))->
     ∃(Φ:Nat->Fr) (S:Nat->GS) (G:Nat->GV),Φ k=φ/\S k=σ/\Φ (k+(o::l).length)=φ'/\S (k+(o::l).length)=σ'/\
      ∀(i:Nat) o',k<=i->i<k+(o::l).length->ops[i]?=some o'->(o'.dst.all fun d=>decide (d<n))=true/\Φ (i+1)=f5 (Φ i) o'.dst (G i)/\
       ((bF ops o' (Φ i)=some false/\G i=.tup []/\S (i+1)=S i)∨(bF ops o' (Φ i)=some true/\cE P call o' (bO (Φ i)) (S i)=some (.val (G i),S (i+1)))):=by
    intro g σ1 hrest hstep;obtain⟨Φ,S,G,e1,e2,e3,e4,e5⟩:=AO l (k+1) _ φ' σ1 σ' (fun j hj=>by have:=hl (j+1) (by simp;omega);rw[show k+1+j=k+(j+1) by omega];simpa using this) hrest;refine⟨fun i=>if i=k then φ else Φ i,fun i=>if i=k then σ else S i,fun i=>if i=k then g else G i,aA rfl,aA rfl,?_,?_,fun i o' hi hi2 ho'=>?_⟩
    ·show(if k+(l.length+1)=k then φ else Φ (k+(l.length+1)))=φ';rw[aB (by omega),show k+(l.length+1)=k+1+l.length by omega];exact e3
    ·show(if k+(l.length+1)=k then σ else S (k+(l.length+1)))=σ';rw[aB (by omega),show k+(l.length+1)=k+1+l.length by omega];exact e4
    ·by_cases hik:i=k
     ·subst hik;rw[ho] at ho';cases ho';simp only[dL,aB (show i+1≠i by omega),e1,e2];exact⟨hd,trivial,hstep⟩
     ·simp only[aB hik,aB (show i+1≠k by omega)];exact e5 i o' (by omega) (by simp at hi2;omega) ho'
   split at hg
   ·rename_i hw;exact go (.tup []) σ hg (.inl ⟨hw,rfl,rfl⟩)
   ·rename_i hw;simp only[aY,cO] at hg;split at hg
    ·rename_i g σ1 hop;exact go g σ1 hg (.inr ⟨hw,hop⟩)
    ·cases hg
    ·cases hg
   ·cases hg
  ·cases hg
end
def kW (ops:Array Oper) (L:Array Bool):Prop:=∀(j:Nat) o,ops[j]?=some o->L.getD j false=true->∀e∈o.after,Region.binds .any e=true->L.getD e.on false=true
theorem D3:∀(os:List Oper) (acc:List (List Nat)) (j:Nat),j<acc.length->(gW os acc)[j]?=acc[j]?
 |[],acc,j,h=>rfl
 |o::os,acc,j,h=>by rw[gW,D3 os _ j (by simp;omega),aU h]
theorem L8:∀(os:List Oper) (acc:List (List Nat)) (j:Nat) o,os[j]?=some o->∃acc':List (List Nat),(∀(k:Nat) (l:List Nat),acc'[k]?=some l->(gW os acc)[k]?=some l)/\acc'.length=acc.length+j/\
  (gW os acc)[acc.length+j]?=some (P2 acc' o)
 |[],acc,j,o,h=>by simp at h
 |o'::os,acc,0,o,h=>by
  simp at h;subst h;refine⟨acc,fun k l hk=>?_,by simp,?_⟩
  ·have hlt:=(List.getElem?_eq_some_iff.1 hk).1;rw[D3 _ acc k hlt];exact hk
  ·rw[gW,Nat.add_zero,D3 os _ acc.length (by simp)];simp
 |o'::os,acc,j+1,o,h=>by
  obtain⟨acc',h1,h2,h3⟩:=L8 os (acc++[P2 acc o']) j o (by simpa using h);exact⟨acc',fun k l hk=>by rw[gW];exact h1 k l hk,by rw[h2];simp;omega,by rw[gW,<-h3];congr 1;simp;omega⟩
theorem lO {ops:Array Oper} {L:Array Bool} (hc:kW ops L):∀(j:Nat) o,ops[j]?=some o->(∀e∈o.after,Region.binds .any e=true->L.getD e.on false=true)->
  ∀i∈(gW ops.toList []).getD j [],L.getD i false=true:=by
 intro j;induction j using Nat.strongRecOn with
 |_ j ih=>
  intro o ho hready i hi;obtain⟨acc',h1,h2,h3⟩:=L8 ops.toList [] j o (by simpa using ho);simp only[bW,bM] at h2 h3;rw[aL,h3,fM] at hi;unfold P2 at hi;replace hi:=W5 hi;rw[List.mem_flatMap] at hi;obtain⟨e,he,hie⟩:=hi;rw[List.mem_filter] at he;have hel:=hready e (by simpa using he.1) he.2;rcases List.mem_cons.1 hie with rfl|hie
  ·exact hel
  ·rw[aL] at hie;cases hk:acc'[e.on]? with
   |none=>rw[hk] at hie;simp at hie
   |some l=>
    rw[hk,fM] at hie;have hlt:e.on<j:=by rw[<-h2];exact(List.getElem?_eq_some_iff.1 hk).1
    have hjs:j<ops.size:=(Array.getElem?_eq_some_iff.1 ho).1;have hoe:ops[e.on]?=some (ops[e.on]'(by omega)):=aK (by omega);refine ih e.on hlt _ hoe (fun e' he' hb'=>hc _ _ hoe hel e' he' hb') i ?_;rw[aL,h1 _ _ hk];exact hie
def eX (ops:Array Oper) (i:Nat):Option Tmp:=(ops[i]?).bind (·.dst)
def jX (ops:Array Oper) (G:Nat->GV) (φ:Fr) (L:Array Bool):Nat->Fr
 |0=>φ
 |k+1=>if L.getD k false then f5 (jX ops G φ L k) (eX ops k) (G k) else jX ops G φ L k
def s6 (S:Nat->GS) (W:Nat->Bool) (L:Array Bool):Nat->GS
 |0=>S 0
 |k+1=>if L.getD k false&&W k then S (k+1) else s6 S W L k
def nC (L:Array Bool):Nat->Nat
 |0=>0
 |k+1=>nC L k+if L.getD k false then 0 else 1
theorem eI {φ:Fr} {d:Option Tmp} {g:GV} {t:Nat}:f5 φ d g t=if d=some t then g else φ t:=by
 cases d with
 |none=>simp[f5]
 |some d=>
  show(if t=d then g else φ t)=_;by_cases h:t=d
  ·subst h;simp
  ·rw[aB h,aB (fun e=>h (aV e).symm)]
section
variable {P : Program} {call : Nat → dQ} {M : FuncId → Bool} {w0 : World} {n : Nat} {ops : Array Oper} {Φ : Nat → Fr} {S : Nat → GS} {G : Nat → GV}
theorem Trace.put (T:Trace P call n ops Φ S G) (i:Nat) (hi:i<ops.size) (t:Nat):Φ (i+1) t=if eX ops i=some t then G i else Φ i t:=by
 have ho:ops[i]?=some (ops[i]'hi):=aK hi;rw[(T.step i _ ho).2.1,eI,eX,ho,bC]
theorem CJ (T:Trace P call n ops Φ S G) {L:Array Bool} {j t:Nat} (hw:∀i,i<ops.size->eX ops i=some t->(i<j->L.getD i false=true)/\(j<=i->L.getD i false=false)):
  ∀k,k<=ops.size->jX ops G (Φ 0) L k t=Φ (min k j) t
 |0,_=>by simp[jX]
 |k+1,hk=>by
  have ih:=CJ T hw k (by omega);have hp:=T.put k (by omega) t;simp only[jX];by_cases hd:eX ops k=some t
  ·obtain⟨h1,h2⟩:=hw k (by omega) hd;by_cases hkj:k<j
   ·rw[h1 hkj,aA rfl,eI,aA hd,show min (k+1) j=k+1 by omega,hp,aA hd]
   ·rw[h2 (by omega)];simp only[aY,cO];rw[ih,show min (k+1) j=min k j by omega]
  ·have e:(if L.getD k false=true then f5 (jX ops G (Φ 0) L k) (eX ops k) (G k) else jX ops G (Φ 0) L k) t=jX ops G (Φ 0) L k t:=by
    split
    ·rw[eI,aB hd]
    ·rfl
   rw[e,ih];by_cases hkj:k<j
   ·rw[show min (k+1) j=k+1 by omega,show min k j=k by omega,hp,aB hd]
   ·rw[show min (k+1) j=min k j by omega]
theorem BD {W:Nat->Bool} {L:Array Bool} {j:Nat} (hstill:∀i,i<ops.size->W i=false->S (i+1)=S i)
  (hw:∀i,i<ops.size->W i=true->(i<j->L.getD i false=true)/\(j<=i->L.getD i false=false)):∀k,k<=ops.size->s6 S W L k=S (min k j)
 |0,_=>by simp[s6]
 |k+1,hk=>by
  have ih:=BD hstill hw k (by omega);simp only[s6];cases hW:W k with
  |true=>
   obtain⟨h1,h2⟩:=hw k (by omega) hW;by_cases hkj:k<j
   ·rw[h1 hkj,show min (k+1) j=k+1 by omega];rfl
   ·rw[h2 (by omega)];simp only[Bool.false_and,aY,cO];rw[ih,show min (k+1) j=min k j by omega]
  |false=>
   simp only[Bool.and_false,aY,cO];rw[ih];by_cases hkj:k<j
   ·rw[show min (k+1) j=k+1 by omega,show min k j=k by omega,hstill k (by omega) hW]
   ·rw[show min (k+1) j=min k j by omega]
theorem nS {φ:Fr} {L L':Array Bool} {j t:Nat} (hL:∀i,i≠j->L'.getD i false=L.getD i false) (hd:eX ops j≠some t):∀k,jX ops G φ L' k t=jX ops G φ L k t
 |0=>rfl
 |k+1=>by
  have ih:=nS (φ:=φ) hL hd k;simp only[jX];by_cases hk:k=j
  ·subst hk;have e:∀L:Array Bool,(if L.getD k false=true then f5 (jX ops G φ L k) (eX ops k) (G k) else jX ops G φ L k) t=jX ops G φ L k t:=fun L=>by
    split
    ·rw[eI,aB hd]
    ·rfl
   rw[e,e,ih]
  ·rw[hL k hk];split
   ·rw[eI,eI,ih]
   ·exact ih
theorem xX {W:Nat->Bool} {L L':Array Bool} {j:Nat} (hL:∀i,i≠j->L'.getD i false=L.getD i false) (hd:W j=false):∀k,s6 S W L' k=s6 S W L k
 |0=>rfl
 |k+1=>by
  simp only[s6];rw[xX hL hd k];by_cases hk:k=j
  ·subst hk;rw[hd];simp
  ·rw[hL k hk]
theorem uF {L L':Array Bool} {j:Nat} (hL:∀i,i≠j->L'.getD i false=L.getD i false) (hj:L'.getD j false=true) (hj0:L.getD j false=false):∀k,nC L' k<=nC L k/\(j<k->nC L' k+1<=nC L k)
 |0=>⟨rL _,fun h=>by omega⟩
 |k+1=>by
  obtain⟨h1,h2⟩:=uF hL hj hj0 k;simp only[nC];by_cases hk:k=j
  ·subst hk;rw[hj,hj0];simp;omega
  ·rw[hL k hk];exact⟨by omega,fun h=>by have:=h2 (by omega);omega⟩
theorem qO {L:Array Bool}:∀k,nC L k=0->∀i,i<k->L.getD i false=true
 |0,_,i,h=>by omega
 |k+1,hc,i,h=>by
  simp only[nC] at hc;by_cases hi:i=k
  ·subst hi;cases hb:L.getD i false with
   |true=>rfl
   |false=>rw[hb] at hc;simp at hc
  ·exact qO k (by omega) i (by omega)
theorem nT (hc:calm M ops=true) {i j:Nat} {oi oj:Oper} (hi:ops[i]?=some oi) (hj:ops[j]?=some oj) (hij:i<j):
  i∈(gW ops.toList []).getD j []∨((cF M oi.op≠2∨cF M oj.op=0)/\(cF M oj.op≠2∨cF M oi.op=0)/\oi.apart ops oj=true):=by
 unfold calm at hc;simp only[aZ,d9] at hc;have h1:=hc j (Array.getElem?_eq_some_iff.1 hj).1;simp only[hj,aF,aZ,d9] at h1;have h2:=h1.2 i hij;simp only[hi,dJ,aF,List.contains_iff_mem,bne_iff_ne,bU] at h2;rcases h2 with h2|⟨⟨h2,h3⟩,h4⟩
 ·exact .inl h2
 ·exact .inr ⟨h2,h3,h4⟩
theorem R0 (hc:calm M ops=true) {j:Nat} {oj:Oper} (hj:ops[j]?=some oj):∀e∈oj.after,Region.binds .any e=true->e.on<j:=by
 unfold calm at hc;simp only[aZ,d9] at hc;have h1:=hc j (Array.getElem?_eq_some_iff.1 hj).1;simp only[hj,aF] at h1;intro e he hb;have h2:=(Array.all_eq_true_iff_forall_mem.1 h1.1) e he;simpa[hb] using h2
theorem CQ (hm:P.follows .mixedOrders=true) (hcall:∀i,bK P w0 (call i)) (hpure:∀i,d6 M (call i)) {ro:Option Nat} {C:Cx} {φ φ':Fr} {σ σ':GS} {id:Nat} {Q:Exit->Act->World->Prop} {a:Act} {w:World}
  (hcalm:calm M ops=true) (T:Trace P call n ops Φ S G) (e1:Φ 0=φ) (e2:S 0=σ) (e3:Φ ops.size=φ') (e4:S ops.size=σ')
  (hr:Rel C σ w0 w) (hf:FRel C φ a) (hn:a.tmps.size=n) (hd0:DRel C σ.ds a.defers) (hq:QOk w0 C Q n .normal φ' σ'):(Code.region id ops true).wpIn (FW ro) 0 P Q a w:=by
 let W:Nat->Bool:=fun i=>match ops[i]? with
  |some o=>cF M o.op==2
  |none=>false
 have hW:∀i o,ops[i]?=some o->(W i=(cF M o.op==2)):=fun i o ho=>by simp only[W,ho]
 have hstill:∀i,i<ops.size->W i=false->S (i+1)=S i:=fun i hi hw=>by
  have ho:ops[i]?=some (ops[i]'hi):=aK hi;rcases(T.step i _ ho).2.2 with⟨_,_,h⟩|⟨_,h⟩
  ·exact h
  ·rw[hW i _ ho] at hw;exact jR (hpure _) (by simpa using hw) h
 have hds:σ'.ds=σ.ds:=by
  have hall:∀k,k<=ops.size->(S k).ds=(S 0).ds:=fun k=>by
   induction k with
   |zero=>intro _;rfl
   |succ k ih=>
    intro hk;have ho:ops[k]?=some (ops[k]'(by omega)):=aK (by omega);rw[<-ih (by omega)];rcases(T.step k _ ho).2.2 with⟨_,_,h⟩|⟨_,h⟩
    ·rw[h]
    ·exact lL (hcall _) h
  rw[<-e4,<-e2];exact hall _ (rL _)
 have ahead:∀(L:Array Bool),kW ops L->∀(i j:Nat) oi oj,ops[i]?=some oi->ops[j]?=some oj->i<j->i∈(gW ops.toList []).getD j []->
   ((∀e∈oj.after,Region.binds .any e=true->L.getD e.on false=true)->L.getD i false=true)/\(L.getD i false=false->L.getD j false=false):=fun L hc i j oi oj hi hj hij hanc=>by
  refine⟨fun hready=>lO hc j oj hj hready i hanc,fun hni=>?_⟩;cases hjl:L.getD j false with
  |false=>rfl
  |true=>
   have:=lO hc j oj hj (fun e he hb=>hc j oj hj hjl e he hb) i hanc;rw[hni] at this;cases this
 have key:∀(fuel:Nat) (L:Array Bool) (D:Cx) (a':Act) (w':World),L.size=ops.size->kW ops L->nC L ops.size<=fuel->C.le D->Rel D (s6 S W L ops.size) w0 w'->
   FRel D (jX ops G (Φ 0) L ops.size) a'->a'.tmps.size=n->a'.defers=a.defers->wpAnyIn (FW ro) 0 P .any ops Q fuel L a' w':=by
  intro fuel;induction fuel with
  |zero=>
   intro L D a' w' hLs hc hcnt hl hrel hfr hna hda;have hall:=qO (L:=L) ops.size (by omega);have hend:Region.ready .any ops L=[]:=by
    apply List.eq_nil_iff_forall_not_mem.2;intro j hj;obtain⟨hj0,o,ho,_⟩:=mem_ready.1 hj;have hjs:=(Array.getElem?_eq_some_iff.1 ho).1;have:=hall j hjs;rw[aP] at this hj0;cases hx:L[j]? with
    |none=>rw[hx] at this;simp at this
    |some b=>rw[hx] at this hj0;simp at this hj0;rw[this] at hj0;cases hj0
   have hfin1:jX ops G (Φ 0) L ops.size=φ':=by
    funext t;rw[CJ T (j:=ops.size) (fun i hi _=>⟨fun _=>hall i hi,fun h=>by omega⟩) ops.size (rL _),Nat.min_self,e3]
   have hfin2:s6 S W L ops.size=σ':=by
    rw[BD hstill (j:=ops.size) (fun i hi _=>⟨fun _=>hall i hi,fun h=>by omega⟩) ops.size (rL _),Nat.min_self,e4]
   rw[hfin1] at hfr;rw[hfin2] at hrel;exact⟨hend,hq D a' w' hl hfr hna (by rw[hda,hds];exact hd0.mono hl) hrel⟩
  |succ fuel ih=>
   intro L D a' w' hLs hc hcnt hl hrel hfr hna hda;refine⟨fun hend=>?_,fun j hj=>?_⟩
   ·
    have hall:∀i,i<ops.size->L.getD i false=true:=by
     intro i;induction i using Nat.strongRecOn with
     |_ i ihi=>
      intro hi;cases hb:L.getD i false with
      |true=>rfl
      |false=>
       have ho:ops[i]?=some (ops[i]'hi):=aK hi;have:i∈Region.ready .any ops L:=mem_ready.2 ⟨by
        rw[aP] at hb⊢;rw[aK (by omega:i<L.size)] at hb⊢;simpa using hb,_,ho,fun e he hbe=>by
         have:=R0 hcalm ho e he hbe;exact ihi e.on this (by omega)⟩
       rw[hend] at this;cases this
    have hfin1:jX ops G (Φ 0) L ops.size=φ':=by
     funext t;rw[CJ T (j:=ops.size) (fun i hi _=>⟨fun _=>hall i hi,fun h=>by omega⟩) ops.size (rL _),Nat.min_self,e3]
    have hfin2:s6 S W L ops.size=σ':=by
     rw[BD hstill (j:=ops.size) (fun i hi _=>⟨fun _=>hall i hi,fun h=>by omega⟩) ops.size (rL _),Nat.min_self,e4]
    rw[hfin1] at hfr;rw[hfin2] at hrel;exact hq D a' w' hl hfr hna (by rw[hda,hds];exact hd0.mono hl) hrel
   ·obtain⟨hj0,o,ho,hready⟩:=mem_ready.1 hj;have hjs:=(Array.getElem?_eq_some_iff.1 ho).1;have hjn:L.getD j false=false:=by
     rw[aP] at hj0⊢;rw[aK (by omega:j<L.size)] at hj0⊢;simpa using hj0
    let L':=L.setIfInBounds j true;have hL'o:∀i,i≠j->L'.getD i false=L.getD i false:=fun i hi=>getD_set_ne false (Ne.symm hi);have hL'j:L'.getD j false=true:=by
     simp[L',aP,show j<L.size by omega]
    have hc':kW ops L':=fun k ok hk hkl e he hb=>by
     by_cases hkj:k=j
     ·subst hkj;rw[ho] at hk;cases hk;exact getD_set_true (hready e he hb)
     ·rw[hL'o k hkj] at hkl;exact getD_set_true (hc k ok hk hkl e he hb)
    have hcnt':nC L' ops.size<=fuel:=by
     have:=(uF hL'o hL'j hjn ops.size).2 hjs;omega
    have names:∀t,(t∈o.looksAt ops∨o.dst=some t)->∀i,i<ops.size->eX ops i=some t->(i<j->L.getD i false=true)/\(j<=i->L.getD i false=false):=fun t ht i hi hd=>by
     have hoi:ops[i]?=some (ops[i]'hi):=aK hi;have hdi:(ops[i]'hi).dst=some t:=by rw[eX,hoi,bC] at hd;exact hd
     refine⟨fun hij=>?_,fun hij=>?_⟩
     ·rcases nT hcalm hoi ho hij with h1|⟨_,_,h1⟩
      ·exact(ahead L hc i j _ _ hoi ho hij h1).1 hready
      ·obtain⟨a1,a2,a3⟩:=Oper.apart_spec h1;rcases ht with ht|ht
       ·exact absurd ht (a1 t hdi)
       ·exact absurd ht (a2 t hdi)
     ·by_cases hij2:i=j
      ·subst hij2;exact hjn
      ·rcases nT hcalm ho hoi (by omega) with h1|⟨_,_,h1⟩
       ·exact(ahead L hc j i _ _ ho hoi (by omega) h1).2 hjn
       ·obtain⟨a1,a2,a3⟩:=Oper.apart_spec h1;rcases ht with ht|ht
        ·exact absurd ht (a3 t hdi)
        ·exact absurd hdi (a2 t ht)
    have hframe:∀t,(t∈o.looksAt ops∨o.dst=some t)->jX ops G (Φ 0) L ops.size t=Φ j t:=fun t ht=>by
     rw[CJ T (names t ht) ops.size (rL _),show min ops.size j=j by omega]
    have hheap:cF M o.op≠0->s6 S W L ops.size=S j:=fun hk=>by
     rw[BD hstill (j:=j) (fun i hi hWi=>?_) ops.size (rL _),show min ops.size j=j by omega];have hoi:ops[i]?=some (ops[i]'hi):=aK hi;rw[hW i _ hoi] at hWi;have hWi:cF M (ops[i]'hi).op=2:=by simpa using hWi
     refine⟨fun hij=>?_,fun hij=>?_⟩
     ·rcases nT hcalm hoi ho hij with h1|⟨h1,h2,_⟩
      ·exact(ahead L hc i j _ _ hoi ho hij h1).1 hready
      ·rcases h1 with h1|h1
       ·exact absurd hWi h1
       ·exact absurd h1 hk
     ·by_cases hij2:i=j
      ·subst hij2;exact hjn
      ·rcases nT hcalm ho hoi (by omega) with h1|⟨h1,h2,_⟩
       ·exact(ahead L hc j i _ _ ho hoi (by omega) h1).2 hjn
       ·rcases h2 with h2|h2
        ·exact absurd hWi h2
        ·exact absurd h2 hk
    have hnewheap:cF M o.op=2->s6 S W L' ops.size=S (j+1):=fun hk=>by
     rw[BD hstill (j:=j+1) (fun i hi hWi=>?_) ops.size (rL _),show min ops.size (j+1)=j+1 by omega];have hoi:ops[i]?=some (ops[i]'hi):=aK hi;rw[hW i _ hoi] at hWi;have hWi:cF M (ops[i]'hi).op=2:=by simpa using hWi
     refine⟨fun hij=>?_,fun hij=>?_⟩
     ·by_cases hij2:i=j
      ·subst hij2;exact hL'j
      ·rw[hL'o i hij2];rcases nT hcalm hoi ho (by omega) with h1|⟨h1,h2,_⟩
       ·exact(ahead L hc i j _ _ hoi ho (by omega) h1).1 hready
       ·rcases h1 with h1|h1
        ·exact absurd hWi h1
        ·omega
     ·rw[hL'o i (by omega)];rcases nT hcalm ho hoi (by omega) with h1|⟨h1,h2,_⟩
      ·exact(ahead L hc j i _ _ ho hoi (by omega) h1).2 hjn
      ·rcases h2 with h2|h2
       ·exact absurd hWi h2
       ·omega
    have hsameheap:cF M o.op≠2->s6 S W L' ops.size=s6 S W L ops.size:=fun hk=>xX hL'o (by rw[hW j o ho];simpa using hk) _;have hnewframe:∀t,jX ops G (Φ 0) L' ops.size t=if o.dst=some t then G j else jX ops G (Φ 0) L ops.size t:=fun t=>by
     by_cases hd:o.dst=some t
     ·rw[aA hd,CJ T (j:=j+1) (fun i hi hdi=>?_) ops.size (rL _),show min ops.size (j+1)=j+1 by omega,T.put j hjs t,eX,ho,bC,aA hd];obtain⟨h1,h2⟩:=names t (.inr hd) i hi hdi;refine⟨fun hij=>?_,fun hij=>?_⟩
      ·by_cases hij2:i=j
       ·subst hij2;exact hL'j
       ·rw[hL'o i hij2];exact h1 (by omega)
      ·rw[hL'o i (by omega)];exact h2 (by omega)
     ·rw[aB hd];exact nS hL'o (by rw[eX,ho,bC];exact hd) _
    have next:∀(E:Cx) (v:Value) (w'':World),D.le E->Rel E (s6 S W L' ops.size) w0 w''->VR E (G j) v->wpAnyIn (FW ro) 0 P .any ops Q fuel L' (a'.put o.dst v) w'':=fun E v w'' hE hrelE hv=>by
     obtain⟨p1,p2,p3⟩:=(hfr.mono hE).put hv hna (T.step j o ho).1;refine ih L' E _ w'' (by simp[L',hLs]) hc' hcnt' (hl.trans hE) hrelE (fun t=>?_) p2 (p3.trans hda);rw[hnewframe t];have:=p1 t;rw[eI] at this;exact this
    have hwant:bF ops o (jX ops G (Φ 0) L ops.size)=bF ops o (Φ j):=by
     unfold bF;cases hgd:o.guard with
     |none=>rfl
     |some gw=>
      obtain⟨k,want⟩:=gw;simp only;congr 1;unfold r7;cases hdk:(ops[k]?).bind (·.dst) with
      |none=>rfl
      |some d=>
       simp only;rw[hframe d (.inl (by simp[Oper.looksAt,hgd,hdk]))]
    unfold wpOpIn;simp only[ho];rcases(T.step j o ho).2.2 with⟨hw0,hG,hS⟩|⟨hw1,hop⟩
    ·rw[dB hfr (hwant.trans hw0)];simp only[aY,cO];refine⟨fun _ _=>trivial,next D undef w' (.refl D) ?_ (by rw[hG];exact qQ D)⟩;by_cases hk2:cF M o.op=2
     ·rw[hnewheap hk2,hS,<-hheap (by omega)];exact hrel
     ·rw[hsameheap hk2];exact hrel
    ·rw[dB hfr (hwant.trans hw1)];simp only[dL];have hcong:∀τ,cE P (call j) o (bO (jX ops G (Φ 0) L ops.size)) τ=cE P (call j) o (bO (Φ j)) τ:=fun τ=>oS (fun x hx=>by
      cases x with
      |tmp t=>exact hframe t (.inl (by
        unfold Oper.looksAt;exact List.mem_append_left _ (List.mem_filterMap.2 ⟨.tmp t,by simpa using hx,rfl⟩)))
      |_=>rfl)
     have hrun:cE P (call j) o (bO (jX ops G (Φ 0) L ops.size)) (s6 S W L ops.size)=some (.val (G j),s6 S W L' ops.size):=by
      rw[hcong];by_cases hk0:cF M o.op=0
      ·rw[hsameheap (by omega)];exact(rF hk0 hop).2 _
      ·rw[hheap hk0,hop];by_cases hk2:cF M o.op=2
       ·rw[hnewheap hk2]
       ·rw[hsameheap hk2,hheap hk0,jR (hpure _) hk2 hop]
     refine fL (hcall j) hrel (cQ hfr) hrun (fun g E v w'' eg hE hrE hv=>?_) (fun g E v w'' eg=>by cases eg);cases eg;exact next E v w'' hE hrE hv
 refine wpIn_region_any hm (key ops.size (Array.replicate ops.size false) C a _ (by simp) (fun j o ho hj=>?_) ?_ (.refl C) ?_ ?_ hn rfl)
 ·have hjs:=(Array.getElem?_eq_some_iff.1 ho).1;simp[aP,hjs] at hj
 ·have:∀(L:Array Bool) k,nC L k<=k:=fun L k=>by
   induction k with
   |zero=>exact rL _
   |succ k ih=>simp only[nC];split<;>omega
  exact this _ _
 ·have:∀k,s6 S W (Array.replicate ops.size false) k=S 0:=fun k=>by
   induction k with
   |zero=>rfl
   |succ k ih=>
    simp only[s6];rw[aB (by simp[aP,dV];intro h1;split at h1<;>simp at h1),ih]
  rw[this,e2];exact hr.drew
 ·have:∀k,jX ops G (Φ 0) (Array.replicate ops.size false) k=Φ 0:=fun k=>by
   induction k with
   |zero=>rfl
   |succ k ih=>
    simp only[jX];rw[aB (by simp[aP,dV];split<;>simp),ih]
  rw[this,e1];exact hf
end
section
variable {P : Program} {call : dQ} {M : FuncId → Bool} {w0 : World} {n : Nat} {ops : Array Oper}
theorem KC (hm:P.follows .mixedOrders=true) (hcall:bK P w0 call) (hpure:d6 M call) {ro:Option Nat} {C:Cx} {φ φ':Fr} {σ σ':GS} {x:GX} {id:Nat} {Q:Exit->Act->World->Prop} {a:Act} {w:World}
  (hg:EY P M call n ops φ σ=some (x,φ',σ')) (hr:Rel C σ w0 w) (hf:FRel C φ a) (hn:a.tmps.size=n) (hd0:DRel C σ.ds a.defers) (hq:QOk w0 C Q n x φ' σ'):(Code.region id ops true).wpIn (FW ro) 0 P Q a w:=by
 unfold EY at hg;split at hg
 ·rename_i hcalm;split at hg
  ·rename_i φ1 σ1 hops;cases hg;obtain⟨Φ,S,G,e1,e2,e3,e4,e5⟩:=AO ops.toList 0 φ φ' σ σ' (fun j _=>by simp) hops;rw[bM,b8] at e3 e4;exact CQ hm (fun _=>hcall) (fun _=>hpure) hcalm (⟨fun i o ho=>e5 i o (zL _) (by have:=(Array.getElem?_eq_some_iff.1 ho).1;simp;omega) ho⟩:Trace P (fun _=>call) n ops Φ S G) e1 e2 e3 e4 hr hf hn hd0 hq
  ·cases hg
 ·cases hg
end
end
section
open Go.RowKit
variable [Globals]
def dH (M:FuncId->Bool) (op:Op):Nat:=
 match op with
 |.load .. |.lookup .. |.call {callee:=.builtin .len,..}=>1
 |.store .. |.mapUpdate .. |.insert .. =>2
 |.assign (.const (.slice none 0 0))|.alloc _|.box .. |.buildSlice .. |.makeMap _ none|.makeSlice .. =>3
 |.defer .. =>5
 |op=>if cF M op=0 then 0 else 4
def fQ (ρ:Operand->GV):Op->Option Nat
 |.load _ a|.store _ a _=>match ρ a with
  |.ptr r _=>some r
  |.rs r _ _ _ _=>some r
  |_=>none
 |.lookup _ m _ _|.mapUpdate _ m _ _|.insert _ m _ _=>match ρ m with
  |.mp r=>some r
  |_=>none
 |.call {callee:=.builtin .len,args,..}=>match args.toList.map ρ with
  |[.mp r]=>some r
  |_=>none
 |_=>none
def D5:Nat:=18446744073709551616
def JV (ρ:Operand->GV) (op:Op):Option Nat:=
 match op with
 |.load _ a=>match ρ a with
  |.any=>some D5
  |_=>fQ ρ op
 |.lookup _ m _ _=>match ρ m with
  |.any=>some D5
  |_=>fQ ρ op
 |.call {callee:=.builtin .len,args,..}=>match args.toList.map ρ with
  |[.any]=>some D5
  |_=>fQ ρ op
 |op=>fQ ρ op
def k8 (Mk:List Nat) (σ:GS):GS:={σ with objs:=σ.objs.zipIdx.map fun p=>if Mk.contains p.2 then .held else p.1}
def kN (Mk:List Nat) (σ σ1:GS):GS:={σ1 with objs:=σ1.objs.zipIdx.map fun p=>if Mk.contains p.2 then σ.objs.getD p.2 p.1 else p.1}
def zM (x:Option (GRes×GS)):Option (GV×GS):=
 match x with
 |some (.val g,σ)=>some (g,σ)
 |_=>none
def ZW (B:Nat) (t:Option Nat):Option Nat:=
 match t with
 |some r=>if r<B then some r else some D5
 |none=>none
def mQ (P:Program) (M:FuncId->Bool) (call:dQ) (B:Nat) (σ:GS):List Oper->Nat->Fr->List (Option Nat)
 |[],_,_=>[]
 |o::l,N,φ=>
  match dH M o.op with
  |3=>some N::mQ P M call B σ l (N+1) (f5 φ o.dst (match mF P (bO φ) o.op with|some f=>f.1 N|none=>.any))
  |4=>none::mQ P M call B σ l N (f5 φ o.dst (match zM (cE P call o (bO φ) σ) with|some (g,_)=>g|none=>.any))
  |1=>ZW B (JV (bO φ) o.op)::mQ P M call B σ l N (f5 φ o.dst (match kO P (bO φ) o.op σ with|some (g,_)=>g|none=>.any))
  |_=>JV (bO φ) o.op::mQ P M call B σ l N (f5 φ o.dst (match kO P (bO φ) o.op σ with|some (g,_)=>g|none=>.any))
def pI (pi pj:Bool) (ci cj:Nat) (ti tj:Option Nat):Bool:=
 (ci==0||cj==0||(ci==1&&cj==1)||(ci==4&&cj==4&&pi&&pj)||
 (decide (ci<=3)&&decide (cj<=3)&&(match ti,tj with|some r,some q=>r !=q|_,_=>true))||
 (ci==4&&decide (cj<=3))||(decide (ci<=3)&&cj==4))&&
 (!(ci==1&&ti==some D5)||decide (cj<=1)||pj)&&(!(cj==1&&tj==some D5)||decide (ci<=1)||pi)
def eL (M:FuncId->Bool) (ops:Array Oper) (i:Nat):Bool:=match ops[i]? with|some o=>dH M o.op==4&&cF M o.op !=2|none=>false
def yT (A:List (List Nat)) (i j:Nat):Bool:=if i<j then !((A.getD j []).contains i) else !((A.getD i []).contains j)
def f7 (M:FuncId->Bool) (ops:Array Oper) (i:Nat):Nat:=match ops[i]? with|some o=>dH M o.op|none=>0
def kY (M:FuncId->Bool) (ops:Array Oper) (A:List (List Nat)) (T:List (Option Nat)) (j:Nat):List Nat:=
 (List.range ops.size).filterMap fun i=>if i !=j&&yT A i j&&decide ((bif eL M ops j then 2 else 1)<=f7 M ops i)&&decide (f7 M ops i<=3)&&T.getD i none !=some D5 then T.getD i none else none
def oI (M:FuncId->Bool) (B:Nat->Bool) (ops:Array Oper) (A:List (List Nat)) (T:List (Option Nat)) (N:Nat):Bool:=
 ((List.range ops.size).all fun i=>match T.getD i none with|some r=>decide (r<N)||(r==D5&&f7 M ops i==1)|none=>true)&&decide (N<=D5)&&((List.range ops.size).all fun i=>!B i||eL M ops i)&&
 (List.range ops.size).all fun j=>
  match ops[j]? with
  |none=>true
  |some oj=>
   decide (dH M oj.op<=4)&&
   (oj.after.all fun e=>!Region.binds .any e||decide (e.on<j))&&
   (List.range j).all fun i=>
    match ops[i]? with
    |none=>true
    |some oi=>(A.getD j []).contains i||((B i||B j||pI (eL M ops i) (eL M ops j) (dH M oi.op) (dH M oj.op) (T.getD i none) (T.getD j none))&&oi.apart ops oj)
def wild (M:FuncId->Bool) (ops:Array Oper) (A:List (List Nat)) (T:List (Option Nat)) (N:Nat):Bool:=oI M (fun _=>false) ops A T N
def kJ (P:Program) (M:FuncId->Bool) (call:dQ) (T:Nat->Option Nat) (Mk:Nat->List Nat) (i:Nat) (o:Oper) (φ:Fr) (σ:GS):Option (GV×GS):=
 match dH M o.op with
 |0=>zM (cE P call o (bO φ) σ)
 |1=>if fQ (bO φ) o.op=T i∨T i=some D5 then zM (cE P call o (bO φ) σ) else none
 |2=>if fQ (bO φ) o.op=T i then zM (cE P call o (bO φ) σ) else none
 |3=>match mF P (bO φ) o.op,T i with
  |some f,some r=>match σ.objs[r]? with
   |some .free=>if σ.lo<=r then some (f.1 r,gset σ r f.2) else none
   |_=>none
  |_,_=>none
 |4=>match zM (cE P call o (bO φ) (k8 (Mk i) σ)) with
  |some (g,σ1)=>some (g,kN (Mk i) σ σ1)
  |none=>none
 |_=>none
def pM (P:Program) (M:FuncId->Bool) (call:dQ) (T:Nat->Option Nat) (Mk:Nat->List Nat) (n:Nat) (ops:Array Oper):List Oper->Nat->Fr->GS->Option (Fr×GS)
 |[],_,φ,σ=>some (φ,σ)
 |o::l,i,φ,σ=>
  if(o.dst.all fun d=>decide (d<n)) then
   match bF ops o φ with
   |some false=>pM P M call T Mk n ops l (i+1) (f5 φ o.dst (.tup [])) σ
   |some true=>match kJ P M call T Mk i o φ σ with
    |some (g,σ')=>pM P M call T Mk n ops l (i+1) (f5 φ o.dst g) σ'
    |none=>none
   |none=>none
  else none
def vJ (P:Program) (M:FuncId->Bool) (call:dQ) (n:Nat) (ops:Array Oper) (φ:Fr) (σ:GS):Option (GX×Fr×GS):=
 let A:=gW ops.toList [];let σ0:GS:={σ with objs:=σ.objs++List.replicate (ops.toList.filter fun o=>dH M o.op==3).length .free};let T:=mQ P M call σ0.objs.length σ ops.toList σ.objs.length φ
 if wild M ops A T σ0.objs.length then
  (pM P M call (fun i=>T.getD i none) (kY M ops A T) n ops ops.toList 0 φ σ0).map fun q=>(.normal,q.1,q.2)
 else none
section
variable {P : Program} {call : dQ} {M : FuncId → Bool} {w0 : World}
theorem k4 (Mk:List Nat) (σ:GS) (r:Nat):(k8 Mk σ).objs[r]?=(σ.objs[r]?).map fun x=>if Mk.contains r then .held else x:=by
 simp[k8,aG,List.getElem?_zipIdx];cases σ.objs[r]?<;>simp
theorem l4 (Mk:List Nat) (σ σ1:GS) (r:Nat):(kN Mk σ σ1).objs[r]?=(σ1.objs[r]?).map fun x=>if Mk.contains r then σ.objs.getD r x else x:=by
 simp[kN,aG,List.getElem?_zipIdx];cases σ1.objs[r]?<;>simp
theorem y4 (Mk:List Nat) (σ:GS):(k8 Mk σ).objs.length=σ.objs.length:=by simp[k8]
theorem z7 (Mk:List Nat) (σ σ1:GS):(kN Mk σ σ1).objs.length=σ1.objs.length:=by simp[kN]
theorem ORel.one {C:Cx} {w:World} {r:Nat} {x:GObj} (h:ORel C w r x):C.bk r=none∨C.own r=none:=by
 cases x with
 |box T cs=>exact .inr h.1
 |own n e=>exact .inl h.1
 |mp es|mx es bs clk|it m since seen last=>exact .inr h.1
 |loop st pe n φ ps asg body rd=>exact .inr h.1
 |dfr=>exact .inr h.1
 |dead=>exact h.1
 |free=>exact .inl h.1
 |held=>exact h.1
theorem ORel.rehd {C:Cx} {w:World} {r:Nat} {x:GObj} {hd:Nat->Option Held} (he:hd r=C.hd r) (h:ORel C w r x):ORel {C with hd:=hd} w r x:=by
 cases x with
 |box T cs=>obtain⟨h0,b,vs,h1,h2,h3⟩:=h;exact⟨h0,b,vs,h1,h2,h3.1.rehd,h3.2⟩
 |own n e=>exact h
 |mp es=>obtain⟨h0,b,ents,clk,h1,h2,h3,h4⟩:=h;exact⟨h0,b,ents,clk,h1,h2,h3.rehd,h4.rehd⟩
 |mx es bs clk=>obtain⟨h0,b,ents,h1,h2,h3,h4,h5⟩:=h;exact⟨h0,b,ents,h1,h2,h3,h4.rehd,h5.rehd⟩
 |it m since seen last=>exact h
 |loop st pe n φ ps asg body rd=>obtain⟨h0,b,L,h1,h2,h3,h4,h5,h6,h7,h8,h9,h10⟩:=h;exact⟨h0,b,L,h1,h2,h3,h4,h5,h6,h7,h8,fun t=>(h9 t).rehd,h10⟩
 |dfr=>exact h
 |dead=>exact h
 |free=>exact h
 |held=>obtain⟨h1,h2,hh,h3,h4,h5,h6⟩:=h;exact⟨h1,h2,hh,he.trans h3,h4,h5,h6⟩
def hdm (C:Cx) (w:World) (Mk:List Nat):Nat->Option Held:=fun r=>if Mk.contains r then some ⟨C.bk r,C.own r,(d8 C r).bind (w.heap[·]?)⟩ else C.hd r
theorem Rel.mask {C:Cx} {σ:GS} {w:World} (h:Rel C σ w0 w) (Mk:List Nat):Rel {C with hd:=hdm C w Mk} (k8 Mk σ) w0 w:=by
 refine⟨h.below,h.fxc,fun r x hx=>?_,fun r hr=>h.dom r (by rw[y4] at hr;exact hr),h.new,h.inj,h.sepB,h.sepO,h.fxn,fun g cs j x h1 h2=>h.gl g cs j x h1 h2,h.gs⟩;rw[k4,aC] at hx;obtain⟨y,hy,rfl⟩:=hx;have ho:=h.obj r y hy;by_cases hm:Mk.contains r=true
 ·rw[aA hm];refine⟨ho.one,fun b hb=>n8 h hb,⟨C.bk r,C.own r,(d8 C r).bind (w.heap[·]?)⟩,aA hm,rfl,rfl,fun b hb=>?_⟩;have hb':d8 C r=some b:=hb;rw[hb'];rfl
 ·rw[aB hm];exact ho.rehd (aB hm)
theorem Rel.unmask {C D:Cx} {σ σ1:GS} {w w':World} {Mk:List Nat} (h:Rel C σ w0 w) (hl:Cx.le {C with hd:=hdm C w Mk} D) (h':Rel D σ1 w0 w')
  (hheld:∀r:Nat,(k8 Mk σ).objs[r]?=some .held->σ1.objs[r]?=some .held) (hMk:∀r∈Mk,r<σ.objs.length):
  C.le {D with hd:=C.hd}/\Rel {D with hd:=C.hd} (kN Mk σ σ1) w0 w':=by
 have hlC:C.le {D with hd:=C.hd}:=⟨hl.fx,hl.bk,hl.own,rfl,hl.fix⟩;refine⟨hlC,h'.below,h'.fxc,fun r x hx=>?_,fun r hr=>h'.dom r (by rw[z7] at hr;exact hr),h'.new,h'.inj,h'.sepB,h'.sepO,h'.fxn,fun g cs j x h1 h2=>h'.gl g cs j x h1 h2,h'.gs⟩;rw[l4,aC] at hx;obtain⟨y,hy,rfl⟩:=hx;by_cases hm:Mk.contains r=true
 ·rw[aA hm];have hlt:=hMk r (by simpa using hm);have hx0:σ.objs[r]?=some (σ.objs[r]):=gL hlt;have hh:σ1.objs[r]?=some .held:=hheld r (by rw[k4,hx0];simp only[aT];rw[aA hm]);rw[aL,hx0,fM];obtain⟨g1,g2,hh2,g3,g4,g5,g6⟩:=h'.obj r _ hh;have e3:D.hd r=some ⟨C.bk r,C.own r,(d8 C r).bind (w.heap[·]?)⟩:=by rw[hl.hd];exact aA hm
  rw[g3] at e3;cases e3;have eb:d8 D r=d8 C r:=by simp only[d8];rw[show D.bk r=_ from g4,show D.own r=_ from g5]
  refine ORel.keep' hlC g4 g5 (fun b hb=>g2 b (eb.trans hb)) (fun b hb=>?_) (h.obj r _ hx0);rw[g6 b (eb.trans hb),hb];rfl
 ·rw[aB hm];refine(h'.obj r y hy).rehd ?_;rw[hl.hd];exact(aB hm).symm
end
end
