/-
  A part of the proof of SchemaFinds.
-/
import Derived.Test.YtcfgfkkhpdlhpaaGreatDoorT12
set_option linter.all false
namespace Go.Proofs.YtcfgfkkhpdlhpaaGreatDoor
open Go.RowKit
variable [Globals]
def XA (P:Program) (n:Nat) (o:Oper):Bool:=
 match o.op,o.guard,o.dst with
 |.alloc t,none,some d=>(GH P t).isSome&&decide (d<n)
 |_,_,_=>false
def yI (P:Program) (M:FuncId->Bool) (n:Nat) (ops:Array Oper) (p:Nat):Bool:=
 let A:=pH ops.toList []
 (List.range ops.size).all fun j=>
  match ops[j]? with
  |none=>true
  |some oj=>
   (oj.after.all fun e=>!Region.binds .any e||decide (e.on<j))&&
   if p<j then(A.getD j []).contains p||(XA P n oj&&(List.range (p+1)).all fun i=>match ops[i]? with|none=>true|some oi=>oi.apart ops oj) else
   (List.range j).all fun i=>
    match ops[i]? with
    |none=>true
    |some oi=>(A.getD j []).contains i||
      ((dC M oi.op !=2||dC M oj.op==0)&&(dC M oj.op !=2||dC M oi.op==0||(j==p&&dC M oi.op==1))&&oi.apart ops oj)
def X7 (ops:Array Oper) (φ:Fr):Fr:=fun t=>if ops.toList.any (fun o=>o.dst==some t) then .any else φ t
section
variable {P : Program} {call : Nat → fT} {M : FuncId → Bool} {w0 : World} {n : Nat} {ops : Array Oper} {Φ : Nat → Fr} {S : Nat → GS} {G : Nat → GV} {p : Nat}
theorem o9 (hc:yI P M n ops p=true) {i j:Nat} {oi oj:Oper} (hi:ops[i]?=some oi) (hj:ops[j]?=some oj) (hij:i<j) (hjp:j<=p):
  i∈(pH ops.toList []).getD j []∨((dC M oi.op≠2∨dC M oj.op=0)/\(dC M oj.op≠2∨dC M oi.op=0∨(j=p/\dC M oi.op=1))/\oi.apart ops oj=true):=by
 unfold yI at hc;simp only[aS,f5] at hc;have h1:=hc j (Array.getElem?_eq_some_iff.1 hj).1;simp only[hj,aE (show¬p<j by omega),aH,aS,f5] at h1;have h2:=h1.2 i hij;simp only[hi,eY,aH,List.contains_iff_mem,bne_iff_ne,dE] at h2;rcases h2 with h2|⟨⟨h2,h3⟩,h4⟩
 ·exact .inl h2
 ·refine .inr ⟨h2,?_,h4⟩;rcases h3 with(h3|h3)|h3
  ·exact .inl h3
  ·exact .inr (.inl h3)
  ·exact .inr (.inr h3)
theorem GU (hc:yI P M n ops p=true) {j:Nat} {oj:Oper} (hj:ops[j]?=some oj) (hjp:p<j):p∈(pH ops.toList []).getD j []∨(XA P n oj=true/\∀i oi,i<=p->ops[i]?=some oi->oi.apart ops oj=true):=by
 unfold yI at hc;simp only[aS,f5] at hc;have h1:=hc j (Array.getElem?_eq_some_iff.1 hj).1;simp only[hj,aG hjp,aH,eY,List.contains_iff_mem,aS,f5] at h1;refine h1.2.imp id fun h2=>⟨h2.1,fun i oi hi ho=>?_⟩;have h3:=h2.2 i (by omega);rwa [ho] at h3
theorem Q9 (hc:yI P M n ops p=true) {j:Nat} {oj:Oper} (hj:ops[j]?=some oj):∀e∈oj.after,Region.binds .any e=true->e.on<j:=by
 unfold yI at hc;simp only[aS,f5] at hc;have h1:=hc j (Array.getElem?_eq_some_iff.1 hj).1;simp only[hj,aH] at h1;intro e he hb;have h2:=(Array.all_eq_true_iff_forall_mem.1 h1.1) e he;simpa[hb] using h2
theorem L4 {N:Nat} (hp:∀i,i<N->∀t,Φ (i+1) t=if jH ops i=some t then G i else Φ i t) {L:Array Bool} {j t:Nat} (hw:∀i,i<N->jH ops i=some t->(i<j->L.getD i false=true)/\(j<=i->L.getD i false=false)):
  ∀k,k<=N->nQ ops G (Φ 0) L k t=Φ (min k j) t
 |0,_=>by simp[nQ]
 |k+1,hk=>by
  have ih:=L4 hp hw k (by omega);have hp:=hp k (by omega) t;simp only[nQ];by_cases hd:jH ops k=some t
  ·obtain⟨h1,h2⟩:=hw k (by omega) hd;by_cases hkj:k<j
   ·rw[h1 hkj,aG rfl,iA,aG hd,show min (k+1) j=k+1 by omega,hp,aG hd]
   ·rw[h2 (by omega)];simp only[bT,fR];rw[ih,show min (k+1) j=min k j by omega]
  ·have e:(if L.getD k false=true then iF (nQ ops G (Φ 0) L k) (jH ops k) (G k) else nQ ops G (Φ 0) L k) t=nQ ops G (Φ 0) L k t:=by
    split
    ·rw[iA,aE hd]
    ·rfl
   rw[e,ih];by_cases hkj:k<j
   ·rw[show min (k+1) j=k+1 by omega,show min k j=k by omega,hp,aE hd]
   ·rw[show min (k+1) j=min k j by omega]
theorem KC {N:Nat} {W:Nat->Bool} {L:Array Bool} {j:Nat} (hstill:∀i,i<N->W i=false->S (i+1)=S i)
  (hw:∀i,i<N->W i=true->(i<j->L.getD i false=true)/\(j<=i->L.getD i false=false)):∀k,k<=N->vW S W L k=S (min k j)
 |0,_=>by simp[vW]
 |k+1,hk=>by
  have ih:=KC hstill hw k (by omega);simp only[vW];cases hW:W k with
  |true=>
   obtain⟨h1,h2⟩:=hw k (by omega) hW;by_cases hkj:k<j
   ·rw[h1 hkj,show min (k+1) j=k+1 by omega];rfl
   ·rw[h2 (by omega)];simp only[Bool.false_and,bT,fR];rw[ih,show min (k+1) j=min k j by omega]
  |false=>
   simp only[Bool.and_false,bT,fR];rw[ih];by_cases hkj:k<j
   ·rw[show min (k+1) j=k+1 by omega,show min k j=k by omega,hstill k (by omega) hW]
   ·rw[show min (k+1) j=min k j by omega]
theorem NR {L:Array Bool} {t:Nat}:∀k,k<=ops.size->(ops.toList.any (fun o=>o.dst==some t))=false->nQ ops G (Φ 0) L k t=Φ 0 t
 |0,_,_=>rfl
 |k+1,hk,h=>by
  have ih:=NR (L:=L) k (by omega) h;have hd:jH ops k≠some t:=fun e=>by
   have ho:ops[k]?=some (ops[k]'(by omega)):=aR (by omega);rw[jH,ho,bY] at e;have:=List.any_eq_false.1 h (ops[k]'(by omega)) (by simp);simp[e] at this
  simp only[nQ];split
  ·rw[iA,aE hd];exact ih
  ·exact ih
theorem HG {call:fT} {o:Oper} {ρ:Operand->GV} {σ σ':GS} {g:GV} (hk:dC M o.op=0) (h:dI P call o ρ σ=some (.panic g,σ')):False:=by
 obtain⟨dst,op,type,pos,after,guard⟩:=o;simp only at hk;unfold dI at h;cases op
 case panic x=>simp[dC] at hk
 case call c=>
  obtain⟨callee,args,ts⟩:=c;cases callee with
  |value f=>cases f<;>simp[dC] at hk<;>(split at hk<;>simp at hk)
  |invoke r m=>simp[dC] at hk
  |builtin b=>simp only[aI] at h;obtain⟨_,_,h⟩:=h;cases h
 all_goals (simp only[aI] at h;obtain⟨_,_,h⟩:=h;cases h)
theorem D5 (hm:P.follows .mixedOrders=true) (hcall:∀i,bZ P w0 (call i)) (hpure:∀i,dR M (call i)) {ro:Option Nat} {C:Cx} {φ:Fr} {σ σ':GS} {id:Nat} {Q:Exit->Act->World->Prop} {a:Act} {w:World} {op:Oper} {g:GV}
  (hcalm:yI P M n ops p=true) (hop:ops[p]?=some op)
  (T:∀(i:Nat) o,i<p->ops[i]?=some o->(o.dst.all fun d=>decide (d<n))=true/\Φ (i+1)=iF (Φ i) o.dst (G i)/\
   ((cI ops o (Φ i)=some false/\G i=.tup []/\S (i+1)=S i)∨(cI ops o (Φ i)=some true/\dI P (call i) o (dA (Φ i)) (S i)=some (.val (G i),S (i+1)))))
  (hwp:cI ops op (Φ p)=some true) (hpan:dI P (call p) op (dA (Φ p)) (S p)=some (.panic g,σ')) (e1:Φ 0=φ) (e2:S 0=σ)
  (hr:Rel C σ w0 w) (hf:FRel C φ a) (hn:a.tmps.size=n) (hd0:DRel C σ.ds a.defers) (hq:QOk w0 C Q n (.panic g) (X7 ops φ) σ'):(Code.region id ops true).wpIn (FW ro) 0 P Q a w:=by
 have hps:p<ops.size:=(Array.getElem?_eq_some_iff.1 hop).1;have hput:∀i,i<p->∀t,Φ (i+1) t=if jH ops i=some t then G i else Φ i t:=fun i hi t=>by
  have ho:ops[i]?=some (ops[i]'(by omega)):=aR (by omega);rw[(T i _ hi ho).2.1,iA,jH,ho,bY]
 let W:Nat->Bool:=fun i=>match ops[i]? with
  |some o=>dC M o.op==2
  |none=>false
 have hW:∀i o,ops[i]?=some o->(W i=(dC M o.op==2)):=fun i o ho=>by simp only[W,ho]
 have hstill:∀i,i<p->W i=false->S (i+1)=S i:=fun i hi hw=>by
  have ho:ops[i]?=some (ops[i]'(by omega)):=aR (by omega);rcases(T i _ hi ho).2.2 with⟨_,_,h⟩|⟨_,h⟩
  ·exact h
  ·rw[hW i _ ho] at hw;exact mW (hpure _) (by simpa using hw) h
 have hds:σ'.ds=σ.ds:=by
  have hall:∀k,k<=p->(S k).ds=(S 0).ds:=fun k=>by
   induction k with
   |zero=>intro _;rfl
   |succ k ih=>
    intro hk;have ho:ops[k]?=some (ops[k]'(by omega)):=aR (by omega);rw[<-ih (by omega)];rcases(T k _ (by omega) ho).2.2 with⟨_,_,h⟩|⟨_,h⟩
    ·rw[h]
    ·exact nL (hcall _) h
  rw[nL (hcall _) hpan,<-e2];exact hall _ (rL _)
 have ahead:∀(L:Array Bool),pI ops L->∀(i j:Nat) oi oj,ops[i]?=some oi->ops[j]?=some oj->i<j->i∈(pH ops.toList []).getD j []->
   ((∀e∈oj.after,Region.binds .any e=true->L.getD e.on false=true)->L.getD i false=true)/\(L.getD i false=false->L.getD j false=false):=fun L hc i j oi oj hi hj hij hanc=>by
  refine⟨fun hready=>uE hc j oj hj hready i hanc,fun hni=>?_⟩;cases hjl:L.getD j false with
  |false=>rfl
  |true=>
   have:=uE hc j oj hj (fun e he hb=>hc j oj hj hjl e he hb) i hanc;rw[hni] at this;cases this
 obtain⟨lateD,hlateD⟩:∃f:Nat->Bool,f=fun t=>(List.range ops.size).any fun j=>decide (p<j)&&(match ops[j]? with|some oj=>!((pH ops.toList []).getD j []).contains p&&(oj.dst==some t)|none=>false):=⟨_,rfl⟩;have late_of:∀(j:Nat) oj t,ops[j]?=some oj->p<j->¬p∈(pH ops.toList []).getD j []->oj.dst=some t->lateD t=true:=fun j oj t hj hpj hn hd=>by
  rw[hlateD];simp only[List.any_eq_true,f5];exact⟨j,(Array.getElem?_eq_some_iff.1 hj).1,by simp only[hpj,hj,hd];simpa[aO] using hn⟩
 have late_no:∀(i:Nat) oi t,i<=p->ops[i]?=some oi->(t∈oi.looksAt ops∨oi.dst=some t)->lateD t=false:=fun i oi t hi ho ht=>by
  cases hb:lateD t with
  |false=>rfl
  |true=>
   rw[hlateD] at hb;simp only[List.any_eq_true,f5,aH,aL] at hb;obtain⟨j,hj,hpj,hb⟩:=hb;have hoj:ops[j]?=some (ops[j]'hj):=aR hj;rw[hoj] at hb;simp only[aH,dK,dE] at hb;rcases GU hcalm hoj hpj with h1|⟨_,h1⟩
   ·rw[List.contains_iff_mem.2 h1] at hb;cases hb.1
   ·obtain⟨a1,a2,a3⟩:=Oper.apart_spec (h1 i oi hi ho);rcases ht with ht|ht
    ·exact absurd ht (a3 t hb.2)
    ·exact absurd hb.2 (a2 t ht)
 obtain⟨F,hF⟩:∃F:Array Bool->Fr,F=fun L t=>if lateD t=true then .any else nQ ops G (Φ 0) L p t:=⟨_,rfl⟩;have hFn:∀L t,lateD t=false->F L t=nQ ops G (Φ 0) L p t:=fun L t h=>by rw[hF];simp[h]
 have key:∀(fuel:Nat) (L:Array Bool) (D:Cx) (a':Act) (w':World),L.size=ops.size->pI ops L->L.getD p false=false->sR L ops.size<=fuel->C.le D->Rel D (vW S W L p) w0 w'->
   FRel D (F L) a'->a'.tmps.size=n->a'.defers=a.defers->wpAnyIn (FW ro) 0 P .any ops Q fuel L a' w':=by
  intro fuel;induction fuel with
  |zero=>
   intro L D a' w' hLs hc hpn hcnt hl hrel hfr hna hda;have hall:=xW (L:=L) ops.size (by omega) p hps;rw[hpn] at hall;cases hall
  |succ fuel ih=>
   intro L D a' w' hLs hc hpn hcnt hl hrel hfr hna hda;refine⟨fun hend=>?_,fun j hj=>?_⟩
   ·
    have hall:∀i,i<ops.size->L.getD i false=true:=by
     intro i;induction i using Nat.strongRecOn with
     |_ i ihi=>
      intro hi;cases hb:L.getD i false with
      |true=>rfl
      |false=>
       have ho:ops[i]?=some (ops[i]'hi):=aR hi;have:i∈Region.ready .any ops L:=mem_ready.2 ⟨by
        rw[aU] at hb⊢;rw[aR (by omega:i<L.size)] at hb⊢;simpa using hb,_,ho,fun e he hbe=>by
         have:=Q9 hcalm ho e he hbe;exact ihi e.on this (by omega)⟩
       rw[hend] at this;cases this
    have:=hall p hps;rw[hpn] at this;cases this
   ·obtain⟨hj0,o,ho,hready⟩:=mem_ready.1 hj;have hjs:=(Array.getElem?_eq_some_iff.1 ho).1;have hjn:L.getD j false=false:=by
     rw[aU] at hj0⊢;rw[aR (by omega:j<L.size)] at hj0⊢;simpa using hj0
    rcases dX p j with hlt|hjp
    ·
     have hna':¬p∈(pH ops.toList []).getD j []:=fun h=>by
      have:=(ahead L hc p j _ _ hop ho hlt h).1 hready;rw[hpn] at this;cases this
     have hla:=((GU hcalm ho hlt).resolve_left hna').1;let L':=L.setIfInBounds j true;have hL'o:∀i,i≠j->L'.getD i false=L.getD i false:=fun i hi=>getD_set_ne false (j7 hi);have hL'j:L'.getD j false=true:=by
      simp[L',aU,show j<L.size by omega]
     have hc':pI ops L':=fun k ok hk hkl e he hb=>by
      by_cases hkj:k=j
      ·subst hkj;rw[ho] at hk;cases hk;exact getD_set_true (hready e he hb)
      ·rw[hL'o k hkj] at hkl;exact getD_set_true (hc k ok hk hkl e he hb)
     have hcnt':sR L' ops.size<=fuel:=by
      have:=(AM hL'o hL'j hjn ops.size).2 hjs;omega
     have hheap':∀k,k<=p->vW S W L' k=vW S W L k:=fun k=>by
      induction k with
      |zero=>intro _;rfl
      |succ k ihk=>intro hk;simp only[vW];rw[hL'o k (by omega),ihk (by omega)]
     unfold XA at hla;split at hla
     ·rename_i t0 d hopA hgd hdst;simp only[aH,aL] at hla;obtain⟨hga,hdn⟩:=hla;unfold wpOpIn;simp only[ho];rw[fM hfr (show cI ops o (F L)=some true by unfold cI;rw[hgd])];simp only[fP];obtain⟨v0,hv0⟩:∃v0,(zeroValue t0).run P w'=.ok v0 w':=by
       unfold GH at hga;cases hz:lX P t0 with
       |none=>rw[hz] at hga;cases hga
       |some z=>obtain⟨v0,h1,_⟩:=qK hz w';exact⟨v0,h1⟩
      have hrun:(execOp a'.eval o).run P w'=.ok (.value (.pointer (some ⟨w'.heap.size,0,none⟩))) (w'.alloc (.cells v0.cells t0)):=by
       unfold execOp;rw[hopA];simp[Instr.alloc,newVar,newRow,hv0]
      refine⟨fun f _=>trivial,?_⟩;rw[Oper.semAt_eq _ _ _ (fun c e=>by rw[hopA] at e;cases e),hrun];have hw2:Rel D (vW S W L' p) w0 (w'.alloc (.cells v0.cells t0)):=by
       rw[hheap' p (rL _)];exact hrel.world rfl rfl rfl (by simp) (fun k hk=>Below.heap_alloc w' _ k hk)
      obtain⟨q1,q2,q3⟩:=hfr.put (d:=o.dst) (g:=.any) (v:=.pointer (some ⟨w'.heap.size,0,none⟩)) (.any _) hna (n:=n) (by rw[hdst];simpa using hdn);refine ih L' D _ _ (by simp[L',hLs]) hc' ((hL'o p (by omega)).trans hpn) hcnt' hl hw2 (fun t=>?_) q2 (q3.trans hda);have hq1:=q1 t;rw[iA] at hq1;by_cases ht:lateD t=true
      ·rw[hF];simp only[ht,fP];exact .any _
      ·have ht':lateD t=false:=by simpa using ht
       rw[hFn L' t ht',u5 hL'o (by rw[jH,ho,bY];exact fun e=>ht (late_of j o t ho hlt hna' e)),<-hFn L t ht'];rwa [aE (fun e=>ht (late_of j o t ho hlt hna' e))] at hq1
     ·cases hla
    have names:∀t,(t∈o.looksAt ops∨o.dst=some t)->∀i,i<p->jH ops i=some t->(i<j->L.getD i false=true)/\(j<=i->L.getD i false=false):=fun t ht i hi hd=>by
     have hoi:ops[i]?=some (ops[i]'(by omega)):=aR (by omega);have hdi:(ops[i]'(by omega)).dst=some t:=by rw[jH,hoi,bY] at hd;exact hd
     refine⟨fun hij=>?_,fun hij=>?_⟩
     ·rcases o9 hcalm hoi ho hij hjp with h1|⟨_,_,h1⟩
      ·exact(ahead L hc i j _ _ hoi ho hij h1).1 hready
      ·obtain⟨a1,a2,a3⟩:=Oper.apart_spec h1;rcases ht with ht|ht
       ·exact absurd ht (a1 t hdi)
       ·exact absurd ht (a2 t hdi)
     ·by_cases hij2:i=j
      ·subst hij2;exact hjn
      ·rcases o9 hcalm ho hoi (by omega) (by omega) with h1|⟨_,_,h1⟩
       ·exact(ahead L hc j i _ _ ho hoi (by omega) h1).2 hjn
       ·obtain⟨a1,a2,a3⟩:=Oper.apart_spec h1;rcases ht with ht|ht
        ·exact absurd ht (a3 t hdi)
        ·exact absurd hdi (a2 t ht)
    have hframe:∀t,(t∈o.looksAt ops∨o.dst=some t)->F L t=Φ j t:=fun t ht=>by
     rw[hFn L t (late_no j o t hjp ho ht),L4 hput (names t ht) p (rL _),show min p j=j by omega]
    have hheap:dC M o.op≠0->vW S W L p=S j:=fun hk=>by
     rw[KC hstill (j:=j) (fun i hi hWi=>?_) p (rL _),show min p j=j by omega];have hoi:ops[i]?=some (ops[i]'(by omega)):=aR (by omega);rw[hW i _ hoi] at hWi;have hWi:dC M (ops[i]'(by omega)).op=2:=by simpa using hWi
     refine⟨fun hij=>?_,fun hij=>?_⟩
     ·rcases o9 hcalm hoi ho hij hjp with h1|⟨h1,h2,_⟩
      ·exact(ahead L hc i j _ _ hoi ho hij h1).1 hready
      ·rcases h1 with h1|h1
       ·exact absurd hWi h1
       ·exact absurd h1 hk
     ·by_cases hij2:i=j
      ·subst hij2;exact hjn
      ·rcases o9 hcalm ho hoi (by omega) (by omega) with h1|⟨h1,h2,_⟩
       ·exact(ahead L hc j i _ _ ho hoi (by omega) h1).2 hjn
       ·rcases h2 with h2|h2|h2
        ·exact absurd hWi h2
        ·exact absurd h2 hk
        ·omega
    have hwant:cI ops o (F L)=cI ops o (Φ j):=by
     unfold cI;cases hgd:o.guard with
     |none=>rfl
     |some gw=>
      obtain⟨k,want⟩:=gw;simp only;congr 1;unfold z7;cases hdk:(ops[k]?).bind (·.dst) with
      |none=>rfl
      |some d=>
       simp only;rw[hframe d (.inl (by simp[Oper.looksAt,hgd,hdk]))]
    have hcong:∀τ,dI P (call j) o (dA (F L)) τ=dI P (call j) o (dA (Φ j)) τ:=fun τ=>wQ (fun x hx=>by
     cases x with
     |tmp t=>exact hframe t (.inl (by
       unfold Oper.looksAt;exact eR _ (List.mem_filterMap.2 ⟨.tmp t,by simpa using hx,rfl⟩)))
     |_=>rfl)
    by_cases hjeq:j=p
    ·
     subst hjeq;obtain rfl:=aY (ho.symm.trans hop);unfold wpOpIn;simp only[ho];rw[fM hfr (hwant.trans hwp)];simp only[fP];have hrun:dI P (call j) o (dA (F L)) (vW S W L j)=some (.panic g,σ'):=by
      rw[hcong];by_cases hk0:dC M o.op=0
      ·exfalso;exact HG hk0 hpan
      ·rw[hheap hk0];exact hpan
     refine j4 (hcall j) hrel (dQ hfr) hrun (fun g' E v w'' eg=>by cases eg) (fun g' E v w'' eg hE hrE hv=>?_);cases eg;refine hq E a' w'' (hl.trans hE) (fun t=>?_) hna (by rw[hda,hds];exact hd0.mono (hl.trans hE)) hrE v hv;unfold X7;split
     ·exact .any _
     ·rename_i h;have h:(ops.toList.any fun o=>o.dst==some t)=false:=by simpa using h
      have:=hfr t;have hnl:lateD t=false:=by
       cases hb:lateD t with
       |false=>rfl
       |true=>
        rw[hlateD] at hb;simp only[List.any_eq_true,f5,aH,aL] at hb;obtain⟨k,hk,_,hb⟩:=hb;have hok:ops[k]?=some (ops[k]'hk):=aR hk;rw[hok] at hb;simp only[aH,dE] at hb;have:(ops.toList.any fun o=>o.dst==some t)=true:=List.any_eq_true.2 ⟨ops[k]'hk,by simp,by simp[hb.2]⟩;rw[h] at this;cases this
      rw[hFn L t hnl,NR j (by omega) h,e1] at this;exact this.mono hE
    ·have hjlt:j<p:=by omega
     let L':=L.setIfInBounds j true;have hL'o:∀i,i≠j->L'.getD i false=L.getD i false:=fun i hi=>getD_set_ne false (j7 hi);have hL'j:L'.getD j false=true:=by
      simp[L',aU,show j<L.size by omega]
     have hc':pI ops L':=fun k ok hk hkl e he hb=>by
      by_cases hkj:k=j
      ·subst hkj;rw[ho] at hk;cases hk;exact getD_set_true (hready e he hb)
      ·rw[hL'o k hkj] at hkl;exact getD_set_true (hc k ok hk hkl e he hb)
     have hcnt':sR L' ops.size<=fuel:=by
      have:=(AM hL'o hL'j hjn ops.size).2 hjs;omega
     have hnewheap:dC M o.op=2->vW S W L' p=S (j+1):=fun hk=>by
      rw[KC hstill (j:=j+1) (fun i hi hWi=>?_) p (rL _),show min p (j+1)=j+1 by omega];have hoi:ops[i]?=some (ops[i]'(by omega)):=aR (by omega);rw[hW i _ hoi] at hWi;have hWi:dC M (ops[i]'(by omega)).op=2:=by simpa using hWi
      refine⟨fun hij=>?_,fun hij=>?_⟩
      ·by_cases hij2:i=j
       ·subst hij2;exact hL'j
       ·rw[hL'o i hij2];rcases o9 hcalm hoi ho (by omega) hjp with h1|⟨h1,h2,_⟩
        ·exact(ahead L hc i j _ _ hoi ho (by omega) h1).1 hready
        ·rcases h1 with h1|h1
         ·exact absurd hWi h1
         ·omega
      ·rw[hL'o i (by omega)];rcases o9 hcalm ho hoi (by omega) (by omega) with h1|⟨h1,h2,_⟩
       ·exact(ahead L hc j i _ _ ho hoi (by omega) h1).2 hjn
       ·rcases h2 with h2|h2|h2
        ·exact absurd hWi h2
        ·omega
        ·omega
     have hsameheap:dC M o.op≠2->vW S W L' p=vW S W L p:=fun hk=>BO hL'o (by rw[hW j o ho];simpa using hk) _;have hnewframe:∀t,nQ ops G (Φ 0) L' p t=if o.dst=some t then G j else nQ ops G (Φ 0) L p t:=fun t=>by
      by_cases hd:o.dst=some t
      ·rw[aG hd,L4 hput (j:=j+1) (fun i hi hdi=>?_) p (rL _),show min p (j+1)=j+1 by omega,hput j hjlt t,jH,ho,bY,aG hd];obtain⟨h1,h2⟩:=names t (.inr hd) i hi hdi;refine⟨fun hij=>?_,fun hij=>?_⟩
       ·by_cases hij2:i=j
        ·subst hij2;exact hL'j
        ·rw[hL'o i hij2];exact h1 (by omega)
       ·rw[hL'o i (by omega)];exact h2 (by omega)
      ·rw[aE hd];exact u5 hL'o (by rw[jH,ho,bY];exact hd) _
     have next:∀(E:Cx) (v:Value) (w'':World),D.le E->Rel E (vW S W L' p) w0 w''->VR E (G j) v->wpAnyIn (FW ro) 0 P .any ops Q fuel L' (a'.put o.dst v) w'':=fun E v w'' hE hrelE hv=>by
      obtain⟨p1,p2,p3⟩:=(hfr.mono hE).put hv hna (T j o hjlt ho).1;refine ih L' E _ w'' (by simp[L',hLs]) hc' ((hL'o p (by omega)).trans hpn) hcnt' (hl.trans hE) hrelE (fun t=>?_) p2 (p3.trans hda);by_cases ht:lateD t=true
      ·rw[hF];simp only[ht,fP];exact .any _
      have ht':lateD t=false:=by simpa using ht
      rw[hFn L' t ht',hnewframe t];have:=p1 t;rw[iA] at this;split at this
      ·rename_i hd;rw[aG hd];exact this
      ·rename_i hd;rw[aE hd,<-hFn L t ht'];exact this
     unfold wpOpIn;simp only[ho];rcases(T j o hjlt ho).2.2 with⟨hw0,hG,hS⟩|⟨hw1,hop'⟩
     ·rw[fM hfr (hwant.trans hw0)];simp only[bT,fR];refine⟨fun _ _=>trivial,next D undef w' (.refl D) ?_ (by rw[hG];exact vZ D)⟩;by_cases hk2:dC M o.op=2
      ·rw[hnewheap hk2,hS,<-hheap (by omega)];exact hrel
      ·rw[hsameheap hk2];exact hrel
     ·rw[fM hfr (hwant.trans hw1)];simp only[fP];have hrun:dI P (call j) o (dA (F L)) (vW S W L p)=some (.val (G j),vW S W L' p):=by
       rw[hcong];by_cases hk0:dC M o.op=0
       ·rw[hsameheap (by omega)];exact(vB hk0 hop').2 _
       ·rw[hheap hk0,hop'];by_cases hk2:dC M o.op=2
        ·rw[hnewheap hk2]
        ·rw[hsameheap hk2,hheap hk0,mW (hpure _) hk2 hop']
      refine j4 (hcall j) hrel (dQ hfr) hrun (fun g E v w'' eg hE hrE hv=>?_) (fun g E v w'' eg=>by cases eg);cases eg;exact next E v w'' hE hrE hv
 refine wpIn_region_any hm (key ops.size (Array.replicate ops.size false) C a _ (by simp) (fun j o ho hj=>?_) ?_ ?_ (.refl C) ?_ ?_ hn rfl)
 ·have hjs:=(Array.getElem?_eq_some_iff.1 ho).1;simp[aU,hjs] at hj
 ·simp[aU,hps]
 ·have:∀(L:Array Bool) k,sR L k<=k:=fun L k=>by
   induction k with
   |zero=>exact rL _
   |succ k ih=>simp only[sR];split<;>omega
  exact this _ _
 ·have:∀k,vW S W (Array.replicate ops.size false) k=S 0:=fun k=>by
   induction k with
   |zero=>rfl
   |succ k ih=>
    simp only[vW];rw[aE (by simp[aU,iP];intro h1;split at h1<;>simp at h1),ih]
  rw[this,e2];exact hr.drew
 ·have:∀k,nQ ops G (Φ 0) (Array.replicate ops.size false) k=Φ 0:=fun k=>by
   induction k with
   |zero=>rfl
   |succ k ih=>
    simp only[nQ];rw[aE (by simp[aU,iP];split<;>simp),ih]
  refine fun t=>?_;by_cases ht:lateD t=true
  ·rw[hF];simp only[ht,fP];exact .any _
  ·rw[hFn _ t (by simpa using ht),this,e1];exact hf t
end
