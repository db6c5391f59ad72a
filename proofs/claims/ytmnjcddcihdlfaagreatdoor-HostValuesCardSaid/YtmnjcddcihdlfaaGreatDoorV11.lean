/- Part of HostValues. -/
import Derived.Test.YtmnjcddcihdlfaaGreatDoorV10
import Derived.LoopN
import Derived.Recover
import Derived.RangeFuncNested
set_option linter.all false
namespace Go.Proofs.YtmnjcddcihdlfaaGreatDoor
section
open Go.RowKit
variable [Globals]
def TB (P:Program) (n:Nat) (o:Oper):Bool:=
 match o.op,o.guard,o.dst with
 |.alloc t,none,some d=>(yE P t).isSome&&decide (d<n)
 |_,_,_=>false
def uX (P:Program) (M:FuncId->Bool) (n:Nat) (ops:Array Oper) (p:Nat):Bool:=
 let A:=gW ops.toList []
 (List.range ops.size).all fun j=>
  match ops[j]? with
  |none=>true
  |some oj=>
   (oj.after.all fun e=>!Region.binds .any e||decide (e.on<j))&&
   if p<j then(A.getD j []).contains p||(TB P n oj&&(List.range (p+1)).all fun i=>match ops[i]? with|none=>true|some oi=>oi.apart ops oj) else
   (List.range j).all fun i=>
    match ops[i]? with
    |none=>true
    |some oi=>(A.getD j []).contains i||
      ((cF M oi.op !=2||cF M oj.op==0)&&(cF M oj.op !=2||cF M oi.op==0||(j==p&&cF M oi.op==1))&&oi.apart ops oj)
def DE (ops:Array Oper) (φ:Fr):Fr:=fun t=>if ops.toList.any (fun o=>o.dst==some t) then .any else φ t
section
variable {P : Program} {call : Nat → dQ} {M : FuncId → Bool} {w0 : World} {n : Nat} {ops : Array Oper} {Φ : Nat → Fr} {S : Nat → GS} {G : Nat → GV} {p : Nat}
theorem m7 (hc:uX P M n ops p=true) {i j:Nat} {oi oj:Oper} (hi:ops[i]?=some oi) (hj:ops[j]?=some oj) (hij:i<j) (hjp:j<=p):
  i∈(gW ops.toList []).getD j []∨((cF M oi.op≠2∨cF M oj.op=0)/\(cF M oj.op≠2∨cF M oi.op=0∨(j=p/\cF M oi.op=1))/\oi.apart ops oj=true):=by
 unfold uX at hc;simp only[aZ,d9] at hc;have h1:=hc j (Array.getElem?_eq_some_iff.1 hj).1;simp only[hj,aB (show¬p<j by omega),aF,aZ,d9] at h1;have h2:=h1.2 i hij;simp only[hi,dJ,aF,List.contains_iff_mem,bne_iff_ne,bU] at h2;rcases h2 with h2|⟨⟨h2,h3⟩,h4⟩
 ·exact .inl h2
 ·refine .inr ⟨h2,?_,h4⟩;rcases h3 with(h3|h3)|h3
  ·exact .inl h3
  ·exact .inr (.inl h3)
  ·exact .inr (.inr h3)
theorem CV (hc:uX P M n ops p=true) {j:Nat} {oj:Oper} (hj:ops[j]?=some oj) (hjp:p<j):p∈(gW ops.toList []).getD j []∨(TB P n oj=true/\∀i oi,i<=p->ops[i]?=some oi->oi.apart ops oj=true):=by
 unfold uX at hc;simp only[aZ,d9] at hc;have h1:=hc j (Array.getElem?_eq_some_iff.1 hj).1;simp only[hj,aA hjp,aF,dJ,List.contains_iff_mem,aZ,d9] at h1;refine h1.2.imp id fun h2=>⟨h2.1,fun i oi hi ho=>?_⟩;have h3:=h2.2 i (by omega);rwa [ho] at h3
theorem NG (hc:uX P M n ops p=true) {j:Nat} {oj:Oper} (hj:ops[j]?=some oj):∀e∈oj.after,Region.binds .any e=true->e.on<j:=by
 unfold uX at hc;simp only[aZ,d9] at hc;have h1:=hc j (Array.getElem?_eq_some_iff.1 hj).1;simp only[hj,aF] at h1;intro e he hb;have h2:=(Array.all_eq_true_iff_forall_mem.1 h1.1) e he;simpa[hb] using h2
theorem HO {N:Nat} (hp:∀i,i<N->∀t,Φ (i+1) t=if eX ops i=some t then G i else Φ i t) {L:Array Bool} {j t:Nat} (hw:∀i,i<N->eX ops i=some t->(i<j->L.getD i false=true)/\(j<=i->L.getD i false=false)):
  ∀k,k<=N->jX ops G (Φ 0) L k t=Φ (min k j) t
 |0,_=>by simp[jX]
 |k+1,hk=>by
  have ih:=HO hp hw k (by omega);have hp:=hp k (by omega) t;simp only[jX];by_cases hd:eX ops k=some t
  ·obtain⟨h1,h2⟩:=hw k (by omega) hd;by_cases hkj:k<j
   ·rw[h1 hkj,aA rfl,eI,aA hd,show min (k+1) j=k+1 by omega,hp,aA hd]
   ·rw[h2 (by omega)];simp only[aY,cO];rw[ih,show min (k+1) j=min k j by omega]
  ·have e:(if L.getD k false=true then f5 (jX ops G (Φ 0) L k) (eX ops k) (G k) else jX ops G (Φ 0) L k) t=jX ops G (Φ 0) L k t:=by
    split
    ·rw[eI,aB hd]
    ·rfl
   rw[e,ih];by_cases hkj:k<j
   ·rw[show min (k+1) j=k+1 by omega,show min k j=k by omega,hp,aB hd]
   ·rw[show min (k+1) j=min k j by omega]
theorem GC {N:Nat} {W:Nat->Bool} {L:Array Bool} {j:Nat} (hstill:∀i,i<N->W i=false->S (i+1)=S i)
  (hw:∀i,i<N->W i=true->(i<j->L.getD i false=true)/\(j<=i->L.getD i false=false)):∀k,k<=N->s6 S W L k=S (min k j)
 |0,_=>by simp[s6]
 |k+1,hk=>by
  have ih:=GC hstill hw k (by omega);simp only[s6];cases hW:W k with
  |true=>
   obtain⟨h1,h2⟩:=hw k (by omega) hW;by_cases hkj:k<j
   ·rw[h1 hkj,show min (k+1) j=k+1 by omega];rfl
   ·rw[h2 (by omega)];simp only[Bool.false_and,aY,cO];rw[ih,show min (k+1) j=min k j by omega]
  |false=>
   simp only[Bool.and_false,aY,cO];rw[ih];by_cases hkj:k<j
   ·rw[show min (k+1) j=k+1 by omega,show min k j=k by omega,hstill k (by omega) hW]
   ·rw[show min (k+1) j=min k j by omega]
theorem CI {L:Array Bool} {t:Nat}:∀k,k<=ops.size->(ops.toList.any (fun o=>o.dst==some t))=false->jX ops G (Φ 0) L k t=Φ 0 t
 |0,_,_=>rfl
 |k+1,hk,h=>by
  have ih:=CI (L:=L) k (by omega) h;have hd:eX ops k≠some t:=fun e=>by
   have ho:ops[k]?=some (ops[k]'(by omega)):=aK (by omega);rw[eX,ho,bC] at e;have:=List.any_eq_false.1 h (ops[k]'(by omega)) (by simp);simp[e] at this
  simp only[jX];split
  ·rw[eI,aB hd];exact ih
  ·exact ih
theorem DI {call:dQ} {o:Oper} {ρ:Operand->GV} {σ σ':GS} {g:GV} (hk:cF M o.op=0) (h:cE P call o ρ σ=some (.panic g,σ')):False:=by
 obtain⟨dst,op,type,pos,after,guard⟩:=o;simp only at hk;unfold cE at h;cases op
 case panic x=>simp[cF] at hk
 case call c=>
  obtain⟨callee,args,ts⟩:=c;cases callee with
  |value f=>cases f<;>simp[cF] at hk<;>(split at hk<;>simp at hk)
  |invoke r m=>simp[cF] at hk
  |builtin b=>simp only[aC] at h;obtain⟨_,_,h⟩:=h;cases h
 all_goals (simp only[aC] at h;obtain⟨_,_,h⟩:=h;cases h)
theorem zE (hm:P.follows .mixedOrders=true) (hcall:∀i,bK P w0 (call i)) (hpure:∀i,d6 M (call i)) {ro:Option Nat} {C:Cx} {φ:Fr} {σ σ':GS} {id:Nat} {Q:Exit->Act->World->Prop} {a:Act} {w:World} {op:Oper} {g:GV}
  (hcalm:uX P M n ops p=true) (hop:ops[p]?=some op)
  (T:∀(i:Nat) o,i<p->ops[i]?=some o->(o.dst.all fun d=>decide (d<n))=true/\Φ (i+1)=f5 (Φ i) o.dst (G i)/\
   ((bF ops o (Φ i)=some false/\G i=.tup []/\S (i+1)=S i)∨(bF ops o (Φ i)=some true/\cE P (call i) o (bO (Φ i)) (S i)=some (.val (G i),S (i+1)))))
  (hwp:bF ops op (Φ p)=some true) (hpan:cE P (call p) op (bO (Φ p)) (S p)=some (.panic g,σ')) (e1:Φ 0=φ) (e2:S 0=σ)
  (hr:Rel C σ w0 w) (hf:FRel C φ a) (hn:a.tmps.size=n) (hd0:DRel C σ.ds a.defers) (hq:QOk w0 C Q n (.panic g) (DE ops φ) σ'):(Code.region id ops true).wpIn (FW ro) 0 P Q a w:=by
 have hps:p<ops.size:=(Array.getElem?_eq_some_iff.1 hop).1;have hput:∀i,i<p->∀t,Φ (i+1) t=if eX ops i=some t then G i else Φ i t:=fun i hi t=>by
  have ho:ops[i]?=some (ops[i]'(by omega)):=aK (by omega);rw[(T i _ hi ho).2.1,eI,eX,ho,bC]
 let W:Nat->Bool:=fun i=>match ops[i]? with
  |some o=>cF M o.op==2
  |none=>false
 have hW:∀i o,ops[i]?=some o->(W i=(cF M o.op==2)):=fun i o ho=>by simp only[W,ho]
 have hstill:∀i,i<p->W i=false->S (i+1)=S i:=fun i hi hw=>by
  have ho:ops[i]?=some (ops[i]'(by omega)):=aK (by omega);rcases(T i _ hi ho).2.2 with⟨_,_,h⟩|⟨_,h⟩
  ·exact h
  ·rw[hW i _ ho] at hw;exact jR (hpure _) (by simpa using hw) h
 have hds:σ'.ds=σ.ds:=by
  have hall:∀k,k<=p->(S k).ds=(S 0).ds:=fun k=>by
   induction k with
   |zero=>intro _;rfl
   |succ k ih=>
    intro hk;have ho:ops[k]?=some (ops[k]'(by omega)):=aK (by omega);rw[<-ih (by omega)];rcases(T k _ (by omega) ho).2.2 with⟨_,_,h⟩|⟨_,h⟩
    ·rw[h]
    ·exact lL (hcall _) h
  rw[lL (hcall _) hpan,<-e2];exact hall _ (rL _)
 have ahead:∀(L:Array Bool),kW ops L->∀(i j:Nat) oi oj,ops[i]?=some oi->ops[j]?=some oj->i<j->i∈(gW ops.toList []).getD j []->
   ((∀e∈oj.after,Region.binds .any e=true->L.getD e.on false=true)->L.getD i false=true)/\(L.getD i false=false->L.getD j false=false):=fun L hc i j oi oj hi hj hij hanc=>by
  refine⟨fun hready=>lO hc j oj hj hready i hanc,fun hni=>?_⟩;cases hjl:L.getD j false with
  |false=>rfl
  |true=>
   have:=lO hc j oj hj (fun e he hb=>hc j oj hj hjl e he hb) i hanc;rw[hni] at this;cases this
 obtain⟨lateD,hlateD⟩:∃f:Nat->Bool,f=fun t=>(List.range ops.size).any fun j=>decide (p<j)&&(match ops[j]? with|some oj=>!((gW ops.toList []).getD j []).contains p&&(oj.dst==some t)|none=>false):=⟨_,rfl⟩;have late_of:∀(j:Nat) oj t,ops[j]?=some oj->p<j->¬p∈(gW ops.toList []).getD j []->oj.dst=some t->lateD t=true:=fun j oj t hj hpj hn hd=>by
  rw[hlateD];simp only[List.any_eq_true,d9];exact⟨j,(Array.getElem?_eq_some_iff.1 hj).1,by simp only[hpj,hj,hd];simpa[aL] using hn⟩
 have late_no:∀(i:Nat) oi t,i<=p->ops[i]?=some oi->(t∈oi.looksAt ops∨oi.dst=some t)->lateD t=false:=fun i oi t hi ho ht=>by
  cases hb:lateD t with
  |false=>rfl
  |true=>
   rw[hlateD] at hb;simp only[List.any_eq_true,d9,aF,aH] at hb;obtain⟨j,hj,hpj,hb⟩:=hb;have hoj:ops[j]?=some (ops[j]'hj):=aK hj;rw[hoj] at hb;simp only[aF,fT,bU] at hb;rcases CV hcalm hoj hpj with h1|⟨_,h1⟩
   ·rw[List.contains_iff_mem.2 h1] at hb;cases hb.1
   ·obtain⟨a1,a2,a3⟩:=Oper.apart_spec (h1 i oi hi ho);rcases ht with ht|ht
    ·exact absurd ht (a3 t hb.2)
    ·exact absurd hb.2 (a2 t ht)
 obtain⟨F,hF⟩:∃F:Array Bool->Fr,F=fun L t=>if lateD t=true then .any else jX ops G (Φ 0) L p t:=⟨_,rfl⟩;have hFn:∀L t,lateD t=false->F L t=jX ops G (Φ 0) L p t:=fun L t h=>by rw[hF];simp[h]
 have key:∀(fuel:Nat) (L:Array Bool) (D:Cx) (a':Act) (w':World),L.size=ops.size->kW ops L->L.getD p false=false->nC L ops.size<=fuel->C.le D->Rel D (s6 S W L p) w0 w'->
   FRel D (F L) a'->a'.tmps.size=n->a'.defers=a.defers->wpAnyIn (FW ro) 0 P .any ops Q fuel L a' w':=by
  intro fuel;induction fuel with
  |zero=>
   intro L D a' w' hLs hc hpn hcnt hl hrel hfr hna hda;have hall:=qO (L:=L) ops.size (by omega) p hps;rw[hpn] at hall;cases hall
  |succ fuel ih=>
   intro L D a' w' hLs hc hpn hcnt hl hrel hfr hna hda;refine⟨fun hend=>?_,fun j hj=>?_⟩
   ·
    have hall:∀i,i<ops.size->L.getD i false=true:=by
     intro i;induction i using Nat.strongRecOn with
     |_ i ihi=>
      intro hi;cases hb:L.getD i false with
      |true=>rfl
      |false=>
       have ho:ops[i]?=some (ops[i]'hi):=aK hi;have:i∈Region.ready .any ops L:=mem_ready.2 ⟨by
        rw[aP] at hb⊢;rw[aK (by omega:i<L.size)] at hb⊢;simpa using hb,_,ho,fun e he hbe=>by
         have:=NG hcalm ho e he hbe;exact ihi e.on this (by omega)⟩
       rw[hend] at this;cases this
    have:=hall p hps;rw[hpn] at this;cases this
   ·obtain⟨hj0,o,ho,hready⟩:=mem_ready.1 hj;have hjs:=(Array.getElem?_eq_some_iff.1 ho).1;have hjn:L.getD j false=false:=by
     rw[aP] at hj0⊢;rw[aK (by omega:j<L.size)] at hj0⊢;simpa using hj0
    rcases dF p j with hlt|hjp
    ·
     have hna':¬p∈(gW ops.toList []).getD j []:=fun h=>by
      have:=(ahead L hc p j _ _ hop ho hlt h).1 hready;rw[hpn] at this;cases this
     have hla:=((CV hcalm ho hlt).resolve_left hna').1;let L':=L.setIfInBounds j true;have hL'o:∀i,i≠j->L'.getD i false=L.getD i false:=fun i hi=>getD_set_ne false (Ne.symm hi);have hL'j:L'.getD j false=true:=by
      simp[L',aP,show j<L.size by omega]
     have hc':kW ops L':=fun k ok hk hkl e he hb=>by
      by_cases hkj:k=j
      ·subst hkj;rw[ho] at hk;cases hk;exact getD_set_true (hready e he hb)
      ·rw[hL'o k hkj] at hkl;exact getD_set_true (hc k ok hk hkl e he hb)
     have hcnt':nC L' ops.size<=fuel:=by
      have:=(uF hL'o hL'j hjn ops.size).2 hjs;omega
     have hheap':∀k,k<=p->s6 S W L' k=s6 S W L k:=fun k=>by
      induction k with
      |zero=>intro _;rfl
      |succ k ihk=>intro hk;simp only[s6];rw[hL'o k (by omega),ihk (by omega)]
     unfold TB at hla;split at hla
     ·rename_i t0 d hopA hgd hdst;simp only[aF,aH] at hla;obtain⟨hga,hdn⟩:=hla;unfold wpOpIn;simp only[ho];rw[dB hfr (show bF ops o (F L)=some true by unfold bF;rw[hgd])];simp only[dL];obtain⟨v0,hv0⟩:∃v0,(zeroValue t0).run P w'=.ok v0 w':=by
       unfold yE at hga;cases hz:iE P t0 with
       |none=>rw[hz] at hga;cases hga
       |some z=>obtain⟨v0,h1,_⟩:=jY hz w';exact⟨v0,h1⟩
      have hrun:(execOp a'.eval o).run P w'=.ok (.value (.pointer (some ⟨w'.heap.size,0,none⟩))) (w'.alloc (.cells v0.cells t0)):=by
       unfold execOp;rw[hopA];simp[Instr.alloc,newVar,newRow,hv0]
      refine⟨fun f _=>trivial,?_⟩;rw[Oper.semAt_eq _ _ _ (fun c e=>by rw[hopA] at e;cases e),hrun];have hw2:Rel D (s6 S W L' p) w0 (w'.alloc (.cells v0.cells t0)):=by
       rw[hheap' p (rL _)];exact hrel.world rfl rfl rfl (by simp) (fun k hk=>Below.heap_alloc w' _ k hk)
      obtain⟨q1,q2,q3⟩:=hfr.put (d:=o.dst) (g:=.any) (v:=.pointer (some ⟨w'.heap.size,0,none⟩)) (.any _) hna (n:=n) (by rw[hdst];simpa using hdn);refine ih L' D _ _ (by simp[L',hLs]) hc' ((hL'o p (by omega)).trans hpn) hcnt' hl hw2 (fun t=>?_) q2 (q3.trans hda);have hq1:=q1 t;rw[eI] at hq1;by_cases ht:lateD t=true
      ·rw[hF];simp only[ht,dL];exact .any _
      ·have ht':lateD t=false:=by simpa using ht
       rw[hFn L' t ht',nS hL'o (by rw[eX,ho,bC];exact fun e=>ht (late_of j o t ho hlt hna' e)),<-hFn L t ht'];rwa [aB (fun e=>ht (late_of j o t ho hlt hna' e))] at hq1
     ·cases hla
    have names:∀t,(t∈o.looksAt ops∨o.dst=some t)->∀i,i<p->eX ops i=some t->(i<j->L.getD i false=true)/\(j<=i->L.getD i false=false):=fun t ht i hi hd=>by
     have hoi:ops[i]?=some (ops[i]'(by omega)):=aK (by omega);have hdi:(ops[i]'(by omega)).dst=some t:=by rw[eX,hoi,bC] at hd;exact hd
     refine⟨fun hij=>?_,fun hij=>?_⟩
     ·rcases m7 hcalm hoi ho hij hjp with h1|⟨_,_,h1⟩
      ·exact(ahead L hc i j _ _ hoi ho hij h1).1 hready
      ·obtain⟨a1,a2,a3⟩:=Oper.apart_spec h1;rcases ht with ht|ht
       ·exact absurd ht (a1 t hdi)
       ·exact absurd ht (a2 t hdi)
     ·by_cases hij2:i=j
      ·subst hij2;exact hjn
      ·rcases m7 hcalm ho hoi (by omega) (by omega) with h1|⟨_,_,h1⟩
       ·exact(ahead L hc j i _ _ ho hoi (by omega) h1).2 hjn
       ·obtain⟨a1,a2,a3⟩:=Oper.apart_spec h1;rcases ht with ht|ht
        ·exact absurd ht (a3 t hdi)
        ·exact absurd hdi (a2 t ht)
    have hframe:∀t,(t∈o.looksAt ops∨o.dst=some t)->F L t=Φ j t:=fun t ht=>by
     rw[hFn L t (late_no j o t hjp ho ht),HO hput (names t ht) p (rL _),show min p j=j by omega]
    have hheap:cF M o.op≠0->s6 S W L p=S j:=fun hk=>by
     rw[GC hstill (j:=j) (fun i hi hWi=>?_) p (rL _),show min p j=j by omega];have hoi:ops[i]?=some (ops[i]'(by omega)):=aK (by omega);rw[hW i _ hoi] at hWi;have hWi:cF M (ops[i]'(by omega)).op=2:=by simpa using hWi
     refine⟨fun hij=>?_,fun hij=>?_⟩
     ·rcases m7 hcalm hoi ho hij hjp with h1|⟨h1,h2,_⟩
      ·exact(ahead L hc i j _ _ hoi ho hij h1).1 hready
      ·rcases h1 with h1|h1
       ·exact absurd hWi h1
       ·exact absurd h1 hk
     ·by_cases hij2:i=j
      ·subst hij2;exact hjn
      ·rcases m7 hcalm ho hoi (by omega) (by omega) with h1|⟨h1,h2,_⟩
       ·exact(ahead L hc j i _ _ ho hoi (by omega) h1).2 hjn
       ·rcases h2 with h2|h2|h2
        ·exact absurd hWi h2
        ·exact absurd h2 hk
        ·omega
    have hwant:bF ops o (F L)=bF ops o (Φ j):=by
     unfold bF;cases hgd:o.guard with
     |none=>rfl
     |some gw=>
      obtain⟨k,want⟩:=gw;simp only;congr 1;unfold r7;cases hdk:(ops[k]?).bind (·.dst) with
      |none=>rfl
      |some d=>
       simp only;rw[hframe d (.inl (by simp[Oper.looksAt,hgd,hdk]))]
    have hcong:∀τ,cE P (call j) o (bO (F L)) τ=cE P (call j) o (bO (Φ j)) τ:=fun τ=>oS (fun x hx=>by
     cases x with
     |tmp t=>exact hframe t (.inl (by
       unfold Oper.looksAt;exact List.mem_append_left _ (List.mem_filterMap.2 ⟨.tmp t,by simpa using hx,rfl⟩)))
     |_=>rfl)
    by_cases hjeq:j=p
    ·
     subst hjeq;obtain rfl:=aV (ho.symm.trans hop);unfold wpOpIn;simp only[ho];rw[dB hfr (hwant.trans hwp)];simp only[dL];have hrun:cE P (call j) o (bO (F L)) (s6 S W L j)=some (.panic g,σ'):=by
      rw[hcong];by_cases hk0:cF M o.op=0
      ·exfalso;exact DI hk0 hpan
      ·rw[hheap hk0];exact hpan
     refine fL (hcall j) hrel (cQ hfr) hrun (fun g' E v w'' eg=>by cases eg) (fun g' E v w'' eg hE hrE hv=>?_);cases eg;refine hq E a' w'' (hl.trans hE) (fun t=>?_) hna (by rw[hda,hds];exact hd0.mono (hl.trans hE)) hrE v hv;unfold DE;split
     ·exact .any _
     ·rename_i h;have h:(ops.toList.any fun o=>o.dst==some t)=false:=by simpa using h
      have:=hfr t;have hnl:lateD t=false:=by
       cases hb:lateD t with
       |false=>rfl
       |true=>
        rw[hlateD] at hb;simp only[List.any_eq_true,d9,aF,aH] at hb;obtain⟨k,hk,_,hb⟩:=hb;have hok:ops[k]?=some (ops[k]'hk):=aK hk;rw[hok] at hb;simp only[aF,bU] at hb;have:(ops.toList.any fun o=>o.dst==some t)=true:=List.any_eq_true.2 ⟨ops[k]'hk,by simp,by simp[hb.2]⟩;rw[h] at this;cases this
      rw[hFn L t hnl,CI j (by omega) h,e1] at this;exact this.mono hE
    ·have hjlt:j<p:=by omega
     let L':=L.setIfInBounds j true;have hL'o:∀i,i≠j->L'.getD i false=L.getD i false:=fun i hi=>getD_set_ne false (Ne.symm hi);have hL'j:L'.getD j false=true:=by
      simp[L',aP,show j<L.size by omega]
     have hc':kW ops L':=fun k ok hk hkl e he hb=>by
      by_cases hkj:k=j
      ·subst hkj;rw[ho] at hk;cases hk;exact getD_set_true (hready e he hb)
      ·rw[hL'o k hkj] at hkl;exact getD_set_true (hc k ok hk hkl e he hb)
     have hcnt':nC L' ops.size<=fuel:=by
      have:=(uF hL'o hL'j hjn ops.size).2 hjs;omega
     have hnewheap:cF M o.op=2->s6 S W L' p=S (j+1):=fun hk=>by
      rw[GC hstill (j:=j+1) (fun i hi hWi=>?_) p (rL _),show min p (j+1)=j+1 by omega];have hoi:ops[i]?=some (ops[i]'(by omega)):=aK (by omega);rw[hW i _ hoi] at hWi;have hWi:cF M (ops[i]'(by omega)).op=2:=by simpa using hWi
      refine⟨fun hij=>?_,fun hij=>?_⟩
      ·by_cases hij2:i=j
       ·subst hij2;exact hL'j
       ·rw[hL'o i hij2];rcases m7 hcalm hoi ho (by omega) hjp with h1|⟨h1,h2,_⟩
        ·exact(ahead L hc i j _ _ hoi ho (by omega) h1).1 hready
        ·rcases h1 with h1|h1
         ·exact absurd hWi h1
         ·omega
      ·rw[hL'o i (by omega)];rcases m7 hcalm ho hoi (by omega) (by omega) with h1|⟨h1,h2,_⟩
       ·exact(ahead L hc j i _ _ ho hoi (by omega) h1).2 hjn
       ·rcases h2 with h2|h2|h2
        ·exact absurd hWi h2
        ·omega
        ·omega
     have hsameheap:cF M o.op≠2->s6 S W L' p=s6 S W L p:=fun hk=>xX hL'o (by rw[hW j o ho];simpa using hk) _;have hnewframe:∀t,jX ops G (Φ 0) L' p t=if o.dst=some t then G j else jX ops G (Φ 0) L p t:=fun t=>by
      by_cases hd:o.dst=some t
      ·rw[aA hd,HO hput (j:=j+1) (fun i hi hdi=>?_) p (rL _),show min p (j+1)=j+1 by omega,hput j hjlt t,eX,ho,bC,aA hd];obtain⟨h1,h2⟩:=names t (.inr hd) i hi hdi;refine⟨fun hij=>?_,fun hij=>?_⟩
       ·by_cases hij2:i=j
        ·subst hij2;exact hL'j
        ·rw[hL'o i hij2];exact h1 (by omega)
       ·rw[hL'o i (by omega)];exact h2 (by omega)
      ·rw[aB hd];exact nS hL'o (by rw[eX,ho,bC];exact hd) _
     have next:∀(E:Cx) (v:Value) (w'':World),D.le E->Rel E (s6 S W L' p) w0 w''->VR E (G j) v->wpAnyIn (FW ro) 0 P .any ops Q fuel L' (a'.put o.dst v) w'':=fun E v w'' hE hrelE hv=>by
      obtain⟨p1,p2,p3⟩:=(hfr.mono hE).put hv hna (T j o hjlt ho).1;refine ih L' E _ w'' (by simp[L',hLs]) hc' ((hL'o p (by omega)).trans hpn) hcnt' (hl.trans hE) hrelE (fun t=>?_) p2 (p3.trans hda);by_cases ht:lateD t=true
      ·rw[hF];simp only[ht,dL];exact .any _
      have ht':lateD t=false:=by simpa using ht
      rw[hFn L' t ht',hnewframe t];have:=p1 t;rw[eI] at this;split at this
      ·rename_i hd;rw[aA hd];exact this
      ·rename_i hd;rw[aB hd,<-hFn L t ht'];exact this
     unfold wpOpIn;simp only[ho];rcases(T j o hjlt ho).2.2 with⟨hw0,hG,hS⟩|⟨hw1,hop'⟩
     ·rw[dB hfr (hwant.trans hw0)];simp only[aY,cO];refine⟨fun _ _=>trivial,next D undef w' (.refl D) ?_ (by rw[hG];exact qQ D)⟩;by_cases hk2:cF M o.op=2
      ·rw[hnewheap hk2,hS,<-hheap (by omega)];exact hrel
      ·rw[hsameheap hk2];exact hrel
     ·rw[dB hfr (hwant.trans hw1)];simp only[dL];have hrun:cE P (call j) o (bO (F L)) (s6 S W L p)=some (.val (G j),s6 S W L' p):=by
       rw[hcong];by_cases hk0:cF M o.op=0
       ·rw[hsameheap (by omega)];exact(rF hk0 hop').2 _
       ·rw[hheap hk0,hop'];by_cases hk2:cF M o.op=2
        ·rw[hnewheap hk2]
        ·rw[hsameheap hk2,hheap hk0,jR (hpure _) hk2 hop']
      refine fL (hcall j) hrel (cQ hfr) hrun (fun g E v w'' eg hE hrE hv=>?_) (fun g E v w'' eg=>by cases eg);cases eg;exact next E v w'' hE hrE hv
 refine wpIn_region_any hm (key ops.size (Array.replicate ops.size false) C a _ (by simp) (fun j o ho hj=>?_) ?_ ?_ (.refl C) ?_ ?_ hn rfl)
 ·have hjs:=(Array.getElem?_eq_some_iff.1 ho).1;simp[aP,hjs] at hj
 ·simp[aP,hps]
 ·have:∀(L:Array Bool) k,nC L k<=k:=fun L k=>by
   induction k with
   |zero=>exact rL _
   |succ k ih=>simp only[nC];split<;>omega
  exact this _ _
 ·have:∀k,s6 S W (Array.replicate ops.size false) k=S 0:=fun k=>by
   induction k with
   |zero=>rfl
   |succ k ih=>
    simp only[s6];rw[aB (by simp[aP,dV];intro h1;split at h1<;>simp at h1),ih]
  rw[this,e2];exact hr.drew
 ·have:∀k,jX ops G (Φ 0) (Array.replicate ops.size false) k=Φ 0:=fun k=>by
   induction k with
   |zero=>rfl
   |succ k ih=>
    simp only[jX];rw[aB (by simp[aP,dV];split<;>simp),ih]
  refine fun t=>?_;by_cases ht:lateD t=true
  ·rw[hF];simp only[ht,dL];exact .any _
  ·rw[hFn _ t (by simpa using ht),this,e1];exact hf t
end
end
section
open Go.RowKit
variable [Globals]
def zD:Nat->(Fr->GS->Option (GX×Fr×GS))->Fr->GS->Option (GX×Fr×GS)
 |0,_,_,_=>none
 |m+1,f,φ,σ=>
  match f φ σ with
  |some (.normal,φ',σ')=>zD m f φ' σ'
  |r=>r
def sZ (ro:Option Nat) (σ:GS):Option (Nat×GS):=
 match ro with
 |none=>some (σ.objs.length,{gnew σ .dfr with ds:=.coll σ.objs.length::σ.ds})
 |some r0=>match σ.objs[r0]? with
  |some (.loop _ _ _ _ _ _ _ rd)=>some (rd,σ)
  |_=>none
def mV (l:Nat) (φ:Fr) (σ:GS):Option (GX×Fr×GS):=
 if σ.lo<=l then
  match σ.objs[l]? with
  |some (.loop .busy _ _ _ _ _ _ _)=>none
  |some (.loop _ none _ _ _ _ _ _)=>some (.normal,φ,gset σ l .dead)
  |some (.loop _ (some .ret) _ _ _ _ _ _)=>some (.ret,φ,gset σ l .dead)
  |some (.loop _ (some (.exit id)) _ _ _ _ _ _)=>some (.exit id,φ,gset σ l .dead)
  |_=>none
 else none
def a1b:Nat:=1000000
def a0Z (id:Nat) (ops:Array Oper):Nat:=a1b+(id+1000*((ops[0]?).bind (·.dst)).getD 0+100000*ops.size)
def BX (P:Program) (M:FuncId->Bool) (call:dQ) (n:Nat) (ops:Array Oper) (φ:Fr) (σ:GS) (p:Nat):Option (GX×Fr×GS):=
 match ops[p]? with
 |some op=>match uK P call false n ops (ops.toList.take p) φ σ with
  |some (.normal,φ1,σ1)=>match bF ops op φ1 with
   |some true=>match cE P call op (bO φ1) σ1 with
    |some (.panic g,σ')=>some (.panic g,DE ops φ,σ')
    |_=>none
   |_=>none
  |_=>none
 |none=>none
def A6 (P:Program) (M:FuncId->Bool) (n:Nat) (ops:Array Oper):List Nat:=(List.range ops.size).filter fun p=>uX P M n ops p&&(match ops[p]? with|some o=>cF M o.op==2|none=>false)
def BW (P:Program) (M:FuncId->Bool) (call:dQ) (n:Nat) (ops:Array Oper) (φ:Fr) (σ:GS):Option (GX×Fr×GS):=
 match A6 P M n ops with
 |[p]=>BX P M call n ops φ σ p
 |_=>none
def eK (P:Program) (M:FuncId->Bool) (call:dQ) (ro:Option Nat) (n m:Nat):Code->Fr->GS->Option (GX×Fr×GS)
 |.skip,φ,σ=>some (.normal,φ,σ)
 |.label _,φ,σ=>some (.normal,φ,σ)
 |.region id ops draw,φ,σ=>if draw then(if M (a0Z id ops) then BW P M call n ops φ σ else if calm M ops then EY P M call n ops φ σ else vJ P M call n ops φ σ) else uK P call ro.isNone n ops ops.toList φ σ
 |.seq a b,φ,σ=>
  match eK P M call ro n m a φ σ with
  |some (.normal,φ',σ')=>eK P M call ro n m b φ' σ'
  |r=>r
 |.cond c a b,φ,σ=>
  match bO φ c with
  |.b t=>if t then eK P M call ro n m a φ σ else eK P M call ro n m b φ σ
  |_=>none
 |.block id c,φ,σ=>
  match eK P M call ro n m c φ σ with
  |some (.exit i,φ',σ')=>if i=id then some (.normal,φ',σ') else some (.exit i,φ',σ')
  |r=>r
 |.loop c,φ,σ=>zD m (eK P M call ro n m c) φ σ
 |.exit id,φ,σ=>some (.exit id,φ,σ)
 |.ret,φ,σ=>some (.ret,φ,σ)
 |.rangeFunc f ps asg body,φ,σ=>
  match bO φ f with
  |.fn (.func k) first cap=>
   if iL P k then
    match sZ ro σ with
    |some (rd,σ1)=>
     match call (.fn k) (first++.yld σ1.objs.length::cap) (gnew σ1 (.loop .ready none n φ ps asg body rd)) with
     |some (.val _,σ2)=>mV σ1.objs.length φ σ2
     |some (.panic g,σ2)=>some (.panic g,φ,σ2)
     |none=>none
    |none=>none
   else none
  |_=>none
 |_,_,_=>none
section
variable {P : Program} {call : dQ} {M : FuncId → Bool} {w0 : World} {n m : Nat} {ro : Option Nat}
theorem C4 {f:Fr->GS->Option (GX×Fr×GS)} (hf:∀φ σ x φ' σ',f φ σ=some (x,φ',σ')->Keep σ σ'):∀(m:Nat) (φ φ':Fr) (σ σ':GS) (x:GX),zD m f φ σ=some (x,φ',σ')->Keep σ σ'
 |0,_,_,_,_,_,h=>by cases h
 |m+1,φ,φ',σ,σ',x,h=>by
  simp only[zD] at h;split at h
  ·rename_i φ1 σ1 h1;exact(hf _ _ _ _ _ h1).trans (C4 hf m _ _ _ _ _ h)
  ·exact hf _ _ _ _ _ h
theorem N1 (hcall:bK P w0 call) {ops:Array Oper} {φ φ':Fr} {σ σ':GS} {x:GX} (h:EY P M call n ops φ σ=some (x,φ',σ')):Keep σ σ':=by
 unfold EY at h;split at h
 ·split at h
  ·rename_i h1;cases h;exact nQ hcall _ _ _ _ _ _ h1
  ·cases h
 ·cases h
theorem JZ (hcall:bK P w0 call) {ops:Array Oper} {φ φ':Fr} {σ σ':GS} {x:GX} {p:Nat} (h:BX P M call n ops φ σ p=some (x,φ',σ')):Keep σ σ':=by
 unfold BX at h;split at h
 ·split at h
  ·rename_i h1;split at h
   ·split at h
    ·rename_i h2;cases h;exact(nQ hcall _ _ _ _ _ _ h1).trans (oA hcall h2)
    ·cases h
   ·cases h
  ·cases h
 ·cases h
theorem MR (hcall:bK P w0 call) {ops:Array Oper} {φ φ':Fr} {σ σ':GS} {x:GX} (h:BW P M call n ops φ σ=some (x,φ',σ')):Keep σ σ':=by
 unfold BW at h;split at h
 ·exact JZ hcall h
 ·cases h
theorem JY (hm:P.follows .mixedOrders=true) (hcall:bK P w0 call) (hpure:d6 M call) {rb:Option Nat} {C:Cx} {φ φ':Fr} {σ σ':GS} {x:GX} {id:Nat} {ops:Array Oper} {Q:Exit->Act->World->Prop} {a:Act} {w:World}
  (hg:BW P M call n ops φ σ=some (x,φ',σ')) (hr:Rel C σ w0 w) (hf:FRel C φ a) (hn:a.tmps.size=n) (hd0:DRel C σ.ds a.defers) (hq:QOk w0 C Q n x φ' σ'):(Code.region id ops true).wpIn (FW rb) 0 P Q a w:=by
 unfold BW at hg;split at hg
 ·rename_i p hp;have hmem:p∈A6 P M n ops:=by rw[hp];simp
  unfold A6 at hmem;simp only[List.mem_filter,d9,aF] at hmem;obtain⟨hps,hcp,_⟩:=hmem;unfold BX at hg;split at hg
  ·rename_i op hop;split at hg
   ·rename_i φ1 σ1 h1;split at hg
    ·rename_i hw;split at hg
     ·rename_i g σ2 h2;cases hg;have hlen:(ops.toList.take p).length=p:=by simp;omega
      obtain⟨Φ,S,G,e1,e2,e3,e4,e5⟩:=AO (ops.toList.take p) 0 φ φ1 σ σ1 (fun j hj=>by rw[hlen] at hj;rw[cH,aA hj];simp) h1;rw[bM,hlen] at e3 e4;refine zE (call:=fun _=>call) (Φ:=Φ) (S:=S) (G:=G) hm (fun _=>hcall) (fun _=>hpure) hcp hop (fun i o hi ho=>e5 i o (zL _) (by rw[hlen];omega) ho) ?_ ?_ e1 e2 hr hf hn hd0 hq
      ·rw[e3];exact hw
      ·rw[e3,e4];exact h2
     ·cases hg
    ·cases hg
   ·cases hg
  ·cases hg
 ·cases hg
theorem KB {σ σ1:GS} {rd:Nat} (h:sZ ro σ=some (rd,σ1)):Keep σ σ1:=by
 unfold sZ at h;split at h
 ·cases h;exact(Keep.gnew σ _).dsr
 ·split at h
  ·cases h;exact .refl σ
  ·cases h
theorem DM {l:Nat} {φ φ':Fr} {σ σ':GS} {x:GX} (h:mV l φ σ=some (x,φ',σ')):Keep σ σ':=by
 unfold mV at h;split at h
 ·rename_i hlo;split at h<;>first
   |(cases h;done)
   |(rename_i ho;cases h;exact .gset σ _ hlo ho (by simp))
 ·cases h
theorem rM (hcall:bK P w0 call):∀(c:Code) (φ φ':Fr) (σ σ':GS) (x:GX),eK P M call ro n m c φ σ=some (x,φ',σ')->Keep σ σ':=by
 intro c;induction c with
 |skip=>intro φ φ' σ σ' x h;simp only[eK] at h;cases h;exact .refl σ
 |label l=>intro φ φ' σ σ' x h;simp only[eK] at h;cases h;exact .refl σ
 |region id ops draw=>
  intro φ φ' σ σ' x h;simp only[eK] at h;split at h
  ·split at h
   ·exact MR hcall h
   split at h
   ·exact N1 hcall h
   ·exact KD hcall h
  ·exact nQ hcall _ _ _ _ _ _ h
 |seq a b iha ihb=>
  intro φ φ' σ σ' x h;simp only[eK] at h;split at h
  ·rename_i h1;exact(iha _ _ _ _ _ h1).trans (ihb _ _ _ _ _ h)
  ·exact iha _ _ _ _ _ h
 |cond c a b iha ihb=>
  intro φ φ' σ σ' x h;simp only[eK] at h;split at h
  ·split at h
   ·exact iha _ _ _ _ _ h
   ·exact ihb _ _ _ _ _ h
  ·cases h
 |block id c ih=>
  intro φ φ' σ σ' x h;simp only[eK] at h;split at h
  ·rename_i h1;split at h<;>(cases h;exact ih _ _ _ _ _ h1)
  ·exact ih _ _ _ _ _ h
 |loop c ih=>
  intro φ φ' σ σ' x h;simp only[eK] at h;exact C4 (fun φ σ x φ' σ' h=>ih φ φ' σ σ' x h) m _ _ _ _ _ h
 |exit id=>intro φ φ' σ σ' x h;simp only[eK] at h;cases h;exact .refl σ
 |ret=>intro φ φ' σ σ' x h;simp only[eK] at h;cases h;exact .refl σ
 |rangeFunc f ps asg body iha ihb=>
  intro φ φ' σ σ' x h;simp only[eK] at h;split at h
  ·split at h
   ·split at h
    ·rename_i rd σ1 hent;have k1:=KB hent;split at h
     ·rename_i hc;exact(k1.trans (.gnew σ1 _)).trans ((hcall _ _ _ _ _ hc).1.trans (DM h))
     ·rename_i hc;cases h;exact(k1.trans (.gnew σ1 _)).trans (hcall _ _ _ _ _ hc).1
     ·cases h
    ·cases h
   ·cases h
  ·cases h
 |_=>intro φ φ' σ σ' x h;simp only[eK] at h;cases h
def RoR (C:Cx):Option Nat->Option Nat->Prop
 |none,none=>True
 |some r,some b=>C.bk r=some b
 |_,_=>False
theorem RoR.mono {C D:Cx} (hl:C.le D):∀{ro rb:Option Nat},RoR C ro rb->RoR D ro rb
 |none,none,_=>trivial
 |some _,some _,h=>hl.bk _ _ h
theorem RoR.none_of {C:Cx}:∀{ro rb:Option Nat},RoR C ro rb->ro.isNone=true->rb=none
 |none,none,_,_=>rfl
theorem Rel.putLoop {C:Cx} {σ:GS} {w:World} (h:Rel C σ w0 w) {r b:Nat} {o:Obj} (hr:r<σ.objs.length) (hb:C.bk r=some b) (x:GObj) (hx:ORel C (w.putObj b o) r x):
  Rel C (gset σ r x) w0 (w.putObj b o):=
 h.setObj hr hb x hx rfl rfl rfl (by simp[World.putObj]) (fun k hk=>World.putObj_heap_other hk)
theorem CC {C:Cx} {σ:GS} {w:World} {l b:Nat} {φ φ':Fr} {σ':GS} {x:GX} (h:Rel C σ w0 w) (hb:C.bk l=some b) (hg:mV l φ σ=some (x,φ',σ')):
  φ'=φ/\σ'.ds=σ.ds/\∃jump w',(Instr.endLoop b).run P w=.ok jump w'/\Rel C σ' w0 w'/\
   ((jump=none/\x=.normal)∨(jump=some .ret/\x=.ret)∨∃id,jump=some (.exit id)/\x=.exit id):=by
 unfold mV at hg;split at hg
 ·have fin:∀{st:LoopState} {pe:Option Code} {n:Nat} {ψ:Fr} {ps:Array Tmp} {asg body:Code} {rd:Nat},σ.objs[l]?=some (.loop st pe n ψ ps asg body rd)->st≠ .busy->
    ∃w',(Instr.endLoop b).run P w=.ok pe w'/\Rel C (gset σ l .dead) w0 w':=by
   intro st pe n ψ ps asg body rd ho hst;obtain⟨h0,b',L,h1,h2,h3,h4,_⟩:=h.obj l _ ho;rw[hb] at h1;cases h1;have hlt:b<w.heap.size:=(Array.getElem?_eq_some_iff.1 h2).1;refine⟨_,by rw[run_endLoop h2 (by rw[h3];exact hst),h4],h.putLoop (List.getElem?_eq_some_iff.1 ho).1 hb .dead ⟨.inr h0,fun b' hb'=>?_⟩⟩;rw[dM hb] at hb';cases hb';simpa[World.putObj] using hlt
  split at hg
  ·cases hg
  ·rename_i st _ _ _ _ _ _ hne ho;cases hg;obtain⟨w',h1,h2⟩:=fin ho (fun e=>hne e);exact⟨rfl,rfl,none,w',h1,h2,.inl ⟨rfl,rfl⟩⟩
  ·rename_i st _ _ _ _ _ _ hne ho;cases hg;obtain⟨w',h1,h2⟩:=fin ho (fun e=>hne e);exact⟨rfl,rfl,_,w',h1,h2,.inr (.inl ⟨rfl,rfl⟩)⟩
  ·rename_i st id _ _ _ _ _ _ hne ho;cases hg;obtain⟨w',h1,h2⟩:=fin ho (fun e=>hne e);exact⟨rfl,rfl,_,w',h1,h2,.inr (.inr ⟨id,rfl,rfl⟩)⟩
  ·cases hg
 ·cases hg
def nY (F:Fence) (n:Nat) (P:Program) (c:Code) (Q:Exit->Act->World->Prop):Nat->Act->World->Prop
 |0,_,_=>False
 |j+1,a,w=>c.wpIn F n P (Exit.then (nY F n P c Q j) Q) a w
theorem pQ {F:Fence} {i:Nat} {Q:Exit->Act->World->Prop} {a:Act} {w:World} {c:Code} (j:Nat) (h:nY F i P c Q j a w):(Code.loop c).wpIn F i P Q a w:=by
 intro b k cs hro hb hr;have key:∀j a w,nY F i P c Q j a w->
   ∃e a' w',Q e a' w'/\ArrivesIn (Machine.fenced P F) P (lone (b.atR a (.code c::.inLoop c::k)) cs w) b k cs e a' w':=by
  intro j;induction j with
  |zero=>intro a w h;exact h.elim
  |succ j ih=>
   intro a w h;obtain⟨e,a₁,w₁,hq,harr⟩:=h b (.inLoop c::k) cs hro hb hr;cases e with
   |normal=>
    obtain⟨e₂,a₂,w₂,hq₂,harr₂⟩:=ih a₁ w₁ hq;exact⟨e₂,a₂,w₂,hq₂,.of_steps (StepsIn.trans harr (.one (fenced_calm hb hr rfl) stepR_inLoop)) harr₂⟩
   |exit id=>exact⟨_,a₁,w₁,hq,.pass (x:=.inLoop c) rfl (fun _ _=>.inl (by simp)) harr⟩
   |goto l=>exact⟨_,a₁,w₁,hq,.pass (x:=.inLoop c) rfl (fun _ _=>.inl (by simp)) harr⟩
   |ret=>exact⟨_,a₁,w₁,hq,.pass (x:=.inLoop c) rfl (fun _ _=>.inl (by simp)) harr⟩
   |panic ch=>exact⟨_,a₁,w₁,hq,.pass (x:=.inLoop c) rfl (fun _ _=>.inl (by simp)) harr⟩
   |outgrown=>exact⟨_,a₁,w₁,hq,.pass (x:=.inLoop c) rfl (fun _ _=>.inl (by simp)) harr⟩
 obtain⟨e,a',w',hq,harr⟩:=key j a w h;exact⟨e,a',w',hq,.of_steps (.one (fenced_calm hb hr rfl) stepR_loop) harr⟩
theorem l7 (hm:P.follows .mixedOrders=true) (hcall:bK P w0 call) (hpure:d6 M call):∀(c:Code) (Q:Exit->Act->World->Prop) (C:Cx) (rb:Option Nat) (φ φ':Fr) (σ σ':GS) (x:GX) (a:Act) (w:World),
  eK P M call ro n m c φ σ=some (x,φ',σ')->RoR C ro rb->Rel C σ w0 w->FRel C φ a->a.tmps.size=n->DRel C σ.ds a.defers->QOk w0 C Q n x φ' σ'->c.wpIn (FW rb) 0 P Q a w:=by
 intro c;induction c with
 |skip=>intro Q C rb φ φ' σ σ' x a w h ho hr hf hn hd hq;simp only[eK] at h;cases h;exact wpIn_skip (hq C a w (.refl C) hf hn hd hr)
 |label l=>intro Q C rb φ φ' σ σ' x a w h ho hr hf hn hd hq;simp only[eK] at h;cases h;exact wpIn_label (hq C a w (.refl C) hf hn hd hr)
 |exit id=>intro Q C rb φ φ' σ σ' x a w h ho hr hf hn hd hq;simp only[eK] at h;cases h;exact wpIn_exit (hq C a w (.refl C) hf hn hd hr)
 |ret=>intro Q C rb φ φ' σ σ' x a w h ho hr hf hn hd hq;simp only[eK] at h;cases h;exact wpIn_ret (hq C a w (.refl C) hf hn hd hr)
 |region id ops draw=>
  intro Q C rb φ φ' σ σ' x a w h ho hr hf hn hd hq;simp only[eK] at h;cases draw with
  |true=>
   rw[aA rfl] at h;split at h
   ·exact JY hm hcall hpure h hr hf hn hd hq
   split at h
   ·exact KC hm hcall hpure h hr hf hn hd hq
   ·exact HA hm hcall hpure h hr hf hn hd hq
  |false=>exact wpIn_region_list (rB hcall (fun e=>ho.none_of e) _ C φ φ' σ σ' x a w (by simpa using h) hr hf hn hd hq)
 |seq c1 c2 ih1 ih2=>
  intro Q C rb φ φ' σ σ' x a w h ho hr hf hn hd hq;simp only[eK] at h;refine wpIn_seq ?_;split at h
  ·rename_i φ1 σ1 h1;refine ih1 _ C rb φ φ1 σ σ1 _ a w h1 ho hr hf hn hd (fun D a1 w1 hl hf1 hn1 hd1 hr1=>?_);exact ih2 Q D rb φ1 φ' σ1 σ' x a1 w1 h (ho.mono hl) hr1 hf1 hn1 hd1 (hq.mono hl)
  ·rename_i hne;refine ih1 _ C rb φ φ' σ σ' x a w h ho hr hf hn hd (fun D a1 w1 hl hf1 hn1 hd1 hr1=>?_);have:=hq D a1 w1 hl hf1 hn1 hd1 hr1;cases x with
   |normal=>exact absurd h (hne _ _)
   |exit id=>exact this
   |ret=>exact this
   |panic g=>exact this
 |cond c c1 c2 ih1 ih2=>
  intro Q C rb φ φ' σ σ' x a w h ho hr hf hn hd hq;simp only[eK] at h;split at h
  ·rename_i t ht;have hv:=cQ hf c;rw[ht] at hv;generalize hu:a.eval c=u at hv;cases hv;refine wpIn_cond hu ?_;cases t with
   |true=>exact ih1 Q C rb φ φ' σ σ' x a w (by simpa using h) ho hr hf hn hd hq
   |false=>exact ih2 Q C rb φ φ' σ σ' x a w (by simpa using h) ho hr hf hn hd hq
  ·cases h
 |block id c ih=>
  intro Q C rb φ φ' σ σ' x a w h ho hr hf hn hd hq;simp only[eK] at h;refine wpIn_block ?_;split at h
  ·rename_i i φ1 σ1 h1;refine ih _ C rb φ φ1 σ σ1 _ a w h1 ho hr hf hn hd (fun D a1 w1 hl hf1 hn1 hd1 hr1=>?_);split at h
   ·rename_i hi;cases h;show if i=id then Q .normal a1 w1 else Q (.exit i) a1 w1;rw[aA hi];exact hq D a1 w1 hl hf1 hn1 hd1 hr1
   ·rename_i hi;cases h;show if i=id then Q .normal a1 w1 else Q (.exit i) a1 w1;rw[aB hi];exact hq D a1 w1 hl hf1 hn1 hd1 hr1
  ·rename_i hne;refine ih _ C rb φ φ' σ σ' x a w h ho hr hf hn hd (fun D a1 w1 hl hf1 hn1 hd1 hr1=>?_);have:=hq D a1 w1 hl hf1 hn1 hd1 hr1;cases x with
   |normal=>exact this
   |exit id=>exact absurd h (hne _ _ _)
   |ret=>exact this
   |panic g=>exact this
 |loop c ih=>
  intro Q C rb φ φ' σ σ' x a w h ho hr hf hn hd hq;simp only[eK] at h;refine pQ m ?_;have key:∀(k:Nat) (C:Cx) (φ:Fr) (σ:GS) (a:Act) (w:World),zD k (eK P M call ro n m c) φ σ=some (x,φ',σ')->RoR C ro rb->Rel C σ w0 w->FRel C φ a->a.tmps.size=n->
    DRel C σ.ds a.defers->QOk w0 C Q n x φ' σ'->nY (FW rb) 0 P c Q k a w:=by
   intro k;induction k with
   |zero=>intro C φ σ a w h;cases h
   |succ k ihk=>
    intro C φ σ a w h ho hr hf hn hd hq;simp only[zD] at h;unfold nY;split at h
    ·rename_i φ1 σ1 h1;refine ih _ C rb φ φ1 σ σ1 _ a w h1 ho hr hf hn hd (fun D a1 w1 hl hf1 hn1 hd1 hr1=>?_);exact ihk D φ1 σ1 a1 w1 h (ho.mono hl) hr1 hf1 hn1 hd1 (hq.mono hl)
    ·rename_i hne;refine ih _ C rb φ φ' σ σ' x a w h ho hr hf hn hd (fun D a1 w1 hl hf1 hn1 hd1 hr1=>?_);have:=hq D a1 w1 hl hf1 hn1 hd1 hr1;cases x with
     |normal=>exact absurd h (hne _ _)
     |exit id=>exact this
     |ret=>exact this
     |panic g=>exact this
  exact key m C φ σ a w h ho hr hf hn hd hq
 |rangeFunc f ps asg body iha ihb=>
  intro Q C rb φ φ' σ σ' x a w h ho hr hf hn hd hq;simp only[eK] at h;split at h
  ·rename_i k first cap hfv
   split at h
   ·rename_i hk;split at h
    ·rename_i rd σ1 hent;have hv0:=cQ hf f;rw[hfv] at hv0;generalize hu:a.eval f=u at hv0;cases hv0 with
     |fn h1 h2 h3 h4=>
     rename_i va vc;have e1:VRs C first va.toList:=⟨by simpa using h1,fun j g u a b=>h3 j g u a (by simpa using b)⟩
     have e2:VRs C cap vc.toList:=⟨by simpa using h2,fun j g u a b=>h4 j g u a (by simpa using b)⟩;refine wpIn_rangeFunc (fun fn _=>?_);have enter:∃(D:Cx) (l:Nat) (mark:List Deferred) (w1:World),C.le D/\D.bk σ1.objs.length=some l/\(Instr.enterLoop fn a.tmps ps asg body (FW rb).round).run P w=.ok (l,mark) w1/\
       Rel D (gnew σ1 (.loop .ready none n φ ps asg body rd)) w0 w1/\DRel D σ1.ds (mark++a.defers):=by
      cases ro with
      |none=>
       cases rb with
       |some b=>exact ho.elim
       |none=>
       simp only[sZ] at hent;cases hent;obtain⟨D1,hl1,hb1,hr1⟩:=hr.newObj .dfr (.deferred (some [])) (fun D _ hb ho=>⟨ho,_,hb,heap_alloc_new w _⟩);have hr1':Rel D1 {gnew σ .dfr with ds:=.coll σ.objs.length::σ.ds} w0 (w.alloc (.deferred (some []))):=hr1.ds _;obtain⟨D2,hl2,hb2,hr2⟩:=hr1'.newObj (.loop .ready none n φ ps asg body σ.objs.length) (.loop {state:=.ready,pending:=none,fn,tmps:=a.tmps,params:=ps,assign:=asg,body,defers:=w.heap.size})
        (fun D hl hb ho=>⟨ho,_,_,hb,heap_alloc_new _ _,rfl,rfl,rfl,rfl,rfl,hn,fun t=>(hf t).mono (hl1.trans hl),hl.bk _ _ hb1⟩)
       refine⟨D2,w.heap.size+1,_,_,hl1.trans hl2,by rw[hb2];simp,run_enterLoop_outer _ _ _ _ _,hr2,⟨w.heap.size,hl2.bk _ _ hb1,rfl⟩,hd.mono (hl1.trans hl2)⟩
      |some r0=>
       cases rb with
       |none=>exact ho.elim
       |some b=>
       have hob:C.bk r0=some b:=ho;simp only[sZ] at hent;split at hent
       ·rename_i ho0;cases hent;obtain⟨h0,b',L,g1,g2,_,_,_,_,_,_,_,g9⟩:=hr.obj _ _ ho0;rw[hob] at g1;cases g1;obtain⟨D2,hl2,hb2,hr2⟩:=hr.newObj (.loop .ready none n φ ps asg body rd) (.loop {state:=.ready,pending:=none,fn,tmps:=a.tmps,params:=ps,assign:=asg,body,defers:=L.defers})
         (fun D hl hb ho=>⟨ho,_,_,hb,heap_alloc_new _ _,rfl,rfl,rfl,rfl,rfl,hn,fun t=>(hf t).mono hl,hl.bk _ _ g9⟩)
        exact⟨D2,w.heap.size,[],_,hl2,hb2,run_enterLoop_inner g2 _ _ _ _ _,hr2,hd.mono hl2⟩
       ·cases hent
     obtain⟨D,l,mark,w1,hl,hbl,hrun,hrel,hdr⟩:=enter;have hargs:VRs D (first++.yld σ1.objs.length::cap) (va++ #[Value.func (.yield l) #[] #[]]++vc).toList:=by
      simp only[Array.toList_append];rw[cW];exact(e1.mono hl).append (fS (.yld hbl) (e2.mono hl))
     have hcs:∀(r:GRes) (σ2:GS),call (.fn k) (first++.yld σ1.objs.length::cap) (gnew σ1 (.loop .ready none n φ ps asg body rd))=some (r,σ2)->σ2.ds=σ1.ds/\
       Calls P k (va++ #[Value.func (.yield l) #[] #[]]++vc) w1 fun e w'=>∃E,D.le E/\Rel E σ2 w0 w'/\ERel E r e:=fun r σ2 hc=>by
      obtain⟨_,q1,q2⟩:=hcall _ _ _ _ _ hc;exact⟨q1,q2 D w1 _ hrel hargs⟩
     refine⟨l,mark,w1,{target:=.fn (.func k) vc,args:=va++ #[Value.func (.yield l) #[] #[]]},w1,k,va++ #[Value.func (.yield l) #[] #[]]++vc,w1,hrun,?_,fun _ _=>trivial,?_,fun h=>(by cases h),?_⟩
     ·simp only[resolve,hu];simp[go_sem,Deferred.ofValue]
     ·simp[invoke,nK hk]
     ·refine CX ?_;have fr':∀{E:Cx},D.le E->FRel E φ {a with defers:=mark++a.defers}:=fun hE t=>(hf t).mono (hl.trans hE);split at h
      ·rename_i g σ2 hc;obtain⟨q1,q2⟩:=hcs _ _ hc;refine q2.mono ?_;rintro e w' ⟨E,hE,hrE,v,rfl,hv⟩;obtain⟨rfl,p1,jump,w'',p2,p3,p4⟩:=CC hrE (hE.bk _ _ hbl) h;refine⟨jump,w'',p2,?_⟩;have hfin:=hq E {a with defers:=mark++a.defers} w'' (hl.trans hE) (fr' hE) hn (by rw[p1,q1];exact hdr.mono hE) p3;rcases p4 with⟨rfl,rfl⟩|⟨rfl,rfl⟩|⟨id,rfl,rfl⟩
       ·exact hfin
       ·exact wpIn_ret hfin
       ·exact wpIn_exit hfin
      ·rename_i g σ2 hc;cases h;obtain⟨q1,q2⟩:=hcs _ _ hc;refine q2.mono ?_;rintro e w' ⟨E,hE,hrE,v,rfl,hv⟩;exact hq E {a with defers:=mark++a.defers} w' (hl.trans hE) (fr' hE) hn (by rw[q1];exact hdr.mono hE) hrE v hv
      ·cases h
    ·cases h
   ·cases h
  ·cases h
 |_=>intro Q C rb φ φ' σ σ' x a w h;simp only[eK] at h;cases h
end
end
