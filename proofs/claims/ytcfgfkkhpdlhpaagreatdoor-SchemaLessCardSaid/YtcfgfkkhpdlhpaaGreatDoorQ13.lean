/-
  A part of the proof of SchemaLess.
-/
import Derived.Test.YtcfgfkkhpdlhpaaGreatDoorQ12
set_option linter.all false
namespace Go.Proofs.YtcfgfkkhpdlhpaaGreatDoor
open Go.RowKit
set_option linter.unusedSectionVars false
variable [Globals]
set_option linter.unusedVariables false
def lateA (P:Program) (n:Nat) (o:Oper):Bool:=
 match o.op,o.guard,o.dst with
 |.alloc t,none,some d=>(galloc P t).isSome&&decide (d<n)
 |_,_,_=>false
def calmP (P:Program) (M:FuncId->Bool) (n:Nat) (ops:Array Oper) (p:Nat):Bool:=
 let A:=ancs ops.toList []
 (List.range ops.size).all fun j=>
  match ops[j]? with
  |none=>true
  |some oj=>
   (oj.after.all fun e=>!Region.binds .any e||decide (e.on<j))&&
   if p<j then(A.getD j []).contains p||(lateA P n oj&&(List.range (p+1)).all fun i=>match ops[i]? with|none=>true|some oi=>oi.apart ops oj) else
   (List.range j).all fun i=>
    match ops[i]? with
    |none=>true
    |some oi=>(A.getD j []).contains i||
      ((opKind M oi.op !=2||opKind M oj.op==0)&&(opKind M oj.op !=2||opKind M oi.op==0||(j==p&&opKind M oi.op==1))&&oi.apart ops oj)
def lost (ops:Array Oper) (φ:Fr):Fr:=fun t=>if ops.toList.any (fun o=>o.dst==some t) then .any else φ t
section
variable {P : Program} {call : Nat → GCall} {M : FuncId → Bool} {w0 : World} {n : Nat} {ops : Array Oper} {Φ : Nat → Fr} {S : Nat → GS} {G : Nat → GV} {p : Nat}
theorem calmP_pair (hc:calmP P M n ops p=true) {i j:Nat} {oi oj:Oper} (hi:ops[i]?=some oi) (hj:ops[j]?=some oj) (hij:i<j) (hjp:j<=p):
  i∈(ancs ops.toList []).getD j []∨((opKind M oi.op≠2∨opKind M oj.op=0)/\(opKind M oj.op≠2∨opKind M oi.op=0∨(j=p/\opKind M oi.op=1))/\oi.apart ops oj=true):=by
 unfold calmP at hc
 simp only[List.all_eq_true,List.mem_range] at hc
 have h1:=hc j (Array.getElem?_eq_some_iff.1 hj).1
 simp only[hj,if_neg (show¬p<j by omega),Bool.and_eq_true,List.all_eq_true,List.mem_range] at h1
 have h2:=h1.2 i hij
 simp only[hi,Bool.or_eq_true,Bool.and_eq_true,List.contains_iff_mem,bne_iff_ne,beq_iff_eq] at h2
 rcases h2 with h2|⟨⟨h2,h3⟩,h4⟩
 ·exact .inl h2
 ·refine .inr ⟨h2,?_,h4⟩
  rcases h3 with(h3|h3)|h3
  ·exact .inl h3
  ·exact .inr (.inl h3)
  ·exact .inr (.inr h3)
theorem calmP_late (hc:calmP P M n ops p=true) {j:Nat} {oj:Oper} (hj:ops[j]?=some oj) (hjp:p<j):p∈(ancs ops.toList []).getD j []∨(lateA P n oj=true/\∀i oi,i<=p->ops[i]?=some oi->oi.apart ops oj=true):=by
 unfold calmP at hc
 simp only[List.all_eq_true,List.mem_range] at hc
 have h1:=hc j (Array.getElem?_eq_some_iff.1 hj).1
 simp only[hj,if_pos hjp,Bool.and_eq_true,Bool.or_eq_true,List.contains_iff_mem,List.all_eq_true,List.mem_range] at h1
 refine h1.2.imp id fun h2=>⟨h2.1,fun i oi hi ho=>?_⟩
 have h3:=h2.2 i (by omega)
 rwa [ho] at h3
theorem calmP_edge (hc:calmP P M n ops p=true) {j:Nat} {oj:Oper} (hj:ops[j]?=some oj):∀e∈oj.after,Region.binds .any e=true->e.on<j:=by
 unfold calmP at hc
 simp only[List.all_eq_true,List.mem_range] at hc
 have h1:=hc j (Array.getElem?_eq_some_iff.1 hj).1
 simp only[hj,Bool.and_eq_true] at h1
 intro e he hb
 have h2:=(Array.all_eq_true_iff_forall_mem.1 h1.1) e he
 simpa[hb] using h2
theorem frL_atN {N:Nat} (hp:∀i,i<N->∀t,Φ (i+1) t=if dstOf ops i=some t then G i else Φ i t) {L:Array Bool} {j t:Nat} (hw:∀i,i<N->dstOf ops i=some t->(i<j->L.getD i false=true)/\(j<=i->L.getD i false=false)):
  ∀k,k<=N->frL ops G (Φ 0) L k t=Φ (min k j) t
 |0,_=>by simp[frL]
 |k+1,hk=>by
  have ih:=frL_atN hp hw k (by omega)
  have hp:=hp k (by omega) t
  simp only[frL]
  by_cases hd:dstOf ops k=some t
  ·obtain⟨h1,h2⟩:=hw k (by omega) hd
   by_cases hkj:k<j
   ·rw[h1 hkj,if_pos rfl,fputo_get,if_pos hd,show min (k+1) j=k+1 by omega,hp,if_pos hd]
   ·rw[h2 (by omega)]
    simp only[Bool.false_eq_true,if_false]
    rw[ih,show min (k+1) j=min k j by omega]
  ·have e:(if L.getD k false=true then fputo (frL ops G (Φ 0) L k) (dstOf ops k) (G k) else frL ops G (Φ 0) L k) t=frL ops G (Φ 0) L k t:=by
    split
    ·rw[fputo_get,if_neg hd]
    ·rfl
   rw[e,ih]
   by_cases hkj:k<j
   ·rw[show min (k+1) j=k+1 by omega,show min k j=k by omega,hp,if_neg hd]
   ·rw[show min (k+1) j=min k j by omega]
theorem hpL_atN {N:Nat} {W:Nat->Bool} {L:Array Bool} {j:Nat} (hstill:∀i,i<N->W i=false->S (i+1)=S i)
  (hw:∀i,i<N->W i=true->(i<j->L.getD i false=true)/\(j<=i->L.getD i false=false)):∀k,k<=N->hpL S W L k=S (min k j)
 |0,_=>by simp[hpL]
 |k+1,hk=>by
  have ih:=hpL_atN hstill hw k (by omega)
  simp only[hpL]
  cases hW:W k with
  |true=>
   obtain⟨h1,h2⟩:=hw k (by omega) hW
   by_cases hkj:k<j
   ·rw[h1 hkj,show min (k+1) j=k+1 by omega];rfl
   ·rw[h2 (by omega)]
    simp only[Bool.false_and,Bool.false_eq_true,if_false]
    rw[ih,show min (k+1) j=min k j by omega]
  |false=>
   simp only[Bool.and_false,Bool.false_eq_true,if_false]
   rw[ih]
   by_cases hkj:k<j
   ·rw[show min (k+1) j=k+1 by omega,show min k j=k by omega,hstill k (by omega) hW]
   ·rw[show min (k+1) j=min k j by omega]
theorem frL_lost {L:Array Bool} {t:Nat}:∀k,k<=ops.size->(ops.toList.any (fun o=>o.dst==some t))=false->frL ops G (Φ 0) L k t=Φ 0 t
 |0,_,_=>rfl
 |k+1,hk,h=>by
  have ih:=frL_lost (L:=L) k (by omega) h
  have hd:dstOf ops k≠some t:=fun e=>by
   have ho:ops[k]?=some (ops[k]'(by omega)):=Array.getElem?_eq_getElem (by omega)
   rw[dstOf,ho,Option.bind_some] at e
   have:=List.any_eq_false.1 h (ops[k]'(by omega)) (by simp)
   simp[e] at this
  simp only[frL]
  split
  ·rw[fputo_get,if_neg hd];exact ih
  ·exact ih
theorem goper_nopanic {call:GCall} {o:Oper} {ρ:Operand->GV} {σ σ':GS} {g:GV} (hk:opKind M o.op=0) (h:goper P call o ρ σ=some (.panic g,σ')):False:=by
 obtain⟨dst,op,type,pos,after,guard⟩:=o
 simp only at hk
 unfold goper at h
 cases op
 case panic x=>simp[opKind] at hk
 case call c=>
  obtain⟨callee,args,ts⟩:=c
  cases callee with
  |value f=>cases f<;>simp[opKind] at hk<;>(split at hk<;>simp at hk)
  |invoke r m=>simp[opKind] at hk
  |builtin b=>simp only[Option.map_eq_some_iff] at h;obtain⟨_,_,h⟩:=h;cases h
 all_goals (simp only[Option.map_eq_some_iff] at h;obtain⟨_,_,h⟩:=h;cases h)
theorem drawp_sound (hm:P.follows .mixedOrders=true) (hcall:∀i,CallSound P w0 (call i)) (hpure:∀i,PureCall M (call i)) {ro:Option Nat} {C:Cx} {φ:Fr} {σ σ':GS} {id:Nat} {Q:Exit->Act->World->Prop} {a:Act} {w:World} {op:Oper} {g:GV}
  (hcalm:calmP P M n ops p=true) (hop:ops[p]?=some op)
  (T:∀(i:Nat) o,i<p->ops[i]?=some o->(o.dst.all fun d=>decide (d<n))=true/\Φ (i+1)=fputo (Φ i) o.dst (G i)/\
   ((gwanted ops o (Φ i)=some false/\G i=.tup []/\S (i+1)=S i)∨(gwanted ops o (Φ i)=some true/\goper P (call i) o (geval (Φ i)) (S i)=some (.val (G i),S (i+1)))))
  (hwp:gwanted ops op (Φ p)=some true) (hpan:goper P (call p) op (geval (Φ p)) (S p)=some (.panic g,σ')) (e1:Φ 0=φ) (e2:S 0=σ)
  (hr:Rel C σ w0 w) (hf:FRel C φ a) (hn:a.tmps.size=n) (hd0:DRel C σ.ds a.defers) (hq:QOk w0 C Q n (.panic g) (lost ops φ) σ'):(Code.region id ops true).wpIn (FW ro) 0 P Q a w:=by
 have hps:p<ops.size:=(Array.getElem?_eq_some_iff.1 hop).1
 have hput:∀i,i<p->∀t,Φ (i+1) t=if dstOf ops i=some t then G i else Φ i t:=fun i hi t=>by
  have ho:ops[i]?=some (ops[i]'(by omega)):=Array.getElem?_eq_getElem (by omega)
  rw[(T i _ hi ho).2.1,fputo_get,dstOf,ho,Option.bind_some]
 let W:Nat->Bool:=fun i=>match ops[i]? with
  |some o=>opKind M o.op==2
  |none=>false
 have hW:∀i o,ops[i]?=some o->(W i=(opKind M o.op==2)):=fun i o ho=>by simp only[W,ho]
 have hstill:∀i,i<p->W i=false->S (i+1)=S i:=fun i hi hw=>by
  have ho:ops[i]?=some (ops[i]'(by omega)):=Array.getElem?_eq_getElem (by omega)
  rcases(T i _ hi ho).2.2 with⟨_,_,h⟩|⟨_,h⟩
  ·exact h
  ·rw[hW i _ ho] at hw
   exact goper_still (hpure _) (by simpa using hw) h
 have hds:σ'.ds=σ.ds:=by
  have hall:∀k,k<=p->(S k).ds=(S 0).ds:=fun k=>by
   induction k with
   |zero=>intro _;rfl
   |succ k ih=>
    intro hk
    have ho:ops[k]?=some (ops[k]'(by omega)):=Array.getElem?_eq_getElem (by omega)
    rw[<-ih (by omega)]
    rcases(T k _ (by omega) ho).2.2 with⟨_,_,h⟩|⟨_,h⟩
    ·rw[h]
    ·exact goper_ds (hcall _) h
  rw[goper_ds (hcall _) hpan,<-e2];exact hall _ (rL _)
 have ahead:∀(L:Array Bool),Closed ops L->∀(i j:Nat) oi oj,ops[i]?=some oi->ops[j]?=some oj->i<j->i∈(ancs ops.toList []).getD j []->
   ((∀e∈oj.after,Region.binds .any e=true->L.getD e.on false=true)->L.getD i false=true)/\(L.getD i false=false->L.getD j false=false):=fun L hc i j oi oj hi hj hij hanc=>by
  refine⟨fun hready=>anc_done hc j oj hj hready i hanc,fun hni=>?_⟩
  cases hjl:L.getD j false with
  |false=>rfl
  |true=>
   have:=anc_done hc j oj hj (fun e he hb=>hc j oj hj hjl e he hb) i hanc
   rw[hni] at this;cases this
 obtain⟨lateD,hlateD⟩:∃f:Nat->Bool,f=fun t=>(List.range ops.size).any fun j=>decide (p<j)&&(match ops[j]? with|some oj=>!((ancs ops.toList []).getD j []).contains p&&(oj.dst==some t)|none=>false):=⟨_,rfl⟩
 have late_of:∀(j:Nat) oj t,ops[j]?=some oj->p<j->¬p∈(ancs ops.toList []).getD j []->oj.dst=some t->lateD t=true:=fun j oj t hj hpj hn hd=>by
  rw[hlateD]
  simp only[List.any_eq_true,List.mem_range]
  exact⟨j,(Array.getElem?_eq_some_iff.1 hj).1,by simp only[hpj,hj,hd];simpa[List.getD_eq_getElem?_getD] using hn⟩
 have late_no:∀(i:Nat) oi t,i<=p->ops[i]?=some oi->(t∈oi.looksAt ops∨oi.dst=some t)->lateD t=false:=fun i oi t hi ho ht=>by
  cases hb:lateD t with
  |false=>rfl
  |true=>
   rw[hlateD] at hb
   simp only[List.any_eq_true,List.mem_range,Bool.and_eq_true,decide_eq_true_eq] at hb
   obtain⟨j,hj,hpj,hb⟩:=hb
   have hoj:ops[j]?=some (ops[j]'hj):=Array.getElem?_eq_getElem hj
   rw[hoj] at hb
   simp only[Bool.and_eq_true,Bool.not_eq_true',beq_iff_eq] at hb
   rcases calmP_late hcalm hoj hpj with h1|⟨_,h1⟩
   ·rw[List.contains_iff_mem.2 h1] at hb;cases hb.1
   ·obtain⟨a1,a2,a3⟩:=Oper.apart_spec (h1 i oi hi ho)
    rcases ht with ht|ht
    ·exact absurd ht (a3 t hb.2)
    ·exact absurd hb.2 (a2 t ht)
 obtain⟨F,hF⟩:∃F:Array Bool->Fr,F=fun L t=>if lateD t=true then .any else frL ops G (Φ 0) L p t:=⟨_,rfl⟩
 have hFn:∀L t,lateD t=false->F L t=frL ops G (Φ 0) L p t:=fun L t h=>by rw[hF];simp[h]
 have key:∀(fuel:Nat) (L:Array Bool) (D:Cx) (a':Act) (w':World),L.size=ops.size->Closed ops L->L.getD p false=false->cntL L ops.size<=fuel->C.le D->Rel D (hpL S W L p) w0 w'->
   FRel D (F L) a'->a'.tmps.size=n->a'.defers=a.defers->wpAnyIn (FW ro) 0 P .any ops Q fuel L a' w':=by
  intro fuel
  induction fuel with
  |zero=>
   intro L D a' w' hLs hc hpn hcnt hl hrel hfr hna hda
   have hall:=cntL_zero (L:=L) ops.size (by omega) p hps
   rw[hpn] at hall;cases hall
  |succ fuel ih=>
   intro L D a' w' hLs hc hpn hcnt hl hrel hfr hna hda
   refine⟨fun hend=>?_,fun j hj=>?_⟩
   ·
    have hall:∀i,i<ops.size->L.getD i false=true:=by
     intro i
     induction i using Nat.strongRecOn with
     |_ i ihi=>
      intro hi
      cases hb:L.getD i false with
      |true=>rfl
      |false=>
       have ho:ops[i]?=some (ops[i]'hi):=Array.getElem?_eq_getElem hi
       have:i∈Region.ready .any ops L:=mem_ready.2 ⟨by
        rw[Array.getD_eq_getD_getElem?] at hb⊢
        rw[Array.getElem?_eq_getElem (by omega:i<L.size)] at hb⊢
        simpa using hb,_,ho,fun e he hbe=>by
         have:=calmP_edge hcalm ho e he hbe
         exact ihi e.on this (by omega)⟩
       rw[hend] at this;cases this
    have:=hall p hps
    rw[hpn] at this;cases this
   ·obtain⟨hj0,o,ho,hready⟩:=mem_ready.1 hj
    have hjs:=(Array.getElem?_eq_some_iff.1 ho).1
    have hjn:L.getD j false=false:=by
     rw[Array.getD_eq_getD_getElem?] at hj0⊢
     rw[Array.getElem?_eq_getElem (by omega:j<L.size)] at hj0⊢
     simpa using hj0
    rcases Nat.lt_or_ge p j with hlt|hjp
    ·
     have hna':¬p∈(ancs ops.toList []).getD j []:=fun h=>by
      have:=(ahead L hc p j _ _ hop ho hlt h).1 hready
      rw[hpn] at this;cases this
     have hla:=((calmP_late hcalm ho hlt).resolve_left hna').1
     let L':=L.setIfInBounds j true
     have hL'o:∀i,i≠j->L'.getD i false=L.getD i false:=fun i hi=>getD_set_ne false (Ne.symm hi)
     have hL'j:L'.getD j false=true:=by
      simp[L',Array.getD_eq_getD_getElem?,show j<L.size by omega]
     have hc':Closed ops L':=fun k ok hk hkl e he hb=>by
      by_cases hkj:k=j
      ·subst hkj;rw[ho] at hk;cases hk
       exact getD_set_true (hready e he hb)
      ·rw[hL'o k hkj] at hkl
       exact getD_set_true (hc k ok hk hkl e he hb)
     have hcnt':cntL L' ops.size<=fuel:=by
      have:=(cntL_le hL'o hL'j hjn ops.size).2 hjs
      omega
     have hheap':∀k,k<=p->hpL S W L' k=hpL S W L k:=fun k=>by
      induction k with
      |zero=>intro _;rfl
      |succ k ihk=>intro hk;simp only[hpL];rw[hL'o k (by omega),ihk (by omega)]
     unfold lateA at hla
     split at hla
     ·rename_i t0 d hopA hgd hdst
      simp only[Bool.and_eq_true,decide_eq_true_eq] at hla
      obtain⟨hga,hdn⟩:=hla
      unfold wpOpIn
      simp only[ho]
      rw[gwanted_sound hfr (show gwanted ops o (F L)=some true by unfold gwanted;rw[hgd])]
      simp only[if_true]
      obtain⟨v0,hv0⟩:∃v0,(zeroValue t0).run P w'=.ok v0 w':=by
       unfold galloc at hga
       cases hz:gzero P t0 with
       |none=>rw[hz] at hga;cases hga
       |some z=>obtain⟨v0,h1,_⟩:=gzero_run hz w';exact⟨v0,h1⟩
      have hrun:(execOp a'.eval o).run P w'=.ok (.value (.pointer (some ⟨w'.heap.size,0,none⟩))) (w'.alloc (.cells v0.cells t0)):=by
       unfold execOp
       rw[hopA]
       simp[Instr.alloc,newVar,newRow,hv0]
      refine⟨fun f _=>trivial,?_⟩
      rw[Oper.semAt_eq _ _ _ (fun c e=>by rw[hopA] at e;cases e),hrun]
      have hw2:Rel D (hpL S W L' p) w0 (w'.alloc (.cells v0.cells t0)):=by
       rw[hheap' p (rL _)]
       exact hrel.world rfl rfl rfl (by simp) (fun k hk=>Below.heap_alloc w' _ k hk)
      obtain⟨q1,q2,q3⟩:=hfr.put (d:=o.dst) (g:=.any) (v:=.pointer (some ⟨w'.heap.size,0,none⟩)) (.any _) hna (n:=n) (by rw[hdst];simpa using hdn)
      refine ih L' D _ _ (by simp[L',hLs]) hc' ((hL'o p (by omega)).trans hpn) hcnt' hl hw2 (fun t=>?_) q2 (q3.trans hda)
      have hq1:=q1 t
      rw[fputo_get] at hq1
      by_cases ht:lateD t=true
      ·rw[hF];simp only[ht,if_true];exact .any _
      ·have ht':lateD t=false:=by simpa using ht
       rw[hFn L' t ht',frL_other hL'o (by rw[dstOf,ho,Option.bind_some];exact fun e=>ht (late_of j o t ho hlt hna' e)),<-hFn L t ht']
       rwa [if_neg (fun e=>ht (late_of j o t ho hlt hna' e))] at hq1
     ·cases hla
    have names:∀t,(t∈o.looksAt ops∨o.dst=some t)->∀i,i<p->dstOf ops i=some t->(i<j->L.getD i false=true)/\(j<=i->L.getD i false=false):=fun t ht i hi hd=>by
     have hoi:ops[i]?=some (ops[i]'(by omega)):=Array.getElem?_eq_getElem (by omega)
     have hdi:(ops[i]'(by omega)).dst=some t:=by rw[dstOf,hoi,Option.bind_some] at hd;exact hd
     refine⟨fun hij=>?_,fun hij=>?_⟩
     ·rcases calmP_pair hcalm hoi ho hij hjp with h1|⟨_,_,h1⟩
      ·exact(ahead L hc i j _ _ hoi ho hij h1).1 hready
      ·obtain⟨a1,a2,a3⟩:=Oper.apart_spec h1
       rcases ht with ht|ht
       ·exact absurd ht (a1 t hdi)
       ·exact absurd ht (a2 t hdi)
     ·by_cases hij2:i=j
      ·subst hij2;exact hjn
      ·rcases calmP_pair hcalm ho hoi (by omega) (by omega) with h1|⟨_,_,h1⟩
       ·exact(ahead L hc j i _ _ ho hoi (by omega) h1).2 hjn
       ·obtain⟨a1,a2,a3⟩:=Oper.apart_spec h1
        rcases ht with ht|ht
        ·exact absurd ht (a3 t hdi)
        ·exact absurd hdi (a2 t ht)
    have hframe:∀t,(t∈o.looksAt ops∨o.dst=some t)->F L t=Φ j t:=fun t ht=>by
     rw[hFn L t (late_no j o t hjp ho ht),frL_atN hput (names t ht) p (rL _),show min p j=j by omega]
    have hheap:opKind M o.op≠0->hpL S W L p=S j:=fun hk=>by
     rw[hpL_atN hstill (j:=j) (fun i hi hWi=>?_) p (rL _),show min p j=j by omega]
     have hoi:ops[i]?=some (ops[i]'(by omega)):=Array.getElem?_eq_getElem (by omega)
     rw[hW i _ hoi] at hWi
     have hWi:opKind M (ops[i]'(by omega)).op=2:=by simpa using hWi
     refine⟨fun hij=>?_,fun hij=>?_⟩
     ·rcases calmP_pair hcalm hoi ho hij hjp with h1|⟨h1,h2,_⟩
      ·exact(ahead L hc i j _ _ hoi ho hij h1).1 hready
      ·rcases h1 with h1|h1
       ·exact absurd hWi h1
       ·exact absurd h1 hk
     ·by_cases hij2:i=j
      ·subst hij2;exact hjn
      ·rcases calmP_pair hcalm ho hoi (by omega) (by omega) with h1|⟨h1,h2,_⟩
       ·exact(ahead L hc j i _ _ ho hoi (by omega) h1).2 hjn
       ·rcases h2 with h2|h2|h2
        ·exact absurd hWi h2
        ·exact absurd h2 hk
        ·omega
    have hwant:gwanted ops o (F L)=gwanted ops o (Φ j):=by
     unfold gwanted
     cases hgd:o.guard with
     |none=>rfl
     |some gw=>
      obtain⟨k,want⟩:=gw
      simp only
      congr 1
      unfold gyield
      cases hdk:(ops[k]?).bind (·.dst) with
      |none=>rfl
      |some d=>
       simp only
       rw[hframe d (.inl (by simp[Oper.looksAt,hgd,hdk]))]
    have hcong:∀τ,goper P (call j) o (geval (F L)) τ=goper P (call j) o (geval (Φ j)) τ:=fun τ=>goper_congr (fun x hx=>by
     cases x with
     |tmp t=>exact hframe t (.inl (by
       unfold Oper.looksAt
       exact List.mem_append_left _ (List.mem_filterMap.2 ⟨.tmp t,by simpa using hx,rfl⟩)))
     |_=>rfl)
    by_cases hjeq:j=p
    ·
     subst hjeq
     obtain rfl:=Option.some.inj (ho.symm.trans hop)
     unfold wpOpIn
     simp only[ho]
     rw[gwanted_sound hfr (hwant.trans hwp)]
     simp only[if_true]
     have hrun:goper P (call j) o (geval (F L)) (hpL S W L j)=some (.panic g,σ'):=by
      rw[hcong]
      by_cases hk0:opKind M o.op=0
      ·exfalso
       exact goper_nopanic hk0 hpan
      ·rw[hheap hk0];exact hpan
     refine goper_sound (hcall j) hrel (geval_sound hfr) hrun (fun g' E v w'' eg=>by cases eg) (fun g' E v w'' eg hE hrE hv=>?_)
     cases eg
     refine hq E a' w'' (hl.trans hE) (fun t=>?_) hna (by rw[hda,hds];exact hd0.mono (hl.trans hE)) hrE v hv
     unfold lost
     split
     ·exact .any _
     ·rename_i h
      have h:(ops.toList.any fun o=>o.dst==some t)=false:=by simpa using h
      have:=hfr t
      have hnl:lateD t=false:=by
       cases hb:lateD t with
       |false=>rfl
       |true=>
        rw[hlateD] at hb
        simp only[List.any_eq_true,List.mem_range,Bool.and_eq_true,decide_eq_true_eq] at hb
        obtain⟨k,hk,_,hb⟩:=hb
        have hok:ops[k]?=some (ops[k]'hk):=Array.getElem?_eq_getElem hk
        rw[hok] at hb
        simp only[Bool.and_eq_true,beq_iff_eq] at hb
        have:(ops.toList.any fun o=>o.dst==some t)=true:=List.any_eq_true.2 ⟨ops[k]'hk,by simp,by simp[hb.2]⟩
        rw[h] at this;cases this
      rw[hFn L t hnl,frL_lost j (by omega) h,e1] at this
      exact this.mono hE
    ·have hjlt:j<p:=by omega
     let L':=L.setIfInBounds j true
     have hL'o:∀i,i≠j->L'.getD i false=L.getD i false:=fun i hi=>getD_set_ne false (Ne.symm hi)
     have hL'j:L'.getD j false=true:=by
      simp[L',Array.getD_eq_getD_getElem?,show j<L.size by omega]
     have hc':Closed ops L':=fun k ok hk hkl e he hb=>by
      by_cases hkj:k=j
      ·subst hkj;rw[ho] at hk;cases hk
       exact getD_set_true (hready e he hb)
      ·rw[hL'o k hkj] at hkl
       exact getD_set_true (hc k ok hk hkl e he hb)
     have hcnt':cntL L' ops.size<=fuel:=by
      have:=(cntL_le hL'o hL'j hjn ops.size).2 hjs
      omega
     have hnewheap:opKind M o.op=2->hpL S W L' p=S (j+1):=fun hk=>by
      rw[hpL_atN hstill (j:=j+1) (fun i hi hWi=>?_) p (rL _),show min p (j+1)=j+1 by omega]
      have hoi:ops[i]?=some (ops[i]'(by omega)):=Array.getElem?_eq_getElem (by omega)
      rw[hW i _ hoi] at hWi
      have hWi:opKind M (ops[i]'(by omega)).op=2:=by simpa using hWi
      refine⟨fun hij=>?_,fun hij=>?_⟩
      ·by_cases hij2:i=j
       ·subst hij2;exact hL'j
       ·rw[hL'o i hij2]
        rcases calmP_pair hcalm hoi ho (by omega) hjp with h1|⟨h1,h2,_⟩
        ·exact(ahead L hc i j _ _ hoi ho (by omega) h1).1 hready
        ·rcases h1 with h1|h1
         ·exact absurd hWi h1
         ·omega
      ·rw[hL'o i (by omega)]
       rcases calmP_pair hcalm ho hoi (by omega) (by omega) with h1|⟨h1,h2,_⟩
       ·exact(ahead L hc j i _ _ ho hoi (by omega) h1).2 hjn
       ·rcases h2 with h2|h2|h2
        ·exact absurd hWi h2
        ·omega
        ·omega
     have hsameheap:opKind M o.op≠2->hpL S W L' p=hpL S W L p:=fun hk=>hpL_other hL'o (by rw[hW j o ho];simpa using hk) _
     have hnewframe:∀t,frL ops G (Φ 0) L' p t=if o.dst=some t then G j else frL ops G (Φ 0) L p t:=fun t=>by
      by_cases hd:o.dst=some t
      ·rw[if_pos hd,frL_atN hput (j:=j+1) (fun i hi hdi=>?_) p (rL _),show min p (j+1)=j+1 by omega,hput j hjlt t,dstOf,ho,Option.bind_some,if_pos hd]
       obtain⟨h1,h2⟩:=names t (.inr hd) i hi hdi
       refine⟨fun hij=>?_,fun hij=>?_⟩
       ·by_cases hij2:i=j
        ·subst hij2;exact hL'j
        ·rw[hL'o i hij2];exact h1 (by omega)
       ·rw[hL'o i (by omega)];exact h2 (by omega)
      ·rw[if_neg hd]
       exact frL_other hL'o (by rw[dstOf,ho,Option.bind_some];exact hd) _
     have next:∀(E:Cx) (v:Value) (w'':World),D.le E->Rel E (hpL S W L' p) w0 w''->VR E (G j) v->wpAnyIn (FW ro) 0 P .any ops Q fuel L' (a'.put o.dst v) w'':=fun E v w'' hE hrelE hv=>by
      obtain⟨p1,p2,p3⟩:=(hfr.mono hE).put hv hna (T j o hjlt ho).1
      refine ih L' E _ w'' (by simp[L',hLs]) hc' ((hL'o p (by omega)).trans hpn) hcnt' (hl.trans hE) hrelE (fun t=>?_) p2 (p3.trans hda)
      by_cases ht:lateD t=true
      ·rw[hF];simp only[ht,if_true];exact .any _
      have ht':lateD t=false:=by simpa using ht
      rw[hFn L' t ht',hnewframe t]
      have:=p1 t
      rw[fputo_get] at this
      split at this
      ·rename_i hd;rw[if_pos hd];exact this
      ·rename_i hd;rw[if_neg hd,<-hFn L t ht'];exact this
     unfold wpOpIn
     simp only[ho]
     rcases(T j o hjlt ho).2.2 with⟨hw0,hG,hS⟩|⟨hw1,hop'⟩
     ·rw[gwanted_sound hfr (hwant.trans hw0)]
      simp only[Bool.false_eq_true,if_false]
      refine⟨fun _ _=>trivial,next D undef w' (.refl D) ?_ (by rw[hG];exact tupnil D)⟩
      by_cases hk2:opKind M o.op=2
      ·rw[hnewheap hk2,hS,<-hheap (by omega)];exact hrel
      ·rw[hsameheap hk2];exact hrel
     ·rw[gwanted_sound hfr (hwant.trans hw1)]
      simp only[if_true]
      have hrun:goper P (call j) o (geval (F L)) (hpL S W L p)=some (.val (G j),hpL S W L' p):=by
       rw[hcong]
       by_cases hk0:opKind M o.op=0
       ·rw[hsameheap (by omega)]
        exact(goper_free hk0 hop').2 _
       ·rw[hheap hk0,hop']
        by_cases hk2:opKind M o.op=2
        ·rw[hnewheap hk2]
        ·rw[hsameheap hk2,hheap hk0,goper_still (hpure _) hk2 hop']
      refine goper_sound (hcall j) hrel (geval_sound hfr) hrun (fun g E v w'' eg hE hrE hv=>?_) (fun g E v w'' eg=>by cases eg)
      cases eg
      exact next E v w'' hE hrE hv
 refine wpIn_region_any hm (key ops.size (Array.replicate ops.size false) C a _ (by simp) (fun j o ho hj=>?_) ?_ ?_ (.refl C) ?_ ?_ hn rfl)
 ·have hjs:=(Array.getElem?_eq_some_iff.1 ho).1
  simp[Array.getD_eq_getD_getElem?,hjs] at hj
 ·simp[Array.getD_eq_getD_getElem?,hps]
 ·have:∀(L:Array Bool) k,cntL L k<=k:=fun L k=>by
   induction k with
   |zero=>exact rL _
   |succ k ih=>simp only[cntL];split<;>omega
  exact this _ _
 ·have:∀k,hpL S W (Array.replicate ops.size false) k=S 0:=fun k=>by
   induction k with
   |zero=>rfl
   |succ k ih=>
    simp only[hpL]
    rw[if_neg (by simp[Array.getD_eq_getD_getElem?,Array.getElem?_replicate];intro h1;split at h1<;>simp at h1),ih]
  rw[this,e2]
  exact hr.drew
 ·have:∀k,frL ops G (Φ 0) (Array.replicate ops.size false) k=Φ 0:=fun k=>by
   induction k with
   |zero=>rfl
   |succ k ih=>
    simp only[frL]
    rw[if_neg (by simp[Array.getD_eq_getD_getElem?,Array.getElem?_replicate];split<;>simp),ih]
  refine fun t=>?_
  by_cases ht:lateD t=true
  ·rw[hF];simp only[ht,if_true];exact .any _
  ·rw[hFn _ t (by simpa using ht),this,e1]
   exact hf t
end
end Go.Proofs.YtcfgfkkhpdlhpaaGreatDoor
