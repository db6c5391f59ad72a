/- Part of HostValues. -/
import Derived.Test.YtmnjcddcihdlfaaGreatDoorV9
set_option linter.all false
namespace Go.Proofs.YtmnjcddcihdlfaaGreatDoor
open Go.RowKit
variable [Globals]
section
variable {P : Program} {call : dQ} {M : FuncId → Bool} {B : Nat → Bool} {w0 : World} {n : Nat} {ops : Array Oper}
theorem zF {call:Nat->dQ} (hm:P.follows .mixedOrders=true) (hcall:∀i,bK P w0 (call i)) (hpure:∀i,d6 M (call i)) {ro:Option Nat} {C:Cx} {φ φ':Fr} {σ0 σ':GS} {id:Nat} {Q:Exit->Act->World->Prop} {a:Act} {w:World} {ds:List GDef}
  {A:List (List Nat)} {TL:List (Option Nat)} {Φ:Nat->Fr} {S:Nat->GS} {G:Nat->GV}
  (hA:gW ops.toList []=A) (hwild:oI M B ops A TL σ0.objs.length=true) (R:Trace2 P M B call (fun i=>TL.getD i none) (kY M ops A TL) n ops Φ S G)
  (e1:Φ 0=φ) (e2:S 0=σ0) (e3:Φ ops.size=φ') (e4:S ops.size=σ') (hds0:σ0.ds=ds)
  (hr0:Rel C σ0 w0 w) (hf:FRel C φ a) (hn:a.tmps.size=n) (hd0:DRel C ds a.defers) (hq:QOk w0 C Q n .normal φ' σ'):(Code.region id ops true).wpIn (FW ro) 0 P Q a w:=by
 let T:Nat->Option Nat:=fun i=>TL.getD i none;let Mk:Nat->List Nat:=kY M ops A TL;replace R:Trace2 P M B call T Mk n ops Φ S G:=R;let W:Nat->Nat->Bool:=oD M ops T Mk;have hMkN:∀i,∀r∈Mk i,r<σ0.objs.length:=fun i r hr=>by
  obtain⟨j,hj,_,_,_,_,h,hne⟩:=a0F.1 hr;exact(LB hwild hj h).resolve_right (fun h=>hne h.1)
 have opAt:∀i,i<ops.size->ops[i]?=some (ops[i]!):=fun i hi=>by
  rw[aK hi,getElem!_pos ops i hi]
 have keepS:∀k,k<=ops.size->Keep (S 0) (S k)/\(S k).ds=(S 0).ds:=fun k=>by
  induction k with
  |zero=>intro _;exact⟨.refl _,rfl⟩
  |succ k ih=>
   intro hk;obtain⟨h1,h2⟩:=ih (by omega);rcases(R.step k _ (opAt k (by omega))).2.2 with⟨_,_,h⟩|⟨_,_,h⟩|⟨_,_,h,_⟩
   ·rw[h];exact⟨h1,h2⟩
   rotate_left
   ·rw[h];exact⟨h1,h2⟩
   ·obtain⟨h3,h4,_⟩:=sO (hcall _) (opAt k (by omega)) (fun r hr=>bV (hMkN k r hr) (by rw[<-e2];exact h1.len)) h;exact⟨h1.trans h3,h4.trans h2⟩
 have lenS:∀k,k<=ops.size->σ0.objs.length<=(S k).objs.length:=fun k hk=>by rw[<-e2];exact(keepS k hk).1.len
 have facts:∀i o,ops[i]?=some o->∀g σ',kJ P M (call i) T Mk i o (Φ i) (S i)=some (g,σ')->Keep (S i) σ'/\σ'.ds=(S i).ds/\∀r,W i r=false->σ'.objs[r]?=(S i).objs[r]?:=fun i o ho g σ' h=>by
  have hi:=(Array.getElem?_eq_some_iff.1 ho).1;obtain⟨f1,f2,f3⟩:=sO (hcall _) ho (fun r hr=>bV (hMkN i r hr) (lenS i (by omega))) h;exact⟨f1,f2,fun r hr=>f3 r hr (hpure i)⟩
 have hstill:∀r i,i<ops.size->W i r=false->(S (i+1)).objs[r]?=(S i).objs[r]?:=fun r i hi hw=>by
  rcases(R.step i _ (opAt i hi)).2.2 with⟨_,_,h⟩|⟨_,_,h⟩|⟨_,_,h,_⟩
  ·rw[h]
  rotate_left
  ·rw[h]
  ·exact(facts i _ (opAt i hi) _ _ h).2.2 r hw
 have ahead:∀(L:Array Bool),kW ops L->∀(i j:Nat) oi oj,ops[i]?=some oi->ops[j]?=some oj->i<j->i∈A.getD j []->
   ((∀e∈oj.after,Region.binds .any e=true->L.getD e.on false=true)->L.getD i false=true)/\(L.getD i false=false->L.getD j false=false):=fun L hc i j oi oj hi hj hij hanc=>by
  rw[<-hA] at hanc;refine⟨fun hready=>lO hc j oj hj hready i hanc,fun hni=>?_⟩;cases hjl:L.getD j false with
  |false=>rfl
  |true=>
   have:=lO hc j oj hj (fun e he hb=>hc j oj hj hjl e he hb) i hanc;rw[hni] at this;cases this
 have clsO:∀{i o},ops[i]?=some o->f7 M ops i=dH M o.op:=fun ho=>by unfold f7;rw[ho]
 have order:∀(L:Array Bool),kW ops L->∀(j:Nat) oj,ops[j]?=some oj->L.getD j false=false->(∀e∈oj.after,Region.binds .any e=true->L.getD e.on false=true)->
   ∀r,(W j r=true∨(f7 M ops j=1/\(T j=some r∨T j=some D5))∨(eL M ops j=true/\B j=false/\¬r∈Mk j))->∀i,i<ops.size->W i r=true->(i<j->L.getD i false=true)/\(j<=i->L.getD i false=false):=fun L hc j oj hj hjn hready r hjr i hi hwi=>by
  have hoi:=opAt i hi;have hjs:=(Array.getElem?_eq_some_iff.1 hj).1;refine⟨fun hij=>?_,fun hij=>?_⟩
  ·rcases tQ hwild hoi hj hij with h1|⟨h1,_⟩
   ·exact(ahead L hc i j _ _ hoi hj hij h1).1 hready
   ·by_cases hl:i∈A.getD j []
    ·exact(ahead L hc i j _ _ hoi hj hij hl).1 hready
    ·rw[<-clsO hoi,<-clsO hj] at h1;exact(O6 hwild hi hjs (by omega) (by unfold yT;rw[aA hij];simpa using hl) (by unfold yT;rw[aB (by omega)];simpa using hl) (.inl h1) hwi hjr).elim
  ·by_cases hij2:i=j
   ·subst hij2;exact hjn
   ·rcases tQ hwild hj hoi (show j<i by omega) with h1|⟨h1,_⟩
    ·exact(ahead L hc j i _ _ hj hoi (by omega) h1).2 hjn
    ·by_cases hl:j∈A.getD i []
     ·exact(ahead L hc j i _ _ hj hoi (by omega) hl).2 hjn
     ·rw[<-clsO hoi,<-clsO hj] at h1;exact(O6 hwild hi hjs (by omega) (by unfold yT;rw[aB (by omega)];simpa using hl) (by unfold yT;rw[aA (by omega)];simpa using hl) (.inr h1) hwi hjr).elim
 have someL:∀(L:Array Bool) r,r<σ0.objs.length->∀k,k<=ops.size->∃y,RC S W L r k=some y:=fun L r hr k=>by
  induction k with
  |zero=>intro _;exact⟨_,gL (by rw[e2];exact hr)⟩
  |succ k ih=>
   intro hk;simp only[RC];split
   ·exact⟨_,gL (bV hr (lenS (k+1) hk))⟩
   ·exact ih (by omega)
 let HeapIs:GS->Array Bool->Prop:=fun τ L=>(∀r,τ.objs[r]?=RC S W L r ops.size)/\τ.lo=σ0.lo/\τ.ds=σ0.ds;have final:∀(L:Array Bool) τ,(∀i,i<ops.size->L.getD i false=true)->HeapIs τ L->τ=σ':=fun L τ hall hh=>by
  obtain⟨h1,h2,h3⟩:=hh;have ho:τ.objs=σ'.objs:=cK fun r=>by
   rw[h1 r,G3 (j:=ops.size) (hstill r) (fun i hi _=>⟨fun _=>hall i hi,fun h=>by omega⟩) ops.size (rL _),Nat.min_self,e4]
  obtain⟨k1,k2⟩:=keepS ops.size (rL _);rw[e4,e2] at k1 k2;cases τ;cases σ';simp only at ho h2 h3 k2;have hlo:=k1.lo;simp only at hlo;simp only[GS.mk.injEq];exact⟨ho,h2.trans hlo.symm,h3.trans k2.symm⟩
 have finalF:∀(L:Array Bool),(∀i,i<ops.size->L.getD i false=true)->jX ops G (Φ 0) L ops.size=φ':=fun L hall=>by
  funext t;rw[AK R (j:=ops.size) (fun i hi _=>⟨fun _=>hall i hi,fun h=>by omega⟩) ops.size (rL _),Nat.min_self,e3]
 have hdsF:σ'.ds=ds:=by
  have:=(keepS ops.size (rL _)).2;rw[e4,e2,hds0] at this;exact this
 have key:∀(fuel:Nat) (L:Array Bool) (D:Cx) (a':Act) (w':World) (τ:GS),L.size=ops.size->kW ops L->nC L ops.size<=fuel->C.le D->HeapIs τ L->Rel D τ w0 w'->
   FRel D (jX ops G (Φ 0) L ops.size) a'->a'.tmps.size=n->a'.defers=a.defers->wpAnyIn (FW ro) 0 P .any ops Q fuel L a' w':=by
  intro fuel;induction fuel with
  |zero=>
   intro L D a' w' τ hLs hc hcnt hl hheap hrel hfr hna hda;have hall:=qO (L:=L) ops.size (by omega);have hend:Region.ready .any ops L=[]:=by
    apply List.eq_nil_iff_forall_not_mem.2;intro j hj;obtain⟨hj0,o,ho,_⟩:=mem_ready.1 hj;have hjs:=(Array.getElem?_eq_some_iff.1 ho).1;have:=hall j hjs;rw[aP] at this hj0;cases hx:L[j]? with
    |none=>rw[hx] at this;simp at this
    |some b=>rw[hx] at this hj0;simp at this hj0;rw[this] at hj0;cases hj0
   have:=final L τ hall hheap;subst this;rw[finalF L hall] at hfr;exact⟨hend,hq D a' w' hl hfr hna (by rw[hda,hdsF];exact hd0.mono hl) hrel⟩
  |succ fuel ih=>
   intro L D a' w' τ hLs hc hcnt hl hheap hrel hfr hna hda;refine⟨fun hend=>?_,fun j hj=>?_⟩
   ·
    have hall:∀i,i<ops.size->L.getD i false=true:=by
     intro i;induction i using Nat.strongRecOn with
     |_ i ihi=>
      intro hi;cases hb:L.getD i false with
      |true=>rfl
      |false=>
       have ho:ops[i]?=some (ops[i]'hi):=aK hi;have:i∈Region.ready .any ops L:=mem_ready.2 ⟨by
        rw[aP] at hb⊢;rw[aK (by omega:i<L.size)] at hb⊢;simpa using hb,_,ho,fun e he hbe=>by
         have:=P7 hwild ho e he hbe;exact ihi e.on this (by omega)⟩
       rw[hend] at this;cases this
    have:=final L τ hall hheap;subst this;rw[finalF L hall] at hfr;exact hq D a' w' hl hfr hna (by rw[hda,hdsF];exact hd0.mono hl) hrel
   ·obtain⟨hj0,o,ho,hready⟩:=mem_ready.1 hj;have hjs:=(Array.getElem?_eq_some_iff.1 ho).1;have hjn:L.getD j false=false:=by
     rw[aP] at hj0⊢;rw[aK (by omega:j<L.size)] at hj0⊢;simpa using hj0
    let L':=L.setIfInBounds j true;have hL'o:∀i,i≠j->L'.getD i false=L.getD i false:=fun i hi=>getD_set_ne false (Ne.symm hi);have hL'j:L'.getD j false=true:=by
     simp[L',aP,show j<L.size by omega]
    have hc':kW ops L':=fun k ok hk hkl e he hb=>by
     by_cases hkj:k=j
     ·subst hkj;rw[ho] at hk;cases hk;exact getD_set_true (hready e he hb)
     ·rw[hL'o k hkj] at hkl;exact getD_set_true (hc k ok hk hkl e he hb)
    have hcnt':nC L' ops.size<=fuel:=by
     have:=(uF hL'o hL'j hjn ops.size).2 hjs;omega
    obtain⟨hh1,hh2,hh3⟩:=hheap;have hord:=order L hc j o ho hjn hready;have loS:(S j).lo=σ0.lo:=by rw[(keepS j (by omega)).1.lo,e2]
    have dsS:(S j).ds=σ0.ds:=by rw[(keepS j (by omega)).2,e2]
    have hmeet:∀r,(W j r=true∨(f7 M ops j=1/\(T j=some r∨T j=some D5))∨(eL M ops j=true/\B j=false/\¬r∈Mk j))->τ.objs[r]?=(S j).objs[r]?:=fun r hjr=>by
     rw[hh1 r,G3 (j:=j) (hstill r) (hord r hjr) ops.size (rL _),show min ops.size j=j by omega]
    have names:∀t,(t∈o.looksAt ops∨o.dst=some t)->∀i,i<ops.size->eX ops i=some t->(i<j->L.getD i false=true)/\(j<=i->L.getD i false=false):=fun t ht i hi hd=>by
     have hoi:ops[i]?=some (ops[i]'hi):=aK hi;have hdi:(ops[i]'hi).dst=some t:=by rw[eX,hoi,bC] at hd;exact hd
     refine⟨fun hij=>?_,fun hij=>?_⟩
     ·rcases tQ hwild hoi ho hij with h1|⟨_,h1⟩
      ·exact(ahead L hc i j _ _ hoi ho hij h1).1 hready
      ·obtain⟨a1,a2,a3⟩:=Oper.apart_spec h1;rcases ht with ht|ht
       ·exact absurd ht (a1 t hdi)
       ·exact absurd ht (a2 t hdi)
     ·by_cases hij2:i=j
      ·subst hij2;exact hjn
      ·rcases tQ hwild ho hoi (show j<i by omega) with h1|⟨_,h1⟩
       ·exact(ahead L hc j i _ _ ho hoi (by omega) h1).2 hjn
       ·obtain⟨a1,a2,a3⟩:=Oper.apart_spec h1;rcases ht with ht|ht
        ·exact absurd ht (a3 t hdi)
        ·exact absurd hdi (a2 t ht)
    have hframe:∀t,(t∈o.looksAt ops∨o.dst=some t)->jX ops G (Φ 0) L ops.size t=Φ j t:=fun t ht=>by
     rw[AK R (names t ht) ops.size (rL _),show min ops.size j=j by omega]
    have hnewframe:∀t,jX ops G (Φ 0) L' ops.size t=if o.dst=some t then G j else jX ops G (Φ 0) L ops.size t:=fun t=>by
     by_cases hd:o.dst=some t
     ·rw[aA hd,AK R (j:=j+1) (fun i hi hdi=>?_) ops.size (rL _),show min ops.size (j+1)=j+1 by omega,R.put j hjs t,eX,ho,bC,aA hd];obtain⟨h1,h2⟩:=names t (.inr hd) i hi hdi;refine⟨fun hij=>?_,fun hij=>?_⟩
      ·by_cases hij2:i=j
       ·subst hij2;exact hL'j
       ·rw[hL'o i hij2];exact h1 (by omega)
      ·rw[hL'o i (by omega)];exact h2 (by omega)
     ·rw[aB hd];exact nS hL'o (by rw[eX,ho,bC];exact hd) _
    have next:∀(E:Cx) (v:Value) (w'':World) (τ':GS),D.le E->τ'.lo=σ0.lo->τ'.ds=σ0.ds->(∀r,τ'.objs[r]?=if W j r=true then(S (j+1)).objs[r]? else τ.objs[r]?)->Rel E τ' w0 w''->VR E (G j) v->
      wpAnyIn (FW ro) 0 P .any ops Q fuel L' (a'.put o.dst v) w'':=fun E v w'' τ' hE hlo' hds' hobj hrelE hv=>by
     obtain⟨p1,p2,p3⟩:=(hfr.mono hE).put hv hna (R.step j o ho).1;refine ih L' E _ w'' τ' (by simp[L',hLs]) hc' hcnt' (hl.trans hE) ⟨fun r=>?_,hlo',hds'⟩ hrelE (fun t=>?_) p2 (p3.trans hda)
     ·rw[hobj r];split
      ·rename_i hw;rw[G3 (j:=j+1) (hstill r) (fun i hi hwi=>?_) ops.size (rL _),show min ops.size (j+1)=j+1 by omega];obtain⟨h1,h2⟩:=hord r (.inl hw) i hi hwi;refine⟨fun hij=>?_,fun hij=>?_⟩
       ·by_cases hij2:i=j
        ·subst hij2;exact hL'j
        ·rw[hL'o i hij2];exact h1 (by omega)
       ·rw[hL'o i (by omega)];exact h2 (by omega)
      ·rename_i hw;rw[EF hL'o (by simpa using hw),hh1 r]
     ·rw[hnewframe t];have:=p1 t;rw[eI] at this;exact this
    have same:∀(h:(S (j+1))=S j) (E:Cx) (v:Value) (w'':World),D.le E->Rel E τ w0 w''->VR E (G j) v->wpAnyIn (FW ro) 0 P .any ops Q fuel L' (a'.put o.dst v) w'':=fun h E v w'' hE hrelE hv=>
     next E v w'' τ hE hh2 hh3 (fun r=>by
      split
      ·rename_i hw;rw[h];exact hmeet r (.inl hw)
      ·rfl) hrelE hv
    have hwant:bF ops o (jX ops G (Φ 0) L ops.size)=bF ops o (Φ j):=by
     unfold bF;cases hgd:o.guard with
     |none=>rfl
     |some gw=>
      obtain⟨k,want⟩:=gw;simp only;congr 1;unfold r7;cases hdk:(ops[k]?).bind (·.dst) with
      |none=>rfl
      |some d=>
       simp only;rw[hframe d (.inl (by simp[Oper.looksAt,hgd,hdk]))]
    have hops:∀x∈o.op.operands,bO (jX ops G (Φ 0) L ops.size) x=bO (Φ j) x:=fun x hx=>by
     cases x with
     |tmp t=>exact hframe t (.inl (by
       unfold Oper.looksAt;exact List.mem_append_left _ (List.mem_filterMap.2 ⟨.tmp t,by simpa using hx,rfl⟩)))
     |_=>rfl
    have hcong:∀τ,cE P (call j) o (bO (jX ops G (Φ 0) L ops.size)) τ=cE P (call j) o (bO (Φ j)) τ:=fun τ=>oS hops;unfold wpOpIn;simp only[ho];rcases(R.step j o ho).2.2 with⟨hw0,hG,hS⟩|⟨hw1,hBj,hop⟩|⟨hw1,_,hS,hfree⟩
    ·rw[dB hfr (hwant.trans hw0)];simp only[aY,cO];exact⟨fun _ _=>trivial,same hS D undef w' (.refl D) hrel (by rw[hG];exact qQ D)⟩
    rotate_left
    ·rw[dB hfr (hwant.trans hw1)];simp only[dL];refine fL (hcall j) hrel (cQ hfr) ((hcong τ).trans (hfree τ (hh2.trans loS.symm))) (fun g E v w'' eg hE hrE hv=>?_) (fun g E v w'' eg=>by cases eg);cases eg;exact same hS E v w'' hE hrE hv
    ·rw[dB hfr (hwant.trans hw1)];simp only[dL];have hcl:=clsO ho;have hop0:=hop;have ffacts:=facts j o ho _ _ hop;unfold kJ at hop;split at hop
     ·
      rename_i hk;have h1:=l3 hop;obtain⟨hS,hfree⟩:=rF (wF hk) h1;refine fL (hcall j) hrel (cQ hfr) ((hcong τ).trans (hfree τ)) (fun g E v w'' eg hE hrE hv=>?_) (fun g E v w'' eg=>by cases eg);cases eg;exact same hS E v w'' hE hrE hv
     ·
      rename_i hk;split at hop
      ·rename_i hT;have h1:=l3 hop;have hgo:∀τ,cE P (call j) o (bO (Φ j)) τ=(kO P (bO (Φ j)) o.op τ).map fun x=>(.val x.1,x.2):=fun τ=>uB (M:=M) (by rw[hk];decide) (by rw[hk];decide) (by rw[hk];decide);rw[hgo,aC] at h1;obtain⟨⟨g',s⟩,h2,e⟩:=h1;cases e;obtain⟨hS,hloc⟩:=EU hk h2;have hrun:cE P (call j) o (bO (jX ops G (Φ 0) L ops.size)) τ=some (.val (G j),τ):=by
        rw[hcong,hgo,hloc τ (fun r hr=>hmeet r (.inr (.inl ⟨hcl.trans hk,hT.imp (fun hT=>by rw[<-hT];exact hr) (fun h=>h)⟩)))];rfl
       refine fL (hcall j) hrel (cQ hfr) hrun (fun g E v w'' eg hE hrE hv=>?_) (fun g E v w'' eg=>by cases eg);cases eg;exact same hS E v w'' hE hrE hv
      ·cases hop
     ·
      rename_i hk;split at hop
      ·rename_i hT;have h1:=l3 hop;have hgo:∀τ,cE P (call j) o (bO (Φ j)) τ=(kO P (bO (Φ j)) o.op τ).map fun x=>(.val x.1,x.2):=fun τ=>uB (M:=M) (by rw[hk];decide) (by rw[hk];decide) (by rw[hk];decide);rw[hgo,aC] at h1;obtain⟨⟨g',s⟩,h2,e⟩:=h1;cases e;obtain⟨r,x,y,ht,hlo,hy,hne,hS,hloc⟩:=BZ hk h2;have hTr:T j=some r:=by rw[<-hT];exact ht
       have hWj:∀q,W j q=true↔q=r:=fun q=>by
        show oD M ops T Mk j q=true↔_;unfold oD;rw[hcl,hk];simp[hTr];exact eq_comm
       have hrun:cE P (call j) o (bO (jX ops G (Φ 0) L ops.size)) τ=some (.val (G j),gset τ r x):=by
        rw[hcong,hgo,hloc τ (by rw[hh2,loS]) (hmeet r (.inl ((hWj r).2 rfl)))];rfl
       refine fL (hcall j) hrel (cQ hfr) hrun (fun g E v w'' eg hE hrE hv=>?_) (fun g E v w'' eg=>by cases eg);cases eg;refine next E v w'' (gset τ r x) hE hh2 hh3 (fun q=>?_) hrE hv
       have hlenr:r<τ.objs.length:=by
        have:=hmeet r (.inl ((hWj r).2 rfl));rw[hy] at this;exact(List.getElem?_eq_some_iff.1 this).1
       have hlenr2:r<(S j).objs.length:=(List.getElem?_eq_some_iff.1 hy).1;split
       ·rename_i hw;have:=(hWj q).1 hw;subst this;rw[hS];show(τ.objs.set q x)[q]?=((S j).objs.set q x)[q]?;rw[List.getElem?_set_self hlenr,List.getElem?_set_self hlenr2]
       ·rename_i hw;have:q≠r:=fun e=>hw ((hWj q).2 e);show(τ.objs.set r x)[q]?=_;rw[cV (Ne.symm this)]
      ·cases hop
     ·
      rename_i hk;split at hop
      ·rename_i f r hf hTr;split at hop
       ·rename_i hfree;split at hop
        ·rename_i hlo;rw[eY,Prod.mk.injEq] at hop;obtain⟨hGj,hS⟩:=hop;have hWj:∀q,W j q=true↔q=r:=fun q=>by
          show oD M ops T Mk j q=true↔_;unfold oD;rw[hcl,hk];simp[hTr];exact eq_comm
         have hfree':τ.objs[r]?=some .free:=(hmeet r (.inl ((hWj r).2 rfl))).trans hfree;have hlenr:=(List.getElem?_eq_some_iff.1 hfree').1;have hlenr2:=(List.getElem?_eq_some_iff.1 hfree).1;have hnd:∀c,o.op≠ .defer c:=fun c e=>by rw[e] at hk;simp[dH] at hk
         have hsem:o.semAt (FW ro).round a'.eval=execOp a'.eval o:=Oper.semAt_eq _ _ _ hnd;have hf':mF P (bO (jX ops G (Φ 0) L ops.size)) o.op=some f:=by rw[DK hops];exact hf
         obtain⟨E,nx,w'',hE,hrE,hnx,hrun⟩:=DJ (o:=o) hrel (cQ hfr) (fun v=>rfl) hf' (hrel.newAt_free hfree' f.2);refine⟨fun _ _=>trivial,?_⟩;rw[hsem,hrun];have fin:∀v,VR E (G j) v->wpAnyIn (FW ro) 0 P .any ops Q fuel L' (a'.put o.dst v) w'':=fun v hv=>by
          refine next E v w'' (gset τ r f.2) hE hh2 hh3 (fun q=>?_) hrE hv
          split
          ·rename_i hw;have:=(hWj q).1 hw;subst this;rw[<-hS];show(τ.objs.set q f.2)[q]?=((S j).objs.set q f.2)[q]?;rw[List.getElem?_set_self hlenr,List.getElem?_set_self hlenr2]
          ·rename_i hw;have:q≠r:=fun e=>hw ((hWj q).2 e);show(τ.objs.set r f.2)[q]?=_;rw[cV (Ne.symm this)]
         rcases hnx with⟨v,rfl,hv⟩|⟨rfl,hany⟩
         ·exact fin v (by rw[<-hGj];exact hv)
         ·exact fin undef (by rw[<-hGj,hany];exact .any _)
        ·cases hop
       ·cases hop
      ·cases hop
     ·
      rename_i hk;split at hop
      ·rename_i g' σ1 hgo;rw[eY,Prod.mk.injEq] at hop;obtain⟨hGj,hS⟩:=hop;subst hGj;have hWj:∀q,W j q=true↔(eL M ops j=false/\¬q∈Mk j):=fun q=>by
        show oD M ops T Mk j q=true↔_;unfold oD;rw[hcl,hk];simp
       have hvis:∀q,¬q∈Mk j->τ.objs[q]?=(S j).objs[q]?:=fun q hq=>by
        cases hpa:eL M ops j with
        |true=>exact hmeet q (.inr (.inr ⟨hpa,hBj,hq⟩))
        |false=>exact hmeet q (.inl ((hWj q).2 ⟨hpa,hq⟩))
       have hmask:k8 (Mk j) τ=k8 (Mk j) (S j):=by
        have ho:(k8 (Mk j) τ).objs=(k8 (Mk j) (S j)).objs:=cK fun q=>by
         rw[k4,k4];by_cases hq:q∈Mk j
         ·obtain⟨y,hy⟩:=someL L q (hMkN j q hq) ops.size (rL _);rw[hh1 q,hy,gL (bV (hMkN j q hq) (lenS j (by omega)))];simp[hq]
         ·rw[hvis q hq]
        have h2:(k8 (Mk j) τ).lo=(k8 (Mk j) (S j)).lo:=hh2.trans loS.symm;have h3:(k8 (Mk j) τ).ds=(k8 (Mk j) (S j)).ds:=hh3.trans dsS.symm;generalize k8 (Mk j) τ=A1 at*;generalize k8 (Mk j) (S j)=A2 at*;cases A1;cases A2;simp only at ho h2 h3;rw[ho,h2,h3]
       have hop1:=l3 hgo;rw[<-hmask] at hop1;have hkp:=oA (hcall j) hop1;have hrel':=hrel.mask (Mk j);have hlenτ:∀q∈Mk j,q<τ.objs.length:=fun q hq=>by
        obtain⟨y,hy⟩:=someL L q (hMkN j q hq) ops.size (rL _);have:=hh1 q;rw[hy] at this;exact(List.getElem?_eq_some_iff.1 this).1
       refine fL (hcall j) hrel' (fun x=>(cQ hfr x).rehd) ((hcong _).trans hop1) (fun g E v w'' eg hE hrE hv=>?_) (fun g E v w'' eg=>by cases eg);cases eg;obtain⟨hlE,hrelE⟩:=hrel.unmask hE hrE hkp.held hlenτ;refine next _ v w'' _ hlE ?_ ?_ (fun q=>?_) hrelE hv.rehd
       ·show σ1.lo=σ0.lo;rw[hkp.lo];exact hh2
       ·show σ1.ds=σ0.ds;rw[lL (hcall j) hop1];exact hh3
       ·rw[l4];by_cases hw:W j q=true
        ·rw[aA hw];have hnm:=((hWj q).1 hw).2;have:¬(Mk j).contains q=true:=by simpa using hnm
         rw[<-hS,l4];simp only[aB this]
        ·rw[aB hw];by_cases hm:q∈Mk j;rotate_left
         ·have hpa:eL M ops j=true:=by
           cases hpa:eL M ops j with
           |true=>rfl
           |false=>exact absurd ((hWj q).2 ⟨hpa,hm⟩) hw
          have hkd:cF M o.op≠2:=by
           unfold eL at hpa;rw[ho] at hpa;simp only[aF,bne_iff_ne] at hpa;exact hpa.2
          have e:=jR (hpure j) hkd hop1;have:¬(Mk j).contains q=true:=by simpa using hm
          rw[e,k4];simp only[aB this,Option.map_id']
         have hh:σ1.objs[q]?=some .held:=hkp.held q (by
          rw[k4,gL (hlenτ q hm)];simp only[aT];rw[aA (by simpa using hm)])
         rw[hh];simp only[aT];rw[aA (by simpa using hm),aL,gL (hlenτ q hm),fM]
      ·cases hop
     ·cases hop
 have init:∀r k,RC S W (Array.replicate ops.size false) r k=(S 0).objs[r]?:=fun r k=>by
  induction k with
  |zero=>rfl
  |succ k ih=>
   simp only[RC];rw[aB (by simp[aP,dV];intro h1;split at h1<;>simp at h1),ih]
 refine wpIn_region_any hm (key ops.size (Array.replicate ops.size false) C a _ σ0 (by simp) (fun j o ho hj=>?_) ?_ (.refl C) ⟨fun r=>?_,rfl,rfl⟩ hr0.drew ?_ hn rfl)
 ·have hjs:=(Array.getElem?_eq_some_iff.1 ho).1;simp[aP,hjs] at hj
 ·have:∀(L:Array Bool) k,nC L k<=k:=fun L k=>by
   induction k with
   |zero=>exact rL _
   |succ k ih=>simp only[nC];split<;>omega
  exact this _ _
 ·rw[init,e2]
 ·have:∀k,jX ops G (Φ 0) (Array.replicate ops.size false) k=Φ 0:=fun k=>by
   induction k with
   |zero=>rfl
   |succ k ih=>
    simp only[jX];rw[aB (by simp[aP,dV];split<;>simp),ih]
  rw[this,e1];exact hf
theorem HA (hm:P.follows .mixedOrders=true) (hcall:bK P w0 call) (hpure:d6 M call) {ro:Option Nat} {C:Cx} {φ φ':Fr} {σ σ':GS} {x:GX} {id:Nat} {Q:Exit->Act->World->Prop} {a:Act} {w:World}
  (hg:vJ P M call n ops φ σ=some (x,φ',σ')) (hr:Rel C σ w0 w) (hf:FRel C φ a) (hn:a.tmps.size=n) (hd0:DRel C σ.ds a.defers) (hq:QOk w0 C Q n x φ' σ'):(Code.region id ops true).wpIn (FW ro) 0 P Q a w:=by
 unfold vJ at hg;simp only at hg;split at hg
 ·rename_i hwild;rw[aC] at hg;obtain⟨⟨φ',σ'⟩,hsteps,e⟩:=hg;cases e;replace hq:QOk w0 C Q n .normal φ' σ':=hq;obtain⟨Φ,S,G,e1,e2,e3,e4,e5⟩:=E3 ops.toList 0 φ φ' _ σ' (fun j=>by simp) hsteps;rw[bM,b8] at e3 e4;exact zF (B:=fun _=>false) (σ0:={σ with objs:=σ.objs++List.replicate (ops.toList.filter fun o=>dH M o.op==3).length .free}) (call:=fun _=>call) hm (fun _=>hcall) (fun _=>hpure) rfl hwild ⟨fun i o ho=>by obtain⟨q1,q2,q3⟩:=e5 i o (zL _) ho;exact⟨q1,q2,q3.imp (fun q=>q) fun q=>.inl ⟨q.1,rfl,q.2⟩⟩⟩ e1 e2 e3 e4 rfl (hr.frees _) hf hn hd0 hq
 ·cases hg
theorem KD (hcall:bK P w0 call) {φ φ':Fr} {σ σ':GS} {x:GX} (h:vJ P M call n ops φ σ=some (x,φ',σ')):Keep σ σ':=by
 unfold vJ at h;simp only at h;split at h
 ·rename_i hwild;rw[aC] at h;obtain⟨⟨φ',σ'⟩,hsteps,e⟩:=h;cases e;show Keep σ σ';generalize gW ops.toList []=A at hwild hsteps;generalize mQ P M call _ σ ops.toList σ.objs.length φ=TL at hwild hsteps;generalize(ops.toList.filter fun o=>dH M o.op==3).length=K at hwild hsteps;have k0:Keep σ {σ with objs:=σ.objs++List.replicate K .free}:=⟨rfl,by simp,fun hl r hr=>by
   show(σ.objs++List.replicate K GObj.free)[r]?=_;rw[aU (by omega)],fun r hr=>by
   show(σ.objs++List.replicate K GObj.free)[r]?=_;rw[aU (List.getElem?_eq_some_iff.1 hr).1];exact hr⟩
  have hMk:∀i,∀r∈kY M ops A TL i,r<({σ with objs:=σ.objs++List.replicate K .free}:GS).objs.length:=fun i r hr=>by
   obtain⟨j,hj,_,_,_,_,h,hne⟩:=a0F.1 hr;exact(LB hwild hj h).resolve_right (fun h=>hne h.1)
  generalize({σ with objs:=σ.objs++List.replicate K .free}:GS)=σ0 at*;have go:∀(l:List Oper) (i:Nat) (φ φ':Fr) (τ τ':GS),(∀j:Nat,l[j]?=ops[i+j]?)->σ0.objs.length<=τ.objs.length->pM P M call (fun i=>TL.getD i none) (kY M ops A TL) n ops l i φ τ=some (φ',τ')->Keep τ τ':=by
   intro l;induction l with
   |nil=>intro i φ φ' τ τ' _ _ h;cases h;exact .refl _
   |cons o l ih=>
    intro i φ φ' τ τ' hl hlen h;have ho:ops[i]?=some o:=by have:=hl 0;simpa using this.symm
    have hl':∀j:Nat,l[j]?=ops[i+1+j]?:=fun j=>by have:=hl (j+1);rw[show i+1+j=i+(j+1) by omega];simpa using this
    simp only[pM] at h;split at h
    ·split at h
     ·exact ih _ _ _ _ _ hl' hlen h
     ·split at h
      ·rename_i g τ1 hst;obtain⟨k1,_,_⟩:=sO hcall ho (fun r hr=>bV (hMk i r hr) hlen) hst;exact k1.trans (ih _ _ _ _ _ hl' (gX hlen k1.len) h)
      ·cases h
     ·cases h
    ·cases h
  exact k0.trans (go ops.toList 0 φ φ' σ0 σ' (fun j=>by simp) (rL _) hsteps)
 ·cases h
end
