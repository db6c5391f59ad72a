/- Part of HostValues. -/
import Derived.Test.YtmnjcddcihdlfaaGreatDoorV8
set_option linter.all false
namespace Go.Proofs.YtmnjcddcihdlfaaGreatDoor
section
open Go.RowKit
variable [Globals]
section
variable {P : Program} {call : dQ} {M : FuncId → Bool} {w0 : World}
theorem l3 {x:Option (GRes×GS)} {g:GV} {σ:GS} (h:zM x=some (g,σ)):x=some (.val g,σ):=by
 unfold zM at h;split at h
 ·cases h;rfl
 ·cases h
theorem uB {o:Oper} {ρ:Operand->GV} {σ:GS} (h:dH M o.op≠4) (h0:dH M o.op≠0) (h5:dH M o.op≠5):cE P call o ρ σ=(kO P ρ o.op σ).map fun x=>(.val x.1,x.2):=by
 obtain⟨dst,op,type,pos,after,guard⟩:=o;simp only at h h0 h5⊢;unfold cE;split
 ·rename_i x hop;simp only at hop;subst hop;exact absurd rfl h
 ·rename_i f args ts hop;simp only at hop;subst hop;exfalso;simp only[dH] at h h0;split at h
  ·exact h0 (aA (by assumption))
  ·exact h rfl
 ·rename_i hop;simp only at hop;subst hop;exact absurd rfl h
 ·rfl
theorem EU {ρ:Operand->GV} {op:Op} {σ σ':GS} {g:GV} (hk:dH M op=1) (h:kO P ρ op σ=some (g,σ')):
  σ'=σ/\∀τ:GS,(∀r,fQ ρ op=some r->τ.objs[r]?=σ.objs[r]?)->kO P ρ op τ=some (g,τ):=by
 have mp:∀{x:Option GV} {q:GV×GS},x.map (fun v=>(v,σ))=some q->x=some q.1/\q.2=σ:=fun hx=>by
  rw[aC] at hx;obtain⟨a,rfl,rfl⟩:=hx;exact⟨rfl,rfl⟩
 cases op
 case load t a=>
  simp only[kO,dN,jB] at h⊢;obtain⟨h1,h2⟩:=mp h;refine⟨h2,fun τ hτ=>?_⟩;have e:k9 P t (ρ a) τ=k9 P t (ρ a) σ:=by
   unfold k9;split
   ·rename_i r off ha;rw[hτ r (by simp[fQ,ha])]
   ·rename_i r off _ _ _ ha;rw[hτ r (by simp[fQ,ha])]
   ·rfl
   ·rfl
   ·rfl
  rw[e,h1];rfl
 case lookup t m k ok=>
  simp only[kO,dN,jB] at h⊢;obtain⟨h1,h2⟩:=mp h;refine⟨h2,fun τ hτ=>?_⟩;have e:k5 P t (ρ m) (ρ k) ok τ=k5 P t (ρ m) (ρ k) ok σ:=by
   have hm:∀r,ρ m=.mp r->τ.objs[r]?=σ.objs[r]?:=fun r hr=>hτ r (by simp[fQ,hr]);unfold k5;revert hm;generalize ρ m=m';intro hm;cases m' with
   |mp r=>simp only[hm r rfl]
   |o v=>cases v<;>first|rfl|(rename_i x;cases x<;>rfl)
   |_=>rfl
  rw[e,h1];rfl
 case call c=>
  obtain⟨callee,args,ts⟩:=c;cases callee with
  |builtin b=>
   cases b with
   |len=>
    simp only[kO,dN,jB] at h⊢;have ht:fQ ρ (.call {callee:=.builtin .len,args,argTypes:=ts})=match args.toList.map ρ with
     |[.mp r]=>some r
     |_=>none:=rfl
    rw[ht] at*;revert h;generalize args.toList.map ρ=xs;intro h;unfold i8 at h⊢;split at h
    ·rename_i t x _ _;obtain⟨h1,h2⟩:=mp h;refine⟨h2,fun τ hτ=>?_⟩;have e:rH P t x τ=rH P t x σ:=by
      unfold rH;cases x with
      |mp r=>simp only[hτ r rfl]
      |o v=>cases v<;>first|rfl|(rename_i x;cases x<;>rfl)
      |_=>rfl
     rw[e,h1];rfl
    all_goals first
     |contradiction
     |(cases h;done)
   |_=>simp[dH,cF] at hk
  |value f=>
   simp only[dH] at hk;split at hk<;>cases hk
  |invoke r m=>simp[dH,cF] at hk
 all_goals (exfalso;simp only[dH] at hk;(repeat' split at hk)<;>first|(cases hk;done)|(simp_all;done))
theorem BZ {ρ:Operand->GV} {op:Op} {σ σ':GS} {g:GV} (hk:dH M op=2) (h:kO P ρ op σ=some (g,σ')):
  ∃r x y,fQ ρ op=some r/\σ.lo<=r/\σ.objs[r]?=some y/\y≠ .held/\σ'=gset σ r x/\∀τ:GS,τ.lo=σ.lo->τ.objs[r]?=σ.objs[r]?->kO P ρ op τ=some (g,gset τ r x):=by
 have mu:∀{x:Option GS} {q:GV×GS},x.map (fun s=>(GV.any,s))=some q->x=some q.2/\q.1=.any:=fun hx=>by
  rw[aC] at hx;obtain⟨a,rfl,rfl⟩:=hx;exact⟨rfl,rfl⟩
 have up:∀{t:TypeId} {m k v:GV},fP P t m k v σ=some σ'->∃r x y,m=.mp r/\σ.lo<=r/\σ.objs[r]?=some y/\y≠ .held/\σ'=gset σ r x/\
   ∀τ:GS,τ.lo=σ.lo->τ.objs[r]?=σ.objs[r]?->fP P t m k v τ=some (gset τ r x):=by
  intro t m k v hg;unfold fP at hg;split at hg
  ·rename_i r;split at hg
   ·rename_i kt et hmt;split at hg
    ·rename_i d es hd ho;split at hg
     ·rename_i hc;simp only[aF,aH] at hc;have fin:∀{x:GObj},(∀τ:GS,τ.lo=σ.lo->τ.objs[r]?=σ.objs[r]?->fP P t (.mp r) k v τ=some (gset τ r x))->σ'=gset σ r x->∃r' x y,GV.mp r=.mp r'/\σ.lo<=r'/\σ.objs[r']?=some y/\y≠ .held/\σ'=gset σ r' x/\
        ∀τ:GS,τ.lo=σ.lo->τ.objs[r']?=σ.objs[r']?->fP P t (.mp r) k v τ=some (gset τ r' x):=fun h1 h2=>
       ⟨r,_,_,rfl,hc.1,ho,by simp,h2,h1⟩
      split at hg
      ·rename_i i x hf;cases hg;refine fin (x:=.mp (es.set i (k,v))) (fun τ h1 h2=>?_) rfl;unfold fP;simp only[hmt,hd,h2,ho,h1,hf];rw[aA (by simpa using hc)]
      ·rename_i hf;cases hg;refine fin (x:=.mp (es++[(k,v)])) (fun τ h1 h2=>?_) rfl;unfold fP;simp only[hmt,hd,h2,ho,h1,hf];rw[aA (by simpa using hc)]
      ·cases hg
     ·cases hg
    ·rename_i d es bs clk hd ho;split at hg
     ·rename_i hc;simp only[aF,aH] at hc;generalize hF:(if mU d k=true then i6 d k es 0 else jS P kt k es 0)=F at hg;rcases F with _|_|⟨i,x⟩
      ·cases hg
      ·cases hg;refine⟨r,.mx (es++[(k,v)]) (bs++[clk]) (clk+1),_,rfl,hc.1,ho,by simp,rfl,fun τ h1 h2=>?_⟩;unfold fP;simp only[hmt,hd,h2,ho,h1,hF];rw[aA (by simpa using hc)]
      ·cases hg;refine⟨r,.mx (es.set i (k,v)) bs clk,_,rfl,hc.1,ho,by simp,rfl,fun τ h1 h2=>?_⟩;unfold fP;simp only[hmt,hd,h2,ho,h1,hF];rw[aA (by simpa using hc)]
     ·cases hg
    ·cases hg
   ·cases hg
  ·cases hg
 cases op
 case store t a v=>
  simp only[kO,dN,jB] at h⊢;obtain⟨h1,h2⟩:=mu h;simp only at h1 h2;subst h2;have fin:∀{r off:Nat} {g:GV},fQ ρ (.store t a v)=some r->gT P t r off g σ=some σ'->∃r x y,fQ ρ (.store t a v)=some r/\σ.lo<=r/\σ.objs[r]?=some y/\y≠ .held/\σ'=gset σ r x/\
    ∀τ:GS,τ.lo=σ.lo->τ.objs[r]?=σ.objs[r]?->gT P t r off g τ=some (gset τ r x):=fun hr h1=>by
   unfold gT at h1;split at h1
   ·rename_i cs ho;split at h1
    ·rename_i hc;have hc':=hc;simp only[aF,aH] at hc';refine⟨_,_,_,hr,hc'.1.1.1,ho,by simp,(aV h1).symm,fun τ h3 h4=>?_⟩;unfold gT;simp only[h4,ho,h3];rw[aA hc]
    ·cases h1
   ·cases h1
  unfold lI at h1;split at h1
  ·rename_i r off ha;have hr:fQ ρ (.store t a v)=some r:=by simp[fQ,ha]
   obtain⟨r',x,y,g1,g2,g3,g4,g5,g6⟩:=fin hr h1;rw[hr] at g1;cases g1;exact⟨r,x,y,hr,g2,g3,g4,g5,fun τ h3 h4=>by unfold lI;simp only[ha];rw[g6 τ h3 h4];rfl⟩
  ·rename_i r off e _ _ ha;have hr:fQ ρ (.store t a v)=some r:=by simp[fQ,ha]
   split at h1
   ·rename_i he;obtain⟨r',x,y,g1,g2,g3,g4,g5,g6⟩:=fin hr h1;rw[hr] at g1;cases g1;exact⟨r,x,y,hr,g2,g3,g4,g5,fun τ h3 h4=>by unfold lI;simp only[ha];rw[aA he,g6 τ h3 h4];rfl⟩
   ·cases h1
  ·cases h1
 case mapUpdate t m k v=>
  simp only[kO,dN,jB] at h⊢;obtain⟨h1,h2⟩:=mu h;simp only at h1 h2;subst h2;obtain⟨r,x,y,e,h3,h4,h5,h6,h7⟩:=up h1;exact⟨r,x,y,by simp[fQ,e],h3,h4,h5,h6,fun τ h8 h9=>by rw[h7 τ h8 h9];rfl⟩
 case insert t m k v=>
  simp only[kO,dN,jB] at h⊢;obtain⟨h1,h2⟩:=mu h;simp only at h1 h2;subst h2;obtain⟨r,x,y,e,h3,h4,h5,h6,h7⟩:=up h1;exact⟨r,x,y,by simp[fQ,e],h3,h4,h5,h6,fun τ h8 h9=>by rw[h7 τ h8 h9];rfl⟩
 case call c=>
  exfalso;obtain⟨callee,args,ts⟩:=c;simp only[dH] at hk
  (repeat' split at hk)<;>first|(cases hk;done)|(simp_all;done)
 all_goals (exfalso;simp only[dH] at hk;(repeat' split at hk)<;>first|(cases hk;done)|(simp_all;done))
structure Trace2 (P:Program) (M:FuncId->Bool) (B:Nat->Bool) (call:Nat->dQ) (T:Nat->Option Nat) (Mk:Nat->List Nat) (n:Nat) (ops:Array Oper) (Φ:Nat->Fr) (S:Nat->GS) (G:Nat->GV):Prop where
 step:∀(i:Nat) o,ops[i]?=some o->(o.dst.all fun d=>decide (d<n))=true/\Φ (i+1)=f5 (Φ i) o.dst (G i)/\
  ((bF ops o (Φ i)=some false/\G i=.tup []/\S (i+1)=S i)∨(bF ops o (Φ i)=some true/\B i=false/\kJ P M (call i) T Mk i o (Φ i) (S i)=some (G i,S (i+1)))∨
   (bF ops o (Φ i)=some true/\B i=true/\S (i+1)=S i/\∀τ:GS,τ.lo=(S i).lo->cE P (call i) o (bO (Φ i)) τ=some (.val (G i),τ)))
theorem E3 {T:Nat->Option Nat} {Mk:Nat->List Nat} {n:Nat} {ops:Array Oper}:∀(l:List Oper) (k:Nat) (φ φ':Fr) (σ σ':GS),(∀j:Nat,l[j]?=ops[k+j]?)->pM P M call T Mk n ops l k φ σ=some (φ',σ')->
  ∃(Φ:Nat->Fr) (S:Nat->GS) (G:Nat->GV),Φ k=φ/\S k=σ/\Φ (k+l.length)=φ'/\S (k+l.length)=σ'/\
   ∀(i:Nat) o,k<=i->ops[i]?=some o->(o.dst.all fun d=>decide (d<n))=true/\Φ (i+1)=f5 (Φ i) o.dst (G i)/\
    ((bF ops o (Φ i)=some false/\G i=.tup []/\S (i+1)=S i)∨(bF ops o (Φ i)=some true/\kJ P M call T Mk i o (Φ i) (S i)=some (G i,S (i+1))))
 |[],k,φ,φ',σ,σ',hl,hg=>by
  cases hg;refine⟨fun _=>φ,fun _=>σ,fun _=>.any,rfl,rfl,rfl,rfl,fun i o hi ho=>?_⟩;have:=hl (i - k);rw[show k+(i - k)=i by omega,ho] at this;simp at this
 |o::l,k,φ,φ',σ,σ',hl,hg=>by
  have ho:ops[k]?=some o:=by have:=hl 0;simpa using this.symm
  simp only[pM] at hg;split at hg
  ·rename_i hd;have go:∀(g:GV) (σ1:GS),pM P M call T Mk n ops l (k+1) (f5 φ o.dst g) σ1=some (φ',σ')->
     ((bF ops o φ=some false/\g=.tup []/\σ1=σ)∨(bF ops o φ=some true/\kJ P M call T Mk k o φ σ=some (g,σ1)))->
     ∃(Φ:Nat->Fr) (S:Nat->GS) (G:Nat->GV),Φ k=φ/\S k=σ/\Φ (k+(o::l).length)=φ'/\S (k+(o::l).length)=σ'/\
      ∀(i:Nat) o,k<=i->ops[i]?=some o->(o.dst.all fun d=>decide (d<n))=true/\Φ (i+1)=f5 (Φ i) o.dst (G i)/\
       ((bF ops o (Φ i)=some false/\G i=.tup []/\S (i+1)=S i)∨(bF ops o (Φ i)=some true/\kJ P M call T Mk i o (Φ i) (S i)=some (G i,S (i+1)))):=by
    intro g σ1 hrest hstep;obtain⟨Φ,S,G,e1,e2,e3,e4,e5⟩:=E3 l (k+1) _ φ' σ1 σ' (fun j=>by have:=hl (j+1);rw[show k+1+j=k+(j+1) by omega];simpa using this) hrest;refine⟨fun i=>if i=k then φ else Φ i,fun i=>if i=k then σ else S i,fun i=>if i=k then g else G i,aA rfl,aA rfl,?_,?_,fun i o' hi ho'=>?_⟩
    ·show(if k+(l.length+1)=k then φ else Φ (k+(l.length+1)))=φ';rw[aB (by omega),show k+(l.length+1)=k+1+l.length by omega];exact e3
    ·show(if k+(l.length+1)=k then σ else S (k+(l.length+1)))=σ';rw[aB (by omega),show k+(l.length+1)=k+1+l.length by omega];exact e4
    ·by_cases hik:i=k
     ·subst hik;rw[ho] at ho';cases ho';simp only[dL,aB (show i+1≠i by omega),e1,e2];exact⟨hd,trivial,hstep⟩
     ·simp only[aB hik,aB (show i+1≠k by omega)];exact e5 i o' (by omega) ho'
   split at hg
   ·rename_i hw;exact go (.tup []) σ hg (.inl ⟨hw,rfl,rfl⟩)
   ·rename_i hw;split at hg
    ·rename_i g σ1 hop;exact go g σ1 hg (.inr ⟨hw,hop⟩)
    ·cases hg
   ·cases hg
  ·cases hg
end
def oD (M:FuncId->Bool) (ops:Array Oper) (T:Nat->Option Nat) (Mk:Nat->List Nat) (i r:Nat):Bool:=
 match f7 M ops i with
 |2|3=>T i==some r
 |4=>!eL M ops i&&!(Mk i).contains r
 |_=>false
def RC (S:Nat->GS) (W:Nat->Nat->Bool) (L:Array Bool) (r:Nat):Nat->Option GObj
 |0=>(S 0).objs[r]?
 |k+1=>if L.getD k false&&W k r then(S (k+1)).objs[r]? else RC S W L r k
section
variable {P : Program} {call : Nat → dQ} {M : FuncId → Bool} {B : Nat → Bool} {w0 : World} {n : Nat} {ops : Array Oper} {Φ : Nat → Fr} {S : Nat → GS} {G : Nat → GV} {T : Nat → Option Nat} {Mk : Nat → List Nat}
theorem Trace2.put (R:Trace2 P M B call T Mk n ops Φ S G) (i:Nat) (hi:i<ops.size) (t:Nat):Φ (i+1) t=if eX ops i=some t then G i else Φ i t:=by
 have ho:ops[i]?=some (ops[i]'hi):=aK hi;rw[(R.step i _ ho).2.1,eI,eX,ho,bC]
theorem AK (R:Trace2 P M B call T Mk n ops Φ S G) {L:Array Bool} {j t:Nat} (hw:∀i,i<ops.size->eX ops i=some t->(i<j->L.getD i false=true)/\(j<=i->L.getD i false=false)):
  ∀k,k<=ops.size->jX ops G (Φ 0) L k t=Φ (min k j) t
 |0,_=>by simp[jX]
 |k+1,hk=>by
  have ih:=AK R hw k (by omega);have hp:=R.put k (by omega) t;simp only[jX];by_cases hd:eX ops k=some t
  ·obtain⟨h1,h2⟩:=hw k (by omega) hd;by_cases hkj:k<j
   ·rw[h1 hkj,aA rfl,eI,aA hd,show min (k+1) j=k+1 by omega,hp,aA hd]
   ·rw[h2 (by omega)];simp only[aY,cO];rw[ih,show min (k+1) j=min k j by omega]
  ·have e:(if L.getD k false=true then f5 (jX ops G (Φ 0) L k) (eX ops k) (G k) else jX ops G (Φ 0) L k) t=jX ops G (Φ 0) L k t:=by
    split
    ·rw[eI,aB hd]
    ·rfl
   rw[e,ih];by_cases hkj:k<j
   ·rw[show min (k+1) j=k+1 by omega,show min k j=k by omega,hp,aB hd]
   ·rw[show min (k+1) j=min k j by omega]
theorem G3 {W:Nat->Nat->Bool} {L:Array Bool} {j r:Nat} (hstill:∀i,i<ops.size->W i r=false->(S (i+1)).objs[r]?=(S i).objs[r]?)
  (hw:∀i,i<ops.size->W i r=true->(i<j->L.getD i false=true)/\(j<=i->L.getD i false=false)):∀k,k<=ops.size->RC S W L r k=(S (min k j)).objs[r]?
 |0,_=>by simp[RC]
 |k+1,hk=>by
  have ih:=G3 hstill hw k (by omega);simp only[RC];cases hW:W k r with
  |true=>
   obtain⟨h1,h2⟩:=hw k (by omega) hW;by_cases hkj:k<j
   ·rw[h1 hkj,show min (k+1) j=k+1 by omega];rfl
   ·rw[h2 (by omega)];simp only[Bool.false_and,aY,cO];rw[ih,show min (k+1) j=min k j by omega]
  |false=>
   simp only[Bool.and_false,aY,cO];rw[ih];by_cases hkj:k<j
   ·rw[show min (k+1) j=k+1 by omega,show min k j=k by omega,hstill k (by omega) hW]
   ·rw[show min (k+1) j=min k j by omega]
theorem EF {W:Nat->Nat->Bool} {L L':Array Bool} {j r:Nat} (hL:∀i,i≠j->L'.getD i false=L.getD i false) (hd:W j r=false):∀k,RC S W L' r k=RC S W L r k
 |0=>rfl
 |k+1=>by
  simp only[RC];rw[EF hL hd k];by_cases hk:k=j
  ·subst hk;rw[hd];simp
  ·rw[hL k hk]
end
end
section
open Go.RowKit
variable [Globals]
section
variable {P : Program} {call : dQ} {M : FuncId → Bool} {B : Nat → Bool} {w0 : World} {n : Nat} {ops : Array Oper} {T : Nat → Option Nat} {Mk : Nat → List Nat}
theorem wF {op:Op} (h:dH M op=0):cF M op=0:=by
 unfold dH at h;split at h<;>first
  |(cases h;done)
  |skip
 split at h
 ·assumption
 ·cases h
theorem sO (hcall:bK P w0 call) {i:Nat} {o:Oper} {φ:Fr} {σ σ':GS} {g:GV} (ho:ops[i]?=some o) (hMk:∀r∈Mk i,r<σ.objs.length) (h:kJ P M call T Mk i o φ σ=some (g,σ')):
  Keep σ σ'/\σ'.ds=σ.ds/\∀r,oD M ops T Mk i r=false->d6 M call->σ'.objs[r]?=σ.objs[r]?:=by
 have hcl:f7 M ops i=dH M o.op:=by unfold f7;rw[ho]
 unfold kJ at h;split at h
 ·rename_i hk;obtain⟨e,_⟩:=rF (wF hk) (l3 h);subst e;exact⟨.refl _,rfl,fun _ _ _=>rfl⟩
 ·rename_i hk;split at h
  ·have h1:=l3 h;rw[uB (M:=M) (by rw[hk];decide) (by rw[hk];decide) (by rw[hk];decide),aC] at h1;obtain⟨⟨g',s⟩,h2,e⟩:=h1;cases e;obtain⟨e,_⟩:=EU hk h2;subst e;exact⟨.refl _,rfl,fun _ _ _=>rfl⟩
  ·cases h
 ·rename_i hk;split at h
  ·rename_i hT;have h1:=l3 h;rw[uB (M:=M) (by rw[hk];decide) (by rw[hk];decide) (by rw[hk];decide),aC] at h1;obtain⟨⟨g',s⟩,h2,e⟩:=h1;cases e;obtain⟨r,x,y,ht,hlo,hy,hne,rfl,_⟩:=BZ hk h2;refine⟨.gset σ x hlo hy hne,rfl,fun q hq hpu=>?_⟩;unfold oD at hq;rw[hcl,hk] at hq;have:q≠r:=fun e=>by subst e;rw[<-hT,ht] at hq;simp at hq
   show(σ.objs.set r x)[q]?=_;rw[cV (Ne.symm this)]
  ·cases h
 ·rename_i hk;split at h
  ·rename_i f r hf hT;split at h
   ·rename_i hfree;split at h
    ·rename_i hlo;cases h;refine⟨.gset σ _ hlo hfree (by simp),rfl,fun q hq hpu=>?_⟩;unfold oD at hq;rw[hcl,hk] at hq;have:q≠r:=fun e=>by subst e;rw[hT] at hq;simp at hq
     show(σ.objs.set r f.2)[q]?=_;rw[cV (Ne.symm this)]
    ·cases h
   ·cases h
  ·cases h
 ·rename_i hk4;split at h
  ·rename_i g' σ1 hg;cases h;have hop:=l3 hg;have hkp:=oA hcall hop;have hds:=lL hcall hop;have held:∀r∈Mk i,σ1.objs[r]?=some .held:=fun r hr=>hkp.held r (by
    rw[k4,gL (hMk r hr)];simp only[aT];rw[aA (by simpa using hr)])
   have inM:∀r∈Mk i,(kN (Mk i) σ σ1).objs[r]?=σ.objs[r]?:=fun r hr=>by
    rw[l4,held r hr];simp only[aT];rw[aA (by simpa using hr),aL,gL (hMk r hr),fM]
   have notM:∀r,¬r∈Mk i->(kN (Mk i) σ σ1).objs[r]?=σ1.objs[r]?:=fun r hr=>by
    rw[l4];have:¬(Mk i).contains r=true:=by simpa using hr
    simp only[aB this,Option.map_id']
   have notM0:∀r,¬r∈Mk i->(k8 (Mk i) σ).objs[r]?=σ.objs[r]?:=fun r hr=>by
    rw[k4];have:¬(Mk i).contains r=true:=by simpa using hr
    simp only[aB this,Option.map_id']
   refine⟨⟨hkp.lo,?_,fun hl r hr=>?_,fun r hr=>?_⟩,hds,fun r hr hpu=>?_⟩
   ·have:=hkp.len;rw[y4] at this;rw[z7];exact this
   ·by_cases hm:r∈Mk i
    ·exact inM r hm
    ·rw[notM r hm,hkp.old (by rw[y4];exact hl) r hr,notM0 r hm]
   ·by_cases hm:r∈Mk i
    ·rw[inM r hm];exact hr
    ·rw[notM r hm];exact hkp.held r (by rw[notM0 r hm];exact hr)
   ·unfold oD at hr;rw[hcl,hk4] at hr;by_cases hpa:eL M ops i=true
    ·have hkd:cF M o.op≠2:=by
      unfold eL at hpa;rw[ho] at hpa;simp only[aF,bne_iff_ne] at hpa;exact hpa.2
     have e:=jR hpu hkd hop;by_cases hm:r∈Mk i
     ·exact inM r hm
     ·rw[notM r hm,e,notM0 r hm]
    ·rw[Bool.not_eq_true] at hpa;rw[hpa] at hr;exact inM r (by simpa using hr)
  ·cases h
 ·cases h
theorem tQ {A:List (List Nat)} {TL:List (Option Nat)} {N:Nat} (h:oI M B ops A TL N=true) {i j:Nat} {oi oj:Oper} (hi:ops[i]?=some oi) (hj:ops[j]?=some oj) (hij:i<j):
  i∈A.getD j []∨((B i=true∨B j=true∨pI (eL M ops i) (eL M ops j) (dH M oi.op) (dH M oj.op) (TL.getD i none) (TL.getD j none)=true)/\oi.apart ops oj=true):=by
 unfold oI at h;simp only[aF,aZ,d9] at h;have h1:=h.2 j (Array.getElem?_eq_some_iff.1 hj).1;simp only[hj,aF,aZ,d9] at h1;have h2:=h1.2 i hij;simpa only[hi,dJ,aF,List.contains_iff_mem,or_assoc] using h2
theorem P7 {A:List (List Nat)} {TL:List (Option Nat)} {N:Nat} (h:oI M B ops A TL N=true) {j:Nat} {oj:Oper} (hj:ops[j]?=some oj):∀e∈oj.after,Region.binds .any e=true->e.on<j:=by
 unfold oI at h;simp only[aF,aZ,d9] at h;have h1:=h.2 j (Array.getElem?_eq_some_iff.1 hj).1;simp only[hj,aF] at h1;intro e he hb;have h2:=(Array.all_eq_true'.1 h1.1.2) e he;simpa[hb] using h2
theorem LB {A:List (List Nat)} {TL:List (Option Nat)} {N:Nat} (h:oI M B ops A TL N=true) {i r:Nat} (hi:i<ops.size) (hr:TL.getD i none=some r):r<N∨(r=D5/\f7 M ops i=1):=by
 unfold oI at h;simp only[aF,aZ] at h;have h1:=h.1.1.1 i (by simpa using hi);rw[hr] at h1;simp only[dJ,aF,aH,bU] at h1;exact h1
theorem Y8 {A:List (List Nat)} {TL:List (Option Nat)} {N:Nat} (h:oI M B ops A TL N=true):N<=D5:=by
 unfold oI at h;simp only[aF,aH] at h;exact h.1.1.2
theorem RQ {A:List (List Nat)} {TL:List (Option Nat)} {N:Nat} (h:oI M B ops A TL N=true) {i:Nat} (hi:i<ops.size) (hb:B i=true):eL M ops i=true:=by
 unfold oI at h;simp only[aF,aZ] at h;have h1:=h.1.2 i (by simpa using hi);rw[hb] at h1;simpa using h1
theorem a0F {A:List (List Nat)} {TL:List (Option Nat)} {j r:Nat}:r∈kY M ops A TL j↔∃i,i<ops.size/\i≠j/\yT A i j=true/\(bif eL M ops j then 2 else 1)<=f7 M ops i/\f7 M ops i<=3/\TL.getD i none=some r/\r≠D5:=by
 unfold kY;simp only[List.mem_filterMap,d9];constructor
 ·rintro⟨i,hi,h⟩;split at h
  ·rename_i hc;simp only[aF,bne_iff_ne,aH] at hc;exact⟨i,hi,hc.1.1.1.1,hc.1.1.1.2,hc.1.1.2,hc.1.2,h,fun e=>hc.2 (by rw[h,e])⟩
  ·cases h
 ·rintro⟨i,hi,h1,h2,h3,h4,h5,h6⟩;exact⟨i,hi,by rw[aA (by rw[h5];simp[h1,h2,h3,h4,h6])];exact h5⟩
theorem O6 {A:List (List Nat)} {TL:List (Option Nat)} {N i j r:Nat} (hw:oI M B ops A TL N=true) (hi:i<ops.size) (hj:j<ops.size) (hij:i≠j) (hl:yT A i j=true) (hl':yT A j i=true)
  (hok0:(B i=true∨B j=true∨pI (eL M ops i) (eL M ops j) (f7 M ops i) (f7 M ops j) (TL.getD i none) (TL.getD j none)=true)∨(B j=true∨B i=true∨pI (eL M ops j) (eL M ops i) (f7 M ops j) (f7 M ops i) (TL.getD j none) (TL.getD i none)=true))
  (hwi:oD M ops (fun i=>TL.getD i none) (kY M ops A TL) i r=true)
  (hwj:oD M ops (fun i=>TL.getD i none) (kY M ops A TL) j r=true∨(f7 M ops j=1/\(TL.getD j none=some r∨TL.getD j none=some D5))∨(eL M ops j=true/\B j=false/\¬r∈kY M ops A TL j)):False:=by
 have hwi':2<=f7 M ops i/\f7 M ops i<=4:=by
  unfold oD at hwi;split at hwi
  ·omega
  ·omega
  ·omega
  ·cases hwi
 have p4:∀{q:Nat},eL M ops q=true->f7 M ops q=4:=fun{q} h=>by
  unfold eL at h;unfold f7;split at h
  ·rename_i o ho;simp only[aF,bU] at h;exact h.1
  ·cases h
 have np:∀{q:Nat},f7 M ops q≠4->eL M ops q=false:=fun{q} h=>by
  cases hp:eL M ops q with
  |false=>rfl
  |true=>exact absurd (p4 hp) h
 have npi:eL M ops i=false:=by
  cases hp:eL M ops i with
  |false=>rfl
  |true=>
   have h4:=p4 hp;unfold oD at hwi;rw[h4,hp] at hwi;simp at hwi
 have hBi:B i=false:=by
  cases hb:B i with
  |false=>rfl
  |true=>have:=RQ hw hi hb;rw[npi] at this;cases this
 have hBj:B j=false:=by
  cases hb:B j with
  |false=>rfl
  |true=>
   have hp:=RQ hw hj hb;rcases hwj with h|⟨h,_⟩|⟨_,h,_⟩
   ·unfold oD at h;rw[p4 hp,hp] at h;simp at h
   ·rw[p4 hp] at h;omega
   ·rw[hb] at h;cases h
 have hok:pI (eL M ops i) (eL M ops j) (f7 M ops i) (f7 M ops j) (TL.getD i none) (TL.getD j none)=true∨pI (eL M ops j) (eL M ops i) (f7 M ops j) (f7 M ops i) (TL.getD j none) (TL.getD i none)=true:=by
  rw[hBi,hBj] at hok0;rcases hok0 with(h|h|h)|(h|h|h)<;>first|(cases h;done)|exact .inl h|exact .inr h
 replace hwj:oD M ops (fun i=>TL.getD i none) (kY M ops A TL) j r=true∨(f7 M ops j=1/\(TL.getD j none=some r∨TL.getD j none=some D5))∨(eL M ops j=true/\¬r∈kY M ops A TL j):=hwj.imp id (fun h=>h.imp id fun h=>⟨h.1,h.2.2⟩);have nounk:f7 M ops j=1->TL.getD j none≠some D5:=fun h1 h2=>by
  rcases hok with hok|hok<;>rw[h1,h2,npi] at hok<;>simp only[pI,aF,dJ,fT,aH] at hok
  ·rcases hok.2 with(h3|h3)|h3
   ·simp at h3
   ·omega
   ·cases h3
  ·rcases hok.1.2 with(h3|h3)|h3
   ·simp at h3
   ·omega
   ·cases h3
 replace hwj:oD M ops (fun i=>TL.getD i none) (kY M ops A TL) j r=true∨(f7 M ops j=1/\TL.getD j none=some r)∨(eL M ops j=true/\¬r∈kY M ops A TL j):=by
  rcases hwj with h|⟨h1,h2|h2⟩|h
  ·exact .inl h
  ·exact .inr (.inl ⟨h1,h2⟩)
  ·exact absurd h2 (nounk h1)
  ·exact .inr (.inr h)
 have ne:∀q,q<ops.size->f7 M ops q≠1->TL.getD q none=some r->r≠D5:=fun q hq h1 h2=>by
  have:=Y8 hw;rcases LB hw hq h2 with h3|⟨_,h3⟩
  ·omega
  ·exact absurd h3 h1
 have inMi:eL M ops i=false->1<=f7 M ops j->f7 M ops j<=3->TL.getD j none=some r->r∈kY M ops A TL i:=fun h0 h1 h2 h3=>a0F.2 ⟨j,hj,Ne.symm hij,hl',by rw[h0];exact h1,h2,h3,fun e=>by
  by_cases h4:f7 M ops j=1
  ·exact nounk h4 (by rw[h3,e])
  ·exact ne j hj h4 h3 e⟩
 have inMj:1<=f7 M ops i->f7 M ops i<=3->TL.getD i none=some r->r∈kY M ops A TL j:=fun h1 h2 h3=>a0F.2 ⟨i,hi,hij,hl,(by cases eL M ops j<;>simp only[cond_true,cond_false]<;>omega),h2,h3,ne i hi (by omega) h3⟩;have tj:f7 M ops j≠4->(1<=f7 M ops j/\f7 M ops j<=3)/\TL.getD j none=some r:=fun h4=>by
  rcases hwj with hwj|⟨h1,h2⟩|⟨h1,_⟩
  rotate_right
  ·exact absurd (p4 h1) h4
  ·unfold oD at hwj;split at hwj
   ·rename_i h;exact⟨by omega,by simpa using hwj⟩
   ·rename_i h;exact⟨by omega,by simpa using hwj⟩
   ·rename_i h;exact absurd h h4
   ·cases hwj
  ·exact⟨by omega,h2⟩
 unfold oD at hwi;split at hwi
 ·rename_i hc;have hti:TL.getD i none=some r:=by simpa using hwi
  by_cases h4:f7 M ops j=4
  ·have hm:=inMj (by omega) (by omega) hti;rcases hwj with hwj|⟨h1,_⟩|⟨_,h1⟩
   ·unfold oD at hwj;rw[h4] at hwj;simp[hm] at hwj
   ·omega
   ·exact h1 hm
  ·obtain⟨⟨h1,h2⟩,h3⟩:=tj h4;rcases hok with hok|hok<;>rw[hti,h3,hc] at hok<;>(generalize f7 M ops j=c at*;have:c=1∨c=2∨c=3:=by omega)<;>rcases this with rfl|rfl|rfl<;>simp[pI] at hok
 ·rename_i hc;have hti:TL.getD i none=some r:=by simpa using hwi
  by_cases h4:f7 M ops j=4
  ·have hm:=inMj (by omega) (by omega) hti;rcases hwj with hwj|⟨h1,_⟩|⟨_,h1⟩
   ·unfold oD at hwj;rw[h4] at hwj;simp[hm] at hwj
   ·omega
   ·exact h1 hm
  ·obtain⟨⟨h1,h2⟩,h3⟩:=tj h4;rcases hok with hok|hok<;>rw[hti,h3,hc] at hok<;>(generalize f7 M ops j=c at*;have:c=1∨c=2∨c=3:=by omega)<;>rcases this with rfl|rfl|rfl<;>simp[pI] at hok
 ·rename_i hc;by_cases h4:f7 M ops j=4
  ·rcases hok with hok|hok<;>rw[hc,h4,npi] at hok<;>simp[pI] at hok
  ·obtain⟨⟨h1,h2⟩,h3⟩:=tj h4;simp only[aF,fT] at hwi;have hm:=inMi hwi.1 h1 h2 h3;have:=hwi.2;simp[hm] at this
 ·cases hwi
theorem Rel.frees {C:Cx} {σ:GS} {w:World} (h:Rel C σ w0 w):∀k:Nat,Rel C {σ with objs:=σ.objs++List.replicate k .free} w0 w:=fun k=>by
 refine⟨h.below,h.fxc,fun r x hx=>?_,fun r hr=>h.dom r (by simp at hr;omega),h.new,h.inj,h.sepB,h.sepO,h.fxn,h.gl,h.gs⟩;have hx':(σ.objs++List.replicate k GObj.free)[r]?=some x:=hx;by_cases hr:r<σ.objs.length
 ·rw[aU hr] at hx';exact h.obj r x hx'
 ·rw[bT (by omega),List.getElem?_replicate] at hx';split at hx'
  ·cases hx';exact h.dom r (by omega)
  ·cases hx'
end
end
