/- Part of ViewWrong. -/
import Derived.Test.YtimgfjldcdhejaaGreatDoorK7
set_option linter.all false
namespace Go.Proofs.YtimgfjldcdhejaaGreatDoor
section
open Go.RowKit
variable [Globals]
section
variable {P : Program} {call : fQ} {M : FuncId → Bool} {w0 : World}
theorem oE {x:Option (GRes×GS)} {g:GV} {σ:GS} (h:JU x=some (g,σ)):x=some (.val g,σ):=by
 unfold JU at h;split at h
 ·cases h;rfl
 ·cases h
theorem BA {o:Oper} {ρ:Operand->GV} {σ:GS} (h:eZ M o.op≠4) (h0:eZ M o.op≠0) (h5:eZ M o.op≠5):dN P call o ρ σ=(uR P ρ o.op σ).map fun x=>(.val x.1,x.2):=by
 obtain⟨dst,op,type,pos,after,guard⟩:=o;simp only at h h0 h5⊢;unfold dN;split
 ·rename_i x hop;simp only at hop;subst hop;exact absurd rfl h
 ·rename_i f args ts hop;simp only at hop;subst hop;exfalso;simp only[eZ] at h h0;split at h
  ·exact h0 (aD (by assumption))
  ·exact h rfl
 ·rename_i hop;simp only at hop;subst hop;exact absurd rfl h
 ·rfl
theorem MV {ρ:Operand->GV} {op:Op} {σ σ':GS} {g:GV} (hk:eZ M op=1) (h:uR P ρ op σ=some (g,σ')):
  σ'=σ/\∀τ:GS,(∀r,jG ρ op=some r->τ.objs[r]?=σ.objs[r]?)->uR P ρ op τ=some (g,τ):=by
 have mp:∀{x:Option GV} {q:GV×GS},x.map (fun v=>(v,σ))=some q->x=some q.1/\q.2=σ:=fun hx=>by
  rw[aH] at hx;obtain⟨a,rfl,rfl⟩:=hx;exact⟨rfl,rfl⟩
 cases op
 case load t a=>
  simp only[uR,iT,sS] at h⊢;obtain⟨h1,h2⟩:=mp h;refine⟨h2,fun τ hτ=>?_⟩;have e:pO P t (ρ a) τ=pO P t (ρ a) σ:=by
   unfold pO;split
   ·rename_i r off ha;rw[hτ r (by simp[jG,ha])]
   ·rename_i r off _ _ _ ha;rw[hτ r (by simp[jG,ha])]
   ·rfl
   ·rfl
   ·rfl
  rw[e,h1];rfl
 case lookup t m k ok=>
  simp only[uR,iT,sS] at h⊢;obtain⟨h1,h2⟩:=mp h;refine⟨h2,fun τ hτ=>?_⟩;have e:sU P t (ρ m) (ρ k) ok τ=sU P t (ρ m) (ρ k) ok σ:=by
   have hm:∀r,ρ m=.mp r->τ.objs[r]?=σ.objs[r]?:=fun r hr=>hτ r (by simp[jG,hr]);unfold sU;revert hm;generalize ρ m=m';intro hm;cases m' with
   |mp r=>simp only[hm r rfl]
   |o v=>cases v<;>first|rfl|(rename_i x;cases x<;>rfl)
   |_=>rfl
  rw[e,h1];rfl
 case call c=>
  obtain⟨callee,args,ts⟩:=c;cases callee with
  |builtin b=>
   cases b with
   |len=>
    simp only[uR,iT,sS] at h⊢;have ht:jG ρ (.call {callee:=.builtin .len,args,argTypes:=ts})=match args.toList.map ρ with
     |[.mp r]=>some r
     |_=>none:=rfl
    rw[ht] at*;revert h;generalize args.toList.map ρ=xs;intro h;unfold nP at h⊢;split at h
    ·rename_i t x _ _;obtain⟨h1,h2⟩:=mp h;refine⟨h2,fun τ hτ=>?_⟩;have e:F6 P t x τ=F6 P t x σ:=by
      unfold F6;cases x with
      |mp r=>simp only[hτ r rfl]
      |o v=>cases v<;>first|rfl|(rename_i x;cases x<;>rfl)
      |_=>rfl
     rw[e,h1];rfl
    all_goals first
     |contradiction
     |(cases h;done)
   |_=>simp[eZ,dF] at hk
  |value f=>
   simp only[eZ] at hk;split at hk<;>cases hk
  |invoke r m=>simp[eZ,dF] at hk
 all_goals (exfalso;simp only[eZ] at hk;(repeat' split at hk)<;>first|(cases hk;done)|(simp_all;done))
theorem K0 {ρ:Operand->GV} {op:Op} {σ σ':GS} {g:GV} (hk:eZ M op=2) (h:uR P ρ op σ=some (g,σ')):
  ∃r x y,jG ρ op=some r/\σ.lo<=r/\σ.objs[r]?=some y/\y≠ .held/\σ'=gset σ r x/\∀τ:GS,τ.lo=σ.lo->τ.objs[r]?=σ.objs[r]?->uR P ρ op τ=some (g,gset τ r x):=by
 have mu:∀{x:Option GS} {q:GV×GS},x.map (fun s=>(GV.any,s))=some q->x=some q.2/\q.1=.any:=fun hx=>by
  rw[aH] at hx;obtain⟨a,rfl,rfl⟩:=hx;exact⟨rfl,rfl⟩
 have up:∀{t:TypeId} {m k v:GV},l7 P t m k v σ=some σ'->∃r x y,m=.mp r/\σ.lo<=r/\σ.objs[r]?=some y/\y≠ .held/\σ'=gset σ r x/\
   ∀τ:GS,τ.lo=σ.lo->τ.objs[r]?=σ.objs[r]?->l7 P t m k v τ=some (gset τ r x):=by
  intro t m k v hg;unfold l7 at hg;split at hg
  ·rename_i r;split at hg
   ·rename_i kt et hmt;split at hg
    ·rename_i d es hd ho;split at hg
     ·rename_i hc;simp only[aF,aJ] at hc;have fin:∀{x:GObj},(∀τ:GS,τ.lo=σ.lo->τ.objs[r]?=σ.objs[r]?->l7 P t (.mp r) k v τ=some (gset τ r x))->σ'=gset σ r x->∃r' x y,GV.mp r=.mp r'/\σ.lo<=r'/\σ.objs[r']?=some y/\y≠ .held/\σ'=gset σ r' x/\
        ∀τ:GS,τ.lo=σ.lo->τ.objs[r']?=σ.objs[r']?->l7 P t (.mp r) k v τ=some (gset τ r' x):=fun h1 h2=>
       ⟨r,_,_,rfl,hc.1,ho,by simp,h2,h1⟩
      split at hg
      ·rename_i i x hf;cases hg;refine fin (x:=.mp (es.set i (k,v))) (fun τ h1 h2=>?_) rfl;unfold l7;simp only[hmt,hd,h2,ho,h1,hf];rw[aD (by simpa using hc)]
      ·rename_i hf;cases hg;refine fin (x:=.mp (es++[(k,v)])) (fun τ h1 h2=>?_) rfl;unfold l7;simp only[hmt,hd,h2,ho,h1,hf];rw[aD (by simpa using hc)]
      ·cases hg
     ·cases hg
    ·cases hg
   ·cases hg
  ·cases hg
 cases op
 case store t a v=>
  simp only[uR,iT,sS] at h⊢;obtain⟨h1,h2⟩:=mu h;simp only at h1 h2;subst h2;have fin:∀{r off:Nat} {g:GV},jG ρ (.store t a v)=some r->kS P t r off g σ=some σ'->∃r x y,jG ρ (.store t a v)=some r/\σ.lo<=r/\σ.objs[r]?=some y/\y≠ .held/\σ'=gset σ r x/\
    ∀τ:GS,τ.lo=σ.lo->τ.objs[r]?=σ.objs[r]?->kS P t r off g τ=some (gset τ r x):=fun hr h1=>by
   unfold kS at h1;split at h1
   ·rename_i cs ho;split at h1
    ·rename_i hc;have hc':=hc;simp only[aF,aJ] at hc';refine⟨_,_,_,hr,hc'.1.1.1,ho,by simp,(bA h1).symm,fun τ h3 h4=>?_⟩;unfold kS;simp only[h4,ho,h3];rw[aD hc]
    ·cases h1
   ·cases h1
  unfold sE at h1;split at h1
  ·rename_i r off ha;have hr:jG ρ (.store t a v)=some r:=by simp[jG,ha]
   obtain⟨r',x,y,g1,g2,g3,g4,g5,g6⟩:=fin hr h1;rw[hr] at g1;cases g1;exact⟨r,x,y,hr,g2,g3,g4,g5,fun τ h3 h4=>by unfold sE;simp only[ha];rw[g6 τ h3 h4];rfl⟩
  ·rename_i r off e _ _ ha;have hr:jG ρ (.store t a v)=some r:=by simp[jG,ha]
   split at h1
   ·rename_i he;obtain⟨r',x,y,g1,g2,g3,g4,g5,g6⟩:=fin hr h1;rw[hr] at g1;cases g1;exact⟨r,x,y,hr,g2,g3,g4,g5,fun τ h3 h4=>by unfold sE;simp only[ha];rw[aD he,g6 τ h3 h4];rfl⟩
   ·cases h1
  ·cases h1
 case mapUpdate t m k v=>
  simp only[uR,iT,sS] at h⊢;obtain⟨h1,h2⟩:=mu h;simp only at h1 h2;subst h2;obtain⟨r,x,y,e,h3,h4,h5,h6,h7⟩:=up h1;exact⟨r,x,y,by simp[jG,e],h3,h4,h5,h6,fun τ h8 h9=>by rw[h7 τ h8 h9];rfl⟩
 case insert t m k v=>
  simp only[uR,iT,sS] at h⊢;obtain⟨h1,h2⟩:=mu h;simp only at h1 h2;subst h2;obtain⟨r,x,y,e,h3,h4,h5,h6,h7⟩:=up h1;exact⟨r,x,y,by simp[jG,e],h3,h4,h5,h6,fun τ h8 h9=>by rw[h7 τ h8 h9];rfl⟩
 case call c=>
  exfalso;obtain⟨callee,args,ts⟩:=c;simp only[eZ] at hk
  (repeat' split at hk)<;>first|(cases hk;done)|(simp_all;done)
 all_goals (exfalso;simp only[eZ] at hk;(repeat' split at hk)<;>first|(cases hk;done)|(simp_all;done))
structure Trace2 (P:Program) (M:FuncId->Bool) (B:Nat->Bool) (call:Nat->fQ) (T:Nat->Option Nat) (Mk:Nat->List Nat) (n:Nat) (ops:Array Oper) (Φ:Nat->Fr) (S:Nat->GS) (G:Nat->GV):Prop where
 step:∀(i:Nat) o,ops[i]?=some o->(o.dst.all fun d=>decide (d<n))=true/\Φ (i+1)=iV (Φ i) o.dst (G i)/\
  ((cM ops o (Φ i)=some false/\G i=.tup []/\S (i+1)=S i)∨(cM ops o (Φ i)=some true/\B i=false/\pL P M (call i) T Mk i o (Φ i) (S i)=some (G i,S (i+1)))∨
   (cM ops o (Φ i)=some true/\B i=true/\S (i+1)=S i/\∀τ:GS,τ.lo=(S i).lo->dN P (call i) o (dE (Φ i)) τ=some (.val (G i),τ)))
theorem LZ {T:Nat->Option Nat} {Mk:Nat->List Nat} {n:Nat} {ops:Array Oper}:∀(l:List Oper) (k:Nat) (φ φ':Fr) (σ σ':GS),(∀j:Nat,l[j]?=ops[k+j]?)->zY P M call T Mk n ops l k φ σ=some (φ',σ')->
  ∃(Φ:Nat->Fr) (S:Nat->GS) (G:Nat->GV),Φ k=φ/\S k=σ/\Φ (k+l.length)=φ'/\S (k+l.length)=σ'/\
   ∀(i:Nat) o,k<=i->ops[i]?=some o->(o.dst.all fun d=>decide (d<n))=true/\Φ (i+1)=iV (Φ i) o.dst (G i)/\
    ((cM ops o (Φ i)=some false/\G i=.tup []/\S (i+1)=S i)∨(cM ops o (Φ i)=some true/\pL P M call T Mk i o (Φ i) (S i)=some (G i,S (i+1))))
 |[],k,φ,φ',σ,σ',hl,hg=>by
  cases hg;refine⟨fun _=>φ,fun _=>σ,fun _=>.any,rfl,rfl,rfl,rfl,fun i o hi ho=>?_⟩;have:=hl (i - k);rw[show k+(i - k)=i by omega,ho] at this;simp at this
 |o::l,k,φ,φ',σ,σ',hl,hg=>by
  have ho:ops[k]?=some o:=by have:=hl 0;simpa using this.symm
  simp only[zY] at hg;split at hg
  ·rename_i hd;have go:∀(g:GV) (σ1:GS),zY P M call T Mk n ops l (k+1) (iV φ o.dst g) σ1=some (φ',σ')->
     ((cM ops o φ=some false/\g=.tup []/\σ1=σ)∨(cM ops o φ=some true/\pL P M call T Mk k o φ σ=some (g,σ1)))->
     ∃(Φ:Nat->Fr) (S:Nat->GS) (G:Nat->GV),Φ k=φ/\S k=σ/\Φ (k+(o::l).length)=φ'/\S (k+(o::l).length)=σ'/\
      ∀(i:Nat) o,k<=i->ops[i]?=some o->(o.dst.all fun d=>decide (d<n))=true/\Φ (i+1)=iV (Φ i) o.dst (G i)/\
       ((cM ops o (Φ i)=some false/\G i=.tup []/\S (i+1)=S i)∨(cM ops o (Φ i)=some true/\pL P M call T Mk i o (Φ i) (S i)=some (G i,S (i+1)))):=by
    intro g σ1 hrest hstep;obtain⟨Φ,S,G,e1,e2,e3,e4,e5⟩:=LZ l (k+1) _ φ' σ1 σ' (fun j=>by have:=hl (j+1);rw[show k+1+j=k+(j+1) by omega];simpa using this) hrest;refine⟨fun i=>if i=k then φ else Φ i,fun i=>if i=k then σ else S i,fun i=>if i=k then g else G i,aD rfl,aD rfl,?_,?_,fun i o' hi ho'=>?_⟩
    ·show(if k+(l.length+1)=k then φ else Φ (k+(l.length+1)))=φ';rw[aC (by omega),show k+(l.length+1)=k+1+l.length by omega];exact e3
    ·show(if k+(l.length+1)=k then σ else S (k+(l.length+1)))=σ';rw[aC (by omega),show k+(l.length+1)=k+1+l.length by omega];exact e4
    ·by_cases hik:i=k
     ·subst hik;rw[ho] at ho';cases ho';simp only[f7,aC (show i+1≠i by omega),e1,e2];exact⟨hd,trivial,hstep⟩
     ·simp only[aC hik,aC (show i+1≠k by omega)];exact e5 i o' (by omega) ho'
   split at hg
   ·rename_i hw;exact go (.tup []) σ hg (.inl ⟨hw,rfl,rfl⟩)
   ·rename_i hw;split at hg
    ·rename_i g σ1 hop;exact go g σ1 hg (.inr ⟨hw,hop⟩)
    ·cases hg
   ·cases hg
  ·cases hg
end
def uP (M:FuncId->Bool) (ops:Array Oper) (T:Nat->Option Nat) (Mk:Nat->List Nat) (i r:Nat):Bool:=
 match i7 M ops i with
 |2|3=>T i==some r
 |4=>!fT M ops i&&!(Mk i).contains r
 |_=>false
def obL (S:Nat->GS) (W:Nat->Nat->Bool) (L:Array Bool) (r:Nat):Nat->Option GObj
 |0=>(S 0).objs[r]?
 |k+1=>if L.getD k false&&W k r then(S (k+1)).objs[r]? else obL S W L r k
section
variable {P : Program} {call : Nat → fQ} {M : FuncId → Bool} {B : Nat → Bool} {w0 : World} {n : Nat} {ops : Array Oper} {Φ : Nat → Fr} {S : Nat → GS} {G : Nat → GV} {T : Nat → Option Nat} {Mk : Nat → List Nat}
theorem Trace2.put (R:Trace2 P M B call T Mk n ops Φ S G) (i:Nat) (hi:i<ops.size) (t:Nat):Φ (i+1) t=if kA ops i=some t then G i else Φ i t:=by
 have ho:ops[i]?=some (ops[i]'hi):=aP hi;rw[(R.step i _ ho).2.1,iQ,kA,ho,cH]
theorem HX (R:Trace2 P M B call T Mk n ops Φ S G) {L:Array Bool} {j t:Nat} (hw:∀i,i<ops.size->kA ops i=some t->(i<j->L.getD i false=true)/\(j<=i->L.getD i false=false)):
  ∀k,k<=ops.size->pR ops G (Φ 0) L k t=Φ (min k j) t
 |0,_=>by simp[pR]
 |k+1,hk=>by
  have ih:=HX R hw k (by omega);have hp:=R.put k (by omega) t;simp only[pR];by_cases hd:kA ops k=some t
  ·obtain⟨h1,h2⟩:=hw k (by omega) hd;by_cases hkj:k<j
   ·rw[h1 hkj,aD rfl,iQ,aD hd,show min (k+1) j=k+1 by omega,hp,aD hd]
   ·rw[h2 (by omega)];simp only[bX,fN];rw[ih,show min (k+1) j=min k j by omega]
  ·have e:(if L.getD k false=true then iV (pR ops G (Φ 0) L k) (kA ops k) (G k) else pR ops G (Φ 0) L k) t=pR ops G (Φ 0) L k t:=by
    split
    ·rw[iQ,aC hd]
    ·rfl
   rw[e,ih];by_cases hkj:k<j
   ·rw[show min (k+1) j=k+1 by omega,show min k j=k by omega,hp,aC hd]
   ·rw[show min (k+1) j=min k j by omega]
theorem OK {W:Nat->Nat->Bool} {L:Array Bool} {j r:Nat} (hstill:∀i,i<ops.size->W i r=false->(S (i+1)).objs[r]?=(S i).objs[r]?)
  (hw:∀i,i<ops.size->W i r=true->(i<j->L.getD i false=true)/\(j<=i->L.getD i false=false)):∀k,k<=ops.size->obL S W L r k=(S (min k j)).objs[r]?
 |0,_=>by simp[obL]
 |k+1,hk=>by
  have ih:=OK hstill hw k (by omega);simp only[obL];cases hW:W k r with
  |true=>
   obtain⟨h1,h2⟩:=hw k (by omega) hW;by_cases hkj:k<j
   ·rw[h1 hkj,show min (k+1) j=k+1 by omega];rfl
   ·rw[h2 (by omega)];simp only[Bool.false_and,bX,fN];rw[ih,show min (k+1) j=min k j by omega]
  |false=>
   simp only[iL,bX,fN];rw[ih];by_cases hkj:k<j
   ·rw[show min (k+1) j=k+1 by omega,show min k j=k by omega,hstill k (by omega) hW]
   ·rw[show min (k+1) j=min k j by omega]
theorem MK {W:Nat->Nat->Bool} {L L':Array Bool} {j r:Nat} (hL:∀i,i≠j->L'.getD i false=L.getD i false) (hd:W j r=false):∀k,obL S W L' r k=obL S W L r k
 |0=>rfl
 |k+1=>by
  simp only[obL];rw[MK hL hd k];by_cases hk:k=j
  ·subst hk;rw[hd];simp
  ·rw[hL k hk]
end
end
section
open Go.RowKit
variable [Globals]
section
variable {P : Program} {call : fQ} {M : FuncId → Bool} {B : Nat → Bool} {w0 : World} {n : Nat} {ops : Array Oper} {T : Nat → Option Nat} {Mk : Nat → List Nat}
theorem D8 {op:Op} (h:eZ M op=0):dF M op=0:=by
 unfold eZ at h;split at h<;>first
  |(cases h;done)
  |skip
 split at h
 ·assumption
 ·cases h
theorem zZ (hcall:cK P w0 call) {i:Nat} {o:Oper} {φ:Fr} {σ σ':GS} {g:GV} (ho:ops[i]?=some o) (hMk:∀r∈Mk i,r<σ.objs.length) (h:pL P M call T Mk i o φ σ=some (g,σ')):
  Keep σ σ'/\σ'.ds=σ.ds/\∀r,uP M ops T Mk i r=false->dS M call->σ'.objs[r]?=σ.objs[r]?:=by
 have hcl:i7 M ops i=eZ M o.op:=by unfold i7;rw[ho]
 unfold pL at h;split at h
 ·rename_i hk;obtain⟨e,_⟩:=yG (D8 hk) (oE h);subst e;exact⟨.refl _,rfl,fun _ _ _=>rfl⟩
 ·rename_i hk;split at h
  ·have h1:=oE h;rw[BA (M:=M) (by rw[hk];decide) (by rw[hk];decide) (by rw[hk];decide),aH] at h1;obtain⟨⟨g',s⟩,h2,e⟩:=h1;cases e;obtain⟨e,_⟩:=MV hk h2;subst e;exact⟨.refl _,rfl,fun _ _ _=>rfl⟩
  ·cases h
 ·rename_i hk;split at h
  ·rename_i hT;have h1:=oE h;rw[BA (M:=M) (by rw[hk];decide) (by rw[hk];decide) (by rw[hk];decide),aH] at h1;obtain⟨⟨g',s⟩,h2,e⟩:=h1;cases e;obtain⟨r,x,y,ht,hlo,hy,hne,rfl,_⟩:=K0 hk h2;refine⟨.gset σ x hlo hy hne,rfl,fun q hq hpu=>?_⟩;unfold uP at hq;rw[hcl,hk] at hq;have:q≠r:=fun e=>by subst e;rw[<-hT,ht] at hq;simp at hq
   show(σ.objs.set r x)[q]?=_;rw[dK (Ne.symm this)]
  ·cases h
 ·rename_i hk;split at h
  ·rename_i f r hf hT;split at h
   ·rename_i hfree;split at h
    ·rename_i hlo;cases h;refine⟨.gset σ _ hlo hfree (by simp),rfl,fun q hq hpu=>?_⟩;unfold uP at hq;rw[hcl,hk] at hq;have:q≠r:=fun e=>by subst e;rw[hT] at hq;simp at hq
     show(σ.objs.set r f.2)[q]?=_;rw[dK (Ne.symm this)]
    ·cases h
   ·cases h
  ·cases h
 ·rename_i hk4;split at h
  ·rename_i g' σ1 hg;cases h;have hop:=oE hg;have hkp:=uI hcall hop;have hds:=pM hcall hop;have held:∀r∈Mk i,σ1.objs[r]?=some .held:=fun r hr=>hkp.held r (by
    rw[oI,gL (hMk r hr)];simp only[dP];rw[aD (by simpa using hr)])
   have inM:∀r∈Mk i,(sR (Mk i) σ σ1).objs[r]?=σ.objs[r]?:=fun r hr=>by
    rw[rW,held r hr];simp only[dP];rw[aD (by simpa using hr),aO,gL (hMk r hr),jL]
   have notM:∀r,¬r∈Mk i->(sR (Mk i) σ σ1).objs[r]?=σ1.objs[r]?:=fun r hr=>by
    rw[rW];have:¬(Mk i).contains r=true:=by simpa using hr
    simp only[aC this,Option.map_id']
   have notM0:∀r,¬r∈Mk i->(pN (Mk i) σ).objs[r]?=σ.objs[r]?:=fun r hr=>by
    rw[oI];have:¬(Mk i).contains r=true:=by simpa using hr
    simp only[aC this,Option.map_id']
   refine⟨⟨hkp.lo,?_,fun hl r hr=>?_,fun r hr=>?_⟩,hds,fun r hr hpu=>?_⟩
   ·have:=hkp.len;rw[F3] at this;rw[GG];exact this
   ·by_cases hm:r∈Mk i
    ·exact inM r hm
    ·rw[notM r hm,hkp.old (by rw[F3];exact hl) r hr,notM0 r hm]
   ·by_cases hm:r∈Mk i
    ·rw[inM r hm];exact hr
    ·rw[notM r hm];exact hkp.held r (by rw[notM0 r hm];exact hr)
   ·unfold uP at hr;rw[hcl,hk4] at hr;by_cases hpa:fT M ops i=true
    ·have hkd:dF M o.op≠2:=by
      unfold fT at hpa;rw[ho] at hpa;simp only[aF,bne_iff_ne] at hpa;exact hpa.2
     have e:=oG hpu hkd hop;by_cases hm:r∈Mk i
     ·exact inM r hm
     ·rw[notM r hm,e,notM0 r hm]
    ·rw[Bool.not_eq_true] at hpa;rw[hpa] at hr;exact inM r (by simpa using hr)
  ·cases h
 ·cases h
theorem AR {A:List (List Nat)} {TL:List (Option Nat)} {N:Nat} (h:uU M B ops A TL N=true) {i j:Nat} {oi oj:Oper} (hi:ops[i]?=some oi) (hj:ops[j]?=some oj) (hij:i<j):
  i∈A.getD j []∨((B i=true∨B j=true∨vV (fT M ops i) (fT M ops j) (eZ M oi.op) (eZ M oj.op) (TL.getD i none) (TL.getD j none)=true)/\oi.apart ops oj=true):=by
 unfold uU at h;simp only[aF,aQ,f8] at h;have h1:=h.2 j (Array.getElem?_eq_some_iff.1 hj).1;simp only[hj,aF,aQ,f8] at h1;have h2:=h1.2 i hij;simpa only[hi,f6,aF,List.contains_iff_mem,or_assoc] using h2
theorem YM {A:List (List Nat)} {TL:List (Option Nat)} {N:Nat} (h:uU M B ops A TL N=true) {j:Nat} {oj:Oper} (hj:ops[j]?=some oj):∀e∈oj.after,Region.binds .any e=true->e.on<j:=by
 unfold uU at h;simp only[aF,aQ,f8] at h;have h1:=h.2 j (Array.getElem?_eq_some_iff.1 hj).1;simp only[hj,aF] at h1;intro e he hb;have h2:=(Array.all_eq_true'.1 h1.1.2) e he;simpa[hb] using h2
theorem TH {A:List (List Nat)} {TL:List (Option Nat)} {N:Nat} (h:uU M B ops A TL N=true) {i r:Nat} (hi:i<ops.size) (hr:TL.getD i none=some r):r<N∨(r=LF/\i7 M ops i=1):=by
 unfold uU at h;simp only[aF,aQ] at h;have h1:=h.1.1.1 i (by simpa using hi);rw[hr] at h1;simp only[f6,aF,aJ,dI] at h1;exact h1
theorem a5O {A:List (List Nat)} {TL:List (Option Nat)} {N:Nat} (h:uU M B ops A TL N=true):N<=LF:=by
 unfold uU at h;simp only[aF,aJ] at h;exact h.1.1.2
theorem a0V {A:List (List Nat)} {TL:List (Option Nat)} {N:Nat} (h:uU M B ops A TL N=true) {i:Nat} (hi:i<ops.size) (hb:B i=true):fT M ops i=true:=by
 unfold uU at h;simp only[aF,aQ] at h;have h1:=h.1.2 i (by simpa using hi);rw[hb] at h1;simpa using h1
theorem a74 {A:List (List Nat)} {TL:List (Option Nat)} {j r:Nat}:r∈pI M ops A TL j↔∃i,i<ops.size/\i≠j/\G9 A i j=true/\(bif fT M ops j then 2 else 1)<=i7 M ops i/\i7 M ops i<=3/\TL.getD i none=some r/\r≠LF:=by
 unfold pI;simp only[List.mem_filterMap,f8];constructor
 ·rintro⟨i,hi,h⟩;split at h
  ·rename_i hc;simp only[aF,bne_iff_ne,aJ] at hc;exact⟨i,hi,hc.1.1.1.1,hc.1.1.1.2,hc.1.1.2,hc.1.2,h,fun e=>hc.2 (by rw[h,e])⟩
  ·cases h
 ·rintro⟨i,hi,h1,h2,h3,h4,h5,h6⟩;exact⟨i,hi,by rw[aD (by rw[h5];simp[h1,h2,h3,h4,h6])];exact h5⟩
theorem XB {A:List (List Nat)} {TL:List (Option Nat)} {N i j r:Nat} (hw:uU M B ops A TL N=true) (hi:i<ops.size) (hj:j<ops.size) (hij:i≠j) (hl:G9 A i j=true) (hl':G9 A j i=true)
  (hok0:(B i=true∨B j=true∨vV (fT M ops i) (fT M ops j) (i7 M ops i) (i7 M ops j) (TL.getD i none) (TL.getD j none)=true)∨(B j=true∨B i=true∨vV (fT M ops j) (fT M ops i) (i7 M ops j) (i7 M ops i) (TL.getD j none) (TL.getD i none)=true))
  (hwi:uP M ops (fun i=>TL.getD i none) (pI M ops A TL) i r=true)
  (hwj:uP M ops (fun i=>TL.getD i none) (pI M ops A TL) j r=true∨(i7 M ops j=1/\(TL.getD j none=some r∨TL.getD j none=some LF))∨(fT M ops j=true/\B j=false/\¬r∈pI M ops A TL j)):False:=by
 have hwi':2<=i7 M ops i/\i7 M ops i<=4:=by
  unfold uP at hwi;split at hwi
  ·omega
  ·omega
  ·omega
  ·cases hwi
 have p4:∀{q:Nat},fT M ops q=true->i7 M ops q=4:=fun{q} h=>by
  unfold fT at h;unfold i7;split at h
  ·rename_i o ho;simp only[aF,dI] at h;exact h.1
  ·cases h
 have np:∀{q:Nat},i7 M ops q≠4->fT M ops q=false:=fun{q} h=>by
  cases hp:fT M ops q with
  |false=>rfl
  |true=>exact absurd (p4 hp) h
 have npi:fT M ops i=false:=by
  cases hp:fT M ops i with
  |false=>rfl
  |true=>
   have h4:=p4 hp;unfold uP at hwi;rw[h4,hp] at hwi;simp at hwi
 have hBi:B i=false:=by
  cases hb:B i with
  |false=>rfl
  |true=>have:=a0V hw hi hb;rw[npi] at this;cases this
 have hBj:B j=false:=by
  cases hb:B j with
  |false=>rfl
  |true=>
   have hp:=a0V hw hj hb;rcases hwj with h|⟨h,_⟩|⟨_,h,_⟩
   ·unfold uP at h;rw[p4 hp,hp] at h;simp at h
   ·rw[p4 hp] at h;omega
   ·rw[hb] at h;cases h
 have hok:vV (fT M ops i) (fT M ops j) (i7 M ops i) (i7 M ops j) (TL.getD i none) (TL.getD j none)=true∨vV (fT M ops j) (fT M ops i) (i7 M ops j) (i7 M ops i) (TL.getD j none) (TL.getD i none)=true:=by
  rw[hBi,hBj] at hok0;rcases hok0 with(h|h|h)|(h|h|h)<;>first|(cases h;done)|exact .inl h|exact .inr h
 replace hwj:uP M ops (fun i=>TL.getD i none) (pI M ops A TL) j r=true∨(i7 M ops j=1/\(TL.getD j none=some r∨TL.getD j none=some LF))∨(fT M ops j=true/\¬r∈pI M ops A TL j):=hwj.imp id (fun h=>h.imp id fun h=>⟨h.1,h.2.2⟩);have nounk:i7 M ops j=1->TL.getD j none≠some LF:=fun h1 h2=>by
  rcases hok with hok|hok<;>rw[h1,h2,npi] at hok<;>simp only[vV,aF,f6,eL,aJ] at hok
  ·rcases hok.2 with(h3|h3)|h3
   ·simp at h3
   ·omega
   ·cases h3
  ·rcases hok.1.2 with(h3|h3)|h3
   ·simp at h3
   ·omega
   ·cases h3
 replace hwj:uP M ops (fun i=>TL.getD i none) (pI M ops A TL) j r=true∨(i7 M ops j=1/\TL.getD j none=some r)∨(fT M ops j=true/\¬r∈pI M ops A TL j):=by
  rcases hwj with h|⟨h1,h2|h2⟩|h
  ·exact .inl h
  ·exact .inr (.inl ⟨h1,h2⟩)
  ·exact absurd h2 (nounk h1)
  ·exact .inr (.inr h)
 have ne:∀q,q<ops.size->i7 M ops q≠1->TL.getD q none=some r->r≠LF:=fun q hq h1 h2=>by
  have:=a5O hw;rcases TH hw hq h2 with h3|⟨_,h3⟩
  ·omega
  ·exact absurd h3 h1
 have inMi:fT M ops i=false->1<=i7 M ops j->i7 M ops j<=3->TL.getD j none=some r->r∈pI M ops A TL i:=fun h0 h1 h2 h3=>a74.2 ⟨j,hj,Ne.symm hij,hl',by rw[h0];exact h1,h2,h3,fun e=>by
  by_cases h4:i7 M ops j=1
  ·exact nounk h4 (by rw[h3,e])
  ·exact ne j hj h4 h3 e⟩
 have inMj:1<=i7 M ops i->i7 M ops i<=3->TL.getD i none=some r->r∈pI M ops A TL j:=fun h1 h2 h3=>a74.2 ⟨i,hi,hij,hl,(by cases fT M ops j<;>simp only[cond_true,cond_false]<;>omega),h2,h3,ne i hi (by omega) h3⟩;have tj:i7 M ops j≠4->(1<=i7 M ops j/\i7 M ops j<=3)/\TL.getD j none=some r:=fun h4=>by
  rcases hwj with hwj|⟨h1,h2⟩|⟨h1,_⟩
  rotate_right
  ·exact absurd (p4 h1) h4
  ·unfold uP at hwj;split at hwj
   ·rename_i h;exact⟨by omega,by simpa using hwj⟩
   ·rename_i h;exact⟨by omega,by simpa using hwj⟩
   ·rename_i h;exact absurd h h4
   ·cases hwj
  ·exact⟨by omega,h2⟩
 unfold uP at hwi;split at hwi
 ·rename_i hc;have hti:TL.getD i none=some r:=by simpa using hwi
  by_cases h4:i7 M ops j=4
  ·have hm:=inMj (by omega) (by omega) hti;rcases hwj with hwj|⟨h1,_⟩|⟨_,h1⟩
   ·unfold uP at hwj;rw[h4] at hwj;simp[hm] at hwj
   ·omega
   ·exact h1 hm
  ·obtain⟨⟨h1,h2⟩,h3⟩:=tj h4;rcases hok with hok|hok<;>rw[hti,h3,hc] at hok<;>(generalize i7 M ops j=c at*;have:c=1∨c=2∨c=3:=by omega)<;>rcases this with rfl|rfl|rfl<;>simp[vV] at hok
 ·rename_i hc;have hti:TL.getD i none=some r:=by simpa using hwi
  by_cases h4:i7 M ops j=4
  ·have hm:=inMj (by omega) (by omega) hti;rcases hwj with hwj|⟨h1,_⟩|⟨_,h1⟩
   ·unfold uP at hwj;rw[h4] at hwj;simp[hm] at hwj
   ·omega
   ·exact h1 hm
  ·obtain⟨⟨h1,h2⟩,h3⟩:=tj h4;rcases hok with hok|hok<;>rw[hti,h3,hc] at hok<;>(generalize i7 M ops j=c at*;have:c=1∨c=2∨c=3:=by omega)<;>rcases this with rfl|rfl|rfl<;>simp[vV] at hok
 ·rename_i hc;by_cases h4:i7 M ops j=4
  ·rcases hok with hok|hok<;>rw[hc,h4,npi] at hok<;>simp[vV] at hok
  ·obtain⟨⟨h1,h2⟩,h3⟩:=tj h4;simp only[aF,eL] at hwi;have hm:=inMi hwi.1 h1 h2 h3;have:=hwi.2;simp[hm] at this
 ·cases hwi
theorem Rel.frees {C:Cx} {σ:GS} {w:World} (h:Rel C σ w0 w):∀k:Nat,Rel C {σ with objs:=σ.objs++List.replicate k .free} w0 w:=fun k=>by
 refine⟨h.below,h.fxc,fun r x hx=>?_,fun r hr=>h.dom r (by simp at hr;omega),h.new,h.inj,h.sepB,h.sepO,h.fxn,h.gl,h.gs⟩;have hx':(σ.objs++List.replicate k GObj.free)[r]?=some x:=hx;by_cases hr:r<σ.objs.length
 ·rw[b7 hr] at hx';exact h.obj r x hx'
 ·rw[cJ (by omega),List.getElem?_replicate] at hx';split at hx'
  ·cases hx';exact h.dom r (by omega)
  ·cases hx'
end
end
section
open Go.RowKit
variable [Globals]
section
variable {P : Program} {call : fQ} {M : FuncId → Bool} {B : Nat → Bool} {w0 : World} {n : Nat} {ops : Array Oper}
theorem GR {call:Nat->fQ} (hm:P.follows .mixedOrders=true) (hcall:∀i,cK P w0 (call i)) (hpure:∀i,dS M (call i)) {ro:Option Nat} {C:Cx} {φ φ':Fr} {σ0 σ':GS} {id:Nat} {Q:Exit->Act->World->Prop} {a:Act} {w:World} {ds:List GDef}
  {A:List (List Nat)} {TL:List (Option Nat)} {Φ:Nat->Fr} {S:Nat->GS} {G:Nat->GV}
  (hA:sH ops.toList []=A) (hwild:uU M B ops A TL σ0.objs.length=true) (R:Trace2 P M B call (fun i=>TL.getD i none) (pI M ops A TL) n ops Φ S G)
  (e1:Φ 0=φ) (e2:S 0=σ0) (e3:Φ ops.size=φ') (e4:S ops.size=σ') (hds0:σ0.ds=ds)
  (hr0:Rel C σ0 w0 w) (hf:FRel C φ a) (hn:a.tmps.size=n) (hd0:DRel C ds a.defers) (hq:QOk w0 C Q n .normal φ' σ'):(Code.region id ops true).wpIn (FW ro) 0 P Q a w:=by
 let T:Nat->Option Nat:=fun i=>TL.getD i none;let Mk:Nat->List Nat:=pI M ops A TL;replace R:Trace2 P M B call T Mk n ops Φ S G:=R;let W:Nat->Nat->Bool:=uP M ops T Mk;have hMkN:∀i,∀r∈Mk i,r<σ0.objs.length:=fun i r hr=>by
  obtain⟨j,hj,_,_,_,_,h,hne⟩:=a74.1 hr;exact(TH hwild hj h).resolve_right (fun h=>hne h.1)
 have opAt:∀i,i<ops.size->ops[i]?=some (ops[i]!):=fun i hi=>by
  rw[aP hi,getElem!_pos ops i hi]
 have keepS:∀k,k<=ops.size->Keep (S 0) (S k)/\(S k).ds=(S 0).ds:=fun k=>by
  induction k with
  |zero=>intro _;exact⟨.refl _,rfl⟩
  |succ k ih=>
   intro hk;obtain⟨h1,h2⟩:=ih (by omega);rcases(R.step k _ (opAt k (by omega))).2.2 with⟨_,_,h⟩|⟨_,_,h⟩|⟨_,_,h,_⟩
   ·rw[h];exact⟨h1,h2⟩
   rotate_left
   ·rw[h];exact⟨h1,h2⟩
   ·obtain⟨h3,h4,_⟩:=zZ (hcall _) (opAt k (by omega)) (fun r hr=>cI (hMkN k r hr) (by rw[<-e2];exact h1.len)) h;exact⟨h1.trans h3,h4.trans h2⟩
 have lenS:∀k,k<=ops.size->σ0.objs.length<=(S k).objs.length:=fun k hk=>by rw[<-e2];exact(keepS k hk).1.len
 have facts:∀i o,ops[i]?=some o->∀g σ',pL P M (call i) T Mk i o (Φ i) (S i)=some (g,σ')->Keep (S i) σ'/\σ'.ds=(S i).ds/\∀r,W i r=false->σ'.objs[r]?=(S i).objs[r]?:=fun i o ho g σ' h=>by
  have hi:=(Array.getElem?_eq_some_iff.1 ho).1;obtain⟨f1,f2,f3⟩:=zZ (hcall _) ho (fun r hr=>cI (hMkN i r hr) (lenS i (by omega))) h;exact⟨f1,f2,fun r hr=>f3 r hr (hpure i)⟩
 have hstill:∀r i,i<ops.size->W i r=false->(S (i+1)).objs[r]?=(S i).objs[r]?:=fun r i hi hw=>by
  rcases(R.step i _ (opAt i hi)).2.2 with⟨_,_,h⟩|⟨_,_,h⟩|⟨_,_,h,_⟩
  ·rw[h]
  rotate_left
  ·rw[h]
  ·exact(facts i _ (opAt i hi) _ _ h).2.2 r hw
 have ahead:∀(L:Array Bool),sI ops L->∀(i j:Nat) oi oj,ops[i]?=some oi->ops[j]?=some oj->i<j->i∈A.getD j []->
   ((∀e∈oj.after,Region.binds .any e=true->L.getD e.on false=true)->L.getD i false=true)/\(L.getD i false=false->L.getD j false=false):=fun L hc i j oi oj hi hj hij hanc=>by
  rw[<-hA] at hanc;refine⟨fun hready=>xK hc j oj hj hready i hanc,fun hni=>?_⟩;cases hjl:L.getD j false with
  |false=>rfl
  |true=>
   have:=xK hc j oj hj (fun e he hb=>hc j oj hj hjl e he hb) i hanc;rw[hni] at this;cases this
 have clsO:∀{i o},ops[i]?=some o->i7 M ops i=eZ M o.op:=fun ho=>by unfold i7;rw[ho]
 have order:∀(L:Array Bool),sI ops L->∀(j:Nat) oj,ops[j]?=some oj->L.getD j false=false->(∀e∈oj.after,Region.binds .any e=true->L.getD e.on false=true)->
   ∀r,(W j r=true∨(i7 M ops j=1/\(T j=some r∨T j=some LF))∨(fT M ops j=true/\B j=false/\¬r∈Mk j))->∀i,i<ops.size->W i r=true->(i<j->L.getD i false=true)/\(j<=i->L.getD i false=false):=fun L hc j oj hj hjn hready r hjr i hi hwi=>by
  have hoi:=opAt i hi;have hjs:=(Array.getElem?_eq_some_iff.1 hj).1;refine⟨fun hij=>?_,fun hij=>?_⟩
  ·rcases AR hwild hoi hj hij with h1|⟨h1,_⟩
   ·exact(ahead L hc i j _ _ hoi hj hij h1).1 hready
   ·by_cases hl:i∈A.getD j []
    ·exact(ahead L hc i j _ _ hoi hj hij hl).1 hready
    ·rw[<-clsO hoi,<-clsO hj] at h1;exact(XB hwild hi hjs (by omega) (by unfold G9;rw[aD hij];simpa using hl) (by unfold G9;rw[aC (by omega)];simpa using hl) (.inl h1) hwi hjr).elim
  ·by_cases hij2:i=j
   ·subst hij2;exact hjn
   ·rcases AR hwild hj hoi (show j<i by omega) with h1|⟨h1,_⟩
    ·exact(ahead L hc j i _ _ hj hoi (by omega) h1).2 hjn
    ·by_cases hl:j∈A.getD i []
     ·exact(ahead L hc j i _ _ hj hoi (by omega) hl).2 hjn
     ·rw[<-clsO hoi,<-clsO hj] at h1;exact(XB hwild hi hjs (by omega) (by unfold G9;rw[aC (by omega)];simpa using hl) (by unfold G9;rw[aD (by omega)];simpa using hl) (.inr h1) hwi hjr).elim
 have someL:∀(L:Array Bool) r,r<σ0.objs.length->∀k,k<=ops.size->∃y,obL S W L r k=some y:=fun L r hr k=>by
  induction k with
  |zero=>intro _;exact⟨_,gL (by rw[e2];exact hr)⟩
  |succ k ih=>
   intro hk;simp only[obL];split
   ·exact⟨_,gL (cI hr (lenS (k+1) hk))⟩
   ·exact ih (by omega)
 let HeapIs:GS->Array Bool->Prop:=fun τ L=>(∀r,τ.objs[r]?=obL S W L r ops.size)/\τ.lo=σ0.lo/\τ.ds=σ0.ds;have final:∀(L:Array Bool) τ,(∀i,i<ops.size->L.getD i false=true)->HeapIs τ L->τ=σ':=fun L τ hall hh=>by
  obtain⟨h1,h2,h3⟩:=hh;have ho:τ.objs=σ'.objs:=eK fun r=>by
   rw[h1 r,OK (j:=ops.size) (hstill r) (fun i hi _=>⟨fun _=>hall i hi,fun h=>by omega⟩) ops.size (rL _),Nat.min_self,e4]
  obtain⟨k1,k2⟩:=keepS ops.size (rL _);rw[e4,e2] at k1 k2;cases τ;cases σ';simp only at ho h2 h3 k2;have hlo:=k1.lo;simp only at hlo;simp only[GS.mk.injEq];exact⟨ho,h2.trans hlo.symm,h3.trans k2.symm⟩
 have finalF:∀(L:Array Bool),(∀i,i<ops.size->L.getD i false=true)->pR ops G (Φ 0) L ops.size=φ':=fun L hall=>by
  funext t;rw[HX R (j:=ops.size) (fun i hi _=>⟨fun _=>hall i hi,fun h=>by omega⟩) ops.size (rL _),Nat.min_self,e3]
 have hdsF:σ'.ds=ds:=by
  have:=(keepS ops.size (rL _)).2;rw[e4,e2,hds0] at this;exact this
 have key:∀(fuel:Nat) (L:Array Bool) (D:Cx) (a':Act) (w':World) (τ:GS),L.size=ops.size->sI ops L->w8 L ops.size<=fuel->C.le D->HeapIs τ L->Rel D τ w0 w'->
   FRel D (pR ops G (Φ 0) L ops.size) a'->a'.tmps.size=n->a'.defers=a.defers->wpAnyIn (FW ro) 0 P .any ops Q fuel L a' w':=by
  intro fuel;induction fuel with
  |zero=>
   intro L D a' w' τ hLs hc hcnt hl hheap hrel hfr hna hda;have hall:=BH (L:=L) ops.size (by omega);have hend:Region.ready .any ops L=[]:=by
    apply List.eq_nil_iff_forall_not_mem.2;intro j hj;obtain⟨hj0,o,ho,_⟩:=mem_ready.1 hj;have hjs:=(Array.getElem?_eq_some_iff.1 ho).1;have:=hall j hjs;rw[aX] at this hj0;cases hx:L[j]? with
    |none=>rw[hx] at this;simp at this
    |some b=>rw[hx] at this hj0;simp at this hj0;rw[this] at hj0;cases hj0
   have:=final L τ hall hheap;subst this;rw[finalF L hall] at hfr;exact⟨hend,hq D a' w' hl hfr hna (by rw[hda,hdsF];exact hd0.mono hl) hrel⟩
  |succ fuel ih=>
   intro L D a' w' τ hLs hc hcnt hl hheap hrel hfr hna hda;refine⟨fun hend=>?_,fun j hj=>?_⟩
   ·
    have hall:∀i,i<ops.size->L.getD i false=true:=by
     intro i;induction i using Nat.strongRecOn with
     |_ i ihi=>
      intro hi;cases hb:L.getD i false with
      |true=>rfl
      |false=>
       have ho:ops[i]?=some (ops[i]'hi):=aP hi;have:i∈Region.ready .any ops L:=mem_ready.2 ⟨by
        rw[aX] at hb⊢;rw[aP (by omega:i<L.size)] at hb⊢;simpa using hb,_,ho,fun e he hbe=>by
         have:=YM hwild ho e he hbe;exact ihi e.on this (by omega)⟩
       rw[hend] at this;cases this
    have:=final L τ hall hheap;subst this;rw[finalF L hall] at hfr;exact hq D a' w' hl hfr hna (by rw[hda,hdsF];exact hd0.mono hl) hrel
   ·obtain⟨hj0,o,ho,hready⟩:=mem_ready.1 hj;have hjs:=(Array.getElem?_eq_some_iff.1 ho).1;have hjn:L.getD j false=false:=by
     rw[aX] at hj0⊢;rw[aP (by omega:j<L.size)] at hj0⊢;simpa using hj0
    let L':=L.setIfInBounds j true;have hL'o:∀i,i≠j->L'.getD i false=L.getD i false:=fun i hi=>getD_set_ne false (Ne.symm hi);have hL'j:L'.getD j false=true:=by
     simp[L',aX,show j<L.size by omega]
    have hc':sI ops L':=fun k ok hk hkl e he hb=>by
     by_cases hkj:k=j
     ·subst hkj;rw[ho] at hk;cases hk;exact getD_set_true (hready e he hb)
     ·rw[hL'o k hkj] at hkl;exact getD_set_true (hc k ok hk hkl e he hb)
    have hcnt':w8 L' ops.size<=fuel:=by
     have:=(DV hL'o hL'j hjn ops.size).2 hjs;omega
    obtain⟨hh1,hh2,hh3⟩:=hheap;have hord:=order L hc j o ho hjn hready;have loS:(S j).lo=σ0.lo:=by rw[(keepS j (by omega)).1.lo,e2]
    have dsS:(S j).ds=σ0.ds:=by rw[(keepS j (by omega)).2,e2]
    have hmeet:∀r,(W j r=true∨(i7 M ops j=1/\(T j=some r∨T j=some LF))∨(fT M ops j=true/\B j=false/\¬r∈Mk j))->τ.objs[r]?=(S j).objs[r]?:=fun r hjr=>by
     rw[hh1 r,OK (j:=j) (hstill r) (hord r hjr) ops.size (rL _),show min ops.size j=j by omega]
    have names:∀t,(t∈o.looksAt ops∨o.dst=some t)->∀i,i<ops.size->kA ops i=some t->(i<j->L.getD i false=true)/\(j<=i->L.getD i false=false):=fun t ht i hi hd=>by
     have hoi:ops[i]?=some (ops[i]'hi):=aP hi;have hdi:(ops[i]'hi).dst=some t:=by rw[kA,hoi,cH] at hd;exact hd
     refine⟨fun hij=>?_,fun hij=>?_⟩
     ·rcases AR hwild hoi ho hij with h1|⟨_,h1⟩
      ·exact(ahead L hc i j _ _ hoi ho hij h1).1 hready
      ·obtain⟨a1,a2,a3⟩:=Oper.apart_spec h1;rcases ht with ht|ht
       ·exact absurd ht (a1 t hdi)
       ·exact absurd ht (a2 t hdi)
     ·by_cases hij2:i=j
      ·subst hij2;exact hjn
      ·rcases AR hwild ho hoi (show j<i by omega) with h1|⟨_,h1⟩
       ·exact(ahead L hc j i _ _ ho hoi (by omega) h1).2 hjn
       ·obtain⟨a1,a2,a3⟩:=Oper.apart_spec h1;rcases ht with ht|ht
        ·exact absurd ht (a3 t hdi)
        ·exact absurd hdi (a2 t ht)
    have hframe:∀t,(t∈o.looksAt ops∨o.dst=some t)->pR ops G (Φ 0) L ops.size t=Φ j t:=fun t ht=>by
     rw[HX R (names t ht) ops.size (rL _),show min ops.size j=j by omega]
    have hnewframe:∀t,pR ops G (Φ 0) L' ops.size t=if o.dst=some t then G j else pR ops G (Φ 0) L ops.size t:=fun t=>by
     by_cases hd:o.dst=some t
     ·rw[aD hd,HX R (j:=j+1) (fun i hi hdi=>?_) ops.size (rL _),show min ops.size (j+1)=j+1 by omega,R.put j hjs t,kA,ho,cH,aD hd];obtain⟨h1,h2⟩:=names t (.inr hd) i hi hdi;refine⟨fun hij=>?_,fun hij=>?_⟩
      ·by_cases hij2:i=j
       ·subst hij2;exact hL'j
       ·rw[hL'o i hij2];exact h1 (by omega)
      ·rw[hL'o i (by omega)];exact h2 (by omega)
     ·rw[aC hd];exact xA hL'o (by rw[kA,ho,cH];exact hd) _
    have next:∀(E:Cx) (v:Value) (w'':World) (τ':GS),D.le E->τ'.lo=σ0.lo->τ'.ds=σ0.ds->(∀r,τ'.objs[r]?=if W j r=true then(S (j+1)).objs[r]? else τ.objs[r]?)->Rel E τ' w0 w''->VR E (G j) v->
      wpAnyIn (FW ro) 0 P .any ops Q fuel L' (a'.put o.dst v) w'':=fun E v w'' τ' hE hlo' hds' hobj hrelE hv=>by
     obtain⟨p1,p2,p3⟩:=(hfr.mono hE).put hv hna (R.step j o ho).1;refine ih L' E _ w'' τ' (by simp[L',hLs]) hc' hcnt' (hl.trans hE) ⟨fun r=>?_,hlo',hds'⟩ hrelE (fun t=>?_) p2 (p3.trans hda)
     ·rw[hobj r];split
      ·rename_i hw;rw[OK (j:=j+1) (hstill r) (fun i hi hwi=>?_) ops.size (rL _),show min ops.size (j+1)=j+1 by omega];obtain⟨h1,h2⟩:=hord r (.inl hw) i hi hwi;refine⟨fun hij=>?_,fun hij=>?_⟩
       ·by_cases hij2:i=j
        ·subst hij2;exact hL'j
        ·rw[hL'o i hij2];exact h1 (by omega)
       ·rw[hL'o i (by omega)];exact h2 (by omega)
      ·rename_i hw;rw[MK hL'o (by simpa using hw),hh1 r]
     ·rw[hnewframe t];have:=p1 t;rw[iQ] at this;exact this
    have same:∀(h:(S (j+1))=S j) (E:Cx) (v:Value) (w'':World),D.le E->Rel E τ w0 w''->VR E (G j) v->wpAnyIn (FW ro) 0 P .any ops Q fuel L' (a'.put o.dst v) w'':=fun h E v w'' hE hrelE hv=>
     next E v w'' τ hE hh2 hh3 (fun r=>by
      split
      ·rename_i hw;rw[h];exact hmeet r (.inl hw)
      ·rfl) hrelE hv
    have hwant:cM ops o (pR ops G (Φ 0) L ops.size)=cM ops o (Φ j):=by
     unfold cM;cases hgd:o.guard with
     |none=>rfl
     |some gw=>
      obtain⟨k,want⟩:=gw;simp only;congr 1;unfold CE;cases hdk:(ops[k]?).bind (·.dst) with
      |none=>rfl
      |some d=>
       simp only;rw[hframe d (.inl (by simp[Oper.looksAt,hgd,hdk]))]
    have hops:∀x∈o.op.operands,dE (pR ops G (Φ 0) L ops.size) x=dE (Φ j) x:=fun x hx=>by
     cases x with
     |tmp t=>exact hframe t (.inl (by
       unfold Oper.looksAt;exact List.mem_append_left _ (List.mem_filterMap.2 ⟨.tmp t,by simpa using hx,rfl⟩)))
     |_=>rfl
    have hcong:∀τ,dN P (call j) o (dE (pR ops G (Φ 0) L ops.size)) τ=dN P (call j) o (dE (Φ j)) τ:=fun τ=>A7 hops;unfold wpOpIn;simp only[ho];rcases(R.step j o ho).2.2 with⟨hw0,hG,hS⟩|⟨hw1,hBj,hop⟩|⟨hw1,_,hS,hfree⟩
    ·rw[fI hfr (hwant.trans hw0)];simp only[bX,fN];exact⟨fun _ _=>trivial,same hS D undef w' (.refl D) hrel (by rw[hG];exact zJ D)⟩
    rotate_left
    ·rw[fI hfr (hwant.trans hw1)];simp only[f7];refine jV (hcall j) hrel (dR hfr) ((hcong τ).trans (hfree τ (hh2.trans loS.symm))) (fun g E v w'' eg hE hrE hv=>?_) (fun g E v w'' eg=>by cases eg);cases eg;exact same hS E v w'' hE hrE hv
    ·rw[fI hfr (hwant.trans hw1)];simp only[f7];have hcl:=clsO ho;have hop0:=hop;have ffacts:=facts j o ho _ _ hop;unfold pL at hop;split at hop
     ·
      rename_i hk;have h1:=oE hop;obtain⟨hS,hfree⟩:=yG (D8 hk) h1;refine jV (hcall j) hrel (dR hfr) ((hcong τ).trans (hfree τ)) (fun g E v w'' eg hE hrE hv=>?_) (fun g E v w'' eg=>by cases eg);cases eg;exact same hS E v w'' hE hrE hv
     ·
      rename_i hk;split at hop
      ·rename_i hT;have h1:=oE hop;have hgo:∀τ,dN P (call j) o (dE (Φ j)) τ=(uR P (dE (Φ j)) o.op τ).map fun x=>(.val x.1,x.2):=fun τ=>BA (M:=M) (by rw[hk];decide) (by rw[hk];decide) (by rw[hk];decide);rw[hgo,aH] at h1;obtain⟨⟨g',s⟩,h2,e⟩:=h1;cases e;obtain⟨hS,hloc⟩:=MV hk h2;have hrun:dN P (call j) o (dE (pR ops G (Φ 0) L ops.size)) τ=some (.val (G j),τ):=by
        rw[hcong,hgo,hloc τ (fun r hr=>hmeet r (.inr (.inl ⟨hcl.trans hk,hT.imp (fun hT=>by rw[<-hT];exact hr) (fun h=>h)⟩)))];rfl
       refine jV (hcall j) hrel (dR hfr) hrun (fun g E v w'' eg hE hrE hv=>?_) (fun g E v w'' eg=>by cases eg);cases eg;exact same hS E v w'' hE hrE hv
      ·cases hop
     ·
      rename_i hk;split at hop
      ·rename_i hT;have h1:=oE hop;have hgo:∀τ,dN P (call j) o (dE (Φ j)) τ=(uR P (dE (Φ j)) o.op τ).map fun x=>(.val x.1,x.2):=fun τ=>BA (M:=M) (by rw[hk];decide) (by rw[hk];decide) (by rw[hk];decide);rw[hgo,aH] at h1;obtain⟨⟨g',s⟩,h2,e⟩:=h1;cases e;obtain⟨r,x,y,ht,hlo,hy,hne,hS,hloc⟩:=K0 hk h2;have hTr:T j=some r:=by rw[<-hT];exact ht
       have hWj:∀q,W j q=true↔q=r:=fun q=>by
        show uP M ops T Mk j q=true↔_;unfold uP;rw[hcl,hk];simp[hTr];exact eq_comm
       have hrun:dN P (call j) o (dE (pR ops G (Φ 0) L ops.size)) τ=some (.val (G j),gset τ r x):=by
        rw[hcong,hgo,hloc τ (by rw[hh2,loS]) (hmeet r (.inl ((hWj r).2 rfl)))];rfl
       refine jV (hcall j) hrel (dR hfr) hrun (fun g E v w'' eg hE hrE hv=>?_) (fun g E v w'' eg=>by cases eg);cases eg;refine next E v w'' (gset τ r x) hE hh2 hh3 (fun q=>?_) hrE hv
       have hlenr:r<τ.objs.length:=by
        have:=hmeet r (.inl ((hWj r).2 rfl));rw[hy] at this;exact(List.getElem?_eq_some_iff.1 this).1
       have hlenr2:r<(S j).objs.length:=(List.getElem?_eq_some_iff.1 hy).1;split
       ·rename_i hw;have:=(hWj q).1 hw;subst this;rw[hS];show(τ.objs.set q x)[q]?=((S j).objs.set q x)[q]?;rw[k5 hlenr,k5 hlenr2]
       ·rename_i hw;have:q≠r:=fun e=>hw ((hWj q).2 e);show(τ.objs.set r x)[q]?=_;rw[dK (Ne.symm this)]
      ·cases hop
     ·
      rename_i hk;split at hop
      ·rename_i f r hf hTr;split at hop
       ·rename_i hfree;split at hop
        ·rename_i hlo;rw[iY,Prod.mk.injEq] at hop;obtain⟨hGj,hS⟩:=hop;have hWj:∀q,W j q=true↔q=r:=fun q=>by
          show uP M ops T Mk j q=true↔_;unfold uP;rw[hcl,hk];simp[hTr];exact eq_comm
         have hfree':τ.objs[r]?=some .free:=(hmeet r (.inl ((hWj r).2 rfl))).trans hfree;have hlenr:=(List.getElem?_eq_some_iff.1 hfree').1;have hlenr2:=(List.getElem?_eq_some_iff.1 hfree).1;have hnd:∀c,o.op≠ .defer c:=fun c e=>by rw[e] at hk;simp[eZ] at hk
         have hsem:o.semAt (FW ro).round a'.eval=execOp a'.eval o:=Oper.semAt_eq _ _ _ hnd;have hf':iT P (dE (pR ops G (Φ 0) L ops.size)) o.op=some f:=by rw[P1 hops];exact hf
         obtain⟨E,nx,w'',hE,hrE,hnx,hrun⟩:=DM (o:=o) hrel (dR hfr) (fun v=>rfl) hf' (hrel.newAt_free hfree' f.2);refine⟨fun _ _=>trivial,?_⟩;rw[hsem,hrun];have fin:∀v,VR E (G j) v->wpAnyIn (FW ro) 0 P .any ops Q fuel L' (a'.put o.dst v) w'':=fun v hv=>by
          refine next E v w'' (gset τ r f.2) hE hh2 hh3 (fun q=>?_) hrE hv
          split
          ·rename_i hw;have:=(hWj q).1 hw;subst this;rw[<-hS];show(τ.objs.set q f.2)[q]?=((S j).objs.set q f.2)[q]?;rw[k5 hlenr,k5 hlenr2]
          ·rename_i hw;have:q≠r:=fun e=>hw ((hWj q).2 e);show(τ.objs.set r f.2)[q]?=_;rw[dK (Ne.symm this)]
         rcases hnx with⟨v,rfl,hv⟩|⟨rfl,hany⟩
         ·exact fin v (by rw[<-hGj];exact hv)
         ·exact fin undef (by rw[<-hGj,hany];exact .any _)
        ·cases hop
       ·cases hop
      ·cases hop
     ·
      rename_i hk;split at hop
      ·rename_i g' σ1 hgo;rw[iY,Prod.mk.injEq] at hop;obtain⟨hGj,hS⟩:=hop;subst hGj;have hWj:∀q,W j q=true↔(fT M ops j=false/\¬q∈Mk j):=fun q=>by
        show uP M ops T Mk j q=true↔_;unfold uP;rw[hcl,hk];simp
       have hvis:∀q,¬q∈Mk j->τ.objs[q]?=(S j).objs[q]?:=fun q hq=>by
        cases hpa:fT M ops j with
        |true=>exact hmeet q (.inr (.inr ⟨hpa,hBj,hq⟩))
        |false=>exact hmeet q (.inl ((hWj q).2 ⟨hpa,hq⟩))
       have hmask:pN (Mk j) τ=pN (Mk j) (S j):=by
        have ho:(pN (Mk j) τ).objs=(pN (Mk j) (S j)).objs:=eK fun q=>by
         rw[oI,oI];by_cases hq:q∈Mk j
         ·obtain⟨y,hy⟩:=someL L q (hMkN j q hq) ops.size (rL _);rw[hh1 q,hy,gL (cI (hMkN j q hq) (lenS j (by omega)))];simp[hq]
         ·rw[hvis q hq]
        have h2:(pN (Mk j) τ).lo=(pN (Mk j) (S j)).lo:=hh2.trans loS.symm;have h3:(pN (Mk j) τ).ds=(pN (Mk j) (S j)).ds:=hh3.trans dsS.symm;generalize pN (Mk j) τ=A1 at*;generalize pN (Mk j) (S j)=A2 at*;cases A1;cases A2;simp only at ho h2 h3;rw[ho,h2,h3]
       have hop1:=oE hgo;rw[<-hmask] at hop1;have hkp:=uI (hcall j) hop1;have hrel':=hrel.mask (Mk j);have hlenτ:∀q∈Mk j,q<τ.objs.length:=fun q hq=>by
        obtain⟨y,hy⟩:=someL L q (hMkN j q hq) ops.size (rL _);have:=hh1 q;rw[hy] at this;exact(List.getElem?_eq_some_iff.1 this).1
       refine jV (hcall j) hrel' (fun x=>(dR hfr x).rehd) ((hcong _).trans hop1) (fun g E v w'' eg hE hrE hv=>?_) (fun g E v w'' eg=>by cases eg);cases eg;obtain⟨hlE,hrelE⟩:=hrel.unmask hE hrE hkp.held hlenτ;refine next _ v w'' _ hlE ?_ ?_ (fun q=>?_) hrelE hv.rehd
       ·show σ1.lo=σ0.lo;rw[hkp.lo];exact hh2
       ·show σ1.ds=σ0.ds;rw[pM (hcall j) hop1];exact hh3
       ·rw[rW];by_cases hw:W j q=true
        ·rw[aD hw];have hnm:=((hWj q).1 hw).2;have:¬(Mk j).contains q=true:=by simpa using hnm
         rw[<-hS,rW];simp only[aC this]
        ·rw[aC hw];by_cases hm:q∈Mk j;rotate_left
         ·have hpa:fT M ops j=true:=by
           cases hpa:fT M ops j with
           |true=>rfl
           |false=>exact absurd ((hWj q).2 ⟨hpa,hm⟩) hw
          have hkd:dF M o.op≠2:=by
           unfold fT at hpa;rw[ho] at hpa;simp only[aF,bne_iff_ne] at hpa;exact hpa.2
          have e:=oG (hpure j) hkd hop1;have:¬(Mk j).contains q=true:=by simpa using hm
          rw[e,oI];simp only[aC this,Option.map_id']
         have hh:σ1.objs[q]?=some .held:=hkp.held q (by
          rw[oI,gL (hlenτ q hm)];simp only[dP];rw[aD (by simpa using hm)])
         rw[hh];simp only[dP];rw[aD (by simpa using hm),aO,gL (hlenτ q hm),jL]
      ·cases hop
     ·cases hop
 have init:∀r k,obL S W (Array.replicate ops.size false) r k=(S 0).objs[r]?:=fun r k=>by
  induction k with
  |zero=>rfl
  |succ k ih=>
   simp only[obL];rw[aC (by simp[aX,j8];intro h1;split at h1<;>simp at h1),ih]
 refine wpIn_region_any hm (key ops.size (Array.replicate ops.size false) C a _ σ0 (by simp) (fun j o ho hj=>?_) ?_ (.refl C) ⟨fun r=>?_,rfl,rfl⟩ hr0.drew ?_ hn rfl)
 ·have hjs:=(Array.getElem?_eq_some_iff.1 ho).1;simp[aX,hjs] at hj
 ·have:∀(L:Array Bool) k,w8 L k<=k:=fun L k=>by
   induction k with
   |zero=>exact rL _
   |succ k ih=>simp only[w8];split<;>omega
  exact this _ _
 ·rw[init,e2]
 ·have:∀k,pR ops G (Φ 0) (Array.replicate ops.size false) k=Φ 0:=fun k=>by
   induction k with
   |zero=>rfl
   |succ k ih=>
    simp only[pR];rw[aC (by simp[aX,j8];split<;>simp),ih]
  rw[this,e1];exact hf
theorem P6 (hm:P.follows .mixedOrders=true) (hcall:cK P w0 call) (hpure:dS M call) {ro:Option Nat} {C:Cx} {φ φ':Fr} {σ σ':GS} {x:GX} {id:Nat} {Q:Exit->Act->World->Prop} {a:Act} {w:World}
  (hg:KB P M call n ops φ σ=some (x,φ',σ')) (hr:Rel C σ w0 w) (hf:FRel C φ a) (hn:a.tmps.size=n) (hd0:DRel C σ.ds a.defers) (hq:QOk w0 C Q n x φ' σ'):(Code.region id ops true).wpIn (FW ro) 0 P Q a w:=by
 unfold KB at hg;simp only at hg;split at hg
 ·rename_i hwild;rw[aH] at hg;obtain⟨⟨φ',σ'⟩,hsteps,e⟩:=hg;cases e;replace hq:QOk w0 C Q n .normal φ' σ':=hq;obtain⟨Φ,S,G,e1,e2,e3,e4,e5⟩:=LZ ops.toList 0 φ φ' _ σ' (fun j=>by simp) hsteps;rw[bI,bJ] at e3 e4;exact GR (B:=fun _=>false) (σ0:={σ with objs:=σ.objs++List.replicate (ops.toList.filter fun o=>eZ M o.op==3).length .free}) (call:=fun _=>call) hm (fun _=>hcall) (fun _=>hpure) rfl hwild ⟨fun i o ho=>by obtain⟨q1,q2,q3⟩:=e5 i o (zL _) ho;exact⟨q1,q2,q3.imp (fun q=>q) fun q=>.inl ⟨q.1,rfl,q.2⟩⟩⟩ e1 e2 e3 e4 rfl (hr.frees _) hf hn hd0 hq
 ·cases hg
theorem SA (hcall:cK P w0 call) {φ φ':Fr} {σ σ':GS} {x:GX} (h:KB P M call n ops φ σ=some (x,φ',σ')):Keep σ σ':=by
 unfold KB at h;simp only at h;split at h
 ·rename_i hwild;rw[aH] at h;obtain⟨⟨φ',σ'⟩,hsteps,e⟩:=h;cases e;show Keep σ σ';generalize sH ops.toList []=A at hwild hsteps;generalize uF P M call _ σ ops.toList σ.objs.length φ=TL at hwild hsteps;generalize(ops.toList.filter fun o=>eZ M o.op==3).length=K at hwild hsteps;have k0:Keep σ {σ with objs:=σ.objs++List.replicate K .free}:=⟨rfl,by simp,fun hl r hr=>by
   show(σ.objs++List.replicate K GObj.free)[r]?=_;rw[b7 (by omega)],fun r hr=>by
   show(σ.objs++List.replicate K GObj.free)[r]?=_;rw[b7 (List.getElem?_eq_some_iff.1 hr).1];exact hr⟩
  have hMk:∀i,∀r∈pI M ops A TL i,r<({σ with objs:=σ.objs++List.replicate K .free}:GS).objs.length:=fun i r hr=>by
   obtain⟨j,hj,_,_,_,_,h,hne⟩:=a74.1 hr;exact(TH hwild hj h).resolve_right (fun h=>hne h.1)
  generalize({σ with objs:=σ.objs++List.replicate K .free}:GS)=σ0 at*;have go:∀(l:List Oper) (i:Nat) (φ φ':Fr) (τ τ':GS),(∀j:Nat,l[j]?=ops[i+j]?)->σ0.objs.length<=τ.objs.length->zY P M call (fun i=>TL.getD i none) (pI M ops A TL) n ops l i φ τ=some (φ',τ')->Keep τ τ':=by
   intro l;induction l with
   |nil=>intro i φ φ' τ τ' _ _ h;cases h;exact .refl _
   |cons o l ih=>
    intro i φ φ' τ τ' hl hlen h;have ho:ops[i]?=some o:=by have:=hl 0;simpa using this.symm
    have hl':∀j:Nat,l[j]?=ops[i+1+j]?:=fun j=>by have:=hl (j+1);rw[show i+1+j=i+(j+1) by omega];simpa using this
    simp only[zY] at h;split at h
    ·split at h
     ·exact ih _ _ _ _ _ hl' hlen h
     ·split at h
      ·rename_i g τ1 hst;obtain⟨k1,_,_⟩:=zZ hcall ho (fun r hr=>cI (hMk i r hr) hlen) hst;exact k1.trans (ih _ _ _ _ _ hl' (dG hlen k1.len) h)
      ·cases h
     ·cases h
    ·cases h
  exact k0.trans (go ops.toList 0 φ φ' σ0 σ' (fun j=>by simp) (rL _) hsteps)
 ·cases h
end
end
