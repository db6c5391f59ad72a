/- Part of HostValues. -/
import Derived.Test.YtmnjcddcihdlfaaGreatDoorV26
set_option linter.all false
set_option maxRecDepth 100000
namespace Go.Proofs.YtmnjcddcihdlfaaGreatDoor
open Go.RowKit
set_option maxHeartbeats 1000000
theorem YU [MaxL] {l:List Tq} (w:WfR l) (f:Nat) (hT:∀g,g<=f->RoT l g):RoE l (f+1):=by
 intro s hn hps hneed;have bG:=w.len;simp only[EK.need] at hneed;have i0:=iW w f .term s hn;have h0:=hT f (rL _) s hn hps (by simp only[EK.need];omega);unfold rE;generalize rE (kR l) f .term s=p0 at*;obtain⟨e0,s0⟩:=p0;obtain⟨j1,j2,j3⟩:=i0;dsimp only at h0 j1 j2 j3⊢;generalize hR:rE (kR l) f (.exprL e0) s0=R;rw[d7] at h0;refine bI Tryz.func23 rfl ?_;conv=>whnf
 refine cG [0] h0 ?_;conv=>whnf
 refine st ?_;conv=>whnf
 refine GLoop.introW (fun q:Nat×RS×Ex=>q.1<=f/\q.2.1.n<l.length/\q.2.1.ps<=q.2.1.n/\5*(l.length - q.2.1.n)+1<=q.1/\rE (kR l) q.1 (.exprL q.2.2) q.2.1=R) (fun q=>[(0,.ptr 0 0),(2,.ptr 1 0),(3,.ptr 2 0)])
  (fun q=>⟨[i7 l q.2.1,V6,OQ q.2.2],0,[]⟩) (fun q=>l.length - q.2.1.n) (f,s0,e0) ⟨rL _,j2,(by show s0.ps<=s0.n;omega),(by show 5*(l.length - s0.n)+1<=f;omega),hR⟩ ⟨rfl,rfl,rfl,trivial⟩ rfl (fun _ _=>rL _) (fun q _=>rfl) (fun q hq e he=>?_) (fun q φ0 hq=>?_)
 ·refine⟨(FH.h (n:=3) (s:=[i7 l q.2.1,V6,OQ q.2.2])) e (fun i hi=>he i hi),rfl,?_⟩;show[GV.ptr (e 0) 0,.ptr (e 1) 0,.ptr (e 2) 0]=_;rw[he 0 (by simp),he 1 (by simp),he 2 (by simp)];rfl
 obtain⟨f1,s1,e1⟩:=q;obtain⟨q1,q2,q3,q4,q5⟩:=hq;dsimp only at q1 q2 q3 q4 q5;obtain⟨g,rfl⟩:∃g,f1=g+1:=⟨f1 - 1,by omega⟩;obtain⟨p,hp⟩:∃p,l[s1.n]?=some p:=⟨l[s1.n],gL q2⟩;have ho:=nF l s1;have h1:=pH l s1 p hp [43];have h2:=pH l s1 p hp [45];have h3:=pH l s1 p hp [38];have ht:=rV hp;have hg:=j8 hp;have hnm:=w.nm p (b9 hp);unfold rE at q5;rw[ht] at q5;conv=>whnf
 cases hb:s1.bad with
 |some b=>
  rw[hb] at ho q5;replace ho:SC _ _ _ _ (.val (.b false)) _:=ho;rw[aA (show(some b).isSome=true from rfl)] at q5;subst q5;refine cS [0] ho ?_;conv=>whnf
  refine st ?_;conv=>whnf
  exact fin 1 (hw:=cJ e1.gvR_eq.symm)
 |none=>
  rw[hb] at ho q5;replace ho:SC _ _ _ _ (.val (.b true)) _:=ho;rw[aB (by decide)] at q5;obtain⟨t,ln⟩:=p;cases t with
  |sg x=>
   dsimp only at q5;by_cases hx:x=[43]
   ·subst hx;rw[aA (by simp)] at q5;have ha:Inv l s1 s1.adv:=.adv w q2 (by rw[ht];nofun);have hf:=hT g (by omega) s1.adv ha.2.1 (by show s1.ps<=s1.n+1;omega) (by show 5*(l.length - (s1.n+1))+2<=g;omega);have i1:=iW w g .term s1.adv ha.2.1;generalize rE (kR l) g .term s1.adv=p1 at*;obtain⟨e2,s2⟩:=p1;obtain⟨k1,k2,k3⟩:=i1;dsimp only at hf k1 k2 k3 q5;replace k1:s1.n+1<=s2.n:=k1;replace k3:s2.ps=s1.ps:=k3;rw[d7] at hf;replace h1:SC _ _ _ _ (.val (.b true)) _:=h1;refine cS [0] ho ?_;(conv=>whnf);refine cS [0] h1 ?_;(conv=>whnf);refine gP ?_;(conv=>whnf);refine ix hg ⟨rfl,?_⟩;(conv=>whnf);refine⟨_,⟨bE (i:=s1.n) (by omega),zL _,rfl,bL rfl⟩,?_⟩;(conv=>whnf);refine fY (fun k=>!Nat.beq k 60) (b7 [none,some 2,none,none,some 3,none,some 2] rfl rfl (by kernel_rfl) ?_);(conv=>whnf);refine cG [0] hf ?_;(conv=>whnf);refine st ?_;(conv=>whnf);exact⟨l.length - s2.n,(by show _<l.length - s1.n;omega),(g,s2,.bin [43] e1 e2),⟨by show g<=f;omega,k2,(by show s2.ps<=s2.n;omega),(by show 5*(l.length - s2.n)+1<=g;omega),q5⟩,rfl,⟨rfl,rfl,rfl,trivial⟩,_,wM,_,rfl,rfl⟩
   by_cases hx2:x=[45]
   ·subst hx2;rw[aA (by simp)] at q5;have ha:Inv l s1 s1.adv:=.adv w q2 (by rw[ht];nofun);have hf:=hT g (by omega) s1.adv ha.2.1 (by show s1.ps<=s1.n+1;omega) (by show 5*(l.length - (s1.n+1))+2<=g;omega);have i1:=iW w g .term s1.adv ha.2.1;generalize rE (kR l) g .term s1.adv=p1 at*;obtain⟨e2,s2⟩:=p1;obtain⟨k1,k2,k3⟩:=i1;dsimp only at hf k1 k2 k3 q5;replace k1:s1.n+1<=s2.n:=k1;replace k3:s2.ps=s1.ps:=k3;rw[d7] at hf;replace h1:SC _ _ _ _ (.val (.b false)) _:=h1;replace h2:SC _ _ _ _ (.val (.b true)) _:=h2;refine cS [0] ho ?_;(conv=>whnf);refine cS [0] h1 ?_;(conv=>whnf);refine cS [0] h2 ?_;(conv=>whnf);refine gP ?_;(conv=>whnf);refine ix hg ⟨rfl,?_⟩;(conv=>whnf);refine⟨_,⟨bE (i:=s1.n) (by omega),zL _,rfl,bL rfl⟩,?_⟩;(conv=>whnf);refine fY (fun k=>!Nat.beq k 60) (b7 [none,some 2,none,none,some 3,none,some 2] rfl rfl (by kernel_rfl) ?_);(conv=>whnf);refine cG [0] hf ?_;(conv=>whnf);refine st ?_;(conv=>whnf);exact⟨l.length - s2.n,(by show _<l.length - s1.n;omega),(g,s2,.bin [45] e1 e2),⟨by show g<=f;omega,k2,(by show s2.ps<=s2.n;omega),(by show 5*(l.length - s2.n)+1<=g;omega),q5⟩,rfl,⟨rfl,rfl,rfl,trivial⟩,_,wM,_,rfl,rfl⟩
   by_cases hx3:x=[38]
   ·subst hx3;rw[aA (by simp)] at q5;have ha:Inv l s1 s1.adv:=.adv w q2 (by rw[ht];nofun);have hf:=hT g (by omega) s1.adv ha.2.1 (by show s1.ps<=s1.n+1;omega) (by show 5*(l.length - (s1.n+1))+2<=g;omega);have i1:=iW w g .term s1.adv ha.2.1;generalize rE (kR l) g .term s1.adv=p1 at*;obtain⟨e2,s2⟩:=p1;obtain⟨k1,k2,k3⟩:=i1;dsimp only at hf k1 k2 k3 q5;replace k1:s1.n+1<=s2.n:=k1;replace k3:s2.ps=s1.ps:=k3;rw[d7] at hf;replace h1:SC _ _ _ _ (.val (.b false)) _:=h1;replace h2:SC _ _ _ _ (.val (.b false)) _:=h2;replace h3:SC _ _ _ _ (.val (.b true)) _:=h3;refine cS [0] ho ?_;(conv=>whnf);refine cS [0] h1 ?_;(conv=>whnf);refine cS [0] h2 ?_;(conv=>whnf);refine cS [0] h3 ?_;(conv=>whnf);refine gP ?_;(conv=>whnf);refine ix hg ⟨rfl,?_⟩;(conv=>whnf);refine⟨_,⟨bE (i:=s1.n) (by omega),zL _,rfl,bL rfl⟩,?_⟩;(conv=>whnf);refine fY (fun k=>!Nat.beq k 60) (b7 [none,some 2,none,none,some 3,none,some 2] rfl rfl (by kernel_rfl) ?_);(conv=>whnf);refine cG [0] hf ?_;(conv=>whnf);refine st ?_;(conv=>whnf);exact⟨l.length - s2.n,(by show _<l.length - s1.n;omega),(g,s2,.bin [38] e1 e2),⟨by show g<=f;omega,k2,(by show s2.ps<=s2.n;omega),(by show 5*(l.length - s2.n)+1<=g;omega),q5⟩,rfl,⟨rfl,rfl,rfl,trivial⟩,_,wM,_,rfl,rfl⟩
   rw[aB (fun h=>h.elim hx (fun h=>h.elim hx2 hx3))] at q5;subst q5;rw[show gV (Tq.t ⟨.sg x,ln⟩) [43]=false from beq_eq_false_iff_ne.2 hx] at h1;rw[show gV (Tq.t ⟨.sg x,ln⟩) [45]=false from beq_eq_false_iff_ne.2 hx2] at h2;rw[show gV (Tq.t ⟨.sg x,ln⟩) [38]=false from beq_eq_false_iff_ne.2 hx3] at h3;refine cS [0] ho ?_;(conv=>whnf);refine cS [0] h1 ?_;(conv=>whnf);refine cS [0] h2 ?_;(conv=>whnf);refine cS [0] h3 ?_;(conv=>whnf);refine st ?_;(conv=>whnf);exact fin 1 (hw:=cJ e1.gvR_eq.symm)
  |nm x=>
   replace q5:(e1,s1)=R:=q5;subst q5;have hx:=hnm x rfl;rw[show gV (Tq.t ⟨.nm x,ln⟩) [43]=false from kC hx _ (by decide)] at h1;rw[show gV (Tq.t ⟨.nm x,ln⟩) [45]=false from kC hx _ (by decide)] at h2;rw[show gV (Tq.t ⟨.nm x,ln⟩) [38]=false from kC hx _ (by decide)] at h3;refine cS [0] ho ?_;(conv=>whnf);refine cS [0] h1 ?_;(conv=>whnf);refine cS [0] h2 ?_;(conv=>whnf);refine cS [0] h3 ?_;(conv=>whnf);refine st ?_;(conv=>whnf);exact fin 1 (hw:=cJ e1.gvR_eq.symm)
  |nu x=>
   replace q5:(e1,s1)=R:=q5;subst q5;replace h1:SC _ _ _ _ (.val (.b false)) _:=h1;replace h2:SC _ _ _ _ (.val (.b false)) _:=h2;replace h3:SC _ _ _ _ (.val (.b false)) _:=h3;refine cS [0] ho ?_;(conv=>whnf);refine cS [0] h1 ?_;(conv=>whnf);refine cS [0] h2 ?_;(conv=>whnf);refine cS [0] h3 ?_;(conv=>whnf);refine st ?_;(conv=>whnf);exact fin 1 (hw:=cJ e1.gvR_eq.symm)
  |tx x=>
   replace q5:(e1,s1)=R:=q5;subst q5;replace h1:SC _ _ _ _ (.val (.b false)) _:=h1;replace h2:SC _ _ _ _ (.val (.b false)) _:=h2;replace h3:SC _ _ _ _ (.val (.b false)) _:=h3;refine cS [0] ho ?_;(conv=>whnf);refine cS [0] h1 ?_;(conv=>whnf);refine cS [0] h2 ?_;(conv=>whnf);refine cS [0] h3 ?_;(conv=>whnf);refine st ?_;(conv=>whnf);exact fin 1 (hw:=cJ e1.gvR_eq.symm)
  |fin=>
   replace q5:(e1,s1)=R:=q5;subst q5;replace h1:SC _ _ _ _ (.val (.b false)) _:=h1;replace h2:SC _ _ _ _ (.val (.b false)) _:=h2;replace h3:SC _ _ _ _ (.val (.b false)) _:=h3;refine cS [0] ho ?_;(conv=>whnf);refine cS [0] h1 ?_;(conv=>whnf);refine cS [0] h2 ?_;(conv=>whnf);refine cS [0] h3 ?_;(conv=>whnf);refine st ?_;(conv=>whnf);exact fin 1 (hw:=cJ e1.gvR_eq.symm)
  |bad=>
   replace q5:(e1,s1)=R:=q5;subst q5;replace h1:SC _ _ _ _ (.val (.b false)) _:=h1;replace h2:SC _ _ _ _ (.val (.b false)) _:=h2;replace h3:SC _ _ _ _ (.val (.b false)) _:=h3;refine cS [0] ho ?_;(conv=>whnf);refine cS [0] h1 ?_;(conv=>whnf);refine cS [0] h2 ?_;(conv=>whnf);refine cS [0] h3 ?_;(conv=>whnf);refine st ?_;(conv=>whnf);exact fin 1 (hw:=cJ e1.gvR_eq.symm)
theorem FS [MaxL] {l:List Tq} (w:WfR l):∀f:Nat,(∀g,g<=f->RoF l g)/\(∀g,g<=f->RoT l g)/\(∀g,g<=f->RoE l g)
 |0=>⟨fun g hg s hn _ h=>by simp only[EK.need] at h;omega,fun g hg s hn _ h=>by simp only[EK.need] at h;omega,fun g hg s hn _ h=>by simp only[EK.need] at h;omega⟩
 |f+1=>by
  obtain⟨a,b,c⟩:=FS w f;refine⟨fun g hg=>?_,fun g hg=>?_,fun g hg=>?_⟩
  ·rcases Nat.le_succ_iff.1 hg with h|rfl
   ·exact a g h
   ·exact YT w f (a f (rL _)) (c f (rL _))
  ·rcases Nat.le_succ_iff.1 hg with h|rfl
   ·exact b g h
   ·exact YP w f a
  ·rcases Nat.le_succ_iff.1 hg with h|rfl
   ·exact c g h
   ·exact YU w f b
def Y3 (op:By) (k s:List GV):List GV:=[.s op,.sl .none k,.sl .none s]
def Cn.csR:Cn->List GV
 |.zero=>Y3 [] [] []
 |.rel op a b=>Y3 op [] [a.gvR,b.gvR]
 |.no c=>Y3 iX [.agg c.csR] []
 |.two op a b=>Y3 op [.agg a.csR,.agg b.csR] []
def Cn.gvR (c:Cn):GV:=.agg c.csR
def Cn.opR:Cn->By
 |.zero=>[]
 |.rel op _ _=>op
 |.no _=>iX
 |.two op _ _=>op
def Cn.kids:Cn->List Cn
 |.no c=>[c]
 |.two _ a b=>[a,b]
 |_=>[]
def Cn.sides:Cn->List Ex
 |.rel _ a b=>[a,b]
 |_=>[]
theorem Cn.gvR_eq (c:Cn):c.gvR=.agg [.s c.opR,.sl .none (c.kids.map Cn.gvR),.sl .none (c.sides.map Ex.gvR)]:=by cases c<;>rfl
def dW:=@Cn.gvR_eq
theorem HX [MaxL] {op:By} {k s:List GV} (h:ClL k) (h':ClL s):ClL (Y3 op k s):=.cons (.s _) (.cons (Cl.sl h) (.cons (Cl.sl h') .nil))
theorem Ex.gvR_cl [MaxL] (e:Ex):Cl e.gvR:=Cl.agg e.csR_cl
theorem Cn.csR_cl [MaxL]:∀c:Cn,ClL c.csR
 |.zero=>HX .nil .nil
 |.rel _ a b=>HX .nil (.cons a.gvR_cl (.cons b.gvR_cl .nil))
 |.no c=>HX (.cons (Cl.agg c.csR_cl) .nil) .nil
 |.two _ a b=>HX (.cons (Cl.agg a.csR_cl) (.cons (Cl.agg b.csR_cl) .nil)) .nil
instance [MaxL] (c:Cn):KG c.gvR:=⟨Cl.agg c.csR_cl⟩
theorem RP [MaxL] {op:By} {k k' s s':GV} (h:Wk k k') (h2:Wk s s'):Wk (.agg [.s op,k,s]) (.agg [.s op,k',s']):=Wks.agg ⟨.refl _,h,h2,trivial⟩
abbrev X6 (c:Cn):GObj:=.box 89 [.s c.opR,.sl .none (c.kids.map Cn.gvR),.sl .none (c.sides.map Ex.gvR)]
abbrev V7:GObj:=.box 89 [.s [],.sl .full [],.sl .full []]
theorem vB [MaxL] {op:By} {a b:Ex} {t u:Tok}:Wk (.agg [.s op,.sl u [],.sl t [.agg [.s a.op,.i .i64 a.n,.s a.st,.s a.it,.sl .none (a.kids.map Ex.gvR)],.agg [.s b.op,.i .i64 b.n,.s b.st,.s b.it,.sl .none (b.kids.map Ex.gvR)]]]) (Cn.rel op a b).gvR:=by
 refine RP (b5 _ _) ?_;show Wk _ (.sl .none [a.gvR,b.gvR]);rw[d7 a,d7 b];exact b5 _ _
theorem NZ (l:List Tk):∀(f:Nat) (s:RS),s.bad.isSome=true->rE l f .fact s=(.zero,s)/\rE l f (.termL .zero) s=(.zero,s)/\rE l f .term s=(.zero,s)/\rE l f (.exprL .zero) s=(.zero,s)/\rE l f .expr s=(.zero,s)
 |0,s,h=>⟨rfl,rfl,rfl,rfl,rfl⟩
 |f+1,s,h=>by
  obtain⟨a,b,c,d,e⟩:=NZ l f s h;refine⟨?_,?_,?_,?_,?_⟩
  ·unfold rE;rw[aA h]
  ·unfold rE;rw[aB (fun h'=>by rw[h] at h';cases h'.1)]
  ·unfold rE;rw[a];exact b
  ·unfold rE;rw[aA h]
  ·unfold rE;rw[c];exact d
def RoL [MaxL] (l:List Tq) (f:Nat):Prop:=∀s:RS,s.n<l.length->s.ps<=s.n->5*(l.length - s.n)+4<=f->SC Tryz.prog 177 [.ptr 0 0] [i7 l s] (.val (rC (kR l) f .rel s).1.gvR) [i7 l (rC (kR l) f .rel s).2]
theorem a0d [MaxL] {l:List Tq} (w:WfR l) (f:Nat):RoL l (f+1):=by
 intro s hn hps hneed;have bG:=w.len;have hE:=(FS w f).2.2 f (rL _);have i0:=iW w f .expr s hn;have h0:=hE s hn hps (by simp only[EK.need];omega);unfold rC;generalize rE (kR l) f .expr s=p0 at*;obtain⟨e0,s0⟩:=p0;obtain⟨j1,j2,j3⟩:=i0;dsimp only at h0 j1 j2 j3⊢;rw[d7] at h0;have ho:=nF l s0;have hf:=qV l s0;by_cases hb:s0.bad.isSome=true
 ·rw[aA hb];rw[show s0.bad.isNone=false by cases h:s0.bad with|none=>rw[h] at hb;cases hb|some _=>rfl] at ho;refine bI Tryz.func177 rfl ?_;conv=>whnf
  refine cG [0] h0 ?_;conv=>whnf
  refine st ?_;conv=>whnf
  refine cS [0] ho ?_;conv=>whnf
  refine st ?_;conv=>whnf
  exact fin 1 (hw:=RP (b5 _ _) (b5 _ _))
 rw[aB hb];rw[show s0.bad.isNone=true by cases h:s0.bad with|none=>rfl|some _=>rw[h] at hb;exact absurd rfl hb] at ho;obtain⟨p,hp⟩:∃p,l[s0.n]?=some p:=⟨l[s0.n],gL j2⟩;have hg:=j8 hp;have ht:=rV hp;rw[ht];have hfb:s0.fail.bad.isSome=true:=rfl;have hz:=hE s0.fail j2 (by show s0.ps<=s0.n;omega) (by show 5*(l.length - s0.n)+3<=f;omega);rw[(NZ (kR l) f s0.fail hfb).2.2.2.2] at hz;replace hz:SC _ _ _ _ (.val Ex.zero.gvR) [i7 l s0.fail]:=hz;rw[d7] at hz;have hk:=fun x=>NY FP (by decide) x;obtain⟨t,ln⟩:=p;cases t with
 |sg op=>
  dsimp only;have hk:=hk op;cases hc:FP.contains op with
  |true=>
   rw[hc] at hk;rw[aA rfl];have ha:Inv l s0 s0.adv:=.adv w j2 (by rw[ht];nofun);have h1:=hE s0.adv ha.2.1 (by show s0.ps<=s0.n+1;omega) (by show 5*(l.length - (s0.n+1))+3<=f;omega);generalize rE (kR l) f .expr s0.adv=p1 at*;obtain⟨e1,s1⟩:=p1;dsimp only at h1⊢;rw[d7] at h1;refine bI Tryz.func177 rfl ?_;(conv=>whnf);refine cG [0] h0 ?_;(conv=>whnf);refine st ?_;(conv=>whnf);refine cS [0] ho ?_;(conv=>whnf);refine b7 [none,none,none,some 0,none,none,none,some 0,none,none,none,none,none,some 3,none,none,none,some 0,none,none,none,some 0,none,none,none,none,none] rfl rfl (by kernel_rfl) ?_;(conv=>whnf);refine ix hg ⟨rfl,?_⟩;(conv=>whnf);refine ix hg ⟨rfl,?_⟩;(conv=>whnf);refine cP hk ?_;(conv=>whnf);refine gP ?_;(conv=>whnf);refine ix hg ⟨rfl,?_⟩;(conv=>whnf);refine⟨_,⟨bE (i:=s0.n) (by omega),zL _,rfl,bL rfl⟩,?_⟩;(conv=>whnf);refine fY (fun k=>!Nat.beq k 23) (b7 [none,some 2,none,none,some 4,none,some 1] rfl rfl (by kernel_rfl) ?_);(conv=>whnf);refine cG [0] h1 ?_;(conv=>whnf);refine st ?_;(conv=>whnf);exact fin 1 (hw:=vB)
  |false=>
   rw[hc] at hk;rw[aB b4];refine bI Tryz.func177 rfl ?_;(conv=>whnf);refine cG [0] h0 ?_;(conv=>whnf);refine st ?_;(conv=>whnf);refine cS [0] ho ?_;(conv=>whnf);refine b7 [none,none,none,some 0,none,none,none,some 0,none,none,none,none,none,some 3,none,none,none,some 0,none,none,none,some 0,none,none,none,none,none] rfl rfl (by kernel_rfl) ?_;(conv=>whnf);refine ix hg ⟨rfl,?_⟩;(conv=>whnf);refine ix hg ⟨rfl,?_⟩;(conv=>whnf);refine cP hk ?_;(conv=>whnf);refine cG [0] hf ?_;(conv=>whnf);refine fY (fun k=>!Nat.beq k 23) (b7 [none,some 2,none,none,some 4,none,some 1] rfl rfl (by kernel_rfl) ?_);(conv=>whnf);refine cG [0] hz ?_;(conv=>whnf);refine st ?_;(conv=>whnf);exact fin 1 (hw:=vB)
 |nm x=>
  dsimp only;refine bI Tryz.func177 rfl ?_;conv=>whnf
  refine cG [0] h0 ?_;conv=>whnf
  refine st ?_;conv=>whnf
  refine cS [0] ho ?_;conv=>whnf
  refine b7 [none,none,none,some 0,none,none,none,some 0,none,none,none,none,none,some 3,none,none,none,some 0,none,none,none,some 0,none,none,none,none,none] rfl rfl (by kernel_rfl) ?_;conv=>whnf
  refine ix hg ⟨rfl,?_⟩;conv=>whnf
  refine cG [0] hf ?_;conv=>whnf
  refine fY (fun k=>!Nat.beq k 23) (b7 [none,some 2,none,none,some 4,none,some 1] rfl rfl (by kernel_rfl) ?_);conv=>whnf
  refine cG [0] hz ?_;conv=>whnf
  refine st ?_;conv=>whnf
  exact fin 1 (hw:=vB)
 |nu x=>
  dsimp only;refine bI Tryz.func177 rfl ?_;conv=>whnf
  refine cG [0] h0 ?_;conv=>whnf
  refine st ?_;conv=>whnf
  refine cS [0] ho ?_;conv=>whnf
  refine b7 [none,none,none,some 0,none,none,none,some 0,none,none,none,none,none,some 3,none,none,none,some 0,none,none,none,some 0,none,none,none,none,none] rfl rfl (by kernel_rfl) ?_;conv=>whnf
  refine ix hg ⟨rfl,?_⟩;conv=>whnf
  refine cG [0] hf ?_;conv=>whnf
  refine fY (fun k=>!Nat.beq k 23) (b7 [none,some 2,none,none,some 4,none,some 1] rfl rfl (by kernel_rfl) ?_);conv=>whnf
  refine cG [0] hz ?_;conv=>whnf
  refine st ?_;conv=>whnf
  exact fin 1 (hw:=vB)
 |tx x=>
  dsimp only;refine bI Tryz.func177 rfl ?_;conv=>whnf
  refine cG [0] h0 ?_;conv=>whnf
  refine st ?_;conv=>whnf
  refine cS [0] ho ?_;conv=>whnf
  refine b7 [none,none,none,some 0,none,none,none,some 0,none,none,none,none,none,some 3,none,none,none,some 0,none,none,none,some 0,none,none,none,none,none] rfl rfl (by kernel_rfl) ?_;conv=>whnf
  refine ix hg ⟨rfl,?_⟩;conv=>whnf
  refine cG [0] hf ?_;conv=>whnf
  refine fY (fun k=>!Nat.beq k 23) (b7 [none,some 2,none,none,some 4,none,some 1] rfl rfl (by kernel_rfl) ?_);conv=>whnf
  refine cG [0] hz ?_;conv=>whnf
  refine st ?_;conv=>whnf
  exact fin 1 (hw:=vB)
 |fin=>
  dsimp only;refine bI Tryz.func177 rfl ?_;conv=>whnf
  refine cG [0] h0 ?_;conv=>whnf
  refine st ?_;conv=>whnf
  refine cS [0] ho ?_;conv=>whnf
  refine b7 [none,none,none,some 0,none,none,none,some 0,none,none,none,none,none,some 3,none,none,none,some 0,none,none,none,some 0,none,none,none,none,none] rfl rfl (by kernel_rfl) ?_;conv=>whnf
  refine ix hg ⟨rfl,?_⟩;conv=>whnf
  refine cG [0] hf ?_;conv=>whnf
  refine fY (fun k=>!Nat.beq k 23) (b7 [none,some 2,none,none,some 4,none,some 1] rfl rfl (by kernel_rfl) ?_);conv=>whnf
  refine cG [0] hz ?_;conv=>whnf
  refine st ?_;conv=>whnf
  exact fin 1 (hw:=vB)
 |bad=>
  dsimp only;refine bI Tryz.func177 rfl ?_;conv=>whnf
  refine cG [0] h0 ?_;conv=>whnf
  refine st ?_;conv=>whnf
  refine cS [0] ho ?_;conv=>whnf
  refine b7 [none,none,none,some 0,none,none,none,some 0,none,none,none,none,none,some 3,none,none,none,some 0,none,none,none,some 0,none,none,none,none,none] rfl rfl (by kernel_rfl) ?_;conv=>whnf
  refine ix hg ⟨rfl,?_⟩;conv=>whnf
  refine cG [0] hf ?_;conv=>whnf
  refine fY (fun k=>!Nat.beq k 23) (b7 [none,some 2,none,none,some 4,none,some 1] rfl rfl (by kernel_rfl) ?_);conv=>whnf
  refine cG [0] hz ?_;conv=>whnf
  refine st ?_;conv=>whnf
  exact fin 1 (hw:=vB)
set_option maxHeartbeats 2000000
theorem jA {l:List Tq} (w:WfR l):∀(f:Nat) (k:CK) (s:RS),s.n<l.length->Inv l s (rC (kR l) f k s).2
 |0,k,s,h=>.refl h
 |f+1,.rel,s,h=>by
  have h1:=iW w f .expr s h;unfold rC;split
  ·exact h1
  split
  ·rename_i op ht;split
   ·have ha:Inv l (rE (kR l) f .expr s).2 (rE (kR l) f .expr s).2.adv:=.adv w h1.2.1 (by rw[ht];nofun);exact h1.trans (ha.trans (iW w f .expr _ ha.2.1))
   ·exact h1.trans (.fail h1.2.1)
  ·exact h1.trans (.fail h1.2.1)
 |f+1,.prim,s,h=>by
  unfold rC;split
  ·exact jA w f .rel s h
  rename_i hc;have ht:gV (tk (kR l) s.n) [40]=true:=by
   cases hx:gV (tk (kR l) s.n) [40] with
   |true=>rfl
   |false=>exact absurd (.inr hx) hc
  have ha:Inv l s s.adv:=.adv w h (lG ht);have h1:Inv l s.into (rC (kR l) f .cond s.into).2:=jA w f .cond s.into ha.2.1;have h2:=tR w (rC (kR l) f .cond s.into).2 [41] h1.2.1;have e2:(hQ (kR l) (rC (kR l) f .cond s.into).2 [41]).ps=s.ps+1:=h2.2.2.trans h1.2.2;have e1:s.n+1<=(rC (kR l) f .cond s.into).2.n:=h1.1;generalize hQ (kR l) (rC (kR l) f .cond s.into).2 [41]=s2 at*;split
  ·exact⟨by show s.n<=s2.n;omega,h2.2.1,by show s2.ps - 1=s.ps;omega⟩
  ·rename_i b hb;have h3:=jA w f .rel ⟨s.n,none,s2.ps - 1,s.pm⟩ h;generalize rC (kR l) f .rel ⟨s.n,none,s2.ps - 1,s.pm⟩=p3 at*;obtain⟨c3,n3,b3,q3,m3⟩:=p3;obtain⟨a1,a2,a3⟩:=h3;dsimp only at a1 a2 a3;have a4:q3=s.ps:=by omega
   cases b3 with
   |none=>exact⟨a1,a2,a4⟩
   |some b3=>exact⟨a1,a2,a4⟩
 |f+1,.not,s,h=>by
  unfold rC;split
  ·rename_i hc;have ha:Inv l s s.adv:=.adv w h (lG hc.2);exact ha.trans (jA w f .prim s.adv ha.2.1)
  ·exact jA w f .prim s h
 |f+1,.both,s,h=>by
  unfold rC;have h1:=jA w f .not s h;exact h1.trans (jA w f _ _ h1.2.1)
 |f+1,.bothL c,s,h=>by
  unfold rC;split
  ·rename_i hc;have ha:Inv l s s.adv:=.adv w h (lG hc.2);have h1:=jA w f .not s.adv ha.2.1;exact ha.trans (h1.trans (jA w f _ _ h1.2.1))
  ·exact .refl h
 |f+1,.cond,s,h=>by
  unfold rC;have h1:=jA w f .both s h;exact h1.trans (jA w f _ _ h1.2.1)
 |f+1,.condL c,s,h=>by
  unfold rC;split
  ·rename_i hc;have ha:Inv l s s.adv:=.adv w h (lG hc.2);have h1:=jA w f .both s.adv ha.2.1;exact ha.trans (h1.trans (jA w f _ _ h1.2.1))
  ·exact .refl h
def RoP [MaxL] (l:List Tq) (f:Nat):Prop:=∀s:RS,s.n<l.length->s.ps<=s.n->CK.prim.need (l.length - s.n)<=f->SC Tryz.prog 157 [.ptr 0 0] [i7 l s] (.val (rC (kR l) f .prim s).1.gvR) [i7 l (rC (kR l) f .prim s).2]
def RoN [MaxL] (l:List Tq) (f:Nat):Prop:=∀s:RS,s.n<l.length->s.ps<=s.n->CK.not.need (l.length - s.n)<=f->SC Tryz.prog 107 [.ptr 0 0] [i7 l s] (.val (rC (kR l) f .not s).1.gvR) [i7 l (rC (kR l) f .not s).2]
def RoB [MaxL] (l:List Tq) (f:Nat):Prop:=∀s:RS,s.n<l.length->s.ps<=s.n->CK.both.need (l.length - s.n)<=f->SC Tryz.prog 73 [.ptr 0 0] [i7 l s] (.val (rC (kR l) f .both s).1.gvR) [i7 l (rC (kR l) f .both s).2]
def RoC [MaxL] (l:List Tq) (f:Nat):Prop:=∀s:RS,s.n<l.length->s.ps<=s.n->CK.cond.need (l.length - s.n)<=f->SC Tryz.prog 31 [.ptr 0 0] [i7 l s] (.val (rC (kR l) f .cond s).1.gvR) [i7 l (rC (kR l) f .cond s).2]
theorem YR [MaxL] {l:List Tq} (w:WfR l) (f:Nat) (hR:RoL l f) (hC:RoC l f):RoP l (f+1):=by
 intro s hn hps hneed;have bG:=w.len;simp only[CK.need] at hneed;have ho:=nF l s;obtain⟨p,hp⟩:∃p,l[s.n]?=some p:=⟨l[s.n],gL hn⟩;have hi:=pH l s p hp [40];have ht:=rV hp;have h0:=hR s hn hps (by omega);unfold rC;rw[ht];by_cases hb:s.bad.isSome=true
 ·rw[aA (.inl hb)];rw[show s.bad.isNone=false by cases h:s.bad with|none=>rw[h] at hb;cases hb|some _=>rfl] at ho;generalize rC (kR l) f .rel s=p0 at*;obtain⟨c0,s0⟩:=p0;dsimp only at h0⊢;rw[dW] at h0;refine bI Tryz.func157 rfl ?_;conv=>whnf
  refine cS [0] ho ?_;conv=>whnf
  refine cG [0] h0 ?_;conv=>whnf
  refine st ?_;conv=>whnf
  exact fin 1 (hw:=cJ c0.gvR_eq.symm)
 rw[show s.bad.isNone=true by cases h:s.bad with|none=>rfl|some _=>rw[h] at hb;exact absurd rfl hb] at ho;cases hc:gV p.t [40] with
 |false=>
  rw[hc] at hi;rw[aA (.inr rfl)];generalize rC (kR l) f .rel s=p0 at*;obtain⟨c0,s0⟩:=p0;dsimp only at h0⊢;rw[dW] at h0;refine bI Tryz.func157 rfl ?_;conv=>whnf
  refine cS [0] ho ?_;conv=>whnf
  refine cS [0] hi ?_;conv=>whnf
  refine cG [0] h0 ?_;conv=>whnf
  refine st ?_;conv=>whnf
  exact fin 1 (hw:=cJ c0.gvR_eq.symm)
 |true=>
  rw[hc] at hi;rw[aB (fun h=>h.elim hb (fun h=>by cases h))];have ha:Inv l s s.adv:=.adv w hn (by rw[ht];exact lG hc);have hin:s.into.n<l.length:=ha.2.1;have h1:=hC s.into hin (by show s.ps+1<=s.n+1;omega) (by show 5*(l.length - (s.n+1))+8<=f;omega);have i1:=jA w f .cond s.into hin;have i2:=tR w (rC (kR l) f .cond s.into).2 [41] i1.2.1;obtain⟨p1,hp1⟩:∃p,l[(rC (kR l) f .cond s.into).2.n]?=some p:=⟨l[(rC (kR l) f .cond s.into).2.n]'i1.2.1,gL i1.2.1⟩;have hw:=SN l (rC (kR l) f .cond s.into).2 p1 hp1 (by have:=i1.2.1;omega) [41];have e2:(hQ (kR l) (rC (kR l) f .cond s.into).2 [41]).ps=s.ps+1:=i2.2.2.trans i1.2.2;replace hw:SC _ _ _ _ _ [i7 l (hQ (kR l) (rC (kR l) f .cond s.into).2 [41])]:=hw;generalize hs2:hQ (kR l) (rC (kR l) f .cond s.into).2 [41]=s2 at*;generalize rC (kR l) f .cond s.into=p1 at*;obtain⟨c1,s1⟩:=p1;dsimp only at h1 hw⊢;rw[dW] at h1;have hd:[GV.i .i64 ((s2.ps - 1:Nat):Int)]=(GV.i .i64 (IntKind.i64.wrap (((s2.ps:Nat):Int) - 1))).cells:=by
   rw[bN (by omega) (by omega)];show[_]=[_];congr 2;omega
  have ho2:=nF l s2.out;cases hb2:s2.bad with
  |none=>
   rw[show s2.out.bad.isNone=true by show s2.bad.isNone=true;rw[hb2];rfl] at ho2;dsimp only;refine bI Tryz.func157 rfl ?_;(conv=>whnf);refine cS [0] ho ?_;(conv=>whnf);refine cS [0] hi ?_;(conv=>whnf);refine gP ?_;(conv=>whnf);refine⟨_,⟨bE (i:=s.n) (by omega),zL _,rfl,bL rfl⟩,?_⟩;(conv=>whnf);refine⟨_,⟨bE (i:=s.ps) (by omega),zL _,rfl,bL rfl⟩,?_⟩;(conv=>whnf);refine gP ?_;(conv=>whnf);refine⟨_,⟨lC s.pm (s.ps+1),zL _,rfl,bL rfl⟩,?_⟩;(conv=>whnf);refine cG [0] h1 ?_;(conv=>whnf);refine st ?_;(conv=>whnf);refine cG [0] hw ?_;(conv=>whnf);refine⟨_,⟨hd,zL _,rfl,bL rfl⟩,?_⟩;(conv=>whnf);refine cS [0] ho2 ?_;(conv=>whnf);refine st ?_;(conv=>whnf);exact fin 1 (hw:=cJ c1.gvR_eq.symm)
  |some b=>
   rw[show s2.out.bad.isNone=false by show s2.bad.isNone=false;rw[hb2];rfl] at ho2;have h3:=hR ⟨s.n,none,s2.ps - 1,s.pm⟩ hn (by show s2.ps - 1<=s.n;omega) (by show 5*(l.length - s.n)+4<=f;omega);have hbc:GV.i .i64 (XI s2.bad)=.i .i64 ((b:Nat):Int):=by rw[hb2];rfl
   dsimp only;generalize rC (kR l) f .rel ⟨s.n,none,s2.ps - 1,s.pm⟩=p3 at*;obtain⟨c3,n3,b3,q3,m3⟩:=p3;dsimp only at h3⊢;rw[dW] at h3;cases b3 with
   |none=>
    refine bI Tryz.func157 rfl ?_;(conv=>whnf);refine cS [0] ho ?_;(conv=>whnf);refine cS [0] hi ?_;(conv=>whnf);refine gP ?_;(conv=>whnf);refine⟨_,⟨bE (i:=s.n) (by omega),zL _,rfl,bL rfl⟩,?_⟩;(conv=>whnf);refine⟨_,⟨bE (i:=s.ps) (by omega),zL _,rfl,bL rfl⟩,?_⟩;(conv=>whnf);refine gP ?_;(conv=>whnf);refine⟨_,⟨lC s.pm (s.ps+1),zL _,rfl,bL rfl⟩,?_⟩;(conv=>whnf);refine cG [0] h1 ?_;(conv=>whnf);refine st ?_;(conv=>whnf);refine cG [0] hw ?_;(conv=>whnf);refine⟨_,⟨hd,zL _,rfl,bL rfl⟩,?_⟩;(conv=>whnf);refine cS [0] ho2 ?_;(conv=>whnf);refine st ?_;(conv=>whnf);refine st ?_;(conv=>whnf);refine st ?_;(conv=>whnf);refine cG [0] h3 ?_;(conv=>whnf);refine st ?_;(conv=>whnf);refine st ?_;(conv=>whnf);exact fin 1 (hw:=cJ c3.gvR_eq.symm)
   |some b3=>
    have hmx:[GV.i .i64 ((max b3 b:Nat):Int)]=(GV.i .i64 (if XI s2.bad>((b3:Nat):Int) then XI s2.bad else((b3:Nat):Int))).cells:=by rw[hb2];exact lC b3 b
    refine bI Tryz.func157 rfl ?_;(conv=>whnf);refine cS [0] ho ?_;(conv=>whnf);refine cS [0] hi ?_;(conv=>whnf);refine gP ?_;(conv=>whnf);refine⟨_,⟨bE (i:=s.n) (by omega),zL _,rfl,bL rfl⟩,?_⟩;(conv=>whnf);refine⟨_,⟨bE (i:=s.ps) (by omega),zL _,rfl,bL rfl⟩,?_⟩;(conv=>whnf);refine gP ?_;(conv=>whnf);refine⟨_,⟨lC s.pm (s.ps+1),zL _,rfl,bL rfl⟩,?_⟩;(conv=>whnf);refine cG [0] h1 ?_;(conv=>whnf);refine st ?_;(conv=>whnf);refine cG [0] hw ?_;(conv=>whnf);refine⟨_,⟨hd,zL _,rfl,bL rfl⟩,?_⟩;(conv=>whnf);refine cS [0] ho2 ?_;(conv=>whnf);refine st ?_;(conv=>whnf);refine st ?_;(conv=>whnf);refine st ?_;(conv=>whnf);refine cG [0] h3 ?_;(conv=>whnf);refine st ?_;(conv=>whnf);refine⟨_,⟨hmx,zL _,rfl,bL rfl⟩,?_⟩;(conv=>whnf);refine st ?_;(conv=>whnf);exact fin 1 (hw:=cJ c3.gvR_eq.symm)
theorem a0f [MaxL] {l:List Tq} (w:WfR l) (f:Nat) (hP:RoP l f):RoN l (f+1):=by
 intro s hn hps hneed;have bG:=w.len;simp only[CK.need] at hneed;have ho:=nF l s;obtain⟨p,hp⟩:∃p,l[s.n]?=some p:=⟨l[s.n],gL hn⟩;have hi:=pH l s p hp iX;have ht:=rV hp;have h0:=hP s hn hps (by simp only[CK.need];omega);unfold rC;rw[ht];cases hb:s.bad with
 |some b=>
  rw[hb] at ho;replace ho:SC _ _ _ _ (.val (.b false)) _:=ho;rw[aB (fun h=>by cases h.1)];generalize rC (kR l) f .prim s=p0 at*;obtain⟨c0,s0⟩:=p0;dsimp only at h0⊢;rw[dW] at h0;refine bI Tryz.func107 rfl ?_;conv=>whnf
  refine cS [0] ho ?_;conv=>whnf
  refine cG [0] h0 ?_;conv=>whnf
  refine st ?_;conv=>whnf
  exact fin 1 (hw:=cJ c0.gvR_eq.symm)
 |none=>
  rw[hb] at ho;replace ho:SC _ _ _ _ (.val (.b true)) _:=ho;cases hc:gV p.t iX with
  |false=>
   rw[hc] at hi;rw[aB (fun h=>by cases h.2)];generalize rC (kR l) f .prim s=p0 at*;obtain⟨c0,s0⟩:=p0;dsimp only at h0⊢;rw[dW] at h0;refine bI Tryz.func107 rfl ?_;(conv=>whnf);refine cS [0] ho ?_;(conv=>whnf);refine cS [0] hi ?_;(conv=>whnf);refine cG [0] h0 ?_;(conv=>whnf);refine st ?_;(conv=>whnf);exact fin 1 (hw:=cJ c0.gvR_eq.symm)
  |true=>
   rw[hc] at hi;rw[aA ⟨rfl,rfl⟩];have ha:Inv l s s.adv:=.adv w hn (by rw[ht];exact lG hc);have h1:=hP s.adv ha.2.1 (by show s.ps<=s.n+1;omega) (by show 5*(l.length - (s.n+1))+5<=f;omega);generalize rC (kR l) f .prim s.adv=p0 at*;obtain⟨c0,s0⟩:=p0;dsimp only at h1⊢;rw[dW] at h1;refine bI Tryz.func107 rfl ?_;(conv=>whnf);refine cS [0] ho ?_;(conv=>whnf);refine cS [0] hi ?_;(conv=>whnf);refine⟨_,⟨bE (i:=s.n) (by omega),zL _,rfl,bL rfl⟩,?_⟩;(conv=>whnf);refine cG [0] h1 ?_;(conv=>whnf);refine st ?_;(conv=>whnf);refine fin 1 (hw:=?_);refine RP (k':=.sl .none [.agg c0.csR]) ?_ (b5 _ _);rw[show GV.agg c0.csR=_ from c0.gvR_eq];exact b5 _ _
instance [MaxL] (s:RS) (l:List Tq) (e:Cn):FH 3 [i7 l s,V7,X6 e]:=⟨fun e' he=>by
 have h1:GObj.ren e' (i7 l s)=i7 l s:=(RO.h (e:=e') (x:=i7 l s));have h2:GObj.ren e' V7=V7:=(RO.h (e:=e') (x:=V7));have h3:GObj.ren e' (X6 e)=X6 e:=(RO.h (e:=e') (x:=X6 e));show[_,_,_]=_;rw[h1,h2,h3]⟩
theorem JB [MaxL] {l:List Tq} {s:RS} {op:By} {a b:Cn} {r:Nat} {x:List GObj}:LessO (i7 l s::V7::.box 89 [.s op,.sl (.own r) [.agg [.s a.opR,.sl .none (a.kids.map Cn.gvR),.sl .none (a.sides.map Ex.gvR)],.agg [.s b.opR,.sl .none (b.kids.map Cn.gvR),.sl .none (b.sides.map Ex.gvR)]],.sl .full []]::x) (i7 l s::V7::X6 (.two op a b)::x):=by
 refine LessO.box (r:=2) rfl rfl (fun j g g' h h'=>?_);have hk:Wk (GV.sl (.own r) [.agg [.s a.opR,.sl .none (a.kids.map Cn.gvR),.sl .none (a.sides.map Ex.gvR)],.agg [.s b.opR,.sl .none (b.kids.map Cn.gvR),.sl .none (b.sides.map Ex.gvR)]]) (.sl .none ((Cn.two op a b).kids.map Cn.gvR)):=by
  show Wk _ (.sl .none [a.gvR,b.gvR]);rw[dW a,dW b];exact b5 _ _
 match j,h,h' with
 |0,h,h'=>cases h;cases h';exact .refl _
 |1,h,h'=>cases h;cases h';exact hk
 |2,h,h'=>cases h;cases h';exact b5 _ _
theorem YW [MaxL] {l:List Tq} (w:WfR l) (f:Nat) (hF:∀g,g<=f->RoN l g):RoB l (f+1):=by
 intro s hn hps hneed;have bG:=w.len;simp only[CK.need] at hneed;have i0:=jA w f .not s hn;have h0:=hF f (rL _) s hn hps (by simp only[CK.need];omega);unfold rC;generalize rC (kR l) f .not s=p0 at*;obtain⟨e0,s0⟩:=p0;obtain⟨j1,j2,j3⟩:=i0;dsimp only at h0 j1 j2 j3⊢;generalize hR:rC (kR l) f (.bothL e0) s0=R;rw[dW] at h0;refine bI Tryz.func73 rfl ?_;conv=>whnf
 refine cG [0] h0 ?_;conv=>whnf
 refine st ?_;conv=>whnf
 refine GLoop.introW (fun q:Nat×RS×Cn=>q.1<=f/\q.2.1.n<l.length/\q.2.1.ps<=q.2.1.n/\5*(l.length - q.2.1.n)+2<=q.1/\rC (kR l) q.1 (.bothL q.2.2) q.2.1=R) (fun q=>[(0,.ptr 0 0),(2,.ptr 1 0),(3,.ptr 2 0)])
  (fun q=>⟨[i7 l q.2.1,V7,X6 q.2.2],0,[]⟩) (fun q=>l.length - q.2.1.n) (f,s0,e0) ⟨rL _,j2,(by show s0.ps<=s0.n;omega),(by show 5*(l.length - s0.n)+2<=f;omega),hR⟩ ⟨rfl,rfl,rfl,trivial⟩ rfl (fun _ _=>rL _) (fun q _=>rfl) (fun q hq e he=>?_) (fun q φ0 hq=>?_)
 ·refine⟨(FH.h (n:=3) (s:=[i7 l q.2.1,V7,X6 q.2.2])) e (fun i hi=>he i hi),rfl,?_⟩;show[GV.ptr (e 0) 0,.ptr (e 1) 0,.ptr (e 2) 0]=_;rw[he 0 (by simp),he 1 (by simp),he 2 (by simp)];rfl
 obtain⟨f1,s1,e1⟩:=q;obtain⟨q1,q2,q3,q4,q5⟩:=hq;dsimp only at q1 q2 q3 q4 q5;obtain⟨g,rfl⟩:∃g,f1=g+1:=⟨f1 - 1,by omega⟩;obtain⟨p,hp⟩:∃p,l[s1.n]?=some p:=⟨l[s1.n],gL q2⟩;have ho:=nF l s1;have hi:=pH l s1 p hp [97,110,100];have ht:=rV hp;unfold rC at q5;rw[ht] at q5;conv=>whnf
 cases hb:s1.bad with
 |some b=>
  rw[hb] at ho q5;replace ho:SC _ _ _ _ (.val (.b false)) _:=ho;rw[aB (fun h=>by cases h.1)] at q5;subst q5;refine cS [0] ho ?_;conv=>whnf
  refine st ?_;conv=>whnf
  exact fin 1 (hw:=cJ e1.gvR_eq.symm)
 |none=>
  rw[hb] at ho q5;replace ho:SC _ _ _ _ (.val (.b true)) _:=ho;cases hc:gV p.t [97,110,100] with
  |false=>
   rw[hc] at hi q5;rw[aB (fun h=>by cases h.2)] at q5;subst q5;refine cS [0] ho ?_;(conv=>whnf);refine cS [0] hi ?_;(conv=>whnf);refine st ?_;(conv=>whnf);exact fin 1 (hw:=cJ e1.gvR_eq.symm)
  |true=>
   rw[hc] at hi q5;rw[aA ⟨rfl,rfl⟩] at q5;have ha:Inv l s1 s1.adv:=.adv w q2 (by rw[ht];exact lG hc);have hf:=hF g (by omega) s1.adv ha.2.1 (by show s1.ps<=s1.n+1;omega) (by show 5*(l.length - (s1.n+1))+6<=g;omega);have i1:=jA w g .not s1.adv ha.2.1;generalize rC (kR l) g .not s1.adv=p1 at*;obtain⟨e2,s2⟩:=p1;obtain⟨k1,k2,k3⟩:=i1;dsimp only at hf k1 k2 k3 q5;replace k1:s1.n+1<=s2.n:=k1;replace k3:s2.ps=s1.ps:=k3;rw[dW] at hf;refine cS [0] ho ?_;(conv=>whnf);refine cS [0] hi ?_;(conv=>whnf);refine⟨_,⟨bE (i:=s1.n) (by omega),zL _,rfl,bL rfl⟩,?_⟩;(conv=>whnf);refine fY (fun k=>!Nat.beq k 107) (b7 [some 2,none,none,some 3,none,some 2] rfl rfl (by kernel_rfl) ?_);(conv=>whnf);refine cG [0] hf ?_;(conv=>whnf);refine st ?_;(conv=>whnf);exact⟨l.length - s2.n,(by show _<l.length - s1.n;omega),(g,s2,.two [97,110,100] e1 e2),⟨by show g<=f;omega,k2,(by show s2.ps<=s2.n;omega),(by show 5*(l.length - s2.n)+2<=g;omega),q5⟩,rfl,⟨rfl,rfl,rfl,trivial⟩,_,JB,_,rfl,rfl⟩
theorem YV [MaxL] {l:List Tq} (w:WfR l) (f:Nat) (hF:∀g,g<=f->RoB l g):RoC l (f+1):=by
 intro s hn hps hneed;have bG:=w.len;simp only[CK.need] at hneed;have i0:=jA w f .both s hn;have h0:=hF f (rL _) s hn hps (by simp only[CK.need];omega);unfold rC;generalize rC (kR l) f .both s=p0 at*;obtain⟨e0,s0⟩:=p0;obtain⟨j1,j2,j3⟩:=i0;dsimp only at h0 j1 j2 j3⊢;generalize hR:rC (kR l) f (.condL e0) s0=R;rw[dW] at h0;refine bI Tryz.func31 rfl ?_;conv=>whnf
 refine cG [0] h0 ?_;conv=>whnf
 refine st ?_;conv=>whnf
 refine GLoop.introW (fun q:Nat×RS×Cn=>q.1<=f/\q.2.1.n<l.length/\q.2.1.ps<=q.2.1.n/\5*(l.length - q.2.1.n)+3<=q.1/\rC (kR l) q.1 (.condL q.2.2) q.2.1=R) (fun q=>[(0,.ptr 0 0),(2,.ptr 1 0),(3,.ptr 2 0)])
  (fun q=>⟨[i7 l q.2.1,V7,X6 q.2.2],0,[]⟩) (fun q=>l.length - q.2.1.n) (f,s0,e0) ⟨rL _,j2,(by show s0.ps<=s0.n;omega),(by show 5*(l.length - s0.n)+3<=f;omega),hR⟩ ⟨rfl,rfl,rfl,trivial⟩ rfl (fun _ _=>rL _) (fun q _=>rfl) (fun q hq e he=>?_) (fun q φ0 hq=>?_)
 ·refine⟨(FH.h (n:=3) (s:=[i7 l q.2.1,V7,X6 q.2.2])) e (fun i hi=>he i hi),rfl,?_⟩;show[GV.ptr (e 0) 0,.ptr (e 1) 0,.ptr (e 2) 0]=_;rw[he 0 (by simp),he 1 (by simp),he 2 (by simp)];rfl
 obtain⟨f1,s1,e1⟩:=q;obtain⟨q1,q2,q3,q4,q5⟩:=hq;dsimp only at q1 q2 q3 q4 q5;obtain⟨g,rfl⟩:∃g,f1=g+1:=⟨f1 - 1,by omega⟩;obtain⟨p,hp⟩:∃p,l[s1.n]?=some p:=⟨l[s1.n],gL q2⟩;have ho:=nF l s1;have hi:=pH l s1 p hp [111,114];have ht:=rV hp;unfold rC at q5;rw[ht] at q5;conv=>whnf
 cases hb:s1.bad with
 |some b=>
  rw[hb] at ho q5;replace ho:SC _ _ _ _ (.val (.b false)) _:=ho;rw[aB (fun h=>by cases h.1)] at q5;subst q5;refine cS [0] ho ?_;conv=>whnf
  refine st ?_;conv=>whnf
  exact fin 1 (hw:=cJ e1.gvR_eq.symm)
 |none=>
  rw[hb] at ho q5;replace ho:SC _ _ _ _ (.val (.b true)) _:=ho;cases hc:gV p.t [111,114] with
  |false=>
   rw[hc] at hi q5;rw[aB (fun h=>by cases h.2)] at q5;subst q5;refine cS [0] ho ?_;(conv=>whnf);refine cS [0] hi ?_;(conv=>whnf);refine st ?_;(conv=>whnf);exact fin 1 (hw:=cJ e1.gvR_eq.symm)
  |true=>
   rw[hc] at hi q5;rw[aA ⟨rfl,rfl⟩] at q5;have ha:Inv l s1 s1.adv:=.adv w q2 (by rw[ht];exact lG hc);have hf:=hF g (by omega) s1.adv ha.2.1 (by show s1.ps<=s1.n+1;omega) (by show 5*(l.length - (s1.n+1))+7<=g;omega);have i1:=jA w g .both s1.adv ha.2.1;generalize rC (kR l) g .both s1.adv=p1 at*;obtain⟨e2,s2⟩:=p1;obtain⟨k1,k2,k3⟩:=i1;dsimp only at hf k1 k2 k3 q5;replace k1:s1.n+1<=s2.n:=k1;replace k3:s2.ps=s1.ps:=k3;rw[dW] at hf;refine cS [0] ho ?_;(conv=>whnf);refine cS [0] hi ?_;(conv=>whnf);refine⟨_,⟨bE (i:=s1.n) (by omega),zL _,rfl,bL rfl⟩,?_⟩;(conv=>whnf);refine fY (fun k=>!Nat.beq k 73) (b7 [some 2,none,none,some 3,none,some 2] rfl rfl (by kernel_rfl) ?_);(conv=>whnf);refine cG [0] hf ?_;(conv=>whnf);refine st ?_;(conv=>whnf);exact⟨l.length - s2.n,(by show _<l.length - s1.n;omega),(g,s2,.two [111,114] e1 e2),⟨by show g<=f;omega,k2,(by show s2.ps<=s2.n;omega),(by show 5*(l.length - s2.n)+3<=g;omega),q5⟩,rfl,⟨rfl,rfl,rfl,trivial⟩,_,JB,_,rfl,rfl⟩
theorem NX [MaxL] {l:List Tq} (w:WfR l):∀f:Nat,(∀g,g<=f->RoL l g)/\(∀g,g<=f->RoP l g)/\(∀g,g<=f->RoN l g)/\(∀g,g<=f->RoB l g)/\(∀g,g<=f->RoC l g)
 |0=>⟨fun g hg s hn _ h=>by omega,fun g hg s hn _ h=>by simp only[CK.need] at h;omega,fun g hg s hn _ h=>by simp only[CK.need] at h;omega,fun g hg s hn _ h=>by simp only[CK.need] at h;omega,fun g hg s hn _ h=>by simp only[CK.need] at h;omega⟩
 |f+1=>by
  obtain⟨a,b,c,d,e⟩:=NX w f;refine⟨fun g hg=>?_,fun g hg=>?_,fun g hg=>?_,fun g hg=>?_,fun g hg=>?_⟩
  ·rcases Nat.le_succ_iff.1 hg with h|rfl
   ·exact a g h
   ·exact a0d w f
  ·rcases Nat.le_succ_iff.1 hg with h|rfl
   ·exact b g h
   ·exact YR w f (a f (rL _)) (e f (rL _))
  ·rcases Nat.le_succ_iff.1 hg with h|rfl
   ·exact c g h
   ·exact a0f w f (b f (rL _))
  ·rcases Nat.le_succ_iff.1 hg with h|rfl
   ·exact d g h
   ·exact YW w f c
  ·rcases Nat.le_succ_iff.1 hg with h|rfl
   ·exact e g h
   ·exact YV w f d
def Tk.okR:Tk->Prop
 |.nm x=>dE x=true
 |.sg x=>a1X.contains x=true
 |.fin=>False
 |_=>True
theorem VP {c:UInt8} (h:jI c=true):a1X.contains [c]=true:=by
 unfold jI at h;simp only[List.contains_cons,List.contains_nil,Bool.or_false,dJ,bU] at h;rcases h with h|h|h|h|h|h|h|h|h|h|h|h|h|h<;>subst h<;>decide
theorem VO {l:By} (h:gI l=true):a1X.contains (l.take 2)=true:=by
 unfold gI at h;simp only[List.contains_cons,List.contains_nil,Bool.or_false,dJ,bU] at h;rcases h with h|h|h<;>rw[h]<;>decide
theorem RN (c:UInt8) (t:By):(kX (c::t)).1.okR:=by
 by_cases h1:dA c=true
 ·rw[wR1 h1];dsimp only;split
  ·assumption
  ·trivial
 by_cases h2:bB c=true
 ·rw[wR2 h1 h2];dsimp only;split<;>trivial
 by_cases h3:c=34
 ·rw[wR3 h1 h2 h3];split
  ·cases vE ((c::t).take (2+bP t))<;>trivial
  ·trivial
 rw[wR4 h1 h2 h3];by_cases hp:gI (c::t)=true
 ·rw[aA hp];exact VO hp
 rw[aB hp];by_cases hg:jI c=true
 ·rw[aA hg];exact VP hg
 ·rw[aB hg];trivial
def WfM (m:List Tq):Prop:=(∀p∈m,p.t.okR∨p.t=.fin)/\(∀n p,m[n]?=some p->p.t≠ .fin->n+1<m.length)/\m≠[]
theorem WfM.cons {p:Tq} {m:List Tq} (h:p.t.okR) (w:WfM m):WfM (p::m):=by
 obtain⟨a,b,c⟩:=w;have hl:=List.length_pos_iff.2 c;refine⟨fun q hq=>?_,fun n q hn hf=>?_,fO _ _⟩
 ·rcases List.mem_cons.1 hq with rfl|hq
  ·exact .inl h
  ·exact a q hq
 ·cases n with
  |zero=>simp only[aM];omega
  |succ n=>have:=b n q hn hf;simp only[aM];omega
theorem sA (nl:Nat):∀(f ln:Nat) (l:By),l.length<f->(lA nl f ln l).length<=l.length+1/\WfM (lA nl f ln l)
 |0,ln,l,h=>by omega
 |f+1,ln,[],h=>by
  refine⟨rL _,fun p hp=>.inr ?_,fun n p hn hf=>?_,fO _ _⟩
  ·rw[List.mem_singleton.1 hp]
  ·cases n with
   |zero=>cases hn;exact absurd rfl hf
   |succ n=>cases hn
 |f+1,ln,c::t,h=>by
  simp only[aM] at h;have up:∀{ln':Nat} {l':By},l'.length<=t.length->(lA nl f ln' l').length<=(c::t).length+1/\WfM (lA nl f ln' l'):=fun{ln' l'} hl=>by
   obtain⟨a,b⟩:=sA nl f ln' l' (by omega);exact⟨by simp only[aM];omega,b⟩
  unfold lA;dsimp only;split
  ·exact up (rL _)
  split
  ·exact up (rL _)
  split
  ·exact up (List.dropWhile_suffix _).length_le
  ·obtain⟨w1,w2⟩:=E2 c t;have hl:((c::t).drop (kX (c::t)).2).length<=t.length:=by rw[cU];simp only[aM];omega
   obtain⟨a,b⟩:=sA nl f ln ((c::t).drop (kX (c::t)).2) (by omega);exact⟨by simp only[aM];omega,b.cons (RN c t)⟩
theorem E0 (s:By) (hs:s.length<=20000):WfR (dC s)/\0<(dC s).length:=by
 obtain⟨a,b,c,d⟩:=sA (if s.getLast?=some 10 then 1 else 0) (s.length+1) 1 s (eJ _);refine⟨⟨by show(dC s).length<=100000;unfold dC;omega,c,fun p hp x hx=>?_,fun p hp x hx=>?_⟩,List.length_pos_iff.2 d⟩
 ·rcases b p hp with h|h
  ·rw[hx] at h;exact h
  ·rw[hx] at h;cases h
 ·rcases b p hp with h|h
  ·rw[hx] at h;exact h
  ·rw[hx] at h;cases h
variable [Globals]
def a1q (g:GV):Prop:=∀(A B:Cx) (u:Value),VR A g u->VR B g u
def Fz (g:GV):Prop:=a1q g∨Cl g
theorem Rel.freeze {C D:Cx} {s:List GObj} {w w':World} {T:TypeId} {cs xs:List GV} {esz:Nat} (hC:∀r,s.length<=r->C.bk r=none/\C.own r=none) (hl:C.le D) (h:Rel D ⟨s++[.box T cs],0,[]⟩ w w') (hs:∀x∈s,∃T cs,x=.box T cs/\∀g∈cs,Fz g)
  (hcs:cs=flat xs) (hw:∀x∈xs,x.cells.length=esz) (hcl:∀g∈cs,Fz g):
  ∃E:Cx,C.le E/\Rel E ⟨s,0,[]⟩ w w'/\(∀(n c:Nat) (v:Value),n=xs.length->VR D (.rs s.length 0 esz n c) v->0<esz->VR E (.sl .none xs) v)/\∀g,Fz g->∀v,VR D g v->VR E g v:=by
 obtain⟨h0,b,vs,h1,h2,h3,_⟩:=h.obj s.length (.box T cs) (by simp);have hd:∀r,s.length<r->D.bk r=none/\D.own r=none:=fun r hr=>h.dom r (by simp;omega);have hown:∀r,D.own r=none:=fun r=>by
  rcases Nat.lt_trichotomy r s.length with hr|hr|hr
  ·obtain⟨T',cs',e,_⟩:=hs s[r] (dO hr);have:=h.obj r s[r] (by simp[aU hr,gL hr]);rw[e] at this;exact this.1
  ·subst hr;exact h0
  ·exact(hd r hr).2
 let E:Cx:={D with bk:=fun r=>if r=s.length then none else D.bk r,fx:=fun b' o v=>D.fx b' o v∨(b'=b/\vs[o]?=some v)};have hEb:∀r,r≠s.length->E.bk r=D.bk r:=fun r hr=>aB hr;have key:∀g,Fz g->∀u,VR D g u->VR E g u:=fun g hf u h=>by
  rcases hf with hf|hf
  ·exact hf D E u h
  ·refine VR.pull (D:=D) (E:=E) (f:=fun r=>if r=s.length then s.length+1 else r) (fun _ _ _ x=>.inl x) (fun i=>?_) (fun i=>?_) h (hf _).symm
   ·show(if i=s.length then none else D.bk i)=D.bk (if i=s.length then s.length+1 else i);split
    ·exact(hd _ (eJ _)).1.symm
    ·rfl
   ·show D.own i=D.own (if i=s.length then s.length+1 else i);rw[hown,hown]
 have keys:∀{gs:List GV} {us:List Value},(∀g∈gs,Fz g)->VRs D gs us->VRs E gs us:=fun hf h=>⟨h.1,fun j g u g1 g2=>key g (hf g (b9 g1)) u (h.2 j g u g1 g2)⟩;have hE0:E.bk s.length=none:=aA rfl;have hblk:∀r b',d8 E r=some b'->r≠s.length/\D.bk r=some b':=fun r b' hb=>by
  by_cases hr:r=s.length
  ·exfalso;have ho:E.own r=none:=hown r;rw[hr] at hb ho;simp[d8,hE0,ho] at hb
  ·refine⟨hr,?_⟩;have ho:E.own r=none:=hown r;unfold d8 at hb;rw[hEb r hr,ho] at hb;cases hq:D.bk r with
   |none=>rw[hq] at hb;cases hb
   |some z=>rw[hq] at hb;exact hb
 refine⟨E,⟨fun _ _ _ x=>.inl (hl.fx _ _ _ x),fun r b' x=>?_,fun r I x=>hl.own r I x,hl.hd,hl.fix⟩,⟨h.below,fun b' o v hx=>?_,fun r x hx=>?_,fun r hr=>?_,fun r b' hb=>h.new r b' (dM (hblk r b' hb).2),
  fun r r' b' hb hb'=>h.inj r r' b' (dM (hblk r b' hb).2) (dM (hblk r' b' hb').2),fun r b' o v hb hx=>?_,fun r I b' sz o v hI _ _=>?_,fun b' o v hx=>?_,
  fun g cs j x hg hj=>(h.gl g cs j x hg hj).imp fun u hu=>⟨.inl hu.1,fun F he=>hu.2 F fun _ _ _ hx=>he _ _ _ (.inl hx)⟩,h.gs⟩,⟨fun n c v hn hv hp=>?_,key⟩⟩
 ·have hr:r≠s.length:=fun e=>by subst e;rw[(hC _ (rL _)).1] at x;cases x
  rw[hEb r hr];exact hl.bk r b' x
 ·rcases hx with hx|⟨rfl,hx⟩
  ·exact h.fxc _ _ _ hx
  ·rw[cell_of_row w' _ o vs T (0,0) h2];exact hx
 ·have hr:r<s.length:=(List.getElem?_eq_some_iff.1 hx).1;obtain⟨T',cs',rfl,hf⟩:=hs x (b9 hx);obtain⟨g0,b',vs',g1,g2,g3⟩:=h.obj r (.box T' cs') (by rw[aU hr];exact hx);exact⟨g0,b',vs',(hEb r (by omega)).trans g1,g2,keys hf g3.1,g3.2⟩
 ·refine⟨?_,hown r⟩;have hr:s.length<=r:=hr;by_cases e:r=s.length
  ·rw[e];exact hE0
  ·rw[hEb r e];exact(hd r (by omega)).1
 ·have hr:r≠s.length:=fun e=>by rw[e,hE0] at hb;cases hb
  rw[hEb r hr] at hb;rcases hx with hx|⟨rfl,hx⟩
  ·exact h.sepB r _ _ _ hb hx
  ·exact hr (h.inj r s.length _ (dM hb) (dM h1))
 ·have ho:E.own r=none:=hown r;rw[ho] at hI;cases hI
 ·rcases hx with hx|⟨rfl,hx⟩
  ·exact h.fxn _ _ _ hx
  ·exact .inr (h.new s.length _ (dM h1))
 ·have h4:VRs E cs (vs.toList.take cs.length):=keys hcl h3;rw[hcs] at h4;cases hv with
  |rp hb=>omega
  |rs hb hc _ _=>
   rw[h1] at hb;cases hb;subst hn;refine ID hw h4 (fun j u hj=>?_) hc trivial;rw[bM];refine .inr ⟨rfl,?_⟩;rw[cH] at hj;split at hj
   ·rw[bJ] at hj;exact hj
   ·cases hj
