/- Part of HostValues. -/
import Derived.Test.YtmnjcddcihdlfaaGreatDoorV28
set_option linter.all false
set_option maxRecDepth 100000
namespace Go.Proofs.YtmnjcddcihdlfaaGreatDoor
section
open Go.RowKit
theorem j4 [MaxL] (n:Nat) {s s':List GObj} {r r' r0:GRes} {σ0:GS} [i1:FH n s'] [i2:FR n r'] (hr:r0=r) (ho:σ0.objs.take n=s')
  (hw:WkRes r r':=by exact WkRes.refl _) (hn:s'.length=n:=by rfl) (hl:s.length<=n:=by first|exact rL _|exact bL rfl) (hh:s'.all GObj.notHeld=true:=by rfl):
  Owes s r' s' r0 σ0:=by
 subst hr;obtain⟨objs,lo,ds⟩:=σ0;exact fin n hw ho hn hl hh
theorem JQ [MaxL] (l:List Tp) (s s2:PS) (d:Nat) (g:GV) [KG g] (hf:SC Tryz.prog 199 [.ptr 1 0,.ptr 2 0,.ptr 3 0] (E4 l s d gU) (.val (.tup [])) (E4 l s2 d g)):
  SC Tryz.prog 198 [.ptr 0 0,.fn (.func 199) [] [.ptr 1 0,.ptr 2 0,.ptr 3 0]] (E4 l s d gU) (.val (.b true)) (E4 l s2 d g):=by
 refine bI Tryz.func198 rfl ?_;conv=>whnf
 refine st ?_;conv=>whnf
 refine cG [0,1,2,3] hf ?_;conv=>whnf
 refine st ?_;conv=>whnf
 exact j4 (r:=.val (.b true)) 4 (by kernel_rfl) (by kernel_rfl)
theorem MG [MaxL] (l:List Tp) (s s2:PS) (d:Nat) (g:GV) [KG g] (hf:SC Tryz.prog 199 [.ptr 1 0,.ptr 2 0,.ptr 3 0] (E4 l s d gU) (.panic mL) (E4 l s2 d g)):
  SC Tryz.prog 198 [.ptr 0 0,.fn (.func 199) [] [.ptr 1 0,.ptr 2 0,.ptr 3 0]] (E4 l s d gU) (.val (.b false)) (E4 l ⟨s.n,max s2.far s.far,s.pr⟩ d g):=by
 have hmx:GV.i .i64 (if((s.far:Nat):Int)>((s2.far:Nat):Int) then((s.far:Nat):Int) else((s2.far:Nat):Int))=.i .i64 ((max s2.far s.far:Nat):Int):=(List.cons.inj (lC s2.far s.far)).1.symm;have hx:E4 l ⟨s.n,max s2.far s.far,s.pr⟩ d g=[.box 173 [.sl .none (lW l),.i .i64 (s.n:Nat),.i .i64 (if((s.far:Nat):Int)>((s2.far:Nat):Int) then((s.far:Nat):Int) else((s2.far:Nat):Int)),.i .i64 0,.i .i64 0,.i .i64 (s.pr:Nat),.b false],.box 133 [.ptr 0 0],.box 3 [.i .i64 (d:Nat)],.box 81 [g]]:=by
  rw[hmx]
 rw[hx];refine bI Tryz.func198 rfl ?_;conv=>whnf
 refine st ?_;conv=>whnf
 refine cG [0,1,2,3] hf ?_;conv=>whnf
 exact j4 (r:=.val (.b false)) 4 (by kernel_rfl) (by kernel_rfl)
def mEx:FuncId->Bool:=onM [52]
instance [MaxL] (c:Cn):KL c.csP:=⟨c.clL⟩
theorem a0c [MaxL] (l:List Tp) (s:PS):∀x∈[kQ l s],∃T cs,x=.box T cs/\∀g∈cs,Fz g:=fun x hx=>by
 rw[List.mem_singleton.1 hx];refine⟨_,_,rfl,fun g hg=>.inr ?_⟩;simp only[dU,cZ,or_false] at hg;rcases hg with rfl|rfl|rfl|rfl|rfl|rfl|rfl
 ·exact(KG.h (g:=.sl .none (lW l)))
 all_goals exact fun _=>rfl
inductive Way [MaxL] (l:List Tp) (d:Nat) (s:PS) (p:Tp):PS->Prop where
 |no (h:gV p.t [40]=false):Way l d s p s
 |tried (h:gV p.t [40]=true) (st:PS) (hn:st.n=s.n) (g:GV) (hg:KG g) (ht:SC Tryz.prog 198 [.ptr 0 0,.fn (.func 199) [] [.ptr 1 0,.ptr 2 0,.ptr 3 0]] (E4 l s d gU) (.val (.b false)) (E4 l st d g)):Way l d s p st
theorem a19 [MaxL] (q:Nat) {x x0 x1:GObj} {objs:List GObj} {lo:Nat} {ds:List GDef} (hq:q≠0) (h0:objs[0]?=some x0) (h1:objs[q]?=some x1) [i0:FO 0 x0] [i1:FO 0 x1] (n0:x0.notHeld=true:=by rfl) (n1:x1.notHeld=true:=by rfl):Owes [x] (.val (.ptr 1 0)) [x0,x1] (.val (.ptr q 0)) ⟨objs,lo,ds⟩:=by
 have c:∀{y:GObj} [FO 0 y] (e:Nat->Nat),y.ren e=y:=fun{y} i e=>i.h e (fun j hj=>absurd hj (Nat.not_lt_zero j));refine⟨[0,q],⟨by simp[hq.symm],rfl,fun i k y h2 h3=>?_,fun y hy=>?_⟩,fun i hi=>?_,?_⟩
 ·rcases i with _|_|i
  ·cases h2;cases h3;rw[c];exact h0
  ·cases h2;cases h3;rw[c];exact h1
  ·cases h2
 ·simp only[dU,cZ,or_false] at hy;rcases hy with rfl|rfl
  ·intro e;rw[e] at n0;cases n0
  ·intro e;rw[e] at n1;cases n1
 ·have:i=0:=by simp at hi;omega
  subst this;rfl
 ·show Wk (.ptr q 0) (.ptr (iB [0,q] _ 1) 0);rw[jD (by simp)];exact .refl _
theorem XZ [MaxL] (l:List Tp) (w:WfT l) (f:Nat) (hE:∀g,g<=f->V5 l g) (d:Nat) (s st:PS) (p:Tp) (hp:l[s.n]?=some p) (hk:p.ok) (hn:s.n<l.length) (hd:d<=s.n) (hneed:5*(l.length - s.n)+4<=f) (hw:Way l d s p st):
  SC Tryz.prog 174 [.ptr 0 0,.i .i64 (d:Nat)] [kQ l s] (l8 (pC (wT l) f .rel d st).1) [kQ l (pC (wT l) f .rel d st).2]:=by
 have hl:=w.len;have hwl:(wT l).length=l.length:=aS _;have hst:st.n=s.n:=by cases hw<;>first|rfl|assumption
 obtain⟨f,rfl⟩:∃k,f=k+1:=⟨f - 1,by omega⟩;have hc:=hE f (by omega) d st (by rw[hst];exact hn) (by rw[hst];exact hd) (by rw[hst];simp only[EK.need];omega);have his:=JT l s p hp hk [40];unfold pC;cases hpe:pE (wT l) f .expr d st with
 |mk o s1=>
 rw[hpe] at hc;cases o with
 |none=>
  dsimp only[kA,l8] at hc⊢;cases hw
  case no h=>
   rw[h] at his;refine bI Tryz.func174 rfl ?_;(conv=>whnf);refine cG [0] his ?_;(conv=>whnf);refine cG [0] hc ?_;(conv=>whnf);exact fin 1
  case tried h hn g hg ht=>
   rw[h] at his;refine bI Tryz.func174 rfl ?_;(conv=>whnf);refine cG [0] his ?_;(conv=>whnf);refine cG [0,1,2,3] ht ?_;(conv=>whnf);refine cG [0] hc ?_;(conv=>whnf);exact fin 1
 |some a=>
 obtain⟨hn1,hg1⟩:=B2 w.next f .expr d st (by rw[hwl,hst];exact hn) (by rw[hwl,hst];simp only[EK.need];omega) hpe;rw[hwl] at hn1;simp only[EK.gain] at hg1;obtain⟨p1,hp1,hk1,ht1,hnext1⟩:=w.at_ hn1;have hnow:=sM l s1 p1 hp1;dsimp only[kA] at hc;dsimp only;rw[ht1];by_cases hrel:∃op,p1.t=.sg op/\FP.contains op=true;rotate_left
 ·have pY:∀{α:Type} (F:By->α) (z:α),(match p1.t with|.sg op=>if FP.contains op=true then F op else z|_=>z)=z:=fun F z=>by
   split
   ·rename_i op e;by_cases h:FP.contains op=true
    ·exact absurd ⟨op,e,h⟩ hrel
    ·rw[aB h]
   ·rfl
  obtain⟨t1,raw1,ln1⟩:=p1;cases t1
  case sg y=>
   have hr:raw1=y:=hk1.1;subst hr;have hcn:FP.contains raw1=false:=by
    cases h:FP.contains raw1 with
    |false=>rfl
    |true=>exact absurd ⟨raw1,rfl,h⟩ hrel
   have hct:=oY FP raw1 (by decide);rw[hcn] at hct;dsimp only;rw[aB (by rw[hcn];simp)];dsimp only[l8];cases hw
   case no h=>
    rw[h] at his;refine bI Tryz.func174 rfl ?_;(conv=>whnf);refine cG [0] his ?_;(conv=>whnf);refine cG [0] hc ?_;(conv=>whnf);refine cG [0] hnow ?_;(conv=>whnf);refine _root_.Go.Proofs.YtmnjcddcihdlfaaGreatDoor.st ?_;(conv=>whnf);refine cP hct ?_;(conv=>whnf);refine cG [0] (nG l s1) ?_;(conv=>whnf);exact fin 1
   case tried h hn g hg ht=>
    rw[h] at his;refine bI Tryz.func174 rfl ?_;(conv=>whnf);refine cG [0] his ?_;(conv=>whnf);refine cG [0,1,2,3] ht ?_;(conv=>whnf);refine cG [0] hc ?_;(conv=>whnf);refine cG [0] hnow ?_;(conv=>whnf);refine _root_.Go.Proofs.YtmnjcddcihdlfaaGreatDoor.st ?_;(conv=>whnf);refine cP hct ?_;(conv=>whnf);refine cG [0] (nG l s1) ?_;(conv=>whnf);exact fin 1
  all_goals
   dsimp only[l8];cases hw
   case no h=>
    rw[h] at his;refine bI Tryz.func174 rfl ?_;(conv=>whnf);refine cG [0] his ?_;(conv=>whnf);refine cG [0] hc ?_;(conv=>whnf);refine cG [0] hnow ?_;(conv=>whnf);refine _root_.Go.Proofs.YtmnjcddcihdlfaaGreatDoor.st ?_;(conv=>whnf);refine cG [0] (nG l s1) ?_;(conv=>whnf);exact fin 1
   case tried h hn g hg ht=>
    rw[h] at his;refine bI Tryz.func174 rfl ?_;(conv=>whnf);refine cG [0] his ?_;(conv=>whnf);refine cG [0,1,2,3] ht ?_;(conv=>whnf);refine cG [0] hc ?_;(conv=>whnf);refine cG [0] hnow ?_;(conv=>whnf);refine _root_.Go.Proofs.YtmnjcddcihdlfaaGreatDoor.st ?_;(conv=>whnf);refine cG [0] (nG l s1) ?_;(conv=>whnf);exact fin 1
 obtain⟨op,ho1,ho2⟩:=hrel;obtain⟨t1,raw1,ln1⟩:=p1;cases ho1;have hr:raw1=op:=hk1.1;subst hr;have hn2:s1.n+1<l.length:=hnext1 (by simp) (by simp);have hct:=oY FP raw1 (by decide);rw[ho2] at hct;have hc2:=hE f (by omega) d s1.adv hn2 (by show d<=s1.n+1;omega) (by simp only[EK.need,PS.adv];omega);dsimp only;rw[aA ho2];generalize pE (wT l) f .expr d s1.adv=Q at hc2;obtain⟨_|b,s2⟩:=Q
 ·dsimp only[kA,l8] at hc2⊢;cases hw
  case no h=>
   rw[h] at his;refine f8 mEx mixed Tryz.func174 rfl (bL rfl) (by first|exact rL _|simp) rfl ?_;(conv=>whnf);refine cG [0] his ?_;(conv=>whnf);refine cG [0] hc ?_;(conv=>whnf);refine cG [0] hnow ?_;(conv=>whnf);refine _root_.Go.Proofs.YtmnjcddcihdlfaaGreatDoor.st ?_;(conv=>whnf);refine cP hct ?_;(conv=>whnf);refine⟨_,⟨bE (by omega),zL _,rfl,bL rfl⟩,?_⟩;(conv=>whnf);refine GDraw.pan 6 _ rfl (by kernel_rfl) ?_;(conv=>whnf);refine cG [0] hc2 ?_;(conv=>whnf);exact fin 1
  case tried h hn g hg ht=>
   rw[h] at his;refine f8 mEx mixed Tryz.func174 rfl (bL rfl) (by first|exact rL _|simp) rfl ?_;(conv=>whnf);refine cG [0] his ?_;(conv=>whnf);refine cG [0,1,2,3] ht ?_;(conv=>whnf);refine cG [0] hc ?_;(conv=>whnf);refine cG [0] hnow ?_;(conv=>whnf);refine _root_.Go.Proofs.YtmnjcddcihdlfaaGreatDoor.st ?_;(conv=>whnf);refine cP hct ?_;(conv=>whnf);refine⟨_,⟨bE (by omega),zL _,rfl,bL rfl⟩,?_⟩;(conv=>whnf);refine GDraw.pan 6 _ rfl (by kernel_rfl) ?_;(conv=>whnf);refine cG [0] hc2 ?_;(conv=>whnf);exact fin 1
 ·dsimp only[kA,l8] at hc2⊢;refine SC.freezeP (s':=[kQ l s2]) (T:=161) (cs:=(Cn.rel raw1 a b).csP) ?_ rfl (a0c l s2) (fun g hg=>.inr ?_) (Nat.zero_lt_succ _);rotate_left
  ·exact fun e=>List.map_inj_left.1 (((Cn.rel raw1 a b).clL e).trans (List.map_id _).symm) g hg
  cases hw
  case no h=>
   rw[h] at his;refine f8 mEx mixed Tryz.func174 rfl (bL rfl) (by first|exact rL _|simp) rfl ?_;(conv=>whnf);refine cG [0] his ?_;(conv=>whnf);refine cG [0] hc ?_;(conv=>whnf);refine cG [0] hnow ?_;(conv=>whnf);refine _root_.Go.Proofs.YtmnjcddcihdlfaaGreatDoor.st ?_;(conv=>whnf);refine cP hct ?_;(conv=>whnf);refine⟨_,⟨bE (by omega),zL _,rfl,bL rfl⟩,?_⟩;(conv=>whnf);refine hH _ _ _ rfl rfl rfl (by kernel_rfl) ?_;(conv=>whnf);refine cG [0] hc2 ?_;(conv=>whnf);refine _root_.Go.Proofs.YtmnjcddcihdlfaaGreatDoor.st ?_;(conv=>whnf);refine _root_.Go.Proofs.YtmnjcddcihdlfaaGreatDoor.st ?_;(conv=>whnf);exact a19 3 (Nat.succ_ne_zero _) (by kernel_rfl) (by kernel_rfl)
  case tried h hn g hg ht=>
   rw[h] at his;refine f8 mEx mixed Tryz.func174 rfl (bL rfl) (by first|exact rL _|simp) rfl ?_;(conv=>whnf);refine cG [0] his ?_;(conv=>whnf);refine cG [0,1,2,3] ht ?_;(conv=>whnf);refine cG [0] hc ?_;(conv=>whnf);refine cG [0] hnow ?_;(conv=>whnf);refine _root_.Go.Proofs.YtmnjcddcihdlfaaGreatDoor.st ?_;(conv=>whnf);refine cP hct ?_;(conv=>whnf);refine⟨_,⟨bE (by omega),zL _,rfl,bL rfl⟩,?_⟩;(conv=>whnf);refine hH _ _ _ rfl rfl rfl (by kernel_rfl) ?_;(conv=>whnf);refine cG [0] hc2 ?_;(conv=>whnf);refine _root_.Go.Proofs.YtmnjcddcihdlfaaGreatDoor.st ?_;(conv=>whnf);refine _root_.Go.Proofs.YtmnjcddcihdlfaaGreatDoor.st ?_;(conv=>whnf);exact a19 4 (Nat.succ_ne_zero _) (by kernel_rfl) (by kernel_rfl)
theorem EE {l:List Tk} (w:WfP l) (hw:WfN l) (f:Nat) (k:CK) (d:Nat) (s:PS) (hn:s.n<l.length) (hf:k.need (l.length - s.n)<=f) {e:Cn} {s':PS} (h:pC l f k d s=(some e,s')):s'.n<l.length/\s.n+k.gain<=s'.n:=by
 have:=a0T l l ⟨w,fun _ _=>rfl⟩ hw f k d s hn hf;rw[h] at this;exact⟨this.2.1,this.2.2⟩
theorem WfT.names {l:List Tp} (w:WfT l):WfN (wT l):=⟨fun n x h=>by
 unfold tk wT at h;rw[aL,aG] at h;cases hp:l[n]? with
 |none=>rw[hp] at h;cases h
 |some p=>
  rw[hp] at h;exact(w.ok p (b9 hp)).name h⟩
def zV [MaxL] (k:CK) (F:FuncId) (l:List Tp) (f:Nat):Prop:=∀d s,s.n<l.length->d<=s.n->k.need (l.length - s.n)<=f->SC Tryz.prog F [.ptr 0 0,.i .i64 (d:Nat)] [kQ l s] (l8 (pC (wT l) f k d s).1) [kQ l (pC (wT l) f k d s).2]
theorem ZI [MaxL] (l:List Tp) (w:WfT l) (f:Nat) (hC:zV .cond 69 l f) (hE:∀g,g<=f->V5 l g):zV .prim 174 l (f+1):=by
 intro d s hn hd hneed;have hl:=w.len;have hwl:(wT l).length=l.length:=aS _;simp only[CK.need] at hneed;obtain⟨p,hp,hk,ht,lT⟩:=w.at_ hn;unfold pC;rw[ht];by_cases h1:gV p.t [40]=true;rotate_left
 ·rw[aB h1];exact XZ l w f hE d s s p hp hk hn hd (by omega) (.no (by simpa using h1))
 rw[aA h1];have hn1:s.n+1<l.length:=lT (by rintro e;rw[e] at h1;cases h1) (by rintro e;rw[e] at h1;cases h1);have hc:=hC (d+1) (s.adv.deep (d+1)) hn1 (by show d+1<=s.n+1;omega) (by simp only[CK.need,PS.adv,PS.deep];omega);have hlt:=fun e s'=>EE w.next w.names f .cond (d+1) (s.adv.deep (d+1)) (by rw[hwl];exact hn1) (by rw[hwl];simp only[CK.need,PS.adv,PS.deep];omega) (e:=e) (s':=s');rw[hwl] at hlt;have way:∀(s2:PS) (g:GV) [KG g],SC Tryz.prog 199 [.ptr 1 0,.ptr 2 0,.ptr 3 0] (E4 l s d gU) (.panic mL) (E4 l s2 d g)->
   SC Tryz.prog 174 [.ptr 0 0,.i .i64 (d:Nat)] [kQ l s] (l8 (pC (wT l) f .rel d ⟨s.n,max s2.far s.far,s.pr⟩).1) [kQ l (pC (wT l) f .rel d ⟨s.n,max s2.far s.far,s.pr⟩).2]:=fun s2 g hg hf=>
  XZ l w f hE d s ⟨s.n,max s2.far s.far,s.pr⟩ p hp hk hn hd (by omega) (.tried h1 _ rfl g hg (MG l s s2 d g hf))
 generalize pC (wT l) f .cond (d+1) (s.adv.deep (d+1))=P at hc hlt;obtain⟨_|c,s1⟩:=P
 ·have hf:=U0 l s s1 d none (by omega) (by omega) hc p (fun h=>by cases h) p (fun h=>by cases h);rw[aB (by simp),aB (by simp)] at hf;exact way s1 gU hf
 obtain⟨l1,l2⟩:=hlt c s1 rfl;obtain⟨p1,hp1,hk1,ht1,hnext1⟩:=w.at_ l1;dsimp only;rw[ht1];by_cases h2:gV p1.t [41]=true;rotate_left
 ·have hf:=U0 l s s1 d (some c) (by omega) (by omega) hc p1 (fun _=>⟨by omega,hp1,hk1⟩) p1 (fun _ h=>absurd h h2);rw[aB (fun h=>h2 h.2.1),aA (show(some c).isSome=true from rfl),aB h2] at hf;rw[aB h2];exact way s1.wr c.gvP hf
 have hn2:s1.n+1<l.length:=hnext1 (by rintro e;rw[e] at h2;cases h2) (by rintro e;rw[e] at h2;cases h2);obtain⟨p2,hp2,hk2,ht2,_⟩:=w.at_ hn2;have hf:=U0 l s s1 d (some c) (by omega) (by omega) hc p1 (fun _=>⟨by omega,hp1,hk1⟩) p2 (fun _ _=>⟨hp2,hk2⟩);rw[aA h2,ht2];rw[aA (show(some c).isSome=true from rfl),aA h2] at hf;by_cases h3:PZ p2.t=true
 ·rw[aB (fun h=>by rw[h3] at h;exact absurd h.2.2 (by simp)),aA h3] at hf;rw[aA h3];exact way s1.adv.wr c.gvP hf
 rw[aA ⟨rfl,h2,by simpa using h3⟩,aB h3] at hf;rw[aB h3];have hty:=JQ l s s1.adv d c.gvP hf;have his:=JT l s p hp hk [40];rw[h1] at his;dsimp only[l8];refine bI Tryz.func174 rfl ?_;conv=>whnf
 refine cG [0] his ?_;conv=>whnf
 refine cG [0,1,2,3] hty ?_;conv=>whnf
 exact fin 1
theorem a0z [MaxL] (l:List Tp) (w:WfT l) (f:Nat) (hP:zV .prim 174 l f):zV .not 153 l (f+1):=by
 intro d s hn hd hneed;have hl:=w.len;simp only[CK.need] at hneed;obtain⟨p,hp,hk,ht,lT⟩:=w.at_ hn;unfold pC;rw[ht];by_cases h1:gV p.t iX=true
 ·rw[aA h1];have hn1:s.n+1<l.length:=lT (by rintro e;rw[e] at h1;cases h1) (by rintro e;rw[e] at h1;cases h1);have hm:=kT l s p hp hk iX h1 (by omega);have hc:=hP d s.adv hn1 (by show d<=s.n+1;omega) (by simp only[CK.need,PS.adv];omega);generalize pC (wT l) f .prim d s.adv=P at hc;obtain⟨_|c,s1⟩:=P;all_goals
   dsimp only[l8] at hc⊢;refine bI Tryz.func153 rfl ?_;(conv=>whnf);refine cG [0] hm ?_;(conv=>whnf);refine cG [0] hc ?_;(conv=>whnf);exact fin 1
 ·rw[aB h1];have hm:=nO l s p hp hk iX (by simpa using h1);have hc:=hP d s hn hd (by simp only[CK.need];omega);generalize pC (wT l) f .prim d s=P at hc;obtain⟨_|c,s1⟩:=P;all_goals
   dsimp only[l8] at hc⊢;refine bI Tryz.func153 rfl ?_;(conv=>whnf);refine cG [0] hm ?_;(conv=>whnf);refine cG [0] hc ?_;(conv=>whnf);exact fin 1
theorem ZO [MaxL] (l:List Tp) (w:WfT l) (f:Nat) (IH:∀g,g<=f->zV .not 153 l g):zV .both 103 l (f+1):=by
 intro d s hn hd hneed;have hl:=w.len;have hwl:(wT l).length=l.length:=aS _;simp only[CK.need] at hneed;have hc:=IH f (rL _) d s hn hd (by simp only[CK.need];omega);unfold pC;cases hp:pC (wT l) f .not d s with
 |mk o s1=>
 rw[hp] at hc;cases o with
 |none=>
  dsimp only[l8] at hc⊢;refine bI Tryz.func103 rfl ?_;conv=>whnf
  refine cG [0] hc ?_;conv=>whnf
  exact fin 1
 |some e1=>
 obtain⟨hn1,hg1⟩:=EE w.next w.names f .not d s (by rw[hwl];exact hn) (by rw[hwl];simp only[CK.need];omega) hp;rw[hwl] at hn1;simp only[CK.gain] at hg1;dsimp only[l8] at hc;dsimp only;generalize hR:pC (wT l) f (.bothL e1) d s1=R;refine bI Tryz.func103 rfl ?_;conv=>whnf
 refine cG [0] hc ?_;conv=>whnf
 refine GLoop.introS (fun q:Nat×Cn×PS=>q.1<=f/\q.2.2.n<l.length/\d<=q.2.2.n/\(CK.bothL q.2.1).need (l.length - q.2.2.n)<=q.1/\pC (wT l) q.1 (.bothL q.2.1) d q.2.2=R)
  (fun q=>[(0,.ptr 0 0),(1,.i .i64 (d:Nat)),(5,q.2.1.gvP)]) (fun q=>⟨[kQ l q.2.2],0,[]⟩) (fun q=>l.length - q.2.2.n) (f,e1,s1) ⟨rL _,hn1,by show d<=s1.n;omega,by simp only[CK.need];omega,hR⟩ ⟨rfl,rfl,rfl,trivial⟩ rfl
  (fun _ _=>rL _) (fun _ _=>rfl) (fun q _ e he=>⟨(FH.h (n:=1) (s:=[kQ l q.2.2]) e he),rfl,?_⟩) (fun q φ0 hq=>?_)
 ·show[GV.ptr (e 0) 0,_,GV.ren e q.2.1.gvP]=_;rw[he 0 (by simp),q.2.1.cl];rfl
 obtain⟨g,e,t⟩:=q;obtain⟨hq1,hq2,hq3,hq4,hq5⟩:=hq;replace hq1:g<=f:=hq1;replace hq2:t.n<l.length:=hq2;replace hq3:d<=t.n:=hq3;replace hq4:5*(l.length - t.n)+2<=g:=hq4;replace hq5:pC (wT l) g (.bothL e) d t=R:=hq5;obtain⟨g,rfl⟩:∃k,g=k+1:=⟨g - 1,by omega⟩;obtain⟨p,hpt,hk,ht,lT⟩:=w.at_ hq2;unfold pC at hq5;rw[ht] at hq5;by_cases h1:gV p.t [97,110,100]=true
 ·have hm:=kT l t p hpt hk [97,110,100] h1 (by omega);rw[aA h1] at hq5;have hn2:t.n+1<l.length:=lT (by rintro e;rw[e] at h1;cases h1) (by rintro e;rw[e] at h1;cases h1);have hc2:=IH g (by omega) d t.adv hn2 (by show d<=t.n+1;omega) (by simp only[CK.need,PS.adv];omega);have hlt:=fun e' s'=>EE w.next w.names g .not d t.adv (by rw[hwl];exact hn2) (by rw[hwl];simp only[CK.need,PS.adv];omega) (e:=e') (s':=s');rw[hwl] at hlt;generalize pC (wT l) g .not d t.adv=Q at hc2 hq5 hlt;obtain⟨_|e',t'⟩:=Q
  ·dsimp only[l8] at hc2 hq5;subst hq5;(conv=>whnf);refine cG [0] hm ?_;(conv=>whnf);refine cG [0] hc2 ?_;(conv=>whnf);exact fin 1
  ·dsimp only[l8] at hc2 hq5;obtain⟨l1,l2⟩:=hlt e' t' rfl;simp only[CK.gain,PS.adv] at l2;(conv=>whnf);refine cG [0] hm ?_;(conv=>whnf);refine cG [0] hc2 ?_;(conv=>whnf);exact⟨l.length - t'.n,(by show l.length - t'.n<l.length - t.n;omega),(g,Cn.two [97,110,100] e e',t'),⟨by show g<=f;omega,l1,by show d<=t'.n;omega,by show 5*(l.length - t'.n)+2<=g;omega,hq5⟩,rfl,⟨rfl,rfl,rfl,trivial⟩,_,rfl,rfl⟩
 ·have hm:=nO l t p hpt hk [97,110,100] (by simpa using h1);rw[aB h1] at hq5;subst hq5;dsimp only[l8];conv=>whnf
  refine cG [0] hm ?_;conv=>whnf
  exact fin 1
theorem ZN [MaxL] (l:List Tp) (w:WfT l) (f:Nat) (IH:∀g,g<=f->zV .both 103 l g):zV .cond 69 l (f+1):=by
 intro d s hn hd hneed;have hl:=w.len;have hwl:(wT l).length=l.length:=aS _;simp only[CK.need] at hneed;have hc:=IH f (rL _) d s hn hd (by simp only[CK.need];omega);unfold pC;cases hp:pC (wT l) f .both d s with
 |mk o s1=>
 rw[hp] at hc;cases o with
 |none=>
  dsimp only[l8] at hc⊢;refine bI Tryz.func69 rfl ?_;conv=>whnf
  refine cG [0] hc ?_;conv=>whnf
  exact fin 1
 |some e1=>
 obtain⟨hn1,hg1⟩:=EE w.next w.names f .both d s (by rw[hwl];exact hn) (by rw[hwl];simp only[CK.need];omega) hp;rw[hwl] at hn1;simp only[CK.gain] at hg1;dsimp only[l8] at hc;dsimp only;generalize hR:pC (wT l) f (.condL e1) d s1=R;refine bI Tryz.func69 rfl ?_;conv=>whnf
 refine cG [0] hc ?_;conv=>whnf
 refine GLoop.introS (fun q:Nat×Cn×PS=>q.1<=f/\q.2.2.n<l.length/\d<=q.2.2.n/\(CK.condL q.2.1).need (l.length - q.2.2.n)<=q.1/\pC (wT l) q.1 (.condL q.2.1) d q.2.2=R)
  (fun q=>[(0,.ptr 0 0),(1,.i .i64 (d:Nat)),(5,q.2.1.gvP)]) (fun q=>⟨[kQ l q.2.2],0,[]⟩) (fun q=>l.length - q.2.2.n) (f,e1,s1) ⟨rL _,hn1,by show d<=s1.n;omega,by simp only[CK.need];omega,hR⟩ ⟨rfl,rfl,rfl,trivial⟩ rfl
  (fun _ _=>rL _) (fun _ _=>rfl) (fun q _ e he=>⟨(FH.h (n:=1) (s:=[kQ l q.2.2]) e he),rfl,?_⟩) (fun q φ0 hq=>?_)
 ·show[GV.ptr (e 0) 0,_,GV.ren e q.2.1.gvP]=_;rw[he 0 (by simp),q.2.1.cl];rfl
 obtain⟨g,e,t⟩:=q;obtain⟨hq1,hq2,hq3,hq4,hq5⟩:=hq;replace hq1:g<=f:=hq1;replace hq2:t.n<l.length:=hq2;replace hq3:d<=t.n:=hq3;replace hq4:5*(l.length - t.n)+3<=g:=hq4;replace hq5:pC (wT l) g (.condL e) d t=R:=hq5;obtain⟨g,rfl⟩:∃k,g=k+1:=⟨g - 1,by omega⟩;obtain⟨p,hpt,hk,ht,lT⟩:=w.at_ hq2;unfold pC at hq5;rw[ht] at hq5;by_cases h1:gV p.t [111,114]=true
 ·have hm:=kT l t p hpt hk [111,114] h1 (by omega);rw[aA h1] at hq5;have hn2:t.n+1<l.length:=lT (by rintro e;rw[e] at h1;cases h1) (by rintro e;rw[e] at h1;cases h1);have hc2:=IH g (by omega) d t.adv hn2 (by show d<=t.n+1;omega) (by simp only[CK.need,PS.adv];omega);have hlt:=fun e' s'=>EE w.next w.names g .both d t.adv (by rw[hwl];exact hn2) (by rw[hwl];simp only[CK.need,PS.adv];omega) (e:=e') (s':=s');rw[hwl] at hlt;generalize pC (wT l) g .both d t.adv=Q at hc2 hq5 hlt;obtain⟨_|e',t'⟩:=Q
  ·dsimp only[l8] at hc2 hq5;subst hq5;(conv=>whnf);refine cG [0] hm ?_;(conv=>whnf);refine cG [0] hc2 ?_;(conv=>whnf);exact fin 1
  ·dsimp only[l8] at hc2 hq5;obtain⟨l1,l2⟩:=hlt e' t' rfl;simp only[CK.gain,PS.adv] at l2;(conv=>whnf);refine cG [0] hm ?_;(conv=>whnf);refine cG [0] hc2 ?_;(conv=>whnf);exact⟨l.length - t'.n,(by show l.length - t'.n<l.length - t.n;omega),(g,Cn.two [111,114] e e',t'),⟨by show g<=f;omega,l1,by show d<=t'.n;omega,by show 5*(l.length - t'.n)+3<=g;omega,hq5⟩,rfl,⟨rfl,rfl,rfl,trivial⟩,_,rfl,rfl⟩
 ·have hm:=nO l t p hpt hk [111,114] (by simpa using h1);rw[aB h1] at hq5;subst hq5;dsimp only[l8];conv=>whnf
  refine cG [0] hm ?_;conv=>whnf
  exact fin 1
theorem WN [MaxL] (l:List Tp) (w:WfT l):∀f,zV .prim 174 l f/\zV .not 153 l f/\zV .both 103 l f/\zV .cond 69 l f:=by
 intro f;induction f using Nat.strongRecOn with
 |ind f ih=>
 cases f with
 |zero=>exact⟨fun d s hn hd h=>by simp[CK.need] at h,fun d s hn hd h=>by simp[CK.need] at h,fun d s hn hd h=>by simp[CK.need] at h,fun d s hn hd h=>by simp[CK.need] at h⟩
 |succ f=>
  have h0:=ih f (eJ _);exact⟨ZI l w f h0.2.2.2 (fun g _=>(OJ l w g).2.2),a0z l w f h0.1,ZO l w f (fun g hg=>(ih g (by omega)).2.1),ZN l w f (fun g hg=>(ih g (by omega)).2.2.1)⟩
theorem AE [MaxL] (c:UInt8):SC Tryz.prog 159 [.i .u8 c.toNat] [] (.val (.b (bQ c))) []:=by
 refine bI Tryz.func159 rfl ?_;conv=>whnf
 repeat' ((refine e6 (fun h=>?_) (fun h=>?_))<;>conv=>whnf)
 all_goals (refine eM ?_;simp only[aH,bR] at*;rw[Bool.eq_iff_iff];simp[bQ,dA,bB];omega)
theorem VQ:∀c:Fin 256,decide (0<=Lib.index [123,125,40,41,59,44,61,60,62,43,45,42,38,46] [UInt8.ofNat c.val])=jI (UInt8.ofNat c.val):=by decide+kernel
theorem YF (c:UInt8):decide (0<=Lib.index [123,125,40,41,59,44,61,60,62,43,45,42,38,46] [c])=jI c:=by
 have:=VQ ⟨c.toNat,bS c⟩;rwa [show UInt8.ofNat c.toNat=c from UInt8.ofNat_toNat] at this
def twG (p:Tk×By):GV:=I9 ⟨p.1,p.2,0⟩
instance [MaxL] (p:Tk×By):KG (twG p):=⟨fun _=>rfl⟩
instance [MaxL] (l:List Val):KL (hU l):=⟨jF l⟩
theorem WJ [MaxL] (c:UInt8) (t:By) (hs:(c::t).length<=20000) (hi:bQ c=true):SC Tryz.prog 112 [.s (c::t)] [] (.val (twG (iD (c::t)))) []:=by
 obtain⟨w,hw⟩:∃w,w=c::t.takeWhile bQ:=⟨_,rfl⟩;have hwl:w.length<=20000:=by
  have:=(e7 (l:=t) bQ).length_le;rw[hw];simp only[aM] at hs⊢;omega
 have pY:iD (c::t)=(if dE w=true then .nm w else match s5 w with|some k=>.nu k|none=>.bad,w):=by
  unfold iD;dsimp only;rw[aA hi,hw];rfl
 rw[pY];have hic:=AE c;rw[hi] at hic;have hnm:=UX w;refine bI Tryz.func112 rfl ?_;conv=>whnf
 refine⟨by decide,c,rfl,?_⟩;conv=>whnf
 refine cP hic ?_;conv=>whnf
 refine bA (fun k:Nat=>1<=k/\k<=(c::t).length/\k+(((c::t).drop k).takeWhile bQ).length=w.length)
  (fun k=>[(0,.s (c::t)),(2,.ptr 0 0),(3,.i .i64 k)]) (fun _=>⟨[.box 168 [.i .u8 0,.s [],.i .i64 0,.i .i64 0,.s [],.i .i64 0]],0,[]⟩) (fun k=>(c::t).length - k) 1
  ⟨rL _,by simp,by rw[hw];simp only[aM,List.drop_succ_cons,List.drop_zero];omega⟩ ⟨rfl,rfl,rfl,trivial⟩ rfl (fun k φ1 hk=>?_)
 obtain⟨hk1,hk2,hk3⟩:=hk;have fin:((c::t).drop k).takeWhile bQ=[]->(c::t).take k=w:=fun h0=>by
  have hp:w<+:c::t:=by
   rw[hw];have:=e7 (l:=c::t) bQ;rwa [bZ,aA hi] at this
  rw[h0] at hk3;have:k=w.length:=by simpa using hk3
  rw[this];exact(List.prefix_iff_eq_take.1 hp).symm
 conv=>whnf
 refine e6 (fun hlt=>?lt) (fun hlt=>?ge)
 case' lt=>
  have hlt':k<(c::t).length:=by have:=aO hlt;omega
  conv=>whnf
  refine⟨fK _,(c::t)[k],by simp,?_⟩;conv=>whnf
  refine cP (AE (c::t)[k]) ?_;conv=>whnf
  refine e6 (fun hin=>?go) (fun hin=>?stop)
  case go=>
   (conv=>whnf);refine gK (k+1) ⟨by omega,hlt',?_⟩ (by omega) ⟨rfl,rfl,cT (by omega),trivial⟩ rfl;rw[bD hlt',bZ,hin,aA rfl,aM] at hk3;omega
  have htk:=fin (by rw[bD hlt',bZ,hin];rfl)
 case' ge=>
  have hge:(c::t).length<=k:=by have:=aW hlt;omega
  have htk:=fin (by rw[eQ hge];rfl)
 all_goals
  conv=>whnf
  refine⟨fK _,⟨zL _,by simpa using hk2⟩,w,by simpa using htk.symm,?_⟩;conv=>whnf
  refine _root_.Go.Proofs.YtmnjcddcihdlfaaGreatDoor.st ?_;conv=>whnf
  refine cP hnm ?_;cases hn:dE w
  case true=>
   rw[aA rfl];(conv=>whnf);refine _root_.Go.Proofs.YtmnjcddcihdlfaaGreatDoor.st ?_;(conv=>whnf);refine _root_.Go.Proofs.YtmnjcddcihdlfaaGreatDoor.st ?_;(conv=>whnf);exact _root_.Go.Proofs.YtmnjcddcihdlfaaGreatDoor.fin 0
  rw[aB (by simp)];by_cases hex:∃v,Lib.atoiAll w=.ok v
  ·obtain⟨v,hv⟩:=hex;obtain⟨lo,hi'⟩:=P0 hv;have hat:=FA w (by omega) v hv;have hit:=NM v lo hi';have hnT:s5 w=if Lib.itoa v=w/\v<=1000000000 then some v else none:=by unfold s5;rw[hv]
   rw[hnT];(conv=>whnf);refine cP hat ?_;(conv=>whnf);refine gP ?_;(conv=>whnf);refine cP hit ?_;(conv=>whnf);by_cases heq:Lib.itoa v=w
   ·rw[show(Lib.itoa v==w)=true from beq_iff_eq.2 heq];(conv=>whnf);by_cases hb:v<=1000000000
    ·rw[aA ⟨heq,hb⟩];refine gY (aR hb) ?_;(conv=>whnf);refine _root_.Go.Proofs.YtmnjcddcihdlfaaGreatDoor.st ?_;(conv=>whnf);refine _root_.Go.Proofs.YtmnjcddcihdlfaaGreatDoor.st ?_;(conv=>whnf);refine _root_.Go.Proofs.YtmnjcddcihdlfaaGreatDoor.st ?_;(conv=>whnf);exact _root_.Go.Proofs.YtmnjcddcihdlfaaGreatDoor.fin 0
    ·rw[aB (fun h=>hb h.2)];refine gN (aQ hb) ?_;(conv=>whnf);refine _root_.Go.Proofs.YtmnjcddcihdlfaaGreatDoor.st ?_;(conv=>whnf);exact _root_.Go.Proofs.YtmnjcddcihdlfaaGreatDoor.fin 0
   ·rw[aB (fun h=>heq h.1)];rw[show(Lib.itoa v==w)=false from beq_eq_false_iff_ne.2 heq];(conv=>whnf);refine _root_.Go.Proofs.YtmnjcddcihdlfaaGreatDoor.st ?_;(conv=>whnf);exact _root_.Go.Proofs.YtmnjcddcihdlfaaGreatDoor.fin 0
  ·obtain⟨v,hv⟩:=FB w (by omega) (fun v e=>hex ⟨v,e⟩);have hnT:s5 w=none:=by
    unfold s5;split
    ·rename_i k e;exact absurd ⟨k,e⟩ hex
    ·rfl
   rw[hnT];(conv=>whnf);refine cP hv ?_;(conv=>whnf);refine gP ?_;(conv=>whnf);refine _root_.Go.Proofs.YtmnjcddcihdlfaaGreatDoor.st ?_;(conv=>whnf);exact _root_.Go.Proofs.YtmnjcddcihdlfaaGreatDoor.fin 0
set_option maxHeartbeats 4000000 in
theorem WI [MaxL] (t:By) (hs:(34::t).length<=20000):SC Tryz.prog 112 [.s (34::t)] [] (.val (twG (iD (34::t)))) []:=by
 obtain⟨w,hw⟩:∃w,w=(34::t).take (min (2+kG t) (34::t).length):=⟨_,rfl⟩;have hwl:w.length<=20000:=by rw[hw,cL];omega
 have hhd:w.head?=some 34:=by
  rw[hw];obtain⟨m,hm⟩:∃m,min (2+kG t) (34::t).length=m+1:=⟨min (2+kG t) (34::t).length - 1,by simp;omega⟩;rw[hm];rfl
 have pY:iD (34::t)=(match n7 w with|some v=>.tx v.s|none=>.bad,w):=by
  unfold iD;dsimp only;rw[aB (show¬bQ 34=true by decide),aA rfl,hw];rfl
 rw[pY];have hic:=AE 34;have hP:=XH w (by omega);rw[aB (by omega)] at hP;refine bI Tryz.func112 rfl ?_;conv=>whnf
 refine⟨by decide,34,rfl,?_⟩;conv=>whnf
 refine cP hic ?_;conv=>whnf
 refine⟨by decide,34,rfl,?_⟩;conv=>whnf
 refine bA (fun k:Nat=>1<=k/\k<=(34::t).length+1/\k+kG ((34::t).drop k)=1+kG t)
  (fun k=>[(0,.s (34::t)),(2,.ptr 0 0),(3,.i .i64 k)]) (fun _=>⟨[.box 168 [.i .u8 0,.s [],.i .i64 0,.i .i64 0,.s [],.i .i64 0]],0,[]⟩) (fun k=>(34::t).length+1 - k) 1
  ⟨rL _,by simp,rfl⟩ ⟨rfl,rfl,rfl,trivial⟩ rfl (fun k φ1 hk=>?_)
 obtain⟨hk1,hk2,hk3⟩:=hk;have fin2:kG ((34::t).drop k)=0->∀q:Int,q=(if(((34::t).length:Nat):Int)<IntKind.i64.wrap ((k:Int)+1) then(((34::t).length:Nat):Int) else IntKind.i64.wrap ((k:Int)+1))->0<=q/\q.toNat<=(34::t).length/\(34::t).take q.toNat=w:=fun h0 q hq=>by
  rw[bN (by omega) (by omega)] at hq;rw[h0] at hk3;have hq2:q.toNat=min (2+kG t) (34::t).length:=by subst hq;split<;>omega
  refine⟨?_,by rw[hq2];exact Nat.min_le_right _ _,by rw[hq2,hw]⟩;subst hq;split<;>omega
 conv=>whnf
 refine e6 (fun hlt=>?lt) (fun hlt=>?ge)
 case' lt=>
  have hlt':k<(34::t).length:=by have:=aO hlt;omega
  conv=>whnf
  refine⟨fK _,(34::t)[k],by simp,?_⟩;conv=>whnf
  refine e6 (fun hne=>?go) (fun hne=>?stop)
  case go=>
   have hne':¬(34::t)[k]=34:=fun e=>by rw[e] at hne;simp at hne
   have hd:=bD hlt';(conv=>whnf);refine⟨fK _,(34::t)[k],by simp,?_⟩;(conv=>whnf);refine e6 (fun h92=>?_) (fun h92=>?_)
   ·have h92':=s9 (d:=92) h92;rw[hd,h92'] at hk3;(conv=>whnf);refine gK (k+2) ⟨by omega,by omega,?_⟩ (by omega) ⟨rfl,rfl,?_,trivial⟩ rfl
    ·rw[<-hk3];cases hdr:(34::t).drop (k+1) with
     |nil=>
      have:(34::t).drop (k+2)=[]:=by rw[<-List.drop_drop (i:=1),hdr];rfl
      rw[this,ST];rfl
     |cons x y=>
      have:(34::t).drop (k+2)=y:=by rw[<-List.drop_drop (i:=1),hdr];rfl
      rw[this,O0];omega
    ·show GV.i .i64 (IntKind.i64.wrap (IntKind.i64.wrap ((k:Int)+1)+1))=_;rw[bN (n:=(k:Int)+1) (by omega) (by omega),bN (n:=(k:Int)+1+1) (by omega) (by omega)];rfl
   ·have h92':=uN (d:=92) h92;(conv=>whnf);refine gK (k+1) ⟨by omega,by omega,?_⟩ (by omega) ⟨rfl,rfl,cT (by omega),trivial⟩ rfl;rw[hd] at hk3;rw[SS hne' h92'] at hk3;rw[<-hk3];omega
  have he:(34::t)[k]=34:=nV (d:=34) hne;have h0:kG ((34::t).drop k)=0:=by rw[bD hlt',he,O1]
  obtain⟨f1,f2,f3⟩:=fin2 h0 _ rfl
 case' ge=>
  have hge:(34::t).length<=k:=by have:=aW hlt;omega
  have h0:kG ((34::t).drop k)=0:=by rw[eQ hge];rfl
  obtain⟨f1,f2,f3⟩:=fin2 h0 _ rfl
 all_goals
  conv=>whnf
  refine⟨f1,⟨zL _,f2⟩,w,by simpa using f3.symm,?_⟩;conv=>whnf
  refine _root_.Go.Proofs.YtmnjcddcihdlfaaGreatDoor.st ?_;conv=>whnf
  rcases hpr:iG w with _|_|⟨v,_|⟨v2,vs⟩⟩
  case' some.cons.nil=>
   have hql:n7 w=some v:=by unfold n7;rw[hpr];dsimp only;rw[aA hhd]
   have hv:v=⟨2,0,v.s⟩:=by
    cases w with
    |nil=>cases hhd
    |cons x y=>
     simp only[List.head?_cons,eY] at hhd;subst hhd;exact(vC hql).1
   obtain⟨vk,vn,vt⟩:=v;cases hv
  case' none|some.nil|some.cons.cons=>
   have hql:n7 w=none:=by unfold n7;rw[hpr]
  all_goals
   rw[hpr] at hP;dsimp only at hP;rw[hql];dsimp only;refine cP hP ?_;(conv=>whnf);try
    refine gN (aQ (by show¬((((hU (v::v2::vs)).length:Nat):Int)=1);simp[hU];omega)) ?_;conv=>whnf
   first
    |refine hH _ _ _ rfl rfl rfl (by kernel_rfl) ?_
     (conv=>whnf);refine⟨by decide,_,rfl,rfl,?_⟩;(conv=>whnf);refine _root_.Go.Proofs.YtmnjcddcihdlfaaGreatDoor.st ?_;(conv=>whnf);refine _root_.Go.Proofs.YtmnjcddcihdlfaaGreatDoor.st ?_;conv=>whnf
    |skip
   refine _root_.Go.Proofs.YtmnjcddcihdlfaaGreatDoor.st ?_;(conv=>whnf);exact _root_.Go.Proofs.YtmnjcddcihdlfaaGreatDoor.fin 0
def a0g:List By:=[[60,62],[60,61],[62,61]]
theorem WH [MaxL] (c:UInt8) (t:By) (hs:(c::t).length<=20000) (hi:bQ c=false) (h34:c≠34):SC Tryz.prog 112 [.s (c::t)] [] (.val (twG (iD (c::t)))) []:=by
 have hic:=AE c;rw[hi] at hic;have hsg:=BS [123,125,40,41,59,44,61,60,62,43,45,42,38,46] [c] (by decide);rw[YF] at hsg;have q34:((c.toNat:Int)==34)=false:=by
  have:c.toNat≠34:=fun e=>h34 (UInt8.toNat_inj.1 e);simp;omega
 have pY:iD (c::t)=if jI c=true then(.sg (if gI (c::t)=true then(c::t).take 2 else[c]),if gI (c::t)=true then(c::t).take 2 else[c]) else(.bad,[c]):=by
  unfold iD;dsimp only;rw[aB (by rw[hi];simp),aB h34]
 rw[pY];cases t with
 |nil=>
  have hp:gI [c]=false:=by simp[gI]
  rw[hp];simp only[aY,cO];cases hsc:jI c with
  |true=>
   rw[hsc] at hsg;rw[aA rfl];refine bI Tryz.func112 rfl ?_;(conv=>whnf);refine⟨by decide,c,rfl,?_⟩;(conv=>whnf);refine cP hic ?_;(conv=>whnf);refine⟨by decide,c,rfl,?_⟩;(conv=>whnf);refine gN q34 ?_;(conv=>whnf);refine⟨by decide,⟨zL _,rL _⟩,[c],rfl,?_⟩;(conv=>whnf);refine cP hsg ?_;(conv=>whnf);refine⟨by decide,⟨zL _,rL _⟩,[c],rfl,?_⟩;(conv=>whnf);refine _root_.Go.Proofs.YtmnjcddcihdlfaaGreatDoor.st ?_;(conv=>whnf);exact fin 0
  |false=>
   rw[hsc] at hsg;rw[aB b4];refine bI Tryz.func112 rfl ?_;(conv=>whnf);refine⟨by decide,c,rfl,?_⟩;(conv=>whnf);refine cP hic ?_;(conv=>whnf);refine⟨by decide,c,rfl,?_⟩;(conv=>whnf);refine gN q34 ?_;(conv=>whnf);refine⟨by decide,⟨zL _,rL _⟩,[c],rfl,?_⟩;(conv=>whnf);refine cP hsg ?_;(conv=>whnf);refine⟨by decide,⟨zL _,rL _⟩,[c],rfl,?_⟩;(conv=>whnf);refine _root_.Go.Proofs.YtmnjcddcihdlfaaGreatDoor.st ?_;(conv=>whnf);exact fin 0
 |cons d t=>
  have hct:=oY a0g [c,d] (by decide);have hp:a0g.contains [c,d]=gI (c::d::t):=rfl;rw[hp] at hct;have hg:decide ((((c::d::t).length:Nat):Int)>1)=true:=aR (by simp only[aM];omega);have l2:2<=(c::d::t).length:=by simp
  have l1:1<=(c::d::t).length:=by simp
  cases hpr:gI (c::d::t) with
  |true=>
   have hsc:jI c=true:=by
    simp[gI] at hpr;rcases hpr with⟨rfl,_⟩|⟨rfl,_⟩|⟨rfl,_⟩<;>decide
   rw[hpr] at hct;rw[hsc] at hsg⊢;rw[aA rfl,aA rfl];refine bI Tryz.func112 rfl ?_;(conv=>whnf);refine⟨by decide,c,rfl,?_⟩;(conv=>whnf);refine cP hic ?_;(conv=>whnf);refine⟨by decide,c,rfl,?_⟩;(conv=>whnf);refine gN q34 ?_;(conv=>whnf);rw[hg];(conv=>whnf);refine⟨by decide,⟨zL _,l2⟩,[c,d],rfl,?_⟩;(conv=>whnf);refine cP hct ?_;(conv=>whnf);refine⟨by decide,⟨zL _,l1⟩,[c],rfl,?_⟩;(conv=>whnf);refine cP hsg ?_;(conv=>whnf);refine⟨by decide,⟨zL _,l2⟩,[c,d],rfl,?_⟩;(conv=>whnf);refine _root_.Go.Proofs.YtmnjcddcihdlfaaGreatDoor.st ?_;(conv=>whnf);exact fin 0
  |false=>
   rw[hpr] at hct;simp only[aY,cO];cases hsc:jI c
   case' true=>rw[aA rfl]
   case' false=>rw[aB b4]
   all_goals
    rw[hsc] at hsg;refine bI Tryz.func112 rfl ?_;(conv=>whnf);refine⟨by decide,c,rfl,?_⟩;(conv=>whnf);refine cP hic ?_;(conv=>whnf);refine⟨by decide,c,rfl,?_⟩;(conv=>whnf);refine gN q34 ?_;(conv=>whnf);rw[hg];(conv=>whnf);refine⟨by decide,⟨zL _,l2⟩,[c,d],rfl,?_⟩;(conv=>whnf);refine cP hct ?_;(conv=>whnf);refine⟨by decide,⟨zL _,l1⟩,[c],rfl,?_⟩;(conv=>whnf);refine cP hsg ?_;(conv=>whnf);refine⟨by decide,⟨zL _,l1⟩,[c],rfl,?_⟩;(conv=>whnf);refine _root_.Go.Proofs.YtmnjcddcihdlfaaGreatDoor.st ?_;(conv=>whnf);exact fin 0
theorem ZF [MaxL] (c:UInt8) (t:By) (hs:(c::t).length<=20000):SC Tryz.prog 112 [.s (c::t)] [] (.val (twG (iD (c::t)))) []:=by
 cases hi:bQ c with
 |true=>exact WJ c t hs hi
 |false=>
  by_cases h34:c=34
  ·subst h34;exact WI t hs
  ·exact WH c t hs hi h34
variable [Globals]
theorem ND {n N:Nat} {D C:Cx} (hn:n<=N) (hl:C.le D) (hC:∀r,n<=r->C.bk r=none/\C.own r=none):C.le (D.pull (iB (List.range n) N)):=by
 have he:∀i,i<n->iB (List.range n) N i=i:=fun i hi=>by rw[jD (by simpa using hi)];simp
 refine⟨hl.fx,fun i b hb=>?_,fun i I hI=>?_,hl.hd,hl.fix⟩
 ·have hi:i<n:=by
   rcases dF i n with h|h
   ·exact h
   ·rw[(hC i h).1] at hb;cases hb
  show D.bk (iB (List.range n) N i)=some b;rw[he i hi];exact hl.bk i b hb
 ·have hi:i<n:=by
   rcases dF i n with h|h
   ·exact h
   ·rw[(hC i h).2] at hI;cases hI
  show∃J,D.own (iB (List.range n) N i)=some J/\_;rw[he i hi];exact hl.own i I hI
theorem Fact.forget {P:Program} {q:Nat} {args:List GV} {σ:GS} {r:GRes} {s' extra:List GObj} {lo:Nat} {ds:List GDef} (h:Fact P (.yld q) args σ r ⟨s'++extra,lo,ds⟩) (hlo:lo=0) (bG:σ.objs.length<=s'.length) (hc:XO s') (hh:s'.all GObj.notHeld=true) (hr:∀e,r.ren e=r) (hσ:σ.objs.all GObj.notHeld=true):
  Fact P (.yld q) args σ r ⟨s',lo,ds⟩:=by
 have hh':∀x∈s',x≠ .held:=fun x hx e=>by subst e;have:=List.all_eq_true.1 hh _ hx;cases this
 have hnh:∀k:Nat,σ.objs[k]?≠some .held:=fun k hk=>by
  have:=List.all_eq_true.1 hσ .held (List.mem_iff_getElem?.2 ⟨k,hk⟩);cases this
 refine⟨⟨h.keep.lo,bG,fun h1 k hk=>?_,fun k hk=>absurd hk (hnh k)⟩,h.ds,fun w0 C w vs hR hv b hb=>?_⟩
 ·have h2:σ.lo=0:=by have h3:lo=σ.lo:=h.keep.lo;omega
  omega
 ·obtain⟨f,t,a,c,h1,h2⟩:=h.calls w0 C w vs hR hv b hb;refine⟨f,t,a,c,h1,h2.mono ?_⟩;rintro e w' ⟨D,hl,hrD,he⟩;refine⟨D.pull (iB (List.range s'.length) (s'++extra).length),ND (by simp) hl (fun i hi=>hR.dom i (by omega)),?_,?_⟩
  ·have:=hrD.pull (Lies.pre hc hh');exact⟨this.below,this.fxc,this.obj,this.dom,this.new,this.inj,this.sepB,this.sepO,this.fxn,this.gl,this.gs⟩
  ·have he2:ERel D (r.ren (iB (List.range s'.length) (s'++extra).length)) e:=by rw[hr];exact he
   exact he2.pull (D:=D) (f:=iB (List.range s'.length) (s'++extra).length) (E:=D.pull (iB (List.range s'.length) (s'++extra).length)) (fun _ _ _ h=>h) (fun _=>rfl) (fun _=>rfl)
end
section
open Go.RowKit
theorem PF.put [MaxL] {e:Nat->Nat} {φ:Fr} {d:Nat} {g:GV} (h:∀t,(φ t).ren e=φ t) (hg:g.ren e=g):∀t,(OO φ d g t).ren e=OO φ d g t:=fun t=>by
 rw[rP];by_cases ht:t=d
 ·subst ht;rw[yG];exact hg
 ·rw[vL ht];exact h t
theorem PF.start [MaxL] {e:Nat->Nat} {args:List GV} (h:args.map (GV.ren e)=args):∀t,(lJ args t).ren e=lJ args t:=fun t=>by
 unfold lJ;rw[aL];have h1:=aJ (fun l:List GV=>l[t]?) h;simp only[aG] at h1;cases h2:args[t]? with
 |none=>rfl
 |some g=>rw[h2] at h1;simpa using h1
theorem BA [MaxL] {e:Nat->Nat} {st:LoopState} {pe:Option Code} {n:Nat} {φ:Fr} {ps:Array Tmp} {asg body:Code} {r9:Nat} (h:∀t,(φ t).ren e=φ t) (h8:e r9=r9):(GObj.loop st pe n φ ps asg body r9).ren e=.loop st pe n φ ps asg body r9:=by
 show GObj.loop st pe n (fun t=>(φ t).ren e) ps asg body (e r9)=_;rw[h8,show(fun t=>(φ t).ren e)=φ from funext h]
abbrev RB (p:Tp):GObj:=.box 168 p.cs
instance [MaxL] (p:Tp):KL p.cs:=⟨fun _=>rfl⟩
def wO:List Tp->List GObj
 |[]=>[]
 |p::l=>[RB p,RB p,.own 1 6 168,.own (l.length+1) 6 168]
def wG:List Tp->GV
 |[]=>.sl .full []
 |p::l=>.sl (.own 8) (lW (p::l))
def wH (s:By) (L:GObj) (d:List Tp):List GObj:=
 .box 9 [.s s]::.box 165 [wG d]::.own 0 0 0::.dfr::L::wO d
def wE (s:By) (L:GObj) (p:Tp):List GObj:=
 [.box 9 [.s s],.box 165 [.sl (.own 7) [I9 p]],.own 0 0 0,.dfr,L,RB p,.own 1 6 168,.own 1 6 168]
theorem oJ [MaxL] (s:By) {L:GObj} (hL:L.notHeld=true) (d:List Tp):(wH s L d).all GObj.notHeld=true:=by
 cases d<;>simp only[wH,wO,List.all_cons,hL]<;>rfl
theorem RT [MaxL] (s:By) (L:GObj) (d:List Tp):5<=(wH s L d).length:=by
 cases d<;>simp only[wH,wO,aM,bW]<;>omega
set_option synthInstance.maxSize 2000 in
theorem AN [MaxL] (s:By) {L:GObj} (hLr:∀e:Nat->Nat,(∀i,i<5->e i=i)->L.ren e=L) (d:List Tp) (e:Nat->Nat) (he:∀i,i<(wH s L d).length->e i=i):(wH s L d).map (GObj.ren e)=wH s L d:=by
 have h5:∀i,i<5->e i=i:=fun i hi=>he i (bV hi (RT s L d));cases d with
 |nil=>
  show[_,_,_,_,_]=[_,_,_,_,_];rw[hLr e h5];rfl
 |cons p l=>
  have h9:∀i,i<9->e i=i:=fun i hi=>he i hi;have b:FH 9 [.box 165 [wG (p::l)],RB p]:=⟨fun e he=>(show FH 9 [.box 165 [.sl (.own 8) (lW (p::l))],RB p] from inferInstance).h e he⟩;have b':=b.h e h9;simp only[bY,List.map_nil,List.cons.injEq,and_true] at b';show[_,_,_,_,_,_,_,_,_]=[_,_,_,_,_,_,_,_,_];rw[hLr e h5,b'.1,b'.2];rfl
def tL (s:By):Bool:=s.drop (s.length - 1)==[10]
theorem ZH [MaxL] (s:By) (hs:s.length<=20000):SC Tryz.prog 165 [.s s,.s [10]] [] (.val (.b (tL s))) []:=by
 refine bI Tryz.func165 rfl ?_;conv=>whnf
 apply gM<;>intro h<;>conv=>whnf
 ·have hl:1<=s.length:=by have:=aO h;simp at this;omega
  have e:IntKind.i64.wrap ((s.length:Int) - (([10]:By).length:Nat))=((s.length - 1:Nat):Int):=by rw[bN (by simp;omega) (by simp;omega)];simp;omega
  refine⟨by rw[e];exact fK _,⟨by rw[e,aD];omega,rL _⟩,s.drop (s.length - 1),by rw[e,aD,fN (by simp)],?_⟩;conv=>whnf
  exact fin 0
 ·have hl:s=[]:=by have:=aW h;simp at this;exact aI (by omega)
  subst hl;exact fin 0
theorem a0u [MaxL] (s:By) (hs:s.length<=20000):SC Tryz.prog 113 [.s s,.s [10]] [] (.val (.b (tL s))) []:=by
 have h:=ZH s hs;refine bI Tryz.func113 rfl ?_;conv=>whnf
 refine cP h ?_;conv=>whnf
 exact fin 0
end
