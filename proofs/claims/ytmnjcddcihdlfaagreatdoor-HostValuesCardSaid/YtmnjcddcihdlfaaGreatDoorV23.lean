/- Part of HostValues. -/
import Derived.Test.YtmnjcddcihdlfaaGreatDoorV22
set_option linter.all false
set_option maxRecDepth 100000
namespace Go.Proofs.YtmnjcddcihdlfaaGreatDoor
open Go.RowKit
def gV (t:Tk) (s:By):Bool:=match t with
 |.nm x=>x==s
 |.sg x=>x==s
 |_=>false
inductive Ex where
 |zero
 |num (n:Int)
 |txt (s:By)
 |var (s:By)
 |item (r i:By)
 |status
 |key
 |neg (e:Ex)
 |bin (op:By) (a b:Ex)
inductive Cn where
 |zero
 |rel (op:By) (a b:Ex)
 |no (c:Cn)
 |two (op:By) (a b:Cn)
structure PS where
 n:Nat
 far:Nat
 pr:Nat
def PS.adv (s:PS):PS:=⟨s.n+1,s.far,s.pr⟩
def PS.wr (s:PS):PS:=⟨s.n,max s.far s.n,s.pr⟩
def PS.deep (s:PS) (d:Nat):PS:=⟨s.n,s.far,max s.pr d⟩
def tk (l:List Tk) (n:Nat):Tk:=l.getD n .bad
def eZ:By:=[115,116,97,116,117,115]
def mJ:By:=[107,101,121]
def iX:By:=[110,111,116]
def OD:List By:=[[112,114,111,103,114,97,109],[118,97,114],[105,110,116],[116,101,120,116],[108,101,116],[112,114,105,110,116],[115,116,111,112],[105,102],[101,108,115,101],[119,104,105,108,101],[111,114],[97,110,100],[110,111,116],[115,116,97,116,117,115],[107,101,121],[102,105,110,100],[111,98,116,97,105,110],[103,101,116],[115,116,111,114,101],[109,111,100,105,102,121],[101,114,97,115,101],[99,111,110,110,101,99,116],[100,105,115,99,111,110,110,101,99,116],[114,101,99,111,110,110,101,99,116],[107,101,101,112],[102,114,101,101],[109,111,118,101],[102,105,114,115,116],[108,97,115,116],[110,101,120,116],[112,114,105,111,114],[110,116,104],[97,110,121],[100,117,112],[99,117,114,114,101,110,116],[119,105,116,104,105,110],[117,115,105,110,103],[114,101,116,97,105,110,105,110,103],[111,119,110,101,114],[109,101,109,98,101,114],[101,109,112,116,121],[114,101,99,111,114,100],[97,114,101,97],[116,111],[97,108,108],[112,101,114,109,97,110,101,110,116],[115,101,108,101,99,116,105,118,101],[111,102],[105,110,115,105,100,101]]
def FP:List By:=[[61],[60,62],[60],[60,61],[62],[62,61]]
inductive EK where
 |fact
 |term
 |termL (e:Ex)
 |expr
 |exprL (e:Ex)
inductive CK where
 |rel
 |prim
 |not
 |both
 |bothL (c:Cn)
 |cond
 |condL (c:Cn)
def pE (l:List Tk):Nat->EK->Nat->PS->Option Ex×PS
 |0,_,_,s=>(none,s)
 |f+1,.fact,d,s=>match tk l s.n with
  |.nu n=>(some (.num n),s.adv)
  |.tx x=>(some (.txt x),s.adv)
  |.sg x=>if x=[45] then(match pE l f .fact d s.adv with
    |(some e,s')=>(some (.neg e),s')
    |(none,s')=>(none,s'))
   else if x=[40] then(match pE l f .expr (d+1) (s.adv.deep (d+1)) with
    |(some e,s')=>if gV (tk l s'.n) [41]=true then(some e,s'.adv) else(none,s'.wr)
    |(none,s')=>(none,s'))
   else(none,s.wr)
  |.nm x=>if x=eZ then(some .status,s.adv) else if x=mJ then(some .key,s.adv)
   else if x≠iX/\tk l (s.n+1)=.sg [46] then(match tk l (s.n+2) with
    |.nm y=>(some (.item x y),s.adv.adv.adv)
    |_=>(none,s.adv.adv.wr))
   else if OD.contains x=true then(none,s.wr) else(some (.var x),s.adv)
  |_=>(none,s.wr)
 |f+1,.term,d,s=>match pE l f .fact d s with
  |(some e,s')=>pE l f (.termL e) d s'
  |(none,s')=>(none,s')
 |f+1,.termL e,d,s=>if gV (tk l s.n) [42]=true then(match pE l f .fact d s.adv with
   |(some e',s')=>pE l f (.termL (.bin [42] e e')) d s'
   |(none,s')=>(none,s')) else(some e,s)
 |f+1,.expr,d,s=>match pE l f .term d s with
  |(some e,s')=>pE l f (.exprL e) d s'
  |(none,s')=>(none,s')
 |f+1,.exprL e,d,s=>match tk l s.n with
  |.sg x=>if x=[43]∨x=[45]∨x=[38] then(match pE l f .term d s.adv with
   |(some e',s')=>pE l f (.exprL (.bin x e e')) d s'
   |(none,s')=>(none,s')) else(some e,s)
  |_=>(some e,s)
def PZ (t:Tk):Bool:=match t with
 |.sg x=>[[43],[45],[42],[38],[61],[60],[62],[60,62],[60,61],[62,61]].contains x
 |_=>false
def pC (l:List Tk):Nat->CK->Nat->PS->Option Cn×PS
 |0,_,_,s=>(none,s)
 |f+1,.rel,d,s=>match pE l f .expr d s with
  |(some a,s1)=>(match tk l s1.n with
   |.sg op=>if FP.contains op=true then(match pE l f .expr d s1.adv with
    |(some b,s2)=>(some (.rel op a b),s2)
    |(none,s2)=>(none,s2)) else(none,s1.wr)
   |_=>(none,s1.wr))
  |(none,s1)=>(none,s1)
 |f+1,.prim,d,s=>if gV (tk l s.n) [40]=true then
   (match pC l f .cond (d+1) (s.adv.deep (d+1)) with
   |(some c,s1)=>if gV (tk l s1.n) [41]=true then(if PZ (tk l (s1.n+1))=true then pC l f .rel d ⟨s.n,max s1.adv.wr.far s.far,s.pr⟩ else(some c,s1.adv)) else pC l f .rel d ⟨s.n,max s1.wr.far s.far,s.pr⟩
   |(none,s1)=>pC l f .rel d ⟨s.n,max s1.far s.far,s.pr⟩)
  else pC l f .rel d s
 |f+1,.not,d,s=>if gV (tk l s.n) iX=true then(match pC l f .prim d s.adv with
   |(some c,s1)=>(some (.no c),s1)
   |(none,s1)=>(none,s1)) else pC l f .prim d s
 |f+1,.both,d,s=>match pC l f .not d s with
  |(some c,s1)=>pC l f (.bothL c) d s1
  |(none,s1)=>(none,s1)
 |f+1,.bothL c,d,s=>if gV (tk l s.n) [97,110,100]=true then(match pC l f .not d s.adv with
   |(some c',s1)=>pC l f (.bothL (.two [97,110,100] c c')) d s1
   |(none,s1)=>(none,s1)) else(some c,s)
 |f+1,.cond,d,s=>match pC l f .both d s with
  |(some c,s1)=>pC l f (.condL c) d s1
  |(none,s1)=>(none,s1)
 |f+1,.condL c,d,s=>if gV (tk l s.n) [111,114]=true then(match pC l f .both d s.adv with
   |(some c',s1)=>pC l f (.condL (.two [111,114] c c')) d s1
   |(none,s1)=>(none,s1)) else(some c,s)
structure RS where
 n:Nat
 bad:Option Nat
 ps:Nat
 pm:Nat
def RS.adv (s:RS):RS:=⟨s.n+1,s.bad,s.ps,s.pm⟩
def RS.fail (s:RS):RS:=⟨s.n,some (s.bad.getD s.n),s.ps,s.pm⟩
def RS.into (s:RS):RS:=⟨s.n+1,s.bad,s.ps+1,max s.pm (s.ps+1)⟩
def RS.out (s:RS):RS:=⟨s.n,s.bad,s.ps - 1,s.pm⟩
def hQ (l:List Tk) (s:RS) (x:By):RS:=if s.bad.isSome=true then s else if gV (tk l s.n) x=true then s.adv else s.fail
def rE (l:List Tk):Nat->EK->RS->Ex×RS
 |0,_,s=>(.zero,s)
 |f+1,.fact,s=>if s.bad.isSome=true then(.zero,s) else match tk l s.n with
  |.nu n=>(.num n,s.adv)
  |.tx x=>(.txt x,s.adv)
  |.sg x=>if x=[45] then(.neg (rE l f .fact s.adv).1,(rE l f .fact s.adv).2)
   else if x=[40] then((rE l f .expr s.into).1,(hQ l (rE l f .expr s.into).2 [41]).out)
   else(.zero,s.fail)
  |.nm x=>if x=eZ then(.status,s.adv) else if x=mJ then(.key,s.adv)
   else if x≠iX/\tk l (s.n+1)=.sg [46] then(match tk l (s.n+2) with
    |.nm y=>(.item x y,s.adv.adv.adv)
    |_=>(.item x [],s.adv.adv.fail))
   else if OD.contains x=true then(.zero,s.fail) else(.var x,s.adv)
  |_=>(.zero,s.fail)
 |f+1,.term,s=>rE l f (.termL (rE l f .fact s).1) (rE l f .fact s).2
 |f+1,.termL e,s=>if s.bad.isSome=false/\gV (tk l s.n) [42]=true then rE l f (.termL (.bin [42] e (rE l f .fact s.adv).1)) (rE l f .fact s.adv).2 else(e,s)
 |f+1,.expr,s=>rE l f (.exprL (rE l f .term s).1) (rE l f .term s).2
 |f+1,.exprL e,s=>if s.bad.isSome=true then(e,s) else match tk l s.n with
  |.sg x=>if x=[43]∨x=[45]∨x=[38] then rE l f (.exprL (.bin x e (rE l f .term s.adv).1)) (rE l f .term s.adv).2 else(e,s)
  |_=>(e,s)
def rC (l:List Tk):Nat->CK->RS->Cn×RS
 |0,_,s=>(.zero,s)
 |f+1,.rel,s=>if(rE l f .expr s).2.bad.isSome=true then(.zero,(rE l f .expr s).2) else
   match tk l (rE l f .expr s).2.n with
   |.sg op=>if FP.contains op=true then(.rel op (rE l f .expr s).1 (rE l f .expr (rE l f .expr s).2.adv).1,(rE l f .expr (rE l f .expr s).2.adv).2) else(.rel [] (rE l f .expr s).1 .zero,(rE l f .expr s).2.fail)
   |_=>(.rel [] (rE l f .expr s).1 .zero,(rE l f .expr s).2.fail)
 |f+1,.prim,s=>if s.bad.isSome=true∨gV (tk l s.n) [40]=false then rC l f .rel s else
   match(hQ l (rC l f .cond s.into).2 [41]).bad with
   |none=>((rC l f .cond s.into).1,(hQ l (rC l f .cond s.into).2 [41]).out)
   |some b=>((rC l f .rel ⟨s.n,none,(hQ l (rC l f .cond s.into).2 [41]).ps - 1,s.pm⟩).1,match(rC l f .rel ⟨s.n,none,(hQ l (rC l f .cond s.into).2 [41]).ps - 1,s.pm⟩).2 with
    |⟨n,some b',ps,pm⟩=>⟨n,some (max b' b),ps,pm⟩
    |x=>x)
 |f+1,.not,s=>if s.bad.isSome=false/\gV (tk l s.n) iX=true then(.no (rC l f .prim s.adv).1,(rC l f .prim s.adv).2) else rC l f .prim s
 |f+1,.both,s=>rC l f (.bothL (rC l f .not s).1) (rC l f .not s).2
 |f+1,.bothL c,s=>if s.bad.isSome=false/\gV (tk l s.n) [97,110,100]=true then rC l f (.bothL (.two [97,110,100] c (rC l f .not s.adv).1)) (rC l f .not s.adv).2 else(c,s)
 |f+1,.cond,s=>rC l f (.condL (rC l f .both s).1) (rC l f .both s).2
 |f+1,.condL c,s=>if s.bad.isSome=false/\gV (tk l s.n) [111,114]=true then rC l f (.condL (.two [111,114] c (rC l f .both s.adv).1)) (rC l f .both s.adv).2 else(c,s)
structure WfP (l:List Tk):Prop where
 next:∀n,n<l.length->tk l n≠ .fin->tk l n≠ .bad->n+1<l.length
structure Alike (l m:List Tk):Prop where
 wf:WfP l
 eq:∀n,n<l.length->tk l n=tk m n
def EK.need (r:Nat):EK->Nat
 |.fact=>5*r+1
 |.term=>5*r+2
 |.termL _=>5*r+1
 |.expr=>5*r+3
 |.exprL _=>5*r+1
def EK.gain:EK->Nat
 |.termL _|.exprL _=>0
 |_=>1
def zT (l m:List Tk) (d n0 g:Nat) (p:Option Ex×PS) (q:Ex×RS):Prop:=match p with
 |(some e,s')=>q=(e,⟨s'.n,none,d,s'.pr⟩)/\s'.n<l.length/\n0+g<=s'.n
 |(none,_)=>∃e n b pm,q=(e,⟨n,some b,d,pm⟩)
theorem AY (l:List Tk):∀(f:Nat) (k:EK) (s:RS),s.bad.isSome=true->(rE l f k s).2=s
 |0,k,s,h=>rfl
 |f+1,.fact,s,h=>by unfold rE;rw[aA h]
 |f+1,.term,s,h=>by
  unfold rE;rw[AY l f .fact s h];exact AY l f _ s h
 |f+1,.termL e,s,h=>by unfold rE;rw[aB (by rw[h];simp)]
 |f+1,.expr,s,h=>by
  unfold rE;rw[AY l f .term s h];exact AY l f _ s h
 |f+1,.exprL e,s,h=>by unfold rE;rw[aA h]
theorem vX (l m:List Tk) {f d n0 g:Nat} {k:EK} {q:Ex×RS} {s1:PS} (h:∃e n b pm,q=(e,⟨n,some b,d,pm⟩)) (F:Ex->EK):zT l m d n0 g (none,s1) (rE m f (F q.1) q.2):=by
 obtain⟨e,n,b,pm,rfl⟩:=h;exact⟨_,n,b,pm,Prod.ext rfl (AY m f (F e) ⟨n,some b,d,pm⟩ rfl)⟩
theorem NT {l:List Tk} {n:Nat} {x:By} (h:gV (tk l n) x=true):tk l n=.nm x∨tk l n=.sg x:=by
 unfold gV at h;split at h
 ·rename_i y e;rw[e,eq_of_beq h];exact .inl rfl
 ·rename_i y e;rw[e,eq_of_beq h];exact .inr rfl
 ·cases h
theorem lF {l:List Tk} {n:Nat} {x:By} (h:gV (tk l n) x=true):tk l n≠ .fin/\tk l n≠ .bad:=by
 rcases NT h with e|e<;>rw[e]<;>exact⟨by simp,by simp⟩
theorem VN (l m:List Tk) (ha:Alike l m):∀(f:Nat) (k:EK) (d:Nat) (s:PS),s.n<l.length->k.need (l.length - s.n)<=f->zT l m d s.n k.gain (pE l f k d s) (rE m f k ⟨s.n,none,d,s.pr⟩):=by
 intro f;induction f with
 |zero=>intro k d s hn hf;cases k<;>simp[EK.need] at hf
 |succ f ih=>
  have adv:∀n,n<l.length->tk l n≠ .fin->tk l n≠ .bad->n+1<l.length:=ha.wf.next;intro k d s hn hf;have he:=ha.eq s.n hn;cases k with
  |fact=>
   simp only[EK.need] at hf;unfold pE rE;simp only[Option.isSome_none,aY,cO,<-he];cases ht:tk l s.n with
   |nu n=>exact⟨rfl,adv _ hn (by rw[ht];simp) (by rw[ht];simp),rL _⟩
   |tx x=>exact⟨rfl,adv _ hn (by rw[ht];simp) (by rw[ht];simp),rL _⟩
   |fin=>exact⟨_,_,_,_,rfl⟩
   |bad=>exact⟨_,_,_,_,rfl⟩
   |sg x=>
    have hn1:=adv _ hn (by rw[ht];simp) (by rw[ht];simp);dsimp only;by_cases h1:x=[45]
    ·rw[aA h1,aA h1];have i:=ih .fact d s.adv hn1 (by simp only[EK.need,PS.adv];omega);revert i;show zT l m d (s.n+1) 1 (pE l f .fact d s.adv) (rE m f .fact ⟨s.n+1,none,d,s.pr⟩)->zT l m d s.n 1 _ (.neg (rE m f .fact ⟨s.n+1,none,d,s.pr⟩).1,(rE m f .fact ⟨s.n+1,none,d,s.pr⟩).2);generalize pE l f .fact d s.adv=P;generalize rE m f .fact ⟨s.n+1,none,d,s.pr⟩=Q;intro i;obtain⟨_|e,s'⟩:=P
     ·obtain⟨e,n,b,pm,rfl⟩:=i;exact⟨_,_,_,_,rfl⟩
     ·obtain⟨rfl,i2,i3⟩:=i;exact⟨rfl,i2,by omega⟩
    rw[aB h1,aB h1];by_cases h2:x=[40]
    ·rw[aA h2,aA h2];have i:=ih .expr (d+1) (s.adv.deep (d+1)) hn1 (by simp only[EK.need,PS.adv,PS.deep];omega);revert i;show zT l m (d+1) (s.n+1) 1 (pE l f .expr (d+1) (s.adv.deep (d+1))) (rE m f .expr ⟨s.n+1,none,d+1,max s.pr (d+1)⟩)->zT l m d s.n 1 _ ((rE m f .expr ⟨s.n+1,none,d+1,max s.pr (d+1)⟩).1,(hQ m (rE m f .expr ⟨s.n+1,none,d+1,max s.pr (d+1)⟩).2 [41]).out);generalize pE l f .expr (d+1) (s.adv.deep (d+1))=P;generalize rE m f .expr ⟨s.n+1,none,d+1,max s.pr (d+1)⟩=Q;intro i;obtain⟨_|e,s'⟩:=P
     ·obtain⟨e,n,b,pm,rfl⟩:=i;exact⟨_,_,_,_,rfl⟩
     ·obtain⟨rfl,i2,i3⟩:=i;dsimp only;have he':=ha.eq s'.n i2;by_cases h3:gV (tk l s'.n) [41]=true
      ·rw[aA h3];refine⟨?_,adv _ i2 (lF h3).1 (lF h3).2,by show s.n+1<=s'.n+1;omega⟩;unfold hQ;rw[aB (by simp),aA (by rw[<-he'];exact h3)];rfl
      ·rw[aB h3];unfold hQ;rw[aB (by simp),aB (by rw[<-he'];exact h3)];exact⟨_,_,_,_,rfl⟩
    rw[aB h2,aB h2];exact⟨_,_,_,_,rfl⟩
   |nm x=>
    have hn1:=adv _ hn (by rw[ht];simp) (by rw[ht];simp);dsimp only;by_cases h1:x=eZ
    ·rw[aA h1,aA h1];exact⟨rfl,hn1,rL _⟩
    rw[aB h1,aB h1];by_cases h2:x=mJ
    ·rw[aA h2,aA h2];exact⟨rfl,hn1,rL _⟩
    rw[aB h2,aB h2];have he1:=ha.eq _ hn1;by_cases h3:x≠iX/\tk l (s.n+1)=.sg [46]
    ·rw[aA h3,aA (by rw[<-he1];exact h3)];have hn2:=adv _ hn1 (by rw[h3.2];simp) (by rw[h3.2];simp);have he2:=ha.eq _ hn2;rw[<-he2];cases ht2:tk l (s.n+2) with
     |nm y=>exact⟨rfl,adv (s.n+2) hn2 (by rw[ht2];simp) (by rw[ht2];simp),by show s.n+1<=s.n+3;omega⟩
     |_=>exact⟨_,_,_,_,rfl⟩
    rw[aB h3,aB (show¬(x≠iX/\tk m (s.n+1)=.sg [46]) by rw[<-he1];exact h3)];by_cases h4:OD.contains x=true
    ·rw[aA h4,aA h4];exact⟨_,_,_,_,rfl⟩
    ·rw[aB h4,aB h4];exact⟨rfl,hn1,rL _⟩
  |term=>
   simp only[EK.need] at hf;unfold pE rE;have i:=ih .fact d s hn (by simp only[EK.need];omega);revert i;generalize pE l f .fact d s=P;generalize rE m f .fact ⟨s.n,none,d,s.pr⟩=Q;intro i;obtain⟨_|e,s'⟩:=P
   ·exact vX l m (k:=.fact) i .termL
   ·obtain⟨rfl,i2,i3⟩:=i;simp only[EK.gain] at i3;have j:=ih (.termL e) d s' i2 (by simp only[EK.need];omega);revert j;dsimp only;generalize pE l f (.termL e) d s'=P;intro j;obtain⟨_|e',s''⟩:=P
    ·exact j
    ·exact⟨j.1,j.2.1,by have:=j.2.2;simp only[EK.gain] at this⊢;omega⟩
  |expr=>
   simp only[EK.need] at hf;unfold pE rE;have i:=ih .term d s hn (by simp only[EK.need];omega);revert i;generalize pE l f .term d s=P;generalize rE m f .term ⟨s.n,none,d,s.pr⟩=Q;intro i;obtain⟨_|e,s'⟩:=P
   ·exact vX l m (k:=.fact) i .exprL
   ·obtain⟨rfl,i2,i3⟩:=i;simp only[EK.gain] at i3;have j:=ih (.exprL e) d s' i2 (by simp only[EK.need];omega);revert j;dsimp only;generalize pE l f (.exprL e) d s'=P;intro j;obtain⟨_|e',s''⟩:=P
    ·exact j
    ·exact⟨j.1,j.2.1,by have:=j.2.2;simp only[EK.gain] at this⊢;omega⟩
  |termL e=>
   simp only[EK.need] at hf;unfold pE rE;dsimp only;by_cases h1:gV (tk l s.n) [42]=true
   ·rw[aA h1,aA ⟨rfl,by rw[<-he];exact h1⟩];have hn1:=adv _ hn (lF h1).1 (lF h1).2;have i:=ih .fact d s.adv hn1 (by simp only[EK.need,PS.adv];omega);revert i;show zT l m d (s.n+1) 1 (pE l f .fact d s.adv) (rE m f .fact ⟨s.n+1,none,d,s.pr⟩)->zT l m d s.n 0 _ (rE m f (.termL (.bin [42] e (rE m f .fact ⟨s.n+1,none,d,s.pr⟩).1)) (rE m f .fact ⟨s.n+1,none,d,s.pr⟩).2);generalize pE l f .fact d s.adv=P;generalize rE m f .fact ⟨s.n+1,none,d,s.pr⟩=Q;intro i;obtain⟨_|e1,s'⟩:=P
    ·exact vX l m (k:=.fact) i fun x=>.termL (.bin [42] e x)
    ·obtain⟨rfl,i2,i3⟩:=i;have j:=ih (.termL (.bin [42] e e1)) d s' i2 (by simp only[EK.need];omega);revert j;dsimp only;generalize pE l f (.termL (.bin [42] e e1)) d s'=P;intro j;obtain⟨_|e',s''⟩:=P
     ·exact j
     ·exact⟨j.1,j.2.1,by have:=j.2.2;simp only[EK.gain] at this⊢;omega⟩
   ·rw[aB h1,aB (fun h=>h1 (by rw[he];exact h.2))];exact⟨rfl,hn,rL _⟩
  |exprL e=>
   simp only[EK.need] at hf;unfold pE rE;simp only[Option.isSome_none,aY,cO,<-he];cases ht:tk l s.n with
   |sg x=>
    dsimp only;by_cases h1:x=[43]∨x=[45]∨x=[38]
    ·rw[aA h1,aA h1];have hn1:=adv _ hn (by rw[ht];simp) (by rw[ht];simp);have i:=ih .term d s.adv hn1 (by simp only[EK.need,PS.adv];omega);revert i;show zT l m d (s.n+1) 1 (pE l f .term d s.adv) (rE m f .term ⟨s.n+1,none,d,s.pr⟩)->zT l m d s.n 0 _ (rE m f (.exprL (.bin x e (rE m f .term ⟨s.n+1,none,d,s.pr⟩).1)) (rE m f .term ⟨s.n+1,none,d,s.pr⟩).2);generalize pE l f .term d s.adv=P;generalize rE m f .term ⟨s.n+1,none,d,s.pr⟩=Q;intro i;obtain⟨_|e1,s'⟩:=P
     ·exact vX l m (k:=.fact) i fun y=>.exprL (.bin x e y)
     ·obtain⟨rfl,i2,i3⟩:=i;have j:=ih (.exprL (.bin x e e1)) d s' i2 (by simp only[EK.need];omega);revert j;dsimp only;generalize pE l f (.exprL (.bin x e e1)) d s'=P;intro j;obtain⟨_|e',s''⟩:=P
      ·exact j
      ·exact⟨j.1,j.2.1,by have:=j.2.2;simp only[EK.gain] at this⊢;omega⟩
    ·rw[aB h1,aB h1];exact⟨rfl,hn,rL _⟩
   |_=>exact⟨rfl,hn,rL _⟩
theorem W0 (l:List Tk):∀(f f':Nat) (k:EK) (d d':Nat) (s s':PS) (e e':Ex) (t t':PS),s.n=s'.n->pE l f k d s=(some e,t)->pE l f' k d' s'=(some e',t')->e=e'/\t.n=t'.n:=by
 intro f;induction f with
 |zero=>intro f' k d d' s s' e e' t t' _ h;cases h
 |succ f ih=>
  intro f' k d d' s s' e e' t t' hn h h';cases f' with
  |zero=>cases h'
  |succ f'=>
  cases k with
  |fact=>
   unfold pE at h h';rw[<-hn] at h';cases ht:tk l s.n with
   |nu n=>rw[ht] at h h';cases h;cases h';exact⟨rfl,aJ (· +1) hn⟩
   |tx x=>rw[ht] at h h';cases h;cases h';exact⟨rfl,aJ (· +1) hn⟩
   |fin=>rw[ht] at h;cases h
   |bad=>rw[ht] at h;cases h
   |sg x=>
    rw[ht] at h h';dsimp only at h h';by_cases h1:x=[45]
    ·rw[aA h1] at h h';split at h
     ·rename_i e1 s1 q1;split at h'
      ·rename_i e2 s2 q2;cases h;cases h';have:=ih f' _ _ _ _ _ _ _ _ _ (show s.adv.n=s'.adv.n from aJ (· +1) hn) q1 q2;exact⟨by rw[this.1],this.2⟩
      ·cases h'
     ·cases h
    rw[aB h1] at h h';by_cases h2:x=[40]
    ·rw[aA h2] at h h';split at h
     ·rename_i e1 s1 q1;split at h'
      ·rename_i e2 s2 q2;have i:=ih f' _ _ _ _ _ _ _ _ _ (show(s.adv.deep (d+1)).n=(s'.adv.deep (d'+1)).n from aJ (· +1) hn) q1 q2;split at h
       ·split at h'
        ·cases h;cases h';exact⟨i.1,aJ (· +1) i.2⟩
        ·cases h'
       ·cases h
      ·cases h'
     ·cases h
    rw[aB h2] at h;cases h
   |nm x=>
    rw[ht] at h h';dsimp only at h h';by_cases h1:x=eZ
    ·rw[aA h1] at h h';cases h;cases h';exact⟨rfl,aJ (· +1) hn⟩
    rw[aB h1] at h h';by_cases h2:x=mJ
    ·rw[aA h2] at h h';cases h;cases h';exact⟨rfl,aJ (· +1) hn⟩
    rw[aB h2] at h h';by_cases h3:x≠iX/\tk l (s.n+1)=.sg [46]
    ·rw[aA h3] at h h';split at h
     ·rename_i y hy;rw[hy] at h';cases h;cases h';exact⟨rfl,aJ (· +3) hn⟩
     ·cases h
    rw[aB h3] at h h';by_cases h4:OD.contains x=true
    ·rw[aA h4] at h;cases h
    ·rw[aB h4] at h h';cases h;cases h';exact⟨rfl,aJ (· +1) hn⟩
  |term=>
   unfold pE at h h';split at h
   ·rename_i e1 s1 q1;split at h'
    ·rename_i e2 s2 q2;obtain⟨i1,i2⟩:=ih f' _ _ _ _ _ _ _ _ _ hn q1 q2;subst i1;exact ih f' _ _ _ _ _ _ _ _ _ i2 h h'
    ·cases h'
   ·cases h
  |expr=>
   unfold pE at h h';split at h
   ·rename_i e1 s1 q1;split at h'
    ·rename_i e2 s2 q2;obtain⟨i1,i2⟩:=ih f' _ _ _ _ _ _ _ _ _ hn q1 q2;subst i1;exact ih f' _ _ _ _ _ _ _ _ _ i2 h h'
    ·cases h'
   ·cases h
  |termL e0=>
   unfold pE at h h';rw[<-hn] at h';split at h
   ·rename_i h1;rw[aA h1] at h';split at h
    ·rename_i e1 s1 q1;split at h'
     ·rename_i e2 s2 q2;obtain⟨i1,i2⟩:=ih f' _ _ _ _ _ _ _ _ _ (show s.adv.n=s'.adv.n from aJ (· +1) hn) q1 q2;subst i1;exact ih f' _ _ _ _ _ _ _ _ _ i2 h h'
     ·cases h'
    ·cases h
   ·rename_i h1;rw[aB h1] at h';cases h;cases h';exact⟨rfl,hn⟩
  |exprL e0=>
   unfold pE at h h';rw[<-hn] at h';cases ht:tk l s.n with
   |sg x=>
    rw[ht] at h h';dsimp only at h h';by_cases h1:x=[43]∨x=[45]∨x=[38]
    ·rw[aA h1] at h h';split at h
     ·rename_i e1 s1 q1;split at h'
      ·rename_i e2 s2 q2;obtain⟨i1,i2⟩:=ih f' _ _ _ _ _ _ _ _ _ (show s.adv.n=s'.adv.n from aJ (· +1) hn) q1 q2;subst i1;exact ih f' _ _ _ _ _ _ _ _ _ i2 h h'
      ·cases h'
     ·cases h
    ·rw[aB h1] at h h';cases h;cases h';exact⟨rfl,hn⟩
   |_=>rw[ht] at h h';cases h;cases h';exact⟨rfl,hn⟩
structure WfN (l:List Tk):Prop where
 name:∀n x,tk l n=.nm x->dE x=true
def Xn (l:List Tk) (n:Nat):Prop:=∀f d s,s.n=n->∀e t,pE l f .expr d s=(some e,t)->∃op,tk l t.n=.sg op/\FP.contains op=true
theorem OP {l:List Tk} {n:Nat} (h:∀f d s,s.n=n->(pE l f .fact d s).1=none):∀f d s,s.n=n->(pE l f .expr d s).1=none:=by
 have ht:∀f d s,s.n=n->(pE l f .term d s).1=none:=fun f d s hs=>by
  cases f with
  |zero=>rfl
  |succ f=>
   unfold pE;have:=h f d s hs;generalize pE l f .fact d s=P at this;obtain⟨_|e,t⟩:=P
   ·rfl
   ·cases this
 intro f d s hs;cases f with
 |zero=>rfl
 |succ f=>
  unfold pE;have:=ht f d s hs;generalize pE l f .term d s=P at this;obtain⟨_|e,t⟩:=P
  ·rfl
  ·cases this
theorem YM {op:By} (h:FP.contains op=true):(op==[41])=false:=by
 simp only[FP,List.contains_eq_mem,dU,cZ,or_false,aH] at h;rcases h with rfl|rfl|rfl|rfl|rfl|rfl<;>decide
theorem J2 {l:List Tk} {n:Nat} (ht:tk l n=.sg [40]) (hx:Xn l (n+1)):∀f d s,s.n=n->(pE l f .expr d s).1=none:=
 OP fun f d s hs=>by
  cases f with
  |zero=>rfl
  |succ f=>
   unfold pE;rw[hs,ht];dsimp only;rw[aB (by decide),aA rfl];cases hp:pE l f .expr (d+1) (s.adv.deep (d+1)) with
   |mk o t=>
    cases o with
    |none=>rfl
    |some e=>
     obtain⟨op,h1,h2⟩:=hx _ _ _ (by show s.n+1=_;rw[hs]) e t hp;dsimp only;rw[aB (by rw[h1];show¬(op==_)=true;rw[YM h2];simp)]
theorem Z4 {l:List Tk} {n:Nat} (ht:gV (tk l n) iX=true):∀f d s,s.n=n->(pE l f .expr d s).1=none:=
 OP fun f d s hs=>by
  cases f with
  |zero=>rfl
  |succ f=>
   unfold pE;rw[hs];rcases NT ht with h|h
   ·rw[h];dsimp only;rw[aB (by decide),aB (by decide),aB (fun h=>h.1 rfl),aA (by decide)]
   ·rw[h];dsimp only;rw[aB (by decide),aB (by decide)]
def CK.plain:CK->Bool
 |.bothL _|.condL _=>false
 |_=>true
theorem Xn.of_no {l:List Tk} {n:Nat} (h:∀f d s,s.n=n->(pE l f .expr d s).1=none):Xn l n:=fun f d s hs e t he=>by
 have:=h f d s hs;rw[he] at this;cases this
theorem a1A {l:List Tk} (hw:WfN l):∀(f:Nat) (k:CK) (d:Nat) (s:PS) (c:Cn) (t:PS),k.plain=true->pC l f k d s=(some c,t)->Xn l s.n:=by
 intro f;induction f with
 |zero=>intro k d s c t _ h;cases h
 |succ f ih=>
  intro k d s c t hk h;cases k with
  |bothL _=>cases hk
  |condL _=>cases hk
  |rel=>
   unfold pC at h;cases hp:pE l f .expr d s with
   |mk o s1=>
    rw[hp] at h;cases o with
    |none=>cases h
    |some a=>
     dsimp only at h;cases ht:tk l s1.n with
     |sg op=>
      rw[ht] at h;dsimp only at h;by_cases ho:FP.contains op=true
      ·intro f' d' s' hs' e' t' he';have:=W0 l f f' .expr d d' s s' a e' s1 t' hs'.symm hp he';exact⟨op,by rw[<-this.2];exact ht,ho⟩
      ·rw[aB ho] at h;cases h
     |_=>rw[ht] at h;cases h
  |prim=>
   unfold pC at h;by_cases h1:gV (tk l s.n) [40]=true
   ·rw[aA h1] at h;cases hp:pC l f .cond (d+1) (s.adv.deep (d+1)) with
    |mk o s1=>
     rw[hp] at h;cases o with
     |none=>have i:=ih .rel d _ c t rfl h;exact i
     |some c1=>
      dsimp only at h;have hx:=ih .cond _ _ _ _ rfl hp;split at h
      ·split at h
       ·have i:=ih .rel d _ c t rfl h;exact i
       ·rcases NT h1 with h2|h2
        ·exact absurd (hw.name _ _ h2) (by decide)
        ·exact .of_no (J2 h2 hx)
      ·have i:=ih .rel d _ c t rfl h;exact i
   ·rw[aB h1] at h;exact ih .rel d _ c t rfl h
  |not=>
   unfold pC at h;by_cases h1:gV (tk l s.n) iX=true
   ·exact .of_no (Z4 h1)
   ·rw[aB h1] at h;exact ih .prim d _ c t rfl h
  |both=>
   unfold pC at h;cases hp:pC l f .not d s with
   |mk o s1=>
    rw[hp] at h;cases o with
    |none=>cases h
    |some c1=>exact ih .not d s _ _ rfl hp
  |cond=>
   unfold pC at h;cases hp:pC l f .both d s with
   |mk o s1=>
    rw[hp] at h;cases o with
    |none=>cases h
    |some c1=>exact ih .both d s _ _ rfl hp
def CK.need (r:Nat):CK->Nat
 |.rel=>5*r+4
 |.prim=>5*r+5
 |.not=>5*r+6
 |.both=>5*r+7
 |.bothL _=>5*r+2
 |.cond=>5*r+8
 |.condL _=>5*r+3
def CK.gain:CK->Nat
 |.bothL _|.condL _=>0
 |_=>1
def zU (l:List Tk) (d n0 g:Nat) (p:Option Cn×PS) (q:Cn×RS):Prop:=match p with
 |(some c,s')=>q=(c,⟨s'.n,none,d,s'.pr⟩)/\s'.n<l.length/\n0+g<=s'.n
 |(none,_)=>∃c n pm,(∃b,q=(c,⟨n,some b,d,pm⟩))∨(q=(c,⟨n,none,d,pm⟩)/\n<l.length/\PZ (tk l n)=true)
def SimR (l:List Tk) (d n0 g:Nat) (p:Option Cn×PS) (q:Cn×RS):Prop:=match p with
 |(some c,s')=>q=(c,⟨s'.n,none,d,s'.pr⟩)/\s'.n<l.length/\n0+g<=s'.n
 |(none,_)=>∃c n pm b,q=(c,⟨n,some b,d,pm⟩)
theorem SimR.toC {l:List Tk} {d n0 g:Nat} {p:Option Cn×PS} {q:Cn×RS} (h:SimR l d n0 g p q):zU l d n0 g p q:=by
 obtain⟨_|c,s⟩:=p
 ·obtain⟨c,n,pm,b,rfl⟩:=h;exact⟨c,n,pm,.inl ⟨b,rfl⟩⟩
 ·exact h
theorem S8 (l m:List Tk) (ha:Alike l m) (f d:Nat) (s:PS) (hn:s.n<l.length) (hf:CK.need (l.length - s.n) .rel<=f):SimR l d s.n 1 (pC l f .rel d s) (rC m f .rel ⟨s.n,none,d,s.pr⟩):=by
 cases f with
 |zero=>simp[CK.need] at hf
 |succ f=>
  simp only[CK.need] at hf;unfold pC rC;have i:=VN l m ha f .expr d s hn (by simp only[EK.need];omega);revert i;generalize pE l f .expr d s=P;generalize rE m f .expr ⟨s.n,none,d,s.pr⟩=Q;intro i;obtain⟨_|a,s1⟩:=P
  ·obtain⟨e,n,b,pm,rfl⟩:=i;dsimp only;rw[aA (show(some b).isSome=true from rfl)];exact⟨_,_,_,_,rfl⟩
  ·obtain⟨rfl,i2,i3⟩:=i;simp only[EK.gain] at i3;dsimp only;rw[aB (by simp),<-ha.eq _ i2];cases ht:tk l s1.n with
   |sg op=>
    dsimp only;by_cases ho:FP.contains op=true
    ·rw[aA ho,aA ho];have hn1:=ha.wf.next _ i2 (by rw[ht];simp) (by rw[ht];simp);have j:=VN l m ha f .expr d s1.adv hn1 (by simp only[EK.need,PS.adv];omega);revert j;show zT l m d (s1.n+1) 1 (pE l f .expr d s1.adv) (rE m f .expr ⟨s1.n+1,none,d,s1.pr⟩)->SimR l d s.n 1 _ (.rel op a (rE m f .expr ⟨s1.n+1,none,d,s1.pr⟩).1,(rE m f .expr ⟨s1.n+1,none,d,s1.pr⟩).2);generalize pE l f .expr d s1.adv=P;generalize rE m f .expr ⟨s1.n+1,none,d,s1.pr⟩=Q;intro j;obtain⟨_|b,s2⟩:=P
     ·obtain⟨e,n,b,pm,rfl⟩:=j;exact⟨_,_,_,_,rfl⟩
     ·obtain⟨rfl,j2,j3⟩:=j;exact⟨rfl,j2,by omega⟩
    ·rw[aB ho,aB ho];exact⟨_,_,_,_,rfl⟩
   |_=>exact⟨_,_,_,_,rfl⟩
theorem wD {t:Tk} (h:PZ t=true):gV t [41]=false/\gV t [97,110,100]=false/\gV t [111,114]=false:=by
 unfold PZ at h;split at h
 ·rename_i x;simp only[List.contains_eq_mem,dU,cZ,or_false,aH] at h;rcases h with rfl|rfl|rfl|rfl|rfl|rfl|rfl|rfl|rfl|rfl<;>exact⟨by decide,by decide,by decide⟩
 ·cases h
theorem mD {m : List Tk} {f : Nat} {c : Cn} {s : RS} (h : s.bad.isSome = true ∨ gV (tk m s.n) [97, 110, 100] = false) : rC m (f + 1) (.bothL c) s = (c, s) := by
  unfold rC
  rw [aB (fun h' => h.elim (fun h => absurd (h.symm.trans h'.1) (by simp)) fun h => absurd (h.symm.trans h'.2) (by simp))]
theorem mC {m : List Tk} {f : Nat} {c : Cn} {s : RS} (h : s.bad.isSome = true ∨ gV (tk m s.n) [111, 114] = false) : rC m (f + 1) (.condL c) s = (c, s) := by
  unfold rC
  rw [aB (fun h' => h.elim (fun h => absurd (h.symm.trans h'.1) (by simp)) fun h => absurd (h.symm.trans h'.2) (by simp))]
theorem a0T (l m:List Tk) (ha:Alike l m) (hw:WfN l):∀(f:Nat) (k:CK) (d:Nat) (s:PS),s.n<l.length->k.need (l.length - s.n)<=f->zU l d s.n k.gain (pC l f k d s) (rC m f k ⟨s.n,none,d,s.pr⟩):=by
 intro f;induction f with
 |zero=>intro k d s hn hf;cases k<;>simp[CK.need] at hf
 |succ f ih=>
  have adv:∀n,n<l.length->tk l n≠ .fin->tk l n≠ .bad->n+1<l.length:=ha.wf.next;have pos:∀{n:Nat},n<l.length->1<=l.length - n:=fun h=>by omega
  intro k d s hn hf;have he:=ha.eq s.n hn;cases k with
  |rel=>exact(S8 l m ha (f+1) d s hn hf).toC
  |prim=>
   simp only[CK.need] at hf;have rel:∀far,SimR l d s.n 1 (pC l f .rel d ⟨s.n,far,s.pr⟩) (rC m f .rel ⟨s.n,none,d,s.pr⟩):=fun far=>S8 l m ha f d ⟨s.n,far,s.pr⟩ hn (by simp only[CK.need];omega);unfold pC rC;by_cases h1:gV (tk l s.n) [40]=true
   ·rw[aA h1,aB (by rw[<-he,h1];simp)];have hn1:=adv _ hn (lF h1).1 (lF h1).2;have i:=ih .cond (d+1) (s.adv.deep (d+1)) hn1 (by simp only[CK.need,PS.adv,PS.deep];omega);have hx:∀c t,pC l f .cond (d+1) (s.adv.deep (d+1))=(some c,t)->Xn l (s.n+1):=fun c t h=>a1A hw f .cond (d+1) (s.adv.deep (d+1)) c t rfl h;revert i hx;show zU l (d+1) (s.n+1) 1 (pC l f .cond (d+1) (s.adv.deep (d+1))) (rC m f .cond ⟨s.n+1,none,d+1,max s.pr (d+1)⟩)->_->zU l d s.n 1 _ (match(hQ m (rC m f .cond ⟨s.n+1,none,d+1,max s.pr (d+1)⟩).2 [41]).bad with
     |none=>((rC m f .cond ⟨s.n+1,none,d+1,max s.pr (d+1)⟩).1,(hQ m (rC m f .cond ⟨s.n+1,none,d+1,max s.pr (d+1)⟩).2 [41]).out)
     |some b=>((rC m f .rel ⟨s.n,none,(hQ m (rC m f .cond ⟨s.n+1,none,d+1,max s.pr (d+1)⟩).2 [41]).ps - 1,s.pr⟩).1,match(rC m f .rel ⟨s.n,none,(hQ m (rC m f .cond ⟨s.n+1,none,d+1,max s.pr (d+1)⟩).2 [41]).ps - 1,s.pr⟩).2 with
      |⟨n,some b',ps,pm⟩=>⟨n,some (max b' b),ps,pm⟩
      |x=>x))
    generalize pC l f .cond (d+1) (s.adv.deep (d+1))=P;generalize rC m f .cond ⟨s.n+1,none,d+1,max s.pr (d+1)⟩=Q;intro i hx;have back:∀(b far:Nat),zU l d s.n 1 (pC l f .rel d ⟨s.n,far,s.pr⟩) ((rC m f .rel ⟨s.n,none,d+1 - 1,s.pr⟩).1,match(rC m f .rel ⟨s.n,none,d+1 - 1,s.pr⟩).2 with
      |⟨n,some b',ps,pm⟩=>⟨n,some (max b' b),ps,pm⟩
      |x=>x):=fun b far=>by
     have r:=rel far;rw[Nat.add_sub_cancel];generalize pC l f .rel d ⟨s.n,far,s.pr⟩=P at r;generalize rC m f .rel ⟨s.n,none,d,s.pr⟩=Q at r;obtain⟨_|c,s1⟩:=P
     ·obtain⟨c,n,pm,b',rfl⟩:=r;exact⟨c,n,pm,.inl ⟨_,rfl⟩⟩
     ·obtain⟨rfl,r2,r3⟩:=r;exact⟨rfl,r2,r3⟩
    obtain⟨_|c,s1⟩:=P
    ·dsimp only;obtain⟨c,n,pm,⟨b,rfl⟩|⟨rfl,i2,i3⟩⟩:=i
     ·have hwt:hQ m ⟨n,some b,d+1,pm⟩ [41]=⟨n,some b,d+1,pm⟩:=by unfold hQ;rw[aA (show(some b).isSome=true from rfl)]
      simp only[hwt];exact back b _
     ·have hwt:hQ m ⟨n,none,d+1,pm⟩ [41]=⟨n,some n,d+1,pm⟩:=by
       unfold hQ;rw[aB (by simp),aB (by rw[<-ha.eq _ i2,(wD i3).1];simp)];rfl
      simp only[hwt];exact back n _
    ·obtain⟨rfl,i2,i3⟩:=i;dsimp only;by_cases h2:gV (tk l s1.n) [41]=true
     ·have hwt:hQ m ⟨s1.n,none,d+1,s1.pr⟩ [41]=⟨s1.n+1,none,d+1,s1.pr⟩:=by
       unfold hQ;rw[aB (by simp),aA (by rw[<-ha.eq _ i2];exact h2)];rfl
      have hn2:=adv _ i2 (lF h2).1 (lF h2).2;simp only[hwt];rw[aA h2];by_cases h3:PZ (tk l (s1.n+1))=true
      ·rw[aA h3];have hno:(pC l f .rel d ⟨s.n,max s1.adv.wr.far s.far,s.pr⟩).1=none:=by
        cases f with
        |zero=>rfl
        |succ f=>
         rcases NT h1 with h4|h4
         ·exact absurd (hw.name _ _ h4) (by decide)
         have:=J2 h4 (hx c s1 rfl) f d ⟨s.n,max s1.adv.wr.far s.far,s.pr⟩ rfl;unfold pC;generalize pE l f .expr d ⟨s.n,max s1.adv.wr.far s.far,s.pr⟩=P at this;obtain⟨_|e,t⟩:=P
         ·rfl
         ·cases this
       generalize pC l f .rel d ⟨s.n,max s1.adv.wr.far s.far,s.pr⟩=P at hno;obtain⟨_|e,t⟩:=P
       ·exact⟨c,s1.n+1,s1.pr,.inr ⟨by show(c,RS.out _)=_;rfl,hn2,h3⟩⟩
       ·cases hno
      ·rw[aB h3];exact⟨rfl,hn2,by show s.n+1<=s1.n+1;omega⟩
     ·have hwt:hQ m ⟨s1.n,none,d+1,s1.pr⟩ [41]=⟨s1.n,some s1.n,d+1,s1.pr⟩:=by
       unfold hQ;rw[aB (by simp),aB (by rw[<-ha.eq _ i2];exact h2)];rfl
      simp only[hwt];rw[aB h2];exact back _ _
   ·rw[aB h1,aA (.inr (by rw[<-he];simpa using h1))];exact(rel s.far).toC
  |not=>
   simp only[CK.need] at hf;unfold pC rC;by_cases h1:gV (tk l s.n) iX=true
   ·rw[aA h1,aA ⟨rfl,by rw[<-he];exact h1⟩];have hn1:=adv _ hn (lF h1).1 (lF h1).2;have i:=ih .prim d s.adv hn1 (by simp only[CK.need,PS.adv];omega);revert i;show zU l d (s.n+1) 1 (pC l f .prim d s.adv) (rC m f .prim ⟨s.n+1,none,d,s.pr⟩)->zU l d s.n 1 _ (.no (rC m f .prim ⟨s.n+1,none,d,s.pr⟩).1,(rC m f .prim ⟨s.n+1,none,d,s.pr⟩).2);generalize pC l f .prim d s.adv=P;generalize rC m f .prim ⟨s.n+1,none,d,s.pr⟩=Q;intro i;obtain⟨_|c,s1⟩:=P
    ·obtain⟨c,n,pm,⟨b,rfl⟩|⟨rfl,i2,i3⟩⟩:=i
     ·exact⟨_,_,_,.inl ⟨_,rfl⟩⟩
     ·exact⟨_,_,_,.inr ⟨rfl,i2,i3⟩⟩
    ·obtain⟨rfl,i2,i3⟩:=i;exact⟨rfl,i2,by omega⟩
   ·rw[aB h1,aB (fun h=>h1 (by rw[he];exact h.2))];exact ih .prim d s hn (by simp only[CK.need];omega)
  |both=>
   simp only[CK.need] at hf;obtain⟨f,rfl⟩:∃g,f=g+1:=⟨f - 1,by omega⟩;unfold pC rC;have i:=ih .not d s hn (by simp only[CK.need];omega);revert i;generalize pC l (f+1) .not d s=P;generalize rC m (f+1) .not ⟨s.n,none,d,s.pr⟩=Q;intro i;obtain⟨_|c,s1⟩:=P
   ·obtain⟨c,n,pm,⟨b,rfl⟩|⟨rfl,i2,i3⟩⟩:=i
    ·rw[mD (.inl rfl)];exact⟨_,_,_,.inl ⟨_,rfl⟩⟩
    ·rw[mD (.inr (by rw[<-ha.eq _ i2];exact(wD i3).2.1))];exact⟨_,_,_,.inr ⟨rfl,i2,i3⟩⟩
   ·obtain⟨rfl,i2,i3⟩:=i;simp only[CK.gain] at i3;have j:=ih (.bothL c) d s1 i2 (by simp only[CK.need];omega);revert j;dsimp only;generalize pC l (f+1) (.bothL c) d s1=P;intro j;obtain⟨_|c',s2⟩:=P
    ·exact j
    ·exact⟨j.1,j.2.1,by have:=j.2.2;simp only[CK.gain] at this⊢;omega⟩
  |cond=>
   simp only[CK.need] at hf;obtain⟨f,rfl⟩:∃g,f=g+1:=⟨f - 1,by omega⟩;unfold pC rC;have i:=ih .both d s hn (by simp only[CK.need];omega);revert i;generalize pC l (f+1) .both d s=P;generalize rC m (f+1) .both ⟨s.n,none,d,s.pr⟩=Q;intro i;obtain⟨_|c,s1⟩:=P
   ·obtain⟨c,n,pm,⟨b,rfl⟩|⟨rfl,i2,i3⟩⟩:=i
    ·rw[mC (.inl rfl)];exact⟨_,_,_,.inl ⟨_,rfl⟩⟩
    ·rw[mC (.inr (by rw[<-ha.eq _ i2];exact(wD i3).2.2))];exact⟨_,_,_,.inr ⟨rfl,i2,i3⟩⟩
   ·obtain⟨rfl,i2,i3⟩:=i;simp only[CK.gain] at i3;have j:=ih (.condL c) d s1 i2 (by simp only[CK.need];omega);revert j;dsimp only;generalize pC l (f+1) (.condL c) d s1=P;intro j;obtain⟨_|c',s2⟩:=P
    ·exact j
    ·exact⟨j.1,j.2.1,by have:=j.2.2;simp only[CK.gain] at this⊢;omega⟩
  |bothL c=>
   simp only[CK.need] at hf;have p1:=pos hn;obtain⟨f,rfl⟩:∃g,f=g+1:=⟨f - 1,by omega⟩;unfold pC rC;by_cases h1:gV (tk l s.n) [97,110,100]=true
   ·rw[aA h1,aA ⟨rfl,by rw[<-he];exact h1⟩];have hn1:=adv _ hn (lF h1).1 (lF h1).2;have i:=ih .not d s.adv hn1 (by simp only[CK.need,PS.adv];omega);revert i;show zU l d (s.n+1) 1 (pC l (f+1) .not d s.adv) (rC m (f+1) .not ⟨s.n+1,none,d,s.pr⟩)->zU l d s.n 0 _ (rC m (f+1) (.bothL (.two [97,110,100] c (rC m (f+1) .not ⟨s.n+1,none,d,s.pr⟩).1)) (rC m (f+1) .not ⟨s.n+1,none,d,s.pr⟩).2);generalize pC l (f+1) .not d s.adv=P;generalize rC m (f+1) .not ⟨s.n+1,none,d,s.pr⟩=Q;intro i;obtain⟨_|c1,s1⟩:=P
    ·obtain⟨c1,n,pm,⟨b,rfl⟩|⟨rfl,i2,i3⟩⟩:=i
     ·rw[mD (.inl rfl)];exact⟨_,_,_,.inl ⟨_,rfl⟩⟩
     ·rw[mD (.inr (by rw[<-ha.eq _ i2];exact(wD i3).2.1))];exact⟨_,_,_,.inr ⟨rfl,i2,i3⟩⟩
    ·obtain⟨rfl,i2,i3⟩:=i;have j:=ih (.bothL (.two [97,110,100] c c1)) d s1 i2 (by simp only[CK.need];omega);revert j;dsimp only;generalize pC l (f+1) (.bothL (.two [97,110,100] c c1)) d s1=P;intro j;obtain⟨_|c',s2⟩:=P
     ·exact j
     ·exact⟨j.1,j.2.1,by have:=j.2.2;simp only[CK.gain] at this⊢;omega⟩
   ·rw[aB h1,aB (fun h=>h1 (by rw[he];exact h.2))];exact⟨rfl,hn,rL _⟩
  |condL c=>
   simp only[CK.need] at hf;have p1:=pos hn;obtain⟨f,rfl⟩:∃g,f=g+1:=⟨f - 1,by omega⟩;unfold pC rC;by_cases h1:gV (tk l s.n) [111,114]=true
   ·rw[aA h1,aA ⟨rfl,by rw[<-he];exact h1⟩];have hn1:=adv _ hn (lF h1).1 (lF h1).2;have i:=ih .both d s.adv hn1 (by simp only[CK.need,PS.adv];omega);revert i;show zU l d (s.n+1) 1 (pC l (f+1) .both d s.adv) (rC m (f+1) .both ⟨s.n+1,none,d,s.pr⟩)->zU l d s.n 0 _ (rC m (f+1) (.condL (.two [111,114] c (rC m (f+1) .both ⟨s.n+1,none,d,s.pr⟩).1)) (rC m (f+1) .both ⟨s.n+1,none,d,s.pr⟩).2);generalize pC l (f+1) .both d s.adv=P;generalize rC m (f+1) .both ⟨s.n+1,none,d,s.pr⟩=Q;intro i;obtain⟨_|c1,s1⟩:=P
    ·obtain⟨c1,n,pm,⟨b,rfl⟩|⟨rfl,i2,i3⟩⟩:=i
     ·rw[mC (.inl rfl)];exact⟨_,_,_,.inl ⟨_,rfl⟩⟩
     ·rw[mC (.inr (by rw[<-ha.eq _ i2];exact(wD i3).2.2))];exact⟨_,_,_,.inr ⟨rfl,i2,i3⟩⟩
    ·obtain⟨rfl,i2,i3⟩:=i;have j:=ih (.condL (.two [111,114] c c1)) d s1 i2 (by simp only[CK.need];omega);revert j;dsimp only;generalize pC l (f+1) (.condL (.two [111,114] c c1)) d s1=P;intro j;obtain⟨_|c',s2⟩:=P
     ·exact j
     ·exact⟨j.1,j.2.1,by have:=j.2.2;simp only[CK.gain] at this⊢;omega⟩
   ·rw[aB h1,aB (fun h=>h1 (by rw[he];exact h.2))];exact⟨rfl,hn,rL _⟩
