/- Part of ViewWrong. -/
import Derived.Test.YtimgfjldcdhejaaGreatDoorK23
set_option linter.all false
set_option maxRecDepth 100000
namespace Go.Proofs.YtimgfjldcdhejaaGreatDoor
open Go.RowKit
theorem a1U [MaxL] (ws:List By) (hw:ws.length<1000000) (a lv d:Nat) (ha:a<=ws.length) (h:m7 ws a≠kX) (o:Option (Tree×List By×Nat))
  (hc:Rr 302 ws a lv d o):Rr 279 ws a lv d o:=by
 have hm:ws.length<b9:=by unfold b9;omega
 have n1:=lK hm ha h lv (decide (20<d));cases o with
 |none=>
  obtain⟨t,a',l',b1,b2,b3,hc⟩:=hc;refine⟨t,a',l',b1,b2,b3,?_⟩;have hcl:=t.ng_cl;obtain⟨k,kids,A,B,op,yes,hng⟩:=fL t;rw[hng] at hc hcl⊢;refine cO Tryz.func279 rfl ?_;conv=>whnf
  refine cBx 0 n1 ?_;conv=>whnf
  refine BL (q:=0) hc sB sB (fun _=>rfl) hcl ?_;conv=>whnf
  refine sT ?_;conv=>whnf
  exact jU rfl (.refl _) sB hcl
 |some p=>
  obtain⟨t,r,e⟩:=p;obtain⟨a',b1,b2,rfl,b3,hc⟩:=hc;refine⟨a',b1,b2,rfl,b3,?_⟩;have hcl:=t.ng_cl;obtain⟨k,kids,A,B,op,yes,hng⟩:=fL t;rw[hng] at hc hcl⊢;refine cO Tryz.func279 rfl ?_;conv=>whnf
  refine cBx 0 n1 ?_;conv=>whnf
  refine BL (q:=0) hc sB sB (fun _=>rfl) hcl ?_;conv=>whnf
  refine sT ?_;conv=>whnf
  exact jU rfl (.refl _) sB hcl
theorem Z5 [MaxL] (ws:List By) (hw:ws.length<1000000) (a lv d:Nat) (hlv:lv<100000) (h:m7 ws a=kX) (o:Option (Tree×List By×Nat))
  (hc:Rr 302 ws (a+1) (lv+1) (max d (lv+1)) o):Rr 279 ws a lv d (o.map fun p=>(.no p.1,p.2)):=by
 have hm:ws.length<b9:=by unfold b9;omega
 have ha:=nZ (ws:=ws) (a:=a) (by rw[h];decide);have h1:=mT hm h (by decide) lv (decide (20<d));have h2:=a7Q ws (a+1) lv (by omega) false (decide (20<d));rw[XM] at h2;have hdec:IntKind.i64.wrap (((lv+1:Nat):Int) - 1)=((lv:Nat):Int):=by rw[dB (by omega) (by omega)];omega
 cases o with
 |none=>
  obtain⟨t,a',l',b1,b2,b3,hc⟩:=hc;refine⟨.no t,a',l',by omega,b2,by simp only[Tree.size];omega,?_⟩;have hcl:Cl (Tree.no t).ng:=(Tree.no t).ng_cl;have e:(Tree.no t).ng=.agg (kH 3 [t.ng] t0 t0 [] false):=rfl;have hcl2:=t.ng_cl;obtain⟨k,kids,A,B,op,yes,hng⟩:=fL t;rw[e] at hcl⊢;rw[hng] at hc hcl hcl2⊢;refine cO Tryz.func279 rfl ?_;conv=>whnf
  refine cBx 0 h1 ?_;conv=>whnf
  refine BL (q:=0) h2 sB sB (fun _=>rfl) (i8 .nil) ?_;conv=>whnf
  refine BL (q:=0) hc sB sB (fun _=>rfl) hcl2 ?_;conv=>whnf
  refine sT ?_;conv=>whnf
  refine⟨[.i .i64 (lv:Nat)],⟨(by rw[hdec];rfl),rL _,rfl,bL rfl⟩,?_⟩;conv=>whnf
  refine sT ?_;conv=>whnf
  exact jU rfl n7 sB hcl
 |some p=>
  obtain⟨t,r,e⟩:=p;obtain⟨a',b1,b2,rfl,b3,hc⟩:=hc;refine⟨a',by omega,b2,rfl,by simp only[Tree.size];omega,?_⟩;show SC _ _ _ _ (.val (Tree.no t).ng) _;have hcl:Cl (Tree.no t).ng:=(Tree.no t).ng_cl;have e:(Tree.no t).ng=.agg (kH 3 [t.ng] t0 t0 [] false):=rfl;have hcl2:=t.ng_cl;obtain⟨k,kids,A,B,op,yes,hng⟩:=fL t;rw[e] at hcl⊢;rw[hng] at hc hcl hcl2⊢;refine cO Tryz.func279 rfl ?_;conv=>whnf
  refine cBx 0 h1 ?_;conv=>whnf
  refine BL (q:=0) h2 sB sB (fun _=>rfl) (i8 .nil) ?_;conv=>whnf
  refine BL (q:=0) hc sB sB (fun _=>rfl) hcl2 ?_;conv=>whnf
  refine sT ?_;conv=>whnf
  refine⟨[.i .i64 (lv:Nat)],⟨(by rw[hdec];rfl),rL _,rfl,bL rfl⟩,?_⟩;conv=>whnf
  refine sT ?_;conv=>whnf
  exact jU rfl n7 sB hcl
inductive LpR [MaxL] (ws:List By) (k:FuncId) (w:By) (lv:Nat) (z:Tree):Nat->List Tree->Nat->Bool->Bool->(List Tree×Nat×Bool×Bool)->Prop where
 |bad {zs:List Tree} {a:Nat} {jO:Bool} (ha:a<=ws.length):LpR ws k w lv z 0 zs a true jO (zs,a,true,jO)
 |stop {zs:List Tree} {a:Nat} {jO:Bool} (h:m7 ws a≠w) (ha:a<=ws.length):LpR ws k w lv z 0 zs a false jO (zs,a,false,jO)
 |step {j:Nat} {zs:List Tree} {t:Tree} {a a':Nat} {jO bad' lim':Bool} {cQ:List Tree×Nat×Bool×Bool} (h:m7 ws a=w) (hc:SC Tryz.prog k [.ptr 0 0] [sZ ws (a+1:Nat) lv false jO] (.val t.ng) [sZ ws a' lv bad' lim'])
   (hr:LpR ws k w lv z j (zs++[t]) a' bad' lim' cQ):LpR ws k w lv z (j+1) zs a false jO cQ
theorem LpR.len [MaxL] {ws:List By} {k:FuncId} {w:By} {lv:Nat} {z:Tree} {j:Nat} {zs:List Tree} {a:Nat} {bad jO:Bool} {cQ:List Tree×Nat×Bool×Bool} (h:LpR ws k w lv z j zs a bad jO cQ):zs.length+j=cQ.1.length:=by
 induction h with
 |bad=>rfl
 |stop=>rfl
 |step h hc hr ih=>rw[aG,j5] at ih;omega
theorem a1Z [MaxL] (ws:List By) (hw:ws.length<1000000) (a lv:Nat) (jO bad1 lim1:Bool) (a1:Nat) (t:Tree) (hc:SC Tryz.prog 279 [.ptr 0 0] [sZ ws a lv false jO] (.val t.ng) [sZ ws a1 lv bad1 lim1])
  (j:Nat) (cQ:List Tree×Nat×Bool×Bool) (hl:LpR ws 279 oS lv t j [] a1 bad1 lim1 cQ) (hlen:cQ.1.length<=100000) (hsz:((t::cQ.1).flatMap (Tree.sides true)).length<=1000000):
  SC Tryz.prog 224 [.ptr 0 0] [sZ ws a lv false jO] (.val (fX true t cQ.1).ng) [sZ ws cQ.2.1 lv cQ.2.2.1 cQ.2.2.2]:=by
 have hm:ws.length<b9:=by unfold b9;omega
 have hj:=JA true t cQ.1 hlen hsz;have hjc:=(fX true t cQ.1).ng_cl;have hcl:=t.ng_cl;obtain⟨k,kids,A,B,op,yes,hng⟩:=fL t;obtain⟨k2,kids2,A2,B2,op2,yes2,hng2⟩:=fL (fX true t cQ.1);rw[hng2] at hj hjc⊢;clear hng2;rw[hng] at hc hcl;have hsl:GV.sl (.own 2) [.agg (kH k kids A B op yes)]=GV.sl (.own 2) (j3 [t]):=by show _=GV.sl (.own 2) [t.ng];rw[hng]
 refine cO Tryz.func224 rfl ?_;conv=>whnf
 refine BL (q:=0) hc sB sB (fun _=>rfl) hcl ?_;conv=>whnf
 refine dH (fun q:Nat×List Tree×Nat×Bool×Bool=>LpR ws 279 oS lv t q.1 q.2.1 q.2.2.1 q.2.2.2.1 q.2.2.2.2 cQ) (fun q=>[(0,.ptr 0 0),(2,.ptr 1 0),(3,.sl (.own 2) (j3 (t::q.2.1)))])
  (fun q=>⟨[sZ ws q.2.2.1 lv q.2.2.2.1 q.2.2.2.2,.box 169 XA,.own (q.2.1.length+1) 14 169],0,[]⟩) (fun q=>q.1) (j,[],a1,bad1,lim1) hl ⟨rfl,rfl,hsl,trivial⟩ rfl (fun _ _=>rL _) (fun q _=>rfl) (fun q _ e he=>?_) (fun q φ0 hq=>?_)
 ·refine⟨?_,rfl,?_⟩
  ·show[(sZ ws q.2.2.1 lv q.2.2.2.1 q.2.2.2.2).ren e,_,_]=_;rw[show(sZ ws q.2.2.1 lv q.2.2.2.1 q.2.2.2.2).ren e=sZ ws q.2.2.1 lv q.2.2.2.1 q.2.2.2.2 from dW sB e];rfl
  ·show[GV.ptr (e 0) 0,GV.ptr (e 1) 0,(GV.sl (.own 2) (j3 (t::q.2.1))).ren e]=_;rw[nB (he 2 (by simp)) (pH _),he 0 (by simp),he 1 (by simp)];rfl
 obtain⟨j,zs,a,bad,jO⟩:=q;replace hq:LpR ws 279 oS lv t j zs a bad jO cQ:=hq;have hjl:=hq.len;conv=>whnf
 cases hq with
 |bad ha=>
  have n1:=C8 hm ha oS lv jO;refine cBx 0 n1 ?_;conv=>whnf
  refine bT hj (wC (.refl _) (wC (bY _ _) Wks.nil)) rfl (cC (.i _ _) (cC (bK (pH _)) .nil)) hjc ?_;conv=>whnf
  refine sT ?_;conv=>whnf
  exact jU rfl (.refl _) sB hjc
 |stop h ha=>
  have n1:=lK hm ha h lv jO;refine cBx 0 n1 ?_;conv=>whnf
  refine bT hj (wC (.refl _) (wC (bY _ _) Wks.nil)) rfl (cC (.i _ _) (cC (bK (pH _)) .nil)) hjc ?_;conv=>whnf
  refine sT ?_;conv=>whnf
  exact jU rfl (.refl _) sB hjc
 |step h hc hr=>
  rename_i j t' a' bad' lim';have n1:=mT hm h (by decide) lv jO;have hcl':=t'.ng_cl;obtain⟨k,kids,A,B,op,yes,hng'⟩:=fL t';rw[hng'] at hc hcl';refine cBx 0 n1 ?_;conv=>whnf
  refine BL (q:=0) hc sB sB (fun _=>rfl) hcl' ?_;conv=>whnf
  refine⟨⟨rfl,zS _,by show(j3 (t::zs)).length+1<=4294967296;rw[dT,aI];omega⟩,j3 (t::(zs++[t'])),(zs++[t']).length+1,⟨(by show j3 (t::zs++[t'])=j3 (t::zs)++[GV.agg (kH k kids A B op yes)];rw[<-hng'];unfold j3;rw[b5];rfl),by show _=(j3 (t::zs)).length+1;rw[dT,aG];rfl⟩,?_⟩;conv=>whnf
  refine aN ?_ (h:=by first|rfl|(rw[dT];rfl)|(rw[dT];simp));conv=>whnf
  exact⟨j,Nat.lt_succ_self j,(j,zs++[t'],a',bad',lim'),hr,rfl,⟨rfl,rfl,rfl,trivial⟩,_,rfl,rfl⟩
theorem a60 [MaxL] (ws:List By) (hw:ws.length<1000000) (a lv:Nat) (jO bad1 lim1:Bool) (a1:Nat) (t:Tree) (hc:SC Tryz.prog 224 [.ptr 0 0] [sZ ws a lv false jO] (.val t.ng) [sZ ws a1 lv bad1 lim1])
  (j:Nat) (cQ:List Tree×Nat×Bool×Bool) (hl:LpR ws 224 EA lv t j [] a1 bad1 lim1 cQ) (hlen:cQ.1.length<=100000) (hsz:((t::cQ.1).flatMap (Tree.sides false)).length<=1000000):
  SC Tryz.prog 168 [.ptr 0 0] [sZ ws a lv false jO] (.val (fX false t cQ.1).ng) [sZ ws cQ.2.1 lv cQ.2.2.1 cQ.2.2.2]:=by
 have hm:ws.length<b9:=by unfold b9;omega
 have hj:=JA false t cQ.1 hlen hsz;have hjc:=(fX false t cQ.1).ng_cl;have hcl:=t.ng_cl;obtain⟨k,kids,A,B,op,yes,hng⟩:=fL t;obtain⟨k2,kids2,A2,B2,op2,yes2,hng2⟩:=fL (fX false t cQ.1);rw[hng2] at hj hjc⊢;clear hng2;rw[hng] at hc hcl;have hsl:GV.sl (.own 2) [.agg (kH k kids A B op yes)]=GV.sl (.own 2) (j3 [t]):=by show _=GV.sl (.own 2) [t.ng];rw[hng]
 refine cO Tryz.func168 rfl ?_;conv=>whnf
 refine BL (q:=0) hc sB sB (fun _=>rfl) hcl ?_;conv=>whnf
 refine dH (fun q:Nat×List Tree×Nat×Bool×Bool=>LpR ws 224 EA lv t q.1 q.2.1 q.2.2.1 q.2.2.2.1 q.2.2.2.2 cQ) (fun q=>[(0,.ptr 0 0),(2,.ptr 1 0),(3,.sl (.own 2) (j3 (t::q.2.1)))])
  (fun q=>⟨[sZ ws q.2.2.1 lv q.2.2.2.1 q.2.2.2.2,.box 169 XA,.own (q.2.1.length+1) 14 169],0,[]⟩) (fun q=>q.1) (j,[],a1,bad1,lim1) hl ⟨rfl,rfl,hsl,trivial⟩ rfl (fun _ _=>rL _) (fun q _=>rfl) (fun q _ e he=>?_) (fun q φ0 hq=>?_)
 ·refine⟨?_,rfl,?_⟩
  ·show[(sZ ws q.2.2.1 lv q.2.2.2.1 q.2.2.2.2).ren e,_,_]=_;rw[show(sZ ws q.2.2.1 lv q.2.2.2.1 q.2.2.2.2).ren e=sZ ws q.2.2.1 lv q.2.2.2.1 q.2.2.2.2 from dW sB e];rfl
  ·show[GV.ptr (e 0) 0,GV.ptr (e 1) 0,(GV.sl (.own 2) (j3 (t::q.2.1))).ren e]=_;rw[nB (he 2 (by simp)) (pH _),he 0 (by simp),he 1 (by simp)];rfl
 obtain⟨j,zs,a,bad,jO⟩:=q;replace hq:LpR ws 224 EA lv t j zs a bad jO cQ:=hq;have hjl:=hq.len;conv=>whnf
 cases hq with
 |bad ha=>
  refine bT hj (wC (.refl _) (wC (bY _ _) Wks.nil)) rfl (cC (.i _ _) (cC (bK (pH _)) .nil)) hjc ?_;conv=>whnf
  refine sT ?_;conv=>whnf
  exact jU rfl (.refl _) sB hjc
 |stop h ha=>
  have n1:=lK hm ha h lv jO;refine cBx 0 n1 ?_;conv=>whnf
  refine bT hj (wC (.refl _) (wC (bY _ _) Wks.nil)) rfl (cC (.i _ _) (cC (bK (pH _)) .nil)) hjc ?_;conv=>whnf
  refine sT ?_;conv=>whnf
  exact jU rfl (.refl _) sB hjc
 |step h hc hr=>
  rename_i j t' a' bad' lim';have n1:=mT hm h (by decide) lv jO;have hcl':=t'.ng_cl;obtain⟨k,kids,A,B,op,yes,hng'⟩:=fL t';rw[hng'] at hc hcl';refine cBx 0 n1 ?_;conv=>whnf
  refine BL (q:=0) hc sB sB (fun _=>rfl) hcl' ?_;conv=>whnf
  refine⟨⟨rfl,zS _,by show(j3 (t::zs)).length+1<=4294967296;rw[dT,aI];omega⟩,j3 (t::(zs++[t'])),(zs++[t']).length+1,⟨(by show j3 (t::zs++[t'])=j3 (t::zs)++[GV.agg (kH k kids A B op yes)];rw[<-hng'];unfold j3;rw[b5];rfl),by show _=(j3 (t::zs)).length+1;rw[dT,aG];rfl⟩,?_⟩;conv=>whnf
  refine aN ?_ (h:=by first|rfl|(rw[dT];rfl)|(rw[dT];simp));conv=>whnf
  exact⟨j,Nat.lt_succ_self j,(j,zs++[t'],a',bad',lim'),hr,rfl,⟨rfl,rfl,rfl,trivial⟩,_,rfl,rfl⟩
theorem uE (a:Bool):∀(zs:List Tree) (z:Tree),zs.length<=(fX a z zs).size/\z.size<=(fX a z zs).size
 |[],z=>⟨zL _,rL _⟩
 |y::zs,z=>by
  have:=joinL_len a zs (.pair a z y);have h2:=uE a zs (.pair a z y);show(y::zs).length<=(fX a (.pair a z y) zs).size/\z.size<=(fX a (.pair a z y) zs).size;simp only[Tree.size] at h2 this;rw[aI];omega
where
 joinL_len (a:Bool):∀(zs:List Tree) (z:Tree),z.size+zs.length<=(fX a z zs).size
 |[],z=>rL _
 |y::zs,z=>by
  have:=joinL_len a zs (.pair a z y);show z.size+(y::zs).length<=(fX a (.pair a z y) zs).size;simp only[Tree.size] at this;rw[aI];omega
theorem mY (a:Bool) (z:Tree) (zs:List Tree) (m:Tree):fX a z (zs++[m])=.pair a (fX a z zs) m:=by
 unfold fX;rw[k6];rfl
def YK [MaxL] (ws:List By) (f:Nat):Prop:=∀a lv d,a<=ws.length->lv+(ws.length - a)<=50000->
 (10*(ws.length - a)+4<f->Rr 168 ws a lv d (bU jQ f .or lv d (ws.drop a)))/\
 (10*(ws.length - a)+3<f->Rr 224 ws a lv d (bU jQ f .and lv d (ws.drop a)))/\
 (10*(ws.length - a)+2<f->Rr 279 ws a lv d (bU jQ f .not lv d (ws.drop a)))/\
 (10*(ws.length - a)+1<f->Rr 302 ws a lv d (bU jQ f .prim lv d (ws.drop a)))
def Lw [MaxL] (k:FuncId) (w:By) (b:Bool) (ws:List By) (z:Tree) (zs:List Tree) (a lv d:Nat) (o:Option (Tree×List By×Nat)):Prop:=match o with
 |some (t,r,e)=>∃j zs' a',t=fX b z zs'/\r=ws.drop a'/\a<=a'/\a'<=ws.length/\(fX b z zs').size<=(fX b z zs).size+(a' - a)/\LpR ws k w lv z j zs a false (decide (20<d)) (zs',a',false,decide (20<e))
 |none=>∃j zs' a' l',a<=a'/\a'<=ws.length/\(fX b z zs').size<=(fX b z zs).size+(a' - a)+1/\LpR ws k w lv z j zs a false (decide (20<d)) (zs',a',true,l')
theorem XK [MaxL] (ws:List By) (f:Nat) (IH:∀g,g<=f->YK ws g):∀(g:Nat) (z:Tree) (zs:List Tree) (a lv d:Nat),g<=f->a<=ws.length->lv+(ws.length - a)<=50000->10*(ws.length - a)<g->
  Lw 279 oS true ws z zs a lv d (bU jQ g (.andL (fX true z zs)) lv d (ws.drop a))
 |0,z,zs,a,lv,d,_,_,_,h=>by omega
 |g+1,z,zs,a,lv,d,hg,ha,hb,hf=>by
  by_cases hw:m7 ws a=oS
  ·have hlt:=nZ (ws:=ws) (a:=a) (by rw[hw];decide);have e:bU jQ (g+1) (.andL (fX true z zs)) lv d (ws.drop a)=match bU jQ g .not lv d (ws.drop (a+1)) with
     |some (m,r,e)=>bU jQ g (.andL (.pair true (fX true z zs) m)) lv e r
     |none=>none:=by
    conv=>lhs;unfold bU
    rw[aD (show(ws.drop a).headD []=oS from hw),tJ];rfl
   rw[e];have h1:=(IH g (by omega) (a+1) lv d hlt (by omega)).2.2.1 (by omega);cases hp:bU jQ g .not lv d (ws.drop (a+1)) with
   |none=>
    rw[hp] at h1;obtain⟨t,a',l',b1,b2,b3,hc⟩:=h1;refine⟨1,zs++[t],a',l',by omega,b2,by rw[mY];simp only[Tree.size];omega,.step hw hc (.bad b2)⟩
   |some p=>
    obtain⟨m,r,e1⟩:=p;rw[hp] at h1;obtain⟨a',b1,b2,rfl,b3,hc⟩:=h1;simp only;have h2:=XK ws f IH g z (zs++[m]) a' lv e1 (by omega) b2 (by omega) (by omega);rw[mY] at h2;cases hq:bU jQ g (.andL (.pair true (fX true z zs) m)) lv e1 (ws.drop a') with
    |none=>
     rw[hq] at h2;obtain⟨j,zs',a2,l2,c1,c2,c3,hl⟩:=h2;rw[mY] at c3;simp only[Tree.size] at c3;exact⟨j+1,zs',a2,l2,by omega,c2,by omega,.step hw hc hl⟩
    |some p=>
     obtain⟨t,r,e2⟩:=p;rw[hq] at h2;obtain⟨j,zs',a2,rfl,rfl,c1,c2,c3,hl⟩:=h2;rw[mY] at c3;simp only[Tree.size] at c3;exact⟨j+1,zs',a2,rfl,rfl,by omega,c2,by omega,.step hw hc hl⟩
  ·have e:bU jQ (g+1) (.andL (fX true z zs)) lv d (ws.drop a)=some (fX true z zs,ws.drop a,d):=by
    conv=>lhs;unfold bU
    rw[aC (show¬(ws.drop a).headD []=oS from hw)]
   rw[e];exact⟨0,zs,a,rfl,rfl,rL _,ha,by omega,.stop hw ha⟩
theorem a1y [MaxL] (ws:List By) (f:Nat) (IH:∀g,g<=f->YK ws g):∀(g:Nat) (z:Tree) (zs:List Tree) (a lv d:Nat),g<=f->a<=ws.length->lv+(ws.length - a)<=50000->10*(ws.length - a)<g->
  Lw 224 EA false ws z zs a lv d (bU jQ g (.orL (fX false z zs)) lv d (ws.drop a))
 |0,z,zs,a,lv,d,_,_,_,h=>by omega
 |g+1,z,zs,a,lv,d,hg,ha,hb,hf=>by
  by_cases hw:m7 ws a=EA
  ·have hlt:=nZ (ws:=ws) (a:=a) (by rw[hw];decide);have e:bU jQ (g+1) (.orL (fX false z zs)) lv d (ws.drop a)=match bU jQ g .and lv d (ws.drop (a+1)) with
     |some (m,r,e)=>bU jQ g (.orL (.pair false (fX false z zs) m)) lv e r
     |none=>none:=by
    conv=>lhs;unfold bU
    rw[aD (show(ws.drop a).headD []=EA from hw),tJ];rfl
   rw[e];have h1:=(IH g (by omega) (a+1) lv d hlt (by omega)).2.1 (by omega);cases hp:bU jQ g .and lv d (ws.drop (a+1)) with
   |none=>
    rw[hp] at h1;obtain⟨t,a',l',b1,b2,b3,hc⟩:=h1;refine⟨1,zs++[t],a',l',by omega,b2,by rw[mY];simp only[Tree.size];omega,.step hw hc (.bad b2)⟩
   |some p=>
    obtain⟨m,r,e1⟩:=p;rw[hp] at h1;obtain⟨a',b1,b2,rfl,b3,hc⟩:=h1;simp only;have h2:=a1y ws f IH g z (zs++[m]) a' lv e1 (by omega) b2 (by omega) (by omega);rw[mY] at h2;cases hq:bU jQ g (.orL (.pair false (fX false z zs) m)) lv e1 (ws.drop a') with
    |none=>
     rw[hq] at h2;obtain⟨j,zs',a2,l2,c1,c2,c3,hl⟩:=h2;rw[mY] at c3;simp only[Tree.size] at c3;exact⟨j+1,zs',a2,l2,by omega,c2,by omega,.step hw hc hl⟩
    |some p=>
     obtain⟨t,r,e2⟩:=p;rw[hq] at h2;obtain⟨j,zs',a2,rfl,rfl,c1,c2,c3,hl⟩:=h2;rw[mY] at c3;simp only[Tree.size] at c3;exact⟨j+1,zs',a2,rfl,rfl,by omega,c2,by omega,.step hw hc hl⟩
  ·have e:bU jQ (g+1) (.orL (fX false z zs)) lv d (ws.drop a)=some (fX false z zs,ws.drop a,d):=by
    conv=>lhs;unfold bU
    rw[aC (show¬(ws.drop a).headD []=EA from hw)]
   rw[e];exact⟨0,zs,a,rfl,rfl,rL _,ha,by omega,.stop hw ha⟩
theorem BD (b:Bool) (z:Tree) (zs:List Tree):((z::zs).flatMap (Tree.sides b)).length<=(fX b z zs).size:=by
 rw[<-zW];exact n9 _
theorem a6x [MaxL] (ws:List By) (hw:ws.length<50000) (a lv d:Nat) (o:Option (Tree×List By×Nat)) (p:Option (Tree×List By×Nat)) (h1:Rr 279 ws a lv d o)
  (hn:o=none->p=none) (h2:∀t r e,o=some (t,r,e)->∀a',r=ws.drop a'->a'<=ws.length->Lw 279 oS true ws t [] a' lv e p):Rr 224 ws a lv d p:=by
 cases o with
 |none=>
  rw[hn rfl];obtain⟨t,a',l',b1,b2,b3,hc⟩:=h1;have hfl:=BD true t [];exact⟨t,a',l',b1,b2,b3,a1Z ws (by omega) a lv _ true l' a' t hc 0 ([],a',true,l') (.bad b2) (zL _) (by show((t::[]).flatMap (Tree.sides true)).length<=_;simp only[fX,List.foldl_nil] at hfl;omega)⟩
 |some q=>
  obtain⟨t,r,e⟩:=q;obtain⟨a',b1,b2,hr,b3,hc⟩:=h1;have h2:=h2 t r e rfl a' hr b2;cases p with
  |none=>
   obtain⟨j,zs',a2,l2,c1,c2,c3,hl⟩:=h2;have hfl:=BD true t zs';have hjs:=uE true zs' t;have c4:(fX true t []).size=t.size:=rfl;exact⟨fX true t zs',a2,l2,by omega,c2,by omega,a1Z ws (by omega) a lv _ false _ a' t hc j (zs',a2,true,l2) hl (by show zs'.length<=_;omega) (by show((t::zs').flatMap (Tree.sides true)).length<=_;omega)⟩
  |some p=>
   obtain⟨t',r',e'⟩:=p;obtain⟨j,zs',a2,rfl,rfl,c1,c2,c3,hl⟩:=h2;have hfl:=BD true t zs';have hjs:=uE true zs' t;have c4:(fX true t []).size=t.size:=rfl;exact⟨a2,by omega,c2,rfl,by omega,a1Z ws (by omega) a lv _ false _ a' t hc j (zs',a2,false,decide (20<e')) hl (by show zs'.length<=_;omega) (by show((t::zs').flatMap (Tree.sides true)).length<=_;omega)⟩
theorem a83 [MaxL] (ws:List By) (hw:ws.length<50000) (a lv d:Nat) (o:Option (Tree×List By×Nat)) (p:Option (Tree×List By×Nat)) (h1:Rr 224 ws a lv d o)
  (hn:o=none->p=none) (h2:∀t r e,o=some (t,r,e)->∀a',r=ws.drop a'->a'<=ws.length->Lw 224 EA false ws t [] a' lv e p):Rr 168 ws a lv d p:=by
 cases o with
 |none=>
  rw[hn rfl];obtain⟨t,a',l',b1,b2,b3,hc⟩:=h1;have hfl:=BD false t [];exact⟨t,a',l',b1,b2,b3,a60 ws (by omega) a lv _ true l' a' t hc 0 ([],a',true,l') (.bad b2) (zL _) (by show((t::[]).flatMap (Tree.sides false)).length<=_;simp only[fX,List.foldl_nil] at hfl;omega)⟩
 |some q=>
  obtain⟨t,r,e⟩:=q;obtain⟨a',b1,b2,hr,b3,hc⟩:=h1;have h2:=h2 t r e rfl a' hr b2;cases p with
  |none=>
   obtain⟨j,zs',a2,l2,c1,c2,c3,hl⟩:=h2;have hfl:=BD false t zs';have hjs:=uE false zs' t;have c4:(fX false t []).size=t.size:=rfl;exact⟨fX false t zs',a2,l2,by omega,c2,by omega,a60 ws (by omega) a lv _ false _ a' t hc j (zs',a2,true,l2) hl (by show zs'.length<=_;omega) (by show((t::zs').flatMap (Tree.sides false)).length<=_;omega)⟩
  |some p=>
   obtain⟨t',r',e'⟩:=p;obtain⟨j,zs',a2,rfl,rfl,c1,c2,c3,hl⟩:=h2;have hfl:=BD false t zs';have hjs:=uE false zs' t;have c4:(fX false t []).size=t.size:=rfl;exact⟨a2,by omega,c2,rfl,by omega,a60 ws (by omega) a lv _ false _ a' t hc j (zs',a2,false,decide (20<e')) hl (by show zs'.length<=_;omega) (by show((t::zs').flatMap (Tree.sides false)).length<=_;omega)⟩
theorem a7q [MaxL] (ws:List By) (hw:ws.length<50000) (hx:∀w∈ws,w.length<1000000):∀f,YK ws f:=by
 intro f;induction f using Nat.strongRecOn with
 |ind f ih=>
 intro a lv d ha hb;cases f with
 |zero=>exact⟨fun h=>by omega,fun h=>by omega,fun h=>by omega,fun h=>by omega⟩
 |succ f=>
 have IH:∀g,g<=f->YK ws g:=fun g hg=>ih g (by omega);obtain⟨_,iand,inot,iprim⟩:=IH f (rL _) a lv d ha hb;refine⟨fun hf=>?_,fun hf=>?_,fun hf=>?_,fun hf=>?_⟩
 ·refine a83 ws hw a lv d _ _ (iand (by omega)) (fun h=>?_) (fun t r e h a' hr ha'=>?_)
  ·conv=>lhs;unfold bU
   rw[h]
  ·subst hr;have hlen:=(jT _ _ _ _ _ _ _ _ h).2.1 rfl;simp only[d9] at hlen;have e1:bU jQ (f+1) .or lv d (ws.drop a)=bU jQ f (.orL t) lv e (ws.drop a'):=by
    conv=>lhs;unfold bU
    rw[h]
   rw[e1];exact a1y ws f IH f t [] a' lv e (rL _) ha' (by omega) (by omega)
 ·refine a6x ws hw a lv d _ _ (inot (by omega)) (fun h=>?_) (fun t r e h a' hr ha'=>?_)
  ·conv=>lhs;unfold bU
   rw[h]
  ·subst hr;have hlen:=(jT _ _ _ _ _ _ _ _ h).2.1 rfl;simp only[d9] at hlen;have e1:bU jQ (f+1) .and lv d (ws.drop a)=bU jQ f (.andL t) lv e (ws.drop a'):=by
    conv=>lhs;unfold bU
    rw[h]
   rw[e1];exact XK ws f IH f t [] a' lv e (rL _) ha' (by omega) (by omega)
 ·by_cases hn:m7 ws a=kX
  ·have hlt:=nZ (ws:=ws) (a:=a) (by rw[hn];decide);have h1:=(IH f (rL _) (a+1) (lv+1) (max d (lv+1)) hlt (by omega)).2.2.2 (by omega);have e:bU jQ (f+1) .not lv d (ws.drop a)=(bU jQ f .prim (lv+1) (max d (lv+1)) (ws.drop (a+1))).map fun p=>(.no p.1,p.2):=by
    conv=>lhs;unfold bU
    rw[aD (show(ws.drop a).headD []=kX from hn),tJ];cases bU jQ f .prim (lv+1) (max d (lv+1)) (ws.drop (a+1))<;>rfl
   rw[e];exact Z5 ws (by omega) a lv d (by omega) hn _ h1
  ·have e:bU jQ (f+1) .not lv d (ws.drop a)=bU jQ f .prim lv d (ws.drop a):=by
    conv=>lhs;unfold bU
    rw[aC (show¬(ws.drop a).headD []=kX from hn)]
   rw[e];exact a1U ws (by omega) a lv d ha hn _ (iprim (by omega))
 ·have e:bU jQ (f+1) .prim lv d (ws.drop a)=if m7 ws a=m8 then some (.truth true,ws.drop (a+1),d)
    else if m7 ws a=kN then some (.truth false,ws.drop (a+1),d)
    else if m7 ws a=[40] then OE (bU jQ f .or (lv+1) (max d (lv+1)) (ws.drop (a+1)))
    else match iB jQ (ws.drop a) with
     |some (x,r)=>if oB (r.headD []) then(match iB jQ r.tail with
       |some (y,r')=>some (.test (r.headD []) x y,r',d)
       |none=>none)
      else none
     |none=>none:=by
   conv=>lhs;unfold bU
   rw[tJ];rfl
  rw[e];by_cases h1:m7 ws a=m8
  ·rw[aD h1];exact a1T ws (by omega) a lv d h1
  rw[aC h1];by_cases h2:m7 ws a=kN
  ·rw[aD h2];exact a1S ws (by omega) a lv d h2
  rw[aC h2];by_cases h3:m7 ws a=[40]
  ·rw[aD h3];have hlt:=nZ (ws:=ws) (a:=a) (by rw[h3];decide);exact a1R ws (by omega) a lv d (by omega) h3 _ ((IH f (rL _) (a+1) (lv+1) (max d (lv+1)) hlt (by omega)).1 (by omega))
  ·rw[aC h3];exact a1Q ws (by omega) hx a ha lv d h3 h1 h2
theorem mR {s:By} {t:Tree} (h:iP s=.ok t):t.nice/\t.size<=1000/\s.length<=1000:=by
 unfold iP at h;split at h
 ·cases h
 ·split at h
  ·rename_i t0 r e hp;split at h
   ·split at h
    ·cases h
    ·cases h;have h1:=kK _ _ _ _ _ _ _ _ hp;have h2:=kV _ _ _ _ _ _ _ _ hp trivial;have h3:=wH s.length s (rL _);simp only[Md.sz] at h1;refine⟨xC h2,?_,by omega⟩;rw[tI];omega
   ·cases h
  ·cases h
def nM (s:By):GV:=match iP s with
 |.ok t=>.tup [t.gv,.i .i64 0]
 |.err e=>.tup [.o .nilIface,.i .i64 e]
theorem wQ [MaxL] (s:By):Cl (nM s):=by
 unfold nM;split
 ·exact i8 (.cons (jE _) (.cons (.i _ _) .nil))
 ·exact fun _=>rfl
theorem PR [MaxL] (s:By) (hs:s.length<b9):SC Tryz.prog 140 [.s s] [] (.val (nM s)) []:=by
 by_cases hl:1000<s.length
 ·have e:nM s=.tup [.o .nilIface,.i .i64 3]:=by unfold nM iP;rw[aD hl]
  rw[e];refine cO Tryz.func140 rfl ?_;conv=>whnf
  apply gM<;>intro h<;>conv=>whnf
  ·exact oW
  ·exfalso;have:=aA h;omega
 ·have hp:=a4j s (by omega);cases hr:bU dM (kM s) .or 0 0 (j6 s) with
  |none=>
   rw[hr] at hp;have e:nM s=.tup [.o .nilIface,.i .i64 2]:=by unfold nM iP;rw[aC hl,hr]
   rw[e];replace hp:SC Tryz.prog 194 [.s s] [] (.val (.tup [.o .nilIface,.i .i64 0,.b false])) []:=hp;refine cO Tryz.func140 rfl ?_;(conv=>whnf);apply gM<;>intro h<;>conv=>whnf
   ·exfalso;have:=aB h;omega
   refine sL hp ?_;(conv=>whnf);exact oW
  |some p=>
   obtain⟨t,r,e⟩:=p;rw[hr] at hp;have h1:=kK _ _ _ _ _ _ _ _ hr;have h3:=wH s.length s (rL _);simp only[Md.sz] at h1;replace hp:SC Tryz.prog 194 [.s s] [] (.val (.tup [t.gv,.i .i64 (e:Nat),.b (r.headD []==[])])) []:=hp;have hcl:Cl (.tup [t.gv,.i .i64 (e:Nat),.b (r.headD []==[])]):=i8 (.cons t.cl (.cons (.i _ _) (.cons (.b _) .nil)));have hf:=L6 1000 t (by omega) (by omega);cases hb:(r.headD []==[]) with
   |false=>
    have e1:nM s=.tup [.o .nilIface,.i .i64 2]:=by unfold nM iP;rw[aC hl,hr];simp only[hb];rfl
    rw[e1];rw[hb] at hp hcl;refine cO Tryz.func140 rfl ?_;(conv=>whnf);apply gM<;>intro h<;>conv=>whnf
    ·exfalso;have:=aB h;omega
    refine mG hp hcl ?_;(conv=>whnf);exact oW
   |true=>
    rw[hb] at hp hcl;by_cases h20:20<e
    ·have e1:nM s=.tup [.o .nilIface,.i .i64 4]:=by unfold nM iP;rw[aC hl,hr];simp only[hb,aD h20];rfl
     rw[e1];refine cO Tryz.func140 rfl ?_;(conv=>whnf);apply gM<;>intro h<;>conv=>whnf
     ·exfalso;have:=aB h;omega
     refine mG hp hcl ?_;(conv=>whnf);apply gM<;>intro h2<;>conv=>whnf
     ·exact oW
     ·exfalso;have:=aA h2;omega
    ·have e1:nM s=.tup [t.flat.gv,.i .i64 0]:=by unfold nM iP;rw[aC hl,hr];simp only[hb,aC h20];rfl
     rw[e1];refine cO Tryz.func140 rfl ?_;(conv=>whnf);apply gM<;>intro h<;>conv=>whnf
     ·exfalso;have:=aB h;omega
     refine mG hp hcl ?_;(conv=>whnf);apply gM<;>intro h2<;>conv=>whnf
     ·exfalso;have:=aB h2;omega
     refine bT hf (wR _) rfl (cC t.cl .nil) t.flat.cl ?_;(conv=>whnf);exact cZ (.refl _) (i8 (.cons t.flat.cl (.cons (.i _ _) .nil)))
def xZ (t:Tree):By×Int:=if 1000<t.flat.plain.length∨20<t.flat.deep 0 then([],4) else(t.flat.plain,0)
theorem L5 [MaxL] (t:Tree) (hn:t.nice) (hz:t.size<=2100):SC Tryz.prog 141 [t.gv] [] (.val (.tup [.s (xZ t).1,.i .i64 (xZ t).2])) []:=by
 have hf:=L6 2100 t hz (by omega);have hnf:=xC hn;have hsz:=tI t;have hpl:=tZ t.flat hnf;have hp:=I2 t.flat hnf (by omega);have hd:=PT t.flat 0 (by omega);unfold xZ;generalize t.flat=u at*;refine cO Tryz.func141 rfl ?_;conv=>whnf
 refine bT hf (wR _) rfl (cC t.cl .nil) u.cl ?_;conv=>whnf
 refine bT hp (wR _) rfl (cC u.cl .nil) (.s _) ?_;conv=>whnf
 apply gM<;>intro h1<;>conv=>whnf
 ·have h1':1000<u.plain.length:=by have:=aB h1;omega
  rw[aD (.inl h1')];exact oW
 ·have h1':¬1000<u.plain.length:=by have:=aA h1;omega
  refine bT hd (wR _) rfl (cC u.cl (.cons (.i _ _) .nil)) (.i _ _) ?_;conv=>whnf
  apply gM<;>intro h2<;>conv=>whnf
  ·have h2':20<u.deep 0:=by have:=aB h2;omega
   rw[aD (.inr h2')];exact oW
  ·have h2':¬20<u.deep 0:=by have:=aA h2;omega
   rw[aC (fun h=>h.elim h1' h2')];exact oW
def yX (s:By):By×Int:=match iP s with
 |.ok t=>xZ t
 |.err e=>([],e)
theorem qJ {s:By} {e:Int} (h:iP s=.err e):e=2∨e=3∨e=4:=by
 unfold iP at h;split at h
 ·cases h;omega
 ·split at h
  ·split at h
   ·split at h
    ·cases h;omega
    ·cases h
   ·cases h;omega
  ·cases h;omega
theorem VV [MaxL] (s:By) (hs:s.length<b9):SC Tryz.prog 78 [.s s] [] (.val (.tup [.s (yX s).1,.i .i64 (yX s).2])) []:=by
 have hr:=PR s hs;have hcl:=wQ s;unfold nM at hr hcl;unfold yX;cases h:iP s with
 |err e=>
  rw[h] at hr hcl;replace hr:SC Tryz.prog 140 [.s s] [] (.val (.tup [.o .nilIface,.i .i64 e])) []:=hr;have he:=qJ h;refine cO Tryz.func78 rfl ?_;conv=>whnf
  refine mG hr hcl ?_;conv=>whnf
  apply gM<;>intro h0<;>conv=>whnf
  ·exact oW
  ·exfalso;have:e=0:=by simpa using h0
   omega
 |ok t=>
  rw[h] at hr hcl;replace hr:SC Tryz.prog 140 [.s s] [] (.val (.tup [t.gv,.i .i64 0])) []:=hr;obtain⟨hn,hz,_⟩:=mR h;have hres:=L5 t hn (by omega);refine cO Tryz.func78 rfl ?_;conv=>whnf
  refine mG hr hcl ?_;conv=>whnf
  refine bT hres (wR _) rfl (cC t.cl .nil) (fun _=>rfl) ?_;conv=>whnf
  exact oW
