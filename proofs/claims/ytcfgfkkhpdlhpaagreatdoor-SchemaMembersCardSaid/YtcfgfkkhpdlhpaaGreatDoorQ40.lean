/-
  A part of the proof of SchemaMembers.
-/
import Derived.Test.YtcfgfkkhpdlhpaaGreatDoorQ39
set_option linter.all false
set_option maxRecDepth 100000
namespace Go.Proofs.YtcfgfkkhpdlhpaaGreatDoor
open Go.RowKit
theorem UU [MaxL] (ws:List By) (hw:ws.length<1000000) (a lv d:Nat) (ha:a<=ws.length) (h:kT ws a≠jZ) (o:Option (Tree×List By×Nat))
  (hc:Rr 322 ws a lv d o):Rr 305 ws a lv d o:=by
 have hm:ws.length<bH:=by unfold bH;omega
 have n1:=dK hm ha h lv (decide (20<d));cases o with
 |none=>
  obtain⟨t,a',l',b1,b2,b3,hc⟩:=hc;refine⟨t,a',l',b1,b2,b3,?_⟩;have hcl:=t.ng_cl;obtain⟨k,kids,A,B,op,yes,hng⟩:=iN t;rw[hng] at hc hcl⊢;refine cW Tryz.func305 rfl ?_;conv=>whnf
  refine aV (q:=0) n1 rfl (wR _) rfl rfl bN bN (fun _=>rfl) (.b _) ?_;conv=>whnf
  refine aV (q:=0) hc rfl (wR _) rfl rfl bN bN (fun _=>rfl) hcl ?_;conv=>whnf
  refine⟨_,⟨rfl,zL _,rfl,bL rfl⟩,?_⟩;conv=>whnf
  exact fU rfl (.refl _) bN hcl
 |some p=>
  obtain⟨t,r,e⟩:=p;obtain⟨a',b1,b2,rfl,b3,hc⟩:=hc;refine⟨a',b1,b2,rfl,b3,?_⟩;have hcl:=t.ng_cl;obtain⟨k,kids,A,B,op,yes,hng⟩:=iN t;rw[hng] at hc hcl⊢;refine cW Tryz.func305 rfl ?_;conv=>whnf
  refine aV (q:=0) n1 rfl (wR _) rfl rfl bN bN (fun _=>rfl) (.b _) ?_;conv=>whnf
  refine aV (q:=0) hc rfl (wR _) rfl rfl bN bN (fun _=>rfl) hcl ?_;conv=>whnf
  refine⟨_,⟨rfl,zL _,rfl,bL rfl⟩,?_⟩;conv=>whnf
  exact fU rfl (.refl _) bN hcl
theorem RZ [MaxL] (ws:List By) (hw:ws.length<1000000) (a lv d:Nat) (hlv:lv<100000) (h:kT ws a=jZ) (o:Option (Tree×List By×Nat))
  (hc:Rr 322 ws (a+1) (lv+1) (max d (lv+1)) o):Rr 305 ws a lv d (o.map fun p=>(.no p.1,p.2)):=by
 have hm:ws.length<bH:=by unfold bH;omega
 have ha:=kD (ws:=ws) (a:=a) (by rw[h];decide);have h1:=iR hm h (by decide) lv (decide (20<d));have h2:=a1G ws (a+1) lv (by omega) false (decide (20<d));rw[QD] at h2;have hdec:IntKind.i64.wrap (((lv+1:Nat):Int) - 1)=((lv:Nat):Int):=by rw[bY (by omega) (by omega)];omega
 cases o with
 |none=>
  obtain⟨t,a',l',b1,b2,b3,hc⟩:=hc;refine⟨.no t,a',l',by omega,b2,by simp only[Tree.size];omega,?_⟩;have hcl:Cl (Tree.no t).ng:=(Tree.no t).ng_cl;have e:(Tree.no t).ng=.agg (jW 3 [t.ng] t0 t0 [] false):=rfl;have hcl2:=t.ng_cl;obtain⟨k,kids,A,B,op,yes,hng⟩:=iN t;rw[e] at hcl⊢;rw[hng] at hc hcl hcl2⊢;refine cW Tryz.func305 rfl ?_;conv=>whnf
  refine aV (q:=0) h1 rfl (wR _) rfl rfl bN bN (fun _=>rfl) (.b _) ?_;conv=>whnf
  refine aV (q:=0) h2 rfl (wR _) rfl rfl bN bN (fun _=>rfl) (f8 .nil) ?_;conv=>whnf
  refine aV (q:=0) hc rfl (wR _) rfl rfl bN bN (fun _=>rfl) hcl2 ?_;conv=>whnf
  refine⟨_,⟨rfl,zL _,rfl,bL rfl⟩,?_⟩;conv=>whnf
  refine⟨[.i .i64 (lv:Nat)],⟨(by rw[hdec];rfl),rL _,rfl,bL rfl⟩,?_⟩;conv=>whnf
  refine⟨_,⟨rfl,zL _,rfl,bL rfl⟩,?_⟩;conv=>whnf
  exact fU rfl gZ bN hcl
 |some p=>
  obtain⟨t,r,e⟩:=p;obtain⟨a',b1,b2,rfl,b3,hc⟩:=hc;refine⟨a',by omega,b2,rfl,by simp only[Tree.size];omega,?_⟩;show SC _ _ _ _ (.val (Tree.no t).ng) _;have hcl:Cl (Tree.no t).ng:=(Tree.no t).ng_cl;have e:(Tree.no t).ng=.agg (jW 3 [t.ng] t0 t0 [] false):=rfl;have hcl2:=t.ng_cl;obtain⟨k,kids,A,B,op,yes,hng⟩:=iN t;rw[e] at hcl⊢;rw[hng] at hc hcl hcl2⊢;refine cW Tryz.func305 rfl ?_;conv=>whnf
  refine aV (q:=0) h1 rfl (wR _) rfl rfl bN bN (fun _=>rfl) (.b _) ?_;conv=>whnf
  refine aV (q:=0) h2 rfl (wR _) rfl rfl bN bN (fun _=>rfl) (f8 .nil) ?_;conv=>whnf
  refine aV (q:=0) hc rfl (wR _) rfl rfl bN bN (fun _=>rfl) hcl2 ?_;conv=>whnf
  refine⟨_,⟨rfl,zL _,rfl,bL rfl⟩,?_⟩;conv=>whnf
  refine⟨[.i .i64 (lv:Nat)],⟨(by rw[hdec];rfl),rL _,rfl,bL rfl⟩,?_⟩;conv=>whnf
  refine⟨_,⟨rfl,zL _,rfl,bL rfl⟩,?_⟩;conv=>whnf
  exact fU rfl gZ bN hcl
inductive LpR [MaxL] (ws:List By) (k:FuncId) (w:By) (lv:Nat) (z:Tree):Nat->List Tree->Nat->Bool->Bool->(List Tree×Nat×Bool×Bool)->Prop where
 |bad {zs:List Tree} {a:Nat} {fZ:Bool} (ha:a<=ws.length):LpR ws k w lv z 0 zs a true fZ (zs,a,true,fZ)
 |stop {zs:List Tree} {a:Nat} {fZ:Bool} (h:kT ws a≠w) (ha:a<=ws.length):LpR ws k w lv z 0 zs a false fZ (zs,a,false,fZ)
 |step {j:Nat} {zs:List Tree} {t:Tree} {a a':Nat} {fZ bad' lim':Bool} {dH:List Tree×Nat×Bool×Bool} (h:kT ws a=w) (hc:SC Tryz.prog k [.ptr 0 0] [pQ ws (a+1:Nat) lv false fZ] (.val t.ng) [pQ ws a' lv bad' lim'])
   (hr:LpR ws k w lv z j (zs++[t]) a' bad' lim' dH):LpR ws k w lv z (j+1) zs a false fZ dH
theorem LpR.len [MaxL] {ws:List By} {k:FuncId} {w:By} {lv:Nat} {z:Tree} {j:Nat} {zs:List Tree} {a:Nat} {bad fZ:Bool} {dH:List Tree×Nat×Bool×Bool} (h:LpR ws k w lv z j zs a bad fZ dH):zs.length+j=dH.1.length:=by
 induction h with
 |bad=>rfl
 |stop=>rfl
 |step h hc hr ih=>rw[aD,aW] at ih;omega
theorem UY [MaxL] (ws:List By) (hw:ws.length<1000000) (a lv:Nat) (fZ bad1 lim1:Bool) (a1:Nat) (t:Tree) (hc:SC Tryz.prog 305 [.ptr 0 0] [pQ ws a lv false fZ] (.val t.ng) [pQ ws a1 lv bad1 lim1])
  (j:Nat) (dH:List Tree×Nat×Bool×Bool) (hl:LpR ws 305 mW lv t j [] a1 bad1 lim1 dH) (hlen:dH.1.length<=100000) (hsz:((t::dH.1).flatMap (Tree.sides true)).length<=1000000):
  SC Tryz.prog 267 [.ptr 0 0] [pQ ws a lv false fZ] (.val (fV true t dH.1).ng) [pQ ws dH.2.1 lv dH.2.2.1 dH.2.2.2]:=by
 have hm:ws.length<bH:=by unfold bH;omega
 have hj:=L0 true t dH.1 hlen hsz;have hjc:=(fV true t dH.1).ng_cl;have hcl:=t.ng_cl;obtain⟨k,kids,A,B,op,yes,hng⟩:=iN t;obtain⟨k2,kids2,A2,B2,op2,yes2,hng2⟩:=iN (fV true t dH.1);rw[hng2] at hj hjc⊢;clear hng2;rw[hng] at hc hcl;have hsl:GV.sl (.own 2) [.agg (jW k kids A B op yes)]=GV.sl (.own 2) (jV [t]):=by show _=GV.sl (.own 2) [t.ng];rw[hng]
 refine cW Tryz.func267 rfl ?_;conv=>whnf
 refine aV (q:=0) hc rfl (wR _) rfl rfl bN bN (fun _=>rfl) hcl ?_;conv=>whnf
 refine f7 (fun q:Nat×List Tree×Nat×Bool×Bool=>LpR ws 305 mW lv t q.1 q.2.1 q.2.2.1 q.2.2.2.1 q.2.2.2.2 dH) (fun q=>[(0,.ptr 0 0),(2,.ptr 1 0),(3,.sl (.own 2) (jV (t::q.2.1)))])
  (fun q=>⟨[pQ ws q.2.2.1 lv q.2.2.2.1 q.2.2.2.2,.box 211 V9,.own (q.2.1.length+1) 14 211],0,[]⟩) (fun q=>q.1) (j,[],a1,bad1,lim1) hl ⟨rfl,rfl,hsl,trivial⟩ rfl (fun _ _=>rL _) (fun q _=>rfl) (fun q _ e he=>?_) (fun q φ0 hq=>?_)
 ·refine⟨?_,rfl,?_⟩
  ·show[(pQ ws q.2.2.1 lv q.2.2.2.1 q.2.2.2.2).ren e,_,_]=_;rw[show(pQ ws q.2.2.1 lv q.2.2.2.1 q.2.2.2.2).ren e=pQ ws q.2.2.1 lv q.2.2.2.1 q.2.2.2.2 from eQ bN e];rfl
  ·show[GV.ptr (e 0) 0,GV.ptr (e 1) 0,(GV.sl (.own 2) (jV (t::q.2.1))).ren e]=_;rw[p8 (he 2 (by simp)) (qU _),he 0 (by simp),he 1 (by simp)];rfl
 obtain⟨j,zs,a,bad,fZ⟩:=q;replace hq:LpR ws 305 mW lv t j zs a bad fZ dH:=hq;have hjl:=hq.len;conv=>whnf
 cases hq with
 |bad ha=>
  have n1:=lH hm ha mW lv fZ;refine aV (q:=0) n1 rfl (wR _) rfl rfl bN bN (fun _=>rfl) (.b _) ?_;conv=>whnf
  refine bF hj (wC (.refl _) (wC (bK _ _) j8)) rfl (cC (.i _ _) (cC (bT (qU _)) .nil)) hjc ?_;conv=>whnf
  refine⟨_,⟨rfl,zL _,rfl,bL rfl⟩,?_⟩;conv=>whnf
  exact fU rfl (.refl _) bN hjc
 |stop h ha=>
  have n1:=dK hm ha h lv fZ;refine aV (q:=0) n1 rfl (wR _) rfl rfl bN bN (fun _=>rfl) (.b _) ?_;conv=>whnf
  refine bF hj (wC (.refl _) (wC (bK _ _) j8)) rfl (cC (.i _ _) (cC (bT (qU _)) .nil)) hjc ?_;conv=>whnf
  refine⟨_,⟨rfl,zL _,rfl,bL rfl⟩,?_⟩;conv=>whnf
  exact fU rfl (.refl _) bN hjc
 |step h hc hr=>
  rename_i j t' a' bad' lim';have n1:=iR hm h (by decide) lv fZ;have hcl':=t'.ng_cl;obtain⟨k,kids,A,B,op,yes,hng'⟩:=iN t';rw[hng'] at hc hcl';refine aV (q:=0) n1 rfl (wR _) rfl rfl bN bN (fun _=>rfl) (.b _) ?_;conv=>whnf
  refine aV (q:=0) hc rfl (wR _) rfl rfl bN bN (fun _=>rfl) hcl' ?_;conv=>whnf
  refine⟨⟨rfl,B3 _,by show(jV (t::zs)).length+1<=4294967296;rw[eV,aJ];omega⟩,jV (t::(zs++[t'])),(zs++[t']).length+1,⟨(by show jV (t::zs++[t'])=jV (t::zs)++[GV.agg (jW k kids A B op yes)];rw[<-hng'];unfold jV;rw[d9];rfl),by show _=(jV (t::zs)).length+1;rw[eV,aD];rfl⟩,?_⟩;conv=>whnf
  refine⟨⟨zL _,by first|rfl|(rw[eV];rfl)|(rw[eV];simp),by first|exact .inr ⟨rfl,rfl⟩|exact .inl ⟨rfl,rfl⟩⟩,?_⟩;conv=>whnf
  exact⟨j,Nat.lt_succ_self j,(j,zs++[t'],a',bad',lim'),hr,rfl,⟨rfl,rfl,rfl,trivial⟩,_,rfl,rfl⟩
theorem a0M [MaxL] (ws:List By) (hw:ws.length<1000000) (a lv:Nat) (fZ bad1 lim1:Bool) (a1:Nat) (t:Tree) (hc:SC Tryz.prog 267 [.ptr 0 0] [pQ ws a lv false fZ] (.val t.ng) [pQ ws a1 lv bad1 lim1])
  (j:Nat) (dH:List Tree×Nat×Bool×Bool) (hl:LpR ws 267 AF lv t j [] a1 bad1 lim1 dH) (hlen:dH.1.length<=100000) (hsz:((t::dH.1).flatMap (Tree.sides false)).length<=1000000):
  SC Tryz.prog 231 [.ptr 0 0] [pQ ws a lv false fZ] (.val (fV false t dH.1).ng) [pQ ws dH.2.1 lv dH.2.2.1 dH.2.2.2]:=by
 have hm:ws.length<bH:=by unfold bH;omega
 have hj:=L0 false t dH.1 hlen hsz;have hjc:=(fV false t dH.1).ng_cl;have hcl:=t.ng_cl;obtain⟨k,kids,A,B,op,yes,hng⟩:=iN t;obtain⟨k2,kids2,A2,B2,op2,yes2,hng2⟩:=iN (fV false t dH.1);rw[hng2] at hj hjc⊢;clear hng2;rw[hng] at hc hcl;have hsl:GV.sl (.own 2) [.agg (jW k kids A B op yes)]=GV.sl (.own 2) (jV [t]):=by show _=GV.sl (.own 2) [t.ng];rw[hng]
 refine cW Tryz.func231 rfl ?_;conv=>whnf
 refine aV (q:=0) hc rfl (wR _) rfl rfl bN bN (fun _=>rfl) hcl ?_;conv=>whnf
 refine f7 (fun q:Nat×List Tree×Nat×Bool×Bool=>LpR ws 267 AF lv t q.1 q.2.1 q.2.2.1 q.2.2.2.1 q.2.2.2.2 dH) (fun q=>[(0,.ptr 0 0),(2,.ptr 1 0),(3,.sl (.own 2) (jV (t::q.2.1)))])
  (fun q=>⟨[pQ ws q.2.2.1 lv q.2.2.2.1 q.2.2.2.2,.box 211 V9,.own (q.2.1.length+1) 14 211],0,[]⟩) (fun q=>q.1) (j,[],a1,bad1,lim1) hl ⟨rfl,rfl,hsl,trivial⟩ rfl (fun _ _=>rL _) (fun q _=>rfl) (fun q _ e he=>?_) (fun q φ0 hq=>?_)
 ·refine⟨?_,rfl,?_⟩
  ·show[(pQ ws q.2.2.1 lv q.2.2.2.1 q.2.2.2.2).ren e,_,_]=_;rw[show(pQ ws q.2.2.1 lv q.2.2.2.1 q.2.2.2.2).ren e=pQ ws q.2.2.1 lv q.2.2.2.1 q.2.2.2.2 from eQ bN e];rfl
  ·show[GV.ptr (e 0) 0,GV.ptr (e 1) 0,(GV.sl (.own 2) (jV (t::q.2.1))).ren e]=_;rw[p8 (he 2 (by simp)) (qU _),he 0 (by simp),he 1 (by simp)];rfl
 obtain⟨j,zs,a,bad,fZ⟩:=q;replace hq:LpR ws 267 AF lv t j zs a bad fZ dH:=hq;have hjl:=hq.len;conv=>whnf
 cases hq with
 |bad ha=>
  refine bF hj (wC (.refl _) (wC (bK _ _) j8)) rfl (cC (.i _ _) (cC (bT (qU _)) .nil)) hjc ?_;conv=>whnf
  refine⟨_,⟨rfl,zL _,rfl,bL rfl⟩,?_⟩;conv=>whnf
  exact fU rfl (.refl _) bN hjc
 |stop h ha=>
  have n1:=dK hm ha h lv fZ;refine aV (q:=0) n1 rfl (wR _) rfl rfl bN bN (fun _=>rfl) (.b _) ?_;conv=>whnf
  refine bF hj (wC (.refl _) (wC (bK _ _) j8)) rfl (cC (.i _ _) (cC (bT (qU _)) .nil)) hjc ?_;conv=>whnf
  refine⟨_,⟨rfl,zL _,rfl,bL rfl⟩,?_⟩;conv=>whnf
  exact fU rfl (.refl _) bN hjc
 |step h hc hr=>
  rename_i j t' a' bad' lim';have n1:=iR hm h (by decide) lv fZ;have hcl':=t'.ng_cl;obtain⟨k,kids,A,B,op,yes,hng'⟩:=iN t';rw[hng'] at hc hcl';refine aV (q:=0) n1 rfl (wR _) rfl rfl bN bN (fun _=>rfl) (.b _) ?_;conv=>whnf
  refine aV (q:=0) hc rfl (wR _) rfl rfl bN bN (fun _=>rfl) hcl' ?_;conv=>whnf
  refine⟨⟨rfl,B3 _,by show(jV (t::zs)).length+1<=4294967296;rw[eV,aJ];omega⟩,jV (t::(zs++[t'])),(zs++[t']).length+1,⟨(by show jV (t::zs++[t'])=jV (t::zs)++[GV.agg (jW k kids A B op yes)];rw[<-hng'];unfold jV;rw[d9];rfl),by show _=(jV (t::zs)).length+1;rw[eV,aD];rfl⟩,?_⟩;conv=>whnf
  refine⟨⟨zL _,by first|rfl|(rw[eV];rfl)|(rw[eV];simp),by first|exact .inr ⟨rfl,rfl⟩|exact .inl ⟨rfl,rfl⟩⟩,?_⟩;conv=>whnf
  exact⟨j,Nat.lt_succ_self j,(j,zs++[t'],a',bad',lim'),hr,rfl,⟨rfl,rfl,rfl,trivial⟩,_,rfl,rfl⟩
theorem qW (a:Bool):∀(zs:List Tree) (z:Tree),zs.length<=(fV a z zs).size/\z.size<=(fV a z zs).size
 |[],z=>⟨zL _,rL _⟩
 |y::zs,z=>by
  have:=joinL_len a zs (.pair a z y);have h2:=qW a zs (.pair a z y);show(y::zs).length<=(fV a (.pair a z y) zs).size/\z.size<=(fV a (.pair a z y) zs).size;simp only[Tree.size] at h2 this;rw[aJ];omega
where
 joinL_len (a:Bool):∀(zs:List Tree) (z:Tree),z.size+zs.length<=(fV a z zs).size
 |[],z=>rL _
 |y::zs,z=>by
  have:=joinL_len a zs (.pair a z y);show z.size+(y::zs).length<=(fV a (.pair a z y) zs).size;simp only[Tree.size] at this;rw[aJ];omega
theorem lJ (a:Bool) (z:Tree) (zs:List Tree) (m:Tree):fV a z (zs++[m])=.pair a (fV a z zs) m:=by
 unfold fV;rw[List.foldl_append];rfl
def R8 [MaxL] (ws:List By) (f:Nat):Prop:=∀a lv d,a<=ws.length->lv+(ws.length - a)<=50000->
 (10*(ws.length - a)+4<f->Rr 231 ws a lv d (bO iB f .or lv d (ws.drop a)))/\
 (10*(ws.length - a)+3<f->Rr 267 ws a lv d (bO iB f .and lv d (ws.drop a)))/\
 (10*(ws.length - a)+2<f->Rr 305 ws a lv d (bO iB f .not lv d (ws.drop a)))/\
 (10*(ws.length - a)+1<f->Rr 322 ws a lv d (bO iB f .prim lv d (ws.drop a)))
def Lw [MaxL] (k:FuncId) (w:By) (b:Bool) (ws:List By) (z:Tree) (zs:List Tree) (a lv d:Nat) (o:Option (Tree×List By×Nat)):Prop:=match o with
 |some (t,r,e)=>∃j zs' a',t=fV b z zs'/\r=ws.drop a'/\a<=a'/\a'<=ws.length/\(fV b z zs').size<=(fV b z zs).size+(a' - a)/\LpR ws k w lv z j zs a false (decide (20<d)) (zs',a',false,decide (20<e))
 |none=>∃j zs' a' l',a<=a'/\a'<=ws.length/\(fV b z zs').size<=(fV b z zs).size+(a' - a)+1/\LpR ws k w lv z j zs a false (decide (20<d)) (zs',a',true,l')
theorem QB [MaxL] (ws:List By) (f:Nat) (IH:∀g,g<=f->R8 ws g):∀(g:Nat) (z:Tree) (zs:List Tree) (a lv d:Nat),g<=f->a<=ws.length->lv+(ws.length - a)<=50000->10*(ws.length - a)<g->
  Lw 305 mW true ws z zs a lv d (bO iB g (.andL (fV true z zs)) lv d (ws.drop a))
 |0,z,zs,a,lv,d,_,_,_,h=>by omega
 |g+1,z,zs,a,lv,d,hg,ha,hb,hf=>by
  by_cases hw:kT ws a=mW
  ·have hlt:=kD (ws:=ws) (a:=a) (by rw[hw];decide);have e:bO iB (g+1) (.andL (fV true z zs)) lv d (ws.drop a)=match bO iB g .not lv d (ws.drop (a+1)) with
     |some (m,r,e)=>bO iB g (.andL (.pair true (fV true z zs) m)) lv e r
     |none=>none:=by
    conv=>lhs;unfold bO
    rw[aG (show(ws.drop a).headD []=mW from hw),pX];rfl
   rw[e];have h1:=(IH g (by omega) (a+1) lv d hlt (by omega)).2.2.1 (by omega);cases hp:bO iB g .not lv d (ws.drop (a+1)) with
   |none=>
    rw[hp] at h1;obtain⟨t,a',l',b1,b2,b3,hc⟩:=h1;refine⟨1,zs++[t],a',l',by omega,b2,by rw[lJ];simp only[Tree.size];omega,.step hw hc (.bad b2)⟩
   |some p=>
    obtain⟨m,r,e1⟩:=p;rw[hp] at h1;obtain⟨a',b1,b2,rfl,b3,hc⟩:=h1;simp only;have h2:=QB ws f IH g z (zs++[m]) a' lv e1 (by omega) b2 (by omega) (by omega);rw[lJ] at h2;cases hq:bO iB g (.andL (.pair true (fV true z zs) m)) lv e1 (ws.drop a') with
    |none=>
     rw[hq] at h2;obtain⟨j,zs',a2,l2,c1,c2,c3,hl⟩:=h2;rw[lJ] at c3;simp only[Tree.size] at c3;exact⟨j+1,zs',a2,l2,by omega,c2,by omega,.step hw hc hl⟩
    |some p=>
     obtain⟨t,r,e2⟩:=p;rw[hq] at h2;obtain⟨j,zs',a2,rfl,rfl,c1,c2,c3,hl⟩:=h2;rw[lJ] at c3;simp only[Tree.size] at c3;exact⟨j+1,zs',a2,rfl,rfl,by omega,c2,by omega,.step hw hc hl⟩
  ·have e:bO iB (g+1) (.andL (fV true z zs)) lv d (ws.drop a)=some (fV true z zs,ws.drop a,d):=by
    conv=>lhs;unfold bO
    rw[aE (show¬(ws.drop a).headD []=mW from hw)]
   rw[e];exact⟨0,zs,a,rfl,rfl,rL _,ha,by omega,.stop hw ha⟩
theorem VK [MaxL] (ws:List By) (f:Nat) (IH:∀g,g<=f->R8 ws g):∀(g:Nat) (z:Tree) (zs:List Tree) (a lv d:Nat),g<=f->a<=ws.length->lv+(ws.length - a)<=50000->10*(ws.length - a)<g->
  Lw 267 AF false ws z zs a lv d (bO iB g (.orL (fV false z zs)) lv d (ws.drop a))
 |0,z,zs,a,lv,d,_,_,_,h=>by omega
 |g+1,z,zs,a,lv,d,hg,ha,hb,hf=>by
  by_cases hw:kT ws a=AF
  ·have hlt:=kD (ws:=ws) (a:=a) (by rw[hw];decide);have e:bO iB (g+1) (.orL (fV false z zs)) lv d (ws.drop a)=match bO iB g .and lv d (ws.drop (a+1)) with
     |some (m,r,e)=>bO iB g (.orL (.pair false (fV false z zs) m)) lv e r
     |none=>none:=by
    conv=>lhs;unfold bO
    rw[aG (show(ws.drop a).headD []=AF from hw),pX];rfl
   rw[e];have h1:=(IH g (by omega) (a+1) lv d hlt (by omega)).2.1 (by omega);cases hp:bO iB g .and lv d (ws.drop (a+1)) with
   |none=>
    rw[hp] at h1;obtain⟨t,a',l',b1,b2,b3,hc⟩:=h1;refine⟨1,zs++[t],a',l',by omega,b2,by rw[lJ];simp only[Tree.size];omega,.step hw hc (.bad b2)⟩
   |some p=>
    obtain⟨m,r,e1⟩:=p;rw[hp] at h1;obtain⟨a',b1,b2,rfl,b3,hc⟩:=h1;simp only;have h2:=VK ws f IH g z (zs++[m]) a' lv e1 (by omega) b2 (by omega) (by omega);rw[lJ] at h2;cases hq:bO iB g (.orL (.pair false (fV false z zs) m)) lv e1 (ws.drop a') with
    |none=>
     rw[hq] at h2;obtain⟨j,zs',a2,l2,c1,c2,c3,hl⟩:=h2;rw[lJ] at c3;simp only[Tree.size] at c3;exact⟨j+1,zs',a2,l2,by omega,c2,by omega,.step hw hc hl⟩
    |some p=>
     obtain⟨t,r,e2⟩:=p;rw[hq] at h2;obtain⟨j,zs',a2,rfl,rfl,c1,c2,c3,hl⟩:=h2;rw[lJ] at c3;simp only[Tree.size] at c3;exact⟨j+1,zs',a2,rfl,rfl,by omega,c2,by omega,.step hw hc hl⟩
  ·have e:bO iB (g+1) (.orL (fV false z zs)) lv d (ws.drop a)=some (fV false z zs,ws.drop a,d):=by
    conv=>lhs;unfold bO
    rw[aE (show¬(ws.drop a).headD []=AF from hw)]
   rw[e];exact⟨0,zs,a,rfl,rfl,rL _,ha,by omega,.stop hw ha⟩
theorem xD (b:Bool) (z:Tree) (zs:List Tree):((z::zs).flatMap (Tree.sides b)).length<=(fV b z zs).size:=by
 rw[<-vV];exact mI _
theorem a13 [MaxL] (ws:List By) (hw:ws.length<50000) (a lv d:Nat) (o:Option (Tree×List By×Nat)) (p:Option (Tree×List By×Nat)) (h1:Rr 305 ws a lv d o)
  (hn:o=none->p=none) (h2:∀t r e,o=some (t,r,e)->∀a',r=ws.drop a'->a'<=ws.length->Lw 305 mW true ws t [] a' lv e p):Rr 267 ws a lv d p:=by
 cases o with
 |none=>
  rw[hn rfl];obtain⟨t,a',l',b1,b2,b3,hc⟩:=h1;have hfl:=xD true t [];exact⟨t,a',l',b1,b2,b3,UY ws (by omega) a lv _ true l' a' t hc 0 ([],a',true,l') (.bad b2) (zL _) (by show((t::[]).flatMap (Tree.sides true)).length<=_;simp only[fV,List.foldl_nil] at hfl;omega)⟩
 |some q=>
  obtain⟨t,r,e⟩:=q;obtain⟨a',b1,b2,hr,b3,hc⟩:=h1;have h2:=h2 t r e rfl a' hr b2;cases p with
  |none=>
   obtain⟨j,zs',a2,l2,c1,c2,c3,hl⟩:=h2;have hfl:=xD true t zs';have hjs:=qW true zs' t;have c4:(fV true t []).size=t.size:=rfl;exact⟨fV true t zs',a2,l2,by omega,c2,by omega,UY ws (by omega) a lv _ false _ a' t hc j (zs',a2,true,l2) hl (by show zs'.length<=_;omega) (by show((t::zs').flatMap (Tree.sides true)).length<=_;omega)⟩
  |some p=>
   obtain⟨t',r',e'⟩:=p;obtain⟨j,zs',a2,rfl,rfl,c1,c2,c3,hl⟩:=h2;have hfl:=xD true t zs';have hjs:=qW true zs' t;have c4:(fV true t []).size=t.size:=rfl;exact⟨a2,by omega,c2,rfl,by omega,UY ws (by omega) a lv _ false _ a' t hc j (zs',a2,false,decide (20<e')) hl (by show zs'.length<=_;omega) (by show((t::zs').flatMap (Tree.sides true)).length<=_;omega)⟩
theorem a1f [MaxL] (ws:List By) (hw:ws.length<50000) (a lv d:Nat) (o:Option (Tree×List By×Nat)) (p:Option (Tree×List By×Nat)) (h1:Rr 267 ws a lv d o)
  (hn:o=none->p=none) (h2:∀t r e,o=some (t,r,e)->∀a',r=ws.drop a'->a'<=ws.length->Lw 267 AF false ws t [] a' lv e p):Rr 231 ws a lv d p:=by
 cases o with
 |none=>
  rw[hn rfl];obtain⟨t,a',l',b1,b2,b3,hc⟩:=h1;have hfl:=xD false t [];exact⟨t,a',l',b1,b2,b3,a0M ws (by omega) a lv _ true l' a' t hc 0 ([],a',true,l') (.bad b2) (zL _) (by show((t::[]).flatMap (Tree.sides false)).length<=_;simp only[fV,List.foldl_nil] at hfl;omega)⟩
 |some q=>
  obtain⟨t,r,e⟩:=q;obtain⟨a',b1,b2,hr,b3,hc⟩:=h1;have h2:=h2 t r e rfl a' hr b2;cases p with
  |none=>
   obtain⟨j,zs',a2,l2,c1,c2,c3,hl⟩:=h2;have hfl:=xD false t zs';have hjs:=qW false zs' t;have c4:(fV false t []).size=t.size:=rfl;exact⟨fV false t zs',a2,l2,by omega,c2,by omega,a0M ws (by omega) a lv _ false _ a' t hc j (zs',a2,true,l2) hl (by show zs'.length<=_;omega) (by show((t::zs').flatMap (Tree.sides false)).length<=_;omega)⟩
  |some p=>
   obtain⟨t',r',e'⟩:=p;obtain⟨j,zs',a2,rfl,rfl,c1,c2,c3,hl⟩:=h2;have hfl:=xD false t zs';have hjs:=qW false zs' t;have c4:(fV false t []).size=t.size:=rfl;exact⟨a2,by omega,c2,rfl,by omega,a0M ws (by omega) a lv _ false _ a' t hc j (zs',a2,false,decide (20<e')) hl (by show zs'.length<=_;omega) (by show((t::zs').flatMap (Tree.sides false)).length<=_;omega)⟩
theorem a1Z [MaxL] (ws:List By) (hw:ws.length<50000) (hx:∀w∈ws,w.length<1000000):∀f,R8 ws f:=by
 intro f;induction f using Nat.strongRecOn with
 |ind f ih=>
 intro a lv d ha hb;cases f with
 |zero=>exact⟨fun h=>by omega,fun h=>by omega,fun h=>by omega,fun h=>by omega⟩
 |succ f=>
 have IH:∀g,g<=f->R8 ws g:=fun g hg=>ih g (by omega);obtain⟨_,iand,inot,iprim⟩:=IH f (rL _) a lv d ha hb;refine⟨fun hf=>?_,fun hf=>?_,fun hf=>?_,fun hf=>?_⟩
 ·refine a1f ws hw a lv d _ _ (iand (by omega)) (fun h=>?_) (fun t r e h a' hr ha'=>?_)
  ·conv=>lhs;unfold bO
   rw[h]
  ·subst hr;have hlen:=(iX _ _ _ _ _ _ _ _ h).2.1 rfl;simp only[dW] at hlen;have e1:bO iB (f+1) .or lv d (ws.drop a)=bO iB f (.orL t) lv e (ws.drop a'):=by
    conv=>lhs;unfold bO
    rw[h]
   rw[e1];exact VK ws f IH f t [] a' lv e (rL _) ha' (by omega) (by omega)
 ·refine a13 ws hw a lv d _ _ (inot (by omega)) (fun h=>?_) (fun t r e h a' hr ha'=>?_)
  ·conv=>lhs;unfold bO
   rw[h]
  ·subst hr;have hlen:=(iX _ _ _ _ _ _ _ _ h).2.1 rfl;simp only[dW] at hlen;have e1:bO iB (f+1) .and lv d (ws.drop a)=bO iB f (.andL t) lv e (ws.drop a'):=by
    conv=>lhs;unfold bO
    rw[h]
   rw[e1];exact QB ws f IH f t [] a' lv e (rL _) ha' (by omega) (by omega)
 ·by_cases hn:kT ws a=jZ
  ·have hlt:=kD (ws:=ws) (a:=a) (by rw[hn];decide);have h1:=(IH f (rL _) (a+1) (lv+1) (max d (lv+1)) hlt (by omega)).2.2.2 (by omega);have e:bO iB (f+1) .not lv d (ws.drop a)=(bO iB f .prim (lv+1) (max d (lv+1)) (ws.drop (a+1))).map fun p=>(.no p.1,p.2):=by
    conv=>lhs;unfold bO
    rw[aG (show(ws.drop a).headD []=jZ from hn),pX];cases bO iB f .prim (lv+1) (max d (lv+1)) (ws.drop (a+1))<;>rfl
   rw[e];exact RZ ws (by omega) a lv d (by omega) hn _ h1
  ·have e:bO iB (f+1) .not lv d (ws.drop a)=bO iB f .prim lv d (ws.drop a):=by
    conv=>lhs;unfold bO
    rw[aE (show¬(ws.drop a).headD []=jZ from hn)]
   rw[e];exact UU ws (by omega) a lv d ha hn _ (iprim (by omega))
 ·have e:bO iB (f+1) .prim lv d (ws.drop a)=if kT ws a=kU then some (.truth true,ws.drop (a+1),d)
    else if kT ws a=jN then some (.truth false,ws.drop (a+1),d)
    else if kT ws a=[40] then IR (bO iB f .or (lv+1) (max d (lv+1)) (ws.drop (a+1)))
    else match fT iB (ws.drop a) with
     |some (x,r)=>if mJ (r.headD []) then(match fT iB r.tail with
       |some (y,r')=>some (.test (r.headD []) x y,r',d)
       |none=>none)
      else none
     |none=>none:=by
   conv=>lhs;unfold bO
   rw[pX];rfl
  rw[e];by_cases h1:kT ws a=kU
  ·rw[aG h1];exact UT ws (by omega) a lv d h1
  rw[aE h1];by_cases h2:kT ws a=jN
  ·rw[aG h2];exact US ws (by omega) a lv d h2
  rw[aE h2];by_cases h3:kT ws a=[40]
  ·rw[aG h3];have hlt:=kD (ws:=ws) (a:=a) (by rw[h3];decide);exact UR ws (by omega) a lv d (by omega) h3 _ ((IH f (rL _) (a+1) (lv+1) (max d (lv+1)) hlt (by omega)).1 (by omega))
  ·rw[aE h3];exact UQ ws (by omega) hx a ha lv d h3 h1 h2
theorem C2 {s:By} {t:Tree} (h:m4 s=.ok t):t.nice/\t.size<=1000/\s.length<=1000:=by
 unfold m4 at h;split at h
 ·cases h
 ·split at h
  ·rename_i t0 r e hp;split at h
   ·split at h
    ·cases h
    ·cases h;have h1:=jL _ _ _ _ _ _ _ _ hp;have h2:=jY _ _ _ _ _ _ _ _ hp trivial;have h3:=sK s.length s (rL _);simp only[Md.sz] at h1;refine⟨tP h2,?_,by omega⟩;rw[pW];omega
   ·cases h
  ·cases h
def qO (s:By):GV:=match m4 s with
 |.ok t=>.tup [t.gv,.i .i64 0]
 |.err e=>.tup [.o .nilIface,.i .i64 e]
theorem KX [MaxL] (s:By):Cl (qO s):=by
 unfold qO;split
 ·exact f8 (.cons (Tree.cl _) (.cons (.i _ _) .nil))
 ·exact fun _=>rfl
theorem WM [MaxL] (s:By) (hs:s.length<bH):SC Tryz.prog 182 [.s s] [] (.val (qO s)) []:=by
 by_cases hl:1000<s.length
 ·have e:qO s=.tup [.o .nilIface,.i .i64 3]:=by unfold qO m4;rw[aG hl]
  rw[e];refine cW Tryz.func182 rfl ?_;conv=>whnf
  refine aF (fun h=>?_) (fun h=>?_)<;>conv=>whnf
  ·exact b8 (.refl _) (fun _=>rfl)
  ·exfalso;have:=aC h;omega
 ·have hp:=YX s (by omega);cases hr:bO cE (jR s) .or 0 0 (iG s) with
  |none=>
   rw[hr] at hp;have e:qO s=.tup [.o .nilIface,.i .i64 2]:=by unfold qO m4;rw[aE hl,hr]
   rw[e];replace hp:SC Tryz.prog 217 [.s s] [] (.val (.tup [.o .nilIface,.i .i64 0,.b false])) []:=hp;refine cW Tryz.func182 rfl ?_;(conv=>whnf);refine aF (fun h=>?_) (fun h=>?_)<;>conv=>whnf
   ·exfalso;have:=aB h;omega
   refine n5 hp ?_;(conv=>whnf);exact b8 (.refl _) (fun _=>rfl)
  |some p=>
   obtain⟨t,r,e⟩:=p;rw[hr] at hp;have h1:=jL _ _ _ _ _ _ _ _ hr;have h3:=sK s.length s (rL _);simp only[Md.sz] at h1;replace hp:SC Tryz.prog 217 [.s s] [] (.val (.tup [t.gv,.i .i64 (e:Nat),.b (r.headD []==[])])) []:=hp;have hcl:Cl (.tup [t.gv,.i .i64 (e:Nat),.b (r.headD []==[])]):=f8 (.cons t.cl (.cons (.i _ _) (.cons (.b _) .nil)));have hf:=G7 1000 t (by omega) (by omega);cases hb:(r.headD []==[]) with
   |false=>
    have e1:qO s=.tup [.o .nilIface,.i .i64 2]:=by unfold qO m4;rw[aE hl,hr];simp only[hb];rfl
    rw[e1];rw[hb] at hp hcl;refine cW Tryz.func182 rfl ?_;(conv=>whnf);refine aF (fun h=>?_) (fun h=>?_)<;>conv=>whnf
    ·exfalso;have:=aB h;omega
    refine bF hp (wR _) rfl (fun _=>rfl) hcl ?_;(conv=>whnf);exact b8 (.refl _) (fun _=>rfl)
   |true=>
    rw[hb] at hp hcl;by_cases h20:20<e
    ·have e1:qO s=.tup [.o .nilIface,.i .i64 4]:=by unfold qO m4;rw[aE hl,hr];simp only[hb,aG h20];rfl
     rw[e1];refine cW Tryz.func182 rfl ?_;(conv=>whnf);refine aF (fun h=>?_) (fun h=>?_)<;>conv=>whnf
     ·exfalso;have:=aB h;omega
     refine bF hp (wR _) rfl (fun _=>rfl) hcl ?_;(conv=>whnf);refine aF (fun h2=>?_) (fun h2=>?_)<;>conv=>whnf
     ·exact b8 (.refl _) (fun _=>rfl)
     ·exfalso;have:=aC h2;omega
    ·have e1:qO s=.tup [t.flat.gv,.i .i64 0]:=by unfold qO m4;rw[aE hl,hr];simp only[hb,aE h20];rfl
     rw[e1];refine cW Tryz.func182 rfl ?_;(conv=>whnf);refine aF (fun h=>?_) (fun h=>?_)<;>conv=>whnf
     ·exfalso;have:=aB h;omega
     refine bF hp (wR _) rfl (fun _=>rfl) hcl ?_;(conv=>whnf);refine aF (fun h2=>?_) (fun h2=>?_)<;>conv=>whnf
     ·exfalso;have:=aB h2;omega
     refine bF hf (wR _) rfl (cC t.cl .nil) t.flat.cl ?_;(conv=>whnf);exact b8 (.refl _) (f8 (.cons t.flat.cl (.cons (.i _ _) .nil)))
def NK (t:Tree):By×Int:=if 1000<t.flat.plain.length∨20<t.flat.deep 0 then([],4) else(t.flat.plain,0)
theorem WL [MaxL] (t:Tree) (hn:t.nice) (hz:t.size<=2100):SC Tryz.prog 183 [t.gv] [] (.val (.tup [.s (NK t).1,.i .i64 (NK t).2])) []:=by
 have hf:=G7 2100 t hz (by omega);have hnf:=tP hn;have hsz:=pW t;have hpl:=qP t.flat hnf;have hp:=DS t.flat hnf (by omega);have hd:=K3 t.flat 0 (by omega);unfold NK;generalize t.flat=u at*;refine cW Tryz.func183 rfl ?_;conv=>whnf
 refine bF hf (wR _) rfl (cC t.cl .nil) u.cl ?_;conv=>whnf
 refine bF hp (wR _) rfl (cC u.cl .nil) (.s _) ?_;conv=>whnf
 refine aF (fun h1=>?_) (fun h1=>?_)<;>conv=>whnf
 ·have h1':1000<u.plain.length:=by have:=aB h1;omega
  rw[aG (.inl h1')];exact b8 (.refl _) (fun _=>rfl)
 ·have h1':¬1000<u.plain.length:=by have:=aC h1;omega
  refine bF hd (wR _) rfl (cC u.cl (.cons (.i _ _) .nil)) (.i _ _) ?_;conv=>whnf
  refine aF (fun h2=>?_) (fun h2=>?_)<;>conv=>whnf
  ·have h2':20<u.deep 0:=by have:=aB h2;omega
   rw[aG (.inr h2')];exact b8 (.refl _) (fun _=>rfl)
  ·have h2':¬20<u.deep 0:=by have:=aC h2;omega
   rw[aE (fun h=>h.elim h1' h2')];exact b8 (.refl _) (fun _=>rfl)
def yZ (s:By):By×Int:=match m4 s with
 |.ok t=>NK t
 |.err e=>([],e)
theorem HA {s:By} {e:Int} (h:m4 s=.err e):e=2∨e=3∨e=4:=by
 unfold m4 at h;split at h
 ·cases h;omega
 ·split at h
  ·split at h
   ·split at h
    ·cases h;omega
    ·cases h
   ·cases h;omega
  ·cases h;omega
theorem a0v [MaxL] (s:By) (hs:s.length<bH):SC Tryz.prog 120 [.s s] [] (.val (.tup [.s (yZ s).1,.i .i64 (yZ s).2])) []:=by
 have hr:=WM s hs;have hcl:=KX s;unfold qO at hr hcl;unfold yZ;cases h:m4 s with
 |err e=>
  rw[h] at hr hcl;replace hr:SC Tryz.prog 182 [.s s] [] (.val (.tup [.o .nilIface,.i .i64 e])) []:=hr;have he:=HA h;refine cW Tryz.func120 rfl ?_;conv=>whnf
  refine bF hr (wR _) rfl (fun _=>rfl) hcl ?_;conv=>whnf
  refine aF (fun h0=>?_) (fun h0=>?_)<;>conv=>whnf
  ·exact b8 (.refl _) (fun _=>rfl)
  ·exfalso;have:e=0:=by simpa using h0
   omega
 |ok t=>
  rw[h] at hr hcl;replace hr:SC Tryz.prog 182 [.s s] [] (.val (.tup [t.gv,.i .i64 0])) []:=hr;obtain⟨hn,hz,_⟩:=C2 h;have hres:=WL t hn (by omega);refine cW Tryz.func120 rfl ?_;conv=>whnf
  refine bF hr (wR _) rfl (fun _=>rfl) hcl ?_;conv=>whnf
  refine bF hres (wR _) rfl (cC t.cl .nil) (fun _=>rfl) ?_;conv=>whnf
  exact b8 (.refl _) (fun _=>rfl)
