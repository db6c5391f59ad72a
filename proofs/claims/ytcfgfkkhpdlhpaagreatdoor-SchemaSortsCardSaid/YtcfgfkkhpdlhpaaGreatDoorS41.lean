/-
  A part of the proof of SchemaSorts.
-/
import Derived.Test.YtcfgfkkhpdlhpaaGreatDoorS40
set_option linter.all false
set_option maxRecDepth 100000
namespace Go.Proofs.YtcfgfkkhpdlhpaaGreatDoor
open Go.RowKit
theorem WX [MaxL] (ws:List By) (hw:ws.length<1000000) (a lv d:Nat) (ha:a<=ws.length) (h:l4 ws a≠k9) (o:Option (Tree×List By×Nat))
  (hc:Rr 322 ws a lv d o):Rr 305 ws a lv d o:=by
 have hm:ws.length<bB:=by unfold bB;omega
 have n1:=dM hm ha h lv (decide (20<d));cases o with
 |none=>
  obtain⟨t,a',l',b1,b2,b3,hc⟩:=hc;refine⟨t,a',l',b1,b2,b3,?_⟩;have hcl:=t.ng_cl;obtain⟨k,kids,A,B,op,yes,hng⟩:=iK t;rw[hng] at hc hcl⊢;refine cY Tryz.func305 rfl ?_;conv=>whnf
  refine aW (q:=0) n1 rfl (wR _) rfl rfl bQ bQ (fun _=>rfl) (.b _) ?_;conv=>whnf
  refine aW (q:=0) hc rfl (wR _) rfl rfl bQ bQ (fun _=>rfl) hcl ?_;conv=>whnf
  refine⟨_,⟨rfl,zL _,rfl,bL rfl⟩,?_⟩;conv=>whnf
  exact fW rfl (.refl _) bQ hcl
 |some p=>
  obtain⟨t,r,e⟩:=p;obtain⟨a',b1,b2,rfl,b3,hc⟩:=hc;refine⟨a',b1,b2,rfl,b3,?_⟩;have hcl:=t.ng_cl;obtain⟨k,kids,A,B,op,yes,hng⟩:=iK t;rw[hng] at hc hcl⊢;refine cY Tryz.func305 rfl ?_;conv=>whnf
  refine aW (q:=0) n1 rfl (wR _) rfl rfl bQ bQ (fun _=>rfl) (.b _) ?_;conv=>whnf
  refine aW (q:=0) hc rfl (wR _) rfl rfl bQ bQ (fun _=>rfl) hcl ?_;conv=>whnf
  refine⟨_,⟨rfl,zL _,rfl,bL rfl⟩,?_⟩;conv=>whnf
  exact fW rfl (.refl _) bQ hcl
theorem TW [MaxL] (ws:List By) (hw:ws.length<1000000) (a lv d:Nat) (hlv:lv<100000) (h:l4 ws a=k9) (o:Option (Tree×List By×Nat))
  (hc:Rr 322 ws (a+1) (lv+1) (max d (lv+1)) o):Rr 305 ws a lv d (o.map fun p=>(.no p.1,p.2)):=by
 have hm:ws.length<bB:=by unfold bB;omega
 have ha:=kJ (ws:=ws) (a:=a) (by rw[h];decide);have h1:=iN hm h (by decide) lv (decide (20<d));have h2:=a2f ws (a+1) lv (by omega) false (decide (20<d));rw[SE] at h2;have hdec:IntKind.i64.wrap (((lv+1:Nat):Int) - 1)=((lv:Nat):Int):=by rw[bV (by omega) (by omega)];omega
 cases o with
 |none=>
  obtain⟨t,a',l',b1,b2,b3,hc⟩:=hc;refine⟨.no t,a',l',by omega,b2,by simp only[Tree.size];omega,?_⟩;have hcl:Cl (Tree.no t).ng:=(Tree.no t).ng_cl;have e:(Tree.no t).ng=.agg (jY 3 [t.ng] t0 t0 [] false):=rfl;have hcl2:=t.ng_cl;obtain⟨k,kids,A,B,op,yes,hng⟩:=iK t;rw[e] at hcl⊢;rw[hng] at hc hcl hcl2⊢;refine cY Tryz.func305 rfl ?_;conv=>whnf
  refine aW (q:=0) h1 rfl (wR _) rfl rfl bQ bQ (fun _=>rfl) (.b _) ?_;conv=>whnf
  refine aW (q:=0) h2 rfl (wR _) rfl rfl bQ bQ (fun _=>rfl) (fH .nil) ?_;conv=>whnf
  refine aW (q:=0) hc rfl (wR _) rfl rfl bQ bQ (fun _=>rfl) hcl2 ?_;conv=>whnf
  refine⟨_,⟨rfl,zL _,rfl,bL rfl⟩,?_⟩;conv=>whnf
  refine⟨[.i .i64 (lv:Nat)],⟨(by rw[hdec];rfl),rL _,rfl,bL rfl⟩,?_⟩;conv=>whnf
  refine⟨_,⟨rfl,zL _,rfl,bL rfl⟩,?_⟩;conv=>whnf
  exact fW rfl hY bQ hcl
 |some p=>
  obtain⟨t,r,e⟩:=p;obtain⟨a',b1,b2,rfl,b3,hc⟩:=hc;refine⟨a',by omega,b2,rfl,by simp only[Tree.size];omega,?_⟩;show SC _ _ _ _ (.val (Tree.no t).ng) _;have hcl:Cl (Tree.no t).ng:=(Tree.no t).ng_cl;have e:(Tree.no t).ng=.agg (jY 3 [t.ng] t0 t0 [] false):=rfl;have hcl2:=t.ng_cl;obtain⟨k,kids,A,B,op,yes,hng⟩:=iK t;rw[e] at hcl⊢;rw[hng] at hc hcl hcl2⊢;refine cY Tryz.func305 rfl ?_;conv=>whnf
  refine aW (q:=0) h1 rfl (wR _) rfl rfl bQ bQ (fun _=>rfl) (.b _) ?_;conv=>whnf
  refine aW (q:=0) h2 rfl (wR _) rfl rfl bQ bQ (fun _=>rfl) (fH .nil) ?_;conv=>whnf
  refine aW (q:=0) hc rfl (wR _) rfl rfl bQ bQ (fun _=>rfl) hcl2 ?_;conv=>whnf
  refine⟨_,⟨rfl,zL _,rfl,bL rfl⟩,?_⟩;conv=>whnf
  refine⟨[.i .i64 (lv:Nat)],⟨(by rw[hdec];rfl),rL _,rfl,bL rfl⟩,?_⟩;conv=>whnf
  refine⟨_,⟨rfl,zL _,rfl,bL rfl⟩,?_⟩;conv=>whnf
  exact fW rfl hY bQ hcl
inductive LpR [MaxL] (ws:List By) (k:FuncId) (w:By) (lv:Nat) (z:Tree):Nat->List Tree->Nat->Bool->Bool->(List Tree×Nat×Bool×Bool)->Prop where
 |bad {zs:List Tree} {a:Nat} {gE:Bool} (ha:a<=ws.length):LpR ws k w lv z 0 zs a true gE (zs,a,true,gE)
 |stop {zs:List Tree} {a:Nat} {gE:Bool} (h:l4 ws a≠w) (ha:a<=ws.length):LpR ws k w lv z 0 zs a false gE (zs,a,false,gE)
 |step {j:Nat} {zs:List Tree} {t:Tree} {a a':Nat} {gE bad' lim':Bool} {dB:List Tree×Nat×Bool×Bool} (h:l4 ws a=w) (hc:SC Tryz.prog k [.ptr 0 0] [qM ws (a+1:Nat) lv false gE] (.val t.ng) [qM ws a' lv bad' lim'])
   (hr:LpR ws k w lv z j (zs++[t]) a' bad' lim' dB):LpR ws k w lv z (j+1) zs a false gE dB
theorem LpR.len [MaxL] {ws:List By} {k:FuncId} {w:By} {lv:Nat} {z:Tree} {j:Nat} {zs:List Tree} {a:Nat} {bad gE:Bool} {dB:List Tree×Nat×Bool×Bool} (h:LpR ws k w lv z j zs a bad gE dB):zs.length+j=dB.1.length:=by
 induction h with
 |bad=>rfl
 |stop=>rfl
 |step h hc hr ih=>rw[aG,aX] at ih;omega
theorem X1 [MaxL] (ws:List By) (hw:ws.length<1000000) (a lv:Nat) (gE bad1 lim1:Bool) (a1:Nat) (t:Tree) (hc:SC Tryz.prog 305 [.ptr 0 0] [qM ws a lv false gE] (.val t.ng) [qM ws a1 lv bad1 lim1])
  (j:Nat) (dB:List Tree×Nat×Bool×Bool) (hl:LpR ws 305 nD lv t j [] a1 bad1 lim1 dB) (hlen:dB.1.length<=100000) (hsz:((t::dB.1).flatMap (Tree.sides true)).length<=1000000):
  SC Tryz.prog 267 [.ptr 0 0] [qM ws a lv false gE] (.val (fX true t dB.1).ng) [qM ws dB.2.1 lv dB.2.2.1 dB.2.2.2]:=by
 have hm:ws.length<bB:=by unfold bB;omega
 have hj:=ML true t dB.1 hlen hsz;have hjc:=(fX true t dB.1).ng_cl;have hcl:=t.ng_cl;obtain⟨k,kids,A,B,op,yes,hng⟩:=iK t;obtain⟨k2,kids2,A2,B2,op2,yes2,hng2⟩:=iK (fX true t dB.1);rw[hng2] at hj hjc⊢;clear hng2;rw[hng] at hc hcl;have hsl:GV.sl (.own 2) [.agg (jY k kids A B op yes)]=GV.sl (.own 2) (jX [t]):=by show _=GV.sl (.own 2) [t.ng];rw[hng]
 refine cY Tryz.func267 rfl ?_;conv=>whnf
 refine aW (q:=0) hc rfl (wR _) rfl rfl bQ bQ (fun _=>rfl) hcl ?_;conv=>whnf
 refine eT (fun q:Nat×List Tree×Nat×Bool×Bool=>LpR ws 305 nD lv t q.1 q.2.1 q.2.2.1 q.2.2.2.1 q.2.2.2.2 dB) (fun q=>[(0,.ptr 0 0),(2,.ptr 1 0),(3,.sl (.own 2) (jX (t::q.2.1)))])
  (fun q=>⟨[qM ws q.2.2.1 lv q.2.2.2.1 q.2.2.2.2,.box 211 XB,.own (q.2.1.length+1) 14 211],0,[]⟩) (fun q=>q.1) (j,[],a1,bad1,lim1) hl ⟨rfl,rfl,hsl,trivial⟩ rfl (fun _ _=>rL _) (fun q _=>rfl) (fun q _ e he=>?_) (fun q φ0 hq=>?_)
 ·refine⟨?_,rfl,?_⟩
  ·show[(qM ws q.2.2.1 lv q.2.2.2.1 q.2.2.2.2).ren e,_,_]=_;rw[show(qM ws q.2.2.1 lv q.2.2.2.1 q.2.2.2.2).ren e=qM ws q.2.2.1 lv q.2.2.2.1 q.2.2.2.2 from eU bQ e];rfl
  ·show[GV.ptr (e 0) 0,GV.ptr (e 1) 0,(GV.sl (.own 2) (jX (t::q.2.1))).ren e]=_;rw[pR (he 2 (by simp)) (rI _),he 0 (by simp),he 1 (by simp)];rfl
 obtain⟨j,zs,a,bad,gE⟩:=q;replace hq:LpR ws 305 nD lv t j zs a bad gE dB:=hq;have hjl:=hq.len;conv=>whnf
 cases hq with
 |bad ha=>
  have n1:=lP hm ha nD lv gE;refine aW (q:=0) n1 rfl (wR _) rfl rfl bQ bQ (fun _=>rfl) (.b _) ?_;conv=>whnf
  refine bD hj (wC (.refl _) (wC (bI _ _) iY)) rfl (cC (.i _ _) (cC (bT (rI _)) .nil)) hjc ?_;conv=>whnf
  refine⟨_,⟨rfl,zL _,rfl,bL rfl⟩,?_⟩;conv=>whnf
  exact fW rfl (.refl _) bQ hjc
 |stop h ha=>
  have n1:=dM hm ha h lv gE;refine aW (q:=0) n1 rfl (wR _) rfl rfl bQ bQ (fun _=>rfl) (.b _) ?_;conv=>whnf
  refine bD hj (wC (.refl _) (wC (bI _ _) iY)) rfl (cC (.i _ _) (cC (bT (rI _)) .nil)) hjc ?_;conv=>whnf
  refine⟨_,⟨rfl,zL _,rfl,bL rfl⟩,?_⟩;conv=>whnf
  exact fW rfl (.refl _) bQ hjc
 |step h hc hr=>
  rename_i j t' a' bad' lim';have n1:=iN hm h (by decide) lv gE;have hcl':=t'.ng_cl;obtain⟨k,kids,A,B,op,yes,hng'⟩:=iK t';rw[hng'] at hc hcl';refine aW (q:=0) n1 rfl (wR _) rfl rfl bQ bQ (fun _=>rfl) (.b _) ?_;conv=>whnf
  refine aW (q:=0) hc rfl (wR _) rfl rfl bQ bQ (fun _=>rfl) hcl' ?_;conv=>whnf
  refine⟨⟨rfl,BX _,by show(jX (t::zs)).length+1<=4294967296;rw[eZ,aJ];omega⟩,jX (t::(zs++[t'])),(zs++[t']).length+1,⟨(by show jX (t::zs++[t'])=jX (t::zs)++[GV.agg (jY k kids A B op yes)];rw[<-hng'];unfold jX;rw[cX];rfl),by show _=(jX (t::zs)).length+1;rw[eZ,aG];rfl⟩,?_⟩;conv=>whnf
  refine⟨⟨zL _,by first|rfl|(rw[eZ];rfl)|(rw[eZ];simp),by first|exact .inr ⟨rfl,rfl⟩|exact .inl ⟨rfl,rfl⟩⟩,?_⟩;conv=>whnf
  exact⟨j,Nat.lt_succ_self j,(j,zs++[t'],a',bad',lim'),hr,rfl,⟨rfl,rfl,rfl,trivial⟩,_,rfl,rfl⟩
theorem a1f [MaxL] (ws:List By) (hw:ws.length<1000000) (a lv:Nat) (gE bad1 lim1:Bool) (a1:Nat) (t:Tree) (hc:SC Tryz.prog 267 [.ptr 0 0] [qM ws a lv false gE] (.val t.ng) [qM ws a1 lv bad1 lim1])
  (j:Nat) (dB:List Tree×Nat×Bool×Bool) (hl:LpR ws 267 BA lv t j [] a1 bad1 lim1 dB) (hlen:dB.1.length<=100000) (hsz:((t::dB.1).flatMap (Tree.sides false)).length<=1000000):
  SC Tryz.prog 231 [.ptr 0 0] [qM ws a lv false gE] (.val (fX false t dB.1).ng) [qM ws dB.2.1 lv dB.2.2.1 dB.2.2.2]:=by
 have hm:ws.length<bB:=by unfold bB;omega
 have hj:=ML false t dB.1 hlen hsz;have hjc:=(fX false t dB.1).ng_cl;have hcl:=t.ng_cl;obtain⟨k,kids,A,B,op,yes,hng⟩:=iK t;obtain⟨k2,kids2,A2,B2,op2,yes2,hng2⟩:=iK (fX false t dB.1);rw[hng2] at hj hjc⊢;clear hng2;rw[hng] at hc hcl;have hsl:GV.sl (.own 2) [.agg (jY k kids A B op yes)]=GV.sl (.own 2) (jX [t]):=by show _=GV.sl (.own 2) [t.ng];rw[hng]
 refine cY Tryz.func231 rfl ?_;conv=>whnf
 refine aW (q:=0) hc rfl (wR _) rfl rfl bQ bQ (fun _=>rfl) hcl ?_;conv=>whnf
 refine eT (fun q:Nat×List Tree×Nat×Bool×Bool=>LpR ws 267 BA lv t q.1 q.2.1 q.2.2.1 q.2.2.2.1 q.2.2.2.2 dB) (fun q=>[(0,.ptr 0 0),(2,.ptr 1 0),(3,.sl (.own 2) (jX (t::q.2.1)))])
  (fun q=>⟨[qM ws q.2.2.1 lv q.2.2.2.1 q.2.2.2.2,.box 211 XB,.own (q.2.1.length+1) 14 211],0,[]⟩) (fun q=>q.1) (j,[],a1,bad1,lim1) hl ⟨rfl,rfl,hsl,trivial⟩ rfl (fun _ _=>rL _) (fun q _=>rfl) (fun q _ e he=>?_) (fun q φ0 hq=>?_)
 ·refine⟨?_,rfl,?_⟩
  ·show[(qM ws q.2.2.1 lv q.2.2.2.1 q.2.2.2.2).ren e,_,_]=_;rw[show(qM ws q.2.2.1 lv q.2.2.2.1 q.2.2.2.2).ren e=qM ws q.2.2.1 lv q.2.2.2.1 q.2.2.2.2 from eU bQ e];rfl
  ·show[GV.ptr (e 0) 0,GV.ptr (e 1) 0,(GV.sl (.own 2) (jX (t::q.2.1))).ren e]=_;rw[pR (he 2 (by simp)) (rI _),he 0 (by simp),he 1 (by simp)];rfl
 obtain⟨j,zs,a,bad,gE⟩:=q;replace hq:LpR ws 267 BA lv t j zs a bad gE dB:=hq;have hjl:=hq.len;conv=>whnf
 cases hq with
 |bad ha=>
  refine bD hj (wC (.refl _) (wC (bI _ _) iY)) rfl (cC (.i _ _) (cC (bT (rI _)) .nil)) hjc ?_;conv=>whnf
  refine⟨_,⟨rfl,zL _,rfl,bL rfl⟩,?_⟩;conv=>whnf
  exact fW rfl (.refl _) bQ hjc
 |stop h ha=>
  have n1:=dM hm ha h lv gE;refine aW (q:=0) n1 rfl (wR _) rfl rfl bQ bQ (fun _=>rfl) (.b _) ?_;conv=>whnf
  refine bD hj (wC (.refl _) (wC (bI _ _) iY)) rfl (cC (.i _ _) (cC (bT (rI _)) .nil)) hjc ?_;conv=>whnf
  refine⟨_,⟨rfl,zL _,rfl,bL rfl⟩,?_⟩;conv=>whnf
  exact fW rfl (.refl _) bQ hjc
 |step h hc hr=>
  rename_i j t' a' bad' lim';have n1:=iN hm h (by decide) lv gE;have hcl':=t'.ng_cl;obtain⟨k,kids,A,B,op,yes,hng'⟩:=iK t';rw[hng'] at hc hcl';refine aW (q:=0) n1 rfl (wR _) rfl rfl bQ bQ (fun _=>rfl) (.b _) ?_;conv=>whnf
  refine aW (q:=0) hc rfl (wR _) rfl rfl bQ bQ (fun _=>rfl) hcl' ?_;conv=>whnf
  refine⟨⟨rfl,BX _,by show(jX (t::zs)).length+1<=4294967296;rw[eZ,aJ];omega⟩,jX (t::(zs++[t'])),(zs++[t']).length+1,⟨(by show jX (t::zs++[t'])=jX (t::zs)++[GV.agg (jY k kids A B op yes)];rw[<-hng'];unfold jX;rw[cX];rfl),by show _=(jX (t::zs)).length+1;rw[eZ,aG];rfl⟩,?_⟩;conv=>whnf
  refine⟨⟨zL _,by first|rfl|(rw[eZ];rfl)|(rw[eZ];simp),by first|exact .inr ⟨rfl,rfl⟩|exact .inl ⟨rfl,rfl⟩⟩,?_⟩;conv=>whnf
  exact⟨j,Nat.lt_succ_self j,(j,zs++[t'],a',bad',lim'),hr,rfl,⟨rfl,rfl,rfl,trivial⟩,_,rfl,rfl⟩
theorem rK (a:Bool):∀(zs:List Tree) (z:Tree),zs.length<=(fX a z zs).size/\z.size<=(fX a z zs).size
 |[],z=>⟨zL _,rL _⟩
 |y::zs,z=>by
  have:=joinL_len a zs (.pair a z y);have h2:=rK a zs (.pair a z y);show(y::zs).length<=(fX a (.pair a z y) zs).size/\z.size<=(fX a (.pair a z y) zs).size;simp only[Tree.size] at h2 this;rw[aJ];omega
where
 joinL_len (a:Bool):∀(zs:List Tree) (z:Tree),z.size+zs.length<=(fX a z zs).size
 |[],z=>rL _
 |y::zs,z=>by
  have:=joinL_len a zs (.pair a z y);show z.size+(y::zs).length<=(fX a (.pair a z y) zs).size;simp only[Tree.size] at this;rw[aJ];omega
theorem lS (a:Bool) (z:Tree) (zs:List Tree) (m:Tree):fX a z (zs++[m])=.pair a (fX a z zs) m:=by
 unfold fX;rw[List.foldl_append];rfl
def TB [MaxL] (ws:List By) (f:Nat):Prop:=∀a lv d,a<=ws.length->lv+(ws.length - a)<=50000->
 (10*(ws.length - a)+4<f->Rr 231 ws a lv d (bR iC f .or lv d (ws.drop a)))/\
 (10*(ws.length - a)+3<f->Rr 267 ws a lv d (bR iC f .and lv d (ws.drop a)))/\
 (10*(ws.length - a)+2<f->Rr 305 ws a lv d (bR iC f .not lv d (ws.drop a)))/\
 (10*(ws.length - a)+1<f->Rr 322 ws a lv d (bR iC f .prim lv d (ws.drop a)))
def Lw [MaxL] (k:FuncId) (w:By) (b:Bool) (ws:List By) (z:Tree) (zs:List Tree) (a lv d:Nat) (o:Option (Tree×List By×Nat)):Prop:=match o with
 |some (t,r,e)=>∃j zs' a',t=fX b z zs'/\r=ws.drop a'/\a<=a'/\a'<=ws.length/\(fX b z zs').size<=(fX b z zs).size+(a' - a)/\LpR ws k w lv z j zs a false (decide (20<d)) (zs',a',false,decide (20<e))
 |none=>∃j zs' a' l',a<=a'/\a'<=ws.length/\(fX b z zs').size<=(fX b z zs).size+(a' - a)+1/\LpR ws k w lv z j zs a false (decide (20<d)) (zs',a',true,l')
theorem SB [MaxL] (ws:List By) (f:Nat) (IH:∀g,g<=f->TB ws g):∀(g:Nat) (z:Tree) (zs:List Tree) (a lv d:Nat),g<=f->a<=ws.length->lv+(ws.length - a)<=50000->10*(ws.length - a)<g->
  Lw 305 nD true ws z zs a lv d (bR iC g (.andL (fX true z zs)) lv d (ws.drop a))
 |0,z,zs,a,lv,d,_,_,_,h=>by omega
 |g+1,z,zs,a,lv,d,hg,ha,hb,hf=>by
  by_cases hw:l4 ws a=nD
  ·have hlt:=kJ (ws:=ws) (a:=a) (by rw[hw];decide);have e:bR iC (g+1) (.andL (fX true z zs)) lv d (ws.drop a)=match bR iC g .not lv d (ws.drop (a+1)) with
     |some (m,r,e)=>bR iC g (.andL (.pair true (fX true z zs) m)) lv e r
     |none=>none:=by
    conv=>lhs;unfold bR
    rw[aF (show(ws.drop a).headD []=nD from hw),qU];rfl
   rw[e];have h1:=(IH g (by omega) (a+1) lv d hlt (by omega)).2.2.1 (by omega);cases hp:bR iC g .not lv d (ws.drop (a+1)) with
   |none=>
    rw[hp] at h1;obtain⟨t,a',l',b1,b2,b3,hc⟩:=h1;refine⟨1,zs++[t],a',l',by omega,b2,by rw[lS];simp only[Tree.size];omega,.step hw hc (.bad b2)⟩
   |some p=>
    obtain⟨m,r,e1⟩:=p;rw[hp] at h1;obtain⟨a',b1,b2,rfl,b3,hc⟩:=h1;simp only;have h2:=SB ws f IH g z (zs++[m]) a' lv e1 (by omega) b2 (by omega) (by omega);rw[lS] at h2;cases hq:bR iC g (.andL (.pair true (fX true z zs) m)) lv e1 (ws.drop a') with
    |none=>
     rw[hq] at h2;obtain⟨j,zs',a2,l2,c1,c2,c3,hl⟩:=h2;rw[lS] at c3;simp only[Tree.size] at c3;exact⟨j+1,zs',a2,l2,by omega,c2,by omega,.step hw hc hl⟩
    |some p=>
     obtain⟨t,r,e2⟩:=p;rw[hq] at h2;obtain⟨j,zs',a2,rfl,rfl,c1,c2,c3,hl⟩:=h2;rw[lS] at c3;simp only[Tree.size] at c3;exact⟨j+1,zs',a2,rfl,rfl,by omega,c2,by omega,.step hw hc hl⟩
  ·have e:bR iC (g+1) (.andL (fX true z zs)) lv d (ws.drop a)=some (fX true z zs,ws.drop a,d):=by
    conv=>lhs;unfold bR
    rw[aD (show¬(ws.drop a).headD []=nD from hw)]
   rw[e];exact⟨0,zs,a,rfl,rfl,rL _,ha,by omega,.stop hw ha⟩
theorem XL [MaxL] (ws:List By) (f:Nat) (IH:∀g,g<=f->TB ws g):∀(g:Nat) (z:Tree) (zs:List Tree) (a lv d:Nat),g<=f->a<=ws.length->lv+(ws.length - a)<=50000->10*(ws.length - a)<g->
  Lw 267 BA false ws z zs a lv d (bR iC g (.orL (fX false z zs)) lv d (ws.drop a))
 |0,z,zs,a,lv,d,_,_,_,h=>by omega
 |g+1,z,zs,a,lv,d,hg,ha,hb,hf=>by
  by_cases hw:l4 ws a=BA
  ·have hlt:=kJ (ws:=ws) (a:=a) (by rw[hw];decide);have e:bR iC (g+1) (.orL (fX false z zs)) lv d (ws.drop a)=match bR iC g .and lv d (ws.drop (a+1)) with
     |some (m,r,e)=>bR iC g (.orL (.pair false (fX false z zs) m)) lv e r
     |none=>none:=by
    conv=>lhs;unfold bR
    rw[aF (show(ws.drop a).headD []=BA from hw),qU];rfl
   rw[e];have h1:=(IH g (by omega) (a+1) lv d hlt (by omega)).2.1 (by omega);cases hp:bR iC g .and lv d (ws.drop (a+1)) with
   |none=>
    rw[hp] at h1;obtain⟨t,a',l',b1,b2,b3,hc⟩:=h1;refine⟨1,zs++[t],a',l',by omega,b2,by rw[lS];simp only[Tree.size];omega,.step hw hc (.bad b2)⟩
   |some p=>
    obtain⟨m,r,e1⟩:=p;rw[hp] at h1;obtain⟨a',b1,b2,rfl,b3,hc⟩:=h1;simp only;have h2:=XL ws f IH g z (zs++[m]) a' lv e1 (by omega) b2 (by omega) (by omega);rw[lS] at h2;cases hq:bR iC g (.orL (.pair false (fX false z zs) m)) lv e1 (ws.drop a') with
    |none=>
     rw[hq] at h2;obtain⟨j,zs',a2,l2,c1,c2,c3,hl⟩:=h2;rw[lS] at c3;simp only[Tree.size] at c3;exact⟨j+1,zs',a2,l2,by omega,c2,by omega,.step hw hc hl⟩
    |some p=>
     obtain⟨t,r,e2⟩:=p;rw[hq] at h2;obtain⟨j,zs',a2,rfl,rfl,c1,c2,c3,hl⟩:=h2;rw[lS] at c3;simp only[Tree.size] at c3;exact⟨j+1,zs',a2,rfl,rfl,by omega,c2,by omega,.step hw hc hl⟩
  ·have e:bR iC (g+1) (.orL (fX false z zs)) lv d (ws.drop a)=some (fX false z zs,ws.drop a,d):=by
    conv=>lhs;unfold bR
    rw[aD (show¬(ws.drop a).headD []=BA from hw)]
   rw[e];exact⟨0,zs,a,rfl,rfl,rL _,ha,by omega,.stop hw ha⟩
theorem y5 (b:Bool) (z:Tree) (zs:List Tree):((z::zs).flatMap (Tree.sides b)).length<=(fX b z zs).size:=by
 rw[<-wK];exact mT _
theorem a2R [MaxL] (ws:List By) (hw:ws.length<50000) (a lv d:Nat) (o:Option (Tree×List By×Nat)) (p:Option (Tree×List By×Nat)) (h1:Rr 305 ws a lv d o)
  (hn:o=none->p=none) (h2:∀t r e,o=some (t,r,e)->∀a',r=ws.drop a'->a'<=ws.length->Lw 305 nD true ws t [] a' lv e p):Rr 267 ws a lv d p:=by
 cases o with
 |none=>
  rw[hn rfl];obtain⟨t,a',l',b1,b2,b3,hc⟩:=h1;have hfl:=y5 true t [];exact⟨t,a',l',b1,b2,b3,X1 ws (by omega) a lv _ true l' a' t hc 0 ([],a',true,l') (.bad b2) (zL _) (by show((t::[]).flatMap (Tree.sides true)).length<=_;simp only[fX,List.foldl_nil] at hfl;omega)⟩
 |some q=>
  obtain⟨t,r,e⟩:=q;obtain⟨a',b1,b2,hr,b3,hc⟩:=h1;have h2:=h2 t r e rfl a' hr b2;cases p with
  |none=>
   obtain⟨j,zs',a2,l2,c1,c2,c3,hl⟩:=h2;have hfl:=y5 true t zs';have hjs:=rK true zs' t;have c4:(fX true t []).size=t.size:=rfl;exact⟨fX true t zs',a2,l2,by omega,c2,by omega,X1 ws (by omega) a lv _ false _ a' t hc j (zs',a2,true,l2) hl (by show zs'.length<=_;omega) (by show((t::zs').flatMap (Tree.sides true)).length<=_;omega)⟩
  |some p=>
   obtain⟨t',r',e'⟩:=p;obtain⟨j,zs',a2,rfl,rfl,c1,c2,c3,hl⟩:=h2;have hfl:=y5 true t zs';have hjs:=rK true zs' t;have c4:(fX true t []).size=t.size:=rfl;exact⟨a2,by omega,c2,rfl,by omega,X1 ws (by omega) a lv _ false _ a' t hc j (zs',a2,false,decide (20<e')) hl (by show zs'.length<=_;omega) (by show((t::zs').flatMap (Tree.sides true)).length<=_;omega)⟩
theorem a36 [MaxL] (ws:List By) (hw:ws.length<50000) (a lv d:Nat) (o:Option (Tree×List By×Nat)) (p:Option (Tree×List By×Nat)) (h1:Rr 267 ws a lv d o)
  (hn:o=none->p=none) (h2:∀t r e,o=some (t,r,e)->∀a',r=ws.drop a'->a'<=ws.length->Lw 267 BA false ws t [] a' lv e p):Rr 231 ws a lv d p:=by
 cases o with
 |none=>
  rw[hn rfl];obtain⟨t,a',l',b1,b2,b3,hc⟩:=h1;have hfl:=y5 false t [];exact⟨t,a',l',b1,b2,b3,a1f ws (by omega) a lv _ true l' a' t hc 0 ([],a',true,l') (.bad b2) (zL _) (by show((t::[]).flatMap (Tree.sides false)).length<=_;simp only[fX,List.foldl_nil] at hfl;omega)⟩
 |some q=>
  obtain⟨t,r,e⟩:=q;obtain⟨a',b1,b2,hr,b3,hc⟩:=h1;have h2:=h2 t r e rfl a' hr b2;cases p with
  |none=>
   obtain⟨j,zs',a2,l2,c1,c2,c3,hl⟩:=h2;have hfl:=y5 false t zs';have hjs:=rK false zs' t;have c4:(fX false t []).size=t.size:=rfl;exact⟨fX false t zs',a2,l2,by omega,c2,by omega,a1f ws (by omega) a lv _ false _ a' t hc j (zs',a2,true,l2) hl (by show zs'.length<=_;omega) (by show((t::zs').flatMap (Tree.sides false)).length<=_;omega)⟩
  |some p=>
   obtain⟨t',r',e'⟩:=p;obtain⟨j,zs',a2,rfl,rfl,c1,c2,c3,hl⟩:=h2;have hfl:=y5 false t zs';have hjs:=rK false zs' t;have c4:(fX false t []).size=t.size:=rfl;exact⟨a2,by omega,c2,rfl,by omega,a1f ws (by omega) a lv _ false _ a' t hc j (zs',a2,false,decide (20<e')) hl (by show zs'.length<=_;omega) (by show((t::zs').flatMap (Tree.sides false)).length<=_;omega)⟩
theorem a30 [MaxL] (ws:List By) (hw:ws.length<50000) (hx:∀w∈ws,w.length<1000000):∀f,TB ws f:=by
 intro f;induction f using Nat.strongRecOn with
 |ind f ih=>
 intro a lv d ha hb;cases f with
 |zero=>exact⟨fun h=>by omega,fun h=>by omega,fun h=>by omega,fun h=>by omega⟩
 |succ f=>
 have IH:∀g,g<=f->TB ws g:=fun g hg=>ih g (by omega);obtain⟨_,iand,inot,iprim⟩:=IH f (rL _) a lv d ha hb;refine⟨fun hf=>?_,fun hf=>?_,fun hf=>?_,fun hf=>?_⟩
 ·refine a36 ws hw a lv d _ _ (iand (by omega)) (fun h=>?_) (fun t r e h a' hr ha'=>?_)
  ·conv=>lhs;unfold bR
   rw[h]
  ·subst hr;have hlen:=(iV _ _ _ _ _ _ _ _ h).2.1 rfl;simp only[d6] at hlen;have e1:bR iC (f+1) .or lv d (ws.drop a)=bR iC f (.orL t) lv e (ws.drop a'):=by
    conv=>lhs;unfold bR
    rw[h]
   rw[e1];exact XL ws f IH f t [] a' lv e (rL _) ha' (by omega) (by omega)
 ·refine a2R ws hw a lv d _ _ (inot (by omega)) (fun h=>?_) (fun t r e h a' hr ha'=>?_)
  ·conv=>lhs;unfold bR
   rw[h]
  ·subst hr;have hlen:=(iV _ _ _ _ _ _ _ _ h).2.1 rfl;simp only[d6] at hlen;have e1:bR iC (f+1) .and lv d (ws.drop a)=bR iC f (.andL t) lv e (ws.drop a'):=by
    conv=>lhs;unfold bR
    rw[h]
   rw[e1];exact SB ws f IH f t [] a' lv e (rL _) ha' (by omega) (by omega)
 ·by_cases hn:l4 ws a=k9
  ·have hlt:=kJ (ws:=ws) (a:=a) (by rw[hn];decide);have h1:=(IH f (rL _) (a+1) (lv+1) (max d (lv+1)) hlt (by omega)).2.2.2 (by omega);have e:bR iC (f+1) .not lv d (ws.drop a)=(bR iC f .prim (lv+1) (max d (lv+1)) (ws.drop (a+1))).map fun p=>(.no p.1,p.2):=by
    conv=>lhs;unfold bR
    rw[aF (show(ws.drop a).headD []=k9 from hn),qU];cases bR iC f .prim (lv+1) (max d (lv+1)) (ws.drop (a+1))<;>rfl
   rw[e];exact TW ws (by omega) a lv d (by omega) hn _ h1
  ·have e:bR iC (f+1) .not lv d (ws.drop a)=bR iC f .prim lv d (ws.drop a):=by
    conv=>lhs;unfold bR
    rw[aD (show¬(ws.drop a).headD []=k9 from hn)]
   rw[e];exact WX ws (by omega) a lv d ha hn _ (iprim (by omega))
 ·have e:bR iC (f+1) .prim lv d (ws.drop a)=if l4 ws a=l5 then some (.truth true,ws.drop (a+1),d)
    else if l4 ws a=jS then some (.truth false,ws.drop (a+1),d)
    else if l4 ws a=[40] then K4 (bR iC f .or (lv+1) (max d (lv+1)) (ws.drop (a+1)))
    else match fV iC (ws.drop a) with
     |some (x,r)=>if mU (r.headD []) then(match fV iC r.tail with
       |some (y,r')=>some (.test (r.headD []) x y,r',d)
       |none=>none)
      else none
     |none=>none:=by
   conv=>lhs;unfold bR
   rw[qU];rfl
  rw[e];by_cases h1:l4 ws a=l5
  ·rw[aF h1];exact WV ws (by omega) a lv d h1
  rw[aD h1];by_cases h2:l4 ws a=jS
  ·rw[aF h2];exact WU ws (by omega) a lv d h2
  rw[aD h2];by_cases h3:l4 ws a=[40]
  ·rw[aF h3];have hlt:=kJ (ws:=ws) (a:=a) (by rw[h3];decide);exact WT ws (by omega) a lv d (by omega) h3 _ ((IH f (rL _) (a+1) (lv+1) (max d (lv+1)) hlt (by omega)).1 (by omega))
  ·rw[aD h3];exact WS ws (by omega) hx a ha lv d h3 h1 h2
theorem CT {s:By} {t:Tree} (h:mE s=.ok t):t.nice/\t.size<=1000/\s.length<=1000:=by
 unfold mE at h;split at h
 ·cases h
 ·split at h
  ·rename_i t0 r e hp;split at h
   ·split at h
    ·cases h
    ·cases h;have h1:=jQ _ _ _ _ _ _ _ _ hp;have h2:=k8 _ _ _ _ _ _ _ _ hp trivial;have h3:=tK s.length s (rL _);simp only[Md.sz] at h1;refine⟨uD h2,?_,by omega⟩;rw[qT];omega
   ·cases h
  ·cases h
def rD (s:By):GV:=match mE s with
 |.ok t=>.tup [t.gv,.i .i64 0]
 |.err e=>.tup [.o .nilIface,.i .i64 e]
theorem MI [MaxL] (s:By):Cl (rD s):=by
 unfold rD;split
 ·exact fH (.cons (Tree.cl _) (.cons (.i _ _) .nil))
 ·exact fun _=>rfl
theorem YO [MaxL] (s:By) (hs:s.length<bB):SC Tryz.prog 182 [.s s] [] (.val (rD s)) []:=by
 by_cases hl:1000<s.length
 ·have e:rD s=.tup [.o .nilIface,.i .i64 3]:=by unfold rD mE;rw[aF hl]
  rw[e];refine cY Tryz.func182 rfl ?_;conv=>whnf
  refine aE (fun h=>?_) (fun h=>?_)<;>conv=>whnf
  ·exact bE (.refl _) (fun _=>rfl)
  ·exfalso;have:=aC h;omega
 ·have hp:=a0g s (by omega);cases hr:bR cK (jM s) .or 0 0 (iG s) with
  |none=>
   rw[hr] at hp;have e:rD s=.tup [.o .nilIface,.i .i64 2]:=by unfold rD mE;rw[aD hl,hr]
   rw[e];replace hp:SC Tryz.prog 217 [.s s] [] (.val (.tup [.o .nilIface,.i .i64 0,.b false])) []:=hp;refine cY Tryz.func182 rfl ?_;(conv=>whnf);refine aE (fun h=>?_) (fun h=>?_)<;>conv=>whnf
   ·exfalso;have:=aB h;omega
   refine lM hp ?_;(conv=>whnf);exact bE (.refl _) (fun _=>rfl)
  |some p=>
   obtain⟨t,r,e⟩:=p;rw[hr] at hp;have h1:=jQ _ _ _ _ _ _ _ _ hr;have h3:=tK s.length s (rL _);simp only[Md.sz] at h1;replace hp:SC Tryz.prog 217 [.s s] [] (.val (.tup [t.gv,.i .i64 (e:Nat),.b (r.headD []==[])])) []:=hp;have hcl:Cl (.tup [t.gv,.i .i64 (e:Nat),.b (r.headD []==[])]):=fH (.cons t.cl (.cons (.i _ _) (.cons (.b _) .nil)));have hf:=HA 1000 t (by omega) (by omega);cases hb:(r.headD []==[]) with
   |false=>
    have e1:rD s=.tup [.o .nilIface,.i .i64 2]:=by unfold rD mE;rw[aD hl,hr];simp only[hb];rfl
    rw[e1];rw[hb] at hp hcl;refine cY Tryz.func182 rfl ?_;(conv=>whnf);refine aE (fun h=>?_) (fun h=>?_)<;>conv=>whnf
    ·exfalso;have:=aB h;omega
    refine bD hp (wR _) rfl (fun _=>rfl) hcl ?_;(conv=>whnf);exact bE (.refl _) (fun _=>rfl)
   |true=>
    rw[hb] at hp hcl;by_cases h20:20<e
    ·have e1:rD s=.tup [.o .nilIface,.i .i64 4]:=by unfold rD mE;rw[aD hl,hr];simp only[hb,aF h20];rfl
     rw[e1];refine cY Tryz.func182 rfl ?_;(conv=>whnf);refine aE (fun h=>?_) (fun h=>?_)<;>conv=>whnf
     ·exfalso;have:=aB h;omega
     refine bD hp (wR _) rfl (fun _=>rfl) hcl ?_;(conv=>whnf);refine aE (fun h2=>?_) (fun h2=>?_)<;>conv=>whnf
     ·exact bE (.refl _) (fun _=>rfl)
     ·exfalso;have:=aC h2;omega
    ·have e1:rD s=.tup [t.flat.gv,.i .i64 0]:=by unfold rD mE;rw[aD hl,hr];simp only[hb,aD h20];rfl
     rw[e1];refine cY Tryz.func182 rfl ?_;(conv=>whnf);refine aE (fun h=>?_) (fun h=>?_)<;>conv=>whnf
     ·exfalso;have:=aB h;omega
     refine bD hp (wR _) rfl (fun _=>rfl) hcl ?_;(conv=>whnf);refine aE (fun h2=>?_) (fun h2=>?_)<;>conv=>whnf
     ·exfalso;have:=aB h2;omega
     refine bD hf (wR _) rfl (cC t.cl .nil) t.flat.cl ?_;(conv=>whnf);exact bE (.refl _) (fH (.cons t.flat.cl (.cons (.i _ _) .nil)))
def PC (t:Tree):By×Int:=if 1000<t.flat.plain.length∨20<t.flat.deep 0 then([],4) else(t.flat.plain,0)
theorem YN [MaxL] (t:Tree) (hn:t.nice) (hz:t.size<=2100):SC Tryz.prog 183 [t.gv] [] (.val (.tup [.s (PC t).1,.i .i64 (PC t).2])) []:=by
 have hf:=HA 2100 t hz (by omega);have hnf:=uD hn;have hsz:=qT t;have hpl:=rE t.flat hnf;have hp:=EM t.flat hnf (by omega);have hd:=LM t.flat 0 (by omega);unfold PC;generalize t.flat=u at*;refine cY Tryz.func183 rfl ?_;conv=>whnf
 refine bD hf (wR _) rfl (cC t.cl .nil) u.cl ?_;conv=>whnf
 refine bD hp (wR _) rfl (cC u.cl .nil) (.s _) ?_;conv=>whnf
 refine aE (fun h1=>?_) (fun h1=>?_)<;>conv=>whnf
 ·have h1':1000<u.plain.length:=by have:=aB h1;omega
  rw[aF (.inl h1')];exact bE (.refl _) (fun _=>rfl)
 ·have h1':¬1000<u.plain.length:=by have:=aC h1;omega
  refine bD hd (wR _) rfl (cC u.cl (.cons (.i _ _) .nil)) (.i _ _) ?_;conv=>whnf
  refine aE (fun h2=>?_) (fun h2=>?_)<;>conv=>whnf
  ·have h2':20<u.deep 0:=by have:=aB h2;omega
   rw[aF (.inr h2')];exact bE (.refl _) (fun _=>rfl)
  ·have h2':¬20<u.deep 0:=by have:=aC h2;omega
   rw[aD (fun h=>h.elim h1' h2')];exact bE (.refl _) (fun _=>rfl)
def zW (s:By):By×Int:=match mE s with
 |.ok t=>PC t
 |.err e=>([],e)
theorem IC {s:By} {e:Int} (h:mE s=.err e):e=2∨e=3∨e=4:=by
 unfold mE at h;split at h
 ·cases h;omega
 ·split at h
  ·split at h
   ·split at h
    ·cases h;omega
    ·cases h
   ·cases h;omega
  ·cases h;omega
theorem a2L [MaxL] (s:By) (hs:s.length<bB):SC Tryz.prog 120 [.s s] [] (.val (.tup [.s (zW s).1,.i .i64 (zW s).2])) []:=by
 have hr:=YO s hs;have hcl:=MI s;unfold rD at hr hcl;unfold zW;cases h:mE s with
 |err e=>
  rw[h] at hr hcl;replace hr:SC Tryz.prog 182 [.s s] [] (.val (.tup [.o .nilIface,.i .i64 e])) []:=hr;have he:=IC h;refine cY Tryz.func120 rfl ?_;conv=>whnf
  refine bD hr (wR _) rfl (fun _=>rfl) hcl ?_;conv=>whnf
  refine aE (fun h0=>?_) (fun h0=>?_)<;>conv=>whnf
  ·exact bE (.refl _) (fun _=>rfl)
  ·exfalso;have:e=0:=by simpa using h0
   omega
 |ok t=>
  rw[h] at hr hcl;replace hr:SC Tryz.prog 182 [.s s] [] (.val (.tup [t.gv,.i .i64 0])) []:=hr;obtain⟨hn,hz,_⟩:=CT h;have hres:=YN t hn (by omega);refine cY Tryz.func120 rfl ?_;conv=>whnf
  refine bD hr (wR _) rfl (fun _=>rfl) hcl ?_;conv=>whnf
  refine bD hres (wR _) rfl (cC t.cl .nil) (fun _=>rfl) ?_;conv=>whnf
  exact bE (.refl _) (fun _=>rfl)
