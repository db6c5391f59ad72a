/-
  A part of the proof of SchemaChosen.
-/
import Derived.Test.YtcfgfkkhpdlhpaaGreatDoorR40
set_option linter.all false
set_option maxRecDepth 100000
namespace Go.Proofs.YtcfgfkkhpdlhpaaGreatDoor
open Go.RowKit
theorem VF [MaxL] (ws:List By) (hw:ws.length<1000000) (a lv d:Nat) (ha:a<=ws.length) (h:kU ws a≠jX) (o:Option (Tree×List By×Nat))
  (hc:Rr 322 ws a lv d o):Rr 305 ws a lv d o:=by
 have hm:ws.length<bB:=by unfold bB;omega
 have n1:=dK hm ha h lv (decide (20<d));cases o with
 |none=>
  obtain⟨t,a',l',b1,b2,b3,hc⟩:=hc;refine⟨t,a',l',b1,b2,b3,?_⟩;have hcl:=t.ng_cl;obtain⟨k,kids,A,B,op,yes,hng⟩:=iI t;rw[hng] at hc hcl⊢;refine cX Tryz.func305 rfl ?_;conv=>whnf
  refine aW (q:=0) n1 rfl (wR _) rfl rfl bO bO (fun _=>rfl) (.b _) ?_;conv=>whnf
  refine aW (q:=0) hc rfl (wR _) rfl rfl bO bO (fun _=>rfl) hcl ?_;conv=>whnf
  refine⟨_,⟨rfl,zL _,rfl,bL rfl⟩,?_⟩;conv=>whnf
  exact fW rfl (.refl _) bO hcl
 |some p=>
  obtain⟨t,r,e⟩:=p;obtain⟨a',b1,b2,rfl,b3,hc⟩:=hc;refine⟨a',b1,b2,rfl,b3,?_⟩;have hcl:=t.ng_cl;obtain⟨k,kids,A,B,op,yes,hng⟩:=iI t;rw[hng] at hc hcl⊢;refine cX Tryz.func305 rfl ?_;conv=>whnf
  refine aW (q:=0) n1 rfl (wR _) rfl rfl bO bO (fun _=>rfl) (.b _) ?_;conv=>whnf
  refine aW (q:=0) hc rfl (wR _) rfl rfl bO bO (fun _=>rfl) hcl ?_;conv=>whnf
  refine⟨_,⟨rfl,zL _,rfl,bL rfl⟩,?_⟩;conv=>whnf
  exact fW rfl (.refl _) bO hcl
theorem SK [MaxL] (ws:List By) (hw:ws.length<1000000) (a lv d:Nat) (hlv:lv<100000) (h:kU ws a=jX) (o:Option (Tree×List By×Nat))
  (hc:Rr 322 ws (a+1) (lv+1) (max d (lv+1)) o):Rr 305 ws a lv d (o.map fun p=>(.no p.1,p.2)):=by
 have hm:ws.length<bB:=by unfold bB;omega
 have ha:=kD (ws:=ws) (a:=a) (by rw[h];decide);have h1:=iL hm h (by decide) lv (decide (20<d));have h2:=a1q ws (a+1) lv (by omega) false (decide (20<d));rw[QT] at h2;have hdec:IntKind.i64.wrap (((lv+1:Nat):Int) - 1)=((lv:Nat):Int):=by rw[bU (by omega) (by omega)];omega
 cases o with
 |none=>
  obtain⟨t,a',l',b1,b2,b3,hc⟩:=hc;refine⟨.no t,a',l',by omega,b2,by simp only[Tree.size];omega,?_⟩;have hcl:Cl (Tree.no t).ng:=(Tree.no t).ng_cl;have e:(Tree.no t).ng=.agg (jU 3 [t.ng] t0 t0 [] false):=rfl;have hcl2:=t.ng_cl;obtain⟨k,kids,A,B,op,yes,hng⟩:=iI t;rw[e] at hcl⊢;rw[hng] at hc hcl hcl2⊢;refine cX Tryz.func305 rfl ?_;conv=>whnf
  refine aW (q:=0) h1 rfl (wR _) rfl rfl bO bO (fun _=>rfl) (.b _) ?_;conv=>whnf
  refine aW (q:=0) h2 rfl (wR _) rfl rfl bO bO (fun _=>rfl) (fH .nil) ?_;conv=>whnf
  refine aW (q:=0) hc rfl (wR _) rfl rfl bO bO (fun _=>rfl) hcl2 ?_;conv=>whnf
  refine⟨_,⟨rfl,zL _,rfl,bL rfl⟩,?_⟩;conv=>whnf
  refine⟨[.i .i64 (lv:Nat)],⟨(by rw[hdec];rfl),rL _,rfl,bL rfl⟩,?_⟩;conv=>whnf
  refine⟨_,⟨rfl,zL _,rfl,bL rfl⟩,?_⟩;conv=>whnf
  exact fW rfl hU bO hcl
 |some p=>
  obtain⟨t,r,e⟩:=p;obtain⟨a',b1,b2,rfl,b3,hc⟩:=hc;refine⟨a',by omega,b2,rfl,by simp only[Tree.size];omega,?_⟩;show SC _ _ _ _ (.val (Tree.no t).ng) _;have hcl:Cl (Tree.no t).ng:=(Tree.no t).ng_cl;have e:(Tree.no t).ng=.agg (jU 3 [t.ng] t0 t0 [] false):=rfl;have hcl2:=t.ng_cl;obtain⟨k,kids,A,B,op,yes,hng⟩:=iI t;rw[e] at hcl⊢;rw[hng] at hc hcl hcl2⊢;refine cX Tryz.func305 rfl ?_;conv=>whnf
  refine aW (q:=0) h1 rfl (wR _) rfl rfl bO bO (fun _=>rfl) (.b _) ?_;conv=>whnf
  refine aW (q:=0) h2 rfl (wR _) rfl rfl bO bO (fun _=>rfl) (fH .nil) ?_;conv=>whnf
  refine aW (q:=0) hc rfl (wR _) rfl rfl bO bO (fun _=>rfl) hcl2 ?_;conv=>whnf
  refine⟨_,⟨rfl,zL _,rfl,bL rfl⟩,?_⟩;conv=>whnf
  refine⟨[.i .i64 (lv:Nat)],⟨(by rw[hdec];rfl),rL _,rfl,bL rfl⟩,?_⟩;conv=>whnf
  refine⟨_,⟨rfl,zL _,rfl,bL rfl⟩,?_⟩;conv=>whnf
  exact fW rfl hU bO hcl
inductive LpR [MaxL] (ws:List By) (k:FuncId) (w:By) (lv:Nat) (z:Tree):Nat->List Tree->Nat->Bool->Bool->(List Tree×Nat×Bool×Bool)->Prop where
 |bad {zs:List Tree} {a:Nat} {gE:Bool} (ha:a<=ws.length):LpR ws k w lv z 0 zs a true gE (zs,a,true,gE)
 |stop {zs:List Tree} {a:Nat} {gE:Bool} (h:kU ws a≠w) (ha:a<=ws.length):LpR ws k w lv z 0 zs a false gE (zs,a,false,gE)
 |step {j:Nat} {zs:List Tree} {t:Tree} {a a':Nat} {gE bad' lim':Bool} {dH:List Tree×Nat×Bool×Bool} (h:kU ws a=w) (hc:SC Tryz.prog k [.ptr 0 0] [pS ws (a+1:Nat) lv false gE] (.val t.ng) [pS ws a' lv bad' lim'])
   (hr:LpR ws k w lv z j (zs++[t]) a' bad' lim' dH):LpR ws k w lv z (j+1) zs a false gE dH
theorem LpR.len [MaxL] {ws:List By} {k:FuncId} {w:By} {lv:Nat} {z:Tree} {j:Nat} {zs:List Tree} {a:Nat} {bad gE:Bool} {dH:List Tree×Nat×Bool×Bool} (h:LpR ws k w lv z j zs a bad gE dH):zs.length+j=dH.1.length:=by
 induction h with
 |bad=>rfl
 |stop=>rfl
 |step h hc hr ih=>rw[aE,aX] at ih;omega
theorem VJ [MaxL] (ws:List By) (hw:ws.length<1000000) (a lv:Nat) (gE bad1 lim1:Bool) (a1:Nat) (t:Tree) (hc:SC Tryz.prog 305 [.ptr 0 0] [pS ws a lv false gE] (.val t.ng) [pS ws a1 lv bad1 lim1])
  (j:Nat) (dH:List Tree×Nat×Bool×Bool) (hl:LpR ws 305 mZ lv t j [] a1 bad1 lim1 dH) (hlen:dH.1.length<=100000) (hsz:((t::dH.1).flatMap (Tree.sides true)).length<=1000000):
  SC Tryz.prog 267 [.ptr 0 0] [pS ws a lv false gE] (.val (fX true t dH.1).ng) [pS ws dH.2.1 lv dH.2.2.1 dH.2.2.2]:=by
 have hm:ws.length<bB:=by unfold bB;omega
 have hj:=LL true t dH.1 hlen hsz;have hjc:=(fX true t dH.1).ng_cl;have hcl:=t.ng_cl;obtain⟨k,kids,A,B,op,yes,hng⟩:=iI t;obtain⟨k2,kids2,A2,B2,op2,yes2,hng2⟩:=iI (fX true t dH.1);rw[hng2] at hj hjc⊢;clear hng2;rw[hng] at hc hcl;have hsl:GV.sl (.own 2) [.agg (jU k kids A B op yes)]=GV.sl (.own 2) (jS [t]):=by show _=GV.sl (.own 2) [t.ng];rw[hng]
 refine cX Tryz.func267 rfl ?_;conv=>whnf
 refine aW (q:=0) hc rfl (wR _) rfl rfl bO bO (fun _=>rfl) hcl ?_;conv=>whnf
 refine eS (fun q:Nat×List Tree×Nat×Bool×Bool=>LpR ws 305 mZ lv t q.1 q.2.1 q.2.2.1 q.2.2.2.1 q.2.2.2.2 dH) (fun q=>[(0,.ptr 0 0),(2,.ptr 1 0),(3,.sl (.own 2) (jS (t::q.2.1)))])
  (fun q=>⟨[pS ws q.2.2.1 lv q.2.2.2.1 q.2.2.2.2,.box 211 VV,.own (q.2.1.length+1) 14 211],0,[]⟩) (fun q=>q.1) (j,[],a1,bad1,lim1) hl ⟨rfl,rfl,hsl,trivial⟩ rfl (fun _ _=>rL _) (fun q _=>rfl) (fun q _ e he=>?_) (fun q φ0 hq=>?_)
 ·refine⟨?_,rfl,?_⟩
  ·show[(pS ws q.2.2.1 lv q.2.2.2.1 q.2.2.2.2).ren e,_,_]=_;rw[show(pS ws q.2.2.1 lv q.2.2.2.1 q.2.2.2.2).ren e=pS ws q.2.2.1 lv q.2.2.2.1 q.2.2.2.2 from eT bO e];rfl
  ·show[GV.ptr (e 0) 0,GV.ptr (e 1) 0,(GV.sl (.own 2) (jS (t::q.2.1))).ren e]=_;rw[p8 (he 2 (by simp)) (qX _),he 0 (by simp),he 1 (by simp)];rfl
 obtain⟨j,zs,a,bad,gE⟩:=q;replace hq:LpR ws 305 mZ lv t j zs a bad gE dH:=hq;have hjl:=hq.len;conv=>whnf
 cases hq with
 |bad ha=>
  have n1:=lH hm ha mZ lv gE;refine aW (q:=0) n1 rfl (wR _) rfl rfl bO bO (fun _=>rfl) (.b _) ?_;conv=>whnf
  refine bD hj (wC (.refl _) (wC (bI _ _) j6)) rfl (cC (.i _ _) (cC (bS (qX _)) .nil)) hjc ?_;conv=>whnf
  refine⟨_,⟨rfl,zL _,rfl,bL rfl⟩,?_⟩;conv=>whnf
  exact fW rfl (.refl _) bO hjc
 |stop h ha=>
  have n1:=dK hm ha h lv gE;refine aW (q:=0) n1 rfl (wR _) rfl rfl bO bO (fun _=>rfl) (.b _) ?_;conv=>whnf
  refine bD hj (wC (.refl _) (wC (bI _ _) j6)) rfl (cC (.i _ _) (cC (bS (qX _)) .nil)) hjc ?_;conv=>whnf
  refine⟨_,⟨rfl,zL _,rfl,bL rfl⟩,?_⟩;conv=>whnf
  exact fW rfl (.refl _) bO hjc
 |step h hc hr=>
  rename_i j t' a' bad' lim';have n1:=iL hm h (by decide) lv gE;have hcl':=t'.ng_cl;obtain⟨k,kids,A,B,op,yes,hng'⟩:=iI t';rw[hng'] at hc hcl';refine aW (q:=0) n1 rfl (wR _) rfl rfl bO bO (fun _=>rfl) (.b _) ?_;conv=>whnf
  refine aW (q:=0) hc rfl (wR _) rfl rfl bO bO (fun _=>rfl) hcl' ?_;conv=>whnf
  refine⟨⟨rfl,BG _,by show(jS (t::zs)).length+1<=4294967296;rw[eY,aJ];omega⟩,jS (t::(zs++[t'])),(zs++[t']).length+1,⟨(by show jS (t::zs++[t'])=jS (t::zs)++[GV.agg (jU k kids A B op yes)];rw[<-hng'];unfold jS;rw[cZ];rfl),by show _=(jS (t::zs)).length+1;rw[eY,aE];rfl⟩,?_⟩;conv=>whnf
  refine⟨⟨zL _,by first|rfl|(rw[eY];rfl)|(rw[eY];simp),by first|exact .inr ⟨rfl,rfl⟩|exact .inl ⟨rfl,rfl⟩⟩,?_⟩;conv=>whnf
  exact⟨j,Nat.lt_succ_self j,(j,zs++[t'],a',bad',lim'),hr,rfl,⟨rfl,rfl,rfl,trivial⟩,_,rfl,rfl⟩
theorem a0q [MaxL] (ws:List By) (hw:ws.length<1000000) (a lv:Nat) (gE bad1 lim1:Bool) (a1:Nat) (t:Tree) (hc:SC Tryz.prog 267 [.ptr 0 0] [pS ws a lv false gE] (.val t.ng) [pS ws a1 lv bad1 lim1])
  (j:Nat) (dH:List Tree×Nat×Bool×Bool) (hl:LpR ws 267 AU lv t j [] a1 bad1 lim1 dH) (hlen:dH.1.length<=100000) (hsz:((t::dH.1).flatMap (Tree.sides false)).length<=1000000):
  SC Tryz.prog 231 [.ptr 0 0] [pS ws a lv false gE] (.val (fX false t dH.1).ng) [pS ws dH.2.1 lv dH.2.2.1 dH.2.2.2]:=by
 have hm:ws.length<bB:=by unfold bB;omega
 have hj:=LL false t dH.1 hlen hsz;have hjc:=(fX false t dH.1).ng_cl;have hcl:=t.ng_cl;obtain⟨k,kids,A,B,op,yes,hng⟩:=iI t;obtain⟨k2,kids2,A2,B2,op2,yes2,hng2⟩:=iI (fX false t dH.1);rw[hng2] at hj hjc⊢;clear hng2;rw[hng] at hc hcl;have hsl:GV.sl (.own 2) [.agg (jU k kids A B op yes)]=GV.sl (.own 2) (jS [t]):=by show _=GV.sl (.own 2) [t.ng];rw[hng]
 refine cX Tryz.func231 rfl ?_;conv=>whnf
 refine aW (q:=0) hc rfl (wR _) rfl rfl bO bO (fun _=>rfl) hcl ?_;conv=>whnf
 refine eS (fun q:Nat×List Tree×Nat×Bool×Bool=>LpR ws 267 AU lv t q.1 q.2.1 q.2.2.1 q.2.2.2.1 q.2.2.2.2 dH) (fun q=>[(0,.ptr 0 0),(2,.ptr 1 0),(3,.sl (.own 2) (jS (t::q.2.1)))])
  (fun q=>⟨[pS ws q.2.2.1 lv q.2.2.2.1 q.2.2.2.2,.box 211 VV,.own (q.2.1.length+1) 14 211],0,[]⟩) (fun q=>q.1) (j,[],a1,bad1,lim1) hl ⟨rfl,rfl,hsl,trivial⟩ rfl (fun _ _=>rL _) (fun q _=>rfl) (fun q _ e he=>?_) (fun q φ0 hq=>?_)
 ·refine⟨?_,rfl,?_⟩
  ·show[(pS ws q.2.2.1 lv q.2.2.2.1 q.2.2.2.2).ren e,_,_]=_;rw[show(pS ws q.2.2.1 lv q.2.2.2.1 q.2.2.2.2).ren e=pS ws q.2.2.1 lv q.2.2.2.1 q.2.2.2.2 from eT bO e];rfl
  ·show[GV.ptr (e 0) 0,GV.ptr (e 1) 0,(GV.sl (.own 2) (jS (t::q.2.1))).ren e]=_;rw[p8 (he 2 (by simp)) (qX _),he 0 (by simp),he 1 (by simp)];rfl
 obtain⟨j,zs,a,bad,gE⟩:=q;replace hq:LpR ws 267 AU lv t j zs a bad gE dH:=hq;have hjl:=hq.len;conv=>whnf
 cases hq with
 |bad ha=>
  refine bD hj (wC (.refl _) (wC (bI _ _) j6)) rfl (cC (.i _ _) (cC (bS (qX _)) .nil)) hjc ?_;conv=>whnf
  refine⟨_,⟨rfl,zL _,rfl,bL rfl⟩,?_⟩;conv=>whnf
  exact fW rfl (.refl _) bO hjc
 |stop h ha=>
  have n1:=dK hm ha h lv gE;refine aW (q:=0) n1 rfl (wR _) rfl rfl bO bO (fun _=>rfl) (.b _) ?_;conv=>whnf
  refine bD hj (wC (.refl _) (wC (bI _ _) j6)) rfl (cC (.i _ _) (cC (bS (qX _)) .nil)) hjc ?_;conv=>whnf
  refine⟨_,⟨rfl,zL _,rfl,bL rfl⟩,?_⟩;conv=>whnf
  exact fW rfl (.refl _) bO hjc
 |step h hc hr=>
  rename_i j t' a' bad' lim';have n1:=iL hm h (by decide) lv gE;have hcl':=t'.ng_cl;obtain⟨k,kids,A,B,op,yes,hng'⟩:=iI t';rw[hng'] at hc hcl';refine aW (q:=0) n1 rfl (wR _) rfl rfl bO bO (fun _=>rfl) (.b _) ?_;conv=>whnf
  refine aW (q:=0) hc rfl (wR _) rfl rfl bO bO (fun _=>rfl) hcl' ?_;conv=>whnf
  refine⟨⟨rfl,BG _,by show(jS (t::zs)).length+1<=4294967296;rw[eY,aJ];omega⟩,jS (t::(zs++[t'])),(zs++[t']).length+1,⟨(by show jS (t::zs++[t'])=jS (t::zs)++[GV.agg (jU k kids A B op yes)];rw[<-hng'];unfold jS;rw[cZ];rfl),by show _=(jS (t::zs)).length+1;rw[eY,aE];rfl⟩,?_⟩;conv=>whnf
  refine⟨⟨zL _,by first|rfl|(rw[eY];rfl)|(rw[eY];simp),by first|exact .inr ⟨rfl,rfl⟩|exact .inl ⟨rfl,rfl⟩⟩,?_⟩;conv=>whnf
  exact⟨j,Nat.lt_succ_self j,(j,zs++[t'],a',bad',lim'),hr,rfl,⟨rfl,rfl,rfl,trivial⟩,_,rfl,rfl⟩
theorem qZ (a:Bool):∀(zs:List Tree) (z:Tree),zs.length<=(fX a z zs).size/\z.size<=(fX a z zs).size
 |[],z=>⟨zL _,rL _⟩
 |y::zs,z=>by
  have:=joinL_len a zs (.pair a z y);have h2:=qZ a zs (.pair a z y);show(y::zs).length<=(fX a (.pair a z y) zs).size/\z.size<=(fX a (.pair a z y) zs).size;simp only[Tree.size] at h2 this;rw[aJ];omega
where
 joinL_len (a:Bool):∀(zs:List Tree) (z:Tree),z.size+zs.length<=(fX a z zs).size
 |[],z=>rL _
 |y::zs,z=>by
  have:=joinL_len a zs (.pair a z y);show z.size+(y::zs).length<=(fX a (.pair a z y) zs).size;simp only[Tree.size] at this;rw[aJ];omega
theorem lK (a:Bool) (z:Tree) (zs:List Tree) (m:Tree):fX a z (zs++[m])=.pair a (fX a z zs) m:=by
 unfold fX;rw[List.foldl_append];rfl
def RW [MaxL] (ws:List By) (f:Nat):Prop:=∀a lv d,a<=ws.length->lv+(ws.length - a)<=50000->
 (10*(ws.length - a)+4<f->Rr 231 ws a lv d (bP iA f .or lv d (ws.drop a)))/\
 (10*(ws.length - a)+3<f->Rr 267 ws a lv d (bP iA f .and lv d (ws.drop a)))/\
 (10*(ws.length - a)+2<f->Rr 305 ws a lv d (bP iA f .not lv d (ws.drop a)))/\
 (10*(ws.length - a)+1<f->Rr 322 ws a lv d (bP iA f .prim lv d (ws.drop a)))
def Lw [MaxL] (k:FuncId) (w:By) (b:Bool) (ws:List By) (z:Tree) (zs:List Tree) (a lv d:Nat) (o:Option (Tree×List By×Nat)):Prop:=match o with
 |some (t,r,e)=>∃j zs' a',t=fX b z zs'/\r=ws.drop a'/\a<=a'/\a'<=ws.length/\(fX b z zs').size<=(fX b z zs).size+(a' - a)/\LpR ws k w lv z j zs a false (decide (20<d)) (zs',a',false,decide (20<e))
 |none=>∃j zs' a' l',a<=a'/\a'<=ws.length/\(fX b z zs').size<=(fX b z zs).size+(a' - a)+1/\LpR ws k w lv z j zs a false (decide (20<d)) (zs',a',true,l')
theorem QR [MaxL] (ws:List By) (f:Nat) (IH:∀g,g<=f->RW ws g):∀(g:Nat) (z:Tree) (zs:List Tree) (a lv d:Nat),g<=f->a<=ws.length->lv+(ws.length - a)<=50000->10*(ws.length - a)<g->
  Lw 305 mZ true ws z zs a lv d (bP iA g (.andL (fX true z zs)) lv d (ws.drop a))
 |0,z,zs,a,lv,d,_,_,_,h=>by omega
 |g+1,z,zs,a,lv,d,hg,ha,hb,hf=>by
  by_cases hw:kU ws a=mZ
  ·have hlt:=kD (ws:=ws) (a:=a) (by rw[hw];decide);have e:bP iA (g+1) (.andL (fX true z zs)) lv d (ws.drop a)=match bP iA g .not lv d (ws.drop (a+1)) with
     |some (m,r,e)=>bP iA g (.andL (.pair true (fX true z zs) m)) lv e r
     |none=>none:=by
    conv=>lhs;unfold bP
    rw[aG (show(ws.drop a).headD []=mZ from hw),qH];rfl
   rw[e];have h1:=(IH g (by omega) (a+1) lv d hlt (by omega)).2.2.1 (by omega);cases hp:bP iA g .not lv d (ws.drop (a+1)) with
   |none=>
    rw[hp] at h1;obtain⟨t,a',l',b1,b2,b3,hc⟩:=h1;refine⟨1,zs++[t],a',l',by omega,b2,by rw[lK];simp only[Tree.size];omega,.step hw hc (.bad b2)⟩
   |some p=>
    obtain⟨m,r,e1⟩:=p;rw[hp] at h1;obtain⟨a',b1,b2,rfl,b3,hc⟩:=h1;simp only;have h2:=QR ws f IH g z (zs++[m]) a' lv e1 (by omega) b2 (by omega) (by omega);rw[lK] at h2;cases hq:bP iA g (.andL (.pair true (fX true z zs) m)) lv e1 (ws.drop a') with
    |none=>
     rw[hq] at h2;obtain⟨j,zs',a2,l2,c1,c2,c3,hl⟩:=h2;rw[lK] at c3;simp only[Tree.size] at c3;exact⟨j+1,zs',a2,l2,by omega,c2,by omega,.step hw hc hl⟩
    |some p=>
     obtain⟨t,r,e2⟩:=p;rw[hq] at h2;obtain⟨j,zs',a2,rfl,rfl,c1,c2,c3,hl⟩:=h2;rw[lK] at c3;simp only[Tree.size] at c3;exact⟨j+1,zs',a2,rfl,rfl,by omega,c2,by omega,.step hw hc hl⟩
  ·have e:bP iA (g+1) (.andL (fX true z zs)) lv d (ws.drop a)=some (fX true z zs,ws.drop a,d):=by
    conv=>lhs;unfold bP
    rw[aD (show¬(ws.drop a).headD []=mZ from hw)]
   rw[e];exact⟨0,zs,a,rfl,rfl,rL _,ha,by omega,.stop hw ha⟩
theorem W5 [MaxL] (ws:List By) (f:Nat) (IH:∀g,g<=f->RW ws g):∀(g:Nat) (z:Tree) (zs:List Tree) (a lv d:Nat),g<=f->a<=ws.length->lv+(ws.length - a)<=50000->10*(ws.length - a)<g->
  Lw 267 AU false ws z zs a lv d (bP iA g (.orL (fX false z zs)) lv d (ws.drop a))
 |0,z,zs,a,lv,d,_,_,_,h=>by omega
 |g+1,z,zs,a,lv,d,hg,ha,hb,hf=>by
  by_cases hw:kU ws a=AU
  ·have hlt:=kD (ws:=ws) (a:=a) (by rw[hw];decide);have e:bP iA (g+1) (.orL (fX false z zs)) lv d (ws.drop a)=match bP iA g .and lv d (ws.drop (a+1)) with
     |some (m,r,e)=>bP iA g (.orL (.pair false (fX false z zs) m)) lv e r
     |none=>none:=by
    conv=>lhs;unfold bP
    rw[aG (show(ws.drop a).headD []=AU from hw),qH];rfl
   rw[e];have h1:=(IH g (by omega) (a+1) lv d hlt (by omega)).2.1 (by omega);cases hp:bP iA g .and lv d (ws.drop (a+1)) with
   |none=>
    rw[hp] at h1;obtain⟨t,a',l',b1,b2,b3,hc⟩:=h1;refine⟨1,zs++[t],a',l',by omega,b2,by rw[lK];simp only[Tree.size];omega,.step hw hc (.bad b2)⟩
   |some p=>
    obtain⟨m,r,e1⟩:=p;rw[hp] at h1;obtain⟨a',b1,b2,rfl,b3,hc⟩:=h1;simp only;have h2:=W5 ws f IH g z (zs++[m]) a' lv e1 (by omega) b2 (by omega) (by omega);rw[lK] at h2;cases hq:bP iA g (.orL (.pair false (fX false z zs) m)) lv e1 (ws.drop a') with
    |none=>
     rw[hq] at h2;obtain⟨j,zs',a2,l2,c1,c2,c3,hl⟩:=h2;rw[lK] at c3;simp only[Tree.size] at c3;exact⟨j+1,zs',a2,l2,by omega,c2,by omega,.step hw hc hl⟩
    |some p=>
     obtain⟨t,r,e2⟩:=p;rw[hq] at h2;obtain⟨j,zs',a2,rfl,rfl,c1,c2,c3,hl⟩:=h2;rw[lK] at c3;simp only[Tree.size] at c3;exact⟨j+1,zs',a2,rfl,rfl,by omega,c2,by omega,.step hw hc hl⟩
  ·have e:bP iA (g+1) (.orL (fX false z zs)) lv d (ws.drop a)=some (fX false z zs,ws.drop a,d):=by
    conv=>lhs;unfold bP
    rw[aD (show¬(ws.drop a).headD []=AU from hw)]
   rw[e];exact⟨0,zs,a,rfl,rfl,rL _,ha,by omega,.stop hw ha⟩
theorem xG (b:Bool) (z:Tree) (zs:List Tree):((z::zs).flatMap (Tree.sides b)).length<=(fX b z zs).size:=by
 rw[<-vW];exact mJ _
theorem a1b [MaxL] (ws:List By) (hw:ws.length<50000) (a lv d:Nat) (o:Option (Tree×List By×Nat)) (p:Option (Tree×List By×Nat)) (h1:Rr 305 ws a lv d o)
  (hn:o=none->p=none) (h2:∀t r e,o=some (t,r,e)->∀a',r=ws.drop a'->a'<=ws.length->Lw 305 mZ true ws t [] a' lv e p):Rr 267 ws a lv d p:=by
 cases o with
 |none=>
  rw[hn rfl];obtain⟨t,a',l',b1,b2,b3,hc⟩:=h1;have hfl:=xG true t [];exact⟨t,a',l',b1,b2,b3,VJ ws (by omega) a lv _ true l' a' t hc 0 ([],a',true,l') (.bad b2) (zL _) (by show((t::[]).flatMap (Tree.sides true)).length<=_;simp only[fX,List.foldl_nil] at hfl;omega)⟩
 |some q=>
  obtain⟨t,r,e⟩:=q;obtain⟨a',b1,b2,hr,b3,hc⟩:=h1;have h2:=h2 t r e rfl a' hr b2;cases p with
  |none=>
   obtain⟨j,zs',a2,l2,c1,c2,c3,hl⟩:=h2;have hfl:=xG true t zs';have hjs:=qZ true zs' t;have c4:(fX true t []).size=t.size:=rfl;exact⟨fX true t zs',a2,l2,by omega,c2,by omega,VJ ws (by omega) a lv _ false _ a' t hc j (zs',a2,true,l2) hl (by show zs'.length<=_;omega) (by show((t::zs').flatMap (Tree.sides true)).length<=_;omega)⟩
  |some p=>
   obtain⟨t',r',e'⟩:=p;obtain⟨j,zs',a2,rfl,rfl,c1,c2,c3,hl⟩:=h2;have hfl:=xG true t zs';have hjs:=qZ true zs' t;have c4:(fX true t []).size=t.size:=rfl;exact⟨a2,by omega,c2,rfl,by omega,VJ ws (by omega) a lv _ false _ a' t hc j (zs',a2,false,decide (20<e')) hl (by show zs'.length<=_;omega) (by show((t::zs').flatMap (Tree.sides true)).length<=_;omega)⟩
theorem a2I [MaxL] (ws:List By) (hw:ws.length<50000) (a lv d:Nat) (o:Option (Tree×List By×Nat)) (p:Option (Tree×List By×Nat)) (h1:Rr 267 ws a lv d o)
  (hn:o=none->p=none) (h2:∀t r e,o=some (t,r,e)->∀a',r=ws.drop a'->a'<=ws.length->Lw 267 AU false ws t [] a' lv e p):Rr 231 ws a lv d p:=by
 cases o with
 |none=>
  rw[hn rfl];obtain⟨t,a',l',b1,b2,b3,hc⟩:=h1;have hfl:=xG false t [];exact⟨t,a',l',b1,b2,b3,a0q ws (by omega) a lv _ true l' a' t hc 0 ([],a',true,l') (.bad b2) (zL _) (by show((t::[]).flatMap (Tree.sides false)).length<=_;simp only[fX,List.foldl_nil] at hfl;omega)⟩
 |some q=>
  obtain⟨t,r,e⟩:=q;obtain⟨a',b1,b2,hr,b3,hc⟩:=h1;have h2:=h2 t r e rfl a' hr b2;cases p with
  |none=>
   obtain⟨j,zs',a2,l2,c1,c2,c3,hl⟩:=h2;have hfl:=xG false t zs';have hjs:=qZ false zs' t;have c4:(fX false t []).size=t.size:=rfl;exact⟨fX false t zs',a2,l2,by omega,c2,by omega,a0q ws (by omega) a lv _ false _ a' t hc j (zs',a2,true,l2) hl (by show zs'.length<=_;omega) (by show((t::zs').flatMap (Tree.sides false)).length<=_;omega)⟩
  |some p=>
   obtain⟨t',r',e'⟩:=p;obtain⟨j,zs',a2,rfl,rfl,c1,c2,c3,hl⟩:=h2;have hfl:=xG false t zs';have hjs:=qZ false zs' t;have c4:(fX false t []).size=t.size:=rfl;exact⟨a2,by omega,c2,rfl,by omega,a0q ws (by omega) a lv _ false _ a' t hc j (zs',a2,false,decide (20<e')) hl (by show zs'.length<=_;omega) (by show((t::zs').flatMap (Tree.sides false)).length<=_;omega)⟩
theorem a2D [MaxL] (ws:List By) (hw:ws.length<50000) (hx:∀w∈ws,w.length<1000000):∀f,RW ws f:=by
 intro f;induction f using Nat.strongRecOn with
 |ind f ih=>
 intro a lv d ha hb;cases f with
 |zero=>exact⟨fun h=>by omega,fun h=>by omega,fun h=>by omega,fun h=>by omega⟩
 |succ f=>
 have IH:∀g,g<=f->RW ws g:=fun g hg=>ih g (by omega);obtain⟨_,iand,inot,iprim⟩:=IH f (rL _) a lv d ha hb;refine⟨fun hf=>?_,fun hf=>?_,fun hf=>?_,fun hf=>?_⟩
 ·refine a2I ws hw a lv d _ _ (iand (by omega)) (fun h=>?_) (fun t r e h a' hr ha'=>?_)
  ·conv=>lhs;unfold bP
   rw[h]
  ·subst hr;have hlen:=(iU _ _ _ _ _ _ _ _ h).2.1 rfl;simp only[cV] at hlen;have e1:bP iA (f+1) .or lv d (ws.drop a)=bP iA f (.orL t) lv e (ws.drop a'):=by
    conv=>lhs;unfold bP
    rw[h]
   rw[e1];exact W5 ws f IH f t [] a' lv e (rL _) ha' (by omega) (by omega)
 ·refine a1b ws hw a lv d _ _ (inot (by omega)) (fun h=>?_) (fun t r e h a' hr ha'=>?_)
  ·conv=>lhs;unfold bP
   rw[h]
  ·subst hr;have hlen:=(iU _ _ _ _ _ _ _ _ h).2.1 rfl;simp only[cV] at hlen;have e1:bP iA (f+1) .and lv d (ws.drop a)=bP iA f (.andL t) lv e (ws.drop a'):=by
    conv=>lhs;unfold bP
    rw[h]
   rw[e1];exact QR ws f IH f t [] a' lv e (rL _) ha' (by omega) (by omega)
 ·by_cases hn:kU ws a=jX
  ·have hlt:=kD (ws:=ws) (a:=a) (by rw[hn];decide);have h1:=(IH f (rL _) (a+1) (lv+1) (max d (lv+1)) hlt (by omega)).2.2.2 (by omega);have e:bP iA (f+1) .not lv d (ws.drop a)=(bP iA f .prim (lv+1) (max d (lv+1)) (ws.drop (a+1))).map fun p=>(.no p.1,p.2):=by
    conv=>lhs;unfold bP
    rw[aG (show(ws.drop a).headD []=jX from hn),qH];cases bP iA f .prim (lv+1) (max d (lv+1)) (ws.drop (a+1))<;>rfl
   rw[e];exact SK ws (by omega) a lv d (by omega) hn _ h1
  ·have e:bP iA (f+1) .not lv d (ws.drop a)=bP iA f .prim lv d (ws.drop a):=by
    conv=>lhs;unfold bP
    rw[aD (show¬(ws.drop a).headD []=jX from hn)]
   rw[e];exact VF ws (by omega) a lv d ha hn _ (iprim (by omega))
 ·have e:bP iA (f+1) .prim lv d (ws.drop a)=if kU ws a=kV then some (.truth true,ws.drop (a+1),d)
    else if kU ws a=jN then some (.truth false,ws.drop (a+1),d)
    else if kU ws a=[40] then JC (bP iA f .or (lv+1) (max d (lv+1)) (ws.drop (a+1)))
    else match fV iA (ws.drop a) with
     |some (x,r)=>if mL (r.headD []) then(match fV iA r.tail with
       |some (y,r')=>some (.test (r.headD []) x y,r',d)
       |none=>none)
      else none
     |none=>none:=by
   conv=>lhs;unfold bP
   rw[qH];rfl
  rw[e];by_cases h1:kU ws a=kV
  ·rw[aG h1];exact VD ws (by omega) a lv d h1
  rw[aD h1];by_cases h2:kU ws a=jN
  ·rw[aG h2];exact VC ws (by omega) a lv d h2
  rw[aD h2];by_cases h3:kU ws a=[40]
  ·rw[aG h3];have hlt:=kD (ws:=ws) (a:=a) (by rw[h3];decide);exact VB ws (by omega) a lv d (by omega) h3 _ ((IH f (rL _) (a+1) (lv+1) (max d (lv+1)) hlt (by omega)).1 (by omega))
  ·rw[aD h3];exact VA ws (by omega) hx a ha lv d h3 h1 h2
theorem CB {s:By} {t:Tree} (h:m5 s=.ok t):t.nice/\t.size<=1000/\s.length<=1000:=by
 unfold m5 at h;split at h
 ·cases h
 ·split at h
  ·rename_i t0 r e hp;split at h
   ·split at h
    ·cases h
    ·cases h;have h1:=jL _ _ _ _ _ _ _ _ hp;have h2:=jW _ _ _ _ _ _ _ _ hp trivial;have h3:=sQ s.length s (rL _);simp only[Md.sz] at h1;refine⟨tS h2,?_,by omega⟩;rw[pZ];omega
   ·cases h
  ·cases h
def qS (s:By):GV:=match m5 s with
 |.ok t=>.tup [t.gv,.i .i64 0]
 |.err e=>.tup [.o .nilIface,.i .i64 e]
theorem LJ [MaxL] (s:By):Cl (qS s):=by
 unfold qS;split
 ·exact fH (.cons (Tree.cl _) (.cons (.i _ _) .nil))
 ·exact fun _=>rfl
theorem X9 [MaxL] (s:By) (hs:s.length<bB):SC Tryz.prog 182 [.s s] [] (.val (qS s)) []:=by
 by_cases hl:1000<s.length
 ·have e:qS s=.tup [.o .nilIface,.i .i64 3]:=by unfold qS m5;rw[aG hl]
  rw[e];refine cX Tryz.func182 rfl ?_;conv=>whnf
  refine aF (fun h=>?_) (fun h=>?_)<;>conv=>whnf
  ·exact bC (.refl _) (fun _=>rfl)
  ·exfalso;have:=aC h;omega
 ·have hp:=ZT s (by omega);cases hr:bP cI (jH s) .or 0 0 (iE s) with
  |none=>
   rw[hr] at hp;have e:qS s=.tup [.o .nilIface,.i .i64 2]:=by unfold qS m5;rw[aD hl,hr]
   rw[e];replace hp:SC Tryz.prog 217 [.s s] [] (.val (.tup [.o .nilIface,.i .i64 0,.b false])) []:=hp;refine cX Tryz.func182 rfl ?_;(conv=>whnf);refine aF (fun h=>?_) (fun h=>?_)<;>conv=>whnf
   ·exfalso;have:=aB h;omega
   refine lX hp ?_;(conv=>whnf);exact bC (.refl _) (fun _=>rfl)
  |some p=>
   obtain⟨t,r,e⟩:=p;rw[hr] at hp;have h1:=jL _ _ _ _ _ _ _ _ hr;have h3:=sQ s.length s (rL _);simp only[Md.sz] at h1;replace hp:SC Tryz.prog 217 [.s s] [] (.val (.tup [t.gv,.i .i64 (e:Nat),.b (r.headD []==[])])) []:=hp;have hcl:Cl (.tup [t.gv,.i .i64 (e:Nat),.b (r.headD []==[])]):=fH (.cons t.cl (.cons (.i _ _) (.cons (.b _) .nil)));have hf:=GN 1000 t (by omega) (by omega);cases hb:(r.headD []==[]) with
   |false=>
    have e1:qS s=.tup [.o .nilIface,.i .i64 2]:=by unfold qS m5;rw[aD hl,hr];simp only[hb];rfl
    rw[e1];rw[hb] at hp hcl;refine cX Tryz.func182 rfl ?_;(conv=>whnf);refine aF (fun h=>?_) (fun h=>?_)<;>conv=>whnf
    ·exfalso;have:=aB h;omega
    refine bD hp (wR _) rfl (fun _=>rfl) hcl ?_;(conv=>whnf);exact bC (.refl _) (fun _=>rfl)
   |true=>
    rw[hb] at hp hcl;by_cases h20:20<e
    ·have e1:qS s=.tup [.o .nilIface,.i .i64 4]:=by unfold qS m5;rw[aD hl,hr];simp only[hb,aG h20];rfl
     rw[e1];refine cX Tryz.func182 rfl ?_;(conv=>whnf);refine aF (fun h=>?_) (fun h=>?_)<;>conv=>whnf
     ·exfalso;have:=aB h;omega
     refine bD hp (wR _) rfl (fun _=>rfl) hcl ?_;(conv=>whnf);refine aF (fun h2=>?_) (fun h2=>?_)<;>conv=>whnf
     ·exact bC (.refl _) (fun _=>rfl)
     ·exfalso;have:=aC h2;omega
    ·have e1:qS s=.tup [t.flat.gv,.i .i64 0]:=by unfold qS m5;rw[aD hl,hr];simp only[hb,aD h20];rfl
     rw[e1];refine cX Tryz.func182 rfl ?_;(conv=>whnf);refine aF (fun h=>?_) (fun h=>?_)<;>conv=>whnf
     ·exfalso;have:=aB h;omega
     refine bD hp (wR _) rfl (fun _=>rfl) hcl ?_;(conv=>whnf);refine aF (fun h2=>?_) (fun h2=>?_)<;>conv=>whnf
     ·exfalso;have:=aB h2;omega
     refine bD hf (wR _) rfl (cC t.cl .nil) t.flat.cl ?_;(conv=>whnf);exact bC (.refl _) (fH (.cons t.flat.cl (.cons (.i _ _) .nil)))
def O7 (t:Tree):By×Int:=if 1000<t.flat.plain.length∨20<t.flat.deep 0 then([],4) else(t.flat.plain,0)
theorem X8 [MaxL] (t:Tree) (hn:t.nice) (hz:t.size<=2100):SC Tryz.prog 183 [t.gv] [] (.val (.tup [.s (O7 t).1,.i .i64 (O7 t).2])) []:=by
 have hf:=GN 2100 t hz (by omega);have hnf:=tS hn;have hsz:=pZ t;have hpl:=qT t.flat hnf;have hp:=E5 t.flat hnf (by omega);have hd:=KR t.flat 0 (by omega);unfold O7;generalize t.flat=u at*;refine cX Tryz.func183 rfl ?_;conv=>whnf
 refine bD hf (wR _) rfl (cC t.cl .nil) u.cl ?_;conv=>whnf
 refine bD hp (wR _) rfl (cC u.cl .nil) (.s _) ?_;conv=>whnf
 refine aF (fun h1=>?_) (fun h1=>?_)<;>conv=>whnf
 ·have h1':1000<u.plain.length:=by have:=aB h1;omega
  rw[aG (.inl h1')];exact bC (.refl _) (fun _=>rfl)
 ·have h1':¬1000<u.plain.length:=by have:=aC h1;omega
  refine bD hd (wR _) rfl (cC u.cl (.cons (.i _ _) .nil)) (.i _ _) ?_;conv=>whnf
  refine aF (fun h2=>?_) (fun h2=>?_)<;>conv=>whnf
  ·have h2':20<u.deep 0:=by have:=aB h2;omega
   rw[aG (.inr h2')];exact bC (.refl _) (fun _=>rfl)
  ·have h2':¬20<u.deep 0:=by have:=aC h2;omega
   rw[aD (fun h=>h.elim h1' h2')];exact bC (.refl _) (fun _=>rfl)
def zB (s:By):By×Int:=match m5 s with
 |.ok t=>O7 t
 |.err e=>([],e)
theorem HP {s:By} {e:Int} (h:m5 s=.err e):e=2∨e=3∨e=4:=by
 unfold m5 at h;split at h
 ·cases h;omega
 ·split at h
  ·split at h
   ·split at h
    ·cases h;omega
    ·cases h
   ·cases h;omega
  ·cases h;omega
theorem a1U [MaxL] (s:By) (hs:s.length<bB):SC Tryz.prog 120 [.s s] [] (.val (.tup [.s (zB s).1,.i .i64 (zB s).2])) []:=by
 have hr:=X9 s hs;have hcl:=LJ s;unfold qS at hr hcl;unfold zB;cases h:m5 s with
 |err e=>
  rw[h] at hr hcl;replace hr:SC Tryz.prog 182 [.s s] [] (.val (.tup [.o .nilIface,.i .i64 e])) []:=hr;have he:=HP h;refine cX Tryz.func120 rfl ?_;conv=>whnf
  refine bD hr (wR _) rfl (fun _=>rfl) hcl ?_;conv=>whnf
  refine aF (fun h0=>?_) (fun h0=>?_)<;>conv=>whnf
  ·exact bC (.refl _) (fun _=>rfl)
  ·exfalso;have:e=0:=by simpa using h0
   omega
 |ok t=>
  rw[h] at hr hcl;replace hr:SC Tryz.prog 182 [.s s] [] (.val (.tup [t.gv,.i .i64 0])) []:=hr;obtain⟨hn,hz,_⟩:=CB h;have hres:=X8 t hn (by omega);refine cX Tryz.func120 rfl ?_;conv=>whnf
  refine bD hr (wR _) rfl (fun _=>rfl) hcl ?_;conv=>whnf
  refine bD hres (wR _) rfl (cC t.cl .nil) (fun _=>rfl) ?_;conv=>whnf
  exact bC (.refl _) (fun _=>rfl)
