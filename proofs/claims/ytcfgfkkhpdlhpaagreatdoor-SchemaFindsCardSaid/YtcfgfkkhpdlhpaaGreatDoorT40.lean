/-
  A part of the proof of SchemaFinds.
-/
import Derived.Test.YtcfgfkkhpdlhpaaGreatDoorT39
set_option linter.all false
set_option maxRecDepth 100000
namespace Go.Proofs.YtcfgfkkhpdlhpaaGreatDoor
open Go.RowKit
theorem WI [MaxL] (ws:List By) (hw:ws.length<1000000) (a lv d:Nat) (ha:a<=ws.length) (h:l7 ws a≠kC) (o:Option (Tree×List By×Nat))
  (hc:Rr 322 ws a lv d o):Rr 305 ws a lv d o:=by
 have hm:ws.length<bH:=by unfold bH;omega
 have n1:=dL hm ha h lv (decide (20<d));cases o with
 |none=>
  obtain⟨t,a',l',b1,b2,b3,hc⟩:=hc;refine⟨t,a',l',b1,b2,b3,?_⟩;have hcl:=t.ng_cl;obtain⟨k,kids,A,B,op,yes,hng⟩:=iW t;rw[hng] at hc hcl⊢;refine cZ Tryz.func305 rfl ?_;conv=>whnf
  refine aW (q:=0) n1 rfl (wR _) rfl rfl bO bO (fun _=>rfl) (.b _) ?_;conv=>whnf
  refine aW (q:=0) hc rfl (wR _) rfl rfl bO bO (fun _=>rfl) hcl ?_;conv=>whnf
  refine⟨_,⟨rfl,zL _,rfl,bL rfl⟩,?_⟩;conv=>whnf
  exact gC rfl (.refl _) bO hcl
 |some p=>
  obtain⟨t,r,e⟩:=p;obtain⟨a',b1,b2,rfl,b3,hc⟩:=hc;refine⟨a',b1,b2,rfl,b3,?_⟩;have hcl:=t.ng_cl;obtain⟨k,kids,A,B,op,yes,hng⟩:=iW t;rw[hng] at hc hcl⊢;refine cZ Tryz.func305 rfl ?_;conv=>whnf
  refine aW (q:=0) n1 rfl (wR _) rfl rfl bO bO (fun _=>rfl) (.b _) ?_;conv=>whnf
  refine aW (q:=0) hc rfl (wR _) rfl rfl bO bO (fun _=>rfl) hcl ?_;conv=>whnf
  refine⟨_,⟨rfl,zL _,rfl,bL rfl⟩,?_⟩;conv=>whnf
  exact gC rfl (.refl _) bO hcl
theorem TH [MaxL] (ws:List By) (hw:ws.length<1000000) (a lv d:Nat) (hlv:lv<100000) (h:l7 ws a=kC) (o:Option (Tree×List By×Nat))
  (hc:Rr 322 ws (a+1) (lv+1) (max d (lv+1)) o):Rr 305 ws a lv d (o.map fun p=>(.no p.1,p.2)):=by
 have hm:ws.length<bH:=by unfold bH;omega
 have ha:=kL (ws:=ws) (a:=a) (by rw[h];decide);have h1:=iZ hm h (by decide) lv (decide (20<d));have h2:=a2a ws (a+1) lv (by omega) false (decide (20<d));rw[RW] at h2;have hdec:IntKind.i64.wrap (((lv+1:Nat):Int) - 1)=((lv:Nat):Int):=by rw[cD (by omega) (by omega)];omega
 cases o with
 |none=>
  obtain⟨t,a',l',b1,b2,b3,hc⟩:=hc;refine⟨.no t,a',l',by omega,b2,by simp only[Tree.size];omega,?_⟩;have hcl:Cl (Tree.no t).ng:=(Tree.no t).ng_cl;have e:(Tree.no t).ng=.agg (k9 3 [t.ng] t0 t0 [] false):=rfl;have hcl2:=t.ng_cl;obtain⟨k,kids,A,B,op,yes,hng⟩:=iW t;rw[e] at hcl⊢;rw[hng] at hc hcl hcl2⊢;refine cZ Tryz.func305 rfl ?_;conv=>whnf
  refine aW (q:=0) h1 rfl (wR _) rfl rfl bO bO (fun _=>rfl) (.b _) ?_;conv=>whnf
  refine aW (q:=0) h2 rfl (wR _) rfl rfl bO bO (fun _=>rfl) (fJ .nil) ?_;conv=>whnf
  refine aW (q:=0) hc rfl (wR _) rfl rfl bO bO (fun _=>rfl) hcl2 ?_;conv=>whnf
  refine⟨_,⟨rfl,zL _,rfl,bL rfl⟩,?_⟩;conv=>whnf
  refine⟨[.i .i64 (lv:Nat)],⟨(by rw[hdec];rfl),rL _,rfl,bL rfl⟩,?_⟩;conv=>whnf
  refine⟨_,⟨rfl,zL _,rfl,bL rfl⟩,?_⟩;conv=>whnf
  exact gC rfl iB bO hcl
 |some p=>
  obtain⟨t,r,e⟩:=p;obtain⟨a',b1,b2,rfl,b3,hc⟩:=hc;refine⟨a',by omega,b2,rfl,by simp only[Tree.size];omega,?_⟩;show SC _ _ _ _ (.val (Tree.no t).ng) _;have hcl:Cl (Tree.no t).ng:=(Tree.no t).ng_cl;have e:(Tree.no t).ng=.agg (k9 3 [t.ng] t0 t0 [] false):=rfl;have hcl2:=t.ng_cl;obtain⟨k,kids,A,B,op,yes,hng⟩:=iW t;rw[e] at hcl⊢;rw[hng] at hc hcl hcl2⊢;refine cZ Tryz.func305 rfl ?_;conv=>whnf
  refine aW (q:=0) h1 rfl (wR _) rfl rfl bO bO (fun _=>rfl) (.b _) ?_;conv=>whnf
  refine aW (q:=0) h2 rfl (wR _) rfl rfl bO bO (fun _=>rfl) (fJ .nil) ?_;conv=>whnf
  refine aW (q:=0) hc rfl (wR _) rfl rfl bO bO (fun _=>rfl) hcl2 ?_;conv=>whnf
  refine⟨_,⟨rfl,zL _,rfl,bL rfl⟩,?_⟩;conv=>whnf
  refine⟨[.i .i64 (lv:Nat)],⟨(by rw[hdec];rfl),rL _,rfl,bL rfl⟩,?_⟩;conv=>whnf
  refine⟨_,⟨rfl,zL _,rfl,bL rfl⟩,?_⟩;conv=>whnf
  exact gC rfl iB bO hcl
inductive LpR [MaxL] (ws:List By) (k:FuncId) (w:By) (lv:Nat) (z:Tree):Nat->List Tree->Nat->Bool->Bool->(List Tree×Nat×Bool×Bool)->Prop where
 |bad {zs:List Tree} {a:Nat} {gG:Bool} (ha:a<=ws.length):LpR ws k w lv z 0 zs a true gG (zs,a,true,gG)
 |stop {zs:List Tree} {a:Nat} {gG:Bool} (h:l7 ws a≠w) (ha:a<=ws.length):LpR ws k w lv z 0 zs a false gG (zs,a,false,gG)
 |step {j:Nat} {zs:List Tree} {t:Tree} {a a':Nat} {gG bad' lim':Bool} {d6:List Tree×Nat×Bool×Bool} (h:l7 ws a=w) (hc:SC Tryz.prog k [.ptr 0 0] [qH ws (a+1:Nat) lv false gG] (.val t.ng) [qH ws a' lv bad' lim'])
   (hr:LpR ws k w lv z j (zs++[t]) a' bad' lim' d6):LpR ws k w lv z (j+1) zs a false gG d6
theorem LpR.len [MaxL] {ws:List By} {k:FuncId} {w:By} {lv:Nat} {z:Tree} {j:Nat} {zs:List Tree} {a:Nat} {bad gG:Bool} {d6:List Tree×Nat×Bool×Bool} (h:LpR ws k w lv z j zs a bad gG d6):zs.length+j=d6.1.length:=by
 induction h with
 |bad=>rfl
 |stop=>rfl
 |step h hc hr ih=>rw[aD,aV] at ih;omega
theorem WM [MaxL] (ws:List By) (hw:ws.length<1000000) (a lv:Nat) (gG bad1 lim1:Bool) (a1:Nat) (t:Tree) (hc:SC Tryz.prog 305 [.ptr 0 0] [qH ws a lv false gG] (.val t.ng) [qH ws a1 lv bad1 lim1])
  (j:Nat) (d6:List Tree×Nat×Bool×Bool) (hl:LpR ws 305 nC lv t j [] a1 bad1 lim1 d6) (hlen:d6.1.length<=100000) (hsz:((t::d6.1).flatMap (Tree.sides true)).length<=1000000):
  SC Tryz.prog 267 [.ptr 0 0] [qH ws a lv false gG] (.val (gD true t d6.1).ng) [qH ws d6.2.1 lv d6.2.2.1 d6.2.2.2]:=by
 have hm:ws.length<bH:=by unfold bH;omega
 have hj:=M9 true t d6.1 hlen hsz;have hjc:=(gD true t d6.1).ng_cl;have hcl:=t.ng_cl;obtain⟨k,kids,A,B,op,yes,hng⟩:=iW t;obtain⟨k2,kids2,A2,B2,op2,yes2,hng2⟩:=iW (gD true t d6.1);rw[hng2] at hj hjc⊢;clear hng2;rw[hng] at hc hcl;have hsl:GV.sl (.own 2) [.agg (k9 k kids A B op yes)]=GV.sl (.own 2) (k8 [t]):=by show _=GV.sl (.own 2) [t.ng];rw[hng]
 refine cZ Tryz.func267 rfl ?_;conv=>whnf
 refine aW (q:=0) hc rfl (wR _) rfl rfl bO bO (fun _=>rfl) hcl ?_;conv=>whnf
 refine fI (fun q:Nat×List Tree×Nat×Bool×Bool=>LpR ws 305 nC lv t q.1 q.2.1 q.2.2.1 q.2.2.2.1 q.2.2.2.2 d6) (fun q=>[(0,.ptr 0 0),(2,.ptr 1 0),(3,.sl (.own 2) (k8 (t::q.2.1)))])
  (fun q=>⟨[qH ws q.2.2.1 lv q.2.2.2.1 q.2.2.2.2,.box 211 WV,.own (q.2.1.length+1) 14 211],0,[]⟩) (fun q=>q.1) (j,[],a1,bad1,lim1) hl ⟨rfl,rfl,hsl,trivial⟩ rfl (fun _ _=>rL _) (fun q _=>rfl) (fun q _ e he=>?_) (fun q φ0 hq=>?_)
 ·refine⟨?_,rfl,?_⟩
  ·show[(qH ws q.2.2.1 lv q.2.2.2.1 q.2.2.2.2).ren e,_,_]=_;rw[show(qH ws q.2.2.1 lv q.2.2.2.1 q.2.2.2.2).ren e=qH ws q.2.2.1 lv q.2.2.2.1 q.2.2.2.2 from eM bO e];rfl
  ·show[GV.ptr (e 0) 0,GV.ptr (e 1) 0,(GV.sl (.own 2) (k8 (t::q.2.1))).ren e]=_;rw[pP (he 2 (by simp)) (r7 _),he 0 (by simp),he 1 (by simp)];rfl
 obtain⟨j,zs,a,bad,gG⟩:=q;replace hq:LpR ws 305 nC lv t j zs a bad gG d6:=hq;have hjl:=hq.len;conv=>whnf
 cases hq with
 |bad ha=>
  have n1:=lT hm ha nC lv gG;refine aW (q:=0) n1 rfl (wR _) rfl rfl bO bO (fun _=>rfl) (.b _) ?_;conv=>whnf
  refine bG hj (wC (.refl _) (wC (bE _ _) jL)) rfl (cC (.i _ _) (cC (bV (r7 _)) .nil)) hjc ?_;conv=>whnf
  refine⟨_,⟨rfl,zL _,rfl,bL rfl⟩,?_⟩;conv=>whnf
  exact gC rfl (.refl _) bO hjc
 |stop h ha=>
  have n1:=dL hm ha h lv gG;refine aW (q:=0) n1 rfl (wR _) rfl rfl bO bO (fun _=>rfl) (.b _) ?_;conv=>whnf
  refine bG hj (wC (.refl _) (wC (bE _ _) jL)) rfl (cC (.i _ _) (cC (bV (r7 _)) .nil)) hjc ?_;conv=>whnf
  refine⟨_,⟨rfl,zL _,rfl,bL rfl⟩,?_⟩;conv=>whnf
  exact gC rfl (.refl _) bO hjc
 |step h hc hr=>
  rename_i j t' a' bad' lim';have n1:=iZ hm h (by decide) lv gG;have hcl':=t'.ng_cl;obtain⟨k,kids,A,B,op,yes,hng'⟩:=iW t';rw[hng'] at hc hcl';refine aW (q:=0) n1 rfl (wR _) rfl rfl bO bO (fun _=>rfl) (.b _) ?_;conv=>whnf
  refine aW (q:=0) hc rfl (wR _) rfl rfl bO bO (fun _=>rfl) hcl' ?_;conv=>whnf
  refine⟨⟨rfl,BK _,by show(k8 (t::zs)).length+1<=4294967296;rw[eX,aJ];omega⟩,k8 (t::(zs++[t'])),(zs++[t']).length+1,⟨(by show k8 (t::zs++[t'])=k8 (t::zs)++[GV.agg (k9 k kids A B op yes)];rw[<-hng'];unfold k8;rw[cO];rfl),by show _=(k8 (t::zs)).length+1;rw[eX,aD];rfl⟩,?_⟩;conv=>whnf
  refine⟨⟨zL _,by first|rfl|(rw[eX];rfl)|(rw[eX];simp),by first|exact .inr ⟨rfl,rfl⟩|exact .inl ⟨rfl,rfl⟩⟩,?_⟩;conv=>whnf
  exact⟨j,Nat.lt_succ_self j,(j,zs++[t'],a',bad',lim'),hr,rfl,⟨rfl,rfl,rfl,trivial⟩,_,rfl,rfl⟩
theorem a1a [MaxL] (ws:List By) (hw:ws.length<1000000) (a lv:Nat) (gG bad1 lim1:Bool) (a1:Nat) (t:Tree) (hc:SC Tryz.prog 267 [.ptr 0 0] [qH ws a lv false gG] (.val t.ng) [qH ws a1 lv bad1 lim1])
  (j:Nat) (d6:List Tree×Nat×Bool×Bool) (hl:LpR ws 267 AY lv t j [] a1 bad1 lim1 d6) (hlen:d6.1.length<=100000) (hsz:((t::d6.1).flatMap (Tree.sides false)).length<=1000000):
  SC Tryz.prog 231 [.ptr 0 0] [qH ws a lv false gG] (.val (gD false t d6.1).ng) [qH ws d6.2.1 lv d6.2.2.1 d6.2.2.2]:=by
 have hm:ws.length<bH:=by unfold bH;omega
 have hj:=M9 false t d6.1 hlen hsz;have hjc:=(gD false t d6.1).ng_cl;have hcl:=t.ng_cl;obtain⟨k,kids,A,B,op,yes,hng⟩:=iW t;obtain⟨k2,kids2,A2,B2,op2,yes2,hng2⟩:=iW (gD false t d6.1);rw[hng2] at hj hjc⊢;clear hng2;rw[hng] at hc hcl;have hsl:GV.sl (.own 2) [.agg (k9 k kids A B op yes)]=GV.sl (.own 2) (k8 [t]):=by show _=GV.sl (.own 2) [t.ng];rw[hng]
 refine cZ Tryz.func231 rfl ?_;conv=>whnf
 refine aW (q:=0) hc rfl (wR _) rfl rfl bO bO (fun _=>rfl) hcl ?_;conv=>whnf
 refine fI (fun q:Nat×List Tree×Nat×Bool×Bool=>LpR ws 267 AY lv t q.1 q.2.1 q.2.2.1 q.2.2.2.1 q.2.2.2.2 d6) (fun q=>[(0,.ptr 0 0),(2,.ptr 1 0),(3,.sl (.own 2) (k8 (t::q.2.1)))])
  (fun q=>⟨[qH ws q.2.2.1 lv q.2.2.2.1 q.2.2.2.2,.box 211 WV,.own (q.2.1.length+1) 14 211],0,[]⟩) (fun q=>q.1) (j,[],a1,bad1,lim1) hl ⟨rfl,rfl,hsl,trivial⟩ rfl (fun _ _=>rL _) (fun q _=>rfl) (fun q _ e he=>?_) (fun q φ0 hq=>?_)
 ·refine⟨?_,rfl,?_⟩
  ·show[(qH ws q.2.2.1 lv q.2.2.2.1 q.2.2.2.2).ren e,_,_]=_;rw[show(qH ws q.2.2.1 lv q.2.2.2.1 q.2.2.2.2).ren e=qH ws q.2.2.1 lv q.2.2.2.1 q.2.2.2.2 from eM bO e];rfl
  ·show[GV.ptr (e 0) 0,GV.ptr (e 1) 0,(GV.sl (.own 2) (k8 (t::q.2.1))).ren e]=_;rw[pP (he 2 (by simp)) (r7 _),he 0 (by simp),he 1 (by simp)];rfl
 obtain⟨j,zs,a,bad,gG⟩:=q;replace hq:LpR ws 267 AY lv t j zs a bad gG d6:=hq;have hjl:=hq.len;conv=>whnf
 cases hq with
 |bad ha=>
  refine bG hj (wC (.refl _) (wC (bE _ _) jL)) rfl (cC (.i _ _) (cC (bV (r7 _)) .nil)) hjc ?_;conv=>whnf
  refine⟨_,⟨rfl,zL _,rfl,bL rfl⟩,?_⟩;conv=>whnf
  exact gC rfl (.refl _) bO hjc
 |stop h ha=>
  have n1:=dL hm ha h lv gG;refine aW (q:=0) n1 rfl (wR _) rfl rfl bO bO (fun _=>rfl) (.b _) ?_;conv=>whnf
  refine bG hj (wC (.refl _) (wC (bE _ _) jL)) rfl (cC (.i _ _) (cC (bV (r7 _)) .nil)) hjc ?_;conv=>whnf
  refine⟨_,⟨rfl,zL _,rfl,bL rfl⟩,?_⟩;conv=>whnf
  exact gC rfl (.refl _) bO hjc
 |step h hc hr=>
  rename_i j t' a' bad' lim';have n1:=iZ hm h (by decide) lv gG;have hcl':=t'.ng_cl;obtain⟨k,kids,A,B,op,yes,hng'⟩:=iW t';rw[hng'] at hc hcl';refine aW (q:=0) n1 rfl (wR _) rfl rfl bO bO (fun _=>rfl) (.b _) ?_;conv=>whnf
  refine aW (q:=0) hc rfl (wR _) rfl rfl bO bO (fun _=>rfl) hcl' ?_;conv=>whnf
  refine⟨⟨rfl,BK _,by show(k8 (t::zs)).length+1<=4294967296;rw[eX,aJ];omega⟩,k8 (t::(zs++[t'])),(zs++[t']).length+1,⟨(by show k8 (t::zs++[t'])=k8 (t::zs)++[GV.agg (k9 k kids A B op yes)];rw[<-hng'];unfold k8;rw[cO];rfl),by show _=(k8 (t::zs)).length+1;rw[eX,aD];rfl⟩,?_⟩;conv=>whnf
  refine⟨⟨zL _,by first|rfl|(rw[eX];rfl)|(rw[eX];simp),by first|exact .inr ⟨rfl,rfl⟩|exact .inl ⟨rfl,rfl⟩⟩,?_⟩;conv=>whnf
  exact⟨j,Nat.lt_succ_self j,(j,zs++[t'],a',bad',lim'),hr,rfl,⟨rfl,rfl,rfl,trivial⟩,_,rfl,rfl⟩
theorem rA (a:Bool):∀(zs:List Tree) (z:Tree),zs.length<=(gD a z zs).size/\z.size<=(gD a z zs).size
 |[],z=>⟨zL _,rL _⟩
 |y::zs,z=>by
  have:=joinL_len a zs (.pair a z y);have h2:=rA a zs (.pair a z y);show(y::zs).length<=(gD a (.pair a z y) zs).size/\z.size<=(gD a (.pair a z y) zs).size;simp only[Tree.size] at h2 this;rw[aJ];omega
where
 joinL_len (a:Bool):∀(zs:List Tree) (z:Tree),z.size+zs.length<=(gD a z zs).size
 |[],z=>rL _
 |y::zs,z=>by
  have:=joinL_len a zs (.pair a z y);show z.size+(y::zs).length<=(gD a (.pair a z y) zs).size;simp only[Tree.size] at this;rw[aJ];omega
theorem lW (a:Bool) (z:Tree) (zs:List Tree) (m:Tree):gD a z (zs++[m])=.pair a (gD a z zs) m:=by
 unfold gD;rw[List.foldl_append];rfl
def SV [MaxL] (ws:List By) (f:Nat):Prop:=∀a lv d,a<=ws.length->lv+(ws.length - a)<=50000->
 (10*(ws.length - a)+4<f->Rr 231 ws a lv d (bP iJ f .or lv d (ws.drop a)))/\
 (10*(ws.length - a)+3<f->Rr 267 ws a lv d (bP iJ f .and lv d (ws.drop a)))/\
 (10*(ws.length - a)+2<f->Rr 305 ws a lv d (bP iJ f .not lv d (ws.drop a)))/\
 (10*(ws.length - a)+1<f->Rr 322 ws a lv d (bP iJ f .prim lv d (ws.drop a)))
def Lw [MaxL] (k:FuncId) (w:By) (b:Bool) (ws:List By) (z:Tree) (zs:List Tree) (a lv d:Nat) (o:Option (Tree×List By×Nat)):Prop:=match o with
 |some (t,r,e)=>∃j zs' a',t=gD b z zs'/\r=ws.drop a'/\a<=a'/\a'<=ws.length/\(gD b z zs').size<=(gD b z zs).size+(a' - a)/\LpR ws k w lv z j zs a false (decide (20<d)) (zs',a',false,decide (20<e))
 |none=>∃j zs' a' l',a<=a'/\a'<=ws.length/\(gD b z zs').size<=(gD b z zs).size+(a' - a)+1/\LpR ws k w lv z j zs a false (decide (20<d)) (zs',a',true,l')
theorem RU [MaxL] (ws:List By) (f:Nat) (IH:∀g,g<=f->SV ws g):∀(g:Nat) (z:Tree) (zs:List Tree) (a lv d:Nat),g<=f->a<=ws.length->lv+(ws.length - a)<=50000->10*(ws.length - a)<g->
  Lw 305 nC true ws z zs a lv d (bP iJ g (.andL (gD true z zs)) lv d (ws.drop a))
 |0,z,zs,a,lv,d,_,_,_,h=>by omega
 |g+1,z,zs,a,lv,d,hg,ha,hb,hf=>by
  by_cases hw:l7 ws a=nC
  ·have hlt:=kL (ws:=ws) (a:=a) (by rw[hw];decide);have e:bP iJ (g+1) (.andL (gD true z zs)) lv d (ws.drop a)=match bP iJ g .not lv d (ws.drop (a+1)) with
     |some (m,r,e)=>bP iJ g (.andL (.pair true (gD true z zs) m)) lv e r
     |none=>none:=by
    conv=>lhs;unfold bP
    rw[aG (show(ws.drop a).headD []=nC from hw),qO];rfl
   rw[e];have h1:=(IH g (by omega) (a+1) lv d hlt (by omega)).2.2.1 (by omega);cases hp:bP iJ g .not lv d (ws.drop (a+1)) with
   |none=>
    rw[hp] at h1;obtain⟨t,a',l',b1,b2,b3,hc⟩:=h1;refine⟨1,zs++[t],a',l',by omega,b2,by rw[lW];simp only[Tree.size];omega,.step hw hc (.bad b2)⟩
   |some p=>
    obtain⟨m,r,e1⟩:=p;rw[hp] at h1;obtain⟨a',b1,b2,rfl,b3,hc⟩:=h1;simp only;have h2:=RU ws f IH g z (zs++[m]) a' lv e1 (by omega) b2 (by omega) (by omega);rw[lW] at h2;cases hq:bP iJ g (.andL (.pair true (gD true z zs) m)) lv e1 (ws.drop a') with
    |none=>
     rw[hq] at h2;obtain⟨j,zs',a2,l2,c1,c2,c3,hl⟩:=h2;rw[lW] at c3;simp only[Tree.size] at c3;exact⟨j+1,zs',a2,l2,by omega,c2,by omega,.step hw hc hl⟩
    |some p=>
     obtain⟨t,r,e2⟩:=p;rw[hq] at h2;obtain⟨j,zs',a2,rfl,rfl,c1,c2,c3,hl⟩:=h2;rw[lW] at c3;simp only[Tree.size] at c3;exact⟨j+1,zs',a2,rfl,rfl,by omega,c2,by omega,.step hw hc hl⟩
  ·have e:bP iJ (g+1) (.andL (gD true z zs)) lv d (ws.drop a)=some (gD true z zs,ws.drop a,d):=by
    conv=>lhs;unfold bP
    rw[aE (show¬(ws.drop a).headD []=nC from hw)]
   rw[e];exact⟨0,zs,a,rfl,rfl,rL _,ha,by omega,.stop hw ha⟩
theorem X4 [MaxL] (ws:List By) (f:Nat) (IH:∀g,g<=f->SV ws g):∀(g:Nat) (z:Tree) (zs:List Tree) (a lv d:Nat),g<=f->a<=ws.length->lv+(ws.length - a)<=50000->10*(ws.length - a)<g->
  Lw 267 AY false ws z zs a lv d (bP iJ g (.orL (gD false z zs)) lv d (ws.drop a))
 |0,z,zs,a,lv,d,_,_,_,h=>by omega
 |g+1,z,zs,a,lv,d,hg,ha,hb,hf=>by
  by_cases hw:l7 ws a=AY
  ·have hlt:=kL (ws:=ws) (a:=a) (by rw[hw];decide);have e:bP iJ (g+1) (.orL (gD false z zs)) lv d (ws.drop a)=match bP iJ g .and lv d (ws.drop (a+1)) with
     |some (m,r,e)=>bP iJ g (.orL (.pair false (gD false z zs) m)) lv e r
     |none=>none:=by
    conv=>lhs;unfold bP
    rw[aG (show(ws.drop a).headD []=AY from hw),qO];rfl
   rw[e];have h1:=(IH g (by omega) (a+1) lv d hlt (by omega)).2.1 (by omega);cases hp:bP iJ g .and lv d (ws.drop (a+1)) with
   |none=>
    rw[hp] at h1;obtain⟨t,a',l',b1,b2,b3,hc⟩:=h1;refine⟨1,zs++[t],a',l',by omega,b2,by rw[lW];simp only[Tree.size];omega,.step hw hc (.bad b2)⟩
   |some p=>
    obtain⟨m,r,e1⟩:=p;rw[hp] at h1;obtain⟨a',b1,b2,rfl,b3,hc⟩:=h1;simp only;have h2:=X4 ws f IH g z (zs++[m]) a' lv e1 (by omega) b2 (by omega) (by omega);rw[lW] at h2;cases hq:bP iJ g (.orL (.pair false (gD false z zs) m)) lv e1 (ws.drop a') with
    |none=>
     rw[hq] at h2;obtain⟨j,zs',a2,l2,c1,c2,c3,hl⟩:=h2;rw[lW] at c3;simp only[Tree.size] at c3;exact⟨j+1,zs',a2,l2,by omega,c2,by omega,.step hw hc hl⟩
    |some p=>
     obtain⟨t,r,e2⟩:=p;rw[hq] at h2;obtain⟨j,zs',a2,rfl,rfl,c1,c2,c3,hl⟩:=h2;rw[lW] at c3;simp only[Tree.size] at c3;exact⟨j+1,zs',a2,rfl,rfl,by omega,c2,by omega,.step hw hc hl⟩
  ·have e:bP iJ (g+1) (.orL (gD false z zs)) lv d (ws.drop a)=some (gD false z zs,ws.drop a,d):=by
    conv=>lhs;unfold bP
    rw[aE (show¬(ws.drop a).headD []=AY from hw)]
   rw[e];exact⟨0,zs,a,rfl,rfl,rL _,ha,by omega,.stop hw ha⟩
theorem xT (b:Bool) (z:Tree) (zs:List Tree):((z::zs).flatMap (Tree.sides b)).length<=(gD b z zs).size:=by
 rw[<-wH];exact mT _
theorem a2K [MaxL] (ws:List By) (hw:ws.length<50000) (a lv d:Nat) (o:Option (Tree×List By×Nat)) (p:Option (Tree×List By×Nat)) (h1:Rr 305 ws a lv d o)
  (hn:o=none->p=none) (h2:∀t r e,o=some (t,r,e)->∀a',r=ws.drop a'->a'<=ws.length->Lw 305 nC true ws t [] a' lv e p):Rr 267 ws a lv d p:=by
 cases o with
 |none=>
  rw[hn rfl];obtain⟨t,a',l',b1,b2,b3,hc⟩:=h1;have hfl:=xT true t [];exact⟨t,a',l',b1,b2,b3,WM ws (by omega) a lv _ true l' a' t hc 0 ([],a',true,l') (.bad b2) (zL _) (by show((t::[]).flatMap (Tree.sides true)).length<=_;simp only[gD,List.foldl_nil] at hfl;omega)⟩
 |some q=>
  obtain⟨t,r,e⟩:=q;obtain⟨a',b1,b2,hr,b3,hc⟩:=h1;have h2:=h2 t r e rfl a' hr b2;cases p with
  |none=>
   obtain⟨j,zs',a2,l2,c1,c2,c3,hl⟩:=h2;have hfl:=xT true t zs';have hjs:=rA true zs' t;have c4:(gD true t []).size=t.size:=rfl;exact⟨gD true t zs',a2,l2,by omega,c2,by omega,WM ws (by omega) a lv _ false _ a' t hc j (zs',a2,true,l2) hl (by show zs'.length<=_;omega) (by show((t::zs').flatMap (Tree.sides true)).length<=_;omega)⟩
  |some p=>
   obtain⟨t',r',e'⟩:=p;obtain⟨j,zs',a2,rfl,rfl,c1,c2,c3,hl⟩:=h2;have hfl:=xT true t zs';have hjs:=rA true zs' t;have c4:(gD true t []).size=t.size:=rfl;exact⟨a2,by omega,c2,rfl,by omega,WM ws (by omega) a lv _ false _ a' t hc j (zs',a2,false,decide (20<e')) hl (by show zs'.length<=_;omega) (by show((t::zs').flatMap (Tree.sides true)).length<=_;omega)⟩
theorem a2z [MaxL] (ws:List By) (hw:ws.length<50000) (a lv d:Nat) (o:Option (Tree×List By×Nat)) (p:Option (Tree×List By×Nat)) (h1:Rr 267 ws a lv d o)
  (hn:o=none->p=none) (h2:∀t r e,o=some (t,r,e)->∀a',r=ws.drop a'->a'<=ws.length->Lw 267 AY false ws t [] a' lv e p):Rr 231 ws a lv d p:=by
 cases o with
 |none=>
  rw[hn rfl];obtain⟨t,a',l',b1,b2,b3,hc⟩:=h1;have hfl:=xT false t [];exact⟨t,a',l',b1,b2,b3,a1a ws (by omega) a lv _ true l' a' t hc 0 ([],a',true,l') (.bad b2) (zL _) (by show((t::[]).flatMap (Tree.sides false)).length<=_;simp only[gD,List.foldl_nil] at hfl;omega)⟩
 |some q=>
  obtain⟨t,r,e⟩:=q;obtain⟨a',b1,b2,hr,b3,hc⟩:=h1;have h2:=h2 t r e rfl a' hr b2;cases p with
  |none=>
   obtain⟨j,zs',a2,l2,c1,c2,c3,hl⟩:=h2;have hfl:=xT false t zs';have hjs:=rA false zs' t;have c4:(gD false t []).size=t.size:=rfl;exact⟨gD false t zs',a2,l2,by omega,c2,by omega,a1a ws (by omega) a lv _ false _ a' t hc j (zs',a2,true,l2) hl (by show zs'.length<=_;omega) (by show((t::zs').flatMap (Tree.sides false)).length<=_;omega)⟩
  |some p=>
   obtain⟨t',r',e'⟩:=p;obtain⟨j,zs',a2,rfl,rfl,c1,c2,c3,hl⟩:=h2;have hfl:=xT false t zs';have hjs:=rA false zs' t;have c4:(gD false t []).size=t.size:=rfl;exact⟨a2,by omega,c2,rfl,by omega,a1a ws (by omega) a lv _ false _ a' t hc j (zs',a2,false,decide (20<e')) hl (by show zs'.length<=_;omega) (by show((t::zs').flatMap (Tree.sides false)).length<=_;omega)⟩
theorem a2t [MaxL] (ws:List By) (hw:ws.length<50000) (hx:∀w∈ws,w.length<1000000):∀f,SV ws f:=by
 intro f;induction f using Nat.strongRecOn with
 |ind f ih=>
 intro a lv d ha hb;cases f with
 |zero=>exact⟨fun h=>by omega,fun h=>by omega,fun h=>by omega,fun h=>by omega⟩
 |succ f=>
 have IH:∀g,g<=f->SV ws g:=fun g hg=>ih g (by omega);obtain⟨_,iand,inot,iprim⟩:=IH f (rL _) a lv d ha hb;refine⟨fun hf=>?_,fun hf=>?_,fun hf=>?_,fun hf=>?_⟩
 ·refine a2z ws hw a lv d _ _ (iand (by omega)) (fun h=>?_) (fun t r e h a' hr ha'=>?_)
  ·conv=>lhs;unfold bP
   rw[h]
  ·subst hr;have hlen:=(j3 _ _ _ _ _ _ _ _ h).2.1 rfl;simp only[dW] at hlen;have e1:bP iJ (f+1) .or lv d (ws.drop a)=bP iJ f (.orL t) lv e (ws.drop a'):=by
    conv=>lhs;unfold bP
    rw[h]
   rw[e1];exact X4 ws f IH f t [] a' lv e (rL _) ha' (by omega) (by omega)
 ·refine a2K ws hw a lv d _ _ (inot (by omega)) (fun h=>?_) (fun t r e h a' hr ha'=>?_)
  ·conv=>lhs;unfold bP
   rw[h]
  ·subst hr;have hlen:=(j3 _ _ _ _ _ _ _ _ h).2.1 rfl;simp only[dW] at hlen;have e1:bP iJ (f+1) .and lv d (ws.drop a)=bP iJ f (.andL t) lv e (ws.drop a'):=by
    conv=>lhs;unfold bP
    rw[h]
   rw[e1];exact RU ws f IH f t [] a' lv e (rL _) ha' (by omega) (by omega)
 ·by_cases hn:l7 ws a=kC
  ·have hlt:=kL (ws:=ws) (a:=a) (by rw[hn];decide);have h1:=(IH f (rL _) (a+1) (lv+1) (max d (lv+1)) hlt (by omega)).2.2.2 (by omega);have e:bP iJ (f+1) .not lv d (ws.drop a)=(bP iJ f .prim (lv+1) (max d (lv+1)) (ws.drop (a+1))).map fun p=>(.no p.1,p.2):=by
    conv=>lhs;unfold bP
    rw[aG (show(ws.drop a).headD []=kC from hn),qO];cases bP iJ f .prim (lv+1) (max d (lv+1)) (ws.drop (a+1))<;>rfl
   rw[e];exact TH ws (by omega) a lv d (by omega) hn _ h1
  ·have e:bP iJ (f+1) .not lv d (ws.drop a)=bP iJ f .prim lv d (ws.drop a):=by
    conv=>lhs;unfold bP
    rw[aE (show¬(ws.drop a).headD []=kC from hn)]
   rw[e];exact WI ws (by omega) a lv d ha hn _ (iprim (by omega))
 ·have e:bP iJ (f+1) .prim lv d (ws.drop a)=if l7 ws a=l8 then some (.truth true,ws.drop (a+1),d)
    else if l7 ws a=jU then some (.truth false,ws.drop (a+1),d)
    else if l7 ws a=[40] then JS (bP iJ f .or (lv+1) (max d (lv+1)) (ws.drop (a+1)))
    else match gB iJ (ws.drop a) with
     |some (x,r)=>if mU (r.headD []) then(match gB iJ r.tail with
       |some (y,r')=>some (.test (r.headD []) x y,r',d)
       |none=>none)
      else none
     |none=>none:=by
   conv=>lhs;unfold bP
   rw[qO];rfl
  rw[e];by_cases h1:l7 ws a=l8
  ·rw[aG h1];exact WH ws (by omega) a lv d h1
  rw[aE h1];by_cases h2:l7 ws a=jU
  ·rw[aG h2];exact WG ws (by omega) a lv d h2
  rw[aE h2];by_cases h3:l7 ws a=[40]
  ·rw[aG h3];have hlt:=kL (ws:=ws) (a:=a) (by rw[h3];decide);exact WF ws (by omega) a lv d (by omega) h3 _ ((IH f (rL _) (a+1) (lv+1) (max d (lv+1)) hlt (by omega)).1 (by omega))
  ·rw[aE h3];exact WE ws (by omega) hx a ha lv d h3 h1 h2
theorem CI {s:By} {t:Tree} (h:mF s=.ok t):t.nice/\t.size<=1000/\s.length<=1000:=by
 unfold mF at h;split at h
 ·cases h
 ·split at h
  ·rename_i t0 r e hp;split at h
   ·split at h
    ·cases h
    ·cases h;have h1:=jR _ _ _ _ _ _ _ _ hp;have h2:=kB _ _ _ _ _ _ _ _ hp trivial;have h3:=sZ s.length s (rL _);simp only[Md.sz] at h1;refine⟨u7 h2,?_,by omega⟩;rw[qN];omega
   ·cases h
  ·cases h
def qX (s:By):GV:=match mF s with
 |.ok t=>.tup [t.gv,.i .i64 0]
 |.err e=>.tup [.o .nilIface,.i .i64 e]
theorem M7 [MaxL] (s:By):Cl (qX s):=by
 unfold qX;split
 ·exact fJ (.cons (Tree.cl _) (.cons (.i _ _) .nil))
 ·exact fun _=>rfl
theorem Y6 [MaxL] (s:By) (hs:s.length<bH):SC Tryz.prog 182 [.s s] [] (.val (qX s)) []:=by
 by_cases hl:1000<s.length
 ·have e:qX s=.tup [.o .nilIface,.i .i64 3]:=by unfold qX mF;rw[aG hl]
  rw[e];refine cZ Tryz.func182 rfl ?_;conv=>whnf
  refine aF (fun h=>?_) (fun h=>?_)<;>conv=>whnf
  ·exact bA (.refl _) (fun _=>rfl)
  ·exfalso;have:=aB h;omega
 ·have hp:=a0R s (by omega);cases hr:bP cL (jY s) .or 0 0 (iO s) with
  |none=>
   rw[hr] at hp;have e:qX s=.tup [.o .nilIface,.i .i64 2]:=by unfold qX mF;rw[aE hl,hr]
   rw[e];replace hp:SC Tryz.prog 217 [.s s] [] (.val (.tup [.o .nilIface,.i .i64 0,.b false])) []:=hp;refine cZ Tryz.func182 rfl ?_;(conv=>whnf);refine aF (fun h=>?_) (fun h=>?_)<;>conv=>whnf
   ·exfalso;have:=aA h;omega
   refine nH hp ?_;(conv=>whnf);exact bA (.refl _) (fun _=>rfl)
  |some p=>
   obtain⟨t,r,e⟩:=p;rw[hr] at hp;have h1:=jR _ _ _ _ _ _ _ _ hr;have h3:=sZ s.length s (rL _);simp only[Md.sz] at h1;replace hp:SC Tryz.prog 217 [.s s] [] (.val (.tup [t.gv,.i .i64 (e:Nat),.b (r.headD []==[])])) []:=hp;have hcl:Cl (.tup [t.gv,.i .i64 (e:Nat),.b (r.headD []==[])]):=fJ (.cons t.cl (.cons (.i _ _) (.cons (.b _) .nil)));have hf:=H0 1000 t (by omega) (by omega);cases hb:(r.headD []==[]) with
   |false=>
    have e1:qX s=.tup [.o .nilIface,.i .i64 2]:=by unfold qX mF;rw[aE hl,hr];simp only[hb];rfl
    rw[e1];rw[hb] at hp hcl;refine cZ Tryz.func182 rfl ?_;(conv=>whnf);refine aF (fun h=>?_) (fun h=>?_)<;>conv=>whnf
    ·exfalso;have:=aA h;omega
    refine bG hp (wR _) rfl (fun _=>rfl) hcl ?_;(conv=>whnf);exact bA (.refl _) (fun _=>rfl)
   |true=>
    rw[hb] at hp hcl;by_cases h20:20<e
    ·have e1:qX s=.tup [.o .nilIface,.i .i64 4]:=by unfold qX mF;rw[aE hl,hr];simp only[hb,aG h20];rfl
     rw[e1];refine cZ Tryz.func182 rfl ?_;(conv=>whnf);refine aF (fun h=>?_) (fun h=>?_)<;>conv=>whnf
     ·exfalso;have:=aA h;omega
     refine bG hp (wR _) rfl (fun _=>rfl) hcl ?_;(conv=>whnf);refine aF (fun h2=>?_) (fun h2=>?_)<;>conv=>whnf
     ·exact bA (.refl _) (fun _=>rfl)
     ·exfalso;have:=aB h2;omega
    ·have e1:qX s=.tup [t.flat.gv,.i .i64 0]:=by unfold qX mF;rw[aE hl,hr];simp only[hb,aE h20];rfl
     rw[e1];refine cZ Tryz.func182 rfl ?_;(conv=>whnf);refine aF (fun h=>?_) (fun h=>?_)<;>conv=>whnf
     ·exfalso;have:=aA h;omega
     refine bG hp (wR _) rfl (fun _=>rfl) hcl ?_;(conv=>whnf);refine aF (fun h2=>?_) (fun h2=>?_)<;>conv=>whnf
     ·exfalso;have:=aA h2;omega
     refine bG hf (wR _) rfl (cC t.cl .nil) t.flat.cl ?_;(conv=>whnf);exact bA (.refl _) (fJ (.cons t.flat.cl (.cons (.i _ _) .nil)))
def OW (t:Tree):By×Int:=if 1000<t.flat.plain.length∨20<t.flat.deep 0 then([],4) else(t.flat.plain,0)
theorem Y5 [MaxL] (t:Tree) (hn:t.nice) (hz:t.size<=2100):SC Tryz.prog 183 [t.gv] [] (.val (.tup [.s (OW t).1,.i .i64 (OW t).2])) []:=by
 have hf:=H0 2100 t hz (by omega);have hnf:=u7 hn;have hsz:=qN t;have hpl:=qY t.flat hnf;have hp:=EA t.flat hnf (by omega);have hd:=LF t.flat 0 (by omega);unfold OW;generalize t.flat=u at*;refine cZ Tryz.func183 rfl ?_;conv=>whnf
 refine bG hf (wR _) rfl (cC t.cl .nil) u.cl ?_;conv=>whnf
 refine bG hp (wR _) rfl (cC u.cl .nil) (.s _) ?_;conv=>whnf
 refine aF (fun h1=>?_) (fun h1=>?_)<;>conv=>whnf
 ·have h1':1000<u.plain.length:=by have:=aA h1;omega
  rw[aG (.inl h1')];exact bA (.refl _) (fun _=>rfl)
 ·have h1':¬1000<u.plain.length:=by have:=aB h1;omega
  refine bG hd (wR _) rfl (cC u.cl (.cons (.i _ _) .nil)) (.i _ _) ?_;conv=>whnf
  refine aF (fun h2=>?_) (fun h2=>?_)<;>conv=>whnf
  ·have h2':20<u.deep 0:=by have:=aA h2;omega
   rw[aG (.inr h2')];exact bA (.refl _) (fun _=>rfl)
  ·have h2':¬20<u.deep 0:=by have:=aB h2;omega
   rw[aE (fun h=>h.elim h1' h2')];exact bA (.refl _) (fun _=>rfl)
def zQ (s:By):By×Int:=match mF s with
 |.ok t=>OW t
 |.err e=>([],e)
theorem I5 {s:By} {e:Int} (h:mF s=.err e):e=2∨e=3∨e=4:=by
 unfold mF at h;split at h
 ·cases h;omega
 ·split at h
  ·split at h
   ·split at h
    ·cases h;omega
    ·cases h
   ·cases h;omega
  ·cases h;omega
theorem a2E [MaxL] (s:By) (hs:s.length<bH):SC Tryz.prog 120 [.s s] [] (.val (.tup [.s (zQ s).1,.i .i64 (zQ s).2])) []:=by
 have hr:=Y6 s hs;have hcl:=M7 s;unfold qX at hr hcl;unfold zQ;cases h:mF s with
 |err e=>
  rw[h] at hr hcl;replace hr:SC Tryz.prog 182 [.s s] [] (.val (.tup [.o .nilIface,.i .i64 e])) []:=hr;have he:=I5 h;refine cZ Tryz.func120 rfl ?_;conv=>whnf
  refine bG hr (wR _) rfl (fun _=>rfl) hcl ?_;conv=>whnf
  refine aF (fun h0=>?_) (fun h0=>?_)<;>conv=>whnf
  ·exact bA (.refl _) (fun _=>rfl)
  ·exfalso;have:e=0:=by simpa using h0
   omega
 |ok t=>
  rw[h] at hr hcl;replace hr:SC Tryz.prog 182 [.s s] [] (.val (.tup [t.gv,.i .i64 0])) []:=hr;obtain⟨hn,hz,_⟩:=CI h;have hres:=Y5 t hn (by omega);refine cZ Tryz.func120 rfl ?_;conv=>whnf
  refine bG hr (wR _) rfl (fun _=>rfl) hcl ?_;conv=>whnf
  refine bG hres (wR _) rfl (cC t.cl .nil) (fun _=>rfl) ?_;conv=>whnf
  exact bA (.refl _) (fun _=>rfl)
