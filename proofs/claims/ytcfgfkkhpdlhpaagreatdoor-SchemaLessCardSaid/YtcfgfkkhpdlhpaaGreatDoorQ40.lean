/-
  A part of the proof of SchemaLess.
-/
import Derived.Test.YtcfgfkkhpdlhpaaGreatDoorQ39
import Derived.Test.YtcfgfkkhpdlhpaaGreatDoorQ36
set_option linter.all false
namespace Go.Proofs.YtcfgfkkhpdlhpaaGreatDoor
open Go.RowKit
set_option maxRecDepth 100000
set_option linter.unusedVariables false
theorem r_not_no [MaxL] (ws:List By) (hw:ws.length<1000000) (a lv d:Nat) (ha:a<=ws.length) (h:wat ws a≠wNot) (o:Option (Tree×List By×Nat))
  (hc:Rr 322 ws a lv d o):Rr 305 ws a lv d o:=by
 have hm:ws.length<most:=by unfold most;omega
 have n1:=r_skip_no hm ha h lv (decide (20<d))
 cases o with
 |none=>
  obtain⟨t,a',l',b1,b2,b3,hc⟩:=hc
  refine⟨t,a',l',b1,b2,b3,?_⟩
  have hcl:=t.ng_cl
  obtain⟨k,kids,A,B,op,yes,hng⟩:=ng_form t
  rw[hng] at hc hcl⊢
  refine gwS Tryz.func305 rfl ?_
  conv=>whnf
  refine callB (q:=0) n1 rfl (wR _) rfl rfl rdC rdC (fun _=>rfl) (.b _) ?_
  conv=>whnf
  refine callB (q:=0) hc rfl (wR _) rfl rfl rdC rdC (fun _=>rfl) hcl ?_
  conv=>whnf
  refine⟨_,⟨rfl,zL _,rfl,bL rfl⟩,?_⟩
  conv=>whnf
  exact owesB rfl (.refl _) rdC hcl
 |some p=>
  obtain⟨t,r,e⟩:=p
  obtain⟨a',b1,b2,rfl,b3,hc⟩:=hc
  refine⟨a',b1,b2,rfl,b3,?_⟩
  have hcl:=t.ng_cl
  obtain⟨k,kids,A,B,op,yes,hng⟩:=ng_form t
  rw[hng] at hc hcl⊢
  refine gwS Tryz.func305 rfl ?_
  conv=>whnf
  refine callB (q:=0) n1 rfl (wR _) rfl rfl rdC rdC (fun _=>rfl) (.b _) ?_
  conv=>whnf
  refine callB (q:=0) hc rfl (wR _) rfl rfl rdC rdC (fun _=>rfl) hcl ?_
  conv=>whnf
  refine⟨_,⟨rfl,zL _,rfl,bL rfl⟩,?_⟩
  conv=>whnf
  exact owesB rfl (.refl _) rdC hcl
theorem r_not_yes [MaxL] (ws:List By) (hw:ws.length<1000000) (a lv d:Nat) (hlv:lv<100000) (h:wat ws a=wNot) (o:Option (Tree×List By×Nat))
  (hc:Rr 322 ws (a+1) (lv+1) (max d (lv+1)) o):Rr 305 ws a lv d (o.map fun p=>(.no p.1,p.2)):=by
 have hm:ws.length<most:=by unfold most;omega
 have ha:=wat_in (ws:=ws) (a:=a) (by rw[h];decide)
 have h1:=r_skip_yes hm h (by decide) lv (decide (20<d))
 have h2:=r_in ws (a+1) lv (by omega) false (decide (20<d))
 rw[lim_max] at h2
 have hdec:IntKind.i64.wrap (((lv+1:Nat):Int) - 1)=((lv:Nat):Int):=by rw[wrap_in (by omega) (by omega)];omega
 cases o with
 |none=>
  obtain⟨t,a',l',b1,b2,b3,hc⟩:=hc
  refine⟨.no t,a',l',by omega,b2,by simp only[Tree.size];omega,?_⟩
  have hcl:Cl (Tree.no t).ng:=(Tree.no t).ng_cl
  have e:(Tree.no t).ng=.agg (ndc 3 [t.ng] t0 t0 [] false):=rfl
  have hcl2:=t.ng_cl
  obtain⟨k,kids,A,B,op,yes,hng⟩:=ng_form t
  rw[e] at hcl⊢
  rw[hng] at hc hcl hcl2⊢
  refine gwS Tryz.func305 rfl ?_
  conv=>whnf
  refine callB (q:=0) h1 rfl (wR _) rfl rfl rdC rdC (fun _=>rfl) (.b _) ?_
  conv=>whnf
  refine callB (q:=0) h2 rfl (wR _) rfl rfl rdC rdC (fun _=>rfl) (Cl.tup .nil) ?_
  conv=>whnf
  refine callB (q:=0) hc rfl (wR _) rfl rfl rdC rdC (fun _=>rfl) hcl2 ?_
  conv=>whnf
  refine⟨_,⟨rfl,zL _,rfl,bL rfl⟩,?_⟩
  conv=>whnf
  refine⟨[.i .i64 (lv:Nat)],⟨(by rw[hdec];rfl),rL _,rfl,bL rfl⟩,?_⟩
  conv=>whnf
  refine⟨_,⟨rfl,zL _,rfl,bL rfl⟩,?_⟩
  conv=>whnf
  exact owesB rfl wk_node rdC hcl
 |some p=>
  obtain⟨t,r,e⟩:=p
  obtain⟨a',b1,b2,rfl,b3,hc⟩:=hc
  refine⟨a',by omega,b2,rfl,by simp only[Tree.size];omega,?_⟩
  show SC _ _ _ _ (.val (Tree.no t).ng) _
  have hcl:Cl (Tree.no t).ng:=(Tree.no t).ng_cl
  have e:(Tree.no t).ng=.agg (ndc 3 [t.ng] t0 t0 [] false):=rfl
  have hcl2:=t.ng_cl
  obtain⟨k,kids,A,B,op,yes,hng⟩:=ng_form t
  rw[e] at hcl⊢
  rw[hng] at hc hcl hcl2⊢
  refine gwS Tryz.func305 rfl ?_
  conv=>whnf
  refine callB (q:=0) h1 rfl (wR _) rfl rfl rdC rdC (fun _=>rfl) (.b _) ?_
  conv=>whnf
  refine callB (q:=0) h2 rfl (wR _) rfl rfl rdC rdC (fun _=>rfl) (Cl.tup .nil) ?_
  conv=>whnf
  refine callB (q:=0) hc rfl (wR _) rfl rfl rdC rdC (fun _=>rfl) hcl2 ?_
  conv=>whnf
  refine⟨_,⟨rfl,zL _,rfl,bL rfl⟩,?_⟩
  conv=>whnf
  refine⟨[.i .i64 (lv:Nat)],⟨(by rw[hdec];rfl),rL _,rfl,bL rfl⟩,?_⟩
  conv=>whnf
  refine⟨_,⟨rfl,zL _,rfl,bL rfl⟩,?_⟩
  conv=>whnf
  exact owesB rfl wk_node rdC hcl
inductive LpR [MaxL] (ws:List By) (k:FuncId) (w:By) (lv:Nat) (z:Tree):Nat->List Tree->Nat->Bool->Bool->(List Tree×Nat×Bool×Bool)->Prop where
 |bad {zs:List Tree} {a:Nat} {lim:Bool} (ha:a<=ws.length):LpR ws k w lv z 0 zs a true lim (zs,a,true,lim)
 |stop {zs:List Tree} {a:Nat} {lim:Bool} (h:wat ws a≠w) (ha:a<=ws.length):LpR ws k w lv z 0 zs a false lim (zs,a,false,lim)
 |step {j:Nat} {zs:List Tree} {t:Tree} {a a':Nat} {lim bad' lim':Bool} {fin:List Tree×Nat×Bool×Bool} (h:wat ws a=w) (hc:SC Tryz.prog k [.ptr 0 0] [rdr ws (a+1:Nat) lv false lim] (.val t.ng) [rdr ws a' lv bad' lim'])
   (hr:LpR ws k w lv z j (zs++[t]) a' bad' lim' fin):LpR ws k w lv z (j+1) zs a false lim fin
theorem LpR.len [MaxL] {ws:List By} {k:FuncId} {w:By} {lv:Nat} {z:Tree} {j:Nat} {zs:List Tree} {a:Nat} {bad lim:Bool} {fin:List Tree×Nat×Bool×Bool} (h:LpR ws k w lv z j zs a bad lim fin):zs.length+j=fin.1.length:=by
 induction h with
 |bad=>rfl
 |stop=>rfl
 |step h hc hr ih=>rw[List.length_append,List.length_singleton] at ih;omega
theorem r_and [MaxL] (ws:List By) (hw:ws.length<1000000) (a lv:Nat) (lim bad1 lim1:Bool) (a1:Nat) (t:Tree) (hc:SC Tryz.prog 305 [.ptr 0 0] [rdr ws a lv false lim] (.val t.ng) [rdr ws a1 lv bad1 lim1])
  (j:Nat) (fin:List Tree×Nat×Bool×Bool) (hl:LpR ws 305 wAnd lv t j [] a1 bad1 lim1 fin) (hlen:fin.1.length<=100000) (hsz:((t::fin.1).flatMap (Tree.sides true)).length<=1000000):
  SC Tryz.prog 267 [.ptr 0 0] [rdr ws a lv false lim] (.val (joinL true t fin.1).ng) [rdr ws fin.2.1 lv fin.2.2.1 fin.2.2.2]:=by
 have hm:ws.length<most:=by unfold most;omega
 have hj:=r_Joined true t fin.1 hlen hsz
 have hjc:=(joinL true t fin.1).ng_cl
 have hcl:=t.ng_cl
 obtain⟨k,kids,A,B,op,yes,hng⟩:=ng_form t
 obtain⟨k2,kids2,A2,B2,op2,yes2,hng2⟩:=ng_form (joinL true t fin.1)
 rw[hng2] at hj hjc⊢
 clear hng2
 rw[hng] at hc hcl
 have hsl:GV.sl (.own 2) [.agg (ndc k kids A B op yes)]=GV.sl (.own 2) (ngs [t]):=by show _=GV.sl (.own 2) [t.ng];rw[hng]
 refine gwS Tryz.func267 rfl ?_
 conv=>whnf
 refine callB (q:=0) hc rfl (wR _) rfl rfl rdC rdC (fun _=>rfl) hcl ?_
 conv=>whnf
 refine GLoop.introS (fun q:Nat×List Tree×Nat×Bool×Bool=>LpR ws 305 wAnd lv t q.1 q.2.1 q.2.2.1 q.2.2.2.1 q.2.2.2.2 fin) (fun q=>[(0,.ptr 0 0),(2,.ptr 1 0),(3,.sl (.own 2) (ngs (t::q.2.1)))])
  (fun q=>⟨[rdr ws q.2.2.1 lv q.2.2.2.1 q.2.2.2.2,.box 211 nodeZ,.own (q.2.1.length+1) 14 211],0,[]⟩) (fun q=>q.1) (j,[],a1,bad1,lim1) hl ⟨rfl,rfl,hsl,trivial⟩ rfl (fun _ _=>rL _) (fun q _=>rfl) (fun q _ e he=>?_) (fun q φ0 hq=>?_)
 ·refine⟨?_,rfl,?_⟩
  ·show[(rdr ws q.2.2.1 lv q.2.2.2.1 q.2.2.2.2).ren e,_,_]=_
   rw[show(rdr ws q.2.2.1 lv q.2.2.2.1 q.2.2.2.2).ren e=rdr ws q.2.2.1 lv q.2.2.2.1 q.2.2.2.2 from GObj.box_cl rdC e];rfl
  ·show[GV.ptr (e 0) 0,GV.ptr (e 1) 0,(GV.sl (.own 2) (ngs (t::q.2.1))).ren e]=_
   rw[ren_own (he 2 (by simp)) (ngs_cl _),he 0 (by simp),he 1 (by simp)];rfl
 obtain⟨j,zs,a,bad,lim⟩:=q
 replace hq:LpR ws 305 wAnd lv t j zs a bad lim fin:=hq
 have hjl:=hq.len
 conv=>whnf
 cases hq with
 |bad ha=>
  have n1:=r_skip_bad hm ha wAnd lv lim
  refine callB (q:=0) n1 rfl (wR _) rfl rfl rdC rdC (fun _=>rfl) (.b _) ?_
  conv=>whnf
  refine callP hj (wC (.refl _) (wC (Wk.sl _ _) Wks.nil)) rfl (cC (.i _ _) (cC (Cl.sl (ngs_cl _)) .nil)) hjc ?_
  conv=>whnf
  refine⟨_,⟨rfl,zL _,rfl,bL rfl⟩,?_⟩
  conv=>whnf
  exact owesB rfl (.refl _) rdC hjc
 |stop h ha=>
  have n1:=r_skip_no hm ha h lv lim
  refine callB (q:=0) n1 rfl (wR _) rfl rfl rdC rdC (fun _=>rfl) (.b _) ?_
  conv=>whnf
  refine callP hj (wC (.refl _) (wC (Wk.sl _ _) Wks.nil)) rfl (cC (.i _ _) (cC (Cl.sl (ngs_cl _)) .nil)) hjc ?_
  conv=>whnf
  refine⟨_,⟨rfl,zL _,rfl,bL rfl⟩,?_⟩
  conv=>whnf
  exact owesB rfl (.refl _) rdC hjc
 |step h hc hr=>
  rename_i j t' a' bad' lim'
  have n1:=r_skip_yes hm h (by decide) lv lim
  have hcl':=t'.ng_cl
  obtain⟨k,kids,A,B,op,yes,hng'⟩:=ng_form t'
  rw[hng'] at hc hcl'
  refine callB (q:=0) n1 rfl (wR _) rfl rfl rdC rdC (fun _=>rfl) (.b _) ?_
  conv=>whnf
  refine callB (q:=0) hc rfl (wR _) rfl rfl rdC rdC (fun _=>rfl) hcl' ?_
  conv=>whnf
  refine⟨⟨rfl,ngs_ok _,by show(ngs (t::zs)).length+1<=4294967296;rw[ngs_len,List.length_cons];omega⟩,ngs (t::(zs++[t'])),(zs++[t']).length+1,⟨(by show ngs (t::zs++[t'])=ngs (t::zs)++[GV.agg (ndc k kids A B op yes)];rw[<-hng'];unfold ngs;rw[List.map_append];rfl),by show _=(ngs (t::zs)).length+1;rw[ngs_len,List.length_append];rfl⟩,?_⟩
  conv=>whnf
  refine⟨⟨zL _,by first|rfl|(rw[ngs_len];rfl)|(rw[ngs_len];simp),by first|exact .inr ⟨rfl,rfl⟩|exact .inl ⟨rfl,rfl⟩⟩,?_⟩
  conv=>whnf
  exact⟨j,Nat.lt_succ_self j,(j,zs++[t'],a',bad',lim'),hr,rfl,⟨rfl,rfl,rfl,trivial⟩,_,rfl,rfl⟩
theorem r_or [MaxL] (ws:List By) (hw:ws.length<1000000) (a lv:Nat) (lim bad1 lim1:Bool) (a1:Nat) (t:Tree) (hc:SC Tryz.prog 267 [.ptr 0 0] [rdr ws a lv false lim] (.val t.ng) [rdr ws a1 lv bad1 lim1])
  (j:Nat) (fin:List Tree×Nat×Bool×Bool) (hl:LpR ws 267 wOr lv t j [] a1 bad1 lim1 fin) (hlen:fin.1.length<=100000) (hsz:((t::fin.1).flatMap (Tree.sides false)).length<=1000000):
  SC Tryz.prog 231 [.ptr 0 0] [rdr ws a lv false lim] (.val (joinL false t fin.1).ng) [rdr ws fin.2.1 lv fin.2.2.1 fin.2.2.2]:=by
 have hm:ws.length<most:=by unfold most;omega
 have hj:=r_Joined false t fin.1 hlen hsz
 have hjc:=(joinL false t fin.1).ng_cl
 have hcl:=t.ng_cl
 obtain⟨k,kids,A,B,op,yes,hng⟩:=ng_form t
 obtain⟨k2,kids2,A2,B2,op2,yes2,hng2⟩:=ng_form (joinL false t fin.1)
 rw[hng2] at hj hjc⊢
 clear hng2
 rw[hng] at hc hcl
 have hsl:GV.sl (.own 2) [.agg (ndc k kids A B op yes)]=GV.sl (.own 2) (ngs [t]):=by show _=GV.sl (.own 2) [t.ng];rw[hng]
 refine gwS Tryz.func231 rfl ?_
 conv=>whnf
 refine callB (q:=0) hc rfl (wR _) rfl rfl rdC rdC (fun _=>rfl) hcl ?_
 conv=>whnf
 refine GLoop.introS (fun q:Nat×List Tree×Nat×Bool×Bool=>LpR ws 267 wOr lv t q.1 q.2.1 q.2.2.1 q.2.2.2.1 q.2.2.2.2 fin) (fun q=>[(0,.ptr 0 0),(2,.ptr 1 0),(3,.sl (.own 2) (ngs (t::q.2.1)))])
  (fun q=>⟨[rdr ws q.2.2.1 lv q.2.2.2.1 q.2.2.2.2,.box 211 nodeZ,.own (q.2.1.length+1) 14 211],0,[]⟩) (fun q=>q.1) (j,[],a1,bad1,lim1) hl ⟨rfl,rfl,hsl,trivial⟩ rfl (fun _ _=>rL _) (fun q _=>rfl) (fun q _ e he=>?_) (fun q φ0 hq=>?_)
 ·refine⟨?_,rfl,?_⟩
  ·show[(rdr ws q.2.2.1 lv q.2.2.2.1 q.2.2.2.2).ren e,_,_]=_
   rw[show(rdr ws q.2.2.1 lv q.2.2.2.1 q.2.2.2.2).ren e=rdr ws q.2.2.1 lv q.2.2.2.1 q.2.2.2.2 from GObj.box_cl rdC e];rfl
  ·show[GV.ptr (e 0) 0,GV.ptr (e 1) 0,(GV.sl (.own 2) (ngs (t::q.2.1))).ren e]=_
   rw[ren_own (he 2 (by simp)) (ngs_cl _),he 0 (by simp),he 1 (by simp)];rfl
 obtain⟨j,zs,a,bad,lim⟩:=q
 replace hq:LpR ws 267 wOr lv t j zs a bad lim fin:=hq
 have hjl:=hq.len
 conv=>whnf
 cases hq with
 |bad ha=>
  refine callP hj (wC (.refl _) (wC (Wk.sl _ _) Wks.nil)) rfl (cC (.i _ _) (cC (Cl.sl (ngs_cl _)) .nil)) hjc ?_
  conv=>whnf
  refine⟨_,⟨rfl,zL _,rfl,bL rfl⟩,?_⟩
  conv=>whnf
  exact owesB rfl (.refl _) rdC hjc
 |stop h ha=>
  have n1:=r_skip_no hm ha h lv lim
  refine callB (q:=0) n1 rfl (wR _) rfl rfl rdC rdC (fun _=>rfl) (.b _) ?_
  conv=>whnf
  refine callP hj (wC (.refl _) (wC (Wk.sl _ _) Wks.nil)) rfl (cC (.i _ _) (cC (Cl.sl (ngs_cl _)) .nil)) hjc ?_
  conv=>whnf
  refine⟨_,⟨rfl,zL _,rfl,bL rfl⟩,?_⟩
  conv=>whnf
  exact owesB rfl (.refl _) rdC hjc
 |step h hc hr=>
  rename_i j t' a' bad' lim'
  have n1:=r_skip_yes hm h (by decide) lv lim
  have hcl':=t'.ng_cl
  obtain⟨k,kids,A,B,op,yes,hng'⟩:=ng_form t'
  rw[hng'] at hc hcl'
  refine callB (q:=0) n1 rfl (wR _) rfl rfl rdC rdC (fun _=>rfl) (.b _) ?_
  conv=>whnf
  refine callB (q:=0) hc rfl (wR _) rfl rfl rdC rdC (fun _=>rfl) hcl' ?_
  conv=>whnf
  refine⟨⟨rfl,ngs_ok _,by show(ngs (t::zs)).length+1<=4294967296;rw[ngs_len,List.length_cons];omega⟩,ngs (t::(zs++[t'])),(zs++[t']).length+1,⟨(by show ngs (t::zs++[t'])=ngs (t::zs)++[GV.agg (ndc k kids A B op yes)];rw[<-hng'];unfold ngs;rw[List.map_append];rfl),by show _=(ngs (t::zs)).length+1;rw[ngs_len,List.length_append];rfl⟩,?_⟩
  conv=>whnf
  refine⟨⟨zL _,by first|rfl|(rw[ngs_len];rfl)|(rw[ngs_len];simp),by first|exact .inr ⟨rfl,rfl⟩|exact .inl ⟨rfl,rfl⟩⟩,?_⟩
  conv=>whnf
  exact⟨j,Nat.lt_succ_self j,(j,zs++[t'],a',bad',lim'),hr,rfl,⟨rfl,rfl,rfl,trivial⟩,_,rfl,rfl⟩
theorem joinL_size (a:Bool):∀(zs:List Tree) (z:Tree),zs.length<=(joinL a z zs).size/\z.size<=(joinL a z zs).size
 |[],z=>⟨zL _,rL _⟩
 |y::zs,z=>by
  have:=joinL_len a zs (.pair a z y)
  have h2:=joinL_size a zs (.pair a z y)
  show(y::zs).length<=(joinL a (.pair a z y) zs).size/\z.size<=(joinL a (.pair a z y) zs).size
  simp only[Tree.size] at h2 this
  rw[List.length_cons]
  omega
where
 joinL_len (a:Bool):∀(zs:List Tree) (z:Tree),z.size+zs.length<=(joinL a z zs).size
 |[],z=>rL _
 |y::zs,z=>by
  have:=joinL_len a zs (.pair a z y)
  show z.size+(y::zs).length<=(joinL a (.pair a z y) zs).size
  simp only[Tree.size] at this
  rw[List.length_cons];omega
theorem joinL_snoc (a:Bool) (z:Tree) (zs:List Tree) (m:Tree):joinL a z (zs++[m])=.pair a (joinL a z zs) m:=by
 unfold joinL;rw[List.foldl_append];rfl
def FourR [MaxL] (ws:List By) (f:Nat):Prop:=∀a lv d,a<=ws.length->lv+(ws.length - a)<=50000->
 (10*(ws.length - a)+4<f->Rr 231 ws a lv d (pars litR f .or lv d (ws.drop a)))/\
 (10*(ws.length - a)+3<f->Rr 267 ws a lv d (pars litR f .and lv d (ws.drop a)))/\
 (10*(ws.length - a)+2<f->Rr 305 ws a lv d (pars litR f .not lv d (ws.drop a)))/\
 (10*(ws.length - a)+1<f->Rr 322 ws a lv d (pars litR f .prim lv d (ws.drop a)))
def Lw [MaxL] (k:FuncId) (w:By) (b:Bool) (ws:List By) (z:Tree) (zs:List Tree) (a lv d:Nat) (o:Option (Tree×List By×Nat)):Prop:=match o with
 |some (t,r,e)=>∃j zs' a',t=joinL b z zs'/\r=ws.drop a'/\a<=a'/\a'<=ws.length/\(joinL b z zs').size<=(joinL b z zs).size+(a' - a)/\LpR ws k w lv z j zs a false (decide (20<d)) (zs',a',false,decide (20<e))
 |none=>∃j zs' a' l',a<=a'/\a'<=ws.length/\(joinL b z zs').size<=(joinL b z zs).size+(a' - a)+1/\LpR ws k w lv z j zs a false (decide (20<d)) (zs',a',true,l')
theorem lpr_and [MaxL] (ws:List By) (f:Nat) (IH:∀g,g<=f->FourR ws g):∀(g:Nat) (z:Tree) (zs:List Tree) (a lv d:Nat),g<=f->a<=ws.length->lv+(ws.length - a)<=50000->10*(ws.length - a)<g->
  Lw 305 wAnd true ws z zs a lv d (pars litR g (.andL (joinL true z zs)) lv d (ws.drop a))
 |0,z,zs,a,lv,d,_,_,_,h=>by omega
 |g+1,z,zs,a,lv,d,hg,ha,hb,hf=>by
  by_cases hw:wat ws a=wAnd
  ·have hlt:=wat_in (ws:=ws) (a:=a) (by rw[hw];decide)
   have e:pars litR (g+1) (.andL (joinL true z zs)) lv d (ws.drop a)=match pars litR g .not lv d (ws.drop (a+1)) with
     |some (m,r,e)=>pars litR g (.andL (.pair true (joinL true z zs) m)) lv e r
     |none=>none:=by
    conv=>lhs;unfold pars
    rw[if_pos (show(ws.drop a).headD []=wAnd from hw),drop_tail]
    rfl
   rw[e]
   have h1:=(IH g (by omega) (a+1) lv d hlt (by omega)).2.2.1 (by omega)
   cases hp:pars litR g .not lv d (ws.drop (a+1)) with
   |none=>
    rw[hp] at h1
    obtain⟨t,a',l',b1,b2,b3,hc⟩:=h1
    refine⟨1,zs++[t],a',l',by omega,b2,by rw[joinL_snoc];simp only[Tree.size];omega,.step hw hc (.bad b2)⟩
   |some p=>
    obtain⟨m,r,e1⟩:=p
    rw[hp] at h1
    obtain⟨a',b1,b2,rfl,b3,hc⟩:=h1
    simp only
    have h2:=lpr_and ws f IH g z (zs++[m]) a' lv e1 (by omega) b2 (by omega) (by omega)
    rw[joinL_snoc] at h2
    cases hq:pars litR g (.andL (.pair true (joinL true z zs) m)) lv e1 (ws.drop a') with
    |none=>
     rw[hq] at h2
     obtain⟨j,zs',a2,l2,c1,c2,c3,hl⟩:=h2
     rw[joinL_snoc] at c3
     simp only[Tree.size] at c3
     exact⟨j+1,zs',a2,l2,by omega,c2,by omega,.step hw hc hl⟩
    |some p=>
     obtain⟨t,r,e2⟩:=p
     rw[hq] at h2
     obtain⟨j,zs',a2,rfl,rfl,c1,c2,c3,hl⟩:=h2
     rw[joinL_snoc] at c3
     simp only[Tree.size] at c3
     exact⟨j+1,zs',a2,rfl,rfl,by omega,c2,by omega,.step hw hc hl⟩
  ·have e:pars litR (g+1) (.andL (joinL true z zs)) lv d (ws.drop a)=some (joinL true z zs,ws.drop a,d):=by
    conv=>lhs;unfold pars
    rw[if_neg (show¬(ws.drop a).headD []=wAnd from hw)]
   rw[e]
   exact⟨0,zs,a,rfl,rfl,rL _,ha,by omega,.stop hw ha⟩
theorem lpr_or [MaxL] (ws:List By) (f:Nat) (IH:∀g,g<=f->FourR ws g):∀(g:Nat) (z:Tree) (zs:List Tree) (a lv d:Nat),g<=f->a<=ws.length->lv+(ws.length - a)<=50000->10*(ws.length - a)<g->
  Lw 267 wOr false ws z zs a lv d (pars litR g (.orL (joinL false z zs)) lv d (ws.drop a))
 |0,z,zs,a,lv,d,_,_,_,h=>by omega
 |g+1,z,zs,a,lv,d,hg,ha,hb,hf=>by
  by_cases hw:wat ws a=wOr
  ·have hlt:=wat_in (ws:=ws) (a:=a) (by rw[hw];decide)
   have e:pars litR (g+1) (.orL (joinL false z zs)) lv d (ws.drop a)=match pars litR g .and lv d (ws.drop (a+1)) with
     |some (m,r,e)=>pars litR g (.orL (.pair false (joinL false z zs) m)) lv e r
     |none=>none:=by
    conv=>lhs;unfold pars
    rw[if_pos (show(ws.drop a).headD []=wOr from hw),drop_tail]
    rfl
   rw[e]
   have h1:=(IH g (by omega) (a+1) lv d hlt (by omega)).2.1 (by omega)
   cases hp:pars litR g .and lv d (ws.drop (a+1)) with
   |none=>
    rw[hp] at h1
    obtain⟨t,a',l',b1,b2,b3,hc⟩:=h1
    refine⟨1,zs++[t],a',l',by omega,b2,by rw[joinL_snoc];simp only[Tree.size];omega,.step hw hc (.bad b2)⟩
   |some p=>
    obtain⟨m,r,e1⟩:=p
    rw[hp] at h1
    obtain⟨a',b1,b2,rfl,b3,hc⟩:=h1
    simp only
    have h2:=lpr_or ws f IH g z (zs++[m]) a' lv e1 (by omega) b2 (by omega) (by omega)
    rw[joinL_snoc] at h2
    cases hq:pars litR g (.orL (.pair false (joinL false z zs) m)) lv e1 (ws.drop a') with
    |none=>
     rw[hq] at h2
     obtain⟨j,zs',a2,l2,c1,c2,c3,hl⟩:=h2
     rw[joinL_snoc] at c3
     simp only[Tree.size] at c3
     exact⟨j+1,zs',a2,l2,by omega,c2,by omega,.step hw hc hl⟩
    |some p=>
     obtain⟨t,r,e2⟩:=p
     rw[hq] at h2
     obtain⟨j,zs',a2,rfl,rfl,c1,c2,c3,hl⟩:=h2
     rw[joinL_snoc] at c3
     simp only[Tree.size] at c3
     exact⟨j+1,zs',a2,rfl,rfl,by omega,c2,by omega,.step hw hc hl⟩
  ·have e:pars litR (g+1) (.orL (joinL false z zs)) lv d (ws.drop a)=some (joinL false z zs,ws.drop a,d):=by
    conv=>lhs;unfold pars
    rw[if_neg (show¬(ws.drop a).headD []=wOr from hw)]
   rw[e]
   exact⟨0,zs,a,rfl,rfl,rL _,ha,by omega,.stop hw ha⟩
theorem flat_le (b:Bool) (z:Tree) (zs:List Tree):((z::zs).flatMap (Tree.sides b)).length<=(joinL b z zs).size:=by
 rw[<-joinL_sides];exact sides_len _
theorem Rr_and [MaxL] (ws:List By) (hw:ws.length<50000) (a lv d:Nat) (o:Option (Tree×List By×Nat)) (p:Option (Tree×List By×Nat)) (h1:Rr 305 ws a lv d o)
  (hn:o=none->p=none) (h2:∀t r e,o=some (t,r,e)->∀a',r=ws.drop a'->a'<=ws.length->Lw 305 wAnd true ws t [] a' lv e p):Rr 267 ws a lv d p:=by
 cases o with
 |none=>
  rw[hn rfl]
  obtain⟨t,a',l',b1,b2,b3,hc⟩:=h1
  have hfl:=flat_le true t []
  exact⟨t,a',l',b1,b2,b3,r_and ws (by omega) a lv _ true l' a' t hc 0 ([],a',true,l') (.bad b2) (zL _) (by show((t::[]).flatMap (Tree.sides true)).length<=_;simp only[joinL,List.foldl_nil] at hfl;omega)⟩
 |some q=>
  obtain⟨t,r,e⟩:=q
  obtain⟨a',b1,b2,hr,b3,hc⟩:=h1
  have h2:=h2 t r e rfl a' hr b2
  cases p with
  |none=>
   obtain⟨j,zs',a2,l2,c1,c2,c3,hl⟩:=h2
   have hfl:=flat_le true t zs'
   have hjs:=joinL_size true zs' t
   have c4:(joinL true t []).size=t.size:=rfl
   exact⟨joinL true t zs',a2,l2,by omega,c2,by omega,r_and ws (by omega) a lv _ false _ a' t hc j (zs',a2,true,l2) hl (by show zs'.length<=_;omega) (by show((t::zs').flatMap (Tree.sides true)).length<=_;omega)⟩
  |some p=>
   obtain⟨t',r',e'⟩:=p
   obtain⟨j,zs',a2,rfl,rfl,c1,c2,c3,hl⟩:=h2
   have hfl:=flat_le true t zs'
   have hjs:=joinL_size true zs' t
   have c4:(joinL true t []).size=t.size:=rfl
   exact⟨a2,by omega,c2,rfl,by omega,r_and ws (by omega) a lv _ false _ a' t hc j (zs',a2,false,decide (20<e')) hl (by show zs'.length<=_;omega) (by show((t::zs').flatMap (Tree.sides true)).length<=_;omega)⟩
theorem Rr_or [MaxL] (ws:List By) (hw:ws.length<50000) (a lv d:Nat) (o:Option (Tree×List By×Nat)) (p:Option (Tree×List By×Nat)) (h1:Rr 267 ws a lv d o)
  (hn:o=none->p=none) (h2:∀t r e,o=some (t,r,e)->∀a',r=ws.drop a'->a'<=ws.length->Lw 267 wOr false ws t [] a' lv e p):Rr 231 ws a lv d p:=by
 cases o with
 |none=>
  rw[hn rfl]
  obtain⟨t,a',l',b1,b2,b3,hc⟩:=h1
  have hfl:=flat_le false t []
  exact⟨t,a',l',b1,b2,b3,r_or ws (by omega) a lv _ true l' a' t hc 0 ([],a',true,l') (.bad b2) (zL _) (by show((t::[]).flatMap (Tree.sides false)).length<=_;simp only[joinL,List.foldl_nil] at hfl;omega)⟩
 |some q=>
  obtain⟨t,r,e⟩:=q
  obtain⟨a',b1,b2,hr,b3,hc⟩:=h1
  have h2:=h2 t r e rfl a' hr b2
  cases p with
  |none=>
   obtain⟨j,zs',a2,l2,c1,c2,c3,hl⟩:=h2
   have hfl:=flat_le false t zs'
   have hjs:=joinL_size false zs' t
   have c4:(joinL false t []).size=t.size:=rfl
   exact⟨joinL false t zs',a2,l2,by omega,c2,by omega,r_or ws (by omega) a lv _ false _ a' t hc j (zs',a2,true,l2) hl (by show zs'.length<=_;omega) (by show((t::zs').flatMap (Tree.sides false)).length<=_;omega)⟩
  |some p=>
   obtain⟨t',r',e'⟩:=p
   obtain⟨j,zs',a2,rfl,rfl,c1,c2,c3,hl⟩:=h2
   have hfl:=flat_le false t zs'
   have hjs:=joinL_size false zs' t
   have c4:(joinL false t []).size=t.size:=rfl
   exact⟨a2,by omega,c2,rfl,by omega,r_or ws (by omega) a lv _ false _ a' t hc j (zs',a2,false,decide (20<e')) hl (by show zs'.length<=_;omega) (by show((t::zs').flatMap (Tree.sides false)).length<=_;omega)⟩
theorem fourR [MaxL] (ws:List By) (hw:ws.length<50000) (hx:∀w∈ws,w.length<1000000):∀f,FourR ws f:=by
 intro f
 induction f using Nat.strongRecOn with
 |ind f ih=>
 intro a lv d ha hb
 cases f with
 |zero=>exact⟨fun h=>by omega,fun h=>by omega,fun h=>by omega,fun h=>by omega⟩
 |succ f=>
 have IH:∀g,g<=f->FourR ws g:=fun g hg=>ih g (by omega)
 obtain⟨_,iand,inot,iprim⟩:=IH f (rL _) a lv d ha hb
 refine⟨fun hf=>?_,fun hf=>?_,fun hf=>?_,fun hf=>?_⟩
 ·refine Rr_or ws hw a lv d _ _ (iand (by omega)) (fun h=>?_) (fun t r e h a' hr ha'=>?_)
  ·conv=>lhs;unfold pars
   rw[h]
  ·subst hr
   have hlen:=(pars_len _ _ _ _ _ _ _ _ h).2.1 rfl
   simp only[List.length_drop] at hlen
   have e1:pars litR (f+1) .or lv d (ws.drop a)=pars litR f (.orL t) lv e (ws.drop a'):=by
    conv=>lhs;unfold pars
    rw[h]
   rw[e1]
   exact lpr_or ws f IH f t [] a' lv e (rL _) ha' (by omega) (by omega)
 ·refine Rr_and ws hw a lv d _ _ (inot (by omega)) (fun h=>?_) (fun t r e h a' hr ha'=>?_)
  ·conv=>lhs;unfold pars
   rw[h]
  ·subst hr
   have hlen:=(pars_len _ _ _ _ _ _ _ _ h).2.1 rfl
   simp only[List.length_drop] at hlen
   have e1:pars litR (f+1) .and lv d (ws.drop a)=pars litR f (.andL t) lv e (ws.drop a'):=by
    conv=>lhs;unfold pars
    rw[h]
   rw[e1]
   exact lpr_and ws f IH f t [] a' lv e (rL _) ha' (by omega) (by omega)
 ·by_cases hn:wat ws a=wNot
  ·have hlt:=wat_in (ws:=ws) (a:=a) (by rw[hn];decide)
   have h1:=(IH f (rL _) (a+1) (lv+1) (max d (lv+1)) hlt (by omega)).2.2.2 (by omega)
   have e:pars litR (f+1) .not lv d (ws.drop a)=(pars litR f .prim (lv+1) (max d (lv+1)) (ws.drop (a+1))).map fun p=>(.no p.1,p.2):=by
    conv=>lhs;unfold pars
    rw[if_pos (show(ws.drop a).headD []=wNot from hn),drop_tail]
    cases pars litR f .prim (lv+1) (max d (lv+1)) (ws.drop (a+1))<;>rfl
   rw[e]
   exact r_not_yes ws (by omega) a lv d (by omega) hn _ h1
  ·have e:pars litR (f+1) .not lv d (ws.drop a)=pars litR f .prim lv d (ws.drop a):=by
    conv=>lhs;unfold pars
    rw[if_neg (show¬(ws.drop a).headD []=wNot from hn)]
   rw[e]
   exact r_not_no ws (by omega) a lv d ha hn _ (iprim (by omega))
 ·have e:pars litR (f+1) .prim lv d (ws.drop a)=if wat ws a=wTrue then some (.truth true,ws.drop (a+1),d)
    else if wat ws a=wFalse then some (.truth false,ws.drop (a+1),d)
    else if wat ws a=[40] then parenR (pars litR f .or (lv+1) (max d (lv+1)) (ws.drop (a+1)))
    else match termW litR (ws.drop a) with
     |some (x,r)=>if relop (r.headD []) then(match termW litR r.tail with
       |some (y,r')=>some (.test (r.headD []) x y,r',d)
       |none=>none)
      else none
     |none=>none:=by
   conv=>lhs;unfold pars
   rw[drop_tail]
   rfl
  rw[e]
  by_cases h1:wat ws a=wTrue
  ·rw[if_pos h1];exact r_prim_1 ws (by omega) a lv d h1
  rw[if_neg h1]
  by_cases h2:wat ws a=wFalse
  ·rw[if_pos h2];exact r_prim_2 ws (by omega) a lv d h2
  rw[if_neg h2]
  by_cases h3:wat ws a=[40]
  ·rw[if_pos h3]
   have hlt:=wat_in (ws:=ws) (a:=a) (by rw[h3];decide)
   exact r_prim_p ws (by omega) a lv d (by omega) h3 _ ((IH f (rL _) (a+1) (lv+1) (max d (lv+1)) hlt (by omega)).1 (by omega))
  ·rw[if_neg h3]
   exact r_prim_x ws (by omega) hx a ha lv d h3 h1 h2
theorem readS_bound {s:By} {t:Tree} (h:readS s=.ok t):t.nice/\t.size<=1000/\s.length<=1000:=by
 unfold readS at h
 split at h
 ·cases h
 ·split at h
  ·rename_i t0 r e hp
   split at h
   ·split at h
    ·cases h
    ·cases h
     have h1:=pars_size _ _ _ _ _ _ _ _ hp
     have h2:=pars_nice _ _ _ _ _ _ _ _ hp trivial
     have h3:=toks_len s.length s (rL _)
     simp only[Md.sz] at h1
     refine⟨flat_nice h2,?_,by omega⟩
     rw[flat_size];omega
   ·cases h
  ·cases h
def readG (s:By):GV:=match readS s with
 |.ok t=>.tup [t.gv,.i .i64 0]
 |.err e=>.tup [.o .nilIface,.i .i64 e]
theorem readG_cl [MaxL] (s:By):Cl (readG s):=by
 unfold readG
 split
 ·exact Cl.tup (.cons (Tree.cl _) (.cons (.i _ _) .nil))
 ·exact fun _=>rfl
theorem c_read [MaxL] (s:By) (hs:s.length<most):SC Tryz.prog 182 [.s s] [] (.val (readG s)) []:=by
 by_cases hl:1000<s.length
 ·have e:readG s=.tup [.o .nilIface,.i .i64 3]:=by unfold readG readS;rw[if_pos hl]
  rw[e]
  refine gwS Tryz.func182 rfl ?_
  conv=>whnf
  refine GIf.mk (fun h=>?_) (fun h=>?_)<;>conv=>whnf
  ·exact owes_wk (.refl _) (fun _=>rfl)
  ·exfalso;have:=of_decide_eq_false h;omega
 ·have hp:=c_parse s (by omega)
  cases hr:pars litP (fuel s) .or 0 0 (toks s) with
  |none=>
   rw[hr] at hp
   have e:readG s=.tup [.o .nilIface,.i .i64 2]:=by unfold readG readS;rw[if_neg hl,hr]
   rw[e]
   replace hp:SC Tryz.prog 217 [.s s] [] (.val (.tup [.o .nilIface,.i .i64 0,.b false])) []:=hp
   refine gwS Tryz.func182 rfl ?_
   conv=>whnf
   refine GIf.mk (fun h=>?_) (fun h=>?_)<;>conv=>whnf
   ·exfalso;have:=of_decide_eq_true h;omega
   refine pcP hp ?_
   conv=>whnf
   exact owes_wk (.refl _) (fun _=>rfl)
  |some p=>
   obtain⟨t,r,e⟩:=p
   rw[hr] at hp
   have h1:=pars_size _ _ _ _ _ _ _ _ hr
   have h3:=toks_len s.length s (rL _)
   simp only[Md.sz] at h1
   replace hp:SC Tryz.prog 217 [.s s] [] (.val (.tup [t.gv,.i .i64 (e:Nat),.b (r.headD []==[])])) []:=hp
   have hcl:Cl (.tup [t.gv,.i .i64 (e:Nat),.b (r.headD []==[])]):=Cl.tup (.cons t.cl (.cons (.i _ _) (.cons (.b _) .nil)))
   have hf:=c_flat 1000 t (by omega) (by omega)
   cases hb:(r.headD []==[]) with
   |false=>
    have e1:readG s=.tup [.o .nilIface,.i .i64 2]:=by unfold readG readS;rw[if_neg hl,hr];simp only[hb];rfl
    rw[e1]
    rw[hb] at hp hcl
    refine gwS Tryz.func182 rfl ?_
    conv=>whnf
    refine GIf.mk (fun h=>?_) (fun h=>?_)<;>conv=>whnf
    ·exfalso;have:=of_decide_eq_true h;omega
    refine callP hp (wR _) rfl (fun _=>rfl) hcl ?_
    conv=>whnf
    exact owes_wk (.refl _) (fun _=>rfl)
   |true=>
    rw[hb] at hp hcl
    by_cases h20:20<e
    ·have e1:readG s=.tup [.o .nilIface,.i .i64 4]:=by unfold readG readS;rw[if_neg hl,hr];simp only[hb,if_pos h20];rfl
     rw[e1]
     refine gwS Tryz.func182 rfl ?_
     conv=>whnf
     refine GIf.mk (fun h=>?_) (fun h=>?_)<;>conv=>whnf
     ·exfalso;have:=of_decide_eq_true h;omega
     refine callP hp (wR _) rfl (fun _=>rfl) hcl ?_
     conv=>whnf
     refine GIf.mk (fun h2=>?_) (fun h2=>?_)<;>conv=>whnf
     ·exact owes_wk (.refl _) (fun _=>rfl)
     ·exfalso;have:=of_decide_eq_false h2;omega
    ·have e1:readG s=.tup [t.flat.gv,.i .i64 0]:=by unfold readG readS;rw[if_neg hl,hr];simp only[hb,if_neg h20];rfl
     rw[e1]
     refine gwS Tryz.func182 rfl ?_
     conv=>whnf
     refine GIf.mk (fun h=>?_) (fun h=>?_)<;>conv=>whnf
     ·exfalso;have:=of_decide_eq_true h;omega
     refine callP hp (wR _) rfl (fun _=>rfl) hcl ?_
     conv=>whnf
     refine GIf.mk (fun h2=>?_) (fun h2=>?_)<;>conv=>whnf
     ·exfalso;have:=of_decide_eq_true h2;omega
     refine callP hf (wR _) rfl (cC t.cl .nil) t.flat.cl ?_
     conv=>whnf
     exact owes_wk (.refl _) (Cl.tup (.cons t.flat.cl (.cons (.i _ _) .nil)))
def resS (t:Tree):By×Int:=if 1000<t.flat.plain.length∨20<t.flat.deep 0 then([],4) else(t.flat.plain,0)
theorem c_result [MaxL] (t:Tree) (hn:t.nice) (hz:t.size<=2100):SC Tryz.prog 183 [t.gv] [] (.val (.tup [.s (resS t).1,.i .i64 (resS t).2])) []:=by
 have hf:=c_flat 2100 t hz (by omega)
 have hnf:=flat_nice hn
 have hsz:=flat_size t
 have hpl:=plain_le t.flat hnf
 have hp:=c_plain t.flat hnf (by omega)
 have hd:=c_deep t.flat 0 (by omega)
 unfold resS
 generalize t.flat=u at*
 refine gwS Tryz.func183 rfl ?_
 conv=>whnf
 refine callP hf (wR _) rfl (cC t.cl .nil) u.cl ?_
 conv=>whnf
 refine callP hp (wR _) rfl (cC u.cl .nil) (.s _) ?_
 conv=>whnf
 refine GIf.mk (fun h1=>?_) (fun h1=>?_)<;>conv=>whnf
 ·have h1':1000<u.plain.length:=by have:=of_decide_eq_true h1;omega
  rw[if_pos (.inl h1')]
  exact owes_wk (.refl _) (fun _=>rfl)
 ·have h1':¬1000<u.plain.length:=by have:=of_decide_eq_false h1;omega
  refine callP hd (wR _) rfl (cC u.cl (.cons (.i _ _) .nil)) (.i _ _) ?_
  conv=>whnf
  refine GIf.mk (fun h2=>?_) (fun h2=>?_)<;>conv=>whnf
  ·have h2':20<u.deep 0:=by have:=of_decide_eq_true h2;omega
   rw[if_pos (.inr h2')]
   exact owes_wk (.refl _) (fun _=>rfl)
  ·have h2':¬20<u.deep 0:=by have:=of_decide_eq_false h2;omega
   rw[if_neg (fun h=>h.elim h1' h2')]
   exact owes_wk (.refl _) (fun _=>rfl)
def showS (s:By):By×Int:=match readS s with
 |.ok t=>resS t
 |.err e=>([],e)
theorem readS_err {s:By} {e:Int} (h:readS s=.err e):e=2∨e=3∨e=4:=by
 unfold readS at h
 split at h
 ·cases h;omega
 ·split at h
  ·split at h
   ·split at h
    ·cases h;omega
    ·cases h
   ·cases h;omega
  ·cases h;omega
theorem c_Show [MaxL] (s:By) (hs:s.length<most):SC Tryz.prog 120 [.s s] [] (.val (.tup [.s (showS s).1,.i .i64 (showS s).2])) []:=by
 have hr:=c_read s hs
 have hcl:=readG_cl s
 unfold readG at hr hcl
 unfold showS
 cases h:readS s with
 |err e=>
  rw[h] at hr hcl
  replace hr:SC Tryz.prog 182 [.s s] [] (.val (.tup [.o .nilIface,.i .i64 e])) []:=hr
  have he:=readS_err h
  refine gwS Tryz.func120 rfl ?_
  conv=>whnf
  refine callP hr (wR _) rfl (fun _=>rfl) hcl ?_
  conv=>whnf
  refine GIf.mk (fun h0=>?_) (fun h0=>?_)<;>conv=>whnf
  ·exact owes_wk (.refl _) (fun _=>rfl)
  ·exfalso
   have:e=0:=by simpa using h0
   omega
 |ok t=>
  rw[h] at hr hcl
  replace hr:SC Tryz.prog 182 [.s s] [] (.val (.tup [t.gv,.i .i64 0])) []:=hr
  obtain⟨hn,hz,_⟩:=readS_bound h
  have hres:=c_result t hn (by omega)
  refine gwS Tryz.func120 rfl ?_
  conv=>whnf
  refine callP hr (wR _) rfl (fun _=>rfl) hcl ?_
  conv=>whnf
  refine callP hres (wR _) rfl (cC t.cl .nil) (fun _=>rfl) ?_
  conv=>whnf
  exact owes_wk (.refl _) (fun _=>rfl)
end Go.Proofs.YtcfgfkkhpdlhpaaGreatDoor
