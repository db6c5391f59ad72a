/-
  The value of every expression and the truth of every condition over every variables are those of the reference; for every two texts, variables and values.
-/
import Derived.Test.YtmnjcddcihdlfaaGreatDoorV35
import Derived.HandedShaped
import Derived.Shelf.Vars
import Derived.Test.YtmnjcddcihdlfaaGreatDoorTie
import Derived.Test.YtmnjcddcihdlfaaGreatDoorCards
import Derived.Carry
import Derived.Lay
set_option linter.all false
set_option maxRecDepth 100000
namespace Go.Proofs.YtmnjcddcihdlfaaGreatDoor
section
open Go Go.ChangeShapes Go.WideShapes Go.RowKit Go.ChangeMaps
def iv:GV->Option Int
 |.i _ n=>some n
 |_=>none
theorem a1W [MaxL] {W:World} (h:laidMetH Tryz.prog Rows.hostValuesRow.laid W) (hm:W.cell? ⟨1,0,none⟩=some (.int .i64 MaxL.m)) (hms:∃c t fr,W.heap[(1:Nat)]?=some (.cells c t fr)/\c.size=1):a0C W:=by
 rw[MakeChecks.laidMetH_plain _ _ _ (by kernel_rfl)] at h;obtain⟨ps,⟨gA,tA,csA,fA,pA,qA,hgA,htA,hvA,hdA,⟨gB,tB,csB,fB,pB,qB,hgB,htB,hvB,hdB,⟨gC,tC,csC,fC,pC,qC,hgC,htC,hvC,hdC,⟨gD,tD,csD,fD,pD,qD,hgD,htD,hvD,hdD,⟨gE,tE,csE,fE,pE,qE,hgE,htE,hvE,hdE,⟨gF,tF,csF,fF,pF,qF,hgF,htF,hvF,hdF,⟨gG,tG,csG,fG,pG,qG,hgG,htG,hvG,hdG,eN,eG⟩,eF⟩,eE⟩,eD⟩,eC⟩,eB⟩,eA⟩,hnd,hrows⟩:=h;obtain rfl:=aV ((show Tryz.prog.globalNamed "math/bits.deBruijn32tab" =some 6 by kernel_rfl).symm.trans hgA);obtain rfl:=aV ((show(Tryz.prog.globals[(6:Nat)]?).map (·.type)=some 330 by kernel_rfl).symm.trans htA);obtain rfl:=aV ((show Tryz.prog.globalNamed "math/bits.deBruijn64tab" =some 7 by kernel_rfl).symm.trans hgB);obtain rfl:=aV ((show(Tryz.prog.globals[(7:Nat)]?).map (·.type)=some 331 by kernel_rfl).symm.trans htB);obtain rfl:=aV ((show Tryz.prog.globalNamed "internal/strconv.uint64pow10" =some 5 by kernel_rfl).symm.trans hgC);obtain rfl:=aV ((show(Tryz.prog.globals[(5:Nat)]?).map (·.type)=some 313 by kernel_rfl).symm.trans htC);obtain rfl:=aV ((show Tryz.prog.globalNamed "strconv.ErrRange" =some 3 by kernel_rfl).symm.trans hgD);obtain rfl:=aV ((show(Tryz.prog.globals[(3:Nat)]?).map (·.type)=some 124 by kernel_rfl).symm.trans htD);obtain rfl:=aV ((show Tryz.prog.globalNamed "strconv.ErrSyntax" =some 2 by kernel_rfl).symm.trans hgE);obtain rfl:=aV ((show(Tryz.prog.globals[(2:Nat)]?).map (·.type)=some 124 by kernel_rfl).symm.trans htE);obtain rfl:=aV ((show Tryz.prog.globalNamed "strings.asciiSpace" =some 0 by kernel_rfl).symm.trans hgG);obtain rfl:=aV ((show(Tryz.prog.globals[(0:Nat)]?).map (·.type)=some 274 by kernel_rfl).symm.trans htG);obtain⟨lD⟩:=csD;have okD:∀u v,lD=[.iface u v]->Value.okWide Tryz.prog W .any 0 u v:=fun u v e=>by
  subst e;exact(hrows 3 0 (by rw[eA,eB,eC,eD,eE,eF,eG];simp[MemPlace.row])).2 u v (by simpa using World.var?_cell hgD hvD 0)
 obtain⟨lE⟩:=csE;have okE:∀u v,lE=[.iface u v]->Value.okWide Tryz.prog W .any 0 u v:=fun u v e=>by
  subst e;exact(hrows 2 0 (by rw[eA,eB,eC,eD,eE,eF,eG];simp[MemPlace.row])).2 u v (by simpa using World.var?_cell hgE hvE 0)
 have eE':=IA hgE hvE rfl hdE okE;have eD':=IA hgD hvD rfl hdD okD;have eC':=tS (k:=.u64) (e:=287) (n:=20) (TC.filterMap iv) hgC hvC (by kernel_rfl) (by kernel_rfl) (by kernel_rfl) (by kernel_rfl) (by kernel_rfl) hdC;have eA':=tS (k:=.u8) (e:=5) (n:=32) (a0o.filterMap iv) hgA hvA (by kernel_rfl) (by kernel_rfl) (by kernel_rfl) (by kernel_rfl) (by kernel_rfl) hdA;have eB':=tS (k:=.u8) (e:=5) (n:=64) (a0n.filterMap iv) hgB hvB (by kernel_rfl) (by kernel_rfl) (by kernel_rfl) (by kernel_rfl) (by kernel_rfl) hdB;have eG':=tS (k:=.u8) (e:=5) (n:=256) (a0r.filterMap iv) hgG hvG (by kernel_rfl) (by kernel_rfl) (by kernel_rfl) (by kernel_rfl) (by kernel_rfl) hdG;have one:∀{g:Nat} {n:String} {cs:Array Value} {k:Nat},Tryz.prog.globalNamed n=some g->W.var? Tryz.prog n=some cs->cs.size=k->∃c t fr,W.heap[g]?=some (.cells c t fr)/\c.size=k:=fun hg hv h=>by
  obtain⟨t,fr,ho⟩:=JL hg hv;exact⟨_,t,fr,ho,h⟩
 have hmax:∀(j:Nat) x,([.i .i64 MaxL.m]:List GV)[j]?=some x->∃u,W.cell? ⟨1,j,none⟩=some u/\∀D:Cx,(∀b o v,W.cell? ⟨b,o,none⟩=some v->D.fx b o v)->VR D x u:=fun j x hx=>by
  match j,hx with
  |0,hx=>cases hx;exact⟨_,hm,fun D hD=>.i _ _⟩
  |j+1,hx=>cases hx
 refine⟨fun g cs hg=>?_,fun g cs j x hg hx=>?_⟩
 ·match g,hg with
  |0,hg=>obtain rfl:=aV hg;exact one hgG hvG eG'.1
  |1,hg=>obtain rfl:=aV hg;exact hms
  |2,hg=>obtain rfl:=aV hg;exact one hgE hvE eE'.1
  |3,hg=>obtain rfl:=aV hg;exact one hgD hvD eD'.1
  |4,hg=>cases hg
  |5,hg=>obtain rfl:=aV hg;exact one hgC hvC eC'.1
  |6,hg=>obtain rfl:=aV hg;exact one hgA hvA eA'.1
  |7,hg=>obtain rfl:=aV hg;exact one hgB hvB eB'.1
  |n+8,hg=>cases hg
 ·match g,hg with
  |0,hg=>obtain rfl:=aV hg;exact eG'.2 j x hx
  |1,hg=>obtain rfl:=aV hg;exact hmax j x hx
  |2,hg=>obtain rfl:=aV hg;exact eE'.2 j x hx
  |3,hg=>obtain rfl:=aV hg;exact eD'.2 j x hx
  |4,hg=>cases hg
  |5,hg=>obtain rfl:=aV hg;exact eC'.2 j x hx
  |6,hg=>obtain rfl:=aV hg;exact eA'.2 j x hx
  |7,hg=>obtain rfl:=aV hg;exact eB'.2 j x hx
  |n+8,hg=>cases hg
theorem JD (os:Os):(World.laidAll Tryz.prog os Rows.hostValuesRow.laid).Shaped Tryz.prog:=World.shaped_of_ZipB (by kernel_rfl) (by kernel_rfl)
theorem UP (os:Os) (args:Array Value):laidMetH Tryz.prog Rows.hostValuesRow.laid ((World.laidAll Tryz.prog os Rows.hostValuesRow.laid).forCall (fun _ _=>0) ⟨#[],args,[]⟩).memory:=by
 rw[MakeChecks.laidMetH_plain _ _ _ (by kernel_rfl)];exact laidMet_laidAll _ (by kernel_rfl) (by kernel_rfl)
theorem NI [MaxL] {k:FuncId} {args:List GV} {s':List GObj} {W:World} {vs:Array Value} (h:SC Tryz.prog k args [] (.val (.b true)) s') (ht:a0C W) (hv:VRs (C0 W) args vs.toList):
  Calls Tryz.prog k vs W fun e W'=>e=.returned (.bool true)/\Base (fun _=>False) W W':=
 (h.calls (C0 W) W vs (PG ht) hv).mono fun e W' ⟨D,hl,hr,he⟩=>by
  obtain⟨v,rfl,hv⟩:=he;have hm:D.mine=fun _=>False:=hl.fix.1;refine⟨?_,hm▸hr.below⟩;cases hv;rfl
theorem a0V [MaxL] (s:ByteArray) {C:Cx}:VR C (.s s.data.toList) (.string s):=by
 have:s=⟨s.data.toList.toArray⟩:=by simp
 exact this▸VR.s s.data.toList
theorem wN:laidOutB Tryz.checked.prog=true:=by kernel_rfl
section
variable {H : Type} {enc : TypeId × Value → H}
theorem JP {a:Assume} {C:Checked} {os:Os} {f:FuncId} {fn:Func} {s:ChangeSpec} {conds:List PathCond} {apart fresh handsOn again:Bool} {X:World->Array Value->Prop}
  (hX:∀(w w':World) (args:Array Value),w.heap=w'.heap->X w args->X w' args)
  (own:ownKnob C.prog.godebug=none) (started:os.Started) (noInit:C.prog.inits.idxOf? f=none) (rX:C.prog.funcs[f]?=some fn)
  (witness:∃(w:World) (tape:Tape) (i:Input),w.os=os/\(w.forCall tape i).Shaped C.prog/\i.vars=[]/\Input.okWide C.prog (w.forCall tape i) .any w.heap.size f i/\
   ((s.pre enc C.prog fn conds apart (w.forCall tape i).memory i.args/\X (w.forCall tape i).memory i.args)/\sizedMet enc C.prog fn (OpenSpec.ofChange s) apart (w.forCall tape i).memory i.args)/\a.holds C.prog (lone (Frame.enter C.prog f i.args .normal) [] (w.forCall tape i)))
  (contract:∀(W:World) (base:Nat) (args:Array Value) (ds gs:List (DataW H)) (before:List MemPlace),
   (∀(j:Nat) t v,fn.params[j]?=some t->args[j]?=some v->Value.okWide C.prog W .any base t v)->
   DataW.Whole enc C.prog fn.params.toList s.vars apart W args.toList ds gs before->
   (DataW.weightsEach C.prog (fn.params.toList++s.plain.varTypes C.prog) (ds++gs)).all (· <=reachBytes)=true->X W args->W.ShapedOpen C.prog->
   Calls C.prog f args W fun e W'=>∃v,e=.returned v/\s.post enc C.prog fn apart fresh handsOn again W args v W'):
  ReturnsInHanded a C os f .any (fun w args=>(s.pre enc C.prog fn conds apart w args/\X w args)/\sizedMet enc C.prog fn (OpenSpec.ofChange s) apart w args) (s.post enc C.prog fn apart fresh handsOn again):=by
 refine returnsInHanded_of_calls own started noInit witness ?_;intro w tape i _ hsh _ hok hpre hholds;obtain⟨_,_,_,fn',hfn',_,_,_,_,hval⟩:=hok;have e:fn'=fn:=aV (hfn'.symm.trans rX);subst e;obtain⟨⟨⟨ds,gs,before,hw,hc⟩,hx⟩,hz⟩:=hpre;have hw':=DataW.Whole.of_heap (w':=w.forCall tape i) (by rfl) hw;refine(contract (w.forCall tape i) w.heap.size i.args ds gs before hval hw' (hz.weights hw) (hX _ _ _ (by rfl) hx) hsh).mono fun e W' ⟨v,he,hp⟩=>?_;subst he;exact ChangeSpec.post_blind hp
end
theorem J9 {W:World} (h:W.ShapedOpen Tryz.prog):∃m,W.cell? ⟨1,0,none⟩=some (.int .i64 m)/\∃c t fr,W.heap[(1:Nat)]?=some (.cells c t fr)/\c.size=1:=by
 have h0:((begin Tryz.prog (fun _ _=>0) default).world.heap[(1:Nat)]?).bind Obj.row?=some (#[.int .i64 0],3):=by kernel_rfl
 have hg:(1:Nat)<Tryz.prog.globals.size:=aO (by kernel_rfl);obtain⟨m,hm⟩:=cell_of_shapedOpen_int (zero:= #[.int .i64 0]) (t:=3) (k:=.i64) h hg h0 rfl (by kernel_rfl) (by kernel_rfl) (by kernel_rfl);obtain⟨cs,hh,hs,_⟩:=h.1 _ _ _ hg h0;exact⟨m,hm,cs,_,_,hh,hs⟩
theorem q1:Rows.hostValuesRow.wf (OpenSpec.ofChange Rows.hostValuesSpec)=true:=by kernel_rfl
theorem q2:laidOutB Tryz.pinned.checked.prog=true:=by kernel_rfl
theorem q3:mapsRowed Tryz.pinned.checked.prog=true:=by kernel_rfl
theorem q4:(Rows.hostValuesRow.inPlace==Tryz.pinned.checked.prog.inPlace 3)=true:=by kernel_rfl
theorem q5:(Rows.hostValuesRow.unfollowed==Tryz.pinned.checked.prog.unfollowed 3)=true:=by kernel_rfl
theorem q6:(Rows.hostValuesRow.recurses==Tryz.pinned.checked.prog.recurses 3)=true:=by kernel_rfl
theorem q7:(Rows.hostValuesRow.named==Tryz.pinned.checked.prog.varsNamed 3)=true:=by kernel_rfl
theorem q8:(Rows.hostValuesRow.plainKeys==Tryz.pinned.checked.prog.plainKeys)=true:=by kernel_rfl
theorem q9:Tryz.pinned.checked.prog.stopsHeard=true:=by kernel_rfl
theorem q10:Tryz.pinned.checked.prog.mayEnter=true:=by kernel_rfl
theorem q11:(Rows.hostValuesRow.lifted==Tryz.pinned.checked.prog.liftsFinal)=true:=by kernel_rfl
theorem P8:joinedFacts Tryz.pinned.checked.prog 3 Tryz.f3 Rows.hostValuesSpec Rows.hostValuesRow=true:=by
 unfold joinedFacts;rw[q1,q2,q3,q4,q5,q6,q7,q8,q9,q10,q11];kernel_rfl
theorem VB:Tryz.f3.isInstance Tryz.pinned.checked.prog Rows.hostValuesRow.origin Rows.hostValuesRow.targs:=(aO (by kernel_rfl))
theorem VA:Tryz.f3.isWrapper Tryz.pinned.checked.prog Rows.hostValuesRow.wrapper Rows.hostValuesRow.mainSum:=(by unfold Func.isWrapper;first|(rw[aA (by decide+kernel)];kernel_rfl)|(rw[aB (by decide+kernel)];exact⟨rfl,rfl⟩))
theorem a1Q:Rows.hostValuesRow.wfByText (OpenSpec.ofChange Rows.hostValuesSpec)=true:=by kernel_rfl
theorem a1R:Tryz.pinned.checked.prog.mainIs=some (true,("931da5a073800175fce13ac4f47ae78f4f6cb319f9c156705f1013eb592c41f6").toList):=by kernel_rfl
theorem a1S:true=Tryz.pinned.checked.prog.looks []:=by kernel_rfl
theorem a1T:false=Rows.hostValuesRow.goesBy Tryz.pinned.checked.prog:=by kernel_rfl
section
variable {H : Type} {enc : TypeId × Value → H} {P : Program} {w : World} {base : Nat} {spare : Nat → Bool} {held : Bool}
theorem LE {t0 t1 t2 t3:TypeId} {args:Array Value} {ds:List (DataW H)} {ps:List MemPlace} (h:DataW.TrodAll enc P w base spare held [t0,t1,t2,t3] args.toList ds ps):
  ∃v0 v1 v2 v3 d0 d1 d2 d3 p0 p1 p2 p3,args= #[v0,v1,v2,v3]/\ds=[d0,d1,d2,d3]/\ps=p0++(p1++(p2++p3))/\DataW.Trod enc P w base spare held t0 v0 d0 p0/\DataW.Trod enc P w base spare held t1 v1 d1 p1/\DataW.Trod enc P w base spare held t2 v2 d2 p2/\DataW.Trod enc P w base spare held t3 v3 d3 p3:=by
 obtain⟨v0,vs0,d0,ds0,p0,q0,sK,rfl,rfl,h0,r0⟩:=trodAll_cons h;obtain⟨v1,vs1,d1,ds1,p1,q1,rfl,rfl,rfl,h1,r1⟩:=trodAll_cons r0;obtain⟨v2,vs2,d2,ds2,p2,q2,rfl,rfl,rfl,h2,r2⟩:=trodAll_cons r1;obtain⟨v3,vs3,d3,ds3,p3,q3,rfl,rfl,rfl,h3,r3⟩:=trodAll_cons r2;obtain⟨rfl,rfl,rfl⟩:=trodAll_nil r3;exact⟨v0,v1,v2,v3,d0,d1,d2,d3,p0,p1,p2,p3,by cases args;simp_all,rfl,by simp,h0,h1,h2,h3⟩
end
def uZ:Prop:=∀[MaxL] (s t:By) (l:List Itm) (vs:List Val),l.length<dD->vs.length<dD->SC Tryz.prog 3 [.s s,.s t,.sl .none (eT l),.sl .none (dZ vs)] [] (.val (.b true)) []
theorem wW (law:uZ)
  (os:Os) (started:os.Started) (H:Type) (enc:TypeId×Value->H):
  ReturnsInHanded {} Tryz.checked os 3 .any (fun w args=>(Rows.hostValuesSpec.pre enc Tryz.prog Tryz.f3 [] false w args/\laidMetH Tryz.prog Rows.hostValuesRow.laid w)/\sizedMet enc Tryz.prog Tryz.f3 (OpenSpec.ofChange Rows.hostValuesSpec) false w args)
   (Rows.hostValuesSpec.post enc Tryz.prog Tryz.f3 false true false false):=by
 refine JP (C:=Tryz.checked) (X:=fun w _=>laidMetH Tryz.prog Rows.hostValuesRow.laid w) (fun _ _ _ hh h=>h.of_heap hh) own started (by kernel_rfl) Tryz.func3
  (ChangeSpec.witness_shaped (enc:=enc) (C:=Tryz.checked) (os:=os) (X:=fun w _=>laidMetH Tryz.prog Rows.hostValuesRow.laid w) false (World.laidAll Tryz.prog os Rows.hostValuesRow.laid) #[.string default,.string default,.slice none 0 0,.slice none 0 0] 8 (World.laidAll_os _ _ _) (JD os) (by kernel_rfl) (by kernel_rfl) (by kernel_rfl) (UP os _)) ?_
 intro W base args ds gs before hval0 hW hwt hL hsh;have hval:∀(j:Nat) t v,Tryz.f3.params[j]?=some t->args[j]?=some v->Value.okWide Tryz.prog W .any base t v:=hval0;have hW':=hW;obtain⟨p,q,hA0,hV,rfl,hfz,hnd⟩:=hW;have hA:DataW.TrodAll enc Tryz.prog W 0 (fun _=>true) true Tryz.f3.params.toList args.toList ds p:=hA0;have hwt0:(DataW.weightsEach Tryz.prog (Tryz.f3.params.toList++Rows.hostValuesSpec.plain.varTypes Tryz.prog) (ds++gs)).all (· <=reachBytes)=true:=hwt;rw[show Tryz.f3.params= #[9,9,22,23] from rfl] at hA hval hwt0;obtain⟨v0,v1,v2,v3,d0,d1,d2,d3,p0,p1,p2,p3,rfl,rfl,rfl,h0,h1,h2,h3⟩:=LE hA;obtain⟨rfl,rfl⟩:=trodVars_none hV;have hall:∀m∈DataW.weightsEach Tryz.prog ([9,9,22,23]++Rows.hostValuesSpec.plain.varTypes Tryz.prog) ([d0,d1,d2,d3]++[]),m<=reachBytes:=fun m hm=>aO (List.all_eq_true.1 hwt0 m hm);have w2:∀m∈d2.weights Tryz.prog 22,m<=reachBytes:=fun m hm=>hall m (by
  show m∈DataW.weights _ _ d0++(DataW.weights _ _ d1++(DataW.weights _ _ d2++_));simp[hm])
 have w3:∀m∈d3.weights Tryz.prog 23,m<=reachBytes:=fun m hm=>hall m (by
  show m∈DataW.weights _ _ d0++(DataW.weights _ _ d1++(DataW.weights _ _ d2++(DataW.weights _ _ d3++_)));simp[hm])
 have hlt:∀x∈p0++(p1++(p2++p3)),x.block<W.heap.size:=fun x hx=>by simpa using hW'.lt x (by simpa using hx)
 have hlt0:∀x∈p0,x.block<W.heap.size:=fun x hx=>hlt x (by simp[hx]);have hlt1:∀x∈p1,x.block<W.heap.size:=fun x hx=>hlt x (by simp[hx]);have hlt2:∀x∈p2,x.block<W.heap.size:=fun x hx=>hlt x (by simp[hx]);have hlt3:∀x∈p3,x.block<W.heap.size:=fun x hx=>hlt x (by simp[hx]);obtain⟨m,hm,hms⟩:=J9 hsh;letI:MaxL:=⟨m⟩;obtain⟨l,hl,hv2⟩:=TF (hval 2 _ v2 rfl rfl) h2 w2;obtain⟨vs,hvs,hv3⟩:=VC (hval 3 _ v3 rfl rfl) h3 w3;have hh0:=h0;have hh1:=h1;obtain⟨s,rfl,rfl,rfl,hs⟩:=open_string zX (hval 0 9 v0 rfl rfl) h0;obtain⟨t,rfl,rfl,rfl,ht⟩:=open_string zX (hval 1 9 v1 rfl rfl) h1;refine(NI (law s.data.toList t.data.toList l vs (Nat.lt_of_le_of_lt hl (by decide)) (Nat.lt_of_le_of_lt hvs (by decide))) (a1W hL hm hms) ⟨rfl,fun j g u g1 g2=>?_⟩).mono fun e W' ⟨he,hb⟩=>?_
 ·match j,g1,g2 with
  |0,g1,g2=>cases g1;cases g2;exact a0V _
  |1,g1,g2=>cases g1;cases g2;exact a0V _
  |2,g1,g2=>cases g1;cases g2;exact hv2
  |3,g1,g2=>cases g1;cases g2;exact hv3
 ·subst he;have hbel:Below W.heap.size W {W' with tape:=W.tape}:=⟨hb.os,rfl,hb.output,hb.size,fun k hk=>hb.block k hk (fun h=>h)⟩;refine⟨_,rfl,_,_,_,[],[]++([]++(p2++p3)),[],hW',?_,?_,rfl,M5 (fun _ h=>h) hb,fun h=>by cases h⟩
  ·exact trodAll_mk1 (shut_bool RZ true)
  ·refine trodAll_mk4 ?_ ?_ ?_ ?_
   ·exact DataW.Trod.of_heap (w:={W' with tape:=W.tape}) (w':=W') rfl (Below.trod wN (by kernel_rfl) (aO (by kernel_rfl)) hh0 hbel hlt0)
   ·exact DataW.Trod.of_heap (w:={W' with tape:=W.tape}) (w':=W') rfl (Below.trod wN (by kernel_rfl) (aO (by kernel_rfl)) hh1 hbel hlt1)
   ·exact DataW.Trod.of_heap (w:={W' with tape:=W.tape}) (w':=W') rfl (Below.trod wN (by kernel_rfl) (aO (by kernel_rfl)) h2 hbel hlt2)
   ·exact DataW.Trod.of_heap (w:={W' with tape:=W.tape}) (w':=W') rfl (Below.trod wN (by kernel_rfl) (aO (by kernel_rfl)) h3 hbel hlt3)
theorem DH (law:uZ):Rows.HostValuesSaid:=
 OpenClaim.holds_of_wide 3 Tryz.f3 rfl rfl rfl rfl rfl rfl rfl ⟨rfl,rfl,rfl,rfl,rfl⟩ rfl rfl rfl rfl rfl (by kernel_rfl) Tryz.func3 P8
  VB VA
  (fun os started H enc _=>wW law os started H enc)
theorem vG (h:Rows.HostValuesSaid):Rows.HostValuesCardSaid:=
 Claim7.holds_tied_plain_at .later [] [.data,.data,.data,.sentinel,.sentinel,.listed,.data] true (true, "931da5a073800175fce13ac4f47ae78f4f6cb319f9c156705f1013eb592c41f6") true
  h (fun _ h=>by cases h) a1Q (fun _ h=>by cases h) hostValues_row_tie rfl ⟨rfl,rfl⟩ a1R rfl
  (fun f fn hf rX=>by
   obtain rfl:f=3:=aV ((show Tryz.prog.funcNamed "ringwork/ringworklaw17.HostValues" =some 3 by kernel_rfl).symm.trans hf) |>.symm;obtain rfl:fn=Tryz.f3:=(aV (Tryz.func3.symm.trans rX)).symm;exact⟨a1S,fun j t ht=>by
    rw[show Tryz.f3.params= #[9,9,22,23] from rfl] at ht
    match j,ht with
    |0,ht=>cases ht;exact(show Tryz.prog.wantsStandIn 9=false by kernel_rfl)
    |1,ht=>cases ht;exact(show Tryz.prog.wantsStandIn 9=false by kernel_rfl)
    |2,ht=>cases ht;exact(show Tryz.prog.wantsStandIn 22=false by kernel_rfl)
    |3,ht=>cases ht;exact(show Tryz.prog.wantsStandIn 23=false by kernel_rfl)
    |j+4,ht=>cases ht⟩)
  a1T
end
section
open Go
theorem hostValues_holds:Rows.HostValuesCardSaid:=vG (DH fun s t l vs hl hm=>G4 s t l vs hl hm)
end
