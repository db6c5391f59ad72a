/- Part of ViewWrong. -/
import Derived.Test.YtimgfjldcdhejaaGreatDoorK30
set_option linter.all false
set_option maxRecDepth 100000
namespace Go.Proofs.YtimgfjldcdhejaaGreatDoor
section
open Go Go.ChangeShapes Go.WideShapes Go.RowKit
theorem a7E {α:Type} {cs:List α} (h:cs.length=2):∃a b,cs=[a,b]:=by
 match cs,h with
 |[a,b],_=>exact⟨a,b,rfl⟩
theorem a7r {α:Type} {cs:List α} (h:cs.length=4):∃a b c d,cs=[a,b,c,d]:=by
 match cs,h with
 |[a,b,c,d],_=>exact⟨a,b,c,d,rfl⟩
theorem a5d:Tryz.prog.underlying 76=some (.struct #[{name:= "Name",type:=9,offset:=0,embedded:=false,tag:= "",pkgPath:= "",byteOffset:=0},{name:= "Of",type:=9,offset:=1,embedded:=false,tag:= "",pkgPath:= "",byteOffset:=16}]):=by kernel_rfl
theorem a5c:Tryz.prog.underlying 77=some (.struct #[{name:= "Name",type:=9,offset:=0,embedded:=false,tag:= "",pkgPath:= "",byteOffset:=0},{name:= "Of",type:=9,offset:=1,embedded:=false,tag:= "",pkgPath:= "",byteOffset:=16}]):=by kernel_rfl
theorem ID:Tryz.prog.underlying 74=some (.struct #[{name:= "Name",type:=9,offset:=0,embedded:=false,tag:= "",pkgPath:= "",byteOffset:=0},{name:= "Of",type:=9,offset:=1,embedded:=false,tag:= "",pkgPath:= "",byteOffset:=16},{name:= "Items",type:=72,offset:=2,embedded:=false,tag:= "",pkgPath:= "",byteOffset:=32},{name:= "Only",type:=9,offset:=3,embedded:=false,tag:= "",pkgPath:= "",byteOffset:=56}]):=by kernel_rfl
theorem NR:Tryz.prog.underlying 30=some (.struct #[{name:= "Records",type:=27,offset:=0,embedded:=false,tag:= "",pkgPath:= "",byteOffset:=0},{name:= "Sets",type:=28,offset:=1,embedded:=false,tag:= "",pkgPath:= "",byteOffset:=24}]):=by kernel_rfl
theorem a3T:Tryz.prog.underlying 72=some (.slice 76):=by kernel_rfl
theorem a3R:Tryz.prog.underlying 28=some (.slice 77):=by kernel_rfl
theorem a3S:Tryz.prog.underlying 27=some (.slice 74):=by kernel_rfl
theorem NF:Tryz.prog.cellsOf 9=1:=by kernel_rfl
theorem ST:Tryz.prog.cellsOf 76=2:=by kernel_rfl
theorem SR:Tryz.prog.cellsOf 77=2:=by kernel_rfl
theorem SS:Tryz.prog.cellsOf 74=4:=by kernel_rfl
theorem a2l:Tryz.prog.cellsOf 30=2:=by kernel_rfl
theorem a7w:Tryz.prog.cellsOf 72=1/\Tryz.prog.cellsOf 28=1/\Tryz.prog.cellsOf 27=1:=⟨by kernel_rfl,by kernel_rfl,by kernel_rfl⟩
section
variable {H : Type} {enc : TypeId × Value → H} {W : World} {held : Bool} {n : Nat} {cs : List Value} {x : DataW H × List MemPlace}
theorem CW {v:Value} {y:DataW H×List MemPlace} (h:DataW.trod enc Tryz.prog W 0 (fun _=>true) held n 9 [v]=some y) (hw:o8 Tryz.prog 9 y.1):∃z:List UInt8,v=.string ⟨z.toArray⟩/\z.length<=140737488355328:=by
 obtain⟨z,hz,hy,_⟩:=DataW.trod_string H7 h;have hl:z.data.toList.length<=reachBytes:=hw _ (by rw[hy];unfold DataW.weights;simp);exact⟨z.data.toList,by simpa using hz,dG hl (by decide)⟩
theorem X7 [MaxL] {e:TypeId} (hu:Tryz.prog.underlying e=some (.struct #[{name:= "Name",type:=9,offset:=0,embedded:=false,tag:= "",pkgPath:= "",byteOffset:=0},{name:= "Of",type:=9,offset:=1,embedded:=false,tag:= "",pkgPath:= "",byteOffset:=16}])) (hc:Tryz.prog.cellsOf e=2) (h:DataW.trod enc Tryz.prog W 0 (fun _=>true) held n e cs=some x) (hw:o8 Tryz.prog e x.1):
  ∃p:By×By,pOk p/\cs.length=1+1/\∀(j:Nat) g u,(mU p).cells[j]?=some g->cs[j]?=some u->VR (C0 W) g u:=by
 obtain⟨xs,m,_,rfl,hlen,hxs,hf⟩:=DataW.trod_struct hu h;rw[hc] at hlen;obtain⟨c0,c1,rfl⟩:=a7E hlen;have f0:DataW.trod enc Tryz.prog W 0 (fun _=>true) held m 9 (([c0,c1].drop 0).take (Tryz.prog.cellsOf 9))=xs[0]?:=hf 0 _ rfl;have f1:DataW.trod enc Tryz.prog W 0 (fun _=>true) held m 9 (([c0,c1].drop 1).take (Tryz.prog.cellsOf 9))=xs[1]?:=hf 1 _ rfl;rw[NF] at f0 f1;have g0:=gL (l:=xs) (i:=0) (by rw[hxs];decide);have g1:=gL (l:=xs) (i:=1) (by rw[hxs];decide);obtain⟨a,rfl,ha⟩:=CW (f0.trans g0) (lW hu hw rfl g0);obtain⟨b,rfl,hb⟩:=CW (f1.trans g1) (lW hu hw rfl g1);refine⟨(a,b),⟨ha,hb⟩,rfl,fun j g u h1 h2=>?_⟩
 match j,h1,h2 with
 |0,h1,h2=>cases h1;cases h2;exact .s _
 |1,h1,h2=>cases h1;cases h2;exact .s _
 |j+2,h1,h2=>cases h1
theorem a5z [MaxL] (h:DataW.trod enc Tryz.prog W 0 (fun _=>true) held n 74 cs=some x) (hw:o8 Tryz.prog 74 x.1):
  ∃r:VwR,rOk r/\cs.length=3+1/\∀(j:Nat) g u,(uQ r).cells[j]?=some g->cs[j]?=some u->VR (C0 W) g u:=by
 obtain⟨xs,m,_,rfl,hlen,hxs,hf⟩:=DataW.trod_struct ID h;rw[SS] at hlen;obtain⟨c0,c1,c2,c3,rfl⟩:=a7r hlen;have f0:DataW.trod enc Tryz.prog W 0 (fun _=>true) held m 9 (([c0,c1,c2,c3].drop 0).take (Tryz.prog.cellsOf 9))=xs[0]?:=hf 0 _ rfl;have f1:DataW.trod enc Tryz.prog W 0 (fun _=>true) held m 9 (([c0,c1,c2,c3].drop 1).take (Tryz.prog.cellsOf 9))=xs[1]?:=hf 1 _ rfl;have f2:DataW.trod enc Tryz.prog W 0 (fun _=>true) held m 72 (([c0,c1,c2,c3].drop 2).take (Tryz.prog.cellsOf 72))=xs[2]?:=hf 2 _ rfl;have f3:DataW.trod enc Tryz.prog W 0 (fun _=>true) held m 9 (([c0,c1,c2,c3].drop 3).take (Tryz.prog.cellsOf 9))=xs[3]?:=hf 3 _ rfl;rw[NF] at f0 f1 f3;rw[a7w.1] at f2;have g0:=gL (l:=xs) (i:=0) (by rw[hxs];decide);have g1:=gL (l:=xs) (i:=1) (by rw[hxs];decide);have g2:=gL (l:=xs) (i:=2) (by rw[hxs];decide);have g3:=gL (l:=xs) (i:=3) (by rw[hxs];decide);obtain⟨a,rfl,ha⟩:=CW (f0.trans g0) (lW ID hw rfl g0);obtain⟨b,rfl,hb⟩:=CW (f1.trans g1) (lW ID hw rfl g1);obtain⟨c,rfl,hc⟩:=CW (f3.trans g3) (lW ID hw rfl g3);obtain⟨l,_,hl,v,hv,hvr⟩:=AU pOk mU a3T ST (fun _ _ _ h hw=>X7 a5d ST h hw) (fun _=>rfl) (f2.trans g2) (lW ID hw rfl g2);obtain rfl:c2=v:=by
  have h9:[c2]=[v]:=hv;exact List.head_eq_of_cons_eq h9
 refine⟨⟨a,b,l,c⟩,⟨ha,hb,hc,hl⟩,rfl,fun j g u h1 h2=>?_⟩
 match j,h1,h2 with
 |0,h1,h2=>cases h1;cases h2;exact .s _
 |1,h1,h2=>cases h1;cases h2;exact .s _
 |2,h1,h2=>cases h1;cases h2;exact hvr
 |3,h1,h2=>cases h1;cases h2;exact .s _
 |j+4,h1,h2=>cases h1
variable {r : Reach} {b0 : Nat} {v : Value} {d : DataW H} {ps : List MemPlace}
theorem a3G [MaxL] (hval:Value.okWide Tryz.prog W r b0 30 v) (hd:DataW.Trod enc Tryz.prog W 0 (fun _=>true) held 30 v d ps) (hw:o8 Tryz.prog 30 d):∃V:Vw,vOk V/\V.recs.length<=maxLen/\V.sets.length<=maxLen/\VR (C0 W) (k7 V) v:=by
 have hag:∃cs,v=.agg cs:=by
  unfold Value.okWide at hval;rw[NR] at hval;obtain⟨cs,h,_⟩:=hval;exact⟨cs,h⟩
 obtain⟨cs,rfl⟩:=hag;obtain⟨kM,hf0⟩:=hd;obtain⟨xs,m,_,hx,hlen,hxs,hf⟩:=DataW.trod_struct NR hf0;obtain rfl:d=.agg (xs.map (·.1)):=aR Prod.fst hx;rw[a2l] at hlen;obtain⟨c0,c1,hcs⟩:=a7E hlen;rw[hcs] at hf;have f0:DataW.trod enc Tryz.prog W 0 (fun _=>true) held m 27 (([c0,c1].drop 0).take (Tryz.prog.cellsOf 27))=xs[0]?:=hf 0 _ rfl;have f1:DataW.trod enc Tryz.prog W 0 (fun _=>true) held m 28 (([c0,c1].drop 1).take (Tryz.prog.cellsOf 28))=xs[1]?:=hf 1 _ rfl;rw[a7w.2.2] at f0;rw[a7w.2.1] at f1;have g0:=gL (l:=xs) (i:=0) (by rw[hxs];decide);have g1:=gL (l:=xs) (i:=1) (by rw[hxs];decide);obtain⟨l0,hl0,hq0,v0,hv0,hvr0⟩:=AU rOk uQ a3S SS (fun _ _ _ h hw=>a5z h hw) (fun _=>rfl) (f0.trans g0) (lW NR hw rfl g0);obtain⟨l1,hl1,hq1,v1,hv1,hvr1⟩:=AU pOk mU a3R SR (fun _ _ _ h hw=>X7 a5c SR h hw) (fun _=>rfl) (f1.trans g1) (lW NR hw rfl g1);obtain rfl:c0=v0:=List.head_eq_of_cons_eq (show[c0]=[v0] from hv0);obtain rfl:c1=v1:=List.head_eq_of_cons_eq (show[c1]=[v1] from hv1);have hcs':cs= #[c0,c1]:=by
  have h9:cs.toList=[c0,c1]:=hcs;rw[<-fH (xs:=cs),h9]
 subst hcs';refine⟨⟨l0,l1⟩,⟨hq0,hq1⟩,hl0,hl1,.agg rfl fun j g u h1 h2=>?_⟩
 match j,h1,h2 with
 |0,h1,h2=>cases h1;cases h2;exact hvr0
 |1,h1,h2=>cases h1;cases h2;exact hvr1
 |j+2,h1,h2=>cases h1
end
end
section
open Go Go.ChangeShapes Go.WideShapes Go.RowKit Go.ChangeMaps
section
variable {H : Type} {enc : TypeId × Value → H} {P : Program} {w : World} {base : Nat} {spare : Nat → Bool} {held : Bool}
theorem TP {t0 t1 t2:TypeId} {args:Array Value} {ds:List (DataW H)} {ps:List MemPlace} (h:DataW.TrodAll enc P w base spare held [t0,t1,t2] args.toList ds ps):
  ∃v0 v1 v2 d0 d1 d2 p0 p1 p2,args= #[v0,v1,v2]/\ds=[d0,d1,d2]/\ps=p0++(p1++p2)/\DataW.Trod enc P w base spare held t0 v0 d0 p0/\DataW.Trod enc P w base spare held t1 v1 d1 p1/\DataW.Trod enc P w base spare held t2 v2 d2 p2:=by
 obtain⟨v0,vs0,d0,ds0,p0,q0,hargs,rfl,rfl,h0,r0⟩:=trodAll_cons h;obtain⟨v1,vs1,d1,ds1,p1,q1,rfl,rfl,rfl,h1,r1⟩:=trodAll_cons r0;obtain⟨v2,vs2,d2,ds2,p2,q2,rfl,rfl,rfl,h2,r2⟩:=trodAll_cons r1;obtain⟨rfl,rfl,rfl⟩:=trodAll_nil r2;exact⟨v0,v1,v2,d0,d1,d2,p0,p1,p2,by cases args;simp_all,rfl,by simp,h0,h1,h2⟩
end
theorem RM (os:Os):(World.laidAll Tryz.prog os Rows.viewWrongRow.laid).Shaped Tryz.prog:=World.shaped_of_ZipB (by kernel_rfl) (by kernel_rfl)
theorem a2e (os:Os) (args:Array Value):laidMetH Tryz.prog Rows.viewWrongRow.laid ((World.laidAll Tryz.prog os Rows.viewWrongRow.laid).forCall (fun _ _=>0) ⟨#[],args,[]⟩).memory:=by
 rw[MakeChecks.laidMetH_plain _ _ _ (by kernel_rfl)];exact laidMet_laidAll _ (by kernel_rfl) (by kernel_rfl)
def E7:Prop:=∀[MaxL] (s:Sch) (V:Vw) (r:By),a17 s->vOk V->V.recs.length<=maxLen->V.sets.length<=maxLen->r.length<=cap->SC Tryz.prog 3 [lT s,k7 V,.s r] [] (.val (.b true)) []
theorem EC (law:E7)
  (os:Os) (started:os.Started) (H:Type) (enc:TypeId×Value->H):
  ReturnsInHanded {} Tryz.checked os 3 .any (fun w args=>(Rows.viewWrongSpec.pre enc Tryz.prog Tryz.f3 [] false w args/\laidMetH Tryz.prog Rows.viewWrongRow.laid w)/\sizedMet enc Tryz.prog Tryz.f3 (OpenSpec.ofChange Rows.viewWrongSpec) false w args)
   (Rows.viewWrongSpec.post enc Tryz.prog Tryz.f3 false true false false):=by
 refine RU (C:=Tryz.checked) (X:=fun w _=>laidMetH Tryz.prog Rows.viewWrongRow.laid w) (fun _ _ _ hh h=>h.of_heap hh) own started (by kernel_rfl) Tryz.func3
  (ChangeSpec.witness_shaped (enc:=enc) (C:=Tryz.checked) (os:=os) (X:=fun w _=>laidMetH Tryz.prog Rows.viewWrongRow.laid w) false (World.laidAll Tryz.prog os Rows.viewWrongRow.laid) #[.agg #[.slice none 0 0,.slice none 0 0,.slice none 0 0],.agg #[.slice none 0 0,.slice none 0 0],.string default] 8 (World.laidAll_os _ _ _) (RM os) (by kernel_rfl) (by kernel_rfl) (by kernel_rfl) (a2e os _)) ?_
 intro W base args ds gs before hval0 hW hwt hL hsh;have hval:∀(j:Nat) t v,Tryz.f3.params[j]?=some t->args[j]?=some v->Value.okWide Tryz.prog W .any base t v:=hval0;have hW':=hW;obtain⟨p,q,hA0,hV,rfl,hfz,hnd⟩:=hW;have hA:DataW.TrodAll enc Tryz.prog W 0 (fun _=>true) true Tryz.f3.params.toList args.toList ds p:=hA0;have hwt0:(DataW.weightsEach Tryz.prog (Tryz.f3.params.toList++Rows.viewWrongSpec.plain.varTypes Tryz.prog) (ds++gs)).all (· <=reachBytes)=true:=hwt;rw[show Tryz.f3.params= #[26,30,9] from rfl] at hA hval hwt0;obtain⟨v0,v1,v2,d0,d1,d2,p0,p1,p2,rfl,rfl,rfl,h0,h1,h2⟩:=TP hA;obtain⟨rfl,rfl⟩:=trodVars_none hV;have hall:∀m∈DataW.weightsEach Tryz.prog ([26,30,9]++Rows.viewWrongSpec.plain.varTypes Tryz.prog) ([d0,d1,d2]++[]),m<=reachBytes:=fun m hm=>aB (List.all_eq_true.1 hwt0 m hm);have w0:o8 Tryz.prog 26 d0:=fun m hm=>hall m (zT (i:=0) (t:=26) (d:=d0) rfl rfl hm);have w1:o8 Tryz.prog 30 d1:=fun m hm=>hall m (zT (i:=1) (t:=30) (d:=d1) rfl rfl hm);have w2:o8 Tryz.prog 9 d2:=fun m hm=>hall m (zT (i:=2) (t:=9) (d:=d2) rfl rfl hm);have hlt:∀x∈p0++(p1++p2),x.block<W.heap.size:=fun x hx=>by simpa using hW'.lt x (by simpa using hx)
 have hlt0:∀x∈p0,x.block<W.heap.size:=fun x hx=>hlt x (by simp[hx]);have hlt1:∀x∈p1,x.block<W.heap.size:=fun x hx=>hlt x (by simp[hx]);have hlt2:∀x∈p2,x.block<W.heap.size:=fun x hx=>hlt x (by simp[hx]);obtain⟨m,hm,hms⟩:=R9 hsh;letI:MaxL:=⟨m⟩;obtain⟨s,hs,hv0⟩:=YZ (hval 0 _ v0 rfl rfl) h0 w0;obtain⟨V,o1,o2,o3,hv1⟩:=a3G (hval 1 _ v1 rfl rfl) h1 w1;have hh2:=h2;obtain⟨r,rfl,rfl,rfl,hr⟩:=open_string H7 (hval 2 9 v2 rfl rfl) h2;refine(VM (law s V r.data.toList hs o1 o2 o3 (dG (w2 _ (by unfold DataW.weights;simp)) (by decide))) (a8M hL hm hms) ⟨rfl,fun j g u g1 g2=>?_⟩).mono fun e W' ⟨he,hb⟩=>?_
 ·match j,g1,g2 with
  |0,g1,g2=>cases g1;cases g2;exact hv0
  |1,g1,g2=>cases g1;cases g2;exact hv1
  |2,g1,g2=>cases g1;cases g2;exact a8O _
 ·subst he;have hbel:Below W.heap.size W W':=⟨hb.os,hb.tape,hb.output,hb.size,fun k hk=>hb.block k hk (fun h=>h)⟩;refine⟨_,rfl,_,_,_,[],p0++(p1++[]),[],hW',?_,?_,rfl,UP (fun _ h=>h) hb,fun h=>by cases h⟩
  ·exact trodAll_mk1 (shut_bool Q6 true)
  ·refine trodAll_mk3 ?_ ?_ ?_
   ·exact Below.trod JP (by kernel_rfl) (aB (by kernel_rfl)) h0 hbel hlt0
   ·exact Below.trod JP (by kernel_rfl) (aB (by kernel_rfl)) h1 hbel hlt1
   ·exact Below.trod JP (by kernel_rfl) (aB (by kernel_rfl)) hh2 hbel hlt2
theorem NN (law:E7):Rows.ViewWrongSaid:=
 OpenClaim.holds_of_wide 3 Tryz.f3 rfl rfl rfl rfl rfl rfl rfl ⟨rfl,rfl,rfl,rfl,rfl⟩ rfl rfl rfl rfl rfl (by kernel_rfl) Tryz.func3 YN
  a3E a3D
  (fun os started H enc _=>EC law os started H enc)
theorem CU (h:Rows.ViewWrongSaid):Rows.ViewWrongCardSaid:=
 Claim7.holds_tied_plain_at .later [] [.data,.data,.data,.data,.sentinel,.sentinel,.pinned] true (true, "7843fc69233a9a7aac88cef64cd2e008dada54516b880517171de9111bc2ea16") true
  h (fun _ h=>by cases h) a8H (fun _ h=>by cases h) viewWrong_row_tie rfl ⟨rfl,rfl⟩ a8I rfl
  (fun f fn hf hfn=>by
   obtain rfl:f=3:=bA ((show Tryz.prog.funcNamed "ringwork/ringworklaw05.ViewWrong" =some 3 by kernel_rfl).symm.trans hf) |>.symm;obtain rfl:fn=Tryz.f3:=(bA (Tryz.func3.symm.trans hfn)).symm;exact⟨a8J,fun j t ht=>by
    rw[show Tryz.f3.params= #[26,30,9] from rfl] at ht
    match j,ht with
    |0,ht=>cases ht;exact(show Tryz.prog.wantsStandIn 26=false by kernel_rfl)
    |1,ht=>cases ht;exact(show Tryz.prog.wantsStandIn 30=false by kernel_rfl)
    |2,ht=>cases ht;exact(show Tryz.prog.wantsStandIn 9=false by kernel_rfl)
    |j+3,ht=>cases ht⟩)
  a8K
end
section
open Go.RowKit
theorem PQ [MaxL] (s:By):SC Tryz.prog 140 [.s s] [] (.val (nM s)) []:=by
 by_cases hl:1000<s.length
 ·have e:nM s=.tup [.o .nilIface,.i .i64 3]:=by unfold nM iP;rw[aD hl]
  rw[e];refine cO Tryz.func140 rfl ?_;conv=>whnf
  apply gM<;>intro h<;>conv=>whnf
  ·exact oW
  ·exfalso;have:=aA h;omega
 ·exact PR s (by unfold b9;omega)
def T8 (s u:By):GV:=match iP s with
 |.err e=>.tup [.o .nilIface,.o .nilIface,.i .i64 e]
 |.ok x=>match iP u with
  |.err e=>.tup [x.gv,.o .nilIface,.i .i64 e]
  |.ok y=>.tup [x.gv,y.gv,.i .i64 0]
theorem T7 [MaxL] (s u:By):Cl (T8 s u):=by
 unfold T8;split
 ·exact fun _=>rfl
 ·split
  ·exact i8 (.cons (jE _) (fun _=>rfl))
  ·exact i8 (.cons (jE _) (.cons (jE _) (.cons (.i _ _) .nil)))
theorem a6o [MaxL] (s u:By):SC Tryz.prog 298 [.s s,.s u] [] (.val (T8 s u)) []:=by
 have hr:=PQ s;have hcl:=wQ s;have hr2:=PQ u;have hcl2:=wQ u;have hcb:=T7 s u;unfold nM at hr hcl hr2 hcl2;unfold T8 at hcb⊢;cases h:iP s with
 |err e=>
  rw[h] at hr hcl hcb;replace hr:SC Tryz.prog 140 [.s s] [] (.val (.tup [.o .nilIface,.i .i64 e])) []:=hr;have he:=qJ h;simp only;rcases he with rfl|rfl|rfl;all_goals
   refine cO Tryz.func298 rfl ?_;(conv=>whnf);refine mG hr hcl ?_;(conv=>whnf);exact oW
 |ok x=>
  rw[h] at hr hcl hcb;replace hr:SC Tryz.prog 140 [.s s] [] (.val (.tup [x.gv,.i .i64 0])) []:=hr;simp only at hcb⊢;cases h2:iP u with
  |err e=>
   rw[h2] at hr2 hcl2 hcb;replace hr2:SC Tryz.prog 140 [.s u] [] (.val (.tup [.o .nilIface,.i .i64 e])) []:=hr2;refine cO Tryz.func298 rfl ?_;(conv=>whnf);refine mG hr hcl ?_;(conv=>whnf);refine mG hr2 hcl2 ?_;(conv=>whnf);exact cZ (.refl _) hcb
  |ok y=>
   rw[h2] at hr2 hcl2 hcb;replace hr2:SC Tryz.prog 140 [.s u] [] (.val (.tup [y.gv,.i .i64 0])) []:=hr2;refine cO Tryz.func298 rfl ?_;(conv=>whnf);refine mG hr hcl ?_;(conv=>whnf);refine mG hr2 hcl2 ?_;(conv=>whnf);exact cZ (.refl _) hcb
def zV (a:Bool) (s u:By):By×Int:=match iP s with
 |.err e=>([],e)
 |.ok x=>match iP u with
  |.err e=>([],e)
  |.ok y=>xZ (.pair a x y)
theorem a2t [MaxL] (a:Bool) (s u:By):SC Tryz.prog 260 [.s s,.s u,.i .i64 (lL a:Nat)] [] (.val (.tup [.s (zV a s u).1,.i .i64 (zV a s u).2])) []:=by
 have hr:=a6o s u;have hcl:=T7 s u;unfold T8 at hr hcl;unfold zV;cases h:iP s with
 |err e=>
  rw[h] at hr hcl;replace hr:SC Tryz.prog 298 [.s s,.s u] [] (.val (.tup [.o .nilIface,.o .nilIface,.i .i64 e])) []:=hr;have he:=qJ h;simp only;rcases he with rfl|rfl|rfl;all_goals
   refine cO Tryz.func260 rfl ?_;(conv=>whnf);refine mG hr hcl ?_;(conv=>whnf);exact oW
 |ok x=>
  rw[h] at hr hcl;obtain⟨hn,hz,_⟩:=mR h;simp only at hr hcl⊢;cases h2:iP u with
  |err e=>
   rw[h2] at hr hcl;replace hr:SC Tryz.prog 298 [.s s,.s u] [] (.val (.tup [x.gv,.o .nilIface,.i .i64 e])) []:=hr;have he:=qJ h2;simp only;rcases he with rfl|rfl|rfl;all_goals
    refine cO Tryz.func260 rfl ?_;(conv=>whnf);refine mG hr hcl ?_;(conv=>whnf);exact oW
  |ok y=>
   rw[h2] at hr hcl;replace hr:SC Tryz.prog 298 [.s s,.s u] [] (.val (.tup [x.gv,y.gv,.i .i64 0])) []:=hr;obtain⟨hn2,hz2,_⟩:=mR h2;have hres:=L5 (.pair a x y) ⟨hn,hn2⟩ (by simp only[Tree.size];omega);simp only;generalize xZ (.pair a x y)=q at*;obtain⟨w,e⟩:=q;refine cO Tryz.func260 rfl ?_;(conv=>whnf);refine mG hr hcl ?_;(conv=>whnf);refine bT hres (wR _) rfl (cC (jE (.pair a x y)) .nil) (fun _=>rfl) ?_;(conv=>whnf);exact oW
theorem a81 [MaxL] (s u:By):SC Tryz.prog 207 [.s s,.s u] [] (.val (.tup [.s (zV true s u).1,.i .i64 (zV true s u).2])) []:=by
 have h:=a2t true s u;refine cO Tryz.func207 rfl ?_;conv=>whnf
 refine mG h (fun _=>rfl) ?_;conv=>whnf
 exact oW
def isP (a:Bool):Tree->Bool
 |.pair b _ _=>a==b
 |_=>false
theorem IQ {a:Bool} {t:Tree} (h:isP a t=false):t.sides a=[t]:=by
 cases t with
 |pair b l r=>
  have:¬a=b:=by simpa[isP] using h
  unfold Tree.sides;rw[aC this]
 |no t=>rfl
 |test _ _ _=>rfl
 |truth _=>rfl
theorem IR (a:Bool):∀t:Tree,∀x∈t.sides a,isP a x=false
 |.pair b l r,x,hx=>by
  unfold Tree.sides at hx;split at hx
  ·rcases List.mem_append.1 hx with hx|hx
   ·exact IR a l x hx
   ·exact IR a r x hx
  ·rename_i h;rw[List.mem_singleton.1 hx];simpa[isP] using h
 |.no t,x,hx=>by rw[List.mem_singleton.1 (show x∈[Tree.no t] from hx)];rfl
 |.test op l r,x,hx=>by rw[List.mem_singleton.1 (show x∈[Tree.test op l r] from hx)];rfl
 |.truth b,x,hx=>by rw[List.mem_singleton.1 (show x∈[Tree.truth b] from hx)];rfl
theorem RP (a:Bool) (t:Tree):isP a t.flat=isP a t:=by
 cases t with
 |pair b l r=>
  have e:(Tree.pair b l r).flat=dA b (some (dA b none l)) r:=by
   rw[BE b];conv=>lhs;unfold dA
   rw[aD rfl]
  obtain⟨l',r',h⟩:=yK b r (dA b none l);rw[e,h];rfl
 |no t=>rfl
 |test _ _ _=>rfl
 |truth _=>rfl
theorem KO (a:Bool):∀(xs:List Tree) (q:Tree),(xs.foldl (fun q y=>Tree.pair a q y.flat) q).sides a=q.sides a++xs.flatMap (fun y=>y.flat.sides a)
 |[],q=>by simp
 |y::xs,q=>by
  rw[eV,KO a xs,dV,<-bD];congr 1;show(Tree.pair a q y.flat).sides a=_;conv=>lhs;unfold Tree.sides
  rw[aD rfl]
theorem GP {α:Type} {f g:α->List α} {h:α->α}:∀{xs:List α},(∀y∈xs,f y=[h y])->xs.flatMap f=xs.map h
 |[],_=>rfl
 |y::xs,hh=>by
  rw[dV,hh y (by simp),GP (g:=g) (fun z hz=>hh z (by simp[hz]))];rfl
theorem TW (a:Bool) (t:Tree):t.flat.sides a=(t.sides a).map Tree.flat:=by
 by_cases hp:isP a t=true
 ·cases t with
  |pair b l r=>
   have:a=b:=by simpa[isP] using hp
   subst this;obtain⟨x,xs,h1,h2⟩:=FJ a l r;have hn:=IR a (Tree.pair a l r);rw[h1] at hn⊢;have one:∀y∈x::xs,y.flat.sides a=[y.flat]:=fun y hy=>IQ (by rw[RP];exact hn y hy);rw[h2,KO,one x (by simp),GP (g:=fun y=>[y]) (fun y hy=>one y (by simp[hy]))];rfl
  |no t=>cases hp
  |test _ _ _=>cases hp
  |truth _=>cases hp
 ·have hp':isP a t=false:=by simpa using hp
  rw[IQ hp',IQ (by rw[RP];exact hp')];rfl
theorem SI {α β:Type} {f:α->β->α} {h:β->β} (hf:∀q x,f q (h x)=f q x):∀(xs:List β) (q:α),(xs.map h).foldl f q=xs.foldl f q
 |[],q=>rfl
 |x::xs,q=>by rw[dJ,eV,eV,hf,SI hf xs]
theorem KT (a:Bool) (t:Tree) (acc:Option Tree):dA a acc t.flat=dA a acc t:=by
 have h1:=s3 a t.flat acc;have h2:=s3 a t acc;rw[TW,SI (fun q x=>by rw[FM])] at h1;exact bA (h1.trans h2.symm)
theorem ZF (a:Bool) (x y:Tree):(Tree.pair a x.flat y.flat).flat=(Tree.pair a x y).flat:=by
 rw[BE a (Tree.pair a x.flat y.flat),BE a (Tree.pair a x y)];conv=>lhs;unfold dA
 conv=>rhs;unfold dA
 rw[aD rfl,aD rfl,KT,KT]
theorem a1H (a:Bool) (x y:Tree):xZ (.pair a x.flat y.flat)=xZ (.pair a x y):=by
 unfold xZ;rw[ZF]
theorem O4 [MaxL] (s:By):SC Tryz.prog 120 [.s s] [] (.val (kI s)) []:=by
 by_cases hl:1000<s.length
 ·have e:kI s=.tup [nG,.i .i64 3]:=by unfold kI jH;rw[aD hl]
  rw[e];refine cO Tryz.func120 rfl ?_;conv=>whnf
  apply gM<;>intro h<;>conv=>whnf
  ·skip;refine sT ?_;(conv=>whnf);exact cZ (uT n7 (.refl _)) (i8 (.cons uA (.cons (.i _ _) .nil)))
  ·exfalso;have:=aA h;omega
 ·exact J6 s (by omega)
def TN (a:Bool) (s u:By):By×Int:=match jH s with
 |.err e=>([],e)
 |.ok x=>match jH u with
  |.err e=>([],e)
  |.ok y=>yW (.pair a x y)
theorem a3b (a:Bool) (s u:By):TN a s u=zV a s u:=by
 unfold TN zV;have hr:=rO s;have hr2:=rO u;cases hx:jH s with
 |err e=>rw[hx] at hr;rw[hr]
 |ok x=>
  rw[hx] at hr;rw[hr];cases hy:jH u with
  |err e=>rw[hy] at hr2;rw[hr2]
  |ok y=>
   rw[hy] at hr2;rw[hr2];simp only;rw[a1H,IJ (show(Tree.pair a x y).good from⟨mS hx,mS hy⟩)]
theorem D0 (a:Bool):∀t:Tree,(t.sides a).length<=t.size
 |.pair b l r=>by
  have h1:=D0 a l;have h2:=D0 a r;unfold Tree.sides;split
  ·rw[aG];simp only[Tree.size];omega
  ·simp only[Tree.size,j5];omega
 |.no t=>by show 1<=Tree.size _;simp only[Tree.size];omega
 |.test _ _ _=>by show 1<=Tree.size _;simp[Tree.size]
 |.truth _=>by show 1<=Tree.size _;simp[Tree.size]
theorem a7O [MaxL] (a:Bool) (s u:By):SC Tryz.prog 215 [.i .i64 (lL a:Nat),.s s,.s u] [] (.val (.tup [.s (TN a s u).1,.i .i64 (TN a s u).2])) []:=by
 have hr:=O4 s;have hrc:=qM s;have hr2:=O4 u;have hrc2:=qM u;unfold kI at hr hrc hr2 hrc2;unfold TN;cases hx:jH s with
 |err e=>
  rw[hx] at hr hrc;replace hr:SC Tryz.prog 120 [.s s] [] (.val (.tup [nG,.i .i64 e])) []:=hr;replace hrc:Cl (.tup [nG,.i .i64 e]):=hrc;have he:=qL hx;simp only;rcases he with rfl|rfl|rfl;all_goals
   refine cO Tryz.func215 rfl ?_;(conv=>whnf);refine mG hr hrc ?_;(conv=>whnf);refine sT ?_;(conv=>whnf);exact oW
 |ok x=>
  rw[hx] at hr hrc;replace hr:SC Tryz.prog 120 [.s s] [] (.val (.tup [x.ng,.i .i64 0])) []:=hr;replace hrc:Cl (.tup [x.ng,.i .i64 0]):=hrc;have hz:=qK hx;have hxc:=x.ng_cl;obtain⟨k,kids,A,B,op,yes,hng⟩:=fL x;simp only;cases hy:jH u with
  |err e=>
   rw[hy] at hr2 hrc2;replace hr2:SC Tryz.prog 120 [.s u] [] (.val (.tup [nG,.i .i64 e])) []:=hr2;replace hrc2:Cl (.tup [nG,.i .i64 e]):=hrc2;have he:=qL hy;simp only;rw[hng] at hr hrc;rcases he with rfl|rfl|rfl;all_goals
    refine cO Tryz.func215 rfl ?_;(conv=>whnf);refine mG hr hrc ?_;(conv=>whnf);refine sT ?_;(conv=>whnf);refine mG hr2 hrc2 ?_;(conv=>whnf);refine sT ?_;(conv=>whnf);exact oW
  |ok y=>
   rw[hy] at hr2 hrc2;replace hr2:SC Tryz.prog 120 [.s u] [] (.val (.tup [y.ng,.i .i64 0])) []:=hr2;replace hrc2:Cl (.tup [y.ng,.i .i64 0]):=hrc2;have hz2:=qK hy;have hyc:=y.ng_cl;obtain⟨k2,kids2,A2,B2,op2,yes2,hng2⟩:=fL y;simp only;have hj:=JA a x [y] (by simp) (by
    have h1:=D0 a x;have h2:=D0 a y;simp only[dV,List.flatMap_nil,f5,aG];omega)
   replace hj:SC Tryz.prog 226 [.i .i64 (lL a:Nat),.sl .none [x.ng,y.ng]] [] (.val (Tree.pair a x y).ng) []:=hj;have ht:=U9 (.pair a x y) ⟨mS hx,mS hy⟩ (by simp only[Tree.size];omega);have hpc:=(Tree.pair a x y).ng_cl;generalize yW (.pair a x y)=q at*;obtain⟨w,e⟩:=q;obtain⟨k3,kids3,A3,B3,op3,yes3,hng3⟩:=fL (.pair a x y);rw[hng3] at hj ht hpc;rw[hng,hng2] at hj;rw[hng] at hr hrc hxc;rw[hng2] at hr2 hrc2 hyc;refine cO Tryz.func215 rfl ?_;(conv=>whnf);refine mG hr hrc ?_;(conv=>whnf);refine sT ?_;(conv=>whnf);refine mG hr2 hrc2 ?_;(conv=>whnf);refine sT ?_;(conv=>whnf);refine bT hj (wC (bF _) (wC (bY _ _) (wR _))) rfl (cC (.i _ _) (cC (bK (cC hxc (cC hyc .nil))) .nil)) hpc ?_;(conv=>whnf);refine bT ht (wR _) rfl (cC hpc .nil) (fun _=>rfl) ?_;(conv=>whnf);exact oW
theorem a7U [MaxL] (s u:By):SC Tryz.prog 158 [.s s,.s u] [] (.val (.tup [.s (TN true s u).1,.i .i64 (TN true s u).2])) []:=by
 have h:=a7O true s u;refine cO Tryz.func158 rfl ?_;conv=>whnf
 refine mG h (fun _=>rfl) ?_;conv=>whnf
 exact oW
def Tree.mp (f:Term->Term):Tree->Tree
 |.pair a l r=>.pair a (l.mp f) (r.mp f)
 |.no t=>.no (t.mp f)
 |.test op l r=>.test op (f l) (f r)
 |.truth b=>.truth b
theorem DD (f:Term->Term):∀t:Tree,(t.mp f).size=t.size
 |.pair a l r=>by simp only[Tree.mp,Tree.size,DD f l,DD f r]
 |.no t=>by simp only[Tree.mp,Tree.size,DD f t]
 |.test _ _ _=>rfl
 |.truth _=>rfl
theorem B4 {f:Term->Term} (hf:∀x,x.good->(f x).good):∀{t:Tree},t.good->(t.mp f).good
 |.pair a l r,h=>⟨B4 hf h.1,B4 hf h.2⟩
 |.no t,h=>B4 (t:=t) hf h
 |.test op l r,h=>⟨h.1,hf _ h.2.1,hf _ h.2.2⟩
 |.truth b,h=>trivial
def chF (k:FuncId):GV:=.fn (.func k) [] [.ptr 0 0,.ptr 1 0]
theorem PN [MaxL] {k:FuncId} {T0 T1:TypeId} {c0 c1:List GV} {t:Tree} (e:Nat->Nat) (he:∀i,i<[GObj.box T0 c0,GObj.box T1 c1].length->e i=i):[t.gv,chF k].map (GV.ren e)=[t.gv,chF k]:=by
 show[t.gv.ren e,GV.fn _ [] [.ptr (e 0) 0,.ptr (e 1) 0]]=_;rw[t.cl e,he 0 (by simp),he 1 (by simp)];rfl
theorem a2k [MaxL] {T0 T1:TypeId} {c0 c1:List GV} {t:Term} (e:Nat->Nat) (he:∀i,i<[GObj.box T0 c0,GObj.box T1 c1].length->e i=i):[t.gv,.ptr 0 0,.ptr 1 0].map (GV.ren e)=[t.gv,.ptr 0 0,.ptr 1 0]:=by
 show[t.gv.ren e,GV.ptr (e 0) 0,.ptr (e 1) 0]=_;rw[t.cl e,he 0 (by simp),he 1 (by simp)]
theorem AS [MaxL] {T0 T1:TypeId} {c0 c1:List GV} (h0:ClL c0) (h1:ClL c1):H5 [GObj.box T0 c0,GObj.box T1 c1]:=fun e he=>by
 show[GObj.box T0 (c0.map (GV.ren e)),GObj.box T1 (c1.map (GV.ren e))]=_;rw[h0 e,h1 e]
theorem xH [MaxL] {P:Program} {M:FuncId->Bool} {k:FuncId} {args args':List GV} {s rest:List GObj} {r:GV} {σ:GS} {K:GRes->GS->Prop} (h:SC P k args s (.val r) s) (ho:σ.objs=s++rest) (hlo:σ.lo=0)
  (hc:H5 s) (hh:s.all GObj.notHeld=true) (ha:∀e:Nat->Nat,(∀i,i<s.length->e i=i)->args.map (GV.ren e)=args) (hr:Cl r) (hw:Wks args' args) (hk:K (.val r) σ):gZ P M (.fn k) args' σ K:=by
 have hh':∀x∈s,x≠ .held:=fun x hx e=>by subst e;have:=List.all_eq_true.1 hh _ hx;cases this
 have he:∀i,i<s.length->jZ (List.range s.length) σ.objs.length i=i:=fun i hi=>DR hi;have hf:=h.fact (σ:=σ) (args':=args') (List.range s.length) (by rw[ho];exact Lies.pre hc hh') hlo (by rw[ha _ he];exact hw);rw[show(GRes.val r).ren (jZ (List.range s.length) σ.objs.length)=.val r by show GRes.val (r.ren _)=_;rw[hr],ho,G4 rfl hc,<-ho] at hf;exact⟨_,σ,hf,(fun _ _ _=>rfl),hk⟩
theorem a2D {c:Prop} [Decidable c] {A B:Prop} (h:c) (ha:A):if c then A else B:=by rw[aD h];exact ha
theorem BJ [MaxL] {k:FuncId} {T0 T1:TypeId} {c0 c1:List GV} {f:Term->Term} (h0:ClL c0) (h1:ClL c1)
  (hk:mC Tryz.prog k=true) (hf:∀t:Term,SC Tryz.prog k [t.gv,.ptr 0 0,.ptr 1 0] [.box T0 c0,.box T1 c1] (.val (f t).gv) [.box T0 c0,.box T1 c1]):
  ∀t:Tree,SC Tryz.prog 258 [t.gv,chF k] [.box T0 c0,.box T1 c1] (.val (t.mp f).gv) [.box T0 c0,.box T1 c1]
 |.pair a x y=>by
  have s1:=BJ h0 h1 hk hf x;have s2:=BJ h0 h1 hk hf y;have ho:=AS (T0:=T0) (T1:=T1) h0 h1;refine bQ oP mixed Tryz.func258 rfl (bL rfl) (bL rfl) rfl ?_;conv=>whnf
  refine sT ?_;conv=>whnf
  refine lQ ?_;conv=>whnf
  refine xH (rest:=[.box 259 (Tree.pair a x y).cs]) s1 rfl rfl ho rfl PN ((x.mp f).cl) (wR _) ?_;conv=>whnf
  refine xH (rest:=[.box 259 (Tree.pair a x y).cs]) s2 rfl rfl ho rfl PN ((y.mp f).cl) (wR _) ?_;conv=>whnf
  exact eX (rest:=[_]) rfl (rL _) ho rfl (fun e _=>aR GRes.val (jE (.pair a (x.mp f) (y.mp f)) e)) (bF _)
 |.no x=>by
  have s1:=BJ h0 h1 hk hf x;have ho:=AS (T0:=T0) (T1:=T1) h0 h1;refine bQ oP mixed Tryz.func258 rfl (bL rfl) (bL rfl) rfl ?_;conv=>whnf
  refine sT ?_;conv=>whnf
  refine xH (rest:=[.box 261 (Tree.no x).cs]) s1 rfl rfl ho rfl PN ((x.mp f).cl) (wR _) ?_;conv=>whnf
  exact eX (rest:=[_]) rfl (rL _) ho rfl (fun e _=>aR GRes.val (jE (.no (x.mp f)) e)) (bF _)
 |.test op a b=>by
  have s1:=hf a;have s2:=hf b;have ho:=AS (T0:=T0) (T1:=T1) h0 h1;refine bQ oP mixed Tryz.func258 rfl (bL rfl) (bL rfl) rfl ?_;conv=>whnf
  refine sT ?_;conv=>whnf
  refine GDraw.wild _ _ _ rfl rfl rfl (by kernel_rfl) ?_;conv=>whnf
  refine a2D hk ?_;refine xH (rest:=[.held]) s1 rfl rfl ho rfl a2k ((f a).cl) (wR _) ?_;conv=>whnf
  refine a2D hk ?_;refine xH (rest:=[.held]) s2 rfl rfl ho rfl a2k ((f b).cl) (wR _) ?_;conv=>whnf
  exact eX (rest:=[_]) rfl (rL _) ho rfl (fun e _=>aR GRes.val (jE (.test op (f a) (f b)) e)) (bF _)
 |.truth b=>by
  have ho:=AS (T0:=T0) (T1:=T1) h0 h1;refine bQ oP mixed Tryz.func258 rfl (bL rfl) (bL rfl) rfl ?_;conv=>whnf
  exact eX (rest:=[]) rfl (rL _) ho rfl (fun e _=>aR GRes.val (jE (.truth b) e)) (bF _)
def yQ (x:By) (v:Val) (t:Term):Term:=if t.var=true/\t.name=x then⟨[],false,v⟩ else t
def lV (f g:List By) (t:Term):Term:=if t.var=false/\t.name≠[] then match f.findIdx? (· ==t.name) with
  |some i=>⟨g.getD i [],false,t.v⟩
  |none=>t
 else t
theorem WX [MaxL] (x:By) (v:Val) (t:Term) (h:t.var=true->t.name≠[]):SC Tryz.prog 262 [.agg (Q1 t),.s x,v.gv] [] (.val (.agg (Q1 (yQ x v t)))) []:=by
 obtain⟨nm,vr,w⟩:=t;cases vr with
 |false=>
  refine cO Tryz.func262 rfl ?_;conv=>whnf
  repeat (refine sT ?_;conv=>whnf)
  exact oW
 |true=>
  have h':nm≠[]:=h rfl;by_cases hx:nm=x
  ·have e:yQ x v ⟨nm,true,w⟩=⟨[],false,v⟩:=aD ⟨rfl,hx⟩;rw[e];refine cO Tryz.func262 rfl ?_;(conv=>whnf);apply gM<;>intro h1<;>conv=>whnf
   ·skip;apply gM<;>intro h2<;>conv=>whnf
    ·skip;repeat (refine sT ?_;conv=>whnf)
     exact oW
    ·exfalso;simp[hx] at h2
   ·exfalso;simp at h1;exact h' h1
  ·have e:yQ x v ⟨nm,true,w⟩=⟨nm,true,w⟩:=aC (fun q=>hx q.2);rw[e];refine cO Tryz.func262 rfl ?_;(conv=>whnf);apply gM<;>intro h1<;>conv=>whnf
   ·skip;apply gM<;>intro h2<;>conv=>whnf
    ·exfalso;simp at h2;exact hx h2
    ·skip;repeat (refine sT ?_;conv=>whnf)
     exact oW
   ·skip;repeat (refine sT ?_;conv=>whnf)
    exact oW
theorem a4R {f:List By} {s:By} (h:∀z∈f,z≠s):f.findIdx? (· ==s)=none:=by
 rw[List.findIdx?_eq_none_iff];intro z hz;simpa using h z hz
theorem a4S {f:List By} {s:By} {i:Nat} (h:f[i]?=some s) (hn:∀z∈f.take i,z≠s):f.findIdx? (· ==s)=some i:=by
 rw[List.findIdx?_eq_some_iff_getElem];obtain⟨hi,he⟩:=List.getElem?_eq_some_iff.1 h;refine⟨hi,by simpa using he,fun j hj=>?_⟩;have:=hn f[j] (List.mem_take_iff_getElem.2 ⟨j,by omega,rfl⟩);simpa using this
theorem a0r {f:List By} {s y:By} {i:Nat} (hn:∀z∈f.take i,z≠s) (hy:f[i]?=some y) (h:y≠s):∀z∈f.take (i+1),z≠s:=fun z hz=>by
 rw[aT,hy] at hz;rcases List.mem_append.1 hz with q|q
 ·exact hn z q
 ·simp at q;rw[q];exact h
theorem M6 [MaxL] (f g:List By) (hf:f.length<1000000) (hg:f.length<=g.length) (t:Term):
  SC Tryz.prog 263 [.agg (Q1 t),.sl .none (bR f),.sl .none (bR g)] [] (.val (.agg (Q1 (lV f g t)))) []:=by
 have hlen:=cD f;obtain⟨nm,vr,w⟩:=t;cases vr with
 |true=>
  have e:lV f g ⟨nm,true,w⟩=⟨nm,true,w⟩:=aC (fun q=>by cases q.1);rw[e];refine cO Tryz.func263 rfl ?_;conv=>whnf
  repeat (refine sT ?_;conv=>whnf)
  exact oW
 |false=>
  by_cases h0:nm=[]
  ·have e:lV f g ⟨nm,false,w⟩=⟨nm,false,w⟩:=aC (fun q=>q.2 h0);rw[e];subst h0;refine cO Tryz.func263 rfl ?_;(conv=>whnf);repeat (refine sT ?_;conv=>whnf)
   exact oW
  ·have e:lV f g ⟨nm,false,w⟩=match f.findIdx? (· ==nm) with
    |some i=>⟨g.getD i [],false,w⟩
    |none=>⟨nm,false,w⟩:=aD ⟨rfl,h0⟩
   generalize lV f g ⟨nm,false,w⟩=Q at*;refine cO Tryz.func263 rfl ?_;(conv=>whnf);apply gM<;>intro h1<;>conv=>whnf
   ·exfalso;simp at h1;exact h0 h1
   refine dH (fun i:Nat=>i<=f.length/\∀z∈f.take i,z≠nm) (fun i=>[(1,.sl .none (bR f)),(2,.sl .none (bR g)),(3,.ptr 0 0),(6,.ptr 1 0),(7,.i .i64 (i:Nat))]) (fun _=>⟨[.box 167 (Q1 ⟨nm,false,w⟩),.box 167 (Q1 t0)],0,[]⟩) (fun i=>f.length - i) 0 ⟨zL _,fun z h=>by simp at h⟩ ⟨rfl,rfl,rfl,rfl,rfl,trivial⟩ rfl (fun _ _=>rL _) (fun _ _=>rfl) (fun i _ e he=>?_) (fun i φ0 hi=>?_)
   ·refine⟨rfl,rfl,?_⟩;show[(GV.sl .none (bR f)).ren e,(GV.sl .none (bR g)).ren e,.ptr (e 0) 0,.ptr (e 1) 0,_]=_;rw[bK (eJ f) e,bK (eJ g) e,he 0 (by simp),he 1 (by simp)];rfl
   obtain⟨hi,hne⟩:=hi;(conv=>whnf);apply gM<;>intro h<;>conv=>whnf
   rotate_left
   ·have hie:i=f.length:=by have:=aA h;omega
    rw[hie,aV] at hne;have eT:Q=⟨nm,false,w⟩:=by rw[e,a4R hne]
    cases eT;repeat (refine sT ?_;conv=>whnf)
    exact oW
   have hlt:i<f.length:=by have:=aB h;omega
   obtain⟨y,hy⟩:∃y,f[i]?=some y:=⟨f[i],gL hlt⟩;have hgy:(bR f)[i]?=some (.s y):=by unfold bR;rw[aK,hy];rfl
   obtain⟨x,hx⟩:∃x,g[i]?=some x:=⟨g[i]'(by omega),gL _⟩;have hgx:(bR g)[i]?=some (.s x):=by unfold bR;rw[aK,hx];rfl
   refine lQ ?_;(conv=>whnf);refine⟨jR _,.s y,by rw[aL];exact hgy,rfl,?_⟩;(conv=>whnf);apply gM<;>intro heq<;>conv=>whnf
   ·have e2:y=nm:=by simpa using heq
    have eT:Q=⟨x,false,w⟩:=by
     rw[e,a4S (by rw[hy,e2]) hne];show(⟨g.getD i [],false,w⟩:Term)=_;rw[aO,hx];rfl
    cases eT;refine⟨jR _,.s x,by rw[aL];exact hgx,rfl,?_⟩;(conv=>whnf);refine sT ?_;(conv=>whnf);repeat (refine sT ?_;conv=>whnf)
    exact oW
   ·have e2:y≠nm:=by simpa using heq
    exact⟨f.length - (i+1),(by show _<f.length - i;omega),i+1,⟨hlt,a0r hne hy e2⟩,rfl,⟨rfl,rfl,rfl,rfl,bH (by omega),trivial⟩,[],rfl,rfl⟩
def a1p (f g:List By) (w:By):By:=match f.findIdx? (· ==w) with
 |some i=>g.getD i []
 |none=>w
def J0 (s:By) (f g:List By):By×Int:=match iP s with
 |.err e=>([],e)
 |.ok t=>if f.length=g.length then(if(f++g).all kG then xZ (t.mp (lV f g)) else([],1)) else([],11)
theorem a3o (f g:List By) {t:Term} (hv:t.var=false) (hn:t.name≠[]):lV f g t=⟨a1p f g t.name,false,t.v⟩:=by
 unfold lV a1p;rw[aD ⟨hv,hn⟩];cases f.findIdx? (· ==t.name) with
 |some i=>rfl
 |none=>obtain⟨nm,vr,w⟩:=t;simp only at hv;subst hv;rfl
theorem WU (f g:List By) {t:Term} (h:¬(t.var=false/\t.name≠[])):lV f g t=t:=aC h
theorem a44 {f g:List By} (h:(f++g).all kG=true) (hl:f.length=g.length) {w:By} (hw:kG w=true):kG (a1p f g w)=true:=by
 unfold a1p;cases e:f.findIdx? (· ==w) with
 |none=>exact hw
 |some i=>
  obtain⟨hi,_,_⟩:=List.findIdx?_eq_some_iff_getElem.1 e;have hi':i<g.length:=by omega
  show kG (g.getD i [])=true;rw[aO,gL hi',jL];exact List.all_eq_true.1 h _ (List.mem_append.2 (.inr (dX hi')))
theorem R3 (w:By):kG w=true↔dU w=true/\a7o.contains w=false:=by
 unfold kG;rw[aF,eL]
theorem IY {f g:List By} (h:(f++g).all kG=true) (hl:f.length=g.length) {t:Term} (ht:t.good):(lV f g t).good:=by
 by_cases hc:t.var=false/\t.name≠[]
 ·rw[a3o f g hc.1 hc.2];rcases ht with⟨h1,h2,h3,h4⟩|⟨h1,_,_⟩
  ·have:=a44 h hl ((R3 t.name).2 ⟨h2,h3⟩);obtain⟨k1,k2⟩:=(R3 _).1 this;exact .inl ⟨(fun e=>by rw[show a1p f g t.name=[] from e] at k1;cases k1),k1,k2,h4⟩
  ·exact absurd h1 hc.2
 ·rw[WU f g hc];exact ht
def CS (t:By):List By:=match iP t with
 |.ok x=>m6 false [] x
 |.err _=>[]
def cW (r:VwR) (n:By):Option By:=(r.items.find? (fun p=>p.2==n)).map (·.1)
def a4w:List By:=[[97,110,100],[111,114],[110,111,116],[116,114,117,101],[102,97,108,115,101]]
def tM (n:By):Bool:=a4w.contains n
def tS (r:VwR) (n:By):Bool:=match cW r n with
 |some x=>!tM x
 |none=>false
def asT (r:VwR) (t:By):Option By:=
 if t=[]∨(CS t).all (tS r)=false then some [] else
  if(J0 t (CS t) ((CS t).filterMap (cW r))).2=0 then some (J0 t (CS t) ((CS t).filterMap (cW r))).1 else none
def E2 (a b:By):Option By:=if a=[] then some b else if b=[] then some a else
 if(zV true a b).2=0 then some (zV true a b).1 else none
def SQ (o:Rc) (r:VwR):Option By:=(asT r o.check).bind fun c=>(asT r r.only).bind fun d=>E2 c d
def kJ (v:Vw) (n:By):Option VwR:=v.recs.find? (fun r=>r.of==n)
def vN (v:Vw):List By:=v.recs.map (·.name)
def vO (v:Vw):List By:=v.recs.map (·.of)
def EB (o:Rc) (r:VwR) (j:Nat) (p:By×By):Int:=
 cX (!dU p.1) 1 (cX (((r.items.map (·.1)).take j).contains p.1) 6 (cX (!(o.its.any (fun x=>x.name==p.2))) 5 (cX (((r.items.map (·.2)).take j).contains p.2) 6 0)))
def a5P (o:Rc) (r:VwR):Int:=if r.only=[] then 0 else cX (!o6 r.only) 2 (CM o.its [] r.only)
def rG (s:Sch) (v:Vw) (i:Nat) (r:VwR):Int:=
 gJ (bW s++(vN v).take i) r.name (cX (!((fV s).contains r.of)) 5 (cX (((vO v).take i).contains r.of) 6 (cX r.items.isEmpty 11 (UF (kE (EB (bS s r.of) r) r.items) (a5P (bS s r.of) r)))))
def sK (s:Sch) (n:By):Sy:=(s.st.find? (·.name==n)).getD ⟨[],[],[],0,[],0,0⟩
def CV (v:Vw) (t:Sy):List Mb:=t.ms.filter fun m=>(kJ v m.of).isSome
def NP (v:Vw) (n i:By):Option By:=(kJ v n).bind fun r=>cW r i
def rH (v:Vw) (k:By):List Mb->Option By->Bool
 |[],_=>true
 |m::l,f=>match NP v m.of k with
  |none=>false
  |some n=>(match f with|none=>true|some x=>n==x)&&rH v k l (some n)
def zH (s:Sch) (v:Vw) (t:Sy) (m:Mb):Bool:=m.sel.all (fun n=>(NP v m.of n).isSome)&&(m.sel.isEmpty||(bS s t.owner).keys.all (fun n=>(NP v t.owner n).isSome))
def vJ (s:Sch) (v:Vw) (t:Sy):Bool:=t.keys.all (fun k=>rH v k.item (CV v t) none)&&(CV v t).all (zH s v t)
def TD (v:Vw):List By:=v.sets.map (·.1)
def vSO (v:Vw):List By:=v.sets.map (·.2)
def uV (s:Sch) (v:Vw) (i:Nat) (p:By×By):Int:=
 gJ (bW s++(vN v++(TD v).take i)) p.1 (cX (!((sA s).contains p.2)) 5 (cX (((vSO v).take i).contains p.2) 6
  (cX ((sK s p.2).owner !=[]&&(kJ v (sK s p.2).owner).isNone) 14 (cX (CV v (sK s p.2)).isEmpty 11 (cX (!vJ s v (sK s p.2)) 10 0)))))
def pY (s:Sch) (i:Nat) (r:VwR):Int:=if(SQ (bS s r.of) r).isNone then 4 else 0
def mM (s:Sch) (v:Vw):Nat×Int:=if !t8 v.recs.length 1 10 then(0,4) else(dZ (rG s v) 0 v.recs).getD (0,0)
def oT (s:Sch) (v:Vw):Nat×Int:=if v.sets.length>60 then(0,4) else(dZ (uV s v) 0 v.sets).getD (0,0)
def tN (s:Sch) (v:Vw):Nat×Int:=(dZ (pY s) 0 v.recs).getD (0,0)
def wA (s:Sch) (v:Vw):By×Nat×Int:=
 if(kY s).2.2≠0 then([],0,1) else if(mM s v).2≠0 then(iR,mM s v) else if(oT s v).2≠0 then(nF,oT s v) else
  if(tN s v).2≠0 then(iR,tN s v) else([],0,0)
structure GoodV (s:Sch) (r:VwR):Prop where
 there:(fV s).contains r.of=true
 ne:r.items≠[]
 names:∀p∈r.items,dU p.1=true
 ofs:(r.items.map (·.2)).Nodup
 known:∀p∈r.items,(bS s r.of).its.any (fun x=>x.name==p.2)=true
theorem UI {l:List By} (h:∀j x,l[j]?=some x->(l.take j).contains x=false):l.Nodup:=by
 rw[List.nodup_iff_pairwise_ne,List.pairwise_iff_getElem];intro i j hi hj hij e;have:=h j l[j] (gL hj);rw[iJ,bV] at this;exact this (List.mem_take_iff_getElem.2 ⟨i,by omega,e⟩)
theorem YO {s:Sch} {v:Vw} {i:Nat} {r:VwR} (h:rG s v i r=0):GoodV s r:=by
 unfold rG gJ at h;obtain⟨-,h⟩:=bM h (by decide);obtain⟨-,h⟩:=bM h (by decide);obtain⟨h1,h⟩:=bM h (by decide);obtain⟨-,h⟩:=bM h (by decide);obtain⟨h2,h⟩:=bM h (by decide);obtain⟨h3, -⟩:=zR h;have h4:∀j p,r.items[j]?=some p->dU p.1=true/\(bS s r.of).its.any (fun x=>x.name==p.2)=true/\((r.items.map (·.2)).take j).contains p.2=false:=fun j p hp=>by
  have h5:=yL h3 j p hp;unfold EB at h5;obtain⟨h6,h5⟩:=bM h5 (by decide);obtain⟨-,h5⟩:=bM h5 (by decide);obtain⟨h7,h5⟩:=bM h5 (by decide);obtain⟨h8, -⟩:=bM h5 (by decide);exact⟨by simpa using h6,by simpa using h7,h8⟩
 refine⟨by simpa using h1,fun e=>(by rw[e] at h2;cases h2),fun p hp=>?_,UI fun j x hx=>?_,fun p hp=>?_⟩
 ·obtain⟨j,hj⟩:=f9 hp;exact(h4 j p hj).1
 ·rw[aK,aH] at hx;obtain⟨p,hp,rfl⟩:=hx;exact(h4 j p hp).2.2
 ·obtain⟨j,hj⟩:=f9 hp;exact(h4 j p hj).2.1
theorem I8 {s:Sch} {v:Vw} (h:(mM s v).2=0):∀r∈v.recs,GoodV s r:=by
 unfold mM at h;cases hb:t8 v.recs.length 1 10 with
 |false=>rw[hb] at h;exact absurd (show(4:Int)=0 from h) (by decide)
 |true=>
  rw[hb] at h;have h0:=MZ h fun p hp=>xE hp;intro r hr;obtain⟨j,hj⟩:=f9 hr;exact YO (o5 h0 j r hj)
instance [MaxL] {l:List (By×By)}:KL (nK l):=⟨UR l⟩
instance [MaxL] {l:List VwR}:KL (fP l):=⟨QJ l⟩
instance [MaxL] {v:Vw}:KL (j9 v):=⟨I9 v⟩
instance [MaxL] {v:Vw}:KG (k7 v):=⟨a0a v⟩
instance [MaxL] {r:VwR}:KL (rM r):=⟨NZ r⟩
instance [MaxL] {r:VwR}:KG (uQ r):=⟨WV r⟩
instance [MaxL] {p:By×By}:KG (mU p):=⟨QY p⟩
theorem a2X {α:Type} {p:α->Bool} {l:List α} {i:Nat} {y:α} (hy:l[i]?=some y) (hp:p y=true) (h:∀z∈l.take i,p z=false):l.find? p=some y:=by
 obtain⟨hi,e⟩:=List.getElem?_eq_some_iff.1 hy;have h1:l=l.take i++y::l.drop (i+1):=by rw[<-e,<-b8 hi,j4]
 rw[h1,List.find?_append,List.find?_eq_none.2 fun z hz=>by simp[h z hz]];simp[hp]
theorem rE [MaxL] {α:Type} (F:α->Nat->GV) [∀a i,KG (F a i)] (l:List α) (hl:l.length<b9) (p:α->Bool) (c:FuncId) (T:TypeId) (cs:List GV) [KL cs] (k:FuncId) (n:Nat)
  (hc:∀a∈l,SC Tryz.prog c [.agg (zN n (F a)),.ptr 0 0] [.box T cs] (.val (.b (p a))) [.box T cs])
  (hk:k=105/\n=8/\c=106∨k=144/\n=7/\c=145∨k=102/\n=4/\c=104∨k=102/\n=4/\c=103∨k=112/\n=5/\c=77∨k=44/\n=2/\c=82∨k=112/\n=5/\c=166∨k=44/\n=2/\c=147∨k=44/\n=2/\c=45∨k=44/\n=2/\c=50):
  SC Tryz.prog k [.sl .none (l.map fun a=>.agg (zN n (F a))),.fn (.func c) [] [.ptr 0 0]] [.box T cs] (.val (.i .i64 (jJ p l))) [.box T cs]:=by
 unfold b9 at hl;have hlen:(l.map fun a=>GV.agg (zN n (F a))).length=l.length:=by simp
 rcases hk with⟨rfl,rfl,rfl⟩|⟨rfl,rfl,rfl⟩|⟨rfl,rfl,rfl⟩|⟨rfl,rfl,rfl⟩|⟨rfl,rfl,rfl⟩|⟨rfl,rfl,rfl⟩|⟨rfl,rfl,rfl⟩|⟨rfl,rfl,rfl⟩|⟨rfl,rfl,rfl⟩|⟨rfl,rfl,rfl⟩;refine cO Tryz.func105 rfl ?_;conv=>whnf
 rotate_left;refine cO Tryz.func144 rfl ?_;conv=>whnf
 rotate_left;refine cO Tryz.func102 rfl ?_;conv=>whnf
 rotate_left;refine cO Tryz.func102 rfl ?_;conv=>whnf
 rotate_left;refine cO Tryz.func112 rfl ?_;conv=>whnf
 rotate_left;refine cO Tryz.func44 rfl ?_;conv=>whnf
 rotate_left;refine cO Tryz.func112 rfl ?_;conv=>whnf
 rotate_left;refine cO Tryz.func44 rfl ?_;conv=>whnf
 rotate_left;refine cO Tryz.func44 rfl ?_;conv=>whnf
 rotate_left;refine cO Tryz.func44 rfl ?_;conv=>whnf
 rotate_left;all_goals
  refine bE 1 l.length (fun i _=>∀z∈l.take i,p z=false) (fun i _=>[(0,.sl .none (l.map fun a=>.agg (zN _ (F a)))),(1,.fn (.func _) [] [.ptr 0 0]),(7,.i .i64 (l.map fun a=>GV.agg (zN _ (F a))).length),(8,.i .i64 (i:Nat))]) (fun _ (_:Unit)=>[.box T cs]) [] () (by simp) (fun i _ φ0 hi hne=>?_);conv=>whnf
  apply gM<;>intro h<;>conv=>whnf
  rotate_left
  ·have hie:i=l.length:=by have:=aA h;omega
   rw[hie,aV] at hne;rw[nJ hne];exact cQ 1
  have hlt:i<l.length:=by have:=aB h;omega
  obtain⟨y,hy⟩:∃y,l[i]?=some y:=⟨l[i],gL hlt⟩;refine ix (aY hy) ⟨rfl,?_⟩;conv=>whnf
  refine cS [0] (hc y (aE hy)) ?_;conv=>whnf
  apply gM<;>intro hp<;>conv=>whnf
  ·rw[o7 hy hp hne];exact cQ 1
  ·skip;exact nx () hlt ⟨hlt,pV hy hp hne⟩
end
