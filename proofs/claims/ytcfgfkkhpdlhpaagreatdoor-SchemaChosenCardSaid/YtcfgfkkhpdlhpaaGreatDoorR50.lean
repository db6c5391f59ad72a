/-
  A part of the proof of SchemaChosen.
-/
import Derived.Test.YtcfgfkkhpdlhpaaGreatDoorR49
set_option linter.all false
set_option maxRecDepth 100000
namespace Go.Proofs.YtcfgfkkhpdlhpaaGreatDoor
open Go Go.ChangeShapes Go.WideShapes Go.RowKit Go.ChangeMaps
section
variable {H : Type} {enc : TypeId × Value → H} {P : Program} {w : World} {base : Nat} {spare : Nat → Bool} {held : Bool}
theorem NW {t0 t1 t2 t3:TypeId} {args:Array Value} {ds:List (DataW H)} {ps:List MemPlace} (h:DataW.TrodAll enc P w base spare held [t0,t1,t2,t3] args.toList ds ps):
  ∃v0 v1 v2 v3 d0 d1 d2 d3 p0 p1 p2 p3,args= #[v0,v1,v2,v3]/\ds=[d0,d1,d2,d3]/\ps=p0++(p1++(p2++p3))/\DataW.Trod enc P w base spare held t0 v0 d0 p0/\DataW.Trod enc P w base spare held t1 v1 d1 p1/\DataW.Trod enc P w base spare held t2 v2 d2 p2/\DataW.Trod enc P w base spare held t3 v3 d3 p3:=by
 obtain⟨v0,vs0,d0,ds0,p0,q0,hargs,rfl,rfl,h0,r0⟩:=trodAll_cons h;obtain⟨v1,vs1,d1,ds1,p1,q1,rfl,rfl,rfl,h1,r1⟩:=trodAll_cons r0;obtain⟨v2,vs2,d2,ds2,p2,q2,rfl,rfl,rfl,h2,r2⟩:=trodAll_cons r1;obtain⟨v3,vs3,d3,ds3,p3,q3,rfl,rfl,rfl,h3,r3⟩:=trodAll_cons r2;obtain⟨rfl,rfl,rfl⟩:=trodAll_nil r3;exact⟨v0,v1,v2,v3,d0,d1,d2,d3,p0,p1,p2,p3,by cases args;simp_all,rfl,by simp,h0,h1,h2,h3⟩
end
theorem MC (os:Os):(World.laidAll Tryz.prog os Rows.schemaChosenRow.laid).Shaped Tryz.prog:=World.shaped_of_ZipB (by kernel_rfl) (by kernel_rfl)
theorem WY (os:Os) (args:Array Value):laidMetH Tryz.prog Rows.schemaChosenRow.laid ((World.laidAll Tryz.prog os Rows.schemaChosenRow.laid).forCall (fun _ _=>0) ⟨#[],args,[]⟩).memory:=by
 rw[MakeChecks.laidMetH_plain _ _ _ (by kernel_rfl)];exact laidMet_laidAll _ (by kernel_rfl) (by kernel_rfl)
def vJ:Prop:=∀[MaxL] (s:Sch) (n r:By) (a:List Val),US s->n.length<=cap->r.length<=cap->SC Tryz.prog 7 [nZ s,.s n,.s r,.sl .none (jT a)] [] (.val (.b true)) []
theorem xM (law:vJ)
  (os:Os) (started:os.Started) (H:Type) (enc:TypeId×Value->H):
  ReturnsInHanded {} Tryz.checked os 7 .any (fun w args=>(Rows.schemaChosenSpec.pre enc Tryz.prog Tryz.f7 [] false w args/\laidMetH Tryz.prog Rows.schemaChosenRow.laid w)/\sizedMet enc Tryz.prog Tryz.f7 (OpenSpec.ofChange Rows.schemaChosenSpec) false w args)
   (Rows.schemaChosenSpec.post enc Tryz.prog Tryz.f7 false true false false):=by
 refine MF (C:=Tryz.checked) (X:=fun w _=>laidMetH Tryz.prog Rows.schemaChosenRow.laid w) (fun _ _ _ hh h=>h.of_heap hh) own started (by kernel_rfl) Tryz.func7
  (ChangeSpec.witness_shaped (enc:=enc) (C:=Tryz.checked) (os:=os) (X:=fun w _=>laidMetH Tryz.prog Rows.schemaChosenRow.laid w) false (World.laidAll Tryz.prog os Rows.schemaChosenRow.laid) #[.agg #[.slice none 0 0,.slice none 0 0,.slice none 0 0],.string default,.string default,.slice none 0 0] 8 (World.laidAll_os _ _ _) (MC os) (by kernel_rfl) (by kernel_rfl) (by kernel_rfl) (WY os _)) ?_
 intro W base args ds gs before hval0 hW hwt hL hsh;have hval:∀(j:Nat) t v,Tryz.f7.params[j]?=some t->args[j]?=some v->Value.okWide Tryz.prog W .any base t v:=hval0;have hW':=hW;obtain⟨p,q,hA0,hV,rfl,hfz,hnd⟩:=hW;have hA:DataW.TrodAll enc Tryz.prog W 0 (fun _=>true) true Tryz.f7.params.toList args.toList ds p:=hA0;have hwt0:(DataW.weightsEach Tryz.prog (Tryz.f7.params.toList++Rows.schemaChosenSpec.plain.varTypes Tryz.prog) (ds++gs)).all (· <=reachBytes)=true:=hwt;rw[show Tryz.f7.params= #[26,9,9,56] from rfl] at hA hval hwt0;obtain⟨v0,v1,v2,v3,d0,d1,d2,d3,p0,p1,p2,p3,rfl,rfl,rfl,h0,h1,h2,h3⟩:=NW hA;obtain⟨rfl,rfl⟩:=trodVars_none hV;have hall:∀m∈DataW.weightsEach Tryz.prog ([26,9,9,56]++Rows.schemaChosenSpec.plain.varTypes Tryz.prog) ([d0,d1,d2,d3]++[]),m<=reachBytes:=fun m hm=>aB (List.all_eq_true.1 hwt0 m hm);have w0:nS Tryz.prog 26 d0:=fun m hm=>hall m (t8 (i:=0) (t:=26) (d:=d0) rfl rfl hm);have hlt:∀x∈p0++(p1++(p2++p3)),x.block<W.heap.size:=fun x hx=>by simpa using hW'.lt x (by simpa using hx)
 have hlt0:∀x∈p0,x.block<W.heap.size:=fun x hx=>hlt x (by simp[hx]);have hlt1:∀x∈p1,x.block<W.heap.size:=fun x hx=>hlt x (by simp[hx]);have hlt2:∀x∈p2,x.block<W.heap.size:=fun x hx=>hlt x (by simp[hx]);have hlt3:∀x∈p3,x.block<W.heap.size:=fun x hx=>hlt x (by simp[hx]);obtain⟨m,hm,hms⟩:=M6 hsh;letI:MaxL:=⟨m⟩;obtain⟨s,hs,hv0⟩:=S9 (hval 0 _ v0 rfl rfl) h0 w0;have w1:nS Tryz.prog 9 d1:=fun m hm=>hall m (t8 (i:=1) (t:=9) (d:=d1) rfl rfl hm);have w2:nS Tryz.prog 9 d2:=fun m hm=>hall m (t8 (i:=2) (t:=9) (d:=d2) rfl rfl hm);have w3:nS Tryz.prog 56 d3:=fun m hm=>hall m (t8 (i:=3) (t:=56) (d:=d3) rfl rfl hm);obtain⟨a,hv3⟩:=YF (hval 3 56 v3 rfl rfl) h3 w3;have hh1:=h1;have hh2:=h2;obtain⟨n,rfl,rfl,rfl,hn⟩:=open_string DI (hval 1 9 v1 rfl rfl) h1;obtain⟨r,rfl,rfl,rfl,hr⟩:=open_string DI (hval 2 9 v2 rfl rfl) h2;refine(PO (law s n.data.toList r.data.toList a hs (fZ (w1 _ (by unfold DataW.weights;simp)) (by decide)) (fZ (w2 _ (by unfold DataW.weights;simp)) (by decide))) (a2X hL hm hms) ⟨rfl,fun j g u g1 g2=>?_⟩).mono fun e W' ⟨he,hb⟩=>?_
 ·match j,g1,g2 with
  |0,g1,g2=>cases g1;cases g2;exact hv0
  |1,g1,g2=>cases g1;cases g2;exact a1k _
  |2,g1,g2=>cases g1;cases g2;exact a1k _
  |3,g1,g2=>cases g1;cases g2;exact hv3
 ·subst he;have hbel:Below W.heap.size W W':=⟨hb.os,hb.tape,hb.output,hb.size,fun k hk=>hb.block k hk (fun h=>h)⟩;refine⟨_,rfl,_,_,_,[],p0++([]++([]++p3)),[],hW',?_,?_,rfl,OT (fun _ h=>h) hb,fun h=>by cases h⟩
  ·exact trodAll_mk1 (shut_bool L5 true)
  ·refine trodAll_mk4 ?_ ?_ ?_ ?_
   ·exact Below.trod zX (by kernel_rfl) (aB (by kernel_rfl)) h0 hbel hlt0
   ·exact Below.trod zX (by kernel_rfl) (aB (by kernel_rfl)) hh1 hbel hlt1
   ·exact Below.trod zX (by kernel_rfl) (aB (by kernel_rfl)) hh2 hbel hlt2
   ·exact Below.trod zX (by kernel_rfl) (aB (by kernel_rfl)) h3 hbel hlt3
theorem D5 (law:vJ):Rows.SchemaChosenSaid:=
 OpenClaim.holds_of_wide 7 Tryz.f7 rfl rfl rfl rfl rfl rfl rfl ⟨rfl,rfl,rfl,rfl,rfl⟩ rfl rfl rfl rfl rfl (by kernel_rfl) Tryz.func7 NS
  U8 U7
  (fun os started H enc _=>xM law os started H enc)
theorem vR (h:Rows.SchemaChosenSaid):Rows.SchemaChosenCardSaid:=
 Claim7.holds_tied_plain_at .later [] [.data,.data,.data,.data,.sentinel,.sentinel,.pinned] true (true, "cbc71e27b3ce953a48ddf39a9ebaff72c4a6d4a9f51c454f06984af7283e3432") true
  h (fun _ h=>by cases h) a1g (fun _ h=>by cases h) schemaChosen_row_tie rfl ⟨rfl,rfl⟩ a2U rfl
  (fun f fn hf hfn=>by
   obtain rfl:f=7:=aY ((show Tryz.prog.funcNamed "ringwork/ringworklaw03.SchemaChosen" =some 7 by kernel_rfl).symm.trans hf) |>.symm;obtain rfl:fn=Tryz.f7:=(aY (Tryz.func7.symm.trans hfn)).symm;exact⟨a2V,fun j t ht=>by
    rw[show Tryz.f7.params= #[26,9,9,56] from rfl] at ht
    match j,ht with
    |0,ht=>cases ht;exact(show Tryz.prog.wantsStandIn 26=false by kernel_rfl)
    |1,ht=>cases ht;exact(show Tryz.prog.wantsStandIn 9=false by kernel_rfl)
    |2,ht=>cases ht;exact(show Tryz.prog.wantsStandIn 9=false by kernel_rfl)
    |3,ht=>cases ht;exact(show Tryz.prog.wantsStandIn 56=false by kernel_rfl)
    |j+4,ht=>cases ht⟩)
  a1h
end Go.Proofs.YtcfgfkkhpdlhpaaGreatDoor
namespace Go.Proofs.YtcfgfkkhpdlhpaaGreatDoor
open Go.RowKit
variable [Globals]
def a2q (g:GV):Prop:=∀(A B:Cx) (u:Value),VR A g u->VR B g u
def Fz (g:GV):Prop:=a2q g∨Cl g
theorem Rel.freeze {C D:Cx} {s:List GObj} {w w':World} {T:TypeId} {cs xs:List GV} {esz:Nat} (hC:∀r,s.length<=r->C.bk r=none/\C.own r=none) (hl:C.le D) (h:Rel D ⟨s++[.box T cs],0,[]⟩ w w') (hs:∀x∈s,∃T cs,x=.box T cs/\∀g∈cs,Fz g)
  (hcs:cs=flat xs) (hw:∀x∈xs,x.cells.length=esz) (hcl:∀g∈cs,Fz g):
  ∃E:Cx,C.le E/\Rel E ⟨s,0,[]⟩ w w'/\(∀(n c:Nat) (v:Value),n=xs.length->VR D (.rs s.length 0 esz n c) v->0<esz->VR E (.sl .none xs) v)/\∀g,Fz g->∀v,VR D g v->VR E g v:=by
 obtain⟨h0,b,vs,h1,h2,h3,_⟩:=h.obj s.length (.box T cs) (by simp);have hd:∀r,s.length<r->D.bk r=none/\D.own r=none:=fun r hr=>h.dom r (by simp;omega);have hown:∀r,D.own r=none:=fun r=>by
  rcases Nat.lt_trichotomy r s.length with hr|hr|hr
  ·obtain⟨T',cs',e,_⟩:=hs s[r] (dX hr);have:=h.obj r s[r] (by simp[aV hr,gL hr]);rw[e] at this;exact this.1
  ·subst hr;exact h0
  ·exact(hd r hr).2
 let E:Cx:={D with bk:=fun r=>if r=s.length then none else D.bk r,fx:=fun b' o v=>D.fx b' o v∨(b'=b/\vs[o]?=some v)};have hEb:∀r,r≠s.length->E.bk r=D.bk r:=fun r hr=>aD hr;have key:∀g,Fz g->∀u,VR D g u->VR E g u:=fun g hf u h=>by
  rcases hf with hf|hf
  ·exact hf D E u h
  ·refine VR.pull (D:=D) (E:=E) (f:=fun r=>if r=s.length then s.length+1 else r) (fun _ _ _ x=>.inl x) (fun i=>?_) (fun i=>?_) h (hf _).symm
   ·show(if i=s.length then none else D.bk i)=D.bk (if i=s.length then s.length+1 else i);split
    ·exact(hd _ (Nat.lt_succ_self _)).1.symm
    ·rfl
   ·show D.own i=D.own (if i=s.length then s.length+1 else i);rw[hown,hown]
 have keys:∀{gs:List GV} {us:List Value},(∀g∈gs,Fz g)->VRs D gs us->VRs E gs us:=fun hf h=>⟨h.1,fun j g u g1 g2=>key g (hf g (aL g1)) u (h.2 j g u g1 g2)⟩;have hE0:E.bk s.length=none:=aG rfl;have hblk:∀r b',dS E r=some b'->r≠s.length/\D.bk r=some b':=fun r b' hb=>by
  by_cases hr:r=s.length
  ·exfalso;have ho:E.own r=none:=hown r;rw[hr] at hb ho;simp[dS,hE0,ho] at hb
  ·refine⟨hr,?_⟩;have ho:E.own r=none:=hown r;unfold dS at hb;rw[hEb r hr,ho] at hb;cases hq:D.bk r with
   |none=>rw[hq] at hb;cases hb
   |some z=>rw[hq] at hb;exact hb
 refine⟨E,⟨fun _ _ _ x=>.inl (hl.fx _ _ _ x),fun r b' x=>?_,fun r I x=>hl.own r I x,hl.hd,hl.fix⟩,⟨h.below,fun b' o v hx=>?_,fun r x hx=>?_,fun r hr=>?_,fun r b' hb=>h.new r b' (fT (hblk r b' hb).2),
  fun r r' b' hb hb'=>h.inj r r' b' (fT (hblk r b' hb).2) (fT (hblk r' b' hb').2),fun r b' o v hb hx=>?_,fun r I b' sz o v hI _ _=>?_,fun b' o v hx=>?_,
  fun g cs j x hg hj=>(h.gl g cs j x hg hj).imp fun u hu=>⟨.inl hu.1,fun F he=>hu.2 F fun _ _ _ hx=>he _ _ _ (.inl hx)⟩,h.gs⟩,⟨fun n c v hn hv hp=>?_,key⟩⟩
 ·have hr:r≠s.length:=fun e=>by subst e;rw[(hC _ (rL _)).1] at x;cases x
  rw[hEb r hr];exact hl.bk r b' x
 ·rcases hx with hx|⟨rfl,hx⟩
  ·exact h.fxc _ _ _ hx
  ·rw[cell_of_row w' _ o vs T (0,0) h2];exact hx
 ·have hr:r<s.length:=(List.getElem?_eq_some_iff.1 hx).1;obtain⟨T',cs',rfl,hf⟩:=hs x (aL hx);obtain⟨g0,b',vs',g1,g2,g3⟩:=h.obj r (.box T' cs') (by rw[aV hr];exact hx);exact⟨g0,b',vs',(hEb r (by omega)).trans g1,g2,keys hf g3.1,g3.2⟩
 ·refine⟨?_,hown r⟩;have hr:s.length<=r:=hr;by_cases e:r=s.length
  ·rw[e];exact hE0
  ·rw[hEb r e];exact(hd r (by omega)).1
 ·have hr:r≠s.length:=fun e=>by rw[e,hE0] at hb;cases hb
  rw[hEb r hr] at hb;rcases hx with hx|⟨rfl,hx⟩
  ·exact h.sepB r _ _ _ hb hx
  ·exact hr (h.inj r s.length _ (fT hb) (fT h1))
 ·have ho:E.own r=none:=hown r;rw[ho] at hI;cases hI
 ·rcases hx with hx|⟨rfl,hx⟩
  ·exact h.fxn _ _ _ hx
  ·exact .inr (h.new s.length _ (fT h1))
 ·have h4:VRs E cs (vs.toList.take cs.length):=keys hcl h3;rw[hcs] at h4;cases hv with
  |rp hb=>omega
  |rs hb hc _ _=>
   rw[h1] at hb;cases hb;subst hn;refine Q4 hw h4 (fun j u hj=>?_) hc trivial;rw[bH];refine .inr ⟨rfl,?_⟩;rw[dJ] at hj;split at hj
   ·rw[d8] at hj;exact hj
   ·cases hj
theorem SC.freezeA {P:Program} {k:FuncId} {args pre post:List GV} {T:TypeId} {cs xs:List GV} {esz n c:Nat} (h:SC P k args [] (.val (.agg (pre++.rs 0 0 esz n c::post))) [.box T cs])
  (hp:0<esz) (hcs:cs=flat xs) (hn:n=xs.length) (hw:∀x∈xs,x.cells.length=esz) (hcl:∀g∈cs,Fz g) (h1:∀g∈pre,Fz g) (h2:∀g∈post,Fz g):
  SC P k args [] (.val (.agg (pre++.sl .none xs::post))) []:=by
 refine⟨rL _,fun C w vs hr hv=>?_,fun x hx=>by cases hx⟩;refine(h.calls C w vs hr hv).mono fun en w' ⟨D,hl,hrD,he⟩=>?_;obtain⟨E,hlE,hrE,hv2,key⟩:=Rel.freeze (s:=[]) (fun r=>hr.dom r) hl hrD (fun x hx=>by cases hx) hcs hw hcl;refine⟨E,hlE,hrE,?_⟩;obtain⟨v,rfl,hv3⟩:=he;cases hv3 with
 |agg hs hvv=>
 rename_i us;refine⟨_,rfl,.agg (by rw[hs];simp) fun j g u g1 g2=>?_⟩;rcases Nat.lt_trichotomy j pre.length with hj|hj|hj
 ·rw[aV hj] at g1;exact key g (h1 g (aL g1)) u (hvv j g u (by rw[aV hj];exact g1) g2)
 ·subst hj;rw[bN (rL _),Nat.sub_self] at g1;cases g1;exact hv2 n c u hn (hvv pre.length _ u (by rw[bN (rL _),Nat.sub_self];rfl) g2) hp
 ·obtain⟨q,rfl⟩:∃q,j=pre.length+(q+1):=⟨j - pre.length - 1,by omega⟩;rw[bN (by omega),show pre.length+(q+1) - pre.length=q+1 by omega] at g1;have g1':post[q]?=some g:=g1;exact key g (h2 g (aL g1')) u (hvv _ g u (by rw[bN (by omega),show pre.length+(q+1) - pre.length=q+1 by omega];exact g1') g2)
theorem SC.nil_or {P:Program} {k:FuncId} {s s':List GObj} {r:GRes} (h1:SC P k [.sl .full []] s r s') (h2:∀p c,SC P k [.o (.slice (some p) 0 c)] s r s'):SC P k [.sl .none []] s r s':=
 ⟨h1.len,fun C w vs hr hv=>by
  obtain⟨v,hvs⟩:∃v,vs.toList=[v]:=List.length_eq_one_iff.1 hv.1;have h0:VR C (.sl .none []) v:=hv.2 0 _ v rfl (by rw[hvs];rfl);have one:∀g,VR C g v->VRs C [g] vs.toList:=fun g hg=>by rw[hvs];exact VRs.cons hg VRs.nil
  cases h0 with
  |sl esz b off us hn hc ha hw hx hv ht=>
  rename_i a n c;have hn0:n=0:=hn;subst hn0;cases a with
  |none=>
   have hc0:c=0:=by rcases ha with h|h|h<;>first|exact h.2|exact h|cases h
   subst hc0;exact h1.calls C w vs hr (one _ (.sl esz b off us rfl (rL _) (.inl ⟨rfl,rfl⟩) hw hx hv ⟨rfl,fun _=>rfl⟩))
  |some p=>exact(h2 p c).calls C w vs hr (one _ (.o rfl)),h1.noheld⟩
end Go.Proofs.YtcfgfkkhpdlhpaaGreatDoor
namespace Go.Proofs.YtcfgfkkhpdlhpaaGreatDoor
open Go.RowKit
theorem a0W [MaxL] (l:List By):(b9 l).all (rJ 1)=true:=by
 rw[aS];intro x hx;obtain⟨b,_,rfl⟩:=List.mem_map.1 hx;rfl
theorem a1C [MaxL] (l:List Ky):(tH l).all (rJ 2)=true:=by
 rw[aS];intro x hx;obtain⟨b,_,rfl⟩:=List.mem_map.1 hx;rfl
theorem a16 [MaxL] (l:List Mb):(lZ l).all (rJ 4)=true:=by
 rw[aS];intro x hx;obtain⟨b,_,rfl⟩:=List.mem_map.1 hx;rfl
theorem UW [MaxL] (l:List By) (hl:l.length<=1000):SC Tryz.prog 161 [.sl .none (b9 l)] [] (.val (.sl .none (b9 l))) []:=by
 cases l with
 |nil=>
  refine SC.nil_or ?_ fun p c=>?_
  ·skip;refine cX Tryz.func161 rfl ?_;(conv=>whnf);exact dH 0 (hw:=bI _ _)
  ·skip;refine cX Tryz.func161 rfl ?_;(conv=>whnf);exact dH 0 (hw:=bI _ _)
 |cons x l=>
  refine cX Tryz.func161 rfl ?_;conv=>whnf
  refine⟨⟨a0W (x::l),rfl,?_⟩,_,_,⟨rfl,rfl⟩,?_⟩
  ·show 0+((x::l).map _).length<=4294967296;rw[cU];omega
  conv=>whnf
  refine⟨⟨zL _,rfl,.inl ⟨rfl,rfl⟩⟩,?_⟩;conv=>whnf
  exact dH 0 (hw:=bI _ _)
theorem LD [MaxL] (l:List Ky) (hl:l.length<=1000):SC Tryz.prog 159 [.sl .none (tH l)] [] (.val (.sl .none (tH l))) []:=by
 cases l with
 |nil=>
  refine SC.nil_or ?_ fun p c=>?_
  ·skip;refine cX Tryz.func159 rfl ?_;(conv=>whnf);exact dH 0 (hw:=bI _ _)
  ·skip;refine cX Tryz.func159 rfl ?_;(conv=>whnf);exact dH 0 (hw:=bI _ _)
 |cons x l=>
  refine cX Tryz.func159 rfl ?_;conv=>whnf
  refine⟨⟨a1C (x::l),rfl,?_⟩,_,_,⟨rfl,rfl⟩,?_⟩
  ·show 0+((x::l).map _).length<=4294967296;rw[cU];omega
  conv=>whnf
  refine⟨⟨zL _,rfl,.inl ⟨rfl,rfl⟩⟩,?_⟩;conv=>whnf
  exact dH 0 (hw:=bI _ _)
theorem X5 [MaxL] {g:GV} (h:Cl g):ClL g.cells:=fun e=>by
 cases g with
 |agg cs=>have h1:=h e;rw[GV.ren,cK] at h1;exact GV.agg.inj h1
 |_=>exact aQ (fun x=>[x]) (h e)
theorem ZA [MaxL] {l:List GV} (h:∀g∈l,Cl g):ClL (flat l):=fun e=>by
 induction l with
 |nil=>rfl
 |cons g l ih=>rw[nI,cZ,X5 (h g List.mem_cons_self) e,ih fun g hg=>h g (iP _ hg)]
theorem JM [MaxL] (l:List Mb):ClL (flat (lZ l)):=ZA fun g hg=>by
 obtain⟨m,_,rfl⟩:=List.mem_map.1 hg;exact eL (KL.h (l:=mbC m))
theorem UX [MaxL] (x:Mb) (l:List Mb) (hl:l.length<1000):SC Tryz.prog 160 [.sl .none (lZ (x::l))] [] (.val (.rs 0 0 4 (x::l).length 0)) [.box 46 (flat (lZ (x::l)))]:=by
 refine cX Tryz.func160 rfl ?_;conv=>whnf
 refine⟨⟨a16 (x::l),rfl,?_⟩,_,_,⟨rfl,rfl⟩,_,⟨rfl,rfl⟩,?_⟩
 ·show 0+((x::l).map _).length<=4294967296;rw[cU,aJ];omega
 conv=>whnf
 refine⟨[2],Lies.one rfl (eT (JM (x::l))) (by simp),fun i hi=>absurd hi (dG i),?_⟩;show Wk (GV.rs 2 0 4 (0+(lZ (x::l)).length) 0) (GV.rs (jI [2] 3 0) 0 4 (x::l).length 0);rw[kS (by simp),show(lZ (x::l)).length=(x::l).length from i8 _ _,bH];exact .refl _
end Go.Proofs.YtcfgfkkhpdlhpaaGreatDoor
namespace Go.Proofs.YtcfgfkkhpdlhpaaGreatDoor
open Go.RowKit
section
variable [Globals]
theorem LS [MaxL] {s' objs:List GObj}:iY [] s' objs=objs++s'.map (GObj.ren (jI [] objs.length)):=by
 apply dY;intro r;rw[jY (fun k hk=>by cases hk) (zL _)];unfold hZ;by_cases hr:r<objs.length
 ·rw[aG hr,aV hr];rfl
 ·rw[aD hr,bN (by omega)];simp
instance {e:Nat->Nat} {r o z n c:Nat}:RG e (.rs r o z n c) (.rs (e r) o z n c):=⟨rfl⟩
instance {n r o z m c:Nat} [k:NL r n]:FG n (.rs r o z m c):=⟨fun e he=>by rw[GV.ren,he r k.h]⟩
theorem cNx [MaxL] {P:Program} {M:FuncId->Bool} {k:FuncId} {args a:List GV} {s' t':List GObj} {r r':GRes} {σ:GS} {K:GRes->GS->Prop} (h:SC P k a [] r s')
  [i1:KL a] [i3:RH (jI [] σ.objs.length) s' t'] [i4:RR (jI [] σ.objs.length) r r'] (hk:K r' ⟨σ.objs++t',σ.lo,σ.ds⟩) (hw:Wks args a:=by first|exact wR _|exact wC (bI _ _) (wR _)|exact wC (bI _ _) (wC (bI _ _) (wR _))|exact wC (cY _) (wC (bI _ _) (wR _)))
  (hlo:σ.lo=0:=by rfl) (hM:M k=false:=by rfl):iM P M (.fn k) args σ K:=by
 have hf:=h.fact (σ:=σ) (args':=args) [] ⟨List.nodup_nil,rfl,fun i k x h1=>by simp at h1,fun x hx=>by cases hx⟩ hlo (by rw[i1.h];exact hw);rw[LS,i3.h,i4.h] at hf;exact⟨r',_,hf,(fun k' e hk'=>by cases e;rw[hM] at hk';cases hk'),hk⟩
end
def cpM:FuncId->Bool:=fun k=>!Nat.beq k 160
instance mbF_kl [MaxL] (l:List Mb):KL (flat (lZ l)):=⟨JM l⟩
abbrev cpC [MaxL] (t:Sy) (v:GV):List GV:=[.s t.name,.s t.owner,v,.i .i64 t.order,.sl .none (tH t.keys),.i .i64 t.dups,.i .i64 t.mode]
theorem a1K {α:Type} {l:List α} {i:Nat} (h:i<l.length):∃x,l[i]?=some x:=⟨l[i],gL h⟩
theorem a0F [MaxL] (l:List Mb):∀x∈lZ l,x.cells.length=4:=fun x hx=>by
 obtain⟨b,_,rfl⟩:=List.mem_map.1 hx;rfl
theorem PJ [MaxL] {l:List GV} (h:ClL l):∀g∈l,Fz g:=fun g hg=>.inr fun e=>by
 obtain⟨j,hj⟩:=List.mem_iff_getElem?.1 hg;have h1:=aQ (fun l:List GV=>l[j]?) (h e);simp only[aM,hj,eI] at h1;exact aY h1
theorem SY {α:Type} {l:List α} {k:Nat} {v:α} (h:l[k]?=some v):l=l.take k++[v]++l.drop (k+1):=by
 obtain⟨hk,e⟩:=List.getElem?_eq_some_iff.1 h;have h1:=dZ k l;rw[aT hk,e] at h1;rw[bF];exact h1.symm
abbrev cpZ [MaxL]:List GV:=[.s [],.s [],.sl .full [],.i .i64 0,.sl .full [],.i .i64 0,.i .i64 0]
set_option synthInstance.maxSize 2000 in
theorem SB [MaxL] (t:Sy) (x:Mb) (l:List Mb) (ht:t.ms=x::l) (hl:l.length<1000) (hk:t.keys.length<=1000) (hs:∀m∈t.ms,m.sel.length<=1000):
  SC Tryz.prog 88 [AZ t] [] (.val (.agg (cpC t (.rs 0 0 4 (x::l).length 0)))) [.box 46 (flat (lZ (x::l)))]:=by
 have hlen:(x::l).length=l.length+1:=rfl;refine cR cpM mixed Tryz.func88 rfl (bL rfl) (by first|exact rL _|simp) rfl ?_;conv=>whnf
 refine b6 (by kernel_rfl) ?_;conv=>whnf
 refine cP (LD t.keys hk) ?_;conv=>whnf
 rw[ht];refine cNx (UX x l hl) ?_;conv=>whnf
 refine st ?_;conv=>whnf
 refine st ?_;conv=>whnf
 refine dB 3 (x::l).length (fun _ _=>True) (fun i _=>[(1,.ptr 0 0),(2,.ptr 1 0),(14,.i .i64 (x::l).length),(15,.i .i64 (i:Nat))])
  (fun _ (_:Unit)=>[.box 39 (cpC t (.rs 2 0 4 (x::l).length 0)),.box 39 cpZ,.box 46 (flat (lZ (x::l)))]) [] () trivial (fun i _ φ0 hi _=>?_)
 conv=>whnf
 refine aF (fun h=>?_) (fun h=>?_)<;>conv=>whnf
 ·have hlt:i<(x::l).length:=by have:=aB h;omega
  refine(a1K hlt).elim fun y hy=>?_;have hg:=AA (n:=4) (lZ (x::l)) (a0F _) i (XQ y) 3 (.sl .none (b9 y.sel)) (cM hy) rfl;refine b6 (by kernel_rfl) ?_;conv=>whnf
  refine⟨⟨cN _,rfl,by omega⟩,?_⟩;conv=>whnf
  refine⟨.sl .none (b9 y.sel),?_,?_⟩
  ·show(flat (lZ (x::l)))[0+(i:Int).toNat*4+3]?=_;rw[bH,aA];exact hg
  conv=>whnf
  refine cP (UW y.sel (hs y (by rw[ht];exact aL hy))) ?_;conv=>whnf
  refine⟨⟨cN _,rfl,by omega⟩,?_⟩;conv=>whnf
  refine⟨flat (lZ (x::l)),⟨?_,zL _,rfl,?_⟩,?_⟩
  ·show _=(flat (lZ (x::l))).take (0+(i:Int).toNat*4+3)++[.sl .none (b9 y.sel)]++(flat (lZ (x::l))).drop (0+(i:Int).toNat*4+3+1);rw[bH,aA];exact SY hg
  ·show 0+(i:Int).toNat*4+3+1<=(flat (lZ (x::l))).length;rw[bH,aA];exact(List.getElem?_eq_some_iff.1 hg).1
  conv=>whnf
  exact nx () hlt ⟨hlt,trivial⟩
 ·refine st ?_;conv=>whnf
  refine⟨[2],Lies.one rfl (eT (JM (x::l))) (by simp),fun i hi=>absurd hi (dG i),?_⟩;show Wk _ ((GV.agg (cpC t (.rs 0 0 4 (x::l).length 0))).ren (jI [2] 3));rw[RG.h (e:=jI [2] 3) (g:=GV.agg (cpC t (.rs 0 0 4 (x::l).length 0)))];exact cY _
theorem SE [MaxL]:SC Tryz.prog 160 [.sl .none []] [] (.val (.sl .none [])) []:=by
 refine SC.nil_or ?_ fun p c=>?_
 ·skip;refine cX Tryz.func160 rfl ?_;conv=>whnf
  exact dH 0 (hw:=bI _ _)
 ·skip;refine cX Tryz.func160 rfl ?_;conv=>whnf
  exact dH 0 (hw:=bI _ _)
set_option synthInstance.maxSize 2000 in
theorem SD [MaxL] (t:Sy) (ht:t.ms=[]) (hk:t.keys.length<=1000):SC Tryz.prog 88 [AZ t] [] (.val (.agg (cpC t (.sl .none [])))) []:=by
 refine cX Tryz.func88 rfl ?_;conv=>whnf
 refine b6 (by kernel_rfl) ?_;conv=>whnf
 refine cP (LD t.keys hk) ?_;conv=>whnf
 rw[ht];refine cP SE ?_;conv=>whnf
 refine st ?_;conv=>whnf
 refine st ?_;conv=>whnf
 refine dB 2 0 (fun _ _=>True) (fun i _=>[(1,.ptr 0 0),(2,.ptr 1 0),(14,.i .i64 (0:Nat)),(15,.i .i64 (i:Nat))])
  (fun _ (_:Unit)=>[.box 39 (cpC t (.sl .none [])),.box 39 cpZ]) [] () trivial (fun i _ φ0 hi _=>?_)
 conv=>whnf
 refine st ?_;conv=>whnf
 exact dH 0
theorem LC [MaxL] (t:Sy) (hl:t.ms.length<=1000) (hk:t.keys.length<=1000) (hs:∀m∈t.ms,m.sel.length<=1000):SC Tryz.prog 88 [AZ t] [] (.val (AZ t)) []:=by
 have e:AZ t=.agg (cpC t (.sl .none (lZ t.ms))):=rfl;cases ht:t.ms with
 |nil=>rw[ht] at e;exact(aQ (fun g=>SC Tryz.prog 88 [AZ t] [] (.val g) []) e).mpr (SD t ht hk)
 |cons x l=>
  rw[ht] at e hl;have h:=SB t x l ht (by rw[aJ] at hl;omega) hk hs;refine(aQ (fun g=>SC Tryz.prog 88 [AZ t] [] (.val g) []) e).mpr ?_;exact SC.freezeA (pre:=[.s t.name,.s t.owner]) (post:=[.i .i64 t.order,.sl .none (tH t.keys),.i .i64 t.dups,.i .i64 t.mode]) h (by omega) rfl (show(x::l).length=(lZ (x::l)).length from(i8 _ _).symm) (a0F (x::l)) (PJ (JM (x::l))) (PJ (KL.h (l:=[.s t.name,.s t.owner]))) (PJ (KL.h (l:=[.i .i64 t.order,.sl .none (tH t.keys),.i .i64 t.dups,.i .i64 t.mode])))
end Go.Proofs.YtcfgfkkhpdlhpaaGreatDoor
namespace Go.Proofs.YtcfgfkkhpdlhpaaGreatDoor
open Go.RowKit
def sy0:Sy:=⟨[],[],[],0,[],0,0⟩
def mb0:Mb:=⟨[],false,0,[]⟩
def uF (s:Sch) (n:By):Sy×Int×Int:=if(qN s).2.2==0 then(match s.st.find? (·.name==n) with|none=>(sy0,0,5)|some t=>(t,lW (·.name==n) s.st,0)) else(sy0,0,1)
def uK (s:Sch) (n r:By):Mb×Int:=if(uF s n).2.2==0 then(match(uF s n).1.ms.find? (·.of==r) with|none=>(mb0,8)|some m=>(m,0)) else(mb0,(uF s n).2.2)
def Y2 (s:Sch):Prop:=∀t∈s.st,t.ms.length<=1000/\t.keys.length<=1000/\∀m∈t.ms,m.sel.length<=1000
theorem Wk.tupl [MaxL] {l l':List GV} (h:Wks l l'):Wk (.tup l) (.tup l'):=fun C v hv=>by
 obtain⟨h1,h2⟩:=h.at_;cases hv with
 |tup hs hvv=>
  refine .tup (by rw[hs,h1]) fun j g u g1 g2=>?_;have hj:=(List.getElem?_eq_some_iff.1 g1).1;exact h2 j _ g (gL (by omega)) g1 C u (hvv j _ u (gL (by omega)) g2)
theorem zSy [MaxL]:Wk (.agg cpZ) (AZ sy0):=Wks.agg ⟨.refl _,.refl _,bI _ _,.refl _,bI _ _,.refl _,.refl _,trivial⟩
theorem a1l [MaxL] (s:Sch) (hz:mK s) (hs:Y2 s) (n:By):SC Tryz.prog 27 [nZ s,.s n] [] (.val (.tup [AZ (uF s n).1,.i .i64 (uF s n).2.1,.i .i64 (uF s n).2.2])) []:=by
 have hv:=YC s hz;have hi:=a08 s hz.1.2.2 n;unfold uF;cases h:((qN s).2.2==0) with
 |false=>
  rw[h] at hv;show SC _ _ _ _ (.val (.tup [AZ sy0,.i .i64 0,.i .i64 1])) _;refine cX Tryz.func27 rfl ?_;conv=>whnf
  refine cP hv ?_;conv=>whnf
  refine st ?_;conv=>whnf
  exact dH 0 (hw:=Wk.tupl ⟨zSy,.refl _,.refl _,trivial⟩)
 |true=>
  rw[h] at hv;rcases j5 (fun t:Sy=>t.name==n) s.st with⟨h1,h2,_⟩|⟨i,y,h1,hy,h2,_⟩
  ·rw[h2];show SC _ _ _ _ (.val (.tup [AZ sy0,.i .i64 0,.i .i64 5])) _;refine cX Tryz.func27 rfl ?_;(conv=>whnf);refine cP hv ?_;(conv=>whnf);refine cP hi ?_;(conv=>whnf);refine gY (bM h1) ?_;(conv=>whnf);refine st ?_;(conv=>whnf);exact dH 0 (hw:=Wk.tupl ⟨zSy,.refl _,.refl _,trivial⟩)
  ·rw[h2,h1];rw[h1] at hi;show SC _ _ _ _ (.val (.tup [AZ y,.i .i64 i,.i .i64 0])) _;have hy':=hs y (aL hy);refine cX Tryz.func27 rfl ?_;(conv=>whnf);refine cP hv ?_;(conv=>whnf);refine cP hi ?_;(conv=>whnf);refine ix (cM hy) ⟨rfl,?_⟩;(conv=>whnf);refine cP (LC y hy'.1 hy'.2.1 hy'.2.2) ?_;(conv=>whnf);refine st ?_;(conv=>whnf);exact dH 0
theorem a1s [MaxL] (s:Sch) (hz:mK s) (hc:∀r∈s.rc,r.check.length<1000000) (n:By):SC Tryz.prog 35 [nZ s,.s n] [] (.val (.tup [AZ (uF s n).1,.i .i64 (uF s n).2.1,.i .i64 (uF s n).2.2])) []:=by
 have hv:=VL s hz hc;have hi:=J6 s hz.1.2.2 n;unfold uF;cases h:((qN s).2.2==0) with
 |false=>
  rw[h] at hv;show SC _ _ _ _ (.val (.tup [AZ sy0,.i .i64 0,.i .i64 1])) _;refine cX Tryz.func35 rfl ?_;conv=>whnf
  refine cP hv ?_;conv=>whnf
  refine st ?_;conv=>whnf
  exact dH 0 (hw:=Wk.tupl ⟨zSy,.refl _,.refl _,trivial⟩)
 |true=>
  rw[h] at hv;rcases j5 (fun t:Sy=>t.name==n) s.st with⟨h1,h2,_⟩|⟨i,y,h1,hy,h2,_⟩
  ·rw[h2];show SC _ _ _ _ (.val (.tup [AZ sy0,.i .i64 0,.i .i64 5])) _;refine cX Tryz.func35 rfl ?_;(conv=>whnf);refine cP hv ?_;(conv=>whnf);refine cP hi ?_;(conv=>whnf);refine gY (bM h1) ?_;(conv=>whnf);refine st ?_;(conv=>whnf);exact dH 0 (hw:=Wk.tupl ⟨zSy,.refl _,.refl _,trivial⟩)
  ·rw[h2,h1];rw[h1] at hi;show SC _ _ _ _ (.val (.tup [AZ y,.i .i64 i,.i .i64 0])) _;refine cX Tryz.func35 rfl ?_;(conv=>whnf);refine cP hv ?_;(conv=>whnf);refine cP hi ?_;(conv=>whnf);refine ix (cM hy) ⟨rfl,?_⟩;(conv=>whnf);refine st ?_;(conv=>whnf);exact dH 0
theorem Q5 {s:Sch} (hz:mK s) (n:By):(uF s n).1.ms.length<bB:=by
 unfold uF;split
 ·split
  ·exact cJ (Nat.zero_lt_succ 0) (by unfold bB;omega)
  ·rename_i t ht;exact(hz.2.2 t (List.mem_of_find?_eq_some ht)).1
 ·exact cJ (Nat.zero_lt_succ 0) (by unfold bB;omega)
theorem zMb [MaxL]:Wk (.agg [.s [],.b false,.i .i64 0,.sl .full []]) (XQ mb0):=Wks.agg ⟨.refl _,.refl _,.refl _,bI _ _,trivial⟩
theorem O6 [MaxL] (s:Sch) (hz:mK s) (hs:Y2 s) (n r:By):SC Tryz.prog 22 [nZ s,.s n,.s r] [] (.val (.tup [XQ (uK s n r).1,.i .i64 (uK s n r).2])) []:=by
 have hv:=a1l s hz hs n;have hm:=Q5 hz n;unfold uK;generalize hR:uF s n=R at*;obtain⟨t,i,e⟩:=R;have hi:=EO t hm r;cases he:(e==0) with
 |false=>
  rw[aD (by simp)];refine cX Tryz.func22 rfl ?_;conv=>whnf
  refine cP hv ?_;conv=>whnf
  refine st ?_;conv=>whnf
  refine gY (show(!(e==0))=true by rw[he];rfl) ?_;conv=>whnf
  refine st ?_;conv=>whnf
  exact dH 0 (hw:=Wk.tupl ⟨zMb,.refl _,trivial⟩)
 |true=>
  cases eq_of_beq he;rw[aG rfl];rcases j5 (fun m:Mb=>m.of==r) t.ms with⟨h1,h2,_⟩|⟨j,y,h1,hy,h2,_⟩
  ·rw[show(t,i,(0:Int)).1.ms=t.ms from rfl,h2];refine cX Tryz.func22 rfl ?_;(conv=>whnf);refine cP hv ?_;(conv=>whnf);refine st ?_;(conv=>whnf);refine cP hi ?_;(conv=>whnf);refine gY (bM h1) ?_;(conv=>whnf);refine st ?_;(conv=>whnf);exact dH 0 (hw:=Wk.tupl ⟨zMb,.refl _,trivial⟩)
  ·rw[show(t,i,(0:Int)).1.ms=t.ms from rfl,h2];rw[h1] at hi;refine cX Tryz.func22 rfl ?_;(conv=>whnf);refine cP hv ?_;(conv=>whnf);refine st ?_;(conv=>whnf);refine cP hi ?_;(conv=>whnf);refine ix (cM hy) ⟨rfl,?_⟩;(conv=>whnf);refine st ?_;(conv=>whnf);exact dH 0
end Go.Proofs.YtcfgfkkhpdlhpaaGreatDoor
namespace Go.Proofs.YtcfgfkkhpdlhpaaGreatDoor
open Go.RowKit
theorem OI [MaxL] (s:Sch) (hz:mK s) (hc:∀r∈s.rc,r.check.length<1000000) (n r:By):SC Tryz.prog 23 [nZ s,.s n,.s r] [] (.val (.tup [XQ (uK s n r).1,.i .i64 (uK s n r).2])) []:=by
 have hv:=a1s s hz hc n;have hm:=Q5 hz n;unfold uK;generalize hR:uF s n=R at*;obtain⟨t,i,e⟩:=R;have hi:=yI t hm r;cases he:(e==0) with
 |false=>
  rw[aD (by simp)];refine cX Tryz.func23 rfl ?_;conv=>whnf
  refine cP hv ?_;conv=>whnf
  refine st ?_;conv=>whnf
  refine gY (show(!(e==0))=true by rw[he];rfl) ?_;conv=>whnf
  refine st ?_;conv=>whnf
  exact dH 0 (hw:=Wk.tupl ⟨zMb,.refl _,trivial⟩)
 |true=>
  cases eq_of_beq he;rw[aG rfl];rcases j5 (fun m:Mb=>m.of==r) t.ms with⟨h1,h2,_⟩|⟨j,y,h1,hy,h2,_⟩
  ·rw[show(t,i,(0:Int)).1.ms=t.ms from rfl,h2];refine cX Tryz.func23 rfl ?_;(conv=>whnf);refine cP hv ?_;(conv=>whnf);refine st ?_;(conv=>whnf);refine cP hi ?_;(conv=>whnf);refine gY (bM h1) ?_;(conv=>whnf);refine st ?_;(conv=>whnf);exact dH 0 (hw:=Wk.tupl ⟨zMb,.refl _,trivial⟩)
  ·rw[show(t,i,(0:Int)).1.ms=t.ms from rfl,h2];rw[h1] at hi;refine cX Tryz.func23 rfl ?_;(conv=>whnf);refine cP hv ?_;(conv=>whnf);refine st ?_;(conv=>whnf);refine cP hi ?_;(conv=>whnf);refine ix (cM hy) ⟨rfl,?_⟩;(conv=>whnf);refine st ?_;(conv=>whnf);exact dH 0
end Go.Proofs.YtcfgfkkhpdlhpaaGreatDoor
namespace Go.Proofs.YtcfgfkkhpdlhpaaGreatDoor
open Go.RowKit
variable [Globals]
end Go.Proofs.YtcfgfkkhpdlhpaaGreatDoor
namespace Go.Proofs.YtcfgfkkhpdlhpaaGreatDoor
open Go.RowKit
def tG [MaxL]:List Sy->GV
 |[]=>.sl .full []
 |t::l=>.sl (.own 9) (b9 ((t::l).map (·.name)))
end Go.Proofs.YtcfgfkkhpdlhpaaGreatDoor
namespace Go.Proofs.YtcfgfkkhpdlhpaaGreatDoor
open Go.RowKit
end Go.Proofs.YtcfgfkkhpdlhpaaGreatDoor
namespace Go.Proofs.YtcfgfkkhpdlhpaaGreatDoor
open Go.RowKit
section
variable (s : Sch) (p : Sy → Bool) (c : FuncId) (n : By)
end
end Go.Proofs.YtcfgfkkhpdlhpaaGreatDoor
namespace Go.Proofs.YtcfgfkkhpdlhpaaGreatDoor
open Go.RowKit
theorem yU {α:Type} {f:Nat->α->Int} {n:Nat} {l:List α} {p:Nat×Int} (h:eR f n l=some p):p.2≠0:=by
 induction l generalizing n with
 |nil=>cases h
 |cons x l ih=>
  unfold eR at h;by_cases h0:f n x=0
  ·rw[aG h0] at h;exact ih h
  ·rw[aD h0] at h;cases h;exact h0
section
variable {known : List Itm → Bool} {canon : By → Bool} {check : List Itm → By → Int}
theorem J1 {s:Sch} (h:(Y5 known canon check s).2.2=0):uR s.ar.length 1 6=true/\eR (fun i a=>mE ((dE s).take i) a) 0 s.ar=none/\uR s.rc.length 1 10=true/\
  eR (fun i r=>H0 known canon check s (dE s++(gB s).take i) r) 0 s.rc=none/\¬s.st.length>60/\eR (fun i t=>J0 s (dE s++(gB s++(sV s).take i)) t) 0 s.st=none:=by
 unfold Y5 at h;cases h1:uR s.ar.length 1 6 with
 |false=>rw[h1] at h;exact absurd (show(4:Int)=0 from h) (by decide)
 |true=>
  rw[h1,aD (by simp)] at h;cases h2:eR (fun i a=>mE ((dE s).take i) a) 0 s.ar with
  |some p=>rw[h2] at h;exact absurd h (yU h2)
  |none=>
   rw[h2] at h;simp only[] at h;unfold HN at h;cases h3:uR s.rc.length 1 10 with
   |false=>rw[h3] at h;exact absurd (show(4:Int)=0 from h) (by decide)
   |true=>
    rw[h3,aD (by simp)] at h;cases h4:eR (fun i r=>H0 known canon check s (dE s++(gB s).take i) r) 0 s.rc with
    |some p=>rw[h4] at h;exact absurd h (yU h4)
    |none=>
     rw[h4] at h;simp only[] at h;unfold HL at h;by_cases h5:s.st.length>60
     ·rw[aG h5] at h;exact absurd h (by decide)
     ·rw[aD h5] at h;cases h6:eR (fun i t=>J0 s (dE s++(gB s++(sV s).take i)) t) 0 s.st with
      |some p=>rw[h6] at h;exact absurd h (yU h6)
      |none=>exact⟨rfl,rfl,rfl,rfl,h5,rfl⟩
end
