/-
  ViewTexts: Format, Parse and Same of any two views and any text are those of the reference, and what Format wrote reads back the same
-/
import Derived.Test.YtldggonlkafckaaGreatDoorQ51
import Derived.HandedShaped
import Derived.Shelf.Vars
import Derived.Test.YtldggonlkafckaaGreatDoorTie
import Derived.Test.YtldggonlkafckaaGreatDoorCards
import Derived.Carry
import Derived.Lay
set_option linter.all false
namespace Go.Proofs.YtldggonlkafckaaGreatDoor
open Go Go.ChangeShapes Go.WideShapes Go.RowKit
set_option maxRecDepth 100000
set_option linter.unusedVariables false
theorem list_of {α:Type} {Q:Nat->α->Prop}:∀n,(∀i,i<n->∃a,Q i a)->∃l:List α,l.length=n/\∀i a,l[i]?=some a->Q i a
 |0,_=>⟨[],rfl,fun i a h=>by simp at h⟩
 |n+1,h=>by
  obtain⟨l,hl,hq⟩:=list_of n (fun i hi=>h i (by omega))
  obtain⟨a,ha⟩:=h n (by omega)
  refine⟨l++[a],by simp[hl],fun i b hb=>?_⟩
  rcases Nat.lt_trichotomy i n with hi|rfl|hi
  ·rw[List.getElem?_append_left (by omega)] at hb;exact hq i b hb
  ·rw[List.getElem?_append_right (by omega),hl] at hb;simp at hb;subst hb;exact ha
  ·rw[List.getElem?_eq_none (by simp;omega)] at hb;cases hb
theorem add_plain (b off n:Nat):(⟨b,off,none⟩:Addr).add n=⟨b,off+n,none⟩:=by
 unfold Addr.add
 split
 ·rename_i h;subst h;rfl
 ·rfl
theorem cell_spot {W:World} {a:Addr} {u:Value} (h:W.cell? a=some u):a.spot=none:=by
 obtain⟨ab,ao,asp⟩:=a
 unfold World.cell? at h
 split at h
 ·simp only at h
  split at h
  ·cases h
  ·rename_i h0;simpa using h0
 ·cases h
theorem spot_of {W:World} {base:Nat} {a:Addr} {n:Nat} {l:List Value} (h:W.cells? base (a.add 0) (n+1)=some l):a.spot=none:=by
 obtain⟨_,hn,hh⟩:=World.cells?_some h
 have h0:=hh 0 (Nat.succ_pos n)
 have hl:l[0]?=some (l[0]'(by omega)):=gL (by omega)
 rw[hl] at h0
 exact cell_spot (show W.cell? a=_ from h0)
section
variable {H : Type} {enc : TypeId × Value → H} {P : Program} {W : World} {held : Bool}
theorem mem_all {e:TypeId} {d:DataW H} {m:Nat} (hm:m∈d.weights P e):∀{l:List (DataW H)},d∈l->m∈DataW.weightsAll P e l
 |x::l,h=>by
  unfold DataW.weightsAll
  rcases List.mem_cons.1 h with rfl|h
  ·exact List.mem_append_left _ hm
  ·exact List.mem_append_right _ (mem_all hm h)
theorem mem_each {m:Nat}:∀{ts:List TypeId} {l:List (DataW H)} {i:Nat} {t:TypeId} {d:DataW H},ts[i]?=some t->l[i]?=some d->m∈d.weights P t->m∈DataW.weightsEach P ts l
 |t0::ts,d0::l,i,t,d,h1,h2,hm=>by
  unfold DataW.weightsEach
  cases i with
  |zero=>cases h1;cases h2;exact List.mem_append_left _ hm
  |succ i=>exact List.mem_append_right _ (mem_each h1 h2 hm)
def Light0 (P:Program) (t:TypeId) (d:DataW H):Prop:=∀m∈d.weights P t,m<=reachBytes
theorem light_part {t:TypeId} {fs:Array Field} {xs:List (DataW H×List MemPlace)} (hu:P.underlying t=some (.struct fs)) (hw:Light0 P t (.agg (xs.map (·.1)))) {i:Nat} {f:Field} (hf:fs[i]?=some f) {y:DataW H×List MemPlace} (hy:xs[i]?=some y):Light0 P f.type y.1:=fun m hm=>by
 refine hw m ?_
 unfold DataW.weights
 rw[hu]
 refine mem_each (i:=i) (t:=f.type) (d:=y.1) ?_ ?_ hm
 ·show(fs.toList.map (·.type))[i]?=_
  rw[List.getElem?_map,Array.getElem?_toList,hf];rfl
 ·rw[List.getElem?_map,hy];rfl
theorem slice_any [MaxL] {α:Type} (Q:α->Prop) (gv:α->GV) {t e:TypeId} {cs:List Value} {fuel:Nat} {x:DataW H×List MemPlace}
  (ht:P.underlying t=some (.slice e)) {esz:Nat} (hc:P.cellsOf e=esz+1)
  (elem:∀(n:Nat) cs x,DataW.trod enc P W 0 (fun _=>true) held n e cs=some x->Light0 P e x.1->∃a:α,Q a/\cs.length=esz+1/\∀(j:Nat) g u,(gv a).cells[j]?=some g->cs[j]?=some u->VR (C0 W) g u)
  (hg:∀a,(gv a).cells.length=esz+1)
  (hd:DataW.trod enc P W 0 (fun _=>true) held fuel t cs=some x) (hw:Light0 P t x.1):
  ∃l:List α,l.length<=maxLen/\(∀a∈l,Q a)/\∃v,cs=[v]/\VR (C0 W) (.sl .none (l.map gv)) v:=by
 rcases DataW.trod_slice ht hd with⟨hcs,_⟩|⟨a,len,cap,elems,rest,n,_,hcs,hx,hb,hl,hm,hlen,hel,hsp,_⟩
 ·exact⟨[],zL _,(fun a ha=>by cases ha),_,hcs,.sl 0 0 0 (fun _=>.bool false) rfl (rL _) (.inl ⟨rfl,rfl⟩) (by simp) (by simp) (by simp) trivial⟩
 ·have hspot:cap=0∨a.spot=none:=by
   by_cases h0:cap=0
   ·exact .inl h0
   ·right
    by_cases h1:0<len
    ·have h2:=hel 0 h1
     have hy:elems[0]?=some (elems[0]'(by omega)):=gL (by omega)
     rw[hy,Option.bind_eq_some_iff,hc] at h2
     obtain⟨cs',h3,_⟩:=h2
     rw[Nat.zero_mul] at h3
     exact spot_of h3
    ·obtain⟨hr1,hr2⟩:=hsp rfl
     have h2:=hr2 0 (by omega)
     have hy:rest[0]?=some (rest[0]'(by omega)):=gL (by omega)
     rw[hy,Option.bind_eq_some_iff,hc] at h2
     obtain⟨cs',h3,_⟩:=h2
     rw[show len+0=0 by omega,Nat.zero_mul] at h3
     exact spot_of h3
  obtain⟨b,off,spot⟩:=a
  obtain⟨l,hll,hq⟩:=list_of (Q:=fun i (y:α)=>Q y/\∃cs',W.cells? 0 ((⟨b,off,spot⟩:Addr).add (i*(esz+1))) (esz+1)=some cs'/\cs'.length=esz+1/\∀(j:Nat) g u,(gv y).cells[j]?=some g->cs'[j]?=some u->VR (C0 W) g u) len (fun i hi=>by
   have h1:=hel i hi
   have hy:elems[i]?=some (elems[i]'(by omega)):=gL (by omega)
   rw[hy,Option.bind_eq_some_iff,hc] at h1
   obtain⟨cs',h1,h2⟩:=h1
   have hw2:Light0 P e (elems[i]'(by omega)).1:=fun m hm=>by
    refine hw m ?_
    rw[hx]
    show m∈DataW.weights P t (.slice _ _)
    unfold DataW.weights
    rw[ht]
    exact List.mem_cons_of_mem _ (List.mem_append_left _ (mem_all hm (List.mem_map_of_mem (List.getElem_mem _))))
   obtain⟨y,hQ,hcl,hvr⟩:=elem _ _ _ h2 hw2
   exact⟨y,hQ,cs',h1,hcl,hvr⟩)
  refine⟨l,by omega,fun y hy=>?_,_,hcs,?_⟩
  ·obtain⟨i,hi⟩:=List.mem_iff_getElem?.1 hy
   exact(hq i y hi).1
  have hcell:∀(i:Nat) y (j:Nat) g,l[i]?=some y->(gv y).cells[j]?=some g->∃u,W.cell? ⟨b,off+i*(esz+1)+j,none⟩=some u/\VR (C0 W) g u:=fun i y j g hi hj=>by
   obtain⟨_,cs',h1,h2,h3⟩:=hq i y hi
   have hilt:i<l.length:=(List.getElem?_eq_some_iff.1 hi).1
   have hs:spot=none:=by
    rcases hspot with q|q
    ·omega
    ·exact q
   subst hs
   have hjl:j<esz+1:=by rw[<-hg y];exact(List.getElem?_eq_some_iff.1 hj).1
   have hu:cs'[j]?=some (cs'[j]'(by omega)):=gL (by omega)
   obtain⟨_,hn,hh⟩:=World.cells?_some h1
   have:=hh j hjl
   rw[add_plain,add_plain,hu] at this
   exact⟨_,this,h3 j g _ hj hu⟩
  refine .sl (esz+1) b off (fun k=>(W.cell? ⟨b,off+k,none⟩).getD (.bool false)) (by simp[hll]) hl ?_ (fun x hx=>?_) (fun i x j g hx hj=>?_) (fun i x j g hx hj=>?_) trivial
  ·rcases hspot with q|q
   ·exact .inr (.inr q)
   ·simp only at q;subst q;exact .inr (.inl rfl)
  ·obtain⟨y,_,rfl⟩:=List.mem_map.1 hx
   exact hg y
  all_goals
   rw[List.getElem?_map] at hx
   obtain⟨y,hy,rfl⟩:=Option.map_eq_some_iff.1 hx
   obtain⟨u,h1,h2⟩:=hcell i y j g hy hj
   rw[<-Nat.add_assoc,h1,Option.getD_some]
  ·exact h1
  ·exact h2
end
theorem twoL {α:Type} {cs:List α} (h:cs.length=2):∃a b,cs=[a,b]:=by
 match cs,h with
 |[a,b],_=>exact⟨a,b,rfl⟩
theorem fourL {α:Type} {cs:List α} (h:cs.length=4):∃a b c d,cs=[a,b,c,d]:=by
 match cs,h with
 |[a,b,c,d],_=>exact⟨a,b,c,d,rfl⟩
theorem und_vi:Tryz.prog.underlying 70=some (.struct #[{name:= "Name",type:=9,offset:=0,embedded:=false,tag:= "",pkgPath:= "",byteOffset:=0},{name:= "Of",type:=9,offset:=1,embedded:=false,tag:= "",pkgPath:= "",byteOffset:=16}]):=by kernel_rfl
theorem und_vs:Tryz.prog.underlying 71=some (.struct #[{name:= "Name",type:=9,offset:=0,embedded:=false,tag:= "",pkgPath:= "",byteOffset:=0},{name:= "Of",type:=9,offset:=1,embedded:=false,tag:= "",pkgPath:= "",byteOffset:=16}]):=by kernel_rfl
theorem und_vr:Tryz.prog.underlying 68=some (.struct #[{name:= "Name",type:=9,offset:=0,embedded:=false,tag:= "",pkgPath:= "",byteOffset:=0},{name:= "Of",type:=9,offset:=1,embedded:=false,tag:= "",pkgPath:= "",byteOffset:=16},{name:= "Items",type:=66,offset:=2,embedded:=false,tag:= "",pkgPath:= "",byteOffset:=32},{name:= "Only",type:=9,offset:=3,embedded:=false,tag:= "",pkgPath:= "",byteOffset:=56}]):=by kernel_rfl
theorem und_vw:Tryz.prog.underlying 25=some (.struct #[{name:= "Records",type:=22,offset:=0,embedded:=false,tag:= "",pkgPath:= "",byteOffset:=0},{name:= "Sets",type:=23,offset:=1,embedded:=false,tag:= "",pkgPath:= "",byteOffset:=24}]):=by kernel_rfl
theorem und_vis:Tryz.prog.underlying 66=some (.slice 70):=by kernel_rfl
theorem und_vss:Tryz.prog.underlying 23=some (.slice 71):=by kernel_rfl
theorem und_vrs:Tryz.prog.underlying 22=some (.slice 68):=by kernel_rfl
theorem cells_str:Tryz.prog.cellsOf 9=1:=by kernel_rfl
theorem cells_vi:Tryz.prog.cellsOf 70=2:=by kernel_rfl
theorem cells_vs:Tryz.prog.cellsOf 71=2:=by kernel_rfl
theorem cells_vr:Tryz.prog.cellsOf 68=4:=by kernel_rfl
theorem cells_vw:Tryz.prog.cellsOf 25=2:=by kernel_rfl
theorem cells_sl:Tryz.prog.cellsOf 66=1/\Tryz.prog.cellsOf 23=1/\Tryz.prog.cellsOf 22=1:=⟨by kernel_rfl,by kernel_rfl,by kernel_rfl⟩
section
variable {H : Type} {enc : TypeId × Value → H} {W : World} {held : Bool} {n : Nat} {cs : List Value} {x : DataW H × List MemPlace}
theorem str_one {v:Value} {y:DataW H×List MemPlace} (h:DataW.trod enc Tryz.prog W 0 (fun _=>true) held n 9 [v]=some y) (hw:Light0 Tryz.prog 9 y.1):∃z:List UInt8,v=.string ⟨z.toArray⟩/\z.length<=140737488355328:=by
 obtain⟨z,hz,hy,_⟩:=DataW.trod_string und_str h
 have hl:z.data.toList.length<=reachBytes:=hw _ (by rw[hy];unfold DataW.weights;simp)
 exact⟨z.data.toList,by simpa using hz,Nat.le_trans hl (by decide)⟩
theorem pair_of [MaxL] {e:TypeId} (hu:Tryz.prog.underlying e=some (.struct #[{name:= "Name",type:=9,offset:=0,embedded:=false,tag:= "",pkgPath:= "",byteOffset:=0},{name:= "Of",type:=9,offset:=1,embedded:=false,tag:= "",pkgPath:= "",byteOffset:=16}])) (hc:Tryz.prog.cellsOf e=2) (h:DataW.trod enc Tryz.prog W 0 (fun _=>true) held n e cs=some x) (hw:Light0 Tryz.prog e x.1):
  ∃p:By×By,pOk p/\cs.length=1+1/\∀(j:Nat) g u,(pairG p).cells[j]?=some g->cs[j]?=some u->VR (C0 W) g u:=by
 obtain⟨xs,m,_,rfl,hlen,hxs,hf⟩:=DataW.trod_struct hu h
 rw[hc] at hlen
 obtain⟨c0,c1,rfl⟩:=twoL hlen
 have f0:DataW.trod enc Tryz.prog W 0 (fun _=>true) held m 9 (([c0,c1].drop 0).take (Tryz.prog.cellsOf 9))=xs[0]?:=hf 0 _ rfl
 have f1:DataW.trod enc Tryz.prog W 0 (fun _=>true) held m 9 (([c0,c1].drop 1).take (Tryz.prog.cellsOf 9))=xs[1]?:=hf 1 _ rfl
 rw[cells_str] at f0 f1
 have g0:=gL (l:=xs) (i:=0) (by rw[hxs];decide)
 have g1:=gL (l:=xs) (i:=1) (by rw[hxs];decide)
 obtain⟨a,rfl,ha⟩:=str_one (f0.trans g0) (light_part hu hw rfl g0)
 obtain⟨b,rfl,hb⟩:=str_one (f1.trans g1) (light_part hu hw rfl g1)
 refine⟨(a,b),⟨ha,hb⟩,rfl,fun j g u h1 h2=>?_⟩
 match j,h1,h2 with
 |0,h1,h2=>cases h1;cases h2;exact .s _
 |1,h1,h2=>cases h1;cases h2;exact .s _
 |j+2,h1,h2=>cases h1
theorem rec_of [MaxL] (h:DataW.trod enc Tryz.prog W 0 (fun _=>true) held n 68 cs=some x) (hw:Light0 Tryz.prog 68 x.1):
  ∃r:VwR,rOk r/\cs.length=3+1/\∀(j:Nat) g u,(recG r).cells[j]?=some g->cs[j]?=some u->VR (C0 W) g u:=by
 obtain⟨xs,m,_,rfl,hlen,hxs,hf⟩:=DataW.trod_struct und_vr h
 rw[cells_vr] at hlen
 obtain⟨c0,c1,c2,c3,rfl⟩:=fourL hlen
 have f0:DataW.trod enc Tryz.prog W 0 (fun _=>true) held m 9 (([c0,c1,c2,c3].drop 0).take (Tryz.prog.cellsOf 9))=xs[0]?:=hf 0 _ rfl
 have f1:DataW.trod enc Tryz.prog W 0 (fun _=>true) held m 9 (([c0,c1,c2,c3].drop 1).take (Tryz.prog.cellsOf 9))=xs[1]?:=hf 1 _ rfl
 have f2:DataW.trod enc Tryz.prog W 0 (fun _=>true) held m 66 (([c0,c1,c2,c3].drop 2).take (Tryz.prog.cellsOf 66))=xs[2]?:=hf 2 _ rfl
 have f3:DataW.trod enc Tryz.prog W 0 (fun _=>true) held m 9 (([c0,c1,c2,c3].drop 3).take (Tryz.prog.cellsOf 9))=xs[3]?:=hf 3 _ rfl
 rw[cells_str] at f0 f1 f3
 rw[cells_sl.1] at f2
 have g0:=gL (l:=xs) (i:=0) (by rw[hxs];decide)
 have g1:=gL (l:=xs) (i:=1) (by rw[hxs];decide)
 have g2:=gL (l:=xs) (i:=2) (by rw[hxs];decide)
 have g3:=gL (l:=xs) (i:=3) (by rw[hxs];decide)
 obtain⟨a,rfl,ha⟩:=str_one (f0.trans g0) (light_part und_vr hw rfl g0)
 obtain⟨b,rfl,hb⟩:=str_one (f1.trans g1) (light_part und_vr hw rfl g1)
 obtain⟨c,rfl,hc⟩:=str_one (f3.trans g3) (light_part und_vr hw rfl g3)
 obtain⟨l,_,hl,v,hv,hvr⟩:=slice_any pOk pairG und_vis cells_vi (fun _ _ _ h hw=>pair_of und_vi cells_vi h hw) (fun _=>rfl) (f2.trans g2) (light_part und_vr hw rfl g2)
 obtain rfl:c2=v:=by
  have h9:[c2]=[v]:=hv
  exact List.head_eq_of_cons_eq h9
 refine⟨⟨a,b,l,c⟩,⟨ha,hb,hc,hl⟩,rfl,fun j g u h1 h2=>?_⟩
 match j,h1,h2 with
 |0,h1,h2=>cases h1;cases h2;exact .s _
 |1,h1,h2=>cases h1;cases h2;exact .s _
 |2,h1,h2=>cases h1;cases h2;exact hvr
 |3,h1,h2=>cases h1;cases h2;exact .s _
 |j+4,h1,h2=>cases h1
variable {r : Reach} {b0 : Nat} {v : Value} {d : DataW H} {ps : List MemPlace}
theorem view_up [MaxL] (hval:Value.okWide Tryz.prog W r b0 25 v) (hd:DataW.Trod enc Tryz.prog W 0 (fun _=>true) held 25 v d ps) (hw:Light0 Tryz.prog 25 d):∃V:Vw,vOk V/\V.recs.length<=maxLen/\V.sets.length<=maxLen/\VR (C0 W) (viewG V) v:=by
 have hag:∃cs,v=.agg cs:=by
  unfold Value.okWide at hval
  rw[und_vw] at hval
  obtain⟨cs,h,_⟩:=hval
  exact⟨cs,h⟩
 obtain⟨cs,rfl⟩:=hag
 obtain⟨fuel,hf0⟩:=hd
 obtain⟨xs,m,_,hx,hlen,hxs,hf⟩:=DataW.trod_struct und_vw hf0
 obtain rfl:d=.agg (xs.map (·.1)):=congrArg Prod.fst hx
 rw[cells_vw] at hlen
 obtain⟨c0,c1,hcs⟩:=twoL hlen
 rw[hcs] at hf
 have f0:DataW.trod enc Tryz.prog W 0 (fun _=>true) held m 22 (([c0,c1].drop 0).take (Tryz.prog.cellsOf 22))=xs[0]?:=hf 0 _ rfl
 have f1:DataW.trod enc Tryz.prog W 0 (fun _=>true) held m 23 (([c0,c1].drop 1).take (Tryz.prog.cellsOf 23))=xs[1]?:=hf 1 _ rfl
 rw[cells_sl.2.2] at f0
 rw[cells_sl.2.1] at f1
 have g0:=gL (l:=xs) (i:=0) (by rw[hxs];decide)
 have g1:=gL (l:=xs) (i:=1) (by rw[hxs];decide)
 obtain⟨l0,hl0,hq0,v0,hv0,hvr0⟩:=slice_any rOk recG und_vrs cells_vr (fun _ _ _ h hw=>rec_of h hw) (fun _=>rfl) (f0.trans g0) (light_part und_vw hw rfl g0)
 obtain⟨l1,hl1,hq1,v1,hv1,hvr1⟩:=slice_any pOk pairG und_vss cells_vs (fun _ _ _ h hw=>pair_of und_vs cells_vs h hw) (fun _=>rfl) (f1.trans g1) (light_part und_vw hw rfl g1)
 obtain rfl:c0=v0:=List.head_eq_of_cons_eq (show[c0]=[v0] from hv0)
 obtain rfl:c1=v1:=List.head_eq_of_cons_eq (show[c1]=[v1] from hv1)
 have hcs':cs= #[c0,c1]:=by
  have h9:cs.toList=[c0,c1]:=hcs
  rw[<-Array.toArray_toList (xs:=cs),h9]
 subst hcs'
 refine⟨⟨l0,l1⟩,⟨hq0,hq1⟩,hl0,hl1,.agg rfl fun j g u h1 h2=>?_⟩
 match j,h1,h2 with
 |0,h1,h2=>cases h1;cases h2;exact hvr0
 |1,h1,h2=>cases h1;cases h2;exact hvr1
 |j+2,h1,h2=>cases h1
end
end Go.Proofs.YtldggonlkafckaaGreatDoor
namespace Go.Proofs.YtldggonlkafckaaGreatDoor
open Go Go.ChangeShapes Go.WideShapes Go.RowKit Go.ChangeMaps
set_option maxRecDepth 100000
set_option linter.unusedVariables false
def iv:GV->Option Int
 |.i _ n=>some n
 |_=>none
theorem told [MaxL] {W:World} (h:laidMetH Tryz.prog Rows.viewTextsRow.laid W) (hm:W.cell? ⟨0,0,none⟩=some (.int .i64 MaxL.m)) (hms:∃c t fr,W.heap[(0:Nat)]?=some (.cells c t fr)/\c.size=1):Told W:=by
 rw[MakeChecks.laidMetH_plain _ _ _ (by kernel_rfl)] at h
 obtain⟨ps,⟨gA,tA,csA,fA,pA,qA,hgA,htA,hvA,hdA,⟨gB,tB,csB,fB,pB,qB,hgB,htB,hvB,hdB,⟨gC,tC,csC,fC,pC,qC,hgC,htC,hvC,hdC,⟨gD,tD,csD,fD,pD,qD,hgD,htD,hvD,hdD,⟨gE,tE,csE,fE,pE,qE,hgE,htE,hvE,hdE,⟨gF,tF,csF,fF,pF,qF,hgF,htF,hvF,hdF,⟨gG,tG,csG,fG,pG,qG,hgG,htG,hvG,hdG,eN,eG⟩,eF⟩,eE⟩,eD⟩,eC⟩,eB⟩,eA⟩,hnd,hrows⟩:=h
 obtain rfl:=Option.some.inj ((show Tryz.prog.globalNamed "math/bits.deBruijn32tab" =some 8 by kernel_rfl).symm.trans hgA)
 obtain rfl:=Option.some.inj ((show(Tryz.prog.globals[(8:Nat)]?).map (·.type)=some 395 by kernel_rfl).symm.trans htA)
 obtain rfl:=Option.some.inj ((show Tryz.prog.globalNamed "math/bits.deBruijn64tab" =some 9 by kernel_rfl).symm.trans hgB)
 obtain rfl:=Option.some.inj ((show(Tryz.prog.globals[(9:Nat)]?).map (·.type)=some 396 by kernel_rfl).symm.trans htB)
 obtain rfl:=Option.some.inj ((show Tryz.prog.globalNamed "internal/strconv.uint64pow10" =some 7 by kernel_rfl).symm.trans hgC)
 obtain rfl:=Option.some.inj ((show(Tryz.prog.globals[(7:Nat)]?).map (·.type)=some 368 by kernel_rfl).symm.trans htC)
 obtain rfl:=Option.some.inj ((show Tryz.prog.globalNamed "strconv.ErrRange" =some 5 by kernel_rfl).symm.trans hgE)
 obtain rfl:=Option.some.inj ((show(Tryz.prog.globals[(5:Nat)]?).map (·.type)=some 129 by kernel_rfl).symm.trans htE)
 obtain rfl:=Option.some.inj ((show Tryz.prog.globalNamed "strconv.ErrSyntax" =some 4 by kernel_rfl).symm.trans hgF)
 obtain rfl:=Option.some.inj ((show(Tryz.prog.globals[(4:Nat)]?).map (·.type)=some 129 by kernel_rfl).symm.trans htF)
 obtain⟨lE⟩:=csE
 have okE:∀u v,lE=[.iface u v]->Value.okWide Tryz.prog W .any 0 u v:=fun u v e=>by
  subst e
  exact(hrows 5 0 (by rw[eA,eB,eC,eD,eE,eF,eG];simp[MemPlace.row])).2 u v (by simpa using World.var?_cell hgE hvE 0)
 obtain⟨lF⟩:=csF
 have okF:∀u v,lF=[.iface u v]->Value.okWide Tryz.prog W .any 0 u v:=fun u v e=>by
  subst e
  exact(hrows 4 0 (by rw[eA,eB,eC,eD,eE,eF,eG];simp[MemPlace.row])).2 u v (by simpa using World.var?_cell hgF hvF 0)
 have eF':=told_err hgF hvF rfl hdF okF
 have eE':=told_err hgE hvE rfl hdE okE
 have eC':=told_ints (k:=.u64) (e:=237) (n:=20) (laid7.filterMap iv) hgC hvC (by kernel_rfl) (by kernel_rfl) (by kernel_rfl) (by kernel_rfl) (by kernel_rfl) hdC
 have eA':=told_ints (k:=.u8) (e:=5) (n:=32) (laid8.filterMap iv) hgA hvA (by kernel_rfl) (by kernel_rfl) (by kernel_rfl) (by kernel_rfl) (by kernel_rfl) hdA
 have eB':=told_ints (k:=.u8) (e:=5) (n:=64) (laid9.filterMap iv) hgB hvB (by kernel_rfl) (by kernel_rfl) (by kernel_rfl) (by kernel_rfl) (by kernel_rfl) hdB
 have one:∀{g:Nat} {n:String} {cs:Array Value} {k:Nat},Tryz.prog.globalNamed n=some g->W.var? Tryz.prog n=some cs->cs.size=k->∃c t fr,W.heap[g]?=some (.cells c t fr)/\c.size=k:=fun hg hv h=>by
  obtain⟨t,fr,ho⟩:=heap_of_var hg hv
  exact⟨_,t,fr,ho,h⟩
 have hmax:∀(j:Nat) x,([.i .i64 MaxL.m]:List GV)[j]?=some x->∃u,W.cell? ⟨0,j,none⟩=some u/\∀D:Cx,(∀b o v,W.cell? ⟨b,o,none⟩=some v->D.fx b o v)->VR D x u:=fun j x hx=>by
  match j,hx with
  |0,hx=>cases hx;exact⟨_,hm,fun D hD=>.i _ _⟩
  |j+1,hx=>cases hx
 refine⟨fun g cs hg=>?_,fun g cs j x hg hx=>?_⟩
 ·match g,hg with
  |0,hg=>obtain rfl:=Option.some.inj hg;exact hms
  |1,hg=>cases hg
  |2,hg=>cases hg
  |3,hg=>cases hg
  |4,hg=>obtain rfl:=Option.some.inj hg;exact one hgF hvF eF'.1
  |5,hg=>obtain rfl:=Option.some.inj hg;exact one hgE hvE eE'.1
  |6,hg=>cases hg
  |7,hg=>obtain rfl:=Option.some.inj hg;exact one hgC hvC eC'.1
  |8,hg=>obtain rfl:=Option.some.inj hg;exact one hgA hvA eA'.1
  |9,hg=>obtain rfl:=Option.some.inj hg;exact one hgB hvB eB'.1
  |n+10,hg=>cases hg
 ·match g,hg with
  |0,hg=>obtain rfl:=Option.some.inj hg;exact hmax j x hx
  |1,hg=>cases hg
  |2,hg=>cases hg
  |3,hg=>cases hg
  |4,hg=>obtain rfl:=Option.some.inj hg;exact eF'.2 j x hx
  |5,hg=>obtain rfl:=Option.some.inj hg;exact eE'.2 j x hx
  |6,hg=>cases hg
  |7,hg=>obtain rfl:=Option.some.inj hg;exact eC'.2 j x hx
  |8,hg=>obtain rfl:=Option.some.inj hg;exact eA'.2 j x hx
  |9,hg=>obtain rfl:=Option.some.inj hg;exact eB'.2 j x hx
  |n+10,hg=>cases hg
theorem laid_shaped (os:Os):(World.laidAll Tryz.prog os Rows.viewTextsRow.laid).Shaped Tryz.prog:=World.shaped_of_ZipB (by kernel_rfl) (by kernel_rfl)
theorem door_met (os:Os) (args:Array Value):laidMetH Tryz.prog Rows.viewTextsRow.laid ((World.laidAll Tryz.prog os Rows.viewTextsRow.laid).forCall (fun _ _=>0) ⟨#[],args,[]⟩).memory:=by
 rw[MakeChecks.laidMetH_plain _ _ _ (by kernel_rfl)];exact laidMet_laidAll _ (by kernel_rfl) (by kernel_rfl)
theorem calls_true [MaxL] {k:FuncId} {args:List GV} {s':List GObj} {W:World} {vs:Array Value} (h:SC Tryz.prog k args [] (.val (.b true)) s') (ht:Told W) (hv:VRs (C0 W) args vs.toList):
  Calls Tryz.prog k vs W fun e W'=>e=.returned (.bool true)/\Base (fun _=>False) W W':=
 (h.calls (C0 W) W vs (rel_start ht) hv).mono fun e W' ⟨D,hl,hr,he⟩=>by
  obtain⟨v,rfl,hv⟩:=he
  have hm:D.mine=fun _=>False:=hl.fix.1
  refine⟨?_,hm▸hr.below⟩
  cases hv
  rfl
theorem s_up [MaxL] (s:ByteArray) {C:Cx}:VR C (.s s.data.toList) (.string s):=by
 have:s=⟨s.data.toList.toArray⟩:=by simp
 exact this▸VR.s s.data.toList
theorem laidOut_:laidOutB Tryz.checked.prog=true:=by kernel_rfl
section
variable {H : Type} {enc : TypeId × Value → H}
theorem handed_both {a:Assume} {C:Checked} {os:Os} {f:FuncId} {fn:Func} {s:ChangeSpec} {conds:List PathCond} {apart fresh handsOn again:Bool} {X:World->Array Value->Prop}
  (hX:∀(w w':World) (args:Array Value),w.heap=w'.heap->X w args->X w' args)
  (own:ownKnob C.prog.godebug=none) (started:os.Started) (noInit:C.prog.inits.idxOf? f=none) (hfn:C.prog.funcs[f]?=some fn)
  (witness:∃(w:World) (tape:Tape) (i:Input),w.os=os/\(w.forCall tape i).Shaped C.prog/\i.vars=[]/\Input.okWide C.prog (w.forCall tape i) .any w.heap.size f i/\
   ((s.pre enc C.prog fn conds apart (w.forCall tape i).memory i.args/\X (w.forCall tape i).memory i.args)/\sizedMet enc C.prog fn (OpenSpec.ofChange s) apart (w.forCall tape i).memory i.args)/\a.holds C.prog (lone (Frame.enter C.prog f i.args .normal) [] (w.forCall tape i)))
  (contract:∀(W:World) (base:Nat) (args:Array Value) (ds gs:List (DataW H)) (before:List MemPlace),
   (∀(j:Nat) t v,fn.params[j]?=some t->args[j]?=some v->Value.okWide C.prog W .any base t v)->
   DataW.Whole enc C.prog fn.params.toList s.vars apart W args.toList ds gs before->
   (DataW.weightsEach C.prog (fn.params.toList++s.plain.varTypes C.prog) (ds++gs)).all (· <=reachBytes)=true->X W args->W.ShapedOpen C.prog->
   Calls C.prog f args W fun e W'=>∃v,e=.returned v/\s.post enc C.prog fn apart fresh handsOn again W args v W'):
  ReturnsInHanded a C os f .any (fun w args=>(s.pre enc C.prog fn conds apart w args/\X w args)/\sizedMet enc C.prog fn (OpenSpec.ofChange s) apart w args) (s.post enc C.prog fn apart fresh handsOn again):=by
 refine returnsInHanded_of_calls own started noInit witness ?_
 intro w tape i _ hsh _ hok hpre hholds
 obtain⟨_,_,_,fn',hfn',_,_,_,_,hval⟩:=hok
 have e:fn'=fn:=Option.some.inj (hfn'.symm.trans hfn)
 subst e
 obtain⟨⟨⟨ds,gs,before,hw,hc⟩,hx⟩,hz⟩:=hpre
 have hw':=DataW.Whole.of_heap (w':=w.forCall tape i) (by rfl) hw
 refine(contract (w.forCall tape i) w.heap.size i.args ds gs before hval hw' (hz.weights hw) (hX _ _ _ (by rfl) hx) hsh).mono fun e W' ⟨v,he,hp⟩=>?_
 subst he
 exact ChangeSpec.post_blind hp
variable {P : Program} {w : World} {base : Nat} {spare : Nat → Bool} {held : Bool}
theorem trodAll_three {t0 t1 t2:TypeId} {args:Array Value} {ds:List (DataW H)} {ps:List MemPlace} (h:DataW.TrodAll enc P w base spare held [t0,t1,t2] args.toList ds ps):
  ∃v0 v1 v2 d0 d1 d2 p0 p1 p2,args= #[v0,v1,v2]/\ds=[d0,d1,d2]/\ps=p0++(p1++p2)/\DataW.Trod enc P w base spare held t0 v0 d0 p0/\DataW.Trod enc P w base spare held t1 v1 d1 p1/\DataW.Trod enc P w base spare held t2 v2 d2 p2:=by
 obtain⟨v0,vs,d0,ds1,p0,q,hargs,rfl,rfl,h0,hrest⟩:=trodAll_cons h
 obtain⟨v1,vs1,d1,ds2,p1,q1,rfl,rfl,rfl,h1,hrest1⟩:=trodAll_cons hrest
 obtain⟨v2,vs2,d2,ds3,p2,q2,rfl,rfl,rfl,h2,hrest2⟩:=trodAll_cons hrest1
 obtain⟨rfl,rfl,rfl⟩:=trodAll_nil hrest2
 exact⟨v0,v1,v2,d0,d1,d2,p0,p1,p2,by cases args;simp_all,rfl,by simp,h0,h1,h2⟩
end
theorem maxLen_told {W:World} (h:W.ShapedOpen Tryz.prog):∃m,W.cell? ⟨0,0,none⟩=some (.int .i64 m)/\∃c t fr,W.heap[(0:Nat)]?=some (.cells c t fr)/\c.size=1:=by
 have h0:((begin Tryz.prog (fun _ _=>0) default).world.heap[(0:Nat)]?).bind Obj.row?=some (#[.int .i64 0],3):=by kernel_rfl
 have hg:(0:Nat)<Tryz.prog.globals.size:=of_decide_eq_true (by kernel_rfl)
 obtain⟨m,hm⟩:=cell_of_shapedOpen_int (zero:= #[.int .i64 0]) (t:=3) (k:=.i64) h hg h0 rfl (by kernel_rfl) (by kernel_rfl) (by kernel_rfl)
 obtain⟨cs,hh,hs,_⟩:=h.1 _ _ _ hg h0
 exact⟨m,hm,cs,_,_,hh,hs⟩
def LawViewTexts:Prop:=∀[MaxL] (V0 V1:Vw) (t:List UInt8),vOk V0->V0.recs.length<=maxLen->V0.sets.length<=maxLen->vOk V1->V1.recs.length<=maxLen->V1.sets.length<=maxLen->
 SC Tryz.prog 3 [viewG V0,viewG V1,.s t] [] (.val (.b true)) []
theorem viewTexts_lifted (law:LawViewTexts)
  (os:Os) (started:os.Started) (H:Type) (enc:TypeId×Value->H):
  ReturnsInHanded {} Tryz.checked os 3 .any (fun w args=>(Rows.viewTextsSpec.pre enc Tryz.prog Tryz.f3 [] false w args/\laidMetH Tryz.prog Rows.viewTextsRow.laid w)/\sizedMet enc Tryz.prog Tryz.f3 (OpenSpec.ofChange Rows.viewTextsSpec) false w args)
   (Rows.viewTextsSpec.post enc Tryz.prog Tryz.f3 false true false false):=by
 refine handed_both (C:=Tryz.checked) (X:=fun w _=>laidMetH Tryz.prog Rows.viewTextsRow.laid w) (fun _ _ _ hh h=>h.of_heap hh) own started (by kernel_rfl) Tryz.func3
  (ChangeSpec.witness_shaped (enc:=enc) (C:=Tryz.checked) (os:=os) (X:=fun w _=>laidMetH Tryz.prog Rows.viewTextsRow.laid w) false (World.laidAll Tryz.prog os Rows.viewTextsRow.laid) #[.agg #[.slice none 0 0,.slice none 0 0],.agg #[.slice none 0 0,.slice none 0 0],.string ⟨#[]⟩] 8 (World.laidAll_os _ _ _) (laid_shaped os) (by kernel_rfl) (by kernel_rfl) (by kernel_rfl) (door_met os _)) ?_
 intro W base args ds gs before hval0 hW hwt hL hsh
 have hval:∀(j:Nat) t v,Tryz.f3.params[j]?=some t->args[j]?=some v->Value.okWide Tryz.prog W .any base t v:=hval0
 have hW':=hW
 obtain⟨p,q,hA0,hV,rfl,hfz,hnd⟩:=hW
 have hA:DataW.TrodAll enc Tryz.prog W 0 (fun _=>true) true Tryz.f3.params.toList args.toList ds p:=hA0
 have hwt0:(DataW.weightsEach Tryz.prog (Tryz.f3.params.toList++Rows.viewTextsSpec.plain.varTypes Tryz.prog) (ds++gs)).all (· <=reachBytes)=true:=hwt
 rw[show Tryz.f3.params= #[25,25,9] from rfl] at hA hval hwt0
 obtain⟨v0,v1,v2,d0,d1,d2,p0,p1,p2,rfl,rfl,rfl,h0,h1,h2⟩:=trodAll_three hA
 obtain⟨rfl,rfl⟩:=trodVars_none hV
 have hall:∀m∈DataW.weightsEach Tryz.prog ([25,25,9]++Rows.viewTextsSpec.plain.varTypes Tryz.prog) ([d0,d1,d2]++[]),m<=reachBytes:=fun m hm=>of_decide_eq_true (List.all_eq_true.1 hwt0 m hm)
 have w0:Light0 Tryz.prog 25 d0:=fun m hm=>hall m (mem_each (i:=0) (t:=25) (d:=d0) rfl rfl hm)
 have w1:Light0 Tryz.prog 25 d1:=fun m hm=>hall m (mem_each (i:=1) (t:=25) (d:=d1) rfl rfl hm)
 have hlt:∀x∈p0++(p1++p2),x.block<W.heap.size:=fun x hx=>by simpa using hW'.lt x (by simpa using hx)
 have hlt0:∀x∈p0,x.block<W.heap.size:=fun x hx=>hlt x (by simp[hx])
 have hlt1:∀x∈p1,x.block<W.heap.size:=fun x hx=>hlt x (by simp[hx])
 have hlt2:∀x∈p2,x.block<W.heap.size:=fun x hx=>hlt x (by simp[hx])
 obtain⟨m,hm,hms⟩:=maxLen_told hsh
 letI:MaxL:=⟨m⟩
 obtain⟨V0,o0,r0,s0,hv0⟩:=view_up (hval 0 _ v0 rfl rfl) h0 w0
 obtain⟨V1,o1,r1,s1,hv1⟩:=view_up (hval 1 _ v1 rfl rfl) h1 w1
 have hh2:=h2
 obtain⟨s,rfl,rfl,rfl,hs⟩:=open_string und_str (hval 2 9 v2 rfl rfl) h2
 refine(calls_true (law V0 V1 s.data.toList o0 r0 s0 o1 r1 s1) (told hL hm hms) ⟨rfl,fun j g u g1 g2=>?_⟩).mono fun e W' ⟨he,hb⟩=>?_
 ·match j,g1,g2 with
  |0,g1,g2=>cases g1;cases g2;exact hv0
  |1,g1,g2=>cases g1;cases g2;exact hv1
  |2,g1,g2=>cases g1;cases g2;exact s_up _
 ·subst he
  have hbel:Below W.heap.size W W':=⟨hb.os,hb.tape,hb.output,hb.size,fun k hk=>hb.block k hk (fun h=>h)⟩
  refine⟨_,rfl,_,_,_,[],p0++(p1++[]),[],hW',?_,?_,rfl,kept_below (fun _ h=>h) hb,fun h=>by cases h⟩
  ·exact trodAll_mk1 (shut_bool und_bool true)
  ·refine trodAll_mk3 ?_ ?_ ?_
   ·exact Below.trod laidOut_ (by kernel_rfl) (of_decide_eq_true (by kernel_rfl)) h0 hbel hlt0
   ·exact Below.trod laidOut_ (by kernel_rfl) (of_decide_eq_true (by kernel_rfl)) h1 hbel hlt1
   ·exact Below.trod laidOut_ (by kernel_rfl) (of_decide_eq_true (by kernel_rfl)) hh2 hbel hlt2
theorem vt_closed:joinedFacts Tryz.pinned.checked.prog 3 Tryz.f3 Rows.viewTextsSpec Rows.viewTextsRow=true:=by kernel_rfl
theorem vt_inst:Tryz.f3.isInstance Tryz.pinned.checked.prog Rows.viewTextsRow.origin Rows.viewTextsRow.targs:=(of_decide_eq_true (by kernel_rfl))
theorem vt_wrap:Tryz.f3.isWrapper Tryz.pinned.checked.prog Rows.viewTextsRow.wrapper Rows.viewTextsRow.mainSum:=(by unfold Func.isWrapper;first|(rw[if_pos (by decide+kernel)];kernel_rfl)|(rw[if_neg (by decide+kernel)];exact⟨rfl,rfl⟩))
theorem viewTexts_of (law:LawViewTexts):Rows.ViewTextsSaid:=
 OpenClaim.holds_of_wide 3 Tryz.f3 rfl rfl rfl rfl rfl rfl rfl ⟨rfl,rfl,rfl,rfl,rfl⟩ rfl rfl rfl rfl rfl (by kernel_rfl) Tryz.func3 vt_closed
  vt_inst vt_wrap
  (fun os started H enc _=>viewTexts_lifted law os started H enc)
end Go.Proofs.YtldggonlkafckaaGreatDoor
namespace Go.Proofs.YtldggonlkafckaaGreatDoor
open Go
theorem viewTexts_card_of (h:Rows.ViewTextsSaid):Rows.ViewTextsCardSaid:=
 Claim7.holds_tied_plain_at .later [] [.data,.data,.data,.data,.sentinel,.sentinel,.pinned] true (true, "05372343198e1a489d40f1414a62519f19aaba00849636b7f91c0ff16e364d76") true
  h (fun _ h=>by cases h) (by kernel_rfl) (fun _ h=>by cases h) viewTexts_row_tie rfl ⟨rfl,rfl⟩ (by kernel_rfl) rfl
  (fun f fn hf hfn=>by
   obtain rfl:f=3:=Option.some.inj ((show Tryz.prog.funcNamed "ringwork/ringworklaw05.ViewTexts" =some 3 by kernel_rfl).symm.trans hf) |>.symm
   obtain rfl:fn=Tryz.f3:=(Option.some.inj (Tryz.func3.symm.trans hfn)).symm
   exact⟨by kernel_rfl,fun j t ht=>by
    rw[show Tryz.f3.params= #[25,25,9] from rfl] at ht
    match j,ht with
    |0,ht=>cases ht;exact(show Tryz.prog.wantsStandIn 25=false by kernel_rfl)
    |1,ht=>cases ht;exact(show Tryz.prog.wantsStandIn 25=false by kernel_rfl)
    |2,ht=>cases ht;exact(show Tryz.prog.wantsStandIn 9=false by kernel_rfl)
    |j+3,ht=>cases ht⟩)
  (by kernel_rfl)
theorem viewTexts_holds:Rows.ViewTextsCardSaid:=viewTexts_card_of (viewTexts_of fun v w t o0 r0 s0 o1 r1 s1=>l_ViewTexts v w t o0 r0 s0 o1 r1 s1)
end Go.Proofs.YtldggonlkafckaaGreatDoor
