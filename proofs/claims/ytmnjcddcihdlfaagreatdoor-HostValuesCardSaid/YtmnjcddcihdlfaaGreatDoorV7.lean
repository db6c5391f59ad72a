/- Part of HostValues. -/
import Derived.Test.YtmnjcddcihdlfaaGreatDoorV6
import Derived.Tactics
import Derived.TacticsIn
import Derived.RangeFuncLeaves
import Derived.RangeFuncRecord
import Derived.RangeFuncSeq
import Derived.KernelRfl
import Derived.Lib.Bytealg
import Derived.Laws.Externs
set_option linter.all false
namespace Go.Proofs.YtmnjcddcihdlfaaGreatDoor
section
open Go.RowKit
variable [Globals]
def LG (n:Nat):Tok->Bool
 |.own r=>r<n
 |_=>true
mutual
def GV.bel (n:Nat):GV->Bool
 |.agg cs=>GV.belL n cs
 |.tup cs=>GV.belL n cs
 |.ifc _ g=>GV.bel n g
 |.fn _ a c=>GV.belL n a&&GV.belL n c
 |.sl k xs=>LG n k&&GV.belL n xs
 |.ptr r _=>r<n
 |.snap cs _=>GV.belL n cs
 |.mp r=>r<n
 |.rs r _ _ _ _=>r<n
 |.yld r=>r<n
 |.dat r cs=>r<n&&GV.belL n cs
 |.glb _ _=>true
 |.b _=>true
 |.i _ _=>true
 |.s _=>true
 |.o _=>true
 |.any=>true
def GV.belL (n:Nat):List GV->Bool
 |[]=>true
 |x::xs=>GV.bel n x&&GV.belL n xs
end
mutual
def GV.pur:GV->GV
 |.agg cs=>.agg (GV.purL cs)
 |.tup cs=>.tup (GV.purL cs)
 |.ifc t g=>.ifc t (GV.pur g)
 |.fn f a c=>.fn f (GV.purL a) (GV.purL c)
 |.sl _ xs=>.sl .none (GV.purL xs)
 |.ptr r off=>.ptr r off
 |.snap cs off=>.snap (GV.purL cs) off
 |.mp r=>.mp r
 |.rs r off esz n c=>.rs r off esz n c
 |.yld r=>.yld r
 |.dat r cs=>.dat r (GV.purL cs)
 |.glb g off=>.glb g off
 |.b t=>.b t
 |.i k n=>.i k n
 |.s l=>.s l
 |.o v=>.o v
 |.any=>.any
def GV.purL:List GV->List GV
 |[]=>[]
 |x::xs=>GV.pur x::GV.purL xs
end
theorem lB:∀xs:List GV,GV.purL xs=xs.map GV.pur
 |[]=>rfl
 |x::xs=>by rw[GV.purL,lB xs];rfl
theorem CZ (n:Nat):∀xs:List GV,GV.belL n xs=xs.all (GV.bel n)
 |[]=>rfl
 |x::xs=>by rw[GV.belL,CZ n xs];rfl
theorem n5 {n:Nat} {xs:List GV} (h:GV.belL n xs=true):∀x∈xs,GV.bel n x=true:=by
 rw[CZ] at h;simpa using h
theorem oZ {n:Nat} {xs:List GV} (h:∀x∈xs,GV.bel n x=true):GV.belL n xs=true:=by
 rw[CZ];simpa using h
theorem EC (x:GV):x.pur.cells=x.cells.map GV.pur:=by
 cases x<;>simp[GV.pur,GV.cells,lB]
theorem R9 {n:Nat} {x:GV} (h:GV.bel n x=true):∀g∈x.cells,GV.bel n g=true:=by
 intro g hg;cases x with
 |agg cs=>
  rw[GV.bel] at h;exact n5 h g hg
 |_=>simp[GV.cells] at hg;subst hg;exact h
theorem I3 {n:Nat} {x:GV} (h:∀g∈x.cells,GV.bel n g=true):GV.bel n x=true:=by
 cases x with
 |agg cs=>rw[GV.bel];exact oZ h
 |_=>exact h _ (by simp[GV.cells])
theorem VR.pur {C:Cx} {g:GV} {v:Value} (h:VR C g v):VR C g.pur v:=by
 induction h with
 |b x=>exact .b x
 |i k n=>exact .i k n
 |s x=>exact .s x
 |o h=>exact .o h
 |agg hl _ ih=>
  rw[GV.pur,lB];refine .agg (by simpa using hl) (fun j g u h1 h2=>?_);rw[aG,aC] at h1;obtain⟨a,ha,rfl⟩:=h1;exact ih j a u ha h2
 |tup hl _ ih=>
  rw[GV.pur,lB];refine .tup (by simpa using hl) (fun j g u h1 h2=>?_);rw[aG,aC] at h1;obtain⟨a,ha,rfl⟩:=h1;exact ih j a u ha h2
 |ifc _ ih=>exact .ifc ih
 |fn h1 h2 _ _ ih1 ih2=>
  rw[GV.pur,lB,lB];refine .fn (by simpa using h1) (by simpa using h2) (fun j g u h1 h2=>?_) (fun j g u h1 h2=>?_)<;>
  ·rw[aG,aC] at h1;obtain⟨a,ha,rfl⟩:=h1;first|exact ih1 j a u ha h2|exact ih2 j a u ha h2
 |sl esz b off us hn hc ha hw hx hv ht ih=>
  rw[GV.pur,lB];have get:∀{xs:List GV} {i:Nat} {x:GV} {j:Nat} {g:GV},(xs.map GV.pur)[i]?=some x->x.cells[j]?=some g->∃y z,xs[i]?=some y/\y.cells[j]?=some z/\g=z.pur:=fun h1 h2=>by
   rw[aG,aC] at h1;obtain⟨y,hy,rfl⟩:=h1;rw[EC,aG,aC] at h2;obtain⟨z,hz,rfl⟩:=h2;exact⟨y,z,hy,hz,rfl⟩
  refine .sl esz b off us (by simpa using hn) hc ha (fun x hx=>?_) (fun i x j g h1 h2=>?_) (fun i x j g h1 h2=>?_) trivial
  ·obtain⟨y,hy,rfl⟩:=List.mem_map.1 hx;rw[EC,aS];exact hw y hy
  ·obtain⟨y,z,hy,hz,rfl⟩:=get h1 h2;exact hx i y j z hy hz
  ·obtain⟨y,z,hy,hz,rfl⟩:=get h1 h2;exact ih i y j z hy hz
 |ptr h=>exact .ptr h
 |snap b o us hx _ ih=>
  rw[GV.pur,lB];refine .snap b o us (fun j g h1=>?_) (fun j g h1=>?_)<;>
  ·rw[aG,aC] at h1;obtain⟨a,ha,rfl⟩:=h1;first|exact hx j a ha|exact ih j a ha
 |dat us hx _ ht ih=>
  rw[GV.pur,lB];refine .dat us (fun j g h1=>?_) (fun j g h1=>?_) (by rw[aS];exact ht)<;>
  ·rw[aG,aC] at h1;obtain⟨a,ha,rfl⟩:=h1;first|exact hx j a ha|exact ih j a ha
 |mp h=>exact .mp h
 |rs h hc hp hx=>exact .rs h hc hp hx
 |rp h=>exact .rp h
 |yld h=>exact .yld h
 |glb g o=>exact .glb g o
 |any v=>exact .any v
def Cx.cut (D:Cx) (n:Nat):Cx:={hd:=D.hd,mine:=D.mine,f0:=D.f0,fx:=D.fx,bk:=fun r=>if r<n then D.bk r else none,own:=fun r=>if r<n then D.own r else none}
theorem VR.cut {D:Cx} {n:Nat} {g:GV} {v:Value} (h:VR D g v) (hb:GV.bel n g=true):VR (D.cut n) g v:=by
 induction h with
 |b x=>exact .b x
 |i k n=>exact .i k n
 |s x=>exact .s x
 |o h=>exact .o h
 |agg hl _ ih=>exact .agg hl (fun j g u h1 h2=>ih j g u h1 h2 (n5 (by simpa[GV.bel] using hb) g (b9 h1)))
 |tup hl _ ih=>exact .tup hl (fun j g u h1 h2=>ih j g u h1 h2 (n5 (by simpa[GV.bel] using hb) g (b9 h1)))
 |ifc _ ih=>exact .ifc (ih (by simpa[GV.bel] using hb))
 |fn h1 h2 _ _ ih1 ih2=>
  simp only[GV.bel,aF] at hb;exact .fn h1 h2 (fun j g u h1 h2=>ih1 j g u h1 h2 (n5 hb.1 g (b9 h1))) (fun j g u h1 h2=>ih2 j g u h1 h2 (n5 hb.2 g (b9 h1)))
 |sl esz b off us hn hc ha hw hx hv ht ih=>
  simp only[GV.bel,aF] at hb;refine .sl esz b off us hn hc ha hw hx (fun i x j g h1 h2=>ih i x j g h1 h2 (R9 (n5 hb.2 x (b9 h1)) g (b9 h2))) ?_;rename_i k xs a n' c;cases k with
  |none=>trivial
  |full=>exact ht
  |own r=>
   obtain⟨I,hI,h2⟩:=ht;have hr:r<n:=by simpa[LG] using hb.1
   exact⟨I,(aA hr).trans hI,h2⟩
 |ptr h=>exact .ptr ((aA (by simpa[GV.bel] using hb)).trans h)
 |snap b o us hx _ ih=>exact .snap b o us hx (fun j g h1=>ih j g h1 (n5 (by simpa[GV.bel] using hb) g (b9 h1)))
 |mp h=>exact .mp ((aA (by simpa[GV.bel] using hb)).trans h)
 |rs h hc hp hx=>exact .rs ((aA (by simpa[GV.bel] using hb)).trans h) hc hp hx
 |rp h=>exact .rp ((aA (by simpa[GV.bel] using hb)).trans h)
 |yld h=>exact .yld ((aA (by simpa[GV.bel] using hb)).trans h)
 |dat us hx _ ht ih=>
  simp only[GV.bel,aF] at hb;obtain⟨I,hI,h2⟩:=ht;exact .dat us hx (fun j g h1=>ih j g h1 (n5 hb.2 g (b9 h1))) ⟨I,(aA (by simpa using hb.1)).trans hI,h2⟩
 |glb g o=>exact .glb g o
 |any v=>exact .any v
theorem VR.bel {C:Cx} {n:Nat} (hbk:∀r b,C.bk r=some b->r<n) (hown:∀r I,C.own r=some I->r<n) {g:GV} {v:Value} (h:VR C g v):GV.bel n g=true:=by
 induction h with
 |agg hl _ ih=>
  rename_i cs vs _;rw[GV.bel];refine oZ (fun x hx=>?_);obtain⟨j,hj⟩:=List.mem_iff_getElem?.1 hx;have hlt:j<cs.length:=(List.getElem?_eq_some_iff.1 hj).1;exact ih j x _ hj (aK (by omega))
 |tup hl _ ih=>
  rename_i cs vs _;rw[GV.bel];refine oZ (fun x hx=>?_);obtain⟨j,hj⟩:=List.mem_iff_getElem?.1 hx;have hlt:j<cs.length:=(List.getElem?_eq_some_iff.1 hj).1;exact ih j x _ hj (aK (by omega))
 |ifc _ ih=>rw[GV.bel];exact ih
 |fn h1 h2 _ _ ih1 ih2=>
  rename_i a c va vc _ _;rw[GV.bel,aF];constructor
  ·refine oZ (fun x hx=>?_);obtain⟨j,hj⟩:=List.mem_iff_getElem?.1 hx;have hlt:j<a.length:=(List.getElem?_eq_some_iff.1 hj).1;exact ih1 j x _ hj (aK (by omega))
  ·refine oZ (fun x hx=>?_);obtain⟨j,hj⟩:=List.mem_iff_getElem?.1 hx;have hlt:j<c.length:=(List.getElem?_eq_some_iff.1 hj).1;exact ih2 j x _ hj (aK (by omega))
 |sl esz b off us hn hc ha hw hx hv ht ih=>
  rw[GV.bel,aF];refine⟨?_,oZ (fun x hx=>I3 (fun g hg=>?_))⟩
  ·rename_i k xs a n' c;cases k with
   |own r=>obtain⟨I,hI,_⟩:=ht;simpa[LG] using hown r I hI
   |_=>rfl
  ·obtain⟨i,hi⟩:=List.mem_iff_getElem?.1 hx;obtain⟨j,hj⟩:=List.mem_iff_getElem?.1 hg;exact ih i x j g hi hj
 |ptr h=>rw[GV.bel];simpa using hbk _ _ h
 |snap b o us hx _ ih=>
  rw[GV.bel];refine oZ (fun x hx=>?_);obtain⟨j,hj⟩:=List.mem_iff_getElem?.1 hx;exact ih j x hj
 |mp h=>rw[GV.bel];simpa using hbk _ _ h
 |rs h hc hp hx=>rw[GV.bel];simpa using hbk _ _ h
 |rp h=>rw[GV.bel];simpa using hbk _ _ h
 |yld h=>rw[GV.bel];simpa using hbk _ _ h
 |dat us hx _ ht ih=>
  obtain⟨I,hI,h2⟩:=ht;rw[GV.bel,aF];refine⟨by simpa using hown _ I hI,oZ (fun x hx=>?_)⟩;obtain⟨j,hj⟩:=List.mem_iff_getElem?.1 hx;exact ih j x hj
 |_=>rfl
theorem VRs.pur {C:Cx} {gs:List GV} {vs:List Value} (h:VRs C gs vs):VRs C (gs.map GV.pur) vs:=by
 refine⟨by simp[h.1],fun j g u h1 h2=>?_⟩;rw[aG,aC] at h1;obtain⟨a,ha,rfl⟩:=h1;exact(h.2 j a u ha h2).pur
theorem nU {D:Cx} {n r b:Nat} (h:d8 (D.cut n) r=some b):d8 D r=some b/\r<n:=by
 by_cases hr:r<n
 ·refine⟨?_,hr⟩;have h1:(D.cut n).bk r=D.bk r:=aA hr;have h2:(D.cut n).own r=D.own r:=aA hr;simpa[d8,h1,h2] using h
 ·have h1:(D.cut n).bk r=none:=aB hr;have h2:(D.cut n).own r=none:=aB hr;simp[d8,h1,h2] at h
theorem Rel.cut {C D:Cx} {σ σ':GS} {w0 w w':World} (h:Rel C σ w0 w) (hl:C.le D) (h':Rel D σ' w0 w') (hk:∀r,r<σ.objs.length->σ'.objs[r]?=σ.objs[r]?):
  C.le (D.cut σ.objs.length)/\Rel (D.cut σ.objs.length) σ w0 w':=by
 have hbk:∀r b,C.bk r=some b->r<σ.objs.length:=fun r b hb=>by
  rcases dF r σ.objs.length with h1|h1
  ·exact h1
  ·rw[(h.dom r h1).1] at hb;cases hb
 have hown:∀r I,C.own r=some I->r<σ.objs.length:=fun r I hb=>by
  rcases dF r σ.objs.length with h1|h1
  ·exact h1
  ·rw[(h.dom r h1).2] at hb;cases hb
 have cutVRs:∀{gs:List GV} {us vs:List Value},VRs C gs us->VRs D gs vs->VRs (D.cut σ.objs.length) gs vs:=fun hc hd=>by
  refine⟨hd.1,fun j g u h1 h2=>(hd.2 j g u h1 h2).cut ?_⟩;obtain⟨u0,_,hr⟩:=hc.get h1;exact hr.bel hbk hown
 refine⟨⟨hl.fx,fun r b hb=>(aA (hbk r b hb)).trans (hl.bk r b hb),fun r I hI=>?_,hl.hd,hl.fix⟩,h'.below,h'.fxc,fun r x hx=>?_,fun r hr=>⟨aB (by omega),aB (by omega)⟩,
  fun r b hb=>h'.new r b (nU hb).1,fun r r' b hb hb'=>h'.inj r r' b (nU hb).1 (nU hb').1,fun r b o v hb hx=>?_,fun r I b sz o v hI hb hx=>?_,h'.fxn,h'.gl,h'.gs⟩
 ·obtain⟨J,hJ,e⟩:=hl.own r I hI;exact⟨J,(aA (hown r I hI)).trans hJ,e⟩
 ·have hr:r<σ.objs.length:=(List.getElem?_eq_some_iff.1 hx).1;have h1:=h'.obj r x ((hk r hr).trans hx);have h0:=h.obj r x hx;have e1:(D.cut σ.objs.length).bk r=D.bk r:=aA hr;have e2:(D.cut σ.objs.length).own r=D.own r:=aA hr;cases x with
  |box T cs=>
   obtain⟨a1,b,vs,a2,a3,a4⟩:=h1;obtain⟨_,_,_,_,_,c4⟩:=h0;exact⟨e2.trans a1,b,vs,e1.trans a2,a3,cutVRs (vs:=vs.toList.take cs.length) (by exact c4.1) a4.1,a4.2⟩
  |own n esz ty=>
   obtain⟨a1,I,a2,a3,a4,a5⟩:=h1;exact⟨e1.trans a1,I,e2.trans a2,a3,a4,a5⟩
  |mp es=>
   obtain⟨a1,b,ents,clk,a2,a3,a4,a5⟩:=h1;obtain⟨_,_,_,_,_,_,c4,c5⟩:=h0;exact⟨e2.trans a1,b,ents,clk,e1.trans a2,a3,cutVRs c4 a4,cutVRs c5 a5⟩
  |mx es bs clk=>
   obtain⟨a1,b,ents,a2,a3,a4,a5,a6⟩:=h1;obtain⟨_,_,_,_,_,_,c4,c5⟩:=h0;exact⟨e2.trans a1,b,ents,e1.trans a2,a3,a4,cutVRs c4 a5,cutVRs c5 a6⟩
  |it m since seen last=>
   obtain⟨a1,b,mb,a2,a3,a4⟩:=h1;obtain⟨_,_,_,_,_,c4⟩:=h0;refine⟨e2.trans a1,b,mb,e1.trans a2,a3,fun q hq=>?_⟩;obtain⟨c,hc,hb⟩:=a4 q hq;obtain⟨_,_,hb'⟩:=c4 q hq;exact⟨c,hc,(aA (hbk _ _ hb')).trans hb⟩
  |loop st pe n φ ps asg body rd=>
   obtain⟨a1,b,L,a2,a3,a4,a5,a6,a7,a8,a9,a10,a11⟩:=h1;obtain⟨_,_,_,_,_,_,_,_,_,_,_,c10,c11⟩:=h0;exact⟨e2.trans a1,b,L,e1.trans a2,a3,a4,a5,a6,a7,a8,a9,fun t=>(a10 t).cut ((c10 t).bel hbk hown),(aA (hbk _ _ c11)).trans a11⟩
  |dfr=>
   obtain⟨a1,b,a2,a3⟩:=h1;exact⟨e2.trans a1,b,e1.trans a2,a3⟩
  |dead=>
   exact⟨h1.1.imp (e1.trans ·) (e2.trans ·),fun b hb=>h1.2 b (nU hb).1⟩
  |free=>exact⟨e1.trans h1.1,e2.trans h1.2⟩
  |held=>
   obtain⟨a1,a2,hh,a3,a4,a5,a6⟩:=h1;exact⟨a1.imp (e1.trans ·) (e2.trans ·),fun b hb=>a2 b (nU hb).1,hh,a3,e1.trans a4,e2.trans a5,fun b hb=>a6 b (nU hb).1⟩
 ·by_cases hr:r<σ.objs.length
  ·exact h'.sepB r b o v ((aA hr).symm.trans hb) hx
  ·have:(D.cut σ.objs.length).bk r=none:=aB hr;rw[this] at hb;cases hb
 ·by_cases hr:r<σ.objs.length
  ·exact h'.sepO r I b sz o v ((aA hr).symm.trans hI) hb hx
  ·have:(D.cut σ.objs.length).own r=none:=aB hr;rw[this] at hI;cases hI
structure Keep (σ σ':GS):Prop where
 lo:σ'.lo=σ.lo
 len:σ.objs.length<=σ'.objs.length
 old:σ.lo<=σ.objs.length->∀r,r<σ.lo->σ'.objs[r]?=σ.objs[r]?
 held:∀r:Nat,σ.objs[r]?=some .held->σ'.objs[r]?=some .held
theorem Keep.refl (σ:GS):Keep σ σ:=⟨rfl,rL _,fun _ _ _=>rfl,fun _ h=>h⟩
theorem Keep.trans {a b c:GS} (h:Keep a b) (k:Keep b c):Keep a c:=
 ⟨k.lo.trans h.lo,gX h.len k.len,fun hl r hr=>(k.old (by rw[h.lo];exact gX hl h.len) r (by rw[h.lo];exact hr)).trans (h.old hl r hr),fun r hr=>k.held r (h.held r hr)⟩
theorem Keep.gnew (σ:GS) (x:GObj):Keep σ (gnew σ x):=⟨rfl,by simp[Go.Proofs.YtmnjcddcihdlfaaGreatDoor.gnew],fun hl r hr=>by
 show(σ.objs++[x])[r]?=_;rw[aU (by omega)],fun r hr=>by
 show(σ.objs++[x])[r]?=_;rw[aU (List.getElem?_eq_some_iff.1 hr).1];exact hr⟩
theorem Keep.gset (σ:GS) {r:Nat} (x:GObj) {y:GObj} (h:σ.lo<=r) (hy:σ.objs[r]?=some y) (hne:y≠ .held):Keep σ (gset σ r x):=⟨rfl,by simp[Go.Proofs.YtmnjcddcihdlfaaGreatDoor.gset],fun hl k hk=>by
 show(σ.objs.set r x)[k]?=_;rw[cV (by omega)],fun k hk=>by
 show(σ.objs.set r x)[k]?=_;rw[cV (fun e=>by subst e;rw[hk] at hy;cases hy;exact hne rfl)];exact hk⟩
theorem QR {P:Program} {ρ:Operand->GV} {op:Op} {σ σ':GS} {g:GV} (h:jB P ρ op σ=some (g,σ')):Keep σ σ':=by
 have mp:∀{x:Option GV} {q:GV×GS},x.map (fun v=>(v,σ))=some q->q.2=σ:=fun hx=>by
  rw[aC] at hx;obtain⟨a,_,rfl⟩:=hx;rfl
 have mu:∀{x:Option GS} {q:GV×GS},x.map (fun s=>(GV.any,s))=some q->x=some q.2:=fun hx=>by
  rw[aC] at hx;obtain⟨a,rfl,rfl⟩:=hx;rfl
 have kmap:∀{t:TypeId} {m k v:GV},fP P t m k v σ=some σ'->Keep σ σ':=fun hg=>by
  unfold fP at hg;split at hg
  ·split at hg
   ·split at hg
    ·rename_i ho;split at hg
     ·rename_i hc;simp only[aF,aH] at hc;split at hg<;>first
       |(cases hg;done)
       |(cases hg;exact .gset σ _ hc.1 ho (by simp))
     ·cases hg
    ·rename_i kt et _ d es bs clk _ ho;split at hg
     ·rename_i hc;simp only[aF,aH] at hc;generalize(if mU _ _=true then i6 _ _ es 0 else jS P _ _ es 0)=F at hg;rcases F with _|_|⟨i,x⟩
      ·cases hg
      ·cases hg;exact .gset σ _ hc.1 ho (by simp)
      ·cases hg;exact .gset σ _ hc.1 ho (by simp)
     ·cases hg
    ·cases hg
   ·cases hg
  ·cases hg
 cases op<;>simp only[jB] at h
 case store t a v=>
  have hg:=mu h;have fin:∀{r off:Nat} {g:GV},gT P t r off g σ=some σ'->Keep σ σ':=fun hg=>by
   unfold gT at hg;split at hg
   ·rename_i ho;split at hg
    ·rename_i hc;simp only[aF,aH] at hc;rw[show σ'=_ from(aV hg).symm];exact .gset σ _ hc.1.1.1 ho (by simp)
    ·cases hg
   ·cases hg
  unfold lI at hg;split at hg
  ·exact fin hg
  ·split at hg
   ·exact fin hg
   ·cases hg
  ·cases hg
 case makeSlice t l c=>
  unfold x5 at h;repeat' split at h
  all_goals first
   |(cases h;done)
   |(cases h;exact .gnew σ _)
 case mapUpdate t m k v=>exact kmap (mu h)
 case range t x=>
  unfold C7 at h;repeat' split at h
  all_goals first
   |(cases h;done)
   |(cases h;exact .gnew σ _)
 case next it s=>
  cases s with
  |true=>cases h
  |false=>
   simp only at h;unfold C1 at h;split at h
   ·split at h
    ·rename_i ho;split at h
     ·split at h
      ·rename_i hc;simp only[aF,aH] at hc;split at h
       ·cases h;exact .refl σ
       ·cases h;exact .gset σ _ hc.1.1 ho (by simp)
       ·cases h
      ·cases h
     ·cases h
    ·cases h
   ·cases h
 case mapEntry t m k=>
  unfold m5 at h;split at h
  ·split at h
   ·split at h
    ·rename_i ho;split at h
     ·rename_i hc;split at h
      ·split at h
       ·cases h;exact .gset σ _ hc ho (by simp)
       ·cases h
      ·cases h;exact .gset σ _ hc ho (by simp)
      ·cases h
     ·cases h
    ·cases h
   ·cases h
  ·cases h
 case entryStore t m st v=>
  have hg:=mu h;unfold jT at hg;split at hg
  ·split at hg
   ·rename_i ho;split at hg
    ·rename_i hc;split at hg
     ·split at hg
      ·rw[show σ'=_ from(aV hg).symm];exact .gset σ _ hc ho (by simp)
      ·cases hg
     ·cases hg
    ·cases hg
   ·cases hg
  ·cases hg
 case insert t m k v=>exact kmap (mu h)
 case call c=>
  obtain⟨callee,args,ts⟩:=c;cases callee with
  |builtin b=>
   simp only at h;unfold i8 at h;split at h
   ·have:=mp h;rw[show σ'=σ from this];exact .refl σ
   ·unfold nI at h;repeat' split at h
    all_goals first
     |(cases h;done)
     |(cases h;exact .refl σ)
     |(cases h;exact .gnew σ _)
     |skip
    rename_i ho _ hc;cases h;simp only[aF,aH] at hc;exact .gset σ _ hc.1.1 ho (by simp)
   ·have:=mp h;rw[show σ'=σ from this];exact .refl σ
   ·unfold uS at h;repeat' split at h
    all_goals first
     |(cases h;done)
     |skip
    rename_i ho _ hc;cases h;simp only[aF,aH] at hc;exact .gset σ _ hc.1.1.1.1.2 ho (by simp)
   ·unfold vK at h;repeat' split at h
    all_goals first
     |(cases h;done)
     |skip
    rename_i ho hc;cases h;simp only[aF,aH] at hc;exact .gset σ _ hc.1.2 ho (by simp)
   ·rw[aC] at h;obtain⟨s,h,hq⟩:=h;cases hq;unfold rJ at h;repeat' split at h
    all_goals first
     |(cases h;done)
     |(rename_i ho hc _ _ _ _;cases h;exact .gset σ _ hc ho (by simp))
     |(rename_i ho hc _ _;cases h;exact .gset σ _ hc ho (by simp))
     |(rename_i ho hc _;cases h;exact .gset σ _ hc ho (by simp))
   ·have:=mp h;rw[show σ'=σ from this];exact .refl σ
   ·have:=mp h;rw[show σ'=σ from this];exact .refl σ
   ·cases h
  |_=>cases h
 case pick c a b=>
  split at h
  ·cases h;exact .refl σ
  ·cases h
 all_goals first
  |(cases h;done)
  |(cases h;exact .refl σ)
  |(have:=mp h;rw[show σ'=σ from this];exact .refl σ)
theorem K0 {P:Program} {ρ:Operand->GV} {op:Op} {σ σ':GS} {g:GV} (h:kO P ρ op σ=some (g,σ')):Keep σ σ':=by
 unfold kO at h;split at h
 ·cases h;exact .gnew σ _
 ·exact QR h
end
section
open Go.RowKit
variable [Globals]
inductive GRes where
 |val (g:GV)
 |panic (g:GV)
inductive GX where
 |normal
 |exit (id:Nat)
 |ret
 |panic (g:GV)
abbrev Fr:=Nat->GV
def uL (φ:Fr) (d:Nat) (g:GV):Fr:=fun t=>if t=d then g else φ t
def f5 (φ:Fr) (d:Option Tmp) (g:GV):Fr:=
 match d with
 |some d=>uL φ d g
 |none=>φ
inductive Tgt where
 |fn (k:FuncId)
 |yld (r:Nat)
abbrev dQ:=Tgt->List GV->GS->Option (GRes×GS)
def iL (P:Program) (k:FuncId):Bool:=
 match P.funcs[k]? with
 |some fn=>fn.body.isSome&&!(fn.name== "runtime.NumGoroutine")
 |none=>false
def x9 (P:Program) (k:FuncId) (args:List GV):Option GV:=
 match P.funcs[k]? with
 |some fn=>
  if fn.body.isNone&&fn.origin== "" then
   if fn.name== "internal/abi.NoEscape" then
    match args with
    |[x]=>some x
    |_=>none
   else if fn.name== "internal/bytealg.IndexByteString" then
    match args with
    |[.s l,.i .u8 c]=>some (.i .i64 (Lib.indexByte l c.toNat.toUInt8))
    |_=>none
   else none
  else none
 |none=>none
def x4 (P:Program) (t:TypeId) (name:String):Option FuncId:=
 match P.info? t with
 |some i=>match i.methods.find? (·.name==name) with
  |some m=>match m.func with
   |some (f,p)=>if m.path.isEmpty&&(p==(eU P t==some 4))&&(eU P t).isSome then some f else none
   |none=>none
  |none=>none
 |none=>none
def r7 (ops:Array Oper) (φ:Fr) (j:Nat):Option (Option Bool):=
 match(ops[j]?).bind (·.dst) with
 |some d=>match φ d with
  |.b t=>some (some t)
  |.tup []=>some none
  |_=>none
 |none=>some none
def bF (ops:Array Oper) (o:Oper) (φ:Fr):Option Bool:=
 match o.guard with
 |none=>some true
 |some (j,want)=>(r7 ops φ j).map (· ==some want)
def cE (P:Program) (call:dQ) (o:Oper) (ρ:Operand->GV) (σ:GS):Option (GRes×GS):=
 match o.op with
 |.panic x=>match ρ x with
  |.ifc t g=>some (.panic (.ifc t g),σ)
  |_=>none
 |.call {callee:=.value f,args,..}=>match ρ f with
  |.fn (.func k) first cap=>if iL P k then call (.fn k) (first++args.toList.map ρ++cap) σ else(x9 P k (first++args.toList.map ρ++cap)).map fun g=>(.val g,σ)
  |.yld r=>call (.yld r) (args.toList.map ρ) σ
  |_=>none
 |.call {callee:=.invoke r name,args,..}=>match ρ r with
  |.ifc t g=>match x4 P t name with
   |some k=>if iL P k then call (.fn k) (g::args.toList.map ρ) σ else none
   |none=>none
  |_=>none
 |op=>(kO P ρ op σ).map fun x=>(.val x.1,x.2)
def rK (ρ:Operand->GV):Op->Option GDef
 |.defer {callee:=.value f,args,..}=>match ρ f with
  |.fn (.func k) first cap=>some (.fn k (first++args.toList.map ρ) cap)
  |_=>none
 |_=>none
def uK (P:Program) (call:dQ) (dz:Bool) (n:Nat) (ops:Array Oper):List Oper->Fr->GS->Option (GX×Fr×GS)
 |[],φ,σ=>some (.normal,φ,σ)
 |o::rest,φ,σ=>
  if(o.dst.all fun d=>decide (d<n)) then
   match bF ops o φ with
   |some false=>uK P call dz n ops rest (f5 φ o.dst (.tup [])) σ
   |some true=>
    match(if dz then rK (bO φ) o.op else none) with
    |some d=>uK P call dz n ops rest (f5 φ o.dst (.tup [])) {σ with ds:=d::σ.ds}
    |none=>
     match cE P call o (bO φ) σ with
     |some (.val g,σ')=>uK P call dz n ops rest (f5 φ o.dst g) σ'
     |some (.panic g,σ')=>some (.panic g,φ,σ')
     |none=>none
   |none=>none
  else none
def ERel (D:Cx) (r:GRes) (e:Ending):Prop:=
 match r with
 |.val g=>∃v,e=.returned v/\VR D g v
 |.panic g=>∃v,e=.panicked [{v,recovered:=false}]/\VR D g v
def FW (ro:Option Nat):Fence:={Fence.wide with round:=ro}
theorem CX {ro:Option Nat} {n:Nat} {P:Program} {f:FuncId} {args:Array Value} {w:World} {R:Ending->World->Prop} (h:Calls P f args w R):CallsIn (FW ro) n P f args w R:=
 callsIn_wide.2 h
def P4 (P:Program) (C:Cx) (t:Tgt) (vs:Array Value) (w:World) (R:Ending->World->Prop):Prop:=
 match t with
 |.fn k=>Calls P k vs w R
 |.yld r=>∀b,C.bk r=some b->∃fn tmps assign body,(Instr.yield b vs).run P w=.ok (.round b fn tmps assign body) w/\RoundIn Fence.wide 0 P b fn tmps assign body w R
def bK (P:Program) (w0:World) (call:dQ):Prop:=
 ∀t args σ r σ',call t args σ=some (r,σ')->Keep σ σ'/\σ'.ds=σ.ds/\∀C w (vs:Array Value),Rel C σ w0 w->VRs C args vs.toList->
  P4 P C t vs w fun e w'=>∃D,C.le D/\Rel D σ' w0 w'/\ERel D r e
def GDefR (C:Cx):GDef->Deferred->Prop
 |.fn k args cap,d=>∃va vc:Array Value,d={target:=.fn (.func k) vc,args:=va}/\VRs C args va.toList/\VRs C cap vc.toList
 |.coll r,d=>∃b,C.bk r=some b/\d={target:=.collected b,args:= #[]}
def DRel (C:Cx):List GDef->List Deferred->Prop
 |[],[]=>True
 |g::gs,d::ds=>GDefR C g d/\DRel C gs ds
 |_,_=>False
theorem GDefR.mono {C D:Cx} (hl:C.le D):∀{g:GDef} {d:Deferred},GDefR C g d->GDefR D g d
 |.fn _ _ _,_,⟨va,vc,e,h1,h2⟩=>⟨va,vc,e,h1.mono hl,h2.mono hl⟩
 |.coll _,_,⟨b,h1,e⟩=>⟨b,hl.bk _ _ h1,e⟩
theorem DRel.mono {C D:Cx} (hl:C.le D):∀{gs:List GDef} {ds:List Deferred},DRel C gs ds->DRel D gs ds
 |[],[],_=>trivial
 |_::_,_::_,⟨h1,h2⟩=>⟨h1.mono hl,DRel.mono hl h2⟩
section
variable {P : Program} {call : dQ} {C : Cx} {σ : GS} {w0 w : World}
theorem oA (hcall:bK P w0 call) {o:Oper} {ρ:Operand->GV} {σ':GS} {r:GRes} (h:cE P call o ρ σ=some (r,σ')):Keep σ σ':=by
 unfold cE at h;split at h
 ·split at h
  ·cases h;exact .refl σ
  ·cases h
 ·split at h
  ·split at h
   ·exact(hcall _ _ _ _ _ h).1
   ·rw[aC] at h;obtain⟨g,_,e⟩:=h;cases e;exact .refl σ
  ·exact(hcall _ _ _ _ _ h).1
  ·cases h
 ·split at h
  ·split at h
   ·split at h
    ·exact(hcall _ _ _ _ _ h).1
    ·cases h
   ·cases h
  ·cases h
 ·rw[aC] at h;obtain⟨⟨g,s⟩,hg,e⟩:=h;cases e;exact K0 hg
theorem WR {ρ:Operand->GV} {op:Op} {σ':GS} {g:GV} (h:jB P ρ op σ=some (g,σ')):σ'.ds=σ.ds:=by
 have mp:∀{x:Option GV} {q:GV×GS},x.map (fun v=>(v,σ))=some q->q.2.ds=σ.ds:=fun hx=>by
  rw[aC] at hx;obtain⟨a,_,rfl⟩:=hx;rfl
 have mu:∀{x:Option GS} {q:GV×GS},x.map (fun s=>(GV.any,s))=some q->x=some q.2:=fun hx=>by
  rw[aC] at hx;obtain⟨a,rfl,rfl⟩:=hx;rfl
 cases op<;>simp only[jB] at h
 case store t a v=>
  have hg:=mu h;unfold lI gT at hg;repeat' split at hg
  all_goals first
   |(cases hg;done)
   |(rw[show σ'=_ from(aV hg).symm];rfl)
 case mapUpdate t m k v=>
  have hg:=mu h;unfold fP at hg;repeat' split at hg
  all_goals first
   |(cases hg;done)
   |(rw[show σ'=_ from(aV hg).symm];rfl)
 case insert t m k v=>
  have hg:=mu h;unfold fP at hg;repeat' split at hg
  all_goals first
   |(cases hg;done)
   |(rw[show σ'=_ from(aV hg).symm];rfl)
 case call c=>
  obtain⟨callee,args,ts⟩:=c;cases callee with
  |builtin b=>
   simp only at h;unfold i8 at h;split at h
   ·exact mp h
   ·unfold nI at h;repeat' split at h
    all_goals first
     |(cases h;done)
     |(cases h;rfl)
   ·exact mp h
   ·unfold uS at h;repeat' split at h
    all_goals first
     |(cases h;done)
     |(cases h;rfl)
   ·unfold vK at h;repeat' split at h
    all_goals first
     |(cases h;done)
     |(cases h;rfl)
   ·rw[aC] at h;obtain⟨s,h,hq⟩:=h;cases hq;unfold rJ at h;repeat' split at h
    all_goals first
     |(cases h;done)
     |(cases h;rfl)
   ·exact mp h
   ·exact mp h
   ·cases h
  |_=>cases h
 case range t x=>
  unfold C7 at h;repeat' split at h
  all_goals first
   |(cases h;done)
   |(cases h;rfl)
 case next it s=>
  cases s with
  |true=>cases h
  |false=>
   simp only at h;unfold C1 at h;repeat' split at h
   all_goals first
    |(cases h;done)
    |(cases h;rfl)
 case mapEntry t m k=>
  unfold m5 at h;repeat' split at h
  all_goals first
   |(cases h;done)
   |(cases h;rfl)
 case entryStore t m st v=>
  have hg:=mu h;unfold jT at hg;repeat' split at hg
  all_goals first
   |(cases hg;done)
   |(rw[show σ'=_ from(aV hg).symm];rfl)
 case makeSlice t l c=>
  unfold x5 at h;repeat' split at h
  all_goals first
   |(cases h;done)
   |(cases h;rfl)
 case pick c a b=>
  split at h
  ·cases h;rfl
  ·cases h
 all_goals first
  |(cases h;done)
  |(cases h;rfl)
  |exact mp h
theorem U5 {ρ:Operand->GV} {op:Op} {σ':GS} {g:GV} (h:kO P ρ op σ=some (g,σ')):σ'.ds=σ.ds:=by
 unfold kO at h;split at h
 ·cases h;rfl
 ·exact WR h
theorem lL (hcall:bK P w0 call) {o:Oper} {ρ:Operand->GV} {σ':GS} {r:GRes} (h:cE P call o ρ σ=some (r,σ')):σ'.ds=σ.ds:=by
 unfold cE at h;split at h
 ·split at h
  ·cases h;rfl
  ·cases h
 ·split at h
  ·split at h
   ·exact(hcall _ _ _ _ _ h).2.1
   ·rw[aC] at h;obtain⟨g,_,e⟩:=h;cases e;rfl
  ·exact(hcall _ _ _ _ _ h).2.1
  ·cases h
 ·split at h
  ·split at h
   ·split at h
    ·exact(hcall _ _ _ _ _ h).2.1
    ·cases h
   ·cases h
  ·cases h
 ·rw[aC] at h;obtain⟨⟨g,s⟩,hg,e⟩:=h;cases e;exact U5 hg
theorem EI {fn:Func} {n:String} (h:fn.name=n) (ho:fn.origin= "") (e1:Extern.allNextRows.lookup n=none):Extern.findNext fn=none:=by
 have e2:Extern.allNextRows.lookup "" =none:=by kernel_rfl
 unfold Extern.findNext;simp[h,ho,e1,e2]
theorem KR {fn:Func} {n:String} {e:Array Value->Sem Value} (h:fn.name=n) (e1:Extern.allGenericRows.lookup n=none) (e2:Extern.allTypedRows.lookup n=none) (e3:Extern.allRows.lookup n=some e):Extern.find fn=some e:=by
 unfold Extern.find;simp[h,e1,e2,e3]
theorem DR {fn:Func} (h:fn.name= "internal/abi.NoEscape"):Extern.find fn=some Extern.AbiNoEscape.same:=KR h (by kernel_rfl) (by kernel_rfl) (by kernel_rfl)
theorem DD {fn:Func} (h:fn.name= "internal/abi.NoEscape") (ho:fn.origin= ""):Extern.findNext fn=none:=EI h ho (by kernel_rfl)
theorem CO {fn:Func} (h:fn.name= "internal/bytealg.IndexByteString"):Extern.find fn=some Extern.BytealgIndexByte.indexByte:=KR h (by kernel_rfl) (by kernel_rfl) (by kernel_rfl)
theorem B7 {fn:Func} (h:fn.name= "internal/bytealg.IndexByteString") (ho:fn.origin= ""):Extern.findNext fn=none:=EI h ho (by kernel_rfl)
theorem KA {k:FuncId} {args:List GV} {g:GV} {vs:Array Value} (hv:VRs C args vs.toList) (h:x9 P k args=some g):∃v,(callFunc k vs).run P w=.ok (.value v) w/\VR C g v:=by
 unfold x9 at h;split at h
 ·rename_i fn hfn;split at h
  ·rename_i hc;simp only[aF,bU] at hc;split at h
   ·rename_i hn;have hn':fn.name= "internal/abi.NoEscape" :=by simpa using hn
    split at h
    ·cases h;obtain⟨v,vs',e,h1,h2⟩:=hv.cons_inv;have:vs'=[]:=aI h2.1;subst this;have hvs:vs= #[v]:=by rw[<-Array.toList_inj];exact e
     subst hvs;exact⟨v,by rw[run_callFunc_extern hfn (by rw[hn'];decide) hc.1 (DD hn' hc.2) (DR hn')];rfl,h1⟩
    ·cases h
   ·split at h
    ·rename_i hn;have hn':fn.name= "internal/bytealg.IndexByteString" :=by simpa using hn
     split at h
     ·cases h;obtain⟨v,vs',e,h1,h2⟩:=hv.cons_inv;obtain⟨u,us',e',h3,h4⟩:=h2.cons_inv;have:us'=[]:=aI h4.1;subst this;subst e';have hvs:vs= #[v,u]:=by rw[<-Array.toList_inj];exact e
      subst hvs;cases h1;cases h3;refine⟨_,?_,.i _ _⟩;rw[run_callFunc_extern hfn (by rw[hn'];decide) hc.1 (B7 hn' hc.2) (CO hn'),Lib.run_indexByteString];rfl
     ·cases h
    ·cases h
  ·cases h
 ·cases h
theorem nK {k:FuncId} (h:iL P k=true) (args:Array Value):(callFunc k args).run P w=.ok (.enter k args) w:=by
 unfold iL at h;split at h
 ·rename_i fn hf;simp only[aF,fT] at h;have hn:¬fn.name= "runtime.NumGoroutine" :=by simpa using h.2
  have hb:fn.body≠none:=fun e=>by rw[e] at h;simp at h
  unfold callFunc;simp[hf,hn,hb]
 ·cases h
theorem M4 {t:TypeId} {name:String} {k:FuncId} (v:Value) (h:x4 P t name=some k):(method (P.types.size+Made.depth) t v name).run P w=.ok (k,v) w:=by
 unfold x4 at h;split at h
 ·rename_i i hi;split at h
  ·rename_i m hm;split at h
   ·rename_i f p hf;split at h
    ·rename_i hc;simp only[aF,bU] at hc;obtain⟨⟨hp,hk⟩,hs⟩:=hc;cases h;obtain⟨q,hq⟩:=Option.isSome_iff_exists.1 hs;obtain⟨d,hd⟩:=wP hq;have hpath:m.path.toList=[]:=by simpa using hp
     have hdepth:P.types.size+Made.depth=(P.types.size+99)+1:=rfl;have hrecv:∀wr:Option String,(receiverAt t (.val v) p wr).run P w=.ok v w:=by
      intro wr;unfold receiverAt;simp only[Sem.run_bind,run_underlying hd,Result.andThen_ok];subst hk;unfold eU;rw[hd];cases d<;>simp[Place.get]
     rw[hdepth];unfold method;simp[typeInfo,hi,hm,hpath,follow,hf,hrecv]
    ·cases h
   ·cases h
  ·cases h
 ·cases h
theorem fL (hcall:bK P w0 call) {ro:Option Nat} {o:Oper} {ρ:Operand->GV} {a:Act} {r:GRes} {σ':GS} {K:Act->World->Prop} {Q:Exit->Act->World->Prop}
  (h:Rel C σ w0 w) (hρ:∀x,VR C (ρ x) (a.eval x)) (hg:cE P call o ρ σ=some (r,σ'))
  (hv:∀g D v w',r=.val g->C.le D->Rel D σ' w0 w'->VR D g v->K (a.put o.dst v) w')
  (hp:∀g D v w',r=.panic g->C.le D->Rel D σ' w0 w'->VR D g v->Q (.panic [{v,recovered:=false}]) a w'):o.wpIn (FW ro) 0 P a w K Q:=by
 have hnd:∀c,o.op≠ .defer c:=fun c e=>by
  unfold cE at hg;rw[e] at hg;simp[kO,dN,jB] at hg
 have hsem:o.semAt (FW ro).round a.eval=execOp a.eval o:=Oper.semAt_eq _ _ _ hnd;have hab:∀f,o.about P w a.eval=some f->(FW ro).fn f:=fun f _=>trivial;have viaCall:∀{k:FuncId} {args:List GV} {vs:Array Value},VRs C args vs.toList->call (.fn k) args σ=some (r,σ')->(execOp a.eval o).run P w=.ok (.enter k vs) w->o.wpIn (FW ro) 0 P a w K Q:=by
  intro k args vs hvs hc hrun;refine⟨hab,?_⟩;rw[hsem,hrun,Oper.uponIn_enter];refine⟨fun h=>(by cases h),CX ?_⟩;refine Calls.mono ((hcall _ _ _ _ _ hc).2.2 C w vs h hvs) ?_;rintro e w' ⟨D,hl,hr,he⟩;cases r with
  |val g=>
   obtain⟨v,rfl,hv'⟩:=he;exact hv g D v w' rfl hl hr hv'
  |panic g=>
   obtain⟨v,rfl,hv'⟩:=he;exact hp g D v w' rfl hl hr hv'
 unfold cE at hg;split at hg
 ·rename_i x hop;split at hg
  ·rename_i t g hx;cases hg;have hv0:=hρ x;rw[hx] at hv0;generalize hu:a.eval x=u at hv0;cases hv0 with
   |ifc hin=>
    refine⟨hab,?_⟩;have hrun:(execOp a.eval o).run P w=.halt (.panic (a.eval x)) w:=by
     unfold execOp;simp[hop,hu,Instr.panic]
    rw[hsem,hrun,Oper.uponIn_panic,hu];exact hp _ C _ w rfl (.refl C) h (.ifc hin)
  ·cases hg
 ·rename_i f args ts hop;split at hg
  ·rename_i k first cap hf
   split at hg
   ·rename_i hk;have hv0:=hρ f;rw[hf] at hv0;generalize hu:a.eval f=u at hv0;cases hv0 with
    |fn h1 h2 h3 h4=>
     rename_i va vc;have e1:VRs C first va.toList:=⟨by simpa using h1,fun j g u a b=>h3 j g u a (by simpa using b)⟩
     have e2:VRs C cap vc.toList:=⟨by simpa using h2,fun j g u a b=>h4 j g u a (by simpa using b)⟩;refine viaCall (vs:=va++args.map a.eval++vc) ?_ hg ?_
     ·simp only[Array.toList_append,Array.toList_map];exact(e1.append (VRs.mapOp hρ args.toList)).append e2
     ·unfold execOp;rw[hop];simp[resolve,hu,Deferred.ofValue,invoke,nK hk]
   ·rename_i hk;rw[aC] at hg;obtain⟨g',hg',e⟩:=hg;cases e;have hv0:=hρ f;rw[hf] at hv0;generalize hu:a.eval f=u at hv0;cases hv0 with
    |fn h1 h2 h3 h4=>
     rename_i va vc;have e1:VRs C first va.toList:=⟨by simpa using h1,fun j g u a b=>h3 j g u a (by simpa using b)⟩
     have e2:VRs C cap vc.toList:=⟨by simpa using h2,fun j g u a b=>h4 j g u a (by simpa using b)⟩;have e3:VRs C (first++args.toList.map ρ++cap) (va++args.map a.eval++vc).toList:=by
      simp only[Array.toList_append,Array.toList_map];exact(e1.append (VRs.mapOp hρ args.toList)).append e2
     obtain⟨v,hcv,hvv⟩:=KA (w:=w) e3 hg';have hrun:(execOp a.eval o).run P w=.ok (.value v) w:=by
      unfold execOp;rw[hop];rw[Array.append_assoc] at hcv;simp[resolve,hu,Deferred.ofValue,invoke,hcv]
     refine⟨hab,?_⟩;rw[hsem,hrun];exact hv _ C v w rfl (.refl C) h hvv
  ·rename_i q hf;have hv0:=hρ f;rw[hf] at hv0;generalize hu:a.eval f=u at hv0;cases hv0 with
   |yld hb=>
    rename_i b;have e1:VRs C (args.toList.map ρ) (args.map a.eval).toList:=by
     rw[Array.toList_map];exact VRs.mapOp hρ args.toList
    obtain⟨fn,tmps,asg,body,hy,hround⟩:=(hcall _ _ _ _ _ hg).2.2 C w _ h e1 b hb;have hrun:(execOp a.eval o).run P w=.ok (.round b fn tmps asg body) w:=by
     unfold execOp;rw[hop];simp[resolve,hu,Deferred.ofValue,invoke,hy]
    refine⟨hab,?_⟩;rw[hsem,hrun,Oper.uponIn_round];refine⟨fun h=>(by cases h),RoundIn.mono (F:=FW ro) hround ?_⟩;rintro e w' ⟨D,hl,hr,he⟩;cases r with
    |val g=>
     obtain⟨v,rfl,hv'⟩:=he;exact hv g D v w' rfl hl hr hv'
    |panic g=>
     obtain⟨v,rfl,hv'⟩:=he;exact hp g D v w' rfl hl hr hv'
  ·cases hg
 ·rename_i rv name args ts hop;split at hg
  ·rename_i t g hrv;split at hg
   ·rename_i k hm;split at hg
    ·rename_i hk;have hv0:=hρ rv;rw[hrv] at hv0;generalize hu:a.eval rv=u at hv0;cases hv0 with
     |ifc hin=>
      rename_i u0;refine viaCall (vs:= #[u0]++args.map a.eval) ?_ hg ?_
      ·simp only[Array.toList_append,Array.toList_map];exact fS hin (VRs.mapOp hρ args.toList)
      ·have hm':=M4 (w:=w) u0 hm;have e:(#[Value.iface t u0]++Array.map a.eval args).extract 1 (#[Value.iface t u0]++Array.map a.eval args).size=Array.map a.eval args:=by
        apply Array.ext';simp[fN]
       have e0:(#[Value.iface t u0]++Array.map a.eval args)[0]?=some (Value.iface t u0):=by
        rw[Array.getElem?_append_left (Nat.zero_lt_one)];rfl
       have hinv:(invoke (.fn (.method name) #[]) (#[Value.iface t u0]++Array.map a.eval args)).run P w=.ok (.enter k (#[u0]++Array.map a.eval args)) w:=by
        unfold invoke;simp only[e0,e,callMethod,Sem.run_bind,run_program,Result.andThen_ok,hm',nK hk]
       unfold execOp;rw[hop];simp only[resolve,hu];exact hinv
    ·cases hg
   ·cases hg
  ·cases hg
 ·rename_i hn1 hn2 hn3;rw[aC] at hg;obtain⟨⟨g,s⟩,hg',e⟩:=hg;cases e;obtain⟨D,nx,w',hl,hr,hnx,hrun⟩:=ET h hρ (fun v=>rfl) hg';refine⟨hab,?_⟩;rw[hsem,hrun];rcases hnx with⟨v,rfl,hv'⟩|⟨rfl,rfl⟩
  ·exact hv g D v w' rfl hl hr hv'
  ·exact hv _ D _ w' rfl hl hr (.any _)
theorem FRel.put {D:Cx} {φ:Fr} {a:Act} (h:FRel D φ a) {d:Option Tmp} {g:GV} {v:Value} (hv:VR D g v) {n:Nat} (hs:a.tmps.size=n) (hd:(d.all fun d=>decide (d<n))=true):
  FRel D (f5 φ d g) (a.put d v)/\(a.put d v).tmps.size=n/\(a.put d v).defers=a.defers:=by
 cases d with
 |none=>exact⟨h,hs,rfl⟩
 |some d=>
  have hlt:d<a.tmps.size:=by rw[hs];simpa using hd
  refine⟨fun t=>?_,by simp[Act.put,hs],rfl⟩;show VR D (if t=d then g else φ t) ((a.tmps.setIfInBounds d v).getD t undef);by_cases ht:t=d
  ·subst ht;rw[aA rfl];simpa[aP,hlt] using hv
  ·rw[aB ht];have:=h t;simpa[aP,Array.getElem?_setIfInBounds_ne (Ne.symm ht)] using this
theorem GN {φ:Fr} {a:Act} (h:FRel C φ a) {ops:Array Oper} {j:Nat} {y:Option Bool} (hg:r7 ops φ j=some y):yielded ops a.tmps j=y:=by
 unfold r7 at hg;unfold yielded;split at hg
 ·rename_i d hd;rw[hd,bC];have hv:=h d;split at hg
  ·rename_i t ht;cases hg;rw[ht] at hv;generalize hu:a.tmps.getD d undef=u at hv;cases hv;rw[aP] at hu;cases hx:a.tmps[d]? with
   |none=>rw[hx] at hu;simp[undef] at hu
   |some x=>rw[hx] at hu;simp at hu;subst hu;rfl
  ·rename_i ht;cases hg;rw[ht] at hv;generalize hu:a.tmps.getD d undef=u at hv;cases hv with
   |tup hl _=>
    rw[aP] at hu;cases hx:a.tmps[d]? with
    |none=>rfl
    |some x=>rw[hx] at hu;simp at hu;subst hu;rfl
  ·cases hg
 ·rename_i hd;cases hg;rw[hd];rfl
theorem dB {φ:Fr} {a:Act} (h:FRel C φ a) {ops:Array Oper} {o:Oper} {b:Bool} (hg:bF ops o φ=some b):Region.wanted o (yielded ops a.tmps)=b:=by
 unfold bF at hg;unfold Region.wanted;split at hg
 ·rename_i hgd;cases hg;rw[hgd]
 ·rename_i j want hgd;rw[aC] at hg;obtain⟨y,hy,rfl⟩:=hg;rw[hgd];simp only[GN h hy]
theorem qQ (D:Cx):VR D (.tup []) undef:=.tup rfl (fun j g u h=>by simp at h)
def QOk (w0:World) (C:Cx) (Q:Exit->Act->World->Prop) (n:Nat) (x:GX) (φ':Fr) (σ':GS):Prop:=
 ∀D a' w',C.le D->FRel D φ' a'->a'.tmps.size=n->DRel D σ'.ds a'.defers->Rel D σ' w0 w'->
  match x with
  |.normal=>Q .normal a' w'
  |.exit id=>Q (.exit id) a' w'
  |.ret=>Q .ret a' w'
  |.panic g=>∀v,VR D g v->Q (.panic [{v,recovered:=false}]) a' w'
theorem QOk.mono {D:Cx} {Q:Exit->Act->World->Prop} {n:Nat} {x:GX} {φ':Fr} {σ':GS} (hl:C.le D) (h:QOk w0 C Q n x φ' σ'):QOk w0 D Q n x φ' σ':=
 fun E a' w' hE=>h E a' w' (hl.trans hE)
theorem rB (hcall:bK P w0 call) {ro:Option Nat} {dz:Bool} (hdz:dz=true->ro=none) {n:Nat} {ops:Array Oper} {Q:Exit->Act->World->Prop}:∀(l:List Oper) (C:Cx) (φ φ':Fr) (σ σ':GS) (x:GX) (a:Act) (w:World),
  uK P call dz n ops l φ σ=some (x,φ',σ')->Rel C σ w0 w->FRel C φ a->a.tmps.size=n->DRel C σ.ds a.defers->QOk w0 C Q n x φ' σ'->wpListIn (FW ro) 0 P ops Q l a w
 |[],C,φ,φ',σ,σ',x,a,w,hg,hr,hf,hn,hd0,hq=>by
  cases hg;exact hq C a w (.refl C) hf hn hd0 hr
 |o::l,C,φ,φ',σ,σ',x,a,w,hg,hr,hf,hn,hd0,hq=>by
  simp only[uK] at hg;split at hg
  ·rename_i hd;unfold wpListIn;split at hg
   ·rename_i hw;rw[dB hf hw];simp only[aY,cO];obtain⟨h1,h2,h3⟩:=hf.put (qQ C) hn hd;exact⟨fun f _=>trivial,rB hcall hdz l C _ φ' σ σ' x _ w hg hr h1 h2 (by rw[h3];exact hd0) hq⟩
   ·rename_i hw;rw[dB hf hw];simp only[dL];split at hg
    ·rename_i d hdef;have hdzt:dz=true:=by
      cases dz with
      |true=>rfl
      |false=>simp at hdef
     have hro:=hdz hdzt;subst hro;rw[hdzt,aA rfl] at hdef;unfold rK at hdef;split at hdef
     ·rename_i f args ts hop;split at hdef
      ·rename_i k first cap hf0
       cases hdef;have hv0:=cQ hf f;rw[hf0] at hv0;generalize hu:a.eval f=u at hv0;cases hv0 with
       |fn h1 h2 h3 h4=>
        rename_i va vc;have e1:VRs C first va.toList:=⟨by simpa using h1,fun j g u a b=>h3 j g u a (by simpa using b)⟩
        have e2:VRs C cap vc.toList:=⟨by simpa using h2,fun j g u a b=>h4 j g u a (by simpa using b)⟩;have hrun:(execOp a.eval o).run P w=.ok (.defer {target:=.fn (.func k) vc,args:=va++args.map a.eval}) w:=by
         unfold execOp;rw[hop];simp[resolve,hu,Deferred.ofValue]
        refine⟨fun f _=>trivial,?_⟩;show Oper.uponIn _ _ _ _ _ _ _ ((execOp a.eval o).run P w);rw[hrun,Oper.uponIn_defer];have hf1:FRel C φ {a with defers:={target:=.fn (.func k) vc,args:=va++args.map a.eval}::a.defers}:=hf;obtain⟨p1,p2,p3⟩:=hf1.put (qQ C) (n:=n) hn hd;refine rB hcall hdz l C _ φ' _ σ' x _ w hg (hr.ds _) p1 p2 ?_ hq;rw[p3];refine⟨⟨_,_,rfl,?_,e2⟩,hd0⟩;simp only[Array.toList_append,Array.toList_map];exact e1.append (VRs.mapOp (cQ hf) args.toList)
      ·cases hdef
     ·cases hdef
    ·split at hg
     ·rename_i g σ1 hop;refine fL hcall hr (cQ hf) hop (fun g' D v w' e hl hr' hv=>?_) (fun g' D v w' e=>by cases e);cases e;obtain⟨h1,h2,h3⟩:=(hf.mono hl).put hv hn hd;exact rB hcall hdz l D _ φ' σ1 σ' x _ w' hg hr' h1 h2 (by rw[h3,lL hcall hop];exact hd0.mono hl) (hq.mono hl)
     ·rename_i g σ1 hop;cases hg;refine fL hcall hr (cQ hf) hop (fun g' D v w' e=>by cases e) (fun g' D v w' e hl hr' hv=>?_);cases e;exact hq D a w' hl (hf.mono hl) hn (by rw[lL hcall hop];exact hd0.mono hl) hr' v hv
     ·cases hg
   ·cases hg
  ·cases hg
theorem Keep.dsl {σ σ':GS} {l:List GDef} (h:Keep {σ with ds:=l} σ'):Keep σ σ':=⟨h.lo,h.len,h.old,h.held⟩
theorem Keep.dsr {σ σ':GS} {l:List GDef} (h:Keep σ σ'):Keep σ {σ' with ds:=l}:=⟨h.lo,h.len,h.old,h.held⟩
theorem nQ (hcall:bK P w0 call) {dz:Bool} {n:Nat} {ops:Array Oper}:∀(l:List Oper) (φ φ':Fr) (σ σ':GS) (x:GX),uK P call dz n ops l φ σ=some (x,φ',σ')->Keep σ σ'
 |[],φ,φ',σ,σ',x,hg=>by cases hg;exact .refl σ
 |o::l,φ,φ',σ,σ',x,hg=>by
  simp only[uK] at hg;split at hg
  ·split at hg
   ·exact nQ hcall l _ φ' σ σ' x hg
   ·split at hg
    ·exact(nQ hcall l _ φ' _ σ' x hg).dsl
    ·split at hg
     ·rename_i g σ1 hop;exact(oA hcall hop).trans (nQ hcall l _ φ' σ1 σ' x hg)
     ·rename_i g σ1 hop;cases hg;exact oA hcall hop
     ·cases hg
   ·cases hg
  ·cases hg
end
end
