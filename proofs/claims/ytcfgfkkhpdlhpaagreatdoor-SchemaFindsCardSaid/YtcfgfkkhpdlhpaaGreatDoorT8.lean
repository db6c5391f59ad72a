/-
  A part of the proof of SchemaFinds.
-/
import Derived.Test.YtcfgfkkhpdlhpaaGreatDoorT7
set_option linter.all false
namespace Go.Proofs.YtcfgfkkhpdlhpaaGreatDoor
open Go.RowKit
variable [Globals]
def ON (n:Nat):Tok->Bool
 |.own r=>r<n
 |_=>true
mutual
def GV.bel (n:Nat):GV->Bool
 |.agg cs=>GV.belL n cs
 |.tup cs=>GV.belL n cs
 |.ifc _ g=>GV.bel n g
 |.fn _ a c=>GV.belL n a&&GV.belL n c
 |.sl k xs=>ON n k&&GV.belL n xs
 |.ptr r _=>r<n
 |.snap cs _=>GV.belL n cs
 |.mp r=>r<n
 |.rs r _ _ _ _=>r<n
 |.yld r=>r<n
 |.dat r cs=>r<n&&GV.belL n cs
 |.glb _ _=>true
 |.b _=>true
 |.i _ _=>true
 |.s _=>true
 |.o _=>true
 |.any=>true
def GV.belL (n:Nat):List GV->Bool
 |[]=>true
 |x::xs=>GV.bel n x&&GV.belL n xs
end
mutual
def GV.pur:GV->GV
 |.agg cs=>.agg (GV.purL cs)
 |.tup cs=>.tup (GV.purL cs)
 |.ifc t g=>.ifc t (GV.pur g)
 |.fn f a c=>.fn f (GV.purL a) (GV.purL c)
 |.sl _ xs=>.sl .none (GV.purL xs)
 |.ptr r off=>.ptr r off
 |.snap cs off=>.snap (GV.purL cs) off
 |.mp r=>.mp r
 |.rs r off esz n c=>.rs r off esz n c
 |.yld r=>.yld r
 |.dat r cs=>.dat r (GV.purL cs)
 |.glb g off=>.glb g off
 |.b t=>.b t
 |.i k n=>.i k n
 |.s l=>.s l
 |.o v=>.o v
 |.any=>.any
def GV.purL:List GV->List GV
 |[]=>[]
 |x::xs=>GV.pur x::GV.purL xs
end
theorem nG:∀xs:List GV,GV.purL xs=xs.map GV.pur
 |[]=>rfl
 |x::xs=>by rw[GV.purL,nG xs];rfl
theorem H1 (n:Nat):∀xs:List GV,GV.belL n xs=xs.all (GV.bel n)
 |[]=>rfl
 |x::xs=>by rw[GV.belL,H1 n xs];rfl
theorem oU {n:Nat} {xs:List GV} (h:GV.belL n xs=true):∀x∈xs,GV.bel n x=true:=by
 rw[H1] at h;simpa using h
theorem sA {n:Nat} {xs:List GV} (h:∀x∈xs,GV.bel n x=true):GV.belL n xs=true:=by
 rw[H1];simpa using h
theorem I9 (x:GV):x.pur.cells=x.cells.map GV.pur:=by
 cases x<;>simp[GV.pur,GV.cells,nG]
theorem UV {n:Nat} {x:GV} (h:GV.bel n x=true):∀g∈x.cells,GV.bel n g=true:=by
 intro g hg;cases x with
 |agg cs=>
  rw[GV.bel] at h;exact oU h g hg
 |_=>simp[GV.cells] at hg;subst hg;exact h
theorem LN {n:Nat} {x:GV} (h:∀g∈x.cells,GV.bel n g=true):GV.bel n x=true:=by
 cases x with
 |agg cs=>rw[GV.bel];exact sA h
 |_=>exact h _ (by simp[GV.cells])
theorem VR.pur {C:Cx} {g:GV} {v:Value} (h:VR C g v):VR C g.pur v:=by
 induction h with
 |b x=>exact .b x
 |i k n=>exact .i k n
 |s x=>exact .s x
 |o h=>exact .o h
 |agg hl _ ih=>
  rw[GV.pur,nG];refine .agg (by simpa using hl) (fun j g u h1 h2=>?_);rw[aM,aI] at h1;obtain⟨a,ha,rfl⟩:=h1;exact ih j a u ha h2
 |tup hl _ ih=>
  rw[GV.pur,nG];refine .tup (by simpa using hl) (fun j g u h1 h2=>?_);rw[aM,aI] at h1;obtain⟨a,ha,rfl⟩:=h1;exact ih j a u ha h2
 |ifc _ ih=>exact .ifc ih
 |fn h1 h2 _ _ ih1 ih2=>
  rw[GV.pur,nG,nG];refine .fn (by simpa using h1) (by simpa using h2) (fun j g u h1 h2=>?_) (fun j g u h1 h2=>?_)<;>
  ·rw[aM,aI] at h1;obtain⟨a,ha,rfl⟩:=h1;first|exact ih1 j a u ha h2|exact ih2 j a u ha h2
 |sl esz b off us hn hc ha hw hx hv ht ih=>
  rw[GV.pur,nG];have get:∀{xs:List GV} {i:Nat} {x:GV} {j:Nat} {g:GV},(xs.map GV.pur)[i]?=some x->x.cells[j]?=some g->∃y z,xs[i]?=some y/\y.cells[j]?=some z/\g=z.pur:=fun h1 h2=>by
   rw[aM,aI] at h1;obtain⟨y,hy,rfl⟩:=h1;rw[I9,aM,aI] at h2;obtain⟨z,hz,rfl⟩:=h2;exact⟨y,z,hy,hz,rfl⟩
  refine .sl esz b off us (by simpa using hn) hc ha (fun x hx=>?_) (fun i x j g h1 h2=>?_) (fun i x j g h1 h2=>?_) trivial
  ·obtain⟨y,hy,rfl⟩:=List.mem_map.1 hx;rw[I9,bQ];exact hw y hy
  ·obtain⟨y,z,hy,hz,rfl⟩:=get h1 h2;exact hx i y j z hy hz
  ·obtain⟨y,z,hy,hz,rfl⟩:=get h1 h2;exact ih i y j z hy hz
 |ptr h=>exact .ptr h
 |snap b o us hx _ ih=>
  rw[GV.pur,nG];refine .snap b o us (fun j g h1=>?_) (fun j g h1=>?_)<;>
  ·rw[aM,aI] at h1;obtain⟨a,ha,rfl⟩:=h1;first|exact hx j a ha|exact ih j a ha
 |dat us hx _ ht ih=>
  rw[GV.pur,nG];refine .dat us (fun j g h1=>?_) (fun j g h1=>?_) (by rw[bQ];exact ht)<;>
  ·rw[aM,aI] at h1;obtain⟨a,ha,rfl⟩:=h1;first|exact hx j a ha|exact ih j a ha
 |mp h=>exact .mp h
 |rs h hc hp hx=>exact .rs h hc hp hx
 |rp h=>exact .rp h
 |yld h=>exact .yld h
 |glb g o=>exact .glb g o
 |any v=>exact .any v
def Cx.cut (D:Cx) (n:Nat):Cx:={hd:=D.hd,mine:=D.mine,f0:=D.f0,fx:=D.fx,bk:=fun r=>if r<n then D.bk r else none,own:=fun r=>if r<n then D.own r else none}
theorem VR.cut {D:Cx} {n:Nat} {g:GV} {v:Value} (h:VR D g v) (hb:GV.bel n g=true):VR (D.cut n) g v:=by
 induction h with
 |b x=>exact .b x
 |i k n=>exact .i k n
 |s x=>exact .s x
 |o h=>exact .o h
 |agg hl _ ih=>exact .agg hl (fun j g u h1 h2=>ih j g u h1 h2 (oU (by simpa[GV.bel] using hb) g (aK h1)))
 |tup hl _ ih=>exact .tup hl (fun j g u h1 h2=>ih j g u h1 h2 (oU (by simpa[GV.bel] using hb) g (aK h1)))
 |ifc _ ih=>exact .ifc (ih (by simpa[GV.bel] using hb))
 |fn h1 h2 _ _ ih1 ih2=>
  simp only[GV.bel,aH] at hb;exact .fn h1 h2 (fun j g u h1 h2=>ih1 j g u h1 h2 (oU hb.1 g (aK h1))) (fun j g u h1 h2=>ih2 j g u h1 h2 (oU hb.2 g (aK h1)))
 |sl esz b off us hn hc ha hw hx hv ht ih=>
  simp only[GV.bel,aH] at hb;refine .sl esz b off us hn hc ha hw hx (fun i x j g h1 h2=>ih i x j g h1 h2 (UV (oU hb.2 x (aK h1)) g (aK h2))) ?_;rename_i k xs a n' c;cases k with
  |none=>trivial
  |full=>exact ht
  |own r=>
   obtain⟨I,hI,h2⟩:=ht;have hr:r<n:=by simpa[ON] using hb.1
   exact⟨I,(aG hr).trans hI,h2⟩
 |ptr h=>exact .ptr ((aG (by simpa[GV.bel] using hb)).trans h)
 |snap b o us hx _ ih=>exact .snap b o us hx (fun j g h1=>ih j g h1 (oU (by simpa[GV.bel] using hb) g (aK h1)))
 |mp h=>exact .mp ((aG (by simpa[GV.bel] using hb)).trans h)
 |rs h hc hp hx=>exact .rs ((aG (by simpa[GV.bel] using hb)).trans h) hc hp hx
 |rp h=>exact .rp ((aG (by simpa[GV.bel] using hb)).trans h)
 |yld h=>exact .yld ((aG (by simpa[GV.bel] using hb)).trans h)
 |dat us hx _ ht ih=>
  simp only[GV.bel,aH] at hb;obtain⟨I,hI,h2⟩:=ht;exact .dat us hx (fun j g h1=>ih j g h1 (oU hb.2 g (aK h1))) ⟨I,(aG (by simpa using hb.1)).trans hI,h2⟩
 |glb g o=>exact .glb g o
 |any v=>exact .any v
theorem VR.bel {C:Cx} {n:Nat} (hbk:∀r b,C.bk r=some b->r<n) (hown:∀r I,C.own r=some I->r<n) {g:GV} {v:Value} (h:VR C g v):GV.bel n g=true:=by
 induction h with
 |agg hl _ ih=>
  rename_i cs vs _;rw[GV.bel];refine sA (fun x hx=>?_);obtain⟨j,hj⟩:=List.mem_iff_getElem?.1 hx;have hlt:j<cs.length:=(List.getElem?_eq_some_iff.1 hj).1;exact ih j x _ hj (aR (by omega))
 |tup hl _ ih=>
  rename_i cs vs _;rw[GV.bel];refine sA (fun x hx=>?_);obtain⟨j,hj⟩:=List.mem_iff_getElem?.1 hx;have hlt:j<cs.length:=(List.getElem?_eq_some_iff.1 hj).1;exact ih j x _ hj (aR (by omega))
 |ifc _ ih=>rw[GV.bel];exact ih
 |fn h1 h2 _ _ ih1 ih2=>
  rename_i a c va vc _ _;rw[GV.bel,aH];constructor
  ·refine sA (fun x hx=>?_);obtain⟨j,hj⟩:=List.mem_iff_getElem?.1 hx;have hlt:j<a.length:=(List.getElem?_eq_some_iff.1 hj).1;exact ih1 j x _ hj (aR (by omega))
  ·refine sA (fun x hx=>?_);obtain⟨j,hj⟩:=List.mem_iff_getElem?.1 hx;have hlt:j<c.length:=(List.getElem?_eq_some_iff.1 hj).1;exact ih2 j x _ hj (aR (by omega))
 |sl esz b off us hn hc ha hw hx hv ht ih=>
  rw[GV.bel,aH];refine⟨?_,sA (fun x hx=>LN (fun g hg=>?_))⟩
  ·rename_i k xs a n' c;cases k with
   |own r=>obtain⟨I,hI,_⟩:=ht;simpa[ON] using hown r I hI
   |_=>rfl
  ·obtain⟨i,hi⟩:=List.mem_iff_getElem?.1 hx;obtain⟨j,hj⟩:=List.mem_iff_getElem?.1 hg;exact ih i x j g hi hj
 |ptr h=>rw[GV.bel];simpa using hbk _ _ h
 |snap b o us hx _ ih=>
  rw[GV.bel];refine sA (fun x hx=>?_);obtain⟨j,hj⟩:=List.mem_iff_getElem?.1 hx;exact ih j x hj
 |mp h=>rw[GV.bel];simpa using hbk _ _ h
 |rs h hc hp hx=>rw[GV.bel];simpa using hbk _ _ h
 |rp h=>rw[GV.bel];simpa using hbk _ _ h
 |yld h=>rw[GV.bel];simpa using hbk _ _ h
 |dat us hx _ ht ih=>
  obtain⟨I,hI,h2⟩:=ht;rw[GV.bel,aH];refine⟨by simpa using hown _ I hI,sA (fun x hx=>?_)⟩;obtain⟨j,hj⟩:=List.mem_iff_getElem?.1 hx;exact ih j x hj
 |_=>rfl
theorem VRs.pur {C:Cx} {gs:List GV} {vs:List Value} (h:VRs C gs vs):VRs C (gs.map GV.pur) vs:=by
 refine⟨by simp[h.1],fun j g u h1 h2=>?_⟩;rw[aM,aI] at h1;obtain⟨a,ha,rfl⟩:=h1;exact(h.2 j a u ha h2).pur
theorem qQ {D:Cx} {n r b:Nat} (h:dV (D.cut n) r=some b):dV D r=some b/\r<n:=by
 by_cases hr:r<n
 ·refine⟨?_,hr⟩;have h1:(D.cut n).bk r=D.bk r:=aG hr;have h2:(D.cut n).own r=D.own r:=aG hr;simpa[dV,h1,h2] using h
 ·have h1:(D.cut n).bk r=none:=aE hr;have h2:(D.cut n).own r=none:=aE hr;simp[dV,h1,h2] at h
theorem Rel.cut {C D:Cx} {σ σ':GS} {w0 w w':World} (h:Rel C σ w0 w) (hl:C.le D) (h':Rel D σ' w0 w') (hk:∀r,r<σ.objs.length->σ'.objs[r]?=σ.objs[r]?):
  C.le (D.cut σ.objs.length)/\Rel (D.cut σ.objs.length) σ w0 w':=by
 have hbk:∀r b,C.bk r=some b->r<σ.objs.length:=fun r b hb=>by
  rcases dX r σ.objs.length with h1|h1
  ·exact h1
  ·rw[(h.dom r h1).1] at hb;cases hb
 have hown:∀r I,C.own r=some I->r<σ.objs.length:=fun r I hb=>by
  rcases dX r σ.objs.length with h1|h1
  ·exact h1
  ·rw[(h.dom r h1).2] at hb;cases hb
 have cutVRs:∀{gs:List GV} {us vs:List Value},VRs C gs us->VRs D gs vs->VRs (D.cut σ.objs.length) gs vs:=fun hc hd=>by
  refine⟨hd.1,fun j g u h1 h2=>(hd.2 j g u h1 h2).cut ?_⟩;obtain⟨u0,_,hr⟩:=hc.get h1;exact hr.bel hbk hown
 refine⟨⟨hl.fx,fun r b hb=>(aG (hbk r b hb)).trans (hl.bk r b hb),fun r I hI=>?_,hl.hd,hl.fix⟩,h'.below,h'.fxc,fun r x hx=>?_,fun r hr=>⟨aE (by omega),aE (by omega)⟩,
  fun r b hb=>h'.new r b (qQ hb).1,fun r r' b hb hb'=>h'.inj r r' b (qQ hb).1 (qQ hb').1,fun r b o v hb hx=>?_,fun r I b sz o v hI hb hx=>?_,h'.fxn,h'.gl,h'.gs⟩
 ·obtain⟨J,hJ,e⟩:=hl.own r I hI;exact⟨J,(aG (hown r I hI)).trans hJ,e⟩
 ·have hr:r<σ.objs.length:=(List.getElem?_eq_some_iff.1 hx).1;have h1:=h'.obj r x ((hk r hr).trans hx);have h0:=h.obj r x hx;have e1:(D.cut σ.objs.length).bk r=D.bk r:=aG hr;have e2:(D.cut σ.objs.length).own r=D.own r:=aG hr;cases x with
  |box T cs=>
   obtain⟨a1,b,vs,a2,a3,a4⟩:=h1;obtain⟨_,_,_,_,_,c4⟩:=h0;exact⟨e2.trans a1,b,vs,e1.trans a2,a3,cutVRs (vs:=vs.toList.take cs.length) (by exact c4.1) a4.1,a4.2⟩
  |own n esz ty=>
   obtain⟨a1,I,a2,a3,a4,a5⟩:=h1;exact⟨e1.trans a1,I,e2.trans a2,a3,a4,a5⟩
  |mp es=>
   obtain⟨a1,b,ents,clk,a2,a3,a4,a5⟩:=h1;obtain⟨_,_,_,_,_,_,c4,c5⟩:=h0;exact⟨e2.trans a1,b,ents,clk,e1.trans a2,a3,cutVRs c4 a4,cutVRs c5 a5⟩
  |loop st pe n φ ps asg body rd=>
   obtain⟨a1,b,L,a2,a3,a4,a5,a6,a7,a8,a9,a10,a11⟩:=h1;obtain⟨_,_,_,_,_,_,_,_,_,_,_,c10,c11⟩:=h0;exact⟨e2.trans a1,b,L,e1.trans a2,a3,a4,a5,a6,a7,a8,a9,fun t=>(a10 t).cut ((c10 t).bel hbk hown),(aG (hbk _ _ c11)).trans a11⟩
  |dfr=>
   obtain⟨a1,b,a2,a3⟩:=h1;exact⟨e2.trans a1,b,e1.trans a2,a3⟩
  |dead=>
   exact⟨h1.1.imp (e1.trans ·) (e2.trans ·),fun b hb=>h1.2 b (qQ hb).1⟩
  |free=>exact⟨e1.trans h1.1,e2.trans h1.2⟩
  |held=>
   obtain⟨a1,a2,hh,a3,a4,a5,a6⟩:=h1;exact⟨a1.imp (e1.trans ·) (e2.trans ·),fun b hb=>a2 b (qQ hb).1,hh,a3,e1.trans a4,e2.trans a5,fun b hb=>a6 b (qQ hb).1⟩
 ·by_cases hr:r<σ.objs.length
  ·exact h'.sepB r b o v ((aG hr).symm.trans hb) hx
  ·have:(D.cut σ.objs.length).bk r=none:=aE hr;rw[this] at hb;cases hb
 ·by_cases hr:r<σ.objs.length
  ·exact h'.sepO r I b sz o v ((aG hr).symm.trans hI) hb hx
  ·have:(D.cut σ.objs.length).own r=none:=aE hr;rw[this] at hI;cases hI
structure Keep (σ σ':GS):Prop where
 lo:σ'.lo=σ.lo
 len:σ.objs.length<=σ'.objs.length
 old:σ.lo<=σ.objs.length->∀r,r<σ.lo->σ'.objs[r]?=σ.objs[r]?
 held:∀r:Nat,σ.objs[r]?=some .held->σ'.objs[r]?=some .held
theorem Keep.refl (σ:GS):Keep σ σ:=⟨rfl,rL _,fun _ _ _=>rfl,fun _ h=>h⟩
theorem Keep.trans {a b c:GS} (h:Keep a b) (k:Keep b c):Keep a c:=
 ⟨k.lo.trans h.lo,e8 h.len k.len,fun hl r hr=>(k.old (by rw[h.lo];exact e8 hl h.len) r (by rw[h.lo];exact hr)).trans (h.old hl r hr),fun r hr=>k.held r (h.held r hr)⟩
theorem Keep.gnew (σ:GS) (x:GObj):Keep σ (gnew σ x):=⟨rfl,by simp[Go.Proofs.YtcfgfkkhpdlhpaaGreatDoor.gnew],fun hl r hr=>by
 show(σ.objs++[x])[r]?=_;rw[aT (by omega)],fun r hr=>by
 show(σ.objs++[x])[r]?=_;rw[aT (List.getElem?_eq_some_iff.1 hr).1];exact hr⟩
theorem Keep.gset (σ:GS) {r:Nat} (x:GObj) {y:GObj} (h:σ.lo<=r) (hy:σ.objs[r]?=some y) (hne:y≠ .held):Keep σ (gset σ r x):=⟨rfl,by simp[Go.Proofs.YtcfgfkkhpdlhpaaGreatDoor.gset],fun hl k hk=>by
 show(σ.objs.set r x)[k]?=_;rw[dF (by omega)],fun k hk=>by
 show(σ.objs.set r x)[k]?=_;rw[dF (fun e=>by subst e;rw[hk] at hy;cases hy;exact hne rfl)];exact hk⟩
theorem U6 {P:Program} {ρ:Operand->GV} {op:Op} {σ σ':GS} {g:GV} (h:pU P ρ op σ=some (g,σ')):Keep σ σ':=by
 have mp:∀{x:Option GV} {q:GV×GS},x.map (fun v=>(v,σ))=some q->q.2=σ:=fun hx=>by
  rw[aI] at hx;obtain⟨a,_,rfl⟩:=hx;rfl
 have mu:∀{x:Option GS} {q:GV×GS},x.map (fun s=>(GV.any,s))=some q->x=some q.2:=fun hx=>by
  rw[aI] at hx;obtain⟨a,rfl,rfl⟩:=hx;rfl
 have kmap:∀{t:TypeId} {m k v:GV},kE P t m k v σ=some σ'->Keep σ σ':=fun hg=>by
  unfold kE at hg;split at hg
  ·split at hg
   ·split at hg
    ·rename_i ho;split at hg
     ·rename_i hc;simp only[aH,aL] at hc;split at hg<;>first
       |(cases hg;done)
       |(cases hg;exact .gset σ _ hc.1 ho (by simp))
     ·cases hg
    ·cases hg
   ·cases hg
  ·cases hg
 cases op<;>simp only[pU] at h
 case store t a v=>
  have hg:=mu h;have fin:∀{r off:Nat} {g:GV},jX P t r off g σ=some σ'->Keep σ σ':=fun hg=>by
   unfold jX at hg;split at hg
   ·rename_i ho;split at hg
    ·rename_i hc;simp only[aH,aL] at hc;rw[show σ'=_ from(aY hg).symm];exact .gset σ _ hc.1.1.1 ho (by simp)
    ·cases hg
   ·cases hg
  unfold oZ at hg;split at hg
  ·exact fin hg
  ·split at hg
   ·exact fin hg
   ·cases hg
  ·cases hg
 case makeSlice t l c=>
  unfold G4 at h;repeat' split at h
  all_goals first
   |(cases h;done)
   |(cases h;exact .gnew σ _)
 case mapUpdate t m k v=>exact kmap (mu h)
 case insert t m k v=>exact kmap (mu h)
 case call c=>
  obtain⟨callee,args,ts⟩:=c;cases callee with
  |builtin b=>
   simp only at h;unfold mK at h;split at h
   ·have:=mp h;rw[show σ'=σ from this];exact .refl σ
   ·unfold vE at h;repeat' split at h
    all_goals first
     |(cases h;done)
     |(cases h;exact .refl σ)
     |(cases h;exact .gnew σ _)
     |skip
    rename_i ho _ hc;cases h;simp only[aH,aL] at hc;exact .gset σ _ hc.1.1 ho (by simp)
   ·have:=mp h;rw[show σ'=σ from this];exact .refl σ
   ·unfold CW at h;repeat' split at h
    all_goals first
     |(cases h;done)
     |skip
    rename_i ho _ hc;cases h;simp only[aH,aL] at hc;exact .gset σ _ hc.1.1.1.1.2 ho (by simp)
   ·have:=mp h;rw[show σ'=σ from this];exact .refl σ
   ·have:=mp h;rw[show σ'=σ from this];exact .refl σ
   ·cases h
  |_=>cases h
 case pick c a b=>
  split at h
  ·cases h;exact .refl σ
  ·cases h
 all_goals first
  |(cases h;done)
  |(cases h;exact .refl σ)
  |(have:=mp h;rw[show σ'=σ from this];exact .refl σ)
theorem ND {P:Program} {ρ:Operand->GV} {op:Op} {σ σ':GS} {g:GV} (h:rR P ρ op σ=some (g,σ')):Keep σ σ':=by
 unfold rR at h;split at h
 ·cases h;exact .gnew σ _
 ·exact U6 h
