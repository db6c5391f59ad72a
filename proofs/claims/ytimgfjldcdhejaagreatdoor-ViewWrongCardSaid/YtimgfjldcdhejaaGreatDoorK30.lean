/- Part of ViewWrong. -/
import Derived.LaidMore
import Derived.LaidLaws
import Derived.OpenShut
import Derived.ProofKit
import Derived.Stop.Joined
import Derived.Test.YtimgfjldcdhejaaGreatDoorRows
import Derived.Test.YtimgfjldcdhejaaGreatDoorK29
import Derived.HandedShaped
import Derived.Shelf.Vars
import Derived.Test.YtimgfjldcdhejaaGreatDoorTie
import Derived.Test.YtimgfjldcdhejaaGreatDoorCards
import Derived.Carry
import Derived.Lay
import Derived.Lib.Index
import Derived.Lib.IndexMore
set_option linter.all false
set_option maxRecDepth 100000
namespace Go.Proofs.YtimgfjldcdhejaaGreatDoor
section
open Go Go.ChangeShapes Go.WideShapes Go.RowKit
section
variable {P : Program} {W : World} {sp : Nat → Bool}
theorem OP {H:Type} {enc:TypeId×Value->H} {held:Bool} {base kM n:Nat} {t e:TypeId} {k:IntKind} {cs:List Value} {p:List MemPlace} (l:List Int)
  (ht:P.underlying t=some (.array n e)) (he:P.underlying e=some (.int k)) (hc:P.cellsOf e=1) (hn:l.length=n) (hct:P.cellsOf t=n)
  (h:DataW.trod enc P W base sp held kM t cs=some (.agg (l.map fun x=>.lit (.int k x)),p)):cs=l.map (Value.int k):=by
 obtain⟨xs,m,rfl,hx,hl,hxs,hel⟩:=DataW.trod_array ht h;simp only[Prod.mk.injEq,DataW.agg.injEq] at hx;refine eK fun i=>?_;by_cases hi:i<n
 ·have h1:=hel i hi;rw[hc,Nat.mul_one] at h1;have hxi:xs[i]?=some xs[i]:=gL (by omega);rw[hxi] at h1;obtain⟨z,hz,he',_⟩:=DataW.trod_int he h1;have h2:(xs.map (·.1))[i]?=some (.lit (.int k z)):=by rw[aK,hxi,he'];rfl
  rw[<-hx.1,aK] at h2;obtain⟨y,hy,hyz⟩:=Option.map_eq_some_iff.1 h2;cases hyz;rw[aK,hy];have h3:=aR (·[0]?) hz;simpa[dY,gI] using h3
 ·rw[bG (by rw[hl,hct];omega),bG (by simp;omega)]
end
def C0 (W:World):Cx:={fx:=fun b o v=>W.cell? ⟨b,o,none⟩=some v,bk:=fun _=>none,own:=fun _=>none,hd:=fun _=>none,mine:=fun _=>False,f0:=fun b o v=>W.cell? ⟨b,o,none⟩=some v}
def a6w [Globals] (W:World):Prop:=(∀g cs,Globals.tab g=some cs->∃c t fr,W.heap[g]?=some (.cells c t fr)/\c.size=cs.length)/\∀g cs (j:Nat) x,Globals.tab g=some cs->cs[j]?=some x->∃u,W.cell? ⟨g,j,none⟩=some u/\∀D:Cx,(∀b o v,W.cell? ⟨b,o,none⟩=some v->D.fx b o v)->VR D x u
theorem Z2 [Globals] {W:World} (h:a6w W):Rel (C0 W) ⟨[],0,[]⟩ W W:=
 ⟨.refl _ _,fun _ _ _ h=>h,fun r x hx=>by simp at hx,fun _ _=>⟨rfl,rfl⟩,fun r b hb=>by simp[eI,C0] at hb,fun r r' b hb _=>by simp[eI,C0] at hb,
  fun r b o v hb _=>(by cases hb),fun r I b sz o v hI _ _=>(by cases hI),fun b o v h=>.inl h,h.2,fun g cs hg=>⟨fun h=>h,h.1 g cs hg⟩⟩
theorem RT {P:Program} {W:World} {g:Nat} {n:String} {cs:Array Value} (hg:P.globalNamed n=some g) (hv:W.var? P n=some cs):∃t fr,W.heap[g]?=some (.cells cs t fr):=by
 unfold World.var? at hv;rw[hg] at hv;simp only[cH] at hv;split at hv
 ·rename_i c t fr ho;cases hv;exact⟨_,_,ho⟩
 ·cases hv
theorem II [Globals] {W:World} {g:Nat} {l:List Value} (hv:∀j,W.cell? ⟨g,j,none⟩=l[j]?) {cs:List GV} (hl:cs.length=l.length)
  (h:∀(j:Nat) x u,cs[j]?=some x->l[j]?=some u->∀D:Cx,(∀b o v,W.cell? ⟨b,o,none⟩=some v->D.fx b o v)->VR D x u):
  ∀(j:Nat) x,cs[j]?=some x->∃u,W.cell? ⟨g,j,none⟩=some u/\∀D:Cx,(∀b o v,W.cell? ⟨b,o,none⟩=some v->D.fx b o v)->VR D x u:=fun j x hx=>by
 have hj:j<l.length:=by rw[<-hl];exact(List.getElem?_eq_some_iff.1 hx).1
 exact⟨l[j],by rw[hv,gL hj],h j x _ hx (gL hj)⟩
theorem UP {W W':World} {m:Nat->Prop} {may:MemPlace->Prop} (hm:∀k,¬m k) (h:Base m W W'):W.keptBut W' may:=by
 refine⟨h.os,h.output,fun i hi=>?_⟩;rw[h.block i hi (hm i)];cases ho:W.heap[i]? with
 |none=>rfl
 |some o=>cases o<;>first|rfl|exact⟨rfl,rfl,rfl,fun _ _=>rfl⟩|exact .inr ⟨rfl,rfl⟩
theorem own:ownKnob Tryz.prog.godebug=none:=by kernel_rfl
theorem a7F: "*" ++ "errors.errorString" = "*errors.errorString" :=by decide
theorem a5x (u:TypeId) (h:Tryz.prog.typeName? 3 u=some "*errors.errorString"):u=382:=
 typeName_ptr_named (nm:= "errors.errorString") (by rw[a7F];kernel_rfl) (by kernel_rfl) (by decide) u (by rw[a7F];exact h)
theorem a3X:Tryz.prog.underlying 223=some (.interface #[("Error",227)]):=by kernel_rfl
theorem a3U:Tryz.prog.underlying 382=some (.pointer 384):=by kernel_rfl
theorem a3W:Tryz.prog.underlying 384=some (.struct #[{name:= "s",type:=9,offset:=0,embedded:=false,tag:= "",pkgPath:= "errors",byteOffset:=0}]):=by kernel_rfl
theorem H7:Tryz.prog.underlying 9=some .string:=by kernel_rfl
theorem Q6:Tryz.prog.underlying 4=some .bool:=by kernel_rfl
theorem Q7 [MaxL] {W:World} {g:Nat} {n:String} {t f:Nat} {cs:Array Value} {s:List UInt8} {p:List MemPlace} (hg:Tryz.prog.globalNamed n=some g) (hv:W.var? Tryz.prog n=some cs)
  (ht:t=223)
  (h:DataW.trod (fun _=>()) Tryz.prog W 0 (fun _=>true) false f t cs.toList=some (.iface "*errors.errorString" (.ptr (.agg [.lit (.string s)])),p))
  (hok:∀u v,cs.toList=[.iface u v]->Value.okWide Tryz.prog W .any 0 u v):
  cs.size=1/\∀(j:Nat) x,([.ifc 382 (.snap [.s s] 0)]:List GV)[j]?=some x->∃u,W.cell? ⟨g,j,none⟩=some u/\∀D:Cx,(∀b o v,W.cell? ⟨b,o,none⟩=some v->D.fx b o v)->VR D x u:=by
 subst ht;obtain⟨a,b,e,hc,hb,_,_⟩:=errorString_of_trod a3X a5x a3U a3W rfl rfl H7 (by kernel_rfl) (by kernel_rfl) h hok;refine⟨by have:=aR List.length e;simpa using this,?_⟩;refine II (l:=cs.toList) (fun j=>by rw[World.var?_cell hg hv j];simp) (by rw[e];rfl) fun j x u hx hu D hD=>?_;rw[e] at hu;have hj:j=0:=by
  have:=(List.getElem?_eq_some_iff.1 hx).1;simpa using this
 subst hj;cases hx;cases hu;obtain⟨ab,ao,asp⟩:=a;have hsp:asp=none:=by
  unfold World.cell? at hc;split at hc
  ·simp only at hc;split at hc
   ·cases hc
   ·rename_i h0;simpa using h0
  ·cases hc
 subst hsp;refine .ifc ?_;have:=VR.snap (C:=D) (cs:=[.s s]) (off:=0) ab ao (fun _=>.string b) (fun j g hj=>?_) (fun j g hj=>?_)
 ·simpa using this
 ·have hj0:j=0:=by
   have:=(List.getElem?_eq_some_iff.1 hj).1;simpa using this
  subst hj0;exact hD _ _ _ (by simpa using hc)
 ·have hj0:j=0:=by
   have:=(List.getElem?_eq_some_iff.1 hj).1;simpa using this
  subst hj0;cases hj;have:b=⟨s.toArray⟩:=by rw[<-hb]
  rw[this];exact .s s
theorem EF [MaxL] {W:World} {g n e:Nat} {k:IntKind} {nm:String} {t f:Nat} {cs:Array Value} {p:List MemPlace} (l:List Int) (hg:Tryz.prog.globalNamed nm=some g) (hv:W.var? Tryz.prog nm=some cs)
  (ht:Tryz.prog.underlying t=some (.array n e)) (he:Tryz.prog.underlying e=some (.int k)) (hc:Tryz.prog.cellsOf e=1) (hn:l.length=n) (hct:Tryz.prog.cellsOf t=n)
  (h:DataW.trod (fun _=>()) Tryz.prog W 0 (fun _=>true) false f t cs.toList=some (.agg (l.map fun x=>.lit (.int k x)),p)):
  cs.size=l.length/\∀(j:Nat) x,(l.map (GV.i k))[j]?=some x->∃u,W.cell? ⟨g,j,none⟩=some u/\∀D:Cx,(∀b o v,W.cell? ⟨b,o,none⟩=some v->D.fx b o v)->VR D x u:=by
 have hcs:=OP l ht he hc hn hct h;refine⟨by have:=aR List.length hcs;simpa using this,?_⟩;refine II (l:=cs.toList) (fun j=>by rw[World.var?_cell hg hv j];simp) (by rw[hcs];simp) fun j x u hx hu D hD=>?_;rw[hcs,aK] at hu;rw[aK] at hx;obtain⟨z,hz,rfl⟩:=Option.map_eq_some_iff.1 hx;rw[hz] at hu;cases hu;exact .i k z
theorem XL {α:Type} {Q:Nat->α->Prop}:∀n,(∀i,i<n->∃a,Q i a)->∃l:List α,l.length=n/\∀i a,l[i]?=some a->Q i a
 |0,_=>⟨[],rfl,fun i a h=>by simp at h⟩
 |n+1,h=>by
  obtain⟨l,hl,hq⟩:=XL n (fun i hi=>h i (by omega));obtain⟨a,ha⟩:=h n (by omega);refine⟨l++[a],by simp[hl],fun i b hb=>?_⟩;rcases Nat.lt_trichotomy i n with hi|rfl|hi
  ·rw[b7 (by omega)] at hb;exact hq i b hb
  ·rw[cJ (by omega),hl] at hb;simp at hb;subst hb;exact ha
  ·rw[bG (by simp;omega)] at hb;cases hb
theorem NJ (b off n:Nat):(⟨b,off,none⟩:Addr).add n=⟨b,off+n,none⟩:=by
 unfold Addr.add;split
 ·rename_i h;subst h;rfl
 ·rfl
theorem a03 {W:World} {a:Addr} {u:Value} (h:W.cell? a=some u):a.spot=none:=by
 obtain⟨ab,ao,asp⟩:=a;unfold World.cell? at h;split at h
 ·simp only at h;split at h
  ·cases h
  ·rename_i h0;simpa using h0
 ·cases h
theorem WJ {W:World} {base:Nat} {a:Addr} {n:Nat} {l:List Value} (h:W.cells? base (a.add 0) (n+1)=some l):a.spot=none:=by
 obtain⟨_,hn,hh⟩:=World.cells?_some h;have h0:=hh 0 (Nat.succ_pos n);have hl:l[0]?=some (l[0]'(by omega)):=gL (by omega);rw[hl] at h0;exact a03 (show W.cell? a=_ from h0)
section
variable {H : Type} {enc : TypeId × Value → H} {P : Program} {W : World} {held : Bool}
theorem XG {e:TypeId} {d:DataW H} {m:Nat} (hm:m∈d.weights P e):∀{l:List (DataW H)},d∈l->m∈DataW.weightsAll P e l
 |x::l,h=>by
  unfold DataW.weightsAll;rcases List.mem_cons.1 h with rfl|h
  ·exact List.mem_append_left _ hm
  ·exact List.mem_append_right _ (XG hm h)
theorem zT {m:Nat}:∀{ts:List TypeId} {l:List (DataW H)} {i:Nat} {t:TypeId} {d:DataW H},ts[i]?=some t->l[i]?=some d->m∈d.weights P t->m∈DataW.weightsEach P ts l
 |t0::ts,d0::l,i,t,d,h1,h2,hm=>by
  unfold DataW.weightsEach;cases i with
  |zero=>cases h1;cases h2;exact List.mem_append_left _ hm
  |succ i=>exact List.mem_append_right _ (zT h1 h2 hm)
def o8 (P:Program) (t:TypeId) (d:DataW H):Prop:=∀m∈d.weights P t,m<=reachBytes
theorem lW {t:TypeId} {fs:Array Field} {xs:List (DataW H×List MemPlace)} (hu:P.underlying t=some (.struct fs)) (hw:o8 P t (.agg (xs.map (·.1)))) {i:Nat} {f:Field} (hf:fs[i]?=some f) {y:DataW H×List MemPlace} (hy:xs[i]?=some y):o8 P f.type y.1:=fun m hm=>by
 refine hw m ?_;unfold DataW.weights;rw[hu];refine zT (i:=i) (t:=f.type) (d:=y.1) ?_ ?_ hm
 ·show(fs.toList.map (·.type))[i]?=_;rw[aK,dO,hf];rfl
 ·rw[aK,hy];rfl
theorem AU [MaxL] {α:Type} (Q:α->Prop) (gv:α->GV) {t e:TypeId} {cs:List Value} {kM:Nat} {x:DataW H×List MemPlace}
  (ht:P.underlying t=some (.slice e)) {esz:Nat} (hc:P.cellsOf e=esz+1)
  (elem:∀(n:Nat) cs x,DataW.trod enc P W 0 (fun _=>true) held n e cs=some x->o8 P e x.1->∃a:α,Q a/\cs.length=esz+1/\∀(j:Nat) g u,(gv a).cells[j]?=some g->cs[j]?=some u->VR (C0 W) g u)
  (hg:∀a,(gv a).cells.length=esz+1)
  (hd:DataW.trod enc P W 0 (fun _=>true) held kM t cs=some x) (hw:o8 P t x.1):
  ∃l:List α,l.length<=maxLen/\(∀a∈l,Q a)/\∃v,cs=[v]/\VR (C0 W) (.sl .none (l.map gv)) v:=by
 rcases DataW.trod_slice ht hd with⟨hcs,_⟩|⟨a,len,cap,elems,rest,n,_,hcs,hx,hb,hl,hm,hlen,hel,hsp,_⟩
 ·exact⟨[],zL _,(fun a ha=>by cases ha),_,hcs,.sl 0 0 0 (fun _=>.bool false) rfl (rL _) (.inl ⟨rfl,rfl⟩) (by simp) (by simp) (by simp) trivial⟩
 ·have hspot:cap=0∨a.spot=none:=by
   by_cases h0:cap=0
   ·exact .inl h0
   ·right;by_cases h1:0<len
    ·have h2:=hel 0 h1;have hy:elems[0]?=some (elems[0]'(by omega)):=gL (by omega);rw[hy,Option.bind_eq_some_iff,hc] at h2;obtain⟨cs',h3,_⟩:=h2;rw[Nat.zero_mul] at h3;exact WJ h3
    ·obtain⟨hr1,hr2⟩:=hsp rfl;have h2:=hr2 0 (by omega);have hy:rest[0]?=some (rest[0]'(by omega)):=gL (by omega);rw[hy,Option.bind_eq_some_iff,hc] at h2;obtain⟨cs',h3,_⟩:=h2;rw[show len+0=0 by omega,Nat.zero_mul] at h3;exact WJ h3
  obtain⟨b,off,spot⟩:=a;obtain⟨l,hll,hq⟩:=XL (Q:=fun i (y:α)=>Q y/\∃cs',W.cells? 0 ((⟨b,off,spot⟩:Addr).add (i*(esz+1))) (esz+1)=some cs'/\cs'.length=esz+1/\∀(j:Nat) g u,(gv y).cells[j]?=some g->cs'[j]?=some u->VR (C0 W) g u) len (fun i hi=>by
   have h1:=hel i hi;have hy:elems[i]?=some (elems[i]'(by omega)):=gL (by omega);rw[hy,Option.bind_eq_some_iff,hc] at h1;obtain⟨cs',h1,h2⟩:=h1;have hw2:o8 P e (elems[i]'(by omega)).1:=fun m hm=>by
    refine hw m ?_;rw[hx];show m∈DataW.weights P t (.slice _ _);unfold DataW.weights;rw[ht];exact eR _ (List.mem_append_left _ (XG hm (List.mem_map_of_mem (dX _))))
   obtain⟨y,hQ,hcl,hvr⟩:=elem _ _ _ h2 hw2;exact⟨y,hQ,cs',h1,hcl,hvr⟩)
  refine⟨l,by omega,fun y hy=>?_,_,hcs,?_⟩
  ·obtain⟨i,hi⟩:=List.mem_iff_getElem?.1 hy;exact(hq i y hi).1
  have hcell:∀(i:Nat) y (j:Nat) g,l[i]?=some y->(gv y).cells[j]?=some g->∃u,W.cell? ⟨b,off+i*(esz+1)+j,none⟩=some u/\VR (C0 W) g u:=fun i y j g hi hj=>by
   obtain⟨_,cs',h1,h2,h3⟩:=hq i y hi;have hilt:i<l.length:=(List.getElem?_eq_some_iff.1 hi).1;have hs:spot=none:=by
    rcases hspot with q|q
    ·omega
    ·exact q
   subst hs;have hjl:j<esz+1:=by rw[<-hg y];exact(List.getElem?_eq_some_iff.1 hj).1
   have hu:cs'[j]?=some (cs'[j]'(by omega)):=gL (by omega);obtain⟨_,hn,hh⟩:=World.cells?_some h1;have:=hh j hjl;rw[NJ,NJ,hu] at this;exact⟨_,this,h3 j g _ hj hu⟩
  refine .sl (esz+1) b off (fun k=>(W.cell? ⟨b,off+k,none⟩).getD (.bool false)) (by simp[hll]) hl ?_ (fun x hx=>?_) (fun i x j g hx hj=>?_) (fun i x j g hx hj=>?_) trivial
  ·rcases hspot with q|q
   ·exact .inr (.inr q)
   ·simp only at q;subst q;exact .inr (.inl rfl)
  ·obtain⟨y,_,rfl⟩:=List.mem_map.1 hx;exact hg y
  all_goals
   rw[aK] at hx;obtain⟨y,hy,rfl⟩:=Option.map_eq_some_iff.1 hx;obtain⟨u,h1,h2⟩:=hcell i y j g hy hj;rw[<-Nat.add_assoc,h1,jL]
  ·exact h1
  ·exact h2
end
section
variable {H : Type} {enc : TypeId × Value → H} {P : Program} {W : World} {held : Bool}
def Op [MaxL] (enc:TypeId×Value->H) (P:Program) (W:World) (held:Bool) (t:TypeId) {α:Type} (Q:α->Prop) (gc:α->List GV):Prop:=
 ∀(n:Nat) cs (x:DataW H×List MemPlace),DataW.trod enc P W 0 (fun _=>true) held n t cs=some x->o8 P t x.1->∃a,Q a/\VRs (C0 W) (gc a) cs
theorem Op.slice [MaxL] {α:Type} {Q:α->Prop} {gc:α->List GV} {t e:TypeId} (ht:P.underlying t=some (.slice e)) {esz:Nat} (hc:P.cellsOf e=esz+1) (hg:∀a,(gc a).length=esz+1) (h:Op enc P W held e Q gc) (gv:α->GV) (hv:∀a,(gv a).cells=gc a):
  Op enc P W held t (fun l:List α=>∀a∈l,Q a) (fun l=>[.sl .none (l.map gv)]):=fun n cs x hd hw=>by
 obtain⟨l,_,hq,v,rfl,hr⟩:=AU Q gv ht hc (fun n cs x h1 h2=>by
  obtain⟨a,h3,h4,h5⟩:=h n cs x h1 h2;exact⟨a,h3,by rw[h4,hg],by rw[hv];exact h5⟩) (fun a=>by rw[hv,hg]) hd hw
 exact⟨l,hq,.cons hr .nil⟩
theorem CK [MaxL] {t:TypeId} {fs:Array Field} {xs:List (DataW H×List MemPlace)} {m:Nat} {cs:List Value} (hu:P.underlying t=some (.struct fs)) (hw:o8 P t (.agg (xs.map (·.1)))) (hxs:xs.length=fs.size)
  (hf:∀(i:Nat) f,fs[i]?=some f->DataW.trod enc P W 0 (fun _=>true) held m f.type ((cs.drop f.offset).take (P.cellsOf f.type))=xs[i]?) {i:Nat} {f:Field} {c:Value} {α:Type} {Q:α->Prop} {gc:α->List GV} (hfi:fs[i]?=some f) (ho:f.offset=i) (h1:P.cellsOf f.type=1) (hc:cs[i]?=some c)
  (h:Op enc P W held f.type Q gc):∃a,Q a/\VRs (C0 W) (gc a) [c]:=by
 have h2:=hf i f hfi;have hi:i<xs.length:=by rw[hxs];exact(Array.getElem?_eq_some_iff.1 hfi).1
 have hy:xs[i]?=some xs[i]:=gL hi;rw[ho,h1,hy] at h2;have e:(cs.drop i).take 1=[c]:=by
  obtain⟨h3,h4⟩:=List.getElem?_eq_some_iff.1 hc;rw[b8 h3,h4];rfl
 rw[e] at h2;exact h _ _ _ h2 (lW hu hw hfi hy)
end
theorem VRs.one [MaxL] {C:Cx} {g:GV} {v:Value} {gs:List GV} {vs:List Value} (a:VRs C [g] [v]) (b:VRs C gs vs):VRs C (g::gs) (v::vs):=.cons (a.2 0 g v rfl rfl) b
theorem a3V:Tryz.prog.underlying 3=some (.int .i64):=by kernel_rfl
section
variable [MaxL] {H : Type} {enc : TypeId × Value → H} {W : World} {held : Bool}
theorem u6 [MaxL]:Op enc Tryz.prog W held 9 (fun z:List UInt8=>z.length<=cap) (fun z=>[.s z]):=fun n cs x h hw=>by
 obtain⟨z,rfl,hy,_⟩:=DataW.trod_string H7 h;have hl:z.data.toList.length<=reachBytes:=hw _ (by rw[hy];unfold DataW.weights;simp);refine⟨z.data.toList,dG hl (by decide),.cons ?_ .nil⟩;have:z=⟨z.data.toList.toArray⟩:=by simp
 exact this▸VR.s z.data.toList
theorem vU [MaxL]:Op enc Tryz.prog W held 3 (fun _:Int=>True) (fun k=>[.i .i64 k]):=fun n cs x h hw=>by
 obtain⟨z,rfl,_⟩:=DataW.trod_int a3V h;exact⟨z,trivial,.cons (.i _ _) .nil⟩
theorem OI [MaxL]:Op enc Tryz.prog W held 4 (fun _:Bool=>True) (fun b=>[.b b]):=fun n cs x h hw=>by
 obtain⟨z,rfl,_⟩:=DataW.trod_bool Q6 h;exact⟨z,trivial,.cons (.b _) .nil⟩
theorem X9 [MaxL]:Op enc Tryz.prog W held 43 (fun l:List (List UInt8)=>∀a∈l,a.length<=cap) (fun l=>[.sl .none (bR l)]):=Op.slice (by kernel_rfl) (esz:=0) (by kernel_rfl) (fun _=>rfl) u6 GV.s (fun _=>rfl)
theorem EE:Tryz.prog.underlying 92=some (.struct #[{name:= "Name",type:=9,offset:=0,embedded:=false,tag:= "",pkgPath:= "",byteOffset:=0},{name:= "Kind",type:=3,offset:=1,embedded:=false,tag:= "",pkgPath:= "",byteOffset:=16},{name:= "Low",type:=3,offset:=2,embedded:=false,tag:= "",pkgPath:= "",byteOffset:=24},{name:= "High",type:=3,offset:=3,embedded:=false,tag:= "",pkgPath:= "",byteOffset:=32},{name:= "Len",type:=3,offset:=4,embedded:=false,tag:= "",pkgPath:= "",byteOffset:=40}]):=by kernel_rfl
theorem a7e [MaxL]:Op enc Tryz.prog W held 92 (fun _=>True) Itm.cs:=fun n cs x h hw=>by
 obtain⟨xs,m,_,rfl,hlen,hxs,hf⟩:=DataW.trod_struct EE h;rw[show Tryz.prog.cellsOf 92=5 by kernel_rfl] at hlen
 match cs,hlen with
 |[c0,c1,c2,c3,c4],_=>
 obtain⟨a0,q0,v0⟩:=CK EE hw hxs hf (i:=0) rfl rfl (by kernel_rfl) rfl u6;obtain⟨a1,q1,v1⟩:=CK EE hw hxs hf (i:=1) rfl rfl (by kernel_rfl) rfl vU;obtain⟨a2,q2,v2⟩:=CK EE hw hxs hf (i:=2) rfl rfl (by kernel_rfl) rfl vU;obtain⟨a3,q3,v3⟩:=CK EE hw hxs hf (i:=3) rfl rfl (by kernel_rfl) rfl vU;obtain⟨a4,q4,v4⟩:=CK EE hw hxs hf (i:=4) rfl rfl (by kernel_rfl) rfl vU;exact⟨⟨a0,a1,a2,a3,a4⟩,trivial,.one v0 (.one v1 (.one v2 (.one v3 (.one v4 .nil))))⟩
theorem a6H [MaxL]:Op enc Tryz.prog W held 56 (fun l:List Itm=>∀a∈l,(fun _=>True) a) (fun l=>[.sl .none (l.map Itm.gv)]):=Op.slice (by kernel_rfl) (esz:=4) (by kernel_rfl) (fun _=>rfl) a7e Itm.gv (fun _=>rfl)
theorem TM:Tryz.prog.underlying 61=some (.struct #[{name:= "Name",type:=9,offset:=0,embedded:=false,tag:= "",pkgPath:= "",byteOffset:=0},{name:= "Pages",type:=3,offset:=1,embedded:=false,tag:= "",pkgPath:= "",byteOffset:=16}]):=by kernel_rfl
theorem a7f [MaxL]:Op enc Tryz.prog W held 61 (fun a:Ar=>a.name.length<=cap) arC:=fun n cs x h hw=>by
 obtain⟨xs,m,_,rfl,hlen,hxs,hf⟩:=DataW.trod_struct TM h;rw[show Tryz.prog.cellsOf 61=2 by kernel_rfl] at hlen
 match cs,hlen with
 |[c0,c1],_=>
 obtain⟨a0,q0,v0⟩:=CK TM hw hxs hf (i:=0) rfl rfl (by kernel_rfl) rfl u6;obtain⟨a1,q1,v1⟩:=CK TM hw hxs hf (i:=1) rfl rfl (by kernel_rfl) rfl vU;exact⟨⟨a0,a1⟩,q0,.one v0 (.one v1 .nil)⟩
theorem a6I [MaxL]:Op enc Tryz.prog W held 22 (fun l:List Ar=>∀a∈l,(fun a:Ar=>a.name.length<=cap) a) (fun l=>[.sl .none (l.map arG)]):=Op.slice (by kernel_rfl) (esz:=1) (by kernel_rfl) (fun _=>rfl) a7f arG (fun _=>rfl)
theorem xN:Tryz.prog.underlying 58=some (.struct #[{name:= "Name",type:=9,offset:=0,embedded:=false,tag:= "",pkgPath:= "",byteOffset:=0},{name:= "Area",type:=9,offset:=1,embedded:=false,tag:= "",pkgPath:= "",byteOffset:=16},{name:= "Items",type:=56,offset:=2,embedded:=false,tag:= "",pkgPath:= "",byteOffset:=32},{name:= "Place",type:=3,offset:=3,embedded:=false,tag:= "",pkgPath:= "",byteOffset:=56},{name:= "Keys",type:=43,offset:=4,embedded:=false,tag:= "",pkgPath:= "",byteOffset:=64},{name:= "Dups",type:=4,offset:=5,embedded:=false,tag:= "",pkgPath:= "",byteOffset:=88},{name:= "Via",type:=9,offset:=6,embedded:=false,tag:= "",pkgPath:= "",byteOffset:=96},{name:= "Check",type:=9,offset:=7,embedded:=false,tag:= "",pkgPath:= "",byteOffset:=112}]):=by kernel_rfl
theorem a7b [MaxL]:Op enc Tryz.prog W held 58 (fun r:Rc=>r.name.length<=cap/\r.area.length<=cap/\r.via.length<=cap/\r.check.length<=cap) LD:=fun n cs x h hw=>by
 obtain⟨xs,m,_,rfl,hlen,hxs,hf⟩:=DataW.trod_struct xN h;rw[show Tryz.prog.cellsOf 58=8 by kernel_rfl] at hlen
 match cs,hlen with
 |[c0,c1,c2,c3,c4,c5,c6,c7],_=>
 obtain⟨a0,q0,v0⟩:=CK xN hw hxs hf (i:=0) rfl rfl (by kernel_rfl) rfl u6;obtain⟨a1,q1,v1⟩:=CK xN hw hxs hf (i:=1) rfl rfl (by kernel_rfl) rfl u6;obtain⟨a2,q2,v2⟩:=CK xN hw hxs hf (i:=2) rfl rfl (by kernel_rfl) rfl a6H;obtain⟨a3,q3,v3⟩:=CK xN hw hxs hf (i:=3) rfl rfl (by kernel_rfl) rfl vU;obtain⟨a4,q4,v4⟩:=CK xN hw hxs hf (i:=4) rfl rfl (by kernel_rfl) rfl X9;obtain⟨a5,q5,v5⟩:=CK xN hw hxs hf (i:=5) rfl rfl (by kernel_rfl) rfl OI;obtain⟨a6,q6,v6⟩:=CK xN hw hxs hf (i:=6) rfl rfl (by kernel_rfl) rfl u6;obtain⟨a7,q7,v7⟩:=CK xN hw hxs hf (i:=7) rfl rfl (by kernel_rfl) rfl u6;exact⟨⟨a0,a1,a2,a3,a4,a5,a6,a7⟩,⟨q0,q1,q6,q7⟩,.one v0 (.one v1 (.one v2 (.one v3 (.one v4 (.one v5 (.one v6 (.one v7 .nil)))))))⟩
theorem a6E [MaxL]:Op enc Tryz.prog W held 23 (fun l:List Rc=>∀a∈l,(fun r:Rc=>r.name.length<=cap/\r.area.length<=cap/\r.via.length<=cap/\r.check.length<=cap) a) (fun l=>[.sl .none (l.map QK)]):=Op.slice (by kernel_rfl) (esz:=7) (by kernel_rfl) (fun _=>rfl) a7b QK (fun _=>rfl)
theorem IF:Tryz.prog.underlying 69=some (.struct #[{name:= "Record",type:=9,offset:=0,embedded:=false,tag:= "",pkgPath:= "",byteOffset:=0},{name:= "Auto",type:=4,offset:=1,embedded:=false,tag:= "",pkgPath:= "",byteOffset:=16},{name:= "Keep",type:=3,offset:=2,embedded:=false,tag:= "",pkgPath:= "",byteOffset:=24},{name:= "Select",type:=43,offset:=3,embedded:=false,tag:= "",pkgPath:= "",byteOffset:=32}]):=by kernel_rfl
theorem a7c [MaxL]:Op enc Tryz.prog W held 69 (fun m:Mb=>m.of.length<=cap) mbC:=fun n cs x h hw=>by
 obtain⟨xs,m,_,rfl,hlen,hxs,hf⟩:=DataW.trod_struct IF h;rw[show Tryz.prog.cellsOf 69=4 by kernel_rfl] at hlen
 match cs,hlen with
 |[c0,c1,c2,c3],_=>
 obtain⟨a0,q0,v0⟩:=CK IF hw hxs hf (i:=0) rfl rfl (by kernel_rfl) rfl u6;obtain⟨a1,q1,v1⟩:=CK IF hw hxs hf (i:=1) rfl rfl (by kernel_rfl) rfl OI;obtain⟨a2,q2,v2⟩:=CK IF hw hxs hf (i:=2) rfl rfl (by kernel_rfl) rfl vU;obtain⟨a3,q3,v3⟩:=CK IF hw hxs hf (i:=3) rfl rfl (by kernel_rfl) rfl X9;exact⟨⟨a0,a1,a2,a3⟩,q0,.one v0 (.one v1 (.one v2 (.one v3 .nil)))⟩
theorem a6F [MaxL]:Op enc Tryz.prog W held 64 (fun l:List Mb=>∀a∈l,(fun m:Mb=>m.of.length<=cap) a) (fun l=>[.sl .none (l.map R8)]):=Op.slice (by kernel_rfl) (esz:=3) (by kernel_rfl) (fun _=>rfl) a7c R8 (fun _=>rfl)
theorem TK:Tryz.prog.underlying 71=some (.struct #[{name:= "Item",type:=9,offset:=0,embedded:=false,tag:= "",pkgPath:= "",byteOffset:=0},{name:= "Down",type:=4,offset:=1,embedded:=false,tag:= "",pkgPath:= "",byteOffset:=16}]):=by kernel_rfl
theorem a7d [MaxL]:Op enc Tryz.prog W held 71 (fun y:Ky=>y.item.length<=cap) kyC:=fun n cs x h hw=>by
 obtain⟨xs,m,_,rfl,hlen,hxs,hf⟩:=DataW.trod_struct TK h;rw[show Tryz.prog.cellsOf 71=2 by kernel_rfl] at hlen
 match cs,hlen with
 |[c0,c1],_=>
 obtain⟨a0,q0,v0⟩:=CK TK hw hxs hf (i:=0) rfl rfl (by kernel_rfl) rfl u6;obtain⟨a1,q1,v1⟩:=CK TK hw hxs hf (i:=1) rfl rfl (by kernel_rfl) rfl OI;exact⟨⟨a0,a1⟩,q0,.one v0 (.one v1 .nil)⟩
theorem a6G [MaxL]:Op enc Tryz.prog W held 65 (fun l:List Ky=>∀a∈l,(fun y:Ky=>y.item.length<=cap) a) (fun l=>[.sl .none (l.map kyG)]):=Op.slice (by kernel_rfl) (esz:=1) (by kernel_rfl) (fun _=>rfl) a7d kyG (fun _=>rfl)
theorem zI:Tryz.prog.underlying 67=some (.struct #[{name:= "Name",type:=9,offset:=0,embedded:=false,tag:= "",pkgPath:= "",byteOffset:=0},{name:= "Owner",type:=9,offset:=1,embedded:=false,tag:= "",pkgPath:= "",byteOffset:=16},{name:= "Members",type:=64,offset:=2,embedded:=false,tag:= "",pkgPath:= "",byteOffset:=32},{name:= "Order",type:=3,offset:=3,embedded:=false,tag:= "",pkgPath:= "",byteOffset:=56},{name:= "Keys",type:=65,offset:=4,embedded:=false,tag:= "",pkgPath:= "",byteOffset:=64},{name:= "Dups",type:=3,offset:=5,embedded:=false,tag:= "",pkgPath:= "",byteOffset:=88},{name:= "Mode",type:=3,offset:=6,embedded:=false,tag:= "",pkgPath:= "",byteOffset:=96}]):=by kernel_rfl
theorem a7Z [MaxL]:Op enc Tryz.prog W held 67 (fun t:Sy=>t.name.length<=cap/\t.owner.length<=cap/\(∀m∈t.ms,m.of.length<=cap)/\∀y∈t.keys,y.item.length<=cap) E8:=fun n cs x h hw=>by
 obtain⟨xs,m,_,rfl,hlen,hxs,hf⟩:=DataW.trod_struct zI h;rw[show Tryz.prog.cellsOf 67=7 by kernel_rfl] at hlen
 match cs,hlen with
 |[c0,c1,c2,c3,c4,c5,c6],_=>
 obtain⟨a0,q0,v0⟩:=CK zI hw hxs hf (i:=0) rfl rfl (by kernel_rfl) rfl u6;obtain⟨a1,q1,v1⟩:=CK zI hw hxs hf (i:=1) rfl rfl (by kernel_rfl) rfl u6;obtain⟨a2,q2,v2⟩:=CK zI hw hxs hf (i:=2) rfl rfl (by kernel_rfl) rfl a6F;obtain⟨a3,q3,v3⟩:=CK zI hw hxs hf (i:=3) rfl rfl (by kernel_rfl) rfl vU;obtain⟨a4,q4,v4⟩:=CK zI hw hxs hf (i:=4) rfl rfl (by kernel_rfl) rfl a6G;obtain⟨a5,q5,v5⟩:=CK zI hw hxs hf (i:=5) rfl rfl (by kernel_rfl) rfl vU;obtain⟨a6,q6,v6⟩:=CK zI hw hxs hf (i:=6) rfl rfl (by kernel_rfl) rfl vU;exact⟨⟨a0,a1,a2,a3,a4,a5,a6⟩,⟨q0,q1,q2,q4⟩,.one v0 (.one v1 (.one v2 (.one v3 (.one v4 (.one v5 (.one v6 .nil))))))⟩
theorem a6D [MaxL]:Op enc Tryz.prog W held 24 (fun l:List Sy=>∀a∈l,(fun t:Sy=>t.name.length<=cap/\t.owner.length<=cap/\(∀m∈t.ms,m.of.length<=cap)/\∀y∈t.keys,y.item.length<=cap) a) (fun l=>[.sl .none (l.map WD)]):=Op.slice (by kernel_rfl) (esz:=6) (by kernel_rfl) (fun _=>rfl) a7Z WD (fun _=>rfl)
theorem IE:Tryz.prog.underlying 26=some (.struct #[{name:= "Areas",type:=22,offset:=0,embedded:=false,tag:= "",pkgPath:= "",byteOffset:=0},{name:= "Records",type:=23,offset:=1,embedded:=false,tag:= "",pkgPath:= "",byteOffset:=24},{name:= "Sets",type:=24,offset:=2,embedded:=false,tag:= "",pkgPath:= "",byteOffset:=48}]):=by kernel_rfl
theorem a7a [MaxL]:Op enc Tryz.prog W held 26 (a17) jX:=fun n cs x h hw=>by
 obtain⟨xs,m,_,rfl,hlen,hxs,hf⟩:=DataW.trod_struct IE h;rw[show Tryz.prog.cellsOf 26=3 by kernel_rfl] at hlen
 match cs,hlen with
 |[c0,c1,c2],_=>
 obtain⟨a0,q0,v0⟩:=CK IE hw hxs hf (i:=0) rfl rfl (by kernel_rfl) rfl a6I;obtain⟨a1,q1,v1⟩:=CK IE hw hxs hf (i:=1) rfl rfl (by kernel_rfl) rfl a6E;obtain⟨a2,q2,v2⟩:=CK IE hw hxs hf (i:=2) rfl rfl (by kernel_rfl) rfl a6D;exact⟨⟨a0,a1,a2⟩,⟨q0,q1,q2⟩,.one v0 (.one v1 (.one v2 .nil))⟩
variable {r : Reach} {b0 : Nat} {v : Value} {d : DataW H} {ps : List MemPlace}
theorem YZ [MaxL] (hval:Value.okWide Tryz.prog W r b0 26 v) (hd:DataW.Trod enc Tryz.prog W 0 (fun _=>true) held 26 v d ps) (hw:o8 Tryz.prog 26 d):∃s:Sch,a17 s/\VR (C0 W) (lT s) v:=by
 have hag:∃cs,v=.agg cs:=by
  unfold Value.okWide at hval;rw[IE] at hval;obtain⟨cs,h,_⟩:=hval;exact⟨cs,h⟩
 obtain⟨cs,rfl⟩:=hag;obtain⟨kM,hf⟩:=hd;obtain⟨s,hs,hv⟩:=a7a kM _ _ hf hw;have hv':VRs (C0 W) (jX s) cs.toList:=hv;exact⟨s,hs,.agg (by simpa using hv'.1) fun j g u h1 h2=>hv'.2 j g u h1 (by simpa using h2)⟩
end
end
section
open Go Go.ChangeShapes Go.WideShapes Go.RowKit Go.ChangeMaps
def iv:GV->Option Int
 |.i _ n=>some n
 |_=>none
theorem a8M [MaxL] {W:World} (h:laidMetH Tryz.prog Rows.viewWrongRow.laid W) (hm:W.cell? ⟨0,0,none⟩=some (.int .i64 MaxL.m)) (hms:∃c t fr,W.heap[(0:Nat)]?=some (.cells c t fr)/\c.size=1):a6w W:=by
 rw[MakeChecks.laidMetH_plain _ _ _ (by kernel_rfl)] at h;obtain⟨ps,⟨gA,tA,csA,fA,pA,qA,hgA,htA,hvA,hdA,⟨gB,tB,csB,fB,pB,qB,hgB,htB,hvB,hdB,⟨gC,tC,csC,fC,pC,qC,hgC,htC,hvC,hdC,⟨gD,tD,csD,fD,pD,qD,hgD,htD,hvD,hdD,⟨gE,tE,csE,fE,pE,qE,hgE,htE,hvE,hdE,⟨gF,tF,csF,fF,pF,qF,hgF,htF,hvF,hdF,⟨gG,tG,csG,fG,pG,qG,hgG,htG,hvG,hdG,eN,eG⟩,eF⟩,eE⟩,eD⟩,eC⟩,eB⟩,eA⟩,hnd,hrows⟩:=h;obtain rfl:=bA ((show Tryz.prog.globalNamed "math/bits.deBruijn32tab" =some 6 by kernel_rfl).symm.trans hgA);obtain rfl:=bA ((show(Tryz.prog.globals[(6:Nat)]?).map (·.type)=some 385 by kernel_rfl).symm.trans htA);obtain rfl:=bA ((show Tryz.prog.globalNamed "math/bits.deBruijn64tab" =some 7 by kernel_rfl).symm.trans hgB);obtain rfl:=bA ((show(Tryz.prog.globals[(7:Nat)]?).map (·.type)=some 386 by kernel_rfl).symm.trans htB);obtain rfl:=bA ((show Tryz.prog.globalNamed "internal/strconv.uint64pow10" =some 3 by kernel_rfl).symm.trans hgC);obtain rfl:=bA ((show(Tryz.prog.globals[(3:Nat)]?).map (·.type)=some 372 by kernel_rfl).symm.trans htC);obtain rfl:=bA ((show Tryz.prog.globalNamed "strconv.ErrRange" =some 5 by kernel_rfl).symm.trans hgE);obtain rfl:=bA ((show(Tryz.prog.globals[(5:Nat)]?).map (·.type)=some 223 by kernel_rfl).symm.trans htE);obtain rfl:=bA ((show Tryz.prog.globalNamed "strconv.ErrSyntax" =some 4 by kernel_rfl).symm.trans hgF);obtain rfl:=bA ((show(Tryz.prog.globals[(4:Nat)]?).map (·.type)=some 223 by kernel_rfl).symm.trans htF);obtain⟨lE⟩:=csE;have okE:∀u v,lE=[.iface u v]->Value.okWide Tryz.prog W .any 0 u v:=fun u v e=>by
  subst e;exact(hrows 5 0 (by rw[eA,eB,eC,eD,eE,eF,eG];simp[MemPlace.row])).2 u v (by simpa using World.var?_cell hgE hvE 0)
 obtain⟨lF⟩:=csF;have okF:∀u v,lF=[.iface u v]->Value.okWide Tryz.prog W .any 0 u v:=fun u v e=>by
  subst e;exact(hrows 4 0 (by rw[eA,eB,eC,eD,eE,eF,eG];simp[MemPlace.row])).2 u v (by simpa using World.var?_cell hgF hvF 0)
 have eF':=Q7 hgF hvF rfl hdF okF;have eE':=Q7 hgE hvE rfl hdE okE;have eC':=EF (k:=.u64) (e:=360) (n:=20) (a28.filterMap iv) hgC hvC (by kernel_rfl) (by kernel_rfl) (by kernel_rfl) (by kernel_rfl) (by kernel_rfl) hdC;have eA':=EF (k:=.u8) (e:=5) (n:=32) (a7k.filterMap iv) hgA hvA (by kernel_rfl) (by kernel_rfl) (by kernel_rfl) (by kernel_rfl) (by kernel_rfl) hdA;have eB':=EF (k:=.u8) (e:=5) (n:=64) (a7j.filterMap iv) hgB hvB (by kernel_rfl) (by kernel_rfl) (by kernel_rfl) (by kernel_rfl) (by kernel_rfl) hdB;have one:∀{g:Nat} {n:String} {cs:Array Value} {k:Nat},Tryz.prog.globalNamed n=some g->W.var? Tryz.prog n=some cs->cs.size=k->∃c t fr,W.heap[g]?=some (.cells c t fr)/\c.size=k:=fun hg hv h=>by
  obtain⟨t,fr,ho⟩:=RT hg hv;exact⟨_,t,fr,ho,h⟩
 have hmax:∀(j:Nat) x,([.i .i64 MaxL.m]:List GV)[j]?=some x->∃u,W.cell? ⟨0,j,none⟩=some u/\∀D:Cx,(∀b o v,W.cell? ⟨b,o,none⟩=some v->D.fx b o v)->VR D x u:=fun j x hx=>by
  match j,hx with
  |0,hx=>cases hx;exact⟨_,hm,fun D hD=>.i _ _⟩
  |j+1,hx=>cases hx
 refine⟨fun g cs hg=>?_,fun g cs j x hg hx=>?_⟩
 ·match g,hg with
  |0,hg=>obtain rfl:=bA hg;exact hms
  |1,hg=>cases hg
  |2,hg=>cases hg
  |3,hg=>obtain rfl:=bA hg;exact one hgC hvC eC'.1
  |4,hg=>obtain rfl:=bA hg;exact one hgF hvF eF'.1
  |5,hg=>obtain rfl:=bA hg;exact one hgE hvE eE'.1
  |6,hg=>obtain rfl:=bA hg;exact one hgA hvA eA'.1
  |7,hg=>obtain rfl:=bA hg;exact one hgB hvB eB'.1
  |n+8,hg=>cases hg
 ·match g,hg with
  |0,hg=>obtain rfl:=bA hg;exact hmax j x hx
  |1,hg=>cases hg
  |2,hg=>cases hg
  |3,hg=>obtain rfl:=bA hg;exact eC'.2 j x hx
  |4,hg=>obtain rfl:=bA hg;exact eF'.2 j x hx
  |5,hg=>obtain rfl:=bA hg;exact eE'.2 j x hx
  |6,hg=>obtain rfl:=bA hg;exact eA'.2 j x hx
  |7,hg=>obtain rfl:=bA hg;exact eB'.2 j x hx
  |n+8,hg=>cases hg
theorem VM [MaxL] {k:FuncId} {args:List GV} {s':List GObj} {W:World} {vs:Array Value} (h:SC Tryz.prog k args [] (.val (.b true)) s') (ht:a6w W) (hv:VRs (C0 W) args vs.toList):
  Calls Tryz.prog k vs W fun e W'=>e=.returned (.bool true)/\Base (fun _=>False) W W':=
 (h.calls (C0 W) W vs (Z2 ht) hv).mono fun e W' ⟨D,hl,hr,he⟩=>by
  obtain⟨v,rfl,hv⟩:=he;have hm:D.mine=fun _=>False:=hl.fix.1;refine⟨?_,hm▸hr.below⟩;cases hv;rfl
theorem a8O [MaxL] (s:ByteArray) {C:Cx}:VR C (.s s.data.toList) (.string s):=by
 have:s=⟨s.data.toList.toArray⟩:=by simp
 exact this▸VR.s s.data.toList
theorem JP:laidOutB Tryz.checked.prog=true:=by kernel_rfl
section
variable {H : Type} {enc : TypeId × Value → H}
theorem RU {a:Assume} {C:Checked} {os:Os} {f:FuncId} {fn:Func} {s:ChangeSpec} {conds:List PathCond} {apart fresh handsOn again:Bool} {X:World->Array Value->Prop}
  (hX:∀(w w':World) (args:Array Value),w.heap=w'.heap->X w args->X w' args)
  (own:ownKnob C.prog.godebug=none) (started:os.Started) (noInit:C.prog.inits.idxOf? f=none) (hfn:C.prog.funcs[f]?=some fn)
  (witness:∃(w:World) (tape:Tape) (i:Input),w.os=os/\(w.forCall tape i).Shaped C.prog/\i.vars=[]/\Input.okWide C.prog (w.forCall tape i) .any w.heap.size f i/\
   ((s.pre enc C.prog fn conds apart (w.forCall tape i).memory i.args/\X (w.forCall tape i).memory i.args)/\sizedMet enc C.prog fn (OpenSpec.ofChange s) apart (w.forCall tape i).memory i.args)/\a.holds C.prog (lone (Frame.enter C.prog f i.args .normal) [] (w.forCall tape i)))
  (contract:∀(W:World) (base:Nat) (args:Array Value) (ds gs:List (DataW H)) (before:List MemPlace),
   (∀(j:Nat) t v,fn.params[j]?=some t->args[j]?=some v->Value.okWide C.prog W .any base t v)->
   DataW.Whole enc C.prog fn.params.toList s.vars apart W args.toList ds gs before->
   (DataW.weightsEach C.prog (fn.params.toList++s.plain.varTypes C.prog) (ds++gs)).all (· <=reachBytes)=true->X W args->W.ShapedOpen C.prog->
   Calls C.prog f args W fun e W'=>∃v,e=.returned v/\s.post enc C.prog fn apart fresh handsOn again W args v W'):
  ReturnsInHanded a C os f .any (fun w args=>(s.pre enc C.prog fn conds apart w args/\X w args)/\sizedMet enc C.prog fn (OpenSpec.ofChange s) apart w args) (s.post enc C.prog fn apart fresh handsOn again):=by
 refine returnsInHanded_of_calls own started noInit witness ?_;intro w tape i _ hsh _ hok hpre hholds;obtain⟨_,_,_,fn',hfn',_,_,_,_,hval⟩:=hok;have e:fn'=fn:=bA (hfn'.symm.trans hfn);subst e;obtain⟨⟨⟨ds,gs,before,hw,hc⟩,hx⟩,hz⟩:=hpre;have hw':=DataW.Whole.of_heap (w':=w.forCall tape i) (by rfl) hw;refine(contract (w.forCall tape i) w.heap.size i.args ds gs before hval hw' (hz.weights hw) (hX _ _ _ (by rfl) hx) hsh).mono fun e W' ⟨v,he,hp⟩=>?_;subst he;exact ChangeSpec.post_blind hp
variable {P : Program} {w : World} {base : Nat} {spare : Nat → Bool} {held : Bool}
end
theorem R9 {W:World} (h:W.ShapedOpen Tryz.prog):∃m,W.cell? ⟨0,0,none⟩=some (.int .i64 m)/\∃c t fr,W.heap[(0:Nat)]?=some (.cells c t fr)/\c.size=1:=by
 have h0:((begin Tryz.prog (fun _ _=>0) default).world.heap[(0:Nat)]?).bind Obj.row?=some (#[.int .i64 0],3):=by kernel_rfl
 have hg:(0:Nat)<Tryz.prog.globals.size:=aB (by kernel_rfl);obtain⟨m,hm⟩:=cell_of_shapedOpen_int (zero:= #[.int .i64 0]) (t:=3) (k:=.i64) h hg h0 rfl (by kernel_rfl) (by kernel_rfl) (by kernel_rfl);obtain⟨cs,hh,hs,_⟩:=h.1 _ _ _ hg h0;exact⟨m,hm,cs,_,_,hh,hs⟩
theorem q1:Rows.viewWrongRow.wf (OpenSpec.ofChange Rows.viewWrongSpec)=true:=by kernel_rfl
theorem q2:laidOutB Tryz.pinned.checked.prog=true:=by kernel_rfl
theorem q3:mapsRowed Tryz.pinned.checked.prog=true:=by kernel_rfl
theorem q4:(Rows.viewWrongRow.inPlace==Tryz.pinned.checked.prog.inPlace 3)=true:=by kernel_rfl
theorem q5:(Rows.viewWrongRow.unfollowed==Tryz.pinned.checked.prog.unfollowed 3)=true:=by kernel_rfl
theorem q6:(Rows.viewWrongRow.recurses==Tryz.pinned.checked.prog.recurses 3)=true:=by kernel_rfl
theorem q7:(Rows.viewWrongRow.named==Tryz.pinned.checked.prog.varsNamed 3)=true:=by kernel_rfl
theorem q8:(Rows.viewWrongRow.plainKeys==Tryz.pinned.checked.prog.plainKeys)=true:=by kernel_rfl
theorem q9:Tryz.pinned.checked.prog.stopsHeard=true:=by kernel_rfl
theorem q10:Tryz.pinned.checked.prog.mayEnter=true:=by kernel_rfl
theorem q11:(Rows.viewWrongRow.lifted==Tryz.pinned.checked.prog.liftsFinal)=true:=by kernel_rfl
theorem YN:joinedFacts Tryz.pinned.checked.prog 3 Tryz.f3 Rows.viewWrongSpec Rows.viewWrongRow=true:=by
 unfold joinedFacts;rw[q1,q2,q3,q4,q5,q6,q7,q8,q9,q10,q11];kernel_rfl
theorem a3E:Tryz.f3.isInstance Tryz.pinned.checked.prog Rows.viewWrongRow.origin Rows.viewWrongRow.targs:=(aB (by kernel_rfl))
theorem a3D:Tryz.f3.isWrapper Tryz.pinned.checked.prog Rows.viewWrongRow.wrapper Rows.viewWrongRow.mainSum:=(by unfold Func.isWrapper;first|(rw[aD (by decide+kernel)];kernel_rfl)|(rw[aC (by decide+kernel)];exact⟨rfl,rfl⟩))
theorem a8H:Rows.viewWrongRow.wfByText (OpenSpec.ofChange Rows.viewWrongSpec)=true:=by kernel_rfl
theorem a8I:Tryz.pinned.checked.prog.mainIs=some (true,("7843fc69233a9a7aac88cef64cd2e008dada54516b880517171de9111bc2ea16").toList):=by kernel_rfl
theorem a8J:true=Tryz.pinned.checked.prog.looks []:=by kernel_rfl
theorem a8K:false=Rows.viewWrongRow.goesBy Tryz.pinned.checked.prog:=by kernel_rfl
end
section
open Go.RowKit
structure VwR where
 name:By
 of:By
 items:List (By×By)
 only:By
 deriving DecidableEq
structure Vw where
 recs:List VwR
 sets:List (By×By)
 deriving DecidableEq
def vG (s:By):Bool:=decide (yX s=(s,0))
theorem ZI [MaxL] {C:Cx} {w:World} (hr:Rel C ⟨[],0,[]⟩ w w):w.cell? ⟨0,0,none⟩=some (.int .i64 MaxL.m):=by
 obtain⟨u,h1,h2⟩:=hr.gl 0 [.i .i64 MaxL.m] 0 (.i .i64 MaxL.m) rfl rfl;have:=h2 C (fun _ _ _ h=>h);cases this;exact hr.fxc _ _ _ h1
theorem a4u [MaxL] {C:Cx} {a b:By} {vs:Array Value} (hv:VRs C [.s a,.s b] vs.toList):vs= #[.string ⟨a.toArray⟩,.string ⟨b.toArray⟩]:=by
 obtain⟨u,vs',e,hv1,hv2⟩:=hv.cons_inv;obtain⟨u2,vs2,e2,hv3,hv4⟩:=hv2.cons_inv;have:vs2=[]:=aM (by simpa using hv4.1);subst this;cases hv1;cases hv3;rw[<-fH (xs:=vs),e,e2]
def mU (p:By×By):GV:=.agg [.s p.1,.s p.2]
def nK (l:List (By×By)):List GV:=l.map mU
def rM (r:VwR):List GV:=[.s r.name,.s r.of,.sl .none (nK r.items),.s r.only]
def uQ (r:VwR):GV:=.agg (rM r)
theorem QY [MaxL] (p:By×By):Cl (mU p):=fun _=>rfl
theorem UR [MaxL] (l:List (By×By)):ClL (nK l):=iA QY l
theorem pK (l:List (By×By)):(nK l).length=l.length:=by simp[nK]
theorem a2E (l:List (By×By)):(nK l).all (fun x=>x.cells.length==2)=true:=by
 rw[aQ];intro x hx;obtain⟨p,_,rfl⟩:=List.mem_map.1 hx;rfl
theorem NZ [MaxL] (r:VwR):ClL (rM r):=.cons (.s _) (.cons (.s _) (.cons (bK (UR _)) (.cons (.s _) .nil)))
theorem WV [MaxL] (r:VwR):Cl (uQ r):=eQ (NZ r)
def MC (p:By×By):Nat:=p.1.length+p.2.length
def rsz (r:VwR):Nat:=r.name.length+r.of.length+r.only.length+(r.items.map MC).sum
def vsz (v:Vw):Nat:=(v.recs.map rsz).sum+(v.sets.map MC).sum
def JO (v:Vw):Bool:=decide (v.recs.length<=20)&&decide (v.sets.length<=70)&&(v.recs.all fun r=>decide (r.items.length<=20))&&decide (vsz v<=5000)
def fP (l:List VwR):List GV:=l.map uQ
def j9 (v:Vw):List GV:=[.sl .none (fP v.recs),.sl .none (nK v.sets)]
def k7 (v:Vw):GV:=.agg (j9 v)
theorem QJ [MaxL] (l:List VwR):ClL (fP l):=iA WV l
theorem lJ (l:List VwR):(fP l).length=l.length:=by simp[fP]
theorem a1J (l:List VwR):(fP l).all (fun x=>x.cells.length==4)=true:=by
 rw[aQ];intro x hx;obtain⟨p,_,rfl⟩:=List.mem_map.1 hx;rfl
theorem I9 [MaxL] (v:Vw):ClL (j9 v):=.cons (bK (QJ _)) (.cons (bK (UR _)) .nil)
theorem a0a [MaxL] (v:Vw):Cl (k7 v):=eQ (I9 v)
theorem a1K {l:List VwR} {i:Nat} {x:VwR} (h:l[i]?=some x):(fP l)[((i:Nat):Int).toNat]?=some (uQ x):=by
 rw[aL];unfold fP;rw[aK,h];rfl
theorem a2F {l:List (By×By)} {i:Nat} {x:By×By} (h:l[i]?=some x):(nK l)[((i:Nat):Int).toNat]?=some (mU x):=by
 rw[aL];unfold nK;rw[aK,h];rfl
theorem a0s {α:Type} {p:α->Bool} {l:List α} {i:Nat} {x:α} (h:l[i]?=some x) (ha:∀y∈l.take i,p y=true) (hx:p x=true):∀y∈l.take (i+1),p y=true:=fun y hy=>by
 rw[aT,h] at hy;rcases List.mem_append.1 hy with q|q
 ·exact ha y q
 ·rw[List.mem_singleton.1 (show y∈[x] from q)];exact hx
theorem zG [MaxL] (v:Vw) (e:Nat->Nat):(GObj.box 30 (j9 v)).ren e=.box 30 (j9 v):=dW (I9 v) e
theorem U6 [MaxL] (r:VwR) (e:Nat->Nat):(GObj.box 74 (rM r)).ren e=.box 74 (rM r):=dW (NZ r) e
theorem BY [MaxL] {a b:Nat} (h:a+b<=4000000000000000000):IntKind.i64.wrap (((a:Nat):Int)+((b:Nat):Int))=((a+b:Nat):Int):=by rw[dB (by omega) (by omega)];omega
theorem vQ {α:Type} {f:α->Nat} {l:List α} {k:Nat} {x:α} (h:l[k]?=some x):((l.take (k+1)).map f).sum=((l.take k).map f).sum+f x:=by
 rw[aT,h,b5,List.sum_append];simp
def pOk (p:By×By):Prop:=p.1.length<=140737488355328/\p.2.length<=140737488355328
def rOk (r:VwR):Prop:=r.name.length<=140737488355328/\r.of.length<=140737488355328/\r.only.length<=140737488355328/\∀p∈r.items,pOk p
def vOk (v:Vw):Prop:=(∀r∈v.recs,rOk r)/\∀p∈v.sets,pOk p
theorem HG:∀(l:List (By×By)),(∀p∈l,pOk p)->(l.map MC).sum<=l.length*281474976710656
 |[],_=>zL _
 |p::l,h=>by
  have h1:=HG l (fun q hq=>h q (eR _ hq));obtain⟨h2,h3⟩:=h p (by simp);simp only[dJ,List.sum_cons,aI,MC];omega
theorem a5v {r:VwR} (h:rOk r) (hl:r.items.length<=20):rsz r<=6051711999279104:=by
 have h1:=HG r.items h.2.2.2;obtain⟨a,b,c,_⟩:=h;unfold rsz;omega
set_option maxHeartbeats 4000000 in
theorem a29 [MaxL] (v:Vw) (hz:vOk v) (h1:v.recs.length<=maxLen) (h2:v.sets.length<=maxLen):SC Tryz.prog 6 [k7 v] [] (.val (.b (JO v))) []:=by
 have l1:=lJ v.recs;have l2:=pK v.sets;unfold JO;refine cO Tryz.func6 rfl ?_;conv=>whnf
 apply gM<;>intro g1<;>conv=>whnf
 ·refine d6 ?_;have h9:((fP v.recs).length:Int)>20:=aB g1;rw[bN (by omega:¬v.recs.length<=20)];rfl
 apply gM<;>intro g2<;>conv=>whnf
 ·refine d6 ?_;have h9:((nK v.sets).length:Int)>70:=aB g2;rw[bN (by omega:¬v.sets.length<=70),iL];rfl
 have e1:v.recs.length<=20:=by have h9:¬((fP v.recs).length:Int)>20:=aA g1;omega
 have e2:v.sets.length<=70:=by have h9:¬((nK v.sets).length:Int)>70:=aA g2;omega
 rw[bC e1,bC e2];clear g1 g2;refine dH (fun q:Nat×Nat=>q.1<=v.recs.length/\q.2=((v.recs.take q.1).map rsz).sum/\(∀r∈v.recs.take q.1,decide (r.items.length<=20)=true)/\q.2<=q.1*6051711999279104) (fun q=>[(1,.ptr 0 0),(3,.i .i64 (q.2:Nat)),(4,.i .i64 (q.1:Nat))]) (fun _=>⟨[.box 30 (j9 v)],0,[]⟩) (fun q=>v.recs.length - q.1) (0,0) ⟨zL _,rfl,(fun r hr=>by cases hr),zL _⟩ ⟨rfl,rfl,rfl,trivial⟩ rfl (fun _ _=>rL _) (fun _ _=>rfl) (fun i _ e he=>?_) (fun q φ0 hi=>?_)
 ·refine⟨by show[GObj.ren e _]=_;rw[zG],rfl,?_⟩;show[GV.ptr (e 0) 0,_,_]=_;rw[he 0 (by simp)];rfl
 obtain⟨i,n⟩:=q;obtain⟨hi,hn,hall,hnb⟩:=hi;replace hi:i<=v.recs.length:=hi;replace hn:n=((v.recs.take i).map rsz).sum:=hn;replace hall:∀r∈v.recs.take i,decide (r.items.length<=20)=true:=hall;replace hnb:n<=i*6051711999279104:=hnb;conv=>whnf
 apply gM<;>intro h<;>conv=>whnf
 rotate_left
 ·have hie:i=v.recs.length:=by have h9:¬((i:Nat):Int)<((fP v.recs).length:Nat):=aA h;omega
  rw[hie,aV] at hall hn;rw[List.all_eq_true.2 hall];clear h;refine dH (fun q:Nat×Nat=>q.1<=v.sets.length/\q.2=n+((v.sets.take q.1).map MC).sum) (fun q=>[(1,.ptr 0 0),(3,.i .i64 (q.2:Nat)),(7,.i .i64 (q.1:Nat))]) (fun _=>⟨[.box 30 (j9 v)],0,[]⟩) (fun q=>v.sets.length - q.1) (0,n) ⟨zL _,rfl⟩ ⟨rfl,rfl,rfl,trivial⟩ rfl (fun _ _=>rL _) (fun _ _=>rfl) (fun i _ e he=>?_) (fun q φ0 hi=>?_)
  ·refine⟨by show[GObj.ren e _]=_;rw[zG],rfl,?_⟩;show[GV.ptr (e 0) 0,_,_]=_;rw[he 0 (by simp)];rfl
  obtain⟨k,m⟩:=q;obtain⟨hk,hm⟩:=hi;replace hk:k<=v.sets.length:=hk;replace hm:m=n+((v.sets.take k).map MC).sum:=hm;conv=>whnf
  apply gM<;>intro h<;>conv=>whnf
  rotate_left
  ·have hke:k=v.sets.length:=by have h9:¬((k:Nat):Int)<((nK v.sets).length:Nat):=aA h;omega
   rw[hke,aV,hn] at hm;refine d6 ?_;show decide (((m:Nat):Int)<=5000)=(true&&true&&true&&decide (vsz v<=5000));unfold vsz;rw[<-hm,dQ];simp;omega
  have hlt:k<v.sets.length:=by have h9:((k:Nat):Int)<((nK v.sets).length:Nat):=aB h;omega
  have hex:∃p,v.sets[k]?=some p:=⟨v.sets[k],gL hlt⟩;refine hex.elim (fun p hp=>?_);have hg:=a2F hp;have hs:=vQ (f:=MC) hp;have hsl:=HG (v.sets.take (k+1)) (fun q hq=>hz.2 q (List.mem_of_mem_take hq));rw[aS] at hsl;have hps:MC p=p.1.length+p.2.length:=rfl;have w1:GV.i .i64 (IntKind.i64.wrap (IntKind.i64.wrap (((m:Nat):Int)+((p.1.length:Nat):Int))+((p.2.length:Nat):Int)))=.i .i64 ((m+MC p:Nat):Int):=by
   rw[BY (by omega),BY (by omega),hps,Nat.add_assoc]
  refine lQ ?_;conv=>whnf
  refine⟨jR _,_,hg,rfl,?_⟩;conv=>whnf
  refine⟨jR _,_,hg,rfl,?_⟩;conv=>whnf
  exact⟨v.sets.length - (k+1),(by show _<v.sets.length - k;omega),(k+1,m+MC p),⟨hlt,by show m+MC p=_;rw[hs,hm,Nat.add_assoc]⟩,rfl,⟨rfl,w1,bH (by omega),trivial⟩,[],rfl,rfl⟩
 have hlt:i<v.recs.length:=by have h9:((i:Nat):Int)<((fP v.recs).length:Nat):=aB h;omega
 have hex:∃r,v.recs[i]?=some r:=⟨v.recs[i],gL hlt⟩;refine hex.elim (fun r hr=>?_);have hg:=a1K hr;have l3:=pK r.items;have hs:=vQ (f:=rsz) hr;have hro:=hz.1 r (aE hr);have hrs:rsz r=r.name.length+r.of.length+r.only.length+(r.items.map MC).sum:=rfl;have bad:¬r.items.length<=20->(v.recs.all fun r=>decide (r.items.length<=20))=false:=fun q=>List.all_eq_false.2 ⟨r,aE hr,by simpa using q⟩;have nxt:=a0s (p:=fun r:VwR=>decide (r.items.length<=20)) hr hall;refine⟨jR _,_,hg,rfl,?_⟩;conv=>whnf
 refine sT ?_;conv=>whnf
 apply gM<;>intro g3<;>conv=>whnf
 ·refine d6 ?_;have h9:((nK r.items).length:Int)>20:=aB g3;rw[bad (by omega)];rfl
 have h20:r.items.length<=20:=by have h9:¬((nK r.items).length:Int)>20:=aA g3;omega
 have nx:=nxt (bC h20);have hrl:=a5v hro h20;have w0:GV.i .i64 (IntKind.i64.wrap (IntKind.i64.wrap (IntKind.i64.wrap (((n:Nat):Int)+((r.name.length:Nat):Int))+((r.of.length:Nat):Int))+((r.only.length:Nat):Int)))=.i .i64 ((n+r.name.length+r.of.length+r.only.length:Nat):Int):=by
  rw[BY (by omega),BY (by omega),BY (by omega)]
 clear bad nxt g3 hall;refine dH (fun q:Nat×Nat=>q.1<=r.items.length/\q.2=n+r.name.length+r.of.length+r.only.length+((r.items.take q.1).map MC).sum) (fun q=>[(1,.ptr 0 0),(3,.i .i64 (q.2:Nat)),(4,.i .i64 (i:Nat)),(5,.ptr 1 0),(6,.i .i64 (q.1:Nat))]) (fun _=>⟨[.box 30 (j9 v),.box 74 (rM r)],0,[]⟩) (fun q=>r.items.length - q.1) (0,n+r.name.length+r.of.length+r.only.length) ⟨zL _,rfl⟩ ⟨rfl,w0,rfl,rfl,rfl,trivial⟩ rfl (fun _ _=>rL _) (fun _ _=>rfl) (fun k _ e he=>?_) (fun q φ1 hk=>?_)
 ·refine⟨by show[GObj.ren e _,GObj.ren e _]=_;rw[zG,U6],rfl,?_⟩;show[GV.ptr (e 0) 0,_,_,GV.ptr (e 1) 0,_]=_;rw[he 0 (by simp),he 1 (by simp)];rfl
 clear h;obtain⟨k,m⟩:=q;obtain⟨hk,hm⟩:=hk;replace hk:k<=r.items.length:=hk;replace hm:m=n+r.name.length+r.of.length+r.only.length+((r.items.take k).map MC).sum:=hm;conv=>whnf
 apply gM<;>intro h<;>conv=>whnf
 rotate_left
 ·have hke:k=r.items.length:=by have h9:¬((k:Nat):Int)<((nK r.items).length:Nat):=aA h;omega
  rw[hke,aV] at hm;exact⟨v.recs.length - (i+1),(by show _<v.recs.length - i;omega),(i+1,m),⟨hlt,by show m=_;rw[hs,<-hn,hm,hrs];omega,nx,by show m<=(i+1)*6051711999279104;omega⟩,rfl,⟨rfl,rfl,bH (by omega),trivial⟩,[_],rfl,rfl⟩
 have hkl2:k<r.items.length:=by have h9:((k:Nat):Int)<((nK r.items).length:Nat):=aB h;omega
 have CD:∃p,r.items[k]?=some p:=⟨r.items[k],gL hkl2⟩;refine CD.elim (fun p hp=>?_);have hgp:=a2F hp;have hs2:=vQ (f:=MC) hp;have hsl2:=HG (r.items.take (k+1)) (fun q hq=>hro.2.2.2 q (List.mem_of_mem_take hq));rw[aS] at hsl2;have hps:MC p=p.1.length+p.2.length:=rfl;have w1:GV.i .i64 (IntKind.i64.wrap (IntKind.i64.wrap (((m:Nat):Int)+((p.1.length:Nat):Int))+((p.2.length:Nat):Int)))=.i .i64 ((m+MC p:Nat):Int):=by
  rw[BY (by omega),BY (by omega),hps,Nat.add_assoc]
 refine lQ ?_;conv=>whnf
 refine⟨jR _,_,hgp,rfl,?_⟩;conv=>whnf
 refine⟨jR _,_,hgp,rfl,?_⟩;conv=>whnf
 exact⟨r.items.length - (k+1),(by show _<r.items.length - k;omega),(k+1,m+MC p),⟨hkl2,by show m+MC p=_;rw[hs2,hm,Nat.add_assoc]⟩,rfl,⟨rfl,w1,rfl,rfl,bH (by omega),trivial⟩,[],rfl,rfl⟩
end
