/-
  A part of the proof of SchemaFinds.
-/
import Derived.Test.YtcfgfkkhpdlhpaaGreatDoorT47
import Derived.HandedShaped
import Derived.Shelf.Vars
import Derived.Test.YtcfgfkkhpdlhpaaGreatDoorTie
import Derived.Test.YtcfgfkkhpdlhpaaGreatDoorCards
import Derived.Carry
import Derived.Lay
set_option linter.all false
set_option maxRecDepth 100000
namespace Go.Proofs.YtcfgfkkhpdlhpaaGreatDoor
open Go Go.ChangeShapes Go.WideShapes Go.RowKit
theorem RV {α:Type} {Q:Nat->α->Prop}:∀n,(∀i,i<n->∃a,Q i a)->∃l:List α,l.length=n/\∀i a,l[i]?=some a->Q i a
 |0,_=>⟨[],rfl,fun i a h=>by simp at h⟩
 |n+1,h=>by
  obtain⟨l,hl,hq⟩:=RV n (fun i hi=>h i (by omega));obtain⟨a,ha⟩:=h n (by omega);refine⟨l++[a],by simp[hl],fun i b hb=>?_⟩;rcases Nat.lt_trichotomy i n with hi|rfl|hi
  ·rw[aT (by omega)] at hb;exact hq i b hb
  ·rw[bF (by omega),hl] at hb;simp at hb;subst hb;exact ha
  ·rw[b6 (by simp;omega)] at hb;cases hb
theorem J6 (b off n:Nat):(⟨b,off,none⟩:Addr).add n=⟨b,off+n,none⟩:=by
 unfold Addr.add;split
 ·rename_i h;subst h;rfl
 ·rfl
theorem UI {W:World} {a:Addr} {u:Value} (h:W.cell? a=some u):a.spot=none:=by
 obtain⟨ab,ao,asp⟩:=a;unfold World.cell? at h;split at h
 ·simp only at h;split at h
  ·cases h
  ·rename_i h0;simpa using h0
 ·cases h
theorem QQ {W:World} {base:Nat} {a:Addr} {n:Nat} {l:List Value} (h:W.cells? base (a.add 0) (n+1)=some l):a.spot=none:=by
 obtain⟨_,hn,hh⟩:=World.cells?_some h;have h0:=hh 0 (Nat.succ_pos n);have hl:l[0]?=some (l[0]'(by omega)):=gL (by omega);rw[hl] at h0;exact UI (show W.cell? a=_ from h0)
section
variable {H : Type} {enc : TypeId × Value → H} {P : Program} {W : World} {held : Bool}
theorem RQ {e:TypeId} {d:DataW H} {m:Nat} (hm:m∈d.weights P e):∀{l:List (DataW H)},d∈l->m∈DataW.weightsAll P e l
 |x::l,h=>by
  unfold DataW.weightsAll;rcases List.mem_cons.1 h with rfl|h
  ·exact eR _ hm
  ·exact List.mem_append_right _ (RQ hm h)
theorem A6 {m:Nat}:∀{ts:List TypeId} {l:List (DataW H)} {i:Nat} {t:TypeId} {d:DataW H},ts[i]?=some t->l[i]?=some d->m∈d.weights P t->m∈DataW.weightsEach P ts l
 |t0::ts,d0::l,i,t,d,h1,h2,hm=>by
  unfold DataW.weightsEach;cases i with
  |zero=>cases h1;cases h2;exact eR _ hm
  |succ i=>exact List.mem_append_right _ (A6 h1 h2 hm)
def sV (P:Program) (t:TypeId) (d:DataW H):Prop:=∀m∈d.weights P t,m<=reachBytes
theorem PD {t:TypeId} {fs:Array Field} {xs:List (DataW H×List MemPlace)} (hu:P.underlying t=some (.struct fs)) (hw:sV P t (.agg (xs.map (·.1)))) {i:Nat} {f:Field} (hf:fs[i]?=some f) {y:DataW H×List MemPlace} (hy:xs[i]?=some y):sV P f.type y.1:=fun m hm=>by
 refine hw m ?_;unfold DataW.weights;rw[hu];refine A6 (i:=i) (t:=f.type) (d:=y.1) ?_ ?_ hm
 ·show(fs.toList.map (·.type))[i]?=_;rw[aM,dB,hf];rfl
 ·rw[aM,hy];rfl
theorem T0 [MaxL] {α:Type} (Q:α->Prop) (gv:α->GV) {t e:TypeId} {cs:List Value} {jY:Nat} {x:DataW H×List MemPlace}
  (ht:P.underlying t=some (.slice e)) {esz:Nat} (hc:P.cellsOf e=esz+1)
  (elem:∀(n:Nat) cs x,DataW.trod enc P W 0 (fun _=>true) held n e cs=some x->sV P e x.1->∃a:α,Q a/\cs.length=esz+1/\∀(j:Nat) g u,(gv a).cells[j]?=some g->cs[j]?=some u->VR (C0 W) g u)
  (hg:∀a,(gv a).cells.length=esz+1)
  (hd:DataW.trod enc P W 0 (fun _=>true) held jY t cs=some x) (hw:sV P t x.1):
  ∃l:List α,l.length<=maxLen/\(∀a∈l,Q a)/\∃v,cs=[v]/\VR (C0 W) (.sl .none (l.map gv)) v:=by
 rcases DataW.trod_slice ht hd with⟨hcs,_⟩|⟨a,len,cap,elems,rest,n,_,hcs,hx,hb,hl,hm,hlen,hel,hsp,_⟩
 ·exact⟨[],zL _,(fun a ha=>by cases ha),_,hcs,.sl 0 0 0 (fun _=>.bool false) rfl (rL _) (.inl ⟨rfl,rfl⟩) (by simp) (by simp) (by simp) trivial⟩
 ·have hspot:cap=0∨a.spot=none:=by
   by_cases h0:cap=0
   ·exact .inl h0
   ·right;by_cases h1:0<len
    ·have h2:=hel 0 h1;have hy:elems[0]?=some (elems[0]'(by omega)):=gL (by omega);rw[hy,Option.bind_eq_some_iff,hc] at h2;obtain⟨cs',h3,_⟩:=h2;rw[Nat.zero_mul] at h3;exact QQ h3
    ·obtain⟨hr1,hr2⟩:=hsp rfl;have h2:=hr2 0 (by omega);have hy:rest[0]?=some (rest[0]'(by omega)):=gL (by omega);rw[hy,Option.bind_eq_some_iff,hc] at h2;obtain⟨cs',h3,_⟩:=h2;rw[show len+0=0 by omega,Nat.zero_mul] at h3;exact QQ h3
  obtain⟨b,off,spot⟩:=a;obtain⟨l,hll,hq⟩:=RV (Q:=fun i (y:α)=>Q y/\∃cs',W.cells? 0 ((⟨b,off,spot⟩:Addr).add (i*(esz+1))) (esz+1)=some cs'/\cs'.length=esz+1/\∀(j:Nat) g u,(gv y).cells[j]?=some g->cs'[j]?=some u->VR (C0 W) g u) len (fun i hi=>by
   have h1:=hel i hi;have hy:elems[i]?=some (elems[i]'(by omega)):=gL (by omega);rw[hy,Option.bind_eq_some_iff,hc] at h1;obtain⟨cs',h1,h2⟩:=h1;have hw2:sV P e (elems[i]'(by omega)).1:=fun m hm=>by
    refine hw m ?_;rw[hx];show m∈DataW.weights P t (.slice _ _);unfold DataW.weights;rw[ht];exact f6 _ (eR _ (RQ hm (List.mem_map_of_mem (eI _))))
   obtain⟨y,hQ,hcl,hvr⟩:=elem _ _ _ h2 hw2;exact⟨y,hQ,cs',h1,hcl,hvr⟩)
  refine⟨l,by omega,fun y hy=>?_,_,hcs,?_⟩
  ·obtain⟨i,hi⟩:=List.mem_iff_getElem?.1 hy;exact(hq i y hi).1
  have hcell:∀(i:Nat) y (j:Nat) g,l[i]?=some y->(gv y).cells[j]?=some g->∃u,W.cell? ⟨b,off+i*(esz+1)+j,none⟩=some u/\VR (C0 W) g u:=fun i y j g hi hj=>by
   obtain⟨_,cs',h1,h2,h3⟩:=hq i y hi;have hilt:i<l.length:=(List.getElem?_eq_some_iff.1 hi).1;have hs:spot=none:=by
    rcases hspot with q|q
    ·omega
    ·exact q
   subst hs;have hjl:j<esz+1:=by rw[<-hg y];exact(List.getElem?_eq_some_iff.1 hj).1
   have hu:cs'[j]?=some (cs'[j]'(by omega)):=gL (by omega);obtain⟨_,hn,hh⟩:=World.cells?_some h1;have:=hh j hjl;rw[J6,J6,hu] at this;exact⟨_,this,h3 j g _ hj hu⟩
  refine .sl (esz+1) b off (fun k=>(W.cell? ⟨b,off+k,none⟩).getD (.bool false)) (by simp[hll]) hl ?_ (fun x hx=>?_) (fun i x j g hx hj=>?_) (fun i x j g hx hj=>?_) trivial
  ·rcases hspot with q|q
   ·exact .inr (.inr q)
   ·simp only at q;subst q;exact .inr (.inl rfl)
  ·obtain⟨y,_,rfl⟩:=List.mem_map.1 hx;exact hg y
  all_goals
   rw[aM] at hx;obtain⟨y,hy,rfl⟩:=Option.map_eq_some_iff.1 hx;obtain⟨u,h1,h2⟩:=hcell i y j g hy hj;rw[<-Nat.add_assoc,h1,Option.getD_some]
  ·exact h1
  ·exact h2
end
section
variable {H : Type} {enc : TypeId × Value → H} {P : Program} {W : World} {held : Bool}
def Op [MaxL] (enc:TypeId×Value->H) (P:Program) (W:World) (held:Bool) (t:TypeId) {α:Type} (Q:α->Prop) (gc:α->List GV):Prop:=
 ∀(n:Nat) cs (x:DataW H×List MemPlace),DataW.trod enc P W 0 (fun _=>true) held n t cs=some x->sV P t x.1->∃a,Q a/\VRs (C0 W) (gc a) cs
theorem Op.slice [MaxL] {α:Type} {Q:α->Prop} {gc:α->List GV} {t e:TypeId} (ht:P.underlying t=some (.slice e)) {esz:Nat} (hc:P.cellsOf e=esz+1) (hg:∀a,(gc a).length=esz+1) (h:Op enc P W held e Q gc) (gv:α->GV) (hv:∀a,(gv a).cells=gc a):
  Op enc P W held t (fun l:List α=>∀a∈l,Q a) (fun l=>[.sl .none (l.map gv)]):=fun n cs x hd hw=>by
 obtain⟨l,_,hq,v,rfl,hr⟩:=T0 Q gv ht hc (fun n cs x h1 h2=>by
  obtain⟨a,h3,h4,h5⟩:=h n cs x h1 h2;exact⟨a,h3,by rw[h4,hg],by rw[hv];exact h5⟩) (fun a=>by rw[hv,hg]) hd hw
 exact⟨l,hq,.cons hr .nil⟩
theorem zE [MaxL] {t:TypeId} {fs:Array Field} {xs:List (DataW H×List MemPlace)} {m:Nat} {cs:List Value} (hu:P.underlying t=some (.struct fs)) (hw:sV P t (.agg (xs.map (·.1)))) (hxs:xs.length=fs.size)
  (hf:∀(i:Nat) f,fs[i]?=some f->DataW.trod enc P W 0 (fun _=>true) held m f.type ((cs.drop f.offset).take (P.cellsOf f.type))=xs[i]?) {i:Nat} {f:Field} {c:Value} {α:Type} {Q:α->Prop} {gc:α->List GV} (hfi:fs[i]?=some f) (ho:f.offset=i) (h1:P.cellsOf f.type=1) (hc:cs[i]?=some c)
  (h:Op enc P W held f.type Q gc):∃a,Q a/\VRs (C0 W) (gc a) [c]:=by
 have h2:=hf i f hfi;have hi:i<xs.length:=by rw[hxs];exact(Array.getElem?_eq_some_iff.1 hfi).1
 have hy:xs[i]?=some xs[i]:=gL hi;rw[ho,h1,hy] at h2;have e:(cs.drop i).take 1=[c]:=by
  obtain⟨h3,h4⟩:=List.getElem?_eq_some_iff.1 hc;rw[aX h3,h4];rfl
 rw[e] at h2;exact h _ _ _ h2 (PD hu hw hfi hy)
end
theorem VRs.one [MaxL] {C:Cx} {g:GV} {v:Value} {gs:List GV} {vs:List Value} (a:VRs C [g] [v]) (b:VRs C gs vs):VRs C (g::gs) (v::vs):=.cons (a.2 0 g v rfl rfl) b
theorem YR:Tryz.prog.underlying 3=some (.int .i64):=by kernel_rfl
section
variable [MaxL] {H : Type} {enc : TypeId × Value → H} {W : World} {held : Bool}
theorem qZ [MaxL]:Op enc Tryz.prog W held 9 (fun z:List UInt8=>z.length<=cap) (fun z=>[.s z]):=fun n cs x h hw=>by
 obtain⟨z,rfl,hy,_⟩:=DataW.trod_string J8 h;have hl:z.data.toList.length<=reachBytes:=hw _ (by rw[hy];unfold DataW.weights;simp);refine⟨z.data.toList,e8 hl (by decide),.cons ?_ .nil⟩;have:z=⟨z.data.toList.toArray⟩:=by simp
 exact this▸VR.s z.data.toList
theorem sI [MaxL]:Op enc Tryz.prog W held 3 (fun _:Int=>True) (fun k=>[.i .i64 k]):=fun n cs x h hw=>by
 obtain⟨z,rfl,_⟩:=DataW.trod_int YR h;exact⟨z,trivial,.cons (.i _ _) .nil⟩
theorem JW [MaxL]:Op enc Tryz.prog W held 4 (fun _:Bool=>True) (fun b=>[.b b]):=fun n cs x h hw=>by
 obtain⟨z,rfl,_⟩:=DataW.trod_bool LR h;exact⟨z,trivial,.cons (.b _) .nil⟩
theorem R9 [MaxL]:Op enc Tryz.prog W held 33 (fun l:List (List UInt8)=>∀a∈l,a.length<=cap) (fun l=>[.sl .none (aZ l)]):=Op.slice (by kernel_rfl) (esz:=0) (by kernel_rfl) (fun _=>rfl) qZ GV.s (fun _=>rfl)
theorem AZ:Tryz.prog.underlying 80=some (.struct #[{name:= "Name",type:=9,offset:=0,embedded:=false,tag:= "",pkgPath:= "",byteOffset:=0},{name:= "Kind",type:=3,offset:=1,embedded:=false,tag:= "",pkgPath:= "",byteOffset:=16},{name:= "Low",type:=3,offset:=2,embedded:=false,tag:= "",pkgPath:= "",byteOffset:=24},{name:= "High",type:=3,offset:=3,embedded:=false,tag:= "",pkgPath:= "",byteOffset:=32},{name:= "Len",type:=3,offset:=4,embedded:=false,tag:= "",pkgPath:= "",byteOffset:=40}]):=by kernel_rfl
theorem a2i [MaxL]:Op enc Tryz.prog W held 80 (fun _=>True) Itm.cs:=fun n cs x h hw=>by
 obtain⟨xs,m,_,rfl,hlen,hxs,hf⟩:=DataW.trod_struct AZ h;rw[show Tryz.prog.cellsOf 80=5 by kernel_rfl] at hlen
 match cs,hlen with
 |[c0,c1,c2,c3,c4],_=>
 obtain⟨a0,q0,v0⟩:=zE AZ hw hxs hf (i:=0) rfl rfl (by kernel_rfl) rfl qZ;obtain⟨a1,q1,v1⟩:=zE AZ hw hxs hf (i:=1) rfl rfl (by kernel_rfl) rfl sI;obtain⟨a2,q2,v2⟩:=zE AZ hw hxs hf (i:=2) rfl rfl (by kernel_rfl) rfl sI;obtain⟨a3,q3,v3⟩:=zE AZ hw hxs hf (i:=3) rfl rfl (by kernel_rfl) rfl sI;obtain⟨a4,q4,v4⟩:=zE AZ hw hxs hf (i:=4) rfl rfl (by kernel_rfl) rfl sI;exact⟨⟨a0,a1,a2,a3,a4⟩,trivial,.one v0 (.one v1 (.one v2 (.one v3 (.one v4 .nil))))⟩
theorem a1l [MaxL]:Op enc Tryz.prog W held 32 (fun l:List Itm=>∀a∈l,(fun _=>True) a) (fun l=>[.sl .none (l.map Itm.gv)]):=Op.slice (by kernel_rfl) (esz:=4) (by kernel_rfl) (fun _=>rfl) a2i Itm.gv (fun _=>rfl)
theorem OI:Tryz.prog.underlying 74=some (.struct #[{name:= "Name",type:=9,offset:=0,embedded:=false,tag:= "",pkgPath:= "",byteOffset:=0},{name:= "Pages",type:=3,offset:=1,embedded:=false,tag:= "",pkgPath:= "",byteOffset:=16}]):=by kernel_rfl
theorem a2j [MaxL]:Op enc Tryz.prog W held 74 (fun a:Ar=>a.name.length<=cap) arC:=fun n cs x h hw=>by
 obtain⟨xs,m,_,rfl,hlen,hxs,hf⟩:=DataW.trod_struct OI h;rw[show Tryz.prog.cellsOf 74=2 by kernel_rfl] at hlen
 match cs,hlen with
 |[c0,c1],_=>
 obtain⟨a0,q0,v0⟩:=zE OI hw hxs hf (i:=0) rfl rfl (by kernel_rfl) rfl qZ;obtain⟨a1,q1,v1⟩:=zE OI hw hxs hf (i:=1) rfl rfl (by kernel_rfl) rfl sI;exact⟨⟨a0,a1⟩,q0,.one v0 (.one v1 .nil)⟩
theorem a1m [MaxL]:Op enc Tryz.prog W held 22 (fun l:List Ar=>∀a∈l,(fun a:Ar=>a.name.length<=cap) a) (fun l=>[.sl .none (l.map arG)]):=Op.slice (by kernel_rfl) (esz:=1) (by kernel_rfl) (fun _=>rfl) a2j arG (fun _=>rfl)
theorem uH:Tryz.prog.underlying 35=some (.struct #[{name:= "Name",type:=9,offset:=0,embedded:=false,tag:= "",pkgPath:= "",byteOffset:=0},{name:= "Area",type:=9,offset:=1,embedded:=false,tag:= "",pkgPath:= "",byteOffset:=16},{name:= "Items",type:=32,offset:=2,embedded:=false,tag:= "",pkgPath:= "",byteOffset:=32},{name:= "Place",type:=3,offset:=3,embedded:=false,tag:= "",pkgPath:= "",byteOffset:=56},{name:= "Keys",type:=33,offset:=4,embedded:=false,tag:= "",pkgPath:= "",byteOffset:=64},{name:= "Dups",type:=4,offset:=5,embedded:=false,tag:= "",pkgPath:= "",byteOffset:=88},{name:= "Via",type:=9,offset:=6,embedded:=false,tag:= "",pkgPath:= "",byteOffset:=96},{name:= "Check",type:=9,offset:=7,embedded:=false,tag:= "",pkgPath:= "",byteOffset:=112}]):=by kernel_rfl
theorem a2f [MaxL]:Op enc Tryz.prog W held 35 (fun r:Rc=>r.name.length<=cap/\r.area.length<=cap/\r.via.length<=cap/\r.check.length<=cap) YM:=fun n cs x h hw=>by
 obtain⟨xs,m,_,rfl,hlen,hxs,hf⟩:=DataW.trod_struct uH h;rw[show Tryz.prog.cellsOf 35=8 by kernel_rfl] at hlen
 match cs,hlen with
 |[c0,c1,c2,c3,c4,c5,c6,c7],_=>
 obtain⟨a0,q0,v0⟩:=zE uH hw hxs hf (i:=0) rfl rfl (by kernel_rfl) rfl qZ;obtain⟨a1,q1,v1⟩:=zE uH hw hxs hf (i:=1) rfl rfl (by kernel_rfl) rfl qZ;obtain⟨a2,q2,v2⟩:=zE uH hw hxs hf (i:=2) rfl rfl (by kernel_rfl) rfl a1l;obtain⟨a3,q3,v3⟩:=zE uH hw hxs hf (i:=3) rfl rfl (by kernel_rfl) rfl sI;obtain⟨a4,q4,v4⟩:=zE uH hw hxs hf (i:=4) rfl rfl (by kernel_rfl) rfl R9;obtain⟨a5,q5,v5⟩:=zE uH hw hxs hf (i:=5) rfl rfl (by kernel_rfl) rfl JW;obtain⟨a6,q6,v6⟩:=zE uH hw hxs hf (i:=6) rfl rfl (by kernel_rfl) rfl qZ;obtain⟨a7,q7,v7⟩:=zE uH hw hxs hf (i:=7) rfl rfl (by kernel_rfl) rfl qZ;exact⟨⟨a0,a1,a2,a3,a4,a5,a6,a7⟩,⟨q0,q1,q6,q7⟩,.one v0 (.one v1 (.one v2 (.one v3 (.one v4 (.one v5 (.one v6 (.one v7 .nil)))))))⟩
theorem a1i [MaxL]:Op enc Tryz.prog W held 23 (fun l:List Rc=>∀a∈l,(fun r:Rc=>r.name.length<=cap/\r.area.length<=cap/\r.via.length<=cap/\r.check.length<=cap) a) (fun l=>[.sl .none (l.map OC)]):=Op.slice (by kernel_rfl) (esz:=7) (by kernel_rfl) (fun _=>rfl) a2f OC (fun _=>rfl)
theorem EJ:Tryz.prog.underlying 46=some (.struct #[{name:= "Record",type:=9,offset:=0,embedded:=false,tag:= "",pkgPath:= "",byteOffset:=0},{name:= "Auto",type:=4,offset:=1,embedded:=false,tag:= "",pkgPath:= "",byteOffset:=16},{name:= "Keep",type:=3,offset:=2,embedded:=false,tag:= "",pkgPath:= "",byteOffset:=24},{name:= "Select",type:=33,offset:=3,embedded:=false,tag:= "",pkgPath:= "",byteOffset:=32}]):=by kernel_rfl
theorem a2g [MaxL]:Op enc Tryz.prog W held 46 (fun m:Mb=>m.of.length<=cap) mbC:=fun n cs x h hw=>by
 obtain⟨xs,m,_,rfl,hlen,hxs,hf⟩:=DataW.trod_struct EJ h;rw[show Tryz.prog.cellsOf 46=4 by kernel_rfl] at hlen
 match cs,hlen with
 |[c0,c1,c2,c3],_=>
 obtain⟨a0,q0,v0⟩:=zE EJ hw hxs hf (i:=0) rfl rfl (by kernel_rfl) rfl qZ;obtain⟨a1,q1,v1⟩:=zE EJ hw hxs hf (i:=1) rfl rfl (by kernel_rfl) rfl JW;obtain⟨a2,q2,v2⟩:=zE EJ hw hxs hf (i:=2) rfl rfl (by kernel_rfl) rfl sI;obtain⟨a3,q3,v3⟩:=zE EJ hw hxs hf (i:=3) rfl rfl (by kernel_rfl) rfl R9;exact⟨⟨a0,a1,a2,a3⟩,q0,.one v0 (.one v1 (.one v2 (.one v3 .nil)))⟩
theorem a1j [MaxL]:Op enc Tryz.prog W held 36 (fun l:List Mb=>∀a∈l,(fun m:Mb=>m.of.length<=cap) a) (fun l=>[.sl .none (l.map YO)]):=Op.slice (by kernel_rfl) (esz:=3) (by kernel_rfl) (fun _=>rfl) a2g YO (fun _=>rfl)
theorem OH:Tryz.prog.underlying 78=some (.struct #[{name:= "Item",type:=9,offset:=0,embedded:=false,tag:= "",pkgPath:= "",byteOffset:=0},{name:= "Down",type:=4,offset:=1,embedded:=false,tag:= "",pkgPath:= "",byteOffset:=16}]):=by kernel_rfl
theorem a2h [MaxL]:Op enc Tryz.prog W held 78 (fun y:Ky=>y.item.length<=cap) XC:=fun n cs x h hw=>by
 obtain⟨xs,m,_,rfl,hlen,hxs,hf⟩:=DataW.trod_struct OH h;rw[show Tryz.prog.cellsOf 78=2 by kernel_rfl] at hlen
 match cs,hlen with
 |[c0,c1],_=>
 obtain⟨a0,q0,v0⟩:=zE OH hw hxs hf (i:=0) rfl rfl (by kernel_rfl) rfl qZ;obtain⟨a1,q1,v1⟩:=zE OH hw hxs hf (i:=1) rfl rfl (by kernel_rfl) rfl JW;exact⟨⟨a0,a1⟩,q0,.one v0 (.one v1 .nil)⟩
theorem a1k [MaxL]:Op enc Tryz.prog W held 37 (fun l:List Ky=>∀a∈l,(fun y:Ky=>y.item.length<=cap) a) (fun l=>[.sl .none (l.map kyG)]):=Op.slice (by kernel_rfl) (esz:=1) (by kernel_rfl) (fun _=>rfl) a2h kyG (fun _=>rfl)
theorem vY:Tryz.prog.underlying 39=some (.struct #[{name:= "Name",type:=9,offset:=0,embedded:=false,tag:= "",pkgPath:= "",byteOffset:=0},{name:= "Owner",type:=9,offset:=1,embedded:=false,tag:= "",pkgPath:= "",byteOffset:=16},{name:= "Members",type:=36,offset:=2,embedded:=false,tag:= "",pkgPath:= "",byteOffset:=32},{name:= "Order",type:=3,offset:=3,embedded:=false,tag:= "",pkgPath:= "",byteOffset:=56},{name:= "Keys",type:=37,offset:=4,embedded:=false,tag:= "",pkgPath:= "",byteOffset:=64},{name:= "Dups",type:=3,offset:=5,embedded:=false,tag:= "",pkgPath:= "",byteOffset:=88},{name:= "Mode",type:=3,offset:=6,embedded:=false,tag:= "",pkgPath:= "",byteOffset:=96}]):=by kernel_rfl
theorem a2d [MaxL]:Op enc Tryz.prog W held 39 (fun t:Sy=>t.name.length<=cap/\t.owner.length<=cap/\(∀m∈t.ms,m.of.length<=cap)/\∀y∈t.keys,y.item.length<=cap) H9:=fun n cs x h hw=>by
 obtain⟨xs,m,_,rfl,hlen,hxs,hf⟩:=DataW.trod_struct vY h;rw[show Tryz.prog.cellsOf 39=7 by kernel_rfl] at hlen
 match cs,hlen with
 |[c0,c1,c2,c3,c4,c5,c6],_=>
 obtain⟨a0,q0,v0⟩:=zE vY hw hxs hf (i:=0) rfl rfl (by kernel_rfl) rfl qZ;obtain⟨a1,q1,v1⟩:=zE vY hw hxs hf (i:=1) rfl rfl (by kernel_rfl) rfl qZ;obtain⟨a2,q2,v2⟩:=zE vY hw hxs hf (i:=2) rfl rfl (by kernel_rfl) rfl a1j;obtain⟨a3,q3,v3⟩:=zE vY hw hxs hf (i:=3) rfl rfl (by kernel_rfl) rfl sI;obtain⟨a4,q4,v4⟩:=zE vY hw hxs hf (i:=4) rfl rfl (by kernel_rfl) rfl a1k;obtain⟨a5,q5,v5⟩:=zE vY hw hxs hf (i:=5) rfl rfl (by kernel_rfl) rfl sI;obtain⟨a6,q6,v6⟩:=zE vY hw hxs hf (i:=6) rfl rfl (by kernel_rfl) rfl sI;exact⟨⟨a0,a1,a2,a3,a4,a5,a6⟩,⟨q0,q1,q2,q4⟩,.one v0 (.one v1 (.one v2 (.one v3 (.one v4 (.one v5 (.one v6 .nil))))))⟩
theorem a1h [MaxL]:Op enc Tryz.prog W held 24 (fun l:List Sy=>∀a∈l,(fun t:Sy=>t.name.length<=cap/\t.owner.length<=cap/\(∀m∈t.ms,m.of.length<=cap)/\∀y∈t.keys,y.item.length<=cap) a) (fun l=>[.sl .none (l.map xZ)]):=Op.slice (by kernel_rfl) (esz:=6) (by kernel_rfl) (fun _=>rfl) a2d xZ (fun _=>rfl)
theorem EI:Tryz.prog.underlying 26=some (.struct #[{name:= "Areas",type:=22,offset:=0,embedded:=false,tag:= "",pkgPath:= "",byteOffset:=0},{name:= "Records",type:=23,offset:=1,embedded:=false,tag:= "",pkgPath:= "",byteOffset:=24},{name:= "Sets",type:=24,offset:=2,embedded:=false,tag:= "",pkgPath:= "",byteOffset:=48}]):=by kernel_rfl
theorem a2e [MaxL]:Op enc Tryz.prog W held 26 (VT) lI:=fun n cs x h hw=>by
 obtain⟨xs,m,_,rfl,hlen,hxs,hf⟩:=DataW.trod_struct EI h;rw[show Tryz.prog.cellsOf 26=3 by kernel_rfl] at hlen
 match cs,hlen with
 |[c0,c1,c2],_=>
 obtain⟨a0,q0,v0⟩:=zE EI hw hxs hf (i:=0) rfl rfl (by kernel_rfl) rfl a1m;obtain⟨a1,q1,v1⟩:=zE EI hw hxs hf (i:=1) rfl rfl (by kernel_rfl) rfl a1i;obtain⟨a2,q2,v2⟩:=zE EI hw hxs hf (i:=2) rfl rfl (by kernel_rfl) rfl a1h;exact⟨⟨a0,a1,a2⟩,⟨q0,q1,q2⟩,.one v0 (.one v1 (.one v2 .nil))⟩
variable {r : Reach} {b0 : Nat} {v : Value} {d : DataW H} {ps : List MemPlace}
theorem T4 [MaxL] (hval:Value.okWide Tryz.prog W r b0 26 v) (hd:DataW.Trod enc Tryz.prog W 0 (fun _=>true) held 26 v d ps) (hw:sV Tryz.prog 26 d):∃s:Sch,VT s/\VR (C0 W) (lC s) v:=by
 have hag:∃cs,v=.agg cs:=by
  unfold Value.okWide at hval;rw[EI] at hval;obtain⟨cs,h,_⟩:=hval;exact⟨cs,h⟩
 obtain⟨cs,rfl⟩:=hag;obtain⟨jY,hf⟩:=hd;obtain⟨s,hs,hv⟩:=a2e jY _ _ hf hw;have hv':VRs (C0 W) (lI s) cs.toList:=hv;exact⟨s,hs,.agg (by simpa using hv'.1) fun j g u h1 h2=>hv'.2 j g u h1 (by simpa using h2)⟩
end
end Go.Proofs.YtcfgfkkhpdlhpaaGreatDoor
namespace Go.Proofs.YtcfgfkkhpdlhpaaGreatDoor
open Go Go.ChangeShapes Go.WideShapes Go.RowKit Go.ChangeMaps
def iv:GV->Option Int
 |.i _ n=>some n
 |_=>none
theorem a3D [MaxL] {W:World} (h:laidMetH Tryz.prog Rows.schemaWrongRow.laid W) (hm:W.cell? ⟨0,0,none⟩=some (.int .i64 MaxL.m)) (hms:∃c t fr,W.heap[(0:Nat)]?=some (.cells c t fr)/\c.size=1):a2J W:=by
 rw[MakeChecks.laidMetH_plain _ _ _ (by kernel_rfl)] at h;obtain⟨ps,⟨jA,tA,csA,fA,pA,qA,hjA,htA,hvA,hdA,⟨jB,tB,csB,fB,pB,qB,hjB,htB,hvB,hdB,⟨jC,tC,csC,fC,pC,qC,hjC,htC,hvC,hdC,⟨jD,tD,csD,fD,pD,qD,hjD,htD,hvD,hdD,⟨jE,tE,csE,fE,pE,qE,hjE,htE,hvE,hdE,⟨jF,tF,csF,fF,pF,qF,hjF,htF,hvF,hdF,⟨jG,tG,csG,fG,pG,qG,hjG,htG,hvG,hdG,eN,eG⟩,eF⟩,eE⟩,eD⟩,eC⟩,eB⟩,eA⟩,hnd,hrows⟩:=h;obtain rfl:=aY ((show Tryz.prog.globalNamed "math/bits.deBruijn32tab" =some 2 by kernel_rfl).symm.trans hjA);obtain rfl:=aY ((show(Tryz.prog.globals[(2:Nat)]?).map (·.type)=some 325 by kernel_rfl).symm.trans htA);obtain rfl:=aY ((show Tryz.prog.globalNamed "math/bits.deBruijn64tab" =some 3 by kernel_rfl).symm.trans hjB);obtain rfl:=aY ((show(Tryz.prog.globals[(3:Nat)]?).map (·.type)=some 326 by kernel_rfl).symm.trans htB);obtain rfl:=aY ((show Tryz.prog.globalNamed "internal/strconv.uint64pow10" =some 1 by kernel_rfl).symm.trans hjC);obtain rfl:=aY ((show(Tryz.prog.globals[(1:Nat)]?).map (·.type)=some 293 by kernel_rfl).symm.trans htC);obtain rfl:=aY ((show Tryz.prog.globalNamed "strconv.ErrRange" =some 5 by kernel_rfl).symm.trans hjE);obtain rfl:=aY ((show(Tryz.prog.globals[(5:Nat)]?).map (·.type)=some 94 by kernel_rfl).symm.trans htE);obtain rfl:=aY ((show Tryz.prog.globalNamed "strconv.ErrSyntax" =some 4 by kernel_rfl).symm.trans hjF);obtain rfl:=aY ((show(Tryz.prog.globals[(4:Nat)]?).map (·.type)=some 94 by kernel_rfl).symm.trans htF);obtain⟨lE⟩:=csE;have okE:∀u v,lE=[.iface u v]->Value.okWide Tryz.prog W .any 0 u v:=fun u v e=>by
  subst e;exact(hrows 5 0 (by rw[eA,eB,eC,eD,eE,eF,eG];simp[MemPlace.row])).2 u v (by simpa using World.var?_cell hjE hvE 0)
 obtain⟨lF⟩:=csF;have okF:∀u v,lF=[.iface u v]->Value.okWide Tryz.prog W .any 0 u v:=fun u v e=>by
  subst e;exact(hrows 4 0 (by rw[eA,eB,eC,eD,eE,eF,eG];simp[MemPlace.row])).2 u v (by simpa using World.var?_cell hjF hvF 0)
 have eF':=LS hjF hvF rfl hdF okF;have eE':=LS hjE hvE rfl hdE okE;have eC':=B0 (k:=.u64) (e:=256) (n:=20) (XB.filterMap iv) hjC hvC (by kernel_rfl) (by kernel_rfl) (by kernel_rfl) (by kernel_rfl) (by kernel_rfl) hdC;have eA':=B0 (k:=.u8) (e:=5) (n:=32) (a2o.filterMap iv) hjA hvA (by kernel_rfl) (by kernel_rfl) (by kernel_rfl) (by kernel_rfl) (by kernel_rfl) hdA;have eB':=B0 (k:=.u8) (e:=5) (n:=64) (a2n.filterMap iv) hjB hvB (by kernel_rfl) (by kernel_rfl) (by kernel_rfl) (by kernel_rfl) (by kernel_rfl) hdB;have one:∀{g:Nat} {n:String} {cs:Array Value} {k:Nat},Tryz.prog.globalNamed n=some g->W.var? Tryz.prog n=some cs->cs.size=k->∃c t fr,W.heap[g]?=some (.cells c t fr)/\c.size=k:=fun hg hv h=>by
  obtain⟨t,fr,ho⟩:=N4 hg hv;exact⟨_,t,fr,ho,h⟩
 have hmax:∀(j:Nat) x,([.i .i64 MaxL.m]:List GV)[j]?=some x->∃u,W.cell? ⟨0,j,none⟩=some u/\∀D:Cx,(∀b o v,W.cell? ⟨b,o,none⟩=some v->D.fx b o v)->VR D x u:=fun j x hx=>by
  match j,hx with
  |0,hx=>cases hx;exact⟨_,hm,fun D hD=>.i _ _⟩
  |j+1,hx=>cases hx
 refine⟨fun g cs hg=>?_,fun g cs j x hg hx=>?_⟩
 ·match g,hg with
  |0,hg=>obtain rfl:=aY hg;exact hms
  |1,hg=>obtain rfl:=aY hg;exact one hjC hvC eC'.1
  |2,hg=>obtain rfl:=aY hg;exact one hjA hvA eA'.1
  |3,hg=>obtain rfl:=aY hg;exact one hjB hvB eB'.1
  |4,hg=>obtain rfl:=aY hg;exact one hjF hvF eF'.1
  |5,hg=>obtain rfl:=aY hg;exact one hjE hvE eE'.1
  |n+6,hg=>cases hg
 ·match g,hg with
  |0,hg=>obtain rfl:=aY hg;exact hmax j x hx
  |1,hg=>obtain rfl:=aY hg;exact eC'.2 j x hx
  |2,hg=>obtain rfl:=aY hg;exact eA'.2 j x hx
  |3,hg=>obtain rfl:=aY hg;exact eB'.2 j x hx
  |4,hg=>obtain rfl:=aY hg;exact eF'.2 j x hx
  |5,hg=>obtain rfl:=aY hg;exact eE'.2 j x hx
  |n+6,hg=>cases hg
theorem QA [MaxL] {k:FuncId} {args:List GV} {s':List GObj} {W:World} {vs:Array Value} (h:SC Tryz.prog k args [] (.val (.b true)) s') (ht:a2J W) (hv:VRs (C0 W) args vs.toList):
  Calls Tryz.prog k vs W fun e W'=>e=.returned (.bool true)/\Base (fun _=>False) W W':=
 (h.calls (C0 W) W vs (TD ht) hv).mono fun e W' ⟨D,hl,hr,he⟩=>by
  obtain⟨v,rfl,hv⟩:=he;have hm:D.mine=fun _=>False:=hl.fix.1;refine⟨?_,hm▸hr.below⟩;cases hv;rfl
theorem a3E [MaxL] (s:ByteArray) {C:Cx}:VR C (.s s.data.toList) (.string s):=by
 have:s=⟨s.data.toList.toArray⟩:=by simp
 exact this▸VR.s s.data.toList
theorem N2:laidOutB Tryz.checked.prog=true:=by kernel_rfl
section
variable {H : Type} {enc : TypeId × Value → H}
theorem N5 {a:Assume} {C:Checked} {os:Os} {f:FuncId} {fn:Func} {s:ChangeSpec} {conds:List PathCond} {apart fresh handsOn again:Bool} {X:World->Array Value->Prop}
  (hX:∀(w w':World) (args:Array Value),w.heap=w'.heap->X w args->X w' args)
  (own:ownKnob C.prog.godebug=none) (started:os.Started) (noInit:C.prog.inits.idxOf? f=none) (hfn:C.prog.funcs[f]?=some fn)
  (witness:∃(w:World) (tape:Tape) (i:Input),w.os=os/\(w.forCall tape i).Shaped C.prog/\i.vars=[]/\Input.okWide C.prog (w.forCall tape i) .any w.heap.size f i/\
   ((s.pre enc C.prog fn conds apart (w.forCall tape i).memory i.args/\X (w.forCall tape i).memory i.args)/\sizedMet enc C.prog fn (OpenSpec.ofChange s) apart (w.forCall tape i).memory i.args)/\a.holds C.prog (lone (Frame.enter C.prog f i.args .normal) [] (w.forCall tape i)))
  (contract:∀(W:World) (base:Nat) (args:Array Value) (ds gs:List (DataW H)) (before:List MemPlace),
   (∀(j:Nat) t v,fn.params[j]?=some t->args[j]?=some v->Value.okWide C.prog W .any base t v)->
   DataW.Whole enc C.prog fn.params.toList s.vars apart W args.toList ds gs before->
   (DataW.weightsEach C.prog (fn.params.toList++s.plain.varTypes C.prog) (ds++gs)).all (· <=reachBytes)=true->X W args->W.ShapedOpen C.prog->
   Calls C.prog f args W fun e W'=>∃v,e=.returned v/\s.post enc C.prog fn apart fresh handsOn again W args v W'):
  ReturnsInHanded a C os f .any (fun w args=>(s.pre enc C.prog fn conds apart w args/\X w args)/\sizedMet enc C.prog fn (OpenSpec.ofChange s) apart w args) (s.post enc C.prog fn apart fresh handsOn again):=by
 refine returnsInHanded_of_calls own started noInit witness ?_;intro w tape i _ hsh _ hok hpre hholds;obtain⟨_,_,_,fn',hfn',_,_,_,_,hval⟩:=hok;have e:fn'=fn:=aY (hfn'.symm.trans hfn);subst e;obtain⟨⟨⟨ds,gs,before,hw,hc⟩,hx⟩,hz⟩:=hpre;have hw':=DataW.Whole.of_heap (w':=w.forCall tape i) (by rfl) hw;refine(contract (w.forCall tape i) w.heap.size i.args ds gs before hval hw' (hz.weights hw) (hX _ _ _ (by rfl) hx) hsh).mono fun e W' ⟨v,he,hp⟩=>?_;subst he;exact ChangeSpec.post_blind hp
variable {P : Program} {w : World} {base : Nat} {spare : Nat → Bool} {held : Bool}
end
theorem MU {W:World} (h:W.ShapedOpen Tryz.prog):∃m,W.cell? ⟨0,0,none⟩=some (.int .i64 m)/\∃c t fr,W.heap[(0:Nat)]?=some (.cells c t fr)/\c.size=1:=by
 have h0:((begin Tryz.prog (fun _ _=>0) default).world.heap[(0:Nat)]?).bind Obj.row?=some (#[.int .i64 0],3):=by kernel_rfl
 have hg:(0:Nat)<Tryz.prog.globals.size:=aA (by kernel_rfl);obtain⟨m,hm⟩:=cell_of_shapedOpen_int (zero:= #[.int .i64 0]) (t:=3) (k:=.i64) h hg h0 rfl (by kernel_rfl) (by kernel_rfl) (by kernel_rfl);obtain⟨cs,hh,hs,_⟩:=h.1 _ _ _ hg h0;exact⟨m,hm,cs,_,_,hh,hs⟩
theorem q1:Rows.schemaWrongRow.wf (OpenSpec.ofChange Rows.schemaWrongSpec)=true:=by kernel_rfl
theorem q2:laidOutB Tryz.pinned.checked.prog=true:=by kernel_rfl
theorem q3:mapsRowed Tryz.pinned.checked.prog=true:=by kernel_rfl
theorem q4:(Rows.schemaWrongRow.inPlace==Tryz.pinned.checked.prog.inPlace 3)=true:=by kernel_rfl
theorem q5:(Rows.schemaWrongRow.unfollowed==Tryz.pinned.checked.prog.unfollowed 3)=true:=by kernel_rfl
theorem q6:(Rows.schemaWrongRow.recurses==Tryz.pinned.checked.prog.recurses 3)=true:=by kernel_rfl
theorem q7:(Rows.schemaWrongRow.named==Tryz.pinned.checked.prog.varsNamed 3)=true:=by kernel_rfl
theorem q8:(Rows.schemaWrongRow.plainKeys==Tryz.pinned.checked.prog.plainKeys)=true:=by kernel_rfl
theorem q9:Tryz.pinned.checked.prog.stopsHeard=true:=by kernel_rfl
theorem q10:Tryz.pinned.checked.prog.mayEnter=true:=by kernel_rfl
theorem a3A:Tryz.pinned.checked.prog.mainIs=some (true,("cbc71e27b3ce953a48ddf39a9ebaff72c4a6d4a9f51c454f06984af7283e3432").toList):=by kernel_rfl
theorem a3B:true=Tryz.pinned.checked.prog.looks []:=by kernel_rfl
theorem q1F:Rows.schemaFindsRow.wf (OpenSpec.ofChange Rows.schemaFindsSpec)=true:=by kernel_rfl
theorem q4F:(Rows.schemaFindsRow.inPlace==Tryz.pinned.checked.prog.inPlace 8)=true:=by kernel_rfl
theorem q5F:(Rows.schemaFindsRow.unfollowed==Tryz.pinned.checked.prog.unfollowed 8)=true:=by kernel_rfl
theorem q6F:(Rows.schemaFindsRow.recurses==Tryz.pinned.checked.prog.recurses 8)=true:=by kernel_rfl
theorem q7F:(Rows.schemaFindsRow.named==Tryz.pinned.checked.prog.varsNamed 8)=true:=by kernel_rfl
theorem q8F:(Rows.schemaFindsRow.plainKeys==Tryz.pinned.checked.prog.plainKeys)=true:=by kernel_rfl
theorem a3M:(Rows.schemaFindsRow.lifted==Tryz.pinned.checked.prog.liftsFinal)=true:=by kernel_rfl
theorem OG:joinedFacts Tryz.pinned.checked.prog 8 Tryz.f8 Rows.schemaFindsSpec Rows.schemaFindsRow=true:=by
 unfold joinedFacts;rw[q1F,q2,q3,q4F,q5F,q6F,q7F,q8F,q9,q10,a3M];kernel_rfl
theorem V6:Tryz.f8.isInstance Tryz.pinned.checked.prog Rows.schemaFindsRow.origin Rows.schemaFindsRow.targs:=(aA (by kernel_rfl))
theorem V5:Tryz.f8.isWrapper Tryz.pinned.checked.prog Rows.schemaFindsRow.wrapper Rows.schemaFindsRow.mainSum:=(by unfold Func.isWrapper;first|(rw[aG (by decide+kernel)];kernel_rfl)|(rw[aE (by decide+kernel)];exact⟨rfl,rfl⟩))
theorem a2P:Rows.schemaFindsRow.wfByText (OpenSpec.ofChange Rows.schemaFindsSpec)=true:=by kernel_rfl
theorem a2Q:false=Rows.schemaFindsRow.goesBy Tryz.pinned.checked.prog:=by kernel_rfl
section
variable {H : Type} {enc : TypeId × Value → H} {P : Program} {w : World} {base : Nat} {spare : Nat → Bool} {held : Bool}
theorem OK {t0 t1:TypeId} {args:Array Value} {ds:List (DataW H)} {ps:List MemPlace} (h:DataW.TrodAll enc P w base spare held [t0,t1] args.toList ds ps):
  ∃v0 v1 d0 d1 p0 p1,args= #[v0,v1]/\ds=[d0,d1]/\ps=p0++p1/\DataW.Trod enc P w base spare held t0 v0 d0 p0/\DataW.Trod enc P w base spare held t1 v1 d1 p1:=by
 obtain⟨v0,vs0,d0,ds0,p0,q0,hargs,rfl,rfl,h0,r0⟩:=trodAll_cons h;obtain⟨v1,vs1,d1,ds1,p1,q1,rfl,rfl,rfl,h1,r1⟩:=trodAll_cons r0;obtain⟨rfl,rfl,rfl⟩:=trodAll_nil r1;exact⟨v0,v1,d0,d1,p0,p1,by cases args;simp_all,rfl,by simp,h0,h1⟩
end
theorem N1 (os:Os):(World.laidAll Tryz.prog os Rows.schemaFindsRow.laid).Shaped Tryz.prog:=World.shaped_of_ZipB (by kernel_rfl) (by kernel_rfl)
theorem XY (os:Os) (args:Array Value):laidMetH Tryz.prog Rows.schemaFindsRow.laid ((World.laidAll Tryz.prog os Rows.schemaFindsRow.laid).forCall (fun _ _=>0) ⟨#[],args,[]⟩).memory:=by
 rw[MakeChecks.laidMetH_plain _ _ _ (by kernel_rfl)];exact laidMet_laidAll _ (by kernel_rfl) (by kernel_rfl)
def xE:Prop:=∀[MaxL] (s:Sch) (n:By),VT s->n.length<=cap->SC Tryz.prog 8 [lC s,.s n] [] (.val (.b true)) []
theorem yS (law:xE)
  (os:Os) (started:os.Started) (H:Type) (enc:TypeId×Value->H):
  ReturnsInHanded {} Tryz.checked os 8 .any (fun w args=>(Rows.schemaFindsSpec.pre enc Tryz.prog Tryz.f8 [] false w args/\laidMetH Tryz.prog Rows.schemaFindsRow.laid w)/\sizedMet enc Tryz.prog Tryz.f8 (OpenSpec.ofChange Rows.schemaFindsSpec) false w args)
   (Rows.schemaFindsSpec.post enc Tryz.prog Tryz.f8 false true false false):=by
 refine N5 (C:=Tryz.checked) (X:=fun w _=>laidMetH Tryz.prog Rows.schemaFindsRow.laid w) (fun _ _ _ hh h=>h.of_heap hh) own started (by kernel_rfl) Tryz.func8
  (ChangeSpec.witness_shaped (enc:=enc) (C:=Tryz.checked) (os:=os) (X:=fun w _=>laidMetH Tryz.prog Rows.schemaFindsRow.laid w) false (World.laidAll Tryz.prog os Rows.schemaFindsRow.laid) #[.agg #[.slice none 0 0,.slice none 0 0,.slice none 0 0],.string default] 8 (World.laidAll_os _ _ _) (N1 os) (by kernel_rfl) (by kernel_rfl) (by kernel_rfl) (XY os _)) ?_
 intro W base args ds gs before hval0 hW hwt hL hsh;have hval:∀(j:Nat) t v,Tryz.f8.params[j]?=some t->args[j]?=some v->Value.okWide Tryz.prog W .any base t v:=hval0;have hW':=hW;obtain⟨p,q,hA0,hV,rfl,hfz,hnd⟩:=hW;have hA:DataW.TrodAll enc Tryz.prog W 0 (fun _=>true) true Tryz.f8.params.toList args.toList ds p:=hA0;have hwt0:(DataW.weightsEach Tryz.prog (Tryz.f8.params.toList++Rows.schemaFindsSpec.plain.varTypes Tryz.prog) (ds++gs)).all (· <=reachBytes)=true:=hwt;rw[show Tryz.f8.params= #[26,9] from rfl] at hA hval hwt0;obtain⟨v0,v1,d0,d1,p0,p1,rfl,rfl,rfl,h0,h1⟩:=OK hA;obtain⟨rfl,rfl⟩:=trodVars_none hV;have hall:∀m∈DataW.weightsEach Tryz.prog ([26,9]++Rows.schemaFindsSpec.plain.varTypes Tryz.prog) ([d0,d1]++[]),m<=reachBytes:=fun m hm=>aA (List.all_eq_true.1 hwt0 m hm);have w0:sV Tryz.prog 26 d0:=fun m hm=>hall m (A6 (i:=0) (t:=26) (d:=d0) rfl rfl hm);have w1:sV Tryz.prog 9 d1:=fun m hm=>hall m (A6 (i:=1) (t:=9) (d:=d1) rfl rfl hm);have hlt:∀x∈p0++p1,x.block<W.heap.size:=fun x hx=>by simpa using hW'.lt x (by simpa using hx)
 have hlt0:∀x∈p0,x.block<W.heap.size:=fun x hx=>hlt x (by simp[hx]);have hlt1:∀x∈p1,x.block<W.heap.size:=fun x hx=>hlt x (by simp[hx]);obtain⟨m,hm,hms⟩:=MU hsh;letI:MaxL:=⟨m⟩;obtain⟨s,hs,hv0⟩:=T4 (hval 0 _ v0 rfl rfl) h0 w0;have hh1:=h1;obtain⟨n,rfl,rfl,rfl,hn⟩:=open_string J8 (hval 1 9 v1 rfl rfl) h1;refine(QA (law s n.data.toList hs (e8 (w1 _ (by unfold DataW.weights;simp)) (by decide))) (a3D hL hm hms) ⟨rfl,fun j g u g1 g2=>?_⟩).mono fun e W' ⟨he,hb⟩=>?_
 ·match j,g1,g2 with
  |0,g1,g2=>cases g1;cases g2;exact hv0
  |1,g1,g2=>cases g1;cases g2;exact a3E _
 ·subst he;have hbel:Below W.heap.size W W':=⟨hb.os,hb.tape,hb.output,hb.size,fun k hk=>hb.block k hk (fun h=>h)⟩;refine⟨_,rfl,_,_,_,[],p0++[],[],hW',?_,?_,rfl,PE (fun _ h=>h) hb,fun h=>by cases h⟩
  ·exact trodAll_mk1 (shut_bool LR true)
  ·refine trodAll_mk2 ?_ ?_
   ·exact Below.trod N2 (by kernel_rfl) (aA (by kernel_rfl)) h0 hbel hlt0
   ·exact Below.trod N2 (by kernel_rfl) (aA (by kernel_rfl)) hh1 hbel hlt1
theorem EU (law:xE):Rows.SchemaFindsSaid:=
 OpenClaim.holds_of_wide 8 Tryz.f8 rfl rfl rfl rfl rfl rfl rfl ⟨rfl,rfl,rfl,rfl,rfl⟩ rfl rfl rfl rfl rfl (by kernel_rfl) Tryz.func8 OG
  V6 V5
  (fun os started H enc _=>yS law os started H enc)
theorem y5 (h:Rows.SchemaFindsSaid):Rows.SchemaFindsCardSaid:=
 Claim7.holds_tied_plain_at .later [] [.data,.data,.data,.data,.sentinel,.sentinel,.pinned] true (true, "cbc71e27b3ce953a48ddf39a9ebaff72c4a6d4a9f51c454f06984af7283e3432") true
  h (fun _ h=>by cases h) a2P (fun _ h=>by cases h) schemaFinds_row_tie rfl ⟨rfl,rfl⟩ a3A rfl
  (fun f fn hf hfn=>by
   obtain rfl:f=8:=aY ((show Tryz.prog.funcNamed "ringwork/ringworklaw03.SchemaFinds" =some 8 by kernel_rfl).symm.trans hf) |>.symm;obtain rfl:fn=Tryz.f8:=(aY (Tryz.func8.symm.trans hfn)).symm;exact⟨a3B,fun j t ht=>by
    rw[show Tryz.f8.params= #[26,9] from rfl] at ht
    match j,ht with
    |0,ht=>cases ht;exact(show Tryz.prog.wantsStandIn 26=false by kernel_rfl)
    |1,ht=>cases ht;exact(show Tryz.prog.wantsStandIn 9=false by kernel_rfl)
    |j+2,ht=>cases ht⟩)
  a2Q
