/-
  A part of the proof of SchemaFinds.
-/
import Derived.Laws.MakeOwn
import Derived.Test.YtcfgfkkhpdlhpaaGreatDoorT6
import Derived.Lib.UnsafeStr
set_option linter.all false
namespace Go.Proofs.YtcfgfkkhpdlhpaaGreatDoor
open Go.RowKit
variable [Globals]
section
variable {P : Program} {C : Cx} {σ : GS} {w0 w : World}
theorem YH (x y:List UInt8):((ByteArray.mk x.toArray)==⟨y.toArray⟩)=(x==y):=by
 show(x.toArray==y.toArray)=_;simp
theorem wL {d:TypeDesc} {a b:GV} {va vb:Value} (ha:VR C a va) (hb:VR C b vb) {r:Bool} (h:AE d a b=some r):Instr.sameNow d va vb=some r:=by
 unfold AE at h;split at h
 ·cases ha;cases hb;exact h
 ·cases ha;cases hb;cases h;simp only[Instr.sameNow,YH]
 ·cases ha;cases hb;exact h
 ·cases h
theorem PO {d:TypeDesc} {a b:GV} {va vb:Value} (ha:VR C a va) (hb:VR C b vb) (h:AE d a b=some true) (n:Nat):Instr.sameBits n vb va=true:=by
 unfold AE at h;split at h
 ·cases ha;cases hb;split at h
  ·rename_i hk;subst hk;simp at h;subst h;simp[Instr.sameBits]
  ·cases h
 ·cases ha;cases hb;simp at h;subst h;simp[Instr.sameBits,YH]
 ·cases ha;cases hb;simp at h;subst h;simp[Instr.sameBits]
 ·cases h
theorem oQ {d:TypeDesc} {k:GV} {vk:Value} (hk:VR C k vk):∀(es:List (GV×GV)) (ents:List MapEntry) (i:Nat) (r:Option (Nat×GV)),
  VRs C (es.map (·.1)) (ents.map (·.key))->VRs C (es.map (·.2)) (ents.map (·.val))->nO d k es i=some r->
  match r with
  |none=>Instr.findNow d vk ents i=some none
  |some (j,g)=>∃v,Instr.findNow d vk ents i=some (some (j,v))/\VR C g v/\i<=j/\∃e,ents[j - i]?=some e/\∀n,Instr.sameBits n e.key vk=true
 |[],ents,i,r,h1,_,h=>by
  have:ents=[]:=aN (by simpa using h1.1);subst this;simp only[nO,j6] at h;subst h;rfl
 |(ek,ev)::es,ents,i,r,h1,h2,h=>by
  cases ents with
  |nil=>have:=h1.1;simp at this
  |cons e ents=>
   simp only[dO] at h1 h2;obtain⟨_,_,e1,hek,hks⟩:=h1.cons_inv;obtain⟨_,_,e2,hev,hvs⟩:=h2.cons_inv;cases e1;cases e2;simp only[nO] at h;split at h
   ·rename_i hs;cases h;refine⟨e.val,?_,hev,rL _,e,by simp,fun n=>PO hk hek hs n⟩;simp only[Instr.findNow,wL hk hek hs]
   ·rename_i hs;have ih:=oQ hk es ents (i+1) r hks hvs h;cases r with
    |none=>simp only[Instr.findNow,wL hk hek hs];exact ih
    |some jg=>
     obtain⟨j,g⟩:=jg;obtain⟨v,a1,a2,a3,e',a4,a5⟩:=ih;refine⟨v,by simp only[Instr.findNow,wL hk hek hs];exact a1,a2,by omega,e',?_,a5⟩;rw[show j - i=(j - (i+1))+1 by omega];simpa using a4
   ·cases h
theorem uQ {kt:TypeId} {d:TypeDesc} {k:GV} {vk:Value} (hd:P.underlying kt=some d) (hk:VR C k vk) (h:U9 d k=true) (b:Bool) (n:Nat):(Instr.checkKey b (n+1) kt vk).run P w=.ok () w:=by
 unfold U9 at h;split at h<;>first
  |(cases h;done)
  |(cases hk;simp[Instr.checkKey,run_underlying hd])
theorem oI {kt:TypeId} {d:TypeDesc} {vk:Value} {ents:List MapEntry} {r:Option (Nat×Value)} (hd:P.underlying kt=some d) (h:Instr.findNow d vk ents 0=some r):
  (Instr.findKey kt vk ents).run P w=.ok r w:=by
 unfold Instr.findKey;simp only[Sem.run_bind,run_underlying hd,Result.andThen_ok,h,Sem.run_pure]
theorem qU {b:Nat} {ents:Array MapEntry} {clk:Nat} (h:w.heap[b]?=some (.map ents clk)):(getObj b).run P w=.ok (.map ents clk) w:=by
 simp[getObj,Sem.run,h]
theorem EY {b:Nat} {ents:Array MapEntry} {clk:Nat} (h:w.heap[b]?=some (.map ents clk)) (o:Obj):(setObj b o).run P w=.ok () {w with heap:=w.heap.setIfInBounds b o}:=by
 simp[setObj,Sem.run,h]
theorem Rel.setMap (h:Rel C σ w0 w) {r b:Nat} (hr:r<σ.objs.length) (hb:C.bk r=some b) (hown:C.own r=none) {ents ents':Array MapEntry} {clk clk':Nat} (hm:w.heap[b]?=some (.map ents clk))
  (es:List (GV×GV)) (h1:VRs C (es.map (·.1)) (ents'.toList.map (·.key))) (h2:VRs C (es.map (·.2)) (ents'.toList.map (·.val))):
  Rel C {σ with objs:=σ.objs.set r (.mp es)} w0 {w with heap:=w.heap.setIfInBounds b (.map ents' clk')}:=by
 have hlt:b<w.heap.size:=(Array.getElem?_eq_some_iff.1 hm).1;refine h.setObj hr hb _ ⟨hown,b,ents',clk',hb,by simp[hlt],h1,h2⟩ rfl rfl rfl (by simp) (fun k hk=>?_);simp only[Array.getElem?_setIfInBounds];rw[aE (j7 hk)]
theorem VRs.map_set {α:Type} (f:α->Value) {gs:List GV} {xs:Array α} (h:VRs C gs (xs.toList.map f)) (i:Nat) (F:α->α) {g:GV} (hg:∀x,VR C g (f (F x))):
  VRs C (gs.set i g) ((xs.modify i F).toList.map f):=by
 have hlen:xs.size=gs.length:=by have:=h.1;simpa using this
 refine⟨by simp[hlen],fun j g' u h1 h2=>?_⟩;rw[aM,dB,Array.getElem?_modify] at h2;rw[List.getElem?_set] at h1;by_cases hij:i=j
 ·subst hij;rw[aG rfl] at h1 h2;split at h1
  ·rename_i hl;cases h1;cases hx:xs[i]? with
   |none=>rw[hx] at h2;cases h2
   |some x=>rw[hx] at h2;cases h2;exact hg x
  ·cases h1
 ·rw[aE hij] at h1 h2;exact h.2 j g' u h1 (by rw[aM,dB];exact h2)
theorem yD {t:TypeId} {m k v:GV} {vm vk vv:Value} {σ':GS} (h:Rel C σ w0 w) (hm:VR C m vm) (hk:VR C k vk) (hv:VR C v vv) (hg:kE P t m k v σ=some σ'):
  ∃w',Rel C σ' w0 w'/\(Instr.mapUpdate t vm vk vv).run P w=.ok () w':=by
 cases hm with
 |mp hb=>
  rename_i r b;simp only[kE] at hg;split at hg
  ·rename_i kt et hmt;split at hg
   ·rename_i d es hd hobj;split at hg
    ·rename_i hc;simp only[aH,aL] at hc;obtain⟨hown,b',ents,clk,hb',hheap,hks,hvs⟩:=h.obj r _ hobj;rw[hb] at hb';cases hb';have hr:r<σ.objs.length:=(List.getElem?_eq_some_iff.1 hobj).1;have hck:=uQ (w:=w) hd hk hc.2 false 9999;split at hg
     ·rename_i j g hf;cases hg;obtain⟨v0,a1,_,_,e0,a4,a5⟩:=oQ hk es ents.toList 0 _ hks hvs hf;have hfk:=oI (P:=P) (w:=w) hd a1;have hej:ents[j]?=some e0:=by simpa using a4
      have hstay:(Instr.keyThatStays e0.key vk).run P w=.ok vk w:=by
       unfold Instr.keyThatStays;rw[aG (a5 10000)];rfl
      refine⟨_,h.setMap hr hb hown (ents':=ents.modify j fun e=>{e with key:=vk,val:=vv}) (clk':=clk) hheap (es.set j (k,v)) ?_ ?_,?_⟩
      ·rw[List.map_set];exact VRs.map_set (fun e:MapEntry=>e.key) hks j _ (fun _=>hk)
      ·rw[List.map_set];exact VRs.map_set (fun e:MapEntry=>e.val) hvs j _ (fun _=>hv)
      ·unfold Instr.mapUpdate;simp only[Sem.run_bind,run_underlying (uS hmt),Result.andThen_ok,qU hheap,hck,hfk,hej,eL,Option.getD_some,hstay,EY hheap]
     ·rename_i hf;cases hg;have a1:=oQ hk es ents.toList 0 _ hks hvs hf;have hfk:=oI (P:=P) (w:=w) hd a1;refine⟨_,h.setMap hr hb hown (ents':=ents.push {key:=vk,val:=vv,born:=clk}) (clk':=clk+1) hheap (es++[(k,v)]) ?_ ?_,?_⟩
      ·simp only[cO,Array.toList_push];exact hks.append (VRs.cons hk VRs.nil)
      ·simp only[cO,Array.toList_push];exact hvs.append (VRs.cons hv VRs.nil)
      ·unfold Instr.mapUpdate;simp only[Sem.run_bind,run_underlying (uS hmt),Result.andThen_ok,qU hheap,hck,hfk,EY hheap]
     ·cases hg
    ·cases hg
   ·cases hg
  ·cases hg
 |_=>simp[kE] at hg
theorem V9 {g1:GV} {v1:Value} {b:Bool} (hg:VR C g1 v1):VR C (.tup [g1,.b b]) (.tuple #[v1,.bool b]):=by
 have this:VRs C [g1,.b b] [v1,.bool b]:=VRs.cons hg (VRs.cons (VR.b (C:=C) b) VRs.nil);exact .tup rfl (fun j g u h1 h2=>this.2 j g u h1 (by simpa using h2))
theorem HH {t:TypeId} {m k g:GV} {ok:Bool} {vm vk:Value} (h:Rel C σ w0 w) (hm:VR C m vm) (hk:VR C k vk) (hg:pV P t m k ok σ=some g):Runs P C w0 w σ g (Instr.lookup t vm vk ok):=by
 unfold pV at hg;split at hg
 ·rename_i kt et hmt;split at hg
  ·rename_i d z hd hz;split at hg
   ·rename_i hkk;obtain⟨vz,hvz,rfl⟩:=qK hz w;have fin:∀{g1:GV} {v1:Value} {b:Bool},VR C g1 v1->VR C (if ok then .tup [g1,.b b] else g1) (if ok then .tuple #[v1,.bool b] else v1):=fun hvr=>by
     clear hg;cases ok
     ·exact hvr
     ·exact V9 hvr
    split at hg
    ·rename_i r;cases hm with
     |mp hb=>
     rename_i b;split at hg
     ·rename_i es hobj;obtain⟨hown,b',ents,clk,hb',hheap,hks,hvs⟩:=h.obj r _ hobj;rw[hb] at hb';cases hb';have hck:=uQ (w:=w) hd hk hkk ents.isEmpty 9999;split at hg
      ·rename_i j v1 hf;cases hg;obtain⟨v0,a1,a2,_⟩:=oQ hk es ents.toList 0 _ hks hvs hf;have hfk:=oI (P:=P) (w:=w) hd a1;refine .pure h (fin a2) ?_;unfold Instr.lookup;simp only[Sem.run_bind,run_underlying (uS hmt),Result.andThen_ok,qU hheap,Sem.run_pure,hck,hfk]
      ·rename_i hf;cases hg;have a1:=oQ hk es ents.toList 0 _ hks hvs hf;have hfk:=oI (P:=P) (w:=w) hd a1;refine .pure h (fin (iL C vz)) ?_;unfold Instr.lookup;simp only[Sem.run_bind,run_underlying (uS hmt),Result.andThen_ok,qU hheap,Sem.run_pure,hck,hfk,hvz]
      ·cases hg
     ·cases hg
    ·cases hm with
     |o hp=>
     cases hg;have hck:=uQ (w:=w) hd hk hkk true 9999;have hfk:(Instr.findKey kt vk []).run P w=.ok none w:=oI hd rfl;refine .pure h (fin (iL C vz)) ?_;unfold Instr.lookup;simp only[Sem.run_bind,run_underlying (uS hmt),Result.andThen_ok,Sem.run_pure];have:(#[]:Array MapEntry).isEmpty=true:=rfl;simp only[this,hck,Result.andThen_ok,hfk,Sem.run_bind,hvz,Sem.run_pure]
    ·cases hg
   ·cases hg
  ·cases hg
 ·cases hg
theorem PU {t ty:TypeId} {x g:GV} {v:Value} (h:Rel C σ w0 w) (hx:VR C x v) (hg:BV P t x σ=some g):Runs P C w0 w σ g (Builtin.len_ #[t] ty #[v]):=by
 cases hx with
 |s l=>
  simp only[BV] at hg;split at hg
  ·rename_i hk;cases hg;refine .pure h (.i _ _) ?_;have hs:(ByteArray.mk l.toArray).size=l.length:=by simp[ByteArray.size]
   simp[Builtin.len_,run_underlying (lG hk),hs,goInt]
  ·cases hg
 |sl esz b off us hn hc ha hw hxx hv ht=>
  simp only[BV] at hg;split at hg
  ·rename_i hk;cases hg;obtain⟨e,he⟩:=r9 hk;subst hn;exact .pure h (.i _ _) (by simp[Builtin.len_,run_underlying he,goInt])
  ·cases hg
 |mp hb=>
  rename_i r b;simp only[BV] at hg;split at hg
  ·rename_i es hobj;split at hg
   ·rename_i hm;cases hg;obtain⟨⟨k,e⟩,hm'⟩:=Option.isSome_iff_exists.1 hm;obtain⟨hown,b',ents,clk,hb',hheap,hks,hvs⟩:=h.obj r _ hobj;rw[hb] at hb';cases hb';have hlen:ents.size=es.length:=by have:=hks.1;simpa using this
    refine .pure h (.i _ _) ?_;rw[<-hlen];simp[Builtin.len_,run_underlying (uS hm'),qU hheap,goInt]
   ·cases hg
  ·cases hg
 |o hp=>
  cases v<;>simp[BV] at hg;rename_i r;cases r<;>simp at hg;obtain⟨hm,rfl⟩:=hg;obtain⟨⟨k,e⟩,hm'⟩:=Option.isSome_iff_exists.1 hm;exact .pure h (.i _ _) (by simp[Builtin.len_,run_underlying (uS hm'),goInt])
 |rp hb=>simp[BV] at hg
 |rs hb hc hp hx=>
  simp only[BV] at hg;split at hg
  ·rename_i hk;replace hk:=hk.2;cases hg;obtain⟨e,he⟩:=r9 hk;exact .pure h (.i _ _) (by simp[Builtin.len_,run_underlying he,goInt])
  ·cases hg
 |_=>simp[BV] at hg
theorem R1 {α:Type} {l:List α} (hl:0<l.length):∀(k j:Nat) (g:α),(List.replicate k l).flatten[j]?=some g->l[j%l.length]?=some g
 |0,j,g,h=>by simp at h
 |k+1,j,g,h=>by
  rw[List.replicate_succ,List.flatten_cons] at h;by_cases hj:j<l.length
  ·rw[aT hj] at h;rw[Nat.mod_eq_of_lt hj];exact h
  ·rw[bF (by omega)] at h;have:=R1 hl k _ _ h;rw[Nat.mod_eq_sub_mod (by omega)];exact this
theorem X2 {z:Value} {zs:List GV} (hz:VRs C zs z.cells.toList) (hp:0<zs.length) (k size:Nat) (hs:zs.length=size):VRs C (List.replicate k zs).flatten (madeCells z.cells (k*size)).toList:=by
 have hzs:z.cells.size=size:=by rw[<-bJ,hz.1];exact hs
 refine⟨by rw[bJ,size_madeCells,List.length_flatten];simp[hs],fun j g u h1 h2=>?_⟩;have h3:=R1 hp k j g h1;have hm:j%zs.length<zs.length:=Nat.mod_lt _ hp;refine hz.2 _ g u h3 ?_;unfold madeCells at h2;rw[dB] at h2;rw[Array.getElem?_map,aI] at h2;obtain⟨q,hq,rfl⟩:=h2;have hqj:q=j:=by
  obtain⟨h5,h6⟩:=Array.getElem?_eq_some_iff.1 hq;simp at h6;exact h6.symm
 subst hqj;rw[hzs,hs,dB];have:q%size<z.cells.size:=by rw[hzs,<-hs];exact hm
 rw[aR this,getElem!_pos z.cells _ this]
theorem NE {t:TypeId} {l c g:GV} {vl vc:Value} {σ':GS} (h:Rel C σ w0 w) (hl:VR C l vl) (hc:VR C c vc) (hg:G4 P t l c σ=some (g,σ')):Runs P C w0 w σ' g (Instr.makeSlice t vl vc):=by
 unfold G4 at hg;split at hg
 ·rename_i k n k' m;cases hl;cases hc;split at hg
  ·rename_i e he;split at hg
   ·rename_i size bytes z hs hb hz;split at hg
    ·rename_i hcond;simp only[aH,aL,dE] at hcond;obtain⟨⟨⟨⟨⟨⟨hzk,hzl⟩,hpos⟩,hby⟩,h0⟩,rfl⟩,hlim⟩:=hcond;cases hg;obtain⟨i,hi,hisz⟩:=B5 hs;have hiby:i.bytes<=4096:=by
      unfold vM at hb;rw[hi] at hb;simp at hb;omega
     unfold lX at hz;rw[hi,bY] at hz;cases hzv:i.zero with
     |none=>rw[hzv] at hz;cases hz
     |some zv=>
     rw[hzv] at hz;have hz:sO zv=z:=by simpa using hz
     subst hz;have hlim':n<=4294967296:=hlim;have hbn:(i.bytes:Int)*n<=4096*4294967296:=Int.mul_le_mul (by omega) hlim' h0 (by decide);have hrun:=run_make (P:=P) w t e i zv (lZ he) hi hzv k k' n n h0 (dN _) (by omega) (by omega);obtain⟨hl,hr⟩:=h.newBox _ e (h.newAt _) (madeCells zv.cells (n.toNat*i.size)) (by rw[hisz];exact X2 ((iL C zv).cells hzk) (by rw[hzl];exact hpos) n.toNat size hzl);exact⟨_,_,_,hl,hr,.rs (aG rfl) (rL _) hpos (.inr rfl),hrun⟩
    ·cases hg
   ·cases hg
  ·cases hg
 ·cases hg
theorem wV (f:GV->GV->Option GV) (F:Value->Value->Sem Value) (hf:∀x y z vx vy,VR C x vx->VR C y vy->f x y=some z->∃v,(F vx vy).run P w=.ok v w/\VR C z v):
  ∀(ys:List GV) (vs:List Value) (x z:GV) (vx:Value),VR C x vx->VRs C ys vs->G8 f x ys=some z->∃v,(vs.foldlM F vx).run P w=.ok v w/\VR C z v
 |[],vs,x,z,vx,hx,hs,h=>by
  have:vs=[]:=aN (by simpa using hs.1);subst this;cases h;exact⟨vx,rfl,hx⟩
 |y::ys,vs,x,z,vx,hx,hs,h=>by
  obtain⟨v,vs',rfl,hy,hys⟩:=hs.cons_inv;simp only[G8,Option.bind_eq_some_iff] at h;obtain⟨q,hq,hz⟩:=h;obtain⟨u,hu,hqu⟩:=hf x y q vx v hx hy hq;obtain⟨r,hr,hzr⟩:=wV f F hf ys vs' q z u hqu hys hz;exact⟨r,by simp only[List.foldlM_cons,Sem.run_bind,hu,Result.andThen_ok,hr],hzr⟩
theorem O1 (w:World) (a:Addr) (n:Nat) (p:Addr):(w.freeze a n).cell? p=w.cell? p:=by
 unfold World.freeze;split
 ·rfl
 ·simp only[World.cell?,Array.getElem?_modify];by_cases h:a.block=p.block
  ·rw[aG h];cases w.heap[p.block]? with
   |none=>rfl
   |some o=>cases o<;>rfl
  ·rw[aE h]
theorem NO {ts:Array TypeId} {ty:TypeId} {x g:GV} {v:Value} (h:Rel C σ w0 w) (hx:VR C x v) (hg:IS x=some g):Runs P C w0 w σ g (Builtin.unsafeSliceData_ ts ty #[v]):=by
 unfold IS at hg;split at hg
 ·rename_i r xs;split at hg
  ·rename_i hc;simp only[aH,dK,aS,dE] at hc;cases hg;have hne:xs≠[]:=fun e=>by rw[e] at hc;simp at hc
   cases hx with
   |sl esz b off us hn hcc ha hw hxx hv ht=>
   rename_i a n c;obtain⟨x0,hx0⟩:=List.exists_mem_of_ne_nil xs hne;have hesz:esz=1:=by rw[<-hw x0 hx0];exact hc.2 x0 hx0
   subst hesz;have hpos:0<xs.length:=List.length_pos_iff.2 hne;have ha':a=some ⟨b,off,none⟩:=by
    rcases ha with⟨_,h2⟩|h2|h2
    ·omega
    ·exact h2
    ·omega
   subst ha';obtain⟨I,hI,hle,hes,htok⟩:=ht;have hlen:(xs.flatMap GV.cells).length=xs.length:=by
    have:=mL xs (n:=1) hc.2;unfold flat at this;omega
   refine .pure h ?_ (Lib.run_unsafeSliceData_row w ts ty _ n c (by omega));have get:∀(j:Nat) g,(xs.flatMap GV.cells)[j]?=some g->∃y,xs[j]?=some y/\y.cells[0]?=some g:=fun j g hj=>by
    have hjl:j<xs.length:=by rw[<-hlen];exact(List.getElem?_eq_some_iff.1 hj).1
    have hy:xs[j]?=some xs[j]:=gL hjl;have hyl:=hc.2 _ (eI hjl);have hz:(xs[j]).cells[0]?=some ((xs[j]).cells[0]'(by omega)):=gL (by omega);have:=AI xs (n:=1) hc.2 j _ 0 _ hy hz;unfold flat at this;rw[Nat.mul_one,Nat.add_zero,hj] at this;cases this;exact⟨_,hy,hz⟩
   refine .dat us (fun j g hj=>?_) (fun j g hj=>?_) ⟨I,hI,by omega,fun he=>?_⟩
   ·obtain⟨y,hy,hz⟩:=get j g hj;have:=hxx j y 0 g hy hz;simpa using this
   ·obtain⟨y,hy,hz⟩:=get j g hj;have:=hv j y 0 g hy hz;simpa using this
   ·rcases htok (by omega) with h1|⟨bb,sz,h1,h2,h3⟩
    ·omega
    ·cases h2;exact⟨rfl,(hes hpos).symm,sz,h1⟩
  ·cases hg
 ·cases hg
theorem N6 {pt it ty:TypeId} {x n g:GV} {v vn:Value} {σ':GS} (h:Rel C σ w0 w) (hx:VR C x v) (hn:VR C n vn) (hg:CW P pt x n σ=some (g,σ')):
  Runs P C w0 w σ' g (Builtin.unsafeString_ #[pt,it] ty #[v,vn]):=by
 unfold CW at hg;split at hg
 ·rename_i r cs n;split at hg
  ·rename_i m esz tyo l ho hl;split at hg
   ·rename_i hc;simp only[aH,aL,dE,dK] at hc;obtain⟨⟨⟨⟨⟨⟨⟨c1,c2⟩,c3⟩,c4⟩,c5⟩,c6⟩,c7⟩,c8⟩:=hc;cases hg;cases hn;subst c1;have hne:l≠[]:=fun e=>by rw[e] at c3;simp at c3
    cases hx with
    |dat us hxx hv ht=>
    rename_i off b;obtain⟨I,hI,hle,htok⟩:=ht;obtain⟨h0,I',hI',hIl,hIe,hIb⟩:=h.obj r _ ho;rw[hI] at hI';cases hI';obtain⟨rfl,he1,sz,hblk⟩:=htok (by omega);obtain⟨⟨p1,p2⟩,vs,hheap,hsz⟩:=hIb b sz hblk;obtain⟨ns,hcs,hl2⟩:=wY cs l hl;have hshape:w.shape? b=some (tyo,vs.size):=by
     simp[World.shape?,hheap]
    have hcl:cs.length=l.length:=by rw[hcs,hl2];simp
    have hcell:∀(j:Nat) (y:UInt8),l[j]?=some y->w.cell? ((⟨b,0,none⟩:Addr).add j)=some (.int .u8 y.toNat):=fun j y hj=>by
     have hns:l[j]?=(ns[j]?).map fun n=>UInt8.ofNat n.toNat:=by rw[hl2,aM]
     rw[hns,aI] at hj;obtain⟨q,hq,rfl⟩:=hj;have hg:cs[j]?=some (.i .u8 q):=by rw[hcs,aM,hq];rfl
     have h1:=hxx j _ hg;have h2:=hv j _ hg;have h3:=List.all_eq_true.1 c8 _ (aK hg);simp only[S8,aH,aL] at h3;generalize us j=uj at h1 h2;cases h2;rw[kQ];have hq2:((UInt8.ofNat q.toNat).toNat:Int)=q:=by
      rw[UInt8.toNat_ofNat'];omega
     rw[hq2];exact h.fxc _ _ _ h1
    have hrun:=Lib.run_unsafeString_row (P:=P) (w:=w) pt it ty tyo (MK c5) c6 b vs.size hshape l hne (by
     rw[<-hcl,hsz];have:m*esz<=sz:=p2;have:esz=1:=by omega
     subst this;omega) (by simp only[gG] at c7;omega) hcell
    refine⟨C,_,_,.refl C,?_,.s l,hrun⟩;have hbC:dV C r=some b:=lH h0 hI hblk;have hlt:b<w.heap.size:=(Array.getElem?_eq_some_iff.1 hheap).1;have hfsz:(w.freeze ⟨b,0,none⟩ l.length).heap.size=w.heap.size:=by
     unfold World.freeze;split<;>simp
    refine Rel.upd b r .dead h (.refl C) (DO (List.getElem?_eq_some_iff.1 ho).1) (fun k hk=>xH k hk) (by simp[Go.Proofs.YtcfgfkkhpdlhpaaGreatDoor.gset]) ?_ ?_ ?_ (by omega) (fun k hk _=>?_)
     (h.new r b hbC) (fun _ _=>⟨rfl,rfl⟩) (fun k hk hkb=>hk (h.inj k r b hkb hbC)) (fun b' hb'=>.inr hb') (fun b' o v hf=>?_) (fun _ _ _ hf=>.inl hf) ⟨.inl h0,fun b' hb'=>?_⟩
     (fun b' o v hb' hf=>h.sepB r b' o v hb' hf) (fun I b' sz o v hI hb' hf=>h.sepO r I b' sz o v hI hb' hf)
    ·unfold World.freeze;split<;>rfl
    ·unfold World.freeze;split<;>rfl
    ·unfold World.freeze;split<;>rfl
    ·unfold World.freeze;split
     ·rfl
     ·simp only[Array.getElem?_modify];rw[aE (j7 hk)]
    ·rw[O1];exact h.fxc b' o v hf
    ·rw[hbC] at hb';cases hb';omega
   ·cases hg
  ·cases hg
 ·cases hg
theorem GF {b:Builtin} {ts:Array TypeId} {ty:TypeId} {args:List GV} {vs:Array Value} {g:GV} {σ':GS} (h:Rel C σ w0 w) (ha:VRs C args vs.toList)
  (hg:mK P b ts.toList args σ=some (g,σ')):∃D v w',C.le D/\Rel D σ' w0 w'/\VR D g v/\∀consts,(builtin b ts ty consts vs).run P w=.ok (.value v) w':=by
 have wrap:∀{s:Sem Value},Runs P C w0 w σ' g s->∃D v w',C.le D/\Rel D σ' w0 w'/\VR D g v/\∀_:Array Bool,((do pure (Next.value (<-s))):Sem Next).run P w=.ok (.value v) w':=by
  rintro s ⟨D,v,w',h1,h2,h3,h4⟩;exact⟨D,v,w',h1,h2,h3,fun _=>by simp[h4]⟩
 obtain⟨tsl⟩:=ts;obtain⟨vsl⟩:=vs;simp only at ha hg;unfold mK at hg;split at hg
 ·rename_i t x;obtain⟨v,vs',rfl,hx,hs⟩:=ha.cons_inv;have:vs'=[]:=aN (by simpa using hs.1);subst this;cases hl:BV P t x σ with
  |none=>rw[hl] at hg;cases hg
  |some q=>
   rw[hl] at hg;cases hg;exact wrap (PU h hx hl)
 ·rename_i t u s x;obtain⟨v,vs',rfl,hv,hs⟩:=ha.cons_inv;obtain⟨v2,vs'',rfl,hv2,hs2⟩:=hs.cons_inv;have:vs''=[]:=aN (by simpa using hs2.1);subst this;exact wrap (HL h hv hv2 hg)
 ·rename_i x;obtain⟨v,vs',rfl,hx,hs⟩:=ha.cons_inv;have:vs'=[]:=aN (by simpa using hs.1);subst this;cases hl:IS x with
  |none=>rw[hl] at hg;cases hg
  |some q=>
   rw[hl] at hg;cases hg;exact wrap (NO h hx hl)
 ·rename_i pt it x n;obtain⟨v,vs',rfl,hv,hs⟩:=ha.cons_inv;obtain⟨v2,vs'',rfl,hv2,hs2⟩:=hs.cons_inv;have:vs''=[]:=aN (by simpa using hs2.1);subst this;exact wrap (N6 h hv hv2 hg)
 ·rename_i x xs;obtain⟨v,vs',rfl,hv,hs⟩:=ha.cons_inv;cases hl:G8 S4 x xs with
  |none=>rw[hl] at hg;cases hg
  |some q=>
   rw[hl] at hg;cases hg;obtain⟨r,hr,hq⟩:=wV (P:=P) (w:=w) S4 Builtin.min2 (fun x y z vx vy hx hy hz=>by
    unfold S4 at hz;split at hz
    ·cases hx;cases hy;cases hz;exact⟨_,rfl,.i _ _⟩
    ·cases hz) xs vs' x _ v hv hs hl
   exact wrap (.pure h hq (by simpa[Builtin.min_] using hr))
 ·rename_i x xs;obtain⟨v,vs',rfl,hv,hs⟩:=ha.cons_inv;cases hl:G8 S5 x xs with
  |none=>rw[hl] at hg;cases hg
  |some q=>
   rw[hl] at hg;cases hg;obtain⟨r,hr,hq⟩:=wV (P:=P) (w:=w) S5 Builtin.max2 (fun x y z vx vy hx hy hz=>by
    unfold S5 at hz;split at hz
    ·cases hx;cases hy;cases hz;exact⟨_,rfl,.i _ _⟩
    ·cases hz) xs vs' x _ v hv hs hl
   exact wrap (.pure h hq (by simpa[Builtin.max_] using hr))
 ·cases hg
def a32 (C:Cx) (nx:Next) (g:GV):Prop:=(∃v,nx=.value v/\VR C g v)∨(nx=.skip/\g=.any)
def OpRuns (P:Program) (C:Cx) (w0 w:World) (σ':GS) (g:GV) (s:Sem Next):Prop:=∃D nx w',C.le D/\Rel D σ' w0 w'/\a32 D nx g/\s.run P w=.ok nx w'
theorem OpRuns.value {σ':GS} {g:GV} {s:Sem Value} (h:Runs P C w0 w σ' g s):OpRuns P C w0 w σ' g (do pure (Next.value (<-s))):=by
 obtain⟨D,v,w',h1,h2,h3,h4⟩:=h;exact⟨D,.value v,w',h1,h2,.inl ⟨v,rfl,h3⟩,by simp[h4]⟩
theorem OpRuns.unit {σ':GS} {s:Sem Unit} (h:∃w',Rel C σ' w0 w'/\s.run P w=.ok () w'):OpRuns P C w0 w σ' .any (do s;pure Next.skip):=by
 obtain⟨w',h2,h4⟩:=h;exact⟨C,.skip,w',.refl C,h2,.inr ⟨rfl,rfl⟩,by simp[h4]⟩
theorem OR.map {ρ:Operand->GV} {ρ':Operand->Value} (h:∀x,VR C (ρ x) (ρ' x)) (x:Option Operand):OR C (x.map ρ) (x.map ρ'):=by
 cases x with
 |none=>exact .none
 |some x=>exact .some (h x)
theorem VRs.mapOp {ρ:Operand->GV} {ρ':Operand->Value} (h:∀x,VR C (ρ x) (ρ' x)) (xs:List Operand):VRs C (xs.map ρ) (xs.map ρ'):=by
 refine⟨by simp,fun j g u h1 h2=>?_⟩;simp only[aM,aI] at h1 h2;obtain⟨p,hp,rfl⟩:=h1;obtain⟨q,hq,rfl⟩:=h2;rw[hp] at hq;cases hq;exact h _
theorem AG {ρ:Operand->GV} {ρ':Operand->Value} {o:Oper} {f:OB} {r0:Nat} {σ':GS} (h:Rel C σ w0 w) (hρ:∀x,VR C (ρ x) (ρ' x)) (hc:∀v,ρ' (.const v)=v) (hg:iE P ρ o.op=some f)
  (hx:NewAt C σ r0 f.2 σ'):OpRuns P C w0 w σ' (f.1 r0) (execOp ρ' o):=by
 obtain⟨dst,op,type,pos,after,guard⟩:=o;simp only at hg;unfold iE at hg;split at hg
 ·cases hg;obtain⟨D,hl,ho,hr⟩:=h.newNil hx;refine⟨D,_,w,hl,hr,.inl ⟨_,rfl,?_⟩,rfl⟩;rw[hc];exact .sl 0 0 0 (fun _=>undef) rfl (rL _) (.inl ⟨rfl,rfl⟩) (fun x hx=>by cases hx) (fun i x j g h=>by simp at h) (fun i x j g h=>by simp at h)
   ⟨_,ho,rL _,fun h=>absurd h (by simp),fun _=>.inl ⟨rfl,rfl⟩⟩
 ·exact .value (L3 h hg hx _)
 ·exact .value (Q1 h (hρ _) hg hx)
 ·exact .value (AH h (by rw[Array.toList_map];exact PRs.of hρ) hg hx)
 ·cases hg;obtain⟨hl,hr⟩:=h.newMap hx;exact .value ⟨_,_,_,hl,hr,.mp (aG rfl),by simp[Instr.makeMap]⟩
 ·cases hg
theorem PR {ρ:Operand->GV} {ρ':Operand->Value} {o:Oper} {g:GV} {σ':GS} (h:Rel C σ w0 w) (hρ:∀x,VR C (ρ x) (ρ' x)) (hc:∀v,ρ' (.const v)=v) (hg:pU P ρ o.op σ=some (g,σ')):
  OpRuns P C w0 w σ' g (execOp ρ' o):=by
 obtain⟨dst,op,type,pos,after,guard⟩:=o;simp only at hg;have mp:∀{x:Option GV} {q:GV×GS},x.map (fun v=>(v,σ))=some q->x=some q.1/\q.2=σ:=fun hx=>by
  rw[aI] at hx;obtain⟨a,rfl,rfl⟩:=hx;exact⟨rfl,rfl⟩
 have mu:∀{x:Option GS} {q:GV×GS},x.map (fun s=>(GV.any,s))=some q->x=some q.2/\q.1=.any:=fun hx=>by
  rw[aI] at hx;obtain⟨a,rfl,rfl⟩:=hx;exact⟨rfl,rfl⟩
 cases op<;>simp only[pU] at hg<;>simp only[execOp]
 case move x=>cases hg;exact⟨C,_,w,.refl C,h,.inl ⟨_,rfl,hρ x⟩,rfl⟩
 case assign x=>cases hg;exact⟨C,_,w,.refl C,h,.inl ⟨_,rfl,hρ _⟩,rfl⟩
 case pick c a b=>
  split at hg
  ·rename_i t ht;cases hg;have hcv:=hρ c;rw[ht] at hcv;generalize hv:ρ' c=v at hcv;cases hcv;refine⟨C,_,w,.refl C,h,.inl ⟨if t then ρ' a else ρ' b,rfl,?_⟩,by simp[asBool]⟩;cases t
   ·exact hρ b
   ·exact hρ a
  ·cases hg
 case build t ps=>
  obtain⟨h1,h2⟩:=mp hg;subst h2;exact .value (KY h (by rw[Array.toList_map];exact PRs.of hρ) h1)
 case load t a=>obtain⟨h1,h2⟩:=mp hg;subst h2;exact .value (NG h (hρ a) h1)
 case store t a v=>obtain⟨h1,h2⟩:=mu hg;subst h2;exact .unit (KE h (hρ a) (hρ v) h1)
 case nilCheck x=>
  obtain⟨h1,h2⟩:=mp hg;subst h2;have hv:=hρ x;generalize ρ' x=v at hv;generalize ρ x=q at hv h1;unfold IP at h1;split at h1<;>first|(cases h1;done)|skip
  all_goals
   cases h1;cases hv;refine⟨C,_,w,.refl C,h,.inl ⟨_,rfl,?_⟩,rfl⟩;constructor<;>assumption
 case binOp op t x y yt=>obtain⟨h1,h2⟩:=mp hg;subst h2;exact .value (Q4 h (hρ x) (hρ y) h1)
 case unOp op t x=>obtain⟨h1,h2⟩:=mp hg;subst h2;exact .value (U4 h (hρ x) h1)
 case convert s d x=>obtain⟨h1,h2⟩:=mp hg;subst h2;exact .value (GE h (hρ x) h1)
 case makeInterface t x=>obtain⟨h1,h2⟩:=mp hg;subst h2;exact .value (BT h (hρ x) h1)
 case makeFunc f a c=>
  cases hg;refine .value (.pure h (v:=.func f (a.map ρ') (c.map ρ')) ?_ rfl);have h1:=VRs.mapOp hρ a.toList;have h2:=VRs.mapOp hρ c.toList;exact .fn (by simp) (by simp) (fun j g u a1 a2=>h1.2 j g u a1 (by simpa using a2)) (fun j g u a1 a2=>h2.2 j g u a1 (by simpa using a2))
 case slice t x lo hi mx=>obtain⟨h1,h2⟩:=mp hg;subst h2;exact .value (KJ h (hρ x) (OR.map hρ lo) (OR.map hρ hi) (OR.map hρ mx) h1)
 case fieldAddr s x f=>obtain⟨h1,h2⟩:=mp hg;subst h2;exact .value (BY h (hρ x) h1)
 case field s x f=>obtain⟨h1,h2⟩:=mp hg;subst h2;exact .value (KS h (hρ x) h1)
 case makeSlice t l c=>exact .value (NE h (hρ l) (hρ c) hg)
 case indexAddr t x i=>obtain⟨h1,h2⟩:=mp hg;subst h2;exact .value (BW h (hρ x) (hρ i) h1)
 case index t x i=>obtain⟨h1,h2⟩:=mp hg;subst h2;exact .value (KQ h (hρ x) (hρ i) h1)
 case lookup t m k ok=>obtain⟨h1,h2⟩:=mp hg;subst h2;exact .value (HH h (hρ m) (hρ k) h1)
 case mapUpdate t m k v=>obtain⟨h1,h2⟩:=mu hg;subst h2;exact .unit (yD h (hρ m) (hρ k) (hρ v) h1)
 case insert t m k v=>obtain⟨h1,h2⟩:=mu hg;subst h2;exact .unit (yD h (hρ m) (hρ k) (hρ v) h1)
 case typeAssert x xt t ok=>obtain⟨h1,h2⟩:=mp hg;subst h2;exact .value (HK h (hρ x) h1)
 case extract x i=>obtain⟨h1,h2⟩:=mp hg;subst h2;exact .value (G9 h (hρ x) h1)
 case call c=>
  obtain⟨callee,args,argTypes⟩:=c;cases callee with
  |builtin b=>
   simp only at hg;obtain⟨D,v,w',h1,h2,h3,h4⟩:=GF (ty:=type) h (vs:=args.map ρ') (by rw[Array.toList_map];exact VRs.mapOp hρ args.toList) hg;exact⟨D,.value v,w',h1,h2,.inl ⟨v,rfl,h3⟩,by simpa[resolve,invoke] using h4 _⟩
  |_=>cases hg
 all_goals cases hg
theorem IM {ρ:Operand->GV} {ρ':Operand->Value} {o:Oper} {g:GV} {σ':GS} (h:Rel C σ w0 w) (hρ:∀x,VR C (ρ x) (ρ' x)) (hc:∀v,ρ' (.const v)=v) (hg:rR P ρ o.op σ=some (g,σ')):
  OpRuns P C w0 w σ' g (execOp ρ' o):=by
 unfold rR at hg;split at hg
 ·rename_i f hf;cases hg;exact AG h hρ hc hf (h.newAt _)
 ·exact PR h hρ hc hg
end
