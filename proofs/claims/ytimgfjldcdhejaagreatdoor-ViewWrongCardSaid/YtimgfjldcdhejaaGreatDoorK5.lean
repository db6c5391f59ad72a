/- Part of ViewWrong. -/
import Derived.Laws.MakeOwn
import Derived.Test.YtimgfjldcdhejaaGreatDoorK4
import Derived.Lib.UnsafeStr
set_option linter.all false
namespace Go.Proofs.YtimgfjldcdhejaaGreatDoor
section
open Go.RowKit
variable [Globals]
section
variable {P : Program} {C : Cx} {σ : GS} {w0 w : World}
theorem a34 (x y:List UInt8):((ByteArray.mk x.toArray)==⟨y.toArray⟩)=(x==y):=by
 show(x.toArray==y.toArray)=_;simp
theorem A0 {d:TypeDesc} {a b:GV} {va vb:Value} (ha:VR C a va) (hb:VR C b vb) {r:Bool} (h:BT d a b=some r):Instr.sameNow d va vb=some r:=by
 unfold BT at h;split at h
 ·cases ha;cases hb;exact h
 ·cases ha;cases hb;cases h;simp only[Instr.sameNow,a34]
 ·cases ha;cases hb;exact h
 ·cases h
theorem V0 {d:TypeDesc} {a b:GV} {va vb:Value} (ha:VR C a va) (hb:VR C b vb) (h:BT d a b=some true) (n:Nat):Instr.sameBits n vb va=true:=by
 unfold BT at h;split at h
 ·cases ha;cases hb;split at h
  ·rename_i hk;subst hk;simp at h;subst h;simp[Instr.sameBits]
  ·cases h
 ·cases ha;cases hb;simp at h;subst h;simp[Instr.sameBits,a34]
 ·cases ha;cases hb;simp at h;subst h;simp[Instr.sameBits]
 ·cases h
theorem rZ {d:TypeDesc} {k:GV} {vk:Value} (hk:VR C k vk):∀(es:List (GV×GV)) (ents:List MapEntry) (i:Nat) (r:Option (Nat×GV)),
  VRs C (es.map (·.1)) (ents.map (·.key))->VRs C (es.map (·.2)) (ents.map (·.val))->mK d k es i=some r->
  match r with
  |none=>Instr.findNow d vk ents i=some none
  |some (j,g)=>∃v,Instr.findNow d vk ents i=some (some (j,v))/\VR C g v/\i<=j/\∃e,ents[j - i]?=some e/\∀n,Instr.sameBits n e.key vk=true
 |[],ents,i,r,h1,_,h=>by
  have:ents=[]:=aM (by simpa using h1.1);subst this;simp only[mK,iY] at h;subst h;rfl
 |(ek,ev)::es,ents,i,r,h1,h2,h=>by
  cases ents with
  |nil=>have:=h1.1;simp at this
  |cons e ents=>
   simp only[dJ] at h1 h2;obtain⟨_,_,e1,hek,hks⟩:=h1.cons_inv;obtain⟨_,_,e2,hev,hvs⟩:=h2.cons_inv;cases e1;cases e2;simp only[mK] at h;split at h
   ·rename_i hs;cases h;refine⟨e.val,?_,hev,rL _,e,by simp,fun n=>V0 hk hek hs n⟩;simp only[Instr.findNow,A0 hk hek hs]
   ·rename_i hs;have ih:=rZ hk es ents (i+1) r hks hvs h;cases r with
    |none=>simp only[Instr.findNow,A0 hk hek hs];exact ih
    |some jg=>
     obtain⟨j,g⟩:=jg;obtain⟨v,a1,a2,a3,e',a4,a5⟩:=ih;refine⟨v,by simp only[Instr.findNow,A0 hk hek hs];exact a1,a2,by omega,e',?_,a5⟩;rw[show j - i=(j - (i+1))+1 by omega];simpa using a4
   ·cases h
theorem xX {kt:TypeId} {d:TypeDesc} {k:GV} {vk:Value} (hd:P.underlying kt=some d) (hk:VR C k vk) (h:ZV d k=true) (b:Bool) (n:Nat):(Instr.checkKey b (n+1) kt vk).run P w=.ok () w:=by
 unfold ZV at h;split at h<;>first
  |(cases h;done)
  |(cases hk;simp[Instr.checkKey,run_underlying hd])
theorem rK {kt:TypeId} {d:TypeDesc} {vk:Value} {ents:List MapEntry} {r:Option (Nat×Value)} (hd:P.underlying kt=some d) (h:Instr.findNow d vk ents 0=some r):
  (Instr.findKey kt vk ents).run P w=.ok r w:=by
 unfold Instr.findKey;simp only[Sem.run_bind,run_underlying hd,Result.andThen_ok,h,Sem.run_pure]
theorem tU {b:Nat} {ents:Array MapEntry} {clk:Nat} (h:w.heap[b]?=some (.map ents clk)):(getObj b).run P w=.ok (.map ents clk) w:=by
 simp[getObj,Sem.run,h]
theorem IW {b:Nat} {ents:Array MapEntry} {clk:Nat} (h:w.heap[b]?=some (.map ents clk)) (o:Obj):(setObj b o).run P w=.ok () {w with heap:=w.heap.setIfInBounds b o}:=by
 simp[setObj,Sem.run,h]
theorem Rel.setMap (h:Rel C σ w0 w) {r b:Nat} (hr:r<σ.objs.length) (hb:C.bk r=some b) (hown:C.own r=none) {ents ents':Array MapEntry} {clk clk':Nat} (hm:w.heap[b]?=some (.map ents clk))
  (es:List (GV×GV)) (h1:VRs C (es.map (·.1)) (ents'.toList.map (·.key))) (h2:VRs C (es.map (·.2)) (ents'.toList.map (·.val))):
  Rel C {σ with objs:=σ.objs.set r (.mp es)} w0 {w with heap:=w.heap.setIfInBounds b (.map ents' clk')}:=by
 have hlt:b<w.heap.size:=(Array.getElem?_eq_some_iff.1 hm).1;refine h.setObj hr hb _ ⟨hown,b,ents',clk',hb,by simp[hlt],h1,h2⟩ rfl rfl rfl (by simp) (fun k hk=>?_);simp only[Array.getElem?_setIfInBounds];rw[aC (Ne.symm hk)]
theorem VRs.map_set {α:Type} (f:α->Value) {gs:List GV} {xs:Array α} (h:VRs C gs (xs.toList.map f)) (i:Nat) (F:α->α) {g:GV} (hg:∀x,VR C g (f (F x))):
  VRs C (gs.set i g) ((xs.modify i F).toList.map f):=by
 have hlen:xs.size=gs.length:=by have:=h.1;simpa using this
 refine⟨by simp[hlen],fun j g' u h1 h2=>?_⟩;rw[aK,dO,Array.getElem?_modify] at h2;rw[List.getElem?_set] at h1;by_cases hij:i=j
 ·subst hij;rw[aD rfl] at h1 h2;split at h1
  ·rename_i hl;cases h1;cases hx:xs[i]? with
   |none=>rw[hx] at h2;cases h2
   |some x=>rw[hx] at h2;cases h2;exact hg x
  ·cases h1
 ·rw[aC hij] at h1 h2;exact h.2 j g' u h1 (by rw[aK,dO];exact h2)
theorem BR {t:TypeId} {m k v:GV} {vm vk vv:Value} {σ':GS} (h:Rel C σ w0 w) (hm:VR C m vm) (hk:VR C k vk) (hv:VR C v vv) (hg:l7 P t m k v σ=some σ'):
  ∃w',Rel C σ' w0 w'/\(Instr.mapUpdate t vm vk vv).run P w=.ok () w':=by
 cases hm with
 |mp hb=>
  rename_i r b;simp only[l7] at hg;split at hg
  ·rename_i kt et hmt;split at hg
   ·rename_i d es hd hobj;split at hg
    ·rename_i hc;simp only[aF,aJ] at hc;obtain⟨hown,b',ents,clk,hb',hheap,hks,hvs⟩:=h.obj r _ hobj;rw[hb] at hb';cases hb';have hr:r<σ.objs.length:=(List.getElem?_eq_some_iff.1 hobj).1;have hck:=xX (w:=w) hd hk hc.2 false 9999;split at hg
     ·rename_i j g hf;cases hg;obtain⟨v0,a1,_,_,e0,a4,a5⟩:=rZ hk es ents.toList 0 _ hks hvs hf;have hfk:=rK (P:=P) (w:=w) hd a1;have hej:ents[j]?=some e0:=by simpa using a4
      have hstay:(Instr.keyThatStays e0.key vk).run P w=.ok vk w:=by
       unfold Instr.keyThatStays;rw[aD (a5 10000)];rfl
      refine⟨_,h.setMap hr hb hown (ents':=ents.modify j fun e=>{e with key:=vk,val:=vv}) (clk':=clk) hheap (es.set j (k,v)) ?_ ?_,?_⟩
      ·rw[List.map_set];exact VRs.map_set (fun e:MapEntry=>e.key) hks j _ (fun _=>hk)
      ·rw[List.map_set];exact VRs.map_set (fun e:MapEntry=>e.val) hvs j _ (fun _=>hv)
      ·unfold Instr.mapUpdate;simp only[Sem.run_bind,run_underlying (y7 hmt),Result.andThen_ok,tU hheap,hck,hfk,hej,dP,jL,hstay,IW hheap]
     ·rename_i hf;cases hg;have a1:=rZ hk es ents.toList 0 _ hks hvs hf;have hfk:=rK (P:=P) (w:=w) hd a1;refine⟨_,h.setMap hr hb hown (ents':=ents.push {key:=vk,val:=vv,born:=clk}) (clk':=clk+1) hheap (es++[(k,v)]) ?_ ?_,?_⟩
      ·simp only[b5,Array.toList_push];exact hks.append (VRs.cons hk VRs.nil)
      ·simp only[b5,Array.toList_push];exact hvs.append (VRs.cons hv VRs.nil)
      ·unfold Instr.mapUpdate;simp only[Sem.run_bind,run_underlying (y7 hmt),Result.andThen_ok,tU hheap,hck,hfk,IW hheap]
     ·cases hg
    ·cases hg
   ·cases hg
  ·cases hg
 |_=>simp[l7] at hg
theorem a0n {g1:GV} {v1:Value} {b:Bool} (hg:VR C g1 v1):VR C (.tup [g1,.b b]) (.tuple #[v1,.bool b]):=by
 have this:VRs C [g1,.b b] [v1,.bool b]:=VRs.cons hg (VRs.cons (VR.b (C:=C) b) VRs.nil);exact .tup rfl (fun j g u h1 h2=>this.2 j g u h1 (by simpa using h2))
theorem LM {t:TypeId} {m k g:GV} {ok:Bool} {vm vk:Value} (h:Rel C σ w0 w) (hm:VR C m vm) (hk:VR C k vk) (hg:sU P t m k ok σ=some g):Runs P C w0 w σ g (Instr.lookup t vm vk ok):=by
 unfold sU at hg;split at hg
 ·rename_i kt et hmt;split at hg
  ·rename_i d z hd hz;split at hg
   ·rename_i hkk;obtain⟨vz,hvz,rfl⟩:=qQ hz w;have fin:∀{g1:GV} {v1:Value} {b:Bool},VR C g1 v1->VR C (if ok then .tup [g1,.b b] else g1) (if ok then .tuple #[v1,.bool b] else v1):=fun hvr=>by
     clear hg;cases ok
     ·exact hvr
     ·exact a0n hvr
    split at hg
    ·rename_i r;cases hm with
     |mp hb=>
     rename_i b;split at hg
     ·rename_i es hobj;obtain⟨hown,b',ents,clk,hb',hheap,hks,hvs⟩:=h.obj r _ hobj;rw[hb] at hb';cases hb';have hck:=xX (w:=w) hd hk hkk ents.isEmpty 9999;split at hg
      ·rename_i j v1 hf;cases hg;obtain⟨v0,a1,a2,_⟩:=rZ hk es ents.toList 0 _ hks hvs hf;have hfk:=rK (P:=P) (w:=w) hd a1;refine .pure h (fin a2) ?_;unfold Instr.lookup;simp only[Sem.run_bind,run_underlying (y7 hmt),Result.andThen_ok,tU hheap,Sem.run_pure,hck,hfk]
      ·rename_i hf;cases hg;have a1:=rZ hk es ents.toList 0 _ hks hvs hf;have hfk:=rK (P:=P) (w:=w) hd a1;refine .pure h (fin (gP C vz)) ?_;unfold Instr.lookup;simp only[Sem.run_bind,run_underlying (y7 hmt),Result.andThen_ok,tU hheap,Sem.run_pure,hck,hfk,hvz]
      ·cases hg
     ·cases hg
    ·cases hm with
     |o hp=>
     cases hg;have hck:=xX (w:=w) hd hk hkk true 9999;have hfk:(Instr.findKey kt vk []).run P w=.ok none w:=rK hd rfl;refine .pure h (fin (gP C vz)) ?_;unfold Instr.lookup;simp only[Sem.run_bind,run_underlying (y7 hmt),Result.andThen_ok,Sem.run_pure];have:(#[]:Array MapEntry).isEmpty=true:=rfl;simp only[this,hck,Result.andThen_ok,hfk,Sem.run_bind,hvz,Sem.run_pure]
    ·cases hg
   ·cases hg
  ·cases hg
 ·cases hg
theorem V6 {t ty:TypeId} {x g:GV} {v:Value} (h:Rel C σ w0 w) (hx:VR C x v) (hg:F6 P t x σ=some g):Runs P C w0 w σ g (Builtin.len_ #[t] ty #[v]):=by
 cases hx with
 |s l=>
  simp only[F6] at hg;split at hg
  ·rename_i hk;cases hg;refine .pure h (.i _ _) ?_;have hs:(ByteArray.mk l.toArray).size=l.length:=by simp[ByteArray.size]
   simp[Builtin.len_,run_underlying (m9 hk),hs,goInt]
  ·cases hg
 |sl esz b off us hn hc ha hw hxx hv ht=>
  simp only[F6] at hg;split at hg
  ·rename_i hk;cases hg;obtain⟨e,he⟩:=uD hk;subst hn;exact .pure h (.i _ _) (by simp[Builtin.len_,run_underlying he,goInt])
  ·cases hg
 |mp hb=>
  rename_i r b;simp only[F6] at hg;split at hg
  ·rename_i es hobj;split at hg
   ·rename_i hm;cases hg;obtain⟨⟨k,e⟩,hm'⟩:=Option.isSome_iff_exists.1 hm;obtain⟨hown,b',ents,clk,hb',hheap,hks,hvs⟩:=h.obj r _ hobj;rw[hb] at hb';cases hb';have hlen:ents.size=es.length:=by have:=hks.1;simpa using this
    refine .pure h (.i _ _) ?_;rw[<-hlen];simp[Builtin.len_,run_underlying (y7 hm'),tU hheap,goInt]
   ·cases hg
  ·cases hg
 |o hp=>
  cases v<;>simp[F6] at hg;rename_i r;cases r<;>simp at hg;obtain⟨hm,rfl⟩:=hg;obtain⟨⟨k,e⟩,hm'⟩:=Option.isSome_iff_exists.1 hm;exact .pure h (.i _ _) (by simp[Builtin.len_,run_underlying (y7 hm'),goInt])
 |rp hb=>simp[F6] at hg
 |rs hb hc hp hx=>
  simp only[F6] at hg;split at hg
  ·rename_i hk;replace hk:=hk.2;cases hg;obtain⟨e,he⟩:=uD hk;exact .pure h (.i _ _) (by simp[Builtin.len_,run_underlying he,goInt])
  ·cases hg
 |_=>simp[F6] at hg
theorem WS {α:Type} {l:List α} (hl:0<l.length):∀(k j:Nat) (g:α),(List.replicate k l).flatten[j]?=some g->l[j%l.length]?=some g
 |0,j,g,h=>by simp at h
 |k+1,j,g,h=>by
  rw[List.replicate_succ,List.flatten_cons] at h;by_cases hj:j<l.length
  ·rw[b7 hj] at h;rw[Nat.mod_eq_of_lt hj];exact h
  ·rw[cJ (by omega)] at h;have:=WS hl k _ _ h;rw[Nat.mod_eq_sub_mod (by omega)];exact this
theorem RF {z:Value} {zs:List GV} (hz:VRs C zs z.cells.toList) (hp:0<zs.length) (k size:Nat) (hs:zs.length=size):VRs C (List.replicate k zs).flatten (madeCells z.cells (k*size)).toList:=by
 have hzs:z.cells.size=size:=by rw[<-bJ,hz.1];exact hs
 refine⟨by rw[bJ,size_madeCells,List.length_flatten];simp[hs],fun j g u h1 h2=>?_⟩;have h3:=WS hp k j g h1;have hm:j%zs.length<zs.length:=Nat.mod_lt _ hp;refine hz.2 _ g u h3 ?_;unfold madeCells at h2;rw[dO] at h2;rw[Array.getElem?_map,aH] at h2;obtain⟨q,hq,rfl⟩:=h2;have hqj:q=j:=by
  obtain⟨h5,h6⟩:=Array.getElem?_eq_some_iff.1 hq;simp at h6;exact h6.symm
 subst hqj;rw[hzs,hs,dO];have:q%size<z.cells.size:=by rw[hzs,<-hs];exact hm
 rw[aP this,getElem!_pos z.cells _ this]
theorem S3 {t:TypeId} {l c g:GV} {vl vc:Value} {σ':GS} (h:Rel C σ w0 w) (hl:VR C l vl) (hc:VR C c vc) (hg:K3 P t l c σ=some (g,σ')):Runs P C w0 w σ' g (Instr.makeSlice t vl vc):=by
 unfold K3 at hg;split at hg
 ·rename_i k n k' m;cases hl;cases hc;split at hg
  ·rename_i e he;split at hg
   ·rename_i size bytes z hs hb hz;split at hg
    ·rename_i hcond;simp only[aF,aJ,dI] at hcond;obtain⟨⟨⟨⟨⟨⟨hzk,hzl⟩,hpos⟩,hby⟩,h0⟩,rfl⟩,hlim⟩:=hcond;cases hg;obtain⟨i,hi,hisz⟩:=EJ hs;have hiby:i.bytes<=4096:=by
      unfold yP at hb;rw[hi] at hb;simp at hb;omega
     unfold mA at hz;rw[hi,cH] at hz;cases hzv:i.zero with
     |none=>rw[hzv] at hz;cases hz
     |some zv=>
     rw[hzv] at hz;have hz:qT zv=z:=by simpa using hz
     subst hz;have hlim':n<=4294967296:=hlim;have hbn:(i.bytes:Int)*n<=4096*4294967296:=Int.mul_le_mul (by omega) hlim' h0 (by decide);have hrun:=run_make (P:=P) w t e i zv (lN he) hi hzv k k' n n h0 (eU _) (by omega) (by omega);obtain⟨hl,hr⟩:=h.newBox _ e (h.newAt _) (madeCells zv.cells (n.toNat*i.size)) (by rw[hisz];exact RF ((gP C zv).cells hzk) (by rw[hzl];exact hpos) n.toNat size hzl);exact⟨_,_,_,hl,hr,.rs (aD rfl) (rL _) hpos (.inr rfl),hrun⟩
    ·cases hg
   ·cases hg
  ·cases hg
 ·cases hg
theorem AB (f:GV->GV->Option GV) (F:Value->Value->Sem Value) (hf:∀x y z vx vy,VR C x vx->VR C y vy->f x y=some z->∃v,(F vx vy).run P w=.ok v w/\VR C z v):
  ∀(ys:List GV) (vs:List Value) (x z:GV) (vx:Value),VR C x vx->VRs C ys vs->K7 f x ys=some z->∃v,(vs.foldlM F vx).run P w=.ok v w/\VR C z v
 |[],vs,x,z,vx,hx,hs,h=>by
  have:vs=[]:=aM (by simpa using hs.1);subst this;cases h;exact⟨vx,rfl,hx⟩
 |y::ys,vs,x,z,vx,hx,hs,h=>by
  obtain⟨v,vs',rfl,hy,hys⟩:=hs.cons_inv;simp only[K7,Option.bind_eq_some_iff] at h;obtain⟨q,hq,hz⟩:=h;obtain⟨u,hu,hqu⟩:=hf x y q vx v hx hy hq;obtain⟨r,hr,hzr⟩:=AB f F hf ys vs' q z u hqu hys hz;exact⟨r,by simp only[List.foldlM_cons,Sem.run_bind,hu,Result.andThen_ok,hr],hzr⟩
theorem SU (w:World) (a:Addr) (n:Nat) (p:Addr):(w.freeze a n).cell? p=w.cell? p:=by
 unfold World.freeze;split
 ·rfl
 ·simp only[World.cell?,Array.getElem?_modify];by_cases h:a.block=p.block
  ·rw[aD h];cases w.heap[p.block]? with
   |none=>rfl
   |some o=>cases o<;>rfl
  ·rw[aC h]
theorem SD {ts:Array TypeId} {ty:TypeId} {x g:GV} {v:Value} (h:Rel C σ w0 w) (hx:VR C x v) (hg:N1 x=some g):Runs P C w0 w σ g (Builtin.unsafeSliceData_ ts ty #[v]):=by
 unfold N1 at hg;split at hg
 ·rename_i r xs;split at hg
  ·rename_i hc;simp only[aF,eL,aQ,dI] at hc;cases hg;have hne:xs≠[]:=fun e=>by rw[e] at hc;simp at hc
   cases hx with
   |sl esz b off us hn hcc ha hw hxx hv ht=>
   rename_i a n c;obtain⟨x0,hx0⟩:=List.exists_mem_of_ne_nil xs hne;have hesz:esz=1:=by rw[<-hw x0 hx0];exact hc.2 x0 hx0
   subst hesz;have hpos:0<xs.length:=List.length_pos_iff.2 hne;have ha':a=some ⟨b,off,none⟩:=by
    rcases ha with⟨_,h2⟩|h2|h2
    ·omega
    ·exact h2
    ·omega
   subst ha';obtain⟨I,hI,hle,hes,htok⟩:=ht;have hlen:(xs.flatMap GV.cells).length=xs.length:=by
    have:=nR xs (n:=1) hc.2;unfold flat at this;omega
   refine .pure h ?_ (Lib.run_unsafeSliceData_row w ts ty _ n c (by omega));have get:∀(j:Nat) g,(xs.flatMap GV.cells)[j]?=some g->∃y,xs[j]?=some y/\y.cells[0]?=some g:=fun j g hj=>by
    have hjl:j<xs.length:=by rw[<-hlen];exact(List.getElem?_eq_some_iff.1 hj).1
    have hy:xs[j]?=some xs[j]:=gL hjl;have hyl:=hc.2 _ (dX hjl);have hz:(xs[j]).cells[0]?=some ((xs[j]).cells[0]'(by omega)):=gL (by omega);have:=KR xs (n:=1) hc.2 j _ 0 _ hy hz;unfold flat at this;rw[Nat.mul_one,k4,hj] at this;cases this;exact⟨_,hy,hz⟩
   refine .dat us (fun j g hj=>?_) (fun j g hj=>?_) ⟨I,hI,by omega,fun he=>?_⟩
   ·obtain⟨y,hy,hz⟩:=get j g hj;have:=hxx j y 0 g hy hz;simpa using this
   ·obtain⟨y,hy,hz⟩:=get j g hj;have:=hv j y 0 g hy hz;simpa using this
   ·rcases htok (by omega) with h1|⟨bb,sz,h1,h2,h3⟩
    ·omega
    ·cases h2;exact⟨rfl,(hes hpos).symm,sz,h1⟩
  ·cases hg
 ·cases hg
theorem RV {pt it ty:TypeId} {x n g:GV} {v vn:Value} {σ':GS} (h:Rel C σ w0 w) (hx:VR C x v) (hn:VR C n vn) (hg:GH P pt x n σ=some (g,σ')):
  Runs P C w0 w σ' g (Builtin.unsafeString_ #[pt,it] ty #[v,vn]):=by
 unfold GH at hg;split at hg
 ·rename_i r cs n;split at hg
  ·rename_i m esz tyo l ho hl;split at hg
   ·rename_i hc;simp only[aF,aJ,dI,eL] at hc;obtain⟨⟨⟨⟨⟨⟨⟨c1,c2⟩,c3⟩,c4⟩,c5⟩,c6⟩,c7⟩,c8⟩:=hc;cases hg;cases hn;subst c1;have hne:l≠[]:=fun e=>by rw[e] at c3;simp at c3
    cases hx with
    |dat us hxx hv ht=>
    rename_i off b;obtain⟨I,hI,hle,htok⟩:=ht;obtain⟨h0,I',hI',hIl,hIe,hIb⟩:=h.obj r _ ho;rw[hI] at hI';cases hI';obtain⟨rfl,he1,sz,hblk⟩:=htok (by omega);obtain⟨⟨p1,p2⟩,vs,hheap,hsz⟩:=hIb b sz hblk;obtain⟨ns,hcs,hl2⟩:=AD cs l hl;have hshape:w.shape? b=some (tyo,vs.size):=by
     simp[World.shape?,hheap]
    have hcl:cs.length=l.length:=by rw[hcs,hl2];simp
    have hcell:∀(j:Nat) (y:UInt8),l[j]?=some y->w.cell? ((⟨b,0,none⟩:Addr).add j)=some (.int .u8 y.toNat):=fun j y hj=>by
     have hns:l[j]?=(ns[j]?).map fun n=>UInt8.ofNat n.toNat:=by rw[hl2,aK]
     rw[hns,aH] at hj;obtain⟨q,hq,rfl⟩:=hj;have hg:cs[j]?=some (.i .u8 q):=by rw[hcs,aK,hq];rfl
     have h1:=hxx j _ hg;have h2:=hv j _ hg;have h3:=List.all_eq_true.1 c8 _ (aE hg);simp only[XT,aF,aJ] at h3;generalize us j=uj at h1 h2;cases h2;rw[l9];have hq2:((UInt8.ofNat q.toNat).toNat:Int)=q:=by
      rw[UInt8.toNat_ofNat'];omega
     rw[hq2];exact h.fxc _ _ _ h1
    have hrun:=Lib.run_unsafeString_row (P:=P) (w:=w) pt it ty tyo (QU c5) c6 b vs.size hshape l hne (by
     rw[<-hcl,hsz];have:m*esz<=sz:=p2;have:esz=1:=by omega
     subst this;omega) (by simp only[jO] at c7;omega) hcell
    refine⟨C,_,_,.refl C,?_,.s l,hrun⟩;have hbC:eI C r=some b:=mF h0 hI hblk;have hlt:b<w.heap.size:=(Array.getElem?_eq_some_iff.1 hheap).1;have hfsz:(w.freeze ⟨b,0,none⟩ l.length).heap.size=w.heap.size:=by
     unfold World.freeze;split<;>simp
    refine Rel.upd b r .dead h (.refl C) (HC (List.getElem?_eq_some_iff.1 ho).1) (fun k hk=>AV k hk) (by simp[Go.Proofs.YtimgfjldcdhejaaGreatDoor.gset]) ?_ ?_ ?_ (by omega) (fun k hk _=>?_)
     (h.new r b hbC) (fun _ _=>⟨rfl,rfl⟩) (fun k hk hkb=>hk (h.inj k r b hkb hbC)) (fun b' hb'=>.inr hb') (fun b' o v hf=>?_) (fun _ _ _ hf=>.inl hf) ⟨.inl h0,fun b' hb'=>?_⟩
     (fun b' o v hb' hf=>h.sepB r b' o v hb' hf) (fun I b' sz o v hI hb' hf=>h.sepO r I b' sz o v hI hb' hf)
    ·unfold World.freeze;split<;>rfl
    ·unfold World.freeze;split<;>rfl
    ·unfold World.freeze;split<;>rfl
    ·unfold World.freeze;split
     ·rfl
     ·simp only[Array.getElem?_modify];rw[aC (Ne.symm hk)]
    ·rw[SU];exact h.fxc b' o v hf
    ·rw[hbC] at hb';cases hb';omega
   ·cases hg
  ·cases hg
 ·cases hg
theorem P9 {t ty:TypeId} {x g:GV} {v:Value} {σ':GS} (h:Rel C σ w0 w) (hx:VR C x v) (hg:CJ P t x σ=some (g,σ')):Runs P C w0 w σ' g (Builtin.clear_ #[t] ty #[v]):=by
 unfold CJ at hg;split at hg
 ·rename_i r off esz n c;split at hg
  ·rename_i e he;split at hg
   ·rename_i size z T cs hs hz hcs;split at hg
    ·rename_i hq;simp only[aF,aJ] at hq;obtain⟨⟨⟨⟨hok,rfl⟩,hpos⟩,hlo⟩,hlen⟩:=hq;cases hx with
     |rp hb=>omega
     |rs hb hcc hp hxc=>
     rename_i b c';cases hg;obtain⟨zv,hzr,rfl⟩:=qQ hz w;obtain⟨h0,b',vs,h1,h2,h3,hx9⟩:=h.obj r _ hcs;rw[hb] at h1;cases h1;have hzl:=rR hok;have hk:=RF (C:=C) ((gP C zv).cells (u7 hok)) (by rw[hzl];exact hp) n esz hzl;have hzs:zv.cells.size=esz:=by rw[<-bJ,((gP C zv).cells (u7 hok)).1];exact hzl
     have hll:(List.replicate n (qT zv).cells).flatten.length=n*esz:=by rw[List.length_flatten];simp[hzl]
     have hvl:(madeCells zv.cells (n*esz)).toList.length=n*esz:=by rw[hk.1,hll]
     have hvs:cs.length<=vs.toList.length:=by have:=h3.1;rw[aS] at this;omega
     have hvz:vs.toList.length=vs.size:=bJ;have h1c:∀u∈(madeCells zv.cells (n*esz)).toList,u.oneCell'=true:=fun u hu=>by
      obtain⟨j,hj⟩:=List.mem_iff_getElem?.1 hu;have hjl:j<(List.replicate n (qT zv).cells).flatten.length:=by rw[<-hk.1];exact(List.getElem?_eq_some_iff.1 hj).1
      refine(hk.2 j _ u (gL hjl) hj).isCell (EU hok _ ?_);have hm:=dX hjl;rw[List.mem_flatten] at hm;obtain⟨l,hl1,hl2⟩:=hm;rw[(List.mem_replicate.1 hl1).2] at hl2;exact hl2
     have hrun:=run_storeCells_at P b off T (madeCells zv.cells (n*esz)).toList 0 vs w h2 (by rw[hvl];omega) h1c;have hund:=lN he;have main:∀(hw:World) (hr:(storeCells ⟨b,off,none⟩ (madeCells zv.cells (n*esz)).toList 0).run P w=.ok () hw),(Builtin.clear_ #[t] ty #[.slice (some ⟨b,off,none⟩) n c']).run P w=.ok (.tuple #[]) hw:=fun hw hr=>by
      have e9:(Builtin.zeroCells zv.cells n)=madeCells zv.cells (n*esz):=by
       unfold Builtin.zeroCells madeCells;rw[hzs]
      cases n with
      |zero=>
       rw[Nat.zero_mul] at hr;have:(madeCells zv.cells 0).toList=[]:=by simp[madeCells]
       rw[this] at hr;have hw9:hw=w:=by
        simp[storeCells] at hr;exact hr.symm
       subst hw9;simp[Builtin.clear_,run_underlying hund]
      |succ n=>
       simp only[Builtin.clear_,List.getElem?_toArray,List.getElem?_cons_zero,Sem.run_bind,run_underlying hund,Result.andThen_ok,hzr,e9,hr,Sem.run_pure]
     refine⟨C,_,_,.refl C,?_,.tup (vs:= #[]) rfl (fun j g u h1=>by simp at h1),main _ hrun⟩;refine Rel.setObj h (List.getElem?_eq_some_iff.1 hcs).1 hb _ ⟨h0,b,_,hb,setRow_heap w b vs _ T (0,0) h2,?_⟩ rfl rfl rfl (by simp) (fun k hk=>setRow_other w b k _ hk);simp only[k4];rw[hvl];have e1:(cs.take off++(List.replicate n (qT zv).cells).flatten++cs.drop (off+n*esz)).length=cs.length:=by simp only[aG,aS,d9,hll];omega
     refine⟨?_,fun hT=>?_⟩
     ·rw[e1];have h4:=((h3.take off).append hk).append (h3.drop (off+n*esz));have h5:=IO (us:=(madeCells zv.cells (n*esz)).toList) (k:=n*esz) hlen hvs hvl;rw[h5];exact h4
     ·rw[e1,<-hx9 hT];simp only[List.size_toArray,aG,aS,d9,hvl];omega
    ·cases hg
   ·cases hg
  ·cases hg
 ·cases hg
theorem KE {b:Builtin} {ts:Array TypeId} {ty:TypeId} {args:List GV} {vs:Array Value} {g:GV} {σ':GS} (h:Rel C σ w0 w) (ha:VRs C args vs.toList)
  (hg:nP P b ts.toList args σ=some (g,σ')):∃D v w',C.le D/\Rel D σ' w0 w'/\VR D g v/\∀consts,(builtin b ts ty consts vs).run P w=.ok (.value v) w':=by
 have wrap:∀{s:Sem Value},Runs P C w0 w σ' g s->∃D v w',C.le D/\Rel D σ' w0 w'/\VR D g v/\∀_:Array Bool,((do pure (Next.value (<-s))):Sem Next).run P w=.ok (.value v) w':=by
  rintro s ⟨D,v,w',h1,h2,h3,h4⟩;exact⟨D,v,w',h1,h2,h3,fun _=>by simp[h4]⟩
 obtain⟨tsl⟩:=ts;obtain⟨vsl⟩:=vs;simp only at ha hg;unfold nP at hg;split at hg
 ·rename_i t x;obtain⟨v,vs',rfl,hx,hs⟩:=ha.cons_inv;have:vs'=[]:=aM (by simpa using hs.1);subst this;cases hl:F6 P t x σ with
  |none=>rw[hl] at hg;cases hg
  |some q=>
   rw[hl] at hg;cases hg;exact wrap (V6 h hx hl)
 ·rename_i t u s x;obtain⟨v,vs',rfl,hv,hs⟩:=ha.cons_inv;obtain⟨v2,vs'',rfl,hv2,hs2⟩:=hs.cons_inv;have:vs''=[]:=aM (by simpa using hs2.1);subst this;exact wrap (LQ h hv hv2 hg)
 ·rename_i x;obtain⟨v,vs',rfl,hx,hs⟩:=ha.cons_inv;have:vs'=[]:=aM (by simpa using hs.1);subst this;cases hl:N1 x with
  |none=>rw[hl] at hg;cases hg
  |some q=>
   rw[hl] at hg;cases hg;exact wrap (SD h hx hl)
 ·rename_i pt it x n;obtain⟨v,vs',rfl,hv,hs⟩:=ha.cons_inv;obtain⟨v2,vs'',rfl,hv2,hs2⟩:=hs.cons_inv;have:vs''=[]:=aM (by simpa using hs2.1);subst this;exact wrap (RV h hv hv2 hg)
 ·rename_i t x;obtain⟨v,vs',rfl,hx,hs⟩:=ha.cons_inv;have:vs'=[]:=aM (by simpa using hs.1);subst this;exact wrap (P9 h hx hg)
 ·rename_i x xs;obtain⟨v,vs',rfl,hv,hs⟩:=ha.cons_inv;cases hl:K7 XP x xs with
  |none=>rw[hl] at hg;cases hg
  |some q=>
   rw[hl] at hg;cases hg;obtain⟨r,hr,hq⟩:=AB (P:=P) (w:=w) XP Builtin.min2 (fun x y z vx vy hx hy hz=>by
    unfold XP at hz;split at hz
    ·cases hx;cases hy;cases hz;exact⟨_,rfl,.i _ _⟩
    ·cases hz) xs vs' x _ v hv hs hl
   exact wrap (.pure h hq (by simpa[Builtin.min_] using hr))
 ·rename_i x xs;obtain⟨v,vs',rfl,hv,hs⟩:=ha.cons_inv;cases hl:K7 XQ x xs with
  |none=>rw[hl] at hg;cases hg
  |some q=>
   rw[hl] at hg;cases hg;obtain⟨r,hr,hq⟩:=AB (P:=P) (w:=w) XQ Builtin.max2 (fun x y z vx vy hx hy hz=>by
    unfold XQ at hz;split at hz
    ·cases hx;cases hy;cases hz;exact⟨_,rfl,.i _ _⟩
    ·cases hz) xs vs' x _ v hv hs hl
   exact wrap (.pure h hq (by simpa[Builtin.max_] using hr))
 ·cases hg
def a86 (C:Cx) (nx:Next) (g:GV):Prop:=(∃v,nx=.value v/\VR C g v)∨(nx=.skip/\g=.any)
def OpRuns (P:Program) (C:Cx) (w0 w:World) (σ':GS) (g:GV) (s:Sem Next):Prop:=∃D nx w',C.le D/\Rel D σ' w0 w'/\a86 D nx g/\s.run P w=.ok nx w'
theorem OpRuns.value {σ':GS} {g:GV} {s:Sem Value} (h:Runs P C w0 w σ' g s):OpRuns P C w0 w σ' g (do pure (Next.value (<-s))):=by
 obtain⟨D,v,w',h1,h2,h3,h4⟩:=h;exact⟨D,.value v,w',h1,h2,.inl ⟨v,rfl,h3⟩,by simp[h4]⟩
theorem OpRuns.unit {σ':GS} {s:Sem Unit} (h:∃w',Rel C σ' w0 w'/\s.run P w=.ok () w'):OpRuns P C w0 w σ' .any (do s;pure Next.skip):=by
 obtain⟨w',h2,h4⟩:=h;exact⟨C,.skip,w',.refl C,h2,.inr ⟨rfl,rfl⟩,by simp[h4]⟩
theorem OR.map {ρ:Operand->GV} {ρ':Operand->Value} (h:∀x,VR C (ρ x) (ρ' x)) (x:Option Operand):OR C (x.map ρ) (x.map ρ'):=by
 cases x with
 |none=>exact .none
 |some x=>exact .some (h x)
theorem VRs.mapOp {ρ:Operand->GV} {ρ':Operand->Value} (h:∀x,VR C (ρ x) (ρ' x)) (xs:List Operand):VRs C (xs.map ρ) (xs.map ρ'):=by
 refine⟨by simp,fun j g u h1 h2=>?_⟩;simp only[aK,aH] at h1 h2;obtain⟨p,hp,rfl⟩:=h1;obtain⟨q,hq,rfl⟩:=h2;rw[hp] at hq;cases hq;exact h _
theorem DM {ρ:Operand->GV} {ρ':Operand->Value} {o:Oper} {f:TC} {r0:Nat} {σ':GS} (h:Rel C σ w0 w) (hρ:∀x,VR C (ρ x) (ρ' x)) (hc:∀v,ρ' (.const v)=v) (hg:iT P ρ o.op=some f)
  (hx:NewAt C σ r0 f.2 σ'):OpRuns P C w0 w σ' (f.1 r0) (execOp ρ' o):=by
 obtain⟨dst,op,type,pos,after,guard⟩:=o;simp only at hg;unfold iT at hg;split at hg
 ·cases hg;obtain⟨D,hl,ho,hr⟩:=h.newNil hx;refine⟨D,_,w,hl,hr,.inl ⟨_,rfl,?_⟩,rfl⟩;rw[hc];exact .sl 0 0 0 (fun _=>undef) rfl (rL _) (.inl ⟨rfl,rfl⟩) (fun x hx=>by cases hx) (fun i x j g h=>by simp at h) (fun i x j g h=>by simp at h)
   ⟨_,ho,rL _,fun h=>absurd h (by simp),fun _=>.inl ⟨rfl,rfl⟩⟩
 ·exact .value (PG h hg hx _)
 ·exact .value (VE h (hρ _) hg hx)
 ·exact .value (DN h (by rw[Array.toList_map];exact PRs.of hρ) hg hx)
 ·cases hg;obtain⟨hl,hr⟩:=h.newMap hx;exact .value ⟨_,_,_,hl,hr,.mp (aD rfl),by simp[Instr.makeMap]⟩
 ·cases hg
theorem V3 {ρ:Operand->GV} {ρ':Operand->Value} {o:Oper} {g:GV} {σ':GS} (h:Rel C σ w0 w) (hρ:∀x,VR C (ρ x) (ρ' x)) (hc:∀v,ρ' (.const v)=v) (hg:sS P ρ o.op σ=some (g,σ')):
  OpRuns P C w0 w σ' g (execOp ρ' o):=by
 obtain⟨dst,op,type,pos,after,guard⟩:=o;simp only at hg;have mp:∀{x:Option GV} {q:GV×GS},x.map (fun v=>(v,σ))=some q->x=some q.1/\q.2=σ:=fun hx=>by
  rw[aH] at hx;obtain⟨a,rfl,rfl⟩:=hx;exact⟨rfl,rfl⟩
 have mu:∀{x:Option GS} {q:GV×GS},x.map (fun s=>(GV.any,s))=some q->x=some q.2/\q.1=.any:=fun hx=>by
  rw[aH] at hx;obtain⟨a,rfl,rfl⟩:=hx;exact⟨rfl,rfl⟩
 cases op<;>simp only[sS] at hg<;>simp only[execOp]
 case move x=>cases hg;exact⟨C,_,w,.refl C,h,.inl ⟨_,rfl,hρ x⟩,rfl⟩
 case assign x=>cases hg;exact⟨C,_,w,.refl C,h,.inl ⟨_,rfl,hρ _⟩,rfl⟩
 case pick c a b=>
  split at hg
  ·rename_i t ht;cases hg;have hcv:=hρ c;rw[ht] at hcv;generalize hv:ρ' c=v at hcv;cases hcv;refine⟨C,_,w,.refl C,h,.inl ⟨if t then ρ' a else ρ' b,rfl,?_⟩,by simp[asBool]⟩;cases t
   ·exact hρ b
   ·exact hρ a
  ·cases hg
 case build t ps=>
  obtain⟨h1,h2⟩:=mp hg;subst h2;exact .value (PC h (by rw[Array.toList_map];exact PRs.of hρ) h1)
 case load t a=>obtain⟨h1,h2⟩:=mp hg;subst h2;exact .value (S5 h (hρ a) h1)
 case store t a v=>obtain⟨h1,h2⟩:=mu hg;subst h2;exact .unit (OT h (hρ a) (hρ v) h1)
 case nilCheck x=>
  obtain⟨h1,h2⟩:=mp hg;subst h2;have hv:=hρ x;generalize ρ' x=v at hv;generalize ρ x=q at hv h1;unfold MX at h1;split at h1<;>first|(cases h1;done)|skip
  all_goals
   cases h1;cases hv;refine⟨C,_,w,.refl C,h,.inl ⟨_,rfl,?_⟩,rfl⟩;constructor<;>assumption
 case binOp op t x y yt=>obtain⟨h1,h2⟩:=mp hg;subst h2;exact .value (VH h (hρ x) (hρ y) h1)
 case unOp op t x=>obtain⟨h1,h2⟩:=mp hg;subst h2;exact .value (ZQ h (hρ x) h1)
 case convert s d x=>obtain⟨h1,h2⟩:=mp hg;subst h2;exact .value (KD h (hρ x) h1)
 case makeInterface t x=>obtain⟨h1,h2⟩:=mp hg;subst h2;exact .value (F4 h (hρ x) h1)
 case makeFunc f a c=>
  cases hg;refine .value (.pure h (v:=.func f (a.map ρ') (c.map ρ')) ?_ rfl);have h1:=VRs.mapOp hρ a.toList;have h2:=VRs.mapOp hρ c.toList;exact .fn (by simp) (by simp) (fun j g u a1 a2=>h1.2 j g u a1 (by simpa using a2)) (fun j g u a1 a2=>h2.2 j g u a1 (by simpa using a2))
 case slice t x lo hi mx=>obtain⟨h1,h2⟩:=mp hg;subst h2;exact .value (OX h (hρ x) (OR.map hρ lo) (OR.map hρ hi) (OR.map hρ mx) h1)
 case fieldAddr s x f=>obtain⟨h1,h2⟩:=mp hg;subst h2;exact .value (F9 h (hρ x) h1)
 case field s x f=>obtain⟨h1,h2⟩:=mp hg;subst h2;exact .value (P4 h (hρ x) h1)
 case makeSlice t l c=>exact .value (S3 h (hρ l) (hρ c) hg)
 case indexAddr t x i=>obtain⟨h1,h2⟩:=mp hg;subst h2;exact .value (F7 h (hρ x) (hρ i) h1)
 case index t x i=>obtain⟨h1,h2⟩:=mp hg;subst h2;exact .value (P2 h (hρ x) (hρ i) h1)
 case lookup t m k ok=>obtain⟨h1,h2⟩:=mp hg;subst h2;exact .value (LM h (hρ m) (hρ k) h1)
 case mapUpdate t m k v=>obtain⟨h1,h2⟩:=mu hg;subst h2;exact .unit (BR h (hρ m) (hρ k) (hρ v) h1)
 case insert t m k v=>obtain⟨h1,h2⟩:=mu hg;subst h2;exact .unit (BR h (hρ m) (hρ k) (hρ v) h1)
 case typeAssert x xt t ok=>obtain⟨h1,h2⟩:=mp hg;subst h2;exact .value (LP h (hρ x) h1)
 case extract x i=>obtain⟨h1,h2⟩:=mp hg;subst h2;exact .value (K8 h (hρ x) h1)
 case call c=>
  obtain⟨callee,args,argTypes⟩:=c;cases callee with
  |builtin b=>
   simp only at hg;obtain⟨D,v,w',h1,h2,h3,h4⟩:=KE (ty:=type) h (vs:=args.map ρ') (by rw[Array.toList_map];exact VRs.mapOp hρ args.toList) hg;exact⟨D,.value v,w',h1,h2,.inl ⟨v,rfl,h3⟩,by simpa[resolve,invoke] using h4 _⟩
  |_=>cases hg
 all_goals cases hg
theorem MU {ρ:Operand->GV} {ρ':Operand->Value} {o:Oper} {g:GV} {σ':GS} (h:Rel C σ w0 w) (hρ:∀x,VR C (ρ x) (ρ' x)) (hc:∀v,ρ' (.const v)=v) (hg:uR P ρ o.op σ=some (g,σ')):
  OpRuns P C w0 w σ' g (execOp ρ' o):=by
 unfold uR at hg;split at hg
 ·rename_i f hf;cases hg;exact DM h hρ hc hf (h.newAt _)
 ·exact V3 h hρ hc hg
end
end
section
open Go.RowKit
variable [Globals]
def TS (n:Nat):Tok->Bool
 |.own r=>r<n
 |_=>true
mutual
def GV.bel (n:Nat):GV->Bool
 |.agg cs=>GV.belL n cs
 |.tup cs=>GV.belL n cs
 |.ifc _ g=>GV.bel n g
 |.fn _ a c=>GV.belL n a&&GV.belL n c
 |.sl k xs=>TS n k&&GV.belL n xs
 |.ptr r _=>r<n
 |.snap cs _=>GV.belL n cs
 |.mp r=>r<n
 |.rs r _ _ _ _=>r<n
 |.yld r=>r<n
 |.dat r cs=>r<n&&GV.belL n cs
 |.glb _ _=>true
 |.b _=>true
 |.i _ _=>true
 |.s _=>true
 |.o _=>true
 |.any=>true
def GV.belL (n:Nat):List GV->Bool
 |[]=>true
 |x::xs=>GV.bel n x&&GV.belL n xs
end
mutual
def GV.pur:GV->GV
 |.agg cs=>.agg (GV.purL cs)
 |.tup cs=>.tup (GV.purL cs)
 |.ifc t g=>.ifc t (GV.pur g)
 |.fn f a c=>.fn f (GV.purL a) (GV.purL c)
 |.sl _ xs=>.sl .none (GV.purL xs)
 |.ptr r off=>.ptr r off
 |.snap cs off=>.snap (GV.purL cs) off
 |.mp r=>.mp r
 |.rs r off esz n c=>.rs r off esz n c
 |.yld r=>.yld r
 |.dat r cs=>.dat r (GV.purL cs)
 |.glb g off=>.glb g off
 |.b t=>.b t
 |.i k n=>.i k n
 |.s l=>.s l
 |.o v=>.o v
 |.any=>.any
def GV.purL:List GV->List GV
 |[]=>[]
 |x::xs=>GV.pur x::GV.purL xs
end
theorem oY:∀xs:List GV,GV.purL xs=xs.map GV.pur
 |[]=>rfl
 |x::xs=>by rw[GV.purL,oY xs];rfl
theorem L7 (n:Nat):∀xs:List GV,GV.belL n xs=xs.all (GV.bel n)
 |[]=>rfl
 |x::xs=>by rw[GV.belL,L7 n xs];rfl
theorem s8 {n:Nat} {xs:List GV} (h:GV.belL n xs=true):∀x∈xs,GV.bel n x=true:=by
 rw[L7] at h;simpa using h
theorem vH {n:Nat} {xs:List GV} (h:∀x∈xs,GV.bel n x=true):GV.belL n xs=true:=by
 rw[L7];simpa using h
theorem MB (x:GV):x.pur.cells=x.cells.map GV.pur:=by
 cases x<;>simp[GV.pur,GV.cells,oY]
theorem a0H {n:Nat} {x:GV} (h:GV.bel n x=true):∀g∈x.cells,GV.bel n g=true:=by
 intro g hg;cases x with
 |agg cs=>
  rw[GV.bel] at h;exact s8 h g hg
 |_=>simp[GV.cells] at hg;subst hg;exact h
theorem PZ {n:Nat} {x:GV} (h:∀g∈x.cells,GV.bel n g=true):GV.bel n x=true:=by
 cases x with
 |agg cs=>rw[GV.bel];exact vH h
 |_=>exact h _ (by simp[GV.cells])
theorem VR.pur {C:Cx} {g:GV} {v:Value} (h:VR C g v):VR C g.pur v:=by
 induction h with
 |b x=>exact .b x
 |i k n=>exact .i k n
 |s x=>exact .s x
 |o h=>exact .o h
 |agg hl _ ih=>
  rw[GV.pur,oY];refine .agg (by simpa using hl) (fun j g u h1 h2=>?_);rw[aK,aH] at h1;obtain⟨a,ha,rfl⟩:=h1;exact ih j a u ha h2
 |tup hl _ ih=>
  rw[GV.pur,oY];refine .tup (by simpa using hl) (fun j g u h1 h2=>?_);rw[aK,aH] at h1;obtain⟨a,ha,rfl⟩:=h1;exact ih j a u ha h2
 |ifc _ ih=>exact .ifc ih
 |fn h1 h2 _ _ ih1 ih2=>
  rw[GV.pur,oY,oY];refine .fn (by simpa using h1) (by simpa using h2) (fun j g u h1 h2=>?_) (fun j g u h1 h2=>?_)<;>
  ·rw[aK,aH] at h1;obtain⟨a,ha,rfl⟩:=h1;first|exact ih1 j a u ha h2|exact ih2 j a u ha h2
 |sl esz b off us hn hc ha hw hx hv ht ih=>
  rw[GV.pur,oY];have get:∀{xs:List GV} {i:Nat} {x:GV} {j:Nat} {g:GV},(xs.map GV.pur)[i]?=some x->x.cells[j]?=some g->∃y z,xs[i]?=some y/\y.cells[j]?=some z/\g=z.pur:=fun h1 h2=>by
   rw[aK,aH] at h1;obtain⟨y,hy,rfl⟩:=h1;rw[MB,aK,aH] at h2;obtain⟨z,hz,rfl⟩:=h2;exact⟨y,z,hy,hz,rfl⟩
  refine .sl esz b off us (by simpa using hn) hc ha (fun x hx=>?_) (fun i x j g h1 h2=>?_) (fun i x j g h1 h2=>?_) trivial
  ·obtain⟨y,hy,rfl⟩:=List.mem_map.1 hx;rw[MB,b6];exact hw y hy
  ·obtain⟨y,z,hy,hz,rfl⟩:=get h1 h2;exact hx i y j z hy hz
  ·obtain⟨y,z,hy,hz,rfl⟩:=get h1 h2;exact ih i y j z hy hz
 |ptr h=>exact .ptr h
 |snap b o us hx _ ih=>
  rw[GV.pur,oY];refine .snap b o us (fun j g h1=>?_) (fun j g h1=>?_)<;>
  ·rw[aK,aH] at h1;obtain⟨a,ha,rfl⟩:=h1;first|exact hx j a ha|exact ih j a ha
 |dat us hx _ ht ih=>
  rw[GV.pur,oY];refine .dat us (fun j g h1=>?_) (fun j g h1=>?_) (by rw[b6];exact ht)<;>
  ·rw[aK,aH] at h1;obtain⟨a,ha,rfl⟩:=h1;first|exact hx j a ha|exact ih j a ha
 |mp h=>exact .mp h
 |rs h hc hp hx=>exact .rs h hc hp hx
 |rp h=>exact .rp h
 |yld h=>exact .yld h
 |glb g o=>exact .glb g o
 |any v=>exact .any v
def Cx.cut (D:Cx) (n:Nat):Cx:={hd:=D.hd,mine:=D.mine,f0:=D.f0,fx:=D.fx,bk:=fun r=>if r<n then D.bk r else none,own:=fun r=>if r<n then D.own r else none}
theorem VR.cut {D:Cx} {n:Nat} {g:GV} {v:Value} (h:VR D g v) (hb:GV.bel n g=true):VR (D.cut n) g v:=by
 induction h with
 |b x=>exact .b x
 |i k n=>exact .i k n
 |s x=>exact .s x
 |o h=>exact .o h
 |agg hl _ ih=>exact .agg hl (fun j g u h1 h2=>ih j g u h1 h2 (s8 (by simpa[GV.bel] using hb) g (aE h1)))
 |tup hl _ ih=>exact .tup hl (fun j g u h1 h2=>ih j g u h1 h2 (s8 (by simpa[GV.bel] using hb) g (aE h1)))
 |ifc _ ih=>exact .ifc (ih (by simpa[GV.bel] using hb))
 |fn h1 h2 _ _ ih1 ih2=>
  simp only[GV.bel,aF] at hb;exact .fn h1 h2 (fun j g u h1 h2=>ih1 j g u h1 h2 (s8 hb.1 g (aE h1))) (fun j g u h1 h2=>ih2 j g u h1 h2 (s8 hb.2 g (aE h1)))
 |sl esz b off us hn hc ha hw hx hv ht ih=>
  simp only[GV.bel,aF] at hb;refine .sl esz b off us hn hc ha hw hx (fun i x j g h1 h2=>ih i x j g h1 h2 (a0H (s8 hb.2 x (aE h1)) g (aE h2))) ?_;rename_i k xs a n' c;cases k with
  |none=>trivial
  |full=>exact ht
  |own r=>
   obtain⟨I,hI,h2⟩:=ht;have hr:r<n:=by simpa[TS] using hb.1
   exact⟨I,(aD hr).trans hI,h2⟩
 |ptr h=>exact .ptr ((aD (by simpa[GV.bel] using hb)).trans h)
 |snap b o us hx _ ih=>exact .snap b o us hx (fun j g h1=>ih j g h1 (s8 (by simpa[GV.bel] using hb) g (aE h1)))
 |mp h=>exact .mp ((aD (by simpa[GV.bel] using hb)).trans h)
 |rs h hc hp hx=>exact .rs ((aD (by simpa[GV.bel] using hb)).trans h) hc hp hx
 |rp h=>exact .rp ((aD (by simpa[GV.bel] using hb)).trans h)
 |yld h=>exact .yld ((aD (by simpa[GV.bel] using hb)).trans h)
 |dat us hx _ ht ih=>
  simp only[GV.bel,aF] at hb;obtain⟨I,hI,h2⟩:=ht;exact .dat us hx (fun j g h1=>ih j g h1 (s8 hb.2 g (aE h1))) ⟨I,(aD (by simpa using hb.1)).trans hI,h2⟩
 |glb g o=>exact .glb g o
 |any v=>exact .any v
theorem VR.bel {C:Cx} {n:Nat} (hbk:∀r b,C.bk r=some b->r<n) (hown:∀r I,C.own r=some I->r<n) {g:GV} {v:Value} (h:VR C g v):GV.bel n g=true:=by
 induction h with
 |agg hl _ ih=>
  rename_i cs vs _;rw[GV.bel];refine vH (fun x hx=>?_);obtain⟨j,hj⟩:=List.mem_iff_getElem?.1 hx;have hlt:j<cs.length:=(List.getElem?_eq_some_iff.1 hj).1;exact ih j x _ hj (aP (by omega))
 |tup hl _ ih=>
  rename_i cs vs _;rw[GV.bel];refine vH (fun x hx=>?_);obtain⟨j,hj⟩:=List.mem_iff_getElem?.1 hx;have hlt:j<cs.length:=(List.getElem?_eq_some_iff.1 hj).1;exact ih j x _ hj (aP (by omega))
 |ifc _ ih=>rw[GV.bel];exact ih
 |fn h1 h2 _ _ ih1 ih2=>
  rename_i a c va vc _ _;rw[GV.bel,aF];constructor
  ·refine vH (fun x hx=>?_);obtain⟨j,hj⟩:=List.mem_iff_getElem?.1 hx;have hlt:j<a.length:=(List.getElem?_eq_some_iff.1 hj).1;exact ih1 j x _ hj (aP (by omega))
  ·refine vH (fun x hx=>?_);obtain⟨j,hj⟩:=List.mem_iff_getElem?.1 hx;have hlt:j<c.length:=(List.getElem?_eq_some_iff.1 hj).1;exact ih2 j x _ hj (aP (by omega))
 |sl esz b off us hn hc ha hw hx hv ht ih=>
  rw[GV.bel,aF];refine⟨?_,vH (fun x hx=>PZ (fun g hg=>?_))⟩
  ·rename_i k xs a n' c;cases k with
   |own r=>obtain⟨I,hI,_⟩:=ht;simpa[TS] using hown r I hI
   |_=>rfl
  ·obtain⟨i,hi⟩:=List.mem_iff_getElem?.1 hx;obtain⟨j,hj⟩:=List.mem_iff_getElem?.1 hg;exact ih i x j g hi hj
 |ptr h=>rw[GV.bel];simpa using hbk _ _ h
 |snap b o us hx _ ih=>
  rw[GV.bel];refine vH (fun x hx=>?_);obtain⟨j,hj⟩:=List.mem_iff_getElem?.1 hx;exact ih j x hj
 |mp h=>rw[GV.bel];simpa using hbk _ _ h
 |rs h hc hp hx=>rw[GV.bel];simpa using hbk _ _ h
 |rp h=>rw[GV.bel];simpa using hbk _ _ h
 |yld h=>rw[GV.bel];simpa using hbk _ _ h
 |dat us hx _ ht ih=>
  obtain⟨I,hI,h2⟩:=ht;rw[GV.bel,aF];refine⟨by simpa using hown _ I hI,vH (fun x hx=>?_)⟩;obtain⟨j,hj⟩:=List.mem_iff_getElem?.1 hx;exact ih j x hj
 |_=>rfl
theorem VRs.pur {C:Cx} {gs:List GV} {vs:List Value} (h:VRs C gs vs):VRs C (gs.map GV.pur) vs:=by
 refine⟨by simp[h.1],fun j g u h1 h2=>?_⟩;rw[aK,aH] at h1;obtain⟨a,ha,rfl⟩:=h1;exact(h.2 j a u ha h2).pur
theorem tL {D:Cx} {n r b:Nat} (h:eI (D.cut n) r=some b):eI D r=some b/\r<n:=by
 by_cases hr:r<n
 ·refine⟨?_,hr⟩;have h1:(D.cut n).bk r=D.bk r:=aD hr;have h2:(D.cut n).own r=D.own r:=aD hr;simpa[eI,h1,h2] using h
 ·have h1:(D.cut n).bk r=none:=aC hr;have h2:(D.cut n).own r=none:=aC hr;simp[eI,h1,h2] at h
theorem Rel.cut {C D:Cx} {σ σ':GS} {w0 w w':World} (h:Rel C σ w0 w) (hl:C.le D) (h':Rel D σ' w0 w') (hk:∀r,r<σ.objs.length->σ'.objs[r]?=σ.objs[r]?):
  C.le (D.cut σ.objs.length)/\Rel (D.cut σ.objs.length) σ w0 w':=by
 have hbk:∀r b,C.bk r=some b->r<σ.objs.length:=fun r b hb=>by
  rcases eO r σ.objs.length with h1|h1
  ·exact h1
  ·rw[(h.dom r h1).1] at hb;cases hb
 have hown:∀r I,C.own r=some I->r<σ.objs.length:=fun r I hb=>by
  rcases eO r σ.objs.length with h1|h1
  ·exact h1
  ·rw[(h.dom r h1).2] at hb;cases hb
 have cutVRs:∀{gs:List GV} {us vs:List Value},VRs C gs us->VRs D gs vs->VRs (D.cut σ.objs.length) gs vs:=fun hc hd=>by
  refine⟨hd.1,fun j g u h1 h2=>(hd.2 j g u h1 h2).cut ?_⟩;obtain⟨u0,_,hr⟩:=hc.get h1;exact hr.bel hbk hown
 refine⟨⟨hl.fx,fun r b hb=>(aD (hbk r b hb)).trans (hl.bk r b hb),fun r I hI=>?_,hl.hd,hl.fix⟩,h'.below,h'.fxc,fun r x hx=>?_,fun r hr=>⟨aC (by omega),aC (by omega)⟩,
  fun r b hb=>h'.new r b (tL hb).1,fun r r' b hb hb'=>h'.inj r r' b (tL hb).1 (tL hb').1,fun r b o v hb hx=>?_,fun r I b sz o v hI hb hx=>?_,h'.fxn,h'.gl,h'.gs⟩
 ·obtain⟨J,hJ,e⟩:=hl.own r I hI;exact⟨J,(aD (hown r I hI)).trans hJ,e⟩
 ·have hr:r<σ.objs.length:=(List.getElem?_eq_some_iff.1 hx).1;have h1:=h'.obj r x ((hk r hr).trans hx);have h0:=h.obj r x hx;have e1:(D.cut σ.objs.length).bk r=D.bk r:=aD hr;have e2:(D.cut σ.objs.length).own r=D.own r:=aD hr;cases x with
  |box T cs=>
   obtain⟨a1,b,vs,a2,a3,a4⟩:=h1;obtain⟨_,_,_,_,_,c4⟩:=h0;exact⟨e2.trans a1,b,vs,e1.trans a2,a3,cutVRs (vs:=vs.toList.take cs.length) (by exact c4.1) a4.1,a4.2⟩
  |own n esz ty=>
   obtain⟨a1,I,a2,a3,a4,a5⟩:=h1;exact⟨e1.trans a1,I,e2.trans a2,a3,a4,a5⟩
  |mp es=>
   obtain⟨a1,b,ents,clk,a2,a3,a4,a5⟩:=h1;obtain⟨_,_,_,_,_,_,c4,c5⟩:=h0;exact⟨e2.trans a1,b,ents,clk,e1.trans a2,a3,cutVRs c4 a4,cutVRs c5 a5⟩
  |loop st pe n φ ps asg body rd=>
   obtain⟨a1,b,L,a2,a3,a4,a5,a6,a7,a8,a9,a10,a11⟩:=h1;obtain⟨_,_,_,_,_,_,_,_,_,_,_,c10,c11⟩:=h0;exact⟨e2.trans a1,b,L,e1.trans a2,a3,a4,a5,a6,a7,a8,a9,fun t=>(a10 t).cut ((c10 t).bel hbk hown),(aD (hbk _ _ c11)).trans a11⟩
  |dfr=>
   obtain⟨a1,b,a2,a3⟩:=h1;exact⟨e2.trans a1,b,e1.trans a2,a3⟩
  |dead=>
   exact⟨h1.1.imp (e1.trans ·) (e2.trans ·),fun b hb=>h1.2 b (tL hb).1⟩
  |free=>exact⟨e1.trans h1.1,e2.trans h1.2⟩
  |held=>
   obtain⟨a1,a2,hh,a3,a4,a5,a6⟩:=h1;exact⟨a1.imp (e1.trans ·) (e2.trans ·),fun b hb=>a2 b (tL hb).1,hh,a3,e1.trans a4,e2.trans a5,fun b hb=>a6 b (tL hb).1⟩
 ·by_cases hr:r<σ.objs.length
  ·exact h'.sepB r b o v ((aD hr).symm.trans hb) hx
  ·have:(D.cut σ.objs.length).bk r=none:=aC hr;rw[this] at hb;cases hb
 ·by_cases hr:r<σ.objs.length
  ·exact h'.sepO r I b sz o v ((aD hr).symm.trans hI) hb hx
  ·have:(D.cut σ.objs.length).own r=none:=aC hr;rw[this] at hI;cases hI
structure Keep (σ σ':GS):Prop where
 lo:σ'.lo=σ.lo
 len:σ.objs.length<=σ'.objs.length
 old:σ.lo<=σ.objs.length->∀r,r<σ.lo->σ'.objs[r]?=σ.objs[r]?
 held:∀r:Nat,σ.objs[r]?=some .held->σ'.objs[r]?=some .held
theorem Keep.refl (σ:GS):Keep σ σ:=⟨rfl,rL _,fun _ _ _=>rfl,fun _ h=>h⟩
theorem Keep.trans {a b c:GS} (h:Keep a b) (k:Keep b c):Keep a c:=
 ⟨k.lo.trans h.lo,dG h.len k.len,fun hl r hr=>(k.old (by rw[h.lo];exact dG hl h.len) r (by rw[h.lo];exact hr)).trans (h.old hl r hr),fun r hr=>k.held r (h.held r hr)⟩
theorem Keep.gnew (σ:GS) (x:GObj):Keep σ (gnew σ x):=⟨rfl,by simp[Go.Proofs.YtimgfjldcdhejaaGreatDoor.gnew],fun hl r hr=>by
 show(σ.objs++[x])[r]?=_;rw[b7 (by omega)],fun r hr=>by
 show(σ.objs++[x])[r]?=_;rw[b7 (List.getElem?_eq_some_iff.1 hr).1];exact hr⟩
theorem Keep.gset (σ:GS) {r:Nat} (x:GObj) {y:GObj} (h:σ.lo<=r) (hy:σ.objs[r]?=some y) (hne:y≠ .held):Keep σ (gset σ r x):=⟨rfl,by simp[Go.Proofs.YtimgfjldcdhejaaGreatDoor.gset],fun hl k hk=>by
 show(σ.objs.set r x)[k]?=_;rw[dK (by omega)],fun k hk=>by
 show(σ.objs.set r x)[k]?=_;rw[dK (fun e=>by subst e;rw[hk] at hy;cases hy;exact hne rfl)];exact hk⟩
theorem ZS {P:Program} {ρ:Operand->GV} {op:Op} {σ σ':GS} {g:GV} (h:sS P ρ op σ=some (g,σ')):Keep σ σ':=by
 have mp:∀{x:Option GV} {q:GV×GS},x.map (fun v=>(v,σ))=some q->q.2=σ:=fun hx=>by
  rw[aH] at hx;obtain⟨a,_,rfl⟩:=hx;rfl
 have mu:∀{x:Option GS} {q:GV×GS},x.map (fun s=>(GV.any,s))=some q->x=some q.2:=fun hx=>by
  rw[aH] at hx;obtain⟨a,rfl,rfl⟩:=hx;rfl
 have kmap:∀{t:TypeId} {m k v:GV},l7 P t m k v σ=some σ'->Keep σ σ':=fun hg=>by
  unfold l7 at hg;split at hg
  ·split at hg
   ·split at hg
    ·rename_i ho;split at hg
     ·rename_i hc;simp only[aF,aJ] at hc;split at hg<;>first
       |(cases hg;done)
       |(cases hg;exact .gset σ _ hc.1 ho (by simp))
     ·cases hg
    ·cases hg
   ·cases hg
  ·cases hg
 cases op<;>simp only[sS] at h
 case store t a v=>
  have hg:=mu h;have fin:∀{r off:Nat} {g:GV},kS P t r off g σ=some σ'->Keep σ σ':=fun hg=>by
   unfold kS at hg;split at hg
   ·rename_i ho;split at hg
    ·rename_i hc;simp only[aF,aJ] at hc;rw[show σ'=_ from(bA hg).symm];exact .gset σ _ hc.1.1.1 ho (by simp)
    ·cases hg
   ·cases hg
  unfold sE at hg;split at hg
  ·exact fin hg
  ·split at hg
   ·exact fin hg
   ·cases hg
  ·cases hg
 case makeSlice t l c=>
  unfold K3 at h;repeat' split at h
  all_goals first
   |(cases h;done)
   |(cases h;exact .gnew σ _)
 case mapUpdate t m k v=>exact kmap (mu h)
 case insert t m k v=>exact kmap (mu h)
 case call c=>
  obtain⟨callee,args,ts⟩:=c;cases callee with
  |builtin b=>
   simp only at h;unfold nP at h;split at h
   ·have:=mp h;rw[show σ'=σ from this];exact .refl σ
   ·unfold yI at h;repeat' split at h
    all_goals first
     |(cases h;done)
     |(cases h;exact .refl σ)
     |(cases h;exact .gnew σ _)
     |skip
    rename_i ho _ hc;cases h;simp only[aF,aJ] at hc;exact .gset σ _ hc.1.1 ho (by simp)
   ·have:=mp h;rw[show σ'=σ from this];exact .refl σ
   ·unfold GH at h;repeat' split at h
    all_goals first
     |(cases h;done)
     |skip
    rename_i ho _ hc;cases h;simp only[aF,aJ] at hc;exact .gset σ _ hc.1.1.1.1.2 ho (by simp)
   ·unfold CJ at h;repeat' split at h
    all_goals first
     |(cases h;done)
     |skip
    rename_i ho hc;cases h;simp only[aF,aJ] at hc;exact .gset σ _ hc.1.2 ho (by simp)
   ·have:=mp h;rw[show σ'=σ from this];exact .refl σ
   ·have:=mp h;rw[show σ'=σ from this];exact .refl σ
   ·cases h
  |_=>cases h
 case pick c a b=>
  split at h
  ·cases h;exact .refl σ
  ·cases h
 all_goals first
  |(cases h;done)
  |(cases h;exact .refl σ)
  |(have:=mp h;rw[show σ'=σ from this];exact .refl σ)
theorem S2 {P:Program} {ρ:Operand->GV} {op:Op} {σ σ':GS} {g:GV} (h:uR P ρ op σ=some (g,σ')):Keep σ σ':=by
 unfold uR at h;split at h
 ·cases h;exact .gnew σ _
 ·exact ZS h
end
