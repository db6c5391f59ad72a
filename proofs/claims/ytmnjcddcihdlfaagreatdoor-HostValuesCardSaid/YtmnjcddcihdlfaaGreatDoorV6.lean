/- Part of HostValues. -/
import Derived.Laws.MakeOwn
import Derived.Test.YtmnjcddcihdlfaaGreatDoorV5
import Derived.Lib.UnsafeStr
import Derived.Laws.IdiomRangeMap
set_option linter.all false
namespace Go.Proofs.YtmnjcddcihdlfaaGreatDoor
open Go.RowKit
variable [Globals]
section
variable {P : Program} {C : Cx} {σ : GS} {w0 w : World}
theorem NP (x y:List UInt8):((ByteArray.mk x.toArray)==⟨y.toArray⟩)=(x==y):=by
 show(x.toArray==y.toArray)=_;simp
theorem sP {d:TypeDesc} {a b:GV} {va vb:Value} (ha:VR C a va) (hb:VR C b vb) {r:Bool} (h:JX d a b=some r):Instr.sameNow d va vb=some r:=by
 unfold JX at h;split at h
 ·cases ha;cases hb;exact h
 ·cases ha;cases hb;cases h;simp only[Instr.sameNow,NP]
 ·cases ha;cases hb;exact h
 ·cases h
theorem MO {d:TypeDesc} {a b:GV} {va vb:Value} (ha:VR C a va) (hb:VR C b vb) (h:JX d a b=some true) (n:Nat):Instr.sameBits n vb va=true:=by
 unfold JX at h;split at h
 ·cases ha;cases hb;split at h
  ·rename_i hk;subst hk;simp at h;subst h;simp[Instr.sameBits]
  ·cases h
 ·cases ha;cases hb;simp at h;subst h;simp[Instr.sameBits,NP]
 ·cases ha;cases hb;simp at h;subst h;simp[Instr.sameBits]
 ·cases h
theorem l6 {d:TypeDesc} {k:GV} {vk:Value} (hk:VR C k vk):∀(es:List (GV×GV)) (ents:List MapEntry) (i:Nat) (r:Option (Nat×GV)),
  VRs C (es.map (·.1)) (ents.map (·.key))->VRs C (es.map (·.2)) (ents.map (·.val))->i6 d k es i=some r->
  match r with
  |none=>Instr.findNow d vk ents i=some none
  |some (j,g)=>∃v,Instr.findNow d vk ents i=some (some (j,v))/\VR C g v/\i<=j/\∃e,ents[j - i]?=some e/\∀n,Instr.sameBits n e.key vk=true
 |[],ents,i,r,h1,_,h=>by
  have:ents=[]:=aI (by simpa using h1.1);subst this;simp only[i6,eY] at h;subst h;rfl
 |(ek,ev)::es,ents,i,r,h1,h2,h=>by
  cases ents with
  |nil=>have:=h1.1;simp at this
  |cons e ents=>
   simp only[bY] at h1 h2;obtain⟨_,_,e1,hek,hks⟩:=h1.cons_inv;obtain⟨_,_,e2,hev,hvs⟩:=h2.cons_inv;cases e1;cases e2;simp only[i6] at h;split at h
   ·rename_i hs;cases h;refine⟨e.val,?_,hev,rL _,e,by simp,fun n=>MO hk hek hs n⟩;simp only[Instr.findNow,sP hk hek hs]
   ·rename_i hs;have ih:=l6 hk es ents (i+1) r hks hvs h;cases r with
    |none=>simp only[Instr.findNow,sP hk hek hs];exact ih
    |some jg=>
     obtain⟨j,g⟩:=jg;obtain⟨v,a1,a2,a3,e',a4,a5⟩:=ih;refine⟨v,by simp only[Instr.findNow,sP hk hek hs];exact a1,a2,by omega,e',?_,a5⟩;rw[show j - i=(j - (i+1))+1 by omega];simpa using a4
   ·cases h
theorem nE {kt:TypeId} {d:TypeDesc} {k:GV} {vk:Value} (hd:P.underlying kt=some d) (hk:VR C k vk) (h:mU d k=true) (b:Bool) (n:Nat):(Instr.checkKey b (n+1) kt vk).run P w=.ok () w:=by
 unfold mU at h;split at h<;>first
  |(cases h;done)
  |(cases hk;simp[Instr.checkKey,run_underlying hd])
theorem jO {kt:TypeId} {d:TypeDesc} {vk:Value} {ents:List MapEntry} {r:Option (Nat×Value)} (hd:P.underlying kt=some d) (h:Instr.findNow d vk ents 0=some r):
  (Instr.findKey kt vk ents).run P w=.ok r w:=by
 unfold Instr.findKey;simp only[Sem.run_bind,run_underlying hd,Result.andThen_ok,h,Sem.run_pure]
theorem fJ {b:Nat} {ents:Array MapEntry} {clk:Nat} (h:w.heap[b]?=some (.map ents clk)):(getObj b).run P w=.ok (.map ents clk) w:=by
 simp[getObj,Sem.run,h]
theorem j9 {b:Nat} {ents:Array MapEntry} {clk:Nat} (h:w.heap[b]?=some (.map ents clk)) (o:Obj):(setObj b o).run P w=.ok () {w with heap:=w.heap.setIfInBounds b o}:=by
 simp[setObj,Sem.run,h]
theorem Rel.setMap (h:Rel C σ w0 w) {r b:Nat} (hr:r<σ.objs.length) (hb:C.bk r=some b) (hown:C.own r=none) {ents ents':Array MapEntry} {clk clk':Nat} (hm:w.heap[b]?=some (.map ents clk))
  (es:List (GV×GV)) (h1:VRs C (es.map (·.1)) (ents'.toList.map (·.key))) (h2:VRs C (es.map (·.2)) (ents'.toList.map (·.val))):
  Rel C {σ with objs:=σ.objs.set r (.mp es)} w0 {w with heap:=w.heap.setIfInBounds b (.map ents' clk')}:=by
 have hlt:b<w.heap.size:=(Array.getElem?_eq_some_iff.1 hm).1;refine h.setObj hr hb _ ⟨hown,b,ents',clk',hb,by simp[hlt],h1,h2⟩ rfl rfl rfl (by simp) (fun k hk=>?_);simp only[Array.getElem?_setIfInBounds];rw[aB (Ne.symm hk)]
theorem VRs.map_set {α:Type} (f:α->Value) {gs:List GV} {xs:Array α} (h:VRs C gs (xs.toList.map f)) (i:Nat) (F:α->α) {g:GV} (hg:∀x,VR C g (f (F x))):
  VRs C (gs.set i g) ((xs.modify i F).toList.map f):=by
 have hlen:xs.size=gs.length:=by have:=h.1;simpa using this
 refine⟨by simp[hlen],fun j g' u h1 h2=>?_⟩;rw[aG,bJ,Array.getElem?_modify] at h2;rw[List.getElem?_set] at h1;by_cases hij:i=j
 ·subst hij;rw[aA rfl] at h1 h2;split at h1
  ·rename_i hl;cases h1;cases hx:xs[i]? with
   |none=>rw[hx] at h2;cases h2
   |some x=>rw[hx] at h2;cases h2;exact hg x
  ·cases h1
 ·rw[aB hij] at h1 h2;exact h.2 j g' u h1 (by rw[aG,bJ];exact h2)
theorem QU {g:GV} {v u:Value} (h:VR C g v) (hg:gcv g=some u):v=u:=by
 cases g<;>simp only[gcv] at hg<;>first|(cases hg;cases h;rfl)|(cases hg;done)
theorem CE:∀{gs:List GV} {vs us:List Value},VRs C gs vs->WS gs=some us->vs=us
 |[],vs,us,h,hg=>by cases hg;exact aI h.1
 |g::gs,vs,us,h,hg=>by
  obtain⟨v,vs',rfl,h1,h2⟩:=h.cons_inv;simp only[WS] at hg;split at hg
  ·rename_i u us' e1 e2;cases hg;rw[QU h1 e1,CE h2 e2]
  ·cases hg
theorem KH {a b:GV} {va vb:Value} (ha:VR C a va) (hb:VR C b vb) (h:UC a b=true) (n:Nat):Instr.sameBits n vb va=true:=by
 unfold UC at h;split at h
 ·cases ha;cases hb;simp only[aF,aH,bU] at h;obtain⟨rfl,rfl⟩:=h;simp[Instr.sameBits]
 ·cases ha;cases hb;simp at h;subst h;simp[Instr.sameBits,NP]
 ·cases ha;cases hb;simp at h;subst h;simp[Instr.sameBits]
 ·cases h
theorem xC:∀{cs ds:List GV} {xs ys:List Value},VRs C cs xs->VRs C ds ys->HG cs ds=true->∀n,ys.length=xs.length/\(ys.zip xs).all (fun p=>Instr.sameBits n p.1 p.2)=true
 |[],[],xs,ys,h1,h2,_,n=>⟨by rw[h1.1,h2.1],by rw[aI h2.1];rfl⟩
 |a::cs,b::ds,xs,ys,h1,h2,h,n=>by
  obtain⟨x,xs',rfl,hx,hxs⟩:=h1.cons_inv;obtain⟨y,ys',rfl,hy,hys⟩:=h2.cons_inv;simp only[HG,aF] at h;obtain⟨e1,e2⟩:=xC hxs hys h.2 n;exact⟨by simp[e1],by simp only[List.zip_cons_cons,List.all_cons,KH hx hy h.1 n,e2,Bool.and_self]⟩
 |[],_::_,_,_,_,_,h,_=>by cases h
 |_::_,[],_,_,_,_,h,_=>by cases h
theorem VR.agg_inv {cs:List GV} {v:Value} (h:VR C (.agg cs) v):∃vs:Array Value,v=.agg vs/\VRs C cs vs.toList:=by
 cases h with
 |agg hl hv=>exact⟨_,rfl,by simpa using hl,fun j g u h1 h2=>hv j g u h1 (by simpa using h2)⟩
theorem KK {a b:GV} {va vb:Value} (ha:VR C a va) (hb:VR C b vb) (h:UH a b=true) (n:Nat):Instr.sameBits (n+1) vb va=true:=by
 unfold UH at h;split at h
 ·obtain⟨xs,rfl,hx⟩:=ha.agg_inv;obtain⟨ys,rfl,hy⟩:=hb.agg_inv;obtain⟨e1,e2⟩:=xC hx hy h n;simp only[Instr.sameBits,aF,bU];exact⟨by simpa using e1,e2⟩
 ·cases h
theorem NC {e:TypeId} {q:IntKind} (hu:P.underlying e=some (.int q)):∀(cs ds:List GV) (i:Nat) (xs ys:Array Value) (r:Bool) (d:Nat),xA cs ds=some r->
  (∀(j:Nat) g,cs[j]?=some g->∃u,xs[i+j]?=some u/\VR C g u)->(∀(j:Nat) g,ds[j]?=some g->∃u,ys[i+j]?=some u/\VR C g u)->(Op.eqItems (d+1) e 1 xs ys (List.range' i cs.length)).run P w=.ok r w:=by
 intro cs;induction cs with
 |nil=>
  intro ds i xs ys r d hg _ _;cases ds with
  |nil=>cases hg;simp[Op.eqItems]
  |cons _ _=>simp[xA] at hg
 |cons c cs ih=>
  intro ds i xs ys r d hg hx hy;unfold xA at hg;split at hg
  ·rename_i h;cases h
  ·rename_i k a cs' k' b ds' e1;cases e1;split at hg
   ·rename_i hk;subst hk;obtain⟨r',hr',rfl⟩:=Option.map_eq_some_iff.1 hg;obtain⟨u,hu1,hv1⟩:=hx 0 _ rfl;obtain⟨v,hu2,hv2⟩:=hy 0 _ rfl;cases hv1;cases hv2;have ih':=ih ds' (i+1) xs ys r' d hr' (fun j g h=>by have:=hx (j+1) g (by simpa using h);rw[show i+1+j=i+(j+1) by omega];exact this) (fun j g h=>by have:=hy (j+1) g (by simpa using h);rw[show i+1+j=i+(j+1) by omega];exact this);rw[Nat.add_zero] at hu1 hu2;have p1:(part e xs (i*1)).run P w=.ok (.int k a) w:=by simp[part,isAgg,run_underlying hu,hu1]
    have p2:(part e ys (i*1)).run P w=.ok (.int k b) w:=by simp[part,isAgg,run_underlying hu,hu2]
    have p3:=run_equalIn_int (P:=P) w d e k q a b hu;rw[aM,List.range'_succ];unfold Op.eqItems;simp only[Sem.run_bind,p1,p2,p3,Result.andThen_ok];cases hab:(a==b) with
    |true=>simpa using ih'
    |false=>simp
   ·cases hg
  ·cases hg
theorem UG {t:TypeId} {cs ds:List GV} {va vb:Value} {r:Bool} (ha:VR C (.agg cs) va) (hb:VR C (.agg ds) vb) (hg:ZX P t cs ds=some r):(Op.equal t va vb).run P w=.ok r w:=by
 unfold ZX at hg;split at hg
 ·rename_i n e hu;split at hg
  ·rename_i hc;simp only[aF,bU] at hc;obtain⟨⟨⟨⟨h1,h2⟩,h3⟩,h4⟩,h5⟩:=hc;obtain⟨q,hq⟩:=Option.isSome_iff_exists.1 h1;obtain⟨i,hi⟩:=Option.isSome_iff_exists.1 h2;obtain⟨xs,rfl,hx⟩:=ha.agg_inv;obtain⟨ys,rfl,hy⟩:=hb.agg_inv;have h6:=run_equalIn_array (P:=P) (w:=w) 9999 xs ys hu hi;rw[h3,<-h4,List.range_eq_range'] at h6;have cell:∀{cs:List GV} {vs:Array Value},VRs C cs vs.toList->∀(j:Nat) g,cs[j]?=some g->∃u,vs[0+j]?=some u/\VR C g u:=fun hv j g hj=>by
    obtain⟨u,hu,hvr⟩:=hv.get hj;exact⟨u,by rw[bM];simpa using hu,hvr⟩
   exact h6.trans (NC (wQ hq) cs ds 0 xs ys r 9998 hg (cell hx) (cell hy))
  ·cases hg
 ·cases hg
theorem EX {t:TypeId} {a b:GV} {va vb:Value} {r:Bool} (h:Rel C σ w0 w) (ha:VR C a va) (hb:VR C b vb) (hg:U8 P t a b=some r):(Op.equal t va vb).run P w=.ok r w:=by
 unfold U8 at hg;split at hg
 ·rename_i cs ds;split at hg
  ·rename_i hs;exact(yA (op:=.eql) (x:=.tmp 0) (y:=.tmp 0) h ha hb (by simp only[geq];rw[aA hs];exact hg)).2.1
  ·exact UG ha hb hg
 ·cases hg
theorem x7 {t:TypeId} {k:GV} {vk:Value} (h:Rel C σ w0 w) (hk:VR C k vk):∀(es:List (GV×GV)) (ents:List MapEntry) (i:Nat) (r:Option (Nat×GV)),
  VRs C (es.map (·.1)) (ents.map (·.key))->VRs C (es.map (·.2)) (ents.map (·.val))->jS P t k es i=some r->
  match r with
  |none=>(Instr.findAsking t vk ents i).run P w=.ok none w
  |some (j,g)=>∃v,(Instr.findAsking t vk ents i).run P w=.ok (some (j,v)) w/\VR C g v/\i<=j/\∃e,ents[j - i]?=some e/\∀n,Instr.sameBits (n+1) e.key vk=true
 |[],ents,i,r,h1,_,hg=>by
  have:ents=[]:=aI (by simpa using h1.1);subst this;simp only[jS,eY] at hg;subst hg;simp[Instr.findAsking]
 |(ek,ev)::es,ents,i,r,h1,h2,hg=>by
  cases ents with
  |nil=>have:=h1.1;simp at this
  |cons e ents=>
   simp only[bY] at h1 h2;obtain⟨_,_,e1,hek,hks⟩:=h1.cons_inv;obtain⟨_,_,e2,hev,hvs⟩:=h2.cons_inv;cases e1;cases e2;simp only[jS] at hg;split at hg
   ·rename_i hs;split at hg
    ·rename_i ha;cases hg;refine⟨e.val,?_,hev,rL _,e,by simp,fun n=>KK hk hek ha n⟩;simp[Instr.findAsking,EX h hk hek hs]
    ·cases hg
   ·rename_i hs;have ih:=x7 h hk es ents (i+1) r hks hvs hg;have p:=EX h hk hek hs;cases r with
    |none=>simp[Instr.findAsking,p];exact ih
    |some jg=>
     obtain⟨j,g⟩:=jg;obtain⟨v,a1,a2,a3,e',a4,a5⟩:=ih;refine⟨v,by simp[Instr.findAsking,p];exact a1,a2,by omega,e',?_,a5⟩;rw[show j - i=(j - (i+1))+1 by omega];simpa using a4
   ·cases hg
theorem DA {t:TypeId} {k:GV} {vk:Value} (hk:VR C k vk) (h:lV P t k=true) (b:Bool):(Instr.checkKey b 10000 t vk).run P w=.ok () w:=by
 unfold lV at h;split at h
 ·rename_i cs;simp only[aF] at h;obtain⟨⟨_,h2⟩,h3⟩:=h;obtain⟨xs,rfl,hx⟩:=hk.agg_inv;split at h3
  ·rename_i vs hvs;have e:=CE hx hvs;have e':xs=vs.toArray:=by rw[<-e]
   subst e';simp only[aF] at h3;obtain⟨la,hla⟩:=Option.isSome_iff_exists.1 h3.2;exact run_checkKey_deep b 9980 20 t h2 w 21 _ la h3.1 (by simpa[Value.cells] using hla)
  ·cases h3
 ·cases h
theorem Y0 {t:TypeId} {k:GV} (h:lV P t k=true):(match P.underlying t with|some (.array _ _)|some (.struct _)=>true|_=>false)=true:=by
 unfold lV at h;split at h
 ·simp only[aF] at h;exact h.1.1
 ·cases h
def NQ (P:Program) (C:Cx) (w:World) (kt:TypeId) (vk:Value) (ents:Array MapEntry):Option (Nat×GV)->Prop
 |none=>(Instr.findKey kt vk ents.toList).run P w=.ok none w
 |some (j,g)=>∃v e0,(Instr.findKey kt vk ents.toList).run P w=.ok (some (j,v)) w/\VR C g v/\ents[j]?=some e0/\(Instr.keyThatStays e0.key vk).run P w=.ok vk w
theorem lM {kt:TypeId} {d:TypeDesc} {k:GV} {vk:Value} (h:Rel C σ w0 w) (hd:P.underlying kt=some d) (hk:VR C k vk) (hkk:(mU d k||lV P kt k)=true) {es:List (GV×GV)} {ents:Array MapEntry} {f:Option (Nat×GV)}
  (hks:VRs C (es.map (·.1)) (ents.toList.map (·.key))) (hvs:VRs C (es.map (·.2)) (ents.toList.map (·.val))) (hf:(if mU d k then i6 d k es 0 else jS P kt k es 0)=some f):
  (∀b,(Instr.checkKey b 10000 kt vk).run P w=.ok () w)/\NQ P C w kt vk ents f:=by
 by_cases hp:mU d k=true
 ·rw[aA hp] at hf;refine⟨fun b=>nE (w:=w) hd hk hp b 9999,?_⟩;have:=l6 hk es ents.toList 0 _ hks hvs hf;cases f with
  |none=>exact jO hd this
  |some jg=>
   obtain⟨j,g⟩:=jg;obtain⟨v,a1,a2,_,e0,a4,a5⟩:=this;exact⟨v,e0,jO hd a1,a2,by simpa using a4,by unfold Instr.keyThatStays;rw[aA (a5 10000)];rfl⟩
 ·rw[aB hp] at hf;have ha:lV P kt k=true:=by simpa[hp] using hkk
  refine⟨fun b=>DA hk ha b,?_⟩;have:=x7 (P:=P) h hk es ents.toList 0 _ hks hvs hf;cases f with
  |none=>exact(run_findKey_eq w (Y0 ha) vk ents.toList).trans this
  |some jg=>
   obtain⟨j,g⟩:=jg;obtain⟨v,a1,a2,_,e0,a4,a5⟩:=this;exact⟨v,e0,(run_findKey_eq w (Y0 ha) vk ents.toList).trans a1,a2,by simpa using a4,by unfold Instr.keyThatStays;rw[aA (a5 9999)];rfl⟩
theorem Rel.setMx (h:Rel C σ w0 w) {r b:Nat} (hr:r<σ.objs.length) (hb:C.bk r=some b) (hown:C.own r=none) {ents ents':Array MapEntry} {clk clk':Nat} (hm:w.heap[b]?=some (.map ents clk))
  (es:List (GV×GV)) (bs:List Nat) (hbs:ents'.toList.map (·.born)=bs) (h1:VRs C (es.map (·.1)) (ents'.toList.map (·.key))) (h2:VRs C (es.map (·.2)) (ents'.toList.map (·.val))):
  Rel C {σ with objs:=σ.objs.set r (.mx es bs clk')} w0 {w with heap:=w.heap.setIfInBounds b (.map ents' clk')}:=by
 have hlt:b<w.heap.size:=(Array.getElem?_eq_some_iff.1 hm).1;refine h.setObj hr hb _ ⟨hown,b,ents',hb,by simp[hlt],hbs,h1,h2⟩ rfl rfl rfl (by simp) (fun k hk=>?_);simp only[Array.getElem?_setIfInBounds];rw[aB (Ne.symm hk)]
theorem tP (ents:Array MapEntry) (j:Nat) (f:MapEntry->MapEntry) (hf:∀e,(f e).born=e.born):(ents.modify j f).toList.map (·.born)=ents.toList.map (·.born):=by
 apply cK;intro i;rw[aG,aG,bJ,bJ,Array.getElem?_modify];split
 ·rename_i hij;subst hij;cases ents[j]?<;>simp[hf]
 ·rfl
theorem uR {t:TypeId} {m k v:GV} {vm vk vv:Value} {σ':GS} (h:Rel C σ w0 w) (hm:VR C m vm) (hk:VR C k vk) (hv:VR C v vv) (hg:fP P t m k v σ=some σ'):
  ∃w',Rel C σ' w0 w'/\(Instr.mapUpdate t vm vk vv).run P w=.ok () w':=by
 cases hm with
 |mp hb=>
  rename_i r b;simp only[fP] at hg;split at hg
  ·rename_i kt et hmt;split at hg
   ·rename_i d es hd hobj;split at hg
    ·rename_i hc;simp only[aF,aH] at hc;obtain⟨hown,b',ents,clk,hb',hheap,hks,hvs⟩:=h.obj r _ hobj;rw[hb] at hb';cases hb';have hr:r<σ.objs.length:=(List.getElem?_eq_some_iff.1 hobj).1;have hck:=nE (w:=w) hd hk hc.2 false 9999;split at hg
     ·rename_i j g hf;cases hg;obtain⟨v0,a1,_,_,e0,a4,a5⟩:=l6 hk es ents.toList 0 _ hks hvs hf;have hfk:=jO (P:=P) (w:=w) hd a1;have hej:ents[j]?=some e0:=by simpa using a4
      have hstay:(Instr.keyThatStays e0.key vk).run P w=.ok vk w:=by
       unfold Instr.keyThatStays;rw[aA (a5 10000)];rfl
      refine⟨_,h.setMap hr hb hown (ents':=ents.modify j fun e=>{e with key:=vk,val:=vv}) (clk':=clk) hheap (es.set j (k,v)) ?_ ?_,?_⟩
      ·rw[List.map_set];exact VRs.map_set (fun e:MapEntry=>e.key) hks j _ (fun _=>hk)
      ·rw[List.map_set];exact VRs.map_set (fun e:MapEntry=>e.val) hvs j _ (fun _=>hv)
      ·unfold Instr.mapUpdate;simp only[Sem.run_bind,run_underlying (iS hmt),Result.andThen_ok,fJ hheap,hck,hfk,hej,aT,fM,hstay,j9 hheap]
     ·rename_i hf;cases hg;have a1:=l6 hk es ents.toList 0 _ hks hvs hf;have hfk:=jO (P:=P) (w:=w) hd a1;refine⟨_,h.setMap hr hb hown (ents':=ents.push {key:=vk,val:=vv,born:=clk}) (clk':=clk+1) hheap (es++[(k,v)]) ?_ ?_,?_⟩
      ·simp only[dI,Array.toList_push];exact hks.append (fS hk iO)
      ·simp only[dI,Array.toList_push];exact hvs.append (fS hv iO)
      ·unfold Instr.mapUpdate;simp only[Sem.run_bind,run_underlying (iS hmt),Result.andThen_ok,fJ hheap,hck,hfk,j9 hheap]
     ·cases hg
    ·cases hg
   ·rename_i d es bs clk0 hd hobj;split at hg
    ·rename_i hc;simp only[aF,aH] at hc;obtain⟨hown,b',ents,hb',hheap,hbn,hks,hvs⟩:=h.obj r _ hobj;rw[hb] at hb';cases hb';have hr:r<σ.objs.length:=(List.getElem?_eq_some_iff.1 hobj).1;generalize hf:(if mU d k=true then i6 d k es 0 else jS P kt k es 0)=F at hg;cases F with
     |none=>cases hg
     |some f=>
     have hs:=lM h hd hk hc.2 hks hvs hf;cases f with
     |some jg=>
      obtain⟨j,g⟩:=jg;cases hg;obtain⟨hck,v0,e0,hfk,_,hej,hstay⟩:=hs;refine⟨_,h.setMx hr hb hown (ents':=ents.modify j fun e=>{e with key:=vk,val:=vv}) (clk':=clk0) hheap (es.set j (k,v)) bs ?_ ?_ ?_,?_⟩
      ·rw[<-hbn];exact tP _ _ _ (fun _=>rfl)
      ·rw[List.map_set];exact VRs.map_set (fun e:MapEntry=>e.key) hks j _ (fun _=>hk)
      ·rw[List.map_set];exact VRs.map_set (fun e:MapEntry=>e.val) hvs j _ (fun _=>hv)
      ·unfold Instr.mapUpdate;simp only[Sem.run_bind,run_underlying (iS hmt),Result.andThen_ok,fJ hheap,hck,hfk,hej,aT,fM,hstay,j9 hheap]
     |none=>
      cases hg;obtain⟨hck,hfk⟩:=hs;replace hfk:(Instr.findKey kt vk ents.toList).run P w=.ok none w:=hfk;refine⟨_,h.setMx hr hb hown (ents':=ents.push {key:=vk,val:=vv,born:=clk0}) (clk':=clk0+1) hheap (es++[(k,v)]) (bs++[clk0]) ?_ ?_ ?_,?_⟩
      ·rw[<-hbn];simp only[dI,Array.toList_push];rfl
      ·simp only[dI,Array.toList_push];exact hks.append (fS hk iO)
      ·simp only[dI,Array.toList_push];exact hvs.append (fS hv iO)
      ·unfold Instr.mapUpdate;simp only[Sem.run_bind,run_underlying (iS hmt),Result.andThen_ok,fJ hheap,hck,hfk,j9 hheap]
    ·cases hg
   ·cases hg
  ·cases hg
 |_=>simp[fP] at hg
theorem PB {g1:GV} {v1:Value} {b:Bool} (hg:VR C g1 v1):VR C (.tup [g1,.b b]) (.tuple #[v1,.bool b]):=by
 have this:VRs C [g1,.b b] [v1,.bool b]:=fS hg (fS (VR.b (C:=C) b) iO);exact .tup rfl (fun j g u h1 h2=>this.2 j g u h1 (by simpa using h2))
theorem EW {t kt et:TypeId} (h:Rel C σ w0 w) (hmt:pW P t=some (kt,et)) {b:Nat} {ents:Array MapEntry} {clk:Nat} (hheap:w.heap[b]?=some (.map ents clk)) {vk vz:Value} {z:GV} (hz:VR C z vz) (hvz:(zeroValue et).run P w=.ok vz w) {ok:Bool} {f:Option (Nat×GV)}
  (hck:(Instr.checkKey ents.isEmpty 10000 kt vk).run P w=.ok () w) (hf:NQ P C w kt vk ents f):
  Runs P C w0 w σ (match f with|some (_,v)=>if ok then .tup [v,.b true] else v|none=>if ok then .tup [z,.b false] else z) (Instr.lookup t (.map (some b)) vk ok):=by
 have fin:∀{g1:GV} {v1:Value} {b:Bool},VR C g1 v1->VR C (if ok then .tup [g1,.b b] else g1) (if ok then .tuple #[v1,.bool b] else v1):=fun hvr=>by
  cases ok
  ·exact hvr
  ·exact PB hvr
 cases f with
 |none=>
  replace hf:(Instr.findKey kt vk ents.toList).run P w=.ok none w:=hf;refine .pure h (fin hz) ?_;unfold Instr.lookup;simp only[Sem.run_bind,run_underlying (iS hmt),Result.andThen_ok,fJ hheap,Sem.run_pure,hck,hf,hvz]
 |some p=>
  obtain⟨j,g⟩:=p;obtain⟨v,e0,hfk,hv,_⟩:=hf;refine .pure h (fin hv) ?_;unfold Instr.lookup;simp only[Sem.run_bind,run_underlying (iS hmt),Result.andThen_ok,fJ hheap,Sem.run_pure,hck,hfk]
theorem DL {t:TypeId} {m k g:GV} {ok:Bool} {vm vk:Value} (h:Rel C σ w0 w) (hm:VR C m vm) (hk:VR C k vk) (hg:k5 P t m k ok σ=some g):Runs P C w0 w σ g (Instr.lookup t vm vk ok):=by
 unfold k5 at hg;split at hg
 ·rename_i kt et hmt;split at hg
  ·rename_i d z hd hz;split at hg
   ·rename_i hkk;obtain⟨vz,hvz,rfl⟩:=jY hz w;have fin:∀{g1:GV} {v1:Value} {b:Bool},VR C g1 v1->VR C (if ok then .tup [g1,.b b] else g1) (if ok then .tuple #[v1,.bool b] else v1):=fun hvr=>by
     clear hg;cases ok
     ·exact hvr
     ·exact PB hvr
    split at hg
    ·rename_i r;cases hm with
     |mp hb=>
     rename_i b;split at hg
     ·rename_i es hobj;obtain⟨hown,b',ents,clk,hb',hheap,hks,hvs⟩:=h.obj r _ hobj;rw[hb] at hb';cases hb';have hck:=nE (w:=w) hd hk hkk ents.isEmpty 9999;split at hg
      ·rename_i j v1 hf;cases hg;obtain⟨v0,a1,a2,_⟩:=l6 hk es ents.toList 0 _ hks hvs hf;have hfk:=jO (P:=P) (w:=w) hd a1;refine .pure h (fin a2) ?_;unfold Instr.lookup;simp only[Sem.run_bind,run_underlying (iS hmt),Result.andThen_ok,fJ hheap,Sem.run_pure,hck,hfk]
      ·rename_i hf;cases hg;have a1:=l6 hk es ents.toList 0 _ hks hvs hf;have hfk:=jO (P:=P) (w:=w) hd a1;refine .pure h (fin (dK C vz)) ?_;unfold Instr.lookup;simp only[Sem.run_bind,run_underlying (iS hmt),Result.andThen_ok,fJ hheap,Sem.run_pure,hck,hfk,hvz]
      ·cases hg
     ·rename_i es bs clk0 hobj;obtain⟨hown,b',ents,hb',hheap,hbn,hks,hvs⟩:=h.obj r _ hobj;rw[hb] at hb';cases hb';generalize hf:i6 d k es 0=F at hg;cases F with
      |none=>cases hg
      |some f=>
       obtain⟨hck,hF⟩:=lM h hd hk (by rw[hkk];rfl) hks hvs (by rw[aA hkk];exact hf);have:=EW h hmt hheap (dK C vz) hvz (ok:=ok) (hck _) hF;cases f with
       |none=>cases hg;exact this
       |some p=>obtain⟨j,v⟩:=p;cases hg;exact this
     ·cases hg
    ·cases hm with
     |o hp=>
     cases hg;have hck:=nE (w:=w) hd hk hkk true 9999;have hfk:(Instr.findKey kt vk []).run P w=.ok none w:=jO hd rfl;refine .pure h (fin (dK C vz)) ?_;unfold Instr.lookup;simp only[Sem.run_bind,run_underlying (iS hmt),Result.andThen_ok,Sem.run_pure];have:(#[]:Array MapEntry).isEmpty=true:=rfl;simp only[this,hck,Result.andThen_ok,hfk,Sem.run_bind,hvz,Sem.run_pure]
    ·cases hg
   ·rename_i hnk;split at hg
    ·rename_i hka;obtain⟨vz,hvz,rfl⟩:=jY hz w;split at hg
     ·rename_i r;cases hm with
      |mp hb=>
      rename_i b;split at hg
      ·rename_i es bs clk0 hobj;obtain⟨hown,b',ents,hb',hheap,hbn,hks,hvs⟩:=h.obj r _ hobj;rw[hb] at hb';cases hb';generalize hf:jS P kt k es 0=F at hg;cases F with
       |none=>cases hg
       |some f=>
        obtain⟨hck,hF⟩:=lM h hd hk (by rw[hka];simp) hks hvs (by rw[aB hnk];exact hf);have:=EW h hmt hheap (dK C vz) hvz (ok:=ok) (hck _) hF;cases f with
        |none=>cases hg;exact this
        |some p=>obtain⟨j,v⟩:=p;cases hg;exact this
      ·cases hg
     ·cases hg
    ·cases hg
  ·cases hg
 ·cases hg
theorem JC (seen:List Nat):∀(es:List (GV×GV)) (bs:List Nat) (ents:List MapEntry),ents.map (·.born)=bs->VRs C (es.map (·.1)) (ents.map (·.key))->VRs C (es.map (·.2)) (ents.map (·.val))->
  (ents.filter fun e=>!seen.contains e.born).length=((es.zip bs).filter fun e=>!seen.contains e.2).length/\
  ∀(j:Nat) e x,((es.zip bs).filter fun e=>!seen.contains e.2)[j]?=some e->(ents.filter fun e=>!seen.contains e.born)[j]?=some x->VR C e.1.1 x.key/\VR C e.1.2 x.val/\x.born=e.2
 |[],bs,ents,hb,h1,_=>by
  have:ents=[]:=aI (by simpa using h1.1);subst this;subst hb;exact⟨rfl,fun j e x h=>by simp at h⟩
 |(k,v)::es,bs,ents,hb,h1,h2=>by
  cases ents with
  |nil=>have:=h1.1;simp at this
  |cons e ents=>
   subst hb;simp only[bY] at h1 h2;obtain⟨_,_,e1,hek,hks⟩:=h1.cons_inv;obtain⟨_,_,e2,hev,hvs⟩:=h2.cons_inv;cases e1;cases e2;obtain⟨i1,i2⟩:=JC seen es _ ents rfl hks hvs;simp only[bY,List.zip_cons_cons,List.filter_cons];by_cases hs:(!seen.contains e.born)=true
   ·rw[aA hs,aA hs];refine⟨by simp only[aM,i1],fun j e' x h h'=>?_⟩;cases j with
    |zero=>
     simp only[List.getElem?_cons_zero,eY] at h h';subst h;subst h';exact⟨hek,hev,rfl⟩
    |succ j=>exact i2 j e' x (by simpa using h) (by simpa using h')
   ·rw[aB hs,aB hs];exact⟨i1,i2⟩
theorem FM (w:World) (ty:TypeId) {r bm since c0:Nat} {seen:Array Nat} {es:Array MapEntry} {clock:Nat} (hr:w.heap[r]?=some (.mapIter (some bm) since seen c0)) (hb:w.heap[bm]?=some (.map es clock)) (hold:∀x∈es.toList,x.born<since) (hsc:since<=c0)
  {e:MapEntry} (hl:leftOf es seen= #[e]):(Instr.next (.pointer (some ⟨r,0,none⟩)) false ty).run P w=.ok (.tuple #[.bool true,e.key,e.val]) {w with heap:=w.heap.setIfInBounds r (.mapIter (some bm) since (seen.push e.born) clock)}:=by
 have hm:e.born<since:=hold e (by
  have:e∈(leftOf es seen).toList:=by rw[hl];simp
  unfold leftOf at this;simp at this⊢;exact this.1)
 simp only[Instr.next,getObj,Sem.run_bind,Sem.run,hr,hb,Result.andThen,next_test_false seen es since c0 hold hsc,aY,cO];unfold leftOf at hl;rw[hl];have e1:(#[e]:Array MapEntry).filter (fun x=>decide (x.born<since))= #[e]:=by simp[hm]
 have e2:(#[e]:Array MapEntry).filter (fun x=>decide (x.born>=since))= #[]:=by simp;omega
 simp only[e1,e2,Array.append_empty];simp[choose,Sem.run,Question.forced,setObj,hr]
theorem D9 (w:World) (ty:TypeId) {r bm since c0:Nat} {seen:Array Nat} {es:Array MapEntry} {clock:Nat} (hr:w.heap[r]?=some (.mapIter (some bm) since seen c0)) (hb:w.heap[bm]?=some (.map es clock)) (hold:∀x∈es.toList,x.born<since) (hsc:since<=c0)
  (hl:leftOf es seen= #[]):(Instr.next (.pointer (some ⟨r,0,none⟩)) false ty).run P w=.ok (.tuple #[.bool false]) w:=by
 simp only[Instr.next,getObj,Sem.run_bind,Sem.run,hr,hb,Result.andThen,next_test_false seen es since c0 hold hsc,aY,cO];unfold leftOf at hl;rw[hl];simp[choose,Sem.run,Question.forced]
theorem Rel.setIt (h:Rel C σ w0 w) {r b:Nat} (hr:r<σ.objs.length) (hb:C.bk r=some b) (hown:C.own r=none) {o:Obj} (hm:w.heap[b]?=some o) {m mb:Option Nat} (since:Nat) (seen:List Nat) (last:Nat) (hmb:∀q,m=some q->∃c,mb=some c/\C.bk q=some c):
  Rel C {σ with objs:=σ.objs.set r (.it m since seen last)} w0 {w with heap:=w.heap.setIfInBounds b (.mapIter mb since seen.reverse.toArray last)}:=by
 have hlt:b<w.heap.size:=(Array.getElem?_eq_some_iff.1 hm).1;refine h.setObj hr hb _ ⟨hown,b,mb,hb,by simp[hlt],hmb⟩ rfl rfl rfl (by simp) (fun k hk=>?_);simp only[Array.getElem?_setIfInBounds];rw[aB (Ne.symm hk)]
theorem a0O {g1 g2:GV} {v1 v2:Value} {b:Bool} (h1:VR C g1 v1) (h2:VR C g2 v2):VR C (.tup [.b b,g1,g2]) (.tuple #[.bool b,v1,v2]):=by
 have this:VRs C [.b b,g1,g2] [.bool b,v1,v2]:=fS (VR.b (C:=C) b) (fS h1 (fS h2 iO));exact .tup rfl (fun j g u h1 h2=>this.2 j g u h1 (by simpa using h2))
theorem XR:VR C (.tup [.b false]) (.tuple #[.bool false]):=by
 have this:VRs C [.b false] [.bool false]:=fS (VR.b (C:=C) false) iO;exact .tup rfl (fun j g u h1 h2=>this.2 j g u h1 (by simpa using h2))
theorem K1 {it g:GV} {vit:Value} {ty:TypeId} {σ':GS} (h:Rel C σ w0 w) (hit:VR C it vit) (hg:C1 it σ=some (g,σ')):∃v w',Rel C σ' w0 w'/\VR C g v/\(Instr.next vit false ty).run P w=.ok v w':=by
 unfold C1 at hg;split at hg
 ·rename_i r;cases hit with
  |ptr hbk=>
  rename_i b;split at hg
  ·rename_i m since seen last ho;obtain⟨hown,b',mb,hb',hh,hmb⟩:=h.obj r _ ho;rw[hbk] at hb';cases hb';obtain⟨c,rfl,hc⟩:=hmb m rfl;have hr:r<σ.objs.length:=(List.getElem?_eq_some_iff.1 ho).1;split at hg
   ·rename_i es bs clk hom;obtain⟨_,b2,ents,hb2,hheap,hbn,hks,hvs⟩:=h.obj m _ hom;rw[hc] at hb2;cases hb2;split at hg
    ·rename_i hcond;simp only[aF,aH,aZ] at hcond;obtain⟨⟨hlo,hall⟩,hsl⟩:=hcond;have hold:∀x∈ents.toList,x.born<since:=fun x hx=>hall x.born (by rw[<-hbn];exact List.mem_map_of_mem hx);obtain⟨i1,i2⟩:=JC (C:=C) seen es bs ents.toList hbn hks hvs;have hleft:(leftOf ents seen.reverse.toArray).toList=ents.toList.filter fun e=>!seen.contains e.born:=by
      unfold leftOf;simp
     split at hg
     ·rename_i hf;cases hg;rw[hf] at i1;have:leftOf ents seen.reverse.toArray= #[]:=by
       apply Array.ext';rw[hleft,aI i1]
      exact⟨_,w,h,XR,D9 w ty hh hheap hold hsl this⟩
     ·rename_i e hf;cases hg;rw[hf] at i1 i2;obtain⟨x,hx⟩:∃x,(ents.toList.filter fun e=>!seen.contains e.born)=[x]:=List.length_eq_one_iff.1 i1;obtain⟨v1,v2,v3⟩:=i2 0 _ _ rfl (by rw[hx];rfl);have hl:leftOf ents seen.reverse.toArray= #[x]:=by
       apply Array.ext';rw[hleft,hx]
      refine⟨_,_,h.setIt hr hbk hown hh since (e.2::seen) clk hmb,a0O v1 v2,?_⟩;have:=FM w ty hh hheap hold hsl hl (P:=P);rw[v3] at this;simpa using this
     ·cases hg
    ·cases hg
   ·cases hg
  ·cases hg
 ·cases hg
theorem wL {α β:Type} {f:α->β} {es:List α} {i:Nat} {e x:α} (h:es[i]?=some e) (hx:f x=f e):(es.set i x).map f=es.map f:=by
 apply cK;intro j;rw[aG,aG,List.getElem?_set];split
 ·rename_i hij;subst hij;split
  ·rw[h];simp[hx]
  ·rename_i hl;rw[b6 (by omega)]
 ·rfl
theorem rU {β:Type} (f:MapEntry->β) (ents:Array MapEntry) (j:Nat) (F:MapEntry->MapEntry) (hf:∀e,f (F e)=f e):(ents.modify j F).toList.map f=ents.toList.map f:=by
 apply cK;intro i;rw[aG,aG,bJ,bJ,Array.getElem?_modify];split
 ·rename_i hij;subst hij;cases ents[j]?<;>simp[hf]
 ·rfl
theorem vN (ents:Array MapEntry) (i:Nat):(ents.eraseIdxIfInBounds i).toList=ents.toList.eraseIdx i:=by
 unfold Array.eraseIdxIfInBounds;split
 ·simp
 ·rename_i h;rw[List.eraseIdx_of_length_le (by simpa using h)]
theorem nN {α β:Type} (f:α->β):∀(l:List α) (i:Nat),(l.eraseIdx i).map f=(l.map f).eraseIdx i
 |[],_=>rfl
 |_::_,0=>rfl
 |x::l,i+1=>by simp only[List.eraseIdx_cons_succ,bY,nN f l i]
theorem VRs.erase {gs:List GV} {vs:List Value} (h:VRs C gs vs) (i:Nat):VRs C (gs.eraseIdx i) (vs.eraseIdx i):=by
 rw[List.eraseIdx_eq_take_drop_succ,List.eraseIdx_eq_take_drop_succ];exact(h.take i).append (h.drop (i+1))
theorem uC {kt:TypeId} {d:TypeDesc} {k:GV} {vk:Value} (h:Rel C σ w0 w) (hd:P.underlying kt=some d) (hk:VR C k vk) {es:List (GV×GV)} {ents:Array MapEntry} {f:Option (Nat×GV)}
  (hks:VRs C (es.map (·.1)) (ents.toList.map (·.key))) (hvs:VRs C (es.map (·.2)) (ents.toList.map (·.val))) (hf:sX P kt d k es=some f):
  (∀b,(Instr.checkKey b 10000 kt vk).run P w=.ok () w)/\NQ P C w kt vk ents f:=by
 unfold sX at hf;by_cases h1:mU d k=true
 ·rw[aA h1] at hf;exact lM h hd hk (by rw[h1];rfl) hks hvs (by rw[aA h1];exact hf)
 ·rw[aB h1] at hf;by_cases h2:lV P kt k=true
  ·rw[aA h2] at hf;exact lM h hd hk (by rw[h2,Bool.or_true]) hks hvs (by rw[aB h1];exact hf)
  ·rw[aB h2] at hf;cases hf
theorem K8 {t:TypeId} {x g:GV} {vx:Value} {σ':GS} (h:Rel C σ w0 w) (hx:VR C x vx) (hg:C7 P t x σ=some (g,σ')):Runs P C w0 w σ' g (Instr.range t vx):=by
 unfold C7 at hg;split at hg
 ·rename_i r;cases hx with
  |mp hb=>
  split at hg
  ·rename_i kt es bs clk hm ho;cases hg;obtain⟨hown,b',ents,hb',hheap,hbn,hks,hvs⟩:=h.obj r _ ho;rw[hb] at hb';cases hb';obtain⟨D,hl,hbk,hrel⟩:=h.newObj (.it (some r) clk [] clk) (.mapIter (some _) clk #[] clk) (fun D hl h1 h2=>⟨h2,w.heap.size,_,h1,heap_alloc_new w _,fun q hq=>by
    cases hq;exact⟨_,rfl,hl.bk _ _ hb⟩⟩)
   exact⟨D,_,_,hl,hrel,.ptr hbk,run_range_map w t kt.1 kt.2 _ ents clk (iS hm) hheap⟩
  ·cases hg
 ·cases hg
theorem KS (b:Nat):∀(es:List (GV×GV)) (bs:List Nat) (ents:List MapEntry) (e:(GV×GV)×Nat),ents.map (·.born)=bs->VRs C (es.map (·.1)) (ents.map (·.key))->VRs C (es.map (·.2)) (ents.map (·.val))->
  (es.zip bs).find? (fun e=>Nat.beq e.2 b)=some e->∃x,ents.find? (fun x=>x.born==b)=some x/\VR C e.1.1 x.key/\VR C e.1.2 x.val
 |[],bs,ents,e,hb,h1,_,hf=>by simp at hf
 |(k,v)::es,bs,ents,e,hb,h1,h2,hf=>by
  cases ents with
  |nil=>have:=h1.1;simp at this
  |cons x ents=>
   subst hb;simp only[bY] at h1 h2;obtain⟨_,_,e1,hek,hks⟩:=h1.cons_inv;obtain⟨_,_,e2,hev,hvs⟩:=h2.cons_inv;cases e1;cases e2;simp only[bY,List.zip_cons_cons,List.find?_cons] at hf;cases hq:Nat.beq x.born b with
   |true=>
    rw[hq] at hf;cases hf;have:x.born=b:=cI hq;exact⟨x,by simp[List.find?_cons,this],hek,hev⟩
   |false=>
    rw[hq] at hf;obtain⟨y,h3,h4,h5⟩:=KS b es _ ents e rfl hks hvs hf;have:¬x.born=b:=fun e=>by rw[e,Nat.beq_refl] at hq;cases hq
    exact⟨y,by simp[List.find?_cons,this,h3],h4,h5⟩
theorem S2 {g1 g2:GV} {v1 v2:Value} (h1:VR C g1 v1) (h2:VR C g2 v2):VR C (.tup [g1,g2]) (.tuple #[v1,v2]):=by
 have this:VRs C [g1,g2] [v1,v2]:=fS h1 (fS h2 iO);exact .tup rfl (fun j g u h1 h2=>this.2 j g u h1 (by simpa using h2))
theorem H9 {it g:GV} {vit:Value} (h:Rel C σ w0 w) (hit:VR C it vit) (hg:CB it σ=some g):Runs P C w0 w σ g (Instr.entry vit):=by
 unfold CB at hg;split at hg
 ·rename_i r;cases hit with
  |ptr hbk=>
  split at hg
  ·rename_i m since b seen last ho;obtain⟨hown,b',mb,hb',hh,hmb⟩:=h.obj r _ ho;rw[hbk] at hb';cases hb';obtain⟨c,rfl,hc⟩:=hmb m rfl;split at hg
   ·rename_i es bs clk hom;obtain⟨_,b2,ents,hb2,hheap,hbn,hks,hvs⟩:=h.obj m _ hom;rw[hc] at hb2;cases hb2;split at hg
    ·rename_i hclk;have hclk:=cI hclk;subst hclk;split at hg
     ·rename_i e he;cases hg;obtain⟨x,hx,h1,h2⟩:=KS (C:=C) b es bs ents.toList e hbn hks hvs he;refine .pure h (S2 h1 h2) ?_;have hback:((b::seen).reverse.toArray).back?=some b:=by simp
      have hfind:ents.find? (fun x=>x.born==b)=some x:=by rw[<-Array.find?_toList];exact hx
      simp only[Instr.entry,getObj,Sem.run_bind,Sem.run,hh,hheap,Result.andThen,hback,eO,aY,cO,hfind];rfl
     ·cases hg
    ·cases hg
   ·cases hg
  ·cases hg
 ·cases hg
theorem zO {t:TypeId} {m k g:GV} {vm vk:Value} {σ':GS} (h:Rel C σ w0 w) (hm:VR C m vm) (hk:VR C k vk) (hg:m5 P t m k σ=some (g,σ')):Runs P C w0 w σ' g (Instr.mapEntry t vm vk):=by
 unfold m5 at hg;split at hg
 ·rename_i r;cases hm with
  |mp hb=>
  split at hg
  ·rename_i kt et hmt;split at hg
   ·rename_i d z es bs clk hd hz hobj;split at hg
    ·rename_i hlo;obtain⟨hown,b',ents,hb',hheap,hbn,hks,hvs⟩:=h.obj r _ hobj;rw[hb] at hb';cases hb';have hr:r<σ.objs.length:=(List.getElem?_eq_some_iff.1 hobj).1;split at hg
     ·rename_i j v hf;split at hg
      ·rename_i b1 e1 hb1 he1;cases hg;obtain⟨hck,v0,e0,hfk,hv0,hej,hstay⟩:=uC h hd hk hks hvs hf;have hborn:e0.born=b1:=by
        have:=hb1;rw[<-hbn,aG,bJ,hej] at this;simpa using this
       refine⟨C,_,_,.refl C,h.setMx hr hb hown (ents':=ents.modify j fun e=>{e with key:=vk}) (clk':=clk) hheap (es.set j (k,e1.2)) bs ?_ ?_ ?_,S2 hv0 (.i .i64 b1),?_⟩
       ·rw[<-hbn];exact tP _ _ _ (fun _=>rfl)
       ·rw[List.map_set];exact VRs.map_set (fun e:MapEntry=>e.key) hks j _ (fun _=>hk)
       ·rw[wL (f:=fun e:GV×GV=>e.2) (x:=(k,e1.2)) he1 rfl,rU (fun e:MapEntry=>e.val) ents j (fun e=>{e with key:=vk}) (fun _=>rfl)];exact hvs
       ·unfold Instr.mapEntry;simp only[Sem.run_bind,run_underlying (iS hmt),Result.andThen_ok,fJ hheap,hck,hfk,hej,aT,fM,hstay,j9 hheap,Sem.run_pure,hborn,goInt]
      ·cases hg
     ·rename_i hf;cases hg;obtain⟨hck,hfk⟩:=uC h hd hk hks hvs hf;obtain⟨vz,hvz,rfl⟩:=jY hz w;replace hfk:(Instr.findKey kt vk ents.toList).run P w=.ok none w:=hfk;refine⟨C,_,_,.refl C,h.setMx hr hb hown (ents':=ents.push {key:=vk,val:=vz,born:=clk}) (clk':=clk+1) hheap (es++[(k,kD vz)]) (bs++[clk]) ?_ ?_ ?_,S2 (dK C vz) (.i .i64 clk),?_⟩
      ·rw[<-hbn];simp only[dI,Array.toList_push];rfl
      ·simp only[dI,Array.toList_push];exact hks.append (fS hk iO)
      ·simp only[dI,Array.toList_push];exact hvs.append (fS (dK C vz) iO)
      ·unfold Instr.mapEntry;simp only[Sem.run_bind,run_underlying (iS hmt),Result.andThen_ok,fJ hheap,hck,hfk,hvz,j9 hheap,Sem.run_pure,goInt]
     ·cases hg
    ·cases hg
   ·cases hg
  ·cases hg
 ·cases hg
theorem QW (n:Int):∀(bs:List Nat) (ents:List MapEntry),ents.map (·.born)=bs->ents.findIdx? (fun e=>(e.born:Int)==n)=bs.findIdx? (fun(b:Nat)=>(b:Int)==n):=fun bs ents h=>by
 subst h;induction ents with
 |nil=>rfl
 |cons e ents ih=>simp only[bY,List.findIdx?_cons,ih]
theorem xB {t:TypeId} {m st v:GV} {vm vs vv:Value} {σ':GS} (h:Rel C σ w0 w) (hm:VR C m vm) (hs:VR C st vs) (hv:VR C v vv) (hg:jT m st v σ=some σ'):∃w',Rel C σ' w0 w'/\(Instr.entryStore t vm vs vv).run P w=.ok () w':=by
 unfold jT at hg;split at hg
 ·rename_i r k n;cases hm with
  |mp hb=>
  cases hs;split at hg
  ·rename_i es bs clk hobj;split at hg
   ·split at hg
    ·rename_i i hi;split at hg
     ·rename_i e he;cases hg;obtain⟨hown,b',ents,hb',hheap,hbn,hks,hvs⟩:=h.obj r _ hobj;rw[hb] at hb';cases hb';have hr:r<σ.objs.length:=(List.getElem?_eq_some_iff.1 hobj).1;have hfi:ents.findIdx? (fun e=>(e.born:Int)==n)=some i:=by
       rw[show ents.findIdx? (fun e=>(e.born:Int)==n)=ents.toList.findIdx? (fun e=>(e.born:Int)==n) by obtain⟨l⟩:=ents;simp,QW n bs ents.toList hbn];exact hi
      refine⟨_,h.setMx hr hb hown (ents':=ents.modify i fun e=>{e with val:=vv}) (clk':=clk) hheap (es.set i (e.1,v)) bs ?_ ?_ ?_,?_⟩
      ·rw[<-hbn];exact tP _ _ _ (fun _=>rfl)
      ·rw[wL (f:=fun e:GV×GV=>e.1) (x:=(e.1,v)) he rfl,rU (fun e:MapEntry=>e.key) ents i (fun e=>{e with val:=vv}) (fun _=>rfl)];exact hks
      ·rw[List.map_set];exact VRs.map_set (fun e:MapEntry=>e.val) hvs i _ (fun _=>hv)
      ·unfold Instr.entryStore;simp only[Sem.run_bind,fJ hheap,Result.andThen_ok,asInt,asIntOf,Sem.run_pure,hfi,j9 hheap]
     ·cases hg
    ·cases hg
   ·cases hg
  ·cases hg
 ·cases hg
theorem DN {ts:Array TypeId} {ty t:TypeId} {m k:GV} {vm vk:Value} {σ':GS} (ht:ts[0]?=some t) (h:Rel C σ w0 w) (hm:VR C m vm) (hk:VR C k vk) (hg:rJ P t m k σ=some σ'):∃w',Rel C σ' w0 w'/\(Builtin.delete_ ts ty #[vm,vk]).run P w=.ok (.tuple #[]) w':=by
 unfold rJ at hg;split at hg
 ·rename_i r;cases hm with
  |mp hb=>
  split at hg
  ·rename_i kt et hmt;split at hg
   ·rename_i d es bs clk hd hobj;split at hg
    ·obtain⟨hown,b',ents,hb',hheap,hbn,hks,hvs⟩:=h.obj r _ hobj;rw[hb] at hb';cases hb';have hr:r<σ.objs.length:=(List.getElem?_eq_some_iff.1 hobj).1;split at hg
     ·rename_i i v hf;cases hg;obtain⟨hck,v0,e0,hfk,hv0,hej,hstay⟩:=uC h hd hk hks hvs hf;refine⟨_,h.setMx hr hb hown (ents':=ents.eraseIdxIfInBounds i) (clk':=clk) hheap (es.eraseIdx i) (bs.eraseIdx i) ?_ ?_ ?_,?_⟩
      ·rw[vN,nN,hbn]
      ·rw[vN,nN,nN];exact hks.erase i
      ·rw[vN,nN,nN];exact hvs.erase i
      ·simp only[Builtin.delete_,ht,List.getElem?_toArray,List.getElem?_cons_zero,List.getElem?_cons_succ,Sem.run_bind,run_underlying (iS hmt),Result.andThen_ok,fJ hheap,hck,hfk,j9 hheap,Sem.run_pure]
     ·rename_i hf;cases hg;obtain⟨hck,hfk⟩:=uC h hd hk hks hvs hf;replace hfk:(Instr.findKey kt vk ents.toList).run P w=.ok none w:=hfk;refine⟨_,h.setMx hr hb hown (ents':=ents) (clk':=clk) hheap es bs hbn hks hvs,?_⟩;simp only[Builtin.delete_,ht,List.getElem?_toArray,List.getElem?_cons_zero,List.getElem?_cons_succ,Sem.run_bind,run_underlying (iS hmt),Result.andThen_ok,fJ hheap,hck,hfk,j9 hheap,Sem.run_pure]
     ·cases hg
    ·cases hg
   ·cases hg
  ·cases hg
 ·cases hg
theorem MX {t ty:TypeId} {x g:GV} {v:Value} (h:Rel C σ w0 w) (hx:VR C x v) (hg:rH P t x σ=some g):Runs P C w0 w σ g (Builtin.len_ #[t] ty #[v]):=by
 cases hx with
 |s l=>
  simp only[rH] at hg;split at hg
  ·rename_i hk;cases hg;refine .pure h (.i _ _) ?_;have hs:(ByteArray.mk l.toArray).size=l.length:=by simp[ByteArray.size]
   simp[Builtin.len_,run_underlying (jH hk),hs,goInt]
  ·cases hg
 |sl esz b off us hn hc ha hw hxx hv ht=>
  simp only[rH] at hg;split at hg
  ·rename_i hk;cases hg;obtain⟨e,he⟩:=lZ hk;subst hn;exact .pure h (.i _ _) (by simp[Builtin.len_,run_underlying he,goInt])
  ·cases hg
 |mp hb=>
  rename_i r b;simp only[rH] at hg;split at hg
  ·rename_i es hobj;split at hg
   ·rename_i hm;cases hg;obtain⟨⟨k,e⟩,hm'⟩:=Option.isSome_iff_exists.1 hm;obtain⟨hown,b',ents,clk,hb',hheap,hks,hvs⟩:=h.obj r _ hobj;rw[hb] at hb';cases hb';have hlen:ents.size=es.length:=by have:=hks.1;simpa using this
    refine .pure h (.i _ _) ?_;rw[<-hlen];simp[Builtin.len_,run_underlying (iS hm'),fJ hheap,goInt]
   ·cases hg
  ·rename_i es bs clk0 hobj;split at hg
   ·rename_i hm;cases hg;obtain⟨⟨k,e⟩,hm'⟩:=Option.isSome_iff_exists.1 hm;obtain⟨hown,b',ents,hb',hheap,hbn,hks,hvs⟩:=h.obj r _ hobj;rw[hb] at hb';cases hb';have hlen:ents.size=es.length:=by have:=hks.1;simpa using this
    refine .pure h (.i _ _) ?_;rw[<-hlen];simp[Builtin.len_,run_underlying (iS hm'),fJ hheap,goInt]
   ·cases hg
  ·cases hg
 |o hp=>
  cases v<;>simp[rH] at hg;rename_i r;cases r<;>simp at hg;obtain⟨hm,rfl⟩:=hg;obtain⟨⟨k,e⟩,hm'⟩:=Option.isSome_iff_exists.1 hm;exact .pure h (.i _ _) (by simp[Builtin.len_,run_underlying (iS hm'),goInt])
 |rp hb=>simp[rH] at hg
 |rs hb hc hp hx=>
  simp only[rH] at hg;split at hg
  ·rename_i hk;replace hk:=hk.2;cases hg;obtain⟨e,he⟩:=lZ hk;exact .pure h (.i _ _) (by simp[Builtin.len_,run_underlying he,goInt])
  ·cases hg
 |_=>simp[rH] at hg
theorem NW {α:Type} {l:List α} (hl:0<l.length):∀(k j:Nat) (g:α),(List.replicate k l).flatten[j]?=some g->l[j%l.length]?=some g
 |0,j,g,h=>by simp at h
 |k+1,j,g,h=>by
  rw[List.replicate_succ,List.flatten_cons] at h;by_cases hj:j<l.length
  ·rw[aU hj] at h;rw[Nat.mod_eq_of_lt hj];exact h
  ·rw[bT (by omega)] at h;have:=NW hl k _ _ h;rw[Nat.mod_eq_sub_mod (by omega)];exact this
theorem B9 {z:Value} {zs:List GV} (hz:VRs C zs z.cells.toList) (hp:0<zs.length) (k size:Nat) (hs:zs.length=size):VRs C (List.replicate k zs).flatten (madeCells z.cells (k*size)).toList:=by
 have hzs:z.cells.size=size:=by rw[<-b8,hz.1];exact hs
 refine⟨by rw[b8,size_madeCells,List.length_flatten];simp[hs],fun j g u h1 h2=>?_⟩;have h3:=NW hp k j g h1;have hm:j%zs.length<zs.length:=Nat.mod_lt _ hp;refine hz.2 _ g u h3 ?_;unfold madeCells at h2;rw[bJ] at h2;rw[Array.getElem?_map,aC] at h2;obtain⟨q,hq,rfl⟩:=h2;have hqj:q=j:=by
  obtain⟨h5,h6⟩:=Array.getElem?_eq_some_iff.1 hq;simp at h6;exact h6.symm
 subst hqj;rw[hzs,hs,bJ];have:q%size<z.cells.size:=by rw[hzs,<-hs];exact hm
 rw[aK this,getElem!_pos z.cells _ this]
theorem K4 {t:TypeId} {l c g:GV} {vl vc:Value} {σ':GS} (h:Rel C σ w0 w) (hl:VR C l vl) (hc:VR C c vc) (hg:x5 P t l c σ=some (g,σ')):Runs P C w0 w σ' g (Instr.makeSlice t vl vc):=by
 unfold x5 at hg;split at hg
 ·rename_i k n k' m;cases hl;cases hc;split at hg
  ·rename_i e he;split at hg
   ·rename_i size bytes z hs hb hz;split at hg
    ·rename_i hcond;simp only[aF,aH,bU] at hcond;obtain⟨⟨⟨⟨⟨⟨hzk,hzl⟩,hpos⟩,hby⟩,h0⟩,rfl⟩,hlim⟩:=hcond;cases hg;obtain⟨i,hi,hisz⟩:=tT hs;have hiby:i.bytes<=4096:=by
      unfold m8 at hb;rw[hi] at hb;simp at hb;omega
     unfold iE at hz;rw[hi,bC] at hz;cases hzv:i.zero with
     |none=>rw[hzv] at hz;cases hz
     |some zv=>
     rw[hzv] at hz;have hz:kD zv=z:=by simpa using hz
     subst hz;have hlim':n<=4294967296:=hlim;have hbn:(i.bytes:Int)*n<=4096*4294967296:=Int.mul_le_mul (by omega) hlim' h0 (by decide);have hrun:=run_make (P:=P) w t e i zv (iV he) hi hzv k k' n n h0 (cD _) (by omega) (by omega);obtain⟨hl,hr⟩:=h.newBox _ e (h.newAt _) (madeCells zv.cells (n.toNat*i.size)) (by rw[hisz];exact B9 ((dK C zv).cells hzk) (by rw[hzl];exact hpos) n.toNat size hzl);exact⟨_,_,_,hl,hr,.rs (aA rfl) (rL _) hpos (.inr rfl),hrun⟩
    ·cases hg
   ·cases hg
  ·cases hg
 ·cases hg
theorem H5 {t:TypeId} {l c:GV} {vl vc:Value} {f:xP} {r0:Nat} {σ':GS} (h:Rel C σ w0 w) (hl:VR C l vl) (hc:VR C c vc) (hg:MU P t l c=some f) (hx:NewAt C σ r0 f.2 σ'):Runs P C w0 w σ' (f.1 r0) (Instr.makeSlice t vl vc):=by
 unfold MU at hg;split at hg
 ·rename_i k n k' m;cases hl;cases hc;split at hg
  ·rename_i e he;split at hg
   ·rename_i size bytes z hs hb hz;split at hg
    ·rename_i hcond;simp only[aF,aH,bU] at hcond;obtain⟨⟨⟨⟨⟨⟨hzk,hzl⟩,hpos⟩,hby⟩,h0⟩,rfl⟩,hlim⟩:=hcond;cases hg;obtain⟨i,hi,hisz⟩:=tT hs;have hiby:i.bytes<=4096:=by
      unfold m8 at hb;rw[hi] at hb;simp at hb;omega
     unfold iE at hz;rw[hi,bC] at hz;cases hzv:i.zero with
     |none=>rw[hzv] at hz;cases hz
     |some zv=>
     rw[hzv] at hz;have hz:kD zv=z:=by simpa using hz
     subst hz;have hlim':n<=4294967296:=hlim;have hbn:(i.bytes:Int)*n<=4096*4294967296:=Int.mul_le_mul (by omega) hlim' h0 (by decide);have hrun:=run_make (P:=P) w t e i zv (iV he) hi hzv k k' n n h0 (cD _) (by omega) (by omega);obtain⟨hl,hr⟩:=h.newBox _ e hx (madeCells zv.cells (n.toNat*i.size)) (by rw[hisz];exact B9 ((dK C zv).cells hzk) (by rw[hzl];exact hpos) n.toNat size hzl);exact⟨_,_,_,hl,hr,.rs (aA rfl) (rL _) hpos (.inr rfl),hrun⟩
    ·cases hg
   ·cases hg
  ·cases hg
 ·cases hg
theorem sW (f:GV->GV->Option GV) (F:Value->Value->Sem Value) (hf:∀x y z vx vy,VR C x vx->VR C y vy->f x y=some z->∃v,(F vx vy).run P w=.ok v w/\VR C z v):
  ∀(ys:List GV) (vs:List Value) (x z:GV) (vx:Value),VR C x vx->VRs C ys vs->x6 f x ys=some z->∃v,(vs.foldlM F vx).run P w=.ok v w/\VR C z v
 |[],vs,x,z,vx,hx,hs,h=>by
  have:vs=[]:=aI (by simpa using hs.1);subst this;cases h;exact⟨vx,rfl,hx⟩
 |y::ys,vs,x,z,vx,hx,hs,h=>by
  obtain⟨v,vs',rfl,hy,hys⟩:=hs.cons_inv;simp only[x6,Option.bind_eq_some_iff] at h;obtain⟨q,hq,hz⟩:=h;obtain⟨u,hu,hqu⟩:=hf x y q vx v hx hy hq;obtain⟨r,hr,hzr⟩:=sW f F hf ys vs' q z u hqu hys hz;exact⟨r,by simp only[List.foldlM_cons,Sem.run_bind,hu,Result.andThen_ok,hr],hzr⟩
theorem L3 (w:World) (a:Addr) (n:Nat) (p:Addr):(w.freeze a n).cell? p=w.cell? p:=by
 unfold World.freeze;split
 ·rfl
 ·simp only[World.cell?,Array.getElem?_modify];by_cases h:a.block=p.block
  ·rw[aA h];cases w.heap[p.block]? with
   |none=>rfl
   |some o=>cases o<;>rfl
  ·rw[aB h]
theorem KE {ts:Array TypeId} {ty:TypeId} {x g:GV} {v:Value} (h:Rel C σ w0 w) (hx:VR C x v) (hg:CD x=some g):Runs P C w0 w σ g (Builtin.unsafeSliceData_ ts ty #[v]):=by
 unfold CD at hg;split at hg
 ·rename_i r xs;split at hg
  ·rename_i hc;simp only[aF,fT,aZ,bU] at hc;cases hg;have hne:xs≠[]:=fun e=>by rw[e] at hc;simp at hc
   cases hx with
   |sl esz b off us hn hcc ha hw hxx hv ht=>
   rename_i a n c;obtain⟨x0,hx0⟩:=List.exists_mem_of_ne_nil xs hne;have hesz:esz=1:=by rw[<-hw x0 hx0];exact hc.2 x0 hx0
   subst hesz;have hpos:0<xs.length:=List.length_pos_iff.2 hne;have ha':a=some ⟨b,off,none⟩:=by
    rcases ha with⟨_,h2⟩|h2|h2
    ·omega
    ·exact h2
    ·omega
   subst ha';obtain⟨I,hI,hle,hes,htok⟩:=ht;have hlen:(xs.flatMap GV.cells).length=xs.length:=by
    have:=jV xs (n:=1) hc.2;unfold flat at this;omega
   refine .pure h ?_ (Lib.run_unsafeSliceData_row w ts ty _ n c (by omega));have get:∀(j:Nat) g,(xs.flatMap GV.cells)[j]?=some g->∃y,xs[j]?=some y/\y.cells[0]?=some g:=fun j g hj=>by
    have hjl:j<xs.length:=by rw[<-hlen];exact(List.getElem?_eq_some_iff.1 hj).1
    have hy:xs[j]?=some xs[j]:=gL hjl;have hyl:=hc.2 _ (dO hjl);have hz:(xs[j]).cells[0]?=some ((xs[j]).cells[0]'(by omega)):=gL (by omega);have:=CN xs (n:=1) hc.2 j _ 0 _ hy hz;unfold flat at this;rw[Nat.mul_one,Nat.add_zero,hj] at this;cases this;exact⟨_,hy,hz⟩
   refine .dat us (fun j g hj=>?_) (fun j g hj=>?_) ⟨I,hI,by omega,fun he=>?_⟩
   ·obtain⟨y,hy,hz⟩:=get j g hj;have:=hxx j y 0 g hy hz;simpa using this
   ·obtain⟨y,hy,hz⟩:=get j g hj;have:=hv j y 0 g hy hz;simpa using this
   ·rcases htok (by omega) with h1|⟨bb,sz,h1,h2,h3⟩
    ·omega
    ·cases h2;exact⟨rfl,(hes hpos).symm,sz,h1⟩
  ·cases hg
 ·cases hg
theorem JU {pt it ty:TypeId} {x n g:GV} {v vn:Value} {σ':GS} (h:Rel C σ w0 w) (hx:VR C x v) (hn:VR C n vn) (hg:uS P pt x n σ=some (g,σ')):
  Runs P C w0 w σ' g (Builtin.unsafeString_ #[pt,it] ty #[v,vn]):=by
 unfold uS at hg;split at hg
 ·rename_i r cs n;split at hg
  ·rename_i m esz tyo l ho hl;split at hg
   ·rename_i hc;simp only[aF,aH,bU,fT] at hc;obtain⟨⟨⟨⟨⟨⟨⟨c1,c2⟩,c3⟩,c4⟩,c5⟩,c6⟩,c7⟩,c8⟩:=hc;cases hg;cases hn;subst c1;have hne:l≠[]:=fun e=>by rw[e] at c3;simp at c3
    cases hx with
    |dat us hxx hv ht=>
    rename_i off b;obtain⟨I,hI,hle,htok⟩:=ht;obtain⟨h0,I',hI',hIl,hIe,hIb⟩:=h.obj r _ ho;rw[hI] at hI';cases hI';obtain⟨rfl,he1,sz,hblk⟩:=htok (by omega);obtain⟨⟨p1,p2⟩,vs,hheap,hsz⟩:=hIb b sz hblk;obtain⟨ns,hcs,hl2⟩:=tH cs l hl;have hshape:w.shape? b=some (tyo,vs.size):=by
     simp[World.shape?,hheap]
    have hcl:cs.length=l.length:=by rw[hcs,hl2];simp
    have hcell:∀(j:Nat) (y:UInt8),l[j]?=some y->w.cell? ((⟨b,0,none⟩:Addr).add j)=some (.int .u8 y.toNat):=fun j y hj=>by
     have hns:l[j]?=(ns[j]?).map fun n=>UInt8.ofNat n.toNat:=by rw[hl2,aG]
     rw[hns,aC] at hj;obtain⟨q,hq,rfl⟩:=hj;have hg:cs[j]?=some (.i .u8 q):=by rw[hcs,aG,hq];rfl
     have h1:=hxx j _ hg;have h2:=hv j _ hg;have h3:=List.all_eq_true.1 c8 _ (b9 hg);simp only[KI,aF,aH] at h3;generalize us j=uj at h1 h2;cases h2;rw[iM];have hq2:((UInt8.ofNat q.toNat).toNat:Int)=q:=by
      rw[UInt8.toNat_ofNat'];omega
     rw[hq2];exact h.fxc _ _ _ h1
    have hrun:=Lib.run_unsafeString_row (P:=P) (w:=w) pt it ty tyo (IX c5) c6 b vs.size hshape l hne (by
     rw[<-hcl,hsz];have:m*esz<=sz:=p2;have:esz=1:=by omega
     subst this;omega) (by simp only[D7] at c7;omega) hcell
    refine⟨C,_,_,.refl C,?_,.s l,hrun⟩;have hbC:d8 C r=some b:=jJ h0 hI hblk;have hlt:b<w.heap.size:=(Array.getElem?_eq_some_iff.1 hheap).1;have hfsz:(w.freeze ⟨b,0,none⟩ l.length).heap.size=w.heap.size:=by
     unfold World.freeze;split<;>simp
    refine Rel.upd b r .dead h (.refl C) (zY (List.getElem?_eq_some_iff.1 ho).1) (fun k hk=>tU k hk) (by simp[Go.Proofs.YtmnjcddcihdlfaaGreatDoor.gset]) ?_ ?_ ?_ (by omega) (fun k hk _=>?_)
     (h.new r b hbC) (fun _ _=>⟨rfl,rfl⟩) (fun k hk hkb=>hk (h.inj k r b hkb hbC)) (fun b' hb'=>.inr hb') (fun b' o v hf=>?_) (fun _ _ _ hf=>.inl hf) ⟨.inl h0,fun b' hb'=>?_⟩
     (fun b' o v hb' hf=>h.sepB r b' o v hb' hf) (fun I b' sz o v hI hb' hf=>h.sepO r I b' sz o v hI hb' hf)
    ·unfold World.freeze;split<;>rfl
    ·unfold World.freeze;split<;>rfl
    ·unfold World.freeze;split<;>rfl
    ·unfold World.freeze;split
     ·rfl
     ·simp only[Array.getElem?_modify];rw[aB (Ne.symm hk)]
    ·rw[L3];exact h.fxc b' o v hf
    ·rw[hbC] at hb';cases hb';omega
   ·cases hg
  ·cases hg
 ·cases hg
theorem HE {t ty:TypeId} {x g:GV} {v:Value} {σ':GS} (h:Rel C σ w0 w) (hx:VR C x v) (hg:vK P t x σ=some (g,σ')):Runs P C w0 w σ' g (Builtin.clear_ #[t] ty #[v]):=by
 unfold vK at hg;split at hg
 ·rename_i r off esz n c;split at hg
  ·rename_i e he;split at hg
   ·rename_i size z T cs hs hz hcs;split at hg
    ·rename_i hq;simp only[aF,aH] at hq;obtain⟨⟨⟨⟨hok,rfl⟩,hpos⟩,hlo⟩,hlen⟩:=hq;cases hx with
     |rp hb=>omega
     |rs hb hcc hp hxc=>
     rename_i b c';cases hg;obtain⟨zv,hzr,rfl⟩:=jY hz w;obtain⟨h0,b',vs,h1,h2,h3,hx9⟩:=h.obj r _ hcs;rw[hb] at h1;cases h1;have hzl:=kI hok;have hk:=B9 (C:=C) ((dK C zv).cells (nZ hok)) (by rw[hzl];exact hp) n esz hzl;have hzs:zv.cells.size=esz:=by rw[<-b8,((dK C zv).cells (nZ hok)).1];exact hzl
     have hll:(List.replicate n (kD zv).cells).flatten.length=n*esz:=by rw[List.length_flatten];simp[hzl]
     have hvl:(madeCells zv.cells (n*esz)).toList.length=n*esz:=by rw[hk.1,hll]
     have hvs:cs.length<=vs.toList.length:=by have:=h3.1;rw[cL] at this;omega
     have hvz:vs.toList.length=vs.size:=b8;have h1c:∀u∈(madeCells zv.cells (n*esz)).toList,u.oneCell'=true:=fun u hu=>by
      obtain⟨j,hj⟩:=List.mem_iff_getElem?.1 hu;have hjl:j<(List.replicate n (kD zv).cells).flatten.length:=by rw[<-hk.1];exact(List.getElem?_eq_some_iff.1 hj).1
      refine(hk.2 j _ u (gL hjl) hj).isCell (u4 hok _ ?_);have hm:=dO hjl;rw[List.mem_flatten] at hm;obtain⟨l,hl1,hl2⟩:=hm;rw[(List.mem_replicate.1 hl1).2] at hl2;exact hl2
     have hrun:=run_storeCells_at P b off T (madeCells zv.cells (n*esz)).toList 0 vs w h2 (by rw[hvl];omega) h1c;have hund:=iV he;have main:∀(hw:World) (hr:(storeCells ⟨b,off,none⟩ (madeCells zv.cells (n*esz)).toList 0).run P w=.ok () hw),(Builtin.clear_ #[t] ty #[.slice (some ⟨b,off,none⟩) n c']).run P w=.ok (.tuple #[]) hw:=fun hw hr=>by
      have e9:(Builtin.zeroCells zv.cells n)=madeCells zv.cells (n*esz):=by
       unfold Builtin.zeroCells madeCells;rw[hzs]
      cases n with
      |zero=>
       rw[Nat.zero_mul] at hr;have:(madeCells zv.cells 0).toList=[]:=by simp[madeCells]
       rw[this] at hr;have hw9:hw=w:=by
        simp[storeCells] at hr;exact hr.symm
       subst hw9;simp[Builtin.clear_,run_underlying hund]
      |succ n=>
       simp only[Builtin.clear_,List.getElem?_toArray,List.getElem?_cons_zero,Sem.run_bind,run_underlying hund,Result.andThen_ok,hzr,e9,hr,Sem.run_pure]
     refine⟨C,_,_,.refl C,?_,.tup (vs:= #[]) rfl (fun j g u h1=>by simp at h1),main _ hrun⟩;refine Rel.setObj h (List.getElem?_eq_some_iff.1 hcs).1 hb _ ⟨h0,b,_,hb,setRow_heap w b vs _ T (0,0) h2,?_⟩ rfl rfl rfl (by simp) (fun k hk=>setRow_other w b k _ hk);simp only[Nat.add_zero];rw[hvl];have e1:(cs.take off++(List.replicate n (kD zv).cells).flatten++cs.drop (off+n*esz)).length=cs.length:=by simp only[aX,cL,cU,hll];omega
     refine⟨?_,fun hT=>?_⟩
     ·rw[e1];have h4:=((h3.take off).append hk).append (h3.drop (off+n*esz));have h5:=AR (us:=(madeCells zv.cells (n*esz)).toList) (k:=n*esz) hlen hvs hvl;rw[h5];exact h4
     ·rw[e1,<-hx9 hT];simp only[List.size_toArray,aX,cL,cU,hvl];omega
    ·cases hg
   ·cases hg
  ·cases hg
 ·cases hg
theorem CG {b:Builtin} {ts:Array TypeId} {ty:TypeId} {args:List GV} {vs:Array Value} {g:GV} {σ':GS} (h:Rel C σ w0 w) (ha:VRs C args vs.toList)
  (hg:i8 P b ts.toList args σ=some (g,σ')):∃D v w',C.le D/\Rel D σ' w0 w'/\VR D g v/\∀consts,(builtin b ts ty consts vs).run P w=.ok (.value v) w':=by
 have wrap:∀{s:Sem Value},Runs P C w0 w σ' g s->∃D v w',C.le D/\Rel D σ' w0 w'/\VR D g v/\∀_:Array Bool,((do pure (Next.value (<-s))):Sem Next).run P w=.ok (.value v) w':=by
  rintro s ⟨D,v,w',h1,h2,h3,h4⟩;exact⟨D,v,w',h1,h2,h3,fun _=>by simp[h4]⟩
 obtain⟨tsl⟩:=ts;obtain⟨vsl⟩:=vs;simp only at ha hg;unfold i8 at hg;split at hg
 ·rename_i t x;obtain⟨v,vs',rfl,hx,hs⟩:=ha.cons_inv;have:vs'=[]:=aI (by simpa using hs.1);subst this;cases hl:rH P t x σ with
  |none=>rw[hl] at hg;cases hg
  |some q=>
   rw[hl] at hg;cases hg;exact wrap (MX h hx hl)
 ·rename_i t u s x;obtain⟨v,vs',rfl,hv,hs⟩:=ha.cons_inv;obtain⟨v2,vs'',rfl,hv2,hs2⟩:=hs.cons_inv;have:vs''=[]:=aI (by simpa using hs2.1);subst this;exact wrap (DQ h hv hv2 hg)
 ·rename_i x;obtain⟨v,vs',rfl,hx,hs⟩:=ha.cons_inv;have:vs'=[]:=aI (by simpa using hs.1);subst this;cases hl:CD x with
  |none=>rw[hl] at hg;cases hg
  |some q=>
   rw[hl] at hg;cases hg;exact wrap (KE h hx hl)
 ·rename_i pt it x n;obtain⟨v,vs',rfl,hv,hs⟩:=ha.cons_inv;obtain⟨v2,vs'',rfl,hv2,hs2⟩:=hs.cons_inv;have:vs''=[]:=aI (by simpa using hs2.1);subst this;exact wrap (JU h hv hv2 hg)
 ·rename_i t x;obtain⟨v,vs',rfl,hx,hs⟩:=ha.cons_inv;have:vs'=[]:=aI (by simpa using hs.1);subst this;exact wrap (HE h hx hg)
 ·rename_i t tl m k;obtain⟨v,vs',rfl,hv,hs⟩:=ha.cons_inv;obtain⟨v2,vs'',rfl,hv2,hs2⟩:=hs.cons_inv;have:vs''=[]:=aI (by simpa using hs2.1);subst this;rw[aC] at hg;obtain⟨s,hd,hq⟩:=hg;cases hq;obtain⟨w',h1,h2⟩:=DN (ts:=(t::tl).toArray) (ty:=ty) rfl h hv hv2 hd;exact wrap ⟨C,_,w',.refl C,h1,.tup rfl (fun j g u h1=>by simp at h1),h2⟩
 ·rename_i x xs;obtain⟨v,vs',rfl,hv,hs⟩:=ha.cons_inv;cases hl:x6 K2 x xs with
  |none=>rw[hl] at hg;cases hg
  |some q=>
   rw[hl] at hg;cases hg;obtain⟨r,hr,hq⟩:=sW (P:=P) (w:=w) K2 Builtin.min2 (fun x y z vx vy hx hy hz=>by
    unfold K2 at hz;split at hz
    ·cases hx;cases hy;cases hz;exact⟨_,rfl,.i _ _⟩
    ·cases hz) xs vs' x _ v hv hs hl
   exact wrap (.pure h hq (by simpa[Builtin.min_] using hr))
 ·rename_i x xs;obtain⟨v,vs',rfl,hv,hs⟩:=ha.cons_inv;cases hl:x6 K3 x xs with
  |none=>rw[hl] at hg;cases hg
  |some q=>
   rw[hl] at hg;cases hg;obtain⟨r,hr,hq⟩:=sW (P:=P) (w:=w) K3 Builtin.max2 (fun x y z vx vy hx hy hz=>by
    unfold K3 at hz;split at hz
    ·cases hx;cases hy;cases hz;exact⟨_,rfl,.i _ _⟩
    ·cases hz) xs vs' x _ v hv hs hl
   exact wrap (.pure h hq (by simpa[Builtin.max_] using hr))
 ·cases hg
def a1E (C:Cx) (nx:Next) (g:GV):Prop:=(∃v,nx=.value v/\VR C g v)∨(nx=.skip/\g=.any)
def OpRuns (P:Program) (C:Cx) (w0 w:World) (σ':GS) (g:GV) (s:Sem Next):Prop:=∃D nx w',C.le D/\Rel D σ' w0 w'/\a1E D nx g/\s.run P w=.ok nx w'
theorem OpRuns.value {σ':GS} {g:GV} {s:Sem Value} (h:Runs P C w0 w σ' g s):OpRuns P C w0 w σ' g (do pure (Next.value (<-s))):=by
 obtain⟨D,v,w',h1,h2,h3,h4⟩:=h;exact⟨D,.value v,w',h1,h2,.inl ⟨v,rfl,h3⟩,by simp[h4]⟩
theorem OpRuns.unit {σ':GS} {s:Sem Unit} (h:∃w',Rel C σ' w0 w'/\s.run P w=.ok () w'):OpRuns P C w0 w σ' .any (do s;pure Next.skip):=by
 obtain⟨w',h2,h4⟩:=h;exact⟨C,.skip,w',.refl C,h2,.inr ⟨rfl,rfl⟩,by simp[h4]⟩
theorem OR.map {ρ:Operand->GV} {ρ':Operand->Value} (h:∀x,VR C (ρ x) (ρ' x)) (x:Option Operand):OR C (x.map ρ) (x.map ρ'):=by
 cases x with
 |none=>exact .none
 |some x=>exact .some (h x)
theorem VRs.mapOp {ρ:Operand->GV} {ρ':Operand->Value} (h:∀x,VR C (ρ x) (ρ' x)) (xs:List Operand):VRs C (xs.map ρ) (xs.map ρ'):=by
 refine⟨by simp,fun j g u h1 h2=>?_⟩;simp only[aG,aC] at h1 h2;obtain⟨p,hp,rfl⟩:=h1;obtain⟨q,hq,rfl⟩:=h2;rw[hp] at hq;cases hq;exact h _
theorem x3 {ρ:Operand->GV} {ρ':Operand->Value} {o:Oper} {f:xP} {r0:Nat} {σ':GS} (h:Rel C σ w0 w) (hρ:∀x,VR C (ρ x) (ρ' x)) (hc:∀v,ρ' (.const v)=v) (hg:dN P ρ o.op=some f)
  (hx:NewAt C σ r0 f.2 σ'):OpRuns P C w0 w σ' (f.1 r0) (execOp ρ' o):=by
 obtain⟨dst,op,type,pos,after,guard⟩:=o;simp only at hg;unfold dN at hg;split at hg
 ·cases hg;obtain⟨D,hl,ho,hr⟩:=h.newNil hx;refine⟨D,_,w,hl,hr,.inl ⟨_,rfl,?_⟩,rfl⟩;rw[hc];exact .sl 0 0 0 (fun _=>undef) rfl (rL _) (.inl ⟨rfl,rfl⟩) (fun x hx=>by cases hx) (fun i x j g h=>by simp at h) (fun i x j g h=>by simp at h)
   ⟨_,ho,rL _,fun h=>absurd h (by simp),fun _=>.inl ⟨rfl,rfl⟩⟩
 ·exact .value (HM h hg hx _)
 ·exact .value (N5 h (hρ _) hg hx)
 ·exact .value (xD h (by rw[Array.toList_map];exact PRs.of hρ) hg hx)
 ·rename_i t;cases hg;cases hw:Globals.wr t with
  |false=>
   rw[hw] at hx;obtain⟨hl,hr⟩:=h.newMap hx;exact .value ⟨_,_,_,hl,hr,.mp (aA rfl),by simp[Instr.makeMap]⟩
  |true=>
   rw[hw] at hx;obtain⟨hl,hr⟩:=h.newMx hx;exact .value ⟨_,_,_,hl,hr,.mp (aA rfl),by simp[Instr.makeMap]⟩
 ·cases hg
theorem DJ {ρ:Operand->GV} {ρ':Operand->Value} {o:Oper} {f:xP} {r0:Nat} {σ':GS} (h:Rel C σ w0 w) (hρ:∀x,VR C (ρ x) (ρ' x)) (hc:∀v,ρ' (.const v)=v) (hg:mF P ρ o.op=some f)
  (hx:NewAt C σ r0 f.2 σ'):OpRuns P C w0 w σ' (f.1 r0) (execOp ρ' o):=by
 unfold mF at hg;split at hg
 ·rename_i t l c hop;obtain⟨dst,op,type,pos,after,guard⟩:=o;simp only at hop;subst hop;exact .value (H5 h (hρ l) (hρ c) hg hx)
 ·exact x3 h hρ hc hg hx
theorem MS {ρ:Operand->GV} {ρ':Operand->Value} {o:Oper} {g:GV} {σ':GS} (h:Rel C σ w0 w) (hρ:∀x,VR C (ρ x) (ρ' x)) (hc:∀v,ρ' (.const v)=v) (hg:jB P ρ o.op σ=some (g,σ')):
  OpRuns P C w0 w σ' g (execOp ρ' o):=by
 obtain⟨dst,op,type,pos,after,guard⟩:=o;simp only at hg;have mp:∀{x:Option GV} {q:GV×GS},x.map (fun v=>(v,σ))=some q->x=some q.1/\q.2=σ:=fun hx=>by
  rw[aC] at hx;obtain⟨a,rfl,rfl⟩:=hx;exact⟨rfl,rfl⟩
 have mu:∀{x:Option GS} {q:GV×GS},x.map (fun s=>(GV.any,s))=some q->x=some q.2/\q.1=.any:=fun hx=>by
  rw[aC] at hx;obtain⟨a,rfl,rfl⟩:=hx;exact⟨rfl,rfl⟩
 cases op<;>simp only[jB] at hg<;>simp only[execOp]
 case move x=>cases hg;exact⟨C,_,w,.refl C,h,.inl ⟨_,rfl,hρ x⟩,rfl⟩
 case assign x=>cases hg;exact⟨C,_,w,.refl C,h,.inl ⟨_,rfl,hρ _⟩,rfl⟩
 case pick c a b=>
  split at hg
  ·rename_i t ht;cases hg;have hcv:=hρ c;rw[ht] at hcv;generalize hv:ρ' c=v at hcv;cases hcv;refine⟨C,_,w,.refl C,h,.inl ⟨if t then ρ' a else ρ' b,rfl,?_⟩,by simp[asBool]⟩;cases t
   ·exact hρ b
   ·exact hρ a
  ·cases hg
 case build t ps=>
  obtain⟨h1,h2⟩:=mp hg;subst h2;exact .value (HI h (by rw[Array.toList_map];exact PRs.of hρ) h1)
 case load t a=>obtain⟨h1,h2⟩:=mp hg;subst h2;exact .value (K6 h (hρ a) h1)
 case store t a v=>obtain⟨h1,h2⟩:=mu hg;subst h2;exact .unit (GO h (hρ a) (hρ v) h1)
 case nilCheck x=>
  obtain⟨h1,h2⟩:=mp hg;subst h2;have hv:=hρ x;generalize ρ' x=v at hv;generalize ρ x=q at hv h1;unfold y3 at h1;split at h1<;>first|(cases h1;done)|skip
  all_goals
   cases h1;cases hv;refine⟨C,_,w,.refl C,h,.inl ⟨_,rfl,?_⟩,rfl⟩;constructor<;>assumption
 case binOp op t x y yt=>obtain⟨h1,h2⟩:=mp hg;subst h2;exact .value (N8 h (hρ x) (hρ y) h1)
 case unOp op t x=>obtain⟨h1,h2⟩:=mp hg;subst h2;exact .value (QO h (hρ x) h1)
 case convert s d x=>obtain⟨h1,h2⟩:=mp hg;subst h2;exact .value (CF h (hρ x) h1)
 case makeInterface t x=>obtain⟨h1,h2⟩:=mp hg;subst h2;exact .value (y5 h (hρ x) h1)
 case makeFunc f a c=>
  cases hg;refine .value (.pure h (v:=.func f (a.map ρ') (c.map ρ')) ?_ rfl);have h1:=VRs.mapOp hρ a.toList;have h2:=VRs.mapOp hρ c.toList;exact .fn (by simp) (by simp) (fun j g u a1 a2=>h1.2 j g u a1 (by simpa using a2)) (fun j g u a1 a2=>h2.2 j g u a1 (by simpa using a2))
 case slice t x lo hi mx=>obtain⟨h1,h2⟩:=mp hg;subst h2;exact .value (GT h (hρ x) (OR.map hρ lo) (OR.map hρ hi) (OR.map hρ mx) h1)
 case fieldAddr s x f=>obtain⟨h1,h2⟩:=mp hg;subst h2;exact .value (y9 h (hρ x) h1)
 case field s x f=>obtain⟨h1,h2⟩:=mp hg;subst h2;exact .value (H8 h (hρ x) h1)
 case makeSlice t l c=>exact .value (K4 h (hρ l) (hρ c) hg)
 case indexAddr t x i=>obtain⟨h1,h2⟩:=mp hg;subst h2;exact .value (y7 h (hρ x) (hρ i) h1)
 case index t x i=>obtain⟨h1,h2⟩:=mp hg;subst h2;exact .value (H6 h (hρ x) (hρ i) h1)
 case lookup t m k ok=>obtain⟨h1,h2⟩:=mp hg;subst h2;exact .value (DL h (hρ m) (hρ k) h1)
 case mapUpdate t m k v=>obtain⟨h1,h2⟩:=mu hg;subst h2;exact .unit (uR h (hρ m) (hρ k) (hρ v) h1)
 case insert t m k v=>obtain⟨h1,h2⟩:=mu hg;subst h2;exact .unit (uR h (hρ m) (hρ k) (hρ v) h1)
 case typeAssert x xt t ok=>obtain⟨h1,h2⟩:=mp hg;subst h2;exact .value (DP h (hρ x) h1)
 case range t x=>exact .value (K8 h (hρ x) hg)
 case next it s=>
  cases s with
  |true=>cases hg
  |false=>
   obtain⟨v,w',h1,h2,h3⟩:=K1 (P:=P) (ty:=type) h (hρ it) hg;exact .value ⟨C,v,w',.refl C,h1,h2,h3⟩
 case entry it=>obtain⟨h1,h2⟩:=mp hg;subst h2;exact .value (H9 h (hρ it) h1)
 case mapEntry t m k=>exact .value (zO h (hρ m) (hρ k) hg)
 case entryStore t m s v=>obtain⟨h1,h2⟩:=mu hg;subst h2;exact .unit (xB h (hρ m) (hρ s) (hρ v) h1)
 case extract x i=>obtain⟨h1,h2⟩:=mp hg;subst h2;exact .value (CA h (hρ x) h1)
 case call c=>
  obtain⟨callee,args,argTypes⟩:=c;cases callee with
  |builtin b=>
   simp only at hg;obtain⟨D,v,w',h1,h2,h3,h4⟩:=CG (ty:=type) h (vs:=args.map ρ') (by rw[Array.toList_map];exact VRs.mapOp hρ args.toList) hg;exact⟨D,.value v,w',h1,h2,.inl ⟨v,rfl,h3⟩,by simpa[resolve,invoke] using h4 _⟩
  |_=>cases hg
 all_goals cases hg
theorem ET {ρ:Operand->GV} {ρ':Operand->Value} {o:Oper} {g:GV} {σ':GS} (h:Rel C σ w0 w) (hρ:∀x,VR C (ρ x) (ρ' x)) (hc:∀v,ρ' (.const v)=v) (hg:kO P ρ o.op σ=some (g,σ')):
  OpRuns P C w0 w σ' g (execOp ρ' o):=by
 unfold kO at hg;split at hg
 ·rename_i f hf;cases hg;exact x3 h hρ hc hf (h.newAt _)
 ·exact MS h hρ hc hg
end
