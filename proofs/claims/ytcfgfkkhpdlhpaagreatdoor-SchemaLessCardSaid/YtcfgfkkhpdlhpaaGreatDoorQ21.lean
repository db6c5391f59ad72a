/-
  A part of the proof of SchemaLess.
-/
import Derived.Test.YtcfgfkkhpdlhpaaGreatDoorQ20
import Derived.Laws.Rows
set_option linter.all false
namespace Go.Proofs.YtcfgfkkhpdlhpaaGreatDoor
open Go.RowKit
set_option maxRecDepth 100000
set_option linter.unusedVariables false
def goodAt (i:Nat) (c:UInt8):Prop:=(97<=c.toNat/\c.toNat<=122)∨(i≠0/\(c.toNat=95∨(48<=c.toNat/\c.toNat<=57)))
theorem isInner_iff (c:UInt8):isInner c=true↔(97<=c.toNat/\c.toNat<=122)∨(c.toNat=95∨(48<=c.toNat/\c.toNat<=57)):=by
 simp[isInner,isSmall,isDigit];omega
theorem isSmall_iff (c:UInt8):isSmall c=true↔(97<=c.toNat/\c.toNat<=122):=by simp[isSmall]
theorem name_iff {s:List UInt8} (h1:1<=s.length) (h2:s.length<=16):isName s=true↔∀i c,s[i]?=some c->goodAt i c:=by
 cases s with
 |nil=>simp at h1
 |cons a t=>
  simp only[isName,Bool.and_eq_true,decide_eq_true_eq,List.all_eq_true]
  constructor
  ·rintro⟨⟨_,h3⟩,h4⟩ i c hc
   have h5:=(isInner_iff c).1 (h4 c (List.mem_of_getElem? hc))
   have h6:=(isSmall_iff a).1 h3
   unfold goodAt
   cases i with
   |zero=>simp at hc;subst hc;exact .inl h6
   |succ i=>rcases h5 with h5|h5;exact .inl h5;exact .inr ⟨by omega,h5⟩
  ·intro h
   refine⟨⟨h2,(isSmall_iff a).2 ?_⟩,fun c hc=>(isInner_iff c).2 ?_⟩
   ·rcases h 0 a rfl with h3|⟨h3,_⟩
    ·exact h3
    ·exact absurd rfl h3
   ·obtain⟨i,hi⟩:=List.mem_iff_getElem?.1 hc
    rcases h i c hi with h3|⟨_,h3⟩
    ·exact .inl h3
    ·exact .inr h3
theorem r_Name [MaxL] (s:List UInt8):SC Tryz.prog 125 [.s s] [] (.val (.b (isName s))) []:=by
 refine gwS Tryz.func125 rfl ?_
 conv=>whnf
 have short:¬(1<=s.length/\s.length<=16)->isName s=false:=fun h=>by
  cases s with
  |nil=>rfl
  |cons a t=>simp[isName] at h⊢;omega
 refine GIf.mk (fun h1=>?_) (fun h1=>?_)<;>conv=>whnf
 ·have h1':s.length<1:=by have:=of_decide_eq_true h1;omega
  exact owes_b (short (by omega)).symm
 refine GIf.mk (fun h2=>?_) (fun h2=>?_)<;>conv=>whnf
 ·have h2':16<s.length:=by have:=of_decide_eq_true h2;omega
  exact owes_b (short (by omega)).symm
 have h1':1<=s.length:=by have:=of_decide_eq_false h1;omega
 have h2':s.length<=16:=by have:=of_decide_eq_false h2;omega
 refine GLoop.intro (fun i:Nat=>i<=s.length/\∀j c,j<i->s[j]?=some c->goodAt j c) (fun i=>[(0,.s s),(3,.i .i64 (i:Nat))]) (fun _=>⟨[],0,[]⟩) (fun i=>s.length - i) 0 ⟨zL _,fun j c h=>absurd h (Nat.not_lt_zero j)⟩ ⟨rfl,rfl,trivial⟩ rfl (fun i φ0 hi=>?_)
 obtain⟨hi,hg⟩:=hi
 conv=>whnf
 refine GIf.mk (fun hlt=>?_) (fun hlt=>?_)<;>conv=>whnf
 ·have hlt':i<s.length:=by have:=of_decide_eq_true hlt;omega
  have hgi:s[i]?=some (s.getD i 0):=by rw[List.getD_eq_getElem?_getD,gL hlt'];rfl
  generalize s.getD i 0=c at*
  have hgi':s[((i:Nat):Int).toNat]?=some c:=by simpa using hgi
  have bad:¬goodAt i c->∀σ,Owes [] (.val (.b (isName s))) [] (.val (.b false)) σ:=fun hb σ=>by
   refine owes_b ?_
   rw[eq_comm,<-Bool.not_eq_true,name_iff h1' h2']
   exact fun h=>hb (h i c hgi)
  have nxt:goodAt i c->i+1<=s.length/\∀j c,j<i+1->s[j]?=some c->goodAt j c:=fun h=>⟨hlt',fun j c' hj hc'=>by
   by_cases hji:j=i
   ·subst hji;rw[hgi] at hc';cases hc';exact h
   ·exact hg j c' (by omega) hc'⟩
  repeat' first
   |(refine GIf.mk (fun _=>?_) (fun _=>?_)<;>conv=>whnf)
   |(refine GNeed.mk (cN _) ⟨c,hgi',?_⟩;conv=>whnf)
  all_goals first
   |(refine bad ?_ _;unfold goodAt;simp only[decide_eq_true_eq,decide_eq_false_iff_not,beq_iff_eq,beq_eq_false_iff_ne,ne_eq,bne_iff_ne,bne_eq_false_iff_eq,Bool.not_eq_true',Bool.not_eq_false'] at*;omega)
   |(refine GLoop.next (i+1) (nxt ?_) (by omega) ⟨rfl,wrap_succ (by omega),trivial⟩ rfl;unfold goodAt;simp only[decide_eq_true_eq,decide_eq_false_iff_not,beq_iff_eq,beq_eq_false_iff_ne,ne_eq,bne_iff_ne,bne_eq_false_iff_eq,Bool.not_eq_true',Bool.not_eq_false'] at*;omega)
 ·have hie:i=s.length:=by have:=of_decide_eq_false hlt;omega
  refine owes_b ?_
  rw[eq_comm,name_iff h1' h2']
  exact fun j c hc=>hg j c (by have:=(List.getElem?_eq_some_iff.1 hc).1;omega) hc
theorem r_ValidValue [MaxL] (v:Val):SC Tryz.prog 212 [v.gv] [] (.val (.b v.ok)) []:=by
 obtain⟨k,n,s⟩:=v
 refine gwS Tryz.func212 rfl ?_
 conv=>whnf
 repeat' (refine GIf.mk (fun _=>?_) (fun _=>?_)<;>conv=>whnf)
 all_goals
  refine owes_b ?_
  simp only[decide_eq_true_eq,decide_eq_false_iff_not,beq_iff_eq,beq_eq_false_iff_ne,ne_eq] at*
  rw[Bool.eq_iff_iff]
  simp only[Val.ok]
  simp
  try grind
theorem i64w (n:Int):IntKind.i64.wrap n=(n+9223372036854775808)%18446744073709551616 - 9223372036854775808:=by
 unfold IntKind.wrap;simp[IntKind.signed,IntKind.bits];omega
def nibS (c:UInt8):Int:=if 48<=c.toNat/\c.toNat<=57 then(c.toNat:Int) - 48 else if 97<=c.toNat/\c.toNat<=102 then(c.toNat:Int) - 87 else -1
theorem r_nibble [MaxL] (c:UInt8):SC Tryz.prog 304 [.i .u8 c.toNat] [] (.val (.i .i64 (nibS c))) []:=by
 have hc:=UInt8.toNat_lt c
 refine gwS Tryz.func304 rfl ?_
 conv=>whnf
 repeat' (refine GIf.mk (fun _=>?_) (fun _=>?_)<;>conv=>whnf)
 all_goals
  refine owes_i ?_
  simp only[decide_eq_true_eq,decide_eq_false_iff_not] at*
  unfold nibS
  (repeat' split)<;>first|(exfalso;omega)|rfl|(simp only[u8w,i64w];omega)
end Go.Proofs.YtcfgfkkhpdlhpaaGreatDoor
namespace Go.Proofs.YtcfgfkkhpdlhpaaGreatDoor
open Go.RowKit Go.Sort
set_option maxRecDepth 100000
set_option linter.unusedVariables false
theorem err_cell [MaxL] {C:Cx} {w:World} (g:Nat) (x:GV) (t:TypeId) (hr:Rel C ⟨[],0,[]⟩ w w) (ht:Globals.tab g=some [.ifc t x]):∃p,w.cell? ⟨g,0,none⟩=some (.iface t p):=by
 obtain⟨u,hfx,hvr⟩:=hr.gl g _ 0 _ ht rfl
 have:=hvr _ (fun _ _ _ h=>h)
 cases this
 exact⟨_,hr.fxc _ _ _ hfx⟩
theorem c_toErrorS [MaxL] (fn s:List UInt8) (base bits:Int) (hs:s.length<=281474976710656):SC Tryz.prog 281 [.s fn,.s s,.i .i64 base,.i .i64 bits,.ifc 314 (.i .i64 2)] [] (.val (.ifc 317 .any)) []:=by
 refine SC.of_calls fun C w vs hr hv=>?_
 obtain⟨v1,vs1,e,h1,hv⟩:=hv.cons_inv
 obtain⟨v2,vs2,rfl,h2,hv⟩:=hv.cons_inv
 obtain⟨v3,vs3,rfl,h3,hv⟩:=hv.cons_inv
 obtain⟨v4,vs4,rfl,h4,hv⟩:=hv.cons_inv
 obtain⟨v5,vs5,rfl,h5,hv⟩:=hv.cons_inv
 have:vs5=[]:=List.eq_nil_of_length_eq_zero (by simpa using hv.1)
 subst this
 obtain rfl:vs= #[v1,v2,v3,v4,v5]:=by rw[<-Array.toArray_toList (xs:=vs),e]
 cases h1;cases h2;cases h3;cases h4
 cases h5 with
 |ifc h5=>
 cases h5
 obtain⟨p,hp⟩:=err_cell 4 _ _ hr rfl
 refine(Tryz.strconv_toError_syntax ⟨fn.toArray⟩ ⟨s.toArray⟩ base bits _ w (by simpa[ByteArray.size] using hs) hp (.inr ⟨_,_,rfl⟩)).mono ?_
 rintro e w' ⟨N,he,_,_,hb⟩
 exact⟨_,he,.below hb,.ifc (.any _)⟩
theorem c_ParseUint16 [MaxL] (a b:UInt8):SC Tryz.prog 359 [.s [a,b],.i .i64 16,.i .i64 8] [] (.val (match hex2 a b with|some n=>.tup [.i .u64 n,.o .nilIface]|none=>.tup [.i .u64 0,.ifc 317 .any])) []:=by
 have hI:=c_ParseUintI a b
 refine gwS Tryz.func359 rfl ?_
 conv=>whnf
 cases h:hex2 a b with
 |some n=>
  rw[h] at hI
  refine callP hI (wR _) rfl (fun _=>rfl) (fun _=>rfl) ?_
  conv=>whnf
  exact owes_val rfl (fun _=>rfl)
 |none=>
  rw[h] at hI
  refine callP hI (wR _) rfl (fun _=>rfl) (fun _=>rfl) ?_
  conv=>whnf
  refine callP (c_toErrorS _ [a,b] 16 8 (by simp)) (wR _) rfl (fun _=>rfl) (fun _=>rfl) ?_
  conv=>whnf
  exact owes_val rfl (fun _=>rfl)
theorem shape_of {w:World} {b:Nat} {c:Array Value} {t:TypeId} {fr:Nat×Nat} (h:w.heap[b]?=some (.cells c t fr)):w.shape? b=some (t,c.size):=by
 unfold World.shape?;rw[h]
def bldN:GObj:=.box 92 [.o (.pointer none),.sl .full []]
def bld (bs:List UInt8):List GObj:=[.box 92 [.ptr 0 0,.sl (.own 1) (bs.map fun b=>.i .u8 b.toNat)],.own bs.length 1 5]
theorem lays_cc:Go.Proofs.Lays.n240 Tryz.prog Tryz.lays156_ren:={Tryz.lays156 with}
theorem VRs.arr1 [MaxL] {C:Cx} {g:GV} {vs:Array Value} (h:VRs C [g] vs.toList):∃v,vs= #[v]/\VR C g v:=by
 obtain⟨v,vs',e,h1,h2⟩:=h.cons_inv
 have:vs'=[]:=List.eq_nil_of_length_eq_zero (by simpa using h2.1)
 subst this
 exact⟨v,by rw[<-Array.toArray_toList (xs:=vs),e],h1⟩
theorem VRs.arr2 [MaxL] {C:Cx} {g g':GV} {vs:Array Value} (h:VRs C [g,g'] vs.toList):∃v v',vs= #[v,v']/\VR C g v/\VR C g' v':=by
 obtain⟨v,vs',e,h1,h2⟩:=h.cons_inv
 obtain⟨v',vs',rfl,h3,h4⟩:=h2.cons_inv
 have:vs'=[]:=List.eq_nil_of_length_eq_zero (by simpa using h4.1)
 subst this
 exact⟨v,v',by rw[<-Array.toArray_toList (xs:=vs),e],h1,h3⟩
theorem VR.unit [MaxL] {C:Cx}:VR C (.tup []) (.tuple #[]):=.tup rfl (fun j g u h=>by simp at h)
theorem c_copyCheckN [MaxL]:SC Tryz.prog 132 [.ptr 0 0] [bldN] (.val (.tup [])) [.box 92 [.ptr 0 0,.sl .full []]]:=by
 refine⟨rL _,fun C w vs hr hv=>?_,fun x hx=>by simp at hx;subst hx;simp⟩
 obtain⟨v,rfl,hv1⟩:=hv.arr1
 obtain⟨h0,b,cs,hb,ho,hcs⟩:=hr.obj 0 _ rfl
 obtain⟨u,u',rfl,hu,hu'⟩:=(BoxV.exact hcs rfl).arr2
 cases hv1 with
 |ptr hb'=>
 rw[hb] at hb';cases hb'
 cases hu
 have hc0:w.cell? ⟨b,0,none⟩=some (.pointer none):=by simp[World.cell?,ho]
 refine(Any.Builder_copyCheck_fresh lays_cc Tryz.Builder_Extra_156.toX72 b w hc0 (shape_of ho) (by simp[World.frozen?,ho])).mono ?_
 rintro e w' ⟨rfl,rfl⟩
 refine⟨C,.refl C,Rel.setObj (r:=0) (b:=b) hr (by simp) hb _ ⟨h0,b,_,hb,heap_setCell_same w b 0 _ _ _ ho,?_⟩ rfl rfl rfl (by simp[World.setCell]) (fun k hk=>heap_setCell_other w _ k _ hk),_,rfl,.unit⟩
 exact VRs.box (.cons (.ptr hb) (.cons hu' .nil))
theorem c_copyCheck [MaxL] (x:GV) (os:List GObj) (hn:∀y∈os,y≠ .held):SC Tryz.prog 132 [.ptr 0 0] (.box 92 [.ptr 0 0,x]::os) (.val (.tup [])) (.box 92 [.ptr 0 0,x]::os):=by
 refine⟨rL _,fun C w vs hr hv=>?_,fun y hy=>by
  rcases List.mem_cons.1 hy with rfl|hy
  ·simp
  ·exact hn y hy⟩
 obtain⟨v,rfl,hv1⟩:=hv.arr1
 obtain⟨h0,b,cs,hb,ho,hcs⟩:=hr.obj 0 _ rfl
 obtain⟨u,u',rfl,hu,hu'⟩:=(BoxV.exact hcs rfl).arr2
 cases hv1 with
 |ptr hb'=>
 rw[hb] at hb';cases hb'
 cases hu with
 |ptr hb'=>
 rw[hb] at hb';cases hb'
 have hc0:w.cell? ⟨b,0,none⟩=some (.pointer (some ⟨b,0,none⟩)):=by simp[World.cell?,ho]
 refine(Any.Builder_copyCheck_used lays_cc Tryz.Builder_Extra_156.toX72 b w hc0).mono ?_
 rintro e w' ⟨rfl,rfl⟩
 exact⟨C,.refl C,hr,_,rfl,.unit⟩
def byG (bs:List UInt8):List GV:=bs.map fun b=>.i .u8 b.toNat
theorem byG_cl [MaxL] (bs:List UInt8) (f:Nat->Nat):GV.renL f (byG bs)=byG bs:=by rw[renL_map];exact ClL.mapOf (fun _=>Cl.i _ _) bs f
theorem byG_len (bs:List UInt8):(byG bs).length=bs.length:=by simp[byG]
theorem byG_ok (bs:List UInt8):(byG bs).all (fun x=>x.cells.length==1)=true:=by
 rw[List.all_eq_true];intro x hx
 obtain⟨b,_,rfl⟩:=List.mem_map.1 hx
 rfl
theorem byG_okEl (bs:List UInt8):(byG bs).all (okEl 1)=true:=by
 rw[List.all_eq_true];intro x hx
 obtain⟨b,_,rfl⟩:=List.mem_map.1 hx
 rfl
def bldAt (q p:Nat) (bs:List UInt8):GObj:=.box 92 [.ptr q 0,.sl (.own p) (byG bs)]
def ownB (n:Nat):GObj:=.own n 1 5
theorem bldAt_ren [MaxL] (f:Nat->Nat) (q p:Nat) (bs:List UInt8):(bldAt q p bs).ren f=bldAt (f q) (f p) bs:=by
 show GObj.box _ [.ptr (f q) 0,.sl (.own (f p)) (GV.renL f (byG bs))]=_
 rw[byG_cl];rfl
theorem bld_lies [MaxL] {q p:Nat} {bs:List UInt8} {objs:List GObj} (hn:q≠p) (hq:objs[q]?=some (bldAt q p bs)) (hp:objs[p]?=some (ownB bs.length)):Lies [q,p] (bld bs) objs:=by
 refine Lies.two hn ?_ hp (by simp) (by simp)
 have:=bldAt_ren (emb [q,p] objs.length) 0 1 bs
 rw[show GObj.box 92 [.ptr 0 0,.sl (.own 1) (bs.map fun b=>.i .u8 b.toNat)]=bldAt 0 1 bs from rfl,this,hq]
 rfl
theorem owesBld [MaxL] {p:Nat} {s:List GObj} {r r':GRes} {bs:List UInt8} {σ:GS} (hs:s.length<=2) (hp:s.length=2->p=1) (hp0:0≠p) (h0:σ.objs[0]?=some (bldAt 0 p bs)) (h1:σ.objs[p]?=some (ownB bs.length)) (hr:r'.ren (emb [0,p] σ.objs.length)=r') (hrr:WkRes r r'):Owes s r' (bld bs) r σ:=by
 refine⟨[0,p],bld_lies hp0 h0 h1,fun i hi=>?_,by rw[hr];exact hrr⟩
 rcases i with _|_|i
 ·rfl
 ·simp[hp (by omega)]
 ·omega
theorem c_WriteByteN [MaxL] (c:UInt8):SC Tryz.prog 330 [.ptr 0 0,.i .u8 c.toNat] [bldN] (.val (.o .nilIface)) (bld [c]):=by
 refine SC.of_gwp noM mixed Tryz.func330 rfl (bL rfl) (by simp[bld]) rfl ?_
 conv=>whnf
 refine callG c_copyCheckN [0] (objs':=[.box 92 [.ptr 0 0,.sl .full []]]) (Lies.one' rfl (by simp[bldN])) (wR _) rfl rfl rfl rfl ?_
 conv=>whnf
 refine⟨⟨rfl,rfl,bL rfl⟩,byG [c],1,⟨rfl,rfl⟩,?_⟩
 conv=>whnf
 refine⟨_,⟨rfl,zL _,rfl,bL rfl⟩,?_⟩
 conv=>whnf
 exact owesBld (p:=2) (by simp) (by simp) (by decide) rfl rfl rfl (Wk.refl _)
theorem c_WriteByte [MaxL] (bs:List UInt8) (c:UInt8) (hl:bs.length<1000000000):SC Tryz.prog 330 [.ptr 0 0,.i .u8 c.toNat] (bld bs) (.val (.o .nilIface)) (bld (bs++[c])):=by
 refine SC.of_gwp noM mixed Tryz.func330 rfl (bL rfl) (by simp[bld]) rfl ?_
 conv=>whnf
 refine callG (c_copyCheck (.sl (.own 1) (byG bs)) [ownB bs.length] (by simp[ownB])) [0,1] (objs':=[bldAt 0 1 bs,ownB bs.length]) (bld_lies (by decide) rfl rfl) (wR _) rfl rfl ?_ rfl ?_
 ·show[(bldAt 0 1 bs).ren (emb [0,1] 2),ownB bs.length]=_
  rw[bldAt_ren];rfl
 conv=>whnf
 refine⟨⟨rfl,byG_ok bs,by show(byG bs).length+1<=4294967296;rw[byG_len];omega⟩,byG (bs++[c]),(bs++[c]).length,⟨by simp[byG];rfl,by show _=(byG bs).length+1;rw[byG_len];simp⟩,?_⟩
 conv=>whnf
 refine⟨⟨zL _,by rw[byG_len],.inl ⟨rfl,rfl⟩⟩,?_⟩
 conv=>whnf
 refine⟨_,⟨rfl,zL _,rfl,bL rfl⟩,?_⟩
 conv=>whnf
 exact owesBld (p:=1) (by simp[bld]) (fun _=>rfl) (by decide) rfl rfl rfl (Wk.refl _)
theorem c_WriteString [MaxL] (bs l:List UInt8) (hl:bs.length+l.length<1000000000):SC Tryz.prog 57 [.ptr 0 0,.s l] (bld bs) (.val (.tup [.i .i64 l.length,.o .nilIface])) (bld (bs++l)):=by
 refine SC.of_gwp noM mixed Tryz.func57 rfl (bL rfl) (by simp[bld]) rfl ?_
 conv=>whnf
 refine callG (c_copyCheck (.sl (.own 1) (byG bs)) [ownB bs.length] (by simp[ownB])) [0,1] (objs':=[bldAt 0 1 bs,ownB bs.length]) (bld_lies (by decide) rfl rfl) (wR _) rfl rfl ?_ rfl ?_
 ·show[(bldAt 0 1 bs).ren (emb [0,1] 2),ownB bs.length]=_
  rw[bldAt_ren];rfl
 conv=>whnf
 refine GIf.mk (fun h=>?_) (fun h=>?_)<;>conv=>whnf
 ·have:l=[]:=by simpa using h
  subst this
  refine⟨_,⟨rfl,zL _,rfl,bL rfl⟩,?_⟩
  conv=>whnf
  rw[List.append_nil]
  exact owesBld (p:=1) (by simp[bld]) (fun _=>rfl) (by decide) rfl rfl rfl (Wk.refl _)
 ·refine⟨⟨byG_okEl l,byG_ok bs,by show(byG bs).length+(byG l).length<=4294967296;rw[byG_len,byG_len];omega⟩,byG (bs++l),(bs++l).length,⟨by simp[byG],by show _=(byG bs).length+(byG l).length;rw[byG_len,byG_len];simp⟩,?_⟩
  conv=>whnf
  refine⟨⟨zL _,by rw[byG_len],.inl ⟨rfl,rfl⟩⟩,?_⟩
  conv=>whnf
  refine⟨_,⟨rfl,zL _,rfl,bL rfl⟩,?_⟩
  conv=>whnf
  exact owesBld (p:=1) (by simp[bld]) (fun _=>rfl) (by decide) rfl rfl rfl (Wk.refl _)
theorem goptI {α:Type} {x:Option α} {K:α->Prop} {a:α} (h:x=some a) (k:K a):gopt x K:=by rw[h];exact k
theorem byG_flat [MaxL] (l:List UInt8):(byG l).flatMap GV.cells=byG l:=by
 induction l with
 |nil=>rfl
 |cons c t ih=>show[GV.i .u8 c.toNat]++(byG t).flatMap GV.cells=_;rw[ih];rfl
theorem gdata_by [MaxL] (c:UInt8) (t:List UInt8) (r:Nat):gdata (.sl (.own r) (byG (c::t)))=some (.dat r (byG (c::t))):=by
 show(if(!(byG (c::t)).isEmpty&&(byG (c::t)).all fun x=>x.cells.length==1)=true then some (GV.dat r (List.flatMap GV.cells (byG (c::t)))) else none)=_
 rw[byG_ok,byG_flat];rfl
theorem gbytes_by (l:List UInt8):gbytes (byG l)=some l:=by
 induction l with
 |nil=>rfl
 |cons c t ih=>show(gbytes (byG t)).map _=_;rw[ih];simp
theorem byG_gbyte (l:List UInt8):(byG l).all gbyte=true:=by
 rw[List.all_eq_true];intro x hx
 obtain⟨b,_,rfl⟩:=List.mem_map.1 hx
 have:=UInt8.toNat_lt b
 simp[gbyte];omega
theorem gtext_by [MaxL] {P:Program} {pt ty:TypeId} {r esz:Nat} {σ:GS} (l:List UInt8) (ho:σ.objs[r]?=some (.own l.length esz ty)) (hl:l≠[]) (hlo:σ.lo<=r) (hp:ptrT P pt=some ty) (hc:P.cellsOf ty=1) (hlim:l.length<=lim):
  gtext P pt (.dat r (byG l)) (.i .i64 l.length) σ=some (.s l,gset σ r .dead):=by
 simp only[gtext,ho,gbytes_by,byG_len,byG_gbyte,hp,hc]
 rw[if_pos]
 simp[hlo,hlim]
 exact hl
theorem c_String [MaxL] (c:UInt8) (t:List UInt8) (hl:t.length<1000000000):SC Tryz.prog 61 [.ptr 0 0] (bld (c::t)) (.val (.s (c::t))) [bldAt 0 1 (c::t),.dead]:=by
 refine SC.of_gwp noM mixed Tryz.func61 rfl (bL rfl) (by simp[bld]) rfl ?_
 conv=>whnf
 refine GDraw.wild _ _ _ rfl rfl rfl (by kernel_rfl) ?_
 conv=>whnf
 refine goptI (a:=(.dat 1 (byG (c::t)),_)) (by show Option.map _ (gdata (.sl (.own 1) (byG (c::t))))=_;rw[gdata_by];rfl) ?_
 conv=>whnf
 refine goptI (a:=(.s (c::t),⟨[bldAt 0 1 (c::t),.dead],0,[]⟩)) ?_ ?_
 ·show gtext Tryz.prog _ (.dat 1 (byG (c::t))) (.i .i64 (byG (c::t)).length) ⟨[bldAt 0 1 (c::t),ownB (c::t).length],0,[]⟩=_
  rw[byG_len]
  exact gtext_by (c::t) rfl (by simp) (by simp) (by kernel_rfl) (by kernel_rfl) (by unfold lim;simp;omega)
 conv=>whnf
 refine⟨[0,1],Lies.two (by decide) ?_ rfl (by simp[bldAt]) (by simp),fun i hi=>?_,Wk.refl _⟩
 ·show some (bldAt 0 1 (c::t))=some ((bldAt 0 1 (c::t)).ren (emb [0,1] 2))
  rw[bldAt_ren];rfl
 ·rcases i with _|_|i
  ·rfl
  ·rfl
  ·simp[bld] at hi;omega
end Go.Proofs.YtcfgfkkhpdlhpaaGreatDoor
namespace Go.Proofs.YtcfgfkkhpdlhpaaGreatDoor
open Go.RowKit
set_option maxRecDepth 100000
set_option linter.unusedVariables false
def rt:List UInt8->Option (List UInt8×List UInt8)
 |[]=>none
 |c::r=>if c=34 then some ([],r) else if c=92 then(match r with
   |[]=>none
   |e::r1=>if e=120 then(match r1 with
     |a::b::r2=>(match hex2 a b with
      |some n=>(rt r2).map fun p=>(UInt8.ofNat n::p.1,p.2)
      |none=>none)
     |_=>none)
    else(rt r1).map fun p=>(e::p.1,p.2))
  else(rt r).map fun p=>(c::p.1,p.2)
def wrongI:GV:=.ifc 357 (.agg [])
theorem SC.of_callsO [MaxL] {P:Program} {k:FuncId} {args:List GV} {s:List GObj} {r:GRes} (hh:∀x∈s,x≠ .held)
  (h:∀(C:Cx) (w:World) (vs:Array Value),Rel C ⟨s,0,[]⟩ w w->VRs C args vs.toList->Calls P k vs w fun e w'=>Base (fun _=>False) w w'/\ERel C r e):
  SC P k args s r s:=by
 refine⟨rL _,fun C w vs hr hv=>(h C w vs hr hv).mono fun e w' ⟨hb,hg⟩=>⟨C,.refl C,?_,hg⟩,hh⟩
 refine⟨⟨hb.os,hb.tape,hb.output,hb.size,fun i hi _=>hb.block i hi (fun h=>h)⟩,fun b o v hx=>?_,fun r x hx=>ORel.keep hr (.refl C) rfl rfl hb.size (fun b hb'=>hb.block b (obj_lt hr hb') (fun h=>h)) (hr.obj r x hx),hr.dom,hr.new,hr.inj,hr.sepB,hr.sepO,hr.fxn,hr.gl,hr.gs⟩
 have h1:=hr.fxc b o v hx
 have hlt:b<w.heap.size:=block_lt_of_cell h1
 unfold World.cell? at h1⊢
 rw[hb.block b hlt (fun h=>h)]
 exact h1
theorem c_StringN [MaxL]:SC Tryz.prog 61 [.ptr 0 0] [bldN] (.val (.s [])) [bldN]:=by
 refine SC.of_callsO (by simp[bldN]) fun C w vs hr hv=>?_
 obtain⟨v,rfl,hv1⟩:=hv.arr1
 obtain⟨h0,b,cs,hb,ho,hcs⟩:=hr.obj 0 _ rfl
 obtain⟨u,u',rfl,hu,hu'⟩:=(BoxV.exact hcs rfl).arr2
 cases hv1 with
 |ptr hb'=>
 rw[hb] at hb';cases hb'
 cases hu' with
 |sl esz b' off us hn hc ha hw hx hv ht=>
 obtain⟨hc0,ha0⟩:=ht
 obtain rfl:=ha0 rfl
 simp at hn hc0
 subst hn;subst hc0
 refine(Any.Builder_String_nil Tryz.lays169 Tryz.Builder_Extra_169 w.heap.size b u w ho).mono ?_
 rintro e w' ⟨rfl,hb⟩
 exact⟨.below hb,_,rfl,.s []⟩
theorem callWBN [MaxL] {M:FuncId->Bool} {K:GRes->GS->Prop} {x:GObj} {c:UInt8} {ds:List GDef} (hM:M 330=false) (hk:K (.val (.o .nilIface)) ⟨[x,bldAt 1 2 [c],ownB 1],0,ds⟩):
  gcallK Tryz.prog M (.fn 330) [.ptr 1 0,.i .u8 c.toNat] ⟨[x,bldN],0,ds⟩ K:=by
 refine callG (c_WriteByteN c) [1] (objs':=[x,bldAt 1 2 [c],ownB 1]) (Lies.one' rfl (by simp[bldN])) (wR _) rfl hM ?_ rfl hk
 rfl
theorem callWB [MaxL] {M:FuncId->Bool} {K:GRes->GS->Prop} {x:GObj} {bs:List UInt8} {c:UInt8} {ds:List GDef} (hl:bs.length<1000000000) (hM:M 330=false) (hk:K (.val (.o .nilIface)) ⟨[x,bldAt 1 2 (bs++[c]),ownB (bs++[c]).length],0,ds⟩):
  gcallK Tryz.prog M (.fn 330) [.ptr 1 0,.i .u8 c.toNat] ⟨[x,bldAt 1 2 bs,ownB bs.length],0,ds⟩ K:=by
 refine callG (c_WriteByte bs c hl) [1,2] (objs':=[x,bldAt 1 2 (bs++[c]),ownB (bs++[c]).length]) (bld_lies (by decide) rfl rfl) (wR _) rfl hM ?_ rfl hk
 show[x,(bldAt 0 1 (bs++[c])).ren (emb [1,2] 3),ownB (bs++[c]).length]=_
 rw[bldAt_ren];rfl
theorem callStr [MaxL] {M:FuncId->Bool} {K:GRes->GS->Prop} {x:GObj} {c:UInt8} {t:List UInt8} {ds:List GDef} (hl:t.length<1000000000) (hM:M 61=false) (hk:K (.val (.s (c::t))) ⟨[x,bldAt 1 2 (c::t),.dead],0,ds⟩):
  gcallK Tryz.prog M (.fn 61) [.ptr 1 0] ⟨[x,bldAt 1 2 (c::t),ownB (c::t).length],0,ds⟩ K:=by
 refine callG (c_String c t hl) [1,2] (objs':=[x,bldAt 1 2 (c::t),.dead]) (bld_lies (by decide) rfl rfl) (wR _) rfl hM ?_ rfl hk
 show[x,(bldAt 0 1 (c::t)).ren (emb [1,2] 3),GObj.dead]=_
 rw[bldAt_ren];rfl
theorem callStrN [MaxL] {M:FuncId->Bool} {K:GRes->GS->Prop} {x:GObj} {ds:List GDef} (hM:M 61=false) (hk:K (.val (.s [])) ⟨[x,bldN],0,ds⟩):
  gcallK Tryz.prog M (.fn 61) [.ptr 1 0] ⟨[x,bldN],0,ds⟩ K:=by
 refine callG c_StringN [1] (objs':=[x,bldN]) (Lies.one' rfl (by simp[bldN])) (wR _) rfl hM ?_ rfl hk
 rfl
theorem bld_put [MaxL] {x y z:GObj} {rest:List GObj} {bs':List UInt8} {o:GObj} (ho:∀f,o.ren f=o):
  putBack [1,2] [bldAt 0 1 bs',o] (x::y::z::rest)=x::bldAt 1 2 bs'::o::rest:=by
 rw[putBack_two (by decide) (by simp) (by simp),bldAt_ren,ho]
 rfl
theorem callWSr [MaxL] {M:FuncId->Bool} {K:GRes->GS->Prop} {x:GObj} {rest:List GObj} {bs l:List UInt8} {ds:List GDef} (hl:bs.length+l.length<1000000000) (hM:M 57=false) (hk:K (.val (.tup [.i .i64 l.length,.o .nilIface])) ⟨x::bldAt 1 2 (bs++l)::ownB (bs++l).length::rest,0,ds⟩):
  gcallK Tryz.prog M (.fn 57) [.ptr 1 0,.s l] ⟨x::bldAt 1 2 bs::ownB bs.length::rest,0,ds⟩ K:=
 callG (c_WriteString bs l hl) [1,2] (bld_lies (by decide) rfl rfl) (wR _) rfl hM (bld_put fun _=>rfl) rfl hk
theorem callWBr [MaxL] {M:FuncId->Bool} {K:GRes->GS->Prop} {x:GObj} {rest:List GObj} {bs:List UInt8} {c:UInt8} {ds:List GDef} (hl:bs.length<1000000000) (hM:M 330=false) (hk:K (.val (.o .nilIface)) ⟨x::bldAt 1 2 (bs++[c])::ownB (bs++[c]).length::rest,0,ds⟩):
  gcallK Tryz.prog M (.fn 330) [.ptr 1 0,.i .u8 c.toNat] ⟨x::bldAt 1 2 bs::ownB bs.length::rest,0,ds⟩ K:=
 callG (c_WriteByte bs c hl) [1,2] (bld_lies (by decide) rfl rfl) (wR _) rfl hM (bld_put fun _=>rfl) rfl hk
theorem callStrr [MaxL] {M:FuncId->Bool} {K:GRes->GS->Prop} {x:GObj} {rest:List GObj} {c:UInt8} {t:List UInt8} {ds:List GDef} (hl:t.length<1000000000) (hM:M 61=false) (hk:K (.val (.s (c::t))) ⟨x::bldAt 1 2 (c::t)::.dead::rest,0,ds⟩):
  gcallK Tryz.prog M (.fn 61) [.ptr 1 0] ⟨x::bldAt 1 2 (c::t)::ownB (c::t).length::rest,0,ds⟩ K:=
 callG (c_String c t hl) [1,2] (bld_lies (by decide) rfl rfl) (wR _) rfl hM (bld_put fun _=>rfl) rfl hk
theorem u8n_ne {c d:UInt8} (h:((c.toNat:Int) !=(d.toNat:Int))=true):c≠d:=fun e=>by simp[e] at h
theorem u8n_eq {c d:UInt8} (h:((c.toNat:Int) !=(d.toNat:Int))=false):c=d:=by
 simp at h;exact UInt8.toNat_inj.1 (by omega)
theorem rt_34 (r:List UInt8):rt (34::r)=some ([],r):=by
 conv=>lhs;unfold rt
 rfl
theorem rt_c {c:UInt8} (h:c≠34) (h':c≠92) (r:List UInt8):rt (c::r)=(rt r).map fun p=>(c::p.1,p.2):=by
 conv=>lhs;unfold rt
 rw[if_neg h,if_neg h']
theorem rt_92 {e:UInt8} (h:e≠120) (r:List UInt8):rt (92::e::r)=(rt r).map fun p=>(e::p.1,p.2):=by
 conv=>lhs;unfold rt
 rw[if_neg (by decide),if_pos rfl]
 show(if e=120 then _ else _)=_
 rw[if_neg h]
theorem rt_x (a b:UInt8) (r:List UInt8):rt (92::120::a::b::r)=match hex2 a b with
  |some n=>(rt r).map fun p=>(UInt8.ofNat n::p.1,p.2)
  |none=>none:=by
 conv=>lhs;unfold rt
 rfl
def tB (bs:List UInt8):List GObj:=if bs=[] then[bldN] else[bldAt 1 2 bs,ownB bs.length]
theorem cells_add [MaxL] {i:Nat} (k:Nat) (h:i+k<9223372036854775807):[GV.i .i64 ((i+k:Nat):Int)]=(GV.i .i64 (IntKind.i64.wrap ((i:Int)+(k:Int)))).cells:=by
 rw[wrap_in (by omega) (by omega)];rfl
theorem c_text [MaxL] (s:List UInt8) (n:Nat) (hn:n<s.length) (hs:s.length<1000000):
  Ct Tryz.prog 358 [.ptr 0 0] (rdI s n) wrongI ((rt (s.drop (n+1))).map fun p=>(.s p.1,rdI s (s.length - p.2.length))):=by
 refine Ct.of_gwp noM mixed Tryz.func358 rfl (bL rfl) (fun _=>rfl) ?hh ?_
 case hh=>cases rt (s.drop (n+1))<;>rfl
 conv=>whnf
 refine⟨[.i .i64 (n+1:Nat)],⟨cells_succ (by omega),rL _,rfl,bL rfl⟩,?_⟩
 conv=>whnf
 generalize hR:rt (s.drop (n+1))=R
 refine GLoop.intro (fun q:Nat×List UInt8=>q.1<=s.length+1/\q.2.length<=q.1/\(rt (s.drop q.1)).map (fun p=>(q.2++p.1,p.2))=R)
  (fun q=>[(0,.ptr 0 0),(3,.ptr 1 0)]) (fun q=>⟨rdI s q.1::tB q.2,0,[]⟩) (fun q=>s.length+2 - q.1) (n+1,[]) ⟨by omega,by simp,?_⟩ ⟨rfl,rfl,trivial⟩ rfl (fun q φ0 hq=>?_)
 ·rw[<-hR];cases rt (s.drop (n+1))<;>rfl
 obtain⟨i,bs⟩:=q
 obtain⟨hi,hbl,hq⟩:=hq
 replace hi:i<=s.length+1:=hi
 replace hbl:bs.length<=i:=hbl
 replace hq:(rt (s.drop i)).map (fun p=>(bs++p.1,p.2))=R:=hq
 have wr:∀(x:GObj) (c:UInt8) (M:FuncId->Bool) (K:GRes->GS->Prop) (ds:List GDef),M 330=false->K (.val (.o .nilIface)) ⟨x::tB (bs++[c]),0,ds⟩->
   gcallK Tryz.prog M (.fn 330) [.ptr 1 0,.i .u8 c.toNat] ⟨x::tB bs,0,ds⟩ K:=fun x c M K ds hM hk=>by
  have e2:tB (bs++[c])=[bldAt 1 2 (bs++[c]),ownB (bs++[c]).length]:=if_neg (by simp)
  rw[e2] at hk
  by_cases hb:bs=[]
  ·subst hb
   exact callWBN hM hk
  ·rw[show tB bs=[bldAt 1 2 bs,ownB bs.length] from if_neg hb]
   exact callWB (by omega) hM hk
 conv=>whnf
 refine pcB (q:=0) (c_next s i (by unfold most;omega)) (gsetK_mk (l:=rdI s i::tB bs) rfl ?_)
 conv=>whnf
 have hdrop:i<s.length->s.drop i=s.getD i 0::s.drop (i+1):=fun h=>by
  rw[List.drop_eq_getElem_cons h,List.getD_eq_getElem?_getD,gL h];rfl
 refine GIf.mk (fun h34=>?_) (fun h34=>?_)<;>conv=>whnf
 ·
  replace h34:=u8n_ne (d:=34) h34
  refine GDraw.calm (by kernel_rfl) ?_
  conv=>whnf
  refine GIf.mk (fun hge=>?_) (fun hge=>?_)<;>conv=>whnf
  ·refine OwesO.panics ?_
   have:s.drop i=[]:=List.drop_of_length_le (by simp at hge;omega)
   rw[this] at hq
   rw[<-hq];rfl
  have hlt:i<s.length:=by simp at hge;omega
  refine pcB (q:=0) (c_next s i (by unfold most;omega)) (gsetK_mk (l:=rdI s i::tB bs) rfl ?_)
  conv=>whnf
  have hd:=hdrop hlt
  refine GIf.mk (fun h92=>?_) (fun h92=>?_)<;>conv=>whnf
  ·replace h92:=u8n_ne (d:=92) h92
   refine pcB (q:=0) (c_next s i (by unfold most;omega)) (gsetK_mk (l:=rdI s i::tB bs) rfl ?_)
   conv=>whnf
   refine wr _ _ _ _ _ rfl ?_
   conv=>whnf
   refine⟨[.i .i64 (i+1:Nat)],⟨?_,rL _,rfl,bL rfl⟩,glistK_mk (gsetK_mk (l:=rdI s (i+1)::tB (bs++[s.getD i 0])) rfl ?_)⟩
   ·exact cells_succ (by omega)
   conv=>whnf
   refine⟨s.length+2 - (i+1),(by show _<s.length+2 - i;omega),(i+1,bs++[s.getD i 0]),⟨by show _<=_;omega,by show(_:List UInt8).length<=_;simp;omega,?_⟩,rfl,⟨rfl,rfl,trivial⟩,rfl⟩
   rw[hd,rt_c h34 h92] at hq
   rw[<-hq]
   simp[Option.map_map,Function.comp_def]
  replace h92:=u8n_eq (d:=92) h92
  refine⟨[.i .i64 (i+1:Nat)],⟨?_,rL _,rfl,bL rfl⟩,glistK_mk (gsetK_mk (l:=rdI s (i+1)::tB bs) rfl ?_)⟩
  ·exact cells_succ (by omega)
  conv=>whnf
  refine pcB (q:=0) (c_next s (i+1) (by unfold most;omega)) (gsetK_mk (l:=rdI s (i+1)::tB bs) rfl ?_)
  conv=>whnf
  refine GIf.mk (fun h120=>?_) (fun h120=>?_)<;>conv=>whnf
  ·replace h120:=u8n_ne (d:=120) h120
   refine pcB (q:=0) (c_next s (i+1) (by unfold most;omega)) (gsetK_mk (l:=rdI s (i+1)::tB bs) rfl ?_)
   conv=>whnf
   refine wr _ _ _ _ _ rfl ?_
   conv=>whnf
   refine⟨[.i .i64 (i+1+1:Nat)],⟨?_,rL _,rfl,bL rfl⟩,glistK_mk (gsetK_mk (l:=rdI s (i+1+1)::tB (bs++[s.getD (i+1) 0])) rfl ?_)⟩
   ·exact cells_succ (by omega)
   conv=>whnf
   refine⟨s.length+2 - (i+1+1),(by show _<s.length+2 - i;omega),(i+1+1,bs++[s.getD (i+1) 0]),⟨by show _<=_;omega,by show(_:List UInt8).length<=_;simp;omega,?_⟩,rfl,⟨rfl,rfl,trivial⟩,rfl⟩
   rw[hd,h92] at hq
   by_cases hl2:i+1<s.length
   ·have hd2:s.drop (i+1)=s.getD (i+1) 0::s.drop (i+1+1):=by
     rw[List.drop_eq_getElem_cons hl2,List.getD_eq_getElem?_getD,gL hl2];rfl
    rw[hd2,rt_92 h120] at hq
    rw[<-hq]
    simp[Option.map_map,Function.comp_def]
   ·have e1:s.drop (i+1)=[]:=List.drop_of_length_le (by omega)
    have e2:s.drop (i+1+1)=[]:=List.drop_of_length_le (by omega)
    rw[e1] at hq
    show Option.map _ (rt (s.drop (i+1+1)))=R
    rw[e2,<-hq];rfl
  replace h120:=u8n_eq (d:=120) h120
  have hl2:i+1<s.length:=by
   rcases Nat.lt_or_ge (i+1) s.length with h|h
   ·exact h
   ·rw[List.getD_eq_getElem?_getD,List.getElem?_eq_none h] at h120;simp at h120
  have hd2:s.drop (i+1)=120::s.drop (i+1+1):=by
   rw[List.drop_eq_getElem_cons hl2,<-h120,List.getD_eq_getElem?_getD,gL hl2];rfl
  rw[hd,h92,hd2] at hq
  refine GDraw.calm (by kernel_rfl) ?_
  conv=>whnf
  refine GIf.mk (fun hge2=>?_) (fun hge2=>?_)<;>conv=>whnf
  ·refine OwesO.panics ?_
   have hl3:(s.drop (i+1+1)).length<=1:=by
    rw[wrap_in (by omega) (by omega)] at hge2
    simp at hge2⊢;omega
   rw[<-hq]
   rcases hr:s.drop (i+1+1) with _|⟨a,_|⟨b,r⟩⟩
   ·rfl
   ·rfl
   ·rw[hr] at hl3;simp at hl3
  have hl4:i+3<s.length:=by
   rw[wrap_in (by omega) (by omega)] at hge2
   simp at hge2;omega
  obtain⟨a,b,hab⟩:∃a b,s.drop (i+1+1)=a::b::s.drop (i+4):=
   ⟨s[i+2],s[i+3],by rw[List.drop_eq_getElem_cons (by omega),List.drop_eq_getElem_cons (by omega)]⟩
  rw[hab,rt_x] at hq
  refine GDraw.calm (by kernel_rfl) ?_
  conv=>whnf
  have w1:IntKind.i64.wrap (((i+1:Nat):Int)+1)=((i+2:Nat):Int):=wrap_in (by omega) (by omega)
  have w3:IntKind.i64.wrap (((i+1:Nat):Int)+3)=((i+4:Nat):Int):=wrap_in (by omega) (by omega)
  refine⟨by rw[w1];omega,?_⟩
  conv=>whnf
  refine⟨by rw[w3];omega,?_⟩
  conv=>whnf
  refine⟨⟨by rw[w1,w3];omega,by rw[w3];omega⟩,[a,b],?_,?_⟩
  ·rw[w1,w3,Int.toNat_natCast,Int.toNat_natCast,hab,show i+4 - (i+2)=2 by omega];rfl
  conv=>whnf
  cases hx:hex2 a b with
  |none=>
   have hPU:SC Tryz.prog 359 [.s [a,b],.i .i64 16,.i .i64 8] [] (.val (.tup [.i .u64 0,.ifc 317 .any])) []:=by
    have:=c_ParseUint16 a b
    rw[hx] at this;exact this
   rw[hx] at hq
   refine pcP hPU ?_
   conv=>whnf
   exact OwesO.panics (by rw[<-hq];rfl)
  |some v=>
   have hPU:SC Tryz.prog 359 [.s [a,b],.i .i64 16,.i .i64 8] [] (.val (.tup [.i .u64 v,.o .nilIface])) []:=by
    have:=c_ParseUint16 a b
    rw[hx] at this;exact this
   rw[hx] at hq
   refine pcP hPU ?_
   conv=>whnf
   have hv:IntKind.u8.wrap (v:Int)=((UInt8.ofNat v).toNat:Int):=by
    rw[u8w];simp
   rw[hv]
   refine wr _ _ _ _ _ rfl ?_
   conv=>whnf
   refine⟨[.i .i64 (i+3:Nat)],⟨?_,rL _,rfl,bL rfl⟩,glistK_mk (gsetK_mk (l:=rdI s (i+3)::tB (bs++[UInt8.ofNat v])) rfl ?_)⟩
   ·exact cells_add 2 (by omega)
   conv=>whnf
   refine⟨[.i .i64 (i+4:Nat)],⟨?_,rL _,rfl,bL rfl⟩,glistK_mk (gsetK_mk (l:=rdI s (i+4)::tB (bs++[UInt8.ofNat v])) rfl ?_)⟩
   ·exact cells_succ (by omega)
   conv=>whnf
   refine⟨s.length+2 - (i+4),(by show _<s.length+2 - i;omega),(i+4,bs++[UInt8.ofNat v]),⟨by show _<=_;omega,by show(_:List UInt8).length<=_;simp;omega,?_⟩,rfl,⟨rfl,rfl,trivial⟩,rfl⟩
   rw[<-hq]
   simp[Option.map_map,Function.comp_def]
 ·replace h34:=u8n_eq (d:=34) h34
  have hlt:i<s.length:=by
   rcases Nat.lt_or_ge i s.length with h|h
   ·exact h
   ·rw[List.getD_eq_getElem?_getD,List.getElem?_eq_none h] at h34;simp at h34
  rw[hdrop hlt,h34,rt_34] at hq
  refine⟨[.i .i64 (i+1:Nat)],⟨cells_succ (by omega),rL _,rfl,bL rfl⟩,glistK_mk (gsetK_mk (l:=rdI s (i+1)::tB bs) rfl ?_)⟩
  conv=>whnf
  have e:s.length - (s.drop (i+1)).length=i+1:=by simp;omega
  have hres:Option.map (fun p:List UInt8×List UInt8=>(GV.s p.1,rdI s (s.length - p.2.length))) R=some (.s bs,rdI s (i+1)):=by
   rw[<-hq]
   show some (GV.s (bs++[]),rdI s (s.length - (s.drop (i+1)).length))=_
   rw[e,List.append_nil]
  by_cases hb:bs=[]
  ·subst hb
   refine callStrN rfl ?_
   conv=>whnf
   exact OwesO.box hres rfl (.refl _) (fun _=>rfl) (.s _)
  ·obtain⟨c,t,rfl⟩:=List.exists_cons_of_ne_nil hb
   have e3:tB (c::t)=[bldAt 1 2 (c::t),ownB (c::t).length]:=if_neg hb
   rw[e3]
   refine callStr (by simp at hbl;omega) rfl ?_
   conv=>whnf
   exact OwesO.box hres rfl (.refl _) (fun _=>rfl) (.s _)
end Go.Proofs.YtcfgfkkhpdlhpaaGreatDoor
