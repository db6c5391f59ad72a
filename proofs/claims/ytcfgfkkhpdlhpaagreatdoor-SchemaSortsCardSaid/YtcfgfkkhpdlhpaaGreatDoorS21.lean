/-
  A part of the proof of SchemaSorts.
-/
import Derived.Test.YtcfgfkkhpdlhpaaGreatDoorS20
import Derived.Laws.Rows
set_option linter.all false
set_option maxRecDepth 100000
namespace Go.Proofs.YtcfgfkkhpdlhpaaGreatDoor
open Go.RowKit
def wW (i:Nat) (c:UInt8):Prop:=(97<=c.toNat/\c.toNat<=122)∨(i≠0/\(c.toNat=95∨(48<=c.toNat/\c.toNat<=57)))
theorem wL (c:UInt8):d8 c=true↔(97<=c.toNat/\c.toNat<=122)∨(c.toNat=95∨(48<=c.toNat/\c.toNat<=57)):=by
 simp[d8,m7,cO];omega
theorem D4 (c:UInt8):m7 c=true↔(97<=c.toNat/\c.toNat<=122):=by simp[m7]
theorem N7 {s:List UInt8} (h1:1<=s.length) (h2:s.length<=16):fP s=true↔∀i c,s[i]?=some c->wW i c:=by
 cases s with
 |nil=>simp at h1
 |cons a t=>
  simp only[fP,aH,aK,aS];constructor
  ·rintro⟨⟨_,h3⟩,h4⟩ i c hc;have h5:=(wL c).1 (h4 c (aL hc));have h6:=(D4 a).1 h3;unfold wW;cases i with
   |zero=>simp at hc;subst hc;exact .inl h6
   |succ i=>rcases h5 with h5|h5;exact .inl h5;exact .inr ⟨by omega,h5⟩
  ·intro h;refine⟨⟨h2,(D4 a).2 ?_⟩,fun c hc=>(wL c).2 ?_⟩
   ·rcases h 0 a rfl with h3|⟨h3,_⟩
    ·exact h3
    ·exact absurd rfl h3
   ·obtain⟨i,hi⟩:=List.mem_iff_getElem?.1 hc;rcases h i c hi with h3|⟨_,h3⟩
    ·exact .inl h3
    ·exact .inr h3
theorem BS [MaxL] (s:List UInt8):SC Tryz.prog 125 [.s s] [] (.val (.b (fP s))) []:=by
 refine cY Tryz.func125 rfl ?_;conv=>whnf
 have short:¬(1<=s.length/\s.length<=16)->fP s=false:=fun h=>by
  cases s with
  |nil=>rfl
  |cons a t=>simp[fP] at h⊢;omega
 refine aE (fun h1=>?_) (fun h1=>?_)<;>conv=>whnf
 ·have h1':s.length<1:=by have:=aB h1;omega
  exact bY (short (by omega)).symm
 refine aE (fun h2=>?_) (fun h2=>?_)<;>conv=>whnf
 ·have h2':16<s.length:=by have:=aB h2;omega
  exact bY (short (by omega)).symm
 have h1':1<=s.length:=by have:=aC h1;omega
 have h2':s.length<=16:=by have:=aC h2;omega
 refine cV (fun i:Nat=>i<=s.length/\∀j c,j<i->s[j]?=some c->wW j c) (fun i=>[(0,.s s),(3,.i .i64 (i:Nat))]) (fun _=>⟨[],0,[]⟩) (fun i=>s.length - i) 0 ⟨zL _,fun j c h=>absurd h (dJ j)⟩ ⟨rfl,rfl,trivial⟩ rfl (fun i φ0 hi=>?_);obtain⟨hi,hg⟩:=hi;conv=>whnf
 refine aE (fun hlt=>?_) (fun hlt=>?_)<;>conv=>whnf
 ·have hlt':i<s.length:=by have:=aB hlt;omega
  have hgi:s[i]?=some (s.getD i 0):=by rw[aO,gL hlt'];rfl
  generalize s.getD i 0=c at*;have hgi':s[((i:Nat):Int).toNat]?=some c:=by simpa using hgi
  have bad:¬wW i c->∀σ,Owes [] (.val (.b (fP s))) [] (.val (.b false)) σ:=fun hb σ=>by
   refine bY ?_;rw[eq_comm,<-Bool.not_eq_true,N7 h1' h2'];exact fun h=>hb (h i c hgi)
  have nxt:wW i c->i+1<=s.length/\∀j c,j<i+1->s[j]?=some c->wW j c:=fun h=>⟨hlt',fun j c' hj hc'=>by
   by_cases hji:j=i
   ·subst hji;rw[hgi] at hc';cases hc';exact h
   ·exact hg j c' (by omega) hc'⟩
  repeat' first
   |(refine aE (fun _=>?_) (fun _=>?_)<;>conv=>whnf)
   |(refine GNeed.mk (cN _) ⟨c,hgi',?_⟩;conv=>whnf)
  all_goals first
   |(refine bad ?_ _;unfold wW;simp only[aK,bC,cT,iA,ne_eq,bne_iff_ne,bne_eq_false_iff_eq,dR,Bool.not_eq_false'] at*;omega)
   |(refine eP (i+1) (nxt ?_) (by omega) ⟨rfl,b7 (by omega),trivial⟩ rfl;unfold wW;simp only[aK,bC,cT,iA,ne_eq,bne_iff_ne,bne_eq_false_iff_eq,dR,Bool.not_eq_false'] at*;omega)
 ·have hie:i=s.length:=by have:=aC hlt;omega
  refine bY ?_;rw[eq_comm,N7 h1' h2'];exact fun j c hc=>hg j c (by have:=(List.getElem?_eq_some_iff.1 hc).1;omega) hc
theorem A7 [MaxL] (v:Val):SC Tryz.prog 212 [v.gv] [] (.val (.b v.ok)) []:=by
 obtain⟨k,n,s⟩:=v;refine cY Tryz.func212 rfl ?_;conv=>whnf
 repeat' (refine aE (fun _=>?_) (fun _=>?_)<;>conv=>whnf)
 all_goals
  refine bY ?_;simp only[aK,bC,cT,iA,ne_eq] at*;rw[dU];simp only[Val.ok];simp;try grind
theorem a3W (n:Int):IntKind.i64.wrap n=(n+9223372036854775808)%18446744073709551616 - 9223372036854775808:=by
 unfold IntKind.wrap;simp[IntKind.signed,IntKind.bits];omega
def HN (c:UInt8):Int:=if 48<=c.toNat/\c.toNat<=57 then(c.toNat:Int) - 48 else if 97<=c.toNat/\c.toNat<=102 then(c.toNat:Int) - 87 else -1
theorem A6 [MaxL] (c:UInt8):SC Tryz.prog 304 [.i .u8 c.toNat] [] (.val (.i .i64 (HN c))) []:=by
 have hc:=bX c;refine cY Tryz.func304 rfl ?_;conv=>whnf
 repeat' (refine aE (fun _=>?_) (fun _=>?_)<;>conv=>whnf)
 all_goals
  refine b8 ?_;simp only[aK,bC] at*;unfold HN
  (repeat' split)<;>first|(exfalso;omega)|rfl|(simp only[u8w,a3W];omega)
end Go.Proofs.YtcfgfkkhpdlhpaaGreatDoor
namespace Go.Proofs.YtcfgfkkhpdlhpaaGreatDoor
open Go.RowKit Go.Sort
theorem YB [MaxL] {C:Cx} {w:World} (g:Nat) (x:GV) (t:TypeId) (hr:Rel C ⟨[],0,[]⟩ w w) (ht:Globals.tab g=some [.ifc t x]):∃p,w.cell? ⟨g,0,none⟩=some (.iface t p):=by
 obtain⟨u,hfx,hvr⟩:=hr.gl g _ 0 _ ht rfl;have:=hvr _ (fun _ _ _ h=>h);cases this;exact⟨_,hr.fxc _ _ _ hfx⟩
theorem QT [MaxL] (fn s:List UInt8) (base bits:Int) (hs:s.length<=281474976710656):SC Tryz.prog 281 [.s fn,.s s,.i .i64 base,.i .i64 bits,.ifc 314 (.i .i64 2)] [] (.val (.ifc 317 .any)) []:=by
 refine SC.of_calls fun C w vs hr hv=>?_;obtain⟨v1,vs1,e,h1,hv⟩:=hv.cons_inv;obtain⟨v2,vs2,rfl,h2,hv⟩:=hv.cons_inv;obtain⟨v3,vs3,rfl,h3,hv⟩:=hv.cons_inv;obtain⟨v4,vs4,rfl,h4,hv⟩:=hv.cons_inv;obtain⟨v5,vs5,rfl,h5,hv⟩:=hv.cons_inv;have:vs5=[]:=aN (by simpa using hv.1);subst this;obtain rfl:vs= #[v1,v2,v3,v4,v5]:=by rw[<-fI (xs:=vs),e]
 cases h1;cases h2;cases h3;cases h4;cases h5 with
 |ifc h5=>
 cases h5;obtain⟨p,hp⟩:=YB 4 _ _ hr rfl;refine(Tryz.strconv_toError_syntax ⟨fn.toArray⟩ ⟨s.toArray⟩ base bits _ w (by simpa[ByteArray.size] using hs) hp (.inr ⟨_,_,rfl⟩)).mono ?_;rintro e w' ⟨N,he,_,_,hb⟩;exact⟨_,he,.below hb,.ifc (.any _)⟩
theorem yO [MaxL] (a b:UInt8):SC Tryz.prog 359 [.s [a,b],.i .i64 16,.i .i64 8] [] (.val (match AM a b with|some n=>.tup [.i .u64 n,.o .nilIface]|none=>.tup [.i .u64 0,.ifc 317 .any])) []:=by
 have hI:=LP a b;refine cY Tryz.func359 rfl ?_;conv=>whnf
 cases h:AM a b with
 |some n=>
  rw[h] at hI;refine bD hI (wR _) rfl (fun _=>rfl) (fun _=>rfl) ?_;conv=>whnf
  exact oI rfl (fun _=>rfl)
 |none=>
  rw[h] at hI;refine bD hI (wR _) rfl (fun _=>rfl) (fun _=>rfl) ?_;conv=>whnf
  refine bD (QT _ [a,b] 16 8 (by simp)) (wR _) rfl (fun _=>rfl) (fun _=>rfl) ?_;conv=>whnf
  exact oI rfl (fun _=>rfl)
theorem M8 {w:World} {b:Nat} {c:Array Value} {t:TypeId} {fr:Nat×Nat} (h:w.heap[b]?=some (.cells c t fr)):w.shape? b=some (t,c.size):=by
 unfold World.shape?;rw[h]
def B4:GObj:=.box 92 [.o (.pointer none),.sl .full []]
def OU (bs:List UInt8):List GObj:=[.box 92 [.ptr 0 0,.sl (.own 1) (bs.map fun b=>.i .u8 b.toNat)],.own bs.length 1 5]
theorem EB:Go.Proofs.Lays.n240 Tryz.prog Tryz.lays156_ren:={Tryz.lays156 with}
theorem VRs.arr1 [MaxL] {C:Cx} {g:GV} {vs:Array Value} (h:VRs C [g] vs.toList):∃v,vs= #[v]/\VR C g v:=by
 obtain⟨v,vs',e,h1,h2⟩:=h.cons_inv;have:vs'=[]:=aN (by simpa using h2.1);subst this;exact⟨v,by rw[<-fI (xs:=vs),e],h1⟩
theorem VRs.arr2 [MaxL] {C:Cx} {g g':GV} {vs:Array Value} (h:VRs C [g,g'] vs.toList):∃v v',vs= #[v,v']/\VR C g v/\VR C g' v':=by
 obtain⟨v,vs',e,h1,h2⟩:=h.cons_inv;obtain⟨v',vs',rfl,h3,h4⟩:=h2.cons_inv;have:vs'=[]:=aN (by simpa using h4.1);subst this;exact⟨v,v',by rw[<-fI (xs:=vs),e],h1,h3⟩
theorem VR.unit [MaxL] {C:Cx}:VR C (.tup []) (.tuple #[]):=.tup rfl (fun j g u h=>by simp at h)
theorem LN [MaxL]:SC Tryz.prog 132 [.ptr 0 0] [B4] (.val (.tup [])) [.box 92 [.ptr 0 0,.sl .full []]]:=by
 refine⟨rL _,fun C w vs hr hv=>?_,fun x hx=>by simp at hx;subst hx;simp⟩;obtain⟨v,rfl,hv1⟩:=hv.arr1;obtain⟨h0,b,cs,hb,ho,hcs⟩:=hr.obj 0 _ rfl;obtain⟨u,u',rfl,hu,hu'⟩:=(BoxV.exact hcs rfl).arr2;cases hv1 with
 |ptr hb'=>
 rw[hb] at hb';cases hb';cases hu;have hc0:w.cell? ⟨b,0,none⟩=some (.pointer none):=by simp[World.cell?,ho]
 refine(Any.Builder_copyCheck_fresh EB Tryz.Builder_Extra_156.toX72 b w hc0 (M8 ho) (by simp[World.frozen?,ho])).mono ?_;rintro e w' ⟨rfl,rfl⟩;refine⟨C,.refl C,Rel.setObj (r:=0) (b:=b) hr (by simp) hb _ ⟨h0,b,_,hb,heap_setCell_same w b 0 _ _ _ ho,?_⟩ rfl rfl rfl (by simp[World.setCell]) (fun k hk=>heap_setCell_other w _ k _ hk),_,rfl,.unit⟩;exact VRs.box (.cons (.ptr hb) (.cons hu' .nil))
theorem DK [MaxL] (x:GV) (os:List GObj) (hn:∀y∈os,y≠ .held):SC Tryz.prog 132 [.ptr 0 0] (.box 92 [.ptr 0 0,x]::os) (.val (.tup [])) (.box 92 [.ptr 0 0,x]::os):=by
 refine⟨rL _,fun C w vs hr hv=>?_,fun y hy=>by
  rcases List.mem_cons.1 hy with rfl|hy
  ·simp
  ·exact hn y hy⟩
 obtain⟨v,rfl,hv1⟩:=hv.arr1;obtain⟨h0,b,cs,hb,ho,hcs⟩:=hr.obj 0 _ rfl;obtain⟨u,u',rfl,hu,hu'⟩:=(BoxV.exact hcs rfl).arr2;cases hv1 with
 |ptr hb'=>
 rw[hb] at hb';cases hb';cases hu with
 |ptr hb'=>
 rw[hb] at hb';cases hb';have hc0:w.cell? ⟨b,0,none⟩=some (.pointer (some ⟨b,0,none⟩)):=by simp[World.cell?,ho]
 refine(Any.Builder_copyCheck_used EB Tryz.Builder_Extra_156.toX72 b w hc0).mono ?_;rintro e w' ⟨rfl,rfl⟩;exact⟨C,.refl C,hr,_,rfl,.unit⟩
def fU (bs:List UInt8):List GV:=bs.map fun b=>.i .u8 b.toNat
theorem a2O [MaxL] (bs:List UInt8) (f:Nat->Nat):GV.renL f (fU bs)=fU bs:=by rw[cM];exact gI (fun _=>Cl.i _ _) bs f
theorem bF (bs:List UInt8):(fU bs).length=bs.length:=by simp[fU]
theorem jW (bs:List UInt8):(fU bs).all (fun x=>x.cells.length==1)=true:=by
 rw[aS];intro x hx;obtain⟨b,_,rfl⟩:=List.mem_map.1 hx;rfl
theorem YZ (bs:List UInt8):(fU bs).all (rY 1)=true:=by
 rw[aS];intro x hx;obtain⟨b,_,rfl⟩:=List.mem_map.1 hx;rfl
def gX (q p:Nat) (bs:List UInt8):GObj:=.box 92 [.ptr q 0,.sl (.own p) (fU bs)]
def mF (n:Nat):GObj:=.own n 1 5
theorem oA [MaxL] (f:Nat->Nat) (q p:Nat) (bs:List UInt8):(gX q p bs).ren f=gX (f q) (f p) bs:=by
 show GObj.box _ [.ptr (f q) 0,.sl (.own (f p)) (GV.renL f (fU bs))]=_;rw[a2O];rfl
theorem oV [MaxL] {q p:Nat} {bs:List UInt8} {objs:List GObj} (hn:q≠p) (hq:objs[q]?=some (gX q p bs)) (hp:objs[p]?=some (mF bs.length)):Lies [q,p] (OU bs) objs:=by
 refine Lies.two hn ?_ hp (by simp) (by simp);have:=oA (jN [q,p] objs.length) 0 1 bs;rw[show GObj.box 92 [.ptr 0 0,.sl (.own 1) (bs.map fun b=>.i .u8 b.toNat)]=gX 0 1 bs from rfl,this,hq];rfl
theorem E7 [MaxL] {p:Nat} {s:List GObj} {r r':GRes} {bs:List UInt8} {σ:GS} (hs:s.length<=2) (hp:s.length=2->p=1) (hp0:0≠p) (h0:σ.objs[0]?=some (gX 0 p bs)) (h1:σ.objs[p]?=some (mF bs.length)) (hr:r'.ren (jN [0,p] σ.objs.length)=r') (hrr:WkRes r r'):Owes s r' (OU bs) r σ:=by
 refine⟨[0,p],oV hp0 h0 h1,fun i hi=>?_,by rw[hr];exact hrr⟩;rcases i with _|_|i
 ·rfl
 ·simp[hp (by omega)]
 ·omega
theorem B3 [MaxL] (c:UInt8):SC Tryz.prog 330 [.ptr 0 0,.i .u8 c.toNat] [B4] (.val (.o .nilIface)) (OU [c]):=by
 refine dF qO mixed Tryz.func330 rfl (bL rfl) (by simp[OU]) rfl ?_;conv=>whnf
 refine uI LN [0] (objs':=[.box 92 [.ptr 0 0,.sl .full []]]) (Lies.one' rfl (by simp[B4])) (wR _) rfl rfl rfl rfl ?_;conv=>whnf
 refine⟨⟨rfl,rfl,bL rfl⟩,fU [c],1,⟨rfl,rfl⟩,?_⟩;conv=>whnf
 refine⟨_,⟨rfl,zL _,rfl,bL rfl⟩,?_⟩;conv=>whnf
 exact E7 (p:=2) (by simp) (by simp) (by decide) rfl rfl rfl (d7 _)
theorem DL [MaxL] (bs:List UInt8) (c:UInt8) (hl:bs.length<1000000000):SC Tryz.prog 330 [.ptr 0 0,.i .u8 c.toNat] (OU bs) (.val (.o .nilIface)) (OU (bs++[c])):=by
 refine dF qO mixed Tryz.func330 rfl (bL rfl) (by simp[OU]) rfl ?_;conv=>whnf
 refine uI (DK (.sl (.own 1) (fU bs)) [mF bs.length] (by simp[mF])) [0,1] (objs':=[gX 0 1 bs,mF bs.length]) (oV (by decide) rfl rfl) (wR _) rfl rfl ?_ rfl ?_
 ·show[(gX 0 1 bs).ren (jN [0,1] 2),mF bs.length]=_;rw[oA];rfl
 conv=>whnf
 refine⟨⟨rfl,jW bs,by show(fU bs).length+1<=4294967296;rw[bF];omega⟩,fU (bs++[c]),(bs++[c]).length,⟨by simp[fU];rfl,by show _=(fU bs).length+1;rw[bF];simp⟩,?_⟩;conv=>whnf
 refine⟨⟨zL _,by rw[bF],.inl ⟨rfl,rfl⟩⟩,?_⟩;conv=>whnf
 refine⟨_,⟨rfl,zL _,rfl,bL rfl⟩,?_⟩;conv=>whnf
 exact E7 (p:=1) (by simp[OU]) (fun _=>rfl) (by decide) rfl rfl rfl (d7 _)
theorem I1 [MaxL] (bs l:List UInt8) (hl:bs.length+l.length<1000000000):SC Tryz.prog 57 [.ptr 0 0,.s l] (OU bs) (.val (.tup [.i .i64 l.length,.o .nilIface])) (OU (bs++l)):=by
 refine dF qO mixed Tryz.func57 rfl (bL rfl) (by simp[OU]) rfl ?_;conv=>whnf
 refine uI (DK (.sl (.own 1) (fU bs)) [mF bs.length] (by simp[mF])) [0,1] (objs':=[gX 0 1 bs,mF bs.length]) (oV (by decide) rfl rfl) (wR _) rfl rfl ?_ rfl ?_
 ·show[(gX 0 1 bs).ren (jN [0,1] 2),mF bs.length]=_;rw[oA];rfl
 conv=>whnf
 refine aE (fun h=>?_) (fun h=>?_)<;>conv=>whnf
 ·have:l=[]:=by simpa using h
  subst this;refine⟨_,⟨rfl,zL _,rfl,bL rfl⟩,?_⟩;conv=>whnf
  rw[gC];exact E7 (p:=1) (by simp[OU]) (fun _=>rfl) (by decide) rfl rfl rfl (d7 _)
 ·refine⟨⟨YZ l,jW bs,by show(fU bs).length+(fU l).length<=4294967296;rw[bF,bF];omega⟩,fU (bs++l),(bs++l).length,⟨by simp[fU],by show _=(fU bs).length+(fU l).length;rw[bF,bF];simp⟩,?_⟩;conv=>whnf
  refine⟨⟨zL _,by rw[bF],.inl ⟨rfl,rfl⟩⟩,?_⟩;conv=>whnf
  refine⟨_,⟨rfl,zL _,rfl,bL rfl⟩,?_⟩;conv=>whnf
  exact E7 (p:=1) (by simp[OU]) (fun _=>rfl) (by decide) rfl rfl rfl (d7 _)
theorem a19 {α:Type} {x:Option α} {K:α->Prop} {a:α} (h:x=some a) (k:K a):u6 x K:=by rw[h];exact k
theorem Z0 [MaxL] (l:List UInt8):(fU l).flatMap GV.cells=fU l:=by
 induction l with
 |nil=>rfl
 |cons c t ih=>show[GV.i .u8 c.toNat]++(fU t).flatMap GV.cells=_;rw[ih];rfl
theorem Y5 [MaxL] (c:UInt8) (t:List UInt8) (r:Nat):J0 (.sl (.own r) (fU (c::t)))=some (.dat r (fU (c::t))):=by
 show(if(!(fU (c::t)).isEmpty&&(fU (c::t)).all fun x=>x.cells.length==1)=true then some (GV.dat r (List.flatMap GV.cells (fU (c::t)))) else none)=_;rw[jW,Z0];rfl
theorem CE (l:List UInt8):x5 (fU l)=some l:=by
 induction l with
 |nil=>rfl
 |cons c t ih=>show(x5 (fU t)).map _=_;rw[ih];simp
theorem VA (l:List UInt8):(fU l).all SN=true:=by
 rw[aS];intro x hx;obtain⟨b,_,rfl⟩:=List.mem_map.1 hx;have:=bX b;simp[SN];omega
theorem XZ [MaxL] {P:Program} {pt ty:TypeId} {r esz:Nat} {σ:GS} (l:List UInt8) (ho:σ.objs[r]?=some (.own l.length esz ty)) (hl:l≠[]) (hlo:σ.lo<=r) (hp:U5 P pt=some ty) (hc:P.cellsOf ty=1) (hlim:l.length<=gE):
  D9 P pt (.dat r (fU l)) (.i .i64 l.length) σ=some (.s l,gset σ r .dead):=by
 simp only[D9,ho,CE,bF,VA,hp,hc];rw[aF];simp[hlo,hlim];exact hl
theorem OL [MaxL] (c:UInt8) (t:List UInt8) (hl:t.length<1000000000):SC Tryz.prog 61 [.ptr 0 0] (OU (c::t)) (.val (.s (c::t))) [gX 0 1 (c::t),.dead]:=by
 refine dF qO mixed Tryz.func61 rfl (bL rfl) (by simp[OU]) rfl ?_;conv=>whnf
 refine GDraw.wild _ _ _ rfl rfl rfl (by kernel_rfl) ?_;conv=>whnf
 refine a19 (a:=(.dat 1 (fU (c::t)),_)) (by show Option.map _ (J0 (.sl (.own 1) (fU (c::t))))=_;rw[Y5];rfl) ?_;conv=>whnf
 refine a19 (a:=(.s (c::t),⟨[gX 0 1 (c::t),.dead],0,[]⟩)) ?_ ?_
 ·show D9 Tryz.prog _ (.dat 1 (fU (c::t))) (.i .i64 (fU (c::t)).length) ⟨[gX 0 1 (c::t),mF (c::t).length],0,[]⟩=_;rw[bF];exact XZ (c::t) rfl (by simp) (by simp) (by kernel_rfl) (by kernel_rfl) (by unfold gE;simp;omega)
 conv=>whnf
 refine⟨[0,1],Lies.two (by decide) ?_ rfl (by simp[gX]) (by simp),fun i hi=>?_,d7 _⟩
 ·show some (gX 0 1 (c::t))=some ((gX 0 1 (c::t)).ren (jN [0,1] 2));rw[oA];rfl
 ·rcases i with _|_|i
  ·rfl
  ·rfl
  ·simp[OU] at hi;omega
end Go.Proofs.YtcfgfkkhpdlhpaaGreatDoor
namespace Go.Proofs.YtcfgfkkhpdlhpaaGreatDoor
open Go.RowKit
def rt:List UInt8->Option (List UInt8×List UInt8)
 |[]=>none
 |c::r=>if c=34 then some ([],r) else if c=92 then(match r with
   |[]=>none
   |e::r1=>if e=120 then(match r1 with
     |a::b::r2=>(match AM a b with
      |some n=>(rt r2).map fun p=>(UInt8.ofNat n::p.1,p.2)
      |none=>none)
     |_=>none)
    else(rt r1).map fun p=>(e::p.1,p.2))
  else(rt r).map fun p=>(c::p.1,p.2)
def VH:GV:=.ifc 357 (.agg [])
theorem SC.of_callsO [MaxL] {P:Program} {k:FuncId} {args:List GV} {s:List GObj} {r:GRes} (hh:∀x∈s,x≠ .held)
  (h:∀(C:Cx) (w:World) (vs:Array Value),Rel C ⟨s,0,[]⟩ w w->VRs C args vs.toList->Calls P k vs w fun e w'=>Base (fun _=>False) w w'/\ERel C r e):
  SC P k args s r s:=by
 refine⟨rL _,fun C w vs hr hv=>(h C w vs hr hv).mono fun e w' ⟨hb,hg⟩=>⟨C,.refl C,?_,hg⟩,hh⟩;refine⟨⟨hb.os,hb.tape,hb.output,hb.size,fun i hi _=>hb.block i hi (fun h=>h)⟩,fun b o v hx=>?_,fun r x hx=>ORel.keep hr (.refl C) rfl rfl hb.size (fun b hb'=>hb.block b (rG hr hb') (fun h=>h)) (hr.obj r x hx),hr.dom,hr.new,hr.inj,hr.sepB,hr.sepO,hr.fxn,hr.gl,hr.gs⟩;have h1:=hr.fxc b o v hx;have hlt:b<w.heap.size:=block_lt_of_cell h1;unfold World.cell? at h1⊢;rw[hb.block b hlt (fun h=>h)];exact h1
theorem V8 [MaxL]:SC Tryz.prog 61 [.ptr 0 0] [B4] (.val (.s [])) [B4]:=by
 refine SC.of_callsO (by simp[B4]) fun C w vs hr hv=>?_;obtain⟨v,rfl,hv1⟩:=hv.arr1;obtain⟨h0,b,cs,hb,ho,hcs⟩:=hr.obj 0 _ rfl;obtain⟨u,u',rfl,hu,hu'⟩:=(BoxV.exact hcs rfl).arr2;cases hv1 with
 |ptr hb'=>
 rw[hb] at hb';cases hb';cases hu' with
 |sl esz b' off us hn hc ha hw hx hv ht=>
 obtain⟨hc0,ha0⟩:=ht;obtain rfl:=ha0 rfl;simp at hn hc0;subst hn;subst hc0;refine(Any.Builder_String_nil Tryz.lays169 Tryz.Builder_Extra_169 w.heap.size b u w ho).mono ?_;rintro e w' ⟨rfl,hb⟩;exact⟨.below hb,_,rfl,.s []⟩
theorem a0a [MaxL] {M:FuncId->Bool} {K:GRes->GS->Prop} {x:GObj} {c:UInt8} {ds:List GDef} (hM:M 330=false) (hk:K (.val (.o .nilIface)) ⟨[x,gX 1 2 [c],mF 1],0,ds⟩):
  iO Tryz.prog M (.fn 330) [.ptr 1 0,.i .u8 c.toNat] ⟨[x,B4],0,ds⟩ K:=by
 refine uI (B3 c) [1] (objs':=[x,gX 1 2 [c],mF 1]) (Lies.one' rfl (by simp[B4])) (wR _) rfl hM ?_ rfl hk;rfl
theorem a2C [MaxL] {M:FuncId->Bool} {K:GRes->GS->Prop} {x:GObj} {bs:List UInt8} {c:UInt8} {ds:List GDef} (hl:bs.length<1000000000) (hM:M 330=false) (hk:K (.val (.o .nilIface)) ⟨[x,gX 1 2 (bs++[c]),mF (bs++[c]).length],0,ds⟩):
  iO Tryz.prog M (.fn 330) [.ptr 1 0,.i .u8 c.toNat] ⟨[x,gX 1 2 bs,mF bs.length],0,ds⟩ K:=by
 refine uI (DL bs c hl) [1,2] (objs':=[x,gX 1 2 (bs++[c]),mF (bs++[c]).length]) (oV (by decide) rfl rfl) (wR _) rfl hM ?_ rfl hk;show[x,(gX 0 1 (bs++[c])).ren (jN [1,2] 3),mF (bs++[c]).length]=_;rw[oA];rfl
theorem a0b [MaxL] {M:FuncId->Bool} {K:GRes->GS->Prop} {x:GObj} {c:UInt8} {t:List UInt8} {ds:List GDef} (hl:t.length<1000000000) (hM:M 61=false) (hk:K (.val (.s (c::t))) ⟨[x,gX 1 2 (c::t),.dead],0,ds⟩):
  iO Tryz.prog M (.fn 61) [.ptr 1 0] ⟨[x,gX 1 2 (c::t),mF (c::t).length],0,ds⟩ K:=by
 refine uI (OL c t hl) [1,2] (objs':=[x,gX 1 2 (c::t),.dead]) (oV (by decide) rfl rfl) (wR _) rfl hM ?_ rfl hk;show[x,(gX 0 1 (c::t)).ren (jN [1,2] 3),GObj.dead]=_;rw[oA];rfl
theorem YM [MaxL] {M:FuncId->Bool} {K:GRes->GS->Prop} {x:GObj} {ds:List GDef} (hM:M 61=false) (hk:K (.val (.s [])) ⟨[x,B4],0,ds⟩):
  iO Tryz.prog M (.fn 61) [.ptr 1 0] ⟨[x,B4],0,ds⟩ K:=by
 refine uI V8 [1] (objs':=[x,B4]) (Lies.one' rfl (by simp[B4])) (wR _) rfl hM ?_ rfl hk;rfl
theorem LU [MaxL] {x y z:GObj} {rest:List GObj} {bs':List UInt8} {o:GObj} (ho:∀f,o.ren f=o):
  j4 [1,2] [gX 0 1 bs',o] (x::y::z::rest)=x::gX 1 2 bs'::o::rest:=by
 rw[MQ (by decide) (by simp) (by simp),oA,ho];rfl
theorem a0Y [MaxL] {M:FuncId->Bool} {K:GRes->GS->Prop} {x:GObj} {rest:List GObj} {bs l:List UInt8} {ds:List GDef} (hl:bs.length+l.length<1000000000) (hM:M 57=false) (hk:K (.val (.tup [.i .i64 l.length,.o .nilIface])) ⟨x::gX 1 2 (bs++l)::mF (bs++l).length::rest,0,ds⟩):
  iO Tryz.prog M (.fn 57) [.ptr 1 0,.s l] ⟨x::gX 1 2 bs::mF bs.length::rest,0,ds⟩ K:=
 uI (I1 bs l hl) [1,2] (oV (by decide) rfl rfl) (wR _) rfl hM (LU fun _=>rfl) rfl hk
theorem a0Z [MaxL] {M:FuncId->Bool} {K:GRes->GS->Prop} {x:GObj} {rest:List GObj} {bs:List UInt8} {c:UInt8} {ds:List GDef} (hl:bs.length<1000000000) (hM:M 330=false) (hk:K (.val (.o .nilIface)) ⟨x::gX 1 2 (bs++[c])::mF (bs++[c]).length::rest,0,ds⟩):
  iO Tryz.prog M (.fn 330) [.ptr 1 0,.i .u8 c.toNat] ⟨x::gX 1 2 bs::mF bs.length::rest,0,ds⟩ K:=
 uI (DL bs c hl) [1,2] (oV (by decide) rfl rfl) (wR _) rfl hM (LU fun _=>rfl) rfl hk
theorem YL [MaxL] {M:FuncId->Bool} {K:GRes->GS->Prop} {x:GObj} {rest:List GObj} {c:UInt8} {t:List UInt8} {ds:List GDef} (hl:t.length<1000000000) (hM:M 61=false) (hk:K (.val (.s (c::t))) ⟨x::gX 1 2 (c::t)::.dead::rest,0,ds⟩):
  iO Tryz.prog M (.fn 61) [.ptr 1 0] ⟨x::gX 1 2 (c::t)::mF (c::t).length::rest,0,ds⟩ K:=
 uI (OL c t hl) [1,2] (oV (by decide) rfl rfl) (wR _) rfl hM (LU fun _=>rfl) rfl hk
theorem mO {c d:UInt8} (h:((c.toNat:Int) !=(d.toNat:Int))=true):c≠d:=fun e=>by simp[e] at h
theorem lN {c d:UInt8} (h:((c.toNat:Int) !=(d.toNat:Int))=false):c=d:=by
 simp at h;exact UInt8.toNat_inj.1 (by omega)
theorem WI (r:List UInt8):rt (34::r)=some ([],r):=by
 conv=>lhs;unfold rt
 rfl
theorem a1a {c:UInt8} (h:c≠34) (h':c≠92) (r:List UInt8):rt (c::r)=(rt r).map fun p=>(c::p.1,p.2):=by
 conv=>lhs;unfold rt
 rw[aD h,aD h']
theorem WH {e:UInt8} (h:e≠120) (r:List UInt8):rt (92::e::r)=(rt r).map fun p=>(e::p.1,p.2):=by
 conv=>lhs;unfold rt
 rw[aD (by decide),aF rfl];show(if e=120 then _ else _)=_;rw[aD h]
theorem a1Z (a b:UInt8) (r:List UInt8):rt (92::120::a::b::r)=match AM a b with
  |some n=>(rt r).map fun p=>(UInt8.ofNat n::p.1,p.2)
  |none=>none:=by
 conv=>lhs;unfold rt
 rfl
def tB (bs:List UInt8):List GObj:=if bs=[] then[B4] else[gX 1 2 bs,mF bs.length]
theorem UY [MaxL] {i:Nat} (k:Nat) (h:i+k<9223372036854775807):[GV.i .i64 ((i+k:Nat):Int)]=(GV.i .i64 (IntKind.i64.wrap ((i:Int)+(k:Int)))).cells:=by
 rw[bV (by omega) (by omega)];rfl
theorem a2F [MaxL] (s:List UInt8) (n:Nat) (hn:n<s.length) (hs:s.length<1000000):
  Ct Tryz.prog 358 [.ptr 0 0] (DO s n) VH ((rt (s.drop (n+1))).map fun p=>(.s p.1,DO s (s.length - p.2.length))):=by
 refine gQ qO mixed Tryz.func358 rfl (bL rfl) (fun _=>rfl) ?hh ?_
 case hh=>cases rt (s.drop (n+1))<;>rfl
 conv=>whnf
 refine⟨[.i .i64 (n+1:Nat)],⟨kF (by omega),rL _,rfl,bL rfl⟩,?_⟩;conv=>whnf
 generalize hR:rt (s.drop (n+1))=R;refine cV (fun q:Nat×List UInt8=>q.1<=s.length+1/\q.2.length<=q.1/\(rt (s.drop q.1)).map (fun p=>(q.2++p.1,p.2))=R)
  (fun q=>[(0,.ptr 0 0),(3,.ptr 1 0)]) (fun q=>⟨DO s q.1::tB q.2,0,[]⟩) (fun q=>s.length+2 - q.1) (n+1,[]) ⟨by omega,by simp,?_⟩ ⟨rfl,rfl,trivial⟩ rfl (fun q φ0 hq=>?_)
 ·rw[<-hR];cases rt (s.drop (n+1))<;>rfl
 obtain⟨i,bs⟩:=q;obtain⟨hi,hbl,hq⟩:=hq;replace hi:i<=s.length+1:=hi;replace hbl:bs.length<=i:=hbl;replace hq:(rt (s.drop i)).map (fun p=>(bs++p.1,p.2))=R:=hq;have wr:∀(x:GObj) (c:UInt8) (M:FuncId->Bool) (K:GRes->GS->Prop) (ds:List GDef),M 330=false->K (.val (.o .nilIface)) ⟨x::tB (bs++[c]),0,ds⟩->
   iO Tryz.prog M (.fn 330) [.ptr 1 0,.i .u8 c.toNat] ⟨x::tB bs,0,ds⟩ K:=fun x c M K ds hM hk=>by
  have e2:tB (bs++[c])=[gX 1 2 (bs++[c]),mF (bs++[c]).length]:=aD (by simp);rw[e2] at hk;by_cases hb:bs=[]
  ·subst hb;exact a0a hM hk
  ·rw[show tB bs=[gX 1 2 bs,mF bs.length] from aD hb];exact a2C (by omega) hM hk
 conv=>whnf
 refine rX (q:=0) (xF s i (by unfold bB;omega)) (lU (l:=DO s i::tB bs) rfl ?_);conv=>whnf
 have hdrop:i<s.length->s.drop i=s.getD i 0::s.drop (i+1):=fun h=>by
  rw[aT h,aO,gL h];rfl
 refine aE (fun h34=>?_) (fun h34=>?_)<;>conv=>whnf
 ·
  replace h34:=mO (d:=34) h34;refine aZ (by kernel_rfl) ?_;conv=>whnf
  refine aE (fun hge=>?_) (fun hge=>?_)<;>conv=>whnf
  ·refine bZ ?_;have:s.drop i=[]:=gA (by simp at hge;omega);rw[this] at hq;rw[<-hq];rfl
  have hlt:i<s.length:=by simp at hge;omega
  refine rX (q:=0) (xF s i (by unfold bB;omega)) (lU (l:=DO s i::tB bs) rfl ?_);conv=>whnf
  have hd:=hdrop hlt;refine aE (fun h92=>?_) (fun h92=>?_)<;>conv=>whnf
  ·replace h92:=mO (d:=92) h92;refine rX (q:=0) (xF s i (by unfold bB;omega)) (lU (l:=DO s i::tB bs) rfl ?_);(conv=>whnf);refine wr _ _ _ _ _ rfl ?_;(conv=>whnf);refine⟨[.i .i64 (i+1:Nat)],⟨?_,rL _,rfl,bL rfl⟩,mZ (lU (l:=DO s (i+1)::tB (bs++[s.getD i 0])) rfl ?_)⟩
   ·exact kF (by omega)
   (conv=>whnf);refine⟨s.length+2 - (i+1),(by show _<s.length+2 - i;omega),(i+1,bs++[s.getD i 0]),⟨by show _<=_;omega,by show(_:List UInt8).length<=_;simp;omega,?_⟩,rfl,⟨rfl,rfl,trivial⟩,rfl⟩;rw[hd,a1a h34 h92] at hq;rw[<-hq];simp[Option.map_map,cQ]
  replace h92:=lN (d:=92) h92;refine⟨[.i .i64 (i+1:Nat)],⟨?_,rL _,rfl,bL rfl⟩,mZ (lU (l:=DO s (i+1)::tB bs) rfl ?_)⟩
  ·exact kF (by omega)
  conv=>whnf
  refine rX (q:=0) (xF s (i+1) (by unfold bB;omega)) (lU (l:=DO s (i+1)::tB bs) rfl ?_);conv=>whnf
  refine aE (fun h120=>?_) (fun h120=>?_)<;>conv=>whnf
  ·replace h120:=mO (d:=120) h120;refine rX (q:=0) (xF s (i+1) (by unfold bB;omega)) (lU (l:=DO s (i+1)::tB bs) rfl ?_);(conv=>whnf);refine wr _ _ _ _ _ rfl ?_;(conv=>whnf);refine⟨[.i .i64 (i+1+1:Nat)],⟨?_,rL _,rfl,bL rfl⟩,mZ (lU (l:=DO s (i+1+1)::tB (bs++[s.getD (i+1) 0])) rfl ?_)⟩
   ·exact kF (by omega)
   (conv=>whnf);refine⟨s.length+2 - (i+1+1),(by show _<s.length+2 - i;omega),(i+1+1,bs++[s.getD (i+1) 0]),⟨by show _<=_;omega,by show(_:List UInt8).length<=_;simp;omega,?_⟩,rfl,⟨rfl,rfl,trivial⟩,rfl⟩;rw[hd,h92] at hq;by_cases hl2:i+1<s.length
   ·have hd2:s.drop (i+1)=s.getD (i+1) 0::s.drop (i+1+1):=by
     rw[aT hl2,aO,gL hl2];rfl
    rw[hd2,WH h120] at hq;rw[<-hq];simp[Option.map_map,cQ]
   ·have e1:s.drop (i+1)=[]:=gA (by omega);have e2:s.drop (i+1+1)=[]:=gA (by omega);rw[e1] at hq;show Option.map _ (rt (s.drop (i+1+1)))=R;rw[e2,<-hq];rfl
  replace h120:=lN (d:=120) h120;have hl2:i+1<s.length:=by
   rcases eO (i+1) s.length with h|h
   ·exact h
   ·rw[aO,b9 h] at h120;simp at h120
  have hd2:s.drop (i+1)=120::s.drop (i+1+1):=by
   rw[aT hl2,<-h120,aO,gL hl2];rfl
  rw[hd,h92,hd2] at hq;refine aZ (by kernel_rfl) ?_;conv=>whnf
  refine aE (fun hge2=>?_) (fun hge2=>?_)<;>conv=>whnf
  ·refine bZ ?_;have hl3:(s.drop (i+1+1)).length<=1:=by
    rw[bV (by omega) (by omega)] at hge2;simp at hge2⊢;omega
   rw[<-hq];rcases hr:s.drop (i+1+1) with _|⟨a,_|⟨b,r⟩⟩
   ·rfl
   ·rfl
   ·rw[hr] at hl3;simp at hl3
  have hl4:i+3<s.length:=by
   rw[bV (by omega) (by omega)] at hge2;simp at hge2;omega
  obtain⟨a,b,hab⟩:∃a b,s.drop (i+1+1)=a::b::s.drop (i+4):=
   ⟨s[i+2],s[i+3],by rw[aT (by omega),aT (by omega)]⟩
  rw[hab,a1Z] at hq;refine aZ (by kernel_rfl) ?_;conv=>whnf
  have w1:IntKind.i64.wrap (((i+1:Nat):Int)+1)=((i+2:Nat):Int):=bV (by omega) (by omega);have w3:IntKind.i64.wrap (((i+1:Nat):Int)+3)=((i+4:Nat):Int):=bV (by omega) (by omega);refine⟨by rw[w1];omega,?_⟩;conv=>whnf
  refine⟨by rw[w3];omega,?_⟩;conv=>whnf
  refine⟨⟨by rw[w1,w3];omega,by rw[w3];omega⟩,[a,b],?_,?_⟩
  ·rw[w1,w3,aA,aA,hab,show i+4 - (i+2)=2 by omega];rfl
  conv=>whnf
  cases hx:AM a b with
  |none=>
   have hPU:SC Tryz.prog 359 [.s [a,b],.i .i64 16,.i .i64 8] [] (.val (.tup [.i .u64 0,.ifc 317 .any])) []:=by
    have:=yO a b;rw[hx] at this;exact this
   rw[hx] at hq;refine lM hPU ?_;(conv=>whnf);exact bZ (by rw[<-hq];rfl)
  |some v=>
   have hPU:SC Tryz.prog 359 [.s [a,b],.i .i64 16,.i .i64 8] [] (.val (.tup [.i .u64 v,.o .nilIface])) []:=by
    have:=yO a b;rw[hx] at this;exact this
   rw[hx] at hq;refine lM hPU ?_;(conv=>whnf);have hv:IntKind.u8.wrap (v:Int)=((UInt8.ofNat v).toNat:Int):=by
    rw[u8w];simp
   rw[hv];refine wr _ _ _ _ _ rfl ?_;(conv=>whnf);refine⟨[.i .i64 (i+3:Nat)],⟨?_,rL _,rfl,bL rfl⟩,mZ (lU (l:=DO s (i+3)::tB (bs++[UInt8.ofNat v])) rfl ?_)⟩
   ·exact UY 2 (by omega)
   (conv=>whnf);refine⟨[.i .i64 (i+4:Nat)],⟨?_,rL _,rfl,bL rfl⟩,mZ (lU (l:=DO s (i+4)::tB (bs++[UInt8.ofNat v])) rfl ?_)⟩
   ·exact kF (by omega)
   (conv=>whnf);refine⟨s.length+2 - (i+4),(by show _<s.length+2 - i;omega),(i+4,bs++[UInt8.ofNat v]),⟨by show _<=_;omega,by show(_:List UInt8).length<=_;simp;omega,?_⟩,rfl,⟨rfl,rfl,trivial⟩,rfl⟩;rw[<-hq];simp[Option.map_map,cQ]
 ·replace h34:=lN (d:=34) h34;have hlt:i<s.length:=by
   rcases eO i s.length with h|h
   ·exact h
   ·rw[aO,b9 h] at h34;simp at h34
  rw[hdrop hlt,h34,WI] at hq;refine⟨[.i .i64 (i+1:Nat)],⟨kF (by omega),rL _,rfl,bL rfl⟩,mZ (lU (l:=DO s (i+1)::tB bs) rfl ?_)⟩;conv=>whnf
  have e:s.length - (s.drop (i+1)).length=i+1:=by simp;omega
  have hres:Option.map (fun p:List UInt8×List UInt8=>(GV.s p.1,DO s (s.length - p.2.length))) R=some (.s bs,DO s (i+1)):=by
   rw[<-hq];show some (GV.s (bs++[]),DO s (s.length - (s.drop (i+1)).length))=_;rw[e,gC]
  by_cases hb:bs=[]
  ·subst hb;refine YM rfl ?_;(conv=>whnf);exact fY hres rfl (.refl _) (fun _=>rfl) (.s _)
  ·obtain⟨c,t,rfl⟩:=cU hb;have e3:tB (c::t)=[gX 1 2 (c::t),mF (c::t).length]:=aD hb;rw[e3];refine a0b (by simp at hbl;omega) rfl ?_;(conv=>whnf);exact fY hres rfl (.refl _) (fun _=>rfl) (.s _)
