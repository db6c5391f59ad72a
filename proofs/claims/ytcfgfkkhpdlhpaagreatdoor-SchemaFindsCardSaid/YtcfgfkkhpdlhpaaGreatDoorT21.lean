/-
  A part of the proof of SchemaFinds.
-/
import Derived.Test.YtcfgfkkhpdlhpaaGreatDoorT20
import Derived.Laws.Rows
set_option linter.all false
set_option maxRecDepth 100000
namespace Go.Proofs.YtcfgfkkhpdlhpaaGreatDoor
open Go.RowKit
def wT (i:Nat) (c:UInt8):Prop:=(97<=c.toNat/\c.toNat<=122)∨(i≠0/\(c.toNat=95∨(48<=c.toNat/\c.toNat<=57)))
theorem wI (c:UInt8):d9 c=true↔(97<=c.toNat/\c.toNat<=122)∨(c.toNat=95∨(48<=c.toNat/\c.toNat<=57)):=by
 simp[d9,mB,cR];omega
theorem CR (c:UInt8):mB c=true↔(97<=c.toNat/\c.toNat<=122):=by simp[mB]
theorem MT {s:List UInt8} (h1:1<=s.length) (h2:s.length<=16):fV s=true↔∀i c,s[i]?=some c->wT i c:=by
 cases s with
 |nil=>simp at h1
 |cons a t=>
  simp only[fV,aH,aL,aS];constructor
  ·rintro⟨⟨_,h3⟩,h4⟩ i c hc;have h5:=(wI c).1 (h4 c (aK hc));have h6:=(CR a).1 h3;unfold wT;cases i with
   |zero=>simp at hc;subst hc;exact .inl h6
   |succ i=>rcases h5 with h5|h5;exact .inl h5;exact .inr ⟨by omega,h5⟩
  ·intro h;refine⟨⟨h2,(CR a).2 ?_⟩,fun c hc=>(wI c).2 ?_⟩
   ·rcases h 0 a rfl with h3|⟨h3,_⟩
    ·exact h3
    ·exact absurd rfl h3
   ·obtain⟨i,hi⟩:=List.mem_iff_getElem?.1 hc;rcases h i c hi with h3|⟨_,h3⟩
    ·exact .inl h3
    ·exact .inr h3
theorem BF [MaxL] (s:List UInt8):SC Tryz.prog 125 [.s s] [] (.val (.b (fV s))) []:=by
 refine cZ Tryz.func125 rfl ?_;conv=>whnf
 have short:¬(1<=s.length/\s.length<=16)->fV s=false:=fun h=>by
  cases s with
  |nil=>rfl
  |cons a t=>simp[fV] at h⊢;omega
 refine aF (fun h1=>?_) (fun h1=>?_)<;>conv=>whnf
 ·have h1':s.length<1:=by have:=aA h1;omega
  exact d7 (short (by omega)).symm
 refine aF (fun h2=>?_) (fun h2=>?_)<;>conv=>whnf
 ·have h2':16<s.length:=by have:=aA h2;omega
  exact d7 (short (by omega)).symm
 have h1':1<=s.length:=by have:=aB h1;omega
 have h2':s.length<=16:=by have:=aB h2;omega
 refine dG (fun i:Nat=>i<=s.length/\∀j c,j<i->s[j]?=some c->wT j c) (fun i=>[(0,.s s),(3,.i .i64 (i:Nat))]) (fun _=>⟨[],0,[]⟩) (fun i=>s.length - i) 0 ⟨zL _,fun j c h=>absurd h (cM j)⟩ ⟨rfl,rfl,trivial⟩ rfl (fun i φ0 hi=>?_);obtain⟨hi,hg⟩:=hi;conv=>whnf
 refine aF (fun hlt=>?_) (fun hlt=>?_)<;>conv=>whnf
 ·have hlt':i<s.length:=by have:=aA hlt;omega
  have hgi:s[i]?=some (s.getD i 0):=by rw[aO,gL hlt'];rfl
  generalize s.getD i 0=c at*;have hgi':s[((i:Nat):Int).toNat]?=some c:=by simpa using hgi
  have bad:¬wT i c->∀σ,Owes [] (.val (.b (fV s))) [] (.val (.b false)) σ:=fun hb σ=>by
   refine d7 ?_;rw[eq_comm,<-Bool.not_eq_true,MT h1' h2'];exact fun h=>hb (h i c hgi)
  have nxt:wT i c->i+1<=s.length/\∀j c,j<i+1->s[j]?=some c->wT j c:=fun h=>⟨hlt',fun j c' hj hc'=>by
   by_cases hji:j=i
   ·subst hji;rw[hgi] at hc';cases hc';exact h
   ·exact hg j c' (by omega) hc'⟩
  repeat' first
   |(refine aF (fun _=>?_) (fun _=>?_)<;>conv=>whnf)
   |(refine GNeed.mk (cN _) ⟨c,hgi',?_⟩;conv=>whnf)
  all_goals first
   |(refine bad ?_ _;unfold wT;simp only[aL,bM,dE,iG,ne_eq,bne_iff_ne,bne_eq_false_iff_eq,dK,Bool.not_eq_false'] at*;omega)
   |(refine eQ (i+1) (nxt ?_) (by omega) ⟨rfl,b8 (by omega),trivial⟩ rfl;unfold wT;simp only[aL,bM,dE,iG,ne_eq,bne_iff_ne,bne_eq_false_iff_eq,dK,Bool.not_eq_false'] at*;omega)
 ·have hie:i=s.length:=by have:=aB hlt;omega
  refine d7 ?_;rw[eq_comm,MT h1' h2'];exact fun j c hc=>hg j c (by have:=(List.getElem?_eq_some_iff.1 hc).1;omega) hc
theorem JM [MaxL] (v:Val):SC Tryz.prog 212 [v.gv] [] (.val (.b v.ok)) []:=by
 obtain⟨k,n,s⟩:=v;refine cZ Tryz.func212 rfl ?_;conv=>whnf
 repeat' (refine aF (fun _=>?_) (fun _=>?_)<;>conv=>whnf)
 all_goals
  refine d7 ?_;simp only[aL,bM,dE,iG,ne_eq] at*;rw[eZ];simp only[Val.ok];simp;try grind
theorem a3S (n:Int):IntKind.i64.wrap n=(n+9223372036854775808)%18446744073709551616 - 9223372036854775808:=by
 unfold IntKind.wrap;simp[IntKind.signed,IntKind.bits];omega
def HD (c:UInt8):Int:=if 48<=c.toNat/\c.toNat<=57 then(c.toNat:Int) - 48 else if 97<=c.toNat/\c.toNat<=102 then(c.toNat:Int) - 87 else -1
theorem zX [MaxL] (c:UInt8):SC Tryz.prog 304 [.i .u8 c.toNat] [] (.val (.i .i64 (HD c))) []:=by
 have hc:=cJ c;refine cZ Tryz.func304 rfl ?_;conv=>whnf
 repeat' (refine aF (fun _=>?_) (fun _=>?_)<;>conv=>whnf)
 all_goals
  refine bI ?_;simp only[aL,bM] at*;unfold HD
  (repeat' split)<;>first|(exfalso;omega)|rfl|(simp only[u8w,a3S];omega)
end Go.Proofs.YtcfgfkkhpdlhpaaGreatDoor
namespace Go.Proofs.YtcfgfkkhpdlhpaaGreatDoor
open Go.RowKit Go.Sort
theorem XV [MaxL] {C:Cx} {w:World} (g:Nat) (x:GV) (t:TypeId) (hr:Rel C ⟨[],0,[]⟩ w w) (ht:Globals.tab g=some [.ifc t x]):∃p,w.cell? ⟨g,0,none⟩=some (.iface t p):=by
 obtain⟨u,hfx,hvr⟩:=hr.gl g _ 0 _ ht rfl;have:=hvr _ (fun _ _ _ h=>h);cases this;exact⟨_,hr.fxc _ _ _ hfx⟩
theorem QB [MaxL] (fn s:List UInt8) (base bits:Int) (hs:s.length<=281474976710656):SC Tryz.prog 281 [.s fn,.s s,.i .i64 base,.i .i64 bits,.ifc 314 (.i .i64 2)] [] (.val (.ifc 317 .any)) []:=by
 refine SC.of_calls fun C w vs hr hv=>?_;obtain⟨v1,vs1,e,h1,hv⟩:=hv.cons_inv;obtain⟨v2,vs2,rfl,h2,hv⟩:=hv.cons_inv;obtain⟨v3,vs3,rfl,h3,hv⟩:=hv.cons_inv;obtain⟨v4,vs4,rfl,h4,hv⟩:=hv.cons_inv;obtain⟨v5,vs5,rfl,h5,hv⟩:=hv.cons_inv;have:vs5=[]:=aN (by simpa using hv.1);subst this;obtain rfl:vs= #[v1,v2,v3,v4,v5]:=by rw[<-fK (xs:=vs),e]
 cases h1;cases h2;cases h3;cases h4;cases h5 with
 |ifc h5=>
 cases h5;obtain⟨p,hp⟩:=XV 4 _ _ hr rfl;refine(Tryz.strconv_toError_syntax ⟨fn.toArray⟩ ⟨s.toArray⟩ base bits _ w (by simpa[ByteArray.size] using hs) hp (.inr ⟨_,_,rfl⟩)).mono ?_;rintro e w' ⟨N,he,_,_,hb⟩;exact⟨_,he,.below hb,.ifc (.any _)⟩
theorem yJ [MaxL] (a b:UInt8):SC Tryz.prog 359 [.s [a,b],.i .i64 16,.i .i64 8] [] (.val (match AC a b with|some n=>.tup [.i .u64 n,.o .nilIface]|none=>.tup [.i .u64 0,.ifc 317 .any])) []:=by
 have hI:=LH a b;refine cZ Tryz.func359 rfl ?_;conv=>whnf
 cases h:AC a b with
 |some n=>
  rw[h] at hI;refine bG hI (wR _) rfl (fun _=>rfl) (fun _=>rfl) ?_;conv=>whnf
  exact oJ rfl (fun _=>rfl)
 |none=>
  rw[h] at hI;refine bG hI (wR _) rfl (fun _=>rfl) (fun _=>rfl) ?_;conv=>whnf
  refine bG (QB _ [a,b] 16 8 (by simp)) (wR _) rfl (fun _=>rfl) (fun _=>rfl) ?_;conv=>whnf
  exact oJ rfl (fun _=>rfl)
theorem LW {w:World} {b:Nat} {c:Array Value} {t:TypeId} {fr:Nat×Nat} (h:w.heap[b]?=some (.cells c t fr)):w.shape? b=some (t,c.size):=by
 unfold World.shape?;rw[h]
def AS:GObj:=.box 92 [.o (.pointer none),.sl .full []]
def OD (bs:List UInt8):List GObj:=[.box 92 [.ptr 0 0,.sl (.own 1) (bs.map fun b=>.i .u8 b.toNat)],.own bs.length 1 5]
theorem E0:Go.Proofs.Lays.n240 Tryz.prog Tryz.lays156_ren:={Tryz.lays156 with}
theorem VRs.arr1 [MaxL] {C:Cx} {g:GV} {vs:Array Value} (h:VRs C [g] vs.toList):∃v,vs= #[v]/\VR C g v:=by
 obtain⟨v,vs',e,h1,h2⟩:=h.cons_inv;have:vs'=[]:=aN (by simpa using h2.1);subst this;exact⟨v,by rw[<-fK (xs:=vs),e],h1⟩
theorem VRs.arr2 [MaxL] {C:Cx} {g g':GV} {vs:Array Value} (h:VRs C [g,g'] vs.toList):∃v v',vs= #[v,v']/\VR C g v/\VR C g' v':=by
 obtain⟨v,vs',e,h1,h2⟩:=h.cons_inv;obtain⟨v',vs',rfl,h3,h4⟩:=h2.cons_inv;have:vs'=[]:=aN (by simpa using h4.1);subst this;exact⟨v,v',by rw[<-fK (xs:=vs),e],h1,h3⟩
theorem VR.unit [MaxL] {C:Cx}:VR C (.tup []) (.tuple #[]):=.tup rfl (fun j g u h=>by simp at h)
theorem LG [MaxL]:SC Tryz.prog 132 [.ptr 0 0] [AS] (.val (.tup [])) [.box 92 [.ptr 0 0,.sl .full []]]:=by
 refine⟨rL _,fun C w vs hr hv=>?_,fun x hx=>by simp at hx;subst hx;simp⟩;obtain⟨v,rfl,hv1⟩:=hv.arr1;obtain⟨h0,b,cs,hb,ho,hcs⟩:=hr.obj 0 _ rfl;obtain⟨u,u',rfl,hu,hu'⟩:=(BoxV.exact hcs rfl).arr2;cases hv1 with
 |ptr hb'=>
 rw[hb] at hb';cases hb';cases hu;have hc0:w.cell? ⟨b,0,none⟩=some (.pointer none):=by simp[World.cell?,ho]
 refine(Any.Builder_copyCheck_fresh E0 Tryz.Builder_Extra_156.toX72 b w hc0 (LW ho) (by simp[World.frozen?,ho])).mono ?_;rintro e w' ⟨rfl,rfl⟩;refine⟨C,.refl C,Rel.setObj (r:=0) (b:=b) hr (by simp) hb _ ⟨h0,b,_,hb,heap_setCell_same w b 0 _ _ _ ho,?_⟩ rfl rfl rfl (by simp[World.setCell]) (fun k hk=>heap_setCell_other w _ k _ hk),_,rfl,.unit⟩;exact VRs.box (.cons (.ptr hb) (.cons hu' .nil))
theorem D8 [MaxL] (x:GV) (os:List GObj) (hn:∀y∈os,y≠ .held):SC Tryz.prog 132 [.ptr 0 0] (.box 92 [.ptr 0 0,x]::os) (.val (.tup [])) (.box 92 [.ptr 0 0,x]::os):=by
 refine⟨rL _,fun C w vs hr hv=>?_,fun y hy=>by
  rcases List.mem_cons.1 hy with rfl|hy
  ·simp
  ·exact hn y hy⟩
 obtain⟨v,rfl,hv1⟩:=hv.arr1;obtain⟨h0,b,cs,hb,ho,hcs⟩:=hr.obj 0 _ rfl;obtain⟨u,u',rfl,hu,hu'⟩:=(BoxV.exact hcs rfl).arr2;cases hv1 with
 |ptr hb'=>
 rw[hb] at hb';cases hb';cases hu with
 |ptr hb'=>
 rw[hb] at hb';cases hb';have hc0:w.cell? ⟨b,0,none⟩=some (.pointer (some ⟨b,0,none⟩)):=by simp[World.cell?,ho]
 refine(Any.Builder_copyCheck_used E0 Tryz.Builder_Extra_156.toX72 b w hc0).mono ?_;rintro e w' ⟨rfl,rfl⟩;exact⟨C,.refl C,hr,_,rfl,.unit⟩
def gA (bs:List UInt8):List GV:=bs.map fun b=>.i .u8 b.toNat
theorem a2H [MaxL] (bs:List UInt8) (f:Nat->Nat):GV.renL f (gA bs)=gA bs:=by rw[cQ];exact gT (fun _=>Cl.i _ _) bs f
theorem bC (bs:List UInt8):(gA bs).length=bs.length:=by simp[gA]
theorem jZ (bs:List UInt8):(gA bs).all (fun x=>x.cells.length==1)=true:=by
 rw[aS];intro x hx;obtain⟨b,_,rfl⟩:=List.mem_map.1 hx;rfl
theorem YF (bs:List UInt8):(gA bs).all (r4 1)=true:=by
 rw[aS];intro x hx;obtain⟨b,_,rfl⟩:=List.mem_map.1 hx;rfl
def hY (q p:Nat) (bs:List UInt8):GObj:=.box 92 [.ptr q 0,.sl (.own p) (gA bs)]
def mG (n:Nat):GObj:=.own n 1 5
theorem oB [MaxL] (f:Nat->Nat) (q p:Nat) (bs:List UInt8):(hY q p bs).ren f=hY (f q) (f p) bs:=by
 show GObj.box _ [.ptr (f q) 0,.sl (.own (f p)) (GV.renL f (gA bs))]=_;rw[a2H];rfl
theorem oT [MaxL] {q p:Nat} {bs:List UInt8} {objs:List GObj} (hn:q≠p) (hq:objs[q]?=some (hY q p bs)) (hp:objs[p]?=some (mG bs.length)):Lies [q,p] (OD bs) objs:=by
 refine Lies.two hn ?_ hp (by simp) (by simp);have:=oB (iT [q,p] objs.length) 0 1 bs;rw[show GObj.box 92 [.ptr 0 0,.sl (.own 1) (bs.map fun b=>.i .u8 b.toNat)]=hY 0 1 bs from rfl,this,hq];rfl
theorem DV [MaxL] {p:Nat} {s:List GObj} {r r':GRes} {bs:List UInt8} {σ:GS} (hs:s.length<=2) (hp:s.length=2->p=1) (hp0:0≠p) (h0:σ.objs[0]?=some (hY 0 p bs)) (h1:σ.objs[p]?=some (mG bs.length)) (hr:r'.ren (iT [0,p] σ.objs.length)=r') (hrr:WkRes r r'):Owes s r' (OD bs) r σ:=by
 refine⟨[0,p],oT hp0 h0 h1,fun i hi=>?_,by rw[hr];exact hrr⟩;rcases i with _|_|i
 ·rfl
 ·simp[hp (by omega)]
 ·omega
theorem AQ [MaxL] (c:UInt8):SC Tryz.prog 330 [.ptr 0 0,.i .u8 c.toNat] [AS] (.val (.o .nilIface)) (OD [c]):=by
 refine cH oY mixed Tryz.func330 rfl (bL rfl) (by simp[OD]) rfl ?_;conv=>whnf
 refine uC LG [0] (objs':=[.box 92 [.ptr 0 0,.sl .full []]]) (Lies.one' rfl (by simp[AS])) (wR _) rfl rfl rfl rfl ?_;conv=>whnf
 refine⟨⟨rfl,rfl,bL rfl⟩,gA [c],1,⟨rfl,rfl⟩,?_⟩;conv=>whnf
 refine⟨_,⟨rfl,zL _,rfl,bL rfl⟩,?_⟩;conv=>whnf
 exact DV (p:=2) (by simp) (by simp) (by decide) rfl rfl rfl (cY _)
theorem D9 [MaxL] (bs:List UInt8) (c:UInt8) (hl:bs.length<1000000000):SC Tryz.prog 330 [.ptr 0 0,.i .u8 c.toNat] (OD bs) (.val (.o .nilIface)) (OD (bs++[c])):=by
 refine cH oY mixed Tryz.func330 rfl (bL rfl) (by simp[OD]) rfl ?_;conv=>whnf
 refine uC (D8 (.sl (.own 1) (gA bs)) [mG bs.length] (by simp[mG])) [0,1] (objs':=[hY 0 1 bs,mG bs.length]) (oT (by decide) rfl rfl) (wR _) rfl rfl ?_ rfl ?_
 ·show[(hY 0 1 bs).ren (iT [0,1] 2),mG bs.length]=_;rw[oB];rfl
 conv=>whnf
 refine⟨⟨rfl,jZ bs,by show(gA bs).length+1<=4294967296;rw[bC];omega⟩,gA (bs++[c]),(bs++[c]).length,⟨by simp[gA];rfl,by show _=(gA bs).length+1;rw[bC];simp⟩,?_⟩;conv=>whnf
 refine⟨⟨zL _,by rw[bC],.inl ⟨rfl,rfl⟩⟩,?_⟩;conv=>whnf
 refine⟨_,⟨rfl,zL _,rfl,bL rfl⟩,?_⟩;conv=>whnf
 exact DV (p:=1) (by simp[OD]) (fun _=>rfl) (by decide) rfl rfl rfl (cY _)
theorem HR [MaxL] (bs l:List UInt8) (hl:bs.length+l.length<1000000000):SC Tryz.prog 57 [.ptr 0 0,.s l] (OD bs) (.val (.tup [.i .i64 l.length,.o .nilIface])) (OD (bs++l)):=by
 refine cH oY mixed Tryz.func57 rfl (bL rfl) (by simp[OD]) rfl ?_;conv=>whnf
 refine uC (D8 (.sl (.own 1) (gA bs)) [mG bs.length] (by simp[mG])) [0,1] (objs':=[hY 0 1 bs,mG bs.length]) (oT (by decide) rfl rfl) (wR _) rfl rfl ?_ rfl ?_
 ·show[(hY 0 1 bs).ren (iT [0,1] 2),mG bs.length]=_;rw[oB];rfl
 conv=>whnf
 refine aF (fun h=>?_) (fun h=>?_)<;>conv=>whnf
 ·have:l=[]:=by simpa using h
  subst this;refine⟨_,⟨rfl,zL _,rfl,bL rfl⟩,?_⟩;conv=>whnf
  rw[iV];exact DV (p:=1) (by simp[OD]) (fun _=>rfl) (by decide) rfl rfl rfl (cY _)
 ·refine⟨⟨YF l,jZ bs,by show(gA bs).length+(gA l).length<=4294967296;rw[bC,bC];omega⟩,gA (bs++l),(bs++l).length,⟨by simp[gA],by show _=(gA bs).length+(gA l).length;rw[bC,bC];simp⟩,?_⟩;conv=>whnf
  refine⟨⟨zL _,by rw[bC],.inl ⟨rfl,rfl⟩⟩,?_⟩;conv=>whnf
  refine⟨_,⟨rfl,zL _,rfl,bL rfl⟩,?_⟩;conv=>whnf
  exact DV (p:=1) (by simp[OD]) (fun _=>rfl) (by decide) rfl rfl rfl (cY _)
theorem a0u {α:Type} {x:Option α} {K:α->Prop} {a:α} (h:x=some a) (k:K a):tW x K:=by rw[h];exact k
theorem YG [MaxL] (l:List UInt8):(gA l).flatMap GV.cells=gA l:=by
 induction l with
 |nil=>rfl
 |cons c t ih=>show[GV.i .u8 c.toNat]++(gA t).flatMap GV.cells=_;rw[ih];rfl
theorem XP [MaxL] (c:UInt8) (t:List UInt8) (r:Nat):IS (.sl (.own r) (gA (c::t)))=some (.dat r (gA (c::t))):=by
 show(if(!(gA (c::t)).isEmpty&&(gA (c::t)).all fun x=>x.cells.length==1)=true then some (GV.dat r (List.flatMap GV.cells (gA (c::t)))) else none)=_;rw[jZ,YG];rfl
theorem C2 (l:List UInt8):wZ (gA l)=some l:=by
 induction l with
 |nil=>rfl
 |cons c t ih=>show(wZ (gA t)).map _=_;rw[ih];simp
theorem UT (l:List UInt8):(gA l).all S8=true:=by
 rw[aS];intro x hx;obtain⟨b,_,rfl⟩:=List.mem_map.1 hx;have:=cJ b;simp[S8];omega
theorem XJ [MaxL] {P:Program} {pt ty:TypeId} {r esz:Nat} {σ:GS} (l:List UInt8) (ho:σ.objs[r]?=some (.own l.length esz ty)) (hl:l≠[]) (hlo:σ.lo<=r) (hp:TP P pt=some ty) (hc:P.cellsOf ty=1) (hlim:l.length<=gG):
  CW P pt (.dat r (gA l)) (.i .i64 l.length) σ=some (.s l,gset σ r .dead):=by
 simp only[CW,ho,C2,bC,UT,hp,hc];rw[aG];simp[hlo,hlim];exact hl
theorem O5 [MaxL] (c:UInt8) (t:List UInt8) (hl:t.length<1000000000):SC Tryz.prog 61 [.ptr 0 0] (OD (c::t)) (.val (.s (c::t))) [hY 0 1 (c::t),.dead]:=by
 refine cH oY mixed Tryz.func61 rfl (bL rfl) (by simp[OD]) rfl ?_;conv=>whnf
 refine GDraw.wild _ _ _ rfl rfl rfl (by kernel_rfl) ?_;conv=>whnf
 refine a0u (a:=(.dat 1 (gA (c::t)),_)) (by show Option.map _ (IS (.sl (.own 1) (gA (c::t))))=_;rw[XP];rfl) ?_;conv=>whnf
 refine a0u (a:=(.s (c::t),⟨[hY 0 1 (c::t),.dead],0,[]⟩)) ?_ ?_
 ·show CW Tryz.prog _ (.dat 1 (gA (c::t))) (.i .i64 (gA (c::t)).length) ⟨[hY 0 1 (c::t),mG (c::t).length],0,[]⟩=_;rw[bC];exact XJ (c::t) rfl (by simp) (by simp) (by kernel_rfl) (by kernel_rfl) (by unfold gG;simp;omega)
 conv=>whnf
 refine⟨[0,1],Lies.two (by decide) ?_ rfl (by simp[hY]) (by simp),fun i hi=>?_,cY _⟩
 ·show some (hY 0 1 (c::t))=some ((hY 0 1 (c::t)).ren (iT [0,1] 2));rw[oB];rfl
 ·rcases i with _|_|i
  ·rfl
  ·rfl
  ·simp[OD] at hi;omega
end Go.Proofs.YtcfgfkkhpdlhpaaGreatDoor
namespace Go.Proofs.YtcfgfkkhpdlhpaaGreatDoor
open Go.RowKit
def rt:List UInt8->Option (List UInt8×List UInt8)
 |[]=>none
 |c::r=>if c=34 then some ([],r) else if c=92 then(match r with
   |[]=>none
   |e::r1=>if e=120 then(match r1 with
     |a::b::r2=>(match AC a b with
      |some n=>(rt r2).map fun p=>(UInt8.ofNat n::p.1,p.2)
      |none=>none)
     |_=>none)
    else(rt r1).map fun p=>(e::p.1,p.2))
  else(rt r).map fun p=>(c::p.1,p.2)
def UY:GV:=.ifc 357 (.agg [])
theorem SC.of_callsO [MaxL] {P:Program} {k:FuncId} {args:List GV} {s:List GObj} {r:GRes} (hh:∀x∈s,x≠ .held)
  (h:∀(C:Cx) (w:World) (vs:Array Value),Rel C ⟨s,0,[]⟩ w w->VRs C args vs.toList->Calls P k vs w fun e w'=>Base (fun _=>False) w w'/\ERel C r e):
  SC P k args s r s:=by
 refine⟨rL _,fun C w vs hr hv=>(h C w vs hr hv).mono fun e w' ⟨hb,hg⟩=>⟨C,.refl C,?_,hg⟩,hh⟩;refine⟨⟨hb.os,hb.tape,hb.output,hb.size,fun i hi _=>hb.block i hi (fun h=>h)⟩,fun b o v hx=>?_,fun r x hx=>ORel.keep hr (.refl C) rfl rfl hb.size (fun b hb'=>hb.block b (r5 hr hb') (fun h=>h)) (hr.obj r x hx),hr.dom,hr.new,hr.inj,hr.sepB,hr.sepO,hr.fxn,hr.gl,hr.gs⟩;have h1:=hr.fxc b o v hx;have hlt:b<w.heap.size:=block_lt_of_cell h1;unfold World.cell? at h1⊢;rw[hb.block b hlt (fun h=>h)];exact h1
theorem UR [MaxL]:SC Tryz.prog 61 [.ptr 0 0] [AS] (.val (.s [])) [AS]:=by
 refine SC.of_callsO (by simp[AS]) fun C w vs hr hv=>?_;obtain⟨v,rfl,hv1⟩:=hv.arr1;obtain⟨h0,b,cs,hb,ho,hcs⟩:=hr.obj 0 _ rfl;obtain⟨u,u',rfl,hu,hu'⟩:=(BoxV.exact hcs rfl).arr2;cases hv1 with
 |ptr hb'=>
 rw[hb] at hb';cases hb';cases hu' with
 |sl esz b' off us hn hc ha hw hx hv ht=>
 obtain⟨hc0,ha0⟩:=ht;obtain rfl:=ha0 rfl;simp at hn hc0;subst hn;subst hc0;refine(Any.Builder_String_nil Tryz.lays169 Tryz.Builder_Extra_169 w.heap.size b u w ho).mono ?_;rintro e w' ⟨rfl,hb⟩;exact⟨.below hb,_,rfl,.s []⟩
theorem a0M [MaxL] {M:FuncId->Bool} {K:GRes->GS->Prop} {x:GObj} {c:UInt8} {ds:List GDef} (hM:M 330=false) (hk:K (.val (.o .nilIface)) ⟨[x,hY 1 2 [c],mG 1],0,ds⟩):
  iU Tryz.prog M (.fn 330) [.ptr 1 0,.i .u8 c.toNat] ⟨[x,AS],0,ds⟩ K:=by
 refine uC (AQ c) [1] (objs':=[x,hY 1 2 [c],mG 1]) (Lies.one' rfl (by simp[AS])) (wR _) rfl hM ?_ rfl hk;rfl
theorem a27 [MaxL] {M:FuncId->Bool} {K:GRes->GS->Prop} {x:GObj} {bs:List UInt8} {c:UInt8} {ds:List GDef} (hl:bs.length<1000000000) (hM:M 330=false) (hk:K (.val (.o .nilIface)) ⟨[x,hY 1 2 (bs++[c]),mG (bs++[c]).length],0,ds⟩):
  iU Tryz.prog M (.fn 330) [.ptr 1 0,.i .u8 c.toNat] ⟨[x,hY 1 2 bs,mG bs.length],0,ds⟩ K:=by
 refine uC (D9 bs c hl) [1,2] (objs':=[x,hY 1 2 (bs++[c]),mG (bs++[c]).length]) (oT (by decide) rfl rfl) (wR _) rfl hM ?_ rfl hk;show[x,(hY 0 1 (bs++[c])).ren (iT [1,2] 3),mG (bs++[c]).length]=_;rw[oB];rfl
theorem a0N [MaxL] {M:FuncId->Bool} {K:GRes->GS->Prop} {x:GObj} {c:UInt8} {t:List UInt8} {ds:List GDef} (hl:t.length<1000000000) (hM:M 61=false) (hk:K (.val (.s (c::t))) ⟨[x,hY 1 2 (c::t),.dead],0,ds⟩):
  iU Tryz.prog M (.fn 61) [.ptr 1 0] ⟨[x,hY 1 2 (c::t),mG (c::t).length],0,ds⟩ K:=by
 refine uC (O5 c t hl) [1,2] (objs':=[x,hY 1 2 (c::t),.dead]) (oT (by decide) rfl rfl) (wR _) rfl hM ?_ rfl hk;show[x,(hY 0 1 (c::t)).ren (iT [1,2] 3),GObj.dead]=_;rw[oB];rfl
theorem Y4 [MaxL] {M:FuncId->Bool} {K:GRes->GS->Prop} {x:GObj} {ds:List GDef} (hM:M 61=false) (hk:K (.val (.s [])) ⟨[x,AS],0,ds⟩):
  iU Tryz.prog M (.fn 61) [.ptr 1 0] ⟨[x,AS],0,ds⟩ K:=by
 refine uC UR [1] (objs':=[x,AS]) (Lies.one' rfl (by simp[AS])) (wR _) rfl hM ?_ rfl hk;rfl
theorem LM [MaxL] {x y z:GObj} {rest:List GObj} {bs':List UInt8} {o:GObj} (ho:∀f,o.ren f=o):
  iI [1,2] [hY 0 1 bs',o] (x::y::z::rest)=x::hY 1 2 bs'::o::rest:=by
 rw[MD (by decide) (by simp) (by simp),oB,ho];rfl
theorem a0K [MaxL] {M:FuncId->Bool} {K:GRes->GS->Prop} {x:GObj} {rest:List GObj} {bs l:List UInt8} {ds:List GDef} (hl:bs.length+l.length<1000000000) (hM:M 57=false) (hk:K (.val (.tup [.i .i64 l.length,.o .nilIface])) ⟨x::hY 1 2 (bs++l)::mG (bs++l).length::rest,0,ds⟩):
  iU Tryz.prog M (.fn 57) [.ptr 1 0,.s l] ⟨x::hY 1 2 bs::mG bs.length::rest,0,ds⟩ K:=
 uC (HR bs l hl) [1,2] (oT (by decide) rfl rfl) (wR _) rfl hM (LM fun _=>rfl) rfl hk
theorem a0L [MaxL] {M:FuncId->Bool} {K:GRes->GS->Prop} {x:GObj} {rest:List GObj} {bs:List UInt8} {c:UInt8} {ds:List GDef} (hl:bs.length<1000000000) (hM:M 330=false) (hk:K (.val (.o .nilIface)) ⟨x::hY 1 2 (bs++[c])::mG (bs++[c]).length::rest,0,ds⟩):
  iU Tryz.prog M (.fn 330) [.ptr 1 0,.i .u8 c.toNat] ⟨x::hY 1 2 bs::mG bs.length::rest,0,ds⟩ K:=
 uC (D9 bs c hl) [1,2] (oT (by decide) rfl rfl) (wR _) rfl hM (LM fun _=>rfl) rfl hk
theorem Y3 [MaxL] {M:FuncId->Bool} {K:GRes->GS->Prop} {x:GObj} {rest:List GObj} {c:UInt8} {t:List UInt8} {ds:List GDef} (hl:t.length<1000000000) (hM:M 61=false) (hk:K (.val (.s (c::t))) ⟨x::hY 1 2 (c::t)::.dead::rest,0,ds⟩):
  iU Tryz.prog M (.fn 61) [.ptr 1 0] ⟨x::hY 1 2 (c::t)::mG (c::t).length::rest,0,ds⟩ K:=
 uC (O5 c t hl) [1,2] (oT (by decide) rfl rfl) (wR _) rfl hM (LM fun _=>rfl) rfl hk
theorem nD {c d:UInt8} (h:((c.toNat:Int) !=(d.toNat:Int))=true):c≠d:=fun e=>by simp[e] at h
theorem mD {c d:UInt8} (h:((c.toNat:Int) !=(d.toNat:Int))=false):c=d:=by
 simp at h;exact UInt8.toNat_inj.1 (by omega)
theorem W6 (r:List UInt8):rt (34::r)=some ([],r):=by
 conv=>lhs;unfold rt
 rfl
theorem a1T {c:UInt8} (h:c≠34) (h':c≠92) (r:List UInt8):rt (c::r)=(rt r).map fun p=>(c::p.1,p.2):=by
 conv=>lhs;unfold rt
 rw[aE h,aE h']
theorem W5 {e:UInt8} (h:e≠120) (r:List UInt8):rt (92::e::r)=(rt r).map fun p=>(e::p.1,p.2):=by
 conv=>lhs;unfold rt
 rw[aE (by decide),aG rfl];show(if e=120 then _ else _)=_;rw[aE h]
theorem a1S (a b:UInt8) (r:List UInt8):rt (92::120::a::b::r)=match AC a b with
  |some n=>(rt r).map fun p=>(UInt8.ofNat n::p.1,p.2)
  |none=>none:=by
 conv=>lhs;unfold rt
 rfl
def tB (bs:List UInt8):List GObj:=if bs=[] then[AS] else[hY 1 2 bs,mG bs.length]
theorem UH [MaxL] {i:Nat} (k:Nat) (h:i+k<9223372036854775807):[GV.i .i64 ((i+k:Nat):Int)]=(GV.i .i64 (IntKind.i64.wrap ((i:Int)+(k:Int)))).cells:=by
 rw[cD (by omega) (by omega)];rfl
theorem a2A [MaxL] (s:List UInt8) (n:Nat) (hn:n<s.length) (hs:s.length<1000000):
  Ct Tryz.prog 358 [.ptr 0 0] (DC s n) UY ((rt (s.drop (n+1))).map fun p=>(.s p.1,DC s (s.length - p.2.length))):=by
 refine gS oY mixed Tryz.func358 rfl (bL rfl) (fun _=>rfl) ?hh ?_
 case hh=>cases rt (s.drop (n+1))<;>rfl
 conv=>whnf
 refine⟨[.i .i64 (n+1:Nat)],⟨kH (by omega),rL _,rfl,bL rfl⟩,?_⟩;conv=>whnf
 generalize hR:rt (s.drop (n+1))=R;refine dG (fun q:Nat×List UInt8=>q.1<=s.length+1/\q.2.length<=q.1/\(rt (s.drop q.1)).map (fun p=>(q.2++p.1,p.2))=R)
  (fun q=>[(0,.ptr 0 0),(3,.ptr 1 0)]) (fun q=>⟨DC s q.1::tB q.2,0,[]⟩) (fun q=>s.length+2 - q.1) (n+1,[]) ⟨by omega,by simp,?_⟩ ⟨rfl,rfl,trivial⟩ rfl (fun q φ0 hq=>?_)
 ·rw[<-hR];cases rt (s.drop (n+1))<;>rfl
 obtain⟨i,bs⟩:=q;obtain⟨hi,hbl,hq⟩:=hq;replace hi:i<=s.length+1:=hi;replace hbl:bs.length<=i:=hbl;replace hq:(rt (s.drop i)).map (fun p=>(bs++p.1,p.2))=R:=hq;have wr:∀(x:GObj) (c:UInt8) (M:FuncId->Bool) (K:GRes->GS->Prop) (ds:List GDef),M 330=false->K (.val (.o .nilIface)) ⟨x::tB (bs++[c]),0,ds⟩->
   iU Tryz.prog M (.fn 330) [.ptr 1 0,.i .u8 c.toNat] ⟨x::tB bs,0,ds⟩ K:=fun x c M K ds hM hk=>by
  have e2:tB (bs++[c])=[hY 1 2 (bs++[c]),mG (bs++[c]).length]:=aE (by simp);rw[e2] at hk;by_cases hb:bs=[]
  ·subst hb;exact a0M hM hk
  ·rw[show tB bs=[hY 1 2 bs,mG bs.length] from aE hb];exact a27 (by omega) hM hk
 conv=>whnf
 refine rQ (q:=0) (xB s i (by unfold bH;omega)) (lY (l:=DC s i::tB bs) rfl ?_);conv=>whnf
 have hdrop:i<s.length->s.drop i=s.getD i 0::s.drop (i+1):=fun h=>by
  rw[aX h,aO,gL h];rfl
 refine aF (fun h34=>?_) (fun h34=>?_)<;>conv=>whnf
 ·
  replace h34:=nD (d:=34) h34;refine b9 (by kernel_rfl) ?_;conv=>whnf
  refine aF (fun hge=>?_) (fun hge=>?_)<;>conv=>whnf
  ·refine bW ?_;have:s.drop i=[]:=fH (by simp at hge;omega);rw[this] at hq;rw[<-hq];rfl
  have hlt:i<s.length:=by simp at hge;omega
  refine rQ (q:=0) (xB s i (by unfold bH;omega)) (lY (l:=DC s i::tB bs) rfl ?_);conv=>whnf
  have hd:=hdrop hlt;refine aF (fun h92=>?_) (fun h92=>?_)<;>conv=>whnf
  ·replace h92:=nD (d:=92) h92;refine rQ (q:=0) (xB s i (by unfold bH;omega)) (lY (l:=DC s i::tB bs) rfl ?_);(conv=>whnf);refine wr _ _ _ _ _ rfl ?_;(conv=>whnf);refine⟨[.i .i64 (i+1:Nat)],⟨?_,rL _,rfl,bL rfl⟩,mZ (lY (l:=DC s (i+1)::tB (bs++[s.getD i 0])) rfl ?_)⟩
   ·exact kH (by omega)
   (conv=>whnf);refine⟨s.length+2 - (i+1),(by show _<s.length+2 - i;omega),(i+1,bs++[s.getD i 0]),⟨by show _<=_;omega,by show(_:List UInt8).length<=_;simp;omega,?_⟩,rfl,⟨rfl,rfl,trivial⟩,rfl⟩;rw[hd,a1T h34 h92] at hq;rw[<-hq];simp[Option.map_map,cU]
  replace h92:=mD (d:=92) h92;refine⟨[.i .i64 (i+1:Nat)],⟨?_,rL _,rfl,bL rfl⟩,mZ (lY (l:=DC s (i+1)::tB bs) rfl ?_)⟩
  ·exact kH (by omega)
  conv=>whnf
  refine rQ (q:=0) (xB s (i+1) (by unfold bH;omega)) (lY (l:=DC s (i+1)::tB bs) rfl ?_);conv=>whnf
  refine aF (fun h120=>?_) (fun h120=>?_)<;>conv=>whnf
  ·replace h120:=nD (d:=120) h120;refine rQ (q:=0) (xB s (i+1) (by unfold bH;omega)) (lY (l:=DC s (i+1)::tB bs) rfl ?_);(conv=>whnf);refine wr _ _ _ _ _ rfl ?_;(conv=>whnf);refine⟨[.i .i64 (i+1+1:Nat)],⟨?_,rL _,rfl,bL rfl⟩,mZ (lY (l:=DC s (i+1+1)::tB (bs++[s.getD (i+1) 0])) rfl ?_)⟩
   ·exact kH (by omega)
   (conv=>whnf);refine⟨s.length+2 - (i+1+1),(by show _<s.length+2 - i;omega),(i+1+1,bs++[s.getD (i+1) 0]),⟨by show _<=_;omega,by show(_:List UInt8).length<=_;simp;omega,?_⟩,rfl,⟨rfl,rfl,trivial⟩,rfl⟩;rw[hd,h92] at hq;by_cases hl2:i+1<s.length
   ·have hd2:s.drop (i+1)=s.getD (i+1) 0::s.drop (i+1+1):=by
     rw[aX hl2,aO,gL hl2];rfl
    rw[hd2,W5 h120] at hq;rw[<-hq];simp[Option.map_map,cU]
   ·have e1:s.drop (i+1)=[]:=fH (by omega);have e2:s.drop (i+1+1)=[]:=fH (by omega);rw[e1] at hq;show Option.map _ (rt (s.drop (i+1+1)))=R;rw[e2,<-hq];rfl
  replace h120:=mD (d:=120) h120;have hl2:i+1<s.length:=by
   rcases dX (i+1) s.length with h|h
   ·exact h
   ·rw[aO,b6 h] at h120;simp at h120
  have hd2:s.drop (i+1)=120::s.drop (i+1+1):=by
   rw[aX hl2,<-h120,aO,gL hl2];rfl
  rw[hd,h92,hd2] at hq;refine b9 (by kernel_rfl) ?_;conv=>whnf
  refine aF (fun hge2=>?_) (fun hge2=>?_)<;>conv=>whnf
  ·refine bW ?_;have hl3:(s.drop (i+1+1)).length<=1:=by
    rw[cD (by omega) (by omega)] at hge2;simp at hge2⊢;omega
   rw[<-hq];rcases hr:s.drop (i+1+1) with _|⟨a,_|⟨b,r⟩⟩
   ·rfl
   ·rfl
   ·rw[hr] at hl3;simp at hl3
  have hl4:i+3<s.length:=by
   rw[cD (by omega) (by omega)] at hge2;simp at hge2;omega
  obtain⟨a,b,hab⟩:∃a b,s.drop (i+1+1)=a::b::s.drop (i+4):=
   ⟨s[i+2],s[i+3],by rw[aX (by omega),aX (by omega)]⟩
  rw[hab,a1S] at hq;refine b9 (by kernel_rfl) ?_;conv=>whnf
  have w1:IntKind.i64.wrap (((i+1:Nat):Int)+1)=((i+2:Nat):Int):=cD (by omega) (by omega);have w3:IntKind.i64.wrap (((i+1:Nat):Int)+3)=((i+4:Nat):Int):=cD (by omega) (by omega);refine⟨by rw[w1];omega,?_⟩;conv=>whnf
  refine⟨by rw[w3];omega,?_⟩;conv=>whnf
  refine⟨⟨by rw[w1,w3];omega,by rw[w3];omega⟩,[a,b],?_,?_⟩
  ·rw[w1,w3,aC,aC,hab,show i+4 - (i+2)=2 by omega];rfl
  conv=>whnf
  cases hx:AC a b with
  |none=>
   have hPU:SC Tryz.prog 359 [.s [a,b],.i .i64 16,.i .i64 8] [] (.val (.tup [.i .u64 0,.ifc 317 .any])) []:=by
    have:=yJ a b;rw[hx] at this;exact this
   rw[hx] at hq;refine nH hPU ?_;(conv=>whnf);exact bW (by rw[<-hq];rfl)
  |some v=>
   have hPU:SC Tryz.prog 359 [.s [a,b],.i .i64 16,.i .i64 8] [] (.val (.tup [.i .u64 v,.o .nilIface])) []:=by
    have:=yJ a b;rw[hx] at this;exact this
   rw[hx] at hq;refine nH hPU ?_;(conv=>whnf);have hv:IntKind.u8.wrap (v:Int)=((UInt8.ofNat v).toNat:Int):=by
    rw[u8w];simp
   rw[hv];refine wr _ _ _ _ _ rfl ?_;(conv=>whnf);refine⟨[.i .i64 (i+3:Nat)],⟨?_,rL _,rfl,bL rfl⟩,mZ (lY (l:=DC s (i+3)::tB (bs++[UInt8.ofNat v])) rfl ?_)⟩
   ·exact UH 2 (by omega)
   (conv=>whnf);refine⟨[.i .i64 (i+4:Nat)],⟨?_,rL _,rfl,bL rfl⟩,mZ (lY (l:=DC s (i+4)::tB (bs++[UInt8.ofNat v])) rfl ?_)⟩
   ·exact kH (by omega)
   (conv=>whnf);refine⟨s.length+2 - (i+4),(by show _<s.length+2 - i;omega),(i+4,bs++[UInt8.ofNat v]),⟨by show _<=_;omega,by show(_:List UInt8).length<=_;simp;omega,?_⟩,rfl,⟨rfl,rfl,trivial⟩,rfl⟩;rw[<-hq];simp[Option.map_map,cU]
 ·replace h34:=mD (d:=34) h34;have hlt:i<s.length:=by
   rcases dX i s.length with h|h
   ·exact h
   ·rw[aO,b6 h] at h34;simp at h34
  rw[hdrop hlt,h34,W6] at hq;refine⟨[.i .i64 (i+1:Nat)],⟨kH (by omega),rL _,rfl,bL rfl⟩,mZ (lY (l:=DC s (i+1)::tB bs) rfl ?_)⟩;conv=>whnf
  have e:s.length - (s.drop (i+1)).length=i+1:=by simp;omega
  have hres:Option.map (fun p:List UInt8×List UInt8=>(GV.s p.1,DC s (s.length - p.2.length))) R=some (.s bs,DC s (i+1)):=by
   rw[<-hq];show some (GV.s (bs++[]),DC s (s.length - (s.drop (i+1)).length))=_;rw[e,iV]
  by_cases hb:bs=[]
  ·subst hb;refine Y4 rfl ?_;(conv=>whnf);exact gE hres rfl (.refl _) (fun _=>rfl) (.s _)
  ·obtain⟨c,t,rfl⟩:=cV hb;have e3:tB (c::t)=[hY 1 2 (c::t),mG (c::t).length]:=aE hb;rw[e3];refine a0N (by simp at hbl;omega) rfl ?_;(conv=>whnf);exact gE hres rfl (.refl _) (fun _=>rfl) (.s _)
