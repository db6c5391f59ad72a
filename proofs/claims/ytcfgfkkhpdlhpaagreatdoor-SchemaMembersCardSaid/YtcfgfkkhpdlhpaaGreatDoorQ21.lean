/-
  A part of the proof of SchemaMembers.
-/
import Derived.Test.YtcfgfkkhpdlhpaaGreatDoorQ20
import Derived.Laws.Rows
set_option linter.all false
set_option maxRecDepth 100000
namespace Go.Proofs.YtcfgfkkhpdlhpaaGreatDoor
open Go.RowKit
def wB (i:Nat) (c:UInt8):Prop:=(97<=c.toNat/\c.toNat<=122)∨(i≠0/\(c.toNat=95∨(48<=c.toNat/\c.toNat<=57)))
theorem vW (c:UInt8):cV c=true↔(97<=c.toNat/\c.toNat<=122)∨(c.toNat=95∨(48<=c.toNat/\c.toNat<=57)):=by
 simp[cV,lT,cJ];omega
theorem CA (c:UInt8):lT c=true↔(97<=c.toNat/\c.toNat<=122):=by simp[lT]
theorem LL {s:List UInt8} (h1:1<=s.length) (h2:s.length<=16):fN s=true↔∀i c,s[i]?=some c->wB i c:=by
 cases s with
 |nil=>simp at h1
 |cons a t=>
  simp only[fN,aH,aK,aS];constructor
  ·rintro⟨⟨_,h3⟩,h4⟩ i c hc;have h5:=(vW c).1 (h4 c (aN hc));have h6:=(CA a).1 h3;unfold wB;cases i with
   |zero=>simp at hc;subst hc;exact .inl h6
   |succ i=>rcases h5 with h5|h5;exact .inl h5;exact .inr ⟨by omega,h5⟩
  ·intro h;refine⟨⟨h2,(CA a).2 ?_⟩,fun c hc=>(vW c).2 ?_⟩
   ·rcases h 0 a rfl with h3|⟨h3,_⟩
    ·exact h3
    ·exact absurd rfl h3
   ·obtain⟨i,hi⟩:=List.mem_iff_getElem?.1 hc;rcases h i c hi with h3|⟨_,h3⟩
    ·exact .inl h3
    ·exact .inr h3
theorem AW [MaxL] (s:List UInt8):SC Tryz.prog 125 [.s s] [] (.val (.b (fN s))) []:=by
 refine cW Tryz.func125 rfl ?_;conv=>whnf
 have short:¬(1<=s.length/\s.length<=16)->fN s=false:=fun h=>by
  cases s with
  |nil=>rfl
  |cons a t=>simp[fN] at h⊢;omega
 refine aF (fun h1=>?_) (fun h1=>?_)<;>conv=>whnf
 ·have h1':s.length<1:=by have:=aB h1;omega
  exact cQ (short (by omega)).symm
 refine aF (fun h2=>?_) (fun h2=>?_)<;>conv=>whnf
 ·have h2':16<s.length:=by have:=aB h2;omega
  exact cQ (short (by omega)).symm
 have h1':1<=s.length:=by have:=aC h1;omega
 have h2':s.length<=16:=by have:=aC h2;omega
 refine dC (fun i:Nat=>i<=s.length/\∀j c,j<i->s[j]?=some c->wB j c) (fun i=>[(0,.s s),(3,.i .i64 (i:Nat))]) (fun _=>⟨[],0,[]⟩) (fun i=>s.length - i) 0 ⟨zL _,fun j c h=>absurd h (d8 j)⟩ ⟨rfl,rfl,trivial⟩ rfl (fun i φ0 hi=>?_);obtain⟨hi,hg⟩:=hi;conv=>whnf
 refine aF (fun hlt=>?_) (fun hlt=>?_)<;>conv=>whnf
 ·have hlt':i<s.length:=by have:=aB hlt;omega
  have hgi:s[i]?=some (s.getD i 0):=by rw[aO,gL hlt'];rfl
  generalize s.getD i 0=c at*;have hgi':s[((i:Nat):Int).toNat]?=some c:=by simpa using hgi
  have bad:¬wB i c->∀σ,Owes [] (.val (.b (fN s))) [] (.val (.b false)) σ:=fun hb σ=>by
   refine cQ ?_;rw[eq_comm,<-Bool.not_eq_true,LL h1' h2'];exact fun h=>hb (h i c hgi)
  have nxt:wB i c->i+1<=s.length/\∀j c,j<i+1->s[j]?=some c->wB j c:=fun h=>⟨hlt',fun j c' hj hc'=>by
   by_cases hji:j=i
   ·subst hji;rw[hgi] at hc';cases hc';exact h
   ·exact hg j c' (by omega) hc'⟩
  repeat' first
   |(refine aF (fun _=>?_) (fun _=>?_)<;>conv=>whnf)
   |(refine GNeed.mk (cN _) ⟨c,hgi',?_⟩;conv=>whnf)
  all_goals first
   |(refine bad ?_ _;unfold wB;simp only[aK,bM,dA,i7,ne_eq,bne_iff_ne,bne_eq_false_iff_eq,dT,Bool.not_eq_false'] at*;omega)
   |(refine eO (i+1) (nxt ?_) (by omega) ⟨rfl,b7 (by omega),trivial⟩ rfl;unfold wB;simp only[aK,bM,dA,i7,ne_eq,bne_iff_ne,bne_eq_false_iff_eq,dT,Bool.not_eq_false'] at*;omega)
 ·have hie:i=s.length:=by have:=aC hlt;omega
  refine cQ ?_;rw[eq_comm,LL h1' h2'];exact fun j c hc=>hg j c (by have:=(List.getElem?_eq_some_iff.1 hc).1;omega) hc
theorem IL [MaxL] (v:Val):SC Tryz.prog 212 [v.gv] [] (.val (.b v.ok)) []:=by
 obtain⟨k,n,s⟩:=v;refine cW Tryz.func212 rfl ?_;conv=>whnf
 repeat' (refine aF (fun _=>?_) (fun _=>?_)<;>conv=>whnf)
 all_goals
  refine cQ ?_;simp only[aK,bM,dA,i7,ne_eq] at*;rw[eX];simp only[Val.ok];simp;try grind
theorem a26 (n:Int):IntKind.i64.wrap n=(n+9223372036854775808)%18446744073709551616 - 9223372036854775808:=by
 unfold IntKind.wrap;simp[IntKind.signed,IntKind.bits];omega
def GJ (c:UInt8):Int:=if 48<=c.toNat/\c.toNat<=57 then(c.toNat:Int) - 48 else if 97<=c.toNat/\c.toNat<=102 then(c.toNat:Int) - 87 else -1
theorem zD [MaxL] (c:UInt8):SC Tryz.prog 304 [.i .u8 c.toNat] [] (.val (.i .i64 (GJ c))) []:=by
 have hc:=cD c;refine cW Tryz.func304 rfl ?_;conv=>whnf
 repeat' (refine aF (fun _=>?_) (fun _=>?_)<;>conv=>whnf)
 all_goals
  refine bG ?_;simp only[aK,bM] at*;unfold GJ
  (repeat' split)<;>first|(exfalso;omega)|rfl|(simp only[ZY,a26];omega)
end Go.Proofs.YtcfgfkkhpdlhpaaGreatDoor
namespace Go.Proofs.YtcfgfkkhpdlhpaaGreatDoor
open Go.RowKit Go.Sort
theorem WB [MaxL] {C:Cx} {w:World} (g:Nat) (x:GV) (t:TypeId) (hr:Rel C ⟨[],0,[]⟩ w w) (ht:Globals.tab g=some [.ifc t x]):∃p,w.cell? ⟨g,0,none⟩=some (.iface t p):=by
 obtain⟨u,hfx,hvr⟩:=hr.gl g _ 0 _ ht rfl;have:=hvr _ (fun _ _ _ h=>h);cases this;exact⟨_,hr.fxc _ _ _ hfx⟩
theorem P3 [MaxL] (fn s:List UInt8) (base bits:Int) (hs:s.length<=281474976710656):SC Tryz.prog 281 [.s fn,.s s,.i .i64 base,.i .i64 bits,.ifc 314 (.i .i64 2)] [] (.val (.ifc 317 .any)) []:=by
 refine SC.of_calls fun C w vs hr hv=>?_;obtain⟨v1,vs1,e,h1,hv⟩:=hv.cons_inv;obtain⟨v2,vs2,rfl,h2,hv⟩:=hv.cons_inv;obtain⟨v3,vs3,rfl,h3,hv⟩:=hv.cons_inv;obtain⟨v4,vs4,rfl,h4,hv⟩:=hv.cons_inv;obtain⟨v5,vs5,rfl,h5,hv⟩:=hv.cons_inv;have:vs5=[]:=aM (by simpa using hv.1);subst this;obtain rfl:vs= #[v1,v2,v3,v4,v5]:=by rw[<-f9 (xs:=vs),e]
 cases h1;cases h2;cases h3;cases h4;cases h5 with
 |ifc h5=>
 cases h5;obtain⟨p,hp⟩:=WB 4 _ _ hr rfl;refine(Tryz.strconv_toError_syntax ⟨fn.toArray⟩ ⟨s.toArray⟩ base bits _ w (by simpa[ByteArray.size] using hs) hp (.inr ⟨_,_,rfl⟩)).mono ?_;rintro e w' ⟨N,he,_,_,hb⟩;exact⟨_,he,.below hb,.ifc (.any _)⟩
theorem xV [MaxL] (a b:UInt8):SC Tryz.prog 359 [.s [a,b],.i .i64 16,.i .i64 8] [] (.val (match zR a b with|some n=>.tup [.i .u64 n,.o .nilIface]|none=>.tup [.i .u64 0,.ifc 317 .any])) []:=by
 have hI:=K5 a b;refine cW Tryz.func359 rfl ?_;conv=>whnf
 cases h:zR a b with
 |some n=>
  rw[h] at hI;refine bF hI (wR _) rfl (fun _=>rfl) (fun _=>rfl) ?_;conv=>whnf
  exact o9 rfl (fun _=>rfl)
 |none=>
  rw[h] at hI;refine bF hI (wR _) rfl (fun _=>rfl) (fun _=>rfl) ?_;conv=>whnf
  refine bF (P3 _ [a,b] 16 8 (by simp)) (wR _) rfl (fun _=>rfl) (fun _=>rfl) ?_;conv=>whnf
  exact o9 rfl (fun _=>rfl)
theorem KN {w:World} {b:Nat} {c:Array Value} {t:TypeId} {fr:Nat×Nat} (h:w.heap[b]?=some (.cells c t fr)):w.shape? b=some (t,c.size):=by
 unfold World.shape?;rw[h]
def A9:GObj:=.box 92 [.o (.pointer none),.sl .full []]
def N2 (bs:List UInt8):List GObj:=[.box 92 [.ptr 0 0,.sl (.own 1) (bs.map fun b=>.i .u8 b.toNat)],.own bs.length 1 5]
theorem DI:Go.Proofs.Lays.n240 Tryz.prog Tryz.lays156_ren:={Tryz.lays156 with}
theorem VRs.arr1 [MaxL] {C:Cx} {g:GV} {vs:Array Value} (h:VRs C [g] vs.toList):∃v,vs= #[v]/\VR C g v:=by
 obtain⟨v,vs',e,h1,h2⟩:=h.cons_inv;have:vs'=[]:=aM (by simpa using h2.1);subst this;exact⟨v,by rw[<-f9 (xs:=vs),e],h1⟩
theorem VRs.arr2 [MaxL] {C:Cx} {g g':GV} {vs:Array Value} (h:VRs C [g,g'] vs.toList):∃v v',vs= #[v,v']/\VR C g v/\VR C g' v':=by
 obtain⟨v,vs',e,h1,h2⟩:=h.cons_inv;obtain⟨v',vs',rfl,h3,h4⟩:=h2.cons_inv;have:vs'=[]:=aM (by simpa using h4.1);subst this;exact⟨v,v',by rw[<-f9 (xs:=vs),e],h1,h3⟩
theorem VR.unit [MaxL] {C:Cx}:VR C (.tup []) (.tuple #[]):=.tup rfl (fun j g u h=>by simp at h)
theorem K4 [MaxL]:SC Tryz.prog 132 [.ptr 0 0] [A9] (.val (.tup [])) [.box 92 [.ptr 0 0,.sl .full []]]:=by
 refine⟨rL _,fun C w vs hr hv=>?_,fun x hx=>by simp at hx;subst hx;simp⟩;obtain⟨v,rfl,hv1⟩:=hv.arr1;obtain⟨h0,b,cs,hb,ho,hcs⟩:=hr.obj 0 _ rfl;obtain⟨u,u',rfl,hu,hu'⟩:=(BoxV.exact hcs rfl).arr2;cases hv1 with
 |ptr hb'=>
 rw[hb] at hb';cases hb';cases hu;have hc0:w.cell? ⟨b,0,none⟩=some (.pointer none):=by simp[World.cell?,ho]
 refine(Any.Builder_copyCheck_fresh DI Tryz.Builder_Extra_156.toX72 b w hc0 (KN ho) (by simp[World.frozen?,ho])).mono ?_;rintro e w' ⟨rfl,rfl⟩;refine⟨C,.refl C,Rel.setObj (r:=0) (b:=b) hr (by simp) hb _ ⟨h0,b,_,hb,heap_setCell_same w b 0 _ _ _ ho,?_⟩ rfl rfl rfl (by simp[World.setCell]) (fun k hk=>heap_setCell_other w _ k _ hk),_,rfl,.unit⟩;exact VRs.box (.cons (.ptr hb) (.cons hu' .nil))
theorem CP [MaxL] (x:GV) (os:List GObj) (hn:∀y∈os,y≠ .held):SC Tryz.prog 132 [.ptr 0 0] (.box 92 [.ptr 0 0,x]::os) (.val (.tup [])) (.box 92 [.ptr 0 0,x]::os):=by
 refine⟨rL _,fun C w vs hr hv=>?_,fun y hy=>by
  rcases List.mem_cons.1 hy with rfl|hy
  ·simp
  ·exact hn y hy⟩
 obtain⟨v,rfl,hv1⟩:=hv.arr1;obtain⟨h0,b,cs,hb,ho,hcs⟩:=hr.obj 0 _ rfl;obtain⟨u,u',rfl,hu,hu'⟩:=(BoxV.exact hcs rfl).arr2;cases hv1 with
 |ptr hb'=>
 rw[hb] at hb';cases hb';cases hu with
 |ptr hb'=>
 rw[hb] at hb';cases hb';have hc0:w.cell? ⟨b,0,none⟩=some (.pointer (some ⟨b,0,none⟩)):=by simp[World.cell?,ho]
 refine(Any.Builder_copyCheck_used DI Tryz.Builder_Extra_156.toX72 b w hc0).mono ?_;rintro e w' ⟨rfl,rfl⟩;exact⟨C,.refl C,hr,_,rfl,.unit⟩
def fS (bs:List UInt8):List GV:=bs.map fun b=>.i .u8 b.toNat
theorem a0y [MaxL] (bs:List UInt8) (f:Nat->Nat):GV.renL f (fS bs)=fS bs:=by rw[cI];exact gX (fun _=>Cl.i _ _) bs f
theorem bA (bs:List UInt8):(fS bs).length=bs.length:=by simp[fS]
theorem jS (bs:List UInt8):(fS bs).all (fun x=>x.cells.length==1)=true:=by
 rw[aS];intro x hx;obtain⟨b,_,rfl⟩:=List.mem_map.1 hx;rfl
theorem WV (bs:List UInt8):(fS bs).all (rE 1)=true:=by
 rw[aS];intro x hx;obtain⟨b,_,rfl⟩:=List.mem_map.1 hx;rfl
def gS (q p:Nat) (bs:List UInt8):GObj:=.box 92 [.ptr q 0,.sl (.own p) (fS bs)]
def m5 (n:Nat):GObj:=.own n 1 5
theorem nV [MaxL] (f:Nat->Nat) (q p:Nat) (bs:List UInt8):(gS q p bs).ren f=gS (f q) (f p) bs:=by
 show GObj.box _ [.ptr (f q) 0,.sl (.own (f p)) (GV.renL f (fS bs))]=_;rw[a0y];rfl
theorem oK [MaxL] {q p:Nat} {bs:List UInt8} {objs:List GObj} (hn:q≠p) (hq:objs[q]?=some (gS q p bs)) (hp:objs[p]?=some (m5 bs.length)):Lies [q,p] (N2 bs) objs:=by
 refine Lies.two hn ?_ hp (by simp) (by simp);have:=nV (iQ [q,p] objs.length) 0 1 bs;rw[show GObj.box 92 [.ptr 0 0,.sl (.own 1) (bs.map fun b=>.i .u8 b.toNat)]=gS 0 1 bs from rfl,this,hq];rfl
theorem DE [MaxL] {p:Nat} {s:List GObj} {r r':GRes} {bs:List UInt8} {σ:GS} (hs:s.length<=2) (hp:s.length=2->p=1) (hp0:0≠p) (h0:σ.objs[0]?=some (gS 0 p bs)) (h1:σ.objs[p]?=some (m5 bs.length)) (hr:r'.ren (iQ [0,p] σ.objs.length)=r') (hrr:WkRes r r'):Owes s r' (N2 bs) r σ:=by
 refine⟨[0,p],oK hp0 h0 h1,fun i hi=>?_,by rw[hr];exact hrr⟩;rcases i with _|_|i
 ·rfl
 ·simp[hp (by omega)]
 ·omega
theorem A7 [MaxL] (c:UInt8):SC Tryz.prog 330 [.ptr 0 0,.i .u8 c.toNat] [A9] (.val (.o .nilIface)) (N2 [c]):=by
 refine dL oQ mixed Tryz.func330 rfl (bL rfl) (by simp[N2]) rfl ?_;conv=>whnf
 refine tT K4 [0] (objs':=[.box 92 [.ptr 0 0,.sl .full []]]) (Lies.one' rfl (by simp[A9])) (wR _) rfl rfl rfl rfl ?_;conv=>whnf
 refine⟨⟨rfl,rfl,bL rfl⟩,fS [c],1,⟨rfl,rfl⟩,?_⟩;conv=>whnf
 refine⟨_,⟨rfl,zL _,rfl,bL rfl⟩,?_⟩;conv=>whnf
 exact DE (p:=2) (by simp) (by simp) (by decide) rfl rfl rfl (cO _)
theorem CQ [MaxL] (bs:List UInt8) (c:UInt8) (hl:bs.length<1000000000):SC Tryz.prog 330 [.ptr 0 0,.i .u8 c.toNat] (N2 bs) (.val (.o .nilIface)) (N2 (bs++[c])):=by
 refine dL oQ mixed Tryz.func330 rfl (bL rfl) (by simp[N2]) rfl ?_;conv=>whnf
 refine tT (CP (.sl (.own 1) (fS bs)) [m5 bs.length] (by simp[m5])) [0,1] (objs':=[gS 0 1 bs,m5 bs.length]) (oK (by decide) rfl rfl) (wR _) rfl rfl ?_ rfl ?_
 ·show[(gS 0 1 bs).ren (iQ [0,1] 2),m5 bs.length]=_;rw[nV];rfl
 conv=>whnf
 refine⟨⟨rfl,jS bs,by show(fS bs).length+1<=4294967296;rw[bA];omega⟩,fS (bs++[c]),(bs++[c]).length,⟨by simp[fS];rfl,by show _=(fS bs).length+1;rw[bA];simp⟩,?_⟩;conv=>whnf
 refine⟨⟨zL _,by rw[bA],.inl ⟨rfl,rfl⟩⟩,?_⟩;conv=>whnf
 refine⟨_,⟨rfl,zL _,rfl,bL rfl⟩,?_⟩;conv=>whnf
 exact DE (p:=1) (by simp[N2]) (fun _=>rfl) (by decide) rfl rfl rfl (cO _)
theorem GZ [MaxL] (bs l:List UInt8) (hl:bs.length+l.length<1000000000):SC Tryz.prog 57 [.ptr 0 0,.s l] (N2 bs) (.val (.tup [.i .i64 l.length,.o .nilIface])) (N2 (bs++l)):=by
 refine dL oQ mixed Tryz.func57 rfl (bL rfl) (by simp[N2]) rfl ?_;conv=>whnf
 refine tT (CP (.sl (.own 1) (fS bs)) [m5 bs.length] (by simp[m5])) [0,1] (objs':=[gS 0 1 bs,m5 bs.length]) (oK (by decide) rfl rfl) (wR _) rfl rfl ?_ rfl ?_
 ·show[(gS 0 1 bs).ren (iQ [0,1] 2),m5 bs.length]=_;rw[nV];rfl
 conv=>whnf
 refine aF (fun h=>?_) (fun h=>?_)<;>conv=>whnf
 ·have:l=[]:=by simpa using h
  subst this;refine⟨_,⟨rfl,zL _,rfl,bL rfl⟩,?_⟩;conv=>whnf
  rw[iM];exact DE (p:=1) (by simp[N2]) (fun _=>rfl) (by decide) rfl rfl rfl (cO _)
 ·refine⟨⟨WV l,jS bs,by show(fS bs).length+(fS l).length<=4294967296;rw[bA,bA];omega⟩,fS (bs++l),(bs++l).length,⟨by simp[fS],by show _=(fS bs).length+(fS l).length;rw[bA,bA];simp⟩,?_⟩;conv=>whnf
  refine⟨⟨zL _,by rw[bA],.inl ⟨rfl,rfl⟩⟩,?_⟩;conv=>whnf
  refine⟨_,⟨rfl,zL _,rfl,bL rfl⟩,?_⟩;conv=>whnf
  exact DE (p:=1) (by simp[N2]) (fun _=>rfl) (by decide) rfl rfl rfl (cO _)
theorem ZO {α:Type} {x:Option α} {K:α->Prop} {a:α} (h:x=some a) (k:K a):tI x K:=by rw[h];exact k
theorem WW [MaxL] (l:List UInt8):(fS l).flatMap GV.cells=fS l:=by
 induction l with
 |nil=>rfl
 |cons c t ih=>show[GV.i .u8 c.toNat]++(fS t).flatMap GV.cells=_;rw[ih];rfl
theorem W5 [MaxL] (c:UInt8) (t:List UInt8) (r:Nat):HW (.sl (.own r) (fS (c::t)))=some (.dat r (fS (c::t))):=by
 show(if(!(fS (c::t)).isEmpty&&(fS (c::t)).all fun x=>x.cells.length==1)=true then some (GV.dat r (List.flatMap GV.cells (fS (c::t)))) else none)=_;rw[jS,WW];rfl
theorem BK (l:List UInt8):wI (fS l)=some l:=by
 induction l with
 |nil=>rfl
 |cons c t ih=>show(wI (fS t)).map _=_;rw[ih];simp
theorem TD (l:List UInt8):(fS l).all QM=true:=by
 rw[aS];intro x hx;obtain⟨b,_,rfl⟩:=List.mem_map.1 hx;have:=cD b;simp[QM];omega
theorem VZ [MaxL] {P:Program} {pt ty:TypeId} {r esz:Nat} {σ:GS} (l:List UInt8) (ho:σ.objs[r]?=some (.own l.length esz ty)) (hl:l≠[]) (hlo:σ.lo<=r) (hp:S9 P pt=some ty) (hc:P.cellsOf ty=1) (hlim:l.length<=fZ):
  CF P pt (.dat r (fS l)) (.i .i64 l.length) σ=some (.s l,gset σ r .dead):=by
 simp only[CF,ho,BK,bA,TD,hp,hc];rw[aG];simp[hlo,hlim];exact hl
theorem MV [MaxL] (c:UInt8) (t:List UInt8) (hl:t.length<1000000000):SC Tryz.prog 61 [.ptr 0 0] (N2 (c::t)) (.val (.s (c::t))) [gS 0 1 (c::t),.dead]:=by
 refine dL oQ mixed Tryz.func61 rfl (bL rfl) (by simp[N2]) rfl ?_;conv=>whnf
 refine GDraw.wild _ _ _ rfl rfl rfl (by kernel_rfl) ?_;conv=>whnf
 refine ZO (a:=(.dat 1 (fS (c::t)),_)) (by show Option.map _ (HW (.sl (.own 1) (fS (c::t))))=_;rw[W5];rfl) ?_;conv=>whnf
 refine ZO (a:=(.s (c::t),⟨[gS 0 1 (c::t),.dead],0,[]⟩)) ?_ ?_
 ·show CF Tryz.prog _ (.dat 1 (fS (c::t))) (.i .i64 (fS (c::t)).length) ⟨[gS 0 1 (c::t),m5 (c::t).length],0,[]⟩=_;rw[bA];exact VZ (c::t) rfl (by simp) (by simp) (by kernel_rfl) (by kernel_rfl) (by unfold fZ;simp;omega)
 conv=>whnf
 refine⟨[0,1],Lies.two (by decide) ?_ rfl (by simp[gS]) (by simp),fun i hi=>?_,cO _⟩
 ·show some (gS 0 1 (c::t))=some ((gS 0 1 (c::t)).ren (iQ [0,1] 2));rw[nV];rfl
 ·rcases i with _|_|i
  ·rfl
  ·rfl
  ·simp[N2] at hi;omega
end Go.Proofs.YtcfgfkkhpdlhpaaGreatDoor
namespace Go.Proofs.YtcfgfkkhpdlhpaaGreatDoor
open Go.RowKit
def rt:List UInt8->Option (List UInt8×List UInt8)
 |[]=>none
 |c::r=>if c=34 then some ([],r) else if c=92 then(match r with
   |[]=>none
   |e::r1=>if e=120 then(match r1 with
     |a::b::r2=>(match zR a b with
      |some n=>(rt r2).map fun p=>(UInt8.ofNat n::p.1,p.2)
      |none=>none)
     |_=>none)
    else(rt r1).map fun p=>(e::p.1,p.2))
  else(rt r).map fun p=>(c::p.1,p.2)
def TI:GV:=.ifc 357 (.agg [])
theorem SC.of_callsO [MaxL] {P:Program} {k:FuncId} {args:List GV} {s:List GObj} {r:GRes} (hh:∀x∈s,x≠ .held)
  (h:∀(C:Cx) (w:World) (vs:Array Value),Rel C ⟨s,0,[]⟩ w w->VRs C args vs.toList->Calls P k vs w fun e w'=>Base (fun _=>False) w w'/\ERel C r e):
  SC P k args s r s:=by
 refine⟨rL _,fun C w vs hr hv=>(h C w vs hr hv).mono fun e w' ⟨hb,hg⟩=>⟨C,.refl C,?_,hg⟩,hh⟩;refine⟨⟨hb.os,hb.tape,hb.output,hb.size,fun i hi _=>hb.block i hi (fun h=>h)⟩,fun b o v hx=>?_,fun r x hx=>ORel.keep hr (.refl C) rfl rfl hb.size (fun b hb'=>hb.block b (qS hr hb') (fun h=>h)) (hr.obj r x hx),hr.dom,hr.new,hr.inj,hr.sepB,hr.sepO,hr.fxn,hr.gl,hr.gs⟩;have h1:=hr.fxc b o v hx;have hlt:b<w.heap.size:=block_lt_of_cell h1;unfold World.cell? at h1⊢;rw[hb.block b hlt (fun h=>h)];exact h1
theorem TB [MaxL]:SC Tryz.prog 61 [.ptr 0 0] [A9] (.val (.s [])) [A9]:=by
 refine SC.of_callsO (by simp[A9]) fun C w vs hr hv=>?_;obtain⟨v,rfl,hv1⟩:=hv.arr1;obtain⟨h0,b,cs,hb,ho,hcs⟩:=hr.obj 0 _ rfl;obtain⟨u,u',rfl,hu,hu'⟩:=(BoxV.exact hcs rfl).arr2;cases hv1 with
 |ptr hb'=>
 rw[hb] at hb';cases hb';cases hu' with
 |sl esz b' off us hn hc ha hw hx hv ht=>
 obtain⟨hc0,ha0⟩:=ht;obtain rfl:=ha0 rfl;simp at hn hc0;subst hn;subst hc0;refine(Any.Builder_String_nil Tryz.lays169 Tryz.Builder_Extra_169 w.heap.size b u w ho).mono ?_;rintro e w' ⟨rfl,hb⟩;exact⟨.below hb,_,rfl,.s []⟩
theorem YS [MaxL] {M:FuncId->Bool} {K:GRes->GS->Prop} {x:GObj} {c:UInt8} {ds:List GDef} (hM:M 330=false) (hk:K (.val (.o .nilIface)) ⟨[x,gS 1 2 [c],m5 1],0,ds⟩):
  iL Tryz.prog M (.fn 330) [.ptr 1 0,.i .u8 c.toNat] ⟨[x,A9],0,ds⟩ K:=by
 refine tT (A7 c) [1] (objs':=[x,gS 1 2 [c],m5 1]) (Lies.one' rfl (by simp[A9])) (wR _) rfl hM ?_ rfl hk;rfl
theorem a0o [MaxL] {M:FuncId->Bool} {K:GRes->GS->Prop} {x:GObj} {bs:List UInt8} {c:UInt8} {ds:List GDef} (hl:bs.length<1000000000) (hM:M 330=false) (hk:K (.val (.o .nilIface)) ⟨[x,gS 1 2 (bs++[c]),m5 (bs++[c]).length],0,ds⟩):
  iL Tryz.prog M (.fn 330) [.ptr 1 0,.i .u8 c.toNat] ⟨[x,gS 1 2 bs,m5 bs.length],0,ds⟩ K:=by
 refine tT (CQ bs c hl) [1,2] (objs':=[x,gS 1 2 (bs++[c]),m5 (bs++[c]).length]) (oK (by decide) rfl rfl) (wR _) rfl hM ?_ rfl hk;show[x,(gS 0 1 (bs++[c])).ren (iQ [1,2] 3),m5 (bs++[c]).length]=_;rw[nV];rfl
theorem YT [MaxL] {M:FuncId->Bool} {K:GRes->GS->Prop} {x:GObj} {c:UInt8} {t:List UInt8} {ds:List GDef} (hl:t.length<1000000000) (hM:M 61=false) (hk:K (.val (.s (c::t))) ⟨[x,gS 1 2 (c::t),.dead],0,ds⟩):
  iL Tryz.prog M (.fn 61) [.ptr 1 0] ⟨[x,gS 1 2 (c::t),m5 (c::t).length],0,ds⟩ K:=by
 refine tT (MV c t hl) [1,2] (objs':=[x,gS 1 2 (c::t),.dead]) (oK (by decide) rfl rfl) (wR _) rfl hM ?_ rfl hk;show[x,(gS 0 1 (c::t)).ren (iQ [1,2] 3),GObj.dead]=_;rw[nV];rfl
theorem WK [MaxL] {M:FuncId->Bool} {K:GRes->GS->Prop} {x:GObj} {ds:List GDef} (hM:M 61=false) (hk:K (.val (.s [])) ⟨[x,A9],0,ds⟩):
  iL Tryz.prog M (.fn 61) [.ptr 1 0] ⟨[x,A9],0,ds⟩ K:=by
 refine tT TB [1] (objs':=[x,A9]) (Lies.one' rfl (by simp[A9])) (wR _) rfl hM ?_ rfl hk;rfl
theorem KA [MaxL] {x y z:GObj} {rest:List GObj} {bs':List UInt8} {o:GObj} (ho:∀f,o.ren f=o):
  iA [1,2] [gS 0 1 bs',o] (x::y::z::rest)=x::gS 1 2 bs'::o::rest:=by
 rw[L5 (by decide) (by simp) (by simp),nV,ho];rfl
theorem YQ [MaxL] {M:FuncId->Bool} {K:GRes->GS->Prop} {x:GObj} {rest:List GObj} {bs l:List UInt8} {ds:List GDef} (hl:bs.length+l.length<1000000000) (hM:M 57=false) (hk:K (.val (.tup [.i .i64 l.length,.o .nilIface])) ⟨x::gS 1 2 (bs++l)::m5 (bs++l).length::rest,0,ds⟩):
  iL Tryz.prog M (.fn 57) [.ptr 1 0,.s l] ⟨x::gS 1 2 bs::m5 bs.length::rest,0,ds⟩ K:=
 tT (GZ bs l hl) [1,2] (oK (by decide) rfl rfl) (wR _) rfl hM (KA fun _=>rfl) rfl hk
theorem YR [MaxL] {M:FuncId->Bool} {K:GRes->GS->Prop} {x:GObj} {rest:List GObj} {bs:List UInt8} {c:UInt8} {ds:List GDef} (hl:bs.length<1000000000) (hM:M 330=false) (hk:K (.val (.o .nilIface)) ⟨x::gS 1 2 (bs++[c])::m5 (bs++[c]).length::rest,0,ds⟩):
  iL Tryz.prog M (.fn 330) [.ptr 1 0,.i .u8 c.toNat] ⟨x::gS 1 2 bs::m5 bs.length::rest,0,ds⟩ K:=
 tT (CQ bs c hl) [1,2] (oK (by decide) rfl rfl) (wR _) rfl hM (KA fun _=>rfl) rfl hk
theorem WJ [MaxL] {M:FuncId->Bool} {K:GRes->GS->Prop} {x:GObj} {rest:List GObj} {c:UInt8} {t:List UInt8} {ds:List GDef} (hl:t.length<1000000000) (hM:M 61=false) (hk:K (.val (.s (c::t))) ⟨x::gS 1 2 (c::t)::.dead::rest,0,ds⟩):
  iL Tryz.prog M (.fn 61) [.ptr 1 0] ⟨x::gS 1 2 (c::t)::m5 (c::t).length::rest,0,ds⟩ K:=
 tT (MV c t hl) [1,2] (oK (by decide) rfl rfl) (wR _) rfl hM (KA fun _=>rfl) rfl hk
theorem mX {c d:UInt8} (h:((c.toNat:Int) !=(d.toNat:Int))=true):c≠d:=fun e=>by simp[e] at h
theorem lW {c d:UInt8} (h:((c.toNat:Int) !=(d.toNat:Int))=false):c=d:=by
 simp at h;exact UInt8.toNat_inj.1 (by omega)
theorem UL (r:List UInt8):rt (34::r)=some ([],r):=by
 conv=>lhs;unfold rt
 rfl
theorem a0I {c:UInt8} (h:c≠34) (h':c≠92) (r:List UInt8):rt (c::r)=(rt r).map fun p=>(c::p.1,p.2):=by
 conv=>lhs;unfold rt
 rw[aE h,aE h']
theorem UK {e:UInt8} (h:e≠120) (r:List UInt8):rt (92::e::r)=(rt r).map fun p=>(e::p.1,p.2):=by
 conv=>lhs;unfold rt
 rw[aE (by decide),aG rfl];show(if e=120 then _ else _)=_;rw[aE h]
theorem a0H (a b:UInt8) (r:List UInt8):rt (92::120::a::b::r)=match zR a b with
  |some n=>(rt r).map fun p=>(UInt8.ofNat n::p.1,p.2)
  |none=>none:=by
 conv=>lhs;unfold rt
 rfl
def tB (bs:List UInt8):List GObj:=if bs=[] then[A9] else[gS 1 2 bs,m5 bs.length]
theorem T1 [MaxL] {i:Nat} (k:Nat) (h:i+k<9223372036854775807):[GV.i .i64 ((i+k:Nat):Int)]=(GV.i .i64 (IntKind.i64.wrap ((i:Int)+(k:Int)))).cells:=by
 rw[bY (by omega) (by omega)];rfl
theorem a0r [MaxL] (s:List UInt8) (n:Nat) (hn:n<s.length) (hs:s.length<1000000):
  Ct Tryz.prog 358 [.ptr 0 0] (CT s n) TI ((rt (s.drop (n+1))).map fun p=>(.s p.1,CT s (s.length - p.2.length))):=by
 refine gJ oQ mixed Tryz.func358 rfl (bL rfl) (fun _=>rfl) ?hh ?_
 case hh=>cases rt (s.drop (n+1))<;>rfl
 conv=>whnf
 refine⟨[.i .i64 (n+1:Nat)],⟨kA (by omega),rL _,rfl,bL rfl⟩,?_⟩;conv=>whnf
 generalize hR:rt (s.drop (n+1))=R;refine dC (fun q:Nat×List UInt8=>q.1<=s.length+1/\q.2.length<=q.1/\(rt (s.drop q.1)).map (fun p=>(q.2++p.1,p.2))=R)
  (fun q=>[(0,.ptr 0 0),(3,.ptr 1 0)]) (fun q=>⟨CT s q.1::tB q.2,0,[]⟩) (fun q=>s.length+2 - q.1) (n+1,[]) ⟨by omega,by simp,?_⟩ ⟨rfl,rfl,trivial⟩ rfl (fun q φ0 hq=>?_)
 ·rw[<-hR];cases rt (s.drop (n+1))<;>rfl
 obtain⟨i,bs⟩:=q;obtain⟨hi,hbl,hq⟩:=hq;replace hi:i<=s.length+1:=hi;replace hbl:bs.length<=i:=hbl;replace hq:(rt (s.drop i)).map (fun p=>(bs++p.1,p.2))=R:=hq;have wr:∀(x:GObj) (c:UInt8) (M:FuncId->Bool) (K:GRes->GS->Prop) (ds:List GDef),M 330=false->K (.val (.o .nilIface)) ⟨x::tB (bs++[c]),0,ds⟩->
   iL Tryz.prog M (.fn 330) [.ptr 1 0,.i .u8 c.toNat] ⟨x::tB bs,0,ds⟩ K:=fun x c M K ds hM hk=>by
  have e2:tB (bs++[c])=[gS 1 2 (bs++[c]),m5 (bs++[c]).length]:=aE (by simp);rw[e2] at hk;by_cases hb:bs=[]
  ·subst hb;exact YS hM hk
  ·rw[show tB bs=[gS 1 2 bs,m5 bs.length] from aE hb];exact a0o (by omega) hM hk
 conv=>whnf
 refine rD (q:=0) (wS s i (by unfold bH;omega)) (lL (l:=CT s i::tB bs) rfl ?_);conv=>whnf
 have hdrop:i<s.length->s.drop i=s.getD i 0::s.drop (i+1):=fun h=>by
  rw[aY h,aO,gL h];rfl
 refine aF (fun h34=>?_) (fun h34=>?_)<;>conv=>whnf
 ·
  replace h34:=mX (d:=34) h34;refine bC (by kernel_rfl) ?_;conv=>whnf
  refine aF (fun hge=>?_) (fun hge=>?_)<;>conv=>whnf
  ·refine bU ?_;have:s.drop i=[]:=fX (by simp at hge;omega);rw[this] at hq;rw[<-hq];rfl
  have hlt:i<s.length:=by simp at hge;omega
  refine rD (q:=0) (wS s i (by unfold bH;omega)) (lL (l:=CT s i::tB bs) rfl ?_);conv=>whnf
  have hd:=hdrop hlt;refine aF (fun h92=>?_) (fun h92=>?_)<;>conv=>whnf
  ·replace h92:=mX (d:=92) h92;refine rD (q:=0) (wS s i (by unfold bH;omega)) (lL (l:=CT s i::tB bs) rfl ?_);(conv=>whnf);refine wr _ _ _ _ _ rfl ?_;(conv=>whnf);refine⟨[.i .i64 (i+1:Nat)],⟨?_,rL _,rfl,bL rfl⟩,mO (lL (l:=CT s (i+1)::tB (bs++[s.getD i 0])) rfl ?_)⟩
   ·exact kA (by omega)
   (conv=>whnf);refine⟨s.length+2 - (i+1),(by show _<s.length+2 - i;omega),(i+1,bs++[s.getD i 0]),⟨by show _<=_;omega,by show(_:List UInt8).length<=_;simp;omega,?_⟩,rfl,⟨rfl,rfl,trivial⟩,rfl⟩;rw[hd,a0I h34 h92] at hq;rw[<-hq];simp[Option.map_map,cK]
  replace h92:=lW (d:=92) h92;refine⟨[.i .i64 (i+1:Nat)],⟨?_,rL _,rfl,bL rfl⟩,mO (lL (l:=CT s (i+1)::tB bs) rfl ?_)⟩
  ·exact kA (by omega)
  conv=>whnf
  refine rD (q:=0) (wS s (i+1) (by unfold bH;omega)) (lL (l:=CT s (i+1)::tB bs) rfl ?_);conv=>whnf
  refine aF (fun h120=>?_) (fun h120=>?_)<;>conv=>whnf
  ·replace h120:=mX (d:=120) h120;refine rD (q:=0) (wS s (i+1) (by unfold bH;omega)) (lL (l:=CT s (i+1)::tB bs) rfl ?_);(conv=>whnf);refine wr _ _ _ _ _ rfl ?_;(conv=>whnf);refine⟨[.i .i64 (i+1+1:Nat)],⟨?_,rL _,rfl,bL rfl⟩,mO (lL (l:=CT s (i+1+1)::tB (bs++[s.getD (i+1) 0])) rfl ?_)⟩
   ·exact kA (by omega)
   (conv=>whnf);refine⟨s.length+2 - (i+1+1),(by show _<s.length+2 - i;omega),(i+1+1,bs++[s.getD (i+1) 0]),⟨by show _<=_;omega,by show(_:List UInt8).length<=_;simp;omega,?_⟩,rfl,⟨rfl,rfl,trivial⟩,rfl⟩;rw[hd,h92] at hq;by_cases hl2:i+1<s.length
   ·have hd2:s.drop (i+1)=s.getD (i+1) 0::s.drop (i+1+1):=by
     rw[aY hl2,aO,gL hl2];rfl
    rw[hd2,UK h120] at hq;rw[<-hq];simp[Option.map_map,cK]
   ·have e1:s.drop (i+1)=[]:=fX (by omega);have e2:s.drop (i+1+1)=[]:=fX (by omega);rw[e1] at hq;show Option.map _ (rt (s.drop (i+1+1)))=R;rw[e2,<-hq];rfl
  replace h120:=lW (d:=120) h120;have hl2:i+1<s.length:=by
   rcases dX (i+1) s.length with h|h
   ·exact h
   ·rw[aO,b6 h] at h120;simp at h120
  have hd2:s.drop (i+1)=120::s.drop (i+1+1):=by
   rw[aY hl2,<-h120,aO,gL hl2];rfl
  rw[hd,h92,hd2] at hq;refine bC (by kernel_rfl) ?_;conv=>whnf
  refine aF (fun hge2=>?_) (fun hge2=>?_)<;>conv=>whnf
  ·refine bU ?_;have hl3:(s.drop (i+1+1)).length<=1:=by
    rw[bY (by omega) (by omega)] at hge2;simp at hge2⊢;omega
   rw[<-hq];rcases hr:s.drop (i+1+1) with _|⟨a,_|⟨b,r⟩⟩
   ·rfl
   ·rfl
   ·rw[hr] at hl3;simp at hl3
  have hl4:i+3<s.length:=by
   rw[bY (by omega) (by omega)] at hge2;simp at hge2;omega
  obtain⟨a,b,hab⟩:∃a b,s.drop (i+1+1)=a::b::s.drop (i+4):=
   ⟨s[i+2],s[i+3],by rw[aY (by omega),aY (by omega)]⟩
  rw[hab,a0H] at hq;refine bC (by kernel_rfl) ?_;conv=>whnf
  have w1:IntKind.i64.wrap (((i+1:Nat):Int)+1)=((i+2:Nat):Int):=bY (by omega) (by omega);have w3:IntKind.i64.wrap (((i+1:Nat):Int)+3)=((i+4:Nat):Int):=bY (by omega) (by omega);refine⟨by rw[w1];omega,?_⟩;conv=>whnf
  refine⟨by rw[w3];omega,?_⟩;conv=>whnf
  refine⟨⟨by rw[w1,w3];omega,by rw[w3];omega⟩,[a,b],?_,?_⟩
  ·rw[w1,w3,aA,aA,hab,show i+4 - (i+2)=2 by omega];rfl
  conv=>whnf
  cases hx:zR a b with
  |none=>
   have hPU:SC Tryz.prog 359 [.s [a,b],.i .i64 16,.i .i64 8] [] (.val (.tup [.i .u64 0,.ifc 317 .any])) []:=by
    have:=xV a b;rw[hx] at this;exact this
   rw[hx] at hq;refine n5 hPU ?_;(conv=>whnf);exact bU (by rw[<-hq];rfl)
  |some v=>
   have hPU:SC Tryz.prog 359 [.s [a,b],.i .i64 16,.i .i64 8] [] (.val (.tup [.i .u64 v,.o .nilIface])) []:=by
    have:=xV a b;rw[hx] at this;exact this
   rw[hx] at hq;refine n5 hPU ?_;(conv=>whnf);have hv:IntKind.u8.wrap (v:Int)=((UInt8.ofNat v).toNat:Int):=by
    rw[ZY];simp
   rw[hv];refine wr _ _ _ _ _ rfl ?_;(conv=>whnf);refine⟨[.i .i64 (i+3:Nat)],⟨?_,rL _,rfl,bL rfl⟩,mO (lL (l:=CT s (i+3)::tB (bs++[UInt8.ofNat v])) rfl ?_)⟩
   ·exact T1 2 (by omega)
   (conv=>whnf);refine⟨[.i .i64 (i+4:Nat)],⟨?_,rL _,rfl,bL rfl⟩,mO (lL (l:=CT s (i+4)::tB (bs++[UInt8.ofNat v])) rfl ?_)⟩
   ·exact kA (by omega)
   (conv=>whnf);refine⟨s.length+2 - (i+4),(by show _<s.length+2 - i;omega),(i+4,bs++[UInt8.ofNat v]),⟨by show _<=_;omega,by show(_:List UInt8).length<=_;simp;omega,?_⟩,rfl,⟨rfl,rfl,trivial⟩,rfl⟩;rw[<-hq];simp[Option.map_map,cK]
 ·replace h34:=lW (d:=34) h34;have hlt:i<s.length:=by
   rcases dX i s.length with h|h
   ·exact h
   ·rw[aO,b6 h] at h34;simp at h34
  rw[hdrop hlt,h34,UL] at hq;refine⟨[.i .i64 (i+1:Nat)],⟨kA (by omega),rL _,rfl,bL rfl⟩,mO (lL (l:=CT s (i+1)::tB bs) rfl ?_)⟩;conv=>whnf
  have e:s.length - (s.drop (i+1)).length=i+1:=by simp;omega
  have hres:Option.map (fun p:List UInt8×List UInt8=>(GV.s p.1,CT s (s.length - p.2.length))) R=some (.s bs,CT s (i+1)):=by
   rw[<-hq];show some (GV.s (bs++[]),CT s (s.length - (s.drop (i+1)).length))=_;rw[e,iM]
  by_cases hb:bs=[]
  ·subst hb;refine WK rfl ?_;(conv=>whnf);exact fW hres rfl (.refl _) (fun _=>rfl) (.s _)
  ·obtain⟨c,t,rfl⟩:=cL hb;have e3:tB (c::t)=[gS 1 2 (c::t),m5 (c::t).length]:=aE hb;rw[e3];refine YT (by simp at hbl;omega) rfl ?_;(conv=>whnf);exact fW hres rfl (.refl _) (fun _=>rfl) (.s _)
