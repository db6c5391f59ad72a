/- Part of ViewWrong. -/
import Derived.Test.YtimgfjldcdhejaaGreatDoorK14
import Derived.Laws.Rows
set_option linter.all false
set_option maxRecDepth 100000
namespace Go.Proofs.YtimgfjldcdhejaaGreatDoor
section
open Go.RowKit
variable [Globals]
def H5 (s:List GObj):Prop:=∀e:Nat->Nat,(∀i,i<s.length->e i=i)->s.map (GObj.ren e)=s
theorem DR {m N i:Nat} (h:i<m):jZ (List.range m) N i=i:=by rw[lD (by simpa using h)];simp
theorem Lies.pre {s rest:List GObj} (hc:H5 s) (hh:∀x∈s,x≠ .held):Lies (List.range s.length) s (s++rest):=
 ⟨List.nodup_range,by simp,fun i k x h1 h2=>by
  obtain⟨h3,h4⟩:=List.getElem?_eq_some_iff.1 h1;simp at h4;subst h4;have hi:i<s.length:=by simpa using h3
  have:=aR (fun l:List GObj=>l[i]?) (hc _ (fun j hj=>DR (N:=(s++rest).length) hj));simp only[aK,h2,dP,iY] at this;rw[this,b7 hi];exact h2,hh⟩
theorem G4 {s s' rest:List GObj} (hl:s'.length=s.length) (hc:H5 s'):k8 (List.range s.length) s' (s++rest)=s'++rest:=by
 apply eK;intro r;rw[kZ (fun k hk=>by simp at hk;simp;omega) (by simp[hl])];unfold iU;have he:=hc (jZ (List.range s.length) (s++rest).length) (fun j hj=>DR (by omega));by_cases hr:r<(s++rest).length
 ·rw[aD hr];by_cases hrs:r<s.length
  ·have:(List.range s.length).idxOf? r=some r:=yC List.nodup_range (by simp[hrs]);rw[this];show Option.map _ s'[r]?=_;rw[b7 (by omega)];have:=aR (fun l:List GObj=>l[r]?) he;simpa[aK] using this
  ·have:(List.range s.length).idxOf? r=none:=by
    rw[List.idxOf?_eq_none_iff];simp;omega
   rw[this,cJ (by omega),cJ (by omega),hl]
 ·rw[aC hr];have h1:s'[(List.range s.length).length+(r - (s++rest).length)]?=none:=bG (by simp[hl]);have h2:(s'++rest)[r]?=none:=bG (by simp at hr⊢;omega);simp only[h1,h2];rfl
theorem iS {P:Program} {M:FuncId->Bool} {k:FuncId} {args args':List GV} {s s' rest:List GObj} {r:GRes} {σ:GS} {K:GRes->GS->Prop} (h:SC P k args s r s') (ho:σ.objs=s++rest) (hl:s'.length=s.length) (hlo:σ.lo=0) (hM:M k=false)
  (hc:H5 s) (hc':H5 s') (hh:s.all GObj.notHeld=true) (ha:∀e:Nat->Nat,(∀i,i<s.length->e i=i)->args.map (GV.ren e)=args) (hr:∀e:Nat->Nat,(∀i,i<s.length->e i=i)->r.ren e=r) (hw:Wks args' args)
  (hk:K r ⟨s'++rest,σ.lo,σ.ds⟩):gZ P M (.fn k) args' σ K:=by
 have hh':∀x∈s,x≠ .held:=fun x hx e=>by subst e;have:=List.all_eq_true.1 hh _ hx;cases this
 have he:∀i,i<s.length->jZ (List.range s.length) σ.objs.length i=i:=fun i hi=>DR hi;have hf:=h.fact (σ:=σ) (args':=args') (List.range s.length) (by rw[ho];exact Lies.pre hc hh') hlo (by rw[ha _ he];exact hw);rw[hr _ he,ho,G4 hl hc'] at hf;exact⟨r,_,hf,(fun k' e hk'=>by cases e;rw[hM] at hk';cases hk'),hk⟩
theorem eX {s s' rest:List GObj} {r r':GRes} {lo:Nat} {ds:List GDef} {objs:List GObj} (ho:objs=s'++rest) (hl:s.length<=s'.length) (hc:H5 s') (hh:s'.all GObj.notHeld=true) (hr:∀e:Nat->Nat,(∀i,i<s'.length->e i=i)->r'.ren e=r') (hw:WkRes r r'):
  Owes s r' s' r ⟨objs,lo,ds⟩:=by
 subst ho;have hh':∀x∈s',x≠ .held:=fun x hx e=>by subst e;have:=List.all_eq_true.1 hh _ hx;cases this
 refine⟨List.range s'.length,Lies.pre hc hh',fun i hi=>by rw[List.getElem?_range (by omega)],?_⟩;rw[hr _ (fun i hi=>DR hi)];exact hw
end
section
open Go.RowKit
def A9 (i:Nat) (c:UInt8):Prop:=(97<=c.toNat/\c.toNat<=122)∨(i≠0/\(c.toNat=95∨(48<=c.toNat/\c.toNat<=57)))
theorem zX (c:UInt8):dL c=true↔(97<=c.toNat/\c.toNat<=122)∨(c.toNat=95∨(48<=c.toNat/\c.toNat<=57)):=by
 simp[dL,nE,cY];omega
theorem GC (c:UInt8):nE c=true↔(97<=c.toNat/\c.toNat<=122):=by simp[nE]
theorem R7 {s:List UInt8} (h1:1<=s.length) (h2:s.length<=16):dU s=true↔∀i c,s[i]?=some c->A9 i c:=by
 cases s with
 |nil=>simp at h1
 |cons a t=>
  simp only[dU,aF,aJ,aQ];constructor
  ·rintro⟨⟨_,h3⟩,h4⟩ i c hc;have h5:=(zX c).1 (h4 c (aE hc));have h6:=(GC a).1 h3;unfold A9;cases i with
   |zero=>simp at hc;subst hc;exact .inl h6
   |succ i=>rcases h5 with h5|h5;exact .inl h5;exact .inr ⟨by omega,h5⟩
  ·intro h;refine⟨⟨h2,(GC a).2 ?_⟩,fun c hc=>(zX c).2 ?_⟩
   ·rcases h 0 a rfl with h3|⟨h3,_⟩
    ·exact h3
    ·exact absurd rfl h3
   ·obtain⟨i,hi⟩:=List.mem_iff_getElem?.1 hc;rcases h i c hi with h3|⟨_,h3⟩
    ·exact .inl h3
    ·exact .inr h3
theorem tY [MaxL] (s:List UInt8):SC Tryz.prog 91 [.s s] [] (.val (.b (dU s))) []:=by
 refine cO Tryz.func91 rfl ?_;conv=>whnf
 have short:¬(1<=s.length/\s.length<=16)->dU s=false:=fun h=>by
  cases s with
  |nil=>rfl
  |cons a t=>simp[dU] at h⊢;omega
 apply gM<;>intro h1<;>conv=>whnf
 ·have h1':s.length<1:=by have:=aB h1;omega
  exact d6 (short (by omega)).symm
 apply gM<;>intro h2<;>conv=>whnf
 ·have h2':16<s.length:=by have:=aB h2;omega
  exact d6 (short (by omega)).symm
 have h1':1<=s.length:=by have:=aA h1;omega
 have h2':s.length<=16:=by have:=aA h2;omega
 refine dD (fun i:Nat=>i<=s.length/\∀j c,j<i->s[j]?=some c->A9 j c) (fun i=>[(0,.s s),(3,.i .i64 (i:Nat))]) (fun _=>⟨[],0,[]⟩) (fun i=>s.length - i) 0 ⟨zL _,fun j c h=>absurd h (bP j)⟩ ⟨rfl,rfl,trivial⟩ rfl (fun i φ0 hi=>?_);obtain⟨hi,hg⟩:=hi;conv=>whnf
 apply gM<;>intro hlt<;>conv=>whnf
 ·have hlt':i<s.length:=by have:=aB hlt;omega
  have hgi:s[i]?=some (s.getD i 0):=by rw[aO,gL hlt'];rfl
  generalize s.getD i 0=c at*;have hgi':s[((i:Nat):Int).toNat]?=some c:=by simpa using hgi
  have bad:¬A9 i c->∀σ,Owes [] (.val (.b (dU s))) [] (.val (.b false)) σ:=fun hb σ=>by
   refine d6 ?_;rw[eq_comm,<-Bool.not_eq_true,R7 h1' h2'];exact fun h=>hb (h i c hgi)
  have nxt:A9 i c->i+1<=s.length/\∀j c,j<i+1->s[j]?=some c->A9 j c:=fun h=>⟨hlt',fun j c' hj hc'=>by
   by_cases hji:j=i
   ·subst hji;rw[hgi] at hc';cases hc';exact h
   ·exact hg j c' (by omega) hc'⟩
  repeat' first
   |(apply gM<;>intro _<;>conv=>whnf)
   |(refine GNeed.mk (jR _) ⟨c,hgi',?_⟩;conv=>whnf)
  all_goals first
   |(refine bad ?_ _;unfold A9;simp only[aJ,bV,dI,iW,ne_eq,bne_iff_ne,bne_eq_false_iff_eq,eL,Bool.not_eq_false'] at*;omega)
   |(refine fR (i+1) (nxt ?_) (by omega) ⟨rfl,bH (by omega),trivial⟩ rfl;unfold A9;simp only[aJ,bV,dI,iW,ne_eq,bne_iff_ne,bne_eq_false_iff_eq,eL,Bool.not_eq_false'] at*;omega)
 ·have hie:i=s.length:=by have:=aA hlt;omega
  refine d6 ?_;rw[eq_comm,R7 h1' h2'];exact fun j c hc=>hg j c (by have:=(List.getElem?_eq_some_iff.1 hc).1;omega) hc
theorem O1 [MaxL] (v:Val):SC Tryz.prog 119 [v.gv] [] (.val (.b v.ok)) []:=by
 obtain⟨k,n,s⟩:=v;refine cO Tryz.func119 rfl ?_;conv=>whnf
 repeat' (apply gM<;>intro _<;>conv=>whnf)
 all_goals
  refine d6 ?_;simp only[aJ,bV,dI,iW,ne_eq] at*;rw[dQ];simp only[Val.ok];simp;try grind
theorem a8Z (n:Int):IntKind.i64.wrap n=(n+9223372036854775808)%18446744073709551616 - 9223372036854775808:=by
 unfold IntKind.wrap;simp[IntKind.signed,IntKind.bits];omega
def LJ (c:UInt8):Int:=if 48<=c.toNat/\c.toNat<=57 then(c.toNat:Int) - 48 else if 97<=c.toNat/\c.toNat<=102 then(c.toNat:Int) - 87 else -1
theorem D6 [MaxL] (c:UInt8):SC Tryz.prog 278 [.i .u8 c.toNat] [] (.val (.i .i64 (LJ c))) []:=by
 have hc:=cV c;refine cO Tryz.func278 rfl ?_;conv=>whnf
 repeat' (apply gM<;>intro _<;>conv=>whnf)
 all_goals
  refine bB ?_;simp only[aJ,bV] at*;unfold LJ
  (repeat' split)<;>first|(exfalso;omega)|rfl|(simp only[u8w,a8Z];omega)
end
section
open Go.RowKit Go.Sort
theorem a2b [MaxL] {C:Cx} {w:World} (g:Nat) (x:GV) (t:TypeId) (hr:Rel C ⟨[],0,[]⟩ w w) (ht:Globals.tab g=some [.ifc t x]):∃p,w.cell? ⟨g,0,none⟩=some (.iface t p):=by
 obtain⟨u,hfx,hvr⟩:=hr.gl g _ 0 _ ht rfl;have:=hvr _ (fun _ _ _ h=>h);cases this;exact⟨_,hr.fxc _ _ _ hfx⟩
theorem VN [MaxL] (fn s:List UInt8) (base bits:Int) (hs:s.length<=281474976710656):SC Tryz.prog 333 [.s fn,.s s,.i .i64 base,.i .i64 bits,.ifc 365 (.i .i64 2)] [] (.val (.ifc 368 .any)) []:=by
 refine SC.of_calls fun C w vs hr hv=>?_;obtain⟨v1,vs1,e,h1,hv⟩:=hv.cons_inv;obtain⟨v2,vs2,rfl,h2,hv⟩:=hv.cons_inv;obtain⟨v3,vs3,rfl,h3,hv⟩:=hv.cons_inv;obtain⟨v4,vs4,rfl,h4,hv⟩:=hv.cons_inv;obtain⟨v5,vs5,rfl,h5,hv⟩:=hv.cons_inv;have:vs5=[]:=aM (by simpa using hv.1);subst this;obtain rfl:vs= #[v1,v2,v3,v4,v5]:=by rw[<-fH (xs:=vs),e]
 cases h1;cases h2;cases h3;cases h4;cases h5 with
 |ifc h5=>
 cases h5;obtain⟨p,hp⟩:=a2b 4 _ _ hr rfl;refine(Tryz.strconv_toError_syntax ⟨fn.toArray⟩ ⟨s.toArray⟩ base bits _ w (by simpa[ByteArray.size] using hs) hp (.inr ⟨_,_,rfl⟩)).mono ?_;rintro e w' ⟨N,he,_,_,hb⟩;exact⟨_,he,.below hb,.ifc (.any _)⟩
theorem BX [MaxL] (a b:UInt8):SC Tryz.prog 355 [.s [a,b],.i .i64 16,.i .i64 8] [] (.val (match CD a b with|some n=>.tup [.i .u64 n,.o .nilIface]|none=>.tup [.i .u64 0,.ifc 368 .any])) []:=by
 have hI:=PV a b;refine cO Tryz.func355 rfl ?_;conv=>whnf
 cases h:CD a b with
 |some n=>
  rw[h] at hI;refine mG hI (fun _=>rfl) ?_;conv=>whnf
  exact rQ rfl (fun _=>rfl)
 |none=>
  rw[h] at hI;refine mG hI (fun _=>rfl) ?_;conv=>whnf
  refine mG (VN _ [a,b] 16 8 (by simp)) (fun _=>rfl) ?_;conv=>whnf
  exact rQ rfl (fun _=>rfl)
theorem QA {w:World} {b:Nat} {c:Array Value} {t:TypeId} {fr:Nat×Nat} (h:w.heap[b]?=some (.cells c t fr)):w.shape? b=some (t,c.size):=by
 unfold World.shape?;rw[h]
def E3:GObj:=.box 221 [.o (.pointer none),.sl .full []]
def TG (bs:List UInt8):List GObj:=[.box 221 [.ptr 0 0,.sl (.own 1) (bs.map fun b=>.i .u8 b.toNat)],.own bs.length 1 5]
theorem HQ:Go.Proofs.Lays.n240 Tryz.prog Tryz.lays156_ren:={Tryz.lays156 with}
theorem VRs.arr1 [MaxL] {C:Cx} {g:GV} {vs:Array Value} (h:VRs C [g] vs.toList):∃v,vs= #[v]/\VR C g v:=by
 obtain⟨v,vs',e,h1,h2⟩:=h.cons_inv;have:vs'=[]:=aM (by simpa using h2.1);subst this;exact⟨v,by rw[<-fH (xs:=vs),e],h1⟩
theorem VRs.arr2 [MaxL] {C:Cx} {g g':GV} {vs:Array Value} (h:VRs C [g,g'] vs.toList):∃v v',vs= #[v,v']/\VR C g v/\VR C g' v':=by
 obtain⟨v,vs',e,h1,h2⟩:=h.cons_inv;obtain⟨v',vs',rfl,h3,h4⟩:=h2.cons_inv;have:vs'=[]:=aM (by simpa using h4.1);subst this;exact⟨v,v',by rw[<-fH (xs:=vs),e],h1,h3⟩
theorem VR.unit [MaxL] {C:Cx}:VR C (.tup []) (.tuple #[]):=.tup rfl (fun j g u h=>by simp at h)
theorem PU [MaxL]:SC Tryz.prog 236 [.ptr 0 0] [E3] (.val (.tup [])) [.box 221 [.ptr 0 0,.sl .full []]]:=by
 refine⟨rL _,fun C w vs hr hv=>?_,fun x hx=>by simp at hx;subst hx;simp⟩;obtain⟨v,rfl,hv1⟩:=hv.arr1;obtain⟨h0,b,cs,hb,ho,hcs⟩:=hr.obj 0 _ rfl;obtain⟨u,u',rfl,hu,hu'⟩:=(BoxV.exact hcs rfl).arr2;cases hv1 with
 |ptr hb'=>
 rw[hb] at hb';cases hb';cases hu;have hc0:w.cell? ⟨b,0,none⟩=some (.pointer none):=by simp[World.cell?,ho]
 refine(Any.Builder_copyCheck_fresh HQ Tryz.Builder_Extra_156.toX72 b w hc0 (QA ho) (by simp[World.frozen?,ho])).mono ?_;rintro e w' ⟨rfl,rfl⟩;refine⟨C,.refl C,Rel.setObj (r:=0) (b:=b) hr (by simp) hb _ ⟨h0,b,_,hb,heap_setCell_same w b 0 _ _ _ ho,?_⟩ rfl rfl rfl (by simp[World.setCell]) (fun k hk=>heap_setCell_other w _ k _ hk),_,rfl,.unit⟩;exact VRs.box (.cons (.ptr hb) (.cons hu' .nil))
theorem GU [MaxL] (x:GV) (os:List GObj) (hn:∀y∈os,y≠ .held):SC Tryz.prog 236 [.ptr 0 0] (.box 221 [.ptr 0 0,x]::os) (.val (.tup [])) (.box 221 [.ptr 0 0,x]::os):=by
 refine⟨rL _,fun C w vs hr hv=>?_,fun y hy=>by
  rcases List.mem_cons.1 hy with rfl|hy
  ·simp
  ·exact hn y hy⟩
 obtain⟨v,rfl,hv1⟩:=hv.arr1;obtain⟨h0,b,cs,hb,ho,hcs⟩:=hr.obj 0 _ rfl;obtain⟨u,u',rfl,hu,hu'⟩:=(BoxV.exact hcs rfl).arr2;cases hv1 with
 |ptr hb'=>
 rw[hb] at hb';cases hb';cases hu with
 |ptr hb'=>
 rw[hb] at hb';cases hb';have hc0:w.cell? ⟨b,0,none⟩=some (.pointer (some ⟨b,0,none⟩)):=by simp[World.cell?,ho]
 refine(Any.Builder_copyCheck_used HQ Tryz.Builder_Extra_156.toX72 b w hc0).mono ?_;rintro e w' ⟨rfl,rfl⟩;exact⟨C,.refl C,hr,_,rfl,.unit⟩
end
section
open Go.RowKit Go.Sort
def w9 (bs:List UInt8):List GV:=bs.map fun b=>.i .u8 b.toNat
theorem a6q [MaxL] (bs:List UInt8) (f:Nat->Nat):GV.renL f (w9 bs)=w9 bs:=by rw[cU];exact iA (fun _=>Cl.i _ _) bs f
theorem nY (bs:List UInt8):(w9 bs).length=bs.length:=by simp[w9]
theorem VZ (bs:List UInt8):(w9 bs).all (fun x=>x.cells.length==1)=true:=by
 rw[aQ];intro x hx;obtain⟨b,_,rfl⟩:=List.mem_map.1 hx;rfl
theorem a30 (bs:List UInt8):(w9 bs).all (sO 1)=true:=by
 rw[aQ];intro x hx;obtain⟨b,_,rfl⟩:=List.mem_map.1 hx;rfl
def iO (q p:Nat) (bs:List UInt8):GObj:=.box 221 [.ptr q 0,.sl (.own p) (w9 bs)]
def nN (n:Nat):GObj:=.own n 1 5
theorem r6 [MaxL] (f:Nat->Nat) (q p:Nat) (bs:List UInt8):(iO q p bs).ren f=iO (f q) (f p) bs:=by
 show GObj.box _ [.ptr (f q) 0,.sl (.own (f p)) (GV.renL f (w9 bs))]=_;rw[a6q];rfl
theorem s7 [MaxL] {q p:Nat} {bs:List UInt8} {objs:List GObj} (hn:q≠p) (hq:objs[q]?=some (iO q p bs)) (hp:objs[p]?=some (nN bs.length)):Lies [q,p] (TG bs) objs:=by
 refine Lies.two hn ?_ hp (by simp) (by simp);have:=r6 (jZ [q,p] objs.length) 0 1 bs;rw[show GObj.box 221 [.ptr 0 0,.sl (.own 1) (bs.map fun b=>.i .u8 b.toNat)]=iO 0 1 bs from rfl,this,hq];rfl
theorem HH [MaxL] {p:Nat} {s:List GObj} {r r':GRes} {bs:List UInt8} {σ:GS} (hs:s.length<=2) (hp:s.length=2->p=1) (hp0:0≠p) (h0:σ.objs[0]?=some (iO 0 p bs)) (h1:σ.objs[p]?=some (nN bs.length)) (hr:r'.ren (jZ [0,p] σ.objs.length)=r') (hrr:WkRes r r'):Owes s r' (TG bs) r σ:=by
 refine⟨[0,p],s7 hp0 h0 h1,fun i hi=>?_,by rw[hr];exact hrr⟩;rcases i with _|_|i
 ·rfl
 ·simp[hp (by omega)]
 ·omega
theorem DZ [MaxL] (c:UInt8):SC Tryz.prog 315 [.ptr 0 0,.i .u8 c.toNat] [E3] (.val (.o .nilIface)) (TG [c]):=by
 refine bQ oP mixed Tryz.func315 rfl (bL rfl) (by simp[TG]) rfl ?_;conv=>whnf
 refine uN PU [0] (objs':=[.box 221 [.ptr 0 0,.sl .full []]]) (Lies.one' rfl (by simp[E3])) (wR _) rfl rfl rfl rfl ?_;conv=>whnf
 refine⟨⟨rfl,rfl,bL rfl⟩,w9 [c],1,⟨rfl,rfl⟩,?_⟩;conv=>whnf
 refine sT ?_;conv=>whnf
 exact HH (p:=2) (by simp) (by simp) (by decide) rfl rfl rfl (bF _)
theorem GW [MaxL] (bs:List UInt8) (c:UInt8) (hl:bs.length<1000000000):SC Tryz.prog 315 [.ptr 0 0,.i .u8 c.toNat] (TG bs) (.val (.o .nilIface)) (TG (bs++[c])):=by
 refine bQ oP mixed Tryz.func315 rfl (bL rfl) (by simp[TG]) rfl ?_;conv=>whnf
 refine uN (GU (.sl (.own 1) (w9 bs)) [nN bs.length] (by simp[nN])) [0,1] (objs':=[iO 0 1 bs,nN bs.length]) (s7 (by decide) rfl rfl) (wR _) rfl rfl ?_ rfl ?_
 ·show[(iO 0 1 bs).ren (jZ [0,1] 2),nN bs.length]=_;rw[r6];rfl
 conv=>whnf
 refine⟨⟨rfl,VZ bs,by show(w9 bs).length+1<=4294967296;rw[nY];omega⟩,w9 (bs++[c]),(bs++[c]).length,⟨by simp[w9];rfl,by show _=(w9 bs).length+1;rw[nY];simp⟩,?_⟩;conv=>whnf
 refine⟨⟨zL _,by rw[nY],.inl ⟨rfl,rfl⟩⟩,?_⟩;conv=>whnf
 refine sT ?_;conv=>whnf
 exact HH (p:=1) (by simp[TG]) (fun _=>rfl) (by decide) rfl rfl rfl (bF _)
theorem LW [MaxL] (bs l:List UInt8) (hl:bs.length+l.length<1000000000):SC Tryz.prog 178 [.ptr 0 0,.s l] (TG bs) (.val (.tup [.i .i64 l.length,.o .nilIface])) (TG (bs++l)):=by
 refine bQ oP mixed Tryz.func178 rfl (bL rfl) (by simp[TG]) rfl ?_;conv=>whnf
 refine uN (GU (.sl (.own 1) (w9 bs)) [nN bs.length] (by simp[nN])) [0,1] (objs':=[iO 0 1 bs,nN bs.length]) (s7 (by decide) rfl rfl) (wR _) rfl rfl ?_ rfl ?_
 ·show[(iO 0 1 bs).ren (jZ [0,1] 2),nN bs.length]=_;rw[r6];rfl
 conv=>whnf
 apply gM<;>intro h<;>conv=>whnf
 ·have:l=[]:=by simpa using h
  subst this;refine sT ?_;conv=>whnf
  rw[f5];exact HH (p:=1) (by simp[TG]) (fun _=>rfl) (by decide) rfl rfl rfl (bF _)
 ·refine⟨⟨a30 l,VZ bs,by show(w9 bs).length+(w9 l).length<=4294967296;rw[nY,nY];omega⟩,w9 (bs++l),(bs++l).length,⟨by simp[w9],by show _=(w9 bs).length+(w9 l).length;rw[nY,nY];simp⟩,?_⟩;conv=>whnf
  refine⟨⟨zL _,by rw[nY],.inl ⟨rfl,rfl⟩⟩,?_⟩;conv=>whnf
  refine sT ?_;conv=>whnf
  exact HH (p:=1) (by simp[TG]) (fun _=>rfl) (by decide) rfl rfl rfl (bF _)
theorem a5E {α:Type} {x:Option α} {K:α->Prop} {a:α} (h:x=some a) (k:K a):x5 x K:=by rw[h];exact k
theorem a32 [MaxL] (l:List UInt8):(w9 l).flatMap GV.cells=w9 l:=by
 induction l with
 |nil=>rfl
 |cons c t ih=>show[GV.i .u8 c.toNat]++(w9 t).flatMap GV.cells=_;rw[ih];rfl
theorem a2O [MaxL] (c:UInt8) (t:List UInt8) (r:Nat):N1 (.sl (.own r) (w9 (c::t)))=some (.dat r (w9 (c::t))):=by
 show(if(!(w9 (c::t)).isEmpty&&(w9 (c::t)).all fun x=>x.cells.length==1)=true then some (GV.dat r (List.flatMap GV.cells (w9 (c::t)))) else none)=_;rw[VZ,a32];rfl
theorem FC (l:List UInt8):AE (w9 l)=some l:=by
 induction l with
 |nil=>rfl
 |cons c t ih=>show(AE (w9 t)).map _=_;rw[ih];simp
theorem a0F (l:List UInt8):(w9 l).all XT=true:=by
 rw[aQ];intro x hx;obtain⟨b,_,rfl⟩:=List.mem_map.1 hx;have:=cV b;simp[XT];omega
theorem a2I [MaxL] {P:Program} {pt ty:TypeId} {r esz:Nat} {σ:GS} (l:List UInt8) (ho:σ.objs[r]?=some (.own l.length esz ty)) (hl:l≠[]) (hlo:σ.lo<=r) (hp:ZC P pt=some ty) (hc:P.cellsOf ty=1) (hlim:l.length<=jO):
  GH P pt (.dat r (w9 l)) (.i .i64 l.length) σ=some (.s l,gset σ r .dead):=by
 simp only[GH,ho,FC,nY,a0F,hp,hc];rw[aD];simp[hlo,hlim];exact hl
theorem T3 [MaxL] (c:UInt8) (t:List UInt8) (hl:t.length<1000000000):SC Tryz.prog 180 [.ptr 0 0] (TG (c::t)) (.val (.s (c::t))) [iO 0 1 (c::t),.dead]:=by
 refine bQ oP mixed Tryz.func180 rfl (bL rfl) (by simp[TG]) rfl ?_;conv=>whnf
 refine GDraw.wild _ _ _ rfl rfl rfl (by kernel_rfl) ?_;conv=>whnf
 refine a5E (a:=(.dat 1 (w9 (c::t)),_)) (by show Option.map _ (N1 (.sl (.own 1) (w9 (c::t))))=_;rw[a2O];rfl) ?_;conv=>whnf
 refine a5E (a:=(.s (c::t),⟨[iO 0 1 (c::t),.dead],0,[]⟩)) ?_ ?_
 ·show GH Tryz.prog _ (.dat 1 (w9 (c::t))) (.i .i64 (w9 (c::t)).length) ⟨[iO 0 1 (c::t),nN (c::t).length],0,[]⟩=_;rw[nY];exact a2I (c::t) rfl (by simp) (by simp) (by kernel_rfl) (by kernel_rfl) (by unfold jO;simp;omega)
 conv=>whnf
 refine⟨[0,1],Lies.two (by decide) ?_ rfl (by simp[iO]) (by simp),fun i hi=>?_,bF _⟩
 ·show some (iO 0 1 (c::t))=some ((iO 0 1 (c::t)).ren (jZ [0,1] 2));rw[r6];rfl
 ·rcases i with _|_|i
  ·rfl
  ·rfl
  ·simp[TG] at hi;omega
end
section
open Go.RowKit
def rt:List UInt8->Option (List UInt8×List UInt8)
 |[]=>none
 |c::r=>if c=34 then some ([],r) else if c=92 then(match r with
   |[]=>none
   |e::r1=>if e=120 then(match r1 with
     |a::b::r2=>(match CD a b with
      |some n=>(rt r2).map fun p=>(UInt8.ofNat n::p.1,p.2)
      |none=>none)
     |_=>none)
    else(rt r1).map fun p=>(e::p.1,p.2))
  else(rt r).map fun p=>(c::p.1,p.2)
def a0S:GV:=.ifc 352 (.agg [])
theorem SC.of_callsO [MaxL] {P:Program} {k:FuncId} {args:List GV} {s:List GObj} {r:GRes} (hh:∀x∈s,x≠ .held)
  (h:∀(C:Cx) (w:World) (vs:Array Value),Rel C ⟨s,0,[]⟩ w w->VRs C args vs.toList->Calls P k vs w fun e w'=>Base (fun _=>False) w w'/\ERel C r e):
  SC P k args s r s:=by
 refine⟨rL _,fun C w vs hr hv=>(h C w vs hr hv).mono fun e w' ⟨hb,hg⟩=>⟨C,.refl C,?_,hg⟩,hh⟩;refine⟨⟨hb.os,hb.tape,hb.output,hb.size,fun i hi _=>hb.block i hi (fun h=>h)⟩,fun b o v hx=>?_,fun r x hx=>ORel.keep hr (.refl C) rfl rfl hb.size (fun b hb'=>hb.block b (u9 hr hb') (fun h=>h)) (hr.obj r x hx),hr.dom,hr.new,hr.inj,hr.sepB,hr.sepO,hr.fxn,hr.gl,hr.gs⟩;have h1:=hr.fxc b o v hx;have hlt:b<w.heap.size:=block_lt_of_cell h1;unfold World.cell? at h1⊢;rw[hb.block b hlt (fun h=>h)];exact h1
theorem a0C [MaxL]:SC Tryz.prog 180 [.ptr 0 0] [E3] (.val (.s [])) [E3]:=by
 refine SC.of_callsO (by simp[E3]) fun C w vs hr hv=>?_;obtain⟨v,rfl,hv1⟩:=hv.arr1;obtain⟨h0,b,cs,hb,ho,hcs⟩:=hr.obj 0 _ rfl;obtain⟨u,u',rfl,hu,hu'⟩:=(BoxV.exact hcs rfl).arr2;cases hv1 with
 |ptr hb'=>
 rw[hb] at hb';cases hb';cases hu' with
 |sl esz b' off us hn hc ha hw hx hv ht=>
 obtain⟨hc0,ha0⟩:=ht;obtain rfl:=ha0 rfl;simp at hn hc0;subst hn;subst hc0;refine(Any.Builder_String_nil Tryz.lays169 Tryz.Builder_Extra_169 w.heap.size b u w ho).mono ?_;rintro e w' ⟨rfl,hb⟩;exact⟨.below hb,_,rfl,.s []⟩
theorem a4e [MaxL] {M:FuncId->Bool} {K:GRes->GS->Prop} {x:GObj} {c:UInt8} {ds:List GDef} (hM:M 315=false) (hk:K (.val (.o .nilIface)) ⟨[x,iO 1 2 [c],nN 1],0,ds⟩):
  gZ Tryz.prog M (.fn 315) [.ptr 1 0,.i .u8 c.toNat] ⟨[x,E3],0,ds⟩ K:=by
 refine uN (DZ c) [1] (objs':=[x,iO 1 2 [c],nN 1]) (Lies.one' rfl (by simp[E3])) (wR _) rfl hM ?_ rfl hk;rfl
theorem a6f [MaxL] {M:FuncId->Bool} {K:GRes->GS->Prop} {x:GObj} {bs:List UInt8} {c:UInt8} {ds:List GDef} (hl:bs.length<1000000000) (hM:M 315=false) (hk:K (.val (.o .nilIface)) ⟨[x,iO 1 2 (bs++[c]),nN (bs++[c]).length],0,ds⟩):
  gZ Tryz.prog M (.fn 315) [.ptr 1 0,.i .u8 c.toNat] ⟨[x,iO 1 2 bs,nN bs.length],0,ds⟩ K:=by
 refine uN (GW bs c hl) [1,2] (objs':=[x,iO 1 2 (bs++[c]),nN (bs++[c]).length]) (s7 (by decide) rfl rfl) (wR _) rfl hM ?_ rfl hk;show[x,(iO 0 1 (bs++[c])).ren (jZ [1,2] 3),nN (bs++[c]).length]=_;rw[r6];rfl
theorem a4f [MaxL] {M:FuncId->Bool} {K:GRes->GS->Prop} {x:GObj} {c:UInt8} {t:List UInt8} {ds:List GDef} (hl:t.length<1000000000) (hM:M 180=false) (hk:K (.val (.s (c::t))) ⟨[x,iO 1 2 (c::t),.dead],0,ds⟩):
  gZ Tryz.prog M (.fn 180) [.ptr 1 0] ⟨[x,iO 1 2 (c::t),nN (c::t).length],0,ds⟩ K:=by
 refine uN (T3 c t hl) [1,2] (objs':=[x,iO 1 2 (c::t),.dead]) (s7 (by decide) rfl rfl) (wR _) rfl hM ?_ rfl hk;show[x,(iO 0 1 (c::t)).ren (jZ [1,2] 3),GObj.dead]=_;rw[r6];rfl
theorem a2o [MaxL] {M:FuncId->Bool} {K:GRes->GS->Prop} {x:GObj} {ds:List GDef} (hM:M 180=false) (hk:K (.val (.s [])) ⟨[x,E3],0,ds⟩):
  gZ Tryz.prog M (.fn 180) [.ptr 1 0] ⟨[x,E3],0,ds⟩ K:=by
 refine uN a0C [1] (objs':=[x,E3]) (Lies.one' rfl (by simp[E3])) (wR _) rfl hM ?_ rfl hk;rfl
theorem PY [MaxL] {x y z:GObj} {rest:List GObj} {bs':List UInt8} {o:GObj} (ho:∀f,o.ren f=o):
  k8 [1,2] [iO 0 1 bs',o] (x::y::z::rest)=x::iO 1 2 bs'::o::rest:=by
 rw[QP (by decide) (by simp) (by simp),r6,ho];rfl
theorem a4c [MaxL] {M:FuncId->Bool} {K:GRes->GS->Prop} {x:GObj} {rest:List GObj} {bs l:List UInt8} {ds:List GDef} (hl:bs.length+l.length<1000000000) (hM:M 178=false) (hk:K (.val (.tup [.i .i64 l.length,.o .nilIface])) ⟨x::iO 1 2 (bs++l)::nN (bs++l).length::rest,0,ds⟩):
  gZ Tryz.prog M (.fn 178) [.ptr 1 0,.s l] ⟨x::iO 1 2 bs::nN bs.length::rest,0,ds⟩ K:=
 uN (LW bs l hl) [1,2] (s7 (by decide) rfl rfl) (wR _) rfl hM (PY fun _=>rfl) rfl hk
theorem a4d [MaxL] {M:FuncId->Bool} {K:GRes->GS->Prop} {x:GObj} {rest:List GObj} {bs:List UInt8} {c:UInt8} {ds:List GDef} (hl:bs.length<1000000000) (hM:M 315=false) (hk:K (.val (.o .nilIface)) ⟨x::iO 1 2 (bs++[c])::nN (bs++[c]).length::rest,0,ds⟩):
  gZ Tryz.prog M (.fn 315) [.ptr 1 0,.i .u8 c.toNat] ⟨x::iO 1 2 bs::nN bs.length::rest,0,ds⟩ K:=
 uN (GW bs c hl) [1,2] (s7 (by decide) rfl rfl) (wR _) rfl hM (PY fun _=>rfl) rfl hk
theorem a2n [MaxL] {M:FuncId->Bool} {K:GRes->GS->Prop} {x:GObj} {rest:List GObj} {c:UInt8} {t:List UInt8} {ds:List GDef} (hl:t.length<1000000000) (hM:M 180=false) (hk:K (.val (.s (c::t))) ⟨x::iO 1 2 (c::t)::.dead::rest,0,ds⟩):
  gZ Tryz.prog M (.fn 180) [.ptr 1 0] ⟨x::iO 1 2 (c::t)::nN (c::t).length::rest,0,ds⟩ K:=
 uN (T3 c t hl) [1,2] (s7 (by decide) rfl rfl) (wR _) rfl hM (PY fun _=>rfl) rfl hk
theorem tO {c d:UInt8} (h:((c.toNat:Int) !=(d.toNat:Int))=true):c≠d:=fun e=>by simp[e] at h
theorem tP {c d:UInt8} (h:((c.toNat:Int) !=(d.toNat:Int))=false):c=d:=by
 simp at h;exact UInt8.toNat_inj.1 (by omega)
theorem a1F (r:List UInt8):rt (34::r)=some ([],r):=by
 conv=>lhs;unfold rt
 rfl
theorem a5u {c:UInt8} (h:c≠34) (h':c≠92) (r:List UInt8):rt (c::r)=(rt r).map fun p=>(c::p.1,p.2):=by
 conv=>lhs;unfold rt
 rw[aC h,aC h']
theorem a1E {e:UInt8} (h:e≠120) (r:List UInt8):rt (92::e::r)=(rt r).map fun p=>(e::p.1,p.2):=by
 conv=>lhs;unfold rt
 rw[aC (by decide),aD rfl];show(if e=120 then _ else _)=_;rw[aC h]
theorem a5t (a b:UInt8) (r:List UInt8):rt (92::120::a::b::r)=match CD a b with
  |some n=>(rt r).map fun p=>(UInt8.ofNat n::p.1,p.2)
  |none=>none:=by
 conv=>lhs;unfold rt
 rfl
def tB (bs:List UInt8):List GObj:=if bs=[] then[E3] else[iO 1 2 bs,nN bs.length]
theorem a02 [MaxL] {i:Nat} (k:Nat) (h:i+k<9223372036854775807):[GV.i .i64 ((i+k:Nat):Int)]=(GV.i .i64 (IntKind.i64.wrap ((i:Int)+(k:Int)))).cells:=by
 rw[dB (by omega) (by omega)];rfl
theorem a6j [MaxL] (s:List UInt8) (n:Nat) (hn:n<s.length) (hs:s.length<1000000):
  Ct Tryz.prog 346 [.ptr 0 0] (GZ s n) a0S ((rt (s.drop (n+1))).map fun p=>(.s p.1,GZ s (s.length - p.2.length))):=by
 refine jN oP mixed Tryz.func346 rfl (bL rfl) (fun _=>rfl) ?hh ?_
 case hh=>cases rt (s.drop (n+1))<;>rfl
 conv=>whnf
 refine⟨[.i .i64 (n+1:Nat)],⟨m5 (by omega),rL _,rfl,bL rfl⟩,?_⟩;conv=>whnf
 generalize hR:rt (s.drop (n+1))=R;refine dD (fun q:Nat×List UInt8=>q.1<=s.length+1/\q.2.length<=q.1/\(rt (s.drop q.1)).map (fun p=>(q.2++p.1,p.2))=R)
  (fun q=>[(0,.ptr 0 0),(3,.ptr 1 0)]) (fun q=>⟨GZ s q.1::tB q.2,0,[]⟩) (fun q=>s.length+2 - q.1) (n+1,[]) ⟨by omega,by simp,?_⟩ ⟨rfl,rfl,trivial⟩ rfl (fun q φ0 hq=>?_)
 ·rw[<-hR];cases rt (s.drop (n+1))<;>rfl
 obtain⟨i,bs⟩:=q;obtain⟨hi,hbl,hq⟩:=hq;replace hi:i<=s.length+1:=hi;replace hbl:bs.length<=i:=hbl;replace hq:(rt (s.drop i)).map (fun p=>(bs++p.1,p.2))=R:=hq;have wr:∀(x:GObj) (c:UInt8) (M:FuncId->Bool) (K:GRes->GS->Prop) (ds:List GDef),M 315=false->K (.val (.o .nilIface)) ⟨x::tB (bs++[c]),0,ds⟩->
   gZ Tryz.prog M (.fn 315) [.ptr 1 0,.i .u8 c.toNat] ⟨x::tB bs,0,ds⟩ K:=fun x c M K ds hM hk=>by
  have e2:tB (bs++[c])=[iO 1 2 (bs++[c]),nN (bs++[c]).length]:=aC (by simp);rw[e2] at hk;by_cases hb:bs=[]
  ·subst hb;exact a4e hM hk
  ·rw[show tB bs=[iO 1 2 bs,nN bs.length] from aC hb];exact a6f (by omega) hM hk
 conv=>whnf
 refine B0 (q:=0) (CN s i (by unfold b9;omega)) (n5 (l:=GZ s i::tB bs) rfl ?_);conv=>whnf
 have hdrop:i<s.length->s.drop i=s.getD i 0::s.drop (i+1):=fun h=>by
  rw[b8 h,aO,gL h];rfl
 apply gM<;>intro h34<;>conv=>whnf
 ·
  replace h34:=tO (d:=34) h34;refine lQ ?_;conv=>whnf
  apply gM<;>intro hge<;>conv=>whnf
  ·refine OwesO.panics ?_;have:s.drop i=[]:=eP (by simp at hge;omega);rw[this] at hq;rw[<-hq];rfl
  have hlt:i<s.length:=by simp at hge;omega
  refine B0 (q:=0) (CN s i (by unfold b9;omega)) (n5 (l:=GZ s i::tB bs) rfl ?_);conv=>whnf
  have hd:=hdrop hlt;apply gM<;>intro h92<;>conv=>whnf
  ·replace h92:=tO (d:=92) h92;refine B0 (q:=0) (CN s i (by unfold b9;omega)) (n5 (l:=GZ s i::tB bs) rfl ?_);(conv=>whnf);refine wr _ _ _ _ _ rfl ?_;(conv=>whnf);refine⟨[.i .i64 (i+1:Nat)],⟨?_,rL _,rfl,bL rfl⟩,oJ (n5 (l:=GZ s (i+1)::tB (bs++[s.getD i 0])) rfl ?_)⟩
   ·exact m5 (by omega)
   (conv=>whnf);refine⟨s.length+2 - (i+1),(by show _<s.length+2 - i;omega),(i+1,bs++[s.getD i 0]),⟨by show _<=_;omega,by show(_:List UInt8).length<=_;simp;omega,?_⟩,rfl,⟨rfl,rfl,trivial⟩,rfl⟩;rw[hd,a5u h34 h92] at hq;rw[<-hq];simp[Option.map_map,i6]
  replace h92:=tP (d:=92) h92;refine⟨[.i .i64 (i+1:Nat)],⟨?_,rL _,rfl,bL rfl⟩,oJ (n5 (l:=GZ s (i+1)::tB bs) rfl ?_)⟩
  ·exact m5 (by omega)
  conv=>whnf
  refine B0 (q:=0) (CN s (i+1) (by unfold b9;omega)) (n5 (l:=GZ s (i+1)::tB bs) rfl ?_);conv=>whnf
  apply gM<;>intro h120<;>conv=>whnf
  ·replace h120:=tO (d:=120) h120;refine B0 (q:=0) (CN s (i+1) (by unfold b9;omega)) (n5 (l:=GZ s (i+1)::tB bs) rfl ?_);(conv=>whnf);refine wr _ _ _ _ _ rfl ?_;(conv=>whnf);refine⟨[.i .i64 (i+1+1:Nat)],⟨?_,rL _,rfl,bL rfl⟩,oJ (n5 (l:=GZ s (i+1+1)::tB (bs++[s.getD (i+1) 0])) rfl ?_)⟩
   ·exact m5 (by omega)
   (conv=>whnf);refine⟨s.length+2 - (i+1+1),(by show _<s.length+2 - i;omega),(i+1+1,bs++[s.getD (i+1) 0]),⟨by show _<=_;omega,by show(_:List UInt8).length<=_;simp;omega,?_⟩,rfl,⟨rfl,rfl,trivial⟩,rfl⟩;rw[hd,h92] at hq;by_cases hl2:i+1<s.length
   ·have hd2:s.drop (i+1)=s.getD (i+1) 0::s.drop (i+1+1):=by
     rw[b8 hl2,aO,gL hl2];rfl
    rw[hd2,a1E h120] at hq;rw[<-hq];simp[Option.map_map,i6]
   ·have e1:s.drop (i+1)=[]:=eP (by omega);have e2:s.drop (i+1+1)=[]:=eP (by omega);rw[e1] at hq;show Option.map _ (rt (s.drop (i+1+1)))=R;rw[e2,<-hq];rfl
  replace h120:=tP (d:=120) h120;have hl2:i+1<s.length:=by
   rcases eO (i+1) s.length with h|h
   ·exact h
   ·rw[aO,bG h] at h120;simp at h120
  have hd2:s.drop (i+1)=120::s.drop (i+1+1):=by
   rw[b8 hl2,<-h120,aO,gL hl2];rfl
  rw[hd,h92,hd2] at hq;refine lQ ?_;conv=>whnf
  apply gM<;>intro hge2<;>conv=>whnf
  ·refine OwesO.panics ?_;have hl3:(s.drop (i+1+1)).length<=1:=by
    rw[dB (by omega) (by omega)] at hge2;simp at hge2⊢;omega
   rw[<-hq];rcases hr:s.drop (i+1+1) with _|⟨a,_|⟨b,r⟩⟩
   ·rfl
   ·rfl
   ·rw[hr] at hl3;simp at hl3
  have hl4:i+3<s.length:=by
   rw[dB (by omega) (by omega)] at hge2;simp at hge2;omega
  obtain⟨a,b,hab⟩:∃a b,s.drop (i+1+1)=a::b::s.drop (i+4):=
   ⟨s[i+2],s[i+3],by rw[b8 (by omega),b8 (by omega)]⟩
  rw[hab,a5t] at hq;refine lQ ?_;conv=>whnf
  have w1:IntKind.i64.wrap (((i+1:Nat):Int)+1)=((i+2:Nat):Int):=dB (by omega) (by omega);have w3:IntKind.i64.wrap (((i+1:Nat):Int)+3)=((i+4:Nat):Int):=dB (by omega) (by omega);refine⟨by rw[w1];omega,?_⟩;conv=>whnf
  refine⟨by rw[w3];omega,?_⟩;conv=>whnf
  refine⟨⟨by rw[w1,w3];omega,by rw[w3];omega⟩,[a,b],?_,?_⟩
  ·rw[w1,w3,aL,aL,hab,show i+4 - (i+2)=2 by omega];rfl
  conv=>whnf
  cases hx:CD a b with
  |none=>
   have hPU:SC Tryz.prog 355 [.s [a,b],.i .i64 16,.i .i64 8] [] (.val (.tup [.i .u64 0,.ifc 368 .any])) []:=by
    have:=BX a b;rw[hx] at this;exact this
   rw[hx] at hq;refine sL hPU ?_;(conv=>whnf);exact OwesO.panics (by rw[<-hq];rfl)
  |some v=>
   have hPU:SC Tryz.prog 355 [.s [a,b],.i .i64 16,.i .i64 8] [] (.val (.tup [.i .u64 v,.o .nilIface])) []:=by
    have:=BX a b;rw[hx] at this;exact this
   rw[hx] at hq;refine sL hPU ?_;(conv=>whnf);have hv:IntKind.u8.wrap (v:Int)=((UInt8.ofNat v).toNat:Int):=by
    rw[u8w];simp
   rw[hv];refine wr _ _ _ _ _ rfl ?_;(conv=>whnf);refine⟨[.i .i64 (i+3:Nat)],⟨?_,rL _,rfl,bL rfl⟩,oJ (n5 (l:=GZ s (i+3)::tB (bs++[UInt8.ofNat v])) rfl ?_)⟩
   ·exact a02 2 (by omega)
   (conv=>whnf);refine⟨[.i .i64 (i+4:Nat)],⟨?_,rL _,rfl,bL rfl⟩,oJ (n5 (l:=GZ s (i+4)::tB (bs++[UInt8.ofNat v])) rfl ?_)⟩
   ·exact m5 (by omega)
   (conv=>whnf);refine⟨s.length+2 - (i+4),(by show _<s.length+2 - i;omega),(i+4,bs++[UInt8.ofNat v]),⟨by show _<=_;omega,by show(_:List UInt8).length<=_;simp;omega,?_⟩,rfl,⟨rfl,rfl,trivial⟩,rfl⟩;rw[<-hq];simp[Option.map_map,i6]
 ·replace h34:=tP (d:=34) h34;have hlt:i<s.length:=by
   rcases eO i s.length with h|h
   ·exact h
   ·rw[aO,bG h] at h34;simp at h34
  rw[hdrop hlt,h34,a1F] at hq;refine⟨[.i .i64 (i+1:Nat)],⟨m5 (by omega),rL _,rfl,bL rfl⟩,oJ (n5 (l:=GZ s (i+1)::tB bs) rfl ?_)⟩;conv=>whnf
  have e:s.length - (s.drop (i+1)).length=i+1:=by simp;omega
  have hres:Option.map (fun p:List UInt8×List UInt8=>(GV.s p.1,GZ s (s.length - p.2.length))) R=some (.s bs,GZ s (i+1)):=by
   rw[<-hq];show some (GV.s (bs++[]),GZ s (s.length - (s.drop (i+1)).length))=_;rw[e,f5]
  by_cases hb:bs=[]
  ·subst hb;refine a2o rfl ?_;(conv=>whnf);exact kB hres rfl (.refl _) (fun _=>rfl) (.s _)
  ·obtain⟨c,t,rfl⟩:=iI hb;have e3:tB (c::t)=[iO 1 2 (c::t),nN (c::t).length]:=aC hb;rw[e3];refine a4f (by simp at hbl;omega) rfl ?_;(conv=>whnf);exact kB hres rfl (.refl _) (fun _=>rfl) (.s _)
end
section
open Go.RowKit
def mV (c:UInt8):Bool:=c !=44
def rv (l:List UInt8):Option (Val×List UInt8):=
 if l.head?=some 34 then(rt l.tail).map fun p=>(⟨2,0,p.1⟩,p.2)
 else match Lib.atoiAll (l.takeWhile mV) with
  |.ok n=>if Lib.itoa n=l.takeWhile mV then some (⟨1,n,[]⟩,l.dropWhile mV) else none
  |_=>none
theorem TO {p:UInt8->Bool}:∀{l:List UInt8} {k:Nat},(∀c∈l.take k,p c=true)->(∀c,l[k]?=some c->p c=false)->l.takeWhile p=l.take k/\l.dropWhile p=l.drop k
 |[],k,_,_=>by simp
 |c::l,0,_,h=>by
  have:=h c rfl;simp[this]
 |c::l,k+1,h1,h2=>by
  have hc:=h1 c (by simp);have ih:=TO (l:=l) (k:=k) (fun d hd=>h1 d (by simp[hd])) (fun d hd=>h2 d (by simpa using hd));simp[hc,ih]
theorem YB {l:List UInt8} {n:Int} (h:Lib.atoiAll l=.ok n): -9223372036854775808<=n/\n<=9223372036854775807:=by
 unfold Lib.atoiAll at h;split at h
 ·cases h
 ·dsimp only at h;split at h
  ·cases h
  ·cases h
  ·split at h
   ·cases h
   ·split at h
    ·cases h
    ·cases h;rename_i h1 h2;split<;>omega
theorem a4g [MaxL] (s:List UInt8) (n:Nat) (hn:n<=s.length) (hs:s.length<1000000):
  Ct Tryz.prog 335 [.ptr 0 0] (GZ s n) a0S ((rv (s.drop n)).map fun p=>(p.1.gv,GZ s (s.length - p.2.length))):=by
 refine jN oP mixed Tryz.func335 rfl (bL rfl) (fun _=>rfl) ?hh ?_
 case hh=>cases rv (s.drop n)<;>rfl
 have hm:s.length<b9:=by unfold b9;omega
 have htx:=fun h=>a6j s n h hs;conv=>whnf
 refine B0 (q:=0) (CN s n hm) ?_;conv=>whnf
 apply gM<;>intro h34<;>conv=>whnf
 ·have h34':=mO (d:=34) h34;have hlt:n<s.length:=by
   rcases eO n s.length with h|h
   ·exact h
   ·rw[aO,bG h] at h34';simp at h34'
  have hd:s.drop n=34::s.drop (n+1):=by
   rw[b8 hlt,<-h34',aO,gL hlt];rfl
  have hrv:rv (s.drop n)=(rt (s.drop (n+1))).map fun p=>(⟨2,0,p.1⟩,p.2):=by rw[hd];rfl
  replace htx:=htx hlt;rw[hrv];cases hr:rt (s.drop (n+1)) with
  |none=>
   rw[hr] at htx;refine TE (q:=0) htx ?_;(conv=>whnf);exact jK rfl
  |some p=>
   rw[hr] at htx;refine B0 (q:=0) htx ?_;(conv=>whnf);refine sT ?_;(conv=>whnf);exact kB rfl rfl (.refl _) (fun _=>rfl) (Val.cl _)
 ·have h34':=o9 (d:=34) h34;have hd34:¬(s.drop n).head?=some 34:=fun e=>by
   rw[List.head?_drop] at e;exact h34' (by rw[aO,e];rfl)
  have hrv:rv (s.drop n)=match Lib.atoiAll ((s.drop n).takeWhile mV) with
   |.ok k=>if Lib.itoa k=(s.drop n).takeWhile mV then some (⟨1,k,[]⟩,(s.drop n).dropWhile mV) else none
   |_=>none:=by unfold rv;rw[aC hd34]
  refine dD (fun i:Nat=>n<=i/\i<=s.length/\∀c∈(s.drop n).take (i - n),mV c=true)
   (fun i=>[(0,.ptr 0 0),(2,.ptr 1 0),(3,.i .i64 n)]) (fun i=>⟨[GZ s i,.box 101 [.i .i64 0,.i .i64 0,.s []]],0,[]⟩) (fun i=>s.length - i) n ⟨rL _,hn,by simp⟩ ⟨rfl,rfl,rfl,trivial⟩ rfl (fun i φ0 hi=>?_)
  obtain⟨hi1,hi2,hi3⟩:=hi;conv=>whnf
  refine lQ ?_;conv=>whnf
  have fin:(∀c,(s.drop n)[i - n]?=some c->mV c=false)->(s.drop n).takeWhile mV=(s.drop n).take (i - n)/\(s.drop n).dropWhile mV=s.drop i:=fun h=>by
   have:=TO (l:=s.drop n) (k:=i - n) hi3 h;rw[j7,show n+(i - n)=i by omega] at this;exact this
  have hw:(s.drop n).take (i - n)=(s.drop n).take (i - n):=rfl;refine bZ (fun hlt=>?in1) (fun hlt=>?in2)
  case' in1=>
   have hlt':i<s.length:=by simp at hlt;omega
   have hgi:s[i]?=some (s.getD i 0):=by rw[aO,gL hlt'];rfl
   have hdi:(s.drop n)[i - n]?=some (s.getD i 0):=by rw[gI,show n+(i - n)=i by omega,hgi]
   (conv=>whnf);refine⟨jR _,s.getD i 0,by simpa using hgi,?_⟩;(conv=>whnf);refine bZ (fun hc=>?go) (fun hc=>?out)
   case' go=>
    (conv=>whnf);refine⟨[.i .i64 (i+1:Nat)],⟨m5 (by omega),rL _,rfl,bL rfl⟩,?_⟩;(conv=>whnf);have hc':=tO (d:=44) hc;refine fR (i+1) ⟨by omega,hlt',?_⟩ (by omega) ⟨rfl,rfl,rfl,trivial⟩ rfl;intro c hcm;rw[show i+1 - n=i - n+1 by omega,aT,hdi] at hcm;rcases List.mem_append.1 hcm with h|h
    ·exact hi3 c h
    ·have h:=List.mem_singleton.1 (show c∈[s.getD i 0] from h);subst h;exact bne_iff_ne.2 hc'
   case' out=>
    have hc':=tP (d:=44) hc;obtain⟨ht,hdr⟩:=fin (fun c h=>by rw[hdi] at h;cases h;exact(aR mV hc').trans rfl);clear hdi hc hc' hlt' hgi
  case' in2=>
   have hge:i=s.length:=by simp at hlt;omega
   obtain⟨ht,hdr⟩:=fin (fun c h=>by rw[bG (by simp;omega)] at h;cases h);clear hge
  all_goals
   clear fin hlt;rw[ht,hdr] at hrv;(conv=>whnf);refine lQ ?_;(conv=>whnf);refine⟨jR _,?_⟩;(conv=>whnf);refine⟨jR _,?_⟩;(conv=>whnf);refine⟨⟨by simpa using hi1,by simpa using hi2⟩,(s.drop n).take (i - n),by simp,?_⟩;(conv=>whnf);have hl:((s.drop n).take (i - n)).length<=281474976710656:=by simp;omega
   have no:(∀v,Lib.atoiAll ((s.drop n).take (i - n))≠ .ok v)->(match Lib.atoiAll ((s.drop n).take (i - n)) with
     |.ok k=>if Lib.itoa k=(s.drop n).take (i - n) then some ((⟨1,k,[]⟩,s.drop i):Val×List UInt8) else none
     |_=>none)=none:=fun h=>by
    split
    ·rename_i v e;exact absurd e (h v)
    ·rfl
   generalize hw0:(s.drop n).take (i - n)=w0 at*;by_cases hex:∃v,Lib.atoiAll w0=.ok v
   ·obtain⟨v,hv⟩:=hex;obtain⟨lo,hi⟩:=YB hv;have hrv1:rv (s.drop n)=if Lib.itoa v=w0 then some (⟨1,v,[]⟩,s.drop i) else none:=by rw[hrv,hv]
    refine sL (NH w0 (by omega) v hv) ?_;(conv=>whnf);refine lQ ?_;(conv=>whnf);refine sL (VW v lo hi) ?_;(conv=>whnf);refine⟨jR _,?_⟩;(conv=>whnf);refine⟨jR _,?_⟩;(conv=>whnf);refine⟨⟨by simpa using hi1,by simpa using hi2⟩,w0,by simpa using hw0.symm,?_⟩;(conv=>whnf);apply gM<;>intro hne<;>conv=>whnf
    ·exact OwesO.panics (by rw[hrv1,aC (by simpa using hne)];rfl)
    ·rw[aD (by simpa using hne)] at hrv1;refine sT ?_;(conv=>whnf);refine kB (cs':=[.s s,.i .i64 i]) ?_ rfl (.refl _) (fun _=>rfl) (Val.cl ⟨1,v,[]⟩);rw[hrv1];show some (_,GZ s (s.length - (s.drop i).length))=_;rw[show s.length - (s.drop i).length=i by simp;omega];rfl
   ·obtain⟨v,hv⟩:=FS w0 hl (fun v e=>hex ⟨v,e⟩);refine sL hv ?_;(conv=>whnf);refine lQ ?_;(conv=>whnf);exact OwesO.panics (by rw[hrv,no (fun v e=>hex ⟨v,e⟩)];rfl)
end
section
open Go.RowKit
theorem PX [MaxL] (l v:List UInt8):SC Tryz.prog 235 [.s l,.s v] [] (.val (.b (v.isPrefixOf l))) []:=by
 refine cO Tryz.func235 rfl ?_;conv=>whnf
 apply gM<;>intro h<;>conv=>whnf
 ·have h1:v.length<=l.length:=by simp at h;omega
  refine⟨jR _,⟨zL _,by simpa using h1⟩,l.take v.length,by simp,?_⟩;conv=>whnf
  refine d6 ?_;rw[dQ];simp[List.isPrefixOf_iff_prefix,List.prefix_iff_eq_take];exact eq_comm
 ·refine d6 ?_;have:¬v<+:l:=fun hp=>by have:=hp.length_le;simp at h;omega
  rw[eq_comm,<-Bool.not_eq_true,List.isPrefixOf_iff_prefix];exact this
theorem AN [MaxL] (l v:List UInt8):SC Tryz.prog 291 [.s l,.s v] [] (.val (.b (v.isPrefixOf l))) []:=by
 refine cO Tryz.func291 rfl ?_;conv=>whnf
 refine sL (PX l v) ?_;conv=>whnf
 exact d6 rfl
def rd (s:List UInt8) (n:Nat) (d:Int):GObj:=.box 290 [.s s,.i .i64 n,.i .i64 d]
def nb (s:List UInt8) (n:Nat):Nat:=n+((s.drop n).takeWhile (· ==32)).length
theorem a55 {s:List UInt8} {n:Nat} (h:∀b,s[n]?=some b->b≠32):nb s n=n:=by
 unfold nb;cases hd:s.drop n with
 |nil=>rfl
 |cons b t=>
  have:s[n]?=some b:=by rw[<-List.head?_drop,hd];rfl
  have:=h b this;simp[this]
theorem a6K {s:List UInt8} {n:Nat} (h:s[n]?=some 32):nb s n=nb s (n+1):=by
 unfold nb;obtain⟨hn,h1⟩:=List.getElem?_eq_some_iff.1 h;rw[b8 hn,gS,h1];simp;omega
theorem a2v [MaxL] (s:List UInt8) (n:Nat) (d:Int) (hn:n<=s.length) (hs:s.length<b9):
  SC Tryz.prog 290 [.ptr 0 0] [rd s n d] (.val (.tup [])) [rd s (nb s n) d]:=by
 unfold b9 at hs;refine cO Tryz.func290 rfl ?_;conv=>whnf
 refine dD (fun i:Nat=>i<=s.length/\nb s i=nb s n) (fun i=>[(0,.ptr 0 0)]) (fun i=>⟨[rd s i d],0,[]⟩) (fun i=>s.length - i) n ⟨hn,rfl⟩ ⟨rfl,trivial⟩ rfl (fun i φ0 hi=>?_);conv=>whnf
 refine lQ ?_;conv=>whnf
 apply gM<;>intro h<;>conv=>whnf
 ·have hlt:i<s.length:=by simp at h;omega
  refine⟨jR _,s[i],by simp,?_⟩;conv=>whnf
  apply gM<;>intro hb<;>conv=>whnf
  ·have hb':s[i]?=some 32:=by rw[gL hlt,mO (d:=32) hb]
   refine⟨[.i .i64 (i+1:Nat)],⟨m5 (by omega),rL _,rfl,bL rfl⟩,?_⟩;(conv=>whnf);exact fR (i+1) ⟨hlt,by rw[<-hi.2,a6K hb']⟩ (by omega) ⟨rfl,trivial⟩ rfl
  ·have hb':=o9 (d:=32) hb;have:nb s i=i:=a55 fun b hb2=>by rw[gL hlt] at hb2;cases hb2;exact hb'
   rw[<-hi.2,this];exact jU rfl (.refl _) (fun _=>rfl) (fun _=>rfl)
 ·have:nb s i=i:=a55 fun b hb2=>by
   have:=(List.getElem?_eq_some_iff.1 hb2).1;simp at h;omega
  rw[<-hi.2,this];exact jU rfl (.refl _) (fun _=>rfl) (fun _=>rfl)
end
