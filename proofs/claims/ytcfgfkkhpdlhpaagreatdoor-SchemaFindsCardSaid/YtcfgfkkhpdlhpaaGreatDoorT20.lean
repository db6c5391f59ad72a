/-
  A part of the proof of SchemaFinds.
-/
import Derived.Test.YtcfgfkkhpdlhpaaGreatDoorT19
set_option linter.all false
set_option maxRecDepth 100000
namespace Go.Proofs.YtcfgfkkhpdlhpaaGreatDoor
open Go.RowKit Go.Sort
theorem Base.below {w w':World} (h:Below w.heap.size w w'):Base (fun _=>False) w w':=⟨h.os,h.tape,h.output,h.size,fun i hi _=>h.block i hi⟩
theorem Base.bytes (w:World) (e:TypeId) (s:ByteArray):Base (fun _=>False) w (Lib.bytesWorld w e s):=.below (Lib.bytesWorld_below w e s)
theorem a15 [MaxL] {C:Cx} {σ:GS} {w:World} (hr:Rel C σ w w) {P:Program} {g:Nat} {name:String} {cs:List GV} {vs:List Value} (hn:P.globalNamed name=some g) (ht:Globals.tab g=some cs) (hlen:vs.length=cs.length)
  (hv:∀(j:Nat) x u,cs[j]?=some x->VR C x u->vs[j]?=some u):w.var? P name=some vs.toArray:=by
 obtain⟨_,c,t,fr,ho,hsz⟩:=hr.gs g cs ht;unfold World.var?;rw[hn];show(match w.heap[g]? with|some (.cells cs _ _)=>some cs|_=>none)=_;rw[ho];simp only[j6];apply Array.ext (by simp[hsz,hlen]);intro i h1 h2;have hi:i<cs.length:=by omega
 obtain⟨u,hfx,hvr⟩:=hr.gl g cs i cs[i] ht (gL hi);have hc:=hr.fxc _ _ _ hfx;have hu:=hv i _ u (gL hi) (hvr C fun _ _ _ h=>h);unfold World.cell? at hc;rw[ho] at hc;simp at hc;rw[aR h1] at hc;rw[gL (by simpa using h2)] at hu;simp at hc hu⊢;rw[hc,hu]
theorem LJ [MaxL] (n:Int) (h0: -9223372036854775808<=n) (h1:n<=9223372036854775807):SC Tryz.prog 58 [.i .i64 n] [] (.val (.s (Lib.itoa n))) []:=by
 refine SC.of_calls fun C w vs hr hv=>?_;obtain⟨v,vs',e,hv1,hv2⟩:=hv.cons_inv;have:vs'=[]:=aN (by simpa using hv2.1);subst this;obtain rfl:vs= #[v]:=by rw[<-fK (xs:=vs),e]
 cases hv1;have htab:Lib.TabIs Tryz.prog w "internal/strconv.uint64pow10" .u64 Lib.pow10Tab:=by
  refine a15 hr (g:=1) (cs:=XB) (by kernel_rfl) rfl (by kernel_rfl) (fun j x u hx hu=>?_);have key:XB=Lib.pow10Tab.map fun z=>GV.i .u64 z:=by kernel_rfl
  rw[key,aM,aI] at hx;obtain⟨z,hz,rfl⟩:=hx;cases hu;rw[aM,hz];rfl
 refine(Tryz.strconv_Itoa n h0 h1 w htab).mono ?_;rintro e w' ⟨he,k,os,rfl⟩;exact⟨_,he,Base.grow_drew w k os,.s _⟩
theorem CB [MaxL] (l:List UInt8) (hl:l.length<=9223372036854775806) (v:Int) (h:Lib.atoiAll l=.ok v):SC Tryz.prog 244 [.s l] [] (.val (.tup [.i .i64 v,.o .nilIface])) []:=by
 refine SC.of_calls fun C w vs hr hv=>?_;obtain⟨u,vs',e,hv1,hv2⟩:=hv.cons_inv;have:vs'=[]:=aN (by simpa using hv2.1);subst this;obtain rfl:vs= #[u]:=by rw[<-fK (xs:=vs),e]
 cases hv1;refine(Tryz.strconv_Atoi_ok ⟨l.toArray⟩ (by simpa[ByteArray.size] using hl) v (by simpa using h) w).mono ?_;rintro e w' ⟨he,hw⟩;refine⟨_,he,?_,.tup rfl (fun j g u h1 h2=>?_)⟩
 ·rcases hw with rfl|⟨t,rfl⟩
  ·exact .refl _ _
  ·exact .bytes _ _ _
 ·rcases j with _|_|j
  ·simp at h1 h2;subst h1;subst h2;exact .i _ _
  ·simp at h1 h2;subst h1;subst h2;exact .o rfl
  ·simp at h1
theorem xX [MaxL] (l:List UInt8) (hl:l.length<=281474976710656) (h:∀v,Lib.atoiAll l≠ .ok v):∃n,SC Tryz.prog 244 [.s l] [] (.val (.tup [.i .i64 n,.ifc 317 .any])) []:=by
 have err:∀{C:Cx} {w:World} (g:Nat) (x:GV) (t:TypeId),Rel C ⟨[],0,[]⟩ w w->Globals.tab g=some [.ifc t x]->∃p,w.cell? ⟨g,0,none⟩=some (.iface t p):=fun g x t hr ht=>by
  obtain⟨u,hfx,hvr⟩:=hr.gl g _ 0 _ ht rfl;have:=hvr _ (fun _ _ _ h=>h);cases this;exact⟨_,hr.fxc _ _ _ hfx⟩
 have two:∀{C:Cx} {n:Int} {v:Value},VR C (.tup [.i .i64 n,.ifc 317 .any]) (.tuple #[.int .i64 n,.iface 317 v]):=fun{C n v}=>.tup rfl (fun j g u h1 h2=>by
  rcases j with _|_|j
  ·simp at h1 h2;subst h1;subst h2;exact .i _ _
  ·simp at h1 h2;subst h1;subst h2;exact .ifc (.any _)
  ·simp at h1)
 have arg:∀{C:Cx} {vs:Array Value},VRs C [.s l] vs.toList->vs= #[.string ⟨l.toArray⟩]:=fun{C vs} hv=>by
  obtain⟨u,vs',e,hv1,hv2⟩:=hv.cons_inv;have:vs'=[]:=aN (by simpa using hv2.1);subst this;cases hv1;rw[<-fK (xs:=vs),e]
 rcases hr:Lib.atoiAll l with v|_|_
 ·exact absurd hr (h v)
 ·skip;refine⟨0,SC.of_calls fun C w vs hrel hv=>?_⟩;obtain rfl:=arg hv;obtain⟨p,hp⟩:=err 4 _ _ hrel rfl;refine(Any.strconv_Atoi_syntax Tryz.laysC172 ⟨l.toArray⟩ (by simpa[ByteArray.size] using hl) (by simpa using hr) _ w hp (.inr ⟨_,_,rfl⟩)).mono ?_;rintro e w' ⟨N,he,_,_,hb⟩;exact⟨_,he,.below hb,two⟩
 ·skip;refine⟨Lib.atoiSat l,SC.of_calls fun C w vs hrel hv=>?_⟩;obtain rfl:=arg hv;obtain⟨p,hp⟩:=err 5 _ _ hrel rfl;refine(Tryz.strconv_Atoi_range ⟨l.toArray⟩ (by simpa[ByteArray.size] using hl) (by simpa using hr) _ w hp (.inr ⟨_,_,rfl⟩)).mono ?_;rintro e w' ⟨N,he,_,_,hb⟩;exact⟨_,he,.below hb,two⟩
theorem a2F [MaxL] (xs:List (List UInt8)) (sep:List UInt8) (h1:xs.length<=140737488355328) (h2:(Lib.join xs sep).length<=140737488355328):SC Tryz.prog 134 [.sl .none (xs.map .s),.s sep] [] (.val (.s (Lib.join xs sep))) []:=by
 refine SC.of_calls fun C w vs hr hv=>?_;obtain⟨u,vs',e,hv1,hv2⟩:=hv.cons_inv;obtain⟨u2,vs'',rfl,hv3,hv4⟩:=hv2.cons_inv;have:vs''=[]:=aN (by simpa using hv4.1);subst this;obtain rfl:vs= #[u,u2]:=by rw[<-fK (xs:=vs),e]
 cases hv3;cases hv1 with
 |sl esz b off us hn hc ha hw hx hvv ht=>
 rename_i a n c;have hn':n=xs.length:=by simpa using hn
 subst hn';have he1:∀(j:Nat) x,xs[j]?=some x->esz=1:=fun j x hj=>by
  have:=hw (.s x) (List.mem_map.2 ⟨x,List.mem_iff_getElem?.2 ⟨j,hj⟩,rfl⟩);simpa[GV.cells] using this.symm
 by_cases h0:xs.length=0
 ·have:xs=[]:=aN h0;subst this;refine(Tryz.strings_Join_none a c ⟨sep.toArray⟩ w).mono ?_;rintro e w' ⟨he,rfl⟩;exact⟨_,he,.refl _ _,.s []⟩
 ·rcases ha with⟨rfl,hc0⟩|rfl|h9
  ·omega
  rotate_left
  ·omega
  ·have hcell:∀(j:Nat) x,xs[j]?=some x->w.cell? ⟨b,off+j,none⟩=some (.string ⟨x.toArray⟩):=fun j x hj=>by
    have e1:=he1 j x hj;subst e1;have hm:(xs.map GV.s)[j]?=some (.s x):=by rw[aM,hj];rfl
    have q1:=hr.fxc _ _ _ (hx j (.s x) 0 (.s x) hm rfl);have q2:=hvv j (.s x) 0 (.s x) hm rfl;rw[show off+j*1+0=off+j by omega] at q1;rw[q1];generalize us (j*1+0)=z at q2;cases q2;rfl
   have hbk:b<w.heap.size:=by
    have:=hcell 0 xs[0] (gL (by omega));exact block_lt_of_cell this
   have key:(xs.map fun x=>(⟨x.toArray⟩:ByteArray)).map (·.data.toList)=xs:=by rw[List.map_map];simp[cU]
   have:=Tryz.strings_Join b off c (xs.map fun x=>⟨x.toArray⟩) ⟨sep.toArray⟩ w (fun j x hj=>by
    rw[aM,aI] at hj;obtain⟨y,hy,rfl⟩:=hj;exact hcell j y hy) hbk (by simpa using h1) (by simpa using hc) (by rw[key];simpa using h2)
   rw[key] at this;simp only[bQ] at this;refine this.mono ?_;rintro e w' ⟨he,hb⟩;exact⟨_,he,.below hb,.s _⟩
end Go.Proofs.YtcfgfkkhpdlhpaaGreatDoor
namespace Go.Proofs.YtcfgfkkhpdlhpaaGreatDoor
open Go.RowKit
def low (c:UInt8):Int:=bits .or .u8 c.toNat 32
theorem ZZ:∀n:Fin 256,0<=bits .or .u8 (n:Nat) 32/\bits .or .u8 (n:Nat) 32<256:=by decide+kernel
theorem a1q (c:UInt8):0<=low c/\low c<256:=ZZ ⟨c.toNat,cJ c⟩
def sM (c:UInt8):Option Nat:=if 48<=c.toNat/\c.toNat<=57 then some (c.toNat - 48) else if 97<=low c/\low c<=122 then(if low c<103 then some (low c - 87).toNat else none) else none
theorem a05 {c:UInt8} {h:Nat} (e:sM c=some h):h<16:=by
 unfold sM at e;split at e
 ·cases e;omega
 ·split at e
  ·split at e
   ·cases e;omega
   ·cases e
  ·cases e
def AC (a b:UInt8):Option Nat:=match sM a with
 |some x=>match sM b with
  |some y=>some (16*x+y)
  |none=>none
 |none=>none
theorem a0S [MaxL] (c:UInt8):SC Tryz.prog 334 [.i .u8 c.toNat] [] (.val (.i .u8 (low c))) []:=by
 refine cZ Tryz.func334 rfl ?_;conv=>whnf
 exact bI rfl
theorem YU {n:Int} (h0:0<=n) (h1:n<256):IntKind.u8.wrap n=n:=by
 unfold IntKind.wrap;simp[IntKind.signed,IntKind.bits];omega
theorem u8w (n:Int):IntKind.u8.wrap n=n%256:=by unfold IntKind.wrap;simp[IntKind.signed,IntKind.bits]
theorem YV (n:Int):IntKind.u64.wrap n=n%18446744073709551616:=by unfold IntKind.wrap;simp[IntKind.signed,IntKind.bits]
theorem LH [MaxL] (a b:UInt8):SC Tryz.prog 324 [.s [a,b],.i .i64 16,.i .i64 8] [] (.val (match AC a b with|some n=>.tup [.i .u64 n,.o .nilIface]|none=>.tup [.i .u64 0,.ifc 314 (.i .i64 2)])) []:=by
 refine cZ Tryz.func324 rfl ?_;conv=>whnf
 refine⟨by decide,?_⟩;conv=>whnf
 refine dG (fun q:Nat×Nat=>(q=(0,0))∨(∃h,sM a=some h/\q=(1,h))∨(∃h k,sM a=some h/\sM b=some k/\q=(2,16*h+k)))
  (fun q=>[(0,.s [a,b]),(1,.i .i64 16),(8,.b false),(10,.i .u64 1152921504606846976),(11,.i .u64 255),(12,.b false),(13,.i .u64 q.2),(99,.sl .none [.i .u8 a.toNat,.i .u8 b.toNat]),(100,.i .i64 2),(101,.i .i64 q.1)]) (fun _=>⟨[],0,[]⟩) (fun q=>2 - q.1) (0,0) (.inl rfl) ⟨rfl,rfl,rfl,rfl,?_,rfl,rfl,rfl,rfl,rfl,trivial⟩ rfl (fun q φ0 hq=>?_)
 ·show GV.i .u64 (IntKind.u64.wrap (IntKind.u64.wrap (1*2^min (IntKind.u64.wrap 8).toNat 64) - 1))=GV.i .u64 255;rw[show IntKind.u64.wrap (IntKind.u64.wrap (1*2^min (IntKind.u64.wrap 8).toNat 64) - 1)=255 by decide+kernel]
 conv=>whnf
 refine aF (fun h=>?_) (fun h=>?_)<;>conv=>whnf
 ·obtain⟨c,hc,hlt,hacc,hno,hyes⟩:∃c,([.i .u8 a.toNat,.i .u8 b.toNat]:List GV)[q.1]?=some (.i .u8 c.toNat)/\q.1<2/\q.2<16/\(sM c=none->AC a b=none)/\
    ∀d,sM c=some d->(((q.1+1,16*q.2+d)=(0,0))∨(∃h,sM a=some h/\(q.1+1,16*q.2+d)=(1,h))∨(∃h k,sM a=some h/\sM b=some k/\(q.1+1,16*q.2+d)=(2,16*h+k))):=by
   rcases hq with rfl|⟨h1,e1,rfl⟩|⟨h1,k1,e1,e2,rfl⟩
   ·exact⟨a,rfl,by omega,by omega,fun e=>by simp[AC,e],fun d e=>.inr (.inl ⟨d,e,by simp⟩)⟩
   ·exact⟨b,rfl,by simp,a05 e1,fun e=>by simp[AC,e1,e],fun d e=>.inr (.inr ⟨h1,d,e1,e,by simp⟩)⟩
   ·simp at h
  refine⟨cN _,_,by rw[aC];exact hc,rfl,?_⟩;conv=>whnf
  have fin:∀{σ':GS},sM c=none->Owes [] (.val (match AC a b with|some n=>.tup [.i .u64 n,.o .nilIface]|none=>.tup [.i .u64 0,.ifc 314 (.i .i64 2)])) [] (.val (.tup [.i .u64 0,.ifc 314 (.i .i64 2)])) σ':=fun e=>by
   rw[hno e];exact oJ rfl (fun _=>rfl)
  have hlow:=a1q c;have hcl:=cJ c;repeat' first
   |(refine aF (fun _=>?_) (fun _=>?_)<;>first|(exfalso;simp only[u8w,YV,aL,bM,dE,iG,ne_eq] at*;omega)|conv=>whnf)
   |(refine bG (a0S c) (wR _) rfl (fun _=>rfl) (.i _ _) ?_;conv=>whnf)
  all_goals first
   |(refine fin ?_;unfold sM;simp only[u8w,YV,aL,bM,dE,iG,ne_eq] at*;(repeat' split)<;>first|rfl|(exfalso;omega))
   |skip
  all_goals
   have e:∃d,sM c=some d/\16*q.2+d<256:=by
    unfold sM;simp only[u8w,YV,aL,bM,dE,iG,ne_eq] at*
    (repeat' split)<;>first|exact⟨_,rfl,by omega⟩|(exfalso;omega)
   obtain⟨d,e,hd⟩:=e;refine⟨2 - (q.1+1),by show 2 - (q.1+1)<2 - q.1;omega,(q.1+1,16*q.2+d),hyes d e,rfl,⟨rfl,rfl,rfl,rfl,rfl,rfl,?_,rfl,rfl,b8 (by omega),trivial⟩,rfl⟩;refine aQ (GV.i .u64) ?_;simp only[u8w,YV] at*;unfold sM at e;simp only[aL,bM,dE,iG,ne_eq] at*;have e':=e;split at e'
   ·cases e';omega
   ·split at e'
    ·split at e'
     ·cases e';omega
     ·cases e'
    ·cases e'
 ·obtain⟨h1,k1,e1,e2,rfl⟩:∃h k,sM a=some h/\sM b=some k/\q=(2,16*h+k):=by
   rcases hq with rfl|⟨h1,e1,rfl⟩|⟨h1,k1,e1,e2,rfl⟩
   ·simp at h
   ·simp at h
   ·exact⟨h1,k1,e1,e2,rfl⟩
  refine oJ ?_ (fun _=>?_)
  ·simp only[AC,e1,e2];rfl
  ·simp only[AC,e1,e2];rfl
variable [Globals]
def M4 (r:Nat) (ds:List GDef) (res:GRes) (σ':GS):GX->Fr->GS->Prop
 |.normal,_,σ2=>kO r ds none σ2=some (res,σ')
 |.ret,_,σ2=>kO r ds (some .ret) σ2=some (res,σ')
 |.exit id,_,σ2=>kO r ds (some (.exit id)) σ2=some (res,σ')
 |.panic _,_,_=>False
def M3 (P:Program) (M:FuncId->Bool) (r n:Nat) (body:Code) (ds:List GDef) (res:GRes) (σ':GS):GX->Fr->GS->Prop
 |.normal,φ1,σ1=>match σ1.objs[r]? with
  |some (.loop .ready pe' n' φ' ps' asg' body' rd')=>s5 σ1 r (.loop .busy pe' n' φ' ps' asg' body' rd') fun s=>PI P M (some r) n body φ1 s (M4 r ds res σ')
  |_=>False
 |_,_,_=>False
theorem Fact.yld {P:Program} (M:FuncId->Bool) (hm:P.follows .mixedOrders=true) {r n rd:Nat} {pe:Option Code} {φ:Fr} {ps:Array Tmp} {asg body:Code} {σ σ':GS} {args:List GV} {res:GRes}
  (ho:σ.objs[r]?=some (.loop .ready pe n φ ps asg body rd)) (hlen:args.length=ps.size) (hps:ps.toList.all (fun t=>Nat.blt t n)=true) (hlo:σ.lo=0) (hh:σ.objs.all GObj.notHeld=true) (hsz:σ.objs.length<=σ'.objs.length) (hlo':σ'.lo=0) (hds:σ'.ds=σ.ds)
  (h:PI P M (some r) n asg ((ps.toList.zip args).foldl (fun φ p=>GJ φ p.1 p.2) φ) {σ with ds:=[]} (M3 P M r n body σ.ds res σ')):Fact P (.yld r) args σ res σ':=by
 have hnh:∀k:Nat,σ.objs[k]?≠some .held:=fun k hk=>by
  have:=List.all_eq_true.1 hh .held (List.mem_iff_getElem?.2 ⟨k,hk⟩);cases this
 have hps':∀t∈ps.toList,t<n:=fun t ht=>by
  have:=List.all_eq_true.1 hps t ht;simpa[Nat.blt_eq] using this
 refine⟨⟨by rw[hlo',hlo],hsz,fun _ k hk=>by omega,fun k hk=>absurd hk (hnh k)⟩,hds,fun w0 C w vs hr hv b hb=>?_⟩;obtain⟨h0,b',L,h1,h2,h3,h4,h5,h6,h7,h8,h9,h10⟩:=hr.obj r _ ho;rw[hb] at h1;cases h1;have hvs:vs.size=L.params.size:=by rw[h5,<-hlen];have:=hv.1;simpa using this
 refine⟨L.fn,_,L.assign,L.body,run_yield h2 hvs,?_⟩;obtain⟨q1,q2⟩:=C5 ps.toList args vs.toList φ L.tmps hv hps' h9 h8;have etm:(L.params.zip vs).foldl (fun(tmps:Array Value) (x:Tmp×Value)=>tmps.setIfInBounds x.1 x.2) L.tmps=(ps.toList.zip vs.toList).foldl (fun(tmps:Array Value) p=>tmps.setIfInBounds p.1 p.2) L.tmps:=by
  rw[h5,<-Array.foldl_toList,Array.toList_zip]
 refine roundIn_of_wpIn (F:=Fence.wide) trivial ?_;rw[h6,h7];show Code.wpIn (FW (some b)) 0 P asg _ _ w;refine xO (ro:=some r) hm asg _ _ C (some b) _ _ _ w h hb (hr.ds _) (by rw[etm];exact q1) (by rw[etm];exact q2) trivial (fun x φ1 σ1 hk=>?_);cases x with
 |exit id=>exact hk.elim
 |ret=>exact hk.elim
 |panic g=>exact hk.elim
 |normal=>
 intro D a1 w1 hl hf1 hn1 hd1 hr1;simp only[M3] at hk;split at hk
 ·rename_i pe' n' φ' ps' asg' body' rd' ho1;have hk:=mI (K:=fun s=>PI P M (some r) n body φ1 s (M4 r σ.ds res σ')) hk;have hbD:D.bk r=some b:=hl.bk _ _ hb;obtain⟨g0,b',L1,g1,g2,g3,g4,g5,g6,g7,g8,g9,g10⟩:=hr1.obj r _ ho1;rw[hbD] at g1;cases g1;have hlt:b<w1.heap.size:=(Array.getElem?_eq_some_iff.1 g2).1;refine⟨_,run_beginRound g2 g3,?_⟩;have hr2:Rel D (gset σ1 r (.loop .busy pe' n' φ' ps' asg' body' rd')) w0 (w1.putObj b (.loop {L1 with state:=.busy})):=
   hr1.putLoop (List.getElem?_eq_some_iff.1 ho1).1 hbD _ ⟨g0,b,_,hbD,World.putObj_heap_same hlt,rfl,g4,g5,g6,g7,g8,g9,g10⟩
  show Code.wpIn (FW (some b)) 0 P body _ _ _;refine xO (ro:=some r) hm body _ _ D (some b) _ _ _ _ hk hbD hr2 hf1 hn1 hd1 (fun x φ2 σ2 hend=>?_);intro E a2 w2 hE hf2 hn2 hd2 hr3;have done:∀{jump:Option Code},kO r σ.ds jump σ2=some (res,σ')->∃v w',(Instr.endRound b jump).run P w2=.ok v w'/\∃D,C.le D/\Rel D σ' w0 w'/\ERel D res (.returned v):=fun{jump} he=>by
   by_cases hlo2:σ2.lo<=r
   ·obtain⟨v,w3,p1,F,p2,p3,p4⟩:=(p8 (P:=P) (w0:=w0) (C:=E) (b:=b) (w:=w2) hlo2 he).2.2 hr3 (hE.bk _ _ hbD);exact⟨v,w3,p1,F,(hl.trans hE).trans p2,p3,p4⟩
   ·exfalso;unfold kO at he;split at he
    ·cases he;have:σ2.lo=0:=hlo';omega
    ·cases he
  cases x with
  |normal=>obtain⟨v,w3,p1,p2⟩:=done hend;exact⟨v,w3,p1,p2⟩
  |ret=>obtain⟨v,w3,p1,p2⟩:=done hend;exact⟨v,w3,p1,p2⟩
  |exit id=>obtain⟨v,w3,p1,p2⟩:=done hend;exact⟨v,w3,p1,p2⟩
  |panic g=>exact hend.elim
 ·exact hk.elim
theorem GY {P:Program} {M:FuncId->Bool} {r:Nat} {args:List GV} {res:GRes} {σ σ':GS} {K:GRes->GS->Prop} (h:Fact P (.yld r) args σ res σ') (hk:K res σ'):iU P M (.yld r) args σ K:=⟨res,σ',h,(fun k e=>by cases e),hk⟩
theorem UF {N i:Nat}:iT (List.range N) N i=i:=by
 by_cases h:i<N
 ·rw[kF (by simpa using h)];simp
 ·rw[x7 (by simp;omega)];simp;omega
theorem L8 {N:Nat}:iT (List.range N) N=id:=funext fun i=>UF
mutual
theorem GV.ren_id:∀g:GV,g.ren id=g
 |.agg cs=>by rw[GV.ren,GV.renL_id cs]
 |.tup cs=>by rw[GV.ren,GV.renL_id cs]
 |.ifc t g=>by rw[GV.ren,GV.ren_id g]
 |.fn k a c=>by rw[GV.ren,GV.renL_id a,GV.renL_id c]
 |.sl k xs=>by rw[GV.ren,GV.renL_id xs];cases k<;>rfl
 |.ptr r off=>rfl
 |.snap cs off=>by rw[GV.ren,GV.renL_id cs]
 |.mp r=>rfl
 |.rs r off esz n c=>rfl
 |.yld r=>rfl
 |.dat r cs=>by rw[GV.ren,GV.renL_id cs];rfl
 |.glb g off=>rfl
 |.b t=>rfl
 |.i k n=>rfl
 |.s l=>rfl
 |.o v=>rfl
 |.any=>rfl
theorem GV.renL_id:∀l:List GV,GV.renL id l=l
 |[]=>rfl
 |x::xs=>by rw[GV.renL,GV.ren_id x,GV.renL_id xs]
end
theorem FK (l:List GV):l.map (GV.ren id)=l:=by rw[<-cQ,GV.renL_id]
theorem GObj.ren_id (x:GObj):x.ren id=x:=by
 cases x with
 |box T cs=>show GObj.box T (cs.map (GV.ren id))=_;rw[FK]
 |mp es=>show GObj.mp (es.map fun e=>(e.1.ren id,e.2.ren id))=_;simp[GV.ren_id]
 |loop st pe n φ ps asg body rd=>show GObj.loop st pe n (fun t=>(φ t).ren id) ps asg body rd=_;simp[GV.ren_id]
 |_=>rfl
theorem Lies.all (s:List GObj) (hh:∀x∈s,x≠ .held):Lies (List.range s.length) s s:=
 ⟨List.nodup_range,by simp,fun i k x h1 h2=>by
  rw[L8,GObj.ren_id];obtain⟨h3,h4⟩:=List.getElem?_eq_some_iff.1 h1;simp at h4;subst h4;exact h2,hh⟩
theorem GRes.ren_id (r:GRes):r.ren id=r:=by cases r<;>(simp only[GRes.ren];rw[GV.ren_id])
theorem MI {s s':List GObj} (h:s.length<=s'.length):iI (List.range s.length) s' s=s':=by
 apply dS;intro r;rw[iR (fun k hk=>by simpa using hk) (by simpa using h),L8];unfold gX;by_cases hr:r<s.length
 ·rw[aG hr];have:(List.range s.length).idxOf? r=some r:=uY List.nodup_range (by simp[hr]);rw[this];show Option.map (GObj.ren id) s'[r]?=s'[r]?;cases s'[r]? with
  |none=>rfl
  |some x=>rw[eL,GObj.ren_id]
 ·rw[aE hr];simp only[List.length_range];rw[show s.length+(r - s.length)=r by omega];cases s'[r]? with
  |none=>rfl
  |some x=>rw[eL,GObj.ren_id]
theorem SC.factAll {P:Program} {k:FuncId} {args:List GV} {s s':List GObj} {r:GRes} {σ:GS} (h:SC P k args s r s') (hs:σ.objs=s) (hlo:σ.lo=0) (hh:∀x∈s,x≠ .held):Fact P (.fn k) args σ r {σ with objs:=s'}:=by
 have:=h.fact (σ:=σ) (args':=args) (List.range s.length) (by rw[hs];exact Lies.all s hh) hlo (by rw[hs,L8,FK];exact .refl _);rw[hs,L8,GRes.ren_id,MI h.len] at this;exact this
end Go.Proofs.YtcfgfkkhpdlhpaaGreatDoor
namespace Go.Proofs.YtcfgfkkhpdlhpaaGreatDoor
open Go.RowKit
variable [Globals]
def GObj.mort:GObj->Bool
 |.box _ _|.mp _|.dead=>true
 |_=>false
def D7 (n:Nat) (σ:GS):GS:=⟨List.replicate n .dead++σ.objs.drop n,σ.lo,σ.ds⟩
theorem Rel.kills {C:Cx} {σ:GS} {w0 w:World} (h:Rel C σ w0 w) {n:Nat} (hn:n<=σ.objs.length) (hm:(σ.objs.take n).all GObj.mort=true):Rel C (D7 n σ) w0 w:=by
 have hl:(D7 n σ).objs.length=σ.objs.length:=by simp[D7];omega
 refine⟨h.below,h.fxc,fun q x hx=>?_,fun q hq=>h.dom q (by rw[<-hl];exact hq),h.new,h.inj,h.sepB,h.sepO,h.fxn,h.gl,h.gs⟩;by_cases hq:q<n
 ·have hx':x=.dead:=by
   simp only[D7] at hx;rw[aT (by simpa using hq),List.getElem?_replicate,aG hq] at hx;cases hx;rfl
  subst hx';have hy:σ.objs[q]?=some (σ.objs[q]'(by omega)):=gL (by omega);have h1:=h.obj _ _ hy;have h2:=List.all_eq_true.1 hm (σ.objs[q]'(by omega)) (List.mem_take_iff_getElem.2 ⟨q,by omega,rfl⟩);refine⟨?_,fun b hb=>r5 h hb⟩;revert h1 h2;generalize σ.objs[q]'(by omega)=y;intro h1 h2;cases y<;>first|cases h2|skip
  ·exact .inr h1.1
  ·exact .inr h1.1
  ·exact h1.1
 ·simp only[D7] at hx;rw[bF (by simpa using hq),List.length_replicate,gW,show n+(q - n)=q by omega] at hx;exact h.obj q x hx
theorem SC.of_gwpR {P:Program} (M:FuncId->Bool) (hm:P.follows .mixedOrders=true) {k:FuncId} {fn:Func} {c:Code} (hfn:P.funcs[k]?=some fn) (hb:fn.body=some c) {args:List GV} {s s':List GObj} {r:GRes}
  (hlen:args.length<=fn.ntmps) (hs:s.length<=s'.length) (hh0:s'.all GObj.notHeld=true) (R:GRes->GS->Prop)
  (hR:∀r0 σ0,R r0 σ0->Owes s r s' r0 σ0∨(∃n,n<=σ0.objs.length/\(σ0.objs.take n).all GObj.mort=true/\Owes s r s' r0 (D7 n σ0)))
  (h:PI P M none fn.ntmps c (nS args) ⟨s,0,[]⟩ (XW P fn R)):SC P k args s r s':=by
 have hh:∀x∈s',x≠ .held:=fun x hx e=>by subst e;have:=List.all_eq_true.1 hh0 _ hx;cases this
 refine⟨hs,fun C w vs hr hv=>?_,hh⟩;obtain⟨h1,h2⟩:=uZ (fn:=fn) hlen hv;have fin0:∀(D E:Cx) (e:Ending) (w'':World) (r0:GRes) (σ2:GS),C.le E->Rel E σ2 w w''->ERel E r0 e->Owes s r s' r0 σ2->∃D,C.le D/\Rel D ⟨s',0,[]⟩ w w''/\ERel D r e:=by
  intro D E e w'' r0 σ2 hlE hrE he ⟨ks,hlies,hpre,hwk⟩;refine⟨E.pull (iT ks σ2.objs.length),?_,hrE.pull hlies,?_⟩
  ·have atb:∀i,i<s.length->iT ks σ2.objs.length i=i:=fun i hi=>by
    have h3:=hpre i hi;obtain⟨h4,h5⟩:=List.getElem?_eq_some_iff.1 h3;rw[kF h4,h5]
   refine⟨hlE.fx,fun i b hb'=>?_,fun i I hI=>?_,?_,hlE.fix⟩
   ·have hi:i<s.length:=by
     rcases dX i s.length with h4|h4
     ·exact h4
     ·rw[(hr.dom i h4).1] at hb';cases hb'
    show E.bk (iT ks σ2.objs.length i)=some b;rw[atb i hi];exact hlE.bk i b hb'
   ·have hi:i<s.length:=by
     rcases dX i s.length with h4|h4
     ·exact h4
     ·rw[(hr.dom i h4).2] at hI;cases hI
    show∃J,E.own (iT ks σ2.objs.length i)=some J/\_;rw[atb i hi];exact hlE.own i I hI
   ·exact hlE.hd
  ·exact(hwk.erel he).pull (D:=E) (f:=iT ks σ2.objs.length) (E:=E.pull (iT ks σ2.objs.length)) (fun _ _ _ h=>h) (fun _=>rfl) (fun _=>rfl)
 have fin:∀(φ':Fr) (σ1:GS) (u:GMode) (D:Cx) (a':Act) (w':World) (um:FrameMode),tW (kZ P (fun _=>false) (fun _ _ _=>none) 50 fn φ' σ1.ds u σ1) (fun q=>R q.1 q.2)->
   C.le D->FRel D φ' a'->DRel D σ1.ds a'.defers->Rel D σ1 w w'->MRel D u um->oE P fn a'.tmps (fun e w'=>∃D,C.le D/\Rel D ⟨s',0,[]⟩ w w'/\ERel D r e) a'.defers um w':=by
  intro φ' σ1 u D a' w' um hk hl hf' hd' hr' hmr;obtain⟨⟨r0,σ2⟩,hlv,ho⟩:=lO hk;refine(pW (tmps:=a'.tmps) (w0:=w) hm (gU w) iS _ _ _ hlv).2 D w' a'.defers um hr' hf' hd' hmr (fun E e w'' hE hrE he=>?_);have hlE:=hl.trans hE;rcases hR _ _ ho with ho|⟨n,hq,hm',ho⟩
  ·exact fin0 D E e w'' r0 σ2 hlE hrE he ho
  ·exact fin0 D E e w'' r0 (D7 n σ2) hlE (hrE.kills hq hm') he ho
 refine vI hfn hb (wpIn_wide (n:=0).1 (xO (w0:=w) (ro:=none) (n:=fn.ntmps) hm c _ _ C none _ _ _ w h trivial hr h1 h2 trivial (fun x φ' σ1 hk D a' w' hl hf' hn' hd' hr'=>?_)));cases x with
 |normal=>exact fin φ' σ1 .ret D a' w' .returning hk hl hf' hd' hr' rfl
 |ret=>exact fin φ' σ1 .ret D a' w' .returning hk hl hf' hd' hr' rfl
 |exit id=>exact hk.elim
 |panic g=>exact fun v hv=>fin φ' σ1 (.pan g) D a' w' (.panicking [{v,recovered:=false}]) hk hl hf' hd' hr' ⟨v,rfl,hv⟩
def Ct (P:Program) (k:FuncId) (args:List GV) (x0:GObj) (p:GV):Option (GV×GObj)->Prop
 |some (g,x')=>SC P k args [x0] (.val g) [x']
 |none=>SC P k args [x0] (.panic p) [.dead]
inductive OwesO (x0:GObj) (p:GV):Option (GV×GObj)->GRes->GS->Prop where
 |val {g g0:GV} {x':GObj} {σ0:GS} (h:Owes [x0] (.val g) [x'] (.val g0) σ0):OwesO x0 p (some (g,x')) (.val g0) σ0
 |pan {T:TypeId} {cs:List GV} {rest:List GObj} {lo:Nat} {ds:List GDef}:OwesO x0 p none (.panic p) ⟨.box T cs::rest,lo,ds⟩
 |dead {rest:List GObj} {lo:Nat} {ds:List GDef}:OwesO x0 p none (.panic p) ⟨.dead::rest,lo,ds⟩
theorem Ct.of_gwp {P:Program} (M:FuncId->Bool) (hm:P.follows .mixedOrders=true) {k:FuncId} {fn:Func} {c:Code} (hfn:P.funcs[k]?=some fn) (hb:fn.body=some c) {args:List GV} {x0:GObj} {p:GV} {o:Option (GV×GObj)}
  (hlen:args.length<=fn.ntmps) (hp:Cl p) (hh:o.all (fun q=>q.2.notHeld)=true)
  (h:PI P M none fn.ntmps c (nS args) ⟨[x0],0,[]⟩ (XW P fn (OwesO x0 p o))):Ct P k args x0 p o:=by
 have dead:∀{rest:List GObj} {lo:Nat} {ds:List GDef},Owes [x0] (.panic p) [.dead] (.panic p) ⟨.dead::rest,lo,ds⟩:=fun{rest lo ds}=>
  ⟨[0],Lies.one rfl (fun _=>rfl) (by simp),fun i hi=>by
   have:i=0:=by simp at hi;omega
   subst this;rfl,by show Wk p (p.ren _);rw[hp];exact .refl _⟩
 cases o with
 |some q=>
  obtain⟨g,x'⟩:=q;refine SC.of_gwpR M hm hfn hb hlen (by simp) (by simpa using hh) _ (fun r0 σ0 ho=>?_) h;cases ho with
  |val h=>exact .inl h
 |none=>
  refine SC.of_gwpR M hm hfn hb hlen (by simp) rfl _ (fun r0 σ0 ho=>?_) h;cases ho with
  |pan=>exact .inr ⟨1,Nat.succ_le_succ (zL _),rfl,dead⟩
  |dead=>exact .inl dead
def gS:=@Ct.of_gwp
theorem OwesO.box {T:TypeId} {x0:GObj} {p:GV} {cs cs':List GV} {g g':GV} {rest:List GObj} {lo:Nat} {ds:List GDef} {o:Option (GV×GObj)} (ho:o=some (g',.box T cs')) (hcs:cs=cs') (hw:Wk g g') (hc:ClL cs') (hr:Cl g'):
  OwesO x0 p o (.val g) ⟨.box T cs::rest,lo,ds⟩:=by
 subst ho;subst hcs;refine .val ⟨[0],Lies.one rfl (eM hc) (by simp),fun i hi=>?_,by show Wk g (g'.ren _);rw[hr];exact hw⟩;have:i=0:=by simp at hi;omega
 subst this;rfl
def gE:=@OwesO.box
theorem OwesO.panics {T:TypeId} {x0:GObj} {p:GV} {cs:List GV} {rest:List GObj} {lo:Nat} {ds:List GDef} {o:Option (GV×GObj)} (ho:o=none):OwesO x0 p o (.panic p) ⟨.box T cs::rest,lo,ds⟩:=by
 subst ho;exact .pan
def bW:=@OwesO.panics
theorem OwesO.deads {x0:GObj} {p:GV} {rest:List GObj} {lo:Nat} {ds:List GDef} {o:Option (GV×GObj)} (ho:o=none):OwesO x0 p o (.panic p) ⟨.dead::rest,lo,ds⟩:=by
 subst ho;exact .dead
def j0:=@OwesO.deads
theorem JQ {q:Nat} {objs:List GObj} (hq:q<objs.length):iI [q] [.dead] objs=objs.set q .dead:=wB hq rfl
theorem m5 {P:Program} {M:FuncId->Bool} {k:FuncId} {q:Nat} {a args:List GV} {T:TypeId} {cs:List GV} {r:GV} {σ:GS} {K:GRes->GS->Prop} (h:SC P k (.ptr 0 0::a) [.box T cs] (.panic r) [.dead])
  (hq:σ.objs[q]?=some (.box T cs)) (hw:Wks args (.ptr q 0::a)) (hlo:σ.lo=0) (hM:M k=false) (hc:ClL cs) (ha:ClL a) (hr:Cl r) (hk:s5 σ q .dead fun s=>K (.panic r) s):iU P M (.fn k) args σ K:=by
 have hql:q<σ.objs.length:=(List.getElem?_eq_some_iff.1 hq).1;have hargs:Wks args ((GV.ptr 0 0::a).map (GV.ren (iT [q] σ.objs.length))):=by
  have e0:(GV.ptr 0 0).ren (iT [q] σ.objs.length)=.ptr q 0:=by show GV.ptr (iT [q] _ 0) 0=_;rw[kF (by simp)];rfl
  rw[dO,e0,ha];exact hw
 have hf:=SC.fact (σ:=σ) (args':=args) h [q] (Lies.one hq (eM hc) (by simp)) hlo hargs;rw[JQ hql] at hf;rw[show(GRes.panic r).ren (iT [q] σ.objs.length)=.panic r by show GRes.panic (r.ren _)=_;rw[hr]] at hf;exact⟨.panic r,_,hf,(fun k' e hk'=>by cases e;rw[hM] at hk';cases hk'),mI (K:=fun s=>K (.panic r) s) hk⟩
theorem rQ {P:Program} {M:FuncId->Bool} {k:FuncId} {q:Nat} {a args:List GV} {T:TypeId} {cs cs':List GV} {r:GV} {σ:GS} {K:GRes->GS->Prop} (h:SC P k (.ptr 0 0::a) [.box T cs] (.val r) [.box T cs']) (hk:s5 σ q (.box T cs') fun s=>K (.val r) s) (hq:σ.objs[q]?=some (.box T cs):=by rfl) (hw:Wks args (.ptr q 0::a):=by first|exact wR _|exact wC (bE _ _) (wR _)|exact wC (bE _ _) (wC (bE _ _) (wR _))|exact wC (cY _) (wC (bE _ _) (wR _))) (hlo:σ.lo=0:=by rfl) (hM:M k=false:=by rfl) (hc:ClL cs:=by first|exact fun _=>rfl|exact cA|exact cB fun _=>rfl) (hc':ClL cs':=by first|exact fun _=>rfl|exact cA|exact cB fun _=>rfl) (ha:ClL a:=by first|exact fun _=>rfl|exact cA|exact cB fun _=>rfl) (hr:Cl r:=by first|exact fun _=>rfl|exact cA|exact cB fun _=>rfl):iU P M (.fn k) args σ K:=aW h hq hw hlo hM hc hc' ha hr hk
theorem a28 {P:Program} {M:FuncId->Bool} {k:FuncId} {q:Nat} {a args:List GV} {T:TypeId} {cs:List GV} {r:GV} {σ:GS} {K:GRes->GS->Prop} (h:SC P k (.ptr 0 0::a) [.box T cs] (.val r) [.box T cs])
  (hq:σ.objs[q]?=some (.box T cs)) (hw:Wks args (.ptr q 0::a)) (hlo:σ.lo=0) (hc:ClL cs) (ha:ClL a) (hr:Cl r) (hk:K (.val r) σ):iU P M (.fn k) args σ K:=by
 have hql:q<σ.objs.length:=(List.getElem?_eq_some_iff.1 hq).1;have hf:=h.fact (σ:=σ) (args':=args) [q] (Lies.one hq (eM hc) (by simp)) hlo (by
  have e0:(GV.ptr 0 0).ren (iT [q] σ.objs.length)=.ptr q 0:=by show GV.ptr (iT [q] _ 0) 0=_;rw[kF (by simp)];rfl
  rw[dO,e0,ha];exact hw)
 rw[wB hql (eM hc _)] at hf;rw[show(GRes.val r).ren (iT [q] σ.objs.length)=.val r by show GRes.val (r.ren _)=_;rw[hr]] at hf;have e:σ.objs.set q (.box T cs)=σ.objs:=by
  apply dS;intro i;by_cases hi:q=i
  ·subst hi;rw[List.getElem?_set_self hql,hq]
  ·rw[dF hi]
 rw[e] at hf;exact⟨.val r,σ,hf,fun _ _ _=>rfl,hk⟩
theorem MD {q p:Nat} {x y:GObj} {objs:List GObj} (hn:q≠p) (hq:q<objs.length) (hp:p<objs.length):
  iI [q,p] [x,y] objs=(objs.set q (x.ren (iT [q,p] objs.length))).set p (y.ren (iT [q,p] objs.length)):=by
 apply dS;intro r;rw[iR (fun k h=>by simp at h;omega) (rL _)];unfold gX;by_cases hr:r<objs.length
 ·rw[aG hr];by_cases hrq:q=r
  ·subst hrq;have:([q,p]:List Nat).idxOf? q=some 0:=by simp[List.idxOf?,List.findIdx?_cons]
   rw[this,dF (j7 hn)];simp[hr]
  ·by_cases hrp:p=r
   ·subst hrp;have:([q,p]:List Nat).idxOf? p=some 1:=by simp[List.idxOf?,List.findIdx?_cons,hn]
    rw[this];simp[hr]
   ·have:([q,p]:List Nat).idxOf? r=none:=by simp[List.idxOf?,List.findIdx?_cons,hrq,hrp]
    rw[this,dF hrp,dF hrq]
 ·rw[aE hr];simp only[aJ,b5];rw[b6 (l:=[x,y]) (by simp only[aJ,b5];omega),b6 (by simp only[List.length_set];omega)];rfl
theorem mZ {α:Type}:∀{l:List α} {K:List α->Prop},K l->BU l K
 |[],K,h=>h
 |x::l,K,h=>mZ (l:=l) (K:=fun ys=>K (x::ys)) h
theorem lY {σ:GS} {r:Nat} {x:GObj} {K:GS->Prop} {l:List GObj} (e:σ.objs.set r x=l) (h:K ⟨l,σ.lo,σ.ds⟩):s5 σ r x K:=by
 subst e;exact mZ (K:=fun l=>K ⟨l,σ.lo,σ.ds⟩) h
end Go.Proofs.YtcfgfkkhpdlhpaaGreatDoor
namespace Go.Proofs.YtcfgfkkhpdlhpaaGreatDoor
open Go.RowKit
variable [Globals]
def HS (s:List GObj):Prop:=∀e:Nat->Nat,(∀i,i<s.length->e i=i)->s.map (GObj.ren e)=s
theorem E8 {m N i:Nat} (h:i<m):iT (List.range m) N i=i:=by rw[kF (by simpa using h)];simp
theorem Lies.pre {s rest:List GObj} (hc:HS s) (hh:∀x∈s,x≠ .held):Lies (List.range s.length) s (s++rest):=
 ⟨List.nodup_range,by simp,fun i k x h1 h2=>by
  obtain⟨h3,h4⟩:=List.getElem?_eq_some_iff.1 h1;simp at h4;subst h4;have hi:i<s.length:=by simpa using h3
  have:=aQ (fun l:List GObj=>l[i]?) (hc _ (fun j hj=>E8 (N:=(s++rest).length) hj));simp only[aM,h2,eL,j6] at this;rw[this,aT hi];exact h2,hh⟩
theorem ME {s s' rest:List GObj} (hl:s'.length=s.length) (hc:HS s'):iI (List.range s.length) s' (s++rest)=s'++rest:=by
 apply dS;intro r;rw[iR (fun k hk=>by simp at hk;simp;omega) (by simp[hl])];unfold gX;have he:=hc (iT (List.range s.length) (s++rest).length) (fun j hj=>E8 (by omega));by_cases hr:r<(s++rest).length
 ·rw[aG hr];by_cases hrs:r<s.length
  ·have:(List.range s.length).idxOf? r=some r:=uY List.nodup_range (by simp[hrs]);rw[this];show Option.map _ s'[r]?=_;rw[aT (by omega)];have:=aQ (fun l:List GObj=>l[r]?) he;simpa[aM] using this
  ·have:(List.range s.length).idxOf? r=none:=by
    rw[List.idxOf?_eq_none_iff];simp;omega
   rw[this,bF (by omega),bF (by omega),hl]
 ·rw[aE hr];have h1:s'[(List.range s.length).length+(r - (s++rest).length)]?=none:=b6 (by simp[hl]);have h2:(s'++rest)[r]?=none:=b6 (by simp at hr⊢;omega);simp only[h1,h2];rfl
theorem jP {P:Program} {M:FuncId->Bool} {k:FuncId} {args args':List GV} {s s' rest:List GObj} {r:GRes} {σ:GS} {K:GRes->GS->Prop} (h:SC P k args s r s') (ho:σ.objs=s++rest) (hl:s'.length=s.length) (hlo:σ.lo=0) (hM:M k=false)
  (hc:HS s) (hc':HS s') (hh:s.all GObj.notHeld=true) (ha:∀e:Nat->Nat,(∀i,i<s.length->e i=i)->args.map (GV.ren e)=args) (hr:∀e:Nat->Nat,(∀i,i<s.length->e i=i)->r.ren e=r) (hw:Wks args' args)
  (hk:K r ⟨s'++rest,σ.lo,σ.ds⟩):iU P M (.fn k) args' σ K:=by
 have hh':∀x∈s,x≠ .held:=fun x hx e=>by subst e;have:=List.all_eq_true.1 hh _ hx;cases this
 have he:∀i,i<s.length->iT (List.range s.length) σ.objs.length i=i:=fun i hi=>E8 hi;have hf:=h.fact (σ:=σ) (args':=args') (List.range s.length) (by rw[ho];exact Lies.pre hc hh') hlo (by rw[ha _ he];exact hw);rw[hr _ he,ho,ME hl hc'] at hf;exact⟨r,_,hf,(fun k' e hk'=>by cases e;rw[hM] at hk';cases hk'),hk⟩
theorem k7 {s s' rest:List GObj} {r r':GRes} {lo:Nat} {ds:List GDef} {objs:List GObj} (ho:objs=s'++rest) (hl:s.length<=s'.length) (hc:HS s') (hh:s'.all GObj.notHeld=true) (hr:∀e:Nat->Nat,(∀i,i<s'.length->e i=i)->r'.ren e=r') (hw:WkRes r r'):
  Owes s r' s' r ⟨objs,lo,ds⟩:=by
 subst ho;have hh':∀x∈s',x≠ .held:=fun x hx e=>by subst e;have:=List.all_eq_true.1 hh _ hx;cases this
 refine⟨List.range s'.length,Lies.pre hc hh',fun i hi=>by rw[List.getElem?_range (by omega)],?_⟩;rw[hr _ (fun i hi=>E8 hi)];exact hw
