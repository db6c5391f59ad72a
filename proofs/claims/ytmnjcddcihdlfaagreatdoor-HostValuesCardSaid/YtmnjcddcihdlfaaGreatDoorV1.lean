/- Part of HostValues. -/
import Derived.WalkKit
import Derived.WalkLawsBesides
import Derived.Orders
import Derived.Deep.Draws
import Derived.Laws.CopyRow
import Derived.Laws.Tables
import Derived.Laws.AppendOwn
set_option linter.all false
namespace Go.Proofs.YtmnjcddcihdlfaaGreatDoor
open Go.RowKit
def aA:=@if_pos
def aB:=@if_neg
def aC:=@Option.map_eq_some_iff
def aD:=@Int.toNat_natCast
def aF:=@Bool.and_eq_true
def aG:=@List.getElem?_map
def aH:=@decide_eq_true_eq
def aI:=@List.eq_nil_of_length_eq_zero
def aJ:=@congrArg
def aK:=@Array.getElem?_eq_getElem
def aL:=@List.getD_eq_getElem?_getD
def aM:=@List.length_cons
def aO:=@of_decide_eq_true
def aP:=@Array.getD_eq_getD_getElem?
def aQ:=@decide_eq_false
def aR:=@decide_eq_true
def aS:=@List.length_map
def aT:=@Option.map_some
def aU:=@List.getElem?_append_left
def aV:=@Option.some.inj
def aW:=@of_decide_eq_false
def aX:=@List.length_append
def aY:=@Bool.false_eq_true
def aZ:=@List.all_eq_true
def b4:=@Bool.false_ne_true
def b6:=@List.getElem?_eq_none
def b8:=@Array.length_toList
def b9:=@List.mem_of_getElem?
def bC:=@Option.bind_some
def bD:=@List.drop_eq_getElem_cons
def bJ:=@Array.getElem?_toList
def bM:=@Nat.zero_add
def bR:=@decide_eq_false_iff_not
def bS:=@UInt8.toNat_lt
def bT:=@List.getElem?_append_right
def bU:=@beq_iff_eq
def bV:=@Nat.lt_of_lt_of_le
def bW:=@List.length_nil
def bY:=@List.map_cons
def bZ:=@List.takeWhile_cons
def cD:=@Int.le_refl
def cH:=@List.getElem?_take
def cI:=@Nat.eq_of_beq_eq_true
def cK:=@List.ext_getElem?
def cL:=@List.length_take
def cM:=@List.getElem_cons_drop
def cO:=@if_false
def cU:=@List.length_drop
def cV:=@List.getElem?_set_ne
def cW:=@List.append_assoc
def cY:=@beq_eq_false_iff_ne
def cZ:=@List.not_mem_nil
def d9:=@List.mem_range
def dF:=@Nat.lt_or_ge
def dG:=@List.take_length
def dI:=@List.map_append
def dJ:=@Bool.or_eq_true
def dL:=@if_true
def dO:=@List.getElem_mem
def dP:=@Function.comp_def
def dS:=@List.take_add_one
def dT:=@List.drop_eq_nil_of_le
def dU:=@List.mem_cons
def dV:=@Array.getElem?_replicate
def e7:=@List.takeWhile_prefix
def eH:=@List.append_nil
def eJ:=@Nat.lt_succ_self
def eO:=@bne_self_eq_false
def eP:=@List.getElem?_drop
def eQ:=@List.drop_of_length_le
def eY:=@Option.some.injEq
def fH:=@List.mem_cons_of_mem
def fM:=@Option.getD_some
def fN:=@List.take_of_length_le
def fO:=@List.cons_ne_nil
def fT:=@Bool.not_eq_true'
def fX:=@List.take_append_drop
def gJ:=@List.mem_cons_self
def gO:=@Array.toArray_toList
def gX:=@Nat.le_trans
def gZ:=@List.flatMap_cons
theorem bL {n m:Nat} (h:Nat.ble n m=true):n<=m:=Nat.le_of_ble_eq_true h
theorem zL (n:Nat):0<=n:=Nat.zero_le n
theorem rL (n:Nat):n<=n:=Nat.le_refl n
theorem gL {α:Type _} {l:List α} {i:Nat} (h:i<l.length):l[i]?=some l[i]:=List.getElem?_eq_getElem h
theorem fK (n:Nat):0<=(n:Int):=Int.natCast_nonneg n
inductive Tok where
 |none|full|own (r:Nat)
 deriving DecidableEq,Repr
inductive GV where
 |b (x:Bool)
 |i (k:IntKind) (n:Int)
 |s (x:List UInt8)
 |o (v:Value)
 |agg (cs:List GV)
 |tup (cs:List GV)
 |ifc (t:TypeId) (v:GV)
 |fn (f:Fn) (first captured:List GV)
 |sl (k:Tok) (xs:List GV)
 |ptr (r off:Nat)
 |snap (cs:List GV) (off:Nat)
 |mp (r:Nat)
 |rs (r off esz n c:Nat)
 |glb (g off:Nat)
 |yld (r:Nat)
 |dat (r:Nat) (cs:List GV)
 |any
class Globals where
 tab:Nat->Option (List GV)
 wr:TypeId->Bool
 lt:TypeId->Bool
 sp:TypeId->Bool
 fz:TypeId->List GV->Bool
def GV.known:GV->Bool
 |.any=>false
 |_=>true
def GV.cells:GV->List GV
 |.agg cs=>cs
 |v=>[v]
def GV.isCell:GV->Bool
 |.agg _|.tup _|.any=>false
 |_=>true
def oE (n:Nat) (x:GV):Bool:=x.cells.length==n&&x.cells.all GV.isCell
def FV:Value->Bool
 |.nilIface|.nilFunc|.pointer none|.map none|.float _ _|.slice (some _) 0 _=>true
 |_=>false
structure Own where
 len:Nat
 esz:Nat
 blk:Option (Nat×Nat)
structure Held where
 bk:Option Nat
 own:Option Own
 ob:Option Obj
structure Cx where
 fx:Nat->Nat->Value->Prop
 bk:Nat->Option Nat
 own:Nat->Option Own
 hd:Nat->Option Held
 mine:Nat->Prop
 f0:Nat->Nat->Value->Prop
structure Cx.le (C D:Cx):Prop where
 fx:∀b o v,C.fx b o v->D.fx b o v
 bk:∀r b,C.bk r=some b->D.bk r=some b
 own:∀r I,C.own r=some I->∃J,D.own r=some J/\(J=I∨(I.len<J.len/\(0<I.len->J.esz=I.esz)))
 hd:D.hd=C.hd
 fix:D.mine=C.mine/\D.f0=C.f0
theorem Cx.le.refl (C:Cx):C.le C:=⟨fun _ _ _ h=>h,fun _ _ h=>h,fun _ I h=>⟨I,h,.inl rfl⟩,rfl,rfl,rfl⟩
theorem Cx.le.trans {C D E:Cx} (h:C.le D) (k:D.le E):C.le E:=
 ⟨fun _ _ _ x=>k.fx _ _ _ (h.fx _ _ _ x),fun _ _ x=>k.bk _ _ (h.bk _ _ x),fun r I x=>by
  obtain⟨J,hJ,e⟩:=h.own r I x;obtain⟨K,hK,f⟩:=k.own r J hJ;refine⟨K,hK,?_⟩;rcases e with rfl|⟨e1,e2⟩
  ·exact f
  ·rcases f with rfl|⟨f1,f2⟩
   ·exact .inr ⟨e1,e2⟩
   ·exact .inr ⟨by omega,fun h0=>(f2 (by omega)).trans (e2 h0)⟩,k.hd.trans h.hd,k.fix.1.trans h.fix.1,k.fix.2.trans h.fix.2⟩
def TokOk (C:Cx) (k:Tok) (n c esz:Nat) (a:Option Addr):Prop:=
 match k with
 |.none=>True
 |.full=>c=n/\(n=0->a=none)
 |.own r=>∃I,C.own r=some I/\n<=I.len/\(0<n->esz=I.esz)/\
   (n=I.len->(n=0/\c=0)∨∃b sz,I.blk=some (b,sz)/\a=some ⟨b,0,none⟩/\c*I.esz<=sz)
theorem TokOk.mono {C D:Cx} {k:Tok} {n c esz:Nat} {a:Option Addr} (hl:C.le D) (h:TokOk C k n c esz a):TokOk D k n c esz a:=by
 cases k with
 |none=>trivial
 |full=>exact h
 |own r=>
  obtain⟨I,hI,hn,he,ht⟩:=h;obtain⟨J,hJ,e⟩:=hl.own r I hI;refine⟨J,hJ,?_⟩;rcases e with rfl|⟨e1,e2⟩
  ·exact⟨hn,he,ht⟩
  ·exact⟨by omega,fun h0=>(he h0).trans (e2 (by omega)).symm,fun h0=>by omega⟩
def DatOk (C:Cx) (r m b off:Nat):Prop:=∃I,C.own r=some I/\m<=I.len/\(m=I.len->off=0/\I.esz=1/\∃sz,I.blk=some (b,sz))
theorem DatOk.mono {C D:Cx} {r m b off:Nat} (hl:C.le D) (h:DatOk C r m b off):DatOk D r m b off:=by
 obtain⟨I,hI,hn,ht⟩:=h;obtain⟨J,hJ,e⟩:=hl.own r I hI;refine⟨J,hJ,?_⟩;rcases e with rfl|⟨e1,e2⟩
 ·exact⟨hn,ht⟩
 ·exact⟨by omega,fun h0=>by omega⟩
inductive VR (C:Cx):GV->Value->Prop where
 |b (x:Bool):VR C (.b x) (.bool x)
 |i (k:IntKind) (n:Int):VR C (.i k n) (.int k n)
 |s (x:List UInt8):VR C (.s x) (.string ⟨x.toArray⟩)
 |o {v:Value} (h:FV v=true):VR C (.o v) v
 |agg {cs:List GV} {vs:Array Value} (hl:vs.size=cs.length) (hv:∀(j:Nat) g u,cs[j]?=some g->vs[j]?=some u->VR C g u):VR C (.agg cs) (.agg vs)
 |tup {cs:List GV} {vs:Array Value} (hl:vs.size=cs.length) (hv:∀(j:Nat) g u,cs[j]?=some g->vs[j]?=some u->VR C g u):VR C (.tup cs) (.tuple vs)
 |ifc {t:TypeId} {g:GV} {u:Value} (h:VR C g u):VR C (.ifc t g) (.iface t u)
 |fn {f:Fn} {a c:List GV} {va vc:Array Value} (hla:va.size=a.length) (hlc:vc.size=c.length)
   (ha:∀(j:Nat) g u,a[j]?=some g->va[j]?=some u->VR C g u) (hc:∀(j:Nat) g u,c[j]?=some g->vc[j]?=some u->VR C g u):VR C (.fn f a c) (.func f va vc)
 |sl {k:Tok} {xs:List GV} {a:Option Addr} {n c:Nat} (esz b off:Nat) (us:Nat->Value) (hn:n=xs.length) (hc:n<=c)
   (ha:(a=none/\c=0)∨a=some ⟨b,off,none⟩∨c=0) (hw:∀x∈xs,x.cells.length=esz)
   (hx:∀(i:Nat) x (j:Nat) g,xs[i]?=some x->x.cells[j]?=some g->C.fx b (off+i*esz+j) (us (i*esz+j)))
   (hv:∀(i:Nat) x (j:Nat) g,xs[i]?=some x->x.cells[j]?=some g->VR C g (us (i*esz+j)))
   (ht:TokOk C k xs.length c esz a):VR C (.sl k xs) (.slice a n c)
 |ptr {r off b:Nat} (h:C.bk r=some b):VR C (.ptr r off) (.pointer (some ⟨b,off,none⟩))
 |snap {cs:List GV} {off:Nat} (b o:Nat) (us:Nat->Value) (hx:∀(j:Nat) g,cs[j]?=some g->C.fx b (o+j) (us j))
   (hv:∀(j:Nat) g,cs[j]?=some g->VR C g (us j)):VR C (.snap cs off) (.pointer (some ⟨b,o+off,none⟩))
 |mp {r b:Nat} (h:C.bk r=some b):VR C (.mp r) (.map (some b))
 |rs {r off esz n c b c':Nat} (h:C.bk r=some b) (hc:n<=c') (hp:0<esz) (hx:c=0∨c=c'):VR C (.rs r off esz n c) (.slice (some ⟨b,off,none⟩) n c')
 |rp {r off b:Nat} (h:C.bk r=some b):VR C (.rs r off 0 0 0) (.pointer (some ⟨b,off,none⟩))
 |glb (g off:Nat):VR C (.glb g off) (.pointer (some ⟨g,off,none⟩))
 |yld {r b:Nat} (h:C.bk r=some b):VR C (.yld r) (.func (.yield b) #[] #[])
 |dat {r off b:Nat} {cs:List GV} (us:Nat->Value) (hx:∀(j:Nat) g,cs[j]?=some g->C.fx b (off+j) (us j))
   (hv:∀(j:Nat) g,cs[j]?=some g->VR C g (us j)) (ht:DatOk C r cs.length b off):VR C (.dat r cs) (.pointer (some ⟨b,off,none⟩))
 |any (v:Value):VR C .any v
theorem VR.mono {C D:Cx} (hl:C.le D) {g:GV} {v:Value} (h:VR C g v):VR D g v:=by
 induction h with
 |b x=>exact .b x
 |i k n=>exact .i k n
 |s x=>exact .s x
 |o h=>exact .o h
 |agg hs _ ih=>exact .agg hs ih
 |tup hs _ ih=>exact .tup hs ih
 |ifc _ ih=>exact .ifc ih
 |fn h1 h2 _ _ ih1 ih2=>exact .fn h1 h2 ih1 ih2
 |sl esz b off us hn hc ha hw hx _ ht ih=>exact .sl esz b off us hn hc ha hw (fun i x j g h1 h2=>hl.fx _ _ _ (hx i x j g h1 h2)) ih (ht.mono hl)
 |ptr h=>exact .ptr (hl.bk _ _ h)
 |snap b o us hx _ ih=>exact .snap b o us (fun j g h1=>hl.fx _ _ _ (hx j g h1)) ih
 |mp h=>exact .mp (hl.bk _ _ h)
 |rs h hc hp hx=>exact .rs (hl.bk _ _ h) hc hp hx
 |rp h=>exact .rp (hl.bk _ _ h)
 |yld h=>exact .yld (hl.bk _ _ h)
 |dat us hx _ ht ih=>exact .dat us (fun j g h1=>hl.fx _ _ _ (hx j g h1)) ih (ht.mono hl)
 |glb g o=>exact .glb g o
 |any v=>exact .any v
theorem VR.rehd {C:Cx} {hd:Nat->Option Held} {g:GV} {v:Value} (h:VR C g v):VR {C with hd:=hd} g v:=by
 induction h with
 |b x=>exact .b x
 |i k n=>exact .i k n
 |s x=>exact .s x
 |o h=>exact .o h
 |agg hs _ ih=>exact .agg hs ih
 |tup hs _ ih=>exact .tup hs ih
 |ifc _ ih=>exact .ifc ih
 |fn h1 h2 _ _ ih1 ih2=>exact .fn h1 h2 ih1 ih2
 |sl esz b off us hn hc ha hw hx _ ht ih=>exact .sl esz b off us hn hc ha hw hx ih (by rename_i k _ _ _ _ _;cases k<;>exact ht)
 |ptr h=>exact .ptr h
 |snap b o us hx _ ih=>exact .snap b o us hx ih
 |mp h=>exact .mp h
 |rs h hc hp hx=>exact .rs h hc hp hx
 |rp h=>exact .rp h
 |yld h=>exact .yld h
 |dat us hx _ ht ih=>exact .dat us hx ih ht
 |glb g o=>exact .glb g o
 |any v=>exact .any v
def VRs (C:Cx) (gs:List GV) (vs:List Value):Prop:=vs.length=gs.length/\∀(j:Nat) g u,gs[j]?=some g->vs[j]?=some u->VR C g u
theorem VRs.mono {C D:Cx} (hl:C.le D) {gs:List GV} {vs:List Value} (h:VRs C gs vs):VRs D gs vs:=⟨h.1,fun j g u h1 h2=>(h.2 j g u h1 h2).mono hl⟩
theorem VRs.nil {C:Cx}:VRs C [] []:=⟨rfl,fun j g u h=>by simp at h⟩
def iO:=@VRs.nil
theorem VRs.cons {C:Cx} {g:GV} {v:Value} {gs:List GV} {vs:List Value} (h:VR C g v) (hs:VRs C gs vs):VRs C (g::gs) (v::vs):=by
 refine⟨by simp[hs.1],fun j g' u h1 h2=>?_⟩;cases j with
 |zero=>simp at h1 h2;subst h1;subst h2;exact h
 |succ j=>simp at h1 h2;exact hs.2 j g' u h1 h2
def fS:=@VRs.cons
theorem VRs.cons_inv {C:Cx} {g:GV} {gs:List GV} {vs:List Value} (h:VRs C (g::gs) vs):∃v vs',vs=v::vs'/\VR C g v/\VRs C gs vs':=by
 cases vs with
 |nil=>exact absurd h.1 (by simp)
 |cons v vs'=>exact⟨v,vs',rfl,h.2 0 g v rfl rfl,by simpa using h.1,fun j g' u h1 h2=>h.2 (j+1) g' u (by simpa using h1) (by simpa using h2)⟩
theorem VRs.get {C:Cx} {gs:List GV} {vs:List Value} (h:VRs C gs vs) {j:Nat} {g:GV} (hj:gs[j]?=some g):∃u,vs[j]?=some u/\VR C g u:=by
 have hlt:j<gs.length:=(List.getElem?_eq_some_iff.1 hj).1;have hlt':j<vs.length:=by rw[h.1];exact hlt
 exact⟨vs[j],gL hlt',h.2 j g _ hj (gL hlt')⟩
theorem VRs.append {C:Cx} {gs hs:List GV} {vs us:List Value} (h:VRs C gs vs) (k:VRs C hs us):VRs C (gs++hs) (vs++us):=by
 refine⟨by simp[h.1,k.1],fun j g u h1 h2=>?_⟩;by_cases hj:j<gs.length
 ·rw[aU hj] at h1;rw[aU (by rw[h.1];exact hj)] at h2;exact h.2 j g u h1 h2
 ·rw[bT (by omega)] at h1;rw[bT (by rw[h.1];omega),h.1] at h2;exact k.2 _ g u h1 h2
theorem VRs.take {C:Cx} {gs:List GV} {vs:List Value} (h:VRs C gs vs) (n:Nat):VRs C (gs.take n) (vs.take n):=by
 refine⟨by simp[h.1],fun j g u h1 h2=>?_⟩;rw[cH] at h1 h2;split at h1
 ·rename_i hj;rw[aA hj] at h2;exact h.2 j g u h1 h2
 ·cases h1
theorem VRs.drop {C:Cx} {gs:List GV} {vs:List Value} (h:VRs C gs vs) (n:Nat):VRs C (gs.drop n) (vs.drop n):=by
 refine⟨by simp[h.1],fun j g u h1 h2=>?_⟩;rw[eP] at h1 h2;exact h.2 _ g u h1 h2
theorem VRs.set {C:Cx} {gs:List GV} {vs:List Value} (h:VRs C gs vs) (n:Nat) {g:GV} {v:Value} (hg:VR C g v):VRs C (gs.set n g) (vs.set n v):=by
 refine⟨by simp[h.1],fun j g' u h1 h2=>?_⟩;rw[List.getElem?_set] at h1 h2;rw[h.1] at h2;split at h1
 ·rename_i hj;rw[aA hj] at h2;split at h1
  ·rename_i hl;rw[aA hl] at h2;cases h1;cases h2;exact hg
  ·cases h1
 ·rename_i hj;rw[aB hj] at h2;exact h.2 j g' u h1 h2
theorem VRs.rehd {C:Cx} {hd:Nat->Option Held} {gs:List GV} {vs:List Value} (h:VRs C gs vs):VRs {C with hd:=hd} gs vs:=⟨h.1,fun j g u h1 h2=>(h.2 j g u h1 h2).rehd⟩
theorem VR.cells {C:Cx} {g:GV} {v:Value} (h:VR C g v) (hk:g.known=true):VRs C g.cells v.cells.toList:=by
 cases h with
 |any=>cases hk
 |agg hl hv=>exact⟨by simpa[Value.cells,GV.cells] using hl,fun j g u h1 h2=>hv j g u h1 (by simpa[Value.cells] using h2)⟩
 |o h=>
  have hc:v.cells= #[v]:=by cases v<;>first|rfl|(simp[FV] at h;done)
  rw[hc];exact fS (.o h) iO
 |_=>exact fS (by constructor<;>assumption) iO
theorem VR.isCell {C:Cx} {g:GV} {v:Value} (h:VR C g v) (hc:g.isCell=true):v.oneCell'=true:=by
 cases h<;>first|rfl|(simp[GV.isCell] at hc;done)|(rename_i h;revert h;cases v<;>simp[FV,Value.oneCell'])
theorem kI {n:Nat} {x:GV} (h:oE n x=true):x.cells.length=n:=by
 simp only[oE,aF,bU] at h;exact h.1
theorem u4 {n:Nat} {x:GV} (h:oE n x=true):∀g∈x.cells,g.isCell=true:=by
 simp only[oE,aF,aZ] at h;exact h.2
theorem nZ {n:Nat} {x:GV} (h:oE n x=true):x.known=true:=by
 cases x<;>first|rfl|(simp[oE,GV.cells,GV.isCell] at h;done)
variable [Globals]
inductive GDef where
 |fn (k:FuncId) (args cap:List GV)
 |coll (r:Nat)
inductive GObj where
 |box (T:TypeId) (cs:List GV)
 |own (n esz ty:Nat)
 |mp (es:List (GV×GV))
 |mx (es:List (GV×GV)) (bs:List Nat) (clk:Nat)
 |it (m:Option Nat) (since:Nat) (seen:List Nat) (last:Nat)
 |loop (st:LoopState) (pe:Option Code) (n:Nat) (φ:Nat->GV) (ps:Array Tmp) (asg body:Code) (rd:Nat)
 |dfr
 |dead
 |free
 |held
structure GS where
 objs:List GObj
 lo:Nat
 ds:List GDef:=[]
def d8 (C:Cx) (r:Nat):Option Nat:=
 match C.bk r with
 |some b=>some b
 |none=>(C.own r).bind fun I=>I.blk.map (·.1)
def BoxV (C:Cx) (T:TypeId) (cs:List GV) (vs:Array Value):Prop:=VRs C cs (vs.toList.take cs.length)/\((Globals.wr T||Globals.sp T)=false->vs.size=cs.length)
theorem BoxV.mono {C D:Cx} {T:TypeId} {cs:List GV} {vs:Array Value} (hl:C.le D) (h:BoxV C T cs vs):BoxV D T cs vs:=⟨h.1.mono hl,h.2⟩
theorem BoxV.exact {C:Cx} {T:TypeId} {cs:List GV} {vs:Array Value} (h:BoxV C T cs vs) (hT:(Globals.wr T||Globals.sp T)=false):VRs C cs vs.toList:=by
 have h1:=h.1;have h2:=h.2 hT;rw[fN (by rw[b8];omega)] at h1;exact h1
theorem VRs.box {C:Cx} {T:TypeId} {cs:List GV} {vs:Array Value} (h:VRs C cs vs.toList):BoxV C T cs vs:=
 ⟨by rw[<-h.1,dG];exact h,fun _=>by rw[<-h.1,b8]⟩
def ORel (C:Cx) (w:World) (r:Nat):GObj->Prop
 |.box T cs=>C.own r=none/\∃b vs,C.bk r=some b/\w.heap[b]?=some (.cells vs T (0,0))/\BoxV C T cs vs
 |.own n esz ty=>C.bk r=none/\∃I,C.own r=some I/\I.len=n/\I.esz=esz/\
   ∀b sz,I.blk=some (b,sz)->(0<esz/\n*esz<=sz)/\∃vs,w.heap[b]?=some (.cells vs ty (0,0))/\vs.size=sz
 |.mp es=>C.own r=none/\∃b ents clk,C.bk r=some b/\w.heap[b]?=some (.map ents clk)/\
   VRs C (es.map (·.1)) (ents.toList.map (·.key))/\VRs C (es.map (·.2)) (ents.toList.map (·.val))
 |.mx es bs clk=>C.own r=none/\∃b ents,C.bk r=some b/\w.heap[b]?=some (.map ents clk)/\ents.toList.map (·.born)=bs/\
   VRs C (es.map (·.1)) (ents.toList.map (·.key))/\VRs C (es.map (·.2)) (ents.toList.map (·.val))
 |.it m since seen last=>C.own r=none/\∃b mb,C.bk r=some b/\w.heap[b]?=some (.mapIter mb since seen.reverse.toArray last)/\∀q,m=some q->∃c,mb=some c/\C.bk q=some c
 |.loop st pe n φ ps asg body rd=>C.own r=none/\∃b L,C.bk r=some b/\w.heap[b]?=some (.loop L)/\L.state=st/\L.pending=pe/\L.params=ps/\L.assign=asg/\L.body=body/\
   L.tmps.size=n/\(∀t,VR C (φ t) (L.tmps.getD t undef))/\C.bk rd=some L.defers
 |.dfr=>C.own r=none/\∃b,C.bk r=some b/\w.heap[b]?=some (.deferred (some []))
 |.dead=>(C.bk r=none∨C.own r=none)/\∀b,d8 C r=some b->b<w.heap.size
 |.free=>C.bk r=none/\C.own r=none
 |.held=>(C.bk r=none∨C.own r=none)/\(∀b,d8 C r=some b->b<w.heap.size)/\∃h,C.hd r=some h/\C.bk r=h.bk/\C.own r=h.own/\∀b,d8 C r=some b->w.heap[b]?=h.ob
structure Base (mine:Nat->Prop) (w0 w:World):Prop where
 os:w.os=w0.os
 output:w.output=w0.output
 size:w0.heap.size<=w.heap.size
 block:∀k,k<w0.heap.size->¬mine k->w.heap[k]?=w0.heap[k]?
theorem Base.refl (m:Nat->Prop) (w:World):Base m w w:=⟨rfl,rfl,rL _,fun _ _ _=>rfl⟩
theorem Base.trans {m:Nat->Prop} {a b c:World} (h:Base m a b) (k:Base m b c):Base m a c:=
 ⟨k.os.trans h.os,k.output.trans h.output,gX h.size k.size,fun i hi hm=>(k.block i (bV hi h.size) hm).trans (h.block i hi hm)⟩
structure Rel (C:Cx) (σ:GS) (w0 w:World):Prop where
 below:Base C.mine w0 w
 fxc:∀b o v,C.fx b o v->w.cell? ⟨b,o,none⟩=some v
 obj:∀r x,σ.objs[r]?=some x->ORel C w r x
 dom:∀r,σ.objs.length<=r->C.bk r=none/\C.own r=none
 new:∀r b,d8 C r=some b->w0.heap.size<=b∨C.mine b
 inj:∀r r' b,d8 C r=some b->d8 C r'=some b->r=r'
 sepB:∀r b o v,C.bk r=some b->C.fx b o v->False
 sepO:∀r I b sz o v,C.own r=some I->I.blk=some (b,sz)->C.fx b o v->o<I.len*I.esz
 fxn:∀b o v,C.fx b o v->C.f0 b o v∨w0.heap.size<=b∨C.mine b
 gl:∀g cs (j:Nat) x,Globals.tab g=some cs->cs[j]?=some x->∃u,C.fx g j u/\∀D:Cx,(∀b o v,C.fx b o v->D.fx b o v)->VR D x u
 gs:∀g cs,Globals.tab g=some cs->¬C.mine g/\∃c t fr,w0.heap[g]?=some (.cells c t fr)/\c.size=cs.length
theorem dM {C:Cx} {r b:Nat} (h:C.bk r=some b):d8 C r=some b:=by simp[d8,h]
theorem jJ {C:Cx} {r b sz:Nat} {I:Own} (h0:C.bk r=none) (h:C.own r=some I) (hb:I.blk=some (b,sz)):d8 C r=some b:=by
 simp[d8,h0,h,hb]
theorem qK {C:Cx} {σ:GS} {w0 w:World} (h:Rel C σ w0 w) {b o:Nat} {v:Value} (hx:C.fx b o v):b<w.heap.size:=
 block_lt_of_cell (h.fxc b o v hx)
theorem n8 {C:Cx} {σ:GS} {w0 w:World} (h:Rel C σ w0 w) {r b:Nat} (hb:d8 C r=some b):b<w.heap.size:=by
 by_cases hr:r<σ.objs.length
 ·have ho:=h.obj r _ (gL hr);have lt:∀{k:Nat} {o:Obj},w.heap[k]?=some o->k<w.heap.size:=fun hk=>(Array.getElem?_eq_some_iff.1 hk).1;revert ho;cases σ.objs[r] with
  |box T cs=>
   rintro⟨_,b',vs,h1,h2,_⟩;rw[dM h1] at hb;cases hb;exact lt h2
  |own n esz ty=>
   rintro⟨h0,I,h1,_,_,h2⟩;cases hI:I.blk with
   |none=>simp[d8,h0,h1,hI] at hb
   |some p=>
    obtain⟨b',sz⟩:=p;rw[jJ h0 h1 hI] at hb;cases hb;obtain⟨_,vs,h3,_⟩:=h2 _ _ hI;exact lt h3
  |mp es=>
   rintro⟨_,b',ents,clk,h1,h2,_⟩;rw[dM h1] at hb;cases hb;exact lt h2
  |mx es bs clk=>
   rintro⟨_,b',ents,h1,h2,_⟩;rw[dM h1] at hb;cases hb;exact lt h2
  |it m since seen last=>
   rintro⟨_,b',mb,h1,h2,_⟩;rw[dM h1] at hb;cases hb;exact lt h2
  |loop st pe n φ ps asg body rd=>
   rintro⟨_,b',L,h1,h2,_⟩;rw[dM h1] at hb;cases hb;exact lt h2
  |dfr=>
   rintro⟨_,b',h1,h2⟩;rw[dM h1] at hb;cases hb;exact lt h2
  |dead=>intro h1;exact h1.2 b hb
  |free=>rintro⟨h1,h2⟩;simp[d8,h1,h2] at hb
  |held=>intro h1;exact h1.2.1 b hb
 ·obtain⟨h1,h2⟩:=h.dom r (by omega);simp[d8,h1,h2] at hb
theorem ORel.keep' {C D:Cx} {w w':World} {r:Nat} {x:GObj} (hl:C.le D) (hb:D.bk r=C.bk r) (ho:D.own r=C.own r) (hsz:∀b,d8 C r=some b->b<w'.heap.size)
  (hk:∀b,d8 C r=some b->w'.heap[b]?=w.heap[b]?) (h:ORel C w r x):ORel D w' r x:=by
 cases x with
 |mx es bs clk=>
  obtain⟨h0,b,ents,h1,h2,h3,h4,h5⟩:=h;exact⟨ho.trans h0,b,ents,hb.trans h1,(hk b (dM h1)).trans h2,h3,h4.mono hl,h5.mono hl⟩
 |it m since seen last=>
  obtain⟨h0,b,mb,h1,h2,h3⟩:=h;exact⟨ho.trans h0,b,mb,hb.trans h1,(hk b (dM h1)).trans h2,fun q hq=>(h3 q hq).imp fun c hc=>⟨hc.1,hl.bk _ _ hc.2⟩⟩
 |loop st pe n φ ps asg body rd=>
  obtain⟨h0,b,L,h1,h2,h3,h4,h5,h6,h7,h8,h9,h10⟩:=h;exact⟨ho.trans h0,b,L,hb.trans h1,(hk b (dM h1)).trans h2,h3,h4,h5,h6,h7,h8,fun t=>(h9 t).mono hl,hl.bk _ _ h10⟩
 |dfr=>
  obtain⟨h0,b,h1,h2⟩:=h;exact⟨ho.trans h0,b,hb.trans h1,(hk b (dM h1)).trans h2⟩
 |free=>exact⟨hb.trans h.1,ho.trans h.2⟩
 |held=>
  obtain⟨h1,h2,hh,h3,h4,h5,h6⟩:=h;have e:d8 D r=d8 C r:=by simp[d8,hb,ho]
  exact⟨h1.imp (hb.trans ·) (ho.trans ·),fun b h1=>hsz b (e▸h1),hh,(congrFun hl.hd r).trans h3,hb.trans h4,ho.trans h5,fun b h1=>(hk b (e▸h1)).trans (h6 b (e▸h1))⟩
 |dead=>
  refine⟨h.1.imp (hb.trans ·) (ho.trans ·),fun b h1=>?_⟩;have e:d8 D r=d8 C r:=by simp[d8,hb,ho]
  exact hsz b (e▸h1)
 |box T cs=>
  obtain⟨h0,b,vs,h1,h2,h3⟩:=h;exact⟨ho.trans h0,b,vs,hb.trans h1,(hk b (dM h1)).trans h2,h3.mono hl⟩
 |own n esz ty=>
  obtain⟨h0,I,h1,h2,h3,h4⟩:=h;refine⟨hb.trans h0,I,ho.trans h1,h2,h3,fun b sz hI=>?_⟩;obtain⟨h5,vs,h6,h7⟩:=h4 b sz hI;exact⟨h5,vs,(hk b (jJ h0 h1 hI)).trans h6,h7⟩
 |mp es=>
  obtain⟨h0,b,ents,clk,h1,h2,h3,h4⟩:=h;exact⟨ho.trans h0,b,ents,clk,hb.trans h1,(hk b (dM h1)).trans h2,h3.mono hl,h4.mono hl⟩
theorem ORel.keep {C D:Cx} {σ:GS} {w0 w w':World} {r:Nat} {x:GObj} (hR:Rel C σ w0 w) (hl:C.le D) (hb:D.bk r=C.bk r) (ho:D.own r=C.own r) (hsz:w.heap.size<=w'.heap.size)
  (hk:∀b,d8 C r=some b->w'.heap[b]?=w.heap[b]?) (h:ORel C w r x):ORel D w' r x:=ORel.keep' hl hb ho (fun b hb=>bV (n8 hR hb) hsz) hk h
theorem Rel.upd {C D:Cx} {σ σ':GS} {w0 w w':World} (t r0:Nat) (x0:GObj) (h:Rel C σ w0 w) (hl:C.le D)
  (hσ0:σ'.objs[r0]?=some x0) (hσ:∀r,r≠r0->σ'.objs[r]?=σ.objs[r]?) (hlen:σ.objs.length<=σ'.objs.length)
  (hos:w'.os=w.os) (htape:w'.tape=w.tape) (hout:w'.output=w.output) (hsize:w.heap.size<=w'.heap.size)
  (hkeep:∀k,k≠t->k<w.heap.size->w'.heap[k]?=w.heap[k]?) (ht:w0.heap.size<=t∨C.mine t)
  (hoth:∀r,r≠r0->D.bk r=C.bk r/\D.own r=C.own r)
  (hfree:∀r,r≠r0->d8 C r≠some t)
  (hblk:∀b,d8 D r0=some b->b=t∨d8 C r0=some b)
  (hfx:∀b o v,D.fx b o v->w'.cell? ⟨b,o,none⟩=some v)
  (hfxn:∀b o v,D.fx b o v->C.fx b o v∨b=t)
  (hobj:ORel D w' r0 x0)
  (hsB:∀b o v,D.bk r0=some b->D.fx b o v->False)
  (hsO:∀I b sz o v,D.own r0=some I->I.blk=some (b,sz)->D.fx b o v->o<I.len*I.esz):Rel D σ' w0 w':=by
 have hblk':∀r,r≠r0->d8 D r=d8 C r:=fun r hr=>by simp[d8,(hoth r hr).1,(hoth r hr).2]
 refine⟨?_,hfx,?_,?_,?_,?_,?_,?_,fun b o v hx=>?_,fun g cs j x h1 h2=>(h.gl g cs j x h1 h2).imp fun u hu=>⟨hl.fx _ _ _ hu.1,fun E he=>hu.2 E fun _ _ _ hx=>he _ _ _ (hl.fx _ _ _ hx)⟩,fun g cs hg=>by rw[hl.fix.1];exact h.gs g cs hg⟩
 ·rw[hl.fix.1];refine⟨hos.trans h.below.os,hout.trans h.below.output,gX h.below.size hsize,fun k hk hm=>?_⟩;rw[<-h.below.block k hk hm];exact hkeep k (fun e=>by subst e;exact ht.elim (fun h1=>by omega) hm) (bV hk h.below.size)
 ·intro r x hx;by_cases hr:r=r0
  ·subst hr;rw[hσ0] at hx;cases hx;exact hobj
  ·rw[hσ r hr] at hx;refine ORel.keep h hl (hoth r hr).1 (hoth r hr).2 hsize (fun b hb=>?_) (h.obj r x hx);exact hkeep b (fun e=>hfree r hr (e▸hb)) (n8 h hb)
 ·intro r hr;have hne:r≠r0:=fun e=>by
   subst e;have:=(List.getElem?_eq_some_iff.1 hσ0).1;omega
  rw[(hoth r hne).1,(hoth r hne).2];exact h.dom r (by omega)
 ·intro r b hb;by_cases hr:r=r0
  ·subst hr;rw[hl.fix.1];rcases hblk b hb with rfl|hb'
   ·exact ht
   ·exact h.new r b hb'
  ·rw[hblk' r hr] at hb;rw[hl.fix.1];exact h.new r b hb
 ·intro r r' b hb hb';by_cases hr:r=r0<;>by_cases hr':r'=r0
  ·rw[hr,hr']
  ·subst hr;rw[hblk' r' hr'] at hb';rcases hblk b hb with rfl|hb2
   ·exact absurd hb' (hfree r' hr')
   ·exact h.inj _ _ b hb2 hb'
  ·subst hr';rw[hblk' r hr] at hb;rcases hblk b hb' with rfl|hb2
   ·exact absurd hb (hfree r hr)
   ·exact h.inj _ _ b hb hb2
  ·rw[hblk' r hr] at hb;rw[hblk' r' hr'] at hb';exact h.inj _ _ b hb hb'
 ·intro r b o v hb hx;by_cases hr:r=r0
  ·subst hr;exact hsB b o v hb hx
  ·rw[(hoth r hr).1] at hb;rcases hfxn b o v hx with hc|rfl
   ·exact h.sepB r b o v hb hc
   ·exact hfree r hr (dM hb)
 ·intro r I b sz o v hI hb hx;by_cases hr:r=r0
  ·subst hr;exact hsO I b sz o v hI hb hx
  ·rw[(hoth r hr).2] at hI;rcases hfxn b o v hx with hc|rfl
   ·exact h.sepO r I b sz o v hI hb hc
   ·exfalso;have hd:r<σ.objs.length:=by
     rcases dF r σ.objs.length with h1|h1
     ·exact h1
     ·have:=(h.dom r h1).2;rw[this] at hI;cases hI
    have ho:=h.obj r _ (gL hd);have h0:C.bk r=none:=by
     revert ho;cases σ.objs[r] with
     |box T cs=>rintro⟨h1,_⟩;rw[h1] at hI;cases hI
     |own n esz ty=>rintro⟨h1,_⟩;exact h1
     |mp es|mx es bs clk|it m since seen last=>rintro⟨h1,_⟩;rw[h1] at hI;cases hI
     |loop st pe n φ ps asg body rd=>rintro⟨h1,_⟩;rw[h1] at hI;cases hI
     |dfr=>rintro⟨h1,_⟩;rw[h1] at hI;cases hI
     |dead=>rintro⟨h1,_⟩;exact h1.resolve_right (by rw[hI];simp)
     |free=>rintro⟨_,h1⟩;rw[h1] at hI;cases hI
     |held=>rintro⟨h1,_⟩;exact h1.resolve_right (by rw[hI];simp)
    exact hfree r hr (jJ h0 hI hb)
 ·rw[hl.fix.1,hl.fix.2];rcases hfxn b o v hx with h1|rfl
  ·exact h.fxn b o v h1
  ·exact .inr ht
theorem Rel.world {C:Cx} {σ:GS} {w0 w w':World} (h:Rel C σ w0 w) (hos:w'.os=w.os) (htape:w'.tape=w.tape) (hout:w'.output=w.output)
  (hsize:w.heap.size<=w'.heap.size) (hkeep:∀k,k<w.heap.size->w'.heap[k]?=w.heap[k]?):Rel C σ w0 w':=
 ⟨h.below.trans ⟨hos,hout,hsize,fun k hk _=>hkeep k hk⟩,
  fun b o v hx=>(World.cell?_of_block (w:=w) (w':=w') (a:=⟨b,o,none⟩) (hkeep b (qK h hx))).trans (h.fxc b o v hx),
  fun r x hx=>ORel.keep h (.refl C) rfl rfl hsize (fun b hb=>hkeep b (n8 h hb)) (h.obj r x hx),h.dom,h.new,h.inj,h.sepB,h.sepO,h.fxn,h.gl,h.gs⟩
theorem Rel.addFx {C:Cx} {σ:GS} {w0 w w':World} (h:Rel C σ w0 w) (hos:w'.os=w.os) (htape:w'.tape=w.tape) (hout:w'.output=w.output)
  (hsize:w.heap.size<=w'.heap.size) (hkeep:∀k,k<w.heap.size->w'.heap[k]?=w.heap[k]?) (F:Nat->Nat->Value->Prop) (hF:∀b o v,F b o v->w.heap.size<=b/\w'.cell? ⟨b,o,none⟩=some v):
  ∃D:Cx,C.le D/\(∀b o v,F b o v->D.fx b o v)/\Rel D σ w0 w':=by
 have h1:=h.world hos htape hout hsize hkeep;let D:Cx:={C with fx:=fun b o v=>C.fx b o v∨F b o v};have hl:C.le D:=⟨fun _ _ _ x=>.inl x,fun _ _ x=>x,fun k I x=>⟨I,x,.inl rfl⟩,rfl,rfl,rfl⟩;refine⟨D,hl,fun b o v hf=>.inr hf,h1.below,fun b o v hx=>?_,fun r x hx=>(ORel.keep h1 hl rfl rfl (rL _) (fun _ _=>rfl) (h1.obj r x hx)),h1.dom,h1.new,h1.inj,fun r b o v hb hx=>?_,fun r I b sz o v hI hb hx=>?_,fun b o v hx=>?_,
  fun g cs j x h2 h3=>(h1.gl g cs j x h2 h3).imp fun u hu=>⟨.inl hu.1,fun E he=>hu.2 E fun _ _ _ hx=>he _ _ _ (.inl hx)⟩,h1.gs⟩
 ·rcases hx with hx|hx
  ·exact h1.fxc b o v hx
  ·exact(hF b o v hx).2
 ·rcases hx with hx|hx
  ·exact h1.sepB r b o v hb hx
  ·have:=(hF b o v hx).1;have:=n8 h (dM hb);omega
 ·rcases hx with hx|hx
  ·exact h1.sepO r I b sz o v hI hb hx
  ·have h2:=(hF b o v hx).1;have hbk:C.bk r=none:=by
    rcases dF r σ.objs.length with h3|h3
    ·have ho:=h.obj r _ (gL h3);revert ho;cases σ.objs[r] with
     |box T cs=>rintro⟨h1,_⟩;rw[h1] at hI;cases hI
     |own n esz ty=>rintro⟨h1,_⟩;exact h1
     |mp es|mx es bs clk|it m since seen last=>rintro⟨h1,_⟩;rw[h1] at hI;cases hI
     |loop st pe n φ ps asg body rd=>rintro⟨h1,_⟩;rw[h1] at hI;cases hI
     |dfr=>rintro⟨h1,_⟩;rw[h1] at hI;cases hI
     |dead=>rintro⟨h1,_⟩;exact h1.resolve_right (by rw[hI];simp)
     |free=>rintro⟨_,h1⟩;rw[h1] at hI;cases hI
     |held=>rintro⟨h1,_⟩;exact h1.resolve_right (by rw[hI];simp)
    ·exact(h.dom r h3).1
   have:=n8 h (jJ hbk hI hb);omega
 ·rcases hx with hx|hx
  ·exact h1.fxn b o v hx
  ·exact .inr (.inl (gX h.below.size (hF b o v hx).1))
theorem Rel.drew {C:Cx} {σ:GS} {w0 w:World} (h:Rel C σ w0 w):Rel C σ w0 w.drew:=h.world rfl rfl rfl (rL _) (fun _ _=>rfl)
theorem Rel.ds {C:Cx} {σ:GS} {w0 w:World} (h:Rel C σ w0 w) (l:List GDef):Rel C {σ with ds:=l} w0 w:=⟨h.below,h.fxc,h.obj,h.dom,h.new,h.inj,h.sepB,h.sepO,h.fxn,h.gl,h.gs⟩
theorem Rel.lo {C:Cx} {σ:GS} {w0 w:World} (h:Rel C σ w0 w) (n:Nat):Rel C {σ with lo:=n} w0 w:=⟨h.below,h.fxc,h.obj,h.dom,h.new,h.inj,h.sepB,h.sepO,h.fxn,h.gl,h.gs⟩
structure NewAt (C:Cx) (σ:GS) (r0:Nat) (x:GObj) (σ':GS):Prop where
 bk:C.bk r0=none
 own:C.own r0=none
 at_:σ'.objs[r0]?=some x
 other:∀r,r≠r0->σ'.objs[r]?=σ.objs[r]?
 len:σ.objs.length<=σ'.objs.length
theorem kV {C:Cx} {σ:GS} {w0 w:World} (h:Rel C σ w0 w) (r:Nat):d8 C r≠some w.heap.size:=fun hb=>by
 have:=n8 h hb;omega
theorem IW {l:List GObj} {x:GObj}:(l++[x])[l.length]?=some x:=by simp
theorem B0 {l:List GObj} {x:GObj} (r:Nat) (hr:r≠l.length):(l++[x])[r]?=l[r]?:=by
 by_cases h:r<l.length
 ·rw[aU h]
 ·rw[bT (by omega),b6 (l:=l) (by omega)];exact b6 (by simp;omega)
theorem Rel.newAt {C:Cx} {σ:GS} {w0 w:World} (h:Rel C σ w0 w) (x:GObj):NewAt C σ σ.objs.length x {σ with objs:=σ.objs++[x]}:=
 ⟨(h.dom _ (rL _)).1,(h.dom _ (rL _)).2,IW,fun r hr=>B0 r hr,by simp⟩
theorem Rel.newAt_free {C:Cx} {σ:GS} {w0 w:World} (h:Rel C σ w0 w) {r0:Nat} (h0:σ.objs[r0]?=some .free) (x:GObj):NewAt C σ r0 x {σ with objs:=σ.objs.set r0 x}:=
 ⟨(h.obj r0 _ h0).1,(h.obj r0 _ h0).2,by simp[(List.getElem?_eq_some_iff.1 h0).1],fun r hr=>by rw[cV (Ne.symm hr)],by simp⟩
theorem Rel.putDead {C:Cx} {σ:GS} {w0 w:World} {σ':GS} {r0:Nat} (h:Rel C σ w0 w) (hx:NewAt C σ r0 .dead σ'):Rel C σ' w0 w:=
 ⟨h.below,h.fxc,fun r x hr=>by
  by_cases e:r=r0
  ·subst e;rw[hx.at_] at hr;cases hr;exact⟨.inl hx.bk,fun b hb=>n8 h hb⟩
  ·rw[hx.other r e] at hr;exact h.obj r x hr,fun r hr=>h.dom r (gX hx.len hr),h.new,h.inj,h.sepB,h.sepO,h.fxn,h.gl,h.gs⟩
def Cx.setBk (C:Cx) (r b:Nat):Cx:={C with bk:=fun k=>if k=r then some b else C.bk k}
theorem Cx.le_setBk {C:Cx} {r b:Nat} (h:C.bk r=none):C.le (C.setBk r b):=
 ⟨fun _ _ _ x=>x,fun k b' x=>by
  show(if k=r then some b else C.bk k)=some b';rw[aB (fun e=>by subst e;rw[h] at x;cases x)];exact x,fun k I x=>⟨I,x,.inl rfl⟩,rfl,rfl,rfl⟩
theorem Rel.newBoxP {C:Cx} {σ:GS} {w0 w:World} {σ':GS} {r0:Nat} (h:Rel C σ w0 w) (cs:List GV) (T:TypeId) (hx0:NewAt C σ r0 (.box T cs) σ') (vs:Array Value) (hv:BoxV C T cs vs):
  C.le (C.setBk r0 w.heap.size)/\Rel (C.setBk r0 w.heap.size) σ' w0 (w.alloc (.cells vs T)):=by
 have hd:C.bk r0=none/\C.own r0=none:=⟨hx0.bk,hx0.own⟩;have hl:C.le (C.setBk r0 w.heap.size):=Cx.le_setBk hd.1;refine⟨hl,Rel.upd w.heap.size r0 (.box T cs) h hl hx0.at_ (fun r hr=>hx0.other r hr) hx0.len rfl rfl rfl (by simp) (fun k _ hk=>Below.heap_alloc w _ k hk)
  (.inl h.below.size) (fun r hr=>⟨aB hr,rfl⟩) (fun r _=>kV h r) (fun b hb=>.inl ?_) (fun b o v hx=>?_) (fun b o v hx=>.inl hx) ⟨hd.2,w.heap.size,vs,aA rfl,heap_alloc_new w _,hv.mono hl⟩
  (fun b o v hb hx=>?_) (fun I b sz o v hI=>?_)⟩
 ·have:d8 (C.setBk r0 w.heap.size) r0=some w.heap.size:=dM (aA rfl);rw[this] at hb;cases hb;rfl
 ·have hx':C.fx b o v:=hx;rw[World.cell?_alloc_lt w _ _ (qK h hx')];exact h.fxc b o v hx'
 ·have hb':some w.heap.size=some b:=(aA rfl).symm.trans hb;cases hb';have hx':C.fx w.heap.size o v:=hx;have:=qK h hx';omega
 ·have hI':C.own r0=some I:=hI;rw[hd.2] at hI';cases hI'
theorem Rel.newBox {C:Cx} {σ:GS} {w0 w:World} {σ':GS} {r0:Nat} (h:Rel C σ w0 w) (cs:List GV) (T:TypeId) (hx0:NewAt C σ r0 (.box T cs) σ') (vs:Array Value) (hv:VRs C cs vs.toList):
  C.le (C.setBk r0 w.heap.size)/\Rel (C.setBk r0 w.heap.size) σ' w0 (w.alloc (.cells vs T)):=h.newBoxP cs T hx0 vs hv.box
theorem Rel.newMap {C:Cx} {σ:GS} {w0 w:World} {σ':GS} {r0:Nat} (h:Rel C σ w0 w) (hx0:NewAt C σ r0 (.mp []) σ'):
  C.le (C.setBk r0 w.heap.size)/\Rel (C.setBk r0 w.heap.size) σ' w0 (w.alloc (.map #[] 0)):=by
 have hd:C.bk r0=none/\C.own r0=none:=⟨hx0.bk,hx0.own⟩;have hl:C.le (C.setBk r0 w.heap.size):=Cx.le_setBk hd.1;refine⟨hl,Rel.upd w.heap.size r0 (.mp []) h hl hx0.at_ (fun r hr=>hx0.other r hr) hx0.len rfl rfl rfl (by simp) (fun k _ hk=>Below.heap_alloc w _ k hk)
  (.inl h.below.size) (fun r hr=>⟨aB hr,rfl⟩) (fun r _=>kV h r) (fun b hb=>.inl ?_) (fun b o v hx=>?_) (fun b o v hx=>.inl hx)
  ⟨hd.2,w.heap.size,#[],0,aA rfl,heap_alloc_new w _,iO,iO⟩ (fun b o v hb hx=>?_) (fun I b sz o v hI=>?_)⟩
 ·have:d8 (C.setBk r0 w.heap.size) r0=some w.heap.size:=dM (aA rfl);rw[this] at hb;cases hb;rfl
 ·have hx':C.fx b o v:=hx;rw[World.cell?_alloc_lt w _ _ (qK h hx')];exact h.fxc b o v hx'
 ·have hb':some w.heap.size=some b:=(aA rfl).symm.trans hb;cases hb';have hx':C.fx w.heap.size o v:=hx;have:=qK h hx';omega
 ·have hI':C.own r0=some I:=hI;rw[hd.2] at hI';cases hI'
theorem Rel.newMx {C:Cx} {σ:GS} {w0 w:World} {σ':GS} {r0:Nat} (h:Rel C σ w0 w) (hx0:NewAt C σ r0 (.mx [] [] 0) σ'):
  C.le (C.setBk r0 w.heap.size)/\Rel (C.setBk r0 w.heap.size) σ' w0 (w.alloc (.map #[] 0)):=by
 have hd:C.bk r0=none/\C.own r0=none:=⟨hx0.bk,hx0.own⟩;have hl:C.le (C.setBk r0 w.heap.size):=Cx.le_setBk hd.1;refine⟨hl,Rel.upd w.heap.size r0 (.mx [] [] 0) h hl hx0.at_ (fun r hr=>hx0.other r hr) hx0.len rfl rfl rfl (by simp) (fun k _ hk=>Below.heap_alloc w _ k hk)
  (.inl h.below.size) (fun r hr=>⟨aB hr,rfl⟩) (fun r _=>kV h r) (fun b hb=>.inl ?_) (fun b o v hx=>?_) (fun b o v hx=>.inl hx)
  ⟨hd.2,w.heap.size,#[],aA rfl,heap_alloc_new w _,rfl,iO,iO⟩ (fun b o v hb hx=>?_) (fun I b sz o v hI=>?_)⟩
 ·have:d8 (C.setBk r0 w.heap.size) r0=some w.heap.size:=dM (aA rfl);rw[this] at hb;cases hb;rfl
 ·have hx':C.fx b o v:=hx;rw[World.cell?_alloc_lt w _ _ (qK h hx')];exact h.fxc b o v hx'
 ·have hb':some w.heap.size=some b:=(aA rfl).symm.trans hb;cases hb';have hx':C.fx w.heap.size o v:=hx;have:=qK h hx';omega
 ·have hI':C.own r0=some I:=hI;rw[hd.2] at hI';cases hI'
theorem Rel.newObj {C:Cx} {σ:GS} {w0 w:World} (h:Rel C σ w0 w) (x:GObj) (o:Obj)
  (hx:∀D:Cx,C.le D->D.bk σ.objs.length=some w.heap.size->D.own σ.objs.length=none->ORel D (w.alloc o) σ.objs.length x):
  ∃D:Cx,C.le D/\D.bk σ.objs.length=some w.heap.size/\Rel D {σ with objs:=σ.objs++[x]} w0 (w.alloc o):=by
 have hd:=h.dom σ.objs.length (rL _);have hl:C.le (C.setBk σ.objs.length w.heap.size):=Cx.le_setBk hd.1;refine⟨_,hl,aA rfl,Rel.upd w.heap.size σ.objs.length x h hl IW (fun r hr=>B0 r hr) (by simp) rfl rfl rfl (by simp) (fun k _ hk=>Below.heap_alloc w _ k hk)
  (.inl h.below.size) (fun r hr=>⟨aB hr,rfl⟩) (fun r _=>kV h r) (fun b hb=>.inl ?_) (fun b o v hx=>?_) (fun b o v hx=>.inl hx) (hx _ hl (aA rfl) hd.2)
  (fun b o v hb hx=>?_) (fun I b sz o v hI=>?_)⟩
 ·have:d8 (C.setBk σ.objs.length w.heap.size) σ.objs.length=some w.heap.size:=dM (aA rfl);rw[this] at hb;cases hb;rfl
 ·have hx':C.fx b o v:=hx;rw[World.cell?_alloc_lt w _ _ (qK h hx')];exact h.fxc b o v hx'
 ·have hb':some w.heap.size=some b:=(aA rfl).symm.trans hb;cases hb';have hx':C.fx w.heap.size o v:=hx;have:=qK h hx';omega
 ·have hI':C.own σ.objs.length=some I:=hI;rw[hd.2] at hI';cases hI'
theorem zY {l:List GObj} {r:Nat} {x:GObj} (h:r<l.length):(l.set r x)[r]?=some x:=by simp[h]
theorem tU {l:List GObj} {r:Nat} {x:GObj} (k:Nat) (hk:k≠r):(l.set r x)[k]?=l[k]?:=by
 rw[cV (Ne.symm hk)]
theorem Rel.setObj {C:Cx} {σ:GS} {w0 w w':World} (h:Rel C σ w0 w) {r b:Nat} (hr:r<σ.objs.length) (hb:C.bk r=some b) (x:GObj) (hx:ORel C w' r x)
  (hos:w'.os=w.os) (htape:w'.tape=w.tape) (hout:w'.output=w.output) (hsize:w'.heap.size=w.heap.size)
  (hkeep:∀k,k≠b->w'.heap[k]?=w.heap[k]?):Rel C {σ with objs:=σ.objs.set r x} w0 w':=by
 refine Rel.upd b r x h (.refl C) (zY hr) (fun k hk=>tU k hk) (by simp) hos htape hout (by omega) (fun k hk _=>hkeep k hk)
  (h.new r b (dM hb)) (fun _ _=>⟨rfl,rfl⟩) (fun k hk hkb=>hk (h.inj k r b hkb (dM hb))) (fun b' hb'=>.inr hb') (fun b' o v hf=>?_) (fun _ _ _ hf=>.inl hf) hx
  (fun b' o v hb' hf=>h.sepB r b' o v hb' hf) (fun I b' sz o v hI hb' hf=>h.sepO r I b' sz o v hI hb' hf)
 have hne:b'≠b:=fun e=>h.sepB r b o v hb (e▸hf);exact(World.cell?_of_block (w:=w) (w':=w') (a:=⟨b',o,none⟩) (hkeep b' hne)).trans (h.fxc b' o v hf)
theorem Rel.newNil {C:Cx} {σ:GS} {w0 w:World} {σ':GS} {r0:Nat} (h:Rel C σ w0 w) (hx0:NewAt C σ r0 (.own 0 0 0) σ'):
  ∃D:Cx,C.le D/\D.own r0=some ⟨0,0,none⟩/\Rel D σ' w0 w:=by
 have hd:C.bk r0=none/\C.own r0=none:=⟨hx0.bk,hx0.own⟩;let D:Cx:={C with own:=fun k=>if k=r0 then some ⟨0,0,none⟩ else C.own k};have hl:C.le D:=⟨fun _ _ _ x=>x,fun _ _ x=>x,fun k I x=>⟨I,(aB (fun e=>by subst e;rw[hd.2] at x;cases x)).trans x,.inl rfl⟩,rfl,rfl,rfl⟩;have ho:D.own r0=some ⟨0,0,none⟩:=aA rfl;refine⟨D,hl,ho,Rel.upd w.heap.size r0 (.own 0 0 0) h hl hx0.at_ (fun r hr=>hx0.other r hr) hx0.len rfl rfl rfl (rL _) (fun _ _ _=>rfl)
  (.inl h.below.size) (fun r hr=>⟨rfl,aB hr⟩) (fun r _=>kV h r) (fun b hb=>?_) h.fxc (fun _ _ _ hx=>.inl hx)
  ⟨hd.1,_,ho,rfl,rfl,fun b sz hb=>by cases hb⟩ (fun b o v hb _=>?_) (fun I b sz o v hI hb _=>?_)⟩
 ·have hb1:D.bk r0=none:=hd.1;simp[d8,hb1,ho] at hb
 ·have hb1:D.bk r0=none:=hd.1;rw[hb1] at hb;cases hb
 ·rw[ho] at hI;cases hI;cases hb
theorem Rel.newRow {C : Cx} {σ : GS} {w0 w : World} {σ' : GS} {r0 : Nat} (h : Rel C σ w0 w) (n esz : Nat) (T : TypeId) (hx0 : NewAt C σ r0 (.own n esz T) σ') (vs : Array Value) (h0 : 0 < esz) (hn : n * esz ≤ vs.size) :
    ∃ D : Cx, C.le D ∧ D.own r0 = some ⟨n, esz, some (w.heap.size, vs.size)⟩ ∧ (∀ o v, o < n * esz → vs[o]? = some v → D.fx w.heap.size o v) ∧
      Rel D σ' w0 (w.alloc (.cells vs T)) := by
  have hd : C.bk r0 = none ∧ C.own r0 = none := ⟨hx0.bk, hx0.own⟩
  let D : Cx := { hd := C.hd, mine := C.mine, f0 := C.f0, fx := fun b o v => C.fx b o v ∨ (b = w.heap.size ∧ o < n * esz ∧ vs[o]? = some v), bk := C.bk,
                  own := fun k => if k = r0 then some ⟨n, esz, some (w.heap.size, vs.size)⟩ else C.own k }
  have hl : C.le D := ⟨fun _ _ _ x => .inl x, fun _ _ x => x, fun k I x => ⟨I, (aB (fun e => by subst e; rw [hd.2] at x; cases x)).trans x, .inl rfl⟩, rfl, rfl, rfl⟩
  have ho : D.own r0 = some ⟨n, esz, some (w.heap.size, vs.size)⟩ := aA rfl
  have hb1 : D.bk r0 = none := hd.1
  refine ⟨D, hl, ho, fun o v h1 h2 => .inr ⟨rfl, h1, h2⟩, Rel.upd w.heap.size r0 (.own n esz T) h hl hx0.at_ (fun r hr => hx0.other r hr) hx0.len rfl rfl rfl (by simp)
    (fun k _ hk => Below.heap_alloc w _ k hk) (.inl h.below.size) (fun r hr => ⟨rfl, aB hr⟩) (fun r _ => kV h r) (fun b hb => ?_) (fun b o v hx => ?_) (fun b o v hx => ?_)
    ⟨hd.1, _, ho, rfl, rfl, fun b sz hb => ?_⟩ (fun b o v hb _ => ?_) (fun I b sz o v hI hb hx => ?_)⟩
  · rw [jJ (C := D) hb1 ho rfl] at hb; cases hb; exact .inl rfl
  · rcases hx with hx | ⟨rfl, h1, h2⟩
    · rw [World.cell?_alloc_lt w _ _ (qK h hx)]; exact h.fxc b o v hx
    · rw [cell_of_row _ _ o vs T (0, 0) (heap_alloc_new w _)]; exact h2
  · rcases hx with hx | ⟨rfl, _⟩
    · exact .inl hx
    · exact .inr rfl
  · cases hb
    exact ⟨⟨h0, hn⟩, vs, heap_alloc_new w _, rfl⟩
  · rw [hb1] at hb; cases hb
  · rw [ho] at hI; cases hI; cases hb
    rcases hx with hx | ⟨_, h1, _⟩
    · have := qK h hx; omega
    · exact h1
theorem Rel.moveRow {C : Cx} {σ : GS} {w0 w : World} (h : Rel C σ w0 w) {r : Nat} {I : Own} (hI : C.own r = some I) (m esz : Nat) (vs : Array Value) (T : TypeId)
    (hlt : I.len < m) (hesz : 0 < I.len → esz = I.esz) (h0 : 0 < esz) (hn : m * esz ≤ vs.size) :
    ∃ D : Cx, C.le D ∧ D.own r = some ⟨m, esz, some (w.heap.size, vs.size)⟩ ∧ (∀ o v, o < m * esz → vs[o]? = some v → D.fx w.heap.size o v) ∧
      Rel D { σ with objs := σ.objs.set r (.own m esz T) } w0 (w.alloc (.cells vs T)) := by
  have hr : r < σ.objs.length := by
    rcases dF r σ.objs.length with h1 | h1
    · exact h1
    · rw [(h.dom r h1).2] at hI; cases hI
  have hb1 : C.bk r = none := by
    have ho := h.obj r _ (gL hr);revert ho;cases σ.objs[r] with
    | box T cs => rintro ⟨h1, _⟩; rw [h1] at hI; cases hI
    | own n esz ty => rintro ⟨h1, _⟩; exact h1
    | mp es | mx es bs clk | it m since seen last => rintro ⟨h1, _⟩; rw [h1] at hI; cases hI
    | loop st pe n φ ps asg body rd => rintro ⟨h1, _⟩; rw [h1] at hI; cases hI
    | dfr => rintro ⟨h1, _⟩; rw [h1] at hI; cases hI
    | dead => rintro ⟨h1, _⟩; exact h1.resolve_right (by rw [hI]; simp)
    | free => rintro ⟨_, h1⟩; rw [h1] at hI; cases hI
    | held => rintro ⟨h1, _⟩; exact h1.resolve_right (by rw [hI]; simp)
  let D : Cx := { hd := C.hd, mine := C.mine, f0 := C.f0, fx := fun b o v => C.fx b o v ∨ (b = w.heap.size ∧ o < m * esz ∧ vs[o]? = some v), bk := C.bk,
                  own := fun k => if k = r then some ⟨m, esz, some (w.heap.size, vs.size)⟩ else C.own k }
  have ho : D.own r = some ⟨m, esz, some (w.heap.size, vs.size)⟩ := aA rfl;have hl : C.le D := ⟨fun _ _ _ x => .inl x, fun _ _ x => x, fun k J x => by
    by_cases hk : k = r
    · subst hk
      rw [hI] at x; cases x;exact ⟨_, ho, .inr ⟨hlt, hesz⟩⟩
    · exact ⟨J, (aB hk).trans x, .inl rfl⟩, rfl, rfl, rfl⟩
  refine ⟨D, hl, ho, fun o v h1 h2 => .inr ⟨rfl, h1, h2⟩, Rel.upd w.heap.size r (.own m esz T) h hl (zY hr) (fun k hk => tU k hk) (by simp) rfl rfl rfl (by simp)
    (fun k _ hk => Below.heap_alloc w _ k hk) (.inl h.below.size) (fun k hk => ⟨rfl, aB hk⟩) (fun k _ => kV h k) (fun b hb => ?_) (fun b o v hx => ?_) (fun b o v hx => ?_)
    ⟨hb1, _, ho, rfl, rfl, fun b sz hb => ?_⟩ (fun b o v hb _ => ?_) (fun J b sz o v hJ hb hx => ?_)⟩
  · rw [jJ (C := D) hb1 ho rfl] at hb; cases hb; exact .inl rfl
  · rcases hx with hx | ⟨rfl, h1, h2⟩
    · rw [World.cell?_alloc_lt w _ _ (qK h hx)]; exact h.fxc b o v hx
    · rw [cell_of_row _ _ o vs T (0, 0) (heap_alloc_new w _)]; exact h2
  · rcases hx with hx | ⟨rfl, _⟩
    · exact .inl hx
    · exact .inr rfl
  · cases hb
    exact ⟨⟨h0, hn⟩, vs, heap_alloc_new w _, rfl⟩
  · have : D.bk r = none := hb1
    rw [this] at hb; cases hb
  · rw [ho] at hJ; cases hJ; cases hb
    rcases hx with hx | ⟨_, h1, _⟩
    · have := qK h hx; omega
    · exact h1
theorem Rel.growRow {C : Cx} {σ : GS} {w0 w : World} (h : Rel C σ w0 w) {r b : Nat} {I : Own} (hI : C.own r = some I) (m esz : Nat) (vs vs' : Array Value) (T : TypeId)
    (hb : I.blk = some (b, vs.size)) (hg : w.heap[b]? = some (.cells vs T (0, 0))) (hlt : I.len < m) (hesz : esz = I.esz) (h0 : 0 < esz) (hs : vs'.size = vs.size) (hn : m * esz ≤ vs.size)
    (hpre : ∀ o, o < I.len * esz → vs'[o]? = vs[o]?) :
    ∃ D : Cx, C.le D ∧ D.own r = some ⟨m, esz, some (b, vs.size)⟩ ∧ (∀ o v, o < m * esz → vs'[o]? = some v → D.fx b o v) ∧
      Rel D { σ with objs := σ.objs.set r (.own m esz T) } w0 (w.setRow b vs') := by
  subst hesz;have hr : r < σ.objs.length := by
    rcases dF r σ.objs.length with h1 | h1
    · exact h1
    · rw [(h.dom r h1).2] at hI; cases hI
  have hb1 : C.bk r = none := by
    have ho := h.obj r _ (gL hr);revert ho;cases σ.objs[r] with
    | box T cs => rintro ⟨h1, _⟩; rw [h1] at hI; cases hI
    | own n esz ty => rintro ⟨h1, _⟩; exact h1
    | mp es | mx es bs clk | it m since seen last => rintro ⟨h1, _⟩; rw [h1] at hI; cases hI
    | loop st pe n φ ps asg body rd => rintro ⟨h1, _⟩; rw [h1] at hI; cases hI
    | dfr => rintro ⟨h1, _⟩; rw [h1] at hI; cases hI
    | dead => rintro ⟨h1, _⟩; exact h1.resolve_right (by rw [hI]; simp)
    | free => rintro ⟨_, h1⟩; rw [h1] at hI; cases hI
    | held => rintro ⟨h1, _⟩; exact h1.resolve_right (by rw [hI]; simp)
  let D : Cx := { hd := C.hd, mine := C.mine, f0 := C.f0, fx := fun b' o v => C.fx b' o v ∨ (b' = b ∧ o < m * I.esz ∧ vs'[o]? = some v), bk := C.bk,
                  own := fun k => if k = r then some ⟨m, I.esz, some (b, vs.size)⟩ else C.own k }
  have ho : D.own r = some ⟨m, I.esz, some (b, vs.size)⟩ := aA rfl;have hl : C.le D := ⟨fun _ _ _ x => .inl x, fun _ _ x => x, fun k J x => by
    by_cases hk : k = r
    · subst hk
      rw [hI] at x; cases x;exact ⟨_, ho, .inr ⟨hlt, fun _ => rfl⟩⟩
    · exact ⟨J, (aB hk).trans x, .inl rfl⟩, rfl, rfl, rfl⟩
  have hbC : d8 C r = some b := jJ hb1 hI hb;have hrow := setRow_heap w b vs vs' T (0, 0) hg;refine ⟨D, hl, ho, fun o v h1 h2 => .inr ⟨rfl, h1, h2⟩, Rel.upd b r (.own m I.esz T) h hl (zY hr) (fun k hk => tU k hk) (by simp) rfl rfl rfl (by simp)
    (fun k hk _ => setRow_other w b k vs' hk) (h.new r b hbC) (fun k hk => ⟨rfl, aB hk⟩) (fun k hk hkb => hk (h.inj k r b hkb hbC)) (fun b' hb' => ?_) (fun b' o v hx => ?_) (fun b' o v hx => ?_)
    ⟨hb1, _, ho, rfl, rfl, fun b' sz hb' => ?_⟩ (fun b' o v hb' _ => ?_) (fun J b' sz o v hJ hb' hx => ?_)⟩
  · rw [jJ (C := D) hb1 ho rfl] at hb'; cases hb'; exact .inl rfl
  · rcases hx with hx | ⟨rfl, h1, h2⟩
    · by_cases hbb : b' = b
      · subst hbb
        have hlo := h.sepO r I b' _ o v hI hb hx;have hc := h.fxc b' o v hx;rw [cell_of_row w b' o vs T (0, 0) hg] at hc;rw [cell_of_row _ b' o vs' T (0, 0) hrow, hpre o hlo];exact hc
      · rw [cell_setRow_other w b vs' ⟨b', o, none⟩ hbb]; exact h.fxc b' o v hx
    · rw [cell_of_row _ _ o vs' T (0, 0) hrow]; exact h2
  · rcases hx with hx | ⟨rfl, _⟩
    · exact .inl hx
    · exact .inr rfl
  · cases hb'
    exact ⟨⟨h0, hn⟩, vs', hrow, hs⟩
  · have : D.bk r = none := hb1
    rw [this] at hb'; cases hb'
  · rw [ho] at hJ; cases hJ; cases hb'
    rcases hx with hx | ⟨_, h1, _⟩
    · have := h.sepO r I b _ o v hI hb hx
      have := Nat.mul_le_mul_right I.esz (Nat.le_of_lt hlt);show o < m * I.esz;omega
    · exact h1
