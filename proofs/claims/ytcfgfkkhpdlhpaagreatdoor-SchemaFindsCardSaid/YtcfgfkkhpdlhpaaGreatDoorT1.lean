/-
  A part of the proof of SchemaFinds.
-/
import Derived.WalkKit
import Derived.WalkLawsBesides
import Derived.Orders
import Derived.Deep.Draws
set_option linter.all false
namespace Go.Proofs.YtcfgfkkhpdlhpaaGreatDoor
open Go.RowKit
def aA:=@of_decide_eq_true
def aB:=@of_decide_eq_false
def aC:=@Int.toNat_natCast
def aD:=@List.length_append
def aE:=@if_neg
def aG:=@if_pos
def aH:=@Bool.and_eq_true
def aI:=@Option.map_eq_some_iff
def aJ:=@List.length_cons
def aK:=@List.mem_of_getElem?
def aL:=@decide_eq_true_eq
def aM:=@List.getElem?_map
def aN:=@List.eq_nil_of_length_eq_zero
def aO:=@List.getD_eq_getElem?_getD
def aQ:=@congrArg
def aR:=@Array.getElem?_eq_getElem
def aS:=@List.all_eq_true
def aT:=@List.getElem?_append_left
def aU:=@Array.getD_eq_getD_getElem?
def aV:=@List.length_singleton
def aX:=@List.drop_eq_getElem_cons
def aY:=@Option.some.inj
def b5:=@List.length_nil
def b6:=@List.getElem?_eq_none
def b7:=@List.take_length
def bB:=@Nat.zero_add
def bD:=@List.append_assoc
def bF:=@List.getElem?_append_right
def bJ:=@Array.length_toList
def bM:=@decide_eq_false_iff_not
def bN:=@List.length_take
def bQ:=@List.length_map
def bR:=@List.take_add_one
def bS:=@decide_eq_true
def bT:=@Bool.false_eq_true
def bU:=@Nat.add_sub_cancel_left
def bX:=@List.take_of_length_le
def bY:=@Option.bind_some
def cJ:=@UInt8.toNat_lt
def cM:=@Nat.not_lt_zero
def cO:=@List.map_append
def cT:=@Nat.lt_of_lt_of_le
def cU:=@Function.comp_def
def cV:=@List.exists_cons_of_ne_nil
def cW:=@decide_eq_false
def dB:=@Array.getElem?_toList
def dE:=@beq_iff_eq
def dF:=@List.getElem?_set_ne
def dJ:=@List.getElem?_take
def dK:=@Bool.not_eq_true'
def dN:=@Int.le_refl
def dO:=@List.map_cons
def dS:=@List.ext_getElem?
def dW:=@List.length_drop
def dX:=@Nat.lt_or_ge
def e8:=@Nat.le_trans
def eI:=@List.getElem_mem
def eL:=@Option.map_some
def eR:=@List.mem_append_left
def eU:=@List.takeWhile_cons
def eY:=@Bool.or_eq_true
def eZ:=@Bool.eq_iff_iff
def f5:=@List.mem_range
def f6:=@List.mem_cons_of_mem
def f7:=@List.head?_eq_getElem?
def f9:=@List.flatMap_cons
def fH:=@List.drop_of_length_le
def fK:=@Array.toArray_toList
def fO:=@List.mem_cons_self
def fP:=@if_true
def fR:=@if_false
def gK:=@List.all_cons
def gM:=@List.takeWhile_prefix
def gV:=@List.tail_cons
def gW:=@List.getElem?_drop
def hZ:=@List.foldl_cons
def iG:=@beq_eq_false_iff_ne
def iM:=@List.take_append_drop
def iN:=@List.length_filter_le
def iP:=@Array.getElem?_replicate
def iV:=@List.append_nil
def j1:=@Nat.mul_le_mul_right
def j6:=@Option.some.injEq
def j7:=@Ne.symm
def j8:=@List.drop_drop
def jI:=@List.take_succ_cons
theorem bL {n m:Nat} (h:Nat.ble n m=true):n<=m:=Nat.le_of_ble_eq_true h
theorem zL (n:Nat):0<=n:=Nat.zero_le n
theorem rL (n:Nat):n<=n:=Nat.le_refl n
theorem gL {α:Type _} {l:List α} {i:Nat} (h:i<l.length):l[i]?=some l[i]:=List.getElem?_eq_getElem h
theorem cN (n:Nat):0<=(n:Int):=Int.natCast_nonneg n
inductive Tok where
 |none|full|own (r:Nat)
 deriving DecidableEq,Repr
inductive GV where
 |b (x:Bool)
 |i (k:IntKind) (n:Int)
 |s (x:List UInt8)
 |o (v:Value)
 |agg (cs:List GV)
 |tup (cs:List GV)
 |ifc (t:TypeId) (v:GV)
 |fn (f:Fn) (first captured:List GV)
 |sl (k:Tok) (xs:List GV)
 |ptr (r off:Nat)
 |snap (cs:List GV) (off:Nat)
 |mp (r:Nat)
 |rs (r off esz n c:Nat)
 |glb (g off:Nat)
 |yld (r:Nat)
 |dat (r:Nat) (cs:List GV)
 |any
class Globals where
 tab:Nat->Option (List GV)
 wr:TypeId->Bool
 lt:TypeId->Bool
def GV.known:GV->Bool
 |.any=>false
 |_=>true
def GV.cells:GV->List GV
 |.agg cs=>cs
 |v=>[v]
def GV.isCell:GV->Bool
 |.agg _|.tup _|.any=>false
 |_=>true
def r4 (n:Nat) (x:GV):Bool:=x.cells.length==n&&x.cells.all GV.isCell
def JR:Value->Bool
 |.nilIface|.nilFunc|.pointer none|.map none|.float _ _|.slice (some _) 0 _=>true
 |_=>false
structure Own where
 len:Nat
 esz:Nat
 blk:Option (Nat×Nat)
structure Held where
 bk:Option Nat
 own:Option Own
 ob:Option Obj
structure Cx where
 fx:Nat->Nat->Value->Prop
 bk:Nat->Option Nat
 own:Nat->Option Own
 hd:Nat->Option Held
 mine:Nat->Prop
 f0:Nat->Nat->Value->Prop
structure Cx.le (C D:Cx):Prop where
 fx:∀b o v,C.fx b o v->D.fx b o v
 bk:∀r b,C.bk r=some b->D.bk r=some b
 own:∀r I,C.own r=some I->∃J,D.own r=some J/\(J=I∨(I.len<J.len/\(0<I.len->J.esz=I.esz)))
 hd:D.hd=C.hd
 fix:D.mine=C.mine/\D.f0=C.f0
theorem Cx.le.refl (C:Cx):C.le C:=⟨fun _ _ _ h=>h,fun _ _ h=>h,fun _ I h=>⟨I,h,.inl rfl⟩,rfl,rfl,rfl⟩
theorem Cx.le.trans {C D E:Cx} (h:C.le D) (k:D.le E):C.le E:=
 ⟨fun _ _ _ x=>k.fx _ _ _ (h.fx _ _ _ x),fun _ _ x=>k.bk _ _ (h.bk _ _ x),fun r I x=>by
  obtain⟨J,hJ,e⟩:=h.own r I x;obtain⟨K,hK,f⟩:=k.own r J hJ;refine⟨K,hK,?_⟩;rcases e with rfl|⟨e1,e2⟩
  ·exact f
  ·rcases f with rfl|⟨f1,f2⟩
   ·exact .inr ⟨e1,e2⟩
   ·exact .inr ⟨by omega,fun h0=>(f2 (by omega)).trans (e2 h0)⟩,k.hd.trans h.hd,k.fix.1.trans h.fix.1,k.fix.2.trans h.fix.2⟩
def TokOk (C:Cx) (k:Tok) (n c esz:Nat) (a:Option Addr):Prop:=
 match k with
 |.none=>True
 |.full=>c=n/\(n=0->a=none)
 |.own r=>∃I,C.own r=some I/\n<=I.len/\(0<n->esz=I.esz)/\
   (n=I.len->(n=0/\c=0)∨∃b sz,I.blk=some (b,sz)/\a=some ⟨b,0,none⟩/\c*I.esz<=sz)
theorem TokOk.mono {C D:Cx} {k:Tok} {n c esz:Nat} {a:Option Addr} (hl:C.le D) (h:TokOk C k n c esz a):TokOk D k n c esz a:=by
 cases k with
 |none=>trivial
 |full=>exact h
 |own r=>
  obtain⟨I,hI,hn,he,ht⟩:=h;obtain⟨J,hJ,e⟩:=hl.own r I hI;refine⟨J,hJ,?_⟩;rcases e with rfl|⟨e1,e2⟩
  ·exact⟨hn,he,ht⟩
  ·exact⟨by omega,fun h0=>(he h0).trans (e2 (by omega)).symm,fun h0=>by omega⟩
def DatOk (C:Cx) (r m b off:Nat):Prop:=∃I,C.own r=some I/\m<=I.len/\(m=I.len->off=0/\I.esz=1/\∃sz,I.blk=some (b,sz))
theorem DatOk.mono {C D:Cx} {r m b off:Nat} (hl:C.le D) (h:DatOk C r m b off):DatOk D r m b off:=by
 obtain⟨I,hI,hn,ht⟩:=h;obtain⟨J,hJ,e⟩:=hl.own r I hI;refine⟨J,hJ,?_⟩;rcases e with rfl|⟨e1,e2⟩
 ·exact⟨hn,ht⟩
 ·exact⟨by omega,fun h0=>by omega⟩
inductive VR (C:Cx):GV->Value->Prop where
 |b (x:Bool):VR C (.b x) (.bool x)
 |i (k:IntKind) (n:Int):VR C (.i k n) (.int k n)
 |s (x:List UInt8):VR C (.s x) (.string ⟨x.toArray⟩)
 |o {v:Value} (h:JR v=true):VR C (.o v) v
 |agg {cs:List GV} {vs:Array Value} (hl:vs.size=cs.length) (hv:∀(j:Nat) g u,cs[j]?=some g->vs[j]?=some u->VR C g u):VR C (.agg cs) (.agg vs)
 |tup {cs:List GV} {vs:Array Value} (hl:vs.size=cs.length) (hv:∀(j:Nat) g u,cs[j]?=some g->vs[j]?=some u->VR C g u):VR C (.tup cs) (.tuple vs)
 |ifc {t:TypeId} {g:GV} {u:Value} (h:VR C g u):VR C (.ifc t g) (.iface t u)
 |fn {f:Fn} {a c:List GV} {va vc:Array Value} (hla:va.size=a.length) (hlc:vc.size=c.length)
   (ha:∀(j:Nat) g u,a[j]?=some g->va[j]?=some u->VR C g u) (hc:∀(j:Nat) g u,c[j]?=some g->vc[j]?=some u->VR C g u):VR C (.fn f a c) (.func f va vc)
 |sl {k:Tok} {xs:List GV} {a:Option Addr} {n c:Nat} (esz b off:Nat) (us:Nat->Value) (hn:n=xs.length) (hc:n<=c)
   (ha:(a=none/\c=0)∨a=some ⟨b,off,none⟩∨c=0) (hw:∀x∈xs,x.cells.length=esz)
   (hx:∀(i:Nat) x (j:Nat) g,xs[i]?=some x->x.cells[j]?=some g->C.fx b (off+i*esz+j) (us (i*esz+j)))
   (hv:∀(i:Nat) x (j:Nat) g,xs[i]?=some x->x.cells[j]?=some g->VR C g (us (i*esz+j)))
   (ht:TokOk C k xs.length c esz a):VR C (.sl k xs) (.slice a n c)
 |ptr {r off b:Nat} (h:C.bk r=some b):VR C (.ptr r off) (.pointer (some ⟨b,off,none⟩))
 |snap {cs:List GV} {off:Nat} (b o:Nat) (us:Nat->Value) (hx:∀(j:Nat) g,cs[j]?=some g->C.fx b (o+j) (us j))
   (hv:∀(j:Nat) g,cs[j]?=some g->VR C g (us j)):VR C (.snap cs off) (.pointer (some ⟨b,o+off,none⟩))
 |mp {r b:Nat} (h:C.bk r=some b):VR C (.mp r) (.map (some b))
 |rs {r off esz n c b c':Nat} (h:C.bk r=some b) (hc:n<=c') (hp:0<esz) (hx:c=0∨c=c'):VR C (.rs r off esz n c) (.slice (some ⟨b,off,none⟩) n c')
 |rp {r off b:Nat} (h:C.bk r=some b):VR C (.rs r off 0 0 0) (.pointer (some ⟨b,off,none⟩))
 |glb (g off:Nat):VR C (.glb g off) (.pointer (some ⟨g,off,none⟩))
 |yld {r b:Nat} (h:C.bk r=some b):VR C (.yld r) (.func (.yield b) #[] #[])
 |dat {r off b:Nat} {cs:List GV} (us:Nat->Value) (hx:∀(j:Nat) g,cs[j]?=some g->C.fx b (off+j) (us j))
   (hv:∀(j:Nat) g,cs[j]?=some g->VR C g (us j)) (ht:DatOk C r cs.length b off):VR C (.dat r cs) (.pointer (some ⟨b,off,none⟩))
 |any (v:Value):VR C .any v
theorem VR.mono {C D:Cx} (hl:C.le D) {g:GV} {v:Value} (h:VR C g v):VR D g v:=by
 induction h with
 |b x=>exact .b x
 |i k n=>exact .i k n
 |s x=>exact .s x
 |o h=>exact .o h
 |agg hs _ ih=>exact .agg hs ih
 |tup hs _ ih=>exact .tup hs ih
 |ifc _ ih=>exact .ifc ih
 |fn h1 h2 _ _ ih1 ih2=>exact .fn h1 h2 ih1 ih2
 |sl esz b off us hn hc ha hw hx _ ht ih=>exact .sl esz b off us hn hc ha hw (fun i x j g h1 h2=>hl.fx _ _ _ (hx i x j g h1 h2)) ih (ht.mono hl)
 |ptr h=>exact .ptr (hl.bk _ _ h)
 |snap b o us hx _ ih=>exact .snap b o us (fun j g h1=>hl.fx _ _ _ (hx j g h1)) ih
 |mp h=>exact .mp (hl.bk _ _ h)
 |rs h hc hp hx=>exact .rs (hl.bk _ _ h) hc hp hx
 |rp h=>exact .rp (hl.bk _ _ h)
 |yld h=>exact .yld (hl.bk _ _ h)
 |dat us hx _ ht ih=>exact .dat us (fun j g h1=>hl.fx _ _ _ (hx j g h1)) ih (ht.mono hl)
 |glb g o=>exact .glb g o
 |any v=>exact .any v
theorem VR.rehd {C:Cx} {hd:Nat->Option Held} {g:GV} {v:Value} (h:VR C g v):VR {C with hd:=hd} g v:=by
 induction h with
 |b x=>exact .b x
 |i k n=>exact .i k n
 |s x=>exact .s x
 |o h=>exact .o h
 |agg hs _ ih=>exact .agg hs ih
 |tup hs _ ih=>exact .tup hs ih
 |ifc _ ih=>exact .ifc ih
 |fn h1 h2 _ _ ih1 ih2=>exact .fn h1 h2 ih1 ih2
 |sl esz b off us hn hc ha hw hx _ ht ih=>exact .sl esz b off us hn hc ha hw hx ih (by rename_i k _ _ _ _ _;cases k<;>exact ht)
 |ptr h=>exact .ptr h
 |snap b o us hx _ ih=>exact .snap b o us hx ih
 |mp h=>exact .mp h
 |rs h hc hp hx=>exact .rs h hc hp hx
 |rp h=>exact .rp h
 |yld h=>exact .yld h
 |dat us hx _ ht ih=>exact .dat us hx ih ht
 |glb g o=>exact .glb g o
 |any v=>exact .any v
def VRs (C:Cx) (gs:List GV) (vs:List Value):Prop:=vs.length=gs.length/\∀(j:Nat) g u,gs[j]?=some g->vs[j]?=some u->VR C g u
theorem VRs.mono {C D:Cx} (hl:C.le D) {gs:List GV} {vs:List Value} (h:VRs C gs vs):VRs D gs vs:=⟨h.1,fun j g u h1 h2=>(h.2 j g u h1 h2).mono hl⟩
theorem VRs.nil {C:Cx}:VRs C [] []:=⟨rfl,fun j g u h=>by simp at h⟩
theorem VRs.cons {C:Cx} {g:GV} {v:Value} {gs:List GV} {vs:List Value} (h:VR C g v) (hs:VRs C gs vs):VRs C (g::gs) (v::vs):=by
 refine⟨by simp[hs.1],fun j g' u h1 h2=>?_⟩;cases j with
 |zero=>simp at h1 h2;subst h1;subst h2;exact h
 |succ j=>simp at h1 h2;exact hs.2 j g' u h1 h2
theorem VRs.cons_inv {C:Cx} {g:GV} {gs:List GV} {vs:List Value} (h:VRs C (g::gs) vs):∃v vs',vs=v::vs'/\VR C g v/\VRs C gs vs':=by
 cases vs with
 |nil=>exact absurd h.1 (by simp)
 |cons v vs'=>exact⟨v,vs',rfl,h.2 0 g v rfl rfl,by simpa using h.1,fun j g' u h1 h2=>h.2 (j+1) g' u (by simpa using h1) (by simpa using h2)⟩
theorem VRs.get {C:Cx} {gs:List GV} {vs:List Value} (h:VRs C gs vs) {j:Nat} {g:GV} (hj:gs[j]?=some g):∃u,vs[j]?=some u/\VR C g u:=by
 have hlt:j<gs.length:=(List.getElem?_eq_some_iff.1 hj).1;have hlt':j<vs.length:=by rw[h.1];exact hlt
 exact⟨vs[j],gL hlt',h.2 j g _ hj (gL hlt')⟩
theorem VRs.append {C:Cx} {gs hs:List GV} {vs us:List Value} (h:VRs C gs vs) (k:VRs C hs us):VRs C (gs++hs) (vs++us):=by
 refine⟨by simp[h.1,k.1],fun j g u h1 h2=>?_⟩;by_cases hj:j<gs.length
 ·rw[aT hj] at h1;rw[aT (by rw[h.1];exact hj)] at h2;exact h.2 j g u h1 h2
 ·rw[bF (by omega)] at h1;rw[bF (by rw[h.1];omega),h.1] at h2;exact k.2 _ g u h1 h2
theorem VRs.take {C:Cx} {gs:List GV} {vs:List Value} (h:VRs C gs vs) (n:Nat):VRs C (gs.take n) (vs.take n):=by
 refine⟨by simp[h.1],fun j g u h1 h2=>?_⟩;rw[dJ] at h1 h2;split at h1
 ·rename_i hj;rw[aG hj] at h2;exact h.2 j g u h1 h2
 ·cases h1
theorem VRs.drop {C:Cx} {gs:List GV} {vs:List Value} (h:VRs C gs vs) (n:Nat):VRs C (gs.drop n) (vs.drop n):=by
 refine⟨by simp[h.1],fun j g u h1 h2=>?_⟩;rw[gW] at h1 h2;exact h.2 _ g u h1 h2
theorem VRs.set {C:Cx} {gs:List GV} {vs:List Value} (h:VRs C gs vs) (n:Nat) {g:GV} {v:Value} (hg:VR C g v):VRs C (gs.set n g) (vs.set n v):=by
 refine⟨by simp[h.1],fun j g' u h1 h2=>?_⟩;rw[List.getElem?_set] at h1 h2;rw[h.1] at h2;split at h1
 ·rename_i hj;rw[aG hj] at h2;split at h1
  ·rename_i hl;rw[aG hl] at h2;cases h1;cases h2;exact hg
  ·cases h1
 ·rename_i hj;rw[aE hj] at h2;exact h.2 j g' u h1 h2
theorem VRs.rehd {C:Cx} {hd:Nat->Option Held} {gs:List GV} {vs:List Value} (h:VRs C gs vs):VRs {C with hd:=hd} gs vs:=⟨h.1,fun j g u h1 h2=>(h.2 j g u h1 h2).rehd⟩
theorem VR.cells {C:Cx} {g:GV} {v:Value} (h:VR C g v) (hk:g.known=true):VRs C g.cells v.cells.toList:=by
 cases h with
 |any=>cases hk
 |agg hl hv=>exact⟨by simpa[Value.cells,GV.cells] using hl,fun j g u h1 h2=>hv j g u h1 (by simpa[Value.cells] using h2)⟩
 |o h=>
  have hc:v.cells= #[v]:=by cases v<;>first|rfl|(simp[JR] at h;done)
  rw[hc];exact VRs.cons (.o h) VRs.nil
 |_=>exact VRs.cons (by constructor<;>assumption) VRs.nil
theorem VR.isCell {C:Cx} {g:GV} {v:Value} (h:VR C g v) (hc:g.isCell=true):v.oneCell'=true:=by
 cases h<;>first|rfl|(simp[GV.isCell] at hc;done)|(rename_i h;revert h;cases v<;>simp[JR,Value.oneCell'])
theorem r3 {n:Nat} {x:GV} (h:r4 n x=true):x.cells.length=n:=by
 simp only[r4,aH,dE] at h;exact h.1
theorem IC {n:Nat} {x:GV} (h:r4 n x=true):∀g∈x.cells,g.isCell=true:=by
 simp only[r4,aH,aS] at h;exact h.2
theorem yY {n:Nat} {x:GV} (h:r4 n x=true):x.known=true:=by
 cases x<;>first|rfl|(simp[r4,GV.cells,GV.isCell] at h;done)
