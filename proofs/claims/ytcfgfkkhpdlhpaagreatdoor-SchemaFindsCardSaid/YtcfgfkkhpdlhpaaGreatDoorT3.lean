/-
  A part of the proof of SchemaFinds.
-/
import Derived.Test.YtcfgfkkhpdlhpaaGreatDoorT2
set_option linter.all false
namespace Go.Proofs.YtcfgfkkhpdlhpaaGreatDoor
open Go.RowKit
variable [Globals]
def a2I (P:Program) (t:TypeId):Option Bool:=
 match P.underlying t with
 |some (.struct _)|some (.array _ _)=>some true
 |some _=>some false
 |none=>none
def gF (P:Program) (t:TypeId):Option Nat:=(P.info? t).map (·.size)
def vM (P:Program) (t:TypeId):Option Nat:=(P.info? t).map (·.bytes)
def mN (P:Program) (t:TypeId):Option TypeId:=
 match P.underlying t with
 |some (.slice e)=>some e
 |_=>none
def DI (P:Program) (t:TypeId):Option (Nat×TypeId):=
 match P.underlying t with
 |some (.array n e)=>some (n,e)
 |_=>none
def MV (P:Program) (t:TypeId):Option (TypeId×TypeId):=
 match P.underlying t with
 |some (.map k e)=>some (k,e)
 |_=>none
def C9 (P:Program) (s:TypeId) (f:Nat):Option (Nat×TypeId):=
 match P.underlying s with
 |some (.struct fs)=>(fs[f]?).map fun x=>(x.offset,x.type)
 |_=>none
def TP (P:Program) (t:TypeId):Option TypeId:=
 match P.underlying t with
 |some (.pointer e)=>some e
 |_=>none
def gP (P:Program) (t:TypeId):Option Nat:=
 match P.underlying t with
 |some .string=>some 1
 |some .bool=>some 2
 |some (.interface _)=>some 3
 |some (.pointer _)=>some 4
 |some (.int _)=>some 5
 |some (.slice _)=>some 6
 |some _=>some 0
 |none=>none
def N3 (P:Program) (t:TypeId):Option IntKind:=
 match P.underlying t with
 |some (.int k)=>some k
 |_=>none
def E6:Nat->Value->GV
 |0,_=>.any
 |n+1,v=>
  match v with
  |.bool b=>.b b
  |.int k i=>.i k i
  |.string s=>.s s.data.toList
  |.slice none 0 0=>.sl .full []
  |.agg vs=>.agg (vs.toList.map (E6 n))
  |v=>if JR v then .o v else .any
def sO (v:Value):GV:=E6 3 v
def lX (P:Program) (t:TypeId):Option GV:=((P.info? t).bind (·.zero)).map sO
def dA (φ:Nat->GV):Operand->GV
 |.tmp t=>φ t
 |.const v=>sO v
 |.global g=>.glb g 0
 |.func f=>.fn (.func f) [] []
def wN (P:Program) (t:TypeId) (cs:List GV) (off:Nat):Option GV:=
 match a2I P t with
 |some true=>match gF P t with
  |some n=>if off+n<=cs.length then some (.agg ((cs.drop off).take n)) else none
  |none=>none
 |some false=>cs[off]?
 |none=>none
def gG:Nat:=4294967296
def tI:Nat:=4611686018427387904
def gnew (σ:GS) (x:GObj):GS:={σ with objs:=σ.objs++[x]}
def gset (σ:GS) (r:Nat) (x:GObj):GS:={σ with objs:=σ.objs.set r x}
abbrev OB:=(Nat->GV)×GObj
def GH (P:Program) (t:TypeId):Option OB:=
 match lX P t with
 |some z=>if z.known then some (fun r=>.ptr r 0,.box t z.cells) else none
 |none=>none
def a24 (t:TypeId) (x:GV):Option OB:=if x.known then some (fun r=>.ptr r 0,.box t x.cells) else none
def a1y:List GV->Nat->List GV->List GV
 |cs,_,[]=>cs
 |cs,off,x::xs=>a1y (cs.set off x) (off+1) xs
def NH (place:Nat->Option (Nat×Nat)):List GV->List (Nat×GV)->Option (List GV)
 |cs,[]=>some cs
 |cs,(i,v)::rest=>
  match place i with
  |none=>none
  |some (off,size)=>if !v.known||v.cells.length≠size||off+v.cells.length>cs.length then none else NH place (a1y cs off v.cells) rest
def BH (P:Program) (t:TypeId) (i:Nat):Option (Nat×Nat):=
 match DI P t with
 |some (_,e)=>(gF P e).map fun n=>(i*n,n)
 |none=>match C9 P t i with
  |some (o,ft)=>(gF P ft).map fun n=>(o,n)
  |none=>none
def VK (P:Program) (t:TypeId):Bool:=
 match P.underlying t with
 |some (.struct fs)=>fs.toList.all fun f=>(P.info? f.type).isSome
 |some (.array _ e)=>(P.info? e).isSome
 |_=>false
def Q0 (P:Program) (t:TypeId) (parts:List (Nat×GV)):Option GV:=
 match lX P t with
 |some (.agg z)=>if VK P t then(NH (BH P t) z parts).map .agg else none
 |_=>none
def x3 (P:Program) (t:TypeId) (len:Nat) (parts:List (Nat×GV)):Option OB:=
 match mN P t with
 |some e=>
  match gF P e,lX P e with
  |some size,some z=>
   if 0<size&&z.known&&(parts.map (·.1)==List.range len)&&(parts.map (·.2)).all (r4 size)&&decide (len*size<=16777216) then
    if Globals.wr e&&len==0 then some (fun r=>.sl (.own r) [],.own 0 0 0) else if Globals.lt e then some (fun r=>.rs r 0 size len len,.box e ((parts.map (·.2)).flatMap GV.cells)) else some (fun r=>.sl (.own r) (parts.map (·.2)),.own len size e)
   else none
  |_,_=>none
 |none=>none
def nN (P:Program) (t:TypeId) (a:GV) (σ:GS):Option GV:=
 match a with
 |.ptr r off=>match σ.objs[r]? with
  |some (.box T cs)=>wN P t cs off
  |_=>none
 |.rs r off e _ _=>if e=0 then match σ.objs[r]? with
  |some (.box _ cs)=>wN P t cs off
  |_=>none
  else none
 |.snap cs off=>wN P t cs off
 |.glb g off=>match Globals.tab g with
  |some cs=>wN P t cs off
  |none=>none
 |_=>none
def jX (P:Program) (t:TypeId) (r off:Nat) (v:GV) (σ:GS):Option GS:=
 match σ.objs[r]? with
 |some (.box T cs)=>
  if σ.lo<=r&&r4 ((gF P t).getD 0) v&&(gF P t).isSome&&decide (off+v.cells.length<=cs.length) then
   some (gset σ r (.box T (cs.take off++v.cells++cs.drop (off+v.cells.length))))
  else none
 |_=>none
def oZ (P:Program) (t:TypeId) (a v:GV) (σ:GS):Option GS:=
 match a with
 |.ptr r off=>jX P t r off v σ
 |.rs r off e _ _=>if e=0 then jX P t r off v σ else none
 |_=>none
def IP (x:GV):Option GV:=
 match x with
 |.ptr _ _|.snap _ _|.glb _ _|.ifc _ _|.fn (.func _) _ _=>some x
 |_=>none
def XO (op:BinOp) (k:IntKind) (a b:Int):Option GV:=
 match op with
 |.add=>some (.i k (k.wrap (a+b)))
 |.sub=>some (.i k (k.wrap (a - b)))
 |.mul=>some (.i k (k.wrap (a*b)))
 |.quo=>if b=0 then none else some (.i k (k.wrap (a.tdiv b)))
 |.rem=>if b=0 then none else some (.i k (a.tmod b))
 |.and|.or|.xor|.andNot=>some (.i k (bits op k a b))
 |.eql=>some (.b (a==b))
 |.neq=>some (.b (a !=b))
 |.lss=>some (.b (a<b))
 |.leq=>some (.b (a<=b))
 |.gtr=>some (.b (a>b))
 |.geq=>some (.b (a>=b))
 |_=>none
def a06 (op:BinOp) (a b:List UInt8):Option GV:=
 match op with
 |.add=>if a.length+b.length<tI then some (.s (a++b)) else none
 |.eql=>some (.b (a==b))
 |.neq=>some (.b (!(a==b)))
 |.lss=>some (.b (Op.bytesLess a b))
 |.leq=>some (.b (Op.bytesLess a b||a==b))
 |.gtr=>some (.b (!(Op.bytesLess a b||a==b)))
 |.geq=>some (.b (!Op.bytesLess a b))
 |_=>none
def j9:Operand->Bool
 |.const _=>true
 |_=>false
def IU (P:Program) (t:TypeId):List Field:=
 match P.underlying t with
 |some (.struct fs)=>fs.toList
 |_=>[]
def JX:List Field->Nat->Bool
 |[],_=>true
 |f::fs,i=>f.name != "_" &&f.offset==i&&JX fs (i+1)
def DN (P:Program) (t:TypeId):Bool:=(match P.underlying t with|some (.struct _)=>true|_=>false)&&JX (IU P t) 0&&!P.stoodInHeld t&&!P.eqGuardType P.depth t
def oD (P:Program):List Field->List GV->List GV->Option Bool
 |[],_,_=>some true
 |f::fs,.i k a::cs,.i k' b::ds=>if k=k' then(if(N3 P f.type).isSome=true then(oD P fs cs ds).map (fun r=>a==b&&r) else none) else none
 |f::fs,.s a::cs,.s b::ds=>if gP P f.type=some 1 then(oD P fs cs ds).map (fun r=>a==b&&r) else none
 |_,_,_=>none
def geq (P:Program) (t:TypeId) (ca cb:Bool) (a b:GV):Option Bool:=
 match a,b with
 |.b x,.b y=>if gP P t=some 2 then some (x==y) else none
 |.o .nilIface,.o .nilIface=>if gP P t=some 3&&(ca||cb) then some true else none
 |.ifc _ _,.o .nilIface|.o .nilIface,.ifc _ _=>if gP P t=some 3 then some false else none
 |.ptr _ _,.o (.pointer none)|.o (.pointer none),.ptr _ _|.snap _ _,.o (.pointer none)|.o (.pointer none),.snap _ _=>if gP P t=some 4 then some false else none
 |.o (.pointer none),.o (.pointer none)=>if gP P t=some 4 then some true else none
 |.agg cs,.agg ds=>if DN P t=true then oD P (IU P t) cs ds else none
 |.ptr r o,.ptr r' o'=>if r=r'&&(TP P t).any (fun e=>decide (0<(gF P e).getD 0)) then some (o==o') else none
 |.sl _ (_::_),.sl .full []=>if gP P t=some 6 then some false else none
 |.sl .full [],.sl .full []=>if gP P t=some 6 then some true else none
 |.o (.slice (some _) 0 _),.sl .full []=>if gP P t=some 6 then some false else none
 |_,_=>none
def DF (P:Program) (op:BinOp) (t:TypeId) (ca cb:Bool) (a b:GV):Option GV:=
 match op,a,b with
 |.shl,.i k x,.i _ y=>if 0<=y then some (.i k (k.wrap (x*2^min y.toNat k.bits))) else none
 |.shr,.i k x,.i _ y=>if 0<=y then some (.i k (x.fdiv (2^min y.toNat k.bits))) else none
 |op,.i k x,.i k' y=>if k=k' then XO op k x y else none
 |op,.s x,.s y=>a06 op x y
 |.eql,a,b=>(geq P t ca cb a b).map .b
 |.neq,a,b=>(geq P t ca cb a b).map fun x=>.b (!x)
 |_,_,_=>none
def gun (op:UnOp) (x:GV):Option GV:=
 match op,x with
 |.neg,.i k n=>some (.i k (k.wrap (0 - n)))
 |.not,.b b=>some (.b !b)
 |.xor,.i k n=>some (.i k (bits .xor k (if k.signed then -1 else k.max) n))
 |_,_=>none
def wZ:List GV->Option (List UInt8)
 |[]=>some []
 |.i .u8 n::r=>(wZ r).map fun l=>UInt8.ofNat n.toNat::l
 |_=>none
def tZ (P:Program) (src dst:TypeId) (x:GV):Option GV:=
 match x with
 |.i _ n=>match N3 P dst with
  |some k=>if(gP P src).isSome then some (.i k (k.wrap n)) else none
  |none=>if gP P dst=some 1&&(gP P src).isSome then some (.s (Utf8.encode n).data.toList) else none
 |.s l=>if gP P dst=some 1&&gP P src=some 1 then some (.s l) else
  (match mN P dst with
  |some e=>if N3 P e=some .u8&&gP P src=some 1 then some (.sl .none (l.map fun b=>.i .u8 b.toNat)) else none
  |none=>none)
 |.sl _ xs=>match mN P src with
  |some e=>if N3 P e=some .u8&&gP P dst=some 1 then(wZ xs).map .s else none
  |none=>none
 |_=>none
def zB (P:Program) (t:TypeId) (x:GV):Option GV:=
 match gP P t with
 |none|some 3=>none
 |some _=>some (.ifc t x)
def L0 (P:Program) (t:TypeId) (ok:Bool) (x:GV):Option GV:=
 match gP P t with
 |none|some 3=>none
 |some _=>
  match x with
  |.ifc u g=>
   if u=t then some (if ok then .tup [g,.b true] else g)
   else if ok then(lX P t).map fun z=>.tup [z,.b false] else none
  |.o .nilIface=>if ok then(lX P t).map fun z=>.tup [z,.b false] else none
  |_=>none
def AE:TypeDesc->GV->GV->Option Bool
 |.int _,.i k a,.i k' b=>if k=k' then some (a==b) else none
 |.string,.s a,.s b=>some (a==b)
 |.bool,.b a,.b b=>some (a==b)
 |_,_,_=>none
def nO (d:TypeDesc) (k:GV):List (GV×GV)->Nat->Option (Option (Nat×GV))
 |[],_=>some none
 |e::es,i=>
  match AE d k e.1 with
  |some true=>some (some (i,e.2))
  |some false=>nO d k es (i+1)
  |none=>none
def U9 (d:TypeDesc) (k:GV):Bool:=
 match d,k with
 |.int _,.i _ _|.string,.s _|.bool,.b _=>true
 |_,_=>false
def kE (P:Program) (t:TypeId) (m k v:GV) (σ:GS):Option GS:=
 match m with
 |.mp r=>match MV P t with
  |some (kt,_)=>match P.underlying kt,σ.objs[r]? with
   |some d,some (.mp es)=>
    if σ.lo<=r&&U9 d k then
     match nO d k es 0 with
     |some (some (i,_))=>some (gset σ r (.mp (es.set i (k,v))))
     |some none=>some (gset σ r (.mp (es++[(k,v)])))
     |none=>none
    else none
   |_,_=>none
  |none=>none
 |_=>none
def pV (P:Program) (t:TypeId) (m k:GV) (ok:Bool) (σ:GS):Option GV:=
 match MV P t with
 |some (kt,et)=>match P.underlying kt,lX P et with
  |some d,some z=>
   if U9 d k then
    match m with
    |.mp r=>match σ.objs[r]? with
     |some (.mp es)=>match nO d k es 0 with
      |some (some (_,v))=>some (if ok then .tup [v,.b true] else v)
      |some none=>some (if ok then .tup [z,.b false] else z)
      |none=>none
     |_=>none
    |.o (.map none)=>some (if ok then .tup [z,.b false] else z)
    |_=>none
   else none
  |_,_=>none
 |none=>none
def mR (x:Option GV) (dflt:Nat):Option Nat:=
 match x with
 |none=>some dflt
 |some (.i _ n)=>if 0<=n then some n.toNat else none
 |_=>none
def sN (P:Program) (t:TypeId) (x:GV) (lo hi mx:Option GV):Option GV:=
 match x with
 |.s l=>
  if gP P t=some 1&&mx.isNone then
   match mR lo 0,mR hi l.length with
   |some a,some b=>if a<=b&&b<=l.length then some (.s ((l.drop a).take (b - a))) else none
   |_,_=>none
  else none
 |.sl k xs=>
  match mN P t with
  |some e=>match gF P e with
   |some size=>
    if xs.all (fun x=>x.cells.length==size) then
    match mR lo 0,mR hi xs.length with
    |some a,some b=>
     if a<=b&&b<=xs.length then
      match mx with
      |none=>some (.sl (if a=0&&b=xs.length then k else if k=.full&&b=xs.length&&a<b then .full else .none) ((xs.drop a).take (b - a)))
      |some m=>if hi.isSome&&mR (some m) 0=some b then some (.sl (if a<b then .full else .none) ((xs.drop a).take (b - a))) else none
     else none
    |_,_=>none
    else none
   |none=>none
  |none=>none
 |_=>none
def zC (P:Program) (s:TypeId) (x:GV) (f:Nat):Option GV:=
 match C9 P s f with
 |some (o,ft)=>match gF P ft with
  |some n=>if n=0 then none else
   match x with
   |.ptr r off=>some (.ptr r (off+o))
   |.rs r off e _ _=>if e=0 then some (.rs r (off+o) 0 0 0) else none
   |.snap cs off=>some (.snap cs (off+o))
   |.glb g off=>some (.glb g (off+o))
   |_=>none
  |none=>none
 |none=>none
def KT (P:Program) (s:TypeId) (x:GV) (f:Nat):Option GV:=
 match x with
 |.agg cs=>match C9 P s f with
  |some (o,ft)=>wN P ft cs o
  |none=>none
 |_=>none
def nT (P:Program) (t:TypeId) (x ix:GV):Option GV:=
 match ix with
 |.i _ n=>
  if 0<=n then
   match x with
   |.sl _ xs=>match mN P t with
    |some e=>match gF P e,xs[n.toNat]? with
     |some size,some y=>if y.cells.length=size then some (.snap y.cells 0) else none
     |_,_=>none
    |none=>none
   |.ptr r off=>match DI P t with
    |some (len,e)=>match gF P e with
     |some size=>if n<len then some (.ptr r (off+n.toNat*size)) else none
     |none=>none
    |none=>none
   |.snap cs off=>match DI P t with
    |some (len,e)=>match gF P e with
     |some size=>if n<len then some (.snap cs (off+n.toNat*size)) else none
     |none=>none
    |none=>none
   |.glb g off=>match DI P t with
    |some (len,e)=>match gF P e with
     |some size=>if n<len then some (.glb g (off+n.toNat*size)) else none
     |none=>none
    |none=>none
   |.rs r off esz m _=>match mN P t with
    |some e=>match gF P e with
     |some size=>if esz=size&&n<(m:Int) then some (.rs r (off+n.toNat*esz) 0 0 0) else none
     |none=>none
    |none=>none
   |_=>none
  else none
 |_=>none
def BX (P:Program) (t:TypeId) (x ix:GV):Option GV:=
 match ix with
 |.i _ n=>
  if 0<=n then
   match x with
   |.s l=>if gP P t=some 1 then(l[n.toNat]?).map fun b=>.i .u8 b.toNat else none
   |.agg cs=>match DI P t with
    |some (len,e)=>match gF P e with
     |some size=>if n<len then wN P e cs (n.toNat*size) else none
     |none=>none
    |none=>none
   |_=>none
  else none
 |_=>none
def GA (x:GV) (i:Nat):Option GV:=
 match x with
 |.tup cs=>cs[i]?
 |_=>none
def BV (P:Program) (t:TypeId) (x:GV) (σ:GS):Option GV:=
 match x with
 |.s l=>if gP P t=some 1 then some (.i .i64 l.length) else none
 |.sl _ xs=>if gP P t=some 6 then some (.i .i64 xs.length) else none
 |.mp r=>match σ.objs[r]? with
  |some (.mp es)=>if(MV P t).isSome then some (.i .i64 es.length) else none
  |_=>none
 |.o (.map none)=>if(MV P t).isSome then some (.i .i64 0) else none
 |.rs _ _ e n _=>if e≠0/\gP P t=some 6 then some (.i .i64 n) else none
 |_=>none
def N9 (P:Program) (t u:TypeId) (x:GV):Option (List GV):=
 match x with
 |.sl _ ys=>if t=u then some ys else none
 |.s l=>match mN P t with
  |some e=>if N3 P e=some .u8&&gP P u=some 1 then some (l.map fun b=>.i .u8 b.toNat) else none
  |none=>none
 |.o (.slice (some _) 0 _)=>if t=u then some [] else none
 |_=>none
def vE (P:Program) (t u:TypeId) (s x:GV) (σ:GS):Option (GV×GS):=
 match s,N9 P t u x with
 |.sl k xs,some ys=>
  match mN P t with
  |some e=>match gF P e,vM P e,lX P e with
   |some size,some bytes,some z=>
    if z.known&&z.cells.length==size then
     if ys.isEmpty then some (.sl k xs,σ) else
     if 0<size&&ys.all (r4 size)&&xs.all (fun x=>x.cells.length==size)&&decide (xs.length+ys.length<=gG)&&decide (bytes<=4096) then
      match k with
      |.full=>if Globals.wr e then some (.rs σ.objs.length 0 size (xs.length+ys.length) 0,gnew σ (.box e ((xs++ys).flatMap GV.cells)))
       else some (.sl (.own σ.objs.length) (xs++ys),gnew σ (.own (xs.length+ys.length) size e))
      |.own r=>match σ.objs[r]? with
       |some (.own n esz ty)=>
        if Globals.wr e&&(esz==0&&n==0)&&xs.isEmpty then some (.rs σ.objs.length 0 size (xs.length+ys.length) 0,gnew σ (.box e ((xs++ys).flatMap GV.cells))) else
        if σ.lo<=r&&n==xs.length&&(esz==size&&ty==e||(n==0&&esz==0)) then
         some (.sl (.own r) (xs++ys),gset σ r (.own (xs.length+ys.length) size e))
        else none
       |_=>none
      |.none=>none
     else none
    else none
   |_,_,_=>none
  |none=>none
 |_,_=>none
def G4 (P:Program) (t:TypeId) (l c:GV) (σ:GS):Option (GV×GS):=
 match l,c with
 |.i _ n,.i _ m=>match mN P t with
  |some e=>match gF P e,vM P e,lX P e with
   |some size,some bytes,some z=>
    if z.known&&z.cells.length==size&&decide (0<size)&&decide (bytes<=4096)&&decide (0<=n)&&decide (n=m)&&decide (n<=gG) then
     some (.rs σ.objs.length 0 size n.toNat n.toNat,gnew σ (.box e (List.replicate n.toNat z.cells).flatten))
    else none
   |_,_,_=>none
  |none=>none
 |_,_=>none
def S4 (x y:GV):Option GV:=
 match x,y with
 |.i k a,.i _ b=>some (.i k (if b<a then b else a))
 |_,_=>none
def S5 (x y:GV):Option GV:=
 match x,y with
 |.i k a,.i _ b=>some (.i k (if b>a then b else a))
 |_,_=>none
def G8 (f:GV->GV->Option GV):GV->List GV->Option GV
 |x,[]=>some x
 |x,y::ys=>(f x y).bind fun z=>G8 f z ys
def IS (x:GV):Option GV:=
 match x with
 |.sl (.own r) xs=>if !xs.isEmpty&&xs.all (fun x=>x.cells.length==1) then some (.dat r (xs.flatMap GV.cells)) else none
 |_=>none
def S8:GV->Bool
 |.i .u8 n=>decide (0<=n)&&decide (n<256)
 |_=>false
def CW (P:Program) (pt:TypeId) (x n:GV) (σ:GS):Option (GV×GS):=
 match x,n with
 |.dat r cs,.i .i64 n=>match σ.objs[r]?,wZ cs with
  |some (.own m _ ty),some l=>
   if n=(l.length:Int)&&m==cs.length&&!l.isEmpty&&decide (σ.lo<=r)&&(TP P pt==some ty)&&P.cellsOf ty==1&&decide (l.length<=gG)&&cs.all S8 then some (.s l,gset σ r .dead) else none
  |_,_=>none
 |_,_=>none
def mK (P:Program) (b:Builtin) (ts:List TypeId) (args:List GV) (σ:GS):Option (GV×GS):=
 match b,ts,args with
 |.len,[t],[x]=>(BV P t x σ).map fun v=>(v,σ)
 |.append,[t,u],[s,x]=>vE P t u s x σ
 |.unsafeSliceData,_,[x]=>(IS x).map fun v=>(v,σ)
 |.unsafeString,[pt,_],[x,n]=>CW P pt x n σ
 |.min,_,x::xs=>(G8 S4 x xs).map fun v=>(v,σ)
 |.max,_,x::xs=>(G8 S5 x xs).map fun v=>(v,σ)
 |_,_,_=>none
def iE (P:Program) (ρ:Operand->GV) (op:Op):Option OB:=
 match op with
 |.assign (.const (.slice none 0 0))=>some (fun r=>.sl (.own r) [],.own 0 0 0)
 |.alloc t=>GH P t
 |.box t x=>a24 t (ρ x)
 |.buildSlice t len parts=>x3 P t len (parts.toList.map fun p=>(p.1,ρ p.2))
 |.makeMap _ none=>some (fun r=>.mp r,.mp [])
 |_=>none
def pU (P:Program) (ρ:Operand->GV) (op:Op) (σ:GS):Option (GV×GS):=
 let pure (x:Option GV):Option (GV×GS):=x.map fun v=>(v,σ);let unit (x:Option GS):Option (GV×GS):=x.map fun s=>(.any,s)
 match op with
 |.move x=>some (ρ x,σ)
 |.assign x=>some (ρ x,σ)
 |.pick c a b=>
  match ρ c with
  |.b t=>some (if t then ρ a else ρ b,σ)
  |_=>none
 |.build t parts=>pure (Q0 P t (parts.toList.map fun p=>(p.1,ρ p.2)))
 |.load t a=>pure (nN P t (ρ a) σ)
 |.store t a v=>unit (oZ P t (ρ a) (ρ v) σ)
 |.nilCheck x=>pure (IP (ρ x))
 |.binOp op t x y _=>pure (DF P op t (j9 x) (j9 y) (ρ x) (ρ y))
 |.unOp op _ x=>pure (gun op (ρ x))
 |.convert src dst x=>pure (tZ P src dst (ρ x))
 |.makeInterface t x=>pure (zB P t (ρ x))
 |.makeFunc f a c=>some (.fn f (a.toList.map ρ) (c.toList.map ρ),σ)
 |.slice t x lo hi mx=>pure (sN P t (ρ x) (lo.map ρ) (hi.map ρ) (mx.map ρ))
 |.fieldAddr s x f=>pure (zC P s (ρ x) f)
 |.field s x f=>pure (KT P s (ρ x) f)
 |.indexAddr t x i=>pure (nT P t (ρ x) (ρ i))
 |.makeSlice t l c=>G4 P t (ρ l) (ρ c) σ
 |.index t x i=>pure (BX P t (ρ x) (ρ i))
 |.lookup t m k ok=>pure (pV P t (ρ m) (ρ k) ok σ)
 |.mapUpdate t m k v|.insert t m k v=>unit (kE P t (ρ m) (ρ k) (ρ v) σ)
 |.typeAssert x _ t ok=>pure (L0 P t ok (ρ x))
 |.extract x i=>pure (GA (ρ x) i)
 |.call {callee:=.builtin b,args,argTypes}=>mK P b argTypes.toList (args.toList.map ρ) σ
 |_=>none
def rR (P:Program) (ρ:Operand->GV) (op:Op) (σ:GS):Option (GV×GS):=
 match iE P ρ op with
 |some f=>some (f.1 σ.objs.length,gnew σ f.2)
 |none=>pU P ρ op σ
