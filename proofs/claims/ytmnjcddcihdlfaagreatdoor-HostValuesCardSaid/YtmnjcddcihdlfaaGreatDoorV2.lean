/- Part of HostValues. -/
import Derived.Test.YtmnjcddcihdlfaaGreatDoorV1
set_option linter.all false
namespace Go.Proofs.YtmnjcddcihdlfaaGreatDoor
open Go.RowKit
variable [Globals]
def XM (P:Program) (t:TypeId):Option Bool:=
 match P.underlying t with
 |some (.struct _)|some (.array _ _)=>some true
 |some _=>some false
 |none=>none
def dR (P:Program) (t:TypeId):Option Nat:=(P.info? t).map (·.size)
def m8 (P:Program) (t:TypeId):Option Nat:=(P.info? t).map (·.bytes)
def iP (P:Program) (t:TypeId):Option TypeId:=
 match P.underlying t with
 |some (.slice e)=>some e
 |_=>none
def zS (P:Program) (t:TypeId):Option (Nat×TypeId):=
 match P.underlying t with
 |some (.array n e)=>some (n,e)
 |_=>none
def pW (P:Program) (t:TypeId):Option (TypeId×TypeId):=
 match P.underlying t with
 |some (.map k e)=>some (k,e)
 |_=>none
def yJ (P:Program) (s:TypeId) (f:Nat):Option (Nat×TypeId):=
 match P.underlying s with
 |some (.struct fs)=>(fs[f]?).map fun x=>(x.offset,x.type)
 |_=>none
def LW (P:Program) (t:TypeId):Option TypeId:=
 match P.underlying t with
 |some (.pointer e)=>some e
 |_=>none
def eU (P:Program) (t:TypeId):Option Nat:=
 match P.underlying t with
 |some .string=>some 1
 |some .bool=>some 2
 |some (.interface _)=>some 3
 |some (.pointer _)=>some 4
 |some (.int _)=>some 5
 |some (.slice _)=>some 6
 |some _=>some 0
 |none=>none
def G7 (P:Program) (t:TypeId):Option IntKind:=
 match P.underlying t with
 |some (.int k)=>some k
 |_=>none
def AI:Nat->Value->GV
 |0,_=>.any
 |n+1,v=>
  match v with
  |.bool b=>.b b
  |.int k i=>.i k i
  |.string s=>.s s.data.toList
  |.slice none 0 0=>.sl .full []
  |.agg vs=>.agg (vs.toList.map (AI n))
  |v=>if FV v then .o v else .any
def kD (v:Value):GV:=AI 3 v
def iE (P:Program) (t:TypeId):Option GV:=((P.info? t).bind (·.zero)).map kD
def bO (φ:Nat->GV):Operand->GV
 |.tmp t=>φ t
 |.const v=>kD v
 |.global g=>.glb g 0
 |.func f=>.fn (.func f) [] []
def o7 (P:Program) (t:TypeId) (cs:List GV) (off:Nat):Option GV:=
 match XM P t with
 |some true=>match dR P t with
  |some n=>if off+n<=cs.length then some (.agg ((cs.drop off).take n)) else none
  |none=>none
 |some false=>cs[off]?
 |none=>none
def D7:Nat:=4294967296
def jN:Nat:=4611686018427387904
def gnew (σ:GS) (x:GObj):GS:={σ with objs:=σ.objs++[x]}
def gset (σ:GS) (r:Nat) (x:GObj):GS:={σ with objs:=σ.objs.set r x}
abbrev xP:=(Nat->GV)×GObj
def yE (P:Program) (t:TypeId):Option xP:=
 match iE P t with
 |some z=>if z.known then some (fun r=>.ptr r 0,.box t z.cells) else none
 |none=>none
def WT (t:TypeId) (x:GV):Option xP:=if x.known then(bif Globals.fz t x.cells then some (fun _=>.snap x.cells 0,.dead) else some (fun r=>.ptr r 0,.box t x.cells)) else none
def ZT:List GV->Nat->List GV->List GV
 |cs,_,[]=>cs
 |cs,off,x::xs=>ZT (cs.set off x) (off+1) xs
def K9 (place:Nat->Option (Nat×Nat)):List GV->List (Nat×GV)->Option (List GV)
 |cs,[]=>some cs
 |cs,(i,v)::rest=>
  match place i with
  |none=>none
  |some (off,size)=>if !v.known||v.cells.length≠size||off+v.cells.length>cs.length then none else K9 place (ZT cs off v.cells) rest
def xU (P:Program) (t:TypeId) (i:Nat):Option (Nat×Nat):=
 match zS P t with
 |some (_,e)=>(dR P e).map fun n=>(i*n,n)
 |none=>match yJ P t i with
  |some (o,ft)=>(dR P ft).map fun n=>(o,n)
  |none=>none
def S7 (P:Program) (t:TypeId):Bool:=
 match P.underlying t with
 |some (.struct fs)=>fs.toList.all fun f=>(P.info? f.type).isSome
 |some (.array _ e)=>(P.info? e).isSome
 |_=>false
def HJ (P:Program) (t:TypeId) (parts:List (Nat×GV)):Option GV:=
 match iE P t with
 |some (.agg z)=>if S7 P t then(K9 (xU P t) z parts).map .agg else none
 |_=>none
def oT (P:Program) (t:TypeId) (len:Nat) (parts:List (Nat×GV)):Option xP:=
 match iP P t with
 |some e=>
  match dR P e,iE P e with
  |some size,some z=>
   if 0<size&&z.known&&(parts.map (·.1)==List.range len)&&(parts.map (·.2)).all (oE size)&&decide (len*size<=16777216) then
    if Globals.wr e&&len==0 then some (fun r=>.sl (.own r) [],.own 0 0 0) else if Globals.lt e then some (fun r=>.rs r 0 size len len,.box e ((parts.map (·.2)).flatMap GV.cells)) else some (fun r=>.sl (.own r) (parts.map (·.2)),.own len size e)
   else none
  |_,_=>none
 |none=>none
def k9 (P:Program) (t:TypeId) (a:GV) (σ:GS):Option GV:=
 match a with
 |.ptr r off=>match σ.objs[r]? with
  |some (.box T cs)=>o7 P t cs off
  |_=>none
 |.rs r off e _ _=>if e=0 then match σ.objs[r]? with
  |some (.box _ cs)=>o7 P t cs off
  |_=>none
  else none
 |.snap cs off=>o7 P t cs off
 |.glb g off=>match Globals.tab g with
  |some cs=>o7 P t cs off
  |none=>none
 |_=>none
def gT (P:Program) (t:TypeId) (r off:Nat) (v:GV) (σ:GS):Option GS:=
 match σ.objs[r]? with
 |some (.box T cs)=>
  if σ.lo<=r&&oE ((dR P t).getD 0) v&&(dR P t).isSome&&decide (off+v.cells.length<=cs.length) then
   some (gset σ r (.box T (cs.take off++v.cells++cs.drop (off+v.cells.length))))
  else none
 |_=>none
def lI (P:Program) (t:TypeId) (a v:GV) (σ:GS):Option GS:=
 match a with
 |.ptr r off=>gT P t r off v σ
 |.rs r off e _ _=>if e=0 then gT P t r off v σ else none
 |_=>none
def y3 (x:GV):Option GV:=
 match x with
 |.ptr _ _|.snap _ _|.glb _ _|.ifc _ _|.fn (.func _) _ _=>some x
 |_=>none
def U9 (op:BinOp) (k:IntKind) (a b:Int):Option GV:=
 match op with
 |.add=>some (.i k (k.wrap (a+b)))
 |.sub=>some (.i k (k.wrap (a - b)))
 |.mul=>some (.i k (k.wrap (a*b)))
 |.quo=>if b=0 then none else some (.i k (k.wrap (a.tdiv b)))
 |.rem=>if b=0 then none else some (.i k (a.tmod b))
 |.and|.or|.xor|.andNot=>some (.i k (bits op k a b))
 |.eql=>some (.b (a==b))
 |.neq=>some (.b (a !=b))
 |.lss=>some (.b (a<b))
 |.leq=>some (.b (a<=b))
 |.gtr=>some (.b (a>b))
 |.geq=>some (.b (a>=b))
 |_=>none
def WP (op:BinOp) (a b:List UInt8):Option GV:=
 match op with
 |.add=>if a.length+b.length<jN then some (.s (a++b)) else none
 |.eql=>some (.b (a==b))
 |.neq=>some (.b (!(a==b)))
 |.lss=>some (.b (Op.bytesLess a b))
 |.leq=>some (.b (Op.bytesLess a b||a==b))
 |.gtr=>some (.b (!(Op.bytesLess a b||a==b)))
 |.geq=>some (.b (!Op.bytesLess a b))
 |_=>none
def fW:Operand->Bool
 |.const _=>true
 |_=>false
def CM (P:Program) (t:TypeId):List Field:=
 match P.underlying t with
 |some (.struct fs)=>fs.toList
 |_=>[]
def G2:List Field->Nat->Bool
 |[],_=>true
 |f::fs,i=>f.name != "_" &&f.offset==i&&G2 fs (i+1)
def vW (P:Program) (t:TypeId):Bool:=(match P.underlying t with|some (.struct _)=>true|_=>false)&&G2 (CM P t) 0&&!P.stoodInHeld t&&!P.eqGuardType P.depth t
def k6 (P:Program):List Field->List GV->List GV->Option Bool
 |[],_,_=>some true
 |f::fs,.i k a::cs,.i k' b::ds=>if k=k' then(if(G7 P f.type).isSome=true then(k6 P fs cs ds).map (fun r=>a==b&&r) else none) else none
 |f::fs,.s a::cs,.s b::ds=>if eU P f.type=some 1 then(k6 P fs cs ds).map (fun r=>a==b&&r) else none
 |f::fs,.b a::cs,.b b::ds=>if eU P f.type=some 2 then(k6 P fs cs ds).map (fun r=>a==b&&r) else none
 |_,_,_=>none
def geq (P:Program) (t:TypeId) (ca cb:Bool) (a b:GV):Option Bool:=
 match a,b with
 |.b x,.b y=>if eU P t=some 2 then some (x==y) else none
 |.o .nilIface,.o .nilIface=>if eU P t=some 3&&(ca||cb) then some true else none
 |.ifc _ _,.o .nilIface|.o .nilIface,.ifc _ _=>if eU P t=some 3 then some false else none
 |.ptr _ _,.o (.pointer none)|.o (.pointer none),.ptr _ _|.snap _ _,.o (.pointer none)|.o (.pointer none),.snap _ _=>if eU P t=some 4 then some false else none
 |.o (.pointer none),.o (.pointer none)=>if eU P t=some 4 then some true else none
 |.agg cs,.agg ds=>if vW P t=true then k6 P (CM P t) cs ds else none
 |.ptr r o,.ptr r' o'=>if r=r'&&(LW P t).any (fun e=>decide (0<(dR P e).getD 0)) then some (o==o') else none
 |.sl _ (_::_),.sl .full []=>if eU P t=some 6 then some false else none
 |.sl .full [],.sl .full []=>if eU P t=some 6 then some true else none
 |.o (.slice (some _) 0 _),.sl .full []=>if eU P t=some 6 then some false else none
 |.rs _ _ (_+1) _ _,.sl .full []=>if eU P t=some 6 then some false else none
 |_,_=>none
def yD (P:Program) (op:BinOp) (t:TypeId) (ca cb:Bool) (a b:GV):Option GV:=
 match op,a,b with
 |.shl,.i k x,.i _ y=>if 0<=y then some (.i k (k.wrap (x*2^min y.toNat k.bits))) else none
 |.shr,.i k x,.i _ y=>if 0<=y then some (.i k (x.fdiv (2^min y.toNat k.bits))) else none
 |op,.i k x,.i k' y=>if k=k' then U9 op k x y else none
 |op,.s x,.s y=>WP op x y
 |.eql,a,b=>(geq P t ca cb a b).map .b
 |.neq,a,b=>(geq P t ca cb a b).map fun x=>.b (!x)
 |_,_,_=>none
def gun (op:UnOp) (x:GV):Option GV:=
 match op,x with
 |.neg,.i k n=>some (.i k (k.wrap (0 - n)))
 |.not,.b b=>some (.b !b)
 |.xor,.i k n=>some (.i k (bits .xor k (if k.signed then -1 else k.max) n))
 |_,_=>none
def rO:List GV->Option (List UInt8)
 |[]=>some []
 |.i .u8 n::r=>(rO r).map fun l=>UInt8.ofNat n.toNat::l
 |_=>none
def oB (P:Program) (src dst:TypeId) (x:GV):Option GV:=
 match x with
 |.i _ n=>match G7 P dst with
  |some k=>if(eU P src).isSome then some (.i k (k.wrap n)) else none
  |none=>if eU P dst=some 1&&(eU P src).isSome then some (.s (Utf8.encode n).data.toList) else none
 |.s l=>if eU P dst=some 1&&eU P src=some 1 then some (.s l) else
  (match iP P dst with
  |some e=>if G7 P e=some .u8&&eU P src=some 1 then some (.sl .none (l.map fun b=>.i .u8 b.toNat)) else none
  |none=>none)
 |.sl _ xs=>match iP P src with
  |some e=>if G7 P e=some .u8&&eU P dst=some 1 then(rO xs).map .s else none
  |none=>none
 |_=>none
def rG (P:Program) (t:TypeId) (x:GV):Option GV:=
 match eU P t with
 |none|some 3=>none
 |some _=>some (.ifc t x)
def AJ (P:Program) (t:TypeId) (ok:Bool) (x:GV):Option GV:=
 match eU P t with
 |none|some 3=>none
 |some _=>
  match x with
  |.ifc u g=>
   if u=t then some (if ok then .tup [g,.b true] else g)
   else if ok then(iE P t).map fun z=>.tup [z,.b false] else none
  |.o .nilIface=>if ok then(iE P t).map fun z=>.tup [z,.b false] else none
  |_=>none
def JX:TypeDesc->GV->GV->Option Bool
 |.int _,.i k a,.i k' b=>if k=k' then some (a==b) else none
 |.string,.s a,.s b=>some (a==b)
 |.bool,.b a,.b b=>some (a==b)
 |_,_,_=>none
def i6 (d:TypeDesc) (k:GV):List (GV×GV)->Nat->Option (Option (Nat×GV))
 |[],_=>some none
 |e::es,i=>
  match JX d k e.1 with
  |some true=>some (some (i,e.2))
  |some false=>i6 d k es (i+1)
  |none=>none
def mU (d:TypeDesc) (k:GV):Bool:=
 match d,k with
 |.int _,.i _ _|.string,.s _|.bool,.b _=>true
 |_,_=>false
def gcv:GV->Option Value
 |.i k n=>some (.int k n)
 |.s l=>some (.string ⟨l.toArray⟩)
 |.b x=>some (.bool x)
 |_=>none
def WS:List GV->Option (List Value)
 |[]=>some []
 |g::gs=>match gcv g,WS gs with
  |some v,some vs=>some (v::vs)
  |_,_=>none
def xA:List GV->List GV->Option Bool
 |[],[]=>some true
 |.i k a::cs,.i k' b::ds=>if k=k' then(xA cs ds).map (fun r=>a==b&&r) else none
 |_,_=>none
def ZX (P:Program) (t:TypeId) (cs ds:List GV):Option Bool:=
 match P.underlying t with
 |some (.array n e)=>if(G7 P e).isSome&&(P.info? e).isSome&&P.cellsOf e==1&&cs.length==n&&ds.length==n then xA cs ds else none
 |_=>none
def U8 (P:Program) (t:TypeId):GV->GV->Option Bool
 |.agg cs,.agg ds=>if vW P t then k6 P (CM P t) cs ds else ZX P t cs ds
 |_,_=>none
def UC:GV->GV->Bool
 |.i k a,.i k' b=>decide (k=k')&&a==b
 |.s a,.s b=>a==b
 |.b a,.b b=>a==b
 |_,_=>false
def HG:List GV->List GV->Bool
 |[],[]=>true
 |a::as,b::bs=>UC a b&&HG as bs
 |_,_=>false
def UH:GV->GV->Bool
 |.agg cs,.agg ds=>HG cs ds
 |_,_=>false
def jS (P:Program) (t:TypeId) (k:GV):List (GV×GV)->Nat->Option (Option (Nat×GV))
 |[],_=>some none
 |e::es,i=>
  match U8 P t k e.1 with
  |some true=>if UH k e.1 then some (some (i,e.2)) else none
  |some false=>jS P t k es (i+1)
  |none=>none
def lV (P:Program) (t:TypeId):GV->Bool
 |.agg cs=>(match P.underlying t with|some (.array _ _)|some (.struct _)=>true|_=>false)&&P.keyTypeAt 20 t&&(match WS cs with|some vs=>(Value.agg vs.toArray).formed P t&&(P.keyLits 21 t vs).isSome|none=>false)
 |_=>false
def fP (P:Program) (t:TypeId) (m k v:GV) (σ:GS):Option GS:=
 match m with
 |.mp r=>match pW P t with
  |some (kt,_)=>match P.underlying kt,σ.objs[r]? with
   |some d,some (.mp es)=>
    if σ.lo<=r&&mU d k then
     match i6 d k es 0 with
     |some (some (i,_))=>some (gset σ r (.mp (es.set i (k,v))))
     |some none=>some (gset σ r (.mp (es++[(k,v)])))
     |none=>none
    else none
   |some d,some (.mx es bs clk)=>
    if σ.lo<=r&&(mU d k||lV P kt k) then
     match(if mU d k then i6 d k es 0 else jS P kt k es 0) with
     |some (some (i,_))=>some (gset σ r (.mx (es.set i (k,v)) bs clk))
     |some none=>some (gset σ r (.mx (es++[(k,v)]) (bs++[clk]) (clk+1)))
     |none=>none
    else none
   |_,_=>none
  |none=>none
 |_=>none
def k5 (P:Program) (t:TypeId) (m k:GV) (ok:Bool) (σ:GS):Option GV:=
 match pW P t with
 |some (kt,et)=>match P.underlying kt,iE P et with
  |some d,some z=>
   if mU d k then
    match m with
    |.mp r=>match σ.objs[r]? with
     |some (.mp es)=>match i6 d k es 0 with
      |some (some (_,v))=>some (if ok then .tup [v,.b true] else v)
      |some none=>some (if ok then .tup [z,.b false] else z)
      |none=>none
     |some (.mx es _ _)=>match i6 d k es 0 with
      |some (some (_,v))=>some (if ok then .tup [v,.b true] else v)
      |some none=>some (if ok then .tup [z,.b false] else z)
      |none=>none
     |_=>none
    |.o (.map none)=>some (if ok then .tup [z,.b false] else z)
    |_=>none
   else if lV P kt k then
    match m with
    |.mp r=>match σ.objs[r]? with
     |some (.mx es _ _)=>match jS P kt k es 0 with
      |some (some (_,v))=>some (if ok then .tup [v,.b true] else v)
      |some none=>some (if ok then .tup [z,.b false] else z)
      |none=>none
     |_=>none
    |_=>none
   else none
  |_,_=>none
 |none=>none
def jU (x:Option GV) (dflt:Nat):Option Nat:=
 match x with
 |none=>some dflt
 |some (.i _ n)=>if 0<=n then some n.toNat else none
 |_=>none
def lK (P:Program) (t:TypeId) (x:GV) (lo hi mx:Option GV):Option GV:=
 match x with
 |.s l=>
  if eU P t=some 1&&mx.isNone then
   match jU lo 0,jU hi l.length with
   |some a,some b=>if a<=b&&b<=l.length then some (.s ((l.drop a).take (b - a))) else none
   |_,_=>none
  else none
 |.sl k xs=>
  match iP P t with
  |some e=>match dR P e with
   |some size=>
    if xs.all (fun x=>x.cells.length==size) then
    match jU lo 0,jU hi xs.length with
    |some a,some b=>
     if a<=b&&b<=xs.length then
      match mx with
      |none=>some (.sl (if a=0&&b=xs.length then k else if k=.full&&b=xs.length&&a<b then .full else .none) ((xs.drop a).take (b - a)))
      |some m=>if hi.isSome&&jU (some m) 0=some b then some (.sl (if a<b then .full else .none) ((xs.drop a).take (b - a))) else none
     else none
    |_,_=>none
    else none
   |none=>none
  |none=>none
 |.rs r off esz n c=>
  match iP P t with
  |some e=>match dR P e with
   |some size=>
    if decide (esz=size)&&decide (0<size)&&mx.isNone then
     match jU lo 0,jU hi n with
     |some a,some b=>if a<=b&&b<=n&&decide (a=0∨a<n) then some (.rs r (off+a*esz) esz (b - a) (if a=0 then c else 0)) else none
     |_,_=>none
    else none
   |none=>none
  |none=>none
 |_=>none
def rI (P:Program) (s:TypeId) (x:GV) (f:Nat):Option GV:=
 match yJ P s f with
 |some (o,ft)=>match dR P ft with
  |some n=>if n=0 then none else
   match x with
   |.ptr r off=>some (.ptr r (off+o))
   |.rs r off e _ _=>if e=0 then some (.rs r (off+o) 0 0 0) else none
   |.snap cs off=>some (.snap cs (off+o))
   |.glb g off=>some (.glb g (off+o))
   |_=>none
  |none=>none
 |none=>none
def C9 (P:Program) (s:TypeId) (x:GV) (f:Nat):Option GV:=
 match x with
 |.agg cs=>match yJ P s f with
  |some (o,ft)=>o7 P ft cs o
  |none=>none
 |_=>none
def kU (P:Program) (t:TypeId) (x ix:GV):Option GV:=
 match ix with
 |.i _ n=>
  if 0<=n then
   match x with
   |.sl _ xs=>match iP P t with
    |some e=>match dR P e,xs[n.toNat]? with
     |some size,some y=>if y.cells.length=size then some (.snap y.cells 0) else none
     |_,_=>none
    |none=>none
   |.ptr r off=>match zS P t with
    |some (len,e)=>match dR P e with
     |some size=>if n<len then some (.ptr r (off+n.toNat*size)) else none
     |none=>none
    |none=>none
   |.snap cs off=>match zS P t with
    |some (len,e)=>match dR P e with
     |some size=>if n<len then some (.snap cs (off+n.toNat*size)) else none
     |none=>none
    |none=>none
   |.glb g off=>match zS P t with
    |some (len,e)=>match dR P e with
     |some size=>if n<len then some (.glb g (off+n.toNat*size)) else none
     |none=>none
    |none=>none
   |.rs r off esz m _=>match iP P t with
    |some e=>match dR P e with
     |some size=>if esz=size&&n<(m:Int) then some (.rs r (off+n.toNat*esz) 0 0 0) else none
     |none=>none
    |none=>none
   |_=>none
  else none
 |_=>none
def vI (P:Program) (t:TypeId) (x ix:GV):Option GV:=
 match ix with
 |.i _ n=>
  if 0<=n then
   match x with
   |.s l=>if eU P t=some 1 then(l[n.toNat]?).map fun b=>.i .u8 b.toNat else none
   |.agg cs=>match zS P t with
    |some (len,e)=>match dR P e with
     |some size=>if n<len then o7 P e cs (n.toNat*size) else none
     |none=>none
    |none=>none
   |_=>none
  else none
 |_=>none
def x8 (x:GV) (i:Nat):Option GV:=
 match x with
 |.tup cs=>cs[i]?
 |_=>none
def rH (P:Program) (t:TypeId) (x:GV) (σ:GS):Option GV:=
 match x with
 |.s l=>if eU P t=some 1 then some (.i .i64 l.length) else none
 |.sl _ xs=>if eU P t=some 6 then some (.i .i64 xs.length) else none
 |.mp r=>match σ.objs[r]? with
  |some (.mp es)=>if(pW P t).isSome then some (.i .i64 es.length) else none
  |some (.mx es _ _)=>if(pW P t).isSome then some (.i .i64 es.length) else none
  |_=>none
 |.o (.map none)=>if(pW P t).isSome then some (.i .i64 0) else none
 |.rs _ _ e n _=>if e≠0/\eU P t=some 6 then some (.i .i64 n) else none
 |_=>none
def t7 (P:Program) (e:TypeId) (size:Nat):Nat->List GV->Option (List GV)
 |0,_=>some []
 |n+1,cs=>
  match(match XM P e with
   |some true=>if size<=cs.length then some (GV.agg (cs.take size)) else none
   |some false=>(match cs with|c::_=>if c.isCell&&Nat.beq size 1 then some c else none|[]=>none)
   |none=>none),t7 P e size n (cs.drop size) with
  |some y,some ys=>some (y::ys)
  |_,_=>none
def zN (P:Program) (t u:TypeId) (x:GV) (σ:GS):Option (List GV):=
 match x with
 |.rs r off (sz+1) n _=>if t=u then match iP P t,σ.objs[r]? with
  |some e,some (.box _ cs)=>if dR P e=some (sz+1) then t7 P e (sz+1) n (cs.drop off) else none
  |_,_=>none
  else none
 |.sl _ ys=>if t=u then some ys else none
 |.s l=>match iP P t with
  |some e=>if G7 P e=some .u8&&eU P u=some 1 then some (l.map fun b=>.i .u8 b.toNat) else none
  |none=>none
 |.o (.slice (some _) 0 _)=>if t=u then some [] else none
 |_=>none
def nI (P:Program) (t u:TypeId) (s x:GV) (σ:GS):Option (GV×GS):=
 match s,zN P t u x σ with
 |.sl k xs,some ys=>
  match iP P t with
  |some e=>match dR P e,m8 P e,iE P e with
   |some size,some bytes,some z=>
    if z.known&&z.cells.length==size then
     if ys.isEmpty then some (.sl k xs,σ) else
     if 0<size&&ys.all (oE size)&&xs.all (fun x=>x.cells.length==size)&&decide (xs.length+ys.length<=D7)&&decide (bytes<=4096) then
      match k with
      |.full=>if Globals.wr e then some (.rs σ.objs.length 0 size (xs.length+ys.length) 0,gnew σ (.box e ((xs++ys).flatMap GV.cells)))
       else some (.sl (.own σ.objs.length) (xs++ys),gnew σ (.own (xs.length+ys.length) size e))
      |.own r=>match σ.objs[r]? with
       |some (.own n esz ty)=>
        if Globals.wr e&&(esz==0&&n==0)&&xs.isEmpty then some (.rs σ.objs.length 0 size (xs.length+ys.length) 0,gnew σ (.box e ((xs++ys).flatMap GV.cells))) else
        if σ.lo<=r&&n==xs.length&&(esz==size&&ty==e||(n==0&&esz==0)) then
         some (.sl (.own r) (xs++ys),gset σ r (.own (xs.length+ys.length) size e))
        else none
       |_=>none
      |.none=>none
     else none
    else none
   |_,_,_=>none
  |none=>none
 |_,_=>none
def x5 (P:Program) (t:TypeId) (l c:GV) (σ:GS):Option (GV×GS):=
 match l,c with
 |.i _ n,.i _ m=>match iP P t with
  |some e=>match dR P e,m8 P e,iE P e with
   |some size,some bytes,some z=>
    if z.known&&z.cells.length==size&&decide (0<size)&&decide (bytes<=4096)&&decide (0<=n)&&decide (n=m)&&decide (n<=D7) then
     some (.rs σ.objs.length 0 size n.toNat n.toNat,gnew σ (.box e (List.replicate n.toNat z.cells).flatten))
    else none
   |_,_,_=>none
  |none=>none
 |_,_=>none
def K2 (x y:GV):Option GV:=
 match x,y with
 |.i k a,.i _ b=>some (.i k (if b<a then b else a))
 |_,_=>none
def K3 (x y:GV):Option GV:=
 match x,y with
 |.i k a,.i _ b=>some (.i k (if b>a then b else a))
 |_,_=>none
def x6 (f:GV->GV->Option GV):GV->List GV->Option GV
 |x,[]=>some x
 |x,y::ys=>(f x y).bind fun z=>x6 f z ys
def CD (x:GV):Option GV:=
 match x with
 |.sl (.own r) xs=>if !xs.isEmpty&&xs.all (fun x=>x.cells.length==1) then some (.dat r (xs.flatMap GV.cells)) else none
 |_=>none
def KI:GV->Bool
 |.i .u8 n=>decide (0<=n)&&decide (n<256)
 |_=>false
def uS (P:Program) (pt:TypeId) (x n:GV) (σ:GS):Option (GV×GS):=
 match x,n with
 |.dat r cs,.i .i64 n=>match σ.objs[r]?,rO cs with
  |some (.own m _ ty),some l=>
   if n=(l.length:Int)&&m==cs.length&&!l.isEmpty&&decide (σ.lo<=r)&&(LW P pt==some ty)&&P.cellsOf ty==1&&decide (l.length<=D7)&&cs.all KI then some (.s l,gset σ r .dead) else none
  |_,_=>none
 |_,_=>none
def vK (P:Program) (t:TypeId) (x:GV) (σ:GS):Option (GV×GS):=
 match x with
 |.rs r off esz n _=>match iP P t with
  |some e=>match dR P e,iE P e,σ.objs[r]? with
   |some size,some z,some (.box T cs)=>
    if oE size z&&decide (esz=size)&&decide (0<size)&&decide (σ.lo<=r)&&decide (off+n*size<=cs.length) then
     some (.tup [],gset σ r (.box T (cs.take off++(List.replicate n z.cells).flatten++cs.drop (off+n*size))))
    else none
   |_,_,_=>none
  |none=>none
 |_=>none
def sX (P:Program) (kt:TypeId) (d:TypeDesc) (k:GV) (es:List (GV×GV)):Option (Option (Nat×GV)):=
 if mU d k then i6 d k es 0 else if lV P kt k then jS P kt k es 0 else none
def C7 (P:Program) (t:TypeId) (x:GV) (σ:GS):Option (GV×GS):=
 match x with
 |.mp r=>match pW P t,σ.objs[r]? with
  |some _,some (.mx _ _ clk)=>some (.ptr σ.objs.length 0,gnew σ (.it (some r) clk [] clk))
  |_,_=>none
 |_=>none
def CB (it:GV) (σ:GS):Option GV:=
 match it with
 |.ptr r 0=>match σ.objs[r]? with
  |some (.it (some m) _ (b::_) last)=>match σ.objs[m]? with
   |some (.mx es bs clk)=>if Nat.beq clk last then(match(es.zip bs).find? (fun e=>Nat.beq e.2 b) with
    |some e=>some (.tup [e.1.1,e.1.2])
    |none=>none) else none
   |_=>none
  |_=>none
 |_=>none
def m5 (P:Program) (t:TypeId) (m k:GV) (σ:GS):Option (GV×GS):=
 match m with
 |.mp r=>match pW P t with
  |some (kt,et)=>match P.underlying kt,iE P et,σ.objs[r]? with
   |some d,some z,some (.mx es bs clk)=>
    if σ.lo<=r then
     match sX P kt d k es with
     |some (some (i,v))=>match bs[i]?,es[i]? with
      |some b,some e=>some (.tup [v,.i .i64 b],gset σ r (.mx (es.set i (k,e.2)) bs clk))
      |_,_=>none
     |some none=>some (.tup [z,.i .i64 clk],gset σ r (.mx (es++[(k,z)]) (bs++[clk]) (clk+1)))
     |none=>none
    else none
   |_,_,_=>none
  |none=>none
 |_=>none
def jT (m st v:GV) (σ:GS):Option GS:=
 match m,st with
 |.mp r,.i _ n=>match σ.objs[r]? with
  |some (.mx es bs clk)=>if σ.lo<=r then match bs.findIdx? (fun(b:Nat)=>(b:Int)==n) with
   |some i=>match es[i]? with
    |some e=>some (gset σ r (.mx (es.set i (e.1,v)) bs clk))
    |none=>none
   |none=>none
   else none
  |_=>none
 |_,_=>none
def rJ (P:Program) (t:TypeId) (m k:GV) (σ:GS):Option GS:=
 match m with
 |.mp r=>match pW P t with
  |some (kt,_)=>match P.underlying kt,σ.objs[r]? with
   |some d,some (.mx es bs clk)=>
    if σ.lo<=r then
     match sX P kt d k es with
     |some (some (i,_))=>some (gset σ r (.mx (es.eraseIdx i) (bs.eraseIdx i) clk))
     |some none=>some (gset σ r (.mx es bs clk))
     |none=>none
    else none
   |_,_=>none
  |none=>none
 |_=>none
def i8 (P:Program) (b:Builtin) (ts:List TypeId) (args:List GV) (σ:GS):Option (GV×GS):=
 match b,ts,args with
 |.len,[t],[x]=>(rH P t x σ).map fun v=>(v,σ)
 |.append,[t,u],[s,x]=>nI P t u s x σ
 |.unsafeSliceData,_,[x]=>(CD x).map fun v=>(v,σ)
 |.unsafeString,[pt,_],[x,n]=>uS P pt x n σ
 |.clear,[t],[x]=>vK P t x σ
 |.delete,t::_,[m,k]=>(rJ P t m k σ).map fun s=>(.tup [],s)
 |.min,_,x::xs=>(x6 K2 x xs).map fun v=>(v,σ)
 |.max,_,x::xs=>(x6 K3 x xs).map fun v=>(v,σ)
 |_,_,_=>none
def C1 (it:GV) (σ:GS):Option (GV×GS):=
 match it with
 |.ptr r 0=>match σ.objs[r]? with
  |some (.it (some m) since seen last)=>match σ.objs[m]? with
   |some (.mx es bs clk)=>
    if decide (σ.lo<=r)&&bs.all (fun b=>decide (b<since))&&decide (since<=last) then
     match(es.zip bs).filter (fun e=>!seen.contains e.2) with
     |[]=>some (.tup [.b false],σ)
     |[e]=>some (.tup [.b true,e.1.1,e.1.2],gset σ r (.it (some m) since (e.2::seen) clk))
     |_=>none
    else none
   |_=>none
  |_=>none
 |_=>none
def dN (P:Program) (ρ:Operand->GV) (op:Op):Option xP:=
 match op with
 |.assign (.const (.slice none 0 0))=>some (fun r=>.sl (.own r) [],.own 0 0 0)
 |.alloc t=>yE P t
 |.box t x=>WT t (ρ x)
 |.buildSlice t len parts=>oT P t len (parts.toList.map fun p=>(p.1,ρ p.2))
 |.makeMap t none=>some (fun r=>.mp r,if Globals.wr t then .mx [] [] 0 else .mp [])
 |_=>none
def MU (P:Program) (t:TypeId) (l c:GV):Option xP:=
 match l,c with
 |.i _ n,.i _ m=>match iP P t with
  |some e=>match dR P e,m8 P e,iE P e with
   |some size,some bytes,some z=>
    if z.known&&z.cells.length==size&&decide (0<size)&&decide (bytes<=4096)&&decide (0<=n)&&decide (n=m)&&decide (n<=D7) then
     some (fun r=>.rs r 0 size n.toNat n.toNat,.box e (List.replicate n.toNat z.cells).flatten)
    else none
   |_,_,_=>none
  |none=>none
 |_,_=>none
def mF (P:Program) (ρ:Operand->GV) (op:Op):Option xP:=
 match op with
 |.makeSlice t l c=>MU P t (ρ l) (ρ c)
 |op=>dN P ρ op
def jB (P:Program) (ρ:Operand->GV) (op:Op) (σ:GS):Option (GV×GS):=
 let pure (x:Option GV):Option (GV×GS):=x.map fun v=>(v,σ);let unit (x:Option GS):Option (GV×GS):=x.map fun s=>(.any,s)
 match op with
 |.move x=>some (ρ x,σ)
 |.assign x=>some (ρ x,σ)
 |.pick c a b=>
  match ρ c with
  |.b t=>some (if t then ρ a else ρ b,σ)
  |_=>none
 |.build t parts=>pure (HJ P t (parts.toList.map fun p=>(p.1,ρ p.2)))
 |.load t a=>pure (k9 P t (ρ a) σ)
 |.store t a v=>unit (lI P t (ρ a) (ρ v) σ)
 |.nilCheck x=>pure (y3 (ρ x))
 |.binOp op t x y _=>pure (yD P op t (fW x) (fW y) (ρ x) (ρ y))
 |.unOp op _ x=>pure (gun op (ρ x))
 |.convert src dst x=>pure (oB P src dst (ρ x))
 |.makeInterface t x=>pure (rG P t (ρ x))
 |.makeFunc f a c=>some (.fn f (a.toList.map ρ) (c.toList.map ρ),σ)
 |.slice t x lo hi mx=>pure (lK P t (ρ x) (lo.map ρ) (hi.map ρ) (mx.map ρ))
 |.fieldAddr s x f=>pure (rI P s (ρ x) f)
 |.field s x f=>pure (C9 P s (ρ x) f)
 |.indexAddr t x i=>pure (kU P t (ρ x) (ρ i))
 |.makeSlice t l c=>x5 P t (ρ l) (ρ c) σ
 |.index t x i=>pure (vI P t (ρ x) (ρ i))
 |.lookup t m k ok=>pure (k5 P t (ρ m) (ρ k) ok σ)
 |.mapUpdate t m k v|.insert t m k v=>unit (fP P t (ρ m) (ρ k) (ρ v) σ)
 |.typeAssert x _ t ok=>pure (AJ P t ok (ρ x))
 |.range t x=>C7 P t (ρ x) σ
 |.next it false=>C1 (ρ it) σ
 |.entry it=>pure (CB (ρ it) σ)
 |.mapEntry t m k=>m5 P t (ρ m) (ρ k) σ
 |.entryStore _ m st v=>unit (jT (ρ m) (ρ st) (ρ v) σ)
 |.extract x i=>pure (x8 (ρ x) i)
 |.call {callee:=.builtin b,args,argTypes}=>i8 P b argTypes.toList (args.toList.map ρ) σ
 |_=>none
def kO (P:Program) (ρ:Operand->GV) (op:Op) (σ:GS):Option (GV×GS):=
 match dN P ρ op with
 |some f=>some (f.1 σ.objs.length,gnew σ f.2)
 |none=>jB P ρ op σ
