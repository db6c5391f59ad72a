/- Part of ViewWrong. -/
import Derived.Test.YtimgfjldcdhejaaGreatDoorK1
import Derived.Lib.ConvBytes
import Derived.Laws.BytesString
set_option linter.all false
namespace Go.Proofs.YtimgfjldcdhejaaGreatDoor
section
open Go.RowKit
variable [Globals]
def a6v (P:Program) (t:TypeId):Option Bool:=
 match P.underlying t with
 |some (.struct _)|some (.array _ _)=>some true
 |some _=>some false
 |none=>none
def fS (P:Program) (t:TypeId):Option Nat:=(P.info? t).map (·.size)
def yP (P:Program) (t:TypeId):Option Nat:=(P.info? t).map (·.bytes)
def mB (P:Program) (t:TypeId):Option TypeId:=
 match P.underlying t with
 |some (.slice e)=>some e
 |_=>none
def H3 (P:Program) (t:TypeId):Option (Nat×TypeId):=
 match P.underlying t with
 |some (.array n e)=>some (n,e)
 |_=>none
def RE (P:Program) (t:TypeId):Option (TypeId×TypeId):=
 match P.underlying t with
 |some (.map k e)=>some (k,e)
 |_=>none
def FN (P:Program) (s:TypeId) (f:Nat):Option (Nat×TypeId):=
 match P.underlying s with
 |some (.struct fs)=>(fs[f]?).map fun x=>(x.offset,x.type)
 |_=>none
def ZC (P:Program) (t:TypeId):Option TypeId:=
 match P.underlying t with
 |some (.pointer e)=>some e
 |_=>none
def gT (P:Program) (t:TypeId):Option Nat:=
 match P.underlying t with
 |some .string=>some 1
 |some .bool=>some 2
 |some (.interface _)=>some 3
 |some (.pointer _)=>some 4
 |some (.int _)=>some 5
 |some (.slice _)=>some 6
 |some _=>some 0
 |none=>none
def RQ (P:Program) (t:TypeId):Option IntKind:=
 match P.underlying t with
 |some (.int k)=>some k
 |_=>none
def HW:Nat->Value->GV
 |0,_=>.any
 |n+1,v=>
  match v with
  |.bool b=>.b b
  |.int k i=>.i k i
  |.string s=>.s s.data.toList
  |.slice none 0 0=>.sl .full []
  |.agg vs=>.agg (vs.toList.map (HW n))
  |v=>if OB v then .o v else .any
def qT (v:Value):GV:=HW 3 v
def mA (P:Program) (t:TypeId):Option GV:=((P.info? t).bind (·.zero)).map qT
def dE (φ:Nat->GV):Operand->GV
 |.tmp t=>φ t
 |.const v=>qT v
 |.global g=>.glb g 0
 |.func f=>.fn (.func f) [] []
def wZ (P:Program) (t:TypeId) (cs:List GV) (off:Nat):Option GV:=
 match a6v P t with
 |some true=>match fS P t with
  |some n=>if off+n<=cs.length then some (.agg ((cs.drop off).take n)) else none
  |none=>none
 |some false=>cs[off]?
 |none=>none
def jO:Nat:=4294967296
def wL:Nat:=4611686018427387904
def gnew (σ:GS) (x:GObj):GS:={σ with objs:=σ.objs++[x]}
def gset (σ:GS) (r:Nat) (x:GObj):GS:={σ with objs:=σ.objs.set r x}
abbrev TC:=(Nat->GV)×GObj
def KH (P:Program) (t:TypeId):Option TC:=
 match mA P t with
 |some z=>if z.known then some (fun r=>.ptr r 0,.box t z.cells) else none
 |none=>none
def a6Y (t:TypeId) (x:GV):Option TC:=if x.known then some (fun r=>.ptr r 0,.box t x.cells) else none
def a6U:List GV->Nat->List GV->List GV
 |cs,_,[]=>cs
 |cs,off,x::xs=>a6U (cs.set off x) (off+1) xs
def S6 (place:Nat->Option (Nat×Nat)):List GV->List (Nat×GV)->Option (List GV)
 |cs,[]=>some cs
 |cs,(i,v)::rest=>
  match place i with
  |none=>none
  |some (off,size)=>if !v.known||v.cells.length≠size||off+v.cells.length>cs.length then none else S6 place (a6U cs off v.cells) rest
def ES (P:Program) (t:TypeId) (i:Nat):Option (Nat×Nat):=
 match H3 P t with
 |some (_,e)=>(fS P e).map fun n=>(i*n,n)
 |none=>match FN P t i with
  |some (o,ft)=>(fS P ft).map fun n=>(o,n)
  |none=>none
def a13 (P:Program) (t:TypeId):Bool:=
 match P.underlying t with
 |some (.struct fs)=>fs.toList.all fun f=>(P.info? f.type).isSome
 |some (.array _ e)=>(P.info? e).isSome
 |_=>false
def VD (P:Program) (t:TypeId) (parts:List (Nat×GV)):Option GV:=
 match mA P t with
 |some (.agg z)=>if a13 P t then(S6 (ES P t) z parts).map .agg else none
 |_=>none
def AF (P:Program) (t:TypeId) (len:Nat) (parts:List (Nat×GV)):Option TC:=
 match mB P t with
 |some e=>
  match fS P e,mA P e with
  |some size,some z=>
   if 0<size&&z.known&&(parts.map (·.1)==List.range len)&&(parts.map (·.2)).all (sO size)&&decide (len*size<=16777216) then
    if Globals.wr e&&len==0 then some (fun r=>.sl (.own r) [],.own 0 0 0) else if Globals.lt e then some (fun r=>.rs r 0 size len len,.box e ((parts.map (·.2)).flatMap GV.cells)) else some (fun r=>.sl (.own r) (parts.map (·.2)),.own len size e)
   else none
  |_,_=>none
 |none=>none
def pO (P:Program) (t:TypeId) (a:GV) (σ:GS):Option GV:=
 match a with
 |.ptr r off=>match σ.objs[r]? with
  |some (.box T cs)=>wZ P t cs off
  |_=>none
 |.rs r off e _ _=>if e=0 then match σ.objs[r]? with
  |some (.box _ cs)=>wZ P t cs off
  |_=>none
  else none
 |.snap cs off=>wZ P t cs off
 |.glb g off=>match Globals.tab g with
  |some cs=>wZ P t cs off
  |none=>none
 |_=>none
def kS (P:Program) (t:TypeId) (r off:Nat) (v:GV) (σ:GS):Option GS:=
 match σ.objs[r]? with
 |some (.box T cs)=>
  if σ.lo<=r&&sO ((fS P t).getD 0) v&&(fS P t).isSome&&decide (off+v.cells.length<=cs.length) then
   some (gset σ r (.box T (cs.take off++v.cells++cs.drop (off+v.cells.length))))
  else none
 |_=>none
def sE (P:Program) (t:TypeId) (a v:GV) (σ:GS):Option GS:=
 match a with
 |.ptr r off=>kS P t r off v σ
 |.rs r off e _ _=>if e=0 then kS P t r off v σ else none
 |_=>none
def MX (x:GV):Option GV:=
 match x with
 |.ptr _ _|.snap _ _|.glb _ _|.ifc _ _|.fn (.func _) _ _=>some x
 |_=>none
def a2N (op:BinOp) (k:IntKind) (a b:Int):Option GV:=
 match op with
 |.add=>some (.i k (k.wrap (a+b)))
 |.sub=>some (.i k (k.wrap (a - b)))
 |.mul=>some (.i k (k.wrap (a*b)))
 |.quo=>if b=0 then none else some (.i k (k.wrap (a.tdiv b)))
 |.rem=>if b=0 then none else some (.i k (a.tmod b))
 |.and|.or|.xor|.andNot=>some (.i k (bits op k a b))
 |.eql=>some (.b (a==b))
 |.neq=>some (.b (a !=b))
 |.lss=>some (.b (a<b))
 |.leq=>some (.b (a<=b))
 |.gtr=>some (.b (a>b))
 |.geq=>some (.b (a>=b))
 |_=>none
def a4K (op:BinOp) (a b:List UInt8):Option GV:=
 match op with
 |.add=>if a.length+b.length<wL then some (.s (a++b)) else none
 |.eql=>some (.b (a==b))
 |.neq=>some (.b (!(a==b)))
 |.lss=>some (.b (Op.bytesLess a b))
 |.leq=>some (.b (Op.bytesLess a b||a==b))
 |.gtr=>some (.b (!(Op.bytesLess a b||a==b)))
 |.geq=>some (.b (!Op.bytesLess a b))
 |_=>none
def k9:Operand->Bool
 |.const _=>true
 |_=>false
def N5 (P:Program) (t:TypeId):List Field:=
 match P.underlying t with
 |some (.struct fs)=>fs.toList
 |_=>[]
def OJ:List Field->Nat->Bool
 |[],_=>true
 |f::fs,i=>f.name != "_" &&f.offset==i&&OJ fs (i+1)
def HA (P:Program) (t:TypeId):Bool:=(match P.underlying t with|some (.struct _)=>true|_=>false)&&OJ (N5 P t) 0&&!P.stoodInHeld t&&!P.eqGuardType P.depth t
def nW (P:Program):List Field->List GV->List GV->Option Bool
 |[],_,_=>some true
 |f::fs,.i k a::cs,.i k' b::ds=>if k=k' then(if(RQ P f.type).isSome=true then(nW P fs cs ds).map (fun r=>a==b&&r) else none) else none
 |f::fs,.s a::cs,.s b::ds=>if gT P f.type=some 1 then(nW P fs cs ds).map (fun r=>a==b&&r) else none
 |f::fs,.b a::cs,.b b::ds=>if gT P f.type=some 2 then(nW P fs cs ds).map (fun r=>a==b&&r) else none
 |_,_,_=>none
def geq (P:Program) (t:TypeId) (ca cb:Bool) (a b:GV):Option Bool:=
 match a,b with
 |.b x,.b y=>if gT P t=some 2 then some (x==y) else none
 |.o .nilIface,.o .nilIface=>if gT P t=some 3&&(ca||cb) then some true else none
 |.ifc _ _,.o .nilIface|.o .nilIface,.ifc _ _=>if gT P t=some 3 then some false else none
 |.ptr _ _,.o (.pointer none)|.o (.pointer none),.ptr _ _|.snap _ _,.o (.pointer none)|.o (.pointer none),.snap _ _=>if gT P t=some 4 then some false else none
 |.o (.pointer none),.o (.pointer none)=>if gT P t=some 4 then some true else none
 |.agg cs,.agg ds=>if HA P t=true then nW P (N5 P t) cs ds else none
 |.ptr r o,.ptr r' o'=>if r=r'&&(ZC P t).any (fun e=>decide (0<(fS P e).getD 0)) then some (o==o') else none
 |.sl _ (_::_),.sl .full []=>if gT P t=some 6 then some false else none
 |.sl .full [],.sl .full []=>if gT P t=some 6 then some true else none
 |.o (.slice (some _) 0 _),.sl .full []=>if gT P t=some 6 then some false else none
 |_,_=>none
def H1 (P:Program) (op:BinOp) (t:TypeId) (ca cb:Bool) (a b:GV):Option GV:=
 match op,a,b with
 |.shl,.i k x,.i _ y=>if 0<=y then some (.i k (k.wrap (x*2^min y.toNat k.bits))) else none
 |.shr,.i k x,.i _ y=>if 0<=y then some (.i k (x.fdiv (2^min y.toNat k.bits))) else none
 |op,.i k x,.i k' y=>if k=k' then a2N op k x y else none
 |op,.s x,.s y=>a4K op x y
 |.eql,a,b=>(geq P t ca cb a b).map .b
 |.neq,a,b=>(geq P t ca cb a b).map fun x=>.b (!x)
 |_,_,_=>none
def gun (op:UnOp) (x:GV):Option GV:=
 match op,x with
 |.neg,.i k n=>some (.i k (k.wrap (0 - n)))
 |.not,.b b=>some (.b !b)
 |.xor,.i k n=>some (.i k (bits .xor k (if k.signed then -1 else k.max) n))
 |_,_=>none
def AE:List GV->Option (List UInt8)
 |[]=>some []
 |.i .u8 n::r=>(AE r).map fun l=>UInt8.ofNat n.toNat::l
 |_=>none
def x9 (P:Program) (src dst:TypeId) (x:GV):Option GV:=
 match x with
 |.i _ n=>match RQ P dst with
  |some k=>if(gT P src).isSome then some (.i k (k.wrap n)) else none
  |none=>if gT P dst=some 1&&(gT P src).isSome then some (.s (Utf8.encode n).data.toList) else none
 |.s l=>if gT P dst=some 1&&gT P src=some 1 then some (.s l) else
  (match mB P dst with
  |some e=>if RQ P e=some .u8&&gT P src=some 1 then some (.sl .none (l.map fun b=>.i .u8 b.toNat)) else none
  |none=>none)
 |.sl _ xs=>match mB P src with
  |some e=>if RQ P e=some .u8&&gT P dst=some 1 then(AE xs).map .s else none
  |none=>none
 |_=>none
def CH (P:Program) (t:TypeId) (x:GV):Option GV:=
 match gT P t with
 |none|some 3=>none
 |some _=>some (.ifc t x)
def PE (P:Program) (t:TypeId) (ok:Bool) (x:GV):Option GV:=
 match gT P t with
 |none|some 3=>none
 |some _=>
  match x with
  |.ifc u g=>
   if u=t then some (if ok then .tup [g,.b true] else g)
   else if ok then(mA P t).map fun z=>.tup [z,.b false] else none
  |.o .nilIface=>if ok then(mA P t).map fun z=>.tup [z,.b false] else none
  |_=>none
def BT:TypeDesc->GV->GV->Option Bool
 |.int _,.i k a,.i k' b=>if k=k' then some (a==b) else none
 |.string,.s a,.s b=>some (a==b)
 |.bool,.b a,.b b=>some (a==b)
 |_,_,_=>none
def mK (d:TypeDesc) (k:GV):List (GV×GV)->Nat->Option (Option (Nat×GV))
 |[],_=>some none
 |e::es,i=>
  match BT d k e.1 with
  |some true=>some (some (i,e.2))
  |some false=>mK d k es (i+1)
  |none=>none
def ZV (d:TypeDesc) (k:GV):Bool:=
 match d,k with
 |.int _,.i _ _|.string,.s _|.bool,.b _=>true
 |_,_=>false
def l7 (P:Program) (t:TypeId) (m k v:GV) (σ:GS):Option GS:=
 match m with
 |.mp r=>match RE P t with
  |some (kt,_)=>match P.underlying kt,σ.objs[r]? with
   |some d,some (.mp es)=>
    if σ.lo<=r&&ZV d k then
     match mK d k es 0 with
     |some (some (i,_))=>some (gset σ r (.mp (es.set i (k,v))))
     |some none=>some (gset σ r (.mp (es++[(k,v)])))
     |none=>none
    else none
   |_,_=>none
  |none=>none
 |_=>none
def sU (P:Program) (t:TypeId) (m k:GV) (ok:Bool) (σ:GS):Option GV:=
 match RE P t with
 |some (kt,et)=>match P.underlying kt,mA P et with
  |some d,some z=>
   if ZV d k then
    match m with
    |.mp r=>match σ.objs[r]? with
     |some (.mp es)=>match mK d k es 0 with
      |some (some (_,v))=>some (if ok then .tup [v,.b true] else v)
      |some none=>some (if ok then .tup [z,.b false] else z)
      |none=>none
     |_=>none
    |.o (.map none)=>some (if ok then .tup [z,.b false] else z)
    |_=>none
   else none
  |_,_=>none
 |none=>none
def n6 (x:Option GV) (dflt:Nat):Option Nat:=
 match x with
 |none=>some dflt
 |some (.i _ n)=>if 0<=n then some n.toNat else none
 |_=>none
def qR (P:Program) (t:TypeId) (x:GV) (lo hi mx:Option GV):Option GV:=
 match x with
 |.s l=>
  if gT P t=some 1&&mx.isNone then
   match n6 lo 0,n6 hi l.length with
   |some a,some b=>if a<=b&&b<=l.length then some (.s ((l.drop a).take (b - a))) else none
   |_,_=>none
  else none
 |.sl k xs=>
  match mB P t with
  |some e=>match fS P e with
   |some size=>
    if xs.all (fun x=>x.cells.length==size) then
    match n6 lo 0,n6 hi xs.length with
    |some a,some b=>
     if a<=b&&b<=xs.length then
      match mx with
      |none=>some (.sl (if a=0&&b=xs.length then k else if k=.full&&b=xs.length&&a<b then .full else .none) ((xs.drop a).take (b - a)))
      |some m=>if hi.isSome&&n6 (some m) 0=some b then some (.sl (if a<b then .full else .none) ((xs.drop a).take (b - a))) else none
     else none
    |_,_=>none
    else none
   |none=>none
  |none=>none
 |.rs r off esz n c=>
  match mB P t with
  |some e=>match fS P e with
   |some size=>
    if decide (esz=size)&&decide (0<size)&&mx.isNone then
     match n6 lo 0,n6 hi n with
     |some a,some b=>if a<=b&&b<=n&&decide (a=0∨a<n) then some (.rs r (off+a*esz) esz (b - a) (if a=0 then c else 0)) else none
     |_,_=>none
    else none
   |none=>none
  |none=>none
 |_=>none
def CI (P:Program) (s:TypeId) (x:GV) (f:Nat):Option GV:=
 match FN P s f with
 |some (o,ft)=>match fS P ft with
  |some n=>if n=0 then none else
   match x with
   |.ptr r off=>some (.ptr r (off+o))
   |.rs r off e _ _=>if e=0 then some (.rs r (off+o) 0 0 0) else none
   |.snap cs off=>some (.snap cs (off+o))
   |.glb g off=>some (.glb g (off+o))
   |_=>none
  |none=>none
 |none=>none
def P5 (P:Program) (s:TypeId) (x:GV) (f:Nat):Option GV:=
 match x with
 |.agg cs=>match FN P s f with
  |some (o,ft)=>wZ P ft cs o
  |none=>none
 |_=>none
def qS (P:Program) (t:TypeId) (x ix:GV):Option GV:=
 match ix with
 |.i _ n=>
  if 0<=n then
   match x with
   |.sl _ xs=>match mB P t with
    |some e=>match fS P e,xs[n.toNat]? with
     |some size,some y=>if y.cells.length=size then some (.snap y.cells 0) else none
     |_,_=>none
    |none=>none
   |.ptr r off=>match H3 P t with
    |some (len,e)=>match fS P e with
     |some size=>if n<len then some (.ptr r (off+n.toNat*size)) else none
     |none=>none
    |none=>none
   |.snap cs off=>match H3 P t with
    |some (len,e)=>match fS P e with
     |some size=>if n<len then some (.snap cs (off+n.toNat*size)) else none
     |none=>none
    |none=>none
   |.glb g off=>match H3 P t with
    |some (len,e)=>match fS P e with
     |some size=>if n<len then some (.glb g (off+n.toNat*size)) else none
     |none=>none
    |none=>none
   |.rs r off esz m _=>match mB P t with
    |some e=>match fS P e with
     |some size=>if esz=size&&n<(m:Int) then some (.rs r (off+n.toNat*esz) 0 0 0) else none
     |none=>none
    |none=>none
   |_=>none
  else none
 |_=>none
def F8 (P:Program) (t:TypeId) (x ix:GV):Option GV:=
 match ix with
 |.i _ n=>
  if 0<=n then
   match x with
   |.s l=>if gT P t=some 1 then(l[n.toNat]?).map fun b=>.i .u8 b.toNat else none
   |.agg cs=>match H3 P t with
    |some (len,e)=>match fS P e with
     |some size=>if n<len then wZ P e cs (n.toNat*size) else none
     |none=>none
    |none=>none
   |_=>none
  else none
 |_=>none
def K9 (x:GV) (i:Nat):Option GV:=
 match x with
 |.tup cs=>cs[i]?
 |_=>none
def F6 (P:Program) (t:TypeId) (x:GV) (σ:GS):Option GV:=
 match x with
 |.s l=>if gT P t=some 1 then some (.i .i64 l.length) else none
 |.sl _ xs=>if gT P t=some 6 then some (.i .i64 xs.length) else none
 |.mp r=>match σ.objs[r]? with
  |some (.mp es)=>if(RE P t).isSome then some (.i .i64 es.length) else none
  |_=>none
 |.o (.map none)=>if(RE P t).isSome then some (.i .i64 0) else none
 |.rs _ _ e n _=>if e≠0/\gT P t=some 6 then some (.i .i64 n) else none
 |_=>none
def RY (P:Program) (t u:TypeId) (x:GV):Option (List GV):=
 match x with
 |.sl _ ys=>if t=u then some ys else none
 |.s l=>match mB P t with
  |some e=>if RQ P e=some .u8&&gT P u=some 1 then some (l.map fun b=>.i .u8 b.toNat) else none
  |none=>none
 |.o (.slice (some _) 0 _)=>if t=u then some [] else none
 |_=>none
def yI (P:Program) (t u:TypeId) (s x:GV) (σ:GS):Option (GV×GS):=
 match s,RY P t u x with
 |.sl k xs,some ys=>
  match mB P t with
  |some e=>match fS P e,yP P e,mA P e with
   |some size,some bytes,some z=>
    if z.known&&z.cells.length==size then
     if ys.isEmpty then some (.sl k xs,σ) else
     if 0<size&&ys.all (sO size)&&xs.all (fun x=>x.cells.length==size)&&decide (xs.length+ys.length<=jO)&&decide (bytes<=4096) then
      match k with
      |.full=>if Globals.wr e then some (.rs σ.objs.length 0 size (xs.length+ys.length) 0,gnew σ (.box e ((xs++ys).flatMap GV.cells)))
       else some (.sl (.own σ.objs.length) (xs++ys),gnew σ (.own (xs.length+ys.length) size e))
      |.own r=>match σ.objs[r]? with
       |some (.own n esz ty)=>
        if Globals.wr e&&(esz==0&&n==0)&&xs.isEmpty then some (.rs σ.objs.length 0 size (xs.length+ys.length) 0,gnew σ (.box e ((xs++ys).flatMap GV.cells))) else
        if σ.lo<=r&&n==xs.length&&(esz==size&&ty==e||(n==0&&esz==0)) then
         some (.sl (.own r) (xs++ys),gset σ r (.own (xs.length+ys.length) size e))
        else none
       |_=>none
      |.none=>none
     else none
    else none
   |_,_,_=>none
  |none=>none
 |_,_=>none
def K3 (P:Program) (t:TypeId) (l c:GV) (σ:GS):Option (GV×GS):=
 match l,c with
 |.i _ n,.i _ m=>match mB P t with
  |some e=>match fS P e,yP P e,mA P e with
   |some size,some bytes,some z=>
    if z.known&&z.cells.length==size&&decide (0<size)&&decide (bytes<=4096)&&decide (0<=n)&&decide (n=m)&&decide (n<=jO) then
     some (.rs σ.objs.length 0 size n.toNat n.toNat,gnew σ (.box e (List.replicate n.toNat z.cells).flatten))
    else none
   |_,_,_=>none
  |none=>none
 |_,_=>none
def XP (x y:GV):Option GV:=
 match x,y with
 |.i k a,.i _ b=>some (.i k (if b<a then b else a))
 |_,_=>none
def XQ (x y:GV):Option GV:=
 match x,y with
 |.i k a,.i _ b=>some (.i k (if b>a then b else a))
 |_,_=>none
def K7 (f:GV->GV->Option GV):GV->List GV->Option GV
 |x,[]=>some x
 |x,y::ys=>(f x y).bind fun z=>K7 f z ys
def N1 (x:GV):Option GV:=
 match x with
 |.sl (.own r) xs=>if !xs.isEmpty&&xs.all (fun x=>x.cells.length==1) then some (.dat r (xs.flatMap GV.cells)) else none
 |_=>none
def XT:GV->Bool
 |.i .u8 n=>decide (0<=n)&&decide (n<256)
 |_=>false
def GH (P:Program) (pt:TypeId) (x n:GV) (σ:GS):Option (GV×GS):=
 match x,n with
 |.dat r cs,.i .i64 n=>match σ.objs[r]?,AE cs with
  |some (.own m _ ty),some l=>
   if n=(l.length:Int)&&m==cs.length&&!l.isEmpty&&decide (σ.lo<=r)&&(ZC P pt==some ty)&&P.cellsOf ty==1&&decide (l.length<=jO)&&cs.all XT then some (.s l,gset σ r .dead) else none
  |_,_=>none
 |_,_=>none
def CJ (P:Program) (t:TypeId) (x:GV) (σ:GS):Option (GV×GS):=
 match x with
 |.rs r off esz n _=>match mB P t with
  |some e=>match fS P e,mA P e,σ.objs[r]? with
   |some size,some z,some (.box T cs)=>
    if sO size z&&decide (esz=size)&&decide (0<size)&&decide (σ.lo<=r)&&decide (off+n*size<=cs.length) then
     some (.tup [],gset σ r (.box T (cs.take off++(List.replicate n z.cells).flatten++cs.drop (off+n*size))))
    else none
   |_,_,_=>none
  |none=>none
 |_=>none
def nP (P:Program) (b:Builtin) (ts:List TypeId) (args:List GV) (σ:GS):Option (GV×GS):=
 match b,ts,args with
 |.len,[t],[x]=>(F6 P t x σ).map fun v=>(v,σ)
 |.append,[t,u],[s,x]=>yI P t u s x σ
 |.unsafeSliceData,_,[x]=>(N1 x).map fun v=>(v,σ)
 |.unsafeString,[pt,_],[x,n]=>GH P pt x n σ
 |.clear,[t],[x]=>CJ P t x σ
 |.min,_,x::xs=>(K7 XP x xs).map fun v=>(v,σ)
 |.max,_,x::xs=>(K7 XQ x xs).map fun v=>(v,σ)
 |_,_,_=>none
def iT (P:Program) (ρ:Operand->GV) (op:Op):Option TC:=
 match op with
 |.assign (.const (.slice none 0 0))=>some (fun r=>.sl (.own r) [],.own 0 0 0)
 |.alloc t=>KH P t
 |.box t x=>a6Y t (ρ x)
 |.buildSlice t len parts=>AF P t len (parts.toList.map fun p=>(p.1,ρ p.2))
 |.makeMap _ none=>some (fun r=>.mp r,.mp [])
 |_=>none
def sS (P:Program) (ρ:Operand->GV) (op:Op) (σ:GS):Option (GV×GS):=
 let pure (x:Option GV):Option (GV×GS):=x.map fun v=>(v,σ);let unit (x:Option GS):Option (GV×GS):=x.map fun s=>(.any,s)
 match op with
 |.move x=>some (ρ x,σ)
 |.assign x=>some (ρ x,σ)
 |.pick c a b=>
  match ρ c with
  |.b t=>some (if t then ρ a else ρ b,σ)
  |_=>none
 |.build t parts=>pure (VD P t (parts.toList.map fun p=>(p.1,ρ p.2)))
 |.load t a=>pure (pO P t (ρ a) σ)
 |.store t a v=>unit (sE P t (ρ a) (ρ v) σ)
 |.nilCheck x=>pure (MX (ρ x))
 |.binOp op t x y _=>pure (H1 P op t (k9 x) (k9 y) (ρ x) (ρ y))
 |.unOp op _ x=>pure (gun op (ρ x))
 |.convert src dst x=>pure (x9 P src dst (ρ x))
 |.makeInterface t x=>pure (CH P t (ρ x))
 |.makeFunc f a c=>some (.fn f (a.toList.map ρ) (c.toList.map ρ),σ)
 |.slice t x lo hi mx=>pure (qR P t (ρ x) (lo.map ρ) (hi.map ρ) (mx.map ρ))
 |.fieldAddr s x f=>pure (CI P s (ρ x) f)
 |.field s x f=>pure (P5 P s (ρ x) f)
 |.indexAddr t x i=>pure (qS P t (ρ x) (ρ i))
 |.makeSlice t l c=>K3 P t (ρ l) (ρ c) σ
 |.index t x i=>pure (F8 P t (ρ x) (ρ i))
 |.lookup t m k ok=>pure (sU P t (ρ m) (ρ k) ok σ)
 |.mapUpdate t m k v|.insert t m k v=>unit (l7 P t (ρ m) (ρ k) (ρ v) σ)
 |.typeAssert x _ t ok=>pure (PE P t ok (ρ x))
 |.extract x i=>pure (K9 (ρ x) i)
 |.call {callee:=.builtin b,args,argTypes}=>nP P b argTypes.toList (args.toList.map ρ) σ
 |_=>none
def uR (P:Program) (ρ:Operand->GV) (op:Op) (σ:GS):Option (GV×GS):=
 match iT P ρ op with
 |some f=>some (f.1 σ.objs.length,gnew σ f.2)
 |none=>sS P ρ op σ
end
section
open Go.RowKit
variable [Globals]
def Runs (P:Program) (C:Cx) (w0 w:World) (σ':GS) (g:GV) (s:Sem Value):Prop:=
 ∃D v w',C.le D/\Rel D σ' w0 w'/\VR D g v/\s.run P w=.ok v w'
section
variable {P : Program} {C : Cx} {σ : GS} {w0 w : World}
theorem Runs.pure {g:GV} {v:Value} {s:Sem Value} (h:Rel C σ w0 w) (hv:VR C g v) (hr:s.run P w=.ok v w):Runs P C w0 w σ g s:=⟨C,v,w,.refl C,h,hv,hr⟩
theorem AW {t:TypeId} {b:Bool} (h:a6v P t=some b) (w:World):(isAgg t).run P w=.ok b w:=by
 unfold a6v at h;unfold isAgg;cases hu:P.underlying t with
 |none=>rw[hu] at h;cases h
 |some d=>
  rw[hu] at h;simp only[Sem.run_bind,run_underlying hu,Result.andThen_ok];cases d<;>simp at h<;>subst h<;>rfl
theorem fK {t:TypeId} {n:Nat} (h:fS P t=some n) (w:World):(sizeOf t).run P w=.ok n w:=by
 unfold fS at h;cases hi:P.info? t with
 |none=>rw[hi] at h;cases h
 |some i=>rw[hi] at h;simp at h;simp[sizeOf,typeInfo,hi,h]
theorem EJ {t:TypeId} {n:Nat} (h:fS P t=some n):∃i,P.info? t=some i/\i.size=n:=by
 unfold fS at h;cases hi:P.info? t with
 |none=>rw[hi] at h;cases h
 |some i=>rw[hi] at h;exact⟨i,rfl,by simpa using h⟩
theorem lN {t e:TypeId} (h:mB P t=some e):P.underlying t=some (.slice e):=by
 unfold mB at h;split at h<;>simp at h;subst h;assumption
theorem I3 {t e:TypeId} {n:Nat} (h:H3 P t=some (n,e)):P.underlying t=some (.array n e):=by
 unfold H3 at h;split at h<;>simp at h;obtain⟨rfl,rfl⟩:=h;assumption
theorem y7 {t k e:TypeId} (h:RE P t=some (k,e)):P.underlying t=some (.map k e):=by
 unfold RE at h;split at h<;>simp at h;obtain⟨rfl,rfl⟩:=h;assumption
theorem N9 {s:TypeId} {f o:Nat} {ft:TypeId} (h:FN P s f=some (o,ft)):∃fs x,P.underlying s=some (.struct fs)/\fs[f]?=some x/\x.offset=o/\x.type=ft:=by
 unfold FN at h;split at h
 ·rename_i fs hu;cases hx:fs[f]? with
  |none=>rw[hx] at h;cases h
  |some x=>rw[hx] at h;simp at h;exact⟨fs,x,hu,hx,h.1,h.2⟩
 ·cases h
theorem DG {t:TypeId} {k:Nat} (h:gT P t=some k):∃d,P.underlying t=some d:=by
 unfold gT at h;cases hu:P.underlying t with
 |none=>rw[hu] at h;cases h
 |some d=>exact⟨d,rfl⟩
theorem m9 {t:TypeId} (h:gT P t=some 1):P.underlying t=some .string:=by
 unfold gT at h;split at h<;>simp at h;assumption
theorem MR {t:TypeId} (h:gT P t=some 2):P.underlying t=some .bool:=by
 unfold gT at h;split at h<;>simp at h;assumption
theorem CC {t:TypeId} (h:gT P t=some 3):∃ms,P.underlying t=some (.interface ms):=by
 unfold gT at h;split at h<;>simp at h;exact⟨_,by assumption⟩
theorem zU {t:TypeId} (h:gT P t=some 4):∃e,P.underlying t=some (.pointer e):=by
 unfold gT at h;split at h<;>simp at h;exact⟨_,by assumption⟩
theorem uD {t:TypeId} (h:gT P t=some 6):∃e,P.underlying t=some (.slice e):=by
 unfold gT at h;split at h<;>simp at h;exact⟨_,by assumption⟩
theorem HR {t:TypeId} {k:IntKind} (h:RQ P t=some k):P.underlying t=some (.int k):=by
 unfold RQ at h;split at h<;>simp at h;subst h;assumption
theorem ML {t:TypeId} {k:Nat} (h:gT P t=some k) (hk:k≠3):∃d,P.underlying t=some d/\∀ms,d≠ .interface ms:=by
 obtain⟨d,hd⟩:=DG h;refine⟨d,hd,fun ms e=>?_⟩;subst e;unfold gT at h;rw[hd] at h;simp at h;exact hk h.symm
theorem LO (C:Cx):∀(n:Nat) (v:Value),VR C (HW n v) v:=by
 intro n;induction n with
 |zero=>intro v;exact .any v
 |succ n ih=>
  intro v;unfold HW;split
  ·exact .b _
  ·exact .i _ _
  ·rename_i s;have:s=⟨s.data.toList.toArray⟩:=by cases s;simp
   rw[this];simpa using VR.s (C:=C) s.data.toList
  ·exact .sl 0 0 0 (fun _=>undef) rfl (rL _) (.inl ⟨rfl,rfl⟩) (fun x hx=>by cases hx) (fun i x j g h=>by simp at h) (fun i x j g h=>by simp at h) ⟨rfl,fun _=>rfl⟩
  ·rename_i vs;refine .agg (by simp) (fun j g u h1 h2=>?_);rw[aK,dO,h2] at h1;cases h1;exact ih u
  ·split
   ·exact .o (by assumption)
   ·exact .any _
theorem gP (C:Cx) (v:Value):VR C (qT v) v:=LO C 3 v
theorem qQ {t:TypeId} {z:GV} (h:mA P t=some z) (w:World):∃v,(zeroValue t).run P w=.ok v w/\z=qT v:=by
 unfold mA at h;cases hi:P.info? t with
 |none=>rw[hi] at h;cases h
 |some i=>
  rw[hi] at h;cases hz:i.zero with
  |none=>rw[cH,hz] at h;cases h
  |some v=>
   rw[cH,hz] at h;cases h;exact⟨v,by simp[zeroValue,typeInfo,hi,hz],rfl⟩
def FRel (C:Cx) (φ:Nat->GV) (a:Act):Prop:=∀t,VR C (φ t) (a.tmps.getD t undef)
theorem FRel.mono {D:Cx} {φ:Nat->GV} {a:Act} (hl:C.le D) (h:FRel C φ a):FRel D φ a:=fun t=>(h t).mono hl
theorem dR {φ:Nat->GV} {a:Act} (h:FRel C φ a) (x:Operand):VR C (dE φ x) (a.eval x):=by
 cases x with
 |tmp t=>exact h t
 |const v=>exact gP C v
 |global g=>exact .glb g 0
 |func f=>exact .fn rfl rfl (fun j g u h=>by simp at h) (fun j g u h=>by simp at h)
theorem GJ {t:TypeId} {cs:List GV} {off:Nat} {g:GV} {vs:Array Value} (hv:VRs C cs vs.toList) (h:wZ P t cs off=some g):
  ∃v,(part t vs off).run P w=.ok v w/\VR C g v:=by
 unfold wZ at h;split at h
 ·rename_i ha;split at h
  ·rename_i n hn;split at h
   ·cases h;refine⟨.agg (vs.extract off (off+n)),by simp[part,AW ha,fK hn],?_⟩;have:=(hv.drop off).take n;have e:(vs.extract off (off+n)).toList=(vs.toList.drop off).take n:=by
     rw[Array.toList_extract,List.extract_eq_take_drop,show off+n - off=n by omega]
    refine .agg (by rw[<-bJ,e];exact this.1) (fun j g u h1 h2=>this.2 j g u h1 ?_);rw[<-e,dO];exact h2
   ·cases h
  ·cases h
 ·rename_i ha;obtain⟨u,hu,hr⟩:=hv.get h;have hu':vs[off]?=some u:=by simpa using hu
  exact⟨u,by simp[part,AW ha,hu'],hr⟩
 ·cases h
theorem L0 {b:Nat}:∀(cs:List GV) (o:Nat),(∀(j:Nat) g,cs[j]?=some g->∃u,w.cell? ⟨b,o+j,none⟩=some u/\VR C g u)->
  ∃us:List Value,VRs C cs us/\∀(j:Nat) u,us[j]?=some u->w.cell? ⟨b,o+j,none⟩=some u
 |[],o,_=>⟨[],VRs.nil,fun j u h=>by simp at h⟩
 |c::cs,o,h=>by
  obtain⟨u,hu,hr⟩:=h 0 c rfl;obtain⟨us,h1,h2⟩:=L0 cs (o+1) (fun j g hg=>by
   obtain⟨u,hu,hr⟩:=h (j+1) g (by simpa using hg);exact⟨u,by rw[show o+1+j=o+(j+1) by omega];exact hu,hr⟩)
  refine⟨u::us,VRs.cons hr h1,fun j v hv=>?_⟩;cases j with
  |zero=>simp at hv;subst hv;exact hu
  |succ j=>rw[show o+(j+1)=o+1+j by omega];exact h2 j v (by simpa using hv)
theorem l9 (b o n:Nat):Addr.add ⟨b,o,none⟩ n=⟨b,o+n,none⟩:=by unfold Addr.add;split<;>simp_all
theorem rY {t:TypeId} {cs:List GV} {b o off:Nat} {g:GV} (hc:∀(j:Nat) g,cs[j]?=some g->∃u,w.cell? ⟨b,o+j,none⟩=some u/\VR C g u)
  (h:wZ P t cs off=some g):∃v,(loadVar t ⟨b,o+off,none⟩).run P w=.ok v w/\VR C g v:=by
 obtain⟨us,hv,hcell⟩:=L0 cs o hc;unfold wZ at h;split at h
 ·rename_i ha;split at h
  ·rename_i n hn;split at h
   ·rename_i hle;cases h;have hv2:=(hv.drop off).take n;have hlen:((us.drop off).take n).length=n:=by rw[hv2.1];simp;omega
    have hrun:=run_loadCells_list (P:=P) w ⟨b,o+off,none⟩ ((us.drop off).take n) (fun j v hj=>by
     rw[l9];rw[dY] at hj;split at hj
     ·rw[gI] at hj;rw[show o+off+j=o+(off+j) by omega];exact hcell _ v hj
     ·cases hj)
    rw[hlen] at hrun;refine⟨.agg ((us.drop off).take n).toArray,by simp[loadVar,AW ha,fK hn,hrun],?_⟩;exact .agg (by simpa using hv2.1) (fun j g u h1 h2=>hv2.2 j g u h1 (by simpa using h2))
   ·cases h
  ·cases h
 ·rename_i ha;obtain⟨u,hu,hr⟩:=hv.get h;exact⟨u,by simp[loadVar,AW ha,hcell off u hu],hr⟩
 ·cases h
theorem IO {us vs:List Value} {off k n:Nat} (hk:off+k<=n) (hn:n<=vs.length) (hu:us.length=k):
  (vs.take off++us++vs.drop (off+k)).take n=(vs.take n).take off++us++(vs.take n).drop (off+k):=by
 subst hu;apply eK;intro j;simp only[dY,List.getElem?_append,aG,aS,gI];repeat' split
 all_goals first
  |rfl
  |(exfalso;omega)
  |(congr 1;omega)
  |(rw[bG];omega)
  |(rw[eq_comm,bG];omega)
theorem BK {cs:List GV} {b:Nat} {vs:Array Value} {T:TypeId} (hb:w.heap[b]?=some (.cells vs T (0,0))) (hv:VRs C cs (vs.toList.take cs.length)):
  ∀(j:Nat) g,cs[j]?=some g->∃u,w.cell? ⟨b,0+j,none⟩=some u/\VR C g u:=fun j g hg=>by
 obtain⟨u,hu,hr⟩:=hv.get hg;rw[dY,aD (List.getElem?_eq_some_iff.1 hg).1] at hu;exact⟨u,by rw[bI,cell_of_row w b j vs T (0,0) hb];simpa using hu,hr⟩
theorem S5 {t:TypeId} {a g:GV} {va:Value} (h:Rel C σ w0 w) (ha:VR C a va) (hg:pO P t a σ=some g):Runs P C w0 w σ g (Instr.loadAt t va):=by
 cases ha with
 |ptr hb=>
  rename_i r off b;simp only[pO] at hg;split at hg
  ·rename_i cs hcs;obtain⟨_,b',vs,h1,h2,h3,_⟩:=h.obj r _ hcs;rw[hb] at h1;cases h1;obtain⟨v,hr,hv⟩:=rY (P:=P) (b:=b) (o:=0) (BK h2 h3) hg;rw[bI] at hr;exact .pure h hv (by simpa[Instr.loadAt,Instr.sureAddr] using hr)
  ·cases hg
 |rp hb=>
  rename_i r off b;simp only[pO,f7] at hg;split at hg
  ·rename_i cs hcs;obtain⟨_,b',vs,h1,h2,h3,_⟩:=h.obj r _ hcs;rw[hb] at h1;cases h1;obtain⟨v,hr,hv⟩:=rY (P:=P) (b:=b) (o:=0) (BK h2 h3) hg;rw[bI] at hr;exact .pure h hv (by simpa[Instr.loadAt,Instr.sureAddr] using hr)
  ·cases hg
 |rs hb hc hp hx=>rw[pO,aC (by omega)] at hg;cases hg
 |snap b o us hx hv=>
  obtain⟨v,hr,hv⟩:=rY (P:=P) (w:=w) (b:=b) (o:=o) (fun j g hj=>⟨_,h.fxc _ _ _ (hx j g hj),hv j g hj⟩) hg;exact .pure h hv (by simpa[Instr.loadAt,Instr.sureAddr] using hr)
 |glb q off=>
  simp only[pO] at hg;split at hg
  ·rename_i cs hcs;obtain⟨v,hr,hv⟩:=rY (P:=P) (w:=w) (C:=C) (b:=q) (o:=0) (fun j x hj=>by
    obtain⟨u,h1,h2⟩:=h.gl q cs j x hcs hj;exact⟨u,by rw[bI];exact h.fxc _ _ _ h1,h2 C fun _ _ _ hx=>hx⟩) hg
   rw[bI] at hr;exact .pure h hv (by simpa[Instr.loadAt,Instr.sureAddr] using hr)
  ·cases hg
 |_=>simp[pO] at hg
theorem JV {t:TypeId} {r off b:Nat} {g:GV} {v:Value} {σ':GS} (h:Rel C σ w0 w) (hb:C.bk r=some b) (hv:VR C g v)
  (hg:kS P t r off g σ=some σ'):
  ∃w',Rel C σ' w0 w'/\(Instr.storeAt t (.pointer (some ⟨b,off,none⟩)) v).run P w=.ok () w':=by
 unfold kS at hg;split at hg
 ·rename_i T cs hcs;split at hg
  ·rename_i hc;cases hg;simp only[aF,aJ] at hc;obtain⟨⟨⟨_,hok⟩,hsz⟩,hlen⟩:=hc;obtain⟨h0,b',vs,h1,h2,h3,hx9⟩:=h.obj r _ hcs;rw[hb] at h1;cases h1;cases hs:fS P t with
   |none=>rw[hs] at hsz;cases hsz
   |some n=>
    rw[hs] at hok;simp only[jL] at hok;have hk:=hv.cells (u7 hok);have hl:=rR hok;have hvl:v.cells.toList.length=n:=by rw[hk.1];exact hl
    have hvs:cs.length<=vs.toList.length:=by have:=h3.1;rw[aS] at this;omega
    have h1c:∀u∈v.cells.toList,u.oneCell'=true:=fun u hu=>by
     obtain⟨j,hj⟩:=List.mem_iff_getElem?.1 hu;have hjl:j<g.cells.length:=by rw[<-hk.1];exact(List.getElem?_eq_some_iff.1 hj).1
     exact(hk.2 j _ u (gL hjl) hj).isCell (EU hok _ (dX hjl))
    have hrun:=run_storeCells_at P b off T v.cells.toList 0 vs w h2 (by rw[hvl];have hvz:vs.toList.length=vs.size:=bJ;omega) h1c;refine⟨_,?_,by
     have hn:v.cells.size=n:=by rw[<-bJ];exact hvl
     have:(Instr.storeAt t (.pointer (some ⟨b,off,none⟩)) v).run P w=(storeCells ⟨b,off,none⟩ v.cells.toList 0).run P w:=by
      simp[Instr.storeAt,Instr.sureAddr,storeVar,fK hs,hn]
     rw[this];exact hrun⟩
    refine Rel.setObj h (List.getElem?_eq_some_iff.1 hcs).1 hb _ ⟨h0,b,_,hb,setRow_heap w b vs _ T (0,0) h2,?_⟩ rfl rfl rfl (by simp) (fun k hk=>setRow_other w b k _ hk);simp only[k4];rw[show v.cells.toList.length=g.cells.length from hk.1];have e1:(cs.take off++g.cells++cs.drop (off+g.cells.length)).length=cs.length:=by simp only[aG,aS,d9];omega
    refine⟨?_,fun hT=>?_⟩
    ·rw[e1];have h4:=((h3.take off).append hk).append (h3.drop (off+g.cells.length));rw[IO hlen hvs hk.1];exact h4
    ·rw[e1,<-hx9 hT];have hkl:v.cells.toList.length=g.cells.length:=hk.1;have hvz:vs.toList.length=vs.size:=bJ;simp only[List.size_toArray,aG,aS,d9];omega
  ·cases hg
 ·cases hg
theorem OT {t:TypeId} {a g:GV} {va v:Value} {σ':GS} (h:Rel C σ w0 w) (ha:VR C a va) (hv:VR C g v) (hg:sE P t a g σ=some σ'):
  ∃w',Rel C σ' w0 w'/\(Instr.storeAt t va v).run P w=.ok () w':=by
 cases ha with
 |ptr hb=>exact JV h hb hv hg
 |rp hb=>exact JV h hb hv (by rw[sE,aD rfl] at hg;exact hg)
 |rs hb hc hp hx=>rw[sE,aC (by omega)] at hg;cases hg
 |_=>simp[sE] at hg
theorem VE {t:TypeId} {x:GV} {v:Value} {f:TC} {r0:Nat} {σ':GS} (h:Rel C σ w0 w) (hv:VR C x v) (hg:a6Y t x=some f) (hx:NewAt C σ r0 f.2 σ'):Runs P C w0 w σ' (f.1 r0) (Instr.box t v):=by
 unfold a6Y at hg;split at hg
 ·rename_i hk;cases hg;obtain⟨hl,hr⟩:=h.newBox x.cells t hx v.cells (hv.cells hk);exact⟨_,_,_,hl,hr,.ptr (aD rfl),by simp[Instr.box,newVar,newRow]⟩
 ·cases hg
theorem PG {t:TypeId} {f:TC} {r0:Nat} {σ':GS} (h:Rel C σ w0 w) (hg:KH P t=some f) (hx:NewAt C σ r0 f.2 σ') (v:Value):Runs P C w0 w σ' (f.1 r0) (Instr.alloc t true v):=by
 unfold KH at hg;split at hg
 ·rename_i z hz;split at hg
  ·rename_i hk;cases hg;obtain⟨u,hu,rfl⟩:=qQ hz w;obtain⟨hl,hr⟩:=h.newBox (qT u).cells t hx u.cells ((gP C u).cells hk);exact⟨_,_,_,hl,hr,.ptr (aD rfl),by simp[Instr.alloc,newVar,newRow,hu]⟩
  ·cases hg
 ·cases hg
theorem P4 {s:TypeId} {x g:GV} {f:Nat} {v:Value} (h:Rel C σ w0 w) (hv:VR C x v) (hg:P5 P s x f=some g):Runs P C w0 w σ g (Instr.field s v f):=by
 cases hv with
 |agg hl hv=>
  rename_i cs vs;unfold P5 at hg;simp only at hg;split at hg
  ·rename_i o ft hf;obtain⟨fs,x,hu,hx,rfl,rfl⟩:=N9 hf;obtain⟨u,hr,hur⟩:=GJ (P:=P) (w:=w) (cs:=cs) (vs:=vs) ⟨by simpa using hl,fun j g u h1 h2=>hv j g u h1 (by simpa using h2)⟩ hg;exact .pure h hur (by simp[Instr.field,run_underlying hu,hx,asAgg,hr])
  ·cases hg
 |_=>simp[P5] at hg
theorem F9 {s:TypeId} {x g:GV} {f:Nat} {v:Value} (h:Rel C σ w0 w) (hv:VR C x v) (hg:CI P s x f=some g):Runs P C w0 w σ g (Instr.fieldAt s v f):=by
 unfold CI at hg;split at hg
 ·rename_i o ft hf;obtain⟨fs,y,hu,hx,rfl,rfl⟩:=N9 hf;split at hg
  ·rename_i n hn;split at hg
   ·cases hg
   ·rename_i hn0;have hp:∀b off:Nat,(Instr.fieldAt s (.pointer (some ⟨b,off,none⟩)) f).run P w=.ok (.pointer (some ⟨b,off+y.offset,none⟩)) w:=fun b off=>by
     simp[Instr.fieldAt,run_underlying hu,hx,Instr.sureAddr,fieldPlace,fK hn,hn0,l9]
    cases hv with
    |ptr hb=>simp at hg;subst hg;exact .pure h (.ptr hb) (hp _ _)
    |rp hb=>simp at hg;subst hg;exact .pure h (.rp hb) (hp _ _)
    |rs hb hc h0 hx=>
     simp only at hg;split at hg
     ·omega
     ·cases hg
    |snap b o us hx hv=>simp at hg;subst hg;exact .pure h (.snap b o us hx hv) (by rw[hp,Nat.add_assoc])
    |glb q off=>simp at hg;subst hg;exact .pure h (.glb _ _) (by rw[hp])
    |_=>simp at hg
  ·cases hg
 ·cases hg
theorem P2 {t:TypeId} {x i g:GV} {vx vi:Value} (h:Rel C σ w0 w) (hx:VR C x vx) (hi:VR C i vi) (hg:F8 P t x i=some g):Runs P C w0 w σ g (Instr.index t vx vi):=by
 unfold F8 at hg;split at hg
 ·rename_i k n;cases hi;split at hg
  ·rename_i h0;cases hx with
   |s l=>
    simp only at hg;split at hg
    ·rename_i hk;cases hb:l[n.toNat]? with
     |none=>rw[hb] at hg;cases hg
     |some c=>
      rw[hb] at hg;cases hg;refine .pure h (.i _ _) ?_;have hlt:n.toNat<l.length:=(List.getElem?_eq_some_iff.1 hb).1;have hget:(ByteArray.mk l.toArray)[n.toNat]?=some c:=by
       have hlt':n.toNat<(ByteArray.mk l.toArray).size:=by simpa[ByteArray.size] using hlt
       rw[ByteArray.getElem?_lt' _ _ hlt'];have hc:=(List.getElem?_eq_some_iff.1 hb).2;have he:(ByteArray.mk l.toArray)[n.toNat]=l[n.toNat]:=rfl;rw[he,hc]
      simp[Instr.index,asIntOf,run_underlying (m9 hk),h0,hget]
    ·cases hg
   |agg hl hv=>
    rename_i cs vs;simp only at hg;split at hg
    ·rename_i len e ha;split at hg
     ·rename_i size hs;split at hg
      ·rename_i hlt;obtain⟨u,hr,hur⟩:=GJ (P:=P) (w:=w) (cs:=cs) (vs:=vs) ⟨by simpa using hl,fun j g u h1 h2=>hv j g u h1 (by simpa using h2)⟩ hg;exact .pure h hur (by simp[Instr.index,asIntOf,run_underlying (I3 ha),h0,hlt,fK hs,hr])
      ·cases hg
     ·cases hg
    ·cases hg
   |_=>simp at hg
  ·cases hg
 ·cases hg
theorem F7 {t : TypeId} {x i g : GV} {vx vi : Value} (h : Rel C σ w0 w) (hx : VR C x vx) (hi : VR C i vi) (hg : qS P t x i = some g) : Runs P C w0 w σ g (Instr.indexAt t vx vi) := by
  unfold qS at hg;split at hg
  · rename_i k n
    cases hi;split at hg
    · rename_i h0
      cases hx with
      | sl esz b off us hn hc ha hw hx hv ht =>
        rename_i k xs a n' c;simp only at hg;split at hg
        · rename_i e he
          split at hg
          · rename_i size y hs hy
            split at hg
            · rename_i hyl
              cases hg;have hlt : n.toNat < xs.length := (List.getElem?_eq_some_iff.1 hy).1;have hesz : esz = size := by rw [← hw y (aE hy)]; exact hyl
              subst hesz;rcases ha with ⟨rfl, rfl⟩ | rfl | h9
              · omega
              rotate_left
              · omega
              · refine .pure h (v := .pointer (some ⟨b, off + n.toNat * esz, none⟩)) (.snap b (off + n.toNat * esz) (fun j => us (n.toNat * esz + j)) (fun j g hj => ?_) (fun j g hj => hv n.toNat y j g hy hj)) ?_
                · exact hx n.toNat y j g hy hj
                · have hlt2 : n < n' := by omega
                  simp [Instr.indexAt, asIntOf, run_underlying (lN he), h0, hlt2, fK hs, l9]
            · cases hg
          · cases hg
        · cases hg
      | ptr hb =>
        simp only at hg;split at hg
        · rename_i len e ha
          split at hg
          · rename_i size hs
            split at hg
            · rename_i hlt
              cases hg;exact .pure h (.ptr hb) (by simp [Instr.indexAt, asIntOf, run_underlying (I3 ha), h0, hlt, fK hs, l9, Instr.sureAddr])
            · cases hg
          · cases hg
        · cases hg
      | glb q off =>
        simp only at hg;split at hg
        · rename_i len e ha
          split at hg
          · rename_i size hs
            split at hg
            · rename_i hlt
              cases hg;exact .pure h (.glb _ _) (by simp [Instr.indexAt, asIntOf, run_underlying (I3 ha), h0, hlt, fK hs, l9, Instr.sureAddr])
            · cases hg
          · cases hg
        · cases hg
      | snap b o us hx hv =>
        simp only at hg;split at hg
        · rename_i len e ha
          split at hg
          · rename_i size hs
            split at hg
            · rename_i hlt
              cases hg;exact .pure h (.snap b o us hx hv) (by simp [Instr.indexAt, asIntOf, run_underlying (I3 ha), h0, hlt, fK hs, l9, Instr.sureAddr, Nat.add_assoc])
            · cases hg
          · cases hg
        · cases hg
      | rp hb => simp only at hg; repeat' split at hg
                 all_goals first | (cases hg; done) | (rename_i hcc; simp only [aF, aJ] at hcc; exfalso; have := hcc.2; omega)
      | rs hb hc hp hx =>
        simp only at hg;split at hg
        · rename_i e he
          split at hg
          · rename_i size hs
            split at hg
            · rename_i hcc
              cases hg;simp only [aF, aJ] at hcc;obtain ⟨rfl, hlt⟩ := hcc;exact .pure h (.rp hb) (by simp [Instr.indexAt, asIntOf, run_underlying (lN he), h0, hlt, fK hs, l9])
            · cases hg
          · cases hg
        · cases hg
      | _ => simp at hg
    · cases hg
  · cases hg
theorem K8 {x g:GV} {i:Nat} {v:Value} (h:Rel C σ w0 w) (hx:VR C x v) (hg:K9 x i=some g):Runs P C w0 w σ g (Instr.extract v i):=by
 cases hx with
 |tup hl hv=>
  rename_i cs vs;have hi:i<cs.length:=(List.getElem?_eq_some_iff.1 hg).1;have hu:vs[i]?=some (vs[i]'(by omega)):=aP (by omega);exact .pure h (hv i g _ hg hu) (by simp[Instr.extract,hu])
 |_=>simp[K9] at hg
theorem F4 {t:TypeId} {x g:GV} {v:Value} (h:Rel C σ w0 w) (hx:VR C x v) (hg:CH P t x=some g):Runs P C w0 w σ g (Instr.makeInterface t v):=by
 unfold CH at hg;split at hg
 ·cases hg
 ·cases hg
 ·rename_i k hk hk3;cases hg;obtain⟨d,hd,hne⟩:=ML hk3 (fun e=>hk e);refine .pure h (.ifc hx) ?_;unfold Instr.makeInterface;simp only[Sem.run_bind,run_underlying hd,Result.andThen_ok];cases d<;>first|rfl|exact absurd rfl (hne _)
theorem LP {t xt:TypeId} {ok:Bool} {x g:GV} {v:Value} (h:Rel C σ w0 w) (hx:VR C x v) (hg:PE P t ok x=some g):Runs P C w0 w σ g (Instr.typeAssert v xt t ok):=by
 unfold PE at hg;split at hg
 ·cases hg
 ·cases hg
 ·rename_i k hk hk3;obtain⟨d,hd,hne⟩:=ML hk3 (fun e=>hk e);have tup2:∀{g1:GV} {v1:Value} {b:Bool},VR C g1 v1->VR C (.tup [g1,.b b]) (.tuple #[v1,.bool b]):=fun{g1} {v1} {b} hg=>by
   have this:VRs C [g1,.b b] [v1,.bool b]:=VRs.cons hg (VRs.cons (VR.b (C:=C) b) VRs.nil);exact .tup rfl (fun j g u h1 h2=>this.2 j g u h1 (by simpa using h2))
  split at hg
  ·rename_i u g1;cases hx with
   |ifc hx=>
    rename_i v1;split at hg
    ·rename_i hut;subst hut;cases hg;cases ok with
     |true=>
      refine .pure h (tup2 hx) ?_;unfold Instr.typeAssert;simp only[Sem.run_bind,run_underlying hd,Result.andThen_ok];cases d<;>first|(simp;done)|exact absurd rfl (hne _)
     |false=>
      refine .pure h hx ?_;unfold Instr.typeAssert;simp only[Sem.run_bind,run_underlying hd,Result.andThen_ok];cases d<;>first|(simp;done)|exact absurd rfl (hne _)
    ·rename_i hut;split at hg
     ·rename_i hok;subst hok;cases hz:mA P t with
      |none=>rw[hz] at hg;cases hg
      |some z=>
       rw[hz] at hg;cases hg;obtain⟨vz,hvz,rfl⟩:=qQ hz w;refine .pure h (tup2 (gP C vz)) ?_;unfold Instr.typeAssert;simp only[Sem.run_bind,run_underlying hd,Result.andThen_ok];cases d<;>first|(simp[hut,hvz];done)|exact absurd rfl (hne _)
     ·cases hg
  ·cases hx with
   |o hp=>
    split at hg
    ·rename_i hok;subst hok;cases hz:mA P t with
     |none=>rw[hz] at hg;cases hg
     |some z=>
      rw[hz] at hg;cases hg;obtain⟨vz,hvz,rfl⟩:=qQ hz w;refine .pure h (tup2 (gP C vz)) ?_;unfold Instr.typeAssert;simp only[Sem.run_bind,run_underlying hd,Result.andThen_ok];cases d<;>first|(simp[hvz];done)|exact absurd rfl (hne _)
    ·cases hg
  ·cases hg
theorem ZQ {op:UnOp} {x g:GV} {v:Value} (h:Rel C σ w0 w) (hx:VR C x v) (hg:gun op x=some g):Runs P C w0 w σ g (Op.unary op v):=by
 unfold gun at hg;split at hg
 ·cases hx;cases hg;exact .pure h (.i _ _) rfl
 ·cases hx;cases hg;exact .pure h (.b _) rfl
 ·cases hx;cases hg;exact .pure h (.i _ _) rfl
 ·cases hg
theorem AD:∀(xs:List GV) (l:List UInt8),AE xs=some l->∃ns:List Int,xs=ns.map (GV.i .u8)/\l=ns.map fun n=>UInt8.ofNat n.toNat
 |[],l,h=>by cases h;exact⟨[],rfl,rfl⟩
 |x::xs,l,h=>by
  unfold AE at h;split at h
  ·rename_i e;cases e
  ·rename_i n r e;cases e;rw[aH] at h;obtain⟨l',hl',rfl⟩:=h;obtain⟨ns,h1,h2⟩:=AD _ l' hl';exact⟨n::ns,by rw[h1];rfl,by rw[h2];rfl⟩
  ·cases h
theorem MA:∀(ns:List Int) (a:List UInt8),ns.foldl (fun(r:ByteArray) n=>r.push (UInt8.ofNat n.toNat)) ⟨a.toArray⟩=⟨(a++ns.map fun n=>UInt8.ofNat n.toNat).toArray⟩
 |[],a=>by simp
 |n::ns,a=>by
  rw[eV];have:(ByteArray.mk a.toArray).push (UInt8.ofNat n.toNat)=⟨(a++[UInt8.ofNat n.toNat]).toArray⟩:=by simp[ByteArray.push]
  rw[this,MA ns];simp
theorem KD {src dst:TypeId} {x g:GV} {v:Value} (h:Rel C σ w0 w) (hx:VR C x v) (hg:x9 P src dst x=some g):Runs P C w0 w σ g (convert src dst v):=by
 unfold x9 at hg;split at hg
 ·rename_i ki n;cases hx;split at hg
  ·rename_i k hk;split at hg
   ·rename_i hs;cases hg;obtain⟨j,hj⟩:=Option.isSome_iff_exists.1 hs;obtain⟨d,hd⟩:=DG hj;refine .pure h (.i _ _) ?_;unfold convert;simp only[Sem.run_bind,run_underlying hd,run_underlying (HR hk),Result.andThen_ok];cases d<;>rfl
   ·cases hg
  ·split at hg
   ·rename_i hs;cases hg;simp only[aF,aJ] at hs;obtain⟨j,hj⟩:=Option.isSome_iff_exists.1 hs.2;obtain⟨d,hd⟩:=DG hj;have:=VR.s (C:=C) (Utf8.encode n).data.toList;refine .pure h this ?_;unfold convert;simp only[Sem.run_bind,run_underlying hd,run_underlying (m9 hs.1),Result.andThen_ok];cases d<;>simp[Conv.intToString]
   ·cases hg
 ·rename_i l;cases hx;split at hg
  ·rename_i hs;cases hg;simp only[aF,aJ] at hs;refine .pure h (.s _) ?_;unfold convert;simp only[Sem.run_bind,run_underlying (m9 hs.2),run_underlying (m9 hs.1),Result.andThen_ok];rfl
  ·split at hg
   ·rename_i e he;split at hg
    ·rename_i hs;cases hg;simp only[aF,aJ] at hs;let s:ByteArray:=⟨l.toArray⟩;have hrun:=Lib.run_convert_string_bytes (P:=P) w src dst e s (m9 hs.2) (lN he) (HR hs.1);have hcell:∀(j:Nat) (b:UInt8),l[j]?=some b->(Lib.bytesWorld w e s).cell? ⟨w.heap.size,j,none⟩=some (.int .u8 b.toNat):=fun j b hj=>by
      have hlt:=(List.getElem?_eq_some_iff.1 hj).1;rw[Lib.bytesWorld_cell w e s j (by show j<l.toArray.size;simpa using hlt)];simp[s,List.getD,hj]
     obtain⟨D,hl,hF,hr⟩:=h.addFx (w':=Lib.bytesWorld w e s) rfl rfl rfl (by rw[Lib.bytesWorld_size];omega) (fun k hk=>Lib.bytesWorld_at_old w e s k hk)
      (fun b o v=>b=w.heap.size/\∃x:UInt8,l[o]?=some x/\v=.int .u8 x.toNat) (fun b o v ⟨e1,x,hx,e2⟩=>by subst e1;subst e2;exact⟨rL _,hcell o x hx⟩)
     refine⟨D,_,_,hl,hr,?_,hrun⟩;have get:∀{i:Nat} {x:GV} {j:Nat} {g:GV},(l.map fun b=>GV.i .u8 b.toNat)[i]?=some x->x.cells[j]?=some g->∃b:UInt8,l[i]?=some b/\j=0/\g=.i .u8 b.toNat:=fun h1 h2=>by
      rw[aK,aH] at h1;obtain⟨b,hb,rfl⟩:=h1;simp only[GV.cells] at h2;rename_i j g;cases j with
      |zero=>simp at h2;exact⟨b,hb,rfl,h2.symm⟩
      |succ j=>simp at h2
     have hsz:s.size=l.length:=by simp[s,ByteArray.size]
     refine .sl 1 w.heap.size 0 (fun i=>.int .u8 (l.getD i 0).toNat) (by simpa using hsz) (grownCap_ge w s.size 0 e) (.inr (.inl rfl)) (fun x hx=>?_) (fun i x j g h1 h2=>?_) (fun i x j g h1 h2=>?_) trivial
     ·obtain⟨b,_,rfl⟩:=List.mem_map.1 hx;rfl
     ·obtain⟨b,hb,rfl,rfl⟩:=get h1 h2;refine hF _ _ _ ⟨rfl,b,?_,?_⟩
      ·simpa using hb
      ·simp[List.getD,hb]
     ·obtain⟨b,hb,rfl,rfl⟩:=get h1 h2;simp only[Nat.mul_one,k4,List.getD,hb,jL];exact .i _ _
    ·cases hg
   ·cases hg
 ·cases hx with
  |sl esz b off us hn hc ha hw hxx hv ht=>
  rename_i k xs a n c;split at hg
  ·rename_i e he;split at hg
   ·rename_i hs;simp only[aF,aJ] at hs;rw[aH] at hg;obtain⟨l,hl,rfl⟩:=hg;obtain⟨ns,rfl,rfl⟩:=AD xs l hl;refine .pure h (.s _) ?_;rw[run_convert_bytes_string w src dst e a n c (lN he) (HR hs.1) (m9 hs.2)];rcases ha with⟨rfl,rfl⟩|rfl|h9
    ·have:ns=[]:=aM (by simp at hn;omega);subst this;simp[Conv.bytesToString];rfl
    rotate_left
    ·have:ns=[]:=aM (by simp at hn;omega);subst this;obtain rfl:n=0:=by omega
     cases a with
     |none=>
      simp[Conv.bytesToString];rfl
     |some q=>
      simp[Conv.bytesToString];rfl
    ·have hone:∀x∈ns.map (GV.i .u8),x.cells.length=1:=fun x hx=>by
      obtain⟨q,_,rfl⟩:=List.mem_map.1 hx;rfl
     have hload:(loadCells ⟨b,off,none⟩ n).run P w=.ok (ns.map (Value.int .u8)).toArray w:=by
      have hlen:n=(ns.map (Value.int .u8)).length:=by simpa using hn
      rw[hlen];refine run_loadCells_list w _ _ (fun j v hj=>?_);rw[aK,aH] at hj;obtain⟨q,hq,rfl⟩:=hj;have hj2:(ns.map (GV.i .u8))[j]?=some (.i .u8 q):=by rw[aK,hq];rfl
      have hesz:esz=1:=by rw[<-hw _ (aE hj2)];rfl
      subst hesz;have h1:=hxx j _ 0 (.i .u8 q) hj2 rfl;have h2:=hv j _ 0 (.i .u8 q) hj2 rfl;rw[Nat.mul_one,k4] at h1 h2;generalize us j=uj at h1 h2;cases h2;rw[l9];exact h.fxc _ _ _ h1
     rw[run_bytesToString w _ n c ns hload];have:=MA ns [];rw[List.nil_append] at this;rw[show ByteArray.empty=⟨([]:List UInt8).toArray⟩ from rfl,this]
   ·cases hg
  ·cases hg
 ·cases hg
end
end
