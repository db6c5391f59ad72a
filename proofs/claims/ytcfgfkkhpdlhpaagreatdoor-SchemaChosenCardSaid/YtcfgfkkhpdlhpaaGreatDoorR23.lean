/-
  A part of the proof of SchemaChosen.
-/
import Derived.Test.YtcfgfkkhpdlhpaaGreatDoorR22
import Derived.Lib.ItoaNum
import Derived.Lib.ItoaLen
set_option linter.all false
set_option maxRecDepth 100000
namespace Go.Proofs.YtcfgfkkhpdlhpaaGreatDoor
open Go.RowKit
def skip (l:List UInt8):List UInt8:=l.dropWhile (· ==32)
theorem z8 (l:List UInt8):(skip l).length<=l.length:=(List.dropWhile_suffix (· ==32)).length_le
theorem mY (c:UInt8) (t:List UInt8):1<=l9 (c::t):=by
 simp only[l9];split
 ·omega
 ·split
  ·omega
  ·split
   ·simp;omega
   ·omega
theorem PY (l:List UInt8):l9 l<=l.length:=by
 cases l with
 |nil=>simp[l9]
 |cons c t=>
  simp only[l9];split
  ·rename_i h;simp only[f5,List.isPrefixOf_iff_prefix] at h;rcases h with(h|h)|h<;>(have:=h.length_le;simpa using this)
  ·split
   ·have:=(gJ (l:=t) d6).length_le;simp;omega
   ·split
    ·omega
    ·simp
def iE (l:List UInt8):List (List UInt8):=
 match h:skip l with
 |[]=>[]
 |c::t=>GU (c::t)::iE ((c::t).drop (l9 (c::t)))
termination_by l.length
decreasing_by
 have h1:=z8 l;have h2:=mY c t;rw[h] at h1;simp at h1⊢;omega
theorem kE {l:List UInt8} (h:skip l=[]):iE l=[]:=by
 rw[iE];split
 ·rfl
 ·rename_i h2;rw[h] at h2;cases h2
theorem mI {l:List UInt8} {c:UInt8} {t:List UInt8} (h:skip l=c::t):iE l=GU (c::t)::iE ((c::t).drop (l9 (c::t))):=by
 rw[iE];split
 ·rename_i h2;rw[h] at h2;cases h2
 ·rename_i c' t' h2;rw[h] at h2;cases h2;rfl
theorem S5 (l:List UInt8):skip (skip l)=skip l:=by
 induction l with
 |nil=>rfl
 |cons c t ih=>
  unfold skip at*;rw[List.dropWhile_cons];split
  ·exact ih
  ·rename_i h;rw[List.dropWhile_cons,aD h]
theorem AX (l:List UInt8):iE (skip l)=iE l:=by
 cases h:skip l with
 |nil=>rw[kE h];exact kE rfl
 |cons c t=>rw[mI h,mI (l:=c::t) (by rw[<-h,S5])]
theorem E3 (s:List UInt8) (n:Nat):s.drop (nb s n)=skip (s.drop n):=by
 unfold nb skip;rw[<-iX];generalize s.drop n=l;induction l with
 |nil=>rfl
 |cons c t ih=>
  rw[eV,List.dropWhile_cons];split
  ·simpa using ih
  ·simp
theorem a0D {s:List UInt8} {n:Nat} (hn:n<=s.length):nb s n<=s.length:=by
 have:=(gJ (l:=s.drop n) (· ==32)).length_le;simp at this;unfold nb;omega
def At (s:List UInt8) (n:Nat) (ts:List (List UInt8)):Prop:=n<=s.length/\iE (s.drop n)=ts
theorem At.nb {s:List UInt8} {n:Nat} {ts:List (List UInt8)} (h:At s n ts):At s (nb s n) ts:=⟨a0D h.1,by rw[E3,AX];exact h.2⟩
theorem At.head {s:List UInt8} {n:Nat} {ts:List (List UInt8)} (h:At s n ts):GU (s.drop (Go.Proofs.YtcfgfkkhpdlhpaaGreatDoor.nb s n))=ts.headD []:=by
 rw[E3];cases hk:skip (s.drop n) with
 |nil=>rw[<-h.2,kE hk];rfl
 |cons c t=>rw[<-h.2,mI hk];rfl
theorem At.tail {s:List UInt8} {n:Nat} {w:List UInt8} {ts:List (List UInt8)} (h:At s n (w::ts)):1<=w.length/\At s (Go.Proofs.YtcfgfkkhpdlhpaaGreatDoor.nb s n+w.length) ts:=by
 have h2:=h.2;have hd:=E3 s n;cases hk:skip (s.drop n) with
 |nil=>rw[kE hk] at h2;cases h2
 |cons c t=>
  rw[mI hk] at h2;cases h2;rw[hk] at hd;have hl:(GU (c::t)).length=l9 (c::t):=by unfold GU;rw[bQ];exact Nat.min_eq_left (PY _)
  have hp:=mY c t;have hle:=PY (c::t);have hnl:=a0D h.1;have hlen:(s.drop (Go.Proofs.YtcfgfkkhpdlhpaaGreatDoor.nb s n)).length=(c::t).length:=by rw[hd]
  rw[cV] at hlen;refine⟨by omega,by omega,?_⟩;rw[<-iX,hd,hl]
theorem kT [MaxL] (s:List UInt8) (n:Nat) (d:Int) {ts:List (List UInt8)} (h:At s n ts) (hs:s.length<bB):
  SC Tryz.prog 258 [.ptr 0 0] [rd s n d] (.val (.s (ts.headD []))) [rd s (nb s n) d]:=by
 have:=a1O s n d h.1 hs;rw[h.head] at this;exact this
theorem sR [MaxL] (s:List UInt8) (n:Nat) (d:Int) {w:List UInt8} {ts:List (List UInt8)} (h:At s n (w::ts)) (hs:s.length<bB):
  SC Tryz.prog 295 [.ptr 0 0,.s w] [rd s n d] (.val (.b true)) [rd s (nb s n+w.length) d]:=by
 have hw:=kT s n d h hs;obtain⟨h1,h2,_⟩:=h.tail;unfold bB at hs;refine cX Tryz.func295 rfl ?_;conv=>whnf
 refine rI (q:=0) hw ?_;conv=>whnf
 refine aF (fun hc=>?_) (fun hc=>?_)<;>conv=>whnf
 ·simp at hc
 ·refine⟨[.i .i64 (nb s n+w.length:Nat)],⟨?_,rL _,rfl,bL rfl⟩,?_⟩
  ·rw[bU (by omega) (by omega)];rfl
  ·(conv=>whnf);exact rQ rfl rfl (fun _=>rfl)
theorem DK [MaxL] (s:List UInt8) (n:Nat) (d:Int) {w:List UInt8} {ts:List (List UInt8)} (h:At s n ts) (hs:s.length<bB) (hne:ts.headD []≠w):
  SC Tryz.prog 295 [.ptr 0 0,.s w] [rd s n d] (.val (.b false)) [rd s (nb s n) d]:=by
 have hw:=kT s n d h hs;unfold bB at hs;refine cX Tryz.func295 rfl ?_;conv=>whnf
 refine rI (q:=0) hw ?_;conv=>whnf
 refine aF (fun hc=>?_) (fun hc=>?_)<;>conv=>whnf
 ·exact rQ rfl rfl (fun _=>rfl)
 ·exact absurd (by simpa using hc) hne
end Go.Proofs.YtcfgfkkhpdlhpaaGreatDoor
namespace Go.Proofs.YtcfgfkkhpdlhpaaGreatDoor
abbrev By:=List UInt8
structure Term where
 name:By
 var:Bool
 v:Val
 deriving DecidableEq
inductive Tree where
 |pair (a:Bool) (l r:Tree)
 |no (t:Tree)
 |test (op:By) (l r:Term)
 |truth (b:Bool)
def AU:By:=[111,114]
def mZ:By:=[97,110,100]
def jX:By:=[110,111,116]
def kV:By:=[116,114,117,101]
def jN:By:=[102,97,108,115,101]
def SG:List By:=[[61],[60,62],[60],[60,61],[62],[62,61]]
def mL (w:By):Bool:=SG.contains w
def v0:Val:=⟨0,0,[]⟩
def fV (lit:By->Option Val):List By->Option (Term×List By)
 |[]=>none
 |w::ts=>
  if w=[58] then match fV lit ts with
   |some (t,r)=>if t.name=[]∨t.var=true then none else some (⟨t.name,true,t.v⟩,r)
   |none=>none
  else if fP w&&!a2B.contains w then some (⟨w,false,v0⟩,ts)
  else match lit w with
   |some v=>some (⟨[],false,v⟩,ts)
   |none=>none
inductive Md where
 |or|orL (n:Tree)|and|andL (n:Tree)|not|prim
def Md.rk:Md->Nat
 |.or=>4
 |.and=>3
 |.not=>2
 |.prim=>1
 |_=>0
def bP (lit:By->Option Val):Nat->Md->Nat->Nat->List By->Option (Tree×List By×Nat)
 |0,_,_,_,_=>none
 |f+1,.or,lv,d,ts=>match bP lit f .and lv d ts with
  |some (n,r,e)=>bP lit f (.orL n) lv e r
  |none=>none
 |f+1,.orL n,lv,d,ts=>if ts.headD []=AU then match bP lit f .and lv d ts.tail with
   |some (m,r,e)=>bP lit f (.orL (.pair false n m)) lv e r
   |none=>none
  else some (n,ts,d)
 |f+1,.and,lv,d,ts=>match bP lit f .not lv d ts with
  |some (n,r,e)=>bP lit f (.andL n) lv e r
  |none=>none
 |f+1,.andL n,lv,d,ts=>if ts.headD []=mZ then match bP lit f .not lv d ts.tail with
   |some (m,r,e)=>bP lit f (.andL (.pair true n m)) lv e r
   |none=>none
  else some (n,ts,d)
 |f+1,.not,lv,d,ts=>if ts.headD []=jX then match bP lit f .prim (lv+1) (max d (lv+1)) ts.tail with
   |some (n,r,e)=>some (.no n,r,e)
   |none=>none
  else bP lit f .prim lv d ts
 |f+1,.prim,lv,d,ts=>
  if ts.headD []=kV then some (.truth true,ts.tail,d)
  else if ts.headD []=jN then some (.truth false,ts.tail,d)
  else if ts.headD []=[40] then match bP lit f .or (lv+1) (max d (lv+1)) ts.tail with
   |some (n,r,e)=>if r.headD []=[41] then some (n,r.tail,e) else none
   |none=>none
  else match fV lit ts with
   |some (a,r)=>if mL (r.headD []) then match fV lit r.tail with
     |some (b,r')=>some (.test (r.headD []) a b,r',d)
     |none=>none
    else none
   |none=>none
theorem pR {lit:By->Option Val}:∀{ts r:List By} {t:Term},fV lit ts=some (t,r)->r.length<ts.length
 |[],r,t,h=>by cases h
 |w::ts,r,t,h=>by
  unfold fV at h;split at h
  ·split at h
   ·rename_i h1;split at h
    ·cases h
    ·cases h;have:=pR h1;simp;omega
   ·cases h
  ·split at h
   ·cases h;simp
   ·split at h
    ·cases h;simp
    ·cases h
def Md.loop:Md->Bool
 |.orL _=>true
 |.andL _=>true
 |_=>false
theorem fS {ts:List By} {w:By} (h:ts.headD []=w) (hw:w≠[]):∃r,ts=w::r:=by
 cases ts with
 |nil=>exact absurd h.symm hw
 |cons a r=>exact⟨r,by rw[<-h];rfl⟩
theorem iU {lit:By->Option Val}:∀(f:Nat) (m:Md) (lv d:Nat) (ts r:List By) (t:Tree) (e:Nat),bP lit f m lv d ts=some (t,r,e)->
  r.length<=ts.length/\(m.loop=false->r.length<ts.length)/\d<=e/\e<=max d (lv+ts.length)
 |0,m,lv,d,ts,r,t,e,h=>by cases h
 |f+1,.or,lv,d,ts,r,t,e,h=>by
  unfold bP at h;split at h
  ·rename_i n r1 e1 h1;have a:=iU f _ _ _ _ _ _ _ h1;have b:=iU f _ _ _ _ _ _ _ h;have a2:=a.2.1 rfl;refine⟨?_,fun _=>?_,?_,?_⟩<;>omega
  ·cases h
 |f+1,.orL n,lv,d,ts,r,t,e,h=>by
  unfold bP at h;split at h
  ·rename_i hd;obtain⟨r0,rfl⟩:=fS hd (by decide);split at h
   ·rename_i n r1 e1 h1;have a:=iU f _ _ _ _ _ _ _ h1;have b:=iU f _ _ _ _ _ _ _ h;simp only[gS,aJ] at*;exact⟨by omega,(fun h=>by cases h),by omega,by omega⟩
   ·cases h
  ·cases h;exact⟨rL _,(fun h=>by cases h),by omega,by omega⟩
 |f+1,.and,lv,d,ts,r,t,e,h=>by
  unfold bP at h;split at h
  ·rename_i n r1 e1 h1;have a:=iU f _ _ _ _ _ _ _ h1;have b:=iU f _ _ _ _ _ _ _ h;have a2:=a.2.1 rfl;refine⟨?_,fun _=>?_,?_,?_⟩<;>omega
  ·cases h
 |f+1,.andL n,lv,d,ts,r,t,e,h=>by
  unfold bP at h;split at h
  ·rename_i hd;obtain⟨r0,rfl⟩:=fS hd (by decide);split at h
   ·rename_i n r1 e1 h1;have a:=iU f _ _ _ _ _ _ _ h1;have b:=iU f _ _ _ _ _ _ _ h;simp only[gS,aJ] at*;exact⟨by omega,(fun h=>by cases h),by omega,by omega⟩
   ·cases h
  ·cases h;exact⟨rL _,(fun h=>by cases h),by omega,by omega⟩
 |f+1,.not,lv,d,ts,r,t,e,h=>by
  unfold bP at h;split at h
  ·rename_i hd;obtain⟨r0,rfl⟩:=fS hd (by decide);split at h
   ·rename_i n r1 e1 h1;cases h;have a:=iU f _ _ _ _ _ _ _ h1;have a2:=a.2.1 rfl;simp only[gS,aJ] at*;refine⟨?_,fun _=>?_,?_,?_⟩<;>omega
   ·cases h
  ·have a:=iU f _ _ _ _ _ _ _ h;exact⟨a.1,fun _=>a.2.1 rfl,a.2.2⟩
 |f+1,.prim,lv,d,ts,r,t,e,h=>by
  unfold bP at h;split at h
  ·rename_i hd;obtain⟨r0,rfl⟩:=fS hd (by decide);cases h;simp only[gS,aJ] at*;refine⟨?_,fun _=>?_,?_,?_⟩<;>omega
  ·split at h
   ·rename_i hd;obtain⟨r0,rfl⟩:=fS hd (by decide);cases h;simp only[gS,aJ] at*;refine⟨?_,fun _=>?_,?_,?_⟩<;>omega
   ·split at h
    ·rename_i hd;obtain⟨r0,rfl⟩:=fS hd (by decide);split at h
     ·rename_i n r1 e1 h1;have a:=iU f _ _ _ _ _ _ _ h1;have a2:=a.2.1 rfl;split at h
      ·rename_i hr;obtain⟨r2,rfl⟩:=fS hr (by decide);cases h;simp only[gS,aJ] at*;refine⟨?_,fun _=>?_,?_,?_⟩<;>omega
      ·cases h
     ·cases h
    ·split at h
     ·rename_i a r1 h1;have l1:=pR h1;split at h
      ·split at h
       ·rename_i b r2 h2;have l2:=pR h2;cases h;simp only[List.length_tail] at*;refine⟨?_,fun _=>?_,?_,?_⟩<;>omega
       ·cases h
      ·cases h
     ·cases h
def dR (n:Nat):UInt8:=if n<10 then UInt8.ofNat (48+n) else UInt8.ofNat (87+n)
def mC (c:UInt8):By:=if c=34∨c=92 then[92,c] else if c.toNat<32∨126<c.toNat then[92,120,dR (c.toNat / 16),dR (c.toNat%16)] else[c]
def oL (s:By):By:=34::(s.flatMap mC++[34])
def eW (v:Val):By:=if v.k=1 then Lib.itoa v.n else oL v.s
def OQ (v:Val):By:=if v.ok then eW v else[]
def Term.txt (t:Term):By:=if t.var then 58::t.name else if t.name≠[] then t.name else OQ t.v
def kX (a:Bool):Nat:=if a then 2 else 1
def Tree.level:Tree->Nat
 |.pair a _ _=>kX a
 |.no _=>3
 |.test _ _ _=>4
 |.truth _=>4
def kW (a:Bool):By:=if a then 32::(mZ++[32]) else 32::(AU++[32])
def paren (b:Bool) (s:By):By:=if b then 40::(s++[41]) else s
def Tree.plain:Tree->By
 |.pair a l r=>paren (decide (l.level<kX a)) l.plain++kW a++paren (decide (r.level<kX a)) r.plain
 |.no t=>jX++[32]++paren (decide (t.level<4)) t.plain
 |.test op l r=>l.txt++[32]++op++[32]++r.txt
 |.truth b=>if b then kV else jN
def Tree.deep:Tree->Nat->Nat
 |.pair a l r,k=>(if kX a<k then 1 else 0)+max (l.deep (kX a)) (r.deep (kX a))
 |.no t,k=>(if 3<k then 1 else 0)+1+t.deep 4
 |_,k=>if 4<k then 1 else 0
def r4 (a:Bool):Option Tree->Tree->Tree
 |none,t=>t
 |some x,t=>.pair a x t
def dV (a:Bool) (acc:Option Tree):Tree->Tree
 |.pair b l r=>if a=b then dV a (some (dV a acc l)) r else r4 a acc (dV b (some (dV b none l)) r)
 |.no t=>r4 a acc (.no (dV true none t))
 |t=>r4 a acc t
def Tree.flat (t:Tree):Tree:=dV true none t
def Tree.sides (a:Bool):Tree->List Tree
 |.pair b l r=>if a=b then l.sides a++r.sides a else[.pair b l r]
 |t=>[t]
theorem GD (a b:Bool) (t:Tree):dV a none t=dV b none t:=by
 cases t with
 |pair c l r=>
  unfold dV;cases a<;>cases b<;>cases c<;>rfl
 |_=>rfl
theorem KI (a:Bool) (t:Tree):t.flat=dV a none t:=GD true a t
theorem wO (a:Bool):∀(t:Tree) (acc:Option Tree),some (dV a acc t)=(t.sides a).foldl (fun q x=>some (r4 a q x.flat)) acc
 |.pair b l r,acc=>by
  unfold dV Tree.sides;by_cases h:a=b
  ·rw[aG h,aG h,List.foldl_append,<-wO a l acc,<-wO a r]
  ·rw[aD h,aD h];show _=some (r4 a acc (Tree.pair b l r).flat);rw[KI b];congr 2;conv=>rhs;unfold dV
   rw[aG rfl]
 |.no t,acc=>rfl
 |.test _ _ _,acc=>rfl
 |.truth _,acc=>rfl
theorem qL (a:Bool) (t:Tree):t.sides a≠[]:=by
 induction t with
 |pair b l r ihl ihr=>
  unfold Tree.sides;split
  ·simp[ihl]
  ·simp
 |_=>simp[Tree.sides]
def Tree.size:Tree->Nat
 |.pair _ l r=>l.size+r.size+1
 |.no t=>t.size+1
 |_=>1
theorem uE {a:Bool}:∀{t x:Tree},x∈t.sides a->x.size<=t.size
 |.pair b l r,x,h=>by
  unfold Tree.sides at h;split at h
  ·rcases List.mem_append.1 h with h|h
   ·have:=uE h;simp only[Tree.size];omega
   ·have:=uE h;simp only[Tree.size];omega
  ·simp at h;subst h;exact rL _
 |.no t,x,h=>by simp[Tree.sides] at h;subst h;exact rL _
 |.test _ _ _,x,h=>by simp[Tree.sides] at h;subst h;exact rL _
 |.truth _,x,h=>by simp[Tree.sides] at h;subst h;exact rL _
theorem EK {a:Bool} {l r x:Tree} (h:x∈(Tree.pair a l r).sides a):x.size<(Tree.pair a l r).size:=by
 unfold Tree.sides at h;rw[aG rfl] at h;rcases List.mem_append.1 h with h|h
 ·have:=uE h;simp only[Tree.size];omega
 ·have:=uE h;simp only[Tree.size];omega
theorem IE (a:Bool) (l r:Tree):∃x xs,(Tree.pair a l r).sides a=x::xs/\(Tree.pair a l r).flat=xs.foldl (fun q y=>.pair a q y.flat) x.flat:=by
 cases h:(Tree.pair a l r).sides a with
 |nil=>exact absurd h (qL _ _)
 |cons x xs=>
  refine⟨x,xs,rfl,?_⟩;have:=wO a (.pair a l r) none;rw[h] at this;rw[KI a];have key:∀(ys:List Tree) (q:Tree),ys.foldl (fun q x=>some (r4 a q x.flat)) (some q)=some (ys.foldl (fun q y=>.pair a q y.flat) q):=by
   intro ys;induction ys with
   |nil=>intro q;rfl
   |cons y ys ih=>intro q;exact ih _
  rw[gX] at this;rw[show(r4 a none x.flat)=x.flat from rfl,key] at this;exact aY this
open Go.RowKit
theorem TP [MaxL] (l:List UInt8):SC Tryz.prog 331 [.s l] [] (.val (.fn (.func 340) [] [.ptr 0 0])) [.box 9 [.s l]]:=by
 refine cR pU mixed Tryz.func331 rfl (bL rfl) (by simp) rfl ?_;conv=>whnf
 refine⟨[0],Lies.one rfl (fun _=>rfl) (by simp),fun i hi=>absurd hi (dG i),?_⟩;show Wk _ (GV.fn _ [] [.ptr (jI [0] 1 0) 0]);rw[kS (by simp)];exact .refl _
def WI:List UInt8:=[48,49,50,51,52,53,54,55,56,57,97,98,99,100,101,102]
theorem CM:∀n:Fin 256,0<=((n:Nat):Int).fdiv (2^min (Int.toNat 4) IntKind.u8.bits)/\WI[(((n:Nat):Int).fdiv (2^min (Int.toNat 4) IntKind.u8.bits)).toNat]?=some (dR ((n:Nat) / 16))/\
  (Utf8.encode ((dR ((n:Nat) / 16)).toNat:Int)).data.toList=[dR ((n:Nat) / 16)]:=by decide+kernel
theorem CL:∀n:Fin 256,0<=bits .and .u8 ((n:Nat):Int) 15/\WI[(bits .and .u8 ((n:Nat):Int) 15).toNat]?=some (dR ((n:Nat)%16))/\
  (Utf8.encode ((dR ((n:Nat)%16)).toNat:Int)).data.toList=[dR ((n:Nat)%16)]:=by decide+kernel
theorem AB (l:List UInt8):(l.flatMap mC).length<=4*l.length:=by
 induction l with
 |nil=>simp
 |cons c l ih=>
  rw[f9,aE,aJ];have:(mC c).length<=4:=by unfold mC;split;simp;split<;>simp
  omega
def U4 (vc:List GV) (s:List UInt8) (L:GObj) (bs:List UInt8):List GObj:=[.box 138 vc,gW 1 2 bs,m6 bs.length,.box 9 [.s s],.dfr,L]
theorem PU [MaxL] (vc:List GV) (s:List UInt8) (L:GObj) (hL:L.notHeld=true) (hs:s.length<100000) (bs0:List UInt8) (h0:bs0.length<100)
  (hb:∀bs e:List UInt8,bs.length+e.length<1000000000->Fact Tryz.prog (.yld 5) [.s e] ⟨U4 vc s L bs,0,[]⟩ (.val (.b true)) ⟨U4 vc s L (bs++e),0,[]⟩):
  SC Tryz.prog 340 [.yld 5,.ptr 3 0] (U4 vc s L bs0) (.val (.tup [])) (U4 vc s L (bs0++s.flatMap mC)):=by
 refine cR pU mixed Tryz.func340 rfl (bL rfl) (by simp[U4]) (by simp only[U4,List.all_cons,hL];rfl) ?_;conv=>whnf
 refine cW (fun i:Nat=>i<=s.length) (fun i=>[(0,.yld 5),(1,.ptr 3 0),(7,.i .i64 s.length),(8,.i .i64 i)]) (fun i=>⟨U4 vc s L (bs0++(s.take i).flatMap mC),0,[]⟩) (fun i=>s.length - i) 0 (zL _) ⟨rfl,rfl,rfl,rfl,trivial⟩ (by simp) (fun i φ0 hi=>?_);conv=>whnf
 refine aF (fun h=>?_) (fun h=>?_)<;>conv=>whnf
 ·have hlt:i<s.length:=by simp at h;omega
  have hgi:s[i]?=some (s.getD i 0):=by rw[aO,gL hlt];rfl
  have htk:(s.take (i+1)).flatMap mC=(s.take i).flatMap mC++mC (s.getD i 0):=by
   rw[bR,hgi,List.flatMap_append];simp
  have hlen:((s.take i).flatMap mC).length<=4*i:=by
   have:=AB (s.take i);rw[bQ] at this;omega
  have w1:IntKind.i64.wrap ((i:Int)+1)=((i+1:Nat):Int):=bU (by omega) (by omega);generalize hc:s.getD i 0=c at*;refine⟨cN _,?_⟩;conv=>whnf
  refine⟨by rw[w1];omega,?_⟩;conv=>whnf
  refine⟨⟨by rw[w1];omega,by rw[w1];omega⟩,[c],?_,?_⟩
  ·rw[w1,aA,aA,aT hlt,show i+1 - i=1 by omega];rw[gL hlt] at hgi;cases hgi;rfl
  conv=>whnf
  refine⟨cN _,c,by simpa using hgi,?_⟩;conv=>whnf
  refine aF (fun h34=>?_) (fun h34=>?_)<;>conv=>whnf
  ·refine⟨by simp[sU],[92,c],rfl,?_⟩;(conv=>whnf);refine ND (hb _ [92,c] (by rw[aE];simp only[aJ,b4];omega)) ?_;(conv=>whnf);refine eP (i+1) hlt (by omega) ⟨rfl,rfl,rfl,b7 (by omega),trivial⟩ ?_;rw[htk,<-bF,show mC c=[92,c] from aG (.inl (iT (d:=34) h34))]
  refine aF (fun h92=>?_) (fun h92=>?_)<;>conv=>whnf
  ·refine⟨by simp[sU],[92,c],rfl,?_⟩;(conv=>whnf);refine ND (hb _ [92,c] (by rw[aE];simp only[aJ,b4];omega)) ?_;(conv=>whnf);refine eP (i+1) hlt (by omega) ⟨rfl,rfl,rfl,b7 (by omega),trivial⟩ ?_;rw[htk,<-bF,show mC c=[92,c] from aG (.inr (iT (d:=92) h92))]
  have hn34:=jO (d:=34) h34;have hn92:=jO (d:=92) h92;have e1:∀{x y:List UInt8},(if c=34∨c=92 then x else y)=y:=fun{x y}=>aD (by simp[hn34,hn92]);refine aF (fun h32=>?_) (fun h32=>?_)<;>conv=>whnf
  ·skip;refine b6 (by kernel_rfl) ?_;(conv=>whnf);refine⟨by decide,?_⟩;(conv=>whnf);refine⟨(CM ⟨c.toNat,bW c⟩).1,dR (c.toNat / 16),(CM ⟨c.toNat,bW c⟩).2.1,?_⟩;(conv=>whnf);refine⟨by rw[(CM ⟨c.toNat,bW c⟩).2.2];simp[sU],[92,120,dR (c.toNat / 16)],by rw[(CM ⟨c.toNat,bW c⟩).2.2];rfl,?_⟩;(conv=>whnf);refine⟨(CL ⟨c.toNat,bW c⟩).1,dR (c.toNat%16),(CL ⟨c.toNat,bW c⟩).2.1,?_⟩;(conv=>whnf);refine⟨by rw[(CL ⟨c.toNat,bW c⟩).2.2];simp[sU],[92,120,dR (c.toNat / 16),dR (c.toNat%16)],by rw[(CL ⟨c.toNat,bW c⟩).2.2];rfl,?_⟩;(conv=>whnf);refine ND (hb _ [92,120,dR (c.toNat / 16),dR (c.toNat%16)] (by rw[aE];simp only[aJ,b4];omega)) ?_;(conv=>whnf);refine eP (i+1) hlt (by omega) ⟨rfl,rfl,rfl,b7 (by omega),trivial⟩ ?_;rw[htk,<-bF,show mC c=[92,120,dR (c.toNat / 16),dR (c.toNat%16)] from(e1).trans (aG (by simp at h32;omega))]
  refine aF (fun h126=>?_) (fun h126=>?_)<;>conv=>whnf
  ·skip;refine b6 (by kernel_rfl) ?_;(conv=>whnf);refine⟨by decide,?_⟩;(conv=>whnf);refine⟨(CM ⟨c.toNat,bW c⟩).1,dR (c.toNat / 16),(CM ⟨c.toNat,bW c⟩).2.1,?_⟩;(conv=>whnf);refine⟨by rw[(CM ⟨c.toNat,bW c⟩).2.2];simp[sU],[92,120,dR (c.toNat / 16)],by rw[(CM ⟨c.toNat,bW c⟩).2.2];rfl,?_⟩;(conv=>whnf);refine⟨(CL ⟨c.toNat,bW c⟩).1,dR (c.toNat%16),(CL ⟨c.toNat,bW c⟩).2.1,?_⟩;(conv=>whnf);refine⟨by rw[(CL ⟨c.toNat,bW c⟩).2.2];simp[sU],[92,120,dR (c.toNat / 16),dR (c.toNat%16)],by rw[(CL ⟨c.toNat,bW c⟩).2.2];rfl,?_⟩;(conv=>whnf);refine ND (hb _ [92,120,dR (c.toNat / 16),dR (c.toNat%16)] (by rw[aE];simp only[aJ,b4];omega)) ?_;(conv=>whnf);refine eP (i+1) hlt (by omega) ⟨rfl,rfl,rfl,b7 (by omega),trivial⟩ ?_;rw[htk,<-bF,show mC c=[92,120,dR (c.toNat / 16),dR (c.toNat%16)] from(e1).trans (aG (by simp at h126;omega))]
  refine ND (hb _ [c] (by rw[aE];simp only[aJ,b4];omega)) ?_;conv=>whnf
  refine eP (i+1) hlt (by omega) ⟨rfl,rfl,rfl,b7 (by omega),trivial⟩ ?_;rw[htk,<-bF,show mC c=[c] from(e1).trans (aD (by simp at h32 h126;omega))]
 ·have:i=s.length:=by simp at h;omega
  subst this;rw[b5];refine⟨List.range 6,Lies.all (U4 vc s L (bs0++s.flatMap mC)) (fun x hx e=>?_),fun j hj=>?_,?_⟩
  ·subst e;simp[U4,gW,m6] at hx;subst hx;cases hL
  ·have:j<6:=hj;simp[this]
  ·exact .refl _
theorem TN [MaxL] (v:Val) (hv:v.s.length<100000) (h0: -9223372036854775808<=v.n) (h1:v.n<=9223372036854775807):SC Tryz.prog 320 [v.gv] [] (.val (.s (eW v))) []:=by
 obtain⟨k,n,s⟩:=v;refine cX Tryz.func320 rfl ?_;conv=>whnf
 refine aF (fun hk=>?_) (fun hk=>?_)<;>conv=>whnf
 ·have:k=1:=by simpa using hk
  subst this;refine lX (KV n h0 h1) ?_;conv=>whnf
  exact gG rfl
 ·have:k≠1:=by simpa using hk
  refine tW (AN 34) [1] (objs':=[.box 138 [.i .i64 k,.i .i64 n,.s s],gW 1 2 [34],m6 1]) (Lies.one' rfl (by simp[AO])) (wR _) rfl rfl rfl rfl ?_;conv=>whnf
  refine tW (TP s) [] (objs':=[.box 138 [.i .i64 k,.i .i64 n,.s s],gW 1 2 [34],m6 1,.box 9 [.s s]]) Lies.nil (wR _) rfl rfl rfl rfl ?_;conv=>whnf
  have hv':s.length<100000:=hv;refine⟨.val (.tup []),⟨U4 [.i .i64 k,.i .i64 n,.s s] s (.loop .ready none _ _ _ _ _ 4) ([34]++s.flatMap mC),0,[.coll 4]⟩,SC.factAll (PU [.i .i64 k,.i .i64 n,.s s] s (.loop .ready none _ _ _ _ _ 4) rfl (by omega) [34] (by simp) (fun bs e hl=>?hb)) rfl rfl ?hh,?_⟩
  case hb=>
   refine Fact.yld pU mixed (r:=5) rfl rfl (by kernel_rfl) rfl rfl (rL _) rfl rfl ?_;(conv=>whnf);refine ZL hl rfl ?_;(conv=>whnf);rfl
  case hh=>
   intro x hx e;subst e;simp[U4,gW,m6] at hx
  have hlen:=AB s;conv=>whnf
  refine ZM (bs:=[34]++s.flatMap mC) (c:=34) (by rw[aE];simp only[aJ,b4];omega) rfl ?_;conv=>whnf
  refine X6 (M:=fun _=>false) (c:=34) (t:=s.flatMap mC++[34]) (by rw[aE];simp only[aJ,b4];omega) rfl ?_;conv=>whnf
  refine gG ?_;unfold eW;rw[aD this];rfl
def j7 (vs:List Val):List UInt8:=Lib.join (vs.map eW) [44]
theorem HU {v:Val} (h:v.ok=true): -1000000000<=v.n/\v.n<=1000000000/\v.s.length<=40:=by
 simp[Val.ok] at h;rcases h with⟨⟨⟨_,h1⟩,h2⟩,h3⟩|⟨⟨_,h2⟩,h3⟩
 ·refine⟨h2,h3,by rw[h1];simp⟩
 ·refine⟨by omega,by omega,h3⟩
theorem p8 [MaxL] {e:Nat->Nat} {r:Nat} {l:List GV} (h:e r=r) (hl:ClL l):(GV.sl (.own r) l).ren e=.sl (.own r) l:=by
 rw[GV.ren,cK,hl e];show GV.sl (.own (e r)) l=_;rw[h]
def ow (T:TypeId) (k:Nat):Nat->GObj
 |0=>.own 0 0 0
 |i+1=>.own (i+1) k T
theorem yJ [MaxL] (T:TypeId) (k i:Nat) (f:Nat->Nat):(ow T k i).ren f=ow T k i:=by cases i<;>rfl
theorem rR (T:TypeId) (k i:Nat):(ow T k i).notHeld=true:=by cases i<;>rfl
def y7 (vs:List Val):List GV:=vs.map fun v=>.s (eW v)
theorem Z3 (l:List (List UInt8)) (kW:List UInt8) (b:Nat) (h:∀x∈l,x.length<=b):(Lib.join l kW).length<=(b+kW.length)*l.length:=by
 have hl:∀l:List (List UInt8),(∀x∈l,x.length<=b)->Lib.lens l<=b*l.length:=by
  intro l;induction l with
  |nil=>intro _;simp[Lib.lens]
  |cons x r ih=>
   intro h;have h1:=h x (by simp);have h2:=ih fun y hy=>h y (by simp[hy]);have e:Lib.lens (x::r)=x.length+Lib.lens r:=by simp[Lib.lens]
   rw[e,aJ,Nat.mul_add];omega
 cases l with
 |nil=>simp[Lib.join]
 |cons x r=>
  rw[Lib.join_length];have:=hl _ h;have e:(b+kW.length)*(x::r).length=b*(x::r).length+kW.length*(r.length+1):=by rw[Nat.add_mul,aJ]
  rw[e,Nat.mul_add];omega
theorem XX (vs:List Val):(y7 vs).all (fun x=>x.cells.length==1)=true:=by
 rw[aS];intro x hx;obtain⟨v,_,rfl⟩:=List.mem_map.1 hx;rfl
theorem vE [MaxL] (vs:List Val) (hb:vs.length<bB):SC Tryz.prog 301 [.sl .none (iG vs)] [] (.val (.s (if oW vs then j7 vs else[]))) []:=by
 refine cX Tryz.func301 rfl ?_;conv=>whnf
 refine bD (vC vs hb) (wR _) rfl (cC (bS (j3 vs)) (fun _=>rfl)) (.b _) ?_;conv=>whnf
 by_cases hok:oW vs=true
 ·rw[hok];conv=>whnf
  have hok':=hok;simp only[oW,aH,aK] at hok';obtain⟨h8,hall⟩:=hok';rw[aS] at hall;refine eS (fun i:Nat=>i<=vs.length) (fun i=>[(3,.sl (.own 0) (y7 (vs.take i))),(9,.sl .none (iG vs)),(10,.i .i64 (iG vs).length),(11,.i .i64 i)])
   (fun i=>⟨[ow 9 1 i],0,[]⟩) (fun i=>vs.length - i) 0 (zL _) ⟨rfl,rfl,rfl,rfl,trivial⟩ rfl (fun _ _=>rL _) (fun i _=>by simp[rR]) (fun i _ e he=>?_) (fun i φ0 hi=>?_)
  ·refine⟨by simp[yJ],rfl,?_⟩;show[(GV.sl (.own 0) (y7 (vs.take i))).ren e,(GV.sl .none (iG vs)).ren e,_,_]=_;rw[p8 (he 0 (by simp)) (l:=y7 (vs.take i)) (gI (fun _=>Cl.s _) _),bS (j3 vs) e];rfl
  conv=>whnf
  refine aF (fun h=>?_) (fun h=>?_)<;>conv=>whnf
  ·have hlt:i<vs.length:=by simp[iG] at h;omega
   have hgi:vs[i]?=some (vs.getD i ⟨0,0,[]⟩):=by rw[aO,gL hlt];rfl
   have hin:=HU (hall _ (aL hgi));have htk:y7 (vs.take (i+1))=y7 (vs.take i)++[.s (eW (vs.getD i ⟨0,0,[]⟩))]:=by
    rw[bR,hgi];simp[y7]
   generalize vs.getD i ⟨0,0,[]⟩=v at*;refine⟨cN _,v.gv,by simp[iG,hgi],rfl,?_⟩;(conv=>whnf);refine⟨_,⟨rfl,zL _,rfl,bL rfl⟩,?_⟩;(conv=>whnf);refine bD (TN v (by omega) (by omega) (by omega)) (wR _) rfl (fun _=>rfl) (.s _) ?_;(conv=>whnf);have hlen:(y7 (vs.take i)).length=i:=by simp[y7];omega
   cases i with
   |zero=>
    refine⟨⟨rfl,rfl,bL rfl⟩,y7 (vs.take 1),1,⟨htk,rfl⟩,?_⟩;(conv=>whnf);refine⟨⟨zL _,rfl,.inr ⟨rfl,rfl⟩⟩,?_⟩;(conv=>whnf);exact⟨vs.length - 1,(by show _<vs.length - 0;omega),1,hlt,rfl,⟨rfl,rfl,rfl,rfl,trivial⟩,_,rfl,rfl⟩
   |succ j=>
    refine⟨⟨rfl,XX _,by show(y7 (vs.take (j+1))).length+1<=4294967296;omega⟩,y7 (vs.take (j+1+1)),j+1+1,⟨htk,by show _=(y7 (vs.take (j+1))).length+1;omega⟩,?_⟩;(conv=>whnf);refine⟨⟨zL _,by rw[hlen],.inl ⟨rfl,rfl⟩⟩,?_⟩;(conv=>whnf);exact⟨vs.length - (j+1+1),(by show _<vs.length - (j+1);omega),j+1+1,hlt,rfl,⟨rfl,rfl,rfl,b7 (by omega),trivial⟩,_,rfl,rfl⟩
  ·have:i=vs.length:=by simp[iG] at h;omega
   subst this;rw[b5];have e:y7 vs=(vs.map eW).map .s:=by simp[y7]
   rw[e];have hlw:∀x∈vs.map eW,x.length<=170:=fun x hx=>by
    obtain⟨v,hv,rfl⟩:=List.mem_map.1 hx;have:=HU (hall v hv);unfold eW;split
    ·have:=Lib.itoa_length_le v.n (by omega) (by omega);omega
    ·have:=AB v.s;simp only[oL,aJ,aE,b4];omega
   refine bD (a1V (vs.map eW) [44] (by simp;omega) ?_) (wC (bI _ _) (wR _)) rfl (cC (bS (gI Cl.s _)) (fun _=>rfl)) (.s _) ?_
   ·exact fZ (Z3 (vs.map eW) [44] 170 hlw) (by simp;omega)
   (conv=>whnf);exact gG rfl
 ·rw[Bool.not_eq_true] at hok;rw[hok];exact gG rfl
