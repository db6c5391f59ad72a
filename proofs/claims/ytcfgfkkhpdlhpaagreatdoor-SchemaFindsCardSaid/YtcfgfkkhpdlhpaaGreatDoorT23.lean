/-
  A part of the proof of SchemaFinds.
-/
import Derived.Test.YtcfgfkkhpdlhpaaGreatDoorT22
import Derived.Lib.ItoaNum
import Derived.Lib.ItoaLen
set_option linter.all false
set_option maxRecDepth 100000
namespace Go.Proofs.YtcfgfkkhpdlhpaaGreatDoor
open Go.RowKit
def skip (l:List UInt8):List UInt8:=l.dropWhile (· ==32)
theorem zO (l:List UInt8):(skip l).length<=l.length:=(List.dropWhile_suffix (· ==32)).length_le
theorem nB (c:UInt8) (t:List UInt8):1<=lQ (c::t):=by
 simp only[lQ];split
 ·omega
 ·split
  ·omega
  ·split
   ·simp;omega
   ·omega
theorem QK (l:List UInt8):lQ l<=l.length:=by
 cases l with
 |nil=>simp[lQ]
 |cons c t=>
  simp only[lQ];split
  ·rename_i h;simp only[eY,List.isPrefixOf_iff_prefix] at h;rcases h with(h|h)|h<;>(have:=h.length_le;simpa using this)
  ·split
   ·have:=(gM (l:=t) d9).length_le;simp;omega
   ·split
    ·omega
    ·simp
def iO (l:List UInt8):List (List UInt8):=
 match h:skip l with
 |[]=>[]
 |c::t=>H6 (c::t)::iO ((c::t).drop (lQ (c::t)))
termination_by l.length
decreasing_by
 have h1:=zO l;have h2:=nB c t;rw[h] at h1;simp at h1⊢;omega
theorem kM {l:List UInt8} (h:skip l=[]):iO l=[]:=by
 rw[iO];split
 ·rfl
 ·rename_i h2;rw[h] at h2;cases h2
theorem mS {l:List UInt8} {c:UInt8} {t:List UInt8} (h:skip l=c::t):iO l=H6 (c::t)::iO ((c::t).drop (lQ (c::t))):=by
 rw[iO];split
 ·rename_i h2;rw[h] at h2;cases h2
 ·rename_i c' t' h2;rw[h] at h2;cases h2;rfl
theorem T1 (l:List UInt8):skip (skip l)=skip l:=by
 induction l with
 |nil=>rfl
 |cons c t ih=>
  unfold skip at*;rw[List.dropWhile_cons];split
  ·exact ih
  ·rename_i h;rw[List.dropWhile_cons,aE h]
theorem B1 (l:List UInt8):iO (skip l)=iO l:=by
 cases h:skip l with
 |nil=>rw[kM h];exact kM rfl
 |cons c t=>rw[mS h,mS (l:=c::t) (by rw[<-h,T1])]
theorem E9 (s:List UInt8) (n:Nat):s.drop (nb s n)=skip (s.drop n):=by
 unfold nb skip;rw[<-j8];generalize s.drop n=l;induction l with
 |nil=>rfl
 |cons c t ih=>
  rw[eU,List.dropWhile_cons];split
  ·simpa using ih
  ·simp
theorem a0n {s:List UInt8} {n:Nat} (hn:n<=s.length):nb s n<=s.length:=by
 have:=(gM (l:=s.drop n) (· ==32)).length_le;simp at this;unfold nb;omega
def At (s:List UInt8) (n:Nat) (ts:List (List UInt8)):Prop:=n<=s.length/\iO (s.drop n)=ts
theorem At.nb {s:List UInt8} {n:Nat} {ts:List (List UInt8)} (h:At s n ts):At s (nb s n) ts:=⟨a0n h.1,by rw[E9,B1];exact h.2⟩
theorem At.head {s:List UInt8} {n:Nat} {ts:List (List UInt8)} (h:At s n ts):H6 (s.drop (Go.Proofs.YtcfgfkkhpdlhpaaGreatDoor.nb s n))=ts.headD []:=by
 rw[E9];cases hk:skip (s.drop n) with
 |nil=>rw[<-h.2,kM hk];rfl
 |cons c t=>rw[<-h.2,mS hk];rfl
theorem At.tail {s:List UInt8} {n:Nat} {w:List UInt8} {ts:List (List UInt8)} (h:At s n (w::ts)):1<=w.length/\At s (Go.Proofs.YtcfgfkkhpdlhpaaGreatDoor.nb s n+w.length) ts:=by
 have h2:=h.2;have hd:=E9 s n;cases hk:skip (s.drop n) with
 |nil=>rw[kM hk] at h2;cases h2
 |cons c t=>
  rw[mS hk] at h2;cases h2;rw[hk] at hd;have hl:(H6 (c::t)).length=lQ (c::t):=by unfold H6;rw[bN];exact Nat.min_eq_left (QK _)
  have hp:=nB c t;have hle:=QK (c::t);have hnl:=a0n h.1;have hlen:(s.drop (Go.Proofs.YtcfgfkkhpdlhpaaGreatDoor.nb s n)).length=(c::t).length:=by rw[hd]
  rw[dW] at hlen;refine⟨by omega,by omega,?_⟩;rw[<-j8,hd,hl]
theorem l6 [MaxL] (s:List UInt8) (n:Nat) (d:Int) {ts:List (List UInt8)} (h:At s n ts) (hs:s.length<bH):
  SC Tryz.prog 258 [.ptr 0 0] [rd s n d] (.val (.s (ts.headD []))) [rd s (nb s n) d]:=by
 have:=a29 s n d h.1 hs;rw[h.head] at this;exact this
theorem t6 [MaxL] (s:List UInt8) (n:Nat) (d:Int) {w:List UInt8} {ts:List (List UInt8)} (h:At s n (w::ts)) (hs:s.length<bH):
  SC Tryz.prog 295 [.ptr 0 0,.s w] [rd s n d] (.val (.b true)) [rd s (nb s n+w.length) d]:=by
 have hw:=l6 s n d h hs;obtain⟨h1,h2,_⟩:=h.tail;unfold bH at hs;refine cZ Tryz.func295 rfl ?_;conv=>whnf
 refine rQ (q:=0) hw ?_;conv=>whnf
 refine aF (fun hc=>?_) (fun hc=>?_)<;>conv=>whnf
 ·simp at hc
 ·refine⟨[.i .i64 (nb s n+w.length:Nat)],⟨?_,rL _,rfl,bL rfl⟩,?_⟩
  ·rw[cD (by omega) (by omega)];rfl
  ·(conv=>whnf);exact rX rfl rfl (fun _=>rfl)
theorem DM [MaxL] (s:List UInt8) (n:Nat) (d:Int) {w:List UInt8} {ts:List (List UInt8)} (h:At s n ts) (hs:s.length<bH) (hne:ts.headD []≠w):
  SC Tryz.prog 295 [.ptr 0 0,.s w] [rd s n d] (.val (.b false)) [rd s (nb s n) d]:=by
 have hw:=l6 s n d h hs;unfold bH at hs;refine cZ Tryz.func295 rfl ?_;conv=>whnf
 refine rQ (q:=0) hw ?_;conv=>whnf
 refine aF (fun hc=>?_) (fun hc=>?_)<;>conv=>whnf
 ·exact rX rfl rfl (fun _=>rfl)
 ·exact absurd (by simpa using hc) hne
end Go.Proofs.YtcfgfkkhpdlhpaaGreatDoor
namespace Go.Proofs.YtcfgfkkhpdlhpaaGreatDoor
abbrev By:=List UInt8
structure Term where
 name:By
 var:Bool
 v:Val
 deriving DecidableEq
inductive Tree where
 |pair (a:Bool) (l r:Tree)
 |no (t:Tree)
 |test (op:By) (l r:Term)
 |truth (b:Bool)
def AY:By:=[111,114]
def nC:By:=[97,110,100]
def kC:By:=[110,111,116]
def l8:By:=[116,114,117,101]
def jU:By:=[102,97,108,115,101]
def TC:List By:=[[61],[60,62],[60],[60,61],[62],[62,61]]
def mU (w:By):Bool:=TC.contains w
def v0:Val:=⟨0,0,[]⟩
def gB (lit:By->Option Val):List By->Option (Term×List By)
 |[]=>none
 |w::ts=>
  if w=[58] then match gB lit ts with
   |some (t,r)=>if t.name=[]∨t.var=true then none else some (⟨t.name,true,t.v⟩,r)
   |none=>none
  else if fV w&&!a2q.contains w then some (⟨w,false,v0⟩,ts)
  else match lit w with
   |some v=>some (⟨[],false,v⟩,ts)
   |none=>none
inductive Md where
 |or|orL (n:Tree)|and|andL (n:Tree)|not|prim
def Md.rk:Md->Nat
 |.or=>4
 |.and=>3
 |.not=>2
 |.prim=>1
 |_=>0
def bP (lit:By->Option Val):Nat->Md->Nat->Nat->List By->Option (Tree×List By×Nat)
 |0,_,_,_,_=>none
 |f+1,.or,lv,d,ts=>match bP lit f .and lv d ts with
  |some (n,r,e)=>bP lit f (.orL n) lv e r
  |none=>none
 |f+1,.orL n,lv,d,ts=>if ts.headD []=AY then match bP lit f .and lv d ts.tail with
   |some (m,r,e)=>bP lit f (.orL (.pair false n m)) lv e r
   |none=>none
  else some (n,ts,d)
 |f+1,.and,lv,d,ts=>match bP lit f .not lv d ts with
  |some (n,r,e)=>bP lit f (.andL n) lv e r
  |none=>none
 |f+1,.andL n,lv,d,ts=>if ts.headD []=nC then match bP lit f .not lv d ts.tail with
   |some (m,r,e)=>bP lit f (.andL (.pair true n m)) lv e r
   |none=>none
  else some (n,ts,d)
 |f+1,.not,lv,d,ts=>if ts.headD []=kC then match bP lit f .prim (lv+1) (max d (lv+1)) ts.tail with
   |some (n,r,e)=>some (.no n,r,e)
   |none=>none
  else bP lit f .prim lv d ts
 |f+1,.prim,lv,d,ts=>
  if ts.headD []=l8 then some (.truth true,ts.tail,d)
  else if ts.headD []=jU then some (.truth false,ts.tail,d)
  else if ts.headD []=[40] then match bP lit f .or (lv+1) (max d (lv+1)) ts.tail with
   |some (n,r,e)=>if r.headD []=[41] then some (n,r.tail,e) else none
   |none=>none
  else match gB lit ts with
   |some (a,r)=>if mU (r.headD []) then match gB lit r.tail with
     |some (b,r')=>some (.test (r.headD []) a b,r',d)
     |none=>none
    else none
   |none=>none
theorem pZ {lit:By->Option Val}:∀{ts r:List By} {t:Term},gB lit ts=some (t,r)->r.length<ts.length
 |[],r,t,h=>by cases h
 |w::ts,r,t,h=>by
  unfold gB at h;split at h
  ·split at h
   ·rename_i h1;split at h
    ·cases h
    ·cases h;have:=pZ h1;simp;omega
   ·cases h
  ·split at h
   ·cases h;simp
   ·split at h
    ·cases h;simp
    ·cases h
def Md.loop:Md->Bool
 |.orL _=>true
 |.andL _=>true
 |_=>false
theorem fY {ts:List By} {w:By} (h:ts.headD []=w) (hw:w≠[]):∃r,ts=w::r:=by
 cases ts with
 |nil=>exact absurd h.symm hw
 |cons a r=>exact⟨r,by rw[<-h];rfl⟩
theorem j3 {lit:By->Option Val}:∀(f:Nat) (m:Md) (lv d:Nat) (ts r:List By) (t:Tree) (e:Nat),bP lit f m lv d ts=some (t,r,e)->
  r.length<=ts.length/\(m.loop=false->r.length<ts.length)/\d<=e/\e<=max d (lv+ts.length)
 |0,m,lv,d,ts,r,t,e,h=>by cases h
 |f+1,.or,lv,d,ts,r,t,e,h=>by
  unfold bP at h;split at h
  ·rename_i n r1 e1 h1;have a:=j3 f _ _ _ _ _ _ _ h1;have b:=j3 f _ _ _ _ _ _ _ h;have a2:=a.2.1 rfl;refine⟨?_,fun _=>?_,?_,?_⟩<;>omega
  ·cases h
 |f+1,.orL n,lv,d,ts,r,t,e,h=>by
  unfold bP at h;split at h
  ·rename_i hd;obtain⟨r0,rfl⟩:=fY hd (by decide);split at h
   ·rename_i n r1 e1 h1;have a:=j3 f _ _ _ _ _ _ _ h1;have b:=j3 f _ _ _ _ _ _ _ h;simp only[gV,aJ] at*;exact⟨by omega,(fun h=>by cases h),by omega,by omega⟩
   ·cases h
  ·cases h;exact⟨rL _,(fun h=>by cases h),by omega,by omega⟩
 |f+1,.and,lv,d,ts,r,t,e,h=>by
  unfold bP at h;split at h
  ·rename_i n r1 e1 h1;have a:=j3 f _ _ _ _ _ _ _ h1;have b:=j3 f _ _ _ _ _ _ _ h;have a2:=a.2.1 rfl;refine⟨?_,fun _=>?_,?_,?_⟩<;>omega
  ·cases h
 |f+1,.andL n,lv,d,ts,r,t,e,h=>by
  unfold bP at h;split at h
  ·rename_i hd;obtain⟨r0,rfl⟩:=fY hd (by decide);split at h
   ·rename_i n r1 e1 h1;have a:=j3 f _ _ _ _ _ _ _ h1;have b:=j3 f _ _ _ _ _ _ _ h;simp only[gV,aJ] at*;exact⟨by omega,(fun h=>by cases h),by omega,by omega⟩
   ·cases h
  ·cases h;exact⟨rL _,(fun h=>by cases h),by omega,by omega⟩
 |f+1,.not,lv,d,ts,r,t,e,h=>by
  unfold bP at h;split at h
  ·rename_i hd;obtain⟨r0,rfl⟩:=fY hd (by decide);split at h
   ·rename_i n r1 e1 h1;cases h;have a:=j3 f _ _ _ _ _ _ _ h1;have a2:=a.2.1 rfl;simp only[gV,aJ] at*;refine⟨?_,fun _=>?_,?_,?_⟩<;>omega
   ·cases h
  ·have a:=j3 f _ _ _ _ _ _ _ h;exact⟨a.1,fun _=>a.2.1 rfl,a.2.2⟩
 |f+1,.prim,lv,d,ts,r,t,e,h=>by
  unfold bP at h;split at h
  ·rename_i hd;obtain⟨r0,rfl⟩:=fY hd (by decide);cases h;simp only[gV,aJ] at*;refine⟨?_,fun _=>?_,?_,?_⟩<;>omega
  ·split at h
   ·rename_i hd;obtain⟨r0,rfl⟩:=fY hd (by decide);cases h;simp only[gV,aJ] at*;refine⟨?_,fun _=>?_,?_,?_⟩<;>omega
   ·split at h
    ·rename_i hd;obtain⟨r0,rfl⟩:=fY hd (by decide);split at h
     ·rename_i n r1 e1 h1;have a:=j3 f _ _ _ _ _ _ _ h1;have a2:=a.2.1 rfl;split at h
      ·rename_i hr;obtain⟨r2,rfl⟩:=fY hr (by decide);cases h;simp only[gV,aJ] at*;refine⟨?_,fun _=>?_,?_,?_⟩<;>omega
      ·cases h
     ·cases h
    ·split at h
     ·rename_i a r1 h1;have l1:=pZ h1;split at h
      ·split at h
       ·rename_i b r2 h2;have l2:=pZ h2;cases h;simp only[List.length_tail] at*;refine⟨?_,fun _=>?_,?_,?_⟩<;>omega
       ·cases h
      ·cases h
     ·cases h
def dT (n:Nat):UInt8:=if n<10 then UInt8.ofNat (48+n) else UInt8.ofNat (87+n)
def mM (c:UInt8):By:=if c=34∨c=92 then[92,c] else if c.toNat<32∨126<c.toNat then[92,120,dT (c.toNat / 16),dT (c.toNat%16)] else[c]
def oV (s:By):By:=34::(s.flatMap mM++[34])
def eV (v:Val):By:=if v.k=1 then Lib.itoa v.n else oV v.s
def PC (v:Val):By:=if v.ok then eV v else[]
def Term.txt (t:Term):By:=if t.var then 58::t.name else if t.name≠[] then t.name else PC t.v
def lD (a:Bool):Nat:=if a then 2 else 1
def Tree.level:Tree->Nat
 |.pair a _ _=>lD a
 |.no _=>3
 |.test _ _ _=>4
 |.truth _=>4
def l9 (a:Bool):By:=if a then 32::(nC++[32]) else 32::(AY++[32])
def paren (b:Bool) (s:By):By:=if b then 40::(s++[41]) else s
def Tree.plain:Tree->By
 |.pair a l r=>paren (decide (l.level<lD a)) l.plain++l9 a++paren (decide (r.level<lD a)) r.plain
 |.no t=>kC++[32]++paren (decide (t.level<4)) t.plain
 |.test op l r=>l.txt++[32]++op++[32]++r.txt
 |.truth b=>if b then l8 else jU
def Tree.deep:Tree->Nat->Nat
 |.pair a l r,k=>(if lD a<k then 1 else 0)+max (l.deep (lD a)) (r.deep (lD a))
 |.no t,k=>(if 3<k then 1 else 0)+1+t.deep 4
 |_,k=>if 4<k then 1 else 0
def rD (a:Bool):Option Tree->Tree->Tree
 |none,t=>t
 |some x,t=>.pair a x t
def dY (a:Bool) (acc:Option Tree):Tree->Tree
 |.pair b l r=>if a=b then dY a (some (dY a acc l)) r else rD a acc (dY b (some (dY b none l)) r)
 |.no t=>rD a acc (.no (dY true none t))
 |t=>rD a acc t
def Tree.flat (t:Tree):Tree:=dY true none t
def Tree.sides (a:Bool):Tree->List Tree
 |.pair b l r=>if a=b then l.sides a++r.sides a else[.pair b l r]
 |t=>[t]
theorem GL (a b:Bool) (t:Tree):dY a none t=dY b none t:=by
 cases t with
 |pair c l r=>
  unfold dY;cases a<;>cases b<;>cases c<;>rfl
 |_=>rfl
theorem L6 (a:Bool) (t:Tree):t.flat=dY a none t:=GL true a t
theorem x6 (a:Bool):∀(t:Tree) (acc:Option Tree),some (dY a acc t)=(t.sides a).foldl (fun q x=>some (rD a q x.flat)) acc
 |.pair b l r,acc=>by
  unfold dY Tree.sides;by_cases h:a=b
  ·rw[aG h,aG h,List.foldl_append,<-x6 a l acc,<-x6 a r]
  ·rw[aE h,aE h];show _=some (rD a acc (Tree.pair b l r).flat);rw[L6 b];congr 2;conv=>rhs;unfold dY
   rw[aG rfl]
 |.no t,acc=>rfl
 |.test _ _ _,acc=>rfl
 |.truth _,acc=>rfl
theorem qR (a:Bool) (t:Tree):t.sides a≠[]:=by
 induction t with
 |pair b l r ihl ihr=>
  unfold Tree.sides;split
  ·simp[ihl]
  ·simp
 |_=>simp[Tree.sides]
def Tree.size:Tree->Nat
 |.pair _ l r=>l.size+r.size+1
 |.no t=>t.size+1
 |_=>1
theorem uN {a:Bool}:∀{t x:Tree},x∈t.sides a->x.size<=t.size
 |.pair b l r,x,h=>by
  unfold Tree.sides at h;split at h
  ·rcases List.mem_append.1 h with h|h
   ·have:=uN h;simp only[Tree.size];omega
   ·have:=uN h;simp only[Tree.size];omega
  ·simp at h;subst h;exact rL _
 |.no t,x,h=>by simp[Tree.sides] at h;subst h;exact rL _
 |.test _ _ _,x,h=>by simp[Tree.sides] at h;subst h;exact rL _
 |.truth _,x,h=>by simp[Tree.sides] at h;subst h;exact rL _
theorem ES {a:Bool} {l r x:Tree} (h:x∈(Tree.pair a l r).sides a):x.size<(Tree.pair a l r).size:=by
 unfold Tree.sides at h;rw[aG rfl] at h;rcases List.mem_append.1 h with h|h
 ·have:=uN h;simp only[Tree.size];omega
 ·have:=uN h;simp only[Tree.size];omega
theorem IV (a:Bool) (l r:Tree):∃x xs,(Tree.pair a l r).sides a=x::xs/\(Tree.pair a l r).flat=xs.foldl (fun q y=>.pair a q y.flat) x.flat:=by
 cases h:(Tree.pair a l r).sides a with
 |nil=>exact absurd h (qR _ _)
 |cons x xs=>
  refine⟨x,xs,rfl,?_⟩;have:=x6 a (.pair a l r) none;rw[h] at this;rw[L6 a];have key:∀(ys:List Tree) (q:Tree),ys.foldl (fun q x=>some (rD a q x.flat)) (some q)=some (ys.foldl (fun q y=>.pair a q y.flat) q):=by
   intro ys;induction ys with
   |nil=>intro q;rfl
   |cons y ys ih=>intro q;exact ih _
  rw[hZ] at this;rw[show(rD a none x.flat)=x.flat from rfl,key] at this;exact aY this
open Go.RowKit
theorem UM [MaxL] (l:List UInt8):SC Tryz.prog 331 [.s l] [] (.val (.fn (.func 340) [] [.ptr 0 0])) [.box 9 [.s l]]:=by
 refine cH oY mixed Tryz.func331 rfl (bL rfl) (by simp) rfl ?_;conv=>whnf
 refine⟨[0],Lies.one rfl (fun _=>rfl) (by simp),fun i hi=>absurd hi (cM i),?_⟩;show Wk _ (GV.fn _ [] [.ptr (iT [0] 1 0) 0]);rw[kF (by simp)];exact .refl _
def XI:List UInt8:=[48,49,50,51,52,53,54,55,56,57,97,98,99,100,101,102]
theorem CT:∀n:Fin 256,0<=((n:Nat):Int).fdiv (2^min (Int.toNat 4) IntKind.u8.bits)/\XI[(((n:Nat):Int).fdiv (2^min (Int.toNat 4) IntKind.u8.bits)).toNat]?=some (dT ((n:Nat) / 16))/\
  (Utf8.encode ((dT ((n:Nat) / 16)).toNat:Int)).data.toList=[dT ((n:Nat) / 16)]:=by decide+kernel
theorem CS:∀n:Fin 256,0<=bits .and .u8 ((n:Nat):Int) 15/\XI[(bits .and .u8 ((n:Nat):Int) 15).toNat]?=some (dT ((n:Nat)%16))/\
  (Utf8.encode ((dT ((n:Nat)%16)).toNat:Int)).data.toList=[dT ((n:Nat)%16)]:=by decide+kernel
theorem AJ (l:List UInt8):(l.flatMap mM).length<=4*l.length:=by
 induction l with
 |nil=>simp
 |cons c l ih=>
  rw[f9,aD,aJ];have:(mM c).length<=4:=by unfold mM;split;simp;split<;>simp
  omega
def V0 (vc:List GV) (s:List UInt8) (L:GObj) (bs:List UInt8):List GObj:=[.box 138 vc,hY 1 2 bs,mG bs.length,.box 9 [.s s],.dfr,L]
theorem QG [MaxL] (vc:List GV) (s:List UInt8) (L:GObj) (hL:L.notHeld=true) (hs:s.length<100000) (bs0:List UInt8) (h0:bs0.length<100)
  (hb:∀bs e:List UInt8,bs.length+e.length<1000000000->Fact Tryz.prog (.yld 5) [.s e] ⟨V0 vc s L bs,0,[]⟩ (.val (.b true)) ⟨V0 vc s L (bs++e),0,[]⟩):
  SC Tryz.prog 340 [.yld 5,.ptr 3 0] (V0 vc s L bs0) (.val (.tup [])) (V0 vc s L (bs0++s.flatMap mM)):=by
 refine cH oY mixed Tryz.func340 rfl (bL rfl) (by simp[V0]) (by simp only[V0,gK,hL];rfl) ?_;conv=>whnf
 refine dG (fun i:Nat=>i<=s.length) (fun i=>[(0,.yld 5),(1,.ptr 3 0),(7,.i .i64 s.length),(8,.i .i64 i)]) (fun i=>⟨V0 vc s L (bs0++(s.take i).flatMap mM),0,[]⟩) (fun i=>s.length - i) 0 (zL _) ⟨rfl,rfl,rfl,rfl,trivial⟩ (by simp) (fun i φ0 hi=>?_);conv=>whnf
 refine aF (fun h=>?_) (fun h=>?_)<;>conv=>whnf
 ·have hlt:i<s.length:=by simp at h;omega
  have hgi:s[i]?=some (s.getD i 0):=by rw[aO,gL hlt];rfl
  have htk:(s.take (i+1)).flatMap mM=(s.take i).flatMap mM++mM (s.getD i 0):=by
   rw[bR,hgi,List.flatMap_append];simp
  have hlen:((s.take i).flatMap mM).length<=4*i:=by
   have:=AJ (s.take i);rw[bN] at this;omega
  have w1:IntKind.i64.wrap ((i:Int)+1)=((i+1:Nat):Int):=cD (by omega) (by omega);generalize hc:s.getD i 0=c at*;refine⟨cN _,?_⟩;conv=>whnf
  refine⟨by rw[w1];omega,?_⟩;conv=>whnf
  refine⟨⟨by rw[w1];omega,by rw[w1];omega⟩,[c],?_,?_⟩
  ·rw[w1,aC,aC,aX hlt,show i+1 - i=1 by omega];rw[gL hlt] at hgi;cases hgi;rfl
  conv=>whnf
  refine⟨cN _,c,by simpa using hgi,?_⟩;conv=>whnf
  refine aF (fun h34=>?_) (fun h34=>?_)<;>conv=>whnf
  ·refine⟨by simp[tI],[92,c],rfl,?_⟩;(conv=>whnf);refine GY (hb _ [92,c] (by rw[aD];simp only[aJ,b5];omega)) ?_;(conv=>whnf);refine eQ (i+1) hlt (by omega) ⟨rfl,rfl,rfl,b8 (by omega),trivial⟩ ?_;rw[htk,<-bD,show mM c=[92,c] from aG (.inl (j2 (d:=34) h34))]
  refine aF (fun h92=>?_) (fun h92=>?_)<;>conv=>whnf
  ·refine⟨by simp[tI],[92,c],rfl,?_⟩;(conv=>whnf);refine GY (hb _ [92,c] (by rw[aD];simp only[aJ,b5];omega)) ?_;(conv=>whnf);refine eQ (i+1) hlt (by omega) ⟨rfl,rfl,rfl,b8 (by omega),trivial⟩ ?_;rw[htk,<-bD,show mM c=[92,c] from aG (.inr (j2 (d:=92) h92))]
  have hn34:=jV (d:=34) h34;have hn92:=jV (d:=92) h92;have e1:∀{x y:List UInt8},(if c=34∨c=92 then x else y)=y:=fun{x y}=>aE (by simp[hn34,hn92]);refine aF (fun h32=>?_) (fun h32=>?_)<;>conv=>whnf
  ·skip;refine b9 (by kernel_rfl) ?_;(conv=>whnf);refine⟨by decide,?_⟩;(conv=>whnf);refine⟨(CT ⟨c.toNat,cJ c⟩).1,dT (c.toNat / 16),(CT ⟨c.toNat,cJ c⟩).2.1,?_⟩;(conv=>whnf);refine⟨by rw[(CT ⟨c.toNat,cJ c⟩).2.2];simp[tI],[92,120,dT (c.toNat / 16)],by rw[(CT ⟨c.toNat,cJ c⟩).2.2];rfl,?_⟩;(conv=>whnf);refine⟨(CS ⟨c.toNat,cJ c⟩).1,dT (c.toNat%16),(CS ⟨c.toNat,cJ c⟩).2.1,?_⟩;(conv=>whnf);refine⟨by rw[(CS ⟨c.toNat,cJ c⟩).2.2];simp[tI],[92,120,dT (c.toNat / 16),dT (c.toNat%16)],by rw[(CS ⟨c.toNat,cJ c⟩).2.2];rfl,?_⟩;(conv=>whnf);refine GY (hb _ [92,120,dT (c.toNat / 16),dT (c.toNat%16)] (by rw[aD];simp only[aJ,b5];omega)) ?_;(conv=>whnf);refine eQ (i+1) hlt (by omega) ⟨rfl,rfl,rfl,b8 (by omega),trivial⟩ ?_;rw[htk,<-bD,show mM c=[92,120,dT (c.toNat / 16),dT (c.toNat%16)] from(e1).trans (aG (by simp at h32;omega))]
  refine aF (fun h126=>?_) (fun h126=>?_)<;>conv=>whnf
  ·skip;refine b9 (by kernel_rfl) ?_;(conv=>whnf);refine⟨by decide,?_⟩;(conv=>whnf);refine⟨(CT ⟨c.toNat,cJ c⟩).1,dT (c.toNat / 16),(CT ⟨c.toNat,cJ c⟩).2.1,?_⟩;(conv=>whnf);refine⟨by rw[(CT ⟨c.toNat,cJ c⟩).2.2];simp[tI],[92,120,dT (c.toNat / 16)],by rw[(CT ⟨c.toNat,cJ c⟩).2.2];rfl,?_⟩;(conv=>whnf);refine⟨(CS ⟨c.toNat,cJ c⟩).1,dT (c.toNat%16),(CS ⟨c.toNat,cJ c⟩).2.1,?_⟩;(conv=>whnf);refine⟨by rw[(CS ⟨c.toNat,cJ c⟩).2.2];simp[tI],[92,120,dT (c.toNat / 16),dT (c.toNat%16)],by rw[(CS ⟨c.toNat,cJ c⟩).2.2];rfl,?_⟩;(conv=>whnf);refine GY (hb _ [92,120,dT (c.toNat / 16),dT (c.toNat%16)] (by rw[aD];simp only[aJ,b5];omega)) ?_;(conv=>whnf);refine eQ (i+1) hlt (by omega) ⟨rfl,rfl,rfl,b8 (by omega),trivial⟩ ?_;rw[htk,<-bD,show mM c=[92,120,dT (c.toNat / 16),dT (c.toNat%16)] from(e1).trans (aG (by simp at h126;omega))]
  refine GY (hb _ [c] (by rw[aD];simp only[aJ,b5];omega)) ?_;conv=>whnf
  refine eQ (i+1) hlt (by omega) ⟨rfl,rfl,rfl,b8 (by omega),trivial⟩ ?_;rw[htk,<-bD,show mM c=[c] from(e1).trans (aE (by simp at h32 h126;omega))]
 ·have:i=s.length:=by simp at h;omega
  subst this;rw[b7];refine⟨List.range 6,Lies.all (V0 vc s L (bs0++s.flatMap mM)) (fun x hx e=>?_),fun j hj=>?_,?_⟩
  ·subst e;simp[V0,hY,mG] at hx;subst hx;cases hL
  ·have:j<6:=hj;simp[this]
  ·exact .refl _
theorem UK [MaxL] (v:Val) (hv:v.s.length<100000) (h0: -9223372036854775808<=v.n) (h1:v.n<=9223372036854775807):SC Tryz.prog 320 [v.gv] [] (.val (.s (eV v))) []:=by
 obtain⟨k,n,s⟩:=v;refine cZ Tryz.func320 rfl ?_;conv=>whnf
 refine aF (fun hk=>?_) (fun hk=>?_)<;>conv=>whnf
 ·have:k=1:=by simpa using hk
  subst this;refine nH (LJ n h0 h1) ?_;conv=>whnf
  exact gI rfl
 ·have:k≠1:=by simpa using hk
  refine uC (AQ 34) [1] (objs':=[.box 138 [.i .i64 k,.i .i64 n,.s s],hY 1 2 [34],mG 1]) (Lies.one' rfl (by simp[AS])) (wR _) rfl rfl rfl rfl ?_;conv=>whnf
  refine uC (UM s) [] (objs':=[.box 138 [.i .i64 k,.i .i64 n,.s s],hY 1 2 [34],mG 1,.box 9 [.s s]]) Lies.nil (wR _) rfl rfl rfl rfl ?_;conv=>whnf
  have hv':s.length<100000:=hv;refine⟨.val (.tup []),⟨V0 [.i .i64 k,.i .i64 n,.s s] s (.loop .ready none _ _ _ _ _ 4) ([34]++s.flatMap mM),0,[.coll 4]⟩,SC.factAll (QG [.i .i64 k,.i .i64 n,.s s] s (.loop .ready none _ _ _ _ _ 4) rfl (by omega) [34] (by simp) (fun bs e hl=>?hb)) rfl rfl ?hh,?_⟩
  case hb=>
   refine Fact.yld oY mixed (r:=5) rfl rfl (by kernel_rfl) rfl rfl (rL _) rfl rfl ?_;(conv=>whnf);refine a0K hl rfl ?_;(conv=>whnf);rfl
  case hh=>
   intro x hx e;subst e;simp[V0,hY,mG] at hx
  have hlen:=AJ s;conv=>whnf
  refine a0L (bs:=[34]++s.flatMap mM) (c:=34) (by rw[aD];simp only[aJ,b5];omega) rfl ?_;conv=>whnf
  refine Y3 (M:=fun _=>false) (c:=34) (t:=s.flatMap mM++[34]) (by rw[aD];simp only[aJ,b5];omega) rfl ?_;conv=>whnf
  refine gI ?_;unfold eV;rw[aE this];rfl
def jM (vs:List Val):List UInt8:=Lib.join (vs.map eV) [44]
theorem IB {v:Val} (h:v.ok=true): -1000000000<=v.n/\v.n<=1000000000/\v.s.length<=40:=by
 simp[Val.ok] at h;rcases h with⟨⟨⟨_,h1⟩,h2⟩,h3⟩|⟨⟨_,h2⟩,h3⟩
 ·refine⟨h2,h3,by rw[h1];simp⟩
 ·refine⟨by omega,by omega,h3⟩
theorem pP [MaxL] {e:Nat->Nat} {r:Nat} {l:List GV} (h:e r=r) (hl:ClL l):(GV.sl (.own r) l).ren e=.sl (.own r) l:=by
 rw[GV.ren,cQ,hl e];show GV.sl (.own (e r)) l=_;rw[h]
def ow (T:TypeId) (k:Nat):Nat->GObj
 |0=>.own 0 0 0
 |i+1=>.own (i+1) k T
theorem yX [MaxL] (T:TypeId) (k i:Nat) (f:Nat->Nat):(ow T k i).ren f=ow T k i:=by cases i<;>rfl
theorem lN (T:TypeId) (k i:Nat):(ow T k i).notHeld=true:=by cases i<;>rfl
def yK (vs:List Val):List GV:=vs.map fun v=>.s (eV v)
theorem a02 (l:List (List UInt8)) (l9:List UInt8) (b:Nat) (h:∀x∈l,x.length<=b):(Lib.join l l9).length<=(b+l9.length)*l.length:=by
 have hl:∀l:List (List UInt8),(∀x∈l,x.length<=b)->Lib.lens l<=b*l.length:=by
  intro l;induction l with
  |nil=>intro _;simp[Lib.lens]
  |cons x r ih=>
   intro h;have h1:=h x (by simp);have h2:=ih fun y hy=>h y (by simp[hy]);have e:Lib.lens (x::r)=x.length+Lib.lens r:=by simp[Lib.lens]
   rw[e,aJ,Nat.mul_add];omega
 cases l with
 |nil=>simp[Lib.join]
 |cons x r=>
  rw[Lib.join_length];have:=hl _ h;have e:(b+l9.length)*(x::r).length=b*(x::r).length+l9.length*(r.length+1):=by rw[Nat.add_mul,aJ]
  rw[e,Nat.mul_add];omega
theorem YW (vs:List Val):(yK vs).all (fun x=>x.cells.length==1)=true:=by
 rw[aS];intro x hx;obtain⟨v,_,rfl⟩:=List.mem_map.1 hx;rfl
theorem vL [MaxL] (vs:List Val) (hb:vs.length<bH):SC Tryz.prog 301 [.sl .none (iQ vs)] [] (.val (.s (if pK vs then jM vs else[]))) []:=by
 refine cZ Tryz.func301 rfl ?_;conv=>whnf
 refine bG (vK vs hb) (wR _) rfl (cC (bV (jJ vs)) (fun _=>rfl)) (.b _) ?_;conv=>whnf
 by_cases hok:pK vs=true
 ·rw[hok];conv=>whnf
  have hok':=hok;simp only[pK,aH,aL] at hok';obtain⟨h8,hall⟩:=hok';rw[aS] at hall;refine fI (fun i:Nat=>i<=vs.length) (fun i=>[(3,.sl (.own 0) (yK (vs.take i))),(9,.sl .none (iQ vs)),(10,.i .i64 (iQ vs).length),(11,.i .i64 i)])
   (fun i=>⟨[ow 9 1 i],0,[]⟩) (fun i=>vs.length - i) 0 (zL _) ⟨rfl,rfl,rfl,rfl,trivial⟩ rfl (fun _ _=>rL _) (fun i _=>by simp[lN]) (fun i _ e he=>?_) (fun i φ0 hi=>?_)
  ·refine⟨by simp[yX],rfl,?_⟩;show[(GV.sl (.own 0) (yK (vs.take i))).ren e,(GV.sl .none (iQ vs)).ren e,_,_]=_;rw[pP (he 0 (by simp)) (l:=yK (vs.take i)) (gT (fun _=>Cl.s _) _),bV (jJ vs) e];rfl
  conv=>whnf
  refine aF (fun h=>?_) (fun h=>?_)<;>conv=>whnf
  ·have hlt:i<vs.length:=by simp[iQ] at h;omega
   have hgi:vs[i]?=some (vs.getD i ⟨0,0,[]⟩):=by rw[aO,gL hlt];rfl
   have hin:=IB (hall _ (aK hgi));have htk:yK (vs.take (i+1))=yK (vs.take i)++[.s (eV (vs.getD i ⟨0,0,[]⟩))]:=by
    rw[bR,hgi];simp[yK]
   generalize vs.getD i ⟨0,0,[]⟩=v at*;refine⟨cN _,v.gv,by simp[iQ,hgi],rfl,?_⟩;(conv=>whnf);refine⟨_,⟨rfl,zL _,rfl,bL rfl⟩,?_⟩;(conv=>whnf);refine bG (UK v (by omega) (by omega) (by omega)) (wR _) rfl (fun _=>rfl) (.s _) ?_;(conv=>whnf);have hlen:(yK (vs.take i)).length=i:=by simp[yK];omega
   cases i with
   |zero=>
    refine⟨⟨rfl,rfl,bL rfl⟩,yK (vs.take 1),1,⟨htk,rfl⟩,?_⟩;(conv=>whnf);refine⟨⟨zL _,rfl,.inr ⟨rfl,rfl⟩⟩,?_⟩;(conv=>whnf);exact⟨vs.length - 1,(by show _<vs.length - 0;omega),1,hlt,rfl,⟨rfl,rfl,rfl,rfl,trivial⟩,_,rfl,rfl⟩
   |succ j=>
    refine⟨⟨rfl,YW _,by show(yK (vs.take (j+1))).length+1<=4294967296;omega⟩,yK (vs.take (j+1+1)),j+1+1,⟨htk,by show _=(yK (vs.take (j+1))).length+1;omega⟩,?_⟩;(conv=>whnf);refine⟨⟨zL _,by rw[hlen],.inl ⟨rfl,rfl⟩⟩,?_⟩;(conv=>whnf);exact⟨vs.length - (j+1+1),(by show _<vs.length - (j+1);omega),j+1+1,hlt,rfl,⟨rfl,rfl,rfl,b8 (by omega),trivial⟩,_,rfl,rfl⟩
  ·have:i=vs.length:=by simp[iQ] at h;omega
   subst this;rw[b7];have e:yK vs=(vs.map eV).map .s:=by simp[yK]
   rw[e];have hlw:∀x∈vs.map eV,x.length<=170:=fun x hx=>by
    obtain⟨v,hv,rfl⟩:=List.mem_map.1 hx;have:=IB (hall v hv);unfold eV;split
    ·have:=Lib.itoa_length_le v.n (by omega) (by omega);omega
    ·have:=AJ v.s;simp only[oV,aJ,aD,b5];omega
   refine bG (a2F (vs.map eV) [44] (by simp;omega) ?_) (wC (bE _ _) (wR _)) rfl (cC (bV (gT Cl.s _)) (fun _=>rfl)) (.s _) ?_
   ·exact e8 (a02 (vs.map eV) [44] 170 hlw) (by simp;omega)
   (conv=>whnf);exact gI rfl
 ·rw[Bool.not_eq_true] at hok;rw[hok];exact gI rfl
