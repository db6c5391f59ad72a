/-
  A part of the proof of SchemaSorts.
-/
import Derived.Test.YtcfgfkkhpdlhpaaGreatDoorS22
import Derived.Lib.ItoaNum
import Derived.Lib.ItoaLen
set_option linter.all false
set_option maxRecDepth 100000
namespace Go.Proofs.YtcfgfkkhpdlhpaaGreatDoor
open Go.RowKit
def skip (l:List UInt8):List UInt8:=l.dropWhile (· ==32)
theorem zU (l:List UInt8):(skip l).length<=l.length:=(List.dropWhile_suffix (· ==32)).length_le
theorem nC (c:UInt8) (t:List UInt8):1<=lL (c::t):=by
 simp only[lL];split
 ·omega
 ·split
  ·omega
  ·split
   ·simp;omega
   ·omega
theorem R3 (l:List UInt8):lL l<=l.length:=by
 cases l with
 |nil=>simp[lL]
 |cons c t=>
  simp only[lL];split
  ·rename_i h;simp only[eR,List.isPrefixOf_iff_prefix] at h;rcases h with(h|h)|h<;>(have:=h.length_le;simpa using this)
  ·split
   ·have:=(gJ (l:=t) d8).length_le;simp;omega
   ·split
    ·omega
    ·simp
def iG (l:List UInt8):List (List UInt8):=
 match h:skip l with
 |[]=>[]
 |c::t=>HH (c::t)::iG ((c::t).drop (lL (c::t)))
termination_by l.length
decreasing_by
 have h1:=zU l;have h2:=nC c t;rw[h] at h1;simp at h1⊢;omega
theorem kK {l:List UInt8} (h:skip l=[]):iG l=[]:=by
 rw[iG];split
 ·rfl
 ·rename_i h2;rw[h] at h2;cases h2
theorem mS {l:List UInt8} {c:UInt8} {t:List UInt8} (h:skip l=c::t):iG l=HH (c::t)::iG ((c::t).drop (lL (c::t))):=by
 rw[iG];split
 ·rename_i h2;rw[h] at h2;cases h2
 ·rename_i c' t' h2;rw[h] at h2;cases h2;rfl
theorem TG (l:List UInt8):skip (skip l)=skip l:=by
 induction l with
 |nil=>rfl
 |cons c t ih=>
  unfold skip at*;rw[List.dropWhile_cons];split
  ·exact ih
  ·rename_i h;rw[List.dropWhile_cons,aD h]
theorem BD (l:List UInt8):iG (skip l)=iG l:=by
 cases h:skip l with
 |nil=>rw[kK h];exact kK rfl
 |cons c t=>rw[mS h,mS (l:=c::t) (by rw[<-h,TG])]
theorem EK (s:List UInt8) (n:Nat):s.drop (nb s n)=skip (s.drop n):=by
 unfold nb skip;rw[<-j3];generalize s.drop n=l;induction l with
 |nil=>rfl
 |cons c t ih=>
  rw[eW,List.dropWhile_cons];split
  ·simpa using ih
  ·simp
theorem a13 {s:List UInt8} {n:Nat} (hn:n<=s.length):nb s n<=s.length:=by
 have:=(gJ (l:=s.drop n) (· ==32)).length_le;simp at this;unfold nb;omega
def At (s:List UInt8) (n:Nat) (ts:List (List UInt8)):Prop:=n<=s.length/\iG (s.drop n)=ts
theorem At.nb {s:List UInt8} {n:Nat} {ts:List (List UInt8)} (h:At s n ts):At s (nb s n) ts:=⟨a13 h.1,by rw[EK,BD];exact h.2⟩
theorem At.head {s:List UInt8} {n:Nat} {ts:List (List UInt8)} (h:At s n ts):HH (s.drop (Go.Proofs.YtcfgfkkhpdlhpaaGreatDoor.nb s n))=ts.headD []:=by
 rw[EK];cases hk:skip (s.drop n) with
 |nil=>rw[<-h.2,kK hk];rfl
 |cons c t=>rw[<-h.2,mS hk];rfl
theorem At.tail {s:List UInt8} {n:Nat} {w:List UInt8} {ts:List (List UInt8)} (h:At s n (w::ts)):1<=w.length/\At s (Go.Proofs.YtcfgfkkhpdlhpaaGreatDoor.nb s n+w.length) ts:=by
 have h2:=h.2;have hd:=EK s n;cases hk:skip (s.drop n) with
 |nil=>rw[kK hk] at h2;cases h2
 |cons c t=>
  rw[mS hk] at h2;cases h2;rw[hk] at hd;have hl:(HH (c::t)).length=lL (c::t):=by unfold HH;rw[bM];exact Nat.min_eq_left (R3 _)
  have hp:=nC c t;have hle:=R3 (c::t);have hnl:=a13 h.1;have hlen:(s.drop (Go.Proofs.YtcfgfkkhpdlhpaaGreatDoor.nb s n)).length=(c::t).length:=by rw[hd]
  rw[d6] at hlen;refine⟨by omega,by omega,?_⟩;rw[<-j3,hd,hl]
theorem kZ [MaxL] (s:List UInt8) (n:Nat) (d:Int) {ts:List (List UInt8)} (h:At s n ts) (hs:s.length<bB):
  SC Tryz.prog 258 [.ptr 0 0] [rd s n d] (.val (.s (ts.headD []))) [rd s (nb s n) d]:=by
 have:=a2E s n d h.1 hs;rw[h.head] at this;exact this
theorem tL [MaxL] (s:List UInt8) (n:Nat) (d:Int) {w:List UInt8} {ts:List (List UInt8)} (h:At s n (w::ts)) (hs:s.length<bB):
  SC Tryz.prog 295 [.ptr 0 0,.s w] [rd s n d] (.val (.b true)) [rd s (nb s n+w.length) d]:=by
 have hw:=kZ s n d h hs;obtain⟨h1,h2,_⟩:=h.tail;unfold bB at hs;refine cY Tryz.func295 rfl ?_;conv=>whnf
 refine rX (q:=0) hw ?_;conv=>whnf
 refine aE (fun hc=>?_) (fun hc=>?_)<;>conv=>whnf
 ·simp at hc
 ·refine⟨[.i .i64 (nb s n+w.length:Nat)],⟨?_,rL _,rfl,bL rfl⟩,?_⟩
  ·rw[bV (by omega) (by omega)];rfl
  ·(conv=>whnf);exact sA rfl rfl (fun _=>rfl)
theorem E0 [MaxL] (s:List UInt8) (n:Nat) (d:Int) {w:List UInt8} {ts:List (List UInt8)} (h:At s n ts) (hs:s.length<bB) (hne:ts.headD []≠w):
  SC Tryz.prog 295 [.ptr 0 0,.s w] [rd s n d] (.val (.b false)) [rd s (nb s n) d]:=by
 have hw:=kZ s n d h hs;unfold bB at hs;refine cY Tryz.func295 rfl ?_;conv=>whnf
 refine rX (q:=0) hw ?_;conv=>whnf
 refine aE (fun hc=>?_) (fun hc=>?_)<;>conv=>whnf
 ·exact sA rfl rfl (fun _=>rfl)
 ·exact absurd (by simpa using hc) hne
end Go.Proofs.YtcfgfkkhpdlhpaaGreatDoor
namespace Go.Proofs.YtcfgfkkhpdlhpaaGreatDoor
abbrev By:=List UInt8
structure Term where
 name:By
 var:Bool
 v:Val
 deriving DecidableEq
inductive Tree where
 |pair (a:Bool) (l r:Tree)
 |no (t:Tree)
 |test (op:By) (l r:Term)
 |truth (b:Bool)
def BA:By:=[111,114]
def nD:By:=[97,110,100]
def k9:By:=[110,111,116]
def l5:By:=[116,114,117,101]
def jS:By:=[102,97,108,115,101]
def TS:List By:=[[61],[60,62],[60],[60,61],[62],[62,61]]
def mU (w:By):Bool:=TS.contains w
def v0:Val:=⟨0,0,[]⟩
def fV (lit:By->Option Val):List By->Option (Term×List By)
 |[]=>none
 |w::ts=>
  if w=[58] then match fV lit ts with
   |some (t,r)=>if t.name=[]∨t.var=true then none else some (⟨t.name,true,t.v⟩,r)
   |none=>none
  else if fP w&&!a2y.contains w then some (⟨w,false,v0⟩,ts)
  else match lit w with
   |some v=>some (⟨[],false,v⟩,ts)
   |none=>none
inductive Md where
 |or|orL (n:Tree)|and|andL (n:Tree)|not|prim
def Md.rk:Md->Nat
 |.or=>4
 |.and=>3
 |.not=>2
 |.prim=>1
 |_=>0
def bR (lit:By->Option Val):Nat->Md->Nat->Nat->List By->Option (Tree×List By×Nat)
 |0,_,_,_,_=>none
 |f+1,.or,lv,d,ts=>match bR lit f .and lv d ts with
  |some (n,r,e)=>bR lit f (.orL n) lv e r
  |none=>none
 |f+1,.orL n,lv,d,ts=>if ts.headD []=BA then match bR lit f .and lv d ts.tail with
   |some (m,r,e)=>bR lit f (.orL (.pair false n m)) lv e r
   |none=>none
  else some (n,ts,d)
 |f+1,.and,lv,d,ts=>match bR lit f .not lv d ts with
  |some (n,r,e)=>bR lit f (.andL n) lv e r
  |none=>none
 |f+1,.andL n,lv,d,ts=>if ts.headD []=nD then match bR lit f .not lv d ts.tail with
   |some (m,r,e)=>bR lit f (.andL (.pair true n m)) lv e r
   |none=>none
  else some (n,ts,d)
 |f+1,.not,lv,d,ts=>if ts.headD []=k9 then match bR lit f .prim (lv+1) (max d (lv+1)) ts.tail with
   |some (n,r,e)=>some (.no n,r,e)
   |none=>none
  else bR lit f .prim lv d ts
 |f+1,.prim,lv,d,ts=>
  if ts.headD []=l5 then some (.truth true,ts.tail,d)
  else if ts.headD []=jS then some (.truth false,ts.tail,d)
  else if ts.headD []=[40] then match bR lit f .or (lv+1) (max d (lv+1)) ts.tail with
   |some (n,r,e)=>if r.headD []=[41] then some (n,r.tail,e) else none
   |none=>none
  else match fV lit ts with
   |some (a,r)=>if mU (r.headD []) then match fV lit r.tail with
     |some (b,r')=>some (.test (r.headD []) a b,r',d)
     |none=>none
    else none
   |none=>none
theorem qL {lit:By->Option Val}:∀{ts r:List By} {t:Term},fV lit ts=some (t,r)->r.length<ts.length
 |[],r,t,h=>by cases h
 |w::ts,r,t,h=>by
  unfold fV at h;split at h
  ·split at h
   ·rename_i h1;split at h
    ·cases h
    ·cases h;have:=qL h1;simp;omega
   ·cases h
  ·split at h
   ·cases h;simp
   ·split at h
    ·cases h;simp
    ·cases h
def Md.loop:Md->Bool
 |.orL _=>true
 |.andL _=>true
 |_=>false
theorem fS {ts:List By} {w:By} (h:ts.headD []=w) (hw:w≠[]):∃r,ts=w::r:=by
 cases ts with
 |nil=>exact absurd h.symm hw
 |cons a r=>exact⟨r,by rw[<-h];rfl⟩
theorem iV {lit:By->Option Val}:∀(f:Nat) (m:Md) (lv d:Nat) (ts r:List By) (t:Tree) (e:Nat),bR lit f m lv d ts=some (t,r,e)->
  r.length<=ts.length/\(m.loop=false->r.length<ts.length)/\d<=e/\e<=max d (lv+ts.length)
 |0,m,lv,d,ts,r,t,e,h=>by cases h
 |f+1,.or,lv,d,ts,r,t,e,h=>by
  unfold bR at h;split at h
  ·rename_i n r1 e1 h1;have a:=iV f _ _ _ _ _ _ _ h1;have b:=iV f _ _ _ _ _ _ _ h;have a2:=a.2.1 rfl;refine⟨?_,fun _=>?_,?_,?_⟩<;>omega
  ·cases h
 |f+1,.orL n,lv,d,ts,r,t,e,h=>by
  unfold bR at h;split at h
  ·rename_i hd;obtain⟨r0,rfl⟩:=fS hd (by decide);split at h
   ·rename_i n r1 e1 h1;have a:=iV f _ _ _ _ _ _ _ h1;have b:=iV f _ _ _ _ _ _ _ h;simp only[gS,aJ] at*;exact⟨by omega,(fun h=>by cases h),by omega,by omega⟩
   ·cases h
  ·cases h;exact⟨rL _,(fun h=>by cases h),by omega,by omega⟩
 |f+1,.and,lv,d,ts,r,t,e,h=>by
  unfold bR at h;split at h
  ·rename_i n r1 e1 h1;have a:=iV f _ _ _ _ _ _ _ h1;have b:=iV f _ _ _ _ _ _ _ h;have a2:=a.2.1 rfl;refine⟨?_,fun _=>?_,?_,?_⟩<;>omega
  ·cases h
 |f+1,.andL n,lv,d,ts,r,t,e,h=>by
  unfold bR at h;split at h
  ·rename_i hd;obtain⟨r0,rfl⟩:=fS hd (by decide);split at h
   ·rename_i n r1 e1 h1;have a:=iV f _ _ _ _ _ _ _ h1;have b:=iV f _ _ _ _ _ _ _ h;simp only[gS,aJ] at*;exact⟨by omega,(fun h=>by cases h),by omega,by omega⟩
   ·cases h
  ·cases h;exact⟨rL _,(fun h=>by cases h),by omega,by omega⟩
 |f+1,.not,lv,d,ts,r,t,e,h=>by
  unfold bR at h;split at h
  ·rename_i hd;obtain⟨r0,rfl⟩:=fS hd (by decide);split at h
   ·rename_i n r1 e1 h1;cases h;have a:=iV f _ _ _ _ _ _ _ h1;have a2:=a.2.1 rfl;simp only[gS,aJ] at*;refine⟨?_,fun _=>?_,?_,?_⟩<;>omega
   ·cases h
  ·have a:=iV f _ _ _ _ _ _ _ h;exact⟨a.1,fun _=>a.2.1 rfl,a.2.2⟩
 |f+1,.prim,lv,d,ts,r,t,e,h=>by
  unfold bR at h;split at h
  ·rename_i hd;obtain⟨r0,rfl⟩:=fS hd (by decide);cases h;simp only[gS,aJ] at*;refine⟨?_,fun _=>?_,?_,?_⟩<;>omega
  ·split at h
   ·rename_i hd;obtain⟨r0,rfl⟩:=fS hd (by decide);cases h;simp only[gS,aJ] at*;refine⟨?_,fun _=>?_,?_,?_⟩<;>omega
   ·split at h
    ·rename_i hd;obtain⟨r0,rfl⟩:=fS hd (by decide);split at h
     ·rename_i n r1 e1 h1;have a:=iV f _ _ _ _ _ _ _ h1;have a2:=a.2.1 rfl;split at h
      ·rename_i hr;obtain⟨r2,rfl⟩:=fS hr (by decide);cases h;simp only[gS,aJ] at*;refine⟨?_,fun _=>?_,?_,?_⟩<;>omega
      ·cases h
     ·cases h
    ·split at h
     ·rename_i a r1 h1;have l1:=qL h1;split at h
      ·split at h
       ·rename_i b r2 h2;have l2:=qL h2;cases h;simp only[List.length_tail] at*;refine⟨?_,fun _=>?_,?_,?_⟩<;>omega
       ·cases h
      ·cases h
     ·cases h
def dS (n:Nat):UInt8:=if n<10 then UInt8.ofNat (48+n) else UInt8.ofNat (87+n)
def mL (c:UInt8):By:=if c=34∨c=92 then[92,c] else if c.toNat<32∨126<c.toNat then[92,120,dS (c.toNat / 16),dS (c.toNat%16)] else[c]
def oX (s:By):By:=34::(s.flatMap mL++[34])
def eX (v:Val):By:=if v.k=1 then Lib.itoa v.n else oX v.s
def PV (v:Val):By:=if v.ok then eX v else[]
def Term.txt (t:Term):By:=if t.var then 58::t.name else if t.name≠[] then t.name else PV t.v
def l8 (a:Bool):Nat:=if a then 2 else 1
def Tree.level:Tree->Nat
 |.pair a _ _=>l8 a
 |.no _=>3
 |.test _ _ _=>4
 |.truth _=>4
def l7 (a:Bool):By:=if a then 32::(nD++[32]) else 32::(BA++[32])
def paren (b:Bool) (s:By):By:=if b then 40::(s++[41]) else s
def Tree.plain:Tree->By
 |.pair a l r=>paren (decide (l.level<l8 a)) l.plain++l7 a++paren (decide (r.level<l8 a)) r.plain
 |.no t=>k9++[32]++paren (decide (t.level<4)) t.plain
 |.test op l r=>l.txt++[32]++op++[32]++r.txt
 |.truth b=>if b then l5 else jS
def Tree.deep:Tree->Nat->Nat
 |.pair a l r,k=>(if l8 a<k then 1 else 0)+max (l.deep (l8 a)) (r.deep (l8 a))
 |.no t,k=>(if 3<k then 1 else 0)+1+t.deep 4
 |_,k=>if 4<k then 1 else 0
def rM (a:Bool):Option Tree->Tree->Tree
 |none,t=>t
 |some x,t=>.pair a x t
def dW (a:Bool) (acc:Option Tree):Tree->Tree
 |.pair b l r=>if a=b then dW a (some (dW a acc l)) r else rM a acc (dW b (some (dW b none l)) r)
 |.no t=>rM a acc (.no (dW true none t))
 |t=>rM a acc t
def Tree.flat (t:Tree):Tree:=dW true none t
def Tree.sides (a:Bool):Tree->List Tree
 |.pair b l r=>if a=b then l.sides a++r.sides a else[.pair b l r]
 |t=>[t]
theorem H0 (a b:Bool) (t:Tree):dW a none t=dW b none t:=by
 cases t with
 |pair c l r=>
  unfold dW;cases a<;>cases b<;>cases c<;>rfl
 |_=>rfl
theorem LF (a:Bool) (t:Tree):t.flat=dW a none t:=H0 true a t
theorem xA (a:Bool):∀(t:Tree) (acc:Option Tree),some (dW a acc t)=(t.sides a).foldl (fun q x=>some (rM a q x.flat)) acc
 |.pair b l r,acc=>by
  unfold dW Tree.sides;by_cases h:a=b
  ·rw[aF h,aF h,List.foldl_append,<-xA a l acc,<-xA a r]
  ·rw[aD h,aD h];show _=some (rM a acc (Tree.pair b l r).flat);rw[LF b];congr 2;conv=>rhs;unfold dW
   rw[aF rfl]
 |.no t,acc=>rfl
 |.test _ _ _,acc=>rfl
 |.truth _,acc=>rfl
theorem qY (a:Bool) (t:Tree):t.sides a≠[]:=by
 induction t with
 |pair b l r ihl ihr=>
  unfold Tree.sides;split
  ·simp[ihl]
  ·simp
 |_=>simp[Tree.sides]
def Tree.size:Tree->Nat
 |.pair _ l r=>l.size+r.size+1
 |.no t=>t.size+1
 |_=>1
theorem uV {a:Bool}:∀{t x:Tree},x∈t.sides a->x.size<=t.size
 |.pair b l r,x,h=>by
  unfold Tree.sides at h;split at h
  ·rcases List.mem_append.1 h with h|h
   ·have:=uV h;simp only[Tree.size];omega
   ·have:=uV h;simp only[Tree.size];omega
  ·simp at h;subst h;exact rL _
 |.no t,x,h=>by simp[Tree.sides] at h;subst h;exact rL _
 |.test _ _ _,x,h=>by simp[Tree.sides] at h;subst h;exact rL _
 |.truth _,x,h=>by simp[Tree.sides] at h;subst h;exact rL _
theorem F2 {a:Bool} {l r x:Tree} (h:x∈(Tree.pair a l r).sides a):x.size<(Tree.pair a l r).size:=by
 unfold Tree.sides at h;rw[aF rfl] at h;rcases List.mem_append.1 h with h|h
 ·have:=uV h;simp only[Tree.size];omega
 ·have:=uV h;simp only[Tree.size];omega
theorem J4 (a:Bool) (l r:Tree):∃x xs,(Tree.pair a l r).sides a=x::xs/\(Tree.pair a l r).flat=xs.foldl (fun q y=>.pair a q y.flat) x.flat:=by
 cases h:(Tree.pair a l r).sides a with
 |nil=>exact absurd h (qY _ _)
 |cons x xs=>
  refine⟨x,xs,rfl,?_⟩;have:=xA a (.pair a l r) none;rw[h] at this;rw[LF a];have key:∀(ys:List Tree) (q:Tree),ys.foldl (fun q x=>some (rM a q x.flat)) (some q)=some (ys.foldl (fun q y=>.pair a q y.flat) q):=by
   intro ys;induction ys with
   |nil=>intro q;rfl
   |cons y ys ih=>intro q;exact ih _
  rw[gZ] at this;rw[show(rM a none x.flat)=x.flat from rfl,key] at this;exact aY this
open Go.RowKit
theorem V3 [MaxL] (l:List UInt8):SC Tryz.prog 331 [.s l] [] (.val (.fn (.func 340) [] [.ptr 0 0])) [.box 9 [.s l]]:=by
 refine dF qO mixed Tryz.func331 rfl (bL rfl) (by simp) rfl ?_;conv=>whnf
 refine⟨[0],Lies.one rfl (fun _=>rfl) (by simp),fun i hi=>absurd hi (dJ i),?_⟩;show Wk _ (GV.fn _ [] [.ptr (jN [0] 1 0) 0]);rw[kY (by simp)];exact .refl _
def XY:List UInt8:=[48,49,50,51,52,53,54,55,56,57,97,98,99,100,101,102]
theorem D6:∀n:Fin 256,0<=((n:Nat):Int).fdiv (2^min (Int.toNat 4) IntKind.u8.bits)/\XY[(((n:Nat):Int).fdiv (2^min (Int.toNat 4) IntKind.u8.bits)).toNat]?=some (dS ((n:Nat) / 16))/\
  (Utf8.encode ((dS ((n:Nat) / 16)).toNat:Int)).data.toList=[dS ((n:Nat) / 16)]:=by decide+kernel
theorem D5:∀n:Fin 256,0<=bits .and .u8 ((n:Nat):Int) 15/\XY[(bits .and .u8 ((n:Nat):Int) 15).toNat]?=some (dS ((n:Nat)%16))/\
  (Utf8.encode ((dS ((n:Nat)%16)).toNat:Int)).data.toList=[dS ((n:Nat)%16)]:=by decide+kernel
theorem AT (l:List UInt8):(l.flatMap mL).length<=4*l.length:=by
 induction l with
 |nil=>simp
 |cons c l ih=>
  rw[f8,aG,aJ];have:(mL c).length<=4:=by unfold mL;split;simp;split<;>simp
  omega
def VJ (vc:List GV) (s:List UInt8) (L:GObj) (bs:List UInt8):List GObj:=[.box 138 vc,gX 1 2 bs,mF bs.length,.box 9 [.s s],.dfr,L]
theorem QY [MaxL] (vc:List GV) (s:List UInt8) (L:GObj) (hL:L.notHeld=true) (hs:s.length<100000) (bs0:List UInt8) (h0:bs0.length<100)
  (hb:∀bs e:List UInt8,bs.length+e.length<1000000000->Fact Tryz.prog (.yld 5) [.s e] ⟨VJ vc s L bs,0,[]⟩ (.val (.b true)) ⟨VJ vc s L (bs++e),0,[]⟩):
  SC Tryz.prog 340 [.yld 5,.ptr 3 0] (VJ vc s L bs0) (.val (.tup [])) (VJ vc s L (bs0++s.flatMap mL)):=by
 refine dF qO mixed Tryz.func340 rfl (bL rfl) (by simp[VJ]) (by simp only[VJ,iX,hL];rfl) ?_;conv=>whnf
 refine cV (fun i:Nat=>i<=s.length) (fun i=>[(0,.yld 5),(1,.ptr 3 0),(7,.i .i64 s.length),(8,.i .i64 i)]) (fun i=>⟨VJ vc s L (bs0++(s.take i).flatMap mL),0,[]⟩) (fun i=>s.length - i) 0 (zL _) ⟨rfl,rfl,rfl,rfl,trivial⟩ (by simp) (fun i φ0 hi=>?_);conv=>whnf
 refine aE (fun h=>?_) (fun h=>?_)<;>conv=>whnf
 ·have hlt:i<s.length:=by simp at h;omega
  have hgi:s[i]?=some (s.getD i 0):=by rw[aO,gL hlt];rfl
  have htk:(s.take (i+1)).flatMap mL=(s.take i).flatMap mL++mL (s.getD i 0):=by
   rw[bP,hgi,List.flatMap_append];simp
  have hlen:((s.take i).flatMap mL).length<=4*i:=by
   have:=AT (s.take i);rw[bM] at this;omega
  have w1:IntKind.i64.wrap ((i:Int)+1)=((i+1:Nat):Int):=bV (by omega) (by omega);generalize hc:s.getD i 0=c at*;refine⟨cN _,?_⟩;conv=>whnf
  refine⟨by rw[w1];omega,?_⟩;conv=>whnf
  refine⟨⟨by rw[w1];omega,by rw[w1];omega⟩,[c],?_,?_⟩
  ·rw[w1,aA,aA,aT hlt,show i+1 - i=1 by omega];rw[gL hlt] at hgi;cases hgi;rfl
  conv=>whnf
  refine⟨cN _,c,by simpa using hgi,?_⟩;conv=>whnf
  refine aE (fun h34=>?_) (fun h34=>?_)<;>conv=>whnf
  ·refine⟨by simp[tO],[92,c],rfl,?_⟩;(conv=>whnf);refine OH (hb _ [92,c] (by rw[aG];simp only[aJ,b5];omega)) ?_;(conv=>whnf);refine eP (i+1) hlt (by omega) ⟨rfl,rfl,rfl,b7 (by omega),trivial⟩ ?_;rw[htk,<-bG,show mL c=[92,c] from aF (.inl (iU (d:=34) h34))]
  refine aE (fun h92=>?_) (fun h92=>?_)<;>conv=>whnf
  ·refine⟨by simp[tO],[92,c],rfl,?_⟩;(conv=>whnf);refine OH (hb _ [92,c] (by rw[aG];simp only[aJ,b5];omega)) ?_;(conv=>whnf);refine eP (i+1) hlt (by omega) ⟨rfl,rfl,rfl,b7 (by omega),trivial⟩ ?_;rw[htk,<-bG,show mL c=[92,c] from aF (.inr (iU (d:=92) h92))]
  have hn34:=jT (d:=34) h34;have hn92:=jT (d:=92) h92;have e1:∀{x y:List UInt8},(if c=34∨c=92 then x else y)=y:=fun{x y}=>aD (by simp[hn34,hn92]);refine aE (fun h32=>?_) (fun h32=>?_)<;>conv=>whnf
  ·skip;refine aZ (by kernel_rfl) ?_;(conv=>whnf);refine⟨by decide,?_⟩;(conv=>whnf);refine⟨(D6 ⟨c.toNat,bX c⟩).1,dS (c.toNat / 16),(D6 ⟨c.toNat,bX c⟩).2.1,?_⟩;(conv=>whnf);refine⟨by rw[(D6 ⟨c.toNat,bX c⟩).2.2];simp[tO],[92,120,dS (c.toNat / 16)],by rw[(D6 ⟨c.toNat,bX c⟩).2.2];rfl,?_⟩;(conv=>whnf);refine⟨(D5 ⟨c.toNat,bX c⟩).1,dS (c.toNat%16),(D5 ⟨c.toNat,bX c⟩).2.1,?_⟩;(conv=>whnf);refine⟨by rw[(D5 ⟨c.toNat,bX c⟩).2.2];simp[tO],[92,120,dS (c.toNat / 16),dS (c.toNat%16)],by rw[(D5 ⟨c.toNat,bX c⟩).2.2];rfl,?_⟩;(conv=>whnf);refine OH (hb _ [92,120,dS (c.toNat / 16),dS (c.toNat%16)] (by rw[aG];simp only[aJ,b5];omega)) ?_;(conv=>whnf);refine eP (i+1) hlt (by omega) ⟨rfl,rfl,rfl,b7 (by omega),trivial⟩ ?_;rw[htk,<-bG,show mL c=[92,120,dS (c.toNat / 16),dS (c.toNat%16)] from(e1).trans (aF (by simp at h32;omega))]
  refine aE (fun h126=>?_) (fun h126=>?_)<;>conv=>whnf
  ·skip;refine aZ (by kernel_rfl) ?_;(conv=>whnf);refine⟨by decide,?_⟩;(conv=>whnf);refine⟨(D6 ⟨c.toNat,bX c⟩).1,dS (c.toNat / 16),(D6 ⟨c.toNat,bX c⟩).2.1,?_⟩;(conv=>whnf);refine⟨by rw[(D6 ⟨c.toNat,bX c⟩).2.2];simp[tO],[92,120,dS (c.toNat / 16)],by rw[(D6 ⟨c.toNat,bX c⟩).2.2];rfl,?_⟩;(conv=>whnf);refine⟨(D5 ⟨c.toNat,bX c⟩).1,dS (c.toNat%16),(D5 ⟨c.toNat,bX c⟩).2.1,?_⟩;(conv=>whnf);refine⟨by rw[(D5 ⟨c.toNat,bX c⟩).2.2];simp[tO],[92,120,dS (c.toNat / 16),dS (c.toNat%16)],by rw[(D5 ⟨c.toNat,bX c⟩).2.2];rfl,?_⟩;(conv=>whnf);refine OH (hb _ [92,120,dS (c.toNat / 16),dS (c.toNat%16)] (by rw[aG];simp only[aJ,b5];omega)) ?_;(conv=>whnf);refine eP (i+1) hlt (by omega) ⟨rfl,rfl,rfl,b7 (by omega),trivial⟩ ?_;rw[htk,<-bG,show mL c=[92,120,dS (c.toNat / 16),dS (c.toNat%16)] from(e1).trans (aF (by simp at h126;omega))]
  refine OH (hb _ [c] (by rw[aG];simp only[aJ,b5];omega)) ?_;conv=>whnf
  refine eP (i+1) hlt (by omega) ⟨rfl,rfl,rfl,b7 (by omega),trivial⟩ ?_;rw[htk,<-bG,show mL c=[c] from(e1).trans (aD (by simp at h32 h126;omega))]
 ·have:i=s.length:=by simp at h;omega
  subst this;rw[b6];refine⟨List.range 6,Lies.all (VJ vc s L (bs0++s.flatMap mL)) (fun x hx e=>?_),fun j hj=>?_,?_⟩
  ·subst e;simp[VJ,gX,mF] at hx;subst hx;cases hL
  ·have:j<6:=hj;simp[this]
  ·exact .refl _
theorem V1 [MaxL] (v:Val) (hv:v.s.length<100000) (h0: -9223372036854775808<=v.n) (h1:v.n<=9223372036854775807):SC Tryz.prog 320 [v.gv] [] (.val (.s (eX v))) []:=by
 obtain⟨k,n,s⟩:=v;refine cY Tryz.func320 rfl ?_;conv=>whnf
 refine aE (fun hk=>?_) (fun hk=>?_)<;>conv=>whnf
 ·have:k=1:=by simpa using hk
  subst this;refine lM (LR n h0 h1) ?_;conv=>whnf
  exact gG rfl
 ·have:k≠1:=by simpa using hk
  refine uI (B3 34) [1] (objs':=[.box 138 [.i .i64 k,.i .i64 n,.s s],gX 1 2 [34],mF 1]) (Lies.one' rfl (by simp[B4])) (wR _) rfl rfl rfl rfl ?_;conv=>whnf
  refine uI (V3 s) [] (objs':=[.box 138 [.i .i64 k,.i .i64 n,.s s],gX 1 2 [34],mF 1,.box 9 [.s s]]) Lies.nil (wR _) rfl rfl rfl rfl ?_;conv=>whnf
  have hv':s.length<100000:=hv;refine⟨.val (.tup []),⟨VJ [.i .i64 k,.i .i64 n,.s s] s (.loop .ready none _ _ _ _ _ 4) ([34]++s.flatMap mL),0,[.coll 4]⟩,SC.factAll (QY [.i .i64 k,.i .i64 n,.s s] s (.loop .ready none _ _ _ _ _ 4) rfl (by omega) [34] (by simp) (fun bs e hl=>?hb)) rfl rfl ?hh,?_⟩
  case hb=>
   refine Fact.yld qO mixed (r:=5) rfl rfl (by kernel_rfl) rfl rfl (rL _) rfl rfl ?_;(conv=>whnf);refine a0Y hl rfl ?_;(conv=>whnf);rfl
  case hh=>
   intro x hx e;subst e;simp[VJ,gX,mF] at hx
  have hlen:=AT s;conv=>whnf
  refine a0Z (bs:=[34]++s.flatMap mL) (c:=34) (by rw[aG];simp only[aJ,b5];omega) rfl ?_;conv=>whnf
  refine YL (M:=fun _=>false) (c:=34) (t:=s.flatMap mL++[34]) (by rw[aG];simp only[aJ,b5];omega) rfl ?_;conv=>whnf
  refine gG ?_;unfold eX;rw[aD this];rfl
def jJ (vs:List Val):List UInt8:=Lib.join (vs.map eX) [44]
theorem IK {v:Val} (h:v.ok=true): -1000000000<=v.n/\v.n<=1000000000/\v.s.length<=40:=by
 simp[Val.ok] at h;rcases h with⟨⟨⟨_,h1⟩,h2⟩,h3⟩|⟨⟨_,h2⟩,h3⟩
 ·refine⟨h2,h3,by rw[h1];simp⟩
 ·refine⟨by omega,by omega,h3⟩
theorem pR [MaxL] {e:Nat->Nat} {r:Nat} {l:List GV} (h:e r=r) (hl:ClL l):(GV.sl (.own r) l).ren e=.sl (.own r) l:=by
 rw[GV.ren,cM,hl e];show GV.sl (.own (e r)) l=_;rw[h]
def ow (T:TypeId) (k:Nat):Nat->GObj
 |0=>.own 0 0 0
 |i+1=>.own (i+1) k T
theorem z7 [MaxL] (T:TypeId) (k i:Nat) (f:Nat->Nat):(ow T k i).ren f=ow T k i:=by cases i<;>rfl
theorem oB (T:TypeId) (k i:Nat):(ow T k i).notHeld=true:=by cases i<;>rfl
def yP (vs:List Val):List GV:=vs.map fun v=>.s (eX v)
theorem a0E (l:List (List UInt8)) (l7:List UInt8) (b:Nat) (h:∀x∈l,x.length<=b):(Lib.join l l7).length<=(b+l7.length)*l.length:=by
 have hl:∀l:List (List UInt8),(∀x∈l,x.length<=b)->Lib.lens l<=b*l.length:=by
  intro l;induction l with
  |nil=>intro _;simp[Lib.lens]
  |cons x r ih=>
   intro h;have h1:=h x (by simp);have h2:=ih fun y hy=>h y (by simp[hy]);have e:Lib.lens (x::r)=x.length+Lib.lens r:=by simp[Lib.lens]
   rw[e,aJ,Nat.mul_add];omega
 cases l with
 |nil=>simp[Lib.join]
 |cons x r=>
  rw[Lib.join_length];have:=hl _ h;have e:(b+l7.length)*(x::r).length=b*(x::r).length+l7.length*(r.length+1):=by rw[Nat.add_mul,aJ]
  rw[e,Nat.mul_add];omega
theorem ZC (vs:List Val):(yP vs).all (fun x=>x.cells.length==1)=true:=by
 rw[aS];intro x hx;obtain⟨v,_,rfl⟩:=List.mem_map.1 hx;rfl
theorem vU [MaxL] (vs:List Val) (hb:vs.length<bB):SC Tryz.prog 301 [.sl .none (iI vs)] [] (.val (.s (if pN vs then jJ vs else[]))) []:=by
 refine cY Tryz.func301 rfl ?_;conv=>whnf
 refine bD (vS vs hb) (wR _) rfl (cC (bT (j9 vs)) (fun _=>rfl)) (.b _) ?_;conv=>whnf
 by_cases hok:pN vs=true
 ·rw[hok];conv=>whnf
  have hok':=hok;simp only[pN,aH,aK] at hok';obtain⟨h8,hall⟩:=hok';rw[aS] at hall;refine eT (fun i:Nat=>i<=vs.length) (fun i=>[(3,.sl (.own 0) (yP (vs.take i))),(9,.sl .none (iI vs)),(10,.i .i64 (iI vs).length),(11,.i .i64 i)])
   (fun i=>⟨[ow 9 1 i],0,[]⟩) (fun i=>vs.length - i) 0 (zL _) ⟨rfl,rfl,rfl,rfl,trivial⟩ rfl (fun _ _=>rL _) (fun i _=>by simp[oB]) (fun i _ e he=>?_) (fun i φ0 hi=>?_)
  ·refine⟨by simp[z7],rfl,?_⟩;show[(GV.sl (.own 0) (yP (vs.take i))).ren e,(GV.sl .none (iI vs)).ren e,_,_]=_;rw[pR (he 0 (by simp)) (l:=yP (vs.take i)) (gI (fun _=>Cl.s _) _),bT (j9 vs) e];rfl
  conv=>whnf
  refine aE (fun h=>?_) (fun h=>?_)<;>conv=>whnf
  ·have hlt:i<vs.length:=by simp[iI] at h;omega
   have hgi:vs[i]?=some (vs.getD i ⟨0,0,[]⟩):=by rw[aO,gL hlt];rfl
   have hin:=IK (hall _ (aL hgi));have htk:yP (vs.take (i+1))=yP (vs.take i)++[.s (eX (vs.getD i ⟨0,0,[]⟩))]:=by
    rw[bP,hgi];simp[yP]
   generalize vs.getD i ⟨0,0,[]⟩=v at*;refine⟨cN _,v.gv,by simp[iI,hgi],rfl,?_⟩;(conv=>whnf);refine⟨_,⟨rfl,zL _,rfl,bL rfl⟩,?_⟩;(conv=>whnf);refine bD (V1 v (by omega) (by omega) (by omega)) (wR _) rfl (fun _=>rfl) (.s _) ?_;(conv=>whnf);have hlen:(yP (vs.take i)).length=i:=by simp[yP];omega
   cases i with
   |zero=>
    refine⟨⟨rfl,rfl,bL rfl⟩,yP (vs.take 1),1,⟨htk,rfl⟩,?_⟩;(conv=>whnf);refine⟨⟨zL _,rfl,.inr ⟨rfl,rfl⟩⟩,?_⟩;(conv=>whnf);exact⟨vs.length - 1,(by show _<vs.length - 0;omega),1,hlt,rfl,⟨rfl,rfl,rfl,rfl,trivial⟩,_,rfl,rfl⟩
   |succ j=>
    refine⟨⟨rfl,ZC _,by show(yP (vs.take (j+1))).length+1<=4294967296;omega⟩,yP (vs.take (j+1+1)),j+1+1,⟨htk,by show _=(yP (vs.take (j+1))).length+1;omega⟩,?_⟩;(conv=>whnf);refine⟨⟨zL _,by rw[hlen],.inl ⟨rfl,rfl⟩⟩,?_⟩;(conv=>whnf);exact⟨vs.length - (j+1+1),(by show _<vs.length - (j+1);omega),j+1+1,hlt,rfl,⟨rfl,rfl,rfl,b7 (by omega),trivial⟩,_,rfl,rfl⟩
  ·have:i=vs.length:=by simp[iI] at h;omega
   subst this;rw[b6];have e:yP vs=(vs.map eX).map .s:=by simp[yP]
   rw[e];have hlw:∀x∈vs.map eX,x.length<=170:=fun x hx=>by
    obtain⟨v,hv,rfl⟩:=List.mem_map.1 hx;have:=IK (hall v hv);unfold eX;split
    ·have:=Lib.itoa_length_le v.n (by omega) (by omega);omega
    ·have:=AT v.s;simp only[oX,aJ,aG,b5];omega
   refine bD (a2M (vs.map eX) [44] (by simp;omega) ?_) (wC (bI _ _) (wR _)) rfl (cC (bT (gI Cl.s _)) (fun _=>rfl)) (.s _) ?_
   ·exact fZ (a0E (vs.map eX) [44] 170 hlw) (by simp;omega)
   (conv=>whnf);exact gG rfl
 ·rw[Bool.not_eq_true] at hok;rw[hok];exact gG rfl
