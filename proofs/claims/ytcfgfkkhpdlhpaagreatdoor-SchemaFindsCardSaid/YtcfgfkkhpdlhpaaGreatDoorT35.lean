/-
  A part of the proof of SchemaFinds.
-/
import Derived.Test.YtcfgfkkhpdlhpaaGreatDoorT34
set_option linter.all false
set_option maxRecDepth 100000
namespace Go.Proofs.YtcfgfkkhpdlhpaaGreatDoor
open Go.RowKit
theorem B8 (v:Val):pK [v]=v.ok:=by simp[pK]
theorem SL [MaxL] (t:Term) (h:t.name.length<1000000000):SC Tryz.prog 261 [t.gv] [] (.val (.s t.txt)) []:=by
 obtain⟨nm,vr,v⟩:=t;refine cZ Tryz.func261 rfl ?_;conv=>whnf
 cases vr with
 |true=>
  conv=>whnf
  refine⟨by show 1+nm.length<4611686018427387904;have h':nm.length<1000000000:=h;omega,58::nm,rfl,?_⟩;conv=>whnf
  exact gI rfl
 |false=>
  conv=>whnf
  refine aF (fun hn=>?_) (fun hn=>?_)<;>conv=>whnf
  ·have hn':nm≠[]:=by simpa using hn
   refine gI ?_;show nm=if nm≠[] then nm else PC v;rw[aG hn']
  ·have hn':nm=[]:=by simpa using hn
   subst hn';have hIT:=vL [v] (by show 1<bH;decide);refine bG hIT (wC (bE _ _) jL) rfl (cC (bV (jJ _)) dM) (.s _) ?_;(conv=>whnf);refine gI ?_;rw[B8];show(if v.ok=true then jM [v] else[])=PC v;unfold PC;have:jM [v]=eV v:=Lib.join_one _ _;rw[this]
theorem AP [MaxL] (t:Tree):(∀a l r,t=.pair a l r->SC Tryz.prog 378 [.agg t.cs] [] (.val (.i .i64 (t.level:Nat))) [])/\(∀x,t=.no x->SC Tryz.prog 377 [.agg t.cs] [] (.val (.i .i64 (t.level:Nat))) [])/\
  (∀o l r,t=.test o l r->SC Tryz.prog 376 [.agg t.cs] [] (.val (.i .i64 (t.level:Nat))) [])/\(∀b,t=.truth b->SC Tryz.prog 379 [.agg t.cs] [] (.val (.i .i64 (t.level:Nat))) []):=by
 refine⟨fun a l r h=>?_,fun x h=>?_,fun o l r h=>?_,fun b h=>?_⟩
 ·subst h;refine cZ Tryz.func378 rfl ?_;conv=>whnf
  exact bI rfl
 ·subst h;refine cZ Tryz.func377 rfl ?_;conv=>whnf
  exact bI rfl
 ·subst h;refine cZ Tryz.func376 rfl ?_;conv=>whnf
  exact bI rfl
 ·subst h;refine cZ Tryz.func379 rfl ?_;conv=>whnf
  exact bI rfl
theorem qI (b:Bool) (s:List UInt8):s.length<=(paren b s).length/\(paren b s).length<=s.length+2:=by
 unfold paren;cases b<;>simp<;>omega
theorem QD [MaxL] (t:Tree) (k:Nat) (hb:t.plain.length<1000000000) (hc:SC Tryz.prog 219 [t.gv] [] (.val (.s t.plain)) []):
  SC Tryz.prog 260 [t.gv,.i .i64 (k:Nat)] [] (.val (.s (paren (decide (t.level<k)) t.plain))) []:=by
 obtain⟨h1,h2,h3,h4⟩:=AP t;refine cZ Tryz.func260 rfl ?_;conv=>whnf
 refine bG hc (wR _) rfl (cC t.cl .nil) (.s _) ?_;conv=>whnf
 cases t with
 |pair a l r=>
  conv=>whnf
  refine bG (h1 a l r rfl) (wR _) rfl (cC (eO (Tree.cs_cl _)) .nil) (.i _ _) ?_;conv=>whnf
  refine aF (fun hlt=>?_) (fun hlt=>?_)<;>conv=>whnf
  ·have hd:decide ((Tree.pair a l r).level<k)=true:=by simpa using hlt
   refine⟨by show 1+(Tree.pair a l r).plain.length<4611686018427387904;omega,40::(Tree.pair a l r).plain,rfl,?_⟩;(conv=>whnf);refine⟨by show(Tree.pair a l r).plain.length+1+1<4611686018427387904;omega,40::((Tree.pair a l r).plain++[41]),rfl,?_⟩;(conv=>whnf);refine gI ?_;rw[hd];rfl
  ·have hd:decide ((Tree.pair a l r).level<k)=false:=by simpa using hlt
   refine gI ?_;rw[hd];rfl
 |no x=>
  conv=>whnf
  refine bG (h2 x rfl) (wR _) rfl (cC (eO (Tree.cs_cl _)) .nil) (.i _ _) ?_;conv=>whnf
  refine aF (fun hlt=>?_) (fun hlt=>?_)<;>conv=>whnf
  ·have hd:decide ((Tree.no x).level<k)=true:=by simpa using hlt
   refine⟨by show 1+(Tree.no x).plain.length<4611686018427387904;omega,40::(Tree.no x).plain,rfl,?_⟩;(conv=>whnf);refine⟨by show(Tree.no x).plain.length+1+1<4611686018427387904;omega,40::((Tree.no x).plain++[41]),rfl,?_⟩;(conv=>whnf);refine gI ?_;rw[hd];rfl
  ·have hd:decide ((Tree.no x).level<k)=false:=by simpa using hlt
   refine gI ?_;rw[hd];rfl
 |test o l r=>
  conv=>whnf
  refine bG (h3 o l r rfl) (wR _) rfl (cC (eO (Tree.cs_cl _)) .nil) (.i _ _) ?_;conv=>whnf
  refine aF (fun hlt=>?_) (fun hlt=>?_)<;>conv=>whnf
  ·have hd:decide ((Tree.test o l r).level<k)=true:=by simpa using hlt
   refine⟨by show 1+(Tree.test o l r).plain.length<4611686018427387904;omega,40::(Tree.test o l r).plain,rfl,?_⟩;(conv=>whnf);refine⟨by show(Tree.test o l r).plain.length+1+1<4611686018427387904;omega,40::((Tree.test o l r).plain++[41]),rfl,?_⟩;(conv=>whnf);refine gI ?_;rw[hd];rfl
  ·have hd:decide ((Tree.test o l r).level<k)=false:=by simpa using hlt
   refine gI ?_;rw[hd];rfl
 |truth b=>
  conv=>whnf
  refine bG (h4 b rfl) (wR _) rfl (cC (eO (Tree.cs_cl _)) .nil) (.i _ _) ?_;conv=>whnf
  refine aF (fun hlt=>?_) (fun hlt=>?_)<;>conv=>whnf
  ·have hd:decide ((Tree.truth b).level<k)=true:=by simpa using hlt
   refine⟨by show 1+(Tree.truth b).plain.length<4611686018427387904;omega,40::(Tree.truth b).plain,rfl,?_⟩;(conv=>whnf);refine⟨by show(Tree.truth b).plain.length+1+1<4611686018427387904;omega,40::((Tree.truth b).plain++[41]),rfl,?_⟩;(conv=>whnf);refine gI ?_;rw[hd];rfl
  ·have hd:decide ((Tree.truth b).level<k)=false:=by simpa using hlt
   refine gI ?_;rw[hd];rfl
def Tree.nice:Tree->Prop
 |.pair _ l r=>l.nice/\r.nice
 |.no t=>t.nice
 |.test op l r=>op.length<=2/\(l.name.length<=16/\l.txt.length<=180)/\(r.name.length<=16/\r.txt.length<=180)
 |.truth _=>True
theorem EA [MaxL]:∀t:Tree,t.nice->t.plain.length<1000000->SC Tryz.prog 219 [t.gv] [] (.val (.s t.plain)) []
 |.pair a l r,hn,hb=>by
  have e:(Tree.pair a l r).plain=paren (decide (l.level<lD a)) l.plain++l9 a++paren (decide (r.level<lD a)) r.plain:=rfl;rw[e] at hb;simp only[aD] at hb;have p1:=qI (decide (l.level<lD a)) l.plain;have p2:=qI (decide (r.level<lD a)) r.plain;have s1:=QD l (lD a) (by omega) (EA l hn.1 (by omega));have s2:=QD r (lD a) (by omega) (EA r hn.2 (by omega));rw[e];generalize paren (decide (l.level<lD a)) l.plain=x1 at*;generalize paren (decide (r.level<lD a)) r.plain=x2 at*;refine cZ Tryz.func219 rfl ?_;conv=>whnf
  refine⟨_,⟨rfl,zL _,rfl,bL rfl⟩,?_⟩;conv=>whnf
  cases a with
  |true=>
   (conv=>whnf);refine b9 (by kernel_rfl) ?_;(conv=>whnf);refine bG s1 (wR _) rfl (cC l.cl (.cons (.i _ _) .nil)) (.s _) ?_;(conv=>whnf);refine⟨by show x1.length+(l9 true).length<4611686018427387904;omega,x1++l9 true,rfl,?_⟩;(conv=>whnf);refine bG s2 (wR _) rfl (cC r.cl (.cons (.i _ _) .nil)) (.s _) ?_;(conv=>whnf);refine⟨by show(x1++l9 true).length+x2.length<4611686018427387904;rw[aD];omega,x1++l9 true++x2,rfl,?_⟩;(conv=>whnf);exact gI rfl
  |false=>
   (conv=>whnf);refine b9 (by kernel_rfl) ?_;(conv=>whnf);refine bG s1 (wR _) rfl (cC l.cl (.cons (.i _ _) .nil)) (.s _) ?_;(conv=>whnf);refine⟨by show x1.length+(l9 false).length<4611686018427387904;omega,x1++l9 false,rfl,?_⟩;(conv=>whnf);refine bG s2 (wR _) rfl (cC r.cl (.cons (.i _ _) .nil)) (.s _) ?_;(conv=>whnf);refine⟨by show(x1++l9 false).length+x2.length<4611686018427387904;rw[aD];omega,x1++l9 false++x2,rfl,?_⟩;(conv=>whnf);exact gI rfl
 |.no t,hn,hb=>by
  have e:(Tree.no t).plain=kC++[32]++paren (decide (t.level<4)) t.plain:=rfl;rw[e] at hb;simp only[aD] at hb;have p1:=qI (decide (t.level<4)) t.plain;have s1:=QD t 4 (by omega) (EA t hn (by omega));rw[e];generalize paren (decide (t.level<4)) t.plain=x1 at*;refine cZ Tryz.func219 rfl ?_;conv=>whnf
  refine⟨_,⟨rfl,zL _,rfl,bL rfl⟩,?_⟩;conv=>whnf
  refine bG s1 (wR _) rfl (cC t.cl (.cons (.i _ _) .nil)) (.s _) ?_;conv=>whnf
  refine⟨by show 4+x1.length<4611686018427387904;omega,kC++[32]++x1,rfl,?_⟩;conv=>whnf
  exact gI rfl
 |.test op l r,hn,hb=>by
  have s1:=SL l (by have:=hn.2.1.1;omega);have s2:=SL r (by have:=hn.2.2.1;omega);have e:(Tree.test op l r).plain=l.txt++[32]++op++[32]++r.txt:=rfl;rw[e] at hb;simp only[aD] at hb;rw[e];generalize l.txt=x1 at*;generalize r.txt=x2 at*;refine cZ Tryz.func219 rfl ?_;conv=>whnf
  refine⟨_,⟨rfl,zL _,rfl,bL rfl⟩,?_⟩;conv=>whnf
  refine b9 (by kernel_rfl) ?_;conv=>whnf
  refine nH s1 ?_;conv=>whnf
  refine⟨by show x1.length+1<4611686018427387904;omega,x1++[32],rfl,?_⟩;conv=>whnf
  refine⟨by show(x1++[32]).length+op.length<4611686018427387904;rw[aD];simp only[aJ,b5] at hb⊢;omega,x1++[32]++op,rfl,?_⟩;conv=>whnf
  refine⟨by show(x1++[32]++op).length+1<4611686018427387904;simp only[aD,aJ,b5] at hb⊢;omega,x1++[32]++op++[32],rfl,?_⟩;conv=>whnf
  refine nH s2 ?_;conv=>whnf
  refine⟨by show(x1++[32]++op++[32]).length+x2.length<4611686018427387904;simp only[aD,aJ,b5] at hb⊢;omega,x1++[32]++op++[32]++x2,rfl,?_⟩;conv=>whnf
  exact gI rfl
 |.truth b,hn,hb=>by
  refine cZ Tryz.func219 rfl ?_;conv=>whnf
  refine⟨_,⟨rfl,zL _,rfl,bL rfl⟩,?_⟩;conv=>whnf
  cases b with
  |true=>
   (conv=>whnf);exact gI rfl
  |false=>
   (conv=>whnf);exact gI rfl
theorem xV:∀(t:Tree) (k:Nat),t.deep k<=2*t.size
 |.pair a l r,k=>by
  have h1:=xV l (lD a);have h2:=xV r (lD a);simp only[Tree.deep,Tree.size];split<;>omega
 |.no t,k=>by
  have h1:=xV t 4;simp only[Tree.deep,Tree.size];split<;>omega
 |.test _ _ _,k=>by simp only[Tree.deep,Tree.size];split<;>omega
 |.truth _,k=>by simp only[Tree.deep,Tree.size];split<;>omega
theorem LF [MaxL]:∀(t:Tree) (k:Nat),t.size<1000000000->SC Tryz.prog 220 [t.gv,.i .i64 (k:Nat)] [] (.val (.i .i64 (t.deep k:Nat))) []
 |.pair a l r,k,hb=>by
  simp only[Tree.size] at hb;have s1:=LF l (lD a) (by omega);have s2:=LF r (lD a) (by omega);have d1:=xV l (lD a);have d2:=xV r (lD a);have e:(Tree.pair a l r).deep k=(if lD a<k then 1 else 0)+max (l.deep (lD a)) (r.deep (lD a)):=rfl;rw[e];generalize l.deep (lD a)=x1 at*;generalize r.deep (lD a)=x2 at*;obtain⟨h1,_⟩:=AP (.pair a l r);refine cZ Tryz.func220 rfl ?_;conv=>whnf
  refine bG (h1 a l r rfl) (wR _) rfl (cC (eO (Tree.cs_cl _)) .nil) (.i _ _) ?_;conv=>whnf
  refine aF (fun hlt=>?_) (fun hlt=>?_)<;>conv=>whnf
  ·have hd:lD a<k:=Int.ofNat_lt.1 (aA hlt);rw[aG hd];refine⟨_,⟨rfl,zL _,rfl,bL rfl⟩,?_⟩;(conv=>whnf);refine b9 (by kernel_rfl) ?_;(conv=>whnf);refine bG s1 (wR _) rfl (cC l.cl (.cons (.i _ _) .nil)) (.i _ _) ?_;(conv=>whnf);refine bG s2 (wR _) rfl (cC r.cl (.cons (.i _ _) .nil)) (.i _ _) ?_;(conv=>whnf);refine bI ?_;show IntKind.i64.wrap ((1:Int)+(if(x1:Int)<(x2:Int) then(x2:Int) else(x1:Int)))=_;rw[cD (by split<;>omega) (by split<;>omega)];split<;>omega
  ·have hd:¬lD a<k:=fun h=>(aB hlt) (Int.ofNat_lt.2 h);rw[aE hd];refine⟨_,⟨rfl,zL _,rfl,bL rfl⟩,?_⟩;(conv=>whnf);refine b9 (by kernel_rfl) ?_;(conv=>whnf);refine bG s1 (wR _) rfl (cC l.cl (.cons (.i _ _) .nil)) (.i _ _) ?_;(conv=>whnf);refine bG s2 (wR _) rfl (cC r.cl (.cons (.i _ _) .nil)) (.i _ _) ?_;(conv=>whnf);refine bI ?_;show IntKind.i64.wrap ((0:Int)+(if(x1:Int)<(x2:Int) then(x2:Int) else(x1:Int)))=_;rw[cD (by split<;>omega) (by split<;>omega)];split<;>omega
 |.no t,k,hb=>by
  simp only[Tree.size] at hb;have s1:=LF t 4 (by omega);have d1:=xV t 4;have e:(Tree.no t).deep k=(if 3<k then 1 else 0)+1+t.deep 4:=rfl;rw[e];generalize t.deep 4=x1 at*;obtain⟨_,h2,_⟩:=AP (.no t);refine cZ Tryz.func220 rfl ?_;conv=>whnf
  refine bG (h2 t rfl) (wR _) rfl (cC (eO (Tree.cs_cl _)) .nil) (.i _ _) ?_;conv=>whnf
  refine aF (fun hlt=>?_) (fun hlt=>?_)<;>conv=>whnf
  ·have hd:3<k:=Int.ofNat_lt.1 (aA hlt);rw[aG hd];refine⟨_,⟨rfl,zL _,rfl,bL rfl⟩,?_⟩;(conv=>whnf);refine bG s1 (wR _) rfl (cC t.cl (.cons (.i _ _) .nil)) (.i _ _) ?_;(conv=>whnf);refine bI ?_;show IntKind.i64.wrap (IntKind.i64.wrap (1+1)+(x1:Int))=_;rw[show IntKind.i64.wrap (1+1)=2 by decide,cD (by omega) (by omega)];omega
  ·have hd:¬3<k:=fun h=>(aB hlt) (Int.ofNat_lt.2 h);rw[aE hd];refine⟨_,⟨rfl,zL _,rfl,bL rfl⟩,?_⟩;(conv=>whnf);refine bG s1 (wR _) rfl (cC t.cl (.cons (.i _ _) .nil)) (.i _ _) ?_;(conv=>whnf);refine bI ?_;show IntKind.i64.wrap (IntKind.i64.wrap (0+1)+(x1:Int))=_;rw[show IntKind.i64.wrap (0+1)=1 by decide,cD (by omega) (by omega)];omega
 |.test o l r,k,hb=>by
  obtain⟨_,_,h3,_⟩:=AP (.test o l r);refine cZ Tryz.func220 rfl ?_;conv=>whnf
  refine bG (h3 o l r rfl) (wR _) rfl (cC (eO (Tree.cs_cl _)) .nil) (.i _ _) ?_;conv=>whnf
  refine aF (fun hlt=>?_) (fun hlt=>?_)<;>conv=>whnf
  ·have hd:4<k:=Int.ofNat_lt.1 (aA hlt);refine bI ?_;show _=(((if 4<k then 1 else 0:Nat)):Int);rw[aG hd];rfl
  ·have hd:¬4<k:=fun h=>(aB hlt) (Int.ofNat_lt.2 h);refine bI ?_;show _=(((if 4<k then 1 else 0:Nat)):Int);rw[aE hd];rfl
 |.truth b,k,hb=>by
  obtain⟨_,_,_,h4⟩:=AP (.truth b);refine cZ Tryz.func220 rfl ?_;conv=>whnf
  refine bG (h4 b rfl) (wR _) rfl (cC (eO (Tree.cs_cl _)) .nil) (.i _ _) ?_;conv=>whnf
  refine aF (fun hlt=>?_) (fun hlt=>?_)<;>conv=>whnf
  ·have hd:4<k:=Int.ofNat_lt.1 (aA hlt);refine bI ?_;show _=(((if 4<k then 1 else 0:Nat)):Int);rw[aG hd];rfl
  ·have hd:¬4<k:=fun h=>(aB hlt) (Int.ofNat_lt.2 h);refine bI ?_;show _=(((if 4<k then 1 else 0:Nat)):Int);rw[aE hd];rfl
end Go.Proofs.YtcfgfkkhpdlhpaaGreatDoor
namespace Go.Proofs.YtcfgfkkhpdlhpaaGreatDoor
open Go.RowKit Go.Sort
theorem a0a [MaxL] (n:Nat) (h1:1<=n) (h2:n<=1000000):SC Tryz.prog 318 [.sl .full [],.i .i64 (n:Nat)] [] (.val (.sl (.own 0) [])) [.own 0 1 200]:=by
 refine⟨by simp,fun C w vs hr hv=>?_,by simp⟩;obtain⟨v,vs',e,hv1,hv2⟩:=hv.cons_inv;obtain⟨v2,vs'',rfl,hv3,hv4⟩:=hv2.cons_inv;have:vs''=[]:=aN (by simpa using hv4.1);subst this;obtain rfl:vs= #[v,v2]:=by rw[<-fK (xs:=vs),e]
 cases hv3;cases hv1 with
 |sl esz b off us hn hc ha hw hx hvv ht=>
 obtain⟨hc0,ha0⟩:=ht;obtain rfl:=ha0 rfl;simp at hn hc0;subst hn;subst hc0;obtain⟨i0,hi0⟩:∃i0,Tryz.prog.info? (Tryz.growN_ren.t 25)=some i0:=Option.isSome_iff_exists.1 (by kernel_rfl);have hz:(Tryz.prog.info? (Tryz.growN_ren.t 25)).bind (·.zero)=some .nilIface:=by kernel_rfl
 have hsz:(Tryz.prog.info? (Tryz.growN_ren.t 25)).map (·.size)=some 1:=by kernel_rfl
 have hby:(Tryz.prog.info? (Tryz.growN_ren.t 25)).map (·.bytes)=some 16:=by kernel_rfl
 rw[hi0] at hz hsz hby;replace hz:i0.zero=some .nilIface:=hz;replace hsz:i0.size=1:=by simpa using hsz
 replace hby:i0.bytes=16:=by simpa using hby
 have key:=Any8.slices_Grow_grow Tryz.growN i0 .nilIface hi0 hz (by omega) none 0 0 n [] w (rL _) (by omega) (by rw[hby];omega) (by omega) (by simp) (fun _=>rfl) (fun a h=>by cases h);refine Calls.mono key ?_;rintro e w' ⟨rfl,rfl⟩;have hge:=grownCap_ge w (0+n) 0 (Tryz.growN_ren.t 25);have hty:Tryz.growN_ren.t 25=200:=by kernel_rfl
 rw[hty] at hge⊢;generalize grownCap w (0+n) 0 200=cap at*;generalize harr:(([]:List Value).toArray++Builtin.zeroCells (Value.cells .nilIface) (0+n - 0)++Builtin.zeroCells (Value.cells .nilIface) (cap - (0+n)))=arr;have hsize:arr.size=cap:=by
  rw[<-harr];have z:∀k,(Builtin.zeroCells (Value.cells .nilIface) k).size=k:=fun k=>by
   have:(Value.cells .nilIface).size=1:=rfl;simp[Builtin.zeroCells,this]
  simp only[Array.size_append,z];simp;omega
 obtain⟨D,hl,hown,_,hrel⟩:=hr.drew.newRow 0 1 200 (hr.drew.newAt _) arr (by omega) (by omega);refine⟨D,hl,hrel,_,rfl,.sl 1 w.heap.size 0 (fun _=>undef) rfl (zL _) (.inr (.inl rfl)) (fun x hx=>by cases hx) (fun i x j g h=>by simp at h) (fun i x j g h=>by simp at h) ⟨_,hown,rL _,fun _=>rfl,fun _=>.inr ⟨_,_,rfl,rfl,?_⟩⟩⟩;show cap*1<=arr.size;omega
end Go.Proofs.YtcfgfkkhpdlhpaaGreatDoor
namespace Go.Proofs.YtcfgfkkhpdlhpaaGreatDoor
open Go.RowKit
def eP (l:List Tree):List GV:=l.map Tree.gv
theorem kA [MaxL] (l:List Tree):ClL (eP l):=gT Tree.cl l
theorem HW (l:List Tree):(eP l).all (fun x=>x.cells.length==1)=true:=by
 rw[aS];intro x hx;obtain⟨v,_,rfl⟩:=List.mem_map.1 hx;rfl
theorem CF (l:List Tree):(eP l).all (r4 1)=true:=by
 rw[aS];intro x hx;obtain⟨v,_,rfl⟩:=List.mem_map.1 hx;rfl
theorem US [MaxL] (x y:Tree) (xs ys:List Tree) (hx:(x::xs).length<=100000) (hy:(y::ys).length<=100000):
  SC Tryz.prog 300 [.sl .none [.sl .none (eP (x::xs)),.sl .none (eP (y::ys))]] [] (.val (.sl .none (eP ((x::xs)++(y::ys))))) []:=by
 have e1:(eP (x::xs)).length=(x::xs).length:=by simp[eP]
 have e2:(eP (y::ys)).length=(y::ys).length:=by simp[eP]
 have hg:=a0a ((x::xs).length+(y::ys).length) (by simp;omega) (by omega);have hgt:∀l:List Tree,(eP l).length=l.length:=fun l=>by simp[eP]
 generalize hA:x::xs=A at*;generalize hB:y::ys=B at*;have hA0:A.length≠0:=by rw[<-hA];simp
 have hB0:B.length≠0:=by rw[<-hB];simp
 clear hA hB;refine cZ Tryz.func300 rfl ?_;conv=>whnf
 refine dG (fun q:Nat×Nat=>(q=(0,0))∨q=(1,A.length)∨q=(2,A.length+B.length)) (fun q=>[(0,.sl .none [.sl .none (eP A),.sl .none (eP B)]),(3,.i .i64 (q.2:Nat)),(9,.sl .none [.sl .none (eP A),.sl .none (eP B)]),(10,.i .i64 2),(11,.i .i64 (q.1:Nat))]) (fun _=>⟨[.own 0 0 0],0,[]⟩) (fun q=>2 - q.1) (0,0) (.inl rfl) ⟨rfl,rfl,rfl,rfl,rfl,trivial⟩ rfl (fun q φ0 hq=>?_);rcases hq with rfl|rfl|rfl
 ·conv=>whnf
  refine⟨dN 0,_,rfl,rfl,?_⟩;conv=>whnf
  have hw:IntKind.i64.wrap (((0:Nat):Int)+((eP A).length:Int))=(A.length:Int):=by rw[e1,cD (by omega) (by omega)];omega
  refine aF (fun hneg=>?_) (fun hneg=>?_)<;>conv=>whnf
  ·exfalso;have h9:=aA hneg;rw[hw] at h9;omega
  exact⟨1,by decide,(1,A.length),.inr (.inl rfl),rfl,⟨rfl,by rw[<-hw];rfl,rfl,rfl,rfl,trivial⟩,rfl⟩
 ·conv=>whnf
  refine⟨cN 1,_,rfl,rfl,?_⟩;conv=>whnf
  have hw:IntKind.i64.wrap ((A.length:Int)+((eP B).length:Int))=((A.length+B.length:Nat):Int):=by rw[e2,cD (by omega) (by omega)];omega
  refine aF (fun hneg=>?_) (fun hneg=>?_)<;>conv=>whnf
  ·exfalso;have h9:=aA hneg;rw[hw] at h9;omega
  exact⟨0,Nat.zero_lt_one,(2,A.length+B.length),.inr (.inr rfl),rfl,⟨rfl,by rw[<-hw];rfl,rfl,rfl,rfl,trivial⟩,rfl⟩
 ·conv=>whnf
  refine uC hg [] (objs':=[.own 0 0 0,.own 0 1 200]) Lies.nil (wR _) rfl rfl rfl rfl ?_;conv=>whnf
  refine dG (fun q:Nat×List Tree=>(q=(0,[]))∨q=(1,A)∨q=(2,A++B)) (fun q=>[(6,.sl (.own 1) (eP q.2)),(25,.sl .none [.sl .none (eP A),.sl .none (eP B)]),(26,.i .i64 2),(27,.i .i64 (q.1:Nat))]) (fun q=>⟨[.own 0 0 0,.own q.2.length 1 200],0,[]⟩) (fun q=>2 - q.1) (0,[]) (.inl rfl) ⟨rfl,rfl,rfl,rfl,trivial⟩ rfl (fun q φ1 hq=>?_);rcases hq with rfl|rfl|rfl
  ·(conv=>whnf);refine⟨dN 0,_,rfl,rfl,?_⟩;(conv=>whnf);refine aF (fun hemp=>?_) (fun hemp=>?_)
   ·exfalso;have:(eP A).length=0:=by rw[List.isEmpty_iff.1 hemp];rfl
    omega
   (conv=>whnf);refine⟨⟨CF A,rfl,by show 0+(eP A).length<=4294967296;omega⟩,eP A,A.length,⟨rfl,by show _=0+(eP A).length;omega⟩,?_⟩;(conv=>whnf);refine⟨⟨zL _,rfl,.inl ⟨rfl,rfl⟩⟩,?_⟩;(conv=>whnf);exact⟨1,by decide,(1,A),.inr (.inl rfl),rfl,⟨rfl,rfl,rfl,rfl,trivial⟩,rfl⟩
  ·(conv=>whnf);refine⟨cN 1,_,rfl,rfl,?_⟩;(conv=>whnf);refine aF (fun hemp=>?_) (fun hemp=>?_)
   ·exfalso;have:(eP B).length=0:=by rw[List.isEmpty_iff.1 hemp];rfl
    omega
   (conv=>whnf);refine⟨⟨CF B,HW A,by show(eP A).length+(eP B).length<=4294967296;omega⟩,eP (A++B),(A++B).length,⟨by simp[eP],by show _=(eP A).length+(eP B).length;rw[aD];omega⟩,?_⟩;(conv=>whnf);refine⟨⟨zL _,by rw[e1],.inl ⟨rfl,rfl⟩⟩,?_⟩;(conv=>whnf);exact⟨0,Nat.zero_lt_one,(2,A++B),.inr (.inr rfl),rfl,⟨rfl,rfl,rfl,rfl,trivial⟩,rfl⟩
  ·(conv=>whnf);exact bA (bE _ _) (bV (kA _))
theorem mT {a:Bool}:∀t:Tree,(t.sides a).length<=t.size
 |.pair b l r=>by
  have h1:=mT (a:=a) l;have h2:=mT (a:=a) r;unfold Tree.sides;split
  ·rw[aD];simp only[Tree.size];omega
  ·simp only[Tree.size,aJ,b5];omega
 |.no t=>by simp[Tree.sides,Tree.size]
 |.test _ _ _=>by simp[Tree.sides,Tree.size]
 |.truth _=>by simp[Tree.sides,Tree.size]
theorem a1g (a b:Bool):((lD a:Nat):Int)=((lD b:Nat):Int)↔a=b:=by cases a<;>cases b<;>decide
theorem LD [MaxL] (a:Bool):∀t:Tree,t.size<=50000->SC Tryz.prog 259 [t.gv,.i .i64 (lD a:Nat)] [] (.val (.sl .none (eP (t.sides a)))) []
 |.pair b l r,hb=>by
  simp only[Tree.size] at hb;have s1:=LD a l (by omega);have s2:=LD a r (by omega);have l1:=mT (a:=a) l;have l2:=mT (a:=a) r;obtain⟨x,xs,hx⟩:=cV (qR a l);obtain⟨y,ys,hy⟩:=cV (qR a r);have hcc:=US x y xs ys (by rw[<-hx];omega) (by rw[<-hy];omega);rw[<-hx,<-hy] at hcc;refine cZ Tryz.func259 rfl ?_;conv=>whnf
  refine⟨_,⟨rfl,zL _,rfl,bL rfl⟩,?_⟩;conv=>whnf
  refine aF (fun heq=>?_) (fun heq=>?_)<;>conv=>whnf
  ·have hab:a=b:=by
    have:=(a1g b a).1 (eq_of_beq heq);exact this.symm
   have e:(Tree.pair b l r).sides a=l.sides a++r.sides a:=aG hab;rw[e];refine b9 (by kernel_rfl) ?_;(conv=>whnf);refine bG s1 (wR _) rfl (cC l.cl (.cons (.i _ _) .nil)) (bV (kA _)) ?_;(conv=>whnf);refine bG s2 (wR _) rfl (cC r.cl (.cons (.i _ _) .nil)) (bV (kA _)) ?_;(conv=>whnf);refine bG hcc (wC (bE _ _) jL) rfl (cC (bV (.cons (bV (kA _)) (.cons (bV (kA _)) .nil))) .nil) (bV (kA _)) ?_;(conv=>whnf);exact bA (.refl _) (bV (kA _))
  ·have hab:¬a=b:=fun e=>by subst e;simp at heq
   have e:(Tree.pair b l r).sides a=[.pair b l r]:=aE hab;rw[e];(conv=>whnf);exact bA (bE _ _) (bV (kA _))
 |.no t,hb=>by
  refine cZ Tryz.func259 rfl ?_;conv=>whnf
  refine⟨_,⟨rfl,zL _,rfl,bL rfl⟩,?_⟩;conv=>whnf
  exact bA (bE _ _) (bV (kA [.no t]))
 |.test o l r,hb=>by
  refine cZ Tryz.func259 rfl ?_;conv=>whnf
  refine⟨_,⟨rfl,zL _,rfl,bL rfl⟩,?_⟩;conv=>whnf
  exact bA (bE _ _) (bV (kA [.test o l r]))
 |.truth b,hb=>by
  refine cZ Tryz.func259 rfl ?_;conv=>whnf
  refine⟨_,⟨rfl,zL _,rfl,bL rfl⟩,?_⟩;conv=>whnf
  exact bA (bE _ _) (bV (kA [.truth b]))
theorem a0A (t:Tree):(Tree.no t).flat=.no t.flat:=rfl
theorem H0 [MaxL]:∀(n:Nat) (t:Tree),t.size<=n->n<=50000->SC Tryz.prog 218 [t.gv] [] (.val t.flat.gv) []
 |0,t,h,_=>by cases t<;>simp only[Tree.size] at h<;>omega
 |n+1,.no t,h,hn=>by
  have s1:=H0 n t (by simp only[Tree.size] at h;omega) (by omega);rw[a0A];refine cZ Tryz.func218 rfl ?_;conv=>whnf
  refine⟨_,⟨rfl,zL _,rfl,bL rfl⟩,?_⟩;conv=>whnf
  refine bG s1 (wR _) rfl (cC t.cl .nil) t.flat.cl ?_;conv=>whnf
  exact bA (.refl _) (Tree.cl (.no t.flat))
 |n+1,.test o l r,h,hn=>by
  refine cZ Tryz.func218 rfl ?_;conv=>whnf
  exact bA (.refl _) (Tree.cl (.test o l r))
 |n+1,.truth b,h,hn=>by
  refine cZ Tryz.func218 rfl ?_;conv=>whnf
  exact bA (.refl _) (Tree.cl (.truth b))
 |n+1,.pair a l r,h,hn=>by
  obtain⟨x,xs,hx,hf⟩:=IV a l r;have hsz:∀y∈x::xs,y.size<=n:=fun y hy=>by
   have:=ES (a:=a) (l:=l) (r:=r) (x:=y) (by rw[hx];exact hy);omega
  have hlen:=mT (a:=a) (.pair a l r);rw[hx] at hlen;simp only[aJ] at hlen;have s0:=LD a (.pair a l r) (by omega);rw[hx] at s0;have s1:=H0 n x (hsz x (by simp)) (by omega);have sy:∀y∈xs,SC Tryz.prog 218 [y.gv] [] (.val y.flat.gv) []:=fun y hy=>H0 n y (hsz y (by simp[hy])) (by omega);rw[hf];refine cZ Tryz.func218 rfl ?_;conv=>whnf
  refine⟨_,⟨rfl,zL _,rfl,bL rfl⟩,?_⟩;conv=>whnf
  refine bG s0 (wR _) rfl (cC (Tree.cl (.pair a l r)) (.cons (.i _ _) .nil)) (bV (kA _)) ?_;conv=>whnf
  refine⟨dN 0,x.gv,rfl,rfl,?_⟩;conv=>whnf
  refine bG s1 (wR _) rfl (cC x.cl .nil) x.flat.cl ?_;conv=>whnf
  have hlt2:(eP (x::xs)).length=xs.length+1:=by simp[eP]
  refine⟨HW (x::xs),?_⟩;conv=>whnf
  refine⟨by decide,?_⟩;conv=>whnf
  refine⟨⟨by show 1<=(eP (x::xs)).length;omega,rL _⟩,eP xs,?_,_,rfl,?_⟩
  ·show eP xs=((eP (x::xs)).drop 1).take _;rw[hlt2];simp[eP];exact(bX (by simp)).symm
  conv=>whnf
  refine dG (fun i:Nat=>i<=xs.length) (fun i=>[(4,.ptr 0 0),(6,((xs.take i).foldl (fun q y=>Tree.pair a q y.flat) x.flat).gv),(31,.sl _ (eP xs)),(32,.i .i64 (eP xs).length),(33,.i .i64 (i:Nat))]) (fun _=>⟨[.box 280 (Tree.pair a l r).cs],0,[]⟩) (fun i=>xs.length - i) 0 (zL _) ⟨rfl,rfl,rfl,rfl,rfl,trivial⟩ rfl (fun i φ0 hi=>?_);have hl3:(eP xs).length=xs.length:=by simp[eP]
  conv=>whnf
  refine aF (fun hlt=>?_) (fun hlt=>?_)<;>conv=>whnf
  ·have hlt':i<xs.length:=by have:=aA hlt;rw[hl3] at this;omega
   have htk:(xs.take (i+1)).foldl (fun q y=>Tree.pair a q y.flat) x.flat=.pair a ((xs.take i).foldl (fun q y=>Tree.pair a q y.flat) x.flat) xs[i].flat:=by
    rw[List.take_succ_eq_append_getElem hlt',List.foldl_append];rfl
   have hsy:=sy xs[i] (eI hlt');have hgi:(eP xs)[i]?=some xs[i].gv:=by simp[eP,hlt']
   generalize xs[i]=y at*;refine⟨cN _,y.gv,by simpa using hgi,rfl,?_⟩;(conv=>whnf);refine b9 (by kernel_rfl) ?_;(conv=>whnf);refine bG hsy (wR _) rfl (cC y.cl .nil) y.flat.cl ?_;(conv=>whnf);refine eQ (i+1) hlt' (by omega) ⟨rfl,?_,rfl,rfl,b8 (by omega),trivial⟩ rfl;rw[htk];rfl
  ·have hie:i=xs.length:=by have:=aB hlt;rw[hl3] at this;omega
   subst hie;rw[b7];exact bA (.refl _) (Tree.cl _)
