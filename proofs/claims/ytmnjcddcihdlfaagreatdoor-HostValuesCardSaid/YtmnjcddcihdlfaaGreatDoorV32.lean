/- Part of HostValues. -/
import Derived.Test.YtmnjcddcihdlfaaGreatDoorV31
set_option linter.all false
set_option maxRecDepth 100000
namespace Go.Proofs.YtmnjcddcihdlfaaGreatDoor
open Go.RowKit
def a0k:List (GV×GV):=[(.s [43],.fn (.func 138) [] []),(.s [45],.fn (.func 139) [] []),(.s [42],.fn (.func 140) [] []),(.s [110,101,103],.fn (.func 141) [] [])]
instance [MaxL]:KM a0k:=⟨fun e=>rfl⟩
theorem j6 [MaxL]:SC Tryz.prog 97 [] [] (.val (.mp 0)) [.mp a0k]:=by
 refine bI Tryz.func97 rfl ?_;conv=>whnf
 refine⟨rL _,none,rfl,?_⟩;conv=>whnf
 refine⟨rL _,none,rfl,?_⟩;conv=>whnf
 refine⟨rL _,none,rfl,?_⟩;conv=>whnf
 refine⟨rL _,none,rfl,?_⟩;conv=>whnf
 exact fin 1
theorem a0y [MaxL] (a b:Int):SC Tryz.prog 138 [.i .i64 a,.i .i64 b] [] (.val (.i .i64 (IntKind.i64.wrap (a+b)))) []:=by
 refine bI Tryz.func138 rfl ?_;conv=>whnf
 exact fin 0
theorem a0x [MaxL] (a b:Int):SC Tryz.prog 139 [.i .i64 a,.i .i64 b] [] (.val (.i .i64 (IntKind.i64.wrap (a - b)))) []:=by
 refine bI Tryz.func139 rfl ?_;conv=>whnf
 exact fin 0
theorem a0w [MaxL] (a b:Int):SC Tryz.prog 140 [.i .i64 a,.i .i64 b] [] (.val (.i .i64 (IntKind.i64.wrap (a*b)))) []:=by
 refine bI Tryz.func140 rfl ?_;conv=>whnf
 exact fin 0
theorem a0v [MaxL] (a b:Int):SC Tryz.prog 141 [.i .i64 a,.i .i64 b] [] (.val (.i .i64 (IntKind.i64.wrap (0 - b)))) []:=by
 refine bI Tryz.func141 rfl ?_;conv=>whnf
 exact fin 0
def aE:List Itm->Nat->List (GV×GV)
 |[],_=>[]
 |x::l,k=>(.s x.name,.i .i64 (k:Nat))::aE l (k+1)
theorem Y5 [MaxL]:∀(l:List Itm) (k:Nat),KM (aE l k)
 |[],_=>inferInstanceAs (KM [])
 |x::l,k=>by have:=Y5 l (k+1);exact inferInstanceAs (KM ((.s x.name,.i .i64 (k:Nat))::aE l (k+1)))
instance [MaxL] (l:List Itm) (k:Nat):KM (aE l k):=Y5 l k
theorem I4 (w:By):∀(l:List Itm) (k i:Nat),i6 .string (.s w) (aE l k) i=some ((eW Itm.name w l).map fun p=>(i+p.1,.i .i64 ((k+p.1:Nat):Int)))
 |[],_,_=>rfl
 |x::l,k,i=>by
  unfold aE i6 eW;show(match some (w==x.name) with|some true=>_|some false=>_|none=>_)=_;cases h:w==x.name with
  |true=>rw[aA rfl];rfl
  |false=>
   rw[aB b4];show i6 .string (.s w) _ (i+1)=_;rw[I4 w l (k+1) (i+1),Option.map_map];congr 1;cases eW Itm.name w l with
   |none=>rfl
   |some p=>show some (i+1+p.1,GV.i .i64 ((k+1+p.1:Nat):Int))=some (i+(p.1+1),GV.i .i64 ((k+(p.1+1):Nat):Int));rw[show i+1+p.1=i+(p.1+1) by omega,show k+1+p.1=k+(p.1+1) by omega]
theorem P3 (y:Itm):∀(l:List Itm) (k:Nat),aE (l++[y]) k=aE l k++[(.s y.name,.i .i64 ((k+l.length:Nat):Int))]
 |[],k=>rfl
 |x::l,k=>by
  show _::aE (l++[y]) (k+1)=_;rw[P3 y l (k+1),aM,show k+1+l.length=k+(l.length+1) by omega];rfl
def dZ (l:List Val):List GV:=l.map Val.gv
theorem NR [MaxL] (l:List Val):ClL (dZ l):=ClL.mapOf Val.cl l
instance [MaxL] (v:Val):KG v.gv:=⟨v.cl⟩
instance [MaxL] (l:List Val):KL (dZ l):=⟨NR l⟩
theorem zW {l:List Val} {i:Nat} {y:Val} (h:l[i]?=some y):(dZ l)[i]?=some y.gv:=by
 unfold dZ;rw[aG,h];rfl
abbrev s8 (l:List Itm) (vs:List Val):List GObj:=[.box 23 [.sl .none (dZ vs)],.mp (aE l 0),.box 42 [.mp 1]]
abbrev L9:GV:=.fn (.func 49) [] [.ptr 0 0,.ptr 2 0]
theorem WK [MaxL] (l:List Itm) (vs:List Val) (s:By) (v:Val) (i:Nat) (x:Itm) (h:eW Itm.name s l=some (i,x)) (hv:vs[i]?=some v):
  SC Tryz.prog 49 [(Ex.var s).gvP,.ptr 0 0,.ptr 2 0] (s8 l vs) (.val v.gv) (s8 l vs):=by
 have hf:=I4 s l 0 0;rw[h] at hf;replace hf:_=some (some (0+i,GV.i .i64 ((0+i:Nat):Int))):=hf;rw[bM] at hf;obtain⟨k,n,t⟩:=v;refine bI Tryz.func49 rfl ?_;conv=>whnf
 refine gP ?_;conv=>whnf
 refine⟨_,hf,?_⟩;conv=>whnf
 refine ix (zW hv) ?_;conv=>whnf
 refine⟨rfl,?_⟩;conv=>whnf
 refine st (l:=Val.cs ⟨k,n,t⟩) ?_;conv=>whnf
 exact fin 3
theorem OI [MaxL] (l:List Itm) (vs:List Val) (e:Ex) (he:e=.status∨e=.key):
  SC Tryz.prog 49 [e.gvP,.ptr 0 0,.ptr 2 0] (s8 l vs) (.val (Val.gv ⟨1,0,[]⟩)) (s8 l vs):=by
 rcases he with rfl|rfl;all_goals
  refine bI Tryz.func49 rfl ?_;conv=>whnf
  refine st ?_;conv=>whnf
  exact fin 3
def LH (op:By) (c:Int):Bool:=if op=[61] then decide (c=0) else if op=[60,62] then c !=0 else if op=[60] then decide (c<0) else if op=[60,61] then decide (c<=0) else if op=[62] then decide (c>0) else decide (c>=0)
theorem QN [MaxL] (op:By) (c:Int) (h:op∈FP):SC Tryz.prog 105 [.s op,.i .i64 c] [] (.val (.b (LH op c))) []:=by
 simp only[FP,dU,cZ,or_false] at h;rcases h with rfl|rfl|rfl|rfl|rfl|rfl;all_goals
  refine bI Tryz.func105 rfl ?_;conv=>whnf
  exact eM rfl
theorem cN [MaxL] {P:Program} {M:FuncId->Bool} {k:FuncId} {args a a':List GV} {x x':List GObj} {r r':GRes} {σ:GS} {K:GRes->GS->Prop} (h:SC P k a [] r x)
  [i1:RL (iB [] σ.objs.length) a a'] [i5:RH (iB [] σ.objs.length) x x'] [i4:RR (iB [] σ.objs.length) r r']
  (hk:K r' ⟨σ.objs++x',σ.lo,σ.ds⟩) (hw:Wks args a':=by first|exact wR _|exact wC (b5 _ _) (wR _)|exact wC (b5 _ _) (wC (b5 _ _) (wR _))|exact wC (iN _) (wC (b5 _ _) (wR _))) (hlo:σ.lo=0:=by rfl) (hM:M k=false:=by rfl) (hD:kK M=false:=by rfl):iC P M (.fn k) args σ K:=
 cX (t:=[]) (s':=[]) (t':=[]) (i2:=⟨rfl⟩) (i3:=⟨rfl⟩) [] h hk hw (hlo:=hlo) (hM:=hM) (hD:=hD)
def Val.chk (v:Val):Option Val:=if v.ok=true then some v else none
def vR (op:By) (a b:Int):Int:=if op=[43] then a+b else if op=[45] then a - b else a*b
def J4 (op:By) (a b:Val):Val:=if op=[38] then⟨2,0,a.s++b.s⟩ else⟨1,vR op a.n b.n,[]⟩
def Ex.ev (l:List Itm) (vs:List Val):Ex->Option Val
 |.zero=>none
 |.num n=>some ⟨1,n,[]⟩
 |.txt s=>some ⟨2,0,s⟩
 |.var s=>match eW Itm.name s l with
  |some p=>vs[p.1]?
  |none=>none
 |.item _ _=>none
 |.status=>some ⟨1,0,[]⟩
 |.key=>some ⟨1,0,[]⟩
 |.neg e=>match e.ev l vs with
  |some b=>Val.chk ⟨1,0 - b.n,[]⟩
  |none=>none
 |.bin op a b=>match a.ev l vs with
  |some x=>(match b.ev l vs with
   |some y=>(J4 op x y).chk
   |none=>none)
  |none=>none
theorem Val.chk_ok {v w:Val} (h:v.chk=some w):w=v/\v.ok=true:=by
 unfold Val.chk at h;split at h
 ·cases h;exact⟨rfl,by assumption⟩
 ·cases h
theorem Ex.ev_ok {l:List Itm} {vs:List Val} (hv:∀v∈vs,v.ok=true):∀(e:Ex) {v:Val},e.wf->e.ev l vs=some v->v.ok=true
 |.zero,_,h,_=>h.elim
 |.num n,_,h,he=>by cases he;have h:=h;obtain⟨h1,h2⟩:=h;simp[Val.ok];omega
 |.txt s,_,h,he=>by cases he;have h:s.length<=40:=h;simp[Val.ok];omega
 |.var s,v,h,he=>by
  unfold Ex.ev at he;split at he
  ·exact hv v (b9 he)
  ·cases he
 |.item _ _,_,_,he=>by cases he
 |.status,_,_,he=>by cases he;decide
 |.key,_,_,he=>by cases he;decide
 |.neg e,_,h,he=>by
  unfold Ex.ev at he;split at he
  ·obtain⟨rfl,h2⟩:=Val.chk_ok he;exact h2
  ·cases he
 |.bin op a b,_,h,he=>by
  unfold Ex.ev at he;split at he
  ·split at he
   ·obtain⟨rfl,h2⟩:=Val.chk_ok he;exact h2
   ·cases he
  ·cases he
theorem Val.ok_n {v:Val} (h:v.ok=true): -1000000000<=v.n/\v.n<=1000000000/\v.s.length<=40:=by
 unfold Val.ok at h;simp at h;rcases h with⟨⟨⟨h1,h2⟩,h3⟩,h4⟩|⟨⟨h1,h2⟩,h3⟩
 ·rw[h2];exact⟨h3,h4,zL _⟩
 ·rw[h2];exact⟨by decide,by decide,h3⟩
def eR:GV:=.ifc 142 (.agg [])
instance [MaxL]:KG eR:=⟨fun _=>rfl⟩
def vZ:Option Val->GRes
 |some v=>.val v.gv
 |none=>.panic eR
theorem M3 {a b:Int} (h1: -1000000000<=a) (h2:a<=1000000000) (h3: -1000000000<=b) (h4:b<=1000000000): -9223372036854775808<=a*b/\a*b<=9223372036854775807:=by
 have h:(a*b).natAbs<=1000000000*1000000000:=by
  rw[Int.natAbs_mul];exact Nat.mul_le_mul (by omega) (by omega)
 omega
theorem KT {α:Type} {f:α->By} {w:By}:∀{l:List α} {i:Nat} {x:α},eW f w l=some (i,x)->i<l.length
 |[],_,_,h=>by cases h
 |y::l,i,x,h=>by
  unfold eW at h;split at h
  ·cases h;exact Nat.succ_pos _
  ·rw[aC] at h;obtain⟨⟨j,z⟩,h1,h2⟩:=h;cases h2;exact Nat.succ_lt_succ (KT h1)
theorem O7 {l:List Itm} {vs:List Val} {s:By} (bG:l.length=vs.length) (h:(Ex.var s).nm l=true):∃i x v,eW Itm.name s l=some (i,x)/\vs[i]?=some v:=by
 have h0:vk l s≠0:=aO h;unfold vk at h0;cases hf:eW Itm.name s l with
 |none=>rw[hf] at h0;exact absurd rfl h0
 |some p=>
  obtain⟨i,x⟩:=p;have hi:i<l.length:=KT hf;exact⟨i,x,vs[i]'(by omega),rfl,gL (by omega)⟩
theorem a15 [MaxL] (l:List Itm) (vs:List Val) (a b:Ex) (k n k2 n2:Int) (t t2:By) (i:SC Tryz.prog 57 [a.gvP,L9] (s8 l vs) (.val (Val.gv ⟨k,n,t⟩)) (s8 l vs)) (j:SC Tryz.prog 57 [b.gvP,L9] (s8 l vs) (.val (Val.gv ⟨k2,n2,t2⟩)) (s8 l vs))
  (hb1: -1000000000<=n) (hb2:n<=1000000000) (hb3:t.length<=40) (hc1: -1000000000<=n2) (hc2:n2<=1000000000) (hc3:t2.length<=40):SC Tryz.prog 57 [(Ex.bin [43] a b).gvP,L9] (s8 l vs) (vZ (J4 [43] ⟨k,n,t⟩ ⟨k2,n2,t2⟩).chk) (s8 l vs):=by
    have cv:=jE ⟨1,n+n2,[]⟩;have oo:=a0y n n2;have hw:IntKind.i64.wrap (n+n2)=n+n2:=bN (by omega) (by omega);rw[hw] at oo;show SC _ _ _ _ (vZ (Val.chk ⟨1,n+n2,[]⟩)) _;unfold Val.chk;cases hok:Val.ok ⟨1,n+n2,[]⟩ with
    |true=>
     rw[hok] at cv;rw[aA rfl];show SC _ _ _ _ (.val (Val.gv ⟨1,n+n2,[]⟩)) _;refine bI Tryz.func57 rfl ?_;(conv=>whnf);refine st ?_;(conv=>whnf);refine cS [0,1,2] i ?_;(conv=>whnf);refine st (l:=Val.cs ⟨k,n,t⟩) ?_;(conv=>whnf);refine cS [0,1,2] j ?_;(conv=>whnf);refine st (l:=Val.cs ⟨k2,n2,t2⟩) ?_;(conv=>whnf);refine⟨show t.length+t2.length<jN by(unfold jN;omega),_,rfl,?_⟩;(conv=>whnf);refine st ?_;(conv=>whnf);refine fY (fun k=>!Nat.beq k 97) (hH _ _ _ rfl rfl rfl (by kernel_rfl) ?_);(conv=>whnf);refine cN j6 ?_;(conv=>whnf);refine⟨some (0,.fn (.func 138) [] []),rfl,?_⟩;(conv=>whnf);refine cP oo ?_;(conv=>whnf);refine st ?_;(conv=>whnf);refine cP cv ?_;(conv=>whnf);refine st ?_;(conv=>whnf);exact j4 (r:=.val (Val.gv ⟨1,n+n2,[]⟩)) 3 (by kernel_rfl) (by kernel_rfl)
    |false=>
     rw[hok] at cv;rw[aB b4];show SC _ _ _ _ (.panic eR) _;refine bI Tryz.func57 rfl ?_;(conv=>whnf);refine st ?_;(conv=>whnf);refine cS [0,1,2] i ?_;(conv=>whnf);refine st (l:=Val.cs ⟨k,n,t⟩) ?_;(conv=>whnf);refine cS [0,1,2] j ?_;(conv=>whnf);refine st (l:=Val.cs ⟨k2,n2,t2⟩) ?_;(conv=>whnf);refine⟨show t.length+t2.length<jN by(unfold jN;omega),_,rfl,?_⟩;(conv=>whnf);refine st ?_;(conv=>whnf);refine fY (fun k=>!Nat.beq k 97) (hH _ _ _ rfl rfl rfl (by kernel_rfl) ?_);(conv=>whnf);refine cN j6 ?_;(conv=>whnf);refine⟨some (0,.fn (.func 138) [] []),rfl,?_⟩;(conv=>whnf);refine cP oo ?_;(conv=>whnf);refine st ?_;(conv=>whnf);refine cP cv ?_;(conv=>whnf);exact fin 3
theorem a14 [MaxL] (l:List Itm) (vs:List Val) (a b:Ex) (k n k2 n2:Int) (t t2:By) (i:SC Tryz.prog 57 [a.gvP,L9] (s8 l vs) (.val (Val.gv ⟨k,n,t⟩)) (s8 l vs)) (j:SC Tryz.prog 57 [b.gvP,L9] (s8 l vs) (.val (Val.gv ⟨k2,n2,t2⟩)) (s8 l vs))
  (hb1: -1000000000<=n) (hb2:n<=1000000000) (hb3:t.length<=40) (hc1: -1000000000<=n2) (hc2:n2<=1000000000) (hc3:t2.length<=40):SC Tryz.prog 57 [(Ex.bin [45] a b).gvP,L9] (s8 l vs) (vZ (J4 [45] ⟨k,n,t⟩ ⟨k2,n2,t2⟩).chk) (s8 l vs):=by
    have cv:=jE ⟨1,n - n2,[]⟩;have oo:=a0x n n2;have hw:IntKind.i64.wrap (n - n2)=n - n2:=bN (by omega) (by omega);rw[hw] at oo;show SC _ _ _ _ (vZ (Val.chk ⟨1,n - n2,[]⟩)) _;unfold Val.chk;cases hok:Val.ok ⟨1,n - n2,[]⟩ with
    |true=>
     rw[hok] at cv;rw[aA rfl];show SC _ _ _ _ (.val (Val.gv ⟨1,n - n2,[]⟩)) _;refine bI Tryz.func57 rfl ?_;(conv=>whnf);refine st ?_;(conv=>whnf);refine cS [0,1,2] i ?_;(conv=>whnf);refine st (l:=Val.cs ⟨k,n,t⟩) ?_;(conv=>whnf);refine cS [0,1,2] j ?_;(conv=>whnf);refine st (l:=Val.cs ⟨k2,n2,t2⟩) ?_;(conv=>whnf);refine⟨show t.length+t2.length<jN by(unfold jN;omega),_,rfl,?_⟩;(conv=>whnf);refine st ?_;(conv=>whnf);refine fY (fun k=>!Nat.beq k 97) (hH _ _ _ rfl rfl rfl (by kernel_rfl) ?_);(conv=>whnf);refine cN j6 ?_;(conv=>whnf);refine⟨some (1,.fn (.func 139) [] []),rfl,?_⟩;(conv=>whnf);refine cP oo ?_;(conv=>whnf);refine st ?_;(conv=>whnf);refine cP cv ?_;(conv=>whnf);refine st ?_;(conv=>whnf);exact j4 (r:=.val (Val.gv ⟨1,n - n2,[]⟩)) 3 (by kernel_rfl) (by kernel_rfl)
    |false=>
     rw[hok] at cv;rw[aB b4];show SC _ _ _ _ (.panic eR) _;refine bI Tryz.func57 rfl ?_;(conv=>whnf);refine st ?_;(conv=>whnf);refine cS [0,1,2] i ?_;(conv=>whnf);refine st (l:=Val.cs ⟨k,n,t⟩) ?_;(conv=>whnf);refine cS [0,1,2] j ?_;(conv=>whnf);refine st (l:=Val.cs ⟨k2,n2,t2⟩) ?_;(conv=>whnf);refine⟨show t.length+t2.length<jN by(unfold jN;omega),_,rfl,?_⟩;(conv=>whnf);refine st ?_;(conv=>whnf);refine fY (fun k=>!Nat.beq k 97) (hH _ _ _ rfl rfl rfl (by kernel_rfl) ?_);(conv=>whnf);refine cN j6 ?_;(conv=>whnf);refine⟨some (1,.fn (.func 139) [] []),rfl,?_⟩;(conv=>whnf);refine cP oo ?_;(conv=>whnf);refine st ?_;(conv=>whnf);refine cP cv ?_;(conv=>whnf);exact fin 3
theorem a13 [MaxL] (l:List Itm) (vs:List Val) (a b:Ex) (k n k2 n2:Int) (t t2:By) (i:SC Tryz.prog 57 [a.gvP,L9] (s8 l vs) (.val (Val.gv ⟨k,n,t⟩)) (s8 l vs)) (j:SC Tryz.prog 57 [b.gvP,L9] (s8 l vs) (.val (Val.gv ⟨k2,n2,t2⟩)) (s8 l vs))
  (hb1: -1000000000<=n) (hb2:n<=1000000000) (hb3:t.length<=40) (hc1: -1000000000<=n2) (hc2:n2<=1000000000) (hc3:t2.length<=40):SC Tryz.prog 57 [(Ex.bin [42] a b).gvP,L9] (s8 l vs) (vZ (J4 [42] ⟨k,n,t⟩ ⟨k2,n2,t2⟩).chk) (s8 l vs):=by
    have cv:=jE ⟨1,n*n2,[]⟩;have oo:=a0w n n2;have hm:=M3 hb1 hb2 hc1 hc2;have hw:IntKind.i64.wrap (n*n2)=n*n2:=bN hm.1 hm.2;rw[hw] at oo;show SC _ _ _ _ (vZ (Val.chk ⟨1,n*n2,[]⟩)) _;unfold Val.chk;cases hok:Val.ok ⟨1,n*n2,[]⟩ with
    |true=>
     rw[hok] at cv;rw[aA rfl];show SC _ _ _ _ (.val (Val.gv ⟨1,n*n2,[]⟩)) _;refine bI Tryz.func57 rfl ?_;(conv=>whnf);refine st ?_;(conv=>whnf);refine cS [0,1,2] i ?_;(conv=>whnf);refine st (l:=Val.cs ⟨k,n,t⟩) ?_;(conv=>whnf);refine cS [0,1,2] j ?_;(conv=>whnf);refine st (l:=Val.cs ⟨k2,n2,t2⟩) ?_;(conv=>whnf);refine⟨show t.length+t2.length<jN by(unfold jN;omega),_,rfl,?_⟩;(conv=>whnf);refine st ?_;(conv=>whnf);refine fY (fun k=>!Nat.beq k 97) (hH _ _ _ rfl rfl rfl (by kernel_rfl) ?_);(conv=>whnf);refine cN j6 ?_;(conv=>whnf);refine⟨some (2,.fn (.func 140) [] []),rfl,?_⟩;(conv=>whnf);refine cP oo ?_;(conv=>whnf);refine st ?_;(conv=>whnf);refine cP cv ?_;(conv=>whnf);refine st ?_;(conv=>whnf);exact j4 (r:=.val (Val.gv ⟨1,n*n2,[]⟩)) 3 (by kernel_rfl) (by kernel_rfl)
    |false=>
     rw[hok] at cv;rw[aB b4];show SC _ _ _ _ (.panic eR) _;refine bI Tryz.func57 rfl ?_;(conv=>whnf);refine st ?_;(conv=>whnf);refine cS [0,1,2] i ?_;(conv=>whnf);refine st (l:=Val.cs ⟨k,n,t⟩) ?_;(conv=>whnf);refine cS [0,1,2] j ?_;(conv=>whnf);refine st (l:=Val.cs ⟨k2,n2,t2⟩) ?_;(conv=>whnf);refine⟨show t.length+t2.length<jN by(unfold jN;omega),_,rfl,?_⟩;(conv=>whnf);refine st ?_;(conv=>whnf);refine fY (fun k=>!Nat.beq k 97) (hH _ _ _ rfl rfl rfl (by kernel_rfl) ?_);(conv=>whnf);refine cN j6 ?_;(conv=>whnf);refine⟨some (2,.fn (.func 140) [] []),rfl,?_⟩;(conv=>whnf);refine cP oo ?_;(conv=>whnf);refine st ?_;(conv=>whnf);refine cP cv ?_;(conv=>whnf);exact fin 3
theorem a12 [MaxL] (l:List Itm) (vs:List Val) (a b:Ex) (k n k2 n2:Int) (t t2:By) (i:SC Tryz.prog 57 [a.gvP,L9] (s8 l vs) (.val (Val.gv ⟨k,n,t⟩)) (s8 l vs)) (j:SC Tryz.prog 57 [b.gvP,L9] (s8 l vs) (.val (Val.gv ⟨k2,n2,t2⟩)) (s8 l vs))
  (hb1: -1000000000<=n) (hb2:n<=1000000000) (hb3:t.length<=40) (hc1: -1000000000<=n2) (hc2:n2<=1000000000) (hc3:t2.length<=40):SC Tryz.prog 57 [(Ex.bin [38] a b).gvP,L9] (s8 l vs) (vZ (J4 [38] ⟨k,n,t⟩ ⟨k2,n2,t2⟩).chk) (s8 l vs):=by
    have cv:=jE ⟨2,0,t++t2⟩;show SC _ _ _ _ (vZ (Val.chk ⟨2,0,t++t2⟩)) _;unfold Val.chk;cases hok:Val.ok ⟨2,0,t++t2⟩ with
    |true=>
     rw[hok] at cv;rw[aA rfl];show SC _ _ _ _ (.val (Val.gv ⟨2,0,t++t2⟩)) _;refine bI Tryz.func57 rfl ?_;(conv=>whnf);refine st ?_;(conv=>whnf);refine cS [0,1,2] i ?_;(conv=>whnf);refine st (l:=Val.cs ⟨k,n,t⟩) ?_;(conv=>whnf);refine cS [0,1,2] j ?_;(conv=>whnf);refine st (l:=Val.cs ⟨k2,n2,t2⟩) ?_;(conv=>whnf);refine⟨show t.length+t2.length<jN by(unfold jN;omega),_,rfl,?_⟩;(conv=>whnf);refine st ?_;(conv=>whnf);refine cP cv ?_;(conv=>whnf);refine st ?_;(conv=>whnf);exact j4 (r:=.val (Val.gv ⟨2,0,t++t2⟩)) 3 (by kernel_rfl) (by kernel_rfl)
    |false=>
     rw[hok] at cv;rw[aB b4];show SC _ _ _ _ (.panic eR) _;refine bI Tryz.func57 rfl ?_;(conv=>whnf);refine st ?_;(conv=>whnf);refine cS [0,1,2] i ?_;(conv=>whnf);refine st (l:=Val.cs ⟨k,n,t⟩) ?_;(conv=>whnf);refine cS [0,1,2] j ?_;(conv=>whnf);refine st (l:=Val.cs ⟨k2,n2,t2⟩) ?_;(conv=>whnf);refine⟨show t.length+t2.length<jN by(unfold jN;omega),_,rfl,?_⟩;(conv=>whnf);refine st ?_;(conv=>whnf);refine cP cv ?_;(conv=>whnf);exact fin 3
theorem y1 [MaxL] (l:List Itm) (vs:List Val) (hv:∀v∈vs,v.ok=true) (bG:l.length=vs.length):∀(e:Ex),e.wf->e.nm l=true->SC Tryz.prog 57 [e.gvP,L9] (s8 l vs) (vZ (e.ev l vs)) (s8 l vs)
 |.zero,h,_=>h.elim
 |.item _ _,_,h=>by cases h
 |.num n,_,_=>by
  show SC _ _ _ _ (.val (Val.gv ⟨1,n,[]⟩)) _;refine bI Tryz.func57 rfl ?_;conv=>whnf
  refine st ?_;conv=>whnf
  exact fin 3
 |.txt s,_,_=>by
  show SC _ _ _ _ (.val (Val.gv ⟨2,0,s⟩)) _;refine bI Tryz.func57 rfl ?_;conv=>whnf
  refine st ?_;conv=>whnf
  exact fin 3
 |.status,_,_=>by
  have i:=OI l vs .status (.inl rfl);show SC _ _ _ _ (.val (Val.gv ⟨1,0,[]⟩)) _;refine bI Tryz.func57 rfl ?_;conv=>whnf
  refine cS [0,1,2] i ?_;conv=>whnf
  refine st ?_;conv=>whnf
  exact fin 3
 |.key,_,_=>by
  have i:=OI l vs .key (.inr rfl);show SC _ _ _ _ (.val (Val.gv ⟨1,0,[]⟩)) _;refine bI Tryz.func57 rfl ?_;conv=>whnf
  refine cS [0,1,2] i ?_;conv=>whnf
  refine st ?_;conv=>whnf
  exact fin 3
 |.var s,_,h=>by
  obtain⟨i,x,v,hi,hx⟩:=O7 bG h;have i1:=WK l vs s v i x hi hx;show SC _ _ _ _ (vZ (match eW Itm.name s l with
   |some p=>vs[p.1]?
   |none=>none)) _
  rw[hi];show SC _ _ _ _ (vZ (vs[i]?)) _;rw[hx];show SC _ _ _ _ (.val v.gv) _;obtain⟨k,n,t⟩:=v;refine bI Tryz.func57 rfl ?_;conv=>whnf
  refine cS [0,1,2] i1 ?_;conv=>whnf
  refine st (l:=Val.cs ⟨k,n,t⟩) ?_;conv=>whnf
  exact fin 3
 |.neg e,h,hn=>by
  have i:=y1 l vs hv bG e h hn;have ho:=@Ex.ev_ok l vs hv e;show SC _ _ _ _ (vZ (match e.ev l vs with
   |some b=>Val.chk ⟨1,0 - b.n,[]⟩
   |none=>none)) _
  cases he:e.ev l vs with
  |none=>
   rw[he] at i;replace i:SC _ _ _ _ (.panic eR) _:=i;show SC _ _ _ _ (.panic eR) _;refine bI Tryz.func57 rfl ?_;(conv=>whnf);refine st ?_;(conv=>whnf);refine cS [0,1,2] i ?_;(conv=>whnf);exact fin 3
  |some b=>
   rw[he] at i;replace i:SC _ _ _ _ (.val b.gv) _:=i;obtain⟨hb1,hb2,hb3⟩:=Val.ok_n (ho h he);obtain⟨k,n,t⟩:=b;have hw:IntKind.i64.wrap (0 - n)=0 - n:=bN (by dsimp only at hb1 hb2;omega) (by dsimp only at hb1 hb2;omega);have o4:=a0v 0 n;have cv:=jE ⟨1,0 - n,[]⟩;rw[hw] at o4;show SC _ _ _ _ (vZ (Val.chk ⟨1,0 - n,[]⟩)) _;unfold Val.chk;cases hok:Val.ok ⟨1,0 - n,[]⟩ with
   |true=>
    rw[hok] at cv;rw[aA rfl];show SC _ _ _ _ (.val (Val.gv ⟨1,0 - n,[]⟩)) _;refine bI Tryz.func57 rfl ?_;(conv=>whnf);refine st ?_;(conv=>whnf);refine cS [0,1,2] i ?_;(conv=>whnf);refine st (l:=Val.cs ⟨k,n,t⟩) ?_;(conv=>whnf);refine⟨show[].length+t.length<jN by(show 0+t.length<jN);dsimp only at hb3;unfold jN;omega,_,rfl,?_⟩;(conv=>whnf);refine st ?_;(conv=>whnf);refine fY (fun k=>!Nat.beq k 97) (hH _ _ _ rfl rfl rfl (by kernel_rfl) ?_);(conv=>whnf);refine cN j6 ?_;(conv=>whnf);refine⟨some (3,.fn (.func 141) [] []),rfl,?_⟩;(conv=>whnf);refine cP o4 ?_;(conv=>whnf);refine st ?_;(conv=>whnf);refine cP cv ?_;(conv=>whnf);refine st ?_;(conv=>whnf);exact j4 (r:=.val (Val.gv ⟨1,0 - n,[]⟩)) 3 (by kernel_rfl) (by kernel_rfl)
   |false=>
    rw[hok] at cv;rw[aB b4];show SC _ _ _ _ (.panic eR) _;refine bI Tryz.func57 rfl ?_;(conv=>whnf);refine st ?_;(conv=>whnf);refine cS [0,1,2] i ?_;(conv=>whnf);refine st (l:=Val.cs ⟨k,n,t⟩) ?_;(conv=>whnf);refine⟨show[].length+t.length<jN by(show 0+t.length<jN);dsimp only at hb3;unfold jN;omega,_,rfl,?_⟩;(conv=>whnf);refine st ?_;(conv=>whnf);refine fY (fun k=>!Nat.beq k 97) (hH _ _ _ rfl rfl rfl (by kernel_rfl) ?_);(conv=>whnf);refine cN j6 ?_;(conv=>whnf);refine⟨some (3,.fn (.func 141) [] []),rfl,?_⟩;(conv=>whnf);refine cP o4 ?_;(conv=>whnf);refine st ?_;(conv=>whnf);refine cP cv ?_;(conv=>whnf);exact fin 3
 |.bin op a b,h,hn=>by
  have hn':a.nm l=true/\b.nm l=true:=by simpa[Ex.nm] using hn
  have i:=y1 l vs hv bG a h.2.1 hn'.1;have j:=y1 l vs hv bG b h.2.2 hn'.2;have ha:=@Ex.ev_ok l vs hv a;have hb:=@Ex.ev_ok l vs hv b;have ho:=h.1;simp only[LY,dU,cZ,or_false] at ho;show SC _ _ _ _ (vZ (match a.ev l vs with
   |some x=>(match b.ev l vs with
    |some y=>(J4 op x y).chk
    |none=>none)
   |none=>none)) _
  cases he:a.ev l vs with
  |none=>
   rw[he] at i;replace i:SC _ _ _ _ (.panic eR) _:=i;show SC _ _ _ _ (.panic eR) _;clear h;rcases ho with rfl|rfl|rfl|rfl;all_goals
    refine bI Tryz.func57 rfl ?_;(conv=>whnf);refine st ?_;(conv=>whnf);refine cS [0,1,2] i ?_;(conv=>whnf);exact fin 3
  |some x=>
  rw[he] at i;replace i:SC _ _ _ _ (.val x.gv) _:=i;obtain⟨hb1,hb2,hb3⟩:=Val.ok_n (ha h.2.1 he);obtain⟨k,n,t⟩:=x;cases hf:b.ev l vs with
  |none=>
   rw[hf] at j;replace j:SC _ _ _ _ (.panic eR) _:=j;show SC _ _ _ _ (.panic eR) _;clear h;rcases ho with rfl|rfl|rfl|rfl;all_goals
    refine bI Tryz.func57 rfl ?_;(conv=>whnf);refine st ?_;(conv=>whnf);refine cS [0,1,2] i ?_;(conv=>whnf);refine st (l:=Val.cs ⟨k,n,t⟩) ?_;(conv=>whnf);refine cS [0,1,2] j ?_;(conv=>whnf);exact fin 3
  |some y=>
   rw[hf] at j;replace j:SC _ _ _ _ (.val y.gv) _:=j;obtain⟨hc1,hc2,hc3⟩:=Val.ok_n (hb h.2.2 hf);obtain⟨k2,n2,t2⟩:=y;clear h;rcases ho with rfl|rfl|rfl|rfl
   ·exact a15 l vs a b k n k2 n2 t t2 i j hb1 hb2 hb3 hc1 hc2 hc3
   ·exact a14 l vs a b k n k2 n2 t t2 i j hb1 hb2 hb3 hc1 hc2 hc3
   ·exact a13 l vs a b k n k2 n2 t t2 i j hb1 hb2 hb3 hc1 hc2 hc3
   ·exact a12 l vs a b k n k2 n2 t t2 i j hb1 hb2 hb3 hc1 hc2 hc3
def a1U:Option Val->GV
 |some v=>.tup [v.gv,.b true]
 |none=>.tup [Val.gv ⟨0,0,[]⟩,.b false]
theorem ZP [MaxL] (l:List Itm) (vs:List Val) (hv:∀v∈vs,v.ok=true) (bG:l.length=vs.length) (e:Ex) (h:e.wf) (hn:e.nm l=true):SC Tryz.prog 21 [e.gvP,L9] (s8 l vs) (.val (a1U (e.ev l vs))) (s8 l vs):=by
 have i:=y1 l vs hv bG e h hn;cases he:e.ev l vs with
 |none=>
  rw[he] at i;replace i:SC _ _ _ _ (.panic eR) _:=i;show SC _ _ _ _ (.val (.tup [Val.gv ⟨0,0,[]⟩,.b false])) _;refine bI Tryz.func21 rfl ?_;conv=>whnf
  refine cS [0,1,2] i ?_;conv=>whnf
  exact j4 (r:=.val (.tup [Val.gv ⟨0,0,[]⟩,.b false])) 3 (by kernel_rfl) (by kernel_rfl)
 |some v=>
  rw[he] at i;replace i:SC _ _ _ _ (.val v.gv) _:=i;show SC _ _ _ _ (.val (.tup [v.gv,.b true])) _;obtain⟨k,n,t⟩:=v;refine bI Tryz.func21 rfl ?_;conv=>whnf
  refine cS [0,1,2] i ?_;conv=>whnf
  refine st (l:=Val.cs ⟨k,n,t⟩) ?_;conv=>whnf
  refine st ?_;conv=>whnf
  exact j4 (r:=.val (.tup [Val.gv ⟨k,n,t⟩,.b true])) 3 (by kernel_rfl) (by kernel_rfl)
def Cn.hold (l:List Itm) (vs:List Val):Cn->Option Bool
 |.zero=>none
 |.rel op a b=>match a.ev l vs with
  |some x=>(match b.ev l vs with
   |some y=>some (LH op (zQ x y))
   |none=>none)
  |none=>none
 |.no c=>match c.hold l vs with
  |some x=>some (!x)
  |none=>none
 |.two op a b=>match a.hold l vs with
  |some x=>(match b.hold l vs with
   |some y=>some (if op=[111,114] then x||y else x&&y)
   |none=>none)
  |none=>none
def Cn.nm (l:List Itm):Cn->Bool
 |.zero=>true
 |.rel _ a b=>a.nm l&&b.nm l
 |.no c=>c.nm l
 |.two _ a b=>a.nm l&&b.nm l
def VS:Option Bool->GRes
 |some b=>.val (.b b)
 |none=>.panic eR
theorem AF [MaxL] (l:List Itm) (vs:List Val) (hv:∀v∈vs,v.ok=true) (bG:l.length=vs.length):∀(c:Cn),c.wf->c.nm l=true->SC Tryz.prog 72 [c.gvP,L9] (s8 l vs) (VS (c.hold l vs)) (s8 l vs)
 |.zero,h,_=>h.elim
 |.rel op a b,h,hn=>by
  have hn':a.nm l=true/\b.nm l=true:=by simpa[Cn.nm] using hn
  have i:=y1 l vs hv bG a h.2.1 hn'.1;have j:=y1 l vs hv bG b h.2.2 hn'.2;have hr:=fun c=>QN op c h.1;have ho:=h.1;simp only[FP,dU,cZ,or_false] at ho;show SC _ _ _ _ (VS (match a.ev l vs with
   |some x=>(match b.ev l vs with
    |some y=>some (LH op (zQ x y))
    |none=>none)
   |none=>none)) _
  cases he:a.ev l vs with
  |none=>
   rw[he] at i;replace i:SC _ _ _ _ (.panic eR) _:=i;show SC _ _ _ _ (.panic eR) _;clear h hr;rcases ho with rfl|rfl|rfl|rfl|rfl|rfl;all_goals
    refine bI Tryz.func72 rfl ?_;(conv=>whnf);refine cS [0,1,2] i ?_;(conv=>whnf);exact fin 3
  |some x=>
  rw[he] at i;replace i:SC _ _ _ _ (.val x.gv) _:=i;obtain⟨k,n,t⟩:=x;cases hf:b.ev l vs with
  |none=>
   rw[hf] at j;replace j:SC _ _ _ _ (.panic eR) _:=j;show SC _ _ _ _ (.panic eR) _;clear h hr;rcases ho with rfl|rfl|rfl|rfl|rfl|rfl;all_goals
    refine bI Tryz.func72 rfl ?_;(conv=>whnf);refine cS [0,1,2] i ?_;(conv=>whnf);refine st (l:=Val.cs ⟨k,n,t⟩) ?_;(conv=>whnf);refine GDraw.pan 10 _ rfl (by kernel_rfl) ?_;(conv=>whnf);refine cS [0,1,2] j ?_;(conv=>whnf);exact fin 3
  |some y=>
   rw[hf] at j;replace j:SC _ _ _ _ (.val y.gv) _:=j;have hc:=NN ⟨k,n,t⟩ y;have hR:=hr (zQ ⟨k,n,t⟩ y);show SC _ _ _ _ (.val (.b (LH op (zQ ⟨k,n,t⟩ y)))) _;generalize zQ ⟨k,n,t⟩ y=z at*;clear h hr;rcases ho with rfl|rfl|rfl|rfl|rfl|rfl;all_goals
    generalize LH _ z=w at*;refine bI Tryz.func72 rfl ?_;(conv=>whnf);refine cS [0,1,2] i ?_;(conv=>whnf);refine st (l:=Val.cs ⟨k,n,t⟩) ?_;(conv=>whnf);refine gP ?_;(conv=>whnf);refine cS [0,1,2] j ?_;(conv=>whnf);refine cP hc ?_;(conv=>whnf);refine cP hR ?_;(conv=>whnf);exact fin 3
 |.no c,h,hn=>by
  have i:=AF l vs hv bG c h hn;show SC _ _ _ _ (VS (match c.hold l vs with
   |some x=>some (!x)
   |none=>none)) _
  cases he:c.hold l vs with
  |none=>
   rw[he] at i;replace i:SC _ _ _ _ (.panic eR) _:=i;show SC _ _ _ _ (.panic eR) _;refine bI Tryz.func72 rfl ?_;(conv=>whnf);refine cS [0,1,2] i ?_;(conv=>whnf);exact fin 3
  |some x=>
   rw[he] at i;replace i:SC _ _ _ _ (.val (.b x)) _:=i;show SC _ _ _ _ (.val (.b (!x))) _;refine bI Tryz.func72 rfl ?_;(conv=>whnf);refine cS [0,1,2] i ?_;(conv=>whnf);exact fin 3
 |.two op a b,h,hn=>by
  have hn':a.nm l=true/\b.nm l=true:=by simpa[Cn.nm] using hn
  have i:=AF l vs hv bG a h.2.1 hn'.1;have j:=AF l vs hv bG b h.2.2 hn'.2;have ho:=h.1;show SC _ _ _ _ (VS (match a.hold l vs with
   |some x=>(match b.hold l vs with
    |some y=>some (if op=[111,114] then x||y else x&&y)
    |none=>none)
   |none=>none)) _
  cases he:a.hold l vs with
  |none=>
   rw[he] at i;replace i:SC _ _ _ _ (.panic eR) _:=i;show SC _ _ _ _ (.panic eR) _;clear h;rcases ho with rfl|rfl;all_goals
    refine bI Tryz.func72 rfl ?_;(conv=>whnf);refine GDraw.pans eR (by kernel_rfl) ?_;(conv=>whnf);refine cS [0,1,2] i ?_;refine⟨rfl,?_⟩;(conv=>whnf);exact fin 3
  |some x=>
  rw[he] at i;replace i:SC _ _ _ _ (.val (.b x)) _:=i;cases hf:b.hold l vs with
  |none=>
   rw[hf] at j;replace j:SC _ _ _ _ (.panic eR) _:=j;show SC _ _ _ _ (.panic eR) _;clear h;rcases ho with rfl|rfl;all_goals
    refine bI Tryz.func72 rfl ?_;(conv=>whnf);refine GDraw.pans eR (by kernel_rfl) ?_;(conv=>whnf);refine cS [0,1,2] i ?_;(conv=>whnf);refine cS [0,1,2] j ?_;refine⟨rfl,?_⟩;(conv=>whnf);exact fin 3
  |some y=>
   rw[hf] at j;replace j:SC _ _ _ _ (.val (.b y)) _:=j;show SC _ _ _ _ (.val (.b (if op=[111,114] then x||y else x&&y))) _;clear h he hf hn hn';rcases ho with rfl|rfl<;>cases x<;>cases y;all_goals
    refine bI Tryz.func72 rfl ?_;(conv=>whnf);refine gP ?_;(conv=>whnf);refine cS [0,1,2] i ?_;(conv=>whnf);refine cS [0,1,2] j ?_;(conv=>whnf);exact fin 3
def a1V:Option Bool->GV
 |some v=>.tup [.b v,.b true]
 |none=>.tup [.b false,.b false]
theorem WO [MaxL] (l:List Itm) (vs:List Val) (hv:∀v∈vs,v.ok=true) (bG:l.length=vs.length) (c:Cn) (h:c.wf) (hn:c.nm l=true):SC Tryz.prog 30 [c.gvP,L9] (s8 l vs) (.val (a1V (c.hold l vs))) (s8 l vs):=by
 have i:=AF l vs hv bG c h hn;cases he:c.hold l vs with
 |none=>
  rw[he] at i;replace i:SC _ _ _ _ (.panic eR) _:=i;show SC _ _ _ _ (.val (.tup [.b false,.b false])) _;refine bI Tryz.func30 rfl ?_;conv=>whnf
  refine cS [0,1,2] i ?_;conv=>whnf
  exact j4 (r:=.val (.tup [.b false,.b false])) 3 (by kernel_rfl) (by kernel_rfl)
 |some v=>
  rw[he] at i;replace i:SC _ _ _ _ (.val (.b v)) _:=i;show SC _ _ _ _ (.val (.tup [.b v,.b true])) _;refine bI Tryz.func30 rfl ?_;conv=>whnf
  refine cS [0,1,2] i ?_;conv=>whnf
  refine st ?_;conv=>whnf
  refine st ?_;conv=>whnf
  exact j4 (r:=.val (.tup [.b v,.b true])) 3 (by kernel_rfl) (by kernel_rfl)
def nD (l:List Itm):Bool:=l.all Itm.ok&&decide (l.map Itm.name).Nodup
def qW (l:List Itm) (i:Nat) (v:Val):Bool:=v.ok&&(match l[i]? with
 |some x=>decide (v.k=x.k)
 |none=>true)
def s4 (l:List Itm) (vs:List Val):Bool:=(List.range vs.length).all fun i=>match vs[i]? with
 |some v=>qW l i v
 |none=>true
theorem J5 {y:Itm} (h:y.ok=true):y.k=1∨y.k=2:=by
 unfold Itm.ok at h;simp at h;rcases h.2 with h|h
 ·exact .inl h.1.1.1.1
 ·exact .inr h.1.1.1.1
theorem G1 {l:List Itm} {i:Nat} {y:Itm} (hy:l[i]?=some y) (h:y.ok=false∨∃z∈l.take i,z.name=y.name):nD l=false:=by
 unfold nD;rcases h with h|⟨z,hz,he⟩
 ·rw[show l.all Itm.ok=false by rw[List.all_eq_false];exact⟨y,b9 hy,by rw[h];decide⟩];rfl
 ·rw[show decide (l.map Itm.name).Nodup=false from ?_,Bool.and_false];refine aQ fun hn=>?_;have h1:l=l.take i++y::l.drop (i+1):=by
   have hlt:i<l.length:=(List.getElem?_eq_some_iff.1 hy).1;have h2:=cM hlt;rw[(List.getElem?_eq_some_iff.1 hy).2] at h2;rw[h2,fX]
  rw[h1,dI,bY,List.nodup_append] at hn;exact hn.2.2 z.name (List.mem_map_of_mem hz) y.name (gJ ..) he
theorem M0 {l:List Itm} {vs:List Val} {i:Nat} {v:Val} (hv:vs[i]?=some v) (h:qW l i v=false):s4 l vs=false:=by
 unfold s4;rw[List.all_eq_false];refine⟨i,List.mem_range.2 (List.getElem?_eq_some_iff.1 hv).1,?_⟩;rw[hv];simp[h]
abbrev M1:GV:=.o (.map none)
abbrev M2:GV:=.o .nilFunc
def a0j (b:Bool):GRes:=if b=true then .val (.tup [.mp 1,.fn (.func 49) [] [.ptr 0 0,.ptr 3 0],.i .i64 0]) else .val (.tup [M1,M2,.i .i64 1])
def XW (b:Bool) (l:List Itm) (vs:List Val):List GObj:=if b=true then[.box 23 [.sl .none (dZ vs)],.mp (kE l),.mp (aE l 0),.box 42 [.mp 2]] else[]
abbrev SX (l:List Itm) (vs:List Val):List GObj:=[.box 23 [.sl .none (dZ vs)],.mp (kE l),.mp (aE l 0),.box 42 [.mp 2]]
instance [MaxL] (l:List Itm):KL (eT l):=⟨G5 l⟩
instance [MaxL] (y:Itm):KG y.gv:=⟨y.cl⟩
theorem RU {l:List Itm} {s:By}:(∀z∈l,z.name≠s)->eW Itm.name s l=none:=by
 induction l with
 |nil=>intro _;rfl
 |cons x l ih=>
  intro h;unfold eW;have hx:(s==x.name)=false:=by
   rw[cY];exact fun h'=>h x (gJ ..) h'.symm
  rw[hx,aB b4,ih (fun z hz=>h z (fH _ hz))];rfl
theorem Y9 {l:List Itm} {s:By}:(∃z∈l,z.name=s)->∃p,eW Itm.name s l=some p/\p.2∈l:=by
 induction l with
 |nil=>rintro⟨z,hz,_⟩;cases hz
 |cons x l ih=>
  rintro⟨z,hz,he⟩;unfold eW;cases hx:s==x.name with
  |true=>exact⟨_,rfl,gJ ..⟩
  |false=>
   rw[aB b4];rcases List.mem_cons.1 hz with rfl|hz
   ·rw[he] at hx;simp at hx
   ·obtain⟨p,hp,hm⟩:=ih ⟨z,hz,he⟩;exact⟨(p.1+1,p.2),by rw[hp];rfl,fH _ hm⟩
set_option maxHeartbeats 4000000 in
theorem pL [MaxL] (l:List Itm) (vs:List Val) (hl:l.length<dD) (hm:vs.length<dD):SC Tryz.prog 16 [.sl .none (eT l),.sl .none (dZ vs)] [] (a0j (nD l&&s4 l vs)) (XW (nD l&&s4 l vs) l vs):=by
 have bG:=gR l;have hvl:(dZ vs).length=vs.length:=aS _;have hl':=hl;have hm':=hm;unfold dD at hl' hm';refine f8 D6 mixed Tryz.func16 rfl (bL rfl) (zL _) (by unfold XW;split<;>rfl) ?_;conv=>whnf
 refine st ?_;conv=>whnf
 refine GLoop.introS (fun q:Nat×List (GV×GV)×List (GV×GV)=>q.1<=l.length/\(∀z∈l.take q.1,z.ok=true)/\((l.take q.1).map Itm.name).Nodup/\q.2.1=kE (l.take q.1)/\q.2.2=aE (l.take q.1) 0)
  (fun q=>[(0,.sl .none (eT l)),(3,.ptr 0 0),(7,.mp 1),(8,.ptr 3 0),(15,.sl .none (eT l)),(16,.i .i64 (eT l).length),(17,.i .i64 (q.1:Nat))])
  (fun q=>⟨[.box 23 [.sl .none (dZ vs)],.mp q.2.1,.mp q.2.2,.box 42 [.mp 2]],0,[]⟩) (fun q=>l.length - q.1) (0,[],[]) ⟨zL _,(fun z h=>by simp at h),by simp,rfl,rfl⟩ ⟨rfl,rfl,rfl,rfl,rfl,rfl,rfl,trivial⟩ rfl (fun _ _=>rL _) (fun q _=>rfl) (fun q hq e he=>?_) (fun q φ0 hi=>?_)
 ·obtain⟨i,es,fs⟩:=q;obtain⟨_,_,_,h1,h2⟩:=hq;dsimp only at h1 h2;subst h1 h2;refine⟨?_,rfl,?_⟩
  ·show[GObj.ren e (.box _ [.sl .none (dZ vs)]),GObj.ren e (.mp (kE (l.take i))),GObj.ren e (.mp (aE (l.take i) 0)),.box _ [.mp (e 2)]]=_;have e1:GObj.ren e (.mp (kE (l.take i)))=.mp (kE (l.take i)):=(RO.h (e:=e) (x:=.mp (kE (l.take i))));have e2:GObj.ren e (.mp (aE (l.take i) 0))=.mp (aE (l.take i) 0):=(RO.h (e:=e) (x:=.mp (aE (l.take i) 0)));have e3:∀T,GObj.ren e (.box T [.sl .none (dZ vs)])=.box T [.sl .none (dZ vs)]:=fun T=>(RO.h (e:=e) (x:=.box T [.sl .none (dZ vs)]));rw[e1,e2,e3,he 2 (by simp)]
  ·show[(GV.sl .none (eT l)).ren e,GV.ptr (e 0) 0,.mp (e 1),.ptr (e 3) 0,(GV.sl .none (eT l)).ren e,_,_]=_;rw[Cl.sl (G5 l) e,he 0 (by simp),he 1 (by simp),he 3 (by simp)];rfl
 obtain⟨i,es,fs⟩:=q;obtain⟨hi,hok,hnd,hes,hfs⟩:=hi;replace hi:i<=l.length:=hi;replace hok:∀z∈l.take i,z.ok=true:=hok;replace hnd:((l.take i).map Itm.name).Nodup:=hnd;replace hes:es=kE (l.take i):=hes;replace hfs:fs=aE (l.take i) 0:=hfs;conv=>whnf
 apply gM<;>intro h<;>conv=>whnf
 rotate_left
 ·have hie:i=l.length:=by have:=aW h;omega
  rw[hie,dG] at hok hnd hes hfs;subst hes hfs;have hV:nD l=true:=by
   unfold nD;rw[show l.all Itm.ok=true from List.all_eq_true.2 hok,aR hnd];rfl
  rw[hV,Bool.true_and];refine GLoop.introS (fun j:Nat=>j<=vs.length/\∀i,i<j->∀v,vs[i]?=some v->qW l i v=true)
   (fun j=>[(0,.sl .none (eT l)),(3,.ptr 0 0),(7,.mp 1),(8,.ptr 3 0),(42,.sl .none (dZ vs)),(43,.i .i64 (dZ vs).length),(44,.i .i64 (j:Nat))])
   (fun _=>⟨SX l vs,0,[]⟩) (fun j=>vs.length - j) 0 ⟨zL _,(fun i h=>by omega)⟩ ⟨rfl,rfl,rfl,rfl,rfl,rfl,rfl,trivial⟩ rfl (fun _ _=>rL _) (fun q _=>rfl) (fun q hq e he=>?_) (fun j φ1 hj=>?_)
  ·refine⟨?_,rfl,?_⟩
   ·exact(FH.h (n:=4) (s:=SX l vs)) e (fun i hi=>he i hi)
   ·show[(GV.sl .none (eT l)).ren e,GV.ptr (e 0) 0,.mp (e 1),.ptr (e 3) 0,(GV.sl .none (dZ vs)).ren e,_,_]=_;rw[Cl.sl (G5 l) e,Cl.sl (NR vs) e,he 0 (by simp),he 1 (by simp),he 3 (by simp)];rfl
  obtain⟨hj1,hj2⟩:=hj;conv=>whnf
  apply gM<;>intro g<;>conv=>whnf
  rotate_left
  ·have hje:j=vs.length:=by have:=aW g;omega
   have hW:s4 l vs=true:=by
    unfold s4;rw[aZ];intro x hx;have hx:=List.mem_range.1 hx;cases hv:vs[x]? with
    |none=>rfl
    |some v=>exact hj2 x (by omega) v hv
   rw[hW];show Owes [] (.val (.tup [.mp 1,.fn (.func 49) [] [.ptr 0 0,.ptr 3 0],.i .i64 0])) (SX l vs) _ _;exact fin 4
  have hjt:j<vs.length:=by have:=aO g;omega
  obtain⟨v,hv⟩:∃v,vs[j]?=some v:=⟨vs[j],gL hjt⟩;have hc:=jE v;have hgv:=zW hv;have nxt:qW l j v=true->∀i,i<j+1->∀v,vs[i]?=some v->qW l i v=true:=fun h i hi w hw=>by
   rcases Nat.lt_succ_iff_lt_or_eq.1 hi with h1|rfl
   ·exact hj2 i h1 w hw
   ·rw[hv] at hw;cases hw;exact h
  have hno:qW l j v=false->s4 l vs=false:=fun h=>M0 hv h;refine⟨fK _,_,by rw[aD];exact hgv,rfl,?_⟩;conv=>whnf
  refine st (l:=v.cs) ?_;conv=>whnf
  refine gP ?_;conv=>whnf
  refine cP hc ?_;cases hok:v.ok with
  |false=>
   (conv=>whnf);rw[hno (by unfold qW;rw[hok];rfl)];show Owes [] (.val (.tup [M1,M2,.i .i64 1])) [] _ _;exact fin 0
  |true=>
   (conv=>whnf);by_cases hjl:j<l.length;rotate_left
   ·rw[show decide (((j:Nat):Int)<(((eT l).length:Nat):Int))=false from aQ (by rw[bG];omega)];(conv=>whnf);exact⟨vs.length - (j+1),(by show _<vs.length - j;omega),j+1,⟨hjt,nxt (by unfold qW;rw[hok,b6 (by omega)];rfl)⟩,rfl,⟨rfl,rfl,rfl,rfl,rfl,rfl,cT (by omega),trivial⟩,_,rfl,rfl⟩
   obtain⟨y,hy⟩:∃y,l[j]?=some y:=⟨l[j],gL hjl⟩;have hgy:=u6 hy;rw[show decide (((j:Nat):Int)<(((eT l).length:Nat):Int))=true from aR (by rw[bG];omega)];(conv=>whnf);refine⟨fK _,_,by rw[aD];exact hgy,rfl,?_⟩;(conv=>whnf);by_cases hk:v.k=y.k
   ·rw[show(v.k !=y.k)=false by rw[hk];exact eO _];(conv=>whnf);exact⟨vs.length - (j+1),(by show _<vs.length - j;omega),j+1,⟨hjt,nxt (by unfold qW;rw[hok,hy];exact aR hk)⟩,rfl,⟨rfl,rfl,rfl,rfl,rfl,rfl,cT (by omega),trivial⟩,_,rfl,rfl⟩
   ·rw[show(v.k !=y.k)=true from bne_iff_ne.2 hk];(conv=>whnf);rw[hno (by unfold qW;rw[hok,hy];exact aQ hk)];show Owes [] (.val (.tup [M1,M2,.i .i64 1])) [] _ _;exact fin 0
 have hlt:i<l.length:=by have:=aO h;omega
 obtain⟨y,hy⟩:∃y,l[i]?=some y:=⟨l[i],gL hlt⟩;have hv:=L5 y;have hgy:=u6 hy;refine⟨fK _,_,by rw[aD];exact hgy,rfl,?_⟩;conv=>whnf
 refine st (l:=y.cs) ?_;conv=>whnf
 refine cP hv ?_;conv=>whnf
 apply gM<;>intro h1<;>conv=>whnf
 ·rw[G1 hy (.inl (by simpa using h1)),Bool.false_and];show Owes [] (.val (.tup [M1,M2,.i .i64 1])) [] _ _;exact fin 0
 have h1':y.ok=true:=by simpa using h1
 have hfy:=y8 Itm.name (fun x=>.i .i64 x.k) y.name (l.take i) 0;replace hfy:i6 .string (.s y.name) (kE (l.take i)) 0=_:=hfy;rw[<-hes] at hfy;by_cases hdup:∃z∈l.take i,z.name=y.name
 ·obtain⟨p,hp,hmem⟩:=Y9 hdup;rw[hp] at hfy;replace hfy:i6 .string (.s y.name) es 0=some (some (0+p.1,.i .i64 p.2.k)):=hfy;refine⟨some (0+p.1,.i .i64 p.2.k),hfy,?_⟩;conv=>whnf
  have q:(p.2.k !=0)=true:=by
   rcases J5 (hok p.2 hmem) with h|h<;>rw[h]<;>rfl
  rw[q];conv=>whnf
  rw[G1 hy (.inr hdup),Bool.false_and];show Owes [] (.val (.tup [M1,M2,.i .i64 1])) [] _ _;exact fin 0
 have hne:∀z∈l.take i,z.name≠y.name:=fun z hz he=>hdup ⟨z,hz,he⟩;rw[RU hne] at hfy;replace hfy:i6 .string (.s y.name) es 0=some none:=hfy;refine⟨none,hfy,?_⟩;conv=>whnf
 refine hH _ _ _ rfl rfl rfl (by kernel_rfl) ?_;conv=>whnf
 have hff:=I4 y.name (l.take i) 0 0;rw[RU hne,<-hfs] at hff;replace hff:i6 .string (.s y.name) fs 0=some none:=hff;refine⟨zL _,none,hfy,?_⟩;conv=>whnf
 refine⟨zL _,none,hff,?_⟩;conv=>whnf
 have hes':es++[(GV.s y.name,GV.i .i64 y.k)]=kE (l.take (i+1)):=by
  rw[hes,dS,hy];unfold kE;rw[dI];rfl
 have hfs':fs++[(GV.s y.name,GV.i .i64 ((i:Nat):Int))]=aE (l.take (i+1)) 0:=by
  rw[hfs,dS,hy];show _=aE (l.take i++[y]) 0;rw[P3,cL,Nat.min_eq_left (by omega),bM]
 exact⟨l.length - (i+1),(by show _<l.length - i;omega),(i+1,es++[(GV.s y.name,GV.i .i64 y.k)],fs++[(GV.s y.name,GV.i .i64 ((i:Nat):Int))]),⟨hlt,uO hok hy h1',(B5 hnd hy).2 hne,hes',hfs'⟩,rfl,⟨rfl,rfl,rfl,rfl,rfl,rfl,cT (by omega),trivial⟩,_,rfl,rfl⟩
theorem r6 [MaxL] (F:FuncId) (hF:F=19∨F=28) (T:TypeId) (l:List Itm) (g:GV) [KG g]
  (hf:SC Tryz.prog F [.ptr 0 0,.ptr 2 0] [V8 1,.mp (kE l),.box T [g]] (.val (.tup [])) [V8 1,.mp (kE l),.box T [g]]):
  SC Tryz.prog 18 [.mp 0,.fn (.func F) [] [.ptr 1 0]] [.mp (kE l),.box T [g]] (.val (.i .i64 0)) [.mp (kE l),.box T [g]]:=by
 rcases hF with rfl|rfl;all_goals
  refine bI Tryz.func18 rfl ?_;conv=>whnf
  refine cS [3,0,1] hf ?_;conv=>whnf
  refine st ?_;conv=>whnf
  exact j4 (r:=.val (.i .i64 0)) 2 (by kernel_rfl) (by kernel_rfl)
theorem BP [MaxL] (F:FuncId) (hF:F=19∨F=28) (T:TypeId) (l:List Itm) (g:GV) [KG g] (x:Int)
  (hf:SC Tryz.prog F [.ptr 0 0,.ptr 2 0] [V8 1,.mp (kE l),.box T [g]] (.panic (f6 x)) [V8 1,.mp (kE l),.box T [g]]):
  SC Tryz.prog 18 [.mp 0,.fn (.func F) [] [.ptr 1 0]] [.mp (kE l),.box T [g]] (.val (.i .i64 x)) [.mp (kE l),.box T [g]]:=by
 rcases hF with rfl|rfl;all_goals
  refine bI Tryz.func18 rfl ?_;conv=>whnf
  refine cS [3,0,1] hf ?_;conv=>whnf
  exact j4 (r:=.val (.i .i64 x)) 2 (by kernel_rfl) (by kernel_rfl)
