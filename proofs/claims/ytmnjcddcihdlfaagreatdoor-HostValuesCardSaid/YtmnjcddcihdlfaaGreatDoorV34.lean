/- Part of HostValues. -/
import Derived.Test.YtmnjcddcihdlfaaGreatDoorV33
set_option linter.all false
set_option maxRecDepth 100000
namespace Go.Proofs.YtmnjcddcihdlfaaGreatDoor
open Go.RowKit
set_option maxHeartbeats 2000000
theorem KU {s:By}:∀{l:List Itm} {i:Nat} {x:Itm},eW Itm.name s l=some (i,x)->l[i]?=some x
 |[],_,_,h=>by cases h
 |y::l,i,x,h=>by
  unfold eW at h;split at h
  ·cases h;rfl
  ·rw[aC] at h;obtain⟨⟨j,z⟩,h1,h2⟩:=h;cases h2;have:=KU h1;exact this
def Z8 (o:Option Int):Int:=o.getD 0
theorem BB {o:Option Int} {w:Int} (hw:w≠0):(Z8 o !=w)=!decide (o=some w):=by
 cases o with
 |none=>rw[show(Z8 none !=w)=true from bne_iff_ne.2 (fun h=>hw h.symm)];simp
 |some k=>
  by_cases h:k=w
  ·subst h;rw[show(Z8 (some k) !=k)=false from eO k];simp
  ·rw[show(Z8 (some k) !=w)=true from bne_iff_ne.2 h];simp[h]
theorem FQ [MaxL] (l:List Itm) (hl:l.length<dD) (hv:nD l=true):∀(e:Ex),e.wf->e.nm l=true->SC Tryz.prog 64 [scG l,e.gvR] [] (.val (.i .i64 (Z8 (e.kd l)))) []
 |.zero,h,_=>h.elim
 |.item r i,_,h=>by cases h
 |.var s,_,hn=>by
  have h:=qT l hl s;have h0:vk l s≠0:=aO hn;show SC _ _ _ _ (.val (.i .i64 (vk l s))) _;unfold vk at h0⊢;cases hf:eW Itm.name s l with
  |none=>rw[hf] at h0;exact absurd rfl h0
  |some p=>
   obtain⟨i,x⟩:=p;rw[hf] at h;have hg:=u6 (KU hf);dsimp only;refine bI Tryz.func64 rfl ?_;(conv=>whnf);refine gP ?_;(conv=>whnf);refine cP h ?_;(conv=>whnf);refine ix hg ⟨rfl,?_⟩;(conv=>whnf);exact fin 0
 |.num n,_,_=>by
  show SC _ _ _ _ (.val (.i .i64 1)) _;refine bI Tryz.func64 rfl ?_;conv=>whnf
  exact fin 0
 |.txt s,_,_=>by
  show SC _ _ _ _ (.val (.i .i64 2)) _;refine bI Tryz.func64 rfl ?_;conv=>whnf
  exact fin 0
 |.status,_,_=>by
  show SC _ _ _ _ (.val (.i .i64 1)) _;refine bI Tryz.func64 rfl ?_;conv=>whnf
  exact fin 0
 |.key,_,_=>by
  show SC _ _ _ _ (.val (.i .i64 1)) _;refine bI Tryz.func64 rfl ?_;conv=>whnf
  exact fin 0
 |.neg e,h,hn=>by
  have ih:=FQ l hl hv e h hn;have hk:=BB (o:=e.kd l) (w:=1) (by decide);rw[d7] at ih;rw[Z5];show SC _ _ _ _ (.val (.i .i64 (Z8 (if e.kd l=some 1 then some 1 else none)))) _;generalize e.kd l=b at*;refine bI Tryz.func64 rfl ?_;conv=>whnf
  refine bA (fun j:Nat=>j=0∨(j=1/\b=some 1)) (fun j=>[(2,.ptr 0 0),(3,.ptr 1 0),(5,.i .i64 1),(8,.i .i64 (j:Nat))]) (fun _=>⟨[E6 l,.box 61 [.s [110,101,103],.i .i64 0,.s [],.s [],.sl .none [.agg [.s e.op,.i .i64 e.n,.s e.st,.s e.it,.sl .none (e.kids.map Ex.gvR)]]]],0,[]⟩) (fun j=>1 - j) 0 (.inl rfl) ⟨rfl,rfl,rfl,rfl,trivial⟩ rfl (fun j φ0 hj=>?_);rcases hj with rfl|⟨rfl,rfl⟩
  ·(conv=>whnf);refine gP ?_;(conv=>whnf);refine⟨cD 0,_,rfl,rfl,?_⟩;(conv=>whnf);refine cP ih ?_;(conv=>whnf);rw[hk];by_cases hb:b=some 1
   ·rw[aR hb];(conv=>whnf);exact⟨0,by decide,1,.inr ⟨rfl,hb⟩,rfl,⟨rfl,rfl,rfl,rfl,trivial⟩,rfl⟩
   ·rw[aQ hb,aB hb];(conv=>whnf);exact fin 0
  ·(conv=>whnf);exact fin 0
 |.bin op a b,h,hn=>by
  have hn':a.nm l=true/\b.nm l=true:=by simpa[Ex.nm] using hn
  have ih:=FQ l hl hv a h.2.1 hn'.1;have jh:=FQ l hl hv b h.2.2 hn'.2;have ho:=h.1;simp only[LY,dU,cZ,or_false] at ho;rw[d7] at ih jh;rw[a0B];show SC _ _ _ _ (.val (.i .i64 (Z8 (if a.kd l=some (mI op)/\b.kd l=some (mI op) then some (mI op) else none)))) _;generalize a.kd l=x at*;generalize b.kd l=y at*;clear h;rcases ho with rfl|rfl|rfl|rfl
  ·rw[show mI [43]=1 from rfl];have hk:=fun o=>BB (o:=o) (w:=1) (by decide);refine bI Tryz.func64 rfl ?_;(conv=>whnf);refine bA (fun j:Nat=>j=0∨(j=1/\x=some 1)∨(j=2/\x=some 1/\y=some 1)) (fun j=>[(2,.ptr 0 0),(3,.ptr 1 0),(5,.i .i64 1),(8,.i .i64 (j:Nat))]) (fun _=>⟨[E6 l,.box 61 [.s [43],.i .i64 0,.s [],.s [],.sl .none [.agg [.s a.op,.i .i64 a.n,.s a.st,.s a.it,.sl .none (a.kids.map Ex.gvR)],.agg [.s b.op,.i .i64 b.n,.s b.st,.s b.it,.sl .none (b.kids.map Ex.gvR)]]]],0,[]⟩) (fun j=>2 - j) 0 (.inl rfl) ⟨rfl,rfl,rfl,rfl,trivial⟩ rfl (fun j φ0 hj=>?_);rcases hj with rfl|⟨rfl,rfl⟩|⟨rfl,rfl,rfl⟩
   ·(conv=>whnf);refine gP ?_;(conv=>whnf);refine⟨cD 0,_,rfl,rfl,?_⟩;(conv=>whnf);refine cP ih ?_;(conv=>whnf);rw[hk];by_cases hb:x=some 1
    ·rw[aR hb];(conv=>whnf);exact⟨1,by decide,1,.inr (.inl ⟨rfl,hb⟩),rfl,⟨rfl,rfl,rfl,rfl,trivial⟩,rfl⟩
    ·rw[aQ hb,aB (fun h=>hb h.1)];(conv=>whnf);exact fin 0
   ·(conv=>whnf);refine gP ?_;(conv=>whnf);refine⟨fK 1,_,rfl,rfl,?_⟩;(conv=>whnf);refine cP jh ?_;(conv=>whnf);rw[hk];by_cases hb:y=some 1
    ·rw[aR hb];(conv=>whnf);exact⟨0,by decide,2,.inr (.inr ⟨rfl,rfl,hb⟩),rfl,⟨rfl,rfl,rfl,rfl,trivial⟩,rfl⟩
    ·rw[aQ hb,aB (fun h=>hb h.2)];(conv=>whnf);exact fin 0
   ·(conv=>whnf);exact fin 0
  ·rw[show mI [45]=1 from rfl];have hk:=fun o=>BB (o:=o) (w:=1) (by decide);refine bI Tryz.func64 rfl ?_;(conv=>whnf);refine bA (fun j:Nat=>j=0∨(j=1/\x=some 1)∨(j=2/\x=some 1/\y=some 1)) (fun j=>[(2,.ptr 0 0),(3,.ptr 1 0),(5,.i .i64 1),(8,.i .i64 (j:Nat))]) (fun _=>⟨[E6 l,.box 61 [.s [45],.i .i64 0,.s [],.s [],.sl .none [.agg [.s a.op,.i .i64 a.n,.s a.st,.s a.it,.sl .none (a.kids.map Ex.gvR)],.agg [.s b.op,.i .i64 b.n,.s b.st,.s b.it,.sl .none (b.kids.map Ex.gvR)]]]],0,[]⟩) (fun j=>2 - j) 0 (.inl rfl) ⟨rfl,rfl,rfl,rfl,trivial⟩ rfl (fun j φ0 hj=>?_);rcases hj with rfl|⟨rfl,rfl⟩|⟨rfl,rfl,rfl⟩
   ·(conv=>whnf);refine gP ?_;(conv=>whnf);refine⟨cD 0,_,rfl,rfl,?_⟩;(conv=>whnf);refine cP ih ?_;(conv=>whnf);rw[hk];by_cases hb:x=some 1
    ·rw[aR hb];(conv=>whnf);exact⟨1,by decide,1,.inr (.inl ⟨rfl,hb⟩),rfl,⟨rfl,rfl,rfl,rfl,trivial⟩,rfl⟩
    ·rw[aQ hb,aB (fun h=>hb h.1)];(conv=>whnf);exact fin 0
   ·(conv=>whnf);refine gP ?_;(conv=>whnf);refine⟨fK 1,_,rfl,rfl,?_⟩;(conv=>whnf);refine cP jh ?_;(conv=>whnf);rw[hk];by_cases hb:y=some 1
    ·rw[aR hb];(conv=>whnf);exact⟨0,by decide,2,.inr (.inr ⟨rfl,rfl,hb⟩),rfl,⟨rfl,rfl,rfl,rfl,trivial⟩,rfl⟩
    ·rw[aQ hb,aB (fun h=>hb h.2)];(conv=>whnf);exact fin 0
   ·(conv=>whnf);exact fin 0
  ·rw[show mI [42]=1 from rfl];have hk:=fun o=>BB (o:=o) (w:=1) (by decide);refine bI Tryz.func64 rfl ?_;(conv=>whnf);refine bA (fun j:Nat=>j=0∨(j=1/\x=some 1)∨(j=2/\x=some 1/\y=some 1)) (fun j=>[(2,.ptr 0 0),(3,.ptr 1 0),(5,.i .i64 1),(8,.i .i64 (j:Nat))]) (fun _=>⟨[E6 l,.box 61 [.s [42],.i .i64 0,.s [],.s [],.sl .none [.agg [.s a.op,.i .i64 a.n,.s a.st,.s a.it,.sl .none (a.kids.map Ex.gvR)],.agg [.s b.op,.i .i64 b.n,.s b.st,.s b.it,.sl .none (b.kids.map Ex.gvR)]]]],0,[]⟩) (fun j=>2 - j) 0 (.inl rfl) ⟨rfl,rfl,rfl,rfl,trivial⟩ rfl (fun j φ0 hj=>?_);rcases hj with rfl|⟨rfl,rfl⟩|⟨rfl,rfl,rfl⟩
   ·(conv=>whnf);refine gP ?_;(conv=>whnf);refine⟨cD 0,_,rfl,rfl,?_⟩;(conv=>whnf);refine cP ih ?_;(conv=>whnf);rw[hk];by_cases hb:x=some 1
    ·rw[aR hb];(conv=>whnf);exact⟨1,by decide,1,.inr (.inl ⟨rfl,hb⟩),rfl,⟨rfl,rfl,rfl,rfl,trivial⟩,rfl⟩
    ·rw[aQ hb,aB (fun h=>hb h.1)];(conv=>whnf);exact fin 0
   ·(conv=>whnf);refine gP ?_;(conv=>whnf);refine⟨fK 1,_,rfl,rfl,?_⟩;(conv=>whnf);refine cP jh ?_;(conv=>whnf);rw[hk];by_cases hb:y=some 1
    ·rw[aR hb];(conv=>whnf);exact⟨0,by decide,2,.inr (.inr ⟨rfl,rfl,hb⟩),rfl,⟨rfl,rfl,rfl,rfl,trivial⟩,rfl⟩
    ·rw[aQ hb,aB (fun h=>hb h.2)];(conv=>whnf);exact fin 0
   ·(conv=>whnf);exact fin 0
  ·rw[show mI [38]=2 from rfl];have hk:=fun o=>BB (o:=o) (w:=2) (by decide);refine bI Tryz.func64 rfl ?_;(conv=>whnf);refine bA (fun j:Nat=>j=0∨(j=1/\x=some 2)∨(j=2/\x=some 2/\y=some 2)) (fun j=>[(2,.ptr 0 0),(3,.ptr 1 0),(5,.i .i64 2),(8,.i .i64 (j:Nat))]) (fun _=>⟨[E6 l,.box 61 [.s [38],.i .i64 0,.s [],.s [],.sl .none [.agg [.s a.op,.i .i64 a.n,.s a.st,.s a.it,.sl .none (a.kids.map Ex.gvR)],.agg [.s b.op,.i .i64 b.n,.s b.st,.s b.it,.sl .none (b.kids.map Ex.gvR)]]]],0,[]⟩) (fun j=>2 - j) 0 (.inl rfl) ⟨rfl,rfl,rfl,rfl,trivial⟩ rfl (fun j φ0 hj=>?_);rcases hj with rfl|⟨rfl,rfl⟩|⟨rfl,rfl,rfl⟩
   ·(conv=>whnf);refine gP ?_;(conv=>whnf);refine⟨cD 0,_,rfl,rfl,?_⟩;(conv=>whnf);refine cP ih ?_;(conv=>whnf);rw[hk];by_cases hb:x=some 2
    ·rw[aR hb];(conv=>whnf);exact⟨1,by decide,1,.inr (.inl ⟨rfl,hb⟩),rfl,⟨rfl,rfl,rfl,rfl,trivial⟩,rfl⟩
    ·rw[aQ hb,aB (fun h=>hb h.1)];(conv=>whnf);exact fin 0
   ·(conv=>whnf);refine gP ?_;(conv=>whnf);refine⟨fK 1,_,rfl,rfl,?_⟩;(conv=>whnf);refine cP jh ?_;(conv=>whnf);rw[hk];by_cases hb:y=some 2
    ·rw[aR hb];(conv=>whnf);exact⟨0,by decide,2,.inr (.inr ⟨rfl,rfl,hb⟩),rfl,⟨rfl,rfl,rfl,rfl,trivial⟩,rfl⟩
    ·rw[aQ hb,aB (fun h=>hb h.2)];(conv=>whnf);exact fin 0
   ·(conv=>whnf);exact fin 0
theorem Ex.kd_ne {l:List Itm} (e:Ex) {k:Int} (hn:e.nm l=true) (h:e.kd l=some k):k≠0:=by
 cases e with
 |var s=>cases h;exact aO hn
 |neg e=>unfold Ex.kd at h;split at h<;>cases h;decide
 |bin op a b=>unfold Ex.kd at h;split at h<;>cases h;unfold mI;split<;>decide
 |txt s=>cases h;decide
 |num n=>cases h;decide
 |status=>cases h;decide
 |key=>cases h;decide
 |zero=>cases h;decide
 |item r i=>cases hn
def ckK:Except Int Int->Int
 |.ok k=>k
 |.error _=>0
def ckE:Except Int Int->Int
 |.ok _=>0
 |.error e=>e
theorem w8 [MaxL] (l:List Itm) (hl:l.length<dD) (hv:nD l=true) (e:Ex) (h:e.wf):SC Tryz.prog 25 [scG l,e.gvR] [] (.val (.tup [.i .i64 (ckK (e.ck l)),.i .i64 (ckE (e.ck l))])) []:=by
 have i:=A5 l hl hv e h;rw[d7] at i⊢;unfold Ex.ck;cases hb:e.nm l with
 |false=>
  rw[hb] at i;rw[aB b4];show SC _ _ _ _ (.val (.tup [.i .i64 0,.i .i64 5])) _;refine bI Tryz.func25 rfl ?_;conv=>whnf
  refine cP i ?_;conv=>whnf
  exact fin 0
 |true=>
  rw[hb] at i;rw[aA rfl];have j:=FQ l hl hv e h hb;rw[d7] at j;cases hk:e.kd l with
  |none=>
   rw[hk] at j;replace j:SC _ _ _ _ (.val (.i .i64 0)) _:=j;show SC _ _ _ _ (.val (.tup [.i .i64 0,.i .i64 10])) _;refine bI Tryz.func25 rfl ?_;(conv=>whnf);refine cP i ?_;(conv=>whnf);refine cP j ?_;(conv=>whnf);exact fin 0
  |some k=>
   have hne:=Ex.kd_ne e hb hk;rw[hk] at j;replace j:SC _ _ _ _ (.val (.i .i64 k)) _:=j;show SC _ _ _ _ (.val (.tup [.i .i64 k,.i .i64 0])) _;have q:(k==0)=false:=beq_eq_false_iff_ne.2 hne;refine bI Tryz.func25 rfl ?_;(conv=>whnf);refine cP i ?_;(conv=>whnf);refine cP j ?_;(conv=>whnf);rw[q];(conv=>whnf);exact fin 0
theorem noR [MaxL] (c:Cn):(Cn.no c).gvR=.agg [.s iX,.sl .none [.agg [.s c.opR,.sl .none (c.kids.map Cn.gvR),.sl .none (c.sides.map Ex.gvR)]],.sl .none []]:=by
 show GV.agg (Y3 iX [c.gvR] [])=_;rw[dW];rfl
theorem a0M [MaxL] (op:By) (a b:Cn):(Cn.two op a b).gvR=.agg [.s op,.sl .none [.agg [.s a.opR,.sl .none (a.kids.map Cn.gvR),.sl .none (a.sides.map Ex.gvR)],.agg [.s b.opR,.sl .none (b.kids.map Cn.gvR),.sl .none (b.sides.map Ex.gvR)]],.sl .none []]:=by
 show GV.agg (Y3 op [a.gvR,b.gvR] [])=_;rw[dW a,dW b];rfl
theorem a0b [MaxL] (op:By) (a b:Ex):(Cn.rel op a b).gvR=.agg [.s op,.sl .none [],.sl .none [.agg [.s a.op,.i .i64 a.n,.s a.st,.s a.it,.sl .none (a.kids.map Ex.gvR)],.agg [.s b.op,.i .i64 b.n,.s b.st,.s b.it,.sl .none (b.kids.map Ex.gvR)]]]:=by
 show GV.agg (Y3 op [] [a.gvR,b.gvR])=_;rw[d7 a,d7 b];rfl
theorem tX [MaxL] (l:List Itm) (hl:l.length<dD) (hv:nD l=true):∀(c:Cn),c.wf->SC Tryz.prog 32 [scG l,c.gvR] [] (.val (.i .i64 (c.er l))) []
 |.zero,h=>h.elim
 |.no c,h=>by
  have ih:=tX l hl hv c h;rw[dW] at ih;rw[noR];show SC _ _ _ _ (.val (.i .i64 (c.er l))) _;generalize c.er l=x at*;refine bI Tryz.func32 rfl ?_;conv=>whnf
  refine bA (fun j:Nat=>j=0∨(j=1/\x=0)) (fun j=>[(2,.ptr 0 0),(3,.ptr 1 0),(5,.i .i64 (j:Nat))]) (fun _=>⟨[E6 l,.box 89 [.s iX,.sl .none [.agg [.s c.opR,.sl .none (c.kids.map Cn.gvR),.sl .none (c.sides.map Ex.gvR)]],.sl .none []]],0,[]⟩) (fun j=>1 - j) 0 (.inl rfl) ⟨rfl,rfl,rfl,trivial⟩ rfl (fun j φ0 hj=>?_);rcases hj with rfl|⟨rfl,hx0⟩
  ·(conv=>whnf);refine gP ?_;(conv=>whnf);refine⟨cD 0,_,rfl,rfl,?_⟩;(conv=>whnf);refine cP ih ?_;(conv=>whnf);by_cases hz:x=0
   ·rw[show(x !=0)=false by rw[hz];rfl];(conv=>whnf);exact⟨0,by decide,1,.inr ⟨rfl,hz⟩,rfl,⟨rfl,rfl,rfl,trivial⟩,rfl⟩
   ·rw[show(x !=0)=true from bne_iff_ne.2 hz];(conv=>whnf);skip;exact fin 0
  ·(conv=>whnf);rw[hx0];exact fin 0
 |.two op a b,h=>by
  have ih:=tX l hl hv a h.2.1;have jh:=tX l hl hv b h.2.2;rw[dW] at ih jh;rw[a0M];show SC _ _ _ _ (.val (.i .i64 (if a.er l=0 then b.er l else a.er l))) _;generalize a.er l=x at*;generalize b.er l=y at*;refine bI Tryz.func32 rfl ?_;conv=>whnf
  refine bA (fun j:Nat=>j=0∨(j=1/\x=0)∨(j=2/\x=0/\y=0)) (fun j=>[(2,.ptr 0 0),(3,.ptr 1 0),(5,.i .i64 (j:Nat))]) (fun _=>⟨[E6 l,.box 89 [.s op,.sl .none [.agg [.s a.opR,.sl .none (a.kids.map Cn.gvR),.sl .none (a.sides.map Ex.gvR)],.agg [.s b.opR,.sl .none (b.kids.map Cn.gvR),.sl .none (b.sides.map Ex.gvR)]],.sl .none []]],0,[]⟩) (fun j=>2 - j) 0 (.inl rfl) ⟨rfl,rfl,rfl,trivial⟩ rfl (fun j φ0 hj=>?_);rcases hj with rfl|⟨rfl,hx0⟩|⟨rfl,hx0,hy0⟩
  ·(conv=>whnf);refine gP ?_;(conv=>whnf);refine⟨cD 0,_,rfl,rfl,?_⟩;(conv=>whnf);refine cP ih ?_;(conv=>whnf);by_cases hz:x=0
   ·rw[show(x !=0)=false by rw[hz];rfl];(conv=>whnf);exact⟨1,by decide,1,.inr (.inl ⟨rfl,hz⟩),rfl,⟨rfl,rfl,rfl,trivial⟩,rfl⟩
   ·rw[show(x !=0)=true from bne_iff_ne.2 hz];(conv=>whnf);rw[aB hz];exact fin 0
  ·(conv=>whnf);refine gP ?_;(conv=>whnf);refine⟨fK 1,_,rfl,rfl,?_⟩;(conv=>whnf);refine cP jh ?_;(conv=>whnf);by_cases hz:y=0
   ·rw[show(y !=0)=false by rw[hz];rfl];(conv=>whnf);exact⟨0,by decide,2,.inr (.inr ⟨rfl,hx0,hz⟩),rfl,⟨rfl,rfl,rfl,trivial⟩,rfl⟩
   ·rw[show(y !=0)=true from bne_iff_ne.2 hz];(conv=>whnf);rw[aA hx0];exact fin 0
  ·(conv=>whnf);rw[aA hx0,hy0];exact fin 0
 |.rel op a b,h=>by
  have ia:=w8 l hl hv a h.2.1;have ib:=w8 l hl hv b h.2.2;have na:=fun x=>Ex.ck_ne l a (x:=x);have nb:=fun x=>Ex.ck_ne l b (x:=x);rw[d7] at ia ib;rw[a0b];unfold Cn.er;generalize a.ck l=x at*;generalize b.ck l=y at*;clear h;cases x with
  |error e=>
   have hne:=na e rfl;replace ia:SC _ _ _ _ (.val (.tup [.i .i64 0,.i .i64 e])) _:=ia;show SC _ _ _ _ (.val (.i .i64 e)) _;refine bI Tryz.func32 rfl ?_;(conv=>whnf);refine bA (fun _:Unit=>True) (fun _=>[(2,.ptr 0 0),(3,.ptr 1 0),(5,.i .i64 0)]) (fun _=>⟨[E6 l,.box 89 [.s op,.sl .none [],.sl .none [.agg [.s a.op,.i .i64 a.n,.s a.st,.s a.it,.sl .none (a.kids.map Ex.gvR)],.agg [.s b.op,.i .i64 b.n,.s b.st,.s b.it,.sl .none (b.kids.map Ex.gvR)]]]],0,[]⟩) (fun _=>0) () trivial ⟨rfl,rfl,rfl,trivial⟩ rfl (fun j φ0 hj=>?_);(conv=>whnf);refine gP ?_;(conv=>whnf);refine⟨cD 0,_,rfl,rfl,?_⟩;(conv=>whnf);refine cP ia ?_;(conv=>whnf);rw[show(e !=0)=true from bne_iff_ne.2 hne];(conv=>whnf);exact fin 0
  |ok ka=>
   replace ia:SC _ _ _ _ (.val (.tup [.i .i64 ka,.i .i64 0])) _:=ia;cases y with
   |error e=>
    have hne:=nb e rfl;replace ib:SC _ _ _ _ (.val (.tup [.i .i64 0,.i .i64 e])) _:=ib;show SC _ _ _ _ (.val (.i .i64 e)) _;refine bI Tryz.func32 rfl ?_;(conv=>whnf);refine bA (fun _:Unit=>True) (fun _=>[(2,.ptr 0 0),(3,.ptr 1 0),(5,.i .i64 0)]) (fun _=>⟨[E6 l,.box 89 [.s op,.sl .none [],.sl .none [.agg [.s a.op,.i .i64 a.n,.s a.st,.s a.it,.sl .none (a.kids.map Ex.gvR)],.agg [.s b.op,.i .i64 b.n,.s b.st,.s b.it,.sl .none (b.kids.map Ex.gvR)]]]],0,[]⟩) (fun _=>0) () trivial ⟨rfl,rfl,rfl,trivial⟩ rfl (fun j φ0 hj=>?_);(conv=>whnf);refine gP ?_;(conv=>whnf);refine⟨cD 0,_,rfl,rfl,?_⟩;(conv=>whnf);refine cP ia ?_;(conv=>whnf);refine gP ?_;(conv=>whnf);refine⟨by decide,_,rfl,rfl,?_⟩;(conv=>whnf);refine cP ib ?_;(conv=>whnf);rw[show(e !=0)=true from bne_iff_ne.2 hne];(conv=>whnf);exact fin 0
   |ok kb=>
    replace ib:SC _ _ _ _ (.val (.tup [.i .i64 kb,.i .i64 0])) _:=ib;show SC _ _ _ _ (.val (.i .i64 (if ka=kb then 0 else 10))) _;refine bI Tryz.func32 rfl ?_;(conv=>whnf);refine bA (fun _:Unit=>True) (fun _=>[(2,.ptr 0 0),(3,.ptr 1 0),(5,.i .i64 0)]) (fun _=>⟨[E6 l,.box 89 [.s op,.sl .none [],.sl .none [.agg [.s a.op,.i .i64 a.n,.s a.st,.s a.it,.sl .none (a.kids.map Ex.gvR)],.agg [.s b.op,.i .i64 b.n,.s b.st,.s b.it,.sl .none (b.kids.map Ex.gvR)]]]],0,[]⟩) (fun _=>0) () trivial ⟨rfl,rfl,rfl,trivial⟩ rfl (fun j φ0 hj=>?_);(conv=>whnf);refine gP ?_;(conv=>whnf);refine⟨cD 0,_,rfl,rfl,?_⟩;(conv=>whnf);refine cP ia ?_;(conv=>whnf);refine gP ?_;(conv=>whnf);refine⟨by decide,_,rfl,rfl,?_⟩;(conv=>whnf);refine cP ib ?_;(conv=>whnf);by_cases hk:ka=kb
    ·rw[show(ka !=kb)=false by rw[hk];exact eO _,aA hk];(conv=>whnf);exact fin 0
    ·rw[show(ka !=kb)=true from bne_iff_ne.2 hk,aB hk];(conv=>whnf);exact fin 0
def n9 (n:Int):Val×Bool:=(⟨1,n,[]⟩,decide (-1000000000<=n)&&decide (n<=1000000000))
def Ex.rk (l:List Itm) (vs:List Val):Ex->Val×Bool
 |.zero=>(⟨0,0,[]⟩,false)
 |.num n=>n9 n
 |.txt s=>(⟨2,0,s⟩,true)
 |.var s=>((match eW Itm.name s l with
  |some p=>(vs[p.1]?).getD ⟨0,0,[]⟩
  |none=>⟨0,0,[]⟩),true)
 |.item _ _=>(⟨0,0,[]⟩,false)
 |.status=>n9 0
 |.key=>n9 0
 |.neg e=>(⟨1,0 - (e.rk l vs).1.n,[]⟩,(e.rk l vs).2)
 |.bin op a b=>if(a.rk l vs).2=true/\(b.rk l vs).2=true then
   (if op=[38] then(⟨2,0,(a.rk l vs).1.s++(b.rk l vs).1.s⟩,decide (((a.rk l vs).1.s++(b.rk l vs).1.s).length<=40)) else n9 (vR op (a.rk l vs).1.n (b.rk l vs).1.n))
  else(⟨0,0,[]⟩,false)
theorem SY (n:Int):Val.ok ⟨1,n,[]⟩=(decide (-1000000000<=n)&&decide (n<=1000000000)):=by
 simp[Val.ok]
theorem Z2 (s:By):Val.ok ⟨2,0,s⟩=decide (s.length<=40):=by
 simp[Val.ok]
def XN (o:Option Val) (p:Val×Bool):Prop:=match o with
 |some v=>p=(v,true)
 |none=>p.2=false
theorem AU {v:Val}:XN v.chk (v,v.ok):=by
 unfold Val.chk;cases h:v.ok with
 |true=>rw[aA rfl];rfl
 |false=>rw[aB b4];rfl
theorem uQ {l:List Itm} {vs:List Val} (hv:∀v∈vs,v.ok=true) (bG:l.length=vs.length):∀(e:Ex),e.wf->e.nm l=true->XN (e.ev l vs) (e.rk l vs)
 |.zero,h,_=>h.elim
 |.item _ _,_,h=>by cases h
 |.num n,h,_=>by
  have h:0<=n/\n<=1000000000:=h;show(n9 n)=(⟨1,n,[]⟩,true);unfold n9;rw[aR (by omega),aR h.2];rfl
 |.txt s,_,_=>rfl
 |.status,_,_=>rfl
 |.key,_,_=>rfl
 |.var s,_,h=>by
  obtain⟨i,x,v,hi,hx⟩:=O7 bG h;unfold Ex.ev Ex.rk;rw[hi];dsimp only;rw[hx];rfl
 |.neg e,h,hn=>by
  have ih:=uQ hv bG e h hn;have ho:=@Ex.ev_ok l vs hv e;unfold Ex.ev Ex.rk;cases he:e.ev l vs with
  |none=>rw[he] at ih;exact ih
  |some b=>
   rw[he] at ih;replace ih:e.rk l vs=(b,true):=ih;rw[ih];obtain⟨b1,b2,_⟩:=Val.ok_n (ho h he);have hk:Val.ok ⟨1,0 - b.n,[]⟩=true:=by rw[SY,aR (by omega),aR (by omega)];rfl
   have:=AU (v:=⟨1,0 - b.n,[]⟩);rw[hk] at this;exact this
 |.bin op a b,h,hn=>by
  have hn':a.nm l=true/\b.nm l=true:=by simpa[Ex.nm] using hn
  have ih:=uQ hv bG a h.2.1 hn'.1;have jh:=uQ hv bG b h.2.2 hn'.2;unfold Ex.ev Ex.rk;cases he:a.ev l vs with
  |none=>
   rw[he] at ih;replace ih:(a.rk l vs).2=false:=ih;rw[aB (fun h=>by rw[ih] at h;cases h.1)];rfl
  |some x=>
   rw[he] at ih;replace ih:a.rk l vs=(x,true):=ih;cases hf:b.ev l vs with
   |none=>
    rw[hf] at jh;replace jh:(b.rk l vs).2=false:=jh;rw[aB (fun h=>by rw[jh] at h;cases h.2)];rfl
   |some y=>
    rw[hf] at jh;replace jh:b.rk l vs=(y,true):=jh;rw[ih,jh,aA ⟨rfl,rfl⟩];show XN (J4 op x y).chk _;unfold J4;by_cases hop:op=[38]
    ·rw[aA hop,aA hop];have:=AU (v:=⟨2,0,x.s++y.s⟩);rw[Z2] at this;exact this
    ·rw[aB hop,aB hop];have:=AU (v:=⟨1,vR op x.n y.n,[]⟩);rw[SY] at this;exact this
theorem E7 [MaxL] (n:Int):SC Tryz.prog 65 [.i .i64 n] [] (.val (.tup [(n9 n).1.gv,.b (n9 n).2])) []:=by
 unfold n9;by_cases h1: -1000000000<=n
 ·by_cases h2:n<=1000000000
  ·rw[aR h1,aR h2];refine bI Tryz.func65 rfl ?_;(conv=>whnf);refine gY (c:=decide (n>= -1000000000)) (aR (by omega)) ?_;(conv=>whnf);refine st ?_;(conv=>whnf);exact fin 0 (hw:=cJ (by rw[aR h2];rfl))
  ·rw[aR h1,aQ h2];refine bI Tryz.func65 rfl ?_;(conv=>whnf);refine gY (c:=decide (n>= -1000000000)) (aR (by omega)) ?_;(conv=>whnf);refine st ?_;(conv=>whnf);exact fin 0 (hw:=cJ (by rw[aQ h2];rfl))
 ·rw[aQ h1];refine bI Tryz.func65 rfl ?_;conv=>whnf
  refine gN (c:=decide (n>= -1000000000)) (aQ (by omega)) ?_;conv=>whnf
  refine st ?_;conv=>whnf
  exact fin 0
abbrev wrG (l:List Itm) (vs:List Val):GV:=.agg [.sl .none (eT l),.sl .none [],.sl .none [],.sl .none [],.sl .none [],.sl .none [],.sl .none (dZ vs),.sl .none [],.i .i64 0,.i .i64 0]
theorem SG {l:List Itm} {vs:List Val} (hv:∀v∈vs,v.ok=true) (bG:l.length=vs.length):∀(e:Ex),e.wf->e.nm l=true-> -1000000000000000000<=(e.rk l vs).1.n/\(e.rk l vs).1.n<=1000000000000000000
 |.zero,h,_=>h.elim
 |.item _ _,_,h=>by cases h
 |.num n,h,_=>by
  have h:0<=n/\n<=1000000000:=h;show _<=n/\n<=_;omega
 |.txt s,_,_=>by show _<=(0:Int)/\(0:Int)<=_;decide
 |.status,_,_=>by show _<=(0:Int)/\(0:Int)<=_;decide
 |.key,_,_=>by show _<=(0:Int)/\(0:Int)<=_;decide
 |.var s,hw,hn=>by
  have h:=uQ hv bG (.var s) hw hn;obtain⟨i,x,v,hi,hx⟩:=O7 bG hn;have ev:(Ex.var s).ev l vs=some v:=by unfold Ex.ev;rw[hi];exact hx
  have ho:=Val.ok_n (Ex.ev_ok hv (.var s) hw ev);rw[ev] at h;replace h:(Ex.var s).rk l vs=(v,true):=h;rw[h];dsimp only;omega
 |.neg e,h,hn=>by
  have ih:=SG hv bG e h hn;unfold Ex.rk;dsimp only;omega
 |.bin op a b,h,hn=>by
  have hn':a.nm l=true/\b.nm l=true:=by simpa[Ex.nm] using hn
  have ih:=uQ hv bG a h.2.1 hn'.1;have jh:=uQ hv bG b h.2.2 hn'.2;unfold Ex.rk;by_cases hc:(a.rk l vs).2=true/\(b.rk l vs).2=true
  ·rw[aA hc];have ga:∀(e:Ex),e.wf->XN (e.ev l vs) (e.rk l vs)->(e.rk l vs).2=true-> -1000000000<=(e.rk l vs).1.n/\(e.rk l vs).1.n<=1000000000:=fun e hw hs h2=>by
    cases he:e.ev l vs with
    |none=>rw[he] at hs;rw[show(e.rk l vs).2=false from hs] at h2;cases h2
    |some v=>
     rw[he] at hs;rw[show e.rk l vs=(v,true) from hs];obtain⟨a,b,_⟩:=Val.ok_n (Ex.ev_ok hv e hw he);exact⟨a,b⟩
   obtain⟨a1,a2⟩:=ga a h.2.1 ih hc.1;obtain⟨b1,b2⟩:=ga b h.2.2 jh hc.2;split
   ·show _<=(0:Int)/\(0:Int)<=_;decide
   ·show _<=vR op _ _/\vR op _ _<=_;unfold vR;generalize(a.rk l vs).1.n=x at*;generalize(b.rk l vs).1.n=y at*;have hm:(x*y).natAbs<=1000000000*1000000000:=by
     rw[Int.natAbs_mul];exact Nat.mul_le_mul (by omega) (by omega)
    split
    ·omega
    ·split<;>omega
  ·rw[aB hc];show _<=(0:Int)/\(0:Int)<=_;decide
theorem vY {l:List Itm} {vs:List Val} (hv:∀v∈vs,v.ok=true) (bG:l.length=vs.length) (e:Ex) (h:e.wf) (hn:e.nm l=true) (ht:(e.rk l vs).2=true): -1000000000<=(e.rk l vs).1.n/\(e.rk l vs).1.n<=1000000000/\(e.rk l vs).1.s.length<=40:=by
 have hs:=uQ hv bG e h hn;cases he:e.ev l vs with
 |none=>rw[he] at hs;rw[show(e.rk l vs).2=false from hs] at ht;cases ht
 |some v=>
  rw[he] at hs;rw[show e.rk l vs=(v,true) from hs];exact Val.ok_n (Ex.ev_ok hv e h he)
abbrev zJ (p:Val×Bool):GV:=.tup [p.1.gv,.b p.2]
theorem pU [MaxL] (l:List Itm) (vs:List Val) (hl:l.length<dD) (hv:∀v∈vs,v.ok=true) (bG:l.length=vs.length):∀(e:Ex),e.wf->e.nm l=true->SC Tryz.prog 26 [wrG l vs,e.gvR] [] (.val (zJ (e.rk l vs))) []
 |.zero,h,_=>h.elim
 |.item _ _,_,h=>by cases h
 |.num n,_,_=>by
  have h:=E7 n;show SC _ _ _ _ (.val (zJ (n9 n))) _;generalize n9 n=p at*;obtain⟨⟨k,m,t⟩,b⟩:=p;refine bI Tryz.func26 rfl ?_;conv=>whnf
  refine cP h ?_;conv=>whnf
  refine st (l:=Val.cs ⟨k,m,t⟩) ?_;conv=>whnf
  exact fin 0
 |.txt s,_,_=>by
  show SC _ _ _ _ (.val (.tup [Val.gv ⟨2,0,s⟩,.b true])) _;refine bI Tryz.func26 rfl ?_;conv=>whnf
  refine st ?_;conv=>whnf
  exact fin 0
 |.status,_,_=>by
  have h:=E7 0;show SC _ _ _ _ (.val (zJ (n9 0))) _;generalize n9 0=p at*;obtain⟨⟨k,m,t⟩,b⟩:=p;refine bI Tryz.func26 rfl ?_;conv=>whnf
  refine cP h ?_;conv=>whnf
  refine st (l:=Val.cs ⟨k,m,t⟩) ?_;conv=>whnf
  exact fin 0
 |.key,_,_=>by
  have h:=E7 0;show SC _ _ _ _ (.val (zJ (n9 0))) _;generalize n9 0=p at*;obtain⟨⟨k,m,t⟩,b⟩:=p;refine bI Tryz.func26 rfl ?_;conv=>whnf
  refine cP h ?_;conv=>whnf
  refine st (l:=Val.cs ⟨k,m,t⟩) ?_;conv=>whnf
  exact fin 0
 |.var s,_,hn=>by
  have h:=qT l hl s;obtain⟨i,x,v,hi,hx⟩:=O7 bG hn;have hg:=zW hx;rw[hi] at h;have hr:(Ex.var s).rk l vs=(v,true):=by unfold Ex.rk;rw[hi];dsimp only;rw[hx];rfl
  rw[hr];obtain⟨k,m,t⟩:=v;refine bI Tryz.func26 rfl ?_;conv=>whnf
  refine b7 [none,some 0,none,none,some 0,none,some 1,none,none,none,some 2] rfl rfl (by kernel_rfl) ?_;conv=>whnf
  refine cP h ?_;conv=>whnf
  refine ix hg ⟨rfl,?_⟩;conv=>whnf
  refine st (l:=Val.cs ⟨k,m,t⟩) ?_;conv=>whnf
  exact fin 0
 |.neg e,h,hn=>by
  have ih:=pU l vs hl hv bG e h hn;have hb:=SG hv bG e h hn;rw[d7] at ih;rw[Z5];show SC _ _ _ _ (.val (zJ (⟨1,0 - (e.rk l vs).1.n,[]⟩,(e.rk l vs).2))) _;generalize e.rk l vs=p at*;obtain⟨⟨k,m,t⟩,b⟩:=p;dsimp only at hb⊢;have hw:IntKind.i64.wrap (0 - m)=0 - m:=bN (by omega) (by omega);refine bI Tryz.func26 rfl ?_;conv=>whnf
  refine b7 [some 0,none,some 1,none,none,none,none,none,none,some 3,some 3] rfl rfl (by kernel_rfl) ?_;conv=>whnf
  refine⟨cD 0,_,rfl,rfl,?_⟩;conv=>whnf
  refine cP ih ?_;conv=>whnf
  refine st (l:=Val.cs ⟨k,m,t⟩) ?_;conv=>whnf
  refine st ?_;conv=>whnf
  exact fin 0 (hw:=iQ ⟨Wks.agg ⟨.refl _,cJ (aJ (GV.i .i64) hw),.refl _,trivial⟩,.refl _,trivial⟩)
 |.bin op a b,h,hn=>by
  have hn':a.nm l=true/\b.nm l=true:=by simpa[Ex.nm] using hn
  have ih:=pU l vs hl hv bG a h.2.1 hn'.1;have jh:=pU l vs hl hv bG b h.2.2 hn'.2;have ia:=vY hv bG a h.2.1 hn'.1;have ib:=vY hv bG b h.2.2 hn'.2;have ho:=h.1;simp only[LY,dU,cZ,or_false] at ho;rw[d7] at ih jh;rw[a0B];show SC _ _ _ _ (.val (zJ (if(a.rk l vs).2=true/\(b.rk l vs).2=true then
   (if op=[38] then(⟨2,0,(a.rk l vs).1.s++(b.rk l vs).1.s⟩,decide (((a.rk l vs).1.s++(b.rk l vs).1.s).length<=40)) else n9 (vR op (a.rk l vs).1.n (b.rk l vs).1.n))
  else(⟨0,0,[]⟩,false)))) _
  generalize a.rk l vs=p at*;generalize b.rk l vs=q at*;obtain⟨⟨k,m,t⟩,x⟩:=p;obtain⟨⟨k2,m2,t2⟩,y⟩:=q;dsimp only at ia ib⊢;clear h;cases x with
  |false=>
   rw[aB (fun h=>by cases h.1)];show SC _ _ _ _ (.val (.tup [Val.gv ⟨0,0,[]⟩,.b false])) _;rcases ho with rfl|rfl|rfl|rfl;all_goals
    refine bI Tryz.func26 rfl ?_;(conv=>whnf);refine b7 [some 0,none,some 1,none,none,none,none,none,none,some 3,some 3] rfl rfl (by kernel_rfl) ?_;(conv=>whnf);refine⟨cD 0,_,rfl,rfl,?_⟩;(conv=>whnf);refine cP ih ?_;(conv=>whnf);refine st (l:=Val.cs ⟨k,m,t⟩) ?_;(conv=>whnf);refine b7 [some 0,none,some 1,none,none,none,none,none,none,some 4,some 4] rfl rfl (by kernel_rfl) ?_;(conv=>whnf);refine⟨by decide,_,rfl,rfl,?_⟩;(conv=>whnf);refine cP jh ?_;(conv=>whnf);refine st (l:=Val.cs ⟨k2,m2,t2⟩) ?_;(conv=>whnf);refine st ?_;(conv=>whnf);exact fin 0
  |true=>
  cases y with
  |false=>
   rw[aB (fun h=>by cases h.2)];show SC _ _ _ _ (.val (.tup [Val.gv ⟨0,0,[]⟩,.b false])) _;rcases ho with rfl|rfl|rfl|rfl;all_goals
    refine bI Tryz.func26 rfl ?_;(conv=>whnf);refine b7 [some 0,none,some 1,none,none,none,none,none,none,some 3,some 3] rfl rfl (by kernel_rfl) ?_;(conv=>whnf);refine⟨cD 0,_,rfl,rfl,?_⟩;(conv=>whnf);refine cP ih ?_;(conv=>whnf);refine st (l:=Val.cs ⟨k,m,t⟩) ?_;(conv=>whnf);refine b7 [some 0,none,some 1,none,none,none,none,none,none,some 4,some 4] rfl rfl (by kernel_rfl) ?_;(conv=>whnf);refine⟨by decide,_,rfl,rfl,?_⟩;(conv=>whnf);refine cP jh ?_;(conv=>whnf);refine st (l:=Val.cs ⟨k2,m2,t2⟩) ?_;(conv=>whnf);refine st ?_;(conv=>whnf);exact fin 0
  |true=>
   obtain⟨a1,a2,a3⟩:=ia rfl;obtain⟨b1,b2,b3⟩:=ib rfl;rw[aA ⟨rfl,rfl⟩];rcases ho with rfl|rfl|rfl|rfl
   ·have hw:IntKind.i64.wrap (m+m2)=m+m2:=bN (by omega) (by omega);have hnum:SC Tryz.prog 65 [.i .i64 (IntKind.i64.wrap (m+m2))] [] (.val (zJ (n9 (m+m2)))) []:=by rw[hw];exact E7 _
    show SC _ _ _ _ (.val (zJ (n9 (m+m2)))) _;generalize n9 (m+m2)=P at*;obtain⟨⟨k3,m3,t3⟩,z⟩:=P;refine bI Tryz.func26 rfl ?_;(conv=>whnf);refine b7 [some 0,none,some 1,none,none,none,none,none,none,some 3,some 3] rfl rfl (by kernel_rfl) ?_;(conv=>whnf);refine⟨cD 0,_,rfl,rfl,?_⟩;(conv=>whnf);refine cP ih ?_;(conv=>whnf);refine st (l:=Val.cs ⟨k,m,t⟩) ?_;(conv=>whnf);refine b7 [some 0,none,some 1,none,none,none,none,none,none,some 4,some 4] rfl rfl (by kernel_rfl) ?_;(conv=>whnf);refine⟨by decide,_,rfl,rfl,?_⟩;(conv=>whnf);refine cP jh ?_;(conv=>whnf);refine st (l:=Val.cs ⟨k2,m2,t2⟩) ?_;(conv=>whnf);refine cP hnum ?_;(conv=>whnf);refine st (l:=Val.cs ⟨k3,m3,t3⟩) ?_;(conv=>whnf);exact fin 0
   ·have hw:IntKind.i64.wrap (m - m2)=m - m2:=bN (by omega) (by omega);have hnum:SC Tryz.prog 65 [.i .i64 (IntKind.i64.wrap (m - m2))] [] (.val (zJ (n9 (m - m2)))) []:=by rw[hw];exact E7 _
    show SC _ _ _ _ (.val (zJ (n9 (m - m2)))) _;generalize n9 (m - m2)=P at*;obtain⟨⟨k3,m3,t3⟩,z⟩:=P;refine bI Tryz.func26 rfl ?_;(conv=>whnf);refine b7 [some 0,none,some 1,none,none,none,none,none,none,some 3,some 3] rfl rfl (by kernel_rfl) ?_;(conv=>whnf);refine⟨cD 0,_,rfl,rfl,?_⟩;(conv=>whnf);refine cP ih ?_;(conv=>whnf);refine st (l:=Val.cs ⟨k,m,t⟩) ?_;(conv=>whnf);refine b7 [some 0,none,some 1,none,none,none,none,none,none,some 4,some 4] rfl rfl (by kernel_rfl) ?_;(conv=>whnf);refine⟨by decide,_,rfl,rfl,?_⟩;(conv=>whnf);refine cP jh ?_;(conv=>whnf);refine st (l:=Val.cs ⟨k2,m2,t2⟩) ?_;(conv=>whnf);refine cP hnum ?_;(conv=>whnf);refine st (l:=Val.cs ⟨k3,m3,t3⟩) ?_;(conv=>whnf);exact fin 0
   ·have hw:IntKind.i64.wrap (m*m2)=m*m2:=bN (M3 a1 a2 b1 b2).1 (M3 a1 a2 b1 b2).2;have hnum:SC Tryz.prog 65 [.i .i64 (IntKind.i64.wrap (m*m2))] [] (.val (zJ (n9 (m*m2)))) []:=by rw[hw];exact E7 _
    show SC _ _ _ _ (.val (zJ (n9 (m*m2)))) _;generalize n9 (m*m2)=P at*;obtain⟨⟨k3,m3,t3⟩,z⟩:=P;refine bI Tryz.func26 rfl ?_;(conv=>whnf);refine b7 [some 0,none,some 1,none,none,none,none,none,none,some 3,some 3] rfl rfl (by kernel_rfl) ?_;(conv=>whnf);refine⟨cD 0,_,rfl,rfl,?_⟩;(conv=>whnf);refine cP ih ?_;(conv=>whnf);refine st (l:=Val.cs ⟨k,m,t⟩) ?_;(conv=>whnf);refine b7 [some 0,none,some 1,none,none,none,none,none,none,some 4,some 4] rfl rfl (by kernel_rfl) ?_;(conv=>whnf);refine⟨by decide,_,rfl,rfl,?_⟩;(conv=>whnf);refine cP jh ?_;(conv=>whnf);refine st (l:=Val.cs ⟨k2,m2,t2⟩) ?_;(conv=>whnf);refine cP hnum ?_;(conv=>whnf);refine st (l:=Val.cs ⟨k3,m3,t3⟩) ?_;(conv=>whnf);exact fin 0
   ·show SC _ _ _ _ (.val (.tup [Val.gv ⟨2,0,t++t2⟩,.b (decide ((t++t2).length<=40))])) _;have hl2:IntKind.i64.wrap (((t.length:Nat):Int)+((t2.length:Nat):Int))=((t.length+t2.length:Nat):Int):=by rw[bN (by omega) (by omega)];omega
    refine bI Tryz.func26 rfl ?_;(conv=>whnf);refine b7 [some 0,none,some 1,none,none,none,none,none,none,some 3,some 3] rfl rfl (by kernel_rfl) ?_;(conv=>whnf);refine⟨cD 0,_,rfl,rfl,?_⟩;(conv=>whnf);refine cP ih ?_;(conv=>whnf);refine st (l:=Val.cs ⟨k,m,t⟩) ?_;(conv=>whnf);refine b7 [some 0,none,some 1,none,none,none,none,none,none,some 4,some 4] rfl rfl (by kernel_rfl) ?_;(conv=>whnf);refine⟨by decide,_,rfl,rfl,?_⟩;(conv=>whnf);refine cP jh ?_;(conv=>whnf);refine st (l:=Val.cs ⟨k2,m2,t2⟩) ?_;(conv=>whnf);refine b7 [none,some 3,none,some 4,none,none,none,some 3,none,none,some 4,none,none,none,some 2] rfl rfl (by kernel_rfl) ?_;(conv=>whnf);refine⟨show t.length+t2.length<jN by(unfold jN;omega),_,rfl,?_⟩;(conv=>whnf);refine st ?_;(conv=>whnf);exact fin 0 (hw:=iQ ⟨.refl _,cJ (aJ GV.b (by rw[hl2,aX,decide_eq_decide];omega)),trivial⟩)
def Cn.rk (l:List Itm) (vs:List Val):Cn->Bool×Bool
 |.zero=>(false,false)
 |.rel op a b=>(LH op (zQ (a.rk l vs).1 (b.rk l vs).1),(a.rk l vs).2&&(b.rk l vs).2)
 |.no c=>(!(c.rk l vs).1,(c.rk l vs).2)
 |.two op a b=>(if op=[97,110,100] then(a.rk l vs).1&&(b.rk l vs).1 else(a.rk l vs).1||(b.rk l vs).1,(a.rk l vs).2&&(b.rk l vs).2)
theorem SF {l:List Itm} {vs:List Val} (hv:∀v∈vs,v.ok=true) (bG:l.length=vs.length) (e:Ex) (h:e.wf) (hn:e.nm l=true):(e.rk l vs).1.s.length<=80:=by
 by_cases ht:(e.rk l vs).2=true
 ·have:=(vY hv bG e h hn ht).2.2;omega
 ·cases e with
  |bin op a b=>
   have hn':a.nm l=true/\b.nm l=true:=by simpa[Ex.nm] using hn
   unfold Ex.rk;split
   ·rename_i hc;have h1:=(vY hv bG a h.2.1 hn'.1 hc.1).2.2;have h2:=(vY hv bG b h.2.2 hn'.2 hc.2).2.2;split
    ·dsimp only;rw[aX];omega
    ·exact zL _
   ·exact zL _
  |txt s=>exact absurd rfl ht
  |var s=>exact absurd rfl ht
  |num n=>exact zL _
  |status=>exact zL _
  |key=>exact zL _
  |neg e=>exact zL _
  |zero=>exact zL _
  |item r i=>exact zL _
abbrev a1c (p:Bool×Bool):GV:=.tup [.b p.1,.b p.2]
theorem wB [MaxL] (l:List Itm) (vs:List Val) (hl:l.length<dD) (hv:∀v∈vs,v.ok=true) (bG:l.length=vs.length):∀(c:Cn),c.wf->c.nm l=true->SC Tryz.prog 33 [wrG l vs,c.gvR] [] (.val (a1c (c.rk l vs))) []
 |.zero,h,_=>h.elim
 |.no c,h,hn=>by
  have ih:=wB l vs hl hv bG c h hn;rw[dW] at ih;rw[noR];show SC _ _ _ _ (.val (.tup [.b (!(c.rk l vs).1),.b (c.rk l vs).2])) _;generalize c.rk l vs=p at*;obtain⟨x,y⟩:=p;refine bI Tryz.func33 rfl ?_;conv=>whnf
  refine gP ?_;conv=>whnf
  refine⟨cD 0,_,rfl,rfl,?_⟩;conv=>whnf
  refine cP ih ?_;conv=>whnf
  exact fin 0
 |.two op a b,h,hn=>by
  have hn':a.nm l=true/\b.nm l=true:=by simpa[Cn.nm] using hn
  have ih:=wB l vs hl hv bG a h.2.1 hn'.1;have jh:=wB l vs hl hv bG b h.2.2 hn'.2;have ho:=h.1;rw[dW] at ih jh;rw[a0M];show SC _ _ _ _ (.val (.tup [.b (if op=[97,110,100] then(a.rk l vs).1&&(b.rk l vs).1 else(a.rk l vs).1||(b.rk l vs).1),.b ((a.rk l vs).2&&(b.rk l vs).2)])) _;generalize a.rk l vs=p at*;generalize b.rk l vs=q at*;obtain⟨x,y⟩:=p;obtain⟨z,w⟩:=q;clear h;rcases ho with rfl|rfl<;>cases x<;>cases y;all_goals
   refine bI Tryz.func33 rfl ?_;(conv=>whnf);refine gP ?_;(conv=>whnf);refine⟨cD 0,_,rfl,rfl,?_⟩;(conv=>whnf);refine cP ih ?_;(conv=>whnf);refine gP ?_;(conv=>whnf);refine⟨by decide,_,rfl,rfl,?_⟩;(conv=>whnf);refine cP jh ?_;(conv=>whnf);exact fin 0
 |.rel op a b,h,hn=>by
  have hn':a.nm l=true/\b.nm l=true:=by simpa[Cn.nm] using hn
  have ih:=pU l vs hl hv bG a h.2.1 hn'.1;have jh:=pU l vs hl hv bG b h.2.2 hn'.2;have la:=SF hv bG a h.2.1 hn'.1;have lb:=SF hv bG b h.2.2 hn'.2;have ho:=h.1;simp only[FP,dU,cZ,or_false] at ho;rw[d7] at ih jh;rw[a0b];show SC _ _ _ _ (.val (.tup [.b (LH op (zQ (a.rk l vs).1 (b.rk l vs).1)),.b ((a.rk l vs).2&&(b.rk l vs).2)])) _;generalize a.rk l vs=p at*;generalize b.rk l vs=q at*;obtain⟨⟨k,m,t⟩,x⟩:=p;obtain⟨⟨k2,m2,t2⟩,y⟩:=q;dsimp only at la lb⊢;have hc:=LT ⟨k,m,t⟩ ⟨k2,m2,t2⟩ (by unfold dD;show t.length<_;omega) (by unfold dD;show t2.length<_;omega);generalize zQ ⟨k,m,t⟩ ⟨k2,m2,t2⟩=n at*;clear h;rcases ho with rfl|rfl|rfl|rfl|rfl|rfl<;>cases x;all_goals
   refine bI Tryz.func33 rfl ?_;(conv=>whnf);refine b7 [some 0,none,some 1,none,none,none,none,none,none,some 2,some 2] rfl rfl (by kernel_rfl) ?_;(conv=>whnf);refine⟨cD 0,_,rfl,rfl,?_⟩;(conv=>whnf);refine cP ih ?_;(conv=>whnf);refine st (l:=Val.cs ⟨k,m,t⟩) ?_;(conv=>whnf);refine b7 [some 0,none,some 1,none,none,none,none,none,none,some 3,some 3] rfl rfl (by kernel_rfl) ?_;(conv=>whnf);refine⟨by decide,_,rfl,rfl,?_⟩;(conv=>whnf);refine cP jh ?_;(conv=>whnf);refine st (l:=Val.cs ⟨k2,m2,t2⟩) ?_;(conv=>whnf);refine cP hc ?_;(conv=>whnf);exact fin 0
