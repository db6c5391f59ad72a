/-
  A part of the proof of SchemaChosen.
-/
import Derived.Test.YtcfgfkkhpdlhpaaGreatDoorR50
set_option linter.all false
set_option maxRecDepth 100000
namespace Go.Proofs.YtcfgfkkhpdlhpaaGreatDoor
open Go.RowKit
theorem UI {w:Bool} {e b:Int} (he:e≠0) (h:dW w e b=0):w=false/\b=0:=by
 unfold dW at h;cases w with
 |false=>exact⟨rfl,h⟩
 |true=>exact absurd h he
theorem UN {s:Sch} {met:List By} {t:Sy} (h:J0 s met t=0):met.contains t.name=false/\(t.owner !=[]&&!((gB s).contains t.owner))=false:=by
 unfold J0 kF at h;obtain⟨_,h⟩:=UI (by decide) h;obtain⟨h1,h⟩:=UI (by decide) h;exact⟨h1,(UI (by decide) h).1⟩
theorem S6 {s:Sch} (h:(qN s).2.2=0) {j:Nat} {t:Sy} (hj:s.st[j]?=some t):(∀z∈s.st.take j,(z.name==t.name)=false)/\(t.owner !=[]&&!((gB s).contains t.owner))=false:=by
 have h6:=rA (J1 (s:=s) h).2.2.2.2.2 j t hj;obtain⟨h1,h2⟩:=UN h6;refine⟨fun z hz=>?_,h2⟩;cases hq:z.name==t.name with
 |false=>rfl
 |true=>
  exfalso;have e:=eq_of_beq hq;have:(dE s++(gB s++(sV s).take (0+j))).contains t.name=true:=by
   rw[List.contains_iff_mem];refine List.mem_append_right _ (List.mem_append_right _ ?_);unfold sV;rw[bH,<-List.map_take,<-e];exact List.mem_map_of_mem hz
  rw[h1] at this;cases this
theorem Y1 {s:Sch} {met:List By} {t:Sy} (h:J0 s met t=0):(∀k m,t.ms[k]?=some m->oX s t k m=0)/\(t.order=5->xQ s t=0):=by
 unfold J0 kF at h;obtain⟨_,h⟩:=dT h (by decide);obtain⟨_,h⟩:=dT h (by decide);obtain⟨_,h⟩:=dT h (by decide);obtain⟨_,h⟩:=dT h (by decide);obtain⟨h2,h⟩:=zQ h;obtain⟨_,h⟩:=dT h (by decide);obtain⟨h3,h⟩:=zQ h;exact⟨yV h2,fun e=>by rwa [aG e] at h3⟩
theorem UO {s:Sch} (h:(qN s).2.2=0) {t:Sy} (ht:t∈s.st):(∀k m,t.ms[k]?=some m->oX s t k m=0)/\(t.order=5->xQ s t=0):=by
 obtain⟨j,hj⟩:=List.mem_iff_getElem?.1 ht;exact Y1 (rA (J1 (s:=s) h).2.2.2.2.2 j t hj)
theorem YT {s:Sch} (h:(qN s).2.2=0) {t:Sy} (ht:t∈s.st) (ho:t.owner≠[]):(gB s).contains t.owner=true:=by
 obtain⟨j,hj⟩:=List.mem_iff_getElem?.1 ht;have h2:=(S6 h hj).2;cases hc:(gB s).contains t.owner with
 |true=>rfl
 |false=>rw[hc] at h2;simp at h2;exact absurd h2 ho
theorem V6 {known:List Itm->Bool} {canon:By->Bool} {check:List Itm->By->Int} {s:Sch} {met:List By} {r:Rc} (h:H0 known canon check s met r=0) (hp:r.place=2):r.keys.length<=4:=by
 unfold H0 kF at h;obtain⟨-,h⟩:=dT h (by decide);obtain⟨-,h⟩:=dT h (by decide);obtain⟨-,h⟩:=dT h (by decide);obtain⟨-,h⟩:=dT h (by decide);obtain⟨h1, -⟩:=zQ h;unfold rT at h1;rw[aG hp] at h1;obtain⟨h2, -⟩:=dT h1 (by decide);unfold uR at h2;simp at h2;omega
theorem a1o {s:Sch} {n:By} (h:(gB s).contains n=true):∃j:Nat,lW (fun r:Rc=>r.name==n) s.rc=j/\s.rc[j]?=some (eQ s n):=by
 obtain⟨_,hf⟩:=HO h;rcases j5 (fun r:Rc=>r.name==n) s.rc with⟨_,h2,_⟩|⟨j,y,h1,hy,h2,_⟩
 ·rw[h2] at hf;cases hf
 ·rw[h2] at hf;exact⟨j,h1,(aY hf)▸hy⟩
theorem Y3 {s:Sch} {n:By} {t:Sy} {i:Int} (h:uF s n=(t,i,0)):(qN s).2.2=0/\t∈s.st/\∃j:Nat,lW (fun t:Sy=>t.name==n) s.st=j/\s.st[j]?=some t:=by
 unfold uF at h;cases hv:((qN s).2.2==0) with
 |false=>rw[hv] at h;simp at h
 |true=>
  rw[hv,aG rfl] at h;rcases j5 (fun t:Sy=>t.name==n) s.st with⟨h1,h2,_⟩|⟨j,y,h1,hy,h2,_⟩
  ·rw[h2] at h;simp at h
  ·rw[h2] at h;have:y=t:=(Prod.mk.inj h).1;subst this;exact⟨eq_of_beq hv,aL hy,j,h1,hy⟩
theorem YY {s:Sch} {n r:By} {m:Mb} (h:uK s n r=(m,0)):∃t i,uF s n=(t,i,0)/\m∈t.ms/\m.of=r:=by
 unfold uK at h;generalize uF s n=R at*;obtain⟨t,i,e⟩:=R;cases he:(e==0) with
 |false=>
  rw[show((t,i,e):Sy×Int×Int).2.2=e from rfl,he] at h;have h2:e=0:=(Prod.mk.inj h).2;subst h2;cases he
 |true=>
  cases eq_of_beq he;replace h:((match t.ms.find? (·.of==r) with|none=>(mb0,8)|some m=>(m,0)):Mb×Int)=(m,0):=h;cases hf:t.ms.find? (·.of==r) with
  |none=>rw[hf] at h;exact absurd (Prod.mk.inj h).2 (by decide)
  |some y=>
   rw[hf] at h;have:y=m:=(Prod.mk.inj h).1;subst this;exact⟨t,i,rfl,List.mem_of_find?_eq_some hf,eq_of_beq (List.find?_some (p:=fun z:Mb=>z.of==r) hf)⟩
theorem zV {s:Sch} {n r:By} {m:Mb} (h:uK s n r=(m,0)):(∃j:Nat,lW (fun r':Rc=>r'.name==r) s.rc=j/\s.rc[j]?=some (eQ s r))/\m.sel.length<=8/\∀x∈m.sel,(eQ s r).its.any (·.name==x)=true:=by
 obtain⟨t,i,hR,hm,rfl⟩:=YY h;obtain⟨hv,ht,_⟩:=Y3 hR;obtain⟨k,hk⟩:=List.mem_iff_getElem?.1 hm;have h1:=(UO hv ht).1 k m hk;unfold oX at h1;obtain⟨h2,h1⟩:=dT h1 (by decide);obtain⟨_,h1⟩:=dT h1 (by decide);obtain⟨_,h1⟩:=dT h1 (by decide);refine⟨a1o (by simpa using h2),?_⟩;by_cases hs:m.sel=[]
 ·rw[hs];exact⟨zL _,fun x hx=>by cases hx⟩
 unfold S8 at h1;rw[aD hs] at h1;obtain⟨a1,h1⟩:=dT h1 (by decide);obtain⟨a2,h1⟩:=dT h1 (by decide);obtain⟨a3,h1⟩:=dT h1 (by decide);have ho:t.owner≠[]:=fun e=>by rw[e] at a1;cases a1
 have hp:(eQ s t.owner).place=2:=by
  have:=(Bool.or_eq_false_iff.1 a2).1;simpa using this
 have hr:=HO (YT hv ht ho);obtain⟨j,hj⟩:=List.mem_iff_getElem?.1 hr.1;have hk4:=V6 (rA (J1 (s:=s) hv).2.2.2.1 j _ hj) hp;have hlen:m.sel.length=(eQ s t.owner).keys.length:=by simpa using a3
 refine⟨by omega,fun x hx=>?_⟩;obtain⟨q,hq⟩:=List.mem_iff_getElem?.1 hx;have h5:=yV h1 q x hq;unfold F2 at h5;obtain⟨h6,_⟩:=dT h5 (by decide);simpa using h6
def mM (l:List Itm) (r:List Val) (ns:List By):List Val:=ns.map fun n=>(r[(lW (fun a:Itm=>a.name==n) l).toNat]?).getD ⟨0,0,[]⟩
theorem JB {l:List Itm} {r:List Val} (hf:r9 l r=true) {n:By} (h:l.any (·.name==n)=true):∃(j:Nat) (y:Val),lW (fun a:Itm=>a.name==n) l=j/\r[j]?=some y/\mM l r [n]=[y]:=by
 unfold r9 at hf;have hlen:=AD (Bool.and_eq_true_iff.1 hf).2;rcases j5 (fun a:Itm=>a.name==n) l with⟨_,_,h3⟩|⟨j,y,h1,hy,_,_⟩
 ·rw[h3] at h;cases h
 ·have hj:j<r.length:=by have:=(List.getElem?_eq_some_iff.1 hy).1;omega
  refine⟨j,r[j],h1,gL hj,?_⟩;unfold mM;rw[dU,h1,aA,gL hj];rfl
theorem LX (l:List Itm) (r:List Val) (a b:List By):mM l r (a++b)=mM l r a++mM l r b:=cZ
theorem zN (l:List Itm) (r:List Val) (a:List By):(mM l r a).length=a.length:=cU _
theorem VS {l:List Itm} {r:List Val} (hf:r9 l r=true) {ns:List By} (hn:∀n∈ns,l.any (·.name==n)=true):∀v∈mM l r ns,v∈r:=fun v hv=>by
 obtain⟨n,hm,rfl⟩:=List.mem_map.1 hv;obtain⟨j,y,h1,hy,_⟩:=JB hf (hn n hm);rw[h1,aA,hy];exact aL hy
def AI:List Val->List Val->Int
 |[],[]=>0
 |[],_::_=> -1
 |_::_,[]=>1
 |x::a,y::b=>if N9 x y≠0 then N9 x y else AI a b
theorem IP (x:Int):oI x x=0:=by unfold oI;rw[aD (Int.lt_irrefl x),aD (Int.lt_irrefl x)]
theorem TH (v:Val):N9 v v=0:=by
 unfold N9;rw[IP,IP];unfold DC;rw[a1Y];rfl
theorem IO:∀a:List Val,AI a a=0
 |[]=>rfl
 |x::a=>by unfold AI;rw[TH];exact IO a
def s3 (s:Sch) (n r:By) (row:List Val):List Val×Bool×Int:=
 if(uK s n r).2==0 then(if r9 (eQ s r).its row then(if(uK s n r).1.sel.isEmpty then([],false,0) else(mM (eQ s r).its row (uK s n r).1.sel,true,0)) else([],false,1)) else([],false,(uK s n r).2)
def a07 (a b:Int):Int:=if a≠0 then a else b
instance [MaxL] {l:List Val}:KL (jT l):=⟨z6 l⟩
instance [MaxL] {v:Val}:KG v.gv:=⟨v.cl⟩
theorem UV [MaxL] (x:Itm) (n:By):SC Tryz.prog 211 [x.gv,.ptr 0 0] [.box 9 [.s n]] (.val (.b (x.name==n))) [.box 9 [.s n]]:=by
 refine cX Tryz.func211 rfl ?_;conv=>whnf
 exact dH 1
theorem Y7 [MaxL] (l:List Itm) (hl:l.length<bB) (n:By):SC Tryz.prog 166 [.sl .none (eZ l),.s n] [] (.val (.i .i64 (lW (fun x=>x.name==n) l))) []:=by
 have hi:=yX (fun x=>LG (Itm.cs x)) l hl (fun x=>x.name==n) _ 9 [.s n] _ 5 (fun x _=>UV x n) (.inr (.inr (.inr (.inr (.inr (.inr ⟨rfl,rfl,rfl⟩))))));refine cX Tryz.func166 rfl ?_;conv=>whnf
 refine cS [0] hi ?_;conv=>whnf
 exact dH 0
theorem X2 {a b:List Val} {i:Nat} (h:i=a.length/\i<=b.length∨i=b.length/\i<=a.length):AI (a.drop i) (b.drop i)=oI a.length b.length:=by
 have key:∀x y:List Val,(x=[]∨y=[])->AI x y=oI x.length y.length:=fun x y h=>by
  unfold oI;cases x with
  |nil=>cases y with
   |nil=>rfl
   |cons y l=>show(-1:Int)=_;rw[aG (by simp)]
  |cons x k=>cases y with
   |nil=>show(1:Int)=_;rw[aD (by simp;try omega),aG (by simp;try omega)]
   |cons y l=>rcases h with h|h<;>cases h
 have hl:(a.drop i).length=a.length - i:=cV;have hk:(b.drop i).length=b.length - i:=cV;rw[key _ _ (h.elim (fun h=>.inl (List.drop_eq_nil_of_le (by omega))) (fun h=>.inr (List.drop_eq_nil_of_le (by omega)))),hl,hk];unfold oI;rcases Nat.lt_trichotomy a.length b.length with q|q|q
 ·rw[aG (by omega),aG (by omega)]
 ·rw[q,aD (by omega),aD (by omega),aD (by omega),aD (by omega)]
 ·rw[aD (by omega),aG (by omega),aD (by omega),aG (by omega)]
theorem ZG {a b:List Val} {i:Nat} {x y:Val} (hx:a[i]?=some x) (hy:b[i]?=some y):AI (a.drop i) (b.drop i)=a07 (N9 x y) (AI (a.drop (i+1)) (b.drop (i+1))):=by
 obtain⟨h1,e1⟩:=List.getElem?_eq_some_iff.1 hx;obtain⟨h2,e2⟩:=List.getElem?_eq_some_iff.1 hy;rw[aT h1,aT h2,e1,e2];rfl
instance [MaxL] {m:Nat} {T:TypeId} {k n:Nat}:FO m (ow T k n):=⟨fun e _=>yJ T k n e⟩
theorem ap1 [MaxL] {α:Type} {f:α->GV} {c:Nat} (hf:∀a,(f a).cells.length=c) (o:List α) (y:α) {A:Prop} {K:List GV->Nat->Prop} (hA:A) (hl:o.length<4294967296) (k:K ((o++[y]).map f) (o++[y]).length):
  GNeed (A/\(o.map f).all (fun x=>x.cells.length==c)=true/\(o.map f).length+1<=4294967296) (∃zs m,GNeed (zs=o.map f++[f y]/\m=(o.map f).length+1) (K zs m)):=
 ⟨⟨hA,by
  rw[aS];intro x hx;obtain⟨b,_,rfl⟩:=List.mem_map.1 hx;rw[hf];exact beq_self_eq_true _,by rw[cU];omega⟩,_,_,⟨by rw[cZ];rfl,by rw[cU,aE];rfl⟩,k⟩
theorem a0i [MaxL] (l:List Itm) (r:List Val) (ns:List By) (hl:l.length<bB) (hr:r.length<bB) (hf:r9 l r=true) (hn:∀n∈ns,l.any (·.name==n)=true) (hk:ns.length<=8):SC Tryz.prog 92 [.sl .none (eZ l),.sl .none (jT r),.sl .none (b9 ns)] [] (.val (.tup [.sl .none (jT (mM l r ns)),.i .i64 0])) []:=by
 have hF:=XI l r hl hr;rw[hf] at hF;have hlen:(b9 ns).length=ns.length:=aP ns;refine cX Tryz.func92 rfl ?_;conv=>whnf
 refine cP hF ?_;conv=>whnf
 refine dB 2 ns.length (fun i o=>o=mM l r (ns.take i)) (fun i o=>[(0,.sl .none (eZ l)),(1,.sl .none (jT r)),(8,.sl (.own 1) (jT o)),(16,.sl .none (b9 ns)),(17,.i .i64 (ns.length:Nat)),(18,.i .i64 (i:Nat))]) (fun _ o=>[.own 0 0 0,ow 138 3 o.length]) [] [] rfl (fun i o φ0 hi ho=>?_) (hφ:=⟨rfl,rfl,rfl,rfl,by rw[<-hlen];rfl,rfl,trivial⟩) (hh:=fun _ _=>by simp only[List.all_cons,rR];rfl);conv=>whnf
 refine aF (fun h=>?_) (fun h=>?_)<;>conv=>whnf
 rotate_left
 ·have e:o=mM l r ns:=by rw[ho,dI (by have:=aC h;omega)]
  refine gN (show decide (((jT o).length:Int)>8)=false from cE (by rw[nW,e,zN];omega)) ?_;conv=>whnf
  rw[<-e];exact dH 0 (hw:=Wk.tupl ⟨bI _ _,.refl _,trivial⟩)
 have hlt:i<ns.length:=by have:=aB h;omega
 refine(j0 hlt).elim fun n hni=>?_;refine(JB hf (hn n (aL hni))).elim fun j hj=>hj.elim fun y hy=>?_;have hp:=Y7 l hl n;rw[hy.1] at hp;have ho':o++[y]=mM l r (ns.take (i+1)):=by rw[bR,hni,LX,<-ho];exact aQ (o++ ·) hy.2.2.symm
 have hol:o.length<=8:=by rw[ho,zN,bQ];omega
 refine ix (cM hni) ⟨rfl,?_⟩;conv=>whnf
 refine cP hp ?_;conv=>whnf
 refine ix (cM hy.2.1) ⟨rfl,?_⟩;conv=>whnf
 cases o with
 |nil=>
  refine ap1 (f:=Val.gv) (c:=3) (fun _=>rfl) [] y rfl (by omega) ?_;conv=>whnf
  refine⟨⟨zL _,rfl,.inr ⟨rfl,rfl⟩⟩,?_⟩;conv=>whnf
  exact nx ([]++[y]) hlt ⟨hlt,ho'⟩
 |cons z zs=>
  refine ap1 (f:=Val.gv) (c:=3) (fun _=>rfl) (z::zs) y rfl (by omega) ?_;conv=>whnf
  refine⟨⟨zL _,(nW (z::zs)).symm,.inl ⟨rfl,rfl⟩⟩,?_⟩;conv=>whnf
  exact nx ((z::zs)++[y]) hlt ⟨hlt,ho'⟩
theorem VE [MaxL] (l:List Itm) (r:List Val) (ns:List By) (hl:l.length<bB) (hr:r.length<bB) (hf:r9 l r=true) (hn:∀n∈ns,l.any (·.name==n)=true) (hk:ns.length<=8):SC Tryz.prog 95 [.sl .none (eZ l),.sl .none (jT r),.sl .none (b9 ns)] [] (.val (.sl .none (jT (mM l r ns)))) []:=by
 have hlen:(b9 ns).length=ns.length:=aP ns;refine cX Tryz.func95 rfl ?_;conv=>whnf
 refine dB 2 ns.length (fun i o=>o=mM l r (ns.take i)) (fun i o=>[(0,.sl .none (eZ l)),(1,.sl .none (jT r)),(2,.sl .none (b9 ns)),(7,.sl (.own 1) (jT o)),(8,.i .i64 (i:Nat))]) (fun _ o=>[.own 0 0 0,ow 138 3 o.length]) [] [] rfl (fun i o φ0 hi ho=>?_) (hh:=fun _ _=>by simp only[List.all_cons,rR];rfl);conv=>whnf
 refine aF (fun h=>?_) (fun h=>?_)<;>conv=>whnf
 rotate_left
 ·have e:o=mM l r ns:=by rw[ho,dI (by have:=aC h;rw[hlen] at this;omega)]
  rw[<-e];exact dH 0 (hw:=bI _ _)
 have hlt:i<ns.length:=by have:=aB h;rw[hlen] at this;omega
 refine(j0 hlt).elim fun n hni=>?_;refine(JB hf (hn n (aL hni))).elim fun j hj=>hj.elim fun y hy=>?_;have hp:=sY l hl n;rw[hy.1] at hp;have ho':o++[y]=mM l r (ns.take (i+1)):=by rw[bR,hni,LX,<-ho];exact aQ (o++ ·) hy.2.2.symm
 have hol:o.length<=8:=by rw[ho,zN,bQ];omega
 refine ix (cM hni) ⟨rfl,?_⟩;conv=>whnf
 refine cP hp ?_;conv=>whnf
 refine ix (cM hy.2.1) ⟨rfl,?_⟩;conv=>whnf
 cases o with
 |nil=>
  refine ap1 (f:=Val.gv) (c:=3) (fun _=>rfl) [] y rfl (by omega) ?_;conv=>whnf
  refine⟨⟨zL _,rfl,.inr ⟨rfl,rfl⟩⟩,?_⟩;conv=>whnf
  exact nx ([]++[y]) hlt ⟨hlt,ho'⟩
 |cons z zs=>
  refine ap1 (f:=Val.gv) (c:=3) (fun _=>rfl) (z::zs) y rfl (by omega) ?_;conv=>whnf
  refine⟨⟨zL _,(nW (z::zs)).symm,.inl ⟨rfl,rfl⟩⟩,?_⟩;conv=>whnf
  exact nx ((z::zs)++[y]) hlt ⟨hlt,ho'⟩
theorem E4 {s:Sch} {n r:By} {row:List Val} {m:Mb} {e:Int} (h:uK s n r=(m,e)) (he:(e==0)=false):s3 s n r row=([],false,e):=by
 unfold s3;rw[h];exact aD (by rw[he];simp)
theorem AJ {s:Sch} {n r:By} {row:List Val} {m:Mb} (h:uK s n r=(m,0)):s3 s n r row=if r9 (eQ s r).its row then(if m.sel.isEmpty then([],false,0) else(mM (eQ s r).its row m.sel,true,0)) else([],false,1):=by
 unfold s3;rw[h];rfl
theorem X3 {s:Sch} {n r:By} {row:List Val}:∀v∈(s3 s n r row).1,v∈row:=fun v hv=>by
 cases hm:uK s n r with
 |mk m e=>
  cases he:(e==0) with
  |false=>rw[E4 hm he] at hv;cases hv
  |true=>
   cases eq_of_beq he;rw[AJ hm] at hv;cases hf:r9 (eQ s r).its row with
   |false=>rw[hf] at hv;cases hv
   |true=>
    rw[hf,aG rfl] at hv;split at hv
    ·cases hv
    ·exact VS hf (zV hm).2.2 v hv
theorem X4 {s:Sch} {n r:By} {row:List Val}:(s3 s n r row).1.length<=8:=by
 cases hm:uK s n r with
 |mk m e=>
  cases he:(e==0) with
  |false=>rw[E4 hm he];exact zL _
  |true=>
   cases eq_of_beq he;rw[AJ hm];split
   ·split
    ·exact zL _
    ·show(mM _ _ _).length<=8;rw[zN];exact(zV hm).2.1
   ·exact zL _
theorem UY [MaxL] (s:Sch) (hz:mK s) (hs:Y2 s) (n r:By) (row:List Val) (hr:row.length<bB):SC Tryz.prog 30 [nZ s,.s n,.s r,.sl .none (jT row)] [] (.val (.tup [.sl .none (jT (s3 s n r row).1),.b (s3 s n r row).2.1,.i .i64 (s3 s n r row).2.2])) []:=by
 have hM:=O6 s hz hs n r;have hq:=qO s hz.1.2.1 r;cases hm:uK s n r with
 |mk m e=>
 rw[hm] at hM;cases he:(e==0) with
 |false=>
  rw[E4 hm he];refine cR xN mixed Tryz.func30 rfl (bL rfl) (by first|exact rL _|simp) rfl ?_;conv=>whnf
  refine cP hM ?_;conv=>whnf
  refine st ?_;conv=>whnf
  refine gY (show(!(e==0))=true by rw[he];rfl) ?_;conv=>whnf
  exact dH 0 (hw:=Wk.tupl ⟨bI _ _,.refl _,.refl _,trivial⟩)
 |true=>
  cases eq_of_beq he;obtain⟨⟨j,h1,hj⟩,h8,hn⟩:=zV hm;have hro:=(hz.2.1 _ (aL hj)).1;have hF:=XI (eQ s r).its row hro hr;have hP:=fun hf=>a0i (eQ s r).its row m.sel hro hr hf hn h8;rw[h1] at hq;rw[AJ hm];generalize hro:eQ s r=R at*;cases hf:r9 R.its row with
  |false=>
   rw[hf] at hF;refine cR xN mixed Tryz.func30 rfl (bL rfl) (by first|exact rL _|simp) rfl ?_;(conv=>whnf);refine cP hM ?_;(conv=>whnf);refine st ?_;(conv=>whnf);refine iQ [none,some 0,some 0,none,none,none,none,some 3,some 3] rfl rfl (by kernel_rfl) ?_;(conv=>whnf);refine cP hq ?_;(conv=>whnf);refine ix (cM hj) ⟨rfl,?_⟩;(conv=>whnf);refine st ?_;(conv=>whnf);refine cP hF ?_;(conv=>whnf);exact dH 0 (hw:=Wk.tupl ⟨bI _ _,.refl _,.refl _,trivial⟩)
  |true=>
   rw[hf] at hF;have hP:=hP hf;rw[aG rfl];generalize mM R.its row m.sel=Q at*;obtain⟨of,auto,keep,sel⟩:=m;cases sel with
   |nil=>
    refine cR xN mixed Tryz.func30 rfl (bL rfl) (by first|exact rL _|simp) rfl ?_;(conv=>whnf);refine cP hM ?_;(conv=>whnf);refine st ?_;(conv=>whnf);refine iQ [none,some 0,some 0,none,none,none,none,some 3,some 3] rfl rfl (by kernel_rfl) ?_;(conv=>whnf);refine cP hq ?_;(conv=>whnf);refine ix (cM hj) ⟨rfl,?_⟩;(conv=>whnf);refine st ?_;(conv=>whnf);refine cP hF ?_;(conv=>whnf);exact dH 0 (hw:=Wk.tupl ⟨bI _ _,.refl _,.refl _,trivial⟩)
   |cons x l=>
    refine cR xN mixed Tryz.func30 rfl (bL rfl) (by first|exact rL _|simp) rfl ?_;(conv=>whnf);refine cP hM ?_;(conv=>whnf);refine st ?_;(conv=>whnf);refine iQ [none,some 0,some 0,none,none,none,none,some 3,some 3] rfl rfl (by kernel_rfl) ?_;(conv=>whnf);refine cP hq ?_;(conv=>whnf);refine ix (cM hj) ⟨rfl,?_⟩;(conv=>whnf);refine st ?_;(conv=>whnf);refine cP hF ?_;(conv=>whnf);refine cP hP ?_;(conv=>whnf);exact dH 0
theorem H1 [MaxL] (a b:List Val) (ha:a.length<bB) (hb:b.length<bB) (hs:∀v∈a,v.s.length<bB) (ht:∀v∈b,v.s.length<bB):SC Tryz.prog 96 [.sl .none (jT a),.sl .none (jT b)] [] (.val (.i .i64 (AI a b))) []:=by
 have h1:=nW a;have h2:=nW b;unfold bB at ha hb;have hX:∀i,(i=a.length/\i<=b.length∨i=b.length/\i<=a.length)->AI (a.drop i) (b.drop i)=AI a b->oI (jT a).length (jT b).length=AI a b:=fun i h e=>by rw[h1,h2,<-X2 h,e]
 refine cX Tryz.func96 rfl ?_;conv=>whnf
 refine dB 0 a.length (fun i _=>i<=b.length/\AI (a.drop i) (b.drop i)=AI a b) (fun i _=>[(0,.sl .none (jT a)),(1,.sl .none (jT b)),(5,.i .i64 (i:Nat))]) (fun _ (_:Unit)=>[]) [] () ⟨zL _,rfl⟩ (fun i _ φ0 hi hc=>?_);obtain⟨hib,hc⟩:=hc;conv=>whnf
 refine aF (fun h=>?_) (fun h=>?_)<;>conv=>whnf
 rotate_left
 ·refine cP (J5 _ _) ?_;conv=>whnf
  rw[hX i (.inl ⟨by have:=aC h;rw[h1] at this;omega,hib⟩) hc];exact dH 0
 have hlt:i<a.length:=by have:=aB h;rw[h1] at this;omega
 refine aF (fun h=>?_) (fun h=>?_)<;>conv=>whnf
 rotate_left
 ·refine cP (J5 _ _) ?_;conv=>whnf
  rw[hX i (.inr ⟨by have:=aC h;rw[h2] at this;omega,hi⟩) hc];exact dH 0
 have hlt2:i<b.length:=by have:=aB h;rw[h2] at this;omega
 refine(j0 hlt).elim fun x hx=>?_;refine(j0 hlt2).elim fun y hy=>?_;have hv:=OJ x y (hs x (aL hx)) (ht y (aL hy));have hstep:=ZG hx hy;refine b6 (by kernel_rfl) ?_;conv=>whnf
 refine ix (cM hx) ⟨rfl,?_⟩;conv=>whnf
 refine ix (cM hy) ⟨rfl,?_⟩;conv=>whnf
 refine cP hv ?_;conv=>whnf
 unfold a07 at hstep;refine aF (fun h=>?_) (fun h=>?_)<;>conv=>whnf
 ·rw[aG (by simpa using h),hc] at hstep;rw[hstep];exact dH 0
 ·rw[aD (by simpa using h),hc] at hstep;exact nx () hlt ⟨hlt,hlt2,hstep.symm⟩
theorem YN [MaxL] (a b:List Val) (ha:a.length<bB) (hb:b.length<bB) (hs:∀v∈a,v.s.length<bB) (ht:∀v∈b,v.s.length<bB):SC Tryz.prog 32 [.sl .none (jT a),.sl .none (jT b)] [] (.val (.b (AI a b==0))) []:=by
 have h:=H1 a b ha hb hs ht;refine cX Tryz.func32 rfl ?_;conv=>whnf
 refine cP h ?_;conv=>whnf
 exact dH 0
theorem YM [MaxL] (a:List Val) (ha:a.length<bB) (hs:∀v∈a,v.s.length<bB):SC Tryz.prog 32 [.sl .none (jT a),.sl .none (jT a)] [] (.val (.b true)) []:=by
 have h:=YN a a ha ha hs hs;rwa [IO] at h
theorem VO [MaxL] (s:Sch) (hz:mK s) (hc:∀r∈s.rc,r.check.length<1000000) (n r:By) (row:List Val) (hr:row.length<bB):SC Tryz.prog 31 [nZ s,.s n,.s r,.sl .none (jT row)] [] (.val (.tup [.sl .none (jT (s3 s n r row).1),.b (s3 s n r row).2.1,.i .i64 (s3 s n r row).2.2])) []:=by
 have hM:=OI s hz hc n r;have hq:=lI s hz.1.2.1 r;cases hm:uK s n r with
 |mk m e=>
 rw[hm] at hM;cases he:(e==0) with
 |false=>
  rw[E4 hm he];refine cR xN mixed Tryz.func31 rfl (bL rfl) (by first|exact rL _|simp) rfl ?_;conv=>whnf
  refine cP hM ?_;conv=>whnf
  refine st ?_;conv=>whnf
  refine gY (show(!(e==0))=true by rw[he];rfl) ?_;conv=>whnf
  exact dH 0 (hw:=Wk.tupl ⟨bI _ _,.refl _,.refl _,trivial⟩)
 |true=>
  cases eq_of_beq he;obtain⟨⟨j,h1,hj⟩,h8,hn⟩:=zV hm;have hro:=(hz.2.1 _ (aL hj)).1;have hF:=YQ (eQ s r).its row hro hr;have hP:=fun hf=>VE (eQ s r).its row m.sel hro hr hf hn h8;rw[h1] at hq;rw[AJ hm];generalize hro:eQ s r=R at*;cases hf:r9 R.its row with
  |false=>
   rw[hf] at hF;refine cR xN mixed Tryz.func31 rfl (bL rfl) (by first|exact rL _|simp) rfl ?_;(conv=>whnf);refine cP hM ?_;(conv=>whnf);refine st ?_;(conv=>whnf);refine iQ [none,some 0,some 0,none,none,none,none,some 3,some 3] rfl rfl (by kernel_rfl) ?_;(conv=>whnf);refine cP hq ?_;(conv=>whnf);refine ix (cM hj) ⟨rfl,?_⟩;(conv=>whnf);refine st ?_;(conv=>whnf);refine cP hF ?_;(conv=>whnf);exact dH 0 (hw:=Wk.tupl ⟨bI _ _,.refl _,.refl _,trivial⟩)
  |true=>
   rw[hf] at hF;have hP:=hP hf;rw[aG rfl];generalize mM R.its row m.sel=Q at*;obtain⟨of,auto,keep,sel⟩:=m;cases sel with
   |nil=>
    refine cR xN mixed Tryz.func31 rfl (bL rfl) (by first|exact rL _|simp) rfl ?_;(conv=>whnf);refine cP hM ?_;(conv=>whnf);refine st ?_;(conv=>whnf);refine iQ [none,some 0,some 0,none,none,none,none,some 3,some 3] rfl rfl (by kernel_rfl) ?_;(conv=>whnf);refine cP hq ?_;(conv=>whnf);refine ix (cM hj) ⟨rfl,?_⟩;(conv=>whnf);refine st ?_;(conv=>whnf);refine cP hF ?_;(conv=>whnf);exact dH 0 (hw:=Wk.tupl ⟨bI _ _,.refl _,.refl _,trivial⟩)
   |cons x l=>
    refine cR xN mixed Tryz.func31 rfl (bL rfl) (by first|exact rL _|simp) rfl ?_;(conv=>whnf);refine cP hM ?_;(conv=>whnf);refine st ?_;(conv=>whnf);refine iQ [none,some 0,some 0,none,none,none,none,some 3,some 3] rfl rfl (by kernel_rfl) ?_;(conv=>whnf);refine cP hq ?_;(conv=>whnf);refine ix (cM hj) ⟨rfl,?_⟩;(conv=>whnf);refine st ?_;(conv=>whnf);refine cP hF ?_;(conv=>whnf);refine cP hP ?_;(conv=>whnf);exact dH 0
variable [Globals]
theorem EnvSound.of {P:Program} {w0:World} {M:FuncId->Bool} {Γ:PX} (h:∀k f,Γ k=some f->∀args σ r σ',f args σ=some (r,σ')->Fact P (.fn k) args σ r σ'/\(M k=true->σ'=σ)):EnvSound P w0 M Γ:=by
 refine⟨fun t args σ r σ' he=>?_,fun k hk args σ r σ' he=>?_⟩
 ·cases t with
  |yld q=>cases he
  |fn k=>
   simp only[AC] at he;cases hg:Γ k with
   |none=>rw[hg] at he;cases he
   |some f=>
    rw[hg] at he;obtain⟨hf,_⟩:=h k f hg args σ r σ' he;exact⟨hf.keep,hf.ds,fun C w vs hr hv=>hf.calls w0 C w vs hr hv⟩
 ·simp only[AC] at he;cases hg:Γ k with
  |none=>rw[hg] at he;cases he
  |some f=>
   rw[hg] at he;exact(h k f hg args σ r σ' he).2 hk
theorem SC.factNil {P:Program} {k:FuncId} {args args':List GV} {r:GRes} {σ:GS} (h:SC P k args [] r []) (ha:ClL args) (hr:∀e,r.ren e=r) (hw:Wks args' args):Fact P (.fn k) args' σ r σ:=by
 have hf:=h.fact (σ:={σ with lo:=0}) (args':=args') [] Lies.nil rfl (by rw[ha];exact hw);rw[hr] at hf;simp only[CD] at hf;exact⟨Keep.refl _,rfl,fun w0 C w vs hR hv=>(hf.calls w0 C w vs ⟨hR.below,hR.fxc,hR.obj,hR.dom,hR.new,hR.inj,hR.sepB,hR.sepO,hR.fxn,hR.gl,hR.gs⟩ hv).mono fun e w' ⟨D,h1,h2,h3⟩=>⟨D,h1,⟨h2.below,h2.fxc,h2.obj,h2.dom,h2.new,h2.inj,h2.sepB,h2.sepO,h2.fxn,h2.gl,h2.gs⟩,h3⟩⟩
theorem SC.of_gcall {P:Program} (hm:P.follows .mixedOrders=true) {M:FuncId->Bool} {Γ:PX} (hΓ:∀w0,EnvSound P w0 M Γ) {m:Nat} {k:FuncId} {args:List GV} {r:GRes}
  (h:(CV P M Γ m (.fn k) args ⟨[],0,[]⟩).map (·.1)=some r) (hr:∀e,r.ren e=r):SC P k args [] r []:=by
 obtain⟨⟨r1,σ'⟩,h1,rfl⟩:=Option.map_eq_some_iff.1 h;refine⟨rL _,fun C w vs hR hv=>?_,fun x hx=>by cases hx⟩;refine Calls.mono (((CU (w0:=w) hm (hΓ w) m).1 (.fn k) args _ _ _ h1).2.2 C w vs hR hv) ?_;rintro e w' ⟨D,hl,hrD,he⟩;refine⟨D.pull (jI [] σ'.objs.length),?_,hrD.pull Lies.nil,?_⟩
 ·refine⟨hl.fx,fun i b hb=>?_,fun i I hI=>?_,hl.hd,hl.fix⟩
  ·rw[(hR.dom i (zL _)).1] at hb;cases hb
  ·rw[(hR.dom i (zL _)).2] at hI;cases hI
 ·have he2:ERel D (r1.ren (jI [] σ'.objs.length)) e:=by rw[hr];exact he
  exact he2.pull (D:=D) (f:=jI [] σ'.objs.length) (E:=D.pull (jI [] σ'.objs.length)) (fun _ _ _ h=>h) (fun _=>rfl) (fun _=>rfl)
