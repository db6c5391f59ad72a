/-
  A part of the proof of SchemaSorts.
-/
import Derived.Test.YtcfgfkkhpdlhpaaGreatDoorS33
set_option linter.all false
set_option maxRecDepth 100000
namespace Go.Proofs.YtcfgfkkhpdlhpaaGreatDoor
open Go.RowKit
theorem lO [MaxL] (n lo hi:Int):SC Tryz.prog 112 [.i .i64 n,.i .i64 lo,.i .i64 hi] [] (.val (.b (uM n lo hi))) []:=by
 unfold uM;refine cY Tryz.func112 rfl ?_;conv=>whnf
 repeat' first
  |(refine aE (fun _=>?_) (fun _=>?_)<;>conv=>whnf)
  |(refine aZ (by kernel_rfl) ?_;conv=>whnf)
  |(refine⟨_,⟨rfl,zL _,rfl,bL rfl⟩,?_⟩;conv=>whnf)
 all_goals (rename_i h;refine bY ?_;simp at h⊢;omega)
def OO (kd:By) (i:Nat) (e:Int):GV:=.ifc 82 (.agg [.s kd,.i .i64 (i:Nat),.i .i64 e])
instance [MaxL] {kd:By} {i:Nat} {e:Int}:KG (OO kd i e):=⟨fun _=>rfl⟩
def sR (kd:By) (i:Nat) (e:Int):GRes:=if e=0 then .val (.tup []) else .panic (OO kd i e)
theorem N0 [MaxL] (e:Nat->Nat) (kd:By) (i:Nat) (x:Int):(sR kd i x).ren e=sR kd i x:=by unfold sR;split<;>rfl
instance [MaxL] {e:Nat->Nat} {kd:By} {i:Nat} {x:Int}:RR e (sR kd i x) (sR kd i x):=⟨N0 e kd i x⟩
instance [MaxL] {n:Nat} {kd:By} {i:Nat} {x:Int}:FR n (sR kd i x):=⟨fun e _=>N0 e kd i x⟩
theorem uX [MaxL] (kd:By) (i:Nat) (e:Int):SC Tryz.prog 113 [.s kd,.i .i64 (i:Nat),.i .i64 e] [] (.panic (OO kd i e)) []:=by
 refine cY Tryz.func113 rfl ?_;conv=>whnf
 exact dB 0
abbrev kE (s:Sch) (m:List By):List GObj:=[.box 87 [.sl .none (B5 s.ar),.sl .none (yY s.rc),.sl .none (zS s.st),.mp 1],.mp (DQ m)]
theorem kT [MaxL] (w:Bool) (e:Int) (i:Nat) (he:w=true->e≠0):SC Tryz.prog 115 [.b w,.i .i64 e,.ptr 0 0] [.box 3 [.i .i64 (i:Nat)]] (sR lI i (if w then e else 0)) [.box 3 [.i .i64 (i:Nat)]]:=by
 cases w with
 |false=>
  refine cY Tryz.func115 rfl ?_;conv=>whnf
  exact dB 1
 |true=>
  rw[aF rfl];unfold sR;rw[aD (he rfl)];refine cY Tryz.func115 rfl ?_;conv=>whnf
  refine cS [] (uX lI i e) ?_;conv=>whnf
  exact dB 1
theorem gF [MaxL] (w:Bool) (e:Int) (i:Nat) (he:w=true->e≠0):SC Tryz.prog 122 [.b w,.i .i64 e,.ptr 0 0] [.box 3 [.i .i64 (i:Nat)]] (sR qZ i (if w then e else 0)) [.box 3 [.i .i64 (i:Nat)]]:=by
 cases w with
 |false=>
  refine cY Tryz.func122 rfl ?_;conv=>whnf
  exact dB 1
 |true=>
  rw[aF rfl];unfold sR;rw[aD (he rfl)];refine cY Tryz.func122 rfl ?_;conv=>whnf
  refine cS [] (uX qZ i e) ?_;conv=>whnf
  exact dB 1
theorem RJ [MaxL] (s:Sch) (m:List By) (kd:By) (i:Nat) (n:By):SC Tryz.prog 114 [.ptr 0 0,.s kd,.i .i64 (i:Nat),.s n] (kE s m) (sR kd i (kL m n 0)) (kE s (if kL m n 0=0 then m++[n] else m)):=by
 have hn:=LQ n;generalize hE:kL m n 0=E;unfold kL dX at hE;generalize fP n=b at*;refine cY Tryz.func114 rfl ?_;conv=>whnf
 refine cP hn ?_;conv=>whnf
 repeat' first
  |(refine aE (fun _=>?_) (fun _=>?_)<;>conv=>whnf)
  |(refine aZ (by kernel_rfl) ?_;conv=>whnf)
  |(refine⟨_,⟨rfl,zL _,rfl,bL rfl⟩,?_⟩;conv=>whnf)
 ·have:E=1:=by rw[<-hE];simp[*]
  subst this;refine cS [] (uX kd i 1) ?_;conv=>whnf
  show Owes _ _ (kE s m) _ _;exact dB 2
 ·rename_i hb hs;have:E=1:=by rw[<-hE,show(n==ZD)=true from hs];simp
  subst this;refine cS [] (uX kd i 1) ?_;conv=>whnf
  show Owes _ _ (kE s m) _ _;exact dB 2
 ·rename_i hb hs;rw[hb,show(n==ZD)=false from hs] at hE;cases hm:m.contains n with
  |true=>
   rw[hm] at hE;subst hE;obtain⟨k,hk⟩:=a07 0 hm;refine⟨some (k,.b true),hk,?_⟩;(conv=>whnf);refine cS [] (uX kd i 6) ?_;(conv=>whnf);show Owes _ _ (kE s m) _ _;exact dB 2
  |false=>
   rw[hm] at hE;subst hE;refine⟨none,XG hm,?_⟩;(conv=>whnf);refine⟨zL _,none,XG hm,?_⟩;(conv=>whnf);show Owes _ _ [_,.mp (DQ (m++[n]))] _ _;have e:DQ (m++[n])=DQ m++[(.s n,.b true)]:=by unfold DQ;rw[cX];rfl
   rw[e];exact dB 2
theorem FY [MaxL] {s:Sch} {m:List By} {kd:By} {i:Nat} {n:By} (h:kL m n 0=0):SC Tryz.prog 114 [.ptr 0 0,.s kd,.i .i64 (i:Nat),.s n] (kE s m) (.val (.tup [])) (kE s (m++[n])):=by
 have:=RJ s m kd i n;rw[h] at this;exact this
theorem FZ [MaxL] {s:Sch} {m:List By} {kd:By} {i:Nat} {n:By} (h:kL m n 0≠0):SC Tryz.prog 114 [.ptr 0 0,.s kd,.i .i64 (i:Nat),.s n] (kE s m) (.panic (OO kd i (kL m n 0))) (kE s m):=by
 have:=RJ s m kd i n;unfold sR at this;rw[aD h,aD h] at this;exact this
theorem KD (m:List By) (n:By) (b:Int):kL m n b=if kL m n 0=0 then b else kL m n 0:=by
 unfold kL dX;cases(!fP n||n==ZD)<;>cases m.contains n<;>simp
def vZ (e:Int) (s:List GObj):List GObj:=if e=0 then s else[.dead,.dead]
def lH (s:Sch):Nat×Int:=if !uM s.ar.length 1 6 then(0,4) else(eS (fun i a=>mN ((dH s).take i) a) 0 s.ar).getD (0,0)
theorem pS {kd:By} {i:Nat} {e:Int} (h:e≠0):sR kd i e=.panic (OO kd i e):=aD h
theorem AB [MaxL] {s:List GObj} {e:Int} (h:e≠0):vZ e s=[.dead,.dead]:=aD h
theorem nZ {α:Type} {f:Nat->α->Int} {l:List α} {i:Nat} {y:α} (hy:l[i]?=some y) (hn:f i y≠0) (h:∀j z,j<i->l[j]?=some z->f j z=0):eS f 0 l=some (i,f i y):=by
 have:=J7 (f:=f) (n:=0) hy (by rw[bH];exact hn) fun j z hj hz=>by rw[bH];exact h j z hj hz
 rwa [bH] at this
theorem nY {α:Type} {f:Nat->α->Int} {l:List α} {n:Nat} (hn:l.length<=n) (h:∀j z,j<n->l[j]?=some z->f j z=0):eS f 0 l=none:=J6 fun j z hz=>by
 rw[bH];exact h j z (cL (List.getElem?_eq_some_iff.1 hz).1 hn) hz
theorem kI {α:Type} {f:Nat->α->Int} {l:List α} {i:Nat} {y:α} (hy:l[i]?=some y) (h0:f i y=0) (h:∀j z,j<i->l[j]?=some z->f j z=0):∀j z,j<i+1->l[j]?=some z->f j z=0:=fun j z hj hz=>by
 rcases Nat.lt_or_eq_of_le (Nat.le_of_lt_succ hj) with h1|rfl
 ·exact h j z h1 hz
 ·rw[hy] at hz;cases hz;exact h0
theorem zB {α:Type} (f:α->By) {l:List α} {i:Nat} {y:α} (hy:l[i]?=some y):(l.map f).take (i+1)=(l.map f).take i++[f y]:=by rw[bP,aM,hy];rfl
theorem ZM [MaxL] (s:Sch) (hl:s.ar.length<bB):SC Tryz.prog 51 [.ptr 0 0] (kE s []) (sR uK (lH s).1 (lH s).2) (vZ (lH s).2 (kE s (dH s))):=by
 unfold bB at hl;have hlen:(B5 s.ar).length=s.ar.length:=iB _ _;generalize hX:lH s=X;obtain⟨xi,xe⟩:=X;unfold lH at hX;have hh:(vZ xe (kE s (dH s))).all GObj.notHeld=true:=by unfold vZ;split<;>rfl
 have hs:(kE s []).length<=(vZ xe (kE s (dH s))).length:=by unfold vZ;split<;>exact rL _
 refine SC.of_gwpD 2 qO mixed Tryz.func51 rfl (bL rfl) hs hh ?_;conv=>whnf
 have hw:=lO (B5 s.ar).length 1 6;refine cP hw ?_;conv=>whnf
 refine aE (fun h=>?_) (fun h=>?_)<;>conv=>whnf
 ·rw[hlen] at h;rw[h,aF rfl] at hX;cases hX;refine cS [] (uX uK 0 4) ?_;conv=>whnf
  exact a0M 2
 rw[hlen] at h;rw[h,aD (by simp)] at hX;refine cW 2 s.ar.length (fun i _=>∀j z,j<i->s.ar[j]?=some z->mN ((dH s).take j) z=0) (fun i _=>[(0,.ptr 0 0),(17,.sl .none (B5 s.ar)),(18,.i .i64 (B5 s.ar).length),(19,.i .i64 (i:Nat))]) (fun i (_:Unit)=>kE s ((dH s).take i)) [] () (fun j z h=>absurd h (dJ j)) (fun i _ φ0 hi hok=>?_);conv=>whnf
 refine aE (fun h=>?_) (fun h=>?_)<;>conv=>whnf
 rotate_left
 ·have hie:i=s.ar.length:=by have:=aC h;rw[hlen] at this;omega
  rw[nY (Nat.le_of_eq hie.symm) hok] at hX;cases hX;have hm:(dH s).take i=dH s:=cZ (by rw[hie];simp[dH]);show OwesD 2 _ _ (kE s (dH s)) _ _;exact .val (dB 2 (ho:=aQ (fun m=>kE s m) hm))
 have hlt:i<s.ar.length:=by have:=aB h;rw[hlen] at this;omega
 obtain⟨y,hy⟩:∃y,s.ar[i]?=some y:=⟨s.ar[i],gL hlt⟩;have hX':=fun hn=>nZ (f:=fun i a=>mN ((dH s).take i) a) hy hn hok;have hE:mN ((dH s).take i) y=kL ((dH s).take i) y.name (dX (!uM y.pages 1 200) 7 0):=rfl;rw[KD] at hE;refine ix (cI hy) ⟨rfl,?_⟩;conv=>whnf
 refine st ?_;conv=>whnf
 by_cases hn:kL ((dH s).take i) y.name 0=0
 ·rw[aF hn] at hE;refine cG [0,1] (FY (kd:=uK) (i:=i) hn) ?_;conv=>whnf
  refine cP (lO y.pages 1 200) ?_;conv=>whnf
  refine aE (fun h=>?_) (fun h=>?_)<;>conv=>whnf
  ·rw[h] at hE;replace hE:mN ((dH s).take i) y=7:=hE;rw[hX' (by rw[hE];decide),hE] at hX;obtain⟨rfl,rfl⟩:=Prod.mk.inj hX;refine cS [] (uX uK i 7) ?_;(conv=>whnf);exact a0M 2
  ·rw[h] at hE;exact nx () hlt ⟨hlt,kI hy hE hok⟩ (aQ (fun m=>kE s m) (zB (fun a:Ar=>a.name) hy).symm)
 ·rw[aD hn] at hE;rw[hX' (by rw[hE];exact hn),hE] at hX;obtain⟨rfl,rfl⟩:=Prod.mk.inj hX;refine cG [0,1] (FZ (kd:=uK) (i:=i) hn) ?_;conv=>whnf
  rw[pS hn,AB hn];exact a0M 2
def lG (x y:Int):Int:=if x<y then -1 else if y<x then 1 else 0
def oU (a b:By):Int:=if Op.bytesLess a b then -1 else if Op.bytesLess b a then 1 else 0
def o7 (a b:Val):Int:=if lG a.k b.k≠0 then lG a.k b.k else if lG a.n b.n≠0 then lG a.n b.n else oU a.s b.s
theorem a2G [MaxL] (x:Int):SC Tryz.prog 173 [.i .i64 x] [] (.val (.b false)) []:=by
 refine cY Tryz.func173 rfl ?_;conv=>whnf
 exact bY (by simp)
theorem YS [MaxL] (x:By):SC Tryz.prog 214 [.s x] [] (.val (.b false)) []:=by
 refine cY Tryz.func214 rfl ?_;conv=>whnf
 exact bY (by simp)
theorem LO [MaxL] (x y:Int):SC Tryz.prog 110 [.i .i64 x,.i .i64 y] [] (.val (.i .i64 (lG x y))) []:=by
 refine cY Tryz.func110 rfl ?_;conv=>whnf
 repeat' first
  |(refine aE (fun _=>?_) (fun _=>?_)<;>conv=>whnf)
  |(refine aZ (by kernel_rfl) ?_;conv=>whnf)
  |(refine⟨_,⟨rfl,zL _,rfl,bL rfl⟩,?_⟩;conv=>whnf)
  |(refine lM (a2G _) ?_;conv=>whnf)
 all_goals
  refine b8 ?_;unfold lG;simp only[aK,bC,gt_iff_lt] at*;repeat' split
  all_goals first|rfl|omega
theorem LW (a:By):Op.bytesLess a a=false:=by
 induction a with
 |nil=>rfl
 |cons c a ih=>
  unfold Op.bytesLess;rw[ih];simp
theorem LV:∀{a b:By},Op.bytesLess a b=false->a≠b->Op.bytesLess b a=true
 |[],[],_,h=>absurd rfl h
 |[],_::_,h,_=>by unfold Op.bytesLess at h;cases h
 |_::_,[],_,_=>by unfold Op.bytesLess;rfl
 |x::a,y::b,h,hn=>by
  unfold Op.bytesLess at h⊢;simp only[Bool.or_eq_false_iff,bC] at h;by_cases hxy:x=y
  ·subst hxy;have h2:Op.bytesLess a b=false:=by simpa using h.2
   rw[LV h2 (fun e=>hn (by rw[e]))];simp
  ·have:y<x:=by
    have h1:=h.1;have hne:x.toNat≠y.toNat:=fun e=>hxy (UInt8.toNat_inj.1 e);rw[UInt8.lt_iff_toNat_lt] at h1⊢;omega
   simp[this]
theorem a2I [MaxL] (a b:By):SC Tryz.prog 172 [.s a,.s b] [] (.val (.i .i64 (oU a b))) []:=by
 refine cY Tryz.func172 rfl ?_;conv=>whnf
 refine lM (YS a) ?_;conv=>whnf
 refine lM (YS b) ?_;conv=>whnf
 refine aE (fun h1=>?_) (fun h1=>?_)<;>conv=>whnf
 ·refine b8 ?_;unfold oU;rw[aF h1]
 ·refine aE (fun h2=>?_) (fun h2=>?_)<;>conv=>whnf
  ·refine b8 ?_;unfold oU;rw[aD (by rw[h1];decide)];have h3:a≠b:=by rintro rfl;simp[LW] at h2
   rw[aF (LV h1 h3)]
  ·refine b8 ?_;have h3:a=b:=by simpa[h1] using h2
   rw[h3];unfold oU;rw[LW];rfl
theorem a0m [MaxL] (a b c:Int):SC Tryz.prog 171 [.sl .none [.i .i64 a,.i .i64 b,.i .i64 c]] [] (.val (.i .i64 (if a≠0 then a else if b≠0 then b else c))) []:=by
 refine cY Tryz.func171 rfl ?_;conv=>whnf
 refine cV (fun i:Nat=>i=0∨(i=1/\a=0)∨(i=2/\a=0/\b=0)∨(i=3/\a=0/\b=0/\c=0)) (fun i=>[(3,.i .i64 0),(6,.sl .none [.i .i64 a,.i .i64 b,.i .i64 c]),(7,.i .i64 3),(8,.i .i64 (i:Nat))]) (fun _=>⟨[],0,[]⟩) (fun i=>3 - i) 0 (.inl rfl) ⟨rfl,rfl,rfl,rfl,trivial⟩ rfl (fun i φ0 hi=>?_);rcases hi with rfl|⟨rfl,ha⟩|⟨rfl,ha,hb⟩|⟨rfl,ha,hb,hc⟩
 ·conv=>whnf
  refine⟨dE 0,.i .i64 a,rfl,rfl,?_⟩;conv=>whnf
  refine aE (fun h=>?_) (fun h=>?_)<;>conv=>whnf
  ·exact b8 (by rw[aF (by simpa using h)])
  ·exact⟨2,by decide,1,.inr (.inl ⟨rfl,by simpa using h⟩),rfl,⟨rfl,rfl,rfl,rfl,trivial⟩,rfl⟩
 ·conv=>whnf
  refine⟨cN 1,.i .i64 b,rfl,rfl,?_⟩;conv=>whnf
  refine aE (fun h=>?_) (fun h=>?_)<;>conv=>whnf
  ·exact b8 (by rw[aD (by simpa using ha),aF (by simpa using h)])
  ·exact⟨1,by decide,2,.inr (.inr (.inl ⟨rfl,ha,by simpa using h⟩)),rfl,⟨rfl,rfl,rfl,rfl,trivial⟩,rfl⟩
 ·conv=>whnf
  refine⟨cN 2,.i .i64 c,rfl,rfl,?_⟩;conv=>whnf
  refine aE (fun h=>?_) (fun h=>?_)<;>conv=>whnf
  ·exact b8 (by rw[aD (by simpa using ha),aD (by simpa using hb)])
  ·exact⟨0,by decide,3,.inr (.inr (.inr ⟨rfl,ha,hb,by simpa using h⟩)),rfl,⟨rfl,rfl,rfl,rfl,trivial⟩,rfl⟩
 ·conv=>whnf
  exact b8 (by rw[aD (by simpa using ha),aD (by simpa using hb),hc])
theorem QZ [MaxL] (a b:Val):SC Tryz.prog 109 [a.gv,b.gv] [] (.val (.i .i64 (o7 a b))) []:=by
 obtain⟨k1,n1,s1⟩:=a;obtain⟨k2,n2,s2⟩:=b;have h1:=LO k1 k2;have h2:=LO n1 n2;have h3:=a2I s1 s2;unfold o7;simp only;generalize lG k1 k2=x at*;generalize lG n1 n2=y at*;generalize oU s1 s2=z at*;have h4:=a0m x y z;refine cY Tryz.func109 rfl ?_;conv=>whnf
 refine aZ (by kernel_rfl) ?_;conv=>whnf
 refine lM h1 ?_;conv=>whnf
 refine lM h2 ?_;conv=>whnf
 refine lM h3 ?_;conv=>whnf
 refine bD h4 (wC (bI _ _) iY) rfl (cC (bT (fun _=>rfl)) .nil) (.i _ _) ?_;conv=>whnf
 exact b8 rfl
theorem JY [MaxL] (x y:Int):SC Tryz.prog 169 [.i .i64 x,.i .i64 y] [] (.val (.i .i64 (lG x y))) []:=by
 refine cY Tryz.func169 rfl ?_;conv=>whnf
 repeat' first
  |(refine aE (fun _=>?_) (fun _=>?_)<;>conv=>whnf)
  |(refine aZ (by kernel_rfl) ?_;conv=>whnf)
  |(refine⟨_,⟨rfl,zL _,rfl,bL rfl⟩,?_⟩;conv=>whnf)
 all_goals
  refine b8 ?_;unfold lG;simp only[aK,bC,gt_iff_lt] at*;repeat' split
  all_goals first|rfl|omega
theorem PL [MaxL] (n:Int):SC Tryz.prog 255 [.i .i64 n] [] (.val (.i .i64 (lG n 0))) []:=by
 refine cY Tryz.func255 rfl ?_;conv=>whnf
 repeat' first
  |(refine aE (fun _=>?_) (fun _=>?_)<;>conv=>whnf)
  |(refine aZ (by kernel_rfl) ?_;conv=>whnf)
  |(refine⟨_,⟨rfl,zL _,rfl,bL rfl⟩,?_⟩;conv=>whnf)
 all_goals
  refine b8 ?_;unfold lG;simp only[aK,bC,gt_iff_lt] at*;repeat' split
  all_goals first|rfl|omega
theorem LX (p a b:By):Op.bytesLess (p++a) (p++b)=Op.bytesLess a b:=by
 induction p with
 |nil=>rfl
 |cons c p ih=>
  have:¬c<c:=by rw[UInt8.lt_iff_toNat_lt];omega
  show(decide (c<c)||(c==c&&Op.bytesLess (p++a) (p++b)))=_;rw[ih];simp[this]
theorem a0T {p a b:By} {x y:UInt8} (h:x≠y):oU (p++x::a) (p++y::b)=lG ((x.toNat:Int) - (y.toNat:Int)) 0:=by
 have hn:x.toNat≠y.toNat:=fun e=>h (UInt8.toNat_inj.1 e);have e1:∀(x y:UInt8) (a b:By),x≠y->Op.bytesLess (x::a) (y::b)=decide (x.toNat<y.toNat):=fun x y a b h=>by
  unfold Op.bytesLess;rw[show(x==y)=false by simpa using h,Bool.false_and,Bool.or_false];rfl
 unfold oU lG;rw[LX,LX,e1 x y a b h,e1 y x b a (iS h)];by_cases hl:x.toNat<y.toNat
 ·rw[bN hl];show(-1:Int)=_;rw[aF (by omega)]
 ·have h2:y.toNat<x.toNat:=by omega
  rw[cD hl,bN h2];show(1:Int)=_;rw[aD (by omega),aF (by omega)]
theorem OE (p a b:By) (h:a=[]∨b=[]):oU (p++a) (p++b)=lG ((a.length:Int) - (b.length:Int)) 0:=by
 unfold oU lG;rw[LX,LX];rcases h with rfl|rfl
 ·cases b with
  |nil=>rfl
  |cons c b=>
   show(if true=true then(-1:Int) else _)=_;rw[aF rfl,aF (by simp only[b5,aJ];omega)]
 ·cases a with
  |nil=>rfl
  |cons c a=>
   show(if false=true then(-1:Int) else if true=true then 1 else 0)=_;rw[aD (by decide),aF rfl,aD (by simp only[b5,aJ];omega),aF (by simp only[b5,aJ];omega)]
theorem ZS [MaxL] (a b:By) (ha:a.length<bB) (hb:b.length<bB):SC Tryz.prog 213 [.s a,.s b] [] (.val (.i .i64 (oU a b))) []:=by
 unfold bB at ha hb;refine cY Tryz.func213 rfl ?_;conv=>whnf
 refine cV (fun i:Nat=>i<=a.length/\i<=b.length/\a.take i=b.take i) (fun i=>[(0,.s a),(1,.s b),(5,.i .i64 (i:Nat))]) (fun _=>⟨[],0,[]⟩) (fun i=>a.length - i) 0 ⟨zL _,zL _,rfl⟩ ⟨rfl,rfl,rfl,trivial⟩ rfl (fun i φ0 hi=>?_);obtain⟨hia,hib,hp⟩:=hi;conv=>whnf
 refine aE (fun h1=>?_) (fun h1=>?_)<;>conv=>whnf
 ·have h1':i<a.length:=by have:=aB h1;omega
  refine aE (fun h2=>?_) (fun h2=>?_)<;>conv=>whnf
  ·have h2':i<b.length:=by have:=aB h2;omega
   have hga:a[i]?=some a[i]:=gL h1';have hgb:b[i]?=some b[i]:=gL h2';have hda:a.drop i=a[i]::a.drop (i+1):=aT h1';have hdb:b.drop i=b[i]::b.drop (i+1):=aT h2';have hta:a.take (i+1)=a.take i++[a[i]]:=by rw[bP,hga];rfl
   have htb:b.take (i+1)=b.take i++[b[i]]:=by rw[bP,hgb];rfl
   generalize a[i]=x at*;generalize b[i]=y at*;refine aZ (by kernel_rfl) ?_;(conv=>whnf);refine GNeed.mk (cN _) ⟨x,by rw[aA];exact hga,?_⟩;(conv=>whnf);refine GNeed.mk (cN _) ⟨y,by rw[aA];exact hgb,?_⟩;(conv=>whnf);refine aE (fun hne=>?_) (fun hne=>?_)<;>conv=>whnf
   ·have hxy:x≠y:=mO hne;have hc:oU a b=lG ((x.toNat:Int) - (y.toNat:Int)) 0:=by
     have e1:a=b.take i++x::a.drop (i+1):=by rw[<-hp,<-hda,e8]
     have e2:b=b.take i++y::b.drop (i+1):=by rw[<-hdb,e8]
     have h9:oU (b.take i++x::a.drop (i+1)) (b.take i++y::b.drop (i+1))=_:=a0T hxy;rw[<-e1,<-e2] at h9;exact h9
    rw[hc];have hx:=bX x;have hy:=bX y;refine aZ (by kernel_rfl) ?_;(conv=>whnf);refine GNeed.mk (cN _) ⟨x,by rw[aA];exact hga,?_⟩;(conv=>whnf);refine GNeed.mk (cN _) ⟨y,by rw[aA];exact hgb,?_⟩;(conv=>whnf);refine bD (PL _) (wR _) rfl (fun _=>rfl) (.i _ _) ?_;(conv=>whnf);refine b8 ?_;rw[bV (n:=(x.toNat:Int)) (by omega) (by omega),bV (n:=(y.toNat:Int)) (by omega) (by omega),bV (by omega) (by omega)]
   ·have hxy:x=y:=lN hne;exact⟨a.length - (i+1),(by show _<a.length - i;omega),i+1,⟨h1',h2',by rw[hta,htb,hp,hxy]⟩,rfl,⟨rfl,rfl,b7 (by omega),trivial⟩,rfl⟩
  ·have hib2:i=b.length:=by have:=aC h2;omega
   have hc:oU a b=lG ((a.length:Int) - (b.length:Int)) 0:=by
    have e1:a=b++a.drop i:=by
     conv=>lhs;rw[<-e8 i a,hp,hib2,b6]
     rw[hib2]
    have h9:=OE b (a.drop i) [] (.inr rfl);rw[gC,<-e1] at h9;rw[h9];congr 1;rw[d6];simp;omega
   rw[hc];have wl:IntKind.i64.wrap ((a.length:Int) - (b.length:Int))=(a.length:Int) - (b.length:Int):=bV (by omega) (by omega);refine bD (PL (IntKind.i64.wrap ((a.length:Int) - (b.length:Int)))) (wR _) rfl (fun _=>rfl) (.i _ _) ?_;(conv=>whnf);exact b8 (by rw[wl])
 ·have hia2:i=a.length:=by have:=aC h1;omega
  have hc:oU a b=lG ((a.length:Int) - (b.length:Int)) 0:=by
   have e1:b=a++b.drop i:=by
    conv=>lhs;rw[<-e8 i b,<-hp,hia2,b6]
    rw[hia2]
   have h9:=OE a [] (b.drop i) (.inl rfl);rw[gC,<-e1] at h9;rw[h9];congr 1;rw[d6];simp;omega
  rw[hc];have wl:IntKind.i64.wrap ((a.length:Int) - (b.length:Int))=(a.length:Int) - (b.length:Int):=bV (by omega) (by omega);refine bD (PL (IntKind.i64.wrap ((a.length:Int) - (b.length:Int)))) (wR _) rfl (fun _=>rfl) (.i _ _) ?_;conv=>whnf
  exact b8 (by rw[wl])
theorem FM [MaxL] (a b:Val) (ha:a.s.length<bB) (hb:b.s.length<bB):SC Tryz.prog 168 [a.gv,b.gv] [] (.val (.i .i64 (o7 a b))) []:=by
 obtain⟨k1,n1,s1⟩:=a;obtain⟨k2,n2,s2⟩:=b;have h1:=JY k1 k2;have h2:=JY n1 n2;have h3:=ZS s1 s2 ha hb;unfold o7;simp only;generalize lG k1 k2=x at*;generalize lG n1 n2=y at*;generalize oU s1 s2=z at*;refine cY Tryz.func168 rfl ?_;conv=>whnf
 refine lM h1 ?_;conv=>whnf
 refine aE (fun e1=>?_) (fun e1=>?_)<;>conv=>whnf
 ·exact b8 (by rw[aF (by simpa using e1)])
 refine lM h2 ?_;conv=>whnf
 refine aE (fun e2=>?_) (fun e2=>?_)<;>conv=>whnf
 ·exact b8 (by rw[aD (by simpa using e1),aF (by simpa using e2)])
 refine lM h3 ?_;conv=>whnf
 exact b8 (by rw[aD (by simpa using e1),aD (by simpa using e2)])
