/-
  A part of the proof of SchemaChosen.
-/
import Derived.Test.YtcfgfkkhpdlhpaaGreatDoorR33
set_option linter.all false
set_option maxRecDepth 100000
namespace Go.Proofs.YtcfgfkkhpdlhpaaGreatDoor
open Go.RowKit
theorem lG [MaxL] (n lo hi:Int):SC Tryz.prog 112 [.i .i64 n,.i .i64 lo,.i .i64 hi] [] (.val (.b (uR n lo hi))) []:=by
 unfold uR;refine cX Tryz.func112 rfl ?_;conv=>whnf
 repeat' first
  |(refine aF (fun _=>?_) (fun _=>?_)<;>conv=>whnf)
  |(refine b6 (by kernel_rfl) ?_;conv=>whnf)
  |(refine⟨_,⟨rfl,zL _,rfl,bL rfl⟩,?_⟩;conv=>whnf)
 all_goals (rename_i h;refine bX ?_;simp at h⊢;omega)
def NK (kd:By) (i:Nat) (e:Int):GV:=.ifc 82 (.agg [.s kd,.i .i64 (i:Nat),.i .i64 e])
instance [MaxL] {kd:By} {i:Nat} {e:Int}:KG (NK kd i e):=⟨fun _=>rfl⟩
def sB (kd:By) (i:Nat) (e:Int):GRes:=if e=0 then .val (.tup []) else .panic (NK kd i e)
theorem LZ [MaxL] (e:Nat->Nat) (kd:By) (i:Nat) (x:Int):(sB kd i x).ren e=sB kd i x:=by unfold sB;split<;>rfl
instance [MaxL] {e:Nat->Nat} {kd:By} {i:Nat} {x:Int}:RR e (sB kd i x) (sB kd i x):=⟨LZ e kd i x⟩
instance [MaxL] {n:Nat} {kd:By} {i:Nat} {x:Int}:FR n (sB kd i x):=⟨fun e _=>LZ e kd i x⟩
theorem uH [MaxL] (kd:By) (i:Nat) (e:Int):SC Tryz.prog 113 [.s kd,.i .i64 (i:Nat),.i .i64 e] [] (.panic (NK kd i e)) []:=by
 refine cX Tryz.func113 rfl ?_;conv=>whnf
 exact dH 0
abbrev k8 (s:Sch) (m:List By):List GObj:=[.box 87 [.sl .none (AP s.ar),.sl .none (yF s.rc),.sl .none (z7 s.st),.mp 1],.mp (D9 m)]
theorem kM [MaxL] (w:Bool) (e:Int) (i:Nat) (he:w=true->e≠0):SC Tryz.prog 115 [.b w,.i .i64 e,.ptr 0 0] [.box 3 [.i .i64 (i:Nat)]] (sB l6 i (if w then e else 0)) [.box 3 [.i .i64 (i:Nat)]]:=by
 cases w with
 |false=>
  refine cX Tryz.func115 rfl ?_;conv=>whnf
  exact dH 1
 |true=>
  rw[aG rfl];unfold sB;rw[aD (he rfl)];refine cX Tryz.func115 rfl ?_;conv=>whnf
  refine cS [] (uH l6 i e) ?_;conv=>whnf
  exact dH 1
theorem gF [MaxL] (w:Bool) (e:Int) (i:Nat) (he:w=true->e≠0):SC Tryz.prog 122 [.b w,.i .i64 e,.ptr 0 0] [.box 3 [.i .i64 (i:Nat)]] (sB qM i (if w then e else 0)) [.box 3 [.i .i64 (i:Nat)]]:=by
 cases w with
 |false=>
  refine cX Tryz.func122 rfl ?_;conv=>whnf
  exact dH 1
 |true=>
  rw[aG rfl];unfold sB;rw[aD (he rfl)];refine cX Tryz.func122 rfl ?_;conv=>whnf
  refine cS [] (uH qM i e) ?_;conv=>whnf
  exact dH 1
theorem Q8 [MaxL] (s:Sch) (m:List By) (kd:By) (i:Nat) (n:By):SC Tryz.prog 114 [.ptr 0 0,.s kd,.i .i64 (i:Nat),.s n] (k8 s m) (sB kd i (kF m n 0)) (k8 s (if kF m n 0=0 then m++[n] else m)):=by
 have hn:=KU n;generalize hE:kF m n 0=E;unfold kF dW at hE;generalize fP n=b at*;refine cX Tryz.func114 rfl ?_;conv=>whnf
 refine cP hn ?_;conv=>whnf
 repeat' first
  |(refine aF (fun _=>?_) (fun _=>?_)<;>conv=>whnf)
  |(refine b6 (by kernel_rfl) ?_;conv=>whnf)
  |(refine⟨_,⟨rfl,zL _,rfl,bL rfl⟩,?_⟩;conv=>whnf)
 ·have:E=1:=by rw[<-hE];simp[*]
  subst this;refine cS [] (uH kd i 1) ?_;conv=>whnf
  show Owes _ _ (k8 s m) _ _;exact dH 2
 ·rename_i hb hs;have:E=1:=by rw[<-hE,show(n==XY)=true from hs];simp
  subst this;refine cS [] (uH kd i 1) ?_;conv=>whnf
  show Owes _ _ (k8 s m) _ _;exact dH 2
 ·rename_i hb hs;rw[hb,show(n==XY)=false from hs] at hE;cases hm:m.contains n with
  |true=>
   rw[hm] at hE;subst hE;obtain⟨k,hk⟩:=YW 0 hm;refine⟨some (k,.b true),hk,?_⟩;(conv=>whnf);refine cS [] (uH kd i 6) ?_;(conv=>whnf);show Owes _ _ (k8 s m) _ _;exact dH 2
  |false=>
   rw[hm] at hE;subst hE;refine⟨none,W0 hm,?_⟩;(conv=>whnf);refine⟨zL _,none,W0 hm,?_⟩;(conv=>whnf);show Owes _ _ [_,.mp (D9 (m++[n]))] _ _;have e:D9 (m++[n])=D9 m++[(.s n,.b true)]:=by unfold D9;rw[cZ];rfl
   rw[e];exact dH 2
theorem F5 [MaxL] {s:Sch} {m:List By} {kd:By} {i:Nat} {n:By} (h:kF m n 0=0):SC Tryz.prog 114 [.ptr 0 0,.s kd,.i .i64 (i:Nat),.s n] (k8 s m) (.val (.tup [])) (k8 s (m++[n])):=by
 have:=Q8 s m kd i n;rw[h] at this;exact this
theorem F6 [MaxL] {s:Sch} {m:List By} {kd:By} {i:Nat} {n:By} (h:kF m n 0≠0):SC Tryz.prog 114 [.ptr 0 0,.s kd,.i .i64 (i:Nat),.s n] (k8 s m) (.panic (NK kd i (kF m n 0))) (k8 s m):=by
 have:=Q8 s m kd i n;unfold sB at this;rw[aD h,aD h] at this;exact this
theorem JK (m:List By) (n:By) (b:Int):kF m n b=if kF m n 0=0 then b else kF m n 0:=by
 unfold kF dW;cases(!fP n||n==XY)<;>cases m.contains n<;>simp
def vK (e:Int) (s:List GObj):List GObj:=if e=0 then s else[.dead,.dead]
def l5 (s:Sch):Nat×Int:=if !uR s.ar.length 1 6 then(0,4) else(eR (fun i a=>mE ((dE s).take i) a) 0 s.ar).getD (0,0)
theorem p9 {kd:By} {i:Nat} {e:Int} (h:e≠0):sB kd i e=.panic (NK kd i e):=aD h
theorem zP [MaxL] {s:List GObj} {e:Int} (h:e≠0):vK e s=[.dead,.dead]:=aD h
theorem nO {α:Type} {f:Nat->α->Int} {l:List α} {i:Nat} {y:α} (hy:l[i]?=some y) (hn:f i y≠0) (h:∀j z,j<i->l[j]?=some z->f j z=0):eR f 0 l=some (i,f i y):=by
 have:=II (f:=f) (n:=0) hy (by rw[bH];exact hn) fun j z hj hz=>by rw[bH];exact h j z hj hz
 rwa [bH] at this
theorem nN {α:Type} {f:Nat->α->Int} {l:List α} {n:Nat} (hn:l.length<=n) (h:∀j z,j<n->l[j]?=some z->f j z=0):eR f 0 l=none:=IG fun j z hz=>by
 rw[bH];exact h j z (cJ (List.getElem?_eq_some_iff.1 hz).1 hn) hz
theorem kC {α:Type} {f:Nat->α->Int} {l:List α} {i:Nat} {y:α} (hy:l[i]?=some y) (h0:f i y=0) (h:∀j z,j<i->l[j]?=some z->f j z=0):∀j z,j<i+1->l[j]?=some z->f j z=0:=fun j z hj hz=>by
 rcases Nat.lt_or_eq_of_le (Nat.le_of_lt_succ hj) with h1|rfl
 ·exact h j z h1 hz
 ·rw[hy] at hz;cases hz;exact h0
theorem yM {α:Type} (f:α->By) {l:List α} {i:Nat} {y:α} (hy:l[i]?=some y):(l.map f).take (i+1)=(l.map f).take i++[f y]:=by rw[bR,aM,hy];rfl
theorem Y9 [MaxL] (s:Sch) (hl:s.ar.length<bB):SC Tryz.prog 51 [.ptr 0 0] (k8 s []) (sB tY (l5 s).1 (l5 s).2) (vK (l5 s).2 (k8 s (dE s))):=by
 unfold bB at hl;have hlen:(AP s.ar).length=s.ar.length:=i8 _ _;generalize hX:l5 s=X;obtain⟨xi,xe⟩:=X;unfold l5 at hX;have hh:(vK xe (k8 s (dE s))).all GObj.notHeld=true:=by unfold vK;split<;>rfl
 have hs:(k8 s []).length<=(vK xe (k8 s (dE s))).length:=by unfold vK;split<;>exact rL _
 refine SC.of_gwpD 2 pU mixed Tryz.func51 rfl (bL rfl) hs hh ?_;conv=>whnf
 have hw:=lG (AP s.ar).length 1 6;refine cP hw ?_;conv=>whnf
 refine aF (fun h=>?_) (fun h=>?_)<;>conv=>whnf
 ·rw[hlen] at h;rw[h,aG rfl] at hX;cases hX;refine cS [] (uH tY 0 4) ?_;conv=>whnf
  exact ZB 2
 rw[hlen] at h;rw[h,aD (by simp)] at hX;refine dB 2 s.ar.length (fun i _=>∀j z,j<i->s.ar[j]?=some z->mE ((dE s).take j) z=0) (fun i _=>[(0,.ptr 0 0),(17,.sl .none (AP s.ar)),(18,.i .i64 (AP s.ar).length),(19,.i .i64 (i:Nat))]) (fun i (_:Unit)=>k8 s ((dE s).take i)) [] () (fun j z h=>absurd h (dG j)) (fun i _ φ0 hi hok=>?_);conv=>whnf
 refine aF (fun h=>?_) (fun h=>?_)<;>conv=>whnf
 rotate_left
 ·have hie:i=s.ar.length:=by have:=aC h;rw[hlen] at this;omega
  rw[nN (Nat.le_of_eq hie.symm) hok] at hX;cases hX;have hm:(dE s).take i=dE s:=dI (by rw[hie];simp[dE]);show OwesD 2 _ _ (k8 s (dE s)) _ _;exact .val (dH 2 (ho:=aQ (fun m=>k8 s m) hm))
 have hlt:i<s.ar.length:=by have:=aB h;rw[hlen] at this;omega
 obtain⟨y,hy⟩:∃y,s.ar[i]?=some y:=⟨s.ar[i],gL hlt⟩;have hX':=fun hn=>nO (f:=fun i a=>mE ((dE s).take i) a) hy hn hok;have hE:mE ((dE s).take i) y=kF ((dE s).take i) y.name (dW (!uR y.pages 1 200) 7 0):=rfl;rw[JK] at hE;refine ix (cM hy) ⟨rfl,?_⟩;conv=>whnf
 refine st ?_;conv=>whnf
 by_cases hn:kF ((dE s).take i) y.name 0=0
 ·rw[aG hn] at hE;refine cG [0,1] (F5 (kd:=tY) (i:=i) hn) ?_;conv=>whnf
  refine cP (lG y.pages 1 200) ?_;conv=>whnf
  refine aF (fun h=>?_) (fun h=>?_)<;>conv=>whnf
  ·rw[h] at hE;replace hE:mE ((dE s).take i) y=7:=hE;rw[hX' (by rw[hE];decide),hE] at hX;obtain⟨rfl,rfl⟩:=Prod.mk.inj hX;refine cS [] (uH tY i 7) ?_;(conv=>whnf);exact ZB 2
  ·rw[h] at hE;exact nx () hlt ⟨hlt,kC hy hE hok⟩ (aQ (fun m=>k8 s m) (yM (fun a:Ar=>a.name) hy).symm)
 ·rw[aD hn] at hE;rw[hX' (by rw[hE];exact hn),hE] at hX;obtain⟨rfl,rfl⟩:=Prod.mk.inj hX;refine cG [0,1] (F6 (kd:=tY) (i:=i) hn) ?_;conv=>whnf
  rw[p9 hn,zP hn];exact ZB 2
def oI (x y:Int):Int:=if x<y then -1 else if y<x then 1 else 0
def DC (a b:By):Int:=if Op.bytesLess a b then -1 else if Op.bytesLess b a then 1 else 0
def N9 (a b:Val):Int:=if oI a.k b.k≠0 then oI a.k b.k else if oI a.n b.n≠0 then oI a.n b.n else DC a.s b.s
theorem a1Q [MaxL] (x:Int):SC Tryz.prog 173 [.i .i64 x] [] (.val (.b false)) []:=by
 refine cX Tryz.func173 rfl ?_;conv=>whnf
 exact bX (by simp)
theorem a2o [MaxL] (x y:Int):SC Tryz.prog 110 [.i .i64 x,.i .i64 y] [] (.val (.i .i64 (oI x y))) []:=by
 refine cX Tryz.func110 rfl ?_;conv=>whnf
 repeat' first
  |(refine aF (fun _=>?_) (fun _=>?_)<;>conv=>whnf)
  |(refine b6 (by kernel_rfl) ?_;conv=>whnf)
  |(refine⟨_,⟨rfl,zL _,rfl,bL rfl⟩,?_⟩;conv=>whnf)
  |(refine lX (a1Q _) ?_;conv=>whnf)
 all_goals
  refine bA ?_;unfold oI;simp only[aK,bG,gt_iff_lt] at*;repeat' split
  all_goals first|rfl|omega
theorem a1Y (a:By):Op.bytesLess a a=false:=by
 induction a with
 |nil=>rfl
 |cons c a ih=>
  unfold Op.bytesLess;rw[ih];simp
theorem J5 [MaxL] (x y:Int):SC Tryz.prog 169 [.i .i64 x,.i .i64 y] [] (.val (.i .i64 (oI x y))) []:=by
 refine cX Tryz.func169 rfl ?_;conv=>whnf
 repeat' first
  |(refine aF (fun _=>?_) (fun _=>?_)<;>conv=>whnf)
  |(refine b6 (by kernel_rfl) ?_;conv=>whnf)
  |(refine⟨_,⟨rfl,zL _,rfl,bL rfl⟩,?_⟩;conv=>whnf)
 all_goals
  refine bA ?_;unfold oI;simp only[aK,bG,gt_iff_lt] at*;repeat' split
  all_goals first|rfl|omega
theorem OG [MaxL] (n:Int):SC Tryz.prog 255 [.i .i64 n] [] (.val (.i .i64 (oI n 0))) []:=by
 refine cX Tryz.func255 rfl ?_;conv=>whnf
 repeat' first
  |(refine aF (fun _=>?_) (fun _=>?_)<;>conv=>whnf)
  |(refine b6 (by kernel_rfl) ?_;conv=>whnf)
  |(refine⟨_,⟨rfl,zL _,rfl,bL rfl⟩,?_⟩;conv=>whnf)
 all_goals
  refine bA ?_;unfold oI;simp only[aK,bG,gt_iff_lt] at*;repeat' split
  all_goals first|rfl|omega
theorem KZ (p a b:By):Op.bytesLess (p++a) (p++b)=Op.bytesLess a b:=by
 induction p with
 |nil=>rfl
 |cons c p ih=>
  have:¬c<c:=by rw[UInt8.lt_iff_toNat_lt];omega
  show(decide (c<c)||(c==c&&Op.bytesLess (p++a) (p++b)))=_;rw[ih];simp[this]
theorem ZH {p a b:By} {x y:UInt8} (h:x≠y):DC (p++x::a) (p++y::b)=oI ((x.toNat:Int) - (y.toNat:Int)) 0:=by
 have hn:x.toNat≠y.toNat:=fun e=>h (UInt8.toNat_inj.1 e);have e1:∀(x y:UInt8) (a b:By),x≠y->Op.bytesLess (x::a) (y::b)=decide (x.toNat<y.toNat):=fun x y a b h=>by
  unfold Op.bytesLess;rw[show(x==y)=false by simpa using h,Bool.false_and,Bool.or_false];rfl
 unfold DC oI;rw[KZ,KZ,e1 x y a b h,e1 y x b a (iR h)];by_cases hl:x.toNat<y.toNat
 ·rw[bM hl];show(-1:Int)=_;rw[aG (by omega)]
 ·have h2:y.toNat<x.toNat:=by omega
  rw[cE hl,bM h2];show(1:Int)=_;rw[aD (by omega),aG (by omega)]
theorem NA (p a b:By) (h:a=[]∨b=[]):DC (p++a) (p++b)=oI ((a.length:Int) - (b.length:Int)) 0:=by
 unfold DC oI;rw[KZ,KZ];rcases h with rfl|rfl
 ·cases b with
  |nil=>rfl
  |cons c b=>
   show(if true=true then(-1:Int) else _)=_;rw[aG rfl,aG (by simp only[b4,aJ];omega)]
 ·cases a with
  |nil=>rfl
  |cons c a=>
   show(if false=true then(-1:Int) else if true=true then 1 else 0)=_;rw[aD (by decide),aG rfl,aD (by simp only[b4,aJ];omega),aG (by simp only[b4,aJ];omega)]
theorem YG [MaxL] (a b:By) (ha:a.length<bB) (hb:b.length<bB):SC Tryz.prog 213 [.s a,.s b] [] (.val (.i .i64 (DC a b))) []:=by
 unfold bB at ha hb;refine cX Tryz.func213 rfl ?_;conv=>whnf
 refine cW (fun i:Nat=>i<=a.length/\i<=b.length/\a.take i=b.take i) (fun i=>[(0,.s a),(1,.s b),(5,.i .i64 (i:Nat))]) (fun _=>⟨[],0,[]⟩) (fun i=>a.length - i) 0 ⟨zL _,zL _,rfl⟩ ⟨rfl,rfl,rfl,trivial⟩ rfl (fun i φ0 hi=>?_);obtain⟨hia,hib,hp⟩:=hi;conv=>whnf
 refine aF (fun h1=>?_) (fun h1=>?_)<;>conv=>whnf
 ·have h1':i<a.length:=by have:=aB h1;omega
  refine aF (fun h2=>?_) (fun h2=>?_)<;>conv=>whnf
  ·have h2':i<b.length:=by have:=aB h2;omega
   have hga:a[i]?=some a[i]:=gL h1';have hgb:b[i]?=some b[i]:=gL h2';have hda:a.drop i=a[i]::a.drop (i+1):=aT h1';have hdb:b.drop i=b[i]::b.drop (i+1):=aT h2';have hta:a.take (i+1)=a.take i++[a[i]]:=by rw[bR,hga];rfl
   have htb:b.take (i+1)=b.take i++[b[i]]:=by rw[bR,hgb];rfl
   generalize a[i]=x at*;generalize b[i]=y at*;refine b6 (by kernel_rfl) ?_;(conv=>whnf);refine GNeed.mk (cN _) ⟨x,by rw[aA];exact hga,?_⟩;(conv=>whnf);refine GNeed.mk (cN _) ⟨y,by rw[aA];exact hgb,?_⟩;(conv=>whnf);refine aF (fun hne=>?_) (fun hne=>?_)<;>conv=>whnf
   ·have hxy:x≠y:=mF hne;have hc:DC a b=oI ((x.toNat:Int) - (y.toNat:Int)) 0:=by
     have e1:a=b.take i++x::a.drop (i+1):=by rw[<-hp,<-hda,dZ]
     have e2:b=b.take i++y::b.drop (i+1):=by rw[<-hdb,dZ]
     have h9:DC (b.take i++x::a.drop (i+1)) (b.take i++y::b.drop (i+1))=_:=ZH hxy;rw[<-e1,<-e2] at h9;exact h9
    rw[hc];have hx:=bW x;have hy:=bW y;refine b6 (by kernel_rfl) ?_;(conv=>whnf);refine GNeed.mk (cN _) ⟨x,by rw[aA];exact hga,?_⟩;(conv=>whnf);refine GNeed.mk (cN _) ⟨y,by rw[aA];exact hgb,?_⟩;(conv=>whnf);refine bD (OG _) (wR _) rfl (fun _=>rfl) (.i _ _) ?_;(conv=>whnf);refine bA ?_;rw[bU (n:=(x.toNat:Int)) (by omega) (by omega),bU (n:=(y.toNat:Int)) (by omega) (by omega),bU (by omega) (by omega)]
   ·have hxy:x=y:=lC hne;exact⟨a.length - (i+1),(by show _<a.length - i;omega),i+1,⟨h1',h2',by rw[hta,htb,hp,hxy]⟩,rfl,⟨rfl,rfl,b7 (by omega),trivial⟩,rfl⟩
  ·have hib2:i=b.length:=by have:=aC h2;omega
   have hc:DC a b=oI ((a.length:Int) - (b.length:Int)) 0:=by
    have e1:a=b++a.drop i:=by
     conv=>lhs;rw[<-dZ i a,hp,hib2,b5]
     rw[hib2]
    have h9:=NA b (a.drop i) [] (.inr rfl);rw[gC,<-e1] at h9;rw[h9];congr 1;rw[cV];simp;omega
   rw[hc];have wl:IntKind.i64.wrap ((a.length:Int) - (b.length:Int))=(a.length:Int) - (b.length:Int):=bU (by omega) (by omega);refine bD (OG (IntKind.i64.wrap ((a.length:Int) - (b.length:Int)))) (wR _) rfl (fun _=>rfl) (.i _ _) ?_;(conv=>whnf);exact bA (by rw[wl])
 ·have hia2:i=a.length:=by have:=aC h1;omega
  have hc:DC a b=oI ((a.length:Int) - (b.length:Int)) 0:=by
   have e1:b=a++b.drop i:=by
    conv=>lhs;rw[<-dZ i b,<-hp,hia2,b5]
    rw[hia2]
   have h9:=NA a [] (b.drop i) (.inl rfl);rw[gC,<-e1] at h9;rw[h9];congr 1;rw[cV];simp;omega
  rw[hc];have wl:IntKind.i64.wrap ((a.length:Int) - (b.length:Int))=(a.length:Int) - (b.length:Int):=bU (by omega) (by omega);refine bD (OG (IntKind.i64.wrap ((a.length:Int) - (b.length:Int)))) (wR _) rfl (fun _=>rfl) (.i _ _) ?_;conv=>whnf
  exact bA (by rw[wl])
theorem OJ [MaxL] (a b:Val) (ha:a.s.length<bB) (hb:b.s.length<bB):SC Tryz.prog 168 [a.gv,b.gv] [] (.val (.i .i64 (N9 a b))) []:=by
 obtain⟨k1,n1,s1⟩:=a;obtain⟨k2,n2,s2⟩:=b;have h1:=J5 k1 k2;have h2:=J5 n1 n2;have h3:=YG s1 s2 ha hb;unfold N9;simp only;generalize oI k1 k2=x at*;generalize oI n1 n2=y at*;generalize DC s1 s2=z at*;refine cX Tryz.func168 rfl ?_;conv=>whnf
 refine lX h1 ?_;conv=>whnf
 refine aF (fun e1=>?_) (fun e1=>?_)<;>conv=>whnf
 ·exact bA (by rw[aG (by simpa using e1)])
 refine lX h2 ?_;conv=>whnf
 refine aF (fun e2=>?_) (fun e2=>?_)<;>conv=>whnf
 ·exact bA (by rw[aD (by simpa using e1),aG (by simpa using e2)])
 refine lX h3 ?_;conv=>whnf
 exact bA (by rw[aD (by simpa using e1),aD (by simpa using e2)])
