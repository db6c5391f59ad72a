/-
  A part of the proof of SchemaMembers.
-/
import Derived.Test.YtcfgfkkhpdlhpaaGreatDoorQ33
set_option linter.all false
set_option maxRecDepth 100000
namespace Go.Proofs.YtcfgfkkhpdlhpaaGreatDoor
open Go.RowKit
theorem lG [MaxL] (n lo hi:Int):SC Tryz.prog 112 [.i .i64 n,.i .i64 lo,.i .i64 hi] [] (.val (.b (vD n lo hi))) []:=by
 unfold vD;refine cW Tryz.func112 rfl ?_;conv=>whnf
 repeat' first
  |(refine aF (fun _=>?_) (fun _=>?_)<;>conv=>whnf)
  |(refine bC (by kernel_rfl) ?_;conv=>whnf)
  |(refine⟨_,⟨rfl,zL _,rfl,bL rfl⟩,?_⟩;conv=>whnf)
 all_goals (rename_i h;refine cQ ?_;simp at h⊢;omega)
def MY (kd:By) (i:Nat) (e:Int):GV:=.ifc 82 (.agg [.s kd,.i .i64 (i:Nat),.i .i64 e])
instance [MaxL] {kd:By} {i:Nat} {e:Int}:KG (MY kd i e):=⟨fun _=>rfl⟩
def s5 (kd:By) (i:Nat) (e:Int):GRes:=if e=0 then .val (.tup []) else .panic (MY kd i e)
theorem LF [MaxL] (e:Nat->Nat) (kd:By) (i:Nat) (x:Int):(s5 kd i x).ren e=s5 kd i x:=by unfold s5;split<;>rfl
instance [MaxL] {e:Nat->Nat} {kd:By} {i:Nat} {x:Int}:RR e (s5 kd i x) (s5 kd i x):=⟨LF e kd i x⟩
instance [MaxL] {n:Nat} {kd:By} {i:Nat} {x:Int}:FR n (s5 kd i x):=⟨fun e _=>LF e kd i x⟩
theorem uC [MaxL] (kd:By) (i:Nat) (e:Int):SC Tryz.prog 113 [.s kd,.i .i64 (i:Nat),.i .i64 e] [] (.panic (MY kd i e)) []:=by
 refine cW Tryz.func113 rfl ?_;conv=>whnf
 exact dH 0
abbrev k9 (s:Sch) (m:List By):List GObj:=[.box 87 [.sl .none (AA s.ar),.sl .none (yA s.rc),.sl .none (vF s.st),.mp 1],.mp (CV m)]
theorem kM [MaxL] (w:Bool) (e:Int) (i:Nat) (he:w=true->e≠0):SC Tryz.prog 115 [.b w,.i .i64 e,.ptr 0 0] [.box 3 [.i .i64 (i:Nat)]] (s5 l6 i (if w then e else 0)) [.box 3 [.i .i64 (i:Nat)]]:=by
 cases w with
 |false=>
  refine cW Tryz.func115 rfl ?_;conv=>whnf
  exact dH 1
 |true=>
  rw[aG rfl];unfold s5;rw[aE (he rfl)];refine cW Tryz.func115 rfl ?_;conv=>whnf
  refine cS [] (uC l6 i e) ?_;conv=>whnf
  exact dH 1
theorem gA [MaxL] (w:Bool) (e:Int) (i:Nat) (he:w=true->e≠0):SC Tryz.prog 122 [.b w,.i .i64 e,.ptr 0 0] [.box 3 [.i .i64 (i:Nat)]] (s5 qI i (if w then e else 0)) [.box 3 [.i .i64 (i:Nat)]]:=by
 cases w with
 |false=>
  refine cW Tryz.func122 rfl ?_;conv=>whnf
  exact dH 1
 |true=>
  rw[aG rfl];unfold s5;rw[aE (he rfl)];refine cW Tryz.func122 rfl ?_;conv=>whnf
  refine cS [] (uC qI i e) ?_;conv=>whnf
  exact dH 1
theorem PQ [MaxL] (s:Sch) (m:List By) (kd:By) (i:Nat) (n:By):SC Tryz.prog 114 [.ptr 0 0,.s kd,.i .i64 (i:Nat),.s n] (k9 s m) (s5 kd i (kX m n 0)) (k9 s (if kX m n 0=0 then m++[n] else m)):=by
 have hn:=K6 n;generalize hE:kX m n 0=E;unfold kX dZ at hE;generalize fN n=b at*;refine cW Tryz.func114 rfl ?_;conv=>whnf
 refine cP hn ?_;conv=>whnf
 repeat' first
  |(refine aF (fun _=>?_) (fun _=>?_)<;>conv=>whnf)
  |(refine bC (by kernel_rfl) ?_;conv=>whnf)
  |(refine⟨_,⟨rfl,zL _,rfl,bL rfl⟩,?_⟩;conv=>whnf)
 ·have:E=1:=by rw[<-hE];simp[*]
  subst this;refine cS [] (uC kd i 1) ?_;conv=>whnf
  show Owes _ _ (k9 s m) _ _;exact dH 2
 ·rename_i hb hs;have:E=1:=by rw[<-hE,show(n==XA)=true from hs];simp
  subst this;refine cS [] (uC kd i 1) ?_;conv=>whnf
  show Owes _ _ (k9 s m) _ _;exact dH 2
 ·rename_i hb hs;rw[hb,show(n==XA)=false from hs] at hE;cases hm:m.contains n with
  |true=>
   rw[hm] at hE;subst hE;obtain⟨k,hk⟩:=Y1 0 hm;refine⟨some (k,.b true),hk,?_⟩;(conv=>whnf);refine cS [] (uC kd i 6) ?_;(conv=>whnf);show Owes _ _ (k9 s m) _ _;exact dH 2
  |false=>
   rw[hm] at hE;subst hE;refine⟨none,VE hm,?_⟩;(conv=>whnf);refine⟨zL _,none,VE hm,?_⟩;(conv=>whnf);show Owes _ _ [_,.mp (CV (m++[n]))] _ _;have e:CV (m++[n])=CV m++[(.s n,.b true)]:=by unfold CV;rw[d9];rfl
   rw[e];exact dH 2
theorem EP [MaxL] {s:Sch} {m:List By} {kd:By} {i:Nat} {n:By} (h:kX m n 0=0):SC Tryz.prog 114 [.ptr 0 0,.s kd,.i .i64 (i:Nat),.s n] (k9 s m) (.val (.tup [])) (k9 s (m++[n])):=by
 have:=PQ s m kd i n;rw[h] at this;exact this
theorem EQ [MaxL] {s:Sch} {m:List By} {kd:By} {i:Nat} {n:By} (h:kX m n 0≠0):SC Tryz.prog 114 [.ptr 0 0,.s kd,.i .i64 (i:Nat),.s n] (k9 s m) (.panic (MY kd i (kX m n 0))) (k9 s m):=by
 have:=PQ s m kd i n;unfold s5 at this;rw[aE h,aE h] at this;exact this
theorem IZ (m:List By) (n:By) (b:Int):kX m n b=if kX m n 0=0 then b else kX m n 0:=by
 unfold kX dZ;cases(!fN n||n==XA)<;>cases m.contains n<;>simp
def vH (e:Int) (s:List GObj):List GObj:=if e=0 then s else[.dead,.dead]
def l5 (s:Sch):Nat×Int:=if !vD s.ar.length 1 6 then(0,4) else(eP (fun i a=>mD ((dD s).take i) a) 0 s.ar).getD (0,0)
theorem p9 {kd:By} {i:Nat} {e:Int} (h:e≠0):s5 kd i e=.panic (MY kd i e):=aE h
theorem zG [MaxL] {s:List GObj} {e:Int} (h:e≠0):vH e s=[.dead,.dead]:=aE h
theorem nS {α:Type} {f:Nat->α->Int} {l:List α} {i:Nat} {y:α} (hy:l[i]?=some y) (hn:f i y≠0) (h:∀j z,j<i->l[j]?=some z->f j z=0):eP f 0 l=some (i,f i y):=by
 have:=I2 (f:=f) (n:=0) hy (by rw[bD];exact hn) fun j z hj hz=>by rw[bD];exact h j z hj hz
 rwa [bD] at this
theorem nR {α:Type} {f:Nat->α->Int} {l:List α} {n:Nat} (hn:l.length<=n) (h:∀j z,j<n->l[j]?=some z->f j z=0):eP f 0 l=none:=I1 fun j z hz=>by
 rw[bD];exact h j z (bW (List.getElem?_eq_some_iff.1 hz).1 hn) hz
theorem kC {α:Type} {f:Nat->α->Int} {l:List α} {i:Nat} {y:α} (hy:l[i]?=some y) (h0:f i y=0) (h:∀j z,j<i->l[j]?=some z->f j z=0):∀j z,j<i+1->l[j]?=some z->f j z=0:=fun j z hj hz=>by
 rcases Nat.lt_or_eq_of_le (Nat.le_of_lt_succ hj) with h1|rfl
 ·exact h j z h1 hz
 ·rw[hy] at hz;cases hz;exact h0
theorem yG {α:Type} (f:α->By) {l:List α} {i:Nat} {y:α} (hy:l[i]?=some y):(l.map f).take (i+1)=(l.map f).take i++[f y]:=by rw[cH,aL,hy];rfl
theorem XL [MaxL] (s:Sch) (hl:s.ar.length<bH):SC Tryz.prog 51 [.ptr 0 0] (k9 s []) (s5 tU (l5 s).1 (l5 s).2) (vH (l5 s).2 (k9 s (dD s))):=by
 unfold bH at hl;have hlen:(AA s.ar).length=s.ar.length:=gV _ _;generalize hX:l5 s=X;obtain⟨xi,xe⟩:=X;unfold l5 at hX;have hh:(vH xe (k9 s (dD s))).all GObj.notHeld=true:=by unfold vH;split<;>rfl
 have hs:(k9 s []).length<=(vH xe (k9 s (dD s))).length:=by unfold vH;split<;>exact rL _
 refine SC.of_gwpD 2 oQ mixed Tryz.func51 rfl (bL rfl) hs hh ?_;conv=>whnf
 have hw:=lG (AA s.ar).length 1 6;refine cP hw ?_;conv=>whnf
 refine aF (fun h=>?_) (fun h=>?_)<;>conv=>whnf
 ·rw[hlen] at h;rw[h,aG rfl] at hX;cases hX;refine cS [] (uC tU 0 4) ?_;conv=>whnf
  exact YH 2
 rw[hlen] at h;rw[h,aE (by simp)] at hX;refine dF 2 s.ar.length (fun i _=>∀j z,j<i->s.ar[j]?=some z->mD ((dD s).take j) z=0) (fun i _=>[(0,.ptr 0 0),(17,.sl .none (AA s.ar)),(18,.i .i64 (AA s.ar).length),(19,.i .i64 (i:Nat))]) (fun i (_:Unit)=>k9 s ((dD s).take i)) [] () (fun j z h=>absurd h (d8 j)) (fun i _ φ0 hi hok=>?_);conv=>whnf
 refine aF (fun h=>?_) (fun h=>?_)<;>conv=>whnf
 rotate_left
 ·have hie:i=s.ar.length:=by have:=aC h;rw[hlen] at this;omega
  rw[nR (Nat.le_of_eq hie.symm) hok] at hX;cases hX;have hm:(dD s).take i=dD s:=dI (by rw[hie];simp[dD]);show OwesD 2 _ _ (k9 s (dD s)) _ _;exact .val (dH 2 (ho:=aQ (fun m=>k9 s m) hm))
 have hlt:i<s.ar.length:=by have:=aB h;rw[hlen] at this;omega
 obtain⟨y,hy⟩:∃y,s.ar[i]?=some y:=⟨s.ar[i],gL hlt⟩;have hX':=fun hn=>nS (f:=fun i a=>mD ((dD s).take i) a) hy hn hok;have hE:mD ((dD s).take i) y=kX ((dD s).take i) y.name (dZ (!vD y.pages 1 200) 7 0):=rfl;rw[IZ] at hE;refine ix (cU hy) ⟨rfl,?_⟩;conv=>whnf
 refine st ?_;conv=>whnf
 by_cases hn:kX ((dD s).take i) y.name 0=0
 ·rw[aG hn] at hE;refine cG [0,1] (EP (kd:=tU) (i:=i) hn) ?_;conv=>whnf
  refine cP (lG y.pages 1 200) ?_;conv=>whnf
  refine aF (fun h=>?_) (fun h=>?_)<;>conv=>whnf
  ·rw[h] at hE;replace hE:mD ((dD s).take i) y=7:=hE;rw[hX' (by rw[hE];decide),hE] at hX;obtain⟨rfl,rfl⟩:=Prod.mk.inj hX;refine cS [] (uC tU i 7) ?_;(conv=>whnf);exact YH 2
  ·rw[h] at hE;exact nx () hlt ⟨hlt,kC hy hE hok⟩ (aQ (fun m=>k9 s m) (yG (fun a:Ar=>a.name) hy).symm)
 ·rw[aE hn] at hE;rw[hX' (by rw[hE];exact hn),hE] at hX;obtain⟨rfl,rfl⟩:=Prod.mk.inj hX;refine cG [0,1] (EQ (kd:=tU) (i:=i) hn) ?_;conv=>whnf
  rw[p9 hn,zG hn];exact YH 2
def YM (x y:Int):Int:=if x<y then -1 else if y<x then 1 else 0
def a2D (a b:By):Int:=if Op.bytesLess a b then -1 else if Op.bytesLess b a then 1 else 0
def a2C (a b:Val):Int:=if YM a.k b.k≠0 then YM a.k b.k else if YM a.n b.n≠0 then YM a.n b.n else a2D a.s b.s
def z6 (l:List Itm):List (GV×GV):=l.map fun i=>(.s i.name,.b true)
theorem XE [MaxL] {l:List Itm} {s:By} (h:∀z∈l,z.name≠s):nC .string (.s s) (z6 l) 0=some none:=wF pU (fun e he=>by
 obtain⟨z,hz,rfl⟩:=List.mem_map.1 he;exact⟨z.name,rfl,h z hz⟩)
theorem U6 {l:List Itm} {s:By}:∀(j:Nat),(∃z∈l,z.name=s)->∃k,nC .string (.s s) (z6 l) j=some (some (k,.b true)):=by
 induction l with
 |nil=>rintro j ⟨z,hz,_⟩;cases hz
 |cons x l ih=>
  intro j h;show∃k,(match zT .string (.s s) (.s x.name) with|some true=>some (some (j,GV.b true))|some false=>nC .string (.s s) (z6 l) (j+1)|none=>none)=_;rw[pU];cases hx:(s==x.name) with
  |true=>exact⟨j,rfl⟩
  |false=>
   obtain⟨z,hz,he⟩:=h;rcases List.mem_cons.1 hz with rfl|hz
   ·rw[he] at hx;simp at hx
   ·exact ih (j+1) ⟨z,hz,he⟩
theorem A8 [MaxL] (l:List Itm) (hl:l.length<bH):SC Tryz.prog 117 [.sl .none (gI l)] [] (.val (.b (decide (0<l.length)&&gU l))) []:=by
 have hlen:=oD l;have hl':=hl;unfold bH at hl';refine cW Tryz.func117 rfl ?_;conv=>whnf
 refine f7 (fun q:Nat×List (GV×GV)=>q.1<=l.length/\(∀z∈l.take q.1,z.ok=true)/\((l.take q.1).map Itm.name).Nodup/\q.2=z6 (l.take q.1)) (fun q=>[(0,.sl .none (gI l)),(3,.mp 0),(7,.sl .none (gI l)),(8,.i .i64 (gI l).length),(9,.i .i64 (q.1:Nat))])
  (fun q=>⟨[.mp q.2],0,[]⟩) (fun q=>l.length - q.1) (0,[]) ⟨zL _,(fun z h=>by simp at h),by simp,rfl⟩ ⟨rfl,rfl,rfl,rfl,rfl,trivial⟩ rfl (fun _ _=>rL _) (fun q _=>rfl) (fun q hq e he=>?_) (fun q φ0 hi=>?_)
 ·refine⟨?_,rfl,?_⟩
  ·show[(GObj.mp q.2).ren e]=_;rw[hq.2.2.2];show[GObj.mp ((z6 (l.take q.1)).map _)]=_;unfold z6;rw[List.map_map];rfl
  ·show[(GV.sl .none (gI l)).ren e,GV.mp (e 0),(GV.sl .none (gI l)).ren e,_,_]=_;rw[bT (cR l) e,he 0 (by simp)];rfl
 obtain⟨i,es⟩:=q;obtain⟨hi,hok,hnd,hes⟩:=hi;replace hi:i<=l.length:=hi;replace hok:∀z∈l.take i,z.ok=true:=hok;replace hnd:((l.take i).map Itm.name).Nodup:=hnd;replace hes:es=z6 (l.take i):=hes;conv=>whnf
 refine aF (fun h=>?_) (fun h=>?_)<;>conv=>whnf
 rotate_left
 ·have hie:i=l.length:=by have:=aC h;rw[hlen] at this;omega
  rw[hie,b9] at hok hnd;have hw:=wP (l.length:Int) 1 8;rw[<-hlen] at hw;refine bF hw (wR _) rfl (fun _=>rfl) (.b _) ?_;conv=>whnf
  refine cQ ?_;rw[HO hok hnd,hlen,eX];simp;omega
 have hlt:i<l.length:=by have:=aB h;rw[hlen] at this;omega
 obtain⟨y,hy⟩:∃y,l[i]?=some y:=⟨l[i],gL hlt⟩;have hv:=MU y;have hgy:=n7 hy;refine⟨cN _,_,by rw[aA];exact hgy,rfl,?_⟩;conv=>whnf
 refine⟨_,⟨rfl,zL _,rfl,bL rfl⟩,?_⟩;conv=>whnf
 refine bF hv (wR _) rfl (fun _=>rfl) (.b _) ?_;conv=>whnf
 refine aF (fun h1=>?_) (fun h1=>?_)<;>conv=>whnf
 ·refine cQ ?_;rw[zN hy (.inl (by simpa using h1))];simp
 have h1':y.ok=true:=by simpa using h1
 by_cases hdup:∃z∈l.take i,z.name=y.name
 ·obtain⟨k,hk⟩:=U6 0 hdup;rw[<-hes] at hk;refine⟨some (k,.b true),hk,?_⟩;conv=>whnf
  refine cQ ?_;rw[zN hy (.inr hdup)];simp
 ·have hne:∀z∈l.take i,z.name≠y.name:=fun z hz he=>hdup ⟨z,hz,he⟩;have hk:=XE hne;rw[<-hes] at hk;refine⟨none,hk,?_⟩;conv=>whnf
  refine⟨rL _,none,hk,?_⟩;conv=>whnf
  have hes':es++[(GV.s y.name,GV.b true)]=z6 (l.take (i+1)):=by
   rw[hes,cH,hy];unfold z6;rw[d9];rfl
  exact⟨l.length - (i+1),(by show _<l.length - i;omega),(i+1,es++[(GV.s y.name,GV.b true)]),⟨hlt,xL hok hy h1',(yF hnd hy).2 hne,hes'⟩,rfl,⟨rfl,rfl,rfl,rfl,b7 (by omega),trivial⟩,_,rfl,rfl⟩
theorem XZ {v:Val} (h:v.ok=true):v.k=1∨v.k=2:=by
 simp only[Val.ok,eW,aH,aK] at h;rcases h with h|h
 ·exact .inl h.1.1.1
 ·exact .inr h.1.1
def a00 (i:Itm) (v:Val):Bool:=v.ok&&decide (v.k=i.k)&&((decide (v.k=2)&&decide ((v.s.length:Int)<=i.len))||(decide (v.k=1)&&decide (i.lo<=v.n)&&decide (v.n<=i.hi)))
theorem MS [MaxL] (l:List Itm) (hl:l.length<bH):SC Tryz.prog 184 [.sl .none (gI l)] [] (.val (.b (gU l))) []:=by
 have hk:=A8 l hl;have hlen:=oD l;refine cW Tryz.func184 rfl ?_;conv=>whnf
 refine aF (fun h=>?_) (fun h=>?_)<;>conv=>whnf
 ·refine cQ ?_;have h0:l.length=0:=by
   have h9:((gI l).length:Int)=0:=by simpa using h
   omega
  rw[aM h0];rfl
 ·refine bF hk (wR _) rfl (cC (bT (cR l)) .nil) (.b _) ?_;conv=>whnf
  refine cQ ?_;have h0:0<l.length:=by
   have h9:¬((gI l).length:Int)=0:=by simpa using h
   omega
  rw[bQ h0];rfl
def ZR:List Itm->List Val->Bool
 |[],[]=>true
 |i::l,v::r=>a00 i v&&ZR l r
 |_,_=>false
def a1a (l:List Itm) (r:List Val):Bool:=decide (0<l.length)&&gU l&&ZR l r
def a1b (l:List Itm) (r:List Val):Bool:=gU l&&(decide (l.length=0/\r.length=0)||a1a l r)
theorem a2A [MaxL] (s:List UInt8) (hs:s.length<=20000):∀f,Z8 s f:=by
 have hm:s.length<bH:=by unfold bH;omega
 intro f;induction f using Nat.strongRecOn with
 |ind f ih=>
 intro lv d n ts h hb;cases f with
 |zero=>exact⟨fun h=>by omega,fun h=>by omega,fun h=>by omega,fun h=>by omega⟩
 |succ f=>
 have IH:∀g,g<=f->Z8 s g:=fun g hg=>ih g (by omega);obtain⟨_,iand,inot,iprim⟩:=IH f (rL _) lv d n ts h hb;refine⟨fun hf=>?_,fun hf=>?_,fun hf=>?_,fun hf=>?_⟩
 ·obtain⟨m1,hm1,hc1⟩:=iand (by omega);cases hp:bO cE f .and lv d ts with
  |none=>
   rw[hp] at hc1;have e:bO cE (f+1) .or lv d ts=none:=by
    conv=>lhs;unfold bO
    rw[hp]
   rw[e];exact⟨0,(fun _ _ _ h=>by cases h),WO s lv n d hc1⟩
  |some p=>
   obtain⟨t1,r1,e1⟩:=p;rw[hp] at hc1;have e:bO cE (f+1) .or lv d ts=bO cE f (.orL t1) lv e1 r1:=by
    conv=>lhs;unfold bO
    rw[hp]
   have hlen:=iX _ _ _ _ _ _ _ _ hp;have hl3:=hlen.2.1 rfl;obtain⟨m2,j,hm2,hl⟩:=ZL s f IH f t1 lv e1 m1 r1 (rL _) (hm1 _ _ _ hp) (by omega) (by omega);rw[e];exact⟨m2,hm2,a2E s hm lv n d m1 e1 j t1 _ hc1 hl⟩
 ·obtain⟨m1,hm1,hc1⟩:=inot (by omega);cases hp:bO cE f .not lv d ts with
  |none=>
   rw[hp] at hc1;have e:bO cE (f+1) .and lv d ts=none:=by
    conv=>lhs;unfold bO
    rw[hp]
   rw[e];exact⟨0,(fun _ _ _ h=>by cases h),TA s lv n d hc1⟩
  |some p=>
   obtain⟨t1,r1,e1⟩:=p;rw[hp] at hc1;have e:bO cE (f+1) .and lv d ts=bO cE f (.andL t1) lv e1 r1:=by
    conv=>lhs;unfold bO
    rw[hp]
   have hlen:=iX _ _ _ _ _ _ _ _ hp;have hl3:=hlen.2.1 rfl;obtain⟨m2,j,hm2,hl⟩:=VL s f IH f t1 lv e1 m1 r1 (rL _) (hm1 _ _ _ hp) (by omega) (by omega);rw[e];exact⟨m2,hm2,a1e s hm lv n d m1 e1 j t1 _ hc1 hl⟩
 ·by_cases hw:ts.headD []=jZ
  ·obtain⟨r,rfl⟩:=fQ hw (by decide);simp only[aJ] at hb hf;obtain⟨_,_,_,ip⟩:=IH f (rL _) (lv+1) (max d (lv+1)) (nb s n+jZ.length) r h.tail.2 (by omega);obtain⟨m1,hm1,hc1⟩:=ip (by omega);have e:bO cE (f+1) .not lv d (jZ::r)=(bO cE f .prim (lv+1) (max d (lv+1)) r).map fun p=>(.no p.1,p.2.1,p.2.2):=by
    conv=>lhs;unfold bO
    rw[aG hw];show(match bO cE f .prim (lv+1) (max d (lv+1)) r with|some (n,r,e)=>_|none=>_)=_;cases bO cE f .prim (lv+1) (max d (lv+1)) r<;>rfl
   rw[e];refine⟨m1,fun t r' e' he=>?_,?_⟩
   ·rw[aI] at he;obtain⟨⟨t0,r0,e0⟩,h1,h2⟩:=he;cases h2;exact hm1 _ _ _ h1
   ·have:=T5 s hm lv n d (by omega) h _ hc1;rw[Option.map_map] at this⊢;exact this
  ·have e:bO cE (f+1) .not lv d ts=bO cE f .prim lv d ts:=by
    conv=>lhs;unfold bO
    rw[aE hw]
   obtain⟨_,_,_,ip⟩:=IH f (rL _) lv d (nb s n) ts h.nb hb;obtain⟨m1,hm1,hc1⟩:=ip (by omega);rw[e];exact⟨m1,hm1,WP s hm lv n d h hw _ hc1⟩
 ·by_cases h1:ts.headD []=kU
  ·obtain⟨r,rfl⟩:=fQ h1 (by decide);have e:bO cE (f+1) .prim lv d (kU::r)=some (.truth true,r,d):=by
    conv=>lhs;unfold bO
    rw[aG h1];rfl
   rw[e];exact⟨nb s n+kU.length,(fun t r e h'=>by cases h';exact h.tail.2),YW s hm lv n d h (some (.truth true,nb s n+kU.length,d)) (P7 s lv (nb s n+kU.length) d)⟩
  by_cases h2:ts.headD []=jN
  ·obtain⟨r,rfl⟩:=fQ h2 (by decide);have e:bO cE (f+1) .prim lv d (jN::r)=some (.truth false,r,d):=by
    conv=>lhs;unfold bO
    rw[aE h1,aG h2];rfl
   rw[e];exact⟨nb s n+jN.length,(fun t r e h'=>by cases h';exact h.tail.2),YV s hm lv n d h (some (.truth false,nb s n+jN.length,d)) (P6 s lv (nb s n+jN.length) d)⟩
  by_cases h3:ts.headD []=[40]
  ·obtain⟨r,rfl⟩:=fQ h3 (by decide);simp only[aJ] at hb hf;obtain⟨io,_⟩:=IH f (rL _) (lv+1) (max d (lv+1)) (nb s n+1) r h.tail.2 (by omega);obtain⟨m1,hm1,hc1⟩:=io (by omega);cases hp:bO cE f .or (lv+1) (max d (lv+1)) r with
   |none=>
    rw[hp] at hc1;have e:bO cE (f+1) .prim lv d ([40]::r)=none:=by
     conv=>lhs;unfold bO
     rw[aE h1,aE h2,aG h3];show(match bO cE f .or (lv+1) (max d (lv+1)) r with|some (n,r,e)=>_|none=>_)=_;rw[hp]
    rw[e];exact⟨0,(fun _ _ _ h=>by cases h),R0 s hm lv n d h none (R1 s hm lv (nb s n+1) d (by omega) none [] (fun _ _ _ h=>by cases h) hc1)⟩
   |some p=>
    obtain⟨t1,r1,e1⟩:=p;rw[hp] at hc1;have hA1:=(hm1 _ _ _ hp).1;have e:bO cE (f+1) .prim lv d ([40]::r)=if r1.headD []=[41] then some (t1,r1.tail,e1) else none:=by
     conv=>lhs;unfold bO
     rw[aE h1,aE h2,aG h3];show(match bO cE f .or (lv+1) (max d (lv+1)) r with|some (n,r,e)=>_|none=>_)=_;rw[hp]
    have hc2:=R0 s hm lv n d h _ (R1 s hm lv (nb s n+1) d (by omega) (some (t1,m1,e1)) r1 (fun _ _ _ h=>by cases h;exact hA1) hc1);rw[e];by_cases h4:r1.headD []=[41]
    ·obtain⟨r2,rfl⟩:=fQ h4 (by decide);refine⟨nb s m1+1,fun t r e h'=>?_,?_⟩
     ·rw[aG h4] at h';cases h';exact hA1.tail.2
     ·rw[aG h4];unfold NW at hc2;simp only[h4,fI] at hc2;exact hc2
    ·refine⟨0,fun t r e h'=>?_,?_⟩
     ·rw[aE h4] at h';cases h'
     ·rw[aE h4];unfold NW at hc2;simp only[h4,fK] at hc2;exact hc2
  obtain⟨m,hm1,hc⟩:=WN s hs lv n d h h1 h2 h3;have e:bO cE (f+1) .prim lv d ts=bO cE 1 .prim lv d ts:=by
   conv=>lhs;unfold bO
   conv=>rhs;unfold bO
   rw[aE h1,aE h1,aE h2,aE h2,aE h3,aE h3]
  rw[e];exact⟨m,hm1,hc⟩
def jR (s:List UInt8):Nat:=10*s.length+10
theorem sK:∀(n:Nat) (l:List UInt8),l.length<=n->(iG l).length<=l.length
 |0,l,h=>by
  have:l=[]:=aM (by omega);subst this;rw[kE rfl];simp
 |n+1,l,h=>by
  cases hk:skip l with
  |nil=>rw[kE hk];simp
  |cons c t=>
   rw[mH hk];have h1:=yX l;rw[hk] at h1;have h2:=mV c t;simp only[aJ] at h1⊢;have:=sK n ((c::t).drop (l9 (c::t))) (by simp;omega);simp only[dW,aJ] at this;omega
theorem YX [MaxL] (s:List UInt8) (hs:s.length<=20000):SC Tryz.prog 217 [.s s] [] (.val (match bO cE (jR s) .or 0 0 (iG s) with
  |some (t,r,e)=>.tup [t.gv,.i .i64 (e:Nat),.b (r.headD []==[])]
  |none=>.tup [.o .nilIface,.i .i64 0,.b false])) []:=by
 have hm:s.length<bH:=by unfold bH;omega
 have h0:At s 0 (iG s):=⟨zL _,rfl⟩;have hl:=sK s.length s (rL _);obtain⟨io,_⟩:=a2A s hs (jR s) 0 0 0 (iG s) h0 (by omega);obtain⟨m,hm1,hc⟩:=io (by unfold jR;omega);cases hp:bO cE (jR s) .or 0 0 (iG s) with
 |none=>
  rw[hp] at hc;replace hc:SC Tryz.prog 257 [.ptr 0 0,.i .i64 (0:Nat)] [rd s 0 (0:Nat)] (.panic gE) [.dead]:=hc;refine cW Tryz.func217 rfl ?_;conv=>whnf
  refine lO (q:=3) hc rfl (by first|exact wR _|exact wC (bK _ _) (wR _)|exact wC (bK _ _) (wC (bK _ _) (wR _))|exact wC (cO _) (wC (bK _ _) (wR _))) rfl rfl (by first|exact fun _=>rfl|exact cA|exact cB fun _=>rfl) (by first|exact fun _=>rfl|exact cA|exact cB fun _=>rfl) (by first|exact fun _=>rfl|exact cA|exact cB fun _=>rfl) ?_;conv=>whnf
  refine vR (g:=.tup [.o .nilIface,.i .i64 0,.b false]) ?_ ?_ ?_
  ·kernel_rfl
  ·exact .refl _
  ·exact fun _=>rfl
 |some p=>
  obtain⟨t,r,e⟩:=p;rw[hp] at hc;replace hc:SC Tryz.prog 257 [.ptr 0 0,.i .i64 (0:Nat)] [rd s 0 (0:Nat)] (.val t.gv) [rd s m e]:=hc;obtain⟨hA,hnb⟩:=hm1 _ _ _ hp;have hwd:=kS s m e hA hm;rw[hnb] at hwd;refine dL oQ mixed Tryz.func217 rfl (bL rfl) (rL _) rfl ?_;conv=>whnf
  refine aV (q:=3) hc rfl (wR _) rfl rfl (fun _=>rfl) (fun _=>rfl) (fun _=>rfl) t.cl ?_;conv=>whnf
  refine⟨_,⟨rfl,zL _,rfl,bL rfl⟩,?_⟩;conv=>whnf
  refine GDraw.wild _ _ _ rfl rfl rfl (by kernel_rfl) ?_;conv=>whnf
  refine a0p (q:=3) hwd rfl (wR _) rfl (fun _=>rfl) (fun _=>rfl) (fun _=>rfl) ?_;conv=>whnf
  refine⟨_,⟨rfl,zL _,rfl,bL rfl⟩,?_⟩;conv=>whnf
  refine⟨_,⟨rfl,zL _,rfl,bL rfl⟩,?_⟩;conv=>whnf
  refine⟨_,⟨rfl,zL _,rfl,bL rfl⟩,?_⟩;conv=>whnf
  exact b8 (.refl _) (f8 (.cons t.cl (.cons (.i _ _) (.cons (.b _) .nil))))
theorem IC:∀(n:Nat) (l:List UInt8),l.length<=n->∀w∈iG l,w≠[]
 |0,l,h,w,hw=>by
  have:l=[]:=aM (by omega);subst this;rw[kE rfl] at hw;cases hw
 |n+1,l,h,w,hw=>by
  cases hk:skip l with
  |nil=>rw[kE hk] at hw;cases hw
  |cons c t=>
   rw[mH hk] at hw;have h1:=yX l;rw[hk] at h1;have h2:=mV c t;simp only[aJ] at h1;rcases List.mem_cons.1 hw with rfl|hw
   ·intro e;have:=aQ List.length e;unfold GD at this;rw[bP] at this;simp at this;omega
   ·exact IC n ((c::t).drop (l9 (c::t))) (by simp;omega) w hw
inductive RdE where
 |ok (t:Tree)
 |err (e:Int)
def m4 (s:List UInt8):RdE:=if 1000<s.length then .err 3 else match bO cE (jR s) .or 0 0 (iG s) with
 |some (t,r,e)=>if r.headD []==[] then(if 20<e then .err 4 else .ok t.flat) else .err 2
 |none=>.err 2
