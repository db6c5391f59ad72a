/- Part of ViewWrong. -/
import Derived.Test.YtimgfjldcdhejaaGreatDoorK20
set_option linter.all false
set_option maxRecDepth 100000
namespace Go.Proofs.YtimgfjldcdhejaaGreatDoor
section
open Go.RowKit
theorem mQ [MaxL] (n lo hi:Int):SC Tryz.prog 181 [.i .i64 n,.i .i64 lo,.i .i64 hi] [] (.val (.b (t8 n lo hi))) []:=by
 unfold t8;refine cO Tryz.func181 rfl ?_;conv=>whnf
 repeat' first
  |(apply gM<;>intro _<;>conv=>whnf)
  |(refine lQ ?_;conv=>whnf)
  |(refine sT ?_;conv=>whnf)
 all_goals (rename_i h;refine d6 ?_;simp at h⊢;omega)
def T9 (kd:By) (i:Nat) (e:Int):GV:=.ifc 180 (.agg [.s kd,.i .i64 (i:Nat),.i .i64 e])
instance [MaxL] {kd:By} {i:Nat} {e:Int}:KG (T9 kd i e):=⟨fun _=>rfl⟩
def vT (kd:By) (i:Nat) (e:Int):GRes:=if e=0 then .val (.tup []) else .panic (T9 kd i e)
theorem R0 [MaxL] (e:Nat->Nat) (kd:By) (i:Nat) (x:Int):(vT kd i x).ren e=vT kd i x:=by unfold vT;split<;>rfl
instance [MaxL] {e:Nat->Nat} {kd:By} {i:Nat} {x:Int}:RR e (vT kd i x) (vT kd i x):=⟨R0 e kd i x⟩
instance [MaxL] {n:Nat} {kd:By} {i:Nat} {x:Int}:FR n (vT kd i x):=⟨fun e _=>R0 e kd i x⟩
theorem xW [MaxL] (kd:By) (i:Nat) (e:Int):SC Tryz.prog 182 [.s kd,.i .i64 (i:Nat),.i .i64 e] [] (.panic (T9 kd i e)) []:=by
 refine cO Tryz.func182 rfl ?_;conv=>whnf
 exact cQ 0
abbrev lG (s:Sch) (m:List By):List GObj:=[.box 184 [.sl .none (zB s.ar),.sl .none (pU s.rc),.sl .none (tQ s.st),.mp 1],.mp (o4 m)]
theorem lU [MaxL] (w:Bool) (e:Int) (i:Nat) (he:w=true->e≠0):SC Tryz.prog 184 [.b w,.i .i64 e,.ptr 0 0] [.box 3 [.i .i64 (i:Nat)]] (vT iR i (if w then e else 0)) [.box 3 [.i .i64 (i:Nat)]]:=by
 cases w with
 |false=>
  refine cO Tryz.func184 rfl ?_;conv=>whnf
  exact cQ 1
 |true=>
  rw[aD rfl];unfold vT;rw[aC (he rfl)];refine cO Tryz.func184 rfl ?_;conv=>whnf
  refine cS [] (xW iR i e) ?_;conv=>whnf
  exact cQ 1
theorem gK [MaxL] (w:Bool) (e:Int) (i:Nat) (he:w=true->e≠0):SC Tryz.prog 190 [.b w,.i .i64 e,.ptr 0 0] [.box 3 [.i .i64 (i:Nat)]] (vT nF i (if w then e else 0)) [.box 3 [.i .i64 (i:Nat)]]:=by
 cases w with
 |false=>
  refine cO Tryz.func190 rfl ?_;conv=>whnf
  exact cQ 1
 |true=>
  rw[aD rfl];unfold vT;rw[aC (he rfl)];refine cO Tryz.func190 rfl ?_;conv=>whnf
  refine cS [] (xW nF i e) ?_;conv=>whnf
  exact cQ 1
theorem WO [MaxL] (s:Sch) (m:List By) (kd:By) (i:Nat) (n:By):SC Tryz.prog 183 [.ptr 0 0,.s kd,.i .i64 (i:Nat),.s n] (lG s m) (vT kd i (gJ m n 0)) (lG s (if gJ m n 0=0 then m++[n] else m)):=by
 have hn:=CP n;generalize hE:gJ m n 0=E;unfold gJ cX at hE;generalize dU n=b at*;refine cO Tryz.func183 rfl ?_;conv=>whnf
 refine cP hn ?_;conv=>whnf
 repeat' first
  |(apply gM<;>intro _<;>conv=>whnf)
  |(refine lQ ?_;conv=>whnf)
  |(refine sT ?_;conv=>whnf)
 ·have:E=1:=by rw[<-hE];simp[*]
  subst this;refine cS [] (xW kd i 1) ?_;conv=>whnf
  show Owes _ _ (lG s m) _ _;exact cQ 2
 ·rename_i hb hs;have:E=1:=by rw[<-hE,show(n==YW)=true from hs];simp
  subst this;refine cS [] (xW kd i 1) ?_;conv=>whnf
  show Owes _ _ (lG s m) _ _;exact cQ 2
 ·rename_i hb hs;rw[hb,show(n==YW)=false from hs] at hE;cases hm:m.contains n with
  |true=>
   rw[hm] at hE;subst hE;obtain⟨k,hk⟩:=HM 0 hm;refine⟨some (k,.b true),hk,?_⟩;(conv=>whnf);refine cS [] (xW kd i 6) ?_;(conv=>whnf);show Owes _ _ (lG s m) _ _;exact cQ 2
  |false=>
   rw[hm] at hE;subst hE;refine⟨none,y6 hm,?_⟩;(conv=>whnf);refine⟨zL _,none,y6 hm,?_⟩;(conv=>whnf);show Owes _ _ [_,.mp (o4 (m++[n]))] _ _;have e:o4 (m++[n])=o4 m++[(.s n,.b true)]:=by unfold o4;rw[b5];rfl
   rw[e];exact cQ 2
theorem JH [MaxL] {s:Sch} {m:List By} {kd:By} {i:Nat} {n:By} (h:gJ m n 0=0):SC Tryz.prog 183 [.ptr 0 0,.s kd,.i .i64 (i:Nat),.s n] (lG s m) (.val (.tup [])) (lG s (m++[n])):=by
 have:=WO s m kd i n;rw[h] at this;exact this
theorem JI [MaxL] {s:Sch} {m:List By} {kd:By} {i:Nat} {n:By} (h:gJ m n 0≠0):SC Tryz.prog 183 [.ptr 0 0,.s kd,.i .i64 (i:Nat),.s n] (lG s m) (.panic (T9 kd i (gJ m n 0))) (lG s m):=by
 have:=WO s m kd i n;unfold vT at this;rw[aC h,aC h] at this;exact this
theorem DC (m:List By) (n:By) (b:Int):gJ m n b=if gJ m n 0=0 then b else gJ m n 0:=by
 unfold gJ cX;cases(!dU n||n==YW)<;>cases m.contains n<;>simp
def oZ (e:Int) (s:List GObj):List GObj:=if e=0 then s else[.dead,.dead]
def mH (s:Sch):Nat×Int:=if !t8 s.ar.length 1 6 then(0,4) else(dZ (fun i a=>nH ((bW s).take i) a) 0 s.ar).getD (0,0)
theorem sN {kd:By} {i:Nat} {e:Int} (h:e≠0):vT kd i e=.panic (T9 kd i e):=aC h
theorem uZ [MaxL] {s:List GObj} {e:Int} (h:e≠0):oZ e s=[.dead,.dead]:=aC h
theorem kD {α:Type} {f:Nat->α->Int} {l:List α} {i:Nat} {y:α} (hy:l[i]?=some y) (hn:f i y≠0) (h:∀j z,j<i->l[j]?=some z->f j z=0):dZ f 0 l=some (i,f i y):=by
 have:=N8 (f:=f) (n:=0) hy (by rw[bI];exact hn) fun j z hj hz=>by rw[bI];exact h j z hj hz
 rwa [bI] at this
theorem kC {α:Type} {f:Nat->α->Int} {l:List α} {n:Nat} (hn:l.length<=n) (h:∀j z,j<n->l[j]?=some z->f j z=0):dZ f 0 l=none:=N7 fun j z hz=>by
 rw[bI];exact h j z (cI (List.getElem?_eq_some_iff.1 hz).1 hn) hz
theorem iE {α:Type} {f:Nat->α->Int} {l:List α} {i:Nat} {y:α} (hy:l[i]?=some y) (h0:f i y=0) (h:∀j z,j<i->l[j]?=some z->f j z=0):∀j z,j<i+1->l[j]?=some z->f j z=0:=fun j z hj hz=>by
 rcases Nat.lt_or_eq_of_le (Nat.le_of_lt_succ hj) with h1|rfl
 ·exact h j z h1 hz
 ·rw[hy] at hz;cases hz;exact h0
theorem mW {α:Type} (f:α->By) {l:List α} {i:Nat} {y:α} (hy:l[i]?=some y):(l.map f).take (i+1)=(l.map f).take i++[f y]:=by rw[aT,aK,hy];rfl
theorem a3j [MaxL] (s:Sch) (hl:s.ar.length<b9):SC Tryz.prog 135 [.ptr 0 0] (lG s []) (vT xJ (mH s).1 (mH s).2) (oZ (mH s).2 (lG s (bW s))):=by
 unfold b9 at hl;have hlen:(zB s.ar).length=s.ar.length:=cL _ _;generalize hX:mH s=X;obtain⟨xi,xe⟩:=X;unfold mH at hX;have hh:(oZ xe (lG s (bW s))).all GObj.notHeld=true:=by unfold oZ;split<;>rfl
 have hs:(lG s []).length<=(oZ xe (lG s (bW s))).length:=by unfold oZ;split<;>exact rL _
 refine SC.of_gwpD 2 oP mixed Tryz.func135 rfl (bL rfl) hs hh ?_;conv=>whnf
 have hw:=mQ (zB s.ar).length 1 6;refine cP hw ?_;conv=>whnf
 apply gM<;>intro h<;>conv=>whnf
 ·rw[hlen] at h;rw[h,aD rfl] at hX;cases hX;refine cS [] (xW xJ 0 4) ?_;conv=>whnf
  exact a2Y 2
 rw[hlen] at h;rw[h,aC (by simp)] at hX;refine bE 2 s.ar.length (fun i _=>∀j z,j<i->s.ar[j]?=some z->nH ((bW s).take j) z=0) (fun i _=>[(0,.ptr 0 0),(17,.sl .none (zB s.ar)),(18,.i .i64 (zB s.ar).length),(19,.i .i64 (i:Nat))]) (fun i (_:Unit)=>lG s ((bW s).take i)) [] () (fun j z h=>absurd h (bP j)) (fun i _ φ0 hi hok=>?_);conv=>whnf
 apply gM<;>intro h<;>conv=>whnf
 rotate_left
 ·have hie:i=s.ar.length:=by have:=aA h;omega
  rw[kC (Nat.le_of_eq hie.symm) hok] at hX;cases hX;have hm:(bW s).take i=bW s:=aW (by rw[hie];simp[bW]);show OwesD 2 _ _ (lG s (bW s)) _ _;exact .val (cQ 2 (ho:=aR (fun m=>lG s m) hm))
 have hlt:i<s.ar.length:=by have:=aB h;omega
 obtain⟨y,hy⟩:∃y,s.ar[i]?=some y:=⟨s.ar[i],gL hlt⟩;have hX':=fun hn=>kD (f:=fun i a=>nH ((bW s).take i) a) hy hn hok;have hE:nH ((bW s).take i) y=gJ ((bW s).take i) y.name (cX (!t8 y.pages 1 200) 7 0):=rfl;rw[DC] at hE;refine ix (aY hy) ⟨rfl,?_⟩;conv=>whnf
 refine st ?_;conv=>whnf
 by_cases hn:gJ ((bW s).take i) y.name 0=0
 ·rw[aD hn] at hE;refine cG [0,1] (JH (kd:=xJ) (i:=i) hn) ?_;conv=>whnf
  refine cP (mQ y.pages 1 200) ?_;conv=>whnf
  apply gM<;>intro h<;>conv=>whnf
  ·rw[h] at hE;replace hE:nH ((bW s).take i) y=7:=hE;rw[hX' (by rw[hE];decide),hE] at hX;obtain⟨rfl,rfl⟩:=Prod.mk.inj hX;refine cS [] (xW xJ i 7) ?_;(conv=>whnf);exact a2Y 2
  ·rw[h] at hE;exact nx () hlt ⟨hlt,iE hy hE hok⟩ (aR (fun m=>lG s m) (mW (fun a:Ar=>a.name) hy).symm)
 ·rw[aC hn] at hE;rw[hX' (by rw[hE];exact hn),hE] at hX;obtain⟨rfl,rfl⟩:=Prod.mk.inj hX;refine cG [0,1] (JI (kd:=xJ) (i:=i) hn) ?_;conv=>whnf
  rw[sN hn,uZ hn];exact a2Y 2
def a4Z (x y:Int):Int:=if x<y then -1 else if y<x then 1 else 0
def a8f (a b:By):Int:=if Op.bytesLess a b then -1 else if Op.bytesLess b a then 1 else 0
def a8e (a b:Val):Int:=if a4Z a.k b.k≠0 then a4Z a.k b.k else if a4Z a.n b.n≠0 then a4Z a.n b.n else a8f a.s b.s
def D3 (l:List Itm):List (GV×GV):=l.map fun i=>(.s i.name,.b true)
theorem a3f [MaxL] {l:List Itm} {s:By} (h:∀z∈l,z.name≠s):mK .string (.s s) (D3 l) 0=some none:=x7 oF (fun e he=>by
 obtain⟨z,hz,rfl⟩:=List.mem_map.1 he;exact⟨z.name,rfl,h z hz⟩)
theorem a15 {l:List Itm} {s:By}:∀(j:Nat),(∃z∈l,z.name=s)->∃k,mK .string (.s s) (D3 l) j=some (some (k,.b true)):=by
 induction l with
 |nil=>rintro j ⟨z,hz,_⟩;cases hz
 |cons x l ih=>
  intro j h;show∃k,(match BT .string (.s s) (.s x.name) with|some true=>some (some (j,GV.b true))|some false=>mK .string (.s s) (D3 l) (j+1)|none=>none)=_;rw[oF];cases hx:(s==x.name) with
  |true=>exact⟨j,rfl⟩
  |false=>
   obtain⟨z,hz,he⟩:=h;rcases List.mem_cons.1 hz with rfl|hz
   ·rw[he] at hx;simp at hx
   ·exact ih (j+1) ⟨z,hz,he⟩
theorem E1 [MaxL] (l:List Itm) (hl:l.length<b9):SC Tryz.prog 107 [.sl .none (fM l)] [] (.val (.b (decide (0<l.length)&&iC l))) []:=by
 have hlen:=rV l;have hl':=hl;unfold b9 at hl';refine cO Tryz.func107 rfl ?_;conv=>whnf
 refine dH (fun q:Nat×List (GV×GV)=>q.1<=l.length/\(∀z∈l.take q.1,z.ok=true)/\((l.take q.1).map Itm.name).Nodup/\q.2=D3 (l.take q.1)) (fun q=>[(0,.sl .none (fM l)),(3,.mp 0),(7,.sl .none (fM l)),(8,.i .i64 (fM l).length),(9,.i .i64 (q.1:Nat))])
  (fun q=>⟨[.mp q.2],0,[]⟩) (fun q=>l.length - q.1) (0,[]) ⟨zL _,(fun z h=>by simp at h),by simp,rfl⟩ ⟨rfl,rfl,rfl,rfl,rfl,trivial⟩ rfl (fun _ _=>rL _) (fun q _=>rfl) (fun q hq e he=>?_) (fun q φ0 hi=>?_)
 ·refine⟨?_,rfl,?_⟩
  ·show[(GObj.mp q.2).ren e]=_;rw[hq.2.2.2];show[GObj.mp ((D3 (l.take q.1)).map _)]=_;unfold D3;rw[List.map_map];rfl
  ·show[(GV.sl .none (fM l)).ren e,GV.mp (e 0),(GV.sl .none (fM l)).ren e,_,_]=_;rw[bK (dC l) e,he 0 (by simp)];rfl
 obtain⟨i,es⟩:=q;obtain⟨hi,hok,hnd,hes⟩:=hi;replace hi:i<=l.length:=hi;replace hok:∀z∈l.take i,z.ok=true:=hok;replace hnd:((l.take i).map Itm.name).Nodup:=hnd;replace hes:es=D3 (l.take i):=hes;conv=>whnf
 apply gM<;>intro h<;>conv=>whnf
 rotate_left
 ·have hie:i=l.length:=by have:=aA h;omega
  rw[hie,aV] at hok hnd;have hw:=AM (l.length:Int) 1 8;rw[<-hlen] at hw;refine mG hw (.b _) ?_;conv=>whnf
  refine d6 ?_;rw[MQ hok hnd,hlen,dQ];simp;omega
 have hlt:i<l.length:=by have:=aB h;omega
 obtain⟨y,hy⟩:∃y,l[i]?=some y:=⟨l[i],gL hlt⟩;have hv:=T2 y;have hgy:=pJ hy;refine⟨jR _,_,by rw[aL];exact hgy,rfl,?_⟩;conv=>whnf
 refine sT ?_;conv=>whnf
 refine mG hv (.b _) ?_;conv=>whnf
 apply gM<;>intro h1<;>conv=>whnf
 ·refine d6 ?_;rw[DF hy (.inl (by simpa using h1))];simp
 have h1':y.ok=true:=by simpa using h1
 by_cases hdup:∃z∈l.take i,z.name=y.name
 ·obtain⟨k,hk⟩:=a15 0 hdup;rw[<-hes] at hk;refine⟨some (k,.b true),hk,?_⟩;conv=>whnf
  refine d6 ?_;rw[DF hy (.inr hdup)];simp
 ·have hne:∀z∈l.take i,z.name≠y.name:=fun z hz he=>hdup ⟨z,hz,he⟩;have hk:=a3f hne;rw[<-hes] at hk;refine⟨none,hk,?_⟩;conv=>whnf
  refine⟨rL _,none,hk,?_⟩;conv=>whnf
  have hes':es++[(GV.s y.name,GV.b true)]=D3 (l.take (i+1)):=by
   rw[hes,aT,hy];unfold D3;rw[b5];rfl
  exact⟨l.length - (i+1),(by show _<l.length - i;omega),(i+1,es++[(GV.s y.name,GV.b true)]),⟨hlt,BO hok hy h1',(CA hnd hy).2 hne,hes'⟩,rfl,⟨rfl,rfl,rfl,rfl,bH (by omega),trivial⟩,_,rfl,rfl⟩
theorem a41 {v:Val} (h:v.ok=true):v.k=1∨v.k=2:=by
 simp only[Val.ok,f6,aF,aJ] at h;rcases h with h|h
 ·exact .inl h.1.1.1
 ·exact .inr h.1.1
def a5h (i:Itm) (v:Val):Bool:=v.ok&&decide (v.k=i.k)&&((decide (v.k=2)&&decide ((v.s.length:Int)<=i.len))||(decide (v.k=1)&&decide (i.lo<=v.n)&&decide (v.n<=i.hi)))
theorem SX [MaxL] (l:List Itm) (hl:l.length<b9):SC Tryz.prog 142 [.sl .none (fM l)] [] (.val (.b (iC l))) []:=by
 have hk:=E1 l hl;have hlen:=rV l;refine cO Tryz.func142 rfl ?_;conv=>whnf
 apply gM<;>intro h<;>conv=>whnf
 ·refine d6 ?_;have h0:l.length=0:=by
   have h9:((fM l).length:Int)=0:=by simpa using h
   omega
  rw[aM h0];rfl
 ·refine bT hk (wR _) rfl (cC (bK (dC l)) .nil) (.b _) ?_;conv=>whnf
  refine d6 ?_;have h0:0<l.length:=by
   have h9:¬((fM l).length:Int)=0:=by simpa using h
   omega
  rw[bC h0];rfl
def a5H:List Itm->List Val->Bool
 |[],[]=>true
 |i::l,v::r=>a5h i v&&a5H l r
 |_,_=>false
def a7s (l:List Itm) (r:List Val):Bool:=decide (0<l.length)&&iC l&&a5H l r
def a7t (l:List Itm) (r:List Val):Bool:=iC l&&(decide (l.length=0/\r.length=0)||a7s l r)
theorem a8d [MaxL] (s:List UInt8) (hs:s.length<=20000):∀f,a4v s f:=by
 have hm:s.length<b9:=by unfold b9;omega
 intro f;induction f using Nat.strongRecOn with
 |ind f ih=>
 intro lv d n ts h hb;cases f with
 |zero=>exact⟨fun h=>by omega,fun h=>by omega,fun h=>by omega,fun h=>by omega⟩
 |succ f=>
 have IH:∀g,g<=f->a4v s g:=fun g hg=>ih g (by omega);obtain⟨_,iand,inot,iprim⟩:=IH f (rL _) lv d n ts h hb;refine⟨fun hf=>?_,fun hf=>?_,fun hf=>?_,fun hf=>?_⟩
 ·obtain⟨m1,hm1,hc1⟩:=iand (by omega);cases hp:bU dM f .and lv d ts with
  |none=>
   rw[hp] at hc1;have e:bU dM (f+1) .or lv d ts=none:=by
    conv=>lhs;unfold bU
    rw[hp]
   rw[e];exact⟨0,(fun _ _ _ h=>by cases h),a2r s lv n d hc1⟩
  |some p=>
   obtain⟨t1,r1,e1⟩:=p;rw[hp] at hc1;have e:bU dM (f+1) .or lv d ts=bU dM f (.orL t1) lv e1 r1:=by
    conv=>lhs;unfold bU
    rw[hp]
   have hlen:=jT _ _ _ _ _ _ _ _ hp;have hl3:=hlen.2.1 rfl;obtain⟨m2,j,hm2,hl⟩:=a59 s f IH f t1 lv e1 m1 r1 (rL _) (hm1 _ _ _ hp) (by omega) (by omega);rw[e];exact⟨m2,hm2,a8h s hm lv n d m1 e1 j t1 _ hc1 hl⟩
 ·obtain⟨m1,hm1,hc1⟩:=inot (by omega);cases hp:bU dM f .not lv d ts with
  |none=>
   rw[hp] at hc1;have e:bU dM (f+1) .and lv d ts=none:=by
    conv=>lhs;unfold bU
    rw[hp]
   rw[e];exact⟨0,(fun _ _ _ h=>by cases h),a0B s lv n d hc1⟩
  |some p=>
   obtain⟨t1,r1,e1⟩:=p;rw[hp] at hc1;have e:bU dM (f+1) .and lv d ts=bU dM f (.andL t1) lv e1 r1:=by
    conv=>lhs;unfold bU
    rw[hp]
   have hlen:=jT _ _ _ _ _ _ _ _ hp;have hl3:=hlen.2.1 rfl;obtain⟨m2,j,hm2,hl⟩:=a1z s f IH f t1 lv e1 m1 r1 (rL _) (hm1 _ _ _ hp) (by omega) (by omega);rw[e];exact⟨m2,hm2,a7z s hm lv n d m1 e1 j t1 _ hc1 hl⟩
 ·by_cases hw:ts.headD []=kX
  ·obtain⟨r,rfl⟩:=fU hw (by decide);simp only[aI] at hb hf;obtain⟨_,_,_,ip⟩:=IH f (rL _) (lv+1) (max d (lv+1)) (nb s n+kX.length) r h.tail.2 (by omega);obtain⟨m1,hm1,hc1⟩:=ip (by omega);have e:bU dM (f+1) .not lv d (kX::r)=(bU dM f .prim (lv+1) (max d (lv+1)) r).map fun p=>(.no p.1,p.2.1,p.2.2):=by
    conv=>lhs;unfold bU
    rw[aD hw];show(match bU dM f .prim (lv+1) (max d (lv+1)) r with|some (n,r,e)=>_|none=>_)=_;cases bU dM f .prim (lv+1) (max d (lv+1)) r<;>rfl
   rw[e];refine⟨m1,fun t r' e' he=>?_,?_⟩
   ·rw[aH] at he;obtain⟨⟨t0,r0,e0⟩,h1,h2⟩:=he;cases h2;exact hm1 _ _ _ h1
   ·have:=a06 s hm lv n d (by omega) h _ hc1;rw[Option.map_map] at this⊢;exact this
  ·have e:bU dM (f+1) .not lv d ts=bU dM f .prim lv d ts:=by
    conv=>lhs;unfold bU
    rw[aC hw]
   obtain⟨_,_,_,ip⟩:=IH f (rL _) lv d (nb s n) ts h.nb hb;obtain⟨m1,hm1,hc1⟩:=ip (by omega);rw[e];exact⟨m1,hm1,a2s s hm lv n d h hw _ hc1⟩
 ·by_cases h1:ts.headD []=m8
  ·obtain⟨r,rfl⟩:=fU h1 (by decide);have e:bU dM (f+1) .prim lv d (m8::r)=some (.truth true,r,d):=by
    conv=>lhs;unfold bU
    rw[aD h1];rfl
   rw[e];exact⟨nb s n+m8.length,(fun t r e h'=>by cases h';exact h.tail.2),a4i s hm lv n d h (some (.truth true,nb s n+m8.length,d)) (VS s lv (nb s n+m8.length) d)⟩
  by_cases h2:ts.headD []=kN
  ·obtain⟨r,rfl⟩:=fU h2 (by decide);have e:bU dM (f+1) .prim lv d (kN::r)=some (.truth false,r,d):=by
    conv=>lhs;unfold bU
    rw[aC h1,aD h2];rfl
   rw[e];exact⟨nb s n+kN.length,(fun t r e h'=>by cases h';exact h.tail.2),a4h s hm lv n d h (some (.truth false,nb s n+kN.length,d)) (VQ s lv (nb s n+kN.length) d)⟩
  by_cases h3:ts.headD []=[40]
  ·obtain⟨r,rfl⟩:=fU h3 (by decide);simp only[aI] at hb hf;obtain⟨io,_⟩:=IH f (rL _) (lv+1) (max d (lv+1)) (nb s n+1) r h.tail.2 (by omega);obtain⟨m1,hm1,hc1⟩:=io (by omega);cases hp:bU dM f .or (lv+1) (max d (lv+1)) r with
   |none=>
    rw[hp] at hc1;have e:bU dM (f+1) .prim lv d ([40]::r)=none:=by
     conv=>lhs;unfold bU
     rw[aC h1,aC h2,aD h3];show(match bU dM f .or (lv+1) (max d (lv+1)) r with|some (n,r,e)=>_|none=>_)=_;rw[hp]
    rw[e];exact⟨0,(fun _ _ _ h=>by cases h),Y7 s hm lv n d h none (Y8 s hm lv (nb s n+1) d (by omega) none [] (fun _ _ _ h=>by cases h) hc1)⟩
   |some p=>
    obtain⟨t1,r1,e1⟩:=p;rw[hp] at hc1;have hA1:=(hm1 _ _ _ hp).1;have e:bU dM (f+1) .prim lv d ([40]::r)=if r1.headD []=[41] then some (t1,r1.tail,e1) else none:=by
     conv=>lhs;unfold bU
     rw[aC h1,aC h2,aD h3];show(match bU dM f .or (lv+1) (max d (lv+1)) r with|some (n,r,e)=>_|none=>_)=_;rw[hp]
    have hc2:=Y7 s hm lv n d h _ (Y8 s hm lv (nb s n+1) d (by omega) (some (t1,m1,e1)) r1 (fun _ _ _ h=>by cases h;exact hA1) hc1);rw[e];by_cases h4:r1.headD []=[41]
    ·obtain⟨r2,rfl⟩:=fU h4 (by decide);refine⟨nb s m1+1,fun t r e h'=>?_,?_⟩
     ·rw[aD h4] at h';cases h';exact hA1.tail.2
     ·rw[aD h4];unfold UE at hc2;simp only[h4,f7] at hc2;exact hc2
    ·refine⟨0,fun t r e h'=>?_,?_⟩
     ·rw[aC h4] at h';cases h'
     ·rw[aC h4];unfold UE at hc2;simp only[h4,fN] at hc2;exact hc2
  obtain⟨m,hm1,hc⟩:=a2q s hs lv n d h h1 h2 h3;have e:bU dM (f+1) .prim lv d ts=bU dM 1 .prim lv d ts:=by
   conv=>lhs;unfold bU
   conv=>rhs;unfold bU
   rw[aC h1,aC h1,aC h2,aC h2,aC h3,aC h3]
  rw[e];exact⟨m,hm1,hc⟩
def kM (s:List UInt8):Nat:=10*s.length+10
theorem wH:∀(n:Nat) (l:List UInt8),l.length<=n->(j6 l).length<=l.length
 |0,l,h=>by
  have:l=[]:=aM (by omega);subst this;rw[lI rfl];simp
 |n+1,l,h=>by
  cases hk:skip l with
  |nil=>rw[lI hk];simp
  |cons c t=>
   rw[oA hk];have h1:=CX l;rw[hk] at h1;have h2:=oQ c t;simp only[aI] at h1⊢;have:=wH n ((c::t).drop (mL (c::t))) (by simp;omega);simp only[d9,aI] at this;omega
theorem a4j [MaxL] (s:List UInt8) (hs:s.length<=20000):SC Tryz.prog 194 [.s s] [] (.val (match bU dM (kM s) .or 0 0 (j6 s) with
  |some (t,r,e)=>.tup [t.gv,.i .i64 (e:Nat),.b (r.headD []==[])]
  |none=>.tup [.o .nilIface,.i .i64 0,.b false])) []:=by
 have hm:s.length<b9:=by unfold b9;omega
 have h0:At s 0 (j6 s):=⟨zL _,rfl⟩;have hl:=wH s.length s (rL _);obtain⟨io,_⟩:=a8d s hs (kM s) 0 0 0 (j6 s) h0 (by omega);obtain⟨m,hm1,hc⟩:=io (by unfold kM;omega);cases hp:bU dM (kM s) .or 0 0 (j6 s) with
 |none=>
  rw[hp] at hc;replace hc:SC Tryz.prog 248 [.ptr 0 0,.i .i64 (0:Nat)] [rd s 0 (0:Nat)] (.panic gX) [.dead]:=hc;refine cO Tryz.func194 rfl ?_;conv=>whnf
  refine TE (q:=3) hc ?_;conv=>whnf
  refine BQ (g:=.tup [.o .nilIface,.i .i64 0,.b false]) ?_ ?_ ?_
  ·kernel_rfl
  ·exact .refl _
  ·exact fun _=>rfl
 |some p=>
  obtain⟨t,r,e⟩:=p;rw[hp] at hc;replace hc:SC Tryz.prog 248 [.ptr 0 0,.i .i64 (0:Nat)] [rd s 0 (0:Nat)] (.val t.gv) [rd s m e]:=hc;obtain⟨hA,hnb⟩:=hm1 _ _ _ hp;have hwd:=rD s m e hA hm;rw[hnb] at hwd;refine bQ oP mixed Tryz.func194 rfl (bL rfl) (rL _) rfl ?_;conv=>whnf
  refine BL (q:=3) hc (fun _=>rfl) (fun _=>rfl) (fun _=>rfl) t.cl ?_;conv=>whnf
  refine sT ?_;conv=>whnf
  refine GDraw.wild _ _ _ rfl rfl rfl (by kernel_rfl) ?_;conv=>whnf
  refine a6h (q:=3) hwd rfl (wR _) rfl (fun _=>rfl) (fun _=>rfl) (fun _=>rfl) ?_;conv=>whnf
  refine sT ?_;conv=>whnf
  refine sT ?_;conv=>whnf
  refine sT ?_;conv=>whnf
  exact cZ (.refl _) (i8 (.cons t.cl (.cons (.i _ _) (.cons (.b _) .nil))))
theorem NS:∀(n:Nat) (l:List UInt8),l.length<=n->∀w∈j6 l,w≠[]
 |0,l,h,w,hw=>by
  have:l=[]:=aM (by omega);subst this;rw[lI rfl] at hw;cases hw
 |n+1,l,h,w,hw=>by
  cases hk:skip l with
  |nil=>rw[lI hk] at hw;cases hw
  |cons c t=>
   rw[oA hk] at hw;have h1:=CX l;rw[hk] at h1;have h2:=oQ c t;simp only[aI] at h1;rcases List.mem_cons.1 hw with rfl|hw
   ·intro e;have:=aR List.length e;unfold NK at this;rw[aS] at this;simp at this;omega
   ·exact NS n ((c::t).drop (mL (c::t))) (by simp;omega) w hw
inductive RdE where
 |ok (t:Tree)
 |err (e:Int)
def iP (s:List UInt8):RdE:=if 1000<s.length then .err 3 else match bU dM (kM s) .or 0 0 (j6 s) with
 |some (t,r,e)=>if r.headD []==[] then(if 20<e then .err 4 else .ok t.flat) else .err 2
 |none=>.err 2
theorem EM (v:Val):tV [v]=v.ok:=by simp[tV]
theorem Y5 [MaxL] (t:Term) (h:t.name.length<1000000000):SC Tryz.prog 252 [t.gv] [] (.val (.s t.txt)) []:=by
 obtain⟨nm,vr,v⟩:=t;refine cO Tryz.func252 rfl ?_;conv=>whnf
 cases vr with
 |true=>
  conv=>whnf
  refine⟨by show 1+nm.length<4611686018427387904;have h':nm.length<1000000000:=h;omega,58::nm,rfl,?_⟩;conv=>whnf
  exact gO rfl
 |false=>
  conv=>whnf
  apply gM<;>intro hn<;>conv=>whnf
  ·have hn':nm≠[]:=by simpa using hn
   refine gO ?_;show nm=if nm≠[] then nm else UO v;rw[aD hn']
  ·have hn':nm=[]:=by simpa using hn
   subst hn';have hIT:=CQ [v] (by show 1<b9;decide);refine bT hIT (wC (bY _ _) Wks.nil) rfl (cC (bK (lH _)) jF) (.s _) ?_;(conv=>whnf);refine gO ?_;rw[EM];show(if v.ok=true then nV [v] else[])=UO v;unfold UO;have:nV [v]=eY v:=Lib.join_one _ _;rw[this]
theorem DY [MaxL] (t:Tree):(∀a l r,t=.pair a l r->SC Tryz.prog 377 [.agg t.cs] [] (.val (.i .i64 (t.level:Nat))) [])/\(∀x,t=.no x->SC Tryz.prog 378 [.agg t.cs] [] (.val (.i .i64 (t.level:Nat))) [])/\
  (∀o l r,t=.test o l r->SC Tryz.prog 376 [.agg t.cs] [] (.val (.i .i64 (t.level:Nat))) [])/\(∀b,t=.truth b->SC Tryz.prog 379 [.agg t.cs] [] (.val (.i .i64 (t.level:Nat))) []):=by
 refine⟨fun a l r h=>?_,fun x h=>?_,fun o l r h=>?_,fun b h=>?_⟩
 ·subst h;refine cO Tryz.func377 rfl ?_;conv=>whnf
  exact bB rfl
 ·subst h;refine cO Tryz.func378 rfl ?_;conv=>whnf
  exact bB rfl
 ·subst h;refine cO Tryz.func376 rfl ?_;conv=>whnf
  exact bB rfl
 ·subst h;refine cO Tryz.func379 rfl ?_;conv=>whnf
  exact bB rfl
theorem t6 (b:Bool) (s:List UInt8):s.length<=(paren b s).length/\(paren b s).length<=s.length+2:=by
 unfold paren;cases b<;>simp<;>omega
theorem VP [MaxL] (t:Tree) (k:Nat) (hb:t.plain.length<1000000000) (hc:SC Tryz.prog 196 [t.gv] [] (.val (.s t.plain)) []):
  SC Tryz.prog 251 [t.gv,.i .i64 (k:Nat)] [] (.val (.s (paren (decide (t.level<k)) t.plain))) []:=by
 obtain⟨h1,h2,h3,h4⟩:=DY t;refine cO Tryz.func251 rfl ?_;conv=>whnf
 refine bT hc (wR _) rfl (cC t.cl .nil) (.s _) ?_;conv=>whnf
 cases t with
 |pair a l r=>
  conv=>whnf
  refine bT (h1 a l r rfl) (wR _) rfl (cC (eQ (iG _)) .nil) (.i _ _) ?_;conv=>whnf
  apply gM<;>intro hlt<;>conv=>whnf
  ·have hd:decide ((Tree.pair a l r).level<k)=true:=by simpa using hlt
   refine⟨by show 1+(Tree.pair a l r).plain.length<4611686018427387904;omega,40::(Tree.pair a l r).plain,rfl,?_⟩;(conv=>whnf);refine⟨by show(Tree.pair a l r).plain.length+1+1<4611686018427387904;omega,40::((Tree.pair a l r).plain++[41]),rfl,?_⟩;(conv=>whnf);refine gO ?_;rw[hd];rfl
  ·have hd:decide ((Tree.pair a l r).level<k)=false:=by simpa using hlt
   refine gO ?_;rw[hd];rfl
 |no x=>
  conv=>whnf
  refine bT (h2 x rfl) (wR _) rfl (cC (eQ (iG _)) .nil) (.i _ _) ?_;conv=>whnf
  apply gM<;>intro hlt<;>conv=>whnf
  ·have hd:decide ((Tree.no x).level<k)=true:=by simpa using hlt
   refine⟨by show 1+(Tree.no x).plain.length<4611686018427387904;omega,40::(Tree.no x).plain,rfl,?_⟩;(conv=>whnf);refine⟨by show(Tree.no x).plain.length+1+1<4611686018427387904;omega,40::((Tree.no x).plain++[41]),rfl,?_⟩;(conv=>whnf);refine gO ?_;rw[hd];rfl
  ·have hd:decide ((Tree.no x).level<k)=false:=by simpa using hlt
   refine gO ?_;rw[hd];rfl
 |test o l r=>
  conv=>whnf
  refine bT (h3 o l r rfl) (wR _) rfl (cC (eQ (iG _)) .nil) (.i _ _) ?_;conv=>whnf
  apply gM<;>intro hlt<;>conv=>whnf
  ·have hd:decide ((Tree.test o l r).level<k)=true:=by simpa using hlt
   refine⟨by show 1+(Tree.test o l r).plain.length<4611686018427387904;omega,40::(Tree.test o l r).plain,rfl,?_⟩;(conv=>whnf);refine⟨by show(Tree.test o l r).plain.length+1+1<4611686018427387904;omega,40::((Tree.test o l r).plain++[41]),rfl,?_⟩;(conv=>whnf);refine gO ?_;rw[hd];rfl
  ·have hd:decide ((Tree.test o l r).level<k)=false:=by simpa using hlt
   refine gO ?_;rw[hd];rfl
 |truth b=>
  conv=>whnf
  refine bT (h4 b rfl) (wR _) rfl (cC (eQ (iG _)) .nil) (.i _ _) ?_;conv=>whnf
  apply gM<;>intro hlt<;>conv=>whnf
  ·have hd:decide ((Tree.truth b).level<k)=true:=by simpa using hlt
   refine⟨by show 1+(Tree.truth b).plain.length<4611686018427387904;omega,40::(Tree.truth b).plain,rfl,?_⟩;(conv=>whnf);refine⟨by show(Tree.truth b).plain.length+1+1<4611686018427387904;omega,40::((Tree.truth b).plain++[41]),rfl,?_⟩;(conv=>whnf);refine gO ?_;rw[hd];rfl
  ·have hd:decide ((Tree.truth b).level<k)=false:=by simpa using hlt
   refine gO ?_;rw[hd];rfl
def Tree.nice:Tree->Prop
 |.pair _ l r=>l.nice/\r.nice
 |.no t=>t.nice
 |.test op l r=>op.length<=2/\(l.name.length<=16/\l.txt.length<=180)/\(r.name.length<=16/\r.txt.length<=180)
 |.truth _=>True
theorem I2 [MaxL]:∀t:Tree,t.nice->t.plain.length<1000000->SC Tryz.prog 196 [t.gv] [] (.val (.s t.plain)) []
 |.pair a l r,hn,hb=>by
  have e:(Tree.pair a l r).plain=paren (decide (l.level<lL a)) l.plain++pQ a++paren (decide (r.level<lL a)) r.plain:=rfl;rw[e] at hb;simp only[aG] at hb;have p1:=t6 (decide (l.level<lL a)) l.plain;have p2:=t6 (decide (r.level<lL a)) r.plain;have s1:=VP l (lL a) (by omega) (I2 l hn.1 (by omega));have s2:=VP r (lL a) (by omega) (I2 r hn.2 (by omega));rw[e];generalize paren (decide (l.level<lL a)) l.plain=x1 at*;generalize paren (decide (r.level<lL a)) r.plain=x2 at*;refine cO Tryz.func196 rfl ?_;conv=>whnf
  refine sT ?_;conv=>whnf
  cases a with
  |true=>
   (conv=>whnf);refine lQ ?_;(conv=>whnf);refine bT s1 (wR _) rfl (cC l.cl (.cons (.i _ _) .nil)) (.s _) ?_;(conv=>whnf);refine⟨by show x1.length+(pQ true).length<4611686018427387904;omega,x1++pQ true,rfl,?_⟩;(conv=>whnf);refine bT s2 (wR _) rfl (cC r.cl (.cons (.i _ _) .nil)) (.s _) ?_;(conv=>whnf);refine⟨by show(x1++pQ true).length+x2.length<4611686018427387904;rw[aG];omega,x1++pQ true++x2,rfl,?_⟩;(conv=>whnf);exact gO rfl
  |false=>
   (conv=>whnf);refine lQ ?_;(conv=>whnf);refine bT s1 (wR _) rfl (cC l.cl (.cons (.i _ _) .nil)) (.s _) ?_;(conv=>whnf);refine⟨by show x1.length+(pQ false).length<4611686018427387904;omega,x1++pQ false,rfl,?_⟩;(conv=>whnf);refine bT s2 (wR _) rfl (cC r.cl (.cons (.i _ _) .nil)) (.s _) ?_;(conv=>whnf);refine⟨by show(x1++pQ false).length+x2.length<4611686018427387904;rw[aG];omega,x1++pQ false++x2,rfl,?_⟩;(conv=>whnf);exact gO rfl
 |.no t,hn,hb=>by
  have e:(Tree.no t).plain=kX++[32]++paren (decide (t.level<4)) t.plain:=rfl;rw[e] at hb;simp only[aG] at hb;have p1:=t6 (decide (t.level<4)) t.plain;have s1:=VP t 4 (by omega) (I2 t hn (by omega));rw[e];generalize paren (decide (t.level<4)) t.plain=x1 at*;refine cO Tryz.func196 rfl ?_;conv=>whnf
  refine sT ?_;conv=>whnf
  refine bT s1 (wR _) rfl (cC t.cl (.cons (.i _ _) .nil)) (.s _) ?_;conv=>whnf
  refine⟨by show 4+x1.length<4611686018427387904;omega,kX++[32]++x1,rfl,?_⟩;conv=>whnf
  exact gO rfl
 |.test op l r,hn,hb=>by
  have s1:=Y5 l (by have:=hn.2.1.1;omega);have s2:=Y5 r (by have:=hn.2.2.1;omega);have e:(Tree.test op l r).plain=l.txt++[32]++op++[32]++r.txt:=rfl;rw[e] at hb;simp only[aG] at hb;rw[e];generalize l.txt=x1 at*;generalize r.txt=x2 at*;refine cO Tryz.func196 rfl ?_;conv=>whnf
  refine sT ?_;conv=>whnf
  refine lQ ?_;conv=>whnf
  refine sL s1 ?_;conv=>whnf
  refine⟨by show x1.length+1<4611686018427387904;omega,x1++[32],rfl,?_⟩;conv=>whnf
  refine⟨by show(x1++[32]).length+op.length<4611686018427387904;rw[aG];simp only[aI,bO] at hb⊢;omega,x1++[32]++op,rfl,?_⟩;conv=>whnf
  refine⟨by show(x1++[32]++op).length+1<4611686018427387904;simp only[aG,aI,bO] at hb⊢;omega,x1++[32]++op++[32],rfl,?_⟩;conv=>whnf
  refine sL s2 ?_;conv=>whnf
  refine⟨by show(x1++[32]++op++[32]).length+x2.length<4611686018427387904;simp only[aG,aI,bO] at hb⊢;omega,x1++[32]++op++[32]++x2,rfl,?_⟩;conv=>whnf
  exact gO rfl
 |.truth b,hn,hb=>by
  refine cO Tryz.func196 rfl ?_;conv=>whnf
  refine sT ?_;conv=>whnf
  cases b with
  |true=>
   (conv=>whnf);exact gO rfl
  |false=>
   (conv=>whnf);exact gO rfl
theorem BG:∀(t:Tree) (k:Nat),t.deep k<=2*t.size
 |.pair a l r,k=>by
  have h1:=BG l (lL a);have h2:=BG r (lL a);simp only[Tree.deep,Tree.size];split<;>omega
 |.no t,k=>by
  have h1:=BG t 4;simp only[Tree.deep,Tree.size];split<;>omega
 |.test _ _ _,k=>by simp only[Tree.deep,Tree.size];split<;>omega
 |.truth _,k=>by simp only[Tree.deep,Tree.size];split<;>omega
theorem PT [MaxL]:∀(t:Tree) (k:Nat),t.size<1000000000->SC Tryz.prog 197 [t.gv,.i .i64 (k:Nat)] [] (.val (.i .i64 (t.deep k:Nat))) []
 |.pair a l r,k,hb=>by
  simp only[Tree.size] at hb;have s1:=PT l (lL a) (by omega);have s2:=PT r (lL a) (by omega);have d1:=BG l (lL a);have d2:=BG r (lL a);have e:(Tree.pair a l r).deep k=(if lL a<k then 1 else 0)+max (l.deep (lL a)) (r.deep (lL a)):=rfl;rw[e];generalize l.deep (lL a)=x1 at*;generalize r.deep (lL a)=x2 at*;obtain⟨h1,_⟩:=DY (.pair a l r);refine cO Tryz.func197 rfl ?_;conv=>whnf
  refine bT (h1 a l r rfl) (wR _) rfl (cC (eQ (iG _)) .nil) (.i _ _) ?_;conv=>whnf
  apply gM<;>intro hlt<;>conv=>whnf
  ·have hd:lL a<k:=Int.ofNat_lt.1 (aB hlt);rw[aD hd];refine sT ?_;(conv=>whnf);refine lQ ?_;(conv=>whnf);refine bT s1 (wR _) rfl (cC l.cl (.cons (.i _ _) .nil)) (.i _ _) ?_;(conv=>whnf);refine bT s2 (wR _) rfl (cC r.cl (.cons (.i _ _) .nil)) (.i _ _) ?_;(conv=>whnf);refine bB ?_;show IntKind.i64.wrap ((1:Int)+(if(x1:Int)<(x2:Int) then(x2:Int) else(x1:Int)))=_;rw[dB (by split<;>omega) (by split<;>omega)];split<;>omega
  ·have hd:¬lL a<k:=fun h=>(aA hlt) (Int.ofNat_lt.2 h);rw[aC hd];refine sT ?_;(conv=>whnf);refine lQ ?_;(conv=>whnf);refine bT s1 (wR _) rfl (cC l.cl (.cons (.i _ _) .nil)) (.i _ _) ?_;(conv=>whnf);refine bT s2 (wR _) rfl (cC r.cl (.cons (.i _ _) .nil)) (.i _ _) ?_;(conv=>whnf);refine bB ?_;show IntKind.i64.wrap ((0:Int)+(if(x1:Int)<(x2:Int) then(x2:Int) else(x1:Int)))=_;rw[dB (by split<;>omega) (by split<;>omega)];split<;>omega
 |.no t,k,hb=>by
  simp only[Tree.size] at hb;have s1:=PT t 4 (by omega);have d1:=BG t 4;have e:(Tree.no t).deep k=(if 3<k then 1 else 0)+1+t.deep 4:=rfl;rw[e];generalize t.deep 4=x1 at*;obtain⟨_,h2,_⟩:=DY (.no t);refine cO Tryz.func197 rfl ?_;conv=>whnf
  refine bT (h2 t rfl) (wR _) rfl (cC (eQ (iG _)) .nil) (.i _ _) ?_;conv=>whnf
  apply gM<;>intro hlt<;>conv=>whnf
  ·have hd:3<k:=Int.ofNat_lt.1 (aB hlt);rw[aD hd];refine sT ?_;(conv=>whnf);refine bT s1 (wR _) rfl (cC t.cl (.cons (.i _ _) .nil)) (.i _ _) ?_;(conv=>whnf);refine bB ?_;show IntKind.i64.wrap (IntKind.i64.wrap (1+1)+(x1:Int))=_;rw[show IntKind.i64.wrap (1+1)=2 by decide,dB (by omega) (by omega)];omega
  ·have hd:¬3<k:=fun h=>(aA hlt) (Int.ofNat_lt.2 h);rw[aC hd];refine sT ?_;(conv=>whnf);refine bT s1 (wR _) rfl (cC t.cl (.cons (.i _ _) .nil)) (.i _ _) ?_;(conv=>whnf);refine bB ?_;show IntKind.i64.wrap (IntKind.i64.wrap (0+1)+(x1:Int))=_;rw[show IntKind.i64.wrap (0+1)=1 by decide,dB (by omega) (by omega)];omega
 |.test o l r,k,hb=>by
  obtain⟨_,_,h3,_⟩:=DY (.test o l r);refine cO Tryz.func197 rfl ?_;conv=>whnf
  refine bT (h3 o l r rfl) (wR _) rfl (cC (eQ (iG _)) .nil) (.i _ _) ?_;conv=>whnf
  apply gM<;>intro hlt<;>conv=>whnf
  ·have hd:4<k:=Int.ofNat_lt.1 (aB hlt);refine bB ?_;show _=(((if 4<k then 1 else 0:Nat)):Int);rw[aD hd];rfl
  ·have hd:¬4<k:=fun h=>(aA hlt) (Int.ofNat_lt.2 h);refine bB ?_;show _=(((if 4<k then 1 else 0:Nat)):Int);rw[aC hd];rfl
 |.truth b,k,hb=>by
  obtain⟨_,_,_,h4⟩:=DY (.truth b);refine cO Tryz.func197 rfl ?_;conv=>whnf
  refine bT (h4 b rfl) (wR _) rfl (cC (eQ (iG _)) .nil) (.i _ _) ?_;conv=>whnf
  apply gM<;>intro hlt<;>conv=>whnf
  ·have hd:4<k:=Int.ofNat_lt.1 (aB hlt);refine bB ?_;show _=(((if 4<k then 1 else 0:Nat)):Int);rw[aD hd];rfl
  ·have hd:¬4<k:=fun h=>(aA hlt) (Int.ofNat_lt.2 h);refine bB ?_;show _=(((if 4<k then 1 else 0:Nat)):Int);rw[aC hd];rfl
end
section
open Go.RowKit Go.Sort
theorem a4s [MaxL] (n:Nat) (h1:1<=n) (h2:n<=1000000):SC Tryz.prog 306 [.sl .full [],.i .i64 (n:Nat)] [] (.val (.sl (.own 0) [])) [.own 0 1 187]:=by
 refine⟨by simp,fun C w vs hr hv=>?_,by simp⟩;obtain⟨v,vs',e,hv1,hv2⟩:=hv.cons_inv;obtain⟨v2,vs'',rfl,hv3,hv4⟩:=hv2.cons_inv;have:vs''=[]:=aM (by simpa using hv4.1);subst this;obtain rfl:vs= #[v,v2]:=by rw[<-fH (xs:=vs),e]
 cases hv3;cases hv1 with
 |sl esz b off us hn hc ha hw hx hvv ht=>
 obtain⟨hc0,ha0⟩:=ht;obtain rfl:=ha0 rfl;simp at hn hc0;subst hn;subst hc0;obtain⟨i0,hi0⟩:∃i0,Tryz.prog.info? (Tryz.growN_ren.t 25)=some i0:=Option.isSome_iff_exists.1 (by kernel_rfl);have hz:(Tryz.prog.info? (Tryz.growN_ren.t 25)).bind (·.zero)=some .nilIface:=by kernel_rfl
 have hsz:(Tryz.prog.info? (Tryz.growN_ren.t 25)).map (·.size)=some 1:=by kernel_rfl
 have hby:(Tryz.prog.info? (Tryz.growN_ren.t 25)).map (·.bytes)=some 16:=by kernel_rfl
 rw[hi0] at hz hsz hby;replace hz:i0.zero=some .nilIface:=hz;replace hsz:i0.size=1:=by simpa using hsz
 replace hby:i0.bytes=16:=by simpa using hby
 have key:=Any8.slices_Grow_grow Tryz.growN i0 .nilIface hi0 hz (by omega) none 0 0 n [] w (rL _) (by omega) (by rw[hby];omega) (by omega) (by simp) (fun _=>rfl) (fun a h=>by cases h);refine Calls.mono key ?_;rintro e w' ⟨rfl,rfl⟩;have hge:=grownCap_ge w (0+n) 0 (Tryz.growN_ren.t 25);have hty:Tryz.growN_ren.t 25=187:=by kernel_rfl
 rw[hty] at hge⊢;generalize grownCap w (0+n) 0 187=cap at*;generalize harr:(([]:List Value).toArray++Builtin.zeroCells (Value.cells .nilIface) (0+n - 0)++Builtin.zeroCells (Value.cells .nilIface) (cap - (0+n)))=arr;have hsize:arr.size=cap:=by
  rw[<-harr];have z:∀k,(Builtin.zeroCells (Value.cells .nilIface) k).size=k:=fun k=>by
   have:(Value.cells .nilIface).size=1:=rfl;simp[Builtin.zeroCells,this]
  simp only[Array.size_append,z];simp;omega
 obtain⟨D,hl,hown,_,hrel⟩:=hr.drew.newRow 0 1 187 (hr.drew.newAt _) arr (by omega) (by omega);refine⟨D,hl,hrel,_,rfl,.sl 1 w.heap.size 0 (fun _=>undef) rfl (zL _) (.inr (.inl rfl)) (fun x hx=>by cases hx) (fun i x j g h=>by simp at h) (fun i x j g h=>by simp at h) ⟨_,hown,rL _,fun _=>rfl,fun _=>.inr ⟨_,_,rfl,rfl,?_⟩⟩⟩;show cap*1<=arr.size;omega
end
section
open Go.RowKit
def eM (l:List Tree):List GV:=l.map Tree.gv
theorem kU [MaxL] (l:List Tree):ClL (eM l):=iA jE l
theorem LY (l:List Tree):(eM l).all (fun x=>x.cells.length==1)=true:=by
 rw[aQ];intro x hx;obtain⟨v,_,rfl⟩:=List.mem_map.1 hx;rfl
theorem FX (l:List Tree):(eM l).all (sO 1)=true:=by
 rw[aQ];intro x hx;obtain⟨v,_,rfl⟩:=List.mem_map.1 hx;rfl
theorem a0E [MaxL] (x y:Tree) (xs ys:List Tree) (hx:(x::xs).length<=100000) (hy:(y::ys).length<=100000):
  SC Tryz.prog 294 [.sl .none [.sl .none (eM (x::xs)),.sl .none (eM (y::ys))]] [] (.val (.sl .none (eM ((x::xs)++(y::ys))))) []:=by
 have e1:(eM (x::xs)).length=(x::xs).length:=by simp[eM]
 have e2:(eM (y::ys)).length=(y::ys).length:=by simp[eM]
 have hg:=a4s ((x::xs).length+(y::ys).length) (by simp;omega) (by omega);have hgt:∀l:List Tree,(eM l).length=l.length:=fun l=>by simp[eM]
 generalize hA:x::xs=A at*;generalize hB:y::ys=B at*;have hA0:A.length≠0:=by rw[<-hA];simp
 have hB0:B.length≠0:=by rw[<-hB];simp
 clear hA hB;refine cO Tryz.func294 rfl ?_;conv=>whnf
 refine dD (fun q:Nat×Nat=>(q=(0,0))∨q=(1,A.length)∨q=(2,A.length+B.length)) (fun q=>[(0,.sl .none [.sl .none (eM A),.sl .none (eM B)]),(3,.i .i64 (q.2:Nat)),(9,.sl .none [.sl .none (eM A),.sl .none (eM B)]),(10,.i .i64 2),(11,.i .i64 (q.1:Nat))]) (fun _=>⟨[.own 0 0 0],0,[]⟩) (fun q=>2 - q.1) (0,0) (.inl rfl) ⟨rfl,rfl,rfl,rfl,rfl,trivial⟩ rfl (fun q φ0 hq=>?_);rcases hq with rfl|rfl|rfl
 ·conv=>whnf
  refine⟨eU 0,_,rfl,rfl,?_⟩;conv=>whnf
  have hw:IntKind.i64.wrap (((0:Nat):Int)+((eM A).length:Int))=(A.length:Int):=by rw[e1,dB (by omega) (by omega)];omega
  apply gM<;>intro hneg<;>conv=>whnf
  ·exfalso;have h9:=aB hneg;rw[hw] at h9;omega
  exact⟨1,by decide,(1,A.length),.inr (.inl rfl),rfl,⟨rfl,by rw[<-hw];rfl,rfl,rfl,rfl,trivial⟩,rfl⟩
 ·conv=>whnf
  refine⟨jR 1,_,rfl,rfl,?_⟩;conv=>whnf
  have hw:IntKind.i64.wrap ((A.length:Int)+((eM B).length:Int))=((A.length+B.length:Nat):Int):=by rw[e2,dB (by omega) (by omega)];omega
  apply gM<;>intro hneg<;>conv=>whnf
  ·exfalso;have h9:=aB hneg;rw[hw] at h9;omega
  exact⟨0,Nat.zero_lt_one,(2,A.length+B.length),.inr (.inr rfl),rfl,⟨rfl,by rw[<-hw];rfl,rfl,rfl,rfl,trivial⟩,rfl⟩
 ·conv=>whnf
  refine uN hg [] (objs':=[.own 0 0 0,.own 0 1 187]) Lies.nil (wR _) rfl rfl rfl rfl ?_;conv=>whnf
  refine dD (fun q:Nat×List Tree=>(q=(0,[]))∨q=(1,A)∨q=(2,A++B)) (fun q=>[(6,.sl (.own 1) (eM q.2)),(25,.sl .none [.sl .none (eM A),.sl .none (eM B)]),(26,.i .i64 2),(27,.i .i64 (q.1:Nat))]) (fun q=>⟨[.own 0 0 0,.own q.2.length 1 187],0,[]⟩) (fun q=>2 - q.1) (0,[]) (.inl rfl) ⟨rfl,rfl,rfl,rfl,trivial⟩ rfl (fun q φ1 hq=>?_);rcases hq with rfl|rfl|rfl
  ·(conv=>whnf);refine⟨eU 0,_,rfl,rfl,?_⟩;(conv=>whnf);refine bZ (fun hemp=>?_) (fun hemp=>?_)
   ·exfalso;have:(eM A).length=0:=by rw[List.isEmpty_iff.1 hemp];rfl
    omega
   (conv=>whnf);refine⟨⟨FX A,rfl,by show 0+(eM A).length<=4294967296;omega⟩,eM A,A.length,⟨rfl,by show _=0+(eM A).length;omega⟩,?_⟩;(conv=>whnf);refine aN ?_;(conv=>whnf);exact⟨1,by decide,(1,A),.inr (.inl rfl),rfl,⟨rfl,rfl,rfl,rfl,trivial⟩,rfl⟩
  ·(conv=>whnf);refine⟨jR 1,_,rfl,rfl,?_⟩;(conv=>whnf);refine bZ (fun hemp=>?_) (fun hemp=>?_)
   ·exfalso;have:(eM B).length=0:=by rw[List.isEmpty_iff.1 hemp];rfl
    omega
   (conv=>whnf);refine⟨⟨FX B,LY A,by show(eM A).length+(eM B).length<=4294967296;omega⟩,eM (A++B),(A++B).length,⟨by simp[eM],by show _=(eM A).length+(eM B).length;rw[aG];omega⟩,?_⟩;(conv=>whnf);refine⟨⟨zL _,by rw[e1],.inl ⟨rfl,rfl⟩⟩,?_⟩;(conv=>whnf);exact⟨0,Nat.zero_lt_one,(2,A++B),.inr (.inr rfl),rfl,⟨rfl,rfl,rfl,rfl,trivial⟩,rfl⟩
  ·(conv=>whnf);exact cZ (bY _ _) (bK (kU _))
theorem n9 {a:Bool}:∀t:Tree,(t.sides a).length<=t.size
 |.pair b l r=>by
  have h1:=n9 (a:=a) l;have h2:=n9 (a:=a) r;unfold Tree.sides;split
  ·rw[aG];simp only[Tree.size];omega
  ·simp only[Tree.size,aI,bO];omega
 |.no t=>by simp[Tree.sides,Tree.size]
 |.test _ _ _=>by simp[Tree.sides,Tree.size]
 |.truth _=>by simp[Tree.sides,Tree.size]
theorem a6C (a b:Bool):((lL a:Nat):Int)=((lL b:Nat):Int)↔a=b:=by cases a<;>cases b<;>decide
theorem PP [MaxL] (a:Bool):∀t:Tree,t.size<=50000->SC Tryz.prog 250 [t.gv,.i .i64 (lL a:Nat)] [] (.val (.sl .none (eM (t.sides a)))) []
 |.pair b l r,hb=>by
  simp only[Tree.size] at hb;have s1:=PP a l (by omega);have s2:=PP a r (by omega);have l1:=n9 (a:=a) l;have l2:=n9 (a:=a) r;obtain⟨x,xs,hx⟩:=iI (tR a l);obtain⟨y,ys,hy⟩:=iI (tR a r);have hcc:=a0E x y xs ys (by rw[<-hx];omega) (by rw[<-hy];omega);rw[<-hx,<-hy] at hcc;refine cO Tryz.func250 rfl ?_;conv=>whnf
  refine sT ?_;conv=>whnf
  apply gM<;>intro heq<;>conv=>whnf
  ·have hab:a=b:=by
    have:=(a6C b a).1 (eq_of_beq heq);exact this.symm
   have e:(Tree.pair b l r).sides a=l.sides a++r.sides a:=aD hab;rw[e];refine lQ ?_;(conv=>whnf);refine bT s1 (wR _) rfl (cC l.cl (.cons (.i _ _) .nil)) (bK (kU _)) ?_;(conv=>whnf);refine bT s2 (wR _) rfl (cC r.cl (.cons (.i _ _) .nil)) (bK (kU _)) ?_;(conv=>whnf);refine bT hcc (wC (bY _ _) Wks.nil) rfl (cC (bK (.cons (bK (kU _)) (.cons (bK (kU _)) .nil))) .nil) (bK (kU _)) ?_;(conv=>whnf);exact cZ (.refl _) (bK (kU _))
  ·have hab:¬a=b:=fun e=>by subst e;simp at heq
   have e:(Tree.pair b l r).sides a=[.pair b l r]:=aC hab;rw[e];(conv=>whnf);exact cZ (bY _ _) (bK (kU _))
 |.no t,hb=>by
  refine cO Tryz.func250 rfl ?_;conv=>whnf
  refine sT ?_;conv=>whnf
  exact cZ (bY _ _) (bK (kU [.no t]))
 |.test o l r,hb=>by
  refine cO Tryz.func250 rfl ?_;conv=>whnf
  refine sT ?_;conv=>whnf
  exact cZ (bY _ _) (bK (kU [.test o l r]))
 |.truth b,hb=>by
  refine cO Tryz.func250 rfl ?_;conv=>whnf
  refine sT ?_;conv=>whnf
  exact cZ (bY _ _) (bK (kU [.truth b]))
theorem a4P (t:Tree):(Tree.no t).flat=.no t.flat:=rfl
theorem L6 [MaxL]:∀(n:Nat) (t:Tree),t.size<=n->n<=50000->SC Tryz.prog 195 [t.gv] [] (.val t.flat.gv) []
 |0,t,h,_=>by cases t<;>simp only[Tree.size] at h<;>omega
 |n+1,.no t,h,hn=>by
  have s1:=L6 n t (by simp only[Tree.size] at h;omega) (by omega);rw[a4P];refine cO Tryz.func195 rfl ?_;conv=>whnf
  refine sT ?_;conv=>whnf
  refine bT s1 (wR _) rfl (cC t.cl .nil) t.flat.cl ?_;conv=>whnf
  exact cZ (.refl _) (jE (.no t.flat))
 |n+1,.test o l r,h,hn=>by
  refine cO Tryz.func195 rfl ?_;conv=>whnf
  exact cZ (.refl _) (jE (.test o l r))
 |n+1,.truth b,h,hn=>by
  refine cO Tryz.func195 rfl ?_;conv=>whnf
  exact cZ (.refl _) (jE (.truth b))
 |n+1,.pair a l r,h,hn=>by
  obtain⟨x,xs,hx,hf⟩:=FJ a l r;have hsz:∀y∈x::xs,y.size<=n:=fun y hy=>by
   have:=CZ (a:=a) (l:=l) (r:=r) (x:=y) (by rw[hx];exact hy);omega
  have hlen:=n9 (a:=a) (.pair a l r);rw[hx] at hlen;simp only[aI] at hlen;have s0:=PP a (.pair a l r) (by omega);rw[hx] at s0;have s1:=L6 n x (hsz x (by simp)) (by omega);have sy:∀y∈xs,SC Tryz.prog 195 [y.gv] [] (.val y.flat.gv) []:=fun y hy=>L6 n y (hsz y (by simp[hy])) (by omega);rw[hf];refine cO Tryz.func195 rfl ?_;conv=>whnf
  refine sT ?_;conv=>whnf
  refine bT s0 (wR _) rfl (cC (jE (.pair a l r)) (.cons (.i _ _) .nil)) (bK (kU _)) ?_;conv=>whnf
  refine⟨eU 0,x.gv,rfl,rfl,?_⟩;conv=>whnf
  refine bT s1 (wR _) rfl (cC x.cl .nil) x.flat.cl ?_;conv=>whnf
  have hlt2:(eM (x::xs)).length=xs.length+1:=by simp[eM]
  refine⟨LY (x::xs),?_⟩;conv=>whnf
  refine⟨by decide,?_⟩;conv=>whnf
  refine⟨⟨by show 1<=(eM (x::xs)).length;omega,rL _⟩,eM xs,?_,_,rfl,?_⟩
  ·show eM xs=((eM (x::xs)).drop 1).take _;rw[hlt2];simp[eM];exact(aW (by simp)).symm
  conv=>whnf
  refine dD (fun i:Nat=>i<=xs.length) (fun i=>[(4,.ptr 0 0),(6,((xs.take i).foldl (fun q y=>Tree.pair a q y.flat) x.flat).gv),(31,.sl _ (eM xs)),(32,.i .i64 (eM xs).length),(33,.i .i64 (i:Nat))]) (fun _=>⟨[.box 259 (Tree.pair a l r).cs],0,[]⟩) (fun i=>xs.length - i) 0 (zL _) ⟨rfl,rfl,rfl,rfl,rfl,trivial⟩ rfl (fun i φ0 hi=>?_);have hl3:(eM xs).length=xs.length:=by simp[eM]
  conv=>whnf
  apply gM<;>intro hlt<;>conv=>whnf
  ·have hlt':i<xs.length:=by have:=aB hlt;omega
   have htk:(xs.take (i+1)).foldl (fun q y=>Tree.pair a q y.flat) x.flat=.pair a ((xs.take i).foldl (fun q y=>Tree.pair a q y.flat) x.flat) xs[i].flat:=by
    rw[List.take_succ_eq_append_getElem hlt',k6];rfl
   have hsy:=sy xs[i] (dX hlt');have hgi:(eM xs)[i]?=some xs[i].gv:=by simp[eM,hlt']
   generalize xs[i]=y at*;refine⟨jR _,y.gv,by simpa using hgi,rfl,?_⟩;(conv=>whnf);refine lQ ?_;(conv=>whnf);refine bT hsy (wR _) rfl (cC y.cl .nil) y.flat.cl ?_;(conv=>whnf);refine fR (i+1) hlt' (by omega) ⟨rfl,?_,rfl,rfl,bH (by omega),trivial⟩ rfl;rw[htk];rfl
  ·have hie:i=xs.length:=by have:=aA hlt;omega
   subst hie;rw[aV];exact cZ (.refl _) (jE _)
end
