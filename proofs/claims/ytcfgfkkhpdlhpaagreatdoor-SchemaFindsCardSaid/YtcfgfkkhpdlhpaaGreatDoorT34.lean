/-
  A part of the proof of SchemaFinds.
-/
import Derived.Test.YtcfgfkkhpdlhpaaGreatDoorT33
set_option linter.all false
set_option maxRecDepth 100000
namespace Go.Proofs.YtcfgfkkhpdlhpaaGreatDoor
open Go.RowKit
theorem lS [MaxL] (n lo hi:Int):SC Tryz.prog 112 [.i .i64 n,.i .i64 lo,.i .i64 hi] [] (.val (.b (vR n lo hi))) []:=by
 unfold vR;refine cZ Tryz.func112 rfl ?_;conv=>whnf
 repeat' first
  |(refine aF (fun _=>?_) (fun _=>?_)<;>conv=>whnf)
  |(refine b9 (by kernel_rfl) ?_;conv=>whnf)
  |(refine⟨_,⟨rfl,zL _,rfl,bL rfl⟩,?_⟩;conv=>whnf)
 all_goals (rename_i h;refine d7 ?_;simp at h⊢;omega)
def O8 (kd:By) (i:Nat) (e:Int):GV:=.ifc 82 (.agg [.s kd,.i .i64 (i:Nat),.i .i64 e])
instance [MaxL] {kd:By} {i:Nat} {e:Int}:KG (O8 kd i e):=⟨fun _=>rfl⟩
def sH (kd:By) (i:Nat) (e:Int):GRes:=if e=0 then .val (.tup []) else .panic (O8 kd i e)
theorem MN [MaxL] (e:Nat->Nat) (kd:By) (i:Nat) (x:Int):(sH kd i x).ren e=sH kd i x:=by unfold sH;split<;>rfl
instance [MaxL] {e:Nat->Nat} {kd:By} {i:Nat} {x:Int}:RR e (sH kd i x) (sH kd i x):=⟨MN e kd i x⟩
instance [MaxL] {n:Nat} {kd:By} {i:Nat} {x:Int}:FR n (sH kd i x):=⟨fun e _=>MN e kd i x⟩
theorem uP [MaxL] (kd:By) (i:Nat) (e:Int):SC Tryz.prog 113 [.s kd,.i .i64 (i:Nat),.i .i64 e] [] (.panic (O8 kd i e)) []:=by
 refine cZ Tryz.func113 rfl ?_;conv=>whnf
 exact d6 0
abbrev kG (s:Sch) (m:List By):List GObj:=[.box 87 [.sl .none (vX s.ar),.sl .none (vU s.rc),.sl .none (rP s.st),.mp 1],.mp (wE m)]
theorem kU [MaxL] (w:Bool) (e:Int) (i:Nat) (he:w=true->e≠0):SC Tryz.prog 115 [.b w,.i .i64 e,.ptr 0 0] [.box 3 [.i .i64 (i:Nat)]] (sH lL i (if w then e else 0)) [.box 3 [.i .i64 (i:Nat)]]:=by
 cases w with
 |false=>
  refine cZ Tryz.func115 rfl ?_;conv=>whnf
  exact d6 1
 |true=>
  rw[aG rfl];unfold sH;rw[aE (he rfl)];refine cZ Tryz.func115 rfl ?_;conv=>whnf
  refine cS [] (uP lL i e) ?_;conv=>whnf
  exact d6 1
theorem gH [MaxL] (w:Bool) (e:Int) (i:Nat) (he:w=true->e≠0):SC Tryz.prog 122 [.b w,.i .i64 e,.ptr 0 0] [.box 3 [.i .i64 (i:Nat)]] (sH qS i (if w then e else 0)) [.box 3 [.i .i64 (i:Nat)]]:=by
 cases w with
 |false=>
  refine cZ Tryz.func122 rfl ?_;conv=>whnf
  exact d6 1
 |true=>
  rw[aG rfl];unfold sH;rw[aE (he rfl)];refine cZ Tryz.func122 rfl ?_;conv=>whnf
  refine cS [] (uP qS i e) ?_;conv=>whnf
  exact d6 1
theorem QU [MaxL] (s:Sch) (m:List By) (kd:By) (i:Nat) (n:By):SC Tryz.prog 114 [.ptr 0 0,.s kd,.i .i64 (i:Nat),.s n] (kG s m) (sH kd i (kN m n 0)) (kG s (if kN m n 0=0 then m++[n] else m)):=by
 have hn:=LI n;generalize hE:kN m n 0=E;unfold kN dZ at hE;generalize fV n=b at*;refine cZ Tryz.func114 rfl ?_;conv=>whnf
 refine cP hn ?_;conv=>whnf
 repeat' first
  |(refine aF (fun _=>?_) (fun _=>?_)<;>conv=>whnf)
  |(refine b9 (by kernel_rfl) ?_;conv=>whnf)
  |(refine⟨_,⟨rfl,zL _,rfl,bL rfl⟩,?_⟩;conv=>whnf)
 ·have:E=1:=by rw[<-hE];simp[*]
  subst this;refine cS [] (uP kd i 1) ?_;conv=>whnf
  show Owes _ _ (kG s m) _ _;exact d6 2
 ·rename_i hb hs;have:E=1:=by rw[<-hE,show(n==YX)=true from hs];simp
  subst this;refine cS [] (uP kd i 1) ?_;conv=>whnf
  show Owes _ _ (kG s m) _ _;exact d6 2
 ·rename_i hb hs;rw[hb,show(n==YX)=false from hs] at hE;cases hm:m.contains n with
  |true=>
   rw[hm] at hE;subst hE;obtain⟨k,hk⟩:=RN 0 hm;refine⟨some (k,.b true),hk,?_⟩;(conv=>whnf);refine cS [] (uP kd i 6) ?_;(conv=>whnf);show Owes _ _ (kG s m) _ _;exact d6 2
  |false=>
   rw[hm] at hE;subst hE;refine⟨none,K2 hm,?_⟩;(conv=>whnf);refine⟨zL _,none,K2 hm,?_⟩;(conv=>whnf);show Owes _ _ [_,.mp (wE (m++[n]))] _ _;have e:wE (m++[n])=wE m++[(.s n,.b true)]:=by unfold wE;rw[cO];rfl
   rw[e];exact d6 2
theorem FI [MaxL] {s:Sch} {m:List By} {kd:By} {i:Nat} {n:By} (h:kN m n 0=0):SC Tryz.prog 114 [.ptr 0 0,.s kd,.i .i64 (i:Nat),.s n] (kG s m) (.val (.tup [])) (kG s (m++[n])):=by
 have:=QU s m kd i n;rw[h] at this;exact this
theorem FJ [MaxL] {s:Sch} {m:List By} {kd:By} {i:Nat} {n:By} (h:kN m n 0≠0):SC Tryz.prog 114 [.ptr 0 0,.s kd,.i .i64 (i:Nat),.s n] (kG s m) (.panic (O8 kd i (kN m n 0))) (kG s m):=by
 have:=QU s m kd i n;unfold sH at this;rw[aE h,aE h] at this;exact this
theorem K1 (m:List By) (n:By) (b:Int):kN m n b=if kN m n 0=0 then b else kN m n 0:=by
 unfold kN dZ;cases(!fV n||n==YX)<;>cases m.contains n<;>simp
def vV (e:Int) (s:List GObj):List GObj:=if e=0 then s else[.dead,.dead]
def lK (s:Sch):Nat×Int:=if !vR s.ar.length 1 6 then(0,4) else(eS (fun i a=>mO ((dH s).take i) a) 0 s.ar).getD (0,0)
theorem pQ {kd:By} {i:Nat} {e:Int} (h:e≠0):sH kd i e=.panic (O8 kd i e):=aE h
theorem zZ [MaxL] {s:List GObj} {e:Int} (h:e≠0):vV e s=[.dead,.dead]:=aE h
theorem o8 {α:Type} {f:Nat->α->Int} {l:List α} {i:Nat} {y:α} (hy:l[i]?=some y) (hn:f i y≠0) (h:∀j z,j<i->l[j]?=some z->f j z=0):eS f 0 l=some (i,f i y):=by
 have:=IY (f:=f) (n:=0) hy (by rw[bB];exact hn) fun j z hj hz=>by rw[bB];exact h j z hj hz
 rwa [bB] at this
theorem o7 {α:Type} {f:Nat->α->Int} {l:List α} {n:Nat} (hn:l.length<=n) (h:∀j z,j<n->l[j]?=some z->f j z=0):eS f 0 l=none:=IX fun j z hz=>by
 rw[bB];exact h j z (cT (List.getElem?_eq_some_iff.1 hz).1 hn) hz
theorem kK {α:Type} {f:Nat->α->Int} {l:List α} {i:Nat} {y:α} (hy:l[i]?=some y) (h0:f i y=0) (h:∀j z,j<i->l[j]?=some z->f j z=0):∀j z,j<i+1->l[j]?=some z->f j z=0:=fun j z hj hz=>by
 rcases Nat.lt_or_eq_of_le (Nat.le_of_lt_succ hj) with h1|rfl
 ·exact h j z h1 hz
 ·rw[hy] at hz;cases hz;exact h0
theorem z1 {α:Type} (f:α->By) {l:List α} {i:Nat} {y:α} (hy:l[i]?=some y):(l.map f).take (i+1)=(l.map f).take i++[f y]:=by rw[bR,aM,hy];rfl
theorem ZC [MaxL] (s:Sch) (hl:s.ar.length<bH):SC Tryz.prog 51 [.ptr 0 0] (kG s []) (sH uD (lK s).1 (lK s).2) (vV (lK s).2 (kG s (dH s))):=by
 unfold bH at hl;have hlen:(vX s.ar).length=s.ar.length:=fN _ _;generalize hX:lK s=X;obtain⟨xi,xe⟩:=X;unfold lK at hX;have hh:(vV xe (kG s (dH s))).all GObj.notHeld=true:=by unfold vV;split<;>rfl
 have hs:(kG s []).length<=(vV xe (kG s (dH s))).length:=by unfold vV;split<;>exact rL _
 refine SC.of_gwpD 2 oY mixed Tryz.func51 rfl (bL rfl) hs hh ?_;conv=>whnf
 have hw:=lS (vX s.ar).length 1 6;refine cP hw ?_;conv=>whnf
 refine aF (fun h=>?_) (fun h=>?_)<;>conv=>whnf
 ·rw[hlen] at h;rw[h,aG rfl] at hX;cases hX;refine cS [] (uP uD 0 4) ?_;conv=>whnf
  exact a0B 2
 rw[hlen] at h;rw[h,aE (by simp)] at hX;refine cK 2 s.ar.length (fun i _=>∀j z,j<i->s.ar[j]?=some z->mO ((dH s).take j) z=0) (fun i _=>[(0,.ptr 0 0),(17,.sl .none (vX s.ar)),(18,.i .i64 (vX s.ar).length),(19,.i .i64 (i:Nat))]) (fun i (_:Unit)=>kG s ((dH s).take i)) [] () (fun j z h=>absurd h (cM j)) (fun i _ φ0 hi hok=>?_);conv=>whnf
 refine aF (fun h=>?_) (fun h=>?_)<;>conv=>whnf
 rotate_left
 ·have hie:i=s.ar.length:=by have:=aB h;rw[hlen] at this;omega
  rw[o7 (Nat.le_of_eq hie.symm) hok] at hX;cases hX;have hm:(dH s).take i=dH s:=bX (by rw[hie];simp[dH]);show OwesD 2 _ _ (kG s (dH s)) _ _;exact .val (d6 2 (ho:=aQ (fun m=>kG s m) hm))
 have hlt:i<s.ar.length:=by have:=aA h;rw[hlen] at this;omega
 obtain⟨y,hy⟩:∃y,s.ar[i]?=some y:=⟨s.ar[i],gL hlt⟩;have hX':=fun hn=>o8 (f:=fun i a=>mO ((dH s).take i) a) hy hn hok;have hE:mO ((dH s).take i) y=kN ((dH s).take i) y.name (dZ (!vR y.pages 1 200) 7 0):=rfl;rw[K1] at hE;refine ix (cE hy) ⟨rfl,?_⟩;conv=>whnf
 refine st ?_;conv=>whnf
 by_cases hn:kN ((dH s).take i) y.name 0=0
 ·rw[aG hn] at hE;refine cG [0,1] (FI (kd:=uD) (i:=i) hn) ?_;conv=>whnf
  refine cP (lS y.pages 1 200) ?_;conv=>whnf
  refine aF (fun h=>?_) (fun h=>?_)<;>conv=>whnf
  ·rw[h] at hE;replace hE:mO ((dH s).take i) y=7:=hE;rw[hX' (by rw[hE];decide),hE] at hX;obtain⟨rfl,rfl⟩:=Prod.mk.inj hX;refine cS [] (uP uD i 7) ?_;(conv=>whnf);exact a0B 2
  ·rw[h] at hE;exact nx () hlt ⟨hlt,kK hy hE hok⟩ (aQ (fun m=>kG s m) (z1 (fun a:Ar=>a.name) hy).symm)
 ·rw[aE hn] at hE;rw[hX' (by rw[hE];exact hn),hE] at hX;obtain⟨rfl,rfl⟩:=Prod.mk.inj hX;refine cG [0,1] (FJ (kd:=uD) (i:=i) hn) ?_;conv=>whnf
  rw[pQ hn,zZ hn];exact a0B 2
def a0G (x y:Int):Int:=if x<y then -1 else if y<x then 1 else 0
def a3Z (a b:By):Int:=if Op.bytesLess a b then -1 else if Op.bytesLess b a then 1 else 0
def a3Y (a b:Val):Int:=if a0G a.k b.k≠0 then a0G a.k b.k else if a0G a.n b.n≠0 then a0G a.n b.n else a3Z a.s b.s
def zS (l:List Itm):List (GV×GV):=l.map fun i=>(.s i.name,.b true)
theorem Z4 [MaxL] {l:List Itm} {s:By} (h:∀z∈l,z.name≠s):nO .string (.s s) (zS l) 0=some none:=wW qL (fun e he=>by
 obtain⟨z,hz,rfl⟩:=List.mem_map.1 he;exact⟨z.name,rfl,h z hz⟩)
theorem VP {l:List Itm} {s:By}:∀(j:Nat),(∃z∈l,z.name=s)->∃k,nO .string (.s s) (zS l) j=some (some (k,.b true)):=by
 induction l with
 |nil=>rintro j ⟨z,hz,_⟩;cases hz
 |cons x l ih=>
  intro j h;show∃k,(match AE .string (.s s) (.s x.name) with|some true=>some (some (j,GV.b true))|some false=>nO .string (.s s) (zS l) (j+1)|none=>none)=_;rw[qL];cases hx:(s==x.name) with
  |true=>exact⟨j,rfl⟩
  |false=>
   obtain⟨z,hz,he⟩:=h;rcases List.mem_cons.1 hz with rfl|hz
   ·rw[he] at hx;simp at hx
   ·exact ih (j+1) ⟨z,hz,he⟩
theorem AR [MaxL] (l:List Itm) (hl:l.length<bH):SC Tryz.prog 117 [.sl .none (fU l)] [] (.val (.b (decide (0<l.length)&&i7 l))) []:=by
 have hlen:=mH l;have hl':=hl;unfold bH at hl';refine cZ Tryz.func117 rfl ?_;conv=>whnf
 refine fI (fun q:Nat×List (GV×GV)=>q.1<=l.length/\(∀z∈l.take q.1,z.ok=true)/\((l.take q.1).map Itm.name).Nodup/\q.2=zS (l.take q.1)) (fun q=>[(0,.sl .none (fU l)),(3,.mp 0),(7,.sl .none (fU l)),(8,.i .i64 (fU l).length),(9,.i .i64 (q.1:Nat))])
  (fun q=>⟨[.mp q.2],0,[]⟩) (fun q=>l.length - q.1) (0,[]) ⟨zL _,(fun z h=>by simp at h),by simp,rfl⟩ ⟨rfl,rfl,rfl,rfl,rfl,trivial⟩ rfl (fun _ _=>rL _) (fun q _=>rfl) (fun q hq e he=>?_) (fun q φ0 hi=>?_)
 ·refine⟨?_,rfl,?_⟩
  ·show[(GObj.mp q.2).ren e]=_;rw[hq.2.2.2];show[GObj.mp ((zS (l.take q.1)).map _)]=_;unfold zS;rw[List.map_map];rfl
  ·show[(GV.sl .none (fU l)).ren e,GV.mp (e 0),(GV.sl .none (fU l)).ren e,_,_]=_;rw[bV (d8 l) e,he 0 (by simp)];rfl
 obtain⟨i,es⟩:=q;obtain⟨hi,hok,hnd,hes⟩:=hi;replace hi:i<=l.length:=hi;replace hok:∀z∈l.take i,z.ok=true:=hok;replace hnd:((l.take i).map Itm.name).Nodup:=hnd;replace hes:es=zS (l.take i):=hes;conv=>whnf
 refine aF (fun h=>?_) (fun h=>?_)<;>conv=>whnf
 rotate_left
 ·have hie:i=l.length:=by have:=aB h;rw[hlen] at this;omega
  rw[hie,b7] at hok hnd;have hw:=x9 (l.length:Int) 1 8;rw[<-hlen] at hw;refine bG hw (wR _) rfl (fun _=>rfl) (.b _) ?_;conv=>whnf
  refine d7 ?_;rw[IK hok hnd,hlen,eZ];simp;omega
 have hlt:i<l.length:=by have:=aA h;rw[hlen] at this;omega
 obtain⟨y,hy⟩:∃y,l[i]?=some y:=⟨l[i],gL hlt⟩;have hv:=O4 y;have hgy:=nJ hy;refine⟨cN _,_,by rw[aC];exact hgy,rfl,?_⟩;conv=>whnf
 refine⟨_,⟨rfl,zL _,rfl,bL rfl⟩,?_⟩;conv=>whnf
 refine bG hv (wR _) rfl (fun _=>rfl) (.b _) ?_;conv=>whnf
 refine aF (fun h1=>?_) (fun h1=>?_)<;>conv=>whnf
 ·refine d7 ?_;rw[A8 hy (.inl (by simpa using h1))];simp
 have h1':y.ok=true:=by simpa using h1
 by_cases hdup:∃z∈l.take i,z.name=y.name
 ·obtain⟨k,hk⟩:=VP 0 hdup;rw[<-hes] at hk;refine⟨some (k,.b true),hk,?_⟩;conv=>whnf
  refine d7 ?_;rw[A8 hy (.inr hdup)];simp
 ·have hne:∀z∈l.take i,z.name≠y.name:=fun z hz he=>hdup ⟨z,hz,he⟩;have hk:=Z4 hne;rw[<-hes] at hk;refine⟨none,hk,?_⟩;conv=>whnf
  refine⟨rL _,none,hk,?_⟩;conv=>whnf
  have hes':es++[(GV.s y.name,GV.b true)]=zS (l.take (i+1)):=by
   rw[hes,bR,hy];unfold zS;rw[cO];rfl
  exact⟨l.length - (i+1),(by show _<l.length - i;omega),(i+1,es++[(GV.s y.name,GV.b true)]),⟨hlt,y7 hok hy h1',(yZ hnd hy).2 hne,hes'⟩,rfl,⟨rfl,rfl,rfl,rfl,b8 (by omega),trivial⟩,_,rfl,rfl⟩
theorem ZU {v:Val} (h:v.ok=true):v.k=1∨v.k=2:=by
 simp only[Val.ok,eY,aH,aL] at h;rcases h with h|h
 ·exact .inl h.1.1.1
 ·exact .inr h.1.1
def a18 (i:Itm) (v:Val):Bool:=v.ok&&decide (v.k=i.k)&&((decide (v.k=2)&&decide ((v.s.length:Int)<=i.len))||(decide (v.k=1)&&decide (i.lo<=v.n)&&decide (v.n<=i.hi)))
theorem O2 [MaxL] (l:List Itm) (hl:l.length<bH):SC Tryz.prog 184 [.sl .none (fU l)] [] (.val (.b (i7 l))) []:=by
 have hk:=AR l hl;have hlen:=mH l;refine cZ Tryz.func184 rfl ?_;conv=>whnf
 refine aF (fun h=>?_) (fun h=>?_)<;>conv=>whnf
 ·refine d7 ?_;have h0:l.length=0:=by
   have h9:((fU l).length:Int)=0:=by simpa using h
   omega
  rw[aN h0];rfl
 ·refine bG hk (wR _) rfl (cC (bV (d8 l)) .nil) (.b _) ?_;conv=>whnf
  refine d7 ?_;have h0:0<l.length:=by
   have h9:¬((fU l).length:Int)=0:=by simpa using h
   omega
  rw[bS h0];rfl
def a2R (l:List Val):List GV:=l.map Val.gv
theorem YP [MaxL] (l:List Val):ClL (a2R l):=gT Val.cl l
def a0x:List Itm->List Val->Bool
 |[],[]=>true
 |i::l,v::r=>a18 i v&&a0x l r
 |_,_=>false
def a2u (l:List Itm) (r:List Val):Bool:=decide (0<l.length)&&i7 l&&a0x l r
def a2v (l:List Itm) (r:List Val):Bool:=i7 l&&(decide (l.length=0/\r.length=0)||a2u l r)
theorem a3W [MaxL] (s:List UInt8) (hs:s.length<=20000):∀f,a0c s f:=by
 have hm:s.length<bH:=by unfold bH;omega
 intro f;induction f using Nat.strongRecOn with
 |ind f ih=>
 intro lv d n ts h hb;cases f with
 |zero=>exact⟨fun h=>by omega,fun h=>by omega,fun h=>by omega,fun h=>by omega⟩
 |succ f=>
 have IH:∀g,g<=f->a0c s g:=fun g hg=>ih g (by omega);obtain⟨_,iand,inot,iprim⟩:=IH f (rL _) lv d n ts h hb;refine⟨fun hf=>?_,fun hf=>?_,fun hf=>?_,fun hf=>?_⟩
 ·obtain⟨m1,hm1,hc1⟩:=iand (by omega);cases hp:bP cL f .and lv d ts with
  |none=>
   rw[hp] at hc1;have e:bP cL (f+1) .or lv d ts=none:=by
    conv=>lhs;unfold bP
    rw[hp]
   rw[e];exact⟨0,(fun _ _ _ h=>by cases h),Y8 s lv n d hc1⟩
  |some p=>
   obtain⟨t1,r1,e1⟩:=p;rw[hp] at hc1;have e:bP cL (f+1) .or lv d ts=bP cL f (.orL t1) lv e1 r1:=by
    conv=>lhs;unfold bP
    rw[hp]
   have hlen:=j3 _ _ _ _ _ _ _ _ hp;have hl3:=hlen.2.1 rfl;obtain⟨m2,j,hm2,hl⟩:=a0r s f IH f t1 lv e1 m1 r1 (rL _) (hm1 _ _ _ hp) (by omega) (by omega);rw[e];exact⟨m2,hm2,a3a s hm lv n d m1 e1 j t1 _ hc1 hl⟩
 ·obtain⟨m1,hm1,hc1⟩:=inot (by omega);cases hp:bP cL f .not lv d ts with
  |none=>
   rw[hp] at hc1;have e:bP cL (f+1) .and lv d ts=none:=by
    conv=>lhs;unfold bP
    rw[hp]
   rw[e];exact⟨0,(fun _ _ _ h=>by cases h),UQ s lv n d hc1⟩
  |some p=>
   obtain⟨t1,r1,e1⟩:=p;rw[hp] at hc1;have e:bP cL (f+1) .and lv d ts=bP cL f (.andL t1) lv e1 r1:=by
    conv=>lhs;unfold bP
    rw[hp]
   have hlen:=j3 _ _ _ _ _ _ _ _ hp;have hl3:=hlen.2.1 rfl;obtain⟨m2,j,hm2,hl⟩:=X5 s f IH f t1 lv e1 m1 r1 (rL _) (hm1 _ _ _ hp) (by omega) (by omega);rw[e];exact⟨m2,hm2,a2y s hm lv n d m1 e1 j t1 _ hc1 hl⟩
 ·by_cases hw:ts.headD []=kC
  ·obtain⟨r,rfl⟩:=fY hw (by decide);simp only[aJ] at hb hf;obtain⟨_,_,_,ip⟩:=IH f (rL _) (lv+1) (max d (lv+1)) (nb s n+kC.length) r h.tail.2 (by omega);obtain⟨m1,hm1,hc1⟩:=ip (by omega);have e:bP cL (f+1) .not lv d (kC::r)=(bP cL f .prim (lv+1) (max d (lv+1)) r).map fun p=>(.no p.1,p.2.1,p.2.2):=by
    conv=>lhs;unfold bP
    rw[aG hw];show(match bP cL f .prim (lv+1) (max d (lv+1)) r with|some (n,r,e)=>_|none=>_)=_;cases bP cL f .prim (lv+1) (max d (lv+1)) r<;>rfl
   rw[e];refine⟨m1,fun t r' e' he=>?_,?_⟩
   ·rw[aI] at he;obtain⟨⟨t0,r0,e0⟩,h1,h2⟩:=he;cases h2;exact hm1 _ _ _ h1
   ·have:=UL s hm lv n d (by omega) h _ hc1;rw[Option.map_map] at this⊢;exact this
  ·have e:bP cL (f+1) .not lv d ts=bP cL f .prim lv d ts:=by
    conv=>lhs;unfold bP
    rw[aE hw]
   obtain⟨_,_,_,ip⟩:=IH f (rL _) lv d (nb s n) ts h.nb hb;obtain⟨m1,hm1,hc1⟩:=ip (by omega);rw[e];exact⟨m1,hm1,Y9 s hm lv n d h hw _ hc1⟩
 ·by_cases h1:ts.headD []=l8
  ·obtain⟨r,rfl⟩:=fY h1 (by decide);have e:bP cL (f+1) .prim lv d (l8::r)=some (.truth true,r,d):=by
    conv=>lhs;unfold bP
    rw[aG h1];rfl
   rw[e];exact⟨nb s n+l8.length,(fun t r e h'=>by cases h';exact h.tail.2),a0Q s hm lv n d h (some (.truth true,nb s n+l8.length,d)) (QF s lv (nb s n+l8.length) d)⟩
  by_cases h2:ts.headD []=jU
  ·obtain⟨r,rfl⟩:=fY h2 (by decide);have e:bP cL (f+1) .prim lv d (jU::r)=some (.truth false,r,d):=by
    conv=>lhs;unfold bP
    rw[aE h1,aG h2];rfl
   rw[e];exact⟨nb s n+jU.length,(fun t r e h'=>by cases h';exact h.tail.2),a0P s hm lv n d h (some (.truth false,nb s n+jU.length,d)) (QE s lv (nb s n+jU.length) d)⟩
  by_cases h3:ts.headD []=[40]
  ·obtain⟨r,rfl⟩:=fY h3 (by decide);simp only[aJ] at hb hf;obtain⟨io,_⟩:=IH f (rL _) (lv+1) (max d (lv+1)) (nb s n+1) r h.tail.2 (by omega);obtain⟨m1,hm1,hc1⟩:=io (by omega);cases hp:bP cL f .or (lv+1) (max d (lv+1)) r with
   |none=>
    rw[hp] at hc1;have e:bP cL (f+1) .prim lv d ([40]::r)=none:=by
     conv=>lhs;unfold bP
     rw[aE h1,aE h2,aG h3];show(match bP cL f .or (lv+1) (max d (lv+1)) r with|some (n,r,e)=>_|none=>_)=_;rw[hp]
    rw[e];exact⟨0,(fun _ _ _ h=>by cases h),SN s hm lv n d h none (SO s hm lv (nb s n+1) d (by omega) none [] (fun _ _ _ h=>by cases h) hc1)⟩
   |some p=>
    obtain⟨t1,r1,e1⟩:=p;rw[hp] at hc1;have hA1:=(hm1 _ _ _ hp).1;have e:bP cL (f+1) .prim lv d ([40]::r)=if r1.headD []=[41] then some (t1,r1.tail,e1) else none:=by
     conv=>lhs;unfold bP
     rw[aE h1,aE h2,aG h3];show(match bP cL f .or (lv+1) (max d (lv+1)) r with|some (n,r,e)=>_|none=>_)=_;rw[hp]
    have hc2:=SN s hm lv n d h _ (SO s hm lv (nb s n+1) d (by omega) (some (t1,m1,e1)) r1 (fun _ _ _ h=>by cases h;exact hA1) hc1);rw[e];by_cases h4:r1.headD []=[41]
    ·obtain⟨r2,rfl⟩:=fY h4 (by decide);refine⟨nb s m1+1,fun t r e h'=>?_,?_⟩
     ·rw[aG h4] at h';cases h';exact hA1.tail.2
     ·rw[aG h4];unfold P6 at hc2;simp only[h4,fP] at hc2;exact hc2
    ·refine⟨0,fun t r e h'=>?_,?_⟩
     ·rw[aE h4] at h';cases h'
     ·rw[aE h4];unfold P6 at hc2;simp only[h4,fR] at hc2;exact hc2
  obtain⟨m,hm1,hc⟩:=Y7 s hs lv n d h h1 h2 h3;have e:bP cL (f+1) .prim lv d ts=bP cL 1 .prim lv d ts:=by
   conv=>lhs;unfold bP
   conv=>rhs;unfold bP
   rw[aE h1,aE h1,aE h2,aE h2,aE h3,aE h3]
  rw[e];exact⟨m,hm1,hc⟩
def jY (s:List UInt8):Nat:=10*s.length+10
theorem sZ:∀(n:Nat) (l:List UInt8),l.length<=n->(iO l).length<=l.length
 |0,l,h=>by
  have:l=[]:=aN (by omega);subst this;rw[kM rfl];simp
 |n+1,l,h=>by
  cases hk:skip l with
  |nil=>rw[kM hk];simp
  |cons c t=>
   rw[mS hk];have h1:=zO l;rw[hk] at h1;have h2:=nB c t;simp only[aJ] at h1⊢;have:=sZ n ((c::t).drop (lQ (c::t))) (by simp;omega);simp only[dW,aJ] at this;omega
theorem a0R [MaxL] (s:List UInt8) (hs:s.length<=20000):SC Tryz.prog 217 [.s s] [] (.val (match bP cL (jY s) .or 0 0 (iO s) with
  |some (t,r,e)=>.tup [t.gv,.i .i64 (e:Nat),.b (r.headD []==[])]
  |none=>.tup [.o .nilIface,.i .i64 0,.b false])) []:=by
 have hm:s.length<bH:=by unfold bH;omega
 have h0:At s 0 (iO s):=⟨zL _,rfl⟩;have hl:=sZ s.length s (rL _);obtain⟨io,_⟩:=a3W s hs (jY s) 0 0 0 (iO s) h0 (by omega);obtain⟨m,hm1,hc⟩:=io (by unfold jY;omega);cases hp:bP cL (jY s) .or 0 0 (iO s) with
 |none=>
  rw[hp] at hc;replace hc:SC Tryz.prog 257 [.ptr 0 0,.i .i64 (0:Nat)] [rd s 0 (0:Nat)] (.panic gO) [.dead]:=hc;refine cZ Tryz.func217 rfl ?_;conv=>whnf
  refine m5 (q:=3) hc rfl (by first|exact wR _|exact wC (bE _ _) (wR _)|exact wC (bE _ _) (wC (bE _ _) (wR _))|exact wC (cY _) (wC (bE _ _) (wR _))) rfl rfl (by first|exact fun _=>rfl|exact cA|exact cB fun _=>rfl) (by first|exact fun _=>rfl|exact cA|exact cB fun _=>rfl) (by first|exact fun _=>rfl|exact cA|exact cB fun _=>rfl) ?_;conv=>whnf
  refine wD (g:=.tup [.o .nilIface,.i .i64 0,.b false]) ?_ ?_ ?_
  ·kernel_rfl
  ·exact .refl _
  ·exact fun _=>rfl
 |some p=>
  obtain⟨t,r,e⟩:=p;rw[hp] at hc;replace hc:SC Tryz.prog 257 [.ptr 0 0,.i .i64 (0:Nat)] [rd s 0 (0:Nat)] (.val t.gv) [rd s m e]:=hc;obtain⟨hA,hnb⟩:=hm1 _ _ _ hp;have hwd:=l6 s m e hA hm;rw[hnb] at hwd;refine cH oY mixed Tryz.func217 rfl (bL rfl) (rL _) rfl ?_;conv=>whnf
  refine aW (q:=3) hc rfl (wR _) rfl rfl (fun _=>rfl) (fun _=>rfl) (fun _=>rfl) t.cl ?_;conv=>whnf
  refine⟨_,⟨rfl,zL _,rfl,bL rfl⟩,?_⟩;conv=>whnf
  refine GDraw.wild _ _ _ rfl rfl rfl (by kernel_rfl) ?_;conv=>whnf
  refine a28 (q:=3) hwd rfl (wR _) rfl (fun _=>rfl) (fun _=>rfl) (fun _=>rfl) ?_;conv=>whnf
  refine⟨_,⟨rfl,zL _,rfl,bL rfl⟩,?_⟩;conv=>whnf
  refine⟨_,⟨rfl,zL _,rfl,bL rfl⟩,?_⟩;conv=>whnf
  refine⟨_,⟨rfl,zL _,rfl,bL rfl⟩,?_⟩;conv=>whnf
  exact bA (.refl _) (fJ (.cons t.cl (.cons (.i _ _) (.cons (.b _) .nil))))
theorem J9:∀(n:Nat) (l:List UInt8),l.length<=n->∀w∈iO l,w≠[]
 |0,l,h,w,hw=>by
  have:l=[]:=aN (by omega);subst this;rw[kM rfl] at hw;cases hw
 |n+1,l,h,w,hw=>by
  cases hk:skip l with
  |nil=>rw[kM hk] at hw;cases hw
  |cons c t=>
   rw[mS hk] at hw;have h1:=zO l;rw[hk] at h1;have h2:=nB c t;simp only[aJ] at h1;rcases List.mem_cons.1 hw with rfl|hw
   ·intro e;have:=aQ List.length e;unfold H6 at this;rw[bN] at this;simp at this;omega
   ·exact J9 n ((c::t).drop (lQ (c::t))) (by simp;omega) w hw
inductive RdE where
 |ok (t:Tree)
 |err (e:Int)
def mF (s:List UInt8):RdE:=if 1000<s.length then .err 3 else match bP cL (jY s) .or 0 0 (iO s) with
 |some (t,r,e)=>if r.headD []==[] then(if 20<e then .err 4 else .ok t.flat) else .err 2
 |none=>.err 2
