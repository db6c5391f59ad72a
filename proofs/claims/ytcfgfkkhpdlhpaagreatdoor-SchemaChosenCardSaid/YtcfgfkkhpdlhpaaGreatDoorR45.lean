/-
  A part of the proof of SchemaChosen.
-/
import Derived.Test.YtcfgfkkhpdlhpaaGreatDoorR44
set_option linter.all false
set_option maxRecDepth 100000
namespace Go.Proofs.YtcfgfkkhpdlhpaaGreatDoor
open Go.RowKit
def evT (I V:List Itm) (R W:List Val) (t:Tree):Bool×Int:=
 if gM I&&gM V&&a2E I R then
  if rE I V t=0 then
   if W.length=V.length then
    if WE V W then(kK (a2W I V R W) t,0) else(false,1)
   else(false,11)
  else(false,rE I V t)
 else(false,1)
def a2y (I V:List Itm) (R W:List Val) (s:By):Bool×Int:=match m5 s with
 |.ok t=>evT I V R W t
 |.err e=>(false,e)
def DD (I V:List Itm) (s:By):Int:=match m5 s with
 |.ok t=>if gM I&&gM V then rE I V t else 1
 |.err e=>e
theorem a04 [MaxL] (I V:List Itm) (hI:I.length<bB) (hV:V.length<bB) (s:By) (hs:s.length<bB):SC Tryz.prog 121 [.s s,.sl .none (eZ I),.sl .none (eZ V)] [] (.val (.i .i64 (DD I V s))) []:=by
 have hr:=X9 s hs;have hcl:=LJ s;unfold qS at hr hcl;unfold DD;have h1:=NE I hI;have h2:=NE V hV;cases h:m5 s with
 |err e=>
  rw[h] at hr hcl;replace hr:SC Tryz.prog 182 [.s s] [] (.val (.tup [.o .nilIface,.i .i64 e])) []:=hr;have he:=HP h;refine cX Tryz.func121 rfl ?_;conv=>whnf
  refine bD hr (wR _) rfl (fun _=>rfl) hcl ?_;conv=>whnf
  refine aF (fun h0=>?_) (fun h0=>?_)<;>conv=>whnf
  ·exact bA rfl
  ·exfalso;have:e=0:=by simpa using h0
   omega
 |ok t=>
  rw[h] at hr hcl;replace hr:SC Tryz.prog 182 [.s s] [] (.val (.tup [t.gv,.i .i64 0])) []:=hr;have hg:t.good:=(OB h).1;have h3:=ZZ I V hI hV t;cases k1:gM I with
  |false=>
   rw[k1] at h1;refine cX Tryz.func121 rfl ?_;(conv=>whnf);refine bD hr (wR _) rfl (fun _=>rfl) hcl ?_;(conv=>whnf);refine bD h1 (wR _) rfl (cC (bS (cQ I)) .nil) (.b _) ?_;(conv=>whnf);exact bA rfl
  |true=>
   rw[k1] at h1;cases k2:gM V with
   |false=>
    rw[k2] at h2;refine cX Tryz.func121 rfl ?_;(conv=>whnf);refine bD hr (wR _) rfl (fun _=>rfl) hcl ?_;(conv=>whnf);refine bD h1 (wR _) rfl (cC (bS (cQ I)) .nil) (.b _) ?_;(conv=>whnf);refine bD h2 (wR _) rfl (cC (bS (cQ V)) .nil) (.b _) ?_;(conv=>whnf);exact bA rfl
   |true=>
    rw[k2] at h2;rw[TI k1 k2 hg] at h3;refine cX Tryz.func121 rfl ?_;(conv=>whnf);refine bD hr (wR _) rfl (fun _=>rfl) hcl ?_;(conv=>whnf);refine bD h1 (wR _) rfl (cC (bS (cQ I)) .nil) (.b _) ?_;(conv=>whnf);refine bD h2 (wR _) rfl (cC (bS (cQ V)) .nil) (.b _) ?_;(conv=>whnf);refine bD h3 (wR _) rfl (cC t.cl (cC (bS (cQ I)) (cC (bS (cQ V)) .nil))) (.i _ _) ?_;(conv=>whnf);exact bA rfl
def kO (l:List Itm):Bool:=decide (0<l.length)&&gM l
def rF (s:By):Bool:=decide ((zB s).2=0)&&decide ((zB s).1=s)
def yE (s:Sch) (i:Nat) (r:Rc):Int:=H0 kO rF (fun l c=>DD l [] c) s (dE s++(gB s).take i) r
def n5 (s:Sch):Nat×Int:=if !uR s.rc.length 1 10 then(0,4) else(eR (yE s) 0 s.rc).getD (0,0)
theorem mX [MaxL] {kd:By} {s s1 objs:List GObj} {i xi:Nat} {e xe:Int} {lo:Nat} {ds:List GDef} (hX:((i,e):Nat×Int)=(xi,xe)) (he:e≠0) (hl:s.length=2:=by rfl) (hn:(objs.take 2).length=2:=by rfl) (hm:(objs.take 2).all GObj.mort=true:=by rfl):
  OwesD 2 s (sB kd xi xe) (vK xe s1) (.panic (NK kd i e)) ⟨objs,lo,ds⟩:=by
 obtain⟨rfl,rfl⟩:=Prod.mk.inj hX;rw[p9 he,zP he];exact ZB 2 (hl:=Nat.le_of_eq hl) (hn:=hn) (hm:=hm)
theorem aZ {w:Bool} {e b:Int} (h:w=true):dW w e b=e:=by subst h;rfl
theorem bK {w:Bool} {e b:Int} (h:w=false):dW w e b=b:=by subst h;rfl
theorem j0 {α:Type} {l:List α} {i:Nat} (h:i<l.length):∃x,l[i]?=some x:=⟨l[i],gL h⟩
theorem SU {b:Bool} (h:(!b)=true):b=false:=by cases b<;>first|rfl|cases h
theorem oN {a b:Int} (h:a≠0):ST a b=a:=aD h
theorem oM {a b:Int} (h:a=0):ST a b=b:=aG h
theorem gV [MaxL] {k:FuncId} {kd:By} (hs:∀(w:Bool) (e:Int) (i:Nat),(w=true->e≠0)->SC Tryz.prog k [.b w,.i .i64 e,.ptr 0 0] [.box 3 [.i .i64 (i:Nat)]] (sB kd i (if w then e else 0)) [.box 3 [.i .i64 (i:Nat)]])
  (q:Nat) (e:Int) {M:FuncId->Bool} {w:Bool} {i:Nat} {args:List GV} {σ:GS} {K:GRes->GS->Prop} (h1:w=true->K (.panic (NK kd i e)) σ) (h0:w=false->K (.val (.tup [])) σ) (he:w=true->e≠0:=by intro _;decide)
  (hw:Wks args [.b w,.i .i64 e,.ptr q 0]:=by exact wR _) (ho:σ.objs[q]?=some (.box 3 [.i .i64 (i:Nat)]):=by rfl) (hlo:σ.lo=0:=by rfl):iM Tryz.prog M (.fn k) args σ K:=by
 refine cS [q] (hs w e i he) ?_ (by rw[show jI [q] σ.objs.length 0=q from rfl];exact hw) (by show[σ.objs[q]?]=_;rw[ho];rfl) rfl (by simp) rfl hlo;cases w with
 |true=>
  rw[aG rfl,p9 (he rfl)];exact h1 rfl
 |false=>exact h0 rfl
set_option maxHeartbeats 4000000 in
theorem SA [MaxL] (s:Sch) (hz:mK s):SC Tryz.prog 52 [.ptr 0 0] (k8 s (dE s)) (sB l6 (n5 s).1 (n5 s).2) (vK (n5 s).2 (k8 s (dE s++gB s))):=by
 obtain⟨⟨ha,hl,ht⟩,hr,hst⟩:=hz;unfold bB at hl;have hlen:(yF s.rc).length=s.rc.length:=i8 _ _;generalize hX:n5 s=X;obtain⟨xi,xe⟩:=X;unfold n5 at hX;have hh:(vK xe (k8 s (dE s++gB s))).all GObj.notHeld=true:=by unfold vK;split<;>rfl
 have hs:(k8 s (dE s)).length<=(vK xe (k8 s (dE s++gB s))).length:=by unfold vK;split<;>exact rL _
 refine SC.of_gwpD 2 pU mixed Tryz.func52 rfl (bL rfl) hs hh ?_;conv=>whnf
 have hw:=lG (yF s.rc).length 1 10;refine cP hw ?_;conv=>whnf
 refine aF (fun h=>?_) (fun h=>?_)<;>conv=>whnf
 ·rw[hlen] at h;rw[h,aG rfl] at hX;refine cS [] (uH l6 0 4) ?_;conv=>whnf
  exact mX hX (by decide)
 rw[hlen] at h;rw[h,aD (by simp)] at hX;refine dB 2 s.rc.length (fun i _=>∀j z,j<i->s.rc[j]?=some z->yE s j z=0) (fun i _=>[(0,.ptr 0 0),(25,.sl .none (yF s.rc)),(26,.i .i64 (yF s.rc).length),(27,.i .i64 (i:Nat))]) (fun i (_:Unit)=>k8 s (dE s++(gB s).take i)) [] () (fun j z h=>absurd h (dG j)) (fun i _ φ0 hi hok=>?_) (hσ:=by rw[List.take_zero,gC]);conv=>whnf
 refine aF (fun h=>?_) (fun h=>?_)<;>conv=>whnf
 rotate_left
 ·have hie:i=s.rc.length:=by have:=aC h;rw[hlen] at this;omega
  rw[nN (Nat.le_of_eq hie.symm) hok] at hX;cases hX;have hm:(gB s).take i=gB s:=dI (by rw[hie];simp[gB]);show OwesD 2 _ _ (k8 s (dE s++gB s)) _ _;exact .val (dH 2 (ho:=aQ (fun m=>k8 s (dE s++m)) hm))
 have hlt:i<s.rc.length:=by have:=aB h;rw[hlen] at this;omega
 obtain⟨y,hy⟩:∃y,s.rc[i]?=some y:=⟨s.rc[i],gL hlt⟩;obtain⟨y1,y2,y3⟩:=hr y (aL hy);unfold bB at y2;have bad0:∀{e:Int},yE s i y=e->e≠0->((i,e):Nat×Int)=(xi,xe):=fun he h0=>by
  subst he;rw[nO hy h0 hok] at hX;exact hX
 have bad:∀{w:Bool} {e b:Int},yE s i y=dW w e b->w=true->e≠0->((i,e):Nat×Int)=(xi,xe):=fun he h h0=>bad0 (he.trans (aZ h)) h0;have hE:yE s i y=kF (dE s++(gB s).take i) y.name (dW (!((dE s).contains y.area)) 5 (dW (!kO y.its||!uR y.place 1 3) 1 (ST (rT y) (ST (GW s y) (a0N rF (fun l c=>DD l [] c) y))))):=rfl;rw[JK] at hE;refine ix (cM hy) ⟨rfl,?_⟩;conv=>whnf
 refine st ?_;conv=>whnf
 refine st ?_;conv=>whnf
 by_cases hn:kF (dE s++(gB s).take i) y.name 0=0;rotate_left
 ·rw[aD hn] at hE;refine cG [0,1] (F6 (kd:=l6) (i:=i) hn) ?_;conv=>whnf
  exact mX (bad0 hE hn) hn
 rw[aG hn] at hE;refine cG [0,1] (F5 (kd:=l6) (i:=i) hn) ?_;conv=>whnf
 refine cS [0,1] (a0h s ha _ y.area) ?_;conv=>whnf
 refine gV kM 2 5 (fun h=>?_) (fun h=>?_)<;>conv=>whnf
 ·exact mX (bad hE h (by decide)) (by decide)
 replace hE:=hE.trans (bK h);refine cP (vD y.its y1) ?_;conv=>whnf
 refine aF (fun h=>?_) (fun h=>?_)<;>conv=>whnf
 ·refine gV kM 2 1 (w:=true) (fun _=>?_) (fun h9=>nomatch h9);conv=>whnf
  exact mX (bad hE (by rw[show kO y.its=false from SU h];rfl) (by decide)) (by decide)
 refine cP (lG y.place 1 3) ?_;conv=>whnf
 refine gV kM 2 1 (fun h2=>?_) (fun h2=>?_)<;>conv=>whnf
 ·exact mX (bad hE (by rw[h2];simp) (by decide)) (by decide)
 replace hE:=hE.trans (bK (by rw[h2,show(!kO y.its)=false from h];rfl));have badK:∀{e:Int},rT y=e->e≠0->((i,e):Nat×Int)=(xi,xe):=fun he h0=>bad0 (hE.trans (by rw[he,oN h0])) h0;have hm:(k8 s (dE s++(gB s).take i++[y.name]))=k8 s (dE s++(gB s).take (i+1)):=by rw[bF];exact aQ (fun m=>k8 s (dE s++m)) (yM (fun r:Rc=>r.name) hy).symm
 refine aF (fun hp=>?b1) (fun hp=>?b2)
 case' b1=>
  conv=>whnf
  have hK:rT y=dW (!uR y.keys.length 1 4) 11 (kR (JO y) y.keys):=aG (by simpa using hp);refine cP (lG (b9 y.keys).length 1 4) ?_;conv=>whnf
  refine gV kM 2 11 (fun h3=>?_) (fun h3=>?_)<;>rw[aP] at h3<;>conv=>whnf
  ·exact mX (badK (hK.trans (aZ h3)) (by decide)) (by decide)
  replace hK:=hK.trans (bK h3);refine dB 4 y.keys.length (fun k _=>∀j n,j<k->y.keys[j]?=some n->JO y j n=0) (fun k _=>[(0,.ptr 0 0),(3,.ptr 3 0),(4,.fn (.func 115) [] [.ptr 2 0]),(25,.sl .none (yF s.rc)),(26,.i .i64 (yF s.rc).length),(27,.i .i64 (i:Nat)),(68,.sl .none (b9 y.keys)),(69,.i .i64 (b9 y.keys).length),(70,.i .i64 (k:Nat))])
   (fun k (_:Unit)=>k8 s (dE s++(gB s).take i++[y.name])++[.box 3 [.i .i64 (i:Nat)],.box 35 (XP y)]) [] () (fun j n h=>absurd h (dG j)) (fun k _ φ1 hk hok2=>?_)
  conv=>whnf
  refine aF (fun h=>?_) (fun h=>?_)<;>conv=>whnf
  ·have hlt2:k<y.keys.length:=by have:=aB h;rw[aP] at this;omega
   refine(j0 hlt2).elim fun n hn2=>?_;have badJ:∀{e:Int},JO y k n=e->e≠0->((i,e):Nat×Int)=(xi,xe):=fun he h0=>badK (hK.trans ((mU hn2 (by rw[he];exact h0) hok2).trans he)) h0;refine ix (cM hn2) ⟨rfl,?_⟩;(conv=>whnf);refine cP (EN y y1 n) ?_;(conv=>whnf);refine st ?_;(conv=>whnf);refine gV kM 2 5 (fun h4=>?_) (fun h4=>?_)<;>conv=>whnf
   ·exact mX (badJ (aZ h4) (by decide)) (by decide)
   refine Y0 (zs:=b9 (y.keys.take k)) (fL _) (by rw[aP];omega) ?_ (List.map_take ..).symm;(conv=>whnf);refine cP (D3 (y.keys.take k) n (by unfold bB;rw[bQ];omega)) ?_;(conv=>whnf);refine gV kM 2 6 (fun h5=>?_) (fun h5=>?_)<;>conv=>whnf
   ·exact mX (badJ ((bK h4).trans (aZ h5)) (by decide)) (by decide)
   exact nx () hlt2 ⟨hlt2,kC hn2 ((bK h4).trans (bK h5)) hok2⟩
  have hK0:rT y=0:=hK.trans (mT fun j z hz=>hok2 j z (by have:=aC h;rw[aP] at this;have:=(List.getElem?_eq_some_iff.1 hz).1;omega) hz)
 case' b2=>
  conv=>whnf
  have hK:rT y=dW (!y.keys.isEmpty||y.dups) 1 0:=aD (by simpa using hp);refine aF (fun h3=>?_) (fun h3=>?_)<;>conv=>whnf
  ·refine gV kM 2 1 (w:=true) (fun _=>?_) (fun h9=>nomatch h9);(conv=>whnf);exact mX (badK (hK.trans (aZ (by have:((b9 y.keys).length:Int)>0:=aB h3;rw[aP] at this;cases hk:y.keys with|nil=>rw[hk] at this;exact absurd this (by decide)|cons a l=>rfl))) (by decide)) (by decide)
  have hke:y.keys.isEmpty=true:=by have:¬((b9 y.keys).length:Int)>0:=aC h3;rw[aP] at this;cases hk:y.keys with|nil=>rfl|cons a l=>rw[hk] at this;simp at this
  rw[hke] at hK;refine gV kM 2 1 (fun h4=>?_) (fun h4=>?_)<;>conv=>whnf
  ·exact mX (badK (hK.trans (aZ h4)) (by decide)) (by decide)
  have hK0:rT y=0:=hK.trans (bK h4)
 all_goals
  replace hE:=hE.trans (oM hK0);have badV:∀{e:Int},GW s y=e->e≠0->((i,e):Nat×Int)=(xi,xe):=fun he h0=>bad0 (hE.trans (by rw[he,oN h0])) h0;refine aF (fun hv=>?_) (fun hv=>?_)<;>conv=>whnf
  focus
   have hV:GW s y=dW (match s.st.find? (·.name==y.via) with|none=>true|some t=>!(t.ms.any (·.of==y.name))) 5 0:=aG (by simpa using hv);have hset:=a08 s ht y.via;refine b6 (by kernel_rfl) ?_;(conv=>whnf);refine(j5 (fun t:Sy=>t.name==y.via) s.st).elim (fun⟨h5,h6,_⟩=>?_) (fun⟨j,t,h5,h6,h7,_⟩=>?_)
   ·refine cP hset ?_;(conv=>whnf);refine GDraw.pan 17 _ rfl (by kernel_rfl) ?_;(conv=>whnf);refine gY (bM h5) ?_;(conv=>whnf);refine gV kM 2 5 (w:=true) (fun _=>?_) (fun h9=>nomatch h9);(conv=>whnf);exact mX (badV (e:=5) (by rw[hV,h6];rfl) (by decide)) (by decide)
   rw[h5] at hset;rw[h7] at hV;refine cP hset ?_;(conv=>whnf);have hmb:=EO t (hst t (aL h6)).1 y.name;refine(Bool.eq_false_or_eq_true (decide (lW (fun m:Mb=>m.of==y.name) t.ms<0))).elim (fun h8=>?_) (fun h8=>?_)
   ·refine GDraw.pan 17 _ rfl (by kernel_rfl) ?_;(conv=>whnf);refine ix (cM h6) ⟨rfl,?_⟩;(conv=>whnf);refine cP hmb ?_;(conv=>whnf);refine gV kM 2 5 (w:=decide (lW (fun m:Mb=>m.of==y.name) t.ms<0)) (fun h9=>?_) (fun h9=>by rw[h8] at h9;cases h9);(conv=>whnf);exact mX (badV (hV.trans (aZ ((nD _ _).symm.trans h8))) (by decide)) (by decide)
   refine b6 (by kernel_rfl) ?_;(conv=>whnf);refine ix (cM h6) ⟨rfl,?_⟩;(conv=>whnf);refine cP hmb ?_;(conv=>whnf);refine gV kM 2 5 (w:=decide (lW (fun m:Mb=>m.of==y.name) t.ms<0)) (fun h9=>by rw[h8] at h9;cases h9) (fun h9=>?_);(conv=>whnf);replace hV:=hV.trans (bK ((nD _ _).symm.trans h8))
  rotate_left;focus
   have hV:GW s y=dW (y.via !=[]) 1 0:=aD (by simpa using hv);refine gV kM 2 1 (fun h4=>?_) (fun h4=>?_)<;>conv=>whnf
   ·exact mX (badV (hV.trans (aZ h4)) (by decide)) (by decide)
   replace hV:=hV.trans (bK h4)
  all_goals
   replace hE:=hE.trans (oM ‹GW s y=0›);refine aF (fun hc=>?_) (fun hc=>?_)<;>conv=>whnf
   rotate_left
   ·exact nx () hlt ⟨hlt,kC hy (hE.trans (aG (by simpa using hc))) hok⟩ hm
   have hE2:=hE.trans (aD (by simpa using hc));refine cP (a1U y.check y3) ?_;(conv=>whnf);refine aF (fun h5=>?_) (fun h5=>?_)<;>conv=>whnf
   ·refine gV kM 2 2 (w:=true) (fun _=>?_) (fun h9=>nomatch h9);(conv=>whnf);exact mX (bad hE2 (by unfold rF;rw[cE (by simpa using h5)];rfl) (by decide)) (by decide)
   refine gV kM 2 2 (fun h6=>?_) (fun h6=>?_)<;>conv=>whnf
   ·exact mX (bad hE2 (by unfold rF;rw[cE (p:=(zB y.check).1=y.check) (by simpa using h6),Bool.and_false];rfl) (by decide)) (by decide)
   replace hE2:=hE2.trans (bK (by unfold rF;rw[bM (by simpa using h5),bM (by simpa using h6)];rfl));refine cP (a04 y.its [] y1 (by decide) y.check y3) ?_ (wC (cY _) (wC (cY _) (wC (bI _ _) (wR _))));(conv=>whnf);refine gV kM 2 (DD y.its [] y.check) (w:=DD y.its [] y.check !=0) (fun h7=>?_) (fun h7=>?_) (by intro h;simpa using h)<;>conv=>whnf
   ·exact mX (bad0 hE2 (by simpa using h7)) (by simpa using h7)
   exact nx () hlt ⟨hlt,kC hy (hE2.trans (by simpa using h7)) hok⟩ hm
theorem zM [MaxL] (s:Sch) (hl:s.ar.length<bB) (n:By):SC Tryz.prog 101 [nZ s,.s n] [] (.val (.i .i64 (lW (fun a=>a.name==n) s.ar))) []:=by
 have hlen:(AP s.ar).length=s.ar.length:=i8 _ _;unfold bB at hl;refine cX Tryz.func101 rfl ?_;conv=>whnf
 refine dB 1 s.ar.length (fun i _=>∀a∈s.ar.take i,(a.name==n)=false) (fun i _=>[(2,.ptr 0 0),(1,.s n),(5,.i .i64 (i:Nat))]) (fun _ (_:Unit)=>[.box 26 (uG s)]) [] () (by simp) (fun i _ φ0 hi hne=>?_);conv=>whnf
 refine aF (fun h=>?_) (fun h=>?_)<;>conv=>whnf
 rotate_left
 ·have hie:i=s.ar.length:=by have:=aC h;rw[hlen] at this;omega
  rw[hie,b5] at hne;rw[wW hne];exact dH 0
 have hlt:i<s.ar.length:=by have:=aB h;rw[hlen] at this;omega
 refine(j0 hlt).elim fun y hy=>?_;refine ix (cM hy) ⟨rfl,?_⟩;conv=>whnf
 refine aF (fun hp=>?_) (fun hp=>?_)<;>conv=>whnf
 ·rw[wX hy hp hne];exact dH 0
 ·exact nx () hlt ⟨hlt,C8 hy hp hne⟩
theorem lI [MaxL] (s:Sch) (hl:s.rc.length<bB) (n:By):SC Tryz.prog 93 [nZ s,.s n] [] (.val (.i .i64 (lW (fun a=>a.name==n) s.rc))) []:=by
 have hlen:(yF s.rc).length=s.rc.length:=i8 _ _;unfold bB at hl;refine cX Tryz.func93 rfl ?_;conv=>whnf
 refine dB 1 s.rc.length (fun i _=>∀a∈s.rc.take i,(a.name==n)=false) (fun i _=>[(2,.ptr 0 0),(1,.s n),(5,.i .i64 (i:Nat))]) (fun _ (_:Unit)=>[.box 26 (uG s)]) [] () (by simp) (fun i _ φ0 hi hne=>?_);conv=>whnf
 refine aF (fun h=>?_) (fun h=>?_)<;>conv=>whnf
 rotate_left
 ·have hie:i=s.rc.length:=by have:=aC h;rw[hlen] at this;omega
  rw[hie,b5] at hne;rw[wW hne];exact dH 0
 have hlt:i<s.rc.length:=by have:=aB h;rw[hlen] at this;omega
 refine(j0 hlt).elim fun y hy=>?_;refine ix (cM hy) ⟨rfl,?_⟩;conv=>whnf
 refine aF (fun hp=>?_) (fun hp=>?_)<;>conv=>whnf
 ·rw[wX hy hp hne];exact dH 0
 ·exact nx () hlt ⟨hlt,C8 hy hp hne⟩
theorem J6 [MaxL] (s:Sch) (hl:s.st.length<bB) (n:By):SC Tryz.prog 98 [nZ s,.s n] [] (.val (.i .i64 (lW (fun a=>a.name==n) s.st))) []:=by
 have hlen:(z7 s.st).length=s.st.length:=i8 _ _;unfold bB at hl;refine cX Tryz.func98 rfl ?_;conv=>whnf
 refine dB 1 s.st.length (fun i _=>∀a∈s.st.take i,(a.name==n)=false) (fun i _=>[(2,.ptr 0 0),(1,.s n),(5,.i .i64 (i:Nat))]) (fun _ (_:Unit)=>[.box 26 (uG s)]) [] () (by simp) (fun i _ φ0 hi hne=>?_);conv=>whnf
 refine aF (fun h=>?_) (fun h=>?_)<;>conv=>whnf
 rotate_left
 ·have hie:i=s.st.length:=by have:=aC h;rw[hlen] at this;omega
  rw[hie,b5] at hne;rw[wW hne];exact dH 0
 have hlt:i<s.st.length:=by have:=aB h;rw[hlen] at this;omega
 refine(j0 hlt).elim fun y hy=>?_;refine ix (cM hy) ⟨rfl,?_⟩;conv=>whnf
 refine aF (fun hp=>?_) (fun hp=>?_)<;>conv=>whnf
 ·rw[wX hy hp hne];exact dH 0
 ·exact nx () hlt ⟨hlt,C8 hy hp hne⟩
theorem yI [MaxL] (t:Sy) (hl:t.ms.length<bB) (n:By):SC Tryz.prog 83 [AZ t,.s n] [] (.val (.i .i64 (lW (fun a=>a.of==n) t.ms))) []:=by
 have hlen:(lZ t.ms).length=t.ms.length:=i8 _ _;unfold bB at hl;refine cX Tryz.func83 rfl ?_;conv=>whnf
 refine dB 1 t.ms.length (fun i _=>∀a∈t.ms.take i,(a.of==n)=false) (fun i _=>[(2,.ptr 0 0),(1,.s n),(5,.i .i64 (i:Nat))]) (fun _ (_:Unit)=>[.box 39 (S3 t)]) [] () (by simp) (fun i _ φ0 hi hne=>?_);conv=>whnf
 refine aF (fun h=>?_) (fun h=>?_)<;>conv=>whnf
 rotate_left
 ·have hie:i=t.ms.length:=by have:=aC h;rw[hlen] at this;omega
  rw[hie,b5] at hne;rw[wW hne];exact dH 0
 have hlt:i<t.ms.length:=by have:=aB h;rw[hlen] at this;omega
 refine(j0 hlt).elim fun y hy=>?_;refine ix (cM hy) ⟨rfl,?_⟩;conv=>whnf
 refine aF (fun hp=>?_) (fun hp=>?_)<;>conv=>whnf
 ·rw[wX hy hp hne];exact dH 0
 ·exact nx () hlt ⟨hlt,C8 hy hp hne⟩
theorem sY [MaxL] (l:List Itm) (hl:l.length<bB) (n:By):SC Tryz.prog 127 [.sl .none (eZ l),.s n] [] (.val (.i .i64 (lW (fun a=>a.name==n) l))) []:=by
 have hlen:(eZ l).length=l.length:=i8 _ _;unfold bB at hl;refine cX Tryz.func127 rfl ?_;conv=>whnf
 refine dB 0 l.length (fun i _=>∀a∈l.take i,(a.name==n)=false) (fun i _=>[(0,.sl .none (eZ l)),(1,.s n),(5,.i .i64 (i:Nat))]) (fun _ (_:Unit)=>[]) [] () (by simp) (fun i _ φ0 hi hne=>?_);conv=>whnf
 refine aF (fun h=>?_) (fun h=>?_)<;>conv=>whnf
 rotate_left
 ·have hie:i=l.length:=by have:=aC h;rw[hlen] at this;omega
  rw[hie,b5] at hne;rw[wW hne];exact dH 0
 have hlt:i<l.length:=by have:=aB h;rw[hlen] at this;omega
 refine(j0 hlt).elim fun y hy=>?_;refine ix (cM hy) ⟨rfl,?_⟩;conv=>whnf
 refine aF (fun hp=>?_) (fun hp=>?_)<;>conv=>whnf
 ·rw[wX hy hp hne];exact dH 0
 ·exact nx () hlt ⟨hlt,C8 hy hp hne⟩
theorem YO [MaxL] (l:List By) (hl:l.length<bB) (n:By):SC Tryz.prog 86 [.sl .none (b9 l),.s n] [] (.val (.i .i64 (lW (fun a=>a==n) l))) []:=by
 have hlen:(b9 l).length=l.length:=i8 _ _;unfold bB at hl;refine cX Tryz.func86 rfl ?_;conv=>whnf
 refine dB 0 l.length (fun i _=>∀a∈l.take i,(a==n)=false) (fun i _=>[(0,.sl .none (b9 l)),(1,.s n),(5,.i .i64 (i:Nat))]) (fun _ (_:Unit)=>[]) [] () (by simp) (fun i _ φ0 hi hne=>?_);conv=>whnf
 refine aF (fun h=>?_) (fun h=>?_)<;>conv=>whnf
 rotate_left
 ·have hie:i=l.length:=by have:=aC h;rw[hlen] at this;omega
  rw[hie,b5] at hne;rw[wW hne];exact dH 0
 have hlt:i<l.length:=by have:=aB h;rw[hlen] at this;omega
 refine(j0 hlt).elim fun y hy=>?_;refine ix (cM hy) ⟨rfl,?_⟩;conv=>whnf
 refine aF (fun hp=>?_) (fun hp=>?_)<;>conv=>whnf
 ·rw[wX hy hp hne];exact dH 0
 ·exact nx () hlt ⟨hlt,C8 hy hp hne⟩
abbrev S7 (s:Sch) (m:List By) (i:Nat):List GObj:=k8 s m++[.box 3 [.i .i64 (i:Nat)]]
def xN:FuncId->Bool:=fun _=>true
theorem qR {s:Sch} {n:By} (h:(gB s).contains n=true):∃i:Nat,lW (fun r:Rc=>r.name==n) s.rc=i/\s.rc[i]?=some (eQ s n):=by
 rcases j5 (fun r:Rc=>r.name==n) s.rc with⟨_,_,h3⟩|⟨i,y,h1,h2,h3,_⟩
 ·rw[show(gB s).contains n=s.rc.any fun r=>r.name==n from eK _ _ _,h3] at h;cases h
 ·exact⟨i,h1,by unfold eQ;rw[h3];exact h2⟩
theorem tI (l:List Itm) (n:By):iB l n=(xT l n).k:=by unfold iB xT;cases l.find? (·.name==n)<;>rfl
theorem GG [MaxL] (n:Nat) {kd:By} {s objs:List GObj} {i:Nat} {e xe:Int} {lo:Nat} {ds:List GDef} [FH n s] (hX:e=xe) (he:e≠0) (ho:objs.take n=s:=by rfl) (hn:s.length=n:=by rfl) (hh:s.all GObj.notHeld=true:=by rfl):Owes s (sB kd i xe) s (.panic (NK kd i e)) ⟨objs,lo,ds⟩:=by
 subst hX;rw[p9 he];exact dH n (ho:=ho) (hn:=hn) (hl:=Nat.le_of_eq hn) (hh:=hh)
theorem O5 [MaxL] (s:Sch) (hz:mK s) (m0:List By) (i:Nat) (t:Sy) (m:Mb) (hml:m.sel.length<bB) (hm:(gB s).contains m.of=true) (ho:t.owner≠[]->(gB s).contains t.owner=true) (hg:∀r∈s.rc,L4 kO r):
  SC Tryz.prog 123 [.ptr 0 0,AZ t,XQ m,.fn (.func 122) [] [.ptr 2 0]] (S7 s m0 i) (sB qM i (S8 s t m)) (S7 s m0 i):=by
 obtain⟨⟨ha,hl,ht⟩,hr,hst⟩:=hz;unfold bB at hml;generalize hX:S8 s t m=xe;refine cR xN mixed Tryz.func123 rfl (bL rfl) (by first|exact rL _|simp) rfl ?_;conv=>whnf
 refine aF (fun h=>?_) (fun h=>?_)<;>conv=>whnf
 ·rw[show xe=0 from hX.symm.trans (aG (by simpa[b9] using h))];exact dH 3
 replace hX:=(aD (by simpa[b9] using h)).symm.trans hX;refine gV gF 2 10 (fun h=>?_) (fun h=>?_)<;>conv=>whnf
 ·exact GG 3 ((aZ h).symm.trans hX) (by decide)
 replace hX:=(bK h).symm.trans hX;have hto:=ho (by simpa using h);obtain⟨io,ho1,ho2⟩:=qR hto;obtain⟨ir,hr1,hr2⟩:=qR hm;have hgo:=hg _ (aL ho2);obtain⟨o1,o2,_⟩:=hr _ (aL ho2);obtain⟨r1,r2,_⟩:=hr _ (aL hr2);have hro:=qO s hl t.owner;have hrr:=qO s hl m.of;rw[ho1] at hro;rw[hr1] at hrr;generalize eQ s t.owner=o at*;generalize eQ s m.of=r at*;refine iQ [none,none,none,none,some 0,none,none,none,some 0,none,some 3,none,none,none,some 5,some 5] rfl rfl (by kernel_rfl) ?_;conv=>whnf
 refine cP hro ?_;conv=>whnf
 refine ix (cM ho2) ⟨rfl,?_⟩;conv=>whnf
 refine st ?_;conv=>whnf
 refine aF (fun h=>?_) (fun h=>?_)<;>conv=>whnf
 ·refine gV gF 2 10 (w:=true) (fun _=>?_) (fun h9=>nomatch h9);conv=>whnf
  exact GG 3 ((aZ (by rw[show(o.place !=2)=true from h];rfl)).symm.trans hX) (by decide)
 have hp:(o.place !=2)=false:=h;rw[hp] at hX;refine gV gF 2 10 (fun h=>?_) (fun h=>?_)<;>conv=>whnf
 ·exact GG 3 ((aZ h).symm.trans hX) (by decide)
 replace hX:=(bK h).symm.trans hX;refine gV gF 2 11 (fun h=>?_) (fun h=>?_)<;>conv=>whnf
 ·have h8:¬(m.sel.length:Int)=o.keys.length:=by simpa[b9] using h
  exact GG 3 ((aZ (by simp;omega)).symm.trans hX) (by decide)
 have hlk:m.sel.length=o.keys.length:=by
  have h8:(m.sel.length:Int)=o.keys.length:=by simpa[b9] using h
  omega
 replace hX:=(bK (by rw[hlk];simp)).symm.trans hX;refine iQ [none,none,none,none,some 0,none,none,none,some 0,none,some 4,none,none,none,some 6,some 6] rfl rfl (by kernel_rfl) ?_;conv=>whnf
 refine cP hrr ?_;conv=>whnf
 refine ix (cM hr2) ⟨rfl,?_⟩;conv=>whnf
 refine st ?_;conv=>whnf
 refine dB 7 m.sel.length (fun k _=>∀j n,j<k->m.sel[j]?=some n->F2 o r j n=0) (fun k _=>[(3,.fn (.func 122) [] [.ptr 2 0]),(8,.ptr 5 0),(9,.ptr 6 0),(72,.sl .none (b9 m.sel)),(73,.i .i64 (b9 m.sel).length),(74,.i .i64 (k:Nat))])
  (fun k (_:Unit)=>S7 s m0 i++[.box 39 (S3 t),.box 46 (mbC m),.box 35 (XP o),.box 35 (XP r)]) [] () (fun j n h=>absurd h (dG j)) (fun k _ φ1 hk hok=>?_)
 conv=>whnf
 refine aF (fun h=>?_) (fun h=>?_)<;>conv=>whnf
 rotate_left
 ·rw[show xe=0 from hX.symm.trans (mT fun j z hz=>hok j z (by have:=aC h;rw[aP] at this;have:=(List.getElem?_eq_some_iff.1 hz).1;omega) hz)];exact dH 3
 have hlt:k<m.sel.length:=by have:=aB h;rw[aP] at this;omega
 refine(j0 hlt).elim fun n hn=>?_;refine(j0 (show k<o.keys.length by omega)).elim fun n' hn'=>?_;have bad:∀{e:Int},F2 o r k n=e->e≠0->e=xe:=fun he h0=>he.symm.trans ((mU hn (by rw[he];exact h0) hok).symm.trans hX);have hk':(o.keys[k]?).getD []=n':=by rw[hn'];rfl
 refine ix (cM hn) ⟨rfl,?_⟩;conv=>whnf
 refine cP (EN r r1 n) ?_;conv=>whnf
 refine st ?_;conv=>whnf
 refine gV gF 2 5 (fun h4=>?_) (fun h4=>?_)<;>conv=>whnf
 ·exact GG 3 (bad (aZ h4) (by decide)) (by decide)
 refine iQ [some 5,none,some 5,none,none,none,none,none,none,none,some 8,some 8] rfl rfl (by kernel_rfl) ?_;conv=>whnf
 refine ix (cM hn') ⟨rfl,?_⟩;conv=>whnf
 refine cP (EN o o1 n') ?_;conv=>whnf
 refine st ?_;conv=>whnf
 refine gV gF 2 10 (fun h5=>?_) (fun h5=>?_)<;>conv=>whnf
 ·exact GG 3 (bad ((bK h4).trans (aZ (by rw[hk',tI,tI];exact h5))) (by decide)) (by decide)
 exact nx () hlt ⟨hlt,kC hn ((bK h4).trans (bK (by rw[hk',tI,tI];exact h5))) hok⟩
theorem T3 {l:List Itm} {n:By} (hk:kO l=true) (ha:l.any (·.name==n)=true):iB l n≠0:=by
 rcases j5 (fun x:Itm=>x.name==n) l with⟨_,_,h⟩|⟨i,y,_,hy,hf,_⟩
 ·rw[h] at ha;cases ha
 ·unfold iB;rw[hf];have h1:y.ok=true:=by
   unfold kO gM at hk;simp only[aH,aS] at hk;exact hk.2.1.1 y (aL hy)
  intro h0;unfold Itm.ok at h1;rw[show y.k=0 from h0] at h1;simp at h1
theorem a0g [MaxL] (l:List Ky) (hl:l.length<bB) (z:Ky):SC Tryz.prog 186 [.sl .none (tH l),.fn (.func 187) [] [.ptr 0 0]] [.box 78 (WD z)] (.val (.b (l.any fun y=>y.item==z.item))) [.box 78 (WD z)]:=by
 have hi:=yX (fun y=>LG (WD y)) l hl (fun y=>y.item==z.item) _ 78 (WD z) _ 2 (fun y _=>a0b y z) (.inr (.inr (.inr (.inr (.inr (.inl ⟨rfl,rfl,rfl⟩))))));refine cX Tryz.func186 rfl ?_;conv=>whnf
 refine cS [0] hi ?_;conv=>whnf
 rw[<-pP];exact dH 1
theorem mW {α:Type} {p:α->Bool} {l:List α} {i:Nat} {y:α} (hy:l[i]?=some y) (h:p y=false):l.all p=false:=by
 rw[Bool.eq_false_iff];intro h9;rw[aS] at h9;rw[h9 y (aL hy)] at h;cases h
theorem s8 {α:Type} {p:α->Prop} {l:List α} {i:Nat} {y:α} (hy:l[i]?=some y) (hp:p y) (h:∀z∈l.take i,p z):∀z∈l.take (i+1),p z:=fun z hz=>by
 rw[bR,hy] at hz;rcases List.mem_append.1 hz with hz|hz
 ·exact h z hz
 ·simp at hz;subst hz;exact hp
theorem rG {α:Type} {p:α->Bool} {l:List α} {i:Nat} (hi:l.length<=i) (h:∀z∈l.take i,p z=true):l.all p=true:=by
 rw[dI hi] at h;exact List.all_eq_true.2 h
theorem iS [MaxL] (l:List Mb):(lZ l).length=l.length:=i8 _ _
theorem kN [MaxL] (l:List Ky):(tH l).length=l.length:=i8 _ _
theorem a1B [MaxL] (l:List Ky):(tH l).all (fun x=>x.cells.length==2)=true:=by
 rw[aS];intro x hx;obtain⟨b,_,rfl⟩:=List.mem_map.1 hx;rfl
abbrev a0X (t:Sy) (k:Nat):List (Nat×GV):=[(0,.ptr 0 0),(2,.fn (.func 122) [] [.ptr 2 0]),(4,.ptr 3 0),(25,.sl .none (tH t.keys)),(26,.i .i64 (tH t.keys).length),(27,.i .i64 (k:Nat))]
abbrev a0Y (s:Sch) (m:List By) (i:Nat) (t:Sy):List GObj:=S7 s m i++[.box 39 (S3 t)]
def a1j:List (Option Nat):=[none,none,none,none,some 0,none,none,none,some 0,none,some 5,none,none,none,none,some 4,none,none,none,none,some 6,some 6,none]
set_option maxHeartbeats 8000000 in
theorem UU [MaxL] (s:Sch) (hz:mK s) (m0:List By) (i:Nat) (t:Sy) (htl:t.ms.length<bB) (hkl:t.keys.length<bB) (hm:∀m∈t.ms,(gB s).contains m.of=true) (hg:∀r∈s.rc,L4 kO r):
  SC Tryz.prog 124 [.ptr 0 0,AZ t,.fn (.func 122) [] [.ptr 2 0]] (S7 s m0 i) (sB qM i (xQ s t)) (S7 s m0 i):=by
 obtain⟨⟨ha,hl,ht⟩,hr,hst⟩:=hz;unfold bB at htl hkl;generalize hX:xQ s t=xe;refine cR xN mixed Tryz.func124 rfl (bL rfl) (by first|exact rL _|simp) rfl ?_;conv=>whnf
 refine cP (lG (tH t.keys).length 1 4) ?_;conv=>whnf
 refine gV gF 2 11 (fun h=>?_) (fun h=>?_)<;>rw[kN] at h<;>conv=>whnf
 ·exact GG 3 ((aZ h).symm.trans hX) (by decide)
 replace hX:=(bK h).symm.trans hX;have badK:∀{e:Int},kR (lD s t) t.keys=e->e≠0->e=xe:=fun he h0=>(by rw[he,oN h0] at hX;exact hX);refine dB 4 t.keys.length (fun k _=>∀j y,j<k->t.keys[j]?=some y->lD s t j y=0) (fun k _=>a0X t k) (fun k (_:Unit)=>a0Y s m0 i t) [] () (fun j n h=>absurd h (dG j)) (fun k _ φ1 hk hok=>?_);conv=>whnf
 refine aF (fun h=>?_) (fun h=>?_)<;>conv=>whnf
 rotate_left
 ·have h0:kR (lD s t) t.keys=0:=mT fun j z hz=>hok j z (by have:=aC h;rw[kN] at this;have:=(List.getElem?_eq_some_iff.1 hz).1;omega) hz;rw[oM h0] at hX;refine cP (lG t.dups 1 3) ?_;conv=>whnf
  refine gV gF 2 1 (fun h=>?_) (fun h=>?_)<;>conv=>whnf
  ·exact GG 3 ((aZ h).symm.trans hX) (by decide)
  rw[show xe=0 from hX.symm.trans (bK h)];exact dH 3
 have hlt:k<t.keys.length:=by have:=aB h;rw[kN] at this;omega
 refine(j0 hlt).elim fun y hy=>?_;have bad:∀{e:Int},lD s t k y=e->e≠0->e=xe:=fun he h0=>badK ((mU hy (by rw[he];exact h0) hok).trans he) h0;refine ix (cM hy) ⟨rfl,?_⟩;conv=>whnf
 refine st ?_;conv=>whnf
 refine dB 5 t.ms.length (fun j _=>∀m∈t.ms.take j,(eQ s m.of).its.any (·.name==y.item)=true) (fun j _=>(6,.i .i64 (k:Nat))::(7,.ptr 4 0)::(8,.i .i64 0)::(33,.sl .none (lZ t.ms))::(34,.i .i64 (lZ t.ms).length)::(35,.i .i64 (j:Nat))::a0X t k)
  (fun j (_:Unit)=>a0Y s m0 i t++[.box 78 (WD y)]) [] () (fun m h=>by simp at h) (fun j _ φ2 hj hall=>?_)
 conv=>whnf
 refine aF (fun h=>?_) (fun h=>?_)<;>conv=>whnf
 ·have hlt2:j<t.ms.length:=by have:=aB h;rw[iS] at this;omega
  refine(j0 hlt2).elim fun m hm2=>?_;refine(qR (hm m (aL hm2))).elim fun ir hir=>?_;have hrr:=qO s hl m.of;rw[hir.1] at hrr;refine ix (cM hm2) ⟨rfl,?_⟩;conv=>whnf
  refine st ?_;conv=>whnf
  refine iQ a1j rfl rfl (by kernel_rfl) ?_;conv=>whnf
  refine cP hrr ?_;conv=>whnf
  refine ix (cM hir.2) ⟨rfl,?_⟩;conv=>whnf
  refine cP (EN _ (hr _ (aL hir.2)).1 y.item) ?_;conv=>whnf
  refine st ?_;conv=>whnf
  refine gV gF 2 5 (fun h4=>?_) (fun h4=>?_)<;>conv=>whnf
  ·exact GG 3 (bad (aZ (by rw[mW hm2 (SU h4)];rfl)) (by decide)) (by decide)
  exact nx () hlt2 ⟨hlt2,s8 hm2 (by simpa using h4) hall⟩
 have hall':=rG (p:=fun m:Mb=>(eQ s m.of).its.any (·.name==y.item)) (by have:=aC h;rw[iS] at this;omega) hall;have hp1:lD s t k y=dW (!(t.ms.all fun m=>iB (eQ s m.of).its y.item==iB (eQ s ((t.ms.head?.map (·.of)).getD [])).its y.item)) 10 (dW (((t.keys.take k).map (·.item)).contains y.item) 6 0):=bK (by rw[hall'];rfl);have hne:∀m∈t.ms,iB (eQ s m.of).its y.item≠0:=fun m hm9=>by
  obtain⟨ir,_,hir⟩:=qR (hm m hm9);exact T3 (hg _ (aL hir)).1 (List.all_eq_true.1 hall' m hm9)
 have hd:∀m,t.ms[0]?=some m->iB (eQ s m.of).its y.item=iB (eQ s ((t.ms.head?.map (·.of)).getD [])).its y.item:=fun m hm9=>by
  cases hms:t.ms with
  |nil=>rw[hms] at hm9;cases hm9
  |cons x l=>rw[hms] at hm9;cases hm9;rfl
 generalize iB (eQ s ((t.ms.head?.map (·.of)).getD [])).its y.item=F at*;refine dB 5 t.ms.length (fun j (b:Int)=>(∀m∈t.ms.take j,(iB (eQ s m.of).its y.item==F)=true)/\b=if j=0 then 0 else F) (fun j (b:Int)=>(6,.i .i64 (k:Nat))::(7,.ptr 4 0)::(8,.i .i64 b)::(65,.sl .none (lZ t.ms))::(66,.i .i64 (lZ t.ms).length)::(67,.i .i64 (j:Nat))::a0X t k)
  (fun j _=>a0Y s m0 i t++[.box 78 (WD y)]) [] 0 ⟨fun m h=>by simp at h,rfl⟩ (fun j b φ2 hj hb=>?_)
 refine hb.elim fun hall2 hb=>?_;conv=>whnf
 refine aF (fun h=>?_) (fun h=>?_)<;>conv=>whnf
 ·have hlt2:j<t.ms.length:=by have:=aB h;rw[iS] at this;omega
  refine(j0 hlt2).elim fun m hm2=>?_;refine(qR (hm m (aL hm2))).elim fun ir hir=>?_;have hrr:=qO s hl m.of;rw[hir.1] at hrr;have hF:j≠0->F≠0:=fun h0=>by
   have hm9:=gL (l:=t.ms) (i:=0) (by omega);rw[<-hd _ hm9];exact hne _ (aL hm9)
  refine ix (cM hm2) ⟨rfl,?_⟩;conv=>whnf
  refine st ?_;conv=>whnf
  refine iQ a1j rfl rfl (by kernel_rfl) ?_;conv=>whnf
  refine cP hrr ?_;conv=>whnf
  refine ix (cM hir.2) ⟨rfl,?_⟩;conv=>whnf
  refine cP (EN _ (hr _ (aL hir.2)).1 y.item) ?_;conv=>whnf
  refine st ?_;conv=>whnf
  have hk9:=tI (eQ s m.of).its y.item;refine aF (fun h4=>?_) (fun h4=>?_)<;>conv=>whnf
  ·have hj0:j≠0:=fun h0=>by rw[aG h0] at hb;rw[hb] at h4;exact absurd h4 (by decide)
   rw[aD hj0] at hb;refine gV gF 2 10 (w:=(xT (eQ s m.of).its y.item).k !=b) (fun h5=>?_) (fun h5=>?_)<;>conv=>whnf
   ·exact GG 3 (bad (hp1.trans (aZ (by rw[mW hm2 (by rw[hk9,<-hb];simpa using h5)];rfl))) (by decide)) (by decide)
   have h6:(iB (eQ s m.of).its y.item==F)=true:=by rw[hk9,<-hb];simpa using h5
   exact nx (xT (eQ s m.of).its y.item).k hlt2 ⟨hlt2,s8 hm2 h6 hall2,by rw[aD (Nat.succ_ne_zero _),<-hk9];exact eq_of_beq h6⟩
  ·have hj0:j=0:=Nat.eq_zero_of_not_pos fun h0=>by
    rw[aD (by omega)] at hb;exact hF (by omega) (by rw[<-hb];simpa using h4)
   refine gV gF 2 10 (w:=false) (fun h9=>nomatch h9) (fun _=>?_);(conv=>whnf);have h6:(iB (eQ s m.of).its y.item==F)=true:=by rw[hd m (by rw[<-hj0];exact hm2)];simp
   exact nx (xT (eQ s m.of).its y.item).k hlt2 ⟨hlt2,s8 hm2 h6 hall2,by rw[aD (Nat.succ_ne_zero _),<-hk9];exact eq_of_beq h6⟩
 have hp2:=hp1.trans (bK (by rw[rG (by have:=aC h;rw[iS] at this;omega) hall2];rfl));refine Y0 (zs:=tH (t.keys.take k)) (a1B _) (by rw[kN];omega) ?_ (List.map_take ..).symm;conv=>whnf
 refine cS [4] (a0g (t.keys.take k) (by unfold bB;rw[bQ];omega) y) ?_;conv=>whnf
 rw[eK] at hp2;refine gV gF 2 6 (fun h4=>?_) (fun h4=>?_)<;>conv=>whnf
 ·exact GG 3 (bad (hp2.trans (aZ h4)) (by decide)) (by decide)
 exact nx () hlt ⟨hlt,kC hy (hp2.trans (bK h4)) hok⟩
