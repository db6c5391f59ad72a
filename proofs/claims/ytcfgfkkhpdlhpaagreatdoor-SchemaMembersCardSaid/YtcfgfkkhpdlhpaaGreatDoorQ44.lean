/-
  A part of the proof of SchemaMembers.
-/
import Derived.Test.YtcfgfkkhpdlhpaaGreatDoorQ43
set_option linter.all false
set_option maxRecDepth 100000
namespace Go.Proofs.YtcfgfkkhpdlhpaaGreatDoor
open Go.RowKit
def evT (I V:List Itm) (R W:List Val) (t:Tree):Bool×Int:=
 if gU I&&gU V&&a1b I R then
  if r6 I V t=0 then
   if W.length=V.length then
    if VU V W then(kK (a1s I V R W) t,0) else(false,1)
   else(false,11)
  else(false,r6 I V t)
 else(false,1)
def a2O (I V:List Itm) (R W:List Val) (s:By):Bool×Int:=match m4 s with
 |.ok t=>evT I V R W t
 |.err e=>(false,e)
def CZ (I V:List Itm) (s:By):Int:=match m4 s with
 |.ok t=>if gU I&&gU V then r6 I V t else 1
 |.err e=>e
theorem Z7 [MaxL] (I V:List Itm) (hI:I.length<bH) (hV:V.length<bH) (s:By) (hs:s.length<bH):SC Tryz.prog 121 [.s s,.sl .none (gI I),.sl .none (gI V)] [] (.val (.i .i64 (CZ I V s))) []:=by
 have hr:=WM s hs;have hcl:=KX s;unfold qO at hr hcl;unfold CZ;have h1:=MS I hI;have h2:=MS V hV;cases h:m4 s with
 |err e=>
  rw[h] at hr hcl;replace hr:SC Tryz.prog 182 [.s s] [] (.val (.tup [.o .nilIface,.i .i64 e])) []:=hr;have he:=HA h;refine cW Tryz.func121 rfl ?_;conv=>whnf
  refine bF hr (wR _) rfl (fun _=>rfl) hcl ?_;conv=>whnf
  refine aF (fun h0=>?_) (fun h0=>?_)<;>conv=>whnf
  ·exact bG rfl
  ·exfalso;have:e=0:=by simpa using h0
   omega
 |ok t=>
  rw[h] at hr hcl;replace hr:SC Tryz.prog 182 [.s s] [] (.val (.tup [t.gv,.i .i64 0])) []:=hr;have hg:t.good:=(NP h).1;have h3:=Z3 I V hI hV t;cases k1:gU I with
  |false=>
   rw[k1] at h1;refine cW Tryz.func121 rfl ?_;(conv=>whnf);refine bF hr (wR _) rfl (fun _=>rfl) hcl ?_;(conv=>whnf);refine bF h1 (wR _) rfl (cC (bT (cR I)) .nil) (.b _) ?_;(conv=>whnf);exact bG rfl
  |true=>
   rw[k1] at h1;cases k2:gU V with
   |false=>
    rw[k2] at h2;refine cW Tryz.func121 rfl ?_;(conv=>whnf);refine bF hr (wR _) rfl (fun _=>rfl) hcl ?_;(conv=>whnf);refine bF h1 (wR _) rfl (cC (bT (cR I)) .nil) (.b _) ?_;(conv=>whnf);refine bF h2 (wR _) rfl (cC (bT (cR V)) .nil) (.b _) ?_;(conv=>whnf);exact bG rfl
   |true=>
    rw[k2] at h2;rw[T0 k1 k2 hg] at h3;refine cW Tryz.func121 rfl ?_;(conv=>whnf);refine bF hr (wR _) rfl (fun _=>rfl) hcl ?_;(conv=>whnf);refine bF h1 (wR _) rfl (cC (bT (cR I)) .nil) (.b _) ?_;(conv=>whnf);refine bF h2 (wR _) rfl (cC (bT (cR V)) .nil) (.b _) ?_;(conv=>whnf);refine bF h3 (wR _) rfl (cC t.cl (cC (bT (cR I)) (cC (bT (cR V)) .nil))) (.i _ _) ?_;(conv=>whnf);exact bG rfl
def kO (l:List Itm):Bool:=decide (0<l.length)&&gU l
def r7 (s:By):Bool:=decide ((yZ s).2=0)&&decide ((yZ s).1=s)
def y9 (s:Sch) (i:Nat) (r:Rc):Int:=KW kO r7 (fun l c=>CZ l [] c) s (dD s++(gF s).take i) r
def mY (s:Sch):Nat×Int:=if !vD s.rc.length 1 10 then(0,4) else(eP (y9 s) 0 s.rc).getD (0,0)
theorem mU [MaxL] {kd:By} {s s1 objs:List GObj} {i xi:Nat} {e xe:Int} {lo:Nat} {ds:List GDef} (hX:((i,e):Nat×Int)=(xi,xe)) (he:e≠0) (hl:s.length=2:=by rfl) (hn:(objs.take 2).length=2:=by rfl) (hm:(objs.take 2).all GObj.mort=true:=by rfl):
  OwesD 2 s (s5 kd xi xe) (vH xe s1) (.panic (MY kd i e)) ⟨objs,lo,ds⟩:=by
 obtain⟨rfl,rfl⟩:=Prod.mk.inj hX;rw[p9 he,zG he];exact YH 2 (hl:=Nat.le_of_eq hl) (hn:=hn) (hm:=hm)
theorem aZ {w:Bool} {e b:Int} (h:w=true):dZ w e b=e:=by subst h;rfl
theorem bJ {w:Bool} {e b:Int} (h:w=false):dZ w e b=b:=by subst h;rfl
theorem j6 {α:Type} {l:List α} {i:Nat} (h:i<l.length):∃x,l[i]?=some x:=⟨l[i],gL h⟩
theorem SD {b:Bool} (h:(!b)=true):b=false:=by cases b<;>first|rfl|cases h
theorem oP {a b:Int} (h:a≠0):SB a b=a:=aE h
theorem oO {a b:Int} (h:a=0):SB a b=b:=aG h
theorem gR [MaxL] {k:FuncId} {kd:By} (hs:∀(w:Bool) (e:Int) (i:Nat),(w=true->e≠0)->SC Tryz.prog k [.b w,.i .i64 e,.ptr 0 0] [.box 3 [.i .i64 (i:Nat)]] (s5 kd i (if w then e else 0)) [.box 3 [.i .i64 (i:Nat)]])
  (q:Nat) (e:Int) {M:FuncId->Bool} {w:Bool} {i:Nat} {args:List GV} {σ:GS} {K:GRes->GS->Prop} (h1:w=true->K (.panic (MY kd i e)) σ) (h0:w=false->K (.val (.tup [])) σ) (he:w=true->e≠0:=by intro _;decide)
  (hw:Wks args [.b w,.i .i64 e,.ptr q 0]:=by exact wR _) (ho:σ.objs[q]?=some (.box 3 [.i .i64 (i:Nat)]):=by rfl) (hlo:σ.lo=0:=by rfl):iL Tryz.prog M (.fn k) args σ K:=by
 refine cS [q] (hs w e i he) ?_ (by rw[show iQ [q] σ.objs.length 0=q from rfl];exact hw) (by show[σ.objs[q]?]=_;rw[ho];rfl) rfl (by simp) rfl hlo;cases w with
 |true=>
  rw[aG rfl,p9 (he rfl)];exact h1 rfl
 |false=>exact h0 rfl
set_option maxHeartbeats 4000000 in
theorem RP [MaxL] (s:Sch) (hz:lU s):SC Tryz.prog 52 [.ptr 0 0] (k9 s (dD s)) (s5 l6 (mY s).1 (mY s).2) (vH (mY s).2 (k9 s (dD s++gF s))):=by
 obtain⟨⟨ha,hl,ht⟩,hr,hst⟩:=hz;unfold bH at hl;have hlen:(yA s.rc).length=s.rc.length:=gV _ _;generalize hX:mY s=X;obtain⟨xi,xe⟩:=X;unfold mY at hX;have hh:(vH xe (k9 s (dD s++gF s))).all GObj.notHeld=true:=by unfold vH;split<;>rfl
 have hs:(k9 s (dD s)).length<=(vH xe (k9 s (dD s++gF s))).length:=by unfold vH;split<;>exact rL _
 refine SC.of_gwpD 2 oQ mixed Tryz.func52 rfl (bL rfl) hs hh ?_;conv=>whnf
 have hw:=lG (yA s.rc).length 1 10;refine cP hw ?_;conv=>whnf
 refine aF (fun h=>?_) (fun h=>?_)<;>conv=>whnf
 ·rw[hlen] at h;rw[h,aG rfl] at hX;refine cS [] (uC l6 0 4) ?_;conv=>whnf
  exact mU hX (by decide)
 rw[hlen] at h;rw[h,aE (by simp)] at hX;refine dF 2 s.rc.length (fun i _=>∀j z,j<i->s.rc[j]?=some z->y9 s j z=0) (fun i _=>[(0,.ptr 0 0),(25,.sl .none (yA s.rc)),(26,.i .i64 (yA s.rc).length),(27,.i .i64 (i:Nat))]) (fun i (_:Unit)=>k9 s (dD s++(gF s).take i)) [] () (fun j z h=>absurd h (d8 j)) (fun i _ φ0 hi hok=>?_) (hσ:=by rw[List.take_zero,iM]);conv=>whnf
 refine aF (fun h=>?_) (fun h=>?_)<;>conv=>whnf
 rotate_left
 ·have hie:i=s.rc.length:=by have:=aC h;rw[hlen] at this;omega
  rw[nR (Nat.le_of_eq hie.symm) hok] at hX;cases hX;have hm:(gF s).take i=gF s:=dI (by rw[hie];simp[gF]);show OwesD 2 _ _ (k9 s (dD s++gF s)) _ _;exact .val (dH 2 (ho:=aQ (fun m=>k9 s (dD s++m)) hm))
 have hlt:i<s.rc.length:=by have:=aB h;rw[hlen] at this;omega
 obtain⟨y,hy⟩:∃y,s.rc[i]?=some y:=⟨s.rc[i],gL hlt⟩;obtain⟨y1,y2,y3⟩:=hr y (aN hy);unfold bH at y2;have bad0:∀{e:Int},y9 s i y=e->e≠0->((i,e):Nat×Int)=(xi,xe):=fun he h0=>by
  subst he;rw[nS hy h0 hok] at hX;exact hX
 have bad:∀{w:Bool} {e b:Int},y9 s i y=dZ w e b->w=true->e≠0->((i,e):Nat×Int)=(xi,xe):=fun he h h0=>bad0 (he.trans (aZ h)) h0;have hE:y9 s i y=kX (dD s++(gF s).take i) y.name (dZ (!((dD s).contains y.area)) 5 (dZ (!kO y.its||!vD y.place 1 3) 1 (SB (sZ y) (SB (GE s y) (ZS r7 (fun l c=>CZ l [] c) y))))):=rfl;rw[IZ] at hE;refine ix (cU hy) ⟨rfl,?_⟩;conv=>whnf
 refine st ?_;conv=>whnf
 refine st ?_;conv=>whnf
 by_cases hn:kX (dD s++(gF s).take i) y.name 0=0;rotate_left
 ·rw[aE hn] at hE;refine cG [0,1] (EQ (kd:=l6) (i:=i) hn) ?_;conv=>whnf
  exact mU (bad0 hE hn) hn
 rw[aG hn] at hE;refine cG [0,1] (EP (kd:=l6) (i:=i) hn) ?_;conv=>whnf
 refine cS [0,1] (a0G s ha _ y.area) ?_;conv=>whnf
 refine gR kM 2 5 (fun h=>?_) (fun h=>?_)<;>conv=>whnf
 ·exact mU (bad hE h (by decide)) (by decide)
 replace hE:=hE.trans (bJ h);refine cP (A8 y.its y1) ?_;conv=>whnf
 refine aF (fun h=>?_) (fun h=>?_)<;>conv=>whnf
 ·refine gR kM 2 1 (w:=true) (fun _=>?_) (fun h9=>nomatch h9);conv=>whnf
  exact mU (bad hE (by rw[show kO y.its=false from SD h];rfl) (by decide)) (by decide)
 refine cP (lG y.place 1 3) ?_;conv=>whnf
 refine gR kM 2 1 (fun h2=>?_) (fun h2=>?_)<;>conv=>whnf
 ·exact mU (bad hE (by rw[h2];simp) (by decide)) (by decide)
 replace hE:=hE.trans (bJ (by rw[h2,show(!kO y.its)=false from h];rfl));have badK:∀{e:Int},sZ y=e->e≠0->((i,e):Nat×Int)=(xi,xe):=fun he h0=>bad0 (hE.trans (by rw[he,oP h0])) h0;have hm:(k9 s (dD s++(gF s).take i++[y.name]))=k9 s (dD s++(gF s).take (i+1)):=by rw[bB];exact aQ (fun m=>k9 s (dD s++m)) (yG (fun r:Rc=>r.name) hy).symm
 refine aF (fun hp=>?b1) (fun hp=>?b2)
 case' b1=>
  conv=>whnf
  have hK:sZ y=dZ (!vD y.keys.length 1 4) 11 (kR (J3 y) y.keys):=aG (by simpa using hp);refine cP (lG (b5 y.keys).length 1 4) ?_;conv=>whnf
  refine gR kM 2 11 (fun h3=>?_) (fun h3=>?_)<;>rw[aP] at h3<;>conv=>whnf
  ·exact mU (badK (hK.trans (aZ h3)) (by decide)) (by decide)
  replace hK:=hK.trans (bJ h3);refine dF 4 y.keys.length (fun k _=>∀j n,j<k->y.keys[j]?=some n->J3 y j n=0) (fun k _=>[(0,.ptr 0 0),(3,.ptr 3 0),(4,.fn (.func 115) [] [.ptr 2 0]),(25,.sl .none (yA s.rc)),(26,.i .i64 (yA s.rc).length),(27,.i .i64 (i:Nat)),(68,.sl .none (b5 y.keys)),(69,.i .i64 (b5 y.keys).length),(70,.i .i64 (k:Nat))])
   (fun k (_:Unit)=>k9 s (dD s++(gF s).take i++[y.name])++[.box 3 [.i .i64 (i:Nat)],.box 35 (X1 y)]) [] () (fun j n h=>absurd h (d8 j)) (fun k _ φ1 hk hok2=>?_)
  conv=>whnf
  refine aF (fun h=>?_) (fun h=>?_)<;>conv=>whnf
  ·have hlt2:k<y.keys.length:=by have:=aB h;rw[aP] at this;omega
   refine(j6 hlt2).elim fun n hn2=>?_;have badJ:∀{e:Int},J3 y k n=e->e≠0->((i,e):Nat×Int)=(xi,xe):=fun he h0=>badK (hK.trans ((mR hn2 (by rw[he];exact h0) hok2).trans he)) h0;refine ix (cU hn2) ⟨rfl,?_⟩;(conv=>whnf);refine cP (E9 y y1 n) ?_;(conv=>whnf);refine st ?_;(conv=>whnf);refine gR kM 2 5 (fun h4=>?_) (fun h4=>?_)<;>conv=>whnf
   ·exact mU (badJ (aZ h4) (by decide)) (by decide)
   refine XD (zs:=b5 (y.keys.take k)) (fJ _) (by rw[aP];omega) ?_ (List.map_take ..).symm;(conv=>whnf);refine cP (CR (y.keys.take k) n (by unfold bH;rw[bP];omega)) ?_;(conv=>whnf);refine gR kM 2 6 (fun h5=>?_) (fun h5=>?_)<;>conv=>whnf
   ·exact mU (badJ ((bJ h4).trans (aZ h5)) (by decide)) (by decide)
   exact nx () hlt2 ⟨hlt2,kC hn2 ((bJ h4).trans (bJ h5)) hok2⟩
  have hK0:sZ y=0:=hK.trans (mQ fun j z hz=>hok2 j z (by have:=aC h;rw[aP] at this;have:=(List.getElem?_eq_some_iff.1 hz).1;omega) hz)
 case' b2=>
  conv=>whnf
  have hK:sZ y=dZ (!y.keys.isEmpty||y.dups) 1 0:=aE (by simpa using hp);refine aF (fun h3=>?_) (fun h3=>?_)<;>conv=>whnf
  ·refine gR kM 2 1 (w:=true) (fun _=>?_) (fun h9=>nomatch h9);(conv=>whnf);exact mU (badK (hK.trans (aZ (by have:((b5 y.keys).length:Int)>0:=aB h3;rw[aP] at this;cases hk:y.keys with|nil=>rw[hk] at this;exact absurd this (by decide)|cons a l=>rfl))) (by decide)) (by decide)
  have hke:y.keys.isEmpty=true:=by have:¬((b5 y.keys).length:Int)>0:=aC h3;rw[aP] at this;cases hk:y.keys with|nil=>rfl|cons a l=>rw[hk] at this;simp at this
  rw[hke] at hK;refine gR kM 2 1 (fun h4=>?_) (fun h4=>?_)<;>conv=>whnf
  ·exact mU (badK (hK.trans (aZ h4)) (by decide)) (by decide)
  have hK0:sZ y=0:=hK.trans (bJ h4)
 all_goals
  replace hE:=hE.trans (oO hK0);have badV:∀{e:Int},GE s y=e->e≠0->((i,e):Nat×Int)=(xi,xe):=fun he h0=>bad0 (hE.trans (by rw[he,oP h0])) h0;refine aF (fun hv=>?_) (fun hv=>?_)<;>conv=>whnf
  focus
   have hV:GE s y=dZ (match s.st.find? (·.name==y.via) with|none=>true|some t=>!(t.ms.any (·.of==y.name))) 5 0:=aG (by simpa using hv);have hset:=ZB s ht y.via;refine bC (by kernel_rfl) ?_;(conv=>whnf);refine(jT (fun t:Sy=>t.name==y.via) s.st).elim (fun⟨h5,h6,_⟩=>?_) (fun⟨j,t,h5,h6,h7,_⟩=>?_)
   ·refine cP hset ?_;(conv=>whnf);refine GDraw.pan 17 _ rfl (by kernel_rfl) ?_;(conv=>whnf);refine gY (bQ h5) ?_;(conv=>whnf);refine gR kM 2 5 (w:=true) (fun _=>?_) (fun h9=>nomatch h9);(conv=>whnf);exact mU (badV (e:=5) (by rw[hV,h6];rfl) (by decide)) (by decide)
   rw[h5] at hset;rw[h7] at hV;refine cP hset ?_;(conv=>whnf);have hmb:=z8 t (hst t (aN h6)).1 y.name;refine(Bool.eq_false_or_eq_true (decide (mC (fun m:Mb=>m.of==y.name) t.ms<0))).elim (fun h8=>?_) (fun h8=>?_)
   ·refine GDraw.pan 17 _ rfl (by kernel_rfl) ?_;(conv=>whnf);refine ix (cU h6) ⟨rfl,?_⟩;(conv=>whnf);refine cP hmb ?_;(conv=>whnf);refine gR kM 2 5 (w:=decide (mC (fun m:Mb=>m.of==y.name) t.ms<0)) (fun h9=>?_) (fun h9=>by rw[h8] at h9;cases h9);(conv=>whnf);exact mU (badV (hV.trans (aZ ((nD _ _).symm.trans h8))) (by decide)) (by decide)
   refine bC (by kernel_rfl) ?_;(conv=>whnf);refine ix (cU h6) ⟨rfl,?_⟩;(conv=>whnf);refine cP hmb ?_;(conv=>whnf);refine gR kM 2 5 (w:=decide (mC (fun m:Mb=>m.of==y.name) t.ms<0)) (fun h9=>by rw[h8] at h9;cases h9) (fun h9=>?_);(conv=>whnf);replace hV:=hV.trans (bJ ((nD _ _).symm.trans h8))
  rotate_left;focus
   have hV:GE s y=dZ (y.via !=[]) 1 0:=aE (by simpa using hv);refine gR kM 2 1 (fun h4=>?_) (fun h4=>?_)<;>conv=>whnf
   ·exact mU (badV (hV.trans (aZ h4)) (by decide)) (by decide)
   replace hV:=hV.trans (bJ h4)
  all_goals
   replace hE:=hE.trans (oO ‹GE s y=0›);refine aF (fun hc=>?_) (fun hc=>?_)<;>conv=>whnf
   rotate_left
   ·exact nx () hlt ⟨hlt,kC hy (hE.trans (aG (by simpa using hc))) hok⟩ hm
   have hE2:=hE.trans (aE (by simpa using hc));refine cP (a0v y.check y3) ?_;(conv=>whnf);refine aF (fun h5=>?_) (fun h5=>?_)<;>conv=>whnf
   ·refine gR kM 2 2 (w:=true) (fun _=>?_) (fun h9=>nomatch h9);(conv=>whnf);exact mU (bad hE2 (by unfold r7;rw[cM (by simpa using h5)];rfl) (by decide)) (by decide)
   refine gR kM 2 2 (fun h6=>?_) (fun h6=>?_)<;>conv=>whnf
   ·exact mU (bad hE2 (by unfold r7;rw[cM (p:=(yZ y.check).1=y.check) (by simpa using h6),Bool.and_false];rfl) (by decide)) (by decide)
   replace hE2:=hE2.trans (bJ (by unfold r7;rw[bQ (by simpa using h5),bQ (by simpa using h6)];rfl));refine cP (Z7 y.its [] y1 (by decide) y.check y3) ?_ (wC (cO _) (wC (cO _) (wC (bK _ _) (wR _))));(conv=>whnf);refine gR kM 2 (CZ y.its [] y.check) (w:=CZ y.its [] y.check !=0) (fun h7=>?_) (fun h7=>?_) (by intro h;simpa using h)<;>conv=>whnf
   ·exact mU (bad0 hE2 (by simpa using h7)) (by simpa using h7)
   exact nx () hlt ⟨hlt,kC hy (hE2.trans (by simpa using h7)) hok⟩ hm
theorem zE [MaxL] (s:Sch) (hl:s.ar.length<bH) (n:By):SC Tryz.prog 101 [nG s,.s n] [] (.val (.i .i64 (mC (fun a=>a.name==n) s.ar))) []:=by
 have hlen:(AA s.ar).length=s.ar.length:=gV _ _;unfold bH at hl;refine cW Tryz.func101 rfl ?_;conv=>whnf
 refine dF 1 s.ar.length (fun i _=>∀a∈s.ar.take i,(a.name==n)=false) (fun i _=>[(2,.ptr 0 0),(1,.s n),(5,.i .i64 (i:Nat))]) (fun _ (_:Unit)=>[.box 26 (nI s)]) [] () (by simp) (fun i _ φ0 hi hne=>?_);conv=>whnf
 refine aF (fun h=>?_) (fun h=>?_)<;>conv=>whnf
 rotate_left
 ·have hie:i=s.ar.length:=by have:=aC h;rw[hlen] at this;omega
  rw[hie,b9] at hne;rw[wU hne];exact dH 0
 have hlt:i<s.ar.length:=by have:=aB h;rw[hlen] at this;omega
 refine(j6 hlt).elim fun y hy=>?_;refine ix (cU hy) ⟨rfl,?_⟩;conv=>whnf
 refine aF (fun hp=>?_) (fun hp=>?_)<;>conv=>whnf
 ·rw[vA hy hp hne];exact dH 0
 ·exact nx () hlt ⟨hlt,BX hy hp hne⟩
theorem mE [MaxL] (s:Sch) (hl:s.rc.length<bH) (n:By):SC Tryz.prog 93 [nG s,.s n] [] (.val (.i .i64 (mC (fun a=>a.name==n) s.rc))) []:=by
 have hlen:(yA s.rc).length=s.rc.length:=gV _ _;unfold bH at hl;refine cW Tryz.func93 rfl ?_;conv=>whnf
 refine dF 1 s.rc.length (fun i _=>∀a∈s.rc.take i,(a.name==n)=false) (fun i _=>[(2,.ptr 0 0),(1,.s n),(5,.i .i64 (i:Nat))]) (fun _ (_:Unit)=>[.box 26 (nI s)]) [] () (by simp) (fun i _ φ0 hi hne=>?_);conv=>whnf
 refine aF (fun h=>?_) (fun h=>?_)<;>conv=>whnf
 rotate_left
 ·have hie:i=s.rc.length:=by have:=aC h;rw[hlen] at this;omega
  rw[hie,b9] at hne;rw[wU hne];exact dH 0
 have hlt:i<s.rc.length:=by have:=aB h;rw[hlen] at this;omega
 refine(j6 hlt).elim fun y hy=>?_;refine ix (cU hy) ⟨rfl,?_⟩;conv=>whnf
 refine aF (fun hp=>?_) (fun hp=>?_)<;>conv=>whnf
 ·rw[vA hy hp hne];exact dH 0
 ·exact nx () hlt ⟨hlt,BX hy hp hne⟩
theorem IM [MaxL] (s:Sch) (hl:s.st.length<bH) (n:By):SC Tryz.prog 98 [nG s,.s n] [] (.val (.i .i64 (mC (fun a=>a.name==n) s.st))) []:=by
 have hlen:(vF s.st).length=s.st.length:=gV _ _;unfold bH at hl;refine cW Tryz.func98 rfl ?_;conv=>whnf
 refine dF 1 s.st.length (fun i _=>∀a∈s.st.take i,(a.name==n)=false) (fun i _=>[(2,.ptr 0 0),(1,.s n),(5,.i .i64 (i:Nat))]) (fun _ (_:Unit)=>[.box 26 (nI s)]) [] () (by simp) (fun i _ φ0 hi hne=>?_);conv=>whnf
 refine aF (fun h=>?_) (fun h=>?_)<;>conv=>whnf
 rotate_left
 ·have hie:i=s.st.length:=by have:=aC h;rw[hlen] at this;omega
  rw[hie,b9] at hne;rw[wU hne];exact dH 0
 have hlt:i<s.st.length:=by have:=aB h;rw[hlen] at this;omega
 refine(j6 hlt).elim fun y hy=>?_;refine ix (cU hy) ⟨rfl,?_⟩;conv=>whnf
 refine aF (fun hp=>?_) (fun hp=>?_)<;>conv=>whnf
 ·rw[vA hy hp hne];exact dH 0
 ·exact nx () hlt ⟨hlt,BX hy hp hne⟩
theorem yD [MaxL] (t:Sy) (hl:t.ms.length<bH) (n:By):SC Tryz.prog 83 [xJ t,.s n] [] (.val (.i .i64 (mC (fun a=>a.of==n) t.ms))) []:=by
 have hlen:(lX t.ms).length=t.ms.length:=gV _ _;unfold bH at hl;refine cW Tryz.func83 rfl ?_;conv=>whnf
 refine dF 1 t.ms.length (fun i _=>∀a∈t.ms.take i,(a.of==n)=false) (fun i _=>[(2,.ptr 0 0),(1,.s n),(5,.i .i64 (i:Nat))]) (fun _ (_:Unit)=>[.box 39 (PJ t)]) [] () (by simp) (fun i _ φ0 hi hne=>?_);conv=>whnf
 refine aF (fun h=>?_) (fun h=>?_)<;>conv=>whnf
 rotate_left
 ·have hie:i=t.ms.length:=by have:=aC h;rw[hlen] at this;omega
  rw[hie,b9] at hne;rw[wU hne];exact dH 0
 have hlt:i<t.ms.length:=by have:=aB h;rw[hlen] at this;omega
 refine(j6 hlt).elim fun y hy=>?_;refine ix (cU hy) ⟨rfl,?_⟩;conv=>whnf
 refine aF (fun hp=>?_) (fun hp=>?_)<;>conv=>whnf
 ·rw[vA hy hp hne];exact dH 0
 ·exact nx () hlt ⟨hlt,BX hy hp hne⟩
theorem vP [MaxL] (l:List Itm) (hl:l.length<bH) (n:By):SC Tryz.prog 127 [.sl .none (gI l),.s n] [] (.val (.i .i64 (mC (fun a=>a.name==n) l))) []:=by
 have hlen:(gI l).length=l.length:=gV _ _;unfold bH at hl;refine cW Tryz.func127 rfl ?_;conv=>whnf
 refine dF 0 l.length (fun i _=>∀a∈l.take i,(a.name==n)=false) (fun i _=>[(0,.sl .none (gI l)),(1,.s n),(5,.i .i64 (i:Nat))]) (fun _ (_:Unit)=>[]) [] () (by simp) (fun i _ φ0 hi hne=>?_);conv=>whnf
 refine aF (fun h=>?_) (fun h=>?_)<;>conv=>whnf
 rotate_left
 ·have hie:i=l.length:=by have:=aC h;rw[hlen] at this;omega
  rw[hie,b9] at hne;rw[wU hne];exact dH 0
 have hlt:i<l.length:=by have:=aB h;rw[hlen] at this;omega
 refine(j6 hlt).elim fun y hy=>?_;refine ix (cU hy) ⟨rfl,?_⟩;conv=>whnf
 refine aF (fun hp=>?_) (fun hp=>?_)<;>conv=>whnf
 ·rw[vA hy hp hne];exact dH 0
 ·exact nx () hlt ⟨hlt,BX hy hp hne⟩
theorem PZ [MaxL] (l:List By) (hl:l.length<bH) (n:By):SC Tryz.prog 86 [.sl .none (b5 l),.s n] [] (.val (.i .i64 (mC (fun a=>a==n) l))) []:=by
 have hlen:(b5 l).length=l.length:=gV _ _;unfold bH at hl;refine cW Tryz.func86 rfl ?_;conv=>whnf
 refine dF 0 l.length (fun i _=>∀a∈l.take i,(a==n)=false) (fun i _=>[(0,.sl .none (b5 l)),(1,.s n),(5,.i .i64 (i:Nat))]) (fun _ (_:Unit)=>[]) [] () (by simp) (fun i _ φ0 hi hne=>?_);conv=>whnf
 refine aF (fun h=>?_) (fun h=>?_)<;>conv=>whnf
 rotate_left
 ·have hie:i=l.length:=by have:=aC h;rw[hlen] at this;omega
  rw[hie,b9] at hne;rw[wU hne];exact dH 0
 have hlt:i<l.length:=by have:=aB h;rw[hlen] at this;omega
 refine(j6 hlt).elim fun y hy=>?_;refine ix (cU hy) ⟨rfl,?_⟩;conv=>whnf
 refine aF (fun hp=>?_) (fun hp=>?_)<;>conv=>whnf
 ·rw[vA hy hp hne];exact dH 0
 ·exact nx () hlt ⟨hlt,BX hy hp hne⟩
abbrev RM (s:Sch) (m:List By) (i:Nat):List GObj:=k9 s m++[.box 3 [.i .i64 (i:Nat)]]
def PA:FuncId->Bool:=fun _=>true
theorem qN {s:Sch} {n:By} (h:(gF s).contains n=true):∃i:Nat,mC (fun r:Rc=>r.name==n) s.rc=i/\s.rc[i]?=some (i8 s n):=by
 rcases jT (fun r:Rc=>r.name==n) s.rc with⟨_,_,h3⟩|⟨i,y,h1,h2,h3,_⟩
 ·rw[show(gF s).contains n=s.rc.any fun r=>r.name==n from dG _ _ _,h3] at h;cases h
 ·exact⟨i,h1,by unfold i8;rw[h3];exact h2⟩
theorem sY (l:List Itm) (n:By):iC l n=(xN l n).k:=by unfold iC xN;cases l.find? (·.name==n)<;>rfl
theorem FZ [MaxL] (n:Nat) {kd:By} {s objs:List GObj} {i:Nat} {e xe:Int} {lo:Nat} {ds:List GDef} [FH n s] (hX:e=xe) (he:e≠0) (ho:objs.take n=s:=by rfl) (hn:s.length=n:=by rfl) (hh:s.all GObj.notHeld=true:=by rfl):Owes s (s5 kd i xe) s (.panic (MY kd i e)) ⟨objs,lo,ds⟩:=by
 subst hX;rw[p9 he];exact dH n (ho:=ho) (hn:=hn) (hl:=Nat.le_of_eq hn) (hh:=hh)
theorem NH [MaxL] (s:Sch) (hz:lU s) (m0:List By) (i:Nat) (t:Sy) (m:Mb) (hml:m.sel.length<bH) (hm:(gF s).contains m.of=true) (ho:t.owner≠[]->(gF s).contains t.owner=true) (hg:∀r∈s.rc,KE kO r):
  SC Tryz.prog 123 [.ptr 0 0,xJ t,X2 m,.fn (.func 122) [] [.ptr 2 0]] (RM s m0 i) (s5 qI i (U5 s t m)) (RM s m0 i):=by
 obtain⟨⟨ha,hl,ht⟩,hr,hst⟩:=hz;unfold bH at hml;generalize hX:U5 s t m=xe;refine dL PA mixed Tryz.func123 rfl (bL rfl) (by first|exact rL _|simp) rfl ?_;conv=>whnf
 refine aF (fun h=>?_) (fun h=>?_)<;>conv=>whnf
 ·rw[show xe=0 from hX.symm.trans (aG (by simpa[b5] using h))];exact dH 3
 replace hX:=(aE (by simpa[b5] using h)).symm.trans hX;refine gR gA 2 10 (fun h=>?_) (fun h=>?_)<;>conv=>whnf
 ·exact FZ 3 ((aZ h).symm.trans hX) (by decide)
 replace hX:=(bJ h).symm.trans hX;have hto:=ho (by simpa using h);obtain⟨io,ho1,ho2⟩:=qN hto;obtain⟨ir,hr1,hr2⟩:=qN hm;have hgo:=hg _ (aN ho2);obtain⟨o1,o2,_⟩:=hr _ (aN ho2);obtain⟨r1,r2,_⟩:=hr _ (aN hr2);have hro:=qK s hl t.owner;have hrr:=qK s hl m.of;rw[ho1] at hro;rw[hr1] at hrr;generalize i8 s t.owner=o at*;generalize i8 s m.of=r at*;refine GDraw.wildT [none,none,none,none,some 0,none,none,none,some 0,none,some 3,none,none,none,some 5,some 5] rfl rfl (by kernel_rfl) ?_;conv=>whnf
 refine cP hro ?_;conv=>whnf
 refine ix (cU ho2) ⟨rfl,?_⟩;conv=>whnf
 refine st ?_;conv=>whnf
 refine aF (fun h=>?_) (fun h=>?_)<;>conv=>whnf
 ·refine gR gA 2 10 (w:=true) (fun _=>?_) (fun h9=>nomatch h9);conv=>whnf
  exact FZ 3 ((aZ (by rw[show(o.place !=2)=true from h];rfl)).symm.trans hX) (by decide)
 have hp:(o.place !=2)=false:=h;rw[hp] at hX;refine gR gA 2 10 (fun h=>?_) (fun h=>?_)<;>conv=>whnf
 ·exact FZ 3 ((aZ h).symm.trans hX) (by decide)
 replace hX:=(bJ h).symm.trans hX;refine gR gA 2 11 (fun h=>?_) (fun h=>?_)<;>conv=>whnf
 ·have h8:¬(m.sel.length:Int)=o.keys.length:=by simpa[b5] using h
  exact FZ 3 ((aZ (by simp;omega)).symm.trans hX) (by decide)
 have hlk:m.sel.length=o.keys.length:=by
  have h8:(m.sel.length:Int)=o.keys.length:=by simpa[b5] using h
  omega
 replace hX:=(bJ (by rw[hlk];simp)).symm.trans hX;refine GDraw.wildT [none,none,none,none,some 0,none,none,none,some 0,none,some 4,none,none,none,some 6,some 6] rfl rfl (by kernel_rfl) ?_;conv=>whnf
 refine cP hrr ?_;conv=>whnf
 refine ix (cU hr2) ⟨rfl,?_⟩;conv=>whnf
 refine st ?_;conv=>whnf
 refine dF 7 m.sel.length (fun k _=>∀j n,j<k->m.sel[j]?=some n->HF o r j n=0) (fun k _=>[(3,.fn (.func 122) [] [.ptr 2 0]),(8,.ptr 5 0),(9,.ptr 6 0),(72,.sl .none (b5 m.sel)),(73,.i .i64 (b5 m.sel).length),(74,.i .i64 (k:Nat))])
  (fun k (_:Unit)=>RM s m0 i++[.box 39 (PJ t),.box 46 (ZK m),.box 35 (X1 o),.box 35 (X1 r)]) [] () (fun j n h=>absurd h (d8 j)) (fun k _ φ1 hk hok=>?_)
 conv=>whnf
 refine aF (fun h=>?_) (fun h=>?_)<;>conv=>whnf
 rotate_left
 ·rw[show xe=0 from hX.symm.trans (mQ fun j z hz=>hok j z (by have:=aC h;rw[aP] at this;have:=(List.getElem?_eq_some_iff.1 hz).1;omega) hz)];exact dH 3
 have hlt:k<m.sel.length:=by have:=aB h;rw[aP] at this;omega
 refine(j6 hlt).elim fun n hn=>?_;refine(j6 (show k<o.keys.length by omega)).elim fun n' hn'=>?_;have bad:∀{e:Int},HF o r k n=e->e≠0->e=xe:=fun he h0=>he.symm.trans ((mR hn (by rw[he];exact h0) hok).symm.trans hX);have hk':(o.keys[k]?).getD []=n':=by rw[hn'];rfl
 refine ix (cU hn) ⟨rfl,?_⟩;conv=>whnf
 refine cP (E9 r r1 n) ?_;conv=>whnf
 refine st ?_;conv=>whnf
 refine gR gA 2 5 (fun h4=>?_) (fun h4=>?_)<;>conv=>whnf
 ·exact FZ 3 (bad (aZ h4) (by decide)) (by decide)
 refine GDraw.wildT [some 5,none,some 5,none,none,none,none,none,none,none,some 8,some 8] rfl rfl (by kernel_rfl) ?_;conv=>whnf
 refine ix (cU hn') ⟨rfl,?_⟩;conv=>whnf
 refine cP (E9 o o1 n') ?_;conv=>whnf
 refine st ?_;conv=>whnf
 refine gR gA 2 10 (fun h5=>?_) (fun h5=>?_)<;>conv=>whnf
 ·exact FZ 3 (bad ((bJ h4).trans (aZ (by rw[hk',sY,sY];exact h5))) (by decide)) (by decide)
 exact nx () hlt ⟨hlt,kC hn ((bJ h4).trans (bJ (by rw[hk',sY,sY];exact h5))) hok⟩
theorem SM {l:List Itm} {n:By} (hk:kO l=true) (ha:l.any (·.name==n)=true):iC l n≠0:=by
 rcases jT (fun x:Itm=>x.name==n) l with⟨_,_,h⟩|⟨i,y,_,hy,hf,_⟩
 ·rw[h] at ha;cases ha
 ·unfold iC;rw[hf];have h1:y.ok=true:=by
   unfold kO gU at hk;simp only[aH,aS] at hk;exact hk.2.1.1 y (aN hy)
  intro h0;unfold Itm.ok at h1;rw[show y.k=0 from h0] at h1;simp at h1
theorem a0F [MaxL] (l:List Ky) (hl:l.length<bH) (z:Ky):SC Tryz.prog 186 [.sl .none (sX l),.fn (.func 187) [] [.ptr 0 0]] [.box 78 (VT z)] (.val (.b (l.any fun y=>y.item==z.item))) [.box 78 (VT z)]:=by
 have hi:=BR (fun y=>NJ (VT y)) l hl (fun y=>y.item==z.item) _ 78 (VT z) _ 2 (fun y _=>a09 y z) (.inr (.inr (.inr (.inr (.inr (.inl ⟨rfl,rfl,rfl⟩))))));refine cW Tryz.func186 rfl ?_;conv=>whnf
 refine cS [0] hi ?_;conv=>whnf
 rw[<-nE];exact dH 1
theorem mT {α:Type} {p:α->Bool} {l:List α} {i:Nat} {y:α} (hy:l[i]?=some y) (h:p y=false):l.all p=false:=by
 rw[Bool.eq_false_iff];intro h9;rw[aS] at h9;rw[h9 y (aN hy)] at h;cases h
theorem rZ {α:Type} {p:α->Prop} {l:List α} {i:Nat} {y:α} (hy:l[i]?=some y) (hp:p y) (h:∀z∈l.take i,p z):∀z∈l.take (i+1),p z:=fun z hz=>by
 rw[cH,hy] at hz;rcases List.mem_append.1 hz with hz|hz
 ·exact h z hz
 ·simp at hz;subst hz;exact hp
theorem r8 {α:Type} {p:α->Bool} {l:List α} {i:Nat} (hi:l.length<=i) (h:∀z∈l.take i,p z=true):l.all p=true:=by
 rw[dI hi] at h;exact List.all_eq_true.2 h
theorem iV [MaxL] (l:List Mb):(lX l).length=l.length:=gV _ _
theorem kN [MaxL] (l:List Ky):(sX l).length=l.length:=gV _ _
theorem a0d [MaxL] (l:List Ky):(sX l).all (fun x=>x.cells.length==2)=true:=by
 rw[aS];intro x hx;obtain⟨b,_,rfl⟩:=List.mem_map.1 hx;rfl
abbrev a04 (t:Sy) (k:Nat):List (Nat×GV):=[(0,.ptr 0 0),(2,.fn (.func 122) [] [.ptr 2 0]),(4,.ptr 3 0),(25,.sl .none (sX t.keys)),(26,.i .i64 (sX t.keys).length),(27,.i .i64 (k:Nat))]
abbrev a05 (s:Sch) (m:List By) (i:Nat) (t:Sy):List GObj:=RM s m i++[.box 39 (PJ t)]
def a1B:List (Option Nat):=[none,none,none,none,some 0,none,none,none,some 0,none,some 5,none,none,none,none,some 4,none,none,none,none,some 6,some 6,none]
set_option maxHeartbeats 8000000 in
theorem UC [MaxL] (s:Sch) (hz:lU s) (m0:List By) (i:Nat) (t:Sy) (htl:t.ms.length<bH) (hkl:t.keys.length<bH) (hm:∀m∈t.ms,(gF s).contains m.of=true) (hg:∀r∈s.rc,KE kO r):
  SC Tryz.prog 124 [.ptr 0 0,xJ t,.fn (.func 122) [] [.ptr 2 0]] (RM s m0 i) (s5 qI i (C1 s t)) (RM s m0 i):=by
 obtain⟨⟨ha,hl,ht⟩,hr,hst⟩:=hz;unfold bH at htl hkl;generalize hX:C1 s t=xe;refine dL PA mixed Tryz.func124 rfl (bL rfl) (by first|exact rL _|simp) rfl ?_;conv=>whnf
 refine cP (lG (sX t.keys).length 1 4) ?_;conv=>whnf
 refine gR gA 2 11 (fun h=>?_) (fun h=>?_)<;>rw[kN] at h<;>conv=>whnf
 ·exact FZ 3 ((aZ h).symm.trans hX) (by decide)
 replace hX:=(bJ h).symm.trans hX;have badK:∀{e:Int},kR (lD s t) t.keys=e->e≠0->e=xe:=fun he h0=>(by rw[he,oP h0] at hX;exact hX);refine dF 4 t.keys.length (fun k _=>∀j y,j<k->t.keys[j]?=some y->lD s t j y=0) (fun k _=>a04 t k) (fun k (_:Unit)=>a05 s m0 i t) [] () (fun j n h=>absurd h (d8 j)) (fun k _ φ1 hk hok=>?_);conv=>whnf
 refine aF (fun h=>?_) (fun h=>?_)<;>conv=>whnf
 rotate_left
 ·have h0:kR (lD s t) t.keys=0:=mQ fun j z hz=>hok j z (by have:=aC h;rw[kN] at this;have:=(List.getElem?_eq_some_iff.1 hz).1;omega) hz;rw[oO h0] at hX;refine cP (lG t.dups 1 3) ?_;conv=>whnf
  refine gR gA 2 1 (fun h=>?_) (fun h=>?_)<;>conv=>whnf
  ·exact FZ 3 ((aZ h).symm.trans hX) (by decide)
  rw[show xe=0 from hX.symm.trans (bJ h)];exact dH 3
 have hlt:k<t.keys.length:=by have:=aB h;rw[kN] at this;omega
 refine(j6 hlt).elim fun y hy=>?_;have bad:∀{e:Int},lD s t k y=e->e≠0->e=xe:=fun he h0=>badK ((mR hy (by rw[he];exact h0) hok).trans he) h0;refine ix (cU hy) ⟨rfl,?_⟩;conv=>whnf
 refine st ?_;conv=>whnf
 refine dF 5 t.ms.length (fun j _=>∀m∈t.ms.take j,(i8 s m.of).its.any (·.name==y.item)=true) (fun j _=>(6,.i .i64 (k:Nat))::(7,.ptr 4 0)::(8,.i .i64 0)::(33,.sl .none (lX t.ms))::(34,.i .i64 (lX t.ms).length)::(35,.i .i64 (j:Nat))::a04 t k)
  (fun j (_:Unit)=>a05 s m0 i t++[.box 78 (VT y)]) [] () (fun m h=>by simp at h) (fun j _ φ2 hj hall=>?_)
 conv=>whnf
 refine aF (fun h=>?_) (fun h=>?_)<;>conv=>whnf
 ·have hlt2:j<t.ms.length:=by have:=aB h;rw[iV] at this;omega
  refine(j6 hlt2).elim fun m hm2=>?_;refine(qN (hm m (aN hm2))).elim fun ir hir=>?_;have hrr:=qK s hl m.of;rw[hir.1] at hrr;refine ix (cU hm2) ⟨rfl,?_⟩;conv=>whnf
  refine st ?_;conv=>whnf
  refine GDraw.wildT a1B rfl rfl (by kernel_rfl) ?_;conv=>whnf
  refine cP hrr ?_;conv=>whnf
  refine ix (cU hir.2) ⟨rfl,?_⟩;conv=>whnf
  refine cP (E9 _ (hr _ (aN hir.2)).1 y.item) ?_;conv=>whnf
  refine st ?_;conv=>whnf
  refine gR gA 2 5 (fun h4=>?_) (fun h4=>?_)<;>conv=>whnf
  ·exact FZ 3 (bad (aZ (by rw[mT hm2 (SD h4)];rfl)) (by decide)) (by decide)
  exact nx () hlt2 ⟨hlt2,rZ hm2 (by simpa using h4) hall⟩
 have hall':=r8 (p:=fun m:Mb=>(i8 s m.of).its.any (·.name==y.item)) (by have:=aC h;rw[iV] at this;omega) hall;have hp1:lD s t k y=dZ (!(t.ms.all fun m=>iC (i8 s m.of).its y.item==iC (i8 s ((t.ms.head?.map (·.of)).getD [])).its y.item)) 10 (dZ (((t.keys.take k).map (·.item)).contains y.item) 6 0):=bJ (by rw[hall'];rfl);have hne:∀m∈t.ms,iC (i8 s m.of).its y.item≠0:=fun m hm9=>by
  obtain⟨ir,_,hir⟩:=qN (hm m hm9);exact SM (hg _ (aN hir)).1 (List.all_eq_true.1 hall' m hm9)
 have hd:∀m,t.ms[0]?=some m->iC (i8 s m.of).its y.item=iC (i8 s ((t.ms.head?.map (·.of)).getD [])).its y.item:=fun m hm9=>by
  cases hms:t.ms with
  |nil=>rw[hms] at hm9;cases hm9
  |cons x l=>rw[hms] at hm9;cases hm9;rfl
 generalize iC (i8 s ((t.ms.head?.map (·.of)).getD [])).its y.item=F at*;refine dF 5 t.ms.length (fun j (b:Int)=>(∀m∈t.ms.take j,(iC (i8 s m.of).its y.item==F)=true)/\b=if j=0 then 0 else F) (fun j (b:Int)=>(6,.i .i64 (k:Nat))::(7,.ptr 4 0)::(8,.i .i64 b)::(65,.sl .none (lX t.ms))::(66,.i .i64 (lX t.ms).length)::(67,.i .i64 (j:Nat))::a04 t k)
  (fun j _=>a05 s m0 i t++[.box 78 (VT y)]) [] 0 ⟨fun m h=>by simp at h,rfl⟩ (fun j b φ2 hj hb=>?_)
 refine hb.elim fun hall2 hb=>?_;conv=>whnf
 refine aF (fun h=>?_) (fun h=>?_)<;>conv=>whnf
 ·have hlt2:j<t.ms.length:=by have:=aB h;rw[iV] at this;omega
  refine(j6 hlt2).elim fun m hm2=>?_;refine(qN (hm m (aN hm2))).elim fun ir hir=>?_;have hrr:=qK s hl m.of;rw[hir.1] at hrr;have hF:j≠0->F≠0:=fun h0=>by
   have hm9:=gL (l:=t.ms) (i:=0) (by omega);rw[<-hd _ hm9];exact hne _ (aN hm9)
  refine ix (cU hm2) ⟨rfl,?_⟩;conv=>whnf
  refine st ?_;conv=>whnf
  refine GDraw.wildT a1B rfl rfl (by kernel_rfl) ?_;conv=>whnf
  refine cP hrr ?_;conv=>whnf
  refine ix (cU hir.2) ⟨rfl,?_⟩;conv=>whnf
  refine cP (E9 _ (hr _ (aN hir.2)).1 y.item) ?_;conv=>whnf
  refine st ?_;conv=>whnf
  have hk9:=sY (i8 s m.of).its y.item;refine aF (fun h4=>?_) (fun h4=>?_)<;>conv=>whnf
  ·have hj0:j≠0:=fun h0=>by rw[aG h0] at hb;rw[hb] at h4;exact absurd h4 (by decide)
   rw[aE hj0] at hb;refine gR gA 2 10 (w:=(xN (i8 s m.of).its y.item).k !=b) (fun h5=>?_) (fun h5=>?_)<;>conv=>whnf
   ·exact FZ 3 (bad (hp1.trans (aZ (by rw[mT hm2 (by rw[hk9,<-hb];simpa using h5)];rfl))) (by decide)) (by decide)
   have h6:(iC (i8 s m.of).its y.item==F)=true:=by rw[hk9,<-hb];simpa using h5
   exact nx (xN (i8 s m.of).its y.item).k hlt2 ⟨hlt2,rZ hm2 h6 hall2,by rw[aE (Nat.succ_ne_zero _),<-hk9];exact eq_of_beq h6⟩
  ·have hj0:j=0:=Nat.eq_zero_of_not_pos fun h0=>by
    rw[aE (by omega)] at hb;exact hF (by omega) (by rw[<-hb];simpa using h4)
   refine gR gA 2 10 (w:=false) (fun h9=>nomatch h9) (fun _=>?_);(conv=>whnf);have h6:(iC (i8 s m.of).its y.item==F)=true:=by rw[hd m (by rw[<-hj0];exact hm2)];simp
   exact nx (xN (i8 s m.of).its y.item).k hlt2 ⟨hlt2,rZ hm2 h6 hall2,by rw[aE (Nat.succ_ne_zero _),<-hk9];exact eq_of_beq h6⟩
 have hp2:=hp1.trans (bJ (by rw[r8 (by have:=aC h;rw[iV] at this;omega) hall2];rfl));refine XD (zs:=sX (t.keys.take k)) (a0d _) (by rw[kN];omega) ?_ (List.map_take ..).symm;conv=>whnf
 refine cS [4] (a0F (t.keys.take k) (by unfold bH;rw[bP];omega) y) ?_;conv=>whnf
 rw[dG] at hp2;refine gR gA 2 6 (fun h4=>?_) (fun h4=>?_)<;>conv=>whnf
 ·exact FZ 3 (bad (hp2.trans (aZ h4)) (by decide)) (by decide)
 exact nx () hlt ⟨hlt,kC hy (hp2.trans (bJ h4)) hok⟩
