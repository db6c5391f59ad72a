/-
  A part of the proof of SchemaFinds.
-/
import Derived.Test.YtcfgfkkhpdlhpaaGreatDoorT43
set_option linter.all false
set_option maxRecDepth 100000
namespace Go.Proofs.YtcfgfkkhpdlhpaaGreatDoor
open Go.RowKit
def evT (I V:List Itm) (R W:List Val) (t:Tree):Bool×Int:=
 if i7 I&&i7 V&&a2v I R then
  if rK I V t=0 then
   if W.length=V.length then
    if XD V W then(kS (a3C I V R W) t,0) else(false,1)
   else(false,11)
  else(false,rK I V t)
 else(false,1)
def a3m (I V:List Itm) (R W:List Val) (s:By):Bool×Int:=match mF s with
 |.ok t=>evT I V R W t
 |.err e=>(false,e)
def DG (I V:List Itm) (s:By):Int:=match mF s with
 |.ok t=>if i7 I&&i7 V then rK I V t else 1
 |.err e=>e
theorem a0b [MaxL] (I V:List Itm) (hI:I.length<bH) (hV:V.length<bH) (s:By) (hs:s.length<bH):SC Tryz.prog 121 [.s s,.sl .none (fU I),.sl .none (fU V)] [] (.val (.i .i64 (DG I V s))) []:=by
 have hr:=Y6 s hs;have hcl:=M7 s;unfold qX at hr hcl;unfold DG;have h1:=O2 I hI;have h2:=O2 V hV;cases h:mF s with
 |err e=>
  rw[h] at hr hcl;replace hr:SC Tryz.prog 182 [.s s] [] (.val (.tup [.o .nilIface,.i .i64 e])) []:=hr;have he:=I5 h;refine cZ Tryz.func121 rfl ?_;conv=>whnf
  refine bG hr (wR _) rfl (fun _=>rfl) hcl ?_;conv=>whnf
  refine aF (fun h0=>?_) (fun h0=>?_)<;>conv=>whnf
  ·exact bI rfl
  ·exfalso;have:e=0:=by simpa using h0
   omega
 |ok t=>
  rw[h] at hr hcl;replace hr:SC Tryz.prog 182 [.s s] [] (.val (.tup [t.gv,.i .i64 0])) []:=hr;have hg:t.good:=(P0 h).1;have h3:=a0X I V hI hV t;cases k1:i7 I with
  |false=>
   rw[k1] at h1;refine cZ Tryz.func121 rfl ?_;(conv=>whnf);refine bG hr (wR _) rfl (fun _=>rfl) hcl ?_;(conv=>whnf);refine bG h1 (wR _) rfl (cC (bV (d8 I)) .nil) (.b _) ?_;(conv=>whnf);exact bI rfl
  |true=>
   rw[k1] at h1;cases k2:i7 V with
   |false=>
    rw[k2] at h2;refine cZ Tryz.func121 rfl ?_;(conv=>whnf);refine bG hr (wR _) rfl (fun _=>rfl) hcl ?_;(conv=>whnf);refine bG h1 (wR _) rfl (cC (bV (d8 I)) .nil) (.b _) ?_;(conv=>whnf);refine bG h2 (wR _) rfl (cC (bV (d8 V)) .nil) (.b _) ?_;(conv=>whnf);exact bI rfl
   |true=>
    rw[k2] at h2;rw[UG k1 k2 hg] at h3;refine cZ Tryz.func121 rfl ?_;(conv=>whnf);refine bG hr (wR _) rfl (fun _=>rfl) hcl ?_;(conv=>whnf);refine bG h1 (wR _) rfl (cC (bV (d8 I)) .nil) (.b _) ?_;(conv=>whnf);refine bG h2 (wR _) rfl (cC (bV (d8 V)) .nil) (.b _) ?_;(conv=>whnf);refine bG h3 (wR _) rfl (cC t.cl (cC (bV (d8 I)) (cC (bV (d8 V)) .nil))) (.i _ _) ?_;(conv=>whnf);exact bI rfl
def kY (l:List Itm):Bool:=decide (0<l.length)&&i7 l
def rM (s:By):Bool:=decide ((zQ s).2=0)&&decide ((zQ s).1=s)
def yT (s:Sch) (i:Nat) (r:Rc):Int:=JK kY rM (fun l c=>DG l [] c) s (dH s++(eJ s).take i) r
def nF (s:Sch):Nat×Int:=if !vR s.rc.length 1 10 then(0,4) else(eS (yT s) 0 s.rc).getD (0,0)
theorem nA [MaxL] {kd:By} {s s1 objs:List GObj} {i xi:Nat} {e xe:Int} {lo:Nat} {ds:List GDef} (hX:((i,e):Nat×Int)=(xi,xe)) (he:e≠0) (hl:s.length=2:=by rfl) (hn:(objs.take 2).length=2:=by rfl) (hm:(objs.take 2).all GObj.mort=true:=by rfl):
  OwesD 2 s (sH kd xi xe) (vV xe s1) (.panic (O8 kd i e)) ⟨objs,lo,ds⟩:=by
 obtain⟨rfl,rfl⟩:=Prod.mk.inj hX;rw[pQ he,zZ he];exact a0B 2 (hl:=Nat.le_of_eq hl) (hn:=hn) (hm:=hm)
theorem b4 {w:Bool} {e b:Int} (h:w=true):dZ w e b=e:=by subst h;rfl
theorem bK {w:Bool} {e b:Int} (h:w=false):dZ w e b=b:=by subst h;rfl
theorem gQ {α:Type} {l:List α} {i:Nat} (h:i<l.length):∃x,l[i]?=some x:=⟨l[i],gL h⟩
theorem TS {b:Bool} (h:(!b)=true):b=false:=by cases b<;>first|rfl|cases h
theorem oX {a b:Int} (h:a≠0):TR a b=a:=aE h
theorem oW {a b:Int} (h:a=0):TR a b=b:=aG h
theorem hH [MaxL] {k:FuncId} {kd:By} (hs:∀(w:Bool) (e:Int) (i:Nat),(w=true->e≠0)->SC Tryz.prog k [.b w,.i .i64 e,.ptr 0 0] [.box 3 [.i .i64 (i:Nat)]] (sH kd i (if w then e else 0)) [.box 3 [.i .i64 (i:Nat)]])
  (q:Nat) (e:Int) {M:FuncId->Bool} {w:Bool} {i:Nat} {args:List GV} {σ:GS} {K:GRes->GS->Prop} (h1:w=true->K (.panic (O8 kd i e)) σ) (h0:w=false->K (.val (.tup [])) σ) (he:w=true->e≠0:=by intro _;decide)
  (hw:Wks args [.b w,.i .i64 e,.ptr q 0]:=by exact wR _) (ho:σ.objs[q]?=some (.box 3 [.i .i64 (i:Nat)]):=by rfl) (hlo:σ.lo=0:=by rfl):iU Tryz.prog M (.fn k) args σ K:=by
 refine cS [q] (hs w e i he) ?_ (by rw[show iT [q] σ.objs.length 0=q from rfl];exact hw) (by show[σ.objs[q]?]=_;rw[ho];rfl) rfl (by simp) rfl hlo;cases w with
 |true=>
  rw[aG rfl,pQ (he rfl)];exact h1 rfl
 |false=>exact h0 rfl
set_option maxHeartbeats 4000000 in
theorem T5 [MaxL] (s:Sch) (hz:kI s):SC Tryz.prog 52 [.ptr 0 0] (kG s (dH s)) (sH lL (nF s).1 (nF s).2) (vV (nF s).2 (kG s (dH s++eJ s))):=by
 obtain⟨⟨ha,hl,ht⟩,hr,hst⟩:=hz;unfold bH at hl;have hlen:(vU s.rc).length=s.rc.length:=fN _ _;generalize hX:nF s=X;obtain⟨xi,xe⟩:=X;unfold nF at hX;have hh:(vV xe (kG s (dH s++eJ s))).all GObj.notHeld=true:=by unfold vV;split<;>rfl
 have hs:(kG s (dH s)).length<=(vV xe (kG s (dH s++eJ s))).length:=by unfold vV;split<;>exact rL _
 refine SC.of_gwpD 2 oY mixed Tryz.func52 rfl (bL rfl) hs hh ?_;conv=>whnf
 have hw:=lS (vU s.rc).length 1 10;refine cP hw ?_;conv=>whnf
 refine aF (fun h=>?_) (fun h=>?_)<;>conv=>whnf
 ·rw[hlen] at h;rw[h,aG rfl] at hX;refine cS [] (uP lL 0 4) ?_;conv=>whnf
  exact nA hX (by decide)
 rw[hlen] at h;rw[h,aE (by simp)] at hX;refine cK 2 s.rc.length (fun i _=>∀j z,j<i->s.rc[j]?=some z->yT s j z=0) (fun i _=>[(0,.ptr 0 0),(25,.sl .none (vU s.rc)),(26,.i .i64 (vU s.rc).length),(27,.i .i64 (i:Nat))]) (fun i (_:Unit)=>kG s (dH s++(eJ s).take i)) [] () (fun j z h=>absurd h (cM j)) (fun i _ φ0 hi hok=>?_) (hσ:=by rw[List.take_zero,iV]);conv=>whnf
 refine aF (fun h=>?_) (fun h=>?_)<;>conv=>whnf
 rotate_left
 ·have hie:i=s.rc.length:=by have:=aB h;rw[hlen] at this;omega
  rw[o7 (Nat.le_of_eq hie.symm) hok] at hX;cases hX;have hm:(eJ s).take i=eJ s:=bX (by rw[hie];simp[eJ]);show OwesD 2 _ _ (kG s (dH s++eJ s)) _ _;exact .val (d6 2 (ho:=aQ (fun m=>kG s (dH s++m)) hm))
 have hlt:i<s.rc.length:=by have:=aA h;rw[hlen] at this;omega
 obtain⟨y,hy⟩:∃y,s.rc[i]?=some y:=⟨s.rc[i],gL hlt⟩;obtain⟨y1,y2,y3⟩:=hr y (aK hy);unfold bH at y2;have bad0:∀{e:Int},yT s i y=e->e≠0->((i,e):Nat×Int)=(xi,xe):=fun he h0=>by
  subst he;rw[o8 hy h0 hok] at hX;exact hX
 have bad:∀{w:Bool} {e b:Int},yT s i y=dZ w e b->w=true->e≠0->((i,e):Nat×Int)=(xi,xe):=fun he h h0=>bad0 (he.trans (b4 h)) h0;have hE:yT s i y=kN (dH s++(eJ s).take i) y.name (dZ (!((dH s).contains y.area)) 5 (dZ (!kY y.its||!vR y.place 1 3) 1 (TR (tS y) (TR (H7 s y) (a0y rM (fun l c=>DG l [] c) y))))):=rfl;rw[K1] at hE;refine ix (cE hy) ⟨rfl,?_⟩;conv=>whnf
 refine st ?_;conv=>whnf
 refine st ?_;conv=>whnf
 by_cases hn:kN (dH s++(eJ s).take i) y.name 0=0;rotate_left
 ·rw[aE hn] at hE;refine cG [0,1] (FJ (kd:=lL) (i:=i) hn) ?_;conv=>whnf
  exact nA (bad0 hE hn) hn
 rw[aG hn] at hE;refine cG [0,1] (FI (kd:=lL) (i:=i) hn) ?_;conv=>whnf
 refine cS [0,1] (a1Q s ha _ y.area) ?_;conv=>whnf
 refine hH kU 2 5 (fun h=>?_) (fun h=>?_)<;>conv=>whnf
 ·exact nA (bad hE h (by decide)) (by decide)
 replace hE:=hE.trans (bK h);refine cP (AR y.its y1) ?_;conv=>whnf
 refine aF (fun h=>?_) (fun h=>?_)<;>conv=>whnf
 ·refine hH kU 2 1 (w:=true) (fun _=>?_) (fun h9=>nomatch h9);conv=>whnf
  exact nA (bad hE (by rw[show kY y.its=false from TS h];rfl) (by decide)) (by decide)
 refine cP (lS y.place 1 3) ?_;conv=>whnf
 refine hH kU 2 1 (fun h2=>?_) (fun h2=>?_)<;>conv=>whnf
 ·exact nA (bad hE (by rw[h2];simp) (by decide)) (by decide)
 replace hE:=hE.trans (bK (by rw[h2,show(!kY y.its)=false from h];rfl));have badK:∀{e:Int},tS y=e->e≠0->((i,e):Nat×Int)=(xi,xe):=fun he h0=>bad0 (hE.trans (by rw[he,oX h0])) h0;have hm:(kG s (dH s++(eJ s).take i++[y.name]))=kG s (dH s++(eJ s).take (i+1)):=by rw[bD];exact aQ (fun m=>kG s (dH s++m)) (z1 (fun r:Rc=>r.name) hy).symm
 refine aF (fun hp=>?b1) (fun hp=>?b2)
 case' b1=>
  conv=>whnf
  have hK:tS y=dZ (!vR y.keys.length 1 4) 11 (l5 (K8 y) y.keys):=aG (by simpa using hp);refine cP (lS (aZ y.keys).length 1 4) ?_;conv=>whnf
  refine hH kU 2 11 (fun h3=>?_) (fun h3=>?_)<;>rw[aP] at h3<;>conv=>whnf
  ·exact nA (badK (hK.trans (b4 h3)) (by decide)) (by decide)
  replace hK:=hK.trans (bK h3);refine cK 4 y.keys.length (fun k _=>∀j n,j<k->y.keys[j]?=some n->K8 y j n=0) (fun k _=>[(0,.ptr 0 0),(3,.ptr 3 0),(4,.fn (.func 115) [] [.ptr 2 0]),(25,.sl .none (vU s.rc)),(26,.i .i64 (vU s.rc).length),(27,.i .i64 (i:Nat)),(68,.sl .none (aZ y.keys)),(69,.i .i64 (aZ y.keys).length),(70,.i .i64 (k:Nat))])
   (fun k (_:Unit)=>kG s (dH s++(eJ s).take i++[y.name])++[.box 3 [.i .i64 (i:Nat)],.box 35 (YM y)]) [] () (fun j n h=>absurd h (cM j)) (fun k _ φ1 hk hok2=>?_)
  conv=>whnf
  refine aF (fun h=>?_) (fun h=>?_)<;>conv=>whnf
  ·have hlt2:k<y.keys.length:=by have:=aA h;rw[aP] at this;omega
   refine(gQ hlt2).elim fun n hn2=>?_;have badJ:∀{e:Int},K8 y k n=e->e≠0->((i,e):Nat×Int)=(xi,xe):=fun he h0=>badK (hK.trans ((n7 hn2 (by rw[he];exact h0) hok2).trans he)) h0;refine ix (cE hn2) ⟨rfl,?_⟩;(conv=>whnf);refine cP (EV y y1 n) ?_;(conv=>whnf);refine st ?_;(conv=>whnf);refine hH kU 2 5 (fun h4=>?_) (fun h4=>?_)<;>conv=>whnf
   ·exact nA (badJ (b4 h4) (by decide)) (by decide)
   refine Z1 (zs:=aZ (y.keys.take k)) (fQ _) (by rw[aP];omega) ?_ (List.map_take ..).symm;(conv=>whnf);refine cP (DA (y.keys.take k) n (by unfold bH;rw[bN];omega)) ?_;(conv=>whnf);refine hH kU 2 6 (fun h5=>?_) (fun h5=>?_)<;>conv=>whnf
   ·exact nA (badJ ((bK h4).trans (b4 h5)) (by decide)) (by decide)
   exact nx () hlt2 ⟨hlt2,kK hn2 ((bK h4).trans (bK h5)) hok2⟩
  have hK0:tS y=0:=hK.trans (n6 fun j z hz=>hok2 j z (by have:=aB h;rw[aP] at this;have:=(List.getElem?_eq_some_iff.1 hz).1;omega) hz)
 case' b2=>
  conv=>whnf
  have hK:tS y=dZ (!y.keys.isEmpty||y.dups) 1 0:=aE (by simpa using hp);refine aF (fun h3=>?_) (fun h3=>?_)<;>conv=>whnf
  ·refine hH kU 2 1 (w:=true) (fun _=>?_) (fun h9=>nomatch h9);(conv=>whnf);exact nA (badK (hK.trans (b4 (by have:((aZ y.keys).length:Int)>0:=aA h3;rw[aP] at this;cases hk:y.keys with|nil=>rw[hk] at this;exact absurd this (by decide)|cons a l=>rfl))) (by decide)) (by decide)
  have hke:y.keys.isEmpty=true:=by have:¬((aZ y.keys).length:Int)>0:=aB h3;rw[aP] at this;cases hk:y.keys with|nil=>rfl|cons a l=>rw[hk] at this;simp at this
  rw[hke] at hK;refine hH kU 2 1 (fun h4=>?_) (fun h4=>?_)<;>conv=>whnf
  ·exact nA (badK (hK.trans (b4 h4)) (by decide)) (by decide)
  have hK0:tS y=0:=hK.trans (bK h4)
 all_goals
  replace hE:=hE.trans (oW hK0);have badV:∀{e:Int},H7 s y=e->e≠0->((i,e):Nat×Int)=(xi,xe):=fun he h0=>bad0 (hE.trans (by rw[he,oX h0])) h0;refine aF (fun hv=>?_) (fun hv=>?_)<;>conv=>whnf
  focus
   have hV:H7 s y=dZ (match s.st.find? (·.name==y.via) with|none=>true|some t=>!(t.ms.any (·.of==y.name))) 5 0:=aG (by simpa using hv);have hset:=a0e s ht y.via;refine b9 (by kernel_rfl) ?_;(conv=>whnf);refine(j5 (fun t:Sy=>t.name==y.via) s.st).elim (fun⟨h5,h6,_⟩=>?_) (fun⟨j,t,h5,h6,h7,_⟩=>?_)
   ·refine cP hset ?_;(conv=>whnf);refine GDraw.pan 17 _ rfl (by kernel_rfl) ?_;(conv=>whnf);refine gY (bS h5) ?_;(conv=>whnf);refine hH kU 2 5 (w:=true) (fun _=>?_) (fun h9=>nomatch h9);(conv=>whnf);exact nA (badV (e:=5) (by rw[hV,h6];rfl) (by decide)) (by decide)
   rw[h5] at hset;rw[h7] at hV;refine cP hset ?_;(conv=>whnf);have hmb:=EW t (hst t (aK h6)).1 y.name;refine(Bool.eq_false_or_eq_true (decide (m6 (fun m:Mb=>m.of==y.name) t.ms<0))).elim (fun h8=>?_) (fun h8=>?_)
   ·refine GDraw.pan 17 _ rfl (by kernel_rfl) ?_;(conv=>whnf);refine ix (cE h6) ⟨rfl,?_⟩;(conv=>whnf);refine cP hmb ?_;(conv=>whnf);refine hH kU 2 5 (w:=decide (m6 (fun m:Mb=>m.of==y.name) t.ms<0)) (fun h9=>?_) (fun h9=>by rw[h8] at h9;cases h9);(conv=>whnf);exact nA (badV (hV.trans (b4 ((nP _ _).symm.trans h8))) (by decide)) (by decide)
   refine b9 (by kernel_rfl) ?_;(conv=>whnf);refine ix (cE h6) ⟨rfl,?_⟩;(conv=>whnf);refine cP hmb ?_;(conv=>whnf);refine hH kU 2 5 (w:=decide (m6 (fun m:Mb=>m.of==y.name) t.ms<0)) (fun h9=>by rw[h8] at h9;cases h9) (fun h9=>?_);(conv=>whnf);replace hV:=hV.trans (bK ((nP _ _).symm.trans h8))
  rotate_left;focus
   have hV:H7 s y=dZ (y.via !=[]) 1 0:=aE (by simpa using hv);refine hH kU 2 1 (fun h4=>?_) (fun h4=>?_)<;>conv=>whnf
   ·exact nA (badV (hV.trans (b4 h4)) (by decide)) (by decide)
   replace hV:=hV.trans (bK h4)
  all_goals
   replace hE:=hE.trans (oW ‹H7 s y=0›);refine aF (fun hc=>?_) (fun hc=>?_)<;>conv=>whnf
   rotate_left
   ·exact nx () hlt ⟨hlt,kK hy (hE.trans (aG (by simpa using hc))) hok⟩ hm
   have hE2:=hE.trans (aE (by simpa using hc));refine cP (a2E y.check y3) ?_;(conv=>whnf);refine aF (fun h5=>?_) (fun h5=>?_)<;>conv=>whnf
   ·refine hH kU 2 2 (w:=true) (fun _=>?_) (fun h9=>nomatch h9);(conv=>whnf);exact nA (bad hE2 (by unfold rM;rw[cW (by simpa using h5)];rfl) (by decide)) (by decide)
   refine hH kU 2 2 (fun h6=>?_) (fun h6=>?_)<;>conv=>whnf
   ·exact nA (bad hE2 (by unfold rM;rw[cW (p:=(zQ y.check).1=y.check) (by simpa using h6),Bool.and_false];rfl) (by decide)) (by decide)
   replace hE2:=hE2.trans (bK (by unfold rM;rw[bS (by simpa using h5),bS (by simpa using h6)];rfl));refine cP (a0b y.its [] y1 (by decide) y.check y3) ?_ (wC (cY _) (wC (cY _) (wC (bE _ _) (wR _))));(conv=>whnf);refine hH kU 2 (DG y.its [] y.check) (w:=DG y.its [] y.check !=0) (fun h7=>?_) (fun h7=>?_) (by intro h;simpa using h)<;>conv=>whnf
   ·exact nA (bad0 hE2 (by simpa using h7)) (by simpa using h7)
   exact nx () hlt ⟨hlt,kK hy (hE2.trans (by simpa using h7)) hok⟩ hm
theorem wA [MaxL] (s:Sch) (hl:s.ar.length<bH) (n:By):SC Tryz.prog 101 [lC s,.s n] [] (.val (.i .i64 (m6 (fun a=>a.name==n) s.ar))) []:=by
 have hlen:(vX s.ar).length=s.ar.length:=fN _ _;unfold bH at hl;refine cZ Tryz.func101 rfl ?_;conv=>whnf
 refine cK 1 s.ar.length (fun i _=>∀a∈s.ar.take i,(a.name==n)=false) (fun i _=>[(2,.ptr 0 0),(1,.s n),(5,.i .i64 (i:Nat))]) (fun _ (_:Unit)=>[.box 26 (lI s)]) [] () (by simp) (fun i _ φ0 hi hne=>?_);conv=>whnf
 refine aF (fun h=>?_) (fun h=>?_)<;>conv=>whnf
 rotate_left
 ·have hie:i=s.ar.length:=by have:=aB h;rw[hlen] at this;omega
  rw[hie,b7] at hne;rw[vN hne];exact d6 0
 have hlt:i<s.ar.length:=by have:=aA h;rw[hlen] at this;omega
 refine(gQ hlt).elim fun y hy=>?_;refine ix (cE hy) ⟨rfl,?_⟩;conv=>whnf
 refine aF (fun hp=>?_) (fun hp=>?_)<;>conv=>whnf
 ·rw[sU hy hp hne];exact d6 0
 ·exact nx () hlt ⟨hlt,zM hy hp hne⟩
theorem lU [MaxL] (s:Sch) (hl:s.rc.length<bH) (n:By):SC Tryz.prog 93 [lC s,.s n] [] (.val (.i .i64 (m6 (fun a=>a.name==n) s.rc))) []:=by
 have hlen:(vU s.rc).length=s.rc.length:=fN _ _;unfold bH at hl;refine cZ Tryz.func93 rfl ?_;conv=>whnf
 refine cK 1 s.rc.length (fun i _=>∀a∈s.rc.take i,(a.name==n)=false) (fun i _=>[(2,.ptr 0 0),(1,.s n),(5,.i .i64 (i:Nat))]) (fun _ (_:Unit)=>[.box 26 (lI s)]) [] () (by simp) (fun i _ φ0 hi hne=>?_);conv=>whnf
 refine aF (fun h=>?_) (fun h=>?_)<;>conv=>whnf
 rotate_left
 ·have hie:i=s.rc.length:=by have:=aB h;rw[hlen] at this;omega
  rw[hie,b7] at hne;rw[vN hne];exact d6 0
 have hlt:i<s.rc.length:=by have:=aA h;rw[hlen] at this;omega
 refine(gQ hlt).elim fun y hy=>?_;refine ix (cE hy) ⟨rfl,?_⟩;conv=>whnf
 refine aF (fun hp=>?_) (fun hp=>?_)<;>conv=>whnf
 ·rw[sU hy hp hne];exact d6 0
 ·exact nx () hlt ⟨hlt,zM hy hp hne⟩
theorem DR [MaxL] (s:Sch) (hl:s.st.length<bH) (n:By):SC Tryz.prog 98 [lC s,.s n] [] (.val (.i .i64 (m6 (fun a=>a.name==n) s.st))) []:=by
 have hlen:(rP s.st).length=s.st.length:=fN _ _;unfold bH at hl;refine cZ Tryz.func98 rfl ?_;conv=>whnf
 refine cK 1 s.st.length (fun i _=>∀a∈s.st.take i,(a.name==n)=false) (fun i _=>[(2,.ptr 0 0),(1,.s n),(5,.i .i64 (i:Nat))]) (fun _ (_:Unit)=>[.box 26 (lI s)]) [] () (by simp) (fun i _ φ0 hi hne=>?_);conv=>whnf
 refine aF (fun h=>?_) (fun h=>?_)<;>conv=>whnf
 rotate_left
 ·have hie:i=s.st.length:=by have:=aB h;rw[hlen] at this;omega
  rw[hie,b7] at hne;rw[vN hne];exact d6 0
 have hlt:i<s.st.length:=by have:=aA h;rw[hlen] at this;omega
 refine(gQ hlt).elim fun y hy=>?_;refine ix (cE hy) ⟨rfl,?_⟩;conv=>whnf
 refine aF (fun hp=>?_) (fun hp=>?_)<;>conv=>whnf
 ·rw[sU hy hp hne];exact d6 0
 ·exact nx () hlt ⟨hlt,zM hy hp hne⟩
theorem yW [MaxL] (t:Sy) (hl:t.ms.length<bH) (n:By):SC Tryz.prog 83 [xZ t,.s n] [] (.val (.i .i64 (m6 (fun a=>a.of==n) t.ms))) []:=by
 have hlen:(kV t.ms).length=t.ms.length:=fN _ _;unfold bH at hl;refine cZ Tryz.func83 rfl ?_;conv=>whnf
 refine cK 1 t.ms.length (fun i _=>∀a∈t.ms.take i,(a.of==n)=false) (fun i _=>[(2,.ptr 0 0),(1,.s n),(5,.i .i64 (i:Nat))]) (fun _ (_:Unit)=>[.box 39 (H9 t)]) [] () (by simp) (fun i _ φ0 hi hne=>?_);conv=>whnf
 refine aF (fun h=>?_) (fun h=>?_)<;>conv=>whnf
 rotate_left
 ·have hie:i=t.ms.length:=by have:=aB h;rw[hlen] at this;omega
  rw[hie,b7] at hne;rw[vN hne];exact d6 0
 have hlt:i<t.ms.length:=by have:=aA h;rw[hlen] at this;omega
 refine(gQ hlt).elim fun y hy=>?_;refine ix (cE hy) ⟨rfl,?_⟩;conv=>whnf
 refine aF (fun hp=>?_) (fun hp=>?_)<;>conv=>whnf
 ·rw[sU hy hp hne];exact d6 0
 ·exact nx () hlt ⟨hlt,zM hy hp hne⟩
theorem w9 [MaxL] (l:List Itm) (hl:l.length<bH) (n:By):SC Tryz.prog 127 [.sl .none (fU l),.s n] [] (.val (.i .i64 (m6 (fun a=>a.name==n) l))) []:=by
 have hlen:(fU l).length=l.length:=fN _ _;unfold bH at hl;refine cZ Tryz.func127 rfl ?_;conv=>whnf
 refine cK 0 l.length (fun i _=>∀a∈l.take i,(a.name==n)=false) (fun i _=>[(0,.sl .none (fU l)),(1,.s n),(5,.i .i64 (i:Nat))]) (fun _ (_:Unit)=>[]) [] () (by simp) (fun i _ φ0 hi hne=>?_);conv=>whnf
 refine aF (fun h=>?_) (fun h=>?_)<;>conv=>whnf
 rotate_left
 ·have hie:i=l.length:=by have:=aB h;rw[hlen] at this;omega
  rw[hie,b7] at hne;rw[vN hne];exact d6 0
 have hlt:i<l.length:=by have:=aA h;rw[hlen] at this;omega
 refine(gQ hlt).elim fun y hy=>?_;refine ix (cE hy) ⟨rfl,?_⟩;conv=>whnf
 refine aF (fun hp=>?_) (fun hp=>?_)<;>conv=>whnf
 ·rw[sU hy hp hne];exact d6 0
 ·exact nx () hlt ⟨hlt,zM hy hp hne⟩
theorem R5 [MaxL] (l:List By) (hl:l.length<bH) (n:By):SC Tryz.prog 86 [.sl .none (aZ l),.s n] [] (.val (.i .i64 (m6 (fun a=>a==n) l))) []:=by
 have hlen:(aZ l).length=l.length:=fN _ _;unfold bH at hl;refine cZ Tryz.func86 rfl ?_;conv=>whnf
 refine cK 0 l.length (fun i _=>∀a∈l.take i,(a==n)=false) (fun i _=>[(0,.sl .none (aZ l)),(1,.s n),(5,.i .i64 (i:Nat))]) (fun _ (_:Unit)=>[]) [] () (by simp) (fun i _ φ0 hi hne=>?_);conv=>whnf
 refine aF (fun h=>?_) (fun h=>?_)<;>conv=>whnf
 rotate_left
 ·have hie:i=l.length:=by have:=aB h;rw[hlen] at this;omega
  rw[hie,b7] at hne;rw[vN hne];exact d6 0
 have hlt:i<l.length:=by have:=aA h;rw[hlen] at this;omega
 refine(gQ hlt).elim fun y hy=>?_;refine ix (cE hy) ⟨rfl,?_⟩;conv=>whnf
 refine aF (fun hp=>?_) (fun hp=>?_)<;>conv=>whnf
 ·rw[sU hy hp hne];exact d6 0
 ·exact nx () hlt ⟨hlt,zM hy hp hne⟩
abbrev T3 (s:Sch) (m:List By) (i:Nat):List GObj:=kG s m++[.box 3 [.i .i64 (i:Nat)]]
def vO:FuncId->Bool:=fun _=>true
theorem qW {s:Sch} {n:By} (h:(eJ s).contains n=true):∃i:Nat,m6 (fun r:Rc=>r.name==n) s.rc=i/\s.rc[i]?=some (iH s n):=by
 rcases j5 (fun r:Rc=>r.name==n) s.rc with⟨_,_,h3⟩|⟨i,y,h1,h2,h3,_⟩
 ·rw[show(eJ s).contains n=s.rc.any fun r=>r.name==n from dU _ _ _,h3] at h;cases h
 ·exact⟨i,h1,by unfold iH;rw[h3];exact h2⟩
theorem tR (l:List Itm) (n:By):iK l n=(yB l n).k:=by unfold iK yB;cases l.find? (·.name==n)<;>rfl
theorem GP [MaxL] (n:Nat) {kd:By} {s objs:List GObj} {i:Nat} {e xe:Int} {lo:Nat} {ds:List GDef} [FH n s] (hX:e=xe) (he:e≠0) (ho:objs.take n=s:=by rfl) (hn:s.length=n:=by rfl) (hh:s.all GObj.notHeld=true:=by rfl):Owes s (sH kd i xe) s (.panic (O8 kd i e)) ⟨objs,lo,ds⟩:=by
 subst hX;rw[pQ he];exact d6 n (ho:=ho) (hn:=hn) (hl:=Nat.le_of_eq hn) (hh:=hh)
theorem OU [MaxL] (s:Sch) (hz:kI s) (m0:List By) (i:Nat) (t:Sy) (m:Mb) (hml:m.sel.length<bH) (hm:(eJ s).contains m.of=true) (ho:t.owner≠[]->(eJ s).contains t.owner=true) (hg:∀r∈s.rc,LQ kY r):
  SC Tryz.prog 123 [.ptr 0 0,xZ t,YO m,.fn (.func 122) [] [.ptr 2 0]] (T3 s m0 i) (sH qS i (VO s t m)) (T3 s m0 i):=by
 obtain⟨⟨ha,hl,ht⟩,hr,hst⟩:=hz;unfold bH at hml;generalize hX:VO s t m=xe;refine cH vO mixed Tryz.func123 rfl (bL rfl) (by first|exact rL _|simp) rfl ?_;conv=>whnf
 refine aF (fun h=>?_) (fun h=>?_)<;>conv=>whnf
 ·rw[show xe=0 from hX.symm.trans (aG (by simpa[aZ] using h))];exact d6 3
 replace hX:=(aE (by simpa[aZ] using h)).symm.trans hX;refine hH gH 2 10 (fun h=>?_) (fun h=>?_)<;>conv=>whnf
 ·exact GP 3 ((b4 h).symm.trans hX) (by decide)
 replace hX:=(bK h).symm.trans hX;have hto:=ho (by simpa using h);obtain⟨io,ho1,ho2⟩:=qW hto;obtain⟨ir,hr1,hr2⟩:=qW hm;have hgo:=hg _ (aK ho2);obtain⟨o1,o2,_⟩:=hr _ (aK ho2);obtain⟨r1,r2,_⟩:=hr _ (aK hr2);have hro:=oH s hl t.owner;have hrr:=oH s hl m.of;rw[ho1] at hro;rw[hr1] at hrr;generalize iH s t.owner=o at*;generalize iH s m.of=r at*;refine GDraw.wildT [none,none,none,none,some 0,none,none,none,some 0,none,some 3,none,none,none,some 5,some 5] rfl rfl (by kernel_rfl) ?_;conv=>whnf
 refine cP hro ?_;conv=>whnf
 refine ix (cE ho2) ⟨rfl,?_⟩;conv=>whnf
 refine st ?_;conv=>whnf
 refine aF (fun h=>?_) (fun h=>?_)<;>conv=>whnf
 ·refine hH gH 2 10 (w:=true) (fun _=>?_) (fun h9=>nomatch h9);conv=>whnf
  exact GP 3 ((b4 (by rw[show(o.place !=2)=true from h];rfl)).symm.trans hX) (by decide)
 have hp:(o.place !=2)=false:=h;rw[hp] at hX;refine hH gH 2 10 (fun h=>?_) (fun h=>?_)<;>conv=>whnf
 ·exact GP 3 ((b4 h).symm.trans hX) (by decide)
 replace hX:=(bK h).symm.trans hX;refine hH gH 2 11 (fun h=>?_) (fun h=>?_)<;>conv=>whnf
 ·have h8:¬(m.sel.length:Int)=o.keys.length:=by simpa[aZ] using h
  exact GP 3 ((b4 (by simp;omega)).symm.trans hX) (by decide)
 have hlk:m.sel.length=o.keys.length:=by
  have h8:(m.sel.length:Int)=o.keys.length:=by simpa[aZ] using h
  omega
 replace hX:=(bK (by rw[hlk];simp)).symm.trans hX;refine GDraw.wildT [none,none,none,none,some 0,none,none,none,some 0,none,some 4,none,none,none,some 6,some 6] rfl rfl (by kernel_rfl) ?_;conv=>whnf
 refine cP hrr ?_;conv=>whnf
 refine ix (cE hr2) ⟨rfl,?_⟩;conv=>whnf
 refine st ?_;conv=>whnf
 refine cK 7 m.sel.length (fun k _=>∀j n,j<k->m.sel[j]?=some n->IA o r j n=0) (fun k _=>[(3,.fn (.func 122) [] [.ptr 2 0]),(8,.ptr 5 0),(9,.ptr 6 0),(72,.sl .none (aZ m.sel)),(73,.i .i64 (aZ m.sel).length),(74,.i .i64 (k:Nat))])
  (fun k (_:Unit)=>T3 s m0 i++[.box 39 (H9 t),.box 46 (mbC m),.box 35 (YM o),.box 35 (YM r)]) [] () (fun j n h=>absurd h (cM j)) (fun k _ φ1 hk hok=>?_)
 conv=>whnf
 refine aF (fun h=>?_) (fun h=>?_)<;>conv=>whnf
 rotate_left
 ·rw[show xe=0 from hX.symm.trans (n6 fun j z hz=>hok j z (by have:=aB h;rw[aP] at this;have:=(List.getElem?_eq_some_iff.1 hz).1;omega) hz)];exact d6 3
 have hlt:k<m.sel.length:=by have:=aA h;rw[aP] at this;omega
 refine(gQ hlt).elim fun n hn=>?_;refine(gQ (show k<o.keys.length by omega)).elim fun n' hn'=>?_;have bad:∀{e:Int},IA o r k n=e->e≠0->e=xe:=fun he h0=>he.symm.trans ((n7 hn (by rw[he];exact h0) hok).symm.trans hX);have hk':(o.keys[k]?).getD []=n':=by rw[hn'];rfl
 refine ix (cE hn) ⟨rfl,?_⟩;conv=>whnf
 refine cP (EV r r1 n) ?_;conv=>whnf
 refine st ?_;conv=>whnf
 refine hH gH 2 5 (fun h4=>?_) (fun h4=>?_)<;>conv=>whnf
 ·exact GP 3 (bad (b4 h4) (by decide)) (by decide)
 refine GDraw.wildT [some 5,none,some 5,none,none,none,none,none,none,none,some 8,some 8] rfl rfl (by kernel_rfl) ?_;conv=>whnf
 refine ix (cE hn') ⟨rfl,?_⟩;conv=>whnf
 refine cP (EV o o1 n') ?_;conv=>whnf
 refine st ?_;conv=>whnf
 refine hH gH 2 10 (fun h5=>?_) (fun h5=>?_)<;>conv=>whnf
 ·exact GP 3 (bad ((bK h4).trans (b4 (by rw[hk',tR,tR];exact h5))) (by decide)) (by decide)
 exact nx () hlt ⟨hlt,kK hn ((bK h4).trans (bK (by rw[hk',tR,tR];exact h5))) hok⟩
theorem U2 {l:List Itm} {n:By} (hk:kY l=true) (ha:l.any (·.name==n)=true):iK l n≠0:=by
 rcases j5 (fun x:Itm=>x.name==n) l with⟨_,_,h⟩|⟨i,y,_,hy,hf,_⟩
 ·rw[h] at ha;cases ha
 ·unfold iK;rw[hf];have h1:y.ok=true:=by
   unfold kY i7 at hk;simp only[aH,aS] at hk;exact hk.2.1.1 y (aK hy)
  intro h0;unfold Itm.ok at h1;rw[show y.k=0 from h0] at h1;simp at h1
theorem a1P [MaxL] (l:List Ky) (hl:l.length<bH) (z:Ky):SC Tryz.prog 186 [.sl .none (tQ l),.fn (.func 187) [] [.ptr 0 0]] [.box 78 (XC z)] (.val (.b (l.any fun y=>y.item==z.item))) [.box 78 (XC z)]:=by
 have hi:=CA (fun y=>OV (XC y)) l hl (fun y=>y.item==z.item) _ 78 (XC z) _ 2 (fun y _=>a1I y z) (.inr (.inr (.inr (.inr (.inr (.inl ⟨rfl,rfl,rfl⟩))))));refine cZ Tryz.func186 rfl ?_;conv=>whnf
 refine cS [0] hi ?_;conv=>whnf
 rw[<-lP];exact d6 1
theorem n9 {α:Type} {p:α->Bool} {l:List α} {i:Nat} {y:α} (hy:l[i]?=some y) (h:p y=false):l.all p=false:=by
 rw[Bool.eq_false_iff];intro h9;rw[aS] at h9;rw[h9 y (aK hy)] at h;cases h
theorem sE {α:Type} {p:α->Prop} {l:List α} {i:Nat} {y:α} (hy:l[i]?=some y) (hp:p y) (h:∀z∈l.take i,p z):∀z∈l.take (i+1),p z:=fun z hz=>by
 rw[bR,hy] at hz;rcases List.mem_append.1 hz with hz|hz
 ·exact h z hz
 ·simp at hz;subst hz;exact hp
theorem rN {α:Type} {p:α->Bool} {l:List α} {i:Nat} (hi:l.length<=i) (h:∀z∈l.take i,p z=true):l.all p=true:=by
 rw[bX hi] at h;exact List.all_eq_true.2 h
theorem iC [MaxL] (l:List Mb):(kV l).length=l.length:=fN _ _
theorem kX [MaxL] (l:List Ky):(tQ l).length=l.length:=fN _ _
theorem a1s [MaxL] (l:List Ky):(tQ l).all (fun x=>x.cells.length==2)=true:=by
 rw[aS];intro x hx;obtain⟨b,_,rfl⟩:=List.mem_map.1 hx;rfl
abbrev a1D (t:Sy) (k:Nat):List (Nat×GV):=[(0,.ptr 0 0),(2,.fn (.func 122) [] [.ptr 2 0]),(4,.ptr 3 0),(25,.sl .none (tQ t.keys)),(26,.i .i64 (tQ t.keys).length),(27,.i .i64 (k:Nat))]
abbrev a1E (s:Sch) (m:List By) (i:Nat) (t:Sy):List GObj:=T3 s m i++[.box 39 (H9 t)]
def a2T:List (Option Nat):=[none,none,none,none,some 0,none,none,none,some 0,none,some 5,none,none,none,none,some 4,none,none,none,none,some 6,some 6,none]
set_option maxHeartbeats 8000000 in
theorem VW [MaxL] (s:Sch) (hz:kI s) (m0:List By) (i:Nat) (t:Sy) (htl:t.ms.length<bH) (hkl:t.keys.length<bH) (hm:∀m∈t.ms,(eJ s).contains m.of=true) (hg:∀r∈s.rc,LQ kY r):
  SC Tryz.prog 124 [.ptr 0 0,xZ t,.fn (.func 122) [] [.ptr 2 0]] (T3 s m0 i) (sH qS i (y8 s t)) (T3 s m0 i):=by
 obtain⟨⟨ha,hl,ht⟩,hr,hst⟩:=hz;unfold bH at htl hkl;generalize hX:y8 s t=xe;refine cH vO mixed Tryz.func124 rfl (bL rfl) (by first|exact rL _|simp) rfl ?_;conv=>whnf
 refine cP (lS (tQ t.keys).length 1 4) ?_;conv=>whnf
 refine hH gH 2 11 (fun h=>?_) (fun h=>?_)<;>rw[kX] at h<;>conv=>whnf
 ·exact GP 3 ((b4 h).symm.trans hX) (by decide)
 replace hX:=(bK h).symm.trans hX;have badK:∀{e:Int},l5 (lR s t) t.keys=e->e≠0->e=xe:=fun he h0=>(by rw[he,oX h0] at hX;exact hX);refine cK 4 t.keys.length (fun k _=>∀j y,j<k->t.keys[j]?=some y->lR s t j y=0) (fun k _=>a1D t k) (fun k (_:Unit)=>a1E s m0 i t) [] () (fun j n h=>absurd h (cM j)) (fun k _ φ1 hk hok=>?_);conv=>whnf
 refine aF (fun h=>?_) (fun h=>?_)<;>conv=>whnf
 rotate_left
 ·have h0:l5 (lR s t) t.keys=0:=n6 fun j z hz=>hok j z (by have:=aB h;rw[kX] at this;have:=(List.getElem?_eq_some_iff.1 hz).1;omega) hz;rw[oW h0] at hX;refine cP (lS t.dups 1 3) ?_;conv=>whnf
  refine hH gH 2 1 (fun h=>?_) (fun h=>?_)<;>conv=>whnf
  ·exact GP 3 ((b4 h).symm.trans hX) (by decide)
  rw[show xe=0 from hX.symm.trans (bK h)];exact d6 3
 have hlt:k<t.keys.length:=by have:=aA h;rw[kX] at this;omega
 refine(gQ hlt).elim fun y hy=>?_;have bad:∀{e:Int},lR s t k y=e->e≠0->e=xe:=fun he h0=>badK ((n7 hy (by rw[he];exact h0) hok).trans he) h0;refine ix (cE hy) ⟨rfl,?_⟩;conv=>whnf
 refine st ?_;conv=>whnf
 refine cK 5 t.ms.length (fun j _=>∀m∈t.ms.take j,(iH s m.of).its.any (·.name==y.item)=true) (fun j _=>(6,.i .i64 (k:Nat))::(7,.ptr 4 0)::(8,.i .i64 0)::(33,.sl .none (kV t.ms))::(34,.i .i64 (kV t.ms).length)::(35,.i .i64 (j:Nat))::a1D t k)
  (fun j (_:Unit)=>a1E s m0 i t++[.box 78 (XC y)]) [] () (fun m h=>by simp at h) (fun j _ φ2 hj hall=>?_)
 conv=>whnf
 refine aF (fun h=>?_) (fun h=>?_)<;>conv=>whnf
 ·have hlt2:j<t.ms.length:=by have:=aA h;rw[iC] at this;omega
  refine(gQ hlt2).elim fun m hm2=>?_;refine(qW (hm m (aK hm2))).elim fun ir hir=>?_;have hrr:=oH s hl m.of;rw[hir.1] at hrr;refine ix (cE hm2) ⟨rfl,?_⟩;conv=>whnf
  refine st ?_;conv=>whnf
  refine GDraw.wildT a2T rfl rfl (by kernel_rfl) ?_;conv=>whnf
  refine cP hrr ?_;conv=>whnf
  refine ix (cE hir.2) ⟨rfl,?_⟩;conv=>whnf
  refine cP (EV _ (hr _ (aK hir.2)).1 y.item) ?_;conv=>whnf
  refine st ?_;conv=>whnf
  refine hH gH 2 5 (fun h4=>?_) (fun h4=>?_)<;>conv=>whnf
  ·exact GP 3 (bad (b4 (by rw[n9 hm2 (TS h4)];rfl)) (by decide)) (by decide)
  exact nx () hlt2 ⟨hlt2,sE hm2 (by simpa using h4) hall⟩
 have hall':=rN (p:=fun m:Mb=>(iH s m.of).its.any (·.name==y.item)) (by have:=aB h;rw[iC] at this;omega) hall;have hp1:lR s t k y=dZ (!(t.ms.all fun m=>iK (iH s m.of).its y.item==iK (iH s ((t.ms.head?.map (·.of)).getD [])).its y.item)) 10 (dZ (((t.keys.take k).map (·.item)).contains y.item) 6 0):=bK (by rw[hall'];rfl);have hne:∀m∈t.ms,iK (iH s m.of).its y.item≠0:=fun m hm9=>by
  obtain⟨ir,_,hir⟩:=qW (hm m hm9);exact U2 (hg _ (aK hir)).1 (List.all_eq_true.1 hall' m hm9)
 have hd:∀m,t.ms[0]?=some m->iK (iH s m.of).its y.item=iK (iH s ((t.ms.head?.map (·.of)).getD [])).its y.item:=fun m hm9=>by
  cases hms:t.ms with
  |nil=>rw[hms] at hm9;cases hm9
  |cons x l=>rw[hms] at hm9;cases hm9;rfl
 generalize iK (iH s ((t.ms.head?.map (·.of)).getD [])).its y.item=F at*;refine cK 5 t.ms.length (fun j (b:Int)=>(∀m∈t.ms.take j,(iK (iH s m.of).its y.item==F)=true)/\b=if j=0 then 0 else F) (fun j (b:Int)=>(6,.i .i64 (k:Nat))::(7,.ptr 4 0)::(8,.i .i64 b)::(65,.sl .none (kV t.ms))::(66,.i .i64 (kV t.ms).length)::(67,.i .i64 (j:Nat))::a1D t k)
  (fun j _=>a1E s m0 i t++[.box 78 (XC y)]) [] 0 ⟨fun m h=>by simp at h,rfl⟩ (fun j b φ2 hj hb=>?_)
 refine hb.elim fun hall2 hb=>?_;conv=>whnf
 refine aF (fun h=>?_) (fun h=>?_)<;>conv=>whnf
 ·have hlt2:j<t.ms.length:=by have:=aA h;rw[iC] at this;omega
  refine(gQ hlt2).elim fun m hm2=>?_;refine(qW (hm m (aK hm2))).elim fun ir hir=>?_;have hrr:=oH s hl m.of;rw[hir.1] at hrr;have hF:j≠0->F≠0:=fun h0=>by
   have hm9:=gL (l:=t.ms) (i:=0) (by omega);rw[<-hd _ hm9];exact hne _ (aK hm9)
  refine ix (cE hm2) ⟨rfl,?_⟩;conv=>whnf
  refine st ?_;conv=>whnf
  refine GDraw.wildT a2T rfl rfl (by kernel_rfl) ?_;conv=>whnf
  refine cP hrr ?_;conv=>whnf
  refine ix (cE hir.2) ⟨rfl,?_⟩;conv=>whnf
  refine cP (EV _ (hr _ (aK hir.2)).1 y.item) ?_;conv=>whnf
  refine st ?_;conv=>whnf
  have hk9:=tR (iH s m.of).its y.item;refine aF (fun h4=>?_) (fun h4=>?_)<;>conv=>whnf
  ·have hj0:j≠0:=fun h0=>by rw[aG h0] at hb;rw[hb] at h4;exact absurd h4 (by decide)
   rw[aE hj0] at hb;refine hH gH 2 10 (w:=(yB (iH s m.of).its y.item).k !=b) (fun h5=>?_) (fun h5=>?_)<;>conv=>whnf
   ·exact GP 3 (bad (hp1.trans (b4 (by rw[n9 hm2 (by rw[hk9,<-hb];simpa using h5)];rfl))) (by decide)) (by decide)
   have h6:(iK (iH s m.of).its y.item==F)=true:=by rw[hk9,<-hb];simpa using h5
   exact nx (yB (iH s m.of).its y.item).k hlt2 ⟨hlt2,sE hm2 h6 hall2,by rw[aE (Nat.succ_ne_zero _),<-hk9];exact eq_of_beq h6⟩
  ·have hj0:j=0:=Nat.eq_zero_of_not_pos fun h0=>by
    rw[aE (by omega)] at hb;exact hF (by omega) (by rw[<-hb];simpa using h4)
   refine hH gH 2 10 (w:=false) (fun h9=>nomatch h9) (fun _=>?_);(conv=>whnf);have h6:(iK (iH s m.of).its y.item==F)=true:=by rw[hd m (by rw[<-hj0];exact hm2)];simp
   exact nx (yB (iH s m.of).its y.item).k hlt2 ⟨hlt2,sE hm2 h6 hall2,by rw[aE (Nat.succ_ne_zero _),<-hk9];exact eq_of_beq h6⟩
 have hp2:=hp1.trans (bK (by rw[rN (by have:=aB h;rw[iC] at this;omega) hall2];rfl));refine Z1 (zs:=tQ (t.keys.take k)) (a1s _) (by rw[kX];omega) ?_ (List.map_take ..).symm;conv=>whnf
 refine cS [4] (a1P (t.keys.take k) (by unfold bH;rw[bN];omega) y) ?_;conv=>whnf
 rw[dU] at hp2;refine hH gH 2 6 (fun h4=>?_) (fun h4=>?_)<;>conv=>whnf
 ·exact GP 3 (bad (hp2.trans (b4 h4)) (by decide)) (by decide)
 exact nx () hlt ⟨hlt,kK hy (hp2.trans (bK h4)) hok⟩
