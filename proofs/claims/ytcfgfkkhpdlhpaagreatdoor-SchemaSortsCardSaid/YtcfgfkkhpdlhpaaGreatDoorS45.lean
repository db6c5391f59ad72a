/-
  A part of the proof of SchemaSorts.
-/
import Derived.Test.YtcfgfkkhpdlhpaaGreatDoorS44
set_option linter.all false
set_option maxRecDepth 100000
namespace Go.Proofs.YtcfgfkkhpdlhpaaGreatDoor
open Go.RowKit
def evT (I V:List Itm) (R W:List Val) (t:Tree):Bool×Int:=
 if gM I&&gM V&&a32 I R then
  if rT I V t=0 then
   if W.length=V.length then
    if XU V W then(kQ (a3L I V R W) t,0) else(false,1)
   else(false,11)
  else(false,rT I V t)
 else(false,1)
def a3m (I V:List Itm) (R W:List Val) (s:By):Bool×Int:=match mE s with
 |.ok t=>evT I V R W t
 |.err e=>(false,e)
def DT (I V:List Itm) (s:By):Int:=match mE s with
 |.ok t=>if gM I&&gM V then rT I V t else 1
 |.err e=>e
theorem a0s [MaxL] (I V:List Itm) (hI:I.length<bB) (hV:V.length<bB) (s:By) (hs:s.length<bB):SC Tryz.prog 121 [.s s,.sl .none (f5 I),.sl .none (f5 V)] [] (.val (.i .i64 (DT I V s))) []:=by
 have hr:=YO s hs;have hcl:=MI s;unfold rD at hr hcl;unfold DT;have h1:=OI I hI;have h2:=OI V hV;cases h:mE s with
 |err e=>
  rw[h] at hr hcl;replace hr:SC Tryz.prog 182 [.s s] [] (.val (.tup [.o .nilIface,.i .i64 e])) []:=hr;have he:=IC h;refine cY Tryz.func121 rfl ?_;conv=>whnf
  refine bD hr (wR _) rfl (fun _=>rfl) hcl ?_;conv=>whnf
  refine aE (fun h0=>?_) (fun h0=>?_)<;>conv=>whnf
  ·exact b8 rfl
  ·exfalso;have:e=0:=by simpa using h0
   omega
 |ok t=>
  rw[h] at hr hcl;replace hr:SC Tryz.prog 182 [.s s] [] (.val (.tup [t.gv,.i .i64 0])) []:=hr;have hg:t.good:=(PG h).1;have h3:=a0n I V hI hV t;cases k1:gM I with
  |false=>
   rw[k1] at h1;refine cY Tryz.func121 rfl ?_;(conv=>whnf);refine bD hr (wR _) rfl (fun _=>rfl) hcl ?_;(conv=>whnf);refine bD h1 (wR _) rfl (cC (bT (cR I)) .nil) (.b _) ?_;(conv=>whnf);exact b8 rfl
  |true=>
   rw[k1] at h1;cases k2:gM V with
   |false=>
    rw[k2] at h2;refine cY Tryz.func121 rfl ?_;(conv=>whnf);refine bD hr (wR _) rfl (fun _=>rfl) hcl ?_;(conv=>whnf);refine bD h1 (wR _) rfl (cC (bT (cR I)) .nil) (.b _) ?_;(conv=>whnf);refine bD h2 (wR _) rfl (cC (bT (cR V)) .nil) (.b _) ?_;(conv=>whnf);exact b8 rfl
   |true=>
    rw[k2] at h2;rw[UX k1 k2 hg] at h3;refine cY Tryz.func121 rfl ?_;(conv=>whnf);refine bD hr (wR _) rfl (fun _=>rfl) hcl ?_;(conv=>whnf);refine bD h1 (wR _) rfl (cC (bT (cR I)) .nil) (.b _) ?_;(conv=>whnf);refine bD h2 (wR _) rfl (cC (bT (cR V)) .nil) (.b _) ?_;(conv=>whnf);refine bD h3 (wR _) rfl (cC t.cl (cC (bT (cR I)) (cC (bT (cR V)) .nil))) (.i _ _) ?_;(conv=>whnf);exact b8 rfl
def kU (l:List Itm):Bool:=decide (0<l.length)&&gM l
def rU (s:By):Bool:=decide ((zW s).2=0)&&decide ((zW s).1=s)
def yX (s:Sch) (i:Nat) (r:Rc):Int:=HL kU rU (fun l c=>DT l [] c) s (dH s++(gB s).take i) r
def nE (s:Sch):Nat×Int:=if !uM s.rc.length 1 10 then(0,4) else(eS (yX s) 0 s.rc).getD (0,0)
theorem nB [MaxL] {kd:By} {s s1 objs:List GObj} {i xi:Nat} {e xe:Int} {lo:Nat} {ds:List GDef} (hX:((i,e):Nat×Int)=(xi,xe)) (he:e≠0) (hl:s.length=2:=by rfl) (hn:(objs.take 2).length=2:=by rfl) (hm:(objs.take 2).all GObj.mort=true:=by rfl):
  OwesD 2 s (sR kd xi xe) (vZ xe s1) (.panic (OO kd i e)) ⟨objs,lo,ds⟩:=by
 obtain⟨rfl,rfl⟩:=Prod.mk.inj hX;rw[pS he,AB he];exact a0M 2 (hl:=Nat.le_of_eq hl) (hn:=hn) (hm:=hm)
theorem b4 {w:Bool} {e b:Int} (h:w=true):dX w e b=e:=by subst h;rfl
theorem bK {w:Bool} {e b:Int} (h:w=false):dX w e b=b:=by subst h;rfl
theorem gV {α:Type} {l:List α} {i:Nat} (h:i<l.length):∃x,l[i]?=some x:=⟨l[i],gL h⟩
theorem U9 {b:Bool} (h:(!b)=true):b=false:=by cases b<;>first|rfl|cases h
theorem oZ {a b:Int} (h:a≠0):U8 a b=a:=aD h
theorem oY {a b:Int} (h:a=0):U8 a b=b:=aF h
theorem gW [MaxL] {k:FuncId} {kd:By} (hs:∀(w:Bool) (e:Int) (i:Nat),(w=true->e≠0)->SC Tryz.prog k [.b w,.i .i64 e,.ptr 0 0] [.box 3 [.i .i64 (i:Nat)]] (sR kd i (if w then e else 0)) [.box 3 [.i .i64 (i:Nat)]])
  (q:Nat) (e:Int) {M:FuncId->Bool} {w:Bool} {i:Nat} {args:List GV} {σ:GS} {K:GRes->GS->Prop} (h1:w=true->K (.panic (OO kd i e)) σ) (h0:w=false->K (.val (.tup [])) σ) (he:w=true->e≠0:=by intro _;decide)
  (hw:Wks args [.b w,.i .i64 e,.ptr q 0]:=by exact wR _) (ho:σ.objs[q]?=some (.box 3 [.i .i64 (i:Nat)]):=by rfl) (hlo:σ.lo=0:=by rfl):iO Tryz.prog M (.fn k) args σ K:=by
 refine cS [q] (hs w e i he) ?_ (by rw[show jN [q] σ.objs.length 0=q from rfl];exact hw) (by show[σ.objs[q]?]=_;rw[ho];rfl) rfl (by simp) rfl hlo;cases w with
 |true=>
  rw[aF rfl,pS (he rfl)];exact h1 rfl
 |false=>exact h0 rfl
set_option maxHeartbeats 4000000 in
theorem TM [MaxL] (s:Sch) (hz:mA s):SC Tryz.prog 52 [.ptr 0 0] (kE s (dH s)) (sR lI (nE s).1 (nE s).2) (vZ (nE s).2 (kE s (dH s++gB s))):=by
 obtain⟨⟨ha,hl,ht⟩,hr,hst⟩:=hz;unfold bB at hl;have hlen:(yY s.rc).length=s.rc.length:=iB _ _;generalize hX:nE s=X;obtain⟨xi,xe⟩:=X;unfold nE at hX;have hh:(vZ xe (kE s (dH s++gB s))).all GObj.notHeld=true:=by unfold vZ;split<;>rfl
 have hs:(kE s (dH s)).length<=(vZ xe (kE s (dH s++gB s))).length:=by unfold vZ;split<;>exact rL _
 refine SC.of_gwpD 2 qO mixed Tryz.func52 rfl (bL rfl) hs hh ?_;conv=>whnf
 have hw:=lO (yY s.rc).length 1 10;refine cP hw ?_;conv=>whnf
 refine aE (fun h=>?_) (fun h=>?_)<;>conv=>whnf
 ·rw[hlen] at h;rw[h,aF rfl] at hX;refine cS [] (uX lI 0 4) ?_;conv=>whnf
  exact nB hX (by decide)
 rw[hlen] at h;rw[h,aD (by simp)] at hX;refine cW 2 s.rc.length (fun i _=>∀j z,j<i->s.rc[j]?=some z->yX s j z=0) (fun i _=>[(0,.ptr 0 0),(25,.sl .none (yY s.rc)),(26,.i .i64 (yY s.rc).length),(27,.i .i64 (i:Nat))]) (fun i (_:Unit)=>kE s (dH s++(gB s).take i)) [] () (fun j z h=>absurd h (dJ j)) (fun i _ φ0 hi hok=>?_) (hσ:=by rw[List.take_zero,gC]);conv=>whnf
 refine aE (fun h=>?_) (fun h=>?_)<;>conv=>whnf
 rotate_left
 ·have hie:i=s.rc.length:=by have:=aC h;rw[hlen] at this;omega
  rw[nY (Nat.le_of_eq hie.symm) hok] at hX;cases hX;have hm:(gB s).take i=gB s:=cZ (by rw[hie];simp[gB]);show OwesD 2 _ _ (kE s (dH s++gB s)) _ _;exact .val (dB 2 (ho:=aQ (fun m=>kE s (dH s++m)) hm))
 have hlt:i<s.rc.length:=by have:=aB h;rw[hlen] at this;omega
 obtain⟨y,hy⟩:∃y,s.rc[i]?=some y:=⟨s.rc[i],gL hlt⟩;obtain⟨y1,y2,y3⟩:=hr y (aL hy);unfold bB at y2;have bad0:∀{e:Int},yX s i y=e->e≠0->((i,e):Nat×Int)=(xi,xe):=fun he h0=>by
  subst he;rw[nZ hy h0 hok] at hX;exact hX
 have bad:∀{w:Bool} {e b:Int},yX s i y=dX w e b->w=true->e≠0->((i,e):Nat×Int)=(xi,xe):=fun he h h0=>bad0 (he.trans (b4 h)) h0;have hE:yX s i y=kL (dH s++(gB s).take i) y.name (dX (!((dH s).contains y.area)) 5 (dX (!kU y.its||!uM y.place 1 3) 1 (U8 (sC y) (U8 (HI s y) (a1C rU (fun l c=>DT l [] c) y))))):=rfl;rw[KD] at hE;refine ix (cI hy) ⟨rfl,?_⟩;conv=>whnf
 refine st ?_;conv=>whnf
 refine st ?_;conv=>whnf
 by_cases hn:kL (dH s++(gB s).take i) y.name 0=0;rotate_left
 ·rw[aD hn] at hE;refine cG [0,1] (FZ (kd:=lI) (i:=i) hn) ?_;conv=>whnf
  exact nB (bad0 hE hn) hn
 rw[aF hn] at hE;refine cG [0,1] (FY (kd:=lI) (i:=i) hn) ?_;conv=>whnf
 refine cS [0,1] (a1X s ha _ y.area) ?_;conv=>whnf
 refine gW kT 2 5 (fun h=>?_) (fun h=>?_)<;>conv=>whnf
 ·exact nB (bad hE h (by decide)) (by decide)
 replace hE:=hE.trans (bK h);refine cP (vT y.its y1) ?_;conv=>whnf
 refine aE (fun h=>?_) (fun h=>?_)<;>conv=>whnf
 ·refine gW kT 2 1 (w:=true) (fun _=>?_) (fun h9=>nomatch h9);conv=>whnf
  exact nB (bad hE (by rw[show kU y.its=false from U9 h];rfl) (by decide)) (by decide)
 refine cP (lO y.place 1 3) ?_;conv=>whnf
 refine gW kT 2 1 (fun h2=>?_) (fun h2=>?_)<;>conv=>whnf
 ·exact nB (bad hE (by rw[h2];simp) (by decide)) (by decide)
 replace hE:=hE.trans (bK (by rw[h2,show(!kU y.its)=false from h];rfl));have badK:∀{e:Int},sC y=e->e≠0->((i,e):Nat×Int)=(xi,xe):=fun he h0=>bad0 (hE.trans (by rw[he,oZ h0])) h0;have hm:(kE s (dH s++(gB s).take i++[y.name]))=kE s (dH s++(gB s).take (i+1)):=by rw[bG];exact aQ (fun m=>kE s (dH s++m)) (zB (fun r:Rc=>r.name) hy).symm
 refine aE (fun hp=>?b1) (fun hp=>?b2)
 case' b1=>
  conv=>whnf
  have hK:sC y=dX (!uM y.keys.length 1 4) 11 (kX (KI y) y.keys):=aF (by simpa using hp);refine cP (lO (bA y.keys).length 1 4) ?_;conv=>whnf
  refine gW kT 2 11 (fun h3=>?_) (fun h3=>?_)<;>rw[aP] at h3<;>conv=>whnf
  ·exact nB (badK (hK.trans (b4 h3)) (by decide)) (by decide)
  replace hK:=hK.trans (bK h3);refine cW 4 y.keys.length (fun k _=>∀j n,j<k->y.keys[j]?=some n->KI y j n=0) (fun k _=>[(0,.ptr 0 0),(3,.ptr 3 0),(4,.fn (.func 115) [] [.ptr 2 0]),(25,.sl .none (yY s.rc)),(26,.i .i64 (yY s.rc).length),(27,.i .i64 (i:Nat)),(68,.sl .none (bA y.keys)),(69,.i .i64 (bA y.keys).length),(70,.i .i64 (k:Nat))])
   (fun k (_:Unit)=>kE s (dH s++(gB s).take i++[y.name])++[.box 3 [.i .i64 (i:Nat)],.box 35 (WP y)]) [] () (fun j n h=>absurd h (dJ j)) (fun k _ φ1 hk hok2=>?_)
  conv=>whnf
  refine aE (fun h=>?_) (fun h=>?_)<;>conv=>whnf
  ·have hlt2:k<y.keys.length:=by have:=aB h;rw[aP] at this;omega
   refine(gV hlt2).elim fun n hn2=>?_;have badJ:∀{e:Int},KI y k n=e->e≠0->((i,e):Nat×Int)=(xi,xe):=fun he h0=>badK (hK.trans ((n7 hn2 (by rw[he];exact h0) hok2).trans he)) h0;refine ix (cI hn2) ⟨rfl,?_⟩;(conv=>whnf);refine cP (F6 y y1 n) ?_;(conv=>whnf);refine st ?_;(conv=>whnf);refine gW kT 2 5 (fun h4=>?_) (fun h4=>?_)<;>conv=>whnf
   ·exact nB (badJ (b4 h4) (by decide)) (by decide)
   refine ZF (zs:=bA (y.keys.take k)) (fL _) (by rw[aP];omega) ?_ (List.map_take ..).symm;(conv=>whnf);refine cP (DM (y.keys.take k) n (by unfold bB;rw[bM];omega)) ?_;(conv=>whnf);refine gW kT 2 6 (fun h5=>?_) (fun h5=>?_)<;>conv=>whnf
   ·exact nB (badJ ((bK h4).trans (b4 h5)) (by decide)) (by decide)
   exact nx () hlt2 ⟨hlt2,kI hn2 ((bK h4).trans (bK h5)) hok2⟩
  have hK0:sC y=0:=hK.trans (n6 fun j z hz=>hok2 j z (by have:=aC h;rw[aP] at this;have:=(List.getElem?_eq_some_iff.1 hz).1;omega) hz)
 case' b2=>
  conv=>whnf
  have hK:sC y=dX (!y.keys.isEmpty||y.dups) 1 0:=aD (by simpa using hp);refine aE (fun h3=>?_) (fun h3=>?_)<;>conv=>whnf
  ·refine gW kT 2 1 (w:=true) (fun _=>?_) (fun h9=>nomatch h9);(conv=>whnf);exact nB (badK (hK.trans (b4 (by have:((bA y.keys).length:Int)>0:=aB h3;rw[aP] at this;cases hk:y.keys with|nil=>rw[hk] at this;exact absurd this (by decide)|cons a l=>rfl))) (by decide)) (by decide)
  have hke:y.keys.isEmpty=true:=by have:¬((bA y.keys).length:Int)>0:=aC h3;rw[aP] at this;cases hk:y.keys with|nil=>rfl|cons a l=>rw[hk] at this;simp at this
  rw[hke] at hK;refine gW kT 2 1 (fun h4=>?_) (fun h4=>?_)<;>conv=>whnf
  ·exact nB (badK (hK.trans (b4 h4)) (by decide)) (by decide)
  have hK0:sC y=0:=hK.trans (bK h4)
 all_goals
  replace hE:=hE.trans (oY hK0);have badV:∀{e:Int},HI s y=e->e≠0->((i,e):Nat×Int)=(xi,xe):=fun he h0=>bad0 (hE.trans (by rw[he,oZ h0])) h0;refine aE (fun hv=>?_) (fun hv=>?_)<;>conv=>whnf
  focus
   have hV:HI s y=dX (match s.st.find? (·.name==y.via) with|none=>true|some t=>!(t.ms.any (·.of==y.name))) 5 0:=aF (by simpa using hv);have hset:=WA s ht y.via;refine aZ (by kernel_rfl) ?_;(conv=>whnf);refine(jI (fun t:Sy=>t.name==y.via) s.st).elim (fun⟨h5,h6,_⟩=>?_) (fun⟨j,t,h5,h6,h7,_⟩=>?_)
   ·refine cP hset ?_;(conv=>whnf);refine GDraw.pan 17 _ rfl (by kernel_rfl) ?_;(conv=>whnf);refine gY (bN h5) ?_;(conv=>whnf);refine gW kT 2 5 (w:=true) (fun _=>?_) (fun h9=>nomatch h9);(conv=>whnf);exact nB (badV (e:=5) (by rw[hV,h6];rfl) (by decide)) (by decide)
   rw[h5] at hset;rw[h7] at hV;refine cP hset ?_;(conv=>whnf);have hmb:=F7 t (hst t (aL h6)).1 y.name;refine(Bool.eq_false_or_eq_true (decide (m8 (fun m:Mb=>m.of==y.name) t.ms<0))).elim (fun h8=>?_) (fun h8=>?_)
   ·refine GDraw.pan 17 _ rfl (by kernel_rfl) ?_;(conv=>whnf);refine ix (cI h6) ⟨rfl,?_⟩;(conv=>whnf);refine cP hmb ?_;(conv=>whnf);refine gW kT 2 5 (w:=decide (m8 (fun m:Mb=>m.of==y.name) t.ms<0)) (fun h9=>?_) (fun h9=>by rw[h8] at h9;cases h9);(conv=>whnf);exact nB (badV (hV.trans (b4 ((nM _ _).symm.trans h8))) (by decide)) (by decide)
   refine aZ (by kernel_rfl) ?_;(conv=>whnf);refine ix (cI h6) ⟨rfl,?_⟩;(conv=>whnf);refine cP hmb ?_;(conv=>whnf);refine gW kT 2 5 (w:=decide (m8 (fun m:Mb=>m.of==y.name) t.ms<0)) (fun h9=>by rw[h8] at h9;cases h9) (fun h9=>?_);(conv=>whnf);replace hV:=hV.trans (bK ((nM _ _).symm.trans h8))
  rotate_left;focus
   have hV:HI s y=dX (y.via !=[]) 1 0:=aD (by simpa using hv);refine gW kT 2 1 (fun h4=>?_) (fun h4=>?_)<;>conv=>whnf
   ·exact nB (badV (hV.trans (b4 h4)) (by decide)) (by decide)
   replace hV:=hV.trans (bK h4)
  all_goals
   replace hE:=hE.trans (oY ‹HI s y=0›);refine aE (fun hc=>?_) (fun hc=>?_)<;>conv=>whnf
   rotate_left
   ·exact nx () hlt ⟨hlt,kI hy (hE.trans (aF (by simpa using hc))) hok⟩ hm
   have hE2:=hE.trans (aD (by simpa using hc));refine cP (a2L y.check y3) ?_;(conv=>whnf);refine aE (fun h5=>?_) (fun h5=>?_)<;>conv=>whnf
   ·refine gW kT 2 2 (w:=true) (fun _=>?_) (fun h9=>nomatch h9);(conv=>whnf);exact nB (bad hE2 (by unfold rU;rw[cD (by simpa using h5)];rfl) (by decide)) (by decide)
   refine gW kT 2 2 (fun h6=>?_) (fun h6=>?_)<;>conv=>whnf
   ·exact nB (bad hE2 (by unfold rU;rw[cD (p:=(zW y.check).1=y.check) (by simpa using h6),Bool.and_false];rfl) (by decide)) (by decide)
   replace hE2:=hE2.trans (bK (by unfold rU;rw[bN (by simpa using h5),bN (by simpa using h6)];rfl));refine cP (a0s y.its [] y1 (by decide) y.check y3) ?_ (wC (d7 _) (wC (d7 _) (wC (bI _ _) (wR _))));(conv=>whnf);refine gW kT 2 (DT y.its [] y.check) (w:=DT y.its [] y.check !=0) (fun h7=>?_) (fun h7=>?_) (by intro h;simpa using h)<;>conv=>whnf
   ·exact nB (bad0 hE2 (by simpa using h7)) (by simpa using h7)
   exact nx () hlt ⟨hlt,kI hy (hE2.trans (by simpa using h7)) hok⟩ hm
theorem A8 [MaxL] (s:Sch) (hl:s.ar.length<bB) (n:By):SC Tryz.prog 101 [nO s,.s n] [] (.val (.i .i64 (m8 (fun a=>a.name==n) s.ar))) []:=by
 have hlen:(B5 s.ar).length=s.ar.length:=iB _ _;unfold bB at hl;refine cY Tryz.func101 rfl ?_;conv=>whnf
 refine cW 1 s.ar.length (fun i _=>∀a∈s.ar.take i,(a.name==n)=false) (fun i _=>[(2,.ptr 0 0),(1,.s n),(5,.i .i64 (i:Nat))]) (fun _ (_:Unit)=>[.box 26 (sQ s)]) [] () (by simp) (fun i _ φ0 hi hne=>?_);conv=>whnf
 refine aE (fun h=>?_) (fun h=>?_)<;>conv=>whnf
 rotate_left
 ·have hie:i=s.ar.length:=by have:=aC h;rw[hlen] at this;omega
  rw[hie,b6] at hne;rw[xH hne];exact dB 0
 have hlt:i<s.ar.length:=by have:=aB h;rw[hlen] at this;omega
 refine(gV hlt).elim fun y hy=>?_;refine ix (cI hy) ⟨rfl,?_⟩;conv=>whnf
 refine aE (fun hp=>?_) (fun hp=>?_)<;>conv=>whnf
 ·rw[xI hy hp hne];exact dB 0
 ·exact nx () hlt ⟨hlt,CQ hy hp hne⟩
theorem lQ [MaxL] (s:Sch) (hl:s.rc.length<bB) (n:By):SC Tryz.prog 93 [nO s,.s n] [] (.val (.i .i64 (m8 (fun a=>a.name==n) s.rc))) []:=by
 have hlen:(yY s.rc).length=s.rc.length:=iB _ _;unfold bB at hl;refine cY Tryz.func93 rfl ?_;conv=>whnf
 refine cW 1 s.rc.length (fun i _=>∀a∈s.rc.take i,(a.name==n)=false) (fun i _=>[(2,.ptr 0 0),(1,.s n),(5,.i .i64 (i:Nat))]) (fun _ (_:Unit)=>[.box 26 (sQ s)]) [] () (by simp) (fun i _ φ0 hi hne=>?_);conv=>whnf
 refine aE (fun h=>?_) (fun h=>?_)<;>conv=>whnf
 rotate_left
 ·have hie:i=s.rc.length:=by have:=aC h;rw[hlen] at this;omega
  rw[hie,b6] at hne;rw[xH hne];exact dB 0
 have hlt:i<s.rc.length:=by have:=aB h;rw[hlen] at this;omega
 refine(gV hlt).elim fun y hy=>?_;refine ix (cI hy) ⟨rfl,?_⟩;conv=>whnf
 refine aE (fun hp=>?_) (fun hp=>?_)<;>conv=>whnf
 ·rw[xI hy hp hne];exact dB 0
 ·exact nx () hlt ⟨hlt,CQ hy hp hne⟩
theorem E3 [MaxL] (s:Sch) (hl:s.st.length<bB) (n:By):SC Tryz.prog 98 [nO s,.s n] [] (.val (.i .i64 (m8 (fun a=>a.name==n) s.st))) []:=by
 have hlen:(zS s.st).length=s.st.length:=iB _ _;unfold bB at hl;refine cY Tryz.func98 rfl ?_;conv=>whnf
 refine cW 1 s.st.length (fun i _=>∀a∈s.st.take i,(a.name==n)=false) (fun i _=>[(2,.ptr 0 0),(1,.s n),(5,.i .i64 (i:Nat))]) (fun _ (_:Unit)=>[.box 26 (sQ s)]) [] () (by simp) (fun i _ φ0 hi hne=>?_);conv=>whnf
 refine aE (fun h=>?_) (fun h=>?_)<;>conv=>whnf
 rotate_left
 ·have hie:i=s.st.length:=by have:=aC h;rw[hlen] at this;omega
  rw[hie,b6] at hne;rw[xH hne];exact dB 0
 have hlt:i<s.st.length:=by have:=aB h;rw[hlen] at this;omega
 refine(gV hlt).elim fun y hy=>?_;refine ix (cI hy) ⟨rfl,?_⟩;conv=>whnf
 refine aE (fun hp=>?_) (fun hp=>?_)<;>conv=>whnf
 ·rw[xI hy hp hne];exact dB 0
 ·exact nx () hlt ⟨hlt,CQ hy hp hne⟩
theorem z6 [MaxL] (t:Sy) (hl:t.ms.length<bB) (n:By):SC Tryz.prog 83 [zT t,.s n] [] (.val (.i .i64 (m8 (fun a=>a.of==n) t.ms))) []:=by
 have hlen:(mC t.ms).length=t.ms.length:=iB _ _;unfold bB at hl;refine cY Tryz.func83 rfl ?_;conv=>whnf
 refine cW 1 t.ms.length (fun i _=>∀a∈t.ms.take i,(a.of==n)=false) (fun i _=>[(2,.ptr 0 0),(1,.s n),(5,.i .i64 (i:Nat))]) (fun _ (_:Unit)=>[.box 39 (M5 t)]) [] () (by simp) (fun i _ φ0 hi hne=>?_);conv=>whnf
 refine aE (fun h=>?_) (fun h=>?_)<;>conv=>whnf
 rotate_left
 ·have hie:i=t.ms.length:=by have:=aC h;rw[hlen] at this;omega
  rw[hie,b6] at hne;rw[xH hne];exact dB 0
 have hlt:i<t.ms.length:=by have:=aB h;rw[hlen] at this;omega
 refine(gV hlt).elim fun y hy=>?_;refine ix (cI hy) ⟨rfl,?_⟩;conv=>whnf
 refine aE (fun hp=>?_) (fun hp=>?_)<;>conv=>whnf
 ·rw[xI hy hp hne];exact dB 0
 ·exact nx () hlt ⟨hlt,CQ hy hp hne⟩
theorem tS [MaxL] (l:List Itm) (hl:l.length<bB) (n:By):SC Tryz.prog 127 [.sl .none (f5 l),.s n] [] (.val (.i .i64 (m8 (fun a=>a.name==n) l))) []:=by
 have hlen:(f5 l).length=l.length:=iB _ _;unfold bB at hl;refine cY Tryz.func127 rfl ?_;conv=>whnf
 refine cW 0 l.length (fun i _=>∀a∈l.take i,(a.name==n)=false) (fun i _=>[(0,.sl .none (f5 l)),(1,.s n),(5,.i .i64 (i:Nat))]) (fun _ (_:Unit)=>[]) [] () (by simp) (fun i _ φ0 hi hne=>?_);conv=>whnf
 refine aE (fun h=>?_) (fun h=>?_)<;>conv=>whnf
 rotate_left
 ·have hie:i=l.length:=by have:=aC h;rw[hlen] at this;omega
  rw[hie,b6] at hne;rw[xH hne];exact dB 0
 have hlt:i<l.length:=by have:=aB h;rw[hlen] at this;omega
 refine(gV hlt).elim fun y hy=>?_;refine ix (cI hy) ⟨rfl,?_⟩;conv=>whnf
 refine aE (fun hp=>?_) (fun hp=>?_)<;>conv=>whnf
 ·rw[xI hy hp hne];exact dB 0
 ·exact nx () hlt ⟨hlt,CQ hy hp hne⟩
theorem ZZ [MaxL] (l:List By) (hl:l.length<bB) (n:By):SC Tryz.prog 86 [.sl .none (bA l),.s n] [] (.val (.i .i64 (m8 (fun a=>a==n) l))) []:=by
 have hlen:(bA l).length=l.length:=iB _ _;unfold bB at hl;refine cY Tryz.func86 rfl ?_;conv=>whnf
 refine cW 0 l.length (fun i _=>∀a∈l.take i,(a==n)=false) (fun i _=>[(0,.sl .none (bA l)),(1,.s n),(5,.i .i64 (i:Nat))]) (fun _ (_:Unit)=>[]) [] () (by simp) (fun i _ φ0 hi hne=>?_);conv=>whnf
 refine aE (fun h=>?_) (fun h=>?_)<;>conv=>whnf
 rotate_left
 ·have hie:i=l.length:=by have:=aC h;rw[hlen] at this;omega
  rw[hie,b6] at hne;rw[xH hne];exact dB 0
 have hlt:i<l.length:=by have:=aB h;rw[hlen] at this;omega
 refine(gV hlt).elim fun y hy=>?_;refine ix (cI hy) ⟨rfl,?_⟩;conv=>whnf
 refine aE (fun hp=>?_) (fun hp=>?_)<;>conv=>whnf
 ·rw[xI hy hp hne];exact dB 0
 ·exact nx () hlt ⟨hlt,CQ hy hp hne⟩
abbrev TI (s:Sch) (m:List By) (i:Nat):List GObj:=kE s m++[.box 3 [.i .i64 (i:Nat)]]
def I2:FuncId->Bool:=fun _=>true
theorem rA {s:Sch} {n:By} (h:(gB s).contains n=true):∃i:Nat,m8 (fun r:Rc=>r.name==n) s.rc=i/\s.rc[i]?=some (eQ s n):=by
 rcases jI (fun r:Rc=>r.name==n) s.rc with⟨_,_,h3⟩|⟨i,y,h1,h2,h3,_⟩
 ·rw[show(gB s).contains n=s.rc.any fun r=>r.name==n from eK _ _ _,h3] at h;cases h
 ·exact⟨i,h1,by unfold eQ;rw[h3];exact h2⟩
theorem tX (l:List Itm) (n:By):iE l n=(yG l n).k:=by unfold iE yG;cases l.find? (·.name==n)<;>rfl
theorem H3 [MaxL] (n:Nat) {kd:By} {s objs:List GObj} {i:Nat} {e xe:Int} {lo:Nat} {ds:List GDef} [FH n s] (hX:e=xe) (he:e≠0) (ho:objs.take n=s:=by rfl) (hn:s.length=n:=by rfl) (hh:s.all GObj.notHeld=true:=by rfl):Owes s (sR kd i xe) s (.panic (OO kd i e)) ⟨objs,lo,ds⟩:=by
 subst hX;rw[pS he];exact dB n (ho:=ho) (hn:=hn) (hl:=Nat.le_of_eq hn) (hh:=hh)
theorem PA [MaxL] (s:Sch) (hz:mA s) (m0:List By) (i:Nat) (t:Sy) (m:Mb) (hml:m.sel.length<bB) (hm:(gB s).contains m.of=true) (ho:t.owner≠[]->(gB s).contains t.owner=true) (hg:∀r∈s.rc,M1 kU r):
  SC Tryz.prog 123 [.ptr 0 0,zT t,Z5 m,.fn (.func 122) [] [.ptr 2 0]] (TI s m0 i) (sR qZ i (TJ s t m)) (TI s m0 i):=by
 obtain⟨⟨ha,hl,ht⟩,hr,hst⟩:=hz;unfold bB at hml;generalize hX:TJ s t m=xe;refine dF I2 mixed Tryz.func123 rfl (bL rfl) (by first|exact rL _|simp) rfl ?_;conv=>whnf
 refine aE (fun h=>?_) (fun h=>?_)<;>conv=>whnf
 ·rw[show xe=0 from hX.symm.trans (aF (by simpa[bA] using h))];exact dB 3
 replace hX:=(aD (by simpa[bA] using h)).symm.trans hX;refine gW gF 2 10 (fun h=>?_) (fun h=>?_)<;>conv=>whnf
 ·exact H3 3 ((b4 h).symm.trans hX) (by decide)
 replace hX:=(bK h).symm.trans hX;have hto:=ho (by simpa using h);obtain⟨io,ho1,ho2⟩:=rA hto;obtain⟨ir,hr1,hr2⟩:=rA hm;have hgo:=hg _ (aL ho2);obtain⟨o1,o2,_⟩:=hr _ (aL ho2);obtain⟨r1,r2,_⟩:=hr _ (aL hr2);have hro:=r7 s hl t.owner;have hrr:=r7 s hl m.of;rw[ho1] at hro;rw[hr1] at hrr;generalize eQ s t.owner=o at*;generalize eQ s m.of=r at*;refine GDraw.wildT [none,none,none,none,some 0,none,none,none,some 0,none,some 3,none,none,none,some 5,some 5] rfl rfl (by kernel_rfl) ?_;conv=>whnf
 refine cP hro ?_;conv=>whnf
 refine ix (cI ho2) ⟨rfl,?_⟩;conv=>whnf
 refine st ?_;conv=>whnf
 refine aE (fun h=>?_) (fun h=>?_)<;>conv=>whnf
 ·refine gW gF 2 10 (w:=true) (fun _=>?_) (fun h9=>nomatch h9);conv=>whnf
  exact H3 3 ((b4 (by rw[show(o.place !=2)=true from h];rfl)).symm.trans hX) (by decide)
 have hp:(o.place !=2)=false:=h;rw[hp] at hX;refine gW gF 2 10 (fun h=>?_) (fun h=>?_)<;>conv=>whnf
 ·exact H3 3 ((b4 h).symm.trans hX) (by decide)
 replace hX:=(bK h).symm.trans hX;refine gW gF 2 11 (fun h=>?_) (fun h=>?_)<;>conv=>whnf
 ·have h8:¬(m.sel.length:Int)=o.keys.length:=by simpa[bA] using h
  exact H3 3 ((b4 (by simp;omega)).symm.trans hX) (by decide)
 have hlk:m.sel.length=o.keys.length:=by
  have h8:(m.sel.length:Int)=o.keys.length:=by simpa[bA] using h
  omega
 replace hX:=(bK (by rw[hlk];simp)).symm.trans hX;refine GDraw.wildT [none,none,none,none,some 0,none,none,none,some 0,none,some 4,none,none,none,some 6,some 6] rfl rfl (by kernel_rfl) ?_;conv=>whnf
 refine cP hrr ?_;conv=>whnf
 refine ix (cI hr2) ⟨rfl,?_⟩;conv=>whnf
 refine st ?_;conv=>whnf
 refine cW 7 m.sel.length (fun k _=>∀j n,j<k->m.sel[j]?=some n->FT o r j n=0) (fun k _=>[(3,.fn (.func 122) [] [.ptr 2 0]),(8,.ptr 5 0),(9,.ptr 6 0),(72,.sl .none (bA m.sel)),(73,.i .i64 (bA m.sel).length),(74,.i .i64 (k:Nat))])
  (fun k (_:Unit)=>TI s m0 i++[.box 39 (M5 t),.box 46 (mbC m),.box 35 (WP o),.box 35 (WP r)]) [] () (fun j n h=>absurd h (dJ j)) (fun k _ φ1 hk hok=>?_)
 conv=>whnf
 refine aE (fun h=>?_) (fun h=>?_)<;>conv=>whnf
 rotate_left
 ·rw[show xe=0 from hX.symm.trans (n6 fun j z hz=>hok j z (by have:=aC h;rw[aP] at this;have:=(List.getElem?_eq_some_iff.1 hz).1;omega) hz)];exact dB 3
 have hlt:k<m.sel.length:=by have:=aB h;rw[aP] at this;omega
 refine(gV hlt).elim fun n hn=>?_;refine(gV (show k<o.keys.length by omega)).elim fun n' hn'=>?_;have bad:∀{e:Int},FT o r k n=e->e≠0->e=xe:=fun he h0=>he.symm.trans ((n7 hn (by rw[he];exact h0) hok).symm.trans hX);have hk':(o.keys[k]?).getD []=n':=by rw[hn'];rfl
 refine ix (cI hn) ⟨rfl,?_⟩;conv=>whnf
 refine cP (F6 r r1 n) ?_;conv=>whnf
 refine st ?_;conv=>whnf
 refine gW gF 2 5 (fun h4=>?_) (fun h4=>?_)<;>conv=>whnf
 ·exact H3 3 (bad (b4 h4) (by decide)) (by decide)
 refine GDraw.wildT [some 5,none,some 5,none,none,none,none,none,none,none,some 8,some 8] rfl rfl (by kernel_rfl) ?_;conv=>whnf
 refine ix (cI hn') ⟨rfl,?_⟩;conv=>whnf
 refine cP (F6 o o1 n') ?_;conv=>whnf
 refine st ?_;conv=>whnf
 refine gW gF 2 10 (fun h5=>?_) (fun h5=>?_)<;>conv=>whnf
 ·exact H3 3 (bad ((bK h4).trans (b4 (by rw[hk',tX,tX];exact h5))) (by decide)) (by decide)
 exact nx () hlt ⟨hlt,kI hn ((bK h4).trans (bK (by rw[hk',tX,tX];exact h5))) hok⟩
theorem UI {l:List Itm} {n:By} (hk:kU l=true) (ha:l.any (·.name==n)=true):iE l n≠0:=by
 rcases jI (fun x:Itm=>x.name==n) l with⟨_,_,h⟩|⟨i,y,_,hy,hf,_⟩
 ·rw[h] at ha;cases ha
 ·unfold iE;rw[hf];have h1:y.ok=true:=by
   unfold kU gM at hk;simp only[aH,aS] at hk;exact hk.2.1.1 y (aL hy)
  intro h0;unfold Itm.ok at h1;rw[show y.k=0 from h0] at h1;simp at h1
theorem a1W [MaxL] (l:List Ky) (hl:l.length<bB) (z:Ky):SC Tryz.prog 186 [.sl .none (rZ l),.fn (.func 187) [] [.ptr 0 0]] [.box 78 (VF z)] (.val (.b (l.any fun y=>y.item==z.item))) [.box 78 (VF z)]:=by
 have hi:=zN (fun y=>MF (VF y)) l hl (fun y=>y.item==z.item) _ 78 (VF z) _ 2 (fun y _=>a1R y z) (.inr (.inr (.inr (.inr (.inr (.inl ⟨rfl,rfl,rfl⟩))))));refine cY Tryz.func186 rfl ?_;conv=>whnf
 refine cS [0] hi ?_;conv=>whnf
 rw[<-qJ];exact dB 1
theorem n9 {α:Type} {p:α->Bool} {l:List α} {i:Nat} {y:α} (hy:l[i]?=some y) (h:p y=false):l.all p=false:=by
 rw[Bool.eq_false_iff];intro h9;rw[aS] at h9;rw[h9 y (aL hy)] at h;cases h
theorem sN {α:Type} {p:α->Prop} {l:List α} {i:Nat} {y:α} (hy:l[i]?=some y) (hp:p y) (h:∀z∈l.take i,p z):∀z∈l.take (i+1),p z:=fun z hz=>by
 rw[bP,hy] at hz;rcases List.mem_append.1 hz with hz|hz
 ·exact h z hz
 ·simp at hz;subst hz;exact hp
theorem rV {α:Type} {p:α->Bool} {l:List α} {i:Nat} (hi:l.length<=i) (h:∀z∈l.take i,p z=true):l.all p=true:=by
 rw[cZ hi] at h;exact List.all_eq_true.2 h
theorem iT [MaxL] (l:List Mb):(mC l).length=l.length:=iB _ _
theorem j5 [MaxL] (l:List Ky):(rZ l).length=l.length:=iB _ _
theorem a1y [MaxL] (l:List Ky):(rZ l).all (fun x=>x.cells.length==2)=true:=by
 rw[aS];intro x hx;obtain⟨b,_,rfl⟩:=List.mem_map.1 hx;rfl
abbrev a1N (t:Sy) (k:Nat):List (Nat×GV):=[(0,.ptr 0 0),(2,.fn (.func 122) [] [.ptr 2 0]),(4,.ptr 3 0),(25,.sl .none (rZ t.keys)),(26,.i .i64 (rZ t.keys).length),(27,.i .i64 (k:Nat))]
abbrev a1O (s:Sch) (m:List By) (i:Nat) (t:Sy):List GObj:=TI s m i++[.box 39 (M5 t)]
def a2Z:List (Option Nat):=[none,none,none,none,some 0,none,none,none,some 0,none,some 5,none,none,none,none,some 4,none,none,none,none,some 6,some 6,none]
set_option maxHeartbeats 8000000 in
theorem W9 [MaxL] (s:Sch) (hz:mA s) (m0:List By) (i:Nat) (t:Sy) (htl:t.ms.length<bB) (hkl:t.keys.length<bB) (hm:∀m∈t.ms,(gB s).contains m.of=true) (hg:∀r∈s.rc,M1 kU r):
  SC Tryz.prog 124 [.ptr 0 0,zT t,.fn (.func 122) [] [.ptr 2 0]] (TI s m0 i) (sR qZ i (wB s t)) (TI s m0 i):=by
 obtain⟨⟨ha,hl,ht⟩,hr,hst⟩:=hz;unfold bB at htl hkl;generalize hX:wB s t=xe;refine dF I2 mixed Tryz.func124 rfl (bL rfl) (by first|exact rL _|simp) rfl ?_;conv=>whnf
 refine cP (lO (rZ t.keys).length 1 4) ?_;conv=>whnf
 refine gW gF 2 11 (fun h=>?_) (fun h=>?_)<;>rw[j5] at h<;>conv=>whnf
 ·exact H3 3 ((b4 h).symm.trans hX) (by decide)
 replace hX:=(bK h).symm.trans hX;have badK:∀{e:Int},kX (l6 s t) t.keys=e->e≠0->e=xe:=fun he h0=>(by rw[he,oZ h0] at hX;exact hX);refine cW 4 t.keys.length (fun k _=>∀j y,j<k->t.keys[j]?=some y->l6 s t j y=0) (fun k _=>a1N t k) (fun k (_:Unit)=>a1O s m0 i t) [] () (fun j n h=>absurd h (dJ j)) (fun k _ φ1 hk hok=>?_);conv=>whnf
 refine aE (fun h=>?_) (fun h=>?_)<;>conv=>whnf
 rotate_left
 ·have h0:kX (l6 s t) t.keys=0:=n6 fun j z hz=>hok j z (by have:=aC h;rw[j5] at this;have:=(List.getElem?_eq_some_iff.1 hz).1;omega) hz;rw[oY h0] at hX;refine cP (lO t.dups 1 3) ?_;conv=>whnf
  refine gW gF 2 1 (fun h=>?_) (fun h=>?_)<;>conv=>whnf
  ·exact H3 3 ((b4 h).symm.trans hX) (by decide)
  rw[show xe=0 from hX.symm.trans (bK h)];exact dB 3
 have hlt:k<t.keys.length:=by have:=aB h;rw[j5] at this;omega
 refine(gV hlt).elim fun y hy=>?_;have bad:∀{e:Int},l6 s t k y=e->e≠0->e=xe:=fun he h0=>badK ((n7 hy (by rw[he];exact h0) hok).trans he) h0;refine ix (cI hy) ⟨rfl,?_⟩;conv=>whnf
 refine st ?_;conv=>whnf
 refine cW 5 t.ms.length (fun j _=>∀m∈t.ms.take j,(eQ s m.of).its.any (·.name==y.item)=true) (fun j _=>(6,.i .i64 (k:Nat))::(7,.ptr 4 0)::(8,.i .i64 0)::(33,.sl .none (mC t.ms))::(34,.i .i64 (mC t.ms).length)::(35,.i .i64 (j:Nat))::a1N t k)
  (fun j (_:Unit)=>a1O s m0 i t++[.box 78 (VF y)]) [] () (fun m h=>by simp at h) (fun j _ φ2 hj hall=>?_)
 conv=>whnf
 refine aE (fun h=>?_) (fun h=>?_)<;>conv=>whnf
 ·have hlt2:j<t.ms.length:=by have:=aB h;rw[iT] at this;omega
  refine(gV hlt2).elim fun m hm2=>?_;refine(rA (hm m (aL hm2))).elim fun ir hir=>?_;have hrr:=r7 s hl m.of;rw[hir.1] at hrr;refine ix (cI hm2) ⟨rfl,?_⟩;conv=>whnf
  refine st ?_;conv=>whnf
  refine GDraw.wildT a2Z rfl rfl (by kernel_rfl) ?_;conv=>whnf
  refine cP hrr ?_;conv=>whnf
  refine ix (cI hir.2) ⟨rfl,?_⟩;conv=>whnf
  refine cP (F6 _ (hr _ (aL hir.2)).1 y.item) ?_;conv=>whnf
  refine st ?_;conv=>whnf
  refine gW gF 2 5 (fun h4=>?_) (fun h4=>?_)<;>conv=>whnf
  ·exact H3 3 (bad (b4 (by rw[n9 hm2 (U9 h4)];rfl)) (by decide)) (by decide)
  exact nx () hlt2 ⟨hlt2,sN hm2 (by simpa using h4) hall⟩
 have hall':=rV (p:=fun m:Mb=>(eQ s m.of).its.any (·.name==y.item)) (by have:=aC h;rw[iT] at this;omega) hall;have hp1:l6 s t k y=dX (!(t.ms.all fun m=>iE (eQ s m.of).its y.item==iE (eQ s ((t.ms.head?.map (·.of)).getD [])).its y.item)) 10 (dX (((t.keys.take k).map (·.item)).contains y.item) 6 0):=bK (by rw[hall'];rfl);have hne:∀m∈t.ms,iE (eQ s m.of).its y.item≠0:=fun m hm9=>by
  obtain⟨ir,_,hir⟩:=rA (hm m hm9);exact UI (hg _ (aL hir)).1 (List.all_eq_true.1 hall' m hm9)
 have hd:∀m,t.ms[0]?=some m->iE (eQ s m.of).its y.item=iE (eQ s ((t.ms.head?.map (·.of)).getD [])).its y.item:=fun m hm9=>by
  cases hms:t.ms with
  |nil=>rw[hms] at hm9;cases hm9
  |cons x l=>rw[hms] at hm9;cases hm9;rfl
 generalize iE (eQ s ((t.ms.head?.map (·.of)).getD [])).its y.item=F at*;refine cW 5 t.ms.length (fun j (b:Int)=>(∀m∈t.ms.take j,(iE (eQ s m.of).its y.item==F)=true)/\b=if j=0 then 0 else F) (fun j (b:Int)=>(6,.i .i64 (k:Nat))::(7,.ptr 4 0)::(8,.i .i64 b)::(65,.sl .none (mC t.ms))::(66,.i .i64 (mC t.ms).length)::(67,.i .i64 (j:Nat))::a1N t k)
  (fun j _=>a1O s m0 i t++[.box 78 (VF y)]) [] 0 ⟨fun m h=>by simp at h,rfl⟩ (fun j b φ2 hj hb=>?_)
 refine hb.elim fun hall2 hb=>?_;conv=>whnf
 refine aE (fun h=>?_) (fun h=>?_)<;>conv=>whnf
 ·have hlt2:j<t.ms.length:=by have:=aB h;rw[iT] at this;omega
  refine(gV hlt2).elim fun m hm2=>?_;refine(rA (hm m (aL hm2))).elim fun ir hir=>?_;have hrr:=r7 s hl m.of;rw[hir.1] at hrr;have hF:j≠0->F≠0:=fun h0=>by
   have hm9:=gL (l:=t.ms) (i:=0) (by omega);rw[<-hd _ hm9];exact hne _ (aL hm9)
  refine ix (cI hm2) ⟨rfl,?_⟩;conv=>whnf
  refine st ?_;conv=>whnf
  refine GDraw.wildT a2Z rfl rfl (by kernel_rfl) ?_;conv=>whnf
  refine cP hrr ?_;conv=>whnf
  refine ix (cI hir.2) ⟨rfl,?_⟩;conv=>whnf
  refine cP (F6 _ (hr _ (aL hir.2)).1 y.item) ?_;conv=>whnf
  refine st ?_;conv=>whnf
  have hk9:=tX (eQ s m.of).its y.item;refine aE (fun h4=>?_) (fun h4=>?_)<;>conv=>whnf
  ·have hj0:j≠0:=fun h0=>by rw[aF h0] at hb;rw[hb] at h4;exact absurd h4 (by decide)
   rw[aD hj0] at hb;refine gW gF 2 10 (w:=(yG (eQ s m.of).its y.item).k !=b) (fun h5=>?_) (fun h5=>?_)<;>conv=>whnf
   ·exact H3 3 (bad (hp1.trans (b4 (by rw[n9 hm2 (by rw[hk9,<-hb];simpa using h5)];rfl))) (by decide)) (by decide)
   have h6:(iE (eQ s m.of).its y.item==F)=true:=by rw[hk9,<-hb];simpa using h5
   exact nx (yG (eQ s m.of).its y.item).k hlt2 ⟨hlt2,sN hm2 h6 hall2,by rw[aD (Nat.succ_ne_zero _),<-hk9];exact eq_of_beq h6⟩
  ·have hj0:j=0:=Nat.eq_zero_of_not_pos fun h0=>by
    rw[aD (by omega)] at hb;exact hF (by omega) (by rw[<-hb];simpa using h4)
   refine gW gF 2 10 (w:=false) (fun h9=>nomatch h9) (fun _=>?_);(conv=>whnf);have h6:(iE (eQ s m.of).its y.item==F)=true:=by rw[hd m (by rw[<-hj0];exact hm2)];simp
   exact nx (yG (eQ s m.of).its y.item).k hlt2 ⟨hlt2,sN hm2 h6 hall2,by rw[aD (Nat.succ_ne_zero _),<-hk9];exact eq_of_beq h6⟩
 have hp2:=hp1.trans (bK (by rw[rV (by have:=aC h;rw[iT] at this;omega) hall2];rfl));refine ZF (zs:=rZ (t.keys.take k)) (a1y _) (by rw[j5];omega) ?_ (List.map_take ..).symm;conv=>whnf
 refine cS [4] (a1W (t.keys.take k) (by unfold bB;rw[bM];omega) y) ?_;conv=>whnf
 rw[eK] at hp2;refine gW gF 2 6 (fun h4=>?_) (fun h4=>?_)<;>conv=>whnf
 ·exact H3 3 (bad (hp2.trans (b4 h4)) (by decide)) (by decide)
 exact nx () hlt ⟨hlt,kI hy (hp2.trans (bK h4)) hok⟩
