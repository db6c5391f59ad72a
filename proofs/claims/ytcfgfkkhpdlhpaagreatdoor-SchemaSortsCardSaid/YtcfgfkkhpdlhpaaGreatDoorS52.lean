/-
  A part of the proof of SchemaSorts.
-/
import Derived.Test.YtcfgfkkhpdlhpaaGreatDoorS51
import Derived.Lib.Index
import Derived.Lib.SplitLaws
set_option linter.all false
set_option maxRecDepth 100000
namespace Go.Proofs.YtcfgfkkhpdlhpaaGreatDoor
open Go.RowKit
theorem JR {s:Sch} {n r:By} {row:List Val} {m:Mb} {e:Int} (h:wH s n r=(m,e)) (he:e≠0):s8 s n r row=([],e):=by
 unfold s8;rw[h];exact aD (by simpa using he)
theorem F1 {s:Sch} {n r:By} {row:List Val} {m:Mb} {t:Sy} {i:Int} (h:wH s n r=(m,0)) (hR:kS s n=(t,i,0)):s8 s n r row=if t.order==5 then(if oR (eQ s r).its row then(nP (eQ s r).its row (t.keys.map (·.item)),0) else([],1)) else([],10):=by
 unfold s8;rw[h,hR];rfl
theorem XT {l:List Ky} {i:Nat} {y:Ky} (h:l[i]?=some y):(l.take (i+1)).map (·.item)=(l.take i).map (·.item)++[y.item]:=by
 rw[bP,h,cX];rfl
theorem MK [MaxL] (t:Sy) (hl:t.keys.length<=1000):SC Tryz.prog 108 [zT t] [] (.val (.sl .none (bA (t.keys.map (·.item))))) []:=by
 have hlen:=j5 t.keys;refine cY Tryz.func108 rfl ?_;conv=>whnf
 refine cW 3 t.keys.length (fun i o=>o=(t.keys.take i).map (·.item)) (fun i o=>[(1,.ptr 0 0),(3,.sl (.own 2) (bA o)),(4,.i .i64 (i:Nat))]) (fun _ o=>[.box 39 (M5 t),.own 0 0 0,ow 9 1 o.length]) [] [] rfl (fun i o φ0 hi ho=>?_) (hh:=fun _ _=>by simp only[iX,oB];rfl);conv=>whnf
 refine aE (fun h=>?_) (fun h=>?_)<;>conv=>whnf
 rotate_left
 ·rw[show t.keys.map (·.item)=o by rw[ho,cZ (by have:=aC h;rw[hlen] at this;omega)]];exact dB 0 (hw:=bI _ _)
 have hlt:i<t.keys.length:=by have:=aB h;rw[hlen] at this;omega
 refine(gV hlt).elim fun y hy=>?_;have ho':=XT hy;rw[<-ho] at ho';have hol:o.length<=1000:=by rw[ho,bS,bM];omega
 refine ix (cI hy) ⟨rfl,?_⟩;conv=>whnf
 cases o with
 |nil=>
  refine ap1 (f:=GV.s) (c:=1) (fun _=>rfl) [] y.item rfl (by omega) ?_;conv=>whnf
  refine⟨⟨zL _,rfl,.inr ⟨rfl,rfl⟩⟩,?_⟩;conv=>whnf
  exact nx ([]++[y.item]) hlt ⟨hlt,ho'.symm⟩
 |cons z zs=>
  refine ap1 (f:=GV.s) (c:=1) (fun _=>rfl) (z::zs) y.item rfl (by omega) ?_;conv=>whnf
  refine⟨⟨zL _,(aP (z::zs)).symm,.inl ⟨rfl,rfl⟩⟩,?_⟩;conv=>whnf
  exact nx ((z::zs)++[y.item]) hlt ⟨hlt,ho'.symm⟩
theorem TQ [MaxL] (s:Sch) (hz:mA s) (hs:P6 s) (n r:By) (row:List Val) (hr:row.length<bB):SC Tryz.prog 44 [nO s,.s n,.s r,.sl .none (hZ row)] [] (.val (.tup [.sl .none (hZ (s8 s n r row).1),.i .i64 (s8 s n r row).2])) []:=by
 have hM:=PB s hz hs n r;have hq:=r7 s hz.1.2.1 r;have hq2:=WA s hz.1.2.2 n;generalize hX:s8 s n r row=X;cases hm:wH s n r with
 |mk m e=>
 rw[hm] at hM;refine dF I2 mixed Tryz.func44 rfl (bL rfl) (by first|exact rL _|simp) rfl ?_;conv=>whnf
 refine cP hM ?_;conv=>whnf
 refine st ?_;conv=>whnf
 refine aE (fun h=>?_) (fun h=>?_)<;>conv=>whnf
 ·rw[<-hX,JR hm (by simpa using h)];exact dB 0 (hw:=Wk.tupl ⟨bI _ _,.refl _,trivial⟩)
 have h0:e=0:=by simpa using h
 subst h0;refine(AG hm).elim fun t q=>q.elim fun i q=>?_;have hR:=q.1;refine(uW hR).2.2.elim fun j1 k1=>(N8 hm).1.elim fun j2 k2=>?_;have hro:=(hz.2.1 _ (aL k2.2)).1;have hF:=YY (eQ s r).its row hro hr;have hg:=BH hm hR;have hP:=fun hf ho=>a1Y (eQ s r).its row (t.keys.map (·.item)) hro hr hf (hg ho).2 (hg ho).1;rw[k1.1] at hq2;rw[k2.1] at hq;rw[F1 hm hR] at hX;refine GDraw.wildT [none,some 0,some 0,none,none,none,none,some 3,some 3] rfl rfl (by kernel_rfl) ?_;conv=>whnf
 refine cP hq2 ?_;conv=>whnf
 refine ix (cI k1.2) ⟨rfl,?_⟩;conv=>whnf
 refine st ?_;conv=>whnf
 refine GDraw.wildT [none,some 0,some 0,none,none,none,none,some 4,some 4] rfl rfl (by kernel_rfl) ?_;conv=>whnf
 refine cP hq ?_;conv=>whnf
 refine ix (cI k2.2) ⟨rfl,?_⟩;conv=>whnf
 refine st ?_;conv=>whnf
 refine aE (fun h=>?_) (fun h=>?_)<;>conv=>whnf
 ·rw[aD (by simpa using h)] at hX;rw[<-hX];exact dB 0 (hw:=Wk.tupl ⟨bI _ _,.refl _,trivial⟩)
 have h5:t.order=5:=by simpa using h
 have hP:=fun hf=>hP hf h5;have hg:=(hg h5).1;rw[aF (by simpa using h5)] at hX;generalize eQ s r=R at*;refine cP hF ?_;conv=>whnf
 refine aE (fun h=>?_) (fun h=>?_)<;>conv=>whnf
 ·rw[show oR R.its row=false by simpa using h] at hX;rw[<-hX];exact dB 0 (hw:=Wk.tupl ⟨bI _ _,.refl _,trivial⟩)
 have hf:oR R.its row=true:=by simpa using h
 have hP:=hP hf;rw[hf,aF rfl] at hX;have hlen:=j5 t.keys;rw[bS] at hg;refine cW 6 t.keys.length (fun i o=>o=(t.keys.take i).map (·.item)) (fun i o=>[(3,.sl .none (hZ row)),(13,.ptr 4 0),(14,.sl (.own 5) (bA o)),(52,.sl .none (rZ t.keys)),(53,.i .i64 (t.keys.length:Nat)),(54,.i .i64 (i:Nat))]) (fun _ o=>[.box 26 (sQ s),.own 0 0 0,.box 46 (mbC m),.box 39 (M5 t),.box 35 (WP R),ow 9 1 o.length]) [] [] rfl (fun i o φ0 hi ho=>?_) (hφ:=⟨rfl,rfl,rfl,rfl,by rw[<-hlen];rfl,rfl,trivial⟩) (hh:=fun _ _=>by simp only[iX,oB];rfl);conv=>whnf
 refine aE (fun h=>?_) (fun h=>?_)<;>conv=>whnf
 rotate_left
 ·have e:t.keys.map (·.item)=o:=by rw[ho,cZ (by have:=aC h;omega)]
  rw[e] at hP hX;refine cP hP ?_ (hw:=⟨.refl _,.refl _,bI _ _,trivial⟩);conv=>whnf
  rw[<-hX];exact dB 0
 have hlt:i<t.keys.length:=by have:=aB h;omega
 refine(gV hlt).elim fun y hy=>?_;have ho':=XT hy;rw[<-ho] at ho';have hol:o.length<=8:=by rw[ho,bS,bM];omega
 refine ix (cI hy) ⟨rfl,?_⟩;conv=>whnf
 refine st ?_;conv=>whnf
 cases o with
 |nil=>
  refine ap1 (f:=GV.s) (c:=1) (fun _=>rfl) [] y.item rfl (by omega) ?_;conv=>whnf
  refine⟨⟨zL _,rfl,.inr ⟨rfl,rfl⟩⟩,?_⟩;conv=>whnf
  exact nx ([]++[y.item]) hlt ⟨hlt,ho'.symm⟩
 |cons z zs=>
  refine ap1 (f:=GV.s) (c:=1) (fun _=>rfl) (z::zs) y.item rfl (by omega) ?_;conv=>whnf
  refine⟨⟨zL _,(aP (z::zs)).symm,.inl ⟨rfl,rfl⟩⟩,?_⟩;conv=>whnf
  exact nx ((z::zs)++[y.item]) hlt ⟨hlt,ho'.symm⟩
theorem TZ [MaxL] (s:Sch) (hz:mA s) (hs:P6 s) (hc:∀r∈s.rc,r.check.length<1000000) (n r:By) (row:List Val) (hr:row.length<bB):SC Tryz.prog 45 [nO s,.s n,.s r,.sl .none (hZ row)] [] (.val (.tup [.sl .none (hZ (s8 s n r row).1),.i .i64 (s8 s n r row).2])) []:=by
 have hM:=PN s hz hc n r;have hq:=lQ s hz.1.2.1 r;have hq2:=E3 s hz.1.2.2 n;generalize hX:s8 s n r row=X;cases hm:wH s n r with
 |mk m e=>
 rw[hm] at hM;refine dF I2 mixed Tryz.func45 rfl (bL rfl) (by first|exact rL _|simp) rfl ?_;conv=>whnf
 refine cP hM ?_;conv=>whnf
 refine st ?_;conv=>whnf
 refine aE (fun h=>?_) (fun h=>?_)<;>conv=>whnf
 ·rw[<-hX,JR hm (by simpa using h)];exact dB 0 (hw:=Wk.tupl ⟨bI _ _,.refl _,trivial⟩)
 have h0:e=0:=by simpa using h
 subst h0;refine(AG hm).elim fun t q=>q.elim fun i q=>?_;have hR:=q.1;have hst:=hs t (uW hR).2.1;refine(uW hR).2.2.elim fun j1 k1=>(N8 hm).1.elim fun j2 k2=>?_;have hro:=(hz.2.1 _ (aL k2.2)).1;have hF:=a01 (eQ s r).its row hro hr;have hg:=BH hm hR;have hP:=fun hf ho=>WW (eQ s r).its row (t.keys.map (·.item)) hro hr hf (hg ho).2 (hg ho).1;rw[k1.1] at hq2;rw[k2.1] at hq;rw[F1 hm hR] at hX;refine GDraw.wildT [none,some 0,some 0,none,none,none,none,some 3,some 3] rfl rfl (by kernel_rfl) ?_;conv=>whnf
 refine cP hq2 ?_;conv=>whnf
 refine ix (cI k1.2) ⟨rfl,?_⟩;conv=>whnf
 refine st ?_;conv=>whnf
 refine GDraw.wildT [none,some 0,some 0,none,none,none,none,some 4,some 4] rfl rfl (by kernel_rfl) ?_;conv=>whnf
 refine cP hq ?_;conv=>whnf
 refine ix (cI k2.2) ⟨rfl,?_⟩;conv=>whnf
 refine st ?_;conv=>whnf
 refine aE (fun h=>?_) (fun h=>?_)<;>conv=>whnf
 ·rw[aD (by simpa using h)] at hX;rw[<-hX];exact dB 0 (hw:=Wk.tupl ⟨bI _ _,.refl _,trivial⟩)
 have h5:t.order=5:=by simpa using h
 have hP:=fun hf=>hP hf h5;rw[aF (by simpa using h5)] at hX;generalize eQ s r=R at*;refine cP hF ?_;conv=>whnf
 refine aE (fun h=>?_) (fun h=>?_)<;>conv=>whnf
 ·rw[show oR R.its row=false by simpa using h] at hX;rw[<-hX];exact dB 0 (hw:=Wk.tupl ⟨bI _ _,.refl _,trivial⟩)
 have hf:oR R.its row=true:=by simpa using h
 rw[hf,aF rfl] at hX;refine aZ (by kernel_rfl) ?_;conv=>whnf
 refine cP (MK t hst.2.1) ?_;conv=>whnf
 refine cP (hP hf) ?_;conv=>whnf
 rw[<-hX];exact dB 0
instance [MaxL] {y:Ky}:KL (VF y):=⟨fun _=>rfl⟩
def DI (t:Sy):List Bool:=t.keys.map (·.down)
def PP (t:Sy) (a b:List Val) (i:Nat):Int:=nA ((DI t).drop i) (a.drop i) (b.drop i)
theorem RX {t:Sy} {a b:List Val} {i:Nat} {k:Ky} {x y:Val} (hk:t.keys[i]?=some k) (hx:a[i]?=some x) (hy:b[i]?=some y):PP t a b i=m9 (zD k.down x y) (PP t a b (i+1)):=by
 obtain⟨h1,e1⟩:=List.getElem?_eq_some_iff.1 hx;obtain⟨h2,e2⟩:=List.getElem?_eq_some_iff.1 hy;have hd:(DI t)[i]?=some k.down:=by unfold DI;rw[aM,hk];rfl
 obtain⟨h3,e3⟩:=List.getElem?_eq_some_iff.1 hd;unfold PP;rw[aT h1,aT h2,aT h3,e1,e2,e3];rfl
theorem N1 {t:Sy} {a b:List Val} {i:Nat} (h:t.keys.length<=i):PP t a b i=0:=by
 unfold PP;rw[j0 (by unfold DI;rw[bS];exact h)];unfold nA;rfl
theorem a2r {x y:Val}:IntKind.i64.wrap (0 - o7 x y)= - o7 x y:=by
 rcases SY x y with h|h|h<;>rw[h]<;>rfl
theorem JF {c:Int} (h:c= -1∨c=0∨c=1):lG c 0=c:=by
 rcases h with rfl|rfl|rfl<;>rfl
theorem U0 [MaxL] (t:Sy) (ht:t.keys.length<=1000) (a b:List Val) (ha:a.length=t.keys.length) (hb:b.length=t.keys.length) (hs:∀v∈a,v.s.length<bB) (hs':∀v∈b,v.s.length<bB):
  SC Tryz.prog 111 [zT t,.sl .none (hZ a),.sl .none (hZ b)] [] (.val (.i .i64 (nA (DI t) a b))) []:=by
 have hlen:=j5 t.keys;refine cY Tryz.func111 rfl ?_;conv=>whnf
 refine cW 1 t.keys.length (fun i _=>PP t a b i=nA (DI t) a b) (fun i _=>[(1,.sl .none (hZ a)),(2,.sl .none (hZ b)),(3,.ptr 0 0),(7,.i .i64 (i:Nat))]) (fun _ (_:Unit)=>[.box 39 (M5 t)]) [] () rfl (fun i _ φ0 hi ho=>?_);conv=>whnf
 refine aE (fun h=>?_) (fun h=>?_)<;>conv=>whnf
 rotate_left
 ·rw[<-ho,N1 (by have:=aC h;rw[hlen] at this;omega)];exact dB 0
 have hlt:i<t.keys.length:=by have:=aB h;rw[hlen] at this;omega
 refine(gV hlt).elim fun k hk=>?_;refine(gV (ha▸hlt:i<a.length)).elim fun x hx=>?_;refine(gV (hb▸hlt:i<b.length)).elim fun y hy=>?_;have hv:=FM x y (hs x (aL hx)) (hs' y (aL hy));have hstep:=RX hk hx hy;have hin:=KJ k.down x y;rw[ho] at hstep;refine aZ (by kernel_rfl) ?_;conv=>whnf
 refine ix (cI hx) ⟨rfl,?_⟩;conv=>whnf
 refine ix (cI hy) ⟨rfl,?_⟩;conv=>whnf
 refine cP hv ?_;conv=>whnf
 refine ix (cI hk) ⟨rfl,?_⟩;conv=>whnf
 unfold m9 at hstep;refine aE (fun h=>?_) (fun h=>?_)<;>conv=>whnf
 ·rw[show k.down=true from h,show zD true x y=IntKind.i64.wrap (0 - o7 x y) from a2r.symm] at hstep;refine aE (fun h=>?_) (fun h=>?_)<;>conv=>whnf
  ·rw[aF (by simpa using h)] at hstep;rw[hstep];exact dB 0
  ·rw[aD (by simpa using h)] at hstep;exact nx () hlt ⟨hlt,hstep.symm⟩
 ·rw[show k.down=false from h,show zD false x y=o7 x y from rfl] at hstep;refine aE (fun h=>?_) (fun h=>?_)<;>conv=>whnf
  ·rw[aF (by simpa using h)] at hstep;rw[hstep];exact dB 0
  ·rw[aD (by simpa using h)] at hstep;exact nx () hlt ⟨hlt,hstep.symm⟩
theorem SZ {s:Sch} {n:By} {a b:List Val} {t:Sy} {i e:Int} (h:kS s n=(t,i,e)) (he:e≠0):vQ s n a b=(0,e):=by
 unfold vQ;rw[h];exact aD (by simpa using he)
theorem OD {s:Sch} {n:By} {a b:List Val} {t:Sy} {i:Int} (h:kS s n=(t,i,0)):vQ s n a b=if t.order==5 then(if a.length==t.keys.length&&b.length==t.keys.length then(nA (DI t) a b,0) else(0,11)) else(0,10):=by
 unfold vQ;rw[h];rfl
theorem EL {a b:List Val} {t:Sy} {x y:Int×Int} (h:a.length≠t.keys.length∨b.length≠t.keys.length):(if a.length==t.keys.length&&b.length==t.keys.length then x else y)=y:=aD (by
 rw[aH,cT,cT];exact fun q=>h.elim (fun h=>h q.1) (fun h=>h q.2))
theorem MM [MaxL] (s:Sch) (hz:mA s) (hs:P6 s) (hc:∀r∈s.rc,r.check.length<1000000) (n:By) (a b:List Val) (hsa:∀v∈a,v.s.length<bB) (hsb:∀v∈b,v.s.length<bB):SC Tryz.prog 47 [nO s,.s n,.sl .none (hZ a),.sl .none (hZ b)] [] (.val (.tup [.i .i64 (vQ s n a b).1,.i .i64 (vQ s n a b).2])) []:=by
 have hS:=a0z s hz hc n;generalize hX:vQ s n a b=X;generalize hR:kS s n=R at hS;obtain⟨t,i,e⟩:=R;have hlen:=j5 t.keys;have la:=kA a;have lb:=kA b;refine cY Tryz.func47 rfl ?_;conv=>whnf
 refine cP hS ?_;conv=>whnf
 refine st ?_;conv=>whnf
 refine aE (fun h=>?_) (fun h=>?_)<;>conv=>whnf
 ·rw[<-hX,SZ hR (by simpa using h)];exact dB 0
 have h0:e=0:=by simpa using h
 subst h0;rw[OD hR] at hX;refine aE (fun h=>?_) (fun h=>?_)<;>conv=>whnf
 ·rw[aD (by simpa using h)] at hX;rw[<-hX];exact dB 0
 rw[aF (by simpa using h)] at hX;refine aE (fun h=>?_) (fun h=>?_)<;>rw[la,hlen] at h<;>conv=>whnf
 ·rw[EL (.inl (by simp at h;omega))] at hX;rw[<-hX];exact dB 0
 have ha:a.length=t.keys.length:=by simp at h;omega
 refine aE (fun h=>?_) (fun h=>?_)<;>rw[lb,hlen] at h<;>conv=>whnf
 ·rw[EL (.inr (by simp at h;omega))] at hX;rw[<-hX];exact dB 0
 have hb:b.length=t.keys.length:=by simp at h;omega
 rw[aF (by rw[ha,hb];simp)] at hX;refine cP (U0 t (hs t (uW hR).2.1).2.1 a b ha hb hsa hsb) ?_;conv=>whnf
 rw[<-hX];exact dB 0
set_option maxHeartbeats 2000000 in
theorem s9 [MaxL] (s:Sch) (hz:mA s) (hs:P6 s) (n:By) (a b:List Val):SC Tryz.prog 46 [nO s,.s n,.sl .none (hZ a),.sl .none (hZ b)] [] (.val (.tup [.i .i64 (vQ s n a b).1,.i .i64 (vQ s n a b).2])) []:=by
 have hS:=a0v s hz hs n;generalize hX:vQ s n a b=X;generalize hR:kS s n=R at hS;obtain⟨t,i,e⟩:=R;have hlen:=j5 t.keys;have la:=kA a;have lb:=kA b;refine cY Tryz.func46 rfl ?_;conv=>whnf
 refine cP hS ?_;conv=>whnf
 refine st ?_;conv=>whnf
 refine aE (fun h=>?_) (fun h=>?_)<;>conv=>whnf
 ·rw[<-hX,SZ hR (by simpa using h)];exact dB 0
 have h0:e=0:=by simpa using h
 subst h0;rw[OD hR] at hX;refine aE (fun h=>?_) (fun h=>?_)<;>conv=>whnf
 ·rw[aD (by simpa using h)] at hX;rw[<-hX];exact dB 0
 rw[aF (by simpa using h)] at hX;refine aE (fun h=>?_) (fun h=>?_)<;>rw[la,hlen] at h<;>conv=>whnf
 ·rw[EL (.inl (by simp at h;omega))] at hX;rw[<-hX];exact dB 0
 have ha:a.length=t.keys.length:=by simp at h;omega
 refine aE (fun h=>?_) (fun h=>?_)<;>rw[lb,hlen] at h<;>conv=>whnf
 ·rw[EL (.inr (by simp at h;omega))] at hX;rw[<-hX];exact dB 0
 have hb:b.length=t.keys.length:=by simp at h;omega
 rw[aF (by rw[ha,hb];simp)] at hX;subst hX;have hkl:=(hs t (uW hR).2.1).2.1;refine cW 2 t.keys.length (fun i _=>PP t a b i=nA (DI t) a b) (fun i _=>[(2,.sl .none (hZ a)),(3,.sl .none (hZ b)),(47,.sl .none (rZ t.keys)),(48,.i .i64 (t.keys.length:Nat)),(49,.i .i64 (i:Nat))]) (fun _ (_:Unit)=>[.box 26 (sQ s),.box 39 (M5 t)]) [] () rfl (fun i _ φ0 hi ho=>?_) (hφ:=⟨rfl,rfl,rfl,by rw[<-hlen];rfl,rfl,trivial⟩);conv=>whnf
 refine aE (fun h=>?_) (fun h=>?_)<;>conv=>whnf
 rotate_left
 ·rw[<-ho,N1 (by have:=aC h;omega)];exact dB 0
 have hlt:i<t.keys.length:=by have:=aB h;omega
 refine(gV hlt).elim fun k hk=>?_;refine(gV (ha▸hlt:i<a.length)).elim fun x hx=>?_;refine(gV (hb▸hlt:i<b.length)).elim fun y hy=>?_;have hv:=QZ x y;have hstep:=RX hk hx hy;have hin:=KJ k.down x y;rw[ho] at hstep;refine ix (cI hk) ⟨rfl,?_⟩;conv=>whnf
 refine st ?_;conv=>whnf
 refine aZ (by kernel_rfl) ?_;conv=>whnf
 refine ix (cI hx) ⟨rfl,?_⟩;conv=>whnf
 refine ix (cI hy) ⟨rfl,?_⟩;conv=>whnf
 refine cP hv ?_;conv=>whnf
 unfold m9 at hstep;refine aE (fun h=>?_) (fun h=>?_)<;>conv=>whnf
 ·rw[show k.down=true from h,show zD true x y=IntKind.i64.wrap (0 - o7 x y) from a2r.symm] at hstep hin;refine aE (fun h=>?_) (fun h=>?_)<;>conv=>whnf
  ·rw[aF (by simpa using h)] at hstep;refine cP (LO _ 0) ?_;(conv=>whnf);rw[hstep,JF hin];exact dB 0
  ·rw[aD (by simpa using h)] at hstep;exact nx () hlt ⟨hlt,hstep.symm⟩
 ·rw[show k.down=false from h,show zD false x y=o7 x y from rfl] at hstep hin;refine aE (fun h=>?_) (fun h=>?_)<;>conv=>whnf
  ·rw[aF (by simpa using h)] at hstep;refine cP (LO _ 0) ?_;(conv=>whnf);rw[hstep,JF hin];exact dB 0
  ·rw[aD (by simpa using h)] at hstep;exact nx () hlt ⟨hlt,hstep.symm⟩
variable [Globals]
theorem EnvSound.of {P:Program} {w0:World} {M:FuncId->Bool} {Γ:R2} (h:∀k f,Γ k=some f->∀args σ r σ',f args σ=some (r,σ')->Fact P (.fn k) args σ r σ'/\(M k=true->σ'=σ)):EnvSound P w0 M Γ:=by
 refine⟨fun t args σ r σ' he=>?_,fun k hk args σ r σ' he=>?_⟩
 ·cases t with
  |yld q=>cases he
  |fn k=>
   simp only[AU] at he;cases hg:Γ k with
   |none=>rw[hg] at he;cases he
   |some f=>
    rw[hg] at he;obtain⟨hf,_⟩:=h k f hg args σ r σ' he;exact⟨hf.keep,hf.ds,fun C w vs hr hv=>hf.calls w0 C w vs hr hv⟩
 ·simp only[AU] at he;cases hg:Γ k with
  |none=>rw[hg] at he;cases he
  |some f=>
   rw[hg] at he;exact(h k f hg args σ r σ' he).2 hk
theorem SC.factNil {P:Program} {k:FuncId} {args args':List GV} {r:GRes} {σ:GS} (h:SC P k args [] r []) (ha:ClL args) (hr:∀e,r.ren e=r) (hw:Wks args' args):Fact P (.fn k) args' σ r σ:=by
 have hf:=h.fact (σ:={σ with lo:=0}) (args':=args') [] Lies.nil rfl (by rw[ha];exact hw);rw[hr] at hf;simp only[CV] at hf;exact⟨Keep.refl _,rfl,fun w0 C w vs hR hv=>(hf.calls w0 C w vs ⟨hR.below,hR.fxc,hR.obj,hR.dom,hR.new,hR.inj,hR.sepB,hR.sepO,hR.fxn,hR.gl,hR.gs⟩ hv).mono fun e w' ⟨D,h1,h2,h3⟩=>⟨D,h1,⟨h2.below,h2.fxc,h2.obj,h2.dom,h2.new,h2.inj,h2.sepB,h2.sepO,h2.fxn,h2.gl,h2.gs⟩,h3⟩⟩
theorem SC.of_gcall {P:Program} (hm:P.follows .mixedOrders=true) {M:FuncId->Bool} {Γ:R2} (hΓ:∀w0,EnvSound P w0 M Γ) {m:Nat} {k:FuncId} {args:List GV} {r:GRes}
  (h:(DF P M Γ m (.fn k) args ⟨[],0,[]⟩).map (·.1)=some r) (hr:∀e,r.ren e=r):SC P k args [] r []:=by
 obtain⟨⟨r1,σ'⟩,h1,rfl⟩:=Option.map_eq_some_iff.1 h;refine⟨rL _,fun C w vs hR hv=>?_,fun x hx=>by cases hx⟩;refine Calls.mono (((DE (w0:=w) hm (hΓ w) m).1 (.fn k) args _ _ _ h1).2.2 C w vs hR hv) ?_;rintro e w' ⟨D,hl,hrD,he⟩;refine⟨D.pull (jN [] σ'.objs.length),?_,hrD.pull Lies.nil,?_⟩
 ·refine⟨hl.fx,fun i b hb=>?_,fun i I hI=>?_,hl.hd,hl.fix⟩
  ·rw[(hR.dom i (zL _)).1] at hb;cases hb
  ·rw[(hR.dom i (zL _)).2] at hI;cases hI
 ·have he2:ERel D (r1.ren (jN [] σ'.objs.length)) e:=by rw[hr];exact he
  exact he2.pull (D:=D) (f:=jN [] σ'.objs.length) (E:=D.pull (jN [] σ'.objs.length)) (fun _ _ _ h=>h) (fun _=>rfl) (fun _=>rfl)
end Go.Proofs.YtcfgfkkhpdlhpaaGreatDoor
namespace Go.Proofs.YtcfgfkkhpdlhpaaGreatDoor
open Go.RowKit Go.Sort
theorem BY [MaxL] {C:Cx} {w:World} (hr:Rel C ⟨[],0,[]⟩ w w):w.cell? ⟨0,0,none⟩=some (.int .i64 MaxL.m):=by
 obtain⟨u,h1,h2⟩:=hr.gl 0 [.i .i64 MaxL.m] 0 (.i .i64 MaxL.m) rfl rfl;have:=h2 C (fun _ _ _ h=>h);cases this;exact hr.fxc _ _ _ h1
theorem M0 [MaxL] {C:Cx} {a b:List UInt8} {l:List GV} {vs:Array Value} (hv:VRs C (.s a::.s b::l) vs.toList):∃us,vs.toList=.string ⟨a.toArray⟩::.string ⟨b.toArray⟩::us/\VRs C l us:=by
 obtain⟨u,vs',e,hv1,hv2⟩:=hv.cons_inv;obtain⟨u2,vs2,e2,hv3,hv4⟩:=hv2.cons_inv;cases hv1;cases hv3;exact⟨vs2,by rw[e,e2],hv4⟩
theorem HF [MaxL] {C:Cx} {us:List Value} (hv:VRs C [] us):us=[]:=aN (by simpa using hv.1)
theorem YX [MaxL] (s l7:List UInt8) (hs:s.length<4000000000):SC Tryz.prog 195 [.s s,.s l7] [] (.val (.i .i64 (Lib.index s l7))) []:=by
 refine SC.of_calls fun C w vs hr hv=>?_;obtain⟨us,e,hu⟩:=M0 hv;obtain rfl:=HF hu;obtain rfl:vs= #[_,_]:=by rw[<-fI (xs:=vs),e]
 refine(Tryz.stringslite_Index ⟨s.toArray⟩ ⟨l7.toArray⟩ _ w (by simp[ByteArray.size];omega) (BY hr)).mono ?_;rintro e w' ⟨rfl,rfl⟩;exact⟨_,rfl,.refl _ _,.i _ _⟩
theorem SC.of_row [MaxL] {P:Program} {k:FuncId} {args:List GV} {xs:List (List UInt8)}
  (h:∀(C:Cx) (w:World) (vs:Array Value),Rel C ⟨[],0,[]⟩ w w->VRs C args vs.toList->∃(cs:Array Value) (T:TypeId) (c:Nat),xs.length<=c/\(∀(i:Nat) x,xs[i]?=some x->cs[i]?=some (.string ⟨x.toArray⟩))/\
   Calls P k vs w fun e w'=>e=.returned (.slice (some ⟨w.heap.size,0,none⟩) xs.length c)/\w'=w.alloc (.cells cs T)):SC P k args [] (.val (.sl .none (xs.map .s))) []:=by
 refine⟨rL _,fun C w vs hr hv=>?_,fun x hx=>by simp at hx⟩;obtain⟨cs,T,c,hc,hx,hcall⟩:=h C w vs hr hv;refine hcall.mono ?_;rintro e w' ⟨rfl,rfl⟩;obtain⟨D,hl,hF,hr'⟩:=hr.addFx (w':=w.alloc (.cells cs T)) rfl rfl rfl (by simp) (fun k hk=>by show(w.heap.push _)[k]?=_;rw[Array.getElem?_push_lt hk,aR hk]) (fun b o v=>b=w.heap.size/\cs[o]?=some v) (fun b o v hb=>by
  obtain⟨rfl,hb⟩:=hb;exact⟨rL _,by rw[World.cell?_alloc_new];simpa using hb⟩)
 refine⟨D,hl,hr',_,rfl,.sl 1 w.heap.size 0 (fun j=>(cs[j]?).getD (.bool false)) (by simp) hc (.inr (.inl rfl)) (fun x hx=>?_) (fun i x j g h1 h2=>?_) (fun i x j g h1 h2=>?_) trivial⟩
 ·obtain⟨b,_,rfl⟩:=List.mem_map.1 hx;rfl
 all_goals
  rw[aM,aI] at h1;obtain⟨b,hb,rfl⟩:=h1;cases j with
  |succ j=>cases h2
  |zero=>
  cases h2;have hi:(cs[i*1+0]?).getD (.bool false)=.string ⟨b.toArray⟩:=by simp[hx i b hb]
  first
   |exact hF _ _ _ ⟨rfl,by simp[hx i b hb]⟩
   |(rw[hi];exact .s _)
theorem YV [MaxL] (s l7:List UInt8) (n:Nat) (hs:s.length<4000000000) (h1:1<=l7.length) (hn:1<=n) (hn2:n<=4000000000):SC Tryz.prog 199 [.s s,.s l7,.i .i64 (n:Nat)] [] (.val (.sl .none ((Lib.splitK l7 0 (min n (s.length+1) - 1) s).map .s))) []:=by
 have hd:=Lib.splitB_data ⟨l7.toArray⟩ 0 (min n (s.length+1) - 1) ⟨s.toArray⟩;simp only at hd;refine SC.of_row fun C w vs hr hv=>?_;obtain⟨us,e,hu⟩:=M0 hv;obtain⟨u,us',e2,hu1,hu2⟩:=hu.cons_inv;obtain rfl:=HF hu2;cases hu1;subst e2;obtain rfl:vs= #[_,_,_]:=by rw[<-fI (xs:=vs),e]
 have hlen:=Lib.splitB_length_le ⟨l7.toArray⟩ 0 (min n (s.length+1) - 1) ⟨s.toArray⟩;have hsz:(⟨s.toArray⟩:ByteArray).size=s.length:=by simp[ByteArray.size]
 have hc:=Tryz.strings_SplitN ⟨s.toArray⟩ ⟨l7.toArray⟩ n _ w (by rw[hsz];omega) (BY hr) (by simpa[ByteArray.size] using h1) hn (by omega);rw[hsz] at hc;rw[<-hd];refine⟨_,_,min n (s.length+1),by rw[bS];omega,fun i x hx=>?_,by rw[bS];exact hc⟩;rw[aM,aI] at hx;obtain⟨b,hb,rfl⟩:=hx;have hi:=(List.getElem?_eq_some_iff.1 hb).1;simp only[Lib.cellsOf,List.getElem?_toArray];rw[aV (by simpa using hi),aM,hb];simp
theorem a0o [MaxL] (s l7:List UInt8) (hs:s.length<4000000000) (h1:1<=l7.length):SC Tryz.prog 247 [.s s,.s l7] [] (.val (.sl .none ((Lib.split s l7).map .s))) []:=by
 have hd:(Lib.splitB ⟨l7.toArray⟩ 0 (Lib.countB ⟨s.toArray⟩ ⟨l7.toArray⟩) ⟨s.toArray⟩).map (·.data.toList)=Lib.split s l7:=Lib.splitB_data _ 0 _ _;refine SC.of_row fun C w vs hr hv=>?_;obtain⟨us,e,hu⟩:=M0 hv;obtain rfl:=HF hu;obtain rfl:vs= #[_,_]:=by rw[<-fI (xs:=vs),e]
 have hz:1<=(⟨l7.toArray⟩:ByteArray).size:=by simpa[ByteArray.size] using h1
 have hlen:=Lib.splitB_all ⟨l7.toArray⟩ hz 0 _ ⟨s.toArray⟩ rfl;have hc:=Tryz.strings_Split ⟨s.toArray⟩ ⟨l7.toArray⟩ _ w (by simp[ByteArray.size];omega) (BY hr) hz;rw[<-hd];refine⟨_,_,_,rL _,fun i x hx=>?_,by rw[bS,hlen];exact hc⟩;rw[aM,aI] at hx;obtain⟨b,hb,rfl⟩:=hx;rw[List.getElem?_toArray,aM,hb];simp
theorem YA [MaxL] {σ:GS} {r:Nat} (hlo:σ.lo=0) (ho:σ.objs[r]?=some (.box 92 [.o (.pointer none),.sl .full []])):
  Fact Tryz.prog (.fn 132) [.ptr r 0] σ (.val (.tup [])) (gset σ r (.box 92 [.ptr r 0,.sl .full []])):=by
 refine⟨.gset σ _ (by omega) ho (by simp),rfl,fun w0 C w vs hr hv=>?_⟩;show Calls _ _ _ _ _;obtain⟨v,rfl,hv1⟩:=hv.arr1;obtain⟨h0,b,cs,hb,ho',hcs⟩:=hr.obj r _ ho;obtain⟨u,u',rfl,hu,hu'⟩:=(BoxV.exact hcs rfl).arr2;cases hv1 with
 |ptr hb'=>
 rw[hb] at hb';cases hb';cases hu;have hc0:w.cell? ⟨b,0,none⟩=some (.pointer none):=by simp[World.cell?,ho']
 refine(Any.Builder_copyCheck_fresh EB Tryz.Builder_Extra_156.toX72 b w hc0 (M8 ho') (by simp[World.frozen?,ho'])).mono ?_;rintro e w' ⟨rfl,rfl⟩;refine⟨C,.refl C,Rel.setObj (r:=r) (b:=b) hr (List.getElem?_eq_some_iff.1 ho).1 hb _ ⟨h0,b,_,hb,heap_setCell_same w b 0 _ _ _ ho',?_⟩ rfl rfl rfl (by simp[World.setCell]) (fun k hk=>heap_setCell_other w _ k _ hk),_,rfl,.unit⟩;exact VRs.box (.cons (.ptr hb) (.cons hu' .nil))
theorem a0N [MaxL] {σ:GS} {r:Nat} {x:GV} (ho:σ.objs[r]?=some (.box 92 [.ptr r 0,x])):
  Fact Tryz.prog (.fn 132) [.ptr r 0] σ (.val (.tup [])) σ:=by
 refine⟨.refl σ,rfl,fun w0 C w vs hr hv=>?_⟩;show Calls _ _ _ _ _;obtain⟨v,rfl,hv1⟩:=hv.arr1;obtain⟨h0,b,cs,hb,ho',hcs⟩:=hr.obj r _ ho;obtain⟨u,u',rfl,hu,hu'⟩:=(BoxV.exact hcs rfl).arr2;cases hv1 with
 |ptr hb'=>
 rw[hb] at hb';cases hb';cases hu with
 |ptr hb'=>
 rw[hb] at hb';cases hb';have hc0:w.cell? ⟨b,0,none⟩=some (.pointer (some ⟨b,0,none⟩)):=by simp[World.cell?,ho']
 refine(Any.Builder_copyCheck_used EB Tryz.Builder_Extra_156.toX72 b w hc0).mono ?_;rintro e w' ⟨rfl,rfl⟩;exact⟨C,.refl C,hr,_,rfl,.unit⟩
def gcc (args:List GV) (σ:GS):Option (GRes×GS):=
 match args with
 |[.ptr r 0]=>match σ.objs[r]? with
  |some (.box t [.o (.pointer none),.sl .full []])=>if σ.lo=0/\t=92 then some (.val (.tup []),gset σ r (.box t [.ptr r 0,.sl .full []])) else none
  |some (.box t [.ptr q 0,x])=>if q=r/\t=92 then some (.val (.tup []),σ) else none
  |_=>none
 |_=>none
theorem Y7 [MaxL] {args:List GV} {σ σ':GS} {r:GRes} (h:gcc args σ=some (r,σ')):Fact Tryz.prog (.fn 132) args σ r σ':=by
 unfold gcc at h;split at h
 ·split at h
  ·rename_i ho;split at h
   ·rename_i hc;obtain⟨h1,rfl⟩:=hc;cases h;exact YA h1 ho
   ·cases h
  ·rename_i ho;split at h
   ·rename_i hc;obtain⟨rfl,rfl⟩:=hc;cases h;exact a0N ho
   ·cases h
  ·cases h
 ·cases h
def gix (args:List GV) (σ:GS):Option (GRes×GS):=
 match args with
 |[.s a,.s b]=>if a.length<4000000000 then some (.val (.i .i64 (Lib.index a b)),σ) else none
 |_=>none
def gsn (args:List GV) (σ:GS):Option (GRes×GS):=
 match args with
 |[.s a,.s b,.i .i64 (.ofNat n)]=>if a.length<4000000000/\1<=b.length/\1<=n/\n<=4000000000 then some (.val (.sl .none ((Lib.splitK b 0 (min n (a.length+1) - 1) a).map .s)),σ) else none
 |_=>none
def gsp (args:List GV) (σ:GS):Option (GRes×GS):=
 match args with
 |[.s a,.s b]=>if a.length<4000000000/\1<=b.length then some (.val (.sl .none ((Lib.split a b).map .s)),σ) else none
 |_=>none
def a33:R2:=fun k=>if k=132 then some gcc else if k=195 then some gix else if k=199 then some gsn else if k=247 then some gsp else none
theorem a0P [MaxL] (w0:World):EnvSound Tryz.prog w0 (fun _=>false) a33:=.of fun k f hf args σ r σ' h=>⟨(by
 unfold a33 at hf;split at hf
 ·rename_i hk;cases hf;subst hk;exact Y7 h
 ·split at hf
  ·rename_i hk;cases hf;subst hk;unfold gix at h;split at h
   ·split at h
    ·rename_i hl;cases h;exact SC.factNil (YX _ _ hl) (fun _=>rfl) (fun _=>rfl) (wR _)
    ·cases h
   ·cases h
  ·split at hf
   ·rename_i hk;cases hf;subst hk;unfold gsn at h;split at h
    ·split at h
     ·rename_i hl;cases h;exact SC.factNil (YV _ _ _ hl.1 hl.2.1 hl.2.2.1 hl.2.2.2) (fun _=>rfl) (fun e=>by show GRes.val (GV.ren e _)=_;rw[bT (gI (fun _=>Cl.s _) _)]) (wR _)
     ·cases h
    ·cases h
   ·split at hf
    ·rename_i hk;cases hf;subst hk;unfold gsp at h;split at h
     ·split at h
      ·rename_i hl;cases h;exact SC.factNil (a0o _ _ hl.1 hl.2) (fun _=>rfl) (fun e=>by show GRes.val (GV.ren e _)=_;rw[bT (gI (fun _=>Cl.s _) _)]) (wR _)
      ·cases h
     ·cases h
    ·cases hf),fun h9=>by cases h9⟩
theorem pZ [MaxL]:SC Tryz.prog 11 [] [] (.val (.b true)) []:=SC.of_gcall mixed a0P (m:=40) (by kernel_rfl) (fun _=>rfl)
end Go.Proofs.YtcfgfkkhpdlhpaaGreatDoor
namespace Go.Proofs.YtcfgfkkhpdlhpaaGreatDoor
open Go.RowKit
theorem ZE {α:Type} {f:α->Nat} {l:List α} {x:α} (h:x∈l):f x<=(l.map f).sum:=by
 induction l with
 |nil=>cases h
 |cons y l ih=>
  rw[dV,List.sum_cons];rcases List.mem_cons.1 h with rfl|h
  ·omega
  ·have:=ih h;omega
theorem XQ {s:Sch} (h:wI s=true):mA s/\∀r∈s.rc,r.check.length<1000000:=by
 unfold wI at h;simp only[aH,dR,Bool.or_eq_false_iff,bC,aS,aK] at h;obtain⟨⟨⟨h1,h2⟩,h3⟩,h4,h5,h6⟩:=h;have hk:∀r∈s.rc,r.check.length<=6000:=fun r hr=>by
  have h7:VD r<=(s.rc.map VD).sum:=ZE hr;have h8:VD r=r.name.length+r.area.length+r.via.length+r.check.length:=rfl;omega
 refine⟨⟨⟨by unfold bB;omega,by unfold bB;omega,by unfold bB;omega⟩,fun r hr=>?_,fun t ht=>?_⟩,fun r hr=>by have:=hk r hr;omega⟩
 ·have h8:=h4 r hr;have h9:=hk r hr;unfold JW G3 sT at h8;simp only[aH,aK] at h8;unfold bB;exact⟨by have:=h8.1.2;omega,by have:=h8.2.2;omega,by omega⟩
 ·have h8:=h5 t ht;unfold zX sT at h8;simp only[aH,dR,Bool.or_eq_false_iff,bC,aS,aK] at h8;unfold bB;exact⟨by have:=h8.1.1;omega,by have:=h8.1.2;omega,fun m hm=>by have:=(h8.2 m hm).2;omega⟩
end Go.Proofs.YtcfgfkkhpdlhpaaGreatDoor
namespace Go.Proofs.YtcfgfkkhpdlhpaaGreatDoor
open Go.RowKit
theorem UE {s:Sch} (h:wI s=true):P6 s/\s.st.length<=1000:=by
 unfold wI at h;simp only[aH,dR,Bool.or_eq_false_iff,bC,aS,aK] at h;obtain⟨⟨⟨h1,h2⟩,h3⟩,h4,h5,h6⟩:=h;refine⟨fun t ht=>?_,by omega⟩;have h8:=h5 t ht;unfold zX sT at h8;simp only[aH,dR,Bool.or_eq_false_iff,bC,aS,aK] at h8;exact⟨by have:=h8.1.1;omega,by have:=h8.1.2;omega,fun m hm=>by have:=(h8.2 m hm).2;omega⟩
end Go.Proofs.YtcfgfkkhpdlhpaaGreatDoor
namespace Go.Proofs.YtcfgfkkhpdlhpaaGreatDoor
open Go.RowKit
instance [MaxL] {L:List (List Val)}:KL (A3 L):=⟨WL L⟩
theorem WM {row:List Val} (h:[row].all BM=true):row.length<bB/\∀v∈row,v.s.length<bB:=by
 simp only[iX,List.all_nil,Bool.and_true] at h;refine⟨a1c h,?_⟩;simp only[BM,aH,aS,aK] at h;unfold bB;exact fun v hv=>by have:=h.2 v hv;omega
