/- Part of ViewWrong. -/
import Derived.Test.YtimgfjldcdhejaaGreatDoorK32
set_option linter.all false
set_option maxRecDepth 100000
namespace Go.Proofs.YtimgfjldcdhejaaGreatDoor
open Go.RowKit
structure GoodS (s:Sch):Prop where
 ms:∀t∈s.st,t.ms≠[]/\t.ms.length<1000/\∀m∈t.ms,m.sel.length<=1000000
 keys:∀r∈s.rc,r.keys.length<=1000000
 none:(bS s []).keys=[]
theorem BZ {s:Sch} {v:Vw} (hv:wD v) (hg:∀r∈v.recs,GoodV s r) (n:By):(sX v n).items.length<b9/\((sX v n).items.map (·.2)).Nodup/\∀x k,cW (sX v n) k=some x->x≠[]:=by
 rcases qH v n with⟨i,_,h2,_⟩|⟨_,h2,_⟩
 ·have hm:=aE h2;refine⟨(hv.2.2 _ hm).1,(hg _ hm).ofs,fun x k hk e=>?_⟩;unfold cW at hk;obtain⟨p,hp,rfl⟩:=Option.map_eq_some_iff.1 hk;have:=(hg _ hm).names p (List.mem_of_find?_eq_some hp);rw[e] at this;cases this
 ·rw[h2];exact⟨by decide,List.nodup_nil,fun x k hk=>by cases hk⟩
theorem TZ {v:Vw} {n:By} (k:By) (h:(kJ v n).isSome=true):NP v n k=cW (sX v n) k:=by
 obtain⟨r,hr⟩:=Option.isSome_iff_exists.1 h;unfold NP sX;rw[hr];rfl
theorem a0j {v:Vw} {t:Sy} {j:Nat} {m:Mb} (h:(CV v t)[j]?=some m):(kJ v m.of).isSome=true:=(List.mem_filter.1 (aE h)).2
theorem a0k {v:Vw} {k:By} {l:List Mb} {j:Nat} {f:Option By} (h:l.length<=j):rH v k (l.drop j) f=true:=by
 rw[eP h];rfl
theorem NQ {v:Vw} {k:By} {l:List Mb} {j:Nat} {m:Mb} {f:Option By} (h:l[j]?=some m) (hs:(kJ v m.of).isSome=true):
  rH v k (l.drop j) f=match cW (sX v m.of) k with
   |none=>false
   |some n=>(match f with|none=>true|some x=>n==x)&&rH v k (l.drop (j+1)) (some n):=by
 obtain⟨hj,e⟩:=List.getElem?_eq_some_iff.1 h;rw[b8 hj,e];show(match NP v m.of k with|none=>false|some n=>(match f with|none=>true|some x=>n==x)&&rH v k (l.drop (j+1)) (some n))=_;rw[TZ k hs]
theorem C1 {s:Sch} {v:Vw} {t:Sy} {k:Ky} (hk:k∈t.keys) (h:rH v k.item (CV v t) none=false):vJ s v t=false:=by
 unfold vJ;rw[show(t.keys.all fun k=>rH v k.item (CV v t) none)=false from List.all_eq_false.2 ⟨k,hk,by rw[h];simp⟩];rfl
theorem xM {s:Sch} {v:Vw} {t:Sy} {m:Mb} (hm:m∈CV v t) (h:zH s v t m=false):vJ s v t=false:=by
 unfold vJ;rw[show(CV v t).all (zH s v t)=false from List.all_eq_false.2 ⟨m,hm,by rw[h];simp⟩,iL]
theorem IC {s:Sch} {v:Vw} {t:Sy} (h1:∀k∈t.keys,rH v k.item (CV v t) none=true) (h2:∀m∈CV v t,zH s v t m=true):vJ s v t=true:=by
 unfold vJ;rw[List.all_eq_true.2 h1,List.all_eq_true.2 h2];rfl
def GY (r:VwR) (l:List By):Bool:=l.all fun n=>(cW r n).isSome
theorem WL {v:Vw} {n:By} {l:List By} (h:(kJ v n).isSome=true):(l.all fun k=>(NP v n k).isSome)=GY (sX v n) l:=by
 unfold GY;congr 1;funext k;rw[TZ k h]
theorem W8 {s:Sch} {v:Vw} {t:Sy} {m:Mb} (hm:(kJ v m.of).isSome=true) (ho:(kJ v t.owner).isSome=true∨(bS s t.owner).keys=[]):
  zH s v t m=(GY (sX v m.of) m.sel&&(m.sel.isEmpty||GY (sX v t.owner) (bS s t.owner).keys)):=by
 unfold zH;rw[WL hm];congr 2;rcases ho with h|h
 ·exact WL h
 ·rw[h];rfl
def a8N:FuncId->Bool:=fun k=>!(Nat.beq k 74||Nat.beq k 86||Nat.beq k 84||Nat.beq k 83)
theorem IA [MaxL] {s:Sch} {v:Vw} (hv:wD v) (hg:∀r∈v.recs,GoodV s r) (n:By):SC Tryz.prog 86 [uQ (sX v n)] [] (.val (.mp 0)) [.mp (pS (sX v n).items)]:=W5 _ (BZ hv hg n).1 (BZ hv hg n).2.1
theorem SN [MaxL] {p:Mb->Bool} {ms:List Mb} {i:Nat} {y:Mb} (h:(ms.filter p)[i]?=some y):wZ Tryz.prog 69 (DT p ms) (0+((i:Nat):Int).toNat*4)=some (R8 y):=by
 obtain⟨h1,h2⟩:=HY (n:=4) (xs:=jB (ms.filter p)) (by decide) (JK _) (aY h);rw[bI,aL];unfold DT;show(if i*4+4<=(flat (jB (ms.filter p))++(List.replicate (ms.length - (ms.filter p).length) mbZ).flatten).length then some (GV.agg (((flat (jB (ms.filter p))++(List.replicate (ms.length - (ms.filter p).length) mbZ).flatten).drop (i*4)).take 4)) else none)=_;rw[aD (by rw[aG];omega),List.drop_append_of_le_length (by omega),List.take_append_of_le_length (by rw[d9];omega),h1];rfl
theorem AP {α:Type} {P:α->Prop} {l:List α} {a:Nat} {k:α} (hk:l[a]?=some k) (h:P k) (hok:∀j z,j<a->l[j]?=some z->P z):∀j z,j<a+1->l[j]?=some z->P z:=fun j z hj hz=>by
 rcases Nat.lt_or_eq_of_le (Nat.le_of_lt_succ hj) with h1|rfl
 ·exact hok j z h1 hz
 ·rw[hk] at hz;cases hz;exact h
theorem a2W {f:Option By} (h:∀x,f=some x->x≠[]) (hn:(f.getD [] !=[])=false):f=none:=by
 cases f with
 |none=>rfl
 |some x=>exact absurd (by simpa using hn) (h x rfl)
theorem YS {v:Vw} {k:By} {l:List Mb} {j:Nat} {m:Mb} {f:Option By} (h:l[j]?=some m) (hs:(kJ v m.of).isSome=true) (hx:cW (sX v m.of) k=none):rH v k (l.drop j) f=false:=by rw[NQ h hs,hx]
theorem YR {v:Vw} {k x:By} {l:List Mb} {j:Nat} {m:Mb} {f:Option By} (h:l[j]?=some m) (hs:(kJ v m.of).isSome=true) (hx:cW (sX v m.of) k=some x) (hn:(f.getD [] !=[])=true):
  rH v k (l.drop j) f=((x==f.getD [])&&rH v k (l.drop (j+1)) (some x)):=by
 rw[NQ h hs,hx];cases f with
 |none=>cases hn
 |some y=>rfl
theorem TJ {v:Vw} {k x:By} {l:List Mb} {j:Nat} {m:Mb} {f:Option By} (h:l[j]?=some m) (hs:(kJ v m.of).isSome=true) (hx:cW (sX v m.of) k=some x) (hf:∀x,f=some x->x≠[]) (hn:(f.getD [] !=[])=false):
  rH v k (l.drop j) f=rH v k (l.drop (j+1)) (some x):=by
 rw[NQ h hs,hx,a2W hf hn];rfl
theorem a6J {b:Bool} (h:(!b)=false):b=true:=by cases b<;>first|rfl|cases h
theorem a3P [MaxL] {l:List Mb} (hl:l.length<1000) (h0:l≠[]):SC Tryz.prog 84 [.sl .none (jB l)] [] (.val (.rs 0 0 4 l.length 0)) [.box 69 (flat (jB l))]:=by
 cases l with
 |nil=>exact absurd rfl h0
 |cons x l=>exact a1B x l (Nat.lt_of_succ_lt hl)
set_option synthInstance.maxSize 4000 in
set_option maxHeartbeats 8000000 in
theorem a5T [MaxL] (s:Sch) (hz:kO s) (hgs:GoodS s) (v:Vw) (hv:wD v) (hgv:∀r∈v.recs,GoodV s r):SC Tryz.prog 37 [.ptr 0 0] (pP s v (bW s++vN v)) (z7 nF (oT s v).1 (oT s v).2) (oZ (oT s v).2 (pP s v (bW s++(vN v++TD v)))):=by
 obtain⟨⟨ha,hl,ht⟩,hr,hst⟩:=hz;have hv':=hv;obtain⟨v1,v2,v3⟩:=hv;have v2':=v2;unfold b9 at v2';have hlen:(nK v.sets).length=v.sets.length:=pK _;generalize hX:oT s v=X;obtain⟨xi,xe⟩:=X;unfold oT at hX;have hh:(oZ xe (pP s v (bW s++(vN v++TD v)))).all GObj.notHeld=true:=by unfold oZ;split<;>rfl
 have hs:(pP s v (bW s++vN v)).length<=(oZ xe (pP s v (bW s++(vN v++TD v)))).length:=by unfold oZ;split<;>exact rL _
 refine SC.of_gwpD 2 a8N mixed Tryz.func37 rfl (bL rfl) hs hh ?_;conv=>whnf
 apply gM<;>intro h<;>conv=>whnf
 ·have h9:v.sets.length>60:=by have:=aB h;omega
  rw[aD h9] at hX;exact uK hX (by decide)
 have h9:¬v.sets.length>60:=by have:=aA h;omega
 rw[aC h9] at hX;clear h h9;refine bE 3 v.sets.length (fun i _=>∀j z,j<i->v.sets[j]?=some z->uV s v j z=0) (fun i _=>[(1,.ptr 2 0),(40,.sl .none (nK v.sets)),(41,.i .i64 (nK v.sets).length),(42,.i .i64 (i:Nat))]) (fun i (_:Unit)=>KZ s v (bW s++(vN v++(TD v).take i))) [] () (fun j z h=>absurd h (bP j)) (fun i _ φ0 hi hok=>?_) (hσ:=by rw[List.take_zero,f5];rfl);conv=>whnf
 apply gM<;>intro h<;>conv=>whnf
 rotate_left
 ·have hie:i=v.sets.length:=by have:=aA h;omega
  rw[kC (Nat.le_of_eq hie.symm) hok] at hX;cases hX;have hm:(TD v).take i=TD v:=aW (by rw[hie];simp[TD]);show OwesD 2 _ _ (pP s v (bW s++(vN v++TD v))) _ _;exact .val (cQ 2 (ho:=aR (fun m=>pP s v (bW s++(vN v++m))) hm))
 have hlt:i<v.sets.length:=by have:=aB h;omega
 refine(d7 hlt).elim fun y hy=>?_;have bad0:∀{e:Int},uV s v i y=e->e≠0->((i,e):Nat×Int)=(xi,xe):=fun he h0=>by
  subst he;rw[kD hy h0 hok] at hX;exact hX
 have bad:∀{w:Bool} {e b:Int},uV s v i y=cX w e b->w=true->e≠0->((i,e):Nat×Int)=(xi,xe):=fun he h h0=>bad0 (he.trans (aU h)) h0;have hE:uV s v i y=gJ (bW s++(vN v++(TD v).take i)) y.1 (cX (!((sA s).contains y.2)) 5 (cX (((vSO v).take i).contains y.2) 6
  (cX ((sK s y.2).owner !=[]&&(kJ v (sK s y.2).owner).isNone) 14 (cX (CV v (sK s y.2)).isEmpty 11 (cX (!vJ s v (sK s y.2)) 10 0))))):=rfl
 rw[DC] at hE;have hm:KZ s v (bW s++(vN v++(TD v).take i)++[y.1])=KZ s v (bW s++(vN v++(TD v).take (i+1))):=by rw[bD,bD];exact aR (fun m=>KZ s v (bW s++(vN v++m))) (mW (fun p:By×By=>p.1) hy).symm
 generalize bW s++(vN v++(TD v).take i)=met at*;refine ix (aY hy) ⟨rfl,?_⟩;conv=>whnf
 refine st ?_;conv=>whnf
 refine st ?_;conv=>whnf
 by_cases hn:gJ met y.1 0=0;rotate_left
 ·rw[aC hn] at hE;refine cG [0,1] (Q4 (kd:=nF) (i:=i) hn) ?_;conv=>whnf
  exact uK (bad0 hE hn) hn
 rw[aD hn] at hE;refine cG [0,1] (Q3 (kd:=nF) (i:=i) hn) ?_;conv=>whnf
 refine cT [some 2,none,none,some 0,none,some 4,none,none,none,none,some 5,some 5,none] rfl rfl (by kernel_rfl) ?_;conv=>whnf
 have hset:=a7C s ht y.2;have htm:(sA s).contains y.2=true->sK s y.2∈s.st:=fun hc=>by
  rcases IS s y.2 with⟨j,_,h2,_⟩|⟨_,_,h3⟩
  ·exact aE h2
  ·rw[h3] at hc;cases hc
 generalize sK s y.2=t at*;refine cP hset ?_;conv=>whnf
 refine st ?_;conv=>whnf
 refine mN oU 3 5 (fun h=>?_) (fun h=>?_)<;>conv=>whnf
 ·exact uK (bad hE h (by decide)) (by decide)
 replace hE:=hE.trans (aZ h);have htin:=htm (by simpa using h);have hco:=a3N (v.sets.take i) (by unfold b9;rw[aS];omega) y;rw[show((vSO v).take i).contains y.2=(v.sets.take i).any fun x=>x.2==y.2 by unfold vSO;rw[<-eS,cE]] at hE;refine(fJ ((v.sets.take i).any fun x=>x.2==y.2)).elim (fun hc=>?_) (fun hc=>?_)<;>rw[hc] at hco
 ·refine GDraw.pan 10 _ rfl (by kernel_rfl) ?_;conv=>whnf
  refine TV (zs:=nK (v.sets.take i)) (a2E _) (by rw[hlen];omega) ?_ (eS ..).symm;conv=>whnf
  refine cS [4] hco ?_;conv=>whnf
  refine mN oU 3 6 (w:=true) (fun _=>?_) (fun h9=>nomatch h9);conv=>whnf
  exact uK (bad hE hc (by decide)) (by decide)
 replace hE:=hE.trans (aZ hc);refine lQ ?_;conv=>whnf
 refine TV (zs:=nK (v.sets.take i)) (a2E _) (by rw[hlen];omega) ?_ (eS ..).symm;conv=>whnf
 refine cS [4] hco ?_;conv=>whnf
 refine mN oU 3 6 (w:=false) (fun h9=>nomatch h9) (fun _=>?_);conv=>whnf
 refine cT [some 2,none,none,some 0,none,some 5,none,none,none,none,some 6,some 6,none] rfl rfl (by kernel_rfl) ?_;conv=>whnf
 refine cP (ED v v1 t.owner) ?_;conv=>whnf
 refine st ?_;conv=>whnf
 apply gM<;>intro ho<;>conv=>whnf
 focus
  refine mN oU 3 14 (fun h=>?_) (fun h=>?_)<;>conv=>whnf
  ·exact uK (bad hE (by rw[show(t.owner !=[])=true from ho,Bool.true_and];cases hq:kJ v t.owner<;>rw[hq] at h<;>first|rfl|cases h) (by decide)) (by decide)
  replace hE:=hE.trans (aZ (by cases hq:kJ v t.owner<;>rw[hq] at h<;>first|exact iL _|cases h));have hown:(kJ v t.owner).isSome=true∨(bS s t.owner).keys=[]:=.inl (by simpa using h)
 rotate_left;focus
  refine mN oU 3 14 (w:=false) (fun h9=>nomatch h9) (fun _=>?_);conv=>whnf
  have ho0:t.owner=[]:=by simpa using ho
  replace hE:=hE.trans (aZ (by rw[show(t.owner !=[])=false from ho];rfl));have hown:(kJ v t.owner).isSome=true∨(bS s t.owner).keys=[]:=.inr (by rw[ho0];exact hgs.none)
 all_goals
  obtain⟨g1,g2,g3⟩:=hgs.ms t htin;have hkL:=(hst t htin).2.1;unfold b9 at hkL;refine cN (a3P g2 g1) ?_;conv=>whnf
  refine cG [0,1,2,7] (a0h s v v1 (met++[y.1]) t.ms g2) ?_;conv=>whnf
  have hMl:(t.ms.filter (jD v)).length<1000:=Nat.lt_of_le_of_lt (eW _ _) g2;have hMd:CV v t=t.ms.filter (jD v):=rfl;refine mN oU 3 11 (fun h=>?_) (fun h=>?_)<;>conv=>whnf
  ·exact uK (bad hE (by rw[hMd];cases hq:t.ms.filter (jD v) with|nil=>rfl|cons a l=>rw[hq] at h;cases h) (by decide)) (by decide)
  replace hE:=hE.trans (aZ (by rw[hMd];cases hq:t.ms.filter (jD v) with|nil=>rw[hq] at h;cases h|cons a l=>rfl));have bad10:vJ s v t=false->((i,10):Nat×Int)=(xi,xe):=fun h=>bad hE (by rw[h];rfl) (by decide);refine bE 8 t.keys.length (fun a _=>∀j k,j<a->t.keys[j]?=some k->rH v k.item (CV v t) none=true) (fun a _=>[(1,.ptr 2 0),(2,.ptr 3 0),(3,.ptr 4 0),(4,.fn (.func 80) [] [.ptr 3 0]),(5,.ptr 5 0),(7,.ptr 6 0),(8,.rs 7 0 4 (t.ms.filter (jD v)).length 0),(40,.sl .none (nK v.sets)),(41,.i .i64 (nK v.sets).length),(42,.i .i64 (i:Nat)),(108,.sl .none (vX t.keys)),(109,.i .i64 (vX t.keys).length),(110,.i .i64 (a:Nat))])
   (fun a (_:Unit)=>KZ s v (met++[y.1])++[.box 3 [.i .i64 (i:Nat)],.box 77 [.s y.1,.s y.2],.box 67 (E8 t),.box 74 (rM (sX v t.owner)),.box 69 (DT (jD v) t.ms)]) [] () (fun j k h=>absurd h (bP j)) (fun a _ φ1 hal hok2=>?_)
  conv=>whnf
  apply gM<;>intro h<;>conv=>whnf
  ·have hlt2:a<t.keys.length:=by have:=aB h;rw[show(vX t.keys).length=t.keys.length from cL _ _] at this;omega
   refine(d7 hlt2).elim fun k hk=>?_;refine ix (aY hk) ⟨rfl,?_⟩;(conv=>whnf);refine st ?_;(conv=>whnf);refine bE 9 (t.ms.filter (jD v)).length (fun j (f:Option By)=>rH v k.item (CV v t) none=rH v k.item ((CV v t).drop j) f/\∀x,f=some x->x≠[]) (fun j (f:Option By)=>[(1,.ptr 2 0),(2,.ptr 3 0),(3,.ptr 4 0),(4,.fn (.func 80) [] [.ptr 3 0]),(5,.ptr 5 0),(7,.ptr 6 0),(8,.rs 7 0 4 (t.ms.filter (jD v)).length 0),(10,.ptr 8 0),(11,.s (f.getD [])),(40,.sl .none (nK v.sets)),(41,.i .i64 (nK v.sets).length),(42,.i .i64 (i:Nat)),(108,.sl .none (vX t.keys)),(109,.i .i64 (vX t.keys).length),(110,.i .i64 (a:Nat)),(114,.rs 7 0 4 (t.ms.filter (jD v)).length 0),(115,.i .i64 (t.ms.filter (jD v)).length),(116,.i .i64 (j:Nat))])
    (fun _ _=>KZ s v (met++[y.1])++[.box 3 [.i .i64 (i:Nat)],.box 77 [.s y.1,.s y.2],.box 67 (E8 t),.box 74 (rM (sX v t.owner)),.box 69 (DT (jD v) t.ms),.box 71 (kyC k)]) [] none ⟨by rw[List.drop_zero],fun x hx=>nomatch hx⟩ (fun j f φ2 hj hf=>?_)
   obtain⟨hf1,hf2⟩:=hf;(conv=>whnf);apply gM<;>intro h<;>conv=>whnf
   rotate_left
   ·have hje:(CV v t).length<=j:=by have:=aA h;rw[hMd];omega
    rw[a0k hje] at hf1;exact nx () hlt2 ⟨hlt2,AP (P:=fun k:Ky=>rH v k.item (CV v t) none=true) hk hf1 hok2⟩
   have hlt3:j<(t.ms.filter (jD v)).length:=by have:=aB h;omega
   refine(d7 hlt3).elim fun m hm3=>?_;have hms:(kJ v m.of).isSome=true:=a0j (v:=v) (t:=t) hm3;have hnm:=(BZ hv' hgv m.of).2.2;refine⟨⟨jR _,rfl,by omega⟩,?_⟩;(conv=>whnf);refine⟨R8 m,SN hm3,?_⟩;(conv=>whnf);refine st ?_;(conv=>whnf);refine cT [some 2,none,none,some 0,none,some 9,none,none,none,none,some 10,some 10,none] rfl rfl (by kernel_rfl) ?_;(conv=>whnf);refine cP (ED v v1 m.of) ?_;(conv=>whnf);refine st ?_;(conv=>whnf);have hcase:=Q5 (sX v m.of) k.item;have hund:=IA hv' hgv m.of;refine cT [some 10,none,none,some 8,some 18446744073709551616,none] rfl rfl (by kernel_rfl) ?_;(conv=>whnf);refine cN hund ?_;(conv=>whnf);rcases hcase with⟨x,kx,hx,hl9⟩|⟨hx,hl9⟩;rotate_left
   ·refine⟨none,hl9,?_⟩;(conv=>whnf);refine mN oU 3 10 (w:=true) (fun _=>?_) (fun h9=>nomatch h9);(conv=>whnf);exact uK (bad10 (C1 (aE hk) (hf1.trans (YS hm3 hms hx)))) (by decide)
   have hx0:=hnm x k.item hx;refine⟨some (kx,.s x),hl9,?_⟩;(conv=>whnf);refine gN (by simpa using hx0) ?_;(conv=>whnf);apply gM<;>intro h5<;>conv=>whnf
   ·have hstep:=YR hm3 hms hx h5;refine mN oU 3 10 (fun h6=>?_) (fun h6=>?_)<;>conv=>whnf
    ·exact uK (bad10 (C1 (aE hk) (hf1.trans (hstep.trans (by rw[LI h6];rfl))))) (by decide)
    ·exact nx (some x) hlt3 ⟨hlt3,hf1.trans (hstep.trans (by rw[show(x==f.getD [])=true by simpa using h6];rfl)),fun z hz=>by cases hz;exact hx0⟩
   ·refine mN oU 3 10 (w:=false) (fun h9=>nomatch h9) (fun _=>?_);(conv=>whnf);exact nx (some x) hlt3 ⟨hlt3,hf1.trans (TJ hm3 hms hx hf2 h5),fun z hz=>by cases hz;exact hx0⟩
  have hkeys:∀k∈t.keys,rH v k.item (CV v t) none=true:=fun k hk=>by
   obtain⟨j,hj⟩:=f9 hk;exact hok2 j k (by have:=aA h;rw[show(vX t.keys).length=t.keys.length from cL _ _] at this;have:=(List.getElem?_eq_some_iff.1 hj).1;omega) hj
  refine bE 8 (t.ms.filter (jD v)).length (fun j _=>∀b m,b<j->(t.ms.filter (jD v))[b]?=some m->zH s v t m=true) (fun j _=>[(1,.ptr 2 0),(2,.ptr 3 0),(3,.ptr 4 0),(4,.fn (.func 80) [] [.ptr 3 0]),(5,.ptr 5 0),(7,.ptr 6 0),(8,.rs 7 0 4 (t.ms.filter (jD v)).length 0),(40,.sl .none (nK v.sets)),(41,.i .i64 (nK v.sets).length),(42,.i .i64 (i:Nat)),(151,.rs 7 0 4 (t.ms.filter (jD v)).length 0),(152,.i .i64 (t.ms.filter (jD v)).length),(153,.i .i64 (j:Nat))])
   (fun _ (_:Unit)=>KZ s v (met++[y.1])++[.box 3 [.i .i64 (i:Nat)],.box 77 [.s y.1,.s y.2],.box 67 (E8 t),.box 74 (rM (sX v t.owner)),.box 69 (DT (jD v) t.ms)]) [] () (fun j k h=>absurd h (bP j)) (fun j _ φ2 hj hok3=>?_)
  conv=>whnf
  apply gM<;>intro h<;>conv=>whnf
  rotate_left
  ·have hsels:∀m∈CV v t,zH s v t m=true:=fun m hm9=>by
    obtain⟨b,hb⟩:=f9 hm9;exact hok3 b m (by have:=aA h;have:=(List.getElem?_eq_some_iff.1 hb).1;rw[hMd] at this;omega) hb
   exact nx () hlt ⟨hlt,iE hy (hE.trans (by rw[IC hkeys hsels];rfl)) hok⟩ hm
  have hlt3:j<(t.ms.filter (jD v)).length:=by have:=aB h;omega
  refine(d7 hlt3).elim fun m hm3=>?_;have hms:(kJ v m.of).isSome=true:=a0j (v:=v) (t:=t) hm3;have hsel:=W8 (s:=s) (t:=t) hms hown;have hmin:m∈CV v t:=aE hm3;refine⟨⟨jR _,rfl,by omega⟩,?_⟩;conv=>whnf
  refine⟨R8 m,SN hm3,?_⟩;conv=>whnf
  refine st ?_;conv=>whnf
  refine cT [some 2,none,none,some 0,none,some 8,none,none,none,none,some 9,some 9,none] rfl rfl (by kernel_rfl) ?_;conv=>whnf
  refine cP (ED v v1 m.of) ?_;conv=>whnf
  refine st ?_;conv=>whnf
  have hA1:=W6 (sX v m.of) m.sel (g3 m (List.mem_filter.1 (aE hm3)).1);have hA2:=W6 (sX v t.owner) (bS s t.owner).keys (by
   rcases nL s t.owner with⟨b,_,hb,_⟩|⟨_,hb,_⟩
   ·exact hgs.keys _ (aE hb)
   ·rw[hb];exact zL _)
  refine cT [none,some 8,some 9,none,none,none,none,none,none,none] rfl rfl (by kernel_rfl) ?_;conv=>whnf
  refine cN (IA hv' hgv m.of) ?_;conv=>whnf
  refine cS [10] hA1 ?_;conv=>whnf
  refine mN oU 3 10 (fun h5=>?_) (fun h5=>?_)<;>conv=>whnf
  ·exact uK (bad10 (xM hmin (hsel.trans (by rw[show GY (sX v m.of) m.sel=false from LI h5];rfl)))) (by decide)
  have h6:GY (sX v m.of) m.sel=true:=a6J h5;rw[h6,Bool.true_and] at hsel;apply gM<;>intro h7<;>conv=>whnf
  rotate_left
  ·have h8:m.sel.isEmpty=true:=by
    cases hq:m.sel with
    |nil=>rfl
    |cons b l=>rw[hq] at h7;exact absurd (aA h7) (by show¬¬((((bR (b::l)).length:Nat):Int)>0);rw[cD,aI];omega)
   exact nx () hlt3 ⟨hlt3,AP (P:=fun m:Mb=>zH s v t m=true) hm3 (hsel.trans (by rw[h8];rfl)) hok3⟩
  have h8:m.sel.isEmpty=false:=by
   cases hq:m.sel with
   |nil=>rw[hq] at h7;exact absurd (aB h7) (by show¬((((bR []).length:Nat):Int)>0);decide)
   |cons b l=>rfl
  rw[h8,jW] at hsel;refine cT [some 2,none,none,some 0,none,some 5,none,none,none,none,some 11,some 11,none] rfl rfl (by kernel_rfl) ?_;conv=>whnf
  refine cP (IB s hl t.owner) ?_;conv=>whnf
  refine st ?_;conv=>whnf
  refine cT [none,some 11,some 6,none,none,none,none,none,none,none] rfl rfl (by kernel_rfl) ?_;conv=>whnf
  refine cN (IA hv' hgv t.owner) ?_;conv=>whnf
  refine cS [12] hA2 ?_;conv=>whnf
  refine mN oU 3 10 (fun h9=>?_) (fun h9=>?_)<;>conv=>whnf
  ·exact uK (bad10 (xM hmin (hsel.trans (LI h9)))) (by decide)
  exact nx () hlt3 ⟨hlt3,AP (P:=fun m:Mb=>zH s v t m=true) hm3 (hsel.trans (a6J h9)) hok3⟩
theorem CL {α:Type} {f:Nat->α->Int} {n:Nat} {l:List α} {p:Nat×Int} (h:dZ f n l=some p):p.2≠0:=by
 induction l generalizing n with
 |nil=>cases h
 |cons x l ih=>
  unfold dZ at h;by_cases h0:f n x=0
  ·rw[aD h0] at h;exact ih h
  ·rw[aC h0] at h;cases h;exact h0
section
variable {known : List Itm → Bool} {vG : By → Bool} {check : List Itm → By → Int}
theorem xV {s:Sch} (h:(a3g known vG check s).2.2=0):t8 s.ar.length 1 6=true/\dZ (fun i a=>nH ((bW s).take i) a) 0 s.ar=none/\t8 s.rc.length 1 10=true/\
  dZ (fun i r=>J2 known vG check s (bW s++(fV s).take i) r) 0 s.rc=none/\¬s.st.length>60/\dZ (fun i t=>TX s (bW s++(fV s++(sA s).take i)) t) 0 s.st=none:=by
 unfold a3g at h;cases h1:t8 s.ar.length 1 6 with
 |false=>rw[h1] at h;exact absurd (show(4:Int)=0 from h) (by decide)
 |true=>
  rw[h1,aC (by simp)] at h;cases h2:dZ (fun i a=>nH ((bW s).take i) a) 0 s.ar with
  |some p=>rw[h2] at h;exact absurd h (CL h2)
  |none=>
   rw[h2] at h;simp only[] at h;unfold M4 at h;cases h3:t8 s.rc.length 1 10 with
   |false=>rw[h3] at h;exact absurd (show(4:Int)=0 from h) (by decide)
   |true=>
    rw[h3,aC (by simp)] at h;cases h4:dZ (fun i r=>J2 known vG check s (bW s++(fV s).take i) r) 0 s.rc with
    |some p=>rw[h4] at h;exact absurd h (CL h4)
    |none=>
     rw[h4] at h;simp only[] at h;unfold M3 at h;by_cases h5:s.st.length>60
     ·rw[aD h5] at h;exact absurd h (by decide)
     ·rw[aC h5] at h;cases h6:dZ (fun i t=>TX s (bW s++(fV s++(sA s).take i)) t) 0 s.st with
      |some p=>rw[h6] at h;exact absurd h (CL h6)
      |none=>exact⟨rfl,rfl,rfl,rfl,h5,rfl⟩
end
theorem wF {s:Sch} (h:(kY s).2.2=0) {r:Rc} (hr:r∈s.rc):∃i,wO s i r=0:=by
 obtain⟨j,hj⟩:=List.mem_iff_getElem?.1 hr;exact⟨j,by have:=o5 (xV (s:=s) h).2.2.2.1 j r hj;rwa [bI] at this⟩
theorem wE {s:Sch} {i:Nat} {r:Rc} (h:wO s i r=0):dU r.name=true/\r.its.length<=8/\r.keys.length<=4/\(r.place≠2->r.keys=[]):=by
 unfold wO J2 gJ at h;obtain⟨h0,h⟩:=bM h (by decide);obtain⟨-,h⟩:=bM h (by decide);obtain⟨-,h⟩:=bM h (by decide);obtain⟨hk,h⟩:=bM h (by decide);obtain⟨h1, -⟩:=zR h;refine⟨?_,?_,?_⟩
 ·have:=(Bool.or_eq_false_iff.1 h0).1;simpa using this
 ·have hk2:kR r.its=true:=by simpa using(Bool.or_eq_false_iff.1 hk).1
  unfold kR iC at hk2;simp only[aF,aJ] at hk2;omega
 ·unfold vA at h1;by_cases hp:r.place=2
  ·rw[aD hp] at h1;obtain⟨h2, -⟩:=bM h1 (by decide);unfold t8 at h2;simp at h2;exact⟨by omega,fun h9=>absurd hp h9⟩
  ·rw[aC hp] at h1;obtain⟨h2, -⟩:=bM h1 (by decide);have h3:r.keys=[]:=by simpa using(Bool.or_eq_false_iff.1 h2).1
   rw[h3];exact⟨zL _,fun _=>rfl⟩
theorem a0Z {s:Sch} (h:(kY s).2.2=0) {t:Sy} (ht:t∈s.st):t.ms≠[]/\t.ms.length<=4/\∀m∈t.ms,m.sel.length<=8:=by
 obtain⟨j,hj⟩:=List.mem_iff_getElem?.1 ht;have h:=o5 (xV (s:=s) h).2.2.2.2.2 j t hj;unfold TX gJ at h;obtain⟨_,h⟩:=bM h (by decide);obtain⟨_,h⟩:=bM h (by decide);obtain⟨_,h⟩:=bM h (by decide);obtain⟨h1,h⟩:=bM h (by decide);obtain⟨h2,h⟩:=zR h;have hb:1<=t.ms.length/\t.ms.length<=4:=by unfold t8 at h1;simp at h1;omega
 refine⟨fun e=>(by rw[e] at hb;exact absurd hb.1 (by decide)),hb.2,fun m hm=>?_⟩;obtain⟨k,hk⟩:=List.mem_iff_getElem?.1 hm;have h3:=yL h2 k m hk;unfold uC at h3;obtain⟨_,h3⟩:=bM h3 (by decide);obtain⟨_,h3⟩:=bM h3 (by decide);obtain⟨_,h3⟩:=bM h3 (by decide);by_cases hs:m.sel=[]
 ·rw[hs];exact zL _
 unfold TY at h3;rw[aC hs] at h3;obtain⟨_,h3⟩:=bM h3 (by decide);obtain⟨_,h3⟩:=bM h3 (by decide);obtain⟨a3,h3⟩:=bM h3 (by decide);have hl:m.sel.length=(bS s t.owner).keys.length:=by simpa using a3
 rcases nL s t.owner with⟨b,_,hb,_⟩|⟨_,hb,_⟩
 ·obtain⟨i,hi⟩:=wF (by assumption) (aE hb);have:=(wE hi).2.2.1;omega
 ·rw[hb] at hl;rw[hl];exact zL _
theorem a6W {s:Sch} (h:(kY s).2.2=0):GoodS s where
 ms t ht:=by
  obtain⟨h1,h2,h3⟩:=a0Z h ht;exact⟨h1,by omega,fun m hm=>dG (h3 m hm) (by decide)⟩
 keys r hr:=by
  obtain⟨i,hi⟩:=wF h hr;have:=(wE hi).2.2.1;omega
 none:=by
  rcases nL s [] with⟨b,hb1,hb,hb2⟩|⟨_,hb,_⟩
  ·have hn:=(M5 hb2).2;have hn2:((bS s []).name==[])=true:=List.find?_some (p:=fun r:Rc=>r.name==[]) hn;obtain⟨i,hi⟩:=wF h (aE hb);have:=(wE hi).1;rw[eq_of_beq hn2] at this;cases this
  ·rw[hb]
theorem WG:∀{l m:List By},l.Nodup->(∀x∈l,x∈m)->l.length<=m.length
 |[],m,_,_=>zL _
 |a::l,m,hn,hs=>by
  obtain⟨h1,h2⟩:=List.nodup_cons.1 hn;have h3:=WG (l:=l) (m:=m.erase a) h2 fun x hx=>(List.mem_erase_of_ne (fun e:x=a=>h1 (e▸hx))).2 (hs x (eR _ hx));have h4:=hs a fY;rw[List.length_erase_of_mem h4] at h3;have:=List.length_pos_of_mem h4;rw[aI];omega
theorem MS {s:Sch} (h:(kY s).2.2=0) {r:VwR} (hg:GoodV s r):r.items.length<=8/\(bS s r.of).keys.length<=4/\bS s r.of∈s.rc:=by
 obtain⟨hm,_⟩:=M5 hg.there;obtain⟨i,hi⟩:=wF h hm;obtain⟨_,h1,h2,_⟩:=wE hi;refine⟨?_,h2,hm⟩;have:=WG (l:=r.items.map (·.2)) (m:=(bS s r.of).its.map Itm.name) hg.ofs fun x hx=>by
  obtain⟨p,hp,rfl⟩:=List.mem_map.1 hx;obtain⟨y,hy,he⟩:=List.any_eq_true.1 (hg.known p hp);exact List.mem_map.2 ⟨y,hy,eq_of_beq he⟩
 rw[b6,b6] at this;omega
end Go.Proofs.YtimgfjldcdhejaaGreatDoor
namespace Go.Proofs
open Go.Shelf
def Tryz.growS_ren:Go.Shelf.Ren:=⟨fun|4=>297|n=>n,fun|22=>43|25=>9|3=>3|4=>4|9=>9|20=>20|0=>0|n=>n,fun|n=>n⟩
theorem Tryz.growS:Go.Proofs.Lays8.n4 Tryz.prog Tryz.growS_ren:={
 mixed:=by kernel_rfl
 f4:=⟨Tryz.f297.name,by decide,Tryz.func297.trans (congrArg some (by kernel_rfl))⟩
 t0:=Tryz.underlying0
 a0:=Tryz.isAgg0
 z0:=Tryz.sizeOf0
 v0:=Tryz.zeroValue0
 t3:=Tryz.underlying3
 a3:=Tryz.isAgg3
 z3:=Tryz.sizeOf3
 v3:=Tryz.zeroValue3
 t4:=Tryz.underlying4
 a4:=Tryz.isAgg4
 z4:=Tryz.sizeOf4
 v4:=Tryz.zeroValue4
 t9:=Tryz.underlying9
 a9:=Tryz.isAgg9
 z9:=Tryz.sizeOf9
 v9:=Tryz.zeroValue9
 t20:=Tryz.underlying20
 a20:=Tryz.isAgg20
 z20:=Tryz.sizeOf20
 v20:=Tryz.zeroValue20
 t22:=Tryz.underlying43
 a22:=Tryz.isAgg43
 z22:=Tryz.sizeOf43
 v22:=Tryz.zeroValue43}
end Go.Proofs
namespace Go.Proofs.YtimgfjldcdhejaaGreatDoor
open Go.RowKit Go.Sort
theorem JX [MaxL] {C:Cx} {n:Nat} {vs:Array Value} (hv:VRs C [.sl .full [],.i .i64 (n:Nat)] vs.toList):vs= #[.slice none 0 0,.int .i64 (n:Nat)]:=by
 obtain⟨v,vs',e,hv1,hv2⟩:=hv.cons_inv;obtain⟨v2,vs'',rfl,hv3,hv4⟩:=hv2.cons_inv;have:vs''=[]:=aM (by simpa using hv4.1);subst this;obtain rfl:vs= #[v,v2]:=by rw[<-fH (xs:=vs),e]
 cases hv3;cases hv1 with
 |sl esz b off us hn hc ha hw hx hvv ht=>
 obtain⟨hc0,ha0⟩:=ht;obtain rfl:=ha0 rfl;simp at hn hc0;subst hn;subst hc0;rfl
theorem a2z [MaxL]:SC Tryz.prog 297 [.sl .full [],.i .i64 (0:Nat)] [] (.val (.sl .full [])) []:=by
 refine⟨by simp,fun C w vs hr hv=>?_,by simp⟩;have hvs:=JX hv;obtain⟨v,vs',e,hv1,hv2⟩:=hv.cons_inv;subst hvs;cases e;have key:=Any8.slices_Grow_room Tryz.growS none 0 0 0 w (rL _) (by decide) (by decide) (by decide);refine Calls.mono key ?_;rintro e w' ⟨rfl,rfl⟩;exact⟨C,.refl C,hr,_,rfl,hv1⟩
theorem a4r [MaxL] (n:Nat) (h1:1<=n) (h2:n<=1000000):SC Tryz.prog 297 [.sl .full [],.i .i64 (n:Nat)] [] (.val (.sl (.own 0) [])) [.own 0 1 9]:=by
 refine⟨by simp,fun C w vs hr hv=>?_,by simp⟩;have hvs:=JX hv;subst hvs;obtain⟨i0,hi0⟩:∃i0,Tryz.prog.info? (Tryz.growS_ren.t 25)=some i0:=Option.isSome_iff_exists.1 (by kernel_rfl);have hz:(Tryz.prog.info? (Tryz.growS_ren.t 25)).bind (·.zero)=some (.string ⟨#[]⟩):=by kernel_rfl
 have hsz:(Tryz.prog.info? (Tryz.growS_ren.t 25)).map (·.size)=some 1:=by kernel_rfl
 have hby:(Tryz.prog.info? (Tryz.growS_ren.t 25)).map (·.bytes)=some 16:=by kernel_rfl
 rw[hi0] at hz hsz hby;replace hz:i0.zero=some (.string ⟨#[]⟩):=hz;replace hsz:i0.size=1:=by simpa using hsz
 replace hby:i0.bytes=16:=by simpa using hby
 have key:=Any8.slices_Grow_grow Tryz.growS i0 (.string ⟨#[]⟩) hi0 hz (by omega) none 0 0 n [] w (rL _) (by omega) (by rw[hby];omega) (by omega) (by simp) (fun _=>rfl) (fun a h=>by cases h);refine Calls.mono key ?_;rintro e w' ⟨rfl,rfl⟩;have hge:=grownCap_ge w (0+n) 0 (Tryz.growS_ren.t 25);have hty:Tryz.growS_ren.t 25=9:=by kernel_rfl
 rw[hty] at hge⊢;generalize grownCap w (0+n) 0 9=cap at*;generalize harr:(([]:List Value).toArray++Builtin.zeroCells (Value.cells (.string ⟨#[]⟩)) (0+n - 0)++Builtin.zeroCells (Value.cells (.string ⟨#[]⟩)) (cap - (0+n)))=arr;have hsize:arr.size=cap:=by
  rw[<-harr];have z:∀k,(Builtin.zeroCells (Value.cells (.string ⟨#[]⟩)) k).size=k:=fun k=>by
   have:(Value.cells (.string ⟨#[]⟩)).size=1:=rfl;simp[Builtin.zeroCells,this]
  simp only[Array.size_append,z];simp;omega
 obtain⟨D,hl,hown,_,hrel⟩:=hr.drew.newRow 0 1 9 (hr.drew.newAt _) arr (by omega) (by omega);refine⟨D,hl,hrel,_,rfl,.sl 1 w.heap.size 0 (fun _=>undef) rfl (zL _) (.inr (.inl rfl)) (fun x hx=>by cases hx) (fun i x j g h=>by simp at h) (fun i x j g h=>by simp at h) ⟨_,hown,rL _,fun _=>rfl,fun _=>.inr ⟨_,_,rfl,rfl,?_⟩⟩⟩;show cap*1<=arr.size;omega
theorem M1 (l:List By):(bR l).all (sO 1)=true:=by
 rw[aQ];intro x hx;obtain⟨v,_,rfl⟩:=List.mem_map.1 hx;rfl
theorem VX [MaxL] (x y:By) (xs ys:List By) (hx:(x::xs).length<=100000) (hy:(y::ys).length<=100000):
  SC Tryz.prog 256 [.sl .none [.sl .none (bR (x::xs)),.sl .none (bR (y::ys))]] [] (.val (.sl .none (bR ((x::xs)++(y::ys))))) []:=by
 have e1:(bR (x::xs)).length=(x::xs).length:=by simp[bR]
 have e2:(bR (y::ys)).length=(y::ys).length:=by simp[bR]
 have hg:=a4r ((x::xs).length+(y::ys).length) (by simp;omega) (by omega);have hgt:∀l:List By,(bR l).length=l.length:=fun l=>by simp[bR]
 generalize hA:x::xs=A at*;generalize hB:y::ys=B at*;have hA0:A.length≠0:=by rw[<-hA];simp
 have hB0:B.length≠0:=by rw[<-hB];simp
 clear hA hB;refine cO Tryz.func256 rfl ?_;conv=>whnf
 refine dD (fun q:Nat×Nat=>(q=(0,0))∨q=(1,A.length)∨q=(2,A.length+B.length)) (fun q=>[(0,.sl .none [.sl .none (bR A),.sl .none (bR B)]),(3,.i .i64 (q.2:Nat)),(9,.sl .none [.sl .none (bR A),.sl .none (bR B)]),(10,.i .i64 2),(11,.i .i64 (q.1:Nat))]) (fun _=>⟨[.own 0 0 0],0,[]⟩) (fun q=>2 - q.1) (0,0) (.inl rfl) ⟨rfl,rfl,rfl,rfl,rfl,trivial⟩ rfl (fun q φ0 hq=>?_);rcases hq with rfl|rfl|rfl
 ·conv=>whnf
  refine⟨eU 0,_,rfl,rfl,?_⟩;conv=>whnf
  have hw:IntKind.i64.wrap (((0:Nat):Int)+((bR A).length:Int))=(A.length:Int):=by rw[e1,dB (by omega) (by omega)];omega
  apply gM<;>intro hneg<;>conv=>whnf
  ·exfalso;have h9:=aB hneg;rw[hw] at h9;omega
  exact⟨1,by decide,(1,A.length),.inr (.inl rfl),rfl,⟨rfl,by rw[<-hw];rfl,rfl,rfl,rfl,trivial⟩,rfl⟩
 ·conv=>whnf
  refine⟨jR 1,_,rfl,rfl,?_⟩;conv=>whnf
  have hw:IntKind.i64.wrap ((A.length:Int)+((bR B).length:Int))=((A.length+B.length:Nat):Int):=by rw[e2,dB (by omega) (by omega)];omega
  apply gM<;>intro hneg<;>conv=>whnf
  ·exfalso;have h9:=aB hneg;rw[hw] at h9;omega
  exact⟨0,Nat.zero_lt_one,(2,A.length+B.length),.inr (.inr rfl),rfl,⟨rfl,by rw[<-hw];rfl,rfl,rfl,rfl,trivial⟩,rfl⟩
 ·conv=>whnf
  refine uN hg [] (objs':=[.own 0 0 0,.own 0 1 9]) Lies.nil (wR _) rfl rfl rfl rfl ?_;conv=>whnf
  refine dD (fun q:Nat×List By=>(q=(0,[]))∨q=(1,A)∨q=(2,A++B)) (fun q=>[(6,.sl (.own 1) (bR q.2)),(25,.sl .none [.sl .none (bR A),.sl .none (bR B)]),(26,.i .i64 2),(27,.i .i64 (q.1:Nat))]) (fun q=>⟨[.own 0 0 0,.own q.2.length 1 9],0,[]⟩) (fun q=>2 - q.1) (0,[]) (.inl rfl) ⟨rfl,rfl,rfl,rfl,trivial⟩ rfl (fun q φ1 hq=>?_);rcases hq with rfl|rfl|rfl
  ·(conv=>whnf);refine⟨eU 0,_,rfl,rfl,?_⟩;(conv=>whnf);refine bZ (fun hemp=>?_) (fun hemp=>?_)
   ·exfalso;have:(bR A).length=0:=by rw[List.isEmpty_iff.1 hemp];rfl
    omega
   (conv=>whnf);refine⟨⟨M1 A,rfl,by show 0+(bR A).length<=4294967296;omega⟩,bR A,A.length,⟨rfl,by show _=0+(bR A).length;omega⟩,?_⟩;(conv=>whnf);refine aN ?_;(conv=>whnf);exact⟨1,by decide,(1,A),.inr (.inl rfl),rfl,⟨rfl,rfl,rfl,rfl,trivial⟩,rfl⟩
  ·(conv=>whnf);refine⟨jR 1,_,rfl,rfl,?_⟩;(conv=>whnf);refine bZ (fun hemp=>?_) (fun hemp=>?_)
   ·exfalso;have:(bR B).length=0:=by rw[List.isEmpty_iff.1 hemp];rfl
    omega
   (conv=>whnf);refine⟨⟨M1 B,HB A,by show(bR A).length+(bR B).length<=4294967296;omega⟩,bR (A++B),(A++B).length,⟨by simp[bR],by show _=(bR A).length+(bR B).length;rw[aG];omega⟩,?_⟩;(conv=>whnf);refine⟨⟨zL _,by rw[e1],.inl ⟨rfl,rfl⟩⟩,?_⟩;(conv=>whnf);exact⟨0,Nat.zero_lt_one,(2,A++B),.inr (.inr rfl),rfl,⟨rfl,rfl,rfl,rfl,trivial⟩,rfl⟩
  ·(conv=>whnf);exact cZ (bY _ _) (bK (eJ _))
theorem VY [MaxL]:SC Tryz.prog 256 [.sl .none [.sl .none [],.sl .none []]] [] (.val (.sl .none [])) []:=by
 have hg:=a2z;refine cO Tryz.func256 rfl ?_;conv=>whnf
 refine dD (fun q:Nat=>q=0∨q=1∨q=2) (fun q=>[(0,.sl .none [.sl .none [],.sl .none []]),(3,.i .i64 0),(9,.sl .none [.sl .none [],.sl .none []]),(10,.i .i64 2),(11,.i .i64 (q:Nat))]) (fun _=>⟨[.own 0 0 0],0,[]⟩) (fun q=>2 - q) 0 (.inl rfl) ⟨rfl,rfl,rfl,rfl,rfl,trivial⟩ rfl (fun q φ0 hq=>?_);rcases hq with rfl|rfl|rfl
 ·conv=>whnf
  refine⟨eU 0,_,rfl,rfl,?_⟩;conv=>whnf
  exact⟨1,by decide,1,.inr (.inl rfl),rfl,⟨rfl,rfl,rfl,rfl,rfl,trivial⟩,rfl⟩
 ·conv=>whnf
  refine⟨jR 1,_,rfl,rfl,?_⟩;conv=>whnf
  exact⟨0,Nat.zero_lt_one,2,.inr (.inr rfl),rfl,⟨rfl,rfl,rfl,rfl,rfl,trivial⟩,rfl⟩
 ·conv=>whnf
  refine mG hg (fun _=>rfl) ?_;conv=>whnf
  refine dD (fun q:Nat=>q=0∨q=1∨q=2) (fun q=>[(6,.sl .full []),(25,.sl .none [.sl .none [],.sl .none []]),(26,.i .i64 2),(27,.i .i64 (q:Nat))]) (fun _=>⟨[.own 0 0 0],0,[]⟩) (fun q=>2 - q) 0 (.inl rfl) ⟨rfl,rfl,rfl,rfl,trivial⟩ rfl (fun q φ1 hq=>?_);rcases hq with rfl|rfl|rfl
  ·(conv=>whnf);refine⟨eU 0,_,rfl,rfl,?_⟩;(conv=>whnf);exact⟨1,by decide,1,.inr (.inl rfl),rfl,⟨rfl,rfl,rfl,rfl,trivial⟩,rfl⟩
  ·(conv=>whnf);refine⟨jR 1,_,rfl,rfl,?_⟩;(conv=>whnf);exact⟨0,Nat.zero_lt_one,2,.inr (.inr rfl),rfl,⟨rfl,rfl,rfl,rfl,trivial⟩,rfl⟩
  ·(conv=>whnf);exact cZ (bY _ _) (bK jF)
theorem a0D [MaxL] (f g:List By) (h:f.length=g.length) (hf:f.length<=100000):SC Tryz.prog 256 [.sl .none [.sl .none (bR f),.sl .none (bR g)]] [] (.val (.sl .none (bR (f++g)))) []:=by
 cases f with
 |nil=>
  have:g=[]:=aM (by simpa using h.symm);subst this;exact VY
 |cons x xs=>
  cases g with
  |nil=>simp at h
  |cons y ys=>exact VX x y xs ys hf (by omega)
theorem a6k [MaxL] (f g:List By) (hl:f.length=g.length) (hf:f.length<=100000) (t:Term):SC Tryz.prog 259 [t.gv,.ptr 0 0,.ptr 1 0] [.box 43 [.sl .none (bR f)],.box 43 [.sl .none (bR g)]] (.val (lV f g t).gv) [.box 43 [.sl .none (bR f)],.box 43 [.sl .none (bR g)]]:=by
 have ho:=AS (T0:=43) (T1:=43) (c0:=[.sl .none (bR f)]) (c1:=[.sl .none (bR g)]) (cC (bK (eJ f)) .nil) (cC (bK (eJ g)) .nil);have hi:=T5 f t.name (by unfold b9;omega);have hcases:(RS f t.name= -1/\f.findIdx? (· ==t.name)=none)∨∃i x,RS f t.name=(i:Nat)/\f.findIdx? (· ==t.name)=some i/\g[i]?=some x:=by
  cases e:f.findIdx? (· ==t.name) with
  |none=>exact .inl ⟨by unfold RS;rw[e],rfl⟩
  |some i=>
   obtain⟨h1,_,_⟩:=List.findIdx?_eq_some_iff_getElem.1 e;exact .inr ⟨i,g[i]'(by omega),by unfold RS;rw[e],rfl,gL _⟩
 obtain⟨nm,vr,w⟩:=t;simp only at hi hcases;rcases hcases with⟨h1,h2⟩|⟨i,x,h1,h2,h3⟩
 ·have e:lV f g ⟨nm,vr,w⟩=⟨nm,vr,w⟩:=by
   unfold lV;split
   ·simp only[h2]
   ·rfl
  rw[e];rw[h1] at hi;refine bQ oP mixed Tryz.func259 rfl (bL rfl) (bL rfl) rfl ?_;conv=>whnf
  refine bT hi (wR _) rfl (cC (bK (eJ f)) (fun _=>rfl)) (.i _ _) ?_;conv=>whnf
  repeat (refine sT ?_;conv=>whnf)
  exact eX (rest:=_) rfl (rL _) ho rfl (fun e _=>aR GRes.val (Term.cl _ e)) (show WkRes (.val _) (.val _) from bF _)
 ·rw[h1] at hi;have hgx:(bR g)[((i:Nat):Int).toNat]?=some (.s x):=by
   rw[aL];unfold bR;rw[aK,h3];rfl
  have hgd:g.getD i []=x:=by rw[aO,h3];rfl
  cases vr with
  |true=>
   have e:lV f g ⟨nm,true,w⟩=⟨nm,true,w⟩:=aC (fun q=>by cases q.1);rw[e];refine bQ oP mixed Tryz.func259 rfl (bL rfl) (bL rfl) rfl ?_;(conv=>whnf);refine bT hi (wR _) rfl (cC (bK (eJ f)) (fun _=>rfl)) (.i _ _) ?_;(conv=>whnf);repeat (refine sT ?_;conv=>whnf)
   exact eX (rest:=_) rfl (rL _) ho rfl (fun e _=>aR GRes.val (Term.cl _ e)) (show WkRes (.val _) (.val _) from bF _)
  |false=>
  cases nm with
  |nil=>
   have e:lV f g ⟨[],false,w⟩=⟨[],false,w⟩:=aC (fun q=>q.2 rfl);rw[e];refine bQ oP mixed Tryz.func259 rfl (bL rfl) (bL rfl) rfl ?_;(conv=>whnf);refine bT hi (wR _) rfl (cC (bK (eJ f)) (fun _=>rfl)) (.i _ _) ?_;(conv=>whnf);repeat (refine sT ?_;conv=>whnf)
   exact eX (rest:=_) rfl (rL _) ho rfl (fun e _=>aR GRes.val (Term.cl _ e)) (show WkRes (.val _) (.val _) from bF _)
  |cons a nm=>
   have e:lV f g ⟨a::nm,false,w⟩=⟨x,false,w⟩:=by
    unfold lV;rw[aD ⟨rfl,List.cons_ne_nil _ _⟩];simp only[h2,hgd]
   rw[e];refine bQ oP mixed Tryz.func259 rfl (bL rfl) (bL rfl) rfl ?_;(conv=>whnf);refine bT hi (wR _) rfl (cC (bK (eJ f)) (fun _=>rfl)) (.i _ _) ?_;(conv=>whnf);refine⟨jR _,_,hgx,rfl,?_⟩;(conv=>whnf);repeat (refine sT ?_;conv=>whnf)
   exact eX (rest:=_) rfl (rL _) ho rfl (fun e _=>aR GRes.val (Term.cl _ e)) (show WkRes (.val _) (.val _) from bF _)
theorem a0w {l:List By} {i:Nat} {x:By} (h:l[i]?=some x):(bR l)[((i:Nat):Int).toNat]?=some (.s x):=by
 rw[aL];unfold bR;rw[aK,h];rfl
theorem a2w [MaxL] (s:By) (f g:List By) (hf:f.length<=100000) (hgl:g.length<=100000):SC Tryz.prog 206 [.s s,.sl .none (bR f),.sl .none (bR g)] [] (.val (.tup [.s (J0 s f g).1,.i .i64 (J0 s f g).2])) []:=by
 have hr:=PQ s;have hcl:=wQ s;have l1:=cD f;have l2:=cD g;unfold nM at hr hcl;unfold J0;cases h:iP s with
 |err e=>
  rw[h] at hr hcl;replace hr:SC Tryz.prog 140 [.s s] [] (.val (.tup [.o .nilIface,.i .i64 e])) []:=hr;have he:=qJ h;simp only;rcases he with rfl|rfl|rfl;all_goals
   refine cO Tryz.func206 rfl ?_;(conv=>whnf);refine mG hr hcl ?_;(conv=>whnf);exact oW
 |ok t=>
  rw[h] at hr hcl;replace hr:SC Tryz.prog 140 [.s s] [] (.val (.tup [t.gv,.i .i64 0])) []:=hr;obtain⟨hn,hz,_⟩:=mR h;have hg:=(J3 h).1;simp only;by_cases hl:f.length=g.length;rotate_left
  ·rw[aC hl];refine cO Tryz.func206 rfl ?_;(conv=>whnf);refine mG hr hcl ?_;(conv=>whnf);apply gM<;>intro h1<;>conv=>whnf
   ·exact oW
   ·exfalso;have h9:((bR f).length:Int)=(bR g).length:=by simpa using h1
    omega
  rw[aD hl];have hch:=BJ (T0:=43) (T1:=43) (c0:=[.sl .none (bR f)]) (c1:=[.sl .none (bR g)]) (cC (bK (eJ f)) .nil) (cC (bK (eJ g)) .nil) (by kernel_rfl) (a6k f g hl hf) t;have hres:(f++g).all kG=true->SC Tryz.prog 141 [(t.mp (lV f g)).gv] [] (.val (.tup [.s (xZ (t.mp (lV f g))).1,.i .i64 (xZ (t.mp (lV f g))).2])) []:=fun ha=>L5 (t.mp (lV f g)) (HK (B4 (fun _=>IY ha hl) hg)) (by rw[DD];omega);have htc:=(t.mp (lV f g)).cl;have ho:=AS (T0:=43) (T1:=43) (c0:=[.sl .none (bR f)]) (c1:=[.sl .none (bR g)]) (cC (bK (eJ f)) .nil) (cC (bK (eJ g)) .nil);have hcc:=a0D f g hl hf;generalize t.mp (lV f g)=u at*;generalize xZ u=q at*;obtain⟨w,e⟩:=q;generalize hG:(if(f++g).all kG=true then(w,e) else(([]:By),(1:Int)))=G;have hno:(f++g).all kG=false->G=([],1):=fun h=>by rw[<-hG,h];rfl
  have hyes:(f++g).all kG=true->G=(w,e):=fun h=>by rw[<-hG,h];rfl
  clear hG;refine cO Tryz.func206 rfl ?_;conv=>whnf
  refine mG hr hcl ?_;conv=>whnf
  apply gM<;>intro h1<;>conv=>whnf
  ·exfalso;have h9:¬((bR f).length:Int)=(bR g).length:=by simpa using h1
   omega
  refine bT hcc (wC (bY _ _) (wR _)) rfl (cC (bK (cC (bK (eJ f)) (cC (bK (eJ g)) .nil))) .nil) (bK (eJ _)) ?_;conv=>whnf
  refine dH (fun i:Nat=>i<=(f++g).length/\∀x∈(f++g).take i,kG x=true) (fun i=>[(4,.ptr 0 0),(5,.ptr 1 0),(8,.ifc t.ty (.agg t.cs)),(28,.sl .none (bR (f++g))),(29,.i .i64 (bR (f++g)).length),(30,.i .i64 (i:Nat))]) (fun i=>⟨[.box 43 [.sl .none (bR f)],.box 43 [.sl .none (bR g)],.own 2 1 43],0,[]⟩) (fun i=>(f++g).length - i) 0 ⟨zL _,fun x h=>by simp at h⟩ ⟨rfl,rfl,rfl,rfl,rfl,rfl,trivial⟩ rfl (fun _ _=>rL _) (fun _ _=>rfl) (fun i _ e he=>?_) (fun i φ0 hi=>?_)
  ·refine⟨?_,rfl,?_⟩
   ·show[(GObj.box _ [(GV.sl .none (bR f)).ren e]),(GObj.box _ [(GV.sl .none (bR g)).ren e]),.own 2 1 _]=_;rw[bK (eJ f) e,bK (eJ g) e]
   ·show[GV.ptr (e 0) 0,GV.ptr (e 1) 0,t.gv.ren e,(GV.sl .none (bR (f++g))).ren e,_,_]=_;rw[he 0 (by simp),he 1 (by simp),t.cl e,bK (eJ (f++g)) e];rfl
  obtain⟨hi,hall⟩:=hi;have l3:=cD (f++g);have l4:(f++g).length=f.length+g.length:=aG;conv=>whnf
  apply gM<;>intro h<;>conv=>whnf
  rotate_left
  ·have hie:i=(f++g).length:=by have:=aA h;omega
   rw[hie,aV] at hall;have ha:(f++g).all kG=true:=List.all_eq_true.2 hall;rw[hyes ha];have hres:=hres ha;refine xH (rest:=[.own 2 1 43]) hch rfl rfl ho rfl PN htc (wR _) ?_;(conv=>whnf);refine bT hres (wR _) rfl (cC htc .nil) (fun _=>rfl) ?_;(conv=>whnf);exact oW
  have hlt:i<(f++g).length:=by have:=aB h;omega
  obtain⟨x,hxx⟩:∃x,(f++g)[i]?=some x:=⟨(f++g)[i],gL hlt⟩;have hxa:=a0w hxx;have r1:=CP x;have r2:=Y9 x;have bad:kG x=false->G=([],1):=fun h=>hno (List.all_eq_false.2 ⟨x,aE hxx,by rw[h];simp⟩);have good:kG x=true->(f++g).length - (i+1)<(f++g).length - i/\(i+1<=(f++g).length/\∀y∈(f++g).take (i+1),kG y=true):=fun h1=>⟨by omega,hlt,fun y hy=>by
   rw[aT,hxx] at hy;rcases List.mem_append.1 hy with q|q
   ·exact hall y q
   ·rw[List.mem_singleton.1 (show y∈[x] from q)];exact h1⟩
  unfold kG at bad good;refine⟨jR _,_,hxa,rfl,?_⟩;conv=>whnf
  cases b1:dU x with
  |false=>
   rw[b1] at r1 bad;rw[bad rfl];refine mG r1 (.b _) ?_;(conv=>whnf);exact oW
  |true=>
  rw[b1] at r1 bad good;refine mG r1 (.b _) ?_;conv=>whnf
  cases b2:a7o.contains x with
  |true=>
   rw[b2] at r2 bad;rw[bad rfl];refine mG r2 (.b _) ?_;(conv=>whnf);exact oW
  |false=>
  rw[b2] at r2 good;obtain⟨g1,g2⟩:=good rfl;refine mG r2 (.b _) ?_;conv=>whnf
  exact⟨(f++g).length - (i+1),g1,i+1,g2,rfl,⟨rfl,rfl,rfl,rfl,rfl,bH (by omega),trivial⟩,[],rfl,rfl⟩
theorem a45 (t:By):CS t=N2 t false:=by
 unfold CS N2;cases iP t<;>rfl
theorem a1q (t:By):(CS t).length<=10000:=by rw[a45];exact ZX t false
def JE (o:Option By):GRes:=match o with
 |some c=>.val (.s c)
 |none=>.panic (xI [] 0 4)
theorem ME [MaxL] (e:Nat->Nat) (o:Option By):(JE o).ren e=JE o:=by cases o<;>rfl
instance [MaxL] {e:Nat->Nat} {o:Option By}:RR e (JE o) (JE o):=⟨ME e o⟩
instance [MaxL] {n:Nat} {o:Option By}:FR n (JE o):=⟨fun e _=>ME e o⟩
theorem a0e [MaxL] (a b:By):SC Tryz.prog 149 [.s a,.s b] [] (JE (E2 a b)) []:=by
 have hA:=a81 a b;generalize hJ:zV true a b=J at*;obtain⟨c,e⟩:=J;generalize hX:E2 a b=X;unfold E2 at hX;rw[hJ] at hX;refine cO Tryz.func149 rfl ?_;conv=>whnf
 apply gM<;>intro h<;>conv=>whnf
 ·rw[aD (by simpa using h)] at hX;subst hX;exact cQ 0
 rw[aC (by simpa using h)] at hX;apply gM<;>intro h2<;>conv=>whnf
 ·rw[aD (by simpa using h2)] at hX;subst hX;exact cQ 0
 rw[aC (by simpa using h2)] at hX;refine cP hA ?_;conv=>whnf
 apply gM<;>intro h3<;>conv=>whnf
 ·rw[aC (by simpa using h3)] at hX;subst hX;exact cQ 0
 ·rw[aD (by simpa using h3)] at hX;subst hX;exact cQ 0
def IZ (r:VwR) (t:By):Option (By×Bool):=
 if t=[]∨(CS t).all (tS r)=false then some ([],false) else
  if(J0 t (CS t) ((CS t).filterMap (cW r))).2=0 then some ((J0 t (CS t) ((CS t).filterMap (cW r))).1,true) else none
theorem YC (r:VwR) (t:By):asT r t=(IZ r t).map (·.1):=by
 unfold asT IZ;split
 ·rfl
 ·split<;>rfl
def MI (o:Option (By×Bool)):GRes:=match o with
 |some (c,b)=>.val (.tup [.s c,.b b])
 |none=>.panic (xI [] 0 4)
theorem MH [MaxL] (e:Nat->Nat) (o:Option (By×Bool)):(MI o).ren e=MI o:=by cases o<;>rfl
instance [MaxL] {e:Nat->Nat} {o:Option (By×Bool)}:RR e (MI o) (MI o):=⟨MH e o⟩
instance [MaxL] {n:Nat} {o:Option (By×Bool)}:FR n (MI o):=⟨fun e _=>MH e o⟩
theorem YL (r:VwR) (l:List By) (h:l.all (fun n=>(cW r n).isSome)=true):(l.filterMap (cW r)).any tM=!l.all (tS r):=by
 induction l with
 |nil=>rfl
 |cons n l ih=>
  rw[e8,aF] at h;obtain⟨x,hx⟩:=Option.isSome_iff_exists.1 h.1;have hs:tS r n=!tM x:=by unfold tS;rw[hx]
  rw[List.filterMap_cons,hx,List.any_cons,e8,ih h.2,hs];cases tM x<;>simp
theorem a42 (r:VwR) (l:List By) (h:l.all (fun n=>(cW r n).isSome)=false):l.all (tS r)=false:=by
 rw[List.all_eq_false] at h⊢;obtain⟨n,hn,h⟩:=h;refine⟨n,hn,?_⟩;unfold tS;cases hx:cW r n with
 |none=>simp
 |some x=>rw[hx] at h;simp at h
theorem LX [MaxL] (r:VwR) (t:By) (ht:t.length<b9):SC Tryz.prog 148 [.s t,.mp 0] [.mp (pS r.items)] (MI (IZ r t)) [.mp (pS r.items)]:=by
 have hN:=a4q t ht;have hlen:=a1q t;have hR:=a2w t (CS t) ((CS t).filterMap (cW r)) (by omega) (dG (List.length_filterMap_le _ _) (by omega));have hA:=W6 r (CS t) (by omega);have hW:=a3M ((CS t).filterMap (cW r)) (by unfold b9;exact Nat.lt_of_le_of_lt (List.length_filterMap_le _ _) (by omega));have hg:∃e:Int,z1 t false=.tup [.sl .none (bR (CS t)),.i .i64 e]:=by
  unfold z1 CS;cases iP t with
  |ok x=>exact⟨0,rfl⟩
  |err e=>exact⟨e,rfl⟩
 have w1:=YL r (CS t);have w2:=a42 r (CS t);generalize hX:IZ r t=X;unfold IZ at hX;generalize CS t=L at*;generalize J0 t L (L.filterMap (cW r))=J at*;obtain⟨c,e⟩:=J;obtain⟨e0,hg⟩:=hg;rw[hg] at hN;generalize hok:(L.all fun n=>(cW r n).isSome)=ok at*;refine bQ zC mixed Tryz.func148 rfl (bL rfl) (by first|exact rL _|simp) rfl ?_;conv=>whnf
 refine cP hN ?_;conv=>whnf
 refine cS [0] hA ?_;conv=>whnf
 apply gM<;>intro h<;>conv=>whnf
 ·rw[aD (.inl (by simpa using h))] at hX;subst hX;exact cQ 1
 have ht0:¬t=[]:=by simpa using h
 cases ok with
 |false=>
  conv=>whnf
  rw[aD (.inr (w2 rfl))] at hX;subst hX;exact cQ 1
 |true=>
 rw[aD rfl] at*;conv=>whnf
 refine cP hW ?_;conv=>whnf
 apply gM<;>intro h2<;>conv=>whnf
 ·rw[aD (.inr (by rw[w1 rfl] at h2;simpa using h2))] at hX;subst hX;exact cQ 1
 rw[aC (fun h9=>h9.elim ht0 (fun h9=>by rw[w1 rfl,h9] at h2;cases h2))] at hX;refine cP hR ?_;conv=>whnf
 apply gM<;>intro h3<;>conv=>whnf
 ·rw[aC (by simpa using h3)] at hX;subst hX;exact cQ 1
 ·rw[aD (by simpa using h3)] at hX;subst hX;exact cQ 1
def z8 (o:Rc) (l:List (By×By)):List Itm:=l.map fun p=>{oD o.its p.2 with name:=p.1}
theorem a0f [MaxL] (p:By×By) (x:Itm):SC Tryz.prog 166 [x.gv,.ptr 0 0] [.box 76 [.s p.1,.s p.2]] (.val (.b (x.name==p.2))) [.box 76 [.s p.1,.s p.2]]:=by
 refine cO Tryz.func166 rfl ?_;conv=>whnf
 exact cQ 1
theorem OC {l:List Itm} {n:By} (h:l.any (fun x=>x.name==n)=true):∃(i:Nat),jJ (fun x:Itm=>x.name==n) l=i/\l[i]?=some (oD l n):=by
 rcases j2 (fun x:Itm=>x.name==n) l with⟨_,_,h3⟩|⟨i,y,h1,h2,h3,_⟩
 ·rw[h3] at h;cases h
 ·exact⟨i,h1,by unfold oD;rw[h3];exact h2⟩
set_option synthInstance.maxSize 2000 in
theorem a3L [MaxL] (o:Rc) (ho:o.its.length<b9) (r:VwR) (hl:r.items.length<=1000000) (hk:∀p∈r.items,o.its.any (fun x=>x.name==p.2)=true):SC Tryz.prog 116 [QK o,uQ r] [] (.val (.sl .none (fM (z8 o r.items)))) []:=by
 have hlen:(nK r.items).length=r.items.length:=pK _;refine bQ zC mixed Tryz.func116 rfl (bL rfl) (by first|exact rL _|simp) rfl ?_;conv=>whnf
 refine bE 4 r.items.length (fun i l=>l=z8 o (r.items.take i)) (fun i l=>[(2,.ptr 0 0),(3,.ptr 1 0),(5,.sl (.own 3) (fM l)),(10,.sl .none (nK r.items)),(11,.i .i64 (nK r.items).length),(12,.i .i64 (i:Nat))]) (fun _ l=>[.box 58 (LD o),.box 74 (rM r),.own 0 0 0,ow 92 5 l.length]) [] [] rfl (fun i l φ0 hi hb=>?_) (hh:=fun _ _=>by simp only[e8,l5];rfl);conv=>whnf
 apply gM<;>intro h<;>conv=>whnf
 rotate_left
 ·have e:l=z8 o r.items:=by rw[hb,aW (by have:=aA h;omega)]
  rw[<-e];exact cQ 0 (hw:=bY _ _)
 have hlt:i<r.items.length:=by have:=aB h;omega
 refine(d7 hlt).elim fun p hp=>?_;refine(OC (hk p (aE hp))).elim fun j hj=>?_;have hix:=rE (fun x=>zO (Itm.cs x)) o.its ho (fun x=>x.name==p.2) _ 76 [.s p.1,.s p.2] _ 5 (fun x _=>a0f p x) (.inr (.inr (.inr (.inr (.inr (.inr (.inl ⟨rfl,rfl,rfl⟩)))))));rw[hj.1] at hix;have hb':l++[{oD o.its p.2 with name:=p.1}]=z8 o (r.items.take (i+1)):=by rw[aT,hp,hb];unfold z8;rw[b5];rfl
 have hll:l.length<=i:=by rw[hb];unfold z8;rw[b6,aS];omega
 generalize oD o.its p.2=y at*;refine ix (aY hp) ⟨rfl,?_⟩;conv=>whnf
 refine st ?_;conv=>whnf
 refine cT [none,some 0,none,some 0,none,none,none,none,some 5,some 5] rfl rfl (by kernel_rfl) ?_;conv=>whnf
 refine cS [4] hix ?_;conv=>whnf
 refine ix (aY hj.2) ⟨rfl,?_⟩;conv=>whnf
 refine st ?_;conv=>whnf
 refine st ?_;conv=>whnf
 cases l with
 |nil=>
  refine L9 (f:=Itm.gv) (c:=5) (fun _=>rfl) [] {y with name:=p.1} rfl (by omega) ?_;conv=>whnf
  refine aN ?_;conv=>whnf
  exact nx ([]++[{y with name:=p.1}]) hlt ⟨hlt,hb'⟩
 |cons z zs=>
  refine L9 (f:=Itm.gv) (c:=5) (fun _=>rfl) (z::zs) {y with name:=p.1} rfl (by omega) ?_;conv=>whnf
  refine aN ?_ (h:=(cL Itm.gv (z::zs)).symm);conv=>whnf
  exact nx ((z::zs)++[{y with name:=p.1}]) hlt ⟨hlt,hb'⟩
