/- Part of ViewWrong. -/
import Derived.Test.YtimgfjldcdhejaaGreatDoorK33
set_option linter.all false
set_option maxRecDepth 100000
namespace Go.Proofs.YtimgfjldcdhejaaGreatDoor
section
open Go.RowKit
def ksV (o:Rc) (r:VwR):Bool:=o.keys.all (fun n=>(cW r n).isSome)&&decide (o.place=2)
def viV (v:Vw) (o:Rc):Option By:=if o.place=3 then(v.sets.find? (fun p=>p.2==o.via)).map (·.1) else none
def qI (v:Vw) (o:Rc) (r:VwR) (c:By):Rc:=
 ⟨r.name,o.area,z8 o r.items,if(viV v o).isSome then 3 else if ksV o r then 2 else 1,if ksV o r then o.keys.filterMap (cW r) else[],ksV o r&&o.dups,(viV v o).getD [],c⟩
def MG (v:Vw) (o:Rc) (r:VwR) (x:Option By):GRes:=match x with
 |some c=>.val (QK (qI v o r c))
 |none=>.panic (xI [] 0 4)
theorem MF [MaxL] (e:Nat->Nat) (v:Vw) (o:Rc) (r:VwR) (x:Option By):(MG v o r x).ren e=MG v o r x:=by
 cases x with
 |none=>rfl
 |some c=>exact(GRes.val.injEq _ _).mpr (eQ (O0 (qI v o r c)) e)
instance [MaxL] {e:Nat->Nat} {v:Vw} {o:Rc} {r:VwR} {x:Option By}:RR e (MG v o r x) (MG v o r x):=⟨MF e v o r x⟩
instance [MaxL] {n:Nat} {v:Vw} {o:Rc} {r:VwR} {x:Option By}:FR n (MG v o r x):=⟨fun e _=>MF e v o r x⟩
theorem a7B [MaxL] (p:By×By) (o:Rc):SC Tryz.prog 147 [mU p,.ptr 0 0] [.box 58 (LD o)] (.val (.b (p.2==o.via))) [.box 58 (LD o)]:=by
 refine cO Tryz.func147 rfl ?_;conv=>whnf
 exact cQ 1
def asM:FuncId->Bool:=fun k=>!Nat.beq k 86
set_option synthInstance.maxSize 2000 in
set_option maxHeartbeats 4000000 in
theorem TI [MaxL] (s:Sch) (hz:kO s) (v:Vw) (hv:wD v) (r:VwR) (hg:GoodV s r) (hl:r.items.length<=1000000) (hkl:(bS s r.of).keys.length<=1000000) (hcl:(bS s r.of).check.length<b9) (hol:r.only.length<b9):
  SC Tryz.prog 89 [lT s,k7 v,uQ r] [] (MG v (bS s r.of) r (SQ (bS s r.of) r)) []:=by
 obtain⟨⟨ha,hrc,ht⟩,hr,hst⟩:=hz;obtain⟨v1,v2,v3⟩:=hv;have hR:=IB s hrc r.of;have hil:(bS s r.of).its.length<b9:=by
  rcases nL s r.of with⟨j,_,hj,_⟩|⟨_,hj,_⟩
  ·exact(hr _ (aE hj)).1
  ·rw[hj];decide
 have hU:=W5 r (by unfold b9;omega) hg.ofs;have hI:=a3L (bS s r.of) hil r hl hg.known;have hA:=W6 r (bS s r.of).keys hkl;have hV:=rE (fun x:By×By=>zO [.s x.1,.s x.2]) v.sets v2 (fun p=>p.2==(bS s r.of).via) _ 58 (LD (bS s r.of)) _ 2 (fun p _=>a7B p (bS s r.of)) (.inr (.inr (.inr (.inr (.inr (.inr (.inr (.inl ⟨rfl,rfl,rfl⟩))))))));have hC:=LX r (bS s r.of).check hcl;have hO:=LX r r.only hol;have hJ:∀a b:By,SC Tryz.prog 149 [.s a,.s b] [] (JE (E2 a b)) []:=a0e;generalize hX:SQ (bS s r.of) r=X;unfold SQ at hX;rw[YC,YC] at hX;rw[hg.there] at hR;generalize bS s r.of=o at*;have hK:ksV o r=(o.keys.all (fun n=>(cW r n).isSome)&&decide (o.place=2)):=rfl;have hvv:(∃i p,jJ (fun p:By×By=>p.2==o.via) v.sets=(i:Nat)/\v.sets[i]?=some p/\viV v o=if o.place=3 then some p.1 else none)∨(jJ (fun p:By×By=>p.2==o.via) v.sets<0/\viV v o=none):=by
  unfold viV;rcases j2 (fun p:By×By=>p.2==o.via) v.sets with⟨h1,h2,_⟩|⟨i,y,h1,h2,h3,_⟩
  ·exact .inr ⟨h1,by rw[h2];split<;>rfl⟩
  ·exact .inl ⟨i,y,h1,h2,by rw[h3];rfl⟩
 generalize hok:(o.keys.all fun n=>(cW r n).isSome)=ok at*;generalize IZ r o.check=cR at*;generalize IZ r r.only=oR at*;have cC:(cR=none/\X=none/\SC Tryz.prog 148 [.s o.check,.mp 0] [.mp (pS r.items)] (.panic (xI [] 0 4)) [.mp (pS r.items)])∨∃c b,cR=some (c,b)/\SC Tryz.prog 148 [.s o.check,.mp 0] [.mp (pS r.items)] (.val (.tup [.s c,.b b])) [.mp (pS r.items)]:=by
  cases cR with
  |none=>exact .inl ⟨rfl,hX.symm,hC⟩
  |some x=>exact .inr ⟨x.1,x.2,rfl,hC⟩
 have oC:(oR=none/\X=none/\SC Tryz.prog 148 [.s r.only,.mp 0] [.mp (pS r.items)] (.panic (xI [] 0 4)) [.mp (pS r.items)])∨∃c b,oR=some (c,b)/\SC Tryz.prog 148 [.s r.only,.mp 0] [.mp (pS r.items)] (.val (.tup [.s c,.b b])) [.mp (pS r.items)]:=by
  cases oR with
  |none=>exact .inl ⟨rfl,by rw[<-hX];cases cR<;>rfl,hO⟩
  |some x=>exact .inr ⟨x.1,x.2,rfl,hO⟩
 have jC:∀c b d b2,cR=some (c,b)->oR=some (d,b2)->(X=none/\SC Tryz.prog 149 [.s c,.s d] [] (.panic (xI [] 0 4)) [])∨∃e,X=some e/\SC Tryz.prog 149 [.s c,.s d] [] (.val (.s e)) []:=fun c b d b2 h1 h2=>by
  have h3:=hJ c d;have h4:E2 c d=X:=by rw[<-hX,h1,h2];rfl
  rw[h4] at h3;cases X with
  |none=>exact .inl ⟨rfl,h3⟩
  |some e=>exact .inr ⟨e,rfl,h3⟩
 clear hC hO hJ hX v1 v3 hr hst;generalize jJ (fun p:By×By=>p.2==o.via) v.sets=ji at*;refine bQ asM mixed Tryz.func89 rfl (bL rfl) (by first|exact rL _|simp) rfl ?_;conv=>whnf
 refine cP hR ?_;conv=>whnf
 refine st ?_;conv=>whnf
 refine cN hU ?_;conv=>whnf
 refine cT [none,some 2,none,some 4,some 4,some 2,none,none,some 6,some 6] rfl rfl (by kernel_rfl) ?_;conv=>whnf
 refine cP hI ?_;conv=>whnf
 refine st ?_;conv=>whnf
 refine cS [5] hA ?_;conv=>whnf
 cases ok<;>conv=>whnf
 rotate_left;apply gM<;>intro h3<;>conv=>whnf
 ·have h9:o.place=2:=by simpa using h3
  refine cT [none,none,some 4,none,some 6,none,some 6,none,some 6] rfl rfl (by kernel_rfl) ?_;conv=>whnf
  refine st ?_;conv=>whnf
  refine st ?_;conv=>whnf
  refine st ?_;conv=>whnf
  refine cS [4] hV ?_;conv=>whnf
  refine gN (by rw[h9];rfl) ?_;conv=>whnf
  have hE:∀c,qI v o r c=⟨r.name,o.area,z8 o r.items,2,o.keys.filterMap (cW r),o.dups,[],c⟩:=fun c=>by
   have h4:viV v o=none:=aC (by omega);unfold qI;rw[hK,h4];simp[h9]
  rcases cC with⟨-,h6,h7⟩|⟨c,b,h6,h7⟩;refine cS [5] h7 ?_;conv=>whnf
  subst h6;exact cQ 0;refine cS [5] h7 ?_;conv=>whnf
  rcases oC with⟨-,h8,h9⟩|⟨d,b2,h8,h9⟩;refine cS [5] h9 ?_;conv=>whnf
  subst h8;exact cQ 0;refine cS [5] h9 ?_;conv=>whnf
  rcases jC c b d b2 h6 h8 with⟨ha,hb⟩|⟨e,ha,hb⟩;refine cS [] hb ?_;conv=>whnf
  subst ha;exact cQ 0;refine cS [] hb ?_;conv=>whnf
  refine st ?_;conv=>whnf
  refine st ?_;conv=>whnf
  subst ha;refine cQ 0 (hw:=?_);show Wk _ (QK (qI v o r e));rw[hE];exact bF _
 rotate_left;all_goals
  have hK0:ksV o r=false:=by first|exact hK|exact hK.trans (by simpa using h3)
  refine cS [4] hV ?_;conv=>whnf
  apply gM<;>intro h3<;>conv=>whnf
  rcases hvv with⟨i,p,h1,h2,h4⟩|⟨h1,h4⟩;subst h1;conv=>whnf
  refine cT [none,some 1,none,none,none,none,none,some 6,none,some 6] rfl rfl (by kernel_rfl) ?_;conv=>whnf
  refine ix (aY h2) ⟨rfl,?_⟩;conv=>whnf
  refine st ?_;conv=>whnf
  refine st ?_;conv=>whnf
  have h9:o.place=3:=by simpa using h3
  have hE:∀c,qI v o r c=⟨r.name,o.area,z8 o r.items,3,[],false,p.1,c⟩:=fun c=>by unfold qI;rw[hK0,h4];simp[h9]
  rotate_left;obtain⟨kk,rfl⟩:=Int.eq_negSucc_of_lt_zero h1;conv=>whnf
  have hE:∀c,qI v o r c=⟨r.name,o.area,z8 o r.items,1,[],false,[],c⟩:=fun c=>by unfold qI;rw[hK0,h4];rfl
  rotate_left;have h4:viV v o=none:=aC (by simpa using h3);have hE:∀c,qI v o r c=⟨r.name,o.area,z8 o r.items,1,[],false,[],c⟩:=fun c=>by unfold qI;rw[hK0,h4];rfl
  all_goals
   rcases cC with⟨-,h6,h7⟩|⟨c,b,h6,h7⟩;refine cS [5] h7 ?_;(conv=>whnf);subst h6;exact cQ 0;refine cS [5] h7 ?_;(conv=>whnf);rcases oC with⟨-,h8,h9⟩|⟨d,b2,h8,h9⟩;refine cS [5] h9 ?_;(conv=>whnf);subst h8;exact cQ 0;refine cS [5] h9 ?_;(conv=>whnf);rcases jC c b d b2 h6 h8 with⟨ha,hb⟩|⟨e,ha,hb⟩;refine cS [] hb ?_;(conv=>whnf);subst ha;exact cQ 0;refine cS [] hb ?_;(conv=>whnf);refine st ?_;(conv=>whnf);refine st ?_;(conv=>whnf);subst ha;refine cQ 0 (hw:=?_);show Wk _ (QK (qI v o r e));rw[hE];exact Wks.agg (wC (bF _) (wC (bF _) (wC (bF _) (wC (bF _) (wC (bY _ _) (wR _))))))
theorem YP [MaxL] (s:Sch) (hz:kO s) (hv9:(kY s).2.2=0) (v:Vw) (hv:wD v) (r:VwR) (hr:r∈v.recs) (hg:GoodV s r):
  SC Tryz.prog 38 [lT s,k7 v,uQ r] [] (.val (.b (SQ (bS s r.of) r).isNone)) []:=by
 obtain⟨h1,h2,h3⟩:=MS hv9 hg;have hA:=TI s hz v hv r hg (by omega) (by omega) (hz.2.1 _ h3).2.2 (hv.2.2 r hr).2;generalize SQ (bS s r.of) r=x at*;cases x with
 |none=>
  refine cO Tryz.func38 rfl ?_;conv=>whnf
  refine cS [] hA ?_;conv=>whnf
  exact BQ (g:=.b true) (by kernel_rfl) (.refl _) (fun _=>rfl)
 |some c=>
  refine cO Tryz.func38 rfl ?_;conv=>whnf
  refine cS [] hA ?_;conv=>whnf
  refine st ?_;conv=>whnf
  exact BQ (g:=.b false) (by kernel_rfl) (.refl _) (fun _=>rfl)
instance {n:Nat} {k:FuncId} {a c:List GV} [i:FL n a] [j:FL n c]:FD n [.fn k a c]:=⟨fun e he=>by show[GDef.fn k (a.map (GV.ren e)) (c.map (GV.ren e))]=_;rw[i.h e he,j.h e he]⟩
theorem a5Q {s:Sch} (h:(kY s).2.2=0) {i:Nat} {a:Ar} (ha:s.ar[i]?=some a):((bW s).take i).contains a.name=false:=by
 have h1:=o5 (xV (s:=s) h).2.1 i a ha;unfold nH gJ at h1;obtain⟨_,h1⟩:=bM h1 (by decide);obtain⟨h2,_⟩:=bM h1 (by decide);simpa using h2
set_option synthInstance.maxSize 4000 in
set_option maxHeartbeats 4000000 in
theorem W7 [MaxL] (s:Sch) (hz:kO s) (v:Vw) (hv:wD v):SC Tryz.prog 8 [lT s,k7 v] [] (.val (.tup [.s (wA s v).1,.i .i64 ((wA s v).2.1:Nat),.i .i64 (wA s v).2.2])) []:=by
 have hV:=WP s hz;generalize hW:wA s v=W;obtain⟨wk,wi,we⟩:=W;unfold wA at hW;by_cases h0:(kY s).2.2=0;rotate_left
 ·rw[aD h0] at hW;obtain⟨rfl,rfl,rfl⟩:wk=[]/\wi=0/\we=1:=by cases hW;exact⟨rfl,rfl,rfl⟩
  rw[show((kY s).2.2==0)=false by simpa using h0] at hV;refine cO Tryz.func8 rfl ?_;conv=>whnf
  refine cP hV ?_;conv=>whnf
  refine st ?_;conv=>whnf
  refine st ?_;conv=>whnf
  refine st ?_;conv=>whnf
  exact cQ 0
 rw[aC (fun h=>h h0)] at hW;rw[show((kY s).2.2==0)=true by simpa using h0] at hV;have hR:=YQ s hz v hv;have hal:=hz.1.1;unfold b9 at hal;have hlenA:(zB s.ar).length=s.ar.length:=cL _ _;refine cO Tryz.func8 rfl ?_;conv=>whnf
 refine cP hV ?_;conv=>whnf
 refine bE 7 s.ar.length (fun _ _=>True) (fun i _=>[(2,.ptr 0 0),(3,.ptr 1 0),(4,.ptr 2 0),(5,.ptr 3 0),(6,.ptr 4 0),(7,.ptr 6 0),(22,.sl .none (zB s.ar)),(23,.i .i64 (zB s.ar).length),(24,.i .i64 (i:Nat))])
  (fun i (_:Unit)=>[.box 26 (jX s),.box 30 (j9 v),.box 9 [.s []],.box 3 [.i .i64 0],.box 34 [.i .i64 0],.mp (o4 ((bW s).take i)),.box 86 (a6d s v (.mp 5))])
  [.fn 35 [] [.ptr 2 0,.ptr 3 0,.ptr 4 0]] () trivial (fun i _ φ0 hi _=>?_)
 conv=>whnf
 apply gM<;>intro h<;>conv=>whnf
 ·have hlt:i<s.ar.length:=by have:=aB h;omega
  refine(d7 hlt).elim fun a ha=>?_;refine ix (aY ha) ⟨rfl,?_⟩;conv=>whnf
  refine st ?_;conv=>whnf
  refine cT [none,none,none,some 6,none,some 7,some 5] rfl rfl (by kernel_rfl) ?_;conv=>whnf
  refine⟨zL _,none,y6 (a5Q h0 ha),?_⟩;conv=>whnf
  exact nx () hlt ⟨hlt,trivial⟩ (by
   have e:o4 ((bW s).take (i+1))=o4 ((bW s).take i)++[(.s a.name,.b true)]:=by
    rw[show bW s=s.ar.map (·.name) from rfl,mW (fun a:Ar=>a.name) ha];unfold o4;rw[b5];rfl
   show _=[_,_,_,_,_,GObj.mp (o4 ((bW s).take (i+1))),_];rw[e];rfl)
 have hie:i=s.ar.length:=by have:=aA h;omega
 have hm:(bW s).take i=bW s:=aW (by rw[hie];simp[bW]);rw[hm];by_cases h1:(mM s v).2=0;rotate_left
 ·rw[aD h1] at hW;obtain⟨rfl,e⟩:=Prod.mk.inj hW;rw[e] at hR h1;rw[HI h1,uZ h1] at hR;refine cG [6,5] hR ?_;conv=>whnf
  exact x4 (K:=fun q=>Owes [] _ [] q.1 q.2) (.val (.tup [.s iR,.i .i64 (wi:Nat),.i .i64 we])) (by kernel_rfl) fun _=>cZ (.refl _) (fun _=>rfl)
 rw[aC (fun h=>h h1)] at hW;have hgv:=I8 h1;rw[h1,X8,D7] at hR;have hS:=a5T s hz (a6W h0) v hv hgv;refine cG [6,5] hR ?_;conv=>whnf
 by_cases h2:(oT s v).2=0;rotate_left
 ·rw[aD h2] at hW;obtain⟨rfl,e⟩:=Prod.mk.inj hW;rw[e] at hS h2;rw[HI h2,uZ h2] at hS;refine cG [6,5] hS ?_;conv=>whnf
  exact x4 (K:=fun q=>Owes [] _ [] q.1 q.2) (.val (.tup [.s nF,.i .i64 (wi:Nat),.i .i64 we])) (by kernel_rfl) fun _=>cZ (.refl _) (fun _=>rfl)
 rw[aC (fun h=>h h2)] at hW;rw[h2,X8,D7] at hS;have hlenV:(fP v.recs).length=v.recs.length:=lJ _;have hrl:=hv.1;unfold b9 at hrl;refine cG [6,5] hS ?_;conv=>whnf
 generalize bW s++(vN v++TD v)=met;refine bE 7 v.recs.length (fun i _=>∀j z,j<i->v.recs[j]?=some z->pY s j z=0) (fun i _=>[(2,.ptr 0 0),(3,.ptr 1 0),(4,.ptr 2 0),(5,.ptr 3 0),(6,.ptr 4 0),(40,.sl .none (fP v.recs)),(41,.i .i64 (fP v.recs).length),(42,.i .i64 (i:Nat))])
  (fun _ (_:Unit)=>[.box 26 (jX s),.box 30 (j9 v),.box 9 [.s []],.box 3 [.i .i64 0],.box 34 [.i .i64 0],.mp (o4 met),.box 86 (a6d s v (.mp 5))])
  [.fn 35 [] [.ptr 2 0,.ptr 3 0,.ptr 4 0]] () (fun j z h=>absurd h (bP j)) (fun i _ φ1 hi hok=>?_)
 conv=>whnf
 apply gM<;>intro h<;>conv=>whnf
 rotate_left
 ·have hie:i=v.recs.length:=by have:=aA h;omega
  have h3:(tN s v)=(0,0):=by unfold tN;rw[kC (Nat.le_of_eq hie.symm) hok];rfl
  rw[h3,aC (fun h=>h rfl)] at hW;cases hW;refine st ?_;conv=>whnf
  refine st ?_;conv=>whnf
  refine st ?_;conv=>whnf
  exact BQ (g:=.tup [.s [],.i .i64 0,.i .i64 0]) (by kernel_rfl) (.refl _) (fun _=>rfl)
 have hlt:i<v.recs.length:=by have:=aB h;omega
 refine(d7 hlt).elim fun r hr=>?_;have hrm:=aE hr;have hT:=YP s hz h0 v hv r hrm (hgv r hrm);refine ix (aY hr) ⟨rfl,?_⟩;conv=>whnf
 refine st ?_;conv=>whnf
 refine cP hT ?_;conv=>whnf
 apply gM<;>intro h4<;>conv=>whnf
 ·have h5:pY s i r=4:=aD h4;have h3:tN s v=(i,4):=by unfold tN;rw[kD hr (by rw[h5];decide) hok,h5];rfl
  rw[h3,aD (show((4:Int))≠0 by decide)] at hW;cases hW;exact x4 (K:=fun q=>Owes [] _ [] q.1 q.2) (.val (.tup [.s iR,.i .i64 (wi:Nat),.i .i64 4])) (by kernel_rfl) fun _=>cZ (.refl _) (fun _=>rfl)
 ·exact nx () hlt ⟨hlt,iE hr (aC (by rw[h4];simp)) hok⟩
theorem NO [MaxL] (s:Sch) (hz:kO s) (v:Vw) (hv:wD v):SC Tryz.prog 10 [lT s,k7 v] [] (.val (.b ((wA s v).2.2==0))) []:=by
 have hw:=W7 s hz v hv;refine cO Tryz.func10 rfl ?_;conv=>whnf
 refine cP hw ?_;conv=>whnf
 exact cQ 0
theorem Wk.tupl [MaxL] {l l':List GV} (h:Wks l l'):Wk (.tup l) (.tup l'):=fun C v hv=>by
 obtain⟨h1,h2⟩:=h.at_;cases hv with
 |tup hs hvv=>
  refine .tup (by rw[hs,h1]) fun j g u g1 g2=>?_;have hj:=(List.getElem?_eq_some_iff.1 g1).1;exact h2 j _ g (gL (by omega)) g1 C u (hvv j _ u (gL (by omega)) g2)
theorem a7T [MaxL] (l:List By) (hl:l.length<b9) (n:By):SC Tryz.prog 99 [.sl .none (bR l),.s n] [] (.val (.b (l.contains n))) []:=by
 have hi:=WZ l hl n;have e:l.contains n=decide (0<=jJ (fun a=>a==n) l):=by
  rw[l8];have h:=cE (fun x:By=>x) l n;rwa [List.map_id'] at h
 rw[e];refine cO Tryz.func99 rfl ?_;conv=>whnf
 refine cP hi ?_;conv=>whnf
 exact cQ 0
theorem G1 [MaxL] (l:List By) (hl:l.length<b9):SC Tryz.prog 19 [.sl .none (bR l),.sl .none (bR l)] [] (.val (.b true)) []:=by
 have hle:(bR l).length=l.length:=cD l;unfold b9 at hl;refine cO Tryz.func19 rfl ?_;conv=>whnf
 refine gN (show(((bR l).length:Int) !=(bR l).length)=false by simp) ?_;conv=>whnf
 refine bE 0 l.length (fun i _=>True) (fun i _=>[(0,.sl .none (bR l)),(1,.sl .none (bR l)),(5,.i .i64 (i:Nat))]) (fun _ (_:Unit)=>[]) [] () trivial (fun i _ φ0 hi _=>?_);conv=>whnf
 apply gM<;>intro h<;>conv=>whnf
 ·have hlt:i<l.length:=by have:=aB h;omega
  refine(d7 hlt).elim fun y hy=>?_;refine lQ ?_;conv=>whnf
  refine ix (aY hy) ⟨rfl,?_⟩;conv=>whnf
  refine ix (aY hy) ⟨rfl,?_⟩;conv=>whnf
  refine gN (show(y !=y)=false by simp) ?_;conv=>whnf
  exact nx () hlt ⟨hlt,trivial⟩
 ·exact cQ 0
def wP (s:Sch) (v:Vw) (n:By):By×Bool×Int:=if(wA s v).2.2=0 then
  (match vNm v n with|some r=>(r.of,false,0)|none=>match v.sets.find? (fun p=>p.1==n) with|some p=>(p.2,true,0)|none=>([],false,5))
 else([],false,1)
def DJ (s:Sch) (v:Vw):List By×List By:=((s.rc.filter fun r=>!(kJ v r.name).isSome).map (·.name),(s.st.filter fun t=>!v.sets.any fun p=>p.2==t.name).map (·.name))
theorem a3I [MaxL] (p:By×By) (n:By):SC Tryz.prog 45 [mU p,.ptr 0 0] [.box 9 [.s n]] (.val (.b (p.1==n))) [.box 9 [.s n]]:=by
 refine cO Tryz.func45 rfl ?_;conv=>whnf
 exact cQ 1
theorem a5b [MaxL] (s:Sch) (hz:kO s) (v:Vw) (hv:wD v) (n:By):SC Tryz.prog 15 [lT s,k7 v,.s n] [] (.val (.tup [.s (wP s v n).1,.b (wP s v n).2.1,.i .i64 (wP s v n).2.2])) []:=by
 have hV:=NO s hz v hv;have hN:=a3J v hv.1 n;have hI:=rE (fun x:By×By=>zO [.s x.1,.s x.2]) v.sets hv.2.1 (fun p=>p.1==n) _ 9 [.s n] _ 2 (fun p _=>a3I p n) (.inr (.inr (.inr (.inr (.inr (.inr (.inr (.inr (.inl ⟨rfl,rfl,rfl⟩)))))))));have hcase:=CB v n;have hset:=j2 (fun p:By×By=>p.1==n) v.sets;have hR:wP s v n=wP s v n:=rfl;generalize hX:wP s v n=X at*;unfold wP at hX;generalize(wA s v).2.2=e at*;generalize vNc v n=rn at*;generalize vNm v n=on at*;generalize jJ (fun p:By×By=>p.1==n) v.sets=ji at*;obtain⟨x1,x2,x3⟩:=X;by_cases h0:e=0;rotate_left
 ·rw[aC h0] at hX;rw[show(e==0)=false by simpa using h0] at hV;cases hX;refine cO Tryz.func15 rfl ?_;conv=>whnf
  refine cP hV ?_;conv=>whnf
  exact cQ 0
 subst h0;rw[aD rfl] at hX;refine cO Tryz.func15 rfl ?_;conv=>whnf
 refine cP hV ?_;conv=>whnf
 refine cP hN ?_;conv=>whnf
 refine st ?_;conv=>whnf
 rcases hcase with⟨i,_,_,h3,h4⟩|⟨_,_,h3,h4⟩
 ·rw[h4] at hX⊢;cases hX;conv=>whnf
  exact cQ 0
 rw[h4] at hX⊢;conv=>whnf
 refine cS [2] hI ?_;conv=>whnf
 rcases hset with⟨h1,h2,_⟩|⟨i,y,rfl,hy,h2,_⟩
 ·rw[h2] at hX;cases hX;refine gY (bC h1) ?_;conv=>whnf
  exact cQ 0
 ·rw[h2] at hX;cases hX;refine ix (aY hy) ⟨rfl,?_⟩;conv=>whnf
  exact cQ 0
theorem HD {s:Sch} (h:(kY s).2.2=0):s.rc.length<=10/\s.st.length<=60:=by
 obtain⟨_,_,h3,_,h5,_⟩:=xV (s:=s) h;unfold t8 at h3;simp at h3;omega
theorem a0X {s:Sch} {v:Vw} (h:(wA s v).2.2=0):(kY s).2.2=0:=by
 unfold wA at h;by_cases h0:(kY s).2.2=0
 ·exact h0
 ·rw[aD h0] at h;exact absurd h (by decide)
theorem a5a [MaxL] (p:By×By) (t:Sy):SC Tryz.prog 50 [mU p,.ptr 0 0] [.box 67 (E8 t)] (.val (.b (p.2==t.name))) [.box 67 (E8 t)]:=by
 refine cO Tryz.func50 rfl ?_;conv=>whnf
 exact cQ 1
theorem a5Z [MaxL] (l:List (By×By)) (hl:l.length<b9) (t:Sy):SC Tryz.prog 49 [.sl .none (nK l),.fn (.func 50) [] [.ptr 0 0]] [.box 67 (E8 t)] (.val (.b (l.any fun x=>x.2==t.name))) [.box 67 (E8 t)]:=by
 have hi:=rE (fun x:By×By=>zO [.s x.1,.s x.2]) l hl (fun x=>x.2==t.name) _ 67 (E8 t) _ 2 (fun x _=>a5a x t) (.inr (.inr (.inr (.inr (.inr (.inr (.inr (.inr (.inr ⟨rfl,rfl,rfl⟩)))))))));refine cO Tryz.func49 rfl ?_;conv=>whnf
 refine cS [0] hi ?_;conv=>whnf
 rw[<-l8];exact cQ 1
theorem XX {α:Type} {p:α->Bool} {f:α->By} {l:List α} {i:Nat} {x:α} (hx:l[i]?=some x):((l.take (i+1)).filter p).map f=((l.take i).filter p).map f++(if p x then[f x] else[]):=by
 rw[aT,hx,List.filter_append,b5];cases h:p x<;>simp[h]
theorem DO {α:Type} {p:α->Bool} {f:α->By} {l:List α} {i:Nat} {x:α} {o:List By} (hx:l[i]?=some x) (ho:o=((l.take i).filter p).map f) (h:p x=true):o++[f x]=((l.take (i+1)).filter p).map f:=by rw[XX hx,<-ho,aD h]
theorem HZ {α:Type} {p:α->Bool} {f:α->By} {l:List α} {i:Nat} {x:α} {o:List By} (hx:l[i]?=some x) (ho:o=((l.take i).filter p).map f) (h:p x=false):o=((l.take (i+1)).filter p).map f:=by rw[XX hx,<-ho,aC (by rw[h];simp),f5]
set_option synthInstance.maxSize 4000 in
theorem a0i [MaxL] (s:Sch) (hz:kO s) (v:Vw) (hv:wD v):SC Tryz.prog 17 [lT s,k7 v] [] (.val (.tup [.sl .none (bR (if(wA s v).2.2=0 then(DJ s v).1 else[])),.sl .none (bR (if(wA s v).2.2=0 then(DJ s v).2 else[])),.i .i64 (if(wA s v).2.2=0 then 0 else 1)])) []:=by
 have hV:=NO s hz v hv;by_cases h0:(wA s v).2.2=0;rotate_left
 ·rw[aC h0,aC h0,aC h0];rw[show((wA s v).2.2==0)=false by simpa using h0] at hV;refine cO Tryz.func17 rfl ?_;conv=>whnf
  refine cP hV ?_;conv=>whnf
  exact cQ 0 (hw:=Wk.tupl (wC (bY _ _) (wC (bY _ _) (wR _))))
 rw[aD h0,aD h0,aD h0];obtain⟨c1,c2⟩:=HD (a0X h0);rw[show((wA s v).2.2==0)=true by simpa using h0] at hV;clear h0;have hA:(DJ s v).1=(s.rc.filter fun r=>!(kJ v r.name).isSome).map (·.name):=rfl;have hB:(DJ s v).2=(s.st.filter fun t=>!v.sets.any fun p=>p.2==t.name).map (·.name):=rfl;have l1:(pU s.rc).length=s.rc.length:=cL _ _;have l2:(tQ s.st).length=s.st.length:=cL _ _;generalize DJ s v=H at*;obtain⟨A,B⟩:=H;replace hA:A=_:=hA;replace hB:B=_:=hB;refine cO Tryz.func17 rfl ?_;conv=>whnf
 refine cP hV ?_;conv=>whnf
 refine bE 4 s.rc.length (fun i (o:List By)=>o=((s.rc.take i).filter fun r=>!(kJ v r.name).isSome).map (·.name)) (fun i o=>[(2,.ptr 0 0),(3,.ptr 1 0),(4,.sl (.own 2) (bR o)),(5,.sl (.own 3) []),(18,.sl .none (pU s.rc)),(19,.i .i64 (pU s.rc).length),(20,.i .i64 (i:Nat))]) (fun _ o=>[.box 26 (jX s),.box 30 (j9 v),ow 9 1 o.length,.own 0 0 0]) [] [] rfl (fun i o φ0 hi ho=>?_) (hh:=fun _ _=>by simp only[e8,l5];rfl);conv=>whnf
 apply gM<;>intro h<;>conv=>whnf
 ·have hlt:i<s.rc.length:=by have:=aB h;omega
  refine(d7 hlt).elim fun r hr=>?_;have hS:=ED v hv.1 r.name;have hol:o.length<=10:=by rw[ho,b6];exact dG (eW _ _) (by rw[aS];omega)
  refine ix (aY hr) ⟨rfl,?_⟩;conv=>whnf
  refine st ?_;conv=>whnf
  refine cP hS ?_;conv=>whnf
  refine st ?_;conv=>whnf
  apply gM<;>intro h5<;>conv=>whnf
  rotate_left
  ·exact nx o hlt ⟨hlt,HZ hr ho h5⟩
  have hn:=DO hr ho h5;cases o with
  |nil=>
   refine L9 (f:=GV.s) (c:=1) (fun _=>rfl) [] r.name rfl (by omega) ?_;(conv=>whnf);refine aN ?_;(conv=>whnf);exact nx ([]++[r.name]) hlt ⟨hlt,hn⟩
  |cons z zs=>
   refine L9 (f:=GV.s) (c:=1) (fun _=>rfl) (z::zs) r.name rfl (by omega) ?_;(conv=>whnf);refine aN ?_ (h:=(cD (z::zs)).symm);(conv=>whnf);exact nx ((z::zs)++[r.name]) hlt ⟨hlt,hn⟩
 have hoA:o=A:=by rw[ho,hA,aW (by have:=aA h;omega)]
 clear ho hA;subst hoA;refine bE 4 s.st.length (fun i (q:List By)=>q=((s.st.take i).filter fun t=>!v.sets.any fun p=>p.2==t.name).map (·.name)) (fun i q=>[(2,.ptr 0 0),(3,.ptr 1 0),(4,.sl (.own 2) (bR o)),(5,.sl (.own 3) (bR q)),(40,.sl .none (tQ s.st)),(41,.i .i64 (tQ s.st).length),(42,.i .i64 (i:Nat))]) (fun _ q=>[.box 26 (jX s),.box 30 (j9 v),ow 9 1 o.length,ow 9 1 q.length]) [] [] rfl (fun i q φ1 hi ho=>?_) (hh:=fun _ _=>by simp only[e8,l5];rfl);conv=>whnf
 apply gM<;>intro h<;>conv=>whnf
 ·have hlt:i<s.st.length:=by have:=aB h;omega
  refine(d7 hlt).elim fun t ht=>?_;have hS:=a5Z v.sets hv.2.1 t;have hol:q.length<=60:=by rw[ho,b6];exact dG (eW _ _) (by rw[aS];omega)
  refine ix (aY ht) ⟨rfl,?_⟩;conv=>whnf
  refine st ?_;conv=>whnf
  refine cS [4] hS ?_;conv=>whnf
  apply gM<;>intro h5<;>conv=>whnf
  rotate_left
  ·exact nx q hlt ⟨hlt,HZ ht ho h5⟩
  have hn:=DO ht ho h5;cases q with
  |nil=>
   refine L9 (f:=GV.s) (c:=1) (fun _=>rfl) [] t.name rfl (by omega) ?_;(conv=>whnf);refine aN ?_;(conv=>whnf);exact nx ([]++[t.name]) hlt ⟨hlt,hn⟩
  |cons z zs=>
   refine L9 (f:=GV.s) (c:=1) (fun _=>rfl) (z::zs) t.name rfl (by omega) ?_;(conv=>whnf);refine aN ?_ (h:=(cD (z::zs)).symm);(conv=>whnf);exact nx ((z::zs)++[t.name]) hlt ⟨hlt,hn⟩
 have hoB:q=B:=by rw[ho,hB,aW (by have:=aA h;omega)]
 subst hoB;exact cQ 0 (hw:=Wk.tupl (wC (bY _ _) (wC (bY _ _) (wR _))))
variable [Globals]
theorem Wk.slEl {k:Tok} {xs ys:List GV} (hl:xs.length=ys.length) (h:∀(i:Nat) x y,xs[i]?=some x->ys[i]?=some y->x.cells.length=y.cells.length/\∀(j:Nat) g g',x.cells[j]?=some g->y.cells[j]?=some g'->Wk g g'):Wk (.sl k xs) (.sl k ys):=fun C v hv=>by
 cases hv with
 |sl esz b off us hn hc ha hw hx hvv ht=>
 have at_:∀(i:Nat) y,ys[i]?=some y->∃x,xs[i]?=some x:=fun i y hy=>by
  have:i<xs.length:=by rw[hl];exact(List.getElem?_eq_some_iff.1 hy).1
  exact⟨xs[i],gL this⟩
 have cell:∀(i:Nat) y (j:Nat) g,ys[i]?=some y->y.cells[j]?=some g->∃x g0,xs[i]?=some x/\x.cells[j]?=some g0/\Wk g0 g:=fun i y j g h1 h2=>by
  obtain⟨x,hx0⟩:=at_ i y h1;obtain⟨h3,h4⟩:=h i x y hx0 h1;have:j<x.cells.length:=by rw[h3];exact(List.getElem?_eq_some_iff.1 h2).1
  exact⟨x,x.cells[j],hx0,gL this,h4 j _ g (gL this) h2⟩
 refine .sl esz b off us (hn.trans hl) hc ha (fun y hy=>?_) (fun i y j g h1 h2=>?_) (fun i y j g h1 h2=>?_) (by rw[<-hl];exact ht)
 ·obtain⟨i,hi⟩:=List.mem_iff_getElem?.1 hy;obtain⟨x,hx0⟩:=at_ i y hi;rw[<-(h i x y hx0 hi).1];exact hw x (List.mem_iff_getElem?.2 ⟨i,hx0⟩)
 ·obtain⟨x,g0,q1,q2,_⟩:=cell i y j g h1 h2;exact hx i x j g0 q1 q2
 ·obtain⟨x,g0,q1,q2,q3⟩:=cell i y j g h1 h2;exact q3 C _ (hvv i x j g0 q1 q2)
end
section
open Go.RowKit
section
variable [Globals]
def LessX [MaxL] (x y:GObj):Prop:=∀(C:Cx) (w:World) (i:Nat),ORel C w i x->ORel C w i y
def LessL [MaxL]:List GObj->List GObj->Prop
 |[],[]=>True
 |x::s,y::t=>LessX x y/\LessL s t
 |_,_=>False
theorem LessX.refl [MaxL] (x:GObj):LessX x x:=fun _ _ _ h=>h
theorem LessX.box [MaxL] {T:TypeId} {cs cs':List GV} (hl:cs.length=cs'.length) (hw:∀(j:Nat) g g',cs[j]?=some g->cs'[j]?=some g'->Wk g g'):LessX (.box T cs) (.box T cs'):=fun C w i h=>h.box_less hl hw
theorem LessX.dead1 [MaxL] {T:TypeId} {cs:List GV}:LessX (.box T cs) .dead:=fun C w i ⟨h0,b,vs,h1,h2,_⟩=>⟨.inr h0,fun b' hb'=>by
 rw[j1 h1] at hb';cases hb';exact(Array.getElem?_eq_some_iff.1 h2).1⟩
theorem LessX.dead2 [MaxL] {n z t:Nat}:LessX (.own n z t) .dead:=fun C w i ⟨h0,I,h1,_,_,h4⟩=>⟨.inl h0,fun b hb=>by
 unfold eI at hb;rw[h0,h1] at hb;cases hq:I.blk with
 |none=>simp[hq] at hb
 |some p=>
  obtain⟨b1,sz⟩:=p;have hb1:b1=b:=by simpa[hq] using hb
  subst hb1;obtain⟨_,vs,h5,_⟩:=h4 b1 sz hq;exact(Array.getElem?_eq_some_iff.1 h5).1⟩
theorem LessL.at_ [MaxL]:∀{s t:List GObj},LessL s t->t.length=s.length/\∀(i:Nat) a b,s[i]?=some a->t[i]?=some b->LessX a b
 |[],[],_=>⟨rfl,fun _ _ _ h=>by cases h⟩
 |x::s,y::t,⟨h1,h2⟩=>by
  obtain⟨h3,h4⟩:=LessL.at_ h2;refine⟨by rw[aI,aI,h3],fun i a b ha hb=>?_⟩;cases i with
  |zero=>cases ha;cases hb;exact h1
  |succ i=>exact h4 i a b ha hb
 |[],_::_,h=>h.elim
 |_::_,[],h=>h.elim
theorem LessL.less [MaxL] {s t:List GObj} (h:LessL s t):LessO s t:=⟨h.at_.1,fun C w i a b ha hb hx=>h.at_.2 i a b ha hb C w i hx⟩
theorem GLoop.rngW [MaxL] {β:Type} {f:r7} {φ:Fr} {σ:GS} {K:GX->Fr->GS->Prop} (m n:Nat) (I:Nat->β->Prop) (L:Nat->β->List (Nat×GV)) (O:Nat->β->List GObj) (b0:β) (h0:I 0 b0)
  (hO:∀i b,FH (O i b).length (O i b)) (hm:∀i b,m<=(O i b).length) (hh:∀i b,(O i b).all GObj.notHeld=true)
  (step:∀i b φ0,i<=n->I i b->f (AI φ0 (L i b)) ⟨O i b,0,[]⟩ fun x φ' σ'=>match x with
   |.normal=>∃m',m'<n - i/\∃a':Nat×β,(a'.1<=n/\I a'.1 a'.2)/\n - a'.1=m'/\kT φ' (L a'.1 a'.2)/\∃s,LessO σ'.objs s/\∃extra,s=O a'.1 a'.2++extra/\σ'.ds=[]
   |.exit i=>K (.exit i) φ' σ'
   |.ret=>K .ret φ' σ'
   |.panic g=>K (.panic g) φ' σ')
  (hφ:kT φ (L 0 b0):=by repeat' first|exact trivial|exact rfl|refine And.intro ?_ ?_) (hσ:σ=⟨O 0 b0,0,[]⟩:=by rfl) (hm0:(O 0 b0).length=m:=by rfl) (i2:∀i b,FP m (L i b):=by intros;repeat first|exact FP.nil|refine FP.cons ?_):GLoop f φ σ K:=
 GLoop.introW (fun q:Nat×β=>q.1<=n/\I q.1 q.2) (fun q=>L q.1 q.2) (fun q=>⟨O q.1 q.2,0,[]⟩) (fun q=>n - q.1) (0,b0) ⟨zL _,h0⟩ hφ hσ (fun q _=>by show(O 0 b0).length<=_;rw[hm0];exact hm _ _) (fun q _=>hh q.1 q.2)
  (fun q hq e he=>⟨(hO q.1 q.2).h e he,rfl,(i2 q.1 q.2).h e fun i hi=>he i (cI hi (hm q.1 q.2))⟩) (fun q φ0 hq=>step q.1 q.2 φ0 hq.1 hq.2)
theorem TF [MaxL] {β:Type} {n i:Nat} {J A:Nat×β->Prop} {O:Nat×β->List GObj} {objs:List GObj} {ds:List GDef} (b':β) (extra:List GObj) (hlt:i<n) (hJ:J (i+1,b')) (hL:LessL objs (O (i+1,b')++extra))
  (ha:A (i+1,b'):=by repeat' first|exact trivial|exact rfl|exact bH (by omega)|refine And.intro ?_ ?_) (hd:ds=[]:=by rfl):
  ∃m',m'<n - i/\∃a',J a'/\n - a'.1=m'/\A a'/\∃s,LessO objs s/\∃extra,s=O a'++extra/\ds=[]:=
 ⟨n - (i+1),by omega,(i+1,b'),hJ,rfl,ha,_,hL.less,extra,rfl,hd⟩
end
theorem LessX.boxW [MaxL] {T:TypeId} {cs cs':List GV} (h:Wks cs cs'):LessX (.box T cs) (.box T cs'):=.box h.at_.1 h.at_.2
theorem Wk.last [MaxL] {k:Tok} {xs:List GV} {a b:GV} (h:Wks a.cells b.cells):Wk (.sl k (xs++[a])) (.sl k (xs++[b])):=Wk.slEl (by simp) fun i x y h1 h2=>by
 rcases Nat.lt_trichotomy i xs.length with hi|hi|hi
 ·rw[b7 hi] at h1 h2;rw[h1] at h2;cases h2;exact⟨rfl,fun j g g' g1 g2=>by rw[g1] at g2;cases g2;exact .refl _⟩
 ·subst hi;rw[cJ (rL _),Nat.sub_self] at h1 h2;cases h1;cases h2;exact h.at_
 ·rw[bG (by simp;omega)] at h1;cases h1
theorem Wk.recs [MaxL] {k:Tok} {l:List VwR} {a:GV} {y:VwR} (h:Wks a.cells (rM y)):Wk (.sl k (fP l++[a])) (.sl k (fP (l++[y]))):=by
 rw[show fP (l++[y])=fP l++[uQ y] by unfold fP;rw[b5];rfl];exact Wk.last h
def yS (r:Rc):VwR:=⟨r.name,r.name,r.its.map fun x=>(x.name,x.name),[]⟩
def a0I (s:Sch):Vw:=⟨s.rc.map yS,s.st.map fun t=>(t.name,t.name)⟩
def alO (s:Sch):List VwR->List GObj
 |[]=>[.box 26 (jX s),.box 30 [.sl .full [],.sl .full []],.box 30 [.sl .full [],.sl .full []]]
 |x::l=>[.box 26 (jX s),.box 30 [.sl .full [],.sl .full []],.box 30 [.sl (.own 9) (fP (x::l)),.sl .full []],.dead,.dead,.dead,.dead,.dead,.dead,.own (l.length+1) 4 74]
def a6u (s:Sch) (r:Rc):List (By×By)->List GObj
 |[]=>[.box 26 (jX s),.box 30 [.sl .full [],.sl .full []],.box 30 [.sl .full [],.sl .full []],.box 58 (LD r),.box 74 [.s r.name,.s r.name,.sl .full [],.s []]]
 |p::q=>[.box 26 (jX s),.box 30 [.sl .full [],.sl .full []],.box 30 [.sl .full [],.sl .full []],.box 58 (LD r),.box 74 [.s r.name,.s r.name,.sl (.own 7) (nK (p::q)),.s []],.dead,.dead,.own (q.length+1) 2 76]
def a6s (s:Sch) (x:VwR) (l:List VwR) (r:Rc):List (By×By)->List GObj
 |[]=>[.box 26 (jX s),.box 30 [.sl .full [],.sl .full []],.box 30 [.sl (.own 9) (fP (x::l)),.sl .full []],.dead,.dead,.dead,.dead,.dead,.dead,.own (l.length+1) 4 74,.box 58 (LD r),.box 74 [.s r.name,.s r.name,.sl .full [],.s []]]
 |p::q=>[.box 26 (jX s),.box 30 [.sl .full [],.sl .full []],.box 30 [.sl (.own 9) (fP (x::l)),.sl .full []],.dead,.dead,.dead,.dead,.dead,.dead,.own (l.length+1) 4 74,.box 58 (LD r),.box 74 [.s r.name,.s r.name,.sl (.own 14) (nK (p::q)),.s []],.dead,.dead,.own (q.length+1) 2 76]
def alS (s:Sch) (x:VwR) (l:List VwR):List (By×By)->List GObj
 |[]=>alO s (x::l)
 |p::q=>[.box 26 (jX s),.box 30 [.sl .full [],.sl .full []],.box 30 [.sl (.own 9) (fP (x::l)),.sl (.own 12) (nK (p::q))],.dead,.dead,.dead,.dead,.dead,.dead,.own (l.length+1) 4 74,.dead,.dead,.own (q.length+1) 2 77]
set_option synthInstance.maxSize 4000 in
theorem a5L [MaxL] (s:Sch) (l:List VwR):FH (alO s l).length (alO s l):=by
 cases l with
 |nil=>show FH 3 [_,_,_];infer_instance
 |cons x l=>show FH 10 [_,_,_,_,_,_,_,_,_,_];infer_instance
set_option synthInstance.maxSize 4000 in
theorem a6t [MaxL] (s:Sch) (r:Rc) (l:List (By×By)):FH (a6u s r l).length (a6u s r l):=by
 cases l with
 |nil=>show FH 5 [_,_,_,_,_];infer_instance
 |cons x l=>show FH 8 [_,_,_,_,_,_,_,_];infer_instance
set_option synthInstance.maxSize 4000 in
theorem a6r [MaxL] (s:Sch) (x:VwR) (y:List VwR) (r:Rc) (l:List (By×By)):FH (a6s s x y r l).length (a6s s x y r l):=by
 cases l with
 |nil=>show FH 12 [_,_,_,_,_,_,_,_,_,_,_,_];infer_instance
 |cons z l=>show FH 15 [_,_,_,_,_,_,_,_,_,_,_,_,_,_,_];infer_instance
set_option synthInstance.maxSize 4000 in
theorem a82 [MaxL] (s:Sch) (x:VwR) (y:List VwR) (l:List (By×By)):FH (alS s x y l).length (alS s x y l):=by
 cases l with
 |nil=>exact a5L s (x::y)
 |cons z l=>show FH 13 [_,_,_,_,_,_,_,_,_,_,_,_,_];infer_instance
set_option synthInstance.maxSize 4000 in
set_option maxHeartbeats 4000000 in
theorem a7D [MaxL] (s:Sch) (hz:kO s):SC Tryz.prog 12 [lT s] [] (.val (.tup [if(kY s).2.2=0 then k7 (a0I s) else k7 ⟨[],[]⟩,.i .i64 (if(kY s).2.2=0 then 0 else 1)])) []:=by
 have hV:=WP s hz;by_cases h0:(kY s).2.2=0;rotate_left
 ·rw[aC h0,aC h0];rw[show((kY s).2.2==0)=false by simpa using h0] at hV;refine cO Tryz.func12 rfl ?_;conv=>whnf
  refine cP hV ?_;conv=>whnf
  refine st ?_;conv=>whnf
  refine cQ 0 (hw:=?_);exact Wk.tupl (wC (Wks.agg (wC (bY _ _) (wC (bY _ _) (wR _)))) (wR _))
 rw[aD h0,aD h0];obtain⟨c1,c2⟩:=HD h0;have c3:1<=s.rc.length:=by have:=(xV (s:=s) h0).2.2.1;unfold t8 at this;simp at this;omega
 have hits:∀r∈s.rc,r.its≠[]/\r.its.length<=8:=fun r hr=>by
  obtain⟨i,hi⟩:=wF h0 hr;refine⟨fun e=>?_,(wE hi).2.1⟩;unfold wO J2 at hi;unfold gJ at hi;obtain⟨-,hi⟩:=bM hi (by decide);obtain⟨-,hi⟩:=bM hi (by decide);obtain⟨-,hi⟩:=bM hi (by decide);obtain⟨hk, -⟩:=bM hi (by decide);have hk2:kR r.its=true:=by simpa using(Bool.or_eq_false_iff.1 hk).1
  rw[e] at hk2;cases hk2
 rw[show((kY s).2.2==0)=true by simpa using h0] at hV;have l1:(pU s.rc).length=s.rc.length:=cL _ _;have l2:(tQ s.st).length=s.st.length:=cL _ _;clear h0;refine cO Tryz.func12 rfl ?_;conv=>whnf
 refine cP hV ?_;conv=>whnf
 refine GLoop.rngW 3 s.rc.length (fun i l=>l=(s.rc.take i).map yS) (fun i l=>[(1,.ptr 0 0),(2,.ptr 1 0),(4,.ptr 2 0),(17,.sl .none (pU s.rc)),(18,.i .i64 (pU s.rc).length),(19,.i .i64 (i:Nat))]) (fun _ l=>alO s l) [] rfl (fun _ l=>a5L s l) (fun _ l=>by cases l<;>exact bL rfl) (fun _ l=>by cases l<;>rfl) (fun i l φ0 hi hb=>?_);have hend:¬i<s.rc.length->l=s.rc.map yS:=fun h=>by rw[hb,aW (by omega)]
 have hstep:∀r,s.rc[i]?=some r->l++[yS r]=(s.rc.take (i+1)).map yS:=fun r hr=>by rw[aT,hr,b5,<-hb];rfl
 have hll:l.length<=10:=by rw[hb,b6,aS];omega
 clear hb;cases l with
 |nil=>
  conv=>whnf
  apply gM<;>intro h<;>conv=>whnf
  rotate_left
  ·exfalso;have h1:=hend (by have:=aA h;omega);have h2:=aR List.length h1;rw[b6] at h2;simp at h2;omega
  have hlt:i<s.rc.length:=by have:=aB h;omega
  refine(d7 hlt).elim fun r hr=>?_;have hrn:=hits r (aE hr);have l3:(fM r.its).length=r.its.length:=cL _ _;refine ix (aY hr) ⟨rfl,?_⟩;conv=>whnf
  refine st ?_;conv=>whnf
  refine st ?_;conv=>whnf
  refine GLoop.rngW 5 r.its.length (fun k q=>q=(r.its.take k).map fun x=>(x.name,x.name)) (fun k q=>[(1,.ptr 0 0),(2,.ptr 1 0),(4,.ptr 2 0),(7,.ptr 4 0),(17,.sl .none (pU s.rc)),(18,.i .i64 (pU s.rc).length),(19,.i .i64 (i:Nat)),(29,.sl .none (fM r.its)),(30,.i .i64 (fM r.its).length),(31,.i .i64 (k:Nat))]) (fun _ q=>a6u s r q) [] rfl (fun _ q=>a6t s r q) (fun _ q=>by cases q<;>exact bL rfl) (fun _ q=>by cases q<;>rfl) (fun k q φ1 hk hq=>?_);have hqe:¬k<r.its.length->q=r.its.map fun x=>(x.name,x.name):=fun h=>by rw[hq,aW (by omega)]
  have hqs:∀y,r.its[k]?=some y->q++[(y.name,y.name)]=(r.its.take (k+1)).map fun x=>(x.name,x.name):=fun y hy=>by rw[aT,hy,b5,<-hq];rfl
  have hql:q.length<=8:=by rw[hq,b6,aS];omega
  clear hq;cases q with
  |nil=>
   (conv=>whnf);apply gM<;>intro h5<;>conv=>whnf
   rotate_left
   ·exfalso;have h1:=hqe (by have:=aA h5;omega);exact hrn.1 (List.map_eq_nil_iff.1 h1.symm)
   have hlt2:k<r.its.length:=by have:=aB h5;omega
   refine(d7 hlt2).elim fun y hy=>?_;refine ix (aY hy) ⟨rfl,?_⟩;(conv=>whnf);refine st ?_;(conv=>whnf);refine⟨⟨rfl,rfl,bL rfl⟩,nK [(y.name,y.name)],1,⟨rfl,rfl⟩,?_⟩;(conv=>whnf);refine st ?_;(conv=>whnf);exact TF ([]++[(y.name,y.name)]) [] hlt2 ⟨hlt2,hqs y hy⟩ ⟨.refl _,.refl _,.refl _,.refl _,.refl _,.dead1,.dead2,.refl _,trivial⟩
  |cons p q=>
   (conv=>whnf);apply gM<;>intro h5<;>conv=>whnf
   ·have hlt2:k<r.its.length:=by have:=aB h5;omega
    refine(d7 hlt2).elim fun y hy=>?_;refine ix (aY hy) ⟨rfl,?_⟩;(conv=>whnf);refine st ?_;(conv=>whnf);refine L9 (f:=mU) (c:=2) (fun _=>rfl) (p::q) (y.name,y.name) rfl (by omega) ?_;(conv=>whnf);refine aN ?_ (h:=(cL mU (p::q)).symm);(conv=>whnf);refine st ?_;(conv=>whnf);exact TF ((p::q)++[(y.name,y.name)]) [.dead,.dead] hlt2 ⟨hlt2,hqs y hy⟩ ⟨.refl _,.refl _,.refl _,.refl _,.refl _,.refl _,.refl _,.refl _,.dead1,.dead2,trivial⟩
   have hs:=hstep r hr;rw[show yS r=⟨r.name,r.name,p::q,[]⟩ by unfold yS;rw[<-hqe (by have:=aA h5;omega)]] at hs;refine⟨⟨rfl,rfl,bL rfl⟩,_,1,⟨rfl,rfl⟩,?_⟩;(conv=>whnf);refine st ?_;(conv=>whnf);exact TF ([]++[(⟨r.name,r.name,p::q,[]⟩:VwR)]) [] hlt ⟨hlt,hs⟩ ⟨.refl _,.refl _,.boxW (wC (Wk.recs (l:=[]) (wC (bF _) (wC (bF _) (wC (bY _ _) (wR _))))) (wR _)),.dead1,.dead1,.refl _,.refl _,.dead2,.dead2,.refl _,trivial⟩
 |cons x l=>
  conv=>whnf
  apply gM<;>intro h<;>conv=>whnf
  ·have hlt:i<s.rc.length:=by have:=aB h;omega
   refine(d7 hlt).elim fun r hr=>?_;have hrn:=hits r (aE hr);have l3:(fM r.its).length=r.its.length:=cL _ _;refine ix (aY hr) ⟨rfl,?_⟩;(conv=>whnf);refine st ?_;(conv=>whnf);refine st ?_;(conv=>whnf);refine GLoop.rngW 12 r.its.length (fun k q=>q=(r.its.take k).map fun x=>(x.name,x.name)) (fun k q=>[(1,.ptr 0 0),(2,.ptr 1 0),(4,.ptr 2 0),(7,.ptr 11 0),(17,.sl .none (pU s.rc)),(18,.i .i64 (pU s.rc).length),(19,.i .i64 (i:Nat)),(29,.sl .none (fM r.its)),(30,.i .i64 (fM r.its).length),(31,.i .i64 (k:Nat))]) (fun _ q=>a6s s x l r q) [] rfl (fun _ q=>a6r s x l r q) (fun _ q=>by cases q<;>exact bL rfl) (fun _ q=>by cases q<;>rfl) (fun k q φ1 hk hq=>?_);have hqe:¬k<r.its.length->q=r.its.map fun x=>(x.name,x.name):=fun h=>by rw[hq,aW (by omega)]
   have hqs:∀y,r.its[k]?=some y->q++[(y.name,y.name)]=(r.its.take (k+1)).map fun x=>(x.name,x.name):=fun y hy=>by rw[aT,hy,b5,<-hq];rfl
   have hql:q.length<=8:=by rw[hq,b6,aS];omega
   clear hq;cases q with
   |nil=>
    (conv=>whnf);apply gM<;>intro h5<;>conv=>whnf
    rotate_left
    ·exfalso;have h1:=hqe (by have:=aA h5;omega);exact hrn.1 (List.map_eq_nil_iff.1 h1.symm)
    have hlt2:k<r.its.length:=by have:=aB h5;omega
    refine(d7 hlt2).elim fun y hy=>?_;refine ix (aY hy) ⟨rfl,?_⟩;(conv=>whnf);refine st ?_;(conv=>whnf);refine⟨⟨rfl,rfl,bL rfl⟩,nK [(y.name,y.name)],1,⟨rfl,rfl⟩,?_⟩;(conv=>whnf);refine st ?_;(conv=>whnf);exact TF ([]++[(y.name,y.name)]) [] hlt2 ⟨hlt2,hqs y hy⟩ ⟨.refl _,.refl _,.refl _,.refl _,.refl _,.refl _,.refl _,.refl _,.refl _,.refl _,.refl _,.refl _,.dead1,.dead2,.refl _,trivial⟩
   |cons p q=>
    (conv=>whnf);apply gM<;>intro h5<;>conv=>whnf
    ·have hlt2:k<r.its.length:=by have:=aB h5;omega
     refine(d7 hlt2).elim fun y hy=>?_;refine ix (aY hy) ⟨rfl,?_⟩;(conv=>whnf);refine st ?_;(conv=>whnf);refine L9 (f:=mU) (c:=2) (fun _=>rfl) (p::q) (y.name,y.name) rfl (by omega) ?_;(conv=>whnf);refine aN ?_ (h:=(cL mU (p::q)).symm);(conv=>whnf);refine st ?_;(conv=>whnf);exact TF ((p::q)++[(y.name,y.name)]) [.dead,.dead] hlt2 ⟨hlt2,hqs y hy⟩ ⟨.refl _,.refl _,.refl _,.refl _,.refl _,.refl _,.refl _,.refl _,.refl _,.refl _,.refl _,.refl _,.refl _,.refl _,.refl _,.dead1,.dead2,trivial⟩
    have hs:=hstep r hr;rw[show yS r=⟨r.name,r.name,p::q,[]⟩ by unfold yS;rw[<-hqe (by have:=aA h5;omega)]] at hs;refine⟨⟨rfl,by rw[aQ];intro z hz;obtain⟨b,_,rfl⟩:=List.mem_map.1 hz;rfl,by show(fP (x::l)).length+1<=4294967296;rw[lJ];omega⟩,_,((x::l)++[(⟨r.name,r.name,p::q,[]⟩:VwR)]).length,⟨rfl,by show _=(fP (x::l)).length+1;rw[lJ,aG];rfl⟩,?_⟩;(conv=>whnf);refine aN ?_ (h:=(lJ (x::l)).symm);(conv=>whnf);refine st ?_;(conv=>whnf);exact TF ((x::l)++[(⟨r.name,r.name,p::q,[]⟩:VwR)]) [.dead,.dead,.dead,.dead,.dead,.dead] hlt ⟨hlt,hs⟩ ⟨.refl _,.refl _,.boxW (wC (Wk.recs (l:=x::l) (wC (bF _) (wC (bF _) (wC (bY _ _) (wR _))))) (wR _)),.refl _,.refl _,.refl _,.refl _,.refl _,.refl _,.refl _,.dead1,.dead1,.refl _,.refl _,.dead2,.dead2,trivial⟩
  have hrs:=hend (by have:=aA h;omega);refine GLoop.rngW 10 s.st.length (fun k q=>q=(s.st.take k).map fun t=>(t.name,t.name)) (fun k q=>[(1,.ptr 0 0),(2,.ptr 1 0),(4,.ptr 2 0),(54,.sl .none (tQ s.st)),(55,.i .i64 (tQ s.st).length),(56,.i .i64 (k:Nat))]) (fun _ q=>alS s x l q) [] rfl (fun _ q=>a82 s x l q) (fun _ q=>by cases q<;>exact bL rfl) (fun _ q=>by cases q<;>rfl) (fun k q φ1 hk hq=>?_);have hqe:¬k<s.st.length->q=s.st.map fun t=>(t.name,t.name):=fun h=>by rw[hq,aW (by omega)]
  have hqs:∀y,s.st[k]?=some y->q++[(y.name,y.name)]=(s.st.take (k+1)).map fun t=>(t.name,t.name):=fun y hy=>by rw[aT,hy,b5,<-hq];rfl
  have hql:q.length<=60:=by rw[hq,b6,aS];omega
  clear hq;have hall:¬k<s.st.length->a0I s=⟨x::l,q⟩:=fun h=>by unfold a0I;rw[hrs,hqe h]
  cases q with
  |nil=>
   (conv=>whnf);apply gM<;>intro h5<;>conv=>whnf
   ·have hlt2:k<s.st.length:=by have:=aB h5;omega
    refine(d7 hlt2).elim fun y hy=>?_;refine ix (aY hy) ⟨rfl,?_⟩;(conv=>whnf);refine st ?_;(conv=>whnf);refine⟨⟨rfl,rfl,bL rfl⟩,nK [(y.name,y.name)],1,⟨rfl,rfl⟩,?_⟩;(conv=>whnf);refine st ?_;(conv=>whnf);exact TF ([]++[(y.name,y.name)]) [] hlt2 ⟨hlt2,hqs y hy⟩ ⟨.refl _,.refl _,.refl _,.refl _,.refl _,.refl _,.refl _,.refl _,.refl _,.refl _,.dead1,.dead2,.refl _,trivial⟩
   ·rw[hall (by have:=aA h5;omega)];refine st ?_;(conv=>whnf);refine cQ 0 (hw:=?_);exact Wk.tupl (wC (Wks.agg (wC (bY _ _) (wC (bY _ _) (wR _)))) (wR _))
  |cons p q=>
   (conv=>whnf);apply gM<;>intro h5<;>conv=>whnf
   ·have hlt2:k<s.st.length:=by have:=aB h5;omega
    refine(d7 hlt2).elim fun y hy=>?_;refine ix (aY hy) ⟨rfl,?_⟩;(conv=>whnf);refine st ?_;(conv=>whnf);refine L9 (f:=mU) (c:=2) (fun _=>rfl) (p::q) (y.name,y.name) rfl (by omega) ?_;(conv=>whnf);refine aN ?_ (h:=(cL mU (p::q)).symm);(conv=>whnf);refine st ?_;(conv=>whnf);exact TF ((p::q)++[(y.name,y.name)]) [.dead,.dead] hlt2 ⟨hlt2,hqs y hy⟩ ⟨.refl _,.refl _,.refl _,.refl _,.refl _,.refl _,.refl _,.refl _,.refl _,.refl _,.refl _,.refl _,.refl _,.dead1,.dead2,trivial⟩
   ·rw[hall (by have:=aA h5;omega)];refine st ?_;(conv=>whnf);refine cQ 0 (hw:=?_);exact Wk.tupl (wC (Wks.agg (wC (bY _ _) (wC (bY _ _) (wR _)))) (wR _))
end
section
open Go.RowKit
theorem qN [MaxL] (v:Vw) (hl:v.recs.length<b9) (n:By):SC Tryz.prog 51 [k7 v,.s n] [] (.val (.i .i64 (jJ (fun a=>a.of==n) v.recs))) []:=by
 have hlen:(fP v.recs).length=v.recs.length:=cL _ _;unfold b9 at hl;refine cO Tryz.func51 rfl ?_;conv=>whnf
 refine bE 1 v.recs.length (fun i _=>∀a∈v.recs.take i,(a.of==n)=false) (fun i _=>[(2,.ptr 0 0),(1,.s n),(5,.i .i64 (i:Nat))]) (fun _ (_:Unit)=>[.box 30 (j9 v)]) [] () (by simp) (fun i _ φ0 hi hne=>?_);conv=>whnf
 apply gM<;>intro h<;>conv=>whnf
 rotate_left
 ·have hie:i=v.recs.length:=by have:=aA h;omega
  rw[hie,aV] at hne;rw[nJ hne];exact cQ 0
 have hlt:i<v.recs.length:=by have:=aB h;omega
 refine(d7 hlt).elim fun y hy=>?_;refine ix (aY hy) ⟨rfl,?_⟩;conv=>whnf
 apply gM<;>intro hp<;>conv=>whnf
 ·rw[o7 hy hp hne];exact cQ 0
 ·exact nx () hlt ⟨hlt,pV hy hp hne⟩
theorem O5 [MaxL] (v:Vw) (hl:v.recs.length<b9) (n:By):SC Tryz.prog 46 [k7 v,.s n] [] (.val (.i .i64 (jJ (fun a=>a.name==n) v.recs))) []:=by
 have hlen:(fP v.recs).length=v.recs.length:=cL _ _;unfold b9 at hl;refine cO Tryz.func46 rfl ?_;conv=>whnf
 refine bE 1 v.recs.length (fun i _=>∀a∈v.recs.take i,(a.name==n)=false) (fun i _=>[(2,.ptr 0 0),(1,.s n),(5,.i .i64 (i:Nat))]) (fun _ (_:Unit)=>[.box 30 (j9 v)]) [] () (by simp) (fun i _ φ0 hi hne=>?_);conv=>whnf
 apply gM<;>intro h<;>conv=>whnf
 rotate_left
 ·have hie:i=v.recs.length:=by have:=aA h;omega
  rw[hie,aV] at hne;rw[nJ hne];exact cQ 0
 have hlt:i<v.recs.length:=by have:=aB h;omega
 refine(d7 hlt).elim fun y hy=>?_;refine ix (aY hy) ⟨rfl,?_⟩;conv=>whnf
 apply gM<;>intro hp<;>conv=>whnf
 ·rw[o7 hy hp hne];exact cQ 0
 ·exact nx () hlt ⟨hlt,pV hy hp hne⟩
theorem O2 [MaxL] (v:Vw) (hl:v.sets.length<b9) (n:By):SC Tryz.prog 52 [k7 v,.s n] [] (.val (.i .i64 (jJ (fun a=>a.2==n) v.sets))) []:=by
 have hlen:(nK v.sets).length=v.sets.length:=cL _ _;unfold b9 at hl;refine cO Tryz.func52 rfl ?_;conv=>whnf
 refine bE 1 v.sets.length (fun i _=>∀a∈v.sets.take i,(a.2==n)=false) (fun i _=>[(2,.ptr 0 0),(1,.s n),(5,.i .i64 (i:Nat))]) (fun _ (_:Unit)=>[.box 30 (j9 v)]) [] () (by simp) (fun i _ φ0 hi hne=>?_);conv=>whnf
 apply gM<;>intro h<;>conv=>whnf
 rotate_left
 ·have hie:i=v.sets.length:=by have:=aA h;omega
  rw[hie,aV] at hne;rw[nJ hne];exact cQ 0
 have hlt:i<v.sets.length:=by have:=aB h;omega
 refine(d7 hlt).elim fun y hy=>?_;refine ix (aY hy) ⟨rfl,?_⟩;conv=>whnf
 apply gM<;>intro hp<;>conv=>whnf
 ·rw[o7 hy hp hne];exact cQ 0
 ·exact nx () hlt ⟨hlt,pV hy hp hne⟩
theorem J5 [MaxL] (v:Vw) (hl:v.sets.length<b9) (n:By):SC Tryz.prog 47 [k7 v,.s n] [] (.val (.i .i64 (jJ (fun a=>a.1==n) v.sets))) []:=by
 have hlen:(nK v.sets).length=v.sets.length:=cL _ _;unfold b9 at hl;refine cO Tryz.func47 rfl ?_;conv=>whnf
 refine bE 1 v.sets.length (fun i _=>∀a∈v.sets.take i,(a.1==n)=false) (fun i _=>[(2,.ptr 0 0),(1,.s n),(5,.i .i64 (i:Nat))]) (fun _ (_:Unit)=>[.box 30 (j9 v)]) [] () (by simp) (fun i _ φ0 hi hne=>?_);conv=>whnf
 apply gM<;>intro h<;>conv=>whnf
 rotate_left
 ·have hie:i=v.sets.length:=by have:=aA h;omega
  rw[hie,aV] at hne;rw[nJ hne];exact cQ 0
 have hlt:i<v.sets.length:=by have:=aB h;omega
 refine(d7 hlt).elim fun y hy=>?_;refine ix (aY hy) ⟨rfl,?_⟩;conv=>whnf
 apply gM<;>intro hp<;>conv=>whnf
 ·rw[o7 hy hp hne];exact cQ 0
 ·exact nx () hlt ⟨hlt,pV hy hp hne⟩
theorem a1Y [MaxL] (r:VwR) (hl:r.items.length<b9) (n:By):SC Tryz.prog 97 [uQ r,.s n] [] (.val (.s ((cW r n).getD []))) []:=by
 have hlen:(nK r.items).length=r.items.length:=cL _ _;unfold b9 at hl;refine cO Tryz.func97 rfl ?_;conv=>whnf
 refine bE 1 r.items.length (fun i _=>∀a∈r.items.take i,(a.2==n)=false) (fun i _=>[(2,.ptr 0 0),(1,.s n),(5,.i .i64 (i:Nat))]) (fun _ (_:Unit)=>[.box 74 (rM r)]) [] () (by simp) (fun i _ φ0 hi hne=>?_);conv=>whnf
 apply gM<;>intro h<;>conv=>whnf
 rotate_left
 ·have hie:i=r.items.length:=by have:=aA h;omega
  rw[hie,aV] at hne;rw[show cW r n=none by unfold cW;rw[List.find?_eq_none.2 fun a ha=>by simp[hne a ha]];rfl];exact cQ 0
 have hlt:i<r.items.length:=by have:=aB h;omega
 refine(d7 hlt).elim fun y hy=>?_;refine ix (aY hy) ⟨rfl,?_⟩;conv=>whnf
 apply gM<;>intro hp<;>conv=>whnf
 ·rw[show cW r n=some y.1 by unfold cW;rw[a2X hy hp hne];rfl];refine ix (aY hy) ⟨rfl,?_⟩;conv=>whnf
  exact cQ 0
 ·exact nx () hlt ⟨hlt,pV hy hp hne⟩
end
