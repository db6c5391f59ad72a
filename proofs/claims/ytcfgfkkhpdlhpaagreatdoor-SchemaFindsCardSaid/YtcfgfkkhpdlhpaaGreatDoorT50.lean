/-
  A part of the proof of SchemaFinds.
-/
import Derived.Test.YtcfgfkkhpdlhpaaGreatDoorT49
set_option linter.all false
set_option maxRecDepth 100000
namespace Go.Proofs.YtcfgfkkhpdlhpaaGreatDoor
open Go.RowKit
theorem MH [MaxL] {ks:List Nat} {s1 x objs:List GObj} (hn:ks.Nodup) (hl:ks.length=s1.length) (hk:∀k∈ks,k<objs.length):iI ks (s1++x) objs=iI ks s1 objs++x.map (GObj.ren (iT ks objs.length)):=by
 have hlen:(iI ks s1 objs).length=objs.length:=by rw[rW hn hl hk,yR]
 apply dS;intro r;by_cases hr:r<objs.length
 ·rw[aT (by rw[hlen];exact hr),iR hk (by rw[aD];omega),iR hk (Nat.le_of_eq hl)];unfold gX;rw[aG hr];cases h:ks.idxOf? r with
  |none=>rfl
  |some i=>
   have hi:i<s1.length:=by rw[<-hl];exact(List.idxOf?_eq_some_iff.1 h).1
   show((s1++x)[i]?).map _=(s1[i]?).map _;rw[aT hi]
 ·rw[bF (by omega),iR hk (by rw[aD];omega)];unfold gX;rw[aE hr];show((s1++x)[ks.length+(r - objs.length)]?).map _=_;rw[hlen,hl,bF (by omega),aM,show s1.length+(r - objs.length) - s1.length=r - objs.length by omega]
theorem cX [MaxL] (ks:List Nat) {P:Program} {M:FuncId->Bool} {k:FuncId} {args a a':List GV} {s t s' t' x x':List GObj} {r r':GRes} {σ:GS} {K:GRes->GS->Prop} (h:SC P k a s r (s'++x))
  [i1:RL (iT ks σ.objs.length) a a'] [i2:RH (iT ks σ.objs.length) s t] [i3:RH (iT ks σ.objs.length) s' t'] [i5:RH (iT ks σ.objs.length) x x'] [i4:RR (iT ks σ.objs.length) r r']
  (hk:K r' ⟨qT ks t' σ.objs++x',σ.lo,σ.ds⟩) (hw:Wks args a':=by first|exact wR _|exact wC (bE _ _) (wR _)|exact wC (bE _ _) (wC (bE _ _) (wR _))|exact wC (cY _) (wC (bE _ _) (wR _))) (ho:ks.map (fun q=>σ.objs[q]?)=t.map some:=by rfl) (hl:ks.length=s.length:=by rfl) (hl':ks.length=s'.length:=by rfl) (hn:ks.Nodup:=by decide)
  (hh:s.all GObj.notHeld=true:=by rfl) (hlo:σ.lo=0:=by rfl) (hM:M k=false:=by rfl):iU P M (.fn k) args σ K:=by
 have hL:Lies ks s σ.objs:=Lies.mk' ho hl hn hh;have hf:=h.fact (σ:=σ) (args':=args) ks hL hlo (by rw[i1.h];exact hw);rw[MH hn hl' (fun k hk=>hL.lt k hk),rW hn hl' (fun k hk=>hL.lt k hk),i3.h,i5.h,i4.h] at hf;exact⟨r',_,hf,(fun k' e hk'=>by cases e;rw[hM] at hk';cases hk'),hk⟩
section
variable (s : Sch) (p : Sy → Bool) (c : FuncId) (n : By)
theorem T8 [MaxL] (hl:s.st.length<=1000) (hc:c=89∨c=85)
  (hp:∀t∈s.st,SC Tryz.prog c [xZ t,.ptr 0 0] [.box 9 [.s n]] (.val (.b (p t))) [.box 9 [.s n]]):
  SC Tryz.prog 155 [.fn (.func 209) [] [.ptr 0 0,.ptr 1 0]] [.box 26 (lI s),.box 132 [.fn (.func c) [] [.ptr 2 0]],.box 9 [.s n]]
   (.val (.sl .none (aZ ((s.st.filter p).map (·.name))))) [.box 26 (lI s),.box 132 [.fn (.func c) [] [.ptr 2 0]],.box 9 [.s n]]:=by
 have h:=W0 s hl p c hc n hp;refine cZ Tryz.func155 rfl ?_;conv=>whnf
 refine cS [0,1,2] h ?_;conv=>whnf
 exact d6 3
theorem Z7 [MaxL]:SC Tryz.prog 156 [lC s,.fn (.func c) [] [.ptr 0 0]] [.box 9 [.s n]] (.val (.fn (.func 209) [] [.ptr 1 0,.ptr 2 0]))
  [.box 9 [.s n],.box 26 (lI s),.box 132 [.fn (.func c) [] [.ptr 0 0]]]:=by
 refine cZ Tryz.func156 rfl ?_;conv=>whnf
 exact d6 3
def nE:List By×Int:=if(mP s).2.2==0 then(if s.rc.any (·.name==n) then((s.st.filter p).map (·.name),0) else([],5)) else([],1)
theorem LY [MaxL] (hz:kI s) (hl:s.st.length<=1000) (hc:c=89∨c=85)
  (hp:∀t∈s.st,SC Tryz.prog c [xZ t,.ptr 0 0] [.box 9 [.s n]] (.val (.b (p t))) [.box 9 [.s n]]):
  SC Tryz.prog 84 [lC s,.s n,.fn (.func c) [] [.ptr 0 0]] [.box 9 [.s n]] (.val (.tup [.sl .none (aZ (nE s p n).1),.i .i64 (nE s p n).2])) [.box 9 [.s n]]:=by
 have hv:=DP s hz;have hr:=oH s hz.1.2.1 n;have hcl:=T8 s p c n hl hc hp;unfold nE;cases h:((mP s).2.2==0) with
 |false=>
  rw[h] at hv;refine cZ Tryz.func84 rfl ?_;conv=>whnf
  refine cP hv ?_;conv=>whnf
  exact d6 1 (hw:=Wk.tupl ⟨bE _ _,.refl _,trivial⟩)
 |true=>
  rw[h] at hv;rcases j5 (fun r:Rc=>r.name==n) s.rc with⟨h1,_,h2⟩|⟨i,y,h1,hy,_,h2⟩
  ·rw[h2];refine cZ Tryz.func84 rfl ?_;(conv=>whnf);refine cP hv ?_;(conv=>whnf);refine cP hr ?_;(conv=>whnf);refine gY (bS h1) ?_;(conv=>whnf);exact d6 1 (hw:=Wk.tupl ⟨bE _ _,.refl _,trivial⟩)
  ·rw[h2];rw[h1] at hr;refine cZ Tryz.func84 rfl ?_;(conv=>whnf);refine cP hv ?_;(conv=>whnf);refine cP hr ?_;(conv=>whnf);refine cX [0] (s':=[.box 9 [.s n]]) (x:=[.box 26 (lI s),.box 132 [.fn (.func c) [] [.ptr 0 0]]]) (Z7 s c n) ?_;(conv=>whnf);refine cS [3,4,0] hcl ?_;(conv=>whnf);exact d6 1
end
theorem a1M [MaxL] (t:Sy) (n:By):SC Tryz.prog 89 [xZ t,.ptr 0 0] [.box 9 [.s n]] (.val (.b (t.owner==n))) [.box 9 [.s n]]:=by
 refine cZ Tryz.func89 rfl ?_;conv=>whnf
 exact d6 1
theorem Z9 [MaxL] (t:Sy) (hm:t.ms.length<bH) (n:By):SC Tryz.prog 85 [xZ t,.ptr 0 0] [.box 9 [.s n]] (.val (.b (t.ms.any fun m=>m.of==n))) [.box 9 [.s n]]:=by
 have h:=EW t hm n;rw[<-lP];refine cZ Tryz.func85 rfl ?_;conv=>whnf
 refine cP h ?_;conv=>whnf
 exact d6 1
theorem ZG [MaxL] (s:Sch) (hz:kI s) (hl:s.st.length<=1000) (n:By):SC Tryz.prog 28 [lC s,.s n] [] (.val (.tup [.sl .none (aZ (nE s (fun t=>t.owner==n) n).1),.i .i64 (nE s (fun t=>t.owner==n) n).2])) []:=by
 have h:=LY s (fun t=>t.owner==n) 89 n hz hl (.inl rfl) (fun t _=>a1M t n);refine cZ Tryz.func28 rfl ?_;conv=>whnf
 refine cS [1] h ?_;conv=>whnf
 exact d6 0
theorem W1 [MaxL] (s:Sch) (hz:kI s) (hl:s.st.length<=1000) (n:By):SC Tryz.prog 25 [lC s,.s n] [] (.val (.tup [.sl .none (aZ (nE s (fun t=>t.ms.any fun m=>m.of==n) n).1),.i .i64 (nE s (fun t=>t.ms.any fun m=>m.of==n) n).2])) []:=by
 have h:=LY s (fun t=>t.ms.any fun m=>m.of==n) 85 n hz hl (.inr rfl) (fun t ht=>Z9 t (hz.2.2 t ht).1 n);refine cZ Tryz.func25 rfl ?_;conv=>whnf
 refine cS [1] h ?_;conv=>whnf
 exact d6 0
theorem zG {α:Type} {f:Nat->α->Int} {n:Nat} {l:List α} {p:Nat×Int} (h:eS f n l=some p):p.2≠0:=by
 induction l generalizing n with
 |nil=>cases h
 |cons x l ih=>
  unfold eS at h;by_cases h0:f n x=0
  ·rw[aG h0] at h;exact ih h
  ·rw[aE h0] at h;cases h;exact h0
section
variable {known : List Itm → Bool} {canon : By → Bool} {check : List Itm → By → Int}
theorem JI {s:Sch} (h:(Z5 known canon check s).2.2=0):vR s.ar.length 1 6=true/\eS (fun i a=>mO ((dH s).take i) a) 0 s.ar=none/\vR s.rc.length 1 10=true/\
  eS (fun i r=>JK known canon check s (dH s++(eJ s).take i) r) 0 s.rc=none/\¬s.st.length>60/\eS (fun i t=>JH s (dH s++(eJ s++(tJ s).take i)) t) 0 s.st=none:=by
 unfold Z5 at h;cases h1:vR s.ar.length 1 6 with
 |false=>rw[h1] at h;exact absurd (show(4:Int)=0 from h) (by decide)
 |true=>
  rw[h1,aE (by simp)] at h;cases h2:eS (fun i a=>mO ((dH s).take i) a) 0 s.ar with
  |some p=>rw[h2] at h;exact absurd h (zG h2)
  |none=>
   rw[h2] at h;simp only[] at h;unfold I4 at h;cases h3:vR s.rc.length 1 10 with
   |false=>rw[h3] at h;exact absurd (show(4:Int)=0 from h) (by decide)
   |true=>
    rw[h3,aE (by simp)] at h;cases h4:eS (fun i r=>JK known canon check s (dH s++(eJ s).take i) r) 0 s.rc with
    |some p=>rw[h4] at h;exact absurd h (zG h4)
    |none=>
     rw[h4] at h;simp only[] at h;unfold I1 at h;by_cases h5:s.st.length>60
     ·rw[aG h5] at h;exact absurd h (by decide)
     ·rw[aE h5] at h;cases h6:eS (fun i t=>JH s (dH s++(eJ s++(tJ s).take i)) t) 0 s.st with
      |some p=>rw[h6] at h;exact absurd h (zG h6)
      |none=>exact⟨rfl,rfl,rfl,rfl,h5,rfl⟩
end
theorem VH {w:Bool} {e b:Int} (he:e≠0) (h:dZ w e b=0):w=false/\b=0:=by
 unfold dZ at h;cases w with
 |false=>exact⟨rfl,h⟩
 |true=>exact absurd h he
theorem VM {s:Sch} {met:List By} {t:Sy} (h:JH s met t=0):met.contains t.name=false/\(t.owner !=[]&&!((eJ s).contains t.owner))=false:=by
 unfold JH kN at h;obtain⟨_,h⟩:=VH (by decide) h;obtain⟨h1,h⟩:=VH (by decide) h;exact⟨h1,(VH (by decide) h).1⟩
theorem T2 {s:Sch} (h:(mP s).2.2=0) {j:Nat} {t:Sy} (hj:s.st[j]?=some t):(∀z∈s.st.take j,(z.name==t.name)=false)/\(t.owner !=[]&&!((eJ s).contains t.owner))=false:=by
 have h6:=rI (JI (s:=s) h).2.2.2.2.2 j t hj;obtain⟨h1,h2⟩:=VM h6;refine⟨fun z hz=>?_,h2⟩;cases hq:z.name==t.name with
 |false=>rfl
 |true=>
  exfalso;have e:=eq_of_beq hq;have:(dH s++(eJ s++(tJ s).take (0+j))).contains t.name=true:=by
   rw[List.contains_iff_mem];refine List.mem_append_right _ (List.mem_append_right _ ?_);unfold tJ;rw[bB,<-List.map_take,<-e];exact List.mem_map_of_mem hz
  rw[h1] at this;cases this
theorem Z2 {s:Sch} {met:List By} {t:Sy} (h:JH s met t=0):(∀k m,t.ms[k]?=some m->pL s t k m=0)/\(t.order=5->y8 s t=0):=by
 unfold JH kN at h;obtain⟨_,h⟩:=i6 h (by decide);obtain⟨_,h⟩:=i6 h (by decide);obtain⟨_,h⟩:=i6 h (by decide);obtain⟨_,h⟩:=i6 h (by decide);obtain⟨h2,h⟩:=FC h;obtain⟨_,h⟩:=i6 h (by decide);obtain⟨h3,h⟩:=FC h;exact⟨GM h2,fun e=>by rwa [aG e] at h3⟩
theorem VN {s:Sch} (h:(mP s).2.2=0) {t:Sy} (ht:t∈s.st):(∀k m,t.ms[k]?=some m->pL s t k m=0)/\(t.order=5->y8 s t=0):=by
 obtain⟨j,hj⟩:=List.mem_iff_getElem?.1 ht;exact Z2 (rI (JI (s:=s) h).2.2.2.2.2 j t hj)
theorem JG {s:Sch} {n:By} {t:Sy} {i:Int} (h:uO s n=(t,i,0)):(mP s).2.2=0/\t∈s.st/\∃j:Nat,m6 (fun t:Sy=>t.name==n) s.st=j/\s.st[j]?=some t:=by
 unfold uO at h;cases hv:((mP s).2.2==0) with
 |false=>rw[hv] at h;simp at h
 |true=>
  rw[hv,aG rfl] at h;rcases j5 (fun t:Sy=>t.name==n) s.st with⟨h1,h2,_⟩|⟨j,y,h1,hy,h2,_⟩
  ·rw[h2] at h;simp at h
  ·rw[h2] at h;have:y=t:=(Prod.mk.inj h).1;subst this;exact⟨eq_of_beq hv,aK hy,j,h1,hy⟩
instance [MaxL] {l:List Val}:KL (a2R l):=⟨YP l⟩
instance [MaxL] {v:Val}:KG v.gv:=⟨v.cl⟩
instance [MaxL] {m:Nat} {T:TypeId} {k n:Nat}:FO m (ow T k n):=⟨fun e _=>yX T k n e⟩
theorem YI [MaxL] {α:Type} {f:α->GV} {c:Nat} (hf:∀a,(f a).cells.length=c) (o:List α) (y:α) {A:Prop} {K:List GV->Nat->Prop} (hA:A) (hl:o.length<4294967296) (k:K ((o++[y]).map f) (o++[y]).length):
  GNeed (A/\(o.map f).all (fun x=>x.cells.length==c)=true/\(o.map f).length+1<=4294967296) (∃zs m,GNeed (zs=o.map f++[f y]/\m=(o.map f).length+1) (K zs m)):=
 ⟨⟨hA,by
  rw[aS];intro x hx;obtain⟨b,_,rfl⟩:=List.mem_map.1 hx;rw[hf];exact beq_self_eq_true _,by rw[bQ];omega⟩,_,_,⟨by rw[cO];rfl,by rw[bQ,aD];rfl⟩,k⟩
theorem a1u [MaxL] (l:List Itm):(fU l).all (r4 5)=true:=by
 rw[aS];intro x hx;obtain⟨b,_,rfl⟩:=List.mem_map.1 hx;rfl
theorem a2r [MaxL] (l:List Itm):∀x∈fU l,x.cells.length=5:=fun x hx=>by
 obtain⟨b,_,rfl⟩:=List.mem_map.1 hx;rfl
theorem KA [MaxL] (l:List Itm):ClL (flat (fU l)):=SE fun g hg=>by
 obtain⟨m,_,rfl⟩:=List.mem_map.1 hg;exact m.cl
instance itF_kl [MaxL] (l:List Itm):KL (flat (fU l)):=⟨KA l⟩
theorem VY [MaxL] (x:Itm) (l:List Itm) (hl:l.length<1000):SC Tryz.prog 170 [.sl .none (fU (x::l))] [] (.val (.rs 0 0 5 (x::l).length 0)) [.box 80 (flat (fU (x::l)))]:=by
 refine cZ Tryz.func170 rfl ?_;conv=>whnf
 refine⟨⟨a1u (x::l),rfl,?_⟩,_,_,⟨rfl,rfl⟩,_,⟨rfl,rfl⟩,?_⟩
 ·show 0+((x::l).map _).length<=4294967296;rw[bQ,aJ];omega
 conv=>whnf
 refine⟨[2],Lies.one rfl (eM (KA (x::l))) (by simp),fun i hi=>absurd hi (cM i),?_⟩;show Wk (GV.rs 2 0 5 (0+(fU (x::l)).length) 0) (GV.rs (iT [2] 3 0) 0 5 (x::l).length 0);rw[kF (by simp),show(fU (x::l)).length=(x::l).length from mH _,bB];exact .refl _
theorem TA [MaxL]:SC Tryz.prog 170 [.sl .none []] [] (.val (.sl .none [])) []:=by
 refine SC.nil_or ?_ fun p c=>?_
 ·skip;refine cZ Tryz.func170 rfl ?_;conv=>whnf
  exact d6 0 (hw:=bE _ _)
 ·skip;refine cZ Tryz.func170 rfl ?_;conv=>whnf
  exact d6 0 (hw:=bE _ _)
def cpI:FuncId->Bool:=fun k=>!Nat.beq k 170
abbrev rpC [MaxL] (r:Rc) (v:GV):List GV:=[.s r.name,.s r.area,v,.i .i64 r.place,.sl .none (aZ r.keys),.b r.dups,.s r.via,.s r.check]
set_option synthInstance.maxSize 2000 in
theorem ZA [MaxL] (r:Rc) (x:Itm) (l:List Itm) (hi:r.its=x::l) (hl:l.length<1000) (hk:r.keys.length<=1000):
  SC Tryz.prog 97 [OC r] [] (.val (.agg (rpC r (.rs 0 0 5 (x::l).length 0)))) [.box 80 (flat (fU (x::l)))]:=by
 refine cH cpI mixed Tryz.func97 rfl (bL rfl) (by first|exact rL _|simp) rfl ?_;conv=>whnf
 refine GDraw.wildT [none,some 0,none,none,some 0,none,none,some 0,none,some 0] rfl rfl (by kernel_rfl) ?_;conv=>whnf
 rw[hi];refine cNx (VY x l hl) ?_;conv=>whnf
 refine cP (EX r.keys hk) ?_;conv=>whnf
 refine st ?_;conv=>whnf
 refine st ?_;conv=>whnf
 refine st ?_;conv=>whnf
 refine⟨[2],Lies.one rfl (eM (KA (x::l))) (by simp),fun i hi=>absurd hi (cM i),?_⟩;show Wk _ ((GV.agg (rpC r (.rs 0 0 5 (x::l).length 0))).ren (iT [2] 3));rw[RG.h (e:=iT [2] 3) (g:=GV.agg (rpC r (.rs 0 0 5 (x::l).length 0)))];exact cY _
set_option synthInstance.maxSize 2000 in
theorem ZB [MaxL] (r:Rc) (hi:r.its=[]) (hk:r.keys.length<=1000):SC Tryz.prog 97 [OC r] [] (.val (.agg (rpC r (.sl .none [])))) []:=by
 refine cH vO mixed Tryz.func97 rfl (bL rfl) (by first|exact rL _|simp) rfl ?_;conv=>whnf
 refine b9 (by kernel_rfl) ?_;conv=>whnf
 rw[hi];refine cP TA ?_;conv=>whnf
 refine cP (EX r.keys hk) ?_;conv=>whnf
 refine st ?_;conv=>whnf
 refine st ?_;conv=>whnf
 refine st ?_;conv=>whnf
 exact d6 0
theorem a1O [MaxL] (r:Rc) (hl:r.its.length<=1000) (hk:r.keys.length<=1000):SC Tryz.prog 97 [OC r] [] (.val (OC r)) []:=by
 have e:OC r=.agg (rpC r (.sl .none (fU r.its))):=rfl;cases ht:r.its with
 |nil=>rw[ht] at e;exact(aQ (fun g=>SC Tryz.prog 97 [OC r] [] (.val g) []) e).mpr (ZB r ht hk)
 |cons x l=>
  rw[ht] at e hl;have h:=ZA r x l ht (by rw[aJ] at hl;omega) hk;refine(aQ (fun g=>SC Tryz.prog 97 [OC r] [] (.val g) []) e).mpr ?_;exact SC.freezeA (pre:=[.s r.name,.s r.area]) (post:=[.i .i64 r.place,.sl .none (aZ r.keys),.b r.dups,.s r.via,.s r.check]) h (by omega) rfl (show(x::l).length=(fU (x::l)).length from(mH _).symm) (a2r (x::l)) (C4 (KA (x::l))) (C4 (KL.h (l:=[.s r.name,.s r.area]))) (C4 (KL.h (l:=[.i .i64 r.place,.sl .none (aZ r.keys),.b r.dups,.s r.via,.s r.check])))
instance [MaxL] {a:Ar}:KG (arG a):=⟨fun _=>rfl⟩
def rc0:Rc:=⟨[],[],[],0,[],false,[],[]⟩
def vT (s:Sch) (n:By):Rc×Int×Int:=if(mP s).2.2==0 then(match s.rc.find? (·.name==n) with|none=>(rc0,0,5)|some t=>(t,m6 (·.name==n) s.rc,0)) else(rc0,0,1)
def xD (s:Sch) (n:By):Int×Int:=if(mP s).2.2==0 then(if s.ar.any (·.name==n) then(m6 (·.name==n) s.ar,0) else(0,5)) else(0,1)
def XG (s:Sch) (n:By):List By×Int:=if(xD s n).2==0 then((s.rc.filter (·.area==n)).map (·.name),0) else([],(xD s n).2)
theorem zRc [MaxL]:Wk (.agg [.s [],.s [],.sl .full [],.i .i64 0,.sl .full [],.b false,.s [],.s []]) (OC rc0):=Wks.agg ⟨.refl _,.refl _,bE _ _,.refl _,bE _ _,.refl _,.refl _,.refl _,trivial⟩
def a2Y (s:Sch):Prop:=∀r∈s.rc,r.its.length<=1000/\r.keys.length<=1000
theorem TB [MaxL] (s:Sch) (hz:kI s) (hs:a2Y s) (n:By):SC Tryz.prog 33 [lC s,.s n] [] (.val (.tup [OC (vT s n).1,.i .i64 (vT s n).2.1,.i .i64 (vT s n).2.2])) []:=by
 have hv:=DP s hz;have hi:=oH s hz.1.2.1 n;generalize hX:vT s n=X;unfold vT at hX;refine cH vO mixed Tryz.func33 rfl (bL rfl) (by first|exact rL _|simp) rfl ?_;conv=>whnf
 refine cP hv ?_;conv=>whnf
 refine aF (fun h=>?_) (fun h=>?_)<;>conv=>whnf
 ·refine st ?_;conv=>whnf
  rw[aE (by simpa using h)] at hX;rw[<-hX];exact d6 0 (hw:=Wk.tupl ⟨zRc,.refl _,.refl _,trivial⟩)
 rw[aG (by simpa using h)] at hX;rcases j5 (fun t:Rc=>t.name==n) s.rc with⟨h1,h2,_⟩|⟨i,y,h1,hy,h2,_⟩
 ·rw[h2] at hX;refine cP hi ?_;conv=>whnf
  refine gY (bS h1) ?_;conv=>whnf
  refine st ?_;conv=>whnf
  rw[<-hX];exact d6 0 (hw:=Wk.tupl ⟨zRc,.refl _,.refl _,trivial⟩)
 ·rw[h2,h1] at hX;rw[h1] at hi;have hy':=hs y (aK hy);refine cP hi ?_;conv=>whnf
  refine ix (cE hy) ⟨rfl,?_⟩;conv=>whnf
  refine cP (a1O y hy'.1 hy'.2) ?_;conv=>whnf
  refine st ?_;conv=>whnf
  rw[<-hX];exact d6 0
theorem BE [MaxL] (s:Sch) (hz:kI s) (hc:∀r∈s.rc,r.check.length<1000000) (n:By):SC Tryz.prog 34 [lC s,.s n] [] (.val (.tup [OC (vT s n).1,.i .i64 (vT s n).2.1,.i .i64 (vT s n).2.2])) []:=by
 have hv:=F5 s hz hc;have hi:=lU s hz.1.2.1 n;generalize hX:vT s n=X;unfold vT at hX;refine cH vO mixed Tryz.func34 rfl (bL rfl) (by first|exact rL _|simp) rfl ?_;conv=>whnf
 refine cP hv ?_;conv=>whnf
 refine aF (fun h=>?_) (fun h=>?_)<;>conv=>whnf
 ·refine st ?_;conv=>whnf
  rw[aE (by simpa using h)] at hX;rw[<-hX];exact d6 0 (hw:=Wk.tupl ⟨zRc,.refl _,.refl _,trivial⟩)
 rw[aG (by simpa using h)] at hX;rcases j5 (fun t:Rc=>t.name==n) s.rc with⟨h1,h2,_⟩|⟨i,y,h1,hy,h2,_⟩
 ·rw[h2] at hX;refine cP hi ?_;conv=>whnf
  refine gY (bS h1) ?_;conv=>whnf
  refine st ?_;conv=>whnf
  rw[<-hX];exact d6 0 (hw:=Wk.tupl ⟨zRc,.refl _,.refl _,trivial⟩)
 ·rw[h2,h1] at hX;rw[h1] at hi;refine cP hi ?_;conv=>whnf
  refine ix (cE hy) ⟨rfl,?_⟩;conv=>whnf
  refine st ?_;conv=>whnf
  rw[<-hX];exact d6 0
theorem VZ [MaxL] (a:Ar) (n:By):SC Tryz.prog 100 [arG a,.ptr 0 0] [.box 9 [.s n]] (.val (.b (a.name==n))) [.box 9 [.s n]]:=by
 refine cZ Tryz.func100 rfl ?_;conv=>whnf
 exact d6 1
theorem ZD [MaxL] (l:List Ar) (hl:l.length<bH) (n:By):SC Tryz.prog 99 [.sl .none (vX l),.fn (.func 100) [] [.ptr 0 0]] [.box 9 [.s n]] (.val (.i .i64 (m6 (fun a=>a.name==n) l))) [.box 9 [.s n]]:=by
 have hlen:(vX l).length=l.length:=fN _ _;unfold bH at hl;refine cZ Tryz.func99 rfl ?_;conv=>whnf
 refine cK 1 l.length (fun i _=>∀z∈l.take i,(z.name==n)=false) (fun i _=>[(0,.sl .none (vX l)),(1,.fn (.func _) [] [.ptr 0 0]),(7,.i .i64 (vX l).length),(8,.i .i64 (i:Nat))]) (fun _ (_:Unit)=>[.box 9 [.s n]]) [] () (by simp) (fun i _ φ0 hi hne=>?_);conv=>whnf
 refine aF (fun h=>?_) (fun h=>?_)<;>conv=>whnf
 rotate_left
 ·have hie:i=l.length:=by have:=aB h;rw[hlen] at this;omega
  rw[hie,b7] at hne;rw[vN hne];exact d6 1
 have hlt:i<l.length:=by have:=aA h;rw[hlen] at this;omega
 refine(gQ hlt).elim fun y hy=>?_;refine ix (cE hy) ⟨rfl,?_⟩;conv=>whnf
 refine cS [0] (VZ y n) ?_;conv=>whnf
 refine aF (fun hp=>?_) (fun hp=>?_)<;>conv=>whnf
 ·rw[sU hy hp hne];exact d6 1
 ·exact nx () hlt ⟨hlt,zM hy hp hne⟩
theorem QV [MaxL] (s:Sch) (hz:kI s) (n:By):SC Tryz.prog 36 [lC s,.s n] [] (.val (.tup [.i .i64 (xD s n).1,.i .i64 (xD s n).2])) []:=by
 have hv:=DP s hz;have hi:=ZD s.ar hz.1.1 n;generalize hX:xD s n=X;unfold xD at hX;refine cH vO mixed Tryz.func36 rfl (bL rfl) (by first|exact rL _|simp) rfl ?_;conv=>whnf
 refine cP hv ?_;conv=>whnf
 refine aF (fun h=>?_) (fun h=>?_)<;>conv=>whnf
 ·rw[aE (by simpa using h)] at hX;rw[<-hX];exact d6 0
 rw[aG (by simpa using h),<-lP] at hX;refine cS [1] hi ?_;conv=>whnf
 refine aF (fun h=>?_) (fun h=>?_)<;>conv=>whnf
 ·rw[aE (by have:=aA h;simp;omega)] at hX;rw[<-hX];exact d6 0
 ·rw[aG (by have:=aB h;simp;omega)] at hX;rw[<-hX];exact d6 0
theorem R6 [MaxL] (s:Sch) (hz:kI s) (hc:∀r∈s.rc,r.check.length<1000000) (n:By):SC Tryz.prog 37 [lC s,.s n] [] (.val (.tup [.i .i64 (xD s n).1,.i .i64 (xD s n).2])) []:=by
 have hv:=F5 s hz hc;have hi:=wA s hz.1.1 n;generalize hX:xD s n=X;unfold xD at hX;refine cH vO mixed Tryz.func37 rfl (bL rfl) (by first|exact rL _|simp) rfl ?_;conv=>whnf
 refine cP hv ?_;conv=>whnf
 refine aF (fun h=>?_) (fun h=>?_)<;>conv=>whnf
 ·rw[aE (by simpa using h)] at hX;rw[<-hX];exact d6 0
 rw[aG (by simpa using h),<-lP] at hX;refine cP hi ?_;conv=>whnf
 refine aF (fun h=>?_) (fun h=>?_)<;>conv=>whnf
 ·rw[aE (by have:=aA h;simp;omega)] at hX;rw[<-hX];exact d6 0
 ·rw[aG (by have:=aB h;simp;omega)] at hX;rw[<-hX];exact d6 0
def YN {α:Type} (p:α->Bool) (f:α->By) (l:List α):List By:=(l.filter p).map f
theorem DX {α:Type} {p:α->Bool} {f:α->By} {l:List α} {i:Nat} {y:α} (hy:l[i]?=some y):YN p f (l.take (i+1))=YN p f (l.take i)++if p y then[f y] else[]:=by
 unfold YN;rw[L7 hy,cO];split<;>rfl
theorem RI {α:Type} {p:α->Bool} {f:α->By} {l:List α} {i c:Nat} (h:l.length<=c):(YN p f (l.take i)).length<=c:=by
 unfold YN;rw[bQ];exact e8 (iN _ _) (by rw[bN];omega)
theorem JZ {α:Type} {p:α->Bool} {f:α->By} {l:List α} {i:Nat} (h:l.length<=i):YN p f (l.take i)=(l.filter p).map f:=by
 rw[bX h];rfl
theorem a3L [MaxL] (s:Sch) (hz:kI s) (hl:s.rc.length<=1000) (hc:∀r∈s.rc,r.check.length<1000000) (n:By):SC Tryz.prog 41 [lC s,.s n] [] (.val (.tup [.sl .none (aZ (XG s n).1),.i .i64 (XG s n).2])) []:=by
 have ha:=R6 s hz hc n;have hlen:(vU s.rc).length=s.rc.length:=fN _ _;generalize hX:XG s n=X;unfold XG at hX;refine cH vO mixed Tryz.func41 rfl (bL rfl) (by first|exact rL _|simp) rfl ?_;conv=>whnf
 refine cP ha ?_;conv=>whnf
 refine aF (fun h=>?_) (fun h=>?_)<;>conv=>whnf
 ·rw[aE (by simpa using h)] at hX;rw[<-hX];exact d6 0 (hw:=Wk.tupl ⟨bE _ _,.refl _,trivial⟩)
 rw[aG (by simpa using h)] at hX;refine cK 3 s.rc.length (fun i o=>o=YN (fun r:Rc=>r.area==n) (·.name) (s.rc.take i)) (fun i o=>[(1,.s n),(2,.ptr 0 0),(8,.sl (.own 2) (aZ o)),(9,.i .i64 (i:Nat))]) (fun _ o=>[.box 26 (lI s),.own 0 0 0,ow 9 1 o.length]) [] [] rfl (fun i o φ0 hi ho=>?_) (hh:=fun _ _=>by simp only[gK,lN];rfl);conv=>whnf
 refine aF (fun h=>?_) (fun h=>?_)<;>conv=>whnf
 rotate_left
 ·rw[JZ (by have:=aB h;rw[hlen] at this;omega)] at ho;rw[<-hX,<-ho];exact d6 0 (hw:=Wk.tupl ⟨bE _ _,.refl _,trivial⟩)
 have hlt:i<s.rc.length:=by have:=aA h;rw[hlen] at this;omega
 refine(gQ hlt).elim fun y hy=>?_;have ho':=DX (p:=fun r:Rc=>r.area==n) (f:=(·.name)) hy;have hol:=RI (p:=fun r:Rc=>r.area==n) (f:=(·.name)) (i:=i) hl;rw[<-ho] at ho' hol;refine ix (cE hy) ⟨rfl,?_⟩;conv=>whnf
 refine aF (fun h=>?_) (fun h=>?_)<;>conv=>whnf
 ·rw[show(y.area==n)=true from h] at ho';refine ix (cE hy) ⟨rfl,?_⟩;conv=>whnf
  cases o with
  |nil=>
   refine YI (f:=GV.s) (c:=1) (fun _=>rfl) [] y.name rfl (by omega) ?_;(conv=>whnf);refine⟨⟨zL _,rfl,.inr ⟨rfl,rfl⟩⟩,?_⟩;(conv=>whnf);exact nx ([]++[y.name]) hlt ⟨hlt,ho'.symm⟩
  |cons z zs=>
   refine YI (f:=GV.s) (c:=1) (fun _=>rfl) (z::zs) y.name rfl (by omega) ?_;(conv=>whnf);refine⟨⟨zL _,(aP (z::zs)).symm,.inl ⟨rfl,rfl⟩⟩,?_⟩;(conv=>whnf);exact nx ((z::zs)++[y.name]) hlt ⟨hlt,ho'.symm⟩
 ·rw[show(y.area==n)=false from h] at ho';exact nx o hlt ⟨hlt,by rw[ho'];simp⟩
theorem a3F [MaxL] (s:Sch) (hz:kI s) (hl:s.rc.length<=1000) (n:By):SC Tryz.prog 40 [lC s,.s n] [] (.val (.tup [.sl .none (aZ (XG s n).1),.i .i64 (XG s n).2])) []:=by
 have ha:=QV s hz n;have hlen:(vU s.rc).length=s.rc.length:=fN _ _;generalize hX:XG s n=X;unfold XG at hX;refine cH vO mixed Tryz.func40 rfl (bL rfl) (by first|exact rL _|simp) rfl ?_;conv=>whnf
 refine cP ha ?_;conv=>whnf
 refine aF (fun h=>?_) (fun h=>?_)<;>conv=>whnf
 ·rw[aE (by simpa using h)] at hX;rw[<-hX];exact d6 0 (hw:=Wk.tupl ⟨bE _ _,.refl _,trivial⟩)
 rw[aG (by simpa using h)] at hX;refine cK 3 s.rc.length (fun i o=>o=YN (fun r:Rc=>r.area==n) (·.name) (s.rc.take i)) (fun i o=>[(1,.s n),(8,.sl (.own 2) (aZ o)),(21,.sl .none (vU s.rc)),(22,.i .i64 (s.rc.length:Nat)),(23,.i .i64 (i:Nat))]) (fun _ o=>[.box 26 (lI s),.own 0 0 0,ow 9 1 o.length]) [] [] rfl (fun i o φ0 hi ho=>?_) (hφ:=⟨rfl,rfl,rfl,by rw[<-hlen];rfl,rfl,trivial⟩) (hh:=fun _ _=>by simp only[gK,lN];rfl);conv=>whnf
 refine aF (fun h=>?_) (fun h=>?_)<;>conv=>whnf
 rotate_left
 ·rw[JZ (by have:=aB h;omega)] at ho;rw[<-hX,<-ho];exact d6 0 (hw:=Wk.tupl ⟨bE _ _,.refl _,trivial⟩)
 have hlt:i<s.rc.length:=by have:=aA h;omega
 refine(gQ hlt).elim fun y hy=>?_;have ho':=DX (p:=fun r:Rc=>r.area==n) (f:=(·.name)) hy;have hol:=RI (p:=fun r:Rc=>r.area==n) (f:=(·.name)) (i:=i) hl;rw[<-ho] at ho' hol;refine ix (cE hy) ⟨rfl,?_⟩;conv=>whnf
 refine st ?_;conv=>whnf
 refine aF (fun h=>?_) (fun h=>?_)<;>conv=>whnf
 ·rw[show(y.area==n)=true from h] at ho';cases o with
  |nil=>
   refine YI (f:=GV.s) (c:=1) (fun _=>rfl) [] y.name rfl (by omega) ?_;(conv=>whnf);refine⟨⟨zL _,rfl,.inr ⟨rfl,rfl⟩⟩,?_⟩;(conv=>whnf);exact nx ([]++[y.name]) hlt ⟨hlt,ho'.symm⟩
  |cons z zs=>
   refine YI (f:=GV.s) (c:=1) (fun _=>rfl) (z::zs) y.name rfl (by omega) ?_;(conv=>whnf);refine⟨⟨zL _,(aP (z::zs)).symm,.inl ⟨rfl,rfl⟩⟩,?_⟩;(conv=>whnf);exact nx ((z::zs)++[y.name]) hlt ⟨hlt,ho'.symm⟩
 ·rw[show(y.area==n)=false from h] at ho';exact nx o hlt ⟨hlt,by rw[ho'];simp⟩
theorem CJ [MaxL] (s:Sch) (hl:s.st.length<=1000) (n:By) (hn:n≠[]):SC Tryz.prog 106 [lC s,.s n] [] (.val (.sl .none (aZ ((s.st.filter fun t=>t.owner==n).map (·.name))))) []:=by
 have hlen:(rP s.st).length=s.st.length:=fN _ _;refine cZ Tryz.func106 rfl ?_;conv=>whnf
 refine cK 3 s.st.length (fun i o=>o=YN (fun t:Sy=>t.owner==n) (·.name) (s.st.take i)) (fun i o=>[(1,.s n),(2,.ptr 0 0),(5,.sl (.own 2) (aZ o)),(6,.i .i64 (i:Nat))]) (fun _ o=>[.box 26 (lI s),.own 0 0 0,ow 9 1 o.length]) [] [] rfl (fun i o φ0 hi ho=>?_) (hh:=fun _ _=>by simp only[gK,lN];rfl);conv=>whnf
 refine aF (fun h=>?_) (fun h=>?_)<;>conv=>whnf
 rotate_left
 ·rw[JZ (by have:=aB h;rw[hlen] at this;omega)] at ho;rw[<-ho];exact d6 0 (hw:=bE _ _)
 have hlt:i<s.st.length:=by have:=aA h;rw[hlen] at this;omega
 refine(gQ hlt).elim fun y hy=>?_;have ho':=DX (p:=fun t:Sy=>t.owner==n) (f:=(·.name)) hy;have hol:=RI (p:=fun t:Sy=>t.owner==n) (f:=(·.name)) (i:=i) hl;rw[<-ho] at ho' hol;refine ix (cE hy) ⟨rfl,?_⟩;conv=>whnf
 refine aF (fun h=>?_) (fun h=>?_)<;>conv=>whnf
 ·rw[show(y.owner==n)=true from h] at ho';refine gY (show(n !=[])=true by simpa using hn) ?_;conv=>whnf
  refine ix (cE hy) ⟨rfl,?_⟩;conv=>whnf
  cases o with
  |nil=>
   refine YI (f:=GV.s) (c:=1) (fun _=>rfl) [] y.name rfl (by omega) ?_;(conv=>whnf);refine⟨⟨zL _,rfl,.inr ⟨rfl,rfl⟩⟩,?_⟩;(conv=>whnf);exact nx ([]++[y.name]) hlt ⟨hlt,ho'.symm⟩
  |cons z zs=>
   refine YI (f:=GV.s) (c:=1) (fun _=>rfl) (z::zs) y.name rfl (by omega) ?_;(conv=>whnf);refine⟨⟨zL _,(aP (z::zs)).symm,.inl ⟨rfl,rfl⟩⟩,?_⟩;(conv=>whnf);exact nx ((z::zs)++[y.name]) hlt ⟨hlt,ho'.symm⟩
 ·rw[show(y.owner==n)=false from h] at ho';exact nx o hlt ⟨hlt,by rw[ho'];simp⟩
theorem JN [MaxL] (s:Sch) (hl:s.st.length<=1000) (hm:∀t∈s.st,t.ms.length<bH) (n:By):SC Tryz.prog 107 [lC s,.s n] [] (.val (.sl .none (aZ ((s.st.filter fun t=>t.ms.any fun m=>m.of==n).map (·.name))))) []:=by
 have hlen:(rP s.st).length=s.st.length:=fN _ _;refine cZ Tryz.func107 rfl ?_;conv=>whnf
 refine cK 3 s.st.length (fun i o=>o=YN (fun t:Sy=>t.ms.any fun m=>m.of==n) (·.name) (s.st.take i)) (fun i o=>[(1,.s n),(2,.ptr 0 0),(5,.sl (.own 2) (aZ o)),(6,.i .i64 (i:Nat))]) (fun _ o=>[.box 26 (lI s),.own 0 0 0,ow 9 1 o.length]) [] [] rfl (fun i o φ0 hi ho=>?_) (hh:=fun _ _=>by simp only[gK,lN];rfl);conv=>whnf
 refine aF (fun h=>?_) (fun h=>?_)<;>conv=>whnf
 rotate_left
 ·rw[JZ (by have:=aB h;rw[hlen] at this;omega)] at ho;rw[<-ho];exact d6 0 (hw:=bE _ _)
 have hlt:i<s.st.length:=by have:=aA h;rw[hlen] at this;omega
 refine(gQ hlt).elim fun y hy=>?_;have ho':=DX (p:=fun t:Sy=>t.ms.any fun m=>m.of==n) (f:=(·.name)) hy;have hol:=RI (p:=fun t:Sy=>t.ms.any fun m=>m.of==n) (f:=(·.name)) (i:=i) hl;rw[<-ho] at ho' hol;rw[<-lP] at ho';refine ix (cE hy) ⟨rfl,?_⟩;conv=>whnf
 refine cP (yW y (hm y (aK hy)) n) ?_;conv=>whnf
 refine aF (fun h=>?_) (fun h=>?_)<;>conv=>whnf
 ·rw[show decide (0<=m6 (fun m:Mb=>m.of==n) y.ms)=true from h] at ho';refine ix (cE hy) ⟨rfl,?_⟩;conv=>whnf
  cases o with
  |nil=>
   refine YI (f:=GV.s) (c:=1) (fun _=>rfl) [] y.name rfl (by omega) ?_;(conv=>whnf);refine⟨⟨zL _,rfl,.inr ⟨rfl,rfl⟩⟩,?_⟩;(conv=>whnf);exact nx ([]++[y.name]) hlt ⟨hlt,ho'.symm⟩
  |cons z zs=>
   refine YI (f:=GV.s) (c:=1) (fun _=>rfl) (z::zs) y.name rfl (by omega) ?_;(conv=>whnf);refine⟨⟨zL _,(aP (z::zs)).symm,.inl ⟨rfl,rfl⟩⟩,?_⟩;(conv=>whnf);exact nx ((z::zs)++[y.name]) hlt ⟨hlt,ho'.symm⟩
 ·rw[show decide (0<=m6 (fun m:Mb=>m.of==n) y.ms)=false from h] at ho';exact nx o hlt ⟨hlt,by rw[ho'];simp⟩
