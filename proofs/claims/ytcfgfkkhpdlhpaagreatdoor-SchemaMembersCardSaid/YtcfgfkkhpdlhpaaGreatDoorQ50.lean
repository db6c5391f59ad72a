/-
  A part of the proof of SchemaMembers.
-/
import Derived.Test.YtcfgfkkhpdlhpaaGreatDoorQ49
import Derived.Lib.Index
import Derived.Lib.SplitLaws
set_option linter.all false
set_option maxRecDepth 100000
namespace Go.Proofs.YtcfgfkkhpdlhpaaGreatDoor
open Go.RowKit
theorem PF.put [MaxL] {e:Nat->Nat} {φ:Fr} {d:Nat} {g:GV} (h:∀t,(φ t).ren e=φ t) (hg:g.ren e=g):∀t,(QO φ d g t).ren e=QO φ d g t:=fun t=>by
 rw[uT];by_cases ht:t=d
 ·subst ht;rw[BN];exact hg
 ·rw[yN ht];exact h t
theorem PF.start [MaxL] {e:Nat->Nat} {args:List GV} (h:args.map (GV.ren e)=args):∀t,(nJ args t).ren e=nJ args t:=fun t=>by
 unfold nJ;rw[aO];have h1:=aQ (fun l:List GV=>l[t]?) h;simp only[aL] at h1;cases h2:args[t]? with
 |none=>rfl
 |some g=>rw[h2] at h1;simpa using h1
theorem LP [MaxL] {e:Nat->Nat} {st:LoopState} {pe:Option Code} {n:Nat} {φ:Fr} {ps:Array Tmp} {asg body:Code} {rd:Nat} (h:∀t,(φ t).ren e=φ t) (h8:e rd=rd):(GObj.loop st pe n φ ps asg body rd).ren e=.loop st pe n φ ps asg body rd:=by
 show GObj.loop st pe n (fun t=>(φ t).ren e) ps asg body (e rd)=_;rw[h8,show(fun t=>(φ t).ren e)=φ from funext h]
theorem PH [MaxL] (s:Sch) (c:FuncId) (n:By) {L:GObj} (hL:L.notHeld=true) (d:List Sy) (t:Sy):(tH s c n L d++[sT t]).all GObj.notHeld=true:=by
 rw[List.all_append,yW s c n hL];rfl
theorem a01 [MaxL] (s:Sch) (c:FuncId) (n:By) {L:GObj} (hLr:∀e:Nat->Nat,(∀i,i<7->e i=i)->L.ren e=L) (d:List Sy) (t:Sy):H0 (tH s c n L d++[sT t]):=fun e he=>by
 rw[d9,IF s c n hLr d e (fun i hi=>he i (by rw[aD];omega))];exact aQ (_++ ·) ((FH.h (n:=0) (s:=[sT t]) e (fun i hi=>absurd hi (d8 i))))
theorem XC [MaxL] (l:List By):(b5 l).all (fun x=>x.cells.length==1)=true:=by
 rw[aS];intro x hx;obtain⟨b,_,rfl⟩:=List.mem_map.1 hx;rfl
theorem UF [MaxL] (s:Sch) (hl:s.st.length<=1000) (p:Sy->Bool) (c:FuncId) (hc:c=89∨c=85) (n:By)
  (hp:∀t∈s.st,SC Tryz.prog c [xJ t,.ptr 0 0] [.box 9 [.s n]] (.val (.b (p t))) [.box 9 [.s n]]):
  SC Tryz.prog 208 [.sl .full [],.fn (.func 209) [] [.ptr 0 0,.ptr 1 0]] [.box 26 (nI s),.box 132 [.fn (.func c) [] [.ptr 2 0]],.box 9 [.s n]]
   (.val (.sl .none (b5 ((s.st.filter p).map (·.name))))) [.box 26 (nI s),.box 132 [.fn (.func c) [] [.ptr 2 0]],.box 9 [.s n]]:=by
 refine cW Tryz.func208 rfl ?_;conv=>whnf
 refine⟨.val (.tup []),⟨tH s c n (.loop .ready none _ _ _ _ _ 5) (s.st.filter p),0,[.coll 5]⟩,SC.factAll (UB s hl p c hc n hp (.loop .ready none _ _ _ _ _ 5) rfl (fun e he=>?hLr) (fun d t hd=>?hb)) rfl rfl ?hh,?_⟩
 case hh=>
  intro x hx e;subst e;have h1:=List.all_eq_true.1 (show List.all _ GObj.notHeld=true from rfl) _ hx;cases h1
 case hLr=>
  refine LP ?_ (he 5 (by omega));repeat' first
   |exact PF.start (FL.h (n:=7) e he)
   |exact FG.h (n:=7) e he
   |exact(FG.h (n:=7) e he:GV.ren e (.ptr 3 0)=.ptr 3 0)
   |exact(FG.h (n:=7) e he:GV.ren e (.sl (.own 4) [])=.sl (.own 4) [])
   |refine PF.put ?_ ?_
 case hb=>
  cases d with
  |nil=>
   refine Fact.yld oQ mixed (r:=6) rfl rfl (by kernel_rfl) rfl rfl (bL rfl) rfl rfl ?_;(conv=>whnf);refine⟨⟨rfl,rfl,bL rfl⟩,_,_,⟨rfl,rfl⟩,?_⟩;(conv=>whnf);refine st ?_;(conv=>whnf);rfl
  |cons t0 l=>
   have hn:(b5 ((t0::l).map (·.name))).length=l.length+1:=by rw[aP,cT];rfl
   have hd':l.length+1<=1000:=hd;refine Fact.forget (extra:=[.own 1 1 9]) ?_ rfl ?_ ?_ ?_ (fun _=>rfl) ?_
   ·refine Fact.yld oQ mixed (r:=6) rfl rfl (by kernel_rfl) rfl rfl ?_ rfl rfl ?_
    ·simp[tH,tO]
    (conv=>whnf);refine⟨⟨rfl,XC _,?_⟩,b5 ((t0::(l++[t])).map (·.name)),(l++[t]).length+1,⟨?_,?_⟩,?_⟩
    ·show(b5 ((t0::l).map (·.name))).length+1<=4294967296;rw[hn];omega
    ·show b5 ((t0::(l++[t])).map (·.name))=b5 ((t0::l).map (·.name))++[.s t.name];simp[b5]
    ·show(l++[t]).length+1=(b5 ((t0::l).map (·.name))).length+1;rw[hn,aD];rfl
    (conv=>whnf);refine⟨⟨zL _,hn.symm,.inl ⟨rfl,rfl⟩⟩,?_⟩;(conv=>whnf);refine st ?_;(conv=>whnf);rfl
   ·simp[tH,tO]
   ·refine a01 s c n (fun e he=>LP ?_ (he 5 (by omega))) _ t;repeat' first
     |exact PF.start (FL.h (n:=7) e he)
     |exact FG.h (n:=7) e he
     |exact(FG.h (n:=7) e he:GV.ren e (.ptr 3 0)=.ptr 3 0)
     |exact(FG.h (n:=7) e he:GV.ren e (.sl (.own 4) [])=.sl (.own 4) [])
     |refine PF.put ?_ ?_
   ·exact PH s c n rfl _ t
   ·exact PH s c n rfl _ t
 generalize s.st.filter p=F;cases F with
 |nil=>
  conv=>whnf
  exact dH 3 (hw:=bK _ _)
 |cons t l=>
  conv=>whnf
  exact dH 3 (hw:=bK _ _)
theorem L9 [MaxL] {ks:List Nat} {s1 x objs:List GObj} (hn:ks.Nodup) (hl:ks.length=s1.length) (hk:∀k∈ks,k<objs.length):iA ks (s1++x) objs=iA ks s1 objs++x.map (GObj.ren (iQ ks objs.length)):=by
 have hlen:(iA ks s1 objs).length=objs.length:=by rw[rK hn hl hk,y8]
 apply dR;intro r;by_cases hr:r<objs.length
 ·rw[aT (by rw[hlen];exact hr),iJ hk (by rw[aD];omega),iJ hk (Nat.le_of_eq hl)];unfold gP;rw[aG hr];cases h:ks.idxOf? r with
  |none=>rfl
  |some i=>
   have hi:i<s1.length:=by rw[<-hl];exact(List.idxOf?_eq_some_iff.1 h).1
   show((s1++x)[i]?).map _=(s1[i]?).map _;rw[aT hi]
 ·rw[bE (by omega),iJ hk (by rw[aD];omega)];unfold gP;rw[aE hr];show((s1++x)[ks.length+(r - objs.length)]?).map _=_;rw[hlen,hl,bE (by omega),aL,show s1.length+(r - objs.length) - s1.length=r - objs.length by omega]
theorem cX [MaxL] (ks:List Nat) {P:Program} {M:FuncId->Bool} {k:FuncId} {args a a':List GV} {s t s' t' x x':List GObj} {r r':GRes} {σ:GS} {K:GRes->GS->Prop} (h:SC P k a s r (s'++x))
  [i1:RL (iQ ks σ.objs.length) a a'] [i2:RH (iQ ks σ.objs.length) s t] [i3:RH (iQ ks σ.objs.length) s' t'] [i5:RH (iQ ks σ.objs.length) x x'] [i4:RR (iQ ks σ.objs.length) r r']
  (hk:K r' ⟨qJ ks t' σ.objs++x',σ.lo,σ.ds⟩) (hw:Wks args a':=by first|exact wR _|exact wC (bK _ _) (wR _)|exact wC (bK _ _) (wC (bK _ _) (wR _))|exact wC (cO _) (wC (bK _ _) (wR _))) (ho:ks.map (fun q=>σ.objs[q]?)=t.map some:=by rfl) (hl:ks.length=s.length:=by rfl) (hl':ks.length=s'.length:=by rfl) (hn:ks.Nodup:=by decide)
  (hh:s.all GObj.notHeld=true:=by rfl) (hlo:σ.lo=0:=by rfl) (hM:M k=false:=by rfl):iL P M (.fn k) args σ K:=by
 have hL:Lies ks s σ.objs:=Lies.mk' ho hl hn hh;have hf:=h.fact (σ:=σ) (args':=args) ks hL hlo (by rw[i1.h];exact hw);rw[L9 hn hl' (fun k hk=>hL.lt k hk),rK hn hl' (fun k hk=>hL.lt k hk),i3.h,i5.h,i4.h] at hf;exact⟨r',_,hf,(fun k' e hk'=>by cases e;rw[hM] at hk';cases hk'),hk⟩
section
variable (s : Sch) (p : Sy → Bool) (c : FuncId) (n : By)
theorem RT [MaxL] (hl:s.st.length<=1000) (hc:c=89∨c=85)
  (hp:∀t∈s.st,SC Tryz.prog c [xJ t,.ptr 0 0] [.box 9 [.s n]] (.val (.b (p t))) [.box 9 [.s n]]):
  SC Tryz.prog 155 [.fn (.func 209) [] [.ptr 0 0,.ptr 1 0]] [.box 26 (nI s),.box 132 [.fn (.func c) [] [.ptr 2 0]],.box 9 [.s n]]
   (.val (.sl .none (b5 ((s.st.filter p).map (·.name))))) [.box 26 (nI s),.box 132 [.fn (.func c) [] [.ptr 2 0]],.box 9 [.s n]]:=by
 have h:=UF s hl p c hc n hp;refine cW Tryz.func155 rfl ?_;conv=>whnf
 refine cS [0,1,2] h ?_;conv=>whnf
 exact dH 3
theorem XI [MaxL]:SC Tryz.prog 156 [nG s,.fn (.func c) [] [.ptr 0 0]] [.box 9 [.s n]] (.val (.fn (.func 209) [] [.ptr 1 0,.ptr 2 0]))
  [.box 9 [.s n],.box 26 (nI s),.box 132 [.fn (.func c) [] [.ptr 0 0]]]:=by
 refine cW Tryz.func156 rfl ?_;conv=>whnf
 exact dH 3
def lZ:List By×Int:=if(oM s).2.2==0 then(if s.rc.any (·.name==n) then((s.st.filter p).map (·.name),0) else([],5)) else([],1)
theorem KP [MaxL] (hz:lU s) (hl:s.st.length<=1000) (hc:c=89∨c=85)
  (hp:∀t∈s.st,SC Tryz.prog c [xJ t,.ptr 0 0] [.box 9 [.s n]] (.val (.b (p t))) [.box 9 [.s n]]):
  SC Tryz.prog 84 [nG s,.s n,.fn (.func c) [] [.ptr 0 0]] [.box 9 [.s n]] (.val (.tup [.sl .none (b5 (lZ s p n).1),.i .i64 (lZ s p n).2])) [.box 9 [.s n]]:=by
 have hv:=PR s hz;have hr:=qK s hz.1.2.1 n;have hcl:=RT s p c n hl hc hp;unfold lZ;cases h:((oM s).2.2==0) with
 |false=>
  rw[h] at hv;refine cW Tryz.func84 rfl ?_;conv=>whnf
  refine cP hv ?_;conv=>whnf
  exact dH 1 (hw:=Wk.tupl ⟨bK _ _,.refl _,trivial⟩)
 |true=>
  rw[h] at hv;rcases jT (fun r:Rc=>r.name==n) s.rc with⟨h1,_,h2⟩|⟨i,y,h1,hy,_,h2⟩
  ·rw[h2];refine cW Tryz.func84 rfl ?_;(conv=>whnf);refine cP hv ?_;(conv=>whnf);refine cP hr ?_;(conv=>whnf);refine gY (bQ h1) ?_;(conv=>whnf);exact dH 1 (hw:=Wk.tupl ⟨bK _ _,.refl _,trivial⟩)
  ·rw[h2];rw[h1] at hr;refine cW Tryz.func84 rfl ?_;(conv=>whnf);refine cP hv ?_;(conv=>whnf);refine cP hr ?_;(conv=>whnf);refine cX [0] (s':=[.box 9 [.s n]]) (x:=[.box 26 (nI s),.box 132 [.fn (.func c) [] [.ptr 0 0]]]) (XI s c n) ?_;(conv=>whnf);refine cS [3,4,0] hcl ?_;(conv=>whnf);exact dH 1
end
theorem a0D [MaxL] (t:Sy) (n:By):SC Tryz.prog 89 [xJ t,.ptr 0 0] [.box 9 [.s n]] (.val (.b (t.owner==n))) [.box 9 [.s n]]:=by
 refine cW Tryz.func89 rfl ?_;conv=>whnf
 exact dH 1
theorem XK [MaxL] (t:Sy) (hm:t.ms.length<bH) (n:By):SC Tryz.prog 85 [xJ t,.ptr 0 0] [.box 9 [.s n]] (.val (.b (t.ms.any fun m=>m.of==n))) [.box 9 [.s n]]:=by
 have h:=z8 t hm n;rw[<-nE];refine cW Tryz.func85 rfl ?_;conv=>whnf
 refine cP h ?_;conv=>whnf
 exact dH 1
theorem PS [MaxL] (s:Sch) (hz:lU s) (hl:s.st.length<=1000) (n:By):SC Tryz.prog 28 [nG s,.s n] [] (.val (.tup [.sl .none (b5 (lZ s (fun t=>t.owner==n) n).1),.i .i64 (lZ s (fun t=>t.owner==n) n).2])) []:=by
 have h:=KP s (fun t=>t.owner==n) 89 n hz hl (.inl rfl) (fun t _=>a0D t n);refine cW Tryz.func28 rfl ?_;conv=>whnf
 refine cS [1] h ?_;conv=>whnf
 exact dH 0
theorem UG [MaxL] (s:Sch) (hz:lU s) (hl:s.st.length<=1000) (n:By):SC Tryz.prog 25 [nG s,.s n] [] (.val (.tup [.sl .none (b5 (lZ s (fun t=>t.ms.any fun m=>m.of==n) n).1),.i .i64 (lZ s (fun t=>t.ms.any fun m=>m.of==n) n).2])) []:=by
 have h:=KP s (fun t=>t.ms.any fun m=>m.of==n) 85 n hz hl (.inr rfl) (fun t ht=>XK t (hz.2.2 t ht).1 n);refine cW Tryz.func25 rfl ?_;conv=>whnf
 refine cS [1] h ?_;conv=>whnf
 exact dH 0
theorem yQ {α:Type} {f:Nat->α->Int} {n:Nat} {l:List α} {p:Nat×Int} (h:eP f n l=some p):p.2≠0:=by
 induction l generalizing n with
 |nil=>cases h
 |cons x l ih=>
  unfold eP at h;by_cases h0:f n x=0
  ·rw[aG h0] at h;exact ih h
  ·rw[aE h0] at h;cases h;exact h0
section
variable {known : List Itm → Bool} {canon : By → Bool} {check : List Itm → By → Int}
theorem XF {s:Sch} (h:(XG known canon check s).2.2=0):vD s.ar.length 1 6=true/\eP (fun i a=>mD ((dD s).take i) a) 0 s.ar=none/\vD s.rc.length 1 10=true/\
  eP (fun i r=>KW known canon check s (dD s++(gF s).take i) r) 0 s.rc=none/\¬s.st.length>60/\eP (fun i t=>ND s (dD s++(gF s++(sP s).take i)) t) 0 s.st=none:=by
 unfold XG at h;cases h1:vD s.ar.length 1 6 with
 |false=>rw[h1] at h;exact absurd (show(4:Int)=0 from h) (by decide)
 |true=>
  rw[h1,aE (by simp)] at h;cases h2:eP (fun i a=>mD ((dD s).take i) a) 0 s.ar with
  |some p=>rw[h2] at h;exact absurd h (yQ h2)
  |none=>
   rw[h2] at h;simp only[] at h;unfold H9 at h;cases h3:vD s.rc.length 1 10 with
   |false=>rw[h3] at h;exact absurd (show(4:Int)=0 from h) (by decide)
   |true=>
    rw[h3,aE (by simp)] at h;cases h4:eP (fun i r=>KW known canon check s (dD s++(gF s).take i) r) 0 s.rc with
    |some p=>rw[h4] at h;exact absurd h (yQ h4)
    |none=>
     rw[h4] at h;simp only[] at h;unfold H7 at h;by_cases h5:s.st.length>60
     ·rw[aG h5] at h;exact absurd h (by decide)
     ·rw[aE h5] at h;cases h6:eP (fun i t=>ND s (dD s++(gF s++(sP s).take i)) t) 0 s.st with
      |some p=>rw[h6] at h;exact absurd h (yQ h6)
      |none=>exact⟨rfl,rfl,rfl,rfl,h5,rfl⟩
end
theorem TZ {w:Bool} {e b:Int} (he:e≠0) (h:dZ w e b=0):w=false/\b=0:=by
 unfold dZ at h;cases w with
 |false=>exact⟨rfl,h⟩
 |true=>exact absurd h he
theorem U4 {s:Sch} {met:List By} {t:Sy} (h:ND s met t=0):met.contains t.name=false/\(t.owner !=[]&&!((gF s).contains t.owner))=false:=by
 unfold ND kX at h;obtain⟨_,h⟩:=TZ (by decide) h;obtain⟨h1,h⟩:=TZ (by decide) h;exact⟨h1,(TZ (by decide) h).1⟩
theorem H6 {s:Sch} (h:(oM s).2.2=0) {j:Nat} {t:Sy} (hj:s.st[j]?=some t):(∀z∈s.st.take j,(z.name==t.name)=false)/\(t.owner !=[]&&!((gF s).contains t.owner))=false:=by
 have h6:=yR (XF (s:=s) h).2.2.2.2.2 j t hj;obtain⟨h1,h2⟩:=U4 h6;refine⟨fun z hz=>?_,h2⟩;cases hq:z.name==t.name with
 |false=>rfl
 |true=>
  exfalso;have e:=eq_of_beq hq;have:(dD s++(gF s++(sP s).take (0+j))).contains t.name=true:=by
   rw[List.contains_iff_mem];refine List.mem_append_right _ (List.mem_append_right _ ?_);unfold sP;rw[bD,<-List.map_take,<-e];exact List.mem_map_of_mem hz
  rw[h1] at this;cases this
theorem RK {s:Sch} (h:(oM s).2.2=0) {t:Sy} (ht:t∈s.st):s.st.find? (·.name==t.name)=some t:=by
 obtain⟨j,hj⟩:=List.mem_iff_getElem?.1 ht;have h1:=vA (p:=fun z:Sy=>z.name==t.name) hj (by simp) (H6 h hj).1;rcases jT (fun z:Sy=>z.name==t.name) s.st with⟨h2,_⟩|⟨i,y,h2,hy,h3,_⟩
 ·rw[h1] at h2;omega
 ·rw[h1] at h2;have:j=i:=by omega
  subst this;rw[hj] at hy;cases hy;exact h3
theorem Y4 {s:Sch} (h:(oM s).2.2=0) (n r:By):(((s.st.filter fun t=>t.ms.any fun m=>m.of==r).map (·.name)).contains n)=((B4 s n r).2==0):=by
 rw[dG];have e0:s4 s n=(match s.st.find? (·.name==n) with|none=>(ZA,0,5)|some t=>(t,mC (·.name==n) s.st,0)):=by unfold s4;rw[h];rfl
 unfold B4;rw[e0];cases hf:s.st.find? (·.name==n) with
 |none=>
  show _=false;rw[Bool.eq_false_iff];intro ha;obtain⟨t,ht,hn⟩:=List.any_eq_true.1 ha;have:=List.find?_eq_none.1 hf t (List.mem_filter.1 ht).1;exact this hn
 |some t=>
  have htb:(t.name==n)=true:=List.find?_some (p:=fun z:Sy=>z.name==n) hf;have htn:t.name=n:=eq_of_beq htb;have htm:=hZ hf;show _=(((match t.ms.find? (·.of==r) with|none=>(mb0,8)|some m=>(m,0)):Mb×Int).2==0);cases hm:t.ms.find? (·.of==r) with
  |none=>
   show _=false;rw[Bool.eq_false_iff];intro ha;obtain⟨u,hu,hn⟩:=List.any_eq_true.1 ha;obtain⟨hu1,hu2⟩:=List.mem_filter.1 hu;have h1:=RK h hu1;rw[eq_of_beq hn,hf] at h1;cases h1;obtain⟨m,hm1,hm2⟩:=List.any_eq_true.1 hu2;exact List.find?_eq_none.1 hm m hm1 hm2
  |some m=>
   show _=true;refine List.any_eq_true.2 ⟨t,List.mem_filter.2 ⟨htm,List.any_eq_true.2 ⟨m,hZ hm,List.find?_some (p:=fun z:Mb=>z.of==r) hm⟩⟩,by rw[htn];simp⟩
theorem XX {s:Sch} {n:By} {t:Sy} {i:Int} (hR:s4 s n=(t,i,0)) (ho:t.owner≠[]):(lZ s (fun u=>u.owner==t.owner) t.owner).2=0/\(lZ s (fun u=>u.owner==t.owner) t.owner).1.contains n=true:=by
 unfold s4 at hR;cases hv:((oM s).2.2==0) with
 |false=>rw[hv] at hR;simp at hR
 |true=>
  rw[hv,aG rfl] at hR;cases hf:s.st.find? (·.name==n) with
  |none=>rw[hf] at hR;simp at hR
  |some u=>
   rw[hf] at hR;have:u=t:=(Prod.mk.inj hR).1;subst this;have hm:=hZ hf;obtain⟨j,hj⟩:=List.mem_iff_getElem?.1 hm;have h2:=(H6 (eq_of_beq hv) hj).2;have h3:(gF s).contains u.owner=true:=by
    cases hc:(gF s).contains u.owner with
    |true=>rfl
    |false=>rw[hc] at h2;simp at h2;exact absurd h2 ho
   have h4:s.rc.any (·.name==u.owner)=true:=by rw[<-dG (fun r:Rc=>r.name)];exact h3
   have e:lZ s (fun v=>v.owner==u.owner) u.owner=((s.st.filter fun v=>v.owner==u.owner).map (·.name),0):=by unfold lZ;rw[hv,aG rfl,h4,aG rfl]
   rw[e];refine⟨rfl,?_⟩;show((s.st.filter fun v=>v.owner==u.owner).map (·.name)).contains n=true;rw[dG];exact List.any_eq_true.2 ⟨u,List.mem_filter.2 ⟨hm,by simp⟩,List.find?_some (p:=fun z:Sy=>z.name==n) hf⟩
variable [Globals]
theorem EnvSound.of {P:Program} {w0:World} {M:FuncId->Bool} {Γ:PC} (h:∀k f,Γ k=some f->∀args σ r σ',f args σ=some (r,σ')->Fact P (.fn k) args σ r σ'/\(M k=true->σ'=σ)):EnvSound P w0 M Γ:=by
 refine⟨fun t args σ r σ' he=>?_,fun k hk args σ r σ' he=>?_⟩
 ·cases t with
  |yld q=>cases he
  |fn k=>
   simp only[zZ] at he;cases hg:Γ k with
   |none=>rw[hg] at he;cases he
   |some f=>
    rw[hg] at he;obtain⟨hf,_⟩:=h k f hg args σ r σ' he;exact⟨hf.keep,hf.ds,fun C w vs hr hv=>hf.calls w0 C w vs hr hv⟩
 ·simp only[zZ] at he;cases hg:Γ k with
  |none=>rw[hg] at he;cases he
  |some f=>
   rw[hg] at he;exact(h k f hg args σ r σ' he).2 hk
theorem SC.factNil {P:Program} {k:FuncId} {args args':List GV} {r:GRes} {σ:GS} (h:SC P k args [] r []) (ha:ClL args) (hr:∀e,r.ren e=r) (hw:Wks args' args):Fact P (.fn k) args' σ r σ:=by
 have hf:=h.fact (σ:={σ with lo:=0}) (args':=args') [] Lies.nil rfl (by rw[ha];exact hw);rw[hr] at hf;simp only[C3] at hf;exact⟨Keep.refl _,rfl,fun w0 C w vs hR hv=>(hf.calls w0 C w vs ⟨hR.below,hR.fxc,hR.obj,hR.dom,hR.new,hR.inj,hR.sepB,hR.sepO,hR.fxn,hR.gl,hR.gs⟩ hv).mono fun e w' ⟨D,h1,h2,h3⟩=>⟨D,h1,⟨h2.below,h2.fxc,h2.obj,h2.dom,h2.new,h2.inj,h2.sepB,h2.sepO,h2.fxn,h2.gl,h2.gs⟩,h3⟩⟩
theorem SC.of_gcall {P:Program} (hm:P.follows .mixedOrders=true) {M:FuncId->Bool} {Γ:PC} (hΓ:∀w0,EnvSound P w0 M Γ) {m:Nat} {k:FuncId} {args:List GV} {r:GRes}
  (h:(CL P M Γ m (.fn k) args ⟨[],0,[]⟩).map (·.1)=some r) (hr:∀e,r.ren e=r):SC P k args [] r []:=by
 obtain⟨⟨r1,σ'⟩,h1,rfl⟩:=Option.map_eq_some_iff.1 h;refine⟨rL _,fun C w vs hR hv=>?_,fun x hx=>by cases hx⟩;refine Calls.mono (((CK (w0:=w) hm (hΓ w) m).1 (.fn k) args _ _ _ h1).2.2 C w vs hR hv) ?_;rintro e w' ⟨D,hl,hrD,he⟩;refine⟨D.pull (iQ [] σ'.objs.length),?_,hrD.pull Lies.nil,?_⟩
 ·refine⟨hl.fx,fun i b hb=>?_,fun i I hI=>?_,hl.hd,hl.fix⟩
  ·rw[(hR.dom i (zL _)).1] at hb;cases hb
  ·rw[(hR.dom i (zL _)).2] at hI;cases hI
 ·have he2:ERel D (r1.ren (iQ [] σ'.objs.length)) e:=by rw[hr];exact he
  exact he2.pull (D:=D) (f:=iQ [] σ'.objs.length) (E:=D.pull (iQ [] σ'.objs.length)) (fun _ _ _ h=>h) (fun _=>rfl) (fun _=>rfl)
end Go.Proofs.YtcfgfkkhpdlhpaaGreatDoor
namespace Go.Proofs.YtcfgfkkhpdlhpaaGreatDoor
open Go.RowKit Go.Sort
theorem B5 [MaxL] {C:Cx} {w:World} (hr:Rel C ⟨[],0,[]⟩ w w):w.cell? ⟨0,0,none⟩=some (.int .i64 MaxL.m):=by
 obtain⟨u,h1,h2⟩:=hr.gl 0 [.i .i64 MaxL.m] 0 (.i .i64 MaxL.m) rfl rfl;have:=h2 C (fun _ _ _ h=>h);cases this;exact hr.fxc _ _ _ h1
theorem KD [MaxL] {C:Cx} {a b:List UInt8} {l:List GV} {vs:Array Value} (hv:VRs C (.s a::.s b::l) vs.toList):∃us,vs.toList=.string ⟨a.toArray⟩::.string ⟨b.toArray⟩::us/\VRs C l us:=by
 obtain⟨u,vs',e,hv1,hv2⟩:=hv.cons_inv;obtain⟨u2,vs2,e2,hv3,hv4⟩:=hv2.cons_inv;cases hv1;cases hv3;exact⟨vs2,by rw[e,e2],hv4⟩
theorem GB [MaxL] {C:Cx} {us:List Value} (hv:VRs C [] us):us=[]:=aM (by simpa using hv.1)
theorem WU [MaxL] (s kV:List UInt8) (hs:s.length<4000000000):SC Tryz.prog 195 [.s s,.s kV] [] (.val (.i .i64 (Lib.index s kV))) []:=by
 refine SC.of_calls fun C w vs hr hv=>?_;obtain⟨us,e,hu⟩:=KD hv;obtain rfl:=GB hu;obtain rfl:vs= #[_,_]:=by rw[<-f9 (xs:=vs),e]
 refine(Tryz.stringslite_Index ⟨s.toArray⟩ ⟨kV.toArray⟩ _ w (by simp[ByteArray.size];omega) (B5 hr)).mono ?_;rintro e w' ⟨rfl,rfl⟩;exact⟨_,rfl,.refl _ _,.i _ _⟩
theorem SC.of_row [MaxL] {P:Program} {k:FuncId} {args:List GV} {xs:List (List UInt8)}
  (h:∀(C:Cx) (w:World) (vs:Array Value),Rel C ⟨[],0,[]⟩ w w->VRs C args vs.toList->∃(cs:Array Value) (T:TypeId) (c:Nat),xs.length<=c/\(∀(i:Nat) x,xs[i]?=some x->cs[i]?=some (.string ⟨x.toArray⟩))/\
   Calls P k vs w fun e w'=>e=.returned (.slice (some ⟨w.heap.size,0,none⟩) xs.length c)/\w'=w.alloc (.cells cs T)):SC P k args [] (.val (.sl .none (xs.map .s))) []:=by
 refine⟨rL _,fun C w vs hr hv=>?_,fun x hx=>by simp at hx⟩;obtain⟨cs,T,c,hc,hx,hcall⟩:=h C w vs hr hv;refine hcall.mono ?_;rintro e w' ⟨rfl,rfl⟩;obtain⟨D,hl,hF,hr'⟩:=hr.addFx (w':=w.alloc (.cells cs T)) rfl rfl rfl (by simp) (fun k hk=>by show(w.heap.push _)[k]?=_;rw[Array.getElem?_push_lt hk,aR hk]) (fun b o v=>b=w.heap.size/\cs[o]?=some v) (fun b o v hb=>by
  obtain⟨rfl,hb⟩:=hb;exact⟨rL _,by rw[World.cell?_alloc_new];simpa using hb⟩)
 refine⟨D,hl,hr',_,rfl,.sl 1 w.heap.size 0 (fun j=>(cs[j]?).getD (.bool false)) (by simp) hc (.inr (.inl rfl)) (fun x hx=>?_) (fun i x j g h1 h2=>?_) (fun i x j g h1 h2=>?_) trivial⟩
 ·obtain⟨b,_,rfl⟩:=List.mem_map.1 hx;rfl
 all_goals
  rw[aL,aI] at h1;obtain⟨b,hb,rfl⟩:=h1;cases j with
  |succ j=>cases h2
  |zero=>
  cases h2;have hi:(cs[i*1+0]?).getD (.bool false)=.string ⟨b.toArray⟩:=by simp[hx i b hb]
  first
   |exact hF _ _ _ ⟨rfl,by simp[hx i b hb]⟩
   |(rw[hi];exact .s _)
theorem WS [MaxL] (s kV:List UInt8) (n:Nat) (hs:s.length<4000000000) (h1:1<=kV.length) (hn:1<=n) (hn2:n<=4000000000):SC Tryz.prog 199 [.s s,.s kV,.i .i64 (n:Nat)] [] (.val (.sl .none ((Lib.splitK kV 0 (min n (s.length+1) - 1) s).map .s))) []:=by
 have hd:=Lib.splitB_data ⟨kV.toArray⟩ 0 (min n (s.length+1) - 1) ⟨s.toArray⟩;simp only at hd;refine SC.of_row fun C w vs hr hv=>?_;obtain⟨us,e,hu⟩:=KD hv;obtain⟨u,us',e2,hu1,hu2⟩:=hu.cons_inv;obtain rfl:=GB hu2;cases hu1;subst e2;obtain rfl:vs= #[_,_,_]:=by rw[<-f9 (xs:=vs),e]
 have hlen:=Lib.splitB_length_le ⟨kV.toArray⟩ 0 (min n (s.length+1) - 1) ⟨s.toArray⟩;have hsz:(⟨s.toArray⟩:ByteArray).size=s.length:=by simp[ByteArray.size]
 have hc:=Tryz.strings_SplitN ⟨s.toArray⟩ ⟨kV.toArray⟩ n _ w (by rw[hsz];omega) (B5 hr) (by simpa[ByteArray.size] using h1) hn (by omega);rw[hsz] at hc;rw[<-hd];refine⟨_,_,min n (s.length+1),by rw[cT];omega,fun i x hx=>?_,by rw[cT];exact hc⟩;rw[aL,aI] at hx;obtain⟨b,hb,rfl⟩:=hx;have hi:=(List.getElem?_eq_some_iff.1 hb).1;simp only[Lib.cellsOf,List.getElem?_toArray];rw[aT (by simpa using hi),aL,hb];simp
theorem Z4 [MaxL] (s kV:List UInt8) (hs:s.length<4000000000) (h1:1<=kV.length):SC Tryz.prog 247 [.s s,.s kV] [] (.val (.sl .none ((Lib.split s kV).map .s))) []:=by
 have hd:(Lib.splitB ⟨kV.toArray⟩ 0 (Lib.countB ⟨s.toArray⟩ ⟨kV.toArray⟩) ⟨s.toArray⟩).map (·.data.toList)=Lib.split s kV:=Lib.splitB_data _ 0 _ _;refine SC.of_row fun C w vs hr hv=>?_;obtain⟨us,e,hu⟩:=KD hv;obtain rfl:=GB hu;obtain rfl:vs= #[_,_]:=by rw[<-f9 (xs:=vs),e]
 have hz:1<=(⟨kV.toArray⟩:ByteArray).size:=by simpa[ByteArray.size] using h1
 have hlen:=Lib.splitB_all ⟨kV.toArray⟩ hz 0 _ ⟨s.toArray⟩ rfl;have hc:=Tryz.strings_Split ⟨s.toArray⟩ ⟨kV.toArray⟩ _ w (by simp[ByteArray.size];omega) (B5 hr) hz;rw[<-hd];refine⟨_,_,_,rL _,fun i x hx=>?_,by rw[cT,hlen];exact hc⟩;rw[aL,aI] at hx;obtain⟨b,hb,rfl⟩:=hx;rw[List.getElem?_toArray,aL,hb];simp
theorem WA [MaxL] {σ:GS} {r:Nat} (hlo:σ.lo=0) (ho:σ.objs[r]?=some (.box 92 [.o (.pointer none),.sl .full []])):
  Fact Tryz.prog (.fn 132) [.ptr r 0] σ (.val (.tup [])) (gset σ r (.box 92 [.ptr r 0,.sl .full []])):=by
 refine⟨.gset σ _ (by omega) ho (by simp),rfl,fun w0 C w vs hr hv=>?_⟩;show Calls _ _ _ _ _;obtain⟨v,rfl,hv1⟩:=hv.arr1;obtain⟨h0,b,cs,hb,ho',hcs⟩:=hr.obj r _ ho;obtain⟨u,u',rfl,hu,hu'⟩:=(BoxV.exact hcs rfl).arr2;cases hv1 with
 |ptr hb'=>
 rw[hb] at hb';cases hb';cases hu;have hc0:w.cell? ⟨b,0,none⟩=some (.pointer none):=by simp[World.cell?,ho']
 refine(Any.Builder_copyCheck_fresh DI Tryz.Builder_Extra_156.toX72 b w hc0 (KN ho') (by simp[World.frozen?,ho'])).mono ?_;rintro e w' ⟨rfl,rfl⟩;refine⟨C,.refl C,Rel.setObj (r:=r) (b:=b) hr (List.getElem?_eq_some_iff.1 ho).1 hb _ ⟨h0,b,_,hb,heap_setCell_same w b 0 _ _ _ ho',?_⟩ rfl rfl rfl (by simp[World.setCell]) (fun k hk=>heap_setCell_other w _ k _ hk),_,rfl,.unit⟩;exact VRs.box (.cons (.ptr hb) (.cons hu' .nil))
theorem YI [MaxL] {σ:GS} {r:Nat} {x:GV} (ho:σ.objs[r]?=some (.box 92 [.ptr r 0,x])):
  Fact Tryz.prog (.fn 132) [.ptr r 0] σ (.val (.tup [])) σ:=by
 refine⟨.refl σ,rfl,fun w0 C w vs hr hv=>?_⟩;show Calls _ _ _ _ _;obtain⟨v,rfl,hv1⟩:=hv.arr1;obtain⟨h0,b,cs,hb,ho',hcs⟩:=hr.obj r _ ho;obtain⟨u,u',rfl,hu,hu'⟩:=(BoxV.exact hcs rfl).arr2;cases hv1 with
 |ptr hb'=>
 rw[hb] at hb';cases hb';cases hu with
 |ptr hb'=>
 rw[hb] at hb';cases hb';have hc0:w.cell? ⟨b,0,none⟩=some (.pointer (some ⟨b,0,none⟩)):=by simp[World.cell?,ho']
 refine(Any.Builder_copyCheck_used DI Tryz.Builder_Extra_156.toX72 b w hc0).mono ?_;rintro e w' ⟨rfl,rfl⟩;exact⟨C,.refl C,hr,_,rfl,.unit⟩
def gcc (args:List GV) (σ:GS):Option (GRes×GS):=
 match args with
 |[.ptr r 0]=>match σ.objs[r]? with
  |some (.box t [.o (.pointer none),.sl .full []])=>if σ.lo=0/\t=92 then some (.val (.tup []),gset σ r (.box t [.ptr r 0,.sl .full []])) else none
  |some (.box t [.ptr q 0,x])=>if q=r/\t=92 then some (.val (.tup []),σ) else none
  |_=>none
 |_=>none
theorem W7 [MaxL] {args:List GV} {σ σ':GS} {r:GRes} (h:gcc args σ=some (r,σ')):Fact Tryz.prog (.fn 132) args σ r σ':=by
 unfold gcc at h;split at h
 ·split at h
  ·rename_i ho;split at h
   ·rename_i hc;obtain⟨h1,rfl⟩:=hc;cases h;exact WA h1 ho
   ·cases h
  ·rename_i ho;split at h
   ·rename_i hc;obtain⟨rfl,rfl⟩:=hc;cases h;exact YI ho
   ·cases h
  ·cases h
 ·cases h
def gix (args:List GV) (σ:GS):Option (GRes×GS):=
 match args with
 |[.s a,.s b]=>if a.length<4000000000 then some (.val (.i .i64 (Lib.index a b)),σ) else none
 |_=>none
def gsn (args:List GV) (σ:GS):Option (GRes×GS):=
 match args with
 |[.s a,.s b,.i .i64 (.ofNat n)]=>if a.length<4000000000/\1<=b.length/\1<=n/\n<=4000000000 then some (.val (.sl .none ((Lib.splitK b 0 (min n (a.length+1) - 1) a).map .s)),σ) else none
 |_=>none
def gsp (args:List GV) (σ:GS):Option (GRes×GS):=
 match args with
 |[.s a,.s b]=>if a.length<4000000000/\1<=b.length then some (.val (.sl .none ((Lib.split a b).map .s)),σ) else none
 |_=>none
def a1c:PC:=fun k=>if k=132 then some gcc else if k=195 then some gix else if k=199 then some gsn else if k=247 then some gsp else none
theorem YK [MaxL] (w0:World):EnvSound Tryz.prog w0 (fun _=>false) a1c:=.of fun k f hf args σ r σ' h=>⟨(by
 unfold a1c at hf;split at hf
 ·rename_i hk;cases hf;subst hk;exact W7 h
 ·split at hf
  ·rename_i hk;cases hf;subst hk;unfold gix at h;split at h
   ·split at h
    ·rename_i hl;cases h;exact SC.factNil (WU _ _ hl) (fun _=>rfl) (fun _=>rfl) (wR _)
    ·cases h
   ·cases h
  ·split at hf
   ·rename_i hk;cases hf;subst hk;unfold gsn at h;split at h
    ·split at h
     ·rename_i hl;cases h;exact SC.factNil (WS _ _ _ hl.1 hl.2.1 hl.2.2.1 hl.2.2.2) (fun _=>rfl) (fun e=>by show GRes.val (GV.ren e _)=_;rw[bT (gX (fun _=>Cl.s _) _)]) (wR _)
     ·cases h
    ·cases h
   ·split at hf
    ·rename_i hk;cases hf;subst hk;unfold gsp at h;split at h
     ·split at h
      ·rename_i hl;cases h;exact SC.factNil (Z4 _ _ hl.1 hl.2) (fun _=>rfl) (fun e=>by show GRes.val (GV.ren e _)=_;rw[bT (gX (fun _=>Cl.s _) _)]) (wR _)
      ·cases h
     ·cases h
    ·cases hf),fun h9=>by cases h9⟩
theorem rS [MaxL]:SC Tryz.prog 11 [] [] (.val (.b true)) []:=SC.of_gcall mixed YK (m:=40) (by kernel_rfl) (fun _=>rfl)
end Go.Proofs.YtcfgfkkhpdlhpaaGreatDoor
namespace Go.Proofs.YtcfgfkkhpdlhpaaGreatDoor
open Go.RowKit
theorem XB {α:Type} {f:α->Nat} {l:List α} {x:α} (h:x∈l):f x<=(l.map f).sum:=by
 induction l with
 |nil=>cases h
 |cons y l ih=>
  rw[dN,List.sum_cons];rcases List.mem_cons.1 h with rfl|h
  ·omega
  ·have:=ih h;omega
theorem VP {s:Sch} (h:vT s=true):lU s/\∀r∈s.rc,r.check.length<1000000:=by
 unfold vT at h;simp only[aH,dT,Bool.or_eq_false_iff,bM,aS,aK] at h;obtain⟨⟨⟨h1,h2⟩,h3⟩,h4,h5,h6⟩:=h;have hk:∀r∈s.rc,r.check.length<=6000:=fun r hr=>by
  have h7:TG r<=(s.rc.map TG).sum:=XB hr;have h8:TG r=r.name.length+r.area.length+r.via.length+r.check.length:=rfl;omega
 refine⟨⟨⟨by unfold bH;omega,by unfold bH;omega,by unfold bH;omega⟩,fun r hr=>?_,fun t ht=>?_⟩,fun r hr=>by have:=hk r hr;omega⟩
 ·have h8:=h4 r hr;have h9:=hk r hr;unfold IJ EV s8 at h8;simp only[aH,aK] at h8;unfold bH;exact⟨by have:=h8.1.2;omega,by have:=h8.2.2;omega,by omega⟩
 ·have h8:=h5 t ht;unfold z1 s8 at h8;simp only[aH,dT,Bool.or_eq_false_iff,bM,aS,aK] at h8;unfold bH;exact⟨by have:=h8.1.1;omega,by have:=h8.1.2;omega,fun m hm=>by have:=(h8.2 m hm).2;omega⟩
