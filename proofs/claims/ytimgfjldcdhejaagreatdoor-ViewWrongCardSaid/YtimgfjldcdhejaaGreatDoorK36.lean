/- Part of ViewWrong. -/
import Derived.Test.YtimgfjldcdhejaaGreatDoorK35
set_option linter.all false
set_option maxRecDepth 100000
namespace Go.Proofs.YtimgfjldcdhejaaGreatDoor
open Go.RowKit
theorem a68 [MaxL] (n:By):SC Tryz.prog 156 [.s n] [] (.val (.b (tM n))) []:=by
 have hw:tM n=((n==[97,110,100])||((n==[111,114])||((n==[110,111,116])||((n==[116,114,117,101])||(n==[102,97,108,115,101]))))):=by
  unfold tM a4w;rw[iK,iK,iK,iK,iK,List.contains_nil,Bool.or_false]
 rw[hw];refine cO Tryz.func156 rfl ?_;conv=>whnf
 apply gM<;>intro h<;>conv=>whnf
 ·rw[show(n==[97,110,100])=true from h,Bool.true_or];exact cQ 0
 rw[show(n==[97,110,100])=false from h,jW];apply gM<;>intro h<;>conv=>whnf
 ·rw[show(n==[111,114])=true from h,Bool.true_or];exact cQ 0
 rw[show(n==[111,114])=false from h,jW];apply gM<;>intro h<;>conv=>whnf
 ·rw[show(n==[110,111,116])=true from h,Bool.true_or];exact cQ 0
 rw[show(n==[110,111,116])=false from h,jW];apply gM<;>intro h<;>conv=>whnf
 ·rw[show(n==[116,114,117,101])=true from h,Bool.true_or];exact cQ 0
 rw[show(n==[116,114,117,101])=false from h,jW];exact cQ 0
def z6 (a b:By):By×Int:=if a=[] then(b,0) else if b=[] then(a,0) else zV true a b
theorem a69 [MaxL] (a b:By):SC Tryz.prog 101 [.s a,.s b] [] (.val (.tup [.s (z6 a b).1,.i .i64 (z6 a b).2])) []:=by
 have hA:=a7U a b;rw[a3b] at hA;generalize hX:z6 a b=X;unfold z6 at hX;refine cO Tryz.func101 rfl ?_;conv=>whnf
 apply gM<;>intro h<;>conv=>whnf
 ·rw[aD (by simpa using h)] at hX;subst hX;exact cQ 0
 rw[aC (by simpa using h)] at hX;apply gM<;>intro h2<;>conv=>whnf
 ·rw[aD (by simpa using h2)] at hX;subst hX;exact cQ 0
 rw[aC (by simpa using h2)] at hX;rw[hX] at hA;refine cP hA ?_;conv=>whnf
 exact cQ 0
theorem a1h [MaxL] (r:VwR) (hr:r.items.length<b9) (l:List By) (hl:l.length<=1000000):SC Tryz.prog 98 [uQ r,.sl .none (bR l)] [] (.val (.sl .none (bR (l.map fun n=>(cW r n).getD [])))) []:=by
 have hlen:=cD l;refine bQ zC mixed Tryz.func98 rfl (bL rfl) (by first|exact rL _|simp) rfl ?_;conv=>whnf
 refine bE 3 l.length (fun i o=>o=(l.take i).map fun n=>(cW r n).getD []) (fun i o=>[(1,.sl .none (bR l)),(2,.ptr 0 0),(5,.sl (.own 2) (bR o)),(6,.i .i64 (i:Nat))]) (fun _ o=>[.box 74 (rM r),.own 0 0 0,ow 9 1 o.length]) [] [] rfl (fun i o φ0 hi ho=>?_) (hh:=fun _ _=>by simp only[e8,l5];rfl);conv=>whnf
 apply gM<;>intro h<;>conv=>whnf
 rotate_left
 ·have hie:l.take i=l:=aW (by have:=aA h;omega);rw[hie] at ho;rw[<-ho];exact cQ 0 (hw:=bY _ _)
 have hlt:i<l.length:=by have:=aB h;omega
 refine(d7 hlt).elim fun n hn=>?_;have hol:o.length<=i:=by rw[ho,b6,aS];omega
 have hnx:o++[(cW r n).getD []]=(l.take (i+1)).map fun n=>(cW r n).getD []:=by rw[aT,hn,b5,<-ho];rfl
 refine lQ ?_;conv=>whnf
 refine ix (aY hn) ⟨rfl,?_⟩;conv=>whnf
 refine cP (a1Y r hr n) ?_;conv=>whnf
 cases o with
 |nil=>
  refine L9 (f:=GV.s) (c:=1) (fun _=>rfl) [] ((cW r n).getD []) rfl (by omega) ?_;conv=>whnf
  refine aN ?_;conv=>whnf
  exact nx ([]++[(cW r n).getD []]) hlt ⟨hlt,hnx⟩
 |cons z zs=>
  refine L9 (f:=GV.s) (c:=1) (fun _=>rfl) (z::zs) ((cW r n).getD []) rfl (by omega) ?_;conv=>whnf
  refine aN ?_ (h:=(cD (z::zs)).symm);conv=>whnf
  exact nx ((z::zs)++[(cW r n).getD []]) hlt ⟨hlt,hnx⟩
def tT (r:VwR) (t:By):By×Int:=if t=[]∨(CS t).all (tS r)=false then([],0) else J0 t (CS t) ((CS t).filterMap (cW r))
theorem a19 (r:VwR) (t:By):asT r t=if(tT r t).2=0 then some (tT r t).1 else none:=by
 unfold asT tT;split
 ·rfl
 ·rfl
theorem a3y [MaxL] (t:By) (ht:t.length<1000000):∃e:Int,SC Tryz.prog 155 [.s t] [] (.val (.tup [.sl .none (bR (CS t)),.i .i64 e])) []:=by
 have h:=a3x t ht;have h2:=a1s t false;rw[aC (by simp)] at h2;rw[h2] at h;unfold z1 at h;unfold CS;cases hx:iP t with
 |ok x=>rw[hx] at h;exact⟨0,h⟩
 |err e=>rw[hx] at h;exact⟨e,h⟩
theorem QO [MaxL] (r:VwR) (hr:r.items.length<b9) (hne:∀n x,cW r n=some x->x≠[]) (t:By) (ht:t.length<1000000):SC Tryz.prog 100 [uQ r,.s t] [] (.val (.tup [.s (tT r t).1,.i .i64 (tT r t).2])) []:=by
 obtain⟨e0,hN⟩:=a3y t ht;have hnl:=a1q t;have hR:=a1c t (CS t) ((CS t).filterMap (cW r)) (by omega) (Nat.lt_of_le_of_lt (List.length_filterMap_le _ _) (by omega));rw[a3p] at hR;generalize hX:tT r t=X;unfold tT at hX;generalize CS t=l at*;have hlen:=cD l;refine bQ zC mixed Tryz.func100 rfl (bL rfl) (by first|exact rL _|simp) rfl ?_;conv=>whnf
 apply gM<;>intro h<;>conv=>whnf
 ·rw[aD (.inl (by simpa using h))] at hX;subst hX;exact cQ 0
 have ht0:¬t=[]:=by simpa using h
 refine cP hN ?_;conv=>whnf
 refine bE 2 l.length (fun i o=>(∀n∈l.take i,tS r n=true)/\o=(l.take i).filterMap (cW r)) (fun i o=>[(1,.s t),(2,.ptr 0 0),(6,.sl .none (bR l)),(8,.sl (.own 1) (bR o)),(9,.i .i64 (i:Nat))]) (fun _ o=>[.box 74 (rM r),ow 9 1 o.length]) [] [] ⟨by simp,rfl⟩ (fun i o φ0 hi ho=>?_) (hh:=fun _ _=>by simp only[e8,l5];rfl);obtain⟨ho1,ho2⟩:=ho;conv=>whnf
 apply gM<;>intro h<;>conv=>whnf
 rotate_left
 ·have hie:l.take i=l:=aW (by have:=aA h;omega);rw[hie] at ho1 ho2;rw[aC (fun h9=>h9.elim ht0 fun h9=>by rw[List.all_eq_true.2 ho1] at h9;cases h9),<-ho2] at hX;rw[<-ho2,hX] at hR;refine cP hR ?_ (wC (bF _) (wC (bF _) (wC (bY _ _) (wR _))));conv=>whnf
  exact cQ 0
 have hlt:i<l.length:=by have:=aB h;omega
 refine(d7 hlt).elim fun n hn=>?_;have hnm:=aE hn;have hol:o.length<=i:=by rw[ho2];exact dG (List.length_filterMap_le _ _) (by rw[aS];omega)
 have hstop:tS r n=false->X=([],0):=fun h=>by
  rw[aD (.inr (List.all_eq_false.2 ⟨n,hnm,by rw[h];simp⟩))] at hX;exact hX.symm
 refine lQ ?_;conv=>whnf
 refine ix (aY hn) ⟨rfl,?_⟩;conv=>whnf
 refine cP (a1Y r hr n) ?_;conv=>whnf
 apply gM<;>intro h5<;>conv=>whnf
 ·have h6:=W0 (hne n) h5;have h7:=hstop (by unfold tS;cases hs:cW r n with|none=>rfl|some x=>rw[hs] at h6;cases h6);subst h7;exact cQ 0
 have h6:=a35 h5;refine cP (a68 ((cW r n).getD [])) ?_;conv=>whnf
 obtain⟨x,hx⟩:=Option.isSome_iff_exists.1 h6;rw[hx];apply gM<;>intro h7<;>conv=>whnf
 ·have h8:=hstop (by unfold tS;rw[hx];show(!tM x)=false;rw[show tM x=true from h7];rfl);subst h8;exact cQ 0
 have hw:tS r n=true:=by unfold tS;rw[hx];show(!tM x)=true;rw[show tM x=false from h7];rfl
 have hnx:(∀m∈l.take (i+1),tS r m=true):=fun m hm=>by
  rw[aT,hn] at hm;rcases List.mem_append.1 hm with hm|hm
  ·exact ho1 m hm
  ·rw[List.mem_singleton.1 (show m∈[n] from hm)];exact hw
 have ho':o++[x]=(l.take (i+1)).filterMap (cW r):=by rw[aT,hn,List.filterMap_append,<-ho2];simp[hx]
 cases o with
 |nil=>
  refine L9 (f:=GV.s) (c:=1) (fun _=>rfl) [] x rfl (by omega) ?_;conv=>whnf
  refine aN ?_;conv=>whnf
  exact nx ([]++[x]) hlt ⟨hlt,hnx,ho'⟩
 |cons z zs=>
  refine L9 (f:=GV.s) (c:=1) (fun _=>rfl) (z::zs) x rfl (by omega) ?_;conv=>whnf
  refine aN ?_ (h:=(cD (z::zs)).symm);conv=>whnf
  exact nx ((z::zs)++[x]) hlt ⟨hlt,hnx,ho'⟩
theorem GLoop.rngV [Globals] {β:Type} {f:r7} {φ:Fr} {σ:GS} {K:GX->Fr->GS->Prop} (m n:Nat) (I:Nat->β->Prop) (L:Nat->β->List (Nat×GV)) (O:Nat->β->List GObj) (b0:β) (h0:I 0 b0)
  (hO:∀i b,FH (O i b).length (O i b)) (hm:∀i b,m<=(O i b).length) (hh:∀i b,(O i b).all GObj.notHeld=true)
  (step:∀i b φ0,i<=n->I i b->f (AI φ0 (L i b)) ⟨O i b,0,[]⟩ fun x φ' σ'=>match x with
   |.normal=>∃m',m'<n - i/\∃a':Nat×β,(a'.1<=n/\I a'.1 a'.2)/\n - a'.1=m'/\kT φ' (L a'.1 a'.2)/\∃extra,σ'.objs=O a'.1 a'.2++extra/\σ'.ds=[]
   |.exit i=>K (.exit i) φ' σ'
   |.ret=>K .ret φ' σ'
   |.panic g=>K (.panic g) φ' σ')
  (hφ:kT φ (L 0 b0):=by repeat' first|exact trivial|exact rfl|refine And.intro ?_ ?_) (hσ:σ=⟨O 0 b0,0,[]⟩:=by rfl) (hm0:(O 0 b0).length=m:=by rfl) (i2:∀i b,FP m (L i b):=by intros;repeat first|exact FP.nil|refine FP.cons ?_):GLoop f φ σ K:=
 dH (fun q:Nat×β=>q.1<=n/\I q.1 q.2) (fun q=>L q.1 q.2) (fun q=>⟨O q.1 q.2,0,[]⟩) (fun q=>n - q.1) (0,b0) ⟨zL _,h0⟩ hφ hσ (fun q _=>by show(O 0 b0).length<=_;rw[hm0];exact hm _ _) (fun q _=>hh q.1 q.2)
  (fun q hq e he=>⟨(hO q.1 q.2).h e he,rfl,(i2 q.1 q.2).h e fun i hi=>he i (cI hi (hm q.1 q.2))⟩) (fun q φ0 hq=>step q.1 q.2 φ0 hq.1 hq.2)
def raO (s:Sch) (v:Vw) (r:VwR) (o:Rc):List Itm->List GObj
 |[]=>[.box 26 (jX s),.box 30 (j9 v),.box 74 (rM r),.box 58 [.s [],.s [],.sl .full [],.i .i64 0,.sl .full [],.b false,.s [],.s []],.box 58 (LD o),.box 58 [.s r.name,.s o.area,.sl .full [],.i .i64 1,.sl .full [],.b false,.s [],.s []]]
 |x::l=>[.box 26 (jX s),.box 30 (j9 v),.box 74 (rM r),.box 58 [.s [],.s [],.sl .full [],.i .i64 0,.sl .full [],.b false,.s [],.s []],.box 58 (LD o),.box 58 [.s r.name,.s o.area,.sl (.own 8) (fM (x::l)),.i .i64 1,.sl .full [],.b false,.s [],.s []],.box 92 x.cs,.own 1 5 92,.own (l.length+1) 5 92]
set_option synthInstance.maxSize 2000 in
theorem a7M [MaxL] (s:Sch) (v:Vw) (r:VwR) (o:Rc) (l:List Itm):FH (raO s v r o l).length (raO s v r o l):=by
 cases l with
 |nil=>show FH 6 [_,_,_,_,_,_];infer_instance
 |cons x l=>show FH 9 [_,_,_,_,_,_,_,_,_];infer_instance
theorem a7K (s:Sch) (v:Vw) (r:VwR) (o:Rc) (l:List Itm):6<=(raO s v r o l).length:=by cases l<;>exact bL rfl
theorem a7L [MaxL] (s:Sch) (v:Vw) (r:VwR) (o:Rc) (l:List Itm):(raO s v r o l).all GObj.notHeld=true:=by cases l<;>rfl
def U8 (o:Rc) (r:VwR):By×Int:=if(tT r o.check).2≠0 then([],4) else if(tT r r.only).2≠0 then([],4) else
 if(z6 (tT r o.check).1 (tT r r.only).1).2≠0 then((z6 (tT r o.check).1 (tT r r.only).1).1,4) else((z6 (tT r o.check).1 (tT r r.only).1).1,0)
theorem a4t (a b:By):E2 a b=if(z6 a b).2=0 then some (z6 a b).1 else none:=by
 unfold E2 z6;split
 ·rfl
 ·split
  ·rfl
  ·rfl
theorem a3q (o:Rc) (r:VwR):(U8 o r).2=if(SQ o r).isNone then 4 else 0:=by
 unfold U8 SQ;rw[a19,a19];by_cases h1:(tT r o.check).2=0
 ·rw[aC (fun h=>h h1),aD h1];by_cases h2:(tT r r.only).2=0
  ·rw[aC (fun h=>h h2),aD h2];show _=if(E2 (tT r o.check).1 (tT r r.only).1).isNone then 4 else 0;rw[a4t];by_cases h3:(z6 (tT r o.check).1 (tT r r.only).1).2=0
   ·rw[aC (fun h=>h h3),aD h3];rfl
   ·rw[aD h3,aC h3];rfl
  ·rw[aD h2,aC h2];rfl
 ·rw[aD h1,aC h1];rfl
theorem a4J {r:VwR} (hne:∀n x,cW r n=some x->x≠[]) (l:List By):(l.map fun n=>(cW r n).getD []).contains []=!(l.all fun n=>(cW r n).isSome):=by
 induction l with
 |nil=>rfl
 |cons n l ih=>
  rw[dJ,iK,ih,e8];cases hs:cW r n with
  |none=>rfl
  |some x=>
   have hx:(([]:By)==x)=false:=by cases x with|nil=>exact absurd rfl (hne n _ hs)|cons a l=>rfl
   show(([]==x)||_)=!(true&&_);rw[hx,jW,Bool.true_and]
theorem a4B {r:VwR} {l:List By} (h:(l.all fun n=>(cW r n).isSome)=true):(l.map fun n=>(cW r n).getD [])=l.filterMap (cW r):=by
 induction l with
 |nil=>rfl
 |cons n l ih=>
  rw[e8,aF] at h;obtain⟨x,hx⟩:=Option.isSome_iff_exists.1 h.1;rw[dJ,List.filterMap_cons,hx,ih h.2];rfl
set_option synthInstance.maxSize 2000 in
set_option maxHeartbeats 4000000 in
theorem UD [MaxL] (s:Sch) (hz:kO s) (v:Vw) (hv:wD v) (r:VwR) (hg:GoodV s r) (hl:r.items.length<=8) (hkl:(bS s r.of).keys.length<=4) (hcl:(bS s r.of).check.length<1000000) (hol:r.only.length<1000000):
  SC Tryz.prog 42 [lT s,k7 v,uQ r] [] (.val (.tup [QK (qI v (bS s r.of) r (U8 (bS s r.of) r).1),.i .i64 (U8 (bS s r.of) r).2])) []:=by
 obtain⟨⟨ha,hrc,ht⟩,hr,hst⟩:=hz;obtain⟨v1,v2,v3⟩:=hv;have hrl:r.items.length<b9:=by unfold b9;omega
 have hne:∀n x,cW r n=some x->x≠[]:=fun n x hx e=>by
  unfold cW at hx;obtain⟨p,hp,rfl⟩:=Option.map_eq_some_iff.1 hx;have:=hg.names p (List.mem_of_find?_eq_some hp);rw[e] at this;cases this
 have hR:=lC s hrc r.of;refine((nL s r.of).resolve_right fun h9=>by have:=hg.there;rw[h9.2.2] at this;cases this).elim fun ri hri=>?_;obtain⟨hri1,hri2,_⟩:=hri;rw[hri1] at hR;have hil:(bS s r.of).its.length<b9:=(hr _ (aE hri2)).1;have hM:=a1h r hrl (bS s r.of).keys (by omega);have hS:=O2 v v2 (bS s r.of).via;have hC:=QO r hrl hne (bS s r.of).check hcl;have hO:=QO r hrl hne r.only hol;have hkn:=hg.known;generalize hX:U8 (bS s r.of) r=X;unfold U8 at hX;have hvv:=j2 (fun p:By×By=>p.2==(bS s r.of).via) v.sets;have hH:=a7T ((bS s r.of).keys.map fun n=>(cW r n).getD []) (by unfold b9;rw[b6];omega) [];have hkm:=a4B (r:=r) (l:=(bS s r.of).keys);rw[a4J hne] at hH;generalize bS s r.of=o at*;have hK:ksV o r=((o.keys.all fun n=>(cW r n).isSome)&&decide (o.place=2)):=rfl;have hw:viV v o=if o.place=3 then(v.sets.find? (fun p=>p.2==o.via)).map (·.1) else none:=rfl;generalize(o.keys.all fun n=>(cW r n).isSome)=kk at*;generalize jJ (fun p:By×By=>p.2==o.via) v.sets=ji at*;generalize v.sets.find? (fun p=>p.2==o.via)=fv at*;generalize tT r o.check=C at*;generalize tT r r.only=D at*;have hB:=a69 C.1 D.1;generalize z6 C.1 D.1=B at*;obtain⟨c,e⟩:=C;obtain⟨d,f⟩:=D;obtain⟨b,g⟩:=B;have hx1:(e !=0)=true->X=([],4):=fun h=>by rw[aD (by simpa using h)] at hX;exact hX.symm
 have hx2:(e !=0)=false->(f !=0)=true->X=([],4):=fun h h2=>by rw[aC (by simpa using h),aD (by simpa using h2)] at hX;exact hX.symm
 have hx3:(e !=0)=false->(f !=0)=false->(g !=0)=true->X=(b,4):=fun h h2 h3=>by rw[aC (by simpa using h),aC (by simpa using h2),aD (by simpa using h3)] at hX;exact hX.symm
 have hx4:(e !=0)=false->(f !=0)=false->(g !=0)=false->X=(b,0):=fun h h2 h3=>by rw[aC (by simpa using h),aC (by simpa using h2),aC (by simpa using h3)] at hX;exact hX.symm
 clear hX;have hlen:(nK r.items).length=r.items.length:=pK _;refine bQ zC mixed Tryz.func42 rfl (bL rfl) (by first|exact rL _|simp) rfl ?_;conv=>whnf
 refine cT [none,some 0,some 0,none,some 2,none,none,none,some 4,some 4] rfl rfl (by kernel_rfl) ?_;conv=>whnf
 refine cP hR ?_;conv=>whnf
 refine ix (aY hri2) ⟨rfl,?_⟩;conv=>whnf
 refine st ?_;conv=>whnf
 refine st ?_;conv=>whnf
 refine GLoop.rngV 6 r.items.length (fun i l=>l=z8 o (r.items.take i)) (fun i l=>[(3,.ptr 0 0),(4,.ptr 1 0),(5,.ptr 2 0),(6,.ptr 3 0),(8,.ptr 4 0),(9,.ptr 5 0),(10,.i .i64 (i:Nat))]) (fun _ l=>raO s v r o l) [] rfl (fun _ l=>a7M s v r o l) (fun _ l=>a7K s v r o l) (fun _ l=>a7L s v r o l) (fun i l φ0 hi hb=>?_)
 ·have hlt':∀p,r.items[i]?=some p->l++[{oD o.its p.2 with name:=p.1}]=z8 o (r.items.take (i+1)):=fun p hp=>by rw[aT,hp,hb];unfold z8;rw[b5];rfl
  have hll:l.length<=i:=by rw[hb];unfold z8;rw[b6,aS];omega
  have hend:¬i<r.items.length->l=z8 o r.items:=fun h=>by rw[hb,aW (by omega)]
  clear hb;cases l with
  |nil=>
   (conv=>whnf);apply gM<;>intro h<;>conv=>whnf
   rotate_left
   ·exfalso;have h1:=hend (by have:=aA h;omega);refine hg.ne ?_;unfold z8 at h1;exact List.map_eq_nil_iff.1 h1.symm
   have hlt:i<r.items.length:=by have:=aB h;omega
   refine(d7 hlt).elim fun p hp=>?_;refine(OC (hkn p (aE hp))).elim fun j hj=>?_;have hI:=rP o.its hil p.2;rw[hj.1] at hI;have hb':=hlt' p hp;refine cT [none,some 4,none,some 4,none,some 2,none,none,none,none,none,none,none,some 6,some 6] rfl rfl (by kernel_rfl) ?_;(conv=>whnf);refine ix (aY hp) ⟨rfl,?_⟩;(conv=>whnf);refine cP hI ?_;(conv=>whnf);refine ix (aY hj.2) ⟨rfl,?_⟩;(conv=>whnf);refine st ?_;(conv=>whnf);refine ix (aY hp) ⟨rfl,?_⟩;(conv=>whnf);refine st ?_;(conv=>whnf);refine⟨⟨rfl,rfl,bL rfl⟩,fM [{oD o.its p.2 with name:=p.1}],1,⟨rfl,rfl⟩,?_⟩;(conv=>whnf);refine st ?_;(conv=>whnf);exact nx ([]++[{oD o.its p.2 with name:=p.1}]) hlt ⟨hlt,hb'⟩
  |cons x l=>
   (conv=>whnf);apply gM<;>intro h<;>conv=>whnf
   ·have hlt:i<r.items.length:=by have:=aB h;omega
    refine(d7 hlt).elim fun p hp=>?_;refine(OC (hkn p (aE hp))).elim fun j hj=>?_;have hI:=rP o.its hil p.2;rw[hj.1] at hI;have hb':=hlt' p hp;refine cT [none,some 4,none,some 4,none,some 2,none,none,none,none,none,none,none,some 9,some 9] rfl rfl (by kernel_rfl) ?_;(conv=>whnf);refine ix (aY hp) ⟨rfl,?_⟩;(conv=>whnf);refine cP hI ?_;(conv=>whnf);refine ix (aY hj.2) ⟨rfl,?_⟩;(conv=>whnf);refine st ?_;(conv=>whnf);refine ix (aY hp) ⟨rfl,?_⟩;(conv=>whnf);refine st ?_;(conv=>whnf);refine L9 (f:=Itm.gv) (c:=5) (fun _=>rfl) (x::l) {oD o.its p.2 with name:=p.1} rfl (by omega) ?_;(conv=>whnf);refine aN ?_ (h:=(cL Itm.gv (x::l)).symm);(conv=>whnf);refine st ?_;(conv=>whnf);exact nx ((x::l)++[{oD o.its p.2 with name:=p.1}]) hlt ⟨hlt,hb'⟩
   have hits:x::l=z8 o r.items:=hend (by have:=aA h;omega);refine cP hM ?_;(conv=>whnf);apply gM<;>intro h2<;>conv=>whnf
   rotate_left;have h9:¬o.place=2:=by simpa using h2
   have hK0:ksV o r=false:=hK.trans (by rw[bN h9,iL]);refine cP hS ?_;(conv=>whnf);apply gM<;>intro h3<;>conv=>whnf
   rcases hvv with⟨h1,h5,_⟩|⟨vi,p,h1,h5,h6,_⟩;refine gN (bN (by show¬(0<=ji);omega)) ?_;(conv=>whnf);have h4:viV v o=none:=hw.trans (by rw[h5];split<;>rfl);have hE:∀c,qI v o r c=⟨r.name,o.area,x::l,1,[],false,[],c⟩:=fun c=>by unfold qI;rw[hK0,h4,hits];rfl
   rotate_left;subst h1;(conv=>whnf);refine cT [none,some 1,none,none,none,none,none,some 5,none,some 5] rfl rfl (by kernel_rfl) ?_;(conv=>whnf);refine ix (aY h5) ⟨rfl,?_⟩;(conv=>whnf);refine st ?_;(conv=>whnf);refine st ?_;(conv=>whnf);have h7:o.place=3:=by simpa using h3
   have h4:viV v o=some p.1:=hw.trans (by rw[aD h7,h6];rfl);have hE:∀c,qI v o r c=⟨r.name,o.area,x::l,3,[],false,p.1,c⟩:=fun c=>by unfold qI;rw[hK0,h4,hits];rfl
   rotate_left;have h4:viV v o=none:=hw.trans (aC (by simpa using h3));have hE:∀c,qI v o r c=⟨r.name,o.area,x::l,1,[],false,[],c⟩:=fun c=>by unfold qI;rw[hK0,h4,hits];rfl
   rotate_left;have h9:o.place=2:=by simpa using h2
   have h4:viV v o=none:=hw.trans (aC (by omega));refine cP hH ?_;(conv=>whnf);refine(fJ kk).elim (fun hk=>?_) (fun hk=>?_);refine gY (by rw[hk];rfl) ?_;(conv=>whnf);refine cT [none,none,some 4,none,some 5,none,some 5,none,some 5] rfl rfl (by kernel_rfl) ?_;(conv=>whnf);refine st ?_;(conv=>whnf);refine st ?_;(conv=>whnf);refine st ?_;(conv=>whnf);refine cP hS ?_;(conv=>whnf);refine gN (by rw[h9];rfl) ?_;(conv=>whnf);have hE:∀c,qI v o r c=⟨r.name,o.area,x::l,2,o.keys.map fun n=>(cW r n).getD [],o.dups,[],c⟩:=fun c=>by unfold qI;rw[hK,h4,hits,hk,hkm hk];simp[h9]
   rotate_left;refine gN (by rw[hk];rfl) ?_;(conv=>whnf);refine cP hS ?_;(conv=>whnf);refine gN (by rw[h9];rfl) ?_;(conv=>whnf);have hE:∀c,qI v o r c=⟨r.name,o.area,x::l,1,[],false,[],c⟩:=fun c=>by unfold qI;rw[hK,h4,hits,hk];rfl
   all_goals
    refine cP hC ?_;(conv=>whnf);apply gM<;>intro e1<;>conv=>whnf
    refine st ?_;(conv=>whnf);have hZ:=hx1 e1;subst hZ;refine cQ 0 (hw:=?_);show Wk _ (.tup [QK (qI v o r _),_]);rw[hE];exact Wk.tupl (wC (Wks.agg (wC (bF _) (wC (bF _) (wC (bY _ _) (wC (bF _) (wC (bY _ _) (wR _))))))) (wR _));refine cP hO ?_;(conv=>whnf);apply gM<;>intro e2<;>conv=>whnf
    refine st ?_;(conv=>whnf);have hZ:=hx2 e1 e2;subst hZ;refine cQ 0 (hw:=?_);show Wk _ (.tup [QK (qI v o r _),_]);rw[hE];exact Wk.tupl (wC (Wks.agg (wC (bF _) (wC (bF _) (wC (bY _ _) (wC (bF _) (wC (bY _ _) (wR _))))))) (wR _));refine cP hB ?_;(conv=>whnf);refine st ?_;(conv=>whnf);apply gM<;>intro e3<;>conv=>whnf
    refine st ?_;(conv=>whnf);have hZ:=hx3 e1 e2 e3;subst hZ;refine cQ 0 (hw:=?_);show Wk _ (.tup [QK (qI v o r _),_]);rw[hE];exact Wk.tupl (wC (Wks.agg (wC (bF _) (wC (bF _) (wC (bY _ _) (wC (bF _) (wC (bY _ _) (wR _))))))) (wR _));refine st ?_;(conv=>whnf);have hZ:=hx4 e1 e2 e3;subst hZ;refine cQ 0 (hw:=?_);show Wk _ (.tup [QK (qI v o r _),_]);rw[hE];exact Wk.tupl (wC (Wks.agg (wC (bF _) (wC (bF _) (wC (bY _ _) (wC (bF _) (wC (bY _ _) (wR _))))))) (wR _))
def W4 (s:Sch) (v:Vw):Prop:=(∀r∈s.rc,r.check.length<1000000)/\∀r∈v.recs,r.only.length<1000000
set_option synthInstance.maxSize 2000 in
set_option maxHeartbeats 4000000 in
theorem X5 [MaxL] (s:Sch) (hz:kO s) (v:Vw) (hv:wD v) (hf:W4 s v):SC Tryz.prog 9 [lT s,k7 v] [] (.val (.tup [.s (wA s v).1,.i .i64 ((wA s v).2.1:Nat),.i .i64 (wA s v).2.2])) []:=by
 have hV:=QL s hz hf.1;have v1:=hv.1;have v2:=hv.2.1;have v1':=v1;have v2':=v2;unfold b9 at v1' v2';have l1:(fP v.recs).length=v.recs.length:=lJ _;have l2:(nK v.sets).length=v.sets.length:=pK _;generalize hW:wA s v=W;obtain⟨wk,wi,we⟩:=W;unfold wA at hW;by_cases h0:(kY s).2.2=0;rotate_left
 ·rw[aD h0] at hW;cases hW;rw[show((kY s).2.2==0)=false by simpa using h0] at hV;refine cO Tryz.func9 rfl ?_;conv=>whnf
  refine cP hV ?_;conv=>whnf
  exact cQ 0
 rw[aC (fun h=>h h0)] at hW;rw[show((kY s).2.2==0)=true by simpa using h0] at hV;have w1:∀{i:Nat} {e:Int},mM s v=(i,e)->e≠0->wk=iR/\wi=i/\we=e:=fun h h9=>by rw[h,aD h9] at hW;cases hW;exact⟨rfl,rfl,rfl⟩
 have w2:(mM s v).2=0->∀{i:Nat} {e:Int},oT s v=(i,e)->e≠0->wk=nF/\wi=i/\we=e:=fun h1 i e h h9=>by rw[aC (fun h=>h h1),h,aD h9] at hW;cases hW;exact⟨rfl,rfl,rfl⟩
 have w3:(mM s v).2=0->(oT s v).2=0->∀{i:Nat} {e:Int},tN s v=(i,e)->e≠0->wk=iR/\wi=i/\we=e:=fun h1 h2 i e h h9=>by rw[aC (fun h=>h h1),aC (fun h=>h h2),h,aD h9] at hW;cases hW;exact⟨rfl,rfl,rfl⟩
 have w4:(mM s v).2=0->(oT s v).2=0->(tN s v).2=0->wk=[]/\wi=0/\we=0:=fun h1 h2 h3=>by rw[aC (fun h=>h h1),aC (fun h=>h h2),aC (fun h=>h h3)] at hW;cases hW;exact⟨rfl,rfl,rfl⟩
 clear hW;have hX:mM s v=if !t8 v.recs.length 1 10 then(0,4) else(dZ (rG s v) 0 v.recs).getD (0,0):=rfl;have hY:oT s v=if v.sets.length>60 then(0,4) else(dZ (uV s v) 0 v.sets).getD (0,0):=rfl;have hZ:tN s v=(dZ (pY s) 0 v.recs).getD (0,0):=rfl;refine bQ zC mixed Tryz.func9 rfl (bL rfl) (by first|exact rL _|simp) rfl ?_;conv=>whnf
 refine cP hV ?_;conv=>whnf
 refine bZ (fun h=>?_) (fun h=>?_)<;>rw[l1] at h<;>conv=>whnf
 ·obtain⟨rfl,rfl,rfl⟩:=w1 (hX.trans (aD (nb1 h))) (by decide);exact cQ 0
 refine bZ (fun h2=>?_) (fun h2=>?_)<;>rw[l1] at h2<;>conv=>whnf
 ·obtain⟨rfl,rfl,rfl⟩:=w1 (hX.trans (aD (nb2 h2))) (by decide);exact cQ 0
 replace hX:=hX.trans (aC (by rw[nb3 h h2];simp));clear h h2;refine bE 2 v.recs.length (fun i _=>∀j z,j<i->v.recs[j]?=some z->rG s v j z=0) (fun i _=>[(2,.ptr 0 0),(3,.ptr 1 0),(7,.i .i64 (i:Nat))]) (fun _ (_:Unit)=>[.box 26 (jX s),.box 30 (j9 v)]) [] () (fun j z h=>absurd h (bP j)) (fun i _ φ0 hi hok=>?_);conv=>whnf
 apply gM<;>intro h<;>conv=>whnf
 ·have hlt:i<v.recs.length:=by have:=aB h;omega
  refine(d7 hlt).elim fun y hy=>?_;have hym:=aE hy;have hc:=a1g s hz v v1 i y hy (hv.2.2 y hym).1 (hf.2 y hym);have hat:rG s v i y≠0->mM s v=(i,rG s v i y):=fun h9=>hX.trans (by rw[kD hy h9 hok];rfl);have hgo:=iE (f:=rG s v) hy;generalize rG s v i y=e at*;refine cP hc ?_;conv=>whnf
  apply gM<;>intro h5<;>conv=>whnf
  ·have h6:e≠0:=by simpa using h5
   obtain⟨rfl,rfl,rfl⟩:=w1 (hat h6) h6;exact cQ 0
  ·have h6:e=0:=by simpa using h5
   exact nx () hlt ⟨hlt,hgo h6 hok⟩
 have hR0:(mM s v).2=0:=by rw[hX,kC (by have:=aA h;omega) hok];rfl
 have hgv:=I8 hR0;clear hX hok h;refine bZ (fun h=>?_) (fun h=>?_)<;>rw[l2] at h<;>conv=>whnf
 ·obtain⟨rfl,rfl,rfl⟩:=w2 hR0 (hY.trans (aD (by have:=aB h;omega))) (by decide);exact cQ 0
 replace hY:=hY.trans (aC (by have:=aA h;omega));clear h;refine bE 2 v.sets.length (fun i _=>∀j z,j<i->v.sets[j]?=some z->uV s v j z=0) (fun i _=>[(2,.ptr 0 0),(3,.ptr 1 0),(9,.i .i64 (i:Nat))]) (fun _ (_:Unit)=>[.box 26 (jX s),.box 30 (j9 v)]) [] () (fun j z h=>absurd h (bP j)) (fun i _ φ0 hi hok=>?_);conv=>whnf
 apply gM<;>intro h<;>conv=>whnf
 ·have hlt:i<v.sets.length:=by have:=aB h;omega
  refine(d7 hlt).elim fun y hy=>?_;have hc:=a7W s hz h0 v hv hgv i y hy;have hat:uV s v i y≠0->oT s v=(i,uV s v i y):=fun h9=>hY.trans (by rw[kD hy h9 hok];rfl);have hgo:=iE (f:=uV s v) hy;generalize uV s v i y=e at*;refine cP hc ?_;conv=>whnf
  apply gM<;>intro h5<;>conv=>whnf
  ·have h6:e≠0:=by simpa using h5
   obtain⟨rfl,rfl,rfl⟩:=w2 hR0 (hat h6) h6;exact cQ 0
  ·have h6:e=0:=by simpa using h5
   exact nx () hlt ⟨hlt,hgo h6 hok⟩
 have hS0:(oT s v).2=0:=by rw[hY,kC (by have:=aA h;omega) hok];rfl
 clear hY hok h;refine bE 2 v.recs.length (fun i _=>∀j z,j<i->v.recs[j]?=some z->pY s j z=0) (fun i _=>[(2,.ptr 0 0),(3,.ptr 1 0),(11,.i .i64 (i:Nat))]) (fun _ (_:Unit)=>[.box 26 (jX s),.box 30 (j9 v)]) [] () (fun j z h=>absurd h (bP j)) (fun i _ φ0 hi hok=>?_);conv=>whnf
 apply gM<;>intro h<;>conv=>whnf
 ·have hlt:i<v.recs.length:=by have:=aB h;omega
  refine(d7 hlt).elim fun y hy=>?_;have hym:=aE hy;obtain⟨f1,f2,f3⟩:=MS h0 (hgv y hym);have hc:=UD s hz v hv y (hgv y hym) f1 f2 (hf.1 _ f3) (hf.2 y hym);have he:(U8 (bS s y.of) y).2=pY s i y:=a3q _ _;rw[he] at hc;have hat:pY s i y≠0->tN s v=(i,pY s i y):=fun h9=>hZ.trans (by rw[kD hy h9 hok];rfl);have h4:pY s i y≠0->pY s i y=4:=fun h9=>by
   unfold pY at h9⊢;split
   ·rfl
   ·rename_i h8;exact absurd (aC h8) h9
  have hgo:=iE (f:=pY s) hy;generalize pY s i y=e at*;refine cT [some 0,some 1,none,some 1,none,none,none,none,none,none,none,some 2,some 2,none] rfl rfl (by kernel_rfl) ?_;conv=>whnf
  refine ix (aY hy) ⟨rfl,?_⟩;conv=>whnf
  refine cP hc ?_;conv=>whnf
  refine st ?_;conv=>whnf
  apply gM<;>intro h5<;>conv=>whnf
  ·have h6:e≠0:=by simpa using h5
   obtain⟨rfl,rfl,h7⟩:=w3 hR0 hS0 (hat h6) h6;rw[h7,h4 h6];exact cQ 0
  ·have h6:e=0:=by simpa using h5
   exact nx () hlt ⟨hlt,hgo h6 hok⟩
 have hL0:(tN s v).2=0:=by rw[hZ,kC (by have:=aA h;omega) hok];rfl
 obtain⟨rfl,rfl,rfl⟩:=w4 hR0 hS0 hL0;exact cQ 0
theorem O9 [MaxL] (s:Sch) (hz:kO s) (v:Vw) (hv:wD v) (hf:W4 s v):SC Tryz.prog 11 [lT s,k7 v] [] (.val (.b ((wA s v).2.2==0))) []:=by
 have hw:=X5 s hz v hv hf;refine cO Tryz.func11 rfl ?_;conv=>whnf
 refine cP hw ?_;conv=>whnf
 exact cQ 0
theorem a6B [MaxL] (s:Sch) (hz:kO s) (v:Vw) (hv:wD v) (hf:W4 s v) (n:By):SC Tryz.prog 16 [lT s,k7 v,.s n] [] (.val (.tup [.s (wP s v n).1,.b (wP s v n).2.1,.i .i64 (wP s v n).2.2])) []:=by
 have hV:=O9 s hz v hv hf;have hN:=O5 v hv.1 n;have hS:=J5 v hv.2.1 n;have hcase:=CB v n;have hset:=j2 (fun p:By×By=>p.1==n) v.sets;generalize hX:wP s v n=X at*;unfold wP at hX;generalize(wA s v).2.2=e at*;generalize jJ (fun r:VwR=>r.name==n) v.recs=jr at*;generalize jJ (fun p:By×By=>p.1==n) v.sets=ji at*;obtain⟨x1,x2,x3⟩:=X;by_cases h0:e=0;rotate_left
 ·rw[aC h0] at hX;rw[show(e==0)=false by simpa using h0] at hV;cases hX;refine cO Tryz.func16 rfl ?_;conv=>whnf
  refine cP hV ?_;conv=>whnf
  exact cQ 0
 subst h0;rw[aD rfl] at hX;refine cO Tryz.func16 rfl ?_;conv=>whnf
 refine cP hV ?_;conv=>whnf
 refine cP hN ?_;conv=>whnf
 rcases hcase with⟨i,rfl,h2,_,h4⟩|⟨h1,_,_,h4⟩
 ·rw[h4] at hX;cases hX;refine ix (aY h2) ⟨rfl,?_⟩;conv=>whnf
  exact cQ 0
 rw[h4] at hX;refine gN (bN (by show¬(0<=jr);omega)) ?_;conv=>whnf
 refine cP hS ?_;conv=>whnf
 rcases hset with⟨h1,h2,_⟩|⟨i,y,rfl,hy,h2,_⟩
 ·rw[h2] at hX;cases hX;refine gN (bN (by show¬(0<=ji);omega)) ?_;conv=>whnf
  exact cQ 0
 ·rw[h2] at hX;cases hX;refine ix (aY hy) ⟨rfl,?_⟩;conv=>whnf
  exact cQ 0
set_option synthInstance.maxSize 4000 in
theorem a1j [MaxL] (s:Sch) (hz:kO s) (v:Vw) (hv:wD v) (hf:W4 s v):SC Tryz.prog 18 [lT s,k7 v] [] (.val (.tup [.sl .none (bR (if(wA s v).2.2=0 then(DJ s v).1 else[])),.sl .none (bR (if(wA s v).2.2=0 then(DJ s v).2 else[])),.i .i64 (if(wA s v).2.2=0 then 0 else 1)])) []:=by
 have hV:=O9 s hz v hv hf;by_cases h0:(wA s v).2.2=0;rotate_left
 ·rw[aC h0,aC h0,aC h0];rw[show((wA s v).2.2==0)=false by simpa using h0] at hV;refine cO Tryz.func18 rfl ?_;conv=>whnf
  refine cP hV ?_;conv=>whnf
  exact cQ 0 (hw:=Wk.tupl (wC (bY _ _) (wC (bY _ _) (wR _))))
 rw[aD h0,aD h0,aD h0];obtain⟨c1,c2⟩:=HD (a0X h0);rw[show((wA s v).2.2==0)=true by simpa using h0] at hV;clear h0;have hA:(DJ s v).1=(s.rc.filter fun r=>!(kJ v r.name).isSome).map (·.name):=rfl;have hB:(DJ s v).2=(s.st.filter fun t=>!v.sets.any fun p=>p.2==t.name).map (·.name):=rfl;have l1:(pU s.rc).length=s.rc.length:=cL _ _;have l2:(tQ s.st).length=s.st.length:=cL _ _;generalize DJ s v=H at*;obtain⟨A,B⟩:=H;replace hA:A=_:=hA;replace hB:B=_:=hB;refine bQ zC mixed Tryz.func18 rfl (bL rfl) (by first|exact rL _|simp) rfl ?_;conv=>whnf
 refine cP hV ?_;conv=>whnf
 refine bE 4 s.rc.length (fun i (o:List By)=>o=((s.rc.take i).filter fun r=>!(kJ v r.name).isSome).map (·.name)) (fun i o=>[(2,.ptr 0 0),(3,.ptr 1 0),(4,.sl (.own 2) (bR o)),(5,.sl (.own 3) []),(7,.i .i64 (i:Nat))]) (fun _ o=>[.box 26 (jX s),.box 30 (j9 v),ow 9 1 o.length,.own 0 0 0]) [] [] rfl (fun i o φ0 hi ho=>?_) (hh:=fun _ _=>by simp only[e8,l5];rfl);conv=>whnf
 apply gM<;>intro h<;>conv=>whnf
 ·have hlt:i<s.rc.length:=by have:=aB h;omega
  refine(d7 hlt).elim fun r hr=>?_;have hS:=qN v hv.1 r.name;have hcase:=qH v r.name;generalize jJ (fun x:VwR=>x.of==r.name) v.recs=ji at*;have hol:o.length<=10:=by rw[ho,b6];exact dG (eW _ _) (by rw[aS];omega)
  refine lQ ?_;conv=>whnf
  refine ix (aY hr) ⟨rfl,?_⟩;conv=>whnf
  refine cP hS ?_;conv=>whnf
  rcases hcase with⟨a,rfl,_,h5,_⟩|⟨h1,_,h5,_⟩
  ·(conv=>whnf);exact nx o hlt ⟨hlt,HZ hr ho (by rw[h5];rfl)⟩
  refine gY (bC h1) ?_;conv=>whnf
  refine ix (aY hr) ⟨rfl,?_⟩;conv=>whnf
  have hn:=DO (f:=fun r:Rc=>r.name) hr ho (by rw[h5];rfl);cases o with
  |nil=>
   refine L9 (f:=GV.s) (c:=1) (fun _=>rfl) [] r.name rfl (by omega) ?_;(conv=>whnf);refine aN ?_;(conv=>whnf);exact nx ([]++[r.name]) hlt ⟨hlt,hn⟩
  |cons z zs=>
   refine L9 (f:=GV.s) (c:=1) (fun _=>rfl) (z::zs) r.name rfl (by omega) ?_;(conv=>whnf);refine aN ?_ (h:=(cD (z::zs)).symm);(conv=>whnf);exact nx ((z::zs)++[r.name]) hlt ⟨hlt,hn⟩
 have hoA:o=A:=by rw[ho,hA,aW (by have:=aA h;omega)]
 clear ho hA;subst hoA;refine bE 4 s.st.length (fun i (q:List By)=>q=((s.st.take i).filter fun t=>!v.sets.any fun p=>p.2==t.name).map (·.name)) (fun i q=>[(2,.ptr 0 0),(3,.ptr 1 0),(4,.sl (.own 2) (bR o)),(5,.sl (.own 3) (bR q)),(8,.i .i64 (i:Nat))]) (fun _ q=>[.box 26 (jX s),.box 30 (j9 v),ow 9 1 o.length,ow 9 1 q.length]) [] [] rfl (fun i q φ1 hi ho=>?_) (hh:=fun _ _=>by simp only[e8,l5];rfl);conv=>whnf
 apply gM<;>intro h<;>conv=>whnf
 ·have hlt:i<s.st.length:=by have:=aB h;omega
  refine(d7 hlt).elim fun t ht=>?_;have hS:=O2 v hv.2.1 t.name;have hcase:=j2 (fun x:By×By=>x.2==t.name) v.sets;generalize jJ (fun x:By×By=>x.2==t.name) v.sets=ji at*;have hol:q.length<=60:=by rw[ho,b6];exact dG (eW _ _) (by rw[aS];omega)
  refine lQ ?_;conv=>whnf
  refine ix (aY ht) ⟨rfl,?_⟩;conv=>whnf
  refine cP hS ?_;conv=>whnf
  rcases hcase with⟨h1,_,h5⟩|⟨a,y,rfl,_,_,h5⟩;rotate_left
  ·(conv=>whnf);exact nx q hlt ⟨hlt,HZ ht ho (by rw[h5];rfl)⟩
  refine gY (bC h1) ?_;conv=>whnf
  refine ix (aY ht) ⟨rfl,?_⟩;conv=>whnf
  have hn:=DO (f:=fun t:Sy=>t.name) ht ho (by rw[h5];rfl);cases q with
  |nil=>
   refine L9 (f:=GV.s) (c:=1) (fun _=>rfl) [] t.name rfl (by omega) ?_;(conv=>whnf);refine aN ?_;(conv=>whnf);exact nx ([]++[t.name]) hlt ⟨hlt,hn⟩
  |cons z zs=>
   refine L9 (f:=GV.s) (c:=1) (fun _=>rfl) (z::zs) t.name rfl (by omega) ?_;(conv=>whnf);refine aN ?_ (h:=(cD (z::zs)).symm);(conv=>whnf);exact nx ((z::zs)++[t.name]) hlt ⟨hlt,hn⟩
 have hoB:q=B:=by rw[ho,hB,aW (by have:=aA h;omega)]
 subst hoB;exact cQ 0 (hw:=Wk.tupl (wC (bY _ _) (wC (bY _ _) (wR _))))
def qaO (s:Sch):List VwR->List GObj
 |[]=>[.box 26 (jX s),.box 30 [.sl .full [],.sl .full []],.box 30 [.sl .full [],.sl .full []]]
 |x::l=>[.box 26 (jX s),.box 30 [.sl .full [],.sl .full []],.box 30 [.sl (.own 7) (fP (x::l)),.sl .full []],.dead,.dead,.dead,.dead,.own (l.length+1) 4 74]
def a67 (s:Sch) (r:Rc):List (By×By)->List GObj
 |[]=>[.box 26 (jX s),.box 30 [.sl .full [],.sl .full []],.box 30 [.sl .full [],.sl .full []],.box 74 [.s r.name,.s r.name,.sl .full [],.s []]]
 |p::q=>[.box 26 (jX s),.box 30 [.sl .full [],.sl .full []],.box 30 [.sl .full [],.sl .full []],.box 74 [.s r.name,.s r.name,.sl (.own 5) (nK (p::q)),.s []],.dead,.own (q.length+1) 2 76]
def a65 (s:Sch) (x:VwR) (l:List VwR) (r:Rc):List (By×By)->List GObj
 |[]=>[.box 26 (jX s),.box 30 [.sl .full [],.sl .full []],.box 30 [.sl (.own 7) (fP (x::l)),.sl .full []],.dead,.dead,.dead,.dead,.own (l.length+1) 4 74,.box 74 [.s r.name,.s r.name,.sl .full [],.s []]]
 |p::q=>[.box 26 (jX s),.box 30 [.sl .full [],.sl .full []],.box 30 [.sl (.own 7) (fP (x::l)),.sl .full []],.dead,.dead,.dead,.dead,.own (l.length+1) 4 74,.box 74 [.s r.name,.s r.name,.sl (.own 10) (nK (p::q)),.s []],.dead,.own (q.length+1) 2 76]
def qaS (s:Sch) (x:VwR) (l:List VwR):List (By×By)->List GObj
 |[]=>qaO s (x::l)
 |p::q=>[.box 26 (jX s),.box 30 [.sl .full [],.sl .full []],.box 30 [.sl (.own 7) (fP (x::l)),.sl (.own 9) (nK (p::q))],.dead,.dead,.dead,.dead,.own (l.length+1) 4 74,.dead,.own (q.length+1) 2 77]
set_option synthInstance.maxSize 4000 in
theorem a54 [MaxL] (s:Sch) (o:List VwR):FH (qaO s o).length (qaO s o):=by
 cases o with
 |nil=>show FH 3 [_,_,_];infer_instance
 |cons z o=>show FH 8 [_,_,_,_,_,_,_,_];infer_instance
set_option synthInstance.maxSize 4000 in
theorem a66 [MaxL] (s:Sch) (r:Rc) (o:List (By×By)):FH (a67 s r o).length (a67 s r o):=by
 cases o with
 |nil=>show FH 4 [_,_,_,_];infer_instance
 |cons z o=>show FH 6 [_,_,_,_,_,_];infer_instance
set_option synthInstance.maxSize 4000 in
theorem a64 [MaxL] (s:Sch) (x:VwR) (l:List VwR) (r:Rc) (o:List (By×By)):FH (a65 s x l r o).length (a65 s x l r o):=by
 cases o with
 |nil=>show FH 9 [_,_,_,_,_,_,_,_,_];infer_instance
 |cons z o=>show FH 11 [_,_,_,_,_,_,_,_,_,_,_];infer_instance
set_option synthInstance.maxSize 4000 in
theorem a7V [MaxL] (s:Sch) (x:VwR) (l:List VwR) (o:List (By×By)):FH (qaS s x l o).length (qaS s x l o):=by
 cases o with
 |nil=>exact a54 s (x::l)
 |cons z o=>show FH 10 [_,_,_,_,_,_,_,_,_,_];infer_instance
set_option synthInstance.maxSize 4000 in
set_option maxHeartbeats 4000000 in
theorem a7X [MaxL] (s:Sch) (hz:kO s) (hc:∀r∈s.rc,r.check.length<1000000):SC Tryz.prog 13 [lT s] [] (.val (.tup [if(kY s).2.2=0 then k7 (a0I s) else k7 ⟨[],[]⟩,.i .i64 (if(kY s).2.2=0 then 0 else 1)])) []:=by
 have hV:=QL s hz hc;by_cases h0:(kY s).2.2=0;rotate_left
 ·rw[aC h0,aC h0];rw[show((kY s).2.2==0)=false by simpa using h0] at hV;refine cO Tryz.func13 rfl ?_;conv=>whnf
  refine cP hV ?_;conv=>whnf
  refine st ?_;conv=>whnf
  refine cQ 0 (hw:=?_);exact Wk.tupl (wC (Wks.agg (wC (bY _ _) (wC (bY _ _) (wR _)))) (wR _))
 rw[aD h0,aD h0];obtain⟨c1,c2⟩:=HD h0;have c3:1<=s.rc.length:=by have:=(xV (s:=s) h0).2.2.1;unfold t8 at this;simp at this;omega
 have hits:∀r∈s.rc,r.its≠[]/\r.its.length<=8:=fun r hr=>by
  obtain⟨i,hi⟩:=wF h0 hr;refine⟨fun e=>?_,(wE hi).2.1⟩;unfold wO J2 at hi;unfold gJ at hi;obtain⟨-,hi⟩:=bM hi (by decide);obtain⟨-,hi⟩:=bM hi (by decide);obtain⟨-,hi⟩:=bM hi (by decide);obtain⟨hk, -⟩:=bM hi (by decide);have hk2:kR r.its=true:=by simpa using(Bool.or_eq_false_iff.1 hk).1
  rw[e] at hk2;cases hk2
 rw[show((kY s).2.2==0)=true by simpa using h0] at hV;have l1:(pU s.rc).length=s.rc.length:=cL _ _;have l2:(tQ s.st).length=s.st.length:=cL _ _;clear h0;refine cO Tryz.func13 rfl ?_;conv=>whnf
 refine cP hV ?_;conv=>whnf
 refine st ?_;conv=>whnf
 refine GLoop.rngW 3 s.rc.length (fun i l=>l=(s.rc.take i).map yS) (fun i l=>[(1,.ptr 0 0),(2,.ptr 1 0),(4,.ptr 2 0),(5,.i .i64 (i:Nat))]) (fun _ l=>qaO s l) [] rfl (fun _ l=>a54 s l) (fun _ l=>by cases l<;>exact bL rfl) (fun _ l=>by cases l<;>rfl) (fun i l φ0 hi hb=>?_);have hend:¬i<s.rc.length->l=s.rc.map yS:=fun h=>by rw[hb,aW (by omega)]
 have hstep:∀r,s.rc[i]?=some r->l++[yS r]=(s.rc.take (i+1)).map yS:=fun r hr=>by rw[aT,hr,b5,<-hb];rfl
 have hll:l.length<=10:=by rw[hb,b6,aS];omega
 clear hb;cases l with
 |nil=>
  conv=>whnf
  apply gM<;>intro h<;>conv=>whnf
  rotate_left
  ·exfalso;have h1:=hend (by have:=aA h;omega);have h2:=aR List.length h1;rw[b6] at h2;simp at h2;omega
  have hlt:i<s.rc.length:=by have:=aB h;omega
  refine(d7 hlt).elim fun r hr=>?_;have hrn:=hits r (aE hr);have l3:(fM r.its).length=r.its.length:=cL _ _;refine cT [none,some 0,none,none,none,none,none,some 0,none,none,none,none,none,some 3,some 3] rfl rfl (by kernel_rfl) ?_;conv=>whnf
  refine ix (aY hr) ⟨rfl,?_⟩;conv=>whnf
  refine ix (aY hr) ⟨rfl,?_⟩;conv=>whnf
  refine st ?_;conv=>whnf
  refine GLoop.rngW 4 r.its.length (fun k q=>q=(r.its.take k).map fun x=>(x.name,x.name)) (fun k q=>[(1,.ptr 0 0),(2,.ptr 1 0),(4,.ptr 2 0),(5,.i .i64 (i:Nat)),(6,.ptr 3 0),(7,.i .i64 (k:Nat))]) (fun _ q=>a67 s r q) [] rfl (fun _ q=>a66 s r q) (fun _ q=>by cases q<;>exact bL rfl) (fun _ q=>by cases q<;>rfl) (fun k q φ1 hk hq=>?_);have hqe:¬k<r.its.length->q=r.its.map fun x=>(x.name,x.name):=fun h=>by rw[hq,aW (by omega)]
  have hqs:∀y,r.its[k]?=some y->q++[(y.name,y.name)]=(r.its.take (k+1)).map fun x=>(x.name,x.name):=fun y hy=>by rw[aT,hy,b5,<-hq];rfl
  have hql:q.length<=8:=by rw[hq,b6,aS];omega
  clear hq;cases q with
  |nil=>
   (conv=>whnf);refine ix (aY hr) ⟨rfl,?_⟩;(conv=>whnf);apply gM<;>intro h5<;>conv=>whnf
   rotate_left
   ·exfalso;have h1:=hqe (by have:=aA h5;omega);exact hrn.1 (List.map_eq_nil_iff.1 h1.symm)
   have hlt2:k<r.its.length:=by have:=aB h5;omega
   refine(d7 hlt2).elim fun y hy=>?_;refine ix (aY hr) ⟨rfl,?_⟩;(conv=>whnf);refine ix (aY hy) ⟨rfl,?_⟩;(conv=>whnf);refine⟨⟨rfl,rfl,bL rfl⟩,nK [(y.name,y.name)],1,⟨rfl,rfl⟩,?_⟩;(conv=>whnf);refine st ?_;(conv=>whnf);exact TF ([]++[(y.name,y.name)]) [] hlt2 ⟨hlt2,hqs y hy⟩ ⟨.refl _,.refl _,.refl _,.refl _,.dead2,.refl _,trivial⟩
  |cons p q=>
   (conv=>whnf);refine ix (aY hr) ⟨rfl,?_⟩;(conv=>whnf);apply gM<;>intro h5<;>conv=>whnf
   ·have hlt2:k<r.its.length:=by have:=aB h5;omega
    refine(d7 hlt2).elim fun y hy=>?_;refine ix (aY hr) ⟨rfl,?_⟩;(conv=>whnf);refine ix (aY hy) ⟨rfl,?_⟩;(conv=>whnf);refine L9 (f:=mU) (c:=2) (fun _=>rfl) (p::q) (y.name,y.name) rfl (by omega) ?_;(conv=>whnf);refine aN ?_ (h:=(cL mU (p::q)).symm);(conv=>whnf);refine st ?_;(conv=>whnf);exact TF ((p::q)++[(y.name,y.name)]) [.dead] hlt2 ⟨hlt2,hqs y hy⟩ ⟨.refl _,.refl _,.refl _,.refl _,.refl _,.refl _,.dead2,trivial⟩
   have hs:=hstep r hr;rw[show yS r=⟨r.name,r.name,p::q,[]⟩ by unfold yS;rw[<-hqe (by have:=aA h5;omega)]] at hs;refine⟨⟨rfl,rfl,bL rfl⟩,_,1,⟨rfl,rfl⟩,?_⟩;(conv=>whnf);refine st ?_;(conv=>whnf);exact TF ([]++[(⟨r.name,r.name,p::q,[]⟩:VwR)]) [] hlt ⟨hlt,hs⟩ ⟨.refl _,.refl _,.boxW (wC (Wk.recs (l:=[]) (wC (bF _) (wC (bF _) (wC (bY _ _) (wR _))))) (wR _)),.dead1,.refl _,.dead2,.dead2,.refl _,trivial⟩
 |cons x l=>
  conv=>whnf
  apply gM<;>intro h<;>conv=>whnf
  ·have hlt:i<s.rc.length:=by have:=aB h;omega
   refine(d7 hlt).elim fun r hr=>?_;have hrn:=hits r (aE hr);have l3:(fM r.its).length=r.its.length:=cL _ _;refine cT [none,some 0,none,none,none,none,none,some 0,none,none,none,none,none,some 8,some 8] rfl rfl (by kernel_rfl) ?_;(conv=>whnf);refine ix (aY hr) ⟨rfl,?_⟩;(conv=>whnf);refine ix (aY hr) ⟨rfl,?_⟩;(conv=>whnf);refine st ?_;(conv=>whnf);refine GLoop.rngW 9 r.its.length (fun k q=>q=(r.its.take k).map fun x=>(x.name,x.name)) (fun k q=>[(1,.ptr 0 0),(2,.ptr 1 0),(4,.ptr 2 0),(5,.i .i64 (i:Nat)),(6,.ptr 8 0),(7,.i .i64 (k:Nat))]) (fun _ q=>a65 s x l r q) [] rfl (fun _ q=>a64 s x l r q) (fun _ q=>by cases q<;>exact bL rfl) (fun _ q=>by cases q<;>rfl) (fun k q φ1 hk hq=>?_);have hqe:¬k<r.its.length->q=r.its.map fun x=>(x.name,x.name):=fun h=>by rw[hq,aW (by omega)]
   have hqs:∀y,r.its[k]?=some y->q++[(y.name,y.name)]=(r.its.take (k+1)).map fun x=>(x.name,x.name):=fun y hy=>by rw[aT,hy,b5,<-hq];rfl
   have hql:q.length<=8:=by rw[hq,b6,aS];omega
   clear hq;cases q with
   |nil=>
    (conv=>whnf);refine ix (aY hr) ⟨rfl,?_⟩;(conv=>whnf);apply gM<;>intro h5<;>conv=>whnf
    rotate_left
    ·exfalso;have h1:=hqe (by have:=aA h5;omega);exact hrn.1 (List.map_eq_nil_iff.1 h1.symm)
    have hlt2:k<r.its.length:=by have:=aB h5;omega
    refine(d7 hlt2).elim fun y hy=>?_;refine ix (aY hr) ⟨rfl,?_⟩;(conv=>whnf);refine ix (aY hy) ⟨rfl,?_⟩;(conv=>whnf);refine⟨⟨rfl,rfl,bL rfl⟩,nK [(y.name,y.name)],1,⟨rfl,rfl⟩,?_⟩;(conv=>whnf);refine st ?_;(conv=>whnf);exact TF ([]++[(y.name,y.name)]) [] hlt2 ⟨hlt2,hqs y hy⟩ ⟨.refl _,.refl _,.refl _,.refl _,.refl _,.refl _,.refl _,.refl _,.refl _,.dead2,.refl _,trivial⟩
   |cons p q=>
    (conv=>whnf);refine ix (aY hr) ⟨rfl,?_⟩;(conv=>whnf);apply gM<;>intro h5<;>conv=>whnf
    ·have hlt2:k<r.its.length:=by have:=aB h5;omega
     refine(d7 hlt2).elim fun y hy=>?_;refine ix (aY hr) ⟨rfl,?_⟩;(conv=>whnf);refine ix (aY hy) ⟨rfl,?_⟩;(conv=>whnf);refine L9 (f:=mU) (c:=2) (fun _=>rfl) (p::q) (y.name,y.name) rfl (by omega) ?_;(conv=>whnf);refine aN ?_ (h:=(cL mU (p::q)).symm);(conv=>whnf);refine st ?_;(conv=>whnf);exact TF ((p::q)++[(y.name,y.name)]) [.dead] hlt2 ⟨hlt2,hqs y hy⟩ ⟨.refl _,.refl _,.refl _,.refl _,.refl _,.refl _,.refl _,.refl _,.refl _,.refl _,.refl _,.dead2,trivial⟩
    have hs:=hstep r hr;rw[show yS r=⟨r.name,r.name,p::q,[]⟩ by unfold yS;rw[<-hqe (by have:=aA h5;omega)]] at hs;refine⟨⟨rfl,by rw[aQ];intro z hz;obtain⟨b,_,rfl⟩:=List.mem_map.1 hz;rfl,by show(fP (x::l)).length+1<=4294967296;rw[lJ];omega⟩,_,((x::l)++[(⟨r.name,r.name,p::q,[]⟩:VwR)]).length,⟨rfl,by show _=(fP (x::l)).length+1;rw[lJ,aG];rfl⟩,?_⟩;(conv=>whnf);refine aN ?_ (h:=(lJ (x::l)).symm);(conv=>whnf);refine st ?_;(conv=>whnf);exact TF ((x::l)++[(⟨r.name,r.name,p::q,[]⟩:VwR)]) [.dead,.dead,.dead,.dead] hlt ⟨hlt,hs⟩ ⟨.refl _,.refl _,.boxW (wC (Wk.recs (l:=x::l) (wC (bF _) (wC (bF _) (wC (bY _ _) (wR _))))) (wR _)),.refl _,.refl _,.refl _,.refl _,.refl _,.dead1,.refl _,.dead2,.dead2,trivial⟩
  have hrs:=hend (by have:=aA h;omega);refine GLoop.rngW 8 s.st.length (fun k q=>q=(s.st.take k).map fun t=>(t.name,t.name)) (fun k q=>[(1,.ptr 0 0),(2,.ptr 1 0),(4,.ptr 2 0),(9,.i .i64 (k:Nat))]) (fun _ q=>qaS s x l q) [] rfl (fun _ q=>a7V s x l q) (fun _ q=>by cases q<;>exact bL rfl) (fun _ q=>by cases q<;>rfl) (fun k q φ1 hk hq=>?_);have hqe:¬k<s.st.length->q=s.st.map fun t=>(t.name,t.name):=fun h=>by rw[hq,aW (by omega)]
  have hqs:∀y,s.st[k]?=some y->q++[(y.name,y.name)]=(s.st.take (k+1)).map fun t=>(t.name,t.name):=fun y hy=>by rw[aT,hy,b5,<-hq];rfl
  have hql:q.length<=60:=by rw[hq,b6,aS];omega
  clear hq;have hall:¬k<s.st.length->a0I s=⟨x::l,q⟩:=fun h=>by unfold a0I;rw[hrs,hqe h]
  cases q with
  |nil=>
   (conv=>whnf);apply gM<;>intro h5<;>conv=>whnf
   ·have hlt2:k<s.st.length:=by have:=aB h5;omega
    refine(d7 hlt2).elim fun y hy=>?_;refine cT [none,some 2,none,some 0,none,none,none,none,none,some 0,none,none,none,none,none,some 8,none,none,some 2] rfl rfl (by kernel_rfl) ?_;(conv=>whnf);refine ix (aY hy) ⟨rfl,?_⟩;(conv=>whnf);refine ix (aY hy) ⟨rfl,?_⟩;(conv=>whnf);refine⟨⟨rfl,rfl,bL rfl⟩,nK [(y.name,y.name)],1,⟨rfl,rfl⟩,?_⟩;(conv=>whnf);refine st ?_;(conv=>whnf);exact TF ([]++[(y.name,y.name)]) [] hlt2 ⟨hlt2,hqs y hy⟩ ⟨.refl _,.refl _,.refl _,.refl _,.refl _,.refl _,.refl _,.refl _,.dead2,.refl _,trivial⟩
   ·rw[hall (by have:=aA h5;omega)];refine st ?_;(conv=>whnf);refine cQ 0 (hw:=?_);exact Wk.tupl (wC (Wks.agg (wC (bY _ _) (wC (bY _ _) (wR _)))) (wR _))
  |cons p q=>
   (conv=>whnf);apply gM<;>intro h5<;>conv=>whnf
   ·have hlt2:k<s.st.length:=by have:=aB h5;omega
    refine(d7 hlt2).elim fun y hy=>?_;refine cT [none,some 2,none,some 0,none,none,none,none,none,some 0,none,none,none,none,none,some 10,none,none,some 2] rfl rfl (by kernel_rfl) ?_;(conv=>whnf);refine ix (aY hy) ⟨rfl,?_⟩;(conv=>whnf);refine ix (aY hy) ⟨rfl,?_⟩;(conv=>whnf);refine L9 (f:=mU) (c:=2) (fun _=>rfl) (p::q) (y.name,y.name) rfl (by omega) ?_;(conv=>whnf);refine aN ?_ (h:=(cL mU (p::q)).symm);(conv=>whnf);refine st ?_;(conv=>whnf);exact TF ((p::q)++[(y.name,y.name)]) [.dead] hlt2 ⟨hlt2,hqs y hy⟩ ⟨.refl _,.refl _,.refl _,.refl _,.refl _,.refl _,.refl _,.refl _,.refl _,.refl _,.dead2,trivial⟩
   ·rw[hall (by have:=aA h5;omega)];refine st ?_;(conv=>whnf);refine cQ 0 (hw:=?_);exact Wk.tupl (wC (Wks.agg (wC (bY _ _) (wC (bY _ _) (wR _)))) (wR _))
set_option synthInstance.maxSize 2000 in
set_option maxHeartbeats 4000000 in
theorem a6A [MaxL] (v:Vw) (hv:wD v):SC Tryz.prog 14 [k7 v,k7 v] [] (.val (.b true)) []:=by
 obtain⟨v1,v2,v3⟩:=hv;unfold b9 at v1 v2;have l1:(fP v.recs).length=v.recs.length:=lJ _;have l2:(nK v.sets).length=v.sets.length:=pK _;refine cO Tryz.func14 rfl ?_;conv=>whnf
 refine gN (show(((fP v.recs).length:Int) !=(fP v.recs).length)=false by simp) ?_;conv=>whnf
 refine gN (show(((nK v.sets).length:Int) !=(nK v.sets).length)=false by simp) ?_;conv=>whnf
 refine bE 2 v.recs.length (fun i _=>True) (fun i _=>[(2,.ptr 0 0),(3,.ptr 1 0),(5,.i .i64 (i:Nat))]) (fun _ (_:Unit)=>[.box 30 (j9 v),.box 30 (j9 v)]) [] () trivial (fun i _ φ0 hi _=>?_);conv=>whnf
 apply gM<;>intro h<;>conv=>whnf
 ·have hlt:i<v.recs.length:=by have:=aB h;omega
  refine(d7 hlt).elim fun y hy=>?_;have y1:=(v3 y (aE hy)).1;unfold b9 at y1;have l3:(nK y.items).length=y.items.length:=pK _;refine cT [none,some 0,none,none,none,none,some 1,none,none,none,some 2,some 3,some 2,some 3] rfl rfl (by kernel_rfl) ?_;conv=>whnf
  refine ix (aY hy) ⟨rfl,?_⟩;conv=>whnf
  refine ix (aY hy) ⟨rfl,?_⟩;conv=>whnf
  refine st ?_;conv=>whnf
  refine st ?_;conv=>whnf
  refine gN (show(y.name !=y.name)=false by simp) ?_;conv=>whnf
  refine gN (show(y.of !=y.of)=false by simp) ?_;conv=>whnf
  refine gN (show(y.only !=y.only)=false by simp) ?_;conv=>whnf
  refine gN (show(((nK y.items).length:Int) !=(nK y.items).length)=false by simp) ?_;conv=>whnf
  refine bE 4 y.items.length (fun k _=>True) (fun k _=>[(2,.ptr 0 0),(3,.ptr 1 0),(5,.i .i64 (i:Nat)),(6,.ptr 2 0),(7,.ptr 3 0),(8,.i .i64 (k:Nat))]) (fun _ (_:Unit)=>[.box 30 (j9 v),.box 30 (j9 v),.box 74 (rM y),.box 74 (rM y)]) [] () trivial (fun k _ φ1 hk _=>?_);conv=>whnf
  apply gM<;>intro h5<;>conv=>whnf
  ·have hlt2:k<y.items.length:=by have:=aB h5;omega
   refine(d7 hlt2).elim fun p hp=>?_;refine lQ ?_;(conv=>whnf);refine ix (aY hp) ⟨rfl,?_⟩;(conv=>whnf);refine ix (aY hp) ⟨rfl,?_⟩;(conv=>whnf);refine⟨by kernel_rfl,?_⟩;(conv=>whnf);apply gM<;>intro h6<;>conv=>whnf
   ·exfalso;simp at h6
   ·exact nx () hlt2 ⟨hlt2,trivial⟩
  ·exact nx () hlt ⟨hlt,trivial⟩
 refine bE 2 v.sets.length (fun k _=>True) (fun k _=>[(2,.ptr 0 0),(3,.ptr 1 0),(9,.i .i64 (k:Nat))]) (fun _ (_:Unit)=>[.box 30 (j9 v),.box 30 (j9 v)]) [] () trivial (fun k _ φ1 hk _=>?_);conv=>whnf
 apply gM<;>intro h5<;>conv=>whnf
 ·have hlt2:k<v.sets.length:=by have:=aB h5;omega
  refine(d7 hlt2).elim fun p hp=>?_;refine lQ ?_;conv=>whnf
  refine ix (aY hp) ⟨rfl,?_⟩;conv=>whnf
  refine ix (aY hp) ⟨rfl,?_⟩;conv=>whnf
  refine⟨by kernel_rfl,?_⟩;conv=>whnf
  apply gM<;>intro h6<;>conv=>whnf
  ·exfalso;simp at h6
  ·exact nx () hlt2 ⟨hlt2,trivial⟩
 ·exact cQ 0
