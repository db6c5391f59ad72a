/-
  A part of the proof of SchemaLess.
-/
import Derived.Test.YtcfgfkkhpdlhpaaGreatDoorQ44
import Derived.Test.YtcfgfkkhpdlhpaaGreatDoorQ45
import Derived.Test.YtcfgfkkhpdlhpaaGreatDoorQ43
set_option linter.all false
namespace Go.Proofs.YtcfgfkkhpdlhpaaGreatDoor
open Go.RowKit
set_option maxRecDepth 100000
set_option linter.unusedVariables false
def setF (s:Sch) (i:Nat) (t:Sy):Int:=setE s (areaN s++(recN s++(setN s).take i)) t
def setsX (s:Sch):Nat×Int:=if s.st.length>60 then(0,4) else(firstX (setF s) 0 s.st).getD (0,0)
theorem mbs_ok [MaxL] (l:List Mb):(mbsG l).all (fun x=>x.cells.length==4)=true:=by
 rw[List.all_eq_true];intro x hx
 obtain⟨b,_,rfl⟩:=List.mem_map.1 hx
 rfl
set_option maxHeartbeats 8000000 in
theorem s_sets [MaxL] (s:Sch) (hz:schOk s) (hg:∀r∈s.rc,Good knownI r):SC Tryz.prog 53 [.ptr 0 0] (chkH s (areaN s++recN s)) (outR setW3 (setsX s).1 (setsX s).2) (outH (setsX s).2 (chkH s (areaN s++(recN s++setN s)))):=by
 have hz':=hz
 obtain⟨⟨ha,hl,ht⟩,hr,hst⟩:=hz
 unfold most at ht
 have hlen:(sysG s.st).length=s.st.length:=mapG_len _ _
 generalize hX:setsX s=X
 obtain⟨xi,xe⟩:=X
 unfold setsX at hX
 have hh:(outH xe (chkH s (areaN s++(recN s++setN s)))).all GObj.notHeld=true:=by unfold outH;split<;>rfl
 have hs:(chkH s (areaN s++recN s)).length<=(outH xe (chkH s (areaN s++(recN s++setN s)))).length:=by unfold outH;split<;>exact rL _
 refine SC.of_gwpD 2 noM mixed Tryz.func53 rfl (bL rfl) hs hh ?_
 conv=>whnf
 refine GIf.mk (fun h=>?_) (fun h=>?_)<;>conv=>whnf
 ·have h9:s.st.length>60:=by have:=of_decide_eq_true h;rw[hlen] at this;omega
  rw[if_pos h9] at hX
  refine cS [] (s_fail setW3 0 4) ?_
  conv=>whnf
  exact endX hX (by decide)
 have h9:¬s.st.length>60:=by have:=of_decide_eq_false h;rw[hlen] at this;omega
 rw[if_neg h9] at hX
 refine GLoop.rng 2 s.st.length (fun i _=>∀j z,j<i->s.st[j]?=some z->setF s j z=0) (fun i _=>[(0,.ptr 0 0),(19,.sl .none (sysG s.st)),(20,.i .i64 (sysG s.st).length),(21,.i .i64 (i:Nat))]) (fun i (_:Unit)=>chkH s (areaN s++(recN s++(setN s).take i))) [] () (fun j z h=>absurd h (Nat.not_lt_zero j)) (fun i _ φ0 hi hok=>?_) (hσ:=by rw[List.take_zero,List.append_nil])
 conv=>whnf
 refine GIf.mk (fun h=>?_) (fun h=>?_)<;>conv=>whnf
 rotate_left
 ·have hie:i=s.st.length:=by have:=of_decide_eq_false h;rw[hlen] at this;omega
  rw[firstX0_no (Nat.le_of_eq hie.symm) hok] at hX
  cases hX
  have hm:(setN s).take i=setN s:=List.take_of_length_le (by rw[hie];simp[setN])
  show OwesD 2 _ _ (chkH s (areaN s++(recN s++setN s))) _ _
  exact .val (fin 2 (ho:=congrArg (fun m=>chkH s (areaN s++(recN s++m))) hm))
 have hlt:i<s.st.length:=by have:=of_decide_eq_true h;rw[hlen] at this;omega
 obtain⟨y,hy⟩:∃y,s.st[i]?=some y:=⟨s.st[i],gL hlt⟩
 obtain⟨y1,y2,y3⟩:=hst y (List.mem_of_getElem? hy)
 unfold most at y1
 have bad0:∀{e:Int},setF s i y=e->e≠0->((i,e):Nat×Int)=(xi,xe):=fun he h0=>by
  subst he
  rw[firstX0_at hy h0 hok] at hX;exact hX
 have bad:∀{w:Bool} {e b:Int},setF s i y=stopE w e b->w=true->e≠0->((i,e):Nat×Int)=(xi,xe):=fun he h h0=>bad0 (he.trans (stopE_yes h)) h0
 generalize hB:(orE (firstE (membE s y) y.ms) (stopE (!inB y.order 1 5) 1 (orE (if y.order=5 then sortE s y else stopE (!y.keys.isEmpty||y.dups !=0) 1 0)
   (stopE (!inB y.mode 1 3) 1 (stopE (y.mode==3&&y.order !=5) 10 0)))))=B
 have hE:setF s i y=nameE (areaN s++(recN s++(setN s).take i)) y.name (stopE (y.owner !=[]&&!((recN s).contains y.owner)) 5 (stopE (!inB y.ms.length 1 4) 11 B)):=by rw[<-hB];rfl
 rw[nameE_b] at hE
 have hm:chkH s (areaN s++(recN s++(setN s).take i)++[y.name])=chkH s (areaN s++(recN s++(setN s).take (i+1))):=by rw[List.append_assoc,List.append_assoc];exact congrArg (fun m=>chkH s (areaN s++(recN s++m))) (names_succ (fun t:Sy=>t.name) hy).symm
 generalize areaN s++(recN s++(setN s).take i)=met at*
 refine ix (map_at hy) ⟨rfl,?_⟩
 conv=>whnf
 refine st ?_
 conv=>whnf
 refine st ?_
 conv=>whnf
 by_cases hn:nameE met y.name 0=0
 rotate_left
 ·rw[if_neg hn] at hE
  refine cG [0,1] (named_no (kd:=setW3) (i:=i) hn) ?_
  conv=>whnf
  exact endX (bad0 hE hn) hn
 rw[if_pos hn] at hE
 refine cG [0,1] (named_ok (kd:=setW3) (i:=i) hn) ?_
 conv=>whnf
 have hro:=s_record s hl y.owner
 by_cases how:(y.owner !=[]&&!((recN s).contains y.owner))=true
 ·obtain⟨ho1,ho2⟩:=(Bool.and_eq_true ..).mp how
  have hno:atI (fun r:Rc=>r.name==y.owner) s.rc<0:=by
   rcases at_cases (fun r:Rc=>r.name==y.owner) s.rc with⟨h,_⟩|⟨_,_,_,_,_,h⟩
   ·exact h
   ·rw[show(recN s).contains y.owner=s.rc.any fun r=>r.name==y.owner from contains_map _ _ _,h] at ho2;cases ho2
  refine GDraw.pan 14 _ rfl (by kernel_rfl) ?_
  conv=>whnf
  refine gY ho1 ?_
  conv=>whnf
  refine cP hro ?_
  conv=>whnf
  refine cStop s_stop2 2 5 (w:=decide (atI (fun r:Rc=>r.name==y.owner) s.rc<0)) (fun h9=>?_) (fun h9=>absurd hno (of_decide_eq_false h9))
  conv=>whnf
  exact endX (bad hE how (by decide)) (by decide)
 have how':(y.owner !=[]&&!((recN s).contains y.owner))=false:=by simpa using how
 replace hE:=hE.trans (stopE_no how')
 have hown:y.owner≠[]->(recN s).contains y.owner=true:=fun h=>by
  rw[show(y.owner !=[])=true by simpa using h] at how';simpa using how'
 refine GDraw.calm (by kernel_rfl) ?_
 conv=>whnf
 refine GIf.mk (fun h=>?_) (fun h=>?_)<;>conv=>whnf
 focus
  refine(rec_at (hown (by simpa using h))).elim fun io hio=>?_
  rw[hio.1] at hro
  refine cP hro ?_
  conv=>whnf
  refine cStop s_stop2 2 5 (w:=false) (fun h9=>nomatch h9) (fun _=>?_)
 rotate_left
 focus
  refine cStop s_stop2 2 5 (w:=false) (fun h9=>nomatch h9) (fun _=>?_)
 all_goals
  conv=>whnf
  refine cP (s_within (mbsG y.ms).length 1 4) ?_
  conv=>whnf
  refine cStop s_stop2 2 11 (fun h=>?_) (fun h=>?_)<;>rw[mbs_len] at h<;>conv=>whnf
  ·exact endX (bad hE h (by decide)) (by decide)
  replace hE:=hE.trans (stopE_no h)
  rw[<-hB] at hE
  have badM:∀{e:Int},firstE (membE s y) y.ms=e->e≠0->((i,e):Nat×Int)=(xi,xe):=fun he h0=>bad0 (hE.trans (by rw[he,orE_no h0])) h0
  refine GLoop.rng 4 y.ms.length (fun k _=>∀j m,j<k->y.ms[j]?=some m->membE s y j m=0) (fun k _=>[(0,.ptr 0 0),(3,.ptr 3 0),(4,.fn (.func 122) [] [.ptr 2 0]),(19,.sl .none (sysG s.st)),(20,.i .i64 (sysG s.st).length),(21,.i .i64 (i:Nat)),(55,.sl .none (mbsG y.ms)),(56,.i .i64 (mbsG y.ms).length),(57,.i .i64 (k:Nat))])
   (fun k (_:Unit)=>chkH s (met++[y.name])++[.box 3 [.i .i64 (i:Nat)],.box 39 (syC y)]) [] () (fun j n h=>absurd h (Nat.not_lt_zero j)) (fun k _ φ1 hk hok2=>?_)
  conv=>whnf
  refine GIf.mk (fun h=>?_) (fun h=>?_)<;>conv=>whnf
  ·have hlt2:k<y.ms.length:=by have:=of_decide_eq_true h;rw[mbs_len] at this;omega
   refine(ex_at hlt2).elim fun m hm2=>?_
   have badJ:∀{e:Int},membE s y k m=e->e≠0->((i,e):Nat×Int)=(xi,xe):=fun he h0=>badM ((firstE_at hm2 (by rw[he];exact h0) hok2).trans he) h0
   have hrr:=s_record s hl m.of
   refine ix (map_at hm2) ⟨rfl,?_⟩
   conv=>whnf
   refine st ?_
   conv=>whnf
   refine(Bool.eq_false_or_eq_true ((recN s).contains m.of)).elim (fun hc=>?_) (fun hc=>?_)
   rotate_left
   ·have hno:atI (fun r:Rc=>r.name==m.of) s.rc<0:=by
     rcases at_cases (fun r:Rc=>r.name==m.of) s.rc with⟨h,_⟩|⟨_,_,_,_,_,h⟩
     ·exact h
     ·rw[show(recN s).contains m.of=s.rc.any fun r=>r.name==m.of from contains_map _ _ _,h] at hc;cases hc
    refine GDraw.pan 9 _ rfl (by kernel_rfl) ?_
    conv=>whnf
    refine cP hrr ?_
    conv=>whnf
    refine cStop s_stop2 2 5 (w:=decide (atI (fun r:Rc=>r.name==m.of) s.rc<0)) (fun h9=>?_) (fun h9=>absurd hno (of_decide_eq_false h9))
    conv=>whnf
    exact endX (badJ (stopE_yes (by rw[hc];rfl)) (by decide)) (by decide)
   refine(rec_at hc).elim fun ir hir=>?_
   rw[hir.1] at hrr
   have hJ:membE s y k m=stopE (((y.ms.take k).map (·.of)).contains m.of) 6 (stopE (!inB m.keep 1 3) 1 (selE s y m)):=stopE_no (by rw[hc];rfl)
   rw[contains_map] at hJ
   refine GDraw.calm (by kernel_rfl) ?_
   conv=>whnf
   refine cP hrr ?_
   conv=>whnf
   refine cStop s_stop2 2 5 (w:=false) (fun h9=>nomatch h9) (fun _=>?_)
   conv=>whnf
   have hmb:=s_member ⟨[],[],y.ms.take k,0,[],0,0⟩ (by unfold most;show(y.ms.take k).length<_;rw[List.length_take];omega) m.of
   have hmo:decide (atI (fun z:Mb=>z.of==m.of) (y.ms.take k)>=0)=(y.ms.take k).any fun z=>z.of==m.of:=atI_any _ _
   refine(Bool.eq_false_or_eq_true ((y.ms.take k).any fun z=>z.of==m.of)).elim (fun hd=>?_) (fun hd=>?_)
   ·refine GDraw.pan 10 _ rfl (by kernel_rfl) ?_
    conv=>whnf
    refine slTo (zs:=mbsG (y.ms.take k)) (mbs_ok _) (by rw[mbs_len];omega) ?_ (List.map_take ..).symm
    conv=>whnf
    refine cP hmb ?_ (wC (Wks.agg (wC (Wk.refl _) (wC (Wk.refl _) (wC (Wk.refl _) (wC (Wk.refl _) (wC (Wk.sl _ _) (wR _))))))) (wR _))
    conv=>whnf
    refine cStop s_stop2 2 6 (w:=decide (atI (fun z:Mb=>z.of==m.of) (y.ms.take k)>=0)) (fun h9=>?_) (fun h9=>by rw[hmo,hd] at h9;cases h9)
    conv=>whnf
    exact endX (badJ (hJ.trans (stopE_yes hd)) (by decide)) (by decide)
   refine GDraw.calm (by kernel_rfl) ?_
   conv=>whnf
   refine slTo (zs:=mbsG (y.ms.take k)) (mbs_ok _) (by rw[mbs_len];omega) ?_ (List.map_take ..).symm
   conv=>whnf
   refine cP hmb ?_ (wC (Wks.agg (wC (Wk.refl _) (wC (Wk.refl _) (wC (Wk.refl _) (wC (Wk.refl _) (wC (Wk.sl _ _) (wR _))))))) (wR _))
   conv=>whnf
   refine cStop s_stop2 2 6 (w:=decide (atI (fun z:Mb=>z.of==m.of) (y.ms.take k)>=0)) (fun h9=>by rw[hmo,hd] at h9;cases h9) (fun _=>?_)
   conv=>whnf
   replace hJ:=hJ.trans (stopE_no hd)
   refine cP (s_within m.keep 1 3) ?_
   conv=>whnf
   refine cStop s_stop2 2 1 (fun h=>?_) (fun h=>?_)<;>conv=>whnf
   ·exact endX (badJ (hJ.trans (stopE_yes h)) (by decide)) (by decide)
   replace hJ:=hJ.trans (stopE_no h)
   have hsel:=s_selected s hz' (met++[y.name]) i y m (y3 m (List.mem_of_getElem? hm2)) hc hown hg
   by_cases h0:selE s y m=0
   ·rw[h0] at hsel
    refine cS [0,1,2] hsel ?_
    conv=>whnf
    exact nx () hlt2 ⟨hlt2,ok_succ hm2 (hJ.trans h0) hok2⟩
   ·rw[outR_no h0] at hsel
    refine cS [0,1,2] hsel ?_
    conv=>whnf
    exact endX (badJ hJ h0) h0
  have hM0:∀j m,y.ms[j]?=some m->membE s y j m=0:=fun j z hz=>hok2 j z (by have:=of_decide_eq_false h;rw[mbs_len] at this;have:=(List.getElem?_eq_some_iff.1 hz).1;omega) hz
  have hmem:∀m∈y.ms,(recN s).contains m.of=true:=fun m hm9=>by
   obtain⟨j,hj⟩:=List.getElem?_of_mem hm9
   simpa using(stopE_zero (hM0 j m hj) (by decide)).1
  replace hE:=hE.trans (orE_ok (firstE_no hM0))
  refine cP (s_within y.order 1 5) ?_
  conv=>whnf
  refine cStop s_stop2 2 1 (fun h=>?_) (fun h=>?_)<;>conv=>whnf
  ·exact endX (bad hE h (by decide)) (by decide)
  replace hE:=hE.trans (stopE_no h)
  refine GIf.mk (fun h=>?_) (fun h=>?_)<;>conv=>whnf
  focus
   rw[if_pos (show y.order=5 by simpa using h)] at hE
   have hso:=s_sorted s hz' (met++[y.name]) i y (by unfold most;omega) y2 hmem hg
   by_cases h0:sortE s y=0
   rotate_left
   ·rw[outR_no h0] at hso
    rw[orE_no h0] at hE
    refine cS [0,1,2] hso ?_
    conv=>whnf
    exact endX (bad0 hE h0) h0
   rw[h0] at hso
   replace hE:=hE.trans (orE_ok h0)
   refine cS [0,1,2] hso ?_
  rotate_left
  focus
   rw[if_neg (show¬y.order=5 by simpa using h)] at hE
   have badO:(!y.keys.isEmpty||y.dups !=0)=true->((i,(1:Int)):Nat×Int)=(xi,xe):=fun h=>bad0 (hE.trans (by rw[stopE_yes h,orE_no (by decide)])) (by decide)
   refine GIf.mk (fun h3=>?_) (fun h3=>?_)<;>conv=>whnf
   ·refine cStop s_stop2 2 1 (w:=true) (fun _=>?_) (fun h9=>nomatch h9)
    conv=>whnf
    exact endX (badO (by have:((kysG y.keys).length:Int)>0:=of_decide_eq_true h3;rw[kys_len] at this;cases hk:y.keys with|nil=>rw[hk] at this;exact absurd this (by decide)|cons a l=>rfl)) (by decide)
   have hke:y.keys.isEmpty=true:=by have:¬((kysG y.keys).length:Int)>0:=of_decide_eq_false h3;rw[kys_len] at this;cases hk:y.keys with|nil=>rfl|cons a l=>rw[hk] at this;simp at this
   refine cStop s_stop2 2 1 (fun h4=>?_) (fun h4=>?_)
   ·conv=>whnf
    exact endX (badO (by rw[show(y.dups !=0)=true from h4,Bool.or_true])) (by decide)
   replace hE:=hE.trans (orE_ok (stopE_no (by rw[hke];exact h4)))
  all_goals
   conv=>whnf
   refine cP (s_within y.mode 1 3) ?_
   conv=>whnf
   refine cStop s_stop2 2 1 (fun h=>?_) (fun h=>?_)<;>conv=>whnf
   ·exact endX (bad hE h (by decide)) (by decide)
   replace hE:=hE.trans (stopE_no h)
   refine GIf.mk (fun h5=>?_) (fun h5=>?_)<;>conv=>whnf
   ·refine cStop s_stop2 2 10 (fun h6=>?_) (fun h6=>?_)<;>conv=>whnf
    ·exact endX (bad hE (by rw[show(y.mode==3)=true from h5];exact h6) (by decide)) (by decide)
    exact nx () hlt ⟨hlt,ok_succ hy (hE.trans (stopE_no (by rw[show(y.mode==3)=true from h5];exact h6))) hok⟩ hm
   refine cStop s_stop2 2 10 (w:=false) (fun h9=>nomatch h9) (fun _=>?_)
   conv=>whnf
   exact nx () hlt ⟨hlt,ok_succ hy (hE.trans (stopE_no (by rw[show(y.mode==3)=false from h5];rfl))) hok⟩ hm
def schS (s:Sch):By×Nat×Int:=schW knownI canonB (fun l c=>chkS l [] c) s
theorem firstX_nz {α:Type} {f:Nat->α->Int} {n:Nat} {l:List α} {p:Nat×Int} (h:firstX f n l=some p):p.2≠0:=by
 induction l generalizing n with
 |nil=>cases h
 |cons x l ih=>
  unfold firstX at h
  by_cases h0:f n x=0
  ·rw[if_pos h0] at h;exact ih h
  ·rw[if_neg h0] at h;cases h;exact h0
theorem getD_zero {o:Option (Nat×Int)} (h:(o.getD (0,0)).2=0) (hn:∀p,o=some p->p.2≠0):o=none:=by
 cases o with
 |none=>rfl
 |some p=>exact absurd h (hn p rfl)
theorem schS_eq (s:Sch):schS s=if(areasX s).2=0 then(if(recsX s).2=0 then(if(setsX s).2=0 then([],0,0) else(setW3,setsX s)) else(recordW,recsX s)) else(areaW,areasX s):=by
 have h3:setsW s=if(setsX s).2=0 then([],0,0) else(setW3,setsX s):=by
  unfold setsW setsX
  by_cases h:s.st.length>60
  ·rw[if_pos h,if_pos h];rfl
  ·rw[if_neg h,if_neg h]
   show(match firstX (setF s) 0 s.st with|some (i,e)=>(setW3,i,e)|none=>([],0,0))=_
   cases hf:firstX (setF s) 0 s.st with
   |none=>rfl
   |some p=>exact(if_neg (firstX_nz hf)).symm
 have h2:recsW knownI canonB (fun l c=>chkS l [] c) s=if(recsX s).2=0 then setsW s else(recordW,recsX s):=by
  unfold recsW recsX
  cases inB s.rc.length 1 10 with
  |false=>rfl
  |true=>
   show(match firstX (recF s) 0 s.rc with|some (i,e)=>(recordW,i,e)|none=>setsW s)=if((firstX (recF s) 0 s.rc).getD (0,0)).2=0 then _ else(recordW,(firstX (recF s) 0 s.rc).getD (0,0))
   cases hf:firstX (recF s) 0 s.rc with
   |none=>rfl
   |some p=>exact(if_neg (firstX_nz hf)).symm
 have h1:schS s=if(areasX s).2=0 then recsW knownI canonB (fun l c=>chkS l [] c) s else(areaW,areasX s):=by
  unfold schS schW areasX
  cases inB s.ar.length 1 6 with
  |false=>rfl
  |true=>
   show(match firstX (fun i a=>areaE ((areaN s).take i) a) 0 s.ar with|some (i,e)=>(areaW,i,e)|none=>recsW knownI canonB (fun l c=>chkS l [] c) s)=if((firstX (fun i a=>areaE ((areaN s).take i) a) 0 s.ar).getD (0,0)).2=0 then _ else(areaW,(firstX (fun i a=>areaE ((areaN s).take i) a) 0 s.ar).getD (0,0))
   cases hf:firstX (fun i a=>areaE ((areaN s).take i) a) 0 s.ar with
   |none=>rfl
   |some p=>exact(if_neg (firstX_nz hf)).symm
 rw[h1,h2,h3]
theorem recsX_good {s:Sch} (h:(recsX s).2=0):∀r∈s.rc,Good knownI r:=by
 unfold recsX at h
 cases hb:inB s.rc.length 1 10 with
 |false=>rw[hb] at h;exact absurd (show(4:Int)=0 from h) (by decide)
 |true=>
  rw[hb] at h
  exact recs_good (f:=fun i=>areaN s++(recN s).take i) (getD_zero h fun p hp=>firstX_nz hp)
theorem outH_ok [MaxL] {s:List GObj}:outH 0 s=s:=if_pos rfl
theorem gopt_fst {α β:Type} {x:Option (α×β)} {K:α×β->Prop} (r:α) (h:x.map (·.1)=some r) (hk:∀b,K (r,b)):gopt x K:=by
 obtain⟨⟨a,b⟩,h1,rfl⟩:=Option.map_eq_some_iff.1 h
 rw[h1];exact hk b
theorem s_Wrong [MaxL] (s:Sch) (hz:schOk s):SC Tryz.prog 12 [schG s] [] (.val (.tup [.s (schS s).1,.i .i64 ((schS s).2.1:Nat),.i .i64 (schS s).2.2])) []:=by
 have hA:=s_areas s hz.1.1
 have hR:=s_records s hz
 rw[schS_eq]
 refine gwS Tryz.func12 rfl ?_
 conv=>whnf
 by_cases h1:(areasX s).2=0
 rotate_left
 ·rw[if_neg h1]
  rw[outR_no h1,outH_no h1] at hA
  refine cG [5,4] hA ?_
  conv=>whnf
  exact gopt_fst (K:=fun q=>Owes [] _ [] q.1 q.2) (.val (.tup [.s areaW,.i .i64 ((areasX s).1:Nat),.i .i64 (areasX s).2])) (by kernel_rfl) fun _=>owes_wk (.refl _) (fun _=>rfl)
 rw[if_pos h1]
 rw[h1,outH_ok] at hA
 refine cG [5,4] hA ?_
 conv=>whnf
 by_cases h2:(recsX s).2=0
 rotate_left
 ·rw[if_neg h2]
  rw[outR_no h2,outH_no h2] at hR
  refine cG [5,4] hR ?_
  conv=>whnf
  exact gopt_fst (K:=fun q=>Owes [] _ [] q.1 q.2) (.val (.tup [.s recordW,.i .i64 ((recsX s).1:Nat),.i .i64 (recsX s).2])) (by kernel_rfl) fun _=>owes_wk (.refl _) (fun _=>rfl)
 rw[if_pos h2]
 rw[h2,outH_ok] at hR
 have hS:=s_sets s hz (recsX_good h2)
 refine cG [5,4] hR ?_
 conv=>whnf
 by_cases h3:(setsX s).2=0
 rotate_left
 ·rw[if_neg h3]
  rw[outR_no h3,outH_no h3] at hS
  refine cG [5,4] hS ?_
  conv=>whnf
  exact gopt_fst (K:=fun q=>Owes [] _ [] q.1 q.2) (.val (.tup [.s setW3,.i .i64 ((setsX s).1:Nat),.i .i64 (setsX s).2])) (by kernel_rfl) fun _=>owes_wk (.refl _) (fun _=>rfl)
 rw[if_pos h3]
 rw[h3,outH_ok] at hS
 refine cG [5,4] hS ?_
 conv=>whnf
 refine st ?_
 conv=>whnf
 refine st ?_
 conv=>whnf
 refine st ?_
 conv=>whnf
 exact owes0 (g:=.tup [.s [],.i .i64 0,.i .i64 0]) (by kernel_rfl) (.refl _) (fun _=>rfl)
theorem s_Valid [MaxL] (s:Sch) (hz:schOk s):SC Tryz.prog 14 [schG s] [] (.val (.b ((schS s).2.2==0))) []:=by
 have hw:=s_Wrong s hz
 refine gwS Tryz.func14 rfl ?_
 conv=>whnf
 refine cP hw ?_
 conv=>whnf
 exact fin 0
set_option maxHeartbeats 8000000 in
theorem r_set [MaxL] (s:Sch) (hz:schOk s) (hg:∀r∈s.rc,Good knownI r) (i:Nat) (y:Sy) (hy:s.st[i]?=some y):SC Tryz.prog 56 [schG s,.i .i64 (i:Nat)] [] (.val (.i .i64 (setF s i y))) []:=by
 have hz':=hz
 obtain⟨⟨ha,hl,ht⟩,hr,hst⟩:=hz
 obtain⟨y1,y2,y3⟩:=hst y (List.mem_of_getElem? hy)
 have hrc:(recN s).contains y.owner=s.rc.any fun r=>r.name==y.owner:=contains_map _ _ _
 generalize hX:setF s i y=xe
 unfold setF setE nameE at hX
 rw[metS,<-atI_lt hy self_name,<-atI_any,<-atI_any] at hX
 have hn:=r_Name y.name
 refine SC.of_gwp allM mixed Tryz.func56 rfl (bL rfl) (by first|exact rL _|simp) rfl ?_
 conv=>whnf
 refine ix (map_at hy) ⟨rfl,?_⟩
 conv=>whnf
 refine st ?_
 conv=>whnf
 refine cP hn ?_
 conv=>whnf
 refine GIf.mk (fun h=>?_) (fun h=>?_)<;>conv=>whnf
 ·exact owes_i ((stopE_yes (by rw[h];rfl)).symm.trans hX)
 rw[h] at hX
 refine GIf.mk (fun h=>?_) (fun h=>?_)<;>conv=>whnf
 ·exact owes_i ((stopE_yes h).symm.trans hX)
 replace hX:=(stopE_no h).symm.trans hX
 refine cP (r_AreaAt s ha y.name) ?_
 conv=>whnf
 refine GIf.mk (fun h=>?_) (fun h=>?_)<;>conv=>whnf
 ·exact owes_i ((stopE_yes (by rw[show decide (0<=atI (fun x:Ar=>x.name==y.name) s.ar)=true from h];rfl)).symm.trans hX)
 rw[show decide (0<=atI (fun x:Ar=>x.name==y.name) s.ar)=false from h] at hX
 refine cP (r_RecordAt s hl y.name) ?_
 conv=>whnf
 refine GIf.mk (fun h=>?_) (fun h=>?_)<;>conv=>whnf
 ·exact owes_i ((stopE_yes (by rw[show decide (0<=atI (fun x:Rc=>x.name==y.name) s.rc)=true from h];rfl)).symm.trans hX)
 rw[show decide (0<=atI (fun x:Rc=>x.name==y.name) s.rc)=false from h] at hX
 refine cP (r_SetAt s ht y.name) ?_
 conv=>whnf
 refine GIf.mk (fun h=>?_) (fun h=>?_)<;>conv=>whnf
 ·exact owes_i ((stopE_yes h).symm.trans hX)
 replace hX:=(stopE_no h).symm.trans hX
 refine GIf.mk (fun h=>?_) (fun h=>?_)<;>conv=>whnf
 focus
  have how:(y.owner !=[])=true:=h
  rw[how] at hX
  refine cP (r_RecordAt s hl y.owner) ?_
  conv=>whnf
  refine GIf.mk (fun h2=>?_) (fun h2=>?_)<;>rw[atI_none,<-hrc] at h2<;>conv=>whnf
  ·exact owes_i ((stopE_yes h2).symm.trans hX)
  have hown:y.owner≠[]->(recN s).contains y.owner=true:=fun _=>by simpa using h2
  replace hX:=(stopE_no h2).symm.trans hX
 rotate_left
 focus
  have how:(y.owner !=[])=false:=h
  rw[how] at hX
  have hown:y.owner≠[]->(recN s).contains y.owner=true:=fun h9=>absurd (by simpa using how) h9
  replace hX:=(stopE_no (w:=false&&_) rfl).symm.trans hX
 all_goals
  refine GIf.mk (fun h=>?_) (fun h=>?_)<;>rw[mbs_len] at h<;>conv=>whnf
  ·exact owes_i ((stopE_yes (nb1 h)).symm.trans hX)
  refine GIf.mk (fun h2=>?_) (fun h2=>?_)<;>rw[mbs_len] at h2<;>conv=>whnf
  ·exact owes_i ((stopE_yes (nb2 h2)).symm.trans hX)
  replace hX:=(stopE_no (nb3 h h2)).symm.trans hX
  have badM:∀{e:Int},firstE (membE s y) y.ms=e->e≠0->e=xe:=fun he h0=>(by rw[he,orE_no h0] at hX;exact hX)
  have y1':=y1
  unfold most at y1'
  refine GLoop.rng 2 y.ms.length (fun k _=>∀j m,j<k->y.ms[j]?=some m->membE s y j m=0) (fun k _=>[(2,.ptr 0 0),(5,.ptr 1 0),(6,.i .i64 (k:Nat))]) (fun k (_:Unit)=>rsrH s y) [] () (fun j n h=>absurd h (Nat.not_lt_zero j)) (fun k _ φ1 hk hok=>?_)
  conv=>whnf
  refine GIf.mk (fun h=>?_) (fun h=>?_)<;>conv=>whnf
  ·have hlt:k<y.ms.length:=by have:=of_decide_eq_true h;rw[mbs_len] at this;omega
   refine(ex_at hlt).elim fun m hm=>?_
   refine cP (r_member s hz' y y1 k m hm (y3 m (List.mem_of_getElem? hm)) hown hg) ?_
   conv=>whnf
   refine GIf.mk (fun h4=>?_) (fun h4=>?_)<;>conv=>whnf
   ·exact owes_i (badM (firstE_at hm (by simpa using h4) hok) (by simpa using h4))
   exact nx () hlt ⟨hlt,ok_succ hm (by simpa using h4) hok⟩
  have hM0:∀j m,y.ms[j]?=some m->membE s y j m=0:=fun j z hz=>hok j z (by have:=of_decide_eq_false h;rw[mbs_len] at this;have:=(List.getElem?_eq_some_iff.1 hz).1;omega) hz
  have hmem:∀m∈y.ms,(recN s).contains m.of=true:=fun m hm9=>by
   obtain⟨j,hj⟩:=List.getElem?_of_mem hm9
   simpa using(stopE_zero (hM0 j m hj) (by decide)).1
  rw[orE_ok (firstE_no hM0)] at hX
  refine GIf.mk (fun h=>?_) (fun h=>?_)<;>conv=>whnf
  ·exact owes_i ((stopE_yes (nb1 h)).symm.trans hX)
  refine GIf.mk (fun h2=>?_) (fun h2=>?_)<;>conv=>whnf
  ·exact owes_i ((stopE_yes (nb2 h2)).symm.trans hX)
  replace hX:=(stopE_no (nb3 h h2)).symm.trans hX
  clear h h2
  refine GIf.mk (fun h=>?_) (fun h=>?_)<;>conv=>whnf
  focus
   rw[if_pos (show y.order=5 by simpa using h)] at hX
   refine cP (r_sorted s hz' y y1 y2 hmem hg) ?_
   conv=>whnf
   refine GIf.mk (fun h4=>?_) (fun h4=>?_)
   ·conv=>whnf
    rw[orE_no (by simpa using h4)] at hX
    exact owes_i hX
   rw[orE_ok (show sortE s y=0 by simpa using h4)] at hX
  rotate_left
  focus
   rw[if_neg (show¬y.order=5 by simpa using h)] at hX
   have badO:(!y.keys.isEmpty||y.dups !=0)=true->(1:Int)=xe:=fun h=>(by rw[stopE_yes h,orE_no (by decide)] at hX;exact hX)
   refine GIf.mk (fun h3=>?_) (fun h3=>?_)<;>conv=>whnf
   ·exact owes_i (badO (by have:((kysG y.keys).length:Int)>0:=of_decide_eq_true h3;rw[kys_len] at this;cases hk:y.keys with|nil=>rw[hk] at this;exact absurd this (by decide)|cons a l=>rfl))
   have hke:y.keys.isEmpty=true:=by have:¬((kysG y.keys).length:Int)>0:=of_decide_eq_false h3;rw[kys_len] at this;cases hk:y.keys with|nil=>rfl|cons a l=>rw[hk] at this;simp at this
   refine GIf.mk (fun h4=>?_) (fun h4=>?_)
   ·conv=>whnf
    exact owes_i (badO (by rw[show(y.dups !=0)=true from h4,Bool.or_true]))
   rw[orE_ok (stopE_no (by rw[hke];exact h4))] at hX
  all_goals
   conv=>whnf
   refine GIf.mk (fun h=>?_) (fun h=>?_)<;>conv=>whnf
   ·exact owes_i ((stopE_yes (nb1 h)).symm.trans hX)
   refine GIf.mk (fun h2=>?_) (fun h2=>?_)<;>conv=>whnf
   ·exact owes_i ((stopE_yes (nb2 h2)).symm.trans hX)
   replace hX:=(stopE_no (nb3 h h2)).symm.trans hX
   refine GIf.mk (fun h5=>?_) (fun h5=>?_)<;>conv=>whnf
   ·rw[show(y.mode==3)=true from h5] at hX
    refine GIf.mk (fun h6=>?_) (fun h6=>?_)<;>conv=>whnf
    ·exact owes_i ((stopE_yes h6).symm.trans hX)
    exact owes_i ((stopE_no h6).symm.trans hX)
   rw[show(y.mode==3)=false from h5] at hX
   exact owes_i hX
theorem schS_a {s:Sch} {p:Nat×Int} (h:areasX s=p) (he:p.2≠0):schS s=(areaW,p):=by rw[schS_eq,h,if_neg he]
theorem schS_r {s:Sch} {p:Nat×Int} (h0:(areasX s).2=0) (h:recsX s=p) (he:p.2≠0):schS s=(recordW,p):=by rw[schS_eq,if_pos h0,h,if_neg he]
theorem schS_s {s:Sch} {p:Nat×Int} (h0:(areasX s).2=0) (h1:(recsX s).2=0) (h:setsX s=p) (he:p.2≠0):schS s=(setW3,p):=by rw[schS_eq,if_pos h0,if_pos h1,h,if_neg he]
set_option maxHeartbeats 8000000 in
theorem r_Wrong [MaxL] (s:Sch) (hz:schOk s) (hc:∀r∈s.rc,r.check.length<1000000):SC Tryz.prog 13 [schG s] [] (.val (.tup [.s (schS s).1,.i .i64 ((schS s).2.1:Nat),.i .i64 (schS s).2.2])) []:=by
 have hz':=hz
 obtain⟨⟨ha,hl,ht⟩,hr,hst⟩:=hz
 unfold most at ha hl ht
 have la:(arsG s.ar).length=s.ar.length:=mapG_len _ _
 have lr:(rcsG s.rc).length=s.rc.length:=mapG_len _ _
 have lt:(sysG s.st).length=s.st.length:=mapG_len _ _
 have hA:areasX s=if !inB s.ar.length 1 6 then(0,4) else(firstX (fun i a=>areaE ((areaN s).take i) a) 0 s.ar).getD (0,0):=rfl
 have hR:recsX s=if !inB s.rc.length 1 10 then(0,4) else(firstX (recF s) 0 s.rc).getD (0,0):=rfl
 have hS:setsX s=if s.st.length>60 then(0,4) else(firstX (setF s) 0 s.st).getD (0,0):=rfl
 generalize hK:schS s=K
 refine gwS Tryz.func13 rfl ?_
 conv=>whnf
 refine GIf.mk (fun h=>?_) (fun h=>?_)<;>rw[la] at h<;>conv=>whnf
 ·rw[<-hK,schS_a (hA.trans (if_pos (nb1 h))) (by decide)]
  exact fin 0
 refine GIf.mk (fun h2=>?_) (fun h2=>?_)<;>rw[la] at h2<;>conv=>whnf
 ·rw[<-hK,schS_a (hA.trans (if_pos (nb2 h2))) (by decide)]
  exact fin 0
 rw[nb3 h h2,if_neg (by simp)] at hA
 clear h h2
 refine GLoop.rng 1 s.ar.length (fun i _=>∀j z,j<i->s.ar[j]?=some z->areaE ((areaN s).take j) z=0) (fun i _=>[(1,.ptr 0 0),(5,.i .i64 (i:Nat))]) (fun i (_:Unit)=>[.box 26 (schC s)]) [] () (fun j z h=>absurd h (Nat.not_lt_zero j)) (fun i _ φ0 hi hok=>?_)
 conv=>whnf
 refine GIf.mk (fun h=>?_) (fun h=>?_)<;>conv=>whnf
 ·have hlt:i<s.ar.length:=by have:=of_decide_eq_true h;rw[la] at this;omega
  refine(ex_at hlt).elim fun y hy=>?_
  refine cP (r_area s (by unfold most;exact ha) i y hy) ?_
  conv=>whnf
  refine GIf.mk (fun h4=>?_) (fun h4=>?_)<;>conv=>whnf
  ·have h5:areaE ((areaN s).take i) y≠0:=by simpa using h4
   rw[<-hK,schS_a (hA.trans (by rw[firstX0_at (f:=fun i a=>areaE ((areaN s).take i) a) hy h5 hok])) h5]
   exact fin 0
  exact nx () hlt ⟨hlt,ok_succ (f:=fun i a=>areaE ((areaN s).take i) a) hy (by simpa using h4) hok⟩
 have hA0:(areasX s).2=0:=by rw[hA,firstX0_no (f:=fun i a=>areaE ((areaN s).take i) a) (by have:=of_decide_eq_false h;rw[la] at this;omega) hok];rfl
 clear h
 refine GIf.mk (fun h=>?_) (fun h=>?_)<;>rw[lr] at h<;>conv=>whnf
 ·rw[<-hK,schS_r hA0 (hR.trans (if_pos (nb1 h))) (by decide)]
  exact fin 0
 refine GIf.mk (fun h2=>?_) (fun h2=>?_)<;>rw[lr] at h2<;>conv=>whnf
 ·rw[<-hK,schS_r hA0 (hR.trans (if_pos (nb2 h2))) (by decide)]
  exact fin 0
 rw[nb3 h h2,if_neg (by simp)] at hR
 clear h h2
 refine GLoop.rng 1 s.rc.length (fun i _=>∀j z,j<i->s.rc[j]?=some z->recF s j z=0) (fun i _=>[(1,.ptr 0 0),(7,.i .i64 (i:Nat))]) (fun i (_:Unit)=>[.box 26 (schC s)]) [] () (fun j z h=>absurd h (Nat.not_lt_zero j)) (fun i _ φ0 hi hok=>?_)
 conv=>whnf
 refine GIf.mk (fun h=>?_) (fun h=>?_)<;>conv=>whnf
 ·have hlt:i<s.rc.length:=by have:=of_decide_eq_true h;rw[lr] at this;omega
  refine(ex_at hlt).elim fun y hy=>?_
  refine cP (r_record s hz' hc i y hy) ?_
  conv=>whnf
  refine GIf.mk (fun h4=>?_) (fun h4=>?_)<;>conv=>whnf
  ·have h5:recF s i y≠0:=by simpa using h4
   rw[<-hK,schS_r hA0 (hR.trans (by rw[firstX0_at hy h5 hok])) h5]
   exact fin 0
  exact nx () hlt ⟨hlt,ok_succ hy (by simpa using h4) hok⟩
 have hR0:(recsX s).2=0:=by rw[hR,firstX0_no (by have:=of_decide_eq_false h;rw[lr] at this;omega) hok];rfl
 clear h
 refine GIf.mk (fun h=>?_) (fun h=>?_)<;>rw[lt] at h<;>conv=>whnf
 ·rw[<-hK,schS_s hA0 hR0 (hS.trans (if_pos (by have:=of_decide_eq_true h;omega))) (by decide)]
  exact fin 0
 rw[if_neg (by have:=of_decide_eq_false h;omega)] at hS
 clear h
 refine GLoop.rng 1 s.st.length (fun i _=>∀j z,j<i->s.st[j]?=some z->setF s j z=0) (fun i _=>[(1,.ptr 0 0),(9,.i .i64 (i:Nat))]) (fun i (_:Unit)=>[.box 26 (schC s)]) [] () (fun j z h=>absurd h (Nat.not_lt_zero j)) (fun i _ φ0 hi hok=>?_)
 conv=>whnf
 refine GIf.mk (fun h=>?_) (fun h=>?_)<;>conv=>whnf
 ·have hlt:i<s.st.length:=by have:=of_decide_eq_true h;rw[lt] at this;omega
  refine(ex_at hlt).elim fun y hy=>?_
  refine cP (r_set s hz' (recsX_good hR0) i y hy) ?_
  conv=>whnf
  refine GIf.mk (fun h4=>?_) (fun h4=>?_)<;>conv=>whnf
  ·have h5:setF s i y≠0:=by simpa using h4
   rw[<-hK,schS_s hA0 hR0 (hS.trans (by rw[firstX0_at hy h5 hok])) h5]
   exact fin 0
  exact nx () hlt ⟨hlt,ok_succ hy (by simpa using h4) hok⟩
 have hS0:(setsX s).2=0:=by rw[hS,firstX0_no (by have:=of_decide_eq_false h;rw[lt] at this;omega) hok];rfl
 rw[<-hK,schS_eq,if_pos hA0,if_pos hR0,if_pos hS0]
 exact fin 0
theorem r_ValidS [MaxL] (s:Sch) (hz:schOk s) (hc:∀r∈s.rc,r.check.length<1000000):SC Tryz.prog 15 [schG s] [] (.val (.b ((schS s).2.2==0))) []:=by
 have hw:=r_Wrong s hz hc
 refine gwS Tryz.func15 rfl ?_
 conv=>whnf
 refine cP hw ?_
 conv=>whnf
 exact fin 0
def part (f:Term->By) (L:List Term) (i:Nat):List By:=(L.take i).foldl (fun l x=>addN l (f x)) []
def itemsB (l:List Itm):Bool:=(l.take 20).all (fun i=>decide (i.name.length<=100))&&decide (l.length<=20)
theorem l_Items [MaxL] (l:List Itm):SC Tryz.prog 48 [.sl .none (itms l)] [] (.val (.b (itemsB l))) []:=by
 have hlen:=itms_len l
 unfold itemsB
 refine gwS Tryz.func48 rfl ?_
 conv=>whnf
 refine GLoop.intro (fun i:Nat=>i<=l.length/\i<=20/\∀z∈l.take i,z.name.length<=100) (fun i=>[(0,.sl .none (itms l)),(3,.i .i64 (i:Nat))]) (fun _=>⟨[],0,[]⟩) (fun i=>l.length - i) 0 ⟨zL _,zL _,(fun z h=>by simp at h)⟩ ⟨rfl,rfl,trivial⟩ rfl (fun i φ0 hi=>?_)
 obtain⟨hi,hi2,hok⟩:=hi
 have fin:(i=l.length∨i=20)->(l.take 20).all (fun i=>decide (i.name.length<=100))=true:=fun hh=>by
  rw[List.all_eq_true]
  intro x hx
  refine decide_eq_true (hok x ?_)
  rcases hh with rfl|rfl
  ·rw[List.take_length];exact List.mem_of_mem_take hx
  ·exact hx
 have hle:decide (((itms l).length:Int)<=20)=decide (l.length<=20):=by rw[hlen,decide_eq_decide];omega
 conv=>whnf
 refine GIf.mk (fun h=>?_) (fun h=>?_)<;>conv=>whnf
 rotate_left
 ·have hie:i=l.length:=by have:=of_decide_eq_false h;rw[hlen] at this;omega
  refine owes_b ?_
  rw[fin (.inl hie),Bool.true_and];exact hle
 have hlt:i<l.length:=by have:=of_decide_eq_true h;rw[hlen] at this;omega
 refine GIf.mk (fun h2=>?_) (fun h2=>?_)<;>conv=>whnf
 rotate_left
 ·have hie:i=20:=by have:=of_decide_eq_false h2;omega
  refine owes_b ?_
  rw[fin (.inr hie),Bool.true_and];exact hle
 have hlt2:i<20:=by have:=of_decide_eq_true h2;omega
 obtain⟨y,hy⟩:∃y,l[i]?=some y:=⟨l[i],gL hlt⟩
 refine⟨cN _,_,by rw[Int.toNat_natCast];exact itms_at hy,rfl,?_⟩
 conv=>whnf
 refine GIf.mk (fun h3=>?_) (fun h3=>?_)<;>conv=>whnf
 ·have h3':¬y.name.length<=100:=by have:=of_decide_eq_true h3;omega
  refine owes_b ?_
  have:(l.take 20).all (fun i=>decide (i.name.length<=100))=false:=List.all_eq_false.2 ⟨y,List.mem_of_getElem? (i:=i) (by rw[List.getElem?_take,if_pos hlt2];exact hy),by simpa using h3'⟩
  rw[this];rfl
 ·have h3':y.name.length<=100:=by have:=of_decide_eq_false h3;omega
  refine⟨l.length - (i+1),(by show _<l.length - i;omega),i+1,⟨hlt,hlt2,fun z hz=>?_⟩,rfl,⟨rfl,wrap_succ (by omega),trivial⟩,rfl⟩
  rw[List.take_add_one,hy] at hz
  rcases List.mem_append.1 hz with hz|hz
  ·exact hok z hz
  ·rw[List.mem_singleton.1 (show z∈[y] from hz)];exact h3'
end Go.Proofs.YtcfgfkkhpdlhpaaGreatDoor
