/-
  A part of the proof of ViewTexts.
-/
import Derived.Test.YtldggonlkafckaaGreatDoorQ47
import Derived.Test.YtldggonlkafckaaGreatDoorQ42
set_option linter.all false
namespace Go.Proofs.YtldggonlkafckaaGreatDoor
open Go.RowKit
set_option maxRecDepth 100000
set_option linter.unusedVariables false
theorem wk_row [MaxL] (R:List VwR) (a b o:By) (l:List (By×By)) (k:Nat):Wk (.sl (.own 1) (recsG R++[.agg [.s a,.s b,.sl (.own k) (itG l),.s o]])) (.sl (.own 1) (recsG (R++[⟨a,b,l,o⟩]))):=by
 have e:recsG (R++[⟨a,b,l,o⟩])=recsG R++[recG ⟨a,b,l,o⟩]:=by unfold recsG;rw[List.map_append];rfl
 rw[e]
 refine Wk.slEl (by simp) (fun i x y hx hy=>?_)
 rcases Nat.lt_or_ge i (recsG R).length with h|h
 ·rw[List.getElem?_append_left h] at hx hy
  rw[hx] at hy;cases hy
  exact⟨rfl,fun j g g' q1 q2=>by rw[q1] at q2;cases q2;exact .refl _⟩
 ·rw[List.getElem?_append_right h] at hx hy
  generalize i - (recsG R).length=m at hx hy
  match m,hx,hy with
  |0,hx,hy=>
   cases hx;cases hy
   refine⟨rfl,fun j g g' q1 q2=>?_⟩
   match j,q1,q2 with
   |0,q1,q2=>cases q1;cases q2;exact .refl _
   |1,q1,q2=>cases q1;cases q2;exact .refl _
   |2,q1,q2=>cases q1;cases q2;exact Wk.sl _ _
   |3,q1,q2=>cases q1;cases q2;exact .refl _
   |j+4,q1,q2=>cases q1
  |m+1,hx,hy=>simp at hx
theorem c_rd1 [MaxL] (R:List VwR) (S:List (By×By)) (s:By) (hs:s.length<=20000) (hR:R.length<=100000):SC Tryz.prog 76 [.ptr 0 0,.s s] (pvH R S) (.val (.b (recP s).2)) (pvH (R++[(recP s).1]) S):=by
 have q1:=cut_len s opW
 have q2:=cut_len (Lib.cut s opW).2.1 clW
 have q3:=cut_len (Lib.cut s opW).1 ofW
 obtain⟨p0,pl,hpe⟩:∃p0 pl,pieces semi (Lib.cut (Lib.cut s opW).2.1 clW).1=p0::pl:=by
  cases h:pieces semi (Lib.cut (Lib.cut s opW).2.1 clW).1 with
  |nil=>exact absurd h (pieces_ne _ _ (by simp[semi]))
  |cons a l=>exact⟨a,l,rfl⟩
 have h:=c_rd1r R S s hs hR _ _ _ _ _ _ _ _ _ _ _ _ _ p0 pl _ _ _ (c_Cut s opW (by omega)) (c_Cut (Lib.cut s opW).2.1 clW (by omega)) (c_Cut (Lib.cut s opW).1 ofW (by omega))
  (show SC Tryz.prog 79 [.s (Lib.cut (Lib.cut s opW).2.1 clW).2.1,.s onlyW] [] (.val (.tup [.s (onlyP (Lib.cut (Lib.cut s opW).2.1 clW).2.1).1,.b (onlyP (Lib.cut (Lib.cut s opW).2.1 clW).2.1).2])) [] by
   have h1:=c_CutPrefix (Lib.cut (Lib.cut s opW).2.1 clW).2.1 onlyW
   unfold onlyP
   split
   ·rename_i h2;rw[h2] at h1;exact h1
   ·rename_i h2;rw[Bool.not_eq_true] at h2;rw[h2] at h1;exact h1)
  (c_letters _ (by omega)) (c_letters _ (by omega)) (by omega) hpe rfl rfl rfl
 have hb:((Lib.cut s opW).2.2&&(Lib.cut (Lib.cut s opW).2.1 clW).2.2&&(okF (Lib.cut (Lib.cut s opW).1 ofW).2.2 (p0::pl)&&(decide ((Lib.cut (Lib.cut s opW).2.1 clW).2.1=[])||((onlyP (Lib.cut (Lib.cut s opW).2.1 clW).2.1).2&&decide ((onlyP (Lib.cut (Lib.cut s opW).2.1 clW).2.1).1≠[]))))&&letters (Lib.cut (Lib.cut s opW).1 ofW).1&&letters (Lib.cut (Lib.cut s opW).1 ofW).2.1)=(recP s).2:=by
  unfold recP
  dsimp only
  rw[okF_all,<-hpe]
  rw[show(pairP (Lib.cut s opW).1).2=((Lib.cut (Lib.cut s opW).1 ofW).2.2&&letters (Lib.cut (Lib.cut s opW).1 ofW).1&&letters (Lib.cut (Lib.cut s opW).1 ofW).2.1) from rfl]
  generalize(Lib.cut s opW).2.2=b1
  generalize(Lib.cut (Lib.cut s opW).2.1 clW).2.2=b2
  generalize(Lib.cut (Lib.cut s opW).1 ofW).2.2=b3
  generalize letters (Lib.cut (Lib.cut s opW).1 ofW).1=b4
  generalize letters (Lib.cut (Lib.cut s opW).1 ofW).2.1=b5
  generalize(pieces semi (Lib.cut (Lib.cut s opW).2.1 clW).1).all (fun x=>(pairP x).2)=b6
  generalize(decide ((Lib.cut (Lib.cut s opW).2.1 clW).2.1=[])||((onlyP (Lib.cut (Lib.cut s opW).2.1 clW).2.1).2&&decide ((onlyP (Lib.cut (Lib.cut s opW).2.1 clW).2.1).1≠[])))=b7
  cases b1<;>cases b2<;>cases b3<;>cases b4<;>cases b5<;>cases b6<;>cases b7<;>rfl
 rw[hb] at h
 have hr:(recP s).1=⟨(Lib.cut (Lib.cut s opW).1 ofW).1,(Lib.cut (Lib.cut s opW).1 ofW).2.1,(p0::pl).map fun x=>(pairP x).1,if(Lib.cut (Lib.cut s opW).2.1 clW).2.1=[] then[] else(onlyP (Lib.cut (Lib.cut s opW).2.1 clW).2.1).1⟩:=by
  rw[<-hpe];rfl
 rw[hr]
 refine SC.forget (extra:=[.own (pl.length+1) 2 70]) (SC.less h ?_ ?_ ?_) (by simp[pvH]) (pvH_own _ _) (pvH_held _ _) (fun _=>rfl)
 ·simp[pvH]
 ·intro x hx
  simp[pvH] at hx
  rcases hx with rfl|rfl|rfl|rfl<;>simp
 ·intro C w i x y hx hy ho
  match i,hx,hy with
  |0,hx,hy=>
   cases hx;cases hy
   unfold rawB at ho
   refine ORel.box_less ?_ (fun j g g' h1 h2=>?_) ho
   ·rfl
   match j,h1,h2 with
   |0,h1,h2=>cases h1;cases h2;exact wk_row R _ _ _ _ 3
   |1,h1,h2=>cases h1;cases h2;exact .refl _
   |j+2,h1,h2=>cases h1
  |1,hx,hy=>
   cases hx
   have e:y=.own (R.length+1) 4 68:=by
    have h5:(pvH (R++[⟨(Lib.cut (Lib.cut s opW).1 ofW).1,(Lib.cut (Lib.cut s opW).1 ofW).2.1,(p0::pl).map fun x=>(pairP x).1,if(Lib.cut (Lib.cut s opW).2.1 clW).2.1=[] then[] else(onlyP (Lib.cut (Lib.cut s opW).2.1 clW).2.1).1⟩]) S++[GObj.own (pl.length+1) 2 70])[1]?=some y:=hy
    unfold pvH at h5
    rw[List.length_append] at h5
    exact(Option.some.inj h5).symm
   rw[e];exact ho
  |2,hx,hy=>cases hx;cases hy;exact ho
  |3,hx,hy=>cases hx;cases hy;exact ho
  |i+4,hx,hy=>cases hx
theorem c_rd2 [MaxL] (R:List VwR) (S:List (By×By)) (s:By) (hs:s.length<=20000) (hS:S.length<=100000):SC Tryz.prog 80 [.ptr 0 0,.s s] (pvH R S) (.val (.b (pairP s).2)) (pvH R (S++[(pairP s).1])):=by
 have f:=c_Cut s ofW (by omega)
 have q:=cut_len s ofW
 have hp:pairP s=(((Lib.cut s ofW).1,(Lib.cut s ofW).2.1),(Lib.cut s ofW).2.2&&letters (Lib.cut s ofW).1&&letters (Lib.cut s ofW).2.1):=rfl
 generalize Lib.cut s ofW=c at f q hp
 obtain⟨a,b,k⟩:=c
 dsimp only at f q hp
 have la:=c_letters a (by omega)
 have lb:=c_letters b (by omega)
 rw[hp]
 have hdis:(oE 2 S.length=2/\oE 71 S.length=71)∨(S.length=0/\oE 2 S.length=0):=by
  cases S with
  |nil=>exact .inr ⟨rfl,rfl⟩
  |cons r R=>exact .inl ⟨rfl,rfl⟩
 have e:pvH R (S++[(a,b)])=[.box 25 [.sl (.own 1) (recsG R),.sl (.own 2) (itG S++[pairG (a,b)])],.own R.length (oE 4 R.length) (oE 68 R.length),.own (S.length+1) 2 71]:=by
  unfold pvH itG
  rw[List.map_append,List.length_append];rfl
 have ho:=pvH_own R (S++[(a,b)])
 have hh:=pvH_held R (S++[(a,b)])
 dsimp only
 rw[e] at ho hh⊢
 generalize letters a=ba at la
 generalize letters b=bb at lb
 rcases k with _|_
 ·refine SC.of_gwp noM mixed Tryz.func80 rfl (bL rfl) (by simp[pvH]) hh ?_
  conv=>whnf
  refine callP f (wR _) rfl (fun _=>rfl) (fun _=>rfl) ?_
  conv=>whnf
  refine⟨⟨rfl,itG_ok S,by show(itG S).length+1<=4294967296;rw[itG_len];omega⟩,itG S++[pairG (a,b)],S.length+1,⟨rfl,by show _=(itG S).length+1;rw[itG_len]⟩,?_⟩
  conv=>whnf
  refine⟨⟨zL _,by show _=(itG S).length;rw[itG_len],hdis⟩,?_⟩
  conv=>whnf
  refine⟨_,⟨rfl,zL _,rfl,bL rfl⟩,?_⟩
  conv=>whnf
  exact owesPre (rest:=[_]) rfl (by simp[pvH]) ho hh (fun _ _=>rfl) (WkRes.refl _)
 rcases ba with _|_
 ·refine SC.of_gwp noM mixed Tryz.func80 rfl (bL rfl) (by simp[pvH]) hh ?_
  conv=>whnf
  refine callP f (wR _) rfl (fun _=>rfl) (fun _=>rfl) ?_
  conv=>whnf
  refine⟨⟨rfl,itG_ok S,by show(itG S).length+1<=4294967296;rw[itG_len];omega⟩,itG S++[pairG (a,b)],S.length+1,⟨rfl,by show _=(itG S).length+1;rw[itG_len]⟩,?_⟩
  conv=>whnf
  refine⟨⟨zL _,by show _=(itG S).length;rw[itG_len],hdis⟩,?_⟩
  conv=>whnf
  refine⟨_,⟨rfl,zL _,rfl,bL rfl⟩,?_⟩
  conv=>whnf
  refine callP la (wR _) rfl (fun _=>rfl) (.b _) ?_
  conv=>whnf
  exact owesPre (rest:=[_]) rfl (by simp[pvH]) ho hh (fun _ _=>rfl) (WkRes.refl _)
 ·refine SC.of_gwp noM mixed Tryz.func80 rfl (bL rfl) (by simp[pvH]) hh ?_
  conv=>whnf
  refine callP f (wR _) rfl (fun _=>rfl) (fun _=>rfl) ?_
  conv=>whnf
  refine⟨⟨rfl,itG_ok S,by show(itG S).length+1<=4294967296;rw[itG_len];omega⟩,itG S++[pairG (a,b)],S.length+1,⟨rfl,by show _=(itG S).length+1;rw[itG_len]⟩,?_⟩
  conv=>whnf
  refine⟨⟨zL _,by show _=(itG S).length;rw[itG_len],hdis⟩,?_⟩
  conv=>whnf
  refine⟨_,⟨rfl,zL _,rfl,bL rfl⟩,?_⟩
  conv=>whnf
  refine callP la (wR _) rfl (fun _=>rfl) (.b _) ?_
  conv=>whnf
  refine callP lb (wR _) rfl (fun _=>rfl) (.b _) ?_
  conv=>whnf
  exact owesPre (rest:=[_]) rfl (by simp[pvH]) ho hh (fun _ _=>rfl) (WkRes.refl _)
theorem pairP_back {s:By} (h:(pairP s).2=true):pairT (pairP s).1=s:=(pairP_yes h).2.2.symm
theorem map_back {l:List By} (h:(l.all fun p=>(pairP p).2)=true):(l.map fun p=>(pairP p).1).map pairT=l:=by
 rw[List.map_map]
 exact(List.map_congr_left fun p hp=>pairP_back (List.all_eq_true.1 h p hp)).trans (List.map_id _)
theorem rec_back {s:By} (h:(recP s).2=true):s=(recP s).1.name++ofW++(recP s).1.of++opW++Lib.join ((recP s).1.items.map pairT) semi++clW++onlyT (recP s).1:=by
 unfold recP at h⊢
 dsimp only
 simp only[Bool.and_eq_true] at h
 obtain⟨⟨⟨⟨h1,h2⟩,h3⟩,h4⟩,h5⟩:=h
 have e1:=cut_true h1
 have e2:=cut_true h2
 have e3:=pairP_back h3
 have e4:=pieces_join (sub:=semi) (by simp[semi]) _ (Lib.cut (Lib.cut s opW).2.1 clW).1 (rL _)
 have e5:=map_back h4
 generalize Lib.cut s opW=c1 at h1 h2 h3 h4 h5 e1 e2 e3 e4 e5⊢
 generalize Lib.cut c1.2.1 clW=c2 at h2 h4 h5 e2 e4 e5⊢
 have e6:onlyT ⟨(pairP c1.1).1.1,(pairP c1.1).1.2,(pieces semi c2.1).map fun p=>(pairP p).1,if c2.2.1=[] then[] else(onlyP c2.2.1).1⟩=c2.2.1:=by
  unfold onlyT
  simp only
  by_cases h0:c2.2.1=[]
  ·rw[if_pos h0,if_pos rfl,h0]
  ·rw[if_neg h0]
   unfold onlyP at h5⊢
   by_cases hp:onlyW.isPrefixOf c2.2.1=true
   ·rw[if_pos hp] at h5⊢
    obtain⟨t,ht⟩:=List.isPrefixOf_iff_prefix.1 hp
    simp[h0] at h5
    have hd:c2.2.1.drop 6≠[]:=fun e=>by
     have:=congrArg List.length e
     simp at this;omega
    rw[if_neg hd,<-ht]
    simp[onlyW]
   ·rw[if_neg hp] at h5
    simp[h0] at h5
 rw[e6,e5,e4]
 show s=pairT (pairP c1.1).1++opW++c2.1++clW++c2.2.1
 rw[e3,e1,List.append_assoc (c1.1++opW),List.append_assoc (c1.1++opW),<-e2]
def lineT:VwR ⊕ By×By->By
 |.inl r=>recL r
 |.inr p=>setL p
theorem line_back {l:By} {x:VwR ⊕ By×By} (h:lineP l=some x):lineT x=l:=by
 unfold lineP at h
 simp only at h
 have hc:(Lib.cut l [32]).2.2=true->l=(Lib.cut l [32]).1++[32]++(Lib.cut l [32]).2.1:=cut_true
 split at h
 ·rename_i h1
  split at h
  ·rename_i h2
   cases h
   have h3:(Lib.cut l [32]).2.2=true:=by
    rcases cut_cases l [32] with⟨a,b,e,q,_⟩|⟨q,_⟩
    ·rw[q]
    ·rw[q] at h2
     have h9:(recP ([]:By)).2=true:=h2
     rw[show(recP ([]:By)).2=false by decide] at h9;cases h9
   have e:=hc h3
   rw[h1] at e
   show recL _=l
   have hr:=rec_back h2
   unfold recL headT
   generalize Lib.cut l [32]=c at*
   rw[e]
   conv=>rhs;rw[hr]
   simp only[List.append_assoc]
  ·cases h
 ·split at h
  ·rename_i h1
   split at h
   ·rename_i h2
    cases h
    have h3:(Lib.cut l [32]).2.2=true:=by
     rcases cut_cases l [32] with⟨a,b,e,q,_⟩|⟨q,_⟩
     ·rw[q]
     ·rw[q] at h2
      have h9:(pairP ([]:By)).2=true:=h2
      rw[show(pairP ([]:By)).2=false by decide] at h9;cases h9
    have e:=hc h3
    rw[h1] at e
    show setL _=l
    unfold setL
    rw[pairP_back h2,<-e]
   ·cases h
  ·cases h
theorem lns_join:∀(L:List By),L≠[]->lns L=Lib.join L [10]++[10]
 |[],h=>absurd rfl h
 |[x],_=>by rw[join_one];show x++[10]++[]=_;rw[List.append_nil]
 |x::y::l,_=>by
  have:=lns_join (y::l) (List.cons_ne_nil _ _)
  rw[join_cons2,show lns (x::y::l)=x++[10]++lns (y::l) from rfl,this]
  simp only[List.append_assoc]
theorem lns_pieces (t:By):(lns (pieces [10] t)).length=t.length+1:=by
 rw[lns_join _ (pieces_ne _ _ (by simp)),pieces_join (by simp) _ t (rL _)]
 simp
theorem viewT_add (v:Vw) (x:VwR ⊕ By×By):(viewT (v.add x)).length=(viewT v).length+(lineT x).length+1:=by
 have one:∀y:By,(lns [y]).length=y.length+1:=fun y=>by show(y++[10]++[]).length=_;simp
 cases x with
 |inl r=>
  show(lns ((v.recs++[r]).map recL++v.sets.map setL)).length=(lns (v.recs.map recL++v.sets.map setL)).length+(recL r).length+1
  rw[List.map_append,lns_app,lns_app,lns_app]
  simp only[List.length_append,List.map_cons,List.map_nil,one];omega
 |inr p=>
  show(lns (v.recs.map recL++(v.sets++[p]).map setL)).length=(lns (v.recs.map recL++v.sets.map setL)).length+(setL p).length+1
  rw[List.map_append,lns_app,lns_app,lns_app]
  simp only[List.length_append,List.map_cons,List.map_nil,one];omega
theorem goL_step {l:By} {ls:List By} {v:Vw} {n:Nat}:goL (l::ls) v n=match lineP l with
  |some x=>goL ls (v.add x) (n+1)
  |none=>.inl n:=rfl
theorem drop_last {L:List By} {i:Nat} {l:By} (h:L[i]?=some l) (hi:i+1<L.length):(L.drop i).dropLast=l::(L.drop (i+1)).dropLast:=by
 obtain⟨h1,h2⟩:=List.getElem?_eq_some_iff.1 h
 rw[List.drop_eq_getElem_cons h1,h2]
 have:L.drop (i+1)≠[]:=by rw[Ne,List.drop_eq_nil_iff];omega
 exact List.dropLast_cons_of_ne_nil this
theorem drop_end {L:List By} {i:Nat} (hi:L.length<=i+1):(L.drop i).dropLast=[]:=by
 rw[<-List.length_eq_zero_iff,List.length_dropLast,List.length_drop];omega
end Go.Proofs.YtldggonlkafckaaGreatDoor
