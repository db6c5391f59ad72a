/-
  A part of the proof of SchemaLess.
-/
import Derived.Test.YtcfgfkkhpdlhpaaGreatDoorQ40
import Derived.Test.YtcfgfkkhpdlhpaaGreatDoorQ41
import Derived.Test.YtcfgfkkhpdlhpaaGreatDoorQ31
import Derived.Test.YtcfgfkkhpdlhpaaGreatDoorQ20
set_option linter.all false
namespace Go.Proofs.YtcfgfkkhpdlhpaaGreatDoor
open Go.RowKit
set_option maxRecDepth 100000
set_option linter.unusedVariables false
theorem r_Said [MaxL] (t:Term) (h:t.good):SC Tryz.prog 302 [.agg (sdc t)] [] (.val (.s t.txt)) []:=by
 obtain⟨nm,vr,v⟩:=t
 have h16:nm.length<=16:=by
  rcases h with⟨_,h2,_⟩|⟨h1,_⟩
  ·simp only at h2
   cases nm with
   |nil=>simp
   |cons c u=>
    simp only[isName,Bool.and_eq_true,decide_eq_true_eq] at h2
    exact h2.1.1
  ·simp only at h1;rw[h1];simp
 cases vr with
 |true=>
  have hn:nm≠[]:=by
   rcases h with⟨h1,_⟩|⟨_,h2,_⟩
   ·exact h1
   ·cases h2
  refine gwS Tryz.func302 rfl ?_
  conv=>whnf
  refine GIf.mk (fun h1=>?_) (fun h1=>?_)<;>conv=>whnf
  ·refine⟨by show 1+nm.length<4611686018427387904;omega,58::nm,rfl,?_⟩
   conv=>whnf
   exact owes_s rfl
  ·exact absurd (by simpa using h1) hn
 |false=>
  by_cases hn:nm=[]
  ·subst hn
   have hv:v.ok=true:=by
    rcases h with⟨h1,_⟩|⟨_,_,h3⟩
    ·exact absurd rfl h1
    ·exact h3
   obtain⟨b0,b1,b2⟩:=ok_in hv
   have hw:=r_Written v (by omega) (by omega) (by omega)
   have e:Term.txt ⟨[],false,v⟩=written v:=by
    show(if v.ok=true then written v else[])=_
    rw[if_pos hv]
   rw[e]
   refine gwS Tryz.func302 rfl ?_
   conv=>whnf
   refine callP hw (wR _) rfl (fun _=>rfl) (.s _) ?_
   conv=>whnf
   exact owes_s rfl
  ·have e:Term.txt ⟨nm,false,v⟩=nm:=by
    show(if nm≠[] then nm else _)=_
    rw[if_pos hn]
   rw[e]
   refine gwS Tryz.func302 rfl ?_
   conv=>whnf
   refine GIf.mk (fun h1=>?_) (fun h1=>?_)<;>conv=>whnf
   ·exact owes_s rfl
   ·exact absurd (by simpa using h1) hn
theorem level_flat (t:Tree):t.flat.level=t.level:=by
 cases t with
 |pair b l r=>
  rw[flat_eq b]
  unfold flatA
  rw[if_pos rfl]
  obtain⟨x,y,e⟩:=flatA_some b r (flatA b none l)
  rw[e];rfl
 |_=>rfl
def kp (a:Bool) (y:Tree):By:=paren (decide (y.level<opn a)) y.flat.plain
def wj (a:Bool):List Tree->By
 |[]=>[]
 |x::xs=>xs.foldl (fun s y=>s++sep a++kp a y) (kp a x)
theorem fold_plain (a:Bool):∀(xs:List Tree) (q:Tree),¬q.level<opn a->(xs.foldl (fun q y=>Tree.pair a q y.flat) q).plain=xs.foldl (fun s y=>s++sep a++kp a y) q.plain
 |[],q,_=>rfl
 |y::ys,q,h=>by
  rw[List.foldl_cons,List.foldl_cons,fold_plain a ys (.pair a q y.flat) (by show¬opn a<opn a;omega)]
  congr 1
  show paren (decide (q.level<opn a)) q.plain++sep a++paren (decide (y.flat.level<opn a)) y.flat.plain=_
  rw[decide_eq_false h,level_flat];rfl
theorem plain_sides (a:Bool) (l r:Tree):(Tree.pair a l r).flat.plain=wj a ((Tree.pair a l r).sides a):=by
 obtain⟨x,xs,h1,h2⟩:=flat_pair a l r
 rw[h1,h2]
 have hlen:2<=(x::xs).length:=by
  rw[<-h1]
  have e:(Tree.pair a l r).sides a=l.sides a++r.sides a:=if_pos rfl
  rw[e,List.length_append]
  have h1:=List.length_pos_iff.2 (sides_ne a l)
  have h2:=List.length_pos_iff.2 (sides_ne a r)
  omega
 cases xs with
 |nil=>simp at hlen
 |cons y ys=>
  rw[List.foldl_cons,fold_plain a ys (.pair a x.flat y.flat) (by show¬opn a<opn a;omega)]
  show _=ys.foldl _ (kp a x++sep a++kp a y)
  congr 1
  show paren (decide (x.flat.level<opn a)) x.flat.plain++sep a++paren (decide (y.flat.level<opn a)) y.flat.plain=_
  rw[level_flat,level_flat];rfl
theorem wj_succ {a:Bool} {L:List Tree} {i:Nat} {y:Tree} (h:L[i]?=some y):wj a (L.take (i+1))=(if i=0 then[] else wj a (L.take i)++sep a)++kp a y:=by
 rw[List.take_add_one,h]
 cases L with
 |nil=>cases h
 |cons x xs=>
  cases i with
  |zero=>simp at h;subst h;rfl
  |succ i=>
   rw[if_neg (by omega)]
   show wj a (x::xs.take i++[y])=wj a (x::xs.take i)++sep a++kp a y
   show(xs.take i++[y]).foldl _ _=_
   rw[List.foldl_append];rfl
theorem fold_le (a:Bool):∀(xs:List Tree) (s:By),s.length<=(xs.foldl (fun s y=>s++sep a++kp a y) s).length
 |[],s=>rL _
 |y::ys,s=>by
  have:=fold_le a ys (s++sep a++kp a y)
  rw[List.foldl_cons]
  simp only[List.length_append] at this⊢
  omega
theorem wj_le (a:Bool) (L:List Tree) (i:Nat):(wj a (L.take i)).length<=(wj a L).length:=by
 cases L with
 |nil=>simp
 |cons x xs=>
  cases i with
  |zero=>simp[wj]
  |succ i=>
   have h1:wj a (x::xs)=(xs.drop i).foldl (fun s y=>s++sep a++kp a y) (wj a (x::xs.take i)):=by
    show xs.foldl (fun s y=>s++sep a++kp a y) (kp a x)=(xs.drop i).foldl _ ((xs.take i).foldl (fun s y=>s++sep a++kp a y) (kp a x))
    rw[<-List.foldl_append,List.take_append_drop]
   rw[h1]
   exact fold_le a _ _
theorem kp_le {a:Bool} {L:List Tree} {i:Nat} {y:Tree} (h:L[i]?=some y):(wj a (L.take i)).length+(if i=0 then 0 else(sep a).length)+(kp a y).length<=(wj a L).length:=by
 have h1:=wj_le a L (i+1)
 rw[wj_succ h] at h1
 split at h1
 ·rename_i h0
  subst h0
  rw[if_pos rfl]
  simp only[List.take_zero,wj,List.length_nil,List.nil_append] at h1⊢
  omega
 ·rename_i h0
  rw[if_neg h0]
  simp only[List.length_append] at h1
  omega
set_option maxHeartbeats 1000000 in
theorem r_Wr_and [MaxL] (L:List Tree) (hL:L.length<=100000) (hb:(wj true L).length<1000000) (hc:∀y∈L,SC Tryz.prog 263 [y.ng] [] (.val (.s y.flat.plain)) []):
  SC Tryz.prog 263 [.agg (ndc 2 (ngs L) t0 t0 [] false)] [] (.val (.s (wj true L))) []:=by
 have hnl:(ngs L).length=L.length:=ngs_len L
 refine gwS Tryz.func263 rfl ?_
 conv=>whnf
 refine GLoop.introS (fun q:Nat×By=>q.1<=L.length/\wj true (L.take q.1)=q.2) (fun q=>[(1,.ptr 0 0),(4,.s q.2),(5,.i .i64 (q.1:Nat))]) (fun _=>⟨[.box 211 (ndc 2 (ngs L) t0 t0 [] false)],0,[]⟩) (fun q=>L.length - q.1) (0,[]) ⟨zL _,rfl⟩ ⟨rfl,rfl,rfl,trivial⟩ rfl (fun _ _=>rL _) (fun q _=>rfl) (fun q _ e he=>?_) (fun q φ0 hi=>?_)
 ·refine⟨?_,rfl,?_⟩
  ·show[(GObj.box _ (ndc 2 (ngs L) t0 t0 [] false)).ren e]=_
   rw[GObj.box_cl (ndc_cl (ngs_cl L) t0 t0 [] false) e]
  ·show[GV.ptr (e 0) 0,_,_]=_
   rw[he 0 (by simp)];rfl
 obtain⟨i,S⟩:=q
 obtain⟨hi,hSd⟩:=hi
 replace hi:i<=L.length:=hi
 replace hSd:wj true (L.take i)=S:=hSd
 conv=>whnf
 refine GIf.mk (fun h=>?_) (fun h=>?_)<;>conv=>whnf
 rotate_left
 ·have hie:i=L.length:=by have:=of_decide_eq_false h;rw[hnl] at this;omega
  refine owes_s ?_
  rw[hie,List.take_length] at hSd
  exact hSd.symm
 have hlt:i<L.length:=by have:=of_decide_eq_true h;rw[hnl] at this;omega
 obtain⟨y,hy⟩:∃y,L[i]?=some y:=⟨L[i],gL hlt⟩
 have hgy:(ngs L)[i]?=some (.agg y.ncs):=by unfold ngs;rw[List.getElem?_map,hy];rfl
 have hcy:=hc y (List.mem_of_getElem? hy)
 have hcl:Cl (.agg y.ncs):=y.ng_cl
 have hsucc:=wj_succ (a:=true) hy
 have hkp:=kp_le (a:=true) hy
 replace hcy:SC Tryz.prog 263 [.agg y.ncs] [] (.val (.s y.flat.plain)) []:=hcy
 have hform:∃k kids A B op yes,y.ncs=ndc k kids A B op yes/\(k=1->kp true y=40::(y.flat.plain++[41]))/\(k≠1->kp true y=y.flat.plain):=by
  cases y with
  |pair b l r=>
   refine⟨_,_,_,_,_,_,ncs_pair b l r,fun h=>?_,fun h=>?_⟩
   ·cases b with
    |true=>cases h
    |false=>rfl
   ·cases b with
    |true=>rfl
    |false=>exact absurd rfl h
  |no t=>exact⟨_,_,_,_,_,_,ncs_no t,(fun h=>absurd h (by decide)),(fun h=>rfl)⟩
  |test op l r=>exact⟨_,_,_,_,_,_,ncs_test op l r,(fun h=>absurd h (by decide)),(fun h=>rfl)⟩
  |truth b=>exact⟨_,_,_,_,_,_,ncs_truth b,(fun h=>absurd h (by decide)),(fun h=>rfl)⟩
 obtain⟨k,kids,A,B,op,yes,hncs,hk1,hk2⟩:=hform
 rw[hncs] at hgy hcy hcl
 generalize kp true y=K at*
 generalize y.flat.plain=X at*
 rw[hSd] at hsucc hkp
 clear hncs hy
 refine GIf.mk (fun hi0=>?_) (fun hi0=>?_)<;>conv=>whnf
 ·have hi0':i≠0:=by have:=of_decide_eq_true hi0;omega
  rw[if_neg hi0'] at hsucc hkp
  have e5:(sep true).length=5:=rfl
  refine⟨by show S.length+5<4611686018427387904;omega,S++sep true,rfl,?_⟩
  conv=>whnf
  refine GIf.mk (fun hi1=>?_) (fun hi1=>?_)<;>conv=>whnf
  rotate_left
  ·rw[hi0] at hi1;cases hi1
  refine⟨cN _,.agg (ndc k kids A B op yes),by rw[Int.toNat_natCast];exact hgy,rfl,?_⟩
  conv=>whnf
  refine GIf.mk (fun hk=>?_) (fun hk=>?_)<;>conv=>whnf
  ·skip
   have h9:(k:Int)=1:=by simpa using hk
   have hK:=hk1 (by omega)
   rw[hK] at hsucc hkp
   refine⟨by show(S++sep true).length+(([40]:By)).length<4611686018427387904;simp only[List.length_append,List.length_cons,List.length_nil] at*;omega,S++sep true++([40]:By),rfl,?_⟩
   conv=>whnf
   refine⟨cN _,.agg (ndc k kids A B op yes),by rw[Int.toNat_natCast];exact hgy,rfl,?_⟩
   conv=>whnf
   refine callP hcy (wR _) rfl (cC hcl .nil) (.s _) ?_
   conv=>whnf
   refine⟨by show(S++sep true++([40]:By)).length+(X).length<4611686018427387904;simp only[List.length_append,List.length_cons,List.length_nil] at*;omega,S++sep true++([40]:By)++X,rfl,?_⟩
   conv=>whnf
   refine⟨by show(S++sep true++([40]:By)++X).length+(([41]:By)).length<4611686018427387904;simp only[List.length_append,List.length_cons,List.length_nil] at*;omega,S++sep true++([40]:By)++X++([41]:By),rfl,?_⟩
   conv=>whnf
   have hfin:wj true (L.take (i+1))=S++sep true++([40]:By)++X++([41]:By):=by rw[hsucc];simp
   exact⟨L.length - (i+1),(by show _<L.length - i;omega),(i+1,_),⟨hlt,hfin⟩,rfl,⟨rfl,rfl,wrap_succ (by omega),trivial⟩,[],rfl,rfl⟩
  ·skip
   have h9:¬(k:Int)=1:=by simpa using hk
   have hK:=hk2 (by omega)
   rw[hK] at hsucc hkp
   refine⟨cN _,.agg (ndc k kids A B op yes),by rw[Int.toNat_natCast];exact hgy,rfl,?_⟩
   conv=>whnf
   refine callP hcy (wR _) rfl (cC hcl .nil) (.s _) ?_
   conv=>whnf
   refine⟨by show(S++sep true).length+(X).length<4611686018427387904;simp only[List.length_append,List.length_cons,List.length_nil] at*;omega,S++sep true++X,rfl,?_⟩
   conv=>whnf
   have hfin:wj true (L.take (i+1))=S++sep true++X:=by rw[hsucc]
   exact⟨L.length - (i+1),(by show _<L.length - i;omega),(i+1,_),⟨hlt,hfin⟩,rfl,⟨rfl,rfl,wrap_succ (by omega),trivial⟩,[],rfl,rfl⟩
 ·have hi0':i=0:=by have:=of_decide_eq_false hi0;omega
  rw[if_pos hi0'] at hsucc hkp
  have hS:S=[]:=by rw[<-hSd,hi0'];rfl
  rw[List.nil_append] at hsucc
  refine GIf.mk (fun hi1=>?_) (fun hi1=>?_)<;>conv=>whnf
  ·rw[hi0] at hi1;cases hi1
  refine⟨cN _,.agg (ndc k kids A B op yes),by rw[Int.toNat_natCast];exact hgy,rfl,?_⟩
  conv=>whnf
  refine GIf.mk (fun hk=>?_) (fun hk=>?_)<;>conv=>whnf
  ·skip
   have h9:(k:Int)=1:=by simpa using hk
   have hK:=hk1 (by omega)
   rw[hK] at hsucc hkp
   refine⟨by show(S).length+(([40]:By)).length<4611686018427387904;simp only[List.length_append,List.length_cons,List.length_nil] at*;omega,S++([40]:By),rfl,?_⟩
   conv=>whnf
   refine⟨cN _,.agg (ndc k kids A B op yes),by rw[Int.toNat_natCast];exact hgy,rfl,?_⟩
   conv=>whnf
   refine callP hcy (wR _) rfl (cC hcl .nil) (.s _) ?_
   conv=>whnf
   refine⟨by show(S++([40]:By)).length+(X).length<4611686018427387904;simp only[List.length_append,List.length_cons,List.length_nil] at*;omega,S++([40]:By)++X,rfl,?_⟩
   conv=>whnf
   refine⟨by show(S++([40]:By)++X).length+(([41]:By)).length<4611686018427387904;simp only[List.length_append,List.length_cons,List.length_nil] at*;omega,S++([40]:By)++X++([41]:By),rfl,?_⟩
   conv=>whnf
   have hfin:wj true (L.take (i+1))=S++([40]:By)++X++([41]:By):=by rw[hsucc];rw[hS];rfl
   exact⟨L.length - (i+1),(by show _<L.length - i;omega),(i+1,_),⟨hlt,hfin⟩,rfl,⟨rfl,rfl,wrap_succ (by omega),trivial⟩,[],rfl,rfl⟩
  ·skip
   have h9:¬(k:Int)=1:=by simpa using hk
   have hK:=hk2 (by omega)
   rw[hK] at hsucc hkp
   refine⟨cN _,.agg (ndc k kids A B op yes),by rw[Int.toNat_natCast];exact hgy,rfl,?_⟩
   conv=>whnf
   refine callP hcy (wR _) rfl (cC hcl .nil) (.s _) ?_
   conv=>whnf
   refine⟨by show(S).length+(X).length<4611686018427387904;simp only[List.length_append,List.length_cons,List.length_nil] at*;omega,S++X,rfl,?_⟩
   conv=>whnf
   have hfin:wj true (L.take (i+1))=S++X:=by rw[hsucc];rw[hS];rfl
   exact⟨L.length - (i+1),(by show _<L.length - i;omega),(i+1,_),⟨hlt,hfin⟩,rfl,⟨rfl,rfl,wrap_succ (by omega),trivial⟩,[],rfl,rfl⟩
set_option maxHeartbeats 1000000 in
theorem r_Wr_or [MaxL] (L:List Tree) (hL:L.length<=100000) (hb:(wj false L).length<1000000) (hc:∀y∈L,SC Tryz.prog 263 [y.ng] [] (.val (.s y.flat.plain)) []):
  SC Tryz.prog 263 [.agg (ndc 1 (ngs L) t0 t0 [] false)] [] (.val (.s (wj false L))) []:=by
 have hnl:(ngs L).length=L.length:=ngs_len L
 refine gwS Tryz.func263 rfl ?_
 conv=>whnf
 refine GLoop.introS (fun q:Nat×By=>q.1<=L.length/\wj false (L.take q.1)=q.2) (fun q=>[(1,.ptr 0 0),(4,.s q.2),(5,.i .i64 (q.1:Nat))]) (fun _=>⟨[.box 211 (ndc 1 (ngs L) t0 t0 [] false)],0,[]⟩) (fun q=>L.length - q.1) (0,[]) ⟨zL _,rfl⟩ ⟨rfl,rfl,rfl,trivial⟩ rfl (fun _ _=>rL _) (fun q _=>rfl) (fun q _ e he=>?_) (fun q φ0 hi=>?_)
 ·refine⟨?_,rfl,?_⟩
  ·show[(GObj.box _ (ndc 1 (ngs L) t0 t0 [] false)).ren e]=_
   rw[GObj.box_cl (ndc_cl (ngs_cl L) t0 t0 [] false) e]
  ·show[GV.ptr (e 0) 0,_,_]=_
   rw[he 0 (by simp)];rfl
 obtain⟨i,S⟩:=q
 obtain⟨hi,hSd⟩:=hi
 replace hi:i<=L.length:=hi
 replace hSd:wj false (L.take i)=S:=hSd
 conv=>whnf
 refine GIf.mk (fun h=>?_) (fun h=>?_)<;>conv=>whnf
 rotate_left
 ·have hie:i=L.length:=by have:=of_decide_eq_false h;rw[hnl] at this;omega
  refine owes_s ?_
  rw[hie,List.take_length] at hSd
  exact hSd.symm
 have hlt:i<L.length:=by have:=of_decide_eq_true h;rw[hnl] at this;omega
 obtain⟨y,hy⟩:∃y,L[i]?=some y:=⟨L[i],gL hlt⟩
 have hgy:(ngs L)[i]?=some (.agg y.ncs):=by unfold ngs;rw[List.getElem?_map,hy];rfl
 have hcy:=hc y (List.mem_of_getElem? hy)
 have hcl:Cl (.agg y.ncs):=y.ng_cl
 have hsucc:=wj_succ (a:=false) hy
 have hkp:=kp_le (a:=false) hy
 replace hcy:SC Tryz.prog 263 [.agg y.ncs] [] (.val (.s y.flat.plain)) []:=hcy
 have hK:kp false y=y.flat.plain:=by
  unfold kp paren
  rw[if_neg]
  have:=level_pos y
  show¬decide (y.level<1)=true
  simp;omega
 obtain⟨k,kids,A,B,op,yes,hng⟩:=ng_form y
 have hncs:y.ncs=ndc k kids A B op yes:=by
  have h9:GV.agg y.ncs=GV.agg (ndc k kids A B op yes):=hng
  injection h9
 rw[hncs] at hgy hcy hcl
 rw[hK] at hsucc hkp
 clear hK hng
 generalize y.flat.plain=X at*
 rw[hSd] at hsucc hkp
 clear hncs hy
 refine GIf.mk (fun hi0=>?_) (fun hi0=>?_)<;>conv=>whnf
 ·have hi0':i≠0:=by have:=of_decide_eq_true hi0;omega
  rw[if_neg hi0'] at hsucc hkp
  have e5:(sep false).length=4:=rfl
  refine GIf.mk (fun hi1=>?_) (fun hi1=>?_)<;>conv=>whnf
  rotate_left
  ·rw[hi0] at hi1;cases hi1
  refine⟨by show(S).length+(sep false).length<4611686018427387904;simp only[List.length_append] at*;omega,S++sep false,rfl,?_⟩
  conv=>whnf
  refine⟨cN _,.agg (ndc k kids A B op yes),by rw[Int.toNat_natCast];exact hgy,rfl,?_⟩
  conv=>whnf
  refine callP hcy (wR _) rfl (cC hcl .nil) (.s _) ?_
  conv=>whnf
  refine⟨by show(S++sep false).length+(X).length<4611686018427387904;simp only[List.length_append] at*;omega,S++sep false++X,rfl,?_⟩
  conv=>whnf
  exact⟨L.length - (i+1),(by show _<L.length - i;omega),(i+1,_),⟨hlt,hsucc⟩,rfl,⟨rfl,rfl,wrap_succ (by omega),trivial⟩,[],rfl,rfl⟩
 ·have hi0':i=0:=by have:=of_decide_eq_false hi0;omega
  rw[if_pos hi0'] at hsucc hkp
  have hS:S=[]:=by rw[<-hSd,hi0'];rfl
  rw[List.nil_append] at hsucc
  refine GIf.mk (fun hi1=>?_) (fun hi1=>?_)<;>conv=>whnf
  ·rw[hi0] at hi1;cases hi1
  refine⟨cN _,.agg (ndc k kids A B op yes),by rw[Int.toNat_natCast];exact hgy,rfl,?_⟩
  conv=>whnf
  refine callP hcy (wR _) rfl (cC hcl .nil) (.s _) ?_
  conv=>whnf
  refine⟨by show(S).length+(X).length<4611686018427387904;omega,S++X,rfl,?_⟩
  conv=>whnf
  have hfin:wj false (L.take (i+1))=S++X:=by rw[hsucc,hS];rfl
  exact⟨L.length - (i+1),(by show _<L.length - i;omega),(i+1,_),⟨hlt,hfin⟩,rfl,⟨rfl,rfl,wrap_succ (by omega),trivial⟩,[],rfl,rfl⟩
theorem r_Wr_no [MaxL] (t:Tree) (hb:t.flat.plain.length<1000000) (hc:SC Tryz.prog 263 [t.ng] [] (.val (.s t.flat.plain)) []):
  SC Tryz.prog 263 [.agg (ndc 3 [t.ng] t0 t0 [] false)] [] (.val (.s (wNot++[32]++paren (decide (t.level<4)) t.flat.plain))) []:=by
 have hcl:=t.ng_cl
 generalize t.flat.plain=X at*
 cases t with
 |pair b l r=>
  rw[show(Tree.pair b l r).ng=.agg (ndc (opn b) (ngs ((Tree.pair b l r).sides b)) t0 t0 [] false) by show GV.agg _=_;rw[ncs_pair]] at hc hcl⊢
  generalize ngs ((Tree.pair b l r).sides b)=kids at*
  have e:paren (decide ((Tree.pair b l r).level<4)) X=40::(X++[41]):=by cases b<;>rfl
  rw[e]
  cases b with
  |true=>
   refine gwS Tryz.func263 rfl ?_
   conv=>whnf
   refine⟨Int.le_refl 0,.agg (ndc (opn true) kids t0 t0 [] false),rfl,rfl,?_⟩
   conv=>whnf
   refine⟨_,⟨rfl,zL _,rfl,bL rfl⟩,?_⟩
   conv=>whnf
   refine callP hc (wR _) rfl (cC hcl .nil) (.s _) ?_
   conv=>whnf
   refine⟨by show 5+X.length<4611686018427387904;omega,wNot++[32,40]++X,rfl,?_⟩
   conv=>whnf
   refine⟨by show(wNot++[32,40]++X).length+1<4611686018427387904;simp only[List.length_append] at*;show 3+2+X.length+1<_;omega,wNot++[32,40]++X++[41],rfl,?_⟩
   conv=>whnf
   exact owes_s (by show wNot++[32,40]++X++[41]=wNot++[32]++40::(X++[41]);simp)
  |false=>
   refine gwS Tryz.func263 rfl ?_
   conv=>whnf
   refine⟨Int.le_refl 0,.agg (ndc (opn false) kids t0 t0 [] false),rfl,rfl,?_⟩
   conv=>whnf
   refine⟨_,⟨rfl,zL _,rfl,bL rfl⟩,?_⟩
   conv=>whnf
   refine callP hc (wR _) rfl (cC hcl .nil) (.s _) ?_
   conv=>whnf
   refine⟨by show 5+X.length<4611686018427387904;omega,wNot++[32,40]++X,rfl,?_⟩
   conv=>whnf
   refine⟨by show(wNot++[32,40]++X).length+1<4611686018427387904;simp only[List.length_append] at*;show 3+2+X.length+1<_;omega,wNot++[32,40]++X++[41],rfl,?_⟩
   conv=>whnf
   exact owes_s (by show wNot++[32,40]++X++[41]=wNot++[32]++40::(X++[41]);simp)
 |no t=>
  have e:paren (decide ((Tree.no t).level<4)) X=40::(X++[41]):=rfl
  rw[e]
  rw[show(Tree.no t).ng=.agg (ndc 3 [t.ng] t0 t0 [] false) from rfl] at hc hcl⊢
  refine gwS Tryz.func263 rfl ?_
  conv=>whnf
  refine⟨Int.le_refl 0,.agg (ndc 3 [t.ng] t0 t0 [] false),rfl,rfl,?_⟩
  conv=>whnf
  refine⟨_,⟨rfl,zL _,rfl,bL rfl⟩,?_⟩
  conv=>whnf
  refine callP hc (wR _) rfl (cC hcl .nil) (.s _) ?_
  conv=>whnf
  refine⟨by show 5+X.length<4611686018427387904;omega,wNot++[32,40]++X,rfl,?_⟩
  conv=>whnf
  refine⟨by show(wNot++[32,40]++X).length+1<4611686018427387904;simp only[List.length_append] at*;show 3+2+X.length+1<_;omega,wNot++[32,40]++X++[41],rfl,?_⟩
  conv=>whnf
  exact owes_s (by show wNot++[32,40]++X++[41]=wNot++[32]++40::(X++[41]);simp)
 |test op l r=>
  rw[show(Tree.test op l r).ng=.agg (ndc 4 [] l r op false) from rfl] at hc hcl⊢
  refine gwS Tryz.func263 rfl ?_
  conv=>whnf
  refine⟨Int.le_refl 0,.agg (ndc 4 [] l r op false),rfl,rfl,?_⟩
  conv=>whnf
  refine⟨_,⟨rfl,zL _,rfl,bL rfl⟩,?_⟩
  conv=>whnf
  refine callP hc (wR _) rfl (cC hcl .nil) (.s _) ?_
  conv=>whnf
  refine⟨by show 4+X.length<4611686018427387904;omega,wNot++[32]++X,rfl,?_⟩
  conv=>whnf
  exact owes_s rfl
 |truth b=>
  rw[show(Tree.truth b).ng=.agg (ndc 5 [] t0 t0 [] b) from rfl] at hc hcl⊢
  refine gwS Tryz.func263 rfl ?_
  conv=>whnf
  refine⟨Int.le_refl 0,.agg (ndc 5 [] t0 t0 [] b),rfl,rfl,?_⟩
  conv=>whnf
  refine⟨_,⟨rfl,zL _,rfl,bL rfl⟩,?_⟩
  conv=>whnf
  refine callP hc (wR _) rfl (cC hcl .nil) (.s _) ?_
  conv=>whnf
  refine⟨by show 4+X.length<4611686018427387904;omega,wNot++[32]++X,rfl,?_⟩
  conv=>whnf
  exact owes_s rfl
theorem r_Wr_test [MaxL] (op:By) (l r:Term) (ho:op.length<=2) (hl:l.good) (hr:r.good) (hl1:l.txt.length<=200) (hr1:r.txt.length<=200):
  SC Tryz.prog 263 [.agg (ndc 4 [] l r op false)] [] (.val (.s (l.txt++[32]++op++[32]++r.txt))) []:=by
 have s1:=r_Said l hl
 have s2:=r_Said r hr
 generalize l.txt=x1 at*
 generalize r.txt=x2 at*
 refine gwS Tryz.func263 rfl ?_
 conv=>whnf
 refine GDraw.calm (by kernel_rfl) ?_
 conv=>whnf
 refine callP s1 (wR _) rfl (cC (Cl.agg (sdc_cl l)) .nil) (.s _) ?_
 conv=>whnf
 refine⟨by show x1.length+1<4611686018427387904;omega,x1++[32],rfl,?_⟩
 conv=>whnf
 refine⟨by show(x1++[32]).length+op.length<4611686018427387904;rw[List.length_append];show x1.length+1+op.length<_;omega,x1++[32]++op,rfl,?_⟩
 conv=>whnf
 refine⟨by show(x1++[32]++op).length+1<4611686018427387904;rw[List.length_append,List.length_append];show x1.length+1+op.length+1<_;omega,x1++[32]++op++[32],rfl,?_⟩
 conv=>whnf
 refine callP s2 (wR _) rfl (cC (Cl.agg (sdc_cl r)) .nil) (.s _) ?_
 conv=>whnf
 refine⟨by show(x1++[32]++op++[32]).length+x2.length<4611686018427387904;rw[List.length_append,List.length_append,List.length_append];show x1.length+1+op.length+1+x2.length<_;omega,x1++[32]++op++[32]++x2,rfl,?_⟩
 conv=>whnf
 exact owes_s rfl
theorem r_Wr_truth [MaxL] (b:Bool):SC Tryz.prog 263 [.agg (ndc 5 [] t0 t0 [] b)] [] (.val (.s (if b then wTrue else wFalse))) []:=by
 cases b with
 |true=>
  refine gwS Tryz.func263 rfl ?_
  conv=>whnf
  exact owes_s rfl
 |false=>
  refine gwS Tryz.func263 rfl ?_
  conv=>whnf
  exact owes_s rfl
theorem good_sides {a:Bool}:∀{t x:Tree},t.good->x∈t.sides a->x.good
 |.pair b l r,x,h,hx=>by
  unfold Tree.sides at hx
  split at hx
  ·rcases List.mem_append.1 hx with hx|hx
   ·exact good_sides h.1 hx
   ·exact good_sides h.2 hx
  ·simp at hx;subst hx;exact h
 |.no t,x,h,hx=>by simp[Tree.sides] at hx;subst hx;exact h
 |.test _ _ _,x,h,hx=>by simp[Tree.sides] at hx;subst hx;exact h
 |.truth _,x,h,hx=>by simp[Tree.sides] at hx;subst hx;exact h
theorem txt_len {t:Term} (h:t.good):t.name.length<=16/\t.txt.length<=180:=by
 obtain⟨nm,vr,v⟩:=t
 rcases h with⟨h1,h2,_⟩|⟨h1,h2,h3⟩
 ·simp only at h1 h2
  have h16:nm.length<=16:=by
   cases nm with
   |nil=>simp
   |cons c u=>
    simp only[isName,Bool.and_eq_true,decide_eq_true_eq] at h2
    exact h2.1.1
  refine⟨h16,?_⟩
  cases vr with
  |true=>show(58::nm).length<=180;simp;omega
  |false=>show(if nm≠[] then nm else _).length<=180;rw[if_pos h1];omega
 ·simp only at h1 h2 h3
  subst h1;subst h2
  refine⟨zL _,?_⟩
  show(if v.ok=true then written v else[]).length<=180
  rw[if_pos h3]
  have:=written_len h3;omega
theorem nice_of {t:Tree}:t.good->t.nice:=by
 induction t with
 |pair a l r i1 i2=>exact fun h=>⟨i1 h.1,i2 h.2⟩
 |no t i=>exact fun h=>i h
 |test op l r=>exact fun h=>⟨relop_len h.1,txt_len h.2.1,txt_len h.2.2⟩
 |truth b=>exact fun _=>trivial
theorem r_Written2 [MaxL]:∀(n:Nat) (t:Tree),t.size<=n->t.size<=2100->t.good->SC Tryz.prog 263 [t.ng] [] (.val (.s t.flat.plain)) []
 |0,t,h,_,_=>by cases t<;>simp[Tree.size] at h
 |n+1,t,h,h2,hg=>by
  have hb:t.flat.plain.length<1000000:=by
   have:=plain_le t.flat (flat_nice (nice_of hg))
   rw[flat_size] at this
   omega
  cases t with
  |truth b=>exact r_Wr_truth b
  |test op l r=>
   have:=r_Wr_test op l r (relop_len hg.1) hg.2.1 hg.2.2 (by have:=(txt_len hg.2.1).2;omega) (by have:=(txt_len hg.2.2).2;omega)
   exact this
  |no t=>
   simp only[Tree.size] at h h2
   have e:(Tree.no t).flat.plain=wNot++[32]++paren (decide (t.level<4)) t.flat.plain:=by
    show wNot++[32]++paren (decide (t.flat.level<4)) t.flat.plain=_
    rw[level_flat]
   rw[e] at hb⊢
   have hb2:t.flat.plain.length<1000000:=by
    have:=plain_le t.flat (flat_nice (nice_of (show t.good from hg)))
    rw[flat_size] at this
    omega
   exact r_Wr_no t hb2 (r_Written2 n t (by omega) (by omega) hg)
  |pair a l r=>
   have hs:=@sides_len a (Tree.pair a l r)
   have hk:∀y∈(Tree.pair a l r).sides a,SC Tryz.prog 263 [y.ng] [] (.val (.s y.flat.plain)) []:=fun y hy=>by
    have:=sides_lt hy
    exact r_Written2 n y (by omega) (by omega) (good_sides hg hy)
   rw[plain_sides] at hb⊢
   rw[show(Tree.pair a l r).ng=.agg (ndc (opn a) (ngs ((Tree.pair a l r).sides a)) t0 t0 [] false) by show GV.agg _=_;rw[ncs_pair]]
   cases a with
   |true=>exact r_Wr_and _ (by omega) hb hk
   |false=>exact r_Wr_or _ (by omega) hb hk
theorem tok_len:∀(n:Nat) (l:List UInt8),l.length<=n->∀w∈toks l,w.length<=l.length
 |0,l,h,w,hw=>by
  have:l=[]:=List.eq_nil_of_length_eq_zero (by omega)
  subst this;rw[toks_nil rfl] at hw;cases hw
 |n+1,l,h,w,hw=>by
  cases hk:skip l with
  |nil=>rw[toks_nil hk] at hw;cases hw
  |cons c t=>
   rw[toks_cons hk] at hw
   have h1:=skip_len l
   rw[hk] at h1
   have h2:=wlen_pos c t
   simp only[List.length_cons] at h1
   rcases List.mem_cons.1 hw with rfl|hw
   ·unfold wrd
    rw[List.length_take]
    simp only[List.length_cons];omega
   ·have:=tok_len n ((c::t).drop (wlen (c::t))) (by simp;omega) w hw
    simp at this;omega
def nodeN:GV:=.agg (ndc 0 [] t0 t0 [] false)
def readRG (s:By):GV:=match readR s with
 |.ok t=>.tup [t.ng,.i .i64 0]
 |.err e=>.tup [nodeN,.i .i64 e]
theorem nodeN_cl [MaxL]:Cl nodeN:=Cl.agg (ndc_cl ClL.nil t0 t0 [] false)
theorem readRG_cl [MaxL] (s:By):Cl (readRG s):=by
 unfold readRG
 split
 ·exact Cl.tup (.cons (Tree.ng_cl _) (.cons (.i _ _) .nil))
 ·exact Cl.tup (.cons nodeN_cl (.cons (.i _ _) .nil))
theorem r_Read [MaxL] (s:By) (hs:s.length<1000000):SC Tryz.prog 190 [.s s] [] (.val (readRG s)) []:=by
 by_cases hl:1000<s.length
 ·have e:readRG s=.tup [nodeN,.i .i64 3]:=by unfold readRG readR;rw[if_pos hl]
  rw[e]
  refine gwS Tryz.func190 rfl ?_
  conv=>whnf
  refine GIf.mk (fun h=>?_) (fun h=>?_)<;>conv=>whnf
  ·skip
   refine⟨_,⟨rfl,zL _,rfl,bL rfl⟩,?_⟩
   conv=>whnf
   exact owes_wk (wk_t2 wk_node (.refl _)) (Cl.tup (.cons nodeN_cl (.cons (.i _ _) .nil)))
  ·exfalso;have:=of_decide_eq_false h;omega
 ·have hsp:=r_split s hs
  cases hss:splitS s with
  |none=>
   rw[hss] at hsp
   have e:readRG s=.tup [nodeN,.i .i64 2]:=by unfold readRG readR;rw[if_neg hl,hss]
   rw[e]
   replace hsp:SC Tryz.prog 230 [.s s] [] (.val (.tup [.sl .none [],.b false])) []:=hsp
   refine gwS Tryz.func190 rfl ?_
   conv=>whnf
   refine GIf.mk (fun h=>?_) (fun h=>?_)<;>conv=>whnf
   ·exfalso;have:=of_decide_eq_true h;omega
   refine callP hsp (wR _) rfl (fun _=>rfl) (fun _=>rfl) ?_
   conv=>whnf
   refine⟨_,⟨rfl,zL _,rfl,bL rfl⟩,?_⟩
   conv=>whnf
   exact owes_wk (wk_t2 wk_node (.refl _)) (Cl.tup (.cons nodeN_cl (.cons (.i _ _) .nil)))
  |some ws=>
   rw[hss] at hsp
   replace hsp:SC Tryz.prog 230 [.s s] [] (.val (.tup [.sl .none (strG ws),.b true])) []:=hsp
   have ht:=split_to _ _ _ hss
   have hwl:=toks_len s.length s (rL _)
   rw[ht] at hwl
   have hx:∀w∈ws,w.length<1000000:=fun w hw=>by
    have:=tok_len s.length s (rL _) w (by rw[ht];exact hw)
    omega
   have h4:=(fourR ws (by omega) hx (fuel s) 0 0 0 (zL _) (by omega)).1 (by unfold fuel;omega)
   rw[List.drop_zero] at h4
   have hcl0:Cl (.tup [.sl .none (strG ws),.b true]):=Cl.tup (.cons (Cl.sl (strG_cl ws)) (.cons (.b _) .nil))
   cases hp:pars litR (fuel s) .or 0 0 ws with
   |none=>
    rw[hp] at h4
    obtain⟨t,a',l',b1,b2,b3,hc⟩:=h4
    have e:readRG s=.tup [nodeN,.i .i64 2]:=by unfold readRG readR;rw[if_neg hl,hss];simp only;rw[hp]
    rw[e]
    have hcl:=t.ng_cl
    obtain⟨k,kids,A,B,op,yes,hng⟩:=ng_form t
    rw[hng] at hc hcl
    refine gwS Tryz.func190 rfl ?_
    conv=>whnf
    refine GIf.mk (fun h=>?_) (fun h=>?_)<;>conv=>whnf
    ·exfalso;have:=of_decide_eq_true h;omega
    refine callP hsp (wR _) rfl (fun _=>rfl) hcl0 ?_
    conv=>whnf
    refine callB (q:=1) hc rfl (wR _) rfl rfl rdC rdC (fun _=>rfl) hcl ?_
    conv=>whnf
    refine⟨_,⟨rfl,zL _,rfl,bL rfl⟩,?_⟩
    conv=>whnf
    refine⟨_,⟨rfl,zL _,rfl,bL rfl⟩,?_⟩
    conv=>whnf
    exact owes_wk (wk_t2 wk_node (.refl _)) (Cl.tup (.cons nodeN_cl (.cons (.i _ _) .nil)))
   |some p=>
    obtain⟨t,r,e⟩:=p
    rw[hp] at h4
    obtain⟨a',b1,b2,hr,b3,hc⟩:=h4
    have hcl:=t.ng_cl
    obtain⟨k,kids,A,B,op,yes,hng⟩:=ng_form t
    have hsl:=strG_len ws
    by_cases hlt:a'<ws.length
    ·have e:readRG s=.tup [nodeN,.i .i64 2]:=by
      unfold readRG readR;rw[if_neg hl,hss];simp only;rw[hp];simp only
      rw[if_neg (by intro h;rw[h] at hr;have:=congrArg List.length hr;simp at this;omega)]
     rw[e]
     rw[hng] at hc hcl
     refine gwS Tryz.func190 rfl ?_
     conv=>whnf
     refine GIf.mk (fun h=>?_) (fun h=>?_)<;>conv=>whnf
     ·exfalso;have:=of_decide_eq_true h;omega
     refine callP hsp (wR _) rfl (fun _=>rfl) hcl0 ?_
     conv=>whnf
     refine callB (q:=1) hc rfl (wR _) rfl rfl rdC rdC (fun _=>rfl) hcl ?_
     conv=>whnf
     refine⟨_,⟨rfl,zL _,rfl,bL rfl⟩,?_⟩
     conv=>whnf
     refine GIf.mk (fun h2=>?_) (fun h2=>?_)<;>conv=>whnf
     ·skip
      refine⟨_,⟨rfl,zL _,rfl,bL rfl⟩,?_⟩
      conv=>whnf
      exact owes_wk (wk_t2 wk_node (.refl _)) (Cl.tup (.cons nodeN_cl (.cons (.i _ _) .nil)))
     ·exfalso;have:=of_decide_eq_false h2;omega
    ·have hr0:r=[]:=by rw[hr];exact List.drop_eq_nil_of_le (by omega)
     by_cases h20:20<e
     ·have e:readRG s=.tup [nodeN,.i .i64 4]:=by
       unfold readRG readR;rw[if_neg hl,hss];simp only;rw[hp];simp only
       rw[if_pos hr0,if_pos h20]
      rw[e]
      rw[hng] at hc hcl
      rw[decide_eq_true h20] at hc
      refine gwS Tryz.func190 rfl ?_
      conv=>whnf
      refine GIf.mk (fun h=>?_) (fun h=>?_)<;>conv=>whnf
      ·exfalso;have:=of_decide_eq_true h;omega
      refine callP hsp (wR _) rfl (fun _=>rfl) hcl0 ?_
      conv=>whnf
      refine callB (q:=1) hc rfl (wR _) rfl rfl rdC rdC (fun _=>rfl) hcl ?_
      conv=>whnf
      refine⟨_,⟨rfl,zL _,rfl,bL rfl⟩,?_⟩
      conv=>whnf
      refine GIf.mk (fun h2=>?_) (fun h2=>?_)<;>conv=>whnf
      ·exfalso;have:=of_decide_eq_true h2;omega
      ·skip
       refine⟨_,⟨rfl,zL _,rfl,bL rfl⟩,?_⟩
       conv=>whnf
       exact owes_wk (wk_t2 wk_node (.refl _)) (Cl.tup (.cons nodeN_cl (.cons (.i _ _) .nil)))
     ·have e:readRG s=.tup [t.ng,.i .i64 0]:=by
       unfold readRG readR;rw[if_neg hl,hss];simp only;rw[hp];simp only
       rw[if_pos hr0,if_neg h20]
      rw[e]
      rw[hng] at hc hcl⊢
      rw[decide_eq_false h20] at hc
      refine gwS Tryz.func190 rfl ?_
      conv=>whnf
      refine GIf.mk (fun h=>?_) (fun h=>?_)<;>conv=>whnf
      ·exfalso;have:=of_decide_eq_true h;omega
      refine callP hsp (wR _) rfl (fun _=>rfl) hcl0 ?_
      conv=>whnf
      refine callB (q:=1) hc rfl (wR _) rfl rfl rdC rdC (fun _=>rfl) hcl ?_
      conv=>whnf
      refine⟨_,⟨rfl,zL _,rfl,bL rfl⟩,?_⟩
      conv=>whnf
      refine GIf.mk (fun h2=>?_) (fun h2=>?_)<;>conv=>whnf
      ·exfalso;have:=of_decide_eq_true h2;omega
      ·skip
       refine⟨_,⟨rfl,zL _,rfl,bL rfl⟩,?_⟩
       conv=>whnf
       exact owes_wk (.refl _) (Cl.tup (.cons hcl (.cons (.i _ _) .nil)))
theorem readR_err {s:By} {e:Int} (h:readR s=.err e):e=2∨e=3∨e=4:=by
 unfold readR at h
 split at h
 ·cases h;omega
 ·split at h
  ·cases h;omega
  ·split at h
   ·split at h
    ·split at h
     ·cases h;omega
     ·cases h
    ·cases h;omega
   ·cases h;omega
theorem r_told [MaxL] (t:Tree) (hg:t.good) (hz:t.size<=2100):SC Tryz.prog 229 [t.ng] [] (.val (.tup [.s (toldR t).1,.i .i64 (toldR t).2])) []:=by
 have hw:=r_Written2 2100 t hz hz hg
 have hcl:=t.ng_cl
 have hb:=plain_le t.flat (flat_nice (nice_of hg))
 rw[flat_size] at hb
 have hr:=r_Read t.flat.plain (by omega)
 have hrc:=readRG_cl t.flat.plain
 unfold readRG at hr hrc
 obtain⟨k,kids,A,B,op,yes,hng⟩:=ng_form t
 rw[hng] at hw hcl⊢
 unfold toldR
 clear hg hng
 generalize t.flat.plain=X at*
 by_cases hl:1000<X.length
 ·rw[if_pos hl]
  refine gwS Tryz.func229 rfl ?_
  conv=>whnf
  refine callP hw (wR _) rfl (cC hcl .nil) (.s _) ?_
  conv=>whnf
  refine GIf.mk (fun h=>?_) (fun h=>?_)<;>conv=>whnf
  ·exact owes_wk (.refl _) (fun _=>rfl)
  ·exfalso;have:=of_decide_eq_false h;omega
 ·rw[if_neg hl]
  cases hx:readR X with
  |ok u=>
   rw[hx] at hr hrc
   replace hr:SC Tryz.prog 190 [.s X] [] (.val (.tup [u.ng,.i .i64 0])) []:=hr
   replace hrc:Cl (.tup [u.ng,.i .i64 0]):=hrc
   obtain⟨k2,kids2,A2,B2,op2,yes2,hng2⟩:=ng_form u
   rw[hng2] at hr hrc
   refine gwS Tryz.func229 rfl ?_
   conv=>whnf
   refine callP hw (wR _) rfl (cC hcl .nil) (.s _) ?_
   conv=>whnf
   refine GIf.mk (fun h=>?_) (fun h=>?_)<;>conv=>whnf
   ·exfalso;have:=of_decide_eq_true h;omega
   refine callP hr (wR _) rfl (fun _=>rfl) hrc ?_
   conv=>whnf
   refine⟨_,⟨rfl,zL _,rfl,bL rfl⟩,?_⟩
   conv=>whnf
   exact owes_wk (.refl _) (fun _=>rfl)
  |err e=>
   rw[hx] at hr hrc
   replace hr:SC Tryz.prog 190 [.s X] [] (.val (.tup [nodeN,.i .i64 e])) []:=hr
   replace hrc:Cl (.tup [nodeN,.i .i64 e]):=hrc
   have he:=readR_err hx
   refine gwS Tryz.func229 rfl ?_
   conv=>whnf
   refine callP hw (wR _) rfl (cC hcl .nil) (.s _) ?_
   conv=>whnf
   refine GIf.mk (fun h=>?_) (fun h=>?_)<;>conv=>whnf
   ·exfalso;have:=of_decide_eq_true h;omega
   refine callP hr (wR _) rfl (fun _=>rfl) hrc ?_
   conv=>whnf
   refine⟨_,⟨rfl,zL _,rfl,bL rfl⟩,?_⟩
   conv=>whnf
   refine GIf.mk (fun h2=>?_) (fun h2=>?_)<;>conv=>whnf
   ·exact owes_wk (.refl _) (fun _=>rfl)
   ·exfalso
    have:e=0:=by simpa using h2
    omega
theorem readR_size {s:By} {t:Tree} (h:readR s=.ok t):t.size<=1000:=by
 have hr:=readR_eq s
 rw[h] at hr
 have:=(readS_bound hr).2.1
 rw[flat_size] at this
 exact this
theorem r_Show [MaxL] (s:By) (hs:s.length<1000000):SC Tryz.prog 189 [.s s] [] (.val (.tup [.s (showR s).1,.i .i64 (showR s).2])) []:=by
 have hr:=r_Read s hs
 have hrc:=readRG_cl s
 unfold readRG at hr hrc
 unfold showR
 cases hx:readR s with
 |ok t=>
  rw[hx] at hr hrc
  replace hr:SC Tryz.prog 190 [.s s] [] (.val (.tup [t.ng,.i .i64 0])) []:=hr
  replace hrc:Cl (.tup [t.ng,.i .i64 0]):=hrc
  have ht:=r_told t (readR_good hx) (by have:=readR_size hx;omega)
  have hcl:=t.ng_cl
  obtain⟨k,kids,A,B,op,yes,hng⟩:=ng_form t
  rw[hng] at hr hrc ht hcl
  simp only
  refine gwS Tryz.func189 rfl ?_
  conv=>whnf
  refine callP hr (wR _) rfl (fun _=>rfl) hrc ?_
  conv=>whnf
  refine⟨_,⟨rfl,zL _,rfl,bL rfl⟩,?_⟩
  conv=>whnf
  refine callP ht (wR _) rfl (cC hcl .nil) (fun _=>rfl) ?_
  conv=>whnf
  exact owes_wk (.refl _) (fun _=>rfl)
 |err e=>
  rw[hx] at hr hrc
  replace hr:SC Tryz.prog 190 [.s s] [] (.val (.tup [nodeN,.i .i64 e])) []:=hr
  replace hrc:Cl (.tup [nodeN,.i .i64 e]):=hrc
  have he:=readR_err hx
  simp only
  refine gwS Tryz.func189 rfl ?_
  conv=>whnf
  refine callP hr (wR _) rfl (fun _=>rfl) hrc ?_
  conv=>whnf
  refine⟨_,⟨rfl,zL _,rfl,bL rfl⟩,?_⟩
  conv=>whnf
  refine GIf.mk (fun h2=>?_) (fun h2=>?_)<;>conv=>whnf
  ·exact owes_wk (.refl _) (fun _=>rfl)
  ·exfalso
   have:e=0:=by simpa using h2
   omega
end Go.Proofs.YtcfgfkkhpdlhpaaGreatDoor
