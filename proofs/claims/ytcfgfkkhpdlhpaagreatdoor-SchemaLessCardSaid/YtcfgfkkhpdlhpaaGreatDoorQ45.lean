/-
  A part of the proof of SchemaLess.
-/
import Derived.Test.YtcfgfkkhpdlhpaaGreatDoorQ43
import Derived.Test.YtcfgfkkhpdlhpaaGreatDoorQ44
import Derived.Test.YtcfgfkkhpdlhpaaGreatDoorQ42
set_option linter.all false
namespace Go.Proofs.YtcfgfkkhpdlhpaaGreatDoor
open Go.RowKit
set_option maxRecDepth 100000
set_option linter.unusedVariables false
theorem r_kind [MaxL] (I V:List Itm) (hI:I.length<most) (hV:V.length<most) (t:Term):SC Tryz.prog 233 [.agg (sdc t),.sl .none (itms I),.sl .none (itms V)] [] (.val (.i .i64 (kindR I V t))) []:=by
 obtain⟨nm,vr,v⟩:=t
 have hI':=r_at I hI nm
 have hV':=r_at V hV nm
 unfold kindR
 by_cases hn:nm=[]
 ·subst hn
  rw[if_pos rfl]
  cases vr with
  |true=>
   refine gwS Tryz.func233 rfl ?_
   conv=>whnf
   exact owes_i rfl
  |false=>
   refine gwS Tryz.func233 rfl ?_
   conv=>whnf
   exact owes_i rfl
 ·rw[if_neg hn]
  cases vr with
  |true=>
   rcases idx_kind V nm with⟨h1,h2⟩|⟨j,y,h1,h2,h3⟩
   ·rw[h1] at hV'
    simp only[if_true,h2]
    refine gwS Tryz.func233 rfl ?_
    conv=>whnf
    refine GIf.mk (fun hz=>?_) (fun hz=>?_)<;>conv=>whnf
    rotate_left
    ·exact absurd (by simpa using hz) hn
    refine callP hV' (wR _) rfl (cC (Cl.sl (itms_cl V)) (cC (.s _) .nil)) (.i _ _) ?_
    conv=>whnf
    exact owes_i rfl
   ·rw[h1] at hV'
    simp only[if_true,h3]
    refine gwS Tryz.func233 rfl ?_
    conv=>whnf
    refine GIf.mk (fun hz=>?_) (fun hz=>?_)<;>conv=>whnf
    rotate_left
    ·exact absurd (by simpa using hz) hn
    refine callP hV' (wR _) rfl (cC (Cl.sl (itms_cl V)) (cC (.s _) .nil)) (.i _ _) ?_
    conv=>whnf
    refine⟨cN _,_,by rw[Int.toNat_natCast];exact itms_at h2,rfl,?_⟩
    conv=>whnf
    exact owes_i rfl
  |false=>
   rcases idx_kind I nm with⟨h1,h2⟩|⟨j,y,h1,h2,h3⟩
   ·rw[h1] at hI'
    simp only[Bool.false_eq_true,if_false,h2]
    refine gwS Tryz.func233 rfl ?_
    conv=>whnf
    refine GIf.mk (fun hz=>?_) (fun hz=>?_)<;>conv=>whnf
    rotate_left
    ·exact absurd (by simpa using hz) hn
    refine callP hI' (wR _) rfl (cC (Cl.sl (itms_cl I)) (cC (.s _) .nil)) (.i _ _) ?_
    conv=>whnf
    exact owes_i rfl
   ·rw[h1] at hI'
    simp only[Bool.false_eq_true,if_false,h3]
    refine gwS Tryz.func233 rfl ?_
    conv=>whnf
    refine GIf.mk (fun hz=>?_) (fun hz=>?_)<;>conv=>whnf
    rotate_left
    ·exact absurd (by simpa using hz) hn
    refine callP hI' (wR _) rfl (cC (Cl.sl (itms_cl I)) (cC (.s _) .nil)) (.i _ _) ?_
    conv=>whnf
    refine⟨cN _,_,by rw[Int.toNat_natCast];exact itms_at h2,rfl,?_⟩
    conv=>whnf
    exact owes_i rfl
theorem wrap_two [MaxL] {j:Nat} (h:j<100000):GV.i .i64 (IntKind.i64.wrap (((2*j:Nat):Int)+2))=.i .i64 ((2*(j+1):Nat):Int):=by
 rw[wrap_in (by omega) (by omega)]
 congr 1
theorem sds_at {L:List Term} {i:Nat} {y:Term} (h:L[i]?=some y):(sds L)[i]?=some (.agg (sdc y)):=by
 unfold sds;rw[List.getElem?_map,h];rfl
theorem leaves_len2 (t:Tree):(leaves t).length=2*(tsts t).length:=by
 rw[leaves_tsts]
 induction tsts t with
 |nil=>rfl
 |cons p l ih=>simp only[List.flatMap_cons,List.length_append,List.length_cons,List.length_nil];omega
theorem flat2_at:∀(l:List (Term×Term)) (j:Nat) (p:Term×Term),l[j]?=some p->(l.flatMap fun p=>[p.1,p.2])[2*j]?=some p.1/\(l.flatMap fun p=>[p.1,p.2])[2*j+1]?=some p.2
 |[],j,p,h=>by simp at h
 |q::l,0,p,h=>by
  simp at h;subst h;simp
 |q::l,j+1,p,h=>by
  have:=flat2_at l j p (by simpa using h)
  rw[show 2*(j+1)=2*j+1+1 by omega]
  simpa using this
theorem leaves_at {t:Tree} {j:Nat} {p:Term×Term} (h:(tsts t)[j]?=some p):(leaves t)[2*j]?=some p.1/\(leaves t)[2*j+1]?=some p.2:=by
 rw[leaves_tsts];exact flat2_at _ _ _ h
theorem any_not_take {α:Type} {f:α->Bool} {l:List α} {i:Nat} {y:α} (h:(l.take i).any f=false) (hy:l[i]?=some y):(l.take (i+1)).any f=f y:=by
 rw[List.take_add_one,hy,List.any_append,h];simp
theorem any_yes {α:Type} {f:α->Bool} {l:List α} {i:Nat} {y:α} (hy:l[i]?=some y) (h:f y=true):l.any f=true:=List.any_eq_true.2 ⟨y,List.mem_of_getElem? hy,h⟩
theorem r_right [MaxL] (I V:List Itm) (hI:I.length<most) (hV:V.length<most) (t:Tree) (hz:t.size<=5000):SC Tryz.prog 191 [t.ng,.sl .none (itms I),.sl .none (itms V)] [] (.val (.i .i64 (checkS I V t))) []:=by
 have hsd:=r_sides 5000 t hz hz
 have hll:=leaves_size t
 have hl2:=leaves_len2 t
 have hat:=fun j p=>@leaves_at t j p
 have hk:=r_kind I V hI hV
 have hcl:=t.ng_cl
 obtain⟨k,kids,A,B,op,yes,hng⟩:=ng_form t
 rw[hng] at hsd hcl⊢
 have hncl:ClL (ndc k kids A B op yes):=by
  have h9:t.ncs=ndc k kids A B op yes:=by
   have h8:GV.agg t.ncs=GV.agg (ndc k kids A B op yes):=hng
   injection h8
  rw[<-h9];exact t.ncs_cl
 unfold checkS
 generalize leaves t=L at*
 generalize tsts t=T at*
 have hsl:=sds_len L
 refine gwS Tryz.func191 rfl ?_
 conv=>whnf
 refine callP hsd (wR _) rfl (cC hcl .nil) (Cl.sl (sds_cl _)) ?_
 conv=>whnf
 have hLm:L.length<=10000:=by omega
 refine GLoop.introS (fun i:Nat=>i<=L.length/\(L.take i).any (fun x=>kindR I V x==0)=false) (fun i=>[(1,.sl .none (itms I)),(2,.sl .none (itms V)),(7,.sl .none (sds L)),(8,.i .i64 (i:Nat))])
  (fun _=>⟨[.box 211 (ndc k kids A B op yes)],0,[]⟩) (fun i=>L.length - i) 0 ⟨zL _,rfl⟩ ⟨rfl,rfl,rfl,rfl,trivial⟩ rfl (fun _ _=>rL _) (fun _ _=>rfl) (fun i _ e he=>?_) (fun i φ0 hi=>?_)
 ·refine⟨?_,rfl,?_⟩
  ·show[(GObj.box _ (ndc k kids A B op yes)).ren e]=_
   rw[GObj.box_cl hncl]
  ·show[(GV.sl .none (itms I)).ren e,(GV.sl .none (itms V)).ren e,(GV.sl .none (sds L)).ren e,_]=_
   rw[Cl.sl (itms_cl I) e,Cl.sl (itms_cl V) e,Cl.sl (sds_cl L) e];rfl
 obtain⟨hi,hni⟩:=hi
 conv=>whnf
 refine GIf.mk (fun h=>?_) (fun h=>?_)<;>conv=>whnf
 rotate_left
 ·have hie:i=L.length:=by have:=of_decide_eq_false h;rw[hsl] at this;omega
  have hn0:L.any (fun x=>kindR I V x==0)=false:=by rw[hie,List.take_length] at hni;exact hni
  rw[hn0]
  simp only[Bool.false_eq_true,if_false]
  conv=>whnf
  refine GLoop.introS (fun j:Nat=>j<=T.length/\(T.take j).any (fun p=>kindR I V p.1 !=kindR I V p.2)=false) (fun j=>[(1,.sl .none (itms I)),(2,.sl .none (itms V)),(7,.sl .none (sds L)),(9,.i .i64 ((2*j:Nat):Int))])
   (fun _=>⟨[.box 211 (ndc k kids A B op yes)],0,[]⟩) (fun i=>T.length - i) 0 ⟨zL _,rfl⟩ ⟨rfl,rfl,rfl,rfl,trivial⟩ rfl (fun _ _=>rL _) (fun _ _=>rfl) (fun i _ e he=>?_) (fun j φ0 hj=>?_)
  ·refine⟨?_,rfl,?_⟩
   ·show[(GObj.box _ (ndc k kids A B op yes)).ren e]=_
    rw[GObj.box_cl hncl]
   ·show[(GV.sl .none (itms I)).ren e,(GV.sl .none (itms V)).ren e,(GV.sl .none (sds L)).ren e,_]=_
    rw[Cl.sl (itms_cl I) e,Cl.sl (itms_cl V) e,Cl.sl (sds_cl L) e];rfl
  obtain⟨hj,hnj⟩:=hj
  conv=>whnf
  refine GIf.mk (fun h2=>?_) (fun h2=>?_)<;>conv=>whnf
  rotate_left
  ·have hje:j=T.length:=by have:=of_decide_eq_false h2;rw[hsl] at this;omega
   refine owes_i ?_
   rw[hje,List.take_length] at hnj
   rw[hnj];rfl
  have hlt:j<T.length:=by have:=of_decide_eq_true h2;rw[hsl] at this;omega
  obtain⟨p,hp⟩:∃y,T[j]?=some y:=⟨T[j],gL hlt⟩
  obtain⟨hp1,hp2⟩:=hat j p hp
  have hys:=any_not_take hnj hp
  have hk1:=hk p.1
  have hk2:=hk p.2
  refine GDraw.calm (by kernel_rfl) ?_
  conv=>whnf
  refine⟨cN _,_,by rw[Int.toNat_natCast];exact sds_at hp1,rfl,?_⟩
  conv=>whnf
  refine callP hk1 (wR _) rfl (cC (Cl.agg (sdc_cl p.1)) (cC (Cl.sl (itms_cl I)) (cC (Cl.sl (itms_cl V)) .nil))) (.i _ _) ?_
  conv=>whnf
  have hw1:IntKind.i64.wrap (((2*j:Nat):Int)+1)=((2*j+1:Nat):Int):=wrap_in (by omega) (by omega)
  refine⟨by rw[hw1];exact cN _,.agg (sdc p.2),by rw[hw1,Int.toNat_natCast];exact sds_at hp2,rfl,?_⟩
  conv=>whnf
  refine callP hk2 (wR _) rfl (cC (Cl.agg (sdc_cl p.2)) (cC (Cl.sl (itms_cl I)) (cC (Cl.sl (itms_cl V)) .nil))) (.i _ _) ?_
  conv=>whnf
  refine GIf.mk (fun h3=>?_) (fun h3=>?_)<;>conv=>whnf
  ·have h3':¬kindR I V p.1=kindR I V p.2:=by simpa using h3
   refine owes_i ?_
   rw[any_yes (f:=fun p=>kindR I V p.1 !=kindR I V p.2) hp (by simpa using h3')];rfl
  ·have h3':kindR I V p.1=kindR I V p.2:=by simpa using h3
   exact⟨T.length - (j+1),(by show _<T.length - j;omega),j+1,⟨hlt,by rw[hys];simpa using h3'⟩,rfl,⟨rfl,rfl,rfl,wrap_two (by omega),trivial⟩,_,rfl,rfl⟩
 have hlt:i<L.length:=by have:=of_decide_eq_true h;rw[hsl] at this;omega
 obtain⟨y,hy⟩:∃y,L[i]?=some y:=⟨L[i],gL hlt⟩
 have hky:=hk y
 have hat':=sds_at hy
 have hys:=any_not_take hni hy
 refine⟨cN _,_,by rw[Int.toNat_natCast];exact hat',rfl,?_⟩
 conv=>whnf
 refine callP hky (wR _) rfl (cC (Cl.agg (sdc_cl y)) (cC (Cl.sl (itms_cl I)) (cC (Cl.sl (itms_cl V)) .nil))) (.i _ _) ?_
 conv=>whnf
 refine GIf.mk (fun h0=>?_) (fun h0=>?_)<;>conv=>whnf
 ·have h0':kindR I V y=0:=by simpa using h0
  refine owes_i ?_
  rw[any_yes hy (by rw[h0'];rfl)];rfl
 ·have h0':¬kindR I V y=0:=by simpa using h0
  exact⟨L.length - (i+1),(by show _<L.length - i;omega),i+1,⟨hlt,by rw[hys];simpa using h0'⟩,rfl,⟨rfl,rfl,rfl,wrap_succ (by omega),trivial⟩,_,rfl,rfl⟩
def chkR (I V:List Itm) (s:By):Int:=match readR s with
 |.ok t=>if knownB I&&knownB V then checkS I V t else 1
 |.err e=>e
theorem chkR_eq (I V:List Itm) (s:By):chkR I V s=chkS I V s:=by
 unfold chkR chkS
 have hr:=readR_eq s
 cases hx:readR s with
 |err e=>rw[hx] at hr;rw[hr]
 |ok t=>
  rw[hx] at hr;rw[hr]
  simp only
  rw[check_flat]
theorem r_Check [MaxL] (I V:List Itm) (hI:I.length<most) (hV:V.length<most) (s:By) (hs:s.length<1000000):SC Tryz.prog 129 [.s s,.sl .none (itms I),.sl .none (itms V)] [] (.val (.i .i64 (chkR I V s))) []:=by
 have hr:=r_Read s hs
 have hrc:=readRG_cl s
 unfold readRG at hr hrc
 unfold chkR
 have h1:=r_Known1 I hI
 have h2:=r_Known1 V hV
 cases hx:readR s with
 |err e=>
  rw[hx] at hr hrc
  replace hr:SC Tryz.prog 190 [.s s] [] (.val (.tup [nodeN,.i .i64 e])) []:=hr
  replace hrc:Cl (.tup [nodeN,.i .i64 e]):=hrc
  have he:=readR_err hx
  simp only
  rcases he with rfl|rfl|rfl
  all_goals
   refine gwS Tryz.func129 rfl ?_
   conv=>whnf
   refine callP hr (wR _) rfl (fun _=>rfl) hrc ?_
   conv=>whnf
   refine⟨_,⟨rfl,zL _,rfl,bL rfl⟩,?_⟩
   conv=>whnf
   exact owes_i rfl
 |ok t=>
  rw[hx] at hr hrc
  replace hr:SC Tryz.prog 190 [.s s] [] (.val (.tup [t.ng,.i .i64 0])) []:=hr
  replace hrc:Cl (.tup [t.ng,.i .i64 0]):=hrc
  have hz:=readR_size hx
  have h3:=r_right I V hI hV t (by omega)
  have hcl:=t.ng_cl
  obtain⟨k,kids,A,B,op,yes,hng⟩:=ng_form t
  rw[hng] at hr hrc h3 hcl
  simp only
  cases k1:knownB I with
  |false=>
   rw[k1] at h1
   refine gwS Tryz.func129 rfl ?_
   conv=>whnf
   refine callP hr (wR _) rfl (fun _=>rfl) hrc ?_
   conv=>whnf
   refine⟨_,⟨rfl,zL _,rfl,bL rfl⟩,?_⟩
   conv=>whnf
   refine callP h1 (wR _) rfl (cC (Cl.sl (itms_cl I)) .nil) (.b _) ?_
   conv=>whnf
   exact owes_i rfl
  |true=>
   rw[k1] at h1
   cases k2:knownB V with
   |false=>
    rw[k2] at h2
    refine gwS Tryz.func129 rfl ?_
    conv=>whnf
    refine callP hr (wR _) rfl (fun _=>rfl) hrc ?_
    conv=>whnf
    refine⟨_,⟨rfl,zL _,rfl,bL rfl⟩,?_⟩
    conv=>whnf
    refine callP h1 (wR _) rfl (cC (Cl.sl (itms_cl I)) .nil) (.b _) ?_
    conv=>whnf
    refine callP h2 (wR _) rfl (cC (Cl.sl (itms_cl V)) .nil) (.b _) ?_
    conv=>whnf
    exact owes_i rfl
   |true=>
    rw[k2] at h2
    refine gwS Tryz.func129 rfl ?_
    conv=>whnf
    refine callP hr (wR _) rfl (fun _=>rfl) hrc ?_
    conv=>whnf
    refine⟨_,⟨rfl,zL _,rfl,bL rfl⟩,?_⟩
    conv=>whnf
    refine callP h1 (wR _) rfl (cC (Cl.sl (itms_cl I)) .nil) (.b _) ?_
    conv=>whnf
    refine callP h2 (wR _) rfl (cC (Cl.sl (itms_cl V)) .nil) (.b _) ?_
    conv=>whnf
    refine callP h3 (wR _) rfl (cC hcl (cC (Cl.sl (itms_cl I)) (cC (Cl.sl (itms_cl V)) .nil))) (.i _ _) ?_
    conv=>whnf
    exact owes_i rfl
theorem r_Canonical [MaxL] (s:By) (hs:s.length<1000000):SC Tryz.prog 128 [.s s] [] (.val (.b (canonB s))) []:=by
 have h:=r_Show s hs
 rw[showR_eq] at h
 unfold canonB
 generalize showS s=q at h
 obtain⟨x,e⟩:=q
 refine gwS Tryz.func128 rfl ?_
 conv=>whnf
 refine cP h ?_
 conv=>whnf
 refine GIf.mk (fun h1=>?_) (fun h1=>?_)<;>conv=>whnf
 ·refine owes_b ?_
  have h2:e=0:=by simpa using h1
  rw[Bool.eq_iff_iff]
  simp[h2]
 ·refine owes_b ?_
  have h2:¬e=0:=by simpa using h1
  simp[h2]
theorem nb1 {n lo hi:Int} (h:decide (n<lo)=true):(!inB n lo hi)=true:=by unfold inB;rw[decide_eq_false (by have:=of_decide_eq_true h;omega)];rfl
theorem nb2 {n lo hi:Int} (h:decide (n>hi)=true):(!inB n lo hi)=true:=by unfold inB;rw[decide_eq_false (p:=n<=hi) (by have:=of_decide_eq_true h;omega),Bool.and_false];rfl
theorem nb3 {n lo hi:Int} (h1:decide (n<lo)=false) (h2:decide (n>hi)=false):(!inB n lo hi)=false:=by
 unfold inB
 rw[decide_eq_true (by have:=of_decide_eq_false h1;omega),decide_eq_true (by have:=of_decide_eq_false h2;omega)];rfl
theorem cont_any (l:List By) (n:By):l.contains n=l.any fun x=>x==n:=by
 have h:=contains_map (fun x:By=>x) l n
 rwa [List.map_id'] at h
theorem self_name {n:By}:(n==n)=true:=by simp
theorem r_area [MaxL] (s:Sch) (hl:s.ar.length<most) (i:Nat) (y:Ar) (hy:s.ar[i]?=some y):SC Tryz.prog 54 [schG s,.i .i64 (i:Nat)] [] (.val (.i .i64 (areaE ((areaN s).take i) y))) []:=by
 generalize hX:areaE ((areaN s).take i) y=xe
 unfold areaE nameE at hX
 rw[metA,<-atI_lt hy self_name] at hX
 have hn:=r_Name y.name
 refine gwS Tryz.func54 rfl ?_
 conv=>whnf
 refine ix (map_at hy) ⟨rfl,?_⟩
 conv=>whnf
 refine st ?_
 conv=>whnf
 refine cP hn ?_
 conv=>whnf
 refine GIf.mk (fun h=>?_) (fun h=>?_)<;>conv=>whnf
 ·exact owes_i ((stopE_yes (by rw[h];rfl)).symm.trans hX)
 rw[h] at hX
 refine GIf.mk (fun h=>?_) (fun h=>?_)<;>conv=>whnf
 ·exact owes_i ((stopE_yes h).symm.trans hX)
 replace hX:=(stopE_no h).symm.trans hX
 refine cP (r_AreaAt s hl y.name) ?_
 conv=>whnf
 refine GIf.mk (fun h=>?_) (fun h=>?_)<;>conv=>whnf
 ·exact owes_i ((stopE_yes h).symm.trans hX)
 replace hX:=(stopE_no h).symm.trans hX
 refine GIf.mk (fun h=>?_) (fun h=>?_)<;>conv=>whnf
 ·exact owes_i ((stopE_yes (nb1 h)).symm.trans hX)
 refine GIf.mk (fun h2=>?_) (fun h2=>?_)<;>conv=>whnf
 ·exact owes_i ((stopE_yes (nb2 h2)).symm.trans hX)
 exact owes_i ((stopE_no (nb3 h h2)).symm.trans hX)
set_option maxHeartbeats 8000000 in
theorem r_record [MaxL] (s:Sch) (hz:schOk s) (hc:∀r∈s.rc,r.check.length<1000000) (i:Nat) (y:Rc) (hy:s.rc[i]?=some y):SC Tryz.prog 55 [schG s,.i .i64 (i:Nat)] [] (.val (.i .i64 (recF s i y))) []:=by
 obtain⟨⟨ha,hl,ht⟩,hr,hst⟩:=hz
 obtain⟨y1,y2,y3⟩:=hr y (List.mem_of_getElem? hy)
 have y4:=hc y (List.mem_of_getElem? hy)
 generalize hX:recF s i y=xe
 unfold recF recE nameE at hX
 rw[metR,<-atI_lt hy self_name,<-atI_any,show(areaN s).contains y.area=s.ar.any fun a=>a.name==y.area from contains_map _ _ _,<-atI_none] at hX
 have hn:=r_Name y.name
 refine SC.of_gwp allM mixed Tryz.func55 rfl (bL rfl) (by first|exact rL _|simp) rfl ?_
 conv=>whnf
 refine ix (map_at hy) ⟨rfl,?_⟩
 conv=>whnf
 refine st ?_
 conv=>whnf
 refine cP hn ?_
 conv=>whnf
 refine GIf.mk (fun h=>?_) (fun h=>?_)<;>conv=>whnf
 ·exact owes_i ((stopE_yes (by rw[h];rfl)).symm.trans hX)
 rw[h] at hX
 refine GIf.mk (fun h=>?_) (fun h=>?_)<;>conv=>whnf
 ·exact owes_i ((stopE_yes h).symm.trans hX)
 replace hX:=(stopE_no h).symm.trans hX
 refine cP (r_AreaAt s ha y.name) ?_
 conv=>whnf
 refine GIf.mk (fun h=>?_) (fun h=>?_)<;>conv=>whnf
 ·exact owes_i ((stopE_yes (by rw[show decide (0<=atI (fun x:Ar=>x.name==y.name) s.ar)=true from h];rfl)).symm.trans hX)
 rw[show decide (0<=atI (fun x:Ar=>x.name==y.name) s.ar)=false from h] at hX
 refine cP (r_RecordAt s hl y.name) ?_
 conv=>whnf
 refine GIf.mk (fun h=>?_) (fun h=>?_)<;>conv=>whnf
 ·exact owes_i ((stopE_yes h).symm.trans hX)
 replace hX:=(stopE_no h).symm.trans hX
 refine cP (r_AreaAt s ha y.area) ?_
 conv=>whnf
 refine GIf.mk (fun h=>?_) (fun h=>?_)<;>conv=>whnf
 ·exact owes_i ((stopE_yes h).symm.trans hX)
 replace hX:=(stopE_no h).symm.trans hX
 refine cP (r_ValidItems1 y.its y1) ?_
 conv=>whnf
 refine GIf.mk (fun h=>?_) (fun h=>?_)<;>conv=>whnf
 ·exact owes_i ((stopE_yes (by rw[show(!knownI y.its)=true from h];rfl)).symm.trans hX)
 rw[show(!knownI y.its)=false from h] at hX
 refine GIf.mk (fun h=>?_) (fun h=>?_)<;>conv=>whnf
 ·exact owes_i ((stopE_yes (nb1 h)).symm.trans hX)
 refine GIf.mk (fun h2=>?_) (fun h2=>?_)<;>conv=>whnf
 ·exact owes_i ((stopE_yes (nb2 h2)).symm.trans hX)
 replace hX:=(stopE_no (nb3 h h2)).symm.trans hX
 have badK:∀{e:Int},keysE y=e->e≠0->e=xe:=fun he h0=>by rw[he,orE_no h0] at hX;exact hX
 unfold most at y2
 refine GIf.mk (fun hp=>?_) (fun hp=>?_)<;>conv=>whnf
 focus
  have hK:keysE y=stopE (!inB y.keys.length 1 4) 11 (firstE (keyE y) y.keys):=if_pos (by simpa using hp)
  refine GIf.mk (fun h=>?_) (fun h=>?_)<;>rw[strG_len] at h<;>conv=>whnf
  ·exact owes_i (badK (hK.trans (stopE_yes (nb1 h))) (by decide))
  refine GIf.mk (fun h2=>?_) (fun h2=>?_)<;>rw[strG_len] at h2<;>conv=>whnf
  ·exact owes_i (badK (hK.trans (stopE_yes (nb2 h2))) (by decide))
  replace hK:=hK.trans (stopE_no (nb3 h h2))
  refine GLoop.rng 2 y.keys.length (fun k _=>∀j n,j<k->y.keys[j]?=some n->keyE y j n=0) (fun k _=>[(2,.ptr 0 0),(5,.ptr 1 0),(6,.i .i64 (k:Nat))]) (fun k (_:Unit)=>[.box 26 (schC s),.box 35 (rcC y)]) [] () (fun j n h=>absurd h (Nat.not_lt_zero j)) (fun k _ φ1 hk hok2=>?_)
  conv=>whnf
  refine GIf.mk (fun h=>?_) (fun h=>?_)<;>conv=>whnf
  ·have hlt2:k<y.keys.length:=by have:=of_decide_eq_true h;rw[strG_len] at this;omega
   refine(ex_at hlt2).elim fun n hn2=>?_
   have badJ:∀{e:Int},keyE y k n=e->e≠0->e=xe:=fun he h0=>badK (hK.trans ((firstE_at hn2 (by rw[he];exact h0) hok2).trans he)) h0
   have hJ:keyE y k n=stopE (decide (atI (fun x:Itm=>x.name==n) y.its<0)) 5 (stopE (decide (atI (fun a:By=>a==n) y.keys<(k:Int))) 6 0):=by
    rw[atI_lt (p:=fun a:By=>a==n) hn2 self_name,atI_none,<-cont_any];rfl
   refine GDraw.calm (by kernel_rfl) ?_
   conv=>whnf
   refine ix (map_at hn2) ⟨rfl,?_⟩
   conv=>whnf
   refine cP (r_ItemAt y.its y1 n) ?_
   conv=>whnf
   refine GIf.mk (fun h=>?_) (fun h=>?_)<;>conv=>whnf
   ·exact owes_i (badJ (hJ.trans (stopE_yes h)) (by decide))
   replace hJ:=hJ.trans (stopE_no h)
   refine GDraw.calm (by kernel_rfl) ?_
   conv=>whnf
   refine ix (map_at hn2) ⟨rfl,?_⟩
   conv=>whnf
   refine cP (r_Index y.keys (by unfold most;omega) n) ?_
   conv=>whnf
   refine GIf.mk (fun h=>?_) (fun h=>?_)<;>conv=>whnf
   ·exact owes_i (badJ (hJ.trans (stopE_yes h)) (by decide))
   exact nx () hlt2 ⟨hlt2,ok_succ hn2 (hJ.trans (stopE_no h)) hok2⟩
  have hK0:keysE y=0:=hK.trans (firstE_no fun j z hz=>hok2 j z (by have:=of_decide_eq_false h;rw[strG_len] at this;have:=(List.getElem?_eq_some_iff.1 hz).1;omega) hz)
 rotate_left
 focus
  have hK:keysE y=stopE (!y.keys.isEmpty||y.dups) 1 0:=if_neg (by simpa using hp)
  refine GIf.mk (fun h3=>?_) (fun h3=>?_)<;>conv=>whnf
  ·exact owes_i (badK (hK.trans (stopE_yes (by have:((strG y.keys).length:Int)>0:=of_decide_eq_true h3;rw[strG_len] at this;cases hk:y.keys with|nil=>rw[hk] at this;exact absurd this (by decide)|cons a l=>rfl))) (by decide))
  have hke:y.keys.isEmpty=true:=by have:¬((strG y.keys).length:Int)>0:=of_decide_eq_false h3;rw[strG_len] at this;cases hk:y.keys with|nil=>rfl|cons a l=>rw[hk] at this;simp at this
  rw[hke] at hK
  refine GIf.mk (fun h4=>?_) (fun h4=>?_)<;>conv=>whnf
  ·exact owes_i (badK (hK.trans (stopE_yes h4)) (by decide))
  have hK0:keysE y=0:=hK.trans (stopE_no h4)
 all_goals
  rw[orE_ok hK0] at hX
  have badV:∀{e:Int},viaE s y=e->e≠0->e=xe:=fun he h0=>by rw[he,orE_no h0] at hX;exact hX
  refine GIf.mk (fun hv=>?_) (fun hv=>?_)<;>conv=>whnf
  focus
   have hV:viaE s y=stopE (match s.st.find? (·.name==y.via) with|none=>true|some t=>!(t.ms.any (·.of==y.name))) 5 0:=if_pos (by simpa using hv)
   have hset:=r_SetAt s ht y.via
   refine(at_cases (fun t:Sy=>t.name==y.via) s.st).elim (fun⟨h5,h6,_⟩=>?_) (fun⟨j,t,h5,h6,h7,_⟩=>?_)
   ·refine cP hset ?_
    conv=>whnf
    refine GDraw.calm (by kernel_rfl) ?_
    conv=>whnf
    refine gY (decide_eq_true h5) ?_
    conv=>whnf
    exact owes_i (badV (e:=5) (by rw[hV,h6];rfl) (by decide))
   rw[h5] at hset
   rw[h7] at hV
   refine cP hset ?_
   conv=>whnf
   refine GDraw.calm (by kernel_rfl) ?_
   conv=>whnf
   refine ix (map_at h6) ⟨rfl,?_⟩
   conv=>whnf
   refine cP (r_MemberAt t (hst t (List.mem_of_getElem? h6)).1 y.name) ?_
   conv=>whnf
   refine GIf.mk (fun h8=>?_) (fun h8=>?_)<;>conv=>whnf
   ·exact owes_i (badV (hV.trans (stopE_yes ((atI_none _ _).symm.trans h8))) (by decide))
   replace hV:=hV.trans (stopE_no ((atI_none _ _).symm.trans h8))
  rotate_left
  focus
   have hV:viaE s y=stopE (y.via !=[]) 1 0:=if_neg (by simpa using hv)
   refine GIf.mk (fun h4=>?_) (fun h4=>?_)<;>conv=>whnf
   ·exact owes_i (badV (hV.trans (stopE_yes h4)) (by decide))
   replace hV:=hV.trans (stopE_no h4)
  all_goals
   rw[orE_ok ‹viaE s y=0›] at hX
   refine GIf.mk (fun hc=>?_) (fun hc=>?_)<;>conv=>whnf
   rotate_left
   ·exact owes_i ((if_pos (by simpa using hc)).symm.trans hX)
   replace hX:=(if_neg (by simpa using hc)).symm.trans hX
   refine cP (r_Canonical y.check y4) ?_
   conv=>whnf
   refine GIf.mk (fun h=>?_) (fun h=>?_)<;>conv=>whnf
   ·exact owes_i ((stopE_yes h).symm.trans hX)
   replace hX:=(stopE_no h).symm.trans hX
   refine cP (r_Check y.its [] y1 (by decide) y.check y4) ?_ (wC (Wk.refl _) (wC (Wk.refl _) (wC (Wk.sl _ _) (wR _))))
   conv=>whnf
   exact owes_i (by rw[chkR_eq];exact hX)
theorem item_at {l:List Itm} {n:By} (h:l.any (·.name==n)=true):∃(x:Nat) (y:Itm),atI (fun a:Itm=>a.name==n) l=x/\l[x]?=some y/\kindOf l n=y.k:=by
 rcases at_cases (fun x:Itm=>x.name==n) l with⟨_,_,h3⟩|⟨i,y,h1,h2,h3,_⟩
 ·rw[h3] at h;cases h
 ·exact⟨i,y,h1,h2,by unfold kindOf;rw[h3]⟩
set_option maxHeartbeats 8000000 in
theorem r_member [MaxL] (s:Sch) (hz:schOk s) (t:Sy) (htl:t.ms.length<most) (k:Nat) (m:Mb) (hmk:t.ms[k]?=some m) (hml:m.sel.length<most) (ho:t.owner≠[]->(recN s).contains t.owner=true) (hg:∀r∈s.rc,Good knownI r):
  SC Tryz.prog 130 [schG s,syG t,.i .i64 (k:Nat)] [] (.val (.i .i64 (membE s t k m))) []:=by
 obtain⟨⟨ha,hl,ht⟩,hr,hst⟩:=hz
 unfold most at hml
 generalize hX:membE s t k m=xe
 unfold membE at hX
 rw[contains_map,<-atI_lt hmk self_name] at hX
 have hrr:=r_RecordAt s hl m.of
 refine SC.of_gwp allM mixed Tryz.func130 rfl (bL rfl) (by first|exact rL _|simp) rfl ?_
 conv=>whnf
 refine ix (map_at hmk) ⟨rfl,?_⟩
 conv=>whnf
 refine st ?_
 conv=>whnf
 cases hc:(recN s).contains m.of with
 |false=>
  have hno:atI (fun r:Rc=>r.name==m.of) s.rc<0:=by
   rcases at_cases (fun r:Rc=>r.name==m.of) s.rc with⟨h,_⟩|⟨_,_,_,_,_,h⟩
   ·exact h
   ·rw[show(recN s).contains m.of=s.rc.any fun r=>r.name==m.of from contains_map _ _ _,h] at hc;cases hc
  rw[hc] at hX
  refine cP hrr ?_
  conv=>whnf
  refine gY (decide_eq_true hno) ?_
  conv=>whnf
  exact owes_i hX
 |true=>
 rw[hc] at hX
 replace hX:=(stopE_no (w:=!true) rfl).symm.trans hX
 obtain⟨ir,hr1,hr2⟩:=rec_at hc
 obtain⟨r1,r2,_⟩:=hr _ (List.mem_of_getElem? hr2)
 rw[hr1] at hrr
 refine cP hrr ?_
 conv=>whnf
 refine cP (r_MemberAt t htl m.of) ?_
 conv=>whnf
 refine GIf.mk (fun h=>?_) (fun h=>?_)<;>conv=>whnf
 ·exact owes_i ((stopE_yes h).symm.trans hX)
 replace hX:=(stopE_no h).symm.trans hX
 refine GIf.mk (fun h=>?_) (fun h=>?_)<;>conv=>whnf
 ·exact owes_i ((stopE_yes (nb1 h)).symm.trans hX)
 refine GIf.mk (fun h2=>?_) (fun h2=>?_)<;>conv=>whnf
 ·exact owes_i ((stopE_yes (nb2 h2)).symm.trans hX)
 replace hX:=(stopE_no (nb3 h h2)).symm.trans hX
 clear h h2
 refine GIf.mk (fun h=>?_) (fun h=>?_)<;>conv=>whnf
 ·exact owes_i ((if_pos (by simpa[strG] using h)).symm.trans hX)
 replace hX:=(if_neg (by simpa[strG] using h)).symm.trans hX
 refine GIf.mk (fun h=>?_) (fun h=>?_)<;>conv=>whnf
 ·exact owes_i ((stopE_yes h).symm.trans hX)
 replace hX:=(stopE_no h).symm.trans hX
 obtain⟨io,ho1,ho2⟩:=rec_at (ho (by simpa using h))
 have hgo:=hg _ (List.mem_of_getElem? ho2)
 obtain⟨o1,o2,_⟩:=hr _ (List.mem_of_getElem? ho2)
 have hro:=r_RecordAt s hl t.owner
 rw[ho1] at hro
 generalize recOf s t.owner=o at*
 generalize recOf s m.of=r at*
 refine GDraw.wildT [none,some 0,some 0,none,some 1,none,none,none,some 3,some 3] rfl rfl (by kernel_rfl) ?_
 conv=>whnf
 refine cP hro ?_
 conv=>whnf
 refine ix (map_at ho2) ⟨rfl,?_⟩
 conv=>whnf
 refine st ?_
 conv=>whnf
 refine GIf.mk (fun h=>?_) (fun h=>?_)<;>conv=>whnf
 ·exact owes_i ((stopE_yes (by rw[show(o.place !=2)=true from h];rfl)).symm.trans hX)
 have hp:(o.place !=2)=false:=h
 rw[hp] at hX
 refine GIf.mk (fun h=>?_) (fun h=>?_)<;>conv=>whnf
 ·exact owes_i ((stopE_yes h).symm.trans hX)
 replace hX:=(stopE_no h).symm.trans hX
 refine GIf.mk (fun h=>?_) (fun h=>?_)<;>conv=>whnf
 ·have h8:¬(m.sel.length:Int)=o.keys.length:=by simpa[strG] using h
  exact owes_i ((stopE_yes (by simp;omega)).symm.trans hX)
 have hlk:m.sel.length=o.keys.length:=by
  have h8:(m.sel.length:Int)=o.keys.length:=by simpa[strG] using h
  omega
 replace hX:=(stopE_no (by rw[hlk];simp)).symm.trans hX
 refine GLoop.rng 4 m.sel.length (fun j _=>∀a n,a<j->m.sel[a]?=some n->pickE o r a n=0) (fun j _=>[(3,.ptr 0 0),(4,.ptr 1 0),(7,.ptr 2 0),(8,.i .i64 (ir:Nat)),(9,.ptr 3 0),(10,.i .i64 (j:Nat))])
  (fun j (_:Unit)=>[.box 26 (schC s),.box 39 (syC t),.box 46 (mbC m),.box 35 (rcC o)]) [] () (fun j n h=>absurd h (Nat.not_lt_zero j)) (fun j _ φ1 hj hok=>?_)
 conv=>whnf
 refine GIf.mk (fun h=>?_) (fun h=>?_)<;>conv=>whnf
 rotate_left
 ·exact owes_i ((firstE_no fun a z hz=>hok a z (by have:=of_decide_eq_false h;rw[strG_len] at this;have:=(List.getElem?_eq_some_iff.1 hz).1;omega) hz).symm.trans hX)
 have hlt:j<m.sel.length:=by have:=of_decide_eq_true h;rw[strG_len] at this;omega
 refine(ex_at hlt).elim fun n hn=>?_
 refine(ex_at (show j<o.keys.length by omega)).elim fun n' hn'=>?_
 have bad:∀{e:Int},pickE o r j n=e->e≠0->e=xe:=fun he h0=>he.symm.trans ((firstE_at hn (by rw[he];exact h0) hok).symm.trans hX)
 have hk':(o.keys[j]?).getD []=n':=by rw[hn'];rfl
 have hra:=r_ItemAt r.its r1 n
 refine GDraw.calm (by kernel_rfl) ?_
 conv=>whnf
 refine ix (map_at hr2) ⟨rfl,?_⟩
 conv=>whnf
 refine ix (map_at hn) ⟨rfl,?_⟩
 conv=>whnf
 refine(Bool.eq_false_or_eq_true (r.its.any (·.name==n))).elim (fun hc=>?_) (fun hc=>?_)
 rotate_left
 ·refine cP hra ?_
  conv=>whnf
  refine gY (by rw[show decide (atI (fun a:Itm=>a.name==n) r.its<0)=!r.its.any fun a=>a.name==n from atI_none _ _,hc];rfl) ?_
  conv=>whnf
  exact owes_i (bad (stopE_yes (by rw[hc];rfl)) (by decide))
 refine(item_at hc).elim fun x hx=>hx.elim fun z hz=>?_
 rw[hz.1] at hra
 refine(item_at (hgo.2 (by simpa using hp) n' (List.mem_of_getElem? hn'))).elim fun x' hx'=>hx'.elim fun z' hz'=>?_
 have hoa:=r_ItemAt o.its o1 n'
 rw[hz'.1] at hoa
 refine cP hra ?_
 conv=>whnf
 refine GDraw.calm (by kernel_rfl) ?_
 conv=>whnf
 refine ix (map_at hr2) ⟨rfl,?_⟩
 conv=>whnf
 refine ix (map_at hz.2.1) ⟨rfl,?_⟩
 conv=>whnf
 refine ix (map_at hn') ⟨rfl,?_⟩
 conv=>whnf
 refine cP hoa ?_
 conv=>whnf
 refine ix (map_at hz'.2.1) ⟨rfl,?_⟩
 conv=>whnf
 have hJ:pickE o r j n=stopE (kindOf r.its n !=kindOf o.its n') 10 0:=by rw[<-hk'];exact stopE_no (by rw[hc];rfl)
 rw[hz.2.2,hz'.2.2] at hJ
 refine GIf.mk (fun h5=>?_) (fun h5=>?_)<;>conv=>whnf
 ·exact owes_i (bad (hJ.trans (stopE_yes h5)) (by decide))
 exact nx () hlt ⟨hlt,ok_succ hn (hJ.trans (stopE_no h5)) hok⟩
def rsrT:List (Option Nat):=[none,some 0,some 0,none,some 1,none,none,none,none,none,none,none,some 2,some 2]
abbrev rsrH (s:Sch) (t:Sy):List GObj:=[.box 26 (schC s),.box 39 (syC t)]
set_option maxHeartbeats 8000000 in
theorem r_sorted [MaxL] (s:Sch) (hz:schOk s) (t:Sy) (htl:t.ms.length<most) (hkl:t.keys.length<most) (hm:∀m∈t.ms,(recN s).contains m.of=true) (hg:∀r∈s.rc,Good knownI r):
  SC Tryz.prog 131 [schG s,syG t] [] (.val (.i .i64 (sortE s t))) []:=by
 obtain⟨⟨ha,hl,ht⟩,hr,hst⟩:=hz
 unfold most at htl hkl
 generalize hX:sortE s t=xe
 refine SC.of_gwp allM mixed Tryz.func131 rfl (bL rfl) (by first|exact rL _|simp) rfl ?_
 conv=>whnf
 refine GIf.mk (fun h=>?_) (fun h=>?_)<;>rw[kys_len] at h<;>conv=>whnf
 ·exact owes_i ((stopE_yes (nb1 h)).symm.trans hX)
 refine GIf.mk (fun h2=>?_) (fun h2=>?_)<;>rw[kys_len] at h2<;>conv=>whnf
 ·exact owes_i ((stopE_yes (nb2 h2)).symm.trans hX)
 replace hX:=(stopE_no (nb3 h h2)).symm.trans hX
 have badK:∀{e:Int},firstE (sortKeyE s t) t.keys=e->e≠0->e=xe:=fun he h0=>(by rw[he,orE_no h0] at hX;exact hX)
 refine GLoop.rng 2 t.keys.length (fun k _=>∀j y,j<k->t.keys[j]?=some y->sortKeyE s t j y=0) (fun k _=>[(2,.ptr 0 0),(3,.ptr 1 0),(5,.i .i64 (k:Nat))]) (fun k (_:Unit)=>rsrH s t) [] () (fun j n h=>absurd h (Nat.not_lt_zero j)) (fun k _ φ1 hk hok=>?_)
 conv=>whnf
 refine GIf.mk (fun h=>?_) (fun h=>?_)<;>conv=>whnf
 rotate_left
 ·have h0:firstE (sortKeyE s t) t.keys=0:=firstE_no fun j z hz=>hok j z (by have:=of_decide_eq_false h;rw[kys_len] at this;have:=(List.getElem?_eq_some_iff.1 hz).1;omega) hz
  rw[orE_ok h0] at hX
  refine GIf.mk (fun h=>?_) (fun h=>?_)<;>conv=>whnf
  ·exact owes_i ((stopE_yes (nb1 h)).symm.trans hX)
  refine GIf.mk (fun h2=>?_) (fun h2=>?_)<;>conv=>whnf
  ·exact owes_i ((stopE_yes (nb2 h2)).symm.trans hX)
  exact owes_i ((stopE_no (nb3 h h2)).symm.trans hX)
 have hlt:k<t.keys.length:=by have:=of_decide_eq_true h;rw[kys_len] at this;omega
 refine(ex_at hlt).elim fun y hy=>?_
 have bad:∀{e:Int},sortKeyE s t k y=e->e≠0->e=xe:=fun he h0=>badK ((firstE_at hy (by rw[he];exact h0) hok).trans he) h0
 refine GLoop.rng 2 t.ms.length (fun j _=>∀m∈t.ms.take j,(recOf s m.of).its.any (·.name==y.item)=true) (fun j _=>[(2,.ptr 0 0),(3,.ptr 1 0),(5,.i .i64 (k:Nat)),(6,.i .i64 0),(7,.i .i64 (j:Nat))])
  (fun j (_:Unit)=>rsrH s t) [] () (fun m h=>by simp at h) (fun j _ φ2 hj hall=>?_)
 conv=>whnf
 refine GIf.mk (fun h=>?_) (fun h=>?_)<;>conv=>whnf
 ·have hlt2:j<t.ms.length:=by have:=of_decide_eq_true h;rw[mbs_len] at this;omega
  refine(ex_at hlt2).elim fun m hm2=>?_
  refine(rec_at (hm m (List.mem_of_getElem? hm2))).elim fun ir hir=>?_
  have hrr:=r_RecordAt s hl m.of
  rw[hir.1] at hrr
  refine GDraw.wildT rsrT rfl rfl (by kernel_rfl) ?_
  conv=>whnf
  refine ix (map_at hm2) ⟨rfl,?_⟩
  conv=>whnf
  refine cP hrr ?_
  conv=>whnf
  refine ix (map_at hir.2) ⟨rfl,?_⟩
  conv=>whnf
  refine st ?_
  conv=>whnf
  refine GDraw.calm (by kernel_rfl) ?_
  conv=>whnf
  refine ix (map_at hy) ⟨rfl,?_⟩
  conv=>whnf
  refine cP (r_ItemAt _ (hr _ (List.mem_of_getElem? hir.2)).1 y.item) ?_
  conv=>whnf
  refine GIf.mk (fun h4=>?_) (fun h4=>?_)<;>rw[atI_none] at h4<;>conv=>whnf
  ·exact owes_i (bad (stopE_yes (by rw[all_false hm2 (notT h4)];rfl)) (by decide))
  exact nx () hlt2 ⟨hlt2,tk_all hm2 (by simpa using h4) hall⟩
 have hall':=all_true (p:=fun m:Mb=>(recOf s m.of).its.any (·.name==y.item)) (by have:=of_decide_eq_false h;rw[mbs_len] at this;omega) hall
 have hp1:sortKeyE s t k y=stopE (!(t.ms.all fun m=>kindOf (recOf s m.of).its y.item==kindOf (recOf s ((t.ms.head?.map (·.of)).getD [])).its y.item)) 10 (stopE (((t.keys.take k).map (·.item)).contains y.item) 6 0):=stopE_no (by rw[hall'];rfl)
 have hd:∀m,t.ms[0]?=some m->kindOf (recOf s m.of).its y.item=kindOf (recOf s ((t.ms.head?.map (·.of)).getD [])).its y.item:=fun m hm9=>by
  cases hms:t.ms with
  |nil=>rw[hms] at hm9;cases hm9
  |cons x l=>rw[hms] at hm9;cases hm9;rfl
 generalize kindOf (recOf s ((t.ms.head?.map (·.of)).getD [])).its y.item=F at*
 refine GLoop.rng 2 t.ms.length (fun j (b:Int)=>(∀m∈t.ms.take j,(kindOf (recOf s m.of).its y.item==F)=true)/\b=if j=0 then 0 else F) (fun j (b:Int)=>[(2,.ptr 0 0),(3,.ptr 1 0),(5,.i .i64 (k:Nat)),(6,.i .i64 b),(9,.i .i64 (j:Nat))])
  (fun j _=>rsrH s t) [] 0 ⟨fun m h=>by simp at h,rfl⟩ (fun j b φ2 hj hb=>?_)
 refine hb.elim fun hall2 hb=>?_
 conv=>whnf
 refine GIf.mk (fun h=>?_) (fun h=>?_)<;>conv=>whnf
 ·have hlt2:j<t.ms.length:=by have:=of_decide_eq_true h;rw[mbs_len] at this;omega
  refine(ex_at hlt2).elim fun m hm2=>?_
  refine(rec_at (hm m (List.mem_of_getElem? hm2))).elim fun ir hir=>?_
  have hrr:=r_RecordAt s hl m.of
  rw[hir.1] at hrr
  have hia:=List.all_eq_true.1 hall' m (List.mem_of_getElem? hm2)
  refine(item_at hia).elim fun x hx=>hx.elim fun z hz=>?_
  have hra:=r_ItemAt _ (hr _ (List.mem_of_getElem? hir.2)).1 y.item
  rw[hz.1] at hra
  refine GDraw.wildT rsrT rfl rfl (by kernel_rfl) ?_
  conv=>whnf
  refine ix (map_at hm2) ⟨rfl,?_⟩
  conv=>whnf
  refine cP hrr ?_
  conv=>whnf
  refine ix (map_at hir.2) ⟨rfl,?_⟩
  conv=>whnf
  refine st ?_
  conv=>whnf
  refine GDraw.calm (by kernel_rfl) ?_
  conv=>whnf
  refine ix (map_at hy) ⟨rfl,?_⟩
  conv=>whnf
  refine cP hra ?_
  conv=>whnf
  refine ix (map_at hz.2.1) ⟨rfl,?_⟩
  conv=>whnf
  refine GIf.mk (fun h4=>?_) (fun h4=>?_)<;>conv=>whnf
  ·have hj0:j=0:=by simpa using h4
   have h6:(kindOf (recOf s m.of).its y.item==F)=true:=by rw[hd m (by rw[<-hj0];exact hm2)];simp
   refine gN (show(z.k !=z.k)=false by simp) ?_
   conv=>whnf
   exact nx z.k hlt2 ⟨hlt2,tk_all hm2 h6 hall2,by rw[if_neg (Nat.succ_ne_zero _),<-hz.2.2];exact eq_of_beq h6⟩
  ·have hj0:j≠0:=by simpa using h4
   rw[if_neg hj0] at hb
   refine GIf.mk (fun h5=>?_) (fun h5=>?_)<;>conv=>whnf
   ·exact owes_i (bad (hp1.trans (stopE_yes (by rw[all_false hm2 (by rw[hz.2.2,<-hb];simpa using h5)];rfl))) (by decide))
   have h6:(kindOf (recOf s m.of).its y.item==F)=true:=by rw[hz.2.2,<-hb];simpa using h5
   exact nx b hlt2 ⟨hlt2,tk_all hm2 h6 hall2,by rw[if_neg (Nat.succ_ne_zero _)];exact hb⟩
 have hp2:=hp1.trans (stopE_no (by rw[all_true (by have:=of_decide_eq_false h;rw[mbs_len] at this;omega) hall2];rfl))
 rw[contains_map] at hp2
 refine GLoop.rng 2 k (fun j _=>∀z∈t.keys.take j,(z.item==y.item)=false) (fun j _=>[(2,.ptr 0 0),(3,.ptr 1 0),(5,.i .i64 (k:Nat)),(12,.i .i64 (j:Nat))])
  (fun j (_:Unit)=>rsrH s t) [] () (fun m h=>by simp at h) (fun j _ φ2 hj hno=>?_)
 conv=>whnf
 refine GIf.mk (fun h=>?_) (fun h=>?_)<;>conv=>whnf
 ·have hlt2:j<k:=by have:=of_decide_eq_true h;omega
  refine(ex_at (show j<t.keys.length by omega)).elim fun z hz=>?_
  refine GDraw.calm (by kernel_rfl) ?_
  conv=>whnf
  refine ix (map_at hz) ⟨rfl,?_⟩
  conv=>whnf
  refine ix (map_at hy) ⟨rfl,?_⟩
  conv=>whnf
  refine GIf.mk (fun h4=>?_) (fun h4=>?_)<;>conv=>whnf
  ·exact owes_i (bad (hp2.trans (stopE_yes (List.any_eq_true.2 ⟨z,List.mem_take_iff_getElem.2 ⟨j,by have:=(List.getElem?_eq_some_iff.1 hz).1;omega,(List.getElem?_eq_some_iff.1 hz).2⟩,h4⟩))) (by decide))
  exact nx () hlt2 ⟨hlt2,tk_no (p:=fun z:Ky=>z.item==y.item) hz h4 hno⟩
 have hjk:j=k:=by have:=of_decide_eq_false h;omega
 subst hjk
 exact nx () hlt ⟨hlt,ok_succ hy (hp2.trans (stopE_no (List.any_eq_false.2 fun z hz=>by rw[hno z hz];decide))) hok⟩
end Go.Proofs.YtcfgfkkhpdlhpaaGreatDoor
