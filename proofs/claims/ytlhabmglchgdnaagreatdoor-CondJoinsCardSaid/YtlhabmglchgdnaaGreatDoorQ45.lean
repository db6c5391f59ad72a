/-
  CondJoins: And, Or and Not of every two texts are those of the reference, and are true of a row as they say; part 45 of 48. Conditions: none beyond the given statement.
-/
import Derived.Test.YtlhabmglchgdnaaGreatDoorQ44
set_option linter.all false
namespace Go.Proofs.YtlhabmglchgdnaaGreatDoor
open Go.RowKit
set_option maxRecDepth 100000
set_option linter.unusedVariables false
theorem r_kind (I V:List Itm) (hI:I.length<most) (hV:V.length<most) (t:Term):SC Tryz.prog 81 [.agg (sdc t),.sl .none (itms I),.sl .none (itms V)] [] (.val (.i .i64 (kindR I V t))) []:=by
 obtain⟨nm,vr,v⟩:=t
 have hI':=r_at I hI nm
 have hV':=r_at V hV nm
 unfold kindR
 by_cases hn:nm=[]
 ·subst hn
  rw[if_pos rfl]
  cases vr with
  |true=>
   refine SC.of_gwp noM mixed Tryz.func81 rfl (Nat.le_of_ble_eq_true rfl) (by first|exact Nat.le_refl _|simp) rfl ?_
   conv=>whnf
   exact owes_i rfl
  |false=>
   refine SC.of_gwp noM mixed Tryz.func81 rfl (Nat.le_of_ble_eq_true rfl) (by first|exact Nat.le_refl _|simp) rfl ?_
   conv=>whnf
   exact owes_i rfl
 ·rw[if_neg hn]
  cases vr with
  |true=>
   rcases idx_kind V nm with⟨h1,h2⟩|⟨j,y,h1,h2,h3⟩
   ·rw[h1] at hV'
    simp only[if_true,h2]
    refine SC.of_gwp noM mixed Tryz.func81 rfl (Nat.le_of_ble_eq_true rfl) (by first|exact Nat.le_refl _|simp) rfl ?_
    conv=>whnf
    refine GIf.mk (fun hz=>?_) (fun hz=>?_)<;>conv=>whnf
    rotate_left
    ·exact absurd (by simpa using hz) hn
    refine callP hV' (Wks.refl _) rfl (ClL.cons (Cl.sl (itms_cl V)) (ClL.cons (.s _) .nil)) (.i _ _) ?_
    conv=>whnf
    exact owes_i rfl
   ·rw[h1] at hV'
    simp only[if_true,h3]
    refine SC.of_gwp noM mixed Tryz.func81 rfl (Nat.le_of_ble_eq_true rfl) (by first|exact Nat.le_refl _|simp) rfl ?_
    conv=>whnf
    refine GIf.mk (fun hz=>?_) (fun hz=>?_)<;>conv=>whnf
    rotate_left
    ·exact absurd (by simpa using hz) hn
    refine callP hV' (Wks.refl _) rfl (ClL.cons (Cl.sl (itms_cl V)) (ClL.cons (.s _) .nil)) (.i _ _) ?_
    conv=>whnf
    refine⟨Int.natCast_nonneg _,_,by rw[Int.toNat_natCast];exact itms_at h2,rfl,?_⟩
    conv=>whnf
    exact owes_i rfl
  |false=>
   rcases idx_kind I nm with⟨h1,h2⟩|⟨j,y,h1,h2,h3⟩
   ·rw[h1] at hI'
    simp only[Bool.false_eq_true,if_false,h2]
    refine SC.of_gwp noM mixed Tryz.func81 rfl (Nat.le_of_ble_eq_true rfl) (by first|exact Nat.le_refl _|simp) rfl ?_
    conv=>whnf
    refine GIf.mk (fun hz=>?_) (fun hz=>?_)<;>conv=>whnf
    rotate_left
    ·exact absurd (by simpa using hz) hn
    refine callP hI' (Wks.refl _) rfl (ClL.cons (Cl.sl (itms_cl I)) (ClL.cons (.s _) .nil)) (.i _ _) ?_
    conv=>whnf
    exact owes_i rfl
   ·rw[h1] at hI'
    simp only[Bool.false_eq_true,if_false,h3]
    refine SC.of_gwp noM mixed Tryz.func81 rfl (Nat.le_of_ble_eq_true rfl) (by first|exact Nat.le_refl _|simp) rfl ?_
    conv=>whnf
    refine GIf.mk (fun hz=>?_) (fun hz=>?_)<;>conv=>whnf
    rotate_left
    ·exact absurd (by simpa using hz) hn
    refine callP hI' (Wks.refl _) rfl (ClL.cons (Cl.sl (itms_cl I)) (ClL.cons (.s _) .nil)) (.i _ _) ?_
    conv=>whnf
    refine⟨Int.natCast_nonneg _,_,by rw[Int.toNat_natCast];exact itms_at h2,rfl,?_⟩
    conv=>whnf
    exact owes_i rfl
theorem wrap_two {j:Nat} (h:j<100000):GV.i .i64 (IntKind.i64.wrap (((2*j:Nat):Int)+2))=.i .i64 ((2*(j+1):Nat):Int):=by
 rw[wrap_in (by omega) (by omega)]
 congr 1
theorem sds_at {L:List Term} {i:Nat} {y:Term} (h:L[i]?=some y):(sds L)[i]?=some (.agg (sdc y)):=by
 unfold sds;rw[List.getElem?_map,h];rfl
theorem leaves_len2 (t:Tree):(leaves t).length=2*(tsts t).length:=by
 rw[leaves_tsts]
 induction tsts t with
 |nil=>rfl
 |cons p l ih=>simp only[List.flatMap_cons,List.length_append,List.length_cons,List.length_nil];omega
theorem flat2_at:∀(l:List (Term×Term)) (j:Nat) (p:Term×Term),l[j]?=some p->(l.flatMap fun p=>[p.1,p.2])[2*j]?=some p.1/\(l.flatMap fun p=>[p.1,p.2])[2*j+1]?=some p.2
 |[],j,p,h=>by simp at h
 |q::l,0,p,h=>by
  simp at h;subst h;simp
 |q::l,j+1,p,h=>by
  have:=flat2_at l j p (by simpa using h)
  rw[show 2*(j+1)=2*j+1+1 by omega]
  simpa using this
theorem leaves_at {t:Tree} {j:Nat} {p:Term×Term} (h:(tsts t)[j]?=some p):(leaves t)[2*j]?=some p.1/\(leaves t)[2*j+1]?=some p.2:=by
 rw[leaves_tsts];exact flat2_at _ _ _ h
theorem any_not_take {α:Type} {f:α->Bool} {l:List α} {i:Nat} {y:α} (h:(l.take i).any f=false) (hy:l[i]?=some y):(l.take (i+1)).any f=f y:=by
 rw[List.take_add_one,hy,List.any_append,h];simp
theorem any_yes {α:Type} {f:α->Bool} {l:List α} {i:Nat} {y:α} (hy:l[i]?=some y) (h:f y=true):l.any f=true:=List.any_eq_true.2 ⟨y,List.mem_of_getElem? hy,h⟩
theorem r_right (I V:List Itm) (hI:I.length<most) (hV:V.length<most) (t:Tree) (hz:t.size<=5000):SC Tryz.prog 55 [t.ng,.sl .none (itms I),.sl .none (itms V)] [] (.val (.i .i64 (checkS I V t))) []:=by
 have hsd:=r_sides 5000 t hz hz
 have hll:=leaves_size t
 have hl2:=leaves_len2 t
 have hat:=fun j p=>@leaves_at t j p
 have hk:=r_kind I V hI hV
 have hcl:=t.ng_cl
 obtain⟨k,kids,A,B,op,yes,hng⟩:=ng_form t
 rw[hng] at hsd hcl⊢
 have hncl:ClL (ndc k kids A B op yes):=by
  have h9:t.ncs=ndc k kids A B op yes:=by
   have h8:GV.agg t.ncs=GV.agg (ndc k kids A B op yes):=hng
   injection h8
  rw[<-h9];exact t.ncs_cl
 unfold checkS
 generalize leaves t=L at*
 generalize tsts t=T at*
 have hsl:=sds_len L
 refine SC.of_gwp noM mixed Tryz.func55 rfl (Nat.le_of_ble_eq_true rfl) (by first|exact Nat.le_refl _|simp) rfl ?_
 conv=>whnf
 refine callP hsd (Wks.refl _) rfl (ClL.cons hcl .nil) (Cl.sl (sds_cl _)) ?_
 conv=>whnf
 have hLm:L.length<=10000:=by omega
 refine GLoop.introS (fun i:Nat=>i<=L.length/\(L.take i).any (fun x=>kindR I V x==0)=false) (fun i=>[(1,.sl .none (itms I)),(2,.sl .none (itms V)),(7,.sl .none (sds L)),(8,.i .i64 (i:Nat))])
  (fun _=>⟨[.box 69 (ndc k kids A B op yes)],0,[]⟩) (fun i=>L.length - i) 0 ⟨Nat.zero_le _,rfl⟩ ⟨rfl,rfl,rfl,rfl,trivial⟩ rfl (fun _ _=>Nat.le_refl _) (fun _ _=>rfl) (fun i _ e he=>?_) (fun i φ0 hi=>?_)
 ·refine⟨?_,rfl,?_⟩
  ·show[(GObj.box _ (ndc k kids A B op yes)).ren e]=_
   rw[GObj.box_cl hncl]
  ·show[(GV.sl .none (itms I)).ren e,(GV.sl .none (itms V)).ren e,(GV.sl .none (sds L)).ren e,_]=_
   rw[Cl.sl (itms_cl I) e,Cl.sl (itms_cl V) e,Cl.sl (sds_cl L) e];rfl
 obtain⟨hi,hni⟩:=hi
 conv=>whnf
 refine GIf.mk (fun h=>?_) (fun h=>?_)<;>conv=>whnf
 rotate_left
 ·have hie:i=L.length:=by have:=of_decide_eq_false h;rw[hsl] at this;omega
  have hn0:L.any (fun x=>kindR I V x==0)=false:=by rw[hie,List.take_length] at hni;exact hni
  rw[hn0]
  simp only[Bool.false_eq_true,if_false]
  conv=>whnf
  refine GLoop.introS (fun j:Nat=>j<=T.length/\(T.take j).any (fun p=>kindR I V p.1 !=kindR I V p.2)=false) (fun j=>[(1,.sl .none (itms I)),(2,.sl .none (itms V)),(7,.sl .none (sds L)),(9,.i .i64 ((2*j:Nat):Int))])
   (fun _=>⟨[.box 69 (ndc k kids A B op yes)],0,[]⟩) (fun i=>T.length - i) 0 ⟨Nat.zero_le _,rfl⟩ ⟨rfl,rfl,rfl,rfl,trivial⟩ rfl (fun _ _=>Nat.le_refl _) (fun _ _=>rfl) (fun i _ e he=>?_) (fun j φ0 hj=>?_)
  ·refine⟨?_,rfl,?_⟩
   ·show[(GObj.box _ (ndc k kids A B op yes)).ren e]=_
    rw[GObj.box_cl hncl]
   ·show[(GV.sl .none (itms I)).ren e,(GV.sl .none (itms V)).ren e,(GV.sl .none (sds L)).ren e,_]=_
    rw[Cl.sl (itms_cl I) e,Cl.sl (itms_cl V) e,Cl.sl (sds_cl L) e];rfl
  obtain⟨hj,hnj⟩:=hj
  conv=>whnf
  refine GIf.mk (fun h2=>?_) (fun h2=>?_)<;>conv=>whnf
  rotate_left
  ·have hje:j=T.length:=by have:=of_decide_eq_false h2;rw[hsl] at this;omega
   refine owes_i ?_
   rw[hje,List.take_length] at hnj
   rw[hnj];rfl
  have hlt:j<T.length:=by have:=of_decide_eq_true h2;rw[hsl] at this;omega
  obtain⟨p,hp⟩:∃y,T[j]?=some y:=⟨T[j],List.getElem?_eq_getElem hlt⟩
  obtain⟨hp1,hp2⟩:=hat j p hp
  have hys:=any_not_take hnj hp
  have hk1:=hk p.1
  have hk2:=hk p.2
  refine GDraw.calm (by kernel_rfl) ?_
  conv=>whnf
  refine⟨Int.natCast_nonneg _,_,by rw[Int.toNat_natCast];exact sds_at hp1,rfl,?_⟩
  conv=>whnf
  refine callP hk1 (Wks.refl _) rfl (ClL.cons (Cl.agg (sdc_cl p.1)) (ClL.cons (Cl.sl (itms_cl I)) (ClL.cons (Cl.sl (itms_cl V)) .nil))) (.i _ _) ?_
  conv=>whnf
  have hw1:IntKind.i64.wrap (((2*j:Nat):Int)+1)=((2*j+1:Nat):Int):=wrap_in (by omega) (by omega)
  refine⟨by rw[hw1];exact Int.natCast_nonneg _,.agg (sdc p.2),by rw[hw1,Int.toNat_natCast];exact sds_at hp2,rfl,?_⟩
  conv=>whnf
  refine callP hk2 (Wks.refl _) rfl (ClL.cons (Cl.agg (sdc_cl p.2)) (ClL.cons (Cl.sl (itms_cl I)) (ClL.cons (Cl.sl (itms_cl V)) .nil))) (.i _ _) ?_
  conv=>whnf
  refine GIf.mk (fun h3=>?_) (fun h3=>?_)<;>conv=>whnf
  ·have h3':¬kindR I V p.1=kindR I V p.2:=by simpa using h3
   refine owes_i ?_
   rw[any_yes (f:=fun p=>kindR I V p.1 !=kindR I V p.2) hp (by simpa using h3')];rfl
  ·have h3':kindR I V p.1=kindR I V p.2:=by simpa using h3
   exact⟨T.length - (j+1),(by show _<T.length - j;omega),j+1,⟨hlt,by rw[hys];simpa using h3'⟩,rfl,⟨rfl,rfl,rfl,wrap_two (by omega),trivial⟩,_,rfl,rfl⟩
 have hlt:i<L.length:=by have:=of_decide_eq_true h;rw[hsl] at this;omega
 obtain⟨y,hy⟩:∃y,L[i]?=some y:=⟨L[i],List.getElem?_eq_getElem hlt⟩
 have hky:=hk y
 have hat':=sds_at hy
 have hys:=any_not_take hni hy
 refine⟨Int.natCast_nonneg _,_,by rw[Int.toNat_natCast];exact hat',rfl,?_⟩
 conv=>whnf
 refine callP hky (Wks.refl _) rfl (ClL.cons (Cl.agg (sdc_cl y)) (ClL.cons (Cl.sl (itms_cl I)) (ClL.cons (Cl.sl (itms_cl V)) .nil))) (.i _ _) ?_
 conv=>whnf
 refine GIf.mk (fun h0=>?_) (fun h0=>?_)<;>conv=>whnf
 ·have h0':kindR I V y=0:=by simpa using h0
  refine owes_i ?_
  rw[any_yes hy (by rw[h0'];rfl)];rfl
 ·have h0':¬kindR I V y=0:=by simpa using h0
  exact⟨L.length - (i+1),(by show _<L.length - i;omega),i+1,⟨hlt,by rw[hys];simpa using h0'⟩,rfl,⟨rfl,rfl,rfl,wrap_succ (by omega),trivial⟩,_,rfl,rfl⟩
end Go.Proofs.YtlhabmglchgdnaaGreatDoor
namespace Go.Proofs.YtlhabmglchgdnaaGreatDoor
open Go.RowKit
set_option maxRecDepth 100000
set_option linter.unusedVariables false
def lkp (l:List Itm) (r:List Val) (s:By):Val:=r.getD (idxN l s).toNat v0
def valT (I V:List Itm) (R W:List Val) (t:Term):Val:=if t.name=[] then t.v else if t.var then lkp V W t.name else lkp I R t.name
def thereN (l:List Itm) (r:List Val) (s:By):Prop:=∃(j:Nat) (v:Val),idxN l s=(j:Nat)/\r[j]?=some v
def okT (I V:List Itm) (R W:List Val) (t:Term):Prop:=t.name=[]∨(t.name≠[]/\t.var=true/\thereN V W t.name)∨(t.name≠[]/\t.var=false/\thereN I R t.name)
theorem lkp_at {l:List Itm} {r:List Val} {s:By} {j:Nat} {v:Val} (h:idxN l s=(j:Nat)) (hv:r[j]?=some v):lkp l r s=v:=by
 unfold lkp
 rw[h,Int.toNat_natCast,List.getD_eq_getElem?_getD,hv];rfl
theorem c_value2 (I V:List Itm) (R W:List Val) (hI:I.length<most) (hV:V.length<most) (t:Term) (h:okT I V R W t):SC Tryz.prog 78 [.agg (wcs I V R W),t.gv] [] (.val (valT I V R W t).gv) []:=by
 have hw:=wcs_cl I V R W
 rcases h with h|⟨h0,hv,j,v,h1,h2⟩|⟨h0,hv,j,v,h1,h2⟩
 ·have e:valT I V R W t=t.v:=if_pos h
  rw[e]
  obtain⟨nm,vr,v⟩:=t
  simp only at h
  subst h
  cases vr with
  |true=>
   refine SC.of_gwp noM mixed Tryz.func78 rfl (Nat.le_of_ble_eq_true rfl) (by first|exact Nat.le_refl _|simp) rfl ?_
   conv=>whnf
   refine GDraw.calm (by kernel_rfl) ?_
   conv=>whnf
   refine GDraw.calm (by kernel_rfl) ?_
   conv=>whnf
   refine⟨_,⟨rfl,Nat.zero_le _,rfl,Nat.le_of_ble_eq_true rfl⟩,?_⟩
   conv=>whnf
   exact owes_wk (g':=v.gv) (.refl _) (fun _=>rfl)
  |false=>
   refine SC.of_gwp noM mixed Tryz.func78 rfl (Nat.le_of_ble_eq_true rfl) (by first|exact Nat.le_refl _|simp) rfl ?_
   conv=>whnf
   refine GDraw.calm (by kernel_rfl) ?_
   conv=>whnf
   refine⟨_,⟨rfl,Nat.zero_le _,rfl,Nat.le_of_ble_eq_true rfl⟩,?_⟩
   conv=>whnf
   exact owes_wk (g':=v.gv) (.refl _) (fun _=>rfl)
 ·have hk:=c_idxV V hV t
  rw[h1] at hk
  have hn:t.name≠[]:=h0
  have e:valT I V R W t=v:=by
   unfold valT
   rw[if_neg hn,hv]
   exact lkp_at h1 h2
  rw[e]
  obtain⟨nm,vr,tv⟩:=t
  simp only at hv hn
  subst hv
  refine SC.of_gwp noM mixed Tryz.func78 rfl (Nat.le_of_ble_eq_true rfl) (by first|exact Nat.le_refl _|simp) rfl ?_
  conv=>whnf
  refine GDraw.calm (by kernel_rfl) ?_
  conv=>whnf
  refine GDraw.calm (by kernel_rfl) ?_
  conv=>whnf
  refine GIf.mk (fun hz=>?_) (fun hz=>?_)<;>conv=>whnf
  ·exact absurd (by simpa using hz) hn
  refine callG hk [1] (objs':=[.box 81 (wcs I V R W),.box 93 (Term.cs ⟨nm,true,tv⟩),.box 53 [.i .i64 0,.i .i64 0,.s []]]) (Lies.one rfl (fun _=>rfl) (by simp)) ?_ rfl rfl ((putBack_one (by simp) rfl).trans rfl) rfl ?_
  ·show Wks _ [(GV.sl .none (itms V)).ren _,GV.fn _ [] [.ptr (emb [1] _ 0) 0]]
   rw[Cl.sl (itms_cl V),emb_lt (by simp)]
   exact Wks.refl _
  conv=>whnf
  refine⟨Int.natCast_nonneg _,_,by rw[Int.toNat_natCast];exact vlsG_at h2,rfl,?_⟩
  conv=>whnf
  refine⟨_,⟨rfl,Nat.zero_le _,rfl,Nat.le_of_ble_eq_true rfl⟩,?_⟩
  conv=>whnf
  exact owes_wk (.refl _) (fun _=>rfl)
 ·have hk:=c_idxV I hI t
  rw[h1] at hk
  have hn:t.name≠[]:=h0
  have e:valT I V R W t=v:=by
   unfold valT
   rw[if_neg hn,hv]
   exact lkp_at h1 h2
  rw[e]
  obtain⟨nm,vr,tv⟩:=t
  simp only at hv hn
  subst hv
  refine SC.of_gwp noM mixed Tryz.func78 rfl (Nat.le_of_ble_eq_true rfl) (by first|exact Nat.le_refl _|simp) rfl ?_
  conv=>whnf
  refine GDraw.calm (by kernel_rfl) ?_
  conv=>whnf
  refine GIf.mk (fun hz=>?_) (fun hz=>?_)<;>conv=>whnf
  ·exact absurd (by simpa using hz) hn
  refine callG hk [1] (objs':=[.box 81 (wcs I V R W),.box 93 (Term.cs ⟨nm,false,tv⟩),.box 53 [.i .i64 0,.i .i64 0,.s []]]) (Lies.one rfl (fun _=>rfl) (by simp)) ?_ rfl rfl ((putBack_one (by simp) rfl).trans rfl) rfl ?_
  ·show Wks _ [(GV.sl .none (itms I)).ren _,GV.fn _ [] [.ptr (emb [1] _ 0) 0]]
   rw[Cl.sl (itms_cl I),emb_lt (by simp)]
   exact Wks.refl _
  conv=>whnf
  refine⟨Int.natCast_nonneg _,_,by rw[Int.toNat_natCast];exact vlsG_at h2,rfl,?_⟩
  conv=>whnf
  refine⟨_,⟨rfl,Nat.zero_le _,rfl,Nat.le_of_ble_eq_true rfl⟩,?_⟩
  conv=>whnf
  exact owes_wk (.refl _) (fun _=>rfl)
theorem c_rel1 (c:Int):SC Tryz.prog 143 [.i .i64 c] [] (.val (.b (c==0))) []:=by
 refine SC.of_gwp noM mixed Tryz.func143 rfl (Nat.le_of_ble_eq_true rfl) (by first|exact Nat.le_refl _|simp) rfl ?_
 conv=>whnf
 exact owes_b rfl
theorem c_rel2 (c:Int):SC Tryz.prog 144 [.i .i64 c] [] (.val (.b (c !=0))) []:=by
 refine SC.of_gwp noM mixed Tryz.func144 rfl (Nat.le_of_ble_eq_true rfl) (by first|exact Nat.le_refl _|simp) rfl ?_
 conv=>whnf
 exact owes_b rfl
theorem c_rel3 (c:Int):SC Tryz.prog 145 [.i .i64 c] [] (.val (.b (decide (c<0)))) []:=by
 refine SC.of_gwp noM mixed Tryz.func145 rfl (Nat.le_of_ble_eq_true rfl) (by first|exact Nat.le_refl _|simp) rfl ?_
 conv=>whnf
 exact owes_b rfl
theorem c_rel4 (c:Int):SC Tryz.prog 146 [.i .i64 c] [] (.val (.b (decide (c<=0)))) []:=by
 refine SC.of_gwp noM mixed Tryz.func146 rfl (Nat.le_of_ble_eq_true rfl) (by first|exact Nat.le_refl _|simp) rfl ?_
 conv=>whnf
 exact owes_b rfl
theorem c_rel5 (c:Int):SC Tryz.prog 147 [.i .i64 c] [] (.val (.b (decide (c>0)))) []:=by
 refine SC.of_gwp noM mixed Tryz.func147 rfl (Nat.le_of_ble_eq_true rfl) (by first|exact Nat.le_refl _|simp) rfl ?_
 conv=>whnf
 exact owes_b rfl
theorem c_rel6 (c:Int):SC Tryz.prog 148 [.i .i64 c] [] (.val (.b (decide (c>=0)))) []:=by
 refine SC.of_gwp noM mixed Tryz.func148 rfl (Nat.le_of_ble_eq_true rfl) (by first|exact Nat.le_refl _|simp) rfl ?_
 conv=>whnf
 exact owes_b rfl
def relM:FuncId->Bool:=fun k=>!(k==106)
theorem c_holds (I V:List Itm) (R W:List Val) (hI:I.length<most) (hV:V.length<most):∀(t:Tree),t.good->(∀x∈leaves t,okT I V R W x)->SC Tryz.prog 58 [.agg (wcs I V R W),t.gv] [] (.val (.b (truthV (valT I V R W) t))) []
 |.pair a l r,hg,ho=>by
  have s1:=c_holds I V R W hI hV l hg.1 (fun x hx=>ho x (by simp[leaves,hx]))
  have s2:=c_holds I V R W hI hV r hg.2 (fun x hx=>ho x (by simp[leaves,hx]))
  have hw:=wcs_cl I V R W
  rw[show truthV (valT I V R W) (Tree.pair a l r)=if a then truthV (valT I V R W) l&&truthV (valT I V R W) r else truthV (valT I V R W) l||truthV (valT I V R W) r from rfl]
  generalize truthV (valT I V R W) l=b1 at*
  generalize truthV (valT I V R W) r=b2 at*
  cases a<;>cases b1<;>cases b2
  all_goals
   refine SC.of_gwp noM mixed Tryz.func58 rfl (Nat.le_of_ble_eq_true rfl) (by first|exact Nat.le_refl _|simp) rfl ?_
   conv=>whnf
   refine⟨_,⟨rfl,Nat.zero_le _,rfl,Nat.le_of_ble_eq_true rfl⟩,?_⟩
   conv=>whnf
   refine GDraw.calm (by kernel_rfl) ?_
   conv=>whnf
   refine callP s1 (Wks.refl _) rfl (ClL.cons (Cl.agg hw) (ClL.cons l.cl .nil)) (.b _) ?_
   conv=>whnf
   refine callP s2 (Wks.refl _) rfl (ClL.cons (Cl.agg hw) (ClL.cons r.cl .nil)) (.b _) ?_
   conv=>whnf
   exact owes_b rfl
 |.no t,hg,ho=>by
  have s1:=c_holds I V R W hI hV t hg (fun x hx=>ho x hx)
  have hw:=wcs_cl I V R W
  rw[show truthV (valT I V R W) (Tree.no t)=!truthV (valT I V R W) t from rfl]
  generalize truthV (valT I V R W) t=b1 at*
  refine SC.of_gwp noM mixed Tryz.func58 rfl (Nat.le_of_ble_eq_true rfl) (by first|exact Nat.le_refl _|simp) rfl ?_
  conv=>whnf
  refine⟨_,⟨rfl,Nat.zero_le _,rfl,Nat.le_of_ble_eq_true rfl⟩,?_⟩
  conv=>whnf
  refine callP s1 (Wks.refl _) rfl (ClL.cons (Cl.agg hw) (ClL.cons t.cl .nil)) (.b _) ?_
  conv=>whnf
  exact owes_b rfl
 |.test op a b,hg,ho=>by
  have s1:=c_value2 I V R W hI hV a (ho a (by simp[leaves]))
  have s2:=c_value2 I V R W hI hV b (ho b (by simp[leaves]))
  have s3:=c_CompareV (valT I V R W a) (valT I V R W b)
  have hop:=hg.1
  have hw:=wcs_cl I V R W
  rw[show truthV (valT I V R W) (Tree.test op a b)=relB op (cmpV (valT I V R W a) (valT I V R W b)) from rfl]
  generalize cmpV (valT I V R W a) (valT I V R W b)=c at*
  simp only[relop,rels,List.contains_eq_mem,decide_eq_true_eq,List.mem_cons,List.not_mem_nil,or_false] at hop
  rcases hop with rfl|rfl|rfl|rfl|rfl|rfl
  all_goals
   refine SC.of_gwp relM mixed Tryz.func58 rfl (Nat.le_of_ble_eq_true rfl) (by first|exact Nat.le_refl _|simp) rfl ?_
   conv=>whnf
   refine⟨_,⟨rfl,Nat.zero_le _,rfl,Nat.le_of_ble_eq_true rfl⟩,?_⟩
   conv=>whnf
   refine GDraw.wild _ _ _ rfl rfl rfl (by kernel_rfl) ?_
   conv=>whnf
   refine callMp c_relations Wks.nil rfl rfl ClL.nil relL_ren ?_
   conv=>whnf
   refine⟨_,rfl,?_⟩
   conv=>whnf
   refine callP s1 (Wks.refl _) rfl (ClL.cons (Cl.agg hw) (ClL.cons a.cl .nil)) (Val.cl _) ?_
   conv=>whnf
   refine callP s2 (Wks.refl _) rfl (ClL.cons (Cl.agg hw) (ClL.cons b.cl .nil)) (Val.cl _) ?_
   conv=>whnf
   refine callP s3 (Wks.refl _) rfl (ClL.cons (Val.cl _) (ClL.cons (Val.cl _) .nil)) (.i _ _) ?_
   conv=>whnf
   first
    |refine callP (c_rel1 c) (Wks.refl _) rfl (fun _=>rfl) (.b _) ?_
    |refine callP (c_rel2 c) (Wks.refl _) rfl (fun _=>rfl) (.b _) ?_
    |refine callP (c_rel3 c) (Wks.refl _) rfl (fun _=>rfl) (.b _) ?_
    |refine callP (c_rel4 c) (Wks.refl _) rfl (fun _=>rfl) (.b _) ?_
    |refine callP (c_rel5 c) (Wks.refl _) rfl (fun _=>rfl) (.b _) ?_
    |refine callP (c_rel6 c) (Wks.refl _) rfl (fun _=>rfl) (.b _) ?_
   conv=>whnf
   exact owes_b rfl
 |.truth b,hg,ho=>by
  refine SC.of_gwp noM mixed Tryz.func58 rfl (Nat.le_of_ble_eq_true rfl) (by first|exact Nat.le_refl _|simp) rfl ?_
  conv=>whnf
  refine⟨_,⟨rfl,Nat.zero_le _,rfl,Nat.le_of_ble_eq_true rfl⟩,?_⟩
  conv=>whnf
  exact owes_b rfl
end Go.Proofs.YtlhabmglchgdnaaGreatDoor
namespace Go.Proofs.YtlhabmglchgdnaaGreatDoor
open Go.RowKit
set_option maxRecDepth 100000
set_option linter.unusedVariables false
theorem fits2_len {I:List Itm} {R:List Val} (h:fits2 I R=true):R.length=I.length:=by
 unfold fits2 fitsB at h
 simp only[Bool.and_eq_true,Bool.or_eq_true,decide_eq_true_eq] at h
 rcases h.2 with h|h
 ·omega
 ·exact(each_len h.2).symm
theorem there_of {l:List Itm} {r:List Val} (hl:r.length=l.length) {s:By} {y:Itm} (h:l.find? (fun i=>i.name==s)=some y):thereN l r s:=by
 rcases idx_kind l s with⟨_,h1⟩|⟨j,z,h1,h2,h3⟩
 ·rw[h1] at h;cases h
 ·have hj:=(List.getElem?_eq_some_iff.1 h2).1
  exact⟨j,r[j]'(by omega),h1,List.getElem?_eq_getElem _⟩
theorem okT_of {I V:List Itm} {R W:List Val} (hf:R.length=I.length) (hw:W.length=V.length) {x:Term} (h:kindE I V x≠5):okT I V R W x:=by
 unfold kindE at h
 unfold okT
 by_cases h0:x.name=[]
 ·exact .inl h0
 ·rw[if_neg h0] at h
  split at h
  ·rename_i y hy
   cases hv:x.var with
   |true=>rw[hv] at hy;exact .inr (.inl ⟨h0,rfl,there_of hw hy⟩)
   |false=>rw[hv] at hy;exact .inr (.inr ⟨h0,rfl,there_of hf hy⟩)
  ·exact absurd rfl h
theorem okT_all {I V:List Itm} {R W:List Val} (hf:R.length=I.length) (hw:W.length=V.length) {t:Tree} (h:checkE I V t=0):∀x∈leaves t,okT I V R W x:=fun x hx=>by
 refine okT_of hf hw (fun h5=>?_)
 unfold checkE at h
 have:(leaves t).any (fun x=>kindE I V x==5)=true:=List.any_eq_true.2 ⟨x,hx,by rw[h5];rfl⟩
 rw[this] at h
 simp at h
def evT (I V:List Itm) (R W:List Val) (t:Tree):Bool×Int:=
 if knownB I&&knownB V&&fits2 I R then
  if checkS I V t=0 then
   if W.length=V.length then
    if kinds2 V W then(truthV (valT I V R W) t,0) else(false,1)
   else(false,11)
  else(false,checkS I V t)
 else(false,1)
def evalS (I V:List Itm) (R W:List Val) (s:By):Bool×Int:=match readS s with
 |.ok t=>evT I V R W t
 |.err e=>(false,e)
theorem c_Eval (I V:List Itm) (R W:List Val) (hI:I.length<most) (hV:V.length<most) (hR:R.length<most) (hW:W.length<most) (s:By) (hs:s.length<most):
  SC Tryz.prog 23 [.s s,.sl .none (itms I),.sl .none (vlsG R),.sl .none (itms V),.sl .none (vlsG W)] [] (.val (.tup [.b (evalS I V R W s).1,.i .i64 (evalS I V R W s).2])) []:=by
 have hr:=c_read s hs
 have hcl:=readG_cl s
 unfold readG at hr hcl
 unfold evalS
 have hw:=wcs_cl I V R W
 cases h:readS s with
 |err e=>
  rw[h] at hr hcl
  replace hr:SC Tryz.prog 46 [.s s] [] (.val (.tup [.o .nilIface,.i .i64 e])) []:=hr
  have he:=readS_err h
  rcases he with rfl|rfl|rfl
  all_goals
   refine SC.of_gwp noM mixed Tryz.func23 rfl (Nat.le_of_ble_eq_true rfl) (by first|exact Nat.le_refl _|simp) rfl ?_
   conv=>whnf
   refine callP hr (Wks.refl _) rfl (fun _=>rfl) hcl ?_
   conv=>whnf
   refine⟨_,⟨rfl,Nat.zero_le _,rfl,Nat.le_of_ble_eq_true rfl⟩,?_⟩
   conv=>whnf
   exact owes_wk (.refl _) (fun _=>rfl)
 |ok t=>
  rw[h] at hr hcl
  replace hr:SC Tryz.prog 46 [.s s] [] (.val (.tup [t.gv,.i .i64 0])) []:=hr
  have hg:t.good:=(readS_good h).1
  have h1:=c_wrong I V R W hI hV hR
  have h2:=c_check I V hI hV t
  have h3:=c_toldW I V R W hV hW
  simp only
  unfold evT
  unfold wrongS at h1
  by_cases b1:(knownB I&&knownB V&&fits2 I R)=true
  rotate_left
  ·rw[if_neg b1] at h1⊢
   refine SC.of_gwp noM mixed Tryz.func23 rfl (Nat.le_of_ble_eq_true rfl) (by first|exact Nat.le_refl _|simp) rfl ?_
   conv=>whnf
   refine callP hr (Wks.refl _) rfl (fun _=>rfl) hcl ?_
   conv=>whnf
   refine⟨_,⟨rfl,Nat.zero_le _,rfl,Nat.le_of_ble_eq_true rfl⟩,?_⟩
   conv=>whnf
   refine callP h1 (Wks.refl _) rfl (ClL.cons (Cl.agg hw) .nil) (.i _ _) ?_
   conv=>whnf
   exact owes_wk (.refl _) (fun _=>rfl)
  rw[if_pos b1] at h1⊢
  have b1':=b1
  simp only[Bool.and_eq_true] at b1'
  have hce:=checkE_eq b1'.1.1 b1'.1.2 hg
  by_cases b2:checkS I V t=0
  rotate_left
  ·rw[if_neg b2]
   rw[hce] at h2
   have b3:checkS I V t=5∨checkS I V t=10:=by
    revert b2
    unfold checkS
    repeat' split
    all_goals simp
   generalize checkS I V t=x at*
   rcases b3 with rfl|rfl
   all_goals
    refine SC.of_gwp noM mixed Tryz.func23 rfl (Nat.le_of_ble_eq_true rfl) (by first|exact Nat.le_refl _|simp) rfl ?_
    conv=>whnf
    refine callP hr (Wks.refl _) rfl (fun _=>rfl) hcl ?_
    conv=>whnf
    refine⟨_,⟨rfl,Nat.zero_le _,rfl,Nat.le_of_ble_eq_true rfl⟩,?_⟩
    conv=>whnf
    refine callP h1 (Wks.refl _) rfl (ClL.cons (Cl.agg hw) .nil) (.i _ _) ?_
    conv=>whnf
    refine callP h2 (Wks.refl _) rfl (ClL.cons t.cl (ClL.cons (Cl.sl (itms_cl I)) (ClL.cons (Cl.sl (itms_cl V)) .nil))) (.i _ _) ?_
    conv=>whnf
    exact owes_wk (.refl _) (fun _=>rfl)
  rw[if_pos b2]
  have b3:checkE I V t=0:=hce.trans b2
  rw[b3] at h2
  unfold toldS at h3
  by_cases b4:W.length=V.length
  rotate_left
  ·rw[if_neg b4]
   rw[if_pos b4] at h3
   refine SC.of_gwp noM mixed Tryz.func23 rfl (Nat.le_of_ble_eq_true rfl) (by first|exact Nat.le_refl _|simp) rfl ?_
   conv=>whnf
   refine callP hr (Wks.refl _) rfl (fun _=>rfl) hcl ?_
   conv=>whnf
   refine⟨_,⟨rfl,Nat.zero_le _,rfl,Nat.le_of_ble_eq_true rfl⟩,?_⟩
   conv=>whnf
   refine callP h1 (Wks.refl _) rfl (ClL.cons (Cl.agg hw) .nil) (.i _ _) ?_
   conv=>whnf
   refine callP h2 (Wks.refl _) rfl (ClL.cons t.cl (ClL.cons (Cl.sl (itms_cl I)) (ClL.cons (Cl.sl (itms_cl V)) .nil))) (.i _ _) ?_
   conv=>whnf
   refine callP h3 (Wks.refl _) rfl (ClL.cons (Cl.agg hw) .nil) (.i _ _) ?_
   conv=>whnf
   exact owes_wk (.refl _) (fun _=>rfl)
  rw[if_pos b4]
  rw[if_neg (by simpa using b4)] at h3
  have hh:=c_holds I V R W hI hV t hg (okT_all (fits2_len b1'.2) b4 b3)
  cases b5:kinds2 V W with
  |false=>
   rw[b5] at h3
   replace h3:SC Tryz.prog 57 [.agg (wcs I V R W)] [] (.val (.i .i64 1)) []:=h3
   refine SC.of_gwp noM mixed Tryz.func23 rfl (Nat.le_of_ble_eq_true rfl) (by first|exact Nat.le_refl _|simp) rfl ?_
   conv=>whnf
   refine callP hr (Wks.refl _) rfl (fun _=>rfl) hcl ?_
   conv=>whnf
   refine⟨_,⟨rfl,Nat.zero_le _,rfl,Nat.le_of_ble_eq_true rfl⟩,?_⟩
   conv=>whnf
   refine callP h1 (Wks.refl _) rfl (ClL.cons (Cl.agg hw) .nil) (.i _ _) ?_
   conv=>whnf
   refine callP h2 (Wks.refl _) rfl (ClL.cons t.cl (ClL.cons (Cl.sl (itms_cl I)) (ClL.cons (Cl.sl (itms_cl V)) .nil))) (.i _ _) ?_
   conv=>whnf
   refine callP h3 (Wks.refl _) rfl (ClL.cons (Cl.agg hw) .nil) (.i _ _) ?_
   conv=>whnf
   exact owes_wk (.refl _) (fun _=>rfl)
  |true=>
   rw[b5] at h3
   replace h3:SC Tryz.prog 57 [.agg (wcs I V R W)] [] (.val (.i .i64 0)) []:=h3
   refine SC.of_gwp noM mixed Tryz.func23 rfl (Nat.le_of_ble_eq_true rfl) (by first|exact Nat.le_refl _|simp) rfl ?_
   conv=>whnf
   refine callP hr (Wks.refl _) rfl (fun _=>rfl) hcl ?_
   conv=>whnf
   refine⟨_,⟨rfl,Nat.zero_le _,rfl,Nat.le_of_ble_eq_true rfl⟩,?_⟩
   conv=>whnf
   refine callP h1 (Wks.refl _) rfl (ClL.cons (Cl.agg hw) .nil) (.i _ _) ?_
   conv=>whnf
   refine callP h2 (Wks.refl _) rfl (ClL.cons t.cl (ClL.cons (Cl.sl (itms_cl I)) (ClL.cons (Cl.sl (itms_cl V)) .nil))) (.i _ _) ?_
   conv=>whnf
   refine callP h3 (Wks.refl _) rfl (ClL.cons (Cl.agg hw) .nil) (.i _ _) ?_
   conv=>whnf
   refine callP hh (Wks.refl _) rfl (ClL.cons (Cl.agg hw) (ClL.cons t.cl .nil)) (.b _) ?_
   conv=>whnf
   exact owes_wk (.refl _) (fun _=>rfl)
end Go.Proofs.YtlhabmglchgdnaaGreatDoor
