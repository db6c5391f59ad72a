/-
  CondRenames: Rename of every text and names is that of the reference, and over items renamed alike a condition is as true as before: the card, for every input.
-/
import Derived.Test.YtlhabmglchgdnaaGreatDoorQ41
import Derived.Test.YtlhabmglchgdnaaGreatDoorQ40
set_option linter.all false
namespace Go.Proofs.YtlhabmglchgdnaaGreatDoor
open Go.RowKit
set_option maxRecDepth 100000
set_option linter.unusedVariables false
def lkp (l:List Itm) (r:List Val) (s:By):Val:=r.getD (idxN l s).toNat v0
def valT (I V:List Itm) (R W:List Val) (t:Term):Val:=if t.name=[] then t.v else if t.var then lkp V W t.name else lkp I R t.name
def thereN (l:List Itm) (r:List Val) (s:By):Prop:=∃(j:Nat) (v:Val),idxN l s=(j:Nat)/\r[j]?=some v
def okT (I V:List Itm) (R W:List Val) (t:Term):Prop:=t.name=[]∨(t.name≠[]/\t.var=true/\thereN V W t.name)∨(t.name≠[]/\t.var=false/\thereN I R t.name)
theorem lkp_at {l:List Itm} {r:List Val} {s:By} {j:Nat} {v:Val} (h:idxN l s=(j:Nat)) (hv:r[j]?=some v):lkp l r s=v:=by
 unfold lkp
 rw[h,Int.toNat_natCast,List.getD_eq_getElem?_getD,hv];rfl
theorem c_value2 (I V:List Itm) (R W:List Val) (hI:I.length<most) (hV:V.length<most) (t:Term) (h:okT I V R W t):SC Tryz.prog 78 [.agg (wcs I V R W),t.gv] [] (.val (valT I V R W t).gv) []:=by
 have hw:=wcs_cl I V R W
 rcases h with h|⟨h0,hv,j,v,h1,h2⟩|⟨h0,hv,j,v,h1,h2⟩
 ·have e:valT I V R W t=t.v:=if_pos h
  rw[e]
  obtain⟨nm,vr,v⟩:=t
  simp only at h
  subst h
  cases vr with
  |true=>
   refine SC.of_gwp noM mixed Tryz.func78 rfl (Nat.le_of_ble_eq_true rfl) (by first|exact Nat.le_refl _|simp) rfl ?_
   conv=>whnf
   refine GDraw.calm (by kernel_rfl) ?_
   conv=>whnf
   refine GDraw.calm (by kernel_rfl) ?_
   conv=>whnf
   refine⟨_,⟨rfl,Nat.zero_le _,rfl,Nat.le_of_ble_eq_true rfl⟩,?_⟩
   conv=>whnf
   exact owes_wk (g':=v.gv) (.refl _) (fun _=>rfl)
  |false=>
   refine SC.of_gwp noM mixed Tryz.func78 rfl (Nat.le_of_ble_eq_true rfl) (by first|exact Nat.le_refl _|simp) rfl ?_
   conv=>whnf
   refine GDraw.calm (by kernel_rfl) ?_
   conv=>whnf
   refine⟨_,⟨rfl,Nat.zero_le _,rfl,Nat.le_of_ble_eq_true rfl⟩,?_⟩
   conv=>whnf
   exact owes_wk (g':=v.gv) (.refl _) (fun _=>rfl)
 ·have hk:=c_idxV V hV t
  rw[h1] at hk
  have hn:t.name≠[]:=h0
  have e:valT I V R W t=v:=by
   unfold valT
   rw[if_neg hn,hv]
   exact lkp_at h1 h2
  rw[e]
  obtain⟨nm,vr,tv⟩:=t
  simp only at hv hn
  subst hv
  refine SC.of_gwp noM mixed Tryz.func78 rfl (Nat.le_of_ble_eq_true rfl) (by first|exact Nat.le_refl _|simp) rfl ?_
  conv=>whnf
  refine GDraw.calm (by kernel_rfl) ?_
  conv=>whnf
  refine GDraw.calm (by kernel_rfl) ?_
  conv=>whnf
  refine GIf.mk (fun hz=>?_) (fun hz=>?_)<;>conv=>whnf
  ·exact absurd (by simpa using hz) hn
  refine callG hk [1] (objs':=[.box 81 (wcs I V R W),.box 93 (Term.cs ⟨nm,true,tv⟩),.box 53 [.i .i64 0,.i .i64 0,.s []]]) (Lies.one rfl (fun _=>rfl) (by simp)) ?_ rfl rfl ((putBack_one (by simp) rfl).trans rfl) rfl ?_
  ·show Wks _ [(GV.sl .none (itms V)).ren _,GV.fn _ [] [.ptr (emb [1] _ 0) 0]]
   rw[Cl.sl (itms_cl V),emb_lt (by simp)]
   exact Wks.refl _
  conv=>whnf
  refine⟨Int.natCast_nonneg _,_,by rw[Int.toNat_natCast];exact vlsG_at h2,rfl,?_⟩
  conv=>whnf
  refine⟨_,⟨rfl,Nat.zero_le _,rfl,Nat.le_of_ble_eq_true rfl⟩,?_⟩
  conv=>whnf
  exact owes_wk (.refl _) (fun _=>rfl)
 ·have hk:=c_idxV I hI t
  rw[h1] at hk
  have hn:t.name≠[]:=h0
  have e:valT I V R W t=v:=by
   unfold valT
   rw[if_neg hn,hv]
   exact lkp_at h1 h2
  rw[e]
  obtain⟨nm,vr,tv⟩:=t
  simp only at hv hn
  subst hv
  refine SC.of_gwp noM mixed Tryz.func78 rfl (Nat.le_of_ble_eq_true rfl) (by first|exact Nat.le_refl _|simp) rfl ?_
  conv=>whnf
  refine GDraw.calm (by kernel_rfl) ?_
  conv=>whnf
  refine GIf.mk (fun hz=>?_) (fun hz=>?_)<;>conv=>whnf
  ·exact absurd (by simpa using hz) hn
  refine callG hk [1] (objs':=[.box 81 (wcs I V R W),.box 93 (Term.cs ⟨nm,false,tv⟩),.box 53 [.i .i64 0,.i .i64 0,.s []]]) (Lies.one rfl (fun _=>rfl) (by simp)) ?_ rfl rfl ((putBack_one (by simp) rfl).trans rfl) rfl ?_
  ·show Wks _ [(GV.sl .none (itms I)).ren _,GV.fn _ [] [.ptr (emb [1] _ 0) 0]]
   rw[Cl.sl (itms_cl I),emb_lt (by simp)]
   exact Wks.refl _
  conv=>whnf
  refine⟨Int.natCast_nonneg _,_,by rw[Int.toNat_natCast];exact vlsG_at h2,rfl,?_⟩
  conv=>whnf
  refine⟨_,⟨rfl,Nat.zero_le _,rfl,Nat.le_of_ble_eq_true rfl⟩,?_⟩
  conv=>whnf
  exact owes_wk (.refl _) (fun _=>rfl)
theorem c_rel1 (c:Int):SC Tryz.prog 143 [.i .i64 c] [] (.val (.b (c==0))) []:=by
 refine SC.of_gwp noM mixed Tryz.func143 rfl (Nat.le_of_ble_eq_true rfl) (by first|exact Nat.le_refl _|simp) rfl ?_
 conv=>whnf
 exact owes_b rfl
theorem c_rel2 (c:Int):SC Tryz.prog 144 [.i .i64 c] [] (.val (.b (c !=0))) []:=by
 refine SC.of_gwp noM mixed Tryz.func144 rfl (Nat.le_of_ble_eq_true rfl) (by first|exact Nat.le_refl _|simp) rfl ?_
 conv=>whnf
 exact owes_b rfl
theorem c_rel3 (c:Int):SC Tryz.prog 145 [.i .i64 c] [] (.val (.b (decide (c<0)))) []:=by
 refine SC.of_gwp noM mixed Tryz.func145 rfl (Nat.le_of_ble_eq_true rfl) (by first|exact Nat.le_refl _|simp) rfl ?_
 conv=>whnf
 exact owes_b rfl
theorem c_rel4 (c:Int):SC Tryz.prog 146 [.i .i64 c] [] (.val (.b (decide (c<=0)))) []:=by
 refine SC.of_gwp noM mixed Tryz.func146 rfl (Nat.le_of_ble_eq_true rfl) (by first|exact Nat.le_refl _|simp) rfl ?_
 conv=>whnf
 exact owes_b rfl
theorem c_rel5 (c:Int):SC Tryz.prog 147 [.i .i64 c] [] (.val (.b (decide (c>0)))) []:=by
 refine SC.of_gwp noM mixed Tryz.func147 rfl (Nat.le_of_ble_eq_true rfl) (by first|exact Nat.le_refl _|simp) rfl ?_
 conv=>whnf
 exact owes_b rfl
theorem c_rel6 (c:Int):SC Tryz.prog 148 [.i .i64 c] [] (.val (.b (decide (c>=0)))) []:=by
 refine SC.of_gwp noM mixed Tryz.func148 rfl (Nat.le_of_ble_eq_true rfl) (by first|exact Nat.le_refl _|simp) rfl ?_
 conv=>whnf
 exact owes_b rfl
def relM:FuncId->Bool:=fun k=>!(k==106)
theorem c_holds (I V:List Itm) (R W:List Val) (hI:I.length<most) (hV:V.length<most):∀(t:Tree),t.good->(∀x∈leaves t,okT I V R W x)->SC Tryz.prog 58 [.agg (wcs I V R W),t.gv] [] (.val (.b (truthV (valT I V R W) t))) []
 |.pair a l r,hg,ho=>by
  have s1:=c_holds I V R W hI hV l hg.1 (fun x hx=>ho x (by simp[leaves,hx]))
  have s2:=c_holds I V R W hI hV r hg.2 (fun x hx=>ho x (by simp[leaves,hx]))
  have hw:=wcs_cl I V R W
  rw[show truthV (valT I V R W) (Tree.pair a l r)=if a then truthV (valT I V R W) l&&truthV (valT I V R W) r else truthV (valT I V R W) l||truthV (valT I V R W) r from rfl]
  generalize truthV (valT I V R W) l=b1 at*
  generalize truthV (valT I V R W) r=b2 at*
  cases a<;>cases b1<;>cases b2
  all_goals
   refine SC.of_gwp noM mixed Tryz.func58 rfl (Nat.le_of_ble_eq_true rfl) (by first|exact Nat.le_refl _|simp) rfl ?_
   conv=>whnf
   refine⟨_,⟨rfl,Nat.zero_le _,rfl,Nat.le_of_ble_eq_true rfl⟩,?_⟩
   conv=>whnf
   refine GDraw.calm (by kernel_rfl) ?_
   conv=>whnf
   refine callP s1 (Wks.refl _) rfl (ClL.cons (Cl.agg hw) (ClL.cons l.cl .nil)) (.b _) ?_
   conv=>whnf
   refine callP s2 (Wks.refl _) rfl (ClL.cons (Cl.agg hw) (ClL.cons r.cl .nil)) (.b _) ?_
   conv=>whnf
   exact owes_b rfl
 |.no t,hg,ho=>by
  have s1:=c_holds I V R W hI hV t hg (fun x hx=>ho x hx)
  have hw:=wcs_cl I V R W
  rw[show truthV (valT I V R W) (Tree.no t)=!truthV (valT I V R W) t from rfl]
  generalize truthV (valT I V R W) t=b1 at*
  refine SC.of_gwp noM mixed Tryz.func58 rfl (Nat.le_of_ble_eq_true rfl) (by first|exact Nat.le_refl _|simp) rfl ?_
  conv=>whnf
  refine⟨_,⟨rfl,Nat.zero_le _,rfl,Nat.le_of_ble_eq_true rfl⟩,?_⟩
  conv=>whnf
  refine callP s1 (Wks.refl _) rfl (ClL.cons (Cl.agg hw) (ClL.cons t.cl .nil)) (.b _) ?_
  conv=>whnf
  exact owes_b rfl
 |.test op a b,hg,ho=>by
  have s1:=c_value2 I V R W hI hV a (ho a (by simp[leaves]))
  have s2:=c_value2 I V R W hI hV b (ho b (by simp[leaves]))
  have s3:=c_CompareV (valT I V R W a) (valT I V R W b)
  have hop:=hg.1
  have hw:=wcs_cl I V R W
  rw[show truthV (valT I V R W) (Tree.test op a b)=relB op (cmpV (valT I V R W a) (valT I V R W b)) from rfl]
  generalize cmpV (valT I V R W a) (valT I V R W b)=c at*
  simp only[relop,rels,List.contains_eq_mem,decide_eq_true_eq,List.mem_cons,List.not_mem_nil,or_false] at hop
  rcases hop with rfl|rfl|rfl|rfl|rfl|rfl
  all_goals
   refine SC.of_gwp relM mixed Tryz.func58 rfl (Nat.le_of_ble_eq_true rfl) (by first|exact Nat.le_refl _|simp) rfl ?_
   conv=>whnf
   refine⟨_,⟨rfl,Nat.zero_le _,rfl,Nat.le_of_ble_eq_true rfl⟩,?_⟩
   conv=>whnf
   refine GDraw.wild _ _ _ rfl rfl rfl (by kernel_rfl) ?_
   conv=>whnf
   refine callMp c_relations Wks.nil rfl rfl ClL.nil relL_ren ?_
   conv=>whnf
   refine⟨_,rfl,?_⟩
   conv=>whnf
   refine callP s1 (Wks.refl _) rfl (ClL.cons (Cl.agg hw) (ClL.cons a.cl .nil)) (Val.cl _) ?_
   conv=>whnf
   refine callP s2 (Wks.refl _) rfl (ClL.cons (Cl.agg hw) (ClL.cons b.cl .nil)) (Val.cl _) ?_
   conv=>whnf
   refine callP s3 (Wks.refl _) rfl (ClL.cons (Val.cl _) (ClL.cons (Val.cl _) .nil)) (.i _ _) ?_
   conv=>whnf
   first
    |refine callP (c_rel1 c) (Wks.refl _) rfl (fun _=>rfl) (.b _) ?_
    |refine callP (c_rel2 c) (Wks.refl _) rfl (fun _=>rfl) (.b _) ?_
    |refine callP (c_rel3 c) (Wks.refl _) rfl (fun _=>rfl) (.b _) ?_
    |refine callP (c_rel4 c) (Wks.refl _) rfl (fun _=>rfl) (.b _) ?_
    |refine callP (c_rel5 c) (Wks.refl _) rfl (fun _=>rfl) (.b _) ?_
    |refine callP (c_rel6 c) (Wks.refl _) rfl (fun _=>rfl) (.b _) ?_
   conv=>whnf
   exact owes_b rfl
 |.truth b,hg,ho=>by
  refine SC.of_gwp noM mixed Tryz.func58 rfl (Nat.le_of_ble_eq_true rfl) (by first|exact Nat.le_refl _|simp) rfl ?_
  conv=>whnf
  refine⟨_,⟨rfl,Nat.zero_le _,rfl,Nat.le_of_ble_eq_true rfl⟩,?_⟩
  conv=>whnf
  exact owes_b rfl
end Go.Proofs.YtlhabmglchgdnaaGreatDoor
namespace Go.Proofs.YtlhabmglchgdnaaGreatDoor
open Go.RowKit
set_option maxRecDepth 100000
set_option linter.unusedVariables false
theorem fits2_len {I:List Itm} {R:List Val} (h:fits2 I R=true):R.length=I.length:=by
 unfold fits2 fitsB at h
 simp only[Bool.and_eq_true,Bool.or_eq_true,decide_eq_true_eq] at h
 rcases h.2 with h|h
 ·omega
 ·exact(each_len h.2).symm
theorem there_of {l:List Itm} {r:List Val} (hl:r.length=l.length) {s:By} {y:Itm} (h:l.find? (fun i=>i.name==s)=some y):thereN l r s:=by
 rcases idx_kind l s with⟨_,h1⟩|⟨j,z,h1,h2,h3⟩
 ·rw[h1] at h;cases h
 ·have hj:=(List.getElem?_eq_some_iff.1 h2).1
  exact⟨j,r[j]'(by omega),h1,List.getElem?_eq_getElem _⟩
theorem okT_of {I V:List Itm} {R W:List Val} (hf:R.length=I.length) (hw:W.length=V.length) {x:Term} (h:kindE I V x≠5):okT I V R W x:=by
 unfold kindE at h
 unfold okT
 by_cases h0:x.name=[]
 ·exact .inl h0
 ·rw[if_neg h0] at h
  split at h
  ·rename_i y hy
   cases hv:x.var with
   |true=>rw[hv] at hy;exact .inr (.inl ⟨h0,rfl,there_of hw hy⟩)
   |false=>rw[hv] at hy;exact .inr (.inr ⟨h0,rfl,there_of hf hy⟩)
  ·exact absurd rfl h
theorem okT_all {I V:List Itm} {R W:List Val} (hf:R.length=I.length) (hw:W.length=V.length) {t:Tree} (h:checkE I V t=0):∀x∈leaves t,okT I V R W x:=fun x hx=>by
 refine okT_of hf hw (fun h5=>?_)
 unfold checkE at h
 have:(leaves t).any (fun x=>kindE I V x==5)=true:=List.any_eq_true.2 ⟨x,hx,by rw[h5];rfl⟩
 rw[this] at h
 simp at h
def evT (I V:List Itm) (R W:List Val) (t:Tree):Bool×Int:=
 if knownB I&&knownB V&&fits2 I R then
  if checkS I V t=0 then
   if W.length=V.length then
    if kinds2 V W then(truthV (valT I V R W) t,0) else(false,1)
   else(false,11)
  else(false,checkS I V t)
 else(false,1)
def evalS (I V:List Itm) (R W:List Val) (s:By):Bool×Int:=match readS s with
 |.ok t=>evT I V R W t
 |.err e=>(false,e)
theorem c_Eval (I V:List Itm) (R W:List Val) (hI:I.length<most) (hV:V.length<most) (hR:R.length<most) (hW:W.length<most) (s:By) (hs:s.length<most):
  SC Tryz.prog 23 [.s s,.sl .none (itms I),.sl .none (vlsG R),.sl .none (itms V),.sl .none (vlsG W)] [] (.val (.tup [.b (evalS I V R W s).1,.i .i64 (evalS I V R W s).2])) []:=by
 have hr:=c_read s hs
 have hcl:=readG_cl s
 unfold readG at hr hcl
 unfold evalS
 have hw:=wcs_cl I V R W
 cases h:readS s with
 |err e=>
  rw[h] at hr hcl
  replace hr:SC Tryz.prog 46 [.s s] [] (.val (.tup [.o .nilIface,.i .i64 e])) []:=hr
  have he:=readS_err h
  rcases he with rfl|rfl|rfl
  all_goals
   refine SC.of_gwp noM mixed Tryz.func23 rfl (Nat.le_of_ble_eq_true rfl) (by first|exact Nat.le_refl _|simp) rfl ?_
   conv=>whnf
   refine callP hr (Wks.refl _) rfl (fun _=>rfl) hcl ?_
   conv=>whnf
   refine⟨_,⟨rfl,Nat.zero_le _,rfl,Nat.le_of_ble_eq_true rfl⟩,?_⟩
   conv=>whnf
   exact owes_wk (.refl _) (fun _=>rfl)
 |ok t=>
  rw[h] at hr hcl
  replace hr:SC Tryz.prog 46 [.s s] [] (.val (.tup [t.gv,.i .i64 0])) []:=hr
  have hg:t.good:=(readS_good h).1
  have h1:=c_wrong I V R W hI hV hR
  have h2:=c_check I V hI hV t
  have h3:=c_toldW I V R W hV hW
  simp only
  unfold evT
  unfold wrongS at h1
  by_cases b1:(knownB I&&knownB V&&fits2 I R)=true
  rotate_left
  ·rw[if_neg b1] at h1⊢
   refine SC.of_gwp noM mixed Tryz.func23 rfl (Nat.le_of_ble_eq_true rfl) (by first|exact Nat.le_refl _|simp) rfl ?_
   conv=>whnf
   refine callP hr (Wks.refl _) rfl (fun _=>rfl) hcl ?_
   conv=>whnf
   refine⟨_,⟨rfl,Nat.zero_le _,rfl,Nat.le_of_ble_eq_true rfl⟩,?_⟩
   conv=>whnf
   refine callP h1 (Wks.refl _) rfl (ClL.cons (Cl.agg hw) .nil) (.i _ _) ?_
   conv=>whnf
   exact owes_wk (.refl _) (fun _=>rfl)
  rw[if_pos b1] at h1⊢
  have b1':=b1
  simp only[Bool.and_eq_true] at b1'
  have hce:=checkE_eq b1'.1.1 b1'.1.2 hg
  by_cases b2:checkS I V t=0
  rotate_left
  ·rw[if_neg b2]
   rw[hce] at h2
   have b3:checkS I V t=5∨checkS I V t=10:=by
    revert b2
    unfold checkS
    repeat' split
    all_goals simp
   generalize checkS I V t=x at*
   rcases b3 with rfl|rfl
   all_goals
    refine SC.of_gwp noM mixed Tryz.func23 rfl (Nat.le_of_ble_eq_true rfl) (by first|exact Nat.le_refl _|simp) rfl ?_
    conv=>whnf
    refine callP hr (Wks.refl _) rfl (fun _=>rfl) hcl ?_
    conv=>whnf
    refine⟨_,⟨rfl,Nat.zero_le _,rfl,Nat.le_of_ble_eq_true rfl⟩,?_⟩
    conv=>whnf
    refine callP h1 (Wks.refl _) rfl (ClL.cons (Cl.agg hw) .nil) (.i _ _) ?_
    conv=>whnf
    refine callP h2 (Wks.refl _) rfl (ClL.cons t.cl (ClL.cons (Cl.sl (itms_cl I)) (ClL.cons (Cl.sl (itms_cl V)) .nil))) (.i _ _) ?_
    conv=>whnf
    exact owes_wk (.refl _) (fun _=>rfl)
  rw[if_pos b2]
  have b3:checkE I V t=0:=hce.trans b2
  rw[b3] at h2
  unfold toldS at h3
  by_cases b4:W.length=V.length
  rotate_left
  ·rw[if_neg b4]
   rw[if_pos b4] at h3
   refine SC.of_gwp noM mixed Tryz.func23 rfl (Nat.le_of_ble_eq_true rfl) (by first|exact Nat.le_refl _|simp) rfl ?_
   conv=>whnf
   refine callP hr (Wks.refl _) rfl (fun _=>rfl) hcl ?_
   conv=>whnf
   refine⟨_,⟨rfl,Nat.zero_le _,rfl,Nat.le_of_ble_eq_true rfl⟩,?_⟩
   conv=>whnf
   refine callP h1 (Wks.refl _) rfl (ClL.cons (Cl.agg hw) .nil) (.i _ _) ?_
   conv=>whnf
   refine callP h2 (Wks.refl _) rfl (ClL.cons t.cl (ClL.cons (Cl.sl (itms_cl I)) (ClL.cons (Cl.sl (itms_cl V)) .nil))) (.i _ _) ?_
   conv=>whnf
   refine callP h3 (Wks.refl _) rfl (ClL.cons (Cl.agg hw) .nil) (.i _ _) ?_
   conv=>whnf
   exact owes_wk (.refl _) (fun _=>rfl)
  rw[if_pos b4]
  rw[if_neg (by simpa using b4)] at h3
  have hh:=c_holds I V R W hI hV t hg (okT_all (fits2_len b1'.2) b4 b3)
  cases b5:kinds2 V W with
  |false=>
   rw[b5] at h3
   replace h3:SC Tryz.prog 57 [.agg (wcs I V R W)] [] (.val (.i .i64 1)) []:=h3
   refine SC.of_gwp noM mixed Tryz.func23 rfl (Nat.le_of_ble_eq_true rfl) (by first|exact Nat.le_refl _|simp) rfl ?_
   conv=>whnf
   refine callP hr (Wks.refl _) rfl (fun _=>rfl) hcl ?_
   conv=>whnf
   refine⟨_,⟨rfl,Nat.zero_le _,rfl,Nat.le_of_ble_eq_true rfl⟩,?_⟩
   conv=>whnf
   refine callP h1 (Wks.refl _) rfl (ClL.cons (Cl.agg hw) .nil) (.i _ _) ?_
   conv=>whnf
   refine callP h2 (Wks.refl _) rfl (ClL.cons t.cl (ClL.cons (Cl.sl (itms_cl I)) (ClL.cons (Cl.sl (itms_cl V)) .nil))) (.i _ _) ?_
   conv=>whnf
   refine callP h3 (Wks.refl _) rfl (ClL.cons (Cl.agg hw) .nil) (.i _ _) ?_
   conv=>whnf
   exact owes_wk (.refl _) (fun _=>rfl)
  |true=>
   rw[b5] at h3
   replace h3:SC Tryz.prog 57 [.agg (wcs I V R W)] [] (.val (.i .i64 0)) []:=h3
   refine SC.of_gwp noM mixed Tryz.func23 rfl (Nat.le_of_ble_eq_true rfl) (by first|exact Nat.le_refl _|simp) rfl ?_
   conv=>whnf
   refine callP hr (Wks.refl _) rfl (fun _=>rfl) hcl ?_
   conv=>whnf
   refine⟨_,⟨rfl,Nat.zero_le _,rfl,Nat.le_of_ble_eq_true rfl⟩,?_⟩
   conv=>whnf
   refine callP h1 (Wks.refl _) rfl (ClL.cons (Cl.agg hw) .nil) (.i _ _) ?_
   conv=>whnf
   refine callP h2 (Wks.refl _) rfl (ClL.cons t.cl (ClL.cons (Cl.sl (itms_cl I)) (ClL.cons (Cl.sl (itms_cl V)) .nil))) (.i _ _) ?_
   conv=>whnf
   refine callP h3 (Wks.refl _) rfl (ClL.cons (Cl.agg hw) .nil) (.i _ _) ?_
   conv=>whnf
   refine callP hh (Wks.refl _) rfl (ClL.cons (Cl.agg hw) (ClL.cons t.cl .nil)) (.b _) ?_
   conv=>whnf
   exact owes_wk (.refl _) (fun _=>rfl)
end Go.Proofs.YtlhabmglchgdnaaGreatDoor
namespace Go.Proofs.YtlhabmglchgdnaaGreatDoor
open Go.RowKit
set_option maxRecDepth 100000
set_option linter.unusedVariables false
end Go.Proofs.YtlhabmglchgdnaaGreatDoor
namespace Go.Proofs.YtlhabmglchgdnaaGreatDoor
open Go.RowKit
set_option maxRecDepth 100000
set_option linter.unusedVariables false
theorem good_side {a:Bool}:∀{t:Tree},t.good->∀x∈t.sides a,x.good
 |.pair b l r,h,x,hx=>by
  unfold Tree.sides at hx
  split at hx
  ·rcases List.mem_append.1 hx with hx|hx
   ·exact good_side h.1 x hx
   ·exact good_side h.2 x hx
  ·rw[List.mem_singleton.1 hx];exact h
 |.no t,h,x,hx=>by rw[List.mem_singleton.1 (show x∈[Tree.no t] from hx)];exact h
 |.test op l r,h,x,hx=>by rw[List.mem_singleton.1 (show x∈[Tree.test op l r] from hx)];exact h
 |.truth b,h,x,hx=>by rw[List.mem_singleton.1 (show x∈[Tree.truth b] from hx)];exact h
end Go.Proofs.YtlhabmglchgdnaaGreatDoor
namespace Go.Proofs.YtlhabmglchgdnaaGreatDoor
open Go.RowKit
set_option maxRecDepth 100000
set_option linter.unusedVariables false
end Go.Proofs.YtlhabmglchgdnaaGreatDoor
namespace Go.Proofs.YtlhabmglchgdnaaGreatDoor
open Go.RowKit
set_option maxRecDepth 100000
set_option linter.unusedVariables false
def part (f:Term->By) (L:List Term) (i:Nat):List By:=(L.take i).foldl (fun l x=>addN l (f x)) []
end Go.Proofs.YtlhabmglchgdnaaGreatDoor
namespace Go.Proofs.YtlhabmglchgdnaaGreatDoor
open Go.RowKit
set_option maxRecDepth 100000
set_option linter.unusedVariables false
def wakeT:By:=[97,61,49,32,97,110,100,32,40,98,60,62,34,120,34,32,111,114,32,110,111,116,40,99,32,60,32,58,118,41,41]
def wakeS:By:=[97,32,61,32,49,32,97,110,100,32,40,98,32,60,62,32,34,120,34,32,111,114,32,110,111,116,32,99,32,60,32,58,118,41]
theorem wake_show:showS wakeT=(wakeS,0):=by
 rw[<-showR_eq]
 kernel_rfl
theorem l_awake:SC Tryz.prog 9 [] [] (.val (.b true)) []:=by
 have h:=c_Show wakeT (by unfold most wakeT;simp)
 rw[wake_show] at h
 replace h:SC Tryz.prog 10 [.s wakeT] [] (.val (.tup [.s wakeS,.i .i64 0])) []:=h
 refine SC.of_gwp noM mixed Tryz.func9 rfl (Nat.le_of_ble_eq_true rfl) (by first|exact Nat.le_refl _|simp) rfl ?_
 conv=>whnf
 refine callP h (Wks.refl _) rfl (fun _=>rfl) (fun _=>rfl) ?_
 conv=>whnf
 exact owes_b rfl
end Go.Proofs.YtlhabmglchgdnaaGreatDoor
namespace Go.Proofs.YtlhabmglchgdnaaGreatDoor
open Go.RowKit
set_option maxRecDepth 100000
set_option linter.unusedVariables false
def itemsB (l:List Itm):Bool:=(l.take 20).all (fun i=>decide (i.name.length<=100))&&decide (l.length<=20)
theorem l_Items (l:List Itm):SC Tryz.prog 19 [.sl .none (itms l)] [] (.val (.b (itemsB l))) []:=by
 have hlen:=itms_len l
 unfold itemsB
 refine SC.of_gwp noM mixed Tryz.func19 rfl (Nat.le_of_ble_eq_true rfl) (by first|exact Nat.le_refl _|simp) rfl ?_
 conv=>whnf
 refine GLoop.intro (fun i:Nat=>i<=l.length/\i<=20/\∀z∈l.take i,z.name.length<=100) (fun i=>[(0,.sl .none (itms l)),(3,.i .i64 (i:Nat))]) (fun _=>⟨[],0,[]⟩) (fun i=>l.length - i) 0 ⟨Nat.zero_le _,Nat.zero_le _,(fun z h=>by simp at h)⟩ ⟨rfl,rfl,trivial⟩ rfl (fun i φ0 hi=>?_)
 obtain⟨hi,hi2,hok⟩:=hi
 have fin:(i=l.length∨i=20)->(l.take 20).all (fun i=>decide (i.name.length<=100))=true:=fun hh=>by
  rw[List.all_eq_true]
  intro x hx
  refine decide_eq_true (hok x ?_)
  rcases hh with rfl|rfl
  ·rw[List.take_length];exact List.mem_of_mem_take hx
  ·exact hx
 have hle:decide (((itms l).length:Int)<=20)=decide (l.length<=20):=by rw[hlen,decide_eq_decide];omega
 conv=>whnf
 refine GIf.mk (fun h=>?_) (fun h=>?_)<;>conv=>whnf
 rotate_left
 ·have hie:i=l.length:=by have:=of_decide_eq_false h;rw[hlen] at this;omega
  refine owes_b ?_
  rw[fin (.inl hie),Bool.true_and];exact hle
 have hlt:i<l.length:=by have:=of_decide_eq_true h;rw[hlen] at this;omega
 refine GIf.mk (fun h2=>?_) (fun h2=>?_)<;>conv=>whnf
 rotate_left
 ·have hie:i=20:=by have:=of_decide_eq_false h2;omega
  refine owes_b ?_
  rw[fin (.inr hie),Bool.true_and];exact hle
 have hlt2:i<20:=by have:=of_decide_eq_true h2;omega
 obtain⟨y,hy⟩:∃y,l[i]?=some y:=⟨l[i],List.getElem?_eq_getElem hlt⟩
 refine⟨Int.natCast_nonneg _,_,by rw[Int.toNat_natCast];exact itms_at hy,rfl,?_⟩
 conv=>whnf
 refine GIf.mk (fun h3=>?_) (fun h3=>?_)<;>conv=>whnf
 ·have h3':¬y.name.length<=100:=by have:=of_decide_eq_true h3;omega
  refine owes_b ?_
  have:(l.take 20).all (fun i=>decide (i.name.length<=100))=false:=List.all_eq_false.2 ⟨y,List.mem_of_getElem? (i:=i) (by rw[List.getElem?_take,if_pos hlt2];exact hy),by simpa using h3'⟩
  rw[this];rfl
 ·have h3':y.name.length<=100:=by have:=of_decide_eq_false h3;omega
  refine⟨l.length - (i+1),(by show _<l.length - i;omega),i+1,⟨hlt,hlt2,fun z hz=>?_⟩,rfl,⟨rfl,wrap_succ (by omega),trivial⟩,rfl⟩
  rw[List.take_add_one,hy] at hz
  rcases List.mem_append.1 hz with hz|hz
  ·exact hok z hz
  ·rw[List.mem_singleton.1 (show z∈[y] from hz)];exact h3'
def rowB (r:List Val):Bool:=decide (r.length<=20)&&r.all (fun v=>decide (v.s.length<=200))
def rowsG (L:List (List Val)):List GV:=L.map fun r=>.sl .none (vlsG r)
theorem rowsG_cl (L:List (List Val)):ClL (rowsG L):=ClL.mapOf (fun r=>Cl.sl (vlsG_cl r)) L
theorem rowsG_len (L:List (List Val)):(rowsG L).length=L.length:=by simp[rowsG]
theorem l_Rows (L:List (List Val)) (hL:L.length<=100):SC Tryz.prog 20 [.sl .none (rowsG L)] [] (.val (.b (L.all rowB))) []:=by
 have hlen:=rowsG_len L
 refine SC.of_gwp noM mixed Tryz.func20 rfl (Nat.le_of_ble_eq_true rfl) (by first|exact Nat.le_refl _|simp) rfl ?_
 conv=>whnf
 refine GLoop.intro (fun i:Nat=>i<=L.length/\∀z∈L.take i,rowB z=true) (fun i=>[(0,.sl .none (rowsG L)),(3,.i .i64 (i:Nat))]) (fun _=>⟨[],0,[]⟩) (fun i=>L.length - i) 0 ⟨Nat.zero_le _,(fun z h=>by simp at h)⟩ ⟨rfl,rfl,trivial⟩ rfl (fun i φ0 hi=>?_)
 obtain⟨hi,hok⟩:=hi
 conv=>whnf
 refine GIf.mk (fun h=>?_) (fun h=>?_)<;>conv=>whnf
 rotate_left
 ·have hie:i=L.length:=by have:=of_decide_eq_false h;rw[hlen] at this;omega
  refine owes_b ?_
  rw[hie,List.take_length] at hok
  exact(List.all_eq_true.2 hok).symm
 have hlt:i<L.length:=by have:=of_decide_eq_true h;rw[hlen] at this;omega
 obtain⟨r,hy⟩:∃y,L[i]?=some y:=⟨L[i],List.getElem?_eq_getElem hlt⟩
 have hgy:(rowsG L)[i]?=some (.sl .none (vlsG r)):=by unfold rowsG;rw[List.getElem?_map,hy];rfl
 have hl2:=vlsG_len r
 have bad:rowB r=false->L.all rowB=false:=fun h=>List.all_eq_false.2 ⟨r,List.mem_of_getElem? hy,by rw[h];simp⟩
 refine⟨Int.natCast_nonneg _,.sl .none (vlsG r),by rw[Int.toNat_natCast];exact hgy,rfl,?_⟩
 conv=>whnf
 refine GIf.mk (fun h2=>?_) (fun h2=>?_)<;>conv=>whnf
 ·have h2':¬r.length<=20:=by have:=of_decide_eq_true h2;rw[hl2] at this;omega
  refine owes_b ?_
  rw[bad (by unfold rowB;rw[decide_eq_false h2'];rfl)]
 have h2':r.length<=20:=by have:=of_decide_eq_false h2;rw[hl2] at this;omega
 refine GLoop.intro (fun k:Nat=>k<=r.length/\∀v∈r.take k,v.s.length<=200) (fun k=>[(0,.sl .none (rowsG L)),(3,.i .i64 (i:Nat)),(4,.i .i64 (k:Nat))]) (fun _=>⟨[],0,[]⟩) (fun k=>r.length - k) 0 ⟨Nat.zero_le _,(fun z h=>by simp at h)⟩ ⟨rfl,rfl,rfl,trivial⟩ rfl (fun k φ0 hk=>?_)
 obtain⟨hk,hok2⟩:=hk
 conv=>whnf
 refine⟨Int.natCast_nonneg _,.sl .none (vlsG r),by rw[Int.toNat_natCast];exact hgy,rfl,?_⟩
 conv=>whnf
 refine GIf.mk (fun h3=>?_) (fun h3=>?_)<;>conv=>whnf
 rotate_left
 ·have hke:k=r.length:=by have:=of_decide_eq_false h3;rw[hl2] at this;omega
  rw[hke,List.take_length] at hok2
  refine⟨L.length - (i+1),(by show _<L.length - i;omega),i+1,⟨hlt,fun z hz=>?_⟩,rfl,⟨rfl,wrap_succ (by omega),trivial⟩,rfl⟩
  rw[List.take_add_one,hy] at hz
  rcases List.mem_append.1 hz with hz|hz
  ·exact hok z hz
  ·rw[List.mem_singleton.1 (show z∈[r] from hz)]
   unfold rowB
   rw[decide_eq_true h2',Bool.true_and,List.all_eq_true]
   exact fun v hv=>decide_eq_true (hok2 v hv)
 have hklt:k<r.length:=by have:=of_decide_eq_true h3;rw[hl2] at this;omega
 have hkv:∃y,r[k]?=some y:=⟨_,List.getElem?_eq_getElem hklt⟩
 refine hkv.elim (fun v hv=>?_)
 refine⟨Int.natCast_nonneg _,.sl .none (vlsG r),by rw[Int.toNat_natCast];exact hgy,rfl,?_⟩
 conv=>whnf
 refine⟨Int.natCast_nonneg _,_,by rw[Int.toNat_natCast];exact vlsG_at hv,rfl,?_⟩
 conv=>whnf
 refine GIf.mk (fun h4=>?_) (fun h4=>?_)<;>conv=>whnf
 ·have h4':¬v.s.length<=200:=by have:=of_decide_eq_true h4;omega
  refine owes_b ?_
  have:r.all (fun v=>decide (v.s.length<=200))=false:=List.all_eq_false.2 ⟨v,List.mem_of_getElem? hv,by simpa using h4'⟩
  rw[bad (by unfold rowB;rw[this,Bool.and_false])]
 ·have h4':v.s.length<=200:=by have:=of_decide_eq_false h4;omega
  refine⟨r.length - (k+1),(by show _<r.length - k;omega),k+1,⟨hklt,fun z hz=>?_⟩,rfl,⟨rfl,rfl,wrap_succ (by omega),trivial⟩,rfl⟩
  rw[List.take_add_one,hv] at hz
  rcases List.mem_append.1 hz with hz|hz
  ·exact hok2 z hz
  ·rw[List.mem_singleton.1 (show z∈[v] from hz)];exact h4'
theorem items_le {l:List Itm} (h:itemsB l=true):l.length<most:=by
 unfold itemsB at h
 simp only[Bool.and_eq_true,decide_eq_true_eq] at h
 unfold most;omega
theorem row_le {r:List Val} (h:rowB r=true):r.length<most:=by
 unfold rowB at h
 simp only[Bool.and_eq_true,decide_eq_true_eq] at h
 unfold most;omega
end Go.Proofs.YtlhabmglchgdnaaGreatDoor
namespace Go.Proofs.YtlhabmglchgdnaaGreatDoor
open Go.RowKit
set_option maxRecDepth 100000
set_option linter.unusedVariables false
theorem c_readU (s:By):SC Tryz.prog 46 [.s s] [] (.val (readG s)) []:=by
 by_cases hl:1000<s.length
 ·have e:readG s=.tup [.o .nilIface,.i .i64 3]:=by unfold readG readS;rw[if_pos hl]
  rw[e]
  refine SC.of_gwp noM mixed Tryz.func46 rfl (Nat.le_of_ble_eq_true rfl) (by first|exact Nat.le_refl _|simp) rfl ?_
  conv=>whnf
  refine GIf.mk (fun h=>?_) (fun h=>?_)<;>conv=>whnf
  ·exact owes_wk (.refl _) (fun _=>rfl)
  ·exfalso;have:=of_decide_eq_false h;omega
 ·exact c_read s (by unfold most;omega)
end Go.Proofs.YtlhabmglchgdnaaGreatDoor
namespace Go.Proofs.YtlhabmglchgdnaaGreatDoor
open Go.RowKit
set_option maxRecDepth 100000
set_option linter.unusedVariables false
theorem res_read {t:Tree} (hg:t.good) (h:(resS t).2=0):readS (resS t).1=.ok t.flat:=by
 unfold resS at h⊢
 by_cases hc:1000<t.flat.plain.length∨20<t.flat.deep 0
 ·rw[if_pos hc] at h;exact absurd h (by decide)
 ·rw[if_neg hc]
  have h1:¬1000<t.flat.plain.length:=fun h=>hc (.inl h)
  have h2:¬20<t.flat.deep 0:=fun h=>hc (.inr h)
  show readS t.flat.plain=.ok t.flat
  rw[read_plain (flat_good hg) (flat_ok t) (by omega),if_neg h2]
theorem evT_ok {I V:List Itm} {R W:List Val} {t:Tree} {b:Bool} (h:evT I V R W t=(b,0)):(knownB I&&knownB V&&fits2 I R)=true/\checkS I V t=0/\W.length=V.length/\kinds2 V W=true/\b=truthV (valT I V R W) t:=by
 unfold evT at h
 split at h
 ·rename_i h1
  split at h
  ·rename_i h2
   split at h
   ·rename_i h3
    split at h
    ·rename_i h4
     exact⟨h1,h2,h3,h4,(congrArg Prod.fst h).symm⟩
    ·(have h9:=congrArg Prod.snd h;simp at h9)
   ·(have h9:=congrArg Prod.snd h;simp at h9)
  ·rename_i h2
   exact absurd (congrArg Prod.snd h) h2
 ·(have h9:=congrArg Prod.snd h;simp at h9)
theorem evT_mk {I V:List Itm} {R W:List Val} {t:Tree} (h1:(knownB I&&knownB V&&fits2 I R)=true) (h2:checkS I V t=0) (h3:W.length=V.length) (h4:kinds2 V W=true):evT I V R W t=(truthV (valT I V R W) t,0):=by
 unfold evT
 rw[if_pos h1,if_pos h2,if_pos h3,if_pos h4]
theorem check_zero {I V:List Itm} {t:Tree}:checkS I V t=0↔(leaves t).any (fun x=>kindR I V x==0)=false/\(tsts t).any (fun p=>kindR I V p.1 !=kindR I V p.2)=false:=by
 unfold checkS
 cases(leaves t).any (fun x=>kindR I V x==0)<;>cases(tsts t).any (fun p=>kindR I V p.1 !=kindR I V p.2)<;>simp
end Go.Proofs.YtlhabmglchgdnaaGreatDoor
namespace Go.Proofs.YtlhabmglchgdnaaGreatDoor
open Go.RowKit
set_option maxRecDepth 100000
set_option linter.unusedVariables false
theorem r_ReadU (s:By):SC Tryz.prog 48 [.s s] [] (.val (readRG s)) []:=by
 by_cases hl:1000<s.length
 ·have e:readRG s=.tup [nodeN,.i .i64 3]:=by unfold readRG readR;rw[if_pos hl]
  rw[e]
  refine SC.of_gwp noM mixed Tryz.func48 rfl (Nat.le_of_ble_eq_true rfl) (by first|exact Nat.le_refl _|simp) rfl ?_
  conv=>whnf
  refine GIf.mk (fun h=>?_) (fun h=>?_)<;>conv=>whnf
  ·skip
   refine⟨_,⟨rfl,Nat.zero_le _,rfl,Nat.le_of_ble_eq_true rfl⟩,?_⟩
   conv=>whnf
   exact owes_wk (wk_t2 wk_node (.refl _)) (Cl.tup (.cons nodeN_cl (.cons (.i _ _) .nil)))
  ·exfalso;have:=of_decide_eq_false h;omega
 ·exact r_Read s (by omega)
end Go.Proofs.YtlhabmglchgdnaaGreatDoor
namespace Go.Proofs.YtlhabmglchgdnaaGreatDoor
open Go.RowKit
set_option maxRecDepth 100000
set_option linter.unusedVariables false
def Tree.mp (f:Term->Term):Tree->Tree
 |.pair a l r=>.pair a (l.mp f) (r.mp f)
 |.no t=>.no (t.mp f)
 |.test op l r=>.test op (f l) (f r)
 |.truth b=>.truth b
theorem mp_size (f:Term->Term):∀t:Tree,(t.mp f).size=t.size
 |.pair a l r=>by simp only[Tree.mp,Tree.size,mp_size f l,mp_size f r]
 |.no t=>by simp only[Tree.mp,Tree.size,mp_size f t]
 |.test _ _ _=>rfl
 |.truth _=>rfl
theorem mp_good {f:Term->Term} (hf:∀x,x.good->(f x).good):∀{t:Tree},t.good->(t.mp f).good
 |.pair a l r,h=>⟨mp_good hf h.1,mp_good hf h.2⟩
 |.no t,h=>mp_good (t:=t) hf h
 |.test op l r,h=>⟨h.1,hf _ h.2.1,hf _ h.2.2⟩
 |.truth b,h=>trivial
def chF (k:FuncId):GV:=.fn (.func k) [] [.ptr 0 0,.ptr 1 0]
theorem chArgs {k:FuncId} {T0 T1:TypeId} {c0 c1:List GV} {t:Tree} (e:Nat->Nat) (he:∀i,i<[GObj.box T0 c0,GObj.box T1 c1].length->e i=i):[t.gv,chF k].map (GV.ren e)=[t.gv,chF k]:=by
 show[t.gv.ren e,GV.fn _ [] [.ptr (e 0) 0,.ptr (e 1) 0]]=_
 rw[t.cl e,he 0 (by simp),he 1 (by simp)];rfl
theorem chArg1 {T0 T1:TypeId} {c0 c1:List GV} {t:Term} (e:Nat->Nat) (he:∀i,i<[GObj.box T0 c0,GObj.box T1 c1].length->e i=i):[t.gv,.ptr 0 0,.ptr 1 0].map (GV.ren e)=[t.gv,.ptr 0 0,.ptr 1 0]:=by
 show[t.gv.ren e,GV.ptr (e 0) 0,.ptr (e 1) 0]=_
 rw[t.cl e,he 0 (by simp),he 1 (by simp)]
theorem two_own {T0 T1:TypeId} {c0 c1:List GV} (h0:ClL c0) (h1:ClL c1):Own0 [GObj.box T0 c0,GObj.box T1 c1]:=fun e he=>by
 show[GObj.box T0 (c0.map (GV.ren e)),GObj.box T1 (c1.map (GV.ren e))]=_
 rw[h0 e,h1 e]
theorem callPreP {P:Program} {M:FuncId->Bool} {k:FuncId} {args args':List GV} {s rest:List GObj} {r:GV} {σ:GS} {K:GRes->GS->Prop} (h:SC P k args s (.val r) s) (ho:σ.objs=s++rest) (hlo:σ.lo=0)
  (hc:Own0 s) (hh:s.all GObj.notHeld=true) (ha:∀e:Nat->Nat,(∀i,i<s.length->e i=i)->args.map (GV.ren e)=args) (hr:Cl r) (hw:Wks args' args) (hk:K (.val r) σ):gcallK P M (.fn k) args' σ K:=by
 have hh':∀x∈s,x≠ .held:=fun x hx e=>by subst e;have:=List.all_eq_true.1 hh _ hx;cases this
 have he:∀i,i<s.length->emb (List.range s.length) σ.objs.length i=i:=fun i hi=>emb_pre hi
 have hf:=h.fact (σ:=σ) (args':=args') (List.range s.length) (by rw[ho];exact Lies.pre hc hh') hlo (by rw[ha _ he];exact hw)
 rw[show(GRes.val r).ren (emb (List.range s.length) σ.objs.length)=.val r by show GRes.val (r.ren _)=_;rw[hr],ho,putBack_pre rfl hc,<-ho] at hf
 exact⟨_,σ,hf,(fun _ _ _=>rfl),hk⟩
theorem ite_go {c:Prop} [Decidable c] {A B:Prop} (h:c) (ha:A):if c then A else B:=by rw[if_pos h];exact ha
theorem c_changed {k:FuncId} {T0 T1:TypeId} {c0 c1:List GV} {f:Term->Term} (h0:ClL c0) (h1:ClL c1)
  (hk:callable Tryz.prog k=true) (hf:∀t:Term,SC Tryz.prog k [t.gv,.ptr 0 0,.ptr 1 0] [.box T0 c0,.box T1 c1] (.val (f t).gv) [.box T0 c0,.box T1 c1]):
  ∀t:Tree,SC Tryz.prog 67 [t.gv,chF k] [.box T0 c0,.box T1 c1] (.val (t.mp f).gv) [.box T0 c0,.box T1 c1]
 |.pair a x y=>by
  have s1:=c_changed h0 h1 hk hf x
  have s2:=c_changed h0 h1 hk hf y
  have ho:=two_own (T0:=T0) (T1:=T1) h0 h1
  refine SC.of_gwp noM mixed Tryz.func67 rfl (Nat.le_of_ble_eq_true rfl) (Nat.le_of_ble_eq_true rfl) rfl ?_
  conv=>whnf
  refine⟨_,⟨rfl,Nat.zero_le _,rfl,Nat.le_of_ble_eq_true rfl⟩,?_⟩
  conv=>whnf
  refine GDraw.calm (by kernel_rfl) ?_
  conv=>whnf
  refine callPreP (rest:=[.box 134 (Tree.pair a x y).cs]) s1 rfl rfl ho rfl chArgs ((x.mp f).cl) (Wks.refl _) ?_
  conv=>whnf
  refine callPreP (rest:=[.box 134 (Tree.pair a x y).cs]) s2 rfl rfl ho rfl chArgs ((y.mp f).cl) (Wks.refl _) ?_
  conv=>whnf
  exact owesPre (rest:=[_]) rfl (Nat.le_refl _) ho rfl (fun e _=>congrArg GRes.val (Tree.cl (.pair a (x.mp f) (y.mp f)) e)) (Wk.refl _)
 |.no x=>by
  have s1:=c_changed h0 h1 hk hf x
  have ho:=two_own (T0:=T0) (T1:=T1) h0 h1
  refine SC.of_gwp noM mixed Tryz.func67 rfl (Nat.le_of_ble_eq_true rfl) (Nat.le_of_ble_eq_true rfl) rfl ?_
  conv=>whnf
  refine⟨_,⟨rfl,Nat.zero_le _,rfl,Nat.le_of_ble_eq_true rfl⟩,?_⟩
  conv=>whnf
  refine callPreP (rest:=[.box 88 (Tree.no x).cs]) s1 rfl rfl ho rfl chArgs ((x.mp f).cl) (Wks.refl _) ?_
  conv=>whnf
  exact owesPre (rest:=[_]) rfl (Nat.le_refl _) ho rfl (fun e _=>congrArg GRes.val (Tree.cl (.no (x.mp f)) e)) (Wk.refl _)
 |.test op a b=>by
  have s1:=hf a
  have s2:=hf b
  have ho:=two_own (T0:=T0) (T1:=T1) h0 h1
  refine SC.of_gwp noM mixed Tryz.func67 rfl (Nat.le_of_ble_eq_true rfl) (Nat.le_of_ble_eq_true rfl) rfl ?_
  conv=>whnf
  refine⟨_,⟨rfl,Nat.zero_le _,rfl,Nat.le_of_ble_eq_true rfl⟩,?_⟩
  conv=>whnf
  refine GDraw.wild _ _ _ rfl rfl rfl (by kernel_rfl) ?_
  conv=>whnf
  refine ite_go hk ?_
  refine callPreP (rest:=[.held]) s1 rfl rfl ho rfl chArg1 ((f a).cl) (Wks.refl _) ?_
  conv=>whnf
  refine ite_go hk ?_
  refine callPreP (rest:=[.held]) s2 rfl rfl ho rfl chArg1 ((f b).cl) (Wks.refl _) ?_
  conv=>whnf
  exact owesPre (rest:=[_]) rfl (Nat.le_refl _) ho rfl (fun e _=>congrArg GRes.val (Tree.cl (.test op (f a) (f b)) e)) (Wk.refl _)
 |.truth b=>by
  have ho:=two_own (T0:=T0) (T1:=T1) h0 h1
  refine SC.of_gwp noM mixed Tryz.func67 rfl (Nat.le_of_ble_eq_true rfl) (Nat.le_of_ble_eq_true rfl) rfl ?_
  conv=>whnf
  exact owesPre (rest:=[]) rfl (Nat.le_refl _) ho rfl (fun e _=>congrArg GRes.val (Tree.cl (.truth b) e)) (Wk.refl _)
def boundT (x:By) (v:Val) (t:Term):Term:=if t.var=true/\t.name=x then⟨[],false,v⟩ else t
end Go.Proofs.YtlhabmglchgdnaaGreatDoor
