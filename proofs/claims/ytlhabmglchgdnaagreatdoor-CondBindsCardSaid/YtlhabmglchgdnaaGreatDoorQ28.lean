/-
  CondBinds: Bound and Term of every texts, items, row, variables and values are those of the reference, and a condition whose variables are bound is as true as with their values; part 28 of 46. Conditions: none beyond the given statement.
-/
import Derived.Test.YtlhabmglchgdnaaGreatDoorQ27
import Derived.Test.YtlhabmglchgdnaaGreatDoorQ17
import Derived.Test.YtlhabmglchgdnaaGreatDoorTie
import Derived.Test.YtlhabmglchgdnaaGreatDoorCards
import Derived.Carry
set_option linter.all false
namespace Go.Proofs.YtlhabmglchgdnaaGreatDoor
open Go.RowKit
set_option maxRecDepth 100000
set_option linter.unusedVariables false
def seenL (l:List Itm):List (GV×GV):=l.map fun i=>(.s i.name,.b true)
theorem seen_no {l:List Itm} {s:By} (h:∀z∈l,z.name≠s):gfind .string (.s s) (seenL l) 0=some none:=gfind_no gsame_str (fun e he=>by
 obtain⟨z,hz,rfl⟩:=List.mem_map.1 he
 exact⟨z.name,rfl,h z hz⟩)
theorem seen_yes {l:List Itm} {s:By}:∀(j:Nat),(∃z∈l,z.name=s)->∃k,gfind .string (.s s) (seenL l) j=some (some (k,.b true)):=by
 induction l with
 |nil=>rintro j ⟨z,hz,_⟩;cases hz
 |cons x l ih=>
  intro j h
  show∃k,(match gsame .string (.s s) (.s x.name) with|some true=>some (some (j,GV.b true))|some false=>gfind .string (.s s) (seenL l) (j+1)|none=>none)=_
  rw[gsame_str]
  cases hx:(s==x.name) with
  |true=>exact⟨j,rfl⟩
  |false=>
   obtain⟨z,hz,he⟩:=h
   rcases List.mem_cons.1 hz with rfl|hz
   ·rw[he] at hx;simp at hx
   ·exact ih (j+1) ⟨z,hz,he⟩
theorem c_ValidItems (l:List Itm) (hl:l.length<most):SC Tryz.prog 101 [.sl .none (itms l)] [] (.val (.b (decide (0<l.length)&&knownB l))) []:=by
 have hlen:=itms_len l
 have hl':=hl
 unfold most at hl'
 refine SC.of_gwp noM mixed Tryz.func101 rfl (Nat.le_of_ble_eq_true rfl) (by first|exact Nat.le_refl _|simp) rfl ?_
 conv=>whnf
 refine GLoop.introS (fun q:Nat×List (GV×GV)=>q.1<=l.length/\(∀z∈l.take q.1,z.ok=true)/\((l.take q.1).map Itm.name).Nodup/\q.2=seenL (l.take q.1)) (fun q=>[(0,.sl .none (itms l)),(3,.mp 0),(7,.sl .none (itms l)),(8,.i .i64 (itms l).length),(9,.i .i64 (q.1:Nat))])
  (fun q=>⟨[.mp q.2],0,[]⟩) (fun q=>l.length - q.1) (0,[]) ⟨Nat.zero_le _,(fun z h=>by simp at h),by simp,rfl⟩ ⟨rfl,rfl,rfl,rfl,rfl,trivial⟩ rfl (fun _ _=>Nat.le_refl _) (fun q _=>rfl) (fun q hq e he=>?_) (fun q φ0 hi=>?_)
 ·refine⟨?_,rfl,?_⟩
  ·show[(GObj.mp q.2).ren e]=_
   rw[hq.2.2.2]
   show[GObj.mp ((seenL (l.take q.1)).map _)]=_
   unfold seenL
   rw[List.map_map];rfl
  ·show[(GV.sl .none (itms l)).ren e,GV.mp (e 0),(GV.sl .none (itms l)).ren e,_,_]=_
   rw[Cl.sl (itms_cl l) e,he 0 (by simp)];rfl
 obtain⟨i,es⟩:=q
 obtain⟨hi,hok,hnd,hes⟩:=hi
 replace hi:i<=l.length:=hi
 replace hok:∀z∈l.take i,z.ok=true:=hok
 replace hnd:((l.take i).map Itm.name).Nodup:=hnd
 replace hes:es=seenL (l.take i):=hes
 conv=>whnf
 refine GIf.mk (fun h=>?_) (fun h=>?_)<;>conv=>whnf
 rotate_left
 ·have hie:i=l.length:=by have:=of_decide_eq_false h;rw[hlen] at this;omega
  rw[hie,List.take_length] at hok hnd
  have hw:=c_within (l.length:Int) 1 8
  rw[<-hlen] at hw
  refine callP hw (Wks.refl _) rfl (fun _=>rfl) (.b _) ?_
  conv=>whnf
  refine owes_b ?_
  rw[known_end hok hnd,hlen,Bool.eq_iff_iff]
  simp
  omega
 have hlt:i<l.length:=by have:=of_decide_eq_true h;rw[hlen] at this;omega
 obtain⟨y,hy⟩:∃y,l[i]?=some y:=⟨l[i],List.getElem?_eq_getElem hlt⟩
 have hv:=c_ValidItem y
 have hgy:=itms_at hy
 refine⟨Int.natCast_nonneg _,_,by rw[Int.toNat_natCast];exact hgy,rfl,?_⟩
 conv=>whnf
 refine⟨_,⟨rfl,Nat.zero_le _,rfl,Nat.le_of_ble_eq_true rfl⟩,?_⟩
 conv=>whnf
 refine callP hv (Wks.refl _) rfl (fun _=>rfl) (.b _) ?_
 conv=>whnf
 refine GIf.mk (fun h1=>?_) (fun h1=>?_)<;>conv=>whnf
 ·refine owes_b ?_
  rw[known_no hy (.inl (by simpa using h1))];simp
 have h1':y.ok=true:=by simpa using h1
 by_cases hdup:∃z∈l.take i,z.name=y.name
 ·obtain⟨k,hk⟩:=seen_yes 0 hdup
  rw[<-hes] at hk
  refine⟨some (k,.b true),hk,?_⟩
  conv=>whnf
  refine owes_b ?_
  rw[known_no hy (.inr hdup)];simp
 ·have hne:∀z∈l.take i,z.name≠y.name:=fun z hz he=>hdup ⟨z,hz,he⟩
  have hk:=seen_no hne
  rw[<-hes] at hk
  refine⟨none,hk,?_⟩
  conv=>whnf
  refine⟨Nat.le_refl _,none,hk,?_⟩
  conv=>whnf
  have hes':es++[(GV.s y.name,GV.b true)]=seenL (l.take (i+1)):=by
   rw[hes,List.take_add_one,hy]
   unfold seenL
   rw[List.map_append];rfl
  exact⟨l.length - (i+1),(by show _<l.length - i;omega),(i+1,es++[(GV.s y.name,GV.b true)]),⟨hlt,take_all_succ hok hy h1',(nodup_succ hnd hy).2 hne,hes'⟩,rfl,⟨rfl,rfl,rfl,rfl,wrap_succ (by omega),trivial⟩,_,rfl,rfl⟩
theorem ok_kind {v:Val} (h:v.ok=true):v.k=1∨v.k=2:=by
 simp only[Val.ok,Bool.or_eq_true,Bool.and_eq_true,decide_eq_true_eq] at h
 rcases h with h|h
 ·exact .inl h.1.1.1
 ·exact .inr h.1.1
def takesB (i:Itm) (v:Val):Bool:=v.ok&&decide (v.k=i.k)&&((decide (v.k=2)&&decide ((v.s.length:Int)<=i.len))||(decide (v.k=1)&&decide (i.lo<=v.n)&&decide (v.n<=i.hi)))
theorem c_takes (i:Itm) (v:Val):SC Tryz.prog 142 [i.gv,v.gv] [] (.val (.b (takesB i v))) []:=by
 obtain⟨name,k,lo,hi,len⟩:=i
 obtain⟨vk,vn,vs⟩:=v
 have hv:=c_ValidValue ⟨vk,vn,vs⟩
 have hw:=c_within vn lo hi
 unfold takesB
 simp only
 generalize Val.ok ⟨vk,vn,vs⟩=ok at*
 cases ok with
 |false=>
  refine SC.of_gwp noM mixed Tryz.func142 rfl (Nat.le_of_ble_eq_true rfl) (by first|exact Nat.le_refl _|simp) rfl ?_
  conv=>whnf
  refine callP hv (by first|exact Wks.refl _|exact Wks.cons (Wk.sl _ _) (Wks.refl _)|exact Wks.cons (Wk.sl _ _) (Wks.cons (Wk.sl _ _) (Wks.refl _))|exact Wks.cons (Wk.refl _) (Wks.cons (Wk.sl _ _) (Wks.refl _))) rfl (by first|exact fun _=>rfl|exact Cl.sl (ClL.mapOf (fun _=>Cl.s _) _)|exact ClL.cons (Cl.sl (ClL.mapOf (fun _=>Cl.s _) _)) (fun _=>rfl)) (by first|exact fun _=>rfl|exact Cl.sl (ClL.mapOf (fun _=>Cl.s _) _)|exact ClL.cons (Cl.sl (ClL.mapOf (fun _=>Cl.s _) _)) (fun _=>rfl)) ?_
  conv=>whnf
  exact owes_b rfl
 |true=>
  refine SC.of_gwp noM mixed Tryz.func142 rfl (Nat.le_of_ble_eq_true rfl) (by first|exact Nat.le_refl _|simp) rfl ?_
  conv=>whnf
  refine callP hv (by first|exact Wks.refl _|exact Wks.cons (Wk.sl _ _) (Wks.refl _)|exact Wks.cons (Wk.sl _ _) (Wks.cons (Wk.sl _ _) (Wks.refl _))|exact Wks.cons (Wk.refl _) (Wks.cons (Wk.sl _ _) (Wks.refl _))) rfl (by first|exact fun _=>rfl|exact Cl.sl (ClL.mapOf (fun _=>Cl.s _) _)|exact ClL.cons (Cl.sl (ClL.mapOf (fun _=>Cl.s _) _)) (fun _=>rfl)) (by first|exact fun _=>rfl|exact Cl.sl (ClL.mapOf (fun _=>Cl.s _) _)|exact ClL.cons (Cl.sl (ClL.mapOf (fun _=>Cl.s _) _)) (fun _=>rfl)) ?_
  conv=>whnf
  repeat' first
   |(refine GIf.mk (fun _=>?_) (fun _=>?_)<;>conv=>whnf)
   |(refine GDraw.calm (by kernel_rfl) ?_;conv=>whnf)
   |(refine⟨_,⟨rfl,Nat.zero_le _,rfl,Nat.le_of_ble_eq_true rfl⟩,?_⟩;conv=>whnf)
   |(refine callP hw (by first|exact Wks.refl _|exact Wks.cons (Wk.sl _ _) (Wks.refl _)|exact Wks.cons (Wk.sl _ _) (Wks.cons (Wk.sl _ _) (Wks.refl _))|exact Wks.cons (Wk.refl _) (Wks.cons (Wk.sl _ _) (Wks.refl _))) rfl (by first|exact fun _=>rfl|exact Cl.sl (ClL.mapOf (fun _=>Cl.s _) _)|exact ClL.cons (Cl.sl (ClL.mapOf (fun _=>Cl.s _) _)) (fun _=>rfl)) (by first|exact fun _=>rfl|exact Cl.sl (ClL.mapOf (fun _=>Cl.s _) _)|exact ClL.cons (Cl.sl (ClL.mapOf (fun _=>Cl.s _) _)) (fun _=>rfl)) ?_;conv=>whnf)
  all_goals
   refine owes_b ?_
   rw[Bool.eq_iff_iff]
   simp at*
   try omega
theorem r_Holds (i:Itm) (v:Val):SC Tryz.prog 152 [i.gv,v.gv] [] (.val (.b (takesB i v))) []:=by
 obtain⟨name,k,lo,hi,len⟩:=i
 obtain⟨vk,vn,vs⟩:=v
 have hv:=r_ValidValue ⟨vk,vn,vs⟩
 unfold takesB
 simp only
 have hk:Val.ok ⟨vk,vn,vs⟩=true->vk=1∨vk=2:=fun h=>by
  rcases ok_kind h with h|h
  ·exact .inl h
  ·exact .inr h
 generalize Val.ok ⟨vk,vn,vs⟩=ok at*
 cases ok with
 |false=>
  refine SC.of_gwp noM mixed Tryz.func152 rfl (Nat.le_of_ble_eq_true rfl) (by first|exact Nat.le_refl _|simp) rfl ?_
  conv=>whnf
  refine callP hv (by first|exact Wks.refl _|exact Wks.cons (Wk.sl _ _) (Wks.refl _)|exact Wks.cons (Wk.sl _ _) (Wks.cons (Wk.sl _ _) (Wks.refl _))|exact Wks.cons (Wk.refl _) (Wks.cons (Wk.sl _ _) (Wks.refl _))) rfl (by first|exact fun _=>rfl|exact Cl.sl (ClL.mapOf (fun _=>Cl.s _) _)|exact ClL.cons (Cl.sl (ClL.mapOf (fun _=>Cl.s _) _)) (fun _=>rfl)) (by first|exact fun _=>rfl|exact Cl.sl (ClL.mapOf (fun _=>Cl.s _) _)|exact ClL.cons (Cl.sl (ClL.mapOf (fun _=>Cl.s _) _)) (fun _=>rfl)) ?_
  conv=>whnf
  exact owes_b rfl
 |true=>
  have hk:=hk rfl
  refine SC.of_gwp noM mixed Tryz.func152 rfl (Nat.le_of_ble_eq_true rfl) (by first|exact Nat.le_refl _|simp) rfl ?_
  conv=>whnf
  refine callP hv (by first|exact Wks.refl _|exact Wks.cons (Wk.sl _ _) (Wks.refl _)|exact Wks.cons (Wk.sl _ _) (Wks.cons (Wk.sl _ _) (Wks.refl _))|exact Wks.cons (Wk.refl _) (Wks.cons (Wk.sl _ _) (Wks.refl _))) rfl (by first|exact fun _=>rfl|exact Cl.sl (ClL.mapOf (fun _=>Cl.s _) _)|exact ClL.cons (Cl.sl (ClL.mapOf (fun _=>Cl.s _) _)) (fun _=>rfl)) (by first|exact fun _=>rfl|exact Cl.sl (ClL.mapOf (fun _=>Cl.s _) _)|exact ClL.cons (Cl.sl (ClL.mapOf (fun _=>Cl.s _) _)) (fun _=>rfl)) ?_
  conv=>whnf
  repeat' first
   |(refine GIf.mk (fun _=>?_) (fun _=>?_)<;>conv=>whnf)
   |(refine GDraw.calm (by kernel_rfl) ?_;conv=>whnf)
   |(refine⟨_,⟨rfl,Nat.zero_le _,rfl,Nat.le_of_ble_eq_true rfl⟩,?_⟩;conv=>whnf)
  all_goals
   refine owes_b ?_
   rw[Bool.eq_iff_iff]
   simp at*
   try omega
theorem c_listed (l:List Itm) (hl:l.length<most):SC Tryz.prog 53 [.sl .none (itms l)] [] (.val (.b (knownB l))) []:=by
 have hk:=c_ValidItems l hl
 have hlen:=itms_len l
 refine SC.of_gwp noM mixed Tryz.func53 rfl (Nat.le_of_ble_eq_true rfl) (by first|exact Nat.le_refl _|simp) rfl ?_
 conv=>whnf
 refine GIf.mk (fun h=>?_) (fun h=>?_)<;>conv=>whnf
 ·refine owes_b ?_
  have h0:l.length=0:=by
   have h9:((itms l).length:Int)=0:=by simpa using h
   omega
  rw[List.eq_nil_of_length_eq_zero h0];rfl
 ·refine callP hk (Wks.refl _) rfl (ClL.cons (Cl.sl (itms_cl l)) .nil) (.b _) ?_
  conv=>whnf
  refine owes_b ?_
  have h0:0<l.length:=by
   have h9:¬((itms l).length:Int)=0:=by simpa using h
   omega
  rw[decide_eq_true h0];rfl
def vlsG (l:List Val):List GV:=l.map Val.gv
theorem vlsG_cl (l:List Val):ClL (vlsG l):=ClL.mapOf Val.cl l
theorem vlsG_len (l:List Val):(vlsG l).length=l.length:=by simp[vlsG]
theorem vlsG_at {l:List Val} {i:Nat} {y:Val} (h:l[i]?=some y):(vlsG l)[i]?=some (.agg [.i .i64 y.k,.i .i64 y.n,.s y.s]):=by
 unfold vlsG;rw[List.getElem?_map,h];rfl
def eachB:List Itm->List Val->Bool
 |[],[]=>true
 |i::l,v::r=>takesB i v&&eachB l r
 |_,_=>false
theorem each_len:∀{l:List Itm} {r:List Val},eachB l r=true->l.length=r.length
 |[],[],_=>rfl
 |i::l,v::r,h=>by
  simp only[eachB,Bool.and_eq_true] at h
  simp[each_len h.2]
 |[],_::_,h=>by cases h
 |_::_,[],h=>by cases h
theorem each_iff:∀{l:List Itm} {r:List Val},l.length=r.length->(eachB l r=true↔∀(i:Nat) x y,l[i]?=some x->r[i]?=some y->takesB x y=true)
 |[],[],_=>⟨fun _ i x y h=>by simp at h,fun _=>rfl⟩
 |x::l,v::r,h=>by
  simp only[List.length_cons,Nat.add_right_cancel_iff] at h
  simp only[eachB,Bool.and_eq_true,each_iff h]
  constructor
  ·rintro⟨h1,h2⟩ i a b ha hb
   cases i with
   |zero=>simp at ha hb;rw[<-ha,<-hb];exact h1
   |succ i=>exact h2 i a b (by simpa using ha) (by simpa using hb)
  ·intro h2
   exact⟨h2 0 x v rfl rfl,fun i a b ha hb=>h2 (i+1) a b (by simpa using ha) (by simpa using hb)⟩
 |[],_::_,h=>by simp at h
 |_::_,[],h=>by simp at h
theorem each_no {l:List Itm} {r:List Val} {i:Nat} {x:Itm} {y:Val} (hl:l.length=r.length) (hx:l[i]?=some x) (hy:r[i]?=some y) (h:takesB x y=false):eachB l r=false:=by
 cases he:eachB l r with
 |false=>rfl
 |true=>rw[(each_iff hl).1 he i x y hx hy] at h;cases h
def fitsB (l:List Itm) (r:List Val):Bool:=decide (0<l.length)&&knownB l&&eachB l r
theorem c_Equal (l:List Itm) (r:List Val) (hl:l.length<most) (hr:r.length<most):SC Tryz.prog 141 [.sl .none (itms l),.sl .none (vlsG r),.fn (.func 142) [] []] [] (.val (.b (eachB l r))) []:=by
 have h1:=itms_len l
 have h2:=vlsG_len r
 unfold most at hl hr
 refine SC.of_gwp noM mixed Tryz.func141 rfl (Nat.le_of_ble_eq_true rfl) (by first|exact Nat.le_refl _|simp) rfl ?_
 conv=>whnf
 refine GIf.mk (fun h=>?_) (fun h=>?_)<;>conv=>whnf
 ·refine owes_b ?_
  cases he:eachB l r with
  |false=>rfl
  |true=>have:=each_len he;simp[h1,h2,this] at h
 have hlr:l.length=r.length:=by
  have h9:((itms l).length:Int)=(vlsG r).length:=by simpa using h
  omega
 refine GLoop.introS (fun i:Nat=>i<=l.length/\∀(j:Nat) x y,j<i->l[j]?=some x->r[j]?=some y->takesB x y=true) (fun i=>[(0,.sl .none (itms l)),(1,.sl .none (vlsG r)),(2,.fn (.func 142) [] []),(15,.sl .none (itms l)),(16,.i .i64 (itms l).length),(17,.i .i64 (i:Nat))])
  (fun _=>⟨[],0,[]⟩) (fun i=>l.length - i) 0 ⟨Nat.zero_le _,fun j x y h=>by omega⟩ ⟨rfl,rfl,rfl,rfl,rfl,rfl,trivial⟩ rfl (fun _ _=>Nat.le_refl _) (fun _ _=>rfl) (fun i _ e he=>?_) (fun i φ0 hi=>?_)
 ·refine⟨rfl,rfl,?_⟩
  show[(GV.sl .none (itms l)).ren e,(GV.sl .none (vlsG r)).ren e,_,(GV.sl .none (itms l)).ren e,_,_]=_
  rw[Cl.sl (itms_cl l) e,Cl.sl (vlsG_cl r) e];rfl
 obtain⟨hi,hok⟩:=hi
 conv=>whnf
 refine GIf.mk (fun h3=>?_) (fun h3=>?_)<;>conv=>whnf
 rotate_left
 ·have hie:i=l.length:=by have:=of_decide_eq_false h3;rw[h1] at this;omega
  refine owes_b ?_
  exact((each_iff hlr).2 (fun j x y hx hy=>hok j x y (by have:=(List.getElem?_eq_some_iff.1 hx).1;omega) hx hy)).symm
 have hlt:i<l.length:=by have:=of_decide_eq_true h3;rw[h1] at this;omega
 obtain⟨x,hx⟩:∃x,l[i]?=some x:=⟨l[i],List.getElem?_eq_getElem hlt⟩
 obtain⟨y,hy⟩:∃y,r[i]?=some y:=⟨r[i]'(by omega),List.getElem?_eq_getElem (by omega)⟩
 have ht:=c_takes x y
 have hgx:=itms_at hx
 have hgy:=vlsG_at hy
 refine⟨Int.natCast_nonneg _,_,by rw[Int.toNat_natCast];exact hgx,rfl,?_⟩
 conv=>whnf
 refine⟨_,⟨rfl,Nat.zero_le _,rfl,Nat.le_of_ble_eq_true rfl⟩,?_⟩
 conv=>whnf
 refine⟨Int.natCast_nonneg _,_,by rw[Int.toNat_natCast];exact hgy,rfl,?_⟩
 conv=>whnf
 refine⟨_,⟨rfl,Nat.zero_le _,rfl,Nat.le_of_ble_eq_true rfl⟩,?_⟩
 conv=>whnf
 refine callP ht (Wks.refl _) rfl (fun _=>rfl) (.b _) ?_
 conv=>whnf
 refine GIf.mk (fun h4=>?_) (fun h4=>?_)<;>conv=>whnf
 ·refine owes_b ?_
  exact(each_no hlr hx hy (by simpa using h4)).symm
 ·have h5:takesB x y=true:=by simpa using h4
  exact⟨l.length - (i+1),(by show _<l.length - i;omega),i+1,⟨hlt,fun j x' y' hj hx' hy'=>by
   by_cases hji:j=i
   ·subst hji;rw[hx] at hx';rw[hy] at hy';cases hx';cases hy';exact h5
   ·exact hok j x' y' (by omega) hx' hy'⟩,rfl,⟨rfl,rfl,rfl,rfl,rfl,wrap_succ (by omega),trivial⟩,_,rfl,rfl⟩
theorem r_Fits1 (l:List Itm) (r:List Val) (hl:l.length<most) (hr:r.length<most):SC Tryz.prog 108 [.sl .none (itms l),.sl .none (vlsG r)] [] (.val (.b (fitsB l r))) []:=by
 have h1:=itms_len l
 have h2:=vlsG_len r
 have hv:=r_ValidItems1 l hl
 unfold fitsB
 unfold most at hl hr
 generalize(decide (0<l.length)&&knownB l)=b at*
 refine SC.of_gwp noM mixed Tryz.func108 rfl (Nat.le_of_ble_eq_true rfl) (by first|exact Nat.le_refl _|simp) rfl ?_
 conv=>whnf
 refine callP hv (Wks.refl _) rfl (ClL.cons (Cl.sl (itms_cl l)) .nil) (.b _) ?_
 conv=>whnf
 refine GIf.mk (fun hb=>?_) (fun hb=>?_)<;>conv=>whnf
 ·refine owes_b ?_
  have:b=false:=by simpa using hb
  rw[this];rfl
 have hb':b=true:=by simpa using hb
 rw[hb',Bool.true_and]
 refine GIf.mk (fun h=>?_) (fun h=>?_)<;>conv=>whnf
 ·refine owes_b ?_
  cases he:eachB l r with
  |false=>rfl
  |true=>have:=each_len he;simp[h1,h2,this] at h
 have hlr:l.length=r.length:=by
  have h9:((vlsG r).length:Int)=(itms l).length:=by simpa using h
  omega
 refine GLoop.introS (fun i:Nat=>i<=l.length/\∀(j:Nat) x y,j<i->l[j]?=some x->r[j]?=some y->takesB x y=true) (fun i=>[(0,.sl .none (itms l)),(1,.sl .none (vlsG r)),(5,.i .i64 (i:Nat))])
  (fun _=>⟨[],0,[]⟩) (fun i=>l.length - i) 0 ⟨Nat.zero_le _,fun j x y h=>by omega⟩ ⟨rfl,rfl,rfl,trivial⟩ rfl (fun _ _=>Nat.le_refl _) (fun _ _=>rfl) (fun i _ e he=>?_) (fun i φ0 hi=>?_)
 ·refine⟨rfl,rfl,?_⟩
  show[(GV.sl .none (itms l)).ren e,(GV.sl .none (vlsG r)).ren e,_]=_
  rw[Cl.sl (itms_cl l) e,Cl.sl (vlsG_cl r) e];rfl
 obtain⟨hi,hok⟩:=hi
 conv=>whnf
 refine GIf.mk (fun h3=>?_) (fun h3=>?_)<;>conv=>whnf
 rotate_left
 ·have hie:i=l.length:=by have:=of_decide_eq_false h3;rw[h1] at this;omega
  refine owes_b ?_
  exact((each_iff hlr).2 (fun j x y hx hy=>hok j x y (by have:=(List.getElem?_eq_some_iff.1 hx).1;omega) hx hy)).symm
 have hlt:i<l.length:=by have:=of_decide_eq_true h3;rw[h1] at this;omega
 obtain⟨x,hx⟩:∃x,l[i]?=some x:=⟨l[i],List.getElem?_eq_getElem hlt⟩
 obtain⟨y,hy⟩:∃y,r[i]?=some y:=⟨r[i]'(by omega),List.getElem?_eq_getElem (by omega)⟩
 have ht:=r_Holds x y
 have hgx:=itms_at hx
 have hgy:=vlsG_at hy
 refine GDraw.calm (by kernel_rfl) ?_
 conv=>whnf
 refine⟨Int.natCast_nonneg _,_,by rw[Int.toNat_natCast];exact hgx,rfl,?_⟩
 conv=>whnf
 refine⟨Int.natCast_nonneg _,_,by rw[Int.toNat_natCast];exact hgy,rfl,?_⟩
 conv=>whnf
 refine callP ht (Wks.refl _) rfl (fun _=>rfl) (.b _) ?_
 conv=>whnf
 refine GIf.mk (fun h4=>?_) (fun h4=>?_)<;>conv=>whnf
 ·refine owes_b ?_
  exact(each_no hlr hx hy (by simpa using h4)).symm
 ·have h5:takesB x y=true:=by simpa using h4
  exact⟨l.length - (i+1),(by show _<l.length - i;omega),i+1,⟨hlt,fun j x' y' hj hx' hy'=>by
   by_cases hji:j=i
   ·subst hji;rw[hx] at hx';rw[hy] at hy';cases hx';cases hy';exact h5
   ·exact hok j x' y' (by omega) hx' hy'⟩,rfl,⟨rfl,rfl,wrap_succ (by omega),trivial⟩,_,rfl,rfl⟩
theorem c_Fits (l:List Itm) (r:List Val) (hl:l.length<most) (hr:r.length<most):SC Tryz.prog 105 [.sl .none (itms l),.sl .none (vlsG r)] [] (.val (.b (fitsB l r))) []:=by
 have hv:=c_ValidItems l hl
 have he:=c_Equal l r hl hr
 unfold fitsB
 generalize(decide (0<l.length)&&knownB l)=b at*
 refine SC.of_gwp noM mixed Tryz.func105 rfl (Nat.le_of_ble_eq_true rfl) (by first|exact Nat.le_refl _|simp) rfl ?_
 conv=>whnf
 refine callP hv (Wks.refl _) rfl (ClL.cons (Cl.sl (itms_cl l)) .nil) (.b _) ?_
 conv=>whnf
 cases b with
 |false=>exact owes_b rfl
 |true=>
  conv=>whnf
  refine callP he (Wks.refl _) rfl (ClL.cons (Cl.sl (itms_cl l)) (.cons (Cl.sl (vlsG_cl r)) (fun _=>rfl))) (.b _) ?_
  conv=>whnf
  exact owes_b rfl
def fits2 (l:List Itm) (r:List Val):Bool:=knownB l&&(decide (l.length=0/\r.length=0)||fitsB l r)
theorem r_fits2 (l:List Itm) (r:List Val) (hl:l.length<most) (hr:r.length<most):SC Tryz.prog 59 [.sl .none (itms l),.sl .none (vlsG r)] [] (.val (.b (fits2 l r))) []:=by
 have hk:=r_Known1 l hl
 have hf:=r_Fits1 l r hl hr
 have h1:=itms_len l
 have h2:=vlsG_len r
 unfold fits2
 generalize fitsB l r=f at*
 generalize knownB l=b at*
 refine SC.of_gwp noM mixed Tryz.func59 rfl (Nat.le_of_ble_eq_true rfl) (by first|exact Nat.le_refl _|simp) rfl ?_
 conv=>whnf
 refine callP hk (Wks.refl _) rfl (ClL.cons (Cl.sl (itms_cl l)) .nil) (.b _) ?_
 conv=>whnf
 cases b with
 |false=>exact owes_b rfl
 |true=>
  conv=>whnf
  refine GIf.mk (fun c1=>?_) (fun c1=>?_)<;>conv=>whnf
  ·have c1':l.length=0:=by
    have h9:((itms l).length:Int)=0:=by simpa using c1
    omega
   refine GIf.mk (fun c2=>?_) (fun c2=>?_)<;>conv=>whnf
   ·refine owes_b ?_
    have c2':r.length=0:=by
     have h9:((vlsG r).length:Int)=0:=by simpa using c2
     omega
    rw[decide_eq_true ⟨c1',c2'⟩];rfl
   ·refine callP hf (Wks.refl _) rfl (ClL.cons (Cl.sl (itms_cl l)) (.cons (Cl.sl (vlsG_cl r)) .nil)) (.b _) ?_
    conv=>whnf
    refine owes_b ?_
    have c2':¬r.length=0:=by
     have h9:¬((vlsG r).length:Int)=0:=by simpa using c2
     omega
    rw[decide_eq_false (fun h=>c2' h.2)];rfl
  ·refine callP hf (Wks.refl _) rfl (ClL.cons (Cl.sl (itms_cl l)) (.cons (Cl.sl (vlsG_cl r)) .nil)) (.b _) ?_
   conv=>whnf
   refine owes_b ?_
   have c1':¬l.length=0:=by
    have h9:¬((itms l).length:Int)=0:=by simpa using c1
    omega
   rw[decide_eq_false (fun h=>c1' h.1)];rfl
end Go.Proofs.YtlhabmglchgdnaaGreatDoor
namespace Go.Proofs.YtlhabmglchgdnaaGreatDoor
open Go Go.ChangeShapes Go.WideShapes Go.RowKit
set_option maxRecDepth 100000
set_option linter.unusedVariables false
theorem list_of {α:Type} {Q:Nat->α->Prop}:∀n,(∀i,i<n->∃a,Q i a)->∃l:List α,l.length=n/\∀i a,l[i]?=some a->Q i a
 |0,_=>⟨[],rfl,fun i a h=>by simp at h⟩
 |n+1,h=>by
  obtain⟨l,hl,hq⟩:=list_of n (fun i hi=>h i (by omega))
  obtain⟨a,ha⟩:=h n (by omega)
  refine⟨l++[a],by simp[hl],fun i b hb=>?_⟩
  rcases Nat.lt_trichotomy i n with hi|rfl|hi
  ·rw[List.getElem?_append_left (by omega)] at hb;exact hq i b hb
  ·rw[List.getElem?_append_right (by omega),hl] at hb;simp at hb;subst hb;exact ha
  ·rw[List.getElem?_eq_none (by simp;omega)] at hb;cases hb
theorem add_plain (b off n:Nat):(⟨b,off,none⟩:Addr).add n=⟨b,off+n,none⟩:=by
 unfold Addr.add
 split
 ·rename_i h;subst h;rfl
 ·rfl
theorem slice_up {H:Type} {enc:TypeId×Value->H} {P:Program} {W:World} {r:Reach} {b0 base:Nat} {sp:Nat->Bool} {held:Bool} {α:Type} (vals:α->List Value) (gv:α->GV) {t e:TypeId} {v:Value} {d:DataW H} {ps:List MemPlace}
  (ht:P.underlying t=some (.slice e)) {esz:Nat} (hc:P.cellsOf e=esz)
  (elem:∀(n:Nat) cs x,DataW.trod enc P W base sp held n e cs=some x->∃a:α,cs=vals a)
  (hg:∀a,(gv a).cells.length=esz) (hv:∀a,(vals a).length=esz)
  (hvr:∀(C:Cx) a (j:Nat) g u,(gv a).cells[j]?=some g->(vals a)[j]?=some u->VR C g u)
  (hval:Value.okWide P W r b0 t v) (hd:DataW.Trod enc P W base sp held t v d ps):
  ∃l:List α,l.length<=maxLen/\VR (C0 W) (.sl .none (l.map gv)) v:=by
 have hspot:∀a len cap,v=.slice (some a) len cap->a.spot=none:=by
  rintro a len cap rfl
  simp only[Value.okWide,ht,Cell.okWide,Cell.ok,World.has] at hval
  exact hval.2.2.2.1
 obtain⟨a0,len0,cap0,rfl⟩:=okWide_slice ht hval
 obtain⟨fuel,hf⟩:=hd
 rcases DataW.trod_slice ht hf with⟨hcs,_⟩|⟨a,len,cap,elems,rest,n,_,hcs,_,hb,hl,hm,hlen,hel,_,_⟩
 ·simp[Value.cells] at hcs
  obtain⟨rfl,rfl,rfl⟩:=hcs
  exact⟨[],Nat.zero_le _,.sl 0 0 0 (fun _=>.bool false) rfl (Nat.le_refl _) (.inl ⟨rfl,rfl⟩) (by simp) (by simp) (by simp) trivial⟩
 ·simp[Value.cells] at hcs
  obtain⟨rfl,rfl,rfl⟩:=hcs
  have hsp:=hspot a len0 cap0 rfl
  obtain⟨b,off,spot⟩:=a
  simp only at hsp
  subst hsp
  obtain⟨l,hll,hq⟩:=list_of (Q:=fun i x=>W.cells? base ((⟨b,off,none⟩:Addr).add (i*esz)) esz=some (vals x)) len0 (fun i hi=>by
   have h1:=hel i hi
   have hy:elems[i]?=some (elems[i]'(by omega)):=List.getElem?_eq_getElem (by omega)
   rw[hy,Option.bind_eq_some_iff,hc] at h1
   obtain⟨cs',h1,h2⟩:=h1
   obtain⟨x,rfl⟩:=elem _ _ _ h2
   exact⟨x,h1⟩)
  have hcell:∀(i:Nat) x (j:Nat) u,l[i]?=some x->(vals x)[j]?=some u->W.cell? ⟨b,off+i*esz+j,none⟩=some u:=fun i x j u hx hu=>by
   obtain⟨_,hn,hh⟩:=World.cells?_some (hq i x hx)
   have hj:j<esz:=by rw[<-hn];exact(List.getElem?_eq_some_iff.1 hu).1
   have:=hh j hj
   rw[add_plain,add_plain,hu] at this
   exact this
  refine⟨l,by omega,.sl esz b off (fun k=>(W.cell? ⟨b,off+k,none⟩).getD (.bool false)) (by simp[hll]) hl (.inr rfl) (fun x hx=>?_) (fun i x j g hx hj=>?_) (fun i x j g hx hj=>?_) trivial⟩
  ·obtain⟨y,_,rfl⟩:=List.mem_map.1 hx
   exact hg y
  all_goals
   rw[List.getElem?_map] at hx
   obtain⟨y,hy,rfl⟩:=Option.map_eq_some_iff.1 hx
   have hjl:j<(vals y).length:=by
    have:=(List.getElem?_eq_some_iff.1 hj).1
    rw[hg] at this;rw[hv];exact this
   have hu:(vals y)[j]?=some (vals y)[j]:=List.getElem?_eq_getElem hjl
   have hce:=hcell i y j _ hy hu
   rw[<-Nat.add_assoc,hce,Option.getD_some]
  ·exact hce
  ·exact hvr _ y j g _ hj hu
theorem five {α:Type} {cs:List α} (h:cs.length=5):∃a b c d e,cs=[a,b,c,d,e]:=by
 match cs,h with
 |[a,b,c,d,e],_=>exact⟨a,b,c,d,e,rfl⟩
theorem three {α:Type} {cs:List α} (h:cs.length=3):∃a b c,cs=[a,b,c]:=by
 match cs,h with
 |[a,b,c],_=>exact⟨a,b,c,rfl⟩
theorem und_item:Tryz.prog.underlying 47=some (.struct #[{name:= "Name",type:=9,offset:=0,embedded:=false,tag:= "",pkgPath:= "",byteOffset:=0},{name:= "Kind",type:=3,offset:=1,embedded:=false,tag:= "",pkgPath:= "",byteOffset:=16},{name:= "Low",type:=3,offset:=2,embedded:=false,tag:= "",pkgPath:= "",byteOffset:=24},{name:= "High",type:=3,offset:=3,embedded:=false,tag:= "",pkgPath:= "",byteOffset:=32},{name:= "Len",type:=3,offset:=4,embedded:=false,tag:= "",pkgPath:= "",byteOffset:=40}]):=by kernel_rfl
theorem und_val:Tryz.prog.underlying 53=some (.struct #[{name:= "Kind",type:=3,offset:=0,embedded:=false,tag:= "",pkgPath:= "",byteOffset:=0},{name:= "N",type:=3,offset:=1,embedded:=false,tag:= "",pkgPath:= "",byteOffset:=8},{name:= "S",type:=9,offset:=2,embedded:=false,tag:= "",pkgPath:= "",byteOffset:=16}]):=by kernel_rfl
theorem und_int:Tryz.prog.underlying 3=some (.int .i64):=by kernel_rfl
theorem und_items:Tryz.prog.underlying 31=some (.slice 47):=by kernel_rfl
theorem und_vals:Tryz.prog.underlying 32=some (.slice 53):=by kernel_rfl
theorem cells_str:Tryz.prog.cellsOf 9=1:=by kernel_rfl
theorem cells_int:Tryz.prog.cellsOf 3=1:=by kernel_rfl
theorem cells_item:Tryz.prog.cellsOf 47=5:=by kernel_rfl
theorem cells_val:Tryz.prog.cellsOf 53=3:=by kernel_rfl
def itmV (i:Itm):List Value:=[.string ⟨i.name.toArray⟩,.int .i64 i.k,.int .i64 i.lo,.int .i64 i.hi,.int .i64 i.len]
def valV (v:Val):List Value:=[.int .i64 v.k,.int .i64 v.n,.string ⟨v.s.toArray⟩]
section
variable {H : Type} {enc : TypeId × Value → H} {W : World} {base n : Nat} {sp : Nat → Bool} {held : Bool} {cs : List Value} {x : DataW H × List MemPlace}
theorem one_int {v:Value} {y:Option (DataW H×List MemPlace)} (h:DataW.trod enc Tryz.prog W base sp held n 3 [v]=y) (hy:y.isSome=true):∃z,v=.int .i64 z:=by
 obtain⟨y',rfl⟩:=Option.isSome_iff_exists.1 hy
 obtain⟨z,hz,_⟩:=DataW.trod_int und_int h
 exact⟨z,by simpa using hz⟩
theorem one_str {v:Value} {y:Option (DataW H×List MemPlace)} (h:DataW.trod enc Tryz.prog W base sp held n 9 [v]=y) (hy:y.isSome=true):∃z:List UInt8,v=.string ⟨z.toArray⟩:=by
 obtain⟨y',rfl⟩:=Option.isSome_iff_exists.1 hy
 obtain⟨z,hz,_⟩:=DataW.trod_string und_str h
 exact⟨z.data.toList,by simpa using hz⟩
theorem item_elem (h:DataW.trod enc Tryz.prog W base sp held n 47 cs=some x):∃i:Itm,cs=itmV i:=by
 obtain⟨xs,m,rfl,_,hlen,hxs,hf⟩:=DataW.trod_struct und_item h
 rw[cells_item] at hlen
 obtain⟨c0,c1,c2,c3,c4,rfl⟩:=five hlen
 have f0:DataW.trod enc Tryz.prog W base sp held m 9 (([c0,c1,c2,c3,c4].drop 0).take (Tryz.prog.cellsOf 9))=xs[0]?:=hf 0 _ rfl
 have f1:DataW.trod enc Tryz.prog W base sp held m 3 (([c0,c1,c2,c3,c4].drop 1).take (Tryz.prog.cellsOf 3))=xs[1]?:=hf 1 _ rfl
 have f2:DataW.trod enc Tryz.prog W base sp held m 3 (([c0,c1,c2,c3,c4].drop 2).take (Tryz.prog.cellsOf 3))=xs[2]?:=hf 2 _ rfl
 have f3:DataW.trod enc Tryz.prog W base sp held m 3 (([c0,c1,c2,c3,c4].drop 3).take (Tryz.prog.cellsOf 3))=xs[3]?:=hf 3 _ rfl
 have f4:DataW.trod enc Tryz.prog W base sp held m 3 (([c0,c1,c2,c3,c4].drop 4).take (Tryz.prog.cellsOf 3))=xs[4]?:=hf 4 _ rfl
 rw[cells_str] at f0
 rw[cells_int] at f1 f2 f3 f4
 have hn:∀i,i<5->(xs[i]?).isSome=true:=fun i hi=>by
  rw[List.getElem?_eq_getElem (by rw[hxs];exact hi)];rfl
 obtain⟨a,rfl⟩:=one_str f0 (hn 0 (by decide))
 obtain⟨b,rfl⟩:=one_int f1 (hn 1 (by decide))
 obtain⟨c,rfl⟩:=one_int f2 (hn 2 (by decide))
 obtain⟨d,rfl⟩:=one_int f3 (hn 3 (by decide))
 obtain⟨e,rfl⟩:=one_int f4 (hn 4 (by decide))
 exact⟨⟨a,b,c,d,e⟩,rfl⟩
theorem val_elem (h:DataW.trod enc Tryz.prog W base sp held n 53 cs=some x):∃i:Val,cs=valV i:=by
 obtain⟨xs,m,rfl,_,hlen,hxs,hf⟩:=DataW.trod_struct und_val h
 rw[cells_val] at hlen
 obtain⟨c0,c1,c2,rfl⟩:=three hlen
 have f0:DataW.trod enc Tryz.prog W base sp held m 3 (([c0,c1,c2].drop 0).take (Tryz.prog.cellsOf 3))=xs[0]?:=hf 0 _ rfl
 have f1:DataW.trod enc Tryz.prog W base sp held m 3 (([c0,c1,c2].drop 1).take (Tryz.prog.cellsOf 3))=xs[1]?:=hf 1 _ rfl
 have f2:DataW.trod enc Tryz.prog W base sp held m 9 (([c0,c1,c2].drop 2).take (Tryz.prog.cellsOf 9))=xs[2]?:=hf 2 _ rfl
 rw[cells_int] at f0 f1
 rw[cells_str] at f2
 have hn:∀i,i<3->(xs[i]?).isSome=true:=fun i hi=>by
  rw[List.getElem?_eq_getElem (by rw[hxs];exact hi)];rfl
 obtain⟨a,rfl⟩:=one_int f0 (hn 0 (by decide))
 obtain⟨b,rfl⟩:=one_int f1 (hn 1 (by decide))
 obtain⟨c,rfl⟩:=one_str f2 (hn 2 (by decide))
 exact⟨⟨a,b,c⟩,rfl⟩
variable {r : Reach} {b0 : Nat} {v : Value} {d : DataW H} {ps : List MemPlace}
theorem items_up (hval:Value.okWide Tryz.prog W r b0 31 v) (hd:DataW.Trod enc Tryz.prog W base sp held 31 v d ps):∃l:List Itm,l.length<=maxLen/\VR (C0 W) (.sl .none (itms l)) v:=
 slice_up itmV Itm.gv und_items cells_item (fun _ _ _ h=>item_elem h) (fun _=>rfl) (fun _=>rfl) (fun C a j g u hg hu=>by
  match j,hg,hu with
  |0,hg,hu=>cases hg;cases hu;exact .s _
  |1,hg,hu=>cases hg;cases hu;exact .i _ _
  |2,hg,hu=>cases hg;cases hu;exact .i _ _
  |3,hg,hu=>cases hg;cases hu;exact .i _ _
  |4,hg,hu=>cases hg;cases hu;exact .i _ _
  |j+5,hg,hu=>cases hg) hval hd
theorem vals_up (hval:Value.okWide Tryz.prog W r b0 32 v) (hd:DataW.Trod enc Tryz.prog W base sp held 32 v d ps):∃l:List Val,l.length<=maxLen/\VR (C0 W) (.sl .none (vlsG l)) v:=
 slice_up valV Val.gv und_vals cells_val (fun _ _ _ h=>val_elem h) (fun _=>rfl) (fun _=>rfl) (fun C a j g u hg hu=>by
  match j,hg,hu with
  |0,hg,hu=>cases hg;cases hu;exact .i _ _
  |1,hg,hu=>cases hg;cases hu;exact .i _ _
  |2,hg,hu=>cases hg;cases hu;exact .s _
  |j+3,hg,hu=>cases hg) hval hd
end
end Go.Proofs.YtlhabmglchgdnaaGreatDoor
namespace Go.Proofs.YtlhabmglchgdnaaGreatDoor
open Go Go.ChangeShapes Go.WideShapes Go.RowKit Go.ChangeMaps
set_option maxRecDepth 100000
set_option linter.unusedVariables false
theorem s_up (s:ByteArray) {C:Cx}:VR C (.s s.data.toList) (.string s):=by
 have:s=⟨s.data.toList.toArray⟩:=by simp
 exact this▸VR.s s.data.toList
theorem laidOut_:laidOutB Tryz.checked.prog=true:=by kernel_rfl
section
variable {H : Type} {enc : TypeId × Value → H} {P : Program} {w : World} {base : Nat} {spare : Nat → Bool} {held : Bool}
end
end Go.Proofs.YtlhabmglchgdnaaGreatDoor
namespace Go.Proofs.YtlhabmglchgdnaaGreatDoor
open Go Go.ChangeShapes Go.WideShapes Go.RowKit Go.ChangeMaps
set_option maxRecDepth 100000
set_option linter.unusedVariables false
section
variable {H : Type} {enc : TypeId × Value → H} {P : Program} {w : World} {base : Nat} {spare : Nat → Bool} {held : Bool}
theorem trodAll_six {t0 t1 t2 t3 t4 t5:TypeId} {args:Array Value} {ds:List (DataW H)} {ps:List MemPlace} (h:DataW.TrodAll enc P w base spare held [t0,t1,t2,t3,t4,t5] args.toList ds ps):
  ∃v0 v1 v2 v3 v4 v5 d0 d1 d2 d3 d4 d5 p0 p1 p2 p3 p4 p5,args= #[v0,v1,v2,v3,v4,v5]/\ds=[d0,d1,d2,d3,d4,d5]/\ps=p0++(p1++(p2++(p3++(p4++p5))))/\DataW.Trod enc P w base spare held t0 v0 d0 p0/\DataW.Trod enc P w base spare held t1 v1 d1 p1/\
   DataW.Trod enc P w base spare held t2 v2 d2 p2/\DataW.Trod enc P w base spare held t3 v3 d3 p3/\DataW.Trod enc P w base spare held t4 v4 d4 p4/\DataW.Trod enc P w base spare held t5 v5 d5 p5:=by
 obtain⟨v0,vs0,d0,ds0,p0,q0,hargs,rfl,rfl,h0,hrest0⟩:=trodAll_cons h
 obtain⟨v1,vs1,d1,ds1,p1,q1,rfl,rfl,rfl,h1,hrest1⟩:=trodAll_cons hrest0
 obtain⟨v2,vs2,d2,ds2,p2,q2,rfl,rfl,rfl,h2,hrest2⟩:=trodAll_cons hrest1
 obtain⟨v3,vs3,d3,ds3,p3,q3,rfl,rfl,rfl,h3,hrest3⟩:=trodAll_cons hrest2
 obtain⟨v4,vs4,d4,ds4,p4,q4,rfl,rfl,rfl,h4,hrest4⟩:=trodAll_cons hrest3
 obtain⟨v5,vs5,d5,ds5,p5,q5,rfl,rfl,rfl,h5,hrest5⟩:=trodAll_cons hrest4
 obtain⟨rfl,rfl,rfl⟩:=trodAll_nil hrest5
 exact⟨v0,v1,v2,v3,v4,v5,d0,d1,d2,d3,d4,d5,p0,p1,p2,p3,p4,p5,by cases args;simp_all,rfl,by simp,h0,h1,h2,h3,h4,h5⟩
end
def LawCondBinds:Prop:=∀(a0:List UInt8) (a1:List UInt8) (a2:List Itm) (a3:List Val) (a4:List Itm) (a5:List Val),a0.length<=maxLen->a1.length<=maxLen->a2.length<=maxLen->a3.length<=maxLen->a4.length<=maxLen->a5.length<=maxLen->
 ∃s',SC Tryz.prog 7 [.s a0,.s a1,.sl .none (itms a2),.sl .none (vlsG a3),.sl .none (itms a4),.sl .none (vlsG a5)] [] (.val (.b true)) s'
theorem condBinds_lifted (law:LawCondBinds)
  (os:Os) (started:os.Started) (H:Type) (enc:TypeId×Value->H):
  ReturnsInHanded {} Tryz.checked os 7 .any (fun w args=>(Rows.condBindsSpec.pre enc Tryz.prog Tryz.f7 [] false w args/\laidMetH Tryz.prog Rows.condBindsRow.laid w)/\sizedMet enc Tryz.prog Tryz.f7 (OpenSpec.ofChange Rows.condBindsSpec) false w args)
   (Rows.condBindsSpec.post enc Tryz.prog Tryz.f7 false true false false):=by
 refine returnsInHanded_of_change_and (C:=Tryz.checked) (X:=fun w _=>laidMetH Tryz.prog Rows.condBindsRow.laid w) (fun _ _ _ hh h=>h.of_heap hh) own started (by kernel_rfl) Tryz.func7
  (ChangeSpec.witness_shaped (enc:=enc) (C:=Tryz.checked) (os:=os) (X:=fun w _=>laidMetH Tryz.prog Rows.condBindsRow.laid w) false (World.doorLaid Tryz.prog 400 os) #[.string ⟨#[]⟩,.string ⟨#[]⟩,.slice none 0 0,.slice none 0 0,.slice none 0 0,.slice none 0 0] 8 rfl (World.shaped_of_RefB (by kernel_rfl) (by kernel_rfl)) (by kernel_rfl) (by kernel_rfl) (by kernel_rfl) (door_met os _)) ?_
 intro W base args ds gs before hval0 hW _ _ hL _
 have hval:∀(j:Nat) t v,Tryz.f7.params[j]?=some t->args[j]?=some v->Value.okWide Tryz.prog W .any base t v:=hval0
 have hW':=hW
 obtain⟨p,q,hA0,hV,rfl,hfz,hnd⟩:=hW
 have hA:DataW.TrodAll enc Tryz.prog W 0 (fun _=>true) true Tryz.f7.params.toList args.toList ds p:=hA0
 rw[show Tryz.f7.params= #[9,9,31,32,31,32] from rfl] at hA hval
 obtain⟨v0,v1,v2,v3,v4,v5,d0,d1,d2,d3,d4,d5,p0,p1,p2,p3,p4,p5,rfl,rfl,rfl,h0,h1,h2,h3,h4,h5⟩:=trodAll_six hA
 obtain⟨rfl,rfl⟩:=trodVars_none hV
 have hlt:∀x∈p0++(p1++(p2++(p3++(p4++p5)))),x.block<W.heap.size:=fun x hx=>by simpa using hW'.lt x (by simpa using hx)
 have hlt0:∀x∈p0,x.block<W.heap.size:=fun x hx=>hlt x (by simp[hx])
 have hlt1:∀x∈p1,x.block<W.heap.size:=fun x hx=>hlt x (by simp[hx])
 have hlt2:∀x∈p2,x.block<W.heap.size:=fun x hx=>hlt x (by simp[hx])
 have hlt3:∀x∈p3,x.block<W.heap.size:=fun x hx=>hlt x (by simp[hx])
 have hlt4:∀x∈p4,x.block<W.heap.size:=fun x hx=>hlt x (by simp[hx])
 have hlt5:∀x∈p5,x.block<W.heap.size:=fun x hx=>hlt x (by simp[hx])
 obtain⟨A2,hl2,hv2⟩:=items_up (hval 2 _ v2 rfl rfl) h2
 obtain⟨A3,hl3,hv3⟩:=vals_up (hval 3 _ v3 rfl rfl) h3
 obtain⟨A4,hl4,hv4⟩:=items_up (hval 4 _ v4 rfl rfl) h4
 obtain⟨A5,hl5,hv5⟩:=vals_up (hval 5 _ v5 rfl rfl) h5
 have hh0:=h0
 have hh1:=h1
 obtain⟨s0,rfl,rfl,rfl,hs0⟩:=open_string und_str (hval 0 9 v0 rfl rfl) h0
 obtain⟨s1,rfl,rfl,rfl,hs1⟩:=open_string und_str (hval 1 9 v1 rfl rfl) h1
 obtain⟨s',hsc⟩:=law s0.data.toList s1.data.toList A2 A3 A4 A5 (by simpa using hs0) (by simpa using hs1) hl2 hl3 hl4 hl5
 refine(calls_true hsc (told hL) ⟨rfl,fun j g u g1 g2=>?_⟩).mono fun e W' ⟨he,hb⟩=>?_
 ·match j,g1,g2 with
  |0,g1,g2=>cases g1;cases g2;exact s_up _
  |1,g1,g2=>cases g1;cases g2;exact s_up _
  |2,g1,g2=>cases g1;cases g2;exact hv2
  |3,g1,g2=>cases g1;cases g2;exact hv3
  |4,g1,g2=>cases g1;cases g2;exact hv4
  |5,g1,g2=>cases g1;cases g2;exact hv5
 ·subst he
  have hbel:Below W.heap.size W W':=⟨hb.os,hb.tape,hb.output,hb.size,fun k hk=>hb.block k hk (fun h=>h)⟩
  refine⟨_,rfl,_,_,_,[],[]++([]++(p2++(p3++(p4++p5)))),[],hW',?_,?_,rfl,kept_below (fun _ h=>h) hb,fun h=>by cases h⟩
  ·exact trodAll_mk1 (shut_bool und_bool true)
  ·refine⟨_,_,Below.trod laidOut_ (by kernel_rfl) (of_decide_eq_true (by kernel_rfl)) hh0 hbel hlt0,⟨_,_,Below.trod laidOut_ (by kernel_rfl) (of_decide_eq_true (by kernel_rfl)) hh1 hbel hlt1,trodAll_mk4 ?_ ?_ ?_ ?_,rfl⟩,rfl⟩
   ·exact Below.trod laidOut_ (by kernel_rfl) (of_decide_eq_true (by kernel_rfl)) h2 hbel hlt2
   ·exact Below.trod laidOut_ (by kernel_rfl) (of_decide_eq_true (by kernel_rfl)) h3 hbel hlt3
   ·exact Below.trod laidOut_ (by kernel_rfl) (of_decide_eq_true (by kernel_rfl)) h4 hbel hlt4
   ·exact Below.trod laidOut_ (by kernel_rfl) (of_decide_eq_true (by kernel_rfl)) h5 hbel hlt5
theorem condBinds_of (law:LawCondBinds):Rows.CondBindsSaid:=
 OpenClaim.holds_of_wide 7 Tryz.f7 rfl rfl rfl rfl rfl rfl rfl ⟨rfl,rfl,rfl,rfl,rfl⟩ rfl rfl rfl rfl rfl (by kernel_rfl) Tryz.func7 (by kernel_rfl)
  (of_decide_eq_true (by kernel_rfl)) (by unfold Func.isWrapper;first|(rw[if_pos (by decide+kernel)];kernel_rfl)|(rw[if_neg (by decide+kernel)];exact⟨rfl,rfl⟩))
  (fun os started H enc _=>condBinds_lifted law os started H enc)
end Go.Proofs.YtlhabmglchgdnaaGreatDoor
namespace Go.Proofs.YtlhabmglchgdnaaGreatDoor
open Go
theorem condBinds_card_of (h:Rows.CondBindsSaid):Rows.CondBindsCardSaid:=
 Claim7.holds_tied_plain_at .later [] [.data,.data,.data,.sentinel,.sentinel] true (true, "7ea5d9e630d03a6972d1a3ceee59193b855f9172e112f94da4ecdc0d766b790a") true
  h (fun _ h=>by cases h) (by kernel_rfl) (fun _ h=>by cases h) condBinds_row_tie rfl ⟨rfl,rfl⟩ (by kernel_rfl) rfl
  (fun f fn hf hfn=>by
   obtain rfl:f=7:=Option.some.inj ((show Tryz.prog.funcNamed "ringwork/ringworklaw02.CondBinds" =some 7 by kernel_rfl).symm.trans hf) |>.symm
   obtain rfl:fn=Tryz.f7:=(Option.some.inj (Tryz.func7.symm.trans hfn)).symm
   exact⟨by kernel_rfl,fun j t ht=>by
    rw[show Tryz.f7.params= #[9,9,31,32,31,32] from rfl] at ht
    match j,ht with
    |0,ht=>cases ht;exact(show Tryz.prog.wantsStandIn 9=false by kernel_rfl)
    |1,ht=>cases ht;exact(show Tryz.prog.wantsStandIn 9=false by kernel_rfl)
    |2,ht=>cases ht;exact(show Tryz.prog.wantsStandIn 31=false by kernel_rfl)
    |3,ht=>cases ht;exact(show Tryz.prog.wantsStandIn 32=false by kernel_rfl)
    |4,ht=>cases ht;exact(show Tryz.prog.wantsStandIn 31=false by kernel_rfl)
    |5,ht=>cases ht;exact(show Tryz.prog.wantsStandIn 32=false by kernel_rfl)
    |j+6,ht=>cases ht⟩)
  (by kernel_rfl)
end Go.Proofs.YtlhabmglchgdnaaGreatDoor
