/-
  CondRenames: Rename of every text and names is that of the reference, and over items renamed alike a condition is as true as before: the card, for every input.
-/
import Derived.Test.YtlhabmglchgdnaaGreatDoorQ20
import Derived.Test.YtlhabmglchgdnaaGreatDoorQ26
set_option linter.all false
namespace Go.Proofs.YtlhabmglchgdnaaGreatDoor
open Go.RowKit
set_option maxRecDepth 100000
set_option linter.unusedVariables false
structure Itm where
 name:By
 k:Int
 lo:Int
 hi:Int
 len:Int
 deriving DecidableEq
def Itm.cs (i:Itm):List GV:=[.s i.name,.i .i64 i.k,.i .i64 i.lo,.i .i64 i.hi,.i .i64 i.len]
def Itm.gv (i:Itm):GV:=.agg i.cs
theorem Itm.cl (i:Itm):Cl i.gv:=fun _=>rfl
def itms (l:List Itm):List GV:=l.map Itm.gv
theorem itms_cl (l:List Itm):ClL (itms l):=ClL.mapOf Itm.cl l
theorem itms_len (l:List Itm):(itms l).length=l.length:=by simp[itms]
theorem itms_at {l:List Itm} {i:Nat} {y:Itm} (h:l[i]?=some y):(itms l)[i]?=some (.agg [.s y.name,.i .i64 y.k,.i .i64 y.lo,.i .i64 y.hi,.i .i64 y.len]):=by
 unfold itms;rw[List.getElem?_map,h];rfl
def Itm.ok (i:Itm):Bool:=isName i.name&&((decide (i.k=1)&&decide (i.lo<=i.hi)&&decide (-1000000000<=i.lo)&&decide (i.hi<=1000000000)&&decide (i.len=0))||(decide (i.k=2)&&decide (1<=i.len)&&decide (i.len<=40)&&decide (i.lo=0)&&decide (i.hi=0)))
theorem c_ValidItem (i:Itm):SC Tryz.prog 140 [i.gv] [] (.val (.b i.ok)) []:=by
 obtain⟨name,k,lo,hi,len⟩:=i
 have hn:=c_Name name
 have hw:=c_within len 1 40
 unfold Itm.ok
 simp only
 generalize isName name=nm at*
 cases nm with
 |false=>
  refine SC.of_gwp noM mixed Tryz.func140 rfl (Nat.le_of_ble_eq_true rfl) (by first|exact Nat.le_refl _|simp) rfl ?_
  conv=>whnf
  refine callP hn (by first|exact Wks.refl _|exact Wks.cons (Wk.sl _ _) (Wks.refl _)|exact Wks.cons (Wk.sl _ _) (Wks.cons (Wk.sl _ _) (Wks.refl _))|exact Wks.cons (Wk.refl _) (Wks.cons (Wk.sl _ _) (Wks.refl _))) rfl (by first|exact fun _=>rfl|exact Cl.sl (ClL.mapOf (fun _=>Cl.s _) _)|exact ClL.cons (Cl.sl (ClL.mapOf (fun _=>Cl.s _) _)) (fun _=>rfl)) (by first|exact fun _=>rfl|exact Cl.sl (ClL.mapOf (fun _=>Cl.s _) _)|exact ClL.cons (Cl.sl (ClL.mapOf (fun _=>Cl.s _) _)) (fun _=>rfl)) ?_
  conv=>whnf
  exact owes_b rfl
 |true=>
  refine SC.of_gwp noM mixed Tryz.func140 rfl (Nat.le_of_ble_eq_true rfl) (by first|exact Nat.le_refl _|simp) rfl ?_
  conv=>whnf
  refine callP hn (by first|exact Wks.refl _|exact Wks.cons (Wk.sl _ _) (Wks.refl _)|exact Wks.cons (Wk.sl _ _) (Wks.cons (Wk.sl _ _) (Wks.refl _))|exact Wks.cons (Wk.refl _) (Wks.cons (Wk.sl _ _) (Wks.refl _))) rfl (by first|exact fun _=>rfl|exact Cl.sl (ClL.mapOf (fun _=>Cl.s _) _)|exact ClL.cons (Cl.sl (ClL.mapOf (fun _=>Cl.s _) _)) (fun _=>rfl)) (by first|exact fun _=>rfl|exact Cl.sl (ClL.mapOf (fun _=>Cl.s _) _)|exact ClL.cons (Cl.sl (ClL.mapOf (fun _=>Cl.s _) _)) (fun _=>rfl)) ?_
  conv=>whnf
  repeat' first
   |(refine GIf.mk (fun _=>?_) (fun _=>?_)<;>conv=>whnf)
   |(refine GDraw.calm (by kernel_rfl) ?_;conv=>whnf)
   |(refine⟨_,⟨rfl,Nat.zero_le _,rfl,Nat.le_of_ble_eq_true rfl⟩,?_⟩;conv=>whnf)
   |(refine callP hw (by first|exact Wks.refl _|exact Wks.cons (Wk.sl _ _) (Wks.refl _)|exact Wks.cons (Wk.sl _ _) (Wks.cons (Wk.sl _ _) (Wks.refl _))|exact Wks.cons (Wk.refl _) (Wks.cons (Wk.sl _ _) (Wks.refl _))) rfl (by first|exact fun _=>rfl|exact Cl.sl (ClL.mapOf (fun _=>Cl.s _) _)|exact ClL.cons (Cl.sl (ClL.mapOf (fun _=>Cl.s _) _)) (fun _=>rfl)) (by first|exact fun _=>rfl|exact Cl.sl (ClL.mapOf (fun _=>Cl.s _) _)|exact ClL.cons (Cl.sl (ClL.mapOf (fun _=>Cl.s _) _)) (fun _=>rfl)) ?_;conv=>whnf)
  all_goals
   refine owes_b ?_
   rw[Bool.eq_iff_iff]
   simp at*
   try omega
theorem r_ValidItem (i:Itm):SC Tryz.prog 73 [i.gv] [] (.val (.b i.ok)) []:=by
 obtain⟨name,k,lo,hi,len⟩:=i
 have hn:=r_Name name
 unfold Itm.ok
 simp only
 generalize isName name=nm at*
 cases nm with
 |false=>
  refine SC.of_gwp noM mixed Tryz.func73 rfl (Nat.le_of_ble_eq_true rfl) (by first|exact Nat.le_refl _|simp) rfl ?_
  conv=>whnf
  refine callP hn (by first|exact Wks.refl _|exact Wks.cons (Wk.sl _ _) (Wks.refl _)|exact Wks.cons (Wk.sl _ _) (Wks.cons (Wk.sl _ _) (Wks.refl _))|exact Wks.cons (Wk.refl _) (Wks.cons (Wk.sl _ _) (Wks.refl _))) rfl (by first|exact fun _=>rfl|exact Cl.sl (ClL.mapOf (fun _=>Cl.s _) _)|exact ClL.cons (Cl.sl (ClL.mapOf (fun _=>Cl.s _) _)) (fun _=>rfl)) (by first|exact fun _=>rfl|exact Cl.sl (ClL.mapOf (fun _=>Cl.s _) _)|exact ClL.cons (Cl.sl (ClL.mapOf (fun _=>Cl.s _) _)) (fun _=>rfl)) ?_
  conv=>whnf
  exact owes_b rfl
 |true=>
  refine SC.of_gwp noM mixed Tryz.func73 rfl (Nat.le_of_ble_eq_true rfl) (by first|exact Nat.le_refl _|simp) rfl ?_
  conv=>whnf
  refine callP hn (by first|exact Wks.refl _|exact Wks.cons (Wk.sl _ _) (Wks.refl _)|exact Wks.cons (Wk.sl _ _) (Wks.cons (Wk.sl _ _) (Wks.refl _))|exact Wks.cons (Wk.refl _) (Wks.cons (Wk.sl _ _) (Wks.refl _))) rfl (by first|exact fun _=>rfl|exact Cl.sl (ClL.mapOf (fun _=>Cl.s _) _)|exact ClL.cons (Cl.sl (ClL.mapOf (fun _=>Cl.s _) _)) (fun _=>rfl)) (by first|exact fun _=>rfl|exact Cl.sl (ClL.mapOf (fun _=>Cl.s _) _)|exact ClL.cons (Cl.sl (ClL.mapOf (fun _=>Cl.s _) _)) (fun _=>rfl)) ?_
  conv=>whnf
  repeat' first
   |(refine GIf.mk (fun _=>?_) (fun _=>?_)<;>conv=>whnf)
   |(refine GDraw.calm (by kernel_rfl) ?_;conv=>whnf)
   |(refine⟨_,⟨rfl,Nat.zero_le _,rfl,Nat.le_of_ble_eq_true rfl⟩,?_⟩;conv=>whnf)
  all_goals
   refine owes_b ?_
   rw[Bool.eq_iff_iff]
   simp at*
   try omega
def idxN (l:List Itm) (s:By):Int:=match l.findIdx? (fun i=>i.name==s) with
 |some k=>k
 |none=> -1
theorem idx_no {l:List Itm} {s:By} (h:∀y∈l,y.name≠s):idxN l s= -1:=by
 unfold idxN
 rw[List.findIdx?_eq_none_iff.2 (fun y hy=>by simpa using h y hy)]
theorem idx_yes {l:List Itm} {s:By} {i:Nat} {y:Itm} (h:l[i]?=some y) (hs:y.name=s) (hb:∀z∈l.take i,z.name≠s):idxN l s=(i:Int):=by
 unfold idxN
 have hi:=(List.getElem?_eq_some_iff.1 h).1
 have:l.findIdx? (fun i=>i.name==s)=some i:=by
  rw[List.findIdx?_eq_some_iff_getElem]
  refine⟨hi,by have:=(List.getElem?_eq_some_iff.1 h).2;rw[this];simpa using hs,fun j hj=>?_⟩
  have:l[j]∈l.take i:=by
   rw[List.mem_take_iff_getElem]
   exact⟨j,by omega,rfl⟩
  simpa using hb _ this
 rw[this]
theorem idx_cases (l:List Itm) (s:By):(idxN l s= -1/\∀y∈l,y.name≠s)∨∃i y,idxN l s=(i:Nat)/\l[i]?=some y/\y.name=s/\∀z∈l.take i,z.name≠s:=by
 cases h:l.findIdx? (fun i=>i.name==s) with
 |none=>
  refine .inl ⟨by unfold idxN;rw[h],fun y hy=>?_⟩
  have:=List.findIdx?_eq_none_iff.1 h y hy
  simpa using this
 |some i=>
  obtain⟨hi,h1,h2⟩:=List.findIdx?_eq_some_iff_getElem.1 h
  refine .inr ⟨i,l[i],by unfold idxN;rw[h],List.getElem?_eq_getElem hi,by simpa using h1,fun z hz=>?_⟩
  rw[List.mem_take_iff_getElem] at hz
  obtain⟨j,hj,rfl⟩:=hz
  have:=h2 j (by omega)
  simpa using this
theorem take_ne_succ {l:List Itm} {s:By} {i:Nat} {y:Itm} (h:∀z∈l.take i,z.name≠s) (hy:l[i]?=some y) (hn:y.name≠s):∀z∈l.take (i+1),z.name≠s:=fun z hz=>by
 rw[List.take_add_one,hy] at hz
 rcases List.mem_append.1 hz with hz|hz
 ·exact h z hz
 ·rw[List.mem_singleton.1 (show z∈[y] from hz)];exact hn
theorem r_index1 (l:List Itm) (hl:l.length<most) (s:By):SC Tryz.prog 74 [.sl .none (itms l),.s s] [] (.val (.i .i64 (idxN l s))) []:=by
 have hlen:=itms_len l
 unfold most at hl
 refine SC.of_gwp noM mixed Tryz.func74 rfl (Nat.le_of_ble_eq_true rfl) (by first|exact Nat.le_refl _|simp) rfl ?_
 conv=>whnf
 refine GLoop.intro (fun i:Nat=>i<=l.length/\∀z∈l.take i,z.name≠s) (fun i=>[(0,.sl .none (itms l)),(1,.s s),(5,.i .i64 (i:Nat))]) (fun _=>⟨[],0,[]⟩) (fun i=>l.length - i) 0 ⟨Nat.zero_le _,fun z h=>by simp at h⟩ ⟨rfl,rfl,rfl,trivial⟩ rfl (fun i φ0 hi=>?_)
 obtain⟨hi,hne⟩:=hi
 conv=>whnf
 refine GIf.mk (fun h=>?_) (fun h=>?_)<;>conv=>whnf
 rotate_left
 ·have hie:i=l.length:=by have:=of_decide_eq_false h;rw[hlen] at this;omega
  refine owes_i ?_
  rw[hie,List.take_length] at hne
  exact(idx_no hne).symm
 have hlt:i<l.length:=by have:=of_decide_eq_true h;rw[hlen] at this;omega
 obtain⟨y,hy⟩:∃y,l[i]?=some y:=⟨l[i],List.getElem?_eq_getElem hlt⟩
 refine⟨Int.natCast_nonneg _,_,by rw[Int.toNat_natCast];exact itms_at hy,rfl,?_⟩
 conv=>whnf
 refine GIf.mk (fun heq=>?_) (fun heq=>?_)<;>conv=>whnf
 ·have e:y.name=s:=by simpa using heq
  exact owes_i (idx_yes hy e hne).symm
 ·have e:y.name≠s:=by simpa using heq
  exact⟨l.length - (i+1),(by show _<l.length - i;omega),i+1,⟨hlt,take_ne_succ hne hy e⟩,rfl,⟨rfl,rfl,wrap_succ (by omega),trivial⟩,rfl⟩
def knownB (l:List Itm):Bool:=l.all Itm.ok&&decide ((l.map Itm.name).Nodup)&&decide (l.length<=8)
theorem take_all_succ {l:List Itm} {i:Nat} {y:Itm} (h:∀z∈l.take i,z.ok=true) (hy:l[i]?=some y) (hn:y.ok=true):∀z∈l.take (i+1),z.ok=true:=fun z hz=>by
 rw[List.take_add_one,hy] at hz
 rcases List.mem_append.1 hz with hz|hz
 ·exact h z hz
 ·rw[List.mem_singleton.1 (show z∈[y] from hz)];exact hn
theorem nodup_succ {l:List Itm} {i:Nat} {y:Itm} (h:((l.take i).map Itm.name).Nodup) (hy:l[i]?=some y):((l.take (i+1)).map Itm.name).Nodup↔∀z∈l.take i,z.name≠y.name:=by
 rw[List.take_add_one,hy]
 show((l.take i++[y]).map Itm.name).Nodup↔_
 rw[List.map_append,List.nodup_append]
 constructor
 ·intro⟨_,_,h3⟩ z hz
  exact h3 _ (List.mem_map_of_mem hz) _ (by simp)
 ·intro h3
  refine⟨h,by simp,fun a ha b hb=>?_⟩
  obtain⟨z,hz,rfl⟩:=List.mem_map.1 ha
  simp at hb
  rw[hb]
  exact h3 z hz
theorem known_no {l:List Itm} {i:Nat} {y:Itm} (hy:l[i]?=some y) (h:y.ok=false∨∃z∈l.take i,z.name=y.name):knownB l=false:=by
 unfold knownB
 rcases h with h|⟨z,hz,he⟩
 ·have:l.all Itm.ok=false:=by
   rw[List.all_eq_false]
   exact⟨y,List.mem_of_getElem? hy,by simp[h]⟩
  rw[this];rfl
 ·have:¬(l.map Itm.name).Nodup:=fun hn=>by
   have h1:((l.take (i+1)).map Itm.name).Nodup:=List.Nodup.sublist (List.Sublist.map _ (List.take_sublist _ _)) hn
   have h0:((l.take i).map Itm.name).Nodup:=List.Nodup.sublist (List.Sublist.map _ (List.take_sublist _ _)) hn
   exact(nodup_succ h0 hy).1 h1 z hz he
  rw[decide_eq_false this];simp
theorem known_end {l:List Itm} (h1:∀z∈l,z.ok=true) (h2:(l.map Itm.name).Nodup):knownB l=decide (l.length<=8):=by
 unfold knownB
 rw[List.all_eq_true.2 h1,decide_eq_true h2];simp
theorem idx_ne {l:List Itm} {i:Nat} {y:Itm} (h0:((l.take i).map Itm.name).Nodup) (hy:l[i]?=some y):idxN l y.name=(i:Int)↔∀z∈l.take i,z.name≠y.name:=by
 constructor
 ·intro h z hz he
  rcases idx_cases l y.name with⟨h1,_⟩|⟨j,w,h1,h2,h3,h4⟩
  ·rw[h1] at h;omega
  ·rw[h1] at h
   have hj:j=i:=by omega
   subst hj
   exact h4 z hz he
 ·intro h
  exact idx_yes hy rfl h
theorem r_Known1 (l:List Itm) (hl:l.length<most):SC Tryz.prog 35 [.sl .none (itms l)] [] (.val (.b (knownB l))) []:=by
 have hlen:=itms_len l
 have hl':=hl
 unfold most at hl'
 refine SC.of_gwp noM mixed Tryz.func35 rfl (Nat.le_of_ble_eq_true rfl) (by first|exact Nat.le_refl _|simp) rfl ?_
 conv=>whnf
 refine GLoop.intro (fun i:Nat=>i<=l.length/\(∀z∈l.take i,z.ok=true)/\((l.take i).map Itm.name).Nodup) (fun i=>[(0,.sl .none (itms l)),(3,.i .i64 (i:Nat))]) (fun _=>⟨[],0,[]⟩) (fun i=>l.length - i) 0 ⟨Nat.zero_le _,(fun z h=>by simp at h),by simp⟩ ⟨rfl,rfl,trivial⟩ rfl (fun i φ0 hi=>?_)
 obtain⟨hi,hok,hnd⟩:=hi
 conv=>whnf
 refine GIf.mk (fun h=>?_) (fun h=>?_)<;>conv=>whnf
 rotate_left
 ·have hie:i=l.length:=by have:=of_decide_eq_false h;rw[hlen] at this;omega
  refine owes_b ?_
  rw[hie,List.take_length] at hok hnd
  rw[known_end hok hnd]
  rw[hlen]
  rw[decide_eq_decide];omega
 have hlt:i<l.length:=by have:=of_decide_eq_true h;rw[hlen] at this;omega
 obtain⟨y,hy⟩:∃y,l[i]?=some y:=⟨l[i],List.getElem?_eq_getElem hlt⟩
 have hv:=r_ValidItem y
 have hx:=r_index1 l hl y.name
 refine⟨Int.natCast_nonneg _,_,by rw[Int.toNat_natCast];exact itms_at hy,rfl,?_⟩
 conv=>whnf
 refine callP hv (Wks.refl _) rfl (fun _=>rfl) (.b _) ?_
 conv=>whnf
 refine GIf.mk (fun h1=>?_) (fun h1=>?_)<;>conv=>whnf
 ·refine owes_b ?_
  rw[known_no hy (.inl (by simpa using h1))]
 have h1':y.ok=true:=by simpa using h1
 refine⟨Int.natCast_nonneg _,_,by rw[Int.toNat_natCast];exact itms_at hy,rfl,?_⟩
 conv=>whnf
 refine callP hx (Wks.refl _) rfl (ClL.cons (Cl.sl (itms_cl l)) (.cons (.s _) .nil)) (.i _ _) ?_
 conv=>whnf
 refine GIf.mk (fun h2=>?_) (fun h2=>?_)<;>conv=>whnf
 ·refine owes_b ?_
  rw[known_no hy (.inr ?_)]
  have h3:¬idxN l y.name=(i:Int):=by simpa using h2
  rw[idx_ne hnd hy] at h3
  simpa using h3
 ·have h3:idxN l y.name=(i:Int):=by simpa using h2
  exact⟨l.length - (i+1),(by show _<l.length - i;omega),i+1,⟨hlt,take_all_succ hok hy h1',(nodup_succ hnd hy).2 ((idx_ne hnd hy).1 h3)⟩,rfl,⟨rfl,wrap_succ (by omega),trivial⟩,rfl⟩
theorem r_ValidItems1 (l:List Itm) (hl:l.length<most):SC Tryz.prog 75 [.sl .none (itms l)] [] (.val (.b (decide (0<l.length)&&knownB l))) []:=by
 have hk:=r_Known1 l hl
 have hlen:=itms_len l
 generalize knownB l=b at*
 refine SC.of_gwp noM mixed Tryz.func75 rfl (Nat.le_of_ble_eq_true rfl) (by first|exact Nat.le_refl _|simp) rfl ?_
 conv=>whnf
 refine GIf.mk (fun h=>?_) (fun h=>?_)<;>conv=>whnf
 ·refine callP hk (Wks.refl _) rfl (ClL.cons (Cl.sl (itms_cl l)) .nil) (.b _) ?_
  conv=>whnf
  refine owes_b ?_
  rw[decide_eq_true (by have:=of_decide_eq_true h;omega)];rfl
 ·refine owes_b ?_
  rw[decide_eq_false (by have:=of_decide_eq_false h;omega)];rfl
end Go.Proofs.YtlhabmglchgdnaaGreatDoor
namespace Go.Proofs.YtlhabmglchgdnaaGreatDoor
open Go.RowKit
set_option maxRecDepth 100000
set_option linter.unusedVariables false
def cmpI (x y:Int):Int:=if x<y then -1 else if y<x then 1 else 0
def cmpB (a b:By):Int:=if Op.bytesLess a b then -1 else if Op.bytesLess b a then 1 else 0
def cmpV (a b:Val):Int:=if cmpI a.k b.k≠0 then cmpI a.k b.k else if cmpI a.n b.n≠0 then cmpI a.n b.n else cmpB a.s b.s
theorem c_nanI (x:Int):SC Tryz.prog 176 [.i .i64 x] [] (.val (.b false)) []:=by
 refine SC.of_gwp noM mixed Tryz.func176 rfl (Nat.le_of_ble_eq_true rfl) (by first|exact Nat.le_refl _|simp) rfl ?_
 conv=>whnf
 exact owes_b (by simp)
theorem c_nanS (x:By):SC Tryz.prog 177 [.s x] [] (.val (.b false)) []:=by
 refine SC.of_gwp noM mixed Tryz.func177 rfl (Nat.le_of_ble_eq_true rfl) (by first|exact Nat.le_refl _|simp) rfl ?_
 conv=>whnf
 exact owes_b (by simp)
theorem c_cmpI (x y:Int):SC Tryz.prog 150 [.i .i64 x,.i .i64 y] [] (.val (.i .i64 (cmpI x y))) []:=by
 refine SC.of_gwp noM mixed Tryz.func150 rfl (Nat.le_of_ble_eq_true rfl) (by first|exact Nat.le_refl _|simp) rfl ?_
 conv=>whnf
 repeat' first
  |(refine GIf.mk (fun _=>?_) (fun _=>?_)<;>conv=>whnf)
  |(refine GDraw.calm (by kernel_rfl) ?_;conv=>whnf)
  |(refine⟨_,⟨rfl,Nat.zero_le _,rfl,Nat.le_of_ble_eq_true rfl⟩,?_⟩;conv=>whnf)
  |(refine callP (c_nanI _) (by first|exact Wks.refl _|exact Wks.cons (Wk.sl _ _) (Wks.refl _)|exact Wks.cons (Wk.sl _ _) (Wks.cons (Wk.sl _ _) (Wks.refl _))|exact Wks.cons (Wk.refl _) (Wks.cons (Wk.sl _ _) (Wks.refl _))) rfl (by first|exact fun _=>rfl|exact Cl.sl (ClL.mapOf (fun _=>Cl.s _) _)|exact ClL.cons (Cl.sl (ClL.mapOf (fun _=>Cl.s _) _)) (fun _=>rfl)) (by first|exact fun _=>rfl|exact Cl.sl (ClL.mapOf (fun _=>Cl.s _) _)|exact ClL.cons (Cl.sl (ClL.mapOf (fun _=>Cl.s _) _)) (fun _=>rfl)) ?_;conv=>whnf)
 all_goals
  refine owes_i ?_
  unfold cmpI
  simp only[decide_eq_true_eq,decide_eq_false_iff_not,gt_iff_lt] at*
  repeat' split
  all_goals first|rfl|omega
theorem bl_irr (a:By):Op.bytesLess a a=false:=by
 induction a with
 |nil=>rfl
 |cons c a ih=>
  unfold Op.bytesLess
  rw[ih];simp
theorem bl_tot:∀{a b:By},Op.bytesLess a b=false->a≠b->Op.bytesLess b a=true
 |[],[],_,h=>absurd rfl h
 |[],_::_,h,_=>by unfold Op.bytesLess at h;cases h
 |_::_,[],_,_=>by unfold Op.bytesLess;rfl
 |x::a,y::b,h,hn=>by
  unfold Op.bytesLess at h⊢
  simp only[Bool.or_eq_false_iff,decide_eq_false_iff_not] at h
  by_cases hxy:x=y
  ·subst hxy
   have h2:Op.bytesLess a b=false:=by simpa using h.2
   rw[bl_tot h2 (fun e=>hn (by rw[e]))]
   simp
  ·have:y<x:=by
    have h1:=h.1
    have hne:x.toNat≠y.toNat:=fun e=>hxy (UInt8.toNat_inj.1 e)
    rw[UInt8.lt_iff_toNat_lt] at h1⊢
    omega
   simp[this]
theorem c_cmpB (a b:By):SC Tryz.prog 151 [.s a,.s b] [] (.val (.i .i64 (cmpB a b))) []:=by
 refine SC.of_gwp noM mixed Tryz.func151 rfl (Nat.le_of_ble_eq_true rfl) (by first|exact Nat.le_refl _|simp) rfl ?_
 conv=>whnf
 refine callP (c_nanS a) (by first|exact Wks.refl _|exact Wks.cons (Wk.sl _ _) (Wks.refl _)|exact Wks.cons (Wk.sl _ _) (Wks.cons (Wk.sl _ _) (Wks.refl _))|exact Wks.cons (Wk.refl _) (Wks.cons (Wk.sl _ _) (Wks.refl _))) rfl (by first|exact fun _=>rfl|exact Cl.sl (ClL.mapOf (fun _=>Cl.s _) _)|exact ClL.cons (Cl.sl (ClL.mapOf (fun _=>Cl.s _) _)) (fun _=>rfl)) (by first|exact fun _=>rfl|exact Cl.sl (ClL.mapOf (fun _=>Cl.s _) _)|exact ClL.cons (Cl.sl (ClL.mapOf (fun _=>Cl.s _) _)) (fun _=>rfl)) ?_
 conv=>whnf
 refine callP (c_nanS b) (by first|exact Wks.refl _|exact Wks.cons (Wk.sl _ _) (Wks.refl _)|exact Wks.cons (Wk.sl _ _) (Wks.cons (Wk.sl _ _) (Wks.refl _))|exact Wks.cons (Wk.refl _) (Wks.cons (Wk.sl _ _) (Wks.refl _))) rfl (by first|exact fun _=>rfl|exact Cl.sl (ClL.mapOf (fun _=>Cl.s _) _)|exact ClL.cons (Cl.sl (ClL.mapOf (fun _=>Cl.s _) _)) (fun _=>rfl)) (by first|exact fun _=>rfl|exact Cl.sl (ClL.mapOf (fun _=>Cl.s _) _)|exact ClL.cons (Cl.sl (ClL.mapOf (fun _=>Cl.s _) _)) (fun _=>rfl)) ?_
 conv=>whnf
 refine GIf.mk (fun h1=>?_) (fun h1=>?_)<;>conv=>whnf
 ·refine owes_i ?_
  unfold cmpB;rw[if_pos h1]
 ·refine GIf.mk (fun h2=>?_) (fun h2=>?_)<;>conv=>whnf
  ·refine owes_i ?_
   unfold cmpB;rw[if_neg (by rw[h1];decide)]
   have h3:a≠b:=by rintro rfl;simp[bl_irr] at h2
   rw[if_pos (bl_tot h1 h3)]
  ·refine owes_i ?_
   have h3:a=b:=by simpa[h1] using h2
   rw[h3]
   unfold cmpB;rw[bl_irr];rfl
theorem c_cmpOr (a b c:Int):SC Tryz.prog 149 [.sl .none [.i .i64 a,.i .i64 b,.i .i64 c]] [] (.val (.i .i64 (if a≠0 then a else if b≠0 then b else c))) []:=by
 refine SC.of_gwp noM mixed Tryz.func149 rfl (Nat.le_of_ble_eq_true rfl) (by first|exact Nat.le_refl _|simp) rfl ?_
 conv=>whnf
 refine GLoop.intro (fun i:Nat=>i=0∨(i=1/\a=0)∨(i=2/\a=0/\b=0)∨(i=3/\a=0/\b=0/\c=0)) (fun i=>[(3,.i .i64 0),(6,.sl .none [.i .i64 a,.i .i64 b,.i .i64 c]),(7,.i .i64 3),(8,.i .i64 (i:Nat))]) (fun _=>⟨[],0,[]⟩) (fun i=>3 - i) 0 (.inl rfl) ⟨rfl,rfl,rfl,rfl,trivial⟩ rfl (fun i φ0 hi=>?_)
 rcases hi with rfl|⟨rfl,ha⟩|⟨rfl,ha,hb⟩|⟨rfl,ha,hb,hc⟩
 ·conv=>whnf
  refine⟨Int.le_refl 0,.i .i64 a,rfl,rfl,?_⟩
  conv=>whnf
  refine GIf.mk (fun h=>?_) (fun h=>?_)<;>conv=>whnf
  ·exact owes_i (by rw[if_pos (by simpa using h)])
  ·exact⟨2,by decide,1,.inr (.inl ⟨rfl,by simpa using h⟩),rfl,⟨rfl,rfl,rfl,rfl,trivial⟩,rfl⟩
 ·conv=>whnf
  refine⟨Int.natCast_nonneg 1,.i .i64 b,rfl,rfl,?_⟩
  conv=>whnf
  refine GIf.mk (fun h=>?_) (fun h=>?_)<;>conv=>whnf
  ·exact owes_i (by rw[if_neg (by simpa using ha),if_pos (by simpa using h)])
  ·exact⟨1,by decide,2,.inr (.inr (.inl ⟨rfl,ha,by simpa using h⟩)),rfl,⟨rfl,rfl,rfl,rfl,trivial⟩,rfl⟩
 ·conv=>whnf
  refine⟨Int.natCast_nonneg 2,.i .i64 c,rfl,rfl,?_⟩
  conv=>whnf
  refine GIf.mk (fun h=>?_) (fun h=>?_)<;>conv=>whnf
  ·exact owes_i (by rw[if_neg (by simpa using ha),if_neg (by simpa using hb)])
  ·exact⟨0,by decide,3,.inr (.inr (.inr ⟨rfl,ha,hb,by simpa using h⟩)),rfl,⟨rfl,rfl,rfl,rfl,trivial⟩,rfl⟩
 ·conv=>whnf
  exact owes_i (by rw[if_neg (by simpa using ha),if_neg (by simpa using hb),hc])
theorem c_CompareV (a b:Val):SC Tryz.prog 107 [a.gv,b.gv] [] (.val (.i .i64 (cmpV a b))) []:=by
 obtain⟨k1,n1,s1⟩:=a
 obtain⟨k2,n2,s2⟩:=b
 have h1:=c_cmpI k1 k2
 have h2:=c_cmpI n1 n2
 have h3:=c_cmpB s1 s2
 unfold cmpV
 simp only
 generalize cmpI k1 k2=x at*
 generalize cmpI n1 n2=y at*
 generalize cmpB s1 s2=z at*
 have h4:=c_cmpOr x y z
 refine SC.of_gwp noM mixed Tryz.func107 rfl (Nat.le_of_ble_eq_true rfl) (by first|exact Nat.le_refl _|simp) rfl ?_
 conv=>whnf
 refine GDraw.calm (by kernel_rfl) ?_
 conv=>whnf
 refine callP h1 (by first|exact Wks.refl _|exact Wks.cons (Wk.sl _ _) (Wks.refl _)|exact Wks.cons (Wk.sl _ _) (Wks.cons (Wk.sl _ _) (Wks.refl _))|exact Wks.cons (Wk.refl _) (Wks.cons (Wk.sl _ _) (Wks.refl _))) rfl (by first|exact fun _=>rfl|exact Cl.sl (ClL.mapOf (fun _=>Cl.s _) _)|exact ClL.cons (Cl.sl (ClL.mapOf (fun _=>Cl.s _) _)) (fun _=>rfl)) (by first|exact fun _=>rfl|exact Cl.sl (ClL.mapOf (fun _=>Cl.s _) _)|exact ClL.cons (Cl.sl (ClL.mapOf (fun _=>Cl.s _) _)) (fun _=>rfl)) ?_
 conv=>whnf
 refine callP h2 (by first|exact Wks.refl _|exact Wks.cons (Wk.sl _ _) (Wks.refl _)|exact Wks.cons (Wk.sl _ _) (Wks.cons (Wk.sl _ _) (Wks.refl _))|exact Wks.cons (Wk.refl _) (Wks.cons (Wk.sl _ _) (Wks.refl _))) rfl (by first|exact fun _=>rfl|exact Cl.sl (ClL.mapOf (fun _=>Cl.s _) _)|exact ClL.cons (Cl.sl (ClL.mapOf (fun _=>Cl.s _) _)) (fun _=>rfl)) (by first|exact fun _=>rfl|exact Cl.sl (ClL.mapOf (fun _=>Cl.s _) _)|exact ClL.cons (Cl.sl (ClL.mapOf (fun _=>Cl.s _) _)) (fun _=>rfl)) ?_
 conv=>whnf
 refine callP h3 (by first|exact Wks.refl _|exact Wks.cons (Wk.sl _ _) (Wks.refl _)|exact Wks.cons (Wk.sl _ _) (Wks.cons (Wk.sl _ _) (Wks.refl _))|exact Wks.cons (Wk.refl _) (Wks.cons (Wk.sl _ _) (Wks.refl _))) rfl (by first|exact fun _=>rfl|exact Cl.sl (ClL.mapOf (fun _=>Cl.s _) _)|exact ClL.cons (Cl.sl (ClL.mapOf (fun _=>Cl.s _) _)) (fun _=>rfl)) (by first|exact fun _=>rfl|exact Cl.sl (ClL.mapOf (fun _=>Cl.s _) _)|exact ClL.cons (Cl.sl (ClL.mapOf (fun _=>Cl.s _) _)) (fun _=>rfl)) ?_
 conv=>whnf
 refine callP h4 (Wks.cons (Wk.sl _ _) Wks.nil) rfl (ClL.cons (Cl.sl (fun _=>rfl)) .nil) (.i _ _) ?_
 conv=>whnf
 exact owes_i rfl
end Go.Proofs.YtlhabmglchgdnaaGreatDoor
namespace Go.Proofs.YtlhabmglchgdnaaGreatDoor
open Go.RowKit
set_option maxRecDepth 100000
set_option linter.unusedVariables false
def seenL (l:List Itm):List (GV×GV):=l.map fun i=>(.s i.name,.b true)
theorem seen_no {l:List Itm} {s:By} (h:∀z∈l,z.name≠s):gfind .string (.s s) (seenL l) 0=some none:=gfind_no gsame_str (fun e he=>by
 obtain⟨z,hz,rfl⟩:=List.mem_map.1 he
 exact⟨z.name,rfl,h z hz⟩)
theorem seen_yes {l:List Itm} {s:By}:∀(j:Nat),(∃z∈l,z.name=s)->∃k,gfind .string (.s s) (seenL l) j=some (some (k,.b true)):=by
 induction l with
 |nil=>rintro j ⟨z,hz,_⟩;cases hz
 |cons x l ih=>
  intro j h
  show∃k,(match gsame .string (.s s) (.s x.name) with|some true=>some (some (j,GV.b true))|some false=>gfind .string (.s s) (seenL l) (j+1)|none=>none)=_
  rw[gsame_str]
  cases hx:(s==x.name) with
  |true=>exact⟨j,rfl⟩
  |false=>
   obtain⟨z,hz,he⟩:=h
   rcases List.mem_cons.1 hz with rfl|hz
   ·rw[he] at hx;simp at hx
   ·exact ih (j+1) ⟨z,hz,he⟩
theorem c_ValidItems (l:List Itm) (hl:l.length<most):SC Tryz.prog 101 [.sl .none (itms l)] [] (.val (.b (decide (0<l.length)&&knownB l))) []:=by
 have hlen:=itms_len l
 have hl':=hl
 unfold most at hl'
 refine SC.of_gwp noM mixed Tryz.func101 rfl (Nat.le_of_ble_eq_true rfl) (by first|exact Nat.le_refl _|simp) rfl ?_
 conv=>whnf
 refine GLoop.introS (fun q:Nat×List (GV×GV)=>q.1<=l.length/\(∀z∈l.take q.1,z.ok=true)/\((l.take q.1).map Itm.name).Nodup/\q.2=seenL (l.take q.1)) (fun q=>[(0,.sl .none (itms l)),(3,.mp 0),(7,.sl .none (itms l)),(8,.i .i64 (itms l).length),(9,.i .i64 (q.1:Nat))])
  (fun q=>⟨[.mp q.2],0,[]⟩) (fun q=>l.length - q.1) (0,[]) ⟨Nat.zero_le _,(fun z h=>by simp at h),by simp,rfl⟩ ⟨rfl,rfl,rfl,rfl,rfl,trivial⟩ rfl (fun _ _=>Nat.le_refl _) (fun q _=>rfl) (fun q hq e he=>?_) (fun q φ0 hi=>?_)
 ·refine⟨?_,rfl,?_⟩
  ·show[(GObj.mp q.2).ren e]=_
   rw[hq.2.2.2]
   show[GObj.mp ((seenL (l.take q.1)).map _)]=_
   unfold seenL
   rw[List.map_map];rfl
  ·show[(GV.sl .none (itms l)).ren e,GV.mp (e 0),(GV.sl .none (itms l)).ren e,_,_]=_
   rw[Cl.sl (itms_cl l) e,he 0 (by simp)];rfl
 obtain⟨i,es⟩:=q
 obtain⟨hi,hok,hnd,hes⟩:=hi
 replace hi:i<=l.length:=hi
 replace hok:∀z∈l.take i,z.ok=true:=hok
 replace hnd:((l.take i).map Itm.name).Nodup:=hnd
 replace hes:es=seenL (l.take i):=hes
 conv=>whnf
 refine GIf.mk (fun h=>?_) (fun h=>?_)<;>conv=>whnf
 rotate_left
 ·have hie:i=l.length:=by have:=of_decide_eq_false h;rw[hlen] at this;omega
  rw[hie,List.take_length] at hok hnd
  have hw:=c_within (l.length:Int) 1 8
  rw[<-hlen] at hw
  refine callP hw (Wks.refl _) rfl (fun _=>rfl) (.b _) ?_
  conv=>whnf
  refine owes_b ?_
  rw[known_end hok hnd,hlen,Bool.eq_iff_iff]
  simp
  omega
 have hlt:i<l.length:=by have:=of_decide_eq_true h;rw[hlen] at this;omega
 obtain⟨y,hy⟩:∃y,l[i]?=some y:=⟨l[i],List.getElem?_eq_getElem hlt⟩
 have hv:=c_ValidItem y
 have hgy:=itms_at hy
 refine⟨Int.natCast_nonneg _,_,by rw[Int.toNat_natCast];exact hgy,rfl,?_⟩
 conv=>whnf
 refine⟨_,⟨rfl,Nat.zero_le _,rfl,Nat.le_of_ble_eq_true rfl⟩,?_⟩
 conv=>whnf
 refine callP hv (Wks.refl _) rfl (fun _=>rfl) (.b _) ?_
 conv=>whnf
 refine GIf.mk (fun h1=>?_) (fun h1=>?_)<;>conv=>whnf
 ·refine owes_b ?_
  rw[known_no hy (.inl (by simpa using h1))];simp
 have h1':y.ok=true:=by simpa using h1
 by_cases hdup:∃z∈l.take i,z.name=y.name
 ·obtain⟨k,hk⟩:=seen_yes 0 hdup
  rw[<-hes] at hk
  refine⟨some (k,.b true),hk,?_⟩
  conv=>whnf
  refine owes_b ?_
  rw[known_no hy (.inr hdup)];simp
 ·have hne:∀z∈l.take i,z.name≠y.name:=fun z hz he=>hdup ⟨z,hz,he⟩
  have hk:=seen_no hne
  rw[<-hes] at hk
  refine⟨none,hk,?_⟩
  conv=>whnf
  refine⟨Nat.le_refl _,none,hk,?_⟩
  conv=>whnf
  have hes':es++[(GV.s y.name,GV.b true)]=seenL (l.take (i+1)):=by
   rw[hes,List.take_add_one,hy]
   unfold seenL
   rw[List.map_append];rfl
  exact⟨l.length - (i+1),(by show _<l.length - i;omega),(i+1,es++[(GV.s y.name,GV.b true)]),⟨hlt,take_all_succ hok hy h1',(nodup_succ hnd hy).2 hne,hes'⟩,rfl,⟨rfl,rfl,rfl,rfl,wrap_succ (by omega),trivial⟩,_,rfl,rfl⟩
theorem ok_kind {v:Val} (h:v.ok=true):v.k=1∨v.k=2:=by
 simp only[Val.ok,Bool.or_eq_true,Bool.and_eq_true,decide_eq_true_eq] at h
 rcases h with h|h
 ·exact .inl h.1.1.1
 ·exact .inr h.1.1
def takesB (i:Itm) (v:Val):Bool:=v.ok&&decide (v.k=i.k)&&((decide (v.k=2)&&decide ((v.s.length:Int)<=i.len))||(decide (v.k=1)&&decide (i.lo<=v.n)&&decide (v.n<=i.hi)))
theorem c_takes (i:Itm) (v:Val):SC Tryz.prog 142 [i.gv,v.gv] [] (.val (.b (takesB i v))) []:=by
 obtain⟨name,k,lo,hi,len⟩:=i
 obtain⟨vk,vn,vs⟩:=v
 have hv:=c_ValidValue ⟨vk,vn,vs⟩
 have hw:=c_within vn lo hi
 unfold takesB
 simp only
 generalize Val.ok ⟨vk,vn,vs⟩=ok at*
 cases ok with
 |false=>
  refine SC.of_gwp noM mixed Tryz.func142 rfl (Nat.le_of_ble_eq_true rfl) (by first|exact Nat.le_refl _|simp) rfl ?_
  conv=>whnf
  refine callP hv (by first|exact Wks.refl _|exact Wks.cons (Wk.sl _ _) (Wks.refl _)|exact Wks.cons (Wk.sl _ _) (Wks.cons (Wk.sl _ _) (Wks.refl _))|exact Wks.cons (Wk.refl _) (Wks.cons (Wk.sl _ _) (Wks.refl _))) rfl (by first|exact fun _=>rfl|exact Cl.sl (ClL.mapOf (fun _=>Cl.s _) _)|exact ClL.cons (Cl.sl (ClL.mapOf (fun _=>Cl.s _) _)) (fun _=>rfl)) (by first|exact fun _=>rfl|exact Cl.sl (ClL.mapOf (fun _=>Cl.s _) _)|exact ClL.cons (Cl.sl (ClL.mapOf (fun _=>Cl.s _) _)) (fun _=>rfl)) ?_
  conv=>whnf
  exact owes_b rfl
 |true=>
  refine SC.of_gwp noM mixed Tryz.func142 rfl (Nat.le_of_ble_eq_true rfl) (by first|exact Nat.le_refl _|simp) rfl ?_
  conv=>whnf
  refine callP hv (by first|exact Wks.refl _|exact Wks.cons (Wk.sl _ _) (Wks.refl _)|exact Wks.cons (Wk.sl _ _) (Wks.cons (Wk.sl _ _) (Wks.refl _))|exact Wks.cons (Wk.refl _) (Wks.cons (Wk.sl _ _) (Wks.refl _))) rfl (by first|exact fun _=>rfl|exact Cl.sl (ClL.mapOf (fun _=>Cl.s _) _)|exact ClL.cons (Cl.sl (ClL.mapOf (fun _=>Cl.s _) _)) (fun _=>rfl)) (by first|exact fun _=>rfl|exact Cl.sl (ClL.mapOf (fun _=>Cl.s _) _)|exact ClL.cons (Cl.sl (ClL.mapOf (fun _=>Cl.s _) _)) (fun _=>rfl)) ?_
  conv=>whnf
  repeat' first
   |(refine GIf.mk (fun _=>?_) (fun _=>?_)<;>conv=>whnf)
   |(refine GDraw.calm (by kernel_rfl) ?_;conv=>whnf)
   |(refine⟨_,⟨rfl,Nat.zero_le _,rfl,Nat.le_of_ble_eq_true rfl⟩,?_⟩;conv=>whnf)
   |(refine callP hw (by first|exact Wks.refl _|exact Wks.cons (Wk.sl _ _) (Wks.refl _)|exact Wks.cons (Wk.sl _ _) (Wks.cons (Wk.sl _ _) (Wks.refl _))|exact Wks.cons (Wk.refl _) (Wks.cons (Wk.sl _ _) (Wks.refl _))) rfl (by first|exact fun _=>rfl|exact Cl.sl (ClL.mapOf (fun _=>Cl.s _) _)|exact ClL.cons (Cl.sl (ClL.mapOf (fun _=>Cl.s _) _)) (fun _=>rfl)) (by first|exact fun _=>rfl|exact Cl.sl (ClL.mapOf (fun _=>Cl.s _) _)|exact ClL.cons (Cl.sl (ClL.mapOf (fun _=>Cl.s _) _)) (fun _=>rfl)) ?_;conv=>whnf)
  all_goals
   refine owes_b ?_
   rw[Bool.eq_iff_iff]
   simp at*
   try omega
theorem c_listed (l:List Itm) (hl:l.length<most):SC Tryz.prog 53 [.sl .none (itms l)] [] (.val (.b (knownB l))) []:=by
 have hk:=c_ValidItems l hl
 have hlen:=itms_len l
 refine SC.of_gwp noM mixed Tryz.func53 rfl (Nat.le_of_ble_eq_true rfl) (by first|exact Nat.le_refl _|simp) rfl ?_
 conv=>whnf
 refine GIf.mk (fun h=>?_) (fun h=>?_)<;>conv=>whnf
 ·refine owes_b ?_
  have h0:l.length=0:=by
   have h9:((itms l).length:Int)=0:=by simpa using h
   omega
  rw[List.eq_nil_of_length_eq_zero h0];rfl
 ·refine callP hk (Wks.refl _) rfl (ClL.cons (Cl.sl (itms_cl l)) .nil) (.b _) ?_
  conv=>whnf
  refine owes_b ?_
  have h0:0<l.length:=by
   have h9:¬((itms l).length:Int)=0:=by simpa using h
   omega
  rw[decide_eq_true h0];rfl
def vlsG (l:List Val):List GV:=l.map Val.gv
theorem vlsG_cl (l:List Val):ClL (vlsG l):=ClL.mapOf Val.cl l
theorem vlsG_len (l:List Val):(vlsG l).length=l.length:=by simp[vlsG]
theorem vlsG_at {l:List Val} {i:Nat} {y:Val} (h:l[i]?=some y):(vlsG l)[i]?=some (.agg [.i .i64 y.k,.i .i64 y.n,.s y.s]):=by
 unfold vlsG;rw[List.getElem?_map,h];rfl
def eachB:List Itm->List Val->Bool
 |[],[]=>true
 |i::l,v::r=>takesB i v&&eachB l r
 |_,_=>false
theorem each_len:∀{l:List Itm} {r:List Val},eachB l r=true->l.length=r.length
 |[],[],_=>rfl
 |i::l,v::r,h=>by
  simp only[eachB,Bool.and_eq_true] at h
  simp[each_len h.2]
 |[],_::_,h=>by cases h
 |_::_,[],h=>by cases h
theorem each_iff:∀{l:List Itm} {r:List Val},l.length=r.length->(eachB l r=true↔∀(i:Nat) x y,l[i]?=some x->r[i]?=some y->takesB x y=true)
 |[],[],_=>⟨fun _ i x y h=>by simp at h,fun _=>rfl⟩
 |x::l,v::r,h=>by
  simp only[List.length_cons,Nat.add_right_cancel_iff] at h
  simp only[eachB,Bool.and_eq_true,each_iff h]
  constructor
  ·rintro⟨h1,h2⟩ i a b ha hb
   cases i with
   |zero=>simp at ha hb;rw[<-ha,<-hb];exact h1
   |succ i=>exact h2 i a b (by simpa using ha) (by simpa using hb)
  ·intro h2
   exact⟨h2 0 x v rfl rfl,fun i a b ha hb=>h2 (i+1) a b (by simpa using ha) (by simpa using hb)⟩
 |[],_::_,h=>by simp at h
 |_::_,[],h=>by simp at h
theorem each_no {l:List Itm} {r:List Val} {i:Nat} {x:Itm} {y:Val} (hl:l.length=r.length) (hx:l[i]?=some x) (hy:r[i]?=some y) (h:takesB x y=false):eachB l r=false:=by
 cases he:eachB l r with
 |false=>rfl
 |true=>rw[(each_iff hl).1 he i x y hx hy] at h;cases h
def fitsB (l:List Itm) (r:List Val):Bool:=decide (0<l.length)&&knownB l&&eachB l r
theorem c_Equal (l:List Itm) (r:List Val) (hl:l.length<most) (hr:r.length<most):SC Tryz.prog 141 [.sl .none (itms l),.sl .none (vlsG r),.fn (.func 142) [] []] [] (.val (.b (eachB l r))) []:=by
 have h1:=itms_len l
 have h2:=vlsG_len r
 unfold most at hl hr
 refine SC.of_gwp noM mixed Tryz.func141 rfl (Nat.le_of_ble_eq_true rfl) (by first|exact Nat.le_refl _|simp) rfl ?_
 conv=>whnf
 refine GIf.mk (fun h=>?_) (fun h=>?_)<;>conv=>whnf
 ·refine owes_b ?_
  cases he:eachB l r with
  |false=>rfl
  |true=>have:=each_len he;simp[h1,h2,this] at h
 have hlr:l.length=r.length:=by
  have h9:((itms l).length:Int)=(vlsG r).length:=by simpa using h
  omega
 refine GLoop.introS (fun i:Nat=>i<=l.length/\∀(j:Nat) x y,j<i->l[j]?=some x->r[j]?=some y->takesB x y=true) (fun i=>[(0,.sl .none (itms l)),(1,.sl .none (vlsG r)),(2,.fn (.func 142) [] []),(15,.sl .none (itms l)),(16,.i .i64 (itms l).length),(17,.i .i64 (i:Nat))])
  (fun _=>⟨[],0,[]⟩) (fun i=>l.length - i) 0 ⟨Nat.zero_le _,fun j x y h=>by omega⟩ ⟨rfl,rfl,rfl,rfl,rfl,rfl,trivial⟩ rfl (fun _ _=>Nat.le_refl _) (fun _ _=>rfl) (fun i _ e he=>?_) (fun i φ0 hi=>?_)
 ·refine⟨rfl,rfl,?_⟩
  show[(GV.sl .none (itms l)).ren e,(GV.sl .none (vlsG r)).ren e,_,(GV.sl .none (itms l)).ren e,_,_]=_
  rw[Cl.sl (itms_cl l) e,Cl.sl (vlsG_cl r) e];rfl
 obtain⟨hi,hok⟩:=hi
 conv=>whnf
 refine GIf.mk (fun h3=>?_) (fun h3=>?_)<;>conv=>whnf
 rotate_left
 ·have hie:i=l.length:=by have:=of_decide_eq_false h3;rw[h1] at this;omega
  refine owes_b ?_
  exact((each_iff hlr).2 (fun j x y hx hy=>hok j x y (by have:=(List.getElem?_eq_some_iff.1 hx).1;omega) hx hy)).symm
 have hlt:i<l.length:=by have:=of_decide_eq_true h3;rw[h1] at this;omega
 obtain⟨x,hx⟩:∃x,l[i]?=some x:=⟨l[i],List.getElem?_eq_getElem hlt⟩
 obtain⟨y,hy⟩:∃y,r[i]?=some y:=⟨r[i]'(by omega),List.getElem?_eq_getElem (by omega)⟩
 have ht:=c_takes x y
 have hgx:=itms_at hx
 have hgy:=vlsG_at hy
 refine⟨Int.natCast_nonneg _,_,by rw[Int.toNat_natCast];exact hgx,rfl,?_⟩
 conv=>whnf
 refine⟨_,⟨rfl,Nat.zero_le _,rfl,Nat.le_of_ble_eq_true rfl⟩,?_⟩
 conv=>whnf
 refine⟨Int.natCast_nonneg _,_,by rw[Int.toNat_natCast];exact hgy,rfl,?_⟩
 conv=>whnf
 refine⟨_,⟨rfl,Nat.zero_le _,rfl,Nat.le_of_ble_eq_true rfl⟩,?_⟩
 conv=>whnf
 refine callP ht (Wks.refl _) rfl (fun _=>rfl) (.b _) ?_
 conv=>whnf
 refine GIf.mk (fun h4=>?_) (fun h4=>?_)<;>conv=>whnf
 ·refine owes_b ?_
  exact(each_no hlr hx hy (by simpa using h4)).symm
 ·have h5:takesB x y=true:=by simpa using h4
  exact⟨l.length - (i+1),(by show _<l.length - i;omega),i+1,⟨hlt,fun j x' y' hj hx' hy'=>by
   by_cases hji:j=i
   ·subst hji;rw[hx] at hx';rw[hy] at hy';cases hx';cases hy';exact h5
   ·exact hok j x' y' (by omega) hx' hy'⟩,rfl,⟨rfl,rfl,rfl,rfl,rfl,wrap_succ (by omega),trivial⟩,_,rfl,rfl⟩
theorem c_Fits (l:List Itm) (r:List Val) (hl:l.length<most) (hr:r.length<most):SC Tryz.prog 105 [.sl .none (itms l),.sl .none (vlsG r)] [] (.val (.b (fitsB l r))) []:=by
 have hv:=c_ValidItems l hl
 have he:=c_Equal l r hl hr
 unfold fitsB
 generalize(decide (0<l.length)&&knownB l)=b at*
 refine SC.of_gwp noM mixed Tryz.func105 rfl (Nat.le_of_ble_eq_true rfl) (by first|exact Nat.le_refl _|simp) rfl ?_
 conv=>whnf
 refine callP hv (Wks.refl _) rfl (ClL.cons (Cl.sl (itms_cl l)) .nil) (.b _) ?_
 conv=>whnf
 cases b with
 |false=>exact owes_b rfl
 |true=>
  conv=>whnf
  refine callP he (Wks.refl _) rfl (ClL.cons (Cl.sl (itms_cl l)) (.cons (Cl.sl (vlsG_cl r)) (fun _=>rfl))) (.b _) ?_
  conv=>whnf
  exact owes_b rfl
def fits2 (l:List Itm) (r:List Val):Bool:=knownB l&&(decide (l.length=0/\r.length=0)||fitsB l r)
end Go.Proofs.YtlhabmglchgdnaaGreatDoor
