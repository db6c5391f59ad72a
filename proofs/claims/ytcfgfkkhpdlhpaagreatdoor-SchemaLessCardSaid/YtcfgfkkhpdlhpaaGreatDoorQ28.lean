/-
  A part of the proof of SchemaLess.
-/
import Derived.Test.YtcfgfkkhpdlhpaaGreatDoorQ21
import Derived.Test.YtcfgfkkhpdlhpaaGreatDoorQ27
set_option linter.all false
namespace Go.Proofs.YtcfgfkkhpdlhpaaGreatDoor
open Go.RowKit
set_option maxRecDepth 100000
set_option linter.unusedVariables false
structure Itm where
 name:By
 k:Int
 lo:Int
 hi:Int
 len:Int
 deriving DecidableEq
def Itm.cs (i:Itm):List GV:=[.s i.name,.i .i64 i.k,.i .i64 i.lo,.i .i64 i.hi,.i .i64 i.len]
def Itm.gv (i:Itm):GV:=.agg i.cs
theorem Itm.cl [MaxL] (i:Itm):Cl i.gv:=fun _=>rfl
def itms (l:List Itm):List GV:=l.map Itm.gv
theorem itms_cl [MaxL] (l:List Itm):ClL (itms l):=ClL.mapOf Itm.cl l
theorem itms_len (l:List Itm):(itms l).length=l.length:=by simp[itms]
theorem itms_at {l:List Itm} {i:Nat} {y:Itm} (h:l[i]?=some y):(itms l)[i]?=some (.agg [.s y.name,.i .i64 y.k,.i .i64 y.lo,.i .i64 y.hi,.i .i64 y.len]):=by
 unfold itms;rw[List.getElem?_map,h];rfl
def Itm.ok (i:Itm):Bool:=isName i.name&&((decide (i.k=1)&&decide (i.lo<=i.hi)&&decide (-1000000000<=i.lo)&&decide (i.hi<=1000000000)&&decide (i.len=0))||(decide (i.k=2)&&decide (1<=i.len)&&decide (i.len<=40)&&decide (i.lo=0)&&decide (i.hi=0)))
theorem c_ValidItem [MaxL] (i:Itm):SC Tryz.prog 177 [i.gv] [] (.val (.b i.ok)) []:=by
 obtain⟨name,k,lo,hi,len⟩:=i
 have hn:=c_Name name
 have hw:=c_within len 1 40
 unfold Itm.ok
 simp only
 generalize isName name=nm at*
 cases nm with
 |false=>
  refine gwS Tryz.func177 rfl ?_
  conv=>whnf
  refine pcP hn ?_
  conv=>whnf
  exact owes_b rfl
 |true=>
  refine gwS Tryz.func177 rfl ?_
  conv=>whnf
  refine pcP hn ?_
  conv=>whnf
  repeat' first
   |(refine GIf.mk (fun _=>?_) (fun _=>?_)<;>conv=>whnf)
   |(refine GDraw.calm (by kernel_rfl) ?_;conv=>whnf)
   |(refine⟨_,⟨rfl,zL _,rfl,bL rfl⟩,?_⟩;conv=>whnf)
   |(refine pcP hw ?_;conv=>whnf)
  all_goals
   refine owes_b ?_
   rw[Bool.eq_iff_iff]
   simp at*
   try omega
theorem r_ValidItem [MaxL] (i:Itm):SC Tryz.prog 227 [i.gv] [] (.val (.b i.ok)) []:=by
 obtain⟨name,k,lo,hi,len⟩:=i
 have hn:=r_Name name
 unfold Itm.ok
 simp only
 generalize isName name=nm at*
 cases nm with
 |false=>
  refine gwS Tryz.func227 rfl ?_
  conv=>whnf
  refine pcP hn ?_
  conv=>whnf
  exact owes_b rfl
 |true=>
  refine gwS Tryz.func227 rfl ?_
  conv=>whnf
  refine pcP hn ?_
  conv=>whnf
  repeat' first
   |(refine GIf.mk (fun _=>?_) (fun _=>?_)<;>conv=>whnf)
   |(refine GDraw.calm (by kernel_rfl) ?_;conv=>whnf)
   |(refine⟨_,⟨rfl,zL _,rfl,bL rfl⟩,?_⟩;conv=>whnf)
  all_goals
   refine owes_b ?_
   rw[Bool.eq_iff_iff]
   simp at*
   try omega
def idxN (l:List Itm) (s:By):Int:=match l.findIdx? (fun i=>i.name==s) with
 |some k=>k
 |none=> -1
theorem idx_no {l:List Itm} {s:By} (h:∀y∈l,y.name≠s):idxN l s= -1:=by
 unfold idxN
 rw[List.findIdx?_eq_none_iff.2 (fun y hy=>by simpa using h y hy)]
theorem idx_yes {l:List Itm} {s:By} {i:Nat} {y:Itm} (h:l[i]?=some y) (hs:y.name=s) (hb:∀z∈l.take i,z.name≠s):idxN l s=(i:Int):=by
 unfold idxN
 have hi:=(List.getElem?_eq_some_iff.1 h).1
 have:l.findIdx? (fun i=>i.name==s)=some i:=by
  rw[List.findIdx?_eq_some_iff_getElem]
  refine⟨hi,by have:=(List.getElem?_eq_some_iff.1 h).2;rw[this];simpa using hs,fun j hj=>?_⟩
  have:l[j]∈l.take i:=by
   rw[List.mem_take_iff_getElem]
   exact⟨j,by omega,rfl⟩
  simpa using hb _ this
 rw[this]
theorem idx_cases (l:List Itm) (s:By):(idxN l s= -1/\∀y∈l,y.name≠s)∨∃i y,idxN l s=(i:Nat)/\l[i]?=some y/\y.name=s/\∀z∈l.take i,z.name≠s:=by
 cases h:l.findIdx? (fun i=>i.name==s) with
 |none=>
  refine .inl ⟨by unfold idxN;rw[h],fun y hy=>?_⟩
  have:=List.findIdx?_eq_none_iff.1 h y hy
  simpa using this
 |some i=>
  obtain⟨hi,h1,h2⟩:=List.findIdx?_eq_some_iff_getElem.1 h
  refine .inr ⟨i,l[i],by unfold idxN;rw[h],gL hi,by simpa using h1,fun z hz=>?_⟩
  rw[List.mem_take_iff_getElem] at hz
  obtain⟨j,hj,rfl⟩:=hz
  have:=h2 j (by omega)
  simpa using this
theorem take_ne_succ {l:List Itm} {s:By} {i:Nat} {y:Itm} (h:∀z∈l.take i,z.name≠s) (hy:l[i]?=some y) (hn:y.name≠s):∀z∈l.take (i+1),z.name≠s:=fun z hz=>by
 rw[List.take_add_one,hy] at hz
 rcases List.mem_append.1 hz with hz|hz
 ·exact h z hz
 ·rw[List.mem_singleton.1 (show z∈[y] from hz)];exact hn
theorem r_index1 [MaxL] (l:List Itm) (hl:l.length<most) (s:By):SC Tryz.prog 228 [.sl .none (itms l),.s s] [] (.val (.i .i64 (idxN l s))) []:=by
 have hlen:=itms_len l
 unfold most at hl
 refine gwS Tryz.func228 rfl ?_
 conv=>whnf
 refine GLoop.intro (fun i:Nat=>i<=l.length/\∀z∈l.take i,z.name≠s) (fun i=>[(0,.sl .none (itms l)),(1,.s s),(5,.i .i64 (i:Nat))]) (fun _=>⟨[],0,[]⟩) (fun i=>l.length - i) 0 ⟨zL _,fun z h=>by simp at h⟩ ⟨rfl,rfl,rfl,trivial⟩ rfl (fun i φ0 hi=>?_)
 obtain⟨hi,hne⟩:=hi
 conv=>whnf
 refine GIf.mk (fun h=>?_) (fun h=>?_)<;>conv=>whnf
 rotate_left
 ·have hie:i=l.length:=by have:=of_decide_eq_false h;rw[hlen] at this;omega
  refine owes_i ?_
  rw[hie,List.take_length] at hne
  exact(idx_no hne).symm
 have hlt:i<l.length:=by have:=of_decide_eq_true h;rw[hlen] at this;omega
 obtain⟨y,hy⟩:∃y,l[i]?=some y:=⟨l[i],gL hlt⟩
 refine⟨cN _,_,by rw[Int.toNat_natCast];exact itms_at hy,rfl,?_⟩
 conv=>whnf
 refine GIf.mk (fun heq=>?_) (fun heq=>?_)<;>conv=>whnf
 ·have e:y.name=s:=by simpa using heq
  exact owes_i (idx_yes hy e hne).symm
 ·have e:y.name≠s:=by simpa using heq
  exact⟨l.length - (i+1),(by show _<l.length - i;omega),i+1,⟨hlt,take_ne_succ hne hy e⟩,rfl,⟨rfl,rfl,wrap_succ (by omega),trivial⟩,rfl⟩
theorem r_at [MaxL] (l:List Itm) (hl:l.length<most) (s:By):SC Tryz.prog 270 [.sl .none (itms l),.s s] [] (.val (.i .i64 (idxN l s))) []:=by
 have hlen:=itms_len l
 unfold most at hl
 refine gwS Tryz.func270 rfl ?_
 conv=>whnf
 refine GLoop.intro (fun i:Nat=>i<=l.length/\∀z∈l.take i,z.name≠s) (fun i=>[(0,.sl .none (itms l)),(1,.s s),(5,.i .i64 (i:Nat))]) (fun _=>⟨[],0,[]⟩) (fun i=>l.length - i) 0 ⟨zL _,fun z h=>by simp at h⟩ ⟨rfl,rfl,rfl,trivial⟩ rfl (fun i φ0 hi=>?_)
 obtain⟨hi,hne⟩:=hi
 conv=>whnf
 refine GIf.mk (fun h=>?_) (fun h=>?_)<;>conv=>whnf
 rotate_left
 ·have hie:i=l.length:=by have:=of_decide_eq_false h;rw[hlen] at this;omega
  refine owes_i ?_
  rw[hie,List.take_length] at hne
  exact(idx_no hne).symm
 have hlt:i<l.length:=by have:=of_decide_eq_true h;rw[hlen] at this;omega
 obtain⟨y,hy⟩:∃y,l[i]?=some y:=⟨l[i],gL hlt⟩
 refine⟨cN _,_,by rw[Int.toNat_natCast];exact itms_at hy,rfl,?_⟩
 conv=>whnf
 refine GIf.mk (fun heq=>?_) (fun heq=>?_)<;>conv=>whnf
 ·have e:y.name=s:=by simpa using heq
  exact owes_i (idx_yes hy e hne).symm
 ·have e:y.name≠s:=by simpa using heq
  exact⟨l.length - (i+1),(by show _<l.length - i;omega),i+1,⟨hlt,take_ne_succ hne hy e⟩,rfl,⟨rfl,rfl,wrap_succ (by omega),trivial⟩,rfl⟩
def knownB (l:List Itm):Bool:=l.all Itm.ok&&decide ((l.map Itm.name).Nodup)&&decide (l.length<=8)
theorem take_all_succ {l:List Itm} {i:Nat} {y:Itm} (h:∀z∈l.take i,z.ok=true) (hy:l[i]?=some y) (hn:y.ok=true):∀z∈l.take (i+1),z.ok=true:=fun z hz=>by
 rw[List.take_add_one,hy] at hz
 rcases List.mem_append.1 hz with hz|hz
 ·exact h z hz
 ·rw[List.mem_singleton.1 (show z∈[y] from hz)];exact hn
theorem nodup_succ {l:List Itm} {i:Nat} {y:Itm} (h:((l.take i).map Itm.name).Nodup) (hy:l[i]?=some y):((l.take (i+1)).map Itm.name).Nodup↔∀z∈l.take i,z.name≠y.name:=by
 rw[List.take_add_one,hy]
 show((l.take i++[y]).map Itm.name).Nodup↔_
 rw[List.map_append,List.nodup_append]
 constructor
 ·intro⟨_,_,h3⟩ z hz
  exact h3 _ (List.mem_map_of_mem hz) _ (by simp)
 ·intro h3
  refine⟨h,by simp,fun a ha b hb=>?_⟩
  obtain⟨z,hz,rfl⟩:=List.mem_map.1 ha
  simp at hb
  rw[hb]
  exact h3 z hz
theorem known_no {l:List Itm} {i:Nat} {y:Itm} (hy:l[i]?=some y) (h:y.ok=false∨∃z∈l.take i,z.name=y.name):knownB l=false:=by
 unfold knownB
 rcases h with h|⟨z,hz,he⟩
 ·have:l.all Itm.ok=false:=by
   rw[List.all_eq_false]
   exact⟨y,List.mem_of_getElem? hy,by simp[h]⟩
  rw[this];rfl
 ·have:¬(l.map Itm.name).Nodup:=fun hn=>by
   have h1:((l.take (i+1)).map Itm.name).Nodup:=List.Nodup.sublist (List.Sublist.map _ (List.take_sublist _ _)) hn
   have h0:((l.take i).map Itm.name).Nodup:=List.Nodup.sublist (List.Sublist.map _ (List.take_sublist _ _)) hn
   exact(nodup_succ h0 hy).1 h1 z hz he
  rw[decide_eq_false this];simp
theorem known_end {l:List Itm} (h1:∀z∈l,z.ok=true) (h2:(l.map Itm.name).Nodup):knownB l=decide (l.length<=8):=by
 unfold knownB
 rw[List.all_eq_true.2 h1,decide_eq_true h2];simp
theorem idx_ne {l:List Itm} {i:Nat} {y:Itm} (h0:((l.take i).map Itm.name).Nodup) (hy:l[i]?=some y):idxN l y.name=(i:Int)↔∀z∈l.take i,z.name≠y.name:=by
 constructor
 ·intro h z hz he
  rcases idx_cases l y.name with⟨h1,_⟩|⟨j,w,h1,h2,h3,h4⟩
  ·rw[h1] at h;omega
  ·rw[h1] at h
   have hj:j=i:=by omega
   subst hj
   exact h4 z hz he
 ·intro h
  exact idx_yes hy rfl h
theorem r_Known1 [MaxL] (l:List Itm) (hl:l.length<most):SC Tryz.prog 188 [.sl .none (itms l)] [] (.val (.b (knownB l))) []:=by
 have hlen:=itms_len l
 have hl':=hl
 unfold most at hl'
 refine gwS Tryz.func188 rfl ?_
 conv=>whnf
 refine GLoop.intro (fun i:Nat=>i<=l.length/\(∀z∈l.take i,z.ok=true)/\((l.take i).map Itm.name).Nodup) (fun i=>[(0,.sl .none (itms l)),(3,.i .i64 (i:Nat))]) (fun _=>⟨[],0,[]⟩) (fun i=>l.length - i) 0 ⟨zL _,(fun z h=>by simp at h),by simp⟩ ⟨rfl,rfl,trivial⟩ rfl (fun i φ0 hi=>?_)
 obtain⟨hi,hok,hnd⟩:=hi
 conv=>whnf
 refine GIf.mk (fun h=>?_) (fun h=>?_)<;>conv=>whnf
 rotate_left
 ·have hie:i=l.length:=by have:=of_decide_eq_false h;rw[hlen] at this;omega
  refine owes_b ?_
  rw[hie,List.take_length] at hok hnd
  rw[known_end hok hnd]
  rw[hlen]
  rw[decide_eq_decide];omega
 have hlt:i<l.length:=by have:=of_decide_eq_true h;rw[hlen] at this;omega
 obtain⟨y,hy⟩:∃y,l[i]?=some y:=⟨l[i],gL hlt⟩
 have hv:=r_ValidItem y
 have hx:=r_index1 l hl y.name
 refine⟨cN _,_,by rw[Int.toNat_natCast];exact itms_at hy,rfl,?_⟩
 conv=>whnf
 refine callP hv (wR _) rfl (fun _=>rfl) (.b _) ?_
 conv=>whnf
 refine GIf.mk (fun h1=>?_) (fun h1=>?_)<;>conv=>whnf
 ·refine owes_b ?_
  rw[known_no hy (.inl (by simpa using h1))]
 have h1':y.ok=true:=by simpa using h1
 refine⟨cN _,_,by rw[Int.toNat_natCast];exact itms_at hy,rfl,?_⟩
 conv=>whnf
 refine callP hx (wR _) rfl (cC (Cl.sl (itms_cl l)) (.cons (.s _) .nil)) (.i _ _) ?_
 conv=>whnf
 refine GIf.mk (fun h2=>?_) (fun h2=>?_)<;>conv=>whnf
 ·refine owes_b ?_
  rw[known_no hy (.inr ?_)]
  have h3:¬idxN l y.name=(i:Int):=by simpa using h2
  rw[idx_ne hnd hy] at h3
  simpa using h3
 ·have h3:idxN l y.name=(i:Int):=by simpa using h2
  exact⟨l.length - (i+1),(by show _<l.length - i;omega),i+1,⟨hlt,take_all_succ hok hy h1',(nodup_succ hnd hy).2 ((idx_ne hnd hy).1 h3)⟩,rfl,⟨rfl,wrap_succ (by omega),trivial⟩,rfl⟩
theorem r_ValidItems1 [MaxL] (l:List Itm) (hl:l.length<most):SC Tryz.prog 126 [.sl .none (itms l)] [] (.val (.b (decide (0<l.length)&&knownB l))) []:=by
 have hk:=r_Known1 l hl
 have hlen:=itms_len l
 generalize knownB l=b at*
 refine gwS Tryz.func126 rfl ?_
 conv=>whnf
 refine GIf.mk (fun h=>?_) (fun h=>?_)<;>conv=>whnf
 ·refine callP hk (wR _) rfl (cC (Cl.sl (itms_cl l)) .nil) (.b _) ?_
  conv=>whnf
  refine owes_b ?_
  rw[decide_eq_true (by have:=of_decide_eq_true h;omega)];rfl
 ·refine owes_b ?_
  rw[decide_eq_false (by have:=of_decide_eq_false h;omega)];rfl
structure Ar where
 name:By
 pages:Int
structure Rc where
 name:By
 area:By
 its:List Itm
 place:Int
 keys:List By
 dups:Bool
 via:By
 check:By
structure Mb where
 of:By
 auto:Bool
 keep:Int
 sel:List By
structure Ky where
 item:By
 down:Bool
structure Sy where
 name:By
 owner:By
 ms:List Mb
 order:Int
 keys:List Ky
 dups:Int
 mode:Int
structure Sch where
 ar:List Ar
 rc:List Rc
 st:List Sy
def atI {α:Type} (p:α->Bool):List α->Int
 |[]=> -1
 |x::l=>if p x then 0 else if atI p l<0 then -1 else atI p l+1
theorem atI_at {α:Type} {p:α->Bool} {l:List α} {i:Nat} {y:α} (hy:l[i]?=some y) (hp:p y=true) (h:∀z∈l.take i,p z=false):atI p l=i:=by
 induction l generalizing i with
 |nil=>cases hy
 |cons x l ih=>
  match i,hy,h with
  |0,hy,h=>cases hy;unfold atI;rw[if_pos hp];rfl
  |i+1,hy,h=>
   have h0:=ih (i:=i) hy (fun z hz=>h z (by rw[List.take_succ_cons];exact List.mem_cons_of_mem _ hz))
   have hx:p x=false:=h x (by rw[List.take_succ_cons];exact List.mem_cons_self)
   unfold atI
   rw[hx,h0,if_neg (by simp),if_neg (by omega)]
   rfl
theorem atI_no {α:Type} {p:α->Bool} {l:List α} (h:∀z∈l,p z=false):atI p l= -1:=by
 induction l with
 |nil=>rfl
 |cons x l ih=>
  unfold atI
  rw[h x List.mem_cons_self,ih fun z hz=>h z (List.mem_cons_of_mem _ hz)]
  rfl
theorem atI_neg {α:Type} {p:α->Bool} {l:List α}:atI p l<0↔∀z∈l,p z=false:=by
 constructor
 ·induction l with
  |nil=>intro _ z hz;cases hz
  |cons x l ih=>
   intro h z hz
   unfold atI at h
   cases hx:p x with
   |true=>rw[hx,if_pos rfl] at h;omega
   |false=>
    rw[hx,if_neg (by simp)] at h
    have hl:atI p l<0:=by
     by_cases hl:atI p l<0
     ·exact hl
     ·rw[if_neg hl] at h;omega
    rcases List.mem_cons.1 hz with rfl|hz
    ·exact hx
    ·exact ih hl z hz
 ·intro h;rw[atI_no h];omega
theorem atI_some {α:Type} {p:α->Bool} {l:List α} (h:0<=atI p l):∃i y,atI p l=(i:Nat)/\l[i]?=some y/\p y=true/\(∀z∈l.take i,p z=false)/\l.find? p=some y:=by
 induction l with
 |nil=>exact absurd h (by unfold atI;omega)
 |cons x l ih=>
  cases hx:p x with
  |true=>exact⟨0,x,by unfold atI;rw[if_pos hx];rfl,rfl,hx,by simp,by simp[hx]⟩
  |false=>
   have hl:0<=atI p l:=by
    unfold atI at h
    rw[hx,if_neg (by simp)] at h
    by_cases hl:atI p l<0
    ·rw[if_pos hl] at h;omega
    ·omega
   obtain⟨i,y,e,hy,hp,ht,hf⟩:=ih hl
   refine⟨i+1,y,?_,hy,hp,fun z hz=>?_,by simp[hx,hf]⟩
   ·unfold atI
    rw[hx,if_neg (by simp),e,if_neg (by omega)]
    rfl
   ·rw[List.take_succ_cons] at hz
    rcases List.mem_cons.1 hz with rfl|hz
    ·exact hx
    ·exact ht z hz
theorem atI_lt {α:Type} {p:α->Bool} {l:List α} {i:Nat} {y:α} (hy:l[i]?=some y) (hp:p y=true):decide (atI p l<(i:Int))=(l.take i).any p:=by
 cases h:(l.take i).any p with
 |false=>
  rw[atI_at hy hp fun z hz=>by
   cases hz':p z with
   |false=>rfl
   |true=>exact absurd (List.any_eq_true.2 ⟨z,hz,hz'⟩) (by rw[h];simp)]
  simp
 |true=>
  obtain⟨z,hz,hz'⟩:=List.any_eq_true.1 h
  obtain⟨j,hj,rfl⟩:=List.getElem_of_mem hz
  have hj':j<i:=by rw[List.length_take] at hj;omega
  have hjl:j<l.length:=by rw[List.length_take] at hj;omega
  rw[List.getElem_take] at hz'
  have h0:0<=atI p l:=by
   rcases Int.lt_or_le (atI p l) 0 with h9|h9
   ·rw[atI_neg.1 h9 _ (List.getElem_mem hjl)] at hz';cases hz'
   ·exact h9
  obtain⟨k,w,e,hw,hpw,ht, -⟩:=atI_some h0
  have hk:k<=j:=Nat.le_of_not_lt fun h9=>by
   have:=ht l[j] (List.mem_take_iff_getElem.2 ⟨j,by omega,rfl⟩)
   rw[this] at hz';cases hz'
  rw[e]
  simp;omega
def firstX {α:Type} (f:Nat->α->Int):Nat->List α->Option (Nat×Int)
 |_,[]=>none
 |i,x::l=>if f i x=0 then firstX f (i+1) l else some (i,f i x)
theorem firstX_at {α:Type} {f:Nat->α->Int} {l:List α} {n i:Nat} {y:α} (hy:l[i]?=some y) (hn:f (n+i) y≠0) (h:∀j z,j<i->l[j]?=some z->f (n+j) z=0):
  firstX f n l=some (n+i,f (n+i) y):=by
 induction l generalizing i n with
 |nil=>cases hy
 |cons x l ih=>
  match i,hy,hn,h with
  |0,hy,hn,h=>cases hy;rw[Nat.add_zero] at hn⊢;unfold firstX;rw[if_neg hn]
  |i+1,hy,hn,h=>
   unfold firstX
   rw[if_pos (show f n x=0 from h 0 x (Nat.succ_pos _) rfl),ih (n:=n+1) (i:=i) hy (by rw[show n+1+i=n+(i+1) by omega];exact hn) fun j z hj hz=>by
    rw[show n+1+j=n+(j+1) by omega];exact h (j+1) z (by omega) hz]
   rw[show n+1+i=n+(i+1) by omega]
theorem firstX_no {α:Type} {f:Nat->α->Int} {l:List α} {n:Nat} (h:∀j z,l[j]?=some z->f (n+j) z=0):firstX f n l=none:=by
 induction l generalizing n with
 |nil=>rfl
 |cons x l ih=>
  unfold firstX
  rw[if_pos (show f n x=0 from h 0 x rfl)]
  exact ih fun j z hz=>by rw[show n+1+j=n+(j+1) by omega];exact h (j+1) z hz
theorem firstX_all {α:Type} {f:Nat->α->Int} {l:List α} {n:Nat} (h:firstX f n l=none):∀j z,l[j]?=some z->f (n+j) z=0:=by
 induction l generalizing n with
 |nil=>intro j z hz;cases hz
 |cons x l ih=>
  unfold firstX at h
  intro j z hz
  by_cases h0:f n x=0
  ·rw[if_pos h0] at h
   match j,hz with
   |0,hz=>cases hz;exact h0
   |j+1,hz=>rw[show n+(j+1)=n+1+j by omega];exact ih h j z hz
  ·rw[if_neg h0] at h;cases h
def firstE {α:Type} (f:Nat->α->Int) (l:List α):Int:=match firstX f 0 l with
 |some (_,e)=>e
 |none=>0
theorem firstE_at {α:Type} {f:Nat->α->Int} {l:List α} {i:Nat} {y:α} (hy:l[i]?=some y) (hn:f i y≠0) (h:∀j z,j<i->l[j]?=some z->f j z=0):firstE f l=f i y:=by
 unfold firstE
 rw[firstX_at (n:=0) hy (by rw[Nat.zero_add];exact hn) fun j z hj hz=>by rw[Nat.zero_add];exact h j z hj hz,Nat.zero_add]
theorem firstE_no {α:Type} {f:Nat->α->Int} {l:List α} (h:∀j z,l[j]?=some z->f j z=0):firstE f l=0:=by
 unfold firstE
 rw[firstX_no (n:=0) fun j z hz=>by rw[Nat.zero_add];exact h j z hz]
def orE (a b:Int):Int:=if a=0 then b else a
def stopE (w:Bool) (e b:Int):Int:=if w then e else b
def sysW:By:=[115,121,115,116,101,109]
def inB (n lo hi:Int):Bool:=decide (lo<=n)&&decide (n<=hi)
def nameE (met:List By) (n:By) (b:Int):Int:=stopE (!isName n||n==sysW) 1 (stopE (met.contains n) 6 b)
def areaE (met:List By) (a:Ar):Int:=nameE met a.name (stopE (!inB a.pages 1 200) 7 0)
def areaN (s:Sch):List By:=s.ar.map (·.name)
def recN (s:Sch):List By:=s.rc.map (·.name)
def setN (s:Sch):List By:=s.st.map (·.name)
def keyE (r:Rc) (k:Nat) (n:By):Int:=stopE (!(r.its.any (·.name==n))) 5 (stopE ((r.keys.take k).contains n) 6 0)
def keysE (r:Rc):Int:=if r.place=2 then stopE (!inB r.keys.length 1 4) 11 (firstE (keyE r) r.keys) else stopE (!r.keys.isEmpty||r.dups) 1 0
def viaE (s:Sch) (r:Rc):Int:=if r.place=3 then stopE (match s.st.find? (·.name==r.via) with|none=>true|some t=>!(t.ms.any (·.of==r.name))) 5 0 else stopE (r.via !=[]) 1 0
section
variable (known : List Itm → Bool) (canon : By → Bool) (check : List Itm → By → Int)
def chkdE (r:Rc):Int:=if r.check=[] then 0 else stopE (!canon r.check) 2 (check r.its r.check)
def recE (s:Sch) (met:List By) (r:Rc):Int:=nameE met r.name (stopE (!((areaN s).contains r.area)) 5 (stopE (!known r.its||!inB r.place 1 3) 1 (orE (keysE r) (orE (viaE s r) (chkdE canon check r)))))
end
def kindOf (its:List Itm) (n:By):Int:=match its.find? (·.name==n) with
 |some x=>x.k
 |none=>0
def recOf (s:Sch) (n:By):Rc:=(s.rc.find? (·.name==n)).getD ⟨[],[],[],0,[],false,[],[]⟩
def pickE (o r:Rc) (k:Nat) (n:By):Int:=stopE (!(r.its.any (·.name==n))) 5 (stopE (kindOf r.its n !=kindOf o.its ((o.keys[k]?).getD [])) 10 0)
def selE (s:Sch) (t:Sy) (m:Mb):Int:=if m.sel=[] then 0 else
 stopE (t.owner==[]) 10 (stopE ((recOf s t.owner).place !=2||(recOf s t.owner).dups) 10 (stopE (m.sel.length !=(recOf s t.owner).keys.length) 11 (firstE (pickE (recOf s t.owner) (recOf s m.of)) m.sel)))
def membE (s:Sch) (t:Sy) (k:Nat) (m:Mb):Int:=
 stopE (!((recN s).contains m.of)) 5 (stopE (((t.ms.take k).map (·.of)).contains m.of) 6 (stopE (!inB m.keep 1 3) 1 (selE s t m)))
def sortKeyE (s:Sch) (t:Sy) (k:Nat) (y:Ky):Int:=
 stopE (!(t.ms.all fun m=>(recOf s m.of).its.any (·.name==y.item))) 5
  (stopE (!(t.ms.all fun m=>kindOf (recOf s m.of).its y.item==kindOf (recOf s ((t.ms.head?.map (·.of)).getD [])).its y.item)) 10
   (stopE (((t.keys.take k).map (·.item)).contains y.item) 6 0))
def sortE (s:Sch) (t:Sy):Int:=stopE (!inB t.keys.length 1 4) 11 (orE (firstE (sortKeyE s t) t.keys) (stopE (!inB t.dups 1 3) 1 0))
def setE (s:Sch) (met:List By) (t:Sy):Int:=
 nameE met t.name (stopE (t.owner !=[]&&!((recN s).contains t.owner)) 5 (stopE (!inB t.ms.length 1 4) 11 (orE (firstE (membE s t) t.ms)
  (stopE (!inB t.order 1 5) 1 (orE (if t.order=5 then sortE s t else stopE (!t.keys.isEmpty||t.dups !=0) 1 0)
   (stopE (!inB t.mode 1 3) 1 (stopE (t.mode==3&&t.order !=5) 10 0)))))))
def areaW:By:=[97,114,101,97]
def recordW:By:=[114,101,99,111,114,100]
def setW3:By:=[115,101,116]
section
variable (known : List Itm → Bool) (canon : By → Bool) (check : List Itm → By → Int)
def setsW (s:Sch):By×Nat×Int:=if s.st.length>60 then(setW3,0,4) else
 match firstX (fun i t=>setE s (areaN s++(recN s++(setN s).take i)) t) 0 s.st with
 |some (i,e)=>(setW3,i,e)
 |none=>([],0,0)
def recsW (s:Sch):By×Nat×Int:=if !inB s.rc.length 1 10 then(recordW,0,4) else
 match firstX (fun i r=>recE known canon check s (areaN s++(recN s).take i) r) 0 s.rc with
 |some (i,e)=>(recordW,i,e)
 |none=>setsW s
def schW (s:Sch):By×Nat×Int:=if !inB s.ar.length 1 6 then(areaW,0,4) else
 match firstX (fun i a=>areaE ((areaN s).take i) a) 0 s.ar with
 |some (i,e)=>(areaW,i,e)
 |none=>recsW known canon check s
end
theorem stopE_zero {w:Bool} {e b:Int} (h:stopE w e b=0) (he:e≠0):w=false/\b=0:=by
 cases w with
 |false=>exact⟨rfl,h⟩
 |true=>exact absurd h he
theorem orE_zero {a b:Int} (h:orE a b=0):a=0/\b=0:=by
 unfold orE at h
 by_cases ha:a=0
 ·rw[if_pos ha] at h;exact⟨ha,h⟩
 ·rw[if_neg ha] at h;exact absurd h ha
theorem firstE_all {α:Type} {f:Nat->α->Int} {l:List α} (h:firstE f l=0):∀j z,l[j]?=some z->f j z=0:=by
 unfold firstE at h
 cases hx:firstX f 0 l with
 |none=>intro j z hz;have:=firstX_all hx j z hz;rwa [Nat.zero_add] at this
 |some p=>
  obtain⟨i,e⟩:=p
  rw[hx] at h
  have aux:∀(l:List α) (n:Nat),firstX f n l=some (i,e)->e≠0:=by
   intro l
   induction l with
   |nil=>intro n h;cases h
   |cons x l ih=>
    intro n h
    unfold firstX at h
    by_cases h0:f n x=0
    ·rw[if_pos h0] at h;exact ih _ h
    ·rw[if_neg h0] at h;cases h;exact h0
  exact absurd h (aux l 0 hx)
def Good (known:List Itm->Bool) (r:Rc):Prop:=known r.its=true/\(r.place=2->∀n∈r.keys,r.its.any (·.name==n)=true)
theorem rec_good {known:List Itm->Bool} {canon:By->Bool} {check:List Itm->By->Int} {s:Sch} {met:List By} {r:Rc} (h:recE known canon check s met r=0):Good known r:=by
 unfold recE nameE at h
 obtain⟨-,h⟩:=stopE_zero h (by decide)
 obtain⟨-,h⟩:=stopE_zero h (by decide)
 obtain⟨-,h⟩:=stopE_zero h (by decide)
 obtain⟨hk,h⟩:=stopE_zero h (by decide)
 obtain⟨h1, -⟩:=orE_zero h
 refine⟨by simpa using(Bool.or_eq_false_iff.1 hk).1,fun hp n hn=>?_⟩
 unfold keysE at h1
 rw[if_pos hp] at h1
 obtain⟨-,h1⟩:=stopE_zero h1 (by decide)
 obtain⟨j,hj⟩:=List.getElem?_of_mem hn
 have h2:=firstE_all h1 j n hj
 unfold keyE at h2
 obtain⟨h2, -⟩:=stopE_zero h2 (by decide)
 simpa using h2
theorem recs_good {known:List Itm->Bool} {canon:By->Bool} {check:List Itm->By->Int} {s:Sch} {f:Nat->List By} (h:firstX (fun i r=>recE known canon check s (f i) r) 0 s.rc=none):∀r∈s.rc,Good known r:=by
 intro r hr
 obtain⟨j,hj⟩:=List.getElem?_of_mem hr
 exact rec_good (firstX_all h j r hj)
theorem contains_map {α:Type} (f:α->By) (l:List α) (n:By):(l.map f).contains n=l.any (fun x=>f x==n):=by
 induction l with
 |nil=>rfl
 |cons x l ih=>rw[List.map_cons,List.contains_cons,List.any_cons,ih,Bool.beq_comm]
theorem atI_any {α:Type} (p:α->Bool) (l:List α):decide (0<=atI p l)=l.any p:=by
 rw[Bool.eq_iff_iff,decide_eq_true_eq,List.any_eq_true]
 constructor
 ·intro h
  obtain⟨i,y, -,hy,hp, -, -⟩:=atI_some h
  exact⟨y,List.mem_of_getElem? hy,hp⟩
 ·intro⟨y,hy,hp⟩
  rcases Int.lt_or_le (atI p l) 0 with h9|h9
  ·rw[atI_neg.1 h9 y hy] at hp;cases hp
  ·exact h9
theorem atI_none {α:Type} (p:α->Bool) (l:List α):decide (atI p l<0)=!l.any p:=by
 rw[<-atI_any]
 by_cases h:atI p l<0
 ·rw[decide_eq_true h,decide_eq_false (by omega)];rfl
 ·rw[decide_eq_false h,decide_eq_true (by omega)];rfl
theorem met_app (a b:List By) (n:By):(a++b).contains n=(a.contains n||b.contains n):=by
 induction a with
 |nil=>simp
 |cons x a ih=>rw[List.cons_append,List.contains_cons,List.contains_cons,ih,Bool.or_assoc]
theorem metA (s:Sch) (i:Nat) (n:By):((areaN s).take i).contains n=(s.ar.take i).any (fun x=>x.name==n):=by
 unfold areaN;rw[<-List.map_take];exact contains_map _ _ _
theorem metR (s:Sch) (i:Nat) (n:By):(areaN s++(recN s).take i).contains n=(s.ar.any (fun x=>x.name==n)||(s.rc.take i).any (fun x=>x.name==n)):=by
 rw[met_app];unfold areaN recN;rw[<-List.map_take,contains_map,contains_map]
theorem metS (s:Sch) (i:Nat) (n:By):(areaN s++(recN s++(setN s).take i)).contains n=(s.ar.any (fun x=>x.name==n)||(s.rc.any (fun x=>x.name==n)||(s.st.take i).any (fun x=>x.name==n))):=by
 rw[met_app,met_app];unfold areaN recN setN;rw[<-List.map_take,contains_map,contains_map,contains_map]
end Go.Proofs.YtcfgfkkhpdlhpaaGreatDoor
