/-
  CondRenames: Rename of every text and names is that of the reference, and over items renamed alike a condition is as true as before: the card, for every input.
-/
import Derived.Test.YtlhabmglchgdnaaGreatDoorQ42
import Derived.Shelf.Spec.SlicesGrow
import Derived.Shelf.LaysM
import Derived.Shelf.LaysC
import Derived.Test.YtlhabmglchgdnaaGreatDoorChecked
import Derived.Test.YtlhabmglchgdnaaGreatDoorQ19
import Derived.Laws.AppendOwn
set_option linter.all false
namespace Go.Proofs.YtlhabmglchgdnaaGreatDoor
open Go.RowKit
set_option maxRecDepth 100000
set_option linter.unusedVariables false
def renT (f g:List By) (t:Term):Term:=if t.var=false/\t.name≠[] then match f.findIdx? (· ==t.name) with
  |some i=>⟨g.getD i [],false,t.v⟩
  |none=>t
 else t
theorem r_bound (x:By) (v:Val) (t:Term) (h:t.var=true->t.name≠[]):SC Tryz.prog 115 [.agg (sdc t),.s x,v.gv] [] (.val (.agg (sdc (boundT x v t)))) []:=by
 obtain⟨nm,vr,w⟩:=t
 cases vr with
 |false=>
  refine SC.of_gwp noM mixed Tryz.func115 rfl (Nat.le_of_ble_eq_true rfl) (by first|exact Nat.le_refl _|simp) rfl ?_
  conv=>whnf
  repeat (refine⟨_,⟨rfl,Nat.zero_le _,rfl,Nat.le_of_ble_eq_true rfl⟩,?_⟩;conv=>whnf)
  exact owes_wk (.refl _) (fun _=>rfl)
 |true=>
  have h':nm≠[]:=h rfl
  by_cases hx:nm=x
  ·have e:boundT x v ⟨nm,true,w⟩=⟨[],false,v⟩:=if_pos ⟨rfl,hx⟩
   rw[e]
   refine SC.of_gwp noM mixed Tryz.func115 rfl (Nat.le_of_ble_eq_true rfl) (by first|exact Nat.le_refl _|simp) rfl ?_
   conv=>whnf
   refine GIf.mk (fun h1=>?_) (fun h1=>?_)<;>conv=>whnf
   ·skip
    refine GIf.mk (fun h2=>?_) (fun h2=>?_)<;>conv=>whnf
    ·skip
     repeat (refine⟨_,⟨rfl,Nat.zero_le _,rfl,Nat.le_of_ble_eq_true rfl⟩,?_⟩;conv=>whnf)
     exact owes_wk (.refl _) (fun _=>rfl)
    ·exfalso;simp[hx] at h2
   ·exfalso;simp at h1;exact h' h1
  ·have e:boundT x v ⟨nm,true,w⟩=⟨nm,true,w⟩:=if_neg (fun q=>hx q.2)
   rw[e]
   refine SC.of_gwp noM mixed Tryz.func115 rfl (Nat.le_of_ble_eq_true rfl) (by first|exact Nat.le_refl _|simp) rfl ?_
   conv=>whnf
   refine GIf.mk (fun h1=>?_) (fun h1=>?_)<;>conv=>whnf
   ·skip
    refine GIf.mk (fun h2=>?_) (fun h2=>?_)<;>conv=>whnf
    ·exfalso;simp at h2;exact hx h2
    ·skip
     repeat (refine⟨_,⟨rfl,Nat.zero_le _,rfl,Nat.le_of_ble_eq_true rfl⟩,?_⟩;conv=>whnf)
     exact owes_wk (.refl _) (fun _=>rfl)
   ·skip
    repeat (refine⟨_,⟨rfl,Nat.zero_le _,rfl,Nat.le_of_ble_eq_true rfl⟩,?_⟩;conv=>whnf)
    exact owes_wk (.refl _) (fun _=>rfl)
theorem find_ne {f:List By} {s:By} (h:∀z∈f,z≠s):f.findIdx? (· ==s)=none:=by
 rw[List.findIdx?_eq_none_iff]
 intro z hz
 simpa using h z hz
theorem find_at {f:List By} {s:By} {i:Nat} (h:f[i]?=some s) (hn:∀z∈f.take i,z≠s):f.findIdx? (· ==s)=some i:=by
 rw[List.findIdx?_eq_some_iff_getElem]
 obtain⟨hi,he⟩:=List.getElem?_eq_some_iff.1 h
 refine⟨hi,by simpa using he,fun j hj=>?_⟩
 have:=hn f[j] (List.mem_take_iff_getElem.2 ⟨j,by omega,rfl⟩)
 simpa using this
theorem take_ne1 {f:List By} {s y:By} {i:Nat} (hn:∀z∈f.take i,z≠s) (hy:f[i]?=some y) (h:y≠s):∀z∈f.take (i+1),z≠s:=fun z hz=>by
 rw[List.take_add_one,hy] at hz
 rcases List.mem_append.1 hz with q|q
 ·exact hn z q
 ·simp at q;rw[q];exact h
theorem r_renamed (f g:List By) (hf:f.length<1000000) (hg:f.length<=g.length) (t:Term):
  SC Tryz.prog 116 [.agg (sdc t),.sl .none (strG f),.sl .none (strG g)] [] (.val (.agg (sdc (renT f g t)))) []:=by
 have hlen:=strG_len f
 obtain⟨nm,vr,w⟩:=t
 cases vr with
 |true=>
  have e:renT f g ⟨nm,true,w⟩=⟨nm,true,w⟩:=if_neg (fun q=>by cases q.1)
  rw[e]
  refine SC.of_gwp noM mixed Tryz.func116 rfl (Nat.le_of_ble_eq_true rfl) (by first|exact Nat.le_refl _|simp) rfl ?_
  conv=>whnf
  repeat (refine⟨_,⟨rfl,Nat.zero_le _,rfl,Nat.le_of_ble_eq_true rfl⟩,?_⟩;conv=>whnf)
  exact owes_wk (.refl _) (fun _=>rfl)
 |false=>
  by_cases h0:nm=[]
  ·have e:renT f g ⟨nm,false,w⟩=⟨nm,false,w⟩:=if_neg (fun q=>q.2 h0)
   rw[e]
   subst h0
   refine SC.of_gwp noM mixed Tryz.func116 rfl (Nat.le_of_ble_eq_true rfl) (by first|exact Nat.le_refl _|simp) rfl ?_
   conv=>whnf
   repeat (refine⟨_,⟨rfl,Nat.zero_le _,rfl,Nat.le_of_ble_eq_true rfl⟩,?_⟩;conv=>whnf)
   exact owes_wk (.refl _) (fun _=>rfl)
  ·have e:renT f g ⟨nm,false,w⟩=match f.findIdx? (· ==nm) with
    |some i=>⟨g.getD i [],false,w⟩
    |none=>⟨nm,false,w⟩:=if_pos ⟨rfl,h0⟩
   generalize renT f g ⟨nm,false,w⟩=Q at*
   refine SC.of_gwp noM mixed Tryz.func116 rfl (Nat.le_of_ble_eq_true rfl) (by first|exact Nat.le_refl _|simp) rfl ?_
   conv=>whnf
   refine GIf.mk (fun h1=>?_) (fun h1=>?_)<;>conv=>whnf
   ·exfalso;simp at h1;exact h0 h1
   refine GLoop.introS (fun i:Nat=>i<=f.length/\∀z∈f.take i,z≠nm) (fun i=>[(1,.sl .none (strG f)),(2,.sl .none (strG g)),(3,.ptr 0 0),(6,.ptr 1 0),(7,.i .i64 (i:Nat))]) (fun _=>⟨[.box 67 (sdc ⟨nm,false,w⟩),.box 67 (sdc t0)],0,[]⟩) (fun i=>f.length - i) 0 ⟨Nat.zero_le _,fun z h=>by simp at h⟩ ⟨rfl,rfl,rfl,rfl,rfl,trivial⟩ rfl (fun _ _=>Nat.le_refl _) (fun _ _=>rfl) (fun i _ e he=>?_) (fun i φ0 hi=>?_)
   ·refine⟨rfl,rfl,?_⟩
    show[(GV.sl .none (strG f)).ren e,(GV.sl .none (strG g)).ren e,.ptr (e 0) 0,.ptr (e 1) 0,_]=_
    rw[Cl.sl (strG_cl f) e,Cl.sl (strG_cl g) e,he 0 (by simp),he 1 (by simp)];rfl
   obtain⟨hi,hne⟩:=hi
   conv=>whnf
   refine GIf.mk (fun h=>?_) (fun h=>?_)<;>conv=>whnf
   rotate_left
   ·have hie:i=f.length:=by have:=of_decide_eq_false h;rw[hlen] at this;omega
    rw[hie,List.take_length] at hne
    have eT:Q=⟨nm,false,w⟩:=by rw[e,find_ne hne]
    cases eT
    repeat (refine⟨_,⟨rfl,Nat.zero_le _,rfl,Nat.le_of_ble_eq_true rfl⟩,?_⟩;conv=>whnf)
    exact owes_wk (.refl _) (fun _=>rfl)
   have hlt:i<f.length:=by have:=of_decide_eq_true h;rw[hlen] at this;omega
   obtain⟨y,hy⟩:∃y,f[i]?=some y:=⟨f[i],List.getElem?_eq_getElem hlt⟩
   have hgy:(strG f)[i]?=some (.s y):=by unfold strG;rw[List.getElem?_map,hy];rfl
   obtain⟨x,hx⟩:∃x,g[i]?=some x:=⟨g[i]'(by omega),List.getElem?_eq_getElem _⟩
   have hgx:(strG g)[i]?=some (.s x):=by unfold strG;rw[List.getElem?_map,hx];rfl
   refine GDraw.calm (by kernel_rfl) ?_
   conv=>whnf
   refine⟨Int.natCast_nonneg _,.s y,by rw[Int.toNat_natCast];exact hgy,rfl,?_⟩
   conv=>whnf
   refine GIf.mk (fun heq=>?_) (fun heq=>?_)<;>conv=>whnf
   ·have e2:y=nm:=by simpa using heq
    have eT:Q=⟨x,false,w⟩:=by
     rw[e,find_at (by rw[hy,e2]) hne]
     show(⟨g.getD i [],false,w⟩:Term)=_
     rw[List.getD_eq_getElem?_getD,hx];rfl
    cases eT
    refine⟨Int.natCast_nonneg _,.s x,by rw[Int.toNat_natCast];exact hgx,rfl,?_⟩
    conv=>whnf
    refine⟨_,⟨rfl,Nat.zero_le _,rfl,Nat.le_of_ble_eq_true rfl⟩,?_⟩
    conv=>whnf
    repeat (refine⟨_,⟨rfl,Nat.zero_le _,rfl,Nat.le_of_ble_eq_true rfl⟩,?_⟩;conv=>whnf)
    exact owes_wk (.refl _) (fun _=>rfl)
   ·have e2:y≠nm:=by simpa using heq
    exact⟨f.length - (i+1),(by show _<f.length - i;omega),i+1,⟨hlt,take_ne1 hne hy e2⟩,rfl,⟨rfl,rfl,rfl,rfl,wrap_succ (by omega),trivial⟩,[],rfl,rfl⟩
end Go.Proofs.YtlhabmglchgdnaaGreatDoor
namespace Go.Proofs.YtlhabmglchgdnaaGreatDoor
open Go.RowKit
set_option maxRecDepth 100000
set_option linter.unusedVariables false
theorem l_index (f:List By) (hl:f.length<1000000) (s:By):SC Tryz.prog 36 [.sl .none (strG f),.s s] [] (.val (.i .i64 (idxS f s))) []:=by
 have hlen:=strG_len f
 refine SC.of_gwp noM mixed Tryz.func36 rfl (Nat.le_of_ble_eq_true rfl) (by first|exact Nat.le_refl _|simp) rfl ?_
 conv=>whnf
 refine GLoop.intro (fun i:Nat=>i<=f.length/\∀z∈f.take i,z≠s) (fun i=>[(0,.sl .none (strG f)),(1,.s s),(5,.i .i64 (i:Nat))]) (fun _=>⟨[],0,[]⟩) (fun i=>f.length - i) 0 ⟨Nat.zero_le _,fun z h=>by simp at h⟩ ⟨rfl,rfl,rfl,trivial⟩ rfl (fun i φ0 hi=>?_)
 obtain⟨hi,hne⟩:=hi
 conv=>whnf
 refine GIf.mk (fun h=>?_) (fun h=>?_)<;>conv=>whnf
 rotate_left
 ·have hie:i=f.length:=by have:=of_decide_eq_false h;rw[hlen] at this;omega
  refine owes_i ?_
  rw[hie,List.take_length] at hne
  unfold idxS
  rw[find_ne hne]
 have hlt:i<f.length:=by have:=of_decide_eq_true h;rw[hlen] at this;omega
 obtain⟨y,hy⟩:∃y,f[i]?=some y:=⟨f[i],List.getElem?_eq_getElem hlt⟩
 have hgy:(strG f)[i]?=some (.s y):=by unfold strG;rw[List.getElem?_map,hy];rfl
 refine⟨Int.natCast_nonneg _,_,by rw[Int.toNat_natCast];exact hgy,rfl,?_⟩
 conv=>whnf
 refine GIf.mk (fun heq=>?_) (fun heq=>?_)<;>conv=>whnf
 ·have e:y=s:=by simpa using heq
  refine owes_i ?_
  unfold idxS
  rw[find_at (by rw[hy,e]) hne]
 ·have e:y≠s:=by simpa using heq
  exact⟨f.length - (i+1),(by show _<f.length - i;omega),i+1,⟨hlt,take_ne1 hne hy e⟩,rfl,⟨rfl,rfl,wrap_succ (by omega),trivial⟩,rfl⟩
def namesB (l:List By):Bool:=(l.take 20).all (fun i=>decide (i.length<=100))&&decide (l.length<=20)
theorem l_Names (l:List By):SC Tryz.prog 32 [.sl .none (strG l)] [] (.val (.b (namesB l))) []:=by
 have hlen:=strG_len l
 unfold namesB
 refine SC.of_gwp noM mixed Tryz.func32 rfl (Nat.le_of_ble_eq_true rfl) (by first|exact Nat.le_refl _|simp) rfl ?_
 conv=>whnf
 refine GLoop.intro (fun i:Nat=>i<=l.length/\i<=20/\∀z∈l.take i,z.length<=100) (fun i=>[(0,.sl .none (strG l)),(3,.i .i64 (i:Nat))]) (fun _=>⟨[],0,[]⟩) (fun i=>l.length - i) 0 ⟨Nat.zero_le _,Nat.zero_le _,(fun z h=>by simp at h)⟩ ⟨rfl,rfl,trivial⟩ rfl (fun i φ0 hi=>?_)
 obtain⟨hi,hi2,hok⟩:=hi
 have fin:(i=l.length∨i=20)->(l.take 20).all (fun i=>decide (i.length<=100))=true:=fun hh=>by
  rw[List.all_eq_true]
  intro x hx
  refine decide_eq_true (hok x ?_)
  rcases hh with rfl|rfl
  ·rw[List.take_length];exact List.mem_of_mem_take hx
  ·exact hx
 have hle:decide (((strG l).length:Int)<=20)=decide (l.length<=20):=by rw[hlen,decide_eq_decide];omega
 conv=>whnf
 refine GIf.mk (fun h=>?_) (fun h=>?_)<;>conv=>whnf
 rotate_left
 ·have hie:i=l.length:=by have:=of_decide_eq_false h;rw[hlen] at this;omega
  refine owes_b ?_
  rw[fin (.inl hie),Bool.true_and];exact hle
 have hlt:i<l.length:=by have:=of_decide_eq_true h;rw[hlen] at this;omega
 refine GIf.mk (fun h2=>?_) (fun h2=>?_)<;>conv=>whnf
 rotate_left
 ·have hie:i=20:=by have:=of_decide_eq_false h2;omega
  refine owes_b ?_
  rw[fin (.inr hie),Bool.true_and];exact hle
 have hlt2:i<20:=by have:=of_decide_eq_true h2;omega
 obtain⟨y,hy⟩:∃y,l[i]?=some y:=⟨l[i],List.getElem?_eq_getElem hlt⟩
 have hgy:(strG l)[i]?=some (.s y):=by unfold strG;rw[List.getElem?_map,hy];rfl
 refine⟨Int.natCast_nonneg _,_,by rw[Int.toNat_natCast];exact hgy,rfl,?_⟩
 conv=>whnf
 refine GIf.mk (fun h3=>?_) (fun h3=>?_)<;>conv=>whnf
 ·have h3':¬y.length<=100:=by have:=of_decide_eq_true h3;omega
  refine owes_b ?_
  have:(l.take 20).all (fun i=>decide (i.length<=100))=false:=List.all_eq_false.2 ⟨y,List.mem_of_getElem? (i:=i) (by rw[List.getElem?_take,if_pos hlt2];exact hy),by simpa using h3'⟩
  rw[this];rfl
 ·have h3':y.length<=100:=by have:=of_decide_eq_false h3;omega
  refine⟨l.length - (i+1),(by show _<l.length - i;omega),i+1,⟨hlt,hlt2,fun z hz=>?_⟩,rfl,⟨rfl,wrap_succ (by omega),trivial⟩,rfl⟩
  rw[List.take_add_one,hy] at hz
  rcases List.mem_append.1 hz with hz|hz
  ·exact hok z hz
  ·rw[List.mem_singleton.1 (show z∈[y] from hz)];exact h3'
theorem names_le {l:List By} (h:namesB l=true):l.length<=20:=by
 unfold namesB at h
 rw[Bool.and_eq_true] at h
 exact of_decide_eq_true h.2
end Go.Proofs.YtlhabmglchgdnaaGreatDoor
namespace Go.Proofs.YtlhabmglchgdnaaGreatDoor
open Go.RowKit
set_option maxRecDepth 100000
set_option linter.unusedVariables false
def chT (f g:List By) (x:By) (v:Val) (t:Term):Term:=boundT x v (renT f g t)
theorem ren_var (f g:List By) {t:Term} (h:t.var=true->t.name≠[]):(renT f g t).var=true->(renT f g t).name≠[]:=by
 unfold renT
 split
 ·split
  ·intro q;cases q
  ·exact h
 ·exact h
def wsC (f g:List By) (x:By) (v:Val):List GV:=[.sl .none (strG f),.sl .none (strG g),.s x,v.gv]
theorem wsC_cl (f g:List By) (x:By) (v:Val):ClL (wsC f g x v):=ClL.cons (Cl.sl (strG_cl f)) (ClL.cons (Cl.sl (strG_cl g)) (fun _=>rfl))
def mps (F:Term->Term) (L:List Tree) (i:Nat):List Tree:=(L.take i).map (Tree.mp F)
theorem mps_succ {F:Term->Term} {L:List Tree} {i:Nat} {y:Tree} (h:L[i]?=some y):mps F L (i+1)=mps F L i++[y.mp F]:=by
 unfold mps
 rw[List.take_add_one,h,List.map_append];rfl
theorem mps_len (F:Term->Term) (L:List Tree) (i:Nat):(mps F L i).length<=L.length:=by
 unfold mps
 rw[List.length_map,List.length_take];omega
theorem r_ch_node (f g:List By) (hf:f.length<1000000) (hg:f.length<=g.length) (x:By) (v:Val) (k:Nat) (L:List Tree) (A B:Term) (op:By) (yes:Bool) (hL:L.length<=100000) (hA:A.var=true->A.name≠[]) (hB:B.var=true->B.name≠[])
  (hc:∀y∈L,SC Tryz.prog 72 (y.ng::wsC f g x v) [] (.val (y.mp (chT f g x v)).ng) []):
  SC Tryz.prog 72 (.agg (ndc k (ngs L) A B op yes)::wsC f g x v) [] (.val (.agg (ndc k (ngs (L.map (Tree.mp (chT f g x v)))) (chT f g x v A) (chT f g x v B) op yes))) []:=by
 have hnl:(ngs L).length=L.length:=ngs_len L
 have a1:=r_renamed f g hf hg A
 have a2:=r_bound x v (renT f g A) (ren_var f g hA)
 have b1:=r_renamed f g hf hg B
 have b2:=r_bound x v (renT f g B) (ren_var f g hB)
 have hw:=wsC_cl f g x v
 unfold wsC at hc hw⊢
 change SC _ _ _ [] (.val (.agg (ndc k (ngs (L.map (Tree.mp (chT f g x v)))) (boundT x v (renT f g A)) (boundT x v (renT f g B)) op yes))) []
 generalize boundT x v (renT f g A)=A2 at*
 generalize renT f g A=A1 at*
 generalize boundT x v (renT f g B)=B2 at*
 generalize renT f g B=B1 at*
 generalize hF:chT f g x v=F at*
 refine SC.of_gwp noM mixed Tryz.func72 rfl (Nat.le_of_ble_eq_true rfl) (by first|exact Nat.le_refl _|simp) rfl ?_
 conv=>whnf
 refine GDraw.calm (by kernel_rfl) ?_
 conv=>whnf
 refine callP a1 (Wks.refl _) rfl (ClL.cons (Cl.agg (sdc_cl A)) (ClL.cons (Cl.sl (strG_cl f)) (ClL.cons (Cl.sl (strG_cl g)) .nil))) (Cl.agg (sdc_cl A1)) ?_
 conv=>whnf
 refine callP a2 (Wks.refl _) rfl (ClL.cons (Cl.agg (sdc_cl A1)) (fun _=>rfl)) (Cl.agg (sdc_cl A2)) ?_
 conv=>whnf
 refine⟨_,⟨rfl,Nat.zero_le _,rfl,Nat.le_of_ble_eq_true rfl⟩,?_⟩
 conv=>whnf
 refine GDraw.calm (by kernel_rfl) ?_
 conv=>whnf
 refine callP b1 (Wks.refl _) rfl (ClL.cons (Cl.agg (sdc_cl B)) (ClL.cons (Cl.sl (strG_cl f)) (ClL.cons (Cl.sl (strG_cl g)) .nil))) (Cl.agg (sdc_cl B1)) ?_
 conv=>whnf
 refine callP b2 (Wks.refl _) rfl (ClL.cons (Cl.agg (sdc_cl B1)) (fun _=>rfl)) (Cl.agg (sdc_cl B2)) ?_
 conv=>whnf
 refine⟨_,⟨rfl,Nat.zero_le _,rfl,Nat.le_of_ble_eq_true rfl⟩,?_⟩
 conv=>whnf
 refine GLoop.introS (fun q:Nat×List Tree=>q.1<=L.length/\mps F L q.1=q.2) (fun q=>[(1,.sl .none (strG f)),(2,.sl .none (strG g)),(3,.s x),(5,.ptr 0 0),(9,.ptr 1 0),(10,.ptr 2 0),(11,.sl (.own 3) (ngs q.2)),(12,.i .i64 (q.1:Nat))])
  (fun q=>⟨[.box 69 (ndc k (ngs L) A2 B2 op yes),.box 53 v.cs,.box 69 nodeZ,ow 69 14 q.2.length],0,[]⟩) (fun q=>L.length - q.1) (0,[]) ⟨Nat.zero_le _,rfl⟩ ⟨rfl,rfl,rfl,rfl,rfl,rfl,rfl,rfl,trivial⟩ rfl (fun _ _=>Nat.le_refl _) (fun q _=>by simp only[List.all_cons,ow_held];rfl) (fun q _ e he=>?_) (fun q φ0 hi=>?_)
 ·refine⟨?_,rfl,?_⟩
  ·show[(GObj.box _ (ndc k (ngs L) A2 B2 op yes)).ren e,GObj.box _ (v.cs.map (GV.ren e)),GObj.box _ (nodeZ.map (GV.ren e)),(ow _ 14 _).ren e]=_
   rw[ow_ren,GObj.box_cl (ndc_cl (ngs_cl L) A2 B2 op yes) e];rfl
  ·show[(GV.sl .none (strG f)).ren e,(GV.sl .none (strG g)).ren e,_,.ptr (e 0) 0,.ptr (e 1) 0,.ptr (e 2) 0,(GV.sl (.own 3) (ngs q.2)).ren e,_]=_
   rw[ren_own (he 3 (by simp)) (ngs_cl _),Cl.sl (strG_cl f) e,Cl.sl (strG_cl g) e,he 0 (by simp),he 1 (by simp),he 2 (by simp)];rfl
 obtain⟨i,o⟩:=q
 obtain⟨hi,ho⟩:=hi
 replace hi:i<=L.length:=hi
 replace ho:mps F L i=o:=ho
 conv=>whnf
 refine GIf.mk (fun h=>?_) (fun h=>?_)<;>conv=>whnf
 rotate_left
 ·have hie:i=L.length:=by have:=of_decide_eq_false h;rw[hnl] at this;omega
  have hoe:L.map (Tree.mp F)=o:=by rw[<-ho,hie];unfold mps;rw[List.take_length]
  rw[hoe]
  repeat (refine⟨_,⟨rfl,Nat.zero_le _,rfl,Nat.le_of_ble_eq_true rfl⟩,?_⟩;conv=>whnf)
  exact owes_wk wk_node (Cl.agg (ndc_cl (ngs_cl o) A2 B2 op yes))
 have hlt:i<L.length:=by have:=of_decide_eq_true h;rw[hnl] at this;omega
 obtain⟨y,hy⟩:∃y,L[i]?=some y:=⟨L[i],List.getElem?_eq_getElem hlt⟩
 have hgy:(ngs L)[i]?=some y.ng:=by unfold ngs;rw[List.getElem?_map,hy];rfl
 have hcy:=hc y (List.mem_of_getElem? hy)
 have hcl:=y.ng_cl
 have hcl2:=(y.mp F).ng_cl
 have hsucc:=mps_succ (F:=F) hy
 have hle:=mps_len F L (i+1)
 rw[hsucc,ho,List.length_append,List.length_singleton] at hle
 rw[ho] at hsucc
 generalize y.mp F=z at*
 obtain⟨k2,kids,A',B',op',yes2,hng⟩:=ng_form y
 obtain⟨k3,kids3,A3,B3,op3,yes3,hng3⟩:=ng_form z
 rw[hng] at hgy hcy hcl
 rw[hng3] at hcy hcl2
 refine GDraw.calm (by kernel_rfl) ?_
 conv=>whnf
 refine⟨Int.natCast_nonneg _,.agg (ndc k2 kids A' B' op' yes2),by rw[Int.toNat_natCast];exact hgy,rfl,?_⟩
 conv=>whnf
 refine callP hcy (Wks.refl _) rfl (ClL.cons hcl hw) hcl2 ?_
 conv=>whnf
 cases o with
 |nil=>
  refine⟨⟨rfl,ngs_ok _,by show(ngs (([]:List Tree))).length+1<=4294967296;rw[ngs_len];decide⟩,ngs (([]:List Tree)++[z]),(([]:List Tree)++[z]).length,⟨(by show ngs (([]:List Tree)++[z])=ngs (([]:List Tree))++[GV.agg (ndc k3 kids3 A3 B3 op3 yes3)];rw[<-hng3];unfold ngs;rw[List.map_append];rfl),by show _=(ngs (([]:List Tree))).length+1;rw[ngs_len,List.length_append];rfl⟩,?_⟩
  conv=>whnf
  refine⟨⟨Nat.zero_le _,by first|rfl|(rw[ngs_len];rfl)|(rw[ngs_len];simp),by first|exact .inr ⟨rfl,rfl⟩|exact .inl ⟨rfl,rfl⟩⟩,?_⟩
  conv=>whnf
  exact⟨L.length - (i+1),(by show _<L.length - i;omega),(i+1,([]:List Tree)++[z]),⟨hlt,hsucc⟩,rfl,⟨rfl,rfl,rfl,rfl,rfl,rfl,rfl,wrap_succ (by omega),trivial⟩,_,rfl,rfl⟩
 |cons z0 zs=>
  refine⟨⟨rfl,ngs_ok _,by show(ngs ((z0::zs))).length+1<=4294967296;rw[ngs_len];omega⟩,ngs ((z0::zs)++[z]),((z0::zs)++[z]).length,⟨(by show ngs ((z0::zs)++[z])=ngs ((z0::zs))++[GV.agg (ndc k3 kids3 A3 B3 op3 yes3)];rw[<-hng3];unfold ngs;rw[List.map_append];rfl),by show _=(ngs ((z0::zs))).length+1;rw[ngs_len,List.length_append];rfl⟩,?_⟩
  conv=>whnf
  refine⟨⟨Nat.zero_le _,by first|rfl|(rw[ngs_len];rfl)|(rw[ngs_len];simp),by first|exact .inr ⟨rfl,rfl⟩|exact .inl ⟨rfl,rfl⟩⟩,?_⟩
  conv=>whnf
  exact⟨L.length - (i+1),(by show _<L.length - i;omega),(i+1,(z0::zs)++[z]),⟨hlt,hsucc⟩,rfl,⟨rfl,rfl,rfl,rfl,rfl,rfl,rfl,wrap_succ (by omega),trivial⟩,_,rfl,rfl⟩
theorem mp_sides (F:Term->Term) (a:Bool):∀t:Tree,(t.mp F).sides a=(t.sides a).map (Tree.mp F)
 |.pair b l r=>by
  show(Tree.pair b (l.mp F) (r.mp F)).sides a=_
  unfold Tree.sides
  split
  ·rw[List.map_append,mp_sides F a l,mp_sides F a r]
  ·rfl
 |.no t=>rfl
 |.test _ _ _=>rfl
 |.truth _=>rfl
theorem good_var {t:Term} (h:t.good):t.var=true->t.name≠[]:=fun hv=>by
 rcases h with h|h
 ·exact h.1
 ·rw[hv] at h;cases h.2.1
theorem chT_t0 (f g:List By) (x:By) (v:Val):chT f g x v t0=t0:=by
 unfold chT
 have e:renT f g t0=t0:=if_neg (fun h=>h.2 rfl)
 rw[e]
 exact if_neg (fun h=>by cases h.1)
theorem r_changed (f g:List By) (hf:f.length<1000000) (hg:f.length<=g.length) (x:By) (v:Val):∀(n:Nat) (t:Tree),t.size<=n->t.size<=5000->t.good->
  SC Tryz.prog 72 (t.ng::wsC f g x v) [] (.val (t.mp (chT f g x v)).ng) []
 |0,t,h,_,_=>by cases t<;>simp[Tree.size] at h
 |n+1,t,h,h2,hgd=>by
  have n0:t0.var=true->t0.name≠[]:=fun h=>by cases h
  have key:=fun k L yes hL hc=>r_ch_node f g hf hg x v k L t0 t0 [] yes hL n0 n0 hc
  rw[chT_t0] at key
  cases t with
  |truth b=>exact key 5 [] b (by simp) (fun y hy=>by cases hy)
  |test op l r=>exact r_ch_node f g hf hg x v 4 [] l r op false (by simp) (good_var hgd.2.1) (good_var hgd.2.2) (fun y hy=>by cases hy)
  |no t=>
   simp only[Tree.size] at h h2
   exact key 3 [t] false (by simp) (fun y hy=>by
    rw[List.mem_singleton.1 hy];exact r_changed f g hf hg x v n t (by omega) (by omega) hgd)
  |pair a l r=>
   have hs:=@sides_len a (Tree.pair a l r)
   have hk:=key (opn a) ((Tree.pair a l r).sides a) false (by omega) (fun y hy=>by
    have:=sides_lt hy
    exact r_changed f g hf hg x v n y (by omega) (by omega) (good_side hgd y hy))
   rw[show(Tree.pair a l r).ng=.agg (ndc (opn a) (ngs ((Tree.pair a l r).sides a)) t0 t0 [] false) by show GV.agg _=_;rw[ncs_pair]]
   rw[<-mp_sides] at hk
   rw[show((Tree.pair a l r).mp (chT f g x v)).ng=.agg (ndc (opn a) (ngs (((Tree.pair a l r).mp (chT f g x v)).sides a)) t0 t0 [] false) by show GV.agg (Tree.ncs (.pair a _ _))=_;rw[ncs_pair];rfl]
   exact hk
end Go.Proofs.YtlhabmglchgdnaaGreatDoor
namespace Go.Proofs.YtlhabmglchgdnaaGreatDoor
open Go.RowKit
set_option maxRecDepth 100000
set_option linter.unusedVariables false
theorem l_tell (s:By) (e:Int):SC Tryz.prog 28 [.s s,.i .i64 e] [] (.val (.agg [.s s,.i .i64 e])) []:=by
 refine SC.of_gwp noM mixed Tryz.func28 rfl (Nat.le_of_ble_eq_true rfl) (by first|exact Nat.le_refl _|simp) rfl ?_
 conv=>whnf
 refine⟨_,⟨rfl,Nat.zero_le _,rfl,Nat.le_of_ble_eq_true rfl⟩,?_⟩
 conv=>whnf
 exact owes_wk (g':=.agg [.s s,.i .i64 e]) (.refl _) (fun _=>rfl)
theorem eval_ok {I V:List Itm} {R W:List Val} {s:By} {b:Bool} (h:evalS I V R W s=(b,0)):∃t,readS s=.ok t/\evT I V R W t=(b,0):=by
 unfold evalS at h
 cases hx:readS s with
 |err e=>
  rw[hx] at h
  have:=readS_err hx
  have h0:e=0:=congrArg Prod.snd h
  omega
 |ok t=>rw[hx] at h;exact⟨t,rfl,h⟩
end Go.Proofs.YtlhabmglchgdnaaGreatDoor
namespace Go.Proofs.YtlhabmglchgdnaaGreatDoor
open Go.RowKit
set_option maxRecDepth 100000
set_option linter.unusedVariables false
theorem tsts_mp (f:Term->Term):∀t:Tree,tsts (t.mp f)=(tsts t).map fun p=>(f p.1,f p.2)
 |.pair _ l r=>by simp only[Tree.mp,tsts,List.map_append,tsts_mp f l,tsts_mp f r]
 |.no t=>tsts_mp f t
 |.test _ _ _=>rfl
 |.truth _=>rfl
theorem truth_mp (τ:Term->Val) (f:Term->Term):∀t:Tree,truthV τ (t.mp f)=truthV (fun x=>τ (f x)) t
 |.pair _ l r=>by simp only[Tree.mp,truthV,truth_mp τ f l,truth_mp τ f r]
 |.no t=>by simp only[Tree.mp,truthV,truth_mp τ f t]
 |.test _ _ _=>rfl
 |.truth _=>rfl
theorem truth_congr {τ σ:Term->Val}:∀{t:Tree},(∀x∈leaves t,τ x=σ x)->truthV τ t=truthV σ t
 |.pair _ l r,h=>by
  have h1:=truth_congr (t:=l) (fun x hx=>h x (List.mem_append.2 (.inl hx)))
  have h2:=truth_congr (t:=r) (fun x hx=>h x (List.mem_append.2 (.inr hx)))
  simp only[truthV,h1,h2]
 |.no t,h=>by
  have h1:=truth_congr (t:=t) h
  simp only[truthV,h1]
 |.test op a b,h=>by
  simp only[truthV]
  rw[h a (by simp[leaves]),h b (by simp[leaves])]
 |.truth _,_=>rfl
theorem evT_moved {I V I' V':List Itm} {R W R' W':List Val} {F:Term->Term} {T T':Tree} {b:Bool} (hT:tsts T'=(tsts T).map fun p=>(F p.1,F p.2)) (hτ:∀τ,truthV τ T'=truthV (fun x=>τ (F x)) T)
  (h:evT I V R W T=(b,0)) (h1:(knownB I'&&knownB V'&&fits2 I' R')=true) (h3:W'.length=V'.length) (h4:kinds2 V' W'=true)
  (hk:∀x∈leaves T,kindR I V x≠0->kindR I' V' (F x)=kindR I V x/\valT I' V' R' W' (F x)=valT I V R W x):evT I' V' R' W' T'=(b,0):=by
 obtain⟨k1,k2,k3,k4,k5⟩:=evT_ok h
 obtain⟨c1,c2⟩:=check_zero.1 k2
 have c1':∀x∈leaves T,kindR I V x≠0:=fun x hx e=>by
  have:(leaves T).any (fun x=>kindR I V x==0)=true:=List.any_eq_true.2 ⟨x,hx,by rw[e];rfl⟩
  rw[this] at c1;cases c1
 have hm:∀p∈tsts T,p.1∈leaves T/\p.2∈leaves T:=fun p hp=>by
  rw[leaves_tsts]
  exact⟨List.mem_flatMap.2 ⟨p,hp,by simp⟩,List.mem_flatMap.2 ⟨p,hp,by simp⟩⟩
 have d2:checkS I' V' T'=0:=by
  rw[check_zero]
  refine⟨?_,?_⟩
  ·rw[Bool.eq_false_iff]
   intro ha
   obtain⟨y,hy,h0⟩:=List.any_eq_true.1 ha
   rw[leaves_tsts,hT] at hy
   obtain⟨q,hq,hy⟩:=List.mem_flatMap.1 hy
   obtain⟨p,hp,rfl⟩:=List.mem_map.1 hq
   have h0':=eq_of_beq h0
   obtain⟨m1,m2⟩:=hm p hp
   simp only[List.mem_cons,List.not_mem_nil,or_false] at hy
   rcases hy with rfl|rfl
   ·rw[(hk _ m1 (c1' _ m1)).1] at h0';exact c1' _ m1 h0'
   ·rw[(hk _ m2 (c1' _ m2)).1] at h0';exact c1' _ m2 h0'
  ·rw[Bool.eq_false_iff]
   intro ha
   obtain⟨q,hq,h0⟩:=List.any_eq_true.1 ha
   rw[hT] at hq
   obtain⟨p,hp,rfl⟩:=List.mem_map.1 hq
   obtain⟨m1,m2⟩:=hm p hp
   simp only at h0
   rw[(hk _ m1 (c1' _ m1)).1,(hk _ m2 (c1' _ m2)).1] at h0
   have:(tsts T).any (fun p=>kindR I V p.1 !=kindR I V p.2)=true:=List.any_eq_true.2 ⟨p,hp,h0⟩
   rw[this] at c2;cases c2
 rw[evT_mk h1 d2 h3 h4,hτ,k5]
 congr 1
 exact truth_congr (fun x hx=>(hk x hx (c1' x hx)).2)
end Go.Proofs.YtlhabmglchgdnaaGreatDoor
namespace Go.Proofs.YtlhabmglchgdnaaGreatDoor
open Go.RowKit
set_option maxRecDepth 100000
set_option linter.unusedVariables false
theorem mp_join (f:Term->Term) (a:Bool) (acc:Option Tree) (t:Tree):(joinA a acc t).mp f=joinA a (acc.map (Tree.mp f)) (t.mp f):=by cases acc<;>rfl
theorem mp_flatA (f:Term->Term):∀(t:Tree) (a:Bool) (acc:Option Tree),(flatA a acc t).mp f=flatA a (acc.map (Tree.mp f)) (t.mp f)
 |.pair b l r,a,acc=>by
  show _=flatA a (acc.map (Tree.mp f)) (.pair b (l.mp f) (r.mp f))
  unfold flatA
  split
  ·rw[mp_flatA f r,Option.map_some,mp_flatA f l]
  ·rw[mp_join,mp_flatA f r,Option.map_some,mp_flatA f l];rfl
 |.no t,a,acc=>by
  show _=flatA a (acc.map (Tree.mp f)) (.no (t.mp f))
  unfold flatA
  rw[mp_join]
  show joinA a _ (.no ((flatA true none t).mp f))=_
  rw[mp_flatA f t];rfl
 |.test op l r,a,acc=>by
  show _=flatA a (acc.map (Tree.mp f)) (.test op (f l) (f r))
  unfold flatA;rw[mp_join];rfl
 |.truth b,a,acc=>by
  show _=flatA a (acc.map (Tree.mp f)) (.truth b)
  unfold flatA;rw[mp_join];rfl
theorem mp_flat (f:Term->Term) (t:Tree):t.flat.mp f=(t.mp f).flat:=mp_flatA f t true none
theorem res_mp (f:Term->Term) (t:Tree):resS (t.flat.mp f)=resS (t.mp f):=by
 rw[mp_flat]
 unfold resS
 rw[flat_flat]
end Go.Proofs.YtlhabmglchgdnaaGreatDoor
namespace Go.Proofs.YtlhabmglchgdnaaGreatDoor
open Go.RowKit
set_option maxRecDepth 100000
set_option linter.unusedVariables false
end Go.Proofs.YtlhabmglchgdnaaGreatDoor
namespace Go.Proofs.YtlhabmglchgdnaaGreatDoor
open Go.RowKit
set_option maxRecDepth 100000
set_option linter.unusedVariables false
end Go.Proofs.YtlhabmglchgdnaaGreatDoor
namespace Go.Proofs.YtlhabmglchgdnaaGreatDoor
open Go.RowKit
set_option maxRecDepth 100000
set_option linter.unusedVariables false
theorem c_EvalU (I V:List Itm) (R W:List Val) (hI:I.length<most) (hV:V.length<most) (hR:R.length<most) (hW:W.length<most) (s:By):
  SC Tryz.prog 23 [.s s,.sl .none (itms I),.sl .none (vlsG R),.sl .none (itms V),.sl .none (vlsG W)] [] (.val (.tup [.b (evalS I V R W s).1,.i .i64 (evalS I V R W s).2])) []:=by
 by_cases hl:1000<s.length
 ·have hr:=c_readU s
  have hcl:=readG_cl s
  unfold readG at hr hcl
  have e1:readS s=.err 3:=by unfold readS;rw[if_pos hl]
  unfold evalS
  rw[e1] at hr hcl⊢
  replace hr:SC Tryz.prog 46 [.s s] [] (.val (.tup [.o .nilIface,.i .i64 3])) []:=hr
  refine SC.of_gwp noM mixed Tryz.func23 rfl (Nat.le_of_ble_eq_true rfl) (by first|exact Nat.le_refl _|simp) rfl ?_
  conv=>whnf
  refine callP hr (Wks.refl _) rfl (fun _=>rfl) hcl ?_
  conv=>whnf
  refine⟨_,⟨rfl,Nat.zero_le _,rfl,Nat.le_of_ble_eq_true rfl⟩,?_⟩
  conv=>whnf
  exact owes_wk (.refl _) (fun _=>rfl)
 ·exact c_Eval I V R W hI hV hR hW s (by unfold most;omega)
end Go.Proofs.YtlhabmglchgdnaaGreatDoor
namespace Go.Proofs
open Go.Shelf
def Tryz.growS_ren:Go.Shelf.Ren:=⟨fun|4=>112|n=>n,fun|22=>27|25=>9|3=>3|4=>4|9=>9|20=>20|0=>0|n=>n,fun|n=>n⟩
theorem Tryz.growS:Go.Proofs.Lays8.n4 Tryz.prog Tryz.growS_ren:={
 mixed:=by kernel_rfl
 f4:=⟨Tryz.f112.name,by decide,Tryz.func112.trans (congrArg some (by kernel_rfl))⟩
 t0:=Tryz.underlying0
 a0:=Tryz.isAgg0
 z0:=Tryz.sizeOf0
 v0:=Tryz.zeroValue0
 t3:=Tryz.underlying3
 a3:=Tryz.isAgg3
 z3:=Tryz.sizeOf3
 v3:=Tryz.zeroValue3
 t4:=Tryz.underlying4
 a4:=Tryz.isAgg4
 z4:=Tryz.sizeOf4
 v4:=Tryz.zeroValue4
 t9:=Tryz.underlying9
 a9:=Tryz.isAgg9
 z9:=Tryz.sizeOf9
 v9:=Tryz.zeroValue9
 t20:=Tryz.underlying20
 a20:=Tryz.isAgg20
 z20:=Tryz.sizeOf20
 v20:=Tryz.zeroValue20
 t22:=Tryz.underlying27
 a22:=Tryz.isAgg27
 z22:=Tryz.sizeOf27
 v22:=Tryz.zeroValue27}
end Go.Proofs
namespace Go.Proofs.YtlhabmglchgdnaaGreatDoor
open Go.RowKit Go.Sort
set_option maxRecDepth 100000
set_option linter.unusedVariables false
theorem growS_args {C:Cx} {n:Nat} {vs:Array Value} (hv:VRs C [.sl .full [],.i .i64 (n:Nat)] vs.toList):vs= #[.slice none 0 0,.int .i64 (n:Nat)]:=by
 obtain⟨v,vs',e,hv1,hv2⟩:=hv.cons_inv
 obtain⟨v2,vs'',rfl,hv3,hv4⟩:=hv2.cons_inv
 have:vs''=[]:=List.eq_nil_of_length_eq_zero (by simpa using hv4.1)
 subst this
 obtain rfl:vs= #[v,v2]:=by rw[<-Array.toArray_toList (xs:=vs),e]
 cases hv3
 cases hv1 with
 |sl esz b off us hn hc ha hw hx hvv ht=>
 obtain⟨hc0,ha0⟩:=ht
 obtain rfl:=ha0 rfl
 simp at hn hc0
 subst hn;subst hc0
 rfl
theorem c_GrowS0:SC Tryz.prog 112 [.sl .full [],.i .i64 (0:Nat)] [] (.val (.sl .full [])) []:=by
 refine⟨by simp,fun C w vs hr hv=>?_,by simp⟩
 have hvs:=growS_args hv
 obtain⟨v,vs',e,hv1,hv2⟩:=hv.cons_inv
 subst hvs
 cases e
 have key:=Any8.slices_Grow_room Tryz.growS none 0 0 0 w (Nat.le_refl _) (by decide) (by decide) (by decide)
 refine Calls.mono key ?_
 rintro e w' ⟨rfl,rfl⟩
 exact⟨C,.refl C,hr,_,rfl,hv1⟩
theorem c_GrowS (n:Nat) (h1:1<=n) (h2:n<=1000000):SC Tryz.prog 112 [.sl .full [],.i .i64 (n:Nat)] [] (.val (.sl (.own 0) [])) [.own 0 1 9]:=by
 refine⟨by simp,fun C w vs hr hv=>?_,by simp⟩
 have hvs:=growS_args hv
 subst hvs
 obtain⟨i0,hi0⟩:∃i0,Tryz.prog.info? (Tryz.growS_ren.t 25)=some i0:=Option.isSome_iff_exists.1 (by kernel_rfl)
 have hz:(Tryz.prog.info? (Tryz.growS_ren.t 25)).bind (·.zero)=some (.string ⟨#[]⟩):=by kernel_rfl
 have hsz:(Tryz.prog.info? (Tryz.growS_ren.t 25)).map (·.size)=some 1:=by kernel_rfl
 have hby:(Tryz.prog.info? (Tryz.growS_ren.t 25)).map (·.bytes)=some 16:=by kernel_rfl
 rw[hi0] at hz hsz hby
 replace hz:i0.zero=some (.string ⟨#[]⟩):=hz
 replace hsz:i0.size=1:=by simpa using hsz
 replace hby:i0.bytes=16:=by simpa using hby
 have key:=Any8.slices_Grow_grow Tryz.growS i0 (.string ⟨#[]⟩) hi0 hz (by omega) none 0 0 n [] w (Nat.le_refl _) (by omega) (by rw[hby];omega) (by omega) (by simp) (fun _=>rfl) (fun a h=>by cases h)
 refine Calls.mono key ?_
 rintro e w' ⟨rfl,rfl⟩
 have hge:=grownCap_ge w (0+n) 0 (Tryz.growS_ren.t 25)
 have hty:Tryz.growS_ren.t 25=9:=by kernel_rfl
 rw[hty] at hge⊢
 generalize grownCap w (0+n) 0 9=cap at*
 generalize harr:(([]:List Value).toArray++Builtin.zeroCells (Value.cells (.string ⟨#[]⟩)) (0+n - 0)++Builtin.zeroCells (Value.cells (.string ⟨#[]⟩)) (cap - (0+n)))=arr
 have hsize:arr.size=cap:=by
  rw[<-harr]
  have z:∀k,(Builtin.zeroCells (Value.cells (.string ⟨#[]⟩)) k).size=k:=fun k=>by
   have:(Value.cells (.string ⟨#[]⟩)).size=1:=rfl
   simp[Builtin.zeroCells,this]
  simp only[Array.size_append,z]
  simp;omega
 obtain⟨D,hl,hown,_,hrel⟩:=hr.drew.newRow 0 1 9 (hr.drew.newAt _) arr (by omega) (by omega)
 refine⟨D,hl,hrel,_,rfl,.sl 1 w.heap.size 0 (fun _=>undef) rfl (Nat.zero_le _) (.inr rfl) (fun x hx=>by cases hx) (fun i x j g h=>by simp at h) (fun i x j g h=>by simp at h) ⟨_,hown,Nat.le_refl _,fun _=>rfl,fun _=>.inr ⟨_,_,rfl,rfl,?_⟩⟩⟩
 show cap*1<=arr.size
 omega
end Go.Proofs.YtlhabmglchgdnaaGreatDoor
