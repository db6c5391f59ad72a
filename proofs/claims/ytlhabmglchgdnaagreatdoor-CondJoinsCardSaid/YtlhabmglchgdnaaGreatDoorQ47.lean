/-
  CondJoins: And, Or and Not of every two texts are those of the reference, and are true of a row as they say; part 47 of 48. Conditions: none beyond the given statement.
-/
import Derived.Test.YtlhabmglchgdnaaGreatDoorQ46
set_option linter.all false
namespace Go.Proofs.YtlhabmglchgdnaaGreatDoor
open Go.RowKit
set_option maxRecDepth 100000
set_option linter.unusedVariables false
def itemsB (l:List Itm):Bool:=(l.take 20).all (fun i=>decide (i.name.length<=100))&&decide (l.length<=20)
theorem l_Items (l:List Itm):SC Tryz.prog 19 [.sl .none (itms l)] [] (.val (.b (itemsB l))) []:=by
 have hlen:=itms_len l
 unfold itemsB
 refine SC.of_gwp noM mixed Tryz.func19 rfl (Nat.le_of_ble_eq_true rfl) (by first|exact Nat.le_refl _|simp) rfl ?_
 conv=>whnf
 refine GLoop.intro (fun i:Nat=>i<=l.length/\i<=20/\∀z∈l.take i,z.name.length<=100) (fun i=>[(0,.sl .none (itms l)),(3,.i .i64 (i:Nat))]) (fun _=>⟨[],0,[]⟩) (fun i=>l.length - i) 0 ⟨Nat.zero_le _,Nat.zero_le _,(fun z h=>by simp at h)⟩ ⟨rfl,rfl,trivial⟩ rfl (fun i φ0 hi=>?_)
 obtain⟨hi,hi2,hok⟩:=hi
 have fin:(i=l.length∨i=20)->(l.take 20).all (fun i=>decide (i.name.length<=100))=true:=fun hh=>by
  rw[List.all_eq_true]
  intro x hx
  refine decide_eq_true (hok x ?_)
  rcases hh with rfl|rfl
  ·rw[List.take_length];exact List.mem_of_mem_take hx
  ·exact hx
 have hle:decide (((itms l).length:Int)<=20)=decide (l.length<=20):=by rw[hlen,decide_eq_decide];omega
 conv=>whnf
 refine GIf.mk (fun h=>?_) (fun h=>?_)<;>conv=>whnf
 rotate_left
 ·have hie:i=l.length:=by have:=of_decide_eq_false h;rw[hlen] at this;omega
  refine owes_b ?_
  rw[fin (.inl hie),Bool.true_and];exact hle
 have hlt:i<l.length:=by have:=of_decide_eq_true h;rw[hlen] at this;omega
 refine GIf.mk (fun h2=>?_) (fun h2=>?_)<;>conv=>whnf
 rotate_left
 ·have hie:i=20:=by have:=of_decide_eq_false h2;omega
  refine owes_b ?_
  rw[fin (.inr hie),Bool.true_and];exact hle
 have hlt2:i<20:=by have:=of_decide_eq_true h2;omega
 obtain⟨y,hy⟩:∃y,l[i]?=some y:=⟨l[i],List.getElem?_eq_getElem hlt⟩
 refine⟨Int.natCast_nonneg _,_,by rw[Int.toNat_natCast];exact itms_at hy,rfl,?_⟩
 conv=>whnf
 refine GIf.mk (fun h3=>?_) (fun h3=>?_)<;>conv=>whnf
 ·have h3':¬y.name.length<=100:=by have:=of_decide_eq_true h3;omega
  refine owes_b ?_
  have:(l.take 20).all (fun i=>decide (i.name.length<=100))=false:=List.all_eq_false.2 ⟨y,List.mem_of_getElem? (i:=i) (by rw[List.getElem?_take,if_pos hlt2];exact hy),by simpa using h3'⟩
  rw[this];rfl
 ·have h3':y.name.length<=100:=by have:=of_decide_eq_false h3;omega
  refine⟨l.length - (i+1),(by show _<l.length - i;omega),i+1,⟨hlt,hlt2,fun z hz=>?_⟩,rfl,⟨rfl,wrap_succ (by omega),trivial⟩,rfl⟩
  rw[List.take_add_one,hy] at hz
  rcases List.mem_append.1 hz with hz|hz
  ·exact hok z hz
  ·rw[List.mem_singleton.1 (show z∈[y] from hz)];exact h3'
def rowB (r:List Val):Bool:=decide (r.length<=20)&&r.all (fun v=>decide (v.s.length<=200))
def rowsG (L:List (List Val)):List GV:=L.map fun r=>.sl .none (vlsG r)
theorem rowsG_cl (L:List (List Val)):ClL (rowsG L):=ClL.mapOf (fun r=>Cl.sl (vlsG_cl r)) L
theorem rowsG_len (L:List (List Val)):(rowsG L).length=L.length:=by simp[rowsG]
theorem l_Rows (L:List (List Val)) (hL:L.length<=100):SC Tryz.prog 20 [.sl .none (rowsG L)] [] (.val (.b (L.all rowB))) []:=by
 have hlen:=rowsG_len L
 refine SC.of_gwp noM mixed Tryz.func20 rfl (Nat.le_of_ble_eq_true rfl) (by first|exact Nat.le_refl _|simp) rfl ?_
 conv=>whnf
 refine GLoop.intro (fun i:Nat=>i<=L.length/\∀z∈L.take i,rowB z=true) (fun i=>[(0,.sl .none (rowsG L)),(3,.i .i64 (i:Nat))]) (fun _=>⟨[],0,[]⟩) (fun i=>L.length - i) 0 ⟨Nat.zero_le _,(fun z h=>by simp at h)⟩ ⟨rfl,rfl,trivial⟩ rfl (fun i φ0 hi=>?_)
 obtain⟨hi,hok⟩:=hi
 conv=>whnf
 refine GIf.mk (fun h=>?_) (fun h=>?_)<;>conv=>whnf
 rotate_left
 ·have hie:i=L.length:=by have:=of_decide_eq_false h;rw[hlen] at this;omega
  refine owes_b ?_
  rw[hie,List.take_length] at hok
  exact(List.all_eq_true.2 hok).symm
 have hlt:i<L.length:=by have:=of_decide_eq_true h;rw[hlen] at this;omega
 obtain⟨r,hy⟩:∃y,L[i]?=some y:=⟨L[i],List.getElem?_eq_getElem hlt⟩
 have hgy:(rowsG L)[i]?=some (.sl .none (vlsG r)):=by unfold rowsG;rw[List.getElem?_map,hy];rfl
 have hl2:=vlsG_len r
 have bad:rowB r=false->L.all rowB=false:=fun h=>List.all_eq_false.2 ⟨r,List.mem_of_getElem? hy,by rw[h];simp⟩
 refine⟨Int.natCast_nonneg _,.sl .none (vlsG r),by rw[Int.toNat_natCast];exact hgy,rfl,?_⟩
 conv=>whnf
 refine GIf.mk (fun h2=>?_) (fun h2=>?_)<;>conv=>whnf
 ·have h2':¬r.length<=20:=by have:=of_decide_eq_true h2;rw[hl2] at this;omega
  refine owes_b ?_
  rw[bad (by unfold rowB;rw[decide_eq_false h2'];rfl)]
 have h2':r.length<=20:=by have:=of_decide_eq_false h2;rw[hl2] at this;omega
 refine GLoop.intro (fun k:Nat=>k<=r.length/\∀v∈r.take k,v.s.length<=200) (fun k=>[(0,.sl .none (rowsG L)),(3,.i .i64 (i:Nat)),(4,.i .i64 (k:Nat))]) (fun _=>⟨[],0,[]⟩) (fun k=>r.length - k) 0 ⟨Nat.zero_le _,(fun z h=>by simp at h)⟩ ⟨rfl,rfl,rfl,trivial⟩ rfl (fun k φ0 hk=>?_)
 obtain⟨hk,hok2⟩:=hk
 conv=>whnf
 refine⟨Int.natCast_nonneg _,.sl .none (vlsG r),by rw[Int.toNat_natCast];exact hgy,rfl,?_⟩
 conv=>whnf
 refine GIf.mk (fun h3=>?_) (fun h3=>?_)<;>conv=>whnf
 rotate_left
 ·have hke:k=r.length:=by have:=of_decide_eq_false h3;rw[hl2] at this;omega
  rw[hke,List.take_length] at hok2
  refine⟨L.length - (i+1),(by show _<L.length - i;omega),i+1,⟨hlt,fun z hz=>?_⟩,rfl,⟨rfl,wrap_succ (by omega),trivial⟩,rfl⟩
  rw[List.take_add_one,hy] at hz
  rcases List.mem_append.1 hz with hz|hz
  ·exact hok z hz
  ·rw[List.mem_singleton.1 (show z∈[r] from hz)]
   unfold rowB
   rw[decide_eq_true h2',Bool.true_and,List.all_eq_true]
   exact fun v hv=>decide_eq_true (hok2 v hv)
 have hklt:k<r.length:=by have:=of_decide_eq_true h3;rw[hl2] at this;omega
 have hkv:∃y,r[k]?=some y:=⟨_,List.getElem?_eq_getElem hklt⟩
 refine hkv.elim (fun v hv=>?_)
 refine⟨Int.natCast_nonneg _,.sl .none (vlsG r),by rw[Int.toNat_natCast];exact hgy,rfl,?_⟩
 conv=>whnf
 refine⟨Int.natCast_nonneg _,_,by rw[Int.toNat_natCast];exact vlsG_at hv,rfl,?_⟩
 conv=>whnf
 refine GIf.mk (fun h4=>?_) (fun h4=>?_)<;>conv=>whnf
 ·have h4':¬v.s.length<=200:=by have:=of_decide_eq_true h4;omega
  refine owes_b ?_
  have:r.all (fun v=>decide (v.s.length<=200))=false:=List.all_eq_false.2 ⟨v,List.mem_of_getElem? hv,by simpa using h4'⟩
  rw[bad (by unfold rowB;rw[this,Bool.and_false])]
 ·have h4':v.s.length<=200:=by have:=of_decide_eq_false h4;omega
  refine⟨r.length - (k+1),(by show _<r.length - k;omega),k+1,⟨hklt,fun z hz=>?_⟩,rfl,⟨rfl,rfl,wrap_succ (by omega),trivial⟩,rfl⟩
  rw[List.take_add_one,hv] at hz
  rcases List.mem_append.1 hz with hz|hz
  ·exact hok2 z hz
  ·rw[List.mem_singleton.1 (show z∈[v] from hz)];exact h4'
theorem items_le {l:List Itm} (h:itemsB l=true):l.length<most:=by
 unfold itemsB at h
 simp only[Bool.and_eq_true,decide_eq_true_eq] at h
 unfold most;omega
theorem row_le {r:List Val} (h:rowB r=true):r.length<most:=by
 unfold rowB at h
 simp only[Bool.and_eq_true,decide_eq_true_eq] at h
 unfold most;omega
end Go.Proofs.YtlhabmglchgdnaaGreatDoor
namespace Go.Proofs.YtlhabmglchgdnaaGreatDoor
open Go.RowKit
set_option maxRecDepth 100000
set_option linter.unusedVariables false
def isP (a:Bool):Tree->Bool
 |.pair b _ _=>a==b
 |_=>false
theorem side_one {a:Bool} {t:Tree} (h:isP a t=false):t.sides a=[t]:=by
 cases t with
 |pair b l r=>
  have:¬a=b:=by simpa[isP] using h
  unfold Tree.sides
  rw[if_neg this]
 |no t=>rfl
 |test _ _ _=>rfl
 |truth _=>rfl
theorem side_not (a:Bool):∀t:Tree,∀x∈t.sides a,isP a x=false
 |.pair b l r,x,hx=>by
  unfold Tree.sides at hx
  split at hx
  ·rcases List.mem_append.1 hx with hx|hx
   ·exact side_not a l x hx
   ·exact side_not a r x hx
  ·rename_i h
   rw[List.mem_singleton.1 hx]
   simpa[isP] using h
 |.no t,x,hx=>by rw[List.mem_singleton.1 (show x∈[Tree.no t] from hx)];rfl
 |.test op l r,x,hx=>by rw[List.mem_singleton.1 (show x∈[Tree.test op l r] from hx)];rfl
 |.truth b,x,hx=>by rw[List.mem_singleton.1 (show x∈[Tree.truth b] from hx)];rfl
theorem isP_flat (a:Bool) (t:Tree):isP a t.flat=isP a t:=by
 cases t with
 |pair b l r=>
  have e:(Tree.pair b l r).flat=flatA b (some (flatA b none l)) r:=by
   rw[flat_eq b]
   conv=>lhs;unfold flatA
   rw[if_pos rfl]
  obtain⟨l',r',h⟩:=flatA_some b r (flatA b none l)
  rw[e,h];rfl
 |no t=>rfl
 |test _ _ _=>rfl
 |truth _=>rfl
theorem fold_sides (a:Bool):∀(xs:List Tree) (q:Tree),(xs.foldl (fun q y=>Tree.pair a q y.flat) q).sides a=q.sides a++xs.flatMap (fun y=>y.flat.sides a)
 |[],q=>by simp
 |y::xs,q=>by
  rw[List.foldl_cons,fold_sides a xs,List.flatMap_cons,<-List.append_assoc]
  congr 1
  show(Tree.pair a q y.flat).sides a=_
  conv=>lhs;unfold Tree.sides
  rw[if_pos rfl]
theorem flatMap_one {α:Type} {f g:α->List α} {h:α->α}:∀{xs:List α},(∀y∈xs,f y=[h y])->xs.flatMap f=xs.map h
 |[],_=>rfl
 |y::xs,hh=>by
  rw[List.flatMap_cons,hh y (by simp),flatMap_one (g:=g) (fun z hz=>hh z (by simp[hz]))];rfl
theorem sides_flat (a:Bool) (t:Tree):t.flat.sides a=(t.sides a).map Tree.flat:=by
 by_cases hp:isP a t=true
 ·cases t with
  |pair b l r=>
   have:a=b:=by simpa[isP] using hp
   subst this
   obtain⟨x,xs,h1,h2⟩:=flat_pair a l r
   have hn:=side_not a (Tree.pair a l r)
   rw[h1] at hn⊢
   have one:∀y∈x::xs,y.flat.sides a=[y.flat]:=fun y hy=>side_one (by rw[isP_flat];exact hn y hy)
   rw[h2,fold_sides,one x (by simp),flatMap_one (g:=fun y=>[y]) (fun y hy=>one y (by simp[hy]))]
   rfl
  |no t=>cases hp
  |test _ _ _=>cases hp
  |truth _=>cases hp
 ·have hp':isP a t=false:=by simpa using hp
  rw[side_one hp',side_one (by rw[isP_flat];exact hp')];rfl
theorem fold_map {α β:Type} {f:α->β->α} {h:β->β} (hf:∀q x,f q (h x)=f q x):∀(xs:List β) (q:α),(xs.map h).foldl f q=xs.foldl f q
 |[],q=>rfl
 |x::xs,q=>by rw[List.map_cons,List.foldl_cons,List.foldl_cons,hf,fold_map hf xs]
theorem flatA_flat (a:Bool) (t:Tree) (acc:Option Tree):flatA a acc t.flat=flatA a acc t:=by
 have h1:=flatA_sides a t.flat acc
 have h2:=flatA_sides a t acc
 rw[sides_flat,fold_map (fun q x=>by rw[flat_flat])] at h1
 exact Option.some.inj (h1.trans h2.symm)
theorem pair_flat (a:Bool) (x y:Tree):(Tree.pair a x.flat y.flat).flat=(Tree.pair a x y).flat:=by
 rw[flat_eq a (Tree.pair a x.flat y.flat),flat_eq a (Tree.pair a x y)]
 conv=>lhs;unfold flatA
 conv=>rhs;unfold flatA
 rw[if_pos rfl,if_pos rfl,flatA_flat,flatA_flat]
theorem res_pair (a:Bool) (x y:Tree):resS (.pair a x.flat y.flat)=resS (.pair a x y):=by
 unfold resS
 rw[pair_flat]
theorem res_no (x:Tree):resS (.no x.flat)=resS (.no x):=by
 unfold resS
 rw[flat_no,flat_no,flat_flat]
theorem res_read {t:Tree} (hg:t.good) (h:(resS t).2=0):readS (resS t).1=.ok t.flat:=by
 unfold resS at h⊢
 by_cases hc:1000<t.flat.plain.length∨20<t.flat.deep 0
 ·rw[if_pos hc] at h;exact absurd h (by decide)
 ·rw[if_neg hc]
  have h1:¬1000<t.flat.plain.length:=fun h=>hc (.inl h)
  have h2:¬20<t.flat.deep 0:=fun h=>hc (.inr h)
  show readS t.flat.plain=.ok t.flat
  rw[read_plain (flat_good hg) (flat_ok t) (by omega),if_neg h2]
theorem res_len (t:Tree):(resS t).1.length<=1000:=by
 unfold resS
 split
 ·exact Nat.zero_le _
 ·rename_i h
  show t.flat.plain.length<=1000
  rcases Nat.lt_or_ge 1000 t.flat.plain.length with h1|h1
  ·exact absurd (.inl h1) h
  ·exact h1
theorem evT_ok {I V:List Itm} {R W:List Val} {t:Tree} {b:Bool} (h:evT I V R W t=(b,0)):(knownB I&&knownB V&&fits2 I R)=true/\checkS I V t=0/\W.length=V.length/\kinds2 V W=true/\b=truthV (valT I V R W) t:=by
 unfold evT at h
 split at h
 ·rename_i h1
  split at h
  ·rename_i h2
   split at h
   ·rename_i h3
    split at h
    ·rename_i h4
     exact⟨h1,h2,h3,h4,(congrArg Prod.fst h).symm⟩
    ·(have h9:=congrArg Prod.snd h;simp at h9)
   ·(have h9:=congrArg Prod.snd h;simp at h9)
  ·rename_i h2
   exact absurd (congrArg Prod.snd h) h2
 ·(have h9:=congrArg Prod.snd h;simp at h9)
theorem evT_mk {I V:List Itm} {R W:List Val} {t:Tree} (h1:(knownB I&&knownB V&&fits2 I R)=true) (h2:checkS I V t=0) (h3:W.length=V.length) (h4:kinds2 V W=true):evT I V R W t=(truthV (valT I V R W) t,0):=by
 unfold evT
 rw[if_pos h1,if_pos h2,if_pos h3,if_pos h4]
theorem check_zero {I V:List Itm} {t:Tree}:checkS I V t=0↔(leaves t).any (fun x=>kindR I V x==0)=false/\(tsts t).any (fun p=>kindR I V p.1 !=kindR I V p.2)=false:=by
 unfold checkS
 cases(leaves t).any (fun x=>kindR I V x==0)<;>cases(tsts t).any (fun p=>kindR I V p.1 !=kindR I V p.2)<;>simp
theorem check_pair {I V:List Itm} {a:Bool} {x y:Tree} (hx:checkS I V x=0) (hy:checkS I V y=0):checkS I V (.pair a x y)=0:=by
 rw[check_zero] at*
 show(leaves x++leaves y).any _=false/\(tsts x++tsts y).any _=false
 rw[List.any_append,List.any_append,hx.1,hx.2,hy.1,hy.2]
 exact⟨rfl,rfl⟩
theorem check_no {I V:List Itm} {x:Tree} (hx:checkS I V x=0):checkS I V (.no x)=0:=hx
end Go.Proofs.YtlhabmglchgdnaaGreatDoor
namespace Go.Proofs.YtlhabmglchgdnaaGreatDoor
open Go.RowKit
set_option maxRecDepth 100000
set_option linter.unusedVariables false
theorem r_ReadU (s:By):SC Tryz.prog 48 [.s s] [] (.val (readRG s)) []:=by
 by_cases hl:1000<s.length
 ·have e:readRG s=.tup [nodeN,.i .i64 3]:=by unfold readRG readR;rw[if_pos hl]
  rw[e]
  refine SC.of_gwp noM mixed Tryz.func48 rfl (Nat.le_of_ble_eq_true rfl) (by first|exact Nat.le_refl _|simp) rfl ?_
  conv=>whnf
  refine GIf.mk (fun h=>?_) (fun h=>?_)<;>conv=>whnf
  ·skip
   refine⟨_,⟨rfl,Nat.zero_le _,rfl,Nat.le_of_ble_eq_true rfl⟩,?_⟩
   conv=>whnf
   exact owes_wk (wk_t2 wk_node (.refl _)) (Cl.tup (.cons nodeN_cl (.cons (.i _ _) .nil)))
  ·exfalso;have:=of_decide_eq_false h;omega
 ·exact r_Read s (by omega)
def twoR (a:Bool) (s u:By):By×Int:=match readR s with
 |.err e=>([],e)
 |.ok x=>match readR u with
  |.err e=>([],e)
  |.ok y=>toldR (.pair a x y)
def notR (s:By):By×Int:=match readR s with
 |.err e=>([],e)
 |.ok x=>toldR (.no x)
theorem twoR_eq (a:Bool) (s u:By):twoR a s u=joinS a s u:=by
 unfold twoR joinS
 have hr:=readR_eq s
 have hr2:=readR_eq u
 cases hx:readR s with
 |err e=>rw[hx] at hr;rw[hr]
 |ok x=>
  rw[hx] at hr;rw[hr]
  cases hy:readR u with
  |err e=>rw[hy] at hr2;rw[hr2]
  |ok y=>
   rw[hy] at hr2;rw[hr2]
   simp only
   rw[res_pair,toldR_eq (show(Tree.pair a x y).good from⟨readR_good hx,readR_good hy⟩)]
theorem notR_eq (s:By):notR s=notS s:=by
 unfold notR notS
 have hr:=readR_eq s
 cases hx:readR s with
 |err e=>rw[hx] at hr;rw[hr]
 |ok x=>
  rw[hx] at hr;rw[hr]
  simp only
  rw[res_no,toldR_eq (show(Tree.no x).good from(show x.good from readR_good hx))]
theorem sides_le (a:Bool):∀t:Tree,(t.sides a).length<=t.size
 |.pair b l r=>by
  have h1:=sides_le a l
  have h2:=sides_le a r
  unfold Tree.sides
  split
  ·rw[List.length_append];simp only[Tree.size];omega
  ·simp only[Tree.size,List.length_singleton];omega
 |.no t=>by show 1<=Tree.size _;simp only[Tree.size];omega
 |.test _ _ _=>by show 1<=Tree.size _;simp[Tree.size]
 |.truth _=>by show 1<=Tree.size _;simp[Tree.size]
theorem r_two (a:Bool) (s u:By):SC Tryz.prog 63 [.i .i64 (opn a:Nat),.s s,.s u] [] (.val (.tup [.s (twoR a s u).1,.i .i64 (twoR a s u).2])) []:=by
 have hr:=r_ReadU s
 have hrc:=readRG_cl s
 have hr2:=r_ReadU u
 have hrc2:=readRG_cl u
 unfold readRG at hr hrc hr2 hrc2
 unfold twoR
 cases hx:readR s with
 |err e=>
  rw[hx] at hr hrc
  replace hr:SC Tryz.prog 48 [.s s] [] (.val (.tup [nodeN,.i .i64 e])) []:=hr
  replace hrc:Cl (.tup [nodeN,.i .i64 e]):=hrc
  have he:=readR_err hx
  simp only
  rcases he with rfl|rfl|rfl
  all_goals
   refine SC.of_gwp noM mixed Tryz.func63 rfl (Nat.le_of_ble_eq_true rfl) (by first|exact Nat.le_refl _|simp) rfl ?_
   conv=>whnf
   refine callP hr (Wks.refl _) rfl (fun _=>rfl) hrc ?_
   conv=>whnf
   refine⟨_,⟨rfl,Nat.zero_le _,rfl,Nat.le_of_ble_eq_true rfl⟩,?_⟩
   conv=>whnf
   exact owes_wk (.refl _) (fun _=>rfl)
 |ok x=>
  rw[hx] at hr hrc
  replace hr:SC Tryz.prog 48 [.s s] [] (.val (.tup [x.ng,.i .i64 0])) []:=hr
  replace hrc:Cl (.tup [x.ng,.i .i64 0]):=hrc
  have hz:=readR_size hx
  have hxc:=x.ng_cl
  obtain⟨k,kids,A,B,op,yes,hng⟩:=ng_form x
  simp only
  cases hy:readR u with
  |err e=>
   rw[hy] at hr2 hrc2
   replace hr2:SC Tryz.prog 48 [.s u] [] (.val (.tup [nodeN,.i .i64 e])) []:=hr2
   replace hrc2:Cl (.tup [nodeN,.i .i64 e]):=hrc2
   have he:=readR_err hy
   simp only
   rw[hng] at hr hrc
   rcases he with rfl|rfl|rfl
   all_goals
    refine SC.of_gwp noM mixed Tryz.func63 rfl (Nat.le_of_ble_eq_true rfl) (by first|exact Nat.le_refl _|simp) rfl ?_
    conv=>whnf
    refine callP hr (Wks.refl _) rfl (fun _=>rfl) hrc ?_
    conv=>whnf
    refine⟨_,⟨rfl,Nat.zero_le _,rfl,Nat.le_of_ble_eq_true rfl⟩,?_⟩
    conv=>whnf
    refine callP hr2 (Wks.refl _) rfl (fun _=>rfl) hrc2 ?_
    conv=>whnf
    refine⟨_,⟨rfl,Nat.zero_le _,rfl,Nat.le_of_ble_eq_true rfl⟩,?_⟩
    conv=>whnf
    exact owes_wk (.refl _) (fun _=>rfl)
  |ok y=>
   rw[hy] at hr2 hrc2
   replace hr2:SC Tryz.prog 48 [.s u] [] (.val (.tup [y.ng,.i .i64 0])) []:=hr2
   replace hrc2:Cl (.tup [y.ng,.i .i64 0]):=hrc2
   have hz2:=readR_size hy
   have hyc:=y.ng_cl
   obtain⟨k2,kids2,A2,B2,op2,yes2,hng2⟩:=ng_form y
   simp only
   have hj:=r_Joined a x [y] (by simp) (by
    have h1:=sides_le a x
    have h2:=sides_le a y
    simp only[List.flatMap_cons,List.flatMap_nil,List.append_nil,List.length_append];omega)
   replace hj:SC Tryz.prog 111 [.i .i64 (opn a:Nat),.sl .none [x.ng,y.ng]] [] (.val (Tree.pair a x y).ng) []:=hj
   have ht:=r_told (.pair a x y) ⟨readR_good hx,readR_good hy⟩ (by simp only[Tree.size];omega)
   have hpc:=(Tree.pair a x y).ng_cl
   generalize toldR (.pair a x y)=q at*
   obtain⟨w,e⟩:=q
   obtain⟨k3,kids3,A3,B3,op3,yes3,hng3⟩:=ng_form (.pair a x y)
   rw[hng3] at hj ht hpc
   rw[hng,hng2] at hj
   rw[hng] at hr hrc hxc
   rw[hng2] at hr2 hrc2 hyc
   refine SC.of_gwp noM mixed Tryz.func63 rfl (Nat.le_of_ble_eq_true rfl) (by first|exact Nat.le_refl _|simp) rfl ?_
   conv=>whnf
   refine callP hr (Wks.refl _) rfl (fun _=>rfl) hrc ?_
   conv=>whnf
   refine⟨_,⟨rfl,Nat.zero_le _,rfl,Nat.le_of_ble_eq_true rfl⟩,?_⟩
   conv=>whnf
   refine callP hr2 (Wks.refl _) rfl (fun _=>rfl) hrc2 ?_
   conv=>whnf
   refine⟨_,⟨rfl,Nat.zero_le _,rfl,Nat.le_of_ble_eq_true rfl⟩,?_⟩
   conv=>whnf
   refine callP hj (Wks.cons (Wk.refl _) (Wks.cons (Wk.sl _ _) (Wks.refl _))) rfl (ClL.cons (.i _ _) (ClL.cons (Cl.sl (ClL.cons hxc (ClL.cons hyc .nil))) .nil)) hpc ?_
   conv=>whnf
   refine callP ht (Wks.refl _) rfl (ClL.cons hpc .nil) (fun _=>rfl) ?_
   conv=>whnf
   exact owes_wk (.refl _) (fun _=>rfl)
theorem r_And (s u:By):SC Tryz.prog 29 [.s s,.s u] [] (.val (.tup [.s (twoR true s u).1,.i .i64 (twoR true s u).2])) []:=by
 have h:=r_two true s u
 refine SC.of_gwp noM mixed Tryz.func29 rfl (Nat.le_of_ble_eq_true rfl) (by first|exact Nat.le_refl _|simp) rfl ?_
 conv=>whnf
 refine callP h (Wks.refl _) rfl (fun _=>rfl) (fun _=>rfl) ?_
 conv=>whnf
 exact owes_wk (.refl _) (fun _=>rfl)
theorem r_Or (s u:By):SC Tryz.prog 30 [.s s,.s u] [] (.val (.tup [.s (twoR false s u).1,.i .i64 (twoR false s u).2])) []:=by
 have h:=r_two false s u
 refine SC.of_gwp noM mixed Tryz.func30 rfl (Nat.le_of_ble_eq_true rfl) (by first|exact Nat.le_refl _|simp) rfl ?_
 conv=>whnf
 refine callP h (Wks.refl _) rfl (fun _=>rfl) (fun _=>rfl) ?_
 conv=>whnf
 exact owes_wk (.refl _) (fun _=>rfl)
theorem r_Not (s:By):SC Tryz.prog 31 [.s s] [] (.val (.tup [.s (notR s).1,.i .i64 (notR s).2])) []:=by
 have hr:=r_ReadU s
 have hrc:=readRG_cl s
 unfold readRG at hr hrc
 unfold notR
 cases hx:readR s with
 |err e=>
  rw[hx] at hr hrc
  replace hr:SC Tryz.prog 48 [.s s] [] (.val (.tup [nodeN,.i .i64 e])) []:=hr
  replace hrc:Cl (.tup [nodeN,.i .i64 e]):=hrc
  have he:=readR_err hx
  simp only
  rcases he with rfl|rfl|rfl
  all_goals
   refine SC.of_gwp noM mixed Tryz.func31 rfl (Nat.le_of_ble_eq_true rfl) (by first|exact Nat.le_refl _|simp) rfl ?_
   conv=>whnf
   refine callP hr (Wks.refl _) rfl (fun _=>rfl) hrc ?_
   conv=>whnf
   refine⟨_,⟨rfl,Nat.zero_le _,rfl,Nat.le_of_ble_eq_true rfl⟩,?_⟩
   conv=>whnf
   exact owes_wk (.refl _) (fun _=>rfl)
 |ok x=>
  rw[hx] at hr hrc
  replace hr:SC Tryz.prog 48 [.s s] [] (.val (.tup [x.ng,.i .i64 0])) []:=hr
  replace hrc:Cl (.tup [x.ng,.i .i64 0]):=hrc
  have hz:=readR_size hx
  have hxc:=x.ng_cl
  have ht:=r_told (.no x) (show x.good from readR_good hx) (by simp only[Tree.size];omega)
  simp only
  generalize toldR (.no x)=q at*
  obtain⟨w,e⟩:=q
  obtain⟨k,kids,A,B,op,yes,hng⟩:=ng_form x
  replace ht:SC Tryz.prog 49 [.agg (ndc 3 [x.ng] t0 t0 [] false)] [] (.val (.tup [.s w,.i .i64 e])) []:=ht
  rw[hng] at hr hrc hxc ht
  refine SC.of_gwp noM mixed Tryz.func31 rfl (Nat.le_of_ble_eq_true rfl) (by first|exact Nat.le_refl _|simp) rfl ?_
  conv=>whnf
  refine callP hr (Wks.refl _) rfl (fun _=>rfl) hrc ?_
  conv=>whnf
  refine⟨_,⟨rfl,Nat.zero_le _,rfl,Nat.le_of_ble_eq_true rfl⟩,?_⟩
  conv=>whnf
  refine callP ht (Wks.cons wk_node (Wks.refl _)) rfl (ClL.cons (Cl.agg (ndc_cl (ClL.cons hxc .nil) t0 t0 [] false)) .nil) (fun _=>rfl) ?_
  conv=>whnf
  exact owes_wk (.refl _) (fun _=>rfl)
theorem r_EvalU (I:List Itm) (R:List Val) (hI:I.length<most) (hR:R.length<most) (hRs:∀v∈R,v.s.length<most) (s:By):
  SC Tryz.prog 24 [.s s,.sl .none (itms I),.sl .none (vlsG R),.sl .none [],.sl .none []] [] (.val (.tup [.b (evalR I [] R [] s).1,.i .i64 (evalR I [] R [] s).2])) []:=by
 by_cases hl:1000<s.length
 ·have hr:=r_ReadU s
  have e1:readR s=.err 3:=by unfold readR;rw[if_pos hl]
  have hrc:=readRG_cl s
  unfold readRG at hr hrc
  unfold evalR
  rw[e1] at hr hrc⊢
  replace hr:SC Tryz.prog 48 [.s s] [] (.val (.tup [nodeN,.i .i64 3])) []:=hr
  replace hrc:Cl (.tup [nodeN,.i .i64 3]):=hrc
  simp only
  refine SC.of_gwp noM mixed Tryz.func24 rfl (Nat.le_of_ble_eq_true rfl) (by first|exact Nat.le_refl _|simp) rfl ?_
  conv=>whnf
  refine callP hr (Wks.refl _) rfl (fun _=>rfl) hrc ?_
  conv=>whnf
  refine⟨_,⟨rfl,Nat.zero_le _,rfl,Nat.le_of_ble_eq_true rfl⟩,?_⟩
  conv=>whnf
  exact owes_wk (.refl _) (fun _=>rfl)
 ·exact r_Eval I [] R [] hI (by unfold most;simp) hR (by unfold most;simp) hRs (by simp) s (by omega)
end Go.Proofs.YtlhabmglchgdnaaGreatDoor
