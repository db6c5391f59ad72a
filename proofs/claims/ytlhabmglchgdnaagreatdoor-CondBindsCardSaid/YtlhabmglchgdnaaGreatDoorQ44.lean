/-
  CondBinds: Bound and Term of every texts, items, row, variables and values are those of the reference, and a condition whose variables are bound is as true as with their values; part 44 of 46. Conditions: none beyond the given statement.
-/
import Derived.Test.YtlhabmglchgdnaaGreatDoorQ43
set_option linter.all false
namespace Go.Proofs.YtlhabmglchgdnaaGreatDoor
open Go.RowKit
set_option maxRecDepth 100000
set_option linter.unusedVariables false
def itemsB (l:List Itm):Bool:=(l.take 20).all (fun i=>decide (i.name.length<=100))&&decide (l.length<=20)
theorem l_Items (l:List Itm):SC Tryz.prog 19 [.sl .none (itms l)] [] (.val (.b (itemsB l))) []:=by
 have hlen:=itms_len l
 unfold itemsB
 refine SC.of_gwp noM mixed Tryz.func19 rfl (Nat.le_of_ble_eq_true rfl) (by first|exact Nat.le_refl _|simp) rfl ?_
 conv=>whnf
 refine GLoop.intro (fun i:Nat=>i<=l.length/\i<=20/\∀z∈l.take i,z.name.length<=100) (fun i=>[(0,.sl .none (itms l)),(3,.i .i64 (i:Nat))]) (fun _=>⟨[],0,[]⟩) (fun i=>l.length - i) 0 ⟨Nat.zero_le _,Nat.zero_le _,(fun z h=>by simp at h)⟩ ⟨rfl,rfl,trivial⟩ rfl (fun i φ0 hi=>?_)
 obtain⟨hi,hi2,hok⟩:=hi
 have fin:(i=l.length∨i=20)->(l.take 20).all (fun i=>decide (i.name.length<=100))=true:=fun hh=>by
  rw[List.all_eq_true]
  intro x hx
  refine decide_eq_true (hok x ?_)
  rcases hh with rfl|rfl
  ·rw[List.take_length];exact List.mem_of_mem_take hx
  ·exact hx
 have hle:decide (((itms l).length:Int)<=20)=decide (l.length<=20):=by rw[hlen,decide_eq_decide];omega
 conv=>whnf
 refine GIf.mk (fun h=>?_) (fun h=>?_)<;>conv=>whnf
 rotate_left
 ·have hie:i=l.length:=by have:=of_decide_eq_false h;rw[hlen] at this;omega
  refine owes_b ?_
  rw[fin (.inl hie),Bool.true_and];exact hle
 have hlt:i<l.length:=by have:=of_decide_eq_true h;rw[hlen] at this;omega
 refine GIf.mk (fun h2=>?_) (fun h2=>?_)<;>conv=>whnf
 rotate_left
 ·have hie:i=20:=by have:=of_decide_eq_false h2;omega
  refine owes_b ?_
  rw[fin (.inr hie),Bool.true_and];exact hle
 have hlt2:i<20:=by have:=of_decide_eq_true h2;omega
 obtain⟨y,hy⟩:∃y,l[i]?=some y:=⟨l[i],List.getElem?_eq_getElem hlt⟩
 refine⟨Int.natCast_nonneg _,_,by rw[Int.toNat_natCast];exact itms_at hy,rfl,?_⟩
 conv=>whnf
 refine GIf.mk (fun h3=>?_) (fun h3=>?_)<;>conv=>whnf
 ·have h3':¬y.name.length<=100:=by have:=of_decide_eq_true h3;omega
  refine owes_b ?_
  have:(l.take 20).all (fun i=>decide (i.name.length<=100))=false:=List.all_eq_false.2 ⟨y,List.mem_of_getElem? (i:=i) (by rw[List.getElem?_take,if_pos hlt2];exact hy),by simpa using h3'⟩
  rw[this];rfl
 ·have h3':y.name.length<=100:=by have:=of_decide_eq_false h3;omega
  refine⟨l.length - (i+1),(by show _<l.length - i;omega),i+1,⟨hlt,hlt2,fun z hz=>?_⟩,rfl,⟨rfl,wrap_succ (by omega),trivial⟩,rfl⟩
  rw[List.take_add_one,hy] at hz
  rcases List.mem_append.1 hz with hz|hz
  ·exact hok z hz
  ·rw[List.mem_singleton.1 (show z∈[y] from hz)];exact h3'
def rowB (r:List Val):Bool:=decide (r.length<=20)&&r.all (fun v=>decide (v.s.length<=200))
def rowsG (L:List (List Val)):List GV:=L.map fun r=>.sl .none (vlsG r)
theorem rowsG_cl (L:List (List Val)):ClL (rowsG L):=ClL.mapOf (fun r=>Cl.sl (vlsG_cl r)) L
theorem rowsG_len (L:List (List Val)):(rowsG L).length=L.length:=by simp[rowsG]
theorem l_Rows (L:List (List Val)) (hL:L.length<=100):SC Tryz.prog 20 [.sl .none (rowsG L)] [] (.val (.b (L.all rowB))) []:=by
 have hlen:=rowsG_len L
 refine SC.of_gwp noM mixed Tryz.func20 rfl (Nat.le_of_ble_eq_true rfl) (by first|exact Nat.le_refl _|simp) rfl ?_
 conv=>whnf
 refine GLoop.intro (fun i:Nat=>i<=L.length/\∀z∈L.take i,rowB z=true) (fun i=>[(0,.sl .none (rowsG L)),(3,.i .i64 (i:Nat))]) (fun _=>⟨[],0,[]⟩) (fun i=>L.length - i) 0 ⟨Nat.zero_le _,(fun z h=>by simp at h)⟩ ⟨rfl,rfl,trivial⟩ rfl (fun i φ0 hi=>?_)
 obtain⟨hi,hok⟩:=hi
 conv=>whnf
 refine GIf.mk (fun h=>?_) (fun h=>?_)<;>conv=>whnf
 rotate_left
 ·have hie:i=L.length:=by have:=of_decide_eq_false h;rw[hlen] at this;omega
  refine owes_b ?_
  rw[hie,List.take_length] at hok
  exact(List.all_eq_true.2 hok).symm
 have hlt:i<L.length:=by have:=of_decide_eq_true h;rw[hlen] at this;omega
 obtain⟨r,hy⟩:∃y,L[i]?=some y:=⟨L[i],List.getElem?_eq_getElem hlt⟩
 have hgy:(rowsG L)[i]?=some (.sl .none (vlsG r)):=by unfold rowsG;rw[List.getElem?_map,hy];rfl
 have hl2:=vlsG_len r
 have bad:rowB r=false->L.all rowB=false:=fun h=>List.all_eq_false.2 ⟨r,List.mem_of_getElem? hy,by rw[h];simp⟩
 refine⟨Int.natCast_nonneg _,.sl .none (vlsG r),by rw[Int.toNat_natCast];exact hgy,rfl,?_⟩
 conv=>whnf
 refine GIf.mk (fun h2=>?_) (fun h2=>?_)<;>conv=>whnf
 ·have h2':¬r.length<=20:=by have:=of_decide_eq_true h2;rw[hl2] at this;omega
  refine owes_b ?_
  rw[bad (by unfold rowB;rw[decide_eq_false h2'];rfl)]
 have h2':r.length<=20:=by have:=of_decide_eq_false h2;rw[hl2] at this;omega
 refine GLoop.intro (fun k:Nat=>k<=r.length/\∀v∈r.take k,v.s.length<=200) (fun k=>[(0,.sl .none (rowsG L)),(3,.i .i64 (i:Nat)),(4,.i .i64 (k:Nat))]) (fun _=>⟨[],0,[]⟩) (fun k=>r.length - k) 0 ⟨Nat.zero_le _,(fun z h=>by simp at h)⟩ ⟨rfl,rfl,rfl,trivial⟩ rfl (fun k φ0 hk=>?_)
 obtain⟨hk,hok2⟩:=hk
 conv=>whnf
 refine⟨Int.natCast_nonneg _,.sl .none (vlsG r),by rw[Int.toNat_natCast];exact hgy,rfl,?_⟩
 conv=>whnf
 refine GIf.mk (fun h3=>?_) (fun h3=>?_)<;>conv=>whnf
 rotate_left
 ·have hke:k=r.length:=by have:=of_decide_eq_false h3;rw[hl2] at this;omega
  rw[hke,List.take_length] at hok2
  refine⟨L.length - (i+1),(by show _<L.length - i;omega),i+1,⟨hlt,fun z hz=>?_⟩,rfl,⟨rfl,wrap_succ (by omega),trivial⟩,rfl⟩
  rw[List.take_add_one,hy] at hz
  rcases List.mem_append.1 hz with hz|hz
  ·exact hok z hz
  ·rw[List.mem_singleton.1 (show z∈[r] from hz)]
   unfold rowB
   rw[decide_eq_true h2',Bool.true_and,List.all_eq_true]
   exact fun v hv=>decide_eq_true (hok2 v hv)
 have hklt:k<r.length:=by have:=of_decide_eq_true h3;rw[hl2] at this;omega
 have hkv:∃y,r[k]?=some y:=⟨_,List.getElem?_eq_getElem hklt⟩
 refine hkv.elim (fun v hv=>?_)
 refine⟨Int.natCast_nonneg _,.sl .none (vlsG r),by rw[Int.toNat_natCast];exact hgy,rfl,?_⟩
 conv=>whnf
 refine⟨Int.natCast_nonneg _,_,by rw[Int.toNat_natCast];exact vlsG_at hv,rfl,?_⟩
 conv=>whnf
 refine GIf.mk (fun h4=>?_) (fun h4=>?_)<;>conv=>whnf
 ·have h4':¬v.s.length<=200:=by have:=of_decide_eq_true h4;omega
  refine owes_b ?_
  have:r.all (fun v=>decide (v.s.length<=200))=false:=List.all_eq_false.2 ⟨v,List.mem_of_getElem? hv,by simpa using h4'⟩
  rw[bad (by unfold rowB;rw[this,Bool.and_false])]
 ·have h4':v.s.length<=200:=by have:=of_decide_eq_false h4;omega
  refine⟨r.length - (k+1),(by show _<r.length - k;omega),k+1,⟨hklt,fun z hz=>?_⟩,rfl,⟨rfl,rfl,wrap_succ (by omega),trivial⟩,rfl⟩
  rw[List.take_add_one,hv] at hz
  rcases List.mem_append.1 hz with hz|hz
  ·exact hok2 z hz
  ·rw[List.mem_singleton.1 (show z∈[v] from hz)];exact h4'
theorem items_le {l:List Itm} (h:itemsB l=true):l.length<most:=by
 unfold itemsB at h
 simp only[Bool.and_eq_true,decide_eq_true_eq] at h
 unfold most;omega
theorem row_le {r:List Val} (h:rowB r=true):r.length<most:=by
 unfold rowB at h
 simp only[Bool.and_eq_true,decide_eq_true_eq] at h
 unfold most;omega
end Go.Proofs.YtlhabmglchgdnaaGreatDoor
namespace Go.Proofs.YtlhabmglchgdnaaGreatDoor
open Go.RowKit
set_option maxRecDepth 100000
set_option linter.unusedVariables false
theorem res_read {t:Tree} (hg:t.good) (h:(resS t).2=0):readS (resS t).1=.ok t.flat:=by
 unfold resS at h⊢
 by_cases hc:1000<t.flat.plain.length∨20<t.flat.deep 0
 ·rw[if_pos hc] at h;exact absurd h (by decide)
 ·rw[if_neg hc]
  have h1:¬1000<t.flat.plain.length:=fun h=>hc (.inl h)
  have h2:¬20<t.flat.deep 0:=fun h=>hc (.inr h)
  show readS t.flat.plain=.ok t.flat
  rw[read_plain (flat_good hg) (flat_ok t) (by omega),if_neg h2]
theorem evT_ok {I V:List Itm} {R W:List Val} {t:Tree} {b:Bool} (h:evT I V R W t=(b,0)):(knownB I&&knownB V&&fits2 I R)=true/\checkS I V t=0/\W.length=V.length/\kinds2 V W=true/\b=truthV (valT I V R W) t:=by
 unfold evT at h
 split at h
 ·rename_i h1
  split at h
  ·rename_i h2
   split at h
   ·rename_i h3
    split at h
    ·rename_i h4
     exact⟨h1,h2,h3,h4,(congrArg Prod.fst h).symm⟩
    ·(have h9:=congrArg Prod.snd h;simp at h9)
   ·(have h9:=congrArg Prod.snd h;simp at h9)
  ·rename_i h2
   exact absurd (congrArg Prod.snd h) h2
 ·(have h9:=congrArg Prod.snd h;simp at h9)
theorem evT_mk {I V:List Itm} {R W:List Val} {t:Tree} (h1:(knownB I&&knownB V&&fits2 I R)=true) (h2:checkS I V t=0) (h3:W.length=V.length) (h4:kinds2 V W=true):evT I V R W t=(truthV (valT I V R W) t,0):=by
 unfold evT
 rw[if_pos h1,if_pos h2,if_pos h3,if_pos h4]
theorem check_zero {I V:List Itm} {t:Tree}:checkS I V t=0↔(leaves t).any (fun x=>kindR I V x==0)=false/\(tsts t).any (fun p=>kindR I V p.1 !=kindR I V p.2)=false:=by
 unfold checkS
 cases(leaves t).any (fun x=>kindR I V x==0)<;>cases(tsts t).any (fun p=>kindR I V p.1 !=kindR I V p.2)<;>simp
end Go.Proofs.YtlhabmglchgdnaaGreatDoor
namespace Go.Proofs.YtlhabmglchgdnaaGreatDoor
open Go.RowKit
set_option maxRecDepth 100000
set_option linter.unusedVariables false
theorem r_ReadU (s:By):SC Tryz.prog 48 [.s s] [] (.val (readRG s)) []:=by
 by_cases hl:1000<s.length
 ·have e:readRG s=.tup [nodeN,.i .i64 3]:=by unfold readRG readR;rw[if_pos hl]
  rw[e]
  refine SC.of_gwp noM mixed Tryz.func48 rfl (Nat.le_of_ble_eq_true rfl) (by first|exact Nat.le_refl _|simp) rfl ?_
  conv=>whnf
  refine GIf.mk (fun h=>?_) (fun h=>?_)<;>conv=>whnf
  ·skip
   refine⟨_,⟨rfl,Nat.zero_le _,rfl,Nat.le_of_ble_eq_true rfl⟩,?_⟩
   conv=>whnf
   exact owes_wk (wk_t2 wk_node (.refl _)) (Cl.tup (.cons nodeN_cl (.cons (.i _ _) .nil)))
  ·exfalso;have:=of_decide_eq_false h;omega
 ·exact r_Read s (by omega)
end Go.Proofs.YtlhabmglchgdnaaGreatDoor
namespace Go.Proofs.YtlhabmglchgdnaaGreatDoor
open Go.RowKit
set_option maxRecDepth 100000
set_option linter.unusedVariables false
def Tree.mp (f:Term->Term):Tree->Tree
 |.pair a l r=>.pair a (l.mp f) (r.mp f)
 |.no t=>.no (t.mp f)
 |.test op l r=>.test op (f l) (f r)
 |.truth b=>.truth b
theorem mp_size (f:Term->Term):∀t:Tree,(t.mp f).size=t.size
 |.pair a l r=>by simp only[Tree.mp,Tree.size,mp_size f l,mp_size f r]
 |.no t=>by simp only[Tree.mp,Tree.size,mp_size f t]
 |.test _ _ _=>rfl
 |.truth _=>rfl
theorem mp_good {f:Term->Term} (hf:∀x,x.good->(f x).good):∀{t:Tree},t.good->(t.mp f).good
 |.pair a l r,h=>⟨mp_good hf h.1,mp_good hf h.2⟩
 |.no t,h=>mp_good (t:=t) hf h
 |.test op l r,h=>⟨h.1,hf _ h.2.1,hf _ h.2.2⟩
 |.truth b,h=>trivial
def chF (k:FuncId):GV:=.fn (.func k) [] [.ptr 0 0,.ptr 1 0]
theorem chArgs {k:FuncId} {T0 T1:TypeId} {c0 c1:List GV} {t:Tree} (e:Nat->Nat) (he:∀i,i<[GObj.box T0 c0,GObj.box T1 c1].length->e i=i):[t.gv,chF k].map (GV.ren e)=[t.gv,chF k]:=by
 show[t.gv.ren e,GV.fn _ [] [.ptr (e 0) 0,.ptr (e 1) 0]]=_
 rw[t.cl e,he 0 (by simp),he 1 (by simp)];rfl
theorem chArg1 {T0 T1:TypeId} {c0 c1:List GV} {t:Term} (e:Nat->Nat) (he:∀i,i<[GObj.box T0 c0,GObj.box T1 c1].length->e i=i):[t.gv,.ptr 0 0,.ptr 1 0].map (GV.ren e)=[t.gv,.ptr 0 0,.ptr 1 0]:=by
 show[t.gv.ren e,GV.ptr (e 0) 0,.ptr (e 1) 0]=_
 rw[t.cl e,he 0 (by simp),he 1 (by simp)]
theorem two_own {T0 T1:TypeId} {c0 c1:List GV} (h0:ClL c0) (h1:ClL c1):Own0 [GObj.box T0 c0,GObj.box T1 c1]:=fun e he=>by
 show[GObj.box T0 (c0.map (GV.ren e)),GObj.box T1 (c1.map (GV.ren e))]=_
 rw[h0 e,h1 e]
theorem callPreP {P:Program} {M:FuncId->Bool} {k:FuncId} {args args':List GV} {s rest:List GObj} {r:GV} {σ:GS} {K:GRes->GS->Prop} (h:SC P k args s (.val r) s) (ho:σ.objs=s++rest) (hlo:σ.lo=0)
  (hc:Own0 s) (hh:s.all GObj.notHeld=true) (ha:∀e:Nat->Nat,(∀i,i<s.length->e i=i)->args.map (GV.ren e)=args) (hr:Cl r) (hw:Wks args' args) (hk:K (.val r) σ):gcallK P M (.fn k) args' σ K:=by
 have hh':∀x∈s,x≠ .held:=fun x hx e=>by subst e;have:=List.all_eq_true.1 hh _ hx;cases this
 have he:∀i,i<s.length->emb (List.range s.length) σ.objs.length i=i:=fun i hi=>emb_pre hi
 have hf:=h.fact (σ:=σ) (args':=args') (List.range s.length) (by rw[ho];exact Lies.pre hc hh') hlo (by rw[ha _ he];exact hw)
 rw[show(GRes.val r).ren (emb (List.range s.length) σ.objs.length)=.val r by show GRes.val (r.ren _)=_;rw[hr],ho,putBack_pre rfl hc,<-ho] at hf
 exact⟨_,σ,hf,(fun _ _ _=>rfl),hk⟩
theorem ite_go {c:Prop} [Decidable c] {A B:Prop} (h:c) (ha:A):if c then A else B:=by rw[if_pos h];exact ha
theorem c_changed {k:FuncId} {T0 T1:TypeId} {c0 c1:List GV} {f:Term->Term} (h0:ClL c0) (h1:ClL c1)
  (hk:callable Tryz.prog k=true) (hf:∀t:Term,SC Tryz.prog k [t.gv,.ptr 0 0,.ptr 1 0] [.box T0 c0,.box T1 c1] (.val (f t).gv) [.box T0 c0,.box T1 c1]):
  ∀t:Tree,SC Tryz.prog 67 [t.gv,chF k] [.box T0 c0,.box T1 c1] (.val (t.mp f).gv) [.box T0 c0,.box T1 c1]
 |.pair a x y=>by
  have s1:=c_changed h0 h1 hk hf x
  have s2:=c_changed h0 h1 hk hf y
  have ho:=two_own (T0:=T0) (T1:=T1) h0 h1
  refine SC.of_gwp noM mixed Tryz.func67 rfl (Nat.le_of_ble_eq_true rfl) (Nat.le_of_ble_eq_true rfl) rfl ?_
  conv=>whnf
  refine⟨_,⟨rfl,Nat.zero_le _,rfl,Nat.le_of_ble_eq_true rfl⟩,?_⟩
  conv=>whnf
  refine GDraw.calm (by kernel_rfl) ?_
  conv=>whnf
  refine callPreP (rest:=[.box 134 (Tree.pair a x y).cs]) s1 rfl rfl ho rfl chArgs ((x.mp f).cl) (Wks.refl _) ?_
  conv=>whnf
  refine callPreP (rest:=[.box 134 (Tree.pair a x y).cs]) s2 rfl rfl ho rfl chArgs ((y.mp f).cl) (Wks.refl _) ?_
  conv=>whnf
  exact owesPre (rest:=[_]) rfl (Nat.le_refl _) ho rfl (fun e _=>congrArg GRes.val (Tree.cl (.pair a (x.mp f) (y.mp f)) e)) (Wk.refl _)
 |.no x=>by
  have s1:=c_changed h0 h1 hk hf x
  have ho:=two_own (T0:=T0) (T1:=T1) h0 h1
  refine SC.of_gwp noM mixed Tryz.func67 rfl (Nat.le_of_ble_eq_true rfl) (Nat.le_of_ble_eq_true rfl) rfl ?_
  conv=>whnf
  refine⟨_,⟨rfl,Nat.zero_le _,rfl,Nat.le_of_ble_eq_true rfl⟩,?_⟩
  conv=>whnf
  refine callPreP (rest:=[.box 88 (Tree.no x).cs]) s1 rfl rfl ho rfl chArgs ((x.mp f).cl) (Wks.refl _) ?_
  conv=>whnf
  exact owesPre (rest:=[_]) rfl (Nat.le_refl _) ho rfl (fun e _=>congrArg GRes.val (Tree.cl (.no (x.mp f)) e)) (Wk.refl _)
 |.test op a b=>by
  have s1:=hf a
  have s2:=hf b
  have ho:=two_own (T0:=T0) (T1:=T1) h0 h1
  refine SC.of_gwp noM mixed Tryz.func67 rfl (Nat.le_of_ble_eq_true rfl) (Nat.le_of_ble_eq_true rfl) rfl ?_
  conv=>whnf
  refine⟨_,⟨rfl,Nat.zero_le _,rfl,Nat.le_of_ble_eq_true rfl⟩,?_⟩
  conv=>whnf
  refine GDraw.wild _ _ _ rfl rfl rfl (by kernel_rfl) ?_
  conv=>whnf
  refine ite_go hk ?_
  refine callPreP (rest:=[.held]) s1 rfl rfl ho rfl chArg1 ((f a).cl) (Wks.refl _) ?_
  conv=>whnf
  refine ite_go hk ?_
  refine callPreP (rest:=[.held]) s2 rfl rfl ho rfl chArg1 ((f b).cl) (Wks.refl _) ?_
  conv=>whnf
  exact owesPre (rest:=[_]) rfl (Nat.le_refl _) ho rfl (fun e _=>congrArg GRes.val (Tree.cl (.test op (f a) (f b)) e)) (Wk.refl _)
 |.truth b=>by
  have ho:=two_own (T0:=T0) (T1:=T1) h0 h1
  refine SC.of_gwp noM mixed Tryz.func67 rfl (Nat.le_of_ble_eq_true rfl) (Nat.le_of_ble_eq_true rfl) rfl ?_
  conv=>whnf
  exact owesPre (rest:=[]) rfl (Nat.le_refl _) ho rfl (fun e _=>congrArg GRes.val (Tree.cl (.truth b) e)) (Wk.refl _)
def boundT (x:By) (v:Val) (t:Term):Term:=if t.var=true/\t.name=x then⟨[],false,v⟩ else t
theorem c_bound1 (x:By) (v:Val) (t:Term):SC Tryz.prog 84 [t.gv,.ptr 0 0,.ptr 1 0] [.box 9 [.s x],.box 53 v.cs] (.val (boundT x v t).gv) [.box 9 [.s x],.box 53 v.cs]:=by
 have ho:=two_own (T0:=9) (T1:=53) (c0:=[.s x]) (c1:=v.cs) (fun _=>rfl) (fun _=>rfl)
 obtain⟨nm,vr,w⟩:=t
 cases vr with
 |false=>
  refine SC.of_gwp noM mixed Tryz.func84 rfl (Nat.le_of_ble_eq_true rfl) (Nat.le_of_ble_eq_true rfl) rfl ?_
  conv=>whnf
  refine⟨_,⟨rfl,Nat.zero_le _,rfl,Nat.le_of_ble_eq_true rfl⟩,?_⟩
  conv=>whnf
  exact owesPre (rest:=_) rfl (Nat.le_refl _) ho rfl (fun e _=>congrArg GRes.val (Term.cl _ e)) (show WkRes (.val _) (.val _) from Wk.refl _)
 |true=>
  by_cases h:nm=x
  ·have e:boundT x v ⟨nm,true,w⟩=⟨[],false,v⟩:=if_pos ⟨rfl,h⟩
   rw[e]
   refine SC.of_gwp noM mixed Tryz.func84 rfl (Nat.le_of_ble_eq_true rfl) (Nat.le_of_ble_eq_true rfl) rfl ?_
   conv=>whnf
   refine GIf.mk (fun h2=>?_) (fun h2=>?_)<;>conv=>whnf
   ·skip
    refine⟨_,⟨rfl,Nat.zero_le _,rfl,Nat.le_of_ble_eq_true rfl⟩,?_⟩
    conv=>whnf
    exact owesPre (rest:=_) rfl (Nat.le_refl _) ho rfl (fun e _=>congrArg GRes.val (Term.cl _ e)) (show WkRes (.val _) (.val _) from Wk.refl _)
   ·exfalso;simp[h] at h2
  ·have e:boundT x v ⟨nm,true,w⟩=⟨nm,true,w⟩:=if_neg (fun q=>h q.2)
   rw[e]
   refine SC.of_gwp noM mixed Tryz.func84 rfl (Nat.le_of_ble_eq_true rfl) (Nat.le_of_ble_eq_true rfl) rfl ?_
   conv=>whnf
   refine GIf.mk (fun h2=>?_) (fun h2=>?_)<;>conv=>whnf
   ·exfalso;simp at h2;exact h h2
   ·skip
    refine⟨_,⟨rfl,Nat.zero_le _,rfl,Nat.le_of_ble_eq_true rfl⟩,?_⟩
    conv=>whnf
    exact owesPre (rest:=_) rfl (Nat.le_refl _) ho rfl (fun e _=>congrArg GRes.val (Term.cl _ e)) (show WkRes (.val _) (.val _) from Wk.refl _)
def boundS (s x:By) (v:Val):By×Int:=match readS s with
 |.err e=>([],e)
 |.ok t=>if v.ok then resS (t.mp (boundT x v)) else([],1)
theorem bound_good {x:By} {v:Val} (hv:v.ok=true) {t:Term} (h:t.good):(boundT x v t).good:=by
 unfold boundT
 split
 ·exact .inr ⟨rfl,rfl,hv⟩
 ·exact h
theorem c_Bound (s x:By) (v:Val):SC Tryz.prog 40 [.s s,.s x,v.gv] [] (.val (.tup [.s (boundS s x v).1,.i .i64 (boundS s x v).2])) []:=by
 have hr:=c_readU s
 have hcl:=readG_cl s
 have hv:=c_ValidValue v
 unfold readG at hr hcl
 unfold boundS
 cases h:readS s with
 |err e=>
  rw[h] at hr hcl
  replace hr:SC Tryz.prog 46 [.s s] [] (.val (.tup [.o .nilIface,.i .i64 e])) []:=hr
  have he:=readS_err h
  simp only
  rcases he with rfl|rfl|rfl
  all_goals
   refine SC.of_gwp noM mixed Tryz.func40 rfl (Nat.le_of_ble_eq_true rfl) (by first|exact Nat.le_refl _|simp) rfl ?_
   conv=>whnf
   refine callP hr (Wks.refl _) rfl (fun _=>rfl) hcl ?_
   conv=>whnf
   exact owes_wk (.refl _) (fun _=>rfl)
 |ok t=>
  rw[h] at hr hcl
  replace hr:SC Tryz.prog 46 [.s s] [] (.val (.tup [t.gv,.i .i64 0])) []:=hr
  obtain⟨hn,hz,_⟩:=readS_bound h
  have hg:=(readS_good h).1
  simp only
  cases hvo:v.ok with
  |false=>
   rw[hvo] at hv
   refine SC.of_gwp noM mixed Tryz.func40 rfl (Nat.le_of_ble_eq_true rfl) (by first|exact Nat.le_refl _|simp) rfl ?_
   conv=>whnf
   refine callP hr (Wks.refl _) rfl (fun _=>rfl) hcl ?_
   conv=>whnf
   refine callP hv (Wks.refl _) rfl (fun _=>rfl) (fun _=>rfl) ?_
   conv=>whnf
   exact owes_wk (.refl _) (fun _=>rfl)
  |true=>
   rw[hvo] at hv
   have hg2:=mp_good (f:=boundT x v) (fun _=>bound_good hvo) hg
   have hch:=c_changed (T0:=9) (T1:=53) (c0:=[.s x]) (c1:=v.cs) (fun _=>rfl) (fun _=>rfl) (by kernel_rfl) (c_bound1 x v) t
   have hres:=c_result (t.mp (boundT x v)) (nice_of hg2) (by rw[mp_size];omega)
   have htc:=(t.mp (boundT x v)).cl
   have ho:=two_own (T0:=9) (T1:=53) (c0:=[.s x]) (c1:=v.cs) (fun _=>rfl) (fun _=>rfl)
   generalize t.mp (boundT x v)=u at*
   rw[if_pos rfl]
   generalize resS u=q at*
   obtain⟨w,e⟩:=q
   refine SC.of_gwp noM mixed Tryz.func40 rfl (Nat.le_of_ble_eq_true rfl) (by first|exact Nat.le_refl _|simp) rfl ?_
   conv=>whnf
   refine callP hr (Wks.refl _) rfl (fun _=>rfl) hcl ?_
   conv=>whnf
   refine callP hv (Wks.refl _) rfl (fun _=>rfl) (fun _=>rfl) ?_
   conv=>whnf
   refine callPreP (rest:=[]) hch rfl rfl ho rfl chArgs htc (Wks.refl _) ?_
   conv=>whnf
   refine callP hres (Wks.refl _) rfl (ClL.cons htc .nil) (fun _=>rfl) ?_
   conv=>whnf
   exact owes_wk (.refl _) (fun _=>rfl)
end Go.Proofs.YtlhabmglchgdnaaGreatDoor
namespace Go.Proofs.YtlhabmglchgdnaaGreatDoor
open Go.RowKit
set_option maxRecDepth 100000
set_option linter.unusedVariables false
def renT (f g:List By) (t:Term):Term:=if t.var=false/\t.name≠[] then match f.findIdx? (· ==t.name) with
  |some i=>⟨g.getD i [],false,t.v⟩
  |none=>t
 else t
theorem r_bound (x:By) (v:Val) (t:Term) (h:t.var=true->t.name≠[]):SC Tryz.prog 115 [.agg (sdc t),.s x,v.gv] [] (.val (.agg (sdc (boundT x v t)))) []:=by
 obtain⟨nm,vr,w⟩:=t
 cases vr with
 |false=>
  refine SC.of_gwp noM mixed Tryz.func115 rfl (Nat.le_of_ble_eq_true rfl) (by first|exact Nat.le_refl _|simp) rfl ?_
  conv=>whnf
  repeat (refine⟨_,⟨rfl,Nat.zero_le _,rfl,Nat.le_of_ble_eq_true rfl⟩,?_⟩;conv=>whnf)
  exact owes_wk (.refl _) (fun _=>rfl)
 |true=>
  have h':nm≠[]:=h rfl
  by_cases hx:nm=x
  ·have e:boundT x v ⟨nm,true,w⟩=⟨[],false,v⟩:=if_pos ⟨rfl,hx⟩
   rw[e]
   refine SC.of_gwp noM mixed Tryz.func115 rfl (Nat.le_of_ble_eq_true rfl) (by first|exact Nat.le_refl _|simp) rfl ?_
   conv=>whnf
   refine GIf.mk (fun h1=>?_) (fun h1=>?_)<;>conv=>whnf
   ·skip
    refine GIf.mk (fun h2=>?_) (fun h2=>?_)<;>conv=>whnf
    ·skip
     repeat (refine⟨_,⟨rfl,Nat.zero_le _,rfl,Nat.le_of_ble_eq_true rfl⟩,?_⟩;conv=>whnf)
     exact owes_wk (.refl _) (fun _=>rfl)
    ·exfalso;simp[hx] at h2
   ·exfalso;simp at h1;exact h' h1
  ·have e:boundT x v ⟨nm,true,w⟩=⟨nm,true,w⟩:=if_neg (fun q=>hx q.2)
   rw[e]
   refine SC.of_gwp noM mixed Tryz.func115 rfl (Nat.le_of_ble_eq_true rfl) (by first|exact Nat.le_refl _|simp) rfl ?_
   conv=>whnf
   refine GIf.mk (fun h1=>?_) (fun h1=>?_)<;>conv=>whnf
   ·skip
    refine GIf.mk (fun h2=>?_) (fun h2=>?_)<;>conv=>whnf
    ·exfalso;simp at h2;exact hx h2
    ·skip
     repeat (refine⟨_,⟨rfl,Nat.zero_le _,rfl,Nat.le_of_ble_eq_true rfl⟩,?_⟩;conv=>whnf)
     exact owes_wk (.refl _) (fun _=>rfl)
   ·skip
    repeat (refine⟨_,⟨rfl,Nat.zero_le _,rfl,Nat.le_of_ble_eq_true rfl⟩,?_⟩;conv=>whnf)
    exact owes_wk (.refl _) (fun _=>rfl)
theorem find_ne {f:List By} {s:By} (h:∀z∈f,z≠s):f.findIdx? (· ==s)=none:=by
 rw[List.findIdx?_eq_none_iff]
 intro z hz
 simpa using h z hz
theorem find_at {f:List By} {s:By} {i:Nat} (h:f[i]?=some s) (hn:∀z∈f.take i,z≠s):f.findIdx? (· ==s)=some i:=by
 rw[List.findIdx?_eq_some_iff_getElem]
 obtain⟨hi,he⟩:=List.getElem?_eq_some_iff.1 h
 refine⟨hi,by simpa using he,fun j hj=>?_⟩
 have:=hn f[j] (List.mem_take_iff_getElem.2 ⟨j,by omega,rfl⟩)
 simpa using this
theorem take_ne1 {f:List By} {s y:By} {i:Nat} (hn:∀z∈f.take i,z≠s) (hy:f[i]?=some y) (h:y≠s):∀z∈f.take (i+1),z≠s:=fun z hz=>by
 rw[List.take_add_one,hy] at hz
 rcases List.mem_append.1 hz with q|q
 ·exact hn z q
 ·simp at q;rw[q];exact h
theorem r_renamed (f g:List By) (hf:f.length<1000000) (hg:f.length<=g.length) (t:Term):
  SC Tryz.prog 116 [.agg (sdc t),.sl .none (strG f),.sl .none (strG g)] [] (.val (.agg (sdc (renT f g t)))) []:=by
 have hlen:=strG_len f
 obtain⟨nm,vr,w⟩:=t
 cases vr with
 |true=>
  have e:renT f g ⟨nm,true,w⟩=⟨nm,true,w⟩:=if_neg (fun q=>by cases q.1)
  rw[e]
  refine SC.of_gwp noM mixed Tryz.func116 rfl (Nat.le_of_ble_eq_true rfl) (by first|exact Nat.le_refl _|simp) rfl ?_
  conv=>whnf
  repeat (refine⟨_,⟨rfl,Nat.zero_le _,rfl,Nat.le_of_ble_eq_true rfl⟩,?_⟩;conv=>whnf)
  exact owes_wk (.refl _) (fun _=>rfl)
 |false=>
  by_cases h0:nm=[]
  ·have e:renT f g ⟨nm,false,w⟩=⟨nm,false,w⟩:=if_neg (fun q=>q.2 h0)
   rw[e]
   subst h0
   refine SC.of_gwp noM mixed Tryz.func116 rfl (Nat.le_of_ble_eq_true rfl) (by first|exact Nat.le_refl _|simp) rfl ?_
   conv=>whnf
   repeat (refine⟨_,⟨rfl,Nat.zero_le _,rfl,Nat.le_of_ble_eq_true rfl⟩,?_⟩;conv=>whnf)
   exact owes_wk (.refl _) (fun _=>rfl)
  ·have e:renT f g ⟨nm,false,w⟩=match f.findIdx? (· ==nm) with
    |some i=>⟨g.getD i [],false,w⟩
    |none=>⟨nm,false,w⟩:=if_pos ⟨rfl,h0⟩
   generalize renT f g ⟨nm,false,w⟩=Q at*
   refine SC.of_gwp noM mixed Tryz.func116 rfl (Nat.le_of_ble_eq_true rfl) (by first|exact Nat.le_refl _|simp) rfl ?_
   conv=>whnf
   refine GIf.mk (fun h1=>?_) (fun h1=>?_)<;>conv=>whnf
   ·exfalso;simp at h1;exact h0 h1
   refine GLoop.introS (fun i:Nat=>i<=f.length/\∀z∈f.take i,z≠nm) (fun i=>[(1,.sl .none (strG f)),(2,.sl .none (strG g)),(3,.ptr 0 0),(6,.ptr 1 0),(7,.i .i64 (i:Nat))]) (fun _=>⟨[.box 67 (sdc ⟨nm,false,w⟩),.box 67 (sdc t0)],0,[]⟩) (fun i=>f.length - i) 0 ⟨Nat.zero_le _,fun z h=>by simp at h⟩ ⟨rfl,rfl,rfl,rfl,rfl,trivial⟩ rfl (fun _ _=>Nat.le_refl _) (fun _ _=>rfl) (fun i _ e he=>?_) (fun i φ0 hi=>?_)
   ·refine⟨rfl,rfl,?_⟩
    show[(GV.sl .none (strG f)).ren e,(GV.sl .none (strG g)).ren e,.ptr (e 0) 0,.ptr (e 1) 0,_]=_
    rw[Cl.sl (strG_cl f) e,Cl.sl (strG_cl g) e,he 0 (by simp),he 1 (by simp)];rfl
   obtain⟨hi,hne⟩:=hi
   conv=>whnf
   refine GIf.mk (fun h=>?_) (fun h=>?_)<;>conv=>whnf
   rotate_left
   ·have hie:i=f.length:=by have:=of_decide_eq_false h;rw[hlen] at this;omega
    rw[hie,List.take_length] at hne
    have eT:Q=⟨nm,false,w⟩:=by rw[e,find_ne hne]
    cases eT
    repeat (refine⟨_,⟨rfl,Nat.zero_le _,rfl,Nat.le_of_ble_eq_true rfl⟩,?_⟩;conv=>whnf)
    exact owes_wk (.refl _) (fun _=>rfl)
   have hlt:i<f.length:=by have:=of_decide_eq_true h;rw[hlen] at this;omega
   obtain⟨y,hy⟩:∃y,f[i]?=some y:=⟨f[i],List.getElem?_eq_getElem hlt⟩
   have hgy:(strG f)[i]?=some (.s y):=by unfold strG;rw[List.getElem?_map,hy];rfl
   obtain⟨x,hx⟩:∃x,g[i]?=some x:=⟨g[i]'(by omega),List.getElem?_eq_getElem _⟩
   have hgx:(strG g)[i]?=some (.s x):=by unfold strG;rw[List.getElem?_map,hx];rfl
   refine GDraw.calm (by kernel_rfl) ?_
   conv=>whnf
   refine⟨Int.natCast_nonneg _,.s y,by rw[Int.toNat_natCast];exact hgy,rfl,?_⟩
   conv=>whnf
   refine GIf.mk (fun heq=>?_) (fun heq=>?_)<;>conv=>whnf
   ·have e2:y=nm:=by simpa using heq
    have eT:Q=⟨x,false,w⟩:=by
     rw[e,find_at (by rw[hy,e2]) hne]
     show(⟨g.getD i [],false,w⟩:Term)=_
     rw[List.getD_eq_getElem?_getD,hx];rfl
    cases eT
    refine⟨Int.natCast_nonneg _,.s x,by rw[Int.toNat_natCast];exact hgx,rfl,?_⟩
    conv=>whnf
    refine⟨_,⟨rfl,Nat.zero_le _,rfl,Nat.le_of_ble_eq_true rfl⟩,?_⟩
    conv=>whnf
    repeat (refine⟨_,⟨rfl,Nat.zero_le _,rfl,Nat.le_of_ble_eq_true rfl⟩,?_⟩;conv=>whnf)
    exact owes_wk (.refl _) (fun _=>rfl)
   ·have e2:y≠nm:=by simpa using heq
    exact⟨f.length - (i+1),(by show _<f.length - i;omega),i+1,⟨hlt,take_ne1 hne hy e2⟩,rfl,⟨rfl,rfl,rfl,rfl,wrap_succ (by omega),trivial⟩,[],rfl,rfl⟩
end Go.Proofs.YtlhabmglchgdnaaGreatDoor
namespace Go.Proofs.YtlhabmglchgdnaaGreatDoor
open Go.RowKit
set_option maxRecDepth 100000
set_option linter.unusedVariables false
def chT (f g:List By) (x:By) (v:Val) (t:Term):Term:=boundT x v (renT f g t)
theorem ren_var (f g:List By) {t:Term} (h:t.var=true->t.name≠[]):(renT f g t).var=true->(renT f g t).name≠[]:=by
 unfold renT
 split
 ·split
  ·intro q;cases q
  ·exact h
 ·exact h
def wsC (f g:List By) (x:By) (v:Val):List GV:=[.sl .none (strG f),.sl .none (strG g),.s x,v.gv]
theorem wsC_cl (f g:List By) (x:By) (v:Val):ClL (wsC f g x v):=ClL.cons (Cl.sl (strG_cl f)) (ClL.cons (Cl.sl (strG_cl g)) (fun _=>rfl))
def mps (F:Term->Term) (L:List Tree) (i:Nat):List Tree:=(L.take i).map (Tree.mp F)
theorem mps_succ {F:Term->Term} {L:List Tree} {i:Nat} {y:Tree} (h:L[i]?=some y):mps F L (i+1)=mps F L i++[y.mp F]:=by
 unfold mps
 rw[List.take_add_one,h,List.map_append];rfl
theorem mps_len (F:Term->Term) (L:List Tree) (i:Nat):(mps F L i).length<=L.length:=by
 unfold mps
 rw[List.length_map,List.length_take];omega
theorem r_ch_node (f g:List By) (hf:f.length<1000000) (hg:f.length<=g.length) (x:By) (v:Val) (k:Nat) (L:List Tree) (A B:Term) (op:By) (yes:Bool) (hL:L.length<=100000) (hA:A.var=true->A.name≠[]) (hB:B.var=true->B.name≠[])
  (hc:∀y∈L,SC Tryz.prog 72 (y.ng::wsC f g x v) [] (.val (y.mp (chT f g x v)).ng) []):
  SC Tryz.prog 72 (.agg (ndc k (ngs L) A B op yes)::wsC f g x v) [] (.val (.agg (ndc k (ngs (L.map (Tree.mp (chT f g x v)))) (chT f g x v A) (chT f g x v B) op yes))) []:=by
 have hnl:(ngs L).length=L.length:=ngs_len L
 have a1:=r_renamed f g hf hg A
 have a2:=r_bound x v (renT f g A) (ren_var f g hA)
 have b1:=r_renamed f g hf hg B
 have b2:=r_bound x v (renT f g B) (ren_var f g hB)
 have hw:=wsC_cl f g x v
 unfold wsC at hc hw⊢
 change SC _ _ _ [] (.val (.agg (ndc k (ngs (L.map (Tree.mp (chT f g x v)))) (boundT x v (renT f g A)) (boundT x v (renT f g B)) op yes))) []
 generalize boundT x v (renT f g A)=A2 at*
 generalize renT f g A=A1 at*
 generalize boundT x v (renT f g B)=B2 at*
 generalize renT f g B=B1 at*
 generalize hF:chT f g x v=F at*
 refine SC.of_gwp noM mixed Tryz.func72 rfl (Nat.le_of_ble_eq_true rfl) (by first|exact Nat.le_refl _|simp) rfl ?_
 conv=>whnf
 refine GDraw.calm (by kernel_rfl) ?_
 conv=>whnf
 refine callP a1 (Wks.refl _) rfl (ClL.cons (Cl.agg (sdc_cl A)) (ClL.cons (Cl.sl (strG_cl f)) (ClL.cons (Cl.sl (strG_cl g)) .nil))) (Cl.agg (sdc_cl A1)) ?_
 conv=>whnf
 refine callP a2 (Wks.refl _) rfl (ClL.cons (Cl.agg (sdc_cl A1)) (fun _=>rfl)) (Cl.agg (sdc_cl A2)) ?_
 conv=>whnf
 refine⟨_,⟨rfl,Nat.zero_le _,rfl,Nat.le_of_ble_eq_true rfl⟩,?_⟩
 conv=>whnf
 refine GDraw.calm (by kernel_rfl) ?_
 conv=>whnf
 refine callP b1 (Wks.refl _) rfl (ClL.cons (Cl.agg (sdc_cl B)) (ClL.cons (Cl.sl (strG_cl f)) (ClL.cons (Cl.sl (strG_cl g)) .nil))) (Cl.agg (sdc_cl B1)) ?_
 conv=>whnf
 refine callP b2 (Wks.refl _) rfl (ClL.cons (Cl.agg (sdc_cl B1)) (fun _=>rfl)) (Cl.agg (sdc_cl B2)) ?_
 conv=>whnf
 refine⟨_,⟨rfl,Nat.zero_le _,rfl,Nat.le_of_ble_eq_true rfl⟩,?_⟩
 conv=>whnf
 refine GLoop.introS (fun q:Nat×List Tree=>q.1<=L.length/\mps F L q.1=q.2) (fun q=>[(1,.sl .none (strG f)),(2,.sl .none (strG g)),(3,.s x),(5,.ptr 0 0),(9,.ptr 1 0),(10,.ptr 2 0),(11,.sl (.own 3) (ngs q.2)),(12,.i .i64 (q.1:Nat))])
  (fun q=>⟨[.box 69 (ndc k (ngs L) A2 B2 op yes),.box 53 v.cs,.box 69 nodeZ,ow 69 14 q.2.length],0,[]⟩) (fun q=>L.length - q.1) (0,[]) ⟨Nat.zero_le _,rfl⟩ ⟨rfl,rfl,rfl,rfl,rfl,rfl,rfl,rfl,trivial⟩ rfl (fun _ _=>Nat.le_refl _) (fun q _=>by simp only[List.all_cons,ow_held];rfl) (fun q _ e he=>?_) (fun q φ0 hi=>?_)
 ·refine⟨?_,rfl,?_⟩
  ·show[(GObj.box _ (ndc k (ngs L) A2 B2 op yes)).ren e,GObj.box _ (v.cs.map (GV.ren e)),GObj.box _ (nodeZ.map (GV.ren e)),(ow _ 14 _).ren e]=_
   rw[ow_ren,GObj.box_cl (ndc_cl (ngs_cl L) A2 B2 op yes) e];rfl
  ·show[(GV.sl .none (strG f)).ren e,(GV.sl .none (strG g)).ren e,_,.ptr (e 0) 0,.ptr (e 1) 0,.ptr (e 2) 0,(GV.sl (.own 3) (ngs q.2)).ren e,_]=_
   rw[ren_own (he 3 (by simp)) (ngs_cl _),Cl.sl (strG_cl f) e,Cl.sl (strG_cl g) e,he 0 (by simp),he 1 (by simp),he 2 (by simp)];rfl
 obtain⟨i,o⟩:=q
 obtain⟨hi,ho⟩:=hi
 replace hi:i<=L.length:=hi
 replace ho:mps F L i=o:=ho
 conv=>whnf
 refine GIf.mk (fun h=>?_) (fun h=>?_)<;>conv=>whnf
 rotate_left
 ·have hie:i=L.length:=by have:=of_decide_eq_false h;rw[hnl] at this;omega
  have hoe:L.map (Tree.mp F)=o:=by rw[<-ho,hie];unfold mps;rw[List.take_length]
  rw[hoe]
  repeat (refine⟨_,⟨rfl,Nat.zero_le _,rfl,Nat.le_of_ble_eq_true rfl⟩,?_⟩;conv=>whnf)
  exact owes_wk wk_node (Cl.agg (ndc_cl (ngs_cl o) A2 B2 op yes))
 have hlt:i<L.length:=by have:=of_decide_eq_true h;rw[hnl] at this;omega
 obtain⟨y,hy⟩:∃y,L[i]?=some y:=⟨L[i],List.getElem?_eq_getElem hlt⟩
 have hgy:(ngs L)[i]?=some y.ng:=by unfold ngs;rw[List.getElem?_map,hy];rfl
 have hcy:=hc y (List.mem_of_getElem? hy)
 have hcl:=y.ng_cl
 have hcl2:=(y.mp F).ng_cl
 have hsucc:=mps_succ (F:=F) hy
 have hle:=mps_len F L (i+1)
 rw[hsucc,ho,List.length_append,List.length_singleton] at hle
 rw[ho] at hsucc
 generalize y.mp F=z at*
 obtain⟨k2,kids,A',B',op',yes2,hng⟩:=ng_form y
 obtain⟨k3,kids3,A3,B3,op3,yes3,hng3⟩:=ng_form z
 rw[hng] at hgy hcy hcl
 rw[hng3] at hcy hcl2
 refine GDraw.calm (by kernel_rfl) ?_
 conv=>whnf
 refine⟨Int.natCast_nonneg _,.agg (ndc k2 kids A' B' op' yes2),by rw[Int.toNat_natCast];exact hgy,rfl,?_⟩
 conv=>whnf
 refine callP hcy (Wks.refl _) rfl (ClL.cons hcl hw) hcl2 ?_
 conv=>whnf
 cases o with
 |nil=>
  refine⟨⟨rfl,ngs_ok _,by show(ngs (([]:List Tree))).length+1<=4294967296;rw[ngs_len];decide⟩,ngs (([]:List Tree)++[z]),(([]:List Tree)++[z]).length,⟨(by show ngs (([]:List Tree)++[z])=ngs (([]:List Tree))++[GV.agg (ndc k3 kids3 A3 B3 op3 yes3)];rw[<-hng3];unfold ngs;rw[List.map_append];rfl),by show _=(ngs (([]:List Tree))).length+1;rw[ngs_len,List.length_append];rfl⟩,?_⟩
  conv=>whnf
  refine⟨⟨Nat.zero_le _,by first|rfl|(rw[ngs_len];rfl)|(rw[ngs_len];simp),by first|exact .inr ⟨rfl,rfl⟩|exact .inl ⟨rfl,rfl⟩⟩,?_⟩
  conv=>whnf
  exact⟨L.length - (i+1),(by show _<L.length - i;omega),(i+1,([]:List Tree)++[z]),⟨hlt,hsucc⟩,rfl,⟨rfl,rfl,rfl,rfl,rfl,rfl,rfl,wrap_succ (by omega),trivial⟩,_,rfl,rfl⟩
 |cons z0 zs=>
  refine⟨⟨rfl,ngs_ok _,by show(ngs ((z0::zs))).length+1<=4294967296;rw[ngs_len];omega⟩,ngs ((z0::zs)++[z]),((z0::zs)++[z]).length,⟨(by show ngs ((z0::zs)++[z])=ngs ((z0::zs))++[GV.agg (ndc k3 kids3 A3 B3 op3 yes3)];rw[<-hng3];unfold ngs;rw[List.map_append];rfl),by show _=(ngs ((z0::zs))).length+1;rw[ngs_len,List.length_append];rfl⟩,?_⟩
  conv=>whnf
  refine⟨⟨Nat.zero_le _,by first|rfl|(rw[ngs_len];rfl)|(rw[ngs_len];simp),by first|exact .inr ⟨rfl,rfl⟩|exact .inl ⟨rfl,rfl⟩⟩,?_⟩
  conv=>whnf
  exact⟨L.length - (i+1),(by show _<L.length - i;omega),(i+1,(z0::zs)++[z]),⟨hlt,hsucc⟩,rfl,⟨rfl,rfl,rfl,rfl,rfl,rfl,rfl,wrap_succ (by omega),trivial⟩,_,rfl,rfl⟩
theorem mp_sides (F:Term->Term) (a:Bool):∀t:Tree,(t.mp F).sides a=(t.sides a).map (Tree.mp F)
 |.pair b l r=>by
  show(Tree.pair b (l.mp F) (r.mp F)).sides a=_
  unfold Tree.sides
  split
  ·rw[List.map_append,mp_sides F a l,mp_sides F a r]
  ·rfl
 |.no t=>rfl
 |.test _ _ _=>rfl
 |.truth _=>rfl
theorem good_var {t:Term} (h:t.good):t.var=true->t.name≠[]:=fun hv=>by
 rcases h with h|h
 ·exact h.1
 ·rw[hv] at h;cases h.2.1
theorem chT_t0 (f g:List By) (x:By) (v:Val):chT f g x v t0=t0:=by
 unfold chT
 have e:renT f g t0=t0:=if_neg (fun h=>h.2 rfl)
 rw[e]
 exact if_neg (fun h=>by cases h.1)
theorem r_changed (f g:List By) (hf:f.length<1000000) (hg:f.length<=g.length) (x:By) (v:Val):∀(n:Nat) (t:Tree),t.size<=n->t.size<=5000->t.good->
  SC Tryz.prog 72 (t.ng::wsC f g x v) [] (.val (t.mp (chT f g x v)).ng) []
 |0,t,h,_,_=>by cases t<;>simp[Tree.size] at h
 |n+1,t,h,h2,hgd=>by
  have n0:t0.var=true->t0.name≠[]:=fun h=>by cases h
  have key:=fun k L yes hL hc=>r_ch_node f g hf hg x v k L t0 t0 [] yes hL n0 n0 hc
  rw[chT_t0] at key
  cases t with
  |truth b=>exact key 5 [] b (by simp) (fun y hy=>by cases hy)
  |test op l r=>exact r_ch_node f g hf hg x v 4 [] l r op false (by simp) (good_var hgd.2.1) (good_var hgd.2.2) (fun y hy=>by cases hy)
  |no t=>
   simp only[Tree.size] at h h2
   exact key 3 [t] false (by simp) (fun y hy=>by
    rw[List.mem_singleton.1 hy];exact r_changed f g hf hg x v n t (by omega) (by omega) hgd)
  |pair a l r=>
   have hs:=@sides_len a (Tree.pair a l r)
   have hk:=key (opn a) ((Tree.pair a l r).sides a) false (by omega) (fun y hy=>by
    have:=sides_lt hy
    exact r_changed f g hf hg x v n y (by omega) (by omega) (good_side hgd y hy))
   rw[show(Tree.pair a l r).ng=.agg (ndc (opn a) (ngs ((Tree.pair a l r).sides a)) t0 t0 [] false) by show GV.agg _=_;rw[ncs_pair]]
   rw[<-mp_sides] at hk
   rw[show((Tree.pair a l r).mp (chT f g x v)).ng=.agg (ndc (opn a) (ngs (((Tree.pair a l r).mp (chT f g x v)).sides a)) t0 t0 [] false) by show GV.agg (Tree.ncs (.pair a _ _))=_;rw[ncs_pair];rfl]
   exact hk
end Go.Proofs.YtlhabmglchgdnaaGreatDoor
namespace Go.Proofs.YtlhabmglchgdnaaGreatDoor
open Go.RowKit
set_option maxRecDepth 100000
set_option linter.unusedVariables false
theorem l_tell (s:By) (e:Int):SC Tryz.prog 28 [.s s,.i .i64 e] [] (.val (.agg [.s s,.i .i64 e])) []:=by
 refine SC.of_gwp noM mixed Tryz.func28 rfl (Nat.le_of_ble_eq_true rfl) (by first|exact Nat.le_refl _|simp) rfl ?_
 conv=>whnf
 refine⟨_,⟨rfl,Nat.zero_le _,rfl,Nat.le_of_ble_eq_true rfl⟩,?_⟩
 conv=>whnf
 exact owes_wk (g':=.agg [.s s,.i .i64 e]) (.refl _) (fun _=>rfl)
theorem eval_ok {I V:List Itm} {R W:List Val} {s:By} {b:Bool} (h:evalS I V R W s=(b,0)):∃t,readS s=.ok t/\evT I V R W t=(b,0):=by
 unfold evalS at h
 cases hx:readS s with
 |err e=>
  rw[hx] at h
  have:=readS_err hx
  have h0:e=0:=congrArg Prod.snd h
  omega
 |ok t=>rw[hx] at h;exact⟨t,rfl,h⟩
end Go.Proofs.YtlhabmglchgdnaaGreatDoor
