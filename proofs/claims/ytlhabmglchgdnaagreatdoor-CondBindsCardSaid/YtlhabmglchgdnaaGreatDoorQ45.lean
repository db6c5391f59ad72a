/-
  CondBinds: Bound and Term of every texts, items, row, variables and values are those of the reference, and a condition whose variables are bound is as true as with their values; part 45 of 46. Conditions: none beyond the given statement.
-/
import Derived.Test.YtlhabmglchgdnaaGreatDoorQ44
import Derived.Test.YtlhabmglchgdnaaGreatDoorQ43
set_option linter.all false
namespace Go.Proofs.YtlhabmglchgdnaaGreatDoor
open Go.RowKit
set_option maxRecDepth 100000
set_option linter.unusedVariables false
theorem tsts_mp (f:Term->Term):∀t:Tree,tsts (t.mp f)=(tsts t).map fun p=>(f p.1,f p.2)
 |.pair _ l r=>by simp only[Tree.mp,tsts,List.map_append,tsts_mp f l,tsts_mp f r]
 |.no t=>tsts_mp f t
 |.test _ _ _=>rfl
 |.truth _=>rfl
theorem truth_mp (τ:Term->Val) (f:Term->Term):∀t:Tree,truthV τ (t.mp f)=truthV (fun x=>τ (f x)) t
 |.pair _ l r=>by simp only[Tree.mp,truthV,truth_mp τ f l,truth_mp τ f r]
 |.no t=>by simp only[Tree.mp,truthV,truth_mp τ f t]
 |.test _ _ _=>rfl
 |.truth _=>rfl
theorem truth_congr {τ σ:Term->Val}:∀{t:Tree},(∀x∈leaves t,τ x=σ x)->truthV τ t=truthV σ t
 |.pair _ l r,h=>by
  have h1:=truth_congr (t:=l) (fun x hx=>h x (List.mem_append.2 (.inl hx)))
  have h2:=truth_congr (t:=r) (fun x hx=>h x (List.mem_append.2 (.inr hx)))
  simp only[truthV,h1,h2]
 |.no t,h=>by
  have h1:=truth_congr (t:=t) h
  simp only[truthV,h1]
 |.test op a b,h=>by
  simp only[truthV]
  rw[h a (by simp[leaves]),h b (by simp[leaves])]
 |.truth _,_=>rfl
theorem evT_moved {I V I' V':List Itm} {R W R' W':List Val} {F:Term->Term} {T T':Tree} {b:Bool} (hT:tsts T'=(tsts T).map fun p=>(F p.1,F p.2)) (hτ:∀τ,truthV τ T'=truthV (fun x=>τ (F x)) T)
  (h:evT I V R W T=(b,0)) (h1:(knownB I'&&knownB V'&&fits2 I' R')=true) (h3:W'.length=V'.length) (h4:kinds2 V' W'=true)
  (hk:∀x∈leaves T,kindR I V x≠0->kindR I' V' (F x)=kindR I V x/\valT I' V' R' W' (F x)=valT I V R W x):evT I' V' R' W' T'=(b,0):=by
 obtain⟨k1,k2,k3,k4,k5⟩:=evT_ok h
 obtain⟨c1,c2⟩:=check_zero.1 k2
 have c1':∀x∈leaves T,kindR I V x≠0:=fun x hx e=>by
  have:(leaves T).any (fun x=>kindR I V x==0)=true:=List.any_eq_true.2 ⟨x,hx,by rw[e];rfl⟩
  rw[this] at c1;cases c1
 have hm:∀p∈tsts T,p.1∈leaves T/\p.2∈leaves T:=fun p hp=>by
  rw[leaves_tsts]
  exact⟨List.mem_flatMap.2 ⟨p,hp,by simp⟩,List.mem_flatMap.2 ⟨p,hp,by simp⟩⟩
 have d2:checkS I' V' T'=0:=by
  rw[check_zero]
  refine⟨?_,?_⟩
  ·rw[Bool.eq_false_iff]
   intro ha
   obtain⟨y,hy,h0⟩:=List.any_eq_true.1 ha
   rw[leaves_tsts,hT] at hy
   obtain⟨q,hq,hy⟩:=List.mem_flatMap.1 hy
   obtain⟨p,hp,rfl⟩:=List.mem_map.1 hq
   have h0':=eq_of_beq h0
   obtain⟨m1,m2⟩:=hm p hp
   simp only[List.mem_cons,List.not_mem_nil,or_false] at hy
   rcases hy with rfl|rfl
   ·rw[(hk _ m1 (c1' _ m1)).1] at h0';exact c1' _ m1 h0'
   ·rw[(hk _ m2 (c1' _ m2)).1] at h0';exact c1' _ m2 h0'
  ·rw[Bool.eq_false_iff]
   intro ha
   obtain⟨q,hq,h0⟩:=List.any_eq_true.1 ha
   rw[hT] at hq
   obtain⟨p,hp,rfl⟩:=List.mem_map.1 hq
   obtain⟨m1,m2⟩:=hm p hp
   simp only at h0
   rw[(hk _ m1 (c1' _ m1)).1,(hk _ m2 (c1' _ m2)).1] at h0
   have:(tsts T).any (fun p=>kindR I V p.1 !=kindR I V p.2)=true:=List.any_eq_true.2 ⟨p,hp,h0⟩
   rw[this] at c2;cases c2
 rw[evT_mk h1 d2 h3 h4,hτ,k5]
 congr 1
 exact truth_congr (fun x hx=>(hk x hx (c1' x hx)).2)
def bindN:List (By×Val)->By->By×Bool
 |[],s=>(s,true)
 |p::l,s=>if(boundS s p.1 p.2).2=0 then bindN l (boundS s p.1 p.2).1 else((boundS s p.1 p.2).1,false)
def foldB (P:List (By×Val)) (t:Term):Term:=P.foldl (fun t p=>boundT p.1 p.2 t) t
theorem bindN_ok:∀{P:List (By×Val)} {s s':By} {T:Tree},readS s=.ok T->bindN P s=(s',true)->
  ∃T',readS s'=.ok T'/\(tsts T'=(tsts T).map fun p=>(foldB P p.1,foldB P p.2))/\∀τ,truthV τ T'=truthV (fun x=>τ (foldB P x)) T
 |[],s,s',T,h,hb=>by
  cases hb
  exact⟨T,h,by simp[foldB],fun τ=>rfl⟩
 |p::P,s,s',T,h,hb=>by
  unfold bindN at hb
  split at hb
  ·rename_i h0
   have e:boundS s p.1 p.2=if p.2.ok then resS (T.mp (boundT p.1 p.2)) else([],1):=by unfold boundS;rw[h]
   cases hv:p.2.ok with
   |false=>rw[hv] at e;rw[e] at h0;simp at h0
   |true=>
    rw[hv,if_pos rfl] at e
    rw[e] at h0 hb
    have hr:=res_read (mp_good (fun _=>bound_good hv) (readS_good h).1) h0
    obtain⟨T',h1,h2,h3⟩:=bindN_ok hr hb
    refine⟨T',h1,?_,fun τ=>?_⟩
    ·rw[h2,tsts_flat,tsts_mp,List.map_map];rfl
    ·rw[h3,truth_flat,truth_mp];rfl
  ·cases hb
theorem foldB_no:∀{P:List (By×Val)} {t:Term},t.var=false->foldB P t=t
 |[],t,_=>rfl
 |p::P,t,h=>by
  show foldB P (boundT p.1 p.2 t)=t
  have:boundT p.1 p.2 t=t:=if_neg (fun q=>by rw[h] at q;cases q.1)
  rw[this];exact foldB_no h
theorem foldB_at:∀{P:List (By×Val)} {t:Term} {j:Nat} {p:By×Val},t.var=true->P[j]?=some p->p.1=t.name->(∀q∈P.take j,q.1≠t.name)->foldB P t=⟨[],false,p.2⟩
 |[],t,j,p,_,h,_,_=>by simp at h
 |q::P,t,0,p,hv,h,he,_=>by
  simp at h;subst h
  show foldB P (boundT q.1 q.2 t)=_
  have:boundT q.1 q.2 t=⟨[],false,q.2⟩:=if_pos ⟨hv,he.symm⟩
  rw[this];exact foldB_no rfl
 |q::P,t,j+1,p,hv,h,he,hn=>by
  show foldB P (boundT q.1 q.2 t)=_
  have:boundT q.1 q.2 t=t:=if_neg (fun x=>hn q (by simp) x.2.symm)
  rw[this]
  exact foldB_at hv (by simpa using h) he (fun z hz=>hn z (by simp[hz]))
def pairsV (V:List Itm) (W:List Val):List (By×Val):=(V.map Itm.name).zip W
theorem eval_bound {I V:List Itm} {R W:List Val} {s s':By} {b:Bool} (h:evalS I V R W s=(b,0)) (hb:bindN (pairsV V W) s=(s',true)):evalS I [] R [] s'=(b,0):=by
 obtain⟨T,hr,he⟩:=eval_ok h
 obtain⟨T',h1,h2,h3⟩:=bindN_ok hr hb
 have hg:=(readS_good hr).1
 obtain⟨k1,k2,k3,k4,k5⟩:=evT_ok he
 unfold evalS
 rw[h1]
 have k1':=k1
 simp only[Bool.and_eq_true] at k1'
 refine evT_moved h2 h3 he (by simp only[Bool.and_eq_true];exact⟨⟨k1'.1.1,by decide⟩,k1'.2⟩) rfl rfl (fun x hx h0=>?_)
 have hxg:=leaf_good hg x hx
 cases hv:x.var with
 |false=>
  rw[foldB_no hv]
  unfold kindR valT
  rw[hv]
  exact⟨rfl,rfl⟩
 |true=>
  have hn:x.name≠[]:=by
   rcases hxg with q|q
   ·exact q.1
   ·rw[hv] at q;cases q.2.1
  have e1:kindR I V x=match V.find? (fun i=>i.name==x.name) with
    |some i=>i.k
    |none=>0:=by unfold kindR;rw[if_neg hn,hv];rfl
  rcases idx_cases V x.name with⟨i1,i2⟩|⟨j,y,i1,i2,i3,i4⟩
  ·exfalso
   rw[List.find?_eq_none.2 (fun z hz=>by simpa using i2 z hz)] at e1
   exact h0 e1
  ·have hj:=(List.getElem?_eq_some_iff.1 i2).1
   obtain⟨w,hw⟩:∃w,W[j]?=some w:=⟨W[j]'(by omega),List.getElem?_eq_getElem _⟩
   have hp:(pairsV V W)[j]?=some (x.name,w):=by
    unfold pairsV
    rw[List.getElem?_zip_eq_some]
    exact⟨by rw[List.getElem?_map,i2,Option.map_some,i3],hw⟩
   have hF:=foldB_at (P:=pairsV V W) hv hp rfl (fun q hq=>by
    obtain⟨m,hm,rfl⟩:=List.mem_take_iff_getElem.1 hq
    have hml:m<V.length:=by omega
    unfold pairsV
    rw[List.getElem_zip]
    simp only[List.getElem_map]
    exact i4 _ (List.mem_take_iff_getElem.2 ⟨m,by omega,rfl⟩))
   rw[hF]
   obtain⟨w1,w2⟩:=kinds_iff.1 k4 j y w i2 hw
   refine⟨?_,?_⟩
   ·show w.k=_
    rcases idx_kind V x.name with⟨q,_⟩|⟨j',y',q1,q2,q3⟩
    ·rw[i1] at q;omega
    ·rw[i1] at q1
     have:j=j':=by omega
     subst this
     rw[i2] at q2;cases q2
     rw[e1,q3];exact w2
   ·show w=_
    unfold valT
    rw[if_neg hn,hv]
    exact(lkp_at i1 hw).symm
end Go.Proofs.YtlhabmglchgdnaaGreatDoor
namespace Go.Proofs.YtlhabmglchgdnaaGreatDoor
open Go.RowKit
set_option maxRecDepth 100000
set_option linter.unusedVariables false
theorem mp_join (f:Term->Term) (a:Bool) (acc:Option Tree) (t:Tree):(joinA a acc t).mp f=joinA a (acc.map (Tree.mp f)) (t.mp f):=by cases acc<;>rfl
theorem mp_flatA (f:Term->Term):∀(t:Tree) (a:Bool) (acc:Option Tree),(flatA a acc t).mp f=flatA a (acc.map (Tree.mp f)) (t.mp f)
 |.pair b l r,a,acc=>by
  show _=flatA a (acc.map (Tree.mp f)) (.pair b (l.mp f) (r.mp f))
  unfold flatA
  split
  ·rw[mp_flatA f r,Option.map_some,mp_flatA f l]
  ·rw[mp_join,mp_flatA f r,Option.map_some,mp_flatA f l];rfl
 |.no t,a,acc=>by
  show _=flatA a (acc.map (Tree.mp f)) (.no (t.mp f))
  unfold flatA
  rw[mp_join]
  show joinA a _ (.no ((flatA true none t).mp f))=_
  rw[mp_flatA f t];rfl
 |.test op l r,a,acc=>by
  show _=flatA a (acc.map (Tree.mp f)) (.test op (f l) (f r))
  unfold flatA;rw[mp_join];rfl
 |.truth b,a,acc=>by
  show _=flatA a (acc.map (Tree.mp f)) (.truth b)
  unfold flatA;rw[mp_join];rfl
theorem mp_flat (f:Term->Term) (t:Tree):t.flat.mp f=(t.mp f).flat:=mp_flatA f t true none
theorem res_mp (f:Term->Term) (t:Tree):resS (t.flat.mp f)=resS (t.mp f):=by
 rw[mp_flat]
 unfold resS
 rw[flat_flat]
theorem chT_b (x:By) (v:Val):chT [] [] x v=boundT x v:=funext fun t=>by
 unfold chT
 have e:renT [] [] t=t:=by
  unfold renT
  split
  ·rfl
  ·rfl
 rw[e]
def boundR (s x:By) (v:Val):By×Int:=match readR s with
 |.err e=>([],e)
 |.ok t=>if v.ok then toldR (t.mp (chT [] [] x v)) else([],1)
theorem boundR_eq (s x:By) (v:Val):boundR s x v=boundS s x v:=by
 unfold boundR boundS
 have hr:=readR_eq s
 cases hx:readR s with
 |err e=>rw[hx] at hr;rw[hr]
 |ok t=>
  rw[hx] at hr;rw[hr]
  simp only
  cases hv:v.ok with
  |false=>rfl
  |true=>
   rw[if_pos rfl,if_pos rfl,chT_b,res_mp,toldR_eq (mp_good (fun _=>bound_good hv) (readR_good hx))]
theorem r_Bound (s x:By) (v:Val):SC Tryz.prog 41 [.s s,.s x,v.gv] [] (.val (.tup [.s (boundR s x v).1,.i .i64 (boundR s x v).2])) []:=by
 have hr:=r_ReadU s
 have hrc:=readRG_cl s
 have hv:=r_ValidValue v
 unfold readRG at hr hrc
 unfold boundR
 cases hx:readR s with
 |err e=>
  rw[hx] at hr hrc
  replace hr:SC Tryz.prog 48 [.s s] [] (.val (.tup [nodeN,.i .i64 e])) []:=hr
  replace hrc:Cl (.tup [nodeN,.i .i64 e]):=hrc
  have he:=readR_err hx
  simp only
  rcases he with rfl|rfl|rfl
  all_goals
   refine SC.of_gwp noM mixed Tryz.func41 rfl (Nat.le_of_ble_eq_true rfl) (by first|exact Nat.le_refl _|simp) rfl ?_
   conv=>whnf
   refine callP hr (Wks.refl _) rfl (fun _=>rfl) hrc ?_
   conv=>whnf
   repeat (refine⟨_,⟨rfl,Nat.zero_le _,rfl,Nat.le_of_ble_eq_true rfl⟩,?_⟩;conv=>whnf)
   exact owes_wk (.refl _) (fun _=>rfl)
 |ok t=>
  rw[hx] at hr hrc
  replace hr:SC Tryz.prog 48 [.s s] [] (.val (.tup [t.ng,.i .i64 0])) []:=hr
  replace hrc:Cl (.tup [t.ng,.i .i64 0]):=hrc
  have hz:=readR_size hx
  have hgd:=readR_good hx
  have htc:=t.ng_cl
  simp only
  cases hvo:v.ok with
  |false=>
   rw[hvo] at hv
   obtain⟨k,kids,A,B,op,yes,hng⟩:=ng_form t
   rw[hng] at hr hrc
   refine SC.of_gwp noM mixed Tryz.func41 rfl (Nat.le_of_ble_eq_true rfl) (by first|exact Nat.le_refl _|simp) rfl ?_
   conv=>whnf
   refine callP hr (Wks.refl _) rfl (fun _=>rfl) hrc ?_
   conv=>whnf
   repeat (refine⟨_,⟨rfl,Nat.zero_le _,rfl,Nat.le_of_ble_eq_true rfl⟩,?_⟩;conv=>whnf)
   refine callP hv (Wks.refl _) rfl (fun _=>rfl) (fun _=>rfl) ?_
   conv=>whnf
   exact owes_wk (.refl _) (fun _=>rfl)
  |true=>
   rw[hvo] at hv
   have hch:=r_changed [] [] (by simp) (Nat.le_refl _) x v 5000 t (by omega) (by omega) hgd
   rw[chT_b] at hch⊢
   have hg2:=mp_good (f:=boundT x v) (fun _=>bound_good hvo) hgd
   have ht:=r_told (t.mp (boundT x v)) hg2 (by rw[mp_size];omega)
   have hw:=wsC_cl [] [] x v
   generalize t.mp (boundT x v)=u at*
   have huc:=u.ng_cl
   rw[if_pos rfl]
   generalize toldR u=q at*
   obtain⟨w,e⟩:=q
   obtain⟨k,kids,A,B,op,yes,hng⟩:=ng_form t
   obtain⟨k2,kids2,A2,B2,op2,yes2,hng2⟩:=ng_form u
   unfold wsC at hch hw
   rw[hng] at hr hrc hch htc
   rw[hng2] at hch ht huc
   refine SC.of_gwp noM mixed Tryz.func41 rfl (Nat.le_of_ble_eq_true rfl) (by first|exact Nat.le_refl _|simp) rfl ?_
   conv=>whnf
   refine callP hr (Wks.refl _) rfl (fun _=>rfl) hrc ?_
   conv=>whnf
   repeat (refine⟨_,⟨rfl,Nat.zero_le _,rfl,Nat.le_of_ble_eq_true rfl⟩,?_⟩;conv=>whnf)
   refine callP hv (Wks.refl _) rfl (fun _=>rfl) (fun _=>rfl) ?_
   conv=>whnf
   refine callP hch (Wks.cons (Wk.refl _) (Wks.cons (Wk.sl _ _) (Wks.cons (Wk.sl _ _) (Wks.refl _)))) rfl (ClL.cons htc hw) huc ?_
   conv=>whnf
   refine callP ht (Wks.refl _) rfl (ClL.cons huc .nil) (fun _=>rfl) ?_
   conv=>whnf
   exact owes_wk (.refl _) (fun _=>rfl)
end Go.Proofs.YtlhabmglchgdnaaGreatDoor
namespace Go.Proofs.YtlhabmglchgdnaaGreatDoor
open Go.RowKit
set_option maxRecDepth 100000
set_option linter.unusedVariables false
def tz:Term:=⟨[],false,v0⟩
def oneG (s:By):GV:=match termW litP (toks s) with
 |some (t,r)=>.tup [t.gv,.b (r.headD []==[])]
 |none=>.tup [tz.gv,.b false]
theorem c_oneTerm (s:By) (hs:s.length<=20000):SC Tryz.prog 76 [.s s] [] (.val (oneG s)) []:=by
 have hm:s.length<most:=by unfold most;omega
 have h0:At s 0 (toks s):=⟨Nat.zero_le _,rfl⟩
 have hc:=c_term s hs 0 (toks s) 0 h0
 unfold termO at hc
 unfold oneG
 cases hp:termW litP (toks s) with
 |none=>
  rw[hp] at hc
  replace hc:SC Tryz.prog 118 [.ptr 0 0] [rd s 0 (0:Nat)] (.panic wrongC) [.dead]:=hc
  refine SC.of_gwp noM mixed Tryz.func76 rfl (Nat.le_of_ble_eq_true rfl) (by first|exact Nat.le_refl _|simp) rfl ?_
  conv=>whnf
  refine callBd (q:=2) hc rfl (by first|exact Wks.refl _|exact Wks.cons (Wk.sl _ _) (Wks.refl _)|exact Wks.cons (Wk.sl _ _) (Wks.cons (Wk.sl _ _) (Wks.refl _))|exact Wks.cons (Wk.refl _) (Wks.cons (Wk.sl _ _) (Wks.refl _))) rfl rfl (by first|exact fun _=>rfl|exact Cl.sl (ClL.mapOf (fun _=>Cl.s _) _)|exact ClL.cons (Cl.sl (ClL.mapOf (fun _=>Cl.s _) _)) (fun _=>rfl)) (by first|exact fun _=>rfl|exact Cl.sl (ClL.mapOf (fun _=>Cl.s _) _)|exact ClL.cons (Cl.sl (ClL.mapOf (fun _=>Cl.s _) _)) (fun _=>rfl)) (by first|exact fun _=>rfl|exact Cl.sl (ClL.mapOf (fun _=>Cl.s _) _)|exact ClL.cons (Cl.sl (ClL.mapOf (fun _=>Cl.s _) _)) (fun _=>rfl)) ?_
  conv=>whnf
  refine owes0 (g:=.tup [tz.gv,.b false]) ?_ ?_ ?_
  ·kernel_rfl
  ·exact .refl _
  ·exact fun _=>rfl
 |some p=>
  obtain⟨t,r⟩:=p
  rw[hp] at hc
  obtain⟨m,hA,hc⟩:=hc
  replace hA:At s m r:=hA
  replace hc:SC Tryz.prog 118 [.ptr 0 0] [rd s 0 (0:Nat)] (.val t.gv) [rd s m (0:Nat)]:=hc
  have hwd:=c_word' s m (0:Nat) hA hm
  refine SC.of_gwp (onM [119]) mixed Tryz.func76 rfl (Nat.le_of_ble_eq_true rfl) (Nat.le_refl _) rfl ?_
  conv=>whnf
  refine callB (q:=2) hc rfl (Wks.refl _) rfl rfl (fun _=>rfl) (fun _=>rfl) (fun _=>rfl) t.cl ?_
  conv=>whnf
  refine⟨_,⟨rfl,Nat.zero_le _,rfl,Nat.le_of_ble_eq_true rfl⟩,?_⟩
  conv=>whnf
  refine GDraw.wild _ _ _ rfl rfl rfl (by kernel_rfl) ?_
  conv=>whnf
  refine callB (q:=2) hwd rfl (by first|exact Wks.refl _|exact Wks.cons (Wk.sl _ _) (Wks.refl _)|exact Wks.cons (Wk.sl _ _) (Wks.cons (Wk.sl _ _) (Wks.refl _))|exact Wks.cons (Wk.refl _) (Wks.cons (Wk.sl _ _) (Wks.refl _))) rfl rfl (by first|exact fun _=>rfl|exact Cl.sl (ClL.mapOf (fun _=>Cl.s _) _)|exact ClL.cons (Cl.sl (ClL.mapOf (fun _=>Cl.s _) _)) (fun _=>rfl)) (by first|exact fun _=>rfl|exact Cl.sl (ClL.mapOf (fun _=>Cl.s _) _)|exact ClL.cons (Cl.sl (ClL.mapOf (fun _=>Cl.s _) _)) (fun _=>rfl)) (by first|exact fun _=>rfl|exact Cl.sl (ClL.mapOf (fun _=>Cl.s _) _)|exact ClL.cons (Cl.sl (ClL.mapOf (fun _=>Cl.s _) _)) (fun _=>rfl)) (by first|exact fun _=>rfl|exact Cl.sl (ClL.mapOf (fun _=>Cl.s _) _)|exact ClL.cons (Cl.sl (ClL.mapOf (fun _=>Cl.s _) _)) (fun _=>rfl)) ?_
  conv=>whnf
  refine⟨_,⟨rfl,Nat.zero_le _,rfl,Nat.le_of_ble_eq_true rfl⟩,?_⟩
  conv=>whnf
  refine⟨_,⟨rfl,Nat.zero_le _,rfl,Nat.le_of_ble_eq_true rfl⟩,?_⟩
  conv=>whnf
  exact owes_wk (.refl _) (Cl.tup (.cons t.cl (.cons (.b _) .nil)))
def oneS (s:By):Option Term:=match termW litP (toks s) with
 |some (t,[])=>some t
 |_=>none
def termT (I V:List Itm) (R W:List Val) (t:Term):Val×Int:=
 if knownB I&&knownB V&&fits2 I R then
  if kindE I V t=5 then(v0,5)
  else if W.length=V.length then
   if kinds2 V W then(valT I V R W t,0) else(v0,1)
  else(v0,11)
 else(v0,1)
def termS (I V:List Itm) (R W:List Val) (s:By):Val×Int:=if 1000<s.length then(v0,3) else match oneS s with
 |none=>(v0,2)
 |some t=>termT I V R W t
theorem oneG_some {s:By} {t:Term} (h:oneS s=some t):oneG s=.tup [t.gv,.b true]:=by
 unfold oneS at h
 unfold oneG
 cases hp:termW litP (toks s) with
 |none=>rw[hp] at h;cases h
 |some p=>
  obtain⟨u,r⟩:=p
  rw[hp] at h
  cases r with
  |nil=>cases h;rfl
  |cons w r=>cases h
theorem oneG_none {s:By} (h:oneS s=none):∃t:Term,oneG s=.tup [t.gv,.b false]:=by
 unfold oneS at h
 unfold oneG
 cases hp:termW litP (toks s) with
 |none=>exact⟨tz,rfl⟩
 |some p=>
  obtain⟨u,r⟩:=p
  rw[hp] at h
  cases r with
  |nil=>cases h
  |cons w r=>
   obtain⟨pre,e1,_⟩:=termW_cw hp
   have hne:w≠[]:=toks_ne s.length s (Nat.le_refl _) w (by rw[e1];simp)
   exact⟨u,by show GV.tup [u.gv,.b (w==[])]=_;rw[show(w==[])=false by simpa using hne]⟩
theorem kindE_in (I V:List Itm) (t:Term):kindE I V t=0∨kindE I V t=5:=by
 unfold kindE
 split
 ·exact .inl rfl
 ·split
  ·exact .inl rfl
  ·exact .inr rfl
theorem v0_cl (e:Int):Cl (.tup [v0.gv,.i .i64 e]):=fun _=>rfl
theorem c_Term (I V:List Itm) (R W:List Val) (hI:I.length<most) (hV:V.length<most) (hR:R.length<most) (hW:W.length<most) (s:By):
  SC Tryz.prog 38 [.s s,.sl .none (itms I),.sl .none (vlsG R),.sl .none (itms V),.sl .none (vlsG W)] [] (.val (.tup [(termS I V R W s).1.gv,.i .i64 (termS I V R W s).2])) []:=by
 have hw:=wcs_cl I V R W
 unfold termS
 by_cases hl:1000<s.length
 ·rw[if_pos hl]
  refine SC.of_gwp noM mixed Tryz.func38 rfl (Nat.le_of_ble_eq_true rfl) (by first|exact Nat.le_refl _|simp) rfl ?_
  conv=>whnf
  refine GIf.mk (fun h=>?_) (fun h=>?_)<;>conv=>whnf
  ·skip
   repeat (refine⟨_,⟨rfl,Nat.zero_le _,rfl,Nat.le_of_ble_eq_true rfl⟩,?_⟩;conv=>whnf)
   exact owes_wk (.refl _) (v0_cl 3)
  ·exfalso;have:=of_decide_eq_false h;omega
 rw[if_neg hl]
 have h0:=c_oneTerm s (by omega)
 cases ho:oneS s with
 |none=>
  obtain⟨t,e⟩:=oneG_none ho
  rw[e] at h0
  refine SC.of_gwp noM mixed Tryz.func38 rfl (Nat.le_of_ble_eq_true rfl) (by first|exact Nat.le_refl _|simp) rfl ?_
  conv=>whnf
  refine GIf.mk (fun h=>?_) (fun h=>?_)<;>conv=>whnf
  ·exfalso;have:=of_decide_eq_true h;omega
  refine callP h0 (Wks.refl _) rfl (fun _=>rfl) (fun _=>rfl) ?_
  conv=>whnf
  repeat (refine⟨_,⟨rfl,Nat.zero_le _,rfl,Nat.le_of_ble_eq_true rfl⟩,?_⟩;conv=>whnf)
  exact owes_wk (.refl _) (v0_cl 2)
 |some t=>
  rw[oneG_some ho] at h0
  have h1:=c_wrong I V R W hI hV hR
  have h2:=c_kind I V hI hV t
  have h3:=c_toldW I V R W hV hW
  have hk:=kindE_in I V t
  simp only
  unfold termT
  unfold wrongS at h1
  by_cases b1:(knownB I&&knownB V&&fits2 I R)=true
  rotate_left
  ·rw[if_neg b1] at h1⊢
   refine SC.of_gwp noM mixed Tryz.func38 rfl (Nat.le_of_ble_eq_true rfl) (by first|exact Nat.le_refl _|simp) rfl ?_
   conv=>whnf
   refine GIf.mk (fun h=>?_) (fun h=>?_)<;>conv=>whnf
   ·exfalso;have:=of_decide_eq_true h;omega
   refine callP h0 (Wks.refl _) rfl (fun _=>rfl) (fun _=>rfl) ?_
   conv=>whnf
   repeat (refine⟨_,⟨rfl,Nat.zero_le _,rfl,Nat.le_of_ble_eq_true rfl⟩,?_⟩;conv=>whnf)
   refine callP h1 (Wks.refl _) rfl (ClL.cons (Cl.agg hw) .nil) (.i _ _) ?_
   conv=>whnf
   repeat (refine⟨_,⟨rfl,Nat.zero_le _,rfl,Nat.le_of_ble_eq_true rfl⟩,?_⟩;conv=>whnf)
   exact owes_wk (.refl _) (v0_cl 1)
  rw[if_pos b1] at h1⊢
  have b1':=b1
  simp only[Bool.and_eq_true] at b1'
  by_cases b2:kindE I V t=5
  ·rw[if_pos b2]
   rw[b2] at h2
   refine SC.of_gwp noM mixed Tryz.func38 rfl (Nat.le_of_ble_eq_true rfl) (by first|exact Nat.le_refl _|simp) rfl ?_
   conv=>whnf
   refine GIf.mk (fun h=>?_) (fun h=>?_)<;>conv=>whnf
   ·exfalso;have:=of_decide_eq_true h;omega
   refine callP h0 (Wks.refl _) rfl (fun _=>rfl) (fun _=>rfl) ?_
   conv=>whnf
   repeat (refine⟨_,⟨rfl,Nat.zero_le _,rfl,Nat.le_of_ble_eq_true rfl⟩,?_⟩;conv=>whnf)
   refine callP h1 (Wks.refl _) rfl (ClL.cons (Cl.agg hw) .nil) (.i _ _) ?_
   conv=>whnf
   refine callP h2 (Wks.refl _) rfl (ClL.cons t.cl (ClL.cons (Cl.sl (itms_cl I)) (ClL.cons (Cl.sl (itms_cl V)) .nil))) (fun _=>rfl) ?_
   conv=>whnf
   repeat (refine⟨_,⟨rfl,Nat.zero_le _,rfl,Nat.le_of_ble_eq_true rfl⟩,?_⟩;conv=>whnf)
   exact owes_wk (.refl _) (v0_cl 5)
  rw[if_neg b2]
  have b3:kindE I V t=0:=hk.resolve_right b2
  rw[b3] at h2
  unfold toldS at h3
  by_cases b4:W.length=V.length
  rotate_left
  ·rw[if_neg b4]
   rw[if_pos b4] at h3
   refine SC.of_gwp noM mixed Tryz.func38 rfl (Nat.le_of_ble_eq_true rfl) (by first|exact Nat.le_refl _|simp) rfl ?_
   conv=>whnf
   refine GIf.mk (fun h=>?_) (fun h=>?_)<;>conv=>whnf
   ·exfalso;have:=of_decide_eq_true h;omega
   refine callP h0 (Wks.refl _) rfl (fun _=>rfl) (fun _=>rfl) ?_
   conv=>whnf
   repeat (refine⟨_,⟨rfl,Nat.zero_le _,rfl,Nat.le_of_ble_eq_true rfl⟩,?_⟩;conv=>whnf)
   refine callP h1 (Wks.refl _) rfl (ClL.cons (Cl.agg hw) .nil) (.i _ _) ?_
   conv=>whnf
   refine callP h2 (Wks.refl _) rfl (ClL.cons t.cl (ClL.cons (Cl.sl (itms_cl I)) (ClL.cons (Cl.sl (itms_cl V)) .nil))) (fun _=>rfl) ?_
   conv=>whnf
   refine callP h3 (Wks.refl _) rfl (ClL.cons (Cl.agg hw) .nil) (.i _ _) ?_
   conv=>whnf
   repeat (refine⟨_,⟨rfl,Nat.zero_le _,rfl,Nat.le_of_ble_eq_true rfl⟩,?_⟩;conv=>whnf)
   exact owes_wk (.refl _) (v0_cl 11)
  rw[if_pos b4]
  rw[if_neg (by simpa using b4)] at h3
  cases b5:kinds2 V W with
  |false=>
   rw[b5] at h3
   replace h3:SC Tryz.prog 57 [.agg (wcs I V R W)] [] (.val (.i .i64 1)) []:=h3
   refine SC.of_gwp noM mixed Tryz.func38 rfl (Nat.le_of_ble_eq_true rfl) (by first|exact Nat.le_refl _|simp) rfl ?_
   conv=>whnf
   refine GIf.mk (fun h=>?_) (fun h=>?_)<;>conv=>whnf
   ·exfalso;have:=of_decide_eq_true h;omega
   refine callP h0 (Wks.refl _) rfl (fun _=>rfl) (fun _=>rfl) ?_
   conv=>whnf
   repeat (refine⟨_,⟨rfl,Nat.zero_le _,rfl,Nat.le_of_ble_eq_true rfl⟩,?_⟩;conv=>whnf)
   refine callP h1 (Wks.refl _) rfl (ClL.cons (Cl.agg hw) .nil) (.i _ _) ?_
   conv=>whnf
   refine callP h2 (Wks.refl _) rfl (ClL.cons t.cl (ClL.cons (Cl.sl (itms_cl I)) (ClL.cons (Cl.sl (itms_cl V)) .nil))) (fun _=>rfl) ?_
   conv=>whnf
   refine callP h3 (Wks.refl _) rfl (ClL.cons (Cl.agg hw) .nil) (.i _ _) ?_
   conv=>whnf
   repeat (refine⟨_,⟨rfl,Nat.zero_le _,rfl,Nat.le_of_ble_eq_true rfl⟩,?_⟩;conv=>whnf)
   exact owes_wk (.refl _) (v0_cl 1)
  |true=>
   rw[b5] at h3
   replace h3:SC Tryz.prog 57 [.agg (wcs I V R W)] [] (.val (.i .i64 0)) []:=h3
   have hh:=c_value2 I V R W hI hV t (okT_of (fits2_len b1'.2) b4 b2)
   refine SC.of_gwp noM mixed Tryz.func38 rfl (Nat.le_of_ble_eq_true rfl) (by first|exact Nat.le_refl _|simp) rfl ?_
   conv=>whnf
   refine GIf.mk (fun h=>?_) (fun h=>?_)<;>conv=>whnf
   ·exfalso;have:=of_decide_eq_true h;omega
   refine callP h0 (Wks.refl _) rfl (fun _=>rfl) (fun _=>rfl) ?_
   conv=>whnf
   repeat (refine⟨_,⟨rfl,Nat.zero_le _,rfl,Nat.le_of_ble_eq_true rfl⟩,?_⟩;conv=>whnf)
   refine callP h1 (Wks.refl _) rfl (ClL.cons (Cl.agg hw) .nil) (.i _ _) ?_
   conv=>whnf
   refine callP h2 (Wks.refl _) rfl (ClL.cons t.cl (ClL.cons (Cl.sl (itms_cl I)) (ClL.cons (Cl.sl (itms_cl V)) .nil))) (fun _=>rfl) ?_
   conv=>whnf
   refine callP h3 (Wks.refl _) rfl (ClL.cons (Cl.agg hw) .nil) (.i _ _) ?_
   conv=>whnf
   refine callP hh (Wks.refl _) rfl (ClL.cons (Cl.agg hw) (ClL.cons t.cl .nil)) (fun _=>rfl) ?_
   conv=>whnf
   repeat (refine⟨_,⟨rfl,Nat.zero_le _,rfl,Nat.le_of_ble_eq_true rfl⟩,?_⟩;conv=>whnf)
   exact owes_wk (.refl _) (fun _=>rfl)
end Go.Proofs.YtlhabmglchgdnaaGreatDoor
