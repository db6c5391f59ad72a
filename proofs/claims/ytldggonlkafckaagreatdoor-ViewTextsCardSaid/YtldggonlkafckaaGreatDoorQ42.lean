/-
  A part of the proof of ViewTexts.
-/
import Derived.Test.YtldggonlkafckaaGreatDoorQ35
import Derived.Test.YtldggonlkafckaaGreatDoorQ37
import Derived.Test.YtldggonlkafckaaGreatDoorQ41
set_option linter.all false
namespace Go.Proofs.YtldggonlkafckaaGreatDoor
open Go.RowKit
set_option linter.unusedVariables false
theorem cut_d {c d:UInt8} {t:By} (a b:By) (hd:d∉a) (hcd:c≠d):Lib.cut (a++(c::d::t)++b) (c::d::t)=(a,b,true):=by
 have hi:Lib.index (a++(c::d::t)++b) (c::d::t)=(a.length:Nat):=index_at a b fun j hj=>by
  cases e:Lib.occAt (a++(c::d::t)++b) (c::d::t) j with
  |false=>rfl
  |true=>
   obtain⟨x,y,h1,h2⟩:=(occ_iff (by simp;omega)).1 e
   have h3:(a++(c::d::t)++b)[j+1]?=some d:=by
    rw[h1,List.append_assoc,List.getElem?_append_right (by omega),show j+1 - x.length=1 by omega];rfl
   rw[List.append_assoc] at h3
   rcases Nat.lt_or_ge (j+1) a.length with h4|h4
   ·rw[List.getElem?_append_left h4] at h3
    exact absurd (List.mem_of_getElem? h3) hd
   ·rw[List.getElem?_append_right h4,show j+1 - a.length=0 by omega] at h3
    exact absurd (Option.some.inj h3) hcd
 unfold Lib.cut
 rw[hi,if_pos (cN _),Int.toNat_natCast,List.append_assoc,List.take_left,<-List.append_assoc,show a.length+(c::d::t).length=(a++(c::d::t)).length by simp,List.drop_left]
theorem pieces_of_join {c:UInt8} {t:By}:∀(L:List By),L≠[]->(∀x∈L,c∉x)->pieces (c::t) (Lib.join L (c::t))=L
 |[],h,_=>absurd rfl h
 |[x],_,h=>by rw[join_one];exact pieces_no (h x (by simp))
 |x::y::l,_,h=>by
  rw[join_cons2,pieces_c x _ (h x (by simp)),pieces_of_join (y::l) (List.cons_ne_nil _ _) (fun z hz=>h z (List.mem_cons_of_mem _ hz))]
theorem mem_join {c:UInt8}:∀(L:List By) (sep:By),c∈Lib.join L sep->c∈sep∨∃x∈L,c∈x
 |[],sep,h=>by unfold Lib.join at h;simp[List.intercalate] at h
 |[x],sep,h=>by rw[join_one] at h;exact .inr ⟨x,by simp,h⟩
 |x::y::l,sep,h=>by
  rw[join_cons2] at h
  rcases List.mem_append.1 h with h|h
  ·rcases List.mem_append.1 h with h|h
   ·exact .inr ⟨x,by simp,h⟩
   ·exact .inl h
  ·rcases mem_join (y::l) sep h with h|⟨z,hz,h⟩
   ·exact .inl h
   ·exact .inr ⟨z,List.mem_cons_of_mem _ hz,h⟩
theorem formP_iff {p:By×By} (h:formP p=true):isName p.1=true/\isName p.2=true:=by simpa[formP] using h
theorem pairT_no {p:By×By} (h:formP p=true) {c:UInt8} (hc:isInner c=false) (ho:c∉ofW):c∉pairT p:=by
 obtain⟨h1,h2⟩:=formP_iff h
 unfold pairT
 simp[letters_no (name_letters h1) hc,letters_no (name_letters h2) hc,ho]
theorem pairP_T {p:By×By} (h:formP p=true):pairP (pairT p)=(p,true):=by
 obtain⟨h1,h2⟩:=formP_iff h
 exact pairP_of (name_letters h1) (name_letters h2)
theorem formR_iff {r:VwR} (h:formR r=true):isName r.name=true/\isName r.of=true/\r.items≠[]/\(∀p∈r.items,formP p=true)/\(r.only=[]∨showS r.only=(r.only,0)):=by
 unfold formR canon at h
 simp only[Bool.and_eq_true,Bool.or_eq_true,List.all_eq_true,decide_eq_true_eq] at h
 exact⟨h.1.1.1.1,h.1.1.1.2,(by have:=h.1.1.2;intro e;rw[e] at this;cases this),h.1.2,h.2.imp (by simp) id⟩
theorem items_no {l:List (By×By)} (h:∀p∈l,formP p=true) {c:UInt8} (hc:isInner c=false) (ho:c∉ofW):∀x∈l.map pairT,c∉x:=fun x hx=>by
 obtain⟨p,hp,rfl⟩:=List.mem_map.1 hx
 exact pairT_no (h p hp) hc ho
theorem line_rec {r:VwR} (h:formR r=true):lineP (recL r)=some (.inl r):=by
 obtain⟨h1,h2,h3,h4,h5⟩:=formR_iff h
 have e1:recL r=recW++[32]++(r.name++ofW++r.of++opW++(Lib.join (r.items.map pairT) semi++clW++onlyT r)):=by
  unfold recL headT;simp only[List.append_assoc]
 have c1:=cut_c (c:=32) (t:=[]) recW (r.name++ofW++r.of++opW++(Lib.join (r.items.map pairT) semi++clW++onlyT r)) (by decide)
 have hh:(123:UInt8)∉r.name++ofW++r.of:=pairT_no (p:=(r.name,r.of)) (by unfold formP;rw[h1,h2];rfl) rfl (by decide)
 have c2:=cut_d (c:=32) (d:=123) (t:=[32]) (r.name++ofW++r.of) (Lib.join (r.items.map pairT) semi++clW++onlyT r) hh (by decide)
 have hj:(125:UInt8)∉Lib.join (r.items.map pairT) semi:=fun hm=>by
  rcases mem_join _ _ hm with q|⟨x,hx,q⟩
  ·revert q;decide
  ·exact items_no h4 rfl (by decide) x hx q
 have c3:=cut_d (c:=32) (d:=125) (t:=[]) (Lib.join (r.items.map pairT) semi) (onlyT r) hj (by decide)
 have hp:=pieces_of_join (c:=59) (t:=[32]) (r.items.map pairT) (by simpa using h3) (items_no h4 rfl (by decide))
 unfold lineP
 rw[e1,show Lib.cut (recW++[32]++(r.name++ofW++r.of++opW++(Lib.join (r.items.map pairT) semi++clW++onlyT r))) [32]=_ from c1]
 simp only[if_true]
 have hr:recP (r.name++ofW++r.of++opW++(Lib.join (r.items.map pairT) semi++clW++onlyT r))=(r,true):=by
  unfold recP
  rw[show Lib.cut (r.name++ofW++r.of++opW++(Lib.join (r.items.map pairT) semi++clW++onlyT r)) opW=_ from c2]
  simp only
  rw[show Lib.cut (Lib.join (r.items.map pairT) semi++clW++onlyT r) clW=_ from c3]
  simp only
  rw[show pieces semi (Lib.join (r.items.map pairT) semi)=_ from hp,pairP_of (name_letters h1) (name_letters h2)]
  have hm:((r.items.map pairT).map fun p=>(pairP p).1)=r.items:=by
   rw[List.map_map]
   exact(List.map_congr_left fun p hp=>congrArg Prod.fst (pairP_T (h4 p hp))).trans (List.map_id _)
  have ha:((r.items.map pairT).all fun p=>(pairP p).2)=true:=by
   rw[List.all_map,List.all_eq_true]
   exact fun p hp=>congrArg Prod.snd (pairP_T (h4 p hp))
  rw[hm,ha]
  obtain⟨nm,of,its,on⟩:=r
  unfold onlyT onlyP
  cases on with
  |nil=>rfl
  |cons a l=>simp[onlyW]
 rw[hr];rfl
theorem line_set {p:By×By} (h:formP p=true):lineP (setL p)=some (.inr p):=by
 have c1:=cut_c (c:=32) (t:=[]) setW (pairT p) (by decide)
 unfold lineP
 rw[show Lib.cut (setL p) [32]=_ from c1]
 simp only
 rw[if_neg (by decide),pairP_T h];rfl
theorem nl_rec {r:VwR} (h:formR r=true):(10:UInt8)∉recL r:=by
 obtain⟨h1,h2,h3,h4,h5⟩:=formR_iff h
 have hj:(10:UInt8)∉Lib.join (r.items.map pairT) semi:=fun hm=>by
  rcases mem_join _ _ hm with q|⟨x,hx,q⟩
  ·revert q;decide
  ·exact items_no h4 rfl (by decide) x hx q
 have ho:(10:UInt8)∉onlyT r:=by
  unfold onlyT
  split
  ·simp
  ·rename_i h6
   rcases h5 with h5|h5
   ·exact absurd h5 h6
   ·have:=nl_show (s:=r.only) (by rw[h5])
    rw[h5] at this
    have h7:(10:UInt8)∉onlyW:=by decide
    simp[this,h7]
 have q1:(10:UInt8)∉recW:=by decide
 have q2:(10:UInt8)∉ofW:=by decide
 have q3:(10:UInt8)∉opW:=by decide
 have q4:(10:UInt8)∉clW:=by decide
 unfold recL headT
 simp[nl_name h1,nl_name h2,hj,ho,q1,q2,q3,q4]
theorem nl_set {p:By×By} (h:formP p=true):(10:UInt8)∉setL p:=by
 have q1:(10:UInt8)∉setW:=by decide
 have q2:=pairT_no h (c:=10) rfl (by decide)
 unfold setL
 simp[q1,q2]
theorem pieces_lns:∀(L:List By),(∀x∈L,(10:UInt8)∉x)->pieces [10] (lns L)=L++[[]]
 |[],_=>by decide
 |x::l,h=>by
  rw[show lns (x::l)=x++[10]++lns l from rfl,pieces_c x _ (h x (by simp)),pieces_lns l (fun y hy=>h y (List.mem_cons_of_mem _ hy))]
  rfl
theorem goL_recs:∀(l:List VwR) (rest:List By) (v:Vw) (n:Nat),(∀r∈l,formR r=true)->goL (l.map recL++rest) v n=goL rest ⟨v.recs++l,v.sets⟩ (n+l.length)
 |[],rest,v,n,_=>by simp
 |r::l,rest,v,n,h=>by
  show goL (recL r::(l.map recL++rest)) v n=_
  rw[goL,line_rec (h r (by simp))]
  show goL (l.map recL++rest) ⟨v.recs++[r],v.sets⟩ (n+1)=_
  rw[goL_recs l rest _ _ (fun x hx=>h x (List.mem_cons_of_mem _ hx))]
  simp only[List.append_assoc,List.length_cons,List.singleton_append]
  rw[show n+1+l.length=n+(l.length+1) by omega]
theorem goL_sets:∀(l:List (By×By)) (v:Vw) (n:Nat),(∀p∈l,formP p=true)->goL (l.map setL) v n=.inr ⟨v.recs,v.sets++l⟩
 |[],v,n,_=>by simp[goL]
 |p::l,v,n,h=>by
  show goL (setL p::l.map setL) v n=_
  rw[goL,line_set (h p (by simp))]
  show goL (l.map setL) ⟨v.recs,v.sets++[p]⟩ (n+1)=_
  rw[goL_sets l _ _ (fun x hx=>h x (List.mem_cons_of_mem _ hx))]
  simp
theorem formV_iff {v:Vw} (h:formV v=true):(∀r∈v.recs,formR r=true)/\(∀p∈v.sets,formP p=true)/\v.recs≠[]:=by
 unfold formV at h
 simp only[Bool.and_eq_true,List.all_eq_true] at h
 exact⟨h.1,h.2.2,(by have:=h.2.1;intro e;rw[e] at this;cases this)⟩
theorem parse_fmt {v:Vw} (h:formV v=true) (hl:(viewT v).length<=20000):parseV (viewT v)=(v,0,0):=by
 obtain⟨h1,h2,h3⟩:=formV_iff h
 have hp:pieces [10] (viewT v)=(v.recs.map recL++v.sets.map setL)++[[]]:=pieces_lns _ fun x hx=>by
  rcases List.mem_append.1 hx with q|q
  ·obtain⟨r,hr,rfl⟩:=List.mem_map.1 q;exact nl_rec (h1 r hr)
  ·obtain⟨p,hp,rfl⟩:=List.mem_map.1 q;exact nl_set (h2 p hp)
 have hne:viewT v≠[]:=by
  obtain⟨rs,ss⟩:=v
  cases rs with
  |nil=>exact absurd rfl h3
  |cons r l=>unfold viewT lns recL headT recW;simp
 unfold parseV
 rw[if_neg (by omega),if_neg hne,hp,List.dropLast_concat,goL_recs _ _ _ _ h1,goL_sets _ _ _ h2]
 have hg:((v.recs.map recL++v.sets.map setL)++[([]:By)]).getLastD []=[]:=by rw[List.getLastD_eq_getLast?,List.getLast?_append];rfl
 have hf:fmtV v=viewT v:=if_pos h
 have hv:(⟨nilV.recs++v.recs,nilV.sets++v.sets⟩:Vw)=v:=rfl
 rw[hv]
 exact if_neg (fun q=>q.elim (fun q=>q hg) (fun q=>q hf))
def psz (p:By×By):Nat:=p.1.length+p.2.length
def rsz (r:VwR):Nat:=r.name.length+r.of.length+r.only.length+(r.items.map psz).sum
def vsz (v:Vw):Nat:=(v.recs.map rsz).sum+(v.sets.map psz).sum
def lightV (v:Vw):Bool:=decide (v.recs.length<=20)&&decide (v.sets.length<=70)&&(v.recs.all fun r=>decide (r.items.length<=20))&&decide (vsz v<=5000)
theorem joinS_le:∀(L:List By) (sep:By),(Lib.join L sep).length<=(L.map List.length).sum+L.length*sep.length
 |[],sep=>by unfold Lib.join;simp[List.intercalate]
 |[x],sep=>by rw[join_one];simp
 |x::y::l,sep=>by
  have:=joinS_le (y::l) sep
  rw[join_cons2]
  simp only[List.length_append,List.map_cons,List.sum_cons,List.length_cons,Nat.add_mul,Nat.one_mul] at this⊢
  omega
theorem psum:∀(l:List (By×By)),((l.map pairT).map List.length).sum=(l.map psz).sum+4*l.length
 |[]=>rfl
 |p::l=>by
  have:=psum l
  simp only[List.map_cons,List.sum_cons,List.length_cons] at this⊢
  have h2:(pairT p).length=psz p+4:=by unfold pairT psz ofW;simp;omega
  omega
theorem rec_le (r:VwR) (h:r.items.length<=20):(recL r).length<=rsz r+150:=by
 have h1:=joinS_le (r.items.map pairT) semi
 rw[psum,List.length_map] at h1
 have h2:(onlyT r).length<=r.only.length+6:=by unfold onlyT onlyW;split<;>simp
 unfold recL headT rsz
 simp only[List.length_append,recW,ofW,opW,clW,List.length_cons,List.length_nil] at h1⊢
 simp only[semi,List.length_cons,List.length_nil] at h1⊢
 omega
theorem recs_le:∀(l:List VwR),(∀r∈l,r.items.length<=20)->(lns (l.map recL)).length<=(l.map rsz).sum+151*l.length
 |[],_=>by simp[lns]
 |r::l,h=>by
  have h1:=recs_le l (fun x hx=>h x (List.mem_cons_of_mem _ hx))
  have h2:=rec_le r (h r (by simp))
  rw[List.map_cons,show lns (recL r::l.map recL)=recL r++[10]++lns (l.map recL) from rfl]
  simp only[List.length_append,List.map_cons,List.sum_cons,List.length_cons,List.length_nil]
  omega
theorem sets_le:∀(l:List (By×By)),(lns (l.map setL)).length<=(l.map psz).sum+9*l.length
 |[]=>by simp[lns]
 |p::l=>by
  have h1:=sets_le l
  have h2:(setL p).length=psz p+8:=by unfold setL pairT psz setW ofW;simp;omega
  rw[List.map_cons,show lns (setL p::l.map setL)=setL p++[10]++lns (l.map setL) from rfl]
  simp only[List.length_append,List.map_cons,List.sum_cons,List.length_cons,List.length_nil]
  omega
theorem lns_app (a b:List By):lns (a++b)=lns a++lns b:=by unfold lns;exact List.flatMap_append ..
theorem light_iff {v:Vw}:lightV v=true↔v.recs.length<=20/\v.sets.length<=70/\(∀r∈v.recs,r.items.length<=20)/\vsz v<=5000:=by
 unfold lightV
 simp only[Bool.and_eq_true,decide_eq_true_eq,List.all_eq_true]
 exact⟨fun h=>⟨h.1.1.1,h.1.1.2,h.1.2,h.2⟩,fun h=>⟨⟨⟨h.1,h.2.1⟩,h.2.2.1⟩,h.2.2.2⟩⟩
theorem view_le {v:Vw} (h:lightV v=true):(viewT v).length<=10000:=by
 obtain⟨h1,h2,h3,h4⟩:=light_iff.1 h
 have q1:=recs_le v.recs h3
 have q2:=sets_le v.sets
 unfold viewT
 rw[lns_app,List.length_append]
 unfold vsz at h4
 omega
set_option maxRecDepth 100000
theorem r_Canonical [MaxL] (s:By) (hs:s.length<1000000):SC Tryz.prog 74 [.s s] [] (.val (.b (canon s))) []:=by
 have h:=r_Show s hs
 rw[showR_eq] at h
 have hc:canon s=(decide ((showS s).2=0)&&decide ((showS s).1=s)):=by
  unfold canon
  rw[Bool.eq_iff_iff]
  simp[Prod.ext_iff,and_comm]
 rw[hc]
 generalize showS s=q at h
 obtain⟨x,e⟩:=q
 refine gwS Tryz.func74 rfl ?_
 conv=>whnf
 refine callP h (wR _) rfl (fun _=>rfl) (fun _=>rfl) ?_
 conv=>whnf
 refine GIf.mk (fun h1=>?_) (fun h1=>?_)<;>conv=>whnf
 ·refine owes_b ?_
  have h2:e=0:=by simpa using h1
  rw[Bool.eq_iff_iff]
  simp[h2]
 ·refine owes_b ?_
  have h2:¬e=0:=by simpa using h1
  simp[h2]
def recsG (l:List VwR):List GV:=l.map recG
def viewC (v:Vw):List GV:=[.sl .none (recsG v.recs),.sl .none (itG v.sets)]
def viewG (v:Vw):GV:=.agg (viewC v)
theorem recsG_cl [MaxL] (l:List VwR):ClL (recsG l):=ClL.mapOf recG_cl l
theorem recsG_len (l:List VwR):(recsG l).length=l.length:=by simp[recsG]
theorem recsG_ok (l:List VwR):(recsG l).all (fun x=>x.cells.length==4)=true:=by
 rw[List.all_eq_true];intro x hx
 obtain⟨p,_,rfl⟩:=List.mem_map.1 hx
 rfl
theorem viewC_cl [MaxL] (v:Vw):ClL (viewC v):=.cons (Cl.sl (recsG_cl _)) (.cons (Cl.sl (itG_cl _)) .nil)
theorem viewG_cl [MaxL] (v:Vw):Cl (viewG v):=Cl.agg (viewC_cl v)
theorem recsG_at {l:List VwR} {i:Nat} {x:VwR} (h:l[i]?=some x):(recsG l)[((i:Nat):Int).toNat]?=some (recG x):=by
 rw[Int.toNat_natCast];unfold recsG;rw[List.getElem?_map,h];rfl
theorem itG_at {l:List (By×By)} {i:Nat} {x:By×By} (h:l[i]?=some x):(itG l)[((i:Nat):Int).toNat]?=some (pairG x):=by
 rw[Int.toNat_natCast];unfold itG;rw[List.getElem?_map,h];rfl
theorem take_all {α:Type} {p:α->Bool} {l:List α} {i:Nat} {x:α} (h:l[i]?=some x) (ha:∀y∈l.take i,p y=true) (hx:p x=true):∀y∈l.take (i+1),p y=true:=fun y hy=>by
 rw[List.take_add_one,h] at hy
 rcases List.mem_append.1 hy with q|q
 ·exact ha y q
 ·rw[List.mem_singleton.1 (show y∈[x] from q)];exact hx
theorem formV_bad1 {v:Vw} {r:VwR} (h:r∈v.recs) (hf:formR r=false):formV v=false:=by
 unfold formV
 rw[List.all_eq_false.2 ⟨r,h,by rw[hf];simp⟩];rfl
theorem formV_bad2 {v:Vw} {p:By×By} (h:p∈v.sets) (hf:formP p=false):formV v=false:=by
 unfold formV
 rw[List.all_eq_false.2 ⟨p,h,by rw[hf];simp⟩,Bool.and_false,Bool.and_false]
def formR1 (r:VwR):Bool:=isName r.name&&isName r.of&&!r.items.isEmpty&&(r.only.isEmpty||canon r.only)
theorem formR_1 (r:VwR):formR r=(formR1 r&&r.items.all formP):=by
 unfold formR formR1
 cases isName r.name<;>cases isName r.of<;>cases r.items.isEmpty<;>cases r.items.all formP<;>simp
theorem viewBox_ren [MaxL] (v:Vw) (e:Nat->Nat):(GObj.box 25 (viewC v)).ren e=.box 25 (viewC v):=GObj.box_cl (viewC_cl v) e
theorem recBox_ren [MaxL] (r:VwR) (e:Nat->Nat):(GObj.box 68 (recC r)).ren e=.box 68 (recC r):=GObj.box_cl (recC_cl r) e
set_option maxHeartbeats 2000000 in
theorem r_formed [MaxL] (v:Vw) (h1:v.recs.length<=100000) (h2:v.sets.length<=100000) (h3:∀r∈v.recs,r.items.length<=100000/\r.only.length<1000000):SC Tryz.prog 34 [viewG v] [] (.val (.b (formV v))) []:=by
 have l1:=recsG_len v.recs
 have l2:=itG_len v.sets
 refine gwS Tryz.func34 rfl ?_
 conv=>whnf
 refine GLoop.introS (fun i:Nat=>i<=v.recs.length/\∀r∈v.recs.take i,formR r=true) (fun i=>[(1,.ptr 0 0),(3,.i .i64 (i:Nat))]) (fun _=>⟨[.box 25 (viewC v)],0,[]⟩) (fun i=>v.recs.length - i) 0 ⟨zL _,fun r hr=>by cases hr⟩ ⟨rfl,rfl,trivial⟩ rfl (fun _ _=>rL _) (fun _ _=>rfl) (fun i _ e he=>?_) (fun i φ0 hi=>?_)
 ·refine⟨by show[GObj.ren e _]=_;rw[viewBox_ren],rfl,?_⟩
  show[GV.ptr (e 0) 0,_]=_
  rw[he 0 (by simp)];rfl
 obtain⟨hi,hall⟩:=hi
 conv=>whnf
 refine GIf.mk (fun h=>?_) (fun h=>?_)<;>conv=>whnf
 rotate_left
 ·have hie:i=v.recs.length:=by have h9:¬((i:Nat):Int)<((recsG v.recs).length:Nat):=of_decide_eq_false h;omega
  rw[hie,List.take_length] at hall
  refine GLoop.introS (fun i:Nat=>i<=v.sets.length/\∀r∈v.sets.take i,formP r=true) (fun i=>[(1,.ptr 0 0),(6,.i .i64 (i:Nat))]) (fun _=>⟨[.box 25 (viewC v)],0,[]⟩) (fun i=>v.sets.length - i) 0 ⟨zL _,fun r hr=>by cases hr⟩ ⟨rfl,rfl,trivial⟩ rfl (fun _ _=>rL _) (fun _ _=>rfl) (fun i _ e he=>?_) (fun i φ0 hi=>?_)
  ·refine⟨by show[GObj.ren e _]=_;rw[viewBox_ren],rfl,?_⟩
   show[GV.ptr (e 0) 0,_]=_
   rw[he 0 (by simp)];rfl
  obtain⟨hi,hset⟩:=hi
  conv=>whnf
  refine GIf.mk (fun h=>?_) (fun h=>?_)<;>conv=>whnf
  rotate_left
  ·have hie:i=v.sets.length:=by have h9:¬((i:Nat):Int)<((itG v.sets).length:Nat):=of_decide_eq_false h;omega
   rw[hie,List.take_length] at hset
   refine owes_b ?_
   unfold formV
   rw[List.all_eq_true.2 hall,List.all_eq_true.2 hset,recsG_len]
   cases v.recs<;>simp
  have hlt:i<v.sets.length:=by have h9:((i:Nat):Int)<((itG v.sets).length:Nat):=of_decide_eq_true h;omega
  obtain⟨p,hp⟩:∃p,v.sets[i]?=some p:=⟨v.sets[i],gL hlt⟩
  have hg:=itG_at hp
  have r1:=r_Name p.1
  have r2:=r_Name p.2
  have bad:=formV_bad2 (v:=v) (List.mem_of_getElem? hp)
  have nxt:=take_all hp hset
  unfold formP at bad nxt
  refine⟨cN _,_,hg,rfl,?_⟩
  conv=>whnf
  refine(Bool.eq_false_or_eq_true (isName p.1)).elim (fun b1=>?_) (fun b1=>?_)
  rotate_left
  ·rw[b1] at r1 bad
   refine callP r1 (wR _) rfl (fun _=>rfl) (.b _) ?_
   conv=>whnf
   exact owes_b (bad rfl).symm
  rw[b1] at r1 bad nxt
  refine callP r1 (wR _) rfl (fun _=>rfl) (.b _) ?_
  conv=>whnf
  refine⟨cN _,_,hg,rfl,?_⟩
  conv=>whnf
  refine(Bool.eq_false_or_eq_true (isName p.2)).elim (fun b2=>?_) (fun b2=>?_)
  rotate_left
  ·rw[b2] at r2 bad
   refine callP r2 (wR _) rfl (fun _=>rfl) (.b _) ?_
   conv=>whnf
   exact owes_b (bad rfl).symm
  rw[b2] at r2 nxt
  refine callP r2 (wR _) rfl (fun _=>rfl) (.b _) ?_
  conv=>whnf
  exact⟨v.sets.length - (i+1),(by omega),i+1,⟨hlt,nxt rfl⟩,rfl,⟨rfl,wrap_succ (by omega),trivial⟩,[],rfl,rfl⟩
 have hlt:i<v.recs.length:=by have h9:((i:Nat):Int)<((recsG v.recs).length:Nat):=of_decide_eq_true h;omega
 obtain⟨r,hr⟩:∃r,v.recs[i]?=some r:=⟨v.recs[i],gL hlt⟩
 have hg:=recsG_at hr
 have hm:=List.mem_of_getElem? hr
 obtain⟨h4,h5⟩:=h3 r hm
 have bad:=formV_bad1 (v:=v) hm
 have nxt:=take_all hr hall
 have r1:=r_Name r.name
 have r2:=r_Name r.of
 have r3:=r_Canonical r.only h5
 have l3:=itG_len r.items
 refine⟨cN _,_,hg,rfl,?_⟩
 conv=>whnf
 refine⟨_,⟨rfl,zL _,rfl,bL rfl⟩,?_⟩
 conv=>whnf
 rw[formR_1] at bad nxt
 unfold formR1 at bad nxt
 refine(Bool.eq_false_or_eq_true (isName r.name)).elim (fun b1=>?_) (fun b1=>?_)
 rotate_left
 ·rw[b1] at r1 bad
  refine callP r1 (wR _) rfl (fun _=>rfl) (.b _) ?_
  conv=>whnf
  exact owes_b (bad rfl).symm
 rw[b1] at r1 bad nxt
 refine callP r1 (wR _) rfl (fun _=>rfl) (.b _) ?_
 conv=>whnf
 refine(Bool.eq_false_or_eq_true (isName r.of)).elim (fun b2=>?_) (fun b2=>?_)
 rotate_left
 ·rw[b2] at r2 bad
  refine callP r2 (wR _) rfl (fun _=>rfl) (.b _) ?_
  conv=>whnf
  exact owes_b (bad rfl).symm
 rw[b2] at r2 bad nxt
 refine callP r2 (wR _) rfl (fun _=>rfl) (.b _) ?_
 conv=>whnf
 refine GIf.mk (fun h6=>?_) (fun h6=>?_)<;>conv=>whnf
 ·refine owes_b (bad ?_).symm
  have:r.items=[]:=by
   have h9:((itG r.items).length:Int)=0:=by simpa using h6
   exact List.length_eq_zero_iff.1 (by omega)
  rw[this];rfl
 have hne:r.items.isEmpty=false:=by
  have h9:¬((itG r.items).length:Int)=0:=by simpa using h6
  cases hri:r.items with
  |nil=>rw[hri] at h9;exact absurd rfl h9
  |cons a l=>rfl
 rw[hne] at bad nxt
 have hon:(r.only.isEmpty||canon r.only)=true->(v.recs.length - (i+1)<v.recs.length - i)/\(r.items.all formP=true->i+1<=v.recs.length/\∀y∈v.recs.take (i+1),formR y=true)/\(r.items.all formP=false->formV v=false):=fun q=>⟨by omega,fun w=>⟨hlt,nxt (by rw[q,w];rfl)⟩,fun w=>bad (by rw[q,w];rfl)⟩
 refine GIf.mk (fun h7=>?_) (fun h7=>?_)<;>conv=>whnf
 rotate_left
 ·have he:r.only.isEmpty=true:=by
   have h9:r.only=[]:=by simpa using h7
   rw[h9];rfl
  obtain⟨hm1,hgood,hbad⟩:=hon (by rw[he];rfl)
  clear bad nxt hon r1 r2 r3 h7 h6
  refine GLoop.introS (fun k:Nat=>k<=r.items.length/\∀p∈r.items.take k,formP p=true) (fun k=>[(1,.ptr 0 0),(3,.i .i64 (i:Nat)),(4,.ptr 1 0),(5,.i .i64 (k:Nat))]) (fun _=>⟨[.box 25 (viewC v),.box 68 (recC r)],0,[]⟩) (fun k=>r.items.length - k) 0 ⟨zL _,fun r hr=>by cases hr⟩ ⟨rfl,rfl,rfl,rfl,trivial⟩ rfl (fun _ _=>rL _) (fun _ _=>rfl) (fun k _ e he=>?_) (fun k φ1 hk=>?_)
  ·refine⟨by show[GObj.ren e _,GObj.ren e _]=_;rw[viewBox_ren,recBox_ren],rfl,?_⟩
   show[GV.ptr (e 0) 0,_,GV.ptr (e 1) 0,_]=_
   rw[he 0 (by simp),he 1 (by simp)];rfl
  obtain⟨hk,hits⟩:=hk
  conv=>whnf
  refine GIf.mk (fun h=>?_) (fun h=>?_)<;>conv=>whnf
  rotate_left
  ·have hke:k=r.items.length:=by have h9:¬((k:Nat):Int)<((itG r.items).length:Nat):=of_decide_eq_false h;omega
   rw[hke,List.take_length] at hits
   exact⟨v.recs.length - (i+1),hm1,i+1,hgood (List.all_eq_true.2 hits),rfl,⟨rfl,wrap_succ (by omega),trivial⟩,[_],rfl,rfl⟩
  have hkl:k<r.items.length:=by have h9:((k:Nat):Int)<((itG r.items).length:Nat):=of_decide_eq_true h;omega
  have hex:∃p,r.items[k]?=some p:=⟨r.items[k],gL hkl⟩
  refine hex.elim (fun p hp=>?_)
  have hgp:=itG_at hp
  have q1:=r_Name p.1
  have q2:=r_Name p.2
  have bad2:formP p=false->formV v=false:=fun w=>hbad (List.all_eq_false.2 ⟨p,List.mem_of_getElem? hp,by rw[w];simp⟩)
  have nxt2:=take_all hp hits
  unfold formP at bad2 nxt2
  refine⟨cN _,_,hgp,rfl,?_⟩
  conv=>whnf
  refine(Bool.eq_false_or_eq_true (isName p.1)).elim (fun b1=>?_) (fun b1=>?_)
  rotate_left
  ·rw[b1] at q1 bad2
   refine callP q1 (wR _) rfl (fun _=>rfl) (.b _) ?_
   conv=>whnf
   exact owes_b (bad2 rfl).symm
  rw[b1] at q1 bad2 nxt2
  refine callP q1 (wR _) rfl (fun _=>rfl) (.b _) ?_
  conv=>whnf
  refine⟨cN _,_,hgp,rfl,?_⟩
  conv=>whnf
  refine(Bool.eq_false_or_eq_true (isName p.2)).elim (fun b2=>?_) (fun b2=>?_)
  rotate_left
  ·rw[b2] at q2 bad2
   refine callP q2 (wR _) rfl (fun _=>rfl) (.b _) ?_
   conv=>whnf
   exact owes_b (bad2 rfl).symm
  rw[b2] at q2 nxt2
  refine callP q2 (wR _) rfl (fun _=>rfl) (.b _) ?_
  conv=>whnf
  exact⟨r.items.length - (k+1),(by omega),k+1,⟨hkl,nxt2 rfl⟩,rfl,⟨rfl,rfl,rfl,wrap_succ (by omega),trivial⟩,[],rfl,rfl⟩
 ·have he:r.only.isEmpty=false:=by
   have h9:r.only≠[]:=by simpa using h7
   cases ho:r.only with
   |nil=>exact absurd ho h9
   |cons a l=>rfl
  rw[he] at bad
  refine(Bool.eq_false_or_eq_true (canon r.only)).elim (fun b3=>?_) (fun b3=>?_)
  rotate_left
  ·rw[b3] at r3 bad
   refine callP r3 (wR _) rfl (fun _=>rfl) (.b _) ?_
   conv=>whnf
   exact owes_b (bad rfl).symm
  rw[b3] at r3
  obtain⟨hm1,hgood,hbad⟩:=hon (by rw[b3,Bool.or_true])
  clear bad nxt hon r1 r2 h7 h6
  refine callP r3 (wR _) rfl (fun _=>rfl) (.b _) ?_
  conv=>whnf
  refine GLoop.introS (fun k:Nat=>k<=r.items.length/\∀p∈r.items.take k,formP p=true) (fun k=>[(1,.ptr 0 0),(3,.i .i64 (i:Nat)),(4,.ptr 1 0),(5,.i .i64 (k:Nat))]) (fun _=>⟨[.box 25 (viewC v),.box 68 (recC r)],0,[]⟩) (fun k=>r.items.length - k) 0 ⟨zL _,fun r hr=>by cases hr⟩ ⟨rfl,rfl,rfl,rfl,trivial⟩ rfl (fun _ _=>rL _) (fun _ _=>rfl) (fun k _ e he=>?_) (fun k φ1 hk=>?_)
  ·refine⟨by show[GObj.ren e _,GObj.ren e _]=_;rw[viewBox_ren,recBox_ren],rfl,?_⟩
   show[GV.ptr (e 0) 0,_,GV.ptr (e 1) 0,_]=_
   rw[he 0 (by simp),he 1 (by simp)];rfl
  obtain⟨hk,hits⟩:=hk
  conv=>whnf
  refine GIf.mk (fun h=>?_) (fun h=>?_)<;>conv=>whnf
  rotate_left
  ·have hke:k=r.items.length:=by have h9:¬((k:Nat):Int)<((itG r.items).length:Nat):=of_decide_eq_false h;omega
   rw[hke,List.take_length] at hits
   exact⟨v.recs.length - (i+1),hm1,i+1,hgood (List.all_eq_true.2 hits),rfl,⟨rfl,wrap_succ (by omega),trivial⟩,[_],rfl,rfl⟩
  have hkl:k<r.items.length:=by have h9:((k:Nat):Int)<((itG r.items).length:Nat):=of_decide_eq_true h;omega
  have hex:∃p,r.items[k]?=some p:=⟨r.items[k],gL hkl⟩
  refine hex.elim (fun p hp=>?_)
  have hgp:=itG_at hp
  have q1:=r_Name p.1
  have q2:=r_Name p.2
  have bad2:formP p=false->formV v=false:=fun w=>hbad (List.all_eq_false.2 ⟨p,List.mem_of_getElem? hp,by rw[w];simp⟩)
  have nxt2:=take_all hp hits
  unfold formP at bad2 nxt2
  refine⟨cN _,_,hgp,rfl,?_⟩
  conv=>whnf
  refine(Bool.eq_false_or_eq_true (isName p.1)).elim (fun b1=>?_) (fun b1=>?_)
  rotate_left
  ·rw[b1] at q1 bad2
   refine callP q1 (wR _) rfl (fun _=>rfl) (.b _) ?_
   conv=>whnf
   exact owes_b (bad2 rfl).symm
  rw[b1] at q1 bad2 nxt2
  refine callP q1 (wR _) rfl (fun _=>rfl) (.b _) ?_
  conv=>whnf
  refine⟨cN _,_,hgp,rfl,?_⟩
  conv=>whnf
  refine(Bool.eq_false_or_eq_true (isName p.2)).elim (fun b2=>?_) (fun b2=>?_)
  rotate_left
  ·rw[b2] at q2 bad2
   refine callP q2 (wR _) rfl (fun _=>rfl) (.b _) ?_
   conv=>whnf
   exact owes_b (bad2 rfl).symm
  rw[b2] at q2 nxt2
  refine callP q2 (wR _) rfl (fun _=>rfl) (.b _) ?_
  conv=>whnf
  exact⟨r.items.length - (k+1),(by omega),k+1,⟨hkl,nxt2 rfl⟩,rfl,⟨rfl,rfl,rfl,wrap_succ (by omega),trivial⟩,[],rfl,rfl⟩
end Go.Proofs.YtldggonlkafckaaGreatDoor
