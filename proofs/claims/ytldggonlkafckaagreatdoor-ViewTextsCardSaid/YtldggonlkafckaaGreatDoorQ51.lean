/-
  A part of the proof of ViewTexts.
-/
import Derived.Test.YtldggonlkafckaaGreatDoorQ50
import Derived.Test.YtldggonlkafckaaGreatDoorQ49
import Derived.Test.YtldggonlkafckaaGreatDoorQ17
import Derived.LaidMore
import Derived.LaidLaws
import Derived.OpenShut
import Derived.ProofKit
import Derived.Stop.Joined
import Derived.Test.YtldggonlkafckaaGreatDoorRows
set_option linter.all false
namespace Go.Proofs.YtldggonlkafckaaGreatDoor
open Go.RowKit
set_option maxRecDepth 100000
set_option linter.unusedVariables false
theorem wrapN [MaxL] {a b:Nat} (h:a+b<=4000000000000000000):IntKind.i64.wrap (((a:Nat):Int)+((b:Nat):Int))=((a+b:Nat):Int):=by rw[wrap_in (by omega) (by omega)];omega
theorem sum_take_succ {α:Type} {f:α->Nat} {l:List α} {k:Nat} {x:α} (h:l[k]?=some x):((l.take (k+1)).map f).sum=((l.take k).map f).sum+f x:=by
 rw[List.take_add_one,h,List.map_append,List.sum_append]
 simp
def pOk (p:By×By):Prop:=p.1.length<=140737488355328/\p.2.length<=140737488355328
def rOk (r:VwR):Prop:=r.name.length<=140737488355328/\r.of.length<=140737488355328/\r.only.length<=140737488355328/\∀p∈r.items,pOk p
def vOk (v:Vw):Prop:=(∀r∈v.recs,rOk r)/\∀p∈v.sets,pOk p
theorem psum_le:∀(l:List (By×By)),(∀p∈l,pOk p)->(l.map psz).sum<=l.length*281474976710656
 |[],_=>zL _
 |p::l,h=>by
  have h1:=psum_le l (fun q hq=>h q (List.mem_cons_of_mem _ hq))
  obtain⟨h2,h3⟩:=h p (by simp)
  simp only[List.map_cons,List.sum_cons,List.length_cons,psz]
  omega
theorem rsz_le {r:VwR} (h:rOk r) (hl:r.items.length<=20):rsz r<=6051711999279104:=by
 have h1:=psum_le r.items h.2.2.2
 obtain⟨a,b,c,_⟩:=h
 unfold rsz
 omega
set_option maxHeartbeats 4000000 in
theorem l_Light [MaxL] (v:Vw) (hz:vOk v) (h1:v.recs.length<=maxLen) (h2:v.sets.length<=maxLen):SC Tryz.prog 7 [viewG v] [] (.val (.b (lightV v))) []:=by
 have l1:=recsG_len v.recs
 have l2:=itG_len v.sets
 unfold lightV
 refine gwS Tryz.func7 rfl ?_
 conv=>whnf
 refine GIf.mk (fun g1=>?_) (fun g1=>?_)<;>conv=>whnf
 ·refine owes_b ?_
  have h9:((recsG v.recs).length:Int)>20:=of_decide_eq_true g1
  rw[decide_eq_false (by omega:¬v.recs.length<=20)];rfl
 refine GIf.mk (fun g2=>?_) (fun g2=>?_)<;>conv=>whnf
 ·refine owes_b ?_
  have h9:((itG v.sets).length:Int)>70:=of_decide_eq_true g2
  rw[decide_eq_false (by omega:¬v.sets.length<=70),Bool.and_false];rfl
 have e1:v.recs.length<=20:=by have h9:¬((recsG v.recs).length:Int)>20:=of_decide_eq_false g1;omega
 have e2:v.sets.length<=70:=by have h9:¬((itG v.sets).length:Int)>70:=of_decide_eq_false g2;omega
 rw[decide_eq_true e1,decide_eq_true e2]
 clear g1 g2
 refine GLoop.introS (fun q:Nat×Nat=>q.1<=v.recs.length/\q.2=((v.recs.take q.1).map rsz).sum/\(∀r∈v.recs.take q.1,decide (r.items.length<=20)=true)/\q.2<=q.1*6051711999279104) (fun q=>[(1,.ptr 0 0),(3,.i .i64 (q.2:Nat)),(4,.i .i64 (q.1:Nat))]) (fun _=>⟨[.box 25 (viewC v)],0,[]⟩) (fun q=>v.recs.length - q.1) (0,0) ⟨zL _,rfl,(fun r hr=>by cases hr),zL _⟩ ⟨rfl,rfl,rfl,trivial⟩ rfl (fun _ _=>rL _) (fun _ _=>rfl) (fun i _ e he=>?_) (fun q φ0 hi=>?_)
 ·refine⟨by show[GObj.ren e _]=_;rw[viewBox_ren],rfl,?_⟩
  show[GV.ptr (e 0) 0,_,_]=_
  rw[he 0 (by simp)];rfl
 obtain⟨i,n⟩:=q
 obtain⟨hi,hn,hall,hnb⟩:=hi
 replace hi:i<=v.recs.length:=hi
 replace hn:n=((v.recs.take i).map rsz).sum:=hn
 replace hall:∀r∈v.recs.take i,decide (r.items.length<=20)=true:=hall
 replace hnb:n<=i*6051711999279104:=hnb
 conv=>whnf
 refine GIf.mk (fun h=>?_) (fun h=>?_)<;>conv=>whnf
 rotate_left
 ·have hie:i=v.recs.length:=by have h9:¬((i:Nat):Int)<((recsG v.recs).length:Nat):=of_decide_eq_false h;omega
  rw[hie,List.take_length] at hall hn
  rw[List.all_eq_true.2 hall]
  clear h
  refine GLoop.introS (fun q:Nat×Nat=>q.1<=v.sets.length/\q.2=n+((v.sets.take q.1).map psz).sum) (fun q=>[(1,.ptr 0 0),(3,.i .i64 (q.2:Nat)),(7,.i .i64 (q.1:Nat))]) (fun _=>⟨[.box 25 (viewC v)],0,[]⟩) (fun q=>v.sets.length - q.1) (0,n) ⟨zL _,rfl⟩ ⟨rfl,rfl,rfl,trivial⟩ rfl (fun _ _=>rL _) (fun _ _=>rfl) (fun i _ e he=>?_) (fun q φ0 hi=>?_)
  ·refine⟨by show[GObj.ren e _]=_;rw[viewBox_ren],rfl,?_⟩
   show[GV.ptr (e 0) 0,_,_]=_
   rw[he 0 (by simp)];rfl
  obtain⟨k,m⟩:=q
  obtain⟨hk,hm⟩:=hi
  replace hk:k<=v.sets.length:=hk
  replace hm:m=n+((v.sets.take k).map psz).sum:=hm
  conv=>whnf
  refine GIf.mk (fun h=>?_) (fun h=>?_)<;>conv=>whnf
  rotate_left
  ·have hke:k=v.sets.length:=by have h9:¬((k:Nat):Int)<((itG v.sets).length:Nat):=of_decide_eq_false h;omega
   rw[hke,List.take_length,hn] at hm
   refine owes_b ?_
   show decide (((m:Nat):Int)<=5000)=(true&&true&&true&&decide (vsz v<=5000))
   unfold vsz
   rw[<-hm,Bool.eq_iff_iff]
   simp
   omega
  have hlt:k<v.sets.length:=by have h9:((k:Nat):Int)<((itG v.sets).length:Nat):=of_decide_eq_true h;omega
  have hex:∃p,v.sets[k]?=some p:=⟨v.sets[k],gL hlt⟩
  refine hex.elim (fun p hp=>?_)
  have hg:=itG_at hp
  have hs:=sum_take_succ (f:=psz) hp
  have hsl:=psum_le (v.sets.take (k+1)) (fun q hq=>hz.2 q (List.mem_of_mem_take hq))
  rw[List.length_take] at hsl
  have hps:psz p=p.1.length+p.2.length:=rfl
  have w1:GV.i .i64 (IntKind.i64.wrap (IntKind.i64.wrap (((m:Nat):Int)+((p.1.length:Nat):Int))+((p.2.length:Nat):Int)))=.i .i64 ((m+psz p:Nat):Int):=by
   rw[wrapN (by omega),wrapN (by omega),hps,Nat.add_assoc]
  refine GDraw.calm (by kernel_rfl) ?_
  conv=>whnf
  refine⟨cN _,_,hg,rfl,?_⟩
  conv=>whnf
  refine⟨cN _,_,hg,rfl,?_⟩
  conv=>whnf
  exact⟨v.sets.length - (k+1),(by show _<v.sets.length - k;omega),(k+1,m+psz p),⟨hlt,by show m+psz p=_;rw[hs,hm,Nat.add_assoc]⟩,rfl,⟨rfl,w1,wrap_succ (by omega),trivial⟩,[],rfl,rfl⟩
 have hlt:i<v.recs.length:=by have h9:((i:Nat):Int)<((recsG v.recs).length:Nat):=of_decide_eq_true h;omega
 have hex:∃r,v.recs[i]?=some r:=⟨v.recs[i],gL hlt⟩
 refine hex.elim (fun r hr=>?_)
 have hg:=recsG_at hr
 have l3:=itG_len r.items
 have hs:=sum_take_succ (f:=rsz) hr
 have hro:=hz.1 r (List.mem_of_getElem? hr)
 have hrs:rsz r=r.name.length+r.of.length+r.only.length+(r.items.map psz).sum:=rfl
 have bad:¬r.items.length<=20->(v.recs.all fun r=>decide (r.items.length<=20))=false:=fun q=>List.all_eq_false.2 ⟨r,List.mem_of_getElem? hr,by simpa using q⟩
 have nxt:=take_all (p:=fun r:VwR=>decide (r.items.length<=20)) hr hall
 refine⟨cN _,_,hg,rfl,?_⟩
 conv=>whnf
 refine⟨_,⟨rfl,zL _,rfl,bL rfl⟩,?_⟩
 conv=>whnf
 refine GIf.mk (fun g3=>?_) (fun g3=>?_)<;>conv=>whnf
 ·refine owes_b ?_
  have h9:((itG r.items).length:Int)>20:=of_decide_eq_true g3
  rw[bad (by omega)];rfl
 have h20:r.items.length<=20:=by have h9:¬((itG r.items).length:Int)>20:=of_decide_eq_false g3;omega
 have nx:=nxt (decide_eq_true h20)
 have hrl:=rsz_le hro h20
 have w0:GV.i .i64 (IntKind.i64.wrap (IntKind.i64.wrap (IntKind.i64.wrap (((n:Nat):Int)+((r.name.length:Nat):Int))+((r.of.length:Nat):Int))+((r.only.length:Nat):Int)))=.i .i64 ((n+r.name.length+r.of.length+r.only.length:Nat):Int):=by
  rw[wrapN (by omega),wrapN (by omega),wrapN (by omega)]
 clear bad nxt g3 hall
 refine GLoop.introS (fun q:Nat×Nat=>q.1<=r.items.length/\q.2=n+r.name.length+r.of.length+r.only.length+((r.items.take q.1).map psz).sum) (fun q=>[(1,.ptr 0 0),(3,.i .i64 (q.2:Nat)),(4,.i .i64 (i:Nat)),(5,.ptr 1 0),(6,.i .i64 (q.1:Nat))]) (fun _=>⟨[.box 25 (viewC v),.box 68 (recC r)],0,[]⟩) (fun q=>r.items.length - q.1) (0,n+r.name.length+r.of.length+r.only.length) ⟨zL _,rfl⟩ ⟨rfl,w0,rfl,rfl,rfl,trivial⟩ rfl (fun _ _=>rL _) (fun _ _=>rfl) (fun k _ e he=>?_) (fun q φ1 hk=>?_)
 ·refine⟨by show[GObj.ren e _,GObj.ren e _]=_;rw[viewBox_ren,recBox_ren],rfl,?_⟩
  show[GV.ptr (e 0) 0,_,_,GV.ptr (e 1) 0,_]=_
  rw[he 0 (by simp),he 1 (by simp)];rfl
 clear h
 obtain⟨k,m⟩:=q
 obtain⟨hk,hm⟩:=hk
 replace hk:k<=r.items.length:=hk
 replace hm:m=n+r.name.length+r.of.length+r.only.length+((r.items.take k).map psz).sum:=hm
 conv=>whnf
 refine GIf.mk (fun h=>?_) (fun h=>?_)<;>conv=>whnf
 rotate_left
 ·have hke:k=r.items.length:=by have h9:¬((k:Nat):Int)<((itG r.items).length:Nat):=of_decide_eq_false h;omega
  rw[hke,List.take_length] at hm
  exact⟨v.recs.length - (i+1),(by show _<v.recs.length - i;omega),(i+1,m),⟨hlt,by show m=_;rw[hs,<-hn,hm,hrs];omega,nx,by show m<=(i+1)*6051711999279104;omega⟩,rfl,⟨rfl,rfl,wrap_succ (by omega),trivial⟩,[_],rfl,rfl⟩
 have hkl2:k<r.items.length:=by have h9:((k:Nat):Int)<((itG r.items).length:Nat):=of_decide_eq_true h;omega
 have hex2:∃p,r.items[k]?=some p:=⟨r.items[k],gL hkl2⟩
 refine hex2.elim (fun p hp=>?_)
 have hgp:=itG_at hp
 have hs2:=sum_take_succ (f:=psz) hp
 have hsl2:=psum_le (r.items.take (k+1)) (fun q hq=>hro.2.2.2 q (List.mem_of_mem_take hq))
 rw[List.length_take] at hsl2
 have hps:psz p=p.1.length+p.2.length:=rfl
 have w1:GV.i .i64 (IntKind.i64.wrap (IntKind.i64.wrap (((m:Nat):Int)+((p.1.length:Nat):Int))+((p.2.length:Nat):Int)))=.i .i64 ((m+psz p:Nat):Int):=by
  rw[wrapN (by omega),wrapN (by omega),hps,Nat.add_assoc]
 refine GDraw.calm (by kernel_rfl) ?_
 conv=>whnf
 refine⟨cN _,_,hgp,rfl,?_⟩
 conv=>whnf
 refine⟨cN _,_,hgp,rfl,?_⟩
 conv=>whnf
 exact⟨r.items.length - (k+1),(by show _<r.items.length - k;omega),(k+1,m+psz p),⟨hkl2,by show m+psz p=_;rw[hs2,hm,Nat.add_assoc]⟩,rfl,⟨rfl,w1,rfl,rfl,wrap_succ (by omega),trivial⟩,[],rfl,rfl⟩
def wakeVT:By:=[114,101,99,111,114,100,32,119,104,111,32,111,102,32,101,109,112,32,123,32,110,97,109,101,32,111,102,32,110,97,109,101,59,32,112,97,121,32,111,102,32,115,97,108,32,125,32,111,110,108,121,32,115,97,108,32,62,32,48,10]
def wakeVV:Vw:=⟨[⟨[119,104,111],[101,109,112],[([110,97,109,101],[110,97,109,101]),([112,97,121],[115,97,108])],[115,97,108,32,62,32,48]⟩],[]⟩
theorem wakeV_eq:parseV wakeVT=(wakeVV,0,0):=by
 have h:viewT wakeVV=wakeVT:=by decide
 rw[<-h]
 refine parse_fmt ?_ (by rw[h];decide)
 have hs:showS [115,97,108,32,62,32,48]=([115,97,108,32,62,32,48],0):=by
  rw[<-showR_eq];kernel_rfl
 unfold formV formR canon wakeVV
 simp only[List.all_cons,List.all_nil,hs]
 decide
theorem l_awakeV [MaxL]:SC Tryz.prog 8 [] [] (.val (.b true)) []:=by
 have h:=c_ParseV wakeVT (by decide)
 rw[wakeV_eq] at h
 replace h:SC Tryz.prog 13 [.s wakeVT] [] (.val (.tup [viewG wakeVV,.i .i64 0,.i .i64 0])) []:=h
 have hc:=res_cl wakeVV 0 0
 refine gwS Tryz.func8 rfl ?_
 conv=>whnf
 refine callP h (wR _) rfl (fun _=>rfl) hc ?_
 conv=>whnf
 repeat (refine⟨_,⟨rfl,zL _,rfl,bL rfl⟩,?_⟩;conv=>whnf)
 refine⟨by decide,_,rfl,rfl,?_⟩
 conv=>whnf
 refine⟨by decide,_,rfl,rfl,?_⟩
 conv=>whnf
 refine⟨by decide,_,rfl,rfl,?_⟩
 conv=>whnf
 exact owes_b rfl
theorem parse_bound {t:By} (ht:t.length<=10000):(viewT (parseV t).1).length<=100000:=by
 unfold parseV
 rw[if_neg (by omega)]
 split
 ·simp[viewT,nilV,lns]
 ·rename_i h0
  split
  ·simp[viewT,nilV,lns]
  ·rename_i v _
   split
   ·simp[viewT,nilV,lns]
   ·rename_i h
    have hf:fmtV v=t:=Classical.not_not.1 fun q=>h (.inr q)
    unfold fmtV at hf
    split at hf
    ·show(viewT v).length<=_
     rw[hf];omega
    ·exact absurd hf.symm h0
set_option maxHeartbeats 4000000 in
theorem l_ViewTexts [MaxL] (v w:Vw) (t:By) (hv:vOk v) (hv1:v.recs.length<=maxLen) (hv2:v.sets.length<=maxLen) (hw:vOk w) (hw1:w.recs.length<=maxLen) (hw2:w.sets.length<=maxLen):
  SC Tryz.prog 3 [viewG v,viewG w,.s t] [] (.val (.b true)) []:=by
 have haw:=l_awakeV
 have q1:=l_Light v hv hv1 hv2
 have q2:=l_Light w hw hw1 hw2
 have cv:ClL [viewG v]:=cC (viewG_cl v) .nil
 have cw:ClL [viewG w]:=cC (viewG_cl w) .nil
 rcases Bool.eq_false_or_eq_true (lightV v) with lv|lv
 rotate_left
 ·rw[lv] at q1
  refine gwS Tryz.func3 rfl ?_
  conv=>whnf
  refine callP q1 (wR _) rfl cv (.b _) ?_
  conv=>whnf
  refine callP haw (wR _) rfl (fun _=>rfl) (.b _) ?_
  conv=>whnf
  exact owes_b rfl
 rw[lv] at q1
 rcases Bool.eq_false_or_eq_true (lightV w) with lw|lw
 rotate_left
 ·rw[lw] at q2
  refine gwS Tryz.func3 rfl ?_
  conv=>whnf
  refine callP q1 (wR _) rfl cv (.b _) ?_
  conv=>whnf
  refine callP q2 (wR _) rfl cw (.b _) ?_
  conv=>whnf
  refine callP haw (wR _) rfl (fun _=>rfl) (.b _) ?_
  conv=>whnf
  exact owes_b rfl
 rw[lw] at q2
 by_cases ht:3000<t.length
 ·skip
  refine gwS Tryz.func3 rfl ?_
  conv=>whnf
  refine callP q1 (wR _) rfl cv (.b _) ?_
  conv=>whnf
  refine callP q2 (wR _) rfl cw (.b _) ?_
  conv=>whnf
  refine GIf.mk (fun h=>?_) (fun h=>?_)<;>conv=>whnf
  ·refine callP haw (wR _) rfl (fun _=>rfl) (.b _) ?_
   conv=>whnf
   exact owes_b rfl
  ·exfalso;have:=of_decide_eq_false h;omega
 have hVl:=view_le lv
 obtain⟨b1,b2,b3⟩:=view_bounds (n:=100000) (v:=v) (by omega)
 have f1:=c_FormatV v (by omega)
 have f2:=r_FormatV v (by omega)
 have s1:=c_SameV v w b1 b2 (fun r hr=>(b3 r hr).1)
 have s2:=r_Same v w b1 b2 (fun r hr=>(b3 r hr).1)
 have s3:=r_Same v v b1 b2 (fun r hr=>(b3 r hr).1)
 rw[decide_eq_true (rfl:v=v)] at s3
 have p1:=c_ParseV t (by omega)
 have p2:=r_ParseV t (by omega)
 obtain⟨d1,d2,d3⟩:=view_bounds (parse_bound (t:=t) (by omega))
 have s4:=r_Same (parseV t).1 (parseV t).1 d1 d2 (fun r hr=>(d3 r hr).1)
 rw[decide_eq_true (rfl:(parseV t).1=(parseV t).1)] at s4
 have c2:ClL [viewG v,viewG w]:=cC (viewG_cl v) (cC (viewG_cl w) .nil)
 have c3:ClL [viewG v,viewG v]:=cC (viewG_cl v) (cC (viewG_cl v) .nil)
 have c4:ClL [viewG (parseV t).1,viewG (parseV t).1]:=cC (viewG_cl _) (cC (viewG_cl _) .nil)
 have c5:=res_cl (parseV t).1 (parseV t).2.1 (parseV t).2.2
 have hp:fmtV v≠[]->SC Tryz.prog 13 [.s (fmtV v)] [] (.val (.tup [viewG v,.i .i64 0,.i .i64 0])) []:=fun hne=>by
  have hf:formV v=true:=by
   unfold fmtV at hne
   split at hne
   ·rename_i h;exact h
   ·exact absurd rfl hne
  have e:fmtV v=viewT v:=if_pos hf
  have h:=c_ParseV (viewT v) (by omega)
  rw[parse_fmt hf (by omega)] at h
  rw[e];exact h
 have c6:=res_cl v 0 0
 generalize fmtV v=F at f1 f2 hp
 generalize decide (v=w)=E at s1 s2
 generalize parseV t=Q at p1 p2 s4 c4 c5
 obtain⟨Q1,Q2,Q3⟩:=Q
 dsimp only at p1 p2 s4 c4 c5
 clear d1 d2 d3 b3 q2 q1
 have q1:=l_Light v hv hv1 hv2
 have q2:=l_Light w hw hw1 hw2
 rw[lv] at q1
 rw[lw] at q2
 rcases E with _|_
 all_goals
  refine gwS Tryz.func3 rfl ?_
  conv=>whnf
  refine callP q1 (wR _) rfl cv (.b _) ?_
  conv=>whnf
  refine callP q2 (wR _) rfl cw (.b _) ?_
  conv=>whnf
  refine GIf.mk (fun h=>?_) (fun h=>?_)<;>conv=>whnf
  ·exfalso;have:=of_decide_eq_true h;omega
  clear h
  refine callP f1 (wR _) rfl cv (.s _) ?_
  conv=>whnf
  refine GDraw.calm (by kernel_rfl) ?_
  conv=>whnf
  refine callP f2 (wR _) rfl cv (.s _) ?_
  conv=>whnf
  refine GIf.mk (fun h1=>?_) (fun h1=>?_)<;>conv=>whnf
  ·exfalso;simp at h1
  refine callP s1 (wR _) rfl c2 (.b _) ?_
  conv=>whnf
  refine callP s2 (wR _) rfl c2 (.b _) ?_
  conv=>whnf
  refine GIf.mk (fun h2=>?_) (fun h2=>?_)<;>conv=>whnf
  ·have hne:F≠[]:=by simpa using h2
   refine callP (hp hne) (wR _) rfl (fun _=>rfl) c6 ?_
   conv=>whnf
   repeat (refine⟨_,⟨rfl,zL _,rfl,bL rfl⟩,?_⟩;conv=>whnf)
   refine callP s3 (wR _) rfl c3 (.b _) ?_
   conv=>whnf
   refine callP p1 (wR _) rfl (fun _=>rfl) c5 ?_
   conv=>whnf
   repeat (refine⟨_,⟨rfl,zL _,rfl,bL rfl⟩,?_⟩;conv=>whnf)
   refine callP p2 (wR _) rfl (fun _=>rfl) c5 ?_
   conv=>whnf
   repeat (refine⟨_,⟨rfl,zL _,rfl,bL rfl⟩,?_⟩;conv=>whnf)
   refine GIf.mk (fun h3=>?_) (fun h3=>?_)<;>conv=>whnf
   rotate_left
   ·exfalso;simp at h3
   refine GIf.mk (fun h4=>?_) (fun h4=>?_)<;>conv=>whnf
   rotate_left
   ·exfalso;simp at h4
   refine callP s4 (wR _) rfl c4 (.b _) ?_
   conv=>whnf
   refine callP haw (wR _) rfl (fun _=>rfl) (.b _) ?_
   conv=>whnf
   exact owes_b rfl
  ·skip
   refine callP p1 (wR _) rfl (fun _=>rfl) c5 ?_
   conv=>whnf
   repeat (refine⟨_,⟨rfl,zL _,rfl,bL rfl⟩,?_⟩;conv=>whnf)
   refine callP p2 (wR _) rfl (fun _=>rfl) c5 ?_
   conv=>whnf
   repeat (refine⟨_,⟨rfl,zL _,rfl,bL rfl⟩,?_⟩;conv=>whnf)
   refine GIf.mk (fun h3=>?_) (fun h3=>?_)<;>conv=>whnf
   rotate_left
   ·exfalso;simp at h3
   refine GIf.mk (fun h4=>?_) (fun h4=>?_)<;>conv=>whnf
   rotate_left
   ·exfalso;simp at h4
   refine callP s4 (wR _) rfl c4 (.b _) ?_
   conv=>whnf
   refine callP haw (wR _) rfl (fun _=>rfl) (.b _) ?_
   conv=>whnf
   exact owes_b rfl
end Go.Proofs.YtldggonlkafckaaGreatDoor
namespace Go.Proofs.YtldggonlkafckaaGreatDoor
open Go Go.ChangeShapes Go.WideShapes Go.RowKit
section
variable {P : Program} {W : World} {sp : Nat → Bool}
theorem ints_of_trod {H:Type} {enc:TypeId×Value->H} {held:Bool} {base fuel n:Nat} {t e:TypeId} {k:IntKind} {cs:List Value} {p:List MemPlace} (l:List Int)
  (ht:P.underlying t=some (.array n e)) (he:P.underlying e=some (.int k)) (hc:P.cellsOf e=1) (hn:l.length=n) (hct:P.cellsOf t=n)
  (h:DataW.trod enc P W base sp held fuel t cs=some (.agg (l.map fun x=>.lit (.int k x)),p)):cs=l.map (Value.int k):=by
 obtain⟨xs,m,rfl,hx,hl,hxs,hel⟩:=DataW.trod_array ht h
 simp only[Prod.mk.injEq,DataW.agg.injEq] at hx
 refine List.ext_getElem? fun i=>?_
 by_cases hi:i<n
 ·have h1:=hel i hi
  rw[hc,Nat.mul_one] at h1
  have hxi:xs[i]?=some xs[i]:=gL (by omega)
  rw[hxi] at h1
  obtain⟨z,hz,he',_⟩:=DataW.trod_int he h1
  have h2:(xs.map (·.1))[i]?=some (.lit (.int k z)):=by rw[List.getElem?_map,hxi,he'];rfl
  rw[<-hx.1,List.getElem?_map] at h2
  obtain⟨y,hy,hyz⟩:=Option.map_eq_some_iff.1 h2
  cases hyz
  rw[List.getElem?_map,hy]
  have h3:=congrArg (·[0]?) hz
  simpa[List.getElem?_take,List.getElem?_drop] using h3
 ·rw[List.getElem?_eq_none (by rw[hl,hct];omega),List.getElem?_eq_none (by simp;omega)]
end
def C0 (W:World):Cx:={fx:=fun b o v=>W.cell? ⟨b,o,none⟩=some v,bk:=fun _=>none,own:=fun _=>none,hd:=fun _=>none,mine:=fun _=>False,f0:=fun b o v=>W.cell? ⟨b,o,none⟩=some v}
def Told [Globals] (W:World):Prop:=(∀g cs,Globals.tab g=some cs->∃c t fr,W.heap[g]?=some (.cells c t fr)/\c.size=cs.length)/\∀g cs (j:Nat) x,Globals.tab g=some cs->cs[j]?=some x->∃u,W.cell? ⟨g,j,none⟩=some u/\∀D:Cx,(∀b o v,W.cell? ⟨b,o,none⟩=some v->D.fx b o v)->VR D x u
theorem rel_start [Globals] {W:World} (h:Told W):Rel (C0 W) ⟨[],0,[]⟩ W W:=
 ⟨.refl _ _,fun _ _ _ h=>h,fun r x hx=>by simp at hx,fun _ _=>⟨rfl,rfl⟩,fun r b hb=>by simp[blkOf,C0] at hb,fun r r' b hb _=>by simp[blkOf,C0] at hb,
  fun r b o v hb _=>(by cases hb),fun r I b sz o v hI _ _=>(by cases hI),fun b o v h=>.inl h,h.2,fun g cs hg=>⟨fun h=>h,h.1 g cs hg⟩⟩
theorem heap_of_var {P:Program} {W:World} {g:Nat} {n:String} {cs:Array Value} (hg:P.globalNamed n=some g) (hv:W.var? P n=some cs):∃t fr,W.heap[g]?=some (.cells cs t fr):=by
 unfold World.var? at hv
 rw[hg] at hv
 simp only[Option.bind_some] at hv
 split at hv
 ·rename_i c t fr ho
  cases hv
  exact⟨_,_,ho⟩
 ·cases hv
theorem told_cells [Globals] {W:World} {g:Nat} {l:List Value} (hv:∀j,W.cell? ⟨g,j,none⟩=l[j]?) {cs:List GV} (hl:cs.length=l.length)
  (h:∀(j:Nat) x u,cs[j]?=some x->l[j]?=some u->∀D:Cx,(∀b o v,W.cell? ⟨b,o,none⟩=some v->D.fx b o v)->VR D x u):
  ∀(j:Nat) x,cs[j]?=some x->∃u,W.cell? ⟨g,j,none⟩=some u/\∀D:Cx,(∀b o v,W.cell? ⟨b,o,none⟩=some v->D.fx b o v)->VR D x u:=fun j x hx=>by
 have hj:j<l.length:=by rw[<-hl];exact(List.getElem?_eq_some_iff.1 hx).1
 exact⟨l[j],by rw[hv,gL hj],h j x _ hx (gL hj)⟩
theorem kept_below {W W':World} {m:Nat->Prop} {may:MemPlace->Prop} (hm:∀k,¬m k) (h:Base m W W'):W.keptBut W' may:=by
 refine⟨h.os,h.output,fun i hi=>?_⟩
 rw[h.block i hi (hm i)]
 cases ho:W.heap[i]? with
 |none=>rfl
 |some o=>cases o<;>first|rfl|exact⟨rfl,rfl,rfl,fun _ _=>rfl⟩|exact .inr ⟨rfl,rfl⟩
set_option maxRecDepth 100000
theorem own:ownKnob Tryz.prog.godebug=none:=by kernel_rfl
theorem star: "*" ++ "errors.errorString" = "*errors.errorString" :=by decide
theorem rowErr (u:TypeId) (h:Tryz.prog.typeName? 3 u=some "*errors.errorString"):u=364:=
 typeName_ptr_named (nm:= "errors.errorString") (by rw[star];kernel_rfl) (by kernel_rfl) (by decide) u (by rw[star];exact h)
theorem und_err:Tryz.prog.underlying 129=some (.interface #[("Error",57)]):=by kernel_rfl
theorem und_ptr:Tryz.prog.underlying 364=some (.pointer 366):=by kernel_rfl
theorem und_est:Tryz.prog.underlying 366=some (.struct #[{name:= "s",type:=9,offset:=0,embedded:=false,tag:= "",pkgPath:= "errors",byteOffset:=0}]):=by kernel_rfl
theorem und_str:Tryz.prog.underlying 9=some .string:=by kernel_rfl
theorem und_bool:Tryz.prog.underlying 4=some .bool:=by kernel_rfl
theorem told_err [MaxL] {W:World} {g:Nat} {n:String} {t f:Nat} {cs:Array Value} {s:List UInt8} {p:List MemPlace} (hg:Tryz.prog.globalNamed n=some g) (hv:W.var? Tryz.prog n=some cs)
  (ht:t=129)
  (h:DataW.trod (fun _=>()) Tryz.prog W 0 (fun _=>true) false f t cs.toList=some (.iface "*errors.errorString" (.ptr (.agg [.lit (.string s)])),p))
  (hok:∀u v,cs.toList=[.iface u v]->Value.okWide Tryz.prog W .any 0 u v):
  cs.size=1/\∀(j:Nat) x,([.ifc 364 (.snap [.s s] 0)]:List GV)[j]?=some x->∃u,W.cell? ⟨g,j,none⟩=some u/\∀D:Cx,(∀b o v,W.cell? ⟨b,o,none⟩=some v->D.fx b o v)->VR D x u:=by
 subst ht
 obtain⟨a,b,e,hc,hb,_,_⟩:=errorString_of_trod und_err rowErr und_ptr und_est rfl rfl und_str (by kernel_rfl) (by kernel_rfl) h hok
 refine⟨by have:=congrArg List.length e;simpa using this,?_⟩
 refine told_cells (l:=cs.toList) (fun j=>by rw[World.var?_cell hg hv j];simp) (by rw[e];rfl) fun j x u hx hu D hD=>?_
 rw[e] at hu
 have hj:j=0:=by
  have:=(List.getElem?_eq_some_iff.1 hx).1
  simpa using this
 subst hj
 cases hx;cases hu
 obtain⟨ab,ao,asp⟩:=a
 have hsp:asp=none:=by
  unfold World.cell? at hc
  split at hc
  ·simp only at hc
   split at hc
   ·cases hc
   ·rename_i h0;simpa using h0
  ·cases hc
 subst hsp
 refine .ifc ?_
 have:=VR.snap (C:=D) (cs:=[.s s]) (off:=0) ab ao (fun _=>.string b) (fun j g hj=>?_) (fun j g hj=>?_)
 ·simpa using this
 ·have hj0:j=0:=by
   have:=(List.getElem?_eq_some_iff.1 hj).1
   simpa using this
  subst hj0
  exact hD _ _ _ (by simpa using hc)
 ·have hj0:j=0:=by
   have:=(List.getElem?_eq_some_iff.1 hj).1
   simpa using this
  subst hj0
  cases hj
  have:b=⟨s.toArray⟩:=by rw[<-hb]
  rw[this]
  exact .s s
theorem told_ints [MaxL] {W:World} {g n e:Nat} {k:IntKind} {nm:String} {t f:Nat} {cs:Array Value} {p:List MemPlace} (l:List Int) (hg:Tryz.prog.globalNamed nm=some g) (hv:W.var? Tryz.prog nm=some cs)
  (ht:Tryz.prog.underlying t=some (.array n e)) (he:Tryz.prog.underlying e=some (.int k)) (hc:Tryz.prog.cellsOf e=1) (hn:l.length=n) (hct:Tryz.prog.cellsOf t=n)
  (h:DataW.trod (fun _=>()) Tryz.prog W 0 (fun _=>true) false f t cs.toList=some (.agg (l.map fun x=>.lit (.int k x)),p)):
  cs.size=l.length/\∀(j:Nat) x,(l.map (GV.i k))[j]?=some x->∃u,W.cell? ⟨g,j,none⟩=some u/\∀D:Cx,(∀b o v,W.cell? ⟨b,o,none⟩=some v->D.fx b o v)->VR D x u:=by
 have hcs:=ints_of_trod l ht he hc hn hct h
 refine⟨by have:=congrArg List.length hcs;simpa using this,?_⟩
 refine told_cells (l:=cs.toList) (fun j=>by rw[World.var?_cell hg hv j];simp) (by rw[hcs];simp) fun j x u hx hu D hD=>?_
 rw[hcs,List.getElem?_map] at hu
 rw[List.getElem?_map] at hx
 obtain⟨z,hz,rfl⟩:=Option.map_eq_some_iff.1 hx
 rw[hz] at hu
 cases hu
 exact .i k z
end Go.Proofs.YtldggonlkafckaaGreatDoor
