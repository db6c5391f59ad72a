/-
  A part of the proof of ViewTexts.
-/
import Derived.Test.YtldggonlkafckaaGreatDoorQ43
import Derived.Test.YtldggonlkafckaaGreatDoorQ48
set_option linter.all false
namespace Go.Proofs.YtldggonlkafckaaGreatDoor
open Go.RowKit
set_option maxRecDepth 100000
set_option linter.unusedVariables false
def zbox:GObj:=.box 25 [.sl .full [],.sl .full []]
def vbox (a b:GV):GObj:=.box 25 [a,b]
def rbox (r:VwR):GObj:=.box 68 (recC r)
def sbox (p:By×By):GObj:=.box 71 [.s p.1,.s p.2]
def ro (n:Nat):GObj:=.own n 4 68
def so (n:Nat):GObj:=.own n 2 71
def shp (o:Bool):List VwR->List (By×By)->List GObj
 |[],[]=>[zbox,vbox (.sl .full []) (.sl .full [])]
 |r::R,[]=>[zbox,vbox (.sl (.own 4) (recsG (r::R))) (.sl .full []),rbox r,ro 1,ro (R.length+1)]
 |[],s::S=>[zbox,vbox (.sl .full []) (.sl (.own 4) (itG (s::S))),sbox s,so 1,so (S.length+1)]
 |r::R,s::S=>match o with
  |true=>[zbox,vbox (.sl (.own 4) (recsG (r::R))) (.sl (.own 7) (itG (s::S))),rbox r,ro 1,ro (R.length+1),sbox s,so 1,so (S.length+1)]
  |false=>[zbox,vbox (.sl (.own 7) (recsG (r::R))) (.sl (.own 4) (itG (s::S))),sbox s,so 1,so (S.length+1),rbox r,ro 1,ro (R.length+1)]
theorem ren_rs [MaxL] {e:Nat->Nat} {k:Nat} (l:List VwR) (h:e k=k):(GV.sl (.own k) (recsG l)).ren e=.sl (.own k) (recsG l):=ren_own h (recsG_cl l)
theorem ren_is [MaxL] {e:Nat->Nat} {k:Nat} (l:List (By×By)) (h:e k=k):(GV.sl (.own k) (itG l)).ren e=.sl (.own k) (itG l):=ren_own h (itG_cl l)
theorem vbox_ren [MaxL] {a b a' b':GV} {e:Nat->Nat} (h:a.ren e=a') (h':b.ren e=b'):(vbox a b).ren e=vbox a' b':=by
 show GObj.box _ [a.ren e,b.ren e]=_
 rw[h,h'];rfl
theorem rbox_ren [MaxL] (r:VwR) (e:Nat->Nat):(rbox r).ren e=rbox r:=recBox_ren r e
theorem shp_ren [MaxL] (o:Bool) (R:List VwR) (S:List (By×By)) (e:Nat->Nat) (he:∀i,i<(shp o R S).length->e i=i):(shp o R S).map (GObj.ren e)=shp o R S:=by
 rcases R with _|⟨r,R⟩<;>rcases S with _|⟨s,S⟩
 ·rfl
 ·show[_,(vbox _ _).ren e,_,_,_]=_
  rw[vbox_ren rfl (ren_is _ (he 4 (by simp[shp])))];rfl
 ·show[_,(vbox _ _).ren e,(rbox r).ren e,_,_]=_
  rw[vbox_ren (ren_rs _ (he 4 (by simp[shp]))) rfl,rbox_ren];rfl
 ·cases o
  ·show[_,(vbox _ _).ren e,_,_,_,(rbox r).ren e,_,_]=_
   rw[vbox_ren (ren_rs _ (he 7 (by simp[shp]))) (ren_is _ (he 4 (by simp[shp]))),rbox_ren];rfl
  ·show[_,(vbox _ _).ren e,(rbox r).ren e,_,_,_,_,_]=_
   rw[vbox_ren (ren_rs _ (he 4 (by simp[shp]))) (ren_is _ (he 7 (by simp[shp]))),rbox_ren];rfl
theorem shp_held [MaxL] (o:Bool) (R:List VwR) (S:List (By×By)):(shp o R S).all GObj.notHeld=true:=by
 rcases R with _|⟨r,R⟩<;>rcases S with _|⟨s,S⟩<;>cases o<;>rfl
theorem shp_len (o:Bool) (R:List VwR) (S:List (By×By)):2<=(shp o R S).length:=by
 rcases R with _|⟨r,R⟩<;>rcases S with _|⟨s,S⟩<;>cases o<;>simp[shp]
theorem wk_view [MaxL] (k k':Tok) (a b:List GV):Wk (.agg [.sl k a,.sl k' b]) (.agg [.sl .none a,.sl .none b]):=Wk.agg rfl fun j g g' h h'=>by
 match j,h,h' with
 |0,h,h'=>cases h;cases h';exact Wk.sl _ _
 |1,h,h'=>cases h;cases h';exact Wk.sl _ _
 |j+2,h,h'=>simp at h
theorem wk_t3 [MaxL] {a a' b c:GV} (h:Wk a a'):Wk (.tup [a,b,c]) (.tup [a',b,c]):=fun C v hv=>by
 cases hv with
 |tup hl hv=>
 refine .tup hl (fun j g u h1 h2=>?_)
 match j,h1 with
 |0,h1=>cases h1;exact h C _ (hv 0 a u rfl h2)
 |1,h1=>cases h1;exact hv 1 b u rfl h2
 |2,h1=>cases h1;exact hv 2 c u rfl h2
 |j+3,h1=>simp at h1
theorem res_cl [MaxL] (v:Vw) (a b:Int):Cl (.tup [viewG v,.i .i64 a,.i .i64 b]):=Cl.tup (.cons (viewG_cl v) (.cons (.i _ _) (.cons (.i _ _) .nil)))
def parX (t:By) (L:List By) (last:By):Vw×Nat×Int:=if t=[] then(nilV,0,2) else match goL L.dropLast nilV 0 with
 |.inl n=>(nilV,n,2)
 |.inr v=>if last≠[]∨fmtV v≠t then(nilV,L.length - 1,2) else(v,0,0)
theorem parX_eq {t:By} (ht:t.length<=20000) {last:By} (h:(pieces [10] t).getLastD []=last):parseV t=parX t (pieces [10] t) last:=by
 unfold parseV parX
 rw[if_neg (by omega),h]
 rfl
theorem owesX [MaxL] {v:Vw} {n:Nat} {e:Int} {g:GV} {X:Vw×Nat×Int} (hX:X=(v,n,e)) (hg:Wk g (viewG v)) {σ:GS}:Owes [] (.val (.tup [viewG X.1,.i .i64 (X.2.1:Nat),.i .i64 X.2.2])) [] (.val (.tup [g,.i .i64 (n:Nat),.i .i64 e])) σ:=by
 subst hX
 exact owes_wk (wk_t3 hg) (res_cl v n e)
set_option maxHeartbeats 8000000 in
theorem r_ParseV [MaxL] (t:By) (ht:t.length<=10000):SC Tryz.prog 14 [.s t] [] (.val (.tup [viewG (parseV t).1,.i .i64 ((parseV t).2.1:Nat),.i .i64 (parseV t).2.2])) []:=by
 have hcut:=r_Cut t [10] (by omega) (by simp) (by simp)
 have hne:=pieces_ne [10] t (by simp)
 have hlen:=pieces_len (sub:=[10]) (by simp) t.length t (rL _)
 have hlns:=lns_pieces t
 have hjoin:=pieces_join (sub:=[10]) (by simp) t.length t (rL _)
 have hL1:1<=(pieces [10] t).length:=List.length_pos_iff.2 hne
 obtain⟨last,hlast⟩:∃x,(pieces [10] t)[(pieces [10] t).length - 1]?=some x:=⟨(pieces [10] t)[(pieces [10] t).length - 1]'(by omega),gL _⟩
 rw[parX_eq (by omega) (show(pieces [10] t).getLastD []=last by rw[List.getLastD_eq_getLast?,List.getLast?_eq_getElem?,hlast];rfl)]
 generalize pieces [10] t=L at hcut hne hlen hlns hjoin hL1 hlast⊢
 generalize hX:parX t L last=X
 unfold parX at hX
 have hsl:=strG_len L
 have wN:IntKind.i64.wrap (((strG L).length:Int) - 1)=((L.length - 1:Nat):Int):=by rw[hsl,wrap_in (by omega) (by omega)];omega
 have tnil:t=[]->last=[]:=fun h=>by
  have h2:=hlen.2 last (List.mem_of_getElem? hlast)
  rw[h] at h2
  exact List.length_eq_zero_iff.1 (by simpa using h2)
 have one:L.length=1->last=[]->t=[]:=fun h1 h2=>by
  match L,h1,hlast,hjoin with
  |[x],_,hl,hj=>
   rw[join_one] at hj
   cases hl
   rw[<-hj,h2]
 obtain⟨N,hN⟩:∃N,N=if last=[] then L.length - 1 else L.length:=⟨_,rfl⟩
 refine gwS Tryz.func14 rfl ?_
 conv=>whnf
 refine GIf.mk (fun h0=>?_) (fun h0=>?_)<;>conv=>whnf
 ·exfalso;have:=of_decide_eq_true h0;omega
 refine callP hcut (wR _) rfl (fun _=>rfl) (Cl.sl (strG_cl _)) ?_
 conv=>whnf
 refine⟨by rw[wN];exact cN _,.s last,by rw[wN];exact strG_atV hlast,rfl,?_⟩
 conv=>whnf
 have hNa:last=[]->GV.i .i64 (IntKind.i64.wrap (((strG L).length:Int) - 1))=.i .i64 (N:Nat):=fun q=>by rw[wN,hN,if_pos q]
 have hNb:last≠[]->GV.i .i64 (IntKind.i64.wrap (IntKind.i64.wrap (((strG L).length:Int) - 1)+1))=.i .i64 (N:Nat):=fun q=>by
  rw[wN,hN,if_neg q,wrap_in (by omega) (by omega)]
  exact congrArg (GV.i .i64) (by omega)
 refine GIf.mk (fun hl=>?_) (fun hl=>?_)<;>conv=>whnf
 all_goals
  repeat (refine⟨_,⟨rfl,zL _,rfl,bL rfl⟩,?_⟩;conv=>whnf)
  refine GLoop.introS (fun q:(Nat×Bool)×Vw=>q.1.1<=L.length - 1/\goL (L.drop q.1.1).dropLast q.2 q.1.1=goL L.dropLast nilV 0/\(viewT q.2).length<=(lns (L.take q.1.1)).length) (fun q=>[(0,.s t),(2,.ptr 0 0),(5,.sl .none (strG L)),(6,.i .i64 (N:Nat)),(7,.ptr 1 0),(8,.i .i64 (q.1.1:Nat))]) (fun q=>⟨shp q.1.2 q.2.recs q.2.sets,0,[]⟩) (fun q=>L.length - q.1.1) ((0,true),nilV) ⟨zL _,rfl,zL _⟩ ⟨rfl,rfl,rfl,by first|exact hNa (by simpa using hl)|exact hNb (by simpa using hl),rfl,rfl,trivial⟩ rfl (fun q _=>shp_len _ _ _) (fun q _=>shp_held _ _ _) (fun q _ e he=>?_) (fun q φ0 hi=>?_)
  ·have h2:=shp_len q.1.2 q.2.recs q.2.sets
   refine⟨shp_ren _ _ _ e he,rfl,?_⟩
   show[_,GV.ptr (e 0) 0,(GV.sl .none (strG L)).ren e,_,GV.ptr (e 1) 0,_]=_
   rw[he 0 (by show 0<(shp _ _ _).length;omega),he 1 (by show 1<(shp _ _ _).length;omega),Cl.sl (strG_cl L) e];rfl
  clear hl
  obtain⟨⟨i,o⟩,v⟩:=q
  obtain⟨hi,hG,hV⟩:=hi
  replace hi:i<=L.length - 1:=hi
  replace hG:goL (L.drop i).dropLast v i=goL L.dropLast nilV 0:=hG
  replace hV:(viewT v).length<=(lns (L.take i)).length:=hV
  have hVt:(viewT v).length<=100000:=by have:=lns_take_le L i;omega
  obtain⟨R,S⟩:=v
  by_cases hiN:i<N
  rotate_left
  ·have hl0:last=[]:=by
    by_cases q:last=[]
    ·exact q
    ·rw[if_neg q] at hN;omega
   rw[if_pos hl0] at hN
   have hie:i=L.length - 1:=by omega
   rw[drop_end (by omega)] at hG
   replace hG:Sum.inr ⟨R,S⟩=goL L.dropLast nilV 0:=hG
   rw[<-hG] at hX
   have hF:=r_FormatV ⟨R,S⟩ hVt
   have x0:N=0->X=(nilV,0,2):=fun q=>by rw[<-hX,if_pos (one (by omega) hl0)]
   have tn:N≠0->t≠[]:=fun q e=>by
    have:=hlns
    rw[e] at this
    have h5:=lns_len L
    simp at this
    omega
   have x1:N≠0->fmtV ⟨R,S⟩≠t->X=(nilV,N,2):=fun q q2=>by rw[<-hX,if_neg (tn q)];show(if _ then _ else _)=_;rw[if_pos (.inr q2),hN]
   have x2:N≠0->fmtV ⟨R,S⟩=t->X=(⟨R,S⟩,0,0):=fun q q2=>by rw[<-hX,if_neg (tn q)];show(if _ then _ else _)=_;rw[if_neg (fun z=>z.elim (fun z=>z hl0) (fun z=>z q2))]
   generalize fmtV ⟨R,S⟩=F at hF x1 x2
   clear hX hG hcut
   replace x0:N=0->X=(nilV,N,2):=fun q=>by rw[x0 q,q]
   rcases R with _|⟨r,R⟩<;>rcases S with _|⟨s,S⟩
   rotate_left 3
   rcases o with _|_
   all_goals
    conv=>whnf
    refine GIf.mk (fun h=>?_) (fun h=>?_)<;>conv=>whnf
    ·exfalso;have h9:((i:Nat):Int)<(N:Nat):=of_decide_eq_true h;omega
    refine GIf.mk (fun h1=>?_) (fun h1=>?_)<;>conv=>whnf
    ·have h9:((N:Nat):Int)=0:=by simpa using h1
     repeat (refine⟨_,⟨rfl,zL _,rfl,bL rfl⟩,?_⟩;conv=>whnf)
     exact owesX (x0 (by omega)) (wk_view _ _ _ _)
    have h9:N≠0:=by
     have h9:¬((N:Nat):Int)=0:=by simpa using h1
     omega
    refine callP hF (wC (wk_view _ _ _ _) (wR _)) rfl (cC (viewG_cl _) .nil) (.s _) ?_
    conv=>whnf
    refine GIf.mk (fun h2=>?_) (fun h2=>?_)<;>conv=>whnf
    ·skip
     repeat (refine⟨_,⟨rfl,zL _,rfl,bL rfl⟩,?_⟩;conv=>whnf)
     exact owesX (x1 h9 (by simpa using h2)) (wk_view _ _ _ _)
    ·skip
     repeat (refine⟨_,⟨rfl,zL _,rfl,bL rfl⟩,?_⟩;conv=>whnf)
     exact owesX (x2 h9 (by simpa using h2)) (wk_view _ _ _ _)
  by_cases hend:i=L.length - 1
  ·have hq:last≠[]:=fun q=>by rw[if_pos q] at hN;omega
   rw[drop_end (by omega)] at hG
   replace hG:Sum.inr ⟨R,S⟩=goL L.dropLast nilV 0:=hG
   rw[<-hG] at hX
   have hbad:X=(nilV,i,2):=by rw[<-hX,if_neg (fun q=>hq (tnil q))];show(if _ then _ else _)=_;rw[if_pos (.inl hq),hend]
   have hlg:=strG_atV hlast
   rw[<-hend] at hlg
   rcases R with _|⟨r,R⟩<;>rcases S with _|⟨s,S⟩
   rotate_left 3
   rcases o with _|_
   all_goals
    conv=>whnf
    refine GIf.mk (fun h=>?_) (fun h=>?_)<;>conv=>whnf
    rotate_left
    ·exfalso;have h9:¬((i:Nat):Int)<(N:Nat):=of_decide_eq_false h;omega
    refine⟨cN _,.s last,hlg,rfl,?_⟩
    conv=>whnf
    refine GIf.mk (fun he=>?_) (fun he=>?_)<;>conv=>whnf
    rotate_left
    ·exfalso
     rw[wN] at he
     have h9:¬((i:Nat):Int)=((L.length - 1:Nat):Int):=by simpa using he
     omega
    repeat (refine⟨_,⟨rfl,zL _,rfl,bL rfl⟩,?_⟩;conv=>whnf)
    exact owesX hbad (wk_view _ _ _ _)
  have hi1:i+1<L.length:=by omega
  have hlx:∃l,L[i]?=some l:=⟨L[i]'(by omega),gL _⟩
  refine hlx.elim (fun l hl=>?_)
  have hlg:=strG_atV hl
  have hll:=hlen.2 l (List.mem_of_getElem? hl)
  rw[drop_last hl hi1,goL_step] at hG
  have htl:(lns (L.take (i+1))).length=(lns (L.take i)).length+l.length+1:=by
   rw[List.take_add_one,hl,lns_app,List.length_append]
   show _+(l++[10]++[]).length=_
   simp;omega
  have hb:=view_bounds hVt
  have w4:=wrap_succ (i:=i) (by omega)
  have n0:L.length - (i+1)<L.length - i:=by omega
  have n1:i+1<=L.length - 1:=by omega
  have hnone:lineP l=none->X=(nilV,i,2):=fun q=>by
   rw[q] at hG
   replace hG:Sum.inl i=goL L.dropLast nilV 0:=hG
   rw[<-hG] at hX
   rw[<-hX]
   by_cases ht0:t=[]
   ·rw[if_pos ht0]
    have:=hlns
    rw[ht0] at this
    have h5:=lns_len L
    simp at this
    omega
   ·rw[if_neg ht0]
  have hsome:∀x,lineP l=some x->goL (L.drop (i+1)).dropLast (Vw.add ⟨R,S⟩ x) (i+1)=goL L.dropLast nilV 0/\(viewT (Vw.add ⟨R,S⟩ x)).length<=(lns (L.take (i+1))).length:=fun x q=>by
   have q2:=line_back q
   have q3:=viewT_add ⟨R,S⟩ x
   rw[q] at hG
   refine⟨hG,?_⟩
   rw[q2] at q3
   omega
  rw[line_eq] at hnone hsome
  unfold lineR at hnone hsome
  clear hG hX hV hVt htl hlast hN hcut hne hlns hjoin hL1
  by_cases c7:7<l.length/\l.take 7=recW++[32]
  ·rw[if_pos c7] at hnone hsome
   have hrr:=r_rr (l.drop 7) (by simp;omega)
   refine hrr.elim (fun r' hr0=>?_)
   obtain⟨hr',himp⟩:=hr0
   have c70:=c7.1
   rcases Bool.eq_false_or_eq_true (recR (l.drop 7)).2 with hb2|hb2
   ·rw[hb2] at hsome hr'
    rw[<-himp hb2] at hsome
    obtain⟨n2,n3⟩:=hsome _ rfl
    clear hnone himp hsome
    rcases R with _|⟨r,R⟩<;>rcases S with _|⟨s,S⟩
    rotate_left 3
    rcases o with _|_
    all_goals
     conv=>whnf
     refine GIf.mk (fun h=>?_) (fun h=>?_)<;>conv=>whnf
     rotate_left
     ·exfalso;have h9:¬((i:Nat):Int)<(N:Nat):=of_decide_eq_false h;omega
     refine⟨cN _,.s l,hlg,rfl,?_⟩
     conv=>whnf
     refine GIf.mk (fun he=>?_) (fun he=>?_)<;>conv=>whnf
     ·exfalso
      rw[wN] at he
      have h9:((i:Nat):Int)=((L.length - 1:Nat):Int):=by simpa using he
      omega
     refine GIf.mk (fun h7=>?_) (fun h7=>?_)<;>conv=>whnf
     rotate_left
     ·exfalso;have h9:=of_decide_eq_false h7;omega
     refine⟨by decide,⟨zL _,by show 7<=l.length;omega⟩,l.take 7,rfl,?_⟩
     conv=>whnf
     refine GIf.mk (fun h8=>?_) (fun h8=>?_)<;>conv=>whnf
     rotate_left
     ·exfalso;exact absurd c7.2 (by have h9:¬l.take 7=recW++[32]:=(by simpa[recW] using h8);exact h9)
     refine⟨by decide,⟨by show 7<=l.length;omega,rL _⟩,l.drop 7,by rw[List.take_of_length_le (by simp)];rfl,?_⟩
     conv=>whnf
     refine callP hr' (wR _) rfl (fun _=>rfl) (Cl.tup (.cons (recG_cl _) (.cons (.b _) .nil))) ?_
     conv=>whnf
     refine⟨_,⟨rfl,zL _,rfl,bL rfl⟩,?_⟩
     conv=>whnf
    ·skip
     refine⟨⟨rfl,recsG_ok _,by show(recsG (r::R)).length+1<=4294967296;rw[recsG_len];have q:=hb.1;show(r::R).length+1<=_;have q2:(r::R).length<=100000:=q;omega⟩,recsG ((r::R)++[r']),((r::R)++[r']).length,⟨by unfold recsG;rw[List.map_append];rfl,by show _=(recsG (r::R)).length+1;rw[recsG_len,List.length_append];rfl⟩,?_⟩
     conv=>whnf
     refine⟨⟨zL _,by show _=(recsG (r::R)).length;rw[recsG_len];rfl,.inl ⟨rfl,rfl⟩⟩,?_⟩
     conv=>whnf
     refine⟨_,⟨rfl,zL _,rfl,bL rfl⟩,?_⟩
     conv=>whnf
     exact⟨L.length - (i+1),n0,((i+1,false),Vw.add ⟨r::R,s::S⟩ (.inl r')),⟨n1,n2,n3⟩,rfl,⟨rfl,rfl,rfl,rfl,rfl,w4,trivial⟩,_,rfl,rfl⟩
    ·skip
     refine⟨⟨rfl,recsG_ok _,by show(recsG (r::R)).length+1<=4294967296;rw[recsG_len];have q:=hb.1;show(r::R).length+1<=_;have q2:(r::R).length<=100000:=q;omega⟩,recsG ((r::R)++[r']),((r::R)++[r']).length,⟨by unfold recsG;rw[List.map_append];rfl,by show _=(recsG (r::R)).length+1;rw[recsG_len,List.length_append];rfl⟩,?_⟩
     conv=>whnf
     refine⟨⟨zL _,by show _=(recsG (r::R)).length;rw[recsG_len];rfl,.inl ⟨rfl,rfl⟩⟩,?_⟩
     conv=>whnf
     refine⟨_,⟨rfl,zL _,rfl,bL rfl⟩,?_⟩
     conv=>whnf
     exact⟨L.length - (i+1),n0,((i+1,true),Vw.add ⟨r::R,s::S⟩ (.inl r')),⟨n1,n2,n3⟩,rfl,⟨rfl,rfl,rfl,rfl,rfl,w4,trivial⟩,_,rfl,rfl⟩
    ·skip
     refine⟨⟨rfl,rfl,bL rfl⟩,recsG [r'],1,⟨rfl,rfl⟩,?_⟩
     conv=>whnf
     refine⟨_,⟨rfl,zL _,rfl,bL rfl⟩,?_⟩
     conv=>whnf
     exact⟨L.length - (i+1),n0,((i+1,true),Vw.add ⟨[],[]⟩ (.inl r')),⟨n1,n2,n3⟩,rfl,⟨rfl,rfl,rfl,rfl,rfl,w4,trivial⟩,_,rfl,rfl⟩
    ·skip
     refine⟨⟨rfl,rfl,bL rfl⟩,recsG [r'],1,⟨rfl,rfl⟩,?_⟩
     conv=>whnf
     refine⟨_,⟨rfl,zL _,rfl,bL rfl⟩,?_⟩
     conv=>whnf
     exact⟨L.length - (i+1),n0,((i+1,false),Vw.add ⟨[],s::S⟩ (.inl r')),⟨n1,n2,n3⟩,rfl,⟨rfl,rfl,rfl,rfl,rfl,w4,trivial⟩,_,rfl,rfl⟩
    ·skip
     refine⟨⟨rfl,recsG_ok _,by show(recsG (r::R)).length+1<=4294967296;rw[recsG_len];have q:=hb.1;show(r::R).length+1<=_;have q2:(r::R).length<=100000:=q;omega⟩,recsG ((r::R)++[r']),((r::R)++[r']).length,⟨by unfold recsG;rw[List.map_append];rfl,by show _=(recsG (r::R)).length+1;rw[recsG_len,List.length_append];rfl⟩,?_⟩
     conv=>whnf
     refine⟨⟨zL _,by show _=(recsG (r::R)).length;rw[recsG_len];rfl,.inl ⟨rfl,rfl⟩⟩,?_⟩
     conv=>whnf
     refine⟨_,⟨rfl,zL _,rfl,bL rfl⟩,?_⟩
     conv=>whnf
     exact⟨L.length - (i+1),n0,((i+1,true),Vw.add ⟨r::R,[]⟩ (.inl r')),⟨n1,n2,n3⟩,rfl,⟨rfl,rfl,rfl,rfl,rfl,w4,trivial⟩,_,rfl,rfl⟩
   ·rw[hb2] at hnone hr'
    have hbad:=hnone rfl
    clear hnone himp hsome
    rcases R with _|⟨r,R⟩<;>rcases S with _|⟨s,S⟩
    rotate_left 3
    rcases o with _|_
    all_goals
     conv=>whnf
     refine GIf.mk (fun h=>?_) (fun h=>?_)<;>conv=>whnf
     rotate_left
     ·exfalso;have h9:¬((i:Nat):Int)<(N:Nat):=of_decide_eq_false h;omega
     refine⟨cN _,.s l,hlg,rfl,?_⟩
     conv=>whnf
     refine GIf.mk (fun he=>?_) (fun he=>?_)<;>conv=>whnf
     ·exfalso
      rw[wN] at he
      have h9:((i:Nat):Int)=((L.length - 1:Nat):Int):=by simpa using he
      omega
     refine GIf.mk (fun h7=>?_) (fun h7=>?_)<;>conv=>whnf
     rotate_left
     ·exfalso;have h9:=of_decide_eq_false h7;omega
     refine⟨by decide,⟨zL _,by show 7<=l.length;omega⟩,l.take 7,rfl,?_⟩
     conv=>whnf
     refine GIf.mk (fun h8=>?_) (fun h8=>?_)<;>conv=>whnf
     rotate_left
     ·exfalso;exact absurd c7.2 (by have h9:¬l.take 7=recW++[32]:=(by simpa[recW] using h8);exact h9)
     refine⟨by decide,⟨by show 7<=l.length;omega,rL _⟩,l.drop 7,by rw[List.take_of_length_le (by simp)];rfl,?_⟩
     conv=>whnf
     refine callP hr' (wR _) rfl (fun _=>rfl) (Cl.tup (.cons (recG_cl _) (.cons (.b _) .nil))) ?_
     conv=>whnf
     refine⟨_,⟨rfl,zL _,rfl,bL rfl⟩,?_⟩
     conv=>whnf
    ·skip
     refine⟨⟨rfl,recsG_ok _,by show(recsG (r::R)).length+1<=4294967296;rw[recsG_len];have q:=hb.1;show(r::R).length+1<=_;have q2:(r::R).length<=100000:=q;omega⟩,recsG ((r::R)++[r']),((r::R)++[r']).length,⟨by unfold recsG;rw[List.map_append];rfl,by show _=(recsG (r::R)).length+1;rw[recsG_len,List.length_append];rfl⟩,?_⟩
     conv=>whnf
     refine⟨⟨zL _,by show _=(recsG (r::R)).length;rw[recsG_len];rfl,.inl ⟨rfl,rfl⟩⟩,?_⟩
     conv=>whnf
     refine⟨_,⟨rfl,zL _,rfl,bL rfl⟩,?_⟩
     conv=>whnf
     repeat (refine⟨_,⟨rfl,zL _,rfl,bL rfl⟩,?_⟩;conv=>whnf)
     exact owesX hbad (wk_view _ _ _ _)
    ·skip
     refine⟨⟨rfl,recsG_ok _,by show(recsG (r::R)).length+1<=4294967296;rw[recsG_len];have q:=hb.1;show(r::R).length+1<=_;have q2:(r::R).length<=100000:=q;omega⟩,recsG ((r::R)++[r']),((r::R)++[r']).length,⟨by unfold recsG;rw[List.map_append];rfl,by show _=(recsG (r::R)).length+1;rw[recsG_len,List.length_append];rfl⟩,?_⟩
     conv=>whnf
     refine⟨⟨zL _,by show _=(recsG (r::R)).length;rw[recsG_len];rfl,.inl ⟨rfl,rfl⟩⟩,?_⟩
     conv=>whnf
     refine⟨_,⟨rfl,zL _,rfl,bL rfl⟩,?_⟩
     conv=>whnf
     repeat (refine⟨_,⟨rfl,zL _,rfl,bL rfl⟩,?_⟩;conv=>whnf)
     exact owesX hbad (wk_view _ _ _ _)
    ·skip
     refine⟨⟨rfl,rfl,bL rfl⟩,recsG [r'],1,⟨rfl,rfl⟩,?_⟩
     conv=>whnf
     refine⟨_,⟨rfl,zL _,rfl,bL rfl⟩,?_⟩
     conv=>whnf
     repeat (refine⟨_,⟨rfl,zL _,rfl,bL rfl⟩,?_⟩;conv=>whnf)
     exact owesX hbad (wk_view _ _ _ _)
    ·skip
     refine⟨⟨rfl,rfl,bL rfl⟩,recsG [r'],1,⟨rfl,rfl⟩,?_⟩
     conv=>whnf
     refine⟨_,⟨rfl,zL _,rfl,bL rfl⟩,?_⟩
     conv=>whnf
     repeat (refine⟨_,⟨rfl,zL _,rfl,bL rfl⟩,?_⟩;conv=>whnf)
     exact owesX hbad (wk_view _ _ _ _)
    ·skip
     refine⟨⟨rfl,recsG_ok _,by show(recsG (r::R)).length+1<=4294967296;rw[recsG_len];have q:=hb.1;show(r::R).length+1<=_;have q2:(r::R).length<=100000:=q;omega⟩,recsG ((r::R)++[r']),((r::R)++[r']).length,⟨by unfold recsG;rw[List.map_append];rfl,by show _=(recsG (r::R)).length+1;rw[recsG_len,List.length_append];rfl⟩,?_⟩
     conv=>whnf
     refine⟨⟨zL _,by show _=(recsG (r::R)).length;rw[recsG_len];rfl,.inl ⟨rfl,rfl⟩⟩,?_⟩
     conv=>whnf
     refine⟨_,⟨rfl,zL _,rfl,bL rfl⟩,?_⟩
     conv=>whnf
     repeat (refine⟨_,⟨rfl,zL _,rfl,bL rfl⟩,?_⟩;conv=>whnf)
     exact owesX hbad (wk_view _ _ _ _)
  rw[if_neg c7] at hnone hsome
  by_cases c4:4<l.length/\l.take 4=setW++[32]
  ·rw[if_pos c4] at hnone hsome
   have hp0:=r_pair (l.drop 4) (by simp;omega)
   have c40:=c4.1
   generalize pairR (l.drop 4)=Q at hp0 hnone hsome
   obtain⟨p',pk⟩:=Q
   have hp':SC Tryz.prog 43 [.s (l.drop 4)] [] (.val (.tup [.s p'.1,.s p'.2,.b pk])) []:=hp0
   rcases pk with _|_
   ·have hbad:=hnone rfl
    clear hnone hsome hp0
    rcases R with _|⟨r,R⟩<;>rcases S with _|⟨s,S⟩
    rotate_left 3
    rcases o with _|_
    all_goals
     conv=>whnf
     refine GIf.mk (fun h=>?_) (fun h=>?_)<;>conv=>whnf
     rotate_left
     ·exfalso;have h9:¬((i:Nat):Int)<(N:Nat):=of_decide_eq_false h;omega
     refine⟨cN _,.s l,hlg,rfl,?_⟩
     conv=>whnf
     refine GIf.mk (fun he=>?_) (fun he=>?_)<;>conv=>whnf
     ·exfalso
      rw[wN] at he
      have h9:((i:Nat):Int)=((L.length - 1:Nat):Int):=by simpa using he
      omega
     refine GIf.mk (fun h7=>?_) (fun h7=>?_)<;>conv=>whnf
     refine⟨by decide,⟨zL _,by show 7<=l.length;have h9:(7:Int)<l.length:=of_decide_eq_true h7;omega⟩,l.take 7,rfl,?_⟩
     conv=>whnf
     refine GIf.mk (fun h8=>?_) (fun h8=>?_)<;>conv=>whnf
     ·exfalso;exact c7 ⟨by have h9:(7:Int)<l.length:=of_decide_eq_true h7;omega,by simpa[recW] using h8⟩
     all_goals
      refine GIf.mk (fun h4=>?_) (fun h4=>?_)<;>conv=>whnf
      rotate_left
      ·exfalso;have h9:¬(4:Int)<l.length:=of_decide_eq_false h4;omega
      refine⟨by decide,⟨zL _,by show 4<=l.length;omega⟩,l.take 4,rfl,?_⟩
      conv=>whnf
      refine GIf.mk (fun h5=>?_) (fun h5=>?_)<;>conv=>whnf
      rotate_left
      ·exfalso;exact absurd c4.2 (by have h9:¬l.take 4=setW++[32]:=(by simpa[setW] using h5);exact h9)
      repeat (refine⟨_,⟨rfl,zL _,rfl,bL rfl⟩,?_⟩;conv=>whnf)
      refine⟨by decide,⟨by show 4<=l.length;omega,rL _⟩,l.drop 4,by rw[List.take_of_length_le (by simp)];rfl,?_⟩
      conv=>whnf
      refine callP hp' (wR _) rfl (fun _=>rfl) (fun _=>rfl) ?_
      conv=>whnf
      repeat (refine⟨_,⟨rfl,zL _,rfl,bL rfl⟩,?_⟩;conv=>whnf)
    iterate 2
     refine⟨⟨rfl,itG_ok _,by show(itG (s::S)).length+1<=4294967296;rw[itG_len];have q2:(s::S).length<=100000:=hb.2.1;omega⟩,itG ((s::S)++[p']),((s::S)++[p']).length,⟨by unfold itG;rw[List.map_append];rfl,by show _=(itG (s::S)).length+1;rw[itG_len,List.length_append];rfl⟩,?_⟩
     conv=>whnf
     refine⟨⟨zL _,by show _=(itG (s::S)).length;rw[itG_len];rfl,.inl ⟨rfl,rfl⟩⟩,?_⟩
     conv=>whnf
     refine⟨_,⟨rfl,zL _,rfl,bL rfl⟩,?_⟩
     conv=>whnf
     repeat (refine⟨_,⟨rfl,zL _,rfl,bL rfl⟩,?_⟩;conv=>whnf)
     exact owesX hbad (wk_view _ _ _ _)
    iterate 2
     refine⟨⟨rfl,itG_ok _,by show(itG (s::S)).length+1<=4294967296;rw[itG_len];have q2:(s::S).length<=100000:=hb.2.1;omega⟩,itG ((s::S)++[p']),((s::S)++[p']).length,⟨by unfold itG;rw[List.map_append];rfl,by show _=(itG (s::S)).length+1;rw[itG_len,List.length_append];rfl⟩,?_⟩
     conv=>whnf
     refine⟨⟨zL _,by show _=(itG (s::S)).length;rw[itG_len];rfl,.inl ⟨rfl,rfl⟩⟩,?_⟩
     conv=>whnf
     refine⟨_,⟨rfl,zL _,rfl,bL rfl⟩,?_⟩
     conv=>whnf
     repeat (refine⟨_,⟨rfl,zL _,rfl,bL rfl⟩,?_⟩;conv=>whnf)
     exact owesX hbad (wk_view _ _ _ _)
    iterate 2
     refine⟨⟨rfl,rfl,bL rfl⟩,itG [p'],1,⟨rfl,rfl⟩,?_⟩
     conv=>whnf
     refine⟨_,⟨rfl,zL _,rfl,bL rfl⟩,?_⟩
     conv=>whnf
     repeat (refine⟨_,⟨rfl,zL _,rfl,bL rfl⟩,?_⟩;conv=>whnf)
     exact owesX hbad (wk_view _ _ _ _)
    iterate 2
     refine⟨⟨rfl,itG_ok _,by show(itG (s::S)).length+1<=4294967296;rw[itG_len];have q2:(s::S).length<=100000:=hb.2.1;omega⟩,itG ((s::S)++[p']),((s::S)++[p']).length,⟨by unfold itG;rw[List.map_append];rfl,by show _=(itG (s::S)).length+1;rw[itG_len,List.length_append];rfl⟩,?_⟩
     conv=>whnf
     refine⟨⟨zL _,by show _=(itG (s::S)).length;rw[itG_len];rfl,.inl ⟨rfl,rfl⟩⟩,?_⟩
     conv=>whnf
     refine⟨_,⟨rfl,zL _,rfl,bL rfl⟩,?_⟩
     conv=>whnf
     repeat (refine⟨_,⟨rfl,zL _,rfl,bL rfl⟩,?_⟩;conv=>whnf)
     exact owesX hbad (wk_view _ _ _ _)
    iterate 2
     refine⟨⟨rfl,rfl,bL rfl⟩,itG [p'],1,⟨rfl,rfl⟩,?_⟩
     conv=>whnf
     refine⟨_,⟨rfl,zL _,rfl,bL rfl⟩,?_⟩
     conv=>whnf
     repeat (refine⟨_,⟨rfl,zL _,rfl,bL rfl⟩,?_⟩;conv=>whnf)
     exact owesX hbad (wk_view _ _ _ _)
   ·obtain⟨n2,n3⟩:=hsome _ rfl
    clear hnone hsome hp0
    rcases R with _|⟨r,R⟩<;>rcases S with _|⟨s,S⟩
    rotate_left 3
    rcases o with _|_
    all_goals
     conv=>whnf
     refine GIf.mk (fun h=>?_) (fun h=>?_)<;>conv=>whnf
     rotate_left
     ·exfalso;have h9:¬((i:Nat):Int)<(N:Nat):=of_decide_eq_false h;omega
     refine⟨cN _,.s l,hlg,rfl,?_⟩
     conv=>whnf
     refine GIf.mk (fun he=>?_) (fun he=>?_)<;>conv=>whnf
     ·exfalso
      rw[wN] at he
      have h9:((i:Nat):Int)=((L.length - 1:Nat):Int):=by simpa using he
      omega
     refine GIf.mk (fun h7=>?_) (fun h7=>?_)<;>conv=>whnf
     refine⟨by decide,⟨zL _,by show 7<=l.length;have h9:(7:Int)<l.length:=of_decide_eq_true h7;omega⟩,l.take 7,rfl,?_⟩
     conv=>whnf
     refine GIf.mk (fun h8=>?_) (fun h8=>?_)<;>conv=>whnf
     ·exfalso;exact c7 ⟨by have h9:(7:Int)<l.length:=of_decide_eq_true h7;omega,by simpa[recW] using h8⟩
     all_goals
      refine GIf.mk (fun h4=>?_) (fun h4=>?_)<;>conv=>whnf
      rotate_left
      ·exfalso;have h9:¬(4:Int)<l.length:=of_decide_eq_false h4;omega
      refine⟨by decide,⟨zL _,by show 4<=l.length;omega⟩,l.take 4,rfl,?_⟩
      conv=>whnf
      refine GIf.mk (fun h5=>?_) (fun h5=>?_)<;>conv=>whnf
      rotate_left
      ·exfalso;exact absurd c4.2 (by have h9:¬l.take 4=setW++[32]:=(by simpa[setW] using h5);exact h9)
      repeat (refine⟨_,⟨rfl,zL _,rfl,bL rfl⟩,?_⟩;conv=>whnf)
      refine⟨by decide,⟨by show 4<=l.length;omega,rL _⟩,l.drop 4,by rw[List.take_of_length_le (by simp)];rfl,?_⟩
      conv=>whnf
      refine callP hp' (wR _) rfl (fun _=>rfl) (fun _=>rfl) ?_
      conv=>whnf
      repeat (refine⟨_,⟨rfl,zL _,rfl,bL rfl⟩,?_⟩;conv=>whnf)
    iterate 2
     refine⟨⟨rfl,itG_ok _,by show(itG (s::S)).length+1<=4294967296;rw[itG_len];have q2:(s::S).length<=100000:=hb.2.1;omega⟩,itG ((s::S)++[p']),((s::S)++[p']).length,⟨by unfold itG;rw[List.map_append];rfl,by show _=(itG (s::S)).length+1;rw[itG_len,List.length_append];rfl⟩,?_⟩
     conv=>whnf
     refine⟨⟨zL _,by show _=(itG (s::S)).length;rw[itG_len];rfl,.inl ⟨rfl,rfl⟩⟩,?_⟩
     conv=>whnf
     refine⟨_,⟨rfl,zL _,rfl,bL rfl⟩,?_⟩
     conv=>whnf
     exact⟨L.length - (i+1),n0,((i+1,false),Vw.add ⟨r::R,s::S⟩ (.inr p')),⟨n1,n2,n3⟩,rfl,⟨rfl,rfl,rfl,rfl,rfl,w4,trivial⟩,_,rfl,rfl⟩
    iterate 2
     refine⟨⟨rfl,itG_ok _,by show(itG (s::S)).length+1<=4294967296;rw[itG_len];have q2:(s::S).length<=100000:=hb.2.1;omega⟩,itG ((s::S)++[p']),((s::S)++[p']).length,⟨by unfold itG;rw[List.map_append];rfl,by show _=(itG (s::S)).length+1;rw[itG_len,List.length_append];rfl⟩,?_⟩
     conv=>whnf
     refine⟨⟨zL _,by show _=(itG (s::S)).length;rw[itG_len];rfl,.inl ⟨rfl,rfl⟩⟩,?_⟩
     conv=>whnf
     refine⟨_,⟨rfl,zL _,rfl,bL rfl⟩,?_⟩
     conv=>whnf
     exact⟨L.length - (i+1),n0,((i+1,true),Vw.add ⟨r::R,s::S⟩ (.inr p')),⟨n1,n2,n3⟩,rfl,⟨rfl,rfl,rfl,rfl,rfl,w4,trivial⟩,_,rfl,rfl⟩
    iterate 2
     refine⟨⟨rfl,rfl,bL rfl⟩,itG [p'],1,⟨rfl,rfl⟩,?_⟩
     conv=>whnf
     refine⟨_,⟨rfl,zL _,rfl,bL rfl⟩,?_⟩
     conv=>whnf
     exact⟨L.length - (i+1),n0,((i+1,true),Vw.add ⟨[],[]⟩ (.inr p')),⟨n1,n2,n3⟩,rfl,⟨rfl,rfl,rfl,rfl,rfl,w4,trivial⟩,_,rfl,rfl⟩
    iterate 2
     refine⟨⟨rfl,itG_ok _,by show(itG (s::S)).length+1<=4294967296;rw[itG_len];have q2:(s::S).length<=100000:=hb.2.1;omega⟩,itG ((s::S)++[p']),((s::S)++[p']).length,⟨by unfold itG;rw[List.map_append];rfl,by show _=(itG (s::S)).length+1;rw[itG_len,List.length_append];rfl⟩,?_⟩
     conv=>whnf
     refine⟨⟨zL _,by show _=(itG (s::S)).length;rw[itG_len];rfl,.inl ⟨rfl,rfl⟩⟩,?_⟩
     conv=>whnf
     refine⟨_,⟨rfl,zL _,rfl,bL rfl⟩,?_⟩
     conv=>whnf
     exact⟨L.length - (i+1),n0,((i+1,true),Vw.add ⟨[],s::S⟩ (.inr p')),⟨n1,n2,n3⟩,rfl,⟨rfl,rfl,rfl,rfl,rfl,w4,trivial⟩,_,rfl,rfl⟩
    iterate 2
     refine⟨⟨rfl,rfl,bL rfl⟩,itG [p'],1,⟨rfl,rfl⟩,?_⟩
     conv=>whnf
     refine⟨_,⟨rfl,zL _,rfl,bL rfl⟩,?_⟩
     conv=>whnf
     exact⟨L.length - (i+1),n0,((i+1,true),Vw.add ⟨r::R,[]⟩ (.inr p')),⟨n1,n2,n3⟩,rfl,⟨rfl,rfl,rfl,rfl,rfl,w4,trivial⟩,_,rfl,rfl⟩
  rw[if_neg c4] at hnone
  have hbad:=hnone rfl
  clear hnone hsome
  rcases R with _|⟨r,R⟩<;>rcases S with _|⟨s,S⟩
  rotate_left 3
  rcases o with _|_
  all_goals
   conv=>whnf
   refine GIf.mk (fun h=>?_) (fun h=>?_)<;>conv=>whnf
   rotate_left
   ·exfalso;have h9:¬((i:Nat):Int)<(N:Nat):=of_decide_eq_false h;omega
   refine⟨cN _,.s l,hlg,rfl,?_⟩
   conv=>whnf
   refine GIf.mk (fun he=>?_) (fun he=>?_)<;>conv=>whnf
   ·exfalso
    rw[wN] at he
    have h9:((i:Nat):Int)=((L.length - 1:Nat):Int):=by simpa using he
    omega
   refine GIf.mk (fun h7=>?_) (fun h7=>?_)<;>conv=>whnf
   refine⟨by decide,⟨zL _,by show 7<=l.length;have h9:(7:Int)<l.length:=of_decide_eq_true h7;omega⟩,l.take 7,rfl,?_⟩
   conv=>whnf
   refine GIf.mk (fun h8=>?_) (fun h8=>?_)<;>conv=>whnf
   ·exfalso;exact c7 ⟨by have h9:(7:Int)<l.length:=of_decide_eq_true h7;omega,by simpa[recW] using h8⟩
   all_goals
    refine GIf.mk (fun h4=>?_) (fun h4=>?_)<;>conv=>whnf
    rotate_left
    ·skip
     repeat (refine⟨_,⟨rfl,zL _,rfl,bL rfl⟩,?_⟩;conv=>whnf)
     exact owesX hbad (wk_view _ _ _ _)
    refine⟨by decide,⟨zL _,by show 4<=l.length;have h9:(4:Int)<l.length:=of_decide_eq_true h4;omega⟩,l.take 4,rfl,?_⟩
    conv=>whnf
    refine GIf.mk (fun h5=>?_) (fun h5=>?_)<;>conv=>whnf
    ·exfalso;exact c4 ⟨by have h9:(4:Int)<l.length:=of_decide_eq_true h4;omega,by simpa[setW] using h5⟩
    ·skip
     repeat (refine⟨_,⟨rfl,zL _,rfl,bL rfl⟩,?_⟩;conv=>whnf)
     exact owesX hbad (wk_view _ _ _ _)
end Go.Proofs.YtldggonlkafckaaGreatDoor
