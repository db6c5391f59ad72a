/-
  A part of the proof of ViewTexts.
-/
import Derived.Test.YtldggonlkafckaaGreatDoorQ48
import Derived.Test.YtldggonlkafckaaGreatDoorQ49
import Derived.Test.YtldggonlkafckaaGreatDoorQ29
set_option linter.all false
namespace Go.Proofs.YtldggonlkafckaaGreatDoor
open Go.RowKit
set_option maxRecDepth 100000
set_option linter.unusedVariables false
def readerV:List (GV×GV):=[(.s [114,101,99,111,114,100],.fn (.func 76) [] []),(.s [115,101,116],.fn (.func 80) [] [])]
theorem readerV_ren [MaxL] (f:Nat->Nat):(GObj.mp readerV).ren f=.mp readerV:=rfl
theorem c_readersV [MaxL]:SC Tryz.prog 40 [] [] (.val (.mp 0)) [.mp readerV]:=by
 refine gwS Tryz.func40 rfl ?_
 conv=>whnf
 refine⟨rL _,none,rfl,?_⟩
 conv=>whnf
 refine⟨rL _,none,rfl,?_⟩
 conv=>whnf
 exact owesMp (es:=readerV) readerV_ren
theorem SC.nilV [MaxL] {k:FuncId} {args:List GV} {r:GRes} {s':List GObj} (h:SC Tryz.prog k args (pvH [] []) r s'):
  SC Tryz.prog k args [.box 25 [.sl .full [],.sl .full []]] r s':=by
 refine⟨Nat.le_trans (by simp[pvH]) h.len,fun C w vs hr hv=>?_,h.noheld⟩
 obtain⟨D,hl,hown,hrel⟩:=Rel.newNil hr (hr.newAt _)
 obtain⟨E,hl2,hown2,hrel2⟩:=Rel.newNil hrel (hrel.newAt _)
 obtain⟨I1,hI1,hI1'⟩:=hl2.own _ _ hown
 have hI:E.own 1=some ⟨0,0,none⟩:=by
  have h5:E.own 1=some I1:=hI1
  rcases hI1' with q|q
  ·rw[h5,q]
  ·have:=hrel2.obj 1 (.own 0 0 0) rfl
   obtain⟨g0,I,g1,g2,g3,g4⟩:=this
   rw[h5] at g1;cases g1
   cases hb:I1.blk with
   |none=>
    obtain⟨a,b,c⟩:=I1
    simp only at g2 g3 hb
    subst g2 g3 hb
    exact h5
   |some p=>
    obtain⟨b,sz⟩:=p
    have:=(g4 b sz hb).1.1
    omega
 have hrel3:Rel E ⟨pvH [] [],0,[]⟩ w w:=by
  refine⟨hrel2.below,hrel2.fxc,fun q x hx=>?_,fun q hq=>hrel2.dom q (by simpa[pvH] using hq),hrel2.new,hrel2.inj,hrel2.sepB,hrel2.sepO,hrel2.fxn,hrel2.gl,hrel2.gs⟩
  rcases q with _|_|_|q
  ·simp[pvH] at hx;subst hx
   have h0:=hrel2.obj 0 (.box 25 [.sl .full [],.sl .full []]) rfl
   obtain⟨g0,b,cs,hb,ho,hcs⟩:=h0
   have hcs':=BoxV.exact hcs rfl
   refine⟨g0,b,cs,hb,ho,VRs.box ?_⟩
   obtain⟨u,u',rfl,hu,hu'⟩:=hcs'.arr2
   have key:∀(m:Nat) (xs:List GV) (v:Value),xs=[]->E.own m=some ⟨0,0,none⟩->VR E (.sl .full []) v->VR E (.sl (.own m) xs) v:=fun m xs v hxs hm hv1=>by
    subst hxs
    cases hv1 with
    |sl esz b' off us hn hc ha hw hx hvv ht=>
    obtain⟨hc0,ha0⟩:=ht
    obtain rfl:=ha0 rfl
    simp at hn hc0
    subst hn;subst hc0
    exact .sl 0 0 0 us rfl (rL _) (.inl ⟨rfl,rfl⟩) (fun x hx=>by cases hx) (fun i x j g h=>by simp at h) (fun i x j g h=>by simp at h) ⟨_,hm,zL _,(fun h=>absurd h (Nat.lt_irrefl 0)),fun _=>.inl ⟨rfl,rfl⟩⟩
   exact .cons (key 1 _ _ rfl hI hu) (.cons (key 2 _ _ rfl hown2 hu') ⟨rfl,fun j g u h=>by simp at h⟩)
  ·simp[pvH] at hx;subst hx;exact hrel2.obj 1 _ rfl
  ·simp[pvH] at hx;subst hx;exact hrel2.obj 2 _ rfl
  ·simp[pvH] at hx
 refine(h.calls E w vs hrel3 (hv.mono (hl.trans hl2))).mono fun e w' ⟨F,hF,hrF,he⟩=>⟨F,(hl.trans hl2).trans hF,hrF,he⟩
def pS (v:Vw):Nat->List GObj
 |0=>[zbox]
 |_+1=>[vbox (.sl (.own 2) (recsG v.recs)) (.sl (.own 3) (itG v.sets)),.mp readerV,.own v.recs.length (oE 4 v.recs.length) (oE 68 v.recs.length),.own v.sets.length (oE 2 v.sets.length) (oE 71 v.sets.length)]
theorem pS_ren [MaxL] (v:Vw) (n:Nat) (e:Nat->Nat) (he:∀i,i<(pS v n).length->e i=i):(pS v n).map (GObj.ren e)=pS v n:=by
 cases n with
 |zero=>rfl
 |succ n=>
  show[(vbox _ _).ren e,_,_,_]=_
  rw[vbox_ren (ren_rs _ (he 2 (by simp[pS]))) (ren_is _ (he 3 (by simp[pS])))];rfl
theorem pS_held [MaxL] (v:Vw) (n:Nat):(pS v n).all GObj.notHeld=true:=by cases n<;>rfl
theorem pS_len (v:Vw) (n:Nat):1<=(pS v n).length:=by cases n<;>simp[pS]
theorem lies3 [MaxL] (R:List VwR) (S:List (By×By)) (x y:GObj):Lies [0,2,3] (pvH R S) [vbox (.sl (.own 2) (recsG R)) (.sl (.own 3) (itG S)),x,.own R.length (oE 4 R.length) (oE 68 R.length),.own S.length (oE 2 S.length) (oE 71 S.length),y]:=by
 refine⟨by decide,rfl,fun i k z h1 h2=>?_,fun z hz e=>?_⟩
 ·match i,h1,h2 with
  |0,h1,h2=>
   cases h1;cases h2
   show some _=some ((vbox _ _).ren _)
   rw[vbox_ren (a':=.sl (.own 2) (recsG R)) (b':=.sl (.own 3) (itG S))]
   ·rw[GV.ren,renL_map,recsG_cl R];rfl
   ·rw[GV.ren,renL_map,itG_cl S];rfl
  |1,h1,h2=>cases h1;cases h2;rfl
  |2,h1,h2=>cases h1;cases h2;rfl
  |i+3,h1,h2=>cases h1
 ·subst e
  have:=List.all_eq_true.1 (pvH_held R S) _ hz
  cases this
theorem put3 [MaxL] (R R':List VwR) (S S':List (By×By)) (a b c x y:GObj):putBack [0,2,3] (pvH R S) [a,x,b,c,y]=[vbox (.sl (.own 2) (recsG R)) (.sl (.own 3) (itG S)),x,.own R.length (oE 4 R.length) (oE 68 R.length),.own S.length (oE 2 S.length) (oE 71 S.length),y]:=by
 show[(vbox (.sl (.own 1) (recsG R)) (.sl (.own 2) (itG S))).ren _,_,_,_,_]=_
 rw[vbox_ren (a':=.sl (.own 2) (recsG R)) (b':=.sl (.own 3) (itG S))]
 ·rfl
 ·rw[GV.ren,renL_map,recsG_cl R];rfl
 ·rw[GV.ren,renL_map,itG_cl S];rfl
theorem put1 [MaxL] (R:List VwR) (S:List (By×By)) (a x:GObj):putBack [0] (pvH R S) [a,x]=[vbox (.sl (.own 2) (recsG R)) (.sl (.own 3) (itG S)),x,.own R.length (oE 4 R.length) (oE 68 R.length),.own S.length (oE 2 S.length) (oE 71 S.length)]:=by
 show[(vbox (.sl (.own 1) (recsG R)) (.sl (.own 2) (itG S))).ren _,_,_,_]=_
 rw[vbox_ren (a':=.sl (.own 2) (recsG R)) (b':=.sl (.own 3) (itG S))]
 ·rfl
 ·rw[GV.ren,renL_map,recsG_cl R];rfl
 ·rw[GV.ren,renL_map,itG_cl S];rfl
theorem lineP_rec {l b:By} {k:Bool} (h:Lib.cut l [32]=(recW,b,k)):lineP l=if(recP b).2 then some (.inl (recP b).1) else none:=by
 unfold lineP;simp only[h,if_true]
theorem lineP_set {l b:By} {k:Bool} (h:Lib.cut l [32]=(setW,b,k)):lineP l=if(pairP b).2 then some (.inr (pairP b).1) else none:=by
 unfold lineP;simp only[h];rw[if_neg (by decide),if_pos trivial]
theorem lineP_no {l a b:By} {k:Bool} (h:Lib.cut l [32]=(a,b,k)) (h1:a≠recW) (h2:a≠setW):lineP l=none:=by
 unfold lineP;simp only[h];rw[if_neg h1,if_neg h2]
theorem find_no [MaxL] {a:By} (h1:a≠recW) (h2:a≠setW):gfind .string (.s a) readerV 0=some none:=gfind_no gsame_str (fun e he=>by
 simp[readerV] at he
 rcases he with rfl|rfl
 ·exact⟨_,rfl,fun q=>h1 q.symm⟩
 ·exact⟨_,rfl,fun q=>h2 q.symm⟩)
set_option maxHeartbeats 8000000 in
theorem c_ParseV [MaxL] (t:By) (ht:t.length<=10000):SC Tryz.prog 13 [.s t] [] (.val (.tup [viewG (parseV t).1,.i .i64 ((parseV t).2.1:Nat),.i .i64 (parseV t).2.2])) []:=by
 have hne:=pieces_ne [10] t (by simp)
 have hlen:=pieces_len (sub:=[10]) (by simp) t.length t (rL _)
 have hlns:=lns_pieces t
 have hL1:1<=(pieces [10] t).length:=List.length_pos_iff.2 hne
 obtain⟨last,hlast⟩:∃x,(pieces [10] t)[(pieces [10] t).length - 1]?=some x:=⟨(pieces [10] t)[(pieces [10] t).length - 1]'(by omega),gL _⟩
 rw[parX_eq (by omega) (show(pieces [10] t).getLastD []=last by rw[List.getLastD_eq_getLast?,List.getLast?_eq_getElem?,hlast];rfl)]
 obtain⟨L,hLe⟩:∃L,L=pieces [10] t:=⟨_,rfl⟩
 rw[<-hLe] at hne hlen hlns hL1 hlast⊢
 generalize hX:parX t L last=X
 unfold parX at hX
 by_cases h0:t=[]
 ·rw[if_pos h0] at hX
  subst h0
  refine gwS Tryz.func13 rfl ?_
  conv=>whnf
  repeat (refine⟨_,⟨rfl,zL _,rfl,bL rfl⟩,?_⟩;conv=>whnf)
  exact owesX hX.symm (wk_view _ _ _ _)
 rw[if_neg h0] at hX
 refine gwS Tryz.func13 rfl ?_
 conv=>whnf
 refine GIf.mk (fun g1=>?_) (fun g1=>?_)<;>conv=>whnf
 ·exfalso;have:=of_decide_eq_true g1;omega
 refine GIf.mk (fun g2=>?_) (fun g2=>?_)<;>conv=>whnf
 ·exfalso;exact h0 (by simpa using g2)
 clear g1 g2
 refine GLoop.introS (fun q:(Nat×By)×Vw=>q.1.1<=L.length - 1/\pieces [10] q.1.2=L.drop q.1.1/\goL (L.drop q.1.1).dropLast q.2 q.1.1=goL L.dropLast nilV 0/\(viewT q.2).length<=(lns (L.take q.1.1)).length/\q.1.2.length<=t.length/\(q.1.1=0->q.2=nilV/\q.1.2=t)) (fun q=>[(0,.s t),(2,.ptr 0 0),(5,.i .i64 (q.1.1:Nat)),(6,.s q.1.2)]) (fun q=>⟨pS q.2 q.1.1,0,[]⟩) (fun q=>L.length - q.1.1) ((0,t),nilV) ⟨zL _,hLe.symm,rfl,zL _,rL _,fun _=>⟨rfl,rfl⟩⟩ ⟨rfl,rfl,rfl,rfl,trivial⟩ rfl (fun q _=>pS_len _ _) (fun q _=>pS_held _ _) (fun q _ e he=>?_) (fun q φ0 hi=>?_)
 ·have h2:=pS_len q.2 q.1.1
  refine⟨pS_ren _ _ e he,rfl,?_⟩
  show[_,GV.ptr (e 0) 0,_,_]=_
  rw[he 0 (by show 0<(pS _ _).length;omega)];rfl
 obtain⟨⟨n,rest⟩,v⟩:=q
 obtain⟨hi,hpc,hG,hV,hrl,hz⟩:=hi
 replace hi:n<=L.length - 1:=hi
 replace hpc:pieces [10] rest=L.drop n:=hpc
 replace hG:goL (L.drop n).dropLast v n=goL L.dropLast nilV 0:=hG
 replace hV:(viewT v).length<=(lns (L.take n)).length:=hV
 replace hrl:rest.length<=t.length:=hrl
 replace hz:n=0->v=nilV/\rest=t:=hz
 have hVt:(viewT v).length<=100000:=by have:=lns_take_le L n;omega
 have hb:=view_bounds hVt
 have w4:=wrap_succ (i:=n) (by omega)
 obtain⟨R,S⟩:=v
 by_cases hr0:rest=[]
 ·have hn1:n=L.length - 1/\last=[]:=by
   rw[hr0] at hpc
   have h5:L.drop n=[[]]:=by rw[<-hpc];decide
   have h6:=congrArg List.length h5
   simp at h6
   refine⟨by omega,?_⟩
   have h7:=congrArg (fun l:List By=>l[0]?) h5
   simp only[List.getElem?_drop] at h7
   rw[show n+0=L.length - 1 by omega,hlast] at h7
   exact Option.some.inj h7
  obtain⟨hn1,hl0⟩:=hn1
  rw[drop_end (by omega)] at hG
  replace hG:Sum.inr ⟨R,S⟩=goL L.dropLast nilV 0:=hG
  rw[<-hG] at hX
  obtain⟨m,rfl⟩:∃m,n=m+1:=by
   cases n with
   |zero=>exact absurd ((hz rfl).2.symm.trans hr0) h0
   |succ m=>exact⟨m,rfl⟩
  have hF:=c_FormatV ⟨R,S⟩ hVt
  have x1:fmtV ⟨R,S⟩≠t->X=(nilV,m+1,2):=fun q2=>by rw[<-hX];show(if _ then _ else _)=_;rw[if_pos (.inr q2),hn1]
  have x2:fmtV ⟨R,S⟩=t->X=(⟨R,S⟩,0,0):=fun q2=>by rw[<-hX];show(if _ then _ else _)=_;rw[if_neg (fun z=>z.elim (fun z=>z hl0) (fun z=>z q2))]
  generalize fmtV ⟨R,S⟩=F at hF x1 x2
  clear hX hG hz hlen
  conv=>whnf
  refine GIf.mk (fun h=>?_) (fun h=>?_)<;>conv=>whnf
  ·exfalso;exact absurd hr0 (by simpa using h)
  refine callP hF (wC (wk_view _ _ _ _) (wR _)) rfl (cC (viewG_cl _) .nil) (.s _) ?_
  conv=>whnf
  refine GIf.mk (fun h2=>?_) (fun h2=>?_)<;>conv=>whnf
  ·skip
   repeat (refine⟨_,⟨rfl,zL _,rfl,bL rfl⟩,?_⟩;conv=>whnf)
   exact owesX (x1 (by simpa using h2)) (wk_view _ _ _ _)
  ·skip
   repeat (refine⟨_,⟨rfl,zL _,rfl,bL rfl⟩,?_⟩;conv=>whnf)
   exact owesX (x2 (by simpa using h2)) (wk_view _ _ _ _)
 have hc0:=c_Cut rest [10] (by omega)
 rcases cut_cases rest [10] with⟨l,next,e1,c1,_,_⟩|⟨c1,_⟩
 ·skip
  rw[c1] at hc0
  dsimp only at hc0
  have hpl:L.drop n=l::pieces [10] next:=by rw[<-hpc,pieces_cut (by simp),c1];rfl
  have hll:=congrArg List.length e1
  simp only[List.length_append,List.length_cons,List.length_nil] at hll
  have hi1:n+1<L.length:=by
   have h6:=congrArg List.length hpl
   have h7:=List.length_pos_iff.2 (pieces_ne [10] next (by simp))
   simp at h6
   omega
  have hl:L[n]?=some l:=by
   have h7:=congrArg (fun l:List By=>l[0]?) hpl
   simpa[List.getElem?_drop] using h7
  have hnx:pieces [10] next=L.drop (n+1):=by
   have h7:=congrArg (List.drop 1) hpl
   rw[List.drop_drop] at h7
   rw[h7];rfl
  rw[drop_last hl hi1,goL_step] at hG
  have htl:(lns (L.take (n+1))).length=(lns (L.take n)).length+l.length+1:=by
   rw[List.take_add_one,hl,lns_app,List.length_append]
   show _+(l++[10]++[]).length=_
   simp;omega
  have n0:L.length - (n+1)<L.length - n:=by omega
  have n1:n+1<=L.length - 1:=by omega
  have np:pieces [10] next=L.drop (n+1):=hnx
  have nr:next.length<=t.length:=by omega
  have hnone:lineP l=none->X=(nilV,n,2):=fun q=>by
   rw[q] at hG
   replace hG:Sum.inl n=goL L.dropLast nilV 0:=hG
   rw[<-hG] at hX
   exact hX.symm
  have hsome:∀x,lineP l=some x->goL (L.drop (n+1)).dropLast (Vw.add ⟨R,S⟩ x) (n+1)=goL L.dropLast nilV 0/\(viewT (Vw.add ⟨R,S⟩ x)).length<=(lns (L.take (n+1))).length:=fun x q=>by
   have q2:=line_back q
   have q3:=viewT_add ⟨R,S⟩ x
   rw[q] at hG
   refine⟨hG,?_⟩
   rw[q2] at q3
   omega
  have hc1:=c_Cut l [32] (by omega)
  have hfl:=cut_len l [32]
  generalize hcl:Lib.cut l [32]=c at hc1 hfl
  obtain⟨fa,fb,fk⟩:=c
  dsimp only at hc1 hfl
  clear hG hX hV hVt htl hlast hne hlns hL1 hpl hnx hpc hLe
  by_cases ha1:fa=recW
  ·subst ha1
   rw[lineP_rec hcl] at hnone hsome
   clear hcl
   rcases Bool.eq_false_or_eq_true (recP fb).2 with hok|hok
   ·rw[hok] at hsome
    obtain⟨n2,n3⟩:=hsome _ rfl
    clear hnone hsome
    rcases n with _|m
    ·obtain⟨hv0,_⟩:=hz rfl
     obtain⟨rfl,rfl⟩:R=[]/\S=[]:=by cases hv0;exact⟨rfl,rfl⟩
     have hcall:=c_rd1 [] [] fb (by omega) (zL _)
     rw[hok] at hcall
     conv=>whnf
     refine GIf.mk (fun h=>?_) (fun h=>?_)<;>conv=>whnf
     rotate_left
     ·exfalso;exact hr0 (by simpa using h)
     refine callP hc0 (wR _) rfl (fun _=>rfl) (fun _=>rfl) ?_
     conv=>whnf
     refine callP hc1 (wR _) rfl (fun _=>rfl) (fun _=>rfl) ?_
     conv=>whnf
     refine callMp c_readersV (wR _) rfl rfl (fun _=>rfl) readerV_ren ?_
     conv=>whnf
     refine⟨some (0,.fn (.func 76) [] []),rfl,?_⟩
     conv=>whnf
     refine callG (SC.nilV hcall) [0] (Lies.one' rfl (by simp)) (wR _) rfl rfl (put1 ([]++[(recP fb).1]) [] _ _) rfl ?_
     conv=>whnf
     exact⟨L.length - (0+1),n0,((0+1,next),Vw.add ⟨[],[]⟩ (.inl (recP fb).1)),⟨n1,np,n2,n3,nr,fun q=>by cases q⟩,rfl,⟨rfl,rfl,w4,rfl,trivial⟩,[],rfl,rfl⟩
    ·skip
     have hcall:=c_rd1 R S fb (by omega) hb.1
     rw[hok] at hcall
     conv=>whnf
     refine GIf.mk (fun h=>?_) (fun h=>?_)<;>conv=>whnf
     rotate_left
     ·exfalso;exact hr0 (by simpa using h)
     refine callP hc0 (wR _) rfl (fun _=>rfl) (fun _=>rfl) ?_
     conv=>whnf
     refine callP hc1 (wR _) rfl (fun _=>rfl) (fun _=>rfl) ?_
     conv=>whnf
     refine callMp c_readersV (wR _) rfl rfl (fun _=>rfl) readerV_ren ?_
     conv=>whnf
     refine⟨some (0,.fn (.func 76) [] []),rfl,?_⟩
     conv=>whnf
     refine callG hcall [0,2,3] (lies3 R S _ _) (wR _) rfl rfl (put3 (R++[(recP fb).1]) R S S _ _ _ _ _) rfl ?_
     conv=>whnf
     exact⟨L.length - ((m+1)+1),n0,(((m+1)+1,next),Vw.add ⟨R,S⟩ (.inl (recP fb).1)),⟨n1,np,n2,n3,nr,fun q=>by cases q⟩,rfl,⟨rfl,rfl,w4,rfl,trivial⟩,[_],rfl,rfl⟩
   ·rw[hok] at hnone
    have hbad:=hnone rfl
    clear hnone hsome
    rcases n with _|m
    ·obtain⟨hv0,_⟩:=hz rfl
     obtain⟨rfl,rfl⟩:R=[]/\S=[]:=by cases hv0;exact⟨rfl,rfl⟩
     have hcall:=c_rd1 [] [] fb (by omega) (zL _)
     rw[hok] at hcall
     conv=>whnf
     refine GIf.mk (fun h=>?_) (fun h=>?_)<;>conv=>whnf
     rotate_left
     ·exfalso;exact hr0 (by simpa using h)
     refine callP hc0 (wR _) rfl (fun _=>rfl) (fun _=>rfl) ?_
     conv=>whnf
     refine callP hc1 (wR _) rfl (fun _=>rfl) (fun _=>rfl) ?_
     conv=>whnf
     refine callMp c_readersV (wR _) rfl rfl (fun _=>rfl) readerV_ren ?_
     conv=>whnf
     refine⟨some (0,.fn (.func 76) [] []),rfl,?_⟩
     conv=>whnf
     refine callG (SC.nilV hcall) [0] (Lies.one' rfl (by simp)) (wR _) rfl rfl (put1 ([]++[(recP fb).1]) [] _ _) rfl ?_
     conv=>whnf
     repeat (refine⟨_,⟨rfl,zL _,rfl,bL rfl⟩,?_⟩;conv=>whnf)
     exact owesX hbad (wk_view _ _ _ _)
    ·skip
     have hcall:=c_rd1 R S fb (by omega) hb.1
     rw[hok] at hcall
     conv=>whnf
     refine GIf.mk (fun h=>?_) (fun h=>?_)<;>conv=>whnf
     rotate_left
     ·exfalso;exact hr0 (by simpa using h)
     refine callP hc0 (wR _) rfl (fun _=>rfl) (fun _=>rfl) ?_
     conv=>whnf
     refine callP hc1 (wR _) rfl (fun _=>rfl) (fun _=>rfl) ?_
     conv=>whnf
     refine callMp c_readersV (wR _) rfl rfl (fun _=>rfl) readerV_ren ?_
     conv=>whnf
     refine⟨some (0,.fn (.func 76) [] []),rfl,?_⟩
     conv=>whnf
     refine callG hcall [0,2,3] (lies3 R S _ _) (wR _) rfl rfl (put3 (R++[(recP fb).1]) R S S _ _ _ _ _) rfl ?_
     conv=>whnf
     repeat (refine⟨_,⟨rfl,zL _,rfl,bL rfl⟩,?_⟩;conv=>whnf)
     exact owesX hbad (wk_view _ _ _ _)
  by_cases ha2:fa=setW
  ·subst ha2
   rw[lineP_set hcl] at hnone hsome
   clear hcl
   rcases Bool.eq_false_or_eq_true (pairP fb).2 with hok|hok
   ·rw[hok] at hsome
    obtain⟨n2,n3⟩:=hsome _ rfl
    clear hnone hsome
    rcases n with _|m
    ·obtain⟨hv0,_⟩:=hz rfl
     obtain⟨rfl,rfl⟩:R=[]/\S=[]:=by cases hv0;exact⟨rfl,rfl⟩
     have hcall:=c_rd2 [] [] fb (by omega) (zL _)
     rw[hok] at hcall
     conv=>whnf
     refine GIf.mk (fun h=>?_) (fun h=>?_)<;>conv=>whnf
     rotate_left
     ·exfalso;exact hr0 (by simpa using h)
     refine callP hc0 (wR _) rfl (fun _=>rfl) (fun _=>rfl) ?_
     conv=>whnf
     refine callP hc1 (wR _) rfl (fun _=>rfl) (fun _=>rfl) ?_
     conv=>whnf
     refine callMp c_readersV (wR _) rfl rfl (fun _=>rfl) readerV_ren ?_
     conv=>whnf
     refine⟨some (1,.fn (.func 80) [] []),rfl,?_⟩
     conv=>whnf
     refine callG (SC.nilV hcall) [0] (Lies.one' rfl (by simp)) (wR _) rfl rfl (put1 [] ([]++[(pairP fb).1]) _ _) rfl ?_
     conv=>whnf
     exact⟨L.length - (0+1),n0,((0+1,next),Vw.add ⟨[],[]⟩ (.inr (pairP fb).1)),⟨n1,np,n2,n3,nr,fun q=>by cases q⟩,rfl,⟨rfl,rfl,w4,rfl,trivial⟩,[],rfl,rfl⟩
    ·skip
     have hcall:=c_rd2 R S fb (by omega) hb.2.1
     rw[hok] at hcall
     conv=>whnf
     refine GIf.mk (fun h=>?_) (fun h=>?_)<;>conv=>whnf
     rotate_left
     ·exfalso;exact hr0 (by simpa using h)
     refine callP hc0 (wR _) rfl (fun _=>rfl) (fun _=>rfl) ?_
     conv=>whnf
     refine callP hc1 (wR _) rfl (fun _=>rfl) (fun _=>rfl) ?_
     conv=>whnf
     refine callMp c_readersV (wR _) rfl rfl (fun _=>rfl) readerV_ren ?_
     conv=>whnf
     refine⟨some (1,.fn (.func 80) [] []),rfl,?_⟩
     conv=>whnf
     refine callG hcall [0,2,3] (lies3 R S _ _) (wR _) rfl rfl (put3 R R (S++[(pairP fb).1]) S _ _ _ _ _) rfl ?_
     conv=>whnf
     exact⟨L.length - ((m+1)+1),n0,(((m+1)+1,next),Vw.add ⟨R,S⟩ (.inr (pairP fb).1)),⟨n1,np,n2,n3,nr,fun q=>by cases q⟩,rfl,⟨rfl,rfl,w4,rfl,trivial⟩,[_],rfl,rfl⟩
   ·rw[hok] at hnone
    have hbad:=hnone rfl
    clear hnone hsome
    rcases n with _|m
    ·obtain⟨hv0,_⟩:=hz rfl
     obtain⟨rfl,rfl⟩:R=[]/\S=[]:=by cases hv0;exact⟨rfl,rfl⟩
     have hcall:=c_rd2 [] [] fb (by omega) (zL _)
     rw[hok] at hcall
     conv=>whnf
     refine GIf.mk (fun h=>?_) (fun h=>?_)<;>conv=>whnf
     rotate_left
     ·exfalso;exact hr0 (by simpa using h)
     refine callP hc0 (wR _) rfl (fun _=>rfl) (fun _=>rfl) ?_
     conv=>whnf
     refine callP hc1 (wR _) rfl (fun _=>rfl) (fun _=>rfl) ?_
     conv=>whnf
     refine callMp c_readersV (wR _) rfl rfl (fun _=>rfl) readerV_ren ?_
     conv=>whnf
     refine⟨some (1,.fn (.func 80) [] []),rfl,?_⟩
     conv=>whnf
     refine callG (SC.nilV hcall) [0] (Lies.one' rfl (by simp)) (wR _) rfl rfl (put1 [] ([]++[(pairP fb).1]) _ _) rfl ?_
     conv=>whnf
     repeat (refine⟨_,⟨rfl,zL _,rfl,bL rfl⟩,?_⟩;conv=>whnf)
     exact owesX hbad (wk_view _ _ _ _)
    ·skip
     have hcall:=c_rd2 R S fb (by omega) hb.2.1
     rw[hok] at hcall
     conv=>whnf
     refine GIf.mk (fun h=>?_) (fun h=>?_)<;>conv=>whnf
     rotate_left
     ·exfalso;exact hr0 (by simpa using h)
     refine callP hc0 (wR _) rfl (fun _=>rfl) (fun _=>rfl) ?_
     conv=>whnf
     refine callP hc1 (wR _) rfl (fun _=>rfl) (fun _=>rfl) ?_
     conv=>whnf
     refine callMp c_readersV (wR _) rfl rfl (fun _=>rfl) readerV_ren ?_
     conv=>whnf
     refine⟨some (1,.fn (.func 80) [] []),rfl,?_⟩
     conv=>whnf
     refine callG hcall [0,2,3] (lies3 R S _ _) (wR _) rfl rfl (put3 R R (S++[(pairP fb).1]) S _ _ _ _ _) rfl ?_
     conv=>whnf
     repeat (refine⟨_,⟨rfl,zL _,rfl,bL rfl⟩,?_⟩;conv=>whnf)
     exact owesX hbad (wk_view _ _ _ _)
  have hbad:=hnone (lineP_no hcl ha1 ha2)
  clear hnone hsome hcl
  rcases n with _|m
  ·obtain⟨hv0,_⟩:=hz rfl
   obtain⟨rfl,rfl⟩:R=[]/\S=[]:=by cases hv0;exact⟨rfl,rfl⟩
   conv=>whnf
   refine GIf.mk (fun h=>?_) (fun h=>?_)<;>conv=>whnf
   rotate_left
   ·exfalso;exact hr0 (by simpa using h)
   refine callP hc0 (wR _) rfl (fun _=>rfl) (fun _=>rfl) ?_
   conv=>whnf
   refine callP hc1 (wR _) rfl (fun _=>rfl) (fun _=>rfl) ?_
   conv=>whnf
   refine callMp c_readersV (wR _) rfl rfl (fun _=>rfl) readerV_ren ?_
   conv=>whnf
   refine⟨none,find_no ha1 ha2,?_⟩
   conv=>whnf
   repeat (refine⟨_,⟨rfl,zL _,rfl,bL rfl⟩,?_⟩;conv=>whnf)
   exact owesX hbad (wk_view _ _ _ _)
  ·skip
   conv=>whnf
   refine GIf.mk (fun h=>?_) (fun h=>?_)<;>conv=>whnf
   rotate_left
   ·exfalso;exact hr0 (by simpa using h)
   refine callP hc0 (wR _) rfl (fun _=>rfl) (fun _=>rfl) ?_
   conv=>whnf
   refine callP hc1 (wR _) rfl (fun _=>rfl) (fun _=>rfl) ?_
   conv=>whnf
   refine callMp c_readersV (wR _) rfl rfl (fun _=>rfl) readerV_ren ?_
   conv=>whnf
   refine⟨none,find_no ha1 ha2,?_⟩
   conv=>whnf
   repeat (refine⟨_,⟨rfl,zL _,rfl,bL rfl⟩,?_⟩;conv=>whnf)
   exact owesX hbad (wk_view _ _ _ _)
 ·skip
  rw[c1] at hc0
  dsimp only at hc0
  have hpl:L.drop n=[rest]:=by rw[<-hpc,pieces_cut (by simp),c1];rfl
  have hn1:n=L.length - 1:=by
   have h6:=congrArg List.length hpl
   simp at h6
   omega
  have hle:last=rest:=by
   have h7:=congrArg (fun l:List By=>l[0]?) hpl
   simp only[List.getElem?_drop] at h7
   rw[show n+0=L.length - 1 by omega,hlast] at h7
   exact Option.some.inj h7
  rw[drop_end (by omega)] at hG
  replace hG:Sum.inr ⟨R,S⟩=goL L.dropLast nilV 0:=hG
  rw[<-hG] at hX
  have hbad:X=(nilV,n,2):=by rw[<-hX];show(if _ then _ else _)=_;rw[if_pos (.inl (by rw[hle];exact hr0)),hn1]
  have hc1:=c_Cut rest [32] (by omega)
  generalize hcl:Lib.cut rest [32]=c at hc1
  obtain⟨fa,fb,fk⟩:=c
  dsimp only at hc1
  clear hG hX hV hVt hlast hne hlns hL1 hpl hpc hLe hcl
  by_cases ha1:fa=recW
  ·subst ha1
   rcases n with _|m
   ·obtain⟨hv0,_⟩:=hz rfl
    obtain⟨rfl,rfl⟩:R=[]/\S=[]:=by cases hv0;exact⟨rfl,rfl⟩
    conv=>whnf
    refine GIf.mk (fun h=>?_) (fun h=>?_)<;>conv=>whnf
    rotate_left
    ·exfalso;exact hr0 (by simpa using h)
    refine callP hc0 (wR _) rfl (fun _=>rfl) (fun _=>rfl) ?_
    conv=>whnf
    refine callP hc1 (wR _) rfl (fun _=>rfl) (fun _=>rfl) ?_
    conv=>whnf
    refine callMp c_readersV (wR _) rfl rfl (fun _=>rfl) readerV_ren ?_
    conv=>whnf
    refine⟨some (0,.fn (.func 76) [] []),rfl,?_⟩
    conv=>whnf
    repeat (refine⟨_,⟨rfl,zL _,rfl,bL rfl⟩,?_⟩;conv=>whnf)
    exact owesX hbad (wk_view _ _ _ _)
   ·skip
    conv=>whnf
    refine GIf.mk (fun h=>?_) (fun h=>?_)<;>conv=>whnf
    rotate_left
    ·exfalso;exact hr0 (by simpa using h)
    refine callP hc0 (wR _) rfl (fun _=>rfl) (fun _=>rfl) ?_
    conv=>whnf
    refine callP hc1 (wR _) rfl (fun _=>rfl) (fun _=>rfl) ?_
    conv=>whnf
    refine callMp c_readersV (wR _) rfl rfl (fun _=>rfl) readerV_ren ?_
    conv=>whnf
    refine⟨some (0,.fn (.func 76) [] []),rfl,?_⟩
    conv=>whnf
    repeat (refine⟨_,⟨rfl,zL _,rfl,bL rfl⟩,?_⟩;conv=>whnf)
    exact owesX hbad (wk_view _ _ _ _)
  by_cases ha2:fa=setW
  ·subst ha2
   rcases n with _|m
   ·obtain⟨hv0,_⟩:=hz rfl
    obtain⟨rfl,rfl⟩:R=[]/\S=[]:=by cases hv0;exact⟨rfl,rfl⟩
    conv=>whnf
    refine GIf.mk (fun h=>?_) (fun h=>?_)<;>conv=>whnf
    rotate_left
    ·exfalso;exact hr0 (by simpa using h)
    refine callP hc0 (wR _) rfl (fun _=>rfl) (fun _=>rfl) ?_
    conv=>whnf
    refine callP hc1 (wR _) rfl (fun _=>rfl) (fun _=>rfl) ?_
    conv=>whnf
    refine callMp c_readersV (wR _) rfl rfl (fun _=>rfl) readerV_ren ?_
    conv=>whnf
    refine⟨some (1,.fn (.func 80) [] []),rfl,?_⟩
    conv=>whnf
    repeat (refine⟨_,⟨rfl,zL _,rfl,bL rfl⟩,?_⟩;conv=>whnf)
    exact owesX hbad (wk_view _ _ _ _)
   ·skip
    conv=>whnf
    refine GIf.mk (fun h=>?_) (fun h=>?_)<;>conv=>whnf
    rotate_left
    ·exfalso;exact hr0 (by simpa using h)
    refine callP hc0 (wR _) rfl (fun _=>rfl) (fun _=>rfl) ?_
    conv=>whnf
    refine callP hc1 (wR _) rfl (fun _=>rfl) (fun _=>rfl) ?_
    conv=>whnf
    refine callMp c_readersV (wR _) rfl rfl (fun _=>rfl) readerV_ren ?_
    conv=>whnf
    refine⟨some (1,.fn (.func 80) [] []),rfl,?_⟩
    conv=>whnf
    repeat (refine⟨_,⟨rfl,zL _,rfl,bL rfl⟩,?_⟩;conv=>whnf)
    exact owesX hbad (wk_view _ _ _ _)
  rcases n with _|m
  ·obtain⟨hv0,_⟩:=hz rfl
   obtain⟨rfl,rfl⟩:R=[]/\S=[]:=by cases hv0;exact⟨rfl,rfl⟩
   conv=>whnf
   refine GIf.mk (fun h=>?_) (fun h=>?_)<;>conv=>whnf
   rotate_left
   ·exfalso;exact hr0 (by simpa using h)
   refine callP hc0 (wR _) rfl (fun _=>rfl) (fun _=>rfl) ?_
   conv=>whnf
   refine callP hc1 (wR _) rfl (fun _=>rfl) (fun _=>rfl) ?_
   conv=>whnf
   refine callMp c_readersV (wR _) rfl rfl (fun _=>rfl) readerV_ren ?_
   conv=>whnf
   refine⟨none,find_no ha1 ha2,?_⟩
   conv=>whnf
   repeat (refine⟨_,⟨rfl,zL _,rfl,bL rfl⟩,?_⟩;conv=>whnf)
   exact owesX hbad (wk_view _ _ _ _)
  ·skip
   conv=>whnf
   refine GIf.mk (fun h=>?_) (fun h=>?_)<;>conv=>whnf
   rotate_left
   ·exfalso;exact hr0 (by simpa using h)
   refine callP hc0 (wR _) rfl (fun _=>rfl) (fun _=>rfl) ?_
   conv=>whnf
   refine callP hc1 (wR _) rfl (fun _=>rfl) (fun _=>rfl) ?_
   conv=>whnf
   refine callMp c_readersV (wR _) rfl rfl (fun _=>rfl) readerV_ren ?_
   conv=>whnf
   refine⟨none,find_no ha1 ha2,?_⟩
   conv=>whnf
   repeat (refine⟨_,⟨rfl,zL _,rfl,bL rfl⟩,?_⟩;conv=>whnf)
   exact owesX hbad (wk_view _ _ _ _)
end Go.Proofs.YtldggonlkafckaaGreatDoor
