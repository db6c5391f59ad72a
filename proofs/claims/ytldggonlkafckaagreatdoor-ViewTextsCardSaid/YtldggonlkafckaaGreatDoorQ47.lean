/-
  A part of the proof of ViewTexts.
-/
import Derived.Test.YtldggonlkafckaaGreatDoorQ46
set_option linter.all false
namespace Go.Proofs.YtldggonlkafckaaGreatDoor
open Go.RowKit
set_option maxRecDepth 100000
set_option linter.unusedVariables false
theorem PF.put [MaxL] {e:Nat->Nat} {φ:Fr} {d:Nat} {g:GV} (h:∀t,(φ t).ren e=φ t) (hg:g.ren e=g):∀t,(fpt φ d g t).ren e=fpt φ d g t:=fun t=>by
 rw[fpt_eq]
 by_cases ht:t=d
 ·subst ht;rw[fput_same];exact hg
 ·rw[fput_other ht];exact h t
theorem PF.start [MaxL] {e:Nat->Nat} {args:List GV} (h:args.map (GV.ren e)=args):∀t,(gstart args t).ren e=gstart args t:=fun t=>by
 unfold gstart
 rw[List.getD_eq_getElem?_getD]
 have h1:=congrArg (fun l:List GV=>l[t]?) h
 simp only[List.getElem?_map] at h1
 cases h2:args[t]? with
 |none=>rfl
 |some g=>rw[h2] at h1;simpa using h1
def oE (k:Nat):Nat->Nat
 |0=>0
 |_+1=>k
def pvH (R:List VwR) (S:List (By×By)):List GObj:=[.box 25 [.sl (.own 1) (recsG R),.sl (.own 2) (itG S)],.own R.length (oE 4 R.length) (oE 68 R.length),.own S.length (oE 2 S.length) (oE 71 S.length)]
theorem pvH_own [MaxL] (R:List VwR) (S:List (By×By)):Own0 (pvH R S):=fun e he=>by
 show[GObj.box _ [(GV.sl (.own 1) (recsG R)).ren e,(GV.sl (.own 2) (itG S)).ren e],_,_]=_
 rw[ren_own (he 1 (by simp[pvH])) (recsG_cl R),ren_own (he 2 (by simp[pvH])) (itG_cl S)];rfl
theorem pvH_held [MaxL] (R:List VwR) (S:List (By×By)):(pvH R S).all GObj.notHeld=true:=rfl
def itS (f:By->By×By):List By->GV
 |[]=>.sl .full []
 |x::l=>.sl (.own 11) (itG ((x::l).map f))
def okF (b:Bool) (d:List By):Bool:=d.foldl (fun b x=>b&&(pairP x).2) b
theorem okF_snoc (b:Bool) (d:List By) (x:By):okF b (d++[x])=(okF b d&&(pairP x).2):=by unfold okF;rw[List.foldl_append];rfl
theorem okF_all (b:Bool):∀d:List By,okF b d=(b&&d.all fun x=>(pairP x).2)
 |[]=>(Bool.and_true b).symm
 |x::d=>by
  show okF (b&&(pairP x).2) d=_
  rw[okF_all _ d,Bool.and_assoc];rfl
def itO:List By->List GObj
 |[]=>[]
 |x::l=>[.own 1 2 70,.own (l.length+1) 2 70]
theorem cut_len (s p:By):(Lib.cut s p).1.length<=s.length/\(Lib.cut s p).2.1.length<=s.length:=by
 rcases cut_cases s p with⟨a,b,e,h,_⟩|⟨h,_⟩
 ·rw[h]
  have:=congrArg List.length e
  simp only[List.length_append] at this
  exact⟨by show a.length<=_;omega,by show b.length<=_;omega⟩
 ·rw[h];simp
theorem mrc [MaxL] {e:Nat->Nat} {x:GObj} {l:List GObj} (hx:x.ren e=x) (hl:l.map (GObj.ren e)=l):(x::l).map (GObj.ren e)=x::l:=by rw[List.map_cons,hx,hl]
theorem loop_ren [MaxL] {e:Nat->Nat} {st:LoopState} {pe:Option Code} {n:Nat} {φ:Fr} {ps:Array Tmp} {asg body:Code} {rd:Nat} (h:∀t,(φ t).ren e=φ t) (h8:e rd=rd):(GObj.loop st pe n φ ps asg body rd).ren e=.loop st pe n φ ps asg body rd:=by
 show GObj.loop st pe n (fun t=>(φ t).ren e) ps asg body (e rd)=_
 rw[h8,show(fun t=>(φ t).ren e)=φ from funext h]
theorem SC.castS [MaxL] {P:Program} {k:FuncId} {a:List GV} {s s' s2:List GObj} {r:GRes} (h:SC P k a s r s') (e:s'=s2):SC P k a s r s2:=e▸h
def rawB (R:List VwR) (S:List (By×By)) (a b:By) (l:List (By×By)) (o:By) (k:Nat):GObj:=.box 25 [.sl (.own 1) (recsG R++[.agg [.s a,.s b,.sl (.own k) (itG l),.s o]]),.sl (.own 2) (itG S)]
theorem rawB_ren [MaxL] (R:List VwR) (S:List (By×By)) (a b:By) (l:List (By×By)) (o:By) {k k':Nat} {f:Nat->Nat} (h1:f 1=1) (h2:f 2=2) (h3:f k=k'):(rawB R S a b l o k).ren f=rawB R S a b l o k':=by
 show GObj.box _ [.sl (.own (f 1)) (GV.renL f (recsG R++[.agg [.s a,.s b,.sl (.own k) (itG l),.s o]])),.sl (.own (f 2)) (GV.renL f (itG S))]=_
 rw[renL_map,renL_map,List.map_append,recsG_cl R f,itG_cl S f,h1,h2]
 show GObj.box _ [.sl (.own 1) (recsG R++[.agg [.s a,.s b,(GV.sl (.own k) (itG l)).ren f,.s o]]),_]=_
 rw[show(GV.sl (.own k) (itG l)).ren f=.sl (.own k') (itG l) by rw[GV.ren,renL_map,itG_cl l f];show GV.sl (.own (f k)) _=_;rw[h3]]
 rfl
set_option maxHeartbeats 4000000 in
theorem c_rd1r [MaxL] (R:List VwR) (S:List (By×By)) (s:By) (hs:s.length<=20000) (hR:R.length<=100000) (c1a c1b:By) (c1c:Bool) (c2a c2b:By) (c2c:Bool) (c3a c3b:By) (c3c:Bool) (o1:By) (o2:Bool) (ba bb:Bool) (p0:By) (pl:List By) (ON:By) (X B:Bool)
  (f1:SC Tryz.prog 39 [.s s,.s opW] [] (.val (.tup [.s c1a,.s c1b,.b c1c])) []) (f2:SC Tryz.prog 39 [.s c1b,.s clW] [] (.val (.tup [.s c2a,.s c2b,.b c2c])) []) (f3:SC Tryz.prog 39 [.s c1a,.s ofW] [] (.val (.tup [.s c3a,.s c3b,.b c3c])) [])
  (fp:SC Tryz.prog 79 [.s c2b,.s onlyW] [] (.val (.tup [.s o1,.b o2])) []) (la:SC Tryz.prog 78 [.s c3a] [] (.val (.b ba)) []) (lb:SC Tryz.prog 78 [.s c3b] [] (.val (.b bb)) [])
  (hc2:c2a.length<=100000) (hpe:pieces semi c2a=p0::pl) (hB:okF c3c (p0::pl)=B) (hONe:ON=if c2b=[] then[] else o1) (hXe:X=(decide (c2b=[])||(o2&&decide (o1≠[])))):
  SC Tryz.prog 76 [.ptr 0 0,.s s] (pvH R S) (.val (.b (c1c&&c2c&&(B&&X)&&ba&&bb))) [rawB R S c3a c3b ((p0::pl).map fun x=>(pairP x).1) ON 3,.own (R.length+1) 4 68,.own S.length (oE 2 S.length) (oE 71 S.length),.own (pl.length+1) 2 70]:=by
 have fs:=c_SplitSeq c2a semi
 have hdis:(oE 4 R.length=4/\oE 68 R.length=68)∨(R.length=0/\oE 4 R.length=0):=by
  cases R with
  |nil=>exact .inr ⟨rfl,rfl⟩
  |cons r R=>exact .inl ⟨rfl,rfl⟩
 have hend:∀(V:Bool) (objs:List GObj) (lo:Nat) (ds:List GDef),objs[0]?=some (rawB R S c3a c3b ((p0::pl).map fun x=>(pairP x).1) ON 11)->objs[1]?=some (.own (R.length+1) 4 68)->objs[2]?=some (.own S.length (oE 2 S.length) (oE 71 S.length))->objs[11]?=some (.own (pl.length+1) 2 70)->(V=(c1c&&c2c&&(B&&X)&&ba&&bb))->Owes (pvH R S) (.val (.b (c1c&&c2c&&(B&&X)&&ba&&bb))) [rawB R S c3a c3b ((p0::pl).map fun x=>(pairP x).1) ON 3,.own (R.length+1) 4 68,.own S.length (oE 2 S.length) (oE 71 S.length),.own (pl.length+1) 2 70] (.val (.b V)) ⟨objs,lo,ds⟩:=fun V objs lo ds g0 g1 g2 g3 gV=>by
  have e1:emb [0,1,2,11] objs.length 1=1:=emb_lt (by decide)
  have e2:emb [0,1,2,11] objs.length 2=2:=emb_lt (by decide)
  have e3:emb [0,1,2,11] objs.length 3=11:=emb_lt (by decide)
  refine⟨[0,1,2,11],⟨by decide,rfl,fun i k x h1 h2=>?_,fun x hx=>?_⟩,fun i hi=>?_,?_⟩
  ·match i,h1,h2 with
   |0,h1,h2=>cases h1;cases h2;rw[rawB_ren R S _ _ _ _ e1 e2 e3];exact g0
   |1,h1,h2=>cases h1;cases h2;exact g1
   |2,h1,h2=>cases h1;cases h2;exact g2
   |3,h1,h2=>cases h1;cases h2;exact g3
   |i+4,h1,h2=>cases h1
  ·simp at hx
   rcases hx with rfl|rfl|rfl|rfl<;>simp[rawB]
  ·match i,hi with
   |0,_=>rfl
   |1,_=>rfl
   |2,_=>rfl
   |i+3,hi=>simp[pvH] at hi;omega
  ·rw[gV];exact WkRes.refl _
 obtain⟨lst,hlst⟩:∃lst,lst=(p0::pl).getLastD []:=⟨_,rfl⟩
 have heq:∀L:GObj,sqH (fun _=>.box 25 [.sl (.own 1) (recsG R),.sl (.own 2) (itG S)]) (fun _=>.own R.length (oE 4 R.length) (oE 68 R.length)) (fun _=>.own S.length (oE 2 S.length) (oE 71 S.length)) (fun d=>.box 4 [.b (okF c3c d)]) (fun d=>.box 68 [.s c3a,.s c3b,itS (fun x=>(pairP x).1) d,.s []]) itO L semi (pieces semi c2a) ((pieces semi c2a).getLastD [])=[.box 25 [.sl (.own 1) (recsG R),.sl (.own 2) (itG S)],.own R.length (oE 4 R.length) (oE 68 R.length),.own S.length (oE 2 S.length) (oE 71 S.length),.box 4 [.b B],.box 68 [.s c3a,.s c3b,.sl (.own 11) (itG ((p0::pl).map fun x=>(pairP x).1)),.s []],.box 9 [.s lst],.box 9 [.s semi],.box 3 [.i .i64 0],.dfr,L,.own 1 2 70,.own (pl.length+1) 2 70]:=fun L=>by
  rw[hpe,hlst,<-hB];rfl
 refine SC.of_gwp noM mixed Tryz.func76 rfl (bL rfl) (by simp[pvH]) rfl ?_
 conv=>whnf
 refine callP f1 (wR _) rfl (fun _=>rfl) (fun _=>rfl) ?_
 conv=>whnf
 refine callP f2 (wR _) rfl (fun _=>rfl) (fun _=>rfl) ?_
 conv=>whnf
 refine callP f3 (wR _) rfl (fun _=>rfl) (fun _=>rfl) ?_
 conv=>whnf
 repeat (refine⟨_,⟨rfl,zL _,rfl,bL rfl⟩,?_⟩;conv=>whnf)
 refine callG fs [] (objs':=pvH R S++[.box 4 [.b c3c],.box 68 [.s c3a,.s c3b,.sl .full [],.s []],.box 9 [.s c2a],.box 9 [.s semi],.box 3 [.i .i64 0]]) Lies.nil (wR _) rfl rfl rfl rfl ?_
 conv=>whnf
 refine⟨.val (.tup []),⟨[.box 25 [.sl (.own 1) (recsG R),.sl (.own 2) (itG S)],.own R.length (oE 4 R.length) (oE 68 R.length),.own S.length (oE 2 S.length) (oE 71 S.length),.box 4 [.b B],.box 68 [.s c3a,.s c3b,.sl (.own 11) (itG ((p0::pl).map fun x=>(pairP x).1)),.s []],.box 9 [.s lst],.box 9 [.s semi],.box 3 [.i .i64 0],.dfr,(.loop .ready none _ _ _ _ _ 8),.own 1 2 70,.own (pl.length+1) 2 70],0,[.coll 8]⟩,SC.factAll (SC.castS (c_split1 (fun _=>.box 25 [.sl (.own 1) (recsG R),.sl (.own 2) (itG S)]) (fun _=>.own R.length (oE 4 R.length) (oE 68 R.length)) (fun _=>.own S.length (oE 2 S.length) (oE 71 S.length)) (fun d=>.box 4 [.b (okF c3c d)]) (fun d=>.box 68 [.s c3a,.s c3b,itS (fun x=>(pairP x).1) d,.s []]) itO (.loop .ready none _ _ _ _ _ 8) semi c2a (by simp[semi]) (by simp[semi]) hc2 rfl ?hh0 ?hb) (heq _)) rfl rfl ?hh,?_⟩
 case hh0=>
  intro done rest
  cases done<;>simp only[sqH,itO,List.all_cons]<;>rfl
 case hh=>
  intro x hx e
  subst e
  have h1:=List.all_eq_true.1 (show List.all _ GObj.notHeld=true by simp only[sqH,itO,List.all_cons];rfl) _ hx
  cases h1
 case hb=>
  intro done rest x hd hx
  have fx:=c_Cut x ofW (by omega)
  have qx:=cut_len x ofW
  have hpx:pairP x=(((Lib.cut x ofW).1,(Lib.cut x ofW).2.1),(Lib.cut x ofW).2.2&&letters (Lib.cut x ofW).1&&letters (Lib.cut x ofW).2.1):=rfl
  have e3:=okF_snoc c3c done x
  generalize Lib.cut x ofW=cx at fx qx hpx
  obtain⟨xa,xb,xc⟩:=cx
  dsimp only at fx qx hpx
  have la:=c_letters xa (by omega)
  have lb:=c_letters xb (by omega)
  rw[hpx] at e3
  dsimp only at e3
  have e4:∀y ys,itS (fun x=>(pairP x).1) ((y::ys)++[x])=.sl (.own 11) (itG ((y::ys).map (fun x=>(pairP x).1)++[(xa,xb)])):=fun y ys=>by
   show GV.sl (.own 11) (itG ((y::(ys++[x])).map (fun x=>(pairP x).1)))=_
   rw[List.map_cons,List.map_append,List.map_cons,List.map_cons,List.map_nil,hpx];rfl
  have e5:∀y ys,itO ((y::ys)++[x])=[.own 1 2 70,.own ((y::ys).length+1) 2 70]:=fun y ys=>by
   show[_,GObj.own ((ys++[x]).length+1) _ _]=_
   rw[List.length_append];rfl
  have e6:itS (fun x=>(pairP x).1) ([]++[x])=.sl (.own 11) (itG [(xa,xb)]):=by
   show GV.sl (.own 11) (itG [(pairP x).1])=_
   rw[hpx]
  have e7:itO ([]++[x])=[.own 1 2 70,.own 1 2 70]:=rfl
  unfold sqH
  dsimp only
  rw[e3]
  clear hB hXe hend heq hlst hpe
  generalize okF c3c done=B
  clear e3 hpx f1 f2 f3 fs fp
  generalize letters xa=ba at la⊢
  generalize letters xb=bb at lb⊢
  generalize hF:(fun x=>(pairP x).1)=F at e4 e6⊢
  clear hF
  rcases done with _|⟨y,ys⟩
  ·rw[e6,e7]
   rcases B with _|_
   ·skip
    refine Fact.yld noM mixed (r:=9) rfl rfl (by kernel_rfl) rfl (by simp only[List.all_cons,itO];rfl) (by simp[itO]) rfl rfl ?_
    conv=>whnf
    refine callP fx (wR _) rfl (fun _=>rfl) (fun _=>rfl) ?_
    conv=>whnf
    refine⟨_,⟨rfl,zL _,rfl,bL rfl⟩,?_⟩
    conv=>whnf
    refine⟨⟨rfl,rfl,bL rfl⟩,itG [(xa,xb)],1,⟨rfl,rfl⟩,?_⟩
    conv=>whnf
    refine⟨_,⟨rfl,zL _,rfl,bL rfl⟩,?_⟩
    conv=>whnf
    rfl
   rcases xc with _|_
   ·skip
    refine Fact.yld noM mixed (r:=9) rfl rfl (by kernel_rfl) rfl (by simp only[List.all_cons,itO];rfl) (by simp[itO]) rfl rfl ?_
    conv=>whnf
    refine callP fx (wR _) rfl (fun _=>rfl) (fun _=>rfl) ?_
    conv=>whnf
    refine⟨_,⟨rfl,zL _,rfl,bL rfl⟩,?_⟩
    conv=>whnf
    refine⟨⟨rfl,rfl,bL rfl⟩,itG [(xa,xb)],1,⟨rfl,rfl⟩,?_⟩
    conv=>whnf
    refine⟨_,⟨rfl,zL _,rfl,bL rfl⟩,?_⟩
    conv=>whnf
    rfl
   rcases ba with _|_
   ·skip
    refine Fact.yld noM mixed (r:=9) rfl rfl (by kernel_rfl) rfl (by simp only[List.all_cons,itO];rfl) (by simp[itO]) rfl rfl ?_
    conv=>whnf
    refine callP fx (wR _) rfl (fun _=>rfl) (fun _=>rfl) ?_
    conv=>whnf
    refine callP la (wR _) rfl (fun _=>rfl) (.b _) ?_
    conv=>whnf
    refine⟨_,⟨rfl,zL _,rfl,bL rfl⟩,?_⟩
    conv=>whnf
    refine⟨⟨rfl,rfl,bL rfl⟩,itG [(xa,xb)],1,⟨rfl,rfl⟩,?_⟩
    conv=>whnf
    refine⟨_,⟨rfl,zL _,rfl,bL rfl⟩,?_⟩
    conv=>whnf
    rfl
   rcases bb with _|_
   ·skip
    refine Fact.yld noM mixed (r:=9) rfl rfl (by kernel_rfl) rfl (by simp only[List.all_cons,itO];rfl) (by simp[itO]) rfl rfl ?_
    conv=>whnf
    refine callP fx (wR _) rfl (fun _=>rfl) (fun _=>rfl) ?_
    conv=>whnf
    refine callP la (wR _) rfl (fun _=>rfl) (.b _) ?_
    conv=>whnf
    refine callP lb (wR _) rfl (fun _=>rfl) (.b _) ?_
    conv=>whnf
    refine⟨_,⟨rfl,zL _,rfl,bL rfl⟩,?_⟩
    conv=>whnf
    refine⟨⟨rfl,rfl,bL rfl⟩,itG [(xa,xb)],1,⟨rfl,rfl⟩,?_⟩
    conv=>whnf
    refine⟨_,⟨rfl,zL _,rfl,bL rfl⟩,?_⟩
    conv=>whnf
    rfl
   refine Fact.yld noM mixed (r:=9) rfl rfl (by kernel_rfl) rfl (by simp only[List.all_cons,itO];rfl) (by simp[itO]) rfl rfl ?_
   conv=>whnf
   refine callP fx (wR _) rfl (fun _=>rfl) (fun _=>rfl) ?_
   conv=>whnf
   refine callP la (wR _) rfl (fun _=>rfl) (.b _) ?_
   conv=>whnf
   refine callP lb (wR _) rfl (fun _=>rfl) (.b _) ?_
   conv=>whnf
   refine⟨_,⟨rfl,zL _,rfl,bL rfl⟩,?_⟩
   conv=>whnf
   refine⟨⟨rfl,rfl,bL rfl⟩,itG [(xa,xb)],1,⟨rfl,rfl⟩,?_⟩
   conv=>whnf
   refine⟨_,⟨rfl,zL _,rfl,bL rfl⟩,?_⟩
   conv=>whnf
   rfl
  ·rw[e4,e5]
   have hyl:(y::ys).length<=100000:=by omega
   refine Fact.forget (extra:=[.own 1 2 70]) ?fy rfl (by simp[itO]) ?own ?held (fun _=>rfl) ?held0
   case held=>simp only[List.all_cons];rfl
   case held0=>simp only[List.all_cons,itO];rfl
   case own=>
    intro e he
    have hh:∀i,i<12->e i=i:=fun i hi=>he i (by simp only[List.length_cons,List.length_nil];omega)
    refine mrc ?_ (mrc rfl (mrc rfl (mrc rfl (mrc ?_ (mrc rfl (mrc rfl (mrc rfl (mrc rfl (mrc (loop_ren ?_ (hh 8 (by omega))) (mrc rfl (mrc rfl rfl)))))))))))
    ·show GObj.box _ [(GV.sl (.own 1) (recsG R)).ren e,(GV.sl (.own 2) (itG S)).ren e]=_
     rw[ren_own (hh 1 (by omega)) (recsG_cl R),ren_own (hh 2 (by omega)) (itG_cl S)]
    ·show GObj.box _ [.s c3a,.s c3b,(GV.sl (.own 11) (itG _)).ren e,.s []]=_
     rw[ren_own (hh 11 (by omega)) (itG_cl _)]
    ·repeat' first
      |exact PF.start (by show[GV.ptr (e 0) 0,.s s]=_;rw[hh 0 (by omega)])
      |refine PF.put ?_ ?_
      |exact rfl
      |(show GV.ptr (e 3) 0=GV.ptr 3 0;rw[hh 3 (by omega)])
      |(show GV.ptr (e 4) 0=GV.ptr 4 0;rw[hh 4 (by omega)])
      |(show GV.fn (.func _) [] [.ptr (e 6) 0,.ptr (e 5) 0,.ptr (e 7) 0]=.fn (.func _) [] [.ptr 6 0,.ptr 5 0,.ptr 7 0];rw[hh 5 (by omega),hh 6 (by omega),hh 7 (by omega)])
   case fy=>
    rcases B with _|_
    ·skip
     refine Fact.yld noM mixed (r:=9) rfl rfl (by kernel_rfl) rfl (by simp only[List.all_cons,itO];rfl) (by simp[itO]) rfl rfl ?_
     conv=>whnf
     refine callP fx (wR _) rfl (fun _=>rfl) (fun _=>rfl) ?_
     conv=>whnf
     refine⟨_,⟨rfl,zL _,rfl,bL rfl⟩,?_⟩
     conv=>whnf
     refine⟨⟨rfl,itG_ok _,by show(itG ((y::ys).map F)).length+1<=4294967296;rw[itG_len,List.length_map];simp only[List.length_cons] at hd⊢;omega⟩,itG ((y::ys).map F++[(xa,xb)]),(y::ys).length+1,⟨by unfold itG;rw[List.map_append];rfl,by show _=(itG ((y::ys).map F)).length+1;rw[itG_len,List.length_map]⟩,?_⟩
     conv=>whnf
     refine⟨⟨zL _,by show _=(itG ((y::ys).map F)).length;rw[itG_len,List.length_map];rfl,.inl ⟨rfl,rfl⟩⟩,?_⟩
     conv=>whnf
     refine⟨_,⟨rfl,zL _,rfl,bL rfl⟩,?_⟩
     conv=>whnf
     rfl
    rcases xc with _|_
    ·skip
     refine Fact.yld noM mixed (r:=9) rfl rfl (by kernel_rfl) rfl (by simp only[List.all_cons,itO];rfl) (by simp[itO]) rfl rfl ?_
     conv=>whnf
     refine callP fx (wR _) rfl (fun _=>rfl) (fun _=>rfl) ?_
     conv=>whnf
     refine⟨_,⟨rfl,zL _,rfl,bL rfl⟩,?_⟩
     conv=>whnf
     refine⟨⟨rfl,itG_ok _,by show(itG ((y::ys).map F)).length+1<=4294967296;rw[itG_len,List.length_map];simp only[List.length_cons] at hd⊢;omega⟩,itG ((y::ys).map F++[(xa,xb)]),(y::ys).length+1,⟨by unfold itG;rw[List.map_append];rfl,by show _=(itG ((y::ys).map F)).length+1;rw[itG_len,List.length_map]⟩,?_⟩
     conv=>whnf
     refine⟨⟨zL _,by show _=(itG ((y::ys).map F)).length;rw[itG_len,List.length_map];rfl,.inl ⟨rfl,rfl⟩⟩,?_⟩
     conv=>whnf
     refine⟨_,⟨rfl,zL _,rfl,bL rfl⟩,?_⟩
     conv=>whnf
     rfl
    rcases ba with _|_
    ·skip
     refine Fact.yld noM mixed (r:=9) rfl rfl (by kernel_rfl) rfl (by simp only[List.all_cons,itO];rfl) (by simp[itO]) rfl rfl ?_
     conv=>whnf
     refine callP fx (wR _) rfl (fun _=>rfl) (fun _=>rfl) ?_
     conv=>whnf
     refine callP la (wR _) rfl (fun _=>rfl) (.b _) ?_
     conv=>whnf
     refine⟨_,⟨rfl,zL _,rfl,bL rfl⟩,?_⟩
     conv=>whnf
     refine⟨⟨rfl,itG_ok _,by show(itG ((y::ys).map F)).length+1<=4294967296;rw[itG_len,List.length_map];simp only[List.length_cons] at hd⊢;omega⟩,itG ((y::ys).map F++[(xa,xb)]),(y::ys).length+1,⟨by unfold itG;rw[List.map_append];rfl,by show _=(itG ((y::ys).map F)).length+1;rw[itG_len,List.length_map]⟩,?_⟩
     conv=>whnf
     refine⟨⟨zL _,by show _=(itG ((y::ys).map F)).length;rw[itG_len,List.length_map];rfl,.inl ⟨rfl,rfl⟩⟩,?_⟩
     conv=>whnf
     refine⟨_,⟨rfl,zL _,rfl,bL rfl⟩,?_⟩
     conv=>whnf
     rfl
    rcases bb with _|_
    ·skip
     refine Fact.yld noM mixed (r:=9) rfl rfl (by kernel_rfl) rfl (by simp only[List.all_cons,itO];rfl) (by simp[itO]) rfl rfl ?_
     conv=>whnf
     refine callP fx (wR _) rfl (fun _=>rfl) (fun _=>rfl) ?_
     conv=>whnf
     refine callP la (wR _) rfl (fun _=>rfl) (.b _) ?_
     conv=>whnf
     refine callP lb (wR _) rfl (fun _=>rfl) (.b _) ?_
     conv=>whnf
     refine⟨_,⟨rfl,zL _,rfl,bL rfl⟩,?_⟩
     conv=>whnf
     refine⟨⟨rfl,itG_ok _,by show(itG ((y::ys).map F)).length+1<=4294967296;rw[itG_len,List.length_map];simp only[List.length_cons] at hd⊢;omega⟩,itG ((y::ys).map F++[(xa,xb)]),(y::ys).length+1,⟨by unfold itG;rw[List.map_append];rfl,by show _=(itG ((y::ys).map F)).length+1;rw[itG_len,List.length_map]⟩,?_⟩
     conv=>whnf
     refine⟨⟨zL _,by show _=(itG ((y::ys).map F)).length;rw[itG_len,List.length_map];rfl,.inl ⟨rfl,rfl⟩⟩,?_⟩
     conv=>whnf
     refine⟨_,⟨rfl,zL _,rfl,bL rfl⟩,?_⟩
     conv=>whnf
     rfl
    refine Fact.yld noM mixed (r:=9) rfl rfl (by kernel_rfl) rfl (by simp only[List.all_cons,itO];rfl) (by simp[itO]) rfl rfl ?_
    conv=>whnf
    refine callP fx (wR _) rfl (fun _=>rfl) (fun _=>rfl) ?_
    conv=>whnf
    refine callP la (wR _) rfl (fun _=>rfl) (.b _) ?_
    conv=>whnf
    refine callP lb (wR _) rfl (fun _=>rfl) (.b _) ?_
    conv=>whnf
    refine⟨_,⟨rfl,zL _,rfl,bL rfl⟩,?_⟩
    conv=>whnf
    refine⟨⟨rfl,itG_ok _,by show(itG ((y::ys).map F)).length+1<=4294967296;rw[itG_len,List.length_map];simp only[List.length_cons] at hd⊢;omega⟩,itG ((y::ys).map F++[(xa,xb)]),(y::ys).length+1,⟨by unfold itG;rw[List.map_append];rfl,by show _=(itG ((y::ys).map F)).length+1;rw[itG_len,List.length_map]⟩,?_⟩
    conv=>whnf
    refine⟨⟨zL _,by show _=(itG ((y::ys).map F)).length;rw[itG_len,List.length_map];rfl,.inl ⟨rfl,rfl⟩⟩,?_⟩
    conv=>whnf
    refine⟨_,⟨rfl,zL _,rfl,bL rfl⟩,?_⟩
    conv=>whnf
    rfl
 by_cases hc2b:c2b=[]
 ·have hX:X=true:=by rw[hXe,decide_eq_true hc2b];rfl
  have hON:ON=[]:=by rw[hONe,if_pos hc2b]
  rcases B with _|_
  ·skip
   rcases c1c with _|_
   ·skip
    conv=>whnf
    refine GIf.mk (fun ho=>?_) (fun ho=>?_)<;>conv=>whnf
    ·exfalso;exact absurd hc2b (by simpa using ho)
    refine GDraw.wild _ _ _ rfl rfl rfl (by kernel_rfl) ?_
    conv=>whnf
    refine⟨⟨rfl,recsG_ok R,by show(recsG R).length+1<=4294967296;rw[recsG_len];omega⟩,recsG R++[.agg [.s c3a,.s c3b,.sl (.own 11) (itG ((p0::pl).map fun x=>(pairP x).1)),.s []]],R.length+1,⟨rfl,by show _=(recsG R).length+1;rw[recsG_len]⟩,?_⟩
    conv=>whnf
    refine⟨⟨zL _,by show _=(recsG R).length;rw[recsG_len],hdis⟩,?_⟩
    conv=>whnf
    refine⟨_,⟨rfl,zL _,rfl,bL rfl⟩,?_⟩
    conv=>whnf
    refine hend _ _ _ _ ?_ ?_ ?_ ?_ ?_
    ·rw[hON];rfl
    ·exact rfl
    ·exact rfl
    ·exact rfl
    ·first|rfl|(rw[hX];rfl)|(rw[hX];simp)|simp
   rcases c2c with _|_
   ·skip
    conv=>whnf
    refine GIf.mk (fun ho=>?_) (fun ho=>?_)<;>conv=>whnf
    ·exfalso;exact absurd hc2b (by simpa using ho)
    refine GDraw.wild _ _ _ rfl rfl rfl (by kernel_rfl) ?_
    conv=>whnf
    refine⟨⟨rfl,recsG_ok R,by show(recsG R).length+1<=4294967296;rw[recsG_len];omega⟩,recsG R++[.agg [.s c3a,.s c3b,.sl (.own 11) (itG ((p0::pl).map fun x=>(pairP x).1)),.s []]],R.length+1,⟨rfl,by show _=(recsG R).length+1;rw[recsG_len]⟩,?_⟩
    conv=>whnf
    refine⟨⟨zL _,by show _=(recsG R).length;rw[recsG_len],hdis⟩,?_⟩
    conv=>whnf
    refine⟨_,⟨rfl,zL _,rfl,bL rfl⟩,?_⟩
    conv=>whnf
    refine hend _ _ _ _ ?_ ?_ ?_ ?_ ?_
    ·rw[hON];rfl
    ·exact rfl
    ·exact rfl
    ·exact rfl
    ·first|rfl|(rw[hX];rfl)|(rw[hX];simp)|simp
   conv=>whnf
   refine GIf.mk (fun ho=>?_) (fun ho=>?_)<;>conv=>whnf
   ·exfalso;exact absurd hc2b (by simpa using ho)
   refine GDraw.wild _ _ _ rfl rfl rfl (by kernel_rfl) ?_
   conv=>whnf
   refine⟨⟨rfl,recsG_ok R,by show(recsG R).length+1<=4294967296;rw[recsG_len];omega⟩,recsG R++[.agg [.s c3a,.s c3b,.sl (.own 11) (itG ((p0::pl).map fun x=>(pairP x).1)),.s []]],R.length+1,⟨rfl,by show _=(recsG R).length+1;rw[recsG_len]⟩,?_⟩
   conv=>whnf
   refine⟨⟨zL _,by show _=(recsG R).length;rw[recsG_len],hdis⟩,?_⟩
   conv=>whnf
   refine⟨_,⟨rfl,zL _,rfl,bL rfl⟩,?_⟩
   conv=>whnf
   refine hend _ _ _ _ ?_ ?_ ?_ ?_ ?_
   ·rw[hON];rfl
   ·exact rfl
   ·exact rfl
   ·exact rfl
   ·first|rfl|(rw[hX];rfl)|(rw[hX];simp)|simp
  rcases c1c with _|_
  ·skip
   conv=>whnf
   refine GIf.mk (fun ho=>?_) (fun ho=>?_)<;>conv=>whnf
   ·exfalso;exact absurd hc2b (by simpa using ho)
   refine GDraw.wild _ _ _ rfl rfl rfl (by kernel_rfl) ?_
   conv=>whnf
   refine⟨⟨rfl,recsG_ok R,by show(recsG R).length+1<=4294967296;rw[recsG_len];omega⟩,recsG R++[.agg [.s c3a,.s c3b,.sl (.own 11) (itG ((p0::pl).map fun x=>(pairP x).1)),.s []]],R.length+1,⟨rfl,by show _=(recsG R).length+1;rw[recsG_len]⟩,?_⟩
   conv=>whnf
   refine⟨⟨zL _,by show _=(recsG R).length;rw[recsG_len],hdis⟩,?_⟩
   conv=>whnf
   refine⟨_,⟨rfl,zL _,rfl,bL rfl⟩,?_⟩
   conv=>whnf
   refine hend _ _ _ _ ?_ ?_ ?_ ?_ ?_
   ·rw[hON];rfl
   ·exact rfl
   ·exact rfl
   ·exact rfl
   ·first|rfl|(rw[hX];rfl)|(rw[hX];simp)|simp
  rcases c2c with _|_
  ·skip
   conv=>whnf
   refine GIf.mk (fun ho=>?_) (fun ho=>?_)<;>conv=>whnf
   ·exfalso;exact absurd hc2b (by simpa using ho)
   refine GDraw.wild _ _ _ rfl rfl rfl (by kernel_rfl) ?_
   conv=>whnf
   refine⟨⟨rfl,recsG_ok R,by show(recsG R).length+1<=4294967296;rw[recsG_len];omega⟩,recsG R++[.agg [.s c3a,.s c3b,.sl (.own 11) (itG ((p0::pl).map fun x=>(pairP x).1)),.s []]],R.length+1,⟨rfl,by show _=(recsG R).length+1;rw[recsG_len]⟩,?_⟩
   conv=>whnf
   refine⟨⟨zL _,by show _=(recsG R).length;rw[recsG_len],hdis⟩,?_⟩
   conv=>whnf
   refine⟨_,⟨rfl,zL _,rfl,bL rfl⟩,?_⟩
   conv=>whnf
   refine hend _ _ _ _ ?_ ?_ ?_ ?_ ?_
   ·rw[hON];rfl
   ·exact rfl
   ·exact rfl
   ·exact rfl
   ·first|rfl|(rw[hX];rfl)|(rw[hX];simp)|simp
  rcases ba with _|_
  ·skip
   conv=>whnf
   refine GIf.mk (fun ho=>?_) (fun ho=>?_)<;>conv=>whnf
   ·exfalso;exact absurd hc2b (by simpa using ho)
   refine GDraw.wild _ _ _ rfl rfl rfl (by kernel_rfl) ?_
   conv=>whnf
   refine⟨⟨rfl,recsG_ok R,by show(recsG R).length+1<=4294967296;rw[recsG_len];omega⟩,recsG R++[.agg [.s c3a,.s c3b,.sl (.own 11) (itG ((p0::pl).map fun x=>(pairP x).1)),.s []]],R.length+1,⟨rfl,by show _=(recsG R).length+1;rw[recsG_len]⟩,?_⟩
   conv=>whnf
   refine⟨⟨zL _,by show _=(recsG R).length;rw[recsG_len],hdis⟩,?_⟩
   conv=>whnf
   refine⟨_,⟨rfl,zL _,rfl,bL rfl⟩,?_⟩
   conv=>whnf
   refine callP la (wR _) rfl (fun _=>rfl) (.b _) ?_
   conv=>whnf
   refine hend _ _ _ _ ?_ ?_ ?_ ?_ ?_
   ·rw[hON];rfl
   ·exact rfl
   ·exact rfl
   ·exact rfl
   ·first|rfl|(rw[hX];rfl)|(rw[hX];simp)|simp
  rcases bb with _|_
  ·skip
   conv=>whnf
   refine GIf.mk (fun ho=>?_) (fun ho=>?_)<;>conv=>whnf
   ·exfalso;exact absurd hc2b (by simpa using ho)
   refine GDraw.wild _ _ _ rfl rfl rfl (by kernel_rfl) ?_
   conv=>whnf
   refine⟨⟨rfl,recsG_ok R,by show(recsG R).length+1<=4294967296;rw[recsG_len];omega⟩,recsG R++[.agg [.s c3a,.s c3b,.sl (.own 11) (itG ((p0::pl).map fun x=>(pairP x).1)),.s []]],R.length+1,⟨rfl,by show _=(recsG R).length+1;rw[recsG_len]⟩,?_⟩
   conv=>whnf
   refine⟨⟨zL _,by show _=(recsG R).length;rw[recsG_len],hdis⟩,?_⟩
   conv=>whnf
   refine⟨_,⟨rfl,zL _,rfl,bL rfl⟩,?_⟩
   conv=>whnf
   refine callP la (wR _) rfl (fun _=>rfl) (.b _) ?_
   conv=>whnf
   refine callP lb (wR _) rfl (fun _=>rfl) (.b _) ?_
   conv=>whnf
   refine hend _ _ _ _ ?_ ?_ ?_ ?_ ?_
   ·rw[hON];rfl
   ·exact rfl
   ·exact rfl
   ·exact rfl
   ·first|rfl|(rw[hX];rfl)|(rw[hX];simp)|simp
  conv=>whnf
  refine GIf.mk (fun ho=>?_) (fun ho=>?_)<;>conv=>whnf
  ·exfalso;exact absurd hc2b (by simpa using ho)
  refine GDraw.wild _ _ _ rfl rfl rfl (by kernel_rfl) ?_
  conv=>whnf
  refine⟨⟨rfl,recsG_ok R,by show(recsG R).length+1<=4294967296;rw[recsG_len];omega⟩,recsG R++[.agg [.s c3a,.s c3b,.sl (.own 11) (itG ((p0::pl).map fun x=>(pairP x).1)),.s []]],R.length+1,⟨rfl,by show _=(recsG R).length+1;rw[recsG_len]⟩,?_⟩
  conv=>whnf
  refine⟨⟨zL _,by show _=(recsG R).length;rw[recsG_len],hdis⟩,?_⟩
  conv=>whnf
  refine⟨_,⟨rfl,zL _,rfl,bL rfl⟩,?_⟩
  conv=>whnf
  refine callP la (wR _) rfl (fun _=>rfl) (.b _) ?_
  conv=>whnf
  refine callP lb (wR _) rfl (fun _=>rfl) (.b _) ?_
  conv=>whnf
  refine hend _ _ _ _ ?_ ?_ ?_ ?_ ?_
  ·rw[hON];rfl
  ·exact rfl
  ·exact rfl
  ·exact rfl
  ·first|rfl|(rw[hX];rfl)|(rw[hX];simp)|simp
 have hXn:X=(o2&&decide (o1≠[])):=by rw[hXe,decide_eq_false hc2b];rfl
 have hON:ON=o1:=by rw[hONe,if_neg hc2b]
 rcases B with _|_
 ·skip
  rcases c1c with _|_
  ·skip
   conv=>whnf
   refine GIf.mk (fun ho=>?_) (fun ho=>?_)<;>conv=>whnf
   rotate_left
   ·exfalso;exact hc2b (by simpa using ho)
   refine callP fp (wR _) rfl (fun _=>rfl) (fun _=>rfl) ?_
   conv=>whnf
   refine⟨_,⟨rfl,zL _,rfl,bL rfl⟩,?_⟩
   conv=>whnf
   refine⟨_,⟨rfl,zL _,rfl,bL rfl⟩,?_⟩
   conv=>whnf
   refine GDraw.wild _ _ _ rfl rfl rfl (by kernel_rfl) ?_
   conv=>whnf
   refine⟨⟨rfl,recsG_ok R,by show(recsG R).length+1<=4294967296;rw[recsG_len];omega⟩,recsG R++[.agg [.s c3a,.s c3b,.sl (.own 11) (itG ((p0::pl).map fun x=>(pairP x).1)),.s o1]],R.length+1,⟨rfl,by show _=(recsG R).length+1;rw[recsG_len]⟩,?_⟩
   conv=>whnf
   refine⟨⟨zL _,by show _=(recsG R).length;rw[recsG_len],hdis⟩,?_⟩
   conv=>whnf
   refine⟨_,⟨rfl,zL _,rfl,bL rfl⟩,?_⟩
   conv=>whnf
   refine hend _ _ _ _ ?_ ?_ ?_ ?_ ?_
   ·rw[hON];rfl
   ·exact rfl
   ·exact rfl
   ·exact rfl
   ·first|rfl|(rw[hX];rfl)|(rw[hX];simp)|simp
  rcases c2c with _|_
  ·skip
   conv=>whnf
   refine GIf.mk (fun ho=>?_) (fun ho=>?_)<;>conv=>whnf
   rotate_left
   ·exfalso;exact hc2b (by simpa using ho)
   refine callP fp (wR _) rfl (fun _=>rfl) (fun _=>rfl) ?_
   conv=>whnf
   refine⟨_,⟨rfl,zL _,rfl,bL rfl⟩,?_⟩
   conv=>whnf
   refine⟨_,⟨rfl,zL _,rfl,bL rfl⟩,?_⟩
   conv=>whnf
   refine GDraw.wild _ _ _ rfl rfl rfl (by kernel_rfl) ?_
   conv=>whnf
   refine⟨⟨rfl,recsG_ok R,by show(recsG R).length+1<=4294967296;rw[recsG_len];omega⟩,recsG R++[.agg [.s c3a,.s c3b,.sl (.own 11) (itG ((p0::pl).map fun x=>(pairP x).1)),.s o1]],R.length+1,⟨rfl,by show _=(recsG R).length+1;rw[recsG_len]⟩,?_⟩
   conv=>whnf
   refine⟨⟨zL _,by show _=(recsG R).length;rw[recsG_len],hdis⟩,?_⟩
   conv=>whnf
   refine⟨_,⟨rfl,zL _,rfl,bL rfl⟩,?_⟩
   conv=>whnf
   refine hend _ _ _ _ ?_ ?_ ?_ ?_ ?_
   ·rw[hON];rfl
   ·exact rfl
   ·exact rfl
   ·exact rfl
   ·first|rfl|(rw[hX];rfl)|(rw[hX];simp)|simp
  conv=>whnf
  refine GIf.mk (fun ho=>?_) (fun ho=>?_)<;>conv=>whnf
  rotate_left
  ·exfalso;exact hc2b (by simpa using ho)
  refine callP fp (wR _) rfl (fun _=>rfl) (fun _=>rfl) ?_
  conv=>whnf
  refine⟨_,⟨rfl,zL _,rfl,bL rfl⟩,?_⟩
  conv=>whnf
  refine⟨_,⟨rfl,zL _,rfl,bL rfl⟩,?_⟩
  conv=>whnf
  refine GDraw.wild _ _ _ rfl rfl rfl (by kernel_rfl) ?_
  conv=>whnf
  refine⟨⟨rfl,recsG_ok R,by show(recsG R).length+1<=4294967296;rw[recsG_len];omega⟩,recsG R++[.agg [.s c3a,.s c3b,.sl (.own 11) (itG ((p0::pl).map fun x=>(pairP x).1)),.s o1]],R.length+1,⟨rfl,by show _=(recsG R).length+1;rw[recsG_len]⟩,?_⟩
  conv=>whnf
  refine⟨⟨zL _,by show _=(recsG R).length;rw[recsG_len],hdis⟩,?_⟩
  conv=>whnf
  refine⟨_,⟨rfl,zL _,rfl,bL rfl⟩,?_⟩
  conv=>whnf
  refine hend _ _ _ _ ?_ ?_ ?_ ?_ ?_
  ·rw[hON];rfl
  ·exact rfl
  ·exact rfl
  ·exact rfl
  ·first|rfl|(rw[hX];rfl)|(rw[hX];simp)|simp
 rcases o2 with _|_
 ·have hX:X=false:=hXn
  rcases c1c with _|_
  ·skip
   conv=>whnf
   refine GIf.mk (fun ho=>?_) (fun ho=>?_)<;>conv=>whnf
   rotate_left
   ·exfalso;exact hc2b (by simpa using ho)
   refine callP fp (wR _) rfl (fun _=>rfl) (fun _=>rfl) ?_
   conv=>whnf
   refine⟨_,⟨rfl,zL _,rfl,bL rfl⟩,?_⟩
   conv=>whnf
   refine⟨_,⟨rfl,zL _,rfl,bL rfl⟩,?_⟩
   conv=>whnf
   refine GDraw.wild _ _ _ rfl rfl rfl (by kernel_rfl) ?_
   conv=>whnf
   refine⟨⟨rfl,recsG_ok R,by show(recsG R).length+1<=4294967296;rw[recsG_len];omega⟩,recsG R++[.agg [.s c3a,.s c3b,.sl (.own 11) (itG ((p0::pl).map fun x=>(pairP x).1)),.s o1]],R.length+1,⟨rfl,by show _=(recsG R).length+1;rw[recsG_len]⟩,?_⟩
   conv=>whnf
   refine⟨⟨zL _,by show _=(recsG R).length;rw[recsG_len],hdis⟩,?_⟩
   conv=>whnf
   refine⟨_,⟨rfl,zL _,rfl,bL rfl⟩,?_⟩
   conv=>whnf
   refine hend _ _ _ _ ?_ ?_ ?_ ?_ ?_
   ·rw[hON];rfl
   ·exact rfl
   ·exact rfl
   ·exact rfl
   ·first|rfl|(rw[hX];rfl)|(rw[hX];simp)|simp
  rcases c2c with _|_
  ·skip
   conv=>whnf
   refine GIf.mk (fun ho=>?_) (fun ho=>?_)<;>conv=>whnf
   rotate_left
   ·exfalso;exact hc2b (by simpa using ho)
   refine callP fp (wR _) rfl (fun _=>rfl) (fun _=>rfl) ?_
   conv=>whnf
   refine⟨_,⟨rfl,zL _,rfl,bL rfl⟩,?_⟩
   conv=>whnf
   refine⟨_,⟨rfl,zL _,rfl,bL rfl⟩,?_⟩
   conv=>whnf
   refine GDraw.wild _ _ _ rfl rfl rfl (by kernel_rfl) ?_
   conv=>whnf
   refine⟨⟨rfl,recsG_ok R,by show(recsG R).length+1<=4294967296;rw[recsG_len];omega⟩,recsG R++[.agg [.s c3a,.s c3b,.sl (.own 11) (itG ((p0::pl).map fun x=>(pairP x).1)),.s o1]],R.length+1,⟨rfl,by show _=(recsG R).length+1;rw[recsG_len]⟩,?_⟩
   conv=>whnf
   refine⟨⟨zL _,by show _=(recsG R).length;rw[recsG_len],hdis⟩,?_⟩
   conv=>whnf
   refine⟨_,⟨rfl,zL _,rfl,bL rfl⟩,?_⟩
   conv=>whnf
   refine hend _ _ _ _ ?_ ?_ ?_ ?_ ?_
   ·rw[hON];rfl
   ·exact rfl
   ·exact rfl
   ·exact rfl
   ·first|rfl|(rw[hX];rfl)|(rw[hX];simp)|simp
  conv=>whnf
  refine GIf.mk (fun ho=>?_) (fun ho=>?_)<;>conv=>whnf
  rotate_left
  ·exfalso;exact hc2b (by simpa using ho)
  refine callP fp (wR _) rfl (fun _=>rfl) (fun _=>rfl) ?_
  conv=>whnf
  refine⟨_,⟨rfl,zL _,rfl,bL rfl⟩,?_⟩
  conv=>whnf
  refine⟨_,⟨rfl,zL _,rfl,bL rfl⟩,?_⟩
  conv=>whnf
  refine GDraw.wild _ _ _ rfl rfl rfl (by kernel_rfl) ?_
  conv=>whnf
  refine⟨⟨rfl,recsG_ok R,by show(recsG R).length+1<=4294967296;rw[recsG_len];omega⟩,recsG R++[.agg [.s c3a,.s c3b,.sl (.own 11) (itG ((p0::pl).map fun x=>(pairP x).1)),.s o1]],R.length+1,⟨rfl,by show _=(recsG R).length+1;rw[recsG_len]⟩,?_⟩
  conv=>whnf
  refine⟨⟨zL _,by show _=(recsG R).length;rw[recsG_len],hdis⟩,?_⟩
  conv=>whnf
  refine⟨_,⟨rfl,zL _,rfl,bL rfl⟩,?_⟩
  conv=>whnf
  refine hend _ _ _ _ ?_ ?_ ?_ ?_ ?_
  ·rw[hON];rfl
  ·exact rfl
  ·exact rfl
  ·exact rfl
  ·first|rfl|(rw[hX];rfl)|(rw[hX];simp)|simp
 rcases c1c with _|_
 ·skip
  conv=>whnf
  refine GIf.mk (fun ho=>?_) (fun ho=>?_)<;>conv=>whnf
  rotate_left
  ·exfalso;exact hc2b (by simpa using ho)
  refine callP fp (wR _) rfl (fun _=>rfl) (fun _=>rfl) ?_
  conv=>whnf
  refine⟨_,⟨rfl,zL _,rfl,bL rfl⟩,?_⟩
  conv=>whnf
  refine⟨_,⟨rfl,zL _,rfl,bL rfl⟩,?_⟩
  conv=>whnf
  refine GDraw.wild _ _ _ rfl rfl rfl (by kernel_rfl) ?_
  conv=>whnf
  refine⟨⟨rfl,recsG_ok R,by show(recsG R).length+1<=4294967296;rw[recsG_len];omega⟩,recsG R++[.agg [.s c3a,.s c3b,.sl (.own 11) (itG ((p0::pl).map fun x=>(pairP x).1)),.s o1]],R.length+1,⟨rfl,by show _=(recsG R).length+1;rw[recsG_len]⟩,?_⟩
  conv=>whnf
  refine⟨⟨zL _,by show _=(recsG R).length;rw[recsG_len],hdis⟩,?_⟩
  conv=>whnf
  refine⟨_,⟨rfl,zL _,rfl,bL rfl⟩,?_⟩
  conv=>whnf
  refine hend _ _ _ _ ?_ ?_ ?_ ?_ ?_
  ·rw[hON];rfl
  ·exact rfl
  ·exact rfl
  ·exact rfl
  ·first|rfl|(rw[hX];rfl)|(rw[hX];simp)|simp
 rcases c2c with _|_
 ·skip
  conv=>whnf
  refine GIf.mk (fun ho=>?_) (fun ho=>?_)<;>conv=>whnf
  rotate_left
  ·exfalso;exact hc2b (by simpa using ho)
  refine callP fp (wR _) rfl (fun _=>rfl) (fun _=>rfl) ?_
  conv=>whnf
  refine⟨_,⟨rfl,zL _,rfl,bL rfl⟩,?_⟩
  conv=>whnf
  refine⟨_,⟨rfl,zL _,rfl,bL rfl⟩,?_⟩
  conv=>whnf
  refine GDraw.wild _ _ _ rfl rfl rfl (by kernel_rfl) ?_
  conv=>whnf
  refine⟨⟨rfl,recsG_ok R,by show(recsG R).length+1<=4294967296;rw[recsG_len];omega⟩,recsG R++[.agg [.s c3a,.s c3b,.sl (.own 11) (itG ((p0::pl).map fun x=>(pairP x).1)),.s o1]],R.length+1,⟨rfl,by show _=(recsG R).length+1;rw[recsG_len]⟩,?_⟩
  conv=>whnf
  refine⟨⟨zL _,by show _=(recsG R).length;rw[recsG_len],hdis⟩,?_⟩
  conv=>whnf
  refine⟨_,⟨rfl,zL _,rfl,bL rfl⟩,?_⟩
  conv=>whnf
  refine hend _ _ _ _ ?_ ?_ ?_ ?_ ?_
  ·rw[hON];rfl
  ·exact rfl
  ·exact rfl
  ·exact rfl
  ·first|rfl|(rw[hX];rfl)|(rw[hX];simp)|simp
 rcases ba with _|_
 ·skip
  conv=>whnf
  refine GIf.mk (fun ho=>?_) (fun ho=>?_)<;>conv=>whnf
  rotate_left
  ·exfalso;exact hc2b (by simpa using ho)
  refine callP fp (wR _) rfl (fun _=>rfl) (fun _=>rfl) ?_
  conv=>whnf
  refine⟨_,⟨rfl,zL _,rfl,bL rfl⟩,?_⟩
  conv=>whnf
  refine⟨_,⟨rfl,zL _,rfl,bL rfl⟩,?_⟩
  conv=>whnf
  refine GDraw.wild _ _ _ rfl rfl rfl (by kernel_rfl) ?_
  conv=>whnf
  refine⟨⟨rfl,recsG_ok R,by show(recsG R).length+1<=4294967296;rw[recsG_len];omega⟩,recsG R++[.agg [.s c3a,.s c3b,.sl (.own 11) (itG ((p0::pl).map fun x=>(pairP x).1)),.s o1]],R.length+1,⟨rfl,by show _=(recsG R).length+1;rw[recsG_len]⟩,?_⟩
  conv=>whnf
  refine⟨⟨zL _,by show _=(recsG R).length;rw[recsG_len],hdis⟩,?_⟩
  conv=>whnf
  refine⟨_,⟨rfl,zL _,rfl,bL rfl⟩,?_⟩
  conv=>whnf
  refine GIf.mk (fun h1=>?_) (fun h1=>?_)<;>conv=>whnf
  ·have hX:X=true:=by
    rw[hXn,decide_eq_true (show o1≠[] by simpa using h1)];rfl
   refine callP la (wR _) rfl (fun _=>rfl) (.b _) ?_
   conv=>whnf
   refine hend _ _ _ _ ?_ ?_ ?_ ?_ ?_
   ·rw[hON];rfl
   ·exact rfl
   ·exact rfl
   ·exact rfl
   ·first|rfl|(rw[hX];rfl)|(rw[hX];simp)|simp
  ·have hX:X=false:=by
    rw[hXn,decide_eq_false (show¬o1≠[] by simpa using h1)];rfl
   refine hend _ _ _ _ ?_ ?_ ?_ ?_ ?_
   ·rw[hON];rfl
   ·exact rfl
   ·exact rfl
   ·exact rfl
   ·first|rfl|(rw[hX];rfl)|(rw[hX];simp)|simp
 rcases bb with _|_
 ·skip
  conv=>whnf
  refine GIf.mk (fun ho=>?_) (fun ho=>?_)<;>conv=>whnf
  rotate_left
  ·exfalso;exact hc2b (by simpa using ho)
  refine callP fp (wR _) rfl (fun _=>rfl) (fun _=>rfl) ?_
  conv=>whnf
  refine⟨_,⟨rfl,zL _,rfl,bL rfl⟩,?_⟩
  conv=>whnf
  refine⟨_,⟨rfl,zL _,rfl,bL rfl⟩,?_⟩
  conv=>whnf
  refine GDraw.wild _ _ _ rfl rfl rfl (by kernel_rfl) ?_
  conv=>whnf
  refine⟨⟨rfl,recsG_ok R,by show(recsG R).length+1<=4294967296;rw[recsG_len];omega⟩,recsG R++[.agg [.s c3a,.s c3b,.sl (.own 11) (itG ((p0::pl).map fun x=>(pairP x).1)),.s o1]],R.length+1,⟨rfl,by show _=(recsG R).length+1;rw[recsG_len]⟩,?_⟩
  conv=>whnf
  refine⟨⟨zL _,by show _=(recsG R).length;rw[recsG_len],hdis⟩,?_⟩
  conv=>whnf
  refine⟨_,⟨rfl,zL _,rfl,bL rfl⟩,?_⟩
  conv=>whnf
  refine GIf.mk (fun h1=>?_) (fun h1=>?_)<;>conv=>whnf
  ·have hX:X=true:=by
    rw[hXn,decide_eq_true (show o1≠[] by simpa using h1)];rfl
   refine callP la (wR _) rfl (fun _=>rfl) (.b _) ?_
   conv=>whnf
   refine callP lb (wR _) rfl (fun _=>rfl) (.b _) ?_
   conv=>whnf
   refine hend _ _ _ _ ?_ ?_ ?_ ?_ ?_
   ·rw[hON];rfl
   ·exact rfl
   ·exact rfl
   ·exact rfl
   ·first|rfl|(rw[hX];rfl)|(rw[hX];simp)|simp
  ·have hX:X=false:=by
    rw[hXn,decide_eq_false (show¬o1≠[] by simpa using h1)];rfl
   refine hend _ _ _ _ ?_ ?_ ?_ ?_ ?_
   ·rw[hON];rfl
   ·exact rfl
   ·exact rfl
   ·exact rfl
   ·first|rfl|(rw[hX];rfl)|(rw[hX];simp)|simp
 conv=>whnf
 refine GIf.mk (fun ho=>?_) (fun ho=>?_)<;>conv=>whnf
 rotate_left
 ·exfalso;exact hc2b (by simpa using ho)
 refine callP fp (wR _) rfl (fun _=>rfl) (fun _=>rfl) ?_
 conv=>whnf
 refine⟨_,⟨rfl,zL _,rfl,bL rfl⟩,?_⟩
 conv=>whnf
 refine⟨_,⟨rfl,zL _,rfl,bL rfl⟩,?_⟩
 conv=>whnf
 refine GDraw.wild _ _ _ rfl rfl rfl (by kernel_rfl) ?_
 conv=>whnf
 refine⟨⟨rfl,recsG_ok R,by show(recsG R).length+1<=4294967296;rw[recsG_len];omega⟩,recsG R++[.agg [.s c3a,.s c3b,.sl (.own 11) (itG ((p0::pl).map fun x=>(pairP x).1)),.s o1]],R.length+1,⟨rfl,by show _=(recsG R).length+1;rw[recsG_len]⟩,?_⟩
 conv=>whnf
 refine⟨⟨zL _,by show _=(recsG R).length;rw[recsG_len],hdis⟩,?_⟩
 conv=>whnf
 refine⟨_,⟨rfl,zL _,rfl,bL rfl⟩,?_⟩
 conv=>whnf
 refine GIf.mk (fun h1=>?_) (fun h1=>?_)<;>conv=>whnf
 ·have hX:X=true:=by
   rw[hXn,decide_eq_true (show o1≠[] by simpa using h1)];rfl
  refine callP la (wR _) rfl (fun _=>rfl) (.b _) ?_
  conv=>whnf
  refine callP lb (wR _) rfl (fun _=>rfl) (.b _) ?_
  conv=>whnf
  refine hend _ _ _ _ ?_ ?_ ?_ ?_ ?_
  ·rw[hON];rfl
  ·exact rfl
  ·exact rfl
  ·exact rfl
  ·first|rfl|(rw[hX];rfl)|(rw[hX];simp)|simp
 ·have hX:X=false:=by
   rw[hXn,decide_eq_false (show¬o1≠[] by simpa using h1)];rfl
  refine hend _ _ _ _ ?_ ?_ ?_ ?_ ?_
  ·rw[hON];rfl
  ·exact rfl
  ·exact rfl
  ·exact rfl
  ·first|rfl|(rw[hX];rfl)|(rw[hX];simp)|simp
end Go.Proofs.YtldggonlkafckaaGreatDoor
