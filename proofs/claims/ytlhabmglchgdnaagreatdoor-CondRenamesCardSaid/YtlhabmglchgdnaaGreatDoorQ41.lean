/-
  CondRenames: Rename of every text and names is that of the reference, and over items renamed alike a condition is as true as before: the card, for every input.
-/
import Derived.Test.YtlhabmglchgdnaaGreatDoorQ27
import Derived.Test.YtlhabmglchgdnaaGreatDoorQ40
import Derived.Test.YtlhabmglchgdnaaGreatDoorQ38
set_option linter.all false
namespace Go.Proofs.YtlhabmglchgdnaaGreatDoor
open Go.RowKit
set_option maxRecDepth 100000
set_option linter.unusedVariables false
def relB (op:By) (c:Int):Bool:=if op=[61] then c==0 else if op=[60,62] then c !=0 else if op=[60] then decide (c<0) else if op=[60,61] then decide (c<=0) else if op=[62] then decide (c>0) else decide (c>=0)
def truthV (τ:Term->Val):Tree->Bool
 |.pair a l r=>if a then truthV τ l&&truthV τ r else truthV τ l||truthV τ r
 |.no t=>!truthV τ t
 |.test op l r=>relB op (cmpV (τ l) (τ r))
 |.truth b=>b
def comb (a:Bool):Option Bool->Bool->Bool
 |none,x=>x
 |some y,x=>if a then y&&x else y||x
theorem truth_join (τ:Term->Val) (a:Bool) (acc:Option Tree) (t:Tree):truthV τ (joinA a acc t)=comb a (acc.map (truthV τ)) (truthV τ t):=by cases acc<;>rfl
theorem truth_flatA (τ:Term->Val):∀(t:Tree) (a:Bool) (acc:Option Tree),truthV τ (flatA a acc t)=comb a (acc.map (truthV τ)) (truthV τ t)
 |.pair b l r,a,acc=>by
  unfold flatA
  split
  ·rename_i hab
   subst hab
   rw[truth_flatA τ r,Option.map_some,truth_flatA τ l]
   cases acc<;>cases a<;>simp[comb,truthV,Bool.and_assoc,Bool.or_assoc]
  ·rw[truth_join,truth_flatA τ r,Option.map_some,truth_flatA τ l]
   cases acc<;>cases b<;>simp[comb,truthV]
 |.no t,a,acc=>by
  unfold flatA
  rw[truth_join]
  show comb a _ (!truthV τ (flatA true none t))=_
  rw[truth_flatA τ t];rfl
 |.test op l r,a,acc=>by unfold flatA;rw[truth_join]
 |.truth b,a,acc=>by unfold flatA;rw[truth_join]
theorem truth_flat (τ:Term->Val) (t:Tree):truthV τ t.flat=truthV τ t:=truth_flatA τ t true none
theorem truth_sides (τ:Term->Val) (a:Bool):∀t:Tree,truthV τ t=if a then(t.sides a).all (truthV τ) else(t.sides a).any (truthV τ)
 |.pair b l r=>by
  unfold Tree.sides
  by_cases hab:a=b
  ·subst hab
   rw[if_pos rfl,List.all_append,List.any_append]
   have h1:=truth_sides τ a l
   have h2:=truth_sides τ a r
   cases a<;>simp[truthV,h1,h2]
  ·rw[if_neg hab]
   cases a<;>simp
 |.no t=>by cases a<;>simp[Tree.sides]
 |.test _ _ _=>by cases a<;>simp[Tree.sides]
 |.truth _=>by cases a<;>simp[Tree.sides]
def kindR (I V:List Itm) (t:Term):Int:=if t.name=[] then t.v.k else match(if t.var then V else I).find? (fun i=>i.name==t.name) with
 |some i=>i.k
 |none=>0
def tsts:Tree->List (Term×Term)
 |.pair _ l r=>tsts l++tsts r
 |.no t=>tsts t
 |.test _ a b=>[(a,b)]
 |.truth _=>[]
def checkS (I V:List Itm) (t:Tree):Int:=if(leaves t).any (fun x=>kindR I V x==0) then 5 else if(tsts t).any (fun p=>kindR I V p.1 !=kindR I V p.2) then 10 else 0
theorem leaves_tsts:∀t:Tree,leaves t=(tsts t).flatMap fun p=>[p.1,p.2]
 |.pair _ l r=>by simp only[leaves,tsts,List.flatMap_append];rw[leaves_tsts l,leaves_tsts r]
 |.no t=>leaves_tsts t
 |.test _ _ _=>rfl
 |.truth _=>rfl
def accT:Option Tree->List (Term×Term)
 |none=>[]
 |some x=>tsts x
theorem tsts_join (a:Bool) (acc:Option Tree) (t:Tree):tsts (joinA a acc t)=accT acc++tsts t:=by cases acc<;>rfl
theorem tsts_flatA:∀(t:Tree) (a:Bool) (acc:Option Tree),tsts (flatA a acc t)=accT acc++tsts t
 |.pair b l r,a,acc=>by
  unfold flatA
  split
  ·rw[tsts_flatA r]
   show tsts (flatA a acc l)++tsts r=accT acc++(tsts l++tsts r)
   rw[tsts_flatA l,List.append_assoc]
  ·rw[tsts_join,tsts_flatA r]
   show accT acc++(tsts (flatA b none l)++tsts r)=accT acc++(tsts l++tsts r)
   rw[tsts_flatA l];rfl
 |.no t,a,acc=>by
  unfold flatA
  rw[tsts_join]
  show _++tsts (flatA true none t)=_
  rw[tsts_flatA t];rfl
 |.test op l r,a,acc=>by unfold flatA;rw[tsts_join]
 |.truth b,a,acc=>by unfold flatA;rw[tsts_join]
theorem tsts_flat (t:Tree):tsts t.flat=tsts t:=tsts_flatA t true none
end Go.Proofs.YtlhabmglchgdnaaGreatDoor
namespace Go.Proofs.YtlhabmglchgdnaaGreatDoor
open Go.RowKit
set_option maxRecDepth 100000
set_option linter.unusedVariables false
theorem c_kind1 (i:Itm) (t:Term):SC Tryz.prog 121 [i.gv,.ptr 0 0] [.box 93 t.cs] (.val (.b (i.name==t.name))) [.box 93 t.cs]:=by
 obtain⟨name,k,lo,hi,len⟩:=i
 obtain⟨nm,vr,v⟩:=t
 refine SC.of_gwp noM mixed Tryz.func121 rfl (Nat.le_of_ble_eq_true rfl) (by first|exact Nat.le_refl _|simp) rfl ?_
 conv=>whnf
 exact owesB_b rfl rfl (fun _=>rfl)
theorem c_value1 (i:Itm) (t:Term):SC Tryz.prog 122 [i.gv,.ptr 0 0] [.box 93 t.cs] (.val (.b (i.name==t.name))) [.box 93 t.cs]:=by
 obtain⟨name,k,lo,hi,len⟩:=i
 obtain⟨nm,vr,v⟩:=t
 refine SC.of_gwp noM mixed Tryz.func122 rfl (Nat.le_of_ble_eq_true rfl) (by first|exact Nat.le_refl _|simp) rfl ?_
 conv=>whnf
 exact owesB_b rfl rfl (fun _=>rfl)
theorem tm_own (t:Term):Own0 [.box 93 t.cs]:=fun e _=>rfl
theorem c_idxK (l:List Itm) (hl:l.length<most) (t:Term):SC Tryz.prog 120 [.sl .none (itms l),.fn (.func 121) [] [.ptr 0 0]] [.box 93 t.cs] (.val (.i .i64 (idxN l t.name))) [.box 93 t.cs]:=by
 have hlen:=itms_len l
 unfold most at hl
 refine SC.of_gwp noM mixed Tryz.func120 rfl (Nat.le_of_ble_eq_true rfl) (by first|exact Nat.le_refl _|simp) rfl ?_
 conv=>whnf
 refine GLoop.introS (fun i:Nat=>i<=l.length/\∀z∈l.take i,z.name≠t.name) (fun i=>[(0,.sl .none (itms l)),(1,.fn (.func 121) [] [.ptr 0 0]),(7,.i .i64 (itms l).length),(8,.i .i64 (i:Nat))]) (fun _=>⟨[.box 93 t.cs],0,[]⟩) (fun i=>l.length - i) 0 ⟨Nat.zero_le _,fun z h=>by simp at h⟩ ⟨rfl,rfl,rfl,rfl,trivial⟩ rfl (fun _ _=>Nat.le_refl _) (fun _ _=>rfl) (fun i _ e he=>?_) (fun i φ0 hi=>?_)
 ·refine⟨rfl,rfl,?_⟩
  show[(GV.sl .none (itms l)).ren e,GV.fn _ [] [.ptr (e 0) 0],_,_]=_
  rw[Cl.sl (itms_cl l) e,he 0 (by simp)];rfl
 obtain⟨hi,hne⟩:=hi
 conv=>whnf
 refine GIf.mk (fun h=>?_) (fun h=>?_)<;>conv=>whnf
 rotate_left
 ·have hie:i=l.length:=by have:=of_decide_eq_false h;rw[hlen] at this;omega
  rw[hie,List.take_length] at hne
  rw[idx_no hne]
  exact owesB rfl (.refl _) (fun _=>rfl) (.i _ _)
 have hlt:i<l.length:=by have:=of_decide_eq_true h;rw[hlen] at this;omega
 obtain⟨y,hy⟩:∃y,l[i]?=some y:=⟨l[i],List.getElem?_eq_getElem hlt⟩
 have hk:=c_kind1 y t
 refine⟨Int.natCast_nonneg _,_,by rw[Int.toNat_natCast];exact itms_at hy,rfl,?_⟩
 conv=>whnf
 refine callPre (rest:=[]) hk rfl rfl rfl rfl (tm_own t) (tm_own t) rfl (fun e he=>by show[(y.gv).ren e,GV.ptr (e 0) 0]=_;rw[y.cl e,he 0 (by simp)]) (fun _ _=>rfl) (Wks.refl _) ?_
 conv=>whnf
 refine GIf.mk (fun heq=>?_) (fun heq=>?_)<;>conv=>whnf
 ·have e:y.name=t.name:=by simpa using heq
  rw[idx_yes hy e hne]
  exact owesB rfl (.refl _) (fun _=>rfl) (.i _ _)
 ·have e:y.name≠t.name:=by simpa using heq
  exact⟨l.length - (i+1),(by show _<l.length - i;omega),i+1,⟨hlt,take_ne_succ hne hy e⟩,rfl,⟨rfl,rfl,rfl,wrap_succ (by omega),trivial⟩,[],rfl,rfl⟩
theorem c_idxV (l:List Itm) (hl:l.length<most) (t:Term):SC Tryz.prog 120 [.sl .none (itms l),.fn (.func 122) [] [.ptr 0 0]] [.box 93 t.cs] (.val (.i .i64 (idxN l t.name))) [.box 93 t.cs]:=by
 have hlen:=itms_len l
 unfold most at hl
 refine SC.of_gwp noM mixed Tryz.func120 rfl (Nat.le_of_ble_eq_true rfl) (by first|exact Nat.le_refl _|simp) rfl ?_
 conv=>whnf
 refine GLoop.introS (fun i:Nat=>i<=l.length/\∀z∈l.take i,z.name≠t.name) (fun i=>[(0,.sl .none (itms l)),(1,.fn (.func 122) [] [.ptr 0 0]),(7,.i .i64 (itms l).length),(8,.i .i64 (i:Nat))]) (fun _=>⟨[.box 93 t.cs],0,[]⟩) (fun i=>l.length - i) 0 ⟨Nat.zero_le _,fun z h=>by simp at h⟩ ⟨rfl,rfl,rfl,rfl,trivial⟩ rfl (fun _ _=>Nat.le_refl _) (fun _ _=>rfl) (fun i _ e he=>?_) (fun i φ0 hi=>?_)
 ·refine⟨rfl,rfl,?_⟩
  show[(GV.sl .none (itms l)).ren e,GV.fn _ [] [.ptr (e 0) 0],_,_]=_
  rw[Cl.sl (itms_cl l) e,he 0 (by simp)];rfl
 obtain⟨hi,hne⟩:=hi
 conv=>whnf
 refine GIf.mk (fun h=>?_) (fun h=>?_)<;>conv=>whnf
 rotate_left
 ·have hie:i=l.length:=by have:=of_decide_eq_false h;rw[hlen] at this;omega
  rw[hie,List.take_length] at hne
  rw[idx_no hne]
  exact owesB rfl (.refl _) (fun _=>rfl) (.i _ _)
 have hlt:i<l.length:=by have:=of_decide_eq_true h;rw[hlen] at this;omega
 obtain⟨y,hy⟩:∃y,l[i]?=some y:=⟨l[i],List.getElem?_eq_getElem hlt⟩
 have hk:=c_value1 y t
 refine⟨Int.natCast_nonneg _,_,by rw[Int.toNat_natCast];exact itms_at hy,rfl,?_⟩
 conv=>whnf
 refine callPre (rest:=[]) hk rfl rfl rfl rfl (tm_own t) (tm_own t) rfl (fun e he=>by show[(y.gv).ren e,GV.ptr (e 0) 0]=_;rw[y.cl e,he 0 (by simp)]) (fun _ _=>rfl) (Wks.refl _) ?_
 conv=>whnf
 refine GIf.mk (fun heq=>?_) (fun heq=>?_)<;>conv=>whnf
 ·have e:y.name=t.name:=by simpa using heq
  rw[idx_yes hy e hne]
  exact owesB rfl (.refl _) (fun _=>rfl) (.i _ _)
 ·have e:y.name≠t.name:=by simpa using heq
  exact⟨l.length - (i+1),(by show _<l.length - i;omega),i+1,⟨hlt,take_ne_succ hne hy e⟩,rfl,⟨rfl,rfl,rfl,wrap_succ (by omega),trivial⟩,[],rfl,rfl⟩
theorem idx_kind (l:List Itm) (s:By):(idxN l s= -1/\l.find? (fun i=>i.name==s)=none)∨∃(j:Nat) (y:Itm),idxN l s=(j:Nat)/\l[j]?=some y/\l.find? (fun i=>i.name==s)=some y:=by
 rcases idx_cases l s with⟨h1,h2⟩|⟨j,y,h1,h2,h3,h4⟩
 ·exact .inl ⟨h1,List.find?_eq_none.2 (fun x hx=>by simpa using h2 x hx)⟩
 ·refine .inr ⟨j,y,h1,h2,?_⟩
  have hlt:=(List.getElem?_eq_some_iff.1 h2).1
  have e:l=l.take j++y::l.drop (j+1):=by
   have:l.drop j=y::l.drop (j+1):=by
    rw[List.drop_eq_getElem_cons hlt,(List.getElem?_eq_some_iff.1 h2).2]
   rw[<-this,List.take_append_drop]
  rw[e,List.find?_append,List.find?_eq_none.2 (fun x hx=>by simpa using h4 x hx)]
  simp[h3]
def kindE (I V:List Itm) (t:Term):Int:=if t.name=[] then 0 else match(if t.var then V else I).find? (fun i=>i.name==t.name) with
 |some _=>0
 |none=>5
theorem c_kind (I V:List Itm) (hI:I.length<most) (hV:V.length<most) (t:Term):SC Tryz.prog 77 [t.gv,.sl .none (itms I),.sl .none (itms V)] [] (.val (.tup [.i .i64 (kindR I V t),.i .i64 (kindE I V t)])) []:=by
 have key:∀(l:List Itm),l.length<most->SC Tryz.prog 120 [.sl .none (itms l),.fn (.func 121) [] [.ptr 0 0]] [.box 93 t.cs] (.val (.i .i64 (idxN l t.name))) [.box 93 t.cs]:=fun l hl=>c_idxK l hl t
 obtain⟨nm,vr,v⟩:=t
 by_cases hn:nm=[]
 ·subst hn
  have e1:kindR I V ⟨[],vr,v⟩=v.k:=rfl
  have e2:kindE I V ⟨[],vr,v⟩=0:=rfl
  rw[e1,e2]
  refine SC.of_gwp noM mixed Tryz.func77 rfl (Nat.le_of_ble_eq_true rfl) (by first|exact Nat.le_refl _|simp) rfl ?_
  conv=>whnf
  exact owes_wk (.refl _) (fun _=>rfl)
 ·have e1:kindR I V ⟨nm,vr,v⟩=match(if vr then V else I).find? (fun i=>i.name==nm) with|some i=>i.k|none=>0:=if_neg hn
  have e2:kindE I V ⟨nm,vr,v⟩=match(if vr then V else I).find? (fun i=>i.name==nm) with|some _=>0|none=>5:=if_neg hn
  rw[e1,e2]
  cases vr with
  |true=>
   have hk:=key V hV
   simp only[if_true]
   have hc:=idx_kind V nm
   replace hk:SC Tryz.prog 120 [.sl .none (itms V),.fn (.func 121) [] [.ptr 0 0]] [.box 93 (Term.cs ⟨nm,true,v⟩)] (.val (.i .i64 (idxN V nm))) [.box 93 (Term.cs ⟨nm,true,v⟩)]:=hk
   rcases hc with⟨h1,h2⟩|⟨j,y,h1,h2,h3⟩
   ·rw[h1] at hk
    rw[h2]
    refine SC.of_gwp noM mixed Tryz.func77 rfl (Nat.le_of_ble_eq_true rfl) (by first|exact Nat.le_refl _|simp) rfl ?_
    conv=>whnf
    refine GIf.mk (fun h0=>?_) (fun h0=>?_)<;>conv=>whnf
    ·exact absurd (by simpa using h0) hn
    refine callPre (rest:=[]) hk rfl rfl rfl rfl (tm_own ⟨nm,true,v⟩) (tm_own ⟨nm,true,v⟩) rfl (fun e he=>by show[(GV.sl .none (itms V)).ren e,GV.fn _ [] [.ptr (e 0) 0]]=_;rw[Cl.sl (itms_cl V) e,he 0 (by simp)]) (fun _ _=>rfl) (Wks.refl _) ?_
    conv=>whnf
    exact owes_wk (.refl _) (fun _=>rfl)
   ·rw[h1] at hk
    rw[h3]
    refine SC.of_gwp noM mixed Tryz.func77 rfl (Nat.le_of_ble_eq_true rfl) (by first|exact Nat.le_refl _|simp) rfl ?_
    conv=>whnf
    refine GIf.mk (fun h0=>?_) (fun h0=>?_)<;>conv=>whnf
    ·exact absurd (by simpa using h0) hn
    refine callPre (rest:=[]) hk rfl rfl rfl rfl (tm_own ⟨nm,true,v⟩) (tm_own ⟨nm,true,v⟩) rfl (fun e he=>by show[(GV.sl .none (itms V)).ren e,GV.fn _ [] [.ptr (e 0) 0]]=_;rw[Cl.sl (itms_cl V) e,he 0 (by simp)]) (fun _ _=>rfl) (Wks.refl _) ?_
    conv=>whnf
    refine⟨Int.natCast_nonneg _,_,by rw[Int.toNat_natCast];exact itms_at h2,rfl,?_⟩
    conv=>whnf
    exact owes_wk (.refl _) (fun _=>rfl)
  |false=>
   have hk:=key I hI
   simp only[Bool.false_eq_true,if_false]
   have hc:=idx_kind I nm
   replace hk:SC Tryz.prog 120 [.sl .none (itms I),.fn (.func 121) [] [.ptr 0 0]] [.box 93 (Term.cs ⟨nm,false,v⟩)] (.val (.i .i64 (idxN I nm))) [.box 93 (Term.cs ⟨nm,false,v⟩)]:=hk
   rcases hc with⟨h1,h2⟩|⟨j,y,h1,h2,h3⟩
   ·rw[h1] at hk
    rw[h2]
    refine SC.of_gwp noM mixed Tryz.func77 rfl (Nat.le_of_ble_eq_true rfl) (by first|exact Nat.le_refl _|simp) rfl ?_
    conv=>whnf
    refine GIf.mk (fun h0=>?_) (fun h0=>?_)<;>conv=>whnf
    ·exact absurd (by simpa using h0) hn
    refine callPre (rest:=[]) hk rfl rfl rfl rfl (tm_own ⟨nm,false,v⟩) (tm_own ⟨nm,false,v⟩) rfl (fun e he=>by show[(GV.sl .none (itms I)).ren e,GV.fn _ [] [.ptr (e 0) 0]]=_;rw[Cl.sl (itms_cl I) e,he 0 (by simp)]) (fun _ _=>rfl) (Wks.refl _) ?_
    conv=>whnf
    exact owes_wk (.refl _) (fun _=>rfl)
   ·rw[h1] at hk
    rw[h3]
    refine SC.of_gwp noM mixed Tryz.func77 rfl (Nat.le_of_ble_eq_true rfl) (by first|exact Nat.le_refl _|simp) rfl ?_
    conv=>whnf
    refine GIf.mk (fun h0=>?_) (fun h0=>?_)<;>conv=>whnf
    ·exact absurd (by simpa using h0) hn
    refine callPre (rest:=[]) hk rfl rfl rfl rfl (tm_own ⟨nm,false,v⟩) (tm_own ⟨nm,false,v⟩) rfl (fun e he=>by show[(GV.sl .none (itms I)).ren e,GV.fn _ [] [.ptr (e 0) 0]]=_;rw[Cl.sl (itms_cl I) e,he 0 (by simp)]) (fun _ _=>rfl) (Wks.refl _) ?_
    conv=>whnf
    refine⟨Int.natCast_nonneg _,_,by rw[Int.toNat_natCast];exact itms_at h2,rfl,?_⟩
    conv=>whnf
    exact owes_wk (.refl _) (fun _=>rfl)
def eH (I V:List Itm) (e:Int):List GObj:=[.box 31 [.sl .none (itms I)],.box 31 [.sl .none (itms V)],.box 23 [.i .i64 e]]
def addE (I V:List Itm) (e:Int) (t:Term):Int:=if e=0 then kindE I V t else e
theorem eH_own (I V:List Itm) (e:Int):Own0 (eH I V e):=fun f hf=>by
 show[(GObj.box _ [.sl .none (itms I)]).ren f,(GObj.box _ [.sl .none (itms V)]).ren f,_]=_
 rw[GObj.box_cl (ClL.cons (Cl.sl (itms_cl I)) .nil),GObj.box_cl (ClL.cons (Cl.sl (itms_cl V)) .nil)];rfl
theorem eHt_own (I V:List Itm) (e:Int) {T:TypeId} {cs:List GV} (hc:ClL cs):Own0 (eH I V e++[GObj.box T cs]):=fun f hf=>by
 show[(GObj.box _ [.sl .none (itms I)]).ren f,(GObj.box _ [.sl .none (itms V)]).ren f,_,(GObj.box T cs).ren f]=_
 rw[GObj.box_cl (ClL.cons (Cl.sl (itms_cl I)) .nil),GObj.box_cl (ClL.cons (Cl.sl (itms_cl V)) .nil),GObj.box_cl hc];rfl
theorem eH_held (I V:List Itm) (e:Int):(eH I V e).all GObj.notHeld=true:=rfl
theorem eHt_held (I V:List Itm) (e:Int) {T:TypeId} {cs:List GV}:(eH I V e++[GObj.box T cs]).all GObj.notHeld=true:=rfl
theorem c_ck1a (I V:List Itm) (hI:I.length<most) (hV:V.length<most) (e:Int) (op:By) (a b:Term):SC Tryz.prog 102 [.ptr 3 1,.ptr 0 0,.ptr 1 0,.ptr 2 0] (eH I V e++[.box 117 (Tree.test op a b).cs]) (.val (.tup [])) (eH I V (addE I V e a)++[.box 117 (Tree.test op a b).cs]):=by
 have hk:=c_kind I V hI hV a
 unfold addE
 generalize kindR I V a=kr at*
 generalize kindE I V a=ke at*
 refine SC.of_gwp noM mixed Tryz.func102 rfl (Nat.le_of_ble_eq_true rfl) (by simp[eH]) (eHt_held _ _ _) ?_
 conv=>whnf
 refine GDraw.calm (by kernel_rfl) ?_
 conv=>whnf
 refine callP hk (Wks.refl _) rfl (ClL.cons a.cl (ClL.cons (Cl.sl (itms_cl I)) (ClL.cons (Cl.sl (itms_cl V)) .nil))) (fun _=>rfl) ?_
 conv=>whnf
 refine GIf.mk (fun h=>?_) (fun h=>?_)<;>conv=>whnf
 ·have h9:e=0:=by simpa using h
  rw[if_pos h9]
  refine⟨_,⟨rfl,Nat.zero_le _,rfl,Nat.le_of_ble_eq_true rfl⟩,?_⟩
  conv=>whnf
  exact owesPre (rest:=[]) rfl (by simp[eH]) (eHt_own I V ke (Tree.cs_cl _)) (eHt_held _ _ _) (fun _ _=>rfl) (Wk.refl _)
 ·have h9:¬e=0:=by simpa using h
  rw[if_neg h9]
  exact owesPre (rest:=[]) rfl (by simp[eH]) (eHt_own I V e (Tree.cs_cl _)) (eHt_held _ _ _) (fun _ _=>rfl) (Wk.refl _)
theorem c_ck1b (I V:List Itm) (hI:I.length<most) (hV:V.length<most) (e:Int) (op:By) (a b:Term):SC Tryz.prog 102 [.ptr 3 6,.ptr 0 0,.ptr 1 0,.ptr 2 0] (eH I V e++[.box 117 (Tree.test op a b).cs]) (.val (.tup [])) (eH I V (addE I V e b)++[.box 117 (Tree.test op a b).cs]):=by
 have hk:=c_kind I V hI hV b
 unfold addE
 generalize kindR I V b=kr at*
 generalize kindE I V b=ke at*
 refine SC.of_gwp noM mixed Tryz.func102 rfl (Nat.le_of_ble_eq_true rfl) (by simp[eH]) (eHt_held _ _ _) ?_
 conv=>whnf
 refine GDraw.calm (by kernel_rfl) ?_
 conv=>whnf
 refine callP hk (Wks.refl _) rfl (ClL.cons b.cl (ClL.cons (Cl.sl (itms_cl I)) (ClL.cons (Cl.sl (itms_cl V)) .nil))) (fun _=>rfl) ?_
 conv=>whnf
 refine GIf.mk (fun h=>?_) (fun h=>?_)<;>conv=>whnf
 ·have h9:e=0:=by simpa using h
  rw[if_pos h9]
  refine⟨_,⟨rfl,Nat.zero_le _,rfl,Nat.le_of_ble_eq_true rfl⟩,?_⟩
  conv=>whnf
  exact owesPre (rest:=[]) rfl (by simp[eH]) (eHt_own I V ke (Tree.cs_cl _)) (eHt_held _ _ _) (fun _ _=>rfl) (Wk.refl _)
 ·have h9:¬e=0:=by simpa using h
  rw[if_neg h9]
  exact owesPre (rest:=[]) rfl (by simp[eH]) (eHt_own I V e (Tree.cs_cl _)) (eHt_held _ _ _) (fun _ _=>rfl) (Wk.refl _)
def addD (I V:List Itm) (e:Int) (p:Term×Term):Int:=if kindR I V p.1 !=kindR I V p.2 then 10 else e
theorem c_ck2 (I V:List Itm) (hI:I.length<most) (hV:V.length<most) (e:Int) (op:By) (a b:Term):SC Tryz.prog 104 [.agg (Tree.test op a b).cs,.ptr 0 0,.ptr 1 0,.ptr 2 0] (eH I V e) (.val (.tup [])) (eH I V (addD I V e (a,b))):=by
 have hka:=c_kind I V hI hV a
 have hkb:=c_kind I V hI hV b
 unfold addD
 simp only
 generalize kindR I V a=ka at*
 generalize kindE I V a=ea at*
 generalize kindR I V b=kb at*
 generalize kindE I V b=eb at*
 refine SC.of_gwp noM mixed Tryz.func104 rfl (Nat.le_of_ble_eq_true rfl) (by simp[eH]) (eH_held _ _ _) ?_
 conv=>whnf
 refine callP hka (Wks.refl _) rfl (ClL.cons a.cl (ClL.cons (Cl.sl (itms_cl I)) (ClL.cons (Cl.sl (itms_cl V)) .nil))) (fun _=>rfl) ?_
 conv=>whnf
 refine callP hkb (Wks.refl _) rfl (ClL.cons b.cl (ClL.cons (Cl.sl (itms_cl I)) (ClL.cons (Cl.sl (itms_cl V)) .nil))) (fun _=>rfl) ?_
 conv=>whnf
 refine GIf.mk (fun h=>?_) (fun h=>?_)<;>conv=>whnf
 ·rw[if_pos h]
  refine⟨_,⟨rfl,Nat.zero_le _,rfl,Nat.le_of_ble_eq_true rfl⟩,?_⟩
  conv=>whnf
  exact owesPre (rest:=[_]) rfl (by simp[eH]) (eH_own I V 10) (eH_held _ _ _) (fun _ _=>rfl) (Wk.refl _)
 ·rw[if_neg (by rw[h];decide)]
  exact owesPre (rest:=[_]) rfl (by simp[eH]) (eH_own I V e) (eH_held _ _ _) (fun _ _=>rfl) (Wk.refl _)
def cF (k:FuncId):GV:=.fn (.func k) [] [.ptr 0 0,.ptr 1 0,.ptr 2 0]
theorem cF_ren (k:FuncId) {e:Nat->Nat} (h0:e 0=0) (h1:e 1=1) (h2:e 2=2):(cF k).ren e=cF k:=by
 show GV.fn _ [] [.ptr (e 0) 0,.ptr (e 1) 0,.ptr (e 2) 0]=_
 rw[h0,h1,h2];rfl
theorem cargs_ren (k:FuncId) {I V:List Itm} {x:Int} {t:Tree} (e:Nat->Nat) (he:∀i,i<(eH I V x).length->e i=i):[t.gv,cF k].map (GV.ren e)=[t.gv,cF k]:=by
 show[t.gv.ren e,(cF k).ren e]=_
 rw[t.cl e,cF_ren k (he 0 (by simp[eH])) (he 1 (by simp[eH])) (he 2 (by simp[eH]))]
theorem c_termsE (I V:List Itm) (hI:I.length<most) (hV:V.length<most):∀(t:Tree) (x:Int),SC Tryz.prog 98 [t.gv,cF 102] (eH I V x) (.val (.tup [])) (eH I V ((leaves t).foldl (addE I V) x))
 |.pair a l r,x=>by
  have s1:=c_termsE I V hI hV l x
  have s2:=c_termsE I V hI hV r ((leaves l).foldl (addE I V) x)
  rw[show(leaves (Tree.pair a l r)).foldl (addE I V) x=(leaves r).foldl (addE I V) ((leaves l).foldl (addE I V) x) by simp[leaves,List.foldl_append]]
  refine SC.of_gwp noM mixed Tryz.func98 rfl (Nat.le_of_ble_eq_true rfl) (by simp[eH]) (eH_held _ _ _) ?_
  conv=>whnf
  refine⟨_,⟨rfl,Nat.zero_le _,rfl,Nat.le_of_ble_eq_true rfl⟩,?_⟩
  conv=>whnf
  refine callPre (rest:=[.box 134 (Tree.pair a l r).cs]) s1 rfl (by simp[eH]) rfl rfl (eH_own _ _ _) (eH_own _ _ _) (eH_held _ _ _) (cargs_ren _) (fun _ _=>rfl) (Wks.refl _) ?_
  conv=>whnf
  refine callPre (rest:=[.box 134 (Tree.pair a l r).cs]) s2 rfl (by simp[eH]) rfl rfl (eH_own _ _ _) (eH_own _ _ _) (eH_held _ _ _) (cargs_ren _) (fun _ _=>rfl) (Wks.refl _) ?_
  conv=>whnf
  exact owesPre (rest:=[_]) rfl (by simp[eH]) (eH_own _ _ _) (eH_held _ _ _) (fun _ _=>rfl) (Wk.refl _)
 |.no t,x=>by
  have s1:=c_termsE I V hI hV t x
  refine SC.of_gwp noM mixed Tryz.func98 rfl (Nat.le_of_ble_eq_true rfl) (by simp[eH]) (eH_held _ _ _) ?_
  conv=>whnf
  refine⟨_,⟨rfl,Nat.zero_le _,rfl,Nat.le_of_ble_eq_true rfl⟩,?_⟩
  conv=>whnf
  refine callPre (rest:=[.box 88 (Tree.no t).cs]) s1 rfl (by simp[eH]) rfl rfl (eH_own _ _ _) (eH_own _ _ _) (eH_held _ _ _) (cargs_ren _) (fun _ _=>rfl) (Wks.refl _) ?_
  conv=>whnf
  exact owesPre (rest:=[_]) rfl (by simp[eH]) (eH_own _ _ _) (eH_held _ _ _) (fun _ _=>rfl) (Wk.refl _)
 |.test op a b,x=>by
  have s1:=c_ck1a I V hI hV x op a b
  have s2:=c_ck1b I V hI hV (addE I V x a) op a b
  have hcs:=(Tree.test op a b).cs_cl
  refine SC.of_gwp noM mixed Tryz.func98 rfl (Nat.le_of_ble_eq_true rfl) (by simp[eH]) (eH_held _ _ _) ?_
  conv=>whnf
  refine⟨_,⟨rfl,Nat.zero_le _,rfl,Nat.le_of_ble_eq_true rfl⟩,?_⟩
  conv=>whnf
  refine callPre (rest:=[]) s1 rfl (by simp[eH]) rfl rfl (eHt_own _ _ _ hcs) (eHt_own _ _ _ hcs) (eHt_held _ _ _) (fun e he=>by show[GV.ptr (e 3) 1,.ptr (e 0) 0,.ptr (e 1) 0,.ptr (e 2) 0]=_;rw[he 3 (by simp[eH]),he 0 (by simp[eH]),he 1 (by simp[eH]),he 2 (by simp[eH])]) (fun _ _=>rfl) (Wks.refl _) ?_
  conv=>whnf
  refine callPre (rest:=[]) s2 rfl (by simp[eH]) rfl rfl (eHt_own _ _ _ hcs) (eHt_own _ _ _ hcs) (eHt_held _ _ _) (fun e he=>by show[GV.ptr (e 3) 6,.ptr (e 0) 0,.ptr (e 1) 0,.ptr (e 2) 0]=_;rw[he 3 (by simp[eH]),he 0 (by simp[eH]),he 1 (by simp[eH]),he 2 (by simp[eH])]) (fun _ _=>rfl) (Wks.refl _) ?_
  conv=>whnf
  exact owesPre (rest:=[_]) rfl (by simp[eH]) (eH_own _ _ _) (eH_held _ _ _) (fun _ _=>rfl) (Wk.refl _)
 |.truth b,x=>by
  refine SC.of_gwp noM mixed Tryz.func98 rfl (Nat.le_of_ble_eq_true rfl) (by simp[eH]) (eH_held _ _ _) ?_
  conv=>whnf
  exact owesPre (rest:=[]) rfl (by simp[eH]) (eH_own _ _ _) (eH_held _ _ _) (fun _ _=>rfl) (Wk.refl _)
theorem c_testsE (I V:List Itm) (hI:I.length<most) (hV:V.length<most):∀(t:Tree) (x:Int),SC Tryz.prog 103 [t.gv,cF 104] (eH I V x) (.val (.tup [])) (eH I V ((tsts t).foldl (addD I V) x))
 |.pair a l r,x=>by
  have s1:=c_testsE I V hI hV l x
  have s2:=c_testsE I V hI hV r ((tsts l).foldl (addD I V) x)
  rw[show(tsts (Tree.pair a l r)).foldl (addD I V) x=(tsts r).foldl (addD I V) ((tsts l).foldl (addD I V) x) by simp[tsts,List.foldl_append]]
  refine SC.of_gwp noM mixed Tryz.func103 rfl (Nat.le_of_ble_eq_true rfl) (by simp[eH]) (eH_held _ _ _) ?_
  conv=>whnf
  refine⟨_,⟨rfl,Nat.zero_le _,rfl,Nat.le_of_ble_eq_true rfl⟩,?_⟩
  conv=>whnf
  refine callPre (rest:=[.box 134 (Tree.pair a l r).cs]) s1 rfl (by simp[eH]) rfl rfl (eH_own _ _ _) (eH_own _ _ _) (eH_held _ _ _) (cargs_ren _) (fun _ _=>rfl) (Wks.refl _) ?_
  conv=>whnf
  refine callPre (rest:=[.box 134 (Tree.pair a l r).cs]) s2 rfl (by simp[eH]) rfl rfl (eH_own _ _ _) (eH_own _ _ _) (eH_held _ _ _) (cargs_ren _) (fun _ _=>rfl) (Wks.refl _) ?_
  conv=>whnf
  exact owesPre (rest:=[_]) rfl (by simp[eH]) (eH_own _ _ _) (eH_held _ _ _) (fun _ _=>rfl) (Wk.refl _)
 |.no t,x=>by
  have s1:=c_testsE I V hI hV t x
  refine SC.of_gwp noM mixed Tryz.func103 rfl (Nat.le_of_ble_eq_true rfl) (by simp[eH]) (eH_held _ _ _) ?_
  conv=>whnf
  refine⟨_,⟨rfl,Nat.zero_le _,rfl,Nat.le_of_ble_eq_true rfl⟩,?_⟩
  conv=>whnf
  refine callPre (rest:=[.box 88 (Tree.no t).cs]) s1 rfl (by simp[eH]) rfl rfl (eH_own _ _ _) (eH_own _ _ _) (eH_held _ _ _) (cargs_ren _) (fun _ _=>rfl) (Wks.refl _) ?_
  conv=>whnf
  exact owesPre (rest:=[_]) rfl (by simp[eH]) (eH_own _ _ _) (eH_held _ _ _) (fun _ _=>rfl) (Wk.refl _)
 |.test op a b,x=>by
  have s1:=c_ck2 I V hI hV x op a b
  have hcs:=(Tree.test op a b).cs_cl
  refine SC.of_gwp noM mixed Tryz.func103 rfl (Nat.le_of_ble_eq_true rfl) (by simp[eH]) (eH_held _ _ _) ?_
  conv=>whnf
  refine⟨_,⟨rfl,Nat.zero_le _,rfl,Nat.le_of_ble_eq_true rfl⟩,?_⟩
  conv=>whnf
  refine callPre (rest:=[.box 117 (Tree.test op a b).cs]) s1 rfl (by simp[eH]) rfl rfl (eH_own _ _ _) (eH_own _ _ _) (eH_held _ _ _) (fun e he=>by show[(GV.agg (Tree.test op a b).cs).ren e,GV.ptr (e 0) 0,.ptr (e 1) 0,.ptr (e 2) 0]=_;rw[Cl.agg hcs e,he 0 (by simp[eH]),he 1 (by simp[eH]),he 2 (by simp[eH])]) (fun _ _=>rfl) (Wks.refl _) ?_
  conv=>whnf
  exact owesPre (rest:=[_]) rfl (by simp[eH]) (eH_own _ _ _) (eH_held _ _ _) (fun _ _=>rfl) (Wk.refl _)
 |.truth b,x=>by
  refine SC.of_gwp noM mixed Tryz.func103 rfl (Nat.le_of_ble_eq_true rfl) (by simp[eH]) (eH_held _ _ _) ?_
  conv=>whnf
  exact owesPre (rest:=[]) rfl (by simp[eH]) (eH_own _ _ _) (eH_held _ _ _) (fun _ _=>rfl) (Wk.refl _)
theorem foldE (I V:List Itm):∀(ts:List Term) (x:Int),x=0∨x=5->ts.foldl (addE I V) x=if x=5∨ts.any (fun t=>kindE I V t==5) then 5 else 0
 |[],x,h=>by rcases h with rfl|rfl<;>rfl
 |t::ts,x,h=>by
  have hk:kindE I V t=0∨kindE I V t=5:=by
   unfold kindE
   split
   ·exact .inl rfl
   ·split
    ·exact .inl rfl
    ·exact .inr rfl
  rw[List.foldl_cons,List.any_cons]
  have hx:addE I V x t=0∨addE I V x t=5:=by
   unfold addE;split
   ·exact hk
   ·exact h
  rw[foldE I V ts _ hx]
  unfold addE
  rcases h with rfl|rfl
  ·rcases hk with hk|hk<;>simp[hk]
  ·simp
theorem foldD (I V:List Itm):∀(ts:List (Term×Term)) (x:Int),x=0∨x=10->ts.foldl (addD I V) x=if x=10∨ts.any (fun p=>kindR I V p.1 !=kindR I V p.2) then 10 else 0
 |[],x,h=>by rcases h with rfl|rfl<;>rfl
 |t::ts,x,h=>by
  rw[List.foldl_cons,List.any_cons]
  have hx:addD I V x t=0∨addD I V x t=10:=by
   unfold addD;split
   ·exact .inr rfl
   ·exact h
  rw[foldD I V ts _ hx]
  unfold addD
  cases hb:(kindR I V t.1 !=kindR I V t.2) with
  |true=>simp
  |false=>
   simp only[Bool.false_eq_true,if_false,Bool.false_or]
theorem kind_zero {I V:List Itm} (hI:knownB I=true) (hV:knownB V=true) {t:Term} (ht:t.good):(kindR I V t==0)=(kindE I V t==5):=by
 have okk:∀{l:List Itm},knownB l=true->∀y∈l,y.k≠0:=fun h y hy=>by
  unfold knownB at h
  simp only[Bool.and_eq_true,List.all_eq_true] at h
  have:=h.1.1 y hy
  simp only[Itm.ok,Bool.and_eq_true,Bool.or_eq_true,decide_eq_true_eq] at this
  rcases this.2 with h|h<;>omega
 unfold kindR kindE
 by_cases hn:t.name=[]
 ·rw[if_pos hn,if_pos hn]
  have hv:t.v.ok=true:=by
   rcases ht with⟨h1,_⟩|⟨_,_,h3⟩
   ·exact absurd hn h1
   ·exact h3
  rcases ok_kind hv with h|h<;>rw[h]<;>rfl
 ·rw[if_neg hn,if_neg hn]
  cases hf:(if t.var then V else I).find? (fun i=>i.name==t.name) with
  |none=>rfl
  |some y=>
   have hm:=List.mem_of_find?_eq_some hf
   have:y.k≠0:=by
    cases hv:t.var with
    |true=>rw[hv] at hm;exact okk hV y hm
    |false=>rw[hv] at hm;exact okk hI y hm
   simp[this]
theorem leaf_good:∀{t:Tree},t.good->∀x∈leaves t,x.good
 |.pair _ l r,h,x,hx=>by
  simp only[leaves,List.mem_append] at hx
  rcases hx with hx|hx
  ·exact leaf_good h.1 x hx
  ·exact leaf_good h.2 x hx
 |.no t,h,x,hx=>leaf_good (t:=t) h x hx
 |.test _ a b,h,x,hx=>by
  simp[leaves] at hx
  rcases hx with rfl|rfl
  ·exact h.2.1
  ·exact h.2.2
 |.truth _,h,x,hx=>by simp[leaves] at hx
theorem any_zero {I V:List Itm} (hI:knownB I=true) (hV:knownB V=true):∀{ts:List Term},(∀x∈ts,x.good)->ts.any (fun x=>kindR I V x==0)=ts.any (fun t=>kindE I V t==5)
 |[],_=>rfl
 |t::ts,h=>by
  rw[List.any_cons,List.any_cons,kind_zero hI hV (h t (by simp)),any_zero hI hV (fun x hx=>h x (by simp[hx]))]
def checkE (I V:List Itm) (t:Tree):Int:=if(leaves t).any (fun x=>kindE I V x==5) then 5 else if(tsts t).any (fun p=>kindR I V p.1 !=kindR I V p.2) then 10 else 0
theorem checkE_eq {I V:List Itm} (hI:knownB I=true) (hV:knownB V=true) {t:Tree} (h:t.good):checkE I V t=checkS I V t:=by
 unfold checkE checkS
 rw[any_zero hI hV (leaf_good h)]
theorem c_check (I V:List Itm) (hI:I.length<most) (hV:V.length<most) (t:Tree):SC Tryz.prog 54 [t.gv,.sl .none (itms I),.sl .none (itms V)] [] (.val (.i .i64 (checkE I V t))) []:=by
 have s1:=c_termsE I V hI hV t 0
 have s2:=c_testsE I V hI hV t 0
 rw[foldE I V _ 0 (.inl rfl)] at s1
 rw[foldD I V _ 0 (.inl rfl)] at s2
 unfold checkE
 generalize(leaves t).any (fun x=>kindE I V x==5)=b1 at*
 generalize(tsts t).any (fun p=>kindR I V p.1 !=kindR I V p.2)=b2 at*
 cases b1 with
 |true=>
  replace s1:SC Tryz.prog 98 [t.gv,cF 102] (eH I V 0) (.val (.tup [])) (eH I V 5):=s1
  refine SC.of_gwp noM mixed Tryz.func54 rfl (Nat.le_of_ble_eq_true rfl) (by first|exact Nat.le_refl _|simp) rfl ?_
  conv=>whnf
  refine⟨_,⟨rfl,Nat.zero_le _,rfl,Nat.le_of_ble_eq_true rfl⟩,?_⟩
  conv=>whnf
  refine callPre (rest:=[]) s1 rfl (by simp[eH]) rfl rfl (eH_own _ _ _) (eH_own _ _ _) (eH_held _ _ _) (cargs_ren _) (fun _ _=>rfl) (Wks.refl _) ?_
  conv=>whnf
  exact owes_i rfl
 |false=>
  replace s1:SC Tryz.prog 98 [t.gv,cF 102] (eH I V 0) (.val (.tup [])) (eH I V 0):=s1
  cases b2 with
  |true=>
   replace s2:SC Tryz.prog 103 [t.gv,cF 104] (eH I V 0) (.val (.tup [])) (eH I V 10):=s2
   refine SC.of_gwp noM mixed Tryz.func54 rfl (Nat.le_of_ble_eq_true rfl) (by first|exact Nat.le_refl _|simp) rfl ?_
   conv=>whnf
   refine⟨_,⟨rfl,Nat.zero_le _,rfl,Nat.le_of_ble_eq_true rfl⟩,?_⟩
   conv=>whnf
   refine callPre (rest:=[]) s1 rfl (by simp[eH]) rfl rfl (eH_own _ _ _) (eH_own _ _ _) (eH_held _ _ _) (cargs_ren _) (fun _ _=>rfl) (Wks.refl _) ?_
   conv=>whnf
   refine callPre (rest:=[]) s2 rfl (by simp[eH]) rfl rfl (eH_own _ _ _) (eH_own _ _ _) (eH_held _ _ _) (cargs_ren _) (fun _ _=>rfl) (Wks.refl _) ?_
   conv=>whnf
   exact owes_i rfl
  |false=>
   replace s2:SC Tryz.prog 103 [t.gv,cF 104] (eH I V 0) (.val (.tup [])) (eH I V 0):=s2
   refine SC.of_gwp noM mixed Tryz.func54 rfl (Nat.le_of_ble_eq_true rfl) (by first|exact Nat.le_refl _|simp) rfl ?_
   conv=>whnf
   refine⟨_,⟨rfl,Nat.zero_le _,rfl,Nat.le_of_ble_eq_true rfl⟩,?_⟩
   conv=>whnf
   refine callPre (rest:=[]) s1 rfl (by simp[eH]) rfl rfl (eH_own _ _ _) (eH_own _ _ _) (eH_held _ _ _) (cargs_ren _) (fun _ _=>rfl) (Wks.refl _) ?_
   conv=>whnf
   refine callPre (rest:=[]) s2 rfl (by simp[eH]) rfl rfl (eH_own _ _ _) (eH_own _ _ _) (eH_held _ _ _) (cargs_ren _) (fun _ _=>rfl) (Wks.refl _) ?_
   conv=>whnf
   exact owes_i rfl
end Go.Proofs.YtlhabmglchgdnaaGreatDoor
namespace Go.Proofs.YtlhabmglchgdnaaGreatDoor
open Go.RowKit
set_option maxRecDepth 100000
set_option linter.unusedVariables false
def wcs (I V:List Itm) (R W:List Val):List GV:=[.sl .none (itms I),.sl .none (itms V),.sl .none (vlsG R),.sl .none (vlsG W)]
theorem wcs_cl (I V:List Itm) (R W:List Val):ClL (wcs I V R W):=ClL.cons (Cl.sl (itms_cl I)) (ClL.cons (Cl.sl (itms_cl V)) (ClL.cons (Cl.sl (vlsG_cl R)) (ClL.cons (Cl.sl (vlsG_cl W)) .nil)))
def wrongS (I V:List Itm) (R:List Val):Int:=if knownB I&&knownB V&&fits2 I R then 0 else 1
theorem c_wrong (I V:List Itm) (R W:List Val) (hI:I.length<most) (hV:V.length<most) (hR:R.length<most):SC Tryz.prog 56 [.agg (wcs I V R W)] [] (.val (.i .i64 (wrongS I V R))) []:=by
 have h1:=c_listed I hI
 have h2:=c_listed V hV
 have h3:=c_Fits I R hI hR
 have hl1:=itms_len I
 have hl2:=vlsG_len R
 unfold wrongS fits2
 have hfl:fitsB I R=true->0<I.length:=fun h=>by
  unfold fitsB at h
  simp only[Bool.and_eq_true,decide_eq_true_eq] at h
  exact h.1.1
 generalize knownB I=k1 at*
 generalize knownB V=k2 at*
 generalize fitsB I R=f at*
 cases k1 with
 |false=>
  refine SC.of_gwp noM mixed Tryz.func56 rfl (Nat.le_of_ble_eq_true rfl) (by first|exact Nat.le_refl _|simp) rfl ?_
  conv=>whnf
  refine callP h1 (Wks.refl _) rfl (ClL.cons (Cl.sl (itms_cl I)) .nil) (.b _) ?_
  conv=>whnf
  exact owes_i rfl
 |true=>
  cases k2 with
  |false=>
   refine SC.of_gwp noM mixed Tryz.func56 rfl (Nat.le_of_ble_eq_true rfl) (by first|exact Nat.le_refl _|simp) rfl ?_
   conv=>whnf
   refine callP h1 (Wks.refl _) rfl (ClL.cons (Cl.sl (itms_cl I)) .nil) (.b _) ?_
   conv=>whnf
   refine callP h2 (Wks.refl _) rfl (ClL.cons (Cl.sl (itms_cl V)) .nil) (.b _) ?_
   conv=>whnf
   exact owes_i rfl
  |true=>
   refine SC.of_gwp noM mixed Tryz.func56 rfl (Nat.le_of_ble_eq_true rfl) (by first|exact Nat.le_refl _|simp) rfl ?_
   conv=>whnf
   refine callP h1 (Wks.refl _) rfl (ClL.cons (Cl.sl (itms_cl I)) .nil) (.b _) ?_
   conv=>whnf
   refine callP h2 (Wks.refl _) rfl (ClL.cons (Cl.sl (itms_cl V)) .nil) (.b _) ?_
   conv=>whnf
   refine GIf.mk (fun z=>?_) (fun z=>?_)<;>conv=>whnf
   ·have z':I.length=0:=by
     have h9:((itms I).length:Int)=0:=by simpa using z
     omega
    have hf:f=false:=by
     cases hf:f with
     |false=>rfl
     |true=>have:=hfl hf;omega
    refine GIf.mk (fun p=>?_) (fun p=>?_)<;>conv=>whnf
    ·have p':¬R.length=0:=by
      have h9:=of_decide_eq_true p
      omega
     refine owes_i ?_
     rw[hf,decide_eq_false (fun h=>p' h.2)];rfl
    ·have p':R.length=0:=by
      have h9:=of_decide_eq_false p
      omega
     refine GIf.mk (fun q=>?_) (fun q=>?_)<;>conv=>whnf
     ·exfalso;have h9:=of_decide_eq_true q;omega
     refine owes_i ?_
     rw[decide_eq_true ⟨z',p'⟩];rfl
   ·have z':¬I.length=0:=by
     have h9:¬((itms I).length:Int)=0:=by simpa using z
     omega
    refine GIf.mk (fun q=>?_) (fun q=>?_)<;>conv=>whnf
    rotate_left
    ·exfalso;have h9:=of_decide_eq_false q;omega
    refine callP h3 (Wks.refl _) rfl (ClL.cons (Cl.sl (itms_cl I)) (ClL.cons (Cl.sl (vlsG_cl R)) .nil)) (.b _) ?_
    conv=>whnf
    rw[decide_eq_false (fun h=>z' h.1)]
    cases f with
    |true=>exact owes_i rfl
    |false=>exact owes_i rfl
def kinds2:List Itm->List Val->Bool
 |i::l,v::r=>v.ok&&decide (v.k=i.k)&&kinds2 l r
 |_,_=>true
theorem kinds_iff:∀{l:List Itm} {r:List Val},(kinds2 l r=true↔∀(i:Nat) x y,l[i]?=some x->r[i]?=some y->y.ok=true/\y.k=x.k)
 |[],r=>⟨fun _ i x y h=>by simp at h,fun _=>by cases r<;>rfl⟩
 |x::l,[]=>⟨fun _ i x y h h'=>by simp at h',fun _=>rfl⟩
 |x::l,v::r=>by
  simp only[kinds2,Bool.and_eq_true,decide_eq_true_eq,kinds_iff (l:=l) (r:=r)]
  constructor
  ·rintro⟨⟨h1,h1'⟩,h2⟩ i a b ha hb
   cases i with
   |zero=>simp at ha hb;rw[<-ha,<-hb];exact⟨h1,h1'⟩
   |succ i=>exact h2 i a b (by simpa using ha) (by simpa using hb)
  ·intro h2
   exact⟨h2 0 x v rfl rfl,fun i a b ha hb=>h2 (i+1) a b (by simpa using ha) (by simpa using hb)⟩
theorem kinds_no {l:List Itm} {r:List Val} {i:Nat} {x:Itm} {y:Val} (hx:l[i]?=some x) (hy:r[i]?=some y) (h:y.ok=false∨¬y.k=x.k):kinds2 l r=false:=by
 cases he:kinds2 l r with
 |false=>rfl
 |true=>
  obtain⟨a,b⟩:=kinds_iff.1 he i x y hx hy
  rcases h with h|h
  ·rw[h] at a;cases a
  ·exact absurd b h
def toldS (V:List Itm) (W:List Val):Int:=if W.length≠V.length then 11 else if kinds2 V W then 0 else 1
theorem c_toldW (I V:List Itm) (R W:List Val) (hV:V.length<most) (hW:W.length<most):SC Tryz.prog 57 [.agg (wcs I V R W)] [] (.val (.i .i64 (toldS V W))) []:=by
 have hl1:=itms_len V
 have hl2:=vlsG_len W
 unfold toldS
 unfold most at hV hW
 refine SC.of_gwp noM mixed Tryz.func57 rfl (Nat.le_of_ble_eq_true rfl) (by first|exact Nat.le_refl _|simp) rfl ?_
 conv=>whnf
 refine GIf.mk (fun h0=>?_) (fun h0=>?_)<;>conv=>whnf
 ·have h0':W.length≠V.length:=by
   have h9:¬((vlsG W).length:Int)=(itms V).length:=by simpa using h0
   omega
  exact owes_i (by rw[if_pos h0'])
 have h0':W.length=V.length:=by
  have h9:((vlsG W).length:Int)=(itms V).length:=by simpa using h0
  omega
 rw[if_neg (by simpa using h0')]
 refine GLoop.introS (fun i:Nat=>i<=W.length/\∀(j:Nat) x y,j<i->V[j]?=some x->W[j]?=some y->y.ok=true/\y.k=x.k) (fun i=>[(1,.ptr 0 0),(13,.sl .none (vlsG W)),(14,.i .i64 (vlsG W).length),(15,.i .i64 (i:Nat))])
  (fun _=>⟨[.box 81 (wcs I V R W)],0,[]⟩) (fun i=>W.length - i) 0 ⟨Nat.zero_le _,fun j x y h=>by omega⟩ ⟨rfl,rfl,rfl,rfl,trivial⟩ rfl (fun _ _=>Nat.le_refl _) (fun _ _=>rfl) (fun i _ e he=>?_) (fun i φ0 hi=>?_)
 ·refine⟨?_,rfl,?_⟩
  ·show[(GObj.box _ (wcs I V R W)).ren e]=_
   rw[GObj.box_cl (wcs_cl I V R W)]
  ·show[GV.ptr (e 0) 0,(GV.sl .none (vlsG W)).ren e,_,_]=_
   rw[Cl.sl (vlsG_cl W) e,he 0 (by simp)];rfl
 obtain⟨hi,hok⟩:=hi
 conv=>whnf
 refine GIf.mk (fun h=>?_) (fun h=>?_)<;>conv=>whnf
 rotate_left
 ·have hie:i=W.length:=by have:=of_decide_eq_false h;rw[hl2] at this;omega
  refine owes_i ?_
  rw[if_pos (kinds_iff.2 (fun j x y hx hy=>hok j x y (by have:=(List.getElem?_eq_some_iff.1 hy).1;omega) hx hy))]
 have hlt:i<W.length:=by have:=of_decide_eq_true h;rw[hl2] at this;omega
 obtain⟨y,hy⟩:∃y,W[i]?=some y:=⟨W[i],List.getElem?_eq_getElem hlt⟩
 obtain⟨x,hx⟩:∃x,V[i]?=some x:=⟨V[i]'(by omega),List.getElem?_eq_getElem (by omega)⟩
 have hv:=c_ValidValue y
 refine⟨Int.natCast_nonneg _,_,by rw[Int.toNat_natCast];exact vlsG_at hy,rfl,?_⟩
 conv=>whnf
 refine⟨_,⟨rfl,Nat.zero_le _,rfl,Nat.le_of_ble_eq_true rfl⟩,?_⟩
 conv=>whnf
 refine GDraw.calm (by kernel_rfl) ?_
 conv=>whnf
 refine callP hv (Wks.refl _) rfl (fun _=>rfl) (.b _) ?_
 conv=>whnf
 refine GIf.mk (fun h1=>?_) (fun h1=>?_)<;>conv=>whnf
 ·refine owes_i ?_
  rw[kinds_no hx hy (.inl (by simpa using h1))];rfl
 have h1':y.ok=true:=by simpa using h1
 refine⟨Int.natCast_nonneg _,_,by rw[Int.toNat_natCast];exact itms_at hx,rfl,?_⟩
 conv=>whnf
 refine GIf.mk (fun h2=>?_) (fun h2=>?_)<;>conv=>whnf
 ·refine owes_i ?_
  have h2':¬y.k=x.k:=by simpa using h2
  rw[kinds_no hx hy (.inr h2')];rfl
 ·have h2':y.k=x.k:=by simpa using h2
  exact⟨W.length - (i+1),(by show _<W.length - i;omega),i+1,⟨hlt,fun j x' y' hj hx' hy'=>by
   by_cases hji:j=i
   ·subst hji;rw[hx] at hx';rw[hy] at hy';cases hx';cases hy';exact⟨h1',h2'⟩
   ·exact hok j x' y' (by omega) hx' hy'⟩,rfl,⟨rfl,rfl,rfl,wrap_succ (by omega),trivial⟩,_,rfl,rfl⟩
end Go.Proofs.YtlhabmglchgdnaaGreatDoor
namespace Go.Proofs.YtlhabmglchgdnaaGreatDoor
open Go.RowKit
set_option maxRecDepth 100000
set_option linter.unusedVariables false
end Go.Proofs.YtlhabmglchgdnaaGreatDoor
