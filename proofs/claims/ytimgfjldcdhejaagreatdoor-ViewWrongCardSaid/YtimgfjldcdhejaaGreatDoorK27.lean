/- Part of ViewWrong. -/
import Derived.Test.YtimgfjldcdhejaaGreatDoorK26
set_option linter.all false
set_option maxRecDepth 100000
namespace Go.Proofs.YtimgfjldcdhejaaGreatDoor
open Go.RowKit
theorem a4l [MaxL] (i:Itm) (t:Term):SC Tryz.prog 253 [i.gv,.ptr 0 0] [.box 246 t.cs] (.val (.b (i.name==t.name))) [.box 246 t.cs]:=by
 obtain⟨name,k,lo,hi,len⟩:=i;obtain⟨nm,vr,v⟩:=t;refine cO Tryz.func253 rfl ?_;conv=>whnf
 exact uY rfl rfl (fun _=>rfl)
theorem vL [MaxL] (t:Term):H5 [.box 246 t.cs]:=fun e _=>rfl
theorem a6l [MaxL] (l:List Itm) (hl:l.length<b9) (t:Term):SC Tryz.prog 112 [.sl .none (fM l),.fn (.func 253) [] [.ptr 0 0]] [.box 246 t.cs] (.val (.i .i64 (wW l t.name))) [.box 246 t.cs]:=by
 have hlen:=rV l;unfold b9 at hl;refine cO Tryz.func112 rfl ?_;conv=>whnf
 refine dH (fun i:Nat=>i<=l.length/\∀z∈l.take i,z.name≠t.name) (fun i=>[(0,.sl .none (fM l)),(1,.fn (.func 253) [] [.ptr 0 0]),(7,.i .i64 (fM l).length),(8,.i .i64 (i:Nat))]) (fun _=>⟨[.box 246 t.cs],0,[]⟩) (fun i=>l.length - i) 0 ⟨zL _,fun z h=>by simp at h⟩ ⟨rfl,rfl,rfl,rfl,trivial⟩ rfl (fun _ _=>rL _) (fun _ _=>rfl) (fun i _ e he=>?_) (fun i φ0 hi=>?_)
 ·refine⟨rfl,rfl,?_⟩;show[(GV.sl .none (fM l)).ren e,GV.fn _ [] [.ptr (e 0) 0],_,_]=_;rw[bK (dC l) e,he 0 (by simp)];rfl
 obtain⟨hi,hne⟩:=hi;conv=>whnf
 apply gM<;>intro h<;>conv=>whnf
 rotate_left
 ·have hie:i=l.length:=by have:=aA h;omega
  rw[hie,aV] at hne;rw[US hne];exact jU rfl (.refl _) (fun _=>rfl) (.i _ _)
 have hlt:i<l.length:=by have:=aB h;omega
 obtain⟨y,hy⟩:∃y,l[i]?=some y:=⟨l[i],gL hlt⟩;have hk:=a4l y t;refine⟨jR _,_,by rw[aL];exact pJ hy,rfl,?_⟩;conv=>whnf
 refine iS (rest:=[]) hk rfl rfl rfl rfl (vL t) (vL t) rfl (fun e he=>by show[(y.gv).ren e,GV.ptr (e 0) 0]=_;rw[y.cl e,he 0 (by simp)]) (fun _ _=>rfl) (wR _) ?_;conv=>whnf
 apply gM<;>intro heq<;>conv=>whnf
 ·have e:y.name=t.name:=by simpa using heq
  rw[HS hy e hne];exact jU rfl (.refl _) (fun _=>rfl) (.i _ _)
 ·have e:y.name≠t.name:=by simpa using heq
  exact⟨l.length - (i+1),(by show _<l.length - i;omega),i+1,⟨hlt,xR hne hy e⟩,rfl,⟨rfl,rfl,rfl,bH (by omega),trivial⟩,[],rfl,rfl⟩
theorem DI (l:List Itm) (s:By):(wW l s= -1/\l.find? (fun i=>i.name==s)=none)∨∃(j:Nat) (y:Itm),wW l s=(j:Nat)/\l[j]?=some y/\l.find? (fun i=>i.name==s)=some y:=by
 rcases MT l s with⟨h1,h2⟩|⟨j,y,h1,h2,h3,h4⟩
 ·exact .inl ⟨h1,List.find?_eq_none.2 (fun x hx=>by simpa using h2 x hx)⟩
 ·refine .inr ⟨j,y,h1,h2,?_⟩;have hlt:=(List.getElem?_eq_some_iff.1 h2).1;have e:l=l.take j++y::l.drop (j+1):=by
   have:l.drop j=y::l.drop (j+1):=by
    rw[b8 hlt,(List.getElem?_eq_some_iff.1 h2).2]
   rw[<-this,j4]
  rw[e,List.find?_append,List.find?_eq_none.2 (fun x hx=>by simpa using h4 x hx)];simp[h3]
def rU (I V:List Itm) (t:Term):Int:=if t.name=[] then 0 else match(if t.var then V else I).find? (fun i=>i.name==t.name) with
 |some _=>0
 |none=>5
theorem PS [MaxL] (I V:List Itm) (hI:I.length<b9) (hV:V.length<b9) (t:Term):SC Tryz.prog 200 [t.gv,.sl .none (fM I),.sl .none (fM V)] [] (.val (.tup [.i .i64 (jI I V t),.i .i64 (rU I V t)])) []:=by
 have key:∀(l:List Itm),l.length<b9->SC Tryz.prog 112 [.sl .none (fM l),.fn (.func 253) [] [.ptr 0 0]] [.box 246 t.cs] (.val (.i .i64 (wW l t.name))) [.box 246 t.cs]:=fun l hl=>a6l l hl t;obtain⟨nm,vr,v⟩:=t;by_cases hn:nm=[]
 ·subst hn;have e1:jI I V ⟨[],vr,v⟩=v.k:=rfl;have e2:rU I V ⟨[],vr,v⟩=0:=rfl;rw[e1,e2];refine cO Tryz.func200 rfl ?_;conv=>whnf
  exact oW
 ·have e1:jI I V ⟨nm,vr,v⟩=match(if vr then V else I).find? (fun i=>i.name==nm) with|some i=>i.k|none=>0:=aC hn
  have e2:rU I V ⟨nm,vr,v⟩=match(if vr then V else I).find? (fun i=>i.name==nm) with|some _=>0|none=>5:=aC hn
  rw[e1,e2];cases vr with
  |true=>
   have hk:=key V hV;simp only[f7];have hc:=DI V nm;replace hk:SC Tryz.prog 112 [.sl .none (fM V),.fn (.func 253) [] [.ptr 0 0]] [.box 246 (Term.cs ⟨nm,true,v⟩)] (.val (.i .i64 (wW V nm))) [.box 246 (Term.cs ⟨nm,true,v⟩)]:=hk;rcases hc with⟨h1,h2⟩|⟨j,y,h1,h2,h3⟩
   ·rw[h1] at hk;rw[h2];refine cO Tryz.func200 rfl ?_;(conv=>whnf);apply gM<;>intro h0<;>conv=>whnf
    ·exact absurd (by simpa using h0) hn
    refine iS (rest:=[]) hk rfl rfl rfl rfl (vL ⟨nm,true,v⟩) (vL ⟨nm,true,v⟩) rfl (fun e he=>by show[(GV.sl .none (fM V)).ren e,GV.fn _ [] [.ptr (e 0) 0]]=_;rw[bK (dC V) e,he 0 (by simp)]) (fun _ _=>rfl) (wR _) ?_;(conv=>whnf);exact oW
   ·rw[h1] at hk;rw[h3];refine cO Tryz.func200 rfl ?_;(conv=>whnf);apply gM<;>intro h0<;>conv=>whnf
    ·exact absurd (by simpa using h0) hn
    refine iS (rest:=[]) hk rfl rfl rfl rfl (vL ⟨nm,true,v⟩) (vL ⟨nm,true,v⟩) rfl (fun e he=>by show[(GV.sl .none (fM V)).ren e,GV.fn _ [] [.ptr (e 0) 0]]=_;rw[bK (dC V) e,he 0 (by simp)]) (fun _ _=>rfl) (wR _) ?_;(conv=>whnf);refine⟨jR _,_,by rw[aL];exact pJ h2,rfl,?_⟩;(conv=>whnf);exact oW
  |false=>
   have hk:=key I hI;simp only[bX,fN];have hc:=DI I nm;replace hk:SC Tryz.prog 112 [.sl .none (fM I),.fn (.func 253) [] [.ptr 0 0]] [.box 246 (Term.cs ⟨nm,false,v⟩)] (.val (.i .i64 (wW I nm))) [.box 246 (Term.cs ⟨nm,false,v⟩)]:=hk;rcases hc with⟨h1,h2⟩|⟨j,y,h1,h2,h3⟩
   ·rw[h1] at hk;rw[h2];refine cO Tryz.func200 rfl ?_;(conv=>whnf);apply gM<;>intro h0<;>conv=>whnf
    ·exact absurd (by simpa using h0) hn
    refine iS (rest:=[]) hk rfl rfl rfl rfl (vL ⟨nm,false,v⟩) (vL ⟨nm,false,v⟩) rfl (fun e he=>by show[(GV.sl .none (fM I)).ren e,GV.fn _ [] [.ptr (e 0) 0]]=_;rw[bK (dC I) e,he 0 (by simp)]) (fun _ _=>rfl) (wR _) ?_;(conv=>whnf);exact oW
   ·rw[h1] at hk;rw[h3];refine cO Tryz.func200 rfl ?_;(conv=>whnf);apply gM<;>intro h0<;>conv=>whnf
    ·exact absurd (by simpa using h0) hn
    refine iS (rest:=[]) hk rfl rfl rfl rfl (vL ⟨nm,false,v⟩) (vL ⟨nm,false,v⟩) rfl (fun e he=>by show[(GV.sl .none (fM I)).ren e,GV.fn _ [] [.ptr (e 0) 0]]=_;rw[bK (dC I) e,he 0 (by simp)]) (fun _ _=>rfl) (wR _) ?_;(conv=>whnf);refine⟨jR _,_,by rw[aL];exact pJ h2,rfl,?_⟩;(conv=>whnf);exact oW
def eH (I V:List Itm) (e:Int):List GObj:=[.box 56 [.sl .none (fM I)],.box 56 [.sl .none (fM V)],.box 34 [.i .i64 e]]
def CR (I V:List Itm) (e:Int) (t:Term):Int:=if e=0 then rU I V t else e
theorem gQ [MaxL] (I V:List Itm) (e:Int):H5 (eH I V e):=fun f hf=>by
 show[(GObj.box _ [.sl .none (fM I)]).ren f,(GObj.box _ [.sl .none (fM V)]).ren f,_]=_;rw[dW (cC (bK (dC I)) .nil),dW (cC (bK (dC V)) .nil)];rfl
theorem vE [MaxL] (I V:List Itm) (e:Int) {T:TypeId} {cs:List GV} (hc:ClL cs):H5 (eH I V e++[GObj.box T cs]):=fun f hf=>by
 show[(GObj.box _ [.sl .none (fM I)]).ren f,(GObj.box _ [.sl .none (fM V)]).ren f,_,(GObj.box T cs).ren f]=_;rw[dW (cC (bK (dC I)) .nil),dW (cC (bK (dC V)) .nil),dW hc];rfl
theorem fO [MaxL] (I V:List Itm) (e:Int):(eH I V e).all GObj.notHeld=true:=rfl
theorem s4 [MaxL] (I V:List Itm) (e:Int) {T:TypeId} {cs:List GV}:(eH I V e++[GObj.box T cs]).all GObj.notHeld=true:=rfl
theorem a6n [MaxL] (I V:List Itm) (hI:I.length<b9) (hV:V.length<b9) (e:Int) (op:By) (a b:Term):SC Tryz.prog 199 [.ptr 3 1,.ptr 0 0,.ptr 1 0,.ptr 2 0] (eH I V e++[.box 248 (Tree.test op a b).cs]) (.val (.tup [])) (eH I V (CR I V e a)++[.box 248 (Tree.test op a b).cs]):=by
 have hk:=PS I V hI hV a;unfold CR;generalize jI I V a=kr at*;generalize rU I V a=ke at*;refine bQ oP mixed Tryz.func199 rfl (bL rfl) (by simp[eH]) (s4 _ _ _) ?_;conv=>whnf
 refine lQ ?_;conv=>whnf
 refine bT hk (wR _) rfl (cC a.cl (cC (bK (dC I)) (cC (bK (dC V)) .nil))) (fun _=>rfl) ?_;conv=>whnf
 apply gM<;>intro h<;>conv=>whnf
 ·have h9:e=0:=by simpa using h
  rw[aD h9];refine sT ?_;conv=>whnf
  exact eX (rest:=[]) rfl (by simp[eH]) (vE I V ke (iG _)) (s4 _ _ _) (fun _ _=>rfl) (bF _)
 ·have h9:¬e=0:=by simpa using h
  rw[aC h9];exact eX (rest:=[]) rfl (by simp[eH]) (vE I V e (iG _)) (s4 _ _ _) (fun _ _=>rfl) (bF _)
theorem a6m [MaxL] (I V:List Itm) (hI:I.length<b9) (hV:V.length<b9) (e:Int) (op:By) (a b:Term):SC Tryz.prog 199 [.ptr 3 6,.ptr 0 0,.ptr 1 0,.ptr 2 0] (eH I V e++[.box 248 (Tree.test op a b).cs]) (.val (.tup [])) (eH I V (CR I V e b)++[.box 248 (Tree.test op a b).cs]):=by
 have hk:=PS I V hI hV b;unfold CR;generalize jI I V b=kr at*;generalize rU I V b=ke at*;refine bQ oP mixed Tryz.func199 rfl (bL rfl) (by simp[eH]) (s4 _ _ _) ?_;conv=>whnf
 refine lQ ?_;conv=>whnf
 refine bT hk (wR _) rfl (cC b.cl (cC (bK (dC I)) (cC (bK (dC V)) .nil))) (fun _=>rfl) ?_;conv=>whnf
 apply gM<;>intro h<;>conv=>whnf
 ·have h9:e=0:=by simpa using h
  rw[aD h9];refine sT ?_;conv=>whnf
  exact eX (rest:=[]) rfl (by simp[eH]) (vE I V ke (iG _)) (s4 _ _ _) (fun _ _=>rfl) (bF _)
 ·have h9:¬e=0:=by simpa using h
  rw[aC h9];exact eX (rest:=[]) rfl (by simp[eH]) (vE I V e (iG _)) (s4 _ _ _) (fun _ _=>rfl) (bF _)
def H4 (I V:List Itm) (e:Int) (p:Term×Term):Int:=if jI I V p.1 !=jI I V p.2 then 10 else e
theorem a7y [MaxL] (I V:List Itm) (hI:I.length<b9) (hV:V.length<b9) (e:Int) (op:By) (a b:Term):SC Tryz.prog 202 [.agg (Tree.test op a b).cs,.ptr 0 0,.ptr 1 0,.ptr 2 0] (eH I V e) (.val (.tup [])) (eH I V (H4 I V e (a,b))):=by
 have hka:=PS I V hI hV a;have hkb:=PS I V hI hV b;unfold H4;simp only;generalize jI I V a=ka at*;generalize rU I V a=ea at*;generalize jI I V b=kb at*;generalize rU I V b=eb at*;refine bQ oP mixed Tryz.func202 rfl (bL rfl) (by simp[eH]) (fO _ _ _) ?_;conv=>whnf
 refine bT hka (wR _) rfl (cC a.cl (cC (bK (dC I)) (cC (bK (dC V)) .nil))) (fun _=>rfl) ?_;conv=>whnf
 refine bT hkb (wR _) rfl (cC b.cl (cC (bK (dC I)) (cC (bK (dC V)) .nil))) (fun _=>rfl) ?_;conv=>whnf
 apply gM<;>intro h<;>conv=>whnf
 ·rw[aD h];refine sT ?_;conv=>whnf
  exact eX (rest:=[_]) rfl (by simp[eH]) (gQ I V 10) (fO _ _ _) (fun _ _=>rfl) (bF _)
 ·rw[aC (by rw[h];decide)];exact eX (rest:=[_]) rfl (by simp[eH]) (gQ I V e) (fO _ _ _) (fun _ _=>rfl) (bF _)
def cF (k:FuncId):GV:=.fn (.func k) [] [.ptr 0 0,.ptr 1 0,.ptr 2 0]
theorem a6p [MaxL] (k:FuncId) {e:Nat->Nat} (h0:e 0=0) (h1:e 1=1) (h2:e 2=2):(cF k).ren e=cF k:=by
 show GV.fn _ [] [.ptr (e 0) 0,.ptr (e 1) 0,.ptr (e 2) 0]=_;rw[h0,h1,h2];rfl
theorem lP [MaxL] (k:FuncId) {I V:List Itm} {x:Int} {t:Tree} (e:Nat->Nat) (he:∀i,i<(eH I V x).length->e i=i):[t.gv,cF k].map (GV.ren e)=[t.gv,cF k]:=by
 show[t.gv.ren e,(cF k).ren e]=_;rw[t.cl e,a6p k (he 0 (by simp[eH])) (he 1 (by simp[eH])) (he 2 (by simp[eH]))]
theorem DX [MaxL] (I V:List Itm) (hI:I.length<b9) (hV:V.length<b9):∀(t:Tree) (x:Int),SC Tryz.prog 198 [t.gv,cF 199] (eH I V x) (.val (.tup [])) (eH I V ((d8 t).foldl (CR I V) x))
 |.pair a l r,x=>by
  have s1:=DX I V hI hV l x;have s2:=DX I V hI hV r ((d8 l).foldl (CR I V) x);rw[show(d8 (Tree.pair a l r)).foldl (CR I V) x=(d8 r).foldl (CR I V) ((d8 l).foldl (CR I V) x) by simp[d8,k6]];refine bQ oP mixed Tryz.func198 rfl (bL rfl) (by simp[eH]) (fO _ _ _) ?_;conv=>whnf
  refine sT ?_;conv=>whnf
  refine iS (rest:=[.box 259 (Tree.pair a l r).cs]) s1 rfl (by simp[eH]) rfl rfl (gQ _ _ _) (gQ _ _ _) (fO _ _ _) (lP _) (fun _ _=>rfl) (wR _) ?_;conv=>whnf
  refine iS (rest:=[.box 259 (Tree.pair a l r).cs]) s2 rfl (by simp[eH]) rfl rfl (gQ _ _ _) (gQ _ _ _) (fO _ _ _) (lP _) (fun _ _=>rfl) (wR _) ?_;conv=>whnf
  exact eX (rest:=[_]) rfl (by simp[eH]) (gQ _ _ _) (fO _ _ _) (fun _ _=>rfl) (bF _)
 |.no t,x=>by
  have s1:=DX I V hI hV t x;refine bQ oP mixed Tryz.func198 rfl (bL rfl) (by simp[eH]) (fO _ _ _) ?_;conv=>whnf
  refine sT ?_;conv=>whnf
  refine iS (rest:=[.box 261 (Tree.no t).cs]) s1 rfl (by simp[eH]) rfl rfl (gQ _ _ _) (gQ _ _ _) (fO _ _ _) (lP _) (fun _ _=>rfl) (wR _) ?_;conv=>whnf
  exact eX (rest:=[_]) rfl (by simp[eH]) (gQ _ _ _) (fO _ _ _) (fun _ _=>rfl) (bF _)
 |.test op a b,x=>by
  have s1:=a6n I V hI hV x op a b;have s2:=a6m I V hI hV (CR I V x a) op a b;have hcs:=(Tree.test op a b).cs_cl;refine bQ oP mixed Tryz.func198 rfl (bL rfl) (by simp[eH]) (fO _ _ _) ?_;conv=>whnf
  refine sT ?_;conv=>whnf
  refine iS (rest:=[]) s1 rfl (by simp[eH]) rfl rfl (vE _ _ _ hcs) (vE _ _ _ hcs) (s4 _ _ _) (fun e he=>by show[GV.ptr (e 3) 1,.ptr (e 0) 0,.ptr (e 1) 0,.ptr (e 2) 0]=_;rw[he 3 (by simp[eH]),he 0 (by simp[eH]),he 1 (by simp[eH]),he 2 (by simp[eH])]) (fun _ _=>rfl) (wR _) ?_;conv=>whnf
  refine iS (rest:=[]) s2 rfl (by simp[eH]) rfl rfl (vE _ _ _ hcs) (vE _ _ _ hcs) (s4 _ _ _) (fun e he=>by show[GV.ptr (e 3) 6,.ptr (e 0) 0,.ptr (e 1) 0,.ptr (e 2) 0]=_;rw[he 3 (by simp[eH]),he 0 (by simp[eH]),he 1 (by simp[eH]),he 2 (by simp[eH])]) (fun _ _=>rfl) (wR _) ?_;conv=>whnf
  exact eX (rest:=[_]) rfl (by simp[eH]) (gQ _ _ _) (fO _ _ _) (fun _ _=>rfl) (bF _)
 |.truth b,x=>by
  refine bQ oP mixed Tryz.func198 rfl (bL rfl) (by simp[eH]) (fO _ _ _) ?_;conv=>whnf
  exact eX (rest:=[]) rfl (by simp[eH]) (gQ _ _ _) (fO _ _ _) (fun _ _=>rfl) (bF _)
theorem DW [MaxL] (I V:List Itm) (hI:I.length<b9) (hV:V.length<b9):∀(t:Tree) (x:Int),SC Tryz.prog 201 [t.gv,cF 202] (eH I V x) (.val (.tup [])) (eH I V ((n8 t).foldl (H4 I V) x))
 |.pair a l r,x=>by
  have s1:=DW I V hI hV l x;have s2:=DW I V hI hV r ((n8 l).foldl (H4 I V) x);rw[show(n8 (Tree.pair a l r)).foldl (H4 I V) x=(n8 r).foldl (H4 I V) ((n8 l).foldl (H4 I V) x) by simp[n8,k6]];refine bQ oP mixed Tryz.func201 rfl (bL rfl) (by simp[eH]) (fO _ _ _) ?_;conv=>whnf
  refine sT ?_;conv=>whnf
  refine iS (rest:=[.box 259 (Tree.pair a l r).cs]) s1 rfl (by simp[eH]) rfl rfl (gQ _ _ _) (gQ _ _ _) (fO _ _ _) (lP _) (fun _ _=>rfl) (wR _) ?_;conv=>whnf
  refine iS (rest:=[.box 259 (Tree.pair a l r).cs]) s2 rfl (by simp[eH]) rfl rfl (gQ _ _ _) (gQ _ _ _) (fO _ _ _) (lP _) (fun _ _=>rfl) (wR _) ?_;conv=>whnf
  exact eX (rest:=[_]) rfl (by simp[eH]) (gQ _ _ _) (fO _ _ _) (fun _ _=>rfl) (bF _)
 |.no t,x=>by
  have s1:=DW I V hI hV t x;refine bQ oP mixed Tryz.func201 rfl (bL rfl) (by simp[eH]) (fO _ _ _) ?_;conv=>whnf
  refine sT ?_;conv=>whnf
  refine iS (rest:=[.box 261 (Tree.no t).cs]) s1 rfl (by simp[eH]) rfl rfl (gQ _ _ _) (gQ _ _ _) (fO _ _ _) (lP _) (fun _ _=>rfl) (wR _) ?_;conv=>whnf
  exact eX (rest:=[_]) rfl (by simp[eH]) (gQ _ _ _) (fO _ _ _) (fun _ _=>rfl) (bF _)
 |.test op a b,x=>by
  have s1:=a7y I V hI hV x op a b;have hcs:=(Tree.test op a b).cs_cl;refine bQ oP mixed Tryz.func201 rfl (bL rfl) (by simp[eH]) (fO _ _ _) ?_;conv=>whnf
  refine sT ?_;conv=>whnf
  refine iS (rest:=[.box 248 (Tree.test op a b).cs]) s1 rfl (by simp[eH]) rfl rfl (gQ _ _ _) (gQ _ _ _) (fO _ _ _) (fun e he=>by show[(GV.agg (Tree.test op a b).cs).ren e,GV.ptr (e 0) 0,.ptr (e 1) 0,.ptr (e 2) 0]=_;rw[eQ hcs e,he 0 (by simp[eH]),he 1 (by simp[eH]),he 2 (by simp[eH])]) (fun _ _=>rfl) (wR _) ?_;conv=>whnf
  exact eX (rest:=[_]) rfl (by simp[eH]) (gQ _ _ _) (fO _ _ _) (fun _ _=>rfl) (bF _)
 |.truth b,x=>by
  refine bQ oP mixed Tryz.func201 rfl (bL rfl) (by simp[eH]) (fO _ _ _) ?_;conv=>whnf
  exact eX (rest:=[]) rfl (by simp[eH]) (gQ _ _ _) (fO _ _ _) (fun _ _=>rfl) (bF _)
theorem a5F (I V:List Itm):∀(ts:List Term) (x:Int),x=0∨x=5->ts.foldl (CR I V) x=if x=5∨ts.any (fun t=>rU I V t==5) then 5 else 0
 |[],x,h=>by rcases h with rfl|rfl<;>rfl
 |t::ts,x,h=>by
  have hk:rU I V t=0∨rU I V t=5:=by
   unfold rU;split
   ·exact .inl rfl
   ·split
    ·exact .inl rfl
    ·exact .inr rfl
  rw[eV,List.any_cons];have hx:CR I V x t=0∨CR I V x t=5:=by
   unfold CR;split
   ·exact hk
   ·exact h
  rw[a5F I V ts _ hx];unfold CR;rcases h with rfl|rfl
  ·rcases hk with hk|hk<;>simp[hk]
  ·simp
theorem a5G (I V:List Itm):∀(ts:List (Term×Term)) (x:Int),x=0∨x=10->ts.foldl (H4 I V) x=if x=10∨ts.any (fun p=>jI I V p.1 !=jI I V p.2) then 10 else 0
 |[],x,h=>by rcases h with rfl|rfl<;>rfl
 |t::ts,x,h=>by
  rw[eV,List.any_cons];have hx:H4 I V x t=0∨H4 I V x t=10:=by
   unfold H4;split
   ·exact .inr rfl
   ·exact h
  rw[a5G I V ts _ hx];unfold H4;cases hb:(jI I V t.1 !=jI I V t.2) with
  |true=>simp
  |false=>
   simp only[bX,fN,jW]
theorem ZN {I V:List Itm} (hI:iC I=true) (hV:iC V=true) {t:Term} (ht:t.good):(jI I V t==0)=(rU I V t==5):=by
 have okk:∀{l:List Itm},iC l=true->∀y∈l,y.k≠0:=fun h y hy=>by
  unfold iC at h;simp only[aF,aQ] at h;have:=h.1.1 y hy;simp only[Itm.ok,aF,f6,aJ] at this;rcases this.2 with h|h<;>omega
 unfold jI rU;by_cases hn:t.name=[]
 ·rw[aD hn,aD hn];have hv:t.v.ok=true:=by
   rcases ht with⟨h1,_⟩|⟨_,_,h3⟩
   ·exact absurd hn h1
   ·exact h3
  rcases a41 hv with h|h<;>rw[h]<;>rfl
 ·rw[aC hn,aC hn];cases hf:(if t.var then V else I).find? (fun i=>i.name==t.name) with
  |none=>rfl
  |some y=>
   have hm:=List.mem_of_find?_eq_some hf;have:y.k≠0:=by
    cases hv:t.var with
    |true=>rw[hv] at hm;exact okk hV y hm
    |false=>rw[hv] at hm;exact okk hI y hm
   simp[this]
theorem B7:∀{t:Tree},t.good->∀x∈d8 t,x.good
 |.pair _ l r,h,x,hx=>by
  simp only[d8,List.mem_append] at hx;rcases hx with hx|hx
  ·exact B7 h.1 x hx
  ·exact B7 h.2 x hx
 |.no t,h,x,hx=>B7 (t:=t) h x hx
 |.test _ a b,h,x,hx=>by
  simp[d8] at hx;rcases hx with rfl|rfl
  ·exact h.2.1
  ·exact h.2.2
 |.truth _,h,x,hx=>by simp[d8] at hx
theorem TA {I V:List Itm} (hI:iC I=true) (hV:iC V=true):∀{ts:List Term},(∀x∈ts,x.good)->ts.any (fun x=>jI I V x==0)=ts.any (fun t=>rU I V t==5)
 |[],_=>rfl
 |t::ts,h=>by
  rw[List.any_cons,List.any_cons,ZN hI hV (h t (by simp)),TA hI hV (fun x hx=>h x (by simp[hx]))]
def PM (I V:List Itm) (t:Tree):Int:=if(d8 t).any (fun x=>rU I V x==5) then 5 else if(n8 t).any (fun p=>jI I V p.1 !=jI I V p.2) then 10 else 0
theorem a01 {I V:List Itm} (hI:iC I=true) (hV:iC V=true) {t:Tree} (h:t.good):PM I V t=uM I V t:=by
 unfold PM uM;rw[TA hI hV (B7 h)]
theorem a4o [MaxL] (I V:List Itm) (hI:I.length<b9) (hV:V.length<b9) (t:Tree):SC Tryz.prog 143 [t.gv,.sl .none (fM I),.sl .none (fM V)] [] (.val (.i .i64 (PM I V t))) []:=by
 have s1:=DX I V hI hV t 0;have s2:=DW I V hI hV t 0;rw[a5F I V _ 0 (.inl rfl)] at s1;rw[a5G I V _ 0 (.inl rfl)] at s2;unfold PM;generalize(d8 t).any (fun x=>rU I V x==5)=b1 at*;generalize(n8 t).any (fun p=>jI I V p.1 !=jI I V p.2)=b2 at*;cases b1 with
 |true=>
  replace s1:SC Tryz.prog 198 [t.gv,cF 199] (eH I V 0) (.val (.tup [])) (eH I V 5):=s1;refine cO Tryz.func143 rfl ?_;conv=>whnf
  refine sT ?_;conv=>whnf
  refine iS (rest:=[]) s1 rfl (by simp[eH]) rfl rfl (gQ _ _ _) (gQ _ _ _) (fO _ _ _) (lP _) (fun _ _=>rfl) (wR _) ?_;conv=>whnf
  exact bB rfl
 |false=>
  replace s1:SC Tryz.prog 198 [t.gv,cF 199] (eH I V 0) (.val (.tup [])) (eH I V 0):=s1;cases b2 with
  |true=>
   replace s2:SC Tryz.prog 201 [t.gv,cF 202] (eH I V 0) (.val (.tup [])) (eH I V 10):=s2;refine cO Tryz.func143 rfl ?_;(conv=>whnf);refine sT ?_;(conv=>whnf);refine iS (rest:=[]) s1 rfl (by simp[eH]) rfl rfl (gQ _ _ _) (gQ _ _ _) (fO _ _ _) (lP _) (fun _ _=>rfl) (wR _) ?_;(conv=>whnf);refine iS (rest:=[]) s2 rfl (by simp[eH]) rfl rfl (gQ _ _ _) (gQ _ _ _) (fO _ _ _) (lP _) (fun _ _=>rfl) (wR _) ?_;(conv=>whnf);exact bB rfl
  |false=>
   replace s2:SC Tryz.prog 201 [t.gv,cF 202] (eH I V 0) (.val (.tup [])) (eH I V 0):=s2;refine cO Tryz.func143 rfl ?_;(conv=>whnf);refine sT ?_;(conv=>whnf);refine iS (rest:=[]) s1 rfl (by simp[eH]) rfl rfl (gQ _ _ _) (gQ _ _ _) (fO _ _ _) (lP _) (fun _ _=>rfl) (wR _) ?_;(conv=>whnf);refine iS (rest:=[]) s2 rfl (by simp[eH]) rfl rfl (gQ _ _ _) (gQ _ _ _) (fO _ _ _) (lP _) (fun _ _=>rfl) (wR _) ?_;(conv=>whnf);exact bB rfl
def a2A:List Itm->List Val->Bool
 |i::l,v::r=>v.ok&&decide (v.k=i.k)&&a2A l r
 |_,_=>true
def lkp (l:List Itm) (r:List Val) (s:By):Val:=r.getD (wW l s).toNat v0
def a8L (I V:List Itm) (R W:List Val) (t:Term):Val:=if t.name=[] then t.v else if t.var then lkp V W t.name else lkp I R t.name
def evT (I V:List Itm) (R W:List Val) (t:Tree):Bool×Int:=
 if iC I&&iC V&&a7t I R then
  if uM I V t=0 then
   if W.length=V.length then
    if a2A V W then(lR (a8L I V R W) t,0) else(false,1)
   else(false,11)
  else(false,uM I V t)
 else(false,1)
def a8u (I V:List Itm) (R W:List Val) (s:By):Bool×Int:=match iP s with
 |.ok t=>evT I V R W t
 |.err e=>(false,e)
def CM (I V:List Itm) (s:By):Int:=match iP s with
 |.ok t=>if iC I&&iC V then uM I V t else 1
 |.err e=>e
theorem YA [MaxL] (I V:List Itm) (hI:I.length<b9) (hV:V.length<b9) (s:By) (hs:s.length<b9):SC Tryz.prog 79 [.s s,.sl .none (fM I),.sl .none (fM V)] [] (.val (.i .i64 (CM I V s))) []:=by
 have hr:=PR s hs;have hcl:=wQ s;unfold nM at hr hcl;unfold CM;have h1:=SX I hI;have h2:=SX V hV;cases h:iP s with
 |err e=>
  rw[h] at hr hcl;replace hr:SC Tryz.prog 140 [.s s] [] (.val (.tup [.o .nilIface,.i .i64 e])) []:=hr;have he:=qJ h;refine cO Tryz.func79 rfl ?_;conv=>whnf
  refine mG hr hcl ?_;conv=>whnf
  apply gM<;>intro h0<;>conv=>whnf
  ·exact bB rfl
  ·exfalso;have:e=0:=by simpa using h0
   omega
 |ok t=>
  rw[h] at hr hcl;replace hr:SC Tryz.prog 140 [.s s] [] (.val (.tup [t.gv,.i .i64 0])) []:=hr;have hg:t.good:=(J3 h).1;have h3:=a4o I V hI hV t;cases k1:iC I with
  |false=>
   rw[k1] at h1;refine cO Tryz.func79 rfl ?_;(conv=>whnf);refine mG hr hcl ?_;(conv=>whnf);refine bT h1 (wR _) rfl (cC (bK (dC I)) .nil) (.b _) ?_;(conv=>whnf);exact bB rfl
  |true=>
   rw[k1] at h1;cases k2:iC V with
   |false=>
    rw[k2] at h2;refine cO Tryz.func79 rfl ?_;(conv=>whnf);refine mG hr hcl ?_;(conv=>whnf);refine bT h1 (wR _) rfl (cC (bK (dC I)) .nil) (.b _) ?_;(conv=>whnf);refine bT h2 (wR _) rfl (cC (bK (dC V)) .nil) (.b _) ?_;(conv=>whnf);exact bB rfl
   |true=>
    rw[k2] at h2;rw[a01 k1 k2 hg] at h3;refine cO Tryz.func79 rfl ?_;(conv=>whnf);refine mG hr hcl ?_;(conv=>whnf);refine bT h1 (wR _) rfl (cC (bK (dC I)) .nil) (.b _) ?_;(conv=>whnf);refine bT h2 (wR _) rfl (cC (bK (dC V)) .nil) (.b _) ?_;(conv=>whnf);refine bT h3 (wR _) rfl (cC t.cl (cC (bK (dC I)) (cC (bK (dC V)) .nil))) (.i _ _) ?_;(conv=>whnf);exact bB rfl
def kR (l:List Itm):Bool:=decide (0<l.length)&&iC l
def o6 (s:By):Bool:=decide ((yX s).2=0)&&decide ((yX s).1=s)
def wO (s:Sch) (i:Nat) (r:Rc):Int:=J2 kR o6 (fun l c=>CM l [] c) s (bW s++(fV s).take i) r
def oX (s:Sch):Nat×Int:=if !t8 s.rc.length 1 10 then(0,4) else(dZ (wO s) 0 s.rc).getD (0,0)
theorem oO [MaxL] {kd:By} {s s1 objs:List GObj} {i xi:Nat} {e xe:Int} {lo:Nat} {ds:List GDef} (hX:((i,e):Nat×Int)=(xi,xe)) (he:e≠0) (hl:s.length=2:=by rfl) (hn:(objs.take 2).length=2:=by rfl) (hm:(objs.take 2).all GObj.mort=true:=by rfl):
  OwesD 2 s (vT kd xi xe) (oZ xe s1) (.panic (T9 kd i e)) ⟨objs,lo,ds⟩:=by
 obtain⟨rfl,rfl⟩:=Prod.mk.inj hX;rw[sN he,uZ he];exact a2Y 2 (hl:=Nat.le_of_eq hl) (hn:=hn) (hm:=hm)
theorem aU {w:Bool} {e b:Int} (h:w=true):cX w e b=e:=by subst h;rfl
theorem aZ {w:Bool} {e b:Int} (h:w=false):cX w e b=b:=by subst h;rfl
theorem d7 {α:Type} {l:List α} {i:Nat} (h:i<l.length):∃x,l[i]?=some x:=⟨l[i],gL h⟩
theorem LI {b:Bool} (h:(!b)=true):b=false:=by cases b<;>first|rfl|cases h
theorem p9 {a b:Int} (h:a≠0):UF a b=a:=aC h
theorem p8 {a b:Int} (h:a=0):UF a b=b:=aD h
theorem iN [MaxL] {k:FuncId} {kd:By} (hs:∀(w:Bool) (e:Int) (i:Nat),(w=true->e≠0)->SC Tryz.prog k [.b w,.i .i64 e,.ptr 0 0] [.box 3 [.i .i64 (i:Nat)]] (vT kd i (if w then e else 0)) [.box 3 [.i .i64 (i:Nat)]])
  (q:Nat) (e:Int) {M:FuncId->Bool} {w:Bool} {i:Nat} {args:List GV} {σ:GS} {K:GRes->GS->Prop} (h1:w=true->K (.panic (T9 kd i e)) σ) (h0:w=false->K (.val (.tup [])) σ) (he:w=true->e≠0:=by intro _;decide)
  (hw:Wks args [.b w,.i .i64 e,.ptr q 0]:=by exact wR _) (ho:σ.objs[q]?=some (.box 3 [.i .i64 (i:Nat)]):=by rfl) (hlo:σ.lo=0:=by rfl):gZ Tryz.prog M (.fn k) args σ K:=by
 refine cS [q] (hs w e i he) ?_ (by rw[show jZ [q] σ.objs.length 0=q from rfl];exact hw) (by show[σ.objs[q]?]=_;rw[ho];rfl) rfl (by simp) rfl hlo;cases w with
 |true=>
  rw[aD rfl,sN (he rfl)];exact h1 rfl
 |false=>exact h0 rfl
set_option maxHeartbeats 4000000 in
theorem Z0 [MaxL] (s:Sch) (hz:kO s):SC Tryz.prog 136 [.ptr 0 0] (lG s (bW s)) (vT iR (oX s).1 (oX s).2) (oZ (oX s).2 (lG s (bW s++fV s))):=by
 obtain⟨⟨ha,hl,ht⟩,hr,hst⟩:=hz;unfold b9 at hl;have hlen:(pU s.rc).length=s.rc.length:=cL _ _;generalize hX:oX s=X;obtain⟨xi,xe⟩:=X;unfold oX at hX;have hh:(oZ xe (lG s (bW s++fV s))).all GObj.notHeld=true:=by unfold oZ;split<;>rfl
 have hs:(lG s (bW s)).length<=(oZ xe (lG s (bW s++fV s))).length:=by unfold oZ;split<;>exact rL _
 refine SC.of_gwpD 2 oP mixed Tryz.func136 rfl (bL rfl) hs hh ?_;conv=>whnf
 have hw:=mQ (pU s.rc).length 1 10;refine cP hw ?_;conv=>whnf
 apply gM<;>intro h<;>conv=>whnf
 ·rw[hlen] at h;rw[h,aD rfl] at hX;refine cS [] (xW iR 0 4) ?_;conv=>whnf
  exact oO hX (by decide)
 rw[hlen] at h;rw[h,aC (by simp)] at hX;refine bE 2 s.rc.length (fun i _=>∀j z,j<i->s.rc[j]?=some z->wO s j z=0) (fun i _=>[(0,.ptr 0 0),(25,.sl .none (pU s.rc)),(26,.i .i64 (pU s.rc).length),(27,.i .i64 (i:Nat))]) (fun i (_:Unit)=>lG s (bW s++(fV s).take i)) [] () (fun j z h=>absurd h (bP j)) (fun i _ φ0 hi hok=>?_) (hσ:=by rw[List.take_zero,f5]);conv=>whnf
 apply gM<;>intro h<;>conv=>whnf
 rotate_left
 ·have hie:i=s.rc.length:=by have:=aA h;omega
  rw[kC (Nat.le_of_eq hie.symm) hok] at hX;cases hX;have hm:(fV s).take i=fV s:=aW (by rw[hie];simp[fV]);show OwesD 2 _ _ (lG s (bW s++fV s)) _ _;exact .val (cQ 2 (ho:=aR (fun m=>lG s (bW s++m)) hm))
 have hlt:i<s.rc.length:=by have:=aB h;omega
 obtain⟨y,hy⟩:∃y,s.rc[i]?=some y:=⟨s.rc[i],gL hlt⟩;obtain⟨y1,y2,y3⟩:=hr y (aE hy);unfold b9 at y2;have bad0:∀{e:Int},wO s i y=e->e≠0->((i,e):Nat×Int)=(xi,xe):=fun he h0=>by
  subst he;rw[kD hy h0 hok] at hX;exact hX
 have bad:∀{w:Bool} {e b:Int},wO s i y=cX w e b->w=true->e≠0->((i,e):Nat×Int)=(xi,xe):=fun he h h0=>bad0 (he.trans (aU h)) h0;have hE:wO s i y=gJ (bW s++(fV s).take i) y.name (cX (!((bW s).contains y.area)) 5 (cX (!kR y.its||!t8 y.place 1 3) 1 (UF (vA y) (UF (LE s y) (a5I o6 (fun l c=>CM l [] c) y))))):=rfl;rw[DC] at hE;refine ix (aY hy) ⟨rfl,?_⟩;conv=>whnf
 refine st ?_;conv=>whnf
 refine st ?_;conv=>whnf
 by_cases hn:gJ (bW s++(fV s).take i) y.name 0=0;rotate_left
 ·rw[aC hn] at hE;refine cG [0,1] (JI (kd:=iR) (i:=i) hn) ?_;conv=>whnf
  exact oO (bad0 hE hn) hn
 rw[aD hn] at hE;refine cG [0,1] (JH (kd:=iR) (i:=i) hn) ?_;conv=>whnf
 refine cS [0,1] (a5r s ha _ y.area) ?_;conv=>whnf
 refine iN lU 2 5 (fun h=>?_) (fun h=>?_)<;>conv=>whnf
 ·exact oO (bad hE h (by decide)) (by decide)
 replace hE:=hE.trans (aZ h);refine cP (E1 y.its y1) ?_;conv=>whnf
 apply gM<;>intro h<;>conv=>whnf
 ·refine iN lU 2 1 (w:=true) (fun _=>?_) (fun h9=>nomatch h9);conv=>whnf
  exact oO (bad hE (by rw[show kR y.its=false from LI h];rfl) (by decide)) (by decide)
 refine cP (mQ y.place 1 3) ?_;conv=>whnf
 refine iN lU 2 1 (fun h2=>?_) (fun h2=>?_)<;>conv=>whnf
 ·exact oO (bad hE (by rw[h2];simp) (by decide)) (by decide)
 replace hE:=hE.trans (aZ (by rw[h2,show(!kR y.its)=false from h];rfl));have badK:∀{e:Int},vA y=e->e≠0->((i,e):Nat×Int)=(xi,xe):=fun he h0=>bad0 (hE.trans (by rw[he,p9 h0])) h0;have hm:(lG s (bW s++(fV s).take i++[y.name]))=lG s (bW s++(fV s).take (i+1)):=by rw[bD];exact aR (fun m=>lG s (bW s++m)) (mW (fun r:Rc=>r.name) hy).symm
 refine bZ (fun hp=>?b1) (fun hp=>?b2)
 case' b1=>
  conv=>whnf
  have hK:vA y=cX (!t8 y.keys.length 1 4) 11 (kE (ON y) y.keys):=aD (by simpa using hp);refine cP (mQ (bR y.keys).length 1 4) ?_;conv=>whnf
  refine iN lU 2 11 (fun h3=>?_) (fun h3=>?_)<;>rw[cD] at h3<;>conv=>whnf
  ·exact oO (badK (hK.trans (aU h3)) (by decide)) (by decide)
  replace hK:=hK.trans (aZ h3);refine bE 4 y.keys.length (fun k _=>∀j n,j<k->y.keys[j]?=some n->ON y j n=0) (fun k _=>[(0,.ptr 0 0),(3,.ptr 3 0),(4,.fn (.func 184) [] [.ptr 2 0]),(25,.sl .none (pU s.rc)),(26,.i .i64 (pU s.rc).length),(27,.i .i64 (i:Nat)),(68,.sl .none (bR y.keys)),(69,.i .i64 (bR y.keys).length),(70,.i .i64 (k:Nat))])
   (fun k (_:Unit)=>lG s (bW s++(fV s).take i++[y.name])++[.box 3 [.i .i64 (i:Nat)],.box 58 (LD y)]) [] () (fun j n h=>absurd h (bP j)) (fun k _ φ1 hk hok2=>?_)
  conv=>whnf
  apply gM<;>intro h<;>conv=>whnf
  ·have hlt2:k<y.keys.length:=by have:=aB h;rw[cD] at this;omega
   refine(d7 hlt2).elim fun n hn2=>?_;have badJ:∀{e:Int},ON y k n=e->e≠0->((i,e):Nat×Int)=(xi,xe):=fun he h0=>badK (hK.trans ((mE hn2 (by rw[he];exact h0) hok2).trans he)) h0;refine ix (aY hn2) ⟨rfl,?_⟩;(conv=>whnf);refine cP (IV y y1 n) ?_;(conv=>whnf);refine st ?_;(conv=>whnf);refine iN lU 2 5 (fun h4=>?_) (fun h4=>?_)<;>conv=>whnf
   ·exact oO (badJ (aU h4) (by decide)) (by decide)
   refine TV (zs:=bR (y.keys.take k)) (HB _) (by rw[cD];omega) ?_ (eS ..).symm;(conv=>whnf);refine cP (s6 (y.keys.take k) n (by unfold b9;rw[aS];omega)) ?_;(conv=>whnf);refine iN lU 2 6 (fun h5=>?_) (fun h5=>?_)<;>conv=>whnf
   ·exact oO (badJ ((aZ h4).trans (aU h5)) (by decide)) (by decide)
   exact nx () hlt2 ⟨hlt2,iE hn2 ((aZ h4).trans (aZ h5)) hok2⟩
  have hK0:vA y=0:=hK.trans (mD fun j z hz=>hok2 j z (by have:=aA h;rw[cD] at this;have:=(List.getElem?_eq_some_iff.1 hz).1;omega) hz)
 case' b2=>
  conv=>whnf
  have hK:vA y=cX (!y.keys.isEmpty||y.dups) 1 0:=aC (by simpa using hp);apply gM<;>intro h3<;>conv=>whnf
  ·refine iN lU 2 1 (w:=true) (fun _=>?_) (fun h9=>nomatch h9);(conv=>whnf);exact oO (badK (hK.trans (aU (by have:((bR y.keys).length:Int)>0:=aB h3;rw[cD] at this;cases hk:y.keys with|nil=>rw[hk] at this;exact absurd this (by decide)|cons a l=>rfl))) (by decide)) (by decide)
  have hke:y.keys.isEmpty=true:=by have:¬((bR y.keys).length:Int)>0:=aA h3;rw[cD] at this;cases hk:y.keys with|nil=>rfl|cons a l=>rw[hk] at this;simp at this
  rw[hke] at hK;refine iN lU 2 1 (fun h4=>?_) (fun h4=>?_)<;>conv=>whnf
  ·exact oO (badK (hK.trans (aU h4)) (by decide)) (by decide)
  have hK0:vA y=0:=hK.trans (aZ h4)
 all_goals
  replace hE:=hE.trans (p8 hK0);have badV:∀{e:Int},LE s y=e->e≠0->((i,e):Nat×Int)=(xi,xe):=fun he h0=>bad0 (hE.trans (by rw[he,p9 h0])) h0;apply gM<;>intro hv<;>conv=>whnf
  focus
   have hV:LE s y=cX (match s.st.find? (·.name==y.via) with|none=>true|some t=>!(t.ms.any (·.of==y.name))) 5 0:=aD (by simpa using hv);have hset:=a7H s ht y.via;refine lQ ?_;(conv=>whnf);refine(j2 (fun t:Sy=>t.name==y.via) s.st).elim (fun⟨h5,h6,_⟩=>?_) (fun⟨j,t,h5,h6,h7,_⟩=>?_)
   ·refine cP hset ?_;(conv=>whnf);refine GDraw.pan 17 _ rfl (by kernel_rfl) ?_;(conv=>whnf);refine gY (bC h5) ?_;(conv=>whnf);refine iN lU 2 5 (w:=true) (fun _=>?_) (fun h9=>nomatch h9);(conv=>whnf);exact oO (badV (e:=5) (by rw[hV,h6];rfl) (by decide)) (by decide)
   rw[h5] at hset;rw[h7] at hV;refine cP hset ?_;(conv=>whnf);have hmb:=QD t (hst t (aE h6)).1 y.name;refine(fJ (decide (jJ (fun m:Mb=>m.of==y.name) t.ms<0))).elim (fun h8=>?_) (fun h8=>?_)
   ·refine GDraw.pan 17 _ rfl (by kernel_rfl) ?_;(conv=>whnf);refine ix (aY h6) ⟨rfl,?_⟩;(conv=>whnf);refine cP hmb ?_;(conv=>whnf);refine iN lU 2 5 (w:=decide (jJ (fun m:Mb=>m.of==y.name) t.ms<0)) (fun h9=>?_) (fun h9=>by rw[h8] at h9;cases h9);(conv=>whnf);exact oO (badV (hV.trans (aU ((nT _ _).symm.trans h8))) (by decide)) (by decide)
   refine lQ ?_;(conv=>whnf);refine ix (aY h6) ⟨rfl,?_⟩;(conv=>whnf);refine cP hmb ?_;(conv=>whnf);refine iN lU 2 5 (w:=decide (jJ (fun m:Mb=>m.of==y.name) t.ms<0)) (fun h9=>by rw[h8] at h9;cases h9) (fun h9=>?_);(conv=>whnf);replace hV:=hV.trans (aZ ((nT _ _).symm.trans h8))
  rotate_left;focus
   have hV:LE s y=cX (y.via !=[]) 1 0:=aC (by simpa using hv);refine iN lU 2 1 (fun h4=>?_) (fun h4=>?_)<;>conv=>whnf
   ·exact oO (badV (hV.trans (aU h4)) (by decide)) (by decide)
   replace hV:=hV.trans (aZ h4)
  all_goals
   replace hE:=hE.trans (p8 ‹LE s y=0›);apply gM<;>intro hc<;>conv=>whnf
   rotate_left
   ·exact nx () hlt ⟨hlt,iE hy (hE.trans (aD (by simpa using hc))) hok⟩ hm
   have hE2:=hE.trans (aC (by simpa using hc));refine cP (VV y.check y3) ?_;(conv=>whnf);apply gM<;>intro h5<;>conv=>whnf
   ·refine iN lU 2 2 (w:=true) (fun _=>?_) (fun h9=>nomatch h9);(conv=>whnf);exact oO (bad hE2 (by unfold o6;rw[bN (by simpa using h5)];rfl) (by decide)) (by decide)
   refine iN lU 2 2 (fun h6=>?_) (fun h6=>?_)<;>conv=>whnf
   ·exact oO (bad hE2 (by unfold o6;rw[bN (p:=(yX y.check).1=y.check) (by simpa using h6),iL];rfl) (by decide)) (by decide)
   replace hE2:=hE2.trans (aZ (by unfold o6;rw[bC (by simpa using h5),bC (by simpa using h6)];rfl));refine cP (YA y.its [] y1 (by decide) y.check y3) ?_ (wC (bF _) (wC (bF _) (wC (bY _ _) (wR _))));(conv=>whnf);refine iN lU 2 (CM y.its [] y.check) (w:=CM y.its [] y.check !=0) (fun h7=>?_) (fun h7=>?_) (by intro h;simpa using h)<;>conv=>whnf
   ·exact oO (bad0 hE2 (by simpa using h7)) (by simpa using h7)
   exact nx () hlt ⟨hlt,iE hy (hE2.trans (by simpa using h7)) hok⟩ hm
theorem wS [MaxL] (s:Sch) (hl:s.ar.length<b9) (n:By):SC Tryz.prog 92 [lT s,.s n] [] (.val (.i .i64 (jJ (fun a=>a.name==n) s.ar))) []:=by
 have hlen:(zB s.ar).length=s.ar.length:=cL _ _;unfold b9 at hl;refine cO Tryz.func92 rfl ?_;conv=>whnf
 refine bE 1 s.ar.length (fun i _=>∀a∈s.ar.take i,(a.name==n)=false) (fun i _=>[(2,.ptr 0 0),(1,.s n),(5,.i .i64 (i:Nat))]) (fun _ (_:Unit)=>[.box 26 (jX s)]) [] () (by simp) (fun i _ φ0 hi hne=>?_);conv=>whnf
 apply gM<;>intro h<;>conv=>whnf
 rotate_left
 ·have hie:i=s.ar.length:=by have:=aA h;omega
  rw[hie,aV] at hne;rw[nJ hne];exact cQ 0
 have hlt:i<s.ar.length:=by have:=aB h;omega
 refine(d7 hlt).elim fun y hy=>?_;refine ix (aY hy) ⟨rfl,?_⟩;conv=>whnf
 apply gM<;>intro hp<;>conv=>whnf
 ·rw[o7 hy hp hne];exact cQ 0
 ·exact nx () hlt ⟨hlt,pV hy hp hne⟩
theorem lC [MaxL] (s:Sch) (hl:s.rc.length<b9) (n:By):SC Tryz.prog 28 [lT s,.s n] [] (.val (.i .i64 (jJ (fun a=>a.name==n) s.rc))) []:=by
 have hlen:(pU s.rc).length=s.rc.length:=cL _ _;unfold b9 at hl;refine cO Tryz.func28 rfl ?_;conv=>whnf
 refine bE 1 s.rc.length (fun i _=>∀a∈s.rc.take i,(a.name==n)=false) (fun i _=>[(2,.ptr 0 0),(1,.s n),(5,.i .i64 (i:Nat))]) (fun _ (_:Unit)=>[.box 26 (jX s)]) [] () (by simp) (fun i _ φ0 hi hne=>?_);conv=>whnf
 apply gM<;>intro h<;>conv=>whnf
 rotate_left
 ·have hie:i=s.rc.length:=by have:=aA h;omega
  rw[hie,aV] at hne;rw[nJ hne];exact cQ 0
 have hlt:i<s.rc.length:=by have:=aB h;omega
 refine(d7 hlt).elim fun y hy=>?_;refine ix (aY hy) ⟨rfl,?_⟩;conv=>whnf
 apply gM<;>intro hp<;>conv=>whnf
 ·rw[o7 hy hp hne];exact cQ 0
 ·exact nx () hlt ⟨hlt,pV hy hp hne⟩
theorem O3 [MaxL] (s:Sch) (hl:s.st.length<b9) (n:By):SC Tryz.prog 95 [lT s,.s n] [] (.val (.i .i64 (jJ (fun a=>a.name==n) s.st))) []:=by
 have hlen:(tQ s.st).length=s.st.length:=cL _ _;unfold b9 at hl;refine cO Tryz.func95 rfl ?_;conv=>whnf
 refine bE 1 s.st.length (fun i _=>∀a∈s.st.take i,(a.name==n)=false) (fun i _=>[(2,.ptr 0 0),(1,.s n),(5,.i .i64 (i:Nat))]) (fun _ (_:Unit)=>[.box 26 (jX s)]) [] () (by simp) (fun i _ φ0 hi hne=>?_);conv=>whnf
 apply gM<;>intro h<;>conv=>whnf
 rotate_left
 ·have hie:i=s.st.length:=by have:=aA h;omega
  rw[hie,aV] at hne;rw[nJ hne];exact cQ 0
 have hlt:i<s.st.length:=by have:=aB h;omega
 refine(d7 hlt).elim fun y hy=>?_;refine ix (aY hy) ⟨rfl,?_⟩;conv=>whnf
 apply gM<;>intro hp<;>conv=>whnf
 ·rw[o7 hy hp hne];exact cQ 0
 ·exact nx () hlt ⟨hlt,pV hy hp hne⟩
theorem J8 [MaxL] (t:Sy) (hl:t.ms.length<b9) (n:By):SC Tryz.prog 208 [WD t,.s n] [] (.val (.i .i64 (jJ (fun a=>a.of==n) t.ms))) []:=by
 have hlen:(jB t.ms).length=t.ms.length:=cL _ _;unfold b9 at hl;refine cO Tryz.func208 rfl ?_;conv=>whnf
 refine bE 1 t.ms.length (fun i _=>∀a∈t.ms.take i,(a.of==n)=false) (fun i _=>[(2,.ptr 0 0),(1,.s n),(5,.i .i64 (i:Nat))]) (fun _ (_:Unit)=>[.box 67 (E8 t)]) [] () (by simp) (fun i _ φ0 hi hne=>?_);conv=>whnf
 apply gM<;>intro h<;>conv=>whnf
 rotate_left
 ·have hie:i=t.ms.length:=by have:=aA h;omega
  rw[hie,aV] at hne;rw[nJ hne];exact cQ 0
 have hlt:i<t.ms.length:=by have:=aB h;omega
 refine(d7 hlt).elim fun y hy=>?_;refine ix (aY hy) ⟨rfl,?_⟩;conv=>whnf
 apply gM<;>intro hp<;>conv=>whnf
 ·rw[o7 hy hp hne];exact cQ 0
 ·exact nx () hlt ⟨hlt,pV hy hp hne⟩
theorem rP [MaxL] (l:List Itm) (hl:l.length<b9) (n:By):SC Tryz.prog 64 [.sl .none (fM l),.s n] [] (.val (.i .i64 (jJ (fun a=>a.name==n) l))) []:=by
 have hlen:(fM l).length=l.length:=cL _ _;unfold b9 at hl;refine cO Tryz.func64 rfl ?_;conv=>whnf
 refine bE 0 l.length (fun i _=>∀a∈l.take i,(a.name==n)=false) (fun i _=>[(0,.sl .none (fM l)),(1,.s n),(5,.i .i64 (i:Nat))]) (fun _ (_:Unit)=>[]) [] () (by simp) (fun i _ φ0 hi hne=>?_);conv=>whnf
 apply gM<;>intro h<;>conv=>whnf
 rotate_left
 ·have hie:i=l.length:=by have:=aA h;omega
  rw[hie,aV] at hne;rw[nJ hne];exact cQ 0
 have hlt:i<l.length:=by have:=aB h;omega
 refine(d7 hlt).elim fun y hy=>?_;refine ix (aY hy) ⟨rfl,?_⟩;conv=>whnf
 apply gM<;>intro hp<;>conv=>whnf
 ·rw[o7 hy hp hne];exact cQ 0
 ·exact nx () hlt ⟨hlt,pV hy hp hne⟩
theorem WZ [MaxL] (l:List By) (hl:l.length<b9) (n:By):SC Tryz.prog 154 [.sl .none (bR l),.s n] [] (.val (.i .i64 (jJ (fun a=>a==n) l))) []:=by
 have hlen:(bR l).length=l.length:=cL _ _;unfold b9 at hl;refine cO Tryz.func154 rfl ?_;conv=>whnf
 refine bE 0 l.length (fun i _=>∀a∈l.take i,(a==n)=false) (fun i _=>[(0,.sl .none (bR l)),(1,.s n),(5,.i .i64 (i:Nat))]) (fun _ (_:Unit)=>[]) [] () (by simp) (fun i _ φ0 hi hne=>?_);conv=>whnf
 apply gM<;>intro h<;>conv=>whnf
 rotate_left
 ·have hie:i=l.length:=by have:=aA h;omega
  rw[hie,aV] at hne;rw[nJ hne];exact cQ 0
 have hlt:i<l.length:=by have:=aB h;omega
 refine(d7 hlt).elim fun y hy=>?_;refine ix (aY hy) ⟨rfl,?_⟩;conv=>whnf
 apply gM<;>intro hp<;>conv=>whnf
 ·rw[o7 hy hp hne];exact cQ 0
 ·exact nx () hlt ⟨hlt,pV hy hp hne⟩
