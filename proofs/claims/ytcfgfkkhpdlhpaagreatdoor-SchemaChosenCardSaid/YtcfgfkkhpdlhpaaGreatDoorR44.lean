/-
  A part of the proof of SchemaChosen.
-/
import Derived.Test.YtcfgfkkhpdlhpaaGreatDoorR43
set_option linter.all false
set_option maxRecDepth 100000
namespace Go.Proofs.YtcfgfkkhpdlhpaaGreatDoor
open Go.RowKit
def dA:Tree->List Term
 |.pair _ l r=>dA l++dA r
 |.no t=>dA t
 |.test _ a b=>[a,b]
 |.truth _=>[]
theorem pI (a:Bool):∀t:Tree,(t.sides a).flatMap dA=dA t
 |.pair b l r=>by
  unfold Tree.sides;split
  ·rw[List.flatMap_append,pI a l,pI a r];rfl
  ·simp
 |.no t=>by simp[Tree.sides]
 |.test _ _ _=>by simp[Tree.sides]
 |.truth _=>by simp[Tree.sides]
theorem oA:∀t:Tree,(dA t).length<=2*t.size
 |.pair _ l r=>by
  have h1:=oA l;have h2:=oA r;simp only[dA,Tree.size,aE];omega
 |.no t=>by
  have:=oA t;simp only[dA,Tree.size];omega
 |.test _ _ _=>by simp[dA,Tree.size]
 |.truth _=>by simp[dA]
def xR (l:List Term):List GV:=l.map fun t=>.agg (UR t)
theorem vQ [MaxL] (l:List Term):ClL (xR l):=gI (fun t=>eL (B4 t)) l
theorem lR (l:List Term):(xR l).length=l.length:=by simp[xR]
theorem UQ (l:List Term):(xR l).all (fun x=>x.cells.length==5)=true:=by
 rw[aS];intro x hx;obtain⟨t,_,rfl⟩:=List.mem_map.1 hx;rfl
theorem LB (l:List Term):(xR l).all (rJ 5)=true:=by
 rw[aS];intro x hx;obtain⟨t,_,rfl⟩:=List.mem_map.1 hx;rfl
theorem Q6 (a b:List Term):xR (a++b)=xR a++xR b:=by unfold xR;rw[cZ]
theorem SJ [MaxL] (op:By) (l r:Term):SC Tryz.prog 232 [.agg (jU 4 [] l r op false)] [] (.val (.sl .none (xR [l,r]))) []:=by
 refine cX Tryz.func232 rfl ?_;conv=>whnf
 exact bC (bI _ _) (bS (vQ _))
def YZ (L:List Tree) (i:Nat):List Term:=(L.take i).flatMap dA
theorem W4 {L:List Tree} {i:Nat} {y:Tree} (h:L[i]?=some y):YZ L (i+1)=YZ L i++dA y:=by
 unfold YZ;rw[bR,h,List.flatMap_append];simp
theorem a17 (L:List Tree) (i:Nat):(YZ L i).length<=(L.flatMap dA).length:=by
 have:L.flatMap dA=YZ L i++(L.drop i).flatMap dA:=by
  unfold YZ;rw[<-List.flatMap_append,dZ]
 rw[this,aE];omega
theorem BA [MaxL] (k:Nat) (hk:k≠4) (L:List Tree) (yes:Bool) (hL:L.length<=100000) (hb:(L.flatMap dA).length<=1000000) (hc:∀y∈L,SC Tryz.prog 232 [y.ng] [] (.val (.sl .none (xR (dA y)))) []):
  SC Tryz.prog 232 [.agg (jU k (jS L) t0 t0 [] yes)] [] (.val (.sl .none (xR (L.flatMap dA)))) []:=by
 have hnl:(jS L).length=L.length:=eY L;refine cX Tryz.func232 rfl ?_;conv=>whnf
 refine aF (fun h4=>?_) (fun h4=>?_)<;>conv=>whnf
 ·exfalso;have h9:(k:Int)=4:=by simpa using h4
  omega
 refine eS (fun q:Nat×List Term=>q.1<=L.length/\YZ L q.1=q.2) (fun q=>[(1,.ptr 0 0),(3,.sl (.own 2) (xR q.2)),(4,.i .i64 (q.1:Nat))])
  (fun q=>⟨[.box 211 (jU k (jS L) t0 t0 [] yes),.own 0 0 0,ow 209 5 q.2.length],0,[]⟩) (fun q=>L.length - q.1) (0,[]) ⟨zL _,rfl⟩ ⟨rfl,rfl,rfl,trivial⟩ rfl (fun _ _=>rL _) (fun q _=>by simp only[List.all_cons,rR];rfl) (fun q _ e he=>?_) (fun q φ0 hi=>?_)
 ·refine⟨?_,rfl,?_⟩
  ·show[(GObj.box _ (jU k (jS L) t0 t0 [] yes)).ren e,_,(ow _ 5 _).ren e]=_;rw[yJ,eT (j9 (qX L) t0 t0 [] yes) e];rfl
  ·show[GV.ptr (e 0) 0,(GV.sl (.own 2) (xR q.2)).ren e,_]=_;rw[p8 (he 2 (by simp)) (vQ _),he 0 (by simp)];rfl
 obtain⟨i,o⟩:=q;obtain⟨hi,ho⟩:=hi;replace hi:i<=L.length:=hi;replace ho:YZ L i=o:=ho;conv=>whnf
 refine aF (fun h=>?_) (fun h=>?_)<;>conv=>whnf
 rotate_left
 ·have hie:i=L.length:=by have:=aC h;rw[hnl] at this;omega
  have hoe:o=L.flatMap dA:=by rw[<-ho,hie];unfold YZ;rw[b5]
  rw[<-hoe];exact bC (bI _ _) (bS (vQ _))
 have hlt:i<L.length:=by have:=aB h;rw[hnl] at this;omega
 obtain⟨y,hy⟩:∃y,L[i]?=some y:=⟨L[i],gL hlt⟩;have hgy:(jS L)[i]?=some y.ng:=by unfold jS;rw[aM,hy];rfl
 have hcy:=hc y (aL hy);have hcl:=y.ng_cl;have hsucc:=W4 hy;have hle:=a17 L (i+1);rw[hsucc,ho,aE] at hle;rw[ho] at hsucc;obtain⟨k2,kids,A,B,op,yes2,hng⟩:=iI y;rw[hng] at hgy hcy hcl;refine⟨cN _,.agg (jU k2 kids A B op yes2),by rw[aA];exact hgy,rfl,?_⟩;conv=>whnf
 generalize dA y=ys at*;rcases ys with _|⟨y1,ys⟩
 ·refine bD hcy (wR _) rfl (cC hcl .nil) (bS (vQ _)) ?_;conv=>whnf
  rw[gC] at hsucc;exact⟨L.length - (i+1),(by show _<L.length - i;omega),(i+1,o),⟨hlt,hsucc⟩,rfl,⟨rfl,rfl,b7 (by omega),trivial⟩,[],rfl,rfl⟩
 ·refine bD hcy (wR _) rfl (cC hcl .nil) (bS (vQ _)) ?_;conv=>whnf
  cases o with
  |nil=>
   refine⟨⟨LB (y1::ys),UQ _,by show(xR ([]:List Term)).length+(xR (y1::ys)).length<=4294967296;rw[lR,lR];omega⟩,xR (([]:List Term)++y1::ys),(([]:List Term)++y1::ys).length,⟨Q6 ([]:List Term) (y1::ys),by show _=(xR ([]:List Term)).length+(xR (y1::ys)).length;rw[lR,lR,aE]⟩,?_⟩;(conv=>whnf);refine⟨⟨zL _,by first|rfl|(rw[lR];rfl)|(rw[lR];simp),by first|exact .inr ⟨rfl,rfl⟩|exact .inl ⟨rfl,rfl⟩⟩,?_⟩;(conv=>whnf);exact⟨L.length - (i+1),(by show _<L.length - i;omega),(i+1,([]:List Term)++y1::ys),⟨hlt,hsucc⟩,rfl,⟨rfl,rfl,b7 (by omega),trivial⟩,_,rfl,rfl⟩
  |cons z zs=>
   refine⟨⟨LB (y1::ys),UQ _,by show(xR (z::zs)).length+(xR (y1::ys)).length<=4294967296;rw[lR,lR];omega⟩,xR ((z::zs)++y1::ys),((z::zs)++y1::ys).length,⟨Q6 (z::zs) (y1::ys),by show _=(xR (z::zs)).length+(xR (y1::ys)).length;rw[lR,lR,aE]⟩,?_⟩;(conv=>whnf);refine⟨⟨zL _,by first|rfl|(rw[lR];rfl)|(rw[lR];simp),by first|exact .inr ⟨rfl,rfl⟩|exact .inl ⟨rfl,rfl⟩⟩,?_⟩;(conv=>whnf);exact⟨L.length - (i+1),(by show _<L.length - i;omega),(i+1,(z::zs)++y1::ys),⟨hlt,hsucc⟩,rfl,⟨rfl,rfl,b7 (by omega),trivial⟩,_,rfl,rfl⟩
theorem J4 [MaxL]:∀(n:Nat) (t:Tree),t.size<=n->t.size<=5000->SC Tryz.prog 232 [t.ng] [] (.val (.sl .none (xR (dA t)))) []
 |0,t,h,_=>by cases t<;>simp[Tree.size] at h
 |n+1,t,h,h2=>by
  have hz:=oA t;cases t with
  |truth b=>
   have:=BA 5 (by decide) [] b (by simp) (by simp) (fun y hy=>by cases hy);exact this
  |test op l r=>exact SJ op l r
  |no t=>
   simp only[Tree.size] at h h2;have:=BA 3 (by decide) [t] false (by simp) (by simp[dA] at hz⊢;simp only[Tree.size] at hz;omega) (fun y hy=>by
    rw[List.mem_singleton.1 hy];exact J4 n t (by omega) (by omega))
   have e:[t].flatMap dA=dA (.no t):=by simp[dA]
   rw[e] at this;exact this
  |pair a l r=>
   have hs:=@mJ a (Tree.pair a l r);have hk:∀y∈(Tree.pair a l r).sides a,SC Tryz.prog 232 [y.ng] [] (.val (.sl .none (xR (dA y)))) []:=fun y hy=>by
    have:=EK hy;exact J4 n y (by omega) (by omega)
   have:=BA (kX a) (by cases a<;>decide) ((Tree.pair a l r).sides a) false (by omega) (by rw[pI];omega) hk;rw[pI] at this;rw[show(Tree.pair a l r).ng=.agg (jU (kX a) (jS ((Tree.pair a l r).sides a)) t0 t0 [] false) by show GV.agg _=_;rw[t7]];exact this
def a2p (l:List By) (x:By):List By:=if x≠[]/\¬x∈l then l++[x] else l
def XN:Option Tree->List Term
 |none=>[]
 |some x=>dA x
theorem rS (a:Bool) (acc:Option Tree) (t:Tree):dA (r4 a acc t)=XN acc++dA t:=by cases acc<;>rfl
theorem JN (a:Bool):∀(t:Tree) (acc:Option Tree),dA (dV a acc t)=XN acc++dA t:=by
 intro t;induction t generalizing a with
 |pair b l r i1 i2=>
  intro acc;unfold dV;split
  ·rw[i2];show dA (dV a acc l)++dA r=XN acc++(dA l++dA r);rw[i1,bF]
  ·rw[rS,i2];show XN acc++(dA (dV b none l)++dA r)=XN acc++(dA l++dA r);rw[i1];rfl
 |no t i=>
  intro acc;unfold dV;rw[rS];show _++dA (dV true none t)=_;rw[i];rfl
 |test op l r=>intro acc;unfold dV;rw[rS]
 |truth b=>intro acc;unfold dV;rw[rS]
theorem MB (t:Tree):dA t.flat=dA t:=by
 unfold Tree.flat;rw[JN];rfl
def a2a (op:By) (c:Int):Bool:=if op=[61] then c==0 else if op=[60,62] then c !=0 else if op=[60] then decide (c<0) else if op=[60,61] then decide (c<=0) else if op=[62] then decide (c>0) else decide (c>=0)
def kK (τ:Term->Val):Tree->Bool
 |.pair a l r=>if a then kK τ l&&kK τ r else kK τ l||kK τ r
 |.no t=>!kK τ t
 |.test op l r=>a2a op (N9 (τ l) (τ r))
 |.truth b=>b
def X1 (a:Bool):Option Bool->Bool->Bool
 |none,x=>x
 |some y,x=>if a then y&&x else y||x
theorem u9 (τ:Term->Val) (a:Bool) (acc:Option Tree) (t:Tree):kK τ (r4 a acc t)=X1 a (acc.map (kK τ)) (kK τ t):=by cases acc<;>rfl
theorem nX (τ:Term->Val):∀(t:Tree) (a:Bool) (acc:Option Tree),kK τ (dV a acc t)=X1 a (acc.map (kK τ)) (kK τ t)
 |.pair b l r,a,acc=>by
  unfold dV;split
  ·rename_i hab;subst hab;rw[nX τ r,eI,nX τ l];cases acc<;>cases a<;>simp[X1,kK,Bool.and_assoc,Bool.or_assoc]
  ·rw[u9,nX τ r,eI,nX τ l];cases acc<;>cases b<;>simp[X1,kK]
 |.no t,a,acc=>by
  unfold dV;rw[u9];show X1 a _ (!kK τ (dV true none t))=_;rw[nX τ t];rfl
 |.test op l r,a,acc=>by unfold dV;rw[u9]
 |.truth b,a,acc=>by unfold dV;rw[u9]
theorem C6 (τ:Term->Val) (a:Bool):∀t:Tree,kK τ t=if a then(t.sides a).all (kK τ) else(t.sides a).any (kK τ)
 |.pair b l r=>by
  unfold Tree.sides;by_cases hab:a=b
  ·subst hab;rw[aG rfl,List.all_append,List.any_append];have h1:=C6 τ a l;have h2:=C6 τ a r;cases a<;>simp[kK,h1,h2]
  ·rw[aD hab];cases a<;>simp
 |.no t=>by cases a<;>simp[Tree.sides]
 |.test _ _ _=>by cases a<;>simp[Tree.sides]
 |.truth _=>by cases a<;>simp[Tree.sides]
def iK (I V:List Itm) (t:Term):Int:=if t.name=[] then t.v.k else match(if t.var then V else I).find? (fun i=>i.name==t.name) with
 |some i=>i.k
 |none=>0
def lQ:Tree->List (Term×Term)
 |.pair _ l r=>lQ l++lQ r
 |.no t=>lQ t
 |.test _ a b=>[(a,b)]
 |.truth _=>[]
def rE (I V:List Itm) (t:Tree):Int:=if(dA t).any (fun x=>iK I V x==0) then 5 else if(lQ t).any (fun p=>iK I V p.1 !=iK I V p.2) then 10 else 0
theorem o9:∀t:Tree,dA t=(lQ t).flatMap fun p=>[p.1,p.2]
 |.pair _ l r=>by simp only[dA,lQ,List.flatMap_append];rw[o9 l,o9 r]
 |.no t=>o9 t
 |.test _ _ _=>rfl
 |.truth _=>rfl
def XM:Option Tree->List (Term×Term)
 |none=>[]
 |some x=>lQ x
theorem wZ (a:Bool) (acc:Option Tree) (t:Tree):lQ (r4 a acc t)=XM acc++lQ t:=by cases acc<;>rfl
theorem nF:∀(t:Tree) (a:Bool) (acc:Option Tree),lQ (dV a acc t)=XM acc++lQ t
 |.pair b l r,a,acc=>by
  unfold dV;split
  ·rw[nF r];show lQ (dV a acc l)++lQ r=XM acc++(lQ l++lQ r);rw[nF l,bF]
  ·rw[wZ,nF r];show XM acc++(lQ (dV b none l)++lQ r)=XM acc++(lQ l++lQ r);rw[nF l];rfl
 |.no t,a,acc=>by
  unfold dV;rw[wZ];show _++lQ (dV true none t)=_;rw[nF t];rfl
 |.test op l r,a,acc=>by unfold dV;rw[wZ]
 |.truth b,a,acc=>by unfold dV;rw[wZ]
theorem RZ (t:Tree):lQ t.flat=lQ t:=nF t true none
theorem PM (I V:List Itm) (t:Tree):rE I V t.flat=rE I V t:=by
 unfold rE;rw[MB,RZ]
theorem ZV [MaxL] (i:Itm) (t:Term):SC Tryz.prog 262 [i.gv,.ptr 0 0] [.box 242 t.cs] (.val (.b (i.name==t.name))) [.box 242 t.cs]:=by
 obtain⟨name,k,lo,hi,len⟩:=i;obtain⟨nm,vr,v⟩:=t;refine cX Tryz.func262 rfl ?_;conv=>whnf
 exact rQ rfl rfl (fun _=>rfl)
theorem s7 [MaxL] (t:Term):NO [.box 242 t.cs]:=fun e _=>rfl
theorem a1R [MaxL] (l:List Itm) (hl:l.length<bB) (t:Term):SC Tryz.prog 179 [.sl .none (eZ l),.fn (.func 262) [] [.ptr 0 0]] [.box 242 t.cs] (.val (.i .i64 (tJ l t.name))) [.box 242 t.cs]:=by
 have hlen:=m7 l;unfold bB at hl;refine cX Tryz.func179 rfl ?_;conv=>whnf
 refine eS (fun i:Nat=>i<=l.length/\∀z∈l.take i,z.name≠t.name) (fun i=>[(0,.sl .none (eZ l)),(1,.fn (.func 262) [] [.ptr 0 0]),(7,.i .i64 (eZ l).length),(8,.i .i64 (i:Nat))]) (fun _=>⟨[.box 242 t.cs],0,[]⟩) (fun i=>l.length - i) 0 ⟨zL _,fun z h=>by simp at h⟩ ⟨rfl,rfl,rfl,rfl,trivial⟩ rfl (fun _ _=>rL _) (fun _ _=>rfl) (fun i _ e he=>?_) (fun i φ0 hi=>?_)
 ·refine⟨rfl,rfl,?_⟩;show[(GV.sl .none (eZ l)).ren e,GV.fn _ [] [.ptr (e 0) 0],_,_]=_;rw[bS (cQ l) e,he 0 (by simp)];rfl
 obtain⟨hi,hne⟩:=hi;conv=>whnf
 refine aF (fun h=>?_) (fun h=>?_)<;>conv=>whnf
 rotate_left
 ·have hie:i=l.length:=by have:=aC h;rw[hlen] at this;omega
  rw[hie,b5] at hne;rw[OU hne];exact fW rfl (.refl _) (fun _=>rfl) (.i _ _)
 have hlt:i<l.length:=by have:=aB h;rw[hlen] at this;omega
 obtain⟨y,hy⟩:∃y,l[i]?=some y:=⟨l[i],gL hlt⟩;have hk:=ZV y t;refine⟨cN _,_,by rw[aA];exact lU hy,rfl,?_⟩;conv=>whnf
 refine jJ (rest:=[]) hk rfl rfl rfl rfl (s7 t) (s7 t) rfl (fun e he=>by show[(y.gv).ren e,GV.ptr (e 0) 0]=_;rw[y.cl e,he 0 (by simp)]) (fun _ _=>rfl) (wR _) ?_;conv=>whnf
 refine aF (fun heq=>?_) (fun heq=>?_)<;>conv=>whnf
 ·have e:y.name=t.name:=by simpa using heq
  rw[DW hy e hne];exact fW rfl (.refl _) (fun _=>rfl) (.i _ _)
 ·have e:y.name≠t.name:=by simpa using heq
  exact⟨l.length - (i+1),(by show _<l.length - i;omega),i+1,⟨hlt,uC hne hy e⟩,rfl,⟨rfl,rfl,rfl,b7 (by omega),trivial⟩,[],rfl,rfl⟩
theorem A3 (l:List Itm) (s:By):(tJ l s= -1/\l.find? (fun i=>i.name==s)=none)∨∃(j:Nat) (y:Itm),tJ l s=(j:Nat)/\l[j]?=some y/\l.find? (fun i=>i.name==s)=some y:=by
 rcases I3 l s with⟨h1,h2⟩|⟨j,y,h1,h2,h3,h4⟩
 ·exact .inl ⟨h1,List.find?_eq_none.2 (fun x hx=>by simpa using h2 x hx)⟩
 ·refine .inr ⟨j,y,h1,h2,?_⟩;have hlt:=(List.getElem?_eq_some_iff.1 h2).1;have e:l=l.take j++y::l.drop (j+1):=by
   have:l.drop j=y::l.drop (j+1):=by
    rw[aT hlt,(List.getElem?_eq_some_iff.1 h2).2]
   rw[<-this,dZ]
  rw[e,List.find?_append,List.find?_eq_none.2 (fun x hx=>by simpa using h4 x hx)];simp[h3]
def oB (I V:List Itm) (t:Term):Int:=if t.name=[] then 0 else match(if t.var then V else I).find? (fun i=>i.name==t.name) with
 |some _=>0
 |none=>5
theorem KQ [MaxL] (I V:List Itm) (hI:I.length<bB) (hV:V.length<bB) (t:Term):SC Tryz.prog 223 [t.gv,.sl .none (eZ I),.sl .none (eZ V)] [] (.val (.tup [.i .i64 (iK I V t),.i .i64 (oB I V t)])) []:=by
 have key:∀(l:List Itm),l.length<bB->SC Tryz.prog 179 [.sl .none (eZ l),.fn (.func 262) [] [.ptr 0 0]] [.box 242 t.cs] (.val (.i .i64 (tJ l t.name))) [.box 242 t.cs]:=fun l hl=>a1R l hl t;obtain⟨nm,vr,v⟩:=t;by_cases hn:nm=[]
 ·subst hn;have e1:iK I V ⟨[],vr,v⟩=v.k:=rfl;have e2:oB I V ⟨[],vr,v⟩=0:=rfl;rw[e1,e2];refine cX Tryz.func223 rfl ?_;conv=>whnf
  exact bC (.refl _) (fun _=>rfl)
 ·have e1:iK I V ⟨nm,vr,v⟩=match(if vr then V else I).find? (fun i=>i.name==nm) with|some i=>i.k|none=>0:=aD hn
  have e2:oB I V ⟨nm,vr,v⟩=match(if vr then V else I).find? (fun i=>i.name==nm) with|some _=>0|none=>5:=aD hn
  rw[e1,e2];cases vr with
  |true=>
   have hk:=key V hV;simp only[fK];have hc:=A3 V nm;replace hk:SC Tryz.prog 179 [.sl .none (eZ V),.fn (.func 262) [] [.ptr 0 0]] [.box 242 (Term.cs ⟨nm,true,v⟩)] (.val (.i .i64 (tJ V nm))) [.box 242 (Term.cs ⟨nm,true,v⟩)]:=hk;rcases hc with⟨h1,h2⟩|⟨j,y,h1,h2,h3⟩
   ·rw[h1] at hk;rw[h2];refine cX Tryz.func223 rfl ?_;(conv=>whnf);refine aF (fun h0=>?_) (fun h0=>?_)<;>conv=>whnf
    ·exact absurd (by simpa using h0) hn
    refine jJ (rest:=[]) hk rfl rfl rfl rfl (s7 ⟨nm,true,v⟩) (s7 ⟨nm,true,v⟩) rfl (fun e he=>by show[(GV.sl .none (eZ V)).ren e,GV.fn _ [] [.ptr (e 0) 0]]=_;rw[bS (cQ V) e,he 0 (by simp)]) (fun _ _=>rfl) (wR _) ?_;(conv=>whnf);exact bC (.refl _) (fun _=>rfl)
   ·rw[h1] at hk;rw[h3];refine cX Tryz.func223 rfl ?_;(conv=>whnf);refine aF (fun h0=>?_) (fun h0=>?_)<;>conv=>whnf
    ·exact absurd (by simpa using h0) hn
    refine jJ (rest:=[]) hk rfl rfl rfl rfl (s7 ⟨nm,true,v⟩) (s7 ⟨nm,true,v⟩) rfl (fun e he=>by show[(GV.sl .none (eZ V)).ren e,GV.fn _ [] [.ptr (e 0) 0]]=_;rw[bS (cQ V) e,he 0 (by simp)]) (fun _ _=>rfl) (wR _) ?_;(conv=>whnf);refine⟨cN _,_,by rw[aA];exact lU h2,rfl,?_⟩;(conv=>whnf);exact bC (.refl _) (fun _=>rfl)
  |false=>
   have hk:=key I hI;simp only[bT,fM];have hc:=A3 I nm;replace hk:SC Tryz.prog 179 [.sl .none (eZ I),.fn (.func 262) [] [.ptr 0 0]] [.box 242 (Term.cs ⟨nm,false,v⟩)] (.val (.i .i64 (tJ I nm))) [.box 242 (Term.cs ⟨nm,false,v⟩)]:=hk;rcases hc with⟨h1,h2⟩|⟨j,y,h1,h2,h3⟩
   ·rw[h1] at hk;rw[h2];refine cX Tryz.func223 rfl ?_;(conv=>whnf);refine aF (fun h0=>?_) (fun h0=>?_)<;>conv=>whnf
    ·exact absurd (by simpa using h0) hn
    refine jJ (rest:=[]) hk rfl rfl rfl rfl (s7 ⟨nm,false,v⟩) (s7 ⟨nm,false,v⟩) rfl (fun e he=>by show[(GV.sl .none (eZ I)).ren e,GV.fn _ [] [.ptr (e 0) 0]]=_;rw[bS (cQ I) e,he 0 (by simp)]) (fun _ _=>rfl) (wR _) ?_;(conv=>whnf);exact bC (.refl _) (fun _=>rfl)
   ·rw[h1] at hk;rw[h3];refine cX Tryz.func223 rfl ?_;(conv=>whnf);refine aF (fun h0=>?_) (fun h0=>?_)<;>conv=>whnf
    ·exact absurd (by simpa using h0) hn
    refine jJ (rest:=[]) hk rfl rfl rfl rfl (s7 ⟨nm,false,v⟩) (s7 ⟨nm,false,v⟩) rfl (fun e he=>by show[(GV.sl .none (eZ I)).ren e,GV.fn _ [] [.ptr (e 0) 0]]=_;rw[bS (cQ I) e,he 0 (by simp)]) (fun _ _=>rfl) (wR _) ?_;(conv=>whnf);refine⟨cN _,_,by rw[aA];exact lU h2,rfl,?_⟩;(conv=>whnf);exact bC (.refl _) (fun _=>rfl)
def eH (I V:List Itm) (e:Int):List GObj:=[.box 32 [.sl .none (eZ I)],.box 32 [.sl .none (eZ V)],.box 29 [.i .i64 e]]
def yZ (I V:List Itm) (e:Int) (t:Term):Int:=if e=0 then oB I V t else e
theorem gH [MaxL] (I V:List Itm) (e:Int):NO (eH I V e):=fun f hf=>by
 show[(GObj.box _ [.sl .none (eZ I)]).ren f,(GObj.box _ [.sl .none (eZ V)]).ren f,_]=_;rw[eT (cC (bS (cQ I)) .nil),eT (cC (bS (cQ V)) .nil)];rfl
theorem rY [MaxL] (I V:List Itm) (e:Int) {T:TypeId} {cs:List GV} (hc:ClL cs):NO (eH I V e++[GObj.box T cs]):=fun f hf=>by
 show[(GObj.box _ [.sl .none (eZ I)]).ren f,(GObj.box _ [.sl .none (eZ V)]).ren f,_,(GObj.box T cs).ren f]=_;rw[eT (cC (bS (cQ I)) .nil),eT (cC (bS (cQ V)) .nil),eT hc];rfl
theorem fN [MaxL] (I V:List Itm) (e:Int):(eH I V e).all GObj.notHeld=true:=rfl
theorem oG [MaxL] (I V:List Itm) (e:Int) {T:TypeId} {cs:List GV}:(eH I V e++[GObj.box T cs]).all GObj.notHeld=true:=rfl
theorem a1T [MaxL] (I V:List Itm) (hI:I.length<bB) (hV:V.length<bB) (e:Int) (op:By) (a b:Term):SC Tryz.prog 222 [.ptr 3 1,.ptr 0 0,.ptr 1 0,.ptr 2 0] (eH I V e++[.box 244 (Tree.test op a b).cs]) (.val (.tup [])) (eH I V (yZ I V e a)++[.box 244 (Tree.test op a b).cs]):=by
 have hk:=KQ I V hI hV a;unfold yZ;generalize iK I V a=kr at*;generalize oB I V a=ke at*;refine cR pU mixed Tryz.func222 rfl (bL rfl) (by simp[eH]) (oG _ _ _) ?_;conv=>whnf
 refine b6 (by kernel_rfl) ?_;conv=>whnf
 refine bD hk (wR _) rfl (cC a.cl (cC (bS (cQ I)) (cC (bS (cQ V)) .nil))) (fun _=>rfl) ?_;conv=>whnf
 refine aF (fun h=>?_) (fun h=>?_)<;>conv=>whnf
 ·have h9:e=0:=by simpa using h
  rw[aG h9];refine⟨_,⟨rfl,zL _,rfl,bL rfl⟩,?_⟩;conv=>whnf
  exact kA (rest:=[]) rfl (by simp[eH]) (rY I V ke (Tree.cs_cl _)) (oG _ _ _) (fun _ _=>rfl) (cY _)
 ·have h9:¬e=0:=by simpa using h
  rw[aD h9];exact kA (rest:=[]) rfl (by simp[eH]) (rY I V e (Tree.cs_cl _)) (oG _ _ _) (fun _ _=>rfl) (cY _)
theorem a1S [MaxL] (I V:List Itm) (hI:I.length<bB) (hV:V.length<bB) (e:Int) (op:By) (a b:Term):SC Tryz.prog 222 [.ptr 3 6,.ptr 0 0,.ptr 1 0,.ptr 2 0] (eH I V e++[.box 244 (Tree.test op a b).cs]) (.val (.tup [])) (eH I V (yZ I V e b)++[.box 244 (Tree.test op a b).cs]):=by
 have hk:=KQ I V hI hV b;unfold yZ;generalize iK I V b=kr at*;generalize oB I V b=ke at*;refine cR pU mixed Tryz.func222 rfl (bL rfl) (by simp[eH]) (oG _ _ _) ?_;conv=>whnf
 refine b6 (by kernel_rfl) ?_;conv=>whnf
 refine bD hk (wR _) rfl (cC b.cl (cC (bS (cQ I)) (cC (bS (cQ V)) .nil))) (fun _=>rfl) ?_;conv=>whnf
 refine aF (fun h=>?_) (fun h=>?_)<;>conv=>whnf
 ·have h9:e=0:=by simpa using h
  rw[aG h9];refine⟨_,⟨rfl,zL _,rfl,bL rfl⟩,?_⟩;conv=>whnf
  exact kA (rest:=[]) rfl (by simp[eH]) (rY I V ke (Tree.cs_cl _)) (oG _ _ _) (fun _ _=>rfl) (cY _)
 ·have h9:¬e=0:=by simpa using h
  rw[aD h9];exact kA (rest:=[]) rfl (by simp[eH]) (rY I V e (Tree.cs_cl _)) (oG _ _ _) (fun _ _=>rfl) (cY _)
def DG (I V:List Itm) (e:Int) (p:Term×Term):Int:=if iK I V p.1 !=iK I V p.2 then 10 else e
theorem a2G [MaxL] (I V:List Itm) (hI:I.length<bB) (hV:V.length<bB) (e:Int) (op:By) (a b:Term):SC Tryz.prog 225 [.agg (Tree.test op a b).cs,.ptr 0 0,.ptr 1 0,.ptr 2 0] (eH I V e) (.val (.tup [])) (eH I V (DG I V e (a,b))):=by
 have hka:=KQ I V hI hV a;have hkb:=KQ I V hI hV b;unfold DG;simp only;generalize iK I V a=ka at*;generalize oB I V a=ea at*;generalize iK I V b=kb at*;generalize oB I V b=eb at*;refine cR pU mixed Tryz.func225 rfl (bL rfl) (by simp[eH]) (fN _ _ _) ?_;conv=>whnf
 refine bD hka (wR _) rfl (cC a.cl (cC (bS (cQ I)) (cC (bS (cQ V)) .nil))) (fun _=>rfl) ?_;conv=>whnf
 refine bD hkb (wR _) rfl (cC b.cl (cC (bS (cQ I)) (cC (bS (cQ V)) .nil))) (fun _=>rfl) ?_;conv=>whnf
 refine aF (fun h=>?_) (fun h=>?_)<;>conv=>whnf
 ·rw[aG h];refine⟨_,⟨rfl,zL _,rfl,bL rfl⟩,?_⟩;conv=>whnf
  exact kA (rest:=[_]) rfl (by simp[eH]) (gH I V 10) (fN _ _ _) (fun _ _=>rfl) (cY _)
 ·rw[aD (by rw[h];decide)];exact kA (rest:=[_]) rfl (by simp[eH]) (gH I V e) (fN _ _ _) (fun _ _=>rfl) (cY _)
def cF (k:FuncId):GV:=.fn (.func k) [] [.ptr 0 0,.ptr 1 0,.ptr 2 0]
theorem a1W [MaxL] (k:FuncId) {e:Nat->Nat} (h0:e 0=0) (h1:e 1=1) (h2:e 2=2):(cF k).ren e=cF k:=by
 show GV.fn _ [] [.ptr (e 0) 0,.ptr (e 1) 0,.ptr (e 2) 0]=_;rw[h0,h1,h2];rfl
theorem kH [MaxL] (k:FuncId) {I V:List Itm} {x:Int} {t:Tree} (e:Nat->Nat) (he:∀i,i<(eH I V x).length->e i=i):[t.gv,cF k].map (GV.ren e)=[t.gv,cF k]:=by
 show[t.gv.ren e,(cF k).ren e]=_;rw[t.cl e,a1W k (he 0 (by simp[eH])) (he 1 (by simp[eH])) (he 2 (by simp[eH]))]
theorem AL [MaxL] (I V:List Itm) (hI:I.length<bB) (hV:V.length<bB):∀(t:Tree) (x:Int),SC Tryz.prog 221 [t.gv,cF 222] (eH I V x) (.val (.tup [])) (eH I V ((dA t).foldl (yZ I V) x))
 |.pair a l r,x=>by
  have s1:=AL I V hI hV l x;have s2:=AL I V hI hV r ((dA l).foldl (yZ I V) x);rw[show(dA (Tree.pair a l r)).foldl (yZ I V) x=(dA r).foldl (yZ I V) ((dA l).foldl (yZ I V) x) by simp[dA,List.foldl_append]];refine cR pU mixed Tryz.func221 rfl (bL rfl) (by simp[eH]) (fN _ _ _) ?_;conv=>whnf
  refine⟨_,⟨rfl,zL _,rfl,bL rfl⟩,?_⟩;conv=>whnf
  refine jJ (rest:=[.box 280 (Tree.pair a l r).cs]) s1 rfl (by simp[eH]) rfl rfl (gH _ _ _) (gH _ _ _) (fN _ _ _) (kH _) (fun _ _=>rfl) (wR _) ?_;conv=>whnf
  refine jJ (rest:=[.box 280 (Tree.pair a l r).cs]) s2 rfl (by simp[eH]) rfl rfl (gH _ _ _) (gH _ _ _) (fN _ _ _) (kH _) (fun _ _=>rfl) (wR _) ?_;conv=>whnf
  exact kA (rest:=[_]) rfl (by simp[eH]) (gH _ _ _) (fN _ _ _) (fun _ _=>rfl) (cY _)
 |.no t,x=>by
  have s1:=AL I V hI hV t x;refine cR pU mixed Tryz.func221 rfl (bL rfl) (by simp[eH]) (fN _ _ _) ?_;conv=>whnf
  refine⟨_,⟨rfl,zL _,rfl,bL rfl⟩,?_⟩;conv=>whnf
  refine jJ (rest:=[.box 278 (Tree.no t).cs]) s1 rfl (by simp[eH]) rfl rfl (gH _ _ _) (gH _ _ _) (fN _ _ _) (kH _) (fun _ _=>rfl) (wR _) ?_;conv=>whnf
  exact kA (rest:=[_]) rfl (by simp[eH]) (gH _ _ _) (fN _ _ _) (fun _ _=>rfl) (cY _)
 |.test op a b,x=>by
  have s1:=a1T I V hI hV x op a b;have s2:=a1S I V hI hV (yZ I V x a) op a b;have hcs:=(Tree.test op a b).cs_cl;refine cR pU mixed Tryz.func221 rfl (bL rfl) (by simp[eH]) (fN _ _ _) ?_;conv=>whnf
  refine⟨_,⟨rfl,zL _,rfl,bL rfl⟩,?_⟩;conv=>whnf
  refine jJ (rest:=[]) s1 rfl (by simp[eH]) rfl rfl (rY _ _ _ hcs) (rY _ _ _ hcs) (oG _ _ _) (fun e he=>by show[GV.ptr (e 3) 1,.ptr (e 0) 0,.ptr (e 1) 0,.ptr (e 2) 0]=_;rw[he 3 (by simp[eH]),he 0 (by simp[eH]),he 1 (by simp[eH]),he 2 (by simp[eH])]) (fun _ _=>rfl) (wR _) ?_;conv=>whnf
  refine jJ (rest:=[]) s2 rfl (by simp[eH]) rfl rfl (rY _ _ _ hcs) (rY _ _ _ hcs) (oG _ _ _) (fun e he=>by show[GV.ptr (e 3) 6,.ptr (e 0) 0,.ptr (e 1) 0,.ptr (e 2) 0]=_;rw[he 3 (by simp[eH]),he 0 (by simp[eH]),he 1 (by simp[eH]),he 2 (by simp[eH])]) (fun _ _=>rfl) (wR _) ?_;conv=>whnf
  exact kA (rest:=[_]) rfl (by simp[eH]) (gH _ _ _) (fN _ _ _) (fun _ _=>rfl) (cY _)
 |.truth b,x=>by
  refine cR pU mixed Tryz.func221 rfl (bL rfl) (by simp[eH]) (fN _ _ _) ?_;conv=>whnf
  exact kA (rest:=[]) rfl (by simp[eH]) (gH _ _ _) (fN _ _ _) (fun _ _=>rfl) (cY _)
theorem AK [MaxL] (I V:List Itm) (hI:I.length<bB) (hV:V.length<bB):∀(t:Tree) (x:Int),SC Tryz.prog 224 [t.gv,cF 225] (eH I V x) (.val (.tup [])) (eH I V ((lQ t).foldl (DG I V) x))
 |.pair a l r,x=>by
  have s1:=AK I V hI hV l x;have s2:=AK I V hI hV r ((lQ l).foldl (DG I V) x);rw[show(lQ (Tree.pair a l r)).foldl (DG I V) x=(lQ r).foldl (DG I V) ((lQ l).foldl (DG I V) x) by simp[lQ,List.foldl_append]];refine cR pU mixed Tryz.func224 rfl (bL rfl) (by simp[eH]) (fN _ _ _) ?_;conv=>whnf
  refine⟨_,⟨rfl,zL _,rfl,bL rfl⟩,?_⟩;conv=>whnf
  refine jJ (rest:=[.box 280 (Tree.pair a l r).cs]) s1 rfl (by simp[eH]) rfl rfl (gH _ _ _) (gH _ _ _) (fN _ _ _) (kH _) (fun _ _=>rfl) (wR _) ?_;conv=>whnf
  refine jJ (rest:=[.box 280 (Tree.pair a l r).cs]) s2 rfl (by simp[eH]) rfl rfl (gH _ _ _) (gH _ _ _) (fN _ _ _) (kH _) (fun _ _=>rfl) (wR _) ?_;conv=>whnf
  exact kA (rest:=[_]) rfl (by simp[eH]) (gH _ _ _) (fN _ _ _) (fun _ _=>rfl) (cY _)
 |.no t,x=>by
  have s1:=AK I V hI hV t x;refine cR pU mixed Tryz.func224 rfl (bL rfl) (by simp[eH]) (fN _ _ _) ?_;conv=>whnf
  refine⟨_,⟨rfl,zL _,rfl,bL rfl⟩,?_⟩;conv=>whnf
  refine jJ (rest:=[.box 278 (Tree.no t).cs]) s1 rfl (by simp[eH]) rfl rfl (gH _ _ _) (gH _ _ _) (fN _ _ _) (kH _) (fun _ _=>rfl) (wR _) ?_;conv=>whnf
  exact kA (rest:=[_]) rfl (by simp[eH]) (gH _ _ _) (fN _ _ _) (fun _ _=>rfl) (cY _)
 |.test op a b,x=>by
  have s1:=a2G I V hI hV x op a b;have hcs:=(Tree.test op a b).cs_cl;refine cR pU mixed Tryz.func224 rfl (bL rfl) (by simp[eH]) (fN _ _ _) ?_;conv=>whnf
  refine⟨_,⟨rfl,zL _,rfl,bL rfl⟩,?_⟩;conv=>whnf
  refine jJ (rest:=[.box 244 (Tree.test op a b).cs]) s1 rfl (by simp[eH]) rfl rfl (gH _ _ _) (gH _ _ _) (fN _ _ _) (fun e he=>by show[(GV.agg (Tree.test op a b).cs).ren e,GV.ptr (e 0) 0,.ptr (e 1) 0,.ptr (e 2) 0]=_;rw[eL hcs e,he 0 (by simp[eH]),he 1 (by simp[eH]),he 2 (by simp[eH])]) (fun _ _=>rfl) (wR _) ?_;conv=>whnf
  exact kA (rest:=[_]) rfl (by simp[eH]) (gH _ _ _) (fN _ _ _) (fun _ _=>rfl) (cY _)
 |.truth b,x=>by
  refine cR pU mixed Tryz.func224 rfl (bL rfl) (by simp[eH]) (fN _ _ _) ?_;conv=>whnf
  exact kA (rest:=[]) rfl (by simp[eH]) (gH _ _ _) (fN _ _ _) (fun _ _=>rfl) (cY _)
theorem a0L (I V:List Itm):∀(ts:List Term) (x:Int),x=0∨x=5->ts.foldl (yZ I V) x=if x=5∨ts.any (fun t=>oB I V t==5) then 5 else 0
 |[],x,h=>by rcases h with rfl|rfl<;>rfl
 |t::ts,x,h=>by
  have hk:oB I V t=0∨oB I V t=5:=by
   unfold oB;split
   ·exact .inl rfl
   ·split
    ·exact .inl rfl
    ·exact .inr rfl
  rw[gX,List.any_cons];have hx:yZ I V x t=0∨yZ I V x t=5:=by
   unfold yZ;split
   ·exact hk
   ·exact h
  rw[a0L I V ts _ hx];unfold yZ;rcases h with rfl|rfl
  ·rcases hk with hk|hk<;>simp[hk]
  ·simp
theorem a0M (I V:List Itm):∀(ts:List (Term×Term)) (x:Int),x=0∨x=10->ts.foldl (DG I V) x=if x=10∨ts.any (fun p=>iK I V p.1 !=iK I V p.2) then 10 else 0
 |[],x,h=>by rcases h with rfl|rfl<;>rfl
 |t::ts,x,h=>by
  rw[gX,List.any_cons];have hx:DG I V x t=0∨DG I V x t=10:=by
   unfold DG;split
   ·exact .inr rfl
   ·exact h
  rw[a0M I V ts _ hx];unfold DG;cases hb:(iK I V t.1 !=iK I V t.2) with
  |true=>simp
  |false=>
   simp only[bT,fM,Bool.false_or]
theorem T1 {I V:List Itm} (hI:gM I=true) (hV:gM V=true) {t:Term} (ht:t.good):(iK I V t==0)=(oB I V t==5):=by
 have okk:∀{l:List Itm},gM l=true->∀y∈l,y.k≠0:=fun h y hy=>by
  unfold gM at h;simp only[aH,aS] at h;have:=h.1.1 y hy;simp only[Itm.ok,aH,f5,aK] at this;rcases this.2 with h|h<;>omega
 unfold iK oB;by_cases hn:t.name=[]
 ·rw[aG hn,aG hn];have hv:t.v.ok=true:=by
   rcases ht with⟨h1,_⟩|⟨_,_,h3⟩
   ·exact absurd hn h1
   ·exact h3
  rcases QI hv with h|h<;>rw[h]<;>rfl
 ·rw[aD hn,aD hn];cases hf:(if t.var then V else I).find? (fun i=>i.name==t.name) with
  |none=>rfl
  |some y=>
   have hm:=List.mem_of_find?_eq_some hf;have:y.k≠0:=by
    cases hv:t.var with
    |true=>rw[hv] at hm;exact okk hV y hm
    |false=>rw[hv] at hm;exact okk hI y hm
   simp[this]
theorem x8:∀{t:Tree},t.good->∀x∈dA t,x.good
 |.pair _ l r,h,x,hx=>by
  simp only[dA,List.mem_append] at hx;rcases hx with hx|hx
  ·exact x8 h.1 x hx
  ·exact x8 h.2 x hx
 |.no t,h,x,hx=>x8 (t:=t) h x hx
 |.test _ a b,h,x,hx=>by
  simp[dA] at hx;rcases hx with rfl|rfl
  ·exact h.2.1
  ·exact h.2.2
 |.truth _,h,x,hx=>by simp[dA] at hx
theorem NM {I V:List Itm} (hI:gM I=true) (hV:gM V=true):∀{ts:List Term},(∀x∈ts,x.good)->ts.any (fun x=>iK I V x==0)=ts.any (fun t=>oB I V t==5)
 |[],_=>rfl
 |t::ts,h=>by
  rw[List.any_cons,List.any_cons,T1 hI hV (h t (by simp)),NM hI hV (fun x hx=>h x (by simp[hx]))]
def KN (I V:List Itm) (t:Tree):Int:=if(dA t).any (fun x=>oB I V x==5) then 5 else if(lQ t).any (fun p=>iK I V p.1 !=iK I V p.2) then 10 else 0
theorem TI {I V:List Itm} (hI:gM I=true) (hV:gM V=true) {t:Tree} (h:t.good):KN I V t=rE I V t:=by
 unfold KN rE;rw[NM hI hV (x8 h)]
theorem ZZ [MaxL] (I V:List Itm) (hI:I.length<bB) (hV:V.length<bB) (t:Tree):SC Tryz.prog 185 [t.gv,.sl .none (eZ I),.sl .none (eZ V)] [] (.val (.i .i64 (KN I V t))) []:=by
 have s1:=AL I V hI hV t 0;have s2:=AK I V hI hV t 0;rw[a0L I V _ 0 (.inl rfl)] at s1;rw[a0M I V _ 0 (.inl rfl)] at s2;unfold KN;generalize(dA t).any (fun x=>oB I V x==5)=b1 at*;generalize(lQ t).any (fun p=>iK I V p.1 !=iK I V p.2)=b2 at*;cases b1 with
 |true=>
  replace s1:SC Tryz.prog 221 [t.gv,cF 222] (eH I V 0) (.val (.tup [])) (eH I V 5):=s1;refine cX Tryz.func185 rfl ?_;conv=>whnf
  refine⟨_,⟨rfl,zL _,rfl,bL rfl⟩,?_⟩;conv=>whnf
  refine jJ (rest:=[]) s1 rfl (by simp[eH]) rfl rfl (gH _ _ _) (gH _ _ _) (fN _ _ _) (kH _) (fun _ _=>rfl) (wR _) ?_;conv=>whnf
  exact bA rfl
 |false=>
  replace s1:SC Tryz.prog 221 [t.gv,cF 222] (eH I V 0) (.val (.tup [])) (eH I V 0):=s1;cases b2 with
  |true=>
   replace s2:SC Tryz.prog 224 [t.gv,cF 225] (eH I V 0) (.val (.tup [])) (eH I V 10):=s2;refine cX Tryz.func185 rfl ?_;(conv=>whnf);refine⟨_,⟨rfl,zL _,rfl,bL rfl⟩,?_⟩;(conv=>whnf);refine jJ (rest:=[]) s1 rfl (by simp[eH]) rfl rfl (gH _ _ _) (gH _ _ _) (fN _ _ _) (kH _) (fun _ _=>rfl) (wR _) ?_;(conv=>whnf);refine jJ (rest:=[]) s2 rfl (by simp[eH]) rfl rfl (gH _ _ _) (gH _ _ _) (fN _ _ _) (kH _) (fun _ _=>rfl) (wR _) ?_;(conv=>whnf);exact bA rfl
  |false=>
   replace s2:SC Tryz.prog 224 [t.gv,cF 225] (eH I V 0) (.val (.tup [])) (eH I V 0):=s2;refine cX Tryz.func185 rfl ?_;(conv=>whnf);refine⟨_,⟨rfl,zL _,rfl,bL rfl⟩,?_⟩;(conv=>whnf);refine jJ (rest:=[]) s1 rfl (by simp[eH]) rfl rfl (gH _ _ _) (gH _ _ _) (fN _ _ _) (kH _) (fun _ _=>rfl) (wR _) ?_;(conv=>whnf);refine jJ (rest:=[]) s2 rfl (by simp[eH]) rfl rfl (gH _ _ _) (gH _ _ _) (fN _ _ _) (kH _) (fun _ _=>rfl) (wR _) ?_;(conv=>whnf);exact bA rfl
def WE:List Itm->List Val->Bool
 |i::l,v::r=>v.ok&&decide (v.k=i.k)&&WE l r
 |_,_=>true
def lkp (l:List Itm) (r:List Val) (s:By):Val:=r.getD (tJ l s).toNat v0
def a2W (I V:List Itm) (R W:List Val) (t:Term):Val:=if t.name=[] then t.v else if t.var then lkp V W t.name else lkp I R t.name
