/-
  A part of the proof of SchemaFinds.
-/
import Derived.Test.YtcfgfkkhpdlhpaaGreatDoorT42
set_option linter.all false
set_option maxRecDepth 100000
namespace Go.Proofs.YtcfgfkkhpdlhpaaGreatDoor
open Go.RowKit
def dD:Tree->List Term
 |.pair _ l r=>dD l++dD r
 |.no t=>dD t
 |.test _ a b=>[a,b]
 |.truth _=>[]
theorem pS (a:Bool):∀t:Tree,(t.sides a).flatMap dD=dD t
 |.pair b l r=>by
  unfold Tree.sides;split
  ·rw[List.flatMap_append,pS a l,pS a r];rfl
  ·simp
 |.no t=>by simp[Tree.sides]
 |.test _ _ _=>by simp[Tree.sides]
 |.truth _=>by simp[Tree.sides]
theorem oL:∀t:Tree,(dD t).length<=2*t.size
 |.pair _ l r=>by
  have h1:=oL l;have h2:=oL r;simp only[dD,Tree.size,aD];omega
 |.no t=>by
  have:=oL t;simp only[dD,Tree.size];omega
 |.test _ _ _=>by simp[dD,Tree.size]
 |.truth _=>by simp[dD]
def y9 (l:List Term):List GV:=l.map fun t=>.agg (VS t)
theorem w7 [MaxL] (l:List Term):ClL (y9 l):=gT (fun t=>eO (B7 t)) l
theorem m8 (l:List Term):(y9 l).length=l.length:=by simp[y9]
theorem VQ (l:List Term):(y9 l).all (fun x=>x.cells.length==5)=true:=by
 rw[aS];intro x hx;obtain⟨t,_,rfl⟩:=List.mem_map.1 hx;rfl
theorem LX (l:List Term):(y9 l).all (r4 5)=true:=by
 rw[aS];intro x hx;obtain⟨t,_,rfl⟩:=List.mem_map.1 hx;rfl
theorem QS (a b:List Term):y9 (a++b)=y9 a++y9 b:=by unfold y9;rw[cO]
theorem TG [MaxL] (op:By) (l r:Term):SC Tryz.prog 232 [.agg (k9 4 [] l r op false)] [] (.val (.sl .none (y9 [l,r]))) []:=by
 refine cZ Tryz.func232 rfl ?_;conv=>whnf
 exact bA (bE _ _) (bV (w7 _))
def ZY (L:List Tree) (i:Nat):List Term:=(L.take i).flatMap dD
theorem X3 {L:List Tree} {i:Nat} {y:Tree} (h:L[i]?=some y):ZY L (i+1)=ZY L i++dD y:=by
 unfold ZY;rw[bR,h,List.flatMap_append];simp
theorem a1p (L:List Tree) (i:Nat):(ZY L i).length<=(L.flatMap dD).length:=by
 have:L.flatMap dD=ZY L i++(L.drop i).flatMap dD:=by
  unfold ZY;rw[<-List.flatMap_append,iM]
 rw[this,aD];omega
theorem BD [MaxL] (k:Nat) (hk:k≠4) (L:List Tree) (yes:Bool) (hL:L.length<=100000) (hb:(L.flatMap dD).length<=1000000) (hc:∀y∈L,SC Tryz.prog 232 [y.ng] [] (.val (.sl .none (y9 (dD y)))) []):
  SC Tryz.prog 232 [.agg (k9 k (k8 L) t0 t0 [] yes)] [] (.val (.sl .none (y9 (L.flatMap dD)))) []:=by
 have hnl:(k8 L).length=L.length:=eX L;refine cZ Tryz.func232 rfl ?_;conv=>whnf
 refine aF (fun h4=>?_) (fun h4=>?_)<;>conv=>whnf
 ·exfalso;have h9:(k:Int)=4:=by simpa using h4
  omega
 refine fI (fun q:Nat×List Term=>q.1<=L.length/\ZY L q.1=q.2) (fun q=>[(1,.ptr 0 0),(3,.sl (.own 2) (y9 q.2)),(4,.i .i64 (q.1:Nat))])
  (fun q=>⟨[.box 211 (k9 k (k8 L) t0 t0 [] yes),.own 0 0 0,ow 209 5 q.2.length],0,[]⟩) (fun q=>L.length - q.1) (0,[]) ⟨zL _,rfl⟩ ⟨rfl,rfl,rfl,trivial⟩ rfl (fun _ _=>rL _) (fun q _=>by simp only[gK,lN];rfl) (fun q _ e he=>?_) (fun q φ0 hi=>?_)
 ·refine⟨?_,rfl,?_⟩
  ·show[(GObj.box _ (k9 k (k8 L) t0 t0 [] yes)).ren e,_,(ow _ 5 _).ren e]=_;rw[yX,eM (jO (r7 L) t0 t0 [] yes) e];rfl
  ·show[GV.ptr (e 0) 0,(GV.sl (.own 2) (y9 q.2)).ren e,_]=_;rw[pP (he 2 (by simp)) (w7 _),he 0 (by simp)];rfl
 obtain⟨i,o⟩:=q;obtain⟨hi,ho⟩:=hi;replace hi:i<=L.length:=hi;replace ho:ZY L i=o:=ho;conv=>whnf
 refine aF (fun h=>?_) (fun h=>?_)<;>conv=>whnf
 rotate_left
 ·have hie:i=L.length:=by have:=aB h;rw[hnl] at this;omega
  have hoe:o=L.flatMap dD:=by rw[<-ho,hie];unfold ZY;rw[b7]
  rw[<-hoe];exact bA (bE _ _) (bV (w7 _))
 have hlt:i<L.length:=by have:=aA h;rw[hnl] at this;omega
 obtain⟨y,hy⟩:∃y,L[i]?=some y:=⟨L[i],gL hlt⟩;have hgy:(k8 L)[i]?=some y.ng:=by unfold k8;rw[aM,hy];rfl
 have hcy:=hc y (aK hy);have hcl:=y.ng_cl;have hsucc:=X3 hy;have hle:=a1p L (i+1);rw[hsucc,ho,aD] at hle;rw[ho] at hsucc;obtain⟨k2,kids,A,B,op,yes2,hng⟩:=iW y;rw[hng] at hgy hcy hcl;refine⟨cN _,.agg (k9 k2 kids A B op yes2),by rw[aC];exact hgy,rfl,?_⟩;conv=>whnf
 generalize dD y=ys at*;rcases ys with _|⟨y1,ys⟩
 ·refine bG hcy (wR _) rfl (cC hcl .nil) (bV (w7 _)) ?_;conv=>whnf
  rw[iV] at hsucc;exact⟨L.length - (i+1),(by show _<L.length - i;omega),(i+1,o),⟨hlt,hsucc⟩,rfl,⟨rfl,rfl,b8 (by omega),trivial⟩,[],rfl,rfl⟩
 ·refine bG hcy (wR _) rfl (cC hcl .nil) (bV (w7 _)) ?_;conv=>whnf
  cases o with
  |nil=>
   refine⟨⟨LX (y1::ys),VQ _,by show(y9 ([]:List Term)).length+(y9 (y1::ys)).length<=4294967296;rw[m8,m8];omega⟩,y9 (([]:List Term)++y1::ys),(([]:List Term)++y1::ys).length,⟨QS ([]:List Term) (y1::ys),by show _=(y9 ([]:List Term)).length+(y9 (y1::ys)).length;rw[m8,m8,aD]⟩,?_⟩;(conv=>whnf);refine⟨⟨zL _,by first|rfl|(rw[m8];rfl)|(rw[m8];simp),by first|exact .inr ⟨rfl,rfl⟩|exact .inl ⟨rfl,rfl⟩⟩,?_⟩;(conv=>whnf);exact⟨L.length - (i+1),(by show _<L.length - i;omega),(i+1,([]:List Term)++y1::ys),⟨hlt,hsucc⟩,rfl,⟨rfl,rfl,b8 (by omega),trivial⟩,_,rfl,rfl⟩
  |cons z zs=>
   refine⟨⟨LX (y1::ys),VQ _,by show(y9 (z::zs)).length+(y9 (y1::ys)).length<=4294967296;rw[m8,m8];omega⟩,y9 ((z::zs)++y1::ys),((z::zs)++y1::ys).length,⟨QS (z::zs) (y1::ys),by show _=(y9 (z::zs)).length+(y9 (y1::ys)).length;rw[m8,m8,aD]⟩,?_⟩;(conv=>whnf);refine⟨⟨zL _,by first|rfl|(rw[m8];rfl)|(rw[m8];simp),by first|exact .inr ⟨rfl,rfl⟩|exact .inl ⟨rfl,rfl⟩⟩,?_⟩;(conv=>whnf);exact⟨L.length - (i+1),(by show _<L.length - i;omega),(i+1,(z::zs)++y1::ys),⟨hlt,hsucc⟩,rfl,⟨rfl,rfl,b8 (by omega),trivial⟩,_,rfl,rfl⟩
theorem JL [MaxL]:∀(n:Nat) (t:Tree),t.size<=n->t.size<=5000->SC Tryz.prog 232 [t.ng] [] (.val (.sl .none (y9 (dD t)))) []
 |0,t,h,_=>by cases t<;>simp[Tree.size] at h
 |n+1,t,h,h2=>by
  have hz:=oL t;cases t with
  |truth b=>
   have:=BD 5 (by decide) [] b (by simp) (by simp) (fun y hy=>by cases hy);exact this
  |test op l r=>exact TG op l r
  |no t=>
   simp only[Tree.size] at h h2;have:=BD 3 (by decide) [t] false (by simp) (by simp[dD] at hz⊢;simp only[Tree.size] at hz;omega) (fun y hy=>by
    rw[List.mem_singleton.1 hy];exact JL n t (by omega) (by omega))
   have e:[t].flatMap dD=dD (.no t):=by simp[dD]
   rw[e] at this;exact this
  |pair a l r=>
   have hs:=@mT a (Tree.pair a l r);have hk:∀y∈(Tree.pair a l r).sides a,SC Tryz.prog 232 [y.ng] [] (.val (.sl .none (y9 (dD y)))) []:=fun y hy=>by
    have:=ES hy;exact JL n y (by omega) (by omega)
   have:=BD (lD a) (by cases a<;>decide) ((Tree.pair a l r).sides a) false (by omega) (by rw[pS];omega) hk;rw[pS] at this;rw[show(Tree.pair a l r).ng=.agg (k9 (lD a) (k8 ((Tree.pair a l r).sides a)) t0 t0 [] false) by show GV.agg _=_;rw[tP]];exact this
def a3b (l:List By) (x:By):List By:=if x≠[]/\¬x∈l then l++[x] else l
def YK:Option Tree->List Term
 |none=>[]
 |some x=>dD x
theorem rY (a:Bool) (acc:Option Tree) (t:Tree):dD (rD a acc t)=YK acc++dD t:=by cases acc<;>rfl
theorem K7 (a:Bool):∀(t:Tree) (acc:Option Tree),dD (dY a acc t)=YK acc++dD t:=by
 intro t;induction t generalizing a with
 |pair b l r i1 i2=>
  intro acc;unfold dY;split
  ·rw[i2];show dD (dY a acc l)++dD r=YK acc++(dD l++dD r);rw[i1,bD]
  ·rw[rY,i2];show YK acc++(dD (dY b none l)++dD r)=YK acc++(dD l++dD r);rw[i1];rfl
 |no t i=>
  intro acc;unfold dY;rw[rY];show _++dD (dY true none t)=_;rw[i];rfl
 |test op l r=>intro acc;unfold dY;rw[rY]
 |truth b=>intro acc;unfold dY;rw[rY]
theorem N0 (t:Tree):dD t.flat=dD t:=by
 unfold Tree.flat;rw[K7];rfl
def a3J (op:By) (c:Int):Bool:=if op=[61] then c==0 else if op=[60,62] then c !=0 else if op=[60] then decide (c<0) else if op=[60,61] then decide (c<=0) else if op=[62] then decide (c>0) else decide (c>=0)
def kS (τ:Term->Val):Tree->Bool
 |.pair a l r=>if a then kS τ l&&kS τ r else kS τ l||kS τ r
 |.no t=>!kS τ t
 |.test op l r=>a3J op (a3Y (τ l) (τ r))
 |.truth b=>b
def Y1 (a:Bool):Option Bool->Bool->Bool
 |none,x=>x
 |some y,x=>if a then y&&x else y||x
theorem uI (τ:Term->Val) (a:Bool) (acc:Option Tree) (t:Tree):kS τ (rD a acc t)=Y1 a (acc.map (kS τ)) (kS τ t):=by cases acc<;>rfl
theorem oF (τ:Term->Val):∀(t:Tree) (a:Bool) (acc:Option Tree),kS τ (dY a acc t)=Y1 a (acc.map (kS τ)) (kS τ t)
 |.pair b l r,a,acc=>by
  unfold dY;split
  ·rename_i hab;subst hab;rw[oF τ r,eL,oF τ l];cases acc<;>cases a<;>simp[Y1,kS,Bool.and_assoc,Bool.or_assoc]
  ·rw[uI,oF τ r,eL,oF τ l];cases acc<;>cases b<;>simp[Y1,kS]
 |.no t,a,acc=>by
  unfold dY;rw[uI];show Y1 a _ (!kS τ (dY true none t))=_;rw[oF τ t];rfl
 |.test op l r,a,acc=>by unfold dY;rw[uI]
 |.truth b,a,acc=>by unfold dY;rw[uI]
theorem CE (τ:Term->Val) (a:Bool):∀t:Tree,kS τ t=if a then(t.sides a).all (kS τ) else(t.sides a).any (kS τ)
 |.pair b l r=>by
  unfold Tree.sides;by_cases hab:a=b
  ·subst hab;rw[aG rfl,List.all_append,List.any_append];have h1:=CE τ a l;have h2:=CE τ a r;cases a<;>simp[kS,h1,h2]
  ·rw[aE hab];cases a<;>simp
 |.no t=>by cases a<;>simp[Tree.sides]
 |.test _ _ _=>by cases a<;>simp[Tree.sides]
 |.truth _=>by cases a<;>simp[Tree.sides]
def iY (I V:List Itm) (t:Term):Int:=if t.name=[] then t.v.k else match(if t.var then V else I).find? (fun i=>i.name==t.name) with
 |some i=>i.k
 |none=>0
def m7:Tree->List (Term×Term)
 |.pair _ l r=>m7 l++m7 r
 |.no t=>m7 t
 |.test _ a b=>[(a,b)]
 |.truth _=>[]
def rK (I V:List Itm) (t:Tree):Int:=if(dD t).any (fun x=>iY I V x==0) then 5 else if(m7 t).any (fun p=>iY I V p.1 !=iY I V p.2) then 10 else 0
theorem oK:∀t:Tree,dD t=(m7 t).flatMap fun p=>[p.1,p.2]
 |.pair _ l r=>by simp only[dD,m7,List.flatMap_append];rw[oK l,oK r]
 |.no t=>oK t
 |.test _ _ _=>rfl
 |.truth _=>rfl
def YJ:Option Tree->List (Term×Term)
 |none=>[]
 |some x=>m7 x
theorem xG (a:Bool) (acc:Option Tree) (t:Tree):m7 (rD a acc t)=YJ acc++m7 t:=by cases acc<;>rfl
theorem nR:∀(t:Tree) (a:Bool) (acc:Option Tree),m7 (dY a acc t)=YJ acc++m7 t
 |.pair b l r,a,acc=>by
  unfold dY;split
  ·rw[nR r];show m7 (dY a acc l)++m7 r=YJ acc++(m7 l++m7 r);rw[nR l,bD]
  ·rw[xG,nR r];show YJ acc++(m7 (dY b none l)++m7 r)=YJ acc++(m7 l++m7 r);rw[nR l];rfl
 |.no t,a,acc=>by
  unfold dY;rw[xG];show _++m7 (dY true none t)=_;rw[nR t];rfl
 |.test op l r,a,acc=>by unfold dY;rw[xG]
 |.truth b,a,acc=>by unfold dY;rw[xG]
theorem SZ (t:Tree):m7 t.flat=m7 t:=nR t true none
theorem Q8 (I V:List Itm) (t:Tree):rK I V t.flat=rK I V t:=by
 unfold rK;rw[N0,SZ]
theorem a0T [MaxL] (i:Itm) (t:Term):SC Tryz.prog 262 [i.gv,.ptr 0 0] [.box 242 t.cs] (.val (.b (i.name==t.name))) [.box 242 t.cs]:=by
 obtain⟨name,k,lo,hi,len⟩:=i;obtain⟨nm,vr,v⟩:=t;refine cZ Tryz.func262 rfl ?_;conv=>whnf
 exact rX rfl rfl (fun _=>rfl)
theorem sD [MaxL] (t:Term):HS [.box 242 t.cs]:=fun e _=>rfl
theorem a2B [MaxL] (l:List Itm) (hl:l.length<bH) (t:Term):SC Tryz.prog 179 [.sl .none (fU l),.fn (.func 262) [] [.ptr 0 0]] [.box 242 t.cs] (.val (.i .i64 (tT l t.name))) [.box 242 t.cs]:=by
 have hlen:=mH l;unfold bH at hl;refine cZ Tryz.func179 rfl ?_;conv=>whnf
 refine fI (fun i:Nat=>i<=l.length/\∀z∈l.take i,z.name≠t.name) (fun i=>[(0,.sl .none (fU l)),(1,.fn (.func 262) [] [.ptr 0 0]),(7,.i .i64 (fU l).length),(8,.i .i64 (i:Nat))]) (fun _=>⟨[.box 242 t.cs],0,[]⟩) (fun i=>l.length - i) 0 ⟨zL _,fun z h=>by simp at h⟩ ⟨rfl,rfl,rfl,rfl,trivial⟩ rfl (fun _ _=>rL _) (fun _ _=>rfl) (fun i _ e he=>?_) (fun i φ0 hi=>?_)
 ·refine⟨rfl,rfl,?_⟩;show[(GV.sl .none (fU l)).ren e,GV.fn _ [] [.ptr (e 0) 0],_,_]=_;rw[bV (d8 l) e,he 0 (by simp)];rfl
 obtain⟨hi,hne⟩:=hi;conv=>whnf
 refine aF (fun h=>?_) (fun h=>?_)<;>conv=>whnf
 rotate_left
 ·have hie:i=l.length:=by have:=aB h;rw[hlen] at this;omega
  rw[hie,b7] at hne;rw[PG hne];exact gC rfl (.refl _) (fun _=>rfl) (.i _ _)
 have hlt:i<l.length:=by have:=aA h;rw[hlen] at this;omega
 obtain⟨y,hy⟩:∃y,l[i]?=some y:=⟨l[i],gL hlt⟩;have hk:=a0T y t;refine⟨cN _,_,by rw[aC];exact nJ hy,rfl,?_⟩;conv=>whnf
 refine jP (rest:=[]) hk rfl rfl rfl rfl (sD t) (sD t) rfl (fun e he=>by show[(y.gv).ren e,GV.ptr (e 0) 0]=_;rw[y.cl e,he 0 (by simp)]) (fun _ _=>rfl) (wR _) ?_;conv=>whnf
 refine aF (fun heq=>?_) (fun heq=>?_)<;>conv=>whnf
 ·have e:y.name=t.name:=by simpa using heq
  rw[E2 hy e hne];exact gC rfl (.refl _) (fun _=>rfl) (.i _ _)
 ·have e:y.name≠t.name:=by simpa using heq
  exact⟨l.length - (i+1),(by show _<l.length - i;omega),i+1,⟨hlt,uL hne hy e⟩,rfl,⟨rfl,rfl,rfl,b8 (by omega),trivial⟩,[],rfl,rfl⟩
theorem AB (l:List Itm) (s:By):(tT l s= -1/\l.find? (fun i=>i.name==s)=none)∨∃(j:Nat) (y:Itm),tT l s=(j:Nat)/\l[j]?=some y/\l.find? (fun i=>i.name==s)=some y:=by
 rcases IL l s with⟨h1,h2⟩|⟨j,y,h1,h2,h3,h4⟩
 ·exact .inl ⟨h1,List.find?_eq_none.2 (fun x hx=>by simpa using h2 x hx)⟩
 ·refine .inr ⟨j,y,h1,h2,?_⟩;have hlt:=(List.getElem?_eq_some_iff.1 h2).1;have e:l=l.take j++y::l.drop (j+1):=by
   have:l.drop j=y::l.drop (j+1):=by
    rw[aX hlt,(List.getElem?_eq_some_iff.1 h2).2]
   rw[<-this,iM]
  rw[e,List.find?_append,List.find?_eq_none.2 (fun x hx=>by simpa using h4 x hx)];simp[h3]
def oM (I V:List Itm) (t:Term):Int:=if t.name=[] then 0 else match(if t.var then V else I).find? (fun i=>i.name==t.name) with
 |some _=>0
 |none=>5
theorem LE [MaxL] (I V:List Itm) (hI:I.length<bH) (hV:V.length<bH) (t:Term):SC Tryz.prog 223 [t.gv,.sl .none (fU I),.sl .none (fU V)] [] (.val (.tup [.i .i64 (iY I V t),.i .i64 (oM I V t)])) []:=by
 have key:∀(l:List Itm),l.length<bH->SC Tryz.prog 179 [.sl .none (fU l),.fn (.func 262) [] [.ptr 0 0]] [.box 242 t.cs] (.val (.i .i64 (tT l t.name))) [.box 242 t.cs]:=fun l hl=>a2B l hl t;obtain⟨nm,vr,v⟩:=t;by_cases hn:nm=[]
 ·subst hn;have e1:iY I V ⟨[],vr,v⟩=v.k:=rfl;have e2:oM I V ⟨[],vr,v⟩=0:=rfl;rw[e1,e2];refine cZ Tryz.func223 rfl ?_;conv=>whnf
  exact bA (.refl _) (fun _=>rfl)
 ·have e1:iY I V ⟨nm,vr,v⟩=match(if vr then V else I).find? (fun i=>i.name==nm) with|some i=>i.k|none=>0:=aE hn
  have e2:oM I V ⟨nm,vr,v⟩=match(if vr then V else I).find? (fun i=>i.name==nm) with|some _=>0|none=>5:=aE hn
  rw[e1,e2];cases vr with
  |true=>
   have hk:=key V hV;simp only[fP];have hc:=AB V nm;replace hk:SC Tryz.prog 179 [.sl .none (fU V),.fn (.func 262) [] [.ptr 0 0]] [.box 242 (Term.cs ⟨nm,true,v⟩)] (.val (.i .i64 (tT V nm))) [.box 242 (Term.cs ⟨nm,true,v⟩)]:=hk;rcases hc with⟨h1,h2⟩|⟨j,y,h1,h2,h3⟩
   ·rw[h1] at hk;rw[h2];refine cZ Tryz.func223 rfl ?_;(conv=>whnf);refine aF (fun h0=>?_) (fun h0=>?_)<;>conv=>whnf
    ·exact absurd (by simpa using h0) hn
    refine jP (rest:=[]) hk rfl rfl rfl rfl (sD ⟨nm,true,v⟩) (sD ⟨nm,true,v⟩) rfl (fun e he=>by show[(GV.sl .none (fU V)).ren e,GV.fn _ [] [.ptr (e 0) 0]]=_;rw[bV (d8 V) e,he 0 (by simp)]) (fun _ _=>rfl) (wR _) ?_;(conv=>whnf);exact bA (.refl _) (fun _=>rfl)
   ·rw[h1] at hk;rw[h3];refine cZ Tryz.func223 rfl ?_;(conv=>whnf);refine aF (fun h0=>?_) (fun h0=>?_)<;>conv=>whnf
    ·exact absurd (by simpa using h0) hn
    refine jP (rest:=[]) hk rfl rfl rfl rfl (sD ⟨nm,true,v⟩) (sD ⟨nm,true,v⟩) rfl (fun e he=>by show[(GV.sl .none (fU V)).ren e,GV.fn _ [] [.ptr (e 0) 0]]=_;rw[bV (d8 V) e,he 0 (by simp)]) (fun _ _=>rfl) (wR _) ?_;(conv=>whnf);refine⟨cN _,_,by rw[aC];exact nJ h2,rfl,?_⟩;(conv=>whnf);exact bA (.refl _) (fun _=>rfl)
  |false=>
   have hk:=key I hI;simp only[bT,fR];have hc:=AB I nm;replace hk:SC Tryz.prog 179 [.sl .none (fU I),.fn (.func 262) [] [.ptr 0 0]] [.box 242 (Term.cs ⟨nm,false,v⟩)] (.val (.i .i64 (tT I nm))) [.box 242 (Term.cs ⟨nm,false,v⟩)]:=hk;rcases hc with⟨h1,h2⟩|⟨j,y,h1,h2,h3⟩
   ·rw[h1] at hk;rw[h2];refine cZ Tryz.func223 rfl ?_;(conv=>whnf);refine aF (fun h0=>?_) (fun h0=>?_)<;>conv=>whnf
    ·exact absurd (by simpa using h0) hn
    refine jP (rest:=[]) hk rfl rfl rfl rfl (sD ⟨nm,false,v⟩) (sD ⟨nm,false,v⟩) rfl (fun e he=>by show[(GV.sl .none (fU I)).ren e,GV.fn _ [] [.ptr (e 0) 0]]=_;rw[bV (d8 I) e,he 0 (by simp)]) (fun _ _=>rfl) (wR _) ?_;(conv=>whnf);exact bA (.refl _) (fun _=>rfl)
   ·rw[h1] at hk;rw[h3];refine cZ Tryz.func223 rfl ?_;(conv=>whnf);refine aF (fun h0=>?_) (fun h0=>?_)<;>conv=>whnf
    ·exact absurd (by simpa using h0) hn
    refine jP (rest:=[]) hk rfl rfl rfl rfl (sD ⟨nm,false,v⟩) (sD ⟨nm,false,v⟩) rfl (fun e he=>by show[(GV.sl .none (fU I)).ren e,GV.fn _ [] [.ptr (e 0) 0]]=_;rw[bV (d8 I) e,he 0 (by simp)]) (fun _ _=>rfl) (wR _) ?_;(conv=>whnf);refine⟨cN _,_,by rw[aC];exact nJ h2,rfl,?_⟩;(conv=>whnf);exact bA (.refl _) (fun _=>rfl)
def eH (I V:List Itm) (e:Int):List GObj:=[.box 32 [.sl .none (fU I)],.box 32 [.sl .none (fU V)],.box 29 [.i .i64 e]]
def zJ (I V:List Itm) (e:Int) (t:Term):Int:=if e=0 then oM I V t else e
theorem gJ [MaxL] (I V:List Itm) (e:Int):HS (eH I V e):=fun f hf=>by
 show[(GObj.box _ [.sl .none (fU I)]).ren f,(GObj.box _ [.sl .none (fU V)]).ren f,_]=_;rw[eM (cC (bV (d8 I)) .nil),eM (cC (bV (d8 V)) .nil)];rfl
theorem s8 [MaxL] (I V:List Itm) (e:Int) {T:TypeId} {cs:List GV} (hc:ClL cs):HS (eH I V e++[GObj.box T cs]):=fun f hf=>by
 show[(GObj.box _ [.sl .none (fU I)]).ren f,(GObj.box _ [.sl .none (fU V)]).ren f,_,(GObj.box T cs).ren f]=_;rw[eM (cC (bV (d8 I)) .nil),eM (cC (bV (d8 V)) .nil),eM hc];rfl
theorem fS [MaxL] (I V:List Itm) (e:Int):(eH I V e).all GObj.notHeld=true:=rfl
theorem oR [MaxL] (I V:List Itm) (e:Int) {T:TypeId} {cs:List GV}:(eH I V e++[GObj.box T cs]).all GObj.notHeld=true:=rfl
theorem a2D [MaxL] (I V:List Itm) (hI:I.length<bH) (hV:V.length<bH) (e:Int) (op:By) (a b:Term):SC Tryz.prog 222 [.ptr 3 1,.ptr 0 0,.ptr 1 0,.ptr 2 0] (eH I V e++[.box 244 (Tree.test op a b).cs]) (.val (.tup [])) (eH I V (zJ I V e a)++[.box 244 (Tree.test op a b).cs]):=by
 have hk:=LE I V hI hV a;unfold zJ;generalize iY I V a=kr at*;generalize oM I V a=ke at*;refine cH oY mixed Tryz.func222 rfl (bL rfl) (by simp[eH]) (oR _ _ _) ?_;conv=>whnf
 refine b9 (by kernel_rfl) ?_;conv=>whnf
 refine bG hk (wR _) rfl (cC a.cl (cC (bV (d8 I)) (cC (bV (d8 V)) .nil))) (fun _=>rfl) ?_;conv=>whnf
 refine aF (fun h=>?_) (fun h=>?_)<;>conv=>whnf
 ·have h9:e=0:=by simpa using h
  rw[aG h9];refine⟨_,⟨rfl,zL _,rfl,bL rfl⟩,?_⟩;conv=>whnf
  exact k7 (rest:=[]) rfl (by simp[eH]) (s8 I V ke (Tree.cs_cl _)) (oR _ _ _) (fun _ _=>rfl) (cY _)
 ·have h9:¬e=0:=by simpa using h
  rw[aE h9];exact k7 (rest:=[]) rfl (by simp[eH]) (s8 I V e (Tree.cs_cl _)) (oR _ _ _) (fun _ _=>rfl) (cY _)
theorem a2C [MaxL] (I V:List Itm) (hI:I.length<bH) (hV:V.length<bH) (e:Int) (op:By) (a b:Term):SC Tryz.prog 222 [.ptr 3 6,.ptr 0 0,.ptr 1 0,.ptr 2 0] (eH I V e++[.box 244 (Tree.test op a b).cs]) (.val (.tup [])) (eH I V (zJ I V e b)++[.box 244 (Tree.test op a b).cs]):=by
 have hk:=LE I V hI hV b;unfold zJ;generalize iY I V b=kr at*;generalize oM I V b=ke at*;refine cH oY mixed Tryz.func222 rfl (bL rfl) (by simp[eH]) (oR _ _ _) ?_;conv=>whnf
 refine b9 (by kernel_rfl) ?_;conv=>whnf
 refine bG hk (wR _) rfl (cC b.cl (cC (bV (d8 I)) (cC (bV (d8 V)) .nil))) (fun _=>rfl) ?_;conv=>whnf
 refine aF (fun h=>?_) (fun h=>?_)<;>conv=>whnf
 ·have h9:e=0:=by simpa using h
  rw[aG h9];refine⟨_,⟨rfl,zL _,rfl,bL rfl⟩,?_⟩;conv=>whnf
  exact k7 (rest:=[]) rfl (by simp[eH]) (s8 I V ke (Tree.cs_cl _)) (oR _ _ _) (fun _ _=>rfl) (cY _)
 ·have h9:¬e=0:=by simpa using h
  rw[aE h9];exact k7 (rest:=[]) rfl (by simp[eH]) (s8 I V e (Tree.cs_cl _)) (oR _ _ _) (fun _ _=>rfl) (cY _)
def DJ (I V:List Itm) (e:Int) (p:Term×Term):Int:=if iY I V p.1 !=iY I V p.2 then 10 else e
theorem a2x [MaxL] (I V:List Itm) (hI:I.length<bH) (hV:V.length<bH) (e:Int) (op:By) (a b:Term):SC Tryz.prog 225 [.agg (Tree.test op a b).cs,.ptr 0 0,.ptr 1 0,.ptr 2 0] (eH I V e) (.val (.tup [])) (eH I V (DJ I V e (a,b))):=by
 have hka:=LE I V hI hV a;have hkb:=LE I V hI hV b;unfold DJ;simp only;generalize iY I V a=ka at*;generalize oM I V a=ea at*;generalize iY I V b=kb at*;generalize oM I V b=eb at*;refine cH oY mixed Tryz.func225 rfl (bL rfl) (by simp[eH]) (fS _ _ _) ?_;conv=>whnf
 refine bG hka (wR _) rfl (cC a.cl (cC (bV (d8 I)) (cC (bV (d8 V)) .nil))) (fun _=>rfl) ?_;conv=>whnf
 refine bG hkb (wR _) rfl (cC b.cl (cC (bV (d8 I)) (cC (bV (d8 V)) .nil))) (fun _=>rfl) ?_;conv=>whnf
 refine aF (fun h=>?_) (fun h=>?_)<;>conv=>whnf
 ·rw[aG h];refine⟨_,⟨rfl,zL _,rfl,bL rfl⟩,?_⟩;conv=>whnf
  exact k7 (rest:=[_]) rfl (by simp[eH]) (gJ I V 10) (fS _ _ _) (fun _ _=>rfl) (cY _)
 ·rw[aE (by rw[h];decide)];exact k7 (rest:=[_]) rfl (by simp[eH]) (gJ I V e) (fS _ _ _) (fun _ _=>rfl) (cY _)
def cF (k:FuncId):GV:=.fn (.func k) [] [.ptr 0 0,.ptr 1 0,.ptr 2 0]
theorem a2G [MaxL] (k:FuncId) {e:Nat->Nat} (h0:e 0=0) (h1:e 1=1) (h2:e 2=2):(cF k).ren e=cF k:=by
 show GV.fn _ [] [.ptr (e 0) 0,.ptr (e 1) 0,.ptr (e 2) 0]=_;rw[h0,h1,h2];rfl
theorem kP [MaxL] (k:FuncId) {I V:List Itm} {x:Int} {t:Tree} (e:Nat->Nat) (he:∀i,i<(eH I V x).length->e i=i):[t.gv,cF k].map (GV.ren e)=[t.gv,cF k]:=by
 show[t.gv.ren e,(cF k).ren e]=_;rw[t.cl e,a2G k (he 0 (by simp[eH])) (he 1 (by simp[eH])) (he 2 (by simp[eH]))]
theorem AO [MaxL] (I V:List Itm) (hI:I.length<bH) (hV:V.length<bH):∀(t:Tree) (x:Int),SC Tryz.prog 221 [t.gv,cF 222] (eH I V x) (.val (.tup [])) (eH I V ((dD t).foldl (zJ I V) x))
 |.pair a l r,x=>by
  have s1:=AO I V hI hV l x;have s2:=AO I V hI hV r ((dD l).foldl (zJ I V) x);rw[show(dD (Tree.pair a l r)).foldl (zJ I V) x=(dD r).foldl (zJ I V) ((dD l).foldl (zJ I V) x) by simp[dD,List.foldl_append]];refine cH oY mixed Tryz.func221 rfl (bL rfl) (by simp[eH]) (fS _ _ _) ?_;conv=>whnf
  refine⟨_,⟨rfl,zL _,rfl,bL rfl⟩,?_⟩;conv=>whnf
  refine jP (rest:=[.box 280 (Tree.pair a l r).cs]) s1 rfl (by simp[eH]) rfl rfl (gJ _ _ _) (gJ _ _ _) (fS _ _ _) (kP _) (fun _ _=>rfl) (wR _) ?_;conv=>whnf
  refine jP (rest:=[.box 280 (Tree.pair a l r).cs]) s2 rfl (by simp[eH]) rfl rfl (gJ _ _ _) (gJ _ _ _) (fS _ _ _) (kP _) (fun _ _=>rfl) (wR _) ?_;conv=>whnf
  exact k7 (rest:=[_]) rfl (by simp[eH]) (gJ _ _ _) (fS _ _ _) (fun _ _=>rfl) (cY _)
 |.no t,x=>by
  have s1:=AO I V hI hV t x;refine cH oY mixed Tryz.func221 rfl (bL rfl) (by simp[eH]) (fS _ _ _) ?_;conv=>whnf
  refine⟨_,⟨rfl,zL _,rfl,bL rfl⟩,?_⟩;conv=>whnf
  refine jP (rest:=[.box 278 (Tree.no t).cs]) s1 rfl (by simp[eH]) rfl rfl (gJ _ _ _) (gJ _ _ _) (fS _ _ _) (kP _) (fun _ _=>rfl) (wR _) ?_;conv=>whnf
  exact k7 (rest:=[_]) rfl (by simp[eH]) (gJ _ _ _) (fS _ _ _) (fun _ _=>rfl) (cY _)
 |.test op a b,x=>by
  have s1:=a2D I V hI hV x op a b;have s2:=a2C I V hI hV (zJ I V x a) op a b;have hcs:=(Tree.test op a b).cs_cl;refine cH oY mixed Tryz.func221 rfl (bL rfl) (by simp[eH]) (fS _ _ _) ?_;conv=>whnf
  refine⟨_,⟨rfl,zL _,rfl,bL rfl⟩,?_⟩;conv=>whnf
  refine jP (rest:=[]) s1 rfl (by simp[eH]) rfl rfl (s8 _ _ _ hcs) (s8 _ _ _ hcs) (oR _ _ _) (fun e he=>by show[GV.ptr (e 3) 1,.ptr (e 0) 0,.ptr (e 1) 0,.ptr (e 2) 0]=_;rw[he 3 (by simp[eH]),he 0 (by simp[eH]),he 1 (by simp[eH]),he 2 (by simp[eH])]) (fun _ _=>rfl) (wR _) ?_;conv=>whnf
  refine jP (rest:=[]) s2 rfl (by simp[eH]) rfl rfl (s8 _ _ _ hcs) (s8 _ _ _ hcs) (oR _ _ _) (fun e he=>by show[GV.ptr (e 3) 6,.ptr (e 0) 0,.ptr (e 1) 0,.ptr (e 2) 0]=_;rw[he 3 (by simp[eH]),he 0 (by simp[eH]),he 1 (by simp[eH]),he 2 (by simp[eH])]) (fun _ _=>rfl) (wR _) ?_;conv=>whnf
  exact k7 (rest:=[_]) rfl (by simp[eH]) (gJ _ _ _) (fS _ _ _) (fun _ _=>rfl) (cY _)
 |.truth b,x=>by
  refine cH oY mixed Tryz.func221 rfl (bL rfl) (by simp[eH]) (fS _ _ _) ?_;conv=>whnf
  exact k7 (rest:=[]) rfl (by simp[eH]) (gJ _ _ _) (fS _ _ _) (fun _ _=>rfl) (cY _)
theorem AN [MaxL] (I V:List Itm) (hI:I.length<bH) (hV:V.length<bH):∀(t:Tree) (x:Int),SC Tryz.prog 224 [t.gv,cF 225] (eH I V x) (.val (.tup [])) (eH I V ((m7 t).foldl (DJ I V) x))
 |.pair a l r,x=>by
  have s1:=AN I V hI hV l x;have s2:=AN I V hI hV r ((m7 l).foldl (DJ I V) x);rw[show(m7 (Tree.pair a l r)).foldl (DJ I V) x=(m7 r).foldl (DJ I V) ((m7 l).foldl (DJ I V) x) by simp[m7,List.foldl_append]];refine cH oY mixed Tryz.func224 rfl (bL rfl) (by simp[eH]) (fS _ _ _) ?_;conv=>whnf
  refine⟨_,⟨rfl,zL _,rfl,bL rfl⟩,?_⟩;conv=>whnf
  refine jP (rest:=[.box 280 (Tree.pair a l r).cs]) s1 rfl (by simp[eH]) rfl rfl (gJ _ _ _) (gJ _ _ _) (fS _ _ _) (kP _) (fun _ _=>rfl) (wR _) ?_;conv=>whnf
  refine jP (rest:=[.box 280 (Tree.pair a l r).cs]) s2 rfl (by simp[eH]) rfl rfl (gJ _ _ _) (gJ _ _ _) (fS _ _ _) (kP _) (fun _ _=>rfl) (wR _) ?_;conv=>whnf
  exact k7 (rest:=[_]) rfl (by simp[eH]) (gJ _ _ _) (fS _ _ _) (fun _ _=>rfl) (cY _)
 |.no t,x=>by
  have s1:=AN I V hI hV t x;refine cH oY mixed Tryz.func224 rfl (bL rfl) (by simp[eH]) (fS _ _ _) ?_;conv=>whnf
  refine⟨_,⟨rfl,zL _,rfl,bL rfl⟩,?_⟩;conv=>whnf
  refine jP (rest:=[.box 278 (Tree.no t).cs]) s1 rfl (by simp[eH]) rfl rfl (gJ _ _ _) (gJ _ _ _) (fS _ _ _) (kP _) (fun _ _=>rfl) (wR _) ?_;conv=>whnf
  exact k7 (rest:=[_]) rfl (by simp[eH]) (gJ _ _ _) (fS _ _ _) (fun _ _=>rfl) (cY _)
 |.test op a b,x=>by
  have s1:=a2x I V hI hV x op a b;have hcs:=(Tree.test op a b).cs_cl;refine cH oY mixed Tryz.func224 rfl (bL rfl) (by simp[eH]) (fS _ _ _) ?_;conv=>whnf
  refine⟨_,⟨rfl,zL _,rfl,bL rfl⟩,?_⟩;conv=>whnf
  refine jP (rest:=[.box 244 (Tree.test op a b).cs]) s1 rfl (by simp[eH]) rfl rfl (gJ _ _ _) (gJ _ _ _) (fS _ _ _) (fun e he=>by show[(GV.agg (Tree.test op a b).cs).ren e,GV.ptr (e 0) 0,.ptr (e 1) 0,.ptr (e 2) 0]=_;rw[eO hcs e,he 0 (by simp[eH]),he 1 (by simp[eH]),he 2 (by simp[eH])]) (fun _ _=>rfl) (wR _) ?_;conv=>whnf
  exact k7 (rest:=[_]) rfl (by simp[eH]) (gJ _ _ _) (fS _ _ _) (fun _ _=>rfl) (cY _)
 |.truth b,x=>by
  refine cH oY mixed Tryz.func224 rfl (bL rfl) (by simp[eH]) (fS _ _ _) ?_;conv=>whnf
  exact k7 (rest:=[]) rfl (by simp[eH]) (gJ _ _ _) (fS _ _ _) (fun _ _=>rfl) (cY _)
theorem a0v (I V:List Itm):∀(ts:List Term) (x:Int),x=0∨x=5->ts.foldl (zJ I V) x=if x=5∨ts.any (fun t=>oM I V t==5) then 5 else 0
 |[],x,h=>by rcases h with rfl|rfl<;>rfl
 |t::ts,x,h=>by
  have hk:oM I V t=0∨oM I V t=5:=by
   unfold oM;split
   ·exact .inl rfl
   ·split
    ·exact .inl rfl
    ·exact .inr rfl
  rw[hZ,List.any_cons];have hx:zJ I V x t=0∨zJ I V x t=5:=by
   unfold zJ;split
   ·exact hk
   ·exact h
  rw[a0v I V ts _ hx];unfold zJ;rcases h with rfl|rfl
  ·rcases hk with hk|hk<;>simp[hk]
  ·simp
theorem a0w (I V:List Itm):∀(ts:List (Term×Term)) (x:Int),x=0∨x=10->ts.foldl (DJ I V) x=if x=10∨ts.any (fun p=>iY I V p.1 !=iY I V p.2) then 10 else 0
 |[],x,h=>by rcases h with rfl|rfl<;>rfl
 |t::ts,x,h=>by
  rw[hZ,List.any_cons];have hx:DJ I V x t=0∨DJ I V x t=10:=by
   unfold DJ;split
   ·exact .inr rfl
   ·exact h
  rw[a0w I V ts _ hx];unfold DJ;cases hb:(iY I V t.1 !=iY I V t.2) with
  |true=>simp
  |false=>
   simp only[bT,fR,Bool.false_or]
theorem U0 {I V:List Itm} (hI:i7 I=true) (hV:i7 V=true) {t:Term} (ht:t.good):(iY I V t==0)=(oM I V t==5):=by
 have okk:∀{l:List Itm},i7 l=true->∀y∈l,y.k≠0:=fun h y hy=>by
  unfold i7 at h;simp only[aH,aS] at h;have:=h.1.1 y hy;simp only[Itm.ok,aH,eY,aL] at this;rcases this.2 with h|h<;>omega
 unfold iY oM;by_cases hn:t.name=[]
 ·rw[aG hn,aG hn];have hv:t.v.ok=true:=by
   rcases ht with⟨h1,_⟩|⟨_,_,h3⟩
   ·exact absurd hn h1
   ·exact h3
  rcases ZU hv with h|h<;>rw[h]<;>rfl
 ·rw[aE hn,aE hn];cases hf:(if t.var then V else I).find? (fun i=>i.name==t.name) with
  |none=>rfl
  |some y=>
   have hm:=List.mem_of_find?_eq_some hf;have:y.k≠0:=by
    cases hv:t.var with
    |true=>rw[hv] at hm;exact okk hV y hm
    |false=>rw[hv] at hm;exact okk hI y hm
   simp[this]
theorem xM:∀{t:Tree},t.good->∀x∈dD t,x.good
 |.pair _ l r,h,x,hx=>by
  simp only[dD,List.mem_append] at hx;rcases hx with hx|hx
  ·exact xM h.1 x hx
  ·exact xM h.2 x hx
 |.no t,h,x,hx=>xM (t:=t) h x hx
 |.test _ a b,h,x,hx=>by
  simp[dD] at hx;rcases hx with rfl|rfl
  ·exact h.2.1
  ·exact h.2.2
 |.truth _,h,x,hx=>by simp[dD] at hx
theorem O9 {I V:List Itm} (hI:i7 I=true) (hV:i7 V=true):∀{ts:List Term},(∀x∈ts,x.good)->ts.any (fun x=>iY I V x==0)=ts.any (fun t=>oM I V t==5)
 |[],_=>rfl
 |t::ts,h=>by
  rw[List.any_cons,List.any_cons,U0 hI hV (h t (by simp)),O9 hI hV (fun x hx=>h x (by simp[hx]))]
def LB (I V:List Itm) (t:Tree):Int:=if(dD t).any (fun x=>oM I V x==5) then 5 else if(m7 t).any (fun p=>iY I V p.1 !=iY I V p.2) then 10 else 0
theorem UG {I V:List Itm} (hI:i7 I=true) (hV:i7 V=true) {t:Tree} (h:t.good):LB I V t=rK I V t:=by
 unfold LB rK;rw[O9 hI hV (xM h)]
theorem a0X [MaxL] (I V:List Itm) (hI:I.length<bH) (hV:V.length<bH) (t:Tree):SC Tryz.prog 185 [t.gv,.sl .none (fU I),.sl .none (fU V)] [] (.val (.i .i64 (LB I V t))) []:=by
 have s1:=AO I V hI hV t 0;have s2:=AN I V hI hV t 0;rw[a0v I V _ 0 (.inl rfl)] at s1;rw[a0w I V _ 0 (.inl rfl)] at s2;unfold LB;generalize(dD t).any (fun x=>oM I V x==5)=b1 at*;generalize(m7 t).any (fun p=>iY I V p.1 !=iY I V p.2)=b2 at*;cases b1 with
 |true=>
  replace s1:SC Tryz.prog 221 [t.gv,cF 222] (eH I V 0) (.val (.tup [])) (eH I V 5):=s1;refine cZ Tryz.func185 rfl ?_;conv=>whnf
  refine⟨_,⟨rfl,zL _,rfl,bL rfl⟩,?_⟩;conv=>whnf
  refine jP (rest:=[]) s1 rfl (by simp[eH]) rfl rfl (gJ _ _ _) (gJ _ _ _) (fS _ _ _) (kP _) (fun _ _=>rfl) (wR _) ?_;conv=>whnf
  exact bI rfl
 |false=>
  replace s1:SC Tryz.prog 221 [t.gv,cF 222] (eH I V 0) (.val (.tup [])) (eH I V 0):=s1;cases b2 with
  |true=>
   replace s2:SC Tryz.prog 224 [t.gv,cF 225] (eH I V 0) (.val (.tup [])) (eH I V 10):=s2;refine cZ Tryz.func185 rfl ?_;(conv=>whnf);refine⟨_,⟨rfl,zL _,rfl,bL rfl⟩,?_⟩;(conv=>whnf);refine jP (rest:=[]) s1 rfl (by simp[eH]) rfl rfl (gJ _ _ _) (gJ _ _ _) (fS _ _ _) (kP _) (fun _ _=>rfl) (wR _) ?_;(conv=>whnf);refine jP (rest:=[]) s2 rfl (by simp[eH]) rfl rfl (gJ _ _ _) (gJ _ _ _) (fS _ _ _) (kP _) (fun _ _=>rfl) (wR _) ?_;(conv=>whnf);exact bI rfl
  |false=>
   replace s2:SC Tryz.prog 224 [t.gv,cF 225] (eH I V 0) (.val (.tup [])) (eH I V 0):=s2;refine cZ Tryz.func185 rfl ?_;(conv=>whnf);refine⟨_,⟨rfl,zL _,rfl,bL rfl⟩,?_⟩;(conv=>whnf);refine jP (rest:=[]) s1 rfl (by simp[eH]) rfl rfl (gJ _ _ _) (gJ _ _ _) (fS _ _ _) (kP _) (fun _ _=>rfl) (wR _) ?_;(conv=>whnf);refine jP (rest:=[]) s2 rfl (by simp[eH]) rfl rfl (gJ _ _ _) (gJ _ _ _) (fS _ _ _) (kP _) (fun _ _=>rfl) (wR _) ?_;(conv=>whnf);exact bI rfl
def XD:List Itm->List Val->Bool
 |i::l,v::r=>v.ok&&decide (v.k=i.k)&&XD l r
 |_,_=>true
def lkp (l:List Itm) (r:List Val) (s:By):Val:=r.getD (tT l s).toNat v0
def a3C (I V:List Itm) (R W:List Val) (t:Term):Val:=if t.name=[] then t.v else if t.var then lkp V W t.name else lkp I R t.name
