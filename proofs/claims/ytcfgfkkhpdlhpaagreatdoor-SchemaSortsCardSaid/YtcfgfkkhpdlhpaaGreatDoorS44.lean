/-
  A part of the proof of SchemaSorts.
-/
import Derived.Test.YtcfgfkkhpdlhpaaGreatDoorS43
set_option linter.all false
set_option maxRecDepth 100000
namespace Go.Proofs.YtcfgfkkhpdlhpaaGreatDoor
open Go.RowKit
def dD:Tree->List Term
 |.pair _ l r=>dD l++dD r
 |.no t=>dD t
 |.test _ a b=>[a,b]
 |.truth _=>[]
theorem pU (a:Bool):∀t:Tree,(t.sides a).flatMap dD=dD t
 |.pair b l r=>by
  unfold Tree.sides;split
  ·rw[List.flatMap_append,pU a l,pU a r];rfl
  ·simp
 |.no t=>by simp[Tree.sides]
 |.test _ _ _=>by simp[Tree.sides]
 |.truth _=>by simp[Tree.sides]
theorem oL:∀t:Tree,(dD t).length<=2*t.size
 |.pair _ l r=>by
  have h1:=oL l;have h2:=oL r;simp only[dD,Tree.size,aG];omega
 |.no t=>by
  have:=oL t;simp only[dD,Tree.size];omega
 |.test _ _ _=>by simp[dD,Tree.size]
 |.truth _=>by simp[dD]
def yE (l:List Term):List GV:=l.map fun t=>.agg (W6 t)
theorem wD [MaxL] (l:List Term):ClL (yE l):=gI (fun t=>eL (BK t)) l
theorem lZ (l:List Term):(yE l).length=l.length:=by simp[yE]
theorem W5 (l:List Term):(yE l).all (fun x=>x.cells.length==5)=true:=by
 rw[aS];intro x hx;obtain⟨t,_,rfl⟩:=List.mem_map.1 hx;rfl
theorem MA (l:List Term):(yE l).all (rY 5)=true:=by
 rw[aS];intro x hx;obtain⟨t,_,rfl⟩:=List.mem_map.1 hx;rfl
theorem RF (a b:List Term):yE (a++b)=yE a++yE b:=by unfold yE;rw[cX]
theorem TV [MaxL] (op:By) (l r:Term):SC Tryz.prog 232 [.agg (jY 4 [] l r op false)] [] (.val (.sl .none (yE [l,r]))) []:=by
 refine cY Tryz.func232 rfl ?_;conv=>whnf
 exact bE (bI _ _) (bT (wD _))
def lvs (L:List Tree) (i:Nat):List Term:=(L.take i).flatMap dD
theorem XK {L:List Tree} {i:Nat} {y:Tree} (h:L[i]?=some y):lvs L (i+1)=lvs L i++dD y:=by
 unfold lvs;rw[bP,h,List.flatMap_append];simp
theorem a1u (L:List Tree) (i:Nat):(lvs L i).length<=(L.flatMap dD).length:=by
 have:L.flatMap dD=lvs L i++(L.drop i).flatMap dD:=by
  unfold lvs;rw[<-List.flatMap_append,e8]
 rw[this,aG];omega
theorem BR [MaxL] (k:Nat) (hk:k≠4) (L:List Tree) (yes:Bool) (hL:L.length<=100000) (hb:(L.flatMap dD).length<=1000000) (hc:∀y∈L,SC Tryz.prog 232 [y.ng] [] (.val (.sl .none (yE (dD y)))) []):
  SC Tryz.prog 232 [.agg (jY k (jX L) t0 t0 [] yes)] [] (.val (.sl .none (yE (L.flatMap dD)))) []:=by
 have hnl:(jX L).length=L.length:=eZ L;refine cY Tryz.func232 rfl ?_;conv=>whnf
 refine aE (fun h4=>?_) (fun h4=>?_)<;>conv=>whnf
 ·exfalso;have h9:(k:Int)=4:=by simpa using h4
  omega
 refine eT (fun q:Nat×List Term=>q.1<=L.length/\lvs L q.1=q.2) (fun q=>[(1,.ptr 0 0),(3,.sl (.own 2) (yE q.2)),(4,.i .i64 (q.1:Nat))])
  (fun q=>⟨[.box 211 (jY k (jX L) t0 t0 [] yes),.own 0 0 0,ow 209 5 q.2.length],0,[]⟩) (fun q=>L.length - q.1) (0,[]) ⟨zL _,rfl⟩ ⟨rfl,rfl,rfl,trivial⟩ rfl (fun _ _=>rL _) (fun q _=>by simp only[iX,oB];rfl) (fun q _ e he=>?_) (fun q φ0 hi=>?_)
 ·refine⟨?_,rfl,?_⟩
  ·show[(GObj.box _ (jY k (jX L) t0 t0 [] yes)).ren e,_,(ow _ 5 _).ren e]=_;rw[z7,eU (jL (rI L) t0 t0 [] yes) e];rfl
  ·show[GV.ptr (e 0) 0,(GV.sl (.own 2) (yE q.2)).ren e,_]=_;rw[pR (he 2 (by simp)) (wD _),he 0 (by simp)];rfl
 obtain⟨i,o⟩:=q;obtain⟨hi,ho⟩:=hi;replace hi:i<=L.length:=hi;replace ho:lvs L i=o:=ho;conv=>whnf
 refine aE (fun h=>?_) (fun h=>?_)<;>conv=>whnf
 rotate_left
 ·have hie:i=L.length:=by have:=aC h;rw[hnl] at this;omega
  have hoe:o=L.flatMap dD:=by rw[<-ho,hie];unfold lvs;rw[b6]
  rw[<-hoe];exact bE (bI _ _) (bT (wD _))
 have hlt:i<L.length:=by have:=aB h;rw[hnl] at this;omega
 obtain⟨y,hy⟩:∃y,L[i]?=some y:=⟨L[i],gL hlt⟩;have hgy:(jX L)[i]?=some y.ng:=by unfold jX;rw[aM,hy];rfl
 have hcy:=hc y (aL hy);have hcl:=y.ng_cl;have hsucc:=XK hy;have hle:=a1u L (i+1);rw[hsucc,ho,aG] at hle;rw[ho] at hsucc;obtain⟨k2,kids,A,B,op,yes2,hng⟩:=iK y;rw[hng] at hgy hcy hcl;refine⟨cN _,.agg (jY k2 kids A B op yes2),by rw[aA];exact hgy,rfl,?_⟩;conv=>whnf
 generalize dD y=ys at*;rcases ys with _|⟨y1,ys⟩
 ·refine bD hcy (wR _) rfl (cC hcl .nil) (bT (wD _)) ?_;conv=>whnf
  rw[gC] at hsucc;exact⟨L.length - (i+1),(by show _<L.length - i;omega),(i+1,o),⟨hlt,hsucc⟩,rfl,⟨rfl,rfl,b7 (by omega),trivial⟩,[],rfl,rfl⟩
 ·refine bD hcy (wR _) rfl (cC hcl .nil) (bT (wD _)) ?_;conv=>whnf
  cases o with
  |nil=>
   refine⟨⟨MA (y1::ys),W5 _,by show(yE ([]:List Term)).length+(yE (y1::ys)).length<=4294967296;rw[lZ,lZ];omega⟩,yE (([]:List Term)++y1::ys),(([]:List Term)++y1::ys).length,⟨RF ([]:List Term) (y1::ys),by show _=(yE ([]:List Term)).length+(yE (y1::ys)).length;rw[lZ,lZ,aG]⟩,?_⟩;(conv=>whnf);refine⟨⟨zL _,by first|rfl|(rw[lZ];rfl)|(rw[lZ];simp),by first|exact .inr ⟨rfl,rfl⟩|exact .inl ⟨rfl,rfl⟩⟩,?_⟩;(conv=>whnf);exact⟨L.length - (i+1),(by show _<L.length - i;omega),(i+1,([]:List Term)++y1::ys),⟨hlt,hsucc⟩,rfl,⟨rfl,rfl,b7 (by omega),trivial⟩,_,rfl,rfl⟩
  |cons z zs=>
   refine⟨⟨MA (y1::ys),W5 _,by show(yE (z::zs)).length+(yE (y1::ys)).length<=4294967296;rw[lZ,lZ];omega⟩,yE ((z::zs)++y1::ys),((z::zs)++y1::ys).length,⟨RF (z::zs) (y1::ys),by show _=(yE (z::zs)).length+(yE (y1::ys)).length;rw[lZ,lZ,aG]⟩,?_⟩;(conv=>whnf);refine⟨⟨zL _,by first|rfl|(rw[lZ];rfl)|(rw[lZ];simp),by first|exact .inr ⟨rfl,rfl⟩|exact .inl ⟨rfl,rfl⟩⟩,?_⟩;(conv=>whnf);exact⟨L.length - (i+1),(by show _<L.length - i;omega),(i+1,(z::zs)++y1::ys),⟨hlt,hsucc⟩,rfl,⟨rfl,rfl,b7 (by omega),trivial⟩,_,rfl,rfl⟩
theorem JX [MaxL]:∀(n:Nat) (t:Tree),t.size<=n->t.size<=5000->SC Tryz.prog 232 [t.ng] [] (.val (.sl .none (yE (dD t)))) []
 |0,t,h,_=>by cases t<;>simp[Tree.size] at h
 |n+1,t,h,h2=>by
  have hz:=oL t;cases t with
  |truth b=>
   have:=BR 5 (by decide) [] b (by simp) (by simp) (fun y hy=>by cases hy);exact this
  |test op l r=>exact TV op l r
  |no t=>
   simp only[Tree.size] at h h2;have:=BR 3 (by decide) [t] false (by simp) (by simp[dD] at hz⊢;simp only[Tree.size] at hz;omega) (fun y hy=>by
    rw[List.mem_singleton.1 hy];exact JX n t (by omega) (by omega))
   have e:[t].flatMap dD=dD (.no t):=by simp[dD]
   rw[e] at this;exact this
  |pair a l r=>
   have hs:=@mT a (Tree.pair a l r);have hk:∀y∈(Tree.pair a l r).sides a,SC Tryz.prog 232 [y.ng] [] (.val (.sl .none (yE (dD y)))) []:=fun y hy=>by
    have:=F2 hy;exact JX n y (by omega) (by omega)
   have:=BR (l8 a) (by cases a<;>decide) ((Tree.pair a l r).sides a) false (by omega) (by rw[pU];omega) hk;rw[pU] at this;rw[show(Tree.pair a l r).ng=.agg (jY (l8 a) (jX ((Tree.pair a l r).sides a)) t0 t0 [] false) by show GV.agg _=_;rw[tV]];exact this
def a3d (l:List By) (x:By):List By:=if x≠[]/\¬x∈l then l++[x] else l
def Z3:Option Tree->List Term
 |none=>[]
 |some x=>dD x
theorem sB (a:Bool) (acc:Option Tree) (t:Tree):dD (rM a acc t)=Z3 acc++dD t:=by cases acc<;>rfl
theorem KH (a:Bool):∀(t:Tree) (acc:Option Tree),dD (dW a acc t)=Z3 acc++dD t:=by
 intro t;induction t generalizing a with
 |pair b l r i1 i2=>
  intro acc;unfold dW;split
  ·rw[i2];show dD (dW a acc l)++dD r=Z3 acc++(dD l++dD r);rw[i1,bG]
  ·rw[sB,i2];show Z3 acc++(dD (dW b none l)++dD r)=Z3 acc++(dD l++dD r);rw[i1];rfl
 |no t i=>
  intro acc;unfold dW;rw[sB];show _++dD (dW true none t)=_;rw[i];rfl
 |test op l r=>intro acc;unfold dW;rw[sB]
 |truth b=>intro acc;unfold dW;rw[sB]
theorem NE (t:Tree):dD t.flat=dD t:=by
 unfold Tree.flat;rw[KH];rfl
def a3P (op:By) (c:Int):Bool:=if op=[61] then c==0 else if op=[60,62] then c !=0 else if op=[60] then decide (c<0) else if op=[60,61] then decide (c<=0) else if op=[62] then decide (c>0) else decide (c>=0)
def kQ (τ:Term->Val):Tree->Bool
 |.pair a l r=>if a then kQ τ l&&kQ τ r else kQ τ l||kQ τ r
 |.no t=>!kQ τ t
 |.test op l r=>a3P op (o7 (τ l) (τ r))
 |.truth b=>b
def YH (a:Bool):Option Bool->Bool->Bool
 |none,x=>x
 |some y,x=>if a then y&&x else y||x
theorem uQ (τ:Term->Val) (a:Bool) (acc:Option Tree) (t:Tree):kQ τ (rM a acc t)=YH a (acc.map (kQ τ)) (kQ τ t):=by cases acc<;>rfl
theorem oF (τ:Term->Val):∀(t:Tree) (a:Bool) (acc:Option Tree),kQ τ (dW a acc t)=YH a (acc.map (kQ τ)) (kQ τ t)
 |.pair b l r,a,acc=>by
  unfold dW;split
  ·rename_i hab;subst hab;rw[oF τ r,eJ,oF τ l];cases acc<;>cases a<;>simp[YH,kQ,Bool.and_assoc,Bool.or_assoc]
  ·rw[uQ,oF τ r,eJ,oF τ l];cases acc<;>cases b<;>simp[YH,kQ]
 |.no t,a,acc=>by
  unfold dW;rw[uQ];show YH a _ (!kQ τ (dW true none t))=_;rw[oF τ t];rfl
 |.test op l r,a,acc=>by unfold dW;rw[uQ]
 |.truth b,a,acc=>by unfold dW;rw[uQ]
theorem CO (τ:Term->Val) (a:Bool):∀t:Tree,kQ τ t=if a then(t.sides a).all (kQ τ) else(t.sides a).any (kQ τ)
 |.pair b l r=>by
  unfold Tree.sides;by_cases hab:a=b
  ·subst hab;rw[aF rfl,List.all_append,List.any_append];have h1:=CO τ a l;have h2:=CO τ a r;cases a<;>simp[kQ,h1,h2]
  ·rw[aD hab];cases a<;>simp
 |.no t=>by cases a<;>simp[Tree.sides]
 |.test _ _ _=>by cases a<;>simp[Tree.sides]
 |.truth _=>by cases a<;>simp[Tree.sides]
def iM (I V:List Itm) (t:Term):Int:=if t.name=[] then t.v.k else match(if t.var then V else I).find? (fun i=>i.name==t.name) with
 |some i=>i.k
 |none=>0
def lY:Tree->List (Term×Term)
 |.pair _ l r=>lY l++lY r
 |.no t=>lY t
 |.test _ a b=>[(a,b)]
 |.truth _=>[]
def rT (I V:List Itm) (t:Tree):Int:=if(dD t).any (fun x=>iM I V x==0) then 5 else if(lY t).any (fun p=>iM I V p.1 !=iM I V p.2) then 10 else 0
theorem oK:∀t:Tree,dD t=(lY t).flatMap fun p=>[p.1,p.2]
 |.pair _ l r=>by simp only[dD,lY,List.flatMap_append];rw[oK l,oK r]
 |.no t=>oK t
 |.test _ _ _=>rfl
 |.truth _=>rfl
def Z2:Option Tree->List (Term×Term)
 |none=>[]
 |some x=>lY x
theorem xL (a:Bool) (acc:Option Tree) (t:Tree):lY (rM a acc t)=Z2 acc++lY t:=by cases acc<;>rfl
theorem nQ:∀(t:Tree) (a:Bool) (acc:Option Tree),lY (dW a acc t)=Z2 acc++lY t
 |.pair b l r,a,acc=>by
  unfold dW;split
  ·rw[nQ r];show lY (dW a acc l)++lY r=Z2 acc++(lY l++lY r);rw[nQ l,bG]
  ·rw[xL,nQ r];show Z2 acc++(lY (dW b none l)++lY r)=Z2 acc++(lY l++lY r);rw[nQ l];rfl
 |.no t,a,acc=>by
  unfold dW;rw[xL];show _++lY (dW true none t)=_;rw[nQ t];rfl
 |.test op l r,a,acc=>by unfold dW;rw[xL]
 |.truth b,a,acc=>by unfold dW;rw[xL]
theorem TE (t:Tree):lY t.flat=lY t:=nQ t true none
theorem QQ (I V:List Itm) (t:Tree):rT I V t.flat=rT I V t:=by
 unfold rT;rw[NE,TE]
theorem a0i [MaxL] (i:Itm) (t:Term):SC Tryz.prog 262 [i.gv,.ptr 0 0] [.box 242 t.cs] (.val (.b (i.name==t.name))) [.box 242 t.cs]:=by
 obtain⟨name,k,lo,hi,len⟩:=i;obtain⟨nm,vr,v⟩:=t;refine cY Tryz.func262 rfl ?_;conv=>whnf
 exact sA rfl rfl (fun _=>rfl)
theorem sM [MaxL] (t:Term):OS [.box 242 t.cs]:=fun e _=>rfl
theorem a2H [MaxL] (l:List Itm) (hl:l.length<bB) (t:Term):SC Tryz.prog 179 [.sl .none (f5 l),.fn (.func 262) [] [.ptr 0 0]] [.box 242 t.cs] (.val (.i .i64 (tY l t.name))) [.box 242 t.cs]:=by
 have hlen:=mG l;unfold bB at hl;refine cY Tryz.func179 rfl ?_;conv=>whnf
 refine eT (fun i:Nat=>i<=l.length/\∀z∈l.take i,z.name≠t.name) (fun i=>[(0,.sl .none (f5 l)),(1,.fn (.func 262) [] [.ptr 0 0]),(7,.i .i64 (f5 l).length),(8,.i .i64 (i:Nat))]) (fun _=>⟨[.box 242 t.cs],0,[]⟩) (fun i=>l.length - i) 0 ⟨zL _,fun z h=>by simp at h⟩ ⟨rfl,rfl,rfl,rfl,trivial⟩ rfl (fun _ _=>rL _) (fun _ _=>rfl) (fun i _ e he=>?_) (fun i φ0 hi=>?_)
 ·refine⟨rfl,rfl,?_⟩;show[(GV.sl .none (f5 l)).ren e,GV.fn _ [] [.ptr (e 0) 0],_,_]=_;rw[bT (cR l) e,he 0 (by simp)];rfl
 obtain⟨hi,hne⟩:=hi;conv=>whnf
 refine aE (fun h=>?_) (fun h=>?_)<;>conv=>whnf
 rotate_left
 ·have hie:i=l.length:=by have:=aC h;rw[hlen] at this;omega
  rw[hie,b6] at hne;rw[PY hne];exact fW rfl (.refl _) (fun _=>rfl) (.i _ _)
 have hlt:i<l.length:=by have:=aB h;rw[hlen] at this;omega
 obtain⟨y,hy⟩:∃y,l[i]?=some y:=⟨l[i],gL hlt⟩;have hk:=a0i y t;refine⟨cN _,_,by rw[aA];exact m6 hy,rfl,?_⟩;conv=>whnf
 refine jO (rest:=[]) hk rfl rfl rfl rfl (sM t) (sM t) rfl (fun e he=>by show[(y.gv).ren e,GV.ptr (e 0) 0]=_;rw[y.cl e,he 0 (by simp)]) (fun _ _=>rfl) (wR _) ?_;conv=>whnf
 refine aE (fun heq=>?_) (fun heq=>?_)<;>conv=>whnf
 ·have e:y.name=t.name:=by simpa using heq
  rw[ED hy e hne];exact fW rfl (.refl _) (fun _=>rfl) (.i _ _)
 ·have e:y.name≠t.name:=by simpa using heq
  exact⟨l.length - (i+1),(by show _<l.length - i;omega),i+1,⟨hlt,uT hne hy e⟩,rfl,⟨rfl,rfl,rfl,b7 (by omega),trivial⟩,[],rfl,rfl⟩
theorem AL (l:List Itm) (s:By):(tY l s= -1/\l.find? (fun i=>i.name==s)=none)∨∃(j:Nat) (y:Itm),tY l s=(j:Nat)/\l[j]?=some y/\l.find? (fun i=>i.name==s)=some y:=by
 rcases IT l s with⟨h1,h2⟩|⟨j,y,h1,h2,h3,h4⟩
 ·exact .inl ⟨h1,List.find?_eq_none.2 (fun x hx=>by simpa using h2 x hx)⟩
 ·refine .inr ⟨j,y,h1,h2,?_⟩;have hlt:=(List.getElem?_eq_some_iff.1 h2).1;have e:l=l.take j++y::l.drop (j+1):=by
   have:l.drop j=y::l.drop (j+1):=by
    rw[aT hlt,(List.getElem?_eq_some_iff.1 h2).2]
   rw[<-this,e8]
  rw[e,List.find?_append,List.find?_eq_none.2 (fun x hx=>by simpa using h4 x hx)];simp[h3]
def oM (I V:List Itm) (t:Term):Int:=if t.name=[] then 0 else match(if t.var then V else I).find? (fun i=>i.name==t.name) with
 |some _=>0
 |none=>5
theorem LL [MaxL] (I V:List Itm) (hI:I.length<bB) (hV:V.length<bB) (t:Term):SC Tryz.prog 223 [t.gv,.sl .none (f5 I),.sl .none (f5 V)] [] (.val (.tup [.i .i64 (iM I V t),.i .i64 (oM I V t)])) []:=by
 have key:∀(l:List Itm),l.length<bB->SC Tryz.prog 179 [.sl .none (f5 l),.fn (.func 262) [] [.ptr 0 0]] [.box 242 t.cs] (.val (.i .i64 (tY l t.name))) [.box 242 t.cs]:=fun l hl=>a2H l hl t;obtain⟨nm,vr,v⟩:=t;by_cases hn:nm=[]
 ·subst hn;have e1:iM I V ⟨[],vr,v⟩=v.k:=rfl;have e2:oM I V ⟨[],vr,v⟩=0:=rfl;rw[e1,e2];refine cY Tryz.func223 rfl ?_;conv=>whnf
  exact bE (.refl _) (fun _=>rfl)
 ·have e1:iM I V ⟨nm,vr,v⟩=match(if vr then V else I).find? (fun i=>i.name==nm) with|some i=>i.k|none=>0:=aD hn
  have e2:oM I V ⟨nm,vr,v⟩=match(if vr then V else I).find? (fun i=>i.name==nm) with|some _=>0|none=>5:=aD hn
  rw[e1,e2];cases vr with
  |true=>
   have hk:=key V hV;simp only[fK];have hc:=AL V nm;replace hk:SC Tryz.prog 179 [.sl .none (f5 V),.fn (.func 262) [] [.ptr 0 0]] [.box 242 (Term.cs ⟨nm,true,v⟩)] (.val (.i .i64 (tY V nm))) [.box 242 (Term.cs ⟨nm,true,v⟩)]:=hk;rcases hc with⟨h1,h2⟩|⟨j,y,h1,h2,h3⟩
   ·rw[h1] at hk;rw[h2];refine cY Tryz.func223 rfl ?_;(conv=>whnf);refine aE (fun h0=>?_) (fun h0=>?_)<;>conv=>whnf
    ·exact absurd (by simpa using h0) hn
    refine jO (rest:=[]) hk rfl rfl rfl rfl (sM ⟨nm,true,v⟩) (sM ⟨nm,true,v⟩) rfl (fun e he=>by show[(GV.sl .none (f5 V)).ren e,GV.fn _ [] [.ptr (e 0) 0]]=_;rw[bT (cR V) e,he 0 (by simp)]) (fun _ _=>rfl) (wR _) ?_;(conv=>whnf);exact bE (.refl _) (fun _=>rfl)
   ·rw[h1] at hk;rw[h3];refine cY Tryz.func223 rfl ?_;(conv=>whnf);refine aE (fun h0=>?_) (fun h0=>?_)<;>conv=>whnf
    ·exact absurd (by simpa using h0) hn
    refine jO (rest:=[]) hk rfl rfl rfl rfl (sM ⟨nm,true,v⟩) (sM ⟨nm,true,v⟩) rfl (fun e he=>by show[(GV.sl .none (f5 V)).ren e,GV.fn _ [] [.ptr (e 0) 0]]=_;rw[bT (cR V) e,he 0 (by simp)]) (fun _ _=>rfl) (wR _) ?_;(conv=>whnf);refine⟨cN _,_,by rw[aA];exact m6 h2,rfl,?_⟩;(conv=>whnf);exact bE (.refl _) (fun _=>rfl)
  |false=>
   have hk:=key I hI;simp only[bU,fM];have hc:=AL I nm;replace hk:SC Tryz.prog 179 [.sl .none (f5 I),.fn (.func 262) [] [.ptr 0 0]] [.box 242 (Term.cs ⟨nm,false,v⟩)] (.val (.i .i64 (tY I nm))) [.box 242 (Term.cs ⟨nm,false,v⟩)]:=hk;rcases hc with⟨h1,h2⟩|⟨j,y,h1,h2,h3⟩
   ·rw[h1] at hk;rw[h2];refine cY Tryz.func223 rfl ?_;(conv=>whnf);refine aE (fun h0=>?_) (fun h0=>?_)<;>conv=>whnf
    ·exact absurd (by simpa using h0) hn
    refine jO (rest:=[]) hk rfl rfl rfl rfl (sM ⟨nm,false,v⟩) (sM ⟨nm,false,v⟩) rfl (fun e he=>by show[(GV.sl .none (f5 I)).ren e,GV.fn _ [] [.ptr (e 0) 0]]=_;rw[bT (cR I) e,he 0 (by simp)]) (fun _ _=>rfl) (wR _) ?_;(conv=>whnf);exact bE (.refl _) (fun _=>rfl)
   ·rw[h1] at hk;rw[h3];refine cY Tryz.func223 rfl ?_;(conv=>whnf);refine aE (fun h0=>?_) (fun h0=>?_)<;>conv=>whnf
    ·exact absurd (by simpa using h0) hn
    refine jO (rest:=[]) hk rfl rfl rfl rfl (sM ⟨nm,false,v⟩) (sM ⟨nm,false,v⟩) rfl (fun e he=>by show[(GV.sl .none (f5 I)).ren e,GV.fn _ [] [.ptr (e 0) 0]]=_;rw[bT (cR I) e,he 0 (by simp)]) (fun _ _=>rfl) (wR _) ?_;(conv=>whnf);refine⟨cN _,_,by rw[aA];exact m6 h2,rfl,?_⟩;(conv=>whnf);exact bE (.refl _) (fun _=>rfl)
def eH (I V:List Itm) (e:Int):List GObj:=[.box 32 [.sl .none (f5 I)],.box 32 [.sl .none (f5 V)],.box 29 [.i .i64 e]]
def zP (I V:List Itm) (e:Int) (t:Term):Int:=if e=0 then oM I V t else e
theorem gH [MaxL] (I V:List Itm) (e:Int):OS (eH I V e):=fun f hf=>by
 show[(GObj.box _ [.sl .none (f5 I)]).ren f,(GObj.box _ [.sl .none (f5 V)]).ren f,_]=_;rw[eU (cC (bT (cR I)) .nil),eU (cC (bT (cR V)) .nil)];rfl
theorem sH [MaxL] (I V:List Itm) (e:Int) {T:TypeId} {cs:List GV} (hc:ClL cs):OS (eH I V e++[GObj.box T cs]):=fun f hf=>by
 show[(GObj.box _ [.sl .none (f5 I)]).ren f,(GObj.box _ [.sl .none (f5 V)]).ren f,_,(GObj.box T cs).ren f]=_;rw[eU (cC (bT (cR I)) .nil),eU (cC (bT (cR V)) .nil),eU hc];rfl
theorem fN [MaxL] (I V:List Itm) (e:Int):(eH I V e).all GObj.notHeld=true:=rfl
theorem oS [MaxL] (I V:List Itm) (e:Int) {T:TypeId} {cs:List GV}:(eH I V e++[GObj.box T cs]).all GObj.notHeld=true:=rfl
theorem a2K [MaxL] (I V:List Itm) (hI:I.length<bB) (hV:V.length<bB) (e:Int) (op:By) (a b:Term):SC Tryz.prog 222 [.ptr 3 1,.ptr 0 0,.ptr 1 0,.ptr 2 0] (eH I V e++[.box 244 (Tree.test op a b).cs]) (.val (.tup [])) (eH I V (zP I V e a)++[.box 244 (Tree.test op a b).cs]):=by
 have hk:=LL I V hI hV a;unfold zP;generalize iM I V a=kr at*;generalize oM I V a=ke at*;refine dF qO mixed Tryz.func222 rfl (bL rfl) (by simp[eH]) (oS _ _ _) ?_;conv=>whnf
 refine aZ (by kernel_rfl) ?_;conv=>whnf
 refine bD hk (wR _) rfl (cC a.cl (cC (bT (cR I)) (cC (bT (cR V)) .nil))) (fun _=>rfl) ?_;conv=>whnf
 refine aE (fun h=>?_) (fun h=>?_)<;>conv=>whnf
 ·have h9:e=0:=by simpa using h
  rw[aF h9];refine⟨_,⟨rfl,zL _,rfl,bL rfl⟩,?_⟩;conv=>whnf
  exact kG (rest:=[]) rfl (by simp[eH]) (sH I V ke (Tree.cs_cl _)) (oS _ _ _) (fun _ _=>rfl) (d7 _)
 ·have h9:¬e=0:=by simpa using h
  rw[aD h9];exact kG (rest:=[]) rfl (by simp[eH]) (sH I V e (Tree.cs_cl _)) (oS _ _ _) (fun _ _=>rfl) (d7 _)
theorem a2J [MaxL] (I V:List Itm) (hI:I.length<bB) (hV:V.length<bB) (e:Int) (op:By) (a b:Term):SC Tryz.prog 222 [.ptr 3 6,.ptr 0 0,.ptr 1 0,.ptr 2 0] (eH I V e++[.box 244 (Tree.test op a b).cs]) (.val (.tup [])) (eH I V (zP I V e b)++[.box 244 (Tree.test op a b).cs]):=by
 have hk:=LL I V hI hV b;unfold zP;generalize iM I V b=kr at*;generalize oM I V b=ke at*;refine dF qO mixed Tryz.func222 rfl (bL rfl) (by simp[eH]) (oS _ _ _) ?_;conv=>whnf
 refine aZ (by kernel_rfl) ?_;conv=>whnf
 refine bD hk (wR _) rfl (cC b.cl (cC (bT (cR I)) (cC (bT (cR V)) .nil))) (fun _=>rfl) ?_;conv=>whnf
 refine aE (fun h=>?_) (fun h=>?_)<;>conv=>whnf
 ·have h9:e=0:=by simpa using h
  rw[aF h9];refine⟨_,⟨rfl,zL _,rfl,bL rfl⟩,?_⟩;conv=>whnf
  exact kG (rest:=[]) rfl (by simp[eH]) (sH I V ke (Tree.cs_cl _)) (oS _ _ _) (fun _ _=>rfl) (d7 _)
 ·have h9:¬e=0:=by simpa using h
  rw[aD h9];exact kG (rest:=[]) rfl (by simp[eH]) (sH I V e (Tree.cs_cl _)) (oS _ _ _) (fun _ _=>rfl) (d7 _)
def DW (I V:List Itm) (e:Int) (p:Term×Term):Int:=if iM I V p.1 !=iM I V p.2 then 10 else e
theorem a34 [MaxL] (I V:List Itm) (hI:I.length<bB) (hV:V.length<bB) (e:Int) (op:By) (a b:Term):SC Tryz.prog 225 [.agg (Tree.test op a b).cs,.ptr 0 0,.ptr 1 0,.ptr 2 0] (eH I V e) (.val (.tup [])) (eH I V (DW I V e (a,b))):=by
 have hka:=LL I V hI hV a;have hkb:=LL I V hI hV b;unfold DW;simp only;generalize iM I V a=ka at*;generalize oM I V a=ea at*;generalize iM I V b=kb at*;generalize oM I V b=eb at*;refine dF qO mixed Tryz.func225 rfl (bL rfl) (by simp[eH]) (fN _ _ _) ?_;conv=>whnf
 refine bD hka (wR _) rfl (cC a.cl (cC (bT (cR I)) (cC (bT (cR V)) .nil))) (fun _=>rfl) ?_;conv=>whnf
 refine bD hkb (wR _) rfl (cC b.cl (cC (bT (cR I)) (cC (bT (cR V)) .nil))) (fun _=>rfl) ?_;conv=>whnf
 refine aE (fun h=>?_) (fun h=>?_)<;>conv=>whnf
 ·rw[aF h];refine⟨_,⟨rfl,zL _,rfl,bL rfl⟩,?_⟩;conv=>whnf
  exact kG (rest:=[_]) rfl (by simp[eH]) (gH I V 10) (fN _ _ _) (fun _ _=>rfl) (d7 _)
 ·rw[aD (by rw[h];decide)];exact kG (rest:=[_]) rfl (by simp[eH]) (gH I V e) (fN _ _ _) (fun _ _=>rfl) (d7 _)
def cF (k:FuncId):GV:=.fn (.func k) [] [.ptr 0 0,.ptr 1 0,.ptr 2 0]
theorem a2N [MaxL] (k:FuncId) {e:Nat->Nat} (h0:e 0=0) (h1:e 1=1) (h2:e 2=2):(cF k).ren e=cF k:=by
 show GV.fn _ [] [.ptr (e 0) 0,.ptr (e 1) 0,.ptr (e 2) 0]=_;rw[h0,h1,h2];rfl
theorem kN [MaxL] (k:FuncId) {I V:List Itm} {x:Int} {t:Tree} (e:Nat->Nat) (he:∀i,i<(eH I V x).length->e i=i):[t.gv,cF k].map (GV.ren e)=[t.gv,cF k]:=by
 show[t.gv.ren e,(cF k).ren e]=_;rw[t.cl e,a2N k (he 0 (by simp[eH])) (he 1 (by simp[eH])) (he 2 (by simp[eH]))]
theorem B0 [MaxL] (I V:List Itm) (hI:I.length<bB) (hV:V.length<bB):∀(t:Tree) (x:Int),SC Tryz.prog 221 [t.gv,cF 222] (eH I V x) (.val (.tup [])) (eH I V ((dD t).foldl (zP I V) x))
 |.pair a l r,x=>by
  have s1:=B0 I V hI hV l x;have s2:=B0 I V hI hV r ((dD l).foldl (zP I V) x);rw[show(dD (Tree.pair a l r)).foldl (zP I V) x=(dD r).foldl (zP I V) ((dD l).foldl (zP I V) x) by simp[dD,List.foldl_append]];refine dF qO mixed Tryz.func221 rfl (bL rfl) (by simp[eH]) (fN _ _ _) ?_;conv=>whnf
  refine⟨_,⟨rfl,zL _,rfl,bL rfl⟩,?_⟩;conv=>whnf
  refine jO (rest:=[.box 280 (Tree.pair a l r).cs]) s1 rfl (by simp[eH]) rfl rfl (gH _ _ _) (gH _ _ _) (fN _ _ _) (kN _) (fun _ _=>rfl) (wR _) ?_;conv=>whnf
  refine jO (rest:=[.box 280 (Tree.pair a l r).cs]) s2 rfl (by simp[eH]) rfl rfl (gH _ _ _) (gH _ _ _) (fN _ _ _) (kN _) (fun _ _=>rfl) (wR _) ?_;conv=>whnf
  exact kG (rest:=[_]) rfl (by simp[eH]) (gH _ _ _) (fN _ _ _) (fun _ _=>rfl) (d7 _)
 |.no t,x=>by
  have s1:=B0 I V hI hV t x;refine dF qO mixed Tryz.func221 rfl (bL rfl) (by simp[eH]) (fN _ _ _) ?_;conv=>whnf
  refine⟨_,⟨rfl,zL _,rfl,bL rfl⟩,?_⟩;conv=>whnf
  refine jO (rest:=[.box 278 (Tree.no t).cs]) s1 rfl (by simp[eH]) rfl rfl (gH _ _ _) (gH _ _ _) (fN _ _ _) (kN _) (fun _ _=>rfl) (wR _) ?_;conv=>whnf
  exact kG (rest:=[_]) rfl (by simp[eH]) (gH _ _ _) (fN _ _ _) (fun _ _=>rfl) (d7 _)
 |.test op a b,x=>by
  have s1:=a2K I V hI hV x op a b;have s2:=a2J I V hI hV (zP I V x a) op a b;have hcs:=(Tree.test op a b).cs_cl;refine dF qO mixed Tryz.func221 rfl (bL rfl) (by simp[eH]) (fN _ _ _) ?_;conv=>whnf
  refine⟨_,⟨rfl,zL _,rfl,bL rfl⟩,?_⟩;conv=>whnf
  refine jO (rest:=[]) s1 rfl (by simp[eH]) rfl rfl (sH _ _ _ hcs) (sH _ _ _ hcs) (oS _ _ _) (fun e he=>by show[GV.ptr (e 3) 1,.ptr (e 0) 0,.ptr (e 1) 0,.ptr (e 2) 0]=_;rw[he 3 (by simp[eH]),he 0 (by simp[eH]),he 1 (by simp[eH]),he 2 (by simp[eH])]) (fun _ _=>rfl) (wR _) ?_;conv=>whnf
  refine jO (rest:=[]) s2 rfl (by simp[eH]) rfl rfl (sH _ _ _ hcs) (sH _ _ _ hcs) (oS _ _ _) (fun e he=>by show[GV.ptr (e 3) 6,.ptr (e 0) 0,.ptr (e 1) 0,.ptr (e 2) 0]=_;rw[he 3 (by simp[eH]),he 0 (by simp[eH]),he 1 (by simp[eH]),he 2 (by simp[eH])]) (fun _ _=>rfl) (wR _) ?_;conv=>whnf
  exact kG (rest:=[_]) rfl (by simp[eH]) (gH _ _ _) (fN _ _ _) (fun _ _=>rfl) (d7 _)
 |.truth b,x=>by
  refine dF qO mixed Tryz.func221 rfl (bL rfl) (by simp[eH]) (fN _ _ _) ?_;conv=>whnf
  exact kG (rest:=[]) rfl (by simp[eH]) (gH _ _ _) (fN _ _ _) (fun _ _=>rfl) (d7 _)
theorem AZ [MaxL] (I V:List Itm) (hI:I.length<bB) (hV:V.length<bB):∀(t:Tree) (x:Int),SC Tryz.prog 224 [t.gv,cF 225] (eH I V x) (.val (.tup [])) (eH I V ((lY t).foldl (DW I V) x))
 |.pair a l r,x=>by
  have s1:=AZ I V hI hV l x;have s2:=AZ I V hI hV r ((lY l).foldl (DW I V) x);rw[show(lY (Tree.pair a l r)).foldl (DW I V) x=(lY r).foldl (DW I V) ((lY l).foldl (DW I V) x) by simp[lY,List.foldl_append]];refine dF qO mixed Tryz.func224 rfl (bL rfl) (by simp[eH]) (fN _ _ _) ?_;conv=>whnf
  refine⟨_,⟨rfl,zL _,rfl,bL rfl⟩,?_⟩;conv=>whnf
  refine jO (rest:=[.box 280 (Tree.pair a l r).cs]) s1 rfl (by simp[eH]) rfl rfl (gH _ _ _) (gH _ _ _) (fN _ _ _) (kN _) (fun _ _=>rfl) (wR _) ?_;conv=>whnf
  refine jO (rest:=[.box 280 (Tree.pair a l r).cs]) s2 rfl (by simp[eH]) rfl rfl (gH _ _ _) (gH _ _ _) (fN _ _ _) (kN _) (fun _ _=>rfl) (wR _) ?_;conv=>whnf
  exact kG (rest:=[_]) rfl (by simp[eH]) (gH _ _ _) (fN _ _ _) (fun _ _=>rfl) (d7 _)
 |.no t,x=>by
  have s1:=AZ I V hI hV t x;refine dF qO mixed Tryz.func224 rfl (bL rfl) (by simp[eH]) (fN _ _ _) ?_;conv=>whnf
  refine⟨_,⟨rfl,zL _,rfl,bL rfl⟩,?_⟩;conv=>whnf
  refine jO (rest:=[.box 278 (Tree.no t).cs]) s1 rfl (by simp[eH]) rfl rfl (gH _ _ _) (gH _ _ _) (fN _ _ _) (kN _) (fun _ _=>rfl) (wR _) ?_;conv=>whnf
  exact kG (rest:=[_]) rfl (by simp[eH]) (gH _ _ _) (fN _ _ _) (fun _ _=>rfl) (d7 _)
 |.test op a b,x=>by
  have s1:=a34 I V hI hV x op a b;have hcs:=(Tree.test op a b).cs_cl;refine dF qO mixed Tryz.func224 rfl (bL rfl) (by simp[eH]) (fN _ _ _) ?_;conv=>whnf
  refine⟨_,⟨rfl,zL _,rfl,bL rfl⟩,?_⟩;conv=>whnf
  refine jO (rest:=[.box 244 (Tree.test op a b).cs]) s1 rfl (by simp[eH]) rfl rfl (gH _ _ _) (gH _ _ _) (fN _ _ _) (fun e he=>by show[(GV.agg (Tree.test op a b).cs).ren e,GV.ptr (e 0) 0,.ptr (e 1) 0,.ptr (e 2) 0]=_;rw[eL hcs e,he 0 (by simp[eH]),he 1 (by simp[eH]),he 2 (by simp[eH])]) (fun _ _=>rfl) (wR _) ?_;conv=>whnf
  exact kG (rest:=[_]) rfl (by simp[eH]) (gH _ _ _) (fN _ _ _) (fun _ _=>rfl) (d7 _)
 |.truth b,x=>by
  refine dF qO mixed Tryz.func224 rfl (bL rfl) (by simp[eH]) (fN _ _ _) ?_;conv=>whnf
  exact kG (rest:=[]) rfl (by simp[eH]) (gH _ _ _) (fN _ _ _) (fun _ _=>rfl) (d7 _)
theorem a1A (I V:List Itm):∀(ts:List Term) (x:Int),x=0∨x=5->ts.foldl (zP I V) x=if x=5∨ts.any (fun t=>oM I V t==5) then 5 else 0
 |[],x,h=>by rcases h with rfl|rfl<;>rfl
 |t::ts,x,h=>by
  have hk:oM I V t=0∨oM I V t=5:=by
   unfold oM;split
   ·exact .inl rfl
   ·split
    ·exact .inl rfl
    ·exact .inr rfl
  rw[gZ,List.any_cons];have hx:zP I V x t=0∨zP I V x t=5:=by
   unfold zP;split
   ·exact hk
   ·exact h
  rw[a1A I V ts _ hx];unfold zP;rcases h with rfl|rfl
  ·rcases hk with hk|hk<;>simp[hk]
  ·simp
theorem a1B (I V:List Itm):∀(ts:List (Term×Term)) (x:Int),x=0∨x=10->ts.foldl (DW I V) x=if x=10∨ts.any (fun p=>iM I V p.1 !=iM I V p.2) then 10 else 0
 |[],x,h=>by rcases h with rfl|rfl<;>rfl
 |t::ts,x,h=>by
  rw[gZ,List.any_cons];have hx:DW I V x t=0∨DW I V x t=10:=by
   unfold DW;split
   ·exact .inr rfl
   ·exact h
  rw[a1B I V ts _ hx];unfold DW;cases hb:(iM I V t.1 !=iM I V t.2) with
  |true=>simp
  |false=>
   simp only[bU,fM,Bool.false_or]
theorem UG {I V:List Itm} (hI:gM I=true) (hV:gM V=true) {t:Term} (ht:t.good):(iM I V t==0)=(oM I V t==5):=by
 have okk:∀{l:List Itm},gM l=true->∀y∈l,y.k≠0:=fun h y hy=>by
  unfold gM at h;simp only[aH,aS] at h;have:=h.1.1 y hy;simp only[Itm.ok,aH,eR,aK] at this;rcases this.2 with h|h<;>omega
 unfold iM oM;by_cases hn:t.name=[]
 ·rw[aF hn,aF hn];have hv:t.v.ok=true:=by
   rcases ht with⟨h1,_⟩|⟨_,_,h3⟩
   ·exact absurd hn h1
   ·exact h3
  rcases RZ hv with h|h<;>rw[h]<;>rfl
 ·rw[aD hn,aD hn];cases hf:(if t.var then V else I).find? (fun i=>i.name==t.name) with
  |none=>rfl
  |some y=>
   have hm:=List.mem_of_find?_eq_some hf;have:y.k≠0:=by
    cases hv:t.var with
    |true=>rw[hv] at hm;exact okk hV y hm
    |false=>rw[hv] at hm;exact okk hI y hm
   simp[this]
theorem xS:∀{t:Tree},t.good->∀x∈dD t,x.good
 |.pair _ l r,h,x,hx=>by
  simp only[dD,List.mem_append] at hx;rcases hx with hx|hx
  ·exact xS h.1 x hx
  ·exact xS h.2 x hx
 |.no t,h,x,hx=>xS (t:=t) h x hx
 |.test _ a b,h,x,hx=>by
  simp[dD] at hx;rcases hx with rfl|rfl
  ·exact h.2.1
  ·exact h.2.2
 |.truth _,h,x,hx=>by simp[dD] at hx
theorem OP {I V:List Itm} (hI:gM I=true) (hV:gM V=true):∀{ts:List Term},(∀x∈ts,x.good)->ts.any (fun x=>iM I V x==0)=ts.any (fun t=>oM I V t==5)
 |[],_=>rfl
 |t::ts,h=>by
  rw[List.any_cons,List.any_cons,UG hI hV (h t (by simp)),OP hI hV (fun x hx=>h x (by simp[hx]))]
def LI (I V:List Itm) (t:Tree):Int:=if(dD t).any (fun x=>oM I V x==5) then 5 else if(lY t).any (fun p=>iM I V p.1 !=iM I V p.2) then 10 else 0
theorem UX {I V:List Itm} (hI:gM I=true) (hV:gM V=true) {t:Tree} (h:t.good):LI I V t=rT I V t:=by
 unfold LI rT;rw[OP hI hV (xS h)]
theorem a0n [MaxL] (I V:List Itm) (hI:I.length<bB) (hV:V.length<bB) (t:Tree):SC Tryz.prog 185 [t.gv,.sl .none (f5 I),.sl .none (f5 V)] [] (.val (.i .i64 (LI I V t))) []:=by
 have s1:=B0 I V hI hV t 0;have s2:=AZ I V hI hV t 0;rw[a1A I V _ 0 (.inl rfl)] at s1;rw[a1B I V _ 0 (.inl rfl)] at s2;unfold LI;generalize(dD t).any (fun x=>oM I V x==5)=b1 at*;generalize(lY t).any (fun p=>iM I V p.1 !=iM I V p.2)=b2 at*;cases b1 with
 |true=>
  replace s1:SC Tryz.prog 221 [t.gv,cF 222] (eH I V 0) (.val (.tup [])) (eH I V 5):=s1;refine cY Tryz.func185 rfl ?_;conv=>whnf
  refine⟨_,⟨rfl,zL _,rfl,bL rfl⟩,?_⟩;conv=>whnf
  refine jO (rest:=[]) s1 rfl (by simp[eH]) rfl rfl (gH _ _ _) (gH _ _ _) (fN _ _ _) (kN _) (fun _ _=>rfl) (wR _) ?_;conv=>whnf
  exact b8 rfl
 |false=>
  replace s1:SC Tryz.prog 221 [t.gv,cF 222] (eH I V 0) (.val (.tup [])) (eH I V 0):=s1;cases b2 with
  |true=>
   replace s2:SC Tryz.prog 224 [t.gv,cF 225] (eH I V 0) (.val (.tup [])) (eH I V 10):=s2;refine cY Tryz.func185 rfl ?_;(conv=>whnf);refine⟨_,⟨rfl,zL _,rfl,bL rfl⟩,?_⟩;(conv=>whnf);refine jO (rest:=[]) s1 rfl (by simp[eH]) rfl rfl (gH _ _ _) (gH _ _ _) (fN _ _ _) (kN _) (fun _ _=>rfl) (wR _) ?_;(conv=>whnf);refine jO (rest:=[]) s2 rfl (by simp[eH]) rfl rfl (gH _ _ _) (gH _ _ _) (fN _ _ _) (kN _) (fun _ _=>rfl) (wR _) ?_;(conv=>whnf);exact b8 rfl
  |false=>
   replace s2:SC Tryz.prog 224 [t.gv,cF 225] (eH I V 0) (.val (.tup [])) (eH I V 0):=s2;refine cY Tryz.func185 rfl ?_;(conv=>whnf);refine⟨_,⟨rfl,zL _,rfl,bL rfl⟩,?_⟩;(conv=>whnf);refine jO (rest:=[]) s1 rfl (by simp[eH]) rfl rfl (gH _ _ _) (gH _ _ _) (fN _ _ _) (kN _) (fun _ _=>rfl) (wR _) ?_;(conv=>whnf);refine jO (rest:=[]) s2 rfl (by simp[eH]) rfl rfl (gH _ _ _) (gH _ _ _) (fN _ _ _) (kN _) (fun _ _=>rfl) (wR _) ?_;(conv=>whnf);exact b8 rfl
def XU:List Itm->List Val->Bool
 |i::l,v::r=>v.ok&&decide (v.k=i.k)&&XU l r
 |_,_=>true
def lkp (l:List Itm) (r:List Val) (s:By):Val:=r.getD (tY l s).toNat v0
def a3L (I V:List Itm) (R W:List Val) (t:Term):Val:=if t.name=[] then t.v else if t.var then lkp V W t.name else lkp I R t.name
