/-
  A part of the proof of SchemaMembers.
-/
import Derived.Test.YtcfgfkkhpdlhpaaGreatDoorQ42
set_option linter.all false
set_option maxRecDepth 100000
namespace Go.Proofs.YtcfgfkkhpdlhpaaGreatDoor
open Go.RowKit
def d7:Tree->List Term
 |.pair _ l r=>d7 l++d7 r
 |.no t=>d7 t
 |.test _ a b=>[a,b]
 |.truth _=>[]
theorem pI (a:Bool):∀t:Tree,(t.sides a).flatMap d7=d7 t
 |.pair b l r=>by
  unfold Tree.sides;split
  ·rw[List.flatMap_append,pI a l,pI a r];rfl
  ·simp
 |.no t=>by simp[Tree.sides]
 |.test _ _ _=>by simp[Tree.sides]
 |.truth _=>by simp[Tree.sides]
theorem oB:∀t:Tree,(d7 t).length<=2*t.size
 |.pair _ l r=>by
  have h1:=oB l;have h2:=oB r;simp only[d7,Tree.size,aD];omega
 |.no t=>by
  have:=oB t;simp only[d7,Tree.size];omega
 |.test _ _ _=>by simp[d7,Tree.size]
 |.truth _=>by simp[d7]
def xM (l:List Term):List GV:=l.map fun t=>.agg (U8 t)
theorem vN [MaxL] (l:List Term):ClL (xM l):=gX (fun t=>eK (AO t)) l
theorem lQ (l:List Term):(xM l).length=l.length:=by simp[xM]
theorem U7 (l:List Term):(xM l).all (fun x=>x.cells.length==5)=true:=by
 rw[aS];intro x hx;obtain⟨t,_,rfl⟩:=List.mem_map.1 hx;rfl
theorem KO (l:List Term):(xM l).all (rE 5)=true:=by
 rw[aS];intro x hx;obtain⟨t,_,rfl⟩:=List.mem_map.1 hx;rfl
theorem PO (a b:List Term):xM (a++b)=xM a++xM b:=by unfold xM;rw[d9]
theorem RY [MaxL] (op:By) (l r:Term):SC Tryz.prog 232 [.agg (jW 4 [] l r op false)] [] (.val (.sl .none (xM [l,r]))) []:=by
 refine cW Tryz.func232 rfl ?_;conv=>whnf
 exact b8 (bK _ _) (bT (vN _))
def Y5 (L:List Tree) (i:Nat):List Term:=(L.take i).flatMap d7
theorem VJ {L:List Tree} {i:Nat} {y:Tree} (h:L[i]?=some y):Y5 L (i+1)=Y5 L i++d7 y:=by
 unfold Y5;rw[cH,h,List.flatMap_append];simp
theorem a0a (L:List Tree) (i:Nat):(Y5 L i).length<=(L.flatMap d7).length:=by
 have:L.flatMap d7=Y5 L i++(L.drop i).flatMap d7:=by
  unfold Y5;rw[<-List.flatMap_append,iF]
 rw[this,aD];omega
theorem AV [MaxL] (k:Nat) (hk:k≠4) (L:List Tree) (yes:Bool) (hL:L.length<=100000) (hb:(L.flatMap d7).length<=1000000) (hc:∀y∈L,SC Tryz.prog 232 [y.ng] [] (.val (.sl .none (xM (d7 y)))) []):
  SC Tryz.prog 232 [.agg (jW k (jV L) t0 t0 [] yes)] [] (.val (.sl .none (xM (L.flatMap d7)))) []:=by
 have hnl:(jV L).length=L.length:=eV L;refine cW Tryz.func232 rfl ?_;conv=>whnf
 refine aF (fun h4=>?_) (fun h4=>?_)<;>conv=>whnf
 ·exfalso;have h9:(k:Int)=4:=by simpa using h4
  omega
 refine f7 (fun q:Nat×List Term=>q.1<=L.length/\Y5 L q.1=q.2) (fun q=>[(1,.ptr 0 0),(3,.sl (.own 2) (xM q.2)),(4,.i .i64 (q.1:Nat))])
  (fun q=>⟨[.box 211 (jW k (jV L) t0 t0 [] yes),.own 0 0 0,ow 209 5 q.2.length],0,[]⟩) (fun q=>L.length - q.1) (0,[]) ⟨zL _,rfl⟩ ⟨rfl,rfl,rfl,trivial⟩ rfl (fun _ _=>rL _) (fun q _=>by simp only[List.all_cons,x5];rfl) (fun q _ e he=>?_) (fun q φ0 hi=>?_)
 ·refine⟨?_,rfl,?_⟩
  ·show[(GObj.box _ (jW k (jV L) t0 t0 [] yes)).ren e,_,(ow _ 5 _).ren e]=_;rw[B0,eQ (jI (qU L) t0 t0 [] yes) e];rfl
  ·show[GV.ptr (e 0) 0,(GV.sl (.own 2) (xM q.2)).ren e,_]=_;rw[p8 (he 2 (by simp)) (vN _),he 0 (by simp)];rfl
 obtain⟨i,o⟩:=q;obtain⟨hi,ho⟩:=hi;replace hi:i<=L.length:=hi;replace ho:Y5 L i=o:=ho;conv=>whnf
 refine aF (fun h=>?_) (fun h=>?_)<;>conv=>whnf
 rotate_left
 ·have hie:i=L.length:=by have:=aC h;rw[hnl] at this;omega
  have hoe:o=L.flatMap d7:=by rw[<-ho,hie];unfold Y5;rw[b9]
  rw[<-hoe];exact b8 (bK _ _) (bT (vN _))
 have hlt:i<L.length:=by have:=aB h;rw[hnl] at this;omega
 obtain⟨y,hy⟩:∃y,L[i]?=some y:=⟨L[i],gL hlt⟩;have hgy:(jV L)[i]?=some y.ng:=by unfold jV;rw[aL,hy];rfl
 have hcy:=hc y (aN hy);have hcl:=y.ng_cl;have hsucc:=VJ hy;have hle:=a0a L (i+1);rw[hsucc,ho,aD] at hle;rw[ho] at hsucc;obtain⟨k2,kids,A,B,op,yes2,hng⟩:=iN y;rw[hng] at hgy hcy hcl;refine⟨cN _,.agg (jW k2 kids A B op yes2),by rw[aA];exact hgy,rfl,?_⟩;conv=>whnf
 generalize d7 y=ys at*;rcases ys with _|⟨y1,ys⟩
 ·refine bF hcy (wR _) rfl (cC hcl .nil) (bT (vN _)) ?_;conv=>whnf
  rw[iM] at hsucc;exact⟨L.length - (i+1),(by show _<L.length - i;omega),(i+1,o),⟨hlt,hsucc⟩,rfl,⟨rfl,rfl,b7 (by omega),trivial⟩,[],rfl,rfl⟩
 ·refine bF hcy (wR _) rfl (cC hcl .nil) (bT (vN _)) ?_;conv=>whnf
  cases o with
  |nil=>
   refine⟨⟨KO (y1::ys),U7 _,by show(xM ([]:List Term)).length+(xM (y1::ys)).length<=4294967296;rw[lQ,lQ];omega⟩,xM (([]:List Term)++y1::ys),(([]:List Term)++y1::ys).length,⟨PO ([]:List Term) (y1::ys),by show _=(xM ([]:List Term)).length+(xM (y1::ys)).length;rw[lQ,lQ,aD]⟩,?_⟩;(conv=>whnf);refine⟨⟨zL _,by first|rfl|(rw[lQ];rfl)|(rw[lQ];simp),by first|exact .inr ⟨rfl,rfl⟩|exact .inl ⟨rfl,rfl⟩⟩,?_⟩;(conv=>whnf);exact⟨L.length - (i+1),(by show _<L.length - i;omega),(i+1,([]:List Term)++y1::ys),⟨hlt,hsucc⟩,rfl,⟨rfl,rfl,b7 (by omega),trivial⟩,_,rfl,rfl⟩
  |cons z zs=>
   refine⟨⟨KO (y1::ys),U7 _,by show(xM (z::zs)).length+(xM (y1::ys)).length<=4294967296;rw[lQ,lQ];omega⟩,xM ((z::zs)++y1::ys),((z::zs)++y1::ys).length,⟨PO (z::zs) (y1::ys),by show _=(xM (z::zs)).length+(xM (y1::ys)).length;rw[lQ,lQ,aD]⟩,?_⟩;(conv=>whnf);refine⟨⟨zL _,by first|rfl|(rw[lQ];rfl)|(rw[lQ];simp),by first|exact .inr ⟨rfl,rfl⟩|exact .inl ⟨rfl,rfl⟩⟩,?_⟩;(conv=>whnf);exact⟨L.length - (i+1),(by show _<L.length - i;omega),(i+1,(z::zs)++y1::ys),⟨hlt,hsucc⟩,rfl,⟨rfl,rfl,b7 (by omega),trivial⟩,_,rfl,rfl⟩
theorem IK [MaxL]:∀(n:Nat) (t:Tree),t.size<=n->t.size<=5000->SC Tryz.prog 232 [t.ng] [] (.val (.sl .none (xM (d7 t)))) []
 |0,t,h,_=>by cases t<;>simp[Tree.size] at h
 |n+1,t,h,h2=>by
  have hz:=oB t;cases t with
  |truth b=>
   have:=AV 5 (by decide) [] b (by simp) (by simp) (fun y hy=>by cases hy);exact this
  |test op l r=>exact RY op l r
  |no t=>
   simp only[Tree.size] at h h2;have:=AV 3 (by decide) [t] false (by simp) (by simp[d7] at hz⊢;simp only[Tree.size] at hz;omega) (fun y hy=>by
    rw[List.mem_singleton.1 hy];exact IK n t (by omega) (by omega))
   have e:[t].flatMap d7=d7 (.no t):=by simp[d7]
   rw[e] at this;exact this
  |pair a l r=>
   have hs:=@mI a (Tree.pair a l r);have hk:∀y∈(Tree.pair a l r).sides a,SC Tryz.prog 232 [y.ng] [] (.val (.sl .none (xM (d7 y)))) []:=fun y hy=>by
    have:=E7 hy;exact IK n y (by omega) (by omega)
   have:=AV (kW a) (by cases a<;>decide) ((Tree.pair a l r).sides a) false (by omega) (by rw[pI];omega) hk;rw[pI] at this;rw[show(Tree.pair a l r).ng=.agg (jW (kW a) (jV ((Tree.pair a l r).sides a)) t0 t0 [] false) by show GV.agg _=_;rw[sV]];exact this
def a2F (l:List By) (x:By):List By:=if x≠[]/\¬x∈l then l++[x] else l
def WZ:Option Tree->List Term
 |none=>[]
 |some x=>d7 x
theorem rN (a:Bool) (acc:Option Tree) (t:Tree):d7 (qX a acc t)=WZ acc++d7 t:=by cases acc<;>rfl
theorem J2 (a:Bool):∀(t:Tree) (acc:Option Tree),d7 (dY a acc t)=WZ acc++d7 t:=by
 intro t;induction t generalizing a with
 |pair b l r i1 i2=>
  intro acc;unfold dY;split
  ·rw[i2];show d7 (dY a acc l)++d7 r=WZ acc++(d7 l++d7 r);rw[i1,bB]
  ·rw[rN,i2];show WZ acc++(d7 (dY b none l)++d7 r)=WZ acc++(d7 l++d7 r);rw[i1];rfl
 |no t i=>
  intro acc;unfold dY;rw[rN];show _++d7 (dY true none t)=_;rw[i];rfl
 |test op l r=>intro acc;unfold dY;rw[rN]
 |truth b=>intro acc;unfold dY;rw[rN]
theorem LS (t:Tree):d7 t.flat=d7 t:=by
 unfold Tree.flat;rw[J2];rfl
def a1w (op:By) (c:Int):Bool:=if op=[61] then c==0 else if op=[60,62] then c !=0 else if op=[60] then decide (c<0) else if op=[60,61] then decide (c<=0) else if op=[62] then decide (c>0) else decide (c>=0)
def kK (τ:Term->Val):Tree->Bool
 |.pair a l r=>if a then kK τ l&&kK τ r else kK τ l||kK τ r
 |.no t=>!kK τ t
 |.test op l r=>a1w op (a2C (τ l) (τ r))
 |.truth b=>b
def WH (a:Bool):Option Bool->Bool->Bool
 |none,x=>x
 |some y,x=>if a then y&&x else y||x
theorem u5 (τ:Term->Val) (a:Bool) (acc:Option Tree) (t:Tree):kK τ (qX a acc t)=WH a (acc.map (kK τ)) (kK τ t):=by cases acc<;>rfl
theorem nZ (τ:Term->Val):∀(t:Tree) (a:Bool) (acc:Option Tree),kK τ (dY a acc t)=WH a (acc.map (kK τ)) (kK τ t)
 |.pair b l r,a,acc=>by
  unfold dY;split
  ·rename_i hab;subst hab;rw[nZ τ r,eJ,nZ τ l];cases acc<;>cases a<;>simp[WH,kK,Bool.and_assoc,Bool.or_assoc]
  ·rw[u5,nZ τ r,eJ,nZ τ l];cases acc<;>cases b<;>simp[WH,kK]
 |.no t,a,acc=>by
  unfold dY;rw[u5];show WH a _ (!kK τ (dY true none t))=_;rw[nZ τ t];rfl
 |.test op l r,a,acc=>by unfold dY;rw[u5]
 |.truth b,a,acc=>by unfold dY;rw[u5]
theorem BV (τ:Term->Val) (a:Bool):∀t:Tree,kK τ t=if a then(t.sides a).all (kK τ) else(t.sides a).any (kK τ)
 |.pair b l r=>by
  unfold Tree.sides;by_cases hab:a=b
  ·subst hab;rw[aG rfl,List.all_append,List.any_append];have h1:=BV τ a l;have h2:=BV τ a r;cases a<;>simp[kK,h1,h2]
  ·rw[aE hab];cases a<;>simp
 |.no t=>by cases a<;>simp[Tree.sides]
 |.test _ _ _=>by cases a<;>simp[Tree.sides]
 |.truth _=>by cases a<;>simp[Tree.sides]
def iP (I V:List Itm) (t:Term):Int:=if t.name=[] then t.v.k else match(if t.var then V else I).find? (fun i=>i.name==t.name) with
 |some i=>i.k
 |none=>0
def lP:Tree->List (Term×Term)
 |.pair _ l r=>lP l++lP r
 |.no t=>lP t
 |.test _ a b=>[(a,b)]
 |.truth _=>[]
def r6 (I V:List Itm) (t:Tree):Int:=if(d7 t).any (fun x=>iP I V x==0) then 5 else if(lP t).any (fun p=>iP I V p.1 !=iP I V p.2) then 10 else 0
theorem oA:∀t:Tree,d7 t=(lP t).flatMap fun p=>[p.1,p.2]
 |.pair _ l r=>by simp only[d7,lP,List.flatMap_append];rw[oA l,oA r]
 |.no t=>oA t
 |.test _ _ _=>rfl
 |.truth _=>rfl
def WY:Option Tree->List (Term×Term)
 |none=>[]
 |some x=>lP x
theorem wW (a:Bool) (acc:Option Tree) (t:Tree):lP (qX a acc t)=WY acc++lP t:=by cases acc<;>rfl
theorem nH:∀(t:Tree) (a:Bool) (acc:Option Tree),lP (dY a acc t)=WY acc++lP t
 |.pair b l r,a,acc=>by
  unfold dY;split
  ·rw[nH r];show lP (dY a acc l)++lP r=WY acc++(lP l++lP r);rw[nH l,bB]
  ·rw[wW,nH r];show WY acc++(lP (dY b none l)++lP r)=WY acc++(lP l++lP r);rw[nH l];rfl
 |.no t,a,acc=>by
  unfold dY;rw[wW];show _++lP (dY true none t)=_;rw[nH t];rfl
 |.test op l r,a,acc=>by unfold dY;rw[wW]
 |.truth b,a,acc=>by unfold dY;rw[wW]
theorem RF (t:Tree):lP t.flat=lP t:=nH t true none
theorem P0 (I V:List Itm) (t:Tree):r6 I V t.flat=r6 I V t:=by
 unfold r6;rw[LS,RF]
theorem YZ [MaxL] (i:Itm) (t:Term):SC Tryz.prog 262 [i.gv,.ptr 0 0] [.box 242 t.cs] (.val (.b (i.name==t.name))) [.box 242 t.cs]:=by
 obtain⟨name,k,lo,hi,len⟩:=i;obtain⟨nm,vr,v⟩:=t;refine cW Tryz.func262 rfl ?_;conv=>whnf
 exact rM rfl rfl (fun _=>rfl)
theorem rY [MaxL] (t:Term):H0 [.box 242 t.cs]:=fun e _=>rfl
theorem a0s [MaxL] (l:List Itm) (hl:l.length<bH) (t:Term):SC Tryz.prog 179 [.sl .none (gI l),.fn (.func 262) [] [.ptr 0 0]] [.box 242 t.cs] (.val (.i .i64 (t6 l t.name))) [.box 242 t.cs]:=by
 have hlen:=oD l;unfold bH at hl;refine cW Tryz.func179 rfl ?_;conv=>whnf
 refine f7 (fun i:Nat=>i<=l.length/\∀z∈l.take i,z.name≠t.name) (fun i=>[(0,.sl .none (gI l)),(1,.fn (.func 262) [] [.ptr 0 0]),(7,.i .i64 (gI l).length),(8,.i .i64 (i:Nat))]) (fun _=>⟨[.box 242 t.cs],0,[]⟩) (fun i=>l.length - i) 0 ⟨zL _,fun z h=>by simp at h⟩ ⟨rfl,rfl,rfl,rfl,trivial⟩ rfl (fun _ _=>rL _) (fun _ _=>rfl) (fun i _ e he=>?_) (fun i φ0 hi=>?_)
 ·refine⟨rfl,rfl,?_⟩;show[(GV.sl .none (gI l)).ren e,GV.fn _ [] [.ptr (e 0) 0],_,_]=_;rw[bT (cR l) e,he 0 (by simp)];rfl
 obtain⟨hi,hne⟩:=hi;conv=>whnf
 refine aF (fun h=>?_) (fun h=>?_)<;>conv=>whnf
 rotate_left
 ·have hie:i=l.length:=by have:=aC h;rw[hlen] at this;omega
  rw[hie,b9] at hne;rw[O5 hne];exact fU rfl (.refl _) (fun _=>rfl) (.i _ _)
 have hlt:i<l.length:=by have:=aB h;rw[hlen] at this;omega
 obtain⟨y,hy⟩:∃y,l[i]?=some y:=⟨l[i],gL hlt⟩;have hk:=YZ y t;refine⟨cN _,_,by rw[aA];exact n7 hy,rfl,?_⟩;conv=>whnf
 refine jJ (rest:=[]) hk rfl rfl rfl rfl (rY t) (rY t) rfl (fun e he=>by show[(y.gv).ren e,GV.ptr (e 0) 0]=_;rw[y.cl e,he 0 (by simp)]) (fun _ _=>rfl) (wR _) ?_;conv=>whnf
 refine aF (fun heq=>?_) (fun heq=>?_)<;>conv=>whnf
 ·have e:y.name=t.name:=by simpa using heq
  rw[DK hy e hne];exact fU rfl (.refl _) (fun _=>rfl) (.i _ _)
 ·have e:y.name≠t.name:=by simpa using heq
  exact⟨l.length - (i+1),(by show _<l.length - i;omega),i+1,⟨hlt,u9 hne hy e⟩,rfl,⟨rfl,rfl,rfl,b7 (by omega),trivial⟩,[],rfl,rfl⟩
theorem zQ (l:List Itm) (s:By):(t6 l s= -1/\l.find? (fun i=>i.name==s)=none)∨∃(j:Nat) (y:Itm),t6 l s=(j:Nat)/\l[j]?=some y/\l.find? (fun i=>i.name==s)=some y:=by
 rcases HP l s with⟨h1,h2⟩|⟨j,y,h1,h2,h3,h4⟩
 ·exact .inl ⟨h1,List.find?_eq_none.2 (fun x hx=>by simpa using h2 x hx)⟩
 ·refine .inr ⟨j,y,h1,h2,?_⟩;have hlt:=(List.getElem?_eq_some_iff.1 h2).1;have e:l=l.take j++y::l.drop (j+1):=by
   have:l.drop j=y::l.drop (j+1):=by
    rw[aY hlt,(List.getElem?_eq_some_iff.1 h2).2]
   rw[<-this,iF]
  rw[e,List.find?_append,List.find?_eq_none.2 (fun x hx=>by simpa using h4 x hx)];simp[h3]
def oC (I V:List Itm) (t:Term):Int:=if t.name=[] then 0 else match(if t.var then V else I).find? (fun i=>i.name==t.name) with
 |some _=>0
 |none=>5
theorem K2 [MaxL] (I V:List Itm) (hI:I.length<bH) (hV:V.length<bH) (t:Term):SC Tryz.prog 223 [t.gv,.sl .none (gI I),.sl .none (gI V)] [] (.val (.tup [.i .i64 (iP I V t),.i .i64 (oC I V t)])) []:=by
 have key:∀(l:List Itm),l.length<bH->SC Tryz.prog 179 [.sl .none (gI l),.fn (.func 262) [] [.ptr 0 0]] [.box 242 t.cs] (.val (.i .i64 (t6 l t.name))) [.box 242 t.cs]:=fun l hl=>a0s l hl t;obtain⟨nm,vr,v⟩:=t;by_cases hn:nm=[]
 ·subst hn;have e1:iP I V ⟨[],vr,v⟩=v.k:=rfl;have e2:oC I V ⟨[],vr,v⟩=0:=rfl;rw[e1,e2];refine cW Tryz.func223 rfl ?_;conv=>whnf
  exact b8 (.refl _) (fun _=>rfl)
 ·have e1:iP I V ⟨nm,vr,v⟩=match(if vr then V else I).find? (fun i=>i.name==nm) with|some i=>i.k|none=>0:=aE hn
  have e2:oC I V ⟨nm,vr,v⟩=match(if vr then V else I).find? (fun i=>i.name==nm) with|some _=>0|none=>5:=aE hn
  rw[e1,e2];cases vr with
  |true=>
   have hk:=key V hV;simp only[fI];have hc:=zQ V nm;replace hk:SC Tryz.prog 179 [.sl .none (gI V),.fn (.func 262) [] [.ptr 0 0]] [.box 242 (Term.cs ⟨nm,true,v⟩)] (.val (.i .i64 (t6 V nm))) [.box 242 (Term.cs ⟨nm,true,v⟩)]:=hk;rcases hc with⟨h1,h2⟩|⟨j,y,h1,h2,h3⟩
   ·rw[h1] at hk;rw[h2];refine cW Tryz.func223 rfl ?_;(conv=>whnf);refine aF (fun h0=>?_) (fun h0=>?_)<;>conv=>whnf
    ·exact absurd (by simpa using h0) hn
    refine jJ (rest:=[]) hk rfl rfl rfl rfl (rY ⟨nm,true,v⟩) (rY ⟨nm,true,v⟩) rfl (fun e he=>by show[(GV.sl .none (gI V)).ren e,GV.fn _ [] [.ptr (e 0) 0]]=_;rw[bT (cR V) e,he 0 (by simp)]) (fun _ _=>rfl) (wR _) ?_;(conv=>whnf);exact b8 (.refl _) (fun _=>rfl)
   ·rw[h1] at hk;rw[h3];refine cW Tryz.func223 rfl ?_;(conv=>whnf);refine aF (fun h0=>?_) (fun h0=>?_)<;>conv=>whnf
    ·exact absurd (by simpa using h0) hn
    refine jJ (rest:=[]) hk rfl rfl rfl rfl (rY ⟨nm,true,v⟩) (rY ⟨nm,true,v⟩) rfl (fun e he=>by show[(GV.sl .none (gI V)).ren e,GV.fn _ [] [.ptr (e 0) 0]]=_;rw[bT (cR V) e,he 0 (by simp)]) (fun _ _=>rfl) (wR _) ?_;(conv=>whnf);refine⟨cN _,_,by rw[aA];exact n7 h2,rfl,?_⟩;(conv=>whnf);exact b8 (.refl _) (fun _=>rfl)
  |false=>
   have hk:=key I hI;simp only[bR,fK];have hc:=zQ I nm;replace hk:SC Tryz.prog 179 [.sl .none (gI I),.fn (.func 262) [] [.ptr 0 0]] [.box 242 (Term.cs ⟨nm,false,v⟩)] (.val (.i .i64 (t6 I nm))) [.box 242 (Term.cs ⟨nm,false,v⟩)]:=hk;rcases hc with⟨h1,h2⟩|⟨j,y,h1,h2,h3⟩
   ·rw[h1] at hk;rw[h2];refine cW Tryz.func223 rfl ?_;(conv=>whnf);refine aF (fun h0=>?_) (fun h0=>?_)<;>conv=>whnf
    ·exact absurd (by simpa using h0) hn
    refine jJ (rest:=[]) hk rfl rfl rfl rfl (rY ⟨nm,false,v⟩) (rY ⟨nm,false,v⟩) rfl (fun e he=>by show[(GV.sl .none (gI I)).ren e,GV.fn _ [] [.ptr (e 0) 0]]=_;rw[bT (cR I) e,he 0 (by simp)]) (fun _ _=>rfl) (wR _) ?_;(conv=>whnf);exact b8 (.refl _) (fun _=>rfl)
   ·rw[h1] at hk;rw[h3];refine cW Tryz.func223 rfl ?_;(conv=>whnf);refine aF (fun h0=>?_) (fun h0=>?_)<;>conv=>whnf
    ·exact absurd (by simpa using h0) hn
    refine jJ (rest:=[]) hk rfl rfl rfl rfl (rY ⟨nm,false,v⟩) (rY ⟨nm,false,v⟩) rfl (fun e he=>by show[(GV.sl .none (gI I)).ren e,GV.fn _ [] [.ptr (e 0) 0]]=_;rw[bT (cR I) e,he 0 (by simp)]) (fun _ _=>rfl) (wR _) ?_;(conv=>whnf);refine⟨cN _,_,by rw[aA];exact n7 h2,rfl,?_⟩;(conv=>whnf);exact b8 (.refl _) (fun _=>rfl)
def eH (I V:List Itm) (e:Int):List GObj:=[.box 32 [.sl .none (gI I)],.box 32 [.sl .none (gI V)],.box 29 [.i .i64 e]]
def yU (I V:List Itm) (e:Int) (t:Term):Int:=if e=0 then oC I V t else e
theorem gC [MaxL] (I V:List Itm) (e:Int):H0 (eH I V e):=fun f hf=>by
 show[(GObj.box _ [.sl .none (gI I)]).ren f,(GObj.box _ [.sl .none (gI V)]).ren f,_]=_;rw[eQ (cC (bT (cR I)) .nil),eQ (cC (bT (cR V)) .nil)];rfl
theorem rT [MaxL] (I V:List Itm) (e:Int) {T:TypeId} {cs:List GV} (hc:ClL cs):H0 (eH I V e++[GObj.box T cs]):=fun f hf=>by
 show[(GObj.box _ [.sl .none (gI I)]).ren f,(GObj.box _ [.sl .none (gI V)]).ren f,_,(GObj.box T cs).ren f]=_;rw[eQ (cC (bT (cR I)) .nil),eQ (cC (bT (cR V)) .nil),eQ hc];rfl
theorem fL [MaxL] (I V:List Itm) (e:Int):(eH I V e).all GObj.notHeld=true:=rfl
theorem oI [MaxL] (I V:List Itm) (e:Int) {T:TypeId} {cs:List GV}:(eH I V e++[GObj.box T cs]).all GObj.notHeld=true:=rfl
theorem a0u [MaxL] (I V:List Itm) (hI:I.length<bH) (hV:V.length<bH) (e:Int) (op:By) (a b:Term):SC Tryz.prog 222 [.ptr 3 1,.ptr 0 0,.ptr 1 0,.ptr 2 0] (eH I V e++[.box 244 (Tree.test op a b).cs]) (.val (.tup [])) (eH I V (yU I V e a)++[.box 244 (Tree.test op a b).cs]):=by
 have hk:=K2 I V hI hV a;unfold yU;generalize iP I V a=kr at*;generalize oC I V a=ke at*;refine dL oQ mixed Tryz.func222 rfl (bL rfl) (by simp[eH]) (oI _ _ _) ?_;conv=>whnf
 refine bC (by kernel_rfl) ?_;conv=>whnf
 refine bF hk (wR _) rfl (cC a.cl (cC (bT (cR I)) (cC (bT (cR V)) .nil))) (fun _=>rfl) ?_;conv=>whnf
 refine aF (fun h=>?_) (fun h=>?_)<;>conv=>whnf
 ·have h9:e=0:=by simpa using h
  rw[aG h9];refine⟨_,⟨rfl,zL _,rfl,bL rfl⟩,?_⟩;conv=>whnf
  exact jU (rest:=[]) rfl (by simp[eH]) (rT I V ke (Tree.cs_cl _)) (oI _ _ _) (fun _ _=>rfl) (cO _)
 ·have h9:¬e=0:=by simpa using h
  rw[aE h9];exact jU (rest:=[]) rfl (by simp[eH]) (rT I V e (Tree.cs_cl _)) (oI _ _ _) (fun _ _=>rfl) (cO _)
theorem a0t [MaxL] (I V:List Itm) (hI:I.length<bH) (hV:V.length<bH) (e:Int) (op:By) (a b:Term):SC Tryz.prog 222 [.ptr 3 6,.ptr 0 0,.ptr 1 0,.ptr 2 0] (eH I V e++[.box 244 (Tree.test op a b).cs]) (.val (.tup [])) (eH I V (yU I V e b)++[.box 244 (Tree.test op a b).cs]):=by
 have hk:=K2 I V hI hV b;unfold yU;generalize iP I V b=kr at*;generalize oC I V b=ke at*;refine dL oQ mixed Tryz.func222 rfl (bL rfl) (by simp[eH]) (oI _ _ _) ?_;conv=>whnf
 refine bC (by kernel_rfl) ?_;conv=>whnf
 refine bF hk (wR _) rfl (cC b.cl (cC (bT (cR I)) (cC (bT (cR V)) .nil))) (fun _=>rfl) ?_;conv=>whnf
 refine aF (fun h=>?_) (fun h=>?_)<;>conv=>whnf
 ·have h9:e=0:=by simpa using h
  rw[aG h9];refine⟨_,⟨rfl,zL _,rfl,bL rfl⟩,?_⟩;conv=>whnf
  exact jU (rest:=[]) rfl (by simp[eH]) (rT I V ke (Tree.cs_cl _)) (oI _ _ _) (fun _ _=>rfl) (cO _)
 ·have h9:¬e=0:=by simpa using h
  rw[aE h9];exact jU (rest:=[]) rfl (by simp[eH]) (rT I V e (Tree.cs_cl _)) (oI _ _ _) (fun _ _=>rfl) (cO _)
def D4 (I V:List Itm) (e:Int) (p:Term×Term):Int:=if iP I V p.1 !=iP I V p.2 then 10 else e
theorem a1d [MaxL] (I V:List Itm) (hI:I.length<bH) (hV:V.length<bH) (e:Int) (op:By) (a b:Term):SC Tryz.prog 225 [.agg (Tree.test op a b).cs,.ptr 0 0,.ptr 1 0,.ptr 2 0] (eH I V e) (.val (.tup [])) (eH I V (D4 I V e (a,b))):=by
 have hka:=K2 I V hI hV a;have hkb:=K2 I V hI hV b;unfold D4;simp only;generalize iP I V a=ka at*;generalize oC I V a=ea at*;generalize iP I V b=kb at*;generalize oC I V b=eb at*;refine dL oQ mixed Tryz.func225 rfl (bL rfl) (by simp[eH]) (fL _ _ _) ?_;conv=>whnf
 refine bF hka (wR _) rfl (cC a.cl (cC (bT (cR I)) (cC (bT (cR V)) .nil))) (fun _=>rfl) ?_;conv=>whnf
 refine bF hkb (wR _) rfl (cC b.cl (cC (bT (cR I)) (cC (bT (cR V)) .nil))) (fun _=>rfl) ?_;conv=>whnf
 refine aF (fun h=>?_) (fun h=>?_)<;>conv=>whnf
 ·rw[aG h];refine⟨_,⟨rfl,zL _,rfl,bL rfl⟩,?_⟩;conv=>whnf
  exact jU (rest:=[_]) rfl (by simp[eH]) (gC I V 10) (fL _ _ _) (fun _ _=>rfl) (cO _)
 ·rw[aE (by rw[h];decide)];exact jU (rest:=[_]) rfl (by simp[eH]) (gC I V e) (fL _ _ _) (fun _ _=>rfl) (cO _)
def cF (k:FuncId):GV:=.fn (.func k) [] [.ptr 0 0,.ptr 1 0,.ptr 2 0]
theorem a0x [MaxL] (k:FuncId) {e:Nat->Nat} (h0:e 0=0) (h1:e 1=1) (h2:e 2=2):(cF k).ren e=cF k:=by
 show GV.fn _ [] [.ptr (e 0) 0,.ptr (e 1) 0,.ptr (e 2) 0]=_;rw[h0,h1,h2];rfl
theorem kH [MaxL] (k:FuncId) {I V:List Itm} {x:Int} {t:Tree} (e:Nat->Nat) (he:∀i,i<(eH I V x).length->e i=i):[t.gv,cF k].map (GV.ren e)=[t.gv,cF k]:=by
 show[t.gv.ren e,(cF k).ren e]=_;rw[t.cl e,a0x k (he 0 (by simp[eH])) (he 1 (by simp[eH])) (he 2 (by simp[eH]))]
theorem A5 [MaxL] (I V:List Itm) (hI:I.length<bH) (hV:V.length<bH):∀(t:Tree) (x:Int),SC Tryz.prog 221 [t.gv,cF 222] (eH I V x) (.val (.tup [])) (eH I V ((d7 t).foldl (yU I V) x))
 |.pair a l r,x=>by
  have s1:=A5 I V hI hV l x;have s2:=A5 I V hI hV r ((d7 l).foldl (yU I V) x);rw[show(d7 (Tree.pair a l r)).foldl (yU I V) x=(d7 r).foldl (yU I V) ((d7 l).foldl (yU I V) x) by simp[d7,List.foldl_append]];refine dL oQ mixed Tryz.func221 rfl (bL rfl) (by simp[eH]) (fL _ _ _) ?_;conv=>whnf
  refine⟨_,⟨rfl,zL _,rfl,bL rfl⟩,?_⟩;conv=>whnf
  refine jJ (rest:=[.box 280 (Tree.pair a l r).cs]) s1 rfl (by simp[eH]) rfl rfl (gC _ _ _) (gC _ _ _) (fL _ _ _) (kH _) (fun _ _=>rfl) (wR _) ?_;conv=>whnf
  refine jJ (rest:=[.box 280 (Tree.pair a l r).cs]) s2 rfl (by simp[eH]) rfl rfl (gC _ _ _) (gC _ _ _) (fL _ _ _) (kH _) (fun _ _=>rfl) (wR _) ?_;conv=>whnf
  exact jU (rest:=[_]) rfl (by simp[eH]) (gC _ _ _) (fL _ _ _) (fun _ _=>rfl) (cO _)
 |.no t,x=>by
  have s1:=A5 I V hI hV t x;refine dL oQ mixed Tryz.func221 rfl (bL rfl) (by simp[eH]) (fL _ _ _) ?_;conv=>whnf
  refine⟨_,⟨rfl,zL _,rfl,bL rfl⟩,?_⟩;conv=>whnf
  refine jJ (rest:=[.box 278 (Tree.no t).cs]) s1 rfl (by simp[eH]) rfl rfl (gC _ _ _) (gC _ _ _) (fL _ _ _) (kH _) (fun _ _=>rfl) (wR _) ?_;conv=>whnf
  exact jU (rest:=[_]) rfl (by simp[eH]) (gC _ _ _) (fL _ _ _) (fun _ _=>rfl) (cO _)
 |.test op a b,x=>by
  have s1:=a0u I V hI hV x op a b;have s2:=a0t I V hI hV (yU I V x a) op a b;have hcs:=(Tree.test op a b).cs_cl;refine dL oQ mixed Tryz.func221 rfl (bL rfl) (by simp[eH]) (fL _ _ _) ?_;conv=>whnf
  refine⟨_,⟨rfl,zL _,rfl,bL rfl⟩,?_⟩;conv=>whnf
  refine jJ (rest:=[]) s1 rfl (by simp[eH]) rfl rfl (rT _ _ _ hcs) (rT _ _ _ hcs) (oI _ _ _) (fun e he=>by show[GV.ptr (e 3) 1,.ptr (e 0) 0,.ptr (e 1) 0,.ptr (e 2) 0]=_;rw[he 3 (by simp[eH]),he 0 (by simp[eH]),he 1 (by simp[eH]),he 2 (by simp[eH])]) (fun _ _=>rfl) (wR _) ?_;conv=>whnf
  refine jJ (rest:=[]) s2 rfl (by simp[eH]) rfl rfl (rT _ _ _ hcs) (rT _ _ _ hcs) (oI _ _ _) (fun e he=>by show[GV.ptr (e 3) 6,.ptr (e 0) 0,.ptr (e 1) 0,.ptr (e 2) 0]=_;rw[he 3 (by simp[eH]),he 0 (by simp[eH]),he 1 (by simp[eH]),he 2 (by simp[eH])]) (fun _ _=>rfl) (wR _) ?_;conv=>whnf
  exact jU (rest:=[_]) rfl (by simp[eH]) (gC _ _ _) (fL _ _ _) (fun _ _=>rfl) (cO _)
 |.truth b,x=>by
  refine dL oQ mixed Tryz.func221 rfl (bL rfl) (by simp[eH]) (fL _ _ _) ?_;conv=>whnf
  exact jU (rest:=[]) rfl (by simp[eH]) (gC _ _ _) (fL _ _ _) (fun _ _=>rfl) (cO _)
theorem A4 [MaxL] (I V:List Itm) (hI:I.length<bH) (hV:V.length<bH):∀(t:Tree) (x:Int),SC Tryz.prog 224 [t.gv,cF 225] (eH I V x) (.val (.tup [])) (eH I V ((lP t).foldl (D4 I V) x))
 |.pair a l r,x=>by
  have s1:=A4 I V hI hV l x;have s2:=A4 I V hI hV r ((lP l).foldl (D4 I V) x);rw[show(lP (Tree.pair a l r)).foldl (D4 I V) x=(lP r).foldl (D4 I V) ((lP l).foldl (D4 I V) x) by simp[lP,List.foldl_append]];refine dL oQ mixed Tryz.func224 rfl (bL rfl) (by simp[eH]) (fL _ _ _) ?_;conv=>whnf
  refine⟨_,⟨rfl,zL _,rfl,bL rfl⟩,?_⟩;conv=>whnf
  refine jJ (rest:=[.box 280 (Tree.pair a l r).cs]) s1 rfl (by simp[eH]) rfl rfl (gC _ _ _) (gC _ _ _) (fL _ _ _) (kH _) (fun _ _=>rfl) (wR _) ?_;conv=>whnf
  refine jJ (rest:=[.box 280 (Tree.pair a l r).cs]) s2 rfl (by simp[eH]) rfl rfl (gC _ _ _) (gC _ _ _) (fL _ _ _) (kH _) (fun _ _=>rfl) (wR _) ?_;conv=>whnf
  exact jU (rest:=[_]) rfl (by simp[eH]) (gC _ _ _) (fL _ _ _) (fun _ _=>rfl) (cO _)
 |.no t,x=>by
  have s1:=A4 I V hI hV t x;refine dL oQ mixed Tryz.func224 rfl (bL rfl) (by simp[eH]) (fL _ _ _) ?_;conv=>whnf
  refine⟨_,⟨rfl,zL _,rfl,bL rfl⟩,?_⟩;conv=>whnf
  refine jJ (rest:=[.box 278 (Tree.no t).cs]) s1 rfl (by simp[eH]) rfl rfl (gC _ _ _) (gC _ _ _) (fL _ _ _) (kH _) (fun _ _=>rfl) (wR _) ?_;conv=>whnf
  exact jU (rest:=[_]) rfl (by simp[eH]) (gC _ _ _) (fL _ _ _) (fun _ _=>rfl) (cO _)
 |.test op a b,x=>by
  have s1:=a1d I V hI hV x op a b;have hcs:=(Tree.test op a b).cs_cl;refine dL oQ mixed Tryz.func224 rfl (bL rfl) (by simp[eH]) (fL _ _ _) ?_;conv=>whnf
  refine⟨_,⟨rfl,zL _,rfl,bL rfl⟩,?_⟩;conv=>whnf
  refine jJ (rest:=[.box 244 (Tree.test op a b).cs]) s1 rfl (by simp[eH]) rfl rfl (gC _ _ _) (gC _ _ _) (fL _ _ _) (fun e he=>by show[(GV.agg (Tree.test op a b).cs).ren e,GV.ptr (e 0) 0,.ptr (e 1) 0,.ptr (e 2) 0]=_;rw[eK hcs e,he 0 (by simp[eH]),he 1 (by simp[eH]),he 2 (by simp[eH])]) (fun _ _=>rfl) (wR _) ?_;conv=>whnf
  exact jU (rest:=[_]) rfl (by simp[eH]) (gC _ _ _) (fL _ _ _) (fun _ _=>rfl) (cO _)
 |.truth b,x=>by
  refine dL oQ mixed Tryz.func224 rfl (bL rfl) (by simp[eH]) (fL _ _ _) ?_;conv=>whnf
  exact jU (rest:=[]) rfl (by simp[eH]) (gC _ _ _) (fL _ _ _) (fun _ _=>rfl) (cO _)
theorem ZP (I V:List Itm):∀(ts:List Term) (x:Int),x=0∨x=5->ts.foldl (yU I V) x=if x=5∨ts.any (fun t=>oC I V t==5) then 5 else 0
 |[],x,h=>by rcases h with rfl|rfl<;>rfl
 |t::ts,x,h=>by
  have hk:oC I V t=0∨oC I V t=5:=by
   unfold oC;split
   ·exact .inl rfl
   ·split
    ·exact .inl rfl
    ·exact .inr rfl
  rw[gT,List.any_cons];have hx:yU I V x t=0∨yU I V x t=5:=by
   unfold yU;split
   ·exact hk
   ·exact h
  rw[ZP I V ts _ hx];unfold yU;rcases h with rfl|rfl
  ·rcases hk with hk|hk<;>simp[hk]
  ·simp
theorem ZQ (I V:List Itm):∀(ts:List (Term×Term)) (x:Int),x=0∨x=10->ts.foldl (D4 I V) x=if x=10∨ts.any (fun p=>iP I V p.1 !=iP I V p.2) then 10 else 0
 |[],x,h=>by rcases h with rfl|rfl<;>rfl
 |t::ts,x,h=>by
  rw[gT,List.any_cons];have hx:D4 I V x t=0∨D4 I V x t=10:=by
   unfold D4;split
   ·exact .inr rfl
   ·exact h
  rw[ZQ I V ts _ hx];unfold D4;cases hb:(iP I V t.1 !=iP I V t.2) with
  |true=>simp
  |false=>
   simp only[bR,fK,Bool.false_or]
theorem SK {I V:List Itm} (hI:gU I=true) (hV:gU V=true) {t:Term} (ht:t.good):(iP I V t==0)=(oC I V t==5):=by
 have okk:∀{l:List Itm},gU l=true->∀y∈l,y.k≠0:=fun h y hy=>by
  unfold gU at h;simp only[aH,aS] at h;have:=h.1.1 y hy;simp only[Itm.ok,aH,eW,aK] at this;rcases this.2 with h|h<;>omega
 unfold iP oC;by_cases hn:t.name=[]
 ·rw[aG hn,aG hn];have hv:t.v.ok=true:=by
   rcases ht with⟨h1,_⟩|⟨_,_,h3⟩
   ·exact absurd hn h1
   ·exact h3
  rcases XZ hv with h|h<;>rw[h]<;>rfl
 ·rw[aE hn,aE hn];cases hf:(if t.var then V else I).find? (fun i=>i.name==t.name) with
  |none=>rfl
  |some y=>
   have hm:=hZ hf;have:y.k≠0:=by
    cases hv:t.var with
    |true=>rw[hv] at hm;exact okk hV y hm
    |false=>rw[hv] at hm;exact okk hI y hm
   simp[this]
theorem x6:∀{t:Tree},t.good->∀x∈d7 t,x.good
 |.pair _ l r,h,x,hx=>by
  simp only[d7,List.mem_append] at hx;rcases hx with hx|hx
  ·exact x6 h.1 x hx
  ·exact x6 h.2 x hx
 |.no t,h,x,hx=>x6 (t:=t) h x hx
 |.test _ a b,h,x,hx=>by
  simp[d7] at hx;rcases hx with rfl|rfl
  ·exact h.2.1
  ·exact h.2.2
 |.truth _,h,x,hx=>by simp[d7] at hx
theorem MZ {I V:List Itm} (hI:gU I=true) (hV:gU V=true):∀{ts:List Term},(∀x∈ts,x.good)->ts.any (fun x=>iP I V x==0)=ts.any (fun t=>oC I V t==5)
 |[],_=>rfl
 |t::ts,h=>by
  rw[List.any_cons,List.any_cons,SK hI hV (h t (by simp)),MZ hI hV (fun x hx=>h x (by simp[hx]))]
def JZ (I V:List Itm) (t:Tree):Int:=if(d7 t).any (fun x=>oC I V x==5) then 5 else if(lP t).any (fun p=>iP I V p.1 !=iP I V p.2) then 10 else 0
theorem T0 {I V:List Itm} (hI:gU I=true) (hV:gU V=true) {t:Tree} (h:t.good):JZ I V t=r6 I V t:=by
 unfold JZ r6;rw[MZ hI hV (x6 h)]
theorem Z3 [MaxL] (I V:List Itm) (hI:I.length<bH) (hV:V.length<bH) (t:Tree):SC Tryz.prog 185 [t.gv,.sl .none (gI I),.sl .none (gI V)] [] (.val (.i .i64 (JZ I V t))) []:=by
 have s1:=A5 I V hI hV t 0;have s2:=A4 I V hI hV t 0;rw[ZP I V _ 0 (.inl rfl)] at s1;rw[ZQ I V _ 0 (.inl rfl)] at s2;unfold JZ;generalize(d7 t).any (fun x=>oC I V x==5)=b1 at*;generalize(lP t).any (fun p=>iP I V p.1 !=iP I V p.2)=b2 at*;cases b1 with
 |true=>
  replace s1:SC Tryz.prog 221 [t.gv,cF 222] (eH I V 0) (.val (.tup [])) (eH I V 5):=s1;refine cW Tryz.func185 rfl ?_;conv=>whnf
  refine⟨_,⟨rfl,zL _,rfl,bL rfl⟩,?_⟩;conv=>whnf
  refine jJ (rest:=[]) s1 rfl (by simp[eH]) rfl rfl (gC _ _ _) (gC _ _ _) (fL _ _ _) (kH _) (fun _ _=>rfl) (wR _) ?_;conv=>whnf
  exact bG rfl
 |false=>
  replace s1:SC Tryz.prog 221 [t.gv,cF 222] (eH I V 0) (.val (.tup [])) (eH I V 0):=s1;cases b2 with
  |true=>
   replace s2:SC Tryz.prog 224 [t.gv,cF 225] (eH I V 0) (.val (.tup [])) (eH I V 10):=s2;refine cW Tryz.func185 rfl ?_;(conv=>whnf);refine⟨_,⟨rfl,zL _,rfl,bL rfl⟩,?_⟩;(conv=>whnf);refine jJ (rest:=[]) s1 rfl (by simp[eH]) rfl rfl (gC _ _ _) (gC _ _ _) (fL _ _ _) (kH _) (fun _ _=>rfl) (wR _) ?_;(conv=>whnf);refine jJ (rest:=[]) s2 rfl (by simp[eH]) rfl rfl (gC _ _ _) (gC _ _ _) (fL _ _ _) (kH _) (fun _ _=>rfl) (wR _) ?_;(conv=>whnf);exact bG rfl
  |false=>
   replace s2:SC Tryz.prog 224 [t.gv,cF 225] (eH I V 0) (.val (.tup [])) (eH I V 0):=s2;refine cW Tryz.func185 rfl ?_;(conv=>whnf);refine⟨_,⟨rfl,zL _,rfl,bL rfl⟩,?_⟩;(conv=>whnf);refine jJ (rest:=[]) s1 rfl (by simp[eH]) rfl rfl (gC _ _ _) (gC _ _ _) (fL _ _ _) (kH _) (fun _ _=>rfl) (wR _) ?_;(conv=>whnf);refine jJ (rest:=[]) s2 rfl (by simp[eH]) rfl rfl (gC _ _ _) (gC _ _ _) (fL _ _ _) (kH _) (fun _ _=>rfl) (wR _) ?_;(conv=>whnf);exact bG rfl
def VU:List Itm->List Val->Bool
 |i::l,v::r=>v.ok&&decide (v.k=i.k)&&VU l r
 |_,_=>true
def lkp (l:List Itm) (r:List Val) (s:By):Val:=r.getD (t6 l s).toNat v0
def a1s (I V:List Itm) (R W:List Val) (t:Term):Val:=if t.name=[] then t.v else if t.var then lkp V W t.name else lkp I R t.name
