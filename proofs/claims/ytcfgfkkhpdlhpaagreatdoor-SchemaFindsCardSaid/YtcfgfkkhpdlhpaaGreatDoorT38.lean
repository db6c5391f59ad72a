/-
  A part of the proof of SchemaFinds.
-/
import Derived.Test.YtcfgfkkhpdlhpaaGreatDoorT37
set_option linter.all false
set_option maxRecDepth 100000
namespace Go.Proofs.YtcfgfkkhpdlhpaaGreatDoor
open Go.RowKit
def k9 (k:Nat) (kids:List GV) (a b:Term) (op:By) (yes:Bool):List GV:=.i .i64 k::.sl .none kids::(VS a++(VS b++[.s op,.b yes]))
def CN {α:Type} (a:Bool) (p:α×α):α:=if a then p.2 else p.1
def nk:Tree->List GV×(List GV×List GV)
 |.pair b l r=>let ks:=CN b (nk l).2++CN b (nk r).2
   let cs:=k9 (lD b) ks t0 t0 [] false
   (cs,if b then([.agg cs],ks) else(ks,[.agg cs]))
 |.no t=>let cs:=k9 3 [.agg (nk t).1] t0 t0 [] false
   (cs,[.agg cs],[.agg cs])
 |.test op l r=>let cs:=k9 4 [] l r op false
   (cs,[.agg cs],[.agg cs])
 |.truth b=>let cs:=k9 5 [] t0 t0 [] b
   (cs,[.agg cs],[.agg cs])
def Tree.ncs (t:Tree):List GV:=(nk t).1
def Tree.ng (t:Tree):GV:=.agg t.ncs
def k8 (l:List Tree):List GV:=l.map Tree.ng
theorem A3 (a:Bool):∀t:Tree,CN a (nk t).2=k8 (t.sides a)
 |.pair b l r=>by
  have h1:=A3 a l;have h2:=A3 a r;unfold Tree.sides;by_cases hab:a=b
  ·subst hab;rw[aG rfl];unfold k8 at*;rw[cO,<-h1,<-h2];cases a<;>rfl
  ·rw[aE hab];cases a<;>cases b<;>first|rfl|exact absurd rfl hab
 |.no t=>by cases a<;>rfl
 |.test _ _ _=>by cases a<;>rfl
 |.truth _=>by cases a<;>rfl
theorem tP (a:Bool) (l r:Tree):(Tree.pair a l r).ncs=k9 (lD a) (k8 ((Tree.pair a l r).sides a)) t0 t0 [] false:=by
 show k9 (lD a) (CN a (nk l).2++CN a (nk r).2) t0 t0 [] false=_;rw[A3,A3];congr 1;have e:(Tree.pair a l r).sides a=l.sides a++r.sides a:=aG rfl;rw[e];unfold k8;rw[cO]
theorem WW (t:Tree):(Tree.no t).ncs=k9 3 [t.ng] t0 t0 [] false:=rfl
theorem MS (op:By) (l r:Term):(Tree.test op l r).ncs=k9 4 [] l r op false:=rfl
theorem II (b:Bool):(Tree.truth b).ncs=k9 5 [] t0 t0 [] b:=rfl
theorem jO [MaxL] {k:Nat} {kids:List GV} (h:ClL kids) (a b:Term) (op:By) (yes:Bool):ClL (k9 k kids a b op yes):=.cons (.i _ _) (.cons (bV h) (fun _=>rfl))
theorem ClL.app [MaxL] {a b:List GV} (ha:ClL a) (hb:ClL b):ClL (a++b):=fun f=>by rw[cO,ha f,hb f]
theorem RJ [MaxL]:∀t:Tree,ClL (nk t).1/\(∀a,ClL (CN a (nk t).2))
 |.pair b l r=>by
  have h1:=RJ l;have h2:=RJ r;have hk:ClL (CN b (nk l).2++CN b (nk r).2):=ClL.app (h1.2 b) (h2.2 b);have hc:=jO (k:=lD b) hk t0 t0 [] false;exact⟨hc,fun a=>by
   cases a<;>cases b<;>first|exact hk|exact cC (eO hc) .nil⟩
 |.no t=>by
  have hc:=jO (k:=3) (cC (eO (RJ t).1) .nil) t0 t0 [] false;exact⟨hc,fun a=>by cases a<;>exact cC (eO hc) .nil⟩
 |.test op l r=>by
  have hc:=jO (k:=4) dM l r op false;exact⟨hc,fun a=>by cases a<;>exact cC (eO hc) .nil⟩
 |.truth b=>by
  have hc:=jO (k:=5) dM t0 t0 [] b;exact⟨hc,fun a=>by cases a<;>exact cC (eO hc) .nil⟩
theorem Tree.ncs_cl [MaxL] (t:Tree):ClL t.ncs:=(RJ t).1
theorem Tree.ng_cl [MaxL] (t:Tree):Cl t.ng:=eO t.ncs_cl
theorem r7 [MaxL] (l:List Tree):ClL (k8 l):=gT Tree.ng_cl l
theorem RK (t:Tree):t.ncs.length=14:=by cases t<;>rfl
theorem eX (l:List Tree):(k8 l).length=l.length:=by simp[k8]
theorem BK (l:List Tree):(k8 l).all (fun x=>x.cells.length==14)=true:=by
 rw[aS];intro x hx;obtain⟨t,_,rfl⟩:=List.mem_map.1 hx;show(t.ncs.length==14)=true;rw[RK];rfl
theorem MR (l:List Tree):(k8 l).all (r4 14)=true:=by
 rw[aS];intro x hx;obtain⟨t,_,rfl⟩:=List.mem_map.1 hx;have:=RK t;cases t<;>rfl
theorem FF (a:Bool) (t:Tree):(t.ncs=k9 (lD a) (k8 (t.sides a)) t0 t0 [] false/\2<=(t.sides a).length)∨(∃k kids x y op yes,t.ncs=k9 k kids x y op yes/\k≠lD a/\t.sides a=[t]):=by
 cases t with
 |pair b l r=>
  by_cases hab:a=b
  ·subst hab;refine .inl ⟨tP a l r,?_⟩;have e:(Tree.pair a l r).sides a=l.sides a++r.sides a:=aG rfl;rw[e,aD];have h1:=List.length_pos_iff.2 (qR a l);have h2:=List.length_pos_iff.2 (qR a r);omega
  ·exact .inr ⟨_,_,_,_,_,_,tP b l r,(by cases a<;>cases b<;>first|exact absurd rfl hab|decide),aE hab⟩
 |no t=>exact .inr ⟨_,_,_,_,_,_,WW t,(by cases a<;>decide),rfl⟩
 |test op l r=>exact .inr ⟨_,_,_,_,_,_,MS op l r,(by cases a<;>decide),rfl⟩
 |truth b=>exact .inr ⟨_,_,_,_,_,_,II b,(by cases a<;>decide),rfl⟩
def gD (a:Bool) (x:Tree) (l:List Tree):Tree:=l.foldl (fun q y=>.pair a q y) x
theorem wH (a:Bool):∀(l:List Tree) (x:Tree),(gD a x l).sides a=(x::l).flatMap (Tree.sides a)
 |[],x=>by simp[gD]
 |y::l,x=>by
  have:=wH a l (.pair a x y);show(gD a (.pair a x y) l).sides a=_;rw[this,f9,f9,f9];have e:(Tree.pair a x y).sides a=x.sides a++y.sides a:=aG rfl;rw[e,bD]
theorem iB [MaxL] {c:GV} {k:Tok} {xs rest:List GV}:Wk (.agg (c::.sl k xs::rest)) (.agg (c::.sl .none xs::rest)):=Wk.agg rfl (fun j g g' h h'=>by
 rcases j with _|_|j
 ·simp at h h';subst h;subst h';exact .refl _
 ·simp at h h';subst h;subst h';exact bE _ _
 ·simp at h h';rw[h] at h';cases h';exact .refl _)
def WV:List GV:=[.i .i64 0,.sl .full [],.s [],.s [],.i .i64 0,.i .i64 0,.s [],.s [],.s [],.i .i64 0,.i .i64 0,.s [],.s [],.b false]
def JU (a:Bool) (l:List Tree) (i:Nat):List Tree:=(l.take i).flatMap (Tree.sides a)
theorem TQ {a:Bool} {l:List Tree} {i:Nat} {y:Tree} (h:l[i]?=some y):JU a l (i+1)=JU a l i++y.sides a:=by
 unfold JU;rw[bR,h,List.flatMap_append];simp
theorem ZT (a:Bool) (l:List Tree) (i:Nat):(JU a l i).length<=(l.flatMap (Tree.sides a)).length:=by
 have:l.flatMap (Tree.sides a)=JU a l i++(l.drop i).flatMap (Tree.sides a):=by
  unfold JU;rw[<-List.flatMap_append,iM]
 rw[this,aD];omega
theorem M9 [MaxL] (a:Bool) (x:Tree) (l:List Tree) (hl:l.length<=100000) (hs:((x::l).flatMap (Tree.sides a)).length<=1000000):
  SC Tryz.prog 269 [.i .i64 (lD a:Nat),.sl .none (k8 (x::l))] [] (.val (gD a x l).ng) []:=by
 have hjs:=wH a l x;have hform:=FF a (gD a x l);have hcl:=(gD a x l).ng_cl;generalize hm:gD a x l=m at*;have hlen:(x::l).length<=100001:=by simp;omega
 generalize x::l=M at*;clear hm hl l x;have hle:=ZT a M;refine cZ Tryz.func269 rfl ?_;conv=>whnf
 refine fI (fun q:Nat×List Tree=>q.1<=M.length/\JU a M q.1=q.2) (fun q=>[(0,.i .i64 (lD a:Nat)),(1,.sl .none (k8 M)),(4,.ptr 0 0),(5,.sl (.own 1) (k8 q.2)),(6,.i .i64 (q.1:Nat))])
  (fun q=>⟨[.box 211 WV,ow 211 14 q.2.length],0,[]⟩) (fun q=>M.length - q.1) (0,[]) ⟨zL _,rfl⟩ ⟨rfl,rfl,rfl,rfl,rfl,trivial⟩ rfl (fun _ _=>rL _) (fun q _=>by simp only[gK,lN];rfl) (fun q _ e he=>?_) (fun q φ0 hi=>?_)
 ·refine⟨?_,rfl,?_⟩
  ·show[GObj.box _ (WV.map (GV.ren e)),(ow _ 14 _).ren e]=_;rw[yX];rfl
  ·show[_,(GV.sl .none (k8 M)).ren e,GV.ptr (e 0) 0,(GV.sl (.own 1) (k8 q.2)).ren e,_]=_;rw[pP (he 1 (by simp)) (r7 _),bV (r7 M) e,he 0 (by simp)];rfl
 obtain⟨i,o⟩:=q;obtain⟨hi,ho⟩:=hi;replace hi:i<=M.length:=hi;replace ho:JU a M i=o:=ho;conv=>whnf
 have hnl:(k8 M).length=M.length:=eX M;refine aF (fun h=>?_) (fun h=>?_)<;>conv=>whnf
 rotate_left
 ·have hie:i=M.length:=by have:=aB h;rw[hnl] at this;omega
  have ho':o=m.sides a:=by rw[<-ho,hjs,hie];unfold JU;rw[b7]
  rcases hform with⟨e,h2⟩|⟨k,kids,A,B,op,yes,e,hk,h2⟩
  ·rw[ho'];have hcl':Cl (.agg (k9 (lD a) (k8 (m.sides a)) t0 t0 [] false)):=by rw[<-e];exact hcl
   have hng:m.ng=.agg (k9 (lD a) (k8 (m.sides a)) t0 t0 [] false):=by show GV.agg m.ncs=_;rw[e]
   rw[hng];have hml:=eX (m.sides a);generalize m.sides a=ms at*;refine aF (fun h1=>?_) (fun h1=>?_)<;>conv=>whnf
   ·have h3:((k8 ms).length:Int)=1:=by simpa using h1
    omega
   refine⟨_,⟨rfl,zL _,rfl,bL rfl⟩,?_⟩;(conv=>whnf);exact bA iB hcl'
  ·rw[ho',h2];have hng:m.ng=.agg (k9 k kids A B op yes):=by show GV.agg m.ncs=_;rw[e]
   have hgm:(k8 [m])[0]?=some (.agg (k9 k kids A B op yes)):=by rw[<-hng];rfl
   rw[hng] at hcl⊢;refine⟨dN 0,.agg (k9 k kids A B op yes),hgm,rfl,?_⟩;(conv=>whnf);refine⟨_,⟨rfl,zL _,rfl,bL rfl⟩,?_⟩;(conv=>whnf);exact bA (.refl _) hcl
 have hlt:i<M.length:=by have:=aA h;rw[hnl] at this;omega
 obtain⟨y,hy⟩:∃y,M[i]?=some y:=⟨M[i],gL hlt⟩;have hgy:(k8 M)[i]?=some (.agg y.ncs):=by unfold k8;rw[aM,hy];rfl
 have hos:=TQ (a:=a) hy;have hle1:=hle (i+1);rw[hos,aD] at hle1;rw[ho] at hos hle1;rcases FF a y with⟨e,h2⟩|⟨k,kids,A,B,op,yes,e,hk,h2⟩
 ·rw[e] at hgy;generalize y.sides a=ys at*;rcases ys with _|⟨y1,ys⟩
  ·simp at h2
  refine⟨cN _,.agg (k9 (lD a) (k8 (y1::ys)) t0 t0 [] false),by rw[aC];exact hgy,rfl,?_⟩;conv=>whnf
  refine aF (fun heq=>?_) (fun heq=>?_)<;>conv=>whnf
  rotate_left
  ·simp at heq
  refine⟨cN _,.agg (k9 (lD a) (k8 (y1::ys)) t0 t0 [] false),by rw[aC];exact hgy,rfl,?_⟩;conv=>whnf
  cases o with
  |nil=>
   refine⟨⟨MR (y1::ys),BK _,by show(k8 (([]:List Tree))).length+(k8 (y1::ys)).length<=4294967296;rw[eX,eX];omega⟩,k8 (([]:List Tree)++(y1::ys)),(([]:List Tree)++(y1::ys)).length,⟨(by show k8 (([]:List Tree)++y1::ys)=k8 (([]:List Tree))++k8 (y1::ys);unfold k8;rw[cO]),by show _=(k8 (([]:List Tree))).length+(k8 (y1::ys)).length;rw[eX,eX,aD]⟩,?_⟩;(conv=>whnf);refine⟨⟨zL _,by first|rfl|(rw[eX];rfl)|(rw[eX];simp),by first|exact .inr ⟨rfl,rfl⟩|exact .inl ⟨rfl,rfl⟩⟩,?_⟩;(conv=>whnf);exact⟨M.length - (i+1),(by show _<M.length - i;omega),(i+1,([]:List Tree)++(y1::ys)),⟨hlt,hos⟩,rfl,⟨rfl,rfl,rfl,rfl,b8 (by omega),trivial⟩,_,rfl,rfl⟩
  |cons z zs=>
   refine⟨⟨MR (y1::ys),BK _,by show(k8 ((z::zs))).length+(k8 (y1::ys)).length<=4294967296;rw[eX,eX];omega⟩,k8 ((z::zs)++(y1::ys)),((z::zs)++(y1::ys)).length,⟨(by show k8 ((z::zs)++y1::ys)=k8 ((z::zs))++k8 (y1::ys);unfold k8;rw[cO]),by show _=(k8 ((z::zs))).length+(k8 (y1::ys)).length;rw[eX,eX,aD]⟩,?_⟩;(conv=>whnf);refine⟨⟨zL _,by first|rfl|(rw[eX];rfl)|(rw[eX];simp),by first|exact .inr ⟨rfl,rfl⟩|exact .inl ⟨rfl,rfl⟩⟩,?_⟩;(conv=>whnf);exact⟨M.length - (i+1),(by show _<M.length - i;omega),(i+1,(z::zs)++(y1::ys)),⟨hlt,hos⟩,rfl,⟨rfl,rfl,rfl,rfl,b8 (by omega),trivial⟩,_,rfl,rfl⟩
 ·rw[e] at hgy;refine⟨cN _,.agg (k9 k kids A B op yes),by rw[aC];exact hgy,rfl,?_⟩;conv=>whnf
  refine aF (fun heq=>?_) (fun heq=>?_)<;>conv=>whnf
  ·exfalso;apply hk;have:=eq_of_beq heq;omega
  refine⟨cN _,.agg (k9 k kids A B op yes),by rw[aC];exact hgy,rfl,?_⟩;conv=>whnf
  have hyng:y.ng=.agg (k9 k kids A B op yes):=by show GV.agg y.ncs=_;rw[e]
  rw[h2] at hos hle1;simp only[aV] at hle1;cases o with
  |nil=>
   refine⟨⟨rfl,BK _,by show(k8 (([]:List Tree))).length+1<=4294967296;rw[eX];omega⟩,k8 (([]:List Tree)++[y]),(([]:List Tree)++[y]).length,⟨(by show k8 (([]:List Tree)++[y])=k8 (([]:List Tree))++[GV.agg (k9 k kids A B op yes)];rw[<-hyng];unfold k8;rw[cO];rfl),by show _=(k8 (([]:List Tree))).length+1;rw[eX,aD];rfl⟩,?_⟩;(conv=>whnf);refine⟨⟨zL _,by first|rfl|(rw[eX];rfl)|(rw[eX];simp),by first|exact .inr ⟨rfl,rfl⟩|exact .inl ⟨rfl,rfl⟩⟩,?_⟩;(conv=>whnf);exact⟨M.length - (i+1),(by show _<M.length - i;omega),(i+1,([]:List Tree)++[y]),⟨hlt,hos⟩,rfl,⟨rfl,rfl,rfl,rfl,b8 (by omega),trivial⟩,_,rfl,rfl⟩
  |cons z zs=>
   refine⟨⟨rfl,BK _,by show(k8 ((z::zs))).length+1<=4294967296;rw[eX];omega⟩,k8 ((z::zs)++[y]),((z::zs)++[y]).length,⟨(by show k8 ((z::zs)++[y])=k8 ((z::zs))++[GV.agg (k9 k kids A B op yes)];rw[<-hyng];unfold k8;rw[cO];rfl),by show _=(k8 ((z::zs))).length+1;rw[eX,aD];rfl⟩,?_⟩;(conv=>whnf);refine⟨⟨zL _,by first|rfl|(rw[eX];rfl)|(rw[eX];simp),by first|exact .inr ⟨rfl,rfl⟩|exact .inl ⟨rfl,rfl⟩⟩,?_⟩;(conv=>whnf);exact⟨M.length - (i+1),(by show _<M.length - i;omega),(i+1,(z::zs)++[y]),⟨hlt,hos⟩,rfl,⟨rfl,rfl,rfl,rfl,b8 (by omega),trivial⟩,_,rfl,rfl⟩
