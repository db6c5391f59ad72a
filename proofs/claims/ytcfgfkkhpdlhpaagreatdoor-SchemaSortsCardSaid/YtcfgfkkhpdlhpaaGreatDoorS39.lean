/-
  A part of the proof of SchemaSorts.
-/
import Derived.Test.YtcfgfkkhpdlhpaaGreatDoorS38
set_option linter.all false
set_option maxRecDepth 100000
namespace Go.Proofs.YtcfgfkkhpdlhpaaGreatDoor
open Go.RowKit
def jY (k:Nat) (kids:List GV) (a b:Term) (op:By) (yes:Bool):List GV:=.i .i64 k::.sl .none kids::(W6 a++(W6 b++[.s op,.b yes]))
def CY {α:Type} (a:Bool) (p:α×α):α:=if a then p.2 else p.1
def nk:Tree->List GV×(List GV×List GV)
 |.pair b l r=>let ks:=CY b (nk l).2++CY b (nk r).2
   let cs:=jY (l8 b) ks t0 t0 [] false
   (cs,if b then([.agg cs],ks) else(ks,[.agg cs]))
 |.no t=>let cs:=jY 3 [.agg (nk t).1] t0 t0 [] false
   (cs,[.agg cs],[.agg cs])
 |.test op l r=>let cs:=jY 4 [] l r op false
   (cs,[.agg cs],[.agg cs])
 |.truth b=>let cs:=jY 5 [] t0 t0 [] b
   (cs,[.agg cs],[.agg cs])
def Tree.ncs (t:Tree):List GV:=(nk t).1
def Tree.ng (t:Tree):GV:=.agg t.ncs
def jX (l:List Tree):List GV:=l.map Tree.ng
theorem AD (a:Bool):∀t:Tree,CY a (nk t).2=jX (t.sides a)
 |.pair b l r=>by
  have h1:=AD a l;have h2:=AD a r;unfold Tree.sides;by_cases hab:a=b
  ·subst hab;rw[aF rfl];unfold jX at*;rw[cX,<-h1,<-h2];cases a<;>rfl
  ·rw[aD hab];cases a<;>cases b<;>first|rfl|exact absurd rfl hab
 |.no t=>by cases a<;>rfl
 |.test _ _ _=>by cases a<;>rfl
 |.truth _=>by cases a<;>rfl
theorem tV (a:Bool) (l r:Tree):(Tree.pair a l r).ncs=jY (l8 a) (jX ((Tree.pair a l r).sides a)) t0 t0 [] false:=by
 show jY (l8 a) (CY a (nk l).2++CY a (nk r).2) t0 t0 [] false=_;rw[AD,AD];congr 1;have e:(Tree.pair a l r).sides a=l.sides a++r.sides a:=aF rfl;rw[e];unfold jX;rw[cX]
theorem XC (t:Tree):(Tree.no t).ncs=jY 3 [t.ng] t0 t0 [] false:=rfl
theorem N6 (op:By) (l r:Term):(Tree.test op l r).ncs=jY 4 [] l r op false:=rfl
theorem IQ (b:Bool):(Tree.truth b).ncs=jY 5 [] t0 t0 [] b:=rfl
theorem jL [MaxL] {k:Nat} {kids:List GV} (h:ClL kids) (a b:Term) (op:By) (yes:Bool):ClL (jY k kids a b op yes):=.cons (.i _ _) (.cons (bT h) (fun _=>rfl))
theorem ClL.app [MaxL] {a b:List GV} (ha:ClL a) (hb:ClL b):ClL (a++b):=fun f=>by rw[cX,ha f,hb f]
theorem S5 [MaxL]:∀t:Tree,ClL (nk t).1/\(∀a,ClL (CY a (nk t).2))
 |.pair b l r=>by
  have h1:=S5 l;have h2:=S5 r;have hk:ClL (CY b (nk l).2++CY b (nk r).2):=ClL.app (h1.2 b) (h2.2 b);have hc:=jL (k:=l8 b) hk t0 t0 [] false;exact⟨hc,fun a=>by
   cases a<;>cases b<;>first|exact hk|exact cC (eL hc) .nil⟩
 |.no t=>by
  have hc:=jL (k:=3) (cC (eL (S5 t).1) .nil) t0 t0 [] false;exact⟨hc,fun a=>by cases a<;>exact cC (eL hc) .nil⟩
 |.test op l r=>by
  have hc:=jL (k:=4) dN l r op false;exact⟨hc,fun a=>by cases a<;>exact cC (eL hc) .nil⟩
 |.truth b=>by
  have hc:=jL (k:=5) dN t0 t0 [] b;exact⟨hc,fun a=>by cases a<;>exact cC (eL hc) .nil⟩
theorem Tree.ncs_cl [MaxL] (t:Tree):ClL t.ncs:=(S5 t).1
theorem Tree.ng_cl [MaxL] (t:Tree):Cl t.ng:=eL t.ncs_cl
theorem rI [MaxL] (l:List Tree):ClL (jX l):=gI Tree.ng_cl l
theorem S6 (t:Tree):t.ncs.length=14:=by cases t<;>rfl
theorem eZ (l:List Tree):(jX l).length=l.length:=by simp[jX]
theorem BX (l:List Tree):(jX l).all (fun x=>x.cells.length==14)=true:=by
 rw[aS];intro x hx;obtain⟨t,_,rfl⟩:=List.mem_map.1 hx;show(t.ncs.length==14)=true;rw[S6];rfl
theorem N5 (l:List Tree):(jX l).all (rY 14)=true:=by
 rw[aS];intro x hx;obtain⟨t,_,rfl⟩:=List.mem_map.1 hx;have:=S6 t;cases t<;>rfl
theorem FX (a:Bool) (t:Tree):(t.ncs=jY (l8 a) (jX (t.sides a)) t0 t0 [] false/\2<=(t.sides a).length)∨(∃k kids x y op yes,t.ncs=jY k kids x y op yes/\k≠l8 a/\t.sides a=[t]):=by
 cases t with
 |pair b l r=>
  by_cases hab:a=b
  ·subst hab;refine .inl ⟨tV a l r,?_⟩;have e:(Tree.pair a l r).sides a=l.sides a++r.sides a:=aF rfl;rw[e,aG];have h1:=List.length_pos_iff.2 (qY a l);have h2:=List.length_pos_iff.2 (qY a r);omega
  ·exact .inr ⟨_,_,_,_,_,_,tV b l r,(by cases a<;>cases b<;>first|exact absurd rfl hab|decide),aD hab⟩
 |no t=>exact .inr ⟨_,_,_,_,_,_,XC t,(by cases a<;>decide),rfl⟩
 |test op l r=>exact .inr ⟨_,_,_,_,_,_,N6 op l r,(by cases a<;>decide),rfl⟩
 |truth b=>exact .inr ⟨_,_,_,_,_,_,IQ b,(by cases a<;>decide),rfl⟩
def fX (a:Bool) (x:Tree) (l:List Tree):Tree:=l.foldl (fun q y=>.pair a q y) x
theorem wK (a:Bool):∀(l:List Tree) (x:Tree),(fX a x l).sides a=(x::l).flatMap (Tree.sides a)
 |[],x=>by simp[fX]
 |y::l,x=>by
  have:=wK a l (.pair a x y);show(fX a (.pair a x y) l).sides a=_;rw[this,f8,f8,f8];have e:(Tree.pair a x y).sides a=x.sides a++y.sides a:=aF rfl;rw[e,bG]
theorem hY [MaxL] {c:GV} {k:Tok} {xs rest:List GV}:Wk (.agg (c::.sl k xs::rest)) (.agg (c::.sl .none xs::rest)):=Wk.agg rfl (fun j g g' h h'=>by
 rcases j with _|_|j
 ·simp at h h';subst h;subst h';exact .refl _
 ·simp at h h';subst h;subst h';exact bI _ _
 ·simp at h h';rw[h] at h';cases h';exact .refl _)
def XB:List GV:=[.i .i64 0,.sl .full [],.s [],.s [],.i .i64 0,.i .i64 0,.s [],.s [],.s [],.i .i64 0,.i .i64 0,.s [],.s [],.b false]
def K6 (a:Bool) (l:List Tree) (i:Nat):List Tree:=(l.take i).flatMap (Tree.sides a)
theorem U6 {a:Bool} {l:List Tree} {i:Nat} {y:Tree} (h:l[i]?=some y):K6 a l (i+1)=K6 a l i++y.sides a:=by
 unfold K6;rw[bP,h,List.flatMap_append];simp
theorem a05 (a:Bool) (l:List Tree) (i:Nat):(K6 a l i).length<=(l.flatMap (Tree.sides a)).length:=by
 have:l.flatMap (Tree.sides a)=K6 a l i++(l.drop i).flatMap (Tree.sides a):=by
  unfold K6;rw[<-List.flatMap_append,e8]
 rw[this,aG];omega
theorem ML [MaxL] (a:Bool) (x:Tree) (l:List Tree) (hl:l.length<=100000) (hs:((x::l).flatMap (Tree.sides a)).length<=1000000):
  SC Tryz.prog 269 [.i .i64 (l8 a:Nat),.sl .none (jX (x::l))] [] (.val (fX a x l).ng) []:=by
 have hjs:=wK a l x;have hform:=FX a (fX a x l);have hcl:=(fX a x l).ng_cl;generalize hm:fX a x l=m at*;have hlen:(x::l).length<=100001:=by simp;omega
 generalize x::l=M at*;clear hm hl l x;have hle:=a05 a M;refine cY Tryz.func269 rfl ?_;conv=>whnf
 refine eT (fun q:Nat×List Tree=>q.1<=M.length/\K6 a M q.1=q.2) (fun q=>[(0,.i .i64 (l8 a:Nat)),(1,.sl .none (jX M)),(4,.ptr 0 0),(5,.sl (.own 1) (jX q.2)),(6,.i .i64 (q.1:Nat))])
  (fun q=>⟨[.box 211 XB,ow 211 14 q.2.length],0,[]⟩) (fun q=>M.length - q.1) (0,[]) ⟨zL _,rfl⟩ ⟨rfl,rfl,rfl,rfl,rfl,trivial⟩ rfl (fun _ _=>rL _) (fun q _=>by simp only[iX,oB];rfl) (fun q _ e he=>?_) (fun q φ0 hi=>?_)
 ·refine⟨?_,rfl,?_⟩
  ·show[GObj.box _ (XB.map (GV.ren e)),(ow _ 14 _).ren e]=_;rw[z7];rfl
  ·show[_,(GV.sl .none (jX M)).ren e,GV.ptr (e 0) 0,(GV.sl (.own 1) (jX q.2)).ren e,_]=_;rw[pR (he 1 (by simp)) (rI _),bT (rI M) e,he 0 (by simp)];rfl
 obtain⟨i,o⟩:=q;obtain⟨hi,ho⟩:=hi;replace hi:i<=M.length:=hi;replace ho:K6 a M i=o:=ho;conv=>whnf
 have hnl:(jX M).length=M.length:=eZ M;refine aE (fun h=>?_) (fun h=>?_)<;>conv=>whnf
 rotate_left
 ·have hie:i=M.length:=by have:=aC h;rw[hnl] at this;omega
  have ho':o=m.sides a:=by rw[<-ho,hjs,hie];unfold K6;rw[b6]
  rcases hform with⟨e,h2⟩|⟨k,kids,A,B,op,yes,e,hk,h2⟩
  ·rw[ho'];have hcl':Cl (.agg (jY (l8 a) (jX (m.sides a)) t0 t0 [] false)):=by rw[<-e];exact hcl
   have hng:m.ng=.agg (jY (l8 a) (jX (m.sides a)) t0 t0 [] false):=by show GV.agg m.ncs=_;rw[e]
   rw[hng];have hml:=eZ (m.sides a);generalize m.sides a=ms at*;refine aE (fun h1=>?_) (fun h1=>?_)<;>conv=>whnf
   ·have h3:((jX ms).length:Int)=1:=by simpa using h1
    omega
   refine⟨_,⟨rfl,zL _,rfl,bL rfl⟩,?_⟩;(conv=>whnf);exact bE hY hcl'
  ·rw[ho',h2];have hng:m.ng=.agg (jY k kids A B op yes):=by show GV.agg m.ncs=_;rw[e]
   have hgm:(jX [m])[0]?=some (.agg (jY k kids A B op yes)):=by rw[<-hng];rfl
   rw[hng] at hcl⊢;refine⟨dE 0,.agg (jY k kids A B op yes),hgm,rfl,?_⟩;(conv=>whnf);refine⟨_,⟨rfl,zL _,rfl,bL rfl⟩,?_⟩;(conv=>whnf);exact bE (.refl _) hcl
 have hlt:i<M.length:=by have:=aB h;rw[hnl] at this;omega
 obtain⟨y,hy⟩:∃y,M[i]?=some y:=⟨M[i],gL hlt⟩;have hgy:(jX M)[i]?=some (.agg y.ncs):=by unfold jX;rw[aM,hy];rfl
 have hos:=U6 (a:=a) hy;have hle1:=hle (i+1);rw[hos,aG] at hle1;rw[ho] at hos hle1;rcases FX a y with⟨e,h2⟩|⟨k,kids,A,B,op,yes,e,hk,h2⟩
 ·rw[e] at hgy;generalize y.sides a=ys at*;rcases ys with _|⟨y1,ys⟩
  ·simp at h2
  refine⟨cN _,.agg (jY (l8 a) (jX (y1::ys)) t0 t0 [] false),by rw[aA];exact hgy,rfl,?_⟩;conv=>whnf
  refine aE (fun heq=>?_) (fun heq=>?_)<;>conv=>whnf
  rotate_left
  ·simp at heq
  refine⟨cN _,.agg (jY (l8 a) (jX (y1::ys)) t0 t0 [] false),by rw[aA];exact hgy,rfl,?_⟩;conv=>whnf
  cases o with
  |nil=>
   refine⟨⟨N5 (y1::ys),BX _,by show(jX (([]:List Tree))).length+(jX (y1::ys)).length<=4294967296;rw[eZ,eZ];omega⟩,jX (([]:List Tree)++(y1::ys)),(([]:List Tree)++(y1::ys)).length,⟨(by show jX (([]:List Tree)++y1::ys)=jX (([]:List Tree))++jX (y1::ys);unfold jX;rw[cX]),by show _=(jX (([]:List Tree))).length+(jX (y1::ys)).length;rw[eZ,eZ,aG]⟩,?_⟩;(conv=>whnf);refine⟨⟨zL _,by first|rfl|(rw[eZ];rfl)|(rw[eZ];simp),by first|exact .inr ⟨rfl,rfl⟩|exact .inl ⟨rfl,rfl⟩⟩,?_⟩;(conv=>whnf);exact⟨M.length - (i+1),(by show _<M.length - i;omega),(i+1,([]:List Tree)++(y1::ys)),⟨hlt,hos⟩,rfl,⟨rfl,rfl,rfl,rfl,b7 (by omega),trivial⟩,_,rfl,rfl⟩
  |cons z zs=>
   refine⟨⟨N5 (y1::ys),BX _,by show(jX ((z::zs))).length+(jX (y1::ys)).length<=4294967296;rw[eZ,eZ];omega⟩,jX ((z::zs)++(y1::ys)),((z::zs)++(y1::ys)).length,⟨(by show jX ((z::zs)++y1::ys)=jX ((z::zs))++jX (y1::ys);unfold jX;rw[cX]),by show _=(jX ((z::zs))).length+(jX (y1::ys)).length;rw[eZ,eZ,aG]⟩,?_⟩;(conv=>whnf);refine⟨⟨zL _,by first|rfl|(rw[eZ];rfl)|(rw[eZ];simp),by first|exact .inr ⟨rfl,rfl⟩|exact .inl ⟨rfl,rfl⟩⟩,?_⟩;(conv=>whnf);exact⟨M.length - (i+1),(by show _<M.length - i;omega),(i+1,(z::zs)++(y1::ys)),⟨hlt,hos⟩,rfl,⟨rfl,rfl,rfl,rfl,b7 (by omega),trivial⟩,_,rfl,rfl⟩
 ·rw[e] at hgy;refine⟨cN _,.agg (jY k kids A B op yes),by rw[aA];exact hgy,rfl,?_⟩;conv=>whnf
  refine aE (fun heq=>?_) (fun heq=>?_)<;>conv=>whnf
  ·exfalso;apply hk;have:=eq_of_beq heq;omega
  refine⟨cN _,.agg (jY k kids A B op yes),by rw[aA];exact hgy,rfl,?_⟩;conv=>whnf
  have hyng:y.ng=.agg (jY k kids A B op yes):=by show GV.agg y.ncs=_;rw[e]
  rw[h2] at hos hle1;simp only[aX] at hle1;cases o with
  |nil=>
   refine⟨⟨rfl,BX _,by show(jX (([]:List Tree))).length+1<=4294967296;rw[eZ];omega⟩,jX (([]:List Tree)++[y]),(([]:List Tree)++[y]).length,⟨(by show jX (([]:List Tree)++[y])=jX (([]:List Tree))++[GV.agg (jY k kids A B op yes)];rw[<-hyng];unfold jX;rw[cX];rfl),by show _=(jX (([]:List Tree))).length+1;rw[eZ,aG];rfl⟩,?_⟩;(conv=>whnf);refine⟨⟨zL _,by first|rfl|(rw[eZ];rfl)|(rw[eZ];simp),by first|exact .inr ⟨rfl,rfl⟩|exact .inl ⟨rfl,rfl⟩⟩,?_⟩;(conv=>whnf);exact⟨M.length - (i+1),(by show _<M.length - i;omega),(i+1,([]:List Tree)++[y]),⟨hlt,hos⟩,rfl,⟨rfl,rfl,rfl,rfl,b7 (by omega),trivial⟩,_,rfl,rfl⟩
  |cons z zs=>
   refine⟨⟨rfl,BX _,by show(jX ((z::zs))).length+1<=4294967296;rw[eZ];omega⟩,jX ((z::zs)++[y]),((z::zs)++[y]).length,⟨(by show jX ((z::zs)++[y])=jX ((z::zs))++[GV.agg (jY k kids A B op yes)];rw[<-hyng];unfold jX;rw[cX];rfl),by show _=(jX ((z::zs))).length+1;rw[eZ,aG];rfl⟩,?_⟩;(conv=>whnf);refine⟨⟨zL _,by first|rfl|(rw[eZ];rfl)|(rw[eZ];simp),by first|exact .inr ⟨rfl,rfl⟩|exact .inl ⟨rfl,rfl⟩⟩,?_⟩;(conv=>whnf);exact⟨M.length - (i+1),(by show _<M.length - i;omega),(i+1,(z::zs)++[y]),⟨hlt,hos⟩,rfl,⟨rfl,rfl,rfl,rfl,b7 (by omega),trivial⟩,_,rfl,rfl⟩
