/-
  A part of the proof of SchemaChosen.
-/
import Derived.Test.YtcfgfkkhpdlhpaaGreatDoorR38
set_option linter.all false
set_option maxRecDepth 100000
namespace Go.Proofs.YtcfgfkkhpdlhpaaGreatDoor
open Go.RowKit
def jU (k:Nat) (kids:List GV) (a b:Term) (op:By) (yes:Bool):List GV:=.i .i64 k::.sl .none kids::(UR a++(UR b++[.s op,.b yes]))
def CG {α:Type} (a:Bool) (p:α×α):α:=if a then p.2 else p.1
def nk:Tree->List GV×(List GV×List GV)
 |.pair b l r=>let ks:=CG b (nk l).2++CG b (nk r).2
   let cs:=jU (kX b) ks t0 t0 [] false
   (cs,if b then([.agg cs],ks) else(ks,[.agg cs]))
 |.no t=>let cs:=jU 3 [.agg (nk t).1] t0 t0 [] false
   (cs,[.agg cs],[.agg cs])
 |.test op l r=>let cs:=jU 4 [] l r op false
   (cs,[.agg cs],[.agg cs])
 |.truth b=>let cs:=jU 5 [] t0 t0 [] b
   (cs,[.agg cs],[.agg cs])
def Tree.ncs (t:Tree):List GV:=(nk t).1
def Tree.ng (t:Tree):GV:=.agg t.ncs
def jS (l:List Tree):List GV:=l.map Tree.ng
theorem zS (a:Bool):∀t:Tree,CG a (nk t).2=jS (t.sides a)
 |.pair b l r=>by
  have h1:=zS a l;have h2:=zS a r;unfold Tree.sides;by_cases hab:a=b
  ·subst hab;rw[aG rfl];unfold jS at*;rw[cZ,<-h1,<-h2];cases a<;>rfl
  ·rw[aD hab];cases a<;>cases b<;>first|rfl|exact absurd rfl hab
 |.no t=>by cases a<;>rfl
 |.test _ _ _=>by cases a<;>rfl
 |.truth _=>by cases a<;>rfl
theorem t7 (a:Bool) (l r:Tree):(Tree.pair a l r).ncs=jU (kX a) (jS ((Tree.pair a l r).sides a)) t0 t0 [] false:=by
 show jU (kX a) (CG a (nk l).2++CG a (nk r).2) t0 t0 [] false=_;rw[zS,zS];congr 1;have e:(Tree.pair a l r).sides a=l.sides a++r.sides a:=aG rfl;rw[e];unfold jS;rw[cZ]
theorem VW (t:Tree):(Tree.no t).ncs=jU 3 [t.ng] t0 t0 [] false:=rfl
theorem M4 (op:By) (l r:Term):(Tree.test op l r).ncs=jU 4 [] l r op false:=rfl
theorem I0 (b:Bool):(Tree.truth b).ncs=jU 5 [] t0 t0 [] b:=rfl
theorem j9 [MaxL] {k:Nat} {kids:List GV} (h:ClL kids) (a b:Term) (op:By) (yes:Bool):ClL (jU k kids a b op yes):=.cons (.i _ _) (.cons (bS h) (fun _=>rfl))
theorem ClL.app [MaxL] {a b:List GV} (ha:ClL a) (hb:ClL b):ClL (a++b):=fun f=>by rw[cZ,ha f,hb f]
theorem QL [MaxL]:∀t:Tree,ClL (nk t).1/\(∀a,ClL (CG a (nk t).2))
 |.pair b l r=>by
  have h1:=QL l;have h2:=QL r;have hk:ClL (CG b (nk l).2++CG b (nk r).2):=ClL.app (h1.2 b) (h2.2 b);have hc:=j9 (k:=kX b) hk t0 t0 [] false;exact⟨hc,fun a=>by
   cases a<;>cases b<;>first|exact hk|exact cC (eL hc) .nil⟩
 |.no t=>by
  have hc:=j9 (k:=3) (cC (eL (QL t).1) .nil) t0 t0 [] false;exact⟨hc,fun a=>by cases a<;>exact cC (eL hc) .nil⟩
 |.test op l r=>by
  have hc:=j9 (k:=4) dL l r op false;exact⟨hc,fun a=>by cases a<;>exact cC (eL hc) .nil⟩
 |.truth b=>by
  have hc:=j9 (k:=5) dL t0 t0 [] b;exact⟨hc,fun a=>by cases a<;>exact cC (eL hc) .nil⟩
theorem Tree.ncs_cl [MaxL] (t:Tree):ClL t.ncs:=(QL t).1
theorem Tree.ng_cl [MaxL] (t:Tree):Cl t.ng:=eL t.ncs_cl
theorem qX [MaxL] (l:List Tree):ClL (jS l):=gI Tree.ng_cl l
theorem QM (t:Tree):t.ncs.length=14:=by cases t<;>rfl
theorem eY (l:List Tree):(jS l).length=l.length:=by simp[jS]
theorem BG (l:List Tree):(jS l).all (fun x=>x.cells.length==14)=true:=by
 rw[aS];intro x hx;obtain⟨t,_,rfl⟩:=List.mem_map.1 hx;show(t.ncs.length==14)=true;rw[QM];rfl
theorem M3 (l:List Tree):(jS l).all (rJ 14)=true:=by
 rw[aS];intro x hx;obtain⟨t,_,rfl⟩:=List.mem_map.1 hx;have:=QM t;cases t<;>rfl
theorem F4 (a:Bool) (t:Tree):(t.ncs=jU (kX a) (jS (t.sides a)) t0 t0 [] false/\2<=(t.sides a).length)∨(∃k kids x y op yes,t.ncs=jU k kids x y op yes/\k≠kX a/\t.sides a=[t]):=by
 cases t with
 |pair b l r=>
  by_cases hab:a=b
  ·subst hab;refine .inl ⟨t7 a l r,?_⟩;have e:(Tree.pair a l r).sides a=l.sides a++r.sides a:=aG rfl;rw[e,aE];have h1:=List.length_pos_iff.2 (qL a l);have h2:=List.length_pos_iff.2 (qL a r);omega
  ·exact .inr ⟨_,_,_,_,_,_,t7 b l r,(by cases a<;>cases b<;>first|exact absurd rfl hab|decide),aD hab⟩
 |no t=>exact .inr ⟨_,_,_,_,_,_,VW t,(by cases a<;>decide),rfl⟩
 |test op l r=>exact .inr ⟨_,_,_,_,_,_,M4 op l r,(by cases a<;>decide),rfl⟩
 |truth b=>exact .inr ⟨_,_,_,_,_,_,I0 b,(by cases a<;>decide),rfl⟩
def fX (a:Bool) (x:Tree) (l:List Tree):Tree:=l.foldl (fun q y=>.pair a q y) x
theorem vW (a:Bool):∀(l:List Tree) (x:Tree),(fX a x l).sides a=(x::l).flatMap (Tree.sides a)
 |[],x=>by simp[fX]
 |y::l,x=>by
  have:=vW a l (.pair a x y);show(fX a (.pair a x y) l).sides a=_;rw[this,f9,f9,f9];have e:(Tree.pair a x y).sides a=x.sides a++y.sides a:=aG rfl;rw[e,bF]
theorem hU [MaxL] {c:GV} {k:Tok} {xs rest:List GV}:Wk (.agg (c::.sl k xs::rest)) (.agg (c::.sl .none xs::rest)):=Wk.agg rfl (fun j g g' h h'=>by
 rcases j with _|_|j
 ·simp at h h';subst h;subst h';exact .refl _
 ·simp at h h';subst h;subst h';exact bI _ _
 ·simp at h h';rw[h] at h';cases h';exact .refl _)
def VV:List GV:=[.i .i64 0,.sl .full [],.s [],.s [],.i .i64 0,.i .i64 0,.s [],.s [],.s [],.i .i64 0,.i .i64 0,.s [],.s [],.b false]
def JE (a:Bool) (l:List Tree) (i:Nat):List Tree:=(l.take i).flatMap (Tree.sides a)
theorem SS {a:Bool} {l:List Tree} {i:Nat} {y:Tree} (h:l[i]?=some y):JE a l (i+1)=JE a l i++y.sides a:=by
 unfold JE;rw[bR,h,List.flatMap_append];simp
theorem YU (a:Bool) (l:List Tree) (i:Nat):(JE a l i).length<=(l.flatMap (Tree.sides a)).length:=by
 have:l.flatMap (Tree.sides a)=JE a l i++(l.drop i).flatMap (Tree.sides a):=by
  unfold JE;rw[<-List.flatMap_append,dZ]
 rw[this,aE];omega
theorem LL [MaxL] (a:Bool) (x:Tree) (l:List Tree) (hl:l.length<=100000) (hs:((x::l).flatMap (Tree.sides a)).length<=1000000):
  SC Tryz.prog 269 [.i .i64 (kX a:Nat),.sl .none (jS (x::l))] [] (.val (fX a x l).ng) []:=by
 have hjs:=vW a l x;have hform:=F4 a (fX a x l);have hcl:=(fX a x l).ng_cl;generalize hm:fX a x l=m at*;have hlen:(x::l).length<=100001:=by simp;omega
 generalize x::l=M at*;clear hm hl l x;have hle:=YU a M;refine cX Tryz.func269 rfl ?_;conv=>whnf
 refine eS (fun q:Nat×List Tree=>q.1<=M.length/\JE a M q.1=q.2) (fun q=>[(0,.i .i64 (kX a:Nat)),(1,.sl .none (jS M)),(4,.ptr 0 0),(5,.sl (.own 1) (jS q.2)),(6,.i .i64 (q.1:Nat))])
  (fun q=>⟨[.box 211 VV,ow 211 14 q.2.length],0,[]⟩) (fun q=>M.length - q.1) (0,[]) ⟨zL _,rfl⟩ ⟨rfl,rfl,rfl,rfl,rfl,trivial⟩ rfl (fun _ _=>rL _) (fun q _=>by simp only[List.all_cons,rR];rfl) (fun q _ e he=>?_) (fun q φ0 hi=>?_)
 ·refine⟨?_,rfl,?_⟩
  ·show[GObj.box _ (VV.map (GV.ren e)),(ow _ 14 _).ren e]=_;rw[yJ];rfl
  ·show[_,(GV.sl .none (jS M)).ren e,GV.ptr (e 0) 0,(GV.sl (.own 1) (jS q.2)).ren e,_]=_;rw[p8 (he 1 (by simp)) (qX _),bS (qX M) e,he 0 (by simp)];rfl
 obtain⟨i,o⟩:=q;obtain⟨hi,ho⟩:=hi;replace hi:i<=M.length:=hi;replace ho:JE a M i=o:=ho;conv=>whnf
 have hnl:(jS M).length=M.length:=eY M;refine aF (fun h=>?_) (fun h=>?_)<;>conv=>whnf
 rotate_left
 ·have hie:i=M.length:=by have:=aC h;rw[hnl] at this;omega
  have ho':o=m.sides a:=by rw[<-ho,hjs,hie];unfold JE;rw[b5]
  rcases hform with⟨e,h2⟩|⟨k,kids,A,B,op,yes,e,hk,h2⟩
  ·rw[ho'];have hcl':Cl (.agg (jU (kX a) (jS (m.sides a)) t0 t0 [] false)):=by rw[<-e];exact hcl
   have hng:m.ng=.agg (jU (kX a) (jS (m.sides a)) t0 t0 [] false):=by show GV.agg m.ncs=_;rw[e]
   rw[hng];have hml:=eY (m.sides a);generalize m.sides a=ms at*;refine aF (fun h1=>?_) (fun h1=>?_)<;>conv=>whnf
   ·have h3:((jS ms).length:Int)=1:=by simpa using h1
    omega
   refine⟨_,⟨rfl,zL _,rfl,bL rfl⟩,?_⟩;(conv=>whnf);exact bC hU hcl'
  ·rw[ho',h2];have hng:m.ng=.agg (jU k kids A B op yes):=by show GV.agg m.ncs=_;rw[e]
   have hgm:(jS [m])[0]?=some (.agg (jU k kids A B op yes)):=by rw[<-hng];rfl
   rw[hng] at hcl⊢;refine⟨dP 0,.agg (jU k kids A B op yes),hgm,rfl,?_⟩;(conv=>whnf);refine⟨_,⟨rfl,zL _,rfl,bL rfl⟩,?_⟩;(conv=>whnf);exact bC (.refl _) hcl
 have hlt:i<M.length:=by have:=aB h;rw[hnl] at this;omega
 obtain⟨y,hy⟩:∃y,M[i]?=some y:=⟨M[i],gL hlt⟩;have hgy:(jS M)[i]?=some (.agg y.ncs):=by unfold jS;rw[aM,hy];rfl
 have hos:=SS (a:=a) hy;have hle1:=hle (i+1);rw[hos,aE] at hle1;rw[ho] at hos hle1;rcases F4 a y with⟨e,h2⟩|⟨k,kids,A,B,op,yes,e,hk,h2⟩
 ·rw[e] at hgy;generalize y.sides a=ys at*;rcases ys with _|⟨y1,ys⟩
  ·simp at h2
  refine⟨cN _,.agg (jU (kX a) (jS (y1::ys)) t0 t0 [] false),by rw[aA];exact hgy,rfl,?_⟩;conv=>whnf
  refine aF (fun heq=>?_) (fun heq=>?_)<;>conv=>whnf
  rotate_left
  ·simp at heq
  refine⟨cN _,.agg (jU (kX a) (jS (y1::ys)) t0 t0 [] false),by rw[aA];exact hgy,rfl,?_⟩;conv=>whnf
  cases o with
  |nil=>
   refine⟨⟨M3 (y1::ys),BG _,by show(jS (([]:List Tree))).length+(jS (y1::ys)).length<=4294967296;rw[eY,eY];omega⟩,jS (([]:List Tree)++(y1::ys)),(([]:List Tree)++(y1::ys)).length,⟨(by show jS (([]:List Tree)++y1::ys)=jS (([]:List Tree))++jS (y1::ys);unfold jS;rw[cZ]),by show _=(jS (([]:List Tree))).length+(jS (y1::ys)).length;rw[eY,eY,aE]⟩,?_⟩;(conv=>whnf);refine⟨⟨zL _,by first|rfl|(rw[eY];rfl)|(rw[eY];simp),by first|exact .inr ⟨rfl,rfl⟩|exact .inl ⟨rfl,rfl⟩⟩,?_⟩;(conv=>whnf);exact⟨M.length - (i+1),(by show _<M.length - i;omega),(i+1,([]:List Tree)++(y1::ys)),⟨hlt,hos⟩,rfl,⟨rfl,rfl,rfl,rfl,b7 (by omega),trivial⟩,_,rfl,rfl⟩
  |cons z zs=>
   refine⟨⟨M3 (y1::ys),BG _,by show(jS ((z::zs))).length+(jS (y1::ys)).length<=4294967296;rw[eY,eY];omega⟩,jS ((z::zs)++(y1::ys)),((z::zs)++(y1::ys)).length,⟨(by show jS ((z::zs)++y1::ys)=jS ((z::zs))++jS (y1::ys);unfold jS;rw[cZ]),by show _=(jS ((z::zs))).length+(jS (y1::ys)).length;rw[eY,eY,aE]⟩,?_⟩;(conv=>whnf);refine⟨⟨zL _,by first|rfl|(rw[eY];rfl)|(rw[eY];simp),by first|exact .inr ⟨rfl,rfl⟩|exact .inl ⟨rfl,rfl⟩⟩,?_⟩;(conv=>whnf);exact⟨M.length - (i+1),(by show _<M.length - i;omega),(i+1,(z::zs)++(y1::ys)),⟨hlt,hos⟩,rfl,⟨rfl,rfl,rfl,rfl,b7 (by omega),trivial⟩,_,rfl,rfl⟩
 ·rw[e] at hgy;refine⟨cN _,.agg (jU k kids A B op yes),by rw[aA];exact hgy,rfl,?_⟩;conv=>whnf
  refine aF (fun heq=>?_) (fun heq=>?_)<;>conv=>whnf
  ·exfalso;apply hk;have:=eq_of_beq heq;omega
  refine⟨cN _,.agg (jU k kids A B op yes),by rw[aA];exact hgy,rfl,?_⟩;conv=>whnf
  have hyng:y.ng=.agg (jU k kids A B op yes):=by show GV.agg y.ncs=_;rw[e]
  rw[h2] at hos hle1;simp only[aX] at hle1;cases o with
  |nil=>
   refine⟨⟨rfl,BG _,by show(jS (([]:List Tree))).length+1<=4294967296;rw[eY];omega⟩,jS (([]:List Tree)++[y]),(([]:List Tree)++[y]).length,⟨(by show jS (([]:List Tree)++[y])=jS (([]:List Tree))++[GV.agg (jU k kids A B op yes)];rw[<-hyng];unfold jS;rw[cZ];rfl),by show _=(jS (([]:List Tree))).length+1;rw[eY,aE];rfl⟩,?_⟩;(conv=>whnf);refine⟨⟨zL _,by first|rfl|(rw[eY];rfl)|(rw[eY];simp),by first|exact .inr ⟨rfl,rfl⟩|exact .inl ⟨rfl,rfl⟩⟩,?_⟩;(conv=>whnf);exact⟨M.length - (i+1),(by show _<M.length - i;omega),(i+1,([]:List Tree)++[y]),⟨hlt,hos⟩,rfl,⟨rfl,rfl,rfl,rfl,b7 (by omega),trivial⟩,_,rfl,rfl⟩
  |cons z zs=>
   refine⟨⟨rfl,BG _,by show(jS ((z::zs))).length+1<=4294967296;rw[eY];omega⟩,jS ((z::zs)++[y]),((z::zs)++[y]).length,⟨(by show jS ((z::zs)++[y])=jS ((z::zs))++[GV.agg (jU k kids A B op yes)];rw[<-hyng];unfold jS;rw[cZ];rfl),by show _=(jS ((z::zs))).length+1;rw[eY,aE];rfl⟩,?_⟩;(conv=>whnf);refine⟨⟨zL _,by first|rfl|(rw[eY];rfl)|(rw[eY];simp),by first|exact .inr ⟨rfl,rfl⟩|exact .inl ⟨rfl,rfl⟩⟩,?_⟩;(conv=>whnf);exact⟨M.length - (i+1),(by show _<M.length - i;omega),(i+1,(z::zs)++[y]),⟨hlt,hos⟩,rfl,⟨rfl,rfl,rfl,rfl,b7 (by omega),trivial⟩,_,rfl,rfl⟩
