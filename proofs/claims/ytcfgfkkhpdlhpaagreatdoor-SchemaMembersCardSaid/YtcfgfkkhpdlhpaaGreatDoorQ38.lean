/-
  A part of the proof of SchemaMembers.
-/
import Derived.Test.YtcfgfkkhpdlhpaaGreatDoorQ37
set_option linter.all false
set_option maxRecDepth 100000
namespace Go.Proofs.YtcfgfkkhpdlhpaaGreatDoor
open Go.RowKit
def jW (k:Nat) (kids:List GV) (a b:Term) (op:By) (yes:Bool):List GV:=.i .i64 k::.sl .none kids::(U8 a++(U8 b++[.s op,.b yes]))
def C6 {α:Type} (a:Bool) (p:α×α):α:=if a then p.2 else p.1
def nk:Tree->List GV×(List GV×List GV)
 |.pair b l r=>let ks:=C6 b (nk l).2++C6 b (nk r).2
   let cs:=jW (kW b) ks t0 t0 [] false
   (cs,if b then([.agg cs],ks) else(ks,[.agg cs]))
 |.no t=>let cs:=jW 3 [.agg (nk t).1] t0 t0 [] false
   (cs,[.agg cs],[.agg cs])
 |.test op l r=>let cs:=jW 4 [] l r op false
   (cs,[.agg cs],[.agg cs])
 |.truth b=>let cs:=jW 5 [] t0 t0 [] b
   (cs,[.agg cs],[.agg cs])
def Tree.ncs (t:Tree):List GV:=(nk t).1
def Tree.ng (t:Tree):GV:=.agg t.ncs
def jV (l:List Tree):List GV:=l.map Tree.ng
theorem zI (a:Bool):∀t:Tree,C6 a (nk t).2=jV (t.sides a)
 |.pair b l r=>by
  have h1:=zI a l;have h2:=zI a r;unfold Tree.sides;by_cases hab:a=b
  ·subst hab;rw[aG rfl];unfold jV at*;rw[d9,<-h1,<-h2];cases a<;>rfl
  ·rw[aE hab];cases a<;>cases b<;>first|rfl|exact absurd rfl hab
 |.no t=>by cases a<;>rfl
 |.test _ _ _=>by cases a<;>rfl
 |.truth _=>by cases a<;>rfl
theorem sV (a:Bool) (l r:Tree):(Tree.pair a l r).ncs=jW (kW a) (jV ((Tree.pair a l r).sides a)) t0 t0 [] false:=by
 show jW (kW a) (C6 a (nk l).2++C6 a (nk r).2) t0 t0 [] false=_;rw[zI,zI];congr 1;have e:(Tree.pair a l r).sides a=l.sides a++r.sides a:=aG rfl;rw[e];unfold jV;rw[d9]
theorem VA (t:Tree):(Tree.no t).ncs=jW 3 [t.ng] t0 t0 [] false:=rfl
theorem LK (op:By) (l r:Term):(Tree.test op l r).ncs=jW 4 [] l r op false:=rfl
theorem HM (b:Bool):(Tree.truth b).ncs=jW 5 [] t0 t0 [] b:=rfl
theorem jI [MaxL] {k:Nat} {kids:List GV} (h:ClL kids) (a b:Term) (op:By) (yes:Bool):ClL (jW k kids a b op yes):=.cons (.i _ _) (.cons (bT h) (fun _=>rfl))
theorem ClL.app [MaxL] {a b:List GV} (ha:ClL a) (hb:ClL b):ClL (a++b):=fun f=>by rw[d9,ha f,hb f]
theorem Q5 [MaxL]:∀t:Tree,ClL (nk t).1/\(∀a,ClL (C6 a (nk t).2))
 |.pair b l r=>by
  have h1:=Q5 l;have h2:=Q5 r;have hk:ClL (C6 b (nk l).2++C6 b (nk r).2):=ClL.app (h1.2 b) (h2.2 b);have hc:=jI (k:=kW b) hk t0 t0 [] false;exact⟨hc,fun a=>by
   cases a<;>cases b<;>first|exact hk|exact cC (eK hc) .nil⟩
 |.no t=>by
  have hc:=jI (k:=3) (cC (eK (Q5 t).1) .nil) t0 t0 [] false;exact⟨hc,fun a=>by cases a<;>exact cC (eK hc) .nil⟩
 |.test op l r=>by
  have hc:=jI (k:=4) dM l r op false;exact⟨hc,fun a=>by cases a<;>exact cC (eK hc) .nil⟩
 |.truth b=>by
  have hc:=jI (k:=5) dM t0 t0 [] b;exact⟨hc,fun a=>by cases a<;>exact cC (eK hc) .nil⟩
theorem Tree.ncs_cl [MaxL] (t:Tree):ClL t.ncs:=(Q5 t).1
theorem Tree.ng_cl [MaxL] (t:Tree):Cl t.ng:=eK t.ncs_cl
theorem qU [MaxL] (l:List Tree):ClL (jV l):=gX Tree.ng_cl l
theorem Q6 (t:Tree):t.ncs.length=14:=by cases t<;>rfl
theorem eV (l:List Tree):(jV l).length=l.length:=by simp[jV]
theorem B3 (l:List Tree):(jV l).all (fun x=>x.cells.length==14)=true:=by
 rw[aS];intro x hx;obtain⟨t,_,rfl⟩:=List.mem_map.1 hx;show(t.ncs.length==14)=true;rw[Q6];rfl
theorem LJ (l:List Tree):(jV l).all (rE 14)=true:=by
 rw[aS];intro x hx;obtain⟨t,_,rfl⟩:=List.mem_map.1 hx;have:=Q6 t;cases t<;>rfl
theorem EO (a:Bool) (t:Tree):(t.ncs=jW (kW a) (jV (t.sides a)) t0 t0 [] false/\2<=(t.sides a).length)∨(∃k kids x y op yes,t.ncs=jW k kids x y op yes/\k≠kW a/\t.sides a=[t]):=by
 cases t with
 |pair b l r=>
  by_cases hab:a=b
  ·subst hab;refine .inl ⟨sV a l r,?_⟩;have e:(Tree.pair a l r).sides a=l.sides a++r.sides a:=aG rfl;rw[e,aD];have h1:=List.length_pos_iff.2 (qH a l);have h2:=List.length_pos_iff.2 (qH a r);omega
  ·exact .inr ⟨_,_,_,_,_,_,sV b l r,(by cases a<;>cases b<;>first|exact absurd rfl hab|decide),aE hab⟩
 |no t=>exact .inr ⟨_,_,_,_,_,_,VA t,(by cases a<;>decide),rfl⟩
 |test op l r=>exact .inr ⟨_,_,_,_,_,_,LK op l r,(by cases a<;>decide),rfl⟩
 |truth b=>exact .inr ⟨_,_,_,_,_,_,HM b,(by cases a<;>decide),rfl⟩
def fV (a:Bool) (x:Tree) (l:List Tree):Tree:=l.foldl (fun q y=>.pair a q y) x
theorem vV (a:Bool):∀(l:List Tree) (x:Tree),(fV a x l).sides a=(x::l).flatMap (Tree.sides a)
 |[],x=>by simp[fV]
 |y::l,x=>by
  have:=vV a l (.pair a x y);show(fV a (.pair a x y) l).sides a=_;rw[this,f5,f5,f5];have e:(Tree.pair a x y).sides a=x.sides a++y.sides a:=aG rfl;rw[e,bB]
theorem gZ [MaxL] {c:GV} {k:Tok} {xs rest:List GV}:Wk (.agg (c::.sl k xs::rest)) (.agg (c::.sl .none xs::rest)):=Wk.agg rfl (fun j g g' h h'=>by
 rcases j with _|_|j
 ·simp at h h';subst h;subst h';exact .refl _
 ·simp at h h';subst h;subst h';exact bK _ _
 ·simp at h h';rw[h] at h';cases h';exact .refl _)
def V9:List GV:=[.i .i64 0,.sl .full [],.s [],.s [],.i .i64 0,.i .i64 0,.s [],.s [],.s [],.i .i64 0,.i .i64 0,.s [],.s [],.b false]
def IT (a:Bool) (l:List Tree) (i:Nat):List Tree:=(l.take i).flatMap (Tree.sides a)
theorem SA {a:Bool} {l:List Tree} {i:Nat} {y:Tree} (h:l[i]?=some y):IT a l (i+1)=IT a l i++y.sides a:=by
 unfold IT;rw[cH,h,List.flatMap_append];simp
theorem XY (a:Bool) (l:List Tree) (i:Nat):(IT a l i).length<=(l.flatMap (Tree.sides a)).length:=by
 have:l.flatMap (Tree.sides a)=IT a l i++(l.drop i).flatMap (Tree.sides a):=by
  unfold IT;rw[<-List.flatMap_append,iF]
 rw[this,aD];omega
theorem L0 [MaxL] (a:Bool) (x:Tree) (l:List Tree) (hl:l.length<=100000) (hs:((x::l).flatMap (Tree.sides a)).length<=1000000):
  SC Tryz.prog 269 [.i .i64 (kW a:Nat),.sl .none (jV (x::l))] [] (.val (fV a x l).ng) []:=by
 have hjs:=vV a l x;have hform:=EO a (fV a x l);have hcl:=(fV a x l).ng_cl;generalize hm:fV a x l=m at*;have hlen:(x::l).length<=100001:=by simp;omega
 generalize x::l=M at*;clear hm hl l x;have hle:=XY a M;refine cW Tryz.func269 rfl ?_;conv=>whnf
 refine f7 (fun q:Nat×List Tree=>q.1<=M.length/\IT a M q.1=q.2) (fun q=>[(0,.i .i64 (kW a:Nat)),(1,.sl .none (jV M)),(4,.ptr 0 0),(5,.sl (.own 1) (jV q.2)),(6,.i .i64 (q.1:Nat))])
  (fun q=>⟨[.box 211 V9,ow 211 14 q.2.length],0,[]⟩) (fun q=>M.length - q.1) (0,[]) ⟨zL _,rfl⟩ ⟨rfl,rfl,rfl,rfl,rfl,trivial⟩ rfl (fun _ _=>rL _) (fun q _=>by simp only[List.all_cons,x5];rfl) (fun q _ e he=>?_) (fun q φ0 hi=>?_)
 ·refine⟨?_,rfl,?_⟩
  ·show[GObj.box _ (V9.map (GV.ren e)),(ow _ 14 _).ren e]=_;rw[B0];rfl
  ·show[_,(GV.sl .none (jV M)).ren e,GV.ptr (e 0) 0,(GV.sl (.own 1) (jV q.2)).ren e,_]=_;rw[p8 (he 1 (by simp)) (qU _),bT (qU M) e,he 0 (by simp)];rfl
 obtain⟨i,o⟩:=q;obtain⟨hi,ho⟩:=hi;replace hi:i<=M.length:=hi;replace ho:IT a M i=o:=ho;conv=>whnf
 have hnl:(jV M).length=M.length:=eV M;refine aF (fun h=>?_) (fun h=>?_)<;>conv=>whnf
 rotate_left
 ·have hie:i=M.length:=by have:=aC h;rw[hnl] at this;omega
  have ho':o=m.sides a:=by rw[<-ho,hjs,hie];unfold IT;rw[b9]
  rcases hform with⟨e,h2⟩|⟨k,kids,A,B,op,yes,e,hk,h2⟩
  ·rw[ho'];have hcl':Cl (.agg (jW (kW a) (jV (m.sides a)) t0 t0 [] false)):=by rw[<-e];exact hcl
   have hng:m.ng=.agg (jW (kW a) (jV (m.sides a)) t0 t0 [] false):=by show GV.agg m.ncs=_;rw[e]
   rw[hng];have hml:=eV (m.sides a);generalize m.sides a=ms at*;refine aF (fun h1=>?_) (fun h1=>?_)<;>conv=>whnf
   ·have h3:((jV ms).length:Int)=1:=by simpa using h1
    omega
   refine⟨_,⟨rfl,zL _,rfl,bL rfl⟩,?_⟩;(conv=>whnf);exact b8 gZ hcl'
  ·rw[ho',h2];have hng:m.ng=.agg (jW k kids A B op yes):=by show GV.agg m.ncs=_;rw[e]
   have hgm:(jV [m])[0]?=some (.agg (jW k kids A B op yes)):=by rw[<-hng];rfl
   rw[hng] at hcl⊢;refine⟨dS 0,.agg (jW k kids A B op yes),hgm,rfl,?_⟩;(conv=>whnf);refine⟨_,⟨rfl,zL _,rfl,bL rfl⟩,?_⟩;(conv=>whnf);exact b8 (.refl _) hcl
 have hlt:i<M.length:=by have:=aB h;rw[hnl] at this;omega
 obtain⟨y,hy⟩:∃y,M[i]?=some y:=⟨M[i],gL hlt⟩;have hgy:(jV M)[i]?=some (.agg y.ncs):=by unfold jV;rw[aL,hy];rfl
 have hos:=SA (a:=a) hy;have hle1:=hle (i+1);rw[hos,aD] at hle1;rw[ho] at hos hle1;rcases EO a y with⟨e,h2⟩|⟨k,kids,A,B,op,yes,e,hk,h2⟩
 ·rw[e] at hgy;generalize y.sides a=ys at*;rcases ys with _|⟨y1,ys⟩
  ·simp at h2
  refine⟨cN _,.agg (jW (kW a) (jV (y1::ys)) t0 t0 [] false),by rw[aA];exact hgy,rfl,?_⟩;conv=>whnf
  refine aF (fun heq=>?_) (fun heq=>?_)<;>conv=>whnf
  rotate_left
  ·simp at heq
  refine⟨cN _,.agg (jW (kW a) (jV (y1::ys)) t0 t0 [] false),by rw[aA];exact hgy,rfl,?_⟩;conv=>whnf
  cases o with
  |nil=>
   refine⟨⟨LJ (y1::ys),B3 _,by show(jV (([]:List Tree))).length+(jV (y1::ys)).length<=4294967296;rw[eV,eV];omega⟩,jV (([]:List Tree)++(y1::ys)),(([]:List Tree)++(y1::ys)).length,⟨(by show jV (([]:List Tree)++y1::ys)=jV (([]:List Tree))++jV (y1::ys);unfold jV;rw[d9]),by show _=(jV (([]:List Tree))).length+(jV (y1::ys)).length;rw[eV,eV,aD]⟩,?_⟩;(conv=>whnf);refine⟨⟨zL _,by first|rfl|(rw[eV];rfl)|(rw[eV];simp),by first|exact .inr ⟨rfl,rfl⟩|exact .inl ⟨rfl,rfl⟩⟩,?_⟩;(conv=>whnf);exact⟨M.length - (i+1),(by show _<M.length - i;omega),(i+1,([]:List Tree)++(y1::ys)),⟨hlt,hos⟩,rfl,⟨rfl,rfl,rfl,rfl,b7 (by omega),trivial⟩,_,rfl,rfl⟩
  |cons z zs=>
   refine⟨⟨LJ (y1::ys),B3 _,by show(jV ((z::zs))).length+(jV (y1::ys)).length<=4294967296;rw[eV,eV];omega⟩,jV ((z::zs)++(y1::ys)),((z::zs)++(y1::ys)).length,⟨(by show jV ((z::zs)++y1::ys)=jV ((z::zs))++jV (y1::ys);unfold jV;rw[d9]),by show _=(jV ((z::zs))).length+(jV (y1::ys)).length;rw[eV,eV,aD]⟩,?_⟩;(conv=>whnf);refine⟨⟨zL _,by first|rfl|(rw[eV];rfl)|(rw[eV];simp),by first|exact .inr ⟨rfl,rfl⟩|exact .inl ⟨rfl,rfl⟩⟩,?_⟩;(conv=>whnf);exact⟨M.length - (i+1),(by show _<M.length - i;omega),(i+1,(z::zs)++(y1::ys)),⟨hlt,hos⟩,rfl,⟨rfl,rfl,rfl,rfl,b7 (by omega),trivial⟩,_,rfl,rfl⟩
 ·rw[e] at hgy;refine⟨cN _,.agg (jW k kids A B op yes),by rw[aA];exact hgy,rfl,?_⟩;conv=>whnf
  refine aF (fun heq=>?_) (fun heq=>?_)<;>conv=>whnf
  ·exfalso;apply hk;have:=eq_of_beq heq;omega
  refine⟨cN _,.agg (jW k kids A B op yes),by rw[aA];exact hgy,rfl,?_⟩;conv=>whnf
  have hyng:y.ng=.agg (jW k kids A B op yes):=by show GV.agg y.ncs=_;rw[e]
  rw[h2] at hos hle1;simp only[aW] at hle1;cases o with
  |nil=>
   refine⟨⟨rfl,B3 _,by show(jV (([]:List Tree))).length+1<=4294967296;rw[eV];omega⟩,jV (([]:List Tree)++[y]),(([]:List Tree)++[y]).length,⟨(by show jV (([]:List Tree)++[y])=jV (([]:List Tree))++[GV.agg (jW k kids A B op yes)];rw[<-hyng];unfold jV;rw[d9];rfl),by show _=(jV (([]:List Tree))).length+1;rw[eV,aD];rfl⟩,?_⟩;(conv=>whnf);refine⟨⟨zL _,by first|rfl|(rw[eV];rfl)|(rw[eV];simp),by first|exact .inr ⟨rfl,rfl⟩|exact .inl ⟨rfl,rfl⟩⟩,?_⟩;(conv=>whnf);exact⟨M.length - (i+1),(by show _<M.length - i;omega),(i+1,([]:List Tree)++[y]),⟨hlt,hos⟩,rfl,⟨rfl,rfl,rfl,rfl,b7 (by omega),trivial⟩,_,rfl,rfl⟩
  |cons z zs=>
   refine⟨⟨rfl,B3 _,by show(jV ((z::zs))).length+1<=4294967296;rw[eV];omega⟩,jV ((z::zs)++[y]),((z::zs)++[y]).length,⟨(by show jV ((z::zs)++[y])=jV ((z::zs))++[GV.agg (jW k kids A B op yes)];rw[<-hyng];unfold jV;rw[d9];rfl),by show _=(jV ((z::zs))).length+1;rw[eV,aD];rfl⟩,?_⟩;(conv=>whnf);refine⟨⟨zL _,by first|rfl|(rw[eV];rfl)|(rw[eV];simp),by first|exact .inr ⟨rfl,rfl⟩|exact .inl ⟨rfl,rfl⟩⟩,?_⟩;(conv=>whnf);exact⟨M.length - (i+1),(by show _<M.length - i;omega),(i+1,(z::zs)++[y]),⟨hlt,hos⟩,rfl,⟨rfl,rfl,rfl,rfl,b7 (by omega),trivial⟩,_,rfl,rfl⟩
