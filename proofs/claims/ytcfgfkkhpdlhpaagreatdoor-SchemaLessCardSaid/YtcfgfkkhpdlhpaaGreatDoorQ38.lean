/-
  A part of the proof of SchemaLess.
-/
import Derived.Test.YtcfgfkkhpdlhpaaGreatDoorQ37
import Derived.Test.YtcfgfkkhpdlhpaaGreatDoorQ35
set_option linter.all false
namespace Go.Proofs.YtcfgfkkhpdlhpaaGreatDoor
open Go.RowKit
set_option maxRecDepth 100000
set_option linter.unusedVariables false
def ndc (k:Nat) (kids:List GV) (a b:Term) (op:By) (yes:Bool):List GV:=.i .i64 k::.sl .none kids::(sdc a++(sdc b++[.s op,.b yes]))
def pick2 {α:Type} (a:Bool) (p:α×α):α:=if a then p.2 else p.1
def nk:Tree->List GV×(List GV×List GV)
 |.pair b l r=>let ks:=pick2 b (nk l).2++pick2 b (nk r).2
   let cs:=ndc (opn b) ks t0 t0 [] false
   (cs,if b then([.agg cs],ks) else(ks,[.agg cs]))
 |.no t=>let cs:=ndc 3 [.agg (nk t).1] t0 t0 [] false
   (cs,[.agg cs],[.agg cs])
 |.test op l r=>let cs:=ndc 4 [] l r op false
   (cs,[.agg cs],[.agg cs])
 |.truth b=>let cs:=ndc 5 [] t0 t0 [] b
   (cs,[.agg cs],[.agg cs])
def Tree.ncs (t:Tree):List GV:=(nk t).1
def Tree.ng (t:Tree):GV:=.agg t.ncs
def ngs (l:List Tree):List GV:=l.map Tree.ng
theorem nk_sides (a:Bool):∀t:Tree,pick2 a (nk t).2=ngs (t.sides a)
 |.pair b l r=>by
  have h1:=nk_sides a l
  have h2:=nk_sides a r
  unfold Tree.sides
  by_cases hab:a=b
  ·subst hab
   rw[if_pos rfl]
   unfold ngs at*
   rw[List.map_append,<-h1,<-h2]
   cases a<;>rfl
  ·rw[if_neg hab]
   cases a<;>cases b<;>first|rfl|exact absurd rfl hab
 |.no t=>by cases a<;>rfl
 |.test _ _ _=>by cases a<;>rfl
 |.truth _=>by cases a<;>rfl
theorem ncs_pair (a:Bool) (l r:Tree):(Tree.pair a l r).ncs=ndc (opn a) (ngs ((Tree.pair a l r).sides a)) t0 t0 [] false:=by
 show ndc (opn a) (pick2 a (nk l).2++pick2 a (nk r).2) t0 t0 [] false=_
 rw[nk_sides,nk_sides]
 congr 1
 have e:(Tree.pair a l r).sides a=l.sides a++r.sides a:=if_pos rfl
 rw[e]
 unfold ngs;rw[List.map_append]
theorem ncs_no (t:Tree):(Tree.no t).ncs=ndc 3 [t.ng] t0 t0 [] false:=rfl
theorem ncs_test (op:By) (l r:Term):(Tree.test op l r).ncs=ndc 4 [] l r op false:=rfl
theorem ncs_truth (b:Bool):(Tree.truth b).ncs=ndc 5 [] t0 t0 [] b:=rfl
theorem ndc_cl [MaxL] {k:Nat} {kids:List GV} (h:ClL kids) (a b:Term) (op:By) (yes:Bool):ClL (ndc k kids a b op yes):=.cons (.i _ _) (.cons (Cl.sl h) (fun _=>rfl))
theorem ClL.app [MaxL] {a b:List GV} (ha:ClL a) (hb:ClL b):ClL (a++b):=fun f=>by rw[List.map_append,ha f,hb f]
theorem nk_cl [MaxL]:∀t:Tree,ClL (nk t).1/\(∀a,ClL (pick2 a (nk t).2))
 |.pair b l r=>by
  have h1:=nk_cl l
  have h2:=nk_cl r
  have hk:ClL (pick2 b (nk l).2++pick2 b (nk r).2):=ClL.app (h1.2 b) (h2.2 b)
  have hc:=ndc_cl (k:=opn b) hk t0 t0 [] false
  exact⟨hc,fun a=>by
   cases a<;>cases b<;>first|exact hk|exact cC (Cl.agg hc) .nil⟩
 |.no t=>by
  have hc:=ndc_cl (k:=3) (cC (Cl.agg (nk_cl t).1) .nil) t0 t0 [] false
  exact⟨hc,fun a=>by cases a<;>exact cC (Cl.agg hc) .nil⟩
 |.test op l r=>by
  have hc:=ndc_cl (k:=4) ClL.nil l r op false
  exact⟨hc,fun a=>by cases a<;>exact cC (Cl.agg hc) .nil⟩
 |.truth b=>by
  have hc:=ndc_cl (k:=5) ClL.nil t0 t0 [] b
  exact⟨hc,fun a=>by cases a<;>exact cC (Cl.agg hc) .nil⟩
theorem Tree.ncs_cl [MaxL] (t:Tree):ClL t.ncs:=(nk_cl t).1
theorem Tree.ng_cl [MaxL] (t:Tree):Cl t.ng:=Cl.agg t.ncs_cl
theorem ngs_cl [MaxL] (l:List Tree):ClL (ngs l):=ClL.mapOf Tree.ng_cl l
theorem ncs_len (t:Tree):t.ncs.length=14:=by cases t<;>rfl
theorem ngs_len (l:List Tree):(ngs l).length=l.length:=by simp[ngs]
theorem ngs_ok (l:List Tree):(ngs l).all (fun x=>x.cells.length==14)=true:=by
 rw[List.all_eq_true];intro x hx
 obtain⟨t,_,rfl⟩:=List.mem_map.1 hx
 show(t.ncs.length==14)=true
 rw[ncs_len];rfl
theorem ngs_okEl (l:List Tree):(ngs l).all (okEl 14)=true:=by
 rw[List.all_eq_true];intro x hx
 obtain⟨t,_,rfl⟩:=List.mem_map.1 hx
 have:=ncs_len t
 cases t<;>rfl
theorem ncs_form (a:Bool) (t:Tree):(t.ncs=ndc (opn a) (ngs (t.sides a)) t0 t0 [] false/\2<=(t.sides a).length)∨(∃k kids x y op yes,t.ncs=ndc k kids x y op yes/\k≠opn a/\t.sides a=[t]):=by
 cases t with
 |pair b l r=>
  by_cases hab:a=b
  ·subst hab
   refine .inl ⟨ncs_pair a l r,?_⟩
   have e:(Tree.pair a l r).sides a=l.sides a++r.sides a:=if_pos rfl
   rw[e,List.length_append]
   have h1:=List.length_pos_iff.2 (sides_ne a l)
   have h2:=List.length_pos_iff.2 (sides_ne a r)
   omega
  ·exact .inr ⟨_,_,_,_,_,_,ncs_pair b l r,(by cases a<;>cases b<;>first|exact absurd rfl hab|decide),if_neg hab⟩
 |no t=>exact .inr ⟨_,_,_,_,_,_,ncs_no t,(by cases a<;>decide),rfl⟩
 |test op l r=>exact .inr ⟨_,_,_,_,_,_,ncs_test op l r,(by cases a<;>decide),rfl⟩
 |truth b=>exact .inr ⟨_,_,_,_,_,_,ncs_truth b,(by cases a<;>decide),rfl⟩
def joinL (a:Bool) (x:Tree) (l:List Tree):Tree:=l.foldl (fun q y=>.pair a q y) x
theorem joinL_sides (a:Bool):∀(l:List Tree) (x:Tree),(joinL a x l).sides a=(x::l).flatMap (Tree.sides a)
 |[],x=>by simp[joinL]
 |y::l,x=>by
  have:=joinL_sides a l (.pair a x y)
  show(joinL a (.pair a x y) l).sides a=_
  rw[this,List.flatMap_cons,List.flatMap_cons,List.flatMap_cons]
  have e:(Tree.pair a x y).sides a=x.sides a++y.sides a:=if_pos rfl
  rw[e,List.append_assoc]
theorem wk_node [MaxL] {c:GV} {k:Tok} {xs rest:List GV}:Wk (.agg (c::.sl k xs::rest)) (.agg (c::.sl .none xs::rest)):=Wk.agg rfl (fun j g g' h h'=>by
 rcases j with _|_|j
 ·simp at h h';subst h;subst h';exact .refl _
 ·simp at h h';subst h;subst h';exact Wk.sl _ _
 ·simp at h h';rw[h] at h';cases h';exact .refl _)
def nodeZ:List GV:=[.i .i64 0,.sl .full [],.s [],.s [],.i .i64 0,.i .i64 0,.s [],.s [],.s [],.i .i64 0,.i .i64 0,.s [],.s [],.b false]
def outT (a:Bool) (l:List Tree) (i:Nat):List Tree:=(l.take i).flatMap (Tree.sides a)
theorem outT_succ {a:Bool} {l:List Tree} {i:Nat} {y:Tree} (h:l[i]?=some y):outT a l (i+1)=outT a l i++y.sides a:=by
 unfold outT
 rw[List.take_add_one,h,List.flatMap_append]
 simp
theorem outT_le (a:Bool) (l:List Tree) (i:Nat):(outT a l i).length<=(l.flatMap (Tree.sides a)).length:=by
 have:l.flatMap (Tree.sides a)=outT a l i++(l.drop i).flatMap (Tree.sides a):=by
  unfold outT
  rw[<-List.flatMap_append,List.take_append_drop]
 rw[this,List.length_append];omega
theorem r_Joined [MaxL] (a:Bool) (x:Tree) (l:List Tree) (hl:l.length<=100000) (hs:((x::l).flatMap (Tree.sides a)).length<=1000000):
  SC Tryz.prog 269 [.i .i64 (opn a:Nat),.sl .none (ngs (x::l))] [] (.val (joinL a x l).ng) []:=by
 have hjs:=joinL_sides a l x
 have hform:=ncs_form a (joinL a x l)
 have hcl:=(joinL a x l).ng_cl
 generalize hm:joinL a x l=m at*
 have hlen:(x::l).length<=100001:=by simp;omega
 generalize x::l=M at*
 clear hm hl l x
 have hle:=outT_le a M
 refine gwS Tryz.func269 rfl ?_
 conv=>whnf
 refine GLoop.introS (fun q:Nat×List Tree=>q.1<=M.length/\outT a M q.1=q.2) (fun q=>[(0,.i .i64 (opn a:Nat)),(1,.sl .none (ngs M)),(4,.ptr 0 0),(5,.sl (.own 1) (ngs q.2)),(6,.i .i64 (q.1:Nat))])
  (fun q=>⟨[.box 211 nodeZ,ow 211 14 q.2.length],0,[]⟩) (fun q=>M.length - q.1) (0,[]) ⟨zL _,rfl⟩ ⟨rfl,rfl,rfl,rfl,rfl,trivial⟩ rfl (fun _ _=>rL _) (fun q _=>by simp only[List.all_cons,ow_held];rfl) (fun q _ e he=>?_) (fun q φ0 hi=>?_)
 ·refine⟨?_,rfl,?_⟩
  ·show[GObj.box _ (nodeZ.map (GV.ren e)),(ow _ 14 _).ren e]=_
   rw[ow_ren];rfl
  ·show[_,(GV.sl .none (ngs M)).ren e,GV.ptr (e 0) 0,(GV.sl (.own 1) (ngs q.2)).ren e,_]=_
   rw[ren_own (he 1 (by simp)) (ngs_cl _),Cl.sl (ngs_cl M) e,he 0 (by simp)];rfl
 obtain⟨i,o⟩:=q
 obtain⟨hi,ho⟩:=hi
 replace hi:i<=M.length:=hi
 replace ho:outT a M i=o:=ho
 conv=>whnf
 have hnl:(ngs M).length=M.length:=ngs_len M
 refine GIf.mk (fun h=>?_) (fun h=>?_)<;>conv=>whnf
 rotate_left
 ·have hie:i=M.length:=by have:=of_decide_eq_false h;rw[hnl] at this;omega
  have ho':o=m.sides a:=by rw[<-ho,hjs,hie];unfold outT;rw[List.take_length]
  rcases hform with⟨e,h2⟩|⟨k,kids,A,B,op,yes,e,hk,h2⟩
  ·rw[ho']
   have hcl':Cl (.agg (ndc (opn a) (ngs (m.sides a)) t0 t0 [] false)):=by rw[<-e];exact hcl
   have hng:m.ng=.agg (ndc (opn a) (ngs (m.sides a)) t0 t0 [] false):=by show GV.agg m.ncs=_;rw[e]
   rw[hng]
   have hml:=ngs_len (m.sides a)
   generalize m.sides a=ms at*
   refine GIf.mk (fun h1=>?_) (fun h1=>?_)<;>conv=>whnf
   ·have h3:((ngs ms).length:Int)=1:=by simpa using h1
    omega
   refine⟨_,⟨rfl,zL _,rfl,bL rfl⟩,?_⟩
   conv=>whnf
   exact owes_wk wk_node hcl'
  ·rw[ho',h2]
   have hng:m.ng=.agg (ndc k kids A B op yes):=by show GV.agg m.ncs=_;rw[e]
   have hgm:(ngs [m])[0]?=some (.agg (ndc k kids A B op yes)):=by rw[<-hng];rfl
   rw[hng] at hcl⊢
   refine⟨Int.le_refl 0,.agg (ndc k kids A B op yes),hgm,rfl,?_⟩
   conv=>whnf
   refine⟨_,⟨rfl,zL _,rfl,bL rfl⟩,?_⟩
   conv=>whnf
   exact owes_wk (.refl _) hcl
 have hlt:i<M.length:=by have:=of_decide_eq_true h;rw[hnl] at this;omega
 obtain⟨y,hy⟩:∃y,M[i]?=some y:=⟨M[i],gL hlt⟩
 have hgy:(ngs M)[i]?=some (.agg y.ncs):=by unfold ngs;rw[List.getElem?_map,hy];rfl
 have hos:=outT_succ (a:=a) hy
 have hle1:=hle (i+1)
 rw[hos,List.length_append] at hle1
 rw[ho] at hos hle1
 rcases ncs_form a y with⟨e,h2⟩|⟨k,kids,A,B,op,yes,e,hk,h2⟩
 ·rw[e] at hgy
  generalize y.sides a=ys at*
  rcases ys with _|⟨y1,ys⟩
  ·simp at h2
  refine⟨cN _,.agg (ndc (opn a) (ngs (y1::ys)) t0 t0 [] false),by rw[Int.toNat_natCast];exact hgy,rfl,?_⟩
  conv=>whnf
  refine GIf.mk (fun heq=>?_) (fun heq=>?_)<;>conv=>whnf
  rotate_left
  ·simp at heq
  refine⟨cN _,.agg (ndc (opn a) (ngs (y1::ys)) t0 t0 [] false),by rw[Int.toNat_natCast];exact hgy,rfl,?_⟩
  conv=>whnf
  cases o with
  |nil=>
   refine⟨⟨ngs_okEl (y1::ys),ngs_ok _,by show(ngs (([]:List Tree))).length+(ngs (y1::ys)).length<=4294967296;rw[ngs_len,ngs_len];omega⟩,ngs (([]:List Tree)++(y1::ys)),(([]:List Tree)++(y1::ys)).length,⟨(by show ngs (([]:List Tree)++y1::ys)=ngs (([]:List Tree))++ngs (y1::ys);unfold ngs;rw[List.map_append]),by show _=(ngs (([]:List Tree))).length+(ngs (y1::ys)).length;rw[ngs_len,ngs_len,List.length_append]⟩,?_⟩
   conv=>whnf
   refine⟨⟨zL _,by first|rfl|(rw[ngs_len];rfl)|(rw[ngs_len];simp),by first|exact .inr ⟨rfl,rfl⟩|exact .inl ⟨rfl,rfl⟩⟩,?_⟩
   conv=>whnf
   exact⟨M.length - (i+1),(by show _<M.length - i;omega),(i+1,([]:List Tree)++(y1::ys)),⟨hlt,hos⟩,rfl,⟨rfl,rfl,rfl,rfl,wrap_succ (by omega),trivial⟩,_,rfl,rfl⟩
  |cons z zs=>
   refine⟨⟨ngs_okEl (y1::ys),ngs_ok _,by show(ngs ((z::zs))).length+(ngs (y1::ys)).length<=4294967296;rw[ngs_len,ngs_len];omega⟩,ngs ((z::zs)++(y1::ys)),((z::zs)++(y1::ys)).length,⟨(by show ngs ((z::zs)++y1::ys)=ngs ((z::zs))++ngs (y1::ys);unfold ngs;rw[List.map_append]),by show _=(ngs ((z::zs))).length+(ngs (y1::ys)).length;rw[ngs_len,ngs_len,List.length_append]⟩,?_⟩
   conv=>whnf
   refine⟨⟨zL _,by first|rfl|(rw[ngs_len];rfl)|(rw[ngs_len];simp),by first|exact .inr ⟨rfl,rfl⟩|exact .inl ⟨rfl,rfl⟩⟩,?_⟩
   conv=>whnf
   exact⟨M.length - (i+1),(by show _<M.length - i;omega),(i+1,(z::zs)++(y1::ys)),⟨hlt,hos⟩,rfl,⟨rfl,rfl,rfl,rfl,wrap_succ (by omega),trivial⟩,_,rfl,rfl⟩
 ·rw[e] at hgy
  refine⟨cN _,.agg (ndc k kids A B op yes),by rw[Int.toNat_natCast];exact hgy,rfl,?_⟩
  conv=>whnf
  refine GIf.mk (fun heq=>?_) (fun heq=>?_)<;>conv=>whnf
  ·exfalso
   apply hk
   have:=eq_of_beq heq
   omega
  refine⟨cN _,.agg (ndc k kids A B op yes),by rw[Int.toNat_natCast];exact hgy,rfl,?_⟩
  conv=>whnf
  have hyng:y.ng=.agg (ndc k kids A B op yes):=by show GV.agg y.ncs=_;rw[e]
  rw[h2] at hos hle1
  simp only[List.length_singleton] at hle1
  cases o with
  |nil=>
   refine⟨⟨rfl,ngs_ok _,by show(ngs (([]:List Tree))).length+1<=4294967296;rw[ngs_len];omega⟩,ngs (([]:List Tree)++[y]),(([]:List Tree)++[y]).length,⟨(by show ngs (([]:List Tree)++[y])=ngs (([]:List Tree))++[GV.agg (ndc k kids A B op yes)];rw[<-hyng];unfold ngs;rw[List.map_append];rfl),by show _=(ngs (([]:List Tree))).length+1;rw[ngs_len,List.length_append];rfl⟩,?_⟩
   conv=>whnf
   refine⟨⟨zL _,by first|rfl|(rw[ngs_len];rfl)|(rw[ngs_len];simp),by first|exact .inr ⟨rfl,rfl⟩|exact .inl ⟨rfl,rfl⟩⟩,?_⟩
   conv=>whnf
   exact⟨M.length - (i+1),(by show _<M.length - i;omega),(i+1,([]:List Tree)++[y]),⟨hlt,hos⟩,rfl,⟨rfl,rfl,rfl,rfl,wrap_succ (by omega),trivial⟩,_,rfl,rfl⟩
  |cons z zs=>
   refine⟨⟨rfl,ngs_ok _,by show(ngs ((z::zs))).length+1<=4294967296;rw[ngs_len];omega⟩,ngs ((z::zs)++[y]),((z::zs)++[y]).length,⟨(by show ngs ((z::zs)++[y])=ngs ((z::zs))++[GV.agg (ndc k kids A B op yes)];rw[<-hyng];unfold ngs;rw[List.map_append];rfl),by show _=(ngs ((z::zs))).length+1;rw[ngs_len,List.length_append];rfl⟩,?_⟩
   conv=>whnf
   refine⟨⟨zL _,by first|rfl|(rw[ngs_len];rfl)|(rw[ngs_len];simp),by first|exact .inr ⟨rfl,rfl⟩|exact .inl ⟨rfl,rfl⟩⟩,?_⟩
   conv=>whnf
   exact⟨M.length - (i+1),(by show _<M.length - i;omega),(i+1,(z::zs)++[y]),⟨hlt,hos⟩,rfl,⟨rfl,rfl,rfl,rfl,wrap_succ (by omega),trivial⟩,_,rfl,rfl⟩
end Go.Proofs.YtcfgfkkhpdlhpaaGreatDoor
