/-
  A part of the proof of ViewTexts.
-/
import Derived.Test.YtldggonlkafckaaGreatDoorQ30
set_option linter.all false
namespace Go.Proofs.YtldggonlkafckaaGreatDoor
open Go.RowKit
set_option maxRecDepth 100000
set_option linter.unusedVariables false
def treesG (l:List Tree):List GV:=l.map Tree.gv
theorem treesG_cl [MaxL] (l:List Tree):ClL (treesG l):=ClL.mapOf Tree.cl l
theorem treesG_ok (l:List Tree):(treesG l).all (fun x=>x.cells.length==1)=true:=by
 rw[List.all_eq_true];intro x hx
 obtain⟨v,_,rfl⟩:=List.mem_map.1 hx
 rfl
theorem treesG_okEl (l:List Tree):(treesG l).all (okEl 1)=true:=by
 rw[List.all_eq_true];intro x hx
 obtain⟨v,_,rfl⟩:=List.mem_map.1 hx
 rfl
theorem c_ConcatN [MaxL] (x y:Tree) (xs ys:List Tree) (hx:(x::xs).length<=100000) (hy:(y::ys).length<=100000):
  SC Tryz.prog 247 [.sl .none [.sl .none (treesG (x::xs)),.sl .none (treesG (y::ys))]] [] (.val (.sl .none (treesG ((x::xs)++(y::ys))))) []:=by
 have e1:(treesG (x::xs)).length=(x::xs).length:=by simp[treesG]
 have e2:(treesG (y::ys)).length=(y::ys).length:=by simp[treesG]
 have hg:=c_GrowN ((x::xs).length+(y::ys).length) (by simp;omega) (by omega)
 have hgt:∀l:List Tree,(treesG l).length=l.length:=fun l=>by simp[treesG]
 generalize hA:x::xs=A at*
 generalize hB:y::ys=B at*
 have hA0:A.length≠0:=by rw[<-hA];simp
 have hB0:B.length≠0:=by rw[<-hB];simp
 clear hA hB
 refine gwS Tryz.func247 rfl ?_
 conv=>whnf
 refine GLoop.intro (fun q:Nat×Nat=>(q=(0,0))∨q=(1,A.length)∨q=(2,A.length+B.length)) (fun q=>[(0,.sl .none [.sl .none (treesG A),.sl .none (treesG B)]),(3,.i .i64 (q.2:Nat)),(9,.sl .none [.sl .none (treesG A),.sl .none (treesG B)]),(10,.i .i64 2),(11,.i .i64 (q.1:Nat))]) (fun _=>⟨[.own 0 0 0],0,[]⟩) (fun q=>2 - q.1) (0,0) (.inl rfl) ⟨rfl,rfl,rfl,rfl,rfl,trivial⟩ rfl (fun q φ0 hq=>?_)
 rcases hq with rfl|rfl|rfl
 ·conv=>whnf
  refine⟨Int.le_refl 0,_,rfl,rfl,?_⟩
  conv=>whnf
  have hw:IntKind.i64.wrap (((0:Nat):Int)+((treesG A).length:Int))=(A.length:Int):=by rw[e1,wrap_in (by omega) (by omega)];omega
  refine GIf.mk (fun hneg=>?_) (fun hneg=>?_)<;>conv=>whnf
  ·exfalso
   have h9:=of_decide_eq_true hneg
   rw[hw] at h9;omega
  exact⟨1,by decide,(1,A.length),.inr (.inl rfl),rfl,⟨rfl,by rw[<-hw];rfl,rfl,rfl,rfl,trivial⟩,rfl⟩
 ·conv=>whnf
  refine⟨cN 1,_,rfl,rfl,?_⟩
  conv=>whnf
  have hw:IntKind.i64.wrap ((A.length:Int)+((treesG B).length:Int))=((A.length+B.length:Nat):Int):=by rw[e2,wrap_in (by omega) (by omega)];omega
  refine GIf.mk (fun hneg=>?_) (fun hneg=>?_)<;>conv=>whnf
  ·exfalso
   have h9:=of_decide_eq_true hneg
   rw[hw] at h9;omega
  exact⟨0,Nat.zero_lt_one,(2,A.length+B.length),.inr (.inr rfl),rfl,⟨rfl,by rw[<-hw];rfl,rfl,rfl,rfl,trivial⟩,rfl⟩
 ·conv=>whnf
  refine callG hg [] (objs':=[.own 0 0 0,.own 0 1 207]) Lies.nil (wR _) rfl rfl rfl rfl ?_
  conv=>whnf
  refine GLoop.intro (fun q:Nat×List Tree=>(q=(0,[]))∨q=(1,A)∨q=(2,A++B)) (fun q=>[(6,.sl (.own 1) (treesG q.2)),(25,.sl .none [.sl .none (treesG A),.sl .none (treesG B)]),(26,.i .i64 2),(27,.i .i64 (q.1:Nat))]) (fun q=>⟨[.own 0 0 0,.own q.2.length 1 207],0,[]⟩) (fun q=>2 - q.1) (0,[]) (.inl rfl) ⟨rfl,rfl,rfl,rfl,trivial⟩ rfl (fun q φ1 hq=>?_)
  rcases hq with rfl|rfl|rfl
  ·conv=>whnf
   refine⟨Int.le_refl 0,_,rfl,rfl,?_⟩
   conv=>whnf
   refine GIf.mk (fun hemp=>?_) (fun hemp=>?_)
   ·exfalso
    have:(treesG A).length=0:=by rw[List.isEmpty_iff.1 hemp];rfl
    omega
   conv=>whnf
   refine⟨⟨treesG_okEl A,rfl,by show 0+(treesG A).length<=4294967296;omega⟩,treesG A,A.length,⟨rfl,by show _=0+(treesG A).length;omega⟩,?_⟩
   conv=>whnf
   refine⟨⟨zL _,rfl,.inl ⟨rfl,rfl⟩⟩,?_⟩
   conv=>whnf
   exact⟨1,by decide,(1,A),.inr (.inl rfl),rfl,⟨rfl,rfl,rfl,rfl,trivial⟩,rfl⟩
  ·conv=>whnf
   refine⟨cN 1,_,rfl,rfl,?_⟩
   conv=>whnf
   refine GIf.mk (fun hemp=>?_) (fun hemp=>?_)
   ·exfalso
    have:(treesG B).length=0:=by rw[List.isEmpty_iff.1 hemp];rfl
    omega
   conv=>whnf
   refine⟨⟨treesG_okEl B,treesG_ok A,by show(treesG A).length+(treesG B).length<=4294967296;omega⟩,treesG (A++B),(A++B).length,⟨by simp[treesG],by show _=(treesG A).length+(treesG B).length;rw[List.length_append];omega⟩,?_⟩
   conv=>whnf
   refine⟨⟨zL _,by rw[e1],.inl ⟨rfl,rfl⟩⟩,?_⟩
   conv=>whnf
   exact⟨0,Nat.zero_lt_one,(2,A++B),.inr (.inr rfl),rfl,⟨rfl,rfl,rfl,rfl,trivial⟩,rfl⟩
  ·conv=>whnf
   exact owes_wk (Wk.sl _ _) (Cl.sl (treesG_cl _))
theorem sides_len {a:Bool}:∀t:Tree,(t.sides a).length<=t.size
 |.pair b l r=>by
  have h1:=sides_len (a:=a) l
  have h2:=sides_len (a:=a) r
  unfold Tree.sides
  split
  ·rw[List.length_append];simp only[Tree.size];omega
  ·simp only[Tree.size,List.length_cons,List.length_nil];omega
 |.no t=>by simp[Tree.sides,Tree.size]
 |.test _ _ _=>by simp[Tree.sides,Tree.size]
 |.truth _=>by simp[Tree.sides,Tree.size]
theorem opn_eq (a b:Bool):((opn a:Nat):Int)=((opn b:Nat):Int)↔a=b:=by cases a<;>cases b<;>decide
theorem c_sides [MaxL] (a:Bool):∀t:Tree,t.size<=50000->SC Tryz.prog 209 [t.gv,.i .i64 (opn a:Nat)] [] (.val (.sl .none (treesG (t.sides a)))) []
 |.pair b l r,hb=>by
  simp only[Tree.size] at hb
  have s1:=c_sides a l (by omega)
  have s2:=c_sides a r (by omega)
  have l1:=sides_len (a:=a) l
  have l2:=sides_len (a:=a) r
  obtain⟨x,xs,hx⟩:=List.exists_cons_of_ne_nil (sides_ne a l)
  obtain⟨y,ys,hy⟩:=List.exists_cons_of_ne_nil (sides_ne a r)
  have hcc:=c_ConcatN x y xs ys (by rw[<-hx];omega) (by rw[<-hy];omega)
  rw[<-hx,<-hy] at hcc
  refine gwS Tryz.func209 rfl ?_
  conv=>whnf
  refine⟨_,⟨rfl,zL _,rfl,bL rfl⟩,?_⟩
  conv=>whnf
  refine GIf.mk (fun heq=>?_) (fun heq=>?_)<;>conv=>whnf
  ·have hab:a=b:=by
    have:=(opn_eq b a).1 (eq_of_beq heq)
    exact this.symm
   have e:(Tree.pair b l r).sides a=l.sides a++r.sides a:=if_pos hab
   rw[e]
   refine GDraw.calm (by kernel_rfl) ?_
   conv=>whnf
   refine callP s1 (wR _) rfl (cC l.cl (.cons (.i _ _) .nil)) (Cl.sl (treesG_cl _)) ?_
   conv=>whnf
   refine callP s2 (wR _) rfl (cC r.cl (.cons (.i _ _) .nil)) (Cl.sl (treesG_cl _)) ?_
   conv=>whnf
   refine callP hcc (wC (Wk.sl _ _) Wks.nil) rfl (cC (Cl.sl (.cons (Cl.sl (treesG_cl _)) (.cons (Cl.sl (treesG_cl _)) .nil))) .nil) (Cl.sl (treesG_cl _)) ?_
   conv=>whnf
   exact owes_wk (.refl _) (Cl.sl (treesG_cl _))
  ·have hab:¬a=b:=fun e=>by subst e;simp at heq
   have e:(Tree.pair b l r).sides a=[.pair b l r]:=if_neg hab
   rw[e]
   conv=>whnf
   exact owes_wk (Wk.sl _ _) (Cl.sl (treesG_cl _))
 |.no t,hb=>by
  refine gwS Tryz.func209 rfl ?_
  conv=>whnf
  refine⟨_,⟨rfl,zL _,rfl,bL rfl⟩,?_⟩
  conv=>whnf
  exact owes_wk (Wk.sl _ _) (Cl.sl (treesG_cl [.no t]))
 |.test o l r,hb=>by
  refine gwS Tryz.func209 rfl ?_
  conv=>whnf
  refine⟨_,⟨rfl,zL _,rfl,bL rfl⟩,?_⟩
  conv=>whnf
  exact owes_wk (Wk.sl _ _) (Cl.sl (treesG_cl [.test o l r]))
 |.truth b,hb=>by
  refine gwS Tryz.func209 rfl ?_
  conv=>whnf
  refine⟨_,⟨rfl,zL _,rfl,bL rfl⟩,?_⟩
  conv=>whnf
  exact owes_wk (Wk.sl _ _) (Cl.sl (treesG_cl [.truth b]))
theorem flat_no (t:Tree):(Tree.no t).flat=.no t.flat:=rfl
theorem c_flat [MaxL]:∀(n:Nat) (t:Tree),t.size<=n->n<=50000->SC Tryz.prog 172 [t.gv] [] (.val t.flat.gv) []
 |0,t,h,_=>by cases t<;>simp only[Tree.size] at h<;>omega
 |n+1,.no t,h,hn=>by
  have s1:=c_flat n t (by simp only[Tree.size] at h;omega) (by omega)
  rw[flat_no]
  refine gwS Tryz.func172 rfl ?_
  conv=>whnf
  refine⟨_,⟨rfl,zL _,rfl,bL rfl⟩,?_⟩
  conv=>whnf
  refine callP s1 (wR _) rfl (cC t.cl .nil) t.flat.cl ?_
  conv=>whnf
  exact owes_wk (.refl _) (Tree.cl (.no t.flat))
 |n+1,.test o l r,h,hn=>by
  refine gwS Tryz.func172 rfl ?_
  conv=>whnf
  exact owes_wk (.refl _) (Tree.cl (.test o l r))
 |n+1,.truth b,h,hn=>by
  refine gwS Tryz.func172 rfl ?_
  conv=>whnf
  exact owes_wk (.refl _) (Tree.cl (.truth b))
 |n+1,.pair a l r,h,hn=>by
  obtain⟨x,xs,hx,hf⟩:=flat_pair a l r
  have hsz:∀y∈x::xs,y.size<=n:=fun y hy=>by
   have:=sides_lt (a:=a) (l:=l) (r:=r) (x:=y) (by rw[hx];exact hy)
   omega
  have hlen:=sides_len (a:=a) (.pair a l r)
  rw[hx] at hlen
  simp only[List.length_cons] at hlen
  have s0:=c_sides a (.pair a l r) (by omega)
  rw[hx] at s0
  have s1:=c_flat n x (hsz x (by simp)) (by omega)
  have sy:∀y∈xs,SC Tryz.prog 172 [y.gv] [] (.val y.flat.gv) []:=fun y hy=>c_flat n y (hsz y (by simp[hy])) (by omega)
  rw[hf]
  refine gwS Tryz.func172 rfl ?_
  conv=>whnf
  refine⟨_,⟨rfl,zL _,rfl,bL rfl⟩,?_⟩
  conv=>whnf
  refine callP s0 (wR _) rfl (cC (Tree.cl (.pair a l r)) (.cons (.i _ _) .nil)) (Cl.sl (treesG_cl _)) ?_
  conv=>whnf
  refine⟨Int.le_refl 0,x.gv,rfl,rfl,?_⟩
  conv=>whnf
  refine callP s1 (wR _) rfl (cC x.cl .nil) x.flat.cl ?_
  conv=>whnf
  have hlt2:(treesG (x::xs)).length=xs.length+1:=by simp[treesG]
  refine⟨treesG_ok (x::xs),?_⟩
  conv=>whnf
  refine⟨by decide,?_⟩
  conv=>whnf
  refine⟨⟨by show 1<=(treesG (x::xs)).length;omega,rL _⟩,treesG xs,?_,_,rfl,?_⟩
  ·show treesG xs=((treesG (x::xs)).drop 1).take _
   rw[hlt2]
   simp[treesG]
   exact(List.take_of_length_le (by simp)).symm
  conv=>whnf
  refine GLoop.intro (fun i:Nat=>i<=xs.length) (fun i=>[(4,.ptr 0 0),(6,((xs.take i).foldl (fun q y=>Tree.pair a q y.flat) x.flat).gv),(31,.sl _ (treesG xs)),(32,.i .i64 (treesG xs).length),(33,.i .i64 (i:Nat))]) (fun _=>⟨[.box 277 (Tree.pair a l r).cs],0,[]⟩) (fun i=>xs.length - i) 0 (zL _) ⟨rfl,rfl,rfl,rfl,rfl,trivial⟩ rfl (fun i φ0 hi=>?_)
  have hl3:(treesG xs).length=xs.length:=by simp[treesG]
  conv=>whnf
  refine GIf.mk (fun hlt=>?_) (fun hlt=>?_)<;>conv=>whnf
  ·have hlt':i<xs.length:=by have:=of_decide_eq_true hlt;rw[hl3] at this;omega
   have htk:(xs.take (i+1)).foldl (fun q y=>Tree.pair a q y.flat) x.flat=.pair a ((xs.take i).foldl (fun q y=>Tree.pair a q y.flat) x.flat) xs[i].flat:=by
    rw[List.take_succ_eq_append_getElem hlt',List.foldl_append];rfl
   have hsy:=sy xs[i] (List.getElem_mem hlt')
   have hgi:(treesG xs)[i]?=some xs[i].gv:=by simp[treesG,hlt']
   generalize xs[i]=y at*
   refine⟨cN _,y.gv,by simpa using hgi,rfl,?_⟩
   conv=>whnf
   refine GDraw.calm (by kernel_rfl) ?_
   conv=>whnf
   refine callP hsy (wR _) rfl (cC y.cl .nil) y.flat.cl ?_
   conv=>whnf
   refine GLoop.next (i+1) hlt' (by omega) ⟨rfl,?_,rfl,rfl,wrap_succ (by omega),trivial⟩ rfl
   rw[htk];rfl
  ·have hie:i=xs.length:=by have:=of_decide_eq_false hlt;rw[hl3] at this;omega
   subst hie
   rw[List.take_length]
   exact owes_wk (.refl _) (Tree.cl _)
end Go.Proofs.YtldggonlkafckaaGreatDoor
namespace Go.Proofs.YtldggonlkafckaaGreatDoor
set_option linter.unusedVariables false
theorem plain_le:∀t:Tree,t.nice->t.plain.length<=400*t.size
 |.pair a l r,h=>by
  have h1:=plain_le l h.1
  have h2:=plain_le r h.2
  have p1:=paren_len (decide (l.level<opn a)) l.plain
  have p2:=paren_len (decide (r.level<opn a)) r.plain
  have s:(sep a).length<=5:=by cases a<;>decide
  simp only[Tree.plain,Tree.size,List.length_append]
  omega
 |.no t,h=>by
  have h1:=plain_le t h
  have p1:=paren_len (decide (t.level<4)) t.plain
  have s:wNot.length=3:=rfl
  simp only[Tree.plain,Tree.size,List.length_append,List.length_cons,List.length_nil]
  omega
 |.test op l r,h=>by
  have h1:=h.1;have h2:=h.2.1.2;have h3:=h.2.2.2
  simp only[Tree.plain,Tree.size,List.length_append,List.length_cons,List.length_nil]
  omega
 |.truth b,h=>by cases b<;>decide
def accSize:Option Tree->Nat
 |none=>0
 |some t=>t.size+1
def accNice:Option Tree->Prop
 |none=>True
 |some t=>t.nice
theorem joinA_size (a:Bool) (acc:Option Tree) (t:Tree):(joinA a acc t).size=accSize acc+t.size:=by
 cases acc<;>simp[joinA,accSize,Tree.size];omega
theorem joinA_nice (a:Bool) {acc:Option Tree} {t:Tree} (h:accNice acc) (h':t.nice):(joinA a acc t).nice:=by
 cases acc with
 |none=>exact h'
 |some x=>exact⟨h,h'⟩
theorem flatA_size (a:Bool):∀(t:Tree) (acc:Option Tree),(flatA a acc t).size=accSize acc+t.size
 |.pair b l r,acc=>by
  unfold flatA
  split
  ·rw[flatA_size a r,accSize,flatA_size a l]
   simp only[Tree.size];omega
  ·rw[joinA_size,flatA_size b r,accSize,flatA_size b l]
   simp only[Tree.size,accSize];omega
 |.no t,acc=>by
  unfold flatA
  rw[joinA_size]
  simp only[Tree.size]
  rw[flatA_size true t,accSize];omega
 |.test _ _ _,acc=>by unfold flatA;rw[joinA_size]
 |.truth _,acc=>by unfold flatA;rw[joinA_size]
theorem flat_size (t:Tree):t.flat.size=t.size:=by
 unfold Tree.flat;rw[flatA_size,accSize];omega
theorem flatA_nice (a:Bool):∀(t:Tree) (acc:Option Tree),accNice acc->t.nice->(flatA a acc t).nice
 |.pair b l r,acc,h,ht=>by
  unfold flatA
  split
  ·exact flatA_nice a r _ (flatA_nice a l _ h ht.1) ht.2
  ·exact joinA_nice a h (flatA_nice b r _ (flatA_nice b l _ trivial ht.1) ht.2)
 |.no t,acc,h,ht=>by unfold flatA;exact joinA_nice a h (flatA_nice true t _ trivial ht)
 |.test _ _ _,acc,h,ht=>by unfold flatA;exact joinA_nice a h ht
 |.truth _,acc,h,ht=>by unfold flatA;exact joinA_nice a h ht
theorem flat_nice {t:Tree} (h:t.nice):t.flat.nice:=flatA_nice true t none trivial h
def Md.sz:Md->Nat
 |.orL n=>n.size
 |.andL n=>n.size
 |_=>0
theorem pars_size {lit:By->Option Val}:∀(f:Nat) (m:Md) (lv d:Nat) (ts r:List By) (t:Tree) (e:Nat),pars lit f m lv d ts=some (t,r,e)->t.size+r.length<=m.sz+ts.length
 |0,m,lv,d,ts,r,t,e,h=>by cases h
 |f+1,.or,lv,d,ts,r,t,e,h=>by
  unfold pars at h
  split at h
  ·rename_i n r1 e1 h1
   have a:=pars_size f _ _ _ _ _ _ _ h1
   have b:=pars_size f _ _ _ _ _ _ _ h
   simp only[Md.sz] at*;omega
  ·cases h
 |f+1,.orL n,lv,d,ts,r,t,e,h=>by
  unfold pars at h
  split at h
  ·rename_i hd
   obtain⟨r0,rfl⟩:=head_ne hd (by decide)
   split at h
   ·rename_i n r1 e1 h1
    have a:=pars_size f _ _ _ _ _ _ _ h1
    have b:=pars_size f _ _ _ _ _ _ _ h
    simp only[Md.sz,Tree.size,List.tail_cons,List.length_cons] at*;omega
   ·cases h
  ·cases h;exact rL _
 |f+1,.and,lv,d,ts,r,t,e,h=>by
  unfold pars at h
  split at h
  ·rename_i n r1 e1 h1
   have a:=pars_size f _ _ _ _ _ _ _ h1
   have b:=pars_size f _ _ _ _ _ _ _ h
   simp only[Md.sz] at*;omega
  ·cases h
 |f+1,.andL n,lv,d,ts,r,t,e,h=>by
  unfold pars at h
  split at h
  ·rename_i hd
   obtain⟨r0,rfl⟩:=head_ne hd (by decide)
   split at h
   ·rename_i n r1 e1 h1
    have a:=pars_size f _ _ _ _ _ _ _ h1
    have b:=pars_size f _ _ _ _ _ _ _ h
    simp only[Md.sz,Tree.size,List.tail_cons,List.length_cons] at*;omega
   ·cases h
  ·cases h;exact rL _
 |f+1,.not,lv,d,ts,r,t,e,h=>by
  unfold pars at h
  split at h
  ·rename_i hd
   obtain⟨r0,rfl⟩:=head_ne hd (by decide)
   split at h
   ·rename_i n r1 e1 h1
    cases h
    have a:=pars_size f _ _ _ _ _ _ _ h1
    simp only[Md.sz,Tree.size,List.tail_cons,List.length_cons] at*;omega
   ·cases h
  ·have a:=pars_size f _ _ _ _ _ _ _ h
   simp only[Md.sz] at*;omega
 |f+1,.prim,lv,d,ts,r,t,e,h=>by
  unfold pars at h
  split at h
  ·rename_i hd
   obtain⟨r0,rfl⟩:=head_ne hd (by decide)
   cases h;simp only[Md.sz,Tree.size,List.tail_cons,List.length_cons];omega
  ·split at h
   ·rename_i hd
    obtain⟨r0,rfl⟩:=head_ne hd (by decide)
    cases h;simp only[Md.sz,Tree.size,List.tail_cons,List.length_cons];omega
   ·split at h
    ·rename_i hd
     obtain⟨r0,rfl⟩:=head_ne hd (by decide)
     split at h
     ·rename_i n r1 e1 h1
      have a:=pars_size f _ _ _ _ _ _ _ h1
      split at h
      ·rename_i hr
       obtain⟨r2,rfl⟩:=head_ne hr (by decide)
       cases h
       simp only[Md.sz,List.tail_cons,List.length_cons] at*;omega
      ·cases h
     ·cases h
    ·split at h
     ·rename_i a r1 h1
      have l1:=termW_len h1
      split at h
      ·split at h
       ·rename_i b r2 h2
        have l2:=termW_len h2
        cases h
        simp only[Md.sz,Tree.size,List.length_tail] at*;omega
       ·cases h
      ·cases h
     ·cases h
theorem litP_ok' {w:By} {v:Val} (h:litP w=some v):v.ok=true:=by
 have q:∀{v},qlit w=some v->v.ok=true:=fun{v} h=>by
  unfold qlit at h
  split at h
  ·rename_i v' hp
   split at h
   ·cases h
    unfold parseRow at hp
    split at hp
    ·cases hp
    ·split at hp
     ·split at hp
      ·rename_i vs _ hc
       cases hp
       simp only[Bool.and_eq_true] at hc
       have:=hc.1
       rw[rowOk_one] at this
       exact this
      ·cases hp
     ·cases hp
   ·cases h
  ·cases h
 unfold litP at h
 split at h
 ·split at h
  ·rename_i hc
   cases h;exact hc.2
  ·exact q h
 ·exact q h
theorem written_len {v:Val} (h:v.ok=true):(written v).length<=170:=by
 have:=ok_in h
 unfold written
 split
 ·have:=Lib.itoa_length_le v.n (by omega) (by omega);omega
 ·have:=esc_len v.s
  simp only[quoted,List.length_cons,List.length_append,List.length_nil];omega
theorem termW_nice:∀{ts r:List By} {t:Term},termW litP ts=some (t,r)->t.name.length<=16/\t.txt.length<=180
 |[],r,t,h=>by cases h
 |w::ts,r,t,h=>by
  unfold termW at h
  split at h
  ·split at h
   ·rename_i t' r' h1
    have ih:=termW_nice h1
    split at h
    ·cases h
    ·cases h
     refine⟨ih.1,?_⟩
     show(58::t'.name).length<=180
     simp;omega
   ·cases h
  ·split at h
   ·rename_i hn
    cases h
    simp only[Bool.and_eq_true] at hn
    have hl:w.length<=16:=by
     have:=hn.1
     unfold isName at this
     split at this
     ·simp
     ·simp only[Bool.and_eq_true,decide_eq_true_eq] at this;exact this.1.1
    refine⟨hl,?_⟩
    show(if w≠[] then w else litT v0).length<=180
    split
    ·omega
    ·decide
   ·split at h
    ·rename_i v hv
     cases h
     refine⟨zL _,?_⟩
     show(litT v).length<=180
     unfold litT
     rw[litP_ok' hv,if_pos rfl]
     have:=written_len (litP_ok' hv);omega
    ·cases h
def Md.nice:Md->Prop
 |.orL n=>n.nice
 |.andL n=>n.nice
 |_=>True
theorem relop_len {w:By} (h:relop w=true):w.length<=2:=by
 simp only[relop,rels,List.contains_eq_mem,decide_eq_true_eq,List.mem_cons,List.not_mem_nil,or_false] at h
 rcases h with rfl|rfl|rfl|rfl|rfl|rfl<;>decide
theorem pars_nice:∀(f:Nat) (m:Md) (lv d:Nat) (ts r:List By) (t:Tree) (e:Nat),pars litP f m lv d ts=some (t,r,e)->m.nice->t.nice
 |0,m,lv,d,ts,r,t,e,h,_=>by cases h
 |f+1,.or,lv,d,ts,r,t,e,h,_=>by
  unfold pars at h
  split at h
  ·rename_i n r1 e1 h1
   exact pars_nice f _ _ _ _ _ _ _ h (pars_nice f _ _ _ _ _ _ _ h1 trivial)
  ·cases h
 |f+1,.orL n,lv,d,ts,r,t,e,h,hn=>by
  unfold pars at h
  split at h
  ·split at h
   ·rename_i n r1 e1 h1
    exact pars_nice f _ _ _ _ _ _ _ h ⟨hn,pars_nice f _ _ _ _ _ _ _ h1 trivial⟩
   ·cases h
  ·cases h;exact hn
 |f+1,.and,lv,d,ts,r,t,e,h,_=>by
  unfold pars at h
  split at h
  ·rename_i n r1 e1 h1
   exact pars_nice f _ _ _ _ _ _ _ h (pars_nice f _ _ _ _ _ _ _ h1 trivial)
  ·cases h
 |f+1,.andL n,lv,d,ts,r,t,e,h,hn=>by
  unfold pars at h
  split at h
  ·split at h
   ·rename_i n r1 e1 h1
    exact pars_nice f _ _ _ _ _ _ _ h ⟨hn,pars_nice f _ _ _ _ _ _ _ h1 trivial⟩
   ·cases h
  ·cases h;exact hn
 |f+1,.not,lv,d,ts,r,t,e,h,_=>by
  unfold pars at h
  split at h
  ·split at h
   ·rename_i n r1 e1 h1
    cases h
    show n.nice
    exact pars_nice f .prim _ _ _ _ _ _ h1 trivial
   ·cases h
  ·exact pars_nice f .prim _ _ _ _ _ _ h trivial
 |f+1,.prim,lv,d,ts,r,t,e,h,_=>by
  unfold pars at h
  split at h
  ·cases h;trivial
  ·split at h
   ·cases h;trivial
   ·split at h
    ·split at h
     ·rename_i n r1 e1 h1
      split at h
      ·cases h
       exact pars_nice f .or _ _ _ _ _ _ h1 trivial
      ·cases h
     ·cases h
    ·split at h
     ·rename_i a r1 h1
      split at h
      ·rename_i hrel
       split at h
       ·rename_i b r2 h2
        cases h
        exact⟨relop_len hrel,termW_nice h1,termW_nice h2⟩
       ·cases h
      ·cases h
     ·cases h
end Go.Proofs.YtldggonlkafckaaGreatDoor
