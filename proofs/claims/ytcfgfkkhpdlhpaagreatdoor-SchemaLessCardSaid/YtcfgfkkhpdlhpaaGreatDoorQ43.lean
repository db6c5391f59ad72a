/-
  A part of the proof of SchemaLess.
-/
import Derived.Test.YtcfgfkkhpdlhpaaGreatDoorQ42
import Derived.Test.YtcfgfkkhpdlhpaaGreatDoorQ34
import Derived.Test.YtcfgfkkhpdlhpaaGreatDoorQ40
set_option linter.all false
namespace Go.Proofs.YtcfgfkkhpdlhpaaGreatDoor
open Go.RowKit
set_option maxRecDepth 100000
set_option linter.unusedVariables false
def leaves:Tree->List Term
 |.pair _ l r=>leaves l++leaves r
 |.no t=>leaves t
 |.test _ a b=>[a,b]
 |.truth _=>[]
theorem leaves_sides (a:Bool):∀t:Tree,(t.sides a).flatMap leaves=leaves t
 |.pair b l r=>by
  unfold Tree.sides
  split
  ·rw[List.flatMap_append,leaves_sides a l,leaves_sides a r];rfl
  ·simp
 |.no t=>by simp[Tree.sides]
 |.test _ _ _=>by simp[Tree.sides]
 |.truth _=>by simp[Tree.sides]
theorem leaves_size:∀t:Tree,(leaves t).length<=2*t.size
 |.pair _ l r=>by
  have h1:=leaves_size l
  have h2:=leaves_size r
  simp only[leaves,Tree.size,List.length_append];omega
 |.no t=>by
  have:=leaves_size t
  simp only[leaves,Tree.size];omega
 |.test _ _ _=>by simp[leaves,Tree.size]
 |.truth _=>by simp[leaves]
def sds (l:List Term):List GV:=l.map fun t=>.agg (sdc t)
theorem sds_cl [MaxL] (l:List Term):ClL (sds l):=ClL.mapOf (fun t=>Cl.agg (sdc_cl t)) l
theorem sds_len (l:List Term):(sds l).length=l.length:=by simp[sds]
theorem sds_ok (l:List Term):(sds l).all (fun x=>x.cells.length==5)=true:=by
 rw[List.all_eq_true];intro x hx
 obtain⟨t,_,rfl⟩:=List.mem_map.1 hx
 rfl
theorem sds_okEl (l:List Term):(sds l).all (okEl 5)=true:=by
 rw[List.all_eq_true];intro x hx
 obtain⟨t,_,rfl⟩:=List.mem_map.1 hx
 rfl
theorem sds_app (a b:List Term):sds (a++b)=sds a++sds b:=by unfold sds;rw[List.map_append]
theorem r_sd_test [MaxL] (op:By) (l r:Term):SC Tryz.prog 232 [.agg (ndc 4 [] l r op false)] [] (.val (.sl .none (sds [l,r]))) []:=by
 refine gwS Tryz.func232 rfl ?_
 conv=>whnf
 exact owes_wk (Wk.sl _ _) (Cl.sl (sds_cl _))
def lvs (L:List Tree) (i:Nat):List Term:=(L.take i).flatMap leaves
theorem lvs_succ {L:List Tree} {i:Nat} {y:Tree} (h:L[i]?=some y):lvs L (i+1)=lvs L i++leaves y:=by
 unfold lvs
 rw[List.take_add_one,h,List.flatMap_append]
 simp
theorem lvs_le (L:List Tree) (i:Nat):(lvs L i).length<=(L.flatMap leaves).length:=by
 have:L.flatMap leaves=lvs L i++(L.drop i).flatMap leaves:=by
  unfold lvs
  rw[<-List.flatMap_append,List.take_append_drop]
 rw[this,List.length_append];omega
theorem r_sd_kids [MaxL] (k:Nat) (hk:k≠4) (L:List Tree) (yes:Bool) (hL:L.length<=100000) (hb:(L.flatMap leaves).length<=1000000) (hc:∀y∈L,SC Tryz.prog 232 [y.ng] [] (.val (.sl .none (sds (leaves y)))) []):
  SC Tryz.prog 232 [.agg (ndc k (ngs L) t0 t0 [] yes)] [] (.val (.sl .none (sds (L.flatMap leaves)))) []:=by
 have hnl:(ngs L).length=L.length:=ngs_len L
 refine gwS Tryz.func232 rfl ?_
 conv=>whnf
 refine GIf.mk (fun h4=>?_) (fun h4=>?_)<;>conv=>whnf
 ·exfalso
  have h9:(k:Int)=4:=by simpa using h4
  omega
 refine GLoop.introS (fun q:Nat×List Term=>q.1<=L.length/\lvs L q.1=q.2) (fun q=>[(1,.ptr 0 0),(3,.sl (.own 2) (sds q.2)),(4,.i .i64 (q.1:Nat))])
  (fun q=>⟨[.box 211 (ndc k (ngs L) t0 t0 [] yes),.own 0 0 0,ow 209 5 q.2.length],0,[]⟩) (fun q=>L.length - q.1) (0,[]) ⟨zL _,rfl⟩ ⟨rfl,rfl,rfl,trivial⟩ rfl (fun _ _=>rL _) (fun q _=>by simp only[List.all_cons,ow_held];rfl) (fun q _ e he=>?_) (fun q φ0 hi=>?_)
 ·refine⟨?_,rfl,?_⟩
  ·show[(GObj.box _ (ndc k (ngs L) t0 t0 [] yes)).ren e,_,(ow _ 5 _).ren e]=_
   rw[ow_ren,GObj.box_cl (ndc_cl (ngs_cl L) t0 t0 [] yes) e];rfl
  ·show[GV.ptr (e 0) 0,(GV.sl (.own 2) (sds q.2)).ren e,_]=_
   rw[ren_own (he 2 (by simp)) (sds_cl _),he 0 (by simp)];rfl
 obtain⟨i,o⟩:=q
 obtain⟨hi,ho⟩:=hi
 replace hi:i<=L.length:=hi
 replace ho:lvs L i=o:=ho
 conv=>whnf
 refine GIf.mk (fun h=>?_) (fun h=>?_)<;>conv=>whnf
 rotate_left
 ·have hie:i=L.length:=by have:=of_decide_eq_false h;rw[hnl] at this;omega
  have hoe:o=L.flatMap leaves:=by rw[<-ho,hie];unfold lvs;rw[List.take_length]
  rw[<-hoe]
  exact owes_wk (Wk.sl _ _) (Cl.sl (sds_cl _))
 have hlt:i<L.length:=by have:=of_decide_eq_true h;rw[hnl] at this;omega
 obtain⟨y,hy⟩:∃y,L[i]?=some y:=⟨L[i],gL hlt⟩
 have hgy:(ngs L)[i]?=some y.ng:=by unfold ngs;rw[List.getElem?_map,hy];rfl
 have hcy:=hc y (List.mem_of_getElem? hy)
 have hcl:=y.ng_cl
 have hsucc:=lvs_succ hy
 have hle:=lvs_le L (i+1)
 rw[hsucc,ho,List.length_append] at hle
 rw[ho] at hsucc
 obtain⟨k2,kids,A,B,op,yes2,hng⟩:=ng_form y
 rw[hng] at hgy hcy hcl
 refine⟨cN _,.agg (ndc k2 kids A B op yes2),by rw[Int.toNat_natCast];exact hgy,rfl,?_⟩
 conv=>whnf
 generalize leaves y=ys at*
 rcases ys with _|⟨y1,ys⟩
 ·refine callP hcy (wR _) rfl (cC hcl .nil) (Cl.sl (sds_cl _)) ?_
  conv=>whnf
  rw[List.append_nil] at hsucc
  exact⟨L.length - (i+1),(by show _<L.length - i;omega),(i+1,o),⟨hlt,hsucc⟩,rfl,⟨rfl,rfl,wrap_succ (by omega),trivial⟩,[],rfl,rfl⟩
 ·refine callP hcy (wR _) rfl (cC hcl .nil) (Cl.sl (sds_cl _)) ?_
  conv=>whnf
  cases o with
  |nil=>
   refine⟨⟨sds_okEl (y1::ys),sds_ok _,by show(sds ([]:List Term)).length+(sds (y1::ys)).length<=4294967296;rw[sds_len,sds_len];omega⟩,sds (([]:List Term)++y1::ys),(([]:List Term)++y1::ys).length,⟨sds_app ([]:List Term) (y1::ys),by show _=(sds ([]:List Term)).length+(sds (y1::ys)).length;rw[sds_len,sds_len,List.length_append]⟩,?_⟩
   conv=>whnf
   refine⟨⟨zL _,by first|rfl|(rw[sds_len];rfl)|(rw[sds_len];simp),by first|exact .inr ⟨rfl,rfl⟩|exact .inl ⟨rfl,rfl⟩⟩,?_⟩
   conv=>whnf
   exact⟨L.length - (i+1),(by show _<L.length - i;omega),(i+1,([]:List Term)++y1::ys),⟨hlt,hsucc⟩,rfl,⟨rfl,rfl,wrap_succ (by omega),trivial⟩,_,rfl,rfl⟩
  |cons z zs=>
   refine⟨⟨sds_okEl (y1::ys),sds_ok _,by show(sds (z::zs)).length+(sds (y1::ys)).length<=4294967296;rw[sds_len,sds_len];omega⟩,sds ((z::zs)++y1::ys),((z::zs)++y1::ys).length,⟨sds_app (z::zs) (y1::ys),by show _=(sds (z::zs)).length+(sds (y1::ys)).length;rw[sds_len,sds_len,List.length_append]⟩,?_⟩
   conv=>whnf
   refine⟨⟨zL _,by first|rfl|(rw[sds_len];rfl)|(rw[sds_len];simp),by first|exact .inr ⟨rfl,rfl⟩|exact .inl ⟨rfl,rfl⟩⟩,?_⟩
   conv=>whnf
   exact⟨L.length - (i+1),(by show _<L.length - i;omega),(i+1,(z::zs)++y1::ys),⟨hlt,hsucc⟩,rfl,⟨rfl,rfl,wrap_succ (by omega),trivial⟩,_,rfl,rfl⟩
theorem r_sides [MaxL]:∀(n:Nat) (t:Tree),t.size<=n->t.size<=5000->SC Tryz.prog 232 [t.ng] [] (.val (.sl .none (sds (leaves t)))) []
 |0,t,h,_=>by cases t<;>simp[Tree.size] at h
 |n+1,t,h,h2=>by
  have hz:=leaves_size t
  cases t with
  |truth b=>
   have:=r_sd_kids 5 (by decide) [] b (by simp) (by simp) (fun y hy=>by cases hy)
   exact this
  |test op l r=>exact r_sd_test op l r
  |no t=>
   simp only[Tree.size] at h h2
   have:=r_sd_kids 3 (by decide) [t] false (by simp) (by simp[leaves] at hz⊢;simp only[Tree.size] at hz;omega) (fun y hy=>by
    rw[List.mem_singleton.1 hy];exact r_sides n t (by omega) (by omega))
   have e:[t].flatMap leaves=leaves (.no t):=by simp[leaves]
   rw[e] at this
   exact this
  |pair a l r=>
   have hs:=@sides_len a (Tree.pair a l r)
   have hk:∀y∈(Tree.pair a l r).sides a,SC Tryz.prog 232 [y.ng] [] (.val (.sl .none (sds (leaves y)))) []:=fun y hy=>by
    have:=sides_lt hy
    exact r_sides n y (by omega) (by omega)
   have:=r_sd_kids (opn a) (by cases a<;>decide) ((Tree.pair a l r).sides a) false (by omega) (by rw[leaves_sides];omega) hk
   rw[leaves_sides] at this
   rw[show(Tree.pair a l r).ng=.agg (ndc (opn a) (ngs ((Tree.pair a l r).sides a)) t0 t0 [] false) by show GV.agg _=_;rw[ncs_pair]]
   exact this
def addN (l:List By) (x:By):List By:=if x≠[]/\¬x∈l then l++[x] else l
def accL:Option Tree->List Term
 |none=>[]
 |some x=>leaves x
theorem leaves_join (a:Bool) (acc:Option Tree) (t:Tree):leaves (joinA a acc t)=accL acc++leaves t:=by cases acc<;>rfl
theorem leaves_flatA (a:Bool):∀(t:Tree) (acc:Option Tree),leaves (flatA a acc t)=accL acc++leaves t:=by
 intro t
 induction t generalizing a with
 |pair b l r i1 i2=>
  intro acc
  unfold flatA
  split
  ·rw[i2]
   show leaves (flatA a acc l)++leaves r=accL acc++(leaves l++leaves r)
   rw[i1,List.append_assoc]
  ·rw[leaves_join,i2]
   show accL acc++(leaves (flatA b none l)++leaves r)=accL acc++(leaves l++leaves r)
   rw[i1];rfl
 |no t i=>
  intro acc
  unfold flatA
  rw[leaves_join]
  show _++leaves (flatA true none t)=_
  rw[i];rfl
 |test op l r=>intro acc;unfold flatA;rw[leaves_join]
 |truth b=>intro acc;unfold flatA;rw[leaves_join]
theorem leaves_flat (t:Tree):leaves t.flat=leaves t:=by
 unfold Tree.flat;rw[leaves_flatA];rfl
def relB (op:By) (c:Int):Bool:=if op=[61] then c==0 else if op=[60,62] then c !=0 else if op=[60] then decide (c<0) else if op=[60,61] then decide (c<=0) else if op=[62] then decide (c>0) else decide (c>=0)
def truthV (τ:Term->Val):Tree->Bool
 |.pair a l r=>if a then truthV τ l&&truthV τ r else truthV τ l||truthV τ r
 |.no t=>!truthV τ t
 |.test op l r=>relB op (cmpV (τ l) (τ r))
 |.truth b=>b
def comb (a:Bool):Option Bool->Bool->Bool
 |none,x=>x
 |some y,x=>if a then y&&x else y||x
theorem truth_join (τ:Term->Val) (a:Bool) (acc:Option Tree) (t:Tree):truthV τ (joinA a acc t)=comb a (acc.map (truthV τ)) (truthV τ t):=by cases acc<;>rfl
theorem truth_flatA (τ:Term->Val):∀(t:Tree) (a:Bool) (acc:Option Tree),truthV τ (flatA a acc t)=comb a (acc.map (truthV τ)) (truthV τ t)
 |.pair b l r,a,acc=>by
  unfold flatA
  split
  ·rename_i hab
   subst hab
   rw[truth_flatA τ r,Option.map_some,truth_flatA τ l]
   cases acc<;>cases a<;>simp[comb,truthV,Bool.and_assoc,Bool.or_assoc]
  ·rw[truth_join,truth_flatA τ r,Option.map_some,truth_flatA τ l]
   cases acc<;>cases b<;>simp[comb,truthV]
 |.no t,a,acc=>by
  unfold flatA
  rw[truth_join]
  show comb a _ (!truthV τ (flatA true none t))=_
  rw[truth_flatA τ t];rfl
 |.test op l r,a,acc=>by unfold flatA;rw[truth_join]
 |.truth b,a,acc=>by unfold flatA;rw[truth_join]
theorem truth_sides (τ:Term->Val) (a:Bool):∀t:Tree,truthV τ t=if a then(t.sides a).all (truthV τ) else(t.sides a).any (truthV τ)
 |.pair b l r=>by
  unfold Tree.sides
  by_cases hab:a=b
  ·subst hab
   rw[if_pos rfl,List.all_append,List.any_append]
   have h1:=truth_sides τ a l
   have h2:=truth_sides τ a r
   cases a<;>simp[truthV,h1,h2]
  ·rw[if_neg hab]
   cases a<;>simp
 |.no t=>by cases a<;>simp[Tree.sides]
 |.test _ _ _=>by cases a<;>simp[Tree.sides]
 |.truth _=>by cases a<;>simp[Tree.sides]
def kindR (I V:List Itm) (t:Term):Int:=if t.name=[] then t.v.k else match(if t.var then V else I).find? (fun i=>i.name==t.name) with
 |some i=>i.k
 |none=>0
def tsts:Tree->List (Term×Term)
 |.pair _ l r=>tsts l++tsts r
 |.no t=>tsts t
 |.test _ a b=>[(a,b)]
 |.truth _=>[]
def checkS (I V:List Itm) (t:Tree):Int:=if(leaves t).any (fun x=>kindR I V x==0) then 5 else if(tsts t).any (fun p=>kindR I V p.1 !=kindR I V p.2) then 10 else 0
theorem leaves_tsts:∀t:Tree,leaves t=(tsts t).flatMap fun p=>[p.1,p.2]
 |.pair _ l r=>by simp only[leaves,tsts,List.flatMap_append];rw[leaves_tsts l,leaves_tsts r]
 |.no t=>leaves_tsts t
 |.test _ _ _=>rfl
 |.truth _=>rfl
def accT:Option Tree->List (Term×Term)
 |none=>[]
 |some x=>tsts x
theorem tsts_join (a:Bool) (acc:Option Tree) (t:Tree):tsts (joinA a acc t)=accT acc++tsts t:=by cases acc<;>rfl
theorem tsts_flatA:∀(t:Tree) (a:Bool) (acc:Option Tree),tsts (flatA a acc t)=accT acc++tsts t
 |.pair b l r,a,acc=>by
  unfold flatA
  split
  ·rw[tsts_flatA r]
   show tsts (flatA a acc l)++tsts r=accT acc++(tsts l++tsts r)
   rw[tsts_flatA l,List.append_assoc]
  ·rw[tsts_join,tsts_flatA r]
   show accT acc++(tsts (flatA b none l)++tsts r)=accT acc++(tsts l++tsts r)
   rw[tsts_flatA l];rfl
 |.no t,a,acc=>by
  unfold flatA
  rw[tsts_join]
  show _++tsts (flatA true none t)=_
  rw[tsts_flatA t];rfl
 |.test op l r,a,acc=>by unfold flatA;rw[tsts_join]
 |.truth b,a,acc=>by unfold flatA;rw[tsts_join]
theorem tsts_flat (t:Tree):tsts t.flat=tsts t:=tsts_flatA t true none
theorem check_flat (I V:List Itm) (t:Tree):checkS I V t.flat=checkS I V t:=by
 unfold checkS
 rw[leaves_flat,tsts_flat]
theorem c_kind1 [MaxL] (i:Itm) (t:Term):SC Tryz.prog 262 [i.gv,.ptr 0 0] [.box 242 t.cs] (.val (.b (i.name==t.name))) [.box 242 t.cs]:=by
 obtain⟨name,k,lo,hi,len⟩:=i
 obtain⟨nm,vr,v⟩:=t
 refine gwS Tryz.func262 rfl ?_
 conv=>whnf
 exact owesB_b rfl rfl (fun _=>rfl)
theorem tm_own [MaxL] (t:Term):Own0 [.box 242 t.cs]:=fun e _=>rfl
theorem c_idxK [MaxL] (l:List Itm) (hl:l.length<most) (t:Term):SC Tryz.prog 179 [.sl .none (itms l),.fn (.func 262) [] [.ptr 0 0]] [.box 242 t.cs] (.val (.i .i64 (idxN l t.name))) [.box 242 t.cs]:=by
 have hlen:=itms_len l
 unfold most at hl
 refine gwS Tryz.func179 rfl ?_
 conv=>whnf
 refine GLoop.introS (fun i:Nat=>i<=l.length/\∀z∈l.take i,z.name≠t.name) (fun i=>[(0,.sl .none (itms l)),(1,.fn (.func 262) [] [.ptr 0 0]),(7,.i .i64 (itms l).length),(8,.i .i64 (i:Nat))]) (fun _=>⟨[.box 242 t.cs],0,[]⟩) (fun i=>l.length - i) 0 ⟨zL _,fun z h=>by simp at h⟩ ⟨rfl,rfl,rfl,rfl,trivial⟩ rfl (fun _ _=>rL _) (fun _ _=>rfl) (fun i _ e he=>?_) (fun i φ0 hi=>?_)
 ·refine⟨rfl,rfl,?_⟩
  show[(GV.sl .none (itms l)).ren e,GV.fn _ [] [.ptr (e 0) 0],_,_]=_
  rw[Cl.sl (itms_cl l) e,he 0 (by simp)];rfl
 obtain⟨hi,hne⟩:=hi
 conv=>whnf
 refine GIf.mk (fun h=>?_) (fun h=>?_)<;>conv=>whnf
 rotate_left
 ·have hie:i=l.length:=by have:=of_decide_eq_false h;rw[hlen] at this;omega
  rw[hie,List.take_length] at hne
  rw[idx_no hne]
  exact owesB rfl (.refl _) (fun _=>rfl) (.i _ _)
 have hlt:i<l.length:=by have:=of_decide_eq_true h;rw[hlen] at this;omega
 obtain⟨y,hy⟩:∃y,l[i]?=some y:=⟨l[i],gL hlt⟩
 have hk:=c_kind1 y t
 refine⟨cN _,_,by rw[Int.toNat_natCast];exact itms_at hy,rfl,?_⟩
 conv=>whnf
 refine callPre (rest:=[]) hk rfl rfl rfl rfl (tm_own t) (tm_own t) rfl (fun e he=>by show[(y.gv).ren e,GV.ptr (e 0) 0]=_;rw[y.cl e,he 0 (by simp)]) (fun _ _=>rfl) (wR _) ?_
 conv=>whnf
 refine GIf.mk (fun heq=>?_) (fun heq=>?_)<;>conv=>whnf
 ·have e:y.name=t.name:=by simpa using heq
  rw[idx_yes hy e hne]
  exact owesB rfl (.refl _) (fun _=>rfl) (.i _ _)
 ·have e:y.name≠t.name:=by simpa using heq
  exact⟨l.length - (i+1),(by show _<l.length - i;omega),i+1,⟨hlt,take_ne_succ hne hy e⟩,rfl,⟨rfl,rfl,rfl,wrap_succ (by omega),trivial⟩,[],rfl,rfl⟩
theorem idx_kind (l:List Itm) (s:By):(idxN l s= -1/\l.find? (fun i=>i.name==s)=none)∨∃(j:Nat) (y:Itm),idxN l s=(j:Nat)/\l[j]?=some y/\l.find? (fun i=>i.name==s)=some y:=by
 rcases idx_cases l s with⟨h1,h2⟩|⟨j,y,h1,h2,h3,h4⟩
 ·exact .inl ⟨h1,List.find?_eq_none.2 (fun x hx=>by simpa using h2 x hx)⟩
 ·refine .inr ⟨j,y,h1,h2,?_⟩
  have hlt:=(List.getElem?_eq_some_iff.1 h2).1
  have e:l=l.take j++y::l.drop (j+1):=by
   have:l.drop j=y::l.drop (j+1):=by
    rw[List.drop_eq_getElem_cons hlt,(List.getElem?_eq_some_iff.1 h2).2]
   rw[<-this,List.take_append_drop]
  rw[e,List.find?_append,List.find?_eq_none.2 (fun x hx=>by simpa using h4 x hx)]
  simp[h3]
def kindE (I V:List Itm) (t:Term):Int:=if t.name=[] then 0 else match(if t.var then V else I).find? (fun i=>i.name==t.name) with
 |some _=>0
 |none=>5
theorem c_kind [MaxL] (I V:List Itm) (hI:I.length<most) (hV:V.length<most) (t:Term):SC Tryz.prog 223 [t.gv,.sl .none (itms I),.sl .none (itms V)] [] (.val (.tup [.i .i64 (kindR I V t),.i .i64 (kindE I V t)])) []:=by
 have key:∀(l:List Itm),l.length<most->SC Tryz.prog 179 [.sl .none (itms l),.fn (.func 262) [] [.ptr 0 0]] [.box 242 t.cs] (.val (.i .i64 (idxN l t.name))) [.box 242 t.cs]:=fun l hl=>c_idxK l hl t
 obtain⟨nm,vr,v⟩:=t
 by_cases hn:nm=[]
 ·subst hn
  have e1:kindR I V ⟨[],vr,v⟩=v.k:=rfl
  have e2:kindE I V ⟨[],vr,v⟩=0:=rfl
  rw[e1,e2]
  refine gwS Tryz.func223 rfl ?_
  conv=>whnf
  exact owes_wk (.refl _) (fun _=>rfl)
 ·have e1:kindR I V ⟨nm,vr,v⟩=match(if vr then V else I).find? (fun i=>i.name==nm) with|some i=>i.k|none=>0:=if_neg hn
  have e2:kindE I V ⟨nm,vr,v⟩=match(if vr then V else I).find? (fun i=>i.name==nm) with|some _=>0|none=>5:=if_neg hn
  rw[e1,e2]
  cases vr with
  |true=>
   have hk:=key V hV
   simp only[if_true]
   have hc:=idx_kind V nm
   replace hk:SC Tryz.prog 179 [.sl .none (itms V),.fn (.func 262) [] [.ptr 0 0]] [.box 242 (Term.cs ⟨nm,true,v⟩)] (.val (.i .i64 (idxN V nm))) [.box 242 (Term.cs ⟨nm,true,v⟩)]:=hk
   rcases hc with⟨h1,h2⟩|⟨j,y,h1,h2,h3⟩
   ·rw[h1] at hk
    rw[h2]
    refine gwS Tryz.func223 rfl ?_
    conv=>whnf
    refine GIf.mk (fun h0=>?_) (fun h0=>?_)<;>conv=>whnf
    ·exact absurd (by simpa using h0) hn
    refine callPre (rest:=[]) hk rfl rfl rfl rfl (tm_own ⟨nm,true,v⟩) (tm_own ⟨nm,true,v⟩) rfl (fun e he=>by show[(GV.sl .none (itms V)).ren e,GV.fn _ [] [.ptr (e 0) 0]]=_;rw[Cl.sl (itms_cl V) e,he 0 (by simp)]) (fun _ _=>rfl) (wR _) ?_
    conv=>whnf
    exact owes_wk (.refl _) (fun _=>rfl)
   ·rw[h1] at hk
    rw[h3]
    refine gwS Tryz.func223 rfl ?_
    conv=>whnf
    refine GIf.mk (fun h0=>?_) (fun h0=>?_)<;>conv=>whnf
    ·exact absurd (by simpa using h0) hn
    refine callPre (rest:=[]) hk rfl rfl rfl rfl (tm_own ⟨nm,true,v⟩) (tm_own ⟨nm,true,v⟩) rfl (fun e he=>by show[(GV.sl .none (itms V)).ren e,GV.fn _ [] [.ptr (e 0) 0]]=_;rw[Cl.sl (itms_cl V) e,he 0 (by simp)]) (fun _ _=>rfl) (wR _) ?_
    conv=>whnf
    refine⟨cN _,_,by rw[Int.toNat_natCast];exact itms_at h2,rfl,?_⟩
    conv=>whnf
    exact owes_wk (.refl _) (fun _=>rfl)
  |false=>
   have hk:=key I hI
   simp only[Bool.false_eq_true,if_false]
   have hc:=idx_kind I nm
   replace hk:SC Tryz.prog 179 [.sl .none (itms I),.fn (.func 262) [] [.ptr 0 0]] [.box 242 (Term.cs ⟨nm,false,v⟩)] (.val (.i .i64 (idxN I nm))) [.box 242 (Term.cs ⟨nm,false,v⟩)]:=hk
   rcases hc with⟨h1,h2⟩|⟨j,y,h1,h2,h3⟩
   ·rw[h1] at hk
    rw[h2]
    refine gwS Tryz.func223 rfl ?_
    conv=>whnf
    refine GIf.mk (fun h0=>?_) (fun h0=>?_)<;>conv=>whnf
    ·exact absurd (by simpa using h0) hn
    refine callPre (rest:=[]) hk rfl rfl rfl rfl (tm_own ⟨nm,false,v⟩) (tm_own ⟨nm,false,v⟩) rfl (fun e he=>by show[(GV.sl .none (itms I)).ren e,GV.fn _ [] [.ptr (e 0) 0]]=_;rw[Cl.sl (itms_cl I) e,he 0 (by simp)]) (fun _ _=>rfl) (wR _) ?_
    conv=>whnf
    exact owes_wk (.refl _) (fun _=>rfl)
   ·rw[h1] at hk
    rw[h3]
    refine gwS Tryz.func223 rfl ?_
    conv=>whnf
    refine GIf.mk (fun h0=>?_) (fun h0=>?_)<;>conv=>whnf
    ·exact absurd (by simpa using h0) hn
    refine callPre (rest:=[]) hk rfl rfl rfl rfl (tm_own ⟨nm,false,v⟩) (tm_own ⟨nm,false,v⟩) rfl (fun e he=>by show[(GV.sl .none (itms I)).ren e,GV.fn _ [] [.ptr (e 0) 0]]=_;rw[Cl.sl (itms_cl I) e,he 0 (by simp)]) (fun _ _=>rfl) (wR _) ?_
    conv=>whnf
    refine⟨cN _,_,by rw[Int.toNat_natCast];exact itms_at h2,rfl,?_⟩
    conv=>whnf
    exact owes_wk (.refl _) (fun _=>rfl)
def eH (I V:List Itm) (e:Int):List GObj:=[.box 32 [.sl .none (itms I)],.box 32 [.sl .none (itms V)],.box 29 [.i .i64 e]]
def addE (I V:List Itm) (e:Int) (t:Term):Int:=if e=0 then kindE I V t else e
theorem eH_own [MaxL] (I V:List Itm) (e:Int):Own0 (eH I V e):=fun f hf=>by
 show[(GObj.box _ [.sl .none (itms I)]).ren f,(GObj.box _ [.sl .none (itms V)]).ren f,_]=_
 rw[GObj.box_cl (cC (Cl.sl (itms_cl I)) .nil),GObj.box_cl (cC (Cl.sl (itms_cl V)) .nil)];rfl
theorem eHt_own [MaxL] (I V:List Itm) (e:Int) {T:TypeId} {cs:List GV} (hc:ClL cs):Own0 (eH I V e++[GObj.box T cs]):=fun f hf=>by
 show[(GObj.box _ [.sl .none (itms I)]).ren f,(GObj.box _ [.sl .none (itms V)]).ren f,_,(GObj.box T cs).ren f]=_
 rw[GObj.box_cl (cC (Cl.sl (itms_cl I)) .nil),GObj.box_cl (cC (Cl.sl (itms_cl V)) .nil),GObj.box_cl hc];rfl
theorem eH_held [MaxL] (I V:List Itm) (e:Int):(eH I V e).all GObj.notHeld=true:=rfl
theorem eHt_held [MaxL] (I V:List Itm) (e:Int) {T:TypeId} {cs:List GV}:(eH I V e++[GObj.box T cs]).all GObj.notHeld=true:=rfl
theorem c_ck1a [MaxL] (I V:List Itm) (hI:I.length<most) (hV:V.length<most) (e:Int) (op:By) (a b:Term):SC Tryz.prog 222 [.ptr 3 1,.ptr 0 0,.ptr 1 0,.ptr 2 0] (eH I V e++[.box 244 (Tree.test op a b).cs]) (.val (.tup [])) (eH I V (addE I V e a)++[.box 244 (Tree.test op a b).cs]):=by
 have hk:=c_kind I V hI hV a
 unfold addE
 generalize kindR I V a=kr at*
 generalize kindE I V a=ke at*
 refine SC.of_gwp noM mixed Tryz.func222 rfl (bL rfl) (by simp[eH]) (eHt_held _ _ _) ?_
 conv=>whnf
 refine GDraw.calm (by kernel_rfl) ?_
 conv=>whnf
 refine callP hk (wR _) rfl (cC a.cl (cC (Cl.sl (itms_cl I)) (cC (Cl.sl (itms_cl V)) .nil))) (fun _=>rfl) ?_
 conv=>whnf
 refine GIf.mk (fun h=>?_) (fun h=>?_)<;>conv=>whnf
 ·have h9:e=0:=by simpa using h
  rw[if_pos h9]
  refine⟨_,⟨rfl,zL _,rfl,bL rfl⟩,?_⟩
  conv=>whnf
  exact owesPre (rest:=[]) rfl (by simp[eH]) (eHt_own I V ke (Tree.cs_cl _)) (eHt_held _ _ _) (fun _ _=>rfl) (Wk.refl _)
 ·have h9:¬e=0:=by simpa using h
  rw[if_neg h9]
  exact owesPre (rest:=[]) rfl (by simp[eH]) (eHt_own I V e (Tree.cs_cl _)) (eHt_held _ _ _) (fun _ _=>rfl) (Wk.refl _)
theorem c_ck1b [MaxL] (I V:List Itm) (hI:I.length<most) (hV:V.length<most) (e:Int) (op:By) (a b:Term):SC Tryz.prog 222 [.ptr 3 6,.ptr 0 0,.ptr 1 0,.ptr 2 0] (eH I V e++[.box 244 (Tree.test op a b).cs]) (.val (.tup [])) (eH I V (addE I V e b)++[.box 244 (Tree.test op a b).cs]):=by
 have hk:=c_kind I V hI hV b
 unfold addE
 generalize kindR I V b=kr at*
 generalize kindE I V b=ke at*
 refine SC.of_gwp noM mixed Tryz.func222 rfl (bL rfl) (by simp[eH]) (eHt_held _ _ _) ?_
 conv=>whnf
 refine GDraw.calm (by kernel_rfl) ?_
 conv=>whnf
 refine callP hk (wR _) rfl (cC b.cl (cC (Cl.sl (itms_cl I)) (cC (Cl.sl (itms_cl V)) .nil))) (fun _=>rfl) ?_
 conv=>whnf
 refine GIf.mk (fun h=>?_) (fun h=>?_)<;>conv=>whnf
 ·have h9:e=0:=by simpa using h
  rw[if_pos h9]
  refine⟨_,⟨rfl,zL _,rfl,bL rfl⟩,?_⟩
  conv=>whnf
  exact owesPre (rest:=[]) rfl (by simp[eH]) (eHt_own I V ke (Tree.cs_cl _)) (eHt_held _ _ _) (fun _ _=>rfl) (Wk.refl _)
 ·have h9:¬e=0:=by simpa using h
  rw[if_neg h9]
  exact owesPre (rest:=[]) rfl (by simp[eH]) (eHt_own I V e (Tree.cs_cl _)) (eHt_held _ _ _) (fun _ _=>rfl) (Wk.refl _)
def addD (I V:List Itm) (e:Int) (p:Term×Term):Int:=if kindR I V p.1 !=kindR I V p.2 then 10 else e
theorem c_ck2 [MaxL] (I V:List Itm) (hI:I.length<most) (hV:V.length<most) (e:Int) (op:By) (a b:Term):SC Tryz.prog 225 [.agg (Tree.test op a b).cs,.ptr 0 0,.ptr 1 0,.ptr 2 0] (eH I V e) (.val (.tup [])) (eH I V (addD I V e (a,b))):=by
 have hka:=c_kind I V hI hV a
 have hkb:=c_kind I V hI hV b
 unfold addD
 simp only
 generalize kindR I V a=ka at*
 generalize kindE I V a=ea at*
 generalize kindR I V b=kb at*
 generalize kindE I V b=eb at*
 refine SC.of_gwp noM mixed Tryz.func225 rfl (bL rfl) (by simp[eH]) (eH_held _ _ _) ?_
 conv=>whnf
 refine callP hka (wR _) rfl (cC a.cl (cC (Cl.sl (itms_cl I)) (cC (Cl.sl (itms_cl V)) .nil))) (fun _=>rfl) ?_
 conv=>whnf
 refine callP hkb (wR _) rfl (cC b.cl (cC (Cl.sl (itms_cl I)) (cC (Cl.sl (itms_cl V)) .nil))) (fun _=>rfl) ?_
 conv=>whnf
 refine GIf.mk (fun h=>?_) (fun h=>?_)<;>conv=>whnf
 ·rw[if_pos h]
  refine⟨_,⟨rfl,zL _,rfl,bL rfl⟩,?_⟩
  conv=>whnf
  exact owesPre (rest:=[_]) rfl (by simp[eH]) (eH_own I V 10) (eH_held _ _ _) (fun _ _=>rfl) (Wk.refl _)
 ·rw[if_neg (by rw[h];decide)]
  exact owesPre (rest:=[_]) rfl (by simp[eH]) (eH_own I V e) (eH_held _ _ _) (fun _ _=>rfl) (Wk.refl _)
def cF (k:FuncId):GV:=.fn (.func k) [] [.ptr 0 0,.ptr 1 0,.ptr 2 0]
theorem cF_ren [MaxL] (k:FuncId) {e:Nat->Nat} (h0:e 0=0) (h1:e 1=1) (h2:e 2=2):(cF k).ren e=cF k:=by
 show GV.fn _ [] [.ptr (e 0) 0,.ptr (e 1) 0,.ptr (e 2) 0]=_
 rw[h0,h1,h2];rfl
theorem cargs_ren [MaxL] (k:FuncId) {I V:List Itm} {x:Int} {t:Tree} (e:Nat->Nat) (he:∀i,i<(eH I V x).length->e i=i):[t.gv,cF k].map (GV.ren e)=[t.gv,cF k]:=by
 show[t.gv.ren e,(cF k).ren e]=_
 rw[t.cl e,cF_ren k (he 0 (by simp[eH])) (he 1 (by simp[eH])) (he 2 (by simp[eH]))]
theorem c_termsE [MaxL] (I V:List Itm) (hI:I.length<most) (hV:V.length<most):∀(t:Tree) (x:Int),SC Tryz.prog 221 [t.gv,cF 222] (eH I V x) (.val (.tup [])) (eH I V ((leaves t).foldl (addE I V) x))
 |.pair a l r,x=>by
  have s1:=c_termsE I V hI hV l x
  have s2:=c_termsE I V hI hV r ((leaves l).foldl (addE I V) x)
  rw[show(leaves (Tree.pair a l r)).foldl (addE I V) x=(leaves r).foldl (addE I V) ((leaves l).foldl (addE I V) x) by simp[leaves,List.foldl_append]]
  refine SC.of_gwp noM mixed Tryz.func221 rfl (bL rfl) (by simp[eH]) (eH_held _ _ _) ?_
  conv=>whnf
  refine⟨_,⟨rfl,zL _,rfl,bL rfl⟩,?_⟩
  conv=>whnf
  refine callPre (rest:=[.box 280 (Tree.pair a l r).cs]) s1 rfl (by simp[eH]) rfl rfl (eH_own _ _ _) (eH_own _ _ _) (eH_held _ _ _) (cargs_ren _) (fun _ _=>rfl) (wR _) ?_
  conv=>whnf
  refine callPre (rest:=[.box 280 (Tree.pair a l r).cs]) s2 rfl (by simp[eH]) rfl rfl (eH_own _ _ _) (eH_own _ _ _) (eH_held _ _ _) (cargs_ren _) (fun _ _=>rfl) (wR _) ?_
  conv=>whnf
  exact owesPre (rest:=[_]) rfl (by simp[eH]) (eH_own _ _ _) (eH_held _ _ _) (fun _ _=>rfl) (Wk.refl _)
 |.no t,x=>by
  have s1:=c_termsE I V hI hV t x
  refine SC.of_gwp noM mixed Tryz.func221 rfl (bL rfl) (by simp[eH]) (eH_held _ _ _) ?_
  conv=>whnf
  refine⟨_,⟨rfl,zL _,rfl,bL rfl⟩,?_⟩
  conv=>whnf
  refine callPre (rest:=[.box 278 (Tree.no t).cs]) s1 rfl (by simp[eH]) rfl rfl (eH_own _ _ _) (eH_own _ _ _) (eH_held _ _ _) (cargs_ren _) (fun _ _=>rfl) (wR _) ?_
  conv=>whnf
  exact owesPre (rest:=[_]) rfl (by simp[eH]) (eH_own _ _ _) (eH_held _ _ _) (fun _ _=>rfl) (Wk.refl _)
 |.test op a b,x=>by
  have s1:=c_ck1a I V hI hV x op a b
  have s2:=c_ck1b I V hI hV (addE I V x a) op a b
  have hcs:=(Tree.test op a b).cs_cl
  refine SC.of_gwp noM mixed Tryz.func221 rfl (bL rfl) (by simp[eH]) (eH_held _ _ _) ?_
  conv=>whnf
  refine⟨_,⟨rfl,zL _,rfl,bL rfl⟩,?_⟩
  conv=>whnf
  refine callPre (rest:=[]) s1 rfl (by simp[eH]) rfl rfl (eHt_own _ _ _ hcs) (eHt_own _ _ _ hcs) (eHt_held _ _ _) (fun e he=>by show[GV.ptr (e 3) 1,.ptr (e 0) 0,.ptr (e 1) 0,.ptr (e 2) 0]=_;rw[he 3 (by simp[eH]),he 0 (by simp[eH]),he 1 (by simp[eH]),he 2 (by simp[eH])]) (fun _ _=>rfl) (wR _) ?_
  conv=>whnf
  refine callPre (rest:=[]) s2 rfl (by simp[eH]) rfl rfl (eHt_own _ _ _ hcs) (eHt_own _ _ _ hcs) (eHt_held _ _ _) (fun e he=>by show[GV.ptr (e 3) 6,.ptr (e 0) 0,.ptr (e 1) 0,.ptr (e 2) 0]=_;rw[he 3 (by simp[eH]),he 0 (by simp[eH]),he 1 (by simp[eH]),he 2 (by simp[eH])]) (fun _ _=>rfl) (wR _) ?_
  conv=>whnf
  exact owesPre (rest:=[_]) rfl (by simp[eH]) (eH_own _ _ _) (eH_held _ _ _) (fun _ _=>rfl) (Wk.refl _)
 |.truth b,x=>by
  refine SC.of_gwp noM mixed Tryz.func221 rfl (bL rfl) (by simp[eH]) (eH_held _ _ _) ?_
  conv=>whnf
  exact owesPre (rest:=[]) rfl (by simp[eH]) (eH_own _ _ _) (eH_held _ _ _) (fun _ _=>rfl) (Wk.refl _)
theorem c_testsE [MaxL] (I V:List Itm) (hI:I.length<most) (hV:V.length<most):∀(t:Tree) (x:Int),SC Tryz.prog 224 [t.gv,cF 225] (eH I V x) (.val (.tup [])) (eH I V ((tsts t).foldl (addD I V) x))
 |.pair a l r,x=>by
  have s1:=c_testsE I V hI hV l x
  have s2:=c_testsE I V hI hV r ((tsts l).foldl (addD I V) x)
  rw[show(tsts (Tree.pair a l r)).foldl (addD I V) x=(tsts r).foldl (addD I V) ((tsts l).foldl (addD I V) x) by simp[tsts,List.foldl_append]]
  refine SC.of_gwp noM mixed Tryz.func224 rfl (bL rfl) (by simp[eH]) (eH_held _ _ _) ?_
  conv=>whnf
  refine⟨_,⟨rfl,zL _,rfl,bL rfl⟩,?_⟩
  conv=>whnf
  refine callPre (rest:=[.box 280 (Tree.pair a l r).cs]) s1 rfl (by simp[eH]) rfl rfl (eH_own _ _ _) (eH_own _ _ _) (eH_held _ _ _) (cargs_ren _) (fun _ _=>rfl) (wR _) ?_
  conv=>whnf
  refine callPre (rest:=[.box 280 (Tree.pair a l r).cs]) s2 rfl (by simp[eH]) rfl rfl (eH_own _ _ _) (eH_own _ _ _) (eH_held _ _ _) (cargs_ren _) (fun _ _=>rfl) (wR _) ?_
  conv=>whnf
  exact owesPre (rest:=[_]) rfl (by simp[eH]) (eH_own _ _ _) (eH_held _ _ _) (fun _ _=>rfl) (Wk.refl _)
 |.no t,x=>by
  have s1:=c_testsE I V hI hV t x
  refine SC.of_gwp noM mixed Tryz.func224 rfl (bL rfl) (by simp[eH]) (eH_held _ _ _) ?_
  conv=>whnf
  refine⟨_,⟨rfl,zL _,rfl,bL rfl⟩,?_⟩
  conv=>whnf
  refine callPre (rest:=[.box 278 (Tree.no t).cs]) s1 rfl (by simp[eH]) rfl rfl (eH_own _ _ _) (eH_own _ _ _) (eH_held _ _ _) (cargs_ren _) (fun _ _=>rfl) (wR _) ?_
  conv=>whnf
  exact owesPre (rest:=[_]) rfl (by simp[eH]) (eH_own _ _ _) (eH_held _ _ _) (fun _ _=>rfl) (Wk.refl _)
 |.test op a b,x=>by
  have s1:=c_ck2 I V hI hV x op a b
  have hcs:=(Tree.test op a b).cs_cl
  refine SC.of_gwp noM mixed Tryz.func224 rfl (bL rfl) (by simp[eH]) (eH_held _ _ _) ?_
  conv=>whnf
  refine⟨_,⟨rfl,zL _,rfl,bL rfl⟩,?_⟩
  conv=>whnf
  refine callPre (rest:=[.box 244 (Tree.test op a b).cs]) s1 rfl (by simp[eH]) rfl rfl (eH_own _ _ _) (eH_own _ _ _) (eH_held _ _ _) (fun e he=>by show[(GV.agg (Tree.test op a b).cs).ren e,GV.ptr (e 0) 0,.ptr (e 1) 0,.ptr (e 2) 0]=_;rw[Cl.agg hcs e,he 0 (by simp[eH]),he 1 (by simp[eH]),he 2 (by simp[eH])]) (fun _ _=>rfl) (wR _) ?_
  conv=>whnf
  exact owesPre (rest:=[_]) rfl (by simp[eH]) (eH_own _ _ _) (eH_held _ _ _) (fun _ _=>rfl) (Wk.refl _)
 |.truth b,x=>by
  refine SC.of_gwp noM mixed Tryz.func224 rfl (bL rfl) (by simp[eH]) (eH_held _ _ _) ?_
  conv=>whnf
  exact owesPre (rest:=[]) rfl (by simp[eH]) (eH_own _ _ _) (eH_held _ _ _) (fun _ _=>rfl) (Wk.refl _)
theorem foldE (I V:List Itm):∀(ts:List Term) (x:Int),x=0∨x=5->ts.foldl (addE I V) x=if x=5∨ts.any (fun t=>kindE I V t==5) then 5 else 0
 |[],x,h=>by rcases h with rfl|rfl<;>rfl
 |t::ts,x,h=>by
  have hk:kindE I V t=0∨kindE I V t=5:=by
   unfold kindE
   split
   ·exact .inl rfl
   ·split
    ·exact .inl rfl
    ·exact .inr rfl
  rw[List.foldl_cons,List.any_cons]
  have hx:addE I V x t=0∨addE I V x t=5:=by
   unfold addE;split
   ·exact hk
   ·exact h
  rw[foldE I V ts _ hx]
  unfold addE
  rcases h with rfl|rfl
  ·rcases hk with hk|hk<;>simp[hk]
  ·simp
theorem foldD (I V:List Itm):∀(ts:List (Term×Term)) (x:Int),x=0∨x=10->ts.foldl (addD I V) x=if x=10∨ts.any (fun p=>kindR I V p.1 !=kindR I V p.2) then 10 else 0
 |[],x,h=>by rcases h with rfl|rfl<;>rfl
 |t::ts,x,h=>by
  rw[List.foldl_cons,List.any_cons]
  have hx:addD I V x t=0∨addD I V x t=10:=by
   unfold addD;split
   ·exact .inr rfl
   ·exact h
  rw[foldD I V ts _ hx]
  unfold addD
  cases hb:(kindR I V t.1 !=kindR I V t.2) with
  |true=>simp
  |false=>
   simp only[Bool.false_eq_true,if_false,Bool.false_or]
theorem kind_zero {I V:List Itm} (hI:knownB I=true) (hV:knownB V=true) {t:Term} (ht:t.good):(kindR I V t==0)=(kindE I V t==5):=by
 have okk:∀{l:List Itm},knownB l=true->∀y∈l,y.k≠0:=fun h y hy=>by
  unfold knownB at h
  simp only[Bool.and_eq_true,List.all_eq_true] at h
  have:=h.1.1 y hy
  simp only[Itm.ok,Bool.and_eq_true,Bool.or_eq_true,decide_eq_true_eq] at this
  rcases this.2 with h|h<;>omega
 unfold kindR kindE
 by_cases hn:t.name=[]
 ·rw[if_pos hn,if_pos hn]
  have hv:t.v.ok=true:=by
   rcases ht with⟨h1,_⟩|⟨_,_,h3⟩
   ·exact absurd hn h1
   ·exact h3
  rcases ok_kind hv with h|h<;>rw[h]<;>rfl
 ·rw[if_neg hn,if_neg hn]
  cases hf:(if t.var then V else I).find? (fun i=>i.name==t.name) with
  |none=>rfl
  |some y=>
   have hm:=List.mem_of_find?_eq_some hf
   have:y.k≠0:=by
    cases hv:t.var with
    |true=>rw[hv] at hm;exact okk hV y hm
    |false=>rw[hv] at hm;exact okk hI y hm
   simp[this]
theorem leaf_good:∀{t:Tree},t.good->∀x∈leaves t,x.good
 |.pair _ l r,h,x,hx=>by
  simp only[leaves,List.mem_append] at hx
  rcases hx with hx|hx
  ·exact leaf_good h.1 x hx
  ·exact leaf_good h.2 x hx
 |.no t,h,x,hx=>leaf_good (t:=t) h x hx
 |.test _ a b,h,x,hx=>by
  simp[leaves] at hx
  rcases hx with rfl|rfl
  ·exact h.2.1
  ·exact h.2.2
 |.truth _,h,x,hx=>by simp[leaves] at hx
theorem any_zero {I V:List Itm} (hI:knownB I=true) (hV:knownB V=true):∀{ts:List Term},(∀x∈ts,x.good)->ts.any (fun x=>kindR I V x==0)=ts.any (fun t=>kindE I V t==5)
 |[],_=>rfl
 |t::ts,h=>by
  rw[List.any_cons,List.any_cons,kind_zero hI hV (h t (by simp)),any_zero hI hV (fun x hx=>h x (by simp[hx]))]
def checkE (I V:List Itm) (t:Tree):Int:=if(leaves t).any (fun x=>kindE I V x==5) then 5 else if(tsts t).any (fun p=>kindR I V p.1 !=kindR I V p.2) then 10 else 0
theorem checkE_eq {I V:List Itm} (hI:knownB I=true) (hV:knownB V=true) {t:Tree} (h:t.good):checkE I V t=checkS I V t:=by
 unfold checkE checkS
 rw[any_zero hI hV (leaf_good h)]
theorem c_check [MaxL] (I V:List Itm) (hI:I.length<most) (hV:V.length<most) (t:Tree):SC Tryz.prog 185 [t.gv,.sl .none (itms I),.sl .none (itms V)] [] (.val (.i .i64 (checkE I V t))) []:=by
 have s1:=c_termsE I V hI hV t 0
 have s2:=c_testsE I V hI hV t 0
 rw[foldE I V _ 0 (.inl rfl)] at s1
 rw[foldD I V _ 0 (.inl rfl)] at s2
 unfold checkE
 generalize(leaves t).any (fun x=>kindE I V x==5)=b1 at*
 generalize(tsts t).any (fun p=>kindR I V p.1 !=kindR I V p.2)=b2 at*
 cases b1 with
 |true=>
  replace s1:SC Tryz.prog 221 [t.gv,cF 222] (eH I V 0) (.val (.tup [])) (eH I V 5):=s1
  refine gwS Tryz.func185 rfl ?_
  conv=>whnf
  refine⟨_,⟨rfl,zL _,rfl,bL rfl⟩,?_⟩
  conv=>whnf
  refine callPre (rest:=[]) s1 rfl (by simp[eH]) rfl rfl (eH_own _ _ _) (eH_own _ _ _) (eH_held _ _ _) (cargs_ren _) (fun _ _=>rfl) (wR _) ?_
  conv=>whnf
  exact owes_i rfl
 |false=>
  replace s1:SC Tryz.prog 221 [t.gv,cF 222] (eH I V 0) (.val (.tup [])) (eH I V 0):=s1
  cases b2 with
  |true=>
   replace s2:SC Tryz.prog 224 [t.gv,cF 225] (eH I V 0) (.val (.tup [])) (eH I V 10):=s2
   refine gwS Tryz.func185 rfl ?_
   conv=>whnf
   refine⟨_,⟨rfl,zL _,rfl,bL rfl⟩,?_⟩
   conv=>whnf
   refine callPre (rest:=[]) s1 rfl (by simp[eH]) rfl rfl (eH_own _ _ _) (eH_own _ _ _) (eH_held _ _ _) (cargs_ren _) (fun _ _=>rfl) (wR _) ?_
   conv=>whnf
   refine callPre (rest:=[]) s2 rfl (by simp[eH]) rfl rfl (eH_own _ _ _) (eH_own _ _ _) (eH_held _ _ _) (cargs_ren _) (fun _ _=>rfl) (wR _) ?_
   conv=>whnf
   exact owes_i rfl
  |false=>
   replace s2:SC Tryz.prog 224 [t.gv,cF 225] (eH I V 0) (.val (.tup [])) (eH I V 0):=s2
   refine gwS Tryz.func185 rfl ?_
   conv=>whnf
   refine⟨_,⟨rfl,zL _,rfl,bL rfl⟩,?_⟩
   conv=>whnf
   refine callPre (rest:=[]) s1 rfl (by simp[eH]) rfl rfl (eH_own _ _ _) (eH_own _ _ _) (eH_held _ _ _) (cargs_ren _) (fun _ _=>rfl) (wR _) ?_
   conv=>whnf
   refine callPre (rest:=[]) s2 rfl (by simp[eH]) rfl rfl (eH_own _ _ _) (eH_own _ _ _) (eH_held _ _ _) (cargs_ren _) (fun _ _=>rfl) (wR _) ?_
   conv=>whnf
   exact owes_i rfl
def kinds2:List Itm->List Val->Bool
 |i::l,v::r=>v.ok&&decide (v.k=i.k)&&kinds2 l r
 |_,_=>true
def lkp (l:List Itm) (r:List Val) (s:By):Val:=r.getD (idxN l s).toNat v0
def valT (I V:List Itm) (R W:List Val) (t:Term):Val:=if t.name=[] then t.v else if t.var then lkp V W t.name else lkp I R t.name
end Go.Proofs.YtcfgfkkhpdlhpaaGreatDoor
