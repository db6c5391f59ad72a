/-
  CondJoins: And, Or and Not of every two texts are those of the reference, and are true of a row as they say; part 43 of 48. Conditions: none beyond the given statement.
-/
import Derived.Test.YtlhabmglchgdnaaGreatDoorQ40
import Derived.Test.YtlhabmglchgdnaaGreatDoorQ19
import Derived.Test.YtlhabmglchgdnaaGreatDoorQ42
import Derived.Test.YtlhabmglchgdnaaGreatDoorQ28
set_option linter.all false
namespace Go.Proofs.YtlhabmglchgdnaaGreatDoor
open Go.RowKit
set_option maxRecDepth 100000
set_option linter.unusedVariables false
end Go.Proofs.YtlhabmglchgdnaaGreatDoor
namespace Go.Proofs.YtlhabmglchgdnaaGreatDoor
open Go.RowKit
set_option maxRecDepth 100000
set_option linter.unusedVariables false
def leaves:Tree->List Term
 |.pair _ l r=>leaves l++leaves r
 |.no t=>leaves t
 |.test _ a b=>[a,b]
 |.truth _=>[]
theorem leaves_sides (a:Bool):∀t:Tree,(t.sides a).flatMap leaves=leaves t
 |.pair b l r=>by
  unfold Tree.sides
  split
  ·rw[List.flatMap_append,leaves_sides a l,leaves_sides a r];rfl
  ·simp
 |.no t=>by simp[Tree.sides]
 |.test _ _ _=>by simp[Tree.sides]
 |.truth _=>by simp[Tree.sides]
theorem leaves_size:∀t:Tree,(leaves t).length<=2*t.size
 |.pair _ l r=>by
  have h1:=leaves_size l
  have h2:=leaves_size r
  simp only[leaves,Tree.size,List.length_append];omega
 |.no t=>by
  have:=leaves_size t
  simp only[leaves,Tree.size];omega
 |.test _ _ _=>by simp[leaves,Tree.size]
 |.truth _=>by simp[leaves]
def sds (l:List Term):List GV:=l.map fun t=>.agg (sdc t)
theorem sds_cl (l:List Term):ClL (sds l):=ClL.mapOf (fun t=>Cl.agg (sdc_cl t)) l
theorem sds_len (l:List Term):(sds l).length=l.length:=by simp[sds]
theorem sds_ok (l:List Term):(sds l).all (fun x=>x.cells.length==5)=true:=by
 rw[List.all_eq_true];intro x hx
 obtain⟨t,_,rfl⟩:=List.mem_map.1 hx
 rfl
theorem sds_okEl (l:List Term):(sds l).all (okEl 5)=true:=by
 rw[List.all_eq_true];intro x hx
 obtain⟨t,_,rfl⟩:=List.mem_map.1 hx
 rfl
theorem sds_app (a b:List Term):sds (a++b)=sds a++sds b:=by unfold sds;rw[List.map_append]
theorem r_sd_test (op:By) (l r:Term):SC Tryz.prog 51 [.agg (ndc 4 [] l r op false)] [] (.val (.sl .none (sds [l,r]))) []:=by
 refine SC.of_gwp noM mixed Tryz.func51 rfl (Nat.le_of_ble_eq_true rfl) (by first|exact Nat.le_refl _|simp) rfl ?_
 conv=>whnf
 exact owes_wk (Wk.sl _ _) (Cl.sl (sds_cl _))
def lvs (L:List Tree) (i:Nat):List Term:=(L.take i).flatMap leaves
theorem lvs_succ {L:List Tree} {i:Nat} {y:Tree} (h:L[i]?=some y):lvs L (i+1)=lvs L i++leaves y:=by
 unfold lvs
 rw[List.take_add_one,h,List.flatMap_append]
 simp
theorem lvs_le (L:List Tree) (i:Nat):(lvs L i).length<=(L.flatMap leaves).length:=by
 have:L.flatMap leaves=lvs L i++(L.drop i).flatMap leaves:=by
  unfold lvs
  rw[<-List.flatMap_append,List.take_append_drop]
 rw[this,List.length_append];omega
theorem r_sd_kids (k:Nat) (hk:k≠4) (L:List Tree) (yes:Bool) (hL:L.length<=100000) (hb:(L.flatMap leaves).length<=1000000) (hc:∀y∈L,SC Tryz.prog 51 [y.ng] [] (.val (.sl .none (sds (leaves y)))) []):
  SC Tryz.prog 51 [.agg (ndc k (ngs L) t0 t0 [] yes)] [] (.val (.sl .none (sds (L.flatMap leaves)))) []:=by
 have hnl:(ngs L).length=L.length:=ngs_len L
 refine SC.of_gwp noM mixed Tryz.func51 rfl (Nat.le_of_ble_eq_true rfl) (by first|exact Nat.le_refl _|simp) rfl ?_
 conv=>whnf
 refine GIf.mk (fun h4=>?_) (fun h4=>?_)<;>conv=>whnf
 ·exfalso
  have h9:(k:Int)=4:=by simpa using h4
  omega
 refine GLoop.introS (fun q:Nat×List Term=>q.1<=L.length/\lvs L q.1=q.2) (fun q=>[(1,.ptr 0 0),(3,.sl (.own 2) (sds q.2)),(4,.i .i64 (q.1:Nat))])
  (fun q=>⟨[.box 69 (ndc k (ngs L) t0 t0 [] yes),.own 0 0 0,ow 67 5 q.2.length],0,[]⟩) (fun q=>L.length - q.1) (0,[]) ⟨Nat.zero_le _,rfl⟩ ⟨rfl,rfl,rfl,trivial⟩ rfl (fun _ _=>Nat.le_refl _) (fun q _=>by simp only[List.all_cons,ow_held];rfl) (fun q _ e he=>?_) (fun q φ0 hi=>?_)
 ·refine⟨?_,rfl,?_⟩
  ·show[(GObj.box _ (ndc k (ngs L) t0 t0 [] yes)).ren e,_,(ow _ 5 _).ren e]=_
   rw[ow_ren,GObj.box_cl (ndc_cl (ngs_cl L) t0 t0 [] yes) e];rfl
  ·show[GV.ptr (e 0) 0,(GV.sl (.own 2) (sds q.2)).ren e,_]=_
   rw[ren_own (he 2 (by simp)) (sds_cl _),he 0 (by simp)];rfl
 obtain⟨i,o⟩:=q
 obtain⟨hi,ho⟩:=hi
 replace hi:i<=L.length:=hi
 replace ho:lvs L i=o:=ho
 conv=>whnf
 refine GIf.mk (fun h=>?_) (fun h=>?_)<;>conv=>whnf
 rotate_left
 ·have hie:i=L.length:=by have:=of_decide_eq_false h;rw[hnl] at this;omega
  have hoe:o=L.flatMap leaves:=by rw[<-ho,hie];unfold lvs;rw[List.take_length]
  rw[<-hoe]
  exact owes_wk (Wk.sl _ _) (Cl.sl (sds_cl _))
 have hlt:i<L.length:=by have:=of_decide_eq_true h;rw[hnl] at this;omega
 obtain⟨y,hy⟩:∃y,L[i]?=some y:=⟨L[i],List.getElem?_eq_getElem hlt⟩
 have hgy:(ngs L)[i]?=some y.ng:=by unfold ngs;rw[List.getElem?_map,hy];rfl
 have hcy:=hc y (List.mem_of_getElem? hy)
 have hcl:=y.ng_cl
 have hsucc:=lvs_succ hy
 have hle:=lvs_le L (i+1)
 rw[hsucc,ho,List.length_append] at hle
 rw[ho] at hsucc
 obtain⟨k2,kids,A,B,op,yes2,hng⟩:=ng_form y
 rw[hng] at hgy hcy hcl
 refine⟨Int.natCast_nonneg _,.agg (ndc k2 kids A B op yes2),by rw[Int.toNat_natCast];exact hgy,rfl,?_⟩
 conv=>whnf
 generalize leaves y=ys at*
 rcases ys with _|⟨y1,ys⟩
 ·refine callP hcy (Wks.refl _) rfl (ClL.cons hcl .nil) (Cl.sl (sds_cl _)) ?_
  conv=>whnf
  rw[List.append_nil] at hsucc
  exact⟨L.length - (i+1),(by show _<L.length - i;omega),(i+1,o),⟨hlt,hsucc⟩,rfl,⟨rfl,rfl,wrap_succ (by omega),trivial⟩,[],rfl,rfl⟩
 ·refine callP hcy (Wks.refl _) rfl (ClL.cons hcl .nil) (Cl.sl (sds_cl _)) ?_
  conv=>whnf
  cases o with
  |nil=>
   refine⟨⟨sds_okEl (y1::ys),sds_ok _,by show(sds ([]:List Term)).length+(sds (y1::ys)).length<=4294967296;rw[sds_len,sds_len];omega⟩,sds (([]:List Term)++y1::ys),(([]:List Term)++y1::ys).length,⟨sds_app ([]:List Term) (y1::ys),by show _=(sds ([]:List Term)).length+(sds (y1::ys)).length;rw[sds_len,sds_len,List.length_append]⟩,?_⟩
   conv=>whnf
   refine⟨⟨Nat.zero_le _,by first|rfl|(rw[sds_len];rfl)|(rw[sds_len];simp),by first|exact .inr ⟨rfl,rfl⟩|exact .inl ⟨rfl,rfl⟩⟩,?_⟩
   conv=>whnf
   exact⟨L.length - (i+1),(by show _<L.length - i;omega),(i+1,([]:List Term)++y1::ys),⟨hlt,hsucc⟩,rfl,⟨rfl,rfl,wrap_succ (by omega),trivial⟩,_,rfl,rfl⟩
  |cons z zs=>
   refine⟨⟨sds_okEl (y1::ys),sds_ok _,by show(sds (z::zs)).length+(sds (y1::ys)).length<=4294967296;rw[sds_len,sds_len];omega⟩,sds ((z::zs)++y1::ys),((z::zs)++y1::ys).length,⟨sds_app (z::zs) (y1::ys),by show _=(sds (z::zs)).length+(sds (y1::ys)).length;rw[sds_len,sds_len,List.length_append]⟩,?_⟩
   conv=>whnf
   refine⟨⟨Nat.zero_le _,by first|rfl|(rw[sds_len];rfl)|(rw[sds_len];simp),by first|exact .inr ⟨rfl,rfl⟩|exact .inl ⟨rfl,rfl⟩⟩,?_⟩
   conv=>whnf
   exact⟨L.length - (i+1),(by show _<L.length - i;omega),(i+1,(z::zs)++y1::ys),⟨hlt,hsucc⟩,rfl,⟨rfl,rfl,wrap_succ (by omega),trivial⟩,_,rfl,rfl⟩
theorem r_sides:∀(n:Nat) (t:Tree),t.size<=n->t.size<=5000->SC Tryz.prog 51 [t.ng] [] (.val (.sl .none (sds (leaves t)))) []
 |0,t,h,_=>by cases t<;>simp[Tree.size] at h
 |n+1,t,h,h2=>by
  have hz:=leaves_size t
  cases t with
  |truth b=>
   have:=r_sd_kids 5 (by decide) [] b (by simp) (by simp) (fun y hy=>by cases hy)
   exact this
  |test op l r=>exact r_sd_test op l r
  |no t=>
   simp only[Tree.size] at h h2
   have:=r_sd_kids 3 (by decide) [t] false (by simp) (by simp[leaves] at hz⊢;simp only[Tree.size] at hz;omega) (fun y hy=>by
    rw[List.mem_singleton.1 hy];exact r_sides n t (by omega) (by omega))
   have e:[t].flatMap leaves=leaves (.no t):=by simp[leaves]
   rw[e] at this
   exact this
  |pair a l r=>
   have hs:=@sides_len a (Tree.pair a l r)
   have hk:∀y∈(Tree.pair a l r).sides a,SC Tryz.prog 51 [y.ng] [] (.val (.sl .none (sds (leaves y)))) []:=fun y hy=>by
    have:=sides_lt hy
    exact r_sides n y (by omega) (by omega)
   have:=r_sd_kids (opn a) (by cases a<;>decide) ((Tree.pair a l r).sides a) false (by omega) (by rw[leaves_sides];omega) hk
   rw[leaves_sides] at this
   rw[show(Tree.pair a l r).ng=.agg (ndc (opn a) (ngs ((Tree.pair a l r).sides a)) t0 t0 [] false) by show GV.agg _=_;rw[ncs_pair]]
   exact this
def addN (l:List By) (x:By):List By:=if x≠[]/\¬x∈l then l++[x] else l
def accL:Option Tree->List Term
 |none=>[]
 |some x=>leaves x
theorem leaves_join (a:Bool) (acc:Option Tree) (t:Tree):leaves (joinA a acc t)=accL acc++leaves t:=by cases acc<;>rfl
theorem leaves_flatA (a:Bool):∀(t:Tree) (acc:Option Tree),leaves (flatA a acc t)=accL acc++leaves t:=by
 intro t
 induction t generalizing a with
 |pair b l r i1 i2=>
  intro acc
  unfold flatA
  split
  ·rw[i2]
   show leaves (flatA a acc l)++leaves r=accL acc++(leaves l++leaves r)
   rw[i1,List.append_assoc]
  ·rw[leaves_join,i2]
   show accL acc++(leaves (flatA b none l)++leaves r)=accL acc++(leaves l++leaves r)
   rw[i1];rfl
 |no t i=>
  intro acc
  unfold flatA
  rw[leaves_join]
  show _++leaves (flatA true none t)=_
  rw[i];rfl
 |test op l r=>intro acc;unfold flatA;rw[leaves_join]
 |truth b=>intro acc;unfold flatA;rw[leaves_join]
theorem leaves_flat (t:Tree):leaves t.flat=leaves t:=by
 unfold Tree.flat;rw[leaves_flatA];rfl
end Go.Proofs.YtlhabmglchgdnaaGreatDoor
namespace Go.Proofs.YtlhabmglchgdnaaGreatDoor
open Go.RowKit
set_option maxRecDepth 100000
set_option linter.unusedVariables false
def relB (op:By) (c:Int):Bool:=if op=[61] then c==0 else if op=[60,62] then c !=0 else if op=[60] then decide (c<0) else if op=[60,61] then decide (c<=0) else if op=[62] then decide (c>0) else decide (c>=0)
def truthV (τ:Term->Val):Tree->Bool
 |.pair a l r=>if a then truthV τ l&&truthV τ r else truthV τ l||truthV τ r
 |.no t=>!truthV τ t
 |.test op l r=>relB op (cmpV (τ l) (τ r))
 |.truth b=>b
def comb (a:Bool):Option Bool->Bool->Bool
 |none,x=>x
 |some y,x=>if a then y&&x else y||x
theorem truth_join (τ:Term->Val) (a:Bool) (acc:Option Tree) (t:Tree):truthV τ (joinA a acc t)=comb a (acc.map (truthV τ)) (truthV τ t):=by cases acc<;>rfl
theorem truth_flatA (τ:Term->Val):∀(t:Tree) (a:Bool) (acc:Option Tree),truthV τ (flatA a acc t)=comb a (acc.map (truthV τ)) (truthV τ t)
 |.pair b l r,a,acc=>by
  unfold flatA
  split
  ·rename_i hab
   subst hab
   rw[truth_flatA τ r,Option.map_some,truth_flatA τ l]
   cases acc<;>cases a<;>simp[comb,truthV,Bool.and_assoc,Bool.or_assoc]
  ·rw[truth_join,truth_flatA τ r,Option.map_some,truth_flatA τ l]
   cases acc<;>cases b<;>simp[comb,truthV]
 |.no t,a,acc=>by
  unfold flatA
  rw[truth_join]
  show comb a _ (!truthV τ (flatA true none t))=_
  rw[truth_flatA τ t];rfl
 |.test op l r,a,acc=>by unfold flatA;rw[truth_join]
 |.truth b,a,acc=>by unfold flatA;rw[truth_join]
theorem truth_flat (τ:Term->Val) (t:Tree):truthV τ t.flat=truthV τ t:=truth_flatA τ t true none
theorem truth_sides (τ:Term->Val) (a:Bool):∀t:Tree,truthV τ t=if a then(t.sides a).all (truthV τ) else(t.sides a).any (truthV τ)
 |.pair b l r=>by
  unfold Tree.sides
  by_cases hab:a=b
  ·subst hab
   rw[if_pos rfl,List.all_append,List.any_append]
   have h1:=truth_sides τ a l
   have h2:=truth_sides τ a r
   cases a<;>simp[truthV,h1,h2]
  ·rw[if_neg hab]
   cases a<;>simp
 |.no t=>by cases a<;>simp[Tree.sides]
 |.test _ _ _=>by cases a<;>simp[Tree.sides]
 |.truth _=>by cases a<;>simp[Tree.sides]
def kindR (I V:List Itm) (t:Term):Int:=if t.name=[] then t.v.k else match(if t.var then V else I).find? (fun i=>i.name==t.name) with
 |some i=>i.k
 |none=>0
def tsts:Tree->List (Term×Term)
 |.pair _ l r=>tsts l++tsts r
 |.no t=>tsts t
 |.test _ a b=>[(a,b)]
 |.truth _=>[]
def checkS (I V:List Itm) (t:Tree):Int:=if(leaves t).any (fun x=>kindR I V x==0) then 5 else if(tsts t).any (fun p=>kindR I V p.1 !=kindR I V p.2) then 10 else 0
theorem leaves_tsts:∀t:Tree,leaves t=(tsts t).flatMap fun p=>[p.1,p.2]
 |.pair _ l r=>by simp only[leaves,tsts,List.flatMap_append];rw[leaves_tsts l,leaves_tsts r]
 |.no t=>leaves_tsts t
 |.test _ _ _=>rfl
 |.truth _=>rfl
def accT:Option Tree->List (Term×Term)
 |none=>[]
 |some x=>tsts x
theorem tsts_join (a:Bool) (acc:Option Tree) (t:Tree):tsts (joinA a acc t)=accT acc++tsts t:=by cases acc<;>rfl
theorem tsts_flatA:∀(t:Tree) (a:Bool) (acc:Option Tree),tsts (flatA a acc t)=accT acc++tsts t
 |.pair b l r,a,acc=>by
  unfold flatA
  split
  ·rw[tsts_flatA r]
   show tsts (flatA a acc l)++tsts r=accT acc++(tsts l++tsts r)
   rw[tsts_flatA l,List.append_assoc]
  ·rw[tsts_join,tsts_flatA r]
   show accT acc++(tsts (flatA b none l)++tsts r)=accT acc++(tsts l++tsts r)
   rw[tsts_flatA l];rfl
 |.no t,a,acc=>by
  unfold flatA
  rw[tsts_join]
  show _++tsts (flatA true none t)=_
  rw[tsts_flatA t];rfl
 |.test op l r,a,acc=>by unfold flatA;rw[tsts_join]
 |.truth b,a,acc=>by unfold flatA;rw[tsts_join]
theorem tsts_flat (t:Tree):tsts t.flat=tsts t:=tsts_flatA t true none
theorem check_flat (I V:List Itm) (t:Tree):checkS I V t.flat=checkS I V t:=by
 unfold checkS
 rw[leaves_flat,tsts_flat]
end Go.Proofs.YtlhabmglchgdnaaGreatDoor
