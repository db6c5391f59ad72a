/-
  CondRenames: Rename of every text and names is that of the reference, and over items renamed alike a condition is as true as before: the card, for every input.
-/
import Derived.Test.YtlhabmglchgdnaaGreatDoorQ17
import Derived.Test.YtlhabmglchgdnaaGreatDoorQ27
import Derived.Test.YtlhabmglchgdnaaGreatDoorTie
import Derived.Test.YtlhabmglchgdnaaGreatDoorCards
import Derived.Carry
import Derived.Test.YtlhabmglchgdnaaGreatDoorQ20
set_option linter.all false
namespace Go.Proofs.YtlhabmglchgdnaaGreatDoor
open Go Go.ChangeShapes Go.WideShapes Go.RowKit
set_option maxRecDepth 100000
set_option linter.unusedVariables false
theorem list_of {α:Type} {Q:Nat->α->Prop}:∀n,(∀i,i<n->∃a,Q i a)->∃l:List α,l.length=n/\∀i a,l[i]?=some a->Q i a
 |0,_=>⟨[],rfl,fun i a h=>by simp at h⟩
 |n+1,h=>by
  obtain⟨l,hl,hq⟩:=list_of n (fun i hi=>h i (by omega))
  obtain⟨a,ha⟩:=h n (by omega)
  refine⟨l++[a],by simp[hl],fun i b hb=>?_⟩
  rcases Nat.lt_trichotomy i n with hi|rfl|hi
  ·rw[List.getElem?_append_left (by omega)] at hb;exact hq i b hb
  ·rw[List.getElem?_append_right (by omega),hl] at hb;simp at hb;subst hb;exact ha
  ·rw[List.getElem?_eq_none (by simp;omega)] at hb;cases hb
theorem add_plain (b off n:Nat):(⟨b,off,none⟩:Addr).add n=⟨b,off+n,none⟩:=by
 unfold Addr.add
 split
 ·rename_i h;subst h;rfl
 ·rfl
theorem slice_up {H:Type} {enc:TypeId×Value->H} {P:Program} {W:World} {r:Reach} {b0 base:Nat} {sp:Nat->Bool} {held:Bool} {α:Type} (vals:α->List Value) (gv:α->GV) {t e:TypeId} {v:Value} {d:DataW H} {ps:List MemPlace}
  (ht:P.underlying t=some (.slice e)) {esz:Nat} (hc:P.cellsOf e=esz)
  (elem:∀(n:Nat) cs x,DataW.trod enc P W base sp held n e cs=some x->∃a:α,cs=vals a)
  (hg:∀a,(gv a).cells.length=esz) (hv:∀a,(vals a).length=esz)
  (hvr:∀(C:Cx) a (j:Nat) g u,(gv a).cells[j]?=some g->(vals a)[j]?=some u->VR C g u)
  (hval:Value.okWide P W r b0 t v) (hd:DataW.Trod enc P W base sp held t v d ps):
  ∃l:List α,l.length<=maxLen/\VR (C0 W) (.sl .none (l.map gv)) v:=by
 have hspot:∀a len cap,v=.slice (some a) len cap->a.spot=none:=by
  rintro a len cap rfl
  simp only[Value.okWide,ht,Cell.okWide,Cell.ok,World.has] at hval
  exact hval.2.2.2.1
 obtain⟨a0,len0,cap0,rfl⟩:=okWide_slice ht hval
 obtain⟨fuel,hf⟩:=hd
 rcases DataW.trod_slice ht hf with⟨hcs,_⟩|⟨a,len,cap,elems,rest,n,_,hcs,_,hb,hl,hm,hlen,hel,_,_⟩
 ·simp[Value.cells] at hcs
  obtain⟨rfl,rfl,rfl⟩:=hcs
  exact⟨[],Nat.zero_le _,.sl 0 0 0 (fun _=>.bool false) rfl (Nat.le_refl _) (.inl ⟨rfl,rfl⟩) (by simp) (by simp) (by simp) trivial⟩
 ·simp[Value.cells] at hcs
  obtain⟨rfl,rfl,rfl⟩:=hcs
  have hsp:=hspot a len0 cap0 rfl
  obtain⟨b,off,spot⟩:=a
  simp only at hsp
  subst hsp
  obtain⟨l,hll,hq⟩:=list_of (Q:=fun i x=>W.cells? base ((⟨b,off,none⟩:Addr).add (i*esz)) esz=some (vals x)) len0 (fun i hi=>by
   have h1:=hel i hi
   have hy:elems[i]?=some (elems[i]'(by omega)):=List.getElem?_eq_getElem (by omega)
   rw[hy,Option.bind_eq_some_iff,hc] at h1
   obtain⟨cs',h1,h2⟩:=h1
   obtain⟨x,rfl⟩:=elem _ _ _ h2
   exact⟨x,h1⟩)
  have hcell:∀(i:Nat) x (j:Nat) u,l[i]?=some x->(vals x)[j]?=some u->W.cell? ⟨b,off+i*esz+j,none⟩=some u:=fun i x j u hx hu=>by
   obtain⟨_,hn,hh⟩:=World.cells?_some (hq i x hx)
   have hj:j<esz:=by rw[<-hn];exact(List.getElem?_eq_some_iff.1 hu).1
   have:=hh j hj
   rw[add_plain,add_plain,hu] at this
   exact this
  refine⟨l,by omega,.sl esz b off (fun k=>(W.cell? ⟨b,off+k,none⟩).getD (.bool false)) (by simp[hll]) hl (.inr rfl) (fun x hx=>?_) (fun i x j g hx hj=>?_) (fun i x j g hx hj=>?_) trivial⟩
  ·obtain⟨y,_,rfl⟩:=List.mem_map.1 hx
   exact hg y
  all_goals
   rw[List.getElem?_map] at hx
   obtain⟨y,hy,rfl⟩:=Option.map_eq_some_iff.1 hx
   have hjl:j<(vals y).length:=by
    have:=(List.getElem?_eq_some_iff.1 hj).1
    rw[hg] at this;rw[hv];exact this
   have hu:(vals y)[j]?=some (vals y)[j]:=List.getElem?_eq_getElem hjl
   have hce:=hcell i y j _ hy hu
   rw[<-Nat.add_assoc,hce,Option.getD_some]
  ·exact hce
  ·exact hvr _ y j g _ hj hu
theorem five {α:Type} {cs:List α} (h:cs.length=5):∃a b c d e,cs=[a,b,c,d,e]:=by
 match cs,h with
 |[a,b,c,d,e],_=>exact⟨a,b,c,d,e,rfl⟩
theorem three {α:Type} {cs:List α} (h:cs.length=3):∃a b c,cs=[a,b,c]:=by
 match cs,h with
 |[a,b,c],_=>exact⟨a,b,c,rfl⟩
theorem und_item:Tryz.prog.underlying 47=some (.struct #[{name:= "Name",type:=9,offset:=0,embedded:=false,tag:= "",pkgPath:= "",byteOffset:=0},{name:= "Kind",type:=3,offset:=1,embedded:=false,tag:= "",pkgPath:= "",byteOffset:=16},{name:= "Low",type:=3,offset:=2,embedded:=false,tag:= "",pkgPath:= "",byteOffset:=24},{name:= "High",type:=3,offset:=3,embedded:=false,tag:= "",pkgPath:= "",byteOffset:=32},{name:= "Len",type:=3,offset:=4,embedded:=false,tag:= "",pkgPath:= "",byteOffset:=40}]):=by kernel_rfl
theorem und_val:Tryz.prog.underlying 53=some (.struct #[{name:= "Kind",type:=3,offset:=0,embedded:=false,tag:= "",pkgPath:= "",byteOffset:=0},{name:= "N",type:=3,offset:=1,embedded:=false,tag:= "",pkgPath:= "",byteOffset:=8},{name:= "S",type:=9,offset:=2,embedded:=false,tag:= "",pkgPath:= "",byteOffset:=16}]):=by kernel_rfl
theorem und_int:Tryz.prog.underlying 3=some (.int .i64):=by kernel_rfl
theorem und_items:Tryz.prog.underlying 31=some (.slice 47):=by kernel_rfl
theorem und_vals:Tryz.prog.underlying 32=some (.slice 53):=by kernel_rfl
theorem cells_str:Tryz.prog.cellsOf 9=1:=by kernel_rfl
theorem cells_int:Tryz.prog.cellsOf 3=1:=by kernel_rfl
theorem cells_item:Tryz.prog.cellsOf 47=5:=by kernel_rfl
theorem cells_val:Tryz.prog.cellsOf 53=3:=by kernel_rfl
def itmV (i:Itm):List Value:=[.string ⟨i.name.toArray⟩,.int .i64 i.k,.int .i64 i.lo,.int .i64 i.hi,.int .i64 i.len]
def valV (v:Val):List Value:=[.int .i64 v.k,.int .i64 v.n,.string ⟨v.s.toArray⟩]
section
variable {H : Type} {enc : TypeId × Value → H} {W : World} {base n : Nat} {sp : Nat → Bool} {held : Bool} {cs : List Value} {x : DataW H × List MemPlace}
theorem one_int {v:Value} {y:Option (DataW H×List MemPlace)} (h:DataW.trod enc Tryz.prog W base sp held n 3 [v]=y) (hy:y.isSome=true):∃z,v=.int .i64 z:=by
 obtain⟨y',rfl⟩:=Option.isSome_iff_exists.1 hy
 obtain⟨z,hz,_⟩:=DataW.trod_int und_int h
 exact⟨z,by simpa using hz⟩
theorem one_str {v:Value} {y:Option (DataW H×List MemPlace)} (h:DataW.trod enc Tryz.prog W base sp held n 9 [v]=y) (hy:y.isSome=true):∃z:List UInt8,v=.string ⟨z.toArray⟩:=by
 obtain⟨y',rfl⟩:=Option.isSome_iff_exists.1 hy
 obtain⟨z,hz,_⟩:=DataW.trod_string und_str h
 exact⟨z.data.toList,by simpa using hz⟩
theorem item_elem (h:DataW.trod enc Tryz.prog W base sp held n 47 cs=some x):∃i:Itm,cs=itmV i:=by
 obtain⟨xs,m,rfl,_,hlen,hxs,hf⟩:=DataW.trod_struct und_item h
 rw[cells_item] at hlen
 obtain⟨c0,c1,c2,c3,c4,rfl⟩:=five hlen
 have f0:DataW.trod enc Tryz.prog W base sp held m 9 (([c0,c1,c2,c3,c4].drop 0).take (Tryz.prog.cellsOf 9))=xs[0]?:=hf 0 _ rfl
 have f1:DataW.trod enc Tryz.prog W base sp held m 3 (([c0,c1,c2,c3,c4].drop 1).take (Tryz.prog.cellsOf 3))=xs[1]?:=hf 1 _ rfl
 have f2:DataW.trod enc Tryz.prog W base sp held m 3 (([c0,c1,c2,c3,c4].drop 2).take (Tryz.prog.cellsOf 3))=xs[2]?:=hf 2 _ rfl
 have f3:DataW.trod enc Tryz.prog W base sp held m 3 (([c0,c1,c2,c3,c4].drop 3).take (Tryz.prog.cellsOf 3))=xs[3]?:=hf 3 _ rfl
 have f4:DataW.trod enc Tryz.prog W base sp held m 3 (([c0,c1,c2,c3,c4].drop 4).take (Tryz.prog.cellsOf 3))=xs[4]?:=hf 4 _ rfl
 rw[cells_str] at f0
 rw[cells_int] at f1 f2 f3 f4
 have hn:∀i,i<5->(xs[i]?).isSome=true:=fun i hi=>by
  rw[List.getElem?_eq_getElem (by rw[hxs];exact hi)];rfl
 obtain⟨a,rfl⟩:=one_str f0 (hn 0 (by decide))
 obtain⟨b,rfl⟩:=one_int f1 (hn 1 (by decide))
 obtain⟨c,rfl⟩:=one_int f2 (hn 2 (by decide))
 obtain⟨d,rfl⟩:=one_int f3 (hn 3 (by decide))
 obtain⟨e,rfl⟩:=one_int f4 (hn 4 (by decide))
 exact⟨⟨a,b,c,d,e⟩,rfl⟩
theorem val_elem (h:DataW.trod enc Tryz.prog W base sp held n 53 cs=some x):∃i:Val,cs=valV i:=by
 obtain⟨xs,m,rfl,_,hlen,hxs,hf⟩:=DataW.trod_struct und_val h
 rw[cells_val] at hlen
 obtain⟨c0,c1,c2,rfl⟩:=three hlen
 have f0:DataW.trod enc Tryz.prog W base sp held m 3 (([c0,c1,c2].drop 0).take (Tryz.prog.cellsOf 3))=xs[0]?:=hf 0 _ rfl
 have f1:DataW.trod enc Tryz.prog W base sp held m 3 (([c0,c1,c2].drop 1).take (Tryz.prog.cellsOf 3))=xs[1]?:=hf 1 _ rfl
 have f2:DataW.trod enc Tryz.prog W base sp held m 9 (([c0,c1,c2].drop 2).take (Tryz.prog.cellsOf 9))=xs[2]?:=hf 2 _ rfl
 rw[cells_int] at f0 f1
 rw[cells_str] at f2
 have hn:∀i,i<3->(xs[i]?).isSome=true:=fun i hi=>by
  rw[List.getElem?_eq_getElem (by rw[hxs];exact hi)];rfl
 obtain⟨a,rfl⟩:=one_int f0 (hn 0 (by decide))
 obtain⟨b,rfl⟩:=one_int f1 (hn 1 (by decide))
 obtain⟨c,rfl⟩:=one_str f2 (hn 2 (by decide))
 exact⟨⟨a,b,c⟩,rfl⟩
variable {r : Reach} {b0 : Nat} {v : Value} {d : DataW H} {ps : List MemPlace}
theorem items_up (hval:Value.okWide Tryz.prog W r b0 31 v) (hd:DataW.Trod enc Tryz.prog W base sp held 31 v d ps):∃l:List Itm,l.length<=maxLen/\VR (C0 W) (.sl .none (itms l)) v:=
 slice_up itmV Itm.gv und_items cells_item (fun _ _ _ h=>item_elem h) (fun _=>rfl) (fun _=>rfl) (fun C a j g u hg hu=>by
  match j,hg,hu with
  |0,hg,hu=>cases hg;cases hu;exact .s _
  |1,hg,hu=>cases hg;cases hu;exact .i _ _
  |2,hg,hu=>cases hg;cases hu;exact .i _ _
  |3,hg,hu=>cases hg;cases hu;exact .i _ _
  |4,hg,hu=>cases hg;cases hu;exact .i _ _
  |j+5,hg,hu=>cases hg) hval hd
theorem vals_up (hval:Value.okWide Tryz.prog W r b0 32 v) (hd:DataW.Trod enc Tryz.prog W base sp held 32 v d ps):∃l:List Val,l.length<=maxLen/\VR (C0 W) (.sl .none (vlsG l)) v:=
 slice_up valV Val.gv und_vals cells_val (fun _ _ _ h=>val_elem h) (fun _=>rfl) (fun _=>rfl) (fun C a j g u hg hu=>by
  match j,hg,hu with
  |0,hg,hu=>cases hg;cases hu;exact .i _ _
  |1,hg,hu=>cases hg;cases hu;exact .i _ _
  |2,hg,hu=>cases hg;cases hu;exact .s _
  |j+3,hg,hu=>cases hg) hval hd
end
end Go.Proofs.YtlhabmglchgdnaaGreatDoor
namespace Go.Proofs.YtlhabmglchgdnaaGreatDoor
open Go Go.ChangeShapes Go.WideShapes Go.RowKit Go.ChangeMaps
set_option maxRecDepth 100000
set_option linter.unusedVariables false
theorem s_up (s:ByteArray) {C:Cx}:VR C (.s s.data.toList) (.string s):=by
 have:s=⟨s.data.toList.toArray⟩:=by simp
 exact this▸VR.s s.data.toList
theorem laidOut_:laidOutB Tryz.checked.prog=true:=by kernel_rfl
section
variable {H : Type} {enc : TypeId × Value → H} {P : Program} {w : World} {base : Nat} {spare : Nat → Bool} {held : Bool}
theorem trodAll_five {t0 t1 t2 t3 t4:TypeId} {args:Array Value} {ds:List (DataW H)} {ps:List MemPlace} (h:DataW.TrodAll enc P w base spare held [t0,t1,t2,t3,t4] args.toList ds ps):
  ∃v0 v1 v2 v3 v4 d0 d1 d2 d3 d4 p0 p1 p2 p3 p4,args= #[v0,v1,v2,v3,v4]/\ds=[d0,d1,d2,d3,d4]/\ps=p0++(p1++(p2++(p3++p4)))/\DataW.Trod enc P w base spare held t0 v0 d0 p0/\DataW.Trod enc P w base spare held t1 v1 d1 p1/\
   DataW.Trod enc P w base spare held t2 v2 d2 p2/\DataW.Trod enc P w base spare held t3 v3 d3 p3/\DataW.Trod enc P w base spare held t4 v4 d4 p4:=by
 obtain⟨v0,vs,d0,ds',p0,q,hargs,rfl,rfl,h0,hrest⟩:=trodAll_cons h
 obtain⟨v1,vs',d1,ds'',p1,q',rfl,rfl,rfl,h1,hrest'⟩:=trodAll_cons hrest
 obtain⟨v2,vs'',d2,ds''',p2,q'',rfl,rfl,rfl,h2,hrest''⟩:=trodAll_cons hrest'
 obtain⟨v3,vs3,d3,ds3,p3,q3,rfl,rfl,rfl,h3,hrest3⟩:=trodAll_cons hrest''
 obtain⟨v4,vs4,d4,ds4,p4,q4,rfl,rfl,rfl,h4,hrest4⟩:=trodAll_cons hrest3
 obtain⟨rfl,rfl,rfl⟩:=trodAll_nil hrest4
 exact⟨v0,v1,v2,v3,v4,d0,d1,d2,d3,d4,p0,p1,p2,p3,p4,by cases args;simp_all,rfl,by simp,h0,h1,h2,h3,h4⟩
end
end Go.Proofs.YtlhabmglchgdnaaGreatDoor
namespace Go.Proofs.YtlhabmglchgdnaaGreatDoor
open Go.RowKit
set_option maxRecDepth 100000
set_option linter.unusedVariables false
def dval (l:List UInt8):Nat:=l.foldl (fun a c=>10*a+(c.toNat - 48)) 0
theorem dval_snoc (l:List UInt8) (c:UInt8):dval (l++[c])=10*dval l+(c.toNat - 48):=by simp[dval]
def digs (l:List UInt8):Nat:=min 17 (l.takeWhile isDigit).length
def numS (s:List UInt8):Int×Nat:=
 let mi:=decide (s.head?=some 45)
 let l:=if mi then s.tail else s
 let k:=digs l
 let n:=dval (l.take k)
 if k=0∨(1<k/\l.head?=some 48)∨(mi=true/\n=0)∨17<=k then(0,0) else(if mi then -(n:Int) else n,(if mi then 1 else 0)+k)
theorem dval_lt:∀(k:Nat) (l:List UInt8),l.length<=k->(∀c∈l,isDigit c=true)->dval l<10^k:=by
 intro k
 induction k with
 |zero=>intro l h _;have:l=[]:=List.eq_nil_of_length_eq_zero (by omega);subst this;decide
 |succ k ih=>
  intro l h hd
  rcases List.eq_nil_or_concat l with rfl|⟨l',c,rfl⟩
  ·exact Nat.pos_of_ne_zero (by simp)
  ·rw[List.concat_eq_append,dval_snoc]
   have h1:=ih l' (by simp at h;omega) (fun d hd'=>hd d (by simp[hd']))
   have h2:=hd c (by simp)
   simp[isDigit] at h2
   rw[Nat.pow_succ];omega
theorem digs_lt {l:List UInt8} {j:Nat} (h:j<=digs l):∀c∈l.take j,isDigit c=true:=fun c hc=>by
 have h1:j<=(l.takeWhile isDigit).length:=by unfold digs at h;omega
 have h2:l.take j<+:l.takeWhile isDigit:=by
  have:=List.takeWhile_prefix (l:=l) isDigit
  exact List.prefix_of_prefix_length_le (List.take_prefix j l) this (by rw[List.length_take];omega)
 exact List.all_eq_true.1 (List.all_takeWhile (p:=isDigit) (l:=l)) c (h2.subset hc)
theorem digs_next {l:List UInt8} {j:Nat} {c:UInt8} (hj:j<=digs l) (hc:l[j]?=some c) (hd:isDigit c=true) (h17:j<17):j+1<=digs l:=by
 have h1:j<=(l.takeWhile isDigit).length:=by unfold digs at hj;omega
 have:j<(l.takeWhile isDigit).length:=by
  rcases Nat.lt_or_ge j (l.takeWhile isDigit).length with h|h
  ·exact h
  ·exfalso
   have e:j=(l.takeWhile isDigit).length:=by omega
   have key:∀l:List UInt8,∀c,l[(l.takeWhile isDigit).length]?=some c->isDigit c=false:=by
    intro l
    induction l with
    |nil=>intro c h;cases h
    |cons a l ih=>
     intro c h
     rw[List.takeWhile_cons] at h
     split at h
     ·simp at h;exact ih c h
     ·rename_i ha;simp at h;subst h;simpa using ha
   rw[e] at hc
   rw[key l c hc] at hd;cases hd
 unfold digs;omega
theorem digs_end {l:List UInt8} {j:Nat} (hj:j<=digs l) (h:j=17∨(∀c,l[j]?=some c->isDigit c=false)):j=digs l:=by
 rcases h with h|h
 ·unfold digs at hj⊢;omega
 ·rcases Nat.lt_or_ge j (digs l) with hlt|hge
  ·exfalso
   have h1:j<(l.takeWhile isDigit).length:=by unfold digs at hlt;omega
   have h2:=List.takeWhile_prefix (l:=l) isDigit
   have h3:l[j]?=some (l.takeWhile isDigit)[j]:=by
    obtain⟨r,hr⟩:=h2
    conv=>lhs;rw[<-hr]
    rw[List.getElem?_append_left h1,List.getElem?_eq_getElem h1]
   have h4:=List.all_eq_true.1 (List.all_takeWhile (p:=isDigit) (l:=l)) _ (List.getElem_mem h1)
   rw[h _ h3] at h4;cases h4
  ·omega
theorem num_step (n c:Nat) (hn:n<100000000000000000) (h1:48<=c) (h2:c<=57):IntKind.i64.wrap (IntKind.i64.wrap (10*(n:Int))+IntKind.i64.wrap (IntKind.u8.wrap ((c:Int) - 48)))=((10*n+(c - 48):Nat):Int):=by
 rw[u8_wrap (n:=(c:Int) - 48) (by omega) (by omega),wrap_in (n:=(c:Int) - 48) (by omega) (by omega),wrap_in (n:=10*(n:Int)) (by omega) (by omega),wrap_in (by omega) (by omega)]
 omega
set_option maxHeartbeats 2000000 in
theorem r_NumberM (s:List UInt8) (hs:s.length<most) (h45:s.head?=some 45):SC Tryz.prog 162 [.s s,.i .i64 0] [] (.val (.tup [.i .i64 (numS s).1,.i .i64 ((numS s).2:Nat)])) []:=by
 unfold most at hs
 obtain⟨R,hR⟩:∃R,R=numS s:=⟨_,rfl⟩
 rw[<-hR]
 refine SC.of_gwp noM mixed Tryz.func162 rfl (Nat.le_of_ble_eq_true rfl) (by first|exact Nat.le_refl _|simp) rfl ?_
 conv=>whnf
 have hg0:s[0]?=some 45:=by rw[<-List.head?_eq_getElem?];exact h45
 have hpos:0<s.length:=(List.getElem?_eq_some_iff.1 hg0).1
 refine GIf.mk (fun _=>?_) (fun h0=>?_)
 rotate_left
 ·exfalso;have:=of_decide_eq_false h0;omega
 conv=>whnf
 refine GNeed.mk (Int.le_refl 0) ⟨45,hg0,?_⟩
 conv=>whnf
 have hmi:decide (s.head?=some 45)=true:=decide_eq_true h45
 obtain⟨l,hlst⟩:∃l,l=s.tail:=⟨_,rfl⟩
 have hN:numS s=if digs l=0∨(1<digs l/\l.head?=some 48)∨(true=true/\dval (l.take (digs l))=0)∨17<=digs l then(0,0) else(-(dval (l.take (digs l)):Int),1+digs l):=by
  rw[hlst];unfold numS;simp only[hmi];rfl
 have hget:∀j:Nat,l[j]?=s[1+j]?:=fun j=>by rw[hlst];rw[List.getElem?_tail,Nat.add_comm]
 have hll:l.length=s.length - 1:=by rw[hlst];rw[List.length_tail]
 clear hlst
 refine GLoop.intro (fun j:Nat=>j<=digs l) (fun j=>[(0,.s s),(1,.i .i64 0),(4,.i .i64 (dval (l.take j):Nat)),(5,.i .i64 0),(6,.i .i64 (1+j:Nat)),(7,.b true),(8,.i .i64 (1:Nat))]) (fun _=>⟨[],0,[]⟩) (fun j=>17 - j) 0 (Nat.zero_le _) ⟨rfl,rfl,rfl,rfl,rfl,rfl,rfl,trivial⟩ rfl (fun j φ0 hj=>?_)
 have hj17:j<=17:=by unfold digs at hj;omega
 have hjl:j<=l.length:=by
  have:=(List.takeWhile_prefix (l:=l) isDigit).length_le
  unfold digs at hj;omega
 have hdv:=dval_lt j (l.take j) (by rw[List.length_take];omega) (digs_lt hj)
 have hdv17:dval (l.take j)<10^17:=Nat.lt_of_lt_of_le hdv (Nat.pow_le_pow_right (by decide) hj17)
 have hdv18:dval (l.take j)<100000000000000000:=hdv17
 have wj:IntKind.i64.wrap (((1+j:Nat):Int) - ((1:Nat):Int))=(j:Int):=by rw[wrap_in (by omega) (by omega)];omega
 clear hdv hdv17
 conv=>whnf
 refine GIf.mk (fun h1=>?lt) (fun h1=>?stop1)
 case' lt=>
  have h1':1+j<s.length:=by have:=of_decide_eq_true h1;omega
  have hgi:s[1+j]?=some (s.getD (1+j) 0):=by rw[List.getD_eq_getElem?_getD,List.getElem?_eq_getElem h1'];rfl
  have hlj:l[j]?=some (s.getD (1+j) 0):=(hget j).trans hgi
  generalize s.getD (1+j) 0=c at*
  have hgi':s[((1+j:Nat):Int).toNat]?=some c:=by rw[Int.toNat_natCast];exact hgi
  have hcl:=UInt8.toNat_lt c
  conv=>whnf
  refine GNeed.mk (Int.natCast_nonneg _) ⟨c,hgi',?_⟩
  conv=>whnf
  refine GIf.mk (fun h2=>?ge) (fun h2=>?stop2)
  case' stop2=>
   have hend:=digs_end hj (.inr (fun d hd=>by rw[hlj] at hd;cases hd;have:=of_decide_eq_false h2;simp[isDigit];omega))
   clear hgi' hlj hgi h1' h2 hcl
  case' ge=>
   conv=>whnf
   refine GNeed.mk (Int.natCast_nonneg _) ⟨c,hgi',?_⟩
   conv=>whnf
   refine GIf.mk (fun h3=>?le) (fun h3=>?stop3)
   case' stop3=>
    have hend:=digs_end hj (.inr (fun d hd=>by rw[hlj] at hd;cases hd;have:=of_decide_eq_false h3;simp[isDigit];omega))
    clear hgi' hlj hgi h1' h2 h3 hcl
   case' le=>
    conv=>whnf
    refine GIf.mk (fun h4=>?go) (fun h4=>?stop4)
    case' stop4=>
     have hend:=digs_end hj (.inl (by have:=of_decide_eq_false h4;rw[wj] at this;omega))
     clear hgi' hlj hgi h1' h2 h3 h4 hcl
    case' go=>
     have g2:=of_decide_eq_true h2
     have g3:=of_decide_eq_true h3
     have g4:=of_decide_eq_true h4
     rw[wj] at g4
     have htk:l.take (j+1)=l.take j++[c]:=by rw[List.take_add_one,hlj];rfl
     conv=>whnf
     refine GNeed.mk (Int.natCast_nonneg _) ⟨c,hgi',?_⟩
     conv=>whnf
     refine GLoop.next (j+1) (digs_next hj hlj (by simp[isDigit];omega) (by omega)) (by omega) ⟨rfl,rfl,?_,rfl,wrap_succ (by omega),rfl,rfl,trivial⟩ rfl
     refine congrArg (GV.i .i64) ?_
     rw[htk,dval_snoc]
     exact num_step _ _ hdv18 (by omega) (by omega)
 case' stop1=>
  have hend:=digs_end hj (.inr (fun d hd=>by have:=(List.getElem?_eq_some_iff.1 hd).1;have:=of_decide_eq_false h1;omega))
 all_goals
  clear h1
  subst hend
  conv=>whnf
  refine GIf.mk (fun e1=>?_) (fun e1=>?_)<;>conv=>whnf
  ·have hk0:digs l=0:=by have:=eq_of_beq e1;omega
   have hr:R=(0,0):=hR.trans (hN.trans (if_pos (.inl hk0)))
   cases hr
   exact owes_wk (.refl _) (Cl.tup (.cons (.i _ _) (.cons (.i _ _) .nil)))
  have hk0:¬digs l=0:=fun h=>by rw[h] at e1;simp at e1
  refine GIf.mk (fun e2=>?_) (fun e2=>?_)<;>conv=>whnf
  ·have hk1:1<digs l:=by have:=of_decide_eq_true e2;rw[wj] at this;omega
   obtain⟨c0,hc0⟩:∃c0,l[0]?=some c0:=⟨l[0]'(by omega),List.getElem?_eq_getElem (by omega)⟩
   have hs0:s[((1:Nat):Int).toNat]?=some c0:=by rw[Int.toNat_natCast];exact(hget 0).symm.trans hc0
   refine GNeed.mk (Int.natCast_nonneg _) ⟨c0,hs0,?_⟩
   conv=>whnf
   refine GIf.mk (fun e3=>?_) (fun e3=>?_)<;>conv=>whnf
   ·have h48:l.head?=some 48:=by rw[List.head?_eq_getElem?,hc0,u8_eq (d:=48) e3]
    have hr:R=(0,0):=hR.trans (hN.trans (if_pos (.inr (.inl ⟨hk1,h48⟩))))
    cases hr
    exact owes_wk (.refl _) (Cl.tup (.cons (.i _ _) (.cons (.i _ _) .nil)))
   have h48:¬l.head?=some 48:=fun h=>u8_ne (d:=48) e3 (by rw[List.head?_eq_getElem?,hc0] at h;exact Option.some.inj h)
   refine GIf.mk (fun e4=>?_) (fun e4=>?_)<;>conv=>whnf
   ·have hn0:dval (l.take (digs l))=0:=by have:=eq_of_beq e4;omega
    have hr:R=(0,0):=hR.trans (hN.trans (if_pos (.inr (.inr (.inl ⟨rfl,hn0⟩)))))
    cases hr
    exact owes_wk (.refl _) (Cl.tup (.cons (.i _ _) (.cons (.i _ _) .nil)))
   ·have hn0:¬dval (l.take (digs l))=0:=fun h=>by rw[h] at e4;cases e4
    refine GIf.mk (fun e5=>?_) (fun e5=>?_)<;>conv=>whnf
    ·have h17:17<=digs l:=by have:=of_decide_eq_true e5;rw[wj] at this;omega
     have hr:R=(0,0):=hR.trans (hN.trans (if_pos (.inr (.inr (.inr h17)))))
     cases hr
     exact owes_wk (.refl _) (Cl.tup (.cons (.i _ _) (.cons (.i _ _) .nil)))
    ·have h17:¬17<=digs l:=by have:=of_decide_eq_false e5;rw[wj] at this;omega
     have hr:R=(-(dval (l.take (digs l)):Int),1+digs l):=hR.trans (hN.trans (if_neg (fun h=>h.elim hk0 (fun h=>h.elim (fun h=>h48 h.2) (fun h=>h.elim (fun h=>hn0 h.2) h17)))))
     cases hr
     have w2:IntKind.i64.wrap (((1+digs l:Nat):Int) - 0)=((1+digs l:Nat):Int):=by rw[wrap_in (by omega) (by omega)];omega
     have w3:IntKind.i64.wrap (0 - (dval (l.take (digs l)):Int))= -(dval (l.take (digs l)):Int):=by rw[wrap_in (by omega) (by omega)];omega
     refine owes_wk (Wk.of_eq ?_) (Cl.tup (.cons (.i _ _) (.cons (.i _ _) .nil)))
     show GV.tup [.i .i64 (IntKind.i64.wrap (0 - (dval (l.take (digs l)):Int))),.i .i64 (IntKind.i64.wrap (((1+digs l:Nat):Int) - 0))]=_
     rw[w2,w3]
  have hk1:¬1<digs l:=by have:=of_decide_eq_false e2;rw[wj] at this;omega
  refine GIf.mk (fun e4=>?_) (fun e4=>?_)<;>conv=>whnf
  ·have hn0:dval (l.take (digs l))=0:=by have:=eq_of_beq e4;omega
   have hr:R=(0,0):=hR.trans (hN.trans (if_pos (.inr (.inr (.inl ⟨rfl,hn0⟩)))))
   cases hr
   exact owes_wk (.refl _) (Cl.tup (.cons (.i _ _) (.cons (.i _ _) .nil)))
  ·have hn0:¬dval (l.take (digs l))=0:=fun h=>by rw[h] at e4;cases e4
   refine GIf.mk (fun e5=>?_) (fun e5=>?_)<;>conv=>whnf
   ·have h17:17<=digs l:=by have:=of_decide_eq_true e5;rw[wj] at this;omega
    have hr:R=(0,0):=hR.trans (hN.trans (if_pos (.inr (.inr (.inr h17)))))
    cases hr
    exact owes_wk (.refl _) (Cl.tup (.cons (.i _ _) (.cons (.i _ _) .nil)))
   ·have h17:¬17<=digs l:=by have:=of_decide_eq_false e5;rw[wj] at this;omega
    have hr:R=(-(dval (l.take (digs l)):Int),1+digs l):=hR.trans (hN.trans (if_neg (fun h=>h.elim hk0 (fun h=>h.elim (fun h=>hk1 h.1) (fun h=>h.elim (fun h=>hn0 h.2) h17)))))
    cases hr
    have w2:IntKind.i64.wrap (((1+digs l:Nat):Int) - 0)=((1+digs l:Nat):Int):=by rw[wrap_in (by omega) (by omega)];omega
    have w3:IntKind.i64.wrap (0 - (dval (l.take (digs l)):Int))= -(dval (l.take (digs l)):Int):=by rw[wrap_in (by omega) (by omega)];omega
    refine owes_wk (Wk.of_eq ?_) (Cl.tup (.cons (.i _ _) (.cons (.i _ _) .nil)))
    show GV.tup [.i .i64 (IntKind.i64.wrap (0 - (dval (l.take (digs l)):Int))),.i .i64 (IntKind.i64.wrap (((1+digs l:Nat):Int) - 0))]=_
    rw[w2,w3]
set_option maxHeartbeats 2000000 in
theorem r_NumberP (s:List UInt8) (hs:s.length<most) (h45:¬s.head?=some 45) (hne:s≠[]):SC Tryz.prog 162 [.s s,.i .i64 0] [] (.val (.tup [.i .i64 (numS s).1,.i .i64 ((numS s).2:Nat)])) []:=by
 unfold most at hs
 obtain⟨R,hR⟩:∃R,R=numS s:=⟨_,rfl⟩
 rw[<-hR]
 refine SC.of_gwp noM mixed Tryz.func162 rfl (Nat.le_of_ble_eq_true rfl) (by first|exact Nat.le_refl _|simp) rfl ?_
 conv=>whnf
 obtain⟨c1,hc1⟩:∃c1,s[0]?=some c1:=by
  obtain⟨c,t,rfl⟩:=List.exists_cons_of_ne_nil hne
  exact⟨c,rfl⟩
 have hpos:0<s.length:=List.length_pos_iff.2 hne
 refine GIf.mk (fun h0=>?_) (fun h0=>?_)
 rotate_left
 ·exfalso;have:=of_decide_eq_false h0;omega
 conv=>whnf
 refine GNeed.mk (Int.le_refl 0) ⟨c1,hc1,?_⟩
 conv=>whnf
 refine GIf.mk (fun hm=>?_) (fun hm=>?_)
 ·exact absurd (by rw[List.head?_eq_getElem?,hc1,u8_eq (d:=45) hm]) h45
 conv=>whnf
 have hmi:decide (s.head?=some 45)=false:=decide_eq_false h45
 obtain⟨l,hlst⟩:∃l,l=s:=⟨_,rfl⟩
 have hN:numS s=if digs l=0∨(1<digs l/\l.head?=some 48)∨(false=true/\dval (l.take (digs l))=0)∨17<=digs l then(0,0) else((dval (l.take (digs l)):Int),0+digs l):=by
  rw[hlst];unfold numS;simp only[hmi];rfl
 have hget:∀j:Nat,l[j]?=s[0+j]?:=fun j=>by rw[hlst];rw[Nat.zero_add]
 have hll:l.length=s.length - 0:=by rw[hlst];omega
 clear hlst
 refine GLoop.intro (fun j:Nat=>j<=digs l) (fun j=>[(0,.s s),(1,.i .i64 0),(4,.i .i64 (dval (l.take j):Nat)),(5,.i .i64 0),(6,.i .i64 (0+j:Nat)),(7,.b _),(8,.i .i64 (0:Nat))]) (fun _=>⟨[],0,[]⟩) (fun j=>17 - j) 0 (Nat.zero_le _) ⟨rfl,rfl,rfl,rfl,rfl,rfl,rfl,trivial⟩ rfl (fun j φ0 hj=>?_)
 have hj17:j<=17:=by unfold digs at hj;omega
 have hjl:j<=l.length:=by
  have:=(List.takeWhile_prefix (l:=l) isDigit).length_le
  unfold digs at hj;omega
 have hdv:=dval_lt j (l.take j) (by rw[List.length_take];omega) (digs_lt hj)
 have hdv17:dval (l.take j)<10^17:=Nat.lt_of_lt_of_le hdv (Nat.pow_le_pow_right (by decide) hj17)
 have hdv18:dval (l.take j)<100000000000000000:=hdv17
 have wj:IntKind.i64.wrap (((0+j:Nat):Int) - ((0:Nat):Int))=(j:Int):=by rw[wrap_in (by omega) (by omega)];omega
 clear hdv hdv17
 conv=>whnf
 refine GIf.mk (fun h1=>?lt) (fun h1=>?stop1)
 case' lt=>
  have h1':0+j<s.length:=by have:=of_decide_eq_true h1;omega
  have hgi:s[0+j]?=some (s.getD (0+j) 0):=by rw[List.getD_eq_getElem?_getD,List.getElem?_eq_getElem h1'];rfl
  have hlj:l[j]?=some (s.getD (0+j) 0):=(hget j).trans hgi
  generalize s.getD (0+j) 0=c at*
  have hgi':s[((0+j:Nat):Int).toNat]?=some c:=by rw[Int.toNat_natCast];exact hgi
  have hcl:=UInt8.toNat_lt c
  conv=>whnf
  refine GNeed.mk (Int.natCast_nonneg _) ⟨c,hgi',?_⟩
  conv=>whnf
  refine GIf.mk (fun h2=>?ge) (fun h2=>?stop2)
  case' stop2=>
   have hend:=digs_end hj (.inr (fun d hd=>by rw[hlj] at hd;cases hd;have:=of_decide_eq_false h2;simp[isDigit];omega))
   clear hgi' hlj hgi h1' h2 hcl
  case' ge=>
   conv=>whnf
   refine GNeed.mk (Int.natCast_nonneg _) ⟨c,hgi',?_⟩
   conv=>whnf
   refine GIf.mk (fun h3=>?le) (fun h3=>?stop3)
   case' stop3=>
    have hend:=digs_end hj (.inr (fun d hd=>by rw[hlj] at hd;cases hd;have:=of_decide_eq_false h3;simp[isDigit];omega))
    clear hgi' hlj hgi h1' h2 h3 hcl
   case' le=>
    conv=>whnf
    refine GIf.mk (fun h4=>?go) (fun h4=>?stop4)
    case' stop4=>
     have hend:=digs_end hj (.inl (by have:=of_decide_eq_false h4;rw[wj] at this;omega))
     clear hgi' hlj hgi h1' h2 h3 h4 hcl
    case' go=>
     have g2:=of_decide_eq_true h2
     have g3:=of_decide_eq_true h3
     have g4:=of_decide_eq_true h4
     rw[wj] at g4
     have htk:l.take (j+1)=l.take j++[c]:=by rw[List.take_add_one,hlj];rfl
     conv=>whnf
     refine GNeed.mk (Int.natCast_nonneg _) ⟨c,hgi',?_⟩
     conv=>whnf
     refine GLoop.next (j+1) (digs_next hj hlj (by simp[isDigit];omega) (by omega)) (by omega) ⟨rfl,rfl,?_,rfl,wrap_succ (by omega),rfl,rfl,trivial⟩ rfl
     refine congrArg (GV.i .i64) ?_
     rw[htk,dval_snoc]
     exact num_step _ _ hdv18 (by omega) (by omega)
 case' stop1=>
  have hend:=digs_end hj (.inr (fun d hd=>by have:=(List.getElem?_eq_some_iff.1 hd).1;have:=of_decide_eq_false h1;omega))
 all_goals
  clear h1
  subst hend
  conv=>whnf
  refine GIf.mk (fun e1=>?_) (fun e1=>?_)<;>conv=>whnf
  ·have hk0:digs l=0:=by have:=eq_of_beq e1;omega
   have hr:R=(0,0):=hR.trans (hN.trans (if_pos (.inl hk0)))
   cases hr
   exact owes_wk (.refl _) (Cl.tup (.cons (.i _ _) (.cons (.i _ _) .nil)))
  have hk0:¬digs l=0:=fun h=>by rw[h] at e1;simp at e1
  refine GIf.mk (fun e2=>?_) (fun e2=>?_)<;>conv=>whnf
  ·have hk1:1<digs l:=by have:=of_decide_eq_true e2;rw[wj] at this;omega
   obtain⟨c0,hc0⟩:∃c0,l[0]?=some c0:=⟨l[0]'(by omega),List.getElem?_eq_getElem (by omega)⟩
   have hs0:s[((0:Nat):Int).toNat]?=some c0:=by rw[Int.toNat_natCast];exact(hget 0).symm.trans hc0
   refine GNeed.mk (Int.natCast_nonneg _) ⟨c0,hs0,?_⟩
   conv=>whnf
   refine GIf.mk (fun e3=>?_) (fun e3=>?_)<;>conv=>whnf
   ·have h48:l.head?=some 48:=by rw[List.head?_eq_getElem?,hc0,u8_eq (d:=48) e3]
    have hr:R=(0,0):=hR.trans (hN.trans (if_pos (.inr (.inl ⟨hk1,h48⟩))))
    cases hr
    exact owes_wk (.refl _) (Cl.tup (.cons (.i _ _) (.cons (.i _ _) .nil)))
   have h48:¬l.head?=some 48:=fun h=>u8_ne (d:=48) e3 (by rw[List.head?_eq_getElem?,hc0] at h;exact Option.some.inj h)
   refine GIf.mk (fun hx=>absurd hx (by simp[*])) (fun _=>?_)
   conv=>whnf
   refine GIf.mk (fun e5=>?_) (fun e5=>?_)<;>conv=>whnf
   ·have h17:17<=digs l:=by have:=of_decide_eq_true e5;rw[wj] at this;omega
    have hr:R=(0,0):=hR.trans (hN.trans (if_pos (.inr (.inr (.inr h17)))))
    cases hr
    exact owes_wk (.refl _) (Cl.tup (.cons (.i _ _) (.cons (.i _ _) .nil)))
   ·have h17:¬17<=digs l:=by have:=of_decide_eq_false e5;rw[wj] at this;omega
    have hr:R=((dval (l.take (digs l)):Int),0+digs l):=hR.trans (hN.trans (if_neg (fun h=>h.elim hk0 (fun h=>h.elim (fun h=>h48 h.2) (fun h=>h.elim (fun h=>by cases h.1) h17)))))
    cases hr
    refine GIf.mk (fun hx=>absurd hx (by simp[*])) (fun _=>?_)
    conv=>whnf
    have w2:IntKind.i64.wrap (((0+digs l:Nat):Int) - 0)=((0+digs l:Nat):Int):=by rw[wrap_in (by omega) (by omega)];omega
    refine owes_wk (Wk.of_eq ?_) (Cl.tup (.cons (.i _ _) (.cons (.i _ _) .nil)))
    show GV.tup [.i .i64 ((dval (l.take (digs l)):Int)),.i .i64 (IntKind.i64.wrap (((0+digs l:Nat):Int) - 0))]=_
    rw[w2]
  have hk1:¬1<digs l:=by have:=of_decide_eq_false e2;rw[wj] at this;omega
  refine GIf.mk (fun hx=>absurd hx (by simp[*])) (fun _=>?_)
  conv=>whnf
  refine GIf.mk (fun e5=>?_) (fun e5=>?_)<;>conv=>whnf
  ·have h17:17<=digs l:=by have:=of_decide_eq_true e5;rw[wj] at this;omega
   have hr:R=(0,0):=hR.trans (hN.trans (if_pos (.inr (.inr (.inr h17)))))
   cases hr
   exact owes_wk (.refl _) (Cl.tup (.cons (.i _ _) (.cons (.i _ _) .nil)))
  ·have h17:¬17<=digs l:=by have:=of_decide_eq_false e5;rw[wj] at this;omega
   have hr:R=((dval (l.take (digs l)):Int),0+digs l):=hR.trans (hN.trans (if_neg (fun h=>h.elim hk0 (fun h=>h.elim (fun h=>hk1 h.1) (fun h=>h.elim (fun h=>by cases h.1) h17)))))
   cases hr
   refine GIf.mk (fun hx=>absurd hx (by simp[*])) (fun _=>?_)
   conv=>whnf
   have w2:IntKind.i64.wrap (((0+digs l:Nat):Int) - 0)=((0+digs l:Nat):Int):=by rw[wrap_in (by omega) (by omega)];omega
   refine owes_wk (Wk.of_eq ?_) (Cl.tup (.cons (.i _ _) (.cons (.i _ _) .nil)))
   show GV.tup [.i .i64 ((dval (l.take (digs l)):Int)),.i .i64 (IntKind.i64.wrap (((0+digs l:Nat):Int) - 0))]=_
   rw[w2]
theorem r_Number (s:List UInt8) (hs:s.length<most):SC Tryz.prog 162 [.s s,.i .i64 0] [] (.val (.tup [.i .i64 (numS s).1,.i .i64 ((numS s).2:Nat)])) []:=by
 by_cases h45:s.head?=some 45
 ·exact r_NumberM s hs h45
 by_cases hne:s=[]
 ·subst hne
  show SC _ _ _ _ (.val (.tup [.i .i64 0,.i .i64 (0:Nat)])) _
  refine SC.of_gwp noM mixed Tryz.func162 rfl (Nat.le_of_ble_eq_true rfl) (by first|exact Nat.le_refl _|simp) rfl ?_
  conv=>whnf
  refine GLoop.intro (fun _:Unit=>True) (fun _=>[(0,.s []),(1,.i .i64 0),(4,.i .i64 0),(5,.i .i64 0),(6,.i .i64 0),(7,.b false),(8,.i .i64 0)]) (fun _=>⟨[],0,[]⟩) (fun _=>0) () trivial ⟨rfl,rfl,rfl,rfl,rfl,rfl,rfl,trivial⟩ rfl (fun _ φ0 _=>?_)
  conv=>whnf
  exact owes_wk (.refl _) (fun _=>rfl)
 ·exact r_NumberP s hs h45 hne
end Go.Proofs.YtlhabmglchgdnaaGreatDoor
