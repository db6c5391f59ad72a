/-
  A part of the proof of ViewTexts.
-/
import Derived.Test.YtldggonlkafckaaGreatDoorQ34
import Derived.Lib.Index
import Derived.Lib.IndexMore
import Derived.Test.YtldggonlkafckaaGreatDoorQ18
import Derived.Test.YtldggonlkafckaaGreatDoorQ21
set_option linter.all false
namespace Go.Proofs.YtldggonlkafckaaGreatDoor
open Go.RowKit
set_option linter.unusedVariables false
theorem occ_app (s sub r:By):Lib.occAt (s++sub++r) sub s.length=true:=by
 unfold Lib.occAt
 rw[List.append_assoc,List.drop_left]
 exact List.isPrefixOf_iff_prefix.2 ⟨r,rfl⟩
theorem occ_iff {s sub:By} {i:Nat} (hi:i<=s.length):Lib.occAt s sub i=true↔∃a b,s=a++sub++b/\a.length=i:=by
 unfold Lib.occAt
 rw[List.isPrefixOf_iff_prefix]
 constructor
 ·rintro⟨t,ht⟩
  refine⟨s.take i,t,?_,by simp;omega⟩
  rw[List.append_assoc,ht,List.take_append_drop]
 ·rintro⟨a,b,rfl,rfl⟩
  rw[List.append_assoc,List.drop_left]
  exact⟨b,rfl⟩
theorem index_some:∀{s sub:By},0<=Lib.index s sub->∃a b,s=a++sub++b/\Lib.index s sub=(a.length:Nat)/\∀j,j<a.length->Lib.occAt s sub j=false
 |[],sub,h=>by
  unfold Lib.index at h⊢
  split at h
  ·rename_i h1
   have:sub=[]:=by simpa using h1
   subst this
   exact⟨[],[],rfl,by simp,fun j hj=>absurd hj (Nat.not_lt_zero j)⟩
  ·omega
 |c::l,sub,h=>by
  unfold Lib.index at h⊢
  split at h
  ·rename_i h1
   obtain⟨t,ht⟩:=List.isPrefixOf_iff_prefix.1 h1
   exact⟨[],t,by simp[ht],by rw[if_pos h1];rfl,fun j hj=>absurd hj (Nat.not_lt_zero j)⟩
  ·rename_i h1
   split at h
   ·omega
   ·rename_i h2
    have h3:=Lib.index_ge l sub
    have h4:Lib.index l sub≠ -1:=by simpa using h2
    obtain⟨a,b,hs,hi,hf⟩:=index_some (s:=l) (sub:=sub) (by omega)
    refine⟨c::a,b,by rw[hs];rfl,?_,fun j hj=>?_⟩
    ·rw[if_neg h1,if_neg h2,hi];simp
    ·cases j with
     |zero=>
      show List.isPrefixOf sub (c::l)=false
      exact Bool.eq_false_iff.2 h1
     |succ j=>exact hf j (by simpa using hj)
theorem index_no {s sub:By} (h:¬0<=Lib.index s sub):Lib.index s sub= -1:=by have:=Lib.index_ge s sub;omega
theorem index_occ:∀{s sub:By} {j:Nat},j<=s.length->Lib.occAt s sub j=true->0<=Lib.index s sub
 |[],sub,j,hj,h=>by
  have:j=0:=by simpa using hj
  subst this
  have h1:sub=[]:=List.prefix_nil.1 (List.isPrefixOf_iff_prefix.1 h)
  subst h1
  decide
 |c::l,sub,j,hj,h=>by
  unfold Lib.index
  by_cases h1:sub.isPrefixOf (c::l)=true
  ·rw[if_pos h1];exact Int.le_refl _
  ·rw[if_neg h1]
   cases j with
   |zero=>exact absurd h h1
   |succ j=>
    have:=index_occ (s:=l) (sub:=sub) (j:=j) (by simpa using hj) h
    rw[if_neg (by simp;omega)]
    omega
theorem index_neg {s sub:By} (h:Lib.index s sub= -1) (a b:By):s≠a++sub++b:=by
 rintro rfl
 have:=index_occ (s:=a++sub++b) (sub:=sub) (j:=a.length) (by simp) (occ_app a sub b)
 omega
theorem index_at {sub:By} (a b:By) (h:∀j,j<a.length->Lib.occAt (a++sub++b) sub j=false):Lib.index (a++sub++b) sub=(a.length:Nat):=
 Lib.index_first (by simp) (occ_app a sub b) h
theorem index_c {c:UInt8} {t:By} (a b:By) (h:c∉a):Lib.index (a++(c::t)++b) (c::t)=(a.length:Nat):=
 index_at a b fun j hj=>by
  cases e:Lib.occAt (a++(c::t)++b) (c::t) j with
  |false=>rfl
  |true=>
   have h1:=Lib.occAt_head rfl e
   rw[List.append_assoc,List.getElem?_append_left hj] at h1
   exact absurd (List.mem_of_getElem? h1) h
theorem cut_c {c:UInt8} {t:By} (a b:By) (h:c∉a):Lib.cut (a++(c::t)++b) (c::t)=(a,b,true):=by
 unfold Lib.cut
 rw[index_c a b h,if_pos (cN _),Int.toNat_natCast,List.append_assoc,List.take_left,<-List.append_assoc,show a.length+(c::t).length=(a++(c::t)).length by simp,List.drop_left]
theorem cut_no {c:UInt8} {t:By} {s:By} (h:c∉s):Lib.cut s (c::t)=(s,[],false):=by
 unfold Lib.cut
 rw[if_neg]
 intro h1
 obtain⟨a,b,hs,_⟩:=index_some h1
 exact h (by rw[hs];simp)
theorem cut_cases (s sub:By):(∃a b,s=a++sub++b/\Lib.cut s sub=(a,b,true)/\Lib.index s sub=(a.length:Nat)/\∀j,j<a.length->Lib.occAt s sub j=false)∨(Lib.cut s sub=(s,[],false)/\Lib.index s sub= -1):=by
 unfold Lib.cut
 by_cases h:0<=Lib.index s sub
 ·left
  obtain⟨a,b,hs,hi,hf⟩:=index_some h
  refine⟨a,b,hs,?_,hi,hf⟩
  rw[if_pos h,hi,Int.toNat_natCast]
  conv=>lhs;rw[hs]
  rw[List.append_assoc,List.take_left,<-List.append_assoc,show a.length+sub.length=(a++sub).length by simp,List.drop_left]
 ·exact .inr ⟨if_neg h,index_no h⟩
def piecesF (sub:By):Nat->By->List By
 |0,s=>[s]
 |n+1,s=>if 0<=Lib.index s sub then s.take (Lib.index s sub).toNat::piecesF sub n (s.drop ((Lib.index s sub).toNat+sub.length)) else[s]
def pieces (sub s:By):List By:=piecesF sub (s.length+1) s
theorem piecesF_eq {sub:By} (hs:sub≠[]):∀(n m:Nat) (s:By),s.length<n->s.length<m->piecesF sub n s=piecesF sub m s
 |0,m,s,h,_=>absurd h (Nat.not_lt_zero _)
 |n+1,0,s,_,h=>absurd h (Nat.not_lt_zero _)
 |n+1,m+1,s,h,h'=>by
  unfold piecesF
  by_cases hi:0<=Lib.index s sub
  ·rw[if_pos hi,if_pos hi]
   have hl:0<sub.length:=List.length_pos_iff.2 hs
   obtain⟨a,b,e,_⟩:=index_some hi
   have:0<s.length:=by rw[e];simp;omega
   rw[piecesF_eq hs n m _ (by simp;omega) (by simp;omega)]
  ·rw[if_neg hi,if_neg hi]
theorem pieces_cut {sub:By} (hs:sub≠[]) (s:By):pieces sub s=if(Lib.cut s sub).2.2=true then(Lib.cut s sub).1::pieces sub (Lib.cut s sub).2.1 else[s]:=by
 have hl:0<sub.length:=List.length_pos_iff.2 hs
 unfold pieces
 rw[piecesF]
 unfold Lib.cut
 by_cases hi:0<=Lib.index s sub
 ·rw[if_pos hi,if_pos hi,if_pos rfl]
  obtain⟨a,b,e,_⟩:=index_some hi
  have:0<s.length:=by rw[e];simp;omega
  rw[piecesF_eq hs s.length _ _ (by simp;omega) (Nat.lt_succ_self _)]
 ·rw[if_neg hi,if_neg hi,if_neg (by simp)]
theorem pieces_c {c:UInt8} {t:By} (a b:By) (h:c∉a):pieces (c::t) (a++(c::t)++b)=a::pieces (c::t) b:=by
 rw[pieces_cut (List.cons_ne_nil _ _),cut_c a b h];rfl
theorem pieces_no {c:UInt8} {t:By} {s:By} (h:c∉s):pieces (c::t) s=[s]:=by
 rw[pieces_cut (List.cons_ne_nil _ _),cut_no h];rfl
theorem pieces_ne (sub s:By) (hs:sub≠[]):pieces sub s≠[]:=by
 rw[pieces_cut hs];split<;>exact List.cons_ne_nil _ _
theorem pieces_len {sub:By} (hs:sub≠[]):∀(n:Nat) (s:By),s.length<=n->(pieces sub s).length<=s.length+1/\∀x∈pieces sub s,x.length<=s.length:=by
 intro n
 induction n with
 |zero=>
  intro s h
  have:s=[]:=List.length_eq_zero_iff.1 (by omega)
  subst this
  rw[pieces_cut hs]
  rcases cut_cases [] sub with⟨a,b,e,_⟩|⟨e,_⟩
  ·have h2:=congrArg List.length e;have hl:0<sub.length:=List.length_pos_iff.2 hs;simp at h2;omega
  ·rw[e];simp
 |succ n ih=>
  intro s h
  rw[pieces_cut hs]
  rcases cut_cases s sub with⟨a,b,e,h1,_⟩|⟨e,_⟩
  ·rw[h1]
   have hl:0<sub.length:=List.length_pos_iff.2 hs
   have h2:s.length=a.length+sub.length+b.length:=by rw[e];simp;omega
   obtain⟨i1,i2⟩:=ih b (by omega)
   simp only[if_true,List.length_cons]
   refine⟨by omega,fun x hx=>?_⟩
   rcases List.mem_cons.1 hx with rfl|hx
   ·omega
   ·have:=i2 x hx;omega
  ·rw[e];simp
theorem esc_nl':∀a:Fin 256,((esc (UInt8.ofNat a)).all fun d=>!(d==10))=true:=by decide+kernel
theorem esc_nl (c d:UInt8) (h:d∈esc c):d≠10:=by
 have h1:=esc_nl' ⟨c.toNat,c.toNat_lt⟩
 simp only[UInt8.ofNat_toNat] at h1
 have:=List.all_eq_true.1 h1 d h
 simpa using this
theorem nl_inner {w:By} (h:∀c∈w,isInner c=true):(10:UInt8)∉w:=fun h1=>absurd (h 10 h1) (by decide)
theorem isName_inner {w:By} (h:isName w=true):∀c∈w,isInner c=true:=by
 unfold isName at h
 split at h
 ·cases h
 ·simp only[Bool.and_eq_true] at h
  exact fun c hc=>List.all_eq_true.1 h.2 c hc
theorem nl_name {w:By} (h:isName w=true):(10:UInt8)∉w:=nl_inner (isName_inner h)
theorem nl_written {v:Val} (h:v.ok=true):(10:UInt8)∉written v:=by
 unfold written
 split
 ·unfold Lib.itoa
  split
  ·intro h1
   rcases List.mem_cons.1 h1 with h2|h2
   ·cases h2
   ·exact absurd ((dec_digs _).1 _ h2) (by decide)
  ·intro h1
   exact absurd ((dec_digs _).1 _ h1) (by decide)
 ·unfold quoted
  intro h1
  rcases List.mem_cons.1 h1 with h2|h2
  ·cases h2
  ·rcases List.mem_append.1 h2 with h3|h3
   ·obtain⟨c,_,hc⟩:=List.mem_flatMap.1 h3
    exact esc_nl c 10 hc rfl
   ·simp at h3
theorem nl_txt {t:Term} (h:t.good):(10:UInt8)∉t.txt:=by
 unfold Term.txt
 rcases h with⟨h1,h2,_,_⟩|⟨h1,h2,h3⟩
 ·split
  ·intro h4
   rcases List.mem_cons.1 h4 with h5|h5
   ·cases h5
   ·exact nl_name h2 h5
  ·first|exact nl_name h2|(rw[if_pos h1];exact nl_name h2)
 ·rw[h2,h1]
  simp only[Bool.false_eq_true,if_false,ne_eq,not_true_eq_false]
  unfold litT
  rw[if_pos h3]
  exact nl_written h3
theorem nl_paren {b:Bool} {s:By} (h:(10:UInt8)∉s):(10:UInt8)∉paren b s:=by
 unfold paren
 split
 ·simp[h]
 ·exact h
theorem nl_plain:∀(t:Tree),t.good->(10:UInt8)∉t.plain
 |.pair a l r,h=>by
  have h1:=nl_paren (b:=decide (l.level<opn a)) (nl_plain l h.1)
  have h2:=nl_paren (b:=decide (r.level<opn a)) (nl_plain r h.2)
  have h3:(10:UInt8)∉sep a:=by cases a<;>decide
  unfold Tree.plain
  simp[h1,h2,h3]
 |.no t,h=>by
  have h1:=nl_paren (b:=decide (t.level<4)) (nl_plain t h)
  unfold Tree.plain
  simp[h1,wNot]
 |.test op l r,h=>by
  have h1:=nl_txt h.2.1
  have h2:=nl_txt h.2.2
  have h3:(10:UInt8)∉op:=by
   have h4:op∈rels:=by simpa[relop] using h.1
   intro h5
   have:rels.all (fun w=>!w.contains 10)=true:=by decide
   have:=List.all_eq_true.1 this op h4
   simp at this
   exact this h5
  unfold Tree.plain
  simp[h1,h2,h3]
 |.truth b,_=>by cases b<;>decide
theorem nl_show {s:By} (h:(showS s).2=0):(10:UInt8)∉(showS s).1:=by
 unfold showS at h⊢
 split
 ·rename_i t ht
  rw[ht] at h
  simp only at h
  unfold resS at h⊢
  split
  ·rename_i h1;rw[if_pos h1] at h;cases h
  ·exact nl_plain _ (flat_good (readS_good ht).1)
 ·simp
structure VwR where
 name:By
 of:By
 items:List (By×By)
 only:By
 deriving DecidableEq
structure Vw where
 recs:List VwR
 sets:List (By×By)
 deriving DecidableEq
def letters (s:By):Bool:=match s with
 |[]=>false
 |c::_=>isSmall c&&s.all isInner
def ofW:By:=[32,111,102,32]
def opW:By:=[32,123,32]
def clW:By:=[32,125]
def semi:By:=[59,32]
def onlyW:By:=[32,111,110,108,121,32]
def recW:By:=[114,101,99,111,114,100]
def setW:By:=[115,101,116]
def canon (s:By):Bool:=decide (showS s=(s,0))
def formP (p:By×By):Bool:=isName p.1&&isName p.2
def formR (r:VwR):Bool:=isName r.name&&isName r.of&&!r.items.isEmpty&&r.items.all formP&&(r.only.isEmpty||canon r.only)
def formV (v:Vw):Bool:=v.recs.all formR&&(!v.recs.isEmpty&&v.sets.all formP)
def pairT (p:By×By):By:=p.1++ofW++p.2
def headT (r:VwR):By:=recW++[32]++r.name++ofW++r.of++opW++Lib.join (r.items.map pairT) semi++clW
def onlyT (r:VwR):By:=if r.only=[] then[] else onlyW++r.only
def recL (r:VwR):By:=headT r++onlyT r
def setL (p:By×By):By:=setW++[32]++pairT p
def lns (l:List By):By:=l.flatMap (· ++[10])
def viewT (v:Vw):By:=lns (v.recs.map recL++v.sets.map setL)
def fmtV (v:Vw):By:=if formV v then viewT v else[]
def pairP (s:By):(By×By)×Bool:=(((Lib.cut s ofW).1,(Lib.cut s ofW).2.1),(Lib.cut s ofW).2.2&&letters (Lib.cut s ofW).1&&letters (Lib.cut s ofW).2.1)
def pairR (s:By):(By×By)×Bool:=match pieces [32] s with
 |[a,o,b]=>if letters a&&decide (o=[111,102])&&letters b then((a,b),true) else(([],[]),false)
 |_=>(([],[]),false)
def onlyP (o:By):By×Bool:=if onlyW.isPrefixOf o then(o.drop 6,true) else(o,false)
def recP (s:By):VwR×Bool:=
 let c1:=Lib.cut s opW
 let c2:=Lib.cut c1.2.1 clW
 let l:=pieces semi c2.1
 (⟨(pairP c1.1).1.1,(pairP c1.1).1.2,l.map fun p=>(pairP p).1,if c2.2.1=[] then[] else(onlyP c2.2.1).1⟩,
  c1.2.2&&c2.2.2&&(pairP c1.1).2&&(l.all fun p=>(pairP p).2)&&(decide (c2.2.1=[])||((onlyP c2.2.1).2&&decide ((onlyP c2.2.1).1≠[]))))
def r0V:VwR:=⟨[],[],[],[]⟩
def recR (s:By):VwR×Bool:=
 let c1:=Lib.cut s opW
 let c2:=Lib.cut c1.2.1 clW
 let l:=pieces semi c2.1
 if c1.2.2=false then(r0V,false) else if c2.2.2=false then(r0V,false) else
 if c2.2.1≠[]/\(c2.2.1.length<=6∨c2.2.1.take 6≠onlyW) then(r0V,false) else
 (⟨(pairR c1.1).1.1,(pairR c1.1).1.2,l.map fun p=>(pairR p).1,c2.2.1.drop 6⟩,(pairR c1.1).2&&l.all fun p=>(pairR p).2)
def lineP (l:By):Option (VwR ⊕ By×By):=
 let c:=Lib.cut l [32]
 if c.1=recW then(if(recP c.2.1).2 then some (.inl (recP c.2.1).1) else none) else
 if c.1=setW then(if(pairP c.2.1).2 then some (.inr (pairP c.2.1).1) else none) else none
def lineR (l:By):Option (VwR ⊕ By×By):=
 if 7<l.length/\l.take 7=recW++[32] then(if(recR (l.drop 7)).2 then some (.inl (recR (l.drop 7)).1) else none) else
 if 4<l.length/\l.take 4=setW++[32] then(if(pairR (l.drop 4)).2 then some (.inr (pairR (l.drop 4)).1) else none) else none
def Vw.add (v:Vw):VwR ⊕ By×By->Vw
 |.inl r=>⟨v.recs++[r],v.sets⟩
 |.inr p=>⟨v.recs,v.sets++[p]⟩
def goL:List By->Vw->Nat->Nat ⊕ Vw
 |[],v,_=>.inr v
 |l::ls,v,n=>match lineP l with
  |some x=>goL ls (v.add x) (n+1)
  |none=>.inl n
def nilV:Vw:=⟨[],[]⟩
def parseV (t:By):Vw×Nat×Int:=
 if 20000<t.length then(nilV,0,3) else if t=[] then(nilV,0,2) else
 match goL (pieces [10] t).dropLast nilV 0 with
 |.inl n=>(nilV,n,2)
 |.inr v=>if(pieces [10] t).getLastD []≠[]∨fmtV v≠t then(nilV,(pieces [10] t).length - 1,2) else(v,0,0)
theorem letters_inner {s:By} (h:letters s=true):s≠[]/\∀c∈s,isInner c=true:=by
 unfold letters at h
 split at h
 ·cases h
 ·simp only[Bool.and_eq_true] at h
  exact⟨List.cons_ne_nil _ _,fun c hc=>List.all_eq_true.1 h.2 c hc⟩
theorem letters_no {s:By} (h:letters s=true) {c:UInt8} (hc:isInner c=false):c∉s:=fun h1=>by
 rw[(letters_inner h).2 c h1] at hc;cases hc
theorem name_letters {s:By} (h:isName s=true):letters s=true:=by
 unfold isName at h
 unfold letters
 split at h
 ·cases h
 ·simp only[Bool.and_eq_true] at h
  simp only[Bool.and_eq_true]
  exact⟨h.1.2,h.2⟩
theorem cut_true {s sub:By} (h:(Lib.cut s sub).2.2=true):s=(Lib.cut s sub).1++sub++(Lib.cut s sub).2.1:=by
 rcases cut_cases s sub with⟨a,b,e,h1,_⟩|⟨e,_⟩
 ·rw[h1];exact e
 ·rw[e] at h;cases h
theorem pairP_of {a b:By} (ha:letters a=true) (hb:letters b=true):pairP (a++ofW++b)=((a,b),true):=by
 unfold pairP
 have h:=cut_c (c:=32) (t:=[111,102,32]) a b (letters_no ha rfl)
 rw[show Lib.cut (a++ofW++b) ofW=(a,b,true) from h]
 simp[ha,hb]
theorem pairR_of {a b:By} (ha:letters a=true) (hb:letters b=true):pairR (a++ofW++b)=((a,b),true):=by
 unfold pairR
 have h1:pieces [32] (a++ofW++b)=[a,[111,102],b]:=by
  rw[show a++ofW++b=a++[32]++([111,102]++[32]++b) by simp[ofW],pieces_c a _ (letters_no ha rfl),pieces_c [111,102] b (by decide),pieces_no (letters_no hb rfl)]
 rw[h1]
 simp[ha,hb]
theorem join_cons2 (x y:By) (l:List By) (sep:By):Lib.join (x::y::l) sep=x++sep++Lib.join (y::l) sep:=by
 unfold Lib.join
 simp[List.intercalate]
theorem join_one (x sep:By):Lib.join [x] sep=x:=by
 unfold Lib.join
 simp[List.intercalate]
theorem pieces_join {sub:By} (hs:sub≠[]):∀(n:Nat) (s:By),s.length<=n->Lib.join (pieces sub s) sub=s:=by
 intro n
 induction n with
 |zero=>
  intro s h
  have:s=[]:=List.length_eq_zero_iff.1 (by omega)
  subst this
  rw[pieces_cut hs]
  rcases cut_cases [] sub with⟨a,b,e,_⟩|⟨e,_⟩
  ·have h2:=congrArg List.length e;have hl:0<sub.length:=List.length_pos_iff.2 hs;simp at h2;omega
  ·rw[e];exact join_one _ _
 |succ n ih=>
  intro s h
  rw[pieces_cut hs]
  rcases cut_cases s sub with⟨a,b,e,h1,_⟩|⟨e,_⟩
  ·rw[h1]
   have hl:0<sub.length:=List.length_pos_iff.2 hs
   have h2:s.length=a.length+sub.length+b.length:=by rw[e];simp;omega
   have h3:=ih b (by omega)
   simp only[if_true]
   cases hp:pieces sub b with
   |nil=>exact absurd hp (pieces_ne sub b hs)
   |cons x l=>rw[hp] at h3;rw[join_cons2,h3];exact e.symm
  ·rw[e];exact join_one _ _
theorem pairP_yes {s:By} (h:(pairP s).2=true):letters (pairP s).1.1=true/\letters (pairP s).1.2=true/\s=(pairP s).1.1++ofW++(pairP s).1.2:=by
 unfold pairP at h⊢
 simp only[Bool.and_eq_true] at h
 exact⟨h.1.2,h.2,cut_true h.1.1⟩
theorem pairR_yes {s:By} (h:(pairR s).2=true):letters (pairR s).1.1=true/\letters (pairR s).1.2=true/\s=(pairR s).1.1++ofW++(pairR s).1.2:=by
 have hj:=pieces_join (sub:=[32]) (List.cons_ne_nil _ _) s.length s (rL _)
 unfold pairR at h⊢
 split at h
 ·rename_i a o b hp
  rw[hp] at hj
  split at h
  ·rename_i hc
   simp only[Bool.and_eq_true,decide_eq_true_eq] at hc
   simp only[hc.1.1,hc.1.2,hc.2,decide_true,Bool.and_self,if_true]
   refine⟨trivial,trivial,?_⟩
   rw[<-hj,join_cons2,join_cons2,join_one,hc.1.2]
   simp[ofW]
  ·cases h
 ·cases h
theorem pair_eq (s:By):(pairP s).2=(pairR s).2/\((pairP s).2=true->(pairP s).1=(pairR s).1):=by
 cases hP:(pairP s).2 with
 |true=>
  obtain⟨h1,h2,h3⟩:=pairP_yes hP
  have:=pairR_of h1 h2
  rw[<-h3] at this
  rw[this]
  exact⟨rfl,fun _=>rfl⟩
 |false=>
  refine⟨?_,fun h=>by cases h⟩
  cases hR:(pairR s).2 with
  |false=>rfl
  |true=>
   obtain⟨h1,h2,h3⟩:=pairR_yes hR
   have:=pairP_of h1 h2
   rw[<-h3] at this
   rw[this] at hP
   cases hP
theorem all_pair (l:List By):(l.all fun p=>(pairP p).2)=(l.all fun p=>(pairR p).2)/\((l.all fun p=>(pairP p).2)=true->(l.map fun p=>(pairP p).1)=l.map fun p=>(pairR p).1):=by
 refine⟨congrArg l.all (funext fun p=>(pair_eq p).1),fun h=>List.map_congr_left fun p hp=>(pair_eq p).2 (List.all_eq_true.1 h p hp)⟩
theorem only_eq (o:By):(decide (o=[])||((onlyP o).2&&decide ((onlyP o).1≠[])))=true↔¬(o≠[]/\(o.length<=6∨o.take 6≠onlyW)):=by
 unfold onlyP
 by_cases h0:o=[]
 ·simp[h0]
 ·by_cases h1:onlyW.isPrefixOf o=true
  ·rw[if_pos h1]
   obtain⟨t,rfl⟩:=List.isPrefixOf_iff_prefix.1 h1
   cases t<;>simp[onlyW]
  ·rw[if_neg h1]
   simp only[h0,decide_false,Bool.false_or,Bool.false_and,Bool.false_eq_true,false_iff]
   refine fun hn=>hn ⟨h0,.inr fun h2=>h1 (List.isPrefixOf_iff_prefix.2 ⟨o.drop 6,?_⟩)⟩
   rw[<-h2,List.take_append_drop]
theorem only_val {o:By} (h:(decide (o=[])||((onlyP o).2&&decide ((onlyP o).1≠[])))=true):(if o=[] then[] else(onlyP o).1)=o.drop 6:=by
 by_cases h0:o=[]
 ·simp[h0]
 ·rw[if_neg h0]
  unfold onlyP at h⊢
  split
  ·rfl
  ·rename_i h1;simp[h0,h1] at h
theorem rec_eq (s:By):(recP s).2=(recR s).2/\((recP s).2=true->(recP s).1=(recR s).1):=by
 unfold recP recR
 simp only
 generalize Lib.cut s opW=c1
 generalize Lib.cut c1.2.1 clW=c2
 have hp:=pair_eq c1.1
 have ha:=all_pair (pieces semi c2.1)
 have ho:=only_eq c2.2.1
 have hv:=@only_val c2.2.1
 cases h1:c1.2.2 with
 |false=>simp
 |true=>
 cases h2:c2.2.2 with
 |false=>simp
 |true=>
 simp only[Bool.true_and,Bool.true_eq_false,if_false]
 cases h3:(decide (c2.2.1=[])||((onlyP c2.2.1).2&&decide ((onlyP c2.2.1).1≠[]))) with
 |false=>
  rw[h3] at ho
  have h4:c2.2.1≠[]/\(c2.2.1.length<=6∨c2.2.1.take 6≠onlyW):=by
   have:=mt ho.2 (by simp)
   exact Classical.not_not.1 this
  rw[if_pos h4]
  simp
 |true=>
  rw[if_neg (ho.1 h3)]
  refine⟨?_,fun h=>?_⟩
  ·rw[hp.1,ha.1,Bool.and_true]
  ·simp only[Bool.and_true,Bool.and_eq_true] at h
   rw[hp.2 h.1,ha.2 h.2,hv h3]
theorem line_eq (l:By):lineP l=lineR l:=by
 unfold lineP lineR
 simp only
 rcases cut_cases l [32] with⟨a,b,e,h1,h2,hf⟩|⟨e,hi⟩
 ·rw[h1]
  simp only
  by_cases ha:a=recW
  ·rw[if_pos ha,e,ha]
   have hd:(recW++[32]++b).drop 7=b:=List.drop_left' rfl
   have ht:(recW++[32]++b).take 7=recW++[32]:=List.take_left' rfl
   rw[hd,ht]
   by_cases hb:b=[]
   ·have:(recP b).2=false:=by rw[hb];decide
    have hn:¬(7<(recW++[32]++b).length/\recW++[32]=recW++[32]):=by rw[hb];decide
    have hn2:¬(4<(recW++[32]++b).length/\(recW++[32]++b).take 4=setW++[32]):=by rw[hb];decide
    rw[this,if_neg hn,if_neg hn2];rfl
   ·have:0<b.length:=List.length_pos_iff.2 hb
    have hn:7<(recW++[32]++b).length/\recW++[32]=recW++[32]:=⟨by simp[recW];omega,rfl⟩
    have hq:=rec_eq b
    rw[if_pos hn]
    cases h:(recP b).2 with
    |false=>rw[<-hq.1,h];rfl
    |true=>rw[<-hq.1,hq.2 h,h]
  ·rw[if_neg ha]
   have hnr:¬(7<l.length/\l.take 7=recW++[32]):=by
    rintro⟨q1,q2⟩
    have:l=recW++[32]++l.drop 7:=by rw[<-q2,List.take_append_drop]
    have h3:=cut_c (c:=32) (t:=[]) recW (l.drop 7) (by decide)
    rw[<-this,h1] at h3
    exact ha (congrArg Prod.fst h3)
   rw[if_neg hnr]
   by_cases hs:a=setW
   ·rw[if_pos hs,e,hs]
    have hd:(setW++[32]++b).drop 4=b:=List.drop_left' rfl
    have ht:(setW++[32]++b).take 4=setW++[32]:=List.take_left' rfl
    rw[hd,ht]
    by_cases hb:b=[]
    ·have:(pairP b).2=false:=by rw[hb];decide
     have hn:¬(4<(setW++[32]++b).length/\setW++[32]=setW++[32]):=by rw[hb];decide
     rw[this,if_neg hn];rfl
    ·have:0<b.length:=List.length_pos_iff.2 hb
     have hn:4<(setW++[32]++b).length/\setW++[32]=setW++[32]:=⟨by simp[setW];omega,rfl⟩
     have hq:=pair_eq b
     rw[if_pos hn]
     cases h:(pairP b).2 with
     |false=>rw[<-hq.1,h];rfl
     |true=>rw[<-hq.1,hq.2 h,h]
   ·rw[if_neg hs,if_neg]
    rintro⟨q1,q2⟩
    have:l=setW++[32]++l.drop 4:=by rw[<-q2,List.take_append_drop]
    have h3:=cut_c (c:=32) (t:=[]) setW (l.drop 4) (by decide)
    rw[<-this,h1] at h3
    exact hs (congrArg Prod.fst h3)
 ·rw[e]
  simp only
  have r1:(recP ([]:By)).2=false:=by decide
  have r2:(pairP ([]:By)).2=false:=by decide
  have n1:¬(7<l.length/\l.take 7=recW++[32]):=fun q=>index_neg hi recW (l.drop 7) (by rw[<-q.2,List.take_append_drop])
  have n2:¬(4<l.length/\l.take 4=setW++[32]):=fun q=>index_neg hi setW (l.drop 4) (by rw[<-q.2,List.take_append_drop])
  rw[r1,r2,if_neg n1,if_neg n2]
  simp
set_option maxRecDepth 100000
theorem maxl_cell [MaxL] {C:Cx} {w:World} (hr:Rel C ⟨[],0,[]⟩ w w):w.cell? ⟨0,0,none⟩=some (.int .i64 MaxL.m):=by
 obtain⟨u,h1,h2⟩:=hr.gl 0 [.i .i64 MaxL.m] 0 (.i .i64 MaxL.m) rfl rfl
 have:=h2 C (fun _ _ _ h=>h)
 cases this
 exact hr.fxc _ _ _ h1
theorem args_ss [MaxL] {C:Cx} {a b:By} {vs:Array Value} (hv:VRs C [.s a,.s b] vs.toList):vs= #[.string ⟨a.toArray⟩,.string ⟨b.toArray⟩]:=by
 obtain⟨u,vs',e,hv1,hv2⟩:=hv.cons_inv
 obtain⟨u2,vs2,e2,hv3,hv4⟩:=hv2.cons_inv
 have:vs2=[]:=List.eq_nil_of_length_eq_zero (by simpa using hv4.1)
 subst this
 cases hv1;cases hv3
 rw[<-Array.toArray_toList (xs:=vs),e,e2]
theorem Base.drewN (w:World) (n:Nat):Base (fun _=>False) w (w.drewN n):=⟨rfl,rfl,rfl,rL _,fun _ _ _=>rfl⟩
theorem c_Cut [MaxL] (s sep:By) (hs:s.length<4000000000):SC Tryz.prog 39 [.s s,.s sep] [] (.val (.tup [.s (Lib.cut s sep).1,.s (Lib.cut s sep).2.1,.b (Lib.cut s sep).2.2])) []:=by
 refine SC.of_calls fun C w vs hr hv=>?_
 obtain rfl:=args_ss hv
 refine(Tryz.strings_Cut ⟨s.toArray⟩ ⟨sep.toArray⟩ _ w (by simp[ByteArray.size];omega) (maxl_cell hr)).mono ?_
 rintro e w' ⟨rfl,n,rfl⟩
 refine⟨_,rfl,.drewN w n,.tup rfl fun j g u h1 h2=>?_⟩
 match j,h1,h2 with
 |0,h1,h2=>cases h1;cases h2;exact .s _
 |1,h1,h2=>cases h1;cases h2;exact .s _
 |2,h1,h2=>cases h1;cases h2;exact .b _
theorem c_Index [MaxL] (s sep:By) (hs:s.length<4000000000):SC Tryz.prog 184 [.s s,.s sep] [] (.val (.i .i64 (Lib.index s sep))) []:=by
 refine SC.of_calls fun C w vs hr hv=>?_
 obtain rfl:=args_ss hv
 refine(Tryz.strings_Index ⟨s.toArray⟩ ⟨sep.toArray⟩ _ w (by simp[ByteArray.size];omega) (maxl_cell hr)).mono ?_
 rintro e w' ⟨rfl,rfl⟩
 exact⟨_,rfl,.refl _ _,.i _ _⟩
theorem c_CutPrefixL [MaxL] (s p:By):SC Tryz.prog 133 [.s s,.s p] [] (.val (.tup [.s (if p.isPrefixOf s then s.drop p.length else s),.b (p.isPrefixOf s)])) []:=by
 have h:=c_HasPrefixL s p
 cases hp:p.isPrefixOf s with
 |false=>
  rw[hp] at h
  refine gwS Tryz.func133 rfl ?_
  conv=>whnf
  refine callP h (by first|exact wR _|exact wC (Wk.sl _ _) (wR _)|exact wC (Wk.sl _ _) (wC (Wk.sl _ _) (wR _))|exact wC (Wk.refl _) (wC (Wk.sl _ _) (wR _))) rfl (by first|exact fun _=>rfl|exact cA|exact cB fun _=>rfl) (by first|exact fun _=>rfl|exact cA|exact cB fun _=>rfl) ?_
  conv=>whnf
  exact owes_wk (.refl _) (fun _=>rfl)
 |true=>
  rw[hp] at h
  have hl:=(List.isPrefixOf_iff_prefix.1 hp).length_le
  refine gwS Tryz.func133 rfl ?_
  conv=>whnf
  refine callP h (by first|exact wR _|exact wC (Wk.sl _ _) (wR _)|exact wC (Wk.sl _ _) (wC (Wk.sl _ _) (wR _))|exact wC (Wk.refl _) (wC (Wk.sl _ _) (wR _))) rfl (by first|exact fun _=>rfl|exact cA|exact cB fun _=>rfl) (by first|exact fun _=>rfl|exact cA|exact cB fun _=>rfl) ?_
  conv=>whnf
  refine⟨cN _,⟨by simpa using hl,rL _⟩,s.drop p.length,?_,?_⟩
  ·rw[List.take_of_length_le (by simp)];rfl
  conv=>whnf
  exact owes_wk (.refl _) (fun _=>rfl)
theorem c_CutPrefix [MaxL] (s p:By):SC Tryz.prog 79 [.s s,.s p] [] (.val (.tup [.s (if p.isPrefixOf s then s.drop p.length else s),.b (p.isPrefixOf s)])) []:=by
 refine gwS Tryz.func79 rfl ?_
 conv=>whnf
 refine callP (c_CutPrefixL s p) (by first|exact wR _|exact wC (Wk.sl _ _) (wR _)|exact wC (Wk.sl _ _) (wC (Wk.sl _ _) (wR _))|exact wC (Wk.refl _) (wC (Wk.sl _ _) (wR _))) rfl (by first|exact fun _=>rfl|exact cA|exact cB fun _=>rfl) (by first|exact fun _=>rfl|exact cA|exact cB fun _=>rfl) ?_
 conv=>whnf
 exact owes_wk (.refl _) (fun _=>rfl)
def lgAt (i:Nat) (c:UInt8):Bool:=if i=0 then isSmall c else isInner c
theorem letters_bad {l:By} {i:Nat} {c:UInt8} (h:l[i]?=some c) (hg:lgAt i c=false):letters l=false:=by
 unfold letters
 split
 ·rfl
 ·rename_i d t
  unfold lgAt at hg
  cases i with
  |zero=>
   simp at h;subst h
   rw[if_pos rfl] at hg
   rw[hg];rfl
  |succ i=>
   rw[if_neg (Nat.succ_ne_zero i)] at hg
   have:(d::t).all isInner=false:=List.all_eq_false.2 ⟨c,List.mem_of_getElem? h,by rw[hg];simp⟩
   rw[this,Bool.and_false]
theorem small_in {c:UInt8} (h:isSmall c=true):isInner c=true:=by unfold isInner;rw[h];rfl
theorem letters_good {l:By} (h:∀i c,l[i]?=some c->lgAt i c=true):letters l=decide (l≠[]):=by
 unfold letters
 split
 ·rfl
 ·rename_i d t
  have h0:=h 0 d rfl
  have h1:(d::t).all isInner=true:=List.all_eq_true.2 fun c hc=>by
   obtain⟨i,hi⟩:=List.mem_iff_getElem?.1 hc
   have:=h i c hi
   unfold lgAt at this
   split at this
   ·exact small_in this
   ·exact this
  have h2:isSmall d=true:=h0
  rw[h1,h2];rfl
theorem c_letters [MaxL] (l:By) (hl:l.length<=1000000):SC Tryz.prog 78 [.s l] [] (.val (.b (letters l))) []:=by
 refine gwS Tryz.func78 rfl ?_
 conv=>whnf
 refine GLoop.intro (fun i:Nat=>i<=l.length/\∀j c,j<i->l[j]?=some c->lgAt j c=true) (fun i=>[(0,.s l),(6,.i .i64 l.length),(7,.i .i64 i)]) (fun _=>⟨[],0,[]⟩) (fun i=>l.length - i) 0 ⟨zL _,fun j c hj=>absurd hj (Nat.not_lt_zero j)⟩ ⟨rfl,rfl,rfl,trivial⟩ rfl (fun i φ0 hi=>?_)
 obtain⟨hi,hall⟩:=hi
 conv=>whnf
 refine GIf.mk (fun h=>?_) (fun h=>?_)<;>conv=>whnf
 rotate_left
 ·have hie:i=l.length:=by have:=of_decide_eq_false h;omega
  refine owes_b ?_
  rw[letters_good fun j c hj=>hall j c (by rw[hie];exact(List.getElem?_eq_some_iff.1 hj).1) hj]
  cases l<;>rfl
 have hlt:i<l.length:=by have:=of_decide_eq_true h;omega
 obtain⟨c,hc⟩:∃c,l[i]?=some c:=⟨l[i],gL hlt⟩
 refine⟨cN _,c,by rw[Int.toNat_natCast];exact hc,?_⟩
 have bad:=letters_bad hc
 have nxt:lgAt i c=true->i+1<=l.length/\∀j d,j<i+1->l[j]?=some d->lgAt j d=true:=fun hg=>⟨hlt,fun j d hj hd=>by
  rcases Nat.lt_or_ge j i with q|q
  ·exact hall j d q hd
  ·have:j=i:=by omega
   subst this
   rw[hc] at hd;cases hd;exact hg⟩
 have hw:=wrap_succ (i:=i) (by omega)
 clear hall
 conv=>whnf
 repeat' ((refine GIf.mk (fun h=>?_) (fun h=>?_))<;>conv=>whnf)
 all_goals first
  |(refine owes_b (bad ?_).symm;clear bad nxt hc hw;unfold lgAt isInner isDigit isSmall;by_cases h0:i=0<;>simp[h0] at* <;>omega)
  |(refine GLoop.next (i+1) (nxt ?_) (by omega) ⟨rfl,rfl,hw,trivial⟩ rfl;clear bad nxt hc hw;unfold lgAt isInner isDigit isSmall;by_cases h0:i=0<;>simp[h0] at* <;>omega)
end Go.Proofs.YtldggonlkafckaaGreatDoor
