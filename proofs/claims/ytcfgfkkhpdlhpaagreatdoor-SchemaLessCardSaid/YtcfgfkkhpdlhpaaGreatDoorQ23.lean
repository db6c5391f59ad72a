/-
  A part of the proof of SchemaLess.
-/
import Derived.Test.YtcfgfkkhpdlhpaaGreatDoorQ22
import Derived.Test.YtcfgfkkhpdlhpaaGreatDoorQ18
import Derived.Lib.ItoaNum
import Derived.Lib.ItoaLen
set_option linter.all false
namespace Go.Proofs.YtcfgfkkhpdlhpaaGreatDoor
open Go.RowKit
set_option maxRecDepth 100000
set_option linter.unusedVariables false
def skip (l:List UInt8):List UInt8:=l.dropWhile (· ==32)
theorem skip_len (l:List UInt8):(skip l).length<=l.length:=(List.dropWhile_suffix (· ==32)).length_le
theorem wlen_pos (c:UInt8) (t:List UInt8):1<=wlen (c::t):=by
 simp only[wlen]
 split
 ·omega
 ·split
  ·omega
  ·split
   ·simp;omega
   ·omega
theorem wlen_le (l:List UInt8):wlen l<=l.length:=by
 cases l with
 |nil=>simp[wlen]
 |cons c t=>
  simp only[wlen]
  split
  ·rename_i h
   simp only[Bool.or_eq_true,List.isPrefixOf_iff_prefix] at h
   rcases h with(h|h)|h<;>(have:=h.length_le;simpa using this)
  ·split
   ·have:=(List.takeWhile_prefix (l:=t) isInner).length_le
    simp;omega
   ·split
    ·omega
    ·simp
def toks (l:List UInt8):List (List UInt8):=
 match h:skip l with
 |[]=>[]
 |c::t=>wrd (c::t)::toks ((c::t).drop (wlen (c::t)))
termination_by l.length
decreasing_by
 have h1:=skip_len l
 have h2:=wlen_pos c t
 rw[h] at h1
 simp at h1⊢;omega
theorem toks_nil {l:List UInt8} (h:skip l=[]):toks l=[]:=by
 rw[toks];split
 ·rfl
 ·rename_i h2;rw[h] at h2;cases h2
theorem toks_cons {l:List UInt8} {c:UInt8} {t:List UInt8} (h:skip l=c::t):toks l=wrd (c::t)::toks ((c::t).drop (wlen (c::t))):=by
 rw[toks];split
 ·rename_i h2;rw[h] at h2;cases h2
 ·rename_i c' t' h2;rw[h] at h2;cases h2;rfl
theorem skip_skip (l:List UInt8):skip (skip l)=skip l:=by
 induction l with
 |nil=>rfl
 |cons c t ih=>
  unfold skip at*
  rw[List.dropWhile_cons]
  split
  ·exact ih
  ·rename_i h;rw[List.dropWhile_cons,if_neg h]
theorem toks_skip (l:List UInt8):toks (skip l)=toks l:=by
 cases h:skip l with
 |nil=>rw[toks_nil h];exact toks_nil rfl
 |cons c t=>rw[toks_cons h,toks_cons (l:=c::t) (by rw[<-h,skip_skip])]
theorem drop_nb (s:List UInt8) (n:Nat):s.drop (nb s n)=skip (s.drop n):=by
 unfold nb skip
 rw[<-List.drop_drop]
 generalize s.drop n=l
 induction l with
 |nil=>rfl
 |cons c t ih=>
  rw[List.takeWhile_cons,List.dropWhile_cons]
  split
  ·simpa using ih
  ·simp
theorem nb_le {s:List UInt8} {n:Nat} (hn:n<=s.length):nb s n<=s.length:=by
 have:=(List.takeWhile_prefix (l:=s.drop n) (· ==32)).length_le
 simp at this;unfold nb;omega
def At (s:List UInt8) (n:Nat) (ts:List (List UInt8)):Prop:=n<=s.length/\toks (s.drop n)=ts
theorem At.nb {s:List UInt8} {n:Nat} {ts:List (List UInt8)} (h:At s n ts):At s (nb s n) ts:=⟨nb_le h.1,by rw[drop_nb,toks_skip];exact h.2⟩
theorem At.head {s:List UInt8} {n:Nat} {ts:List (List UInt8)} (h:At s n ts):wrd (s.drop (Go.Proofs.YtcfgfkkhpdlhpaaGreatDoor.nb s n))=ts.headD []:=by
 rw[drop_nb]
 cases hk:skip (s.drop n) with
 |nil=>rw[<-h.2,toks_nil hk];rfl
 |cons c t=>rw[<-h.2,toks_cons hk];rfl
theorem At.tail {s:List UInt8} {n:Nat} {w:List UInt8} {ts:List (List UInt8)} (h:At s n (w::ts)):1<=w.length/\At s (Go.Proofs.YtcfgfkkhpdlhpaaGreatDoor.nb s n+w.length) ts:=by
 have h2:=h.2
 have hd:=drop_nb s n
 cases hk:skip (s.drop n) with
 |nil=>rw[toks_nil hk] at h2;cases h2
 |cons c t=>
  rw[toks_cons hk] at h2
  cases h2
  rw[hk] at hd
  have hl:(wrd (c::t)).length=wlen (c::t):=by unfold wrd;rw[List.length_take];exact Nat.min_eq_left (wlen_le _)
  have hp:=wlen_pos c t
  have hle:=wlen_le (c::t)
  have hnl:=nb_le h.1
  have hlen:(s.drop (Go.Proofs.YtcfgfkkhpdlhpaaGreatDoor.nb s n)).length=(c::t).length:=by rw[hd]
  rw[List.length_drop] at hlen
  refine⟨by omega,by omega,?_⟩
  rw[<-List.drop_drop,hd,hl]
theorem c_word' [MaxL] (s:List UInt8) (n:Nat) (d:Int) {ts:List (List UInt8)} (h:At s n ts) (hs:s.length<most):
  SC Tryz.prog 258 [.ptr 0 0] [rd s n d] (.val (.s (ts.headD []))) [rd s (nb s n) d]:=by
 have:=c_word s n d h.1 hs
 rw[h.head] at this
 exact this
theorem take_yes [MaxL] (s:List UInt8) (n:Nat) (d:Int) {w:List UInt8} {ts:List (List UInt8)} (h:At s n (w::ts)) (hs:s.length<most):
  SC Tryz.prog 295 [.ptr 0 0,.s w] [rd s n d] (.val (.b true)) [rd s (nb s n+w.length) d]:=by
 have hw:=c_word' s n d h hs
 obtain⟨h1,h2,_⟩:=h.tail
 unfold most at hs
 refine gwS Tryz.func295 rfl ?_
 conv=>whnf
 refine pcB (q:=0) hw ?_
 conv=>whnf
 refine GIf.mk (fun hc=>?_) (fun hc=>?_)<;>conv=>whnf
 ·simp at hc
 ·refine⟨[.i .i64 (nb s n+w.length:Nat)],⟨?_,rL _,rfl,bL rfl⟩,?_⟩
  ·rw[wrap_in (by omega) (by omega)];rfl
  ·conv=>whnf
   exact owesB_b rfl rfl (fun _=>rfl)
theorem take_no [MaxL] (s:List UInt8) (n:Nat) (d:Int) {w:List UInt8} {ts:List (List UInt8)} (h:At s n ts) (hs:s.length<most) (hne:ts.headD []≠w):
  SC Tryz.prog 295 [.ptr 0 0,.s w] [rd s n d] (.val (.b false)) [rd s (nb s n) d]:=by
 have hw:=c_word' s n d h hs
 unfold most at hs
 refine gwS Tryz.func295 rfl ?_
 conv=>whnf
 refine pcB (q:=0) hw ?_
 conv=>whnf
 refine GIf.mk (fun hc=>?_) (fun hc=>?_)<;>conv=>whnf
 ·exact owesB_b rfl rfl (fun _=>rfl)
 ·exact absurd (by simpa using hc) hne
end Go.Proofs.YtcfgfkkhpdlhpaaGreatDoor
namespace Go.Proofs.YtcfgfkkhpdlhpaaGreatDoor
set_option linter.unusedVariables false
abbrev By:=List UInt8
structure Term where
 name:By
 var:Bool
 v:Val
 deriving DecidableEq
inductive Tree where
 |pair (a:Bool) (l r:Tree)
 |no (t:Tree)
 |test (op:By) (l r:Term)
 |truth (b:Bool)
def wOr:By:=[111,114]
def wAnd:By:=[97,110,100]
def wNot:By:=[110,111,116]
def wTrue:By:=[116,114,117,101]
def wFalse:By:=[102,97,108,115,101]
def rels:List By:=[[61],[60,62],[60],[60,61],[62],[62,61]]
def relop (w:By):Bool:=rels.contains w
def v0:Val:=⟨0,0,[]⟩
def termW (lit:By->Option Val):List By->Option (Term×List By)
 |[]=>none
 |w::ts=>
  if w=[58] then match termW lit ts with
   |some (t,r)=>if t.name=[]∨t.var=true then none else some (⟨t.name,true,t.v⟩,r)
   |none=>none
  else if isName w&&!kept.contains w then some (⟨w,false,v0⟩,ts)
  else match lit w with
   |some v=>some (⟨[],false,v⟩,ts)
   |none=>none
inductive Md where
 |or|orL (n:Tree)|and|andL (n:Tree)|not|prim
def Md.rk:Md->Nat
 |.or=>4
 |.and=>3
 |.not=>2
 |.prim=>1
 |_=>0
def pars (lit:By->Option Val):Nat->Md->Nat->Nat->List By->Option (Tree×List By×Nat)
 |0,_,_,_,_=>none
 |f+1,.or,lv,d,ts=>match pars lit f .and lv d ts with
  |some (n,r,e)=>pars lit f (.orL n) lv e r
  |none=>none
 |f+1,.orL n,lv,d,ts=>if ts.headD []=wOr then match pars lit f .and lv d ts.tail with
   |some (m,r,e)=>pars lit f (.orL (.pair false n m)) lv e r
   |none=>none
  else some (n,ts,d)
 |f+1,.and,lv,d,ts=>match pars lit f .not lv d ts with
  |some (n,r,e)=>pars lit f (.andL n) lv e r
  |none=>none
 |f+1,.andL n,lv,d,ts=>if ts.headD []=wAnd then match pars lit f .not lv d ts.tail with
   |some (m,r,e)=>pars lit f (.andL (.pair true n m)) lv e r
   |none=>none
  else some (n,ts,d)
 |f+1,.not,lv,d,ts=>if ts.headD []=wNot then match pars lit f .prim (lv+1) (max d (lv+1)) ts.tail with
   |some (n,r,e)=>some (.no n,r,e)
   |none=>none
  else pars lit f .prim lv d ts
 |f+1,.prim,lv,d,ts=>
  if ts.headD []=wTrue then some (.truth true,ts.tail,d)
  else if ts.headD []=wFalse then some (.truth false,ts.tail,d)
  else if ts.headD []=[40] then match pars lit f .or (lv+1) (max d (lv+1)) ts.tail with
   |some (n,r,e)=>if r.headD []=[41] then some (n,r.tail,e) else none
   |none=>none
  else match termW lit ts with
   |some (a,r)=>if relop (r.headD []) then match termW lit r.tail with
     |some (b,r')=>some (.test (r.headD []) a b,r',d)
     |none=>none
    else none
   |none=>none
theorem termW_len {lit:By->Option Val}:∀{ts r:List By} {t:Term},termW lit ts=some (t,r)->r.length<ts.length
 |[],r,t,h=>by cases h
 |w::ts,r,t,h=>by
  unfold termW at h
  split at h
  ·split at h
   ·rename_i h1
    split at h
    ·cases h
    ·cases h
     have:=termW_len h1
     simp;omega
   ·cases h
  ·split at h
   ·cases h;simp
   ·split at h
    ·cases h;simp
    ·cases h
def Md.loop:Md->Bool
 |.orL _=>true
 |.andL _=>true
 |_=>false
theorem head_ne {ts:List By} {w:By} (h:ts.headD []=w) (hw:w≠[]):∃r,ts=w::r:=by
 cases ts with
 |nil=>exact absurd h.symm hw
 |cons a r=>exact⟨r,by rw[<-h];rfl⟩
theorem pars_len {lit:By->Option Val}:∀(f:Nat) (m:Md) (lv d:Nat) (ts r:List By) (t:Tree) (e:Nat),pars lit f m lv d ts=some (t,r,e)->
  r.length<=ts.length/\(m.loop=false->r.length<ts.length)/\d<=e/\e<=max d (lv+ts.length)
 |0,m,lv,d,ts,r,t,e,h=>by cases h
 |f+1,.or,lv,d,ts,r,t,e,h=>by
  unfold pars at h
  split at h
  ·rename_i n r1 e1 h1
   have a:=pars_len f _ _ _ _ _ _ _ h1
   have b:=pars_len f _ _ _ _ _ _ _ h
   have a2:=a.2.1 rfl
   refine⟨?_,fun _=>?_,?_,?_⟩<;>omega
  ·cases h
 |f+1,.orL n,lv,d,ts,r,t,e,h=>by
  unfold pars at h
  split at h
  ·rename_i hd
   obtain⟨r0,rfl⟩:=head_ne hd (by decide)
   split at h
   ·rename_i n r1 e1 h1
    have a:=pars_len f _ _ _ _ _ _ _ h1
    have b:=pars_len f _ _ _ _ _ _ _ h
    simp only[List.tail_cons,List.length_cons] at*
    exact⟨by omega,(fun h=>by cases h),by omega,by omega⟩
   ·cases h
  ·cases h
   exact⟨rL _,(fun h=>by cases h),by omega,by omega⟩
 |f+1,.and,lv,d,ts,r,t,e,h=>by
  unfold pars at h
  split at h
  ·rename_i n r1 e1 h1
   have a:=pars_len f _ _ _ _ _ _ _ h1
   have b:=pars_len f _ _ _ _ _ _ _ h
   have a2:=a.2.1 rfl
   refine⟨?_,fun _=>?_,?_,?_⟩<;>omega
  ·cases h
 |f+1,.andL n,lv,d,ts,r,t,e,h=>by
  unfold pars at h
  split at h
  ·rename_i hd
   obtain⟨r0,rfl⟩:=head_ne hd (by decide)
   split at h
   ·rename_i n r1 e1 h1
    have a:=pars_len f _ _ _ _ _ _ _ h1
    have b:=pars_len f _ _ _ _ _ _ _ h
    simp only[List.tail_cons,List.length_cons] at*
    exact⟨by omega,(fun h=>by cases h),by omega,by omega⟩
   ·cases h
  ·cases h
   exact⟨rL _,(fun h=>by cases h),by omega,by omega⟩
 |f+1,.not,lv,d,ts,r,t,e,h=>by
  unfold pars at h
  split at h
  ·rename_i hd
   obtain⟨r0,rfl⟩:=head_ne hd (by decide)
   split at h
   ·rename_i n r1 e1 h1
    cases h
    have a:=pars_len f _ _ _ _ _ _ _ h1
    have a2:=a.2.1 rfl
    simp only[List.tail_cons,List.length_cons] at*
    refine⟨?_,fun _=>?_,?_,?_⟩<;>omega
   ·cases h
  ·have a:=pars_len f _ _ _ _ _ _ _ h
   exact⟨a.1,fun _=>a.2.1 rfl,a.2.2⟩
 |f+1,.prim,lv,d,ts,r,t,e,h=>by
  unfold pars at h
  split at h
  ·rename_i hd
   obtain⟨r0,rfl⟩:=head_ne hd (by decide)
   cases h
   simp only[List.tail_cons,List.length_cons] at*
   refine⟨?_,fun _=>?_,?_,?_⟩<;>omega
  ·split at h
   ·rename_i hd
    obtain⟨r0,rfl⟩:=head_ne hd (by decide)
    cases h
    simp only[List.tail_cons,List.length_cons] at*
    refine⟨?_,fun _=>?_,?_,?_⟩<;>omega
   ·split at h
    ·rename_i hd
     obtain⟨r0,rfl⟩:=head_ne hd (by decide)
     split at h
     ·rename_i n r1 e1 h1
      have a:=pars_len f _ _ _ _ _ _ _ h1
      have a2:=a.2.1 rfl
      split at h
      ·rename_i hr
       obtain⟨r2,rfl⟩:=head_ne hr (by decide)
       cases h
       simp only[List.tail_cons,List.length_cons] at*
       refine⟨?_,fun _=>?_,?_,?_⟩<;>omega
      ·cases h
     ·cases h
    ·split at h
     ·rename_i a r1 h1
      have l1:=termW_len h1
      split at h
      ·split at h
       ·rename_i b r2 h2
        have l2:=termW_len h2
        cases h
        simp only[List.length_tail] at*
        refine⟨?_,fun _=>?_,?_,?_⟩<;>omega
       ·cases h
      ·cases h
     ·cases h
def hexd (n:Nat):UInt8:=if n<10 then UInt8.ofNat (48+n) else UInt8.ofNat (87+n)
def esc (c:UInt8):By:=if c=34∨c=92 then[92,c] else if c.toNat<32∨126<c.toNat then[92,120,hexd (c.toNat / 16),hexd (c.toNat%16)] else[c]
def quoted (s:By):By:=34::(s.flatMap esc++[34])
def written (v:Val):By:=if v.k=1 then Lib.itoa v.n else quoted v.s
def litT (v:Val):By:=if v.ok then written v else[]
def Term.txt (t:Term):By:=if t.var then 58::t.name else if t.name≠[] then t.name else litT t.v
def opn (a:Bool):Nat:=if a then 2 else 1
def Tree.level:Tree->Nat
 |.pair a _ _=>opn a
 |.no _=>3
 |.test _ _ _=>4
 |.truth _=>4
def sep (a:Bool):By:=if a then 32::(wAnd++[32]) else 32::(wOr++[32])
def paren (b:Bool) (s:By):By:=if b then 40::(s++[41]) else s
def Tree.plain:Tree->By
 |.pair a l r=>paren (decide (l.level<opn a)) l.plain++sep a++paren (decide (r.level<opn a)) r.plain
 |.no t=>wNot++[32]++paren (decide (t.level<4)) t.plain
 |.test op l r=>l.txt++[32]++op++[32]++r.txt
 |.truth b=>if b then wTrue else wFalse
def Tree.deep:Tree->Nat->Nat
 |.pair a l r,k=>(if opn a<k then 1 else 0)+max (l.deep (opn a)) (r.deep (opn a))
 |.no t,k=>(if 3<k then 1 else 0)+1+t.deep 4
 |_,k=>if 4<k then 1 else 0
def joinA (a:Bool):Option Tree->Tree->Tree
 |none,t=>t
 |some x,t=>.pair a x t
def flatA (a:Bool) (acc:Option Tree):Tree->Tree
 |.pair b l r=>if a=b then flatA a (some (flatA a acc l)) r else joinA a acc (flatA b (some (flatA b none l)) r)
 |.no t=>joinA a acc (.no (flatA true none t))
 |t=>joinA a acc t
def Tree.flat (t:Tree):Tree:=flatA true none t
def Tree.sides (a:Bool):Tree->List Tree
 |.pair b l r=>if a=b then l.sides a++r.sides a else[.pair b l r]
 |t=>[t]
theorem flatA_none (a b:Bool) (t:Tree):flatA a none t=flatA b none t:=by
 cases t with
 |pair c l r=>
  unfold flatA
  cases a<;>cases b<;>cases c<;>rfl
 |_=>rfl
theorem flat_eq (a:Bool) (t:Tree):t.flat=flatA a none t:=flatA_none true a t
theorem flatA_sides (a:Bool):∀(t:Tree) (acc:Option Tree),some (flatA a acc t)=(t.sides a).foldl (fun q x=>some (joinA a q x.flat)) acc
 |.pair b l r,acc=>by
  unfold flatA Tree.sides
  by_cases h:a=b
  ·rw[if_pos h,if_pos h,List.foldl_append,<-flatA_sides a l acc,<-flatA_sides a r]
  ·rw[if_neg h,if_neg h]
   show _=some (joinA a acc (Tree.pair b l r).flat)
   rw[flat_eq b]
   congr 2
   conv=>rhs;unfold flatA
   rw[if_pos rfl]
 |.no t,acc=>rfl
 |.test _ _ _,acc=>rfl
 |.truth _,acc=>rfl
theorem sides_ne (a:Bool) (t:Tree):t.sides a≠[]:=by
 induction t with
 |pair b l r ihl ihr=>
  unfold Tree.sides
  split
  ·simp[ihl]
  ·simp
 |_=>simp[Tree.sides]
def Tree.size:Tree->Nat
 |.pair _ l r=>l.size+r.size+1
 |.no t=>t.size+1
 |_=>1
theorem sides_size {a:Bool}:∀{t x:Tree},x∈t.sides a->x.size<=t.size
 |.pair b l r,x,h=>by
  unfold Tree.sides at h
  split at h
  ·rcases List.mem_append.1 h with h|h
   ·have:=sides_size h;simp only[Tree.size];omega
   ·have:=sides_size h;simp only[Tree.size];omega
  ·simp at h;subst h;exact rL _
 |.no t,x,h=>by simp[Tree.sides] at h;subst h;exact rL _
 |.test _ _ _,x,h=>by simp[Tree.sides] at h;subst h;exact rL _
 |.truth _,x,h=>by simp[Tree.sides] at h;subst h;exact rL _
theorem sides_lt {a:Bool} {l r x:Tree} (h:x∈(Tree.pair a l r).sides a):x.size<(Tree.pair a l r).size:=by
 unfold Tree.sides at h
 rw[if_pos rfl] at h
 rcases List.mem_append.1 h with h|h
 ·have:=sides_size h;simp only[Tree.size];omega
 ·have:=sides_size h;simp only[Tree.size];omega
theorem flat_pair (a:Bool) (l r:Tree):∃x xs,(Tree.pair a l r).sides a=x::xs/\(Tree.pair a l r).flat=xs.foldl (fun q y=>.pair a q y.flat) x.flat:=by
 cases h:(Tree.pair a l r).sides a with
 |nil=>exact absurd h (sides_ne _ _)
 |cons x xs=>
  refine⟨x,xs,rfl,?_⟩
  have:=flatA_sides a (.pair a l r) none
  rw[h] at this
  rw[flat_eq a]
  have key:∀(ys:List Tree) (q:Tree),ys.foldl (fun q x=>some (joinA a q x.flat)) (some q)=some (ys.foldl (fun q y=>.pair a q y.flat) q):=by
   intro ys
   induction ys with
   |nil=>intro q;rfl
   |cons y ys ih=>intro q;exact ih _
  rw[List.foldl_cons] at this
  rw[show(joinA a none x.flat)=x.flat from rfl,key] at this
  exact Option.some.inj this
open Go.RowKit
set_option maxRecDepth 100000
theorem c_escaped [MaxL] (l:List UInt8):SC Tryz.prog 331 [.s l] [] (.val (.fn (.func 340) [] [.ptr 0 0])) [.box 9 [.s l]]:=by
 refine SC.of_gwp noM mixed Tryz.func331 rfl (bL rfl) (by simp) rfl ?_
 conv=>whnf
 refine⟨[0],Lies.one rfl (fun _=>rfl) (by simp),fun i hi=>absurd hi (Nat.not_lt_zero i),?_⟩
 show Wk _ (GV.fn _ [] [.ptr (emb [0] 1 0) 0])
 rw[emb_lt (by simp)];exact .refl _
def hexs:List UInt8:=[48,49,50,51,52,53,54,55,56,57,97,98,99,100,101,102]
theorem hx_hi:∀n:Fin 256,0<=((n:Nat):Int).fdiv (2^min (Int.toNat 4) IntKind.u8.bits)/\hexs[(((n:Nat):Int).fdiv (2^min (Int.toNat 4) IntKind.u8.bits)).toNat]?=some (hexd ((n:Nat) / 16))/\
  (Utf8.encode ((hexd ((n:Nat) / 16)).toNat:Int)).data.toList=[hexd ((n:Nat) / 16)]:=by decide+kernel
theorem hx_lo:∀n:Fin 256,0<=bits .and .u8 ((n:Nat):Int) 15/\hexs[(bits .and .u8 ((n:Nat):Int) 15).toNat]?=some (hexd ((n:Nat)%16))/\
  (Utf8.encode ((hexd ((n:Nat)%16)).toNat:Int)).data.toList=[hexd ((n:Nat)%16)]:=by decide+kernel
theorem esc_len (l:List UInt8):(l.flatMap esc).length<=4*l.length:=by
 induction l with
 |nil=>simp
 |cons c l ih=>
  rw[List.flatMap_cons,List.length_append,List.length_cons]
  have:(esc c).length<=4:=by unfold esc;split;simp;split<;>simp
  omega
def wrO (vc:List GV) (s:List UInt8) (L:GObj) (bs:List UInt8):List GObj:=[.box 138 vc,bldAt 1 2 bs,ownB bs.length,.box 9 [.s s],.dfr,L]
theorem c_escaped1 [MaxL] (vc:List GV) (s:List UInt8) (L:GObj) (hL:L.notHeld=true) (hs:s.length<100000) (bs0:List UInt8) (h0:bs0.length<100)
  (hb:∀bs e:List UInt8,bs.length+e.length<1000000000->Fact Tryz.prog (.yld 5) [.s e] ⟨wrO vc s L bs,0,[]⟩ (.val (.b true)) ⟨wrO vc s L (bs++e),0,[]⟩):
  SC Tryz.prog 340 [.yld 5,.ptr 3 0] (wrO vc s L bs0) (.val (.tup [])) (wrO vc s L (bs0++s.flatMap esc)):=by
 refine SC.of_gwp noM mixed Tryz.func340 rfl (bL rfl) (by simp[wrO]) (by simp only[wrO,List.all_cons,hL];rfl) ?_
 conv=>whnf
 refine GLoop.intro (fun i:Nat=>i<=s.length) (fun i=>[(0,.yld 5),(1,.ptr 3 0),(7,.i .i64 s.length),(8,.i .i64 i)]) (fun i=>⟨wrO vc s L (bs0++(s.take i).flatMap esc),0,[]⟩) (fun i=>s.length - i) 0 (zL _) ⟨rfl,rfl,rfl,rfl,trivial⟩ (by simp) (fun i φ0 hi=>?_)
 conv=>whnf
 refine GIf.mk (fun h=>?_) (fun h=>?_)<;>conv=>whnf
 ·have hlt:i<s.length:=by simp at h;omega
  have hgi:s[i]?=some (s.getD i 0):=by rw[List.getD_eq_getElem?_getD,gL hlt];rfl
  have htk:(s.take (i+1)).flatMap esc=(s.take i).flatMap esc++esc (s.getD i 0):=by
   rw[List.take_add_one,hgi,List.flatMap_append];simp
  have hlen:((s.take i).flatMap esc).length<=4*i:=by
   have:=esc_len (s.take i)
   rw[List.length_take] at this;omega
  have w1:IntKind.i64.wrap ((i:Int)+1)=((i+1:Nat):Int):=wrap_in (by omega) (by omega)
  generalize hc:s.getD i 0=c at*
  refine⟨cN _,?_⟩
  conv=>whnf
  refine⟨by rw[w1];omega,?_⟩
  conv=>whnf
  refine⟨⟨by rw[w1];omega,by rw[w1];omega⟩,[c],?_,?_⟩
  ·rw[w1,Int.toNat_natCast,Int.toNat_natCast,List.drop_eq_getElem_cons hlt,show i+1 - i=1 by omega]
   rw[gL hlt] at hgi
   cases hgi;rfl
  conv=>whnf
  refine⟨cN _,c,by simpa using hgi,?_⟩
  conv=>whnf
  refine GIf.mk (fun h34=>?_) (fun h34=>?_)<;>conv=>whnf
  ·refine⟨by simp[slim],[92,c],rfl,?_⟩
   conv=>whnf
   refine callY (hb _ [92,c] (by rw[List.length_append];simp only[List.length_cons,List.length_nil];omega)) ?_
   conv=>whnf
   refine GLoop.next (i+1) hlt (by omega) ⟨rfl,rfl,rfl,wrap_succ (by omega),trivial⟩ ?_
   rw[htk,<-List.append_assoc,show esc c=[92,c] from if_pos (.inl (u8_eq (d:=34) h34))]
  refine GIf.mk (fun h92=>?_) (fun h92=>?_)<;>conv=>whnf
  ·refine⟨by simp[slim],[92,c],rfl,?_⟩
   conv=>whnf
   refine callY (hb _ [92,c] (by rw[List.length_append];simp only[List.length_cons,List.length_nil];omega)) ?_
   conv=>whnf
   refine GLoop.next (i+1) hlt (by omega) ⟨rfl,rfl,rfl,wrap_succ (by omega),trivial⟩ ?_
   rw[htk,<-List.append_assoc,show esc c=[92,c] from if_pos (.inr (u8_eq (d:=92) h92))]
  have hn34:=u8_ne (d:=34) h34
  have hn92:=u8_ne (d:=92) h92
  have e1:∀{x y:List UInt8},(if c=34∨c=92 then x else y)=y:=fun{x y}=>if_neg (by simp[hn34,hn92])
  refine GIf.mk (fun h32=>?_) (fun h32=>?_)<;>conv=>whnf
  ·skip
   refine GDraw.calm (by kernel_rfl) ?_
   conv=>whnf
   refine⟨by decide,?_⟩
   conv=>whnf
   refine⟨(hx_hi ⟨c.toNat,UInt8.toNat_lt c⟩).1,hexd (c.toNat / 16),(hx_hi ⟨c.toNat,UInt8.toNat_lt c⟩).2.1,?_⟩
   conv=>whnf
   refine⟨by rw[(hx_hi ⟨c.toNat,UInt8.toNat_lt c⟩).2.2];simp[slim],[92,120,hexd (c.toNat / 16)],by rw[(hx_hi ⟨c.toNat,UInt8.toNat_lt c⟩).2.2];rfl,?_⟩
   conv=>whnf
   refine⟨(hx_lo ⟨c.toNat,UInt8.toNat_lt c⟩).1,hexd (c.toNat%16),(hx_lo ⟨c.toNat,UInt8.toNat_lt c⟩).2.1,?_⟩
   conv=>whnf
   refine⟨by rw[(hx_lo ⟨c.toNat,UInt8.toNat_lt c⟩).2.2];simp[slim],[92,120,hexd (c.toNat / 16),hexd (c.toNat%16)],by rw[(hx_lo ⟨c.toNat,UInt8.toNat_lt c⟩).2.2];rfl,?_⟩
   conv=>whnf
   refine callY (hb _ [92,120,hexd (c.toNat / 16),hexd (c.toNat%16)] (by rw[List.length_append];simp only[List.length_cons,List.length_nil];omega)) ?_
   conv=>whnf
   refine GLoop.next (i+1) hlt (by omega) ⟨rfl,rfl,rfl,wrap_succ (by omega),trivial⟩ ?_
   rw[htk,<-List.append_assoc,show esc c=[92,120,hexd (c.toNat / 16),hexd (c.toNat%16)] from(e1).trans (if_pos (by simp at h32;omega))]
  refine GIf.mk (fun h126=>?_) (fun h126=>?_)<;>conv=>whnf
  ·skip
   refine GDraw.calm (by kernel_rfl) ?_
   conv=>whnf
   refine⟨by decide,?_⟩
   conv=>whnf
   refine⟨(hx_hi ⟨c.toNat,UInt8.toNat_lt c⟩).1,hexd (c.toNat / 16),(hx_hi ⟨c.toNat,UInt8.toNat_lt c⟩).2.1,?_⟩
   conv=>whnf
   refine⟨by rw[(hx_hi ⟨c.toNat,UInt8.toNat_lt c⟩).2.2];simp[slim],[92,120,hexd (c.toNat / 16)],by rw[(hx_hi ⟨c.toNat,UInt8.toNat_lt c⟩).2.2];rfl,?_⟩
   conv=>whnf
   refine⟨(hx_lo ⟨c.toNat,UInt8.toNat_lt c⟩).1,hexd (c.toNat%16),(hx_lo ⟨c.toNat,UInt8.toNat_lt c⟩).2.1,?_⟩
   conv=>whnf
   refine⟨by rw[(hx_lo ⟨c.toNat,UInt8.toNat_lt c⟩).2.2];simp[slim],[92,120,hexd (c.toNat / 16),hexd (c.toNat%16)],by rw[(hx_lo ⟨c.toNat,UInt8.toNat_lt c⟩).2.2];rfl,?_⟩
   conv=>whnf
   refine callY (hb _ [92,120,hexd (c.toNat / 16),hexd (c.toNat%16)] (by rw[List.length_append];simp only[List.length_cons,List.length_nil];omega)) ?_
   conv=>whnf
   refine GLoop.next (i+1) hlt (by omega) ⟨rfl,rfl,rfl,wrap_succ (by omega),trivial⟩ ?_
   rw[htk,<-List.append_assoc,show esc c=[92,120,hexd (c.toNat / 16),hexd (c.toNat%16)] from(e1).trans (if_pos (by simp at h126;omega))]
  refine callY (hb _ [c] (by rw[List.length_append];simp only[List.length_cons,List.length_nil];omega)) ?_
  conv=>whnf
  refine GLoop.next (i+1) hlt (by omega) ⟨rfl,rfl,rfl,wrap_succ (by omega),trivial⟩ ?_
  rw[htk,<-List.append_assoc,show esc c=[c] from(e1).trans (if_neg (by simp at h32 h126;omega))]
 ·have:i=s.length:=by simp at h;omega
  subst this
  rw[List.take_length]
  refine⟨List.range 6,Lies.all (wrO vc s L (bs0++s.flatMap esc)) (fun x hx e=>?_),fun j hj=>?_,?_⟩
  ·subst e
   simp[wrO,bldAt,ownB] at hx
   subst hx;cases hL
  ·have:j<6:=hj
   simp[this]
  ·exact .refl _
theorem c_written [MaxL] (v:Val) (hv:v.s.length<100000) (h0: -9223372036854775808<=v.n) (h1:v.n<=9223372036854775807):SC Tryz.prog 320 [v.gv] [] (.val (.s (written v))) []:=by
 obtain⟨k,n,s⟩:=v
 refine gwS Tryz.func320 rfl ?_
 conv=>whnf
 refine GIf.mk (fun hk=>?_) (fun hk=>?_)<;>conv=>whnf
 ·have:k=1:=by simpa using hk
  subst this
  refine pcP (c_Itoa n h0 h1) ?_
  conv=>whnf
  exact owes_s rfl
 ·have:k≠1:=by simpa using hk
  refine callG (c_WriteByteN 34) [1] (objs':=[.box 138 [.i .i64 k,.i .i64 n,.s s],bldAt 1 2 [34],ownB 1]) (Lies.one' rfl (by simp[bldN])) (wR _) rfl rfl rfl rfl ?_
  conv=>whnf
  refine callG (c_escaped s) [] (objs':=[.box 138 [.i .i64 k,.i .i64 n,.s s],bldAt 1 2 [34],ownB 1,.box 9 [.s s]]) Lies.nil (wR _) rfl rfl rfl rfl ?_
  conv=>whnf
  have hv':s.length<100000:=hv
  refine⟨.val (.tup []),⟨wrO [.i .i64 k,.i .i64 n,.s s] s (.loop .ready none _ _ _ _ _ 4) ([34]++s.flatMap esc),0,[.coll 4]⟩,SC.factAll (c_escaped1 [.i .i64 k,.i .i64 n,.s s] s (.loop .ready none _ _ _ _ _ 4) rfl (by omega) [34] (by simp) (fun bs e hl=>?hb)) rfl rfl ?hh,?_⟩
  case hb=>
   refine Fact.yld noM mixed (r:=5) rfl rfl (by kernel_rfl) rfl rfl (rL _) rfl rfl ?_
   conv=>whnf
   refine callWSr hl rfl ?_
   conv=>whnf
   rfl
  case hh=>
   intro x hx e
   subst e
   simp[wrO,bldAt,ownB] at hx
  have hlen:=esc_len s
  conv=>whnf
  refine callWBr (bs:=[34]++s.flatMap esc) (c:=34) (by rw[List.length_append];simp only[List.length_cons,List.length_nil];omega) rfl ?_
  conv=>whnf
  refine callStrr (M:=fun _=>false) (c:=34) (t:=s.flatMap esc++[34]) (by rw[List.length_append];simp only[List.length_cons,List.length_nil];omega) rfl ?_
  conv=>whnf
  refine owes_s ?_
  unfold written
  rw[if_neg this];rfl
def rowText (vs:List Val):List UInt8:=Lib.join (vs.map written) [44]
theorem ok_in {v:Val} (h:v.ok=true): -1000000000<=v.n/\v.n<=1000000000/\v.s.length<=40:=by
 simp[Val.ok] at h
 rcases h with⟨⟨⟨_,h1⟩,h2⟩,h3⟩|⟨⟨_,h2⟩,h3⟩
 ·refine⟨h2,h3,by rw[h1];simp⟩
 ·refine⟨by omega,by omega,h3⟩
theorem ren_own [MaxL] {e:Nat->Nat} {r:Nat} {l:List GV} (h:e r=r) (hl:ClL l):(GV.sl (.own r) l).ren e=.sl (.own r) l:=by
 rw[GV.ren,renL_map,hl e];show GV.sl (.own (e r)) l=_;rw[h]
def ow (T:TypeId) (k:Nat):Nat->GObj
 |0=>.own 0 0 0
 |i+1=>.own (i+1) k T
theorem ow_ren [MaxL] (T:TypeId) (k i:Nat) (f:Nat->Nat):(ow T k i).ren f=ow T k i:=by cases i<;>rfl
theorem ow_held (T:TypeId) (k i:Nat):(ow T k i).notHeld=true:=by cases i<;>rfl
def txts (vs:List Val):List GV:=vs.map fun v=>.s (written v)
theorem join_le (l:List (List UInt8)) (sep:List UInt8) (b:Nat) (h:∀x∈l,x.length<=b):(Lib.join l sep).length<=(b+sep.length)*l.length:=by
 have hl:∀l:List (List UInt8),(∀x∈l,x.length<=b)->Lib.lens l<=b*l.length:=by
  intro l
  induction l with
  |nil=>intro _;simp[Lib.lens]
  |cons x r ih=>
   intro h
   have h1:=h x (by simp)
   have h2:=ih fun y hy=>h y (by simp[hy])
   have e:Lib.lens (x::r)=x.length+Lib.lens r:=by simp[Lib.lens]
   rw[e,List.length_cons,Nat.mul_add];omega
 cases l with
 |nil=>simp[Lib.join]
 |cons x r=>
  rw[Lib.join_length]
  have:=hl _ h
  have e:(b+sep.length)*(x::r).length=b*(x::r).length+sep.length*(r.length+1):=by rw[Nat.add_mul,List.length_cons]
  rw[e,Nat.mul_add];omega
theorem txts_ok (vs:List Val):(txts vs).all (fun x=>x.cells.length==1)=true:=by
 rw[List.all_eq_true];intro x hx
 obtain⟨v,_,rfl⟩:=List.mem_map.1 hx
 rfl
theorem c_ItemText [MaxL] (vs:List Val) (hb:vs.length<most):SC Tryz.prog 301 [.sl .none (valsG vs)] [] (.val (.s (if rowOk vs then rowText vs else[]))) []:=by
 refine gwS Tryz.func301 rfl ?_
 conv=>whnf
 refine callP (c_ValidRow vs hb) (wR _) rfl (cC (Cl.sl (valsG_cl vs)) (fun _=>rfl)) (.b _) ?_
 conv=>whnf
 by_cases hok:rowOk vs=true
 ·rw[hok]
  conv=>whnf
  have hok':=hok
  simp only[rowOk,Bool.and_eq_true,decide_eq_true_eq] at hok'
  obtain⟨h8,hall⟩:=hok'
  rw[List.all_eq_true] at hall
  refine GLoop.introS (fun i:Nat=>i<=vs.length) (fun i=>[(3,.sl (.own 0) (txts (vs.take i))),(9,.sl .none (valsG vs)),(10,.i .i64 (valsG vs).length),(11,.i .i64 i)])
   (fun i=>⟨[ow 9 1 i],0,[]⟩) (fun i=>vs.length - i) 0 (zL _) ⟨rfl,rfl,rfl,rfl,trivial⟩ rfl (fun _ _=>rL _) (fun i _=>by simp[ow_held]) (fun i _ e he=>?_) (fun i φ0 hi=>?_)
  ·refine⟨by simp[ow_ren],rfl,?_⟩
   show[(GV.sl (.own 0) (txts (vs.take i))).ren e,(GV.sl .none (valsG vs)).ren e,_,_]=_
   rw[ren_own (he 0 (by simp)) (l:=txts (vs.take i)) (ClL.mapOf (fun _=>Cl.s _) _),Cl.sl (valsG_cl vs) e];rfl
  conv=>whnf
  refine GIf.mk (fun h=>?_) (fun h=>?_)<;>conv=>whnf
  ·have hlt:i<vs.length:=by simp[valsG] at h;omega
   have hgi:vs[i]?=some (vs.getD i ⟨0,0,[]⟩):=by rw[List.getD_eq_getElem?_getD,gL hlt];rfl
   have hin:=ok_in (hall _ (List.mem_of_getElem? hgi))
   have htk:txts (vs.take (i+1))=txts (vs.take i)++[.s (written (vs.getD i ⟨0,0,[]⟩))]:=by
    rw[List.take_add_one,hgi];simp[txts]
   generalize vs.getD i ⟨0,0,[]⟩=v at*
   refine⟨cN _,v.gv,by simp[valsG,hgi],rfl,?_⟩
   conv=>whnf
   refine⟨_,⟨rfl,zL _,rfl,bL rfl⟩,?_⟩
   conv=>whnf
   refine callP (c_written v (by omega) (by omega) (by omega)) (wR _) rfl (fun _=>rfl) (.s _) ?_
   conv=>whnf
   have hlen:(txts (vs.take i)).length=i:=by simp[txts];omega
   cases i with
   |zero=>
    refine⟨⟨rfl,rfl,bL rfl⟩,txts (vs.take 1),1,⟨htk,rfl⟩,?_⟩
    conv=>whnf
    refine⟨⟨zL _,rfl,.inr ⟨rfl,rfl⟩⟩,?_⟩
    conv=>whnf
    exact⟨vs.length - 1,(by show _<vs.length - 0;omega),1,hlt,rfl,⟨rfl,rfl,rfl,rfl,trivial⟩,_,rfl,rfl⟩
   |succ j=>
    refine⟨⟨rfl,txts_ok _,by show(txts (vs.take (j+1))).length+1<=4294967296;omega⟩,txts (vs.take (j+1+1)),j+1+1,⟨htk,by show _=(txts (vs.take (j+1))).length+1;omega⟩,?_⟩
    conv=>whnf
    refine⟨⟨zL _,by rw[hlen],.inl ⟨rfl,rfl⟩⟩,?_⟩
    conv=>whnf
    exact⟨vs.length - (j+1+1),(by show _<vs.length - (j+1);omega),j+1+1,hlt,rfl,⟨rfl,rfl,rfl,wrap_succ (by omega),trivial⟩,_,rfl,rfl⟩
  ·have:i=vs.length:=by simp[valsG] at h;omega
   subst this
   rw[List.take_length]
   have e:txts vs=(vs.map written).map .s:=by simp[txts]
   rw[e]
   have hlw:∀x∈vs.map written,x.length<=170:=fun x hx=>by
    obtain⟨v,hv,rfl⟩:=List.mem_map.1 hx
    have:=ok_in (hall v hv)
    unfold written
    split
    ·have:=Lib.itoa_length_le v.n (by omega) (by omega);omega
    ·have:=esc_len v.s
     simp only[quoted,List.length_cons,List.length_append,List.length_nil];omega
   refine callP (c_Join (vs.map written) [44] (by simp;omega) ?_) (wC (Wk.sl _ _) (wR _)) rfl (cC (Cl.sl (ClL.mapOf Cl.s _)) (fun _=>rfl)) (.s _) ?_
   ·exact Nat.le_trans (join_le (vs.map written) [44] 170 hlw) (by simp;omega)
   conv=>whnf
   exact owes_s rfl
 ·rw[Bool.not_eq_true] at hok
  rw[hok]
  exact owes_s rfl
end Go.Proofs.YtcfgfkkhpdlhpaaGreatDoor
