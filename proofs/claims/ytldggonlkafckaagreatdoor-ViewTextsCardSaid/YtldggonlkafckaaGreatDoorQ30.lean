/-
  A part of the proof of ViewTexts.
-/
import Derived.Test.YtldggonlkafckaaGreatDoorQ29
import Derived.Shelf.Spec.SlicesGrow
import Derived.Test.YtldggonlkafckaaGreatDoorQ18
import Derived.Laws.AppendOwn
set_option linter.all false
namespace Go.Proofs.YtldggonlkafckaaGreatDoor
open Go.RowKit
set_option maxRecDepth 100000
set_option linter.unusedVariables false
theorem four [MaxL] (s:List UInt8) (hs:s.length<=20000):∀f,Four s f:=by
 have hm:s.length<most:=by unfold most;omega
 intro f
 induction f using Nat.strongRecOn with
 |ind f ih=>
 intro lv d n ts h hb
 cases f with
 |zero=>exact⟨fun h=>by omega,fun h=>by omega,fun h=>by omega,fun h=>by omega⟩
 |succ f=>
 have IH:∀g,g<=f->Four s g:=fun g hg=>ih g (by omega)
 obtain⟨_,iand,inot,iprim⟩:=IH f (rL _) lv d n ts h hb
 refine⟨fun hf=>?_,fun hf=>?_,fun hf=>?_,fun hf=>?_⟩
 ·obtain⟨m1,hm1,hc1⟩:=iand (by omega)
  cases hp:pars litP f .and lv d ts with
  |none=>
   rw[hp] at hc1
   have e:pars litP (f+1) .or lv d ts=none:=by
    conv=>lhs;unfold pars
    rw[hp]
   rw[e]
   exact⟨0,(fun _ _ _ h=>by cases h),c_or_pan s lv n d hc1⟩
  |some p=>
   obtain⟨t1,r1,e1⟩:=p
   rw[hp] at hc1
   have e:pars litP (f+1) .or lv d ts=pars litP f (.orL t1) lv e1 r1:=by
    conv=>lhs;unfold pars
    rw[hp]
   have hlen:=pars_len _ _ _ _ _ _ _ _ hp
   have hl3:=hlen.2.1 rfl
   obtain⟨m2,j,hm2,hl⟩:=lp_or s f IH f t1 lv e1 m1 r1 (rL _) (hm1 _ _ _ hp) (by omega) (by omega)
   rw[e]
   exact⟨m2,hm2,c_or s hm lv n d m1 e1 j t1 _ hc1 hl⟩
 ·obtain⟨m1,hm1,hc1⟩:=inot (by omega)
  cases hp:pars litP f .not lv d ts with
  |none=>
   rw[hp] at hc1
   have e:pars litP (f+1) .and lv d ts=none:=by
    conv=>lhs;unfold pars
    rw[hp]
   rw[e]
   exact⟨0,(fun _ _ _ h=>by cases h),c_and_pan s lv n d hc1⟩
  |some p=>
   obtain⟨t1,r1,e1⟩:=p
   rw[hp] at hc1
   have e:pars litP (f+1) .and lv d ts=pars litP f (.andL t1) lv e1 r1:=by
    conv=>lhs;unfold pars
    rw[hp]
   have hlen:=pars_len _ _ _ _ _ _ _ _ hp
   have hl3:=hlen.2.1 rfl
   obtain⟨m2,j,hm2,hl⟩:=lp_and s f IH f t1 lv e1 m1 r1 (rL _) (hm1 _ _ _ hp) (by omega) (by omega)
   rw[e]
   exact⟨m2,hm2,c_and s hm lv n d m1 e1 j t1 _ hc1 hl⟩
 ·by_cases hw:ts.headD []=wNot
  ·obtain⟨r,rfl⟩:=head_ne hw (by decide)
   simp only[List.length_cons] at hb hf
   obtain⟨_,_,_,ip⟩:=IH f (rL _) (lv+1) (max d (lv+1)) (nb s n+wNot.length) r h.tail.2 (by omega)
   obtain⟨m1,hm1,hc1⟩:=ip (by omega)
   have e:pars litP (f+1) .not lv d (wNot::r)=(pars litP f .prim (lv+1) (max d (lv+1)) r).map fun p=>(.no p.1,p.2.1,p.2.2):=by
    conv=>lhs;unfold pars
    rw[if_pos hw]
    show(match pars litP f .prim (lv+1) (max d (lv+1)) r with|some (n,r,e)=>_|none=>_)=_
    cases pars litP f .prim (lv+1) (max d (lv+1)) r<;>rfl
   rw[e]
   refine⟨m1,fun t r' e' he=>?_,?_⟩
   ·rw[Option.map_eq_some_iff] at he
    obtain⟨⟨t0,r0,e0⟩,h1,h2⟩:=he
    cases h2
    exact hm1 _ _ _ h1
   ·have:=c_not_yes s hm lv n d (by omega) h _ hc1
    rw[Option.map_map] at this⊢
    exact this
  ·have e:pars litP (f+1) .not lv d ts=pars litP f .prim lv d ts:=by
    conv=>lhs;unfold pars
    rw[if_neg hw]
   obtain⟨_,_,_,ip⟩:=IH f (rL _) lv d (nb s n) ts h.nb hb
   obtain⟨m1,hm1,hc1⟩:=ip (by omega)
   rw[e]
   exact⟨m1,hm1,c_not_no s hm lv n d h hw _ hc1⟩
 ·by_cases h1:ts.headD []=wTrue
  ·obtain⟨r,rfl⟩:=head_ne h1 (by decide)
   have e:pars litP (f+1) .prim lv d (wTrue::r)=some (.truth true,r,d):=by
    conv=>lhs;unfold pars
    rw[if_pos h1];rfl
   rw[e]
   exact⟨nb s n+wTrue.length,(fun t r e h'=>by cases h';exact h.tail.2),c_prim1 s hm lv n d h (some (.truth true,nb s n+wTrue.length,d)) (c_readers1 s lv (nb s n+wTrue.length) d)⟩
  by_cases h2:ts.headD []=wFalse
  ·obtain⟨r,rfl⟩:=head_ne h2 (by decide)
   have e:pars litP (f+1) .prim lv d (wFalse::r)=some (.truth false,r,d):=by
    conv=>lhs;unfold pars
    rw[if_neg h1,if_pos h2];rfl
   rw[e]
   exact⟨nb s n+wFalse.length,(fun t r e h'=>by cases h';exact h.tail.2),c_prim2 s hm lv n d h (some (.truth false,nb s n+wFalse.length,d)) (c_readers2 s lv (nb s n+wFalse.length) d)⟩
  by_cases h3:ts.headD []=[40]
  ·obtain⟨r,rfl⟩:=head_ne h3 (by decide)
   simp only[List.length_cons] at hb hf
   obtain⟨io,_⟩:=IH f (rL _) (lv+1) (max d (lv+1)) (nb s n+1) r h.tail.2 (by omega)
   obtain⟨m1,hm1,hc1⟩:=io (by omega)
   cases hp:pars litP f .or (lv+1) (max d (lv+1)) r with
   |none=>
    rw[hp] at hc1
    have e:pars litP (f+1) .prim lv d ([40]::r)=none:=by
     conv=>lhs;unfold pars
     rw[if_neg h1,if_neg h2,if_pos h3]
     show(match pars litP f .or (lv+1) (max d (lv+1)) r with|some (n,r,e)=>_|none=>_)=_
     rw[hp]
    rw[e]
    exact⟨0,(fun _ _ _ h=>by cases h),c_prim3 s hm lv n d h none (c_paren s hm lv (nb s n+1) d (by omega) none [] (fun _ _ _ h=>by cases h) hc1)⟩
   |some p=>
    obtain⟨t1,r1,e1⟩:=p
    rw[hp] at hc1
    have hA1:=(hm1 _ _ _ hp).1
    have e:pars litP (f+1) .prim lv d ([40]::r)=if r1.headD []=[41] then some (t1,r1.tail,e1) else none:=by
     conv=>lhs;unfold pars
     rw[if_neg h1,if_neg h2,if_pos h3]
     show(match pars litP f .or (lv+1) (max d (lv+1)) r with|some (n,r,e)=>_|none=>_)=_
     rw[hp]
    have hc2:=c_prim3 s hm lv n d h _ (c_paren s hm lv (nb s n+1) d (by omega) (some (t1,m1,e1)) r1 (fun _ _ _ h=>by cases h;exact hA1) hc1)
    rw[e]
    by_cases h4:r1.headD []=[41]
    ·obtain⟨r2,rfl⟩:=head_ne h4 (by decide)
     refine⟨nb s m1+1,fun t r e h'=>?_,?_⟩
     ·rw[if_pos h4] at h';cases h';exact hA1.tail.2
     ·rw[if_pos h4]
      unfold parenO at hc2
      simp only[h4,if_true] at hc2
      exact hc2
    ·refine⟨0,fun t r e h'=>?_,?_⟩
     ·rw[if_neg h4] at h';cases h'
     ·rw[if_neg h4]
      unfold parenO at hc2
      simp only[h4,if_false] at hc2
      exact hc2
  obtain⟨m,hm1,hc⟩:=c_prim_t s hs lv n d h h1 h2 h3
  have e:pars litP (f+1) .prim lv d ts=pars litP 1 .prim lv d ts:=by
   conv=>lhs;unfold pars
   conv=>rhs;unfold pars
   rw[if_neg h1,if_neg h1,if_neg h2,if_neg h2,if_neg h3,if_neg h3]
  rw[e]
  exact⟨m,hm1,hc⟩
def fuel (s:List UInt8):Nat:=10*s.length+10
theorem toks_len:∀(n:Nat) (l:List UInt8),l.length<=n->(toks l).length<=l.length
 |0,l,h=>by
  have:l=[]:=List.eq_nil_of_length_eq_zero (by omega)
  subst this;rw[toks_nil rfl];simp
 |n+1,l,h=>by
  cases hk:skip l with
  |nil=>rw[toks_nil hk];simp
  |cons c t=>
   rw[toks_cons hk]
   have h1:=skip_len l
   rw[hk] at h1
   have h2:=wlen_pos c t
   simp only[List.length_cons] at h1⊢
   have:=toks_len n ((c::t).drop (wlen (c::t))) (by simp;omega)
   simp only[List.length_drop,List.length_cons] at this
   omega
theorem c_parse [MaxL] (s:List UInt8) (hs:s.length<=20000):SC Tryz.prog 171 [.s s] [] (.val (match pars litP (fuel s) .or 0 0 (toks s) with
  |some (t,r,e)=>.tup [t.gv,.i .i64 (e:Nat),.b (r.headD []==[])]
  |none=>.tup [.o .nilIface,.i .i64 0,.b false])) []:=by
 have hm:s.length<most:=by unfold most;omega
 have h0:At s 0 (toks s):=⟨zL _,rfl⟩
 have hl:=toks_len s.length s (rL _)
 obtain⟨io,_⟩:=four s hs (fuel s) 0 0 0 (toks s) h0 (by omega)
 obtain⟨m,hm1,hc⟩:=io (by unfold fuel;omega)
 cases hp:pars litP (fuel s) .or 0 0 (toks s) with
 |none=>
  rw[hp] at hc
  replace hc:SC Tryz.prog 207 [.ptr 0 0,.i .i64 (0:Nat)] [rd s 0 (0:Nat)] (.panic wrongC) [.dead]:=hc
  refine gwS Tryz.func171 rfl ?_
  conv=>whnf
  refine callBd (q:=3) hc rfl (by first|exact wR _|exact wC (Wk.sl _ _) (wR _)|exact wC (Wk.sl _ _) (wC (Wk.sl _ _) (wR _))|exact wC (Wk.refl _) (wC (Wk.sl _ _) (wR _))) rfl rfl (by first|exact fun _=>rfl|exact cA|exact cB fun _=>rfl) (by first|exact fun _=>rfl|exact cA|exact cB fun _=>rfl) (by first|exact fun _=>rfl|exact cA|exact cB fun _=>rfl) ?_
  conv=>whnf
  refine owes0 (g:=.tup [.o .nilIface,.i .i64 0,.b false]) ?_ ?_ ?_
  ·kernel_rfl
  ·exact .refl _
  ·exact fun _=>rfl
 |some p=>
  obtain⟨t,r,e⟩:=p
  rw[hp] at hc
  replace hc:SC Tryz.prog 207 [.ptr 0 0,.i .i64 (0:Nat)] [rd s 0 (0:Nat)] (.val t.gv) [rd s m e]:=hc
  obtain⟨hA,hnb⟩:=hm1 _ _ _ hp
  have hwd:=c_word' s m e hA hm
  rw[hnb] at hwd
  refine SC.of_gwp noM mixed Tryz.func171 rfl (bL rfl) (rL _) rfl ?_
  conv=>whnf
  refine callB (q:=3) hc rfl (wR _) rfl rfl (fun _=>rfl) (fun _=>rfl) (fun _=>rfl) t.cl ?_
  conv=>whnf
  refine⟨_,⟨rfl,zL _,rfl,bL rfl⟩,?_⟩
  conv=>whnf
  refine GDraw.wild _ _ _ rfl rfl rfl (by kernel_rfl) ?_
  conv=>whnf
  refine callBP (q:=3) hwd rfl (wR _) rfl (fun _=>rfl) (fun _=>rfl) (fun _=>rfl) ?_
  conv=>whnf
  refine⟨_,⟨rfl,zL _,rfl,bL rfl⟩,?_⟩
  conv=>whnf
  refine⟨_,⟨rfl,zL _,rfl,bL rfl⟩,?_⟩
  conv=>whnf
  refine⟨_,⟨rfl,zL _,rfl,bL rfl⟩,?_⟩
  conv=>whnf
  exact owes_wk (.refl _) (Cl.tup (.cons t.cl (.cons (.i _ _) (.cons (.b _) .nil))))
theorem toks_ne:∀(n:Nat) (l:List UInt8),l.length<=n->∀w∈toks l,w≠[]
 |0,l,h,w,hw=>by
  have:l=[]:=List.eq_nil_of_length_eq_zero (by omega)
  subst this;rw[toks_nil rfl] at hw;cases hw
 |n+1,l,h,w,hw=>by
  cases hk:skip l with
  |nil=>rw[toks_nil hk] at hw;cases hw
  |cons c t=>
   rw[toks_cons hk] at hw
   have h1:=skip_len l
   rw[hk] at h1
   have h2:=wlen_pos c t
   simp only[List.length_cons] at h1
   rcases List.mem_cons.1 hw with rfl|hw
   ·intro e
    have:=congrArg List.length e
    unfold wrd at this
    rw[List.length_take] at this
    simp at this;omega
   ·exact toks_ne n ((c::t).drop (wlen (c::t))) (by simp;omega) w hw
inductive RdE where
 |ok (t:Tree)
 |err (e:Int)
def readS (s:List UInt8):RdE:=if 1000<s.length then .err 3 else match pars litP (fuel s) .or 0 0 (toks s) with
 |some (t,r,e)=>if r.headD []==[] then(if 20<e then .err 4 else .ok t.flat) else .err 2
 |none=>.err 2
theorem rowOk_one (v:Val):rowOk [v]=v.ok:=by simp[rowOk]
theorem c_ttext [MaxL] (t:Term) (h:t.name.length<1000000000):SC Tryz.prog 211 [t.gv] [] (.val (.s t.txt)) []:=by
 obtain⟨nm,vr,v⟩:=t
 refine gwS Tryz.func211 rfl ?_
 conv=>whnf
 cases vr with
 |true=>
  conv=>whnf
  refine⟨by show 1+nm.length<4611686018427387904;have h':nm.length<1000000000:=h;omega,58::nm,rfl,?_⟩
  conv=>whnf
  exact owes_s rfl
 |false=>
  conv=>whnf
  refine GIf.mk (fun hn=>?_) (fun hn=>?_)<;>conv=>whnf
  ·have hn':nm≠[]:=by simpa using hn
   refine owes_s ?_
   show nm=if nm≠[] then nm else litT v
   rw[if_pos hn']
  ·have hn':nm=[]:=by simpa using hn
   subst hn'
   have hIT:=c_ItemText [v] (by show 1<most;decide)
   refine callP hIT (wC (Wk.sl _ _) Wks.nil) rfl (cC (Cl.sl (valsG_cl _)) ClL.nil) (.s _) ?_
   conv=>whnf
   refine owes_s ?_
   rw[rowOk_one]
   show(if v.ok=true then rowText [v] else[])=litT v
   unfold litT
   have:rowText [v]=written v:=Lib.join_one _ _
   rw[this]
theorem c_level [MaxL] (t:Tree):(∀a l r,t=.pair a l r->SC Tryz.prog 352 [.agg t.cs] [] (.val (.i .i64 (t.level:Nat))) [])/\(∀x,t=.no x->SC Tryz.prog 351 [.agg t.cs] [] (.val (.i .i64 (t.level:Nat))) [])/\
  (∀o l r,t=.test o l r->SC Tryz.prog 353 [.agg t.cs] [] (.val (.i .i64 (t.level:Nat))) [])/\(∀b,t=.truth b->SC Tryz.prog 354 [.agg t.cs] [] (.val (.i .i64 (t.level:Nat))) []):=by
 refine⟨fun a l r h=>?_,fun x h=>?_,fun o l r h=>?_,fun b h=>?_⟩
 ·subst h
  refine gwS Tryz.func352 rfl ?_
  conv=>whnf
  exact owes_i rfl
 ·subst h
  refine gwS Tryz.func351 rfl ?_
  conv=>whnf
  exact owes_i rfl
 ·subst h
  refine gwS Tryz.func353 rfl ?_
  conv=>whnf
  exact owes_i rfl
 ·subst h
  refine gwS Tryz.func354 rfl ?_
  conv=>whnf
  exact owes_i rfl
theorem paren_len (b:Bool) (s:List UInt8):s.length<=(paren b s).length/\(paren b s).length<=s.length+2:=by
 unfold paren;cases b<;>simp<;>omega
theorem c_show [MaxL] (t:Tree) (k:Nat) (hb:t.plain.length<1000000000) (hc:SC Tryz.prog 173 [t.gv] [] (.val (.s t.plain)) []):
  SC Tryz.prog 210 [t.gv,.i .i64 (k:Nat)] [] (.val (.s (paren (decide (t.level<k)) t.plain))) []:=by
 obtain⟨h1,h2,h3,h4⟩:=c_level t
 refine gwS Tryz.func210 rfl ?_
 conv=>whnf
 refine callP hc (wR _) rfl (cC t.cl .nil) (.s _) ?_
 conv=>whnf
 cases t with
 |pair a l r=>
  conv=>whnf
  refine callP (h1 a l r rfl) (wR _) rfl (cC (Cl.agg (Tree.cs_cl _)) .nil) (.i _ _) ?_
  conv=>whnf
  refine GIf.mk (fun hlt=>?_) (fun hlt=>?_)<;>conv=>whnf
  ·have hd:decide ((Tree.pair a l r).level<k)=true:=by simpa using hlt
   refine⟨by show 1+(Tree.pair a l r).plain.length<4611686018427387904;omega,40::(Tree.pair a l r).plain,rfl,?_⟩
   conv=>whnf
   refine⟨by show(Tree.pair a l r).plain.length+1+1<4611686018427387904;omega,40::((Tree.pair a l r).plain++[41]),rfl,?_⟩
   conv=>whnf
   refine owes_s ?_
   rw[hd];rfl
  ·have hd:decide ((Tree.pair a l r).level<k)=false:=by simpa using hlt
   refine owes_s ?_
   rw[hd];rfl
 |no x=>
  conv=>whnf
  refine callP (h2 x rfl) (wR _) rfl (cC (Cl.agg (Tree.cs_cl _)) .nil) (.i _ _) ?_
  conv=>whnf
  refine GIf.mk (fun hlt=>?_) (fun hlt=>?_)<;>conv=>whnf
  ·have hd:decide ((Tree.no x).level<k)=true:=by simpa using hlt
   refine⟨by show 1+(Tree.no x).plain.length<4611686018427387904;omega,40::(Tree.no x).plain,rfl,?_⟩
   conv=>whnf
   refine⟨by show(Tree.no x).plain.length+1+1<4611686018427387904;omega,40::((Tree.no x).plain++[41]),rfl,?_⟩
   conv=>whnf
   refine owes_s ?_
   rw[hd];rfl
  ·have hd:decide ((Tree.no x).level<k)=false:=by simpa using hlt
   refine owes_s ?_
   rw[hd];rfl
 |test o l r=>
  conv=>whnf
  refine callP (h3 o l r rfl) (wR _) rfl (cC (Cl.agg (Tree.cs_cl _)) .nil) (.i _ _) ?_
  conv=>whnf
  refine GIf.mk (fun hlt=>?_) (fun hlt=>?_)<;>conv=>whnf
  ·have hd:decide ((Tree.test o l r).level<k)=true:=by simpa using hlt
   refine⟨by show 1+(Tree.test o l r).plain.length<4611686018427387904;omega,40::(Tree.test o l r).plain,rfl,?_⟩
   conv=>whnf
   refine⟨by show(Tree.test o l r).plain.length+1+1<4611686018427387904;omega,40::((Tree.test o l r).plain++[41]),rfl,?_⟩
   conv=>whnf
   refine owes_s ?_
   rw[hd];rfl
  ·have hd:decide ((Tree.test o l r).level<k)=false:=by simpa using hlt
   refine owes_s ?_
   rw[hd];rfl
 |truth b=>
  conv=>whnf
  refine callP (h4 b rfl) (wR _) rfl (cC (Cl.agg (Tree.cs_cl _)) .nil) (.i _ _) ?_
  conv=>whnf
  refine GIf.mk (fun hlt=>?_) (fun hlt=>?_)<;>conv=>whnf
  ·have hd:decide ((Tree.truth b).level<k)=true:=by simpa using hlt
   refine⟨by show 1+(Tree.truth b).plain.length<4611686018427387904;omega,40::(Tree.truth b).plain,rfl,?_⟩
   conv=>whnf
   refine⟨by show(Tree.truth b).plain.length+1+1<4611686018427387904;omega,40::((Tree.truth b).plain++[41]),rfl,?_⟩
   conv=>whnf
   refine owes_s ?_
   rw[hd];rfl
  ·have hd:decide ((Tree.truth b).level<k)=false:=by simpa using hlt
   refine owes_s ?_
   rw[hd];rfl
def Tree.nice:Tree->Prop
 |.pair _ l r=>l.nice/\r.nice
 |.no t=>t.nice
 |.test op l r=>op.length<=2/\(l.name.length<=16/\l.txt.length<=180)/\(r.name.length<=16/\r.txt.length<=180)
 |.truth _=>True
theorem c_plain [MaxL]:∀t:Tree,t.nice->t.plain.length<1000000->SC Tryz.prog 173 [t.gv] [] (.val (.s t.plain)) []
 |.pair a l r,hn,hb=>by
  have e:(Tree.pair a l r).plain=paren (decide (l.level<opn a)) l.plain++sep a++paren (decide (r.level<opn a)) r.plain:=rfl
  rw[e] at hb
  simp only[List.length_append] at hb
  have p1:=paren_len (decide (l.level<opn a)) l.plain
  have p2:=paren_len (decide (r.level<opn a)) r.plain
  have s1:=c_show l (opn a) (by omega) (c_plain l hn.1 (by omega))
  have s2:=c_show r (opn a) (by omega) (c_plain r hn.2 (by omega))
  rw[e]
  generalize paren (decide (l.level<opn a)) l.plain=x1 at*
  generalize paren (decide (r.level<opn a)) r.plain=x2 at*
  refine gwS Tryz.func173 rfl ?_
  conv=>whnf
  refine⟨_,⟨rfl,zL _,rfl,bL rfl⟩,?_⟩
  conv=>whnf
  cases a with
  |true=>
   conv=>whnf
   refine GDraw.calm (by kernel_rfl) ?_
   conv=>whnf
   refine callP s1 (wR _) rfl (cC l.cl (.cons (.i _ _) .nil)) (.s _) ?_
   conv=>whnf
   refine⟨by show x1.length+(sep true).length<4611686018427387904;omega,x1++sep true,rfl,?_⟩
   conv=>whnf
   refine callP s2 (wR _) rfl (cC r.cl (.cons (.i _ _) .nil)) (.s _) ?_
   conv=>whnf
   refine⟨by show(x1++sep true).length+x2.length<4611686018427387904;rw[List.length_append];omega,x1++sep true++x2,rfl,?_⟩
   conv=>whnf
   exact owes_s rfl
  |false=>
   conv=>whnf
   refine GDraw.calm (by kernel_rfl) ?_
   conv=>whnf
   refine callP s1 (wR _) rfl (cC l.cl (.cons (.i _ _) .nil)) (.s _) ?_
   conv=>whnf
   refine⟨by show x1.length+(sep false).length<4611686018427387904;omega,x1++sep false,rfl,?_⟩
   conv=>whnf
   refine callP s2 (wR _) rfl (cC r.cl (.cons (.i _ _) .nil)) (.s _) ?_
   conv=>whnf
   refine⟨by show(x1++sep false).length+x2.length<4611686018427387904;rw[List.length_append];omega,x1++sep false++x2,rfl,?_⟩
   conv=>whnf
   exact owes_s rfl
 |.no t,hn,hb=>by
  have e:(Tree.no t).plain=wNot++[32]++paren (decide (t.level<4)) t.plain:=rfl
  rw[e] at hb
  simp only[List.length_append] at hb
  have p1:=paren_len (decide (t.level<4)) t.plain
  have s1:=c_show t 4 (by omega) (c_plain t hn (by omega))
  rw[e]
  generalize paren (decide (t.level<4)) t.plain=x1 at*
  refine gwS Tryz.func173 rfl ?_
  conv=>whnf
  refine⟨_,⟨rfl,zL _,rfl,bL rfl⟩,?_⟩
  conv=>whnf
  refine callP s1 (wR _) rfl (cC t.cl (.cons (.i _ _) .nil)) (.s _) ?_
  conv=>whnf
  refine⟨by show 4+x1.length<4611686018427387904;omega,wNot++[32]++x1,rfl,?_⟩
  conv=>whnf
  exact owes_s rfl
 |.test op l r,hn,hb=>by
  have s1:=c_ttext l (by have:=hn.2.1.1;omega)
  have s2:=c_ttext r (by have:=hn.2.2.1;omega)
  have e:(Tree.test op l r).plain=l.txt++[32]++op++[32]++r.txt:=rfl
  rw[e] at hb
  simp only[List.length_append] at hb
  rw[e]
  generalize l.txt=x1 at*
  generalize r.txt=x2 at*
  refine gwS Tryz.func173 rfl ?_
  conv=>whnf
  refine⟨_,⟨rfl,zL _,rfl,bL rfl⟩,?_⟩
  conv=>whnf
  refine GDraw.calm (by kernel_rfl) ?_
  conv=>whnf
  refine callP s1 (by first|exact wR _|exact wC (Wk.sl _ _) (wR _)|exact wC (Wk.sl _ _) (wC (Wk.sl _ _) (wR _))|exact wC (Wk.refl _) (wC (Wk.sl _ _) (wR _))) rfl (by first|exact fun _=>rfl|exact cA|exact cB fun _=>rfl) (by first|exact fun _=>rfl|exact cA|exact cB fun _=>rfl) ?_
  conv=>whnf
  refine⟨by show x1.length+1<4611686018427387904;omega,x1++[32],rfl,?_⟩
  conv=>whnf
  refine⟨by show(x1++[32]).length+op.length<4611686018427387904;rw[List.length_append];simp only[List.length_cons,List.length_nil] at hb⊢;omega,x1++[32]++op,rfl,?_⟩
  conv=>whnf
  refine⟨by show(x1++[32]++op).length+1<4611686018427387904;simp only[List.length_append,List.length_cons,List.length_nil] at hb⊢;omega,x1++[32]++op++[32],rfl,?_⟩
  conv=>whnf
  refine callP s2 (by first|exact wR _|exact wC (Wk.sl _ _) (wR _)|exact wC (Wk.sl _ _) (wC (Wk.sl _ _) (wR _))|exact wC (Wk.refl _) (wC (Wk.sl _ _) (wR _))) rfl (by first|exact fun _=>rfl|exact cA|exact cB fun _=>rfl) (by first|exact fun _=>rfl|exact cA|exact cB fun _=>rfl) ?_
  conv=>whnf
  refine⟨by show(x1++[32]++op++[32]).length+x2.length<4611686018427387904;simp only[List.length_append,List.length_cons,List.length_nil] at hb⊢;omega,x1++[32]++op++[32]++x2,rfl,?_⟩
  conv=>whnf
  exact owes_s rfl
 |.truth b,hn,hb=>by
  refine gwS Tryz.func173 rfl ?_
  conv=>whnf
  refine⟨_,⟨rfl,zL _,rfl,bL rfl⟩,?_⟩
  conv=>whnf
  cases b with
  |true=>
   conv=>whnf
   exact owes_s rfl
  |false=>
   conv=>whnf
   exact owes_s rfl
theorem deep_le:∀(t:Tree) (k:Nat),t.deep k<=2*t.size
 |.pair a l r,k=>by
  have h1:=deep_le l (opn a)
  have h2:=deep_le r (opn a)
  simp only[Tree.deep,Tree.size]
  split<;>omega
 |.no t,k=>by
  have h1:=deep_le t 4
  simp only[Tree.deep,Tree.size]
  split<;>omega
 |.test _ _ _,k=>by simp only[Tree.deep,Tree.size];split<;>omega
 |.truth _,k=>by simp only[Tree.deep,Tree.size];split<;>omega
theorem c_deep [MaxL]:∀(t:Tree) (k:Nat),t.size<1000000000->SC Tryz.prog 174 [t.gv,.i .i64 (k:Nat)] [] (.val (.i .i64 (t.deep k:Nat))) []
 |.pair a l r,k,hb=>by
  simp only[Tree.size] at hb
  have s1:=c_deep l (opn a) (by omega)
  have s2:=c_deep r (opn a) (by omega)
  have d1:=deep_le l (opn a)
  have d2:=deep_le r (opn a)
  have e:(Tree.pair a l r).deep k=(if opn a<k then 1 else 0)+max (l.deep (opn a)) (r.deep (opn a)):=rfl
  rw[e]
  generalize l.deep (opn a)=x1 at*
  generalize r.deep (opn a)=x2 at*
  obtain⟨h1,_⟩:=c_level (.pair a l r)
  refine gwS Tryz.func174 rfl ?_
  conv=>whnf
  refine callP (h1 a l r rfl) (wR _) rfl (cC (Cl.agg (Tree.cs_cl _)) .nil) (.i _ _) ?_
  conv=>whnf
  refine GIf.mk (fun hlt=>?_) (fun hlt=>?_)<;>conv=>whnf
  ·have hd:opn a<k:=Int.ofNat_lt.1 (of_decide_eq_true hlt)
   rw[if_pos hd]
   refine⟨_,⟨rfl,zL _,rfl,bL rfl⟩,?_⟩
   conv=>whnf
   refine GDraw.calm (by kernel_rfl) ?_
   conv=>whnf
   refine callP s1 (wR _) rfl (cC l.cl (.cons (.i _ _) .nil)) (.i _ _) ?_
   conv=>whnf
   refine callP s2 (wR _) rfl (cC r.cl (.cons (.i _ _) .nil)) (.i _ _) ?_
   conv=>whnf
   refine owes_i ?_
   show IntKind.i64.wrap ((1:Int)+(if(x1:Int)<(x2:Int) then(x2:Int) else(x1:Int)))=_
   rw[wrap_in (by split<;>omega) (by split<;>omega)]
   split<;>omega
  ·have hd:¬opn a<k:=fun h=>(of_decide_eq_false hlt) (Int.ofNat_lt.2 h)
   rw[if_neg hd]
   refine⟨_,⟨rfl,zL _,rfl,bL rfl⟩,?_⟩
   conv=>whnf
   refine GDraw.calm (by kernel_rfl) ?_
   conv=>whnf
   refine callP s1 (wR _) rfl (cC l.cl (.cons (.i _ _) .nil)) (.i _ _) ?_
   conv=>whnf
   refine callP s2 (wR _) rfl (cC r.cl (.cons (.i _ _) .nil)) (.i _ _) ?_
   conv=>whnf
   refine owes_i ?_
   show IntKind.i64.wrap ((0:Int)+(if(x1:Int)<(x2:Int) then(x2:Int) else(x1:Int)))=_
   rw[wrap_in (by split<;>omega) (by split<;>omega)]
   split<;>omega
 |.no t,k,hb=>by
  simp only[Tree.size] at hb
  have s1:=c_deep t 4 (by omega)
  have d1:=deep_le t 4
  have e:(Tree.no t).deep k=(if 3<k then 1 else 0)+1+t.deep 4:=rfl
  rw[e]
  generalize t.deep 4=x1 at*
  obtain⟨_,h2,_⟩:=c_level (.no t)
  refine gwS Tryz.func174 rfl ?_
  conv=>whnf
  refine callP (h2 t rfl) (wR _) rfl (cC (Cl.agg (Tree.cs_cl _)) .nil) (.i _ _) ?_
  conv=>whnf
  refine GIf.mk (fun hlt=>?_) (fun hlt=>?_)<;>conv=>whnf
  ·have hd:3<k:=Int.ofNat_lt.1 (of_decide_eq_true hlt)
   rw[if_pos hd]
   refine⟨_,⟨rfl,zL _,rfl,bL rfl⟩,?_⟩
   conv=>whnf
   refine callP s1 (wR _) rfl (cC t.cl (.cons (.i _ _) .nil)) (.i _ _) ?_
   conv=>whnf
   refine owes_i ?_
   show IntKind.i64.wrap (IntKind.i64.wrap (1+1)+(x1:Int))=_
   rw[show IntKind.i64.wrap (1+1)=2 by decide,wrap_in (by omega) (by omega)]
   omega
  ·have hd:¬3<k:=fun h=>(of_decide_eq_false hlt) (Int.ofNat_lt.2 h)
   rw[if_neg hd]
   refine⟨_,⟨rfl,zL _,rfl,bL rfl⟩,?_⟩
   conv=>whnf
   refine callP s1 (wR _) rfl (cC t.cl (.cons (.i _ _) .nil)) (.i _ _) ?_
   conv=>whnf
   refine owes_i ?_
   show IntKind.i64.wrap (IntKind.i64.wrap (0+1)+(x1:Int))=_
   rw[show IntKind.i64.wrap (0+1)=1 by decide,wrap_in (by omega) (by omega)]
   omega
 |.test o l r,k,hb=>by
  obtain⟨_,_,h3,_⟩:=c_level (.test o l r)
  refine gwS Tryz.func174 rfl ?_
  conv=>whnf
  refine callP (h3 o l r rfl) (wR _) rfl (cC (Cl.agg (Tree.cs_cl _)) .nil) (.i _ _) ?_
  conv=>whnf
  refine GIf.mk (fun hlt=>?_) (fun hlt=>?_)<;>conv=>whnf
  ·have hd:4<k:=Int.ofNat_lt.1 (of_decide_eq_true hlt)
   refine owes_i ?_
   show _=(((if 4<k then 1 else 0:Nat)):Int)
   rw[if_pos hd];rfl
  ·have hd:¬4<k:=fun h=>(of_decide_eq_false hlt) (Int.ofNat_lt.2 h)
   refine owes_i ?_
   show _=(((if 4<k then 1 else 0:Nat)):Int)
   rw[if_neg hd];rfl
 |.truth b,k,hb=>by
  obtain⟨_,_,_,h4⟩:=c_level (.truth b)
  refine gwS Tryz.func174 rfl ?_
  conv=>whnf
  refine callP (h4 b rfl) (wR _) rfl (cC (Cl.agg (Tree.cs_cl _)) .nil) (.i _ _) ?_
  conv=>whnf
  refine GIf.mk (fun hlt=>?_) (fun hlt=>?_)<;>conv=>whnf
  ·have hd:4<k:=Int.ofNat_lt.1 (of_decide_eq_true hlt)
   refine owes_i ?_
   show _=(((if 4<k then 1 else 0:Nat)):Int)
   rw[if_pos hd];rfl
  ·have hd:¬4<k:=fun h=>(of_decide_eq_false hlt) (Int.ofNat_lt.2 h)
   refine owes_i ?_
   show _=(((if 4<k then 1 else 0:Nat)):Int)
   rw[if_neg hd];rfl
end Go.Proofs.YtldggonlkafckaaGreatDoor
namespace Go.Proofs.YtldggonlkafckaaGreatDoor
open Go.RowKit Go.Sort
set_option maxRecDepth 100000
set_option linter.unusedVariables false
theorem c_GrowN [MaxL] (n:Nat) (h1:1<=n) (h2:n<=1000000):SC Tryz.prog 279 [.sl .full [],.i .i64 (n:Nat)] [] (.val (.sl (.own 0) [])) [.own 0 1 207]:=by
 refine⟨by simp,fun C w vs hr hv=>?_,by simp⟩
 obtain⟨v,vs',e,hv1,hv2⟩:=hv.cons_inv
 obtain⟨v2,vs'',rfl,hv3,hv4⟩:=hv2.cons_inv
 have:vs''=[]:=List.eq_nil_of_length_eq_zero (by simpa using hv4.1)
 subst this
 obtain rfl:vs= #[v,v2]:=by rw[<-Array.toArray_toList (xs:=vs),e]
 cases hv3
 cases hv1 with
 |sl esz b off us hn hc ha hw hx hvv ht=>
 obtain⟨hc0,ha0⟩:=ht
 obtain rfl:=ha0 rfl
 simp at hn hc0
 subst hn;subst hc0
 obtain⟨i0,hi0⟩:∃i0,Tryz.prog.info? (Tryz.growN_ren.t 25)=some i0:=Option.isSome_iff_exists.1 (by kernel_rfl)
 have hz:(Tryz.prog.info? (Tryz.growN_ren.t 25)).bind (·.zero)=some .nilIface:=by kernel_rfl
 have hsz:(Tryz.prog.info? (Tryz.growN_ren.t 25)).map (·.size)=some 1:=by kernel_rfl
 have hby:(Tryz.prog.info? (Tryz.growN_ren.t 25)).map (·.bytes)=some 16:=by kernel_rfl
 rw[hi0] at hz hsz hby
 replace hz:i0.zero=some .nilIface:=hz
 replace hsz:i0.size=1:=by simpa using hsz
 replace hby:i0.bytes=16:=by simpa using hby
 have key:=Any8.slices_Grow_grow Tryz.growN i0 .nilIface hi0 hz (by omega) none 0 0 n [] w (rL _) (by omega) (by rw[hby];omega) (by omega) (by simp) (fun _=>rfl) (fun a h=>by cases h)
 refine Calls.mono key ?_
 rintro e w' ⟨rfl,rfl⟩
 have hge:=grownCap_ge w (0+n) 0 (Tryz.growN_ren.t 25)
 have hty:Tryz.growN_ren.t 25=207:=by kernel_rfl
 rw[hty] at hge⊢
 generalize grownCap w (0+n) 0 207=cap at*
 generalize harr:(([]:List Value).toArray++Builtin.zeroCells (Value.cells .nilIface) (0+n - 0)++Builtin.zeroCells (Value.cells .nilIface) (cap - (0+n)))=arr
 have hsize:arr.size=cap:=by
  rw[<-harr]
  have z:∀k,(Builtin.zeroCells (Value.cells .nilIface) k).size=k:=fun k=>by
   have:(Value.cells .nilIface).size=1:=rfl
   simp[Builtin.zeroCells,this]
  simp only[Array.size_append,z]
  simp;omega
 obtain⟨D,hl,hown,_,hrel⟩:=hr.drew.newRow 0 1 207 (hr.drew.newAt _) arr (by omega) (by omega)
 refine⟨D,hl,hrel,_,rfl,.sl 1 w.heap.size 0 (fun _=>undef) rfl (zL _) (.inr (.inl rfl)) (fun x hx=>by cases hx) (fun i x j g h=>by simp at h) (fun i x j g h=>by simp at h) ⟨_,hown,rL _,fun _=>rfl,fun _=>.inr ⟨_,_,rfl,rfl,?_⟩⟩⟩
 show cap*1<=arr.size
 omega
end Go.Proofs.YtldggonlkafckaaGreatDoor
