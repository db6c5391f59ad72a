/-
  A part of the proof of ViewTexts.
-/
import Derived.Test.YtldggonlkafckaaGreatDoorQ35
import Derived.Test.YtldggonlkafckaaGreatDoorQ36
set_option linter.all false
namespace Go.Proofs.YtldggonlkafckaaGreatDoor
open Go.RowKit
set_option maxRecDepth 100000
set_option linter.unusedVariables false
theorem r_Formed [MaxL] (l:By) (hl:l.length<=1000000):SC Tryz.prog 82 [.s l] [] (.val (.b (letters l))) []:=by
 refine gwS Tryz.func82 rfl ?_
 conv=>whnf
 refine GLoop.intro (fun i:Nat=>i<=l.length/\∀j c,j<i->l[j]?=some c->lgAt j c=true) (fun i=>[(0,.s l),(3,.i .i64 i)]) (fun _=>⟨[],0,[]⟩) (fun i=>l.length - i) 0 ⟨zL _,fun j c hj=>absurd hj (Nat.not_lt_zero j)⟩ ⟨rfl,rfl,trivial⟩ rfl (fun i φ0 hi=>?_)
 obtain⟨hi,hall⟩:=hi
 conv=>whnf
 refine GIf.mk (fun h=>?_) (fun h=>?_)<;>conv=>whnf
 rotate_left
 ·have hie:i=l.length:=by have:=of_decide_eq_false h;omega
  refine owes_b ?_
  rw[letters_good fun j c hj=>hall j c (by rw[hie];exact(List.getElem?_eq_some_iff.1 hj).1) hj]
  cases l<;>simp
 have hlt:i<l.length:=by have:=of_decide_eq_true h;omega
 obtain⟨c,hc⟩:∃c,l[i]?=some c:=⟨l[i],gL hlt⟩
 have bad:=letters_bad hc
 have nxt:lgAt i c=true->i+1<=l.length/\∀j d,j<i+1->l[j]?=some d->lgAt j d=true:=fun hg=>⟨hlt,fun j d hj hd=>by
  rcases Nat.lt_or_ge j i with q|q
  ·exact hall j d q hd
  ·have:j=i:=by omega
   subst this
   rw[hc] at hd;cases hd;exact hg⟩
 have hw:=wrap_succ (i:=i) (by omega)
 clear hall
 have hgi:l[((i:Nat):Int).toNat]?=some c:=by rw[Int.toNat_natCast];exact hc
 refine⟨cN _,c,hgi,?_⟩
 conv=>whnf
 repeat' first
  |((refine GIf.mk (fun h=>?_) (fun h=>?_))<;>conv=>whnf)
  |(refine GNeed.mk (cN _) (Exists.intro c (And.intro hgi ?_));conv=>whnf)
 all_goals clear hgi
 all_goals first
  |(refine owes_b (bad ?_).symm;clear bad nxt hc hw;unfold lgAt isInner isDigit isSmall;by_cases h0:i=0<;>simp[h0] at* <;>omega)
  |(refine GLoop.next (i+1) (nxt ?_) (by omega) ⟨rfl,hw,trivial⟩ rfl;clear bad nxt hc hw;unfold lgAt isInner isDigit isSmall;by_cases h0:i=0<;>simp[h0] at* <;>omega)
theorem occ_take {s p:By} {i:Nat} (h:i+p.length<=s.length):Lib.occAt s p i=decide ((s.drop i).take p.length=p):=by
 rw[Lib.occAt_iff_take s p i h]
 by_cases hq:(s.drop i).take p.length=p<;>simp[hq]
theorem wrap_add [MaxL] {a b:Nat} (h:a+b<=4000000):IntKind.i64.wrap ((a:Int)+(b:Int))=((a+b:Nat):Int):=by rw[wrap_in (by omega) (by omega)];omega
theorem r_Find [MaxL] (s p:By) (hs:s.length<=1000000) (hp:p.length<=100) (hne:p≠[]):SC Tryz.prog 81 [.s s,.s p] [] (.val (.i .i64 (Lib.index s p))) []:=by
 refine gwS Tryz.func81 rfl ?_
 conv=>whnf
 have hp0:0<p.length:=List.length_pos_iff.2 hne
 refine GLoop.intro (fun i:Nat=>i<=s.length/\∀j,j<i->Lib.occAt s p j=false) (fun i=>[(0,.s s),(1,.s p),(5,.i .i64 i)]) (fun _=>⟨[],0,[]⟩) (fun i=>s.length - i) 0 ⟨zL _,fun j hj=>absurd hj (Nat.not_lt_zero j)⟩ ⟨rfl,rfl,rfl,trivial⟩ rfl (fun i φ0 hi=>?_)
 obtain⟨hi,hall⟩:=hi
 have w1:=wrap_add (a:=i) (b:=p.length) (by omega)
 have w2:=wrap_succ (i:=i) (by omega)
 conv=>whnf
 refine GIf.mk (fun h=>?_) (fun h=>?_)<;>conv=>whnf
 rotate_left
 ·refine owes_i ?_
  rw[w1] at h
  have h1:¬i+p.length<=s.length:=by have:=of_decide_eq_false h;omega
  rw[Lib.index_none fun j hj=>?_]
  rcases Nat.lt_or_ge j i with q|q
  ·exact hall j q
  ·cases e:Lib.occAt s p j with
   |false=>rfl
   |true=>
    rcases Lib.occAt_room e with r|r
    ·omega
    ·exact absurd r hne
 have h1:i+p.length<=s.length:=by rw[w1] at h;have:=of_decide_eq_true h;omega
 refine⟨cN _,by rw[w1];exact cN _,⟨by rw[w1,Int.toNat_natCast,Int.toNat_natCast];omega,by rw[w1,Int.toNat_natCast];exact h1⟩,(s.drop i).take p.length,by rw[w1,Int.toNat_natCast,Int.toNat_natCast];congr 1;omega,?_⟩
 conv=>whnf
 have ho:=occ_take h1
 refine GIf.mk (fun hq=>?_) (fun hq=>?_)<;>conv=>whnf
 ·have hq':(s.drop i).take p.length=p:=by simpa using hq
  rw[decide_eq_true hq'] at ho
  refine owes_i ?_
  rw[Lib.index_first hi ho hall]
 ·have hq':¬(s.drop i).take p.length=p:=by simpa using hq
  rw[decide_eq_false hq'] at ho
  exact GLoop.next (i+1) ⟨by omega,fun j hj=>by
   rcases Nat.lt_or_ge j i with q|q
   ·exact hall j q
   ·have:j=i:=by omega
    rw[this];exact ho⟩ (by omega) ⟨rfl,rfl,w2,trivial⟩ rfl
theorem pieces_at {sub t:By} (hs:sub≠[]) {k:Nat} (h:Lib.index t sub=(k:Nat)):pieces sub t=t.take k::pieces sub (t.drop (k+sub.length)):=by
 rw[pieces_cut hs]
 have:Lib.cut t sub=(t.take k,t.drop (k+sub.length),true):=by
  unfold Lib.cut;rw[h,if_pos (cN _),Int.toNat_natCast]
 rw[this];rfl
theorem pieces_end {sub t:By} (hs:sub≠[]) (h:Lib.index t sub= -1):pieces sub t=[t]:=by
 rw[pieces_cut hs]
 have:Lib.cut t sub=(t,[],false):=by
  unfold Lib.cut;rw[h,if_neg (by omega)]
 rw[this];rfl
theorem occ_drop {s sub:By} {f j:Nat}:Lib.occAt (s.drop f) sub j=Lib.occAt s sub (f+j):=by
 unfold Lib.occAt;rw[List.drop_drop]
theorem r_Cut [MaxL] (s p:By) (hs:s.length<=1000000) (hp:p.length<=100) (hne:p≠[]):SC Tryz.prog 41 [.s s,.s p] [] (.val (.sl .none (strG (pieces p s)))) []:=by
 have hp0:0<p.length:=List.length_pos_iff.2 hne
 refine gwS Tryz.func41 rfl ?_
 conv=>whnf
 refine GLoop.introS (fun q:(Nat×Nat)×List By=>q.1.1<=s.length/\q.1.2<=q.1.1/\q.2.length<=q.1.2/\pieces p s=q.2++pieces p (s.drop q.1.2)/\∀j,q.1.2<=j->j<q.1.1->Lib.occAt s p j=false) (fun q=>[(0,.s s),(1,.s p),(5,.sl (.own 1) (strG q.2)),(6,.i .i64 (q.1.2:Nat)),(7,.i .i64 (q.1.1:Nat))])
  (fun q=>⟨[.own 0 0 0,ow 9 1 q.2.length],0,[]⟩) (fun q=>s.length - q.1.1) ((0,0),[]) ⟨zL _,rL _,rL _,rfl,fun j h1 h2=>absurd h2 (Nat.not_lt_zero j)⟩ ⟨rfl,rfl,rfl,rfl,rfl,trivial⟩ rfl (fun _ _=>rL _) (fun q _=>by simp only[List.all_cons,ow_held];rfl) (fun q _ e he=>?_) (fun q φ0 hi=>?_)
 ·refine⟨?_,rfl,?_⟩
  ·show[_,(ow _ 1 _).ren e]=_
   rw[ow_ren];rfl
  ·show[_,_,(GV.sl (.own 1) (strG q.2)).ren e,_,_]=_
   rw[ren_own (he 1 (by simp)) (strG_cl _)];rfl
 obtain⟨⟨i,f⟩,o⟩:=q
 obtain⟨hi,hf,ho,hpc,hall⟩:=hi
 replace hi:i<=s.length:=hi
 replace hf:f<=i:=hf
 replace ho:o.length<=f:=ho
 replace hpc:pieces p s=o++pieces p (s.drop f):=hpc
 replace hall:∀j,f<=j->j<i->Lib.occAt s p j=false:=hall
 have w1:=wrap_add (a:=i) (b:=p.length) (by omega)
 have w2:=wrap_succ (i:=i) (by omega)
 have hol:=strG_len o
 conv=>whnf
 refine GIf.mk (fun h=>?_) (fun h=>?_)<;>conv=>whnf
 rotate_left
 ·rw[w1] at h
  have h1:¬i+p.length<=s.length:=by have:=of_decide_eq_false h;omega
  have hno:Lib.index (s.drop f) p= -1:=Lib.index_none fun j hj=>by
   rw[occ_drop]
   rcases Nat.lt_or_ge (f+j) i with q|q
   ·exact hall _ (by omega) q
   ·cases e:Lib.occAt s p (f+j) with
    |false=>rfl
    |true=>
     rcases Lib.occAt_room e with r|r
     ·omega
     ·exact absurd r hne
  rw[pieces_end hne hno] at hpc
  rw[hpc]
  refine⟨cN _,⟨by rw[Int.toNat_natCast];show f<=s.length;omega,rL _⟩,s.drop f,by rw[Int.toNat_natCast,List.take_of_length_le (by simp)],?_⟩
  conv=>whnf
  cases o with
  |nil=>
   refine⟨⟨rfl,rfl,by show(strG ([]:List By)).length+1<=4294967296;simp[strG]⟩,strG ([]++[s.drop f]),1,⟨rfl,rfl⟩,?_⟩
   conv=>whnf
   refine⟨⟨zL _,rfl,by first|exact .inr ⟨rfl,rfl⟩|exact .inl ⟨rfl,rfl⟩⟩,?_⟩
   conv=>whnf
   exact owes_wk (Wk.sl _ _) (Cl.sl (strG_cl _))
  |cons z zs=>
   refine⟨⟨rfl,strG_ok _,by show(strG (z::zs)).length+1<=4294967296;rw[strG_len];omega⟩,strG ((z::zs)++[s.drop f]),((z::zs)++[s.drop f]).length,⟨by unfold strG;rw[List.map_append];rfl,by show _=(strG (z::zs)).length+1;rw[strG_len,List.length_append];rfl⟩,?_⟩
   conv=>whnf
   refine⟨⟨zL _,by first|rfl|(rw[strG_len];rfl)|(rw[strG_len];simp),by first|exact .inr ⟨rfl,rfl⟩|exact .inl ⟨rfl,rfl⟩⟩,?_⟩
   conv=>whnf
   exact owes_wk (Wk.sl _ _) (Cl.sl (strG_cl _))
 have h1:i+p.length<=s.length:=by rw[w1] at h;have:=of_decide_eq_true h;omega
 refine⟨cN _,by rw[w1];exact cN _,⟨by rw[w1,Int.toNat_natCast,Int.toNat_natCast];exact Nat.le_add_right _ _,by rw[w1,Int.toNat_natCast];exact h1⟩,(s.drop i).take p.length,by rw[w1,Int.toNat_natCast,Int.toNat_natCast];congr 1;exact(Nat.add_sub_cancel_left ..).symm,?_⟩
 conv=>whnf
 have hoc:=occ_take h1
 refine GIf.mk (fun hq=>?_) (fun hq=>?_)<;>conv=>whnf
 rotate_left
 ·have hq':¬(s.drop i).take p.length=p:=by simpa using hq
  rw[decide_eq_false hq'] at hoc
  refine⟨s.length - (i+1),(by show _<s.length - i;omega),((i+1,f),o),⟨by show i+1<=s.length;omega,by show f<=i+1;omega,ho,hpc,fun j h2 h3=>?_⟩,rfl,⟨rfl,rfl,rfl,rfl,w2,trivial⟩,[],rfl,rfl⟩
  rcases Nat.lt_or_ge j i with q|q
  ·exact hall j h2 q
  ·have:j=i:=by have:j<i+1:=h3;omega
   rw[this];exact hoc
 ·have hq':(s.drop i).take p.length=p:=by simpa using hq
  rw[decide_eq_true hq'] at hoc
  have hix:Lib.index (s.drop f) p=((i - f:Nat):Int):=Lib.index_first (by simp;omega) (by rw[occ_drop,show f+(i - f)=i by omega];exact hoc) fun j hj=>by
   rw[occ_drop];exact hall _ (by omega) (by omega)
  rw[pieces_at hne hix,List.drop_drop,show f+(i - f+p.length)=i+p.length by omega] at hpc
  generalize hx:(s.drop f).take (i - f)=x at hpc
  refine⟨cN _,cN _,⟨by rw[Int.toNat_natCast,Int.toNat_natCast];exact hf,by rw[Int.toNat_natCast];exact hi⟩,x,by rw[Int.toNat_natCast,Int.toNat_natCast];exact hx.symm,?_⟩
  conv=>whnf
  cases o with
  |nil=>
   refine⟨⟨rfl,rfl,by show(strG ([]:List By)).length+1<=4294967296;simp[strG]⟩,strG ([]++[x]),1,⟨rfl,rfl⟩,?_⟩
   conv=>whnf
   refine⟨⟨zL _,rfl,by first|exact .inr ⟨rfl,rfl⟩|exact .inl ⟨rfl,rfl⟩⟩,?_⟩
   conv=>whnf
   refine⟨s.length - (i+p.length),(by show _<s.length - i;omega),((i+p.length,i+p.length),[]++[x]),⟨h1,rL _,by show 1<=i+p.length;omega,by rw[hpc];rfl,fun j h2 h3=>?_⟩,rfl,⟨rfl,rfl,rfl,by rw[w1];rfl,by rw[w1];rfl,trivial⟩,_,rfl,rfl⟩
   exfalso;have h2':i+p.length<=j:=h2;have h3':j<i+p.length:=h3;omega
  |cons z zs=>
   refine⟨⟨rfl,strG_ok _,by show(strG (z::zs)).length+1<=4294967296;rw[strG_len];omega⟩,strG ((z::zs)++[x]),((z::zs)++[x]).length,⟨by unfold strG;rw[List.map_append];rfl,by show _=(strG (z::zs)).length+1;rw[strG_len,List.length_append];rfl⟩,?_⟩
   conv=>whnf
   refine⟨⟨zL _,by first|rfl|(rw[strG_len];rfl)|(rw[strG_len];simp),by first|exact .inr ⟨rfl,rfl⟩|exact .inl ⟨rfl,rfl⟩⟩,?_⟩
   conv=>whnf
   refine⟨s.length - (i+p.length),(by show _<s.length - i;omega),((i+p.length,i+p.length),(z::zs)++[x]),⟨h1,rL _,by show((z::zs)++[x]).length<=_;rw[List.length_append];simp only[List.length_cons,List.length_nil] at ho⊢;omega,by show _=((z::zs)++[x])++_;rw[hpc,List.append_assoc];rfl,fun j h2 h3=>?_⟩,rfl,⟨rfl,rfl,rfl,by rw[w1];rfl,by rw[w1];rfl,trivial⟩,_,rfl,rfl⟩
   exfalso;have h2':i+p.length<=j:=h2;have h3':j<i+p.length:=h3;omega
theorem r_pair [MaxL] (s:By) (hs:s.length<=1000000):SC Tryz.prog 43 [.s s] [] (.val (.tup [.s (pairR s).1.1,.s (pairR s).1.2,.b (pairR s).2])) []:=by
 have hc:=r_Cut s [32] hs (by simp) (List.cons_ne_nil _ _)
 have hb:=(pieces_len (List.cons_ne_nil 32 []) s.length s (rL _)).2
 generalize hG:pairR s=G
 unfold pairR at hG
 generalize pieces [32] s=L at hc hb hG
 rcases L with _|⟨a,_|⟨o,_|⟨b,_|⟨d,l⟩⟩⟩⟩
 case nil|cons.nil|cons.cons.nil=>
  subst hG
  refine gwS Tryz.func43 rfl ?_
  conv=>whnf
  refine callP hc (wR _) rfl (fun _=>rfl) (Cl.sl (strG_cl _)) ?_
  conv=>whnf
  exact owes_wk (.refl _) (fun _=>rfl)
 case cons.cons.cons.cons=>
  subst hG
  refine gwS Tryz.func43 rfl ?_
  conv=>whnf
  refine callP hc (wR _) rfl (fun _=>rfl) (Cl.sl (strG_cl _)) ?_
  conv=>whnf
  exact owes_wk (.refl _) (fun _=>rfl)
 case cons.cons.cons.nil=>
  have f1:=r_Formed a (by have:=hb a (by simp);omega)
  have f2:=r_Formed b (by have:=hb b (by simp);omega)
  cases h1:letters a with
  |false=>
   obtain rfl:G=(([],[]),false):=by rw[<-hG];simp[h1]
   rw[h1] at f1
   refine gwS Tryz.func43 rfl ?_
   conv=>whnf
   refine callP hc (wR _) rfl (fun _=>rfl) (Cl.sl (strG_cl _)) ?_
   conv=>whnf
   refine⟨Int.le_refl 0,.s a,rfl,rfl,?_⟩
   conv=>whnf
   refine callP f1 (by first|exact wR _|exact wC (Wk.sl _ _) (wR _)|exact wC (Wk.sl _ _) (wC (Wk.sl _ _) (wR _))|exact wC (Wk.refl _) (wC (Wk.sl _ _) (wR _))) rfl (by first|exact fun _=>rfl|exact cA|exact cB fun _=>rfl) (by first|exact fun _=>rfl|exact cA|exact cB fun _=>rfl) ?_
   conv=>whnf
   exact owes_wk (.refl _) (fun _=>rfl)
  |true=>
  rw[h1] at f1
  by_cases h2:o=[111,102]
  ·subst h2
   cases h3:letters b with
   |false=>
    obtain rfl:G=(([],[]),false):=by rw[<-hG];simp[h3]
    rw[h3] at f2
    refine gwS Tryz.func43 rfl ?_
    conv=>whnf
    refine callP hc (wR _) rfl (fun _=>rfl) (Cl.sl (strG_cl _)) ?_
    conv=>whnf
    refine⟨Int.le_refl 0,.s a,rfl,rfl,?_⟩
    conv=>whnf
    refine callP f1 (by first|exact wR _|exact wC (Wk.sl _ _) (wR _)|exact wC (Wk.sl _ _) (wC (Wk.sl _ _) (wR _))|exact wC (Wk.refl _) (wC (Wk.sl _ _) (wR _))) rfl (by first|exact fun _=>rfl|exact cA|exact cB fun _=>rfl) (by first|exact fun _=>rfl|exact cA|exact cB fun _=>rfl) ?_
    conv=>whnf
    refine⟨by decide,.s [111,102],rfl,rfl,?_⟩
    conv=>whnf
    refine⟨by decide,.s b,rfl,rfl,?_⟩
    conv=>whnf
    refine callP f2 (by first|exact wR _|exact wC (Wk.sl _ _) (wR _)|exact wC (Wk.sl _ _) (wC (Wk.sl _ _) (wR _))|exact wC (Wk.refl _) (wC (Wk.sl _ _) (wR _))) rfl (by first|exact fun _=>rfl|exact cA|exact cB fun _=>rfl) (by first|exact fun _=>rfl|exact cA|exact cB fun _=>rfl) ?_
    conv=>whnf
    exact owes_wk (.refl _) (fun _=>rfl)
   |true=>
    obtain rfl:G=((a,b),true):=by rw[<-hG];simp[h1,h3]
    rw[h3] at f2
    refine gwS Tryz.func43 rfl ?_
    conv=>whnf
    refine callP hc (wR _) rfl (fun _=>rfl) (Cl.sl (strG_cl _)) ?_
    conv=>whnf
    refine⟨Int.le_refl 0,.s a,rfl,rfl,?_⟩
    conv=>whnf
    refine callP f1 (by first|exact wR _|exact wC (Wk.sl _ _) (wR _)|exact wC (Wk.sl _ _) (wC (Wk.sl _ _) (wR _))|exact wC (Wk.refl _) (wC (Wk.sl _ _) (wR _))) rfl (by first|exact fun _=>rfl|exact cA|exact cB fun _=>rfl) (by first|exact fun _=>rfl|exact cA|exact cB fun _=>rfl) ?_
    conv=>whnf
    refine⟨by decide,.s [111,102],rfl,rfl,?_⟩
    conv=>whnf
    refine⟨by decide,.s b,rfl,rfl,?_⟩
    conv=>whnf
    refine callP f2 (by first|exact wR _|exact wC (Wk.sl _ _) (wR _)|exact wC (Wk.sl _ _) (wC (Wk.sl _ _) (wR _))|exact wC (Wk.refl _) (wC (Wk.sl _ _) (wR _))) rfl (by first|exact fun _=>rfl|exact cA|exact cB fun _=>rfl) (by first|exact fun _=>rfl|exact cA|exact cB fun _=>rfl) ?_
    conv=>whnf
    refine GDraw.calm (by kernel_rfl) ?_
    conv=>whnf
    refine⟨by decide,.s a,rfl,rfl,?_⟩
    conv=>whnf
    refine⟨by decide,.s b,rfl,rfl,?_⟩
    conv=>whnf
    exact owes_wk (.refl _) (fun _=>rfl)
  ·obtain rfl:G=(([],[]),false):=by rw[<-hG];simp[h2]
   refine gwS Tryz.func43 rfl ?_
   conv=>whnf
   refine callP hc (wR _) rfl (fun _=>rfl) (Cl.sl (strG_cl _)) ?_
   conv=>whnf
   refine⟨Int.le_refl 0,.s a,rfl,rfl,?_⟩
   conv=>whnf
   refine callP f1 (by first|exact wR _|exact wC (Wk.sl _ _) (wR _)|exact wC (Wk.sl _ _) (wC (Wk.sl _ _) (wR _))|exact wC (Wk.refl _) (wC (Wk.sl _ _) (wR _))) rfl (by first|exact fun _=>rfl|exact cA|exact cB fun _=>rfl) (by first|exact fun _=>rfl|exact cA|exact cB fun _=>rfl) ?_
   conv=>whnf
   refine⟨by decide,.s o,rfl,rfl,?_⟩
   conv=>whnf
   refine GIf.mk (fun h4=>?_) (fun h4=>?_)<;>conv=>whnf
   ·exact owes_wk (.refl _) (fun _=>rfl)
   ·exfalso;exact h2 (by simpa using h4)
def pairG (p:By×By):GV:=.agg [.s p.1,.s p.2]
def itG (l:List (By×By)):List GV:=l.map pairG
def recC (r:VwR):List GV:=[.s r.name,.s r.of,.sl .none (itG r.items),.s r.only]
def recG (r:VwR):GV:=.agg (recC r)
theorem pairG_cl [MaxL] (p:By×By):Cl (pairG p):=fun _=>rfl
theorem itG_cl [MaxL] (l:List (By×By)):ClL (itG l):=ClL.mapOf pairG_cl l
theorem itG_len (l:List (By×By)):(itG l).length=l.length:=by simp[itG]
theorem itG_ok (l:List (By×By)):(itG l).all (fun x=>x.cells.length==2)=true:=by
 rw[List.all_eq_true];intro x hx
 obtain⟨p,_,rfl⟩:=List.mem_map.1 hx
 rfl
theorem recC_cl [MaxL] (r:VwR):ClL (recC r):=.cons (.s _) (.cons (.s _) (.cons (Cl.sl (itG_cl _)) (.cons (.s _) .nil)))
theorem recG_cl [MaxL] (r:VwR):Cl (recG r):=Cl.agg (recC_cl r)
theorem wk_t2' [MaxL] {a b:GV} (c:GV) (h:Wk a b):Wk (.tup [a,c]) (.tup [b,c]):=wk_t2 h (.refl _)
theorem wk_rec [MaxL] {a b d:GV} (k:Tok) (xs:List GV):Wk (.agg [a,b,.sl k xs,d]) (.agg [a,b,.sl .none xs,d]):=Wk.agg rfl fun j g g' h h'=>by
 match j,h,h' with
 |0,h,h'=>cases h;cases h';exact .refl _
 |1,h,h'=>cases h;cases h';exact .refl _
 |2,h,h'=>cases h;cases h';exact Wk.sl _ _
 |3,h,h'=>cases h;cases h';exact .refl _
 |j+4,h,h'=>simp at h
theorem strG_atV {l:List By} {i:Nat} {x:By} (h:l[i]?=some x):(strG l)[((i:Nat):Int).toNat]?=some (.s x):=by
 rw[Int.toNat_natCast];unfold strG;rw[List.getElem?_map,h];rfl
def box0:GObj:=.box 68 [.s [],.s [],.sl .full [],.s []]
def rrH (n f on:By):List (By×By)->List GObj
 |[]=>[box0,.box 68 [.s n,.s f,.sl .full [],.s on]]
 |p::D=>[box0,.box 68 [.s n,.s f,.sl (.own 3) (itG (p::D)),.s on],.own 1 2 70,.own (D.length+1) 2 70]
theorem rrH_ren [MaxL] (n f on:By) (D:List (By×By)) (e:Nat->Nat) (he:∀i,i<(rrH n f on D).length->e i=i):(rrH n f on D).map (GObj.ren e)=rrH n f on D:=by
 cases D with
 |nil=>rfl
 |cons p D=>
  show[box0.ren e,GObj.box _ [.s n,.s f,(GV.sl (.own 3) (itG (p::D))).ren e,.s on],_,_]=_
  rw[ren_own (he 3 (by simp[rrH])) (itG_cl _)];rfl
theorem rrH_held [MaxL] (n f on:By) (D:List (By×By)):(rrH n f on D).all GObj.notHeld=true:=by cases D<;>rfl
theorem r_rr [MaxL] (s:By) (hs:s.length<=10000):∃r:VwR,SC Tryz.prog 42 [.s s] [] (.val (.tup [recG r,.b (recR s).2])) []/\((recR s).2=true->r=(recR s).1):=by
 have f1:=r_Find s opW (by omega) (by simp[opW]) (by simp[opW])
 rcases cut_cases s opW with⟨a,t,e1,c1,i1,_⟩|⟨c1,i1⟩
 rotate_left
 ·have hR:recR s=(r0V,false):=by unfold recR;rw[c1];rfl
  rw[hR]
  rw[i1] at f1
  refine⟨r0V,?_,fun h=>by cases h⟩
  refine gwS Tryz.func42 rfl ?_
  conv=>whnf
  repeat (refine⟨_,⟨rfl,zL _,rfl,bL rfl⟩,?_⟩;conv=>whnf)
  refine callP f1 (wR _) rfl (fun _=>rfl) (.i _ _) ?_
  conv=>whnf
  repeat (refine⟨_,⟨rfl,zL _,rfl,bL rfl⟩,?_⟩;conv=>whnf)
  exact owes_wk (wk_t2' _ (wk_rec _ _)) (fun _=>rfl)
 have f2:=r_Find t clW (by have:=congrArg List.length e1;simp at this;omega) (by simp[clW]) (by simp[clW])
 rw[i1] at f1
 have la:s.length=a.length+3+t.length:=by have:=congrArg List.length e1;simp[opW] at this;omega
 have sd:s.drop (a.length+3)=t:=by rw[e1];exact List.drop_left' (by simp[opW])
 have st:s.take a.length=a:=by rw[e1,List.append_assoc];exact List.take_left' rfl
 have w1:IntKind.i64.wrap (((a.length:Nat):Int)+3)=((a.length+3:Nat):Int):=by rw[wrap_in (by omega) (by omega)];omega
 rcases cut_cases t clW with⟨m,o,e2,c2,i2,_⟩|⟨c2,i2⟩
 rotate_left
 ·have hR:recR s=(r0V,false):=by unfold recR;simp only[c1,c2];rfl
  rw[hR]
  rw[i2] at f2
  refine⟨r0V,?_,fun h=>by cases h⟩
  refine gwS Tryz.func42 rfl ?_
  conv=>whnf
  repeat (refine⟨_,⟨rfl,zL _,rfl,bL rfl⟩,?_⟩;conv=>whnf)
  refine callP f1 (wR _) rfl (fun _=>rfl) (.i _ _) ?_
  conv=>whnf
  refine⟨by rw[w1];exact cN _,⟨by rw[w1,Int.toNat_natCast];omega,rL _⟩,t,by rw[w1,Int.toNat_natCast,sd,List.take_of_length_le (by omega)],?_⟩
  conv=>whnf
  refine callP f2 (wR _) rfl (fun _=>rfl) (.i _ _) ?_
  conv=>whnf
  repeat (refine⟨_,⟨rfl,zL _,rfl,bL rfl⟩,?_⟩;conv=>whnf)
  exact owes_wk (wk_t2' _ (wk_rec _ _)) (fun _=>rfl)
 rw[i2] at f2
 have f3:=r_pair a (by omega)
 have lt:t.length=m.length+2+o.length:=by have:=congrArg List.length e2;simp[clW] at this;omega
 have sdt:t.drop (m.length+2)=o:=by rw[e2];exact List.drop_left' (by simp[clW])
 have stt:t.take m.length=m:=by rw[e2,List.append_assoc];exact List.take_left' rfl
 have w2:IntKind.i64.wrap (((m.length:Nat):Int)+2)=((m.length+2:Nat):Int):=by rw[wrap_in (by omega) (by omega)];omega
 have f4:=r_Cut m semi (by omega) (by simp[semi]) (by simp[semi])
 have hlen:=pieces_len (sub:=semi) (by simp[semi]) m.length m (rL _)
 have hR:recR s=if o≠[]/\(o.length<=6∨o.take 6≠onlyW) then(r0V,false) else(⟨(pairR a).1.1,(pairR a).1.2,(pieces semi m).map fun p=>(pairR p).1,o.drop 6⟩,(pairR a).2&&(pieces semi m).all fun p=>(pairR p).2):=by
  unfold recR;simp only[c1,c2];rfl
 by_cases ho:o≠[]/\(o.length<=6∨o.take 6≠onlyW)
 ·rw[hR,if_pos ho]
  refine⟨r0V,?_,fun h=>by cases h⟩
  refine gwS Tryz.func42 rfl ?_
  conv=>whnf
  repeat (refine⟨_,⟨rfl,zL _,rfl,bL rfl⟩,?_⟩;conv=>whnf)
  refine callP f1 (wR _) rfl (fun _=>rfl) (.i _ _) ?_
  conv=>whnf
  refine⟨by rw[w1];exact cN _,⟨by rw[w1,Int.toNat_natCast];omega,rL _⟩,t,by rw[w1,Int.toNat_natCast,sd,List.take_of_length_le (by omega)],?_⟩
  conv=>whnf
  refine callP f2 (wR _) rfl (fun _=>rfl) (.i _ _) ?_
  conv=>whnf
  refine⟨by rw[w2];exact cN _,⟨by rw[w2,Int.toNat_natCast];omega,rL _⟩,o,by rw[w2,Int.toNat_natCast,sdt,List.take_of_length_le (by omega)],?_⟩
  conv=>whnf
  refine GIf.mk (fun h0=>?_) (fun h0=>?_)<;>conv=>whnf
  rotate_left
  ·exact absurd (by simpa using h0) ho.1
  refine GIf.mk (fun h6=>?_) (fun h6=>?_)<;>conv=>whnf
  ·skip
   repeat (refine⟨_,⟨rfl,zL _,rfl,bL rfl⟩,?_⟩;conv=>whnf)
   exact owes_wk (wk_t2' _ (wk_rec _ _)) (fun _=>rfl)
  have h6':6<o.length:=by have:=of_decide_eq_false h6;omega
  refine⟨by decide,⟨zL _,by show 6<=o.length;omega⟩,o.take 6,rfl,?_⟩
  conv=>whnf
  refine GIf.mk (fun h7=>?_) (fun h7=>?_)<;>conv=>whnf
  ·skip
   repeat (refine⟨_,⟨rfl,zL _,rfl,bL rfl⟩,?_⟩;conv=>whnf)
   exact owes_wk (wk_t2' _ (wk_rec _ _)) (fun _=>rfl)
  ·exfalso
   rcases ho.2 with q|q
   ·omega
   ·exact q (show o.take 6=onlyW by simpa[onlyW] using h7)
 rw[hR,if_neg ho]
 generalize pieces semi m=L at f4 hlen
 refine⟨_,?_,fun _=>rfl⟩
 generalize hpa:pairR a=A at f3
 obtain⟨⟨An,Af⟩,A2⟩:=A
 show SC _ _ _ _ (.val (.tup [recG ⟨An,Af,L.map fun p=>(pairR p).1,o.drop 6⟩,.b (A2&&L.all fun p=>(pairR p).2)])) []
 refine gwS Tryz.func42 rfl ?_
 conv=>whnf
 repeat (refine⟨_,⟨rfl,zL _,rfl,bL rfl⟩,?_⟩;conv=>whnf)
 refine callP f1 (wR _) rfl (fun _=>rfl) (.i _ _) ?_
 conv=>whnf
 refine⟨by rw[w1];exact cN _,⟨by rw[w1,Int.toNat_natCast];omega,rL _⟩,t,by rw[w1,Int.toNat_natCast,sd,List.take_of_length_le (by omega)],?_⟩
 conv=>whnf
 refine callP f2 (wR _) rfl (fun _=>rfl) (.i _ _) ?_
 conv=>whnf
 refine⟨by rw[w2];exact cN _,⟨by rw[w2,Int.toNat_natCast];omega,rL _⟩,o,by rw[w2,Int.toNat_natCast,sdt,List.take_of_length_le (by omega)],?_⟩
 conv=>whnf
 refine GIf.mk (fun h0=>?_) (fun h0=>?_)<;>conv=>whnf
 ·have h0':o≠[]:=by simpa using h0
  have hn:¬(o.length<=6∨o.take 6≠onlyW):=fun q=>ho ⟨h0',q⟩
  have h6:6<o.length:=by
   rcases Nat.lt_or_ge 6 o.length with q|q
   ·exact q
   ·exact absurd (.inl q) hn
  have h7:o.take 6=onlyW:=by
   by_cases q:o.take 6=onlyW
   ·exact q
   ·exact absurd (.inr q) hn
  refine GIf.mk (fun h8=>?_) (fun h8=>?_)<;>conv=>whnf
  ·exfalso;have:=of_decide_eq_true h8;omega
  refine⟨by decide,⟨zL _,by show 6<=o.length;omega⟩,o.take 6,rfl,?_⟩
  conv=>whnf
  refine GIf.mk (fun h9=>?_) (fun h9=>?_)<;>conv=>whnf
  ·exfalso;rw[h7] at h9;simp[onlyW] at h9
  refine⟨by decide,⟨by show 6<=o.length;omega,rL _⟩,o.drop 6,by rw[List.take_of_length_le (by simp)];rfl,?_⟩
  conv=>whnf
  repeat (refine⟨_,⟨rfl,zL _,rfl,bL rfl⟩,?_⟩;conv=>whnf)
  refine⟨cN _,⟨zL _,by rw[Int.toNat_natCast];omega⟩,a,by rw[Int.toNat_natCast];exact st.symm,?_⟩
  conv=>whnf
  refine callP f3 (wR _) rfl (fun _=>rfl) (fun _=>rfl) ?_
  conv=>whnf
  repeat (refine⟨_,⟨rfl,zL _,rfl,bL rfl⟩,?_⟩;conv=>whnf)
  refine⟨cN _,⟨zL _,by rw[Int.toNat_natCast];omega⟩,m,by rw[Int.toNat_natCast];exact stt.symm,?_⟩
  conv=>whnf
  refine callP f4 (wR _) rfl (fun _=>rfl) (Cl.sl (strG_cl _)) ?_
  conv=>whnf
  refine GLoop.introS (fun q:(Nat×Bool)×List (By×By)=>q.1.1<=L.length/\q.1.2=(A2&&(L.take q.1.1).all fun p=>(pairR p).2)/\q.2=(L.take q.1.1).map fun p=>(pairR p).1) (fun q=>[(2,.ptr 0 0),(4,.ptr 1 0),(9,.b q.1.2),(10,.sl .none (strG L)),(11,.i .i64 (q.1.1:Nat))]) (fun q=>⟨rrH An Af (o.drop 6) q.2,0,[]⟩) (fun q=>L.length - q.1.1) ((0,A2),[]) ⟨zL _,(Bool.and_true _).symm,rfl⟩ ⟨rfl,rfl,rfl,rfl,rfl,trivial⟩ rfl (fun q _=>by cases q.2<;>simp[rrH]) (fun q _=>rrH_held _ _ _ _) (fun q _ e he=>?_) (fun q φ0 hi=>?_)
  ·refine⟨rrH_ren _ _ _ _ e he,rfl,?_⟩
   show[GV.ptr (e 0) 0,GV.ptr (e 1) 0,_,(GV.sl .none (strG L)).ren e,_]=_
   rw[he 0 (by cases q.2<;>simp[rrH]),he 1 (by cases q.2<;>simp[rrH]),Cl.sl (strG_cl L) e];rfl
  obtain⟨⟨i,b⟩,D⟩:=q
  obtain⟨hi,hb,hD⟩:=hi
  replace hi:i<=L.length:=hi
  replace hb:b=(A2&&(L.take i).all fun p=>(pairR p).2):=hb
  replace hD:D=(L.take i).map fun p=>(pairR p).1:=hD
  have hDl:D.length=i:=by rw[hD,List.length_map,List.length_take];omega
  by_cases hlt:i<L.length
  rotate_left
  ·have hie:i=L.length:=by omega
   rw[hie,List.take_length] at hb hD
   rw[<-hD,<-hb]
   cases D with
   |nil=>
    conv=>whnf
    refine GIf.mk (fun h=>?_) (fun h=>?_)<;>conv=>whnf
    ·exfalso;have h9:((i:Nat):Int)<((strG L).length:Nat):=of_decide_eq_true h;rw[strG_len] at h9;omega
    repeat (refine⟨_,⟨rfl,zL _,rfl,bL rfl⟩,?_⟩;conv=>whnf)
    exact owes_wk (wk_t2' _ (wk_rec _ _)) (Cl.tup (.cons (recG_cl ⟨_,_,_,_⟩) (.cons (.b _) .nil)))
   |cons p D=>
    conv=>whnf
    refine GIf.mk (fun h=>?_) (fun h=>?_)<;>conv=>whnf
    ·exfalso;have h9:((i:Nat):Int)<((strG L).length:Nat):=of_decide_eq_true h;rw[strG_len] at h9;omega
    repeat (refine⟨_,⟨rfl,zL _,rfl,bL rfl⟩,?_⟩;conv=>whnf)
    exact owes_wk (wk_t2' _ (wk_rec _ _)) (Cl.tup (.cons (recG_cl ⟨_,_,_,_⟩) (.cons (.b _) .nil)))
  obtain⟨x,hx⟩:∃x,L[i]?=some x:=⟨L[i],gL hlt⟩
  have hxg:=strG_atV hx
  have hxl:=hlen.2 x (List.mem_of_getElem? hx)
  have fx:=r_pair x (by omega)
  have ht:L.take (i+1)=L.take i++[x]:=by rw[List.take_add_one,hx];rfl
  have nb:(b&&(pairR x).2)=(A2&&(L.take (i+1)).all fun p=>(pairR p).2):=by rw[hb,ht,List.all_append,Bool.and_assoc];simp
  have nD:D++[(pairR x).1]=(L.take (i+1)).map fun p=>(pairR p).1:=by rw[hD,ht,List.map_append];rfl
  generalize pairR x=X at fx nb nD
  obtain⟨⟨Xa,Xb⟩,X2⟩:=X
  have w4:=wrap_succ (i:=i) (by omega)
  replace nb:(b&&X2)=_:=nb
  replace nD:D++[(Xa,Xb)]=_:=nD
  rcases b with _|_<;>rcases D with _|⟨p,D⟩
  all_goals
   conv=>whnf
   refine GIf.mk (fun h=>?_) (fun h=>?_)<;>conv=>whnf
   rotate_left
   ·exfalso;have h9:¬((i:Nat):Int)<((strG L).length:Nat):=of_decide_eq_false h;rw[strG_len] at h9;omega
   refine⟨cN _,.s x,hxg,rfl,?_⟩
   conv=>whnf
   refine callP fx (wR _) rfl (fun _=>rfl) (fun _=>rfl) ?_
   conv=>whnf
  ·refine⟨⟨rfl,rfl,bL rfl⟩,itG [(Xa,Xb)],1,⟨rfl,rfl⟩,?_⟩
   conv=>whnf
   refine⟨_,⟨rfl,zL _,rfl,bL rfl⟩,?_⟩
   conv=>whnf
   exact⟨L.length - (i+1),(by show _<L.length - i;omega),((i+1,false&&X2),[]++[(Xa,Xb)]),⟨hlt,nb,nD⟩,rfl,⟨rfl,rfl,rfl,rfl,w4,trivial⟩,[],rfl,rfl⟩
  ·refine⟨⟨rfl,itG_ok _,by show(itG (p::D)).length+1<=4294967296;rw[itG_len];omega⟩,itG ((p::D)++[(Xa,Xb)]),((p::D)++[(Xa,Xb)]).length,⟨by unfold itG;rw[List.map_append];rfl,by show _=(itG (p::D)).length+1;rw[itG_len,List.length_append];rfl⟩,?_⟩
   conv=>whnf
   refine⟨⟨zL _,by show _=(itG (p::D)).length;rw[itG_len];rfl,.inl ⟨rfl,rfl⟩⟩,?_⟩
   conv=>whnf
   refine⟨_,⟨rfl,zL _,rfl,bL rfl⟩,?_⟩
   conv=>whnf
   exact⟨L.length - (i+1),(by show _<L.length - i;omega),((i+1,false&&X2),(p::D)++[(Xa,Xb)]),⟨hlt,nb,nD⟩,rfl,⟨rfl,rfl,rfl,rfl,w4,trivial⟩,_,rfl,rfl⟩
  ·refine⟨⟨rfl,rfl,bL rfl⟩,itG [(Xa,Xb)],1,⟨rfl,rfl⟩,?_⟩
   conv=>whnf
   refine⟨_,⟨rfl,zL _,rfl,bL rfl⟩,?_⟩
   conv=>whnf
   exact⟨L.length - (i+1),(by show _<L.length - i;omega),((i+1,true&&X2),[]++[(Xa,Xb)]),⟨hlt,nb,nD⟩,rfl,⟨rfl,rfl,rfl,rfl,w4,trivial⟩,[],rfl,rfl⟩
  ·refine⟨⟨rfl,itG_ok _,by show(itG (p::D)).length+1<=4294967296;rw[itG_len];omega⟩,itG ((p::D)++[(Xa,Xb)]),((p::D)++[(Xa,Xb)]).length,⟨by unfold itG;rw[List.map_append];rfl,by show _=(itG (p::D)).length+1;rw[itG_len,List.length_append];rfl⟩,?_⟩
   conv=>whnf
   refine⟨⟨zL _,by show _=(itG (p::D)).length;rw[itG_len];rfl,.inl ⟨rfl,rfl⟩⟩,?_⟩
   conv=>whnf
   refine⟨_,⟨rfl,zL _,rfl,bL rfl⟩,?_⟩
   conv=>whnf
   exact⟨L.length - (i+1),(by show _<L.length - i;omega),((i+1,true&&X2),(p::D)++[(Xa,Xb)]),⟨hlt,nb,nD⟩,rfl,⟨rfl,rfl,rfl,rfl,w4,trivial⟩,_,rfl,rfl⟩
 ·have h0':o=[]:=by simpa using h0
  rw[h0',List.drop_nil]
  refine⟨cN _,⟨zL _,by rw[Int.toNat_natCast];omega⟩,a,by rw[Int.toNat_natCast];exact st.symm,?_⟩
  conv=>whnf
  refine callP f3 (wR _) rfl (fun _=>rfl) (fun _=>rfl) ?_
  conv=>whnf
  repeat (refine⟨_,⟨rfl,zL _,rfl,bL rfl⟩,?_⟩;conv=>whnf)
  refine⟨cN _,⟨zL _,by rw[Int.toNat_natCast];omega⟩,m,by rw[Int.toNat_natCast];exact stt.symm,?_⟩
  conv=>whnf
  refine callP f4 (wR _) rfl (fun _=>rfl) (Cl.sl (strG_cl _)) ?_
  conv=>whnf
  refine GLoop.introS (fun q:(Nat×Bool)×List (By×By)=>q.1.1<=L.length/\q.1.2=(A2&&(L.take q.1.1).all fun p=>(pairR p).2)/\q.2=(L.take q.1.1).map fun p=>(pairR p).1) (fun q=>[(2,.ptr 0 0),(4,.ptr 1 0),(9,.b q.1.2),(10,.sl .none (strG L)),(11,.i .i64 (q.1.1:Nat))]) (fun q=>⟨rrH An Af [] q.2,0,[]⟩) (fun q=>L.length - q.1.1) ((0,A2),[]) ⟨zL _,(Bool.and_true _).symm,rfl⟩ ⟨rfl,rfl,rfl,rfl,rfl,trivial⟩ rfl (fun q _=>by cases q.2<;>simp[rrH]) (fun q _=>rrH_held _ _ _ _) (fun q _ e he=>?_) (fun q φ0 hi=>?_)
  ·refine⟨rrH_ren _ _ _ _ e he,rfl,?_⟩
   show[GV.ptr (e 0) 0,GV.ptr (e 1) 0,_,(GV.sl .none (strG L)).ren e,_]=_
   rw[he 0 (by cases q.2<;>simp[rrH]),he 1 (by cases q.2<;>simp[rrH]),Cl.sl (strG_cl L) e];rfl
  obtain⟨⟨i,b⟩,D⟩:=q
  obtain⟨hi,hb,hD⟩:=hi
  replace hi:i<=L.length:=hi
  replace hb:b=(A2&&(L.take i).all fun p=>(pairR p).2):=hb
  replace hD:D=(L.take i).map fun p=>(pairR p).1:=hD
  have hDl:D.length=i:=by rw[hD,List.length_map,List.length_take];omega
  by_cases hlt:i<L.length
  rotate_left
  ·have hie:i=L.length:=by omega
   rw[hie,List.take_length] at hb hD
   rw[<-hD,<-hb]
   cases D with
   |nil=>
    conv=>whnf
    refine GIf.mk (fun h=>?_) (fun h=>?_)<;>conv=>whnf
    ·exfalso;have h9:((i:Nat):Int)<((strG L).length:Nat):=of_decide_eq_true h;rw[strG_len] at h9;omega
    repeat (refine⟨_,⟨rfl,zL _,rfl,bL rfl⟩,?_⟩;conv=>whnf)
    exact owes_wk (wk_t2' _ (wk_rec _ _)) (Cl.tup (.cons (recG_cl ⟨_,_,_,_⟩) (.cons (.b _) .nil)))
   |cons p D=>
    conv=>whnf
    refine GIf.mk (fun h=>?_) (fun h=>?_)<;>conv=>whnf
    ·exfalso;have h9:((i:Nat):Int)<((strG L).length:Nat):=of_decide_eq_true h;rw[strG_len] at h9;omega
    repeat (refine⟨_,⟨rfl,zL _,rfl,bL rfl⟩,?_⟩;conv=>whnf)
    exact owes_wk (wk_t2' _ (wk_rec _ _)) (Cl.tup (.cons (recG_cl ⟨_,_,_,_⟩) (.cons (.b _) .nil)))
  obtain⟨x,hx⟩:∃x,L[i]?=some x:=⟨L[i],gL hlt⟩
  have hxg:=strG_atV hx
  have hxl:=hlen.2 x (List.mem_of_getElem? hx)
  have fx:=r_pair x (by omega)
  have ht:L.take (i+1)=L.take i++[x]:=by rw[List.take_add_one,hx];rfl
  have nb:(b&&(pairR x).2)=(A2&&(L.take (i+1)).all fun p=>(pairR p).2):=by rw[hb,ht,List.all_append,Bool.and_assoc];simp
  have nD:D++[(pairR x).1]=(L.take (i+1)).map fun p=>(pairR p).1:=by rw[hD,ht,List.map_append];rfl
  generalize pairR x=X at fx nb nD
  obtain⟨⟨Xa,Xb⟩,X2⟩:=X
  have w4:=wrap_succ (i:=i) (by omega)
  replace nb:(b&&X2)=_:=nb
  replace nD:D++[(Xa,Xb)]=_:=nD
  rcases b with _|_<;>rcases D with _|⟨p,D⟩
  all_goals
   conv=>whnf
   refine GIf.mk (fun h=>?_) (fun h=>?_)<;>conv=>whnf
   rotate_left
   ·exfalso;have h9:¬((i:Nat):Int)<((strG L).length:Nat):=of_decide_eq_false h;rw[strG_len] at h9;omega
   refine⟨cN _,.s x,hxg,rfl,?_⟩
   conv=>whnf
   refine callP fx (wR _) rfl (fun _=>rfl) (fun _=>rfl) ?_
   conv=>whnf
  ·refine⟨⟨rfl,rfl,bL rfl⟩,itG [(Xa,Xb)],1,⟨rfl,rfl⟩,?_⟩
   conv=>whnf
   refine⟨_,⟨rfl,zL _,rfl,bL rfl⟩,?_⟩
   conv=>whnf
   exact⟨L.length - (i+1),(by show _<L.length - i;omega),((i+1,false&&X2),[]++[(Xa,Xb)]),⟨hlt,nb,nD⟩,rfl,⟨rfl,rfl,rfl,rfl,w4,trivial⟩,[],rfl,rfl⟩
  ·refine⟨⟨rfl,itG_ok _,by show(itG (p::D)).length+1<=4294967296;rw[itG_len];omega⟩,itG ((p::D)++[(Xa,Xb)]),((p::D)++[(Xa,Xb)]).length,⟨by unfold itG;rw[List.map_append];rfl,by show _=(itG (p::D)).length+1;rw[itG_len,List.length_append];rfl⟩,?_⟩
   conv=>whnf
   refine⟨⟨zL _,by show _=(itG (p::D)).length;rw[itG_len];rfl,.inl ⟨rfl,rfl⟩⟩,?_⟩
   conv=>whnf
   refine⟨_,⟨rfl,zL _,rfl,bL rfl⟩,?_⟩
   conv=>whnf
   exact⟨L.length - (i+1),(by show _<L.length - i;omega),((i+1,false&&X2),(p::D)++[(Xa,Xb)]),⟨hlt,nb,nD⟩,rfl,⟨rfl,rfl,rfl,rfl,w4,trivial⟩,_,rfl,rfl⟩
  ·refine⟨⟨rfl,rfl,bL rfl⟩,itG [(Xa,Xb)],1,⟨rfl,rfl⟩,?_⟩
   conv=>whnf
   refine⟨_,⟨rfl,zL _,rfl,bL rfl⟩,?_⟩
   conv=>whnf
   exact⟨L.length - (i+1),(by show _<L.length - i;omega),((i+1,true&&X2),[]++[(Xa,Xb)]),⟨hlt,nb,nD⟩,rfl,⟨rfl,rfl,rfl,rfl,w4,trivial⟩,[],rfl,rfl⟩
  ·refine⟨⟨rfl,itG_ok _,by show(itG (p::D)).length+1<=4294967296;rw[itG_len];omega⟩,itG ((p::D)++[(Xa,Xb)]),((p::D)++[(Xa,Xb)]).length,⟨by unfold itG;rw[List.map_append];rfl,by show _=(itG (p::D)).length+1;rw[itG_len,List.length_append];rfl⟩,?_⟩
   conv=>whnf
   refine⟨⟨zL _,by show _=(itG (p::D)).length;rw[itG_len];rfl,.inl ⟨rfl,rfl⟩⟩,?_⟩
   conv=>whnf
   refine⟨_,⟨rfl,zL _,rfl,bL rfl⟩,?_⟩
   conv=>whnf
   exact⟨L.length - (i+1),(by show _<L.length - i;omega),((i+1,true&&X2),(p::D)++[(Xa,Xb)]),⟨hlt,nb,nD⟩,rfl,⟨rfl,rfl,rfl,rfl,w4,trivial⟩,_,rfl,rfl⟩
end Go.Proofs.YtldggonlkafckaaGreatDoor
