/-
  A part of the proof of ViewTexts.
-/
import Derived.Test.YtldggonlkafckaaGreatDoorQ32
import Derived.Test.YtldggonlkafckaaGreatDoorQ31
set_option linter.all false
namespace Go.Proofs.YtldggonlkafckaaGreatDoor
open Go.RowKit
set_option maxRecDepth 100000
set_option linter.unusedVariables false
def isPre (l:List UInt8):Bool:=[60,62].isPrefixOf l||[60,61].isPrefixOf l||[62,61].isPrefixOf l
theorem pre_iff (c:UInt8) (t:List UInt8):isPre (c::t)=true↔(c=60/\(t.head?=some 62∨t.head?=some 61))∨(c=62/\t.head?=some 61):=by
 cases t with
 |nil=>simp[isPre,List.isPrefixOf]
 |cons d t=>
  simp only[isPre,List.isPrefixOf,Bool.and_true,Bool.or_eq_true,Bool.and_eq_true,beq_iff_eq,List.head?_cons,Option.some.injEq]
  constructor
  ·rintro((⟨rfl,rfl⟩|⟨rfl,rfl⟩)|⟨rfl,rfl⟩)
   ·exact .inl ⟨rfl,.inl rfl⟩
   ·exact .inl ⟨rfl,.inr rfl⟩
   ·exact .inr ⟨rfl,rfl⟩
  ·rintro(⟨rfl,rfl|rfl⟩|⟨rfl,rfl⟩)
   ·exact .inl (.inl ⟨rfl,rfl⟩)
   ·exact .inl (.inr ⟨rfl,rfl⟩)
   ·exact .inr ⟨rfl,rfl⟩
theorem wlen_c (c:UInt8) (t:List UInt8):wlen (c::t)=if isPre (c::t)=true then 2 else if(isInner c||(c==45&&t.head?.any isDigit))=true then runW t else if c=34 then min (2+qlen t) (t.length+1) else 1:=rfl
theorem inner_not {c:UInt8} (h:isInner c=true):c≠60/\c≠62/\c≠45/\c≠34/\c≠40/\c≠41/\c≠58/\c≠61/\c≠32:=by
 refine⟨?_,?_,?_,?_,?_,?_,?_,?_,?_⟩<;>(rintro rfl;revert h;decide)
theorem digs_head {l:List UInt8} (h:digs l≠0):∃d r,l=d::r/\isDigit d=true:=by
 cases l with
 |nil=>exact absurd rfl h
 |cons d r=>
  refine⟨d,r,rfl,?_⟩
  cases hd:isDigit d with
  |true=>rfl
  |false=>exact absurd (by unfold digs;rw[List.takeWhile_cons,hd];rfl) h
theorem num_pos {c:UInt8} {t:List UInt8} (h:(numS (c::t)).2≠0):isDigit c=true∨(c=45/\∃d r,t=d::r/\isDigit d=true):=by
 by_cases h45:c=45
 ·subst h45
  rw[numS_M] at h
  refine .inr ⟨rfl,digs_head (fun e=>h (by rw[if_pos (.inl e)]))⟩
 ·rw[numS_P (by simpa using h45)] at h
  obtain⟨d,r,e,hd⟩:=digs_head (l:=c::t) (fun e=>h (by rw[if_pos (.inl e)]))
  cases e
  exact .inl hd
theorem lit_num {c:UInt8} {t:List UInt8} {v:Val} (h:litP (c::t)=some v) (h34:c≠34):(numS (c::t)).2=(c::t).length:=by
 rw[<-litR_eq] at h
 unfold litR at h
 split at h
 ·rename_i hc
  have:=hc.2.1
  unfold litQ at this
  rw[if_neg (by simpa using h34)] at this
  exact this
 ·cases h
theorem quote34 (t:List UInt8):quoteS (34::t) 0=qres (34::t).length 0 (rq t):=by
 unfold quoteS;rw[if_pos (show(34::t)[0]?=some 34 from rfl)];rfl
theorem lit_quote {t:List UInt8} {v:Val} (h:litP (34::t)=some v):∃s,rq t=some (s,[]):=by
 rw[<-litR_eq] at h
 unfold litR at h
 split at h
 ·rename_i hc
  have:=hc.2.1
  unfold litQ at this
  rw[if_pos (show(34::t).head?=some 34 from rfl)] at this
  replace this:(quoteS (34::t) 0).2=(34::t).length:=this
  rw[quote34] at this
  cases hr:rq t with
  |none=>rw[hr] at this;simp[qres] at this
  |some p=>
   rw[hr] at this
   obtain⟨s,r⟩:=p
   simp[qres] at this
   have hl:=rq_suf t.length (rL _) hr
   have:r=[]:=List.eq_nil_of_length_eq_zero (by omega)
   exact⟨s,by rw[this]⟩
 ·cases h
theorem whole_iff (w:List UInt8):(wholeS w).2=true↔0<(numS w).2/\(numS w).2=w.length:=by
 unfold wholeS;simp
theorem take_run (c:UInt8) (t:List UInt8):(c::t).take (runW t)=c::t.takeWhile isInner:=by
 unfold runW
 rw[Nat.add_comm,List.take_succ_cons]
 congr 1
 have:=List.prefix_iff_eq_take.1 (List.takeWhile_prefix (l:=t) isInner)
 exact this.symm
theorem tw_digit {t:List UInt8} {d:UInt8} {r:List UInt8} (h:t.takeWhile isInner=d::r):t.head?=some d:=by
 cases t with
 |nil=>cases h
 |cons a t=>
  rw[List.takeWhile_cons] at h
  split at h
  ·cases h;rfl
  ·cases h
theorem digit_inner {c:UInt8} (h:isDigit c=true):isInner c=true:=by
 unfold isInner;rw[h];simp
theorem sw_wlen {c:UInt8} {t:List UInt8} {k:Nat} (h:sw (c::t)=some k):wlen (c::t)=k:=by
 rw[wlen_c]
 simp only[sw] at h
 split at h
 ·rename_i hi
  have hn:=inner_not hi.1
  rw[if_neg (fun e=>by rcases(pre_iff c t).1 e with e|e;exact hn.1 e.1;exact hn.2.1 e.1),if_pos (by rw[hi.1];rfl)]
  split at h
  ·split at h
   ·exact Option.some.inj h
   ·cases h
  ·split at h
   ·exact Option.some.inj h
   ·cases h
 ·rename_i hi
  split at h
  ·rename_i h45
   subst h45
   split at h
   ·rename_i hw
    rw[take_run] at hw
    obtain⟨h1,h2⟩:=(whole_iff _).1 hw
    rcases num_pos (Nat.pos_iff_ne_zero.1 h1) with e|⟨_,d,r,e,hd⟩
    ·exact absurd e (by decide)
    ·rw[if_neg (fun e=>by rcases(pre_iff 45 t).1 e with e|e<;>exact absurd e.1 (by decide)),if_pos (by rw[tw_digit e];simp[hd])]
     exact Option.some.inj h
   ·cases h
  ·rename_i h45
   split at h
   ·rename_i h34
    subst h34
    split at h
    ·cases h
    ·rename_i hz
     rw[if_neg (fun e=>by rcases(pre_iff 34 t).1 e with e|e<;>exact absurd e.1 (by decide)),if_neg (by simp;decide),if_pos rfl]
     have hq:=quote34 t
     rw[hq] at h hz
     cases hr:rq t with
     |none=>rw[hr] at hz;exact absurd rfl hz
     |some p=>
      obtain⟨s,r⟩:=p
      rw[hr] at h
      have hf:=rq_form t.length (rL _) hr
      have hql:qlen t=(s.flatMap esc).length:=by rw[hf];exact qlen_of s r
      have hlen:=congrArg List.length hf
      simp only[List.length_append,List.length_cons] at hlen
      simp only[qres,Option.some.injEq,List.length_cons] at h
      rw[hql];omega
   ·rename_i h34
    split at h
    ·rename_i hp
     rw[if_pos ((pre_iff c t).2 hp)]
     exact Option.some.inj h
    ·rename_i hp
     split at h
     ·rename_i hm
      have hin:isInner c=false:=by rcases hm with rfl|rfl|rfl|rfl|rfl|rfl<;>decide
      rw[if_neg (fun e=>hp ((pre_iff c t).1 e)),if_neg (by rw[hin];simp[h45]),if_neg h34]
      exact Option.some.inj h
     ·cases h
def cw (w:By):Prop:=isName w=true∨(litP w).isSome=true∨w=[40]∨w=[41]∨w=[58]∨relop w=true
theorem name_head {c:UInt8} {t:List UInt8} (h:isName (c::t)=true):isSmall c=true:=by
 simp only[isName,Bool.and_eq_true] at h;exact h.1.2
theorem relop_head {c:UInt8} {t:List UInt8} (h:relop (c::t)=true):c=60∨c=61∨c=62:=by
 simp only[relop,rels,List.contains_eq_mem,decide_eq_true_eq,List.mem_cons,List.not_mem_nil,or_false] at h
 rcases h with h|h|h|h|h|h<;>cases h<;>simp
theorem cw_cases {c:UInt8} {t:List UInt8} (h:cw (c::t)):(isSmall c=true/\isName (c::t)=true)∨(isDigit c=true/\∃v,litP (c::t)=some v)∨(c=45/\∃v,litP (c::t)=some v)∨(c=34/\∃v,litP (c::t)=some v)∨c=40∨c=41∨c=58∨c=60∨c=61∨c=62:=by
 rcases h with h|h|h|h|h|h
 ·exact .inl ⟨name_head h,h⟩
 ·obtain⟨v,hv⟩:=Option.isSome_iff_exists.1 h
  by_cases h34:c=34
  ·exact .inr (.inr (.inr (.inl ⟨h34,v,hv⟩)))
  ·have:=lit_num hv h34
   rcases num_pos (c:=c) (t:=t) (by rw[this];simp) with e|e
   ·exact .inr (.inl ⟨e,v,hv⟩)
   ·exact .inr (.inr (.inl ⟨e.1,v,hv⟩))
 ·cases h;simp
 ·cases h;simp
 ·cases h;simp
 ·rcases relop_head h with rfl|rfl|rfl<;>simp
theorem small_iff (c:UInt8):isSmall c=true↔97<=c.toNat/\c.toNat<=122:=by simp[isSmall]
theorem small_inner {c:UInt8} (h:isSmall c=true):isInner c=true:=by unfold isInner;rw[h];rfl
theorem sw_of_cw {c:UInt8} {t:List UInt8} (h32:c≠32) (h:cw (wrd (c::t))):sw (c::t)=some (wlen (c::t)):=by
 have hw:∃u,wrd (c::t)=c::u/\(c::u)=(c::t).take (wlen (c::t)):=by
  have:=wlen_pos c t
  unfold wrd
  obtain⟨k,hk⟩:∃k,wlen (c::t)=k+1:=⟨wlen (c::t) - 1,by omega⟩
  exact⟨t.take k,by rw[hk];rfl,by rw[hk];rfl⟩
 obtain⟨u,hu,hu2⟩:=hw
 rw[hu] at h
 by_cases hin:isInner c=true
 ·have hn:=inner_not hin
  have hwl:wlen (c::t)=runW t:=by
   rw[wlen_c,if_neg (fun e=>by rcases(pre_iff c t).1 e with e|e;exact hn.1 e.1;exact hn.2.1 e.1),if_pos (by rw[hin];rfl)]
  rw[hwl] at hu2⊢
  simp only[sw]
  rcases cw_cases h with⟨h1,h2⟩|⟨h1,v,h2⟩|h1|h1|h1
  ·have h97:=(small_iff c).1 h1
   rw[if_pos ⟨hin,by rintro rfl;revert h1;decide⟩,if_pos h97.1,if_pos (by rw[<-hu2];exact h2)]
  ·have h97:=(isDigit_iff c).1 h1
   rw[if_pos ⟨hin,by rintro rfl;revert h1;decide⟩,if_neg (by omega),if_pos (by
    rw[<-hu2,whole_iff]
    have:=lit_num h2 hn.2.2.2.1
    exact⟨by rw[this];simp,this⟩)]
  ·exact absurd h1.1 hn.2.2.1
  ·exact absurd h1.1 hn.2.2.2.1
  ·rcases h1 with h1|h1|h1|h1|h1|h1
   ·exact absurd h1 hn.2.2.2.2.1
   ·exact absurd h1 hn.2.2.2.2.2.1
   ·exact absurd h1 hn.2.2.2.2.2.2.1
   ·exact absurd h1 hn.1
   ·exact absurd h1 hn.2.2.2.2.2.2.2.1
   ·exact absurd h1 hn.2.1
 ·have hin':isInner c=false:=by simpa using hin
  rcases cw_cases h with⟨h1,h2⟩|⟨h1,v,h2⟩|⟨rfl,v,h2⟩|⟨rfl,v,h2⟩|h1
  ·exact absurd (small_inner h1) hin
  ·exact absurd (digit_inner h1) hin
  ·have hnum:=lit_num h2 (by decide)
   rcases num_pos (c:=45) (t:=u) (by rw[hnum];simp) with e|⟨_,d,r,e,hd⟩
   ·exact absurd e (by decide)
   ·have hwl:wlen (45::t)=runW t:=by
     rw[wlen_c,if_neg (fun e=>by rcases(pre_iff 45 t).1 e with e|e<;>exact absurd e.1 (by decide)),if_pos]
     subst e
     have hle:=wlen_pos 45 t
     cases t with
     |nil=>have:=congrArg List.length hu2;simp at this;omega
     |cons a t=>
      obtain⟨k,hk⟩:∃k,wlen (45::a::t)=k+1:=⟨wlen (45::a::t) - 1,by omega⟩
      rw[hk,List.take_succ_cons] at hu2
      cases k with
      |zero=>simp at hu2
      |succ k=>
       rw[List.take_succ_cons] at hu2
       simp at hu2
       simp[<-hu2.1,hd]
    rw[hwl] at hu2⊢
    simp only[sw]
    rw[if_neg (fun e=>hin e.1),if_pos trivial,if_pos (by rw[<-hu2,whole_iff];exact⟨by rw[hnum];simp,hnum⟩)]
  ·obtain⟨s,hs⟩:=lit_quote h2
   have hf:=rq_form u.length (rL _) hs
   have ht:t=u++t.drop u.length:=by
    have h3:u=t.take u.length:=by
     have hle:=wlen_pos 34 t
     obtain⟨k,hk⟩:∃k,wlen (34::t)=k+1:=⟨wlen (34::t) - 1,by omega⟩
     rw[hk,List.take_succ_cons] at hu2
     have h4:=(List.cons.inj hu2).2
     rw[h4,List.length_take]
     rcases Nat.le_total k t.length with hkt|hkt
     ·rw[Nat.min_eq_left hkt]
     ·rw[Nat.min_eq_right hkt,List.take_length,List.take_of_length_le hkt]
    conv=>lhs;rw[<-List.take_append_drop u.length t]
    rw[<-h3]
   generalize t.drop u.length=rest at ht
   rw[hf,List.append_assoc] at ht
   replace ht:t=s.flatMap esc++34::rest:=ht
   have hr:rq t=some (s,rest):=by rw[ht];exact rq_of s rest
   have hq:=quote34 t
   have hlen:=congrArg List.length ht
   simp only[List.length_append,List.length_cons] at hlen
   have hk:sw (34::t)=some (quoteS (34::t) 0).2:=by
    simp only[sw]
    rw[if_neg (fun e=>hin e.1),if_neg (by decide),if_pos trivial,if_neg]
    rw[hq,hr]
    simp only[qres,List.length_cons];omega
   rw[hk,sw_wlen hk]
  ·by_cases hp:isPre (c::t)=true
   ·have h2:=(pre_iff c t).1 hp
    rw[wlen_c,if_pos hp]
    simp only[sw]
    have hc:c=60∨c=62:=h2.elim (fun h=>.inl h.1) (fun h=>.inr h.1)
    rw[if_neg (fun e=>hin e.1),if_neg (by rcases hc with rfl|rfl<;>decide),if_neg (by rcases hc with rfl|rfl<;>decide),if_pos h2]
   ·have h45:c≠45:=by rcases h1 with rfl|rfl|rfl|rfl|rfl|rfl<;>decide
    have h34:c≠34:=by rcases h1 with rfl|rfl|rfl|rfl|rfl|rfl<;>decide
    rw[wlen_c,if_neg hp,if_neg (by rw[hin'];simp[h45]),if_neg h34]
    simp only[sw]
    rw[if_neg (fun e=>hin e.1),if_neg h45,if_neg h34,if_neg (fun e=>hp ((pre_iff c t).2 e)),if_pos (by
     rcases h1 with h|h|h|h|h|h<;>simp[h])]
theorem skip_c {c:UInt8} (h:c≠32) (t:List UInt8):skip (c::t)=c::t:=by
 unfold skip;rw[List.dropWhile_cons,if_neg (by simpa using h)]
theorem toks_sp (t:List UInt8):toks (32::t)=toks t:=by
 rw[<-toks_skip (32::t),<-toks_skip t]
 rfl
theorem toks_c {c:UInt8} (h:c≠32) (t:List UInt8):toks (c::t)=wrd (c::t)::toks ((c::t).drop (wlen (c::t))):=toks_cons (skip_c h t)
theorem split_to:∀(f:Nat) (l:List UInt8) (ws:List By),splitF f l=some ws->toks l=ws
 |0,_,_,h=>by cases h
 |f+1,[],ws,h=>by rw[splitF_nil] at h;cases h;exact toks_nil rfl
 |f+1,c::t,ws,h=>by
  by_cases hc:c=32
  ·rw[hc,splitF_sp] at h;rw[hc,toks_sp];exact split_to f t ws h
  ·rw[splitF_c f hc] at h
   cases hk:sw (c::t) with
   |none=>rw[hk] at h;cases h
   |some k=>
    rw[hk] at h
    simp only[Option.map_eq_some_iff] at h
    obtain⟨ws',h1,rfl⟩:=h
    have hw:=sw_wlen hk
    rw[toks_c hc,hw,split_to f _ _ h1]
    unfold wrd;rw[hw]
theorem split_of:∀(f:Nat) (l:List UInt8),l.length<f->(∀w∈toks l,cw w)->splitF f l=some (toks l)
 |0,_,h,_=>by omega
 |f+1,[],_,_=>by rw[splitF_nil,toks_nil rfl]
 |f+1,c::t,hl,h=>by
  simp only[List.length_cons] at hl
  by_cases hc:c=32
  ·rw[hc,toks_sp] at h⊢;rw[splitF_sp];exact split_of f t (by omega) h
  ·rw[toks_c hc] at h⊢
   have hk:=sw_of_cw hc (h (wrd (c::t)) (by simp))
   have hp:=wlen_pos c t
   rw[splitF_c f hc,hk]
   simp only
   rw[split_of f _ (by simp;omega) (fun w hw=>h w (by simp[hw]))]
   rfl
theorem termW_cw:∀{ts r:List By} {t:Term},termW litP ts=some (t,r)->∃pre,ts=pre++r/\∀w∈pre,cw w
 |[],r,t,h=>by cases h
 |w::ts,r,t,h=>by
  unfold termW at h
  split at h
  ·rename_i hw
   split at h
   ·rename_i h1
    split at h
    ·cases h
    ·cases h
     obtain⟨pre,rfl,hp⟩:=termW_cw h1
     refine⟨w::pre,rfl,fun x hx=>?_⟩
     rcases List.mem_cons.1 hx with rfl|hx
     ·exact .inr (.inr (.inr (.inr (.inl hw))))
     ·exact hp x hx
   ·cases h
  ·split at h
   ·rename_i hn
    cases h
    simp only[Bool.and_eq_true] at hn
    exact⟨[w],rfl,fun x hx=>by rw[List.mem_singleton.1 hx];exact .inl hn.1⟩
   ·split at h
    ·rename_i v hv
     cases h
     exact⟨[w],rfl,fun x hx=>by rw[List.mem_singleton.1 hx];exact .inr (.inl (by rw[hv];rfl))⟩
    ·cases h
theorem cw_app {ts r:List By} {w:By} (hw:cw w) (h:∃pre,ts=pre++r/\∀w∈pre,cw w):∃pre,w::ts=pre++r/\∀w∈pre,cw w:=by
 obtain⟨pre,rfl,hp⟩:=h
 exact⟨w::pre,rfl,fun x hx=>by
  rcases List.mem_cons.1 hx with rfl|hx
  ·exact hw
  ·exact hp x hx⟩
theorem cw_trans {ts r r':List By} (h:∃pre,ts=pre++r/\∀w∈pre,cw w) (h':∃pre,r=pre++r'/\∀w∈pre,cw w):∃pre,ts=pre++r'/\∀w∈pre,cw w:=by
 obtain⟨p,rfl,hp⟩:=h
 obtain⟨q,rfl,hq⟩:=h'
 exact⟨p++q,by simp,fun x hx=>(List.mem_append.1 hx).elim (hp x) (hq x)⟩
theorem cw_refl (r:List By):∃pre,r=pre++r/\∀w∈pre,cw w:=⟨[],rfl,fun _ h=>by cases h⟩
theorem cw_kept:cw wOr/\cw wAnd/\cw wNot/\cw wTrue/\cw wFalse:=⟨.inl (by decide),.inl (by decide),.inl (by decide),.inl (by decide),.inl (by decide)⟩
theorem pars_cw:∀(f:Nat) (m:Md) (lv d:Nat) (ts r:List By) (t:Tree) (e:Nat),pars litP f m lv d ts=some (t,r,e)->∃pre,ts=pre++r/\∀w∈pre,cw w
 |0,m,lv,d,ts,r,t,e,h=>by cases h
 |f+1,.or,lv,d,ts,r,t,e,h=>by
  unfold pars at h
  split at h
  ·rename_i n r1 e1 h1
   exact cw_trans (pars_cw f _ _ _ _ _ _ _ h1) (pars_cw f _ _ _ _ _ _ _ h)
  ·cases h
 |f+1,.orL n,lv,d,ts,r,t,e,h=>by
  unfold pars at h
  split at h
  ·rename_i hd
   obtain⟨r0,rfl⟩:=head_ne hd (by decide)
   split at h
   ·rename_i n r1 e1 h1
    exact cw_app cw_kept.1 (cw_trans (pars_cw f _ _ _ _ _ _ _ h1) (pars_cw f _ _ _ _ _ _ _ h))
   ·cases h
  ·cases h
   exact cw_refl _
 |f+1,.and,lv,d,ts,r,t,e,h=>by
  unfold pars at h
  split at h
  ·rename_i n r1 e1 h1
   exact cw_trans (pars_cw f _ _ _ _ _ _ _ h1) (pars_cw f _ _ _ _ _ _ _ h)
  ·cases h
 |f+1,.andL n,lv,d,ts,r,t,e,h=>by
  unfold pars at h
  split at h
  ·rename_i hd
   obtain⟨r0,rfl⟩:=head_ne hd (by decide)
   split at h
   ·rename_i n r1 e1 h1
    exact cw_app cw_kept.2.1 (cw_trans (pars_cw f _ _ _ _ _ _ _ h1) (pars_cw f _ _ _ _ _ _ _ h))
   ·cases h
  ·cases h
   exact cw_refl _
 |f+1,.not,lv,d,ts,r,t,e,h=>by
  unfold pars at h
  split at h
  ·rename_i hd
   obtain⟨r0,rfl⟩:=head_ne hd (by decide)
   split at h
   ·rename_i n r1 e1 h1
    cases h
    exact cw_app cw_kept.2.2.1 (pars_cw f _ _ _ _ _ _ _ h1)
   ·cases h
  ·exact pars_cw f _ _ _ _ _ _ _ h
 |f+1,.prim,lv,d,ts,r,t,e,h=>by
  unfold pars at h
  split at h
  ·rename_i hd
   obtain⟨r0,rfl⟩:=head_ne hd (by decide)
   cases h
   exact cw_app cw_kept.2.2.2.1 (cw_refl _)
  ·split at h
   ·rename_i hd
    obtain⟨r0,rfl⟩:=head_ne hd (by decide)
    cases h
    exact cw_app cw_kept.2.2.2.2 (cw_refl _)
   ·split at h
    ·rename_i hd
     obtain⟨r0,rfl⟩:=head_ne hd (by decide)
     split at h
     ·rename_i n r1 e1 h1
      split at h
      ·rename_i hr
       obtain⟨r2,rfl⟩:=head_ne hr (by decide)
       cases h
       exact cw_app (.inr (.inr (.inl rfl))) (cw_trans (pars_cw f _ _ _ _ _ _ _ h1) (cw_app (.inr (.inr (.inr (.inl rfl)))) (cw_refl _)))
      ·cases h
     ·cases h
    ·split at h
     ·rename_i a r1 h1
      split at h
      ·rename_i hrel
       split at h
       ·rename_i b r2 h2
        cases h
        refine cw_trans (termW_cw h1) ?_
        obtain⟨q,hq⟩:∃q,r1=r1.headD []::q:=by
         cases r1 with
         |nil=>exact absurd hrel (by decide)
         |cons a q=>exact⟨q,rfl⟩
        conv=>enter [1,pre];rw[hq]
        refine cw_app (.inr (.inr (.inr (.inr (.inr hrel))))) ?_
        have:r1.tail=q:=by rw[hq];rfl
        rw[<-this]
        exact termW_cw h2
       ·cases h
      ·cases h
     ·cases h
def readR (s:By):RdE:=if 1000<s.length then .err 3 else match splitS s with
 |none=>.err 2
 |some ws=>match pars litR (fuel s) .or 0 0 ws with
  |some (t,r,e)=>if r=[] then(if 20<e then .err 4 else .ok t) else .err 2
  |none=>.err 2
theorem readR_eq (s:By):readS s=match readR s with
  |.ok t=>.ok t.flat
  |.err e=>.err e:=by
 have hl:litR=litP:=funext litR_eq
 unfold readS readR
 by_cases h1:1000<s.length
 ·rw[if_pos h1,if_pos h1]
 ·rw[if_neg h1,if_neg h1,hl]
  cases hs:splitS s with
  |some ws=>
   rw[split_to _ _ _ hs]
   simp only
   cases hp:pars litP (fuel s) .or 0 0 ws with
   |none=>rfl
   |some p=>
    obtain⟨t,r,e⟩:=p
    simp only
    cases r with
    |nil=>
     simp only[List.headD_nil,beq_self_eq_true,if_true]
     split<;>rfl
    |cons w r=>
     have hne:w≠[]:=by
      obtain⟨pre,e1,_⟩:=pars_cw _ _ _ _ _ _ _ _ hp
      exact toks_ne s.length s (rL _) w (by rw[split_to _ _ _ hs,e1];simp)
     rw[if_neg (by simpa using hne),if_neg (by simp)]
  |none=>
   simp only
   cases hp:pars litP (fuel s) .or 0 0 (toks s) with
   |none=>rfl
   |some p=>
    obtain⟨t,r,e⟩:=p
    simp only
    obtain⟨pre,e1,h2⟩:=pars_cw _ _ _ _ _ _ _ _ hp
    cases r with
    |nil=>
     exfalso
     rw[List.append_nil] at e1
     have:=split_of (s.length+1) s (by omega) (by rw[e1];exact h2)
     unfold splitS at hs
     rw[hs] at this;cases this
    |cons w r=>
     have hne:w≠[]:=toks_ne s.length s (rL _) w (by rw[e1];simp)
     rw[if_neg (by simpa using hne)]
theorem readS_bound {s:By} {t:Tree} (h:readS s=.ok t):t.nice/\t.size<=1000/\s.length<=1000:=by
 unfold readS at h
 split at h
 ·cases h
 ·split at h
  ·rename_i t0 r e hp
   split at h
   ·split at h
    ·cases h
    ·cases h
     have h1:=pars_size _ _ _ _ _ _ _ _ hp
     have h2:=pars_nice _ _ _ _ _ _ _ _ hp trivial
     have h3:=toks_len s.length s (rL _)
     simp only[Md.sz] at h1
     refine⟨flat_nice h2,?_,by omega⟩
     rw[flat_size];omega
   ·cases h
  ·cases h
def readG (s:By):GV:=match readS s with
 |.ok t=>.tup [t.gv,.i .i64 0]
 |.err e=>.tup [.o .nilIface,.i .i64 e]
theorem readG_cl [MaxL] (s:By):Cl (readG s):=by
 unfold readG
 split
 ·exact Cl.tup (.cons (Tree.cl _) (.cons (.i _ _) .nil))
 ·exact fun _=>rfl
theorem c_read [MaxL] (s:By) (hs:s.length<most):SC Tryz.prog 126 [.s s] [] (.val (readG s)) []:=by
 by_cases hl:1000<s.length
 ·have e:readG s=.tup [.o .nilIface,.i .i64 3]:=by unfold readG readS;rw[if_pos hl]
  rw[e]
  refine gwS Tryz.func126 rfl ?_
  conv=>whnf
  refine GIf.mk (fun h=>?_) (fun h=>?_)<;>conv=>whnf
  ·exact owes_wk (.refl _) (fun _=>rfl)
  ·exfalso;have:=of_decide_eq_false h;omega
 ·have hp:=c_parse s (by omega)
  cases hr:pars litP (fuel s) .or 0 0 (toks s) with
  |none=>
   rw[hr] at hp
   have e:readG s=.tup [.o .nilIface,.i .i64 2]:=by unfold readG readS;rw[if_neg hl,hr]
   rw[e]
   replace hp:SC Tryz.prog 171 [.s s] [] (.val (.tup [.o .nilIface,.i .i64 0,.b false])) []:=hp
   refine gwS Tryz.func126 rfl ?_
   conv=>whnf
   refine GIf.mk (fun h=>?_) (fun h=>?_)<;>conv=>whnf
   ·exfalso;have:=of_decide_eq_true h;omega
   refine callP hp (by first|exact wR _|exact wC (Wk.sl _ _) (wR _)|exact wC (Wk.sl _ _) (wC (Wk.sl _ _) (wR _))|exact wC (Wk.refl _) (wC (Wk.sl _ _) (wR _))) rfl (by first|exact fun _=>rfl|exact cA|exact cB fun _=>rfl) (by first|exact fun _=>rfl|exact cA|exact cB fun _=>rfl) ?_
   conv=>whnf
   exact owes_wk (.refl _) (fun _=>rfl)
  |some p=>
   obtain⟨t,r,e⟩:=p
   rw[hr] at hp
   have h1:=pars_size _ _ _ _ _ _ _ _ hr
   have h3:=toks_len s.length s (rL _)
   simp only[Md.sz] at h1
   replace hp:SC Tryz.prog 171 [.s s] [] (.val (.tup [t.gv,.i .i64 (e:Nat),.b (r.headD []==[])])) []:=hp
   have hcl:Cl (.tup [t.gv,.i .i64 (e:Nat),.b (r.headD []==[])]):=Cl.tup (.cons t.cl (.cons (.i _ _) (.cons (.b _) .nil)))
   have hf:=c_flat 1000 t (by omega) (by omega)
   cases hb:(r.headD []==[]) with
   |false=>
    have e1:readG s=.tup [.o .nilIface,.i .i64 2]:=by unfold readG readS;rw[if_neg hl,hr];simp only[hb];rfl
    rw[e1]
    rw[hb] at hp hcl
    refine gwS Tryz.func126 rfl ?_
    conv=>whnf
    refine GIf.mk (fun h=>?_) (fun h=>?_)<;>conv=>whnf
    ·exfalso;have:=of_decide_eq_true h;omega
    refine callP hp (wR _) rfl (fun _=>rfl) hcl ?_
    conv=>whnf
    exact owes_wk (.refl _) (fun _=>rfl)
   |true=>
    rw[hb] at hp hcl
    by_cases h20:20<e
    ·have e1:readG s=.tup [.o .nilIface,.i .i64 4]:=by unfold readG readS;rw[if_neg hl,hr];simp only[hb,if_pos h20];rfl
     rw[e1]
     refine gwS Tryz.func126 rfl ?_
     conv=>whnf
     refine GIf.mk (fun h=>?_) (fun h=>?_)<;>conv=>whnf
     ·exfalso;have:=of_decide_eq_true h;omega
     refine callP hp (wR _) rfl (fun _=>rfl) hcl ?_
     conv=>whnf
     refine GIf.mk (fun h2=>?_) (fun h2=>?_)<;>conv=>whnf
     ·exact owes_wk (.refl _) (fun _=>rfl)
     ·exfalso;have:=of_decide_eq_false h2;omega
    ·have e1:readG s=.tup [t.flat.gv,.i .i64 0]:=by unfold readG readS;rw[if_neg hl,hr];simp only[hb,if_neg h20];rfl
     rw[e1]
     refine gwS Tryz.func126 rfl ?_
     conv=>whnf
     refine GIf.mk (fun h=>?_) (fun h=>?_)<;>conv=>whnf
     ·exfalso;have:=of_decide_eq_true h;omega
     refine callP hp (wR _) rfl (fun _=>rfl) hcl ?_
     conv=>whnf
     refine GIf.mk (fun h2=>?_) (fun h2=>?_)<;>conv=>whnf
     ·exfalso;have:=of_decide_eq_true h2;omega
     refine callP hf (wR _) rfl (cC t.cl .nil) t.flat.cl ?_
     conv=>whnf
     exact owes_wk (.refl _) (Cl.tup (.cons t.flat.cl (.cons (.i _ _) .nil)))
def resS (t:Tree):By×Int:=if 1000<t.flat.plain.length∨20<t.flat.deep 0 then([],4) else(t.flat.plain,0)
theorem c_result [MaxL] (t:Tree) (hn:t.nice) (hz:t.size<=2100):SC Tryz.prog 127 [t.gv] [] (.val (.tup [.s (resS t).1,.i .i64 (resS t).2])) []:=by
 have hf:=c_flat 2100 t hz (by omega)
 have hnf:=flat_nice hn
 have hsz:=flat_size t
 have hpl:=plain_le t.flat hnf
 have hp:=c_plain t.flat hnf (by omega)
 have hd:=c_deep t.flat 0 (by omega)
 unfold resS
 generalize t.flat=u at*
 refine gwS Tryz.func127 rfl ?_
 conv=>whnf
 refine callP hf (wR _) rfl (cC t.cl .nil) u.cl ?_
 conv=>whnf
 refine callP hp (wR _) rfl (cC u.cl .nil) (.s _) ?_
 conv=>whnf
 refine GIf.mk (fun h1=>?_) (fun h1=>?_)<;>conv=>whnf
 ·have h1':1000<u.plain.length:=by have:=of_decide_eq_true h1;omega
  rw[if_pos (.inl h1')]
  exact owes_wk (.refl _) (fun _=>rfl)
 ·have h1':¬1000<u.plain.length:=by have:=of_decide_eq_false h1;omega
  refine callP hd (wR _) rfl (cC u.cl (.cons (.i _ _) .nil)) (.i _ _) ?_
  conv=>whnf
  refine GIf.mk (fun h2=>?_) (fun h2=>?_)<;>conv=>whnf
  ·have h2':20<u.deep 0:=by have:=of_decide_eq_true h2;omega
   rw[if_pos (.inr h2')]
   exact owes_wk (.refl _) (fun _=>rfl)
  ·have h2':¬20<u.deep 0:=by have:=of_decide_eq_false h2;omega
   rw[if_neg (fun h=>h.elim h1' h2')]
   exact owes_wk (.refl _) (fun _=>rfl)
def showS (s:By):By×Int:=match readS s with
 |.ok t=>resS t
 |.err e=>([],e)
theorem readS_err {s:By} {e:Int} (h:readS s=.err e):e=2∨e=3∨e=4:=by
 unfold readS at h
 split at h
 ·cases h;omega
 ·split at h
  ·split at h
   ·split at h
    ·cases h;omega
    ·cases h
   ·cases h;omega
  ·cases h;omega
theorem c_Show [MaxL] (s:By) (hs:s.length<most):SC Tryz.prog 70 [.s s] [] (.val (.tup [.s (showS s).1,.i .i64 (showS s).2])) []:=by
 have hr:=c_read s hs
 have hcl:=readG_cl s
 unfold readG at hr hcl
 unfold showS
 cases h:readS s with
 |err e=>
  rw[h] at hr hcl
  replace hr:SC Tryz.prog 126 [.s s] [] (.val (.tup [.o .nilIface,.i .i64 e])) []:=hr
  have he:=readS_err h
  refine gwS Tryz.func70 rfl ?_
  conv=>whnf
  refine callP hr (wR _) rfl (fun _=>rfl) hcl ?_
  conv=>whnf
  refine GIf.mk (fun h0=>?_) (fun h0=>?_)<;>conv=>whnf
  ·exact owes_wk (.refl _) (fun _=>rfl)
  ·exfalso
   have:e=0:=by simpa using h0
   omega
 |ok t=>
  rw[h] at hr hcl
  replace hr:SC Tryz.prog 126 [.s s] [] (.val (.tup [t.gv,.i .i64 0])) []:=hr
  obtain⟨hn,hz,_⟩:=readS_bound h
  have hres:=c_result t hn (by omega)
  refine gwS Tryz.func70 rfl ?_
  conv=>whnf
  refine callP hr (wR _) rfl (fun _=>rfl) hcl ?_
  conv=>whnf
  refine callP hres (wR _) rfl (cC t.cl .nil) (fun _=>rfl) ?_
  conv=>whnf
  exact owes_wk (.refl _) (fun _=>rfl)
end Go.Proofs.YtldggonlkafckaaGreatDoor
