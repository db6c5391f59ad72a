/-
  A part of the proof of SchemaLess.
-/
import Derived.Test.YtcfgfkkhpdlhpaaGreatDoorQ36
import Derived.Test.YtcfgfkkhpdlhpaaGreatDoorQ32
set_option linter.all false
namespace Go.Proofs.YtcfgfkkhpdlhpaaGreatDoor
open Go.RowKit
set_option maxRecDepth 100000
set_option linter.unusedVariables false
def isPre (l:List UInt8):Bool:=[60,62].isPrefixOf l||[60,61].isPrefixOf l||[62,61].isPrefixOf l
theorem pre_iff (c:UInt8) (t:List UInt8):isPre (c::t)=true↔(c=60/\(t.head?=some 62∨t.head?=some 61))∨(c=62/\t.head?=some 61):=by
 cases t with
 |nil=>simp[isPre,List.isPrefixOf]
 |cons d t=>
  simp only[isPre,List.isPrefixOf,Bool.and_true,Bool.or_eq_true,Bool.and_eq_true,beq_iff_eq,List.head?_cons,Option.some.injEq]
  constructor
  ·rintro((⟨rfl,rfl⟩|⟨rfl,rfl⟩)|⟨rfl,rfl⟩)
   ·exact .inl ⟨rfl,.inl rfl⟩
   ·exact .inl ⟨rfl,.inr rfl⟩
   ·exact .inr ⟨rfl,rfl⟩
  ·rintro(⟨rfl,rfl|rfl⟩|⟨rfl,rfl⟩)
   ·exact .inl (.inl ⟨rfl,rfl⟩)
   ·exact .inl (.inr ⟨rfl,rfl⟩)
   ·exact .inr ⟨rfl,rfl⟩
theorem wlen_c (c:UInt8) (t:List UInt8):wlen (c::t)=if isPre (c::t)=true then 2 else if(isInner c||(c==45&&t.head?.any isDigit))=true then runW t else if c=34 then min (2+qlen t) (t.length+1) else 1:=rfl
theorem inner_not {c:UInt8} (h:isInner c=true):c≠60/\c≠62/\c≠45/\c≠34/\c≠40/\c≠41/\c≠58/\c≠61/\c≠32:=by
 refine⟨?_,?_,?_,?_,?_,?_,?_,?_,?_⟩<;>(rintro rfl;revert h;decide)
theorem digs_head {l:List UInt8} (h:digs l≠0):∃d r,l=d::r/\isDigit d=true:=by
 cases l with
 |nil=>exact absurd rfl h
 |cons d r=>
  refine⟨d,r,rfl,?_⟩
  cases hd:isDigit d with
  |true=>rfl
  |false=>exact absurd (by unfold digs;rw[List.takeWhile_cons,hd];rfl) h
theorem num_pos {c:UInt8} {t:List UInt8} (h:(numS (c::t)).2≠0):isDigit c=true∨(c=45/\∃d r,t=d::r/\isDigit d=true):=by
 by_cases h45:c=45
 ·subst h45
  rw[numS_M] at h
  refine .inr ⟨rfl,digs_head (fun e=>h (by rw[if_pos (.inl e)]))⟩
 ·rw[numS_P (by simpa using h45)] at h
  obtain⟨d,r,e,hd⟩:=digs_head (l:=c::t) (fun e=>h (by rw[if_pos (.inl e)]))
  cases e
  exact .inl hd
theorem lit_num {c:UInt8} {t:List UInt8} {v:Val} (h:litP (c::t)=some v) (h34:c≠34):(numS (c::t)).2=(c::t).length:=by
 rw[<-litR_eq] at h
 unfold litR at h
 split at h
 ·rename_i hc
  have:=hc.2.1
  unfold litQ at this
  rw[if_neg (by simpa using h34)] at this
  exact this
 ·cases h
theorem quote34 (t:List UInt8):quoteS (34::t) 0=qres (34::t).length 0 (rq t):=by
 unfold quoteS;rw[if_pos (show(34::t)[0]?=some 34 from rfl)];rfl
theorem lit_quote {t:List UInt8} {v:Val} (h:litP (34::t)=some v):∃s,rq t=some (s,[]):=by
 rw[<-litR_eq] at h
 unfold litR at h
 split at h
 ·rename_i hc
  have:=hc.2.1
  unfold litQ at this
  rw[if_pos (show(34::t).head?=some 34 from rfl)] at this
  replace this:(quoteS (34::t) 0).2=(34::t).length:=this
  rw[quote34] at this
  cases hr:rq t with
  |none=>rw[hr] at this;simp[qres] at this
  |some p=>
   rw[hr] at this
   obtain⟨s,r⟩:=p
   simp[qres] at this
   have hl:=rq_suf t.length (rL _) hr
   have:r=[]:=List.eq_nil_of_length_eq_zero (by omega)
   exact⟨s,by rw[this]⟩
 ·cases h
theorem whole_iff (w:List UInt8):(wholeS w).2=true↔0<(numS w).2/\(numS w).2=w.length:=by
 unfold wholeS;simp
theorem take_run (c:UInt8) (t:List UInt8):(c::t).take (runW t)=c::t.takeWhile isInner:=by
 unfold runW
 rw[Nat.add_comm,List.take_succ_cons]
 congr 1
 have:=List.prefix_iff_eq_take.1 (List.takeWhile_prefix (l:=t) isInner)
 exact this.symm
theorem tw_digit {t:List UInt8} {d:UInt8} {r:List UInt8} (h:t.takeWhile isInner=d::r):t.head?=some d:=by
 cases t with
 |nil=>cases h
 |cons a t=>
  rw[List.takeWhile_cons] at h
  split at h
  ·cases h;rfl
  ·cases h
theorem digit_inner {c:UInt8} (h:isDigit c=true):isInner c=true:=by
 unfold isInner;rw[h];simp
theorem sw_wlen {c:UInt8} {t:List UInt8} {k:Nat} (h:sw (c::t)=some k):wlen (c::t)=k:=by
 rw[wlen_c]
 simp only[sw] at h
 split at h
 ·rename_i hi
  have hn:=inner_not hi.1
  rw[if_neg (fun e=>by rcases(pre_iff c t).1 e with e|e;exact hn.1 e.1;exact hn.2.1 e.1),if_pos (by rw[hi.1];rfl)]
  split at h
  ·split at h
   ·exact Option.some.inj h
   ·cases h
  ·split at h
   ·exact Option.some.inj h
   ·cases h
 ·rename_i hi
  split at h
  ·rename_i h45
   subst h45
   split at h
   ·rename_i hw
    rw[take_run] at hw
    obtain⟨h1,h2⟩:=(whole_iff _).1 hw
    rcases num_pos (Nat.pos_iff_ne_zero.1 h1) with e|⟨_,d,r,e,hd⟩
    ·exact absurd e (by decide)
    ·rw[if_neg (fun e=>by rcases(pre_iff 45 t).1 e with e|e<;>exact absurd e.1 (by decide)),if_pos (by rw[tw_digit e];simp[hd])]
     exact Option.some.inj h
   ·cases h
  ·rename_i h45
   split at h
   ·rename_i h34
    subst h34
    split at h
    ·cases h
    ·rename_i hz
     rw[if_neg (fun e=>by rcases(pre_iff 34 t).1 e with e|e<;>exact absurd e.1 (by decide)),if_neg (by simp;decide),if_pos rfl]
     have hq:=quote34 t
     rw[hq] at h hz
     cases hr:rq t with
     |none=>rw[hr] at hz;exact absurd rfl hz
     |some p=>
      obtain⟨s,r⟩:=p
      rw[hr] at h
      have hf:=rq_form t.length (rL _) hr
      have hql:qlen t=(s.flatMap esc).length:=by rw[hf];exact qlen_of s r
      have hlen:=congrArg List.length hf
      simp only[List.length_append,List.length_cons] at hlen
      simp only[qres,Option.some.injEq,List.length_cons] at h
      rw[hql];omega
   ·rename_i h34
    split at h
    ·rename_i hp
     rw[if_pos ((pre_iff c t).2 hp)]
     exact Option.some.inj h
    ·rename_i hp
     split at h
     ·rename_i hm
      have hin:isInner c=false:=by rcases hm with rfl|rfl|rfl|rfl|rfl|rfl<;>decide
      rw[if_neg (fun e=>hp ((pre_iff c t).1 e)),if_neg (by rw[hin];simp[h45]),if_neg h34]
      exact Option.some.inj h
     ·cases h
def cw (w:By):Prop:=isName w=true∨(litP w).isSome=true∨w=[40]∨w=[41]∨w=[58]∨relop w=true
theorem name_head {c:UInt8} {t:List UInt8} (h:isName (c::t)=true):isSmall c=true:=by
 simp only[isName,Bool.and_eq_true] at h;exact h.1.2
theorem relop_head {c:UInt8} {t:List UInt8} (h:relop (c::t)=true):c=60∨c=61∨c=62:=by
 simp only[relop,rels,List.contains_eq_mem,decide_eq_true_eq,List.mem_cons,List.not_mem_nil,or_false] at h
 rcases h with h|h|h|h|h|h<;>cases h<;>simp
theorem cw_cases {c:UInt8} {t:List UInt8} (h:cw (c::t)):(isSmall c=true/\isName (c::t)=true)∨(isDigit c=true/\∃v,litP (c::t)=some v)∨(c=45/\∃v,litP (c::t)=some v)∨(c=34/\∃v,litP (c::t)=some v)∨c=40∨c=41∨c=58∨c=60∨c=61∨c=62:=by
 rcases h with h|h|h|h|h|h
 ·exact .inl ⟨name_head h,h⟩
 ·obtain⟨v,hv⟩:=Option.isSome_iff_exists.1 h
  by_cases h34:c=34
  ·exact .inr (.inr (.inr (.inl ⟨h34,v,hv⟩)))
  ·have:=lit_num hv h34
   rcases num_pos (c:=c) (t:=t) (by rw[this];simp) with e|e
   ·exact .inr (.inl ⟨e,v,hv⟩)
   ·exact .inr (.inr (.inl ⟨e.1,v,hv⟩))
 ·cases h;simp
 ·cases h;simp
 ·cases h;simp
 ·rcases relop_head h with rfl|rfl|rfl<;>simp
theorem small_iff (c:UInt8):isSmall c=true↔97<=c.toNat/\c.toNat<=122:=by simp[isSmall]
theorem small_inner {c:UInt8} (h:isSmall c=true):isInner c=true:=by unfold isInner;rw[h];rfl
theorem sw_of_cw {c:UInt8} {t:List UInt8} (h32:c≠32) (h:cw (wrd (c::t))):sw (c::t)=some (wlen (c::t)):=by
 have hw:∃u,wrd (c::t)=c::u/\(c::u)=(c::t).take (wlen (c::t)):=by
  have:=wlen_pos c t
  unfold wrd
  obtain⟨k,hk⟩:∃k,wlen (c::t)=k+1:=⟨wlen (c::t) - 1,by omega⟩
  exact⟨t.take k,by rw[hk];rfl,by rw[hk];rfl⟩
 obtain⟨u,hu,hu2⟩:=hw
 rw[hu] at h
 by_cases hin:isInner c=true
 ·have hn:=inner_not hin
  have hwl:wlen (c::t)=runW t:=by
   rw[wlen_c,if_neg (fun e=>by rcases(pre_iff c t).1 e with e|e;exact hn.1 e.1;exact hn.2.1 e.1),if_pos (by rw[hin];rfl)]
  rw[hwl] at hu2⊢
  simp only[sw]
  rcases cw_cases h with⟨h1,h2⟩|⟨h1,v,h2⟩|h1|h1|h1
  ·have h97:=(small_iff c).1 h1
   rw[if_pos ⟨hin,by rintro rfl;revert h1;decide⟩,if_pos h97.1,if_pos (by rw[<-hu2];exact h2)]
  ·have h97:=(isDigit_iff c).1 h1
   rw[if_pos ⟨hin,by rintro rfl;revert h1;decide⟩,if_neg (by omega),if_pos (by
    rw[<-hu2,whole_iff]
    have:=lit_num h2 hn.2.2.2.1
    exact⟨by rw[this];simp,this⟩)]
  ·exact absurd h1.1 hn.2.2.1
  ·exact absurd h1.1 hn.2.2.2.1
  ·rcases h1 with h1|h1|h1|h1|h1|h1
   ·exact absurd h1 hn.2.2.2.2.1
   ·exact absurd h1 hn.2.2.2.2.2.1
   ·exact absurd h1 hn.2.2.2.2.2.2.1
   ·exact absurd h1 hn.1
   ·exact absurd h1 hn.2.2.2.2.2.2.2.1
   ·exact absurd h1 hn.2.1
 ·have hin':isInner c=false:=by simpa using hin
  rcases cw_cases h with⟨h1,h2⟩|⟨h1,v,h2⟩|⟨rfl,v,h2⟩|⟨rfl,v,h2⟩|h1
  ·exact absurd (small_inner h1) hin
  ·exact absurd (digit_inner h1) hin
  ·have hnum:=lit_num h2 (by decide)
   rcases num_pos (c:=45) (t:=u) (by rw[hnum];simp) with e|⟨_,d,r,e,hd⟩
   ·exact absurd e (by decide)
   ·have hwl:wlen (45::t)=runW t:=by
     rw[wlen_c,if_neg (fun e=>by rcases(pre_iff 45 t).1 e with e|e<;>exact absurd e.1 (by decide)),if_pos]
     subst e
     have hle:=wlen_pos 45 t
     cases t with
     |nil=>have:=congrArg List.length hu2;simp at this;omega
     |cons a t=>
      obtain⟨k,hk⟩:∃k,wlen (45::a::t)=k+1:=⟨wlen (45::a::t) - 1,by omega⟩
      rw[hk,List.take_succ_cons] at hu2
      cases k with
      |zero=>simp at hu2
      |succ k=>
       rw[List.take_succ_cons] at hu2
       simp at hu2
       simp[<-hu2.1,hd]
    rw[hwl] at hu2⊢
    simp only[sw]
    rw[if_neg (fun e=>hin e.1),if_pos trivial,if_pos (by rw[<-hu2,whole_iff];exact⟨by rw[hnum];simp,hnum⟩)]
  ·obtain⟨s,hs⟩:=lit_quote h2
   have hf:=rq_form u.length (rL _) hs
   have ht:t=u++t.drop u.length:=by
    have h3:u=t.take u.length:=by
     have hle:=wlen_pos 34 t
     obtain⟨k,hk⟩:∃k,wlen (34::t)=k+1:=⟨wlen (34::t) - 1,by omega⟩
     rw[hk,List.take_succ_cons] at hu2
     have h4:=(List.cons.inj hu2).2
     rw[h4,List.length_take]
     rcases Nat.le_total k t.length with hkt|hkt
     ·rw[Nat.min_eq_left hkt]
     ·rw[Nat.min_eq_right hkt,List.take_length,List.take_of_length_le hkt]
    conv=>lhs;rw[<-List.take_append_drop u.length t]
    rw[<-h3]
   generalize t.drop u.length=rest at ht
   rw[hf,List.append_assoc] at ht
   replace ht:t=s.flatMap esc++34::rest:=ht
   have hr:rq t=some (s,rest):=by rw[ht];exact rq_of s rest
   have hq:=quote34 t
   have hlen:=congrArg List.length ht
   simp only[List.length_append,List.length_cons] at hlen
   have hk:sw (34::t)=some (quoteS (34::t) 0).2:=by
    simp only[sw]
    rw[if_neg (fun e=>hin e.1),if_neg (by decide),if_pos trivial,if_neg]
    rw[hq,hr]
    simp only[qres,List.length_cons];omega
   rw[hk,sw_wlen hk]
  ·by_cases hp:isPre (c::t)=true
   ·have h2:=(pre_iff c t).1 hp
    rw[wlen_c,if_pos hp]
    simp only[sw]
    have hc:c=60∨c=62:=h2.elim (fun h=>.inl h.1) (fun h=>.inr h.1)
    rw[if_neg (fun e=>hin e.1),if_neg (by rcases hc with rfl|rfl<;>decide),if_neg (by rcases hc with rfl|rfl<;>decide),if_pos h2]
   ·have h45:c≠45:=by rcases h1 with rfl|rfl|rfl|rfl|rfl|rfl<;>decide
    have h34:c≠34:=by rcases h1 with rfl|rfl|rfl|rfl|rfl|rfl<;>decide
    rw[wlen_c,if_neg hp,if_neg (by rw[hin'];simp[h45]),if_neg h34]
    simp only[sw]
    rw[if_neg (fun e=>hin e.1),if_neg h45,if_neg h34,if_neg (fun e=>hp ((pre_iff c t).2 e)),if_pos (by
     rcases h1 with h|h|h|h|h|h<;>simp[h])]
theorem skip_c {c:UInt8} (h:c≠32) (t:List UInt8):skip (c::t)=c::t:=by
 unfold skip;rw[List.dropWhile_cons,if_neg (by simpa using h)]
theorem toks_sp (t:List UInt8):toks (32::t)=toks t:=by
 rw[<-toks_skip (32::t),<-toks_skip t]
 rfl
theorem toks_c {c:UInt8} (h:c≠32) (t:List UInt8):toks (c::t)=wrd (c::t)::toks ((c::t).drop (wlen (c::t))):=toks_cons (skip_c h t)
theorem split_to:∀(f:Nat) (l:List UInt8) (ws:List By),splitF f l=some ws->toks l=ws
 |0,_,_,h=>by cases h
 |f+1,[],ws,h=>by rw[splitF_nil] at h;cases h;exact toks_nil rfl
 |f+1,c::t,ws,h=>by
  by_cases hc:c=32
  ·rw[hc,splitF_sp] at h;rw[hc,toks_sp];exact split_to f t ws h
  ·rw[splitF_c f hc] at h
   cases hk:sw (c::t) with
   |none=>rw[hk] at h;cases h
   |some k=>
    rw[hk] at h
    simp only[Option.map_eq_some_iff] at h
    obtain⟨ws',h1,rfl⟩:=h
    have hw:=sw_wlen hk
    rw[toks_c hc,hw,split_to f _ _ h1]
    unfold wrd;rw[hw]
theorem split_of:∀(f:Nat) (l:List UInt8),l.length<f->(∀w∈toks l,cw w)->splitF f l=some (toks l)
 |0,_,h,_=>by omega
 |f+1,[],_,_=>by rw[splitF_nil,toks_nil rfl]
 |f+1,c::t,hl,h=>by
  simp only[List.length_cons] at hl
  by_cases hc:c=32
  ·rw[hc,toks_sp] at h⊢;rw[splitF_sp];exact split_of f t (by omega) h
  ·rw[toks_c hc] at h⊢
   have hk:=sw_of_cw hc (h (wrd (c::t)) (by simp))
   have hp:=wlen_pos c t
   rw[splitF_c f hc,hk]
   simp only
   rw[split_of f _ (by simp;omega) (fun w hw=>h w (by simp[hw]))]
   rfl
theorem termW_cw:∀{ts r:List By} {t:Term},termW litP ts=some (t,r)->∃pre,ts=pre++r/\∀w∈pre,cw w
 |[],r,t,h=>by cases h
 |w::ts,r,t,h=>by
  unfold termW at h
  split at h
  ·rename_i hw
   split at h
   ·rename_i h1
    split at h
    ·cases h
    ·cases h
     obtain⟨pre,rfl,hp⟩:=termW_cw h1
     refine⟨w::pre,rfl,fun x hx=>?_⟩
     rcases List.mem_cons.1 hx with rfl|hx
     ·exact .inr (.inr (.inr (.inr (.inl hw))))
     ·exact hp x hx
   ·cases h
  ·split at h
   ·rename_i hn
    cases h
    simp only[Bool.and_eq_true] at hn
    exact⟨[w],rfl,fun x hx=>by rw[List.mem_singleton.1 hx];exact .inl hn.1⟩
   ·split at h
    ·rename_i v hv
     cases h
     exact⟨[w],rfl,fun x hx=>by rw[List.mem_singleton.1 hx];exact .inr (.inl (by rw[hv];rfl))⟩
    ·cases h
theorem cw_app {ts r:List By} {w:By} (hw:cw w) (h:∃pre,ts=pre++r/\∀w∈pre,cw w):∃pre,w::ts=pre++r/\∀w∈pre,cw w:=by
 obtain⟨pre,rfl,hp⟩:=h
 exact⟨w::pre,rfl,fun x hx=>by
  rcases List.mem_cons.1 hx with rfl|hx
  ·exact hw
  ·exact hp x hx⟩
theorem cw_trans {ts r r':List By} (h:∃pre,ts=pre++r/\∀w∈pre,cw w) (h':∃pre,r=pre++r'/\∀w∈pre,cw w):∃pre,ts=pre++r'/\∀w∈pre,cw w:=by
 obtain⟨p,rfl,hp⟩:=h
 obtain⟨q,rfl,hq⟩:=h'
 exact⟨p++q,by simp,fun x hx=>(List.mem_append.1 hx).elim (hp x) (hq x)⟩
theorem cw_refl (r:List By):∃pre,r=pre++r/\∀w∈pre,cw w:=⟨[],rfl,fun _ h=>by cases h⟩
theorem cw_kept:cw wOr/\cw wAnd/\cw wNot/\cw wTrue/\cw wFalse:=⟨.inl (by decide),.inl (by decide),.inl (by decide),.inl (by decide),.inl (by decide)⟩
theorem pars_cw:∀(f:Nat) (m:Md) (lv d:Nat) (ts r:List By) (t:Tree) (e:Nat),pars litP f m lv d ts=some (t,r,e)->∃pre,ts=pre++r/\∀w∈pre,cw w
 |0,m,lv,d,ts,r,t,e,h=>by cases h
 |f+1,.or,lv,d,ts,r,t,e,h=>by
  unfold pars at h
  split at h
  ·rename_i n r1 e1 h1
   exact cw_trans (pars_cw f _ _ _ _ _ _ _ h1) (pars_cw f _ _ _ _ _ _ _ h)
  ·cases h
 |f+1,.orL n,lv,d,ts,r,t,e,h=>by
  unfold pars at h
  split at h
  ·rename_i hd
   obtain⟨r0,rfl⟩:=head_ne hd (by decide)
   split at h
   ·rename_i n r1 e1 h1
    exact cw_app cw_kept.1 (cw_trans (pars_cw f _ _ _ _ _ _ _ h1) (pars_cw f _ _ _ _ _ _ _ h))
   ·cases h
  ·cases h
   exact cw_refl _
 |f+1,.and,lv,d,ts,r,t,e,h=>by
  unfold pars at h
  split at h
  ·rename_i n r1 e1 h1
   exact cw_trans (pars_cw f _ _ _ _ _ _ _ h1) (pars_cw f _ _ _ _ _ _ _ h)
  ·cases h
 |f+1,.andL n,lv,d,ts,r,t,e,h=>by
  unfold pars at h
  split at h
  ·rename_i hd
   obtain⟨r0,rfl⟩:=head_ne hd (by decide)
   split at h
   ·rename_i n r1 e1 h1
    exact cw_app cw_kept.2.1 (cw_trans (pars_cw f _ _ _ _ _ _ _ h1) (pars_cw f _ _ _ _ _ _ _ h))
   ·cases h
  ·cases h
   exact cw_refl _
 |f+1,.not,lv,d,ts,r,t,e,h=>by
  unfold pars at h
  split at h
  ·rename_i hd
   obtain⟨r0,rfl⟩:=head_ne hd (by decide)
   split at h
   ·rename_i n r1 e1 h1
    cases h
    exact cw_app cw_kept.2.2.1 (pars_cw f _ _ _ _ _ _ _ h1)
   ·cases h
  ·exact pars_cw f _ _ _ _ _ _ _ h
 |f+1,.prim,lv,d,ts,r,t,e,h=>by
  unfold pars at h
  split at h
  ·rename_i hd
   obtain⟨r0,rfl⟩:=head_ne hd (by decide)
   cases h
   exact cw_app cw_kept.2.2.2.1 (cw_refl _)
  ·split at h
   ·rename_i hd
    obtain⟨r0,rfl⟩:=head_ne hd (by decide)
    cases h
    exact cw_app cw_kept.2.2.2.2 (cw_refl _)
   ·split at h
    ·rename_i hd
     obtain⟨r0,rfl⟩:=head_ne hd (by decide)
     split at h
     ·rename_i n r1 e1 h1
      split at h
      ·rename_i hr
       obtain⟨r2,rfl⟩:=head_ne hr (by decide)
       cases h
       exact cw_app (.inr (.inr (.inl rfl))) (cw_trans (pars_cw f _ _ _ _ _ _ _ h1) (cw_app (.inr (.inr (.inr (.inl rfl)))) (cw_refl _)))
      ·cases h
     ·cases h
    ·split at h
     ·rename_i a r1 h1
      split at h
      ·rename_i hrel
       split at h
       ·rename_i b r2 h2
        cases h
        refine cw_trans (termW_cw h1) ?_
        obtain⟨q,hq⟩:∃q,r1=r1.headD []::q:=by
         cases r1 with
         |nil=>exact absurd hrel (by decide)
         |cons a q=>exact⟨q,rfl⟩
        conv=>enter [1,pre];rw[hq]
        refine cw_app (.inr (.inr (.inr (.inr (.inr hrel))))) ?_
        have:r1.tail=q:=by rw[hq];rfl
        rw[<-this]
        exact termW_cw h2
       ·cases h
      ·cases h
     ·cases h
def readR (s:By):RdE:=if 1000<s.length then .err 3 else match splitS s with
 |none=>.err 2
 |some ws=>match pars litR (fuel s) .or 0 0 ws with
  |some (t,r,e)=>if r=[] then(if 20<e then .err 4 else .ok t) else .err 2
  |none=>.err 2
theorem readR_eq (s:By):readS s=match readR s with
  |.ok t=>.ok t.flat
  |.err e=>.err e:=by
 have hl:litR=litP:=funext litR_eq
 unfold readS readR
 by_cases h1:1000<s.length
 ·rw[if_pos h1,if_pos h1]
 ·rw[if_neg h1,if_neg h1,hl]
  cases hs:splitS s with
  |some ws=>
   rw[split_to _ _ _ hs]
   simp only
   cases hp:pars litP (fuel s) .or 0 0 ws with
   |none=>rfl
   |some p=>
    obtain⟨t,r,e⟩:=p
    simp only
    cases r with
    |nil=>
     simp only[List.headD_nil,beq_self_eq_true,if_true]
     split<;>rfl
    |cons w r=>
     have hne:w≠[]:=by
      obtain⟨pre,e1,_⟩:=pars_cw _ _ _ _ _ _ _ _ hp
      exact toks_ne s.length s (rL _) w (by rw[split_to _ _ _ hs,e1];simp)
     rw[if_neg (by simpa using hne),if_neg (by simp)]
  |none=>
   simp only
   cases hp:pars litP (fuel s) .or 0 0 (toks s) with
   |none=>rfl
   |some p=>
    obtain⟨t,r,e⟩:=p
    simp only
    obtain⟨pre,e1,h2⟩:=pars_cw _ _ _ _ _ _ _ _ hp
    cases r with
    |nil=>
     exfalso
     rw[List.append_nil] at e1
     have:=split_of (s.length+1) s (by omega) (by rw[e1];exact h2)
     unfold splitS at hs
     rw[hs] at this;cases this
    |cons w r=>
     have hne:w≠[]:=toks_ne s.length s (rL _) w (by rw[e1];simp)
     rw[if_neg (by simpa using hne)]
def rdr (ws:List By) (a dp:Int) (bad lim:Bool):GObj:=.box 250 [.sl .none (strG ws),.i .i64 a,.i .i64 dp,.b bad,.b lim]
theorem rdr_cl [MaxL] (ws:List By) (a dp:Int) (bad lim:Bool):ClL [.sl .none (strG ws),.i .i64 a,.i .i64 dp,.b bad,.b lim]:=.cons (Cl.sl (strG_cl ws)) (fun _=>rfl)
theorem rdC [MaxL] {ws:List By} {a dp:Int} {bad lim:Bool}:ClL [.sl .none (strG ws),.i .i64 a,.i .i64 dp,.b bad,.b lim]:=rdr_cl ws a dp bad lim
def wat (ws:List By) (a:Nat):By:=(ws.drop a).headD []
theorem wat_lt {ws:List By} {a:Nat} (h:a<ws.length):(strG ws)[a]?=some (.s (wat ws a)):=by
 unfold wat strG
 rw[List.getElem?_map,List.drop_eq_getElem_cons h,gL h];rfl
theorem wat_ge {ws:List By} {a:Nat} (h:ws.length<=a):wat ws a=[]:=by
 unfold wat;rw[List.drop_eq_nil_of_le h];rfl
theorem r_now [MaxL] (ws:List By) (hw:ws.length<most) (a:Nat) (dp:Int) (bad lim:Bool):SC Tryz.prog 306 [.ptr 0 0] [rdr ws a dp bad lim] (.val (.s (wat ws a))) [rdr ws a dp bad lim]:=by
 have hl:(strG ws).length=ws.length:=strG_len ws
 unfold most at hw
 refine gwS Tryz.func306 rfl ?_
 conv=>whnf
 refine GDraw.calm (by kernel_rfl) ?_
 conv=>whnf
 refine GIf.mk (fun h=>?_) (fun h=>?_)<;>conv=>whnf
 ·have ha:a<ws.length:=by have:=of_decide_eq_true h;rw[hl] at this;omega
  refine GDraw.calm (by kernel_rfl) ?_
  conv=>whnf
  refine⟨cN _,.s (wat ws a),by rw[Int.toNat_natCast];exact wat_lt ha,rfl,?_⟩
  conv=>whnf
  exact owesB_s rfl rfl (rdr_cl ws a dp bad lim)
 ·have ha:ws.length<=a:=by have:=of_decide_eq_false h;rw[hl] at this;omega
  rw[wat_ge ha]
  exact owesB_s rfl rfl (rdr_cl ws a dp bad lim)
def skipB (ws:List By) (a:Nat) (bad:Bool) (w:By):Bool:=!bad&&(wat ws a==w)
theorem r_skip [MaxL] (ws:List By) (hw:ws.length<most) (a:Nat) (ha:a<=ws.length) (dp:Int) (bad lim:Bool) (w:By):
  SC Tryz.prog 268 [.ptr 0 0,.s w] [rdr ws a dp bad lim] (.val (.b (skipB ws a bad w))) [rdr ws (if skipB ws a bad w then a+1 else a:Nat) dp bad lim]:=by
 have hn:=r_now ws hw a dp bad lim
 have hw':=hw
 unfold most at hw'
 cases bad with
 |true=>
  refine gwS Tryz.func268 rfl ?_
  conv=>whnf
  exact owesB_b rfl rfl (rdr_cl ws a dp true lim)
 |false=>
  have e:skipB ws a false w=(wat ws a==w):=by simp[skipB]
  rw[e]
  generalize wat ws a=x at*
  refine gwS Tryz.func268 rfl ?_
  conv=>whnf
  refine callB (q:=0) hn rfl (wR _) rfl rfl (rdr_cl ws a dp false lim) (rdr_cl ws a dp false lim) (fun _=>rfl) (.s _) ?_
  conv=>whnf
  refine GIf.mk (fun hc=>?_) (fun hc=>?_)<;>conv=>whnf
  ·have e2:(x==w)=false:=by simpa using hc
   rw[e2]
   exact owesB_b rfl rfl (rdr_cl ws a dp false lim)
  ·have e2:(x==w)=true:=by simpa using hc
   rw[e2]
   refine⟨[.i .i64 (a+1:Nat)],⟨(by rw[wrap_succ (by omega)];rfl),rL _,rfl,bL rfl⟩,?_⟩
   conv=>whnf
   exact owesB_b rfl rfl (rdr_cl ws (a+1:Nat) dp false lim)
theorem r_name [MaxL] (ws:List By) (hw:ws.length<most) (a:Nat) (dp:Int) (bad lim:Bool):
  SC Tryz.prog 341 [.ptr 0 0] [rdr ws a dp bad lim] (.val (.b (isName (wat ws a)&&!kept.contains (wat ws a)))) [rdr ws a dp bad lim]:=by
 have hn:=r_now ws hw a dp bad lim
 generalize wat ws a=x at*
 refine gwS Tryz.func341 rfl ?_
 conv=>whnf
 refine callB (q:=0) hn rfl (wR _) rfl rfl (rdr_cl ws a dp bad lim) (rdr_cl ws a dp bad lim) (fun _=>rfl) (.s _) ?_
 conv=>whnf
 refine pcP (r_Name x) ?_
 conv=>whnf
 refine GIf.mk (fun h1=>?_) (fun h1=>?_)<;>conv=>whnf
 ·skip
  refine pcP (r_kept x) ?_
  conv=>whnf
  refine owesB_b rfl ?_ (rdr_cl ws a dp bad lim)
  rw[h1];rfl
 ·refine owesB_b rfl ?_ (rdr_cl ws a dp bad lim)
  rw[h1];rfl
theorem r_in [MaxL] (ws:List By) (a lv:Nat) (hl:lv<1000000) (bad lim:Bool):
  SC Tryz.prog 323 [.ptr 0 0] [rdr ws a lv bad lim] (.val (.tup [])) [rdr ws a (lv+1:Nat) bad (lim||decide (20<lv+1))]:=by
 have e:IntKind.i64.wrap ((lv:Int)+1)=((lv+1:Nat):Int):=wrap_lv hl
 refine gwS Tryz.func323 rfl ?_
 conv=>whnf
 refine⟨[.i .i64 (lv+1:Nat)],⟨(by rw[e];rfl),rL _,rfl,bL rfl⟩,?_⟩
 conv=>whnf
 have e2:((20:Int)<((lv+1:Nat):Int))↔20<lv+1:=by omega
 refine GIf.mk (fun h=>?_) (fun h=>?_)<;>conv=>whnf
 ·have h':20<lv+1:=by have:=of_decide_eq_true h;omega
  refine⟨_,⟨rfl,zL _,rfl,bL rfl⟩,?_⟩
  conv=>whnf
  refine owesB ?_ (.refl _) (rdr_cl ws a (lv+1:Nat) bad _) (fun _=>rfl)
  rw[decide_eq_true h',Bool.or_true];rfl
 ·have h':¬20<lv+1:=by have:=of_decide_eq_false h;omega
  refine owesB ?_ (.refl _) (rdr_cl ws a (lv+1:Nat) bad _) (fun _=>rfl)
  rw[decide_eq_false h',Bool.or_false]
def sdc (t:Term):List GV:=[.s (if t.var then[] else t.name),.s (if t.var then t.name else[]),.i .i64 t.v.k,.i .i64 t.v.n,.s t.v.s]
def t0:Term:=⟨[],false,v0⟩
theorem sdc_cl [MaxL] (t:Term):ClL (sdc t):=fun _=>rfl
theorem r_side_bad [MaxL] (ws:List By) (hw:ws.length<most) (a:Nat) (dp:Int) (lim:Bool):
  SC Tryz.prog 333 [.ptr 0 0] [rdr ws a dp true lim] (.val (.agg (sdc t0))) [rdr ws a dp true lim]:=by
 have hn:=r_now ws hw a dp true lim
 generalize wat ws a=x at*
 refine gwS Tryz.func333 rfl ?_
 conv=>whnf
 refine callB (q:=0) hn rfl (wR _) rfl rfl (rdr_cl ws a dp true lim) (rdr_cl ws a dp true lim) (fun _=>rfl) (.s _) ?_
 conv=>whnf
 refine⟨_,⟨rfl,zL _,rfl,bL rfl⟩,?_⟩
 conv=>whnf
 exact owesB rfl (.refl _) (rdr_cl ws a dp true lim) (fun _=>rfl)
def nmOk (x:By):Bool:=isName x&&!kept.contains x
theorem termW_cons {lit:By->Option Val} (w:By) (ts:List By):termW lit (w::ts)=if w=[58] then(match termW lit ts with
   |some (t,r)=>if t.name=[]∨t.var=true then none else some (⟨t.name,true,t.v⟩,r)
   |none=>none)
  else if nmOk w then some (⟨w,false,v0⟩,ts) else match lit w with
   |some v=>some (⟨[],false,v⟩,ts)
   |none=>none:=by
 conv=>lhs;unfold termW
 rfl
theorem wat_drop {ws:List By} {a:Nat} (h:a<ws.length):ws.drop a=wat ws a::ws.drop (a+1):=by
 unfold wat
 rw[List.drop_eq_getElem_cons h];rfl
theorem nm_ne {x:By} (h:nmOk x=true):x≠[]/\x≠[58]:=by
 constructor<;>(rintro rfl;exact absurd h (by decide))
theorem wat_in {ws:List By} {a:Nat} (h:wat ws a≠[]):a<ws.length:=by
 rcases Nat.lt_or_ge a ws.length with h1|h1
 ·exact h1
 ·exact absurd (wat_ge h1) h
theorem litR_nil:litR []=none:=by unfold litR;rw[if_neg (fun h=>h.1 rfl)]
theorem termW_at (ws:List By) (a:Nat):termW litR (ws.drop a)=if nmOk (wat ws a) then some (⟨wat ws a,false,v0⟩,ws.drop (a+1)) else if wat ws a=[58] then
   (if nmOk (wat ws (a+1)) then some (⟨wat ws (a+1),true,v0⟩,ws.drop (a+2)) else none)
  else match litR (wat ws a) with
   |some v=>some (⟨[],false,v⟩,ws.drop (a+1))
   |none=>none:=by
 by_cases ha:a<ws.length
 ·rw[wat_drop ha,termW_cons]
  by_cases h1:wat ws a=[58]
  ·rw[if_pos h1,h1,if_neg (by decide),if_pos rfl]
   by_cases hb:a+1<ws.length
   ·rw[wat_drop hb,termW_cons]
    by_cases h3:nmOk (wat ws (a+1))=true
    ·rw[if_pos h3,if_neg (nm_ne h3).2,if_pos h3]
     simp only
     rw[if_neg (by rintro(h|h);exact(nm_ne h3).1 h;cases h)]
    ·rw[if_neg h3,if_neg h3]
     by_cases h4:wat ws (a+1)=[58]
     ·rw[if_pos h4]
      cases termW litR (ws.drop (a+1+1)) with
      |none=>rfl
      |some p=>
       obtain⟨t,r⟩:=p
       simp only
       by_cases h5:t.name=[]∨t.var=true
       ·rw[if_pos h5]
       ·rw[if_neg h5];simp only;rw[if_pos (.inr trivial)]
     ·rw[if_neg h4]
      cases litR (wat ws (a+1)) with
      |none=>rfl
      |some v=>simp only;rw[if_pos (.inl trivial)]
   ·rw[wat_ge (by omega),List.drop_eq_nil_of_le (by omega)]
    rfl
  ·rw[if_neg h1,if_neg h1]
 ·rw[wat_ge (by omega),List.drop_eq_nil_of_le (by omega),if_neg (by decide),if_neg (by decide),litR_nil]
  rfl
theorem litR_case (x:By):(litR x=some (litQ x).1/\x≠[]/\(litQ x).2=x.length/\(litQ x).1.ok=true)∨(litR x=none/\¬(x≠[]/\(litQ x).2=x.length/\(litQ x).1.ok=true)):=by
 unfold litR
 by_cases h:x≠[]/\(litQ x).2=x.length/\(litQ x).1.ok=true
 ·rw[if_pos h];exact .inl ⟨rfl,h⟩
 ·rw[if_neg h];exact .inr ⟨rfl,h⟩
theorem r_side [MaxL] (ws : List By) (hw : ws.length < most) (hx : ∀ w ∈ ws, w.length < 1000000) (a : Nat) (ha : a ≤ ws.length) (dp : Int) (lim : Bool) :
    match termW litR (ws.drop a) with
    | some (t, r) => ∃ a', a ≤ a' ∧ a' ≤ ws.length ∧ r = ws.drop a' ∧ SC Tryz.prog 333 [.ptr 0 0] [rdr ws a dp false lim] (.val (.agg (sdc t))) [rdr ws a' dp false lim]
    | none => ∃ a', a ≤ a' ∧ a' ≤ ws.length ∧ SC Tryz.prog 333 [.ptr 0 0] [rdr ws a dp false lim] (.val (.agg (sdc t0))) [rdr ws a' dp true lim] := by
  have hn := r_now ws hw a dp false lim
  have hn1 := r_name ws hw a dp false lim
  have hn2 := r_name ws hw (a + 1) dp false lim
  have hxl : (wat ws a).length < 1000000 := by
    rcases Nat.lt_or_ge a ws.length with h1 | h1
    · exact hx _ (by have := wat_drop h1; exact List.mem_of_mem_drop (i := a) (by rw [this]; simp))
    · rw [wat_ge h1]; decide
  have hw' := hw
  unfold most at hw'
  have hlen : (strG ws).length = ws.length := strG_len ws
  rw [termW_at]
  by_cases h1 : nmOk (wat ws a) = true
  · rw [if_pos h1]
    have hlt := wat_in (nm_ne h1).1
    refine ⟨a + 1, by omega, hlt, rfl, ?_⟩
    replace hn1 : SC Tryz.prog 341 [.ptr 0 0] [rdr ws a dp false lim] (.val (.b (nmOk (wat ws a)))) [rdr ws a dp false lim] := hn1
    rw [h1] at hn1
    generalize wat ws a = x at *
    refine gwS Tryz.func333 rfl ?_
    conv => whnf
    refine callB (q := 0) hn rfl (wR _) rfl rfl (rdr_cl ws a dp false lim) (rdr_cl ws a dp false lim) (fun _ => rfl) (.s _) ?_
    conv => whnf
    refine callB (q := 0) hn1 rfl (wR _) rfl rfl (rdr_cl ws a dp false lim) (rdr_cl ws a dp false lim) (fun _ => rfl) (.b _) ?_
    conv => whnf
    refine ⟨[.i .i64 (a + 1 : Nat)], ⟨(by rw [wrap_succ (by omega)]; rfl), rL _, rfl, bL rfl⟩, ?_⟩
    conv => whnf
    refine ⟨_, ⟨rfl, zL _, rfl, bL rfl⟩, ?_⟩
    conv => whnf
    exact owesB rfl (.refl _) (rdr_cl ws (a + 1 : Nat) dp false lim) (fun _ => rfl)
  rw [if_neg h1]
  have h1' : nmOk (wat ws a) = false := by simpa using h1
  replace hn1 : SC Tryz.prog 341 [.ptr 0 0] [rdr ws a dp false lim] (.val (.b (nmOk (wat ws a)))) [rdr ws a dp false lim] := hn1
  rw [h1'] at hn1
  by_cases h2 : wat ws a = [58]
  · rw [if_pos h2]
    have hlt := wat_in (ws := ws) (a := a) (by rw [h2]; simp)
    replace hn2 : SC Tryz.prog 341 [.ptr 0 0] [rdr ws (a + 1 : Nat) dp false lim] (.val (.b (nmOk (wat ws (a + 1))))) [rdr ws (a + 1 : Nat) dp false lim] := hn2
    rw [h2] at hn
    by_cases h3 : nmOk (wat ws (a + 1)) = true
    · rw [if_pos h3]
      have hlt2 := wat_in (nm_ne h3).1
      have hget := wat_lt hlt2
      refine ⟨a + 2, by omega, hlt2, rfl, ?_⟩
      rw [h3] at hn2
      generalize wat ws (a + 1) = y at *
      clear h1 h1' h2 hxl
      refine gwS Tryz.func333 rfl ?_
      conv => whnf
      refine callB (q := 0) hn rfl (wR _) rfl rfl (rdr_cl ws a dp false lim) (rdr_cl ws a dp false lim) (fun _ => rfl) (.s _) ?_
      conv => whnf
      refine callB (q := 0) hn1 rfl (wR _) rfl rfl (rdr_cl ws a dp false lim) (rdr_cl ws a dp false lim) (fun _ => rfl) (.b _) ?_
      conv => whnf
      refine ⟨[.i .i64 (a + 1 : Nat)], ⟨(by rw [wrap_succ (by omega)]; rfl), rL _, rfl, bL rfl⟩, ?_⟩
      conv => whnf
      refine callB (q := 0) hn2 rfl (wR _) rfl rfl (rdr_cl ws (a + 1 : Nat) dp false lim) (rdr_cl ws (a + 1 : Nat) dp false lim) (fun _ => rfl) (.b _) ?_
      conv => whnf
      refine ⟨[.i .i64 (a + 2 : Nat)], ⟨(by rw [wrap_succ (i := a + 1) (by omega)]; rfl), rL _, rfl, bL rfl⟩, ?_⟩
      conv => whnf
      refine GDraw.calm (by kernel_rfl) ?_
      conv => whnf
      have w2 : IntKind.i64.wrap (((a + 2 : Nat) : Int) - 1) = ((a + 1 : Nat) : Int) := by rw [wrap_in (by omega) (by omega)]; omega
      refine ⟨by rw [w2]; exact cN _, .s y, by rw [w2, Int.toNat_natCast]; exact hget, rfl, ?_⟩
      conv => whnf
      refine ⟨_, ⟨rfl, zL _, rfl, bL rfl⟩, ?_⟩
      conv => whnf
      exact owesB rfl (.refl _) (rdr_cl ws (a + 2 : Nat) dp false lim) (fun _ => rfl)
    · rw [if_neg h3]
      refine ⟨a + 1, by omega, hlt, ?_⟩
      have h3' : nmOk (wat ws (a + 1)) = false := by simpa using h3
      rw [h3'] at hn2
      generalize wat ws (a + 1) = y at *
      clear h1 h1' h2 hxl
      refine gwS Tryz.func333 rfl ?_
      conv => whnf
      refine callB (q := 0) hn rfl (wR _) rfl rfl (rdr_cl ws a dp false lim) (rdr_cl ws a dp false lim) (fun _ => rfl) (.s _) ?_
      conv => whnf
      refine callB (q := 0) hn1 rfl (wR _) rfl rfl (rdr_cl ws a dp false lim) (rdr_cl ws a dp false lim) (fun _ => rfl) (.b _) ?_
      conv => whnf
      refine ⟨[.i .i64 (a + 1 : Nat)], ⟨(by rw [wrap_succ (by omega)]; rfl), rL _, rfl, bL rfl⟩, ?_⟩
      conv => whnf
      refine callB (q := 0) hn2 rfl (wR _) rfl rfl (rdr_cl ws (a + 1 : Nat) dp false lim) (rdr_cl ws (a + 1 : Nat) dp false lim) (fun _ => rfl) (.b _) ?_
      conv => whnf
      refine ⟨_, ⟨rfl, zL _, rfl, bL rfl⟩, ?_⟩
      conv => whnf
      refine ⟨_, ⟨rfl, zL _, rfl, bL rfl⟩, ?_⟩
      conv => whnf
      exact owesB rfl (.refl _) (rdr_cl ws (a + 1 : Nat) dp true lim) (fun _ => rfl)
  · rw [if_neg h2]
    have hl := litR_case (wat ws a)
    have hlit := r_Literal (wat ws a) hxl
    have hok := r_ValidValue (litQ (wat ws a)).1
    have hin := wat_in (ws := ws) (a := a)
    generalize wat ws a = x at *
    generalize litQ x = q at *
    obtain ⟨v, k⟩ := q
    simp only at hl hlit hok
    rcases hl with ⟨e, l1, l2, l3⟩ | ⟨e, l0⟩
    · rw [e]
      refine ⟨a + 1, by omega, hin l1, rfl, ?_⟩
      rw [l3] at hok
      refine gwS Tryz.func333 rfl ?_
      conv => whnf
      refine callB (q := 0) hn rfl (wR _) rfl rfl (rdr_cl ws a dp false lim) (rdr_cl ws a dp false lim) (fun _ => rfl) (.s _) ?_
      conv => whnf
      refine callB (q := 0) hn1 rfl (wR _) rfl rfl (rdr_cl ws a dp false lim) (rdr_cl ws a dp false lim) (fun _ => rfl) (.b _) ?_
      conv => whnf
      refine GIf.mk (fun hc => ?_) (fun hc => ?_) <;> conv => whnf
      · exact absurd (by simpa using hc) h2
      refine callP hlit (wR _) rfl (fun _ => rfl) (fun _ => rfl) ?_
      conv => whnf
      refine ⟨_, ⟨rfl, zL _, rfl, bL rfl⟩, ?_⟩
      conv => whnf
      refine GIf.mk (fun s1 => ?_) (fun s1 => ?_) <;> conv => whnf
      rotate_left
      · exact absurd (by simpa using s1) l1
      refine GIf.mk (fun s2 => ?_) (fun s2 => ?_) <;> conv => whnf
      rotate_left
      · have := of_decide_eq_false s2; exact absurd (by omega) this
      refine callP hok (wR _) rfl (fun _ => rfl) (.b _) ?_
      conv => whnf
      refine ⟨[.i .i64 (a + 1 : Nat)], ⟨(by rw [wrap_succ (by have := hin l1; omega)]; rfl), rL _, rfl, bL rfl⟩, ?_⟩
      conv => whnf
      refine ⟨_, ⟨rfl, zL _, rfl, bL rfl⟩, ?_⟩
      conv => whnf
      exact owesB rfl (.refl _) (rdr_cl ws (a + 1 : Nat) dp false lim) (fun _ => rfl)
    · rw [e]
      refine ⟨a, rL _, ha, ?_⟩
      refine gwS Tryz.func333 rfl ?_
      conv => whnf
      refine callB (q := 0) hn rfl (wR _) rfl rfl (rdr_cl ws a dp false lim) (rdr_cl ws a dp false lim) (fun _ => rfl) (.s _) ?_
      conv => whnf
      refine callB (q := 0) hn1 rfl (wR _) rfl rfl (rdr_cl ws a dp false lim) (rdr_cl ws a dp false lim) (fun _ => rfl) (.b _) ?_
      conv => whnf
      refine GIf.mk (fun hc => ?_) (fun hc => ?_) <;> conv => whnf
      · exact absurd (by simpa using hc) h2
      refine callP hlit (wR _) rfl (fun _ => rfl) (fun _ => rfl) ?_
      conv => whnf
      refine ⟨_, ⟨rfl, zL _, rfl, bL rfl⟩, ?_⟩
      conv => whnf
      refine GIf.mk (fun s1 => ?_) (fun s1 => ?_) <;> conv => whnf
      · refine GIf.mk (fun s2 => ?_) (fun s2 => ?_) <;> conv => whnf
        · have hvo : v.ok = false := by
            cases hv : v.ok with
            | false => rfl
            | true => exact absurd ⟨by simpa using s1, by have : (k : Int) = (x.length : Int) := by simpa using s2
                                                          omega, hv⟩ l0
          rw [hvo] at hok
          refine callP hok (wR _) rfl (fun _ => rfl) (.b _) ?_
          conv => whnf
          refine ⟨_, ⟨rfl, zL _, rfl, bL rfl⟩, ?_⟩
          conv => whnf
          refine ⟨_, ⟨rfl, zL _, rfl, bL rfl⟩, ?_⟩
          conv => whnf
          exact owesB rfl (.refl _) (rdr_cl ws a dp true lim) (fun _ => rfl)
        · skip
          refine ⟨_, ⟨rfl, zL _, rfl, bL rfl⟩, ?_⟩
          conv => whnf
          refine ⟨_, ⟨rfl, zL _, rfl, bL rfl⟩, ?_⟩
          conv => whnf
          exact owesB rfl (.refl _) (rdr_cl ws a dp true lim) (fun _ => rfl)
      · skip
        refine ⟨_, ⟨rfl, zL _, rfl, bL rfl⟩, ?_⟩
        conv => whnf
        refine ⟨_, ⟨rfl, zL _, rfl, bL rfl⟩, ?_⟩
        conv => whnf
        exact owesB rfl (.refl _) (rdr_cl ws a dp true lim) (fun _ => rfl)
end Go.Proofs.YtcfgfkkhpdlhpaaGreatDoor
