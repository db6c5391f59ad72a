/-
  A part of the proof of SchemaLess.
-/
import Derived.Test.YtcfgfkkhpdlhpaaGreatDoorQ37
import Derived.Test.YtcfgfkkhpdlhpaaGreatDoorQ40
set_option linter.all false
namespace Go.Proofs.YtcfgfkkhpdlhpaaGreatDoor
open Go.RowKit
set_option maxRecDepth 100000
set_option linter.unusedVariables false
def isPair (a:Bool):Tree->Bool
 |.pair b _ _=>a==b
 |_=>false
def flatOk:Tree->Prop
 |.pair a l r=>flatOk l/\flatOk r/\isPair a r=false
 |.no t=>flatOk t
 |_=>True
theorem flatA_some (b:Bool):∀(t x:Tree),∃l r,flatA b (some x) t=.pair b l r
 |.pair c l r,x=>by
  unfold flatA
  split
  ·exact flatA_some b r _
  ·exact⟨_,_,rfl⟩
 |.no t,x=>⟨_,_,rfl⟩
 |.test _ _ _,x=>⟨_,_,rfl⟩
 |.truth _,x=>⟨_,_,rfl⟩
def accOk:Option Tree->Prop
 |none=>True
 |some t=>flatOk t
theorem joinA_ok {a:Bool} {acc:Option Tree} {t:Tree} (h:accOk acc) (ht:flatOk t) (hp:isPair a t=false):flatOk (joinA a acc t):=by
 cases acc with
 |none=>exact ht
 |some x=>exact⟨h,ht,hp⟩
theorem flatA_ok:∀(t:Tree) (a:Bool) (acc:Option Tree),accOk acc->flatOk (flatA a acc t)
 |.pair b l r,a,acc,h=>by
  unfold flatA
  split
  ·exact flatA_ok r a _ (flatA_ok l a _ h)
  ·rename_i hab
   refine joinA_ok h (flatA_ok r b _ (flatA_ok l b none trivial)) ?_
   obtain⟨x,y,e⟩:=flatA_some b r (flatA b none l)
   rw[e]
   simpa[isPair] using hab
 |.no t,a,acc,h=>by
  unfold flatA
  exact joinA_ok h (flatA_ok t true none trivial) rfl
 |.test _ _ _,a,acc,h=>by unfold flatA;exact joinA_ok h trivial rfl
 |.truth _,a,acc,h=>by unfold flatA;exact joinA_ok h trivial rfl
theorem flat_ok (t:Tree):flatOk t.flat:=flatA_ok t true none trivial
theorem flatA_not (b:Bool) (x r:Tree) (h:isPair b r=false):flatA b (some x) r=.pair b x (flatA b none r):=by
 cases r with
 |pair c l r=>
  have hb:¬b=c:=by simpa[isPair] using h
  conv=>lhs;unfold flatA
  conv=>rhs;unfold flatA
  rw[if_neg hb,if_neg hb];rfl
 |_=>rfl
theorem flat_of_ok:∀(t:Tree),flatOk t->∀a,flatA a none t=t
 |.pair b l r,h,a=>by
  rw[flatA_none a b]
  conv=>lhs;unfold flatA
  rw[if_pos rfl,flat_of_ok l h.1 b,flatA_not b l r h.2.2,flat_of_ok r h.2.1 b]
 |.no t,h,a=>by
  unfold flatA
  rw[flat_of_ok t h true];rfl
 |.test _ _ _,h,a=>rfl
 |.truth _,h,a=>rfl
theorem flat_id {t:Tree} (h:flatOk t):t.flat=t:=flat_of_ok t h true
theorem flat_flat (t:Tree):t.flat.flat=t.flat:=flat_id (flat_ok t)
def Term.good (t:Term):Prop:=(t.name≠[]/\isName t.name=true/\kept.contains t.name=false/\t.v=v0)∨(t.name=[]/\t.var=false/\t.v.ok=true)
def Tree.good:Tree->Prop
 |.pair _ l r=>l.good/\r.good
 |.no t=>t.good
 |.test op l r=>relop op=true/\l.good/\r.good
 |.truth _=>True
theorem termW_good:∀{ts r:List By} {t:Term},termW litP ts=some (t,r)->t.good
 |[],r,t,h=>by cases h
 |w::ts,r,t,h=>by
  unfold termW at h
  split at h
  ·split at h
   ·rename_i t' r' h1
    have ih:=termW_good h1
    split at h
    ·cases h
    ·rename_i hc
     cases h
     rcases ih with ih|ih
     ·exact .inl ih
     ·exact absurd (.inl ih.1) hc
   ·cases h
  ·split at h
   ·rename_i hn
    cases h
    simp only[Bool.and_eq_true,Bool.not_eq_true'] at hn
    exact .inl ⟨(by rintro rfl;exact absurd hn.1 (by decide)),hn.1,hn.2,rfl⟩
   ·split at h
    ·rename_i v hv
     cases h
     exact .inr ⟨rfl,rfl,litP_ok' hv⟩
    ·cases h
def Md.good:Md->Prop
 |.orL n=>n.good
 |.andL n=>n.good
 |_=>True
theorem pars_good:∀(f:Nat) (m:Md) (lv d:Nat) (ts r:List By) (t:Tree) (e:Nat),pars litP f m lv d ts=some (t,r,e)->m.good->t.good
 |0,m,lv,d,ts,r,t,e,h,_=>by cases h
 |f+1,.or,lv,d,ts,r,t,e,h,_=>by
  unfold pars at h
  split at h
  ·rename_i n r1 e1 h1
   exact pars_good f _ _ _ _ _ _ _ h (pars_good f _ _ _ _ _ _ _ h1 trivial)
  ·cases h
 |f+1,.orL n,lv,d,ts,r,t,e,h,hn=>by
  unfold pars at h
  split at h
  ·split at h
   ·rename_i n r1 e1 h1
    exact pars_good f _ _ _ _ _ _ _ h ⟨hn,pars_good f _ _ _ _ _ _ _ h1 trivial⟩
   ·cases h
  ·cases h;exact hn
 |f+1,.and,lv,d,ts,r,t,e,h,_=>by
  unfold pars at h
  split at h
  ·rename_i n r1 e1 h1
   exact pars_good f _ _ _ _ _ _ _ h (pars_good f _ _ _ _ _ _ _ h1 trivial)
  ·cases h
 |f+1,.andL n,lv,d,ts,r,t,e,h,hn=>by
  unfold pars at h
  split at h
  ·split at h
   ·rename_i n r1 e1 h1
    exact pars_good f _ _ _ _ _ _ _ h ⟨hn,pars_good f _ _ _ _ _ _ _ h1 trivial⟩
   ·cases h
  ·cases h;exact hn
 |f+1,.not,lv,d,ts,r,t,e,h,_=>by
  unfold pars at h
  split at h
  ·split at h
   ·rename_i n r1 e1 h1
    cases h
    show n.good
    exact pars_good f .prim _ _ _ _ _ _ h1 trivial
   ·cases h
  ·exact pars_good f .prim _ _ _ _ _ _ h trivial
 |f+1,.prim,lv,d,ts,r,t,e,h,_=>by
  unfold pars at h
  split at h
  ·cases h;trivial
  ·split at h
   ·cases h;trivial
   ·split at h
    ·split at h
     ·rename_i n r1 e1 h1
      split at h
      ·cases h
       exact pars_good f .or _ _ _ _ _ _ h1 trivial
      ·cases h
     ·cases h
    ·split at h
     ·rename_i a r1 h1
      split at h
      ·rename_i hrel
       split at h
       ·rename_i b r2 h2
        cases h
        exact⟨hrel,termW_good h1,termW_good h2⟩
       ·cases h
      ·cases h
     ·cases h
def accGood:Option Tree->Prop
 |none=>True
 |some t=>t.good
theorem joinA_good (a:Bool) {acc:Option Tree} {t:Tree} (h:accGood acc) (h':t.good):(joinA a acc t).good:=by
 cases acc with
 |none=>exact h'
 |some x=>exact⟨h,h'⟩
theorem flatA_good (a:Bool):∀(t:Tree) (acc:Option Tree),accGood acc->t.good->(flatA a acc t).good
 |.pair b l r,acc,h,ht=>by
  unfold flatA
  split
  ·exact flatA_good a r _ (flatA_good a l _ h ht.1) ht.2
  ·exact joinA_good a h (flatA_good b r _ (flatA_good b l _ trivial ht.1) ht.2)
 |.no t,acc,h,ht=>by unfold flatA;exact joinA_good a h (flatA_good true t _ trivial ht)
 |.test _ _ _,acc,h,ht=>by unfold flatA;exact joinA_good a h ht
 |.truth _,acc,h,ht=>by unfold flatA;exact joinA_good a h ht
theorem flat_good {t:Tree} (h:t.good):t.flat.good:=flatA_good true t none trivial h
theorem litP_q (l:List UInt8):litP (34::l)=qlit (34::l):=litP_no (fun v h=>by
 unfold Lib.atoiAll at h
 simp only[show¬((34:UInt8).toNat=43∨(34:UInt8).toNat=45) by decide,if_false] at h
 unfold Lib.parseMag Lib.parseUint10 at h
 rw[if_neg (by simp),if_neg (by decide)] at h
 cases h)
theorem ok_cases {v:Val} (h:v.ok=true):(∃n,v=⟨1,n,[]⟩/\ -1000000000<=n/\n<=1000000000)∨∃s,v=⟨2,0,s⟩:=by
 obtain⟨k,n,s⟩:=v
 simp only[Val.ok,Bool.or_eq_true,Bool.and_eq_true,decide_eq_true_eq] at h
 rcases h with⟨⟨⟨rfl,rfl⟩,h1⟩,h2⟩|⟨⟨rfl,rfl⟩,h1⟩
 ·exact .inl ⟨n,rfl,h1,h2⟩
 ·exact .inr ⟨s,rfl⟩
theorem lit_written {v:Val} (h:v.ok=true):litP (written v)=some v:=by
 rcases ok_cases h with⟨n,rfl,h1,h2⟩|⟨s,rfl⟩
 ·show litP (Lib.itoa n)=_
  rw[litP_ok (atoi_itoa h1 h2),if_pos ⟨rfl,h⟩]
 ·show litP (34::(s.flatMap esc++[34]))=_
  rw[litP_q,qlit_q,rt_of]
  simp only
  rw[if_pos ⟨h,rfl⟩]
def Term.words (t:Term):List By:=if t.var then[[58],t.name] else if t.name≠[] then[t.name] else[written t.v]
theorem termW_name {w:By} (h:isName w=true) (hk:kept.contains w=false) (ts:List By):termW litP (w::ts)=some (⟨w,false,v0⟩,ts):=by
 conv=>lhs;unfold termW
 rw[if_neg (by rintro rfl;exact absurd h (by decide)),if_pos (by rw[h,hk];rfl)]
theorem lit_head {w:By} {v:Val} (h:litP w=some v):∃c t,w=c::t/\(c=34∨c=45∨isDigit c=true):=by
 cases w with
 |nil=>rw[litP_no (fun v h=>by cases h),qlit_no (by simp)] at h;cases h
 |cons c t=>
  refine⟨c,t,rfl,?_⟩
  by_cases h34:c=34
  ·exact .inl h34
  ·have:=lit_num h h34
   rcases num_pos (c:=c) (t:=t) (by rw[this];simp) with e|e
   ·exact .inr (.inr e)
   ·exact .inr (.inl e.1)
theorem lit_ne {w w':By} {v:Val} (h:litP w=some v) (h':w'.head?.any (fun c=>c==34||c==45||isDigit c)=false):w≠w':=by
 obtain⟨c,t,rfl,hc⟩:=lit_head h
 rintro rfl
 simp only[List.head?_cons,Option.any_some,Bool.or_eq_false_iff] at h'
 rcases hc with rfl|rfl|hc
 ·exact absurd h'.1.1 (by decide)
 ·exact absurd h'.1.2 (by decide)
 ·rw[hc] at h';exact absurd h'.2 (by decide)
theorem lit_noname {w:By} {v:Val} (h:litP w=some v):isName w=false:=by
 obtain⟨c,t,rfl,hc⟩:=lit_head h
 cases hn:isName (c::t) with
 |false=>rfl
 |true=>
  have:=(small_iff c).1 (name_head hn)
  rcases hc with rfl|rfl|hc
  ·exact absurd this (by decide)
  ·exact absurd this (by decide)
  ·have:=(isDigit_iff c).1 hc;omega
theorem termW_words {t:Term} (h:t.good) (rest:List By):termW litP (t.words++rest)=some (t,rest):=by
 obtain⟨name,var,v⟩:=t
 rcases h with⟨h1,h2,h3,h4⟩|⟨h1,h2,h3⟩
 ·simp only at h1 h2 h3 h4
  subst h4
  cases var with
  |true=>
   show termW litP ([58]::name::rest)=_
   rw[termW_c,termW_name h2 h3]
   simp only
   rw[if_neg (by rintro(h|h);exact h1 h;cases h)]
   rfl
  |false=>
   have:Term.words ⟨name,false,v0⟩=[name]:=by unfold Term.words;rw[if_neg (by simp),if_pos h1]
   rw[this]
   exact termW_name h2 h3 rest
 ·simp only at h1 h2 h3
  subst h1;subst h2
  show termW litP (written v::rest)=_
  have hl:=lit_written h3
  rw[termW_w (lit_ne hl (by decide)),if_neg (by rw[lit_noname hl];simp),hl]
def Bd (y:By):Prop:=y=[]∨∃z,y=32::z∨y=41::z
theorem Bd.sp (z:By):Bd (32::z):=.inr ⟨z,.inl rfl⟩
theorem Bd.cl (z:By):Bd (41::z):=.inr ⟨z,.inr rfl⟩
theorem tw_bd {u y:By} (hu:∀c∈u,isInner c=true) (hy:Bd y):(u++y).takeWhile isInner=u:=by
 induction u with
 |nil=>rcases hy with rfl|⟨z,rfl|rfl⟩<;>rfl
 |cons c u ih=>
  rw[List.cons_append,List.takeWhile_cons,if_pos (hu c (by simp)),ih (fun d hd=>hu d (by simp[hd]))]
theorem toks_w {c:UInt8} {u y:By} (h32:c≠32) (hl:wlen (c::(u++y))=u.length+1):toks (c::u++y)=(c::u)::toks y:=by
 show toks (c::(u++y))=_
 rw[toks_c h32]
 unfold wrd
 rw[hl,List.take_succ_cons,List.drop_succ_cons,List.take_left',List.drop_left']<;>rfl
theorem toks_inner {c:UInt8} {u y:By} (hc:isInner c=true) (hu:∀c∈u,isInner c=true) (hy:Bd y):toks (c::u++y)=(c::u)::toks y:=by
 have hn:=inner_not hc
 refine toks_w hn.2.2.2.2.2.2.2.2 ?_
 rw[wlen_c,if_neg (fun e=>by rcases(pre_iff c _).1 e with e|e;exact hn.1 e.1;exact hn.2.1 e.1),if_pos (by rw[hc];rfl)]
 unfold runW
 rw[tw_bd hu hy];omega
theorem toks_name {w y:By} (h:isName w=true) (hy:Bd y):toks (w++y)=w::toks y:=by
 cases w with
 |nil=>exact absurd h (by decide)
 |cons c u=>
  simp only[isName,Bool.and_eq_true,List.all_eq_true] at h
  exact toks_inner (h.2 c (by simp)) (fun d hd=>h.2 d (by simp[hd])) hy
theorem toks_mark {c:UInt8} (h:c=40∨c=41∨c=58) (y:By):toks (c::y)=[c]::toks y:=by
 have hp:isPre (c::y)=false:=by
  cases hp:isPre (c::y) with
  |false=>rfl
  |true=>rcases(pre_iff c y).1 hp with e|e<;>(have:=e.1;subst this;rcases h with h|h|h<;>exact absurd h (by decide))
 have hw:wlen (c::([]++y))=([]:By).length+1:=by
  show wlen (c::y)=1
  rw[wlen_c,hp]
  rcases h with rfl|rfl|rfl<;>rfl
 exact toks_w (by rcases h with rfl|rfl|rfl<;>decide) hw
theorem toks_rel {w:By} (h:relop w=true) (z:By):toks (w++32::z)=w::toks (32::z):=by
 simp only[relop,rels,List.contains_eq_mem,decide_eq_true_eq,List.mem_cons,List.not_mem_nil,or_false] at h
 rcases h with rfl|rfl|rfl|rfl|rfl|rfl
 ·exact toks_w (u:=[]) (by decide) rfl
 ·exact toks_w (u:=[62]) (by decide) rfl
 ·exact toks_w (u:=[]) (by decide) rfl
 ·exact toks_w (u:=[61]) (by decide) rfl
 ·exact toks_w (u:=[]) (by decide) rfl
 ·exact toks_w (u:=[61]) (by decide) rfl
theorem toks_value {v:Val} (h:v.ok=true) {y:By} (hy:Bd y):toks (written v++y)=written v::toks y:=by
 rcases ok_cases h with⟨n,rfl,h1,h2⟩|⟨s,rfl⟩
 ·show toks (Lib.itoa n++y)=Lib.itoa n::toks y
  unfold Lib.itoa
  by_cases hn:n<0
  ·rw[if_pos hn]
   obtain⟨d1,d2,d3,_⟩:=dec_digs n.natAbs
   refine toks_w (by decide) ?_
   cases hd:Lib.decDigits n.natAbs with
   |nil=>exact absurd hd d3
   |cons d r=>
    rw[hd] at d1
    rw[wlen_c,if_neg (fun e=>by rcases(pre_iff 45 _).1 e with e|e<;>exact absurd e.1 (by decide)),if_pos (by simp[d1 d (by simp)])]
    unfold runW
    rw[tw_bd (fun c hc=>digit_inner (d1 c hc)) hy];omega
  ·rw[if_neg hn]
   obtain⟨d1,d2,d3,_⟩:=dec_digs n.toNat
   cases hd:Lib.decDigits n.toNat with
   |nil=>exact absurd hd d3
   |cons d r=>
    rw[hd] at d1
    exact toks_inner (digit_inner (d1 d (by simp))) (fun c hc=>digit_inner (d1 c (by simp[hc]))) hy
 ·show toks (34::(s.flatMap esc++[34])++y)=(34::(s.flatMap esc++[34]))::toks y
  refine toks_w (by decide) ?_
  rw[wlen_c,if_neg (fun e=>by rcases(pre_iff 34 _).1 e with e|e<;>exact absurd e.1 (by decide)),if_neg (by simp;decide),if_pos rfl,List.append_assoc]
  show min (2+qlen (s.flatMap esc++34::y)) _=_
  rw[qlen_of]
  simp only[List.length_append,List.length_cons,List.length_nil,List.singleton_append];omega
theorem toks_term {t:Term} (h:t.good) {y:By} (hy:Bd y):toks (t.txt++y)=t.words++toks y:=by
 obtain⟨name,var,v⟩:=t
 rcases h with⟨h1,h2,h3,h4⟩|⟨h1,h2,h3⟩
 ·simp only at h1 h2 h3 h4
  cases var with
  |true=>
   show toks (58::(name++y))=[58]::name::toks y
   rw[toks_mark (.inr (.inr rfl)),toks_name h2 hy]
  |false=>
   have e1:Term.words ⟨name,false,v⟩=[name]:=by unfold Term.words;rw[if_neg (by simp),if_pos h1]
   have e2:Term.txt ⟨name,false,v⟩=name:=by unfold Term.txt;rw[if_neg (by simp),if_pos h1]
   rw[e1,e2,toks_name h2 hy];rfl
 ·simp only at h1 h2 h3
  subst h1;subst h2
  have e2:Term.txt ⟨[],false,v⟩=written v:=by
   show(if v.ok=true then written v else[])=_
   rw[if_pos h3]
  rw[e2,toks_value h3 hy];rfl
def parw (b:Bool) (ws:List By):List By:=if b then[40]::(ws++[[41]]) else ws
def wOp (a:Bool):By:=if a then wAnd else wOr
def Tree.words:Tree->List By
 |.pair a l r=>parw (decide (l.level<opn a)) l.words++wOp a::parw (decide (r.level<opn a)) r.words
 |.no t=>wNot::parw (decide (t.level<4)) t.words
 |.test op l r=>l.words++op::r.words
 |.truth b=>[if b then wTrue else wFalse]
theorem toks_paren {b:Bool} {p:By} {ws:List By} (h:∀y,Bd y->toks (p++y)=ws++toks y) {y:By} (hy:Bd y):toks (paren b p++y)=parw b ws++toks y:=by
 cases b with
 |false=>exact h y hy
 |true=>
  show toks (40::(p++[41])++y)=[40]::(ws++[[41]])++toks y
  rw[List.cons_append,List.append_assoc,toks_mark (.inl rfl)]
  show[40]::toks (p++41::y)=_
  rw[h _ (.cl y),toks_mark (.inr (.inl rfl))]
  simp
theorem toks_plain:∀(t:Tree),t.good->∀y,Bd y->toks (t.plain++y)=t.words++toks y
 |.pair a l r,h,y,hy=>by
  unfold Tree.plain Tree.words
  rw[List.append_assoc,List.append_assoc]
  have e:sep a++(paren (decide (r.level<opn a)) r.plain++y)=32::(wOp a++32::(paren (decide (r.level<opn a)) r.plain++y)):=by
   cases a<;>simp[sep,wOp]
  rw[e,toks_paren (toks_plain l h.1) (.sp _),toks_sp,toks_name (by cases a<;>decide) (.sp _),toks_sp,toks_paren (toks_plain r h.2) hy]
  simp
 |.no t,h,y,hy=>by
  unfold Tree.plain Tree.words
  rw[List.append_assoc,List.append_assoc]
  show toks (wNot++32::(paren (decide (t.level<4)) t.plain++y))=_
  rw[toks_name (by decide) (.sp _),toks_sp,toks_paren (toks_plain t h) hy]
  rfl
 |.test op l r,h,y,hy=>by
  unfold Tree.plain Tree.words
  have e:l.txt++[32]++op++[32]++r.txt++y=l.txt++32::(op++32::(r.txt++y)):=by simp
  rw[e,toks_term h.2.1 (.sp _),toks_sp,toks_rel h.1,toks_sp,toks_term h.2.2 hy]
  simp
 |.truth b,h,y,hy=>by
  unfold Tree.plain Tree.words
  exact toks_name (by cases b<;>decide) hy
def R (m:Md) (lv d:Nat) (ts:List By) (x:Tree×List By×Nat):Prop:=∀f,10*ts.length+m.rk<f->pars litP f m lv d ts=some x
theorem R.len {m:Md} {lv d:Nat} {ts r:List By} {t:Tree} {e:Nat} (h:R m lv d ts (t,r,e)) (hm:m.loop=false):r.length<ts.length:=(pars_len _ _ _ _ _ _ _ _ (h (10*ts.length+m.rk+1) (by omega))).2.1 hm
theorem R.or {lv d:Nat} {ts r:List By} {t:Tree} {e:Nat} {x:Tree×List By×Nat} (h1:R .and lv d ts (t,r,e)) (h2:R (.orL t) lv e r x):R .or lv d ts x:=fun f hf=>by
 have:=h1.len rfl
 cases f with
 |zero=>omega
 |succ g=>
  unfold pars
  rw[h1 g (by simp only[Md.rk] at*;omega)]
  exact h2 g (by simp only[Md.rk] at*;omega)
theorem R.and {lv d:Nat} {ts r:List By} {t:Tree} {e:Nat} {x:Tree×List By×Nat} (h1:R .not lv d ts (t,r,e)) (h2:R (.andL t) lv e r x):R .and lv d ts x:=fun f hf=>by
 have:=h1.len rfl
 cases f with
 |zero=>omega
 |succ g=>
  unfold pars
  rw[h1 g (by simp only[Md.rk] at*;omega)]
  exact h2 g (by simp only[Md.rk] at*;omega)
theorem R.orL {n m:Tree} {lv d:Nat} {ts r:List By} {e:Nat} {x:Tree×List By×Nat} (h1:R .and lv d ts (m,r,e)) (h2:R (.orL (.pair false n m)) lv e r x):R (.orL n) lv d (wOr::ts) x:=fun f hf=>by
 have:=h1.len rfl
 simp only[List.length_cons] at hf
 cases f with
 |zero=>omega
 |succ g=>
  unfold pars
  rw[if_pos (show(wOr::ts).headD []=wOr from rfl)]
  show(match pars litP g .and lv d ts with|some (m,r,e)=>_|none=>_)=_
  rw[h1 g (by simp only[Md.rk] at*;omega)]
  exact h2 g (by simp only[Md.rk] at*;omega)
theorem R.andL {n m:Tree} {lv d:Nat} {ts r:List By} {e:Nat} {x:Tree×List By×Nat} (h1:R .not lv d ts (m,r,e)) (h2:R (.andL (.pair true n m)) lv e r x):R (.andL n) lv d (wAnd::ts) x:=fun f hf=>by
 have:=h1.len rfl
 simp only[List.length_cons] at hf
 cases f with
 |zero=>omega
 |succ g=>
  unfold pars
  rw[if_pos (show(wAnd::ts).headD []=wAnd from rfl)]
  show(match pars litP g .not lv d ts with|some (m,r,e)=>_|none=>_)=_
  rw[h1 g (by simp only[Md.rk] at*;omega)]
  exact h2 g (by simp only[Md.rk] at*;omega)
theorem R.orS {n:Tree} {lv d:Nat} {ts:List By} (h:ts.headD []≠wOr):R (.orL n) lv d ts (n,ts,d):=fun f hf=>by
 cases f with
 |zero=>omega
 |succ g=>unfold pars;rw[if_neg h]
theorem R.andS {n:Tree} {lv d:Nat} {ts:List By} (h:ts.headD []≠wAnd):R (.andL n) lv d ts (n,ts,d):=fun f hf=>by
 cases f with
 |zero=>omega
 |succ g=>unfold pars;rw[if_neg h]
theorem R.not1 {n:Tree} {lv d:Nat} {ts r:List By} {e:Nat} (h:R .prim (lv+1) (max d (lv+1)) ts (n,r,e)):R .not lv d (wNot::ts) (.no n,r,e):=fun f hf=>by
 simp only[List.length_cons] at hf
 cases f with
 |zero=>omega
 |succ g=>
  unfold pars
  rw[if_pos (show(wNot::ts).headD []=wNot from rfl)]
  show(match pars litP g .prim (lv+1) (max d (lv+1)) ts with|some (n,r,e)=>_|none=>_)=_
  rw[h g (by simp only[Md.rk] at*;omega)]
theorem R.not0 {lv d:Nat} {ts:List By} {x:Tree×List By×Nat} (hn:ts.headD []≠wNot) (h:R .prim lv d ts x):R .not lv d ts x:=fun f hf=>by
 cases f with
 |zero=>omega
 |succ g=>
  unfold pars
  rw[if_neg hn]
  exact h g (by simp only[Md.rk] at*;omega)
theorem R.paren {n:Tree} {lv d:Nat} {ts r:List By} {e:Nat} (h:R .or (lv+1) (max d (lv+1)) ts (n,[41]::r,e)):R .prim lv d ([40]::ts) (n,r,e):=fun f hf=>by
 simp only[List.length_cons] at hf
 cases f with
 |zero=>omega
 |succ g=>
  unfold pars
  rw[if_neg (show¬([40]::ts).headD []=wTrue by show¬([40]:By)=wTrue;decide),if_neg (show¬([40]::ts).headD []=wFalse by show¬([40]:By)=wFalse;decide),if_pos (show([40]::ts).headD []=[40] from rfl)]
  show(match pars litP g .or (lv+1) (max d (lv+1)) ts with|some (n,r,e)=>_|none=>_)=_
  rw[h g (by simp only[Md.rk] at*;omega)]
  show(if([41]:By)=[41] then some (n,r,e) else none)=_
  rw[if_pos rfl]
theorem R.truth {b:Bool} {lv d:Nat} {r:List By}:R .prim lv d ((if b then wTrue else wFalse)::r) (.truth b,r,d):=fun f hf=>by
 cases f with
 |zero=>omega
 |succ g=>
  unfold pars
  cases b with
  |true=>rw[if_pos (show List.headD ((if true=true then wTrue else wFalse)::r) []=wTrue from rfl)];rfl
  |false=>
   rw[if_neg (show¬List.headD ((if false=true then wTrue else wFalse)::r) []=wTrue by show¬wFalse=wTrue;decide),if_pos (show List.headD ((if false=true then wTrue else wFalse)::r) []=wFalse from rfl)];rfl
theorem words_head {t:Term} (h:t.good) (r:List By):(t.words++r).headD []≠wTrue/\(t.words++r).headD []≠wFalse/\(t.words++r).headD []≠[40]/\(t.words++r).headD []≠wNot:=by
 obtain⟨name,var,v⟩:=t
 rcases h with⟨h1,h2,h3,h4⟩|⟨h1,h2,h3⟩
 ·simp only at h1 h2 h3 h4
  cases var with
  |true=>
   show([58]:By)≠_/\([58]:By)≠_/\([58]:By)≠_/\([58]:By)≠_
   exact⟨by decide,by decide,by decide,by decide⟩
  |false=>
   have e1:Term.words ⟨name,false,v⟩=[name]:=by unfold Term.words;rw[if_neg (by simp),if_pos h1]
   rw[e1]
   show name≠_/\name≠_/\name≠_/\name≠_
   refine⟨?_,?_,?_,?_⟩<;>rintro rfl
   ·exact absurd h3 (by decide)
   ·exact absurd h3 (by decide)
   ·exact absurd h2 (by decide)
   ·exact absurd h3 (by decide)
 ·simp only at h1 h2 h3
  subst h1;subst h2
  show written v≠_/\written v≠_/\written v≠_/\written v≠_
  have hl:=lit_written h3
  exact⟨lit_ne hl (by decide),lit_ne hl (by decide),lit_ne hl (by decide),lit_ne hl (by decide)⟩
theorem R.test {op:By} {a b:Term} {lv d:Nat} {r:List By} (ho:relop op=true) (ha:a.good) (hb:b.good):R .prim lv d (a.words++op::(b.words++r)) (.test op a b,r,d):=fun f hf=>by
 obtain⟨h1,h2,h3,_⟩:=words_head ha (op::(b.words++r))
 cases f with
 |zero=>omega
 |succ g=>
  unfold pars
  rw[if_neg h1,if_neg h2,if_neg h3,termW_words ha]
  show(if relop op=true then(match termW litP (b.words++r) with|some (b,r')=>some (Tree.test op a b,r',d)|none=>none) else none)=_
  rw[if_pos ho,termW_words hb]
theorem deep_k (t:Tree) (k:Nat):t.deep k=(if t.level<k then 1 else 0)+t.deep 0:=by
 cases t with
 |pair a l r=>
  show(if opn a<k then 1 else 0)+max (l.deep (opn a)) (r.deep (opn a))=(if opn a<k then 1 else 0)+((if opn a<0 then 1 else 0)+max (l.deep (opn a)) (r.deep (opn a)))
  rw[if_neg (show¬opn a<0 by omega)];omega
 |no t=>
  show(if 3<k then 1 else 0)+1+t.deep 4=(if 3<k then 1 else 0)+((if 3<0 then 1 else 0)+1+t.deep 4)
  rw[if_neg (show¬3<0 by omega)];omega
 |test _ _ _=>
  show(if 4<k then 1 else 0)=(if 4<k then 1 else 0)+(if 4<0 then 1 else 0)
  rw[if_neg (show¬4<0 by omega)];omega
 |truth _=>
  show(if 4<k then 1 else 0)=(if 4<k then 1 else 0)+(if 4<0 then 1 else 0)
  rw[if_neg (show¬4<0 by omega)];omega
theorem level_pos (t:Tree):1<=t.level:=by
 cases t with
 |pair a l r=>cases a<;>exact bL rfl
 |_=>exact bL rfl
def RD (t:Tree):Prop:=∀lv d rest,lv<=d->R .prim lv d (parw (decide (t.level<4)) t.words++rest) (t,rest,max d (lv+t.deep 4))
def RC (t:Tree):Prop:=∀lv d rest,lv<=d->R .not lv d (parw (decide (t.level<3)) t.words++rest) (t,rest,max d (lv+t.deep 3))
def RB (t:Tree):Prop:=∀lv d rest x,lv<=d->R (.andL t) lv (max d (lv+t.deep 2)) rest x->R .and lv d (parw (decide (t.level<2)) t.words++rest) x
def RA (t:Tree):Prop:=∀lv d rest x,lv<=d->rest.headD []≠wAnd->R (.orL t) lv (max d (lv+t.deep 1)) rest x->R .or lv d (t.words++rest) x
theorem RB.of {t:Tree} (h:RC t) (hl:t.level≠2):RB t:=fun lv d rest x hd hx=>by
 have h':=h lv d rest hd
 have e1:decide (t.level<3)=decide (t.level<2):=by
  rw[decide_eq_decide];omega
 have e2:t.deep 3=t.deep 2:=by
  rw[deep_k t 3,deep_k t 2]
  by_cases h2:t.level<2
  ·rw[if_pos h2,if_pos (by omega)]
  ·rw[if_neg h2,if_neg (by omega)]
 rw[e1,e2] at h'
 exact R.and h' hx
theorem RA.of {t:Tree} (h:RB t) (hl:t.level≠1):RA t:=fun lv d rest x hd hr hx=>by
 have hp:=level_pos t
 have h':=h lv d rest (t,rest,max d (lv+t.deep 2)) hd (R.andS hr)
 have e1:decide (t.level<2)=false:=by rw[decide_eq_false_iff_not];omega
 have e2:t.deep 2=t.deep 1:=by
  rw[deep_k t 2,deep_k t 1,if_neg (by omega),if_neg (by omega)]
 rw[e1,e2] at h'
 exact R.or h' hx
theorem RA.paren {t:Tree} (h:RA t) (lv d:Nat) (rest:List By) (hd:lv<=d):R .prim lv d ([40]::(t.words++[[41]])++rest) (t,rest,max d (lv+(1+t.deep 0))):=by
 have h1:=h (lv+1) (max d (lv+1)) ([41]::rest) (t,[41]::rest,max (max d (lv+1)) (lv+1+t.deep 1)) (by omega) (by show¬([41]:By)=wAnd;decide) (R.orS (by show¬([41]:By)=wOr;decide))
 have hp:=level_pos t
 have e:t.deep 1=t.deep 0:=by rw[deep_k t 1,if_neg (by omega)];omega
 rw[e,show max (max d (lv+1)) (lv+1+t.deep 0)=max d (lv+(1+t.deep 0)) by omega] at h1
 have h2:=R.paren h1
 simpa using h2
theorem RD.of {t:Tree} (h:RA t) (hl:t.level<4):RD t:=fun lv d rest hd=>by
 have:=h.paren lv d rest hd
 rw[deep_k t 4,if_pos hl,show decide (t.level<4)=true from decide_eq_true hl]
 exact this
theorem RC.of {t:Tree} (h:RA t) (hl:t.level<3):RC t:=fun lv d rest hd=>by
 have:=h.paren lv d rest hd
 rw[deep_k t 3,if_pos hl,show decide (t.level<3)=true from decide_eq_true hl]
 exact R.not0 (by show¬([40]:By)=wNot;decide) this
theorem RB.paren {t:Tree} (h:RA t) (hl:t.level<2):RB t:=RB.of (RC.of h (by omega)) (by omega)
theorem rd_all:∀(t:Tree),t.good->flatOk t->RD t/\RC t/\RB t/\RA t
 |.truth b,_,_=>by
  have hD:∀lv d rest,lv<=d->R .prim lv d ([if b then wTrue else wFalse]++rest) (.truth b,rest,max d (lv+0)):=fun lv d rest hd=>by
   rw[show max d (lv+0)=d by omega]
   exact R.truth
  have hC:RC (.truth b):=fun lv d rest hd=>R.not0 (by
   show(if b then wTrue else wFalse)≠wNot
   cases b<;>decide) (hD lv d rest hd)
  have hB:=RB.of hC (show¬4=2 by decide)
  exact⟨hD,hC,hB,RA.of hB (show¬4=1 by decide)⟩
 |.test op a b,hg,_=>by
  have hD:∀lv d rest,lv<=d->R .prim lv d ((a.words++op::b.words)++rest) (.test op a b,rest,max d (lv+0)):=fun lv d rest hd=>by
   rw[show max d (lv+0)=d by omega,List.append_assoc]
   exact R.test hg.1 hg.2.1 hg.2.2
  have hC:RC (.test op a b):=fun lv d rest hd=>R.not0 (by
   show((a.words++op::b.words)++rest).headD []≠_
   rw[List.append_assoc]
   exact(words_head hg.2.1 _).2.2.2) (hD lv d rest hd)
  have hB:=RB.of hC (show¬4=2 by decide)
  exact⟨hD,hC,hB,RA.of hB (show¬4=1 by decide)⟩
 |.no t,hg,hf=>by
  obtain⟨iD,_⟩:=rd_all t hg hf
  have hC:RC (.no t):=fun lv d rest hd=>by
   have h1:=iD (lv+1) (max d (lv+1)) rest (by omega)
   show R .not lv d (wNot::(parw (decide (t.level<4)) t.words++rest)) (.no t,rest,max d (lv+((if 3<3 then 1 else 0)+1+t.deep 4)))
   rw[if_neg (by decide),show max d (lv+(0+1+t.deep 4))=max (max d (lv+1)) (lv+1+t.deep 4) by omega]
   exact R.not1 h1
  have hB:=RB.of hC (show¬3=2 by decide)
  have hA:=RA.of hB (show¬3=1 by decide)
  exact⟨RD.of hA (show 3<4 by decide),hC,hB,hA⟩
 |.pair true l r,hg,hf=>by
  obtain⟨_,_,lB,_⟩:=rd_all l hg.1 hf.1
  obtain⟨_,rC,_,_⟩:=rd_all r hg.2 hf.2.1
  have hr2:r.level≠2:=by
   have:=hf.2.2
   cases r with
   |pair c _ _=>cases c with
    |true=>cases this
    |false=>exact fun h=>absurd h (show¬1=2 by decide)
   |_=>exact fun h=>by cases h
  have hB:RB (.pair true l r):=fun lv d rest x hd hx=>by
   have e1:decide (r.level<3)=decide (r.level<2):=by
    rw[decide_eq_decide];omega
   have e2:r.deep 3=r.deep 2:=by
    rw[deep_k r 3,deep_k r 2]
    by_cases h2:r.level<2
    ·rw[if_pos h2,if_pos (by omega)]
    ·rw[if_neg h2,if_neg (by omega)]
   have hr:=rC lv (max d (lv+l.deep 2)) rest (by omega)
   rw[e1,e2] at hr
   have hl:=lB lv d (wAnd::(parw (decide (r.level<2)) r.words++rest)) x hd (R.andL hr (by
    have e3:(Tree.pair true l r).deep 2=max (l.deep 2) (r.deep 2):=by
     show(if opn true<2 then 1 else 0)+max (l.deep 2) (r.deep 2)=_
     rw[if_neg (show¬opn true<2 by decide)];omega
    rw[e3] at hx
    rw[show max (max d (lv+l.deep 2)) (lv+r.deep 2)=max d (lv+max (l.deep 2) (r.deep 2)) by omega]
    exact hx))
   show R .and lv d ((parw (decide (l.level<2)) l.words++wAnd::parw (decide (r.level<2)) r.words)++rest) x
   rw[List.append_assoc]
   exact hl
  have hA:=RA.of hB (show¬2=1 by decide)
  exact⟨RD.of hA (show 2<4 by decide),RC.of hA (show 2<3 by decide),hB,hA⟩
 |.pair false l r,hg,hf=>by
  obtain⟨_,_,_,lA⟩:=rd_all l hg.1 hf.1
  obtain⟨_,_,rB,_⟩:=rd_all r hg.2 hf.2.1
  have hr2:¬r.level<2:=by
   have:=hf.2.2
   cases r with
   |pair c _ _=>cases c with
    |false=>cases this
    |true=>exact fun h=>absurd h (show¬2<2 by decide)
   |no _=>exact(show¬3<2 by decide)
   |_=>exact(show¬4<2 by decide)
  have hA:RA (.pair false l r):=fun lv d rest x hd hh hx=>by
   have hl1:=level_pos l
   have hr1:=level_pos r
   have e0:decide (r.level<2)=false:=decide_eq_false hr2
   have e2:r.deep 2=r.deep 1:=by
    rw[deep_k r 2,deep_k r 1,if_neg hr2,if_neg (by omega)]
   have hr:=rB lv (max d (lv+l.deep 1)) rest (r,rest,max (max d (lv+l.deep 1)) (lv+r.deep 2)) (by omega) (R.andS hh)
   rw[e0,e2] at hr
   have hl:=lA lv d (wOr::(r.words++rest)) x hd (by show¬wOr=wAnd;decide) (R.orL hr (by
    have e3:(Tree.pair false l r).deep 1=max (l.deep 1) (r.deep 1):=by
     show(if opn false<1 then 1 else 0)+max (l.deep 1) (r.deep 1)=_
     rw[if_neg (show¬opn false<1 by decide)];omega
    rw[e3] at hx
    rw[show max (max d (lv+l.deep 1)) (lv+r.deep 1)=max d (lv+max (l.deep 1) (r.deep 1)) by omega]
    exact hx))
   show R .or lv d ((parw (decide (l.level<1)) l.words++wOr::parw (decide (r.level<1)) r.words)++rest) x
   rw[List.append_assoc,show decide (l.level<1)=false from decide_eq_false (by omega),show decide (r.level<1)=false from decide_eq_false (by omega)]
   exact hl
  exact⟨RD.of hA (show 1<4 by decide),RC.of hA (show 1<3 by decide),RB.paren hA (show 1<2 by decide),hA⟩
theorem read_plain {u:Tree} (hg:u.good) (hf:flatOk u) (hl:u.plain.length<=1000):readS u.plain=if 20<u.deep 0 then .err 4 else .ok u:=by
 have ht:toks u.plain=u.words:=by
  have:=toks_plain u hg [] (.inl rfl)
  rw[List.append_nil,toks_nil (l:=[]) rfl,List.append_nil] at this
  exact this
 have hA:=(rd_all u hg hf).2.2.2 0 0 [] (u,[],max 0 (0+u.deep 1)) (rL _) (by decide) (R.orS (by decide))
 rw[List.append_nil] at hA
 have hlen:=toks_len u.plain.length u.plain (rL _)
 rw[ht] at hlen
 have hp:=hA (fuel u.plain) (by unfold fuel;simp only[Md.rk];omega)
 have hv:=level_pos u
 unfold readS
 rw[if_neg (by omega),ht,hp]
 simp only[List.headD_nil,beq_self_eq_true,if_true]
 have e1:max 0 (0+u.deep 1)=u.deep 0:=by rw[deep_k u 1,if_neg (by omega)];omega
 rw[e1,flat_id hf]
theorem readS_good {s:By} {t:Tree} (h:readS s=.ok t):t.good/\flatOk t:=by
 unfold readS at h
 split at h
 ·cases h
 ·split at h
  ·rename_i t0 r e hp
   split at h
   ·split at h
    ·cases h
    ·cases h
     exact⟨flat_good (pars_good _ _ _ _ _ _ _ _ hp trivial),flat_ok t0⟩
   ·cases h
  ·cases h
theorem readR_good {s:By} {t:Tree} (h:readR s=.ok t):t.good:=by
 unfold readR at h
 rw[show litR=litP from funext litR_eq] at h
 split at h
 ·cases h
 ·split at h
  ·cases h
  ·split at h
   ·rename_i t0 r e hp
    split at h
    ·split at h
     ·cases h
     ·cases h
      exact pars_good _ _ _ _ _ _ _ _ hp trivial
    ·cases h
   ·cases h
def toldR (t:Tree):By×Int:=if 1000<t.flat.plain.length then([],4) else match readR t.flat.plain with
 |.ok _=>(t.flat.plain,0)
 |.err _=>([],4)
theorem toldR_eq {t:Tree} (h:t.good):toldR t=resS t:=by
 unfold toldR resS
 by_cases h1:1000<t.flat.plain.length
 ·rw[if_pos h1,if_pos (.inl h1)]
 ·rw[if_neg h1]
  have hr:=readR_eq t.flat.plain
  rw[read_plain (flat_good h) (flat_ok t) (by omega)] at hr
  by_cases h2:20<t.flat.deep 0
  ·rw[if_pos (.inr h2)]
   rw[if_pos h2] at hr
   cases hx:readR t.flat.plain with
   |ok u=>rw[hx] at hr;cases hr
   |err e=>rfl
  ·rw[if_neg (fun h=>h.elim h1 h2)]
   rw[if_neg h2] at hr
   cases hx:readR t.flat.plain with
   |ok u=>rfl
   |err e=>rw[hx] at hr;cases hr
def showR (s:By):By×Int:=match readR s with
 |.ok t=>toldR t
 |.err e=>([],e)
theorem showR_eq (s:By):showR s=showS s:=by
 unfold showR showS
 have hr:=readR_eq s
 cases hx:readR s with
 |err e=>rw[hx] at hr;rw[hr]
 |ok t=>
  rw[hx] at hr;rw[hr]
  simp only
  rw[toldR_eq (readR_good hx)]
  unfold resS
  rw[flat_flat]
end Go.Proofs.YtcfgfkkhpdlhpaaGreatDoor
