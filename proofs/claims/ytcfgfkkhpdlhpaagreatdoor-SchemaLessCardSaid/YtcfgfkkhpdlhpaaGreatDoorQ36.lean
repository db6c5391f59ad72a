/-
  A part of the proof of SchemaLess.
-/
import Derived.Test.YtcfgfkkhpdlhpaaGreatDoorQ35
import Derived.Test.YtcfgfkkhpdlhpaaGreatDoorQ31
set_option linter.all false
namespace Go.Proofs.YtcfgfkkhpdlhpaaGreatDoor
set_option linter.unusedVariables false
theorem plain_le:∀t:Tree,t.nice->t.plain.length<=400*t.size
 |.pair a l r,h=>by
  have h1:=plain_le l h.1
  have h2:=plain_le r h.2
  have p1:=paren_len (decide (l.level<opn a)) l.plain
  have p2:=paren_len (decide (r.level<opn a)) r.plain
  have s:(sep a).length<=5:=by cases a<;>decide
  simp only[Tree.plain,Tree.size,List.length_append]
  omega
 |.no t,h=>by
  have h1:=plain_le t h
  have p1:=paren_len (decide (t.level<4)) t.plain
  have s:wNot.length=3:=rfl
  simp only[Tree.plain,Tree.size,List.length_append,List.length_cons,List.length_nil]
  omega
 |.test op l r,h=>by
  have h1:=h.1;have h2:=h.2.1.2;have h3:=h.2.2.2
  simp only[Tree.plain,Tree.size,List.length_append,List.length_cons,List.length_nil]
  omega
 |.truth b,h=>by cases b<;>decide
def accSize:Option Tree->Nat
 |none=>0
 |some t=>t.size+1
def accNice:Option Tree->Prop
 |none=>True
 |some t=>t.nice
theorem joinA_size (a:Bool) (acc:Option Tree) (t:Tree):(joinA a acc t).size=accSize acc+t.size:=by
 cases acc<;>simp[joinA,accSize,Tree.size];omega
theorem joinA_nice (a:Bool) {acc:Option Tree} {t:Tree} (h:accNice acc) (h':t.nice):(joinA a acc t).nice:=by
 cases acc with
 |none=>exact h'
 |some x=>exact⟨h,h'⟩
theorem flatA_size (a:Bool):∀(t:Tree) (acc:Option Tree),(flatA a acc t).size=accSize acc+t.size
 |.pair b l r,acc=>by
  unfold flatA
  split
  ·rw[flatA_size a r,accSize,flatA_size a l]
   simp only[Tree.size];omega
  ·rw[joinA_size,flatA_size b r,accSize,flatA_size b l]
   simp only[Tree.size,accSize];omega
 |.no t,acc=>by
  unfold flatA
  rw[joinA_size]
  simp only[Tree.size]
  rw[flatA_size true t,accSize];omega
 |.test _ _ _,acc=>by unfold flatA;rw[joinA_size]
 |.truth _,acc=>by unfold flatA;rw[joinA_size]
theorem flat_size (t:Tree):t.flat.size=t.size:=by
 unfold Tree.flat;rw[flatA_size,accSize];omega
theorem flatA_nice (a:Bool):∀(t:Tree) (acc:Option Tree),accNice acc->t.nice->(flatA a acc t).nice
 |.pair b l r,acc,h,ht=>by
  unfold flatA
  split
  ·exact flatA_nice a r _ (flatA_nice a l _ h ht.1) ht.2
  ·exact joinA_nice a h (flatA_nice b r _ (flatA_nice b l _ trivial ht.1) ht.2)
 |.no t,acc,h,ht=>by unfold flatA;exact joinA_nice a h (flatA_nice true t _ trivial ht)
 |.test _ _ _,acc,h,ht=>by unfold flatA;exact joinA_nice a h ht
 |.truth _,acc,h,ht=>by unfold flatA;exact joinA_nice a h ht
theorem flat_nice {t:Tree} (h:t.nice):t.flat.nice:=flatA_nice true t none trivial h
def Md.sz:Md->Nat
 |.orL n=>n.size
 |.andL n=>n.size
 |_=>0
theorem pars_size {lit:By->Option Val}:∀(f:Nat) (m:Md) (lv d:Nat) (ts r:List By) (t:Tree) (e:Nat),pars lit f m lv d ts=some (t,r,e)->t.size+r.length<=m.sz+ts.length
 |0,m,lv,d,ts,r,t,e,h=>by cases h
 |f+1,.or,lv,d,ts,r,t,e,h=>by
  unfold pars at h
  split at h
  ·rename_i n r1 e1 h1
   have a:=pars_size f _ _ _ _ _ _ _ h1
   have b:=pars_size f _ _ _ _ _ _ _ h
   simp only[Md.sz] at*;omega
  ·cases h
 |f+1,.orL n,lv,d,ts,r,t,e,h=>by
  unfold pars at h
  split at h
  ·rename_i hd
   obtain⟨r0,rfl⟩:=head_ne hd (by decide)
   split at h
   ·rename_i n r1 e1 h1
    have a:=pars_size f _ _ _ _ _ _ _ h1
    have b:=pars_size f _ _ _ _ _ _ _ h
    simp only[Md.sz,Tree.size,List.tail_cons,List.length_cons] at*;omega
   ·cases h
  ·cases h;exact rL _
 |f+1,.and,lv,d,ts,r,t,e,h=>by
  unfold pars at h
  split at h
  ·rename_i n r1 e1 h1
   have a:=pars_size f _ _ _ _ _ _ _ h1
   have b:=pars_size f _ _ _ _ _ _ _ h
   simp only[Md.sz] at*;omega
  ·cases h
 |f+1,.andL n,lv,d,ts,r,t,e,h=>by
  unfold pars at h
  split at h
  ·rename_i hd
   obtain⟨r0,rfl⟩:=head_ne hd (by decide)
   split at h
   ·rename_i n r1 e1 h1
    have a:=pars_size f _ _ _ _ _ _ _ h1
    have b:=pars_size f _ _ _ _ _ _ _ h
    simp only[Md.sz,Tree.size,List.tail_cons,List.length_cons] at*;omega
   ·cases h
  ·cases h;exact rL _
 |f+1,.not,lv,d,ts,r,t,e,h=>by
  unfold pars at h
  split at h
  ·rename_i hd
   obtain⟨r0,rfl⟩:=head_ne hd (by decide)
   split at h
   ·rename_i n r1 e1 h1
    cases h
    have a:=pars_size f _ _ _ _ _ _ _ h1
    simp only[Md.sz,Tree.size,List.tail_cons,List.length_cons] at*;omega
   ·cases h
  ·have a:=pars_size f _ _ _ _ _ _ _ h
   simp only[Md.sz] at*;omega
 |f+1,.prim,lv,d,ts,r,t,e,h=>by
  unfold pars at h
  split at h
  ·rename_i hd
   obtain⟨r0,rfl⟩:=head_ne hd (by decide)
   cases h;simp only[Md.sz,Tree.size,List.tail_cons,List.length_cons];omega
  ·split at h
   ·rename_i hd
    obtain⟨r0,rfl⟩:=head_ne hd (by decide)
    cases h;simp only[Md.sz,Tree.size,List.tail_cons,List.length_cons];omega
   ·split at h
    ·rename_i hd
     obtain⟨r0,rfl⟩:=head_ne hd (by decide)
     split at h
     ·rename_i n r1 e1 h1
      have a:=pars_size f _ _ _ _ _ _ _ h1
      split at h
      ·rename_i hr
       obtain⟨r2,rfl⟩:=head_ne hr (by decide)
       cases h
       simp only[Md.sz,List.tail_cons,List.length_cons] at*;omega
      ·cases h
     ·cases h
    ·split at h
     ·rename_i a r1 h1
      have l1:=termW_len h1
      split at h
      ·split at h
       ·rename_i b r2 h2
        have l2:=termW_len h2
        cases h
        simp only[Md.sz,Tree.size,List.length_tail] at*;omega
       ·cases h
      ·cases h
     ·cases h
theorem litP_ok' {w:By} {v:Val} (h:litP w=some v):v.ok=true:=by
 have q:∀{v},qlit w=some v->v.ok=true:=fun{v} h=>by
  unfold qlit at h
  split at h
  ·rename_i v' hp
   split at h
   ·cases h
    unfold parseRow at hp
    split at hp
    ·cases hp
    ·split at hp
     ·split at hp
      ·rename_i vs _ hc
       cases hp
       simp only[Bool.and_eq_true] at hc
       have:=hc.1
       rw[rowOk_one] at this
       exact this
      ·cases hp
     ·cases hp
   ·cases h
  ·cases h
 unfold litP at h
 split at h
 ·split at h
  ·rename_i hc
   cases h;exact hc.2
  ·exact q h
 ·exact q h
theorem written_len {v:Val} (h:v.ok=true):(written v).length<=170:=by
 have:=ok_in h
 unfold written
 split
 ·have:=Lib.itoa_length_le v.n (by omega) (by omega);omega
 ·have:=esc_len v.s
  simp only[quoted,List.length_cons,List.length_append,List.length_nil];omega
theorem termW_nice:∀{ts r:List By} {t:Term},termW litP ts=some (t,r)->t.name.length<=16/\t.txt.length<=180
 |[],r,t,h=>by cases h
 |w::ts,r,t,h=>by
  unfold termW at h
  split at h
  ·split at h
   ·rename_i t' r' h1
    have ih:=termW_nice h1
    split at h
    ·cases h
    ·cases h
     refine⟨ih.1,?_⟩
     show(58::t'.name).length<=180
     simp;omega
   ·cases h
  ·split at h
   ·rename_i hn
    cases h
    simp only[Bool.and_eq_true] at hn
    have hl:w.length<=16:=by
     have:=hn.1
     unfold isName at this
     split at this
     ·simp
     ·simp only[Bool.and_eq_true,decide_eq_true_eq] at this;exact this.1.1
    refine⟨hl,?_⟩
    show(if w≠[] then w else litT v0).length<=180
    split
    ·omega
    ·decide
   ·split at h
    ·rename_i v hv
     cases h
     refine⟨zL _,?_⟩
     show(litT v).length<=180
     unfold litT
     rw[litP_ok' hv,if_pos rfl]
     have:=written_len (litP_ok' hv);omega
    ·cases h
def Md.nice:Md->Prop
 |.orL n=>n.nice
 |.andL n=>n.nice
 |_=>True
theorem relop_len {w:By} (h:relop w=true):w.length<=2:=by
 simp only[relop,rels,List.contains_eq_mem,decide_eq_true_eq,List.mem_cons,List.not_mem_nil,or_false] at h
 rcases h with rfl|rfl|rfl|rfl|rfl|rfl<;>decide
theorem pars_nice:∀(f:Nat) (m:Md) (lv d:Nat) (ts r:List By) (t:Tree) (e:Nat),pars litP f m lv d ts=some (t,r,e)->m.nice->t.nice
 |0,m,lv,d,ts,r,t,e,h,_=>by cases h
 |f+1,.or,lv,d,ts,r,t,e,h,_=>by
  unfold pars at h
  split at h
  ·rename_i n r1 e1 h1
   exact pars_nice f _ _ _ _ _ _ _ h (pars_nice f _ _ _ _ _ _ _ h1 trivial)
  ·cases h
 |f+1,.orL n,lv,d,ts,r,t,e,h,hn=>by
  unfold pars at h
  split at h
  ·split at h
   ·rename_i n r1 e1 h1
    exact pars_nice f _ _ _ _ _ _ _ h ⟨hn,pars_nice f _ _ _ _ _ _ _ h1 trivial⟩
   ·cases h
  ·cases h;exact hn
 |f+1,.and,lv,d,ts,r,t,e,h,_=>by
  unfold pars at h
  split at h
  ·rename_i n r1 e1 h1
   exact pars_nice f _ _ _ _ _ _ _ h (pars_nice f _ _ _ _ _ _ _ h1 trivial)
  ·cases h
 |f+1,.andL n,lv,d,ts,r,t,e,h,hn=>by
  unfold pars at h
  split at h
  ·split at h
   ·rename_i n r1 e1 h1
    exact pars_nice f _ _ _ _ _ _ _ h ⟨hn,pars_nice f _ _ _ _ _ _ _ h1 trivial⟩
   ·cases h
  ·cases h;exact hn
 |f+1,.not,lv,d,ts,r,t,e,h,_=>by
  unfold pars at h
  split at h
  ·split at h
   ·rename_i n r1 e1 h1
    cases h
    show n.nice
    exact pars_nice f .prim _ _ _ _ _ _ h1 trivial
   ·cases h
  ·exact pars_nice f .prim _ _ _ _ _ _ h trivial
 |f+1,.prim,lv,d,ts,r,t,e,h,_=>by
  unfold pars at h
  split at h
  ·cases h;trivial
  ·split at h
   ·cases h;trivial
   ·split at h
    ·split at h
     ·rename_i n r1 e1 h1
      split at h
      ·cases h
       exact pars_nice f .or _ _ _ _ _ _ h1 trivial
      ·cases h
     ·cases h
    ·split at h
     ·rename_i a r1 h1
      split at h
      ·rename_i hrel
       split at h
       ·rename_i b r2 h2
        cases h
        exact⟨relop_len hrel,termW_nice h1,termW_nice h2⟩
       ·cases h
      ·cases h
     ·cases h
open Go.RowKit
set_option maxRecDepth 100000
theorem nib_hexd':∀a:Fin 256,∀x:Fin 16,nibN (UInt8.ofNat a)=some x.val->hexd x=UInt8.ofNat a:=by decide+kernel
theorem nib_hexd {a:UInt8} {x:Nat} (h:nibN a=some x):hexd x=a:=by
 have hx:=nibN_lt h
 have ha:UInt8.ofNat a.toNat=a:=UInt8.ofNat_toNat
 have:=nib_hexd' ⟨a.toNat,UInt8.toNat_lt a⟩ ⟨x,hx⟩ (by show nibN (UInt8.ofNat a.toNat)=some x;rw[ha];exact h)
 exact this.trans ha
theorem hexd_nib':∀k:Fin 16,nibN (hexd k)=some k.val/\hexv (hexd k)=some k.val/\hexd k≠34/\hexd k≠92:=by decide+kernel
theorem hexd_nib {k:Nat} (h:k<16):nibN (hexd k)=some k/\hexv (hexd k)=some k/\hexd k≠34/\hexd k≠92:=hexd_nib' ⟨k,h⟩
theorem esc_q {c:UInt8} (h:c=34∨c=92):esc c=[92,c]:=by unfold esc;rw[if_pos h]
theorem esc_h {c:UInt8} (h:c.toNat<32∨126<c.toNat):esc c=[92,120,hexd (c.toNat / 16),hexd (c.toNat%16)]:=by
 unfold esc
 rw[if_neg (fun e=>by rcases e with rfl|rfl<;>revert h<;>decide),if_pos h]
theorem esc_c {c:UInt8} (h:c≠34) (h':c≠92) (hb:¬(c.toNat<32∨126<c.toNat)):esc c=[c]:=by
 unfold esc
 rw[if_neg (fun e=>e.elim h h'),if_neg hb]
theorem toNat_of {m:Nat} (h:m<256):(UInt8.ofNat m).toNat=m:=by
 rw[UInt8.toNat_ofNat'];exact Nat.mod_eq_of_lt h
theorem esc_hex {a b:UInt8} {x y:Nat} (ha:nibN a=some x) (hb:nibN b=some y) (h:¬(32<=16*x+y/\16*x+y<=126)):esc (UInt8.ofNat (16*x+y))=[92,120,a,b]:=by
 have hx:=nibN_lt ha
 have hy:=nibN_lt hb
 have hm:(UInt8.ofNat (16*x+y)).toNat=16*x+y:=toNat_of (by omega)
 rw[esc_h (by rw[hm];omega),hm,show(16*x+y) / 16=x by omega,show(16*x+y)%16=y by omega,nib_hexd ha,nib_hexd hb]
theorem rq_form:∀(n:Nat) {l t r:List UInt8},l.length<=n->rq l=some (t,r)->l=t.flatMap esc++34::r
 |0,l,t,r,h,e=>by
  cases l with
  |nil=>cases e
  |cons _ _=>simp at h
 |n+1,[],t,r,h,e=>by cases e
 |n+1,c::l,t,r,h,e=>by
  have hl:l.length<=n:=by simp at h;omega
  by_cases h34:c=34
  ·rw[h34,rq_34] at e;cases e;rw[h34];rfl
  ·by_cases hb:c.toNat<32∨126<c.toNat
   ·rw[rq_bad h34 hb] at e;cases e
   ·by_cases h92:c=92
    ·subst h92
     by_cases hx:∃a b l2,l=120::a::b::l2
     ·obtain⟨a,b,l2,rfl⟩:=hx
      rw[rq_x] at e
      split at e
      ·rename_i x hnx
       split at e
       ·rename_i y hny
        split at e
        ·cases e
        ·rename_i hr
         cases hq:rq l2 with
         |none=>rw[hq] at e;cases e
         |some p=>
          rw[hq] at e;cases e
          have:=rq_form n (l:=l2) (t:=p.1) (r:=p.2) (by simp at hl;omega) hq
          rw[List.flatMap_cons,esc_hex hnx hny hr,List.append_assoc,<-this];rfl
       ·cases e
      ·cases e
     ·by_cases he:∃c' l1,l=c'::l1/\(c'=34∨c'=92)
      ·obtain⟨c',l1,rfl,hc'⟩:=he
       rw[rq_esc hc'] at e
       cases hq:rq l1 with
       |none=>rw[hq] at e;cases e
       |some p=>
        rw[hq] at e;cases e
        have:=rq_form n (l:=l1) (t:=p.1) (r:=p.2) (by simp at hl;omega) hq
        rw[List.flatMap_cons,esc_q hc',List.append_assoc,<-this];rfl
      ·rw[rq_none (fun e0 r1 h1=>⟨fun h=>he ⟨e0,r1,h1,h⟩,fun h a b r2 h2=>hx ⟨a,b,r2,by rw[h1,h,h2]⟩⟩)] at e;cases e
    ·rw[rq_c h34 hb h92] at e
     cases hq:rq l with
     |none=>rw[hq] at e;cases e
     |some p=>
      rw[hq] at e;cases e
      have:=rq_form n (l:=l) (t:=p.1) (r:=p.2) hl hq
      rw[List.flatMap_cons,esc_c h34 h92 hb,List.append_assoc,<-this];rfl
theorem rq_of (t r:List UInt8):rq (t.flatMap esc++34::r)=some (t,r):=by
 induction t with
 |nil=>exact rq_34 r
 |cons c t ih=>
  rw[List.flatMap_cons,List.append_assoc]
  by_cases h:c=34∨c=92
  ·rw[esc_q h]
   show rq (92::c::(t.flatMap esc++34::r))=_
   rw[rq_esc h,ih];rfl
  ·by_cases hb:c.toNat<32∨126<c.toNat
   ·rw[esc_h hb]
    show rq (92::120::hexd (c.toNat / 16)::hexd (c.toNat%16)::(t.flatMap esc++34::r))=_
    have hlt:=UInt8.toNat_lt c
    rw[rq_x,(hexd_nib (k:=c.toNat / 16) (by omega)).1,(hexd_nib (k:=c.toNat%16) (by omega)).1]
    show(if 32<=16*(c.toNat / 16)+c.toNat%16/\16*(c.toNat / 16)+c.toNat%16<=126 then none else(rq (t.flatMap esc++34::r)).map fun p=>(UInt8.ofNat (16*(c.toNat / 16)+c.toNat%16)::p.1,p.2))=_
    rw[if_neg (by omega),ih,show 16*(c.toNat / 16)+c.toNat%16=c.toNat by omega,UInt8.ofNat_toNat];rfl
   ·rw[esc_c (fun e=>h (.inl e)) (fun e=>h (.inr e)) hb]
    show rq (c::(t.flatMap esc++34::r))=_
    rw[rq_c (fun e=>h (.inl e)) hb (fun e=>h (.inr e)),ih];rfl
theorem rt_of (t r:List UInt8):rt (t.flatMap esc++34::r)=some (t,r):=by
 induction t with
 |nil=>exact rt_34 r
 |cons c t ih=>
  rw[List.flatMap_cons,List.append_assoc]
  by_cases h:c=34∨c=92
  ·rw[esc_q h]
   show rt (92::c::(t.flatMap esc++34::r))=_
   rw[rt_92 (by rcases h with rfl|rfl<;>decide),ih];rfl
  ·by_cases hb:c.toNat<32∨126<c.toNat
   ·rw[esc_h hb]
    show rt (92::120::hexd (c.toNat / 16)::hexd (c.toNat%16)::(t.flatMap esc++34::r))=_
    have hlt:=UInt8.toNat_lt c
    have h2:hex2 (hexd (c.toNat / 16)) (hexd (c.toNat%16))=some c.toNat:=by
     unfold hex2
     rw[(hexd_nib (k:=c.toNat / 16) (by omega)).2.1,(hexd_nib (k:=c.toNat%16) (by omega)).2.1]
     show some (16*(c.toNat / 16)+c.toNat%16)=_
     congr 1;omega
    rw[rt_x,h2]
    show((rt (t.flatMap esc++34::r)).map fun p=>(UInt8.ofNat c.toNat::p.1,p.2))=_
    rw[ih,UInt8.ofNat_toNat];rfl
   ·rw[esc_c (fun e=>h (.inl e)) (fun e=>h (.inr e)) hb]
    show rt (c::(t.flatMap esc++34::r))=_
    rw[rt_c (fun e=>h (.inl e)) (fun e=>h (.inr e)),ih];rfl
theorem qlen_of (t r:List UInt8):qlen (t.flatMap esc++34::r)=(t.flatMap esc).length:=by
 induction t with
 |nil=>exact qlen_34 r
 |cons c t ih=>
  rw[List.flatMap_cons,List.append_assoc,List.length_append]
  by_cases h:c=34∨c=92
  ·rw[esc_q h]
   show qlen (92::c::(t.flatMap esc++34::r))=_
   rw[qlen_92,ih];rfl
  ·by_cases hb:c.toNat<32∨126<c.toNat
   ·rw[esc_h hb]
    show qlen (92::120::hexd (c.toNat / 16)::hexd (c.toNat%16)::(t.flatMap esc++34::r))=_
    have hlt:=UInt8.toNat_lt c
    have h1:=hexd_nib (k:=c.toNat / 16) (by omega)
    have h2:=hexd_nib (k:=c.toNat%16) (by omega)
    rw[qlen_92,qlen_c h1.2.2.1 h1.2.2.2,qlen_c h2.2.2.1 h2.2.2.2,ih]
    simp only[List.length_cons,List.length_nil];omega
   ·rw[esc_c (fun e=>h (.inl e)) (fun e=>h (.inr e)) hb]
    show qlen (c::(t.flatMap esc++34::r))=_
    rw[qlen_c (fun e=>h (.inl e)) (fun e=>h (.inr e)),ih];rfl
theorem dval_cons_pos:∀(v:List UInt8) (a:Nat),a<=v.foldl (fun a c=>10*a+(c.toNat - 48)) a
 |[],a=>rL _
 |c::v,a=>Nat.le_trans (by omega) (dval_cons_pos v (10*a+(c.toNat - 48)))
theorem isDigit_iff (c:UInt8):isDigit c=true↔48<=c.toNat/\c.toNat<=57:=by simp[isDigit]
theorem dec_of:∀(k:Nat) (w:List UInt8),w.length=k+1->(∀c∈w,isDigit c=true)->(1<w.length->w.head?≠some 48)->Lib.decDigits (dval w)=w
 |0,w,hl,hd,_=>by
  obtain⟨c,rfl⟩:=List.length_eq_one_iff.1 hl
  have:=(isDigit_iff c).1 (hd c (by simp))
  rw[Lib.decDigits,dif_pos (by simp[dval];omega)]
  congr 1
  apply UInt8.toNat_inj.1
  rw[toNat_of (by simp[dval];omega)]
  simp[dval];omega
 |k+1,w,hl,hd,h0=>by
  obtain⟨v,c,rfl⟩:∃v c,w=v++[c]:=⟨w.dropLast,w.getLast (by intro e;simp[e] at hl),(List.dropLast_concat_getLast _).symm⟩
  simp at hl
  have hc:=(isDigit_iff c).1 (hd c (by simp))
  have hpos:1<=dval v:=by
   cases v with
   |nil=>simp at hl
   |cons a v=>
    have ha:=(isDigit_iff a).1 (hd a (by simp))
    have h1:=h0 (by simp)
    have hne:a.toNat≠48:=fun e=>h1 (by simp;exact UInt8.toNat_inj.1 e)
    have:=dval_cons_pos v (10*0+(a.toNat - 48))
    show 1<=List.foldl _ _ _
    rw[List.foldl_cons];omega
  have ih:=dec_of k v hl (fun x hx=>hd x (by simp[hx])) (fun h1=>by
   have:=h0 (by simp;omega)
   cases v with
   |nil=>simp at h1
   |cons a v=>exact this)
  rw[dval_snoc,Lib.decDigits,dif_neg (by omega),show(10*dval v+(c.toNat - 48)) / 10=dval v by omega,ih]
  congr 2
  apply UInt8.toNat_inj.1
  rw[toNat_of (by omega)];omega
theorem dec_digs (u:Nat):(∀c∈Lib.decDigits u,isDigit c=true)/\dval (Lib.decDigits u)=u/\Lib.decDigits u≠[]/\(1<(Lib.decDigits u).length->(Lib.decDigits u).head?≠some 48)/\(1<=u->(Lib.decDigits u).head?≠some 48):=by
 induction u using Nat.strongRecOn with
 |_ u ih=>
  rw[Lib.decDigits]
  by_cases h:u<10
  ·rw[dif_pos h]
   refine⟨fun c hc=>?_,?_,by simp,fun h1=>by simp at h1,fun h1=>?_⟩
   ·rw[List.mem_singleton.1 hc,isDigit_iff,toNat_of (by omega)];omega
   ·show 10*0+((UInt8.ofNat (48+u)).toNat - 48)=u
    rw[toNat_of (by omega)];omega
   ·intro e
    have e:=Option.some.inj e
    have:=congrArg UInt8.toNat e
    rw[toNat_of (by omega)] at this
    replace this:48+u=(48:UInt8).toNat:=this
    rw[show(48:UInt8).toNat=48 from rfl] at this
    omega
  ·rw[dif_neg h]
   obtain⟨i1,i2,i3,i4,i5⟩:=ih (u / 10) (by omega)
   have hh:(Lib.decDigits (u / 10)++[UInt8.ofNat (48+u%10)]).head?=(Lib.decDigits (u / 10)).head?:=by
    cases hd:Lib.decDigits (u / 10) with
    |nil=>exact absurd hd i3
    |cons a v=>rfl
   refine⟨fun c hc=>?_,?_,by simp,fun _=>by rw[hh];exact i5 (by omega),fun _=>by rw[hh];exact i5 (by omega)⟩
   ·rcases List.mem_append.1 hc with hc|hc
    ·exact i1 c hc
    ·rw[List.mem_singleton.1 hc,isDigit_iff,toNat_of (by omega)];omega
   ·rw[dval_snoc,i2,toNat_of (by omega)];omega
theorem nDig_le:∀(k u:Nat),u<10^(k+1)->Lib.nDigits u<=k+1
 |0,u,h=>by rw[Lib.nDigits_small (by simpa using h)];omega
 |k+1,u,h=>by
  by_cases h10:u<10
  ·rw[Lib.nDigits_small h10];omega
  ·rw[Lib.nDigits_big h10]
   have:=nDig_le k (u / 10) (by rw[Nat.pow_succ] at h;omega)
   omega
theorem tw_all {p:UInt8->Bool} {l:List UInt8} (h:∀c∈l,p c=true):l.takeWhile p=l:=by
 induction l with
 |nil=>rfl
 |cons c l ih=>rw[List.takeWhile_cons,if_pos (h c (by simp)),ih (fun d hd=>h d (by simp[hd]))]
theorem digs_all {l:List UInt8} (h:∀c∈l,isDigit c=true) (hl:l.length<=16):digs l=l.length:=by
 unfold digs;rw[tw_all h];omega
theorem digs_full {l:List UInt8} (h:digs l=l.length):∀c∈l,isDigit c=true:=by
 have h1:=digs_lt (l:=l) (j:=l.length) (by omega)
 rwa [List.take_length] at h1
theorem numS_P {l:List UInt8} (h45:l.head?≠some 45):numS l=if digs l=0∨(1<digs l/\l.head?=some 48)∨17<=digs l then(0,0) else((dval (l.take (digs l)):Int),digs l):=by
 unfold numS
 simp only[h45,decide_false,Bool.false_eq_true,if_false,false_and,false_or,Nat.zero_add]
theorem numS_M {l:List UInt8}:numS (45::l)=if digs l=0∨(1<digs l/\l.head?=some 48)∨dval (l.take (digs l))=0∨17<=digs l then(0,0) else(-(dval (l.take (digs l)):Int),1+digs l):=by
 unfold numS
 simp only[List.head?_cons,decide_true,if_true,List.tail_cons,true_and]
theorem num_itoa {w:List UInt8} (hne:w≠[]) (h:(numS w).2=w.length):Lib.itoa (numS w).1=w:=by
 by_cases h45:w.head?=some 45
 ·obtain⟨l,rfl⟩:∃l,w=45::l:=by
   cases w with
   |nil=>cases h45
   |cons c l=>simp at h45;exact⟨l,by rw[h45]⟩
  rw[numS_M] at h⊢
  split at h
  ·simp at h
  ·rename_i hc
   rw[if_neg hc]
   have hl:digs l=l.length:=by simp at h;omega
   rw[hl,List.take_length] at hc⊢
   have hd:=digs_full hl
   show Lib.itoa (-(dval l:Int))=_
   unfold Lib.itoa
   rw[if_pos (by omega),show(-(dval l:Int)).natAbs=dval l by omega,dec_of (l.length - 1) l (by omega) hd (fun h1 e=>hc (.inr (.inl ⟨h1,e⟩)))]
 ·rw[numS_P h45] at h⊢
  split at h
  ·have:w.length=0:=h.symm
   exact absurd (List.eq_nil_of_length_eq_zero this) hne
  ·rename_i hc
   rw[if_neg hc]
   have hl:digs w=w.length:=h
   rw[hl] at hc⊢
   rw[List.take_length]
   have hd:=digs_full hl
   show Lib.itoa (dval w:Int)=_
   unfold Lib.itoa
   rw[if_neg (by omega),show((dval w:Nat):Int).toNat=dval w by omega,dec_of (w.length - 1) w (by omega) hd (fun h1 e=>hc (.inr (.inl ⟨h1,e⟩)))]
theorem dec_short {u:Nat} (h:u<=1000000000):(Lib.decDigits u).length<=16:=by
 rw[Lib.decDigits_length]
 have:=nDig_le 9 u (by omega)
 omega
theorem dec_head (u:Nat):(Lib.decDigits u).head?≠some 45:=by
 obtain⟨h1,_,h3,_⟩:=dec_digs u
 intro e
 cases hd:Lib.decDigits u with
 |nil=>exact h3 hd
 |cons a v=>
  rw[hd] at e h1
  simp at e
  have:=h1 a (by simp)
  rw[e] at this;revert this;decide
theorem itoa_num {n:Int} (h0: -1000000000<=n) (h1:n<=1000000000):numS (Lib.itoa n)=(n,(Lib.itoa n).length):=by
 unfold Lib.itoa
 by_cases hn:n<0
 ·rw[if_pos hn,numS_M]
  obtain⟨d1,d2,d3,d4,d5⟩:=dec_digs n.natAbs
  have hl:=dec_short (u:=n.natAbs) (by omega)
  have hp:(Lib.decDigits n.natAbs).length≠0:=fun e=>d3 (List.eq_nil_of_length_eq_zero e)
  rw[digs_all d1 hl,List.take_length,d2,if_neg (by
   rintro(h|⟨h,h'⟩|h|h)
   ·exact hp h
   ·exact d4 h h'
   ·omega
   ·omega)]
  simp only[List.length_cons]
  congr 1
  ·omega
  ·omega
 ·rw[if_neg hn,numS_P (dec_head _)]
  obtain⟨d1,d2,d3,d4,d5⟩:=dec_digs n.toNat
  have hl:=dec_short (u:=n.toNat) (by omega)
  have hp:(Lib.decDigits n.toNat).length≠0:=fun e=>d3 (List.eq_nil_of_length_eq_zero e)
  rw[digs_all d1 hl,List.take_length,d2,if_neg (by
   rintro(h|⟨h,h'⟩|h)
   ·exact hp h
   ·exact d4 h h'
   ·omega)]
  congr 1
  omega
theorem parse_of:∀(l:List UInt8) (acc:Nat),(∀c∈l,isDigit c=true)->l.foldl (fun a c=>10*a+(c.toNat - 48)) acc<1000000000000000000->Lib.parseUint10 acc l=.ok (l.foldl (fun a c=>10*a+(c.toNat - 48)) acc)
 |[],acc,_,_=>rfl
 |c::r,acc,hd,hb=>by
  have hc:=(isDigit_iff c).1 (hd c (by simp))
  rw[List.foldl_cons] at hb⊢
  have hle:=dval_cons_pos r (10*acc+(c.toNat - 48))
  unfold Lib.parseUint10
  rw[if_pos hc,if_neg (by omega),if_neg (by omega),show acc*10+(c.toNat - 48)=10*acc+(c.toNat - 48) by omega]
  exact parse_of r _ (fun x hx=>hd x (by simp[hx])) hb
theorem mag_of {u:Nat} (h:u<1000000000000000000):Lib.parseMag (Lib.decDigits u)=.ok u:=by
 obtain⟨d1,d2,d3,_⟩:=dec_digs u
 unfold Lib.parseMag
 rw[if_neg d3,parse_of _ 0 d1 (by show dval _<_;rw[d2];exact h)]
 show Lib.NumEnd.ok (dval _)=_
 rw[d2]
theorem atoi_itoa {n:Int} (h0: -1000000000<=n) (h1:n<=1000000000):Lib.atoiAll (Lib.itoa n)=.ok n:=by
 unfold Lib.itoa
 by_cases hn:n<0
 ·rw[if_pos hn]
  unfold Lib.atoiAll
  simp only[show((45:UInt8).toNat=43∨(45:UInt8).toNat=45) from .inr rfl,if_true]
  rw[mag_of (by omega)]
  simp only[show(45:UInt8).toNat=45 from rfl,not_true,false_and,if_false,true_and,if_true]
  rw[if_neg (by omega)]
  congr 1;omega
 ·rw[if_neg hn]
  obtain⟨d1,d2,d3,_⟩:=dec_digs n.toNat
  have hm:=mag_of (u:=n.toNat) (by omega)
  cases hd:Lib.decDigits n.toNat with
  |nil=>exact absurd hd d3
  |cons c r=>
   rw[hd] at d1 hm
   have hc:=(isDigit_iff c).1 (d1 c (by simp))
   unfold Lib.atoiAll
   simp only[show¬c.toNat=43 by omega,show¬c.toNat=45 by omega,or_self,if_false]
   rw[hm]
   simp only[not_false_eq_true,true_and,false_and,if_false]
   rw[if_neg (by omega)]
   congr 1;omega
def litR (w:By):Option Val:=if w≠[]/\(litQ w).2=w.length/\(litQ w).1.ok=true then some (litQ w).1 else none
theorem rr_ne:∀(f:Nat) {l:List UInt8} {vs:List Val},rr f l=some vs->vs≠[]
 |0,l,vs,h=>by cases h
 |f+1,l,vs,h=>by
  unfold rr at h
  split at h
  ·cases h
  ·split at h
   ·cases h;simp
   ·split at h
    ·rw[Option.map_eq_some_iff] at h
     obtain⟨a,_,rfl⟩:=h;simp
    ·cases h
theorem rv_q (l:List UInt8):rv (34::l)=(rt l).map fun p=>(⟨2,0,p.1⟩,p.2):=by
 unfold rv;rw[if_pos (show(34::l).head?=some 34 from rfl)];rfl
theorem rowText_one (v:Val):rowText [v]=written v:=by
 unfold rowText;simp[Lib.join]
theorem qlit_no {w:By} (h:w.head?≠some 34):qlit w=none:=by
 unfold qlit
 split
 ·rw[if_neg h]
 ·rfl
theorem qlit_q (l:List UInt8):qlit (34::l)=match rt l with
  |some (t,[])=>if(Val.mk 2 0 t).ok=true/\quoted t=34::l then some ⟨2,0,t⟩ else none
  |_=>none:=by
 have hr:rr ((34::l).length+1) (34::l)=match rt l with
  |none=>none
  |some (t,r)=>if r=[] then some [⟨2,0,t⟩] else if r.head?=some 44 then(rr (34::l).length r.tail).map (⟨2,0,t⟩:: ·) else none:=by
  conv=>lhs;unfold rr
  rw[rv_q]
  cases rt l with
  |none=>rfl
  |some p=>rfl
 unfold qlit parseRow
 rw[if_neg (by simp),hr]
 simp only[List.head?_cons,if_true]
 cases rt l with
 |none=>rfl
 |some p=>
  obtain⟨t,r⟩:=p
  cases r with
  |nil=>
   simp only[if_true]
   rw[rowOk_one,rowText_one,show written (Val.mk 2 0 t)=quoted t from rfl]
   by_cases hc:(Val.mk 2 0 t).ok=true/\quoted t=34::l
   ·rw[if_pos hc,if_pos (by simp[hc])]
   ·rw[if_neg hc,if_neg (by simpa using hc)]
  |cons a r=>
   simp only[reduceCtorEq,if_false]
   cases hx:(if(a::r).head?=some 44 then(rr (34::l).length (a::r).tail).map (Val.mk 2 0 t:: ·) else none) with
   |none=>rfl
   |some vs=>
    split at hx
    ·rw[Option.map_eq_some_iff] at hx
     obtain⟨vs',h1,rfl⟩:=hx
     have:=rr_ne _ h1
     cases vs' with
     |nil=>exact absurd rfl this
     |cons b vs'=>
      simp only
      split
      ·rename_i h2;split at h2<;>cases h2
      ·rfl
    ·cases hx
theorem litR_eq (w:By):litR w=litP w:=by
 cases w with
 |nil=>rw[litP_no (fun v h=>by cases h),qlit_no (by simp)];rfl
 |cons c l=>
  by_cases h34:c=34
  ·subst h34
   have hno:litP (34::l)=qlit (34::l):=litP_no (fun v h=>by
    unfold Lib.atoiAll at h
    simp only[show¬((34:UInt8).toNat=43∨(34:UInt8).toNat=45) by decide,if_false] at h
    unfold Lib.parseMag Lib.parseUint10 at h
    rw[if_neg (by simp),if_neg (by decide)] at h
    cases h)
   rw[hno,qlit_q]
   have hq:litQ (34::l)=(⟨2,0,(quoteS (34::l) 0).1⟩,(quoteS (34::l) 0).2):=by unfold litQ;rw[if_pos (show(34::l).head?=some 34 from rfl)]
   have hqs:quoteS (34::l) 0=qres (34::l).length 0 (rq l):=by unfold quoteS;rw[if_pos (show(34::l)[0]?=some 34 from rfl)];rfl
   unfold litR
   rw[hq,hqs]
   cases hr:rq l with
   |none=>
    rw[if_neg (by simp[qres])]
    cases ht:rt l with
    |none=>rfl
    |some p=>
     obtain⟨t,r⟩:=p
     cases r with
     |cons a r=>rfl
     |nil=>
      show none=if _ then _ else _
      rw[if_neg (fun h=>by
       have h2:=h.2
       unfold quoted at h2
       have h3:t.flatMap esc++[34]=l:=(List.cons.inj h2).2
       rw[<-h3,rq_of] at hr;cases hr)]
   |some p=>
    obtain⟨t,r⟩:=p
    have hf:=rq_form l.length (rL _) hr
    have ht:rt l=some (t,r):=by rw[hf];exact rt_of t r
    rw[ht]
    have hrl:r.length<l.length:=rq_suf l.length (rL _) hr
    cases r with
    |nil=>
     show(if _ then some (Val.mk 2 0 t) else none)=if _ then some (Val.mk 2 0 t) else none
     have e1:quoted t=34::l:=by rw[hf];rfl
     by_cases hk:(Val.mk 2 0 t).ok=true
     ·rw[if_pos ⟨by simp,by simp[qres],hk⟩,if_pos ⟨hk,e1⟩]
     ·rw[if_neg (fun h=>hk h.2.2),if_neg (fun h=>hk h.1)]
    |cons a r=>
     show(if _ then some (Val.mk 2 0 t) else none)=none
     rw[if_neg (fun h=>by
      have:=h.2.1
      simp[qres] at this hrl
      omega)]
  ·have hh:(c::l).head?≠some 34:=by simp[h34]
   have hq:litQ (c::l)=(⟨1,(numS (c::l)).1,[]⟩,(numS (c::l)).2):=by unfold litQ;rw[if_neg hh]
   unfold litR
   rw[hq]
   by_cases hk:(numS (c::l)).2=(c::l).length/\(Val.mk 1 (numS (c::l)).1 []).ok=true
   ·rw[if_pos ⟨by simp,hk⟩]
    have hi:=num_itoa (w:=c::l) (by simp) hk.1
    obtain⟨b0,b1,_⟩:=ok_in hk.2
    have ha:=atoi_itoa b0 b1
    simp only at ha
    rw[hi] at ha
    rw[litP_ok ha,if_pos ⟨hi,hk.2⟩]
   ·rw[if_neg (fun h=>hk h.2)]
    cases ha:Lib.atoiAll (c::l) with
    |ok n=>
     rw[litP_ok ha,qlit_no hh]
     by_cases hc:Lib.itoa n=c::l/\(Val.mk 1 n []).ok=true
     ·exfalso
      obtain⟨b0,b1,_⟩:=ok_in hc.2
      have:=itoa_num b0 b1
      simp only at this
      rw[hc.1] at this
      rw[this] at hk
      exact hk ⟨rfl,hc.2⟩
     ·rw[if_neg hc]
    |_=>rw[litP_no (fun v h=>by rw[ha] at h;cases h),qlit_no hh]
end Go.Proofs.YtcfgfkkhpdlhpaaGreatDoor
