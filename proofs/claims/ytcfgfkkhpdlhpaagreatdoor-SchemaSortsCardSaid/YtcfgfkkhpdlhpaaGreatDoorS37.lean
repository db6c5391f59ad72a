/-
  A part of the proof of SchemaSorts.
-/
import Derived.Test.YtcfgfkkhpdlhpaaGreatDoorS36
set_option linter.all false
set_option maxRecDepth 100000
namespace Go.Proofs.YtcfgfkkhpdlhpaaGreatDoor
theorem rE:∀t:Tree,t.nice->t.plain.length<=400*t.size
 |.pair a l r,h=>by
  have h1:=rE l h.1;have h2:=rE r h.2;have p1:=qN (decide (l.level<l8 a)) l.plain;have p2:=qN (decide (r.level<l8 a)) r.plain;have s:(l7 a).length<=5:=by cases a<;>decide
  simp only[Tree.plain,Tree.size,aG];omega
 |.no t,h=>by
  have h1:=rE t h;have p1:=qN (decide (t.level<4)) t.plain;have s:k9.length=3:=rfl;simp only[Tree.plain,Tree.size,aG,aJ,b5];omega
 |.test op l r,h=>by
  have h1:=h.1;have h2:=h.2.1.2;have h3:=h.2.2.2;simp only[Tree.plain,Tree.size,aG,aJ,b5];omega
 |.truth b,h=>by cases b<;>decide
def sK:Option Tree->Nat
 |none=>0
 |some t=>t.size+1
def T8:Option Tree->Prop
 |none=>True
 |some t=>t.nice
theorem vC (a:Bool) (acc:Option Tree) (t:Tree):(rM a acc t).size=sK acc+t.size:=by
 cases acc<;>simp[rM,sK,Tree.size];omega
theorem vD (a:Bool) {acc:Option Tree} {t:Tree} (h:T8 acc) (h':t.nice):(rM a acc t).nice:=by
 cases acc with
 |none=>exact h'
 |some x=>exact⟨h,h'⟩
theorem nV (a:Bool):∀(t:Tree) (acc:Option Tree),(dW a acc t).size=sK acc+t.size
 |.pair b l r,acc=>by
  unfold dW;split
  ·rw[nV a r,sK,nV a l];simp only[Tree.size];omega
  ·rw[vC,nV b r,sK,nV b l];simp only[Tree.size,sK];omega
 |.no t,acc=>by
  unfold dW;rw[vC];simp only[Tree.size];rw[nV true t,sK];omega
 |.test _ _ _,acc=>by unfold dW;rw[vC]
 |.truth _,acc=>by unfold dW;rw[vC]
theorem qT (t:Tree):t.flat.size=t.size:=by
 unfold Tree.flat;rw[nV,sK];omega
theorem nW (a:Bool):∀(t:Tree) (acc:Option Tree),T8 acc->t.nice->(dW a acc t).nice
 |.pair b l r,acc,h,ht=>by
  unfold dW;split
  ·exact nW a r _ (nW a l _ h ht.1) ht.2
  ·exact vD a h (nW b r _ (nW b l _ trivial ht.1) ht.2)
 |.no t,acc,h,ht=>by unfold dW;exact vD a h (nW true t _ trivial ht)
 |.test _ _ _,acc,h,ht=>by unfold dW;exact vD a h ht
 |.truth _,acc,h,ht=>by unfold dW;exact vD a h ht
theorem uD {t:Tree} (h:t.nice):t.flat.nice:=nW true t none trivial h
def Md.sz:Md->Nat
 |.orL n=>n.size
 |.andL n=>n.size
 |_=>0
theorem jQ {lit:By->Option Val}:∀(f:Nat) (m:Md) (lv d:Nat) (ts r:List By) (t:Tree) (e:Nat),bR lit f m lv d ts=some (t,r,e)->t.size+r.length<=m.sz+ts.length
 |0,m,lv,d,ts,r,t,e,h=>by cases h
 |f+1,.or,lv,d,ts,r,t,e,h=>by
  unfold bR at h;split at h
  ·rename_i n r1 e1 h1;have a:=jQ f _ _ _ _ _ _ _ h1;have b:=jQ f _ _ _ _ _ _ _ h;simp only[Md.sz] at*;omega
  ·cases h
 |f+1,.orL n,lv,d,ts,r,t,e,h=>by
  unfold bR at h;split at h
  ·rename_i hd;obtain⟨r0,rfl⟩:=fS hd (by decide);split at h
   ·rename_i n r1 e1 h1;have a:=jQ f _ _ _ _ _ _ _ h1;have b:=jQ f _ _ _ _ _ _ _ h;simp only[Md.sz,Tree.size,gS,aJ] at*;omega
   ·cases h
  ·cases h;exact rL _
 |f+1,.and,lv,d,ts,r,t,e,h=>by
  unfold bR at h;split at h
  ·rename_i n r1 e1 h1;have a:=jQ f _ _ _ _ _ _ _ h1;have b:=jQ f _ _ _ _ _ _ _ h;simp only[Md.sz] at*;omega
  ·cases h
 |f+1,.andL n,lv,d,ts,r,t,e,h=>by
  unfold bR at h;split at h
  ·rename_i hd;obtain⟨r0,rfl⟩:=fS hd (by decide);split at h
   ·rename_i n r1 e1 h1;have a:=jQ f _ _ _ _ _ _ _ h1;have b:=jQ f _ _ _ _ _ _ _ h;simp only[Md.sz,Tree.size,gS,aJ] at*;omega
   ·cases h
  ·cases h;exact rL _
 |f+1,.not,lv,d,ts,r,t,e,h=>by
  unfold bR at h;split at h
  ·rename_i hd;obtain⟨r0,rfl⟩:=fS hd (by decide);split at h
   ·rename_i n r1 e1 h1;cases h;have a:=jQ f _ _ _ _ _ _ _ h1;simp only[Md.sz,Tree.size,gS,aJ] at*;omega
   ·cases h
  ·have a:=jQ f _ _ _ _ _ _ _ h;simp only[Md.sz] at*;omega
 |f+1,.prim,lv,d,ts,r,t,e,h=>by
  unfold bR at h;split at h
  ·rename_i hd;obtain⟨r0,rfl⟩:=fS hd (by decide);cases h;simp only[Md.sz,Tree.size,gS,aJ];omega
  ·split at h
   ·rename_i hd;obtain⟨r0,rfl⟩:=fS hd (by decide);cases h;simp only[Md.sz,Tree.size,gS,aJ];omega
   ·split at h
    ·rename_i hd;obtain⟨r0,rfl⟩:=fS hd (by decide);split at h
     ·rename_i n r1 e1 h1;have a:=jQ f _ _ _ _ _ _ _ h1;split at h
      ·rename_i hr;obtain⟨r2,rfl⟩:=fS hr (by decide);cases h;simp only[Md.sz,gS,aJ] at*;omega
      ·cases h
     ·cases h
    ·split at h
     ·rename_i a r1 h1;have l1:=qL h1;split at h
      ·split at h
       ·rename_i b r2 h2;have l2:=qL h2;cases h;simp only[Md.sz,Tree.size,List.length_tail] at*;omega
       ·cases h
      ·cases h
     ·cases h
theorem G2 {w:By} {v:Val} (h:cK w=some v):v.ok=true:=by
 have q:∀{v},jP w=some v->v.ok=true:=fun{v} h=>by
  unfold jP at h;split at h
  ·rename_i v' hp;split at h
   ·cases h;unfold eV at hp;split at hp
    ·cases hp
    ·split at hp
     ·split at hp
      ·rename_i vs _ hc;cases hp;simp only[aH] at hc;have:=hc.1;rw[BL] at this;exact this
      ·cases hp
     ·cases hp
   ·cases h
  ·cases h
 unfold cK at h;split at h
 ·split at h
  ·rename_i hc;cases h;exact hc.2
  ·exact q h
 ·exact q h
theorem CN {v:Val} (h:v.ok=true):(eX v).length<=170:=by
 have:=IK h;unfold eX;split
 ·have:=Lib.itoa_length_le v.n (by omega) (by omega);omega
 ·have:=AT v.s;simp only[oX,aJ,aG,b5];omega
theorem yS:∀{ts r:List By} {t:Term},fV cK ts=some (t,r)->t.name.length<=16/\t.txt.length<=180
 |[],r,t,h=>by cases h
 |w::ts,r,t,h=>by
  unfold fV at h;split at h
  ·split at h
   ·rename_i t' r' h1;have ih:=yS h1;split at h
    ·cases h
    ·cases h;refine⟨ih.1,?_⟩;show(58::t'.name).length<=180;simp;omega
   ·cases h
  ·split at h
   ·rename_i hn;cases h;simp only[aH] at hn;have hl:w.length<=16:=by
     have:=hn.1;unfold fP at this;split at this
     ·simp
     ·simp only[aH,aK] at this;exact this.1.1
    refine⟨hl,?_⟩;show(if w≠[] then w else PV v0).length<=180;split
    ·omega
    ·decide
   ·split at h
    ·rename_i v hv;cases h;refine⟨zL _,?_⟩;show(PV v).length<=180;unfold PV;rw[G2 hv,aF rfl];have:=CN (G2 hv);omega
    ·cases h
def Md.nice:Md->Prop
 |.orL n=>n.nice
 |.andL n=>n.nice
 |_=>True
theorem BN {w:By} (h:mU w=true):w.length<=2:=by
 simp only[mU,TS,List.contains_eq_mem,aK,List.mem_cons,List.not_mem_nil,or_false] at h;rcases h with rfl|rfl|rfl|rfl|rfl|rfl<;>decide
theorem k8:∀(f:Nat) (m:Md) (lv d:Nat) (ts r:List By) (t:Tree) (e:Nat),bR cK f m lv d ts=some (t,r,e)->m.nice->t.nice
 |0,m,lv,d,ts,r,t,e,h,_=>by cases h
 |f+1,.or,lv,d,ts,r,t,e,h,_=>by
  unfold bR at h;split at h
  ·rename_i n r1 e1 h1;exact k8 f _ _ _ _ _ _ _ h (k8 f _ _ _ _ _ _ _ h1 trivial)
  ·cases h
 |f+1,.orL n,lv,d,ts,r,t,e,h,hn=>by
  unfold bR at h;split at h
  ·split at h
   ·rename_i n r1 e1 h1;exact k8 f _ _ _ _ _ _ _ h ⟨hn,k8 f _ _ _ _ _ _ _ h1 trivial⟩
   ·cases h
  ·cases h;exact hn
 |f+1,.and,lv,d,ts,r,t,e,h,_=>by
  unfold bR at h;split at h
  ·rename_i n r1 e1 h1;exact k8 f _ _ _ _ _ _ _ h (k8 f _ _ _ _ _ _ _ h1 trivial)
  ·cases h
 |f+1,.andL n,lv,d,ts,r,t,e,h,hn=>by
  unfold bR at h;split at h
  ·split at h
   ·rename_i n r1 e1 h1;exact k8 f _ _ _ _ _ _ _ h ⟨hn,k8 f _ _ _ _ _ _ _ h1 trivial⟩
   ·cases h
  ·cases h;exact hn
 |f+1,.not,lv,d,ts,r,t,e,h,_=>by
  unfold bR at h;split at h
  ·split at h
   ·rename_i n r1 e1 h1;cases h;show n.nice;exact k8 f .prim _ _ _ _ _ _ h1 trivial
   ·cases h
  ·exact k8 f .prim _ _ _ _ _ _ h trivial
 |f+1,.prim,lv,d,ts,r,t,e,h,_=>by
  unfold bR at h;split at h
  ·cases h;trivial
  ·split at h
   ·cases h;trivial
   ·split at h
    ·split at h
     ·rename_i n r1 e1 h1;split at h
      ·cases h;exact k8 f .or _ _ _ _ _ _ h1 trivial
      ·cases h
     ·cases h
    ·split at h
     ·rename_i a r1 h1;split at h
      ·rename_i hrel;split at h
       ·rename_i b r2 h2;cases h;exact⟨BN hrel,yS h1,yS h2⟩
       ·cases h
      ·cases h
     ·cases h
open Go.RowKit
theorem UA:∀a:Fin 256,∀x:Fin 16,rH (UInt8.ofNat a)=some x.val->dS x=UInt8.ofNat a:=by decide+kernel
theorem N4 {a:UInt8} {x:Nat} (h:rH a=some x):dS x=a:=by
 have hx:=AF h;have ha:UInt8.ofNat a.toNat=a:=UInt8.ofNat_toNat;have:=UA ⟨a.toNat,bX a⟩ ⟨x,hx⟩ (by show rH (UInt8.ofNat a.toNat)=some x;rw[ha];exact h);exact this.trans ha
theorem UJ:∀k:Fin 16,rH (dS k)=some k.val/\sV (dS k)=some k.val/\dS k≠34/\dS k≠92:=by decide+kernel
theorem tZ {k:Nat} (h:k<16):rH (dS k)=some k/\sV (dS k)=some k/\dS k≠34/\dS k≠92:=UJ ⟨k,h⟩
theorem SR {c:UInt8} (h:c=34∨c=92):mL c=[92,c]:=by unfold mL;rw[aF h]
theorem SS {c:UInt8} (h:c.toNat<32∨126<c.toNat):mL c=[92,120,dS (c.toNat / 16),dS (c.toNat%16)]:=by
 unfold mL;rw[aD (fun e=>by rcases e with rfl|rfl<;>revert h<;>decide),aF h]
theorem ST {c:UInt8} (h:c≠34) (h':c≠92) (hb:¬(c.toNat<32∨126<c.toNat)):mL c=[c]:=by
 unfold mL;rw[aD (fun e=>e.elim h h'),aD hb]
theorem oG {m:Nat} (h:m<256):(UInt8.ofNat m).toNat=m:=by
 rw[UInt8.toNat_ofNat'];exact Nat.mod_eq_of_lt h
theorem a0O {a b:UInt8} {x y:Nat} (ha:rH a=some x) (hb:rH b=some y) (h:¬(32<=16*x+y/\16*x+y<=126)):mL (UInt8.ofNat (16*x+y))=[92,120,a,b]:=by
 have hx:=AF ha;have hy:=AF hb;have hm:(UInt8.ofNat (16*x+y)).toNat=16*x+y:=oG (by omega);rw[SS (by rw[hm];omega),hm,show(16*x+y) / 16=x by omega,show(16*x+y)%16=y by omega,N4 ha,N4 hb]
theorem xP:∀(n:Nat) {l t r:List UInt8},l.length<=n->rq l=some (t,r)->l=t.flatMap mL++34::r
 |0,l,t,r,h,e=>by
  cases l with
  |nil=>cases e
  |cons _ _=>simp at h
 |n+1,[],t,r,h,e=>by cases e
 |n+1,c::l,t,r,h,e=>by
  have hl:l.length<=n:=by simp at h;omega
  by_cases h34:c=34
  ·rw[h34,RM] at e;cases e;rw[h34];rfl
  ·by_cases hb:c.toNat<32∨126<c.toNat
   ·rw[JU h34 hb] at e;cases e
   ·by_cases h92:c=92
    ·subst h92;by_cases hx:∃a b l2,l=120::a::b::l2
     ·obtain⟨a,b,l2,rfl⟩:=hx;rw[ZQ] at e;split at e
      ·rename_i x hnx;split at e
       ·rename_i y hny;split at e
        ·cases e
        ·rename_i hr;cases hq:rq l2 with
         |none=>rw[hq] at e;cases e
         |some p=>
          rw[hq] at e;cases e;have:=xP n (l:=l2) (t:=p.1) (r:=p.2) (by simp at hl;omega) hq;rw[f8,a0O hnx hny hr,bG,<-this];rfl
       ·cases e
      ·cases e
     ·by_cases he:∃c' l1,l=c'::l1/\(c'=34∨c'=92)
      ·obtain⟨c',l1,rfl,hc'⟩:=he;rw[FA hc'] at e;cases hq:rq l1 with
       |none=>rw[hq] at e;cases e
       |some p=>
        rw[hq] at e;cases e;have:=xP n (l:=l1) (t:=p.1) (r:=p.2) (by simp at hl;omega) hq;rw[f8,SR hc',bG,<-this];rfl
      ·rw[A0 (fun e0 r1 h1=>⟨fun h=>he ⟨e0,r1,h1,h⟩,fun h a b r2 h2=>hx ⟨a,b,r2,by rw[h1,h,h2]⟩⟩)] at e;cases e
    ·rw[ZR h34 hb h92] at e;cases hq:rq l with
     |none=>rw[hq] at e;cases e
     |some p=>
      rw[hq] at e;cases e;have:=xP n (l:=l) (t:=p.1) (r:=p.2) hl hq;rw[f8,ST h34 h92 hb,bG,<-this];rfl
theorem a0y (t r:List UInt8):rq (t.flatMap mL++34::r)=some (t,r):=by
 induction t with
 |nil=>exact RM r
 |cons c t ih=>
  rw[f8,bG];by_cases h:c=34∨c=92
  ·rw[SR h];show rq (92::c::(t.flatMap mL++34::r))=_;rw[FA h,ih];rfl
  ·by_cases hb:c.toNat<32∨126<c.toNat
   ·rw[SS hb];show rq (92::120::dS (c.toNat / 16)::dS (c.toNat%16)::(t.flatMap mL++34::r))=_;have hlt:=bX c;rw[ZQ,(tZ (k:=c.toNat / 16) (by omega)).1,(tZ (k:=c.toNat%16) (by omega)).1];show(if 32<=16*(c.toNat / 16)+c.toNat%16/\16*(c.toNat / 16)+c.toNat%16<=126 then none else(rq (t.flatMap mL++34::r)).map fun p=>(UInt8.ofNat (16*(c.toNat / 16)+c.toNat%16)::p.1,p.2))=_;rw[aD (by omega),ih,show 16*(c.toNat / 16)+c.toNat%16=c.toNat by omega,UInt8.ofNat_toNat];rfl
   ·rw[ST (fun e=>h (.inl e)) (fun e=>h (.inr e)) hb];show rq (c::(t.flatMap mL++34::r))=_;rw[ZR (fun e=>h (.inl e)) hb (fun e=>h (.inr e)),ih];rfl
theorem a0w (t r:List UInt8):rt (t.flatMap mL++34::r)=some (t,r):=by
 induction t with
 |nil=>exact WI r
 |cons c t ih=>
  rw[f8,bG];by_cases h:c=34∨c=92
  ·rw[SR h];show rt (92::c::(t.flatMap mL++34::r))=_;rw[WH (by rcases h with rfl|rfl<;>decide),ih];rfl
  ·by_cases hb:c.toNat<32∨126<c.toNat
   ·rw[SS hb];show rt (92::120::dS (c.toNat / 16)::dS (c.toNat%16)::(t.flatMap mL++34::r))=_;have hlt:=bX c;have h2:AM (dS (c.toNat / 16)) (dS (c.toNat%16))=some c.toNat:=by
     unfold AM;rw[(tZ (k:=c.toNat / 16) (by omega)).2.1,(tZ (k:=c.toNat%16) (by omega)).2.1];show some (16*(c.toNat / 16)+c.toNat%16)=_;congr 1;omega
    rw[a1Z,h2];show((rt (t.flatMap mL++34::r)).map fun p=>(UInt8.ofNat c.toNat::p.1,p.2))=_;rw[ih,UInt8.ofNat_toNat];rfl
   ·rw[ST (fun e=>h (.inl e)) (fun e=>h (.inr e)) hb];show rt (c::(t.flatMap mL++34::r))=_;rw[a1a (fun e=>h (.inl e)) (fun e=>h (.inr e)),ih];rfl
theorem RU (t r:List UInt8):mP (t.flatMap mL++34::r)=(t.flatMap mL).length:=by
 induction t with
 |nil=>exact K0 r
 |cons c t ih=>
  rw[f8,bG,aG];by_cases h:c=34∨c=92
  ·rw[SR h];show mP (92::c::(t.flatMap mL++34::r))=_;rw[E5,ih];rfl
  ·by_cases hb:c.toNat<32∨126<c.toNat
   ·rw[SS hb];show mP (92::120::dS (c.toNat / 16)::dS (c.toNat%16)::(t.flatMap mL++34::r))=_;have hlt:=bX c;have h1:=tZ (k:=c.toNat / 16) (by omega);have h2:=tZ (k:=c.toNat%16) (by omega);rw[E5,FN h1.2.2.1 h1.2.2.2,FN h2.2.2.1 h2.2.2.2,ih];simp only[aJ,b5];omega
   ·rw[ST (fun e=>h (.inl e)) (fun e=>h (.inr e)) hb];show mP (c::(t.flatMap mL++34::r))=_;rw[FN (fun e=>h (.inl e)) (fun e=>h (.inr e)),ih];rfl
theorem t6:∀(v:List UInt8) (a:Nat),a<=v.foldl (fun a c=>10*a+(c.toNat - 48)) a
 |[],a=>rL _
 |c::v,a=>fZ (by omega) (t6 v (10*a+(c.toNat - 48)))
theorem kC (c:UInt8):cO c=true↔48<=c.toNat/\c.toNat<=57:=by simp[cO]
theorem QP:∀(k:Nat) (w:List UInt8),w.length=k+1->(∀c∈w,cO c=true)->(1<w.length->w.head?≠some 48)->Lib.decDigits (jH w)=w
 |0,w,hl,hd,_=>by
  obtain⟨c,rfl⟩:=List.length_eq_one_iff.1 hl;have:=(kC c).1 (hd c (by simp));rw[Lib.decDigits,dif_pos (by simp[jH];omega)];congr 1;apply UInt8.toNat_inj.1;rw[oG (by simp[jH];omega)];simp[jH];omega
 |k+1,w,hl,hd,h0=>by
  obtain⟨v,c,rfl⟩:∃v c,w=v++[c]:=⟨w.dropLast,w.getLast (by intro e;simp[e] at hl),(List.dropLast_concat_getLast _).symm⟩;simp at hl;have hc:=(kC c).1 (hd c (by simp));have hpos:1<=jH v:=by
   cases v with
   |nil=>simp at hl
   |cons a v=>
    have ha:=(kC a).1 (hd a (by simp));have h1:=h0 (by simp);have hne:a.toNat≠48:=fun e=>h1 (by simp;exact UInt8.toNat_inj.1 e);have:=t6 v (10*0+(a.toNat - 48));show 1<=List.foldl _ _ _;rw[gZ];omega
  have ih:=QP k v hl (fun x hx=>hd x (by simp[hx])) (fun h1=>by
   have:=h0 (by simp;omega);cases v with
   |nil=>simp at h1
   |cons a v=>exact this)
  rw[uF,Lib.decDigits,dif_neg (by omega),show(10*jH v+(c.toNat - 48)) / 10=jH v by omega,ih];congr 2;apply UInt8.toNat_inj.1;rw[oG (by omega)];omega
theorem rS (u:Nat):(∀c∈Lib.decDigits u,cO c=true)/\jH (Lib.decDigits u)=u/\Lib.decDigits u≠[]/\(1<(Lib.decDigits u).length->(Lib.decDigits u).head?≠some 48)/\(1<=u->(Lib.decDigits u).head?≠some 48):=by
 induction u using Nat.strongRecOn with
 |_ u ih=>
  rw[Lib.decDigits];by_cases h:u<10
  ·rw[dif_pos h];refine⟨fun c hc=>?_,?_,by simp,fun h1=>by simp at h1,fun h1=>?_⟩
   ·rw[List.mem_singleton.1 hc,kC,oG (by omega)];omega
   ·show 10*0+((UInt8.ofNat (48+u)).toNat - 48)=u;rw[oG (by omega)];omega
   ·intro e;have e:=aY e;have:=aQ UInt8.toNat e;rw[oG (by omega)] at this;replace this:48+u=(48:UInt8).toNat:=this;rw[show(48:UInt8).toNat=48 from rfl] at this;omega
  ·rw[dif_neg h];obtain⟨i1,i2,i3,i4,i5⟩:=ih (u / 10) (by omega);have hh:(Lib.decDigits (u / 10)++[UInt8.ofNat (48+u%10)]).head?=(Lib.decDigits (u / 10)).head?:=by
    cases hd:Lib.decDigits (u / 10) with
    |nil=>exact absurd hd i3
    |cons a v=>rfl
   refine⟨fun c hc=>?_,?_,by simp,fun _=>by rw[hh];exact i5 (by omega),fun _=>by rw[hh];exact i5 (by omega)⟩
   ·rcases List.mem_append.1 hc with hc|hc
    ·exact i1 c hc
    ·rw[List.mem_singleton.1 hc,kC,oG (by omega)];omega
   ·rw[uF,i2,oG (by omega)];omega
theorem S7:∀(k u:Nat),u<10^(k+1)->Lib.nDigits u<=k+1
 |0,u,h=>by rw[Lib.nDigits_small (by simpa using h)];omega
 |k+1,u,h=>by
  by_cases h10:u<10
  ·rw[Lib.nDigits_small h10];omega
  ·rw[Lib.nDigits_big h10];have:=S7 k (u / 10) (by rw[Nat.pow_succ] at h;omega);omega
theorem a1K {p:UInt8->Bool} {l:List UInt8} (h:∀c∈l,p c=true):l.takeWhile p=l:=by
 induction l with
 |nil=>rfl
 |cons c l ih=>rw[eW,aF (h c (by simp)),ih (fun d hd=>h d (by simp[hd]))]
theorem OB {l:List UInt8} (h:∀c∈l,cO c=true) (hl:l.length<=16):eI l=l.length:=by
 unfold eI;rw[a1K h];omega
theorem JB {l:List UInt8} (h:eI l=l.length):∀c∈l,cO c=true:=by
 have h1:=LH (l:=l) (j:=l.length) (by omega);rwa [b6] at h1
theorem PQ {l:List UInt8} (h45:l.head?≠some 45):jU l=if eI l=0∨(1<eI l/\l.head?=some 48)∨17<=eI l then(0,0) else((jH (l.take (eI l)):Int),eI l):=by
 unfold jU;simp only[h45,decide_false,bU,fM,false_and,false_or,bH]
theorem PR {l:List UInt8}:jU (45::l)=if eI l=0∨(1<eI l/\l.head?=some 48)∨jH (l.take (eI l))=0∨17<=eI l then(0,0) else(-(jH (l.take (eI l)):Int),1+eI l):=by
 unfold jU;simp only[List.head?_cons,decide_true,fK,gS,true_and]
theorem XA {w:List UInt8} (hne:w≠[]) (h:(jU w).2=w.length):Lib.itoa (jU w).1=w:=by
 by_cases h45:w.head?=some 45
 ·obtain⟨l,rfl⟩:∃l,w=45::l:=by
   cases w with
   |nil=>cases h45
   |cons c l=>simp at h45;exact⟨l,by rw[h45]⟩
  rw[PR] at h⊢;split at h
  ·simp at h
  ·rename_i hc;rw[aD hc];have hl:eI l=l.length:=by simp at h;omega
   rw[hl,b6] at hc⊢;have hd:=JB hl;show Lib.itoa (-(jH l:Int))=_;unfold Lib.itoa;rw[aF (by omega),show(-(jH l:Int)).natAbs=jH l by omega,QP (l.length - 1) l (by omega) hd (fun h1 e=>hc (.inr (.inl ⟨h1,e⟩)))]
 ·rw[PQ h45] at h⊢;split at h
  ·have:w.length=0:=h.symm;exact absurd (aN this) hne
  ·rename_i hc;rw[aD hc];have hl:eI w=w.length:=h;rw[hl] at hc⊢;rw[b6];have hd:=JB hl;show Lib.itoa (jH w:Int)=_;unfold Lib.itoa;rw[aD (by omega),show((jH w:Nat):Int).toNat=jH w by omega,QP (w.length - 1) w (by omega) hd (fun h1 e=>hc (.inr (.inl ⟨h1,e⟩)))]
theorem JC {u:Nat} (h:u<=1000000000):(Lib.decDigits u).length<=16:=by
 rw[Lib.decDigits_length];have:=S7 9 u (by omega);omega
theorem YF (u:Nat):(Lib.decDigits u).head?≠some 45:=by
 obtain⟨h1,_,h3,_⟩:=rS u;intro e;cases hd:Lib.decDigits u with
 |nil=>exact h3 hd
 |cons a v=>
  rw[hd] at e h1;simp at e;have:=h1 a (by simp);rw[e] at this;revert this;decide
theorem XV {n:Int} (h0: -1000000000<=n) (h1:n<=1000000000):jU (Lib.itoa n)=(n,(Lib.itoa n).length):=by
 unfold Lib.itoa;by_cases hn:n<0
 ·rw[aF hn,PR];obtain⟨d1,d2,d3,d4,d5⟩:=rS n.natAbs;have hl:=JC (u:=n.natAbs) (by omega);have hp:(Lib.decDigits n.natAbs).length≠0:=fun e=>d3 (aN e);rw[OB d1 hl,b6,d2,aD (by
   rintro(h|⟨h,h'⟩|h|h)
   ·exact hp h
   ·exact d4 h h'
   ·omega
   ·omega)]
  simp only[aJ];congr 1
  ·omega
  ·omega
 ·rw[aD hn,PQ (YF _)];obtain⟨d1,d2,d3,d4,d5⟩:=rS n.toNat;have hl:=JC (u:=n.toNat) (by omega);have hp:(Lib.decDigits n.toNat).length≠0:=fun e=>d3 (aN e);rw[OB d1 hl,b6,d2,aD (by
   rintro(h|⟨h,h'⟩|h)
   ·exact hp h
   ·exact d4 h h'
   ·omega)]
  congr 1;omega
theorem MZ:∀(l:List UInt8) (acc:Nat),(∀c∈l,cO c=true)->l.foldl (fun a c=>10*a+(c.toNat - 48)) acc<1000000000000000000->Lib.parseUint10 acc l=.ok (l.foldl (fun a c=>10*a+(c.toNat - 48)) acc)
 |[],acc,_,_=>rfl
 |c::r,acc,hd,hb=>by
  have hc:=(kC c).1 (hd c (by simp));rw[gZ] at hb⊢;have hle:=t6 r (10*acc+(c.toNat - 48));unfold Lib.parseUint10;rw[aF hc,aD (by omega),aD (by omega),show acc*10+(c.toNat - 48)=10*acc+(c.toNat - 48) by omega];exact MZ r _ (fun x hx=>hd x (by simp[hx])) hb
theorem XI {u:Nat} (h:u<1000000000000000000):Lib.parseMag (Lib.decDigits u)=.ok u:=by
 obtain⟨d1,d2,d3,_⟩:=rS u;unfold Lib.parseMag;rw[aD d3,MZ _ 0 d1 (by show jH _<_;rw[d2];exact h)];show Lib.NumEnd.ok (jH _)=_;rw[d2]
theorem JH {n:Int} (h0: -1000000000<=n) (h1:n<=1000000000):Lib.atoiAll (Lib.itoa n)=.ok n:=by
 unfold Lib.itoa;by_cases hn:n<0
 ·rw[aF hn];unfold Lib.atoiAll;simp only[show((45:UInt8).toNat=43∨(45:UInt8).toNat=45) from .inr rfl,fK];rw[XI (by omega)];simp only[show(45:UInt8).toNat=45 from rfl,not_true,false_and,fM,true_and,fK];rw[aD (by omega)];congr 1;omega
 ·rw[aD hn];obtain⟨d1,d2,d3,_⟩:=rS n.toNat;have hm:=XI (u:=n.toNat) (by omega);cases hd:Lib.decDigits n.toNat with
  |nil=>exact absurd hd d3
  |cons c r=>
   rw[hd] at d1 hm;have hc:=(kC c).1 (d1 c (by simp));unfold Lib.atoiAll;simp only[show¬c.toNat=43 by omega,show¬c.toNat=45 by omega,or_self,fM];rw[hm];simp only[not_false_eq_true,true_and,false_and,fM];rw[aD (by omega)];congr 1;omega
def iC (w:By):Option Val:=if w≠[]/\(pT w).2=w.length/\(pT w).1.ok=true then some (pT w).1 else none
theorem a2c:∀(f:Nat) {l:List UInt8} {vs:List Val},rr f l=some vs->vs≠[]
 |0,l,vs,h=>by cases h
 |f+1,l,vs,h=>by
  unfold rr at h;split at h
  ·cases h
  ·split at h
   ·cases h;simp
   ·split at h
    ·rw[aI] at h;obtain⟨a,_,rfl⟩:=h;simp
    ·cases h
theorem a3N (l:List UInt8):rv (34::l)=(rt l).map fun p=>(⟨2,0,p.1⟩,p.2):=by
 unfold rv;rw[aF (show(34::l).head?=some 34 from rfl)];rfl
theorem ME (v:Val):jJ [v]=eX v:=by
 unfold jJ;simp[Lib.join]
theorem E4 {w:By} (h:w.head?≠some 34):jP w=none:=by
 unfold jP;split
 ·rw[aD h]
 ·rfl
theorem X6 (l:List UInt8):jP (34::l)=match rt l with
  |some (t,[])=>if(Val.mk 2 0 t).ok=true/\oX t=34::l then some ⟨2,0,t⟩ else none
  |_=>none:=by
 have hr:rr ((34::l).length+1) (34::l)=match rt l with
  |none=>none
  |some (t,r)=>if r=[] then some [⟨2,0,t⟩] else if r.head?=some 44 then(rr (34::l).length r.tail).map (⟨2,0,t⟩:: ·) else none:=by
  conv=>lhs;unfold rr
  rw[a3N];cases rt l with
  |none=>rfl
  |some p=>rfl
 unfold jP eV;rw[aD (by simp),hr];simp only[List.head?_cons,fK];cases rt l with
 |none=>rfl
 |some p=>
  obtain⟨t,r⟩:=p;cases r with
  |nil=>
   simp only[fK];rw[BL,ME,show eX (Val.mk 2 0 t)=oX t from rfl];by_cases hc:(Val.mk 2 0 t).ok=true/\oX t=34::l
   ·rw[aF hc,aF (by simp[hc])]
   ·rw[aD hc,aD (by simpa using hc)]
  |cons a r=>
   simp only[reduceCtorEq,fM];cases hx:(if(a::r).head?=some 44 then(rr (34::l).length (a::r).tail).map (Val.mk 2 0 t:: ·) else none) with
   |none=>rfl
   |some vs=>
    split at hx
    ·rw[aI] at hx;obtain⟨vs',h1,rfl⟩:=hx;have:=a2c _ h1;cases vs' with
     |nil=>exact absurd rfl this
     |cons b vs'=>
      simp only;split
      ·rename_i h2;split at h2<;>cases h2
      ·rfl
    ·cases hx
theorem EA (w:By):iC w=cK w:=by
 cases w with
 |nil=>rw[vA (fun v h=>by cases h),E4 (by simp)];rfl
 |cons c l=>
  by_cases h34:c=34
  ·subst h34;have hno:cK (34::l)=jP (34::l):=vA (fun v h=>by
    unfold Lib.atoiAll at h;simp only[show¬((34:UInt8).toNat=43∨(34:UInt8).toNat=45) by decide,fM] at h;unfold Lib.parseMag Lib.parseUint10 at h;rw[aD (by simp),aD (by decide)] at h;cases h)
   rw[hno,X6];have hq:pT (34::l)=(⟨2,0,(jK (34::l) 0).1⟩,(jK (34::l) 0).2):=by unfold pT;rw[aF (show(34::l).head?=some 34 from rfl)]
   have hqs:jK (34::l) 0=BT (34::l).length 0 (rq l):=by unfold jK;rw[aF (show(34::l)[0]?=some 34 from rfl)];rfl
   unfold iC;rw[hq,hqs];cases hr:rq l with
   |none=>
    rw[aD (by simp[BT])];cases ht:rt l with
    |none=>rfl
    |some p=>
     obtain⟨t,r⟩:=p;cases r with
     |cons a r=>rfl
     |nil=>
      show none=if _ then _ else _;rw[aD (fun h=>by
       have h2:=h.2;unfold oX at h2;have h3:t.flatMap mL++[34]=l:=(List.cons.inj h2).2;rw[<-h3,a0y] at hr;cases hr)]
   |some p=>
    obtain⟨t,r⟩:=p;have hf:=xP l.length (rL _) hr;have ht:rt l=some (t,r):=by rw[hf];exact a0w t r
    rw[ht];have hrl:r.length<l.length:=F9 l.length (rL _) hr;cases r with
    |nil=>
     show(if _ then some (Val.mk 2 0 t) else none)=if _ then some (Val.mk 2 0 t) else none;have e1:oX t=34::l:=by rw[hf];rfl
     by_cases hk:(Val.mk 2 0 t).ok=true
     ·rw[aF ⟨by simp,by simp[BT],hk⟩,aF ⟨hk,e1⟩]
     ·rw[aD (fun h=>hk h.2.2),aD (fun h=>hk h.1)]
    |cons a r=>
     show(if _ then some (Val.mk 2 0 t) else none)=none;rw[aD (fun h=>by
      have:=h.2.1;simp[BT] at this hrl;omega)]
  ·have hh:(c::l).head?≠some 34:=by simp[h34]
   have hq:pT (c::l)=(⟨1,(jU (c::l)).1,[]⟩,(jU (c::l)).2):=by unfold pT;rw[aD hh]
   unfold iC;rw[hq];by_cases hk:(jU (c::l)).2=(c::l).length/\(Val.mk 1 (jU (c::l)).1 []).ok=true
   ·rw[aF ⟨by simp,hk⟩];have hi:=XA (w:=c::l) (by simp) hk.1;obtain⟨b0,b1,_⟩:=IK hk.2;have ha:=JH b0 b1;simp only at ha;rw[hi] at ha;rw[AH ha,aF ⟨hi,hk.2⟩]
   ·rw[aD (fun h=>hk h.2)];cases ha:Lib.atoiAll (c::l) with
    |ok n=>
     rw[AH ha,E4 hh];by_cases hc:Lib.itoa n=c::l/\(Val.mk 1 n []).ok=true
     ·exfalso;obtain⟨b0,b1,_⟩:=IK hc.2;have:=XV b0 b1;simp only at this;rw[hc.1] at this;rw[this] at hk;exact hk ⟨rfl,hc.2⟩
     ·rw[aD hc]
    |_=>rw[vA (fun v h=>by rw[ha] at h;cases h),E4 hh]
