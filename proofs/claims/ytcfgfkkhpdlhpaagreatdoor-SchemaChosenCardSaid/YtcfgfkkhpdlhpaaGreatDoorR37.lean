/-
  A part of the proof of SchemaChosen.
-/
import Derived.Test.YtcfgfkkhpdlhpaaGreatDoorR36
set_option linter.all false
set_option maxRecDepth 100000
namespace Go.Proofs.YtcfgfkkhpdlhpaaGreatDoor
theorem qT:∀t:Tree,t.nice->t.plain.length<=400*t.size
 |.pair a l r,h=>by
  have h1:=qT l h.1;have h2:=qT r h.2;have p1:=pT (decide (l.level<kX a)) l.plain;have p2:=pT (decide (r.level<kX a)) r.plain;have s:(kW a).length<=5:=by cases a<;>decide
  simp only[Tree.plain,Tree.size,aE];omega
 |.no t,h=>by
  have h1:=qT t h;have p1:=pT (decide (t.level<4)) t.plain;have s:jX.length=3:=rfl;simp only[Tree.plain,Tree.size,aE,aJ,b4];omega
 |.test op l r,h=>by
  have h1:=h.1;have h2:=h.2.1.2;have h3:=h.2.2.2;simp only[Tree.plain,Tree.size,aE,aJ,b4];omega
 |.truth b,h=>by cases b<;>decide
def s5:Option Tree->Nat
 |none=>0
 |some t=>t.size+1
def RT:Option Tree->Prop
 |none=>True
 |some t=>t.nice
theorem uO (a:Bool) (acc:Option Tree) (t:Tree):(r4 a acc t).size=s5 acc+t.size:=by
 cases acc<;>simp[r4,s5,Tree.size];omega
theorem uP (a:Bool) {acc:Option Tree} {t:Tree} (h:RT acc) (h':t.nice):(r4 a acc t).nice:=by
 cases acc with
 |none=>exact h'
 |some x=>exact⟨h,h'⟩
theorem nK (a:Bool):∀(t:Tree) (acc:Option Tree),(dV a acc t).size=s5 acc+t.size
 |.pair b l r,acc=>by
  unfold dV;split
  ·rw[nK a r,s5,nK a l];simp only[Tree.size];omega
  ·rw[uO,nK b r,s5,nK b l];simp only[Tree.size,s5];omega
 |.no t,acc=>by
  unfold dV;rw[uO];simp only[Tree.size];rw[nK true t,s5];omega
 |.test _ _ _,acc=>by unfold dV;rw[uO]
 |.truth _,acc=>by unfold dV;rw[uO]
theorem pZ (t:Tree):t.flat.size=t.size:=by
 unfold Tree.flat;rw[nK,s5];omega
theorem nL (a:Bool):∀(t:Tree) (acc:Option Tree),RT acc->t.nice->(dV a acc t).nice
 |.pair b l r,acc,h,ht=>by
  unfold dV;split
  ·exact nL a r _ (nL a l _ h ht.1) ht.2
  ·exact uP a h (nL b r _ (nL b l _ trivial ht.1) ht.2)
 |.no t,acc,h,ht=>by unfold dV;exact uP a h (nL true t _ trivial ht)
 |.test _ _ _,acc,h,ht=>by unfold dV;exact uP a h ht
 |.truth _,acc,h,ht=>by unfold dV;exact uP a h ht
theorem tS {t:Tree} (h:t.nice):t.flat.nice:=nL true t none trivial h
def Md.sz:Md->Nat
 |.orL n=>n.size
 |.andL n=>n.size
 |_=>0
theorem jL {lit:By->Option Val}:∀(f:Nat) (m:Md) (lv d:Nat) (ts r:List By) (t:Tree) (e:Nat),bP lit f m lv d ts=some (t,r,e)->t.size+r.length<=m.sz+ts.length
 |0,m,lv,d,ts,r,t,e,h=>by cases h
 |f+1,.or,lv,d,ts,r,t,e,h=>by
  unfold bP at h;split at h
  ·rename_i n r1 e1 h1;have a:=jL f _ _ _ _ _ _ _ h1;have b:=jL f _ _ _ _ _ _ _ h;simp only[Md.sz] at*;omega
  ·cases h
 |f+1,.orL n,lv,d,ts,r,t,e,h=>by
  unfold bP at h;split at h
  ·rename_i hd;obtain⟨r0,rfl⟩:=fS hd (by decide);split at h
   ·rename_i n r1 e1 h1;have a:=jL f _ _ _ _ _ _ _ h1;have b:=jL f _ _ _ _ _ _ _ h;simp only[Md.sz,Tree.size,gS,aJ] at*;omega
   ·cases h
  ·cases h;exact rL _
 |f+1,.and,lv,d,ts,r,t,e,h=>by
  unfold bP at h;split at h
  ·rename_i n r1 e1 h1;have a:=jL f _ _ _ _ _ _ _ h1;have b:=jL f _ _ _ _ _ _ _ h;simp only[Md.sz] at*;omega
  ·cases h
 |f+1,.andL n,lv,d,ts,r,t,e,h=>by
  unfold bP at h;split at h
  ·rename_i hd;obtain⟨r0,rfl⟩:=fS hd (by decide);split at h
   ·rename_i n r1 e1 h1;have a:=jL f _ _ _ _ _ _ _ h1;have b:=jL f _ _ _ _ _ _ _ h;simp only[Md.sz,Tree.size,gS,aJ] at*;omega
   ·cases h
  ·cases h;exact rL _
 |f+1,.not,lv,d,ts,r,t,e,h=>by
  unfold bP at h;split at h
  ·rename_i hd;obtain⟨r0,rfl⟩:=fS hd (by decide);split at h
   ·rename_i n r1 e1 h1;cases h;have a:=jL f _ _ _ _ _ _ _ h1;simp only[Md.sz,Tree.size,gS,aJ] at*;omega
   ·cases h
  ·have a:=jL f _ _ _ _ _ _ _ h;simp only[Md.sz] at*;omega
 |f+1,.prim,lv,d,ts,r,t,e,h=>by
  unfold bP at h;split at h
  ·rename_i hd;obtain⟨r0,rfl⟩:=fS hd (by decide);cases h;simp only[Md.sz,Tree.size,gS,aJ];omega
  ·split at h
   ·rename_i hd;obtain⟨r0,rfl⟩:=fS hd (by decide);cases h;simp only[Md.sz,Tree.size,gS,aJ];omega
   ·split at h
    ·rename_i hd;obtain⟨r0,rfl⟩:=fS hd (by decide);split at h
     ·rename_i n r1 e1 h1;have a:=jL f _ _ _ _ _ _ _ h1;split at h
      ·rename_i hr;obtain⟨r2,rfl⟩:=fS hr (by decide);cases h;simp only[Md.sz,gS,aJ] at*;omega
      ·cases h
     ·cases h
    ·split at h
     ·rename_i a r1 h1;have l1:=pR h1;split at h
      ·split at h
       ·rename_i b r2 h2;have l2:=pR h2;cases h;simp only[Md.sz,Tree.size,List.length_tail] at*;omega
       ·cases h
      ·cases h
     ·cases h
theorem F9 {w:By} {v:Val} (h:cI w=some v):v.ok=true:=by
 have q:∀{v},jK w=some v->v.ok=true:=fun{v} h=>by
  unfold jK at h;split at h
  ·rename_i v' hp;split at h
   ·cases h;unfold eU at hp;split at hp
    ·cases hp
    ·split at hp
     ·split at hp
      ·rename_i vs _ hc;cases hp;simp only[aH] at hc;have:=hc.1;rw[B5] at this;exact this
      ·cases hp
     ·cases hp
   ·cases h
  ·cases h
 unfold cI at h;split at h
 ·split at h
  ·rename_i hc;cases h;exact hc.2
  ·exact q h
 ·exact q h
theorem C5 {v:Val} (h:v.ok=true):(eW v).length<=170:=by
 have:=HU h;unfold eW;split
 ·have:=Lib.itoa_length_le v.n (by omega) (by omega);omega
 ·have:=AB v.s;simp only[oL,aJ,aE,b4];omega
theorem yA:∀{ts r:List By} {t:Term},fV cI ts=some (t,r)->t.name.length<=16/\t.txt.length<=180
 |[],r,t,h=>by cases h
 |w::ts,r,t,h=>by
  unfold fV at h;split at h
  ·split at h
   ·rename_i t' r' h1;have ih:=yA h1;split at h
    ·cases h
    ·cases h;refine⟨ih.1,?_⟩;show(58::t'.name).length<=180;simp;omega
   ·cases h
  ·split at h
   ·rename_i hn;cases h;simp only[aH] at hn;have hl:w.length<=16:=by
     have:=hn.1;unfold fP at this;split at this
     ·simp
     ·simp only[aH,aK] at this;exact this.1.1
    refine⟨hl,?_⟩;show(if w≠[] then w else OQ v0).length<=180;split
    ·omega
    ·decide
   ·split at h
    ·rename_i v hv;cases h;refine⟨zL _,?_⟩;show(OQ v).length<=180;unfold OQ;rw[F9 hv,aG rfl];have:=C5 (F9 hv);omega
    ·cases h
def Md.nice:Md->Prop
 |.orL n=>n.nice
 |.andL n=>n.nice
 |_=>True
theorem B6 {w:By} (h:mL w=true):w.length<=2:=by
 simp only[mL,SG,List.contains_eq_mem,aK,List.mem_cons,List.not_mem_nil,or_false] at h;rcases h with rfl|rfl|rfl|rfl|rfl|rfl<;>decide
theorem jW:∀(f:Nat) (m:Md) (lv d:Nat) (ts r:List By) (t:Tree) (e:Nat),bP cI f m lv d ts=some (t,r,e)->m.nice->t.nice
 |0,m,lv,d,ts,r,t,e,h,_=>by cases h
 |f+1,.or,lv,d,ts,r,t,e,h,_=>by
  unfold bP at h;split at h
  ·rename_i n r1 e1 h1;exact jW f _ _ _ _ _ _ _ h (jW f _ _ _ _ _ _ _ h1 trivial)
  ·cases h
 |f+1,.orL n,lv,d,ts,r,t,e,h,hn=>by
  unfold bP at h;split at h
  ·split at h
   ·rename_i n r1 e1 h1;exact jW f _ _ _ _ _ _ _ h ⟨hn,jW f _ _ _ _ _ _ _ h1 trivial⟩
   ·cases h
  ·cases h;exact hn
 |f+1,.and,lv,d,ts,r,t,e,h,_=>by
  unfold bP at h;split at h
  ·rename_i n r1 e1 h1;exact jW f _ _ _ _ _ _ _ h (jW f _ _ _ _ _ _ _ h1 trivial)
  ·cases h
 |f+1,.andL n,lv,d,ts,r,t,e,h,hn=>by
  unfold bP at h;split at h
  ·split at h
   ·rename_i n r1 e1 h1;exact jW f _ _ _ _ _ _ _ h ⟨hn,jW f _ _ _ _ _ _ _ h1 trivial⟩
   ·cases h
  ·cases h;exact hn
 |f+1,.not,lv,d,ts,r,t,e,h,_=>by
  unfold bP at h;split at h
  ·split at h
   ·rename_i n r1 e1 h1;cases h;show n.nice;exact jW f .prim _ _ _ _ _ _ h1 trivial
   ·cases h
  ·exact jW f .prim _ _ _ _ _ _ h trivial
 |f+1,.prim,lv,d,ts,r,t,e,h,_=>by
  unfold bP at h;split at h
  ·cases h;trivial
  ·split at h
   ·cases h;trivial
   ·split at h
    ·split at h
     ·rename_i n r1 e1 h1;split at h
      ·cases h;exact jW f .or _ _ _ _ _ _ h1 trivial
      ·cases h
     ·cases h
    ·split at h
     ·rename_i a r1 h1;split at h
      ·rename_i hrel;split at h
       ·rename_i b r2 h2;cases h;exact⟨B6 hrel,yA h1,yA h2⟩
       ·cases h
      ·cases h
     ·cases h
open Go.RowKit
theorem SV:∀a:Fin 256,∀x:Fin 16,qW (UInt8.ofNat a)=some x.val->dR x=UInt8.ofNat a:=by decide+kernel
theorem M2 {a:UInt8} {x:Nat} (h:qW a=some x):dR x=a:=by
 have hx:=zU h;have ha:UInt8.ofNat a.toNat=a:=UInt8.ofNat_toNat;have:=SV ⟨a.toNat,bW a⟩ ⟨x,hx⟩ (by show qW (UInt8.ofNat a.toNat)=some x;rw[ha];exact h);exact this.trans ha
theorem T4:∀k:Fin 16,qW (dR k)=some k.val/\sF (dR k)=some k.val/\dR k≠34/\dR k≠92:=by decide+kernel
theorem tK {k:Nat} (h:k<16):qW (dR k)=some k/\sF (dR k)=some k/\dR k≠34/\dR k≠92:=T4 ⟨k,h⟩
theorem R6 {c:UInt8} (h:c=34∨c=92):mC c=[92,c]:=by unfold mC;rw[aG h]
theorem R7 {c:UInt8} (h:c.toNat<32∨126<c.toNat):mC c=[92,120,dR (c.toNat / 16),dR (c.toNat%16)]:=by
 unfold mC;rw[aD (fun e=>by rcases e with rfl|rfl<;>revert h<;>decide),aG h]
theorem R8 {c:UInt8} (h:c≠34) (h':c≠92) (hb:¬(c.toNat<32∨126<c.toNat)):mC c=[c]:=by
 unfold mC;rw[aD (fun e=>e.elim h h'),aD hb]
theorem nY {m:Nat} (h:m<256):(UInt8.ofNat m).toNat=m:=by
 rw[UInt8.toNat_ofNat'];exact Nat.mod_eq_of_lt h
theorem ZD {a b:UInt8} {x y:Nat} (ha:qW a=some x) (hb:qW b=some y) (h:¬(32<=16*x+y/\16*x+y<=126)):mC (UInt8.ofNat (16*x+y))=[92,120,a,b]:=by
 have hx:=zU ha;have hy:=zU hb;have hm:(UInt8.ofNat (16*x+y)).toNat=16*x+y:=nY (by omega);rw[R7 (by rw[hm];omega),hm,show(16*x+y) / 16=x by omega,show(16*x+y)%16=y by omega,M2 ha,M2 hb]
theorem x5:∀(n:Nat) {l t r:List UInt8},l.length<=n->rq l=some (t,r)->l=t.flatMap mC++34::r
 |0,l,t,r,h,e=>by
  cases l with
  |nil=>cases e
  |cons _ _=>simp at h
 |n+1,[],t,r,h,e=>by cases e
 |n+1,c::l,t,r,h,e=>by
  have hl:l.length<=n:=by simp at h;omega
  by_cases h34:c=34
  ·rw[h34,QA] at e;cases e;rw[h34];rfl
  ·by_cases hb:c.toNat<32∨126<c.toNat
   ·rw[J2 h34 hb] at e;cases e
   ·by_cases h92:c=92
    ·subst h92;by_cases hx:∃a b l2,l=120::a::b::l2
     ·obtain⟨a,b,l2,rfl⟩:=hx;rw[YD] at e;split at e
      ·rename_i x hnx;split at e
       ·rename_i y hny;split at e
        ·cases e
        ·rename_i hr;cases hq:rq l2 with
         |none=>rw[hq] at e;cases e
         |some p=>
          rw[hq] at e;cases e;have:=x5 n (l:=l2) (t:=p.1) (r:=p.2) (by simp at hl;omega) hq;rw[f9,ZD hnx hny hr,bF,<-this];rfl
       ·cases e
      ·cases e
     ·by_cases he:∃c' l1,l=c'::l1/\(c'=34∨c'=92)
      ·obtain⟨c',l1,rfl,hc'⟩:=he;rw[ER hc'] at e;cases hq:rq l1 with
       |none=>rw[hq] at e;cases e
       |some p=>
        rw[hq] at e;cases e;have:=x5 n (l:=l1) (t:=p.1) (r:=p.2) (by simp at hl;omega) hq;rw[f9,R6 hc',bF,<-this];rfl
      ·rw[zF (fun e0 r1 h1=>⟨fun h=>he ⟨e0,r1,h1,h⟩,fun h a b r2 h2=>hx ⟨a,b,r2,by rw[h1,h,h2]⟩⟩)] at e;cases e
    ·rw[YE h34 hb h92] at e;cases hq:rq l with
     |none=>rw[hq] at e;cases e
     |some p=>
      rw[hq] at e;cases e;have:=x5 n (l:=l) (t:=p.1) (r:=p.2) hl hq;rw[f9,R8 h34 h92 hb,bF,<-this];rfl
theorem a0B (t r:List UInt8):rq (t.flatMap mC++34::r)=some (t,r):=by
 induction t with
 |nil=>exact QA r
 |cons c t ih=>
  rw[f9,bF];by_cases h:c=34∨c=92
  ·rw[R6 h];show rq (92::c::(t.flatMap mC++34::r))=_;rw[ER h,ih];rfl
  ·by_cases hb:c.toNat<32∨126<c.toNat
   ·rw[R7 hb];show rq (92::120::dR (c.toNat / 16)::dR (c.toNat%16)::(t.flatMap mC++34::r))=_;have hlt:=bW c;rw[YD,(tK (k:=c.toNat / 16) (by omega)).1,(tK (k:=c.toNat%16) (by omega)).1];show(if 32<=16*(c.toNat / 16)+c.toNat%16/\16*(c.toNat / 16)+c.toNat%16<=126 then none else(rq (t.flatMap mC++34::r)).map fun p=>(UInt8.ofNat (16*(c.toNat / 16)+c.toNat%16)::p.1,p.2))=_;rw[aD (by omega),ih,show 16*(c.toNat / 16)+c.toNat%16=c.toNat by omega,UInt8.ofNat_toNat];rfl
   ·rw[R8 (fun e=>h (.inl e)) (fun e=>h (.inr e)) hb];show rq (c::(t.flatMap mC++34::r))=_;rw[YE (fun e=>h (.inl e)) hb (fun e=>h (.inr e)),ih];rfl
theorem a09 (t r:List UInt8):rt (t.flatMap mC++34::r)=some (t,r):=by
 induction t with
 |nil=>exact V3 r
 |cons c t ih=>
  rw[f9,bF];by_cases h:c=34∨c=92
  ·rw[R6 h];show rt (92::c::(t.flatMap mC++34::r))=_;rw[V2 (by rcases h with rfl|rfl<;>decide),ih];rfl
  ·by_cases hb:c.toNat<32∨126<c.toNat
   ·rw[R7 hb];show rt (92::120::dR (c.toNat / 16)::dR (c.toNat%16)::(t.flatMap mC++34::r))=_;have hlt:=bW c;have h2:A4 (dR (c.toNat / 16)) (dR (c.toNat%16))=some c.toNat:=by
     unfold A4;rw[(tK (k:=c.toNat / 16) (by omega)).2.1,(tK (k:=c.toNat%16) (by omega)).2.1];show some (16*(c.toNat / 16)+c.toNat%16)=_;congr 1;omega
    rw[a0j,h2];show((rt (t.flatMap mC++34::r)).map fun p=>(UInt8.ofNat c.toNat::p.1,p.2))=_;rw[ih,UInt8.ofNat_toNat];rfl
   ·rw[R8 (fun e=>h (.inl e)) (fun e=>h (.inr e)) hb];show rt (c::(t.flatMap mC++34::r))=_;rw[a0k (fun e=>h (.inl e)) (fun e=>h (.inr e)),ih];rfl
theorem QF (t r:List UInt8):mG (t.flatMap mC++34::r)=(t.flatMap mC).length:=by
 induction t with
 |nil=>exact J8 r
 |cons c t ih=>
  rw[f9,bF,aE];by_cases h:c=34∨c=92
  ·rw[R6 h];show mG (92::c::(t.flatMap mC++34::r))=_;rw[DO,ih];rfl
  ·by_cases hb:c.toNat<32∨126<c.toNat
   ·rw[R7 hb];show mG (92::120::dR (c.toNat / 16)::dR (c.toNat%16)::(t.flatMap mC++34::r))=_;have hlt:=bW c;have h1:=tK (k:=c.toNat / 16) (by omega);have h2:=tK (k:=c.toNat%16) (by omega);rw[DO,EZ h1.2.2.1 h1.2.2.2,EZ h2.2.2.1 h2.2.2.2,ih];simp only[aJ,b4];omega
   ·rw[R8 (fun e=>h (.inl e)) (fun e=>h (.inr e)) hb];show mG (c::(t.flatMap mC++34::r))=_;rw[EZ (fun e=>h (.inl e)) (fun e=>h (.inr e)),ih];rfl
theorem sK:∀(v:List UInt8) (a:Nat),a<=v.foldl (fun a c=>10*a+(c.toNat - 48)) a
 |[],a=>rL _
 |c::v,a=>fZ (by omega) (sK v (10*a+(c.toNat - 48)))
theorem jZ (c:UInt8):cL c=true↔48<=c.toNat/\c.toNat<=57:=by simp[cL]
theorem PL:∀(k:Nat) (w:List UInt8),w.length=k+1->(∀c∈w,cL c=true)->(1<w.length->w.head?≠some 48)->Lib.decDigits (j4 w)=w
 |0,w,hl,hd,_=>by
  obtain⟨c,rfl⟩:=List.length_eq_one_iff.1 hl;have:=(jZ c).1 (hd c (by simp));rw[Lib.decDigits,dif_pos (by simp[j4];omega)];congr 1;apply UInt8.toNat_inj.1;rw[nY (by simp[j4];omega)];simp[j4];omega
 |k+1,w,hl,hd,h0=>by
  obtain⟨v,c,rfl⟩:∃v c,w=v++[c]:=⟨w.dropLast,w.getLast (by intro e;simp[e] at hl),(List.dropLast_concat_getLast _).symm⟩;simp at hl;have hc:=(jZ c).1 (hd c (by simp));have hpos:1<=j4 v:=by
   cases v with
   |nil=>simp at hl
   |cons a v=>
    have ha:=(jZ a).1 (hd a (by simp));have h1:=h0 (by simp);have hne:a.toNat≠48:=fun e=>h1 (by simp;exact UInt8.toNat_inj.1 e);have:=sK v (10*0+(a.toNat - 48));show 1<=List.foldl _ _ _;rw[gX];omega
  have ih:=PL k v hl (fun x hx=>hd x (by simp[hx])) (fun h1=>by
   have:=h0 (by simp;omega);cases v with
   |nil=>simp at h1
   |cons a v=>exact this)
  rw[tU,Lib.decDigits,dif_neg (by omega),show(10*j4 v+(c.toNat - 48)) / 10=j4 v by omega,ih];congr 2;apply UInt8.toNat_inj.1;rw[nY (by omega)];omega
theorem rD (u:Nat):(∀c∈Lib.decDigits u,cL c=true)/\j4 (Lib.decDigits u)=u/\Lib.decDigits u≠[]/\(1<(Lib.decDigits u).length->(Lib.decDigits u).head?≠some 48)/\(1<=u->(Lib.decDigits u).head?≠some 48):=by
 induction u using Nat.strongRecOn with
 |_ u ih=>
  rw[Lib.decDigits];by_cases h:u<10
  ·rw[dif_pos h];refine⟨fun c hc=>?_,?_,by simp,fun h1=>by simp at h1,fun h1=>?_⟩
   ·rw[List.mem_singleton.1 hc,jZ,nY (by omega)];omega
   ·show 10*0+((UInt8.ofNat (48+u)).toNat - 48)=u;rw[nY (by omega)];omega
   ·intro e;have e:=aY e;have:=aQ UInt8.toNat e;rw[nY (by omega)] at this;replace this:48+u=(48:UInt8).toNat:=this;rw[show(48:UInt8).toNat=48 from rfl] at this;omega
  ·rw[dif_neg h];obtain⟨i1,i2,i3,i4,i5⟩:=ih (u / 10) (by omega);have hh:(Lib.decDigits (u / 10)++[UInt8.ofNat (48+u%10)]).head?=(Lib.decDigits (u / 10)).head?:=by
    cases hd:Lib.decDigits (u / 10) with
    |nil=>exact absurd hd i3
    |cons a v=>rfl
   refine⟨fun c hc=>?_,?_,by simp,fun _=>by rw[hh];exact i5 (by omega),fun _=>by rw[hh];exact i5 (by omega)⟩
   ·rcases List.mem_append.1 hc with hc|hc
    ·exact i1 c hc
    ·rw[List.mem_singleton.1 hc,jZ,nY (by omega)];omega
   ·rw[tU,i2,nY (by omega)];omega
theorem QN:∀(k u:Nat),u<10^(k+1)->Lib.nDigits u<=k+1
 |0,u,h=>by rw[Lib.nDigits_small (by simpa using h)];omega
 |k+1,u,h=>by
  by_cases h10:u<10
  ·rw[Lib.nDigits_small h10];omega
  ·rw[Lib.nDigits_big h10];have:=QN k (u / 10) (by rw[Nat.pow_succ] at h;omega);omega
theorem a0U {p:UInt8->Bool} {l:List UInt8} (h:∀c∈l,p c=true):l.takeWhile p=l:=by
 induction l with
 |nil=>rfl
 |cons c l ih=>rw[eV,aG (h c (by simp)),ih (fun d hd=>h d (by simp[hd]))]
theorem N7 {l:List UInt8} (h:∀c∈l,cL c=true) (hl:l.length<=16):e8 l=l.length:=by
 unfold e8;rw[a0U h];omega
theorem IM {l:List UInt8} (h:e8 l=l.length):∀c∈l,cL c=true:=by
 have h1:=KK (l:=l) (j:=l.length) (by omega);rwa [b5] at h1
theorem OL {l:List UInt8} (h45:l.head?≠some 45):jP l=if e8 l=0∨(1<e8 l/\l.head?=some 48)∨17<=e8 l then(0,0) else((j4 (l.take (e8 l)):Int),e8 l):=by
 unfold jP;simp only[h45,decide_false,bT,fM,false_and,false_or,bH]
theorem OM {l:List UInt8}:jP (45::l)=if e8 l=0∨(1<e8 l/\l.head?=some 48)∨j4 (l.take (e8 l))=0∨17<=e8 l then(0,0) else(-(j4 (l.take (e8 l)):Int),1+e8 l):=by
 unfold jP;simp only[List.head?_cons,decide_true,fK,gS,true_and]
theorem VU {w:List UInt8} (hne:w≠[]) (h:(jP w).2=w.length):Lib.itoa (jP w).1=w:=by
 by_cases h45:w.head?=some 45
 ·obtain⟨l,rfl⟩:∃l,w=45::l:=by
   cases w with
   |nil=>cases h45
   |cons c l=>simp at h45;exact⟨l,by rw[h45]⟩
  rw[OM] at h⊢;split at h
  ·simp at h
  ·rename_i hc;rw[aD hc];have hl:e8 l=l.length:=by simp at h;omega
   rw[hl,b5] at hc⊢;have hd:=IM hl;show Lib.itoa (-(j4 l:Int))=_;unfold Lib.itoa;rw[aG (by omega),show(-(j4 l:Int)).natAbs=j4 l by omega,PL (l.length - 1) l (by omega) hd (fun h1 e=>hc (.inr (.inl ⟨h1,e⟩)))]
 ·rw[OL h45] at h⊢;split at h
  ·have:w.length=0:=h.symm;exact absurd (aN this) hne
  ·rename_i hc;rw[aD hc];have hl:e8 w=w.length:=h;rw[hl] at hc⊢;rw[b5];have hd:=IM hl;show Lib.itoa (j4 w:Int)=_;unfold Lib.itoa;rw[aD (by omega),show((j4 w:Nat):Int).toNat=j4 w by omega,PL (w.length - 1) w (by omega) hd (fun h1 e=>hc (.inr (.inl ⟨h1,e⟩)))]
theorem IN {u:Nat} (h:u<=1000000000):(Lib.decDigits u).length<=16:=by
 rw[Lib.decDigits_length];have:=QN 9 u (by omega);omega
theorem WZ (u:Nat):(Lib.decDigits u).head?≠some 45:=by
 obtain⟨h1,_,h3,_⟩:=rD u;intro e;cases hd:Lib.decDigits u with
 |nil=>exact h3 hd
 |cons a v=>
  rw[hd] at e h1;simp at e;have:=h1 a (by simp);rw[e] at this;revert this;decide
theorem WF {n:Int} (h0: -1000000000<=n) (h1:n<=1000000000):jP (Lib.itoa n)=(n,(Lib.itoa n).length):=by
 unfold Lib.itoa;by_cases hn:n<0
 ·rw[aG hn,OM];obtain⟨d1,d2,d3,d4,d5⟩:=rD n.natAbs;have hl:=IN (u:=n.natAbs) (by omega);have hp:(Lib.decDigits n.natAbs).length≠0:=fun e=>d3 (aN e);rw[N7 d1 hl,b5,d2,aD (by
   rintro(h|⟨h,h'⟩|h|h)
   ·exact hp h
   ·exact d4 h h'
   ·omega
   ·omega)]
  simp only[aJ];congr 1
  ·omega
  ·omega
 ·rw[aD hn,OL (WZ _)];obtain⟨d1,d2,d3,d4,d5⟩:=rD n.toNat;have hl:=IN (u:=n.toNat) (by omega);have hp:(Lib.decDigits n.toNat).length≠0:=fun e=>d3 (aN e);rw[N7 d1 hl,b5,d2,aD (by
   rintro(h|⟨h,h'⟩|h)
   ·exact hp h
   ·exact d4 h h'
   ·omega)]
  congr 1;omega
theorem LY:∀(l:List UInt8) (acc:Nat),(∀c∈l,cL c=true)->l.foldl (fun a c=>10*a+(c.toNat - 48)) acc<1000000000000000000->Lib.parseUint10 acc l=.ok (l.foldl (fun a c=>10*a+(c.toNat - 48)) acc)
 |[],acc,_,_=>rfl
 |c::r,acc,hd,hb=>by
  have hc:=(jZ c).1 (hd c (by simp));rw[gX] at hb⊢;have hle:=sK r (10*acc+(c.toNat - 48));unfold Lib.parseUint10;rw[aG hc,aD (by omega),aD (by omega),show acc*10+(c.toNat - 48)=10*acc+(c.toNat - 48) by omega];exact LY r _ (fun x hx=>hd x (by simp[hx])) hb
theorem W2 {u:Nat} (h:u<1000000000000000000):Lib.parseMag (Lib.decDigits u)=.ok u:=by
 obtain⟨d1,d2,d3,_⟩:=rD u;unfold Lib.parseMag;rw[aD d3,LY _ 0 d1 (by show j4 _<_;rw[d2];exact h)];show Lib.NumEnd.ok (j4 _)=_;rw[d2]
theorem IR {n:Int} (h0: -1000000000<=n) (h1:n<=1000000000):Lib.atoiAll (Lib.itoa n)=.ok n:=by
 unfold Lib.itoa;by_cases hn:n<0
 ·rw[aG hn];unfold Lib.atoiAll;simp only[show((45:UInt8).toNat=43∨(45:UInt8).toNat=45) from .inr rfl,fK];rw[W2 (by omega)];simp only[show(45:UInt8).toNat=45 from rfl,not_true,false_and,fM,true_and,fK];rw[aD (by omega)];congr 1;omega
 ·rw[aD hn];obtain⟨d1,d2,d3,_⟩:=rD n.toNat;have hm:=W2 (u:=n.toNat) (by omega);cases hd:Lib.decDigits n.toNat with
  |nil=>exact absurd hd d3
  |cons c r=>
   rw[hd] at d1 hm;have hc:=(jZ c).1 (d1 c (by simp));unfold Lib.atoiAll;simp only[show¬c.toNat=43 by omega,show¬c.toNat=45 by omega,or_self,fM];rw[hm];simp only[not_false_eq_true,true_and,false_and,fM];rw[aD (by omega)];congr 1;omega
def iA (w:By):Option Val:=if w≠[]/\(pH w).2=w.length/\(pH w).1.ok=true then some (pH w).1 else none
theorem a1n:∀(f:Nat) {l:List UInt8} {vs:List Val},rr f l=some vs->vs≠[]
 |0,l,vs,h=>by cases h
 |f+1,l,vs,h=>by
  unfold rr at h;split at h
  ·cases h
  ·split at h
   ·cases h;simp
   ·split at h
    ·rw[aI] at h;obtain⟨a,_,rfl⟩:=h;simp
    ·cases h
theorem a2Y (l:List UInt8):rv (34::l)=(rt l).map fun p=>(⟨2,0,p.1⟩,p.2):=by
 unfold rv;rw[aG (show(34::l).head?=some 34 from rfl)];rfl
theorem LF (v:Val):j7 [v]=eW v:=by
 unfold j7;simp[Lib.join]
theorem DN {w:By} (h:w.head?≠some 34):jK w=none:=by
 unfold jK;split
 ·rw[aD h]
 ·rfl
theorem VP (l:List UInt8):jK (34::l)=match rt l with
  |some (t,[])=>if(Val.mk 2 0 t).ok=true/\oL t=34::l then some ⟨2,0,t⟩ else none
  |_=>none:=by
 have hr:rr ((34::l).length+1) (34::l)=match rt l with
  |none=>none
  |some (t,r)=>if r=[] then some [⟨2,0,t⟩] else if r.head?=some 44 then(rr (34::l).length r.tail).map (⟨2,0,t⟩:: ·) else none:=by
  conv=>lhs;unfold rr
  rw[a2Y];cases rt l with
  |none=>rfl
  |some p=>rfl
 unfold jK eU;rw[aD (by simp),hr];simp only[List.head?_cons,fK];cases rt l with
 |none=>rfl
 |some p=>
  obtain⟨t,r⟩:=p;cases r with
  |nil=>
   simp only[fK];rw[B5,LF,show eW (Val.mk 2 0 t)=oL t from rfl];by_cases hc:(Val.mk 2 0 t).ok=true/\oL t=34::l
   ·rw[aG hc,aG (by simp[hc])]
   ·rw[aD hc,aD (by simpa using hc)]
  |cons a r=>
   simp only[reduceCtorEq,fM];cases hx:(if(a::r).head?=some 44 then(rr (34::l).length (a::r).tail).map (Val.mk 2 0 t:: ·) else none) with
   |none=>rfl
   |some vs=>
    split at hx
    ·rw[aI] at hx;obtain⟨vs',h1,rfl⟩:=hx;have:=a1n _ h1;cases vs' with
     |nil=>exact absurd rfl this
     |cons b vs'=>
      simp only;split
      ·rename_i h2;split at h2<;>cases h2
      ·rfl
    ·cases hx
theorem DT (w:By):iA w=cI w:=by
 cases w with
 |nil=>rw[uM (fun v h=>by cases h),DN (by simp)];rfl
 |cons c l=>
  by_cases h34:c=34
  ·subst h34;have hno:cI (34::l)=jK (34::l):=uM (fun v h=>by
    unfold Lib.atoiAll at h;simp only[show¬((34:UInt8).toNat=43∨(34:UInt8).toNat=45) by decide,fM] at h;unfold Lib.parseMag Lib.parseUint10 at h;rw[aD (by simp),aD (by decide)] at h;cases h)
   rw[hno,VP];have hq:pH (34::l)=(⟨2,0,(j8 (34::l) 0).1⟩,(j8 (34::l) 0).2):=by unfold pH;rw[aG (show(34::l).head?=some 34 from rfl)]
   have hqs:j8 (34::l) 0=BC (34::l).length 0 (rq l):=by unfold j8;rw[aG (show(34::l)[0]?=some 34 from rfl)];rfl
   unfold iA;rw[hq,hqs];cases hr:rq l with
   |none=>
    rw[aD (by simp[BC])];cases ht:rt l with
    |none=>rfl
    |some p=>
     obtain⟨t,r⟩:=p;cases r with
     |cons a r=>rfl
     |nil=>
      show none=if _ then _ else _;rw[aD (fun h=>by
       have h2:=h.2;unfold oL at h2;have h3:t.flatMap mC++[34]=l:=(List.cons.inj h2).2;rw[<-h3,a0B] at hr;cases hr)]
   |some p=>
    obtain⟨t,r⟩:=p;have hf:=x5 l.length (rL _) hr;have ht:rt l=some (t,r):=by rw[hf];exact a09 t r
    rw[ht];have hrl:r.length<l.length:=EQ l.length (rL _) hr;cases r with
    |nil=>
     show(if _ then some (Val.mk 2 0 t) else none)=if _ then some (Val.mk 2 0 t) else none;have e1:oL t=34::l:=by rw[hf];rfl
     by_cases hk:(Val.mk 2 0 t).ok=true
     ·rw[aG ⟨by simp,by simp[BC],hk⟩,aG ⟨hk,e1⟩]
     ·rw[aD (fun h=>hk h.2.2),aD (fun h=>hk h.1)]
    |cons a r=>
     show(if _ then some (Val.mk 2 0 t) else none)=none;rw[aD (fun h=>by
      have:=h.2.1;simp[BC] at this hrl;omega)]
  ·have hh:(c::l).head?≠some 34:=by simp[h34]
   have hq:pH (c::l)=(⟨1,(jP (c::l)).1,[]⟩,(jP (c::l)).2):=by unfold pH;rw[aD hh]
   unfold iA;rw[hq];by_cases hk:(jP (c::l)).2=(c::l).length/\(Val.mk 1 (jP (c::l)).1 []).ok=true
   ·rw[aG ⟨by simp,hk⟩];have hi:=VU (w:=c::l) (by simp) hk.1;obtain⟨b0,b1,_⟩:=HU hk.2;have ha:=IR b0 b1;simp only at ha;rw[hi] at ha;rw[zW ha,aG ⟨hi,hk.2⟩]
   ·rw[aD (fun h=>hk h.2)];cases ha:Lib.atoiAll (c::l) with
    |ok n=>
     rw[zW ha,DN hh];by_cases hc:Lib.itoa n=c::l/\(Val.mk 1 n []).ok=true
     ·exfalso;obtain⟨b0,b1,_⟩:=HU hc.2;have:=WF b0 b1;simp only at this;rw[hc.1] at this;rw[this] at hk;exact hk ⟨rfl,hc.2⟩
     ·rw[aD hc]
    |_=>rw[uM (fun v h=>by rw[ha] at h;cases h),DN hh]
