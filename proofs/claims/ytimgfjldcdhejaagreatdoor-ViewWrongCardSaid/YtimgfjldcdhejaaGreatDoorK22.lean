/- Part of ViewWrong. -/
import Derived.Test.YtimgfjldcdhejaaGreatDoorK21
set_option linter.all false
set_option maxRecDepth 100000
namespace Go.Proofs.YtimgfjldcdhejaaGreatDoor
theorem tZ:∀t:Tree,t.nice->t.plain.length<=400*t.size
 |.pair a l r,h=>by
  have h1:=tZ l h.1;have h2:=tZ r h.2;have p1:=t6 (decide (l.level<lL a)) l.plain;have p2:=t6 (decide (r.level<lL a)) r.plain;have s:(pQ a).length<=5:=by cases a<;>decide
  simp only[Tree.plain,Tree.size,aG];omega
 |.no t,h=>by
  have h1:=tZ t h;have p1:=t6 (decide (t.level<4)) t.plain;have s:kX.length=3:=rfl;simp only[Tree.plain,Tree.size,aG,aI,bO];omega
 |.test op l r,h=>by
  have h1:=h.1;have h2:=h.2.1.2;have h3:=h.2.2.2;simp only[Tree.plain,Tree.size,aG,aI,bO];omega
 |.truth b,h=>by cases b<;>decide
def vI:Option Tree->Nat
 |none=>0
 |some t=>t.size+1
def YH:Option Tree->Prop
 |none=>True
 |some t=>t.nice
theorem y9 (a:Bool) (acc:Option Tree) (t:Tree):(pW a acc t).size=vI acc+t.size:=by
 cases acc<;>simp[pW,vI,Tree.size];omega
theorem yA (a:Bool) {acc:Option Tree} {t:Tree} (h:YH acc) (h':t.nice):(pW a acc t).nice:=by
 cases acc with
 |none=>exact h'
 |some x=>exact⟨h,h'⟩
theorem qX (a:Bool):∀(t:Tree) (acc:Option Tree),(dA a acc t).size=vI acc+t.size
 |.pair b l r,acc=>by
  unfold dA;split
  ·rw[qX a r,vI,qX a l];simp only[Tree.size];omega
  ·rw[y9,qX b r,vI,qX b l];simp only[Tree.size,vI];omega
 |.no t,acc=>by
  unfold dA;rw[y9];simp only[Tree.size];rw[qX true t,vI];omega
 |.test _ _ _,acc=>by unfold dA;rw[y9]
 |.truth _,acc=>by unfold dA;rw[y9]
theorem tI (t:Tree):t.flat.size=t.size:=by
 unfold Tree.flat;rw[qX,vI];omega
theorem qY (a:Bool):∀(t:Tree) (acc:Option Tree),YH acc->t.nice->(dA a acc t).nice
 |.pair b l r,acc,h,ht=>by
  unfold dA;split
  ·exact qY a r _ (qY a l _ h ht.1) ht.2
  ·exact yA a h (qY b r _ (qY b l _ trivial ht.1) ht.2)
 |.no t,acc,h,ht=>by unfold dA;exact yA a h (qY true t _ trivial ht)
 |.test _ _ _,acc,h,ht=>by unfold dA;exact yA a h ht
 |.truth _,acc,h,ht=>by unfold dA;exact yA a h ht
theorem xC {t:Tree} (h:t.nice):t.flat.nice:=qY true t none trivial h
def Md.sz:Md->Nat
 |.orL n=>n.size
 |.andL n=>n.size
 |_=>0
theorem kK {lit:By->Option Val}:∀(f:Nat) (m:Md) (lv d:Nat) (ts r:List By) (t:Tree) (e:Nat),bU lit f m lv d ts=some (t,r,e)->t.size+r.length<=m.sz+ts.length
 |0,m,lv,d,ts,r,t,e,h=>by cases h
 |f+1,.or,lv,d,ts,r,t,e,h=>by
  unfold bU at h;split at h
  ·rename_i n r1 e1 h1;have a:=kK f _ _ _ _ _ _ _ h1;have b:=kK f _ _ _ _ _ _ _ h;simp only[Md.sz] at*;omega
  ·cases h
 |f+1,.orL n,lv,d,ts,r,t,e,h=>by
  unfold bU at h;split at h
  ·rename_i hd;obtain⟨r0,rfl⟩:=fU hd (by decide);split at h
   ·rename_i n r1 e1 h1;have a:=kK f _ _ _ _ _ _ _ h1;have b:=kK f _ _ _ _ _ _ _ h;simp only[Md.sz,Tree.size,iH,aI] at*;omega
   ·cases h
  ·cases h;exact rL _
 |f+1,.and,lv,d,ts,r,t,e,h=>by
  unfold bU at h;split at h
  ·rename_i n r1 e1 h1;have a:=kK f _ _ _ _ _ _ _ h1;have b:=kK f _ _ _ _ _ _ _ h;simp only[Md.sz] at*;omega
  ·cases h
 |f+1,.andL n,lv,d,ts,r,t,e,h=>by
  unfold bU at h;split at h
  ·rename_i hd;obtain⟨r0,rfl⟩:=fU hd (by decide);split at h
   ·rename_i n r1 e1 h1;have a:=kK f _ _ _ _ _ _ _ h1;have b:=kK f _ _ _ _ _ _ _ h;simp only[Md.sz,Tree.size,iH,aI] at*;omega
   ·cases h
  ·cases h;exact rL _
 |f+1,.not,lv,d,ts,r,t,e,h=>by
  unfold bU at h;split at h
  ·rename_i hd;obtain⟨r0,rfl⟩:=fU hd (by decide);split at h
   ·rename_i n r1 e1 h1;cases h;have a:=kK f _ _ _ _ _ _ _ h1;simp only[Md.sz,Tree.size,iH,aI] at*;omega
   ·cases h
  ·have a:=kK f _ _ _ _ _ _ _ h;simp only[Md.sz] at*;omega
 |f+1,.prim,lv,d,ts,r,t,e,h=>by
  unfold bU at h;split at h
  ·rename_i hd;obtain⟨r0,rfl⟩:=fU hd (by decide);cases h;simp only[Md.sz,Tree.size,iH,aI];omega
  ·split at h
   ·rename_i hd;obtain⟨r0,rfl⟩:=fU hd (by decide);cases h;simp only[Md.sz,Tree.size,iH,aI];omega
   ·split at h
    ·rename_i hd;obtain⟨r0,rfl⟩:=fU hd (by decide);split at h
     ·rename_i n r1 e1 h1;have a:=kK f _ _ _ _ _ _ _ h1;split at h
      ·rename_i hr;obtain⟨r2,rfl⟩:=fU hr (by decide);cases h;simp only[Md.sz,iH,aI] at*;omega
      ·cases h
     ·cases h
    ·split at h
     ·rename_i a r1 h1;have l1:=sY h1;split at h
      ·split at h
       ·rename_i b r2 h2;have l2:=sY h2;cases h;simp only[Md.sz,Tree.size,List.length_tail] at*;omega
       ·cases h
      ·cases h
     ·cases h
theorem JN {w:By} {v:Val} (h:dM w=some v):v.ok=true:=by
 have q:∀{v},zP w=some v->v.ok=true:=fun{v} h=>by
  unfold zP at h;split at h
  ·rename_i v' hp;split at h
   ·cases h;unfold iZ at hp;split at hp
    ·cases hp
    ·split at hp
     ·split at hp
      ·rename_i vs _ hc;cases hp;simp only[aF] at hc;have:=hc.1;rw[EM] at this;exact this
      ·cases hp
     ·cases hp
   ·cases h
  ·cases h
 unfold dM at h;split at h
 ·split at h
  ·rename_i hc;cases h;exact hc.2
  ·exact q h
 ·exact q h
theorem FU {v:Val} (h:v.ok=true):(eY v).length<=170:=by
 have:=MJ h;unfold eY;split
 ·have:=Lib.itoa_length_le v.n (by omega) (by omega);omega
 ·have:=DP v.s;simp only[sC,aI,aG,bO];omega
theorem C5:∀{ts r:List By} {t:Term},iB dM ts=some (t,r)->t.name.length<=16/\t.txt.length<=180
 |[],r,t,h=>by cases h
 |w::ts,r,t,h=>by
  unfold iB at h;split at h
  ·split at h
   ·rename_i t' r' h1;have ih:=C5 h1;split at h
    ·cases h
    ·cases h;refine⟨ih.1,?_⟩;show(58::t'.name).length<=180;simp;omega
   ·cases h
  ·split at h
   ·rename_i hn;cases h;simp only[aF] at hn;have hl:w.length<=16:=by
     have:=hn.1;unfold dU at this;split at this
     ·simp
     ·simp only[aF,aJ] at this;exact this.1.1
    refine⟨hl,?_⟩;show(if w≠[] then w else UO v0).length<=180;split
    ·omega
    ·decide
   ·split at h
    ·rename_i v hv;cases h;refine⟨zL _,?_⟩;show(UO v).length<=180;unfold UO;rw[JN hv,aD rfl];have:=FU (JN hv);omega
    ·cases h
def Md.nice:Md->Prop
 |.orL n=>n.nice
 |.andL n=>n.nice
 |_=>True
theorem EN {w:By} (h:oB w=true):w.length<=2:=by
 simp only[oB,Z1,iJ,aJ,List.mem_cons,List.not_mem_nil,or_false] at h;rcases h with rfl|rfl|rfl|rfl|rfl|rfl<;>decide
theorem kV:∀(f:Nat) (m:Md) (lv d:Nat) (ts r:List By) (t:Tree) (e:Nat),bU dM f m lv d ts=some (t,r,e)->m.nice->t.nice
 |0,m,lv,d,ts,r,t,e,h,_=>by cases h
 |f+1,.or,lv,d,ts,r,t,e,h,_=>by
  unfold bU at h;split at h
  ·rename_i n r1 e1 h1;exact kV f _ _ _ _ _ _ _ h (kV f _ _ _ _ _ _ _ h1 trivial)
  ·cases h
 |f+1,.orL n,lv,d,ts,r,t,e,h,hn=>by
  unfold bU at h;split at h
  ·split at h
   ·rename_i n r1 e1 h1;exact kV f _ _ _ _ _ _ _ h ⟨hn,kV f _ _ _ _ _ _ _ h1 trivial⟩
   ·cases h
  ·cases h;exact hn
 |f+1,.and,lv,d,ts,r,t,e,h,_=>by
  unfold bU at h;split at h
  ·rename_i n r1 e1 h1;exact kV f _ _ _ _ _ _ _ h (kV f _ _ _ _ _ _ _ h1 trivial)
  ·cases h
 |f+1,.andL n,lv,d,ts,r,t,e,h,hn=>by
  unfold bU at h;split at h
  ·split at h
   ·rename_i n r1 e1 h1;exact kV f _ _ _ _ _ _ _ h ⟨hn,kV f _ _ _ _ _ _ _ h1 trivial⟩
   ·cases h
  ·cases h;exact hn
 |f+1,.not,lv,d,ts,r,t,e,h,_=>by
  unfold bU at h;split at h
  ·split at h
   ·rename_i n r1 e1 h1;cases h;show n.nice;exact kV f .prim _ _ _ _ _ _ h1 trivial
   ·cases h
  ·exact kV f .prim _ _ _ _ _ _ h trivial
 |f+1,.prim,lv,d,ts,r,t,e,h,_=>by
  unfold bU at h;split at h
  ·cases h;trivial
  ·split at h
   ·cases h;trivial
   ·split at h
    ·split at h
     ·rename_i n r1 e1 h1;split at h
      ·cases h;exact kV f .or _ _ _ _ _ _ h1 trivial
      ·cases h
     ·cases h
    ·split at h
     ·rename_i a r1 h1;split at h
      ·rename_i hrel;split at h
       ·rename_i b r2 h2;cases h;exact⟨EN hrel,C5 h1,C5 h2⟩
       ·cases h
      ·cases h
     ·cases h
open Go.RowKit
theorem ZH:∀a:Fin 256,∀x:Fin 16,uB (UInt8.ofNat a)=some x.val->jY x=UInt8.ofNat a:=by decide+kernel
theorem R4 {a:UInt8} {x:Nat} (h:uB a=some x):jY x=a:=by
 have hx:=DB h;have ha:UInt8.ofNat a.toNat=a:=UInt8.ofNat_toNat;have:=ZH ⟨a.toNat,cV a⟩ ⟨x,hx⟩ (by show uB (UInt8.ofNat a.toNat)=some x;rw[ha];exact h);exact this.trans ha
theorem ZP:∀k:Fin 16,uB (jY k)=some k.val/\vY (jY k)=some k.val/\jY k≠34/\jY k≠92:=by decide+kernel
theorem wX {k:Nat} (h:k<16):uB (jY k)=some k/\vY (jY k)=some k/\jY k≠34/\jY k≠92:=ZP ⟨k,h⟩
theorem XY {c:UInt8} (h:c=34∨c=92):nS c=[92,c]:=by unfold nS;rw[aD h]
theorem XZ {c:UInt8} (h:c.toNat<32∨126<c.toNat):nS c=[92,120,jY (c.toNat / 16),jY (c.toNat%16)]:=by
 unfold nS;rw[aC (fun e=>by rcases e with rfl|rfl<;>revert h<;>decide),aD h]
theorem Y0 {c:UInt8} (h:c≠34) (h':c≠92) (hb:¬(c.toNat<32∨126<c.toNat)):nS c=[c]:=by
 unfold nS;rw[aC (fun e=>e.elim h h'),aC hb]
theorem rJ {m:Nat} (h:m<256):(UInt8.ofNat m).toNat=m:=by
 rw[UInt8.toNat_ofNat'];exact Nat.mod_eq_of_lt h
theorem a4U {a b:UInt8} {x y:Nat} (ha:uB a=some x) (hb:uB b=some y) (h:¬(32<=16*x+y/\16*x+y<=126)):nS (UInt8.ofNat (16*x+y))=[92,120,a,b]:=by
 have hx:=DB ha;have hy:=DB hb;have hm:(UInt8.ofNat (16*x+y)).toNat=16*x+y:=rJ (by omega);rw[XZ (by rw[hm];omega),hm,show(16*x+y) / 16=x by omega,show(16*x+y)%16=y by omega,R4 ha,R4 hb]
theorem AX:∀(n:Nat) {l t r:List UInt8},l.length<=n->rq l=some (t,r)->l=t.flatMap nS++34::r
 |0,l,t,r,h,e=>by
  cases l with
  |nil=>cases e
  |cons _ _=>simp at h
 |n+1,[],t,r,h,e=>by cases e
 |n+1,c::l,t,r,h,e=>by
  have hl:l.length<=n:=by simp at h;omega
  by_cases h34:c=34
  ·rw[h34,WR] at e;cases e;rw[h34];rfl
  ·by_cases hb:c.toNat<32∨126<c.toNat
   ·rw[NX h34 hb] at e;cases e
   ·by_cases h92:c=92
    ·subst h92;by_cases hx:∃a b l2,l=120::a::b::l2
     ·obtain⟨a,b,l2,rfl⟩:=hx;rw[a3m] at e;split at e
      ·rename_i x hnx;split at e
       ·rename_i y hny;split at e
        ·cases e
        ·rename_i hr;cases hq:rq l2 with
         |none=>rw[hq] at e;cases e
         |some p=>
          rw[hq] at e;cases e;have:=AX n (l:=l2) (t:=p.1) (r:=p.2) (by simp at hl;omega) hq;rw[dV,a4U hnx hny hr,bD,<-this];rfl
       ·cases e
      ·cases e
     ·by_cases he:∃c' l1,l=c'::l1/\(c'=34∨c'=92)
      ·obtain⟨c',l1,rfl,hc'⟩:=he;rw[NW hc'] at e;cases hq:rq l1 with
       |none=>rw[hq] at e;cases e
       |some p=>
        rw[hq] at e;cases e;have:=AX n (l:=l1) (t:=p.1) (r:=p.2) (by simp at hl;omega) hq;rw[dV,XY hc',bD,<-this];rfl
      ·rw[D5 (fun e0 r1 h1=>⟨fun h=>he ⟨e0,r1,h1,h⟩,fun h a b r2 h2=>hx ⟨a,b,r2,by rw[h1,h,h2]⟩⟩)] at e;cases e
    ·rw[a3n h34 hb h92] at e;cases hq:rq l with
     |none=>rw[hq] at e;cases e
     |some p=>
      rw[hq] at e;cases e;have:=AX n (l:=l) (t:=p.1) (r:=p.2) hl hq;rw[dV,Y0 h34 h92 hb,bD,<-this];rfl
theorem a50 (t r:List UInt8):rq (t.flatMap nS++34::r)=some (t,r):=by
 induction t with
 |nil=>exact WR r
 |cons c t ih=>
  rw[dV,bD];by_cases h:c=34∨c=92
  ·rw[XY h];show rq (92::c::(t.flatMap nS++34::r))=_;rw[NW h,ih];rfl
  ·by_cases hb:c.toNat<32∨126<c.toNat
   ·rw[XZ hb];show rq (92::120::jY (c.toNat / 16)::jY (c.toNat%16)::(t.flatMap nS++34::r))=_;have hlt:=cV c;rw[a3m,(wX (k:=c.toNat / 16) (by omega)).1,(wX (k:=c.toNat%16) (by omega)).1];show(if 32<=16*(c.toNat / 16)+c.toNat%16/\16*(c.toNat / 16)+c.toNat%16<=126 then none else(rq (t.flatMap nS++34::r)).map fun p=>(UInt8.ofNat (16*(c.toNat / 16)+c.toNat%16)::p.1,p.2))=_;rw[aC (by omega),ih,show 16*(c.toNat / 16)+c.toNat%16=c.toNat by omega,UInt8.ofNat_toNat];rfl
   ·rw[Y0 (fun e=>h (.inl e)) (fun e=>h (.inr e)) hb];show rq (c::(t.flatMap nS++34::r))=_;rw[a3n (fun e=>h (.inl e)) hb (fun e=>h (.inr e)),ih];rfl
theorem a4y (t r:List UInt8):rt (t.flatMap nS++34::r)=some (t,r):=by
 induction t with
 |nil=>exact a1F r
 |cons c t ih=>
  rw[dV,bD];by_cases h:c=34∨c=92
  ·rw[XY h];show rt (92::c::(t.flatMap nS++34::r))=_;rw[a1E (by rcases h with rfl|rfl<;>decide),ih];rfl
  ·by_cases hb:c.toNat<32∨126<c.toNat
   ·rw[XZ hb];show rt (92::120::jY (c.toNat / 16)::jY (c.toNat%16)::(t.flatMap nS++34::r))=_;have hlt:=cV c;have h2:CD (jY (c.toNat / 16)) (jY (c.toNat%16))=some c.toNat:=by
     unfold CD;rw[(wX (k:=c.toNat / 16) (by omega)).2.1,(wX (k:=c.toNat%16) (by omega)).2.1];show some (16*(c.toNat / 16)+c.toNat%16)=_;congr 1;omega
    rw[a5t,h2];show((rt (t.flatMap nS++34::r)).map fun p=>(UInt8.ofNat c.toNat::p.1,p.2))=_;rw[ih,UInt8.ofNat_toNat];rfl
   ·rw[Y0 (fun e=>h (.inl e)) (fun e=>h (.inr e)) hb];show rt (c::(t.flatMap nS++34::r))=_;rw[a5u (fun e=>h (.inl e)) (fun e=>h (.inr e)),ih];rfl
theorem X3 (t r:List UInt8):sD (t.flatMap nS++34::r)=(t.flatMap nS).length:=by
 induction t with
 |nil=>exact X4 r
 |cons c t ih=>
  rw[dV,bD,aG];by_cases h:c=34∨c=92
  ·rw[XY h];show sD (92::c::(t.flatMap nS++34::r))=_;rw[O8,ih];rfl
  ·by_cases hb:c.toNat<32∨126<c.toNat
   ·rw[XZ hb];show sD (92::120::jY (c.toNat / 16)::jY (c.toNat%16)::(t.flatMap nS++34::r))=_;have hlt:=cV c;have h1:=wX (k:=c.toNat / 16) (by omega);have h2:=wX (k:=c.toNat%16) (by omega);rw[O8,O7 h1.2.2.1 h1.2.2.2,O7 h2.2.2.1 h2.2.2.2,ih];simp only[aI,bO];omega
   ·rw[Y0 (fun e=>h (.inl e)) (fun e=>h (.inr e)) hb];show sD (c::(t.flatMap nS++34::r))=_;rw[O7 (fun e=>h (.inl e)) (fun e=>h (.inr e)),ih];rfl
theorem w7:∀(v:List UInt8) (a:Nat),a<=v.foldl (fun a c=>10*a+(c.toNat - 48)) a
 |[],a=>rL _
 |c::v,a=>dG (by omega) (w7 v (10*a+(c.toNat - 48)))
theorem l6 (c:UInt8):cY c=true↔48<=c.toNat/\c.toNat<=57:=by simp[cY]
theorem VJ:∀(k:Nat) (w:List UInt8),w.length=k+1->(∀c∈w,cY c=true)->(1<w.length->w.head?≠some 48)->Lib.decDigits (lO w)=w
 |0,w,hl,hd,_=>by
  obtain⟨c,rfl⟩:=List.length_eq_one_iff.1 hl;have:=(l6 c).1 (hd c (by simp));rw[Lib.decDigits,dif_pos (by simp[lO];omega)];congr 1;apply UInt8.toNat_inj.1;rw[rJ (by simp[lO];omega)];simp[lO];omega
 |k+1,w,hl,hd,h0=>by
  obtain⟨v,c,rfl⟩:∃v c,w=v++[c]:=⟨w.dropLast,w.getLast (by intro e;simp[e] at hl),(List.dropLast_concat_getLast _).symm⟩;simp at hl;have hc:=(l6 c).1 (hd c (by simp));have hpos:1<=lO v:=by
   cases v with
   |nil=>simp at hl
   |cons a v=>
    have ha:=(l6 a).1 (hd a (by simp));have h1:=h0 (by simp);have hne:a.toNat≠48:=fun e=>h1 (by simp;exact UInt8.toNat_inj.1 e);have:=w7 v (10*0+(a.toNat - 48));show 1<=List.foldl _ _ _;rw[eV];omega
  have ih:=VJ k v hl (fun x hx=>hd x (by simp[hx])) (fun h1=>by
   have:=h0 (by simp;omega);cases v with
   |nil=>simp at h1
   |cons a v=>exact this)
  rw[xF,Lib.decDigits,dif_neg (by omega),show(10*lO v+(c.toNat - 48)) / 10=lO v by omega,ih];congr 2;apply UInt8.toNat_inj.1;rw[rJ (by omega)];omega
theorem uL (u:Nat):(∀c∈Lib.decDigits u,cY c=true)/\lO (Lib.decDigits u)=u/\Lib.decDigits u≠[]/\(1<(Lib.decDigits u).length->(Lib.decDigits u).head?≠some 48)/\(1<=u->(Lib.decDigits u).head?≠some 48):=by
 induction u using Nat.strongRecOn with
 |_ u ih=>
  rw[Lib.decDigits];by_cases h:u<10
  ·rw[dif_pos h];refine⟨fun c hc=>?_,?_,by simp,fun h1=>by simp at h1,fun h1=>?_⟩
   ·rw[List.mem_singleton.1 hc,l6,rJ (by omega)];omega
   ·show 10*0+((UInt8.ofNat (48+u)).toNat - 48)=u;rw[rJ (by omega)];omega
   ·intro e;have e:=bA e;have:=aR UInt8.toNat e;rw[rJ (by omega)] at this;replace this:48+u=(48:UInt8).toNat:=this;rw[show(48:UInt8).toNat=48 from rfl] at this;omega
  ·rw[dif_neg h];obtain⟨i1,i2,i3,i4,i5⟩:=ih (u / 10) (by omega);have hh:(Lib.decDigits (u / 10)++[UInt8.ofNat (48+u%10)]).head?=(Lib.decDigits (u / 10)).head?:=by
    cases hd:Lib.decDigits (u / 10) with
    |nil=>exact absurd hd i3
    |cons a v=>rfl
   refine⟨fun c hc=>?_,?_,by simp,fun _=>by rw[hh];exact i5 (by omega),fun _=>by rw[hh];exact i5 (by omega)⟩
   ·rcases List.mem_append.1 hc with hc|hc
    ·exact i1 c hc
    ·rw[List.mem_singleton.1 hc,l6,rJ (by omega)];omega
   ·rw[xF,i2,rJ (by omega)];omega
theorem XF:∀(k u:Nat),u<10^(k+1)->Lib.nDigits u<=k+1
 |0,u,h=>by rw[Lib.nDigits_small (by simpa using h)];omega
 |k+1,u,h=>by
  by_cases h10:u<10
  ·rw[Lib.nDigits_small h10];omega
  ·rw[Lib.nDigits_big h10];have:=XF k (u / 10) (by rw[Nat.pow_succ] at h;omega);omega
theorem a5f {p:UInt8->Bool} {l:List UInt8} (h:∀c∈l,p c=true):l.takeWhile p=l:=by
 induction l with
 |nil=>rfl
 |cons c l ih=>rw[gS,aD (h c (by simp)),ih (fun d hd=>h d (by simp[hd]))]
theorem SM {l:List UInt8} (h:∀c∈l,cY c=true) (hl:l.length<=16):fW l=l.length:=by
 unfold fW;rw[a5f h];omega
theorem NC {l:List UInt8} (h:fW l=l.length):∀c∈l,cY c=true:=by
 have h1:=PK (l:=l) (j:=l.length) (by omega);rwa [aV] at h1
theorem UG {l:List UInt8} (h45:l.head?≠some 45):kQ l=if fW l=0∨(1<fW l/\l.head?=some 48)∨17<=fW l then(0,0) else((lO (l.take (fW l)):Int),fW l):=by
 unfold kQ;simp only[h45,decide_false,bX,fN,false_and,false_or,bI]
theorem UH {l:List UInt8}:kQ (45::l)=if fW l=0∨(1<fW l/\l.head?=some 48)∨lO (l.take (fW l))=0∨17<=fW l then(0,0) else(-(lO (l.take (fW l)):Int),1+fW l):=by
 unfold kQ;simp only[List.head?_cons,decide_true,f7,iH,true_and]
theorem a1o {w:List UInt8} (hne:w≠[]) (h:(kQ w).2=w.length):Lib.itoa (kQ w).1=w:=by
 by_cases h45:w.head?=some 45
 ·obtain⟨l,rfl⟩:∃l,w=45::l:=by
   cases w with
   |nil=>cases h45
   |cons c l=>simp at h45;exact⟨l,by rw[h45]⟩
  rw[UH] at h⊢;split at h
  ·simp at h
  ·rename_i hc;rw[aC hc];have hl:fW l=l.length:=by simp at h;omega
   rw[hl,aV] at hc⊢;have hd:=NC hl;show Lib.itoa (-(lO l:Int))=_;unfold Lib.itoa;rw[aD (by omega),show(-(lO l:Int)).natAbs=lO l by omega,VJ (l.length - 1) l (by omega) hd (fun h1 e=>hc (.inr (.inl ⟨h1,e⟩)))]
 ·rw[UG h45] at h⊢;split at h
  ·have:w.length=0:=h.symm;exact absurd (aM this) hne
  ·rename_i hc;rw[aC hc];have hl:fW w=w.length:=h;rw[hl] at hc⊢;rw[aV];have hd:=NC hl;show Lib.itoa (lO w:Int)=_;unfold Lib.itoa;rw[aC (by omega),show((lO w:Nat):Int).toNat=lO w by omega,VJ (w.length - 1) w (by omega) hd (fun h1 e=>hc (.inr (.inl ⟨h1,e⟩)))]
theorem ND {u:Nat} (h:u<=1000000000):(Lib.decDigits u).length<=16:=by
 rw[Lib.decDigits_length];have:=XF 9 u (by omega);omega
theorem a2g (u:Nat):(Lib.decDigits u).head?≠some 45:=by
 obtain⟨h1,_,h3,_⟩:=uL u;intro e;cases hd:Lib.decDigits u with
 |nil=>exact h3 hd
 |cons a v=>
  rw[hd] at e h1;simp at e;have:=h1 a (by simp);rw[e] at this;revert this;decide
theorem a2B {n:Int} (h0: -1000000000<=n) (h1:n<=1000000000):kQ (Lib.itoa n)=(n,(Lib.itoa n).length):=by
 unfold Lib.itoa;by_cases hn:n<0
 ·rw[aD hn,UH];obtain⟨d1,d2,d3,d4,d5⟩:=uL n.natAbs;have hl:=ND (u:=n.natAbs) (by omega);have hp:(Lib.decDigits n.natAbs).length≠0:=fun e=>d3 (aM e);rw[SM d1 hl,aV,d2,aC (by
   rintro(h|⟨h,h'⟩|h|h)
   ·exact hp h
   ·exact d4 h h'
   ·omega
   ·omega)]
  simp only[aI];congr 1
  ·omega
  ·omega
 ·rw[aC hn,UG (a2g _)];obtain⟨d1,d2,d3,d4,d5⟩:=uL n.toNat;have hl:=ND (u:=n.toNat) (by omega);have hp:(Lib.decDigits n.toNat).length≠0:=fun e=>d3 (aM e);rw[SM d1 hl,aV,d2,aC (by
   rintro(h|⟨h,h'⟩|h)
   ·exact hp h
   ·exact d4 h h'
   ·omega)]
  congr 1;omega
theorem QW:∀(l:List UInt8) (acc:Nat),(∀c∈l,cY c=true)->l.foldl (fun a c=>10*a+(c.toNat - 48)) acc<1000000000000000000->Lib.parseUint10 acc l=.ok (l.foldl (fun a c=>10*a+(c.toNat - 48)) acc)
 |[],acc,_,_=>rfl
 |c::r,acc,hd,hb=>by
  have hc:=(l6 c).1 (hd c (by simp));rw[eV] at hb⊢;have hle:=w7 r (10*acc+(c.toNat - 48));unfold Lib.parseUint10;rw[aD hc,aC (by omega),aC (by omega),show acc*10+(c.toNat - 48)=10*acc+(c.toNat - 48) by omega];exact QW r _ (fun x hx=>hd x (by simp[hx])) hb
theorem a1w {u:Nat} (h:u<1000000000000000000):Lib.parseMag (Lib.decDigits u)=.ok u:=by
 obtain⟨d1,d2,d3,_⟩:=uL u;unfold Lib.parseMag;rw[aC d3,QW _ 0 d1 (by show lO _<_;rw[d2];exact h)];show Lib.NumEnd.ok (lO _)=_;rw[d2]
theorem NI {n:Int} (h0: -1000000000<=n) (h1:n<=1000000000):Lib.atoiAll (Lib.itoa n)=.ok n:=by
 unfold Lib.itoa;by_cases hn:n<0
 ·rw[aD hn];unfold Lib.atoiAll;simp only[show((45:UInt8).toNat=43∨(45:UInt8).toNat=45) from .inr rfl,f7];rw[a1w (by omega)];simp only[show(45:UInt8).toNat=45 from rfl,not_true,false_and,fN,true_and,f7];rw[aC (by omega)];congr 1;omega
 ·rw[aC hn];obtain⟨d1,d2,d3,_⟩:=uL n.toNat;have hm:=a1w (u:=n.toNat) (by omega);cases hd:Lib.decDigits n.toNat with
  |nil=>exact absurd hd d3
  |cons c r=>
   rw[hd] at d1 hm;have hc:=(l6 c).1 (d1 c (by simp));unfold Lib.atoiAll;simp only[show¬c.toNat=43 by omega,show¬c.toNat=45 by omega,or_self,fN];rw[hm];simp only[not_false_eq_true,true_and,false_and,fN];rw[aC (by omega)];congr 1;omega
def jQ (w:By):Option Val:=if w≠[]/\(sP w).2=w.length/\(sP w).1.ok=true then some (sP w).1 else none
theorem a7J:∀(f:Nat) {l:List UInt8} {vs:List Val},rr f l=some vs->vs≠[]
 |0,l,vs,h=>by cases h
 |f+1,l,vs,h=>by
  unfold rr at h;split at h
  ·cases h
  ·split at h
   ·cases h;simp
   ·split at h
    ·rw[aH] at h;obtain⟨a,_,rfl⟩:=h;simp
    ·cases h
theorem a8P (l:List UInt8):rv (34::l)=(rt l).map fun p=>(⟨2,0,p.1⟩,p.2):=by
 unfold rv;rw[aD (show(34::l).head?=some 34 from rfl)];rfl
theorem QF (v:Val):nV [v]=eY v:=by
 unfold nV;simp[Lib.join]
theorem HF {w:By} (h:w.head?≠some 34):zP w=none:=by
 unfold zP;split
 ·rw[aC h]
 ·rfl
theorem a1e (l:List UInt8):zP (34::l)=match rt l with
  |some (t,[])=>if(Val.mk 2 0 t).ok=true/\sC t=34::l then some ⟨2,0,t⟩ else none
  |_=>none:=by
 have hr:rr ((34::l).length+1) (34::l)=match rt l with
  |none=>none
  |some (t,r)=>if r=[] then some [⟨2,0,t⟩] else if r.head?=some 44 then(rr (34::l).length r.tail).map (⟨2,0,t⟩:: ·) else none:=by
  conv=>lhs;unfold rr
  rw[a8P];cases rt l with
  |none=>rfl
  |some p=>rfl
 unfold zP iZ;rw[aC (by simp),hr];simp only[List.head?_cons,f7];cases rt l with
 |none=>rfl
 |some p=>
  obtain⟨t,r⟩:=p;cases r with
  |nil=>
   simp only[f7];rw[EM,QF,show eY (Val.mk 2 0 t)=sC t from rfl];by_cases hc:(Val.mk 2 0 t).ok=true/\sC t=34::l
   ·rw[aD hc,aD (by simp[hc])]
   ·rw[aC hc,aC (by simpa using hc)]
  |cons a r=>
   simp only[reduceCtorEq,fN];cases hx:(if(a::r).head?=some 44 then(rr (34::l).length (a::r).tail).map (Val.mk 2 0 t:: ·) else none) with
   |none=>rfl
   |some vs=>
    split at hx
    ·rw[aH] at hx;obtain⟨vs',h1,rfl⟩:=hx;have:=a7J _ h1;cases vs' with
     |nil=>exact absurd rfl this
     |cons b vs'=>
      simp only;split
      ·rename_i h2;split at h2<;>cases h2
      ·rfl
    ·cases hx
theorem HO (w:By):jQ w=dM w:=by
 cases w with
 |nil=>rw[B6 (fun v h=>by cases h),HF (by simp)];rfl
 |cons c l=>
  by_cases h34:c=34
  ·subst h34;have hno:dM (34::l)=zP (34::l):=B6 (fun v h=>by
    unfold Lib.atoiAll at h;simp only[show¬((34:UInt8).toNat=43∨(34:UInt8).toNat=45) by decide,fN] at h;unfold Lib.parseMag Lib.parseUint10 at h;rw[aC (by simp),aC (by decide)] at h;cases h)
   rw[hno,a1e];have hq:sP (34::l)=(⟨2,0,(jS (34::l) 0).1⟩,(jS (34::l) 0).2):=by unfold sP;rw[aD (show(34::l).head?=some 34 from rfl)]
   have hqs:jS (34::l) 0=ER (34::l).length 0 (rq l):=by unfold jS;rw[aD (show(34::l)[0]?=some 34 from rfl)];rfl
   unfold jQ;rw[hq,hqs];cases hr:rq l with
   |none=>
    rw[aC (by simp[ER])];cases ht:rt l with
    |none=>rfl
    |some p=>
     obtain⟨t,r⟩:=p;cases r with
     |cons a r=>rfl
     |nil=>
      show none=if _ then _ else _;rw[aC (fun h=>by
       have h2:=h.2;unfold sC at h2;have h3:t.flatMap nS++[34]=l:=(List.cons.inj h2).2;rw[<-h3,a50] at hr;cases hr)]
   |some p=>
    obtain⟨t,r⟩:=p;have hf:=AX l.length (rL _) hr;have ht:rt l=some (t,r):=by rw[hf];exact a4y t r
    rw[ht];have hrl:r.length<l.length:=IX l.length (rL _) hr;cases r with
    |nil=>
     show(if _ then some (Val.mk 2 0 t) else none)=if _ then some (Val.mk 2 0 t) else none;have e1:sC t=34::l:=by rw[hf];rfl
     by_cases hk:(Val.mk 2 0 t).ok=true
     ·rw[aD ⟨by simp,by simp[ER],hk⟩,aD ⟨hk,e1⟩]
     ·rw[aC (fun h=>hk h.2.2),aC (fun h=>hk h.1)]
    |cons a r=>
     show(if _ then some (Val.mk 2 0 t) else none)=none;rw[aC (fun h=>by
      have:=h.2.1;simp[ER] at this hrl;omega)]
  ·have hh:(c::l).head?≠some 34:=by simp[h34]
   have hq:sP (c::l)=(⟨1,(kQ (c::l)).1,[]⟩,(kQ (c::l)).2):=by unfold sP;rw[aC hh]
   unfold jQ;rw[hq];by_cases hk:(kQ (c::l)).2=(c::l).length/\(Val.mk 1 (kQ (c::l)).1 []).ok=true
   ·rw[aD ⟨by simp,hk⟩];have hi:=a1o (w:=c::l) (by simp) hk.1;obtain⟨b0,b1,_⟩:=MJ hk.2;have ha:=NI b0 b1;simp only at ha;rw[hi] at ha;rw[HP ha,aD ⟨hi,hk.2⟩]
   ·rw[aC (fun h=>hk h.2)];cases ha:Lib.atoiAll (c::l) with
    |ok n=>
     rw[HP ha,HF hh];by_cases hc:Lib.itoa n=c::l/\(Val.mk 1 n []).ok=true
     ·exfalso;obtain⟨b0,b1,_⟩:=MJ hc.2;have:=a2B b0 b1;simp only at this;rw[hc.1] at this;rw[this] at hk;exact hk ⟨rfl,hc.2⟩
     ·rw[aC hc]
    |_=>rw[B6 (fun v h=>by rw[ha] at h;cases h),HF hh]
def JR (l:List UInt8):Bool:=[60,62].isPrefixOf l||[60,61].isPrefixOf l||[62,61].isPrefixOf l
theorem nC (c:UInt8) (t:List UInt8):JR (c::t)=true↔(c=60/\(t.head?=some 62∨t.head?=some 61))∨(c=62/\t.head?=some 61):=by
 cases t with
 |nil=>simp[JR,List.isPrefixOf]
 |cons d t=>
  simp only[JR,List.isPrefixOf,Bool.and_true,f6,aF,dI,List.head?_cons,iY];constructor
  ·rintro((⟨rfl,rfl⟩|⟨rfl,rfl⟩)|⟨rfl,rfl⟩)
   ·exact .inl ⟨rfl,.inl rfl⟩
   ·exact .inl ⟨rfl,.inr rfl⟩
   ·exact .inr ⟨rfl,rfl⟩
  ·rintro(⟨rfl,rfl|rfl⟩|⟨rfl,rfl⟩)
   ·exact .inl (.inl ⟨rfl,rfl⟩)
   ·exact .inl (.inr ⟨rfl,rfl⟩)
   ·exact .inr ⟨rfl,rfl⟩
theorem xL (c:UInt8) (t:List UInt8):mL (c::t)=if JR (c::t)=true then 2 else if(dL c||(c==45&&t.head?.any cY))=true then pT t else if c=34 then min (2+sD t) (t.length+1) else 1:=rfl
theorem EX {c:UInt8} (h:dL c=true):c≠60/\c≠62/\c≠45/\c≠34/\c≠40/\c≠41/\c≠58/\c≠61/\c≠32:=by
 refine⟨?_,?_,?_,?_,?_,?_,?_,?_,?_⟩<;>(rintro rfl;revert h;decide)
theorem NB {l:List UInt8} (h:fW l≠0):∃d r,l=d::r/\cY d=true:=by
 cases l with
 |nil=>exact absurd rfl h
 |cons d r=>
  refine⟨d,r,rfl,?_⟩;cases hd:cY d with
  |true=>rfl
  |false=>exact absurd (by unfold fW;rw[gS,hd];rfl) h
theorem HJ {c:UInt8} {t:List UInt8} (h:(kQ (c::t)).2≠0):cY c=true∨(c=45/\∃d r,t=d::r/\cY d=true):=by
 by_cases h45:c=45
 ·subst h45;rw[UH] at h;refine .inr ⟨rfl,NB (fun e=>h (by rw[aD (.inl e)]))⟩
 ·rw[UG (by simpa using h45)] at h;obtain⟨d,r,e,hd⟩:=NB (l:=c::t) (fun e=>h (by rw[aD (.inl e)]));cases e;exact .inl hd
theorem HN {c:UInt8} {t:List UInt8} {v:Val} (h:dM (c::t)=some v) (h34:c≠34):(kQ (c::t)).2=(c::t).length:=by
 rw[<-HO] at h;unfold jQ at h;split at h
 ·rename_i hc;have:=hc.2.1;unfold sP at this;rw[aC (by simpa using h34)] at this;exact this
 ·cases h
theorem O6 (t:List UInt8):jS (34::t) 0=ER (34::t).length 0 (rq t):=by
 unfold jS;rw[aD (show(34::t)[0]?=some 34 from rfl)];rfl
theorem ZJ {t:List UInt8} {v:Val} (h:dM (34::t)=some v):∃s,rq t=some (s,[]):=by
 rw[<-HO] at h;unfold jQ at h;split at h
 ·rename_i hc;have:=hc.2.1;unfold sP at this;rw[aD (show(34::t).head?=some 34 from rfl)] at this;replace this:(jS (34::t) 0).2=(34::t).length:=this;rw[O6] at this;cases hr:rq t with
  |none=>rw[hr] at this;simp[ER] at this
  |some p=>
   rw[hr] at this;obtain⟨s,r⟩:=p;simp[ER] at this;have hl:=IX t.length (rL _) hr;have:r=[]:=aM (by omega);exact⟨s,by rw[this]⟩
 ·cases h
theorem E9 (w:List UInt8):(zF w).2=true↔0<(kQ w).2/\(kQ w).2=w.length:=by
 unfold zF;simp
theorem a0q (c:UInt8) (t:List UInt8):(c::t).take (pT t)=c::t.takeWhile dL:=by
 unfold pT;rw[Nat.add_comm,iX];congr 1;have:=List.prefix_iff_eq_take.1 (gW (l:=t) dL);exact this.symm
theorem a0m {t:List UInt8} {d:UInt8} {r:List UInt8} (h:t.takeWhile dL=d::r):t.head?=some d:=by
 cases t with
 |nil=>cases h
 |cons a t=>
  rw[gS] at h;split at h
  ·cases h;rfl
  ·cases h
theorem vF {c:UInt8} (h:cY c=true):dL c=true:=by
 unfold dL;rw[h];simp
theorem WE {c:UInt8} {t:List UInt8} {k:Nat} (h:sw (c::t)=some k):mL (c::t)=k:=by
 rw[xL];simp only[sw] at h;split at h
 ·rename_i hi;have hn:=EX hi.1;rw[aC (fun e=>by rcases(nC c t).1 e with e|e;exact hn.1 e.1;exact hn.2.1 e.1),aD (by rw[hi.1];rfl)];split at h
  ·split at h
   ·exact bA h
   ·cases h
  ·split at h
   ·exact bA h
   ·cases h
 ·rename_i hi;split at h
  ·rename_i h45;subst h45;split at h
   ·rename_i hw;rw[a0q] at hw;obtain⟨h1,h2⟩:=(E9 _).1 hw;rcases HJ (Nat.pos_iff_ne_zero.1 h1) with e|⟨_,d,r,e,hd⟩
    ·exact absurd e (by decide)
    ·rw[aC (fun e=>by rcases(nC 45 t).1 e with e|e<;>exact absurd e.1 (by decide)),aD (by rw[a0m e];simp[hd])];exact bA h
   ·cases h
  ·rename_i h45;split at h
   ·rename_i h34;subst h34;split at h
    ·cases h
    ·rename_i hz;rw[aC (fun e=>by rcases(nC 34 t).1 e with e|e<;>exact absurd e.1 (by decide)),aC (by simp;decide),aD rfl];have hq:=O6 t;rw[hq] at h hz;cases hr:rq t with
     |none=>rw[hr] at hz;exact absurd rfl hz
     |some p=>
      obtain⟨s,r⟩:=p;rw[hr] at h;have hf:=AX t.length (rL _) hr;have hql:sD t=(s.flatMap nS).length:=by rw[hf];exact X3 s r
      have hlen:=aR List.length hf;simp only[aG,aI] at hlen;simp only[ER,iY,aI] at h;rw[hql];omega
   ·rename_i h34;split at h
    ·rename_i hp;rw[aD ((nC c t).2 hp)];exact bA h
    ·rename_i hp;split at h
     ·rename_i hm;have hin:dL c=false:=by rcases hm with rfl|rfl|rfl|rfl|rfl|rfl<;>decide
      rw[aC (fun e=>hp ((nC c t).1 e)),aC (by rw[hin];simp[h45]),aC h34];exact bA h
     ·cases h
def cw (w:By):Prop:=dU w=true∨(dM w).isSome=true∨w=[40]∨w=[41]∨w=[58]∨oB w=true
theorem MP {c:UInt8} {t:List UInt8} (h:dU (c::t)=true):nE c=true:=by
 simp only[dU,aF] at h;exact h.1.2
theorem U4 {c:UInt8} {t:List UInt8} (h:oB (c::t)=true):c=60∨c=61∨c=62:=by
 simp only[oB,Z1,iJ,aJ,List.mem_cons,List.not_mem_nil,or_false] at h;rcases h with h|h|h|h|h|h<;>cases h<;>simp
theorem SO {c:UInt8} {t:List UInt8} (h:cw (c::t)):(nE c=true/\dU (c::t)=true)∨(cY c=true/\∃v,dM (c::t)=some v)∨(c=45/\∃v,dM (c::t)=some v)∨(c=34/\∃v,dM (c::t)=some v)∨c=40∨c=41∨c=58∨c=60∨c=61∨c=62:=by
 rcases h with h|h|h|h|h|h
 ·exact .inl ⟨MP h,h⟩
 ·obtain⟨v,hv⟩:=Option.isSome_iff_exists.1 h;by_cases h34:c=34
  ·exact .inr (.inr (.inr (.inl ⟨h34,v,hv⟩)))
  ·have:=HN hv h34;rcases HJ (c:=c) (t:=t) (by rw[this];simp) with e|e
   ·exact .inr (.inl ⟨e,v,hv⟩)
   ·exact .inr (.inr (.inl ⟨e.1,v,hv⟩))
 ·cases h;simp
 ·cases h;simp
 ·cases h;simp
 ·rcases U4 h with rfl|rfl|rfl<;>simp
theorem M2 (c:UInt8):nE c=true↔97<=c.toNat/\c.toNat<=122:=by simp[nE]
theorem Q8 {c:UInt8} (h:nE c=true):dL c=true:=by unfold dL;rw[h];rfl
theorem a0u {c:UInt8} {t:List UInt8} (h32:c≠32) (h:cw (NK (c::t))):sw (c::t)=some (mL (c::t)):=by
 have hw:∃u,NK (c::t)=c::u/\(c::u)=(c::t).take (mL (c::t)):=by
  have:=oQ c t;unfold NK;obtain⟨k,hk⟩:∃k,mL (c::t)=k+1:=⟨mL (c::t) - 1,by omega⟩;exact⟨t.take k,by rw[hk];rfl,by rw[hk];rfl⟩
 obtain⟨u,hu,hu2⟩:=hw;rw[hu] at h;by_cases hin:dL c=true
 ·have hn:=EX hin;have hwl:mL (c::t)=pT t:=by
   rw[xL,aC (fun e=>by rcases(nC c t).1 e with e|e;exact hn.1 e.1;exact hn.2.1 e.1),aD (by rw[hin];rfl)]
  rw[hwl] at hu2⊢;simp only[sw];rcases SO h with⟨h1,h2⟩|⟨h1,v,h2⟩|h1|h1|h1
  ·have h97:=(M2 c).1 h1;rw[aD ⟨hin,by rintro rfl;revert h1;decide⟩,aD h97.1,aD (by rw[<-hu2];exact h2)]
  ·have h97:=(l6 c).1 h1;rw[aD ⟨hin,by rintro rfl;revert h1;decide⟩,aC (by omega),aD (by
    rw[<-hu2,E9];have:=HN h2 hn.2.2.2.1;exact⟨by rw[this];simp,this⟩)]
  ·exact absurd h1.1 hn.2.2.1
  ·exact absurd h1.1 hn.2.2.2.1
  ·rcases h1 with h1|h1|h1|h1|h1|h1
   ·exact absurd h1 hn.2.2.2.2.1
   ·exact absurd h1 hn.2.2.2.2.2.1
   ·exact absurd h1 hn.2.2.2.2.2.2.1
   ·exact absurd h1 hn.1
   ·exact absurd h1 hn.2.2.2.2.2.2.2.1
   ·exact absurd h1 hn.2.1
 ·have hin':dL c=false:=by simpa using hin
  rcases SO h with⟨h1,h2⟩|⟨h1,v,h2⟩|⟨rfl,v,h2⟩|⟨rfl,v,h2⟩|h1
  ·exact absurd (Q8 h1) hin
  ·exact absurd (vF h1) hin
  ·have hnum:=HN h2 (by decide);rcases HJ (c:=45) (t:=u) (by rw[hnum];simp) with e|⟨_,d,r,e,hd⟩
   ·exact absurd e (by decide)
   ·have hwl:mL (45::t)=pT t:=by
     rw[xL,aC (fun e=>by rcases(nC 45 t).1 e with e|e<;>exact absurd e.1 (by decide)),aD];subst e;have hle:=oQ 45 t;cases t with
     |nil=>have:=aR List.length hu2;simp at this;omega
     |cons a t=>
      obtain⟨k,hk⟩:∃k,mL (45::a::t)=k+1:=⟨mL (45::a::t) - 1,by omega⟩;rw[hk,iX] at hu2;cases k with
      |zero=>simp at hu2
      |succ k=>
       rw[iX] at hu2;simp at hu2;simp[<-hu2.1,hd]
    rw[hwl] at hu2⊢;simp only[sw];rw[aC (fun e=>hin e.1),aD trivial,aD (by rw[<-hu2,E9];exact⟨by rw[hnum];simp,hnum⟩)]
  ·obtain⟨s,hs⟩:=ZJ h2;have hf:=AX u.length (rL _) hs;have ht:t=u++t.drop u.length:=by
    have h3:u=t.take u.length:=by
     have hle:=oQ 34 t;obtain⟨k,hk⟩:∃k,mL (34::t)=k+1:=⟨mL (34::t) - 1,by omega⟩;rw[hk,iX] at hu2;have h4:=(List.cons.inj hu2).2;rw[h4,aS];rcases Nat.le_total k t.length with hkt|hkt
     ·rw[Nat.min_eq_left hkt]
     ·rw[Nat.min_eq_right hkt,aV,aW hkt]
    conv=>lhs;rw[<-j4 u.length t]
    rw[<-h3]
   generalize t.drop u.length=rest at ht;rw[hf,bD] at ht;replace ht:t=s.flatMap nS++34::rest:=ht;have hr:rq t=some (s,rest):=by rw[ht];exact a50 s rest
   have hq:=O6 t;have hlen:=aR List.length ht;simp only[aG,aI] at hlen;have hk:sw (34::t)=some (jS (34::t) 0).2:=by
    simp only[sw];rw[aC (fun e=>hin e.1),aC (by decide),aD trivial,aC];rw[hq,hr];simp only[ER,aI];omega
   rw[hk,WE hk]
  ·by_cases hp:JR (c::t)=true
   ·have h2:=(nC c t).1 hp;rw[xL,aD hp];simp only[sw];have hc:c=60∨c=62:=h2.elim (fun h=>.inl h.1) (fun h=>.inr h.1);rw[aC (fun e=>hin e.1),aC (by rcases hc with rfl|rfl<;>decide),aC (by rcases hc with rfl|rfl<;>decide),aD h2]
   ·have h45:c≠45:=by rcases h1 with rfl|rfl|rfl|rfl|rfl|rfl<;>decide
    have h34:c≠34:=by rcases h1 with rfl|rfl|rfl|rfl|rfl|rfl<;>decide
    rw[xL,aC hp,aC (by rw[hin'];simp[h45]),aC h34];simp only[sw];rw[aC (fun e=>hin e.1),aC h45,aC h34,aC (fun e=>hp ((nC c t).2 e)),aD (by
     rcases h1 with h|h|h|h|h|h<;>simp[h])]
theorem a5k {c:UInt8} (h:c≠32) (t:List UInt8):skip (c::t)=c::t:=by
 unfold skip;rw[List.dropWhile_cons,aC (by simpa using h)]
theorem xP (t:List UInt8):j6 (32::t)=j6 t:=by
 rw[<-EG (32::t),<-EG t];rfl
theorem TR {c:UInt8} (h:c≠32) (t:List UInt8):j6 (c::t)=NK (c::t)::j6 ((c::t).drop (mL (c::t))):=oA (a5k h t)
theorem zM:∀(f:Nat) (l:List UInt8) (ws:List By),lS f l=some ws->j6 l=ws
 |0,_,_,h=>by cases h
 |f+1,[],ws,h=>by rw[C7] at h;cases h;exact lI rfl
 |f+1,c::t,ws,h=>by
  by_cases hc:c=32
  ·rw[hc,wJ] at h;rw[hc,xP];exact zM f t ws h
  ·rw[wK f hc] at h;cases hk:sw (c::t) with
   |none=>rw[hk] at h;cases h
   |some k=>
    rw[hk] at h;simp only[aH] at h;obtain⟨ws',h1,rfl⟩:=h;have hw:=WE hk;rw[TR hc,hw,zM f _ _ h1];unfold NK;rw[hw]
theorem IP:∀(f:Nat) (l:List UInt8),l.length<f->(∀w∈j6 l,cw w)->lS f l=some (j6 l)
 |0,_,h,_=>by omega
 |f+1,[],_,_=>by rw[C7,lI rfl]
 |f+1,c::t,hl,h=>by
  simp only[aI] at hl;by_cases hc:c=32
  ·rw[hc,xP] at h⊢;rw[wJ];exact IP f t (by omega) h
  ·rw[TR hc] at h⊢;have hk:=a0u hc (h (NK (c::t)) (by simp));have hp:=oQ c t;rw[wK f hc,hk];simp only;rw[IP f _ (by simp;omega) (fun w hw=>h w (by simp[hw]))];rfl
theorem IM:∀{ts r:List By} {t:Term},iB dM ts=some (t,r)->∃pre,ts=pre++r/\∀w∈pre,cw w
 |[],r,t,h=>by cases h
 |w::ts,r,t,h=>by
  unfold iB at h;split at h
  ·rename_i hw;split at h
   ·rename_i h1;split at h
    ·cases h
    ·cases h;obtain⟨pre,rfl,hp⟩:=IM h1;refine⟨w::pre,rfl,fun x hx=>?_⟩;rcases List.mem_cons.1 hx with rfl|hx
     ·exact .inr (.inr (.inr (.inr (.inl hw))))
     ·exact hp x hx
   ·cases h
  ·split at h
   ·rename_i hn;cases h;simp only[aF] at hn;exact⟨[w],rfl,fun x hx=>by rw[List.mem_singleton.1 hx];exact .inl hn.1⟩
   ·split at h
    ·rename_i v hv;cases h;exact⟨[w],rfl,fun x hx=>by rw[List.mem_singleton.1 hx];exact .inr (.inl (by rw[hv];rfl))⟩
    ·cases h
theorem AL {ts r:List By} {w:By} (hw:cw w) (h:∃pre,ts=pre++r/\∀w∈pre,cw w):∃pre,w::ts=pre++r/\∀w∈pre,cw w:=by
 obtain⟨pre,rfl,hp⟩:=h;exact⟨w::pre,rfl,fun x hx=>by
  rcases List.mem_cons.1 hx with rfl|hx
  ·exact hw
  ·exact hp x hx⟩
theorem xG {ts r r':List By} (h:∃pre,ts=pre++r/\∀w∈pre,cw w) (h':∃pre,r=pre++r'/\∀w∈pre,cw w):∃pre,ts=pre++r'/\∀w∈pre,cw w:=by
 obtain⟨p,rfl,hp⟩:=h;obtain⟨q,rfl,hq⟩:=h';exact⟨p++q,by simp,fun x hx=>(List.mem_append.1 hx).elim (hp x) (hq x)⟩
theorem DU (r:List By):∃pre,r=pre++r/\∀w∈pre,cw w:=⟨[],rfl,fun _ h=>by cases h⟩
theorem a8B:cw EA/\cw oS/\cw kX/\cw m8/\cw kN:=⟨.inl (by decide),.inl (by decide),.inl (by decide),.inl (by decide),.inl (by decide)⟩
theorem nD:∀(f:Nat) (m:Md) (lv d:Nat) (ts r:List By) (t:Tree) (e:Nat),bU dM f m lv d ts=some (t,r,e)->∃pre,ts=pre++r/\∀w∈pre,cw w
 |0,m,lv,d,ts,r,t,e,h=>by cases h
 |f+1,.or,lv,d,ts,r,t,e,h=>by
  unfold bU at h;split at h
  ·rename_i n r1 e1 h1;exact xG (nD f _ _ _ _ _ _ _ h1) (nD f _ _ _ _ _ _ _ h)
  ·cases h
 |f+1,.orL n,lv,d,ts,r,t,e,h=>by
  unfold bU at h;split at h
  ·rename_i hd;obtain⟨r0,rfl⟩:=fU hd (by decide);split at h
   ·rename_i n r1 e1 h1;exact AL a8B.1 (xG (nD f _ _ _ _ _ _ _ h1) (nD f _ _ _ _ _ _ _ h))
   ·cases h
  ·cases h;exact DU _
 |f+1,.and,lv,d,ts,r,t,e,h=>by
  unfold bU at h;split at h
  ·rename_i n r1 e1 h1;exact xG (nD f _ _ _ _ _ _ _ h1) (nD f _ _ _ _ _ _ _ h)
  ·cases h
 |f+1,.andL n,lv,d,ts,r,t,e,h=>by
  unfold bU at h;split at h
  ·rename_i hd;obtain⟨r0,rfl⟩:=fU hd (by decide);split at h
   ·rename_i n r1 e1 h1;exact AL a8B.2.1 (xG (nD f _ _ _ _ _ _ _ h1) (nD f _ _ _ _ _ _ _ h))
   ·cases h
  ·cases h;exact DU _
 |f+1,.not,lv,d,ts,r,t,e,h=>by
  unfold bU at h;split at h
  ·rename_i hd;obtain⟨r0,rfl⟩:=fU hd (by decide);split at h
   ·rename_i n r1 e1 h1;cases h;exact AL a8B.2.2.1 (nD f _ _ _ _ _ _ _ h1)
   ·cases h
  ·exact nD f _ _ _ _ _ _ _ h
 |f+1,.prim,lv,d,ts,r,t,e,h=>by
  unfold bU at h;split at h
  ·rename_i hd;obtain⟨r0,rfl⟩:=fU hd (by decide);cases h;exact AL a8B.2.2.2.1 (DU _)
  ·split at h
   ·rename_i hd;obtain⟨r0,rfl⟩:=fU hd (by decide);cases h;exact AL a8B.2.2.2.2 (DU _)
   ·split at h
    ·rename_i hd;obtain⟨r0,rfl⟩:=fU hd (by decide);split at h
     ·rename_i n r1 e1 h1;split at h
      ·rename_i hr;obtain⟨r2,rfl⟩:=fU hr (by decide);cases h;exact AL (.inr (.inr (.inl rfl))) (xG (nD f _ _ _ _ _ _ _ h1) (AL (.inr (.inr (.inr (.inl rfl)))) (DU _)))
      ·cases h
     ·cases h
    ·split at h
     ·rename_i a r1 h1;split at h
      ·rename_i hrel;split at h
       ·rename_i b r2 h2;cases h;refine xG (IM h1) ?_;obtain⟨q,hq⟩:∃q,r1=r1.headD []::q:=by
         cases r1 with
         |nil=>exact absurd hrel (by decide)
         |cons a q=>exact⟨q,rfl⟩
        conv=>enter [1,pre];rw[hq]
        refine AL (.inr (.inr (.inr (.inr (.inr hrel))))) ?_;have:r1.tail=q:=by rw[hq];rfl
        rw[<-this];exact IM h2
       ·cases h
      ·cases h
     ·cases h
def jH (s:By):RdE:=if 1000<s.length then .err 3 else match EI s with
 |none=>.err 2
 |some ws=>match bU jQ (kM s) .or 0 0 ws with
  |some (t,r,e)=>if r=[] then(if 20<e then .err 4 else .ok t) else .err 2
  |none=>.err 2
theorem rO (s:By):iP s=match jH s with
  |.ok t=>.ok t.flat
  |.err e=>.err e:=by
 have hl:jQ=dM:=funext HO;unfold iP jH;by_cases h1:1000<s.length
 ·rw[aD h1,aD h1]
 ·rw[aC h1,aC h1,hl];cases hs:EI s with
  |some ws=>
   rw[zM _ _ _ hs];simp only;cases hp:bU dM (kM s) .or 0 0 ws with
   |none=>rfl
   |some p=>
    obtain⟨t,r,e⟩:=p;simp only;cases r with
    |nil=>
     simp only[List.headD_nil,beq_self_eq_true,f7];split<;>rfl
    |cons w r=>
     have hne:w≠[]:=by
      obtain⟨pre,e1,_⟩:=nD _ _ _ _ _ _ _ _ hp;exact NS s.length s (rL _) w (by rw[zM _ _ _ hs,e1];simp)
     rw[aC (by simpa using hne),aC (by simp)]
  |none=>
   simp only;cases hp:bU dM (kM s) .or 0 0 (j6 s) with
   |none=>rfl
   |some p=>
    obtain⟨t,r,e⟩:=p;simp only;obtain⟨pre,e1,h2⟩:=nD _ _ _ _ _ _ _ _ hp;cases r with
    |nil=>
     exfalso;rw[f5] at e1;have:=IP (s.length+1) s (by omega) (by rw[e1];exact h2);unfold EI at hs;rw[hs] at this;cases this
    |cons w r=>
     have hne:w≠[]:=NS s.length s (rL _) w (by rw[e1];simp);rw[aC (by simpa using hne)]
