/-
  A part of the proof of SchemaFinds.
-/
import Derived.Test.YtcfgfkkhpdlhpaaGreatDoorT35
set_option linter.all false
set_option maxRecDepth 100000
namespace Go.Proofs.YtcfgfkkhpdlhpaaGreatDoor
theorem qY:∀t:Tree,t.nice->t.plain.length<=400*t.size
 |.pair a l r,h=>by
  have h1:=qY l h.1;have h2:=qY r h.2;have p1:=qI (decide (l.level<lD a)) l.plain;have p2:=qI (decide (r.level<lD a)) r.plain;have s:(l9 a).length<=5:=by cases a<;>decide
  simp only[Tree.plain,Tree.size,aD];omega
 |.no t,h=>by
  have h1:=qY t h;have p1:=qI (decide (t.level<4)) t.plain;have s:kC.length=3:=rfl;simp only[Tree.plain,Tree.size,aD,aJ,b5];omega
 |.test op l r,h=>by
  have h1:=h.1;have h2:=h.2.1.2;have h3:=h.2.2.2;simp only[Tree.plain,Tree.size,aD,aJ,b5];omega
 |.truth b,h=>by cases b<;>decide
def sB:Option Tree->Nat
 |none=>0
 |some t=>t.size+1
def SS:Option Tree->Prop
 |none=>True
 |some t=>t.nice
theorem uV (a:Bool) (acc:Option Tree) (t:Tree):(rD a acc t).size=sB acc+t.size:=by
 cases acc<;>simp[rD,sB,Tree.size];omega
theorem uW (a:Bool) {acc:Option Tree} {t:Tree} (h:SS acc) (h':t.nice):(rD a acc t).nice:=by
 cases acc with
 |none=>exact h'
 |some x=>exact⟨h,h'⟩
theorem nX (a:Bool):∀(t:Tree) (acc:Option Tree),(dY a acc t).size=sB acc+t.size
 |.pair b l r,acc=>by
  unfold dY;split
  ·rw[nX a r,sB,nX a l];simp only[Tree.size];omega
  ·rw[uV,nX b r,sB,nX b l];simp only[Tree.size,sB];omega
 |.no t,acc=>by
  unfold dY;rw[uV];simp only[Tree.size];rw[nX true t,sB];omega
 |.test _ _ _,acc=>by unfold dY;rw[uV]
 |.truth _,acc=>by unfold dY;rw[uV]
theorem qN (t:Tree):t.flat.size=t.size:=by
 unfold Tree.flat;rw[nX,sB];omega
theorem nY (a:Bool):∀(t:Tree) (acc:Option Tree),SS acc->t.nice->(dY a acc t).nice
 |.pair b l r,acc,h,ht=>by
  unfold dY;split
  ·exact nY a r _ (nY a l _ h ht.1) ht.2
  ·exact uW a h (nY b r _ (nY b l _ trivial ht.1) ht.2)
 |.no t,acc,h,ht=>by unfold dY;exact uW a h (nY true t _ trivial ht)
 |.test _ _ _,acc,h,ht=>by unfold dY;exact uW a h ht
 |.truth _,acc,h,ht=>by unfold dY;exact uW a h ht
theorem u7 {t:Tree} (h:t.nice):t.flat.nice:=nY true t none trivial h
def Md.sz:Md->Nat
 |.orL n=>n.size
 |.andL n=>n.size
 |_=>0
theorem jR {lit:By->Option Val}:∀(f:Nat) (m:Md) (lv d:Nat) (ts r:List By) (t:Tree) (e:Nat),bP lit f m lv d ts=some (t,r,e)->t.size+r.length<=m.sz+ts.length
 |0,m,lv,d,ts,r,t,e,h=>by cases h
 |f+1,.or,lv,d,ts,r,t,e,h=>by
  unfold bP at h;split at h
  ·rename_i n r1 e1 h1;have a:=jR f _ _ _ _ _ _ _ h1;have b:=jR f _ _ _ _ _ _ _ h;simp only[Md.sz] at*;omega
  ·cases h
 |f+1,.orL n,lv,d,ts,r,t,e,h=>by
  unfold bP at h;split at h
  ·rename_i hd;obtain⟨r0,rfl⟩:=fY hd (by decide);split at h
   ·rename_i n r1 e1 h1;have a:=jR f _ _ _ _ _ _ _ h1;have b:=jR f _ _ _ _ _ _ _ h;simp only[Md.sz,Tree.size,gV,aJ] at*;omega
   ·cases h
  ·cases h;exact rL _
 |f+1,.and,lv,d,ts,r,t,e,h=>by
  unfold bP at h;split at h
  ·rename_i n r1 e1 h1;have a:=jR f _ _ _ _ _ _ _ h1;have b:=jR f _ _ _ _ _ _ _ h;simp only[Md.sz] at*;omega
  ·cases h
 |f+1,.andL n,lv,d,ts,r,t,e,h=>by
  unfold bP at h;split at h
  ·rename_i hd;obtain⟨r0,rfl⟩:=fY hd (by decide);split at h
   ·rename_i n r1 e1 h1;have a:=jR f _ _ _ _ _ _ _ h1;have b:=jR f _ _ _ _ _ _ _ h;simp only[Md.sz,Tree.size,gV,aJ] at*;omega
   ·cases h
  ·cases h;exact rL _
 |f+1,.not,lv,d,ts,r,t,e,h=>by
  unfold bP at h;split at h
  ·rename_i hd;obtain⟨r0,rfl⟩:=fY hd (by decide);split at h
   ·rename_i n r1 e1 h1;cases h;have a:=jR f _ _ _ _ _ _ _ h1;simp only[Md.sz,Tree.size,gV,aJ] at*;omega
   ·cases h
  ·have a:=jR f _ _ _ _ _ _ _ h;simp only[Md.sz] at*;omega
 |f+1,.prim,lv,d,ts,r,t,e,h=>by
  unfold bP at h;split at h
  ·rename_i hd;obtain⟨r0,rfl⟩:=fY hd (by decide);cases h;simp only[Md.sz,Tree.size,gV,aJ];omega
  ·split at h
   ·rename_i hd;obtain⟨r0,rfl⟩:=fY hd (by decide);cases h;simp only[Md.sz,Tree.size,gV,aJ];omega
   ·split at h
    ·rename_i hd;obtain⟨r0,rfl⟩:=fY hd (by decide);split at h
     ·rename_i n r1 e1 h1;have a:=jR f _ _ _ _ _ _ _ h1;split at h
      ·rename_i hr;obtain⟨r2,rfl⟩:=fY hr (by decide);cases h;simp only[Md.sz,gV,aJ] at*;omega
      ·cases h
     ·cases h
    ·split at h
     ·rename_i a r1 h1;have l1:=pZ h1;split at h
      ·split at h
       ·rename_i b r2 h2;have l2:=pZ h2;cases h;simp only[Md.sz,Tree.size,List.length_tail] at*;omega
       ·cases h
      ·cases h
     ·cases h
theorem FN {w:By} {v:Val} (h:cL w=some v):v.ok=true:=by
 have q:∀{v},jQ w=some v->v.ok=true:=fun{v} h=>by
  unfold jQ at h;split at h
  ·rename_i v' hp;split at h
   ·cases h;unfold eT at hp;split at hp
    ·cases hp
    ·split at hp
     ·split at hp
      ·rename_i vs _ hc;cases hp;simp only[aH] at hc;have:=hc.1;rw[B8] at this;exact this
      ·cases hp
     ·cases hp
   ·cases h
  ·cases h
 unfold cL at h;split at h
 ·split at h
  ·rename_i hc;cases h;exact hc.2
  ·exact q h
 ·exact q h
theorem CD {v:Val} (h:v.ok=true):(eV v).length<=170:=by
 have:=IB h;unfold eV;split
 ·have:=Lib.itoa_length_le v.n (by omega) (by omega);omega
 ·have:=AJ v.s;simp only[oV,aJ,aD,b5];omega
theorem yN:∀{ts r:List By} {t:Term},gB cL ts=some (t,r)->t.name.length<=16/\t.txt.length<=180
 |[],r,t,h=>by cases h
 |w::ts,r,t,h=>by
  unfold gB at h;split at h
  ·split at h
   ·rename_i t' r' h1;have ih:=yN h1;split at h
    ·cases h
    ·cases h;refine⟨ih.1,?_⟩;show(58::t'.name).length<=180;simp;omega
   ·cases h
  ·split at h
   ·rename_i hn;cases h;simp only[aH] at hn;have hl:w.length<=16:=by
     have:=hn.1;unfold fV at this;split at this
     ·simp
     ·simp only[aH,aL] at this;exact this.1.1
    refine⟨hl,?_⟩;show(if w≠[] then w else PC v0).length<=180;split
    ·omega
    ·decide
   ·split at h
    ·rename_i v hv;cases h;refine⟨zL _,?_⟩;show(PC v).length<=180;unfold PC;rw[FN hv,aG rfl];have:=CD (FN hv);omega
    ·cases h
def Md.nice:Md->Prop
 |.orL n=>n.nice
 |.andL n=>n.nice
 |_=>True
theorem B9 {w:By} (h:mU w=true):w.length<=2:=by
 simp only[mU,TC,List.contains_eq_mem,aL,List.mem_cons,List.not_mem_nil,or_false] at h;rcases h with rfl|rfl|rfl|rfl|rfl|rfl<;>decide
theorem kB:∀(f:Nat) (m:Md) (lv d:Nat) (ts r:List By) (t:Tree) (e:Nat),bP cL f m lv d ts=some (t,r,e)->m.nice->t.nice
 |0,m,lv,d,ts,r,t,e,h,_=>by cases h
 |f+1,.or,lv,d,ts,r,t,e,h,_=>by
  unfold bP at h;split at h
  ·rename_i n r1 e1 h1;exact kB f _ _ _ _ _ _ _ h (kB f _ _ _ _ _ _ _ h1 trivial)
  ·cases h
 |f+1,.orL n,lv,d,ts,r,t,e,h,hn=>by
  unfold bP at h;split at h
  ·split at h
   ·rename_i n r1 e1 h1;exact kB f _ _ _ _ _ _ _ h ⟨hn,kB f _ _ _ _ _ _ _ h1 trivial⟩
   ·cases h
  ·cases h;exact hn
 |f+1,.and,lv,d,ts,r,t,e,h,_=>by
  unfold bP at h;split at h
  ·rename_i n r1 e1 h1;exact kB f _ _ _ _ _ _ _ h (kB f _ _ _ _ _ _ _ h1 trivial)
  ·cases h
 |f+1,.andL n,lv,d,ts,r,t,e,h,hn=>by
  unfold bP at h;split at h
  ·split at h
   ·rename_i n r1 e1 h1;exact kB f _ _ _ _ _ _ _ h ⟨hn,kB f _ _ _ _ _ _ _ h1 trivial⟩
   ·cases h
  ·cases h;exact hn
 |f+1,.not,lv,d,ts,r,t,e,h,_=>by
  unfold bP at h;split at h
  ·split at h
   ·rename_i n r1 e1 h1;cases h;show n.nice;exact kB f .prim _ _ _ _ _ _ h1 trivial
   ·cases h
  ·exact kB f .prim _ _ _ _ _ _ h trivial
 |f+1,.prim,lv,d,ts,r,t,e,h,_=>by
  unfold bP at h;split at h
  ·cases h;trivial
  ·split at h
   ·cases h;trivial
   ·split at h
    ·split at h
     ·rename_i n r1 e1 h1;split at h
      ·cases h;exact kB f .or _ _ _ _ _ _ h1 trivial
      ·cases h
     ·cases h
    ·split at h
     ·rename_i a r1 h1;split at h
      ·rename_i hrel;split at h
       ·rename_i b r2 h2;cases h;exact⟨B9 hrel,yN h1,yN h2⟩
       ·cases h
      ·cases h
     ·cases h
open Go.RowKit
theorem TT:∀a:Fin 256,∀x:Fin 16,r6 (UInt8.ofNat a)=some x.val->dT x=UInt8.ofNat a:=by decide+kernel
theorem MQ {a:UInt8} {x:Nat} (h:r6 a=some x):dT x=a:=by
 have hx:=A5 h;have ha:UInt8.ofNat a.toNat=a:=UInt8.ofNat_toNat;have:=TT ⟨a.toNat,cJ a⟩ ⟨x,hx⟩ (by show r6 (UInt8.ofNat a.toNat)=some x;rw[ha];exact h);exact this.trans ha
theorem U3:∀k:Fin 16,r6 (dT k)=some k.val/\sM (dT k)=some k.val/\dT k≠34/\dT k≠92:=by decide+kernel
theorem tU {k:Nat} (h:k<16):r6 (dT k)=some k/\sM (dT k)=some k/\dT k≠34/\dT k≠92:=U3 ⟨k,h⟩
theorem SF {c:UInt8} (h:c=34∨c=92):mM c=[92,c]:=by unfold mM;rw[aG h]
theorem SG {c:UInt8} (h:c.toNat<32∨126<c.toNat):mM c=[92,120,dT (c.toNat / 16),dT (c.toNat%16)]:=by
 unfold mM;rw[aE (fun e=>by rcases e with rfl|rfl<;>revert h<;>decide),aG h]
theorem SH {c:UInt8} (h:c≠34) (h':c≠92) (hb:¬(c.toNat<32∨126<c.toNat)):mM c=[c]:=by
 unfold mM;rw[aE (fun e=>e.elim h h'),aE hb]
theorem oG {m:Nat} (h:m<256):(UInt8.ofNat m).toNat=m:=by
 rw[UInt8.toNat_ofNat'];exact Nat.mod_eq_of_lt h
theorem a0D {a b:UInt8} {x y:Nat} (ha:r6 a=some x) (hb:r6 b=some y) (h:¬(32<=16*x+y/\16*x+y<=126)):mM (UInt8.ofNat (16*x+y))=[92,120,a,b]:=by
 have hx:=A5 ha;have hy:=A5 hb;have hm:(UInt8.ofNat (16*x+y)).toNat=16*x+y:=oG (by omega);rw[SG (by rw[hm];omega),hm,show(16*x+y) / 16=x by omega,show(16*x+y)%16=y by omega,MQ ha,MQ hb]
theorem xJ:∀(n:Nat) {l t r:List UInt8},l.length<=n->rq l=some (t,r)->l=t.flatMap mM++34::r
 |0,l,t,r,h,e=>by
  cases l with
  |nil=>cases e
  |cons _ _=>simp at h
 |n+1,[],t,r,h,e=>by cases e
 |n+1,c::l,t,r,h,e=>by
  have hl:l.length<=n:=by simp at h;omega
  by_cases h34:c=34
  ·rw[h34,QX] at e;cases e;rw[h34];rfl
  ·by_cases hb:c.toNat<32∨126<c.toNat
   ·rw[JJ h34 hb] at e;cases e
   ·by_cases h92:c=92
    ·subst h92;by_cases hx:∃a b l2,l=120::a::b::l2
     ·obtain⟨a,b,l2,rfl⟩:=hx;rw[ZH] at e;split at e
      ·rename_i x hnx;split at e
       ·rename_i y hny;split at e
        ·cases e
        ·rename_i hr;cases hq:rq l2 with
         |none=>rw[hq] at e;cases e
         |some p=>
          rw[hq] at e;cases e;have:=xJ n (l:=l2) (t:=p.1) (r:=p.2) (by simp at hl;omega) hq;rw[f9,a0D hnx hny hr,bD,<-this];rfl
       ·cases e
      ·cases e
     ·by_cases he:∃c' l1,l=c'::l1/\(c'=34∨c'=92)
      ·obtain⟨c',l1,rfl,hc'⟩:=he;rw[F0 hc'] at e;cases hq:rq l1 with
       |none=>rw[hq] at e;cases e
       |some p=>
        rw[hq] at e;cases e;have:=xJ n (l:=l1) (t:=p.1) (r:=p.2) (by simp at hl;omega) hq;rw[f9,SF hc',bD,<-this];rfl
      ·rw[zU (fun e0 r1 h1=>⟨fun h=>he ⟨e0,r1,h1,h⟩,fun h a b r2 h2=>hx ⟨a,b,r2,by rw[h1,h,h2]⟩⟩)] at e;cases e
    ·rw[ZI h34 hb h92] at e;cases hq:rq l with
     |none=>rw[hq] at e;cases e
     |some p=>
      rw[hq] at e;cases e;have:=xJ n (l:=l) (t:=p.1) (r:=p.2) hl hq;rw[f9,SH h34 h92 hb,bD,<-this];rfl
theorem a0i (t r:List UInt8):rq (t.flatMap mM++34::r)=some (t,r):=by
 induction t with
 |nil=>exact QX r
 |cons c t ih=>
  rw[f9,bD];by_cases h:c=34∨c=92
  ·rw[SF h];show rq (92::c::(t.flatMap mM++34::r))=_;rw[F0 h,ih];rfl
  ·by_cases hb:c.toNat<32∨126<c.toNat
   ·rw[SG hb];show rq (92::120::dT (c.toNat / 16)::dT (c.toNat%16)::(t.flatMap mM++34::r))=_;have hlt:=cJ c;rw[ZH,(tU (k:=c.toNat / 16) (by omega)).1,(tU (k:=c.toNat%16) (by omega)).1];show(if 32<=16*(c.toNat / 16)+c.toNat%16/\16*(c.toNat / 16)+c.toNat%16<=126 then none else(rq (t.flatMap mM++34::r)).map fun p=>(UInt8.ofNat (16*(c.toNat / 16)+c.toNat%16)::p.1,p.2))=_;rw[aE (by omega),ih,show 16*(c.toNat / 16)+c.toNat%16=c.toNat by omega,UInt8.ofNat_toNat];rfl
   ·rw[SH (fun e=>h (.inl e)) (fun e=>h (.inr e)) hb];show rq (c::(t.flatMap mM++34::r))=_;rw[ZI (fun e=>h (.inl e)) hb (fun e=>h (.inr e)),ih];rfl
theorem a0g (t r:List UInt8):rt (t.flatMap mM++34::r)=some (t,r):=by
 induction t with
 |nil=>exact W6 r
 |cons c t ih=>
  rw[f9,bD];by_cases h:c=34∨c=92
  ·rw[SF h];show rt (92::c::(t.flatMap mM++34::r))=_;rw[W5 (by rcases h with rfl|rfl<;>decide),ih];rfl
  ·by_cases hb:c.toNat<32∨126<c.toNat
   ·rw[SG hb];show rt (92::120::dT (c.toNat / 16)::dT (c.toNat%16)::(t.flatMap mM++34::r))=_;have hlt:=cJ c;have h2:AC (dT (c.toNat / 16)) (dT (c.toNat%16))=some c.toNat:=by
     unfold AC;rw[(tU (k:=c.toNat / 16) (by omega)).2.1,(tU (k:=c.toNat%16) (by omega)).2.1];show some (16*(c.toNat / 16)+c.toNat%16)=_;congr 1;omega
    rw[a1S,h2];show((rt (t.flatMap mM++34::r)).map fun p=>(UInt8.ofNat c.toNat::p.1,p.2))=_;rw[ih,UInt8.ofNat_toNat];rfl
   ·rw[SH (fun e=>h (.inl e)) (fun e=>h (.inr e)) hb];show rt (c::(t.flatMap mM++34::r))=_;rw[a1T (fun e=>h (.inl e)) (fun e=>h (.inr e)),ih];rfl
theorem R7 (t r:List UInt8):mQ (t.flatMap mM++34::r)=(t.flatMap mM).length:=by
 induction t with
 |nil=>exact JP r
 |cons c t ih=>
  rw[f9,bD,aD];by_cases h:c=34∨c=92
  ·rw[SF h];show mQ (92::c::(t.flatMap mM++34::r))=_;rw[DT,ih];rfl
  ·by_cases hb:c.toNat<32∨126<c.toNat
   ·rw[SG hb];show mQ (92::120::dT (c.toNat / 16)::dT (c.toNat%16)::(t.flatMap mM++34::r))=_;have hlt:=cJ c;have h1:=tU (k:=c.toNat / 16) (by omega);have h2:=tU (k:=c.toNat%16) (by omega);rw[DT,F9 h1.2.2.1 h1.2.2.2,F9 h2.2.2.1 h2.2.2.2,ih];simp only[aJ,b5];omega
   ·rw[SH (fun e=>h (.inl e)) (fun e=>h (.inr e)) hb];show mQ (c::(t.flatMap mM++34::r))=_;rw[F9 (fun e=>h (.inl e)) (fun e=>h (.inr e)),ih];rfl
theorem sQ:∀(v:List UInt8) (a:Nat),a<=v.foldl (fun a c=>10*a+(c.toNat - 48)) a
 |[],a=>rL _
 |c::v,a=>e8 (by omega) (sQ v (10*a+(c.toNat - 48)))
theorem kD (c:UInt8):cR c=true↔48<=c.toNat/\c.toNat<=57:=by simp[cR]
theorem Q7:∀(k:Nat) (w:List UInt8),w.length=k+1->(∀c∈w,cR c=true)->(1<w.length->w.head?≠some 48)->Lib.decDigits (jK w)=w
 |0,w,hl,hd,_=>by
  obtain⟨c,rfl⟩:=List.length_eq_one_iff.1 hl;have:=(kD c).1 (hd c (by simp));rw[Lib.decDigits,dif_pos (by simp[jK];omega)];congr 1;apply UInt8.toNat_inj.1;rw[oG (by simp[jK];omega)];simp[jK];omega
 |k+1,w,hl,hd,h0=>by
  obtain⟨v,c,rfl⟩:∃v c,w=v++[c]:=⟨w.dropLast,w.getLast (by intro e;simp[e] at hl),(List.dropLast_concat_getLast _).symm⟩;simp at hl;have hc:=(kD c).1 (hd c (by simp));have hpos:1<=jK v:=by
   cases v with
   |nil=>simp at hl
   |cons a v=>
    have ha:=(kD a).1 (hd a (by simp));have h1:=h0 (by simp);have hne:a.toNat≠48:=fun e=>h1 (by simp;exact UInt8.toNat_inj.1 e);have:=sQ v (10*0+(a.toNat - 48));show 1<=List.foldl _ _ _;rw[hZ];omega
  have ih:=Q7 k v hl (fun x hx=>hd x (by simp[hx])) (fun h1=>by
   have:=h0 (by simp;omega);cases v with
   |nil=>simp at h1
   |cons a v=>exact this)
  rw[uA,Lib.decDigits,dif_neg (by omega),show(10*jK v+(c.toNat - 48)) / 10=jK v by omega,ih];congr 2;apply UInt8.toNat_inj.1;rw[oG (by omega)];omega
theorem rJ (u:Nat):(∀c∈Lib.decDigits u,cR c=true)/\jK (Lib.decDigits u)=u/\Lib.decDigits u≠[]/\(1<(Lib.decDigits u).length->(Lib.decDigits u).head?≠some 48)/\(1<=u->(Lib.decDigits u).head?≠some 48):=by
 induction u using Nat.strongRecOn with
 |_ u ih=>
  rw[Lib.decDigits];by_cases h:u<10
  ·rw[dif_pos h];refine⟨fun c hc=>?_,?_,by simp,fun h1=>by simp at h1,fun h1=>?_⟩
   ·rw[List.mem_singleton.1 hc,kD,oG (by omega)];omega
   ·show 10*0+((UInt8.ofNat (48+u)).toNat - 48)=u;rw[oG (by omega)];omega
   ·intro e;have e:=aY e;have:=aQ UInt8.toNat e;rw[oG (by omega)] at this;replace this:48+u=(48:UInt8).toNat:=this;rw[show(48:UInt8).toNat=48 from rfl] at this;omega
  ·rw[dif_neg h];obtain⟨i1,i2,i3,i4,i5⟩:=ih (u / 10) (by omega);have hh:(Lib.decDigits (u / 10)++[UInt8.ofNat (48+u%10)]).head?=(Lib.decDigits (u / 10)).head?:=by
    cases hd:Lib.decDigits (u / 10) with
    |nil=>exact absurd hd i3
    |cons a v=>rfl
   refine⟨fun c hc=>?_,?_,by simp,fun _=>by rw[hh];exact i5 (by omega),fun _=>by rw[hh];exact i5 (by omega)⟩
   ·rcases List.mem_append.1 hc with hc|hc
    ·exact i1 c hc
    ·rw[List.mem_singleton.1 hc,kD,oG (by omega)];omega
   ·rw[uA,i2,oG (by omega)];omega
theorem RM:∀(k u:Nat),u<10^(k+1)->Lib.nDigits u<=k+1
 |0,u,h=>by rw[Lib.nDigits_small (by simpa using h)];omega
 |k+1,u,h=>by
  by_cases h10:u<10
  ·rw[Lib.nDigits_small h10];omega
  ·rw[Lib.nDigits_big h10];have:=RM k (u / 10) (by rw[Nat.pow_succ] at h;omega);omega
theorem a17 {p:UInt8->Bool} {l:List UInt8} (h:∀c∈l,p c=true):l.takeWhile p=l:=by
 induction l with
 |nil=>rfl
 |cons c l ih=>rw[eU,aG (h c (by simp)),ih (fun d hd=>h d (by simp[hd]))]
theorem NY {l:List UInt8} (h:∀c∈l,cR c=true) (hl:l.length<=16):eK l=l.length:=by
 unfold eK;rw[a17 h];omega
theorem J2 {l:List UInt8} (h:eK l=l.length):∀c∈l,cR c=true:=by
 have h1:=LA (l:=l) (j:=l.length) (by omega);rwa [b7] at h1
theorem P7 {l:List UInt8} (h45:l.head?≠some 45):jW l=if eK l=0∨(1<eK l/\l.head?=some 48)∨17<=eK l then(0,0) else((jK (l.take (eK l)):Int),eK l):=by
 unfold jW;simp only[h45,decide_false,bT,fR,false_and,false_or,bB]
theorem P8 {l:List UInt8}:jW (45::l)=if eK l=0∨(1<eK l/\l.head?=some 48)∨jK (l.take (eK l))=0∨17<=eK l then(0,0) else(-(jK (l.take (eK l)):Int),1+eK l):=by
 unfold jW;simp only[List.head?_cons,decide_true,fP,gV,true_and]
theorem WU {w:List UInt8} (hne:w≠[]) (h:(jW w).2=w.length):Lib.itoa (jW w).1=w:=by
 by_cases h45:w.head?=some 45
 ·obtain⟨l,rfl⟩:∃l,w=45::l:=by
   cases w with
   |nil=>cases h45
   |cons c l=>simp at h45;exact⟨l,by rw[h45]⟩
  rw[P8] at h⊢;split at h
  ·simp at h
  ·rename_i hc;rw[aE hc];have hl:eK l=l.length:=by simp at h;omega
   rw[hl,b7] at hc⊢;have hd:=J2 hl;show Lib.itoa (-(jK l:Int))=_;unfold Lib.itoa;rw[aG (by omega),show(-(jK l:Int)).natAbs=jK l by omega,Q7 (l.length - 1) l (by omega) hd (fun h1 e=>hc (.inr (.inl ⟨h1,e⟩)))]
 ·rw[P7 h45] at h⊢;split at h
  ·have:w.length=0:=h.symm;exact absurd (aN this) hne
  ·rename_i hc;rw[aE hc];have hl:eK w=w.length:=h;rw[hl] at hc⊢;rw[b7];have hd:=J2 hl;show Lib.itoa (jK w:Int)=_;unfold Lib.itoa;rw[aE (by omega),show((jK w:Nat):Int).toNat=jK w by omega,Q7 (w.length - 1) w (by omega) hd (fun h1 e=>hc (.inr (.inl ⟨h1,e⟩)))]
theorem J3 {u:Nat} (h:u<=1000000000):(Lib.decDigits u).length<=16:=by
 rw[Lib.decDigits_length];have:=RM 9 u (by omega);omega
theorem XZ (u:Nat):(Lib.decDigits u).head?≠some 45:=by
 obtain⟨h1,_,h3,_⟩:=rJ u;intro e;cases hd:Lib.decDigits u with
 |nil=>exact h3 hd
 |cons a v=>
  rw[hd] at e h1;simp at e;have:=h1 a (by simp);rw[e] at this;revert this;decide
theorem XE {n:Int} (h0: -1000000000<=n) (h1:n<=1000000000):jW (Lib.itoa n)=(n,(Lib.itoa n).length):=by
 unfold Lib.itoa;by_cases hn:n<0
 ·rw[aG hn,P8];obtain⟨d1,d2,d3,d4,d5⟩:=rJ n.natAbs;have hl:=J3 (u:=n.natAbs) (by omega);have hp:(Lib.decDigits n.natAbs).length≠0:=fun e=>d3 (aN e);rw[NY d1 hl,b7,d2,aE (by
   rintro(h|⟨h,h'⟩|h|h)
   ·exact hp h
   ·exact d4 h h'
   ·omega
   ·omega)]
  simp only[aJ];congr 1
  ·omega
  ·omega
 ·rw[aE hn,P7 (XZ _)];obtain⟨d1,d2,d3,d4,d5⟩:=rJ n.toNat;have hl:=J3 (u:=n.toNat) (by omega);have hp:(Lib.decDigits n.toNat).length≠0:=fun e=>d3 (aN e);rw[NY d1 hl,b7,d2,aE (by
   rintro(h|⟨h,h'⟩|h)
   ·exact hp h
   ·exact d4 h h'
   ·omega)]
  congr 1;omega
theorem MM:∀(l:List UInt8) (acc:Nat),(∀c∈l,cR c=true)->l.foldl (fun a c=>10*a+(c.toNat - 48)) acc<1000000000000000000->Lib.parseUint10 acc l=.ok (l.foldl (fun a c=>10*a+(c.toNat - 48)) acc)
 |[],acc,_,_=>rfl
 |c::r,acc,hd,hb=>by
  have hc:=(kD c).1 (hd c (by simp));rw[hZ] at hb⊢;have hle:=sQ r (10*acc+(c.toNat - 48));unfold Lib.parseUint10;rw[aG hc,aE (by omega),aE (by omega),show acc*10+(c.toNat - 48)=10*acc+(c.toNat - 48) by omega];exact MM r _ (fun x hx=>hd x (by simp[hx])) hb
theorem X1 {u:Nat} (h:u<1000000000000000000):Lib.parseMag (Lib.decDigits u)=.ok u:=by
 obtain⟨d1,d2,d3,_⟩:=rJ u;unfold Lib.parseMag;rw[aE d3,MM _ 0 d1 (by show jK _<_;rw[d2];exact h)];show Lib.NumEnd.ok (jK _)=_;rw[d2]
theorem J5 {n:Int} (h0: -1000000000<=n) (h1:n<=1000000000):Lib.atoiAll (Lib.itoa n)=.ok n:=by
 unfold Lib.itoa;by_cases hn:n<0
 ·rw[aG hn];unfold Lib.atoiAll;simp only[show((45:UInt8).toNat=43∨(45:UInt8).toNat=45) from .inr rfl,fP];rw[X1 (by omega)];simp only[show(45:UInt8).toNat=45 from rfl,not_true,false_and,fR,true_and,fP];rw[aE (by omega)];congr 1;omega
 ·rw[aE hn];obtain⟨d1,d2,d3,_⟩:=rJ n.toNat;have hm:=X1 (u:=n.toNat) (by omega);cases hd:Lib.decDigits n.toNat with
  |nil=>exact absurd hd d3
  |cons c r=>
   rw[hd] at d1 hm;have hc:=(kD c).1 (d1 c (by simp));unfold Lib.atoiAll;simp only[show¬c.toNat=43 by omega,show¬c.toNat=45 by omega,or_self,fR];rw[hm];simp only[not_false_eq_true,true_and,false_and,fR];rw[aE (by omega)];congr 1;omega
def iJ (w:By):Option Val:=if w≠[]/\(pR w).2=w.length/\(pR w).1.ok=true then some (pR w).1 else none
theorem a2V:∀(f:Nat) {l:List UInt8} {vs:List Val},rr f l=some vs->vs≠[]
 |0,l,vs,h=>by cases h
 |f+1,l,vs,h=>by
  unfold rr at h;split at h
  ·cases h
  ·split at h
   ·cases h;simp
   ·split at h
    ·rw[aI] at h;obtain⟨a,_,rfl⟩:=h;simp
    ·cases h
theorem a3G (l:List UInt8):rv (34::l)=(rt l).map fun p=>(⟨2,0,p.1⟩,p.2):=by
 unfold rv;rw[aG (show(34::l).head?=some 34 from rfl)];rfl
theorem M2 (v:Val):jM [v]=eV v:=by
 unfold jM;simp[Lib.join]
theorem DS {w:By} (h:w.head?≠some 34):jQ w=none:=by
 unfold jQ;split
 ·rw[aE h]
 ·rfl
theorem WR (l:List UInt8):jQ (34::l)=match rt l with
  |some (t,[])=>if(Val.mk 2 0 t).ok=true/\oV t=34::l then some ⟨2,0,t⟩ else none
  |_=>none:=by
 have hr:rr ((34::l).length+1) (34::l)=match rt l with
  |none=>none
  |some (t,r)=>if r=[] then some [⟨2,0,t⟩] else if r.head?=some 44 then(rr (34::l).length r.tail).map (⟨2,0,t⟩:: ·) else none:=by
  conv=>lhs;unfold rr
  rw[a3G];cases rt l with
  |none=>rfl
  |some p=>rfl
 unfold jQ eT;rw[aE (by simp),hr];simp only[List.head?_cons,fP];cases rt l with
 |none=>rfl
 |some p=>
  obtain⟨t,r⟩:=p;cases r with
  |nil=>
   simp only[fP];rw[B8,M2,show eV (Val.mk 2 0 t)=oV t from rfl];by_cases hc:(Val.mk 2 0 t).ok=true/\oV t=34::l
   ·rw[aG hc,aG (by simp[hc])]
   ·rw[aE hc,aE (by simpa using hc)]
  |cons a r=>
   simp only[reduceCtorEq,fR];cases hx:(if(a::r).head?=some 44 then(rr (34::l).length (a::r).tail).map (Val.mk 2 0 t:: ·) else none) with
   |none=>rfl
   |some vs=>
    split at hx
    ·rw[aI] at hx;obtain⟨vs',h1,rfl⟩:=hx;have:=a2V _ h1;cases vs' with
     |nil=>exact absurd rfl this
     |cons b vs'=>
      simp only;split
      ·rename_i h2;split at h2<;>cases h2
      ·rfl
    ·cases hx
theorem DZ (w:By):iJ w=cL w:=by
 cases w with
 |nil=>rw[uT (fun v h=>by cases h),DS (by simp)];rfl
 |cons c l=>
  by_cases h34:c=34
  ·subst h34;have hno:cL (34::l)=jQ (34::l):=uT (fun v h=>by
    unfold Lib.atoiAll at h;simp only[show¬((34:UInt8).toNat=43∨(34:UInt8).toNat=45) by decide,fR] at h;unfold Lib.parseMag Lib.parseUint10 at h;rw[aE (by simp),aE (by decide)] at h;cases h)
   rw[hno,WR];have hq:pR (34::l)=(⟨2,0,(jN (34::l) 0).1⟩,(jN (34::l) 0).2):=by unfold pR;rw[aG (show(34::l).head?=some 34 from rfl)]
   have hqs:jN (34::l) 0=BG (34::l).length 0 (rq l):=by unfold jN;rw[aG (show(34::l)[0]?=some 34 from rfl)];rfl
   unfold iJ;rw[hq,hqs];cases hr:rq l with
   |none=>
    rw[aE (by simp[BG])];cases ht:rt l with
    |none=>rfl
    |some p=>
     obtain⟨t,r⟩:=p;cases r with
     |cons a r=>rfl
     |nil=>
      show none=if _ then _ else _;rw[aE (fun h=>by
       have h2:=h.2;unfold oV at h2;have h3:t.flatMap mM++[34]=l:=(List.cons.inj h2).2;rw[<-h3,a0i] at hr;cases hr)]
   |some p=>
    obtain⟨t,r⟩:=p;have hf:=xJ l.length (rL _) hr;have ht:rt l=some (t,r):=by rw[hf];exact a0g t r
    rw[ht];have hrl:r.length<l.length:=EZ l.length (rL _) hr;cases r with
    |nil=>
     show(if _ then some (Val.mk 2 0 t) else none)=if _ then some (Val.mk 2 0 t) else none;have e1:oV t=34::l:=by rw[hf];rfl
     by_cases hk:(Val.mk 2 0 t).ok=true
     ·rw[aG ⟨by simp,by simp[BG],hk⟩,aG ⟨hk,e1⟩]
     ·rw[aE (fun h=>hk h.2.2),aE (fun h=>hk h.1)]
    |cons a r=>
     show(if _ then some (Val.mk 2 0 t) else none)=none;rw[aE (fun h=>by
      have:=h.2.1;simp[BG] at this hrl;omega)]
  ·have hh:(c::l).head?≠some 34:=by simp[h34]
   have hq:pR (c::l)=(⟨1,(jW (c::l)).1,[]⟩,(jW (c::l)).2):=by unfold pR;rw[aE hh]
   unfold iJ;rw[hq];by_cases hk:(jW (c::l)).2=(c::l).length/\(Val.mk 1 (jW (c::l)).1 []).ok=true
   ·rw[aG ⟨by simp,hk⟩];have hi:=WU (w:=c::l) (by simp) hk.1;obtain⟨b0,b1,_⟩:=IB hk.2;have ha:=J5 b0 b1;simp only at ha;rw[hi] at ha;rw[A7 ha,aG ⟨hi,hk.2⟩]
   ·rw[aE (fun h=>hk h.2)];cases ha:Lib.atoiAll (c::l) with
    |ok n=>
     rw[A7 ha,DS hh];by_cases hc:Lib.itoa n=c::l/\(Val.mk 1 n []).ok=true
     ·exfalso;obtain⟨b0,b1,_⟩:=IB hc.2;have:=XE b0 b1;simp only at this;rw[hc.1] at this;rw[this] at hk;exact hk ⟨rfl,hc.2⟩
     ·rw[aE hc]
    |_=>rw[uT (fun v h=>by rw[ha] at h;cases h),DS hh]
