/-
  A part of the proof of SchemaMembers.
-/
import Derived.Test.YtcfgfkkhpdlhpaaGreatDoorQ35
set_option linter.all false
set_option maxRecDepth 100000
namespace Go.Proofs.YtcfgfkkhpdlhpaaGreatDoor
theorem qP:∀t:Tree,t.nice->t.plain.length<=400*t.size
 |.pair a l r,h=>by
  have h1:=qP l h.1;have h2:=qP r h.2;have p1:=pR (decide (l.level<kW a)) l.plain;have p2:=pR (decide (r.level<kW a)) r.plain;have s:(kV a).length<=5:=by cases a<;>decide
  simp only[Tree.plain,Tree.size,aD];omega
 |.no t,h=>by
  have h1:=qP t h;have p1:=pR (decide (t.level<4)) t.plain;have s:jZ.length=3:=rfl;simp only[Tree.plain,Tree.size,aD,aJ,b4];omega
 |.test op l r,h=>by
  have h1:=h.1;have h2:=h.2.1.2;have h3:=h.2.2.2;simp only[Tree.plain,Tree.size,aD,aJ,b4];omega
 |.truth b,h=>by cases b<;>decide
def rW:Option Tree->Nat
 |none=>0
 |some t=>t.size+1
def R5:Option Tree->Prop
 |none=>True
 |some t=>t.nice
theorem uI (a:Bool) (acc:Option Tree) (t:Tree):(qX a acc t).size=rW acc+t.size:=by
 cases acc<;>simp[qX,rW,Tree.size];omega
theorem uJ (a:Bool) {acc:Option Tree} {t:Tree} (h:R5 acc) (h':t.nice):(qX a acc t).nice:=by
 cases acc with
 |none=>exact h'
 |some x=>exact⟨h,h'⟩
theorem nO (a:Bool):∀(t:Tree) (acc:Option Tree),(dY a acc t).size=rW acc+t.size
 |.pair b l r,acc=>by
  unfold dY;split
  ·rw[nO a r,rW,nO a l];simp only[Tree.size];omega
  ·rw[uI,nO b r,rW,nO b l];simp only[Tree.size,rW];omega
 |.no t,acc=>by
  unfold dY;rw[uI];simp only[Tree.size];rw[nO true t,rW];omega
 |.test _ _ _,acc=>by unfold dY;rw[uI]
 |.truth _,acc=>by unfold dY;rw[uI]
theorem pW (t:Tree):t.flat.size=t.size:=by
 unfold Tree.flat;rw[nO,rW];omega
theorem nP (a:Bool):∀(t:Tree) (acc:Option Tree),R5 acc->t.nice->(dY a acc t).nice
 |.pair b l r,acc,h,ht=>by
  unfold dY;split
  ·exact nP a r _ (nP a l _ h ht.1) ht.2
  ·exact uJ a h (nP b r _ (nP b l _ trivial ht.1) ht.2)
 |.no t,acc,h,ht=>by unfold dY;exact uJ a h (nP true t _ trivial ht)
 |.test _ _ _,acc,h,ht=>by unfold dY;exact uJ a h ht
 |.truth _,acc,h,ht=>by unfold dY;exact uJ a h ht
theorem tP {t:Tree} (h:t.nice):t.flat.nice:=nP true t none trivial h
def Md.sz:Md->Nat
 |.orL n=>n.size
 |.andL n=>n.size
 |_=>0
theorem jL {lit:By->Option Val}:∀(f:Nat) (m:Md) (lv d:Nat) (ts r:List By) (t:Tree) (e:Nat),bO lit f m lv d ts=some (t,r,e)->t.size+r.length<=m.sz+ts.length
 |0,m,lv,d,ts,r,t,e,h=>by cases h
 |f+1,.or,lv,d,ts,r,t,e,h=>by
  unfold bO at h;split at h
  ·rename_i n r1 e1 h1;have a:=jL f _ _ _ _ _ _ _ h1;have b:=jL f _ _ _ _ _ _ _ h;simp only[Md.sz] at*;omega
  ·cases h
 |f+1,.orL n,lv,d,ts,r,t,e,h=>by
  unfold bO at h;split at h
  ·rename_i hd;obtain⟨r0,rfl⟩:=fQ hd (by decide);split at h
   ·rename_i n r1 e1 h1;have a:=jL f _ _ _ _ _ _ _ h1;have b:=jL f _ _ _ _ _ _ _ h;simp only[Md.sz,Tree.size,gM,aJ] at*;omega
   ·cases h
  ·cases h;exact rL _
 |f+1,.and,lv,d,ts,r,t,e,h=>by
  unfold bO at h;split at h
  ·rename_i n r1 e1 h1;have a:=jL f _ _ _ _ _ _ _ h1;have b:=jL f _ _ _ _ _ _ _ h;simp only[Md.sz] at*;omega
  ·cases h
 |f+1,.andL n,lv,d,ts,r,t,e,h=>by
  unfold bO at h;split at h
  ·rename_i hd;obtain⟨r0,rfl⟩:=fQ hd (by decide);split at h
   ·rename_i n r1 e1 h1;have a:=jL f _ _ _ _ _ _ _ h1;have b:=jL f _ _ _ _ _ _ _ h;simp only[Md.sz,Tree.size,gM,aJ] at*;omega
   ·cases h
  ·cases h;exact rL _
 |f+1,.not,lv,d,ts,r,t,e,h=>by
  unfold bO at h;split at h
  ·rename_i hd;obtain⟨r0,rfl⟩:=fQ hd (by decide);split at h
   ·rename_i n r1 e1 h1;cases h;have a:=jL f _ _ _ _ _ _ _ h1;simp only[Md.sz,Tree.size,gM,aJ] at*;omega
   ·cases h
  ·have a:=jL f _ _ _ _ _ _ _ h;simp only[Md.sz] at*;omega
 |f+1,.prim,lv,d,ts,r,t,e,h=>by
  unfold bO at h;split at h
  ·rename_i hd;obtain⟨r0,rfl⟩:=fQ hd (by decide);cases h;simp only[Md.sz,Tree.size,gM,aJ];omega
  ·split at h
   ·rename_i hd;obtain⟨r0,rfl⟩:=fQ hd (by decide);cases h;simp only[Md.sz,Tree.size,gM,aJ];omega
   ·split at h
    ·rename_i hd;obtain⟨r0,rfl⟩:=fQ hd (by decide);split at h
     ·rename_i n r1 e1 h1;have a:=jL f _ _ _ _ _ _ _ h1;split at h
      ·rename_i hr;obtain⟨r2,rfl⟩:=fQ hr (by decide);cases h;simp only[Md.sz,gM,aJ] at*;omega
      ·cases h
     ·cases h
    ·split at h
     ·rename_i a r1 h1;have l1:=pP h1;split at h
      ·split at h
       ·rename_i b r2 h2;have l2:=pP h2;cases h;simp only[Md.sz,Tree.size,List.length_tail] at*;omega
       ·cases h
      ·cases h
     ·cases h
theorem ET {w:By} {v:Val} (h:cE w=some v):v.ok=true:=by
 have q:∀{v},jK w=some v->v.ok=true:=fun{v} h=>by
  unfold jK at h;split at h
  ·rename_i v' hp;split at h
   ·cases h;unfold eR at hp;split at hp
    ·cases hp
    ·split at hp
     ·split at hp
      ·rename_i vs _ hc;cases hp;simp only[aH] at hc;have:=hc.1;rw[AQ] at this;exact this
      ·cases hp
     ·cases hp
   ·cases h
  ·cases h
 unfold cE at h;split at h
 ·split at h
  ·rename_i hc;cases h;exact hc.2
  ·exact q h
 ·exact q h
theorem BU {v:Val} (h:v.ok=true):(eT v).length<=170:=by
 have:=HG h;unfold eT;split
 ·have:=Lib.itoa_length_le v.n (by omega) (by omega);omega
 ·have:=zY v.s;simp only[oN,aJ,aD,b4];omega
theorem xZ:∀{ts r:List By} {t:Term},fT cE ts=some (t,r)->t.name.length<=16/\t.txt.length<=180
 |[],r,t,h=>by cases h
 |w::ts,r,t,h=>by
  unfold fT at h;split at h
  ·split at h
   ·rename_i t' r' h1;have ih:=xZ h1;split at h
    ·cases h
    ·cases h;refine⟨ih.1,?_⟩;show(58::t'.name).length<=180;simp;omega
   ·cases h
  ·split at h
   ·rename_i hn;cases h;simp only[aH] at hn;have hl:w.length<=16:=by
     have:=hn.1;unfold fN at this;split at this
     ·simp
     ·simp only[aH,aK] at this;exact this.1.1
    refine⟨hl,?_⟩;show(if w≠[] then w else O2 v0).length<=180;split
    ·omega
    ·decide
   ·split at h
    ·rename_i v hv;cases h;refine⟨zL _,?_⟩;show(O2 v).length<=180;unfold O2;rw[ET hv,aG rfl];have:=BU (ET hv);omega
    ·cases h
def Md.nice:Md->Prop
 |.orL n=>n.nice
 |.andL n=>n.nice
 |_=>True
theorem AR {w:By} (h:mJ w=true):w.length<=2:=by
 simp only[mJ,RV,List.contains_eq_mem,aK,List.mem_cons,List.not_mem_nil,or_false] at h;rcases h with rfl|rfl|rfl|rfl|rfl|rfl<;>decide
theorem jY:∀(f:Nat) (m:Md) (lv d:Nat) (ts r:List By) (t:Tree) (e:Nat),bO cE f m lv d ts=some (t,r,e)->m.nice->t.nice
 |0,m,lv,d,ts,r,t,e,h,_=>by cases h
 |f+1,.or,lv,d,ts,r,t,e,h,_=>by
  unfold bO at h;split at h
  ·rename_i n r1 e1 h1;exact jY f _ _ _ _ _ _ _ h (jY f _ _ _ _ _ _ _ h1 trivial)
  ·cases h
 |f+1,.orL n,lv,d,ts,r,t,e,h,hn=>by
  unfold bO at h;split at h
  ·split at h
   ·rename_i n r1 e1 h1;exact jY f _ _ _ _ _ _ _ h ⟨hn,jY f _ _ _ _ _ _ _ h1 trivial⟩
   ·cases h
  ·cases h;exact hn
 |f+1,.and,lv,d,ts,r,t,e,h,_=>by
  unfold bO at h;split at h
  ·rename_i n r1 e1 h1;exact jY f _ _ _ _ _ _ _ h (jY f _ _ _ _ _ _ _ h1 trivial)
  ·cases h
 |f+1,.andL n,lv,d,ts,r,t,e,h,hn=>by
  unfold bO at h;split at h
  ·split at h
   ·rename_i n r1 e1 h1;exact jY f _ _ _ _ _ _ _ h ⟨hn,jY f _ _ _ _ _ _ _ h1 trivial⟩
   ·cases h
  ·cases h;exact hn
 |f+1,.not,lv,d,ts,r,t,e,h,_=>by
  unfold bO at h;split at h
  ·split at h
   ·rename_i n r1 e1 h1;cases h;show n.nice;exact jY f .prim _ _ _ _ _ _ h1 trivial
   ·cases h
  ·exact jY f .prim _ _ _ _ _ _ h trivial
 |f+1,.prim,lv,d,ts,r,t,e,h,_=>by
  unfold bO at h;split at h
  ·cases h;trivial
  ·split at h
   ·cases h;trivial
   ·split at h
    ·split at h
     ·rename_i n r1 e1 h1;split at h
      ·cases h;exact jY f .or _ _ _ _ _ _ h1 trivial
      ·cases h
     ·cases h
    ·split at h
     ·rename_i a r1 h1;split at h
      ·rename_i hrel;split at h
       ·rename_i b r2 h2;cases h;exact⟨AR hrel,xZ h1,xZ h2⟩
       ·cases h
      ·cases h
     ·cases h
open Go.RowKit
theorem SE:∀a:Fin 256,∀x:Fin 16,qT (UInt8.ofNat a)=some x.val->dU x=UInt8.ofNat a:=by decide+kernel
theorem LI {a:UInt8} {x:Nat} (h:qT a=some x):dU x=a:=by
 have hx:=zK h;have ha:UInt8.ofNat a.toNat=a:=UInt8.ofNat_toNat;have:=SE ⟨a.toNat,cD a⟩ ⟨x,hx⟩ (by show qT (UInt8.ofNat a.toNat)=some x;rw[ha];exact h);exact this.trans ha
theorem SN:∀k:Fin 16,qT (dU k)=some k.val/\sA (dU k)=some k.val/\dU k≠34/\dU k≠92:=by decide+kernel
theorem t7 {k:Nat} (h:k<16):qT (dU k)=some k/\sA (dU k)=some k/\dU k≠34/\dU k≠92:=SN ⟨k,h⟩
theorem QS {c:UInt8} (h:c=34∨c=92):mA c=[92,c]:=by unfold mA;rw[aG h]
theorem QT {c:UInt8} (h:c.toNat<32∨126<c.toNat):mA c=[92,120,dU (c.toNat / 16),dU (c.toNat%16)]:=by
 unfold mA;rw[aE (fun e=>by rcases e with rfl|rfl<;>revert h<;>decide),aG h]
theorem QU {c:UInt8} (h:c≠34) (h':c≠92) (hb:¬(c.toNat<32∨126<c.toNat)):mA c=[c]:=by
 unfold mA;rw[aE (fun e=>e.elim h h'),aE hb]
theorem o7 {m:Nat} (h:m<256):(UInt8.ofNat m).toNat=m:=by
 rw[UInt8.toNat_ofNat'];exact Nat.mod_eq_of_lt h
theorem YJ {a b:UInt8} {x y:Nat} (ha:qT a=some x) (hb:qT b=some y) (h:¬(32<=16*x+y/\16*x+y<=126)):mA (UInt8.ofNat (16*x+y))=[92,120,a,b]:=by
 have hx:=zK ha;have hy:=zK hb;have hm:(UInt8.ofNat (16*x+y)).toNat=16*x+y:=o7 (by omega);rw[QT (by rw[hm];omega),hm,show(16*x+y) / 16=x by omega,show(16*x+y)%16=y by omega,LI ha,LI hb]
theorem wZ:∀(n:Nat) {l t r:List UInt8},l.length<=n->rq l=some (t,r)->l=t.flatMap mA++34::r
 |0,l,t,r,h,e=>by
  cases l with
  |nil=>cases e
  |cons _ _=>simp at h
 |n+1,[],t,r,h,e=>by cases e
 |n+1,c::l,t,r,h,e=>by
  have hl:l.length<=n:=by simp at h;omega
  by_cases h34:c=34
  ·rw[h34,PU] at e;cases e;rw[h34];rfl
  ·by_cases hb:c.toNat<32∨126<c.toNat
   ·rw[II h34 hb] at e;cases e
   ·by_cases h92:c=92
    ·subst h92;by_cases hx:∃a b l2,l=120::a::b::l2
     ·obtain⟨a,b,l2,rfl⟩:=hx;rw[XO] at e;split at e
      ·rename_i x hnx;split at e
       ·rename_i y hny;split at e
        ·cases e
        ·rename_i hr;cases hq:rq l2 with
         |none=>rw[hq] at e;cases e
         |some p=>
          rw[hq] at e;cases e;have:=wZ n (l:=l2) (t:=p.1) (r:=p.2) (by simp at hl;omega) hq;rw[f5,YJ hnx hny hr,bB,<-this];rfl
       ·cases e
      ·cases e
     ·by_cases he:∃c' l1,l=c'::l1/\(c'=34∨c'=92)
      ·obtain⟨c',l1,rfl,hc'⟩:=he;rw[EC hc'] at e;cases hq:rq l1 with
       |none=>rw[hq] at e;cases e
       |some p=>
        rw[hq] at e;cases e;have:=wZ n (l:=l1) (t:=p.1) (r:=p.2) (by simp at hl;omega) hq;rw[f5,QS hc',bB,<-this];rfl
      ·rw[zA (fun e0 r1 h1=>⟨fun h=>he ⟨e0,r1,h1,h⟩,fun h a b r2 h2=>hx ⟨a,b,r2,by rw[h1,h,h2]⟩⟩)] at e;cases e
    ·rw[XP h34 hb h92] at e;cases hq:rq l with
     |none=>rw[hq] at e;cases e
     |some p=>
      rw[hq] at e;cases e;have:=wZ n (l:=l) (t:=p.1) (r:=p.2) hl hq;rw[f5,QU h34 h92 hb,bB,<-this];rfl
theorem ZF (t r:List UInt8):rq (t.flatMap mA++34::r)=some (t,r):=by
 induction t with
 |nil=>exact PU r
 |cons c t ih=>
  rw[f5,bB];by_cases h:c=34∨c=92
  ·rw[QS h];show rq (92::c::(t.flatMap mA++34::r))=_;rw[EC h,ih];rfl
  ·by_cases hb:c.toNat<32∨126<c.toNat
   ·rw[QT hb];show rq (92::120::dU (c.toNat / 16)::dU (c.toNat%16)::(t.flatMap mA++34::r))=_;have hlt:=cD c;rw[XO,(t7 (k:=c.toNat / 16) (by omega)).1,(t7 (k:=c.toNat%16) (by omega)).1];show(if 32<=16*(c.toNat / 16)+c.toNat%16/\16*(c.toNat / 16)+c.toNat%16<=126 then none else(rq (t.flatMap mA++34::r)).map fun p=>(UInt8.ofNat (16*(c.toNat / 16)+c.toNat%16)::p.1,p.2))=_;rw[aE (by omega),ih,show 16*(c.toNat / 16)+c.toNat%16=c.toNat by omega,UInt8.ofNat_toNat];rfl
   ·rw[QU (fun e=>h (.inl e)) (fun e=>h (.inr e)) hb];show rq (c::(t.flatMap mA++34::r))=_;rw[XP (fun e=>h (.inl e)) hb (fun e=>h (.inr e)),ih];rfl
theorem ZD (t r:List UInt8):rt (t.flatMap mA++34::r)=some (t,r):=by
 induction t with
 |nil=>exact UL r
 |cons c t ih=>
  rw[f5,bB];by_cases h:c=34∨c=92
  ·rw[QS h];show rt (92::c::(t.flatMap mA++34::r))=_;rw[UK (by rcases h with rfl|rfl<;>decide),ih];rfl
  ·by_cases hb:c.toNat<32∨126<c.toNat
   ·rw[QT hb];show rt (92::120::dU (c.toNat / 16)::dU (c.toNat%16)::(t.flatMap mA++34::r))=_;have hlt:=cD c;have h2:zR (dU (c.toNat / 16)) (dU (c.toNat%16))=some c.toNat:=by
     unfold zR;rw[(t7 (k:=c.toNat / 16) (by omega)).2.1,(t7 (k:=c.toNat%16) (by omega)).2.1];show some (16*(c.toNat / 16)+c.toNat%16)=_;congr 1;omega
    rw[a0H,h2];show((rt (t.flatMap mA++34::r)).map fun p=>(UInt8.ofNat c.toNat::p.1,p.2))=_;rw[ih,UInt8.ofNat_toNat];rfl
   ·rw[QU (fun e=>h (.inl e)) (fun e=>h (.inr e)) hb];show rt (c::(t.flatMap mA++34::r))=_;rw[a0I (fun e=>h (.inl e)) (fun e=>h (.inr e)),ih];rfl
theorem Q0 (t r:List UInt8):mF (t.flatMap mA++34::r)=(t.flatMap mA).length:=by
 induction t with
 |nil=>exact IO r
 |cons c t ih=>
  rw[f5,bB,aD];by_cases h:c=34∨c=92
  ·rw[QS h];show mF (92::c::(t.flatMap mA++34::r))=_;rw[DC,ih];rfl
  ·by_cases hb:c.toNat<32∨126<c.toNat
   ·rw[QT hb];show mF (92::120::dU (c.toNat / 16)::dU (c.toNat%16)::(t.flatMap mA++34::r))=_;have hlt:=cD c;have h1:=t7 (k:=c.toNat / 16) (by omega);have h2:=t7 (k:=c.toNat%16) (by omega);rw[DC,EK h1.2.2.1 h1.2.2.2,EK h2.2.2.1 h2.2.2.2,ih];simp only[aJ,b4];omega
   ·rw[QU (fun e=>h (.inl e)) (fun e=>h (.inr e)) hb];show mF (c::(t.flatMap mA++34::r))=_;rw[EK (fun e=>h (.inl e)) (fun e=>h (.inr e)),ih];rfl
theorem sE:∀(v:List UInt8) (a:Nat),a<=v.foldl (fun a c=>10*a+(c.toNat - 48)) a
 |[],a=>rL _
 |c::v,a=>eM (by omega) (sE v (10*a+(c.toNat - 48)))
theorem k7 (c:UInt8):cJ c=true↔48<=c.toNat/\c.toNat<=57:=by simp[cJ]
theorem OZ:∀(k:Nat) (w:List UInt8),w.length=k+1->(∀c∈w,cJ c=true)->(1<w.length->w.head?≠some 48)->Lib.decDigits (j7 w)=w
 |0,w,hl,hd,_=>by
  obtain⟨c,rfl⟩:=List.length_eq_one_iff.1 hl;have:=(k7 c).1 (hd c (by simp));rw[Lib.decDigits,dif_pos (by simp[j7];omega)];congr 1;apply UInt8.toNat_inj.1;rw[o7 (by simp[j7];omega)];simp[j7];omega
 |k+1,w,hl,hd,h0=>by
  obtain⟨v,c,rfl⟩:∃v c,w=v++[c]:=⟨w.dropLast,w.getLast (by intro e;simp[e] at hl),(List.dropLast_concat_getLast _).symm⟩;simp at hl;have hc:=(k7 c).1 (hd c (by simp));have hpos:1<=j7 v:=by
   cases v with
   |nil=>simp at hl
   |cons a v=>
    have ha:=(k7 a).1 (hd a (by simp));have h1:=h0 (by simp);have hne:a.toNat≠48:=fun e=>h1 (by simp;exact UInt8.toNat_inj.1 e);have:=sE v (10*0+(a.toNat - 48));show 1<=List.foldl _ _ _;rw[gT];omega
  have ih:=OZ k v hl (fun x hx=>hd x (by simp[hx])) (fun h1=>by
   have:=h0 (by simp;omega);cases v with
   |nil=>simp at h1
   |cons a v=>exact this)
  rw[tR,Lib.decDigits,dif_neg (by omega),show(10*j7 v+(c.toNat - 48)) / 10=j7 v by omega,ih];congr 2;apply UInt8.toNat_inj.1;rw[o7 (by omega)];omega
theorem r5 (u:Nat):(∀c∈Lib.decDigits u,cJ c=true)/\j7 (Lib.decDigits u)=u/\Lib.decDigits u≠[]/\(1<(Lib.decDigits u).length->(Lib.decDigits u).head?≠some 48)/\(1<=u->(Lib.decDigits u).head?≠some 48):=by
 induction u using Nat.strongRecOn with
 |_ u ih=>
  rw[Lib.decDigits];by_cases h:u<10
  ·rw[dif_pos h];refine⟨fun c hc=>?_,?_,by simp,fun h1=>by simp at h1,fun h1=>?_⟩
   ·rw[List.mem_singleton.1 hc,k7,o7 (by omega)];omega
   ·show 10*0+((UInt8.ofNat (48+u)).toNat - 48)=u;rw[o7 (by omega)];omega
   ·intro e;have e:=aX e;have:=aQ UInt8.toNat e;rw[o7 (by omega)] at this;replace this:48+u=(48:UInt8).toNat:=this;rw[show(48:UInt8).toNat=48 from rfl] at this;omega
  ·rw[dif_neg h];obtain⟨i1,i2,i3,i4,i5⟩:=ih (u / 10) (by omega);have hh:(Lib.decDigits (u / 10)++[UInt8.ofNat (48+u%10)]).head?=(Lib.decDigits (u / 10)).head?:=by
    cases hd:Lib.decDigits (u / 10) with
    |nil=>exact absurd hd i3
    |cons a v=>rfl
   refine⟨fun c hc=>?_,?_,by simp,fun _=>by rw[hh];exact i5 (by omega),fun _=>by rw[hh];exact i5 (by omega)⟩
   ·rcases List.mem_append.1 hc with hc|hc
    ·exact i1 c hc
    ·rw[List.mem_singleton.1 hc,k7,o7 (by omega)];omega
   ·rw[tR,i2,o7 (by omega)];omega
theorem Q7:∀(k u:Nat),u<10^(k+1)->Lib.nDigits u<=k+1
 |0,u,h=>by rw[Lib.nDigits_small (by simpa using h)];omega
 |k+1,u,h=>by
  by_cases h10:u<10
  ·rw[Lib.nDigits_small h10];omega
  ·rw[Lib.nDigits_big h10];have:=Q7 k (u / 10) (by rw[Nat.pow_succ] at h;omega);omega
theorem ZZ {p:UInt8->Bool} {l:List UInt8} (h:∀c∈l,p c=true):l.takeWhile p=l:=by
 induction l with
 |nil=>rfl
 |cons c l ih=>rw[eS,aG (h c (by simp)),ih (fun d hd=>h d (by simp[hd]))]
theorem MO {l:List UInt8} (h:∀c∈l,cJ c=true) (hl:l.length<=16):eI l=l.length:=by
 unfold eI;rw[ZZ h];omega
theorem I6 {l:List UInt8} (h:eI l=l.length):∀c∈l,cJ c=true:=by
 have h1:=JY (l:=l) (j:=l.length) (by omega);rwa [b9] at h1
theorem NX {l:List UInt8} (h45:l.head?≠some 45):jP l=if eI l=0∨(1<eI l/\l.head?=some 48)∨17<=eI l then(0,0) else((j7 (l.take (eI l)):Int),eI l):=by
 unfold jP;simp only[h45,decide_false,bR,fK,false_and,false_or,bD]
theorem NY {l:List UInt8}:jP (45::l)=if eI l=0∨(1<eI l/\l.head?=some 48)∨j7 (l.take (eI l))=0∨17<=eI l then(0,0) else(-(j7 (l.take (eI l)):Int),1+eI l):=by
 unfold jP;simp only[List.head?_cons,decide_true,fI,gM,true_and]
theorem V8 {w:List UInt8} (hne:w≠[]) (h:(jP w).2=w.length):Lib.itoa (jP w).1=w:=by
 by_cases h45:w.head?=some 45
 ·obtain⟨l,rfl⟩:∃l,w=45::l:=by
   cases w with
   |nil=>cases h45
   |cons c l=>simp at h45;exact⟨l,by rw[h45]⟩
  rw[NY] at h⊢;split at h
  ·simp at h
  ·rename_i hc;rw[aE hc];have hl:eI l=l.length:=by simp at h;omega
   rw[hl,b9] at hc⊢;have hd:=I6 hl;show Lib.itoa (-(j7 l:Int))=_;unfold Lib.itoa;rw[aG (by omega),show(-(j7 l:Int)).natAbs=j7 l by omega,OZ (l.length - 1) l (by omega) hd (fun h1 e=>hc (.inr (.inl ⟨h1,e⟩)))]
 ·rw[NX h45] at h⊢;split at h
  ·have:w.length=0:=h.symm;exact absurd (aM this) hne
  ·rename_i hc;rw[aE hc];have hl:eI w=w.length:=h;rw[hl] at hc⊢;rw[b9];have hd:=I6 hl;show Lib.itoa (j7 w:Int)=_;unfold Lib.itoa;rw[aE (by omega),show((j7 w:Nat):Int).toNat=j7 w by omega,OZ (w.length - 1) w (by omega) hd (fun h1 e=>hc (.inr (.inl ⟨h1,e⟩)))]
theorem I7 {u:Nat} (h:u<=1000000000):(Lib.decDigits u).length<=16:=by
 rw[Lib.decDigits_length];have:=Q7 9 u (by omega);omega
theorem WF (u:Nat):(Lib.decDigits u).head?≠some 45:=by
 obtain⟨h1,_,h3,_⟩:=r5 u;intro e;cases hd:Lib.decDigits u with
 |nil=>exact h3 hd
 |cons a v=>
  rw[hd] at e h1;simp at e;have:=h1 a (by simp);rw[e] at this;revert this;decide
theorem VV {n:Int} (h0: -1000000000<=n) (h1:n<=1000000000):jP (Lib.itoa n)=(n,(Lib.itoa n).length):=by
 unfold Lib.itoa;by_cases hn:n<0
 ·rw[aG hn,NY];obtain⟨d1,d2,d3,d4,d5⟩:=r5 n.natAbs;have hl:=I7 (u:=n.natAbs) (by omega);have hp:(Lib.decDigits n.natAbs).length≠0:=fun e=>d3 (aM e);rw[MO d1 hl,b9,d2,aE (by
   rintro(h|⟨h,h'⟩|h|h)
   ·exact hp h
   ·exact d4 h h'
   ·omega
   ·omega)]
  simp only[aJ];congr 1
  ·omega
  ·omega
 ·rw[aE hn,NX (WF _)];obtain⟨d1,d2,d3,d4,d5⟩:=r5 n.toNat;have hl:=I7 (u:=n.toNat) (by omega);have hp:(Lib.decDigits n.toNat).length≠0:=fun e=>d3 (aM e);rw[MO d1 hl,b9,d2,aE (by
   rintro(h|⟨h,h'⟩|h)
   ·exact hp h
   ·exact d4 h h'
   ·omega)]
  congr 1;omega
theorem LE:∀(l:List UInt8) (acc:Nat),(∀c∈l,cJ c=true)->l.foldl (fun a c=>10*a+(c.toNat - 48)) acc<1000000000000000000->Lib.parseUint10 acc l=.ok (l.foldl (fun a c=>10*a+(c.toNat - 48)) acc)
 |[],acc,_,_=>rfl
 |c::r,acc,hd,hb=>by
  have hc:=(k7 c).1 (hd c (by simp));rw[gT] at hb⊢;have hle:=sE r (10*acc+(c.toNat - 48));unfold Lib.parseUint10;rw[aG hc,aE (by omega),aE (by omega),show acc*10+(c.toNat - 48)=10*acc+(c.toNat - 48) by omega];exact LE r _ (fun x hx=>hd x (by simp[hx])) hb
theorem VH {u:Nat} (h:u<1000000000000000000):Lib.parseMag (Lib.decDigits u)=.ok u:=by
 obtain⟨d1,d2,d3,_⟩:=r5 u;unfold Lib.parseMag;rw[aE d3,LE _ 0 d1 (by show j7 _<_;rw[d2];exact h)];show Lib.NumEnd.ok (j7 _)=_;rw[d2]
theorem I9 {n:Int} (h0: -1000000000<=n) (h1:n<=1000000000):Lib.atoiAll (Lib.itoa n)=.ok n:=by
 unfold Lib.itoa;by_cases hn:n<0
 ·rw[aG hn];unfold Lib.atoiAll;simp only[show((45:UInt8).toNat=43∨(45:UInt8).toNat=45) from .inr rfl,fI];rw[VH (by omega)];simp only[show(45:UInt8).toNat=45 from rfl,not_true,false_and,fK,true_and,fI];rw[aE (by omega)];congr 1;omega
 ·rw[aE hn];obtain⟨d1,d2,d3,_⟩:=r5 n.toNat;have hm:=VH (u:=n.toNat) (by omega);cases hd:Lib.decDigits n.toNat with
  |nil=>exact absurd hd d3
  |cons c r=>
   rw[hd] at d1 hm;have hc:=(k7 c).1 (d1 c (by simp));unfold Lib.atoiAll;simp only[show¬c.toNat=43 by omega,show¬c.toNat=45 by omega,or_self,fK];rw[hm];simp only[not_false_eq_true,true_and,false_and,fK];rw[aE (by omega)];congr 1;omega
def iB (w:By):Option Val:=if w≠[]/\(pH w).2=w.length/\(pH w).1.ok=true then some (pH w).1 else none
theorem a1E:∀(f:Nat) {l:List UInt8} {vs:List Val},rr f l=some vs->vs≠[]
 |0,l,vs,h=>by cases h
 |f+1,l,vs,h=>by
  unfold rr at h;split at h
  ·cases h
  ·split at h
   ·cases h;simp
   ·split at h
    ·rw[aI] at h;obtain⟨a,_,rfl⟩:=h;simp
    ·cases h
theorem a1u (l:List UInt8):rv (34::l)=(rt l).map fun p=>(⟨2,0,p.1⟩,p.2):=by
 unfold rv;rw[aG (show(34::l).head?=some 34 from rfl)];rfl
theorem KT (v:Val):j9 [v]=eT v:=by
 unfold j9;simp[Lib.join]
theorem DB {w:By} (h:w.head?≠some 34):jK w=none:=by
 unfold jK;split
 ·rw[aE h]
 ·rfl
theorem V4 (l:List UInt8):jK (34::l)=match rt l with
  |some (t,[])=>if(Val.mk 2 0 t).ok=true/\oN t=34::l then some ⟨2,0,t⟩ else none
  |_=>none:=by
 have hr:rr ((34::l).length+1) (34::l)=match rt l with
  |none=>none
  |some (t,r)=>if r=[] then some [⟨2,0,t⟩] else if r.head?=some 44 then(rr (34::l).length r.tail).map (⟨2,0,t⟩:: ·) else none:=by
  conv=>lhs;unfold rr
  rw[a1u];cases rt l with
  |none=>rfl
  |some p=>rfl
 unfold jK eR;rw[aE (by simp),hr];simp only[List.head?_cons,fI];cases rt l with
 |none=>rfl
 |some p=>
  obtain⟨t,r⟩:=p;cases r with
  |nil=>
   simp only[fI];rw[AQ,KT,show eT (Val.mk 2 0 t)=oN t from rfl];by_cases hc:(Val.mk 2 0 t).ok=true/\oN t=34::l
   ·rw[aG hc,aG (by simp[hc])]
   ·rw[aE hc,aE (by simpa using hc)]
  |cons a r=>
   simp only[reduceCtorEq,fK];cases hx:(if(a::r).head?=some 44 then(rr (34::l).length (a::r).tail).map (Val.mk 2 0 t:: ·) else none) with
   |none=>rfl
   |some vs=>
    split at hx
    ·rw[aI] at hx;obtain⟨vs',h1,rfl⟩:=hx;have:=a1E _ h1;cases vs' with
     |nil=>exact absurd rfl this
     |cons b vs'=>
      simp only;split
      ·rename_i h2;split at h2<;>cases h2
      ·rfl
    ·cases hx
theorem DH (w:By):iB w=cE w:=by
 cases w with
 |nil=>rw[uG (fun v h=>by cases h),DB (by simp)];rfl
 |cons c l=>
  by_cases h34:c=34
  ·subst h34;have hno:cE (34::l)=jK (34::l):=uG (fun v h=>by
    unfold Lib.atoiAll at h;simp only[show¬((34:UInt8).toNat=43∨(34:UInt8).toNat=45) by decide,fK] at h;unfold Lib.parseMag Lib.parseUint10 at h;rw[aE (by simp),aE (by decide)] at h;cases h)
   rw[hno,V4];have hq:pH (34::l)=(⟨2,0,(jH (34::l) 0).1⟩,(jH (34::l) 0).2):=by unfold pH;rw[aG (show(34::l).head?=some 34 from rfl)]
   have hqs:jH (34::l) 0=AX (34::l).length 0 (rq l):=by unfold jH;rw[aG (show(34::l)[0]?=some 34 from rfl)];rfl
   unfold iB;rw[hq,hqs];cases hr:rq l with
   |none=>
    rw[aE (by simp[AX])];cases ht:rt l with
    |none=>rfl
    |some p=>
     obtain⟨t,r⟩:=p;cases r with
     |cons a r=>rfl
     |nil=>
      show none=if _ then _ else _;rw[aE (fun h=>by
       have h2:=h.2;unfold oN at h2;have h3:t.flatMap mA++[34]=l:=(List.cons.inj h2).2;rw[<-h3,ZF] at hr;cases hr)]
   |some p=>
    obtain⟨t,r⟩:=p;have hf:=wZ l.length (rL _) hr;have ht:rt l=some (t,r):=by rw[hf];exact ZD t r
    rw[ht];have hrl:r.length<l.length:=EB l.length (rL _) hr;cases r with
    |nil=>
     show(if _ then some (Val.mk 2 0 t) else none)=if _ then some (Val.mk 2 0 t) else none;have e1:oN t=34::l:=by rw[hf];rfl
     by_cases hk:(Val.mk 2 0 t).ok=true
     ·rw[aG ⟨by simp,by simp[AX],hk⟩,aG ⟨hk,e1⟩]
     ·rw[aE (fun h=>hk h.2.2),aE (fun h=>hk h.1)]
    |cons a r=>
     show(if _ then some (Val.mk 2 0 t) else none)=none;rw[aE (fun h=>by
      have:=h.2.1;simp[AX] at this hrl;omega)]
  ·have hh:(c::l).head?≠some 34:=by simp[h34]
   have hq:pH (c::l)=(⟨1,(jP (c::l)).1,[]⟩,(jP (c::l)).2):=by unfold pH;rw[aE hh]
   unfold iB;rw[hq];by_cases hk:(jP (c::l)).2=(c::l).length/\(Val.mk 1 (jP (c::l)).1 []).ok=true
   ·rw[aG ⟨by simp,hk⟩];have hi:=V8 (w:=c::l) (by simp) hk.1;obtain⟨b0,b1,_⟩:=HG hk.2;have ha:=I9 b0 b1;simp only at ha;rw[hi] at ha;rw[zM ha,aG ⟨hi,hk.2⟩]
   ·rw[aE (fun h=>hk h.2)];cases ha:Lib.atoiAll (c::l) with
    |ok n=>
     rw[zM ha,DB hh];by_cases hc:Lib.itoa n=c::l/\(Val.mk 1 n []).ok=true
     ·exfalso;obtain⟨b0,b1,_⟩:=HG hc.2;have:=VV b0 b1;simp only at this;rw[hc.1] at this;rw[this] at hk;exact hk ⟨rfl,hc.2⟩
     ·rw[aE hc]
    |_=>rw[uG (fun v h=>by rw[ha] at h;cases h),DB hh]
