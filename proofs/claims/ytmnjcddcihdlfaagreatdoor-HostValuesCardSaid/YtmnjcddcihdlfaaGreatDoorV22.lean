/- Part of HostValues. -/
import Derived.Test.YtmnjcddcihdlfaaGreatDoorV21
set_option linter.all false
set_option maxRecDepth 100000
namespace Go.Proofs.YtmnjcddcihdlfaaGreatDoor
open Go.RowKit
theorem FN:∀(n:Nat) {l t r:List UInt8},l.length<=n->rq l=some (t,r)->r.length<l.length
 |0,l,t,r,h,e=>by
  cases l with
  |nil=>cases e
  |cons _ _=>simp at h
 |n+1,[],t,r,h,e=>by cases e
 |n+1,c::l,t,r,h,e=>by
  have hl:l.length<=n:=by simp at h;omega
  by_cases h34:c=34
  ·rw[h34,II] at e;cases e;simp
  ·by_cases hb:c.toNat<32∨126<c.toNat
   ·rw[AW h34 hb] at e;cases e
   ·by_cases h92:c=92
    ·subst h92;by_cases hx:∃a b l2,l=120::a::b::l2
     ·obtain⟨a,b,l2,rfl⟩:=hx;rw[SD] at e;split at e
      ·split at e
       ·split at e
        ·cases e
        ·cases hq:rq l2 with
         |none=>rw[hq] at e;cases e
         |some p=>rw[hq] at e;cases e;have:=FN n (l:=l2) (t:=p.1) (r:=p.2) (by simp at hl;omega) hq;simp;omega
       ·cases e
      ·cases e
     ·by_cases he:∃c' l1,l=c'::l1/\(c'=34∨c'=92)
      ·obtain⟨c',l1,rfl,hc'⟩:=he;rw[AV hc'] at e;cases hq:rq l1 with
       |none=>rw[hq] at e;cases e
       |some p=>rw[hq] at e;cases e;have:=FN n (l:=l1) (t:=p.1) (r:=p.2) (by simp at hl;omega) hq;simp;omega
      ·rw[oL (fun e0 r1 h1=>⟨fun h=>he ⟨e0,r1,h1,h⟩,fun h a b r2 h2=>hx ⟨a,b,r2,by rw[h1,h,h2]⟩⟩)] at e;cases e
    ·rw[SE h34 hb h92] at e;cases hq:rq l with
     |none=>rw[hq] at e;cases e
     |some p=>rw[hq] at e;cases e;have:=FN n (l:=l) (t:=p.1) (r:=p.2) hl hq;simp;omega
def n7 (w:List UInt8):Option Val:=match iG w with
 |some [v]=>if w.head?=some 34 then some v else none
 |_=>none
def vE (w:List UInt8):Option Val:=match Lib.atoiAll w with
 |.ok n=>if Lib.itoa n=w/\Val.ok ⟨1,n,[]⟩=true then some ⟨1,n,[]⟩ else n7 w
 |_=>n7 w
theorem A9 {w:List UInt8} (h:∀v,Lib.atoiAll w≠ .ok v):vE w=n7 w:=by
 unfold vE;split
 ·rename_i n e;exact absurd e (h n)
 ·rfl
theorem OB {w:List UInt8} {n:Int} (h:Lib.atoiAll w=.ok n):vE w=if Lib.itoa n=w/\Val.ok ⟨1,n,[]⟩=true then some ⟨1,n,[]⟩ else n7 w:=by
 unfold vE;rw[h]
theorem PE (v:Val):nX [v]=v.ok:=by simp[nX]
theorem Q1:∀a:Fin 256,∀x:Fin 16,lY (UInt8.ofNat a)=some x.val->iI x=UInt8.ofNat a:=by decide+kernel
theorem J7 {a:UInt8} {x:Nat} (h:lY a=some x):iI x=a:=by
 have hx:=wI h;have ha:UInt8.ofNat a.toNat=a:=UInt8.ofNat_toNat;have:=Q1 ⟨a.toNat,bS a⟩ ⟨x,hx⟩ (by show lY (UInt8.ofNat a.toNat)=some x;rw[ha];exact h);exact this.trans ha
theorem Q8:∀k:Fin 16,lY (iI k)=some k.val/\pK (iI k)=some k.val/\iI k≠34/\iI k≠92:=by decide+kernel
theorem qH {k:Nat} (h:k<16):lY (iI k)=some k/\pK (iI k)=some k/\iI k≠34/\iI k≠92:=Q8 ⟨k,h⟩
theorem OS {c:UInt8} (h:c=34∨c=92):oH c=[92,c]:=by unfold oH;rw[aA h]
theorem OT {c:UInt8} (h:c.toNat<32∨126<c.toNat):oH c=[92,120,iI (c.toNat / 16),iI (c.toNat%16)]:=by
 unfold oH;rw[aB (fun e=>by rcases e with rfl|rfl<;>revert h<;>decide),aA h]
theorem OU {c:UInt8} (h:c≠34) (h':c≠92) (hb:¬(c.toNat<32∨126<c.toNat)):oH c=[c]:=by
 unfold oH;rw[aB (fun e=>e.elim h h'),aB hb]
theorem mK {m:Nat} (h:m<256):(UInt8.ofNat m).toNat=m:=by
 rw[UInt8.toNat_ofNat'];exact Nat.mod_eq_of_lt h
theorem WY {a b:UInt8} {x y:Nat} (ha:lY a=some x) (hb:lY b=some y) (h:¬(32<=16*x+y/\16*x+y<=126)):oH (UInt8.ofNat (16*x+y))=[92,120,a,b]:=by
 have hx:=wI ha;have hy:=wI hb;have hm:(UInt8.ofNat (16*x+y)).toNat=16*x+y:=mK (by omega);rw[OT (by rw[hm];omega),hm,show(16*x+y) / 16=x by omega,show(16*x+y)%16=y by omega,J7 ha,J7 hb]
theorem zZ:∀(n:Nat) {l t r:List UInt8},l.length<=n->rq l=some (t,r)->l=t.flatMap oH++34::r
 |0,l,t,r,h,e=>by
  cases l with
  |nil=>cases e
  |cons _ _=>simp at h
 |n+1,[],t,r,h,e=>by cases e
 |n+1,c::l,t,r,h,e=>by
  have hl:l.length<=n:=by simp at h;omega
  by_cases h34:c=34
  ·rw[h34,II] at e;cases e;rw[h34];rfl
  ·by_cases hb:c.toNat<32∨126<c.toNat
   ·rw[AW h34 hb] at e;cases e
   ·by_cases h92:c=92
    ·subst h92;by_cases hx:∃a b l2,l=120::a::b::l2
     ·obtain⟨a,b,l2,rfl⟩:=hx;rw[SD] at e;split at e
      ·rename_i x hnx;split at e
       ·rename_i y hny;split at e
        ·cases e
        ·rename_i hr;cases hq:rq l2 with
         |none=>rw[hq] at e;cases e
         |some p=>
          rw[hq] at e;cases e;have:=zZ n (l:=l2) (t:=p.1) (r:=p.2) (by simp at hl;omega) hq;rw[gZ,WY hnx hny hr,cW,<-this];rfl
       ·cases e
      ·cases e
     ·by_cases he:∃c' l1,l=c'::l1/\(c'=34∨c'=92)
      ·obtain⟨c',l1,rfl,hc'⟩:=he;rw[AV hc'] at e;cases hq:rq l1 with
       |none=>rw[hq] at e;cases e
       |some p=>
        rw[hq] at e;cases e;have:=zZ n (l:=l1) (t:=p.1) (r:=p.2) (by simp at hl;omega) hq;rw[gZ,OS hc',cW,<-this];rfl
      ·rw[oL (fun e0 r1 h1=>⟨fun h=>he ⟨e0,r1,h1,h⟩,fun h a b r2 h2=>hx ⟨a,b,r2,by rw[h1,h,h2]⟩⟩)] at e;cases e
    ·rw[SE h34 hb h92] at e;cases hq:rq l with
     |none=>rw[hq] at e;cases e
     |some p=>
      rw[hq] at e;cases e;have:=zZ n (l:=l) (t:=p.1) (r:=p.2) hl hq;rw[gZ,OU h34 h92 hb,cW,<-this];rfl
theorem a0Y (t r:List UInt8):rq (t.flatMap oH++34::r)=some (t,r):=by
 induction t with
 |nil=>exact II r
 |cons c t ih=>
  rw[gZ,cW];by_cases h:c=34∨c=92
  ·rw[OS h];show rq (92::c::(t.flatMap oH++34::r))=_;rw[AV h,ih];rfl
  ·by_cases hb:c.toNat<32∨126<c.toNat
   ·rw[OT hb];show rq (92::120::iI (c.toNat / 16)::iI (c.toNat%16)::(t.flatMap oH++34::r))=_;have hlt:=bS c;rw[SD,(qH (k:=c.toNat / 16) (by omega)).1,(qH (k:=c.toNat%16) (by omega)).1];show(if 32<=16*(c.toNat / 16)+c.toNat%16/\16*(c.toNat / 16)+c.toNat%16<=126 then none else(rq (t.flatMap oH++34::r)).map fun p=>(UInt8.ofNat (16*(c.toNat / 16)+c.toNat%16)::p.1,p.2))=_;rw[aB (by omega),ih,show 16*(c.toNat / 16)+c.toNat%16=c.toNat by omega,UInt8.ofNat_toNat];rfl
   ·rw[OU (fun e=>h (.inl e)) (fun e=>h (.inr e)) hb];show rq (c::(t.flatMap oH++34::r))=_;rw[SE (fun e=>h (.inl e)) hb (fun e=>h (.inr e)),ih];rfl
theorem a0W (t r:List UInt8):rt (t.flatMap oH++34::r)=some (t,r):=by
 induction t with
 |nil=>exact SB r
 |cons c t ih=>
  rw[gZ,cW];by_cases h:c=34∨c=92
  ·rw[OS h];show rt (92::c::(t.flatMap oH++34::r))=_;rw[SA (by rcases h with rfl|rfl<;>decide),ih];rfl
  ·by_cases hb:c.toNat<32∨126<c.toNat
   ·rw[OT hb];show rt (92::120::iI (c.toNat / 16)::iI (c.toNat%16)::(t.flatMap oH++34::r))=_;have hlt:=bS c;have h2:wX (iI (c.toNat / 16)) (iI (c.toNat%16))=some c.toNat:=by
     unfold wX;rw[(qH (k:=c.toNat / 16) (by omega)).2.1,(qH (k:=c.toNat%16) (by omega)).2.1];show some (16*(c.toNat / 16)+c.toNat%16)=_;congr 1;omega
    rw[YH,h2];show((rt (t.flatMap oH++34::r)).map fun p=>(UInt8.ofNat c.toNat::p.1,p.2))=_;rw[ih,UInt8.ofNat_toNat];rfl
   ·rw[OU (fun e=>h (.inl e)) (fun e=>h (.inr e)) hb];show rt (c::(t.flatMap oH++34::r))=_;rw[YI (fun e=>h (.inl e)) (fun e=>h (.inr e)),ih];rfl
theorem mG:∀(v:List UInt8) (a:Nat),a<=v.foldl (fun a c=>10*a+(c.toNat - 48)) a
 |[],a=>rL _
 |c::v,a=>gX (by omega) (mG v (10*a+(c.toNat - 48)))
theorem iT (c:UInt8):bB c=true↔48<=c.toNat/\c.toNat<=57:=by simp[bB]
theorem HW:∀(k:Nat) (w:List UInt8),w.length=k+1->(∀c∈w,bB c=true)->(1<w.length->w.head?≠some 48)->Lib.decDigits (iK w)=w
 |0,w,hl,hd,_=>by
  obtain⟨c,rfl⟩:=List.length_eq_one_iff.1 hl;have:=(iT c).1 (hd c (by simp));rw[Lib.decDigits,dif_pos (by simp[iK];omega)];congr 1;apply UInt8.toNat_inj.1;rw[mK (by simp[iK];omega)];simp[iK];omega
 |k+1,w,hl,hd,h0=>by
  obtain⟨v,c,rfl⟩:∃v c,w=v++[c]:=⟨w.dropLast,w.getLast (by intro e;simp[e] at hl),(List.dropLast_concat_getLast _).symm⟩;simp at hl;have hc:=(iT c).1 (hd c (by simp));have hpos:1<=iK v:=by
   cases v with
   |nil=>simp at hl
   |cons a v=>
    have ha:=(iT a).1 (hd a (by simp));have h1:=h0 (by simp);have hne:a.toNat≠48:=fun e=>h1 (by simp;exact UInt8.toNat_inj.1 e);have:=mG v (10*0+(a.toNat - 48));show 1<=List.foldl _ _ _;rw[List.foldl_cons];omega
  have ih:=HW k v hl (fun x hx=>hd x (by simp[hx])) (fun h1=>by
   have:=h0 (by simp;omega);cases v with
   |nil=>simp at h1
   |cons a v=>exact this)
  rw[qN,Lib.decDigits,dif_neg (by omega),show(10*iK v+(c.toNat - 48)) / 10=iK v by omega,ih];congr 2;apply UInt8.toNat_inj.1;rw[mK (by omega)];omega
theorem mZ (u:Nat):(∀c∈Lib.decDigits u,bB c=true)/\iK (Lib.decDigits u)=u/\Lib.decDigits u≠[]/\(1<(Lib.decDigits u).length->(Lib.decDigits u).head?≠some 48)/\(1<=u->(Lib.decDigits u).head?≠some 48):=by
 induction u using Nat.strongRecOn with
 |_ u ih=>
  rw[Lib.decDigits];by_cases h:u<10
  ·rw[dif_pos h];refine⟨fun c hc=>?_,?_,by simp,fun h1=>by simp at h1,fun h1=>?_⟩
   ·rw[List.mem_singleton.1 hc,iT,mK (by omega)];omega
   ·show 10*0+((UInt8.ofNat (48+u)).toNat - 48)=u;rw[mK (by omega)];omega
   ·intro e;have e:=aV e;have:=aJ UInt8.toNat e;rw[mK (by omega)] at this;replace this:48+u=(48:UInt8).toNat:=this;rw[show(48:UInt8).toNat=48 from rfl] at this;omega
  ·rw[dif_neg h];obtain⟨i1,i2,i3,i4,i5⟩:=ih (u / 10) (by omega);have hh:(Lib.decDigits (u / 10)++[UInt8.ofNat (48+u%10)]).head?=(Lib.decDigits (u / 10)).head?:=by
    cases hd:Lib.decDigits (u / 10) with
    |nil=>exact absurd hd i3
    |cons a v=>rfl
   refine⟨fun c hc=>?_,?_,by simp,fun _=>by rw[hh];exact i5 (by omega),fun _=>by rw[hh];exact i5 (by omega)⟩
   ·rcases List.mem_append.1 hc with hc|hc
    ·exact i1 c hc
    ·rw[List.mem_singleton.1 hc,iT,mK (by omega)];omega
   ·rw[qN,i2,mK (by omega)];omega
theorem O9:∀(k u:Nat),u<10^(k+1)->Lib.nDigits u<=k+1
 |0,u,h=>by rw[Lib.nDigits_small (by simpa using h)];omega
 |k+1,u,h=>by
  by_cases h10:u<10
  ·rw[Lib.nDigits_small h10];omega
  ·rw[Lib.nDigits_big h10];have:=O9 k (u / 10) (by rw[Nat.pow_succ] at h;omega);omega
theorem YC {p:UInt8->Bool} {l:List UInt8} (h:∀c∈l,p c=true):l.takeWhile p=l:=by
 induction l with
 |nil=>rfl
 |cons c l ih=>rw[bZ,aA (h c (by simp)),ih (fun d hd=>h d (by simp[hd]))]
theorem KZ {l:List UInt8} (h:∀c∈l,bB c=true) (hl:l.length<=16):eS l=l.length:=by
 unfold eS;rw[YC h];omega
theorem F5 {l:List UInt8} (h:eS l=l.length):∀c∈l,bB c=true:=by
 have h1:=HV (l:=l) (j:=l.length) (by omega);rwa [dG] at h1
theorem T4 {l:List UInt8} (h45:l.head?≠some 45):lX l=if eS l=0∨(1<eS l/\l.head?=some 48)∨17<=eS l then(0,0) else((iK (l.take (eS l)):Int),eS l):=by
 unfold lX;simp only[h45,decide_false,aY,cO,false_and,false_or,bM]
theorem T5 {l:List UInt8}:lX (45::l)=if eS l=0∨(1<eS l/\l.head?=some 48)∨iK (l.take (eS l))=0∨17<=eS l then(0,0) else(-(iK (l.take (eS l)):Int),1+eS l):=by
 unfold lX;simp only[List.head?_cons,decide_true,dL,List.tail_cons,true_and]
theorem T3 {w:List UInt8} (hne:w≠[]) (h:(lX w).2=w.length):Lib.itoa (lX w).1=w:=by
 by_cases h45:w.head?=some 45
 ·obtain⟨l,rfl⟩:∃l,w=45::l:=by
   cases w with
   |nil=>cases h45
   |cons c l=>simp at h45;exact⟨l,by rw[h45]⟩
  rw[T5] at h⊢;split at h
  ·simp at h
  ·rename_i hc;rw[aB hc];have hl:eS l=l.length:=by simp at h;omega
   rw[hl,dG] at hc⊢;have hd:=F5 hl;show Lib.itoa (-(iK l:Int))=_;unfold Lib.itoa;rw[aA (by omega),show(-(iK l:Int)).natAbs=iK l by omega,HW (l.length - 1) l (by omega) hd (fun h1 e=>hc (.inr (.inl ⟨h1,e⟩)))]
 ·rw[T4 h45] at h⊢;split at h
  ·have:w.length=0:=h.symm;exact absurd (aI this) hne
  ·rename_i hc;rw[aB hc];have hl:eS w=w.length:=h;rw[hl] at hc⊢;rw[dG];have hd:=F5 hl;show Lib.itoa (iK w:Int)=_;unfold Lib.itoa;rw[aB (by omega),show((iK w:Nat):Int).toNat=iK w by omega,HW (w.length - 1) w (by omega) hd (fun h1 e=>hc (.inr (.inl ⟨h1,e⟩)))]
theorem F6 {u:Nat} (h:u<=1000000000):(Lib.decDigits u).length<=16:=by
 rw[Lib.decDigits_length];have:=O9 9 u (by omega);omega
theorem UQ (u:Nat):(Lib.decDigits u).head?≠some 45:=by
 obtain⟨h1,_,h3,_⟩:=mZ u;intro e;cases hd:Lib.decDigits u with
 |nil=>exact h3 hd
 |cons a v=>
  rw[hd] at e h1;simp at e;have:=h1 a (by simp);rw[e] at this;revert this;decide
theorem TE {n:Int} (h0: -1000000000<=n) (h1:n<=1000000000):lX (Lib.itoa n)=(n,(Lib.itoa n).length):=by
 unfold Lib.itoa;by_cases hn:n<0
 ·rw[aA hn,T5];obtain⟨d1,d2,d3,d4,d5⟩:=mZ n.natAbs;have hl:=F6 (u:=n.natAbs) (by omega);have hp:(Lib.decDigits n.natAbs).length≠0:=fun e=>d3 (aI e);rw[KZ d1 hl,dG,d2,aB (by
   rintro(h|⟨h,h'⟩|h|h)
   ·exact hp h
   ·exact d4 h h'
   ·omega
   ·omega)]
  simp only[aM];congr 1
  ·omega
  ·omega
 ·rw[aB hn,T4 (UQ _)];obtain⟨d1,d2,d3,d4,d5⟩:=mZ n.toNat;have hl:=F6 (u:=n.toNat) (by omega);have hp:(Lib.decDigits n.toNat).length≠0:=fun e=>d3 (aI e);rw[KZ d1 hl,dG,d2,aB (by
   rintro(h|⟨h,h'⟩|h)
   ·exact hp h
   ·exact d4 h h'
   ·omega)]
  congr 1;omega
theorem J0:∀(l:List UInt8) (acc:Nat),(∀c∈l,bB c=true)->l.foldl (fun a c=>10*a+(c.toNat - 48)) acc<1000000000000000000->Lib.parseUint10 acc l=.ok (l.foldl (fun a c=>10*a+(c.toNat - 48)) acc)
 |[],acc,_,_=>rfl
 |c::r,acc,hd,hb=>by
  have hc:=(iT c).1 (hd c (by simp));rw[List.foldl_cons] at hb⊢;have hle:=mG r (10*acc+(c.toNat - 48));unfold Lib.parseUint10;rw[aA hc,aB (by omega),aB (by omega),show acc*10+(c.toNat - 48)=10*acc+(c.toNat - 48) by omega];exact J0 r _ (fun x hx=>hd x (by simp[hx])) hb
theorem T9 {u:Nat} (h:u<1000000000000000000):Lib.parseMag (Lib.decDigits u)=.ok u:=by
 obtain⟨d1,d2,d3,_⟩:=mZ u;unfold Lib.parseMag;rw[aB d3,J0 _ 0 d1 (by show iK _<_;rw[d2];exact h)];show Lib.NumEnd.ok (iK _)=_;rw[d2]
theorem FC {n:Int} (h0: -1000000000<=n) (h1:n<=1000000000):Lib.atoiAll (Lib.itoa n)=.ok n:=by
 unfold Lib.itoa;by_cases hn:n<0
 ·rw[aA hn];unfold Lib.atoiAll;simp only[show((45:UInt8).toNat=43∨(45:UInt8).toNat=45) from .inr rfl,dL];rw[T9 (by omega)];simp only[show(45:UInt8).toNat=45 from rfl,not_true,false_and,cO,true_and,dL];rw[aB (by omega)];congr 1;omega
 ·rw[aB hn];obtain⟨d1,d2,d3,_⟩:=mZ n.toNat;have hm:=T9 (u:=n.toNat) (by omega);cases hd:Lib.decDigits n.toNat with
  |nil=>exact absurd hd d3
  |cons c r=>
   rw[hd] at d1 hm;have hc:=(iT c).1 (d1 c (by simp));unfold Lib.atoiAll;simp only[show¬c.toNat=43 by omega,show¬c.toNat=45 by omega,or_self,cO];rw[hm];simp only[not_false_eq_true,true_and,false_and,cO];rw[aB (by omega)];congr 1;omega
def DF (w:By):Option Val:=if w≠[]/\(mO w).2=w.length/\(mO w).1.ok=true then some (mO w).1 else none
theorem a0X:∀(f:Nat) {l:List UInt8} {vs:List Val},rr f l=some vs->vs≠[]
 |0,l,vs,h=>by cases h
 |f+1,l,vs,h=>by
  unfold rr at h;split at h
  ·cases h
  ·split at h
   ·cases h;simp
   ·split at h
    ·rw[aC] at h;obtain⟨a,_,rfl⟩:=h;simp
    ·cases h
theorem a1Y (l:List UInt8):rv (34::l)=(rt l).map fun p=>(⟨2,0,p.1⟩,p.2):=by
 unfold rv;rw[aA (show(34::l).head?=some 34 from rfl)];rfl
theorem IJ (v:Val):mB [v]=kL v:=by
 unfold mB;simp[Lib.join]
theorem FT {w:By} (h:w.head?≠some 34):n7 w=none:=by
 unfold n7;split
 ·rw[aB h]
 ·rfl
theorem SR (l:List UInt8):n7 (34::l)=match rt l with
  |some (t,[])=>if(Val.mk 2 0 t).ok=true/\sE t=34::l then some ⟨2,0,t⟩ else none
  |_=>none:=by
 have hr:rr ((34::l).length+1) (34::l)=match rt l with
  |none=>none
  |some (t,r)=>if r=[] then some [⟨2,0,t⟩] else if r.head?=some 44 then(rr (34::l).length r.tail).map (⟨2,0,t⟩:: ·) else none:=by
  conv=>lhs;unfold rr
  rw[a1Y];cases rt l with
  |none=>rfl
  |some p=>rfl
 unfold n7 iG;rw[aB (by simp),hr];simp only[List.head?_cons,dL];cases rt l with
 |none=>rfl
 |some p=>
  obtain⟨t,r⟩:=p;cases r with
  |nil=>
   simp only[dL];rw[PE,IJ,show kL (Val.mk 2 0 t)=sE t from rfl];by_cases hc:(Val.mk 2 0 t).ok=true/\sE t=34::l
   ·rw[aA hc,aA (by simp[hc])]
   ·rw[aB hc,aB (by simpa using hc)]
  |cons a r=>
   simp only[reduceCtorEq,cO];cases hx:(if(a::r).head?=some 44 then(rr (34::l).length (a::r).tail).map (Val.mk 2 0 t:: ·) else none) with
   |none=>rfl
   |some vs=>
    split at hx
    ·rw[aC] at hx;obtain⟨vs',h1,rfl⟩:=hx;have:=a0X _ h1;cases vs' with
     |nil=>exact absurd rfl this
     |cons b vs'=>
      simp only;split
      ·rename_i h2;split at h2<;>cases h2
      ·rfl
    ·cases hx
theorem W7 (w:By):DF w=vE w:=by
 cases w with
 |nil=>rw[A9 (fun v h=>by cases h),FT (by simp)];rfl
 |cons c l=>
  by_cases h34:c=34
  ·subst h34;have hno:vE (34::l)=n7 (34::l):=A9 (fun v h=>by
    unfold Lib.atoiAll at h;simp only[show¬((34:UInt8).toNat=43∨(34:UInt8).toNat=45) by decide,cO] at h;unfold Lib.parseMag Lib.parseUint10 at h;rw[aB (by simp),aB (by decide)] at h;cases h)
   rw[hno,SR];have hq:mO (34::l)=(⟨2,0,(kB (34::l) 0).1⟩,(kB (34::l) 0).2):=by unfold mO;rw[aA (show(34::l).head?=some 34 from rfl)]
   have hqs:kB (34::l) 0=LU (34::l).length 0 (rq l):=by unfold kB;rw[aA (show(34::l)[0]?=some 34 from rfl)];rfl
   unfold DF;rw[hq,hqs];cases hr:rq l with
   |none=>
    rw[aB (by simp[LU])];cases ht:rt l with
    |none=>rfl
    |some p=>
     obtain⟨t,r⟩:=p;cases r with
     |cons a r=>rfl
     |nil=>
      show none=if _ then _ else _;rw[aB (fun h=>by
       have h2:=h.2;unfold sE at h2;have h3:t.flatMap oH++[34]=l:=(List.cons.inj h2).2;rw[<-h3,a0Y] at hr;cases hr)]
   |some p=>
    obtain⟨t,r⟩:=p;have hf:=zZ l.length (rL _) hr;have ht:rt l=some (t,r):=by rw[hf];exact a0W t r
    rw[ht];have hrl:r.length<l.length:=FN l.length (rL _) hr;cases r with
    |nil=>
     show(if _ then some (Val.mk 2 0 t) else none)=if _ then some (Val.mk 2 0 t) else none;have e1:sE t=34::l:=by rw[hf];rfl
     by_cases hk:(Val.mk 2 0 t).ok=true
     ·rw[aA ⟨by simp,by simp[LU],hk⟩,aA ⟨hk,e1⟩]
     ·rw[aB (fun h=>hk h.2.2),aB (fun h=>hk h.1)]
    |cons a r=>
     show(if _ then some (Val.mk 2 0 t) else none)=none;rw[aB (fun h=>by
      have:=h.2.1;simp[LU] at this hrl;omega)]
  ·have hh:(c::l).head?≠some 34:=by simp[h34]
   have hq:mO (c::l)=(⟨1,(lX (c::l)).1,[]⟩,(lX (c::l)).2):=by unfold mO;rw[aB hh]
   unfold DF;rw[hq];by_cases hk:(lX (c::l)).2=(c::l).length/\(Val.mk 1 (lX (c::l)).1 []).ok=true
   ·rw[aA ⟨by simp,hk⟩];have hi:=T3 (w:=c::l) (by simp) hk.1;obtain⟨b0,b1,_⟩:=O4 hk.2;have ha:=FC b0 b1;simp only at ha;rw[hi] at ha;rw[OB ha,aA ⟨hi,hk.2⟩]
   ·rw[aB (fun h=>hk h.2)];cases ha:Lib.atoiAll (c::l) with
    |ok n=>
     rw[OB ha,FT hh];by_cases hc:Lib.itoa n=c::l/\(Val.mk 1 n []).ok=true
     ·exfalso;obtain⟨b0,b1,_⟩:=O4 hc.2;have:=TE b0 b1;simp only at this;rw[hc.1] at this;rw[this] at hk;exact hk ⟨rfl,hc.2⟩
     ·rw[aB hc]
    |_=>rw[A9 (fun v h=>by rw[ha] at h;cases h),FT hh]
theorem E5 (c:UInt8):dA c=true↔97<=c.toNat/\c.toNat<=122:=by simp[dA]
theorem mM {c:UInt8} (h:dA c=true):bQ c=true:=by unfold bQ;rw[h];rfl
theorem mY {c:UInt8} (h:bB c=true):bQ c=true:=by unfold bQ;rw[h];simp
theorem EJ {c:UInt8} {t:List UInt8} (h:dE (c::t)=true):dA c=true:=by
 simp only[dE,aF] at h;exact h.1.2
inductive Tk where
 |nm (s:By)
 |nu (n:Int)
 |tx (s:By)
 |sg (s:By)
 |fin
 |bad
 deriving DecidableEq
def a1X:List By:=[[123],[125],[40],[41],[59],[44],[61],[60],[62],[43],[45],[42],[38],[46],[60,62],[60,61],[62,61]]
def jI (c:UInt8):Bool:=[123,125,40,41,59,44,61,60,62,43,45,42,38,46].contains c
def s5 (w:By):Option Int:=match Lib.atoiAll w with
 |.ok k=>if Lib.itoa k=w/\k<=1000000000 then some k else none
 |_=>none
def gI (l:By):Bool:=[[60,62],[60,61],[62,61]].contains (l.take 2)
def iD (l:By):Tk×By:=match l with
 |[]=>(.bad,[])
 |c::t=>if bQ c=true then
   let w:=c::t.takeWhile bQ
   (if dE w=true then .nm w else match s5 w with|some k=>.nu k|none=>.bad,w)
  else if c=34 then
   let w:=(c::t).take (min (2+kG t) (c::t).length)
   (match n7 w with|some v=>.tx v.s|none=>.bad,w)
  else if jI c=true then
   let w:=if gI (c::t)=true then(c::t).take 2 else[c]
   (.sg w,w)
  else(.bad,[c])
structure Tp where
 t:Tk
 raw:By
 line:Nat
def jG (nl:Nat):Nat->Nat->By->List Tp
 |0,_,_=>[]
 |f+1,ln,l=>match l with
  |[]=>[⟨.fin,[],ln - nl⟩]
  |c::t=>if c=10 then jG nl f (ln+1) t else if c=32∨c=9 then jG nl f ln t
   else if c=35 then jG nl f ln (t.dropWhile (·!=10))
   else⟨(iD (c::t)).1,(iD (c::t)).2,ln⟩::if(iD (c::t)).1=.bad then[] else jG nl f ln ((c::t).drop (iD (c::t)).2.length)
def B4:By->Nat×Bool->Nat×Bool
 |[],p=>p
 |c::l,p=>let n:=p.1*10+(c.toNat - 48);B4 l (min n 1000000001,p.2||decide (1000000000<n))
def bP:By->Nat
 |[]=>0
 |c::r=>if c=34 then 0 else if c=10 then 0 else if c=92 then(match r with
  |[]=>2
  |_::r'=>2+bP r') else 1+bP r
def kX (l:By):Tk×Nat:=match l with
 |[]=>(.bad,0)
 |c::t=>if dA c=true then
   let w:=c::t.takeWhile bQ
   (if dE w=true then .nm w else .bad,w.length)
  else if bB c=true then
   let w:=c::t.takeWhile bB;let p:=B4 w (0,false)
   (if p.2=true∨((t.dropWhile bB).head?.any fun c=>dA c||c==95)=true∨(c=48/\1<w.length) then .bad else .nu p.1,w.length)
  else if c=34 then
   (if t[bP t]?=some 34 then match vE ((c::t).take (2+bP t)) with|some v=>(.tx v.s,2+bP t)|none=>(.bad,1) else(.bad,1))
  else if gI (c::t)=true then(.sg ((c::t).take 2),2)
  else if jI c=true then(.sg [c],1)
  else(.bad,1)
structure Tq where
 t:Tk
 line:Nat
def lA (nl:Nat):Nat->Nat->By->List Tq
 |0,_,_=>[]
 |f+1,ln,l=>match l with
  |[]=>[⟨.fin,ln - nl⟩]
  |c::t=>if c=10 then lA nl f (ln+1) t else if c=32∨c=9 then lA nl f ln t
   else if c=35 then lA nl f ln (t.dropWhile (·!=10))
   else⟨(kX (c::t)).1,ln⟩::lA nl f ln ((c::t).drop (kX (c::t)).2)
theorem X5 (l:By) (a:Nat):a<=l.foldl (fun a c=>10*a+(c.toNat - 48)) a:=mG l a
theorem J6:∀(l:By) (p:Nat×Bool),p.2=true->(B4 l p).2=true
 |[],p,h=>h
 |c::l,p,h=>J6 l _ (by show(p.2||_)=true;rw[h];rfl)
theorem O5:∀(l:By) (a:Nat),a<=1000000000->(l.foldl (fun a c=>10*a+(c.toNat - 48)) a<=1000000000->B4 l (a,false)=(l.foldl (fun a c=>10*a+(c.toNat - 48)) a,false))/\(1000000000<l.foldl (fun a c=>10*a+(c.toNat - 48)) a->(B4 l (a,false)).2=true)
 |[],a,h=>⟨fun _=>rfl,fun h'=>by simp at h';omega⟩
 |c::l,a,h=>by
  rw[List.foldl_cons];show(_->B4 l (min (a*10+(c.toNat - 48)) 1000000001,false||decide (1000000000<a*10+(c.toNat - 48)))=_)/\(_->(B4 l (min (a*10+(c.toNat - 48)) 1000000001,false||decide (1000000000<a*10+(c.toNat - 48)))).2=true);rw[show a*10+(c.toNat - 48)=10*a+(c.toNat - 48) by omega];by_cases hb:10*a+(c.toNat - 48)<=1000000000
  ·rw[Nat.min_eq_left (by omega),aQ (by omega)];exact O5 l _ hb
  ·refine⟨fun h'=>absurd h' (by have:=X5 l (10*a+(c.toNat - 48));omega),fun _=>J6 l _ (by rw[aR (by omega)];rfl)⟩
theorem u5 {w:By} {k:Int} (h:s5 w=some k) (h45:w.head?≠some 45):0<=k/\k<=1000000000/\Lib.decDigits k.toNat=w:=by
 unfold s5 at h;split at h
 ·rename_i n _;split at h
  ·rename_i hc;obtain⟨h1,h2⟩:=hc;cases h;have hk:0<=k:=by
    rcases Int.lt_or_le k 0 with h|h
    ·unfold Lib.itoa at h1;rw[aA h] at h1;exact absurd (by rw[<-h1];rfl) h45
    ·exact h
   refine⟨hk,h2,?_⟩;unfold Lib.itoa at h1;rwa [aB (by omega)] at h1
  ·cases h
 ·cases h
theorem Q0 {w:By} (hne:w≠[]) (hd:∀c∈w,bB c=true) (h0:1<w.length->w.head?≠some 48) (hb:iK w<=1000000000):s5 w=some (iK w:Nat):=by
 have hp:0<w.length:=List.length_pos_iff.2 hne;have hi:Lib.itoa (iK w:Nat)=w:=by
  unfold Lib.itoa;rw[aB (by omega),aD];exact HW (w.length - 1) w (by omega) hd h0
 have ha:=FC (n:=(iK w:Nat)) (by omega) (by omega);rw[hi] at ha;unfold s5;rw[ha];exact aA ⟨hi,by omega⟩
theorem NE {c:UInt8} (h:bB c=true):c≠45:=by rintro rfl;revert h;decide
theorem yW {c:UInt8} (h:bQ c=true):dA c=true∨bB c=true∨c=95:=by
 unfold bQ at h;simp only[dJ,bU] at h;rcases h with(h|h)|h
 ·exact .inl h
 ·exact .inr (.inl h)
 ·exact .inr (.inr (UInt8.toNat_inj.1 h))
theorem LD {p:UInt8->Bool}:∀{l:By} {x:UInt8},x∈l.takeWhile p->p x=true
 |c::l,x,h=>by
  rw[bZ] at h;split at h
  ·rename_i hc;rcases List.mem_cons.1 h with rfl|h
   ·exact hc
   ·exact LD h
  ·cases h
theorem S0 {p q:UInt8->Bool} (hpq:∀c,q c=true->p c=true):∀(t:By),(∀c,(t.dropWhile q).head?=some c->p c=false)->t.takeWhile p=t.takeWhile q
 |[],_=>rfl
 |c::t,h=>by
  by_cases hq:q c=true
  ·rw[bZ,bZ,aA hq,aA (hpq c hq),S0 hpq t (fun d hd=>h d (by rw[List.dropWhile_cons,aA hq];exact hd))]
  ·rw[bZ,bZ,aB hq,aB (by rw[h c (by rw[List.dropWhile_cons,aB hq];rfl)];simp)]
theorem AZ (l:By):bP (34::l)=0:=by cases l<;>rfl
theorem sF (x:UInt8) (l:By):bP (92::x::l)=2+bP l:=by
 conv=>lhs;unfold bP
 rw[aB (by decide),aB (by decide),aA rfl]
theorem IS (l:By):bP (10::l)=0:=by cases l<;>rfl
theorem tY {c:UInt8} (h:¬c=34) (h10:¬c=10) (h':¬c=92) (l:By):bP (c::l)=1+bP l:=by
 conv=>lhs;unfold bP
 rw[aB h,aB h10,aB h']
theorem JJ:∀k:Fin 16,iI k≠10:=by decide+kernel
theorem SU (t r:By):bP (t.flatMap oH++34::r)=(t.flatMap oH).length:=by
 induction t with
 |nil=>exact AZ r
 |cons c t ih=>
  rw[gZ,cW,aX];by_cases h:c=34∨c=92
  ·rw[OS h];show bP (92::c::(t.flatMap oH++34::r))=_;rw[sF,ih];rfl
  ·by_cases hb:c.toNat<32∨126<c.toNat
   ·rw[OT hb];show bP (92::120::iI (c.toNat / 16)::iI (c.toNat%16)::(t.flatMap oH++34::r))=_;have hlt:=bS c;have h1:=qH (k:=c.toNat / 16) (by omega);have h2:=qH (k:=c.toNat%16) (by omega);rw[sF,tY h1.2.2.1 (JJ ⟨c.toNat / 16,by omega⟩) h1.2.2.2,tY h2.2.2.1 (JJ ⟨c.toNat%16,by omega⟩) h2.2.2.2,ih];simp only[aM,bW];omega
   ·rw[OU (fun e=>h (.inl e)) (fun e=>h (.inr e)) hb];show bP (c::(t.flatMap oH++34::r))=_;rw[tY (fun e=>h (.inl e)) (fun e=>hb (.inl (by rw[e];decide))) (fun e=>h (.inr e)),ih];rfl
theorem LV:∀(n:Nat) (t:By),t.length<=n->t[bP t]?=some 34->kG t=bP t
 |_,[],_,h=>by cases h
 |0,c::t,hn,h=>by simp at hn
 |n+1,c::t,hn,h=>by
  have hn':t.length<=n:=by simpa using hn
  by_cases h34:c=34
  ·rw[h34,O1,AZ]
  by_cases h10:c=10
  ·rw[h10,IS] at h;cases h
  by_cases h92:c=92
  ·subst h92;cases t with
   |nil=>cases h
   |cons x t=>
    rw[sF] at h;rw[O0,sF,LV n t (by simp at hn';omega) (by rw[Nat.add_comm] at h;exact h)]
  ·rw[tY h34 h10 h92] at h;rw[SS h34 h92,tY h34 h10 h92,LV n t hn' (by rw[Nat.add_comm] at h;exact h)]
theorem vC {t:By} {v:Val} (h:n7 (34::t)=some v):v=⟨2,0,v.s⟩/\v.ok=true/\t=v.s.flatMap oH++[34]:=by
 rw[SR] at h;split at h
 ·split at h
  ·rename_i hc;cases h;refine⟨rfl,hc.1,?_⟩;have:=hc.2;unfold sE at this;exact(List.cons.inj this).2.symm
  ·cases h
 ·cases h
theorem W8 (l:By):vE (34::l)=n7 (34::l):=A9 (fun v h=>by
 unfold Lib.atoiAll at h;simp only[show¬((34:UInt8).toNat=43∨(34:UInt8).toNat=45) by decide,cO] at h;unfold Lib.parseMag Lib.parseUint10 at h;rw[aB (by simp),aB (by decide)] at h;cases h)
theorem P5 (t:By):(if t[bP t]?=some 34 then match vE ((34::t).take (2+bP t)) with|some v=>(Tk.tx v.s,2+bP t)|none=>(.bad,1) else(.bad,1)).1=(match n7 ((34::t).take (min (2+kG t) (34::t).length)) with|some v=>Tk.tx v.s|none=>.bad)
  /\((match n7 ((34::t).take (min (2+kG t) (34::t).length)) with|some v=>Tk.tx v.s|none=>.bad)≠ .bad->(if t[bP t]?=some 34 then match vE ((34::t).take (2+bP t)) with|some v=>(Tk.tx v.s,2+bP t)|none=>(.bad,1) else(.bad,1)).2=((34::t).take (min (2+kG t) (34::t).length)).length):=by
 by_cases hq:t[bP t]?=some 34
 ·have hl:=(List.getElem?_eq_some_iff.1 hq).1;have hqq:=LV t.length t (rL _) hq;rw[aA hq,hqq,Nat.min_eq_left (by simp;omega)];have e:(34::t).take (2+bP t)=34::t.take (1+bP t):=by rw[show 2+bP t=(1+bP t)+1 by omega];rfl
  rw[e,W8];cases n7 (34::t.take (1+bP t)) with
  |none=>exact⟨rfl,fun h=>absurd rfl h⟩
  |some v=>exact⟨rfl,fun _=>by simp;omega⟩
 ·rw[aB hq];have hn:n7 ((34::t).take (min (2+kG t) (34::t).length))=none:=by
   cases h:n7 ((34::t).take (min (2+kG t) (34::t).length)) with
   |none=>rfl
   |some v=>
    exfalso;obtain⟨m,hm⟩:∃m,min (2+kG t) (34::t).length=m+1:=⟨min (2+kG t) (34::t).length - 1,by simp;omega⟩;rw[hm] at h;replace h:n7 (34::t.take m)=some v:=h;have ht:=(vC h).2.2;have hd:t=v.s.flatMap oH++34::t.drop m:=by
     conv=>lhs;rw[<-fX m t,ht]
     simp
    apply hq;rw[hd,SU,bT (rL _),Nat.sub_self];rfl
  rw[hn];exact⟨rfl,fun h=>absurd rfl h⟩
theorem qX {w:By} (h45:w.head?≠some 45) (h:∃c∈w,bB c=false):s5 w=none:=by
 cases hn:s5 w with
 |none=>rfl
 |some k=>
  obtain⟨_,_,h3⟩:=u5 hn h45;obtain⟨c,hc,hd⟩:=h;rw[<-h3] at hc;rw[(mZ k.toNat).1 c hc] at hd;cases hd
theorem a0I (c : UInt8) (t : By) : (kX (c :: t)).1 = (iD (c :: t)).1 ∧ ((iD (c :: t)).1 ≠ .bad → (kX (c :: t)).2 = (iD (c :: t)).2.length) := by
  unfold kX iD;dsimp only;by_cases hs : dA c = true
  · have hi := mM hs
    have h45 : (c :: t.takeWhile bQ).head? ≠ some 45 := by simp; rintro rfl; revert hs; decide
    rw [aA hs, aA hi, qX h45 ⟨c, by simp, by
      have := (E5 c).1 hs;cases hd : bB c with
      | false => rfl
      | true => have := (iT c).1 hd; omega⟩]
    split <;> exact ⟨rfl, fun _ => rfl⟩
  rw [aB hs];by_cases hd : bB c = true
  · have hi := mY hd
    have hn : dE (c :: t.takeWhile bQ) = false := by
      cases h : dE (c :: t.takeWhile bQ) with
      | false => rfl
      | true => exact absurd (EJ h) hs
    have h45 : (c :: t.takeWhile bQ).head? ≠ some 45 := by simp; exact NE hd
    rw [aA hd, aA hi, hn];simp only [aY, cO];by_cases hr : ((t.dropWhile bB).head?.any fun c => dA c || c == 95) = true
    · rw [aA (.inr (.inl hr))]
      obtain ⟨x, hx, hx2⟩ : ∃ x, (t.dropWhile bB).head? = some x ∧ (dA x || x == 95) = true := by
        cases h : (t.dropWhile bB).head? with
        | none => rw [h] at hr; cases hr
        | some x => rw [h] at hr; exact ⟨x, rfl, hr⟩
      have hxd : bB x = false := by
        cases h : bB x with
        | false => rfl
        | true =>
          have h1 := (iT x).1 h;simp only [dJ, bU] at hx2;rcases hx2 with h2 | h2
          · have := (E5 x).1 h2; omega
          · subst h2; revert h; decide
      have hxi : bQ x = true := by
        simp only [dJ, bU] at hx2;rcases hx2 with h2 | h2
        · exact mM h2
        · subst h2; decide
      have hm : x ∈ t.takeWhile bQ := by
        have e := List.takeWhile_append_dropWhile (p := bB) (l := t);cases hdw : t.dropWhile bB with
        | nil => rw [hdw] at hx; cases hx
        | cons y r =>
          rw [hdw] at hx e; cases hx;rw [← e, List.takeWhile_append_of_pos (fun a ha => mY (LD ha))];rw [bZ, aA hxi];simp
      rw [qX h45 ⟨x, fH _ hm, hxd⟩];exact ⟨rfl, fun h => absurd rfl h⟩
    have hw : t.takeWhile bQ = t.takeWhile bB := S0 (fun a ha => mY ha) t (fun x hx => by
      cases hxi : bQ x with
      | false => rfl
      | true =>
        exfalso;rcases yW hxi with h | h | h
        · exact hr (by rw [hx]; simp [h])
        · have := List.head?_dropWhile_not bB t
          rw [hx] at this;simp [h] at this
        · exact hr (by rw [hx]; simp [h]))
    rw [hw] at h45 ⊢;have hall : ∀ x ∈ c :: t.takeWhile bB, bB x = true := fun x hx => by
      rcases List.mem_cons.1 hx with rfl | hx
      · exact hd
      · exact LD hx
    generalize hW : t.takeWhile bB = W at *;by_cases h0 : c = 48 ∧ 1 < (c :: W).length
    · rw [aA (.inr (.inr h0))]
      have : s5 (c :: W) = none := by
        cases hn : s5 (c :: W) with
        | none => rfl
        | some k =>
          obtain ⟨_, _, h3⟩ := u5 hn h45;have h4 := (mZ k.toNat).2.2.2.1;rw [h3] at h4;exact absurd (by rw [h0.1]; rfl) (h4 h0.2)
      rw [this];exact ⟨rfl, fun h => absurd rfl h⟩
    obtain ⟨n1, n2⟩ := O5 (c :: W) 0 (by decide);by_cases hb : iK (c :: W) ≤ 1000000000
    · rw [n1 hb, aB fun h => h.elim (fun h => by cases h) fun h => h.elim hr h0, Q0 (fO _ _) hall (fun h1 h2 => h0 ⟨by simpa using h2, h1⟩) hb]
      exact ⟨rfl, fun _ => rfl⟩
    · rw [n2 (by unfold iK at hb; omega), aA (.inl rfl)]
      have : s5 (c :: W) = none := by
        cases hn : s5 (c :: W) with
        | none => rfl
        | some k =>
          obtain ⟨k0, k1, h3⟩ := u5 hn h45;have h4 := (mZ k.toNat).2.1;rw [h3] at h4;omega
      rw [this];exact ⟨rfl, fun h => absurd rfl h⟩
  rw [aB hd];by_cases h34 : c = 34
  · subst h34
    rw [aA rfl, aB (show ¬ bQ 34 = true by decide), aA rfl];exact P5 t
  rw [aB h34];by_cases hi : bQ c = true
  · rcases yW hi with h | h | h
    · exact absurd h hs
    · exact absurd h hd
    · subst h
      rw [aA hi, aB (show ¬ gI (95 :: t) = true by cases t <;> simp [gI]), aB (by decide)];have hn : dE (95 :: t.takeWhile bQ) = false := by
        cases h : dE (95 :: t.takeWhile bQ) with
        | false => rfl
        | true => exact absurd (EJ h) hs
      rw [hn, qX (by simp) ⟨95, by simp, by decide⟩];exact ⟨rfl, fun h => absurd rfl h⟩
  rw [aB hi, aB h34];by_cases hp : gI (c :: t) = true
  · have hsg : jI c = true ∧ t ≠ [] := by
      unfold gI at hp;cases t with
      | nil => simp at hp
      | cons d t =>
        simp at hp;rcases hp with ⟨rfl, _⟩ | ⟨rfl, _⟩ | ⟨rfl, _⟩ <;> exact ⟨by decide, by simp⟩
    rw [aA hp, aA hp, aA hsg.1];refine ⟨rfl, fun _ => ?_⟩;have := List.length_pos_iff.2 hsg.2;simp; omega
  · rw [aB hp, aB hp]
    split <;> exact ⟨rfl, fun _ => rfl⟩
def NF:List Tk->List Tk
 |[]=>[]
 |t::r=>if t=.bad then[t] else t::NF r
theorem vU (nl:Nat):∀(f ln:Nat) (l:By),(jG nl f ln l).map (·.t)=NF ((lA nl f ln l).map (·.t))
 |0,ln,l=>rfl
 |f+1,ln,[]=>rfl
 |f+1,ln,c::t=>by
  unfold jG lA;dsimp only;by_cases h10:c=10
  ·rw[aA h10,aA h10];exact vU nl f _ _
  rw[aB h10,aB h10];by_cases h32:c=32∨c=9
  ·rw[aA h32,aA h32];exact vU nl f _ _
  rw[aB h32,aB h32];by_cases h35:c=35
  ·rw[aA h35,aA h35];exact vU nl f _ _
  rw[aB h35,aB h35];obtain⟨e1,e2⟩:=a0I c t;rw[bY,bY];show _=if(kX (c::t)).1=.bad then _ else _;rw[e1];by_cases hb:(iD (c::t)).1=.bad
  ·rw[aA hb,aA hb];rfl
  ·rw[aB hb,aB hb,e2 hb,vU nl f]
