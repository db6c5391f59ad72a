/-
  A part of the proof of SchemaSorts.
-/
import Derived.Test.YtcfgfkkhpdlhpaaGreatDoorS50
set_option linter.all false
set_option maxRecDepth 100000
namespace Go.Proofs.YtcfgfkkhpdlhpaaGreatDoor
open Go.RowKit
theorem zK {α:Type} {f:Nat->α->Int} {n:Nat} {l:List α} {p:Nat×Int} (h:eS f n l=some p):p.2≠0:=by
 induction l generalizing n with
 |nil=>cases h
 |cons x l ih=>
  unfold eS at h;by_cases h0:f n x=0
  ·rw[aF h0] at h;exact ih h
  ·rw[aD h0] at h;cases h;exact h0
section
variable {known : List Itm → Bool} {canon : By → Bool} {check : List Itm → By → Int}
theorem JT {s:Sch} (h:(ZI known canon check s).2.2=0):uM s.ar.length 1 6=true/\eS (fun i a=>mN ((dH s).take i) a) 0 s.ar=none/\uM s.rc.length 1 10=true/\
  eS (fun i r=>HL known canon check s (dH s++(gB s).take i) r) 0 s.rc=none/\¬s.st.length>60/\eS (fun i t=>JS s (dH s++(gB s++(tP s).take i)) t) 0 s.st=none:=by
 unfold ZI at h;cases h1:uM s.ar.length 1 6 with
 |false=>rw[h1] at h;exact absurd (show(4:Int)=0 from h) (by decide)
 |true=>
  rw[h1,aD (by simp)] at h;cases h2:eS (fun i a=>mN ((dH s).take i) a) 0 s.ar with
  |some p=>rw[h2] at h;exact absurd h (zK h2)
  |none=>
   rw[h2] at h;simp only[] at h;unfold IA at h;cases h3:uM s.rc.length 1 10 with
   |false=>rw[h3] at h;exact absurd (show(4:Int)=0 from h) (by decide)
   |true=>
    rw[h3,aD (by simp)] at h;cases h4:eS (fun i r=>HL known canon check s (dH s++(gB s).take i) r) 0 s.rc with
    |some p=>rw[h4] at h;exact absurd h (zK h4)
    |none=>
     rw[h4] at h;simp only[] at h;unfold I8 at h;by_cases h5:s.st.length>60
     ·rw[aF h5] at h;exact absurd h (by decide)
     ·rw[aD h5] at h;cases h6:eS (fun i t=>JS s (dH s++(gB s++(tP s).take i)) t) 0 s.st with
      |some p=>rw[h6] at h;exact absurd h (zK h6)
      |none=>exact⟨rfl,rfl,rfl,rfl,h5,rfl⟩
end
theorem VY {w:Bool} {e b:Int} (he:e≠0) (h:dX w e b=0):w=false/\b=0:=by
 unfold dX at h;cases w with
 |false=>exact⟨rfl,h⟩
 |true=>exact absurd h he
theorem W3 {s:Sch} {met:List By} {t:Sy} (h:JS s met t=0):met.contains t.name=false/\(t.owner !=[]&&!((gB s).contains t.owner))=false:=by
 unfold JS kL at h;obtain⟨_,h⟩:=VY (by decide) h;obtain⟨h1,h⟩:=VY (by decide) h;exact⟨h1,(VY (by decide) h).1⟩
theorem TH {s:Sch} (h:(r6 s).2.2=0) {j:Nat} {t:Sy} (hj:s.st[j]?=some t):(∀z∈s.st.take j,(z.name==t.name)=false)/\(t.owner !=[]&&!((gB s).contains t.owner))=false:=by
 have h6:=rR (JT (s:=s) h).2.2.2.2.2 j t hj;obtain⟨h1,h2⟩:=W3 h6;refine⟨fun z hz=>?_,h2⟩;cases hq:z.name==t.name with
 |false=>rfl
 |true=>
  exfalso;have e:=eq_of_beq hq;have:(dH s++(gB s++(tP s).take (0+j))).contains t.name=true:=by
   rw[List.contains_iff_mem];refine List.mem_append_right _ (List.mem_append_right _ ?_);unfold tP;rw[bH,<-List.map_take,<-e];exact List.mem_map_of_mem hz
  rw[h1] at this;cases this
theorem ZG {s:Sch} {met:List By} {t:Sy} (h:JS s met t=0):(∀k m,t.ms[k]?=some m->pO s t k m=0)/\(t.order=5->wB s t=0):=by
 unfold JS kL at h;obtain⟨_,h⟩:=dL h (by decide);obtain⟨_,h⟩:=dL h (by decide);obtain⟨_,h⟩:=dL h (by decide);obtain⟨_,h⟩:=dL h (by decide);obtain⟨h2,h⟩:=wG h;obtain⟨_,h⟩:=dL h (by decide);obtain⟨h3,h⟩:=wG h;exact⟨vO h2,fun e=>by rwa [aF e] at h3⟩
theorem M9 {s:Sch} (h:(r6 s).2.2=0) {t:Sy} (ht:t∈s.st):(∀k m,t.ms[k]?=some m->pO s t k m=0)/\(t.order=5->wB s t=0):=by
 obtain⟨j,hj⟩:=List.mem_iff_getElem?.1 ht;exact ZG (rR (JT (s:=s) h).2.2.2.2.2 j t hj)
theorem a04 {s:Sch} (h:(r6 s).2.2=0) {t:Sy} (ht:t∈s.st) (ho:t.owner≠[]):(gB s).contains t.owner=true:=by
 obtain⟨j,hj⟩:=List.mem_iff_getElem?.1 ht;have h2:=(TH h hj).2;cases hc:(gB s).contains t.owner with
 |true=>rfl
 |false=>rw[hc] at h2;simp at h2;exact absurd h2 ho
theorem WN {known:List Itm->Bool} {canon:By->Bool} {check:List Itm->By->Int} {s:Sch} {met:List By} {r:Rc} (h:HL known canon check s met r=0) (hp:r.place=2):r.keys.length<=4:=by
 unfold HL kL at h;obtain⟨-,h⟩:=dL h (by decide);obtain⟨-,h⟩:=dL h (by decide);obtain⟨-,h⟩:=dL h (by decide);obtain⟨-,h⟩:=dL h (by decide);obtain⟨h1, -⟩:=wG h;unfold sC at h1;rw[aF hp] at h1;obtain⟨h2, -⟩:=dL h1 (by decide);unfold uM at h2;simp at h2;omega
theorem a2d {s:Sch} {n:By} (h:(gB s).contains n=true):∃j:Nat,m8 (fun r:Rc=>r.name==n) s.rc=j/\s.rc[j]?=some (eQ s n):=by
 obtain⟨_,hf⟩:=IB h;rcases jI (fun r:Rc=>r.name==n) s.rc with⟨_,h2,_⟩|⟨j,y,h1,hy,h2,_⟩
 ·rw[h2] at hf;cases hf
 ·rw[h2] at hf;exact⟨j,h1,(aY hf)▸hy⟩
theorem uW {s:Sch} {n:By} {t:Sy} {i:Int} (h:kS s n=(t,i,0)):(r6 s).2.2=0/\t∈s.st/\∃j:Nat,m8 (fun t:Sy=>t.name==n) s.st=j/\s.st[j]?=some t:=by
 unfold kS at h;cases hv:((r6 s).2.2==0) with
 |false=>rw[hv] at h;simp at h
 |true=>
  rw[hv,aF rfl] at h;rcases jI (fun t:Sy=>t.name==n) s.st with⟨h1,h2,_⟩|⟨j,y,h1,hy,h2,_⟩
  ·rw[h2] at h;simp at h
  ·rw[h2] at h;have:y=t:=(Prod.mk.inj h).1;subst this;exact⟨eq_of_beq hv,aL hy,j,h1,hy⟩
theorem AG {s:Sch} {n r:By} {m:Mb} (h:wH s n r=(m,0)):∃t i,kS s n=(t,i,0)/\m∈t.ms/\m.of=r:=by
 unfold wH at h;generalize kS s n=R at*;obtain⟨t,i,e⟩:=R;cases he:(e==0) with
 |false=>
  rw[show((t,i,e):Sy×Int×Int).2.2=e from rfl,he] at h;have h2:e=0:=(Prod.mk.inj h).2;subst h2;cases he
 |true=>
  cases eq_of_beq he;replace h:((match t.ms.find? (·.of==r) with|none=>(mb0,8)|some m=>(m,0)):Mb×Int)=(m,0):=h;cases hf:t.ms.find? (·.of==r) with
  |none=>rw[hf] at h;exact absurd (Prod.mk.inj h).2 (by decide)
  |some y=>
   rw[hf] at h;have:y=m:=(Prod.mk.inj h).1;subst this;exact⟨t,i,rfl,List.mem_of_find?_eq_some hf,eq_of_beq (List.find?_some (p:=fun z:Mb=>z.of==r) hf)⟩
theorem N8 {s:Sch} {n r:By} {m:Mb} (h:wH s n r=(m,0)):(∃j:Nat,m8 (fun r':Rc=>r'.name==r) s.rc=j/\s.rc[j]?=some (eQ s r))/\m.sel.length<=8/\∀x∈m.sel,(eQ s r).its.any (·.name==x)=true:=by
 obtain⟨t,i,hR,hm,rfl⟩:=AG h;obtain⟨hv,ht,_⟩:=uW hR;obtain⟨k,hk⟩:=List.mem_iff_getElem?.1 hm;have h1:=(M9 hv ht).1 k m hk;unfold pO at h1;obtain⟨h2,h1⟩:=dL h1 (by decide);obtain⟨_,h1⟩:=dL h1 (by decide);obtain⟨_,h1⟩:=dL h1 (by decide);refine⟨a2d (by simpa using h2),?_⟩;by_cases hs:m.sel=[]
 ·rw[hs];exact⟨zL _,fun x hx=>by cases hx⟩
 unfold TJ at h1;rw[aD hs] at h1;obtain⟨a1,h1⟩:=dL h1 (by decide);obtain⟨a2,h1⟩:=dL h1 (by decide);obtain⟨a3,h1⟩:=dL h1 (by decide);have ho:t.owner≠[]:=fun e=>by rw[e] at a1;cases a1
 have hp:(eQ s t.owner).place=2:=by
  have:=(Bool.or_eq_false_iff.1 a2).1;simpa using this
 have hr:=IB (a04 hv ht ho);obtain⟨j,hj⟩:=List.mem_iff_getElem?.1 hr.1;have hk4:=WN (rR (JT (s:=s) hv).2.2.2.1 j _ hj) hp;have hlen:m.sel.length=(eQ s t.owner).keys.length:=by simpa using a3
 refine⟨by omega,fun x hx=>?_⟩;obtain⟨q,hq⟩:=List.mem_iff_getElem?.1 hx;have h5:=vO h1 q x hq;unfold FT at h5;obtain⟨h6,_⟩:=dL h5 (by decide);simpa using h6
def nP (l:List Itm) (r:List Val) (ns:List By):List Val:=ns.map fun n=>(r[(m8 (fun a:Itm=>a.name==n) l).toNat]?).getD ⟨0,0,[]⟩
theorem K3 {l:List Itm} {r:List Val} (hf:oR l r=true) {n:By} (h:l.any (·.name==n)=true):∃(j:Nat) (y:Val),m8 (fun a:Itm=>a.name==n) l=j/\r[j]?=some y/\nP l r [n]=[y]:=by
 unfold oR at hf;have hlen:=AV (Bool.and_eq_true_iff.1 hf).2;rcases jI (fun a:Itm=>a.name==n) l with⟨_,_,h3⟩|⟨j,y,h1,hy,_,_⟩
 ·rw[h3] at h;cases h
 ·have hj:j<r.length:=by have:=(List.getElem?_eq_some_iff.1 hy).1;omega
  refine⟨j,r[j],h1,gL hj,?_⟩;unfold nP;rw[dV,h1,aA,gL hj];rfl
theorem MY (l:List Itm) (r:List Val) (a b:List By):nP l r (a++b)=nP l r a++nP l r b:=cX
theorem A9 (l:List Itm) (r:List Val) (a:List By):(nP l r a).length=a.length:=bS _
theorem X8 {l:List Itm} {r:List Val} (hf:oR l r=true) {ns:List By} (hn:∀n∈ns,l.any (·.name==n)=true):∀v∈nP l r ns,v∈r:=fun v hv=>by
 obtain⟨n,hm,rfl⟩:=List.mem_map.1 hv;obtain⟨j,y,h1,hy,_⟩:=K3 hf (hn n hm);rw[h1,aA,hy];exact aL hy
def uH:List Val->List Val->Int
 |[],[]=>0
 |[],_::_=> -1
 |_::_,[]=>1
 |x::a,y::b=>if o7 x y≠0 then o7 x y else uH a b
theorem JE (x:Int):lG x x=0:=by unfold lG;rw[aD (Int.lt_irrefl x),aD (Int.lt_irrefl x)]
theorem UW (v:Val):o7 v v=0:=by
 unfold o7;rw[JE,JE];unfold oU;rw[LW];rfl
theorem CK:∀a:List Val,uH a a=0
 |[]=>rfl
 |x::a=>by unfold uH;rw[UW];exact CK a
theorem HB:∀{a b c:By},Op.bytesLess a b=true->Op.bytesLess b c=true->Op.bytesLess a c=true
 |_,[],_,h,_=>by unfold Op.bytesLess at h;cases h
 |_,_::_,[],_,h=>by unfold Op.bytesLess at h;cases h
 |[],_::_,_::_,_,_=>by unfold Op.bytesLess;rfl
 |x::a,y::b,z::c,h,k=>by
  unfold Op.bytesLess at h k⊢;simp only[eR,aH,aK,cT,UInt8.lt_iff_toNat_lt] at h k⊢;rcases h with h|⟨rfl,h⟩
  ·rcases k with k|⟨rfl,k⟩
   ·exact .inl (by omega)
   ·exact .inl h
  ·rcases k with k|⟨rfl,k⟩
   ·exact .inl k
   ·exact .inr ⟨rfl,HB h k⟩
structure Ord3 {α:Type} (f:α->α->Int):Prop where
 same:∀x y,f x y=0->x=y
 anti:∀x y,f y x= - f x y
 trans:∀x y z,f x y<=0->f y z<=0->f x z<=0
theorem Ord3.self {α:Type} {f:α->α->Int} (h:Ord3 f) (x:α):f x x=0:=by have:=h.anti x x;omega
theorem Ord3.neg {α:Type} {f:α->α->Int} (h:Ord3 f):Ord3 fun x y=> - f x y where
 same x y e:=h.same x y (by omega)
 anti x y:=by rw[h.anti x y]
 trans x y z a b:=by
  have h1:=h.anti x y;have h2:=h.anti y z;have h3:=h.anti x z;have:=h.trans z y x (by omega) (by omega);omega
theorem U7:Ord3 lG where
 same x y h:=by unfold lG at h;split at h<;>(try split at h)<;>omega
 anti x y:=by unfold lG;split<;>split<;>(try split)<;>omega
 trans x y z h k:=by
  unfold lG at*;have h1:x<=y:=by
   rcases Int.lt_or_le y x with q|q
   ·rw[aD (by omega),aF q] at h;omega
   ·exact q
  have h2:y<=z:=by
   rcases Int.lt_or_le z y with q|q
   ·rw[aD (by omega),aF q] at k;omega
   ·exact q
  split
  ·decide
  ·rw[aD (by omega)];exact dE 0
theorem T4 {a b:By} (h:Op.bytesLess a b=true):Op.bytesLess b a=false:=by
 cases h2:Op.bytesLess b a with
 |false=>rfl
 |true=>have:=HB h h2;rw[LW] at this;cases this
theorem a0U {a b:By}:oU a b<=0↔Op.bytesLess b a=false:=by
 unfold oU;constructor
 ·intro h;cases h2:Op.bytesLess b a with
  |false=>rfl
  |true=>rw[T4 h2,h2] at h;exact absurd h (by decide)
 ·intro h;rw[h];split
  ·decide
  ·exact dE 0
theorem a3u:Ord3 oU where
 same x y h:=by
  by_cases e:x=y
  ·exact e
  ·have h1:=a0U.1 (Int.le_of_eq h);unfold oU at h;rw[LV h1 (fun q=>e q.symm),aF rfl] at h;exact absurd h (by decide)
 anti x y:=by
  unfold oU;cases h1:Op.bytesLess x y with
  |false=>cases Op.bytesLess y x<;>rfl
  |true=>rw[T4 h1];rfl
 trans x y z h k:=by
  rw[a0U] at*;cases h1:Op.bytesLess z x with
  |false=>rfl
  |true=>
   by_cases e:x=y
   ·rw[<-e,h1] at k;cases k
   ·rw[HB h1 (LV h (fun q=>e q.symm))] at k;cases k
def m9 (a b:Int):Int:=if a≠0 then a else b
section
variable {α : Type} {f : α → α → Int} (hf : Ord3 f)
include hf
theorem JN {x y z:α} {p q r:Int} (ht:p<=0->q<=0->r<=0):m9 (f x y) p<=0->m9 (f y z) q<=0->m9 (f x z) r<=0:=by
 unfold m9;by_cases e1:f x y=0
 ·obtain rfl:=hf.same _ _ e1;by_cases e2:f x z=0
  ·rw[e1,e2];exact ht
  ·rw[aF e2,aF e2];exact fun _ h=>h
 ·by_cases e2:f y z=0
  ·obtain rfl:=hf.same _ _ e2;rw[aF e1,aF e1];exact fun h _=>h
  ·rw[aF e1,aF e2];intro h k;rw[aF (fun e=>by
    obtain rfl:=hf.same _ _ e;have:=hf.anti x y;omega)]
   exact hf.trans x y z h k
theorem BF {x y:α} {p q:Int} (ht:q= - p):m9 (f y x) q= - m9 (f x y) p:=by
 unfold m9;rw[hf.anti x y,ht];by_cases e:f x y=0
 ·rw[e];rfl
 ·rw[aF (by omega),aF e]
theorem xM {x y:α} {p:Int} (h:m9 (f x y) p=0):x=y/\p=0:=by
 unfold m9 at h;by_cases e:f x y=0
 ·rw[aD (by simpa using e)] at h;exact⟨hf.same _ _ e,h⟩
 ·rw[aF e] at h;exact absurd h e
end
theorem a2i:Ord3 o7 where
 same x y h:=by
  obtain⟨h1,h⟩:=xM U7 h;obtain⟨h2,h⟩:=xM U7 h;have h3:=a3u.same _ _ h;cases x;cases y;exact Val.mk.injEq .. ▸⟨h1,h2,h3⟩
 anti x y:=BF U7 (BF U7 (a3u.anti _ _))
 trans x y z h k:=JN U7 (JN U7 (a3u.trans _ _ _)) h k
theorem JD:∀{a b:List Val},uH a b=0->a=b
 |[],[],_=>rfl
 |[],_::_,h=>absurd (show(-1:Int)=0 from h) (by decide)
 |_::_,[],h=>absurd (show(1:Int)=0 from h) (by decide)
 |x::a,y::b,h=>by
  obtain⟨h1,h2⟩:=xM a2i (show m9 (o7 x y) (uH a b)=0 from h);rw[h1,JD h2]
def zD (d:Bool) (x y:Val):Int:=if d then - o7 x y else o7 x y
theorem K8 (d:Bool):Ord3 (zD d):=by
 cases d
 ·exact a2i
 ·exact a2i.neg
def nA:List Bool->List Val->List Val->Int
 |d::ds,x::a,y::b=>m9 (zD d x y) (nA ds a b)
 |_,_,_=>0
theorem IJ:∀(ds:List Bool) (a b:List Val),a.length=ds.length->b.length=ds.length->nA ds b a= - nA ds a b
 |[],a,b,_,_=>by unfold nA;rfl
 |d::ds,[],b,h,_=>by cases h
 |d::ds,x::a,[],_,h=>by cases h
 |d::ds,x::a,y::b,h,k=>BF (K8 d) (IJ ds a b (by simpa using h) (by simpa using k))
theorem II:∀(ds:List Bool) (a b:List Val),a.length=ds.length->b.length=ds.length->(nA ds a b=0↔a=b)
 |[],a,b,h,k=>⟨fun _=>by rw[aN h,aN k],fun _=>by unfold nA;rfl⟩
 |d::ds,[],b,h,_=>by cases h
 |d::ds,x::a,[],_,h=>by cases h
 |d::ds,x::a,y::b,h,k=>by
  have ih:=II ds a b (by simpa using h) (by simpa using k);constructor
  ·intro e;obtain⟨h1,h2⟩:=xM (K8 d) (show m9 (zD d x y) (nA ds a b)=0 from e);rw[h1,ih.1 h2]
  ·intro e;cases e;show m9 (zD d x x) (nA ds a a)=0;rw[(K8 d).self,ih.2 rfl];rfl
theorem FU:∀(ds:List Bool) (a b c:List Val),a.length=ds.length->b.length=ds.length->c.length=ds.length->nA ds a b<=0->nA ds b c<=0->nA ds a c<=0
 |[],a,b,c,_,_,_=>fun _ _=>by unfold nA;exact dE 0
 |d::ds,[],_,_,h,_,_=>by cases h
 |d::ds,_::_,[],_,_,h,_=>by cases h
 |d::ds,_::_,_::_,[],_,_,h=>by cases h
 |d::ds,x::a,y::b,z::c,h,k,l=>JN (K8 d) (FU ds a b c (by simpa using h) (by simpa using k) (by simpa using l))
theorem SY (x y:Val):o7 x y= -1∨o7 x y=0∨o7 x y=1:=by
 have hI:∀x y,lG x y= -1∨lG x y=0∨lG x y=1:=fun x y=>by unfold lG;split<;>(try split)<;>simp
 have hB:∀x y,oU x y= -1∨oU x y=0∨oU x y=1:=fun x y=>by unfold oU;split<;>(try split)<;>simp
 unfold o7;split
 ·exact hI _ _
 ·split
  ·exact hI _ _
  ·exact hB _ _
theorem KJ (d:Bool) (x y:Val):zD d x y= -1∨zD d x y=0∨zD d x y=1:=by
 have:=SY x y;cases d
 ·exact this
 ·show - o7 x y= -1∨ - o7 x y=0∨ - o7 x y=1;omega
theorem RW:∀(ds:List Bool) (a b:List Val),nA ds a b= -1∨nA ds a b=0∨nA ds a b=1
 |d::ds,x::a,y::b=>by
  show m9 (zD d x y) (nA ds a b)= -1∨m9 (zD d x y) (nA ds a b)=0∨m9 (zD d x y) (nA ds a b)=1;unfold m9;split
  ·exact KJ d x y
  ·exact RW ds a b
 |[],_,_=>.inr (.inl (by unfold nA;rfl))
 |_::_,[],_=>.inr (.inl (by unfold nA;rfl))
 |_::_,_::_,[]=>.inr (.inl (by unfold nA;rfl))
instance [MaxL] {l:List Val}:KL (hZ l):=⟨zR l⟩
instance [MaxL] {v:Val}:KG v.gv:=⟨v.cl⟩
theorem WB [MaxL] (x:Itm) (n:By):SC Tryz.prog 211 [x.gv,.ptr 0 0] [.box 9 [.s n]] (.val (.b (x.name==n))) [.box 9 [.s n]]:=by
 refine cY Tryz.func211 rfl ?_;conv=>whnf
 exact dB 1
theorem ZK [MaxL] (l:List Itm) (hl:l.length<bB) (n:By):SC Tryz.prog 166 [.sl .none (f5 l),.s n] [] (.val (.i .i64 (m8 (fun x=>x.name==n) l))) []:=by
 have hi:=zN (fun x=>MF (Itm.cs x)) l hl (fun x=>x.name==n) _ 9 [.s n] _ 5 (fun x _=>WB x n) (.inr (.inr (.inr (.inr (.inr (.inr ⟨rfl,rfl,rfl⟩))))));refine cY Tryz.func166 rfl ?_;conv=>whnf
 refine cS [0] hi ?_;conv=>whnf
 exact dB 0
theorem YJ {a b:List Val} {i:Nat} (h:i=a.length/\i<=b.length∨i=b.length/\i<=a.length):uH (a.drop i) (b.drop i)=lG a.length b.length:=by
 have key:∀x y:List Val,(x=[]∨y=[])->uH x y=lG x.length y.length:=fun x y h=>by
  unfold lG;cases x with
  |nil=>cases y with
   |nil=>rfl
   |cons y l=>show(-1:Int)=_;rw[aF (by simp)]
  |cons x k=>cases y with
   |nil=>show(1:Int)=_;rw[aD (by simp;try omega),aF (by simp;try omega)]
   |cons y l=>rcases h with h|h<;>cases h
 have hl:(a.drop i).length=a.length - i:=d6;have hk:(b.drop i).length=b.length - i:=d6;rw[key _ _ (h.elim (fun h=>.inl (j0 (by omega))) (fun h=>.inr (j0 (by omega)))),hl,hk];unfold lG;rcases Nat.lt_trichotomy a.length b.length with q|q|q
 ·rw[aF (by omega),aF (by omega)]
 ·rw[q,aD (by omega),aD (by omega),aD (by omega),aD (by omega)]
 ·rw[aD (by omega),aF (by omega),aD (by omega),aF (by omega)]
theorem a0S {a b:List Val} {i:Nat} {x y:Val} (hx:a[i]?=some x) (hy:b[i]?=some y):uH (a.drop i) (b.drop i)=m9 (o7 x y) (uH (a.drop (i+1)) (b.drop (i+1))):=by
 obtain⟨h1,e1⟩:=List.getElem?_eq_some_iff.1 hx;obtain⟨h2,e2⟩:=List.getElem?_eq_some_iff.1 hy;rw[aT h1,aT h2,e1,e2];rfl
instance [MaxL] {m:Nat} {T:TypeId} {k n:Nat}:FO m (ow T k n):=⟨fun e _=>z7 T k n e⟩
theorem ap1 [MaxL] {α:Type} {f:α->GV} {c:Nat} (hf:∀a,(f a).cells.length=c) (o:List α) (y:α) {A:Prop} {K:List GV->Nat->Prop} (hA:A) (hl:o.length<4294967296) (k:K ((o++[y]).map f) (o++[y]).length):
  GNeed (A/\(o.map f).all (fun x=>x.cells.length==c)=true/\(o.map f).length+1<=4294967296) (∃zs m,GNeed (zs=o.map f++[f y]/\m=(o.map f).length+1) (K zs m)):=
 ⟨⟨hA,by
  rw[aS];intro x hx;obtain⟨b,_,rfl⟩:=List.mem_map.1 hx;rw[hf];exact beq_self_eq_true _,by rw[bS];omega⟩,_,_,⟨by rw[cX];rfl,by rw[bS,aG];rfl⟩,k⟩
theorem a1Y [MaxL] (l:List Itm) (r:List Val) (ns:List By) (hl:l.length<bB) (hr:r.length<bB) (hf:oR l r=true) (hn:∀n∈ns,l.any (·.name==n)=true) (hk:ns.length<=8):SC Tryz.prog 92 [.sl .none (f5 l),.sl .none (hZ r),.sl .none (bA ns)] [] (.val (.tup [.sl .none (hZ (nP l r ns)),.i .i64 0])) []:=by
 have hF:=YY l r hl hr;rw[hf] at hF;have hlen:(bA ns).length=ns.length:=aP ns;refine cY Tryz.func92 rfl ?_;conv=>whnf
 refine cP hF ?_;conv=>whnf
 refine cW 2 ns.length (fun i o=>o=nP l r (ns.take i)) (fun i o=>[(0,.sl .none (f5 l)),(1,.sl .none (hZ r)),(8,.sl (.own 1) (hZ o)),(16,.sl .none (bA ns)),(17,.i .i64 (ns.length:Nat)),(18,.i .i64 (i:Nat))]) (fun _ o=>[.own 0 0 0,ow 138 3 o.length]) [] [] rfl (fun i o φ0 hi ho=>?_) (hφ:=⟨rfl,rfl,rfl,rfl,by rw[<-hlen];rfl,rfl,trivial⟩) (hh:=fun _ _=>by simp only[iX,oB];rfl);conv=>whnf
 refine aE (fun h=>?_) (fun h=>?_)<;>conv=>whnf
 rotate_left
 ·have e:o=nP l r ns:=by rw[ho,cZ (by have:=aC h;omega)]
  refine gN (show decide (((hZ o).length:Int)>8)=false from cD (by rw[kA,e,A9];omega)) ?_;conv=>whnf
  rw[<-e];exact dB 0 (hw:=Wk.tupl ⟨bI _ _,.refl _,trivial⟩)
 have hlt:i<ns.length:=by have:=aB h;omega
 refine(gV hlt).elim fun n hni=>?_;refine(K3 hf (hn n (aL hni))).elim fun j hj=>hj.elim fun y hy=>?_;have hp:=ZK l hl n;rw[hy.1] at hp;have ho':o++[y]=nP l r (ns.take (i+1)):=by rw[bP,hni,MY,<-ho];exact aQ (o++ ·) hy.2.2.symm
 have hol:o.length<=8:=by rw[ho,A9,bM];omega
 refine ix (cI hni) ⟨rfl,?_⟩;conv=>whnf
 refine cP hp ?_;conv=>whnf
 refine ix (cI hy.2.1) ⟨rfl,?_⟩;conv=>whnf
 cases o with
 |nil=>
  refine ap1 (f:=Val.gv) (c:=3) (fun _=>rfl) [] y rfl (by omega) ?_;conv=>whnf
  refine⟨⟨zL _,rfl,.inr ⟨rfl,rfl⟩⟩,?_⟩;conv=>whnf
  exact nx ([]++[y]) hlt ⟨hlt,ho'⟩
 |cons z zs=>
  refine ap1 (f:=Val.gv) (c:=3) (fun _=>rfl) (z::zs) y rfl (by omega) ?_;conv=>whnf
  refine⟨⟨zL _,(kA (z::zs)).symm,.inl ⟨rfl,rfl⟩⟩,?_⟩;conv=>whnf
  exact nx ((z::zs)++[y]) hlt ⟨hlt,ho'⟩
theorem WW [MaxL] (l:List Itm) (r:List Val) (ns:List By) (hl:l.length<bB) (hr:r.length<bB) (hf:oR l r=true) (hn:∀n∈ns,l.any (·.name==n)=true) (hk:ns.length<=8):SC Tryz.prog 95 [.sl .none (f5 l),.sl .none (hZ r),.sl .none (bA ns)] [] (.val (.sl .none (hZ (nP l r ns)))) []:=by
 have hlen:(bA ns).length=ns.length:=aP ns;refine cY Tryz.func95 rfl ?_;conv=>whnf
 refine cW 2 ns.length (fun i o=>o=nP l r (ns.take i)) (fun i o=>[(0,.sl .none (f5 l)),(1,.sl .none (hZ r)),(2,.sl .none (bA ns)),(7,.sl (.own 1) (hZ o)),(8,.i .i64 (i:Nat))]) (fun _ o=>[.own 0 0 0,ow 138 3 o.length]) [] [] rfl (fun i o φ0 hi ho=>?_) (hh:=fun _ _=>by simp only[iX,oB];rfl);conv=>whnf
 refine aE (fun h=>?_) (fun h=>?_)<;>conv=>whnf
 rotate_left
 ·have e:o=nP l r ns:=by rw[ho,cZ (by have:=aC h;rw[hlen] at this;omega)]
  rw[<-e];exact dB 0 (hw:=bI _ _)
 have hlt:i<ns.length:=by have:=aB h;rw[hlen] at this;omega
 refine(gV hlt).elim fun n hni=>?_;refine(K3 hf (hn n (aL hni))).elim fun j hj=>hj.elim fun y hy=>?_;have hp:=tS l hl n;rw[hy.1] at hp;have ho':o++[y]=nP l r (ns.take (i+1)):=by rw[bP,hni,MY,<-ho];exact aQ (o++ ·) hy.2.2.symm
 have hol:o.length<=8:=by rw[ho,A9,bM];omega
 refine ix (cI hni) ⟨rfl,?_⟩;conv=>whnf
 refine cP hp ?_;conv=>whnf
 refine ix (cI hy.2.1) ⟨rfl,?_⟩;conv=>whnf
 cases o with
 |nil=>
  refine ap1 (f:=Val.gv) (c:=3) (fun _=>rfl) [] y rfl (by omega) ?_;conv=>whnf
  refine⟨⟨zL _,rfl,.inr ⟨rfl,rfl⟩⟩,?_⟩;conv=>whnf
  exact nx ([]++[y]) hlt ⟨hlt,ho'⟩
 |cons z zs=>
  refine ap1 (f:=Val.gv) (c:=3) (fun _=>rfl) (z::zs) y rfl (by omega) ?_;conv=>whnf
  refine⟨⟨zL _,(kA (z::zs)).symm,.inl ⟨rfl,rfl⟩⟩,?_⟩;conv=>whnf
  exact nx ((z::zs)++[y]) hlt ⟨hlt,ho'⟩
theorem HM [MaxL] (a b:List Val) (ha:a.length<bB) (hb:b.length<bB) (hs:∀v∈a,v.s.length<bB) (ht:∀v∈b,v.s.length<bB):SC Tryz.prog 96 [.sl .none (hZ a),.sl .none (hZ b)] [] (.val (.i .i64 (uH a b))) []:=by
 have h1:=kA a;have h2:=kA b;unfold bB at ha hb;have hX:∀i,(i=a.length/\i<=b.length∨i=b.length/\i<=a.length)->uH (a.drop i) (b.drop i)=uH a b->lG (hZ a).length (hZ b).length=uH a b:=fun i h e=>by rw[h1,h2,<-YJ h,e]
 refine cY Tryz.func96 rfl ?_;conv=>whnf
 refine cW 0 a.length (fun i _=>i<=b.length/\uH (a.drop i) (b.drop i)=uH a b) (fun i _=>[(0,.sl .none (hZ a)),(1,.sl .none (hZ b)),(5,.i .i64 (i:Nat))]) (fun _ (_:Unit)=>[]) [] () ⟨zL _,rfl⟩ (fun i _ φ0 hi hc=>?_);obtain⟨hib,hc⟩:=hc;conv=>whnf
 refine aE (fun h=>?_) (fun h=>?_)<;>conv=>whnf
 rotate_left
 ·refine cP (JY _ _) ?_;conv=>whnf
  rw[hX i (.inl ⟨by have:=aC h;rw[h1] at this;omega,hib⟩) hc];exact dB 0
 have hlt:i<a.length:=by have:=aB h;rw[h1] at this;omega
 refine aE (fun h=>?_) (fun h=>?_)<;>conv=>whnf
 rotate_left
 ·refine cP (JY _ _) ?_;conv=>whnf
  rw[hX i (.inr ⟨by have:=aC h;rw[h2] at this;omega,hi⟩) hc];exact dB 0
 have hlt2:i<b.length:=by have:=aB h;rw[h2] at this;omega
 refine(gV hlt).elim fun x hx=>?_;refine(gV hlt2).elim fun y hy=>?_;have hv:=FM x y (hs x (aL hx)) (ht y (aL hy));have hstep:=a0S hx hy;refine aZ (by kernel_rfl) ?_;conv=>whnf
 refine ix (cI hx) ⟨rfl,?_⟩;conv=>whnf
 refine ix (cI hy) ⟨rfl,?_⟩;conv=>whnf
 refine cP hv ?_;conv=>whnf
 unfold m9 at hstep;refine aE (fun h=>?_) (fun h=>?_)<;>conv=>whnf
 ·rw[aF (by simpa using h),hc] at hstep;rw[hstep];exact dB 0
 ·rw[aD (by simpa using h),hc] at hstep;exact nx () hlt ⟨hlt,hlt2,hstep.symm⟩
theorem RS [MaxL] (a b:List Val) (ha:a.length<bB) (hb:b.length<bB) (hs:∀v∈a,v.s.length<bB) (ht:∀v∈b,v.s.length<bB):SC Tryz.prog 32 [.sl .none (hZ a),.sl .none (hZ b)] [] (.val (.b (uH a b==0))) []:=by
 have h:=HM a b ha hb hs ht;refine cY Tryz.func32 rfl ?_;conv=>whnf
 refine cP h ?_;conv=>whnf
 exact dB 0
theorem ZY [MaxL] (a:List Val) (ha:a.length<bB) (hs:∀v∈a,v.s.length<bB):SC Tryz.prog 32 [.sl .none (hZ a),.sl .none (hZ a)] [] (.val (.b true)) []:=by
 have h:=RS a a ha ha hs hs;rwa [CK] at h
def s8 (s:Sch) (n r:By) (row:List Val):List Val×Int:=
 if(wH s n r).2==0 then(if(kS s n).1.order==5 then(if oR (eQ s r).its row then(nP (eQ s r).its row ((kS s n).1.keys.map (·.item)),0) else([],1)) else([],10)) else([],(wH s n r).2)
theorem BH {s:Sch} {n r:By} {m:Mb} {t:Sy} {i:Int} (hm:wH s n r=(m,0)) (hR:kS s n=(t,i,0)) (ho:t.order=5):(t.keys.map (·.item)).length<=8/\∀x∈t.keys.map (·.item),(eQ s r).its.any (·.name==x)=true:=by
 obtain⟨t',i',hR',hmm,rfl⟩:=AG hm;rw[hR] at hR';cases hR';obtain⟨hv,ht,_⟩:=uW hR;have h1:=(M9 hv ht).2 ho;unfold wB at h1;obtain⟨h2,h1⟩:=dL h1 (by decide);obtain⟨h3,_⟩:=wG h1;refine⟨?_,fun x hx=>?_⟩
 ·unfold uM at h2;simp at h2;rw[bS];omega
 ·obtain⟨k,hk,rfl⟩:=List.mem_map.1 hx;obtain⟨q,hq⟩:=List.mem_iff_getElem?.1 hk;have h5:=vO h3 q k hq;unfold l6 at h5;obtain⟨h6,_⟩:=dL h5 (by decide);exact List.all_eq_true.1 (by simpa only[Bool.not_eq_false'] using h6) m hmm
def vQ (s:Sch) (n:By) (a b:List Val):Int×Int:=
 if(kS s n).2.2==0 then(if(kS s n).1.order==5 then(if a.length==(kS s n).1.keys.length&&b.length==(kS s n).1.keys.length then(nA ((kS s n).1.keys.map (·.down)) a b,0) else(0,11)) else(0,10)) else(0,(kS s n).2.2)
theorem a0R {s:Sch} {n:By} {a b:List Val} {x:Int} (h:vQ s n a b=(x,0)):∃ds:List Bool,a.length=ds.length/\b.length=ds.length/\x=nA ds a b/\∀a' b':List Val,a'.length=ds.length->b'.length=ds.length->vQ s n a' b'=(nA ds a' b',0):=by
 unfold vQ at h;cases h1:((kS s n).2.2==0) with
 |false=>
  rw[h1] at h;have:=(Prod.mk.inj h).2;rw[show(kS s n).2.2=0 from this] at h1;cases h1
 |true=>
  cases h2:((kS s n).1.order==5) with
  |false=>rw[h1,h2] at h;exact absurd (Prod.mk.inj h).2 (by decide)
  |true=>
   cases h3:(a.length==(kS s n).1.keys.length&&b.length==(kS s n).1.keys.length) with
   |false=>rw[h1,h2,h3] at h;exact absurd (Prod.mk.inj h).2 (by decide)
   |true=>
    rw[h1,h2,h3] at h;obtain⟨h4,h5⟩:=Bool.and_eq_true_iff.1 h3;refine⟨(kS s n).1.keys.map (·.down),by rw[bS];exact eq_of_beq h4,by rw[bS];exact eq_of_beq h5,(Prod.mk.inj h).1.symm,fun a' b' ha hb=>?_⟩;rw[bS] at ha hb;unfold vQ;rw[h1,h2,ha,hb];simp
theorem YI {s:Sch} {n:By} {a b c:List Val} {x:Int} (h:vQ s n a b=(x,0)) (hc:c.length=a.length):∃y z w,vQ s n b a=(y,0)/\vQ s n b c=(z,0)/\vQ s n a c=(w,0)/\y= - x/\(x<=0->z<=0->w<=0)/\(x==0)=(uH a b==0)/\(x= -1∨x=0∨x=1):=by
 obtain⟨ds,h1,h2,rfl,h3⟩:=a0R h;refine⟨_,_,_,h3 b a h2 h1,h3 b c h2 (by omega),h3 a c h1 (by omega),IJ ds a b h1 h2,FU ds a b c h1 h2 (by omega),?_,RW ds a b⟩;rw[dU,cT,cT,II ds a b h1 h2];exact⟨fun e=>by rw[e];exact CK b,JD⟩
