/-
  A part of the proof of SchemaChosen.
-/
import Derived.Test.YtcfgfkkhpdlhpaaGreatDoorR34
set_option linter.all false
set_option maxRecDepth 100000
namespace Go.Proofs.YtcfgfkkhpdlhpaaGreatDoor
open Go.RowKit
def zD (l:List Itm):List (GV×GV):=l.map fun i=>(.s i.name,.b true)
theorem Y4 [MaxL] {l:List Itm} {s:By} (h:∀z∈l,z.name≠s):nC .string (.s s) (zD l) 0=some none:=wG pX (fun e he=>by
 obtain⟨z,hz,rfl⟩:=List.mem_map.1 he;exact⟨z.name,rfl,h z hz⟩)
theorem UP {l:List Itm} {s:By}:∀(j:Nat),(∃z∈l,z.name=s)->∃k,nC .string (.s s) (zD l) j=some (some (k,.b true)):=by
 induction l with
 |nil=>rintro j ⟨z,hz,_⟩;cases hz
 |cons x l ih=>
  intro j h;show∃k,(match A6 .string (.s s) (.s x.name) with|some true=>some (some (j,GV.b true))|some false=>nC .string (.s s) (zD l) (j+1)|none=>none)=_;rw[pX];cases hx:(s==x.name) with
  |true=>exact⟨j,rfl⟩
  |false=>
   obtain⟨z,hz,he⟩:=h;rcases List.mem_cons.1 hz with rfl|hz
   ·rw[he] at hx;simp at hx
   ·exact ih (j+1) ⟨z,hz,he⟩
theorem vD [MaxL] (l:List Itm) (hl:l.length<bB):SC Tryz.prog 117 [.sl .none (eZ l)] [] (.val (.b (decide (0<l.length)&&gM l))) []:=by
 have hlen:=m7 l;have hl':=hl;unfold bB at hl';refine cX Tryz.func117 rfl ?_;conv=>whnf
 refine eS (fun q:Nat×List (GV×GV)=>q.1<=l.length/\(∀z∈l.take q.1,z.ok=true)/\((l.take q.1).map Itm.name).Nodup/\q.2=zD (l.take q.1)) (fun q=>[(0,.sl .none (eZ l)),(3,.mp 0),(7,.sl .none (eZ l)),(8,.i .i64 (eZ l).length),(9,.i .i64 (q.1:Nat))])
  (fun q=>⟨[.mp q.2],0,[]⟩) (fun q=>l.length - q.1) (0,[]) ⟨zL _,(fun z h=>by simp at h),by simp,rfl⟩ ⟨rfl,rfl,rfl,rfl,rfl,trivial⟩ rfl (fun _ _=>rL _) (fun q _=>rfl) (fun q hq e he=>?_) (fun q φ0 hi=>?_)
 ·refine⟨?_,rfl,?_⟩
  ·show[(GObj.mp q.2).ren e]=_;rw[hq.2.2.2];show[GObj.mp ((zD (l.take q.1)).map _)]=_;unfold zD;rw[List.map_map];rfl
  ·show[(GV.sl .none (eZ l)).ren e,GV.mp (e 0),(GV.sl .none (eZ l)).ren e,_,_]=_;rw[bS (cQ l) e,he 0 (by simp)];rfl
 obtain⟨i,es⟩:=q;obtain⟨hi,hok,hnd,hes⟩:=hi;replace hi:i<=l.length:=hi;replace hok:∀z∈l.take i,z.ok=true:=hok;replace hnd:((l.take i).map Itm.name).Nodup:=hnd;replace hes:es=zD (l.take i):=hes;conv=>whnf
 refine aF (fun h=>?_) (fun h=>?_)<;>conv=>whnf
 rotate_left
 ·have hie:i=l.length:=by have:=aC h;rw[hlen] at this;omega
  rw[hie,b5] at hok hnd;have hw:=tX (l.length:Int) 1 8;rw[<-hlen] at hw;refine bD hw (wR _) rfl (fun _=>rfl) (.b _) ?_;conv=>whnf
  refine bX ?_;rw[I2 hok hnd,hlen,eJ];simp;omega
 have hlt:i<l.length:=by have:=aB h;rw[hlen] at this;omega
 obtain⟨y,hy⟩:∃y,l[i]?=some y:=⟨l[i],gL hlt⟩;have hv:=NG y;have hgy:=lU hy;refine⟨cN _,_,by rw[aA];exact hgy,rfl,?_⟩;conv=>whnf
 refine⟨_,⟨rfl,zL _,rfl,bL rfl⟩,?_⟩;conv=>whnf
 refine bD hv (wR _) rfl (fun _=>rfl) (.b _) ?_;conv=>whnf
 refine aF (fun h1=>?_) (fun h1=>?_)<;>conv=>whnf
 ·refine bX ?_;rw[zY hy (.inl (by simpa using h1))];simp
 have h1':y.ok=true:=by simpa using h1
 by_cases hdup:∃z∈l.take i,z.name=y.name
 ·obtain⟨k,hk⟩:=UP 0 hdup;rw[<-hes] at hk;refine⟨some (k,.b true),hk,?_⟩;conv=>whnf
  refine bX ?_;rw[zY hy (.inr hdup)];simp
 ·have hne:∀z∈l.take i,z.name≠y.name:=fun z hz he=>hdup ⟨z,hz,he⟩;have hk:=Y4 hne;rw[<-hes] at hk;refine⟨none,hk,?_⟩;conv=>whnf
  refine⟨rL _,none,hk,?_⟩;conv=>whnf
  have hes':es++[(GV.s y.name,GV.b true)]=zD (l.take (i+1)):=by
   rw[hes,bR,hy];unfold zD;rw[cZ];rfl
  exact⟨l.length - (i+1),(by show _<l.length - i;omega),(i+1,es++[(GV.s y.name,GV.b true)]),⟨hlt,xP hok hy h1',(yL hnd hy).2 hne,hes'⟩,rfl,⟨rfl,rfl,rfl,rfl,b7 (by omega),trivial⟩,_,rfl,rfl⟩
theorem QI {v:Val} (h:v.ok=true):v.k=1∨v.k=2:=by
 simp only[Val.ok,f5,aH,aK] at h;rcases h with h|h
 ·exact .inl h.1.1.1
 ·exact .inr h.1.1
def qK (i:Itm) (v:Val):Bool:=v.ok&&decide (v.k=i.k)&&((decide (v.k=2)&&decide ((v.s.length:Int)<=i.len))||(decide (v.k=1)&&decide (i.lo<=v.n)&&decide (v.n<=i.hi)))
theorem ZQ [MaxL] (i:Itm) (v:Val):SC Tryz.prog 165 [i.gv,v.gv] [] (.val (.b (qK i v))) []:=by
 obtain⟨name,k,lo,hi,len⟩:=i;obtain⟨vk,vn,vs⟩:=v;have hv:=pO ⟨vk,vn,vs⟩;have hw:=tX vn lo hi;unfold qK;simp only;generalize Val.ok ⟨vk,vn,vs⟩=ok at*;cases ok with
 |false=>
  refine cX Tryz.func165 rfl ?_;conv=>whnf
  refine lX hv ?_;conv=>whnf
  exact bX rfl
 |true=>
  refine cX Tryz.func165 rfl ?_;conv=>whnf
  refine lX hv ?_;conv=>whnf
  repeat' first
   |(refine aF (fun _=>?_) (fun _=>?_)<;>conv=>whnf)
   |(refine b6 (by kernel_rfl) ?_;conv=>whnf)
   |(refine⟨_,⟨rfl,zL _,rfl,bL rfl⟩,?_⟩;conv=>whnf)
   |(refine lX hw ?_;conv=>whnf)
  all_goals
   refine bX ?_;rw[eJ];simp at*;try omega
theorem YP [MaxL] (i:Itm) (v:Val):SC Tryz.prog 167 [i.gv,v.gv] [] (.val (.b (qK i v))) []:=by
 obtain⟨name,k,lo,hi,len⟩:=i;obtain⟨vk,vn,vs⟩:=v;have hv:=zK ⟨vk,vn,vs⟩;unfold qK;simp only;have hk:Val.ok ⟨vk,vn,vs⟩=true->vk=1∨vk=2:=fun h=>by
  rcases QI h with h|h
  ·exact .inl h
  ·exact .inr h
 generalize Val.ok ⟨vk,vn,vs⟩=ok at*;cases ok with
 |false=>
  refine cX Tryz.func167 rfl ?_;conv=>whnf
  refine lX hv ?_;conv=>whnf
  exact bX rfl
 |true=>
  have hk:=hk rfl;refine cX Tryz.func167 rfl ?_;conv=>whnf
  refine lX hv ?_;conv=>whnf
  repeat' first
   |(refine aF (fun _=>?_) (fun _=>?_)<;>conv=>whnf)
   |(refine b6 (by kernel_rfl) ?_;conv=>whnf)
   |(refine⟨_,⟨rfl,zL _,rfl,bL rfl⟩,?_⟩;conv=>whnf)
  all_goals
   refine bX ?_;rw[eJ];simp at*;try omega
theorem NE [MaxL] (l:List Itm) (hl:l.length<bB):SC Tryz.prog 184 [.sl .none (eZ l)] [] (.val (.b (gM l))) []:=by
 have hk:=vD l hl;have hlen:=m7 l;refine cX Tryz.func184 rfl ?_;conv=>whnf
 refine aF (fun h=>?_) (fun h=>?_)<;>conv=>whnf
 ·refine bX ?_;have h0:l.length=0:=by
   have h9:((eZ l).length:Int)=0:=by simpa using h
   omega
  rw[aN h0];rfl
 ·refine bD hk (wR _) rfl (cC (bS (cQ l)) .nil) (.b _) ?_;conv=>whnf
  refine bX ?_;have h0:0<l.length:=by
   have h9:¬((eZ l).length:Int)=0:=by simpa using h
   omega
  rw[bM h0];rfl
def jT (l:List Val):List GV:=l.map Val.gv
theorem z6 [MaxL] (l:List Val):ClL (jT l):=gI Val.cl l
theorem nW (l:List Val):(jT l).length=l.length:=by simp[jT]
theorem IU {l:List Val} {i:Nat} {y:Val} (h:l[i]?=some y):(jT l)[i]?=some (.agg [.i .i64 y.k,.i .i64 y.n,.s y.s]):=by
 unfold jT;rw[aM,h];rfl
def wQ:List Itm->List Val->Bool
 |[],[]=>true
 |i::l,v::r=>qK i v&&wQ l r
 |_,_=>false
theorem AD:∀{l:List Itm} {r:List Val},wQ l r=true->l.length=r.length
 |[],[],_=>rfl
 |i::l,v::r,h=>by
  simp only[wQ,aH] at h;simp[AD h.2]
 |[],_::_,h=>by cases h
 |_::_,[],h=>by cases h
theorem AE:∀{l:List Itm} {r:List Val},l.length=r.length->(wQ l r=true↔∀(i:Nat) x y,l[i]?=some x->r[i]?=some y->qK x y=true)
 |[],[],_=>⟨fun _ i x y h=>by simp at h,fun _=>rfl⟩
 |x::l,v::r,h=>by
  simp only[aJ,Nat.add_right_cancel_iff] at h;simp only[wQ,aH,AE h];constructor
  ·rintro⟨h1,h2⟩ i a b ha hb;cases i with
   |zero=>simp at ha hb;rw[<-ha,<-hb];exact h1
   |succ i=>exact h2 i a b (by simpa using ha) (by simpa using hb)
  ·intro h2;exact⟨h2 0 x v rfl rfl,fun i a b ha hb=>h2 (i+1) a b (by simpa using ha) (by simpa using hb)⟩
 |[],_::_,h=>by simp at h
 |_::_,[],h=>by simp at h
theorem RE {l:List Itm} {r:List Val} {i:Nat} {x:Itm} {y:Val} (hl:l.length=r.length) (hx:l[i]?=some x) (hy:r[i]?=some y) (h:qK x y=false):wQ l r=false:=by
 cases he:wQ l r with
 |false=>rfl
 |true=>rw[(AE hl).1 he i x y hx hy] at h;cases h
def r9 (l:List Itm) (r:List Val):Bool:=decide (0<l.length)&&gM l&&wQ l r
theorem a03 [MaxL] (l:List Itm) (r:List Val) (hl:l.length<bB) (hr:r.length<bB):SC Tryz.prog 164 [.sl .none (eZ l),.sl .none (jT r),.fn (.func 165) [] []] [] (.val (.b (wQ l r))) []:=by
 have h1:=m7 l;have h2:=nW r;unfold bB at hl hr;refine cX Tryz.func164 rfl ?_;conv=>whnf
 refine aF (fun h=>?_) (fun h=>?_)<;>conv=>whnf
 ·refine bX ?_;cases he:wQ l r with
  |false=>rfl
  |true=>have:=AD he;simp[h1,h2,this] at h
 have hlr:l.length=r.length:=by
  have h9:((eZ l).length:Int)=(jT r).length:=by simpa using h
  omega
 refine eS (fun i:Nat=>i<=l.length/\∀(j:Nat) x y,j<i->l[j]?=some x->r[j]?=some y->qK x y=true) (fun i=>[(0,.sl .none (eZ l)),(1,.sl .none (jT r)),(2,.fn (.func 165) [] []),(15,.sl .none (eZ l)),(16,.i .i64 (eZ l).length),(17,.i .i64 (i:Nat))])
  (fun _=>⟨[],0,[]⟩) (fun i=>l.length - i) 0 ⟨zL _,fun j x y h=>by omega⟩ ⟨rfl,rfl,rfl,rfl,rfl,rfl,trivial⟩ rfl (fun _ _=>rL _) (fun _ _=>rfl) (fun i _ e he=>?_) (fun i φ0 hi=>?_)
 ·refine⟨rfl,rfl,?_⟩;show[(GV.sl .none (eZ l)).ren e,(GV.sl .none (jT r)).ren e,_,(GV.sl .none (eZ l)).ren e,_,_]=_;rw[bS (cQ l) e,bS (z6 r) e];rfl
 obtain⟨hi,hok⟩:=hi;conv=>whnf
 refine aF (fun h3=>?_) (fun h3=>?_)<;>conv=>whnf
 rotate_left
 ·have hie:i=l.length:=by have:=aC h3;rw[h1] at this;omega
  refine bX ?_;exact((AE hlr).2 (fun j x y hx hy=>hok j x y (by have:=(List.getElem?_eq_some_iff.1 hx).1;omega) hx hy)).symm
 have hlt:i<l.length:=by have:=aB h3;rw[h1] at this;omega
 obtain⟨x,hx⟩:∃x,l[i]?=some x:=⟨l[i],gL hlt⟩;obtain⟨y,hy⟩:∃y,r[i]?=some y:=⟨r[i]'(by omega),gL (by omega)⟩;have ht:=ZQ x y;have hgx:=lU hx;have hgy:=IU hy;refine⟨cN _,_,by rw[aA];exact hgx,rfl,?_⟩;conv=>whnf
 refine⟨_,⟨rfl,zL _,rfl,bL rfl⟩,?_⟩;conv=>whnf
 refine⟨cN _,_,by rw[aA];exact hgy,rfl,?_⟩;conv=>whnf
 refine⟨_,⟨rfl,zL _,rfl,bL rfl⟩,?_⟩;conv=>whnf
 refine bD ht (wR _) rfl (fun _=>rfl) (.b _) ?_;conv=>whnf
 refine aF (fun h4=>?_) (fun h4=>?_)<;>conv=>whnf
 ·refine bX ?_;exact(RE hlr hx hy (by simpa using h4)).symm
 ·have h5:qK x y=true:=by simpa using h4
  exact⟨l.length - (i+1),(by show _<l.length - i;omega),i+1,⟨hlt,fun j x' y' hj hx' hy'=>by
   by_cases hji:j=i
   ·subst hji;rw[hx] at hx';rw[hy] at hy';cases hx';cases hy';exact h5
   ·exact hok j x' y' (by omega) hx' hy'⟩,rfl,⟨rfl,rfl,rfl,rfl,rfl,b7 (by omega),trivial⟩,_,rfl,rfl⟩
theorem YQ [MaxL] (l:List Itm) (r:List Val) (hl:l.length<bB) (hr:r.length<bB):SC Tryz.prog 94 [.sl .none (eZ l),.sl .none (jT r)] [] (.val (.b (r9 l r))) []:=by
 have h1:=m7 l;have h2:=nW r;have hv:=xS l hl;unfold r9;unfold bB at hl hr;generalize(decide (0<l.length)&&gM l)=b at*;refine cX Tryz.func94 rfl ?_;conv=>whnf
 refine bD hv (wR _) rfl (cC (bS (cQ l)) .nil) (.b _) ?_;conv=>whnf
 refine aF (fun hb=>?_) (fun hb=>?_)<;>conv=>whnf
 ·refine bX ?_;have:b=false:=by simpa using hb
  rw[this];rfl
 have hb':b=true:=by simpa using hb
 rw[hb',Bool.true_and];refine aF (fun h=>?_) (fun h=>?_)<;>conv=>whnf
 ·refine bX ?_;cases he:wQ l r with
  |false=>rfl
  |true=>have:=AD he;simp[h1,h2,this] at h
 have hlr:l.length=r.length:=by
  have h9:((jT r).length:Int)=(eZ l).length:=by simpa using h
  omega
 refine eS (fun i:Nat=>i<=l.length/\∀(j:Nat) x y,j<i->l[j]?=some x->r[j]?=some y->qK x y=true) (fun i=>[(0,.sl .none (eZ l)),(1,.sl .none (jT r)),(5,.i .i64 (i:Nat))])
  (fun _=>⟨[],0,[]⟩) (fun i=>l.length - i) 0 ⟨zL _,fun j x y h=>by omega⟩ ⟨rfl,rfl,rfl,trivial⟩ rfl (fun _ _=>rL _) (fun _ _=>rfl) (fun i _ e he=>?_) (fun i φ0 hi=>?_)
 ·refine⟨rfl,rfl,?_⟩;show[(GV.sl .none (eZ l)).ren e,(GV.sl .none (jT r)).ren e,_]=_;rw[bS (cQ l) e,bS (z6 r) e];rfl
 obtain⟨hi,hok⟩:=hi;conv=>whnf
 refine aF (fun h3=>?_) (fun h3=>?_)<;>conv=>whnf
 rotate_left
 ·have hie:i=l.length:=by have:=aC h3;rw[h1] at this;omega
  refine bX ?_;exact((AE hlr).2 (fun j x y hx hy=>hok j x y (by have:=(List.getElem?_eq_some_iff.1 hx).1;omega) hx hy)).symm
 have hlt:i<l.length:=by have:=aB h3;rw[h1] at this;omega
 obtain⟨x,hx⟩:∃x,l[i]?=some x:=⟨l[i],gL hlt⟩;obtain⟨y,hy⟩:∃y,r[i]?=some y:=⟨r[i]'(by omega),gL (by omega)⟩;have ht:=YP x y;have hgx:=lU hx;have hgy:=IU hy;refine b6 (by kernel_rfl) ?_;conv=>whnf
 refine⟨cN _,_,by rw[aA];exact hgx,rfl,?_⟩;conv=>whnf
 refine⟨cN _,_,by rw[aA];exact hgy,rfl,?_⟩;conv=>whnf
 refine bD ht (wR _) rfl (fun _=>rfl) (.b _) ?_;conv=>whnf
 refine aF (fun h4=>?_) (fun h4=>?_)<;>conv=>whnf
 ·refine bX ?_;exact(RE hlr hx hy (by simpa using h4)).symm
 ·have h5:qK x y=true:=by simpa using h4
  exact⟨l.length - (i+1),(by show _<l.length - i;omega),i+1,⟨hlt,fun j x' y' hj hx' hy'=>by
   by_cases hji:j=i
   ·subst hji;rw[hx] at hx';rw[hy] at hy';cases hx';cases hy';exact h5
   ·exact hok j x' y' (by omega) hx' hy'⟩,rfl,⟨rfl,rfl,b7 (by omega),trivial⟩,_,rfl,rfl⟩
theorem XI [MaxL] (l:List Itm) (r:List Val) (hl:l.length<bB) (hr:r.length<bB):SC Tryz.prog 91 [.sl .none (eZ l),.sl .none (jT r)] [] (.val (.b (r9 l r))) []:=by
 have hv:=vD l hl;have he:=a03 l r hl hr;unfold r9;generalize(decide (0<l.length)&&gM l)=b at*;refine cX Tryz.func91 rfl ?_;conv=>whnf
 refine bD hv (wR _) rfl (cC (bS (cQ l)) .nil) (.b _) ?_;conv=>whnf
 cases b with
 |false=>exact bX rfl
 |true=>
  conv=>whnf
  refine bD he (wR _) rfl (cC (bS (cQ l)) (.cons (bS (z6 r)) (fun _=>rfl))) (.b _) ?_;conv=>whnf
  exact bX rfl
def a2E (l:List Itm) (r:List Val):Bool:=gM l&&(decide (l.length=0/\r.length=0)||r9 l r)
theorem a2l [MaxL] (s:List UInt8) (hs:s.length<=20000):∀f,a05 s f:=by
 have hm:s.length<bB:=by unfold bB;omega
 intro f;induction f using Nat.strongRecOn with
 |ind f ih=>
 intro lv d n ts h hb;cases f with
 |zero=>exact⟨fun h=>by omega,fun h=>by omega,fun h=>by omega,fun h=>by omega⟩
 |succ f=>
 have IH:∀g,g<=f->a05 s g:=fun g hg=>ih g (by omega);obtain⟨_,iand,inot,iprim⟩:=IH f (rL _) lv d n ts h hb;refine⟨fun hf=>?_,fun hf=>?_,fun hf=>?_,fun hf=>?_⟩
 ·obtain⟨m1,hm1,hc1⟩:=iand (by omega);cases hp:bP cI f .and lv d ts with
  |none=>
   rw[hp] at hc1;have e:bP cI (f+1) .or lv d ts=none:=by
    conv=>lhs;unfold bP
    rw[hp]
   rw[e];exact⟨0,(fun _ _ _ h=>by cases h),XB s lv n d hc1⟩
  |some p=>
   obtain⟨t1,r1,e1⟩:=p;rw[hp] at hc1;have e:bP cI (f+1) .or lv d ts=bP cI f (.orL t1) lv e1 r1:=by
    conv=>lhs;unfold bP
    rw[hp]
   have hlen:=iU _ _ _ _ _ _ _ _ hp;have hl3:=hlen.2.1 rfl;obtain⟨m2,j,hm2,hl⟩:=a0H s f IH f t1 lv e1 m1 r1 (rL _) (hm1 _ _ _ hp) (by omega) (by omega);rw[e];exact⟨m2,hm2,a2n s hm lv n d m1 e1 j t1 _ hc1 hl⟩
 ·obtain⟨m1,hm1,hc1⟩:=inot (by omega);cases hp:bP cI f .not lv d ts with
  |none=>
   rw[hp] at hc1;have e:bP cI (f+1) .and lv d ts=none:=by
    conv=>lhs;unfold bP
    rw[hp]
   rw[e];exact⟨0,(fun _ _ _ h=>by cases h),TT s lv n d hc1⟩
  |some p=>
   obtain⟨t1,r1,e1⟩:=p;rw[hp] at hc1;have e:bP cI (f+1) .and lv d ts=bP cI f (.andL t1) lv e1 r1:=by
    conv=>lhs;unfold bP
    rw[hp]
   have hlen:=iU _ _ _ _ _ _ _ _ hp;have hl3:=hlen.2.1 rfl;obtain⟨m2,j,hm2,hl⟩:=W6 s f IH f t1 lv e1 m1 r1 (rL _) (hm1 _ _ _ hp) (by omega) (by omega);rw[e];exact⟨m2,hm2,a2H s hm lv n d m1 e1 j t1 _ hc1 hl⟩
 ·by_cases hw:ts.headD []=jX
  ·obtain⟨r,rfl⟩:=fS hw (by decide);simp only[aJ] at hb hf;obtain⟨_,_,_,ip⟩:=IH f (rL _) (lv+1) (max d (lv+1)) (nb s n+jX.length) r h.tail.2 (by omega);obtain⟨m1,hm1,hc1⟩:=ip (by omega);have e:bP cI (f+1) .not lv d (jX::r)=(bP cI f .prim (lv+1) (max d (lv+1)) r).map fun p=>(.no p.1,p.2.1,p.2.2):=by
    conv=>lhs;unfold bP
    rw[aG hw];show(match bP cI f .prim (lv+1) (max d (lv+1)) r with|some (n,r,e)=>_|none=>_)=_;cases bP cI f .prim (lv+1) (max d (lv+1)) r<;>rfl
   rw[e];refine⟨m1,fun t r' e' he=>?_,?_⟩
   ·rw[aI] at he;obtain⟨⟨t0,r0,e0⟩,h1,h2⟩:=he;cases h2;exact hm1 _ _ _ h1
   ·have:=TO s hm lv n d (by omega) h _ hc1;rw[Option.map_map] at this⊢;exact this
  ·have e:bP cI (f+1) .not lv d ts=bP cI f .prim lv d ts:=by
    conv=>lhs;unfold bP
    rw[aD hw]
   obtain⟨_,_,_,ip⟩:=IH f (rL _) lv d (nb s n) ts h.nb hb;obtain⟨m1,hm1,hc1⟩:=ip (by omega);rw[e];exact⟨m1,hm1,XC s hm lv n d h hw _ hc1⟩
 ·by_cases h1:ts.headD []=kV
  ·obtain⟨r,rfl⟩:=fS h1 (by decide);have e:bP cI (f+1) .prim lv d (kV::r)=some (.truth true,r,d):=by
    conv=>lhs;unfold bP
    rw[aG h1];rfl
   rw[e];exact⟨nb s n+kV.length,(fun t r e h'=>by cases h';exact h.tail.2),ZS s hm lv n d h (some (.truth true,nb s n+kV.length,d)) (PT s lv (nb s n+kV.length) d)⟩
  by_cases h2:ts.headD []=jN
  ·obtain⟨r,rfl⟩:=fS h2 (by decide);have e:bP cI (f+1) .prim lv d (jN::r)=some (.truth false,r,d):=by
    conv=>lhs;unfold bP
    rw[aD h1,aG h2];rfl
   rw[e];exact⟨nb s n+jN.length,(fun t r e h'=>by cases h';exact h.tail.2),ZR s hm lv n d h (some (.truth false,nb s n+jN.length,d)) (PS s lv (nb s n+jN.length) d)⟩
  by_cases h3:ts.headD []=[40]
  ·obtain⟨r,rfl⟩:=fS h3 (by decide);simp only[aJ] at hb hf;obtain⟨io,_⟩:=IH f (rL _) (lv+1) (max d (lv+1)) (nb s n+1) r h.tail.2 (by omega);obtain⟨m1,hm1,hc1⟩:=io (by omega);cases hp:bP cI f .or (lv+1) (max d (lv+1)) r with
   |none=>
    rw[hp] at hc1;have e:bP cI (f+1) .prim lv d ([40]::r)=none:=by
     conv=>lhs;unfold bP
     rw[aD h1,aD h2,aG h3];show(match bP cI f .or (lv+1) (max d (lv+1)) r with|some (n,r,e)=>_|none=>_)=_;rw[hp]
    rw[e];exact⟨0,(fun _ _ _ h=>by cases h),RM s hm lv n d h none (RN s hm lv (nb s n+1) d (by omega) none [] (fun _ _ _ h=>by cases h) hc1)⟩
   |some p=>
    obtain⟨t1,r1,e1⟩:=p;rw[hp] at hc1;have hA1:=(hm1 _ _ _ hp).1;have e:bP cI (f+1) .prim lv d ([40]::r)=if r1.headD []=[41] then some (t1,r1.tail,e1) else none:=by
     conv=>lhs;unfold bP
     rw[aD h1,aD h2,aG h3];show(match bP cI f .or (lv+1) (max d (lv+1)) r with|some (n,r,e)=>_|none=>_)=_;rw[hp]
    have hc2:=RM s hm lv n d h _ (RN s hm lv (nb s n+1) d (by omega) (some (t1,m1,e1)) r1 (fun _ _ _ h=>by cases h;exact hA1) hc1);rw[e];by_cases h4:r1.headD []=[41]
    ·obtain⟨r2,rfl⟩:=fS h4 (by decide);refine⟨nb s m1+1,fun t r e h'=>?_,?_⟩
     ·rw[aG h4] at h';cases h';exact hA1.tail.2
     ·rw[aG h4];unfold OK at hc2;simp only[h4,fK] at hc2;exact hc2
    ·refine⟨0,fun t r e h'=>?_,?_⟩
     ·rw[aD h4] at h';cases h'
     ·rw[aD h4];unfold OK at hc2;simp only[h4,fM] at hc2;exact hc2
  obtain⟨m,hm1,hc⟩:=XA s hs lv n d h h1 h2 h3;have e:bP cI (f+1) .prim lv d ts=bP cI 1 .prim lv d ts:=by
   conv=>lhs;unfold bP
   conv=>rhs;unfold bP
   rw[aD h1,aD h1,aD h2,aD h2,aD h3,aD h3]
  rw[e];exact⟨m,hm1,hc⟩
def jH (s:List UInt8):Nat:=10*s.length+10
theorem sQ:∀(n:Nat) (l:List UInt8),l.length<=n->(iE l).length<=l.length
 |0,l,h=>by
  have:l=[]:=aN (by omega);subst this;rw[kE rfl];simp
 |n+1,l,h=>by
  cases hk:skip l with
  |nil=>rw[kE hk];simp
  |cons c t=>
   rw[mI hk];have h1:=z8 l;rw[hk] at h1;have h2:=mY c t;simp only[aJ] at h1⊢;have:=sQ n ((c::t).drop (l9 (c::t))) (by simp;omega);simp only[cV,aJ] at this;omega
theorem ZT [MaxL] (s:List UInt8) (hs:s.length<=20000):SC Tryz.prog 217 [.s s] [] (.val (match bP cI (jH s) .or 0 0 (iE s) with
  |some (t,r,e)=>.tup [t.gv,.i .i64 (e:Nat),.b (r.headD []==[])]
  |none=>.tup [.o .nilIface,.i .i64 0,.b false])) []:=by
 have hm:s.length<bB:=by unfold bB;omega
 have h0:At s 0 (iE s):=⟨zL _,rfl⟩;have hl:=sQ s.length s (rL _);obtain⟨io,_⟩:=a2l s hs (jH s) 0 0 0 (iE s) h0 (by omega);obtain⟨m,hm1,hc⟩:=io (by unfold jH;omega);cases hp:bP cI (jH s) .or 0 0 (iE s) with
 |none=>
  rw[hp] at hc;replace hc:SC Tryz.prog 257 [.ptr 0 0,.i .i64 (0:Nat)] [rd s 0 (0:Nat)] (.panic gK) [.dead]:=hc;refine cX Tryz.func217 rfl ?_;conv=>whnf
  refine lP (q:=3) hc rfl (by first|exact wR _|exact wC (bI _ _) (wR _)|exact wC (bI _ _) (wC (bI _ _) (wR _))|exact wC (cY _) (wC (bI _ _) (wR _))) rfl rfl (by first|exact fun _=>rfl|exact cA|exact cB fun _=>rfl) (by first|exact fun _=>rfl|exact cA|exact cB fun _=>rfl) (by first|exact fun _=>rfl|exact cA|exact cB fun _=>rfl) ?_;conv=>whnf
  refine vT (g:=.tup [.o .nilIface,.i .i64 0,.b false]) ?_ ?_ ?_
  ·kernel_rfl
  ·exact .refl _
  ·exact fun _=>rfl
 |some p=>
  obtain⟨t,r,e⟩:=p;rw[hp] at hc;replace hc:SC Tryz.prog 257 [.ptr 0 0,.i .i64 (0:Nat)] [rd s 0 (0:Nat)] (.val t.gv) [rd s m e]:=hc;obtain⟨hA,hnb⟩:=hm1 _ _ _ hp;have hwd:=kT s m e hA hm;rw[hnb] at hwd;refine cR pU mixed Tryz.func217 rfl (bL rfl) (rL _) rfl ?_;conv=>whnf
  refine aW (q:=3) hc rfl (wR _) rfl rfl (fun _=>rfl) (fun _=>rfl) (fun _=>rfl) t.cl ?_;conv=>whnf
  refine⟨_,⟨rfl,zL _,rfl,bL rfl⟩,?_⟩;conv=>whnf
  refine GDraw.wild _ _ _ rfl rfl rfl (by kernel_rfl) ?_;conv=>whnf
  refine a1N (q:=3) hwd rfl (wR _) rfl (fun _=>rfl) (fun _=>rfl) (fun _=>rfl) ?_;conv=>whnf
  refine⟨_,⟨rfl,zL _,rfl,bL rfl⟩,?_⟩;conv=>whnf
  refine⟨_,⟨rfl,zL _,rfl,bL rfl⟩,?_⟩;conv=>whnf
  refine⟨_,⟨rfl,zL _,rfl,bL rfl⟩,?_⟩;conv=>whnf
  exact bC (.refl _) (fH (.cons t.cl (.cons (.i _ _) (.cons (.b _) .nil))))
theorem IW:∀(n:Nat) (l:List UInt8),l.length<=n->∀w∈iE l,w≠[]
 |0,l,h,w,hw=>by
  have:l=[]:=aN (by omega);subst this;rw[kE rfl] at hw;cases hw
 |n+1,l,h,w,hw=>by
  cases hk:skip l with
  |nil=>rw[kE hk] at hw;cases hw
  |cons c t=>
   rw[mI hk] at hw;have h1:=z8 l;rw[hk] at h1;have h2:=mY c t;simp only[aJ] at h1;rcases List.mem_cons.1 hw with rfl|hw
   ·intro e;have:=aQ List.length e;unfold GU at this;rw[bQ] at this;simp at this;omega
   ·exact IW n ((c::t).drop (l9 (c::t))) (by simp;omega) w hw
inductive RdE where
 |ok (t:Tree)
 |err (e:Int)
def m5 (s:List UInt8):RdE:=if 1000<s.length then .err 3 else match bP cI (jH s) .or 0 0 (iE s) with
 |some (t,r,e)=>if r.headD []==[] then(if 20<e then .err 4 else .ok t.flat) else .err 2
 |none=>.err 2
