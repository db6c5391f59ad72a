/-
  A part of the proof of SchemaSorts.
-/
import Derived.Test.YtcfgfkkhpdlhpaaGreatDoorS27
set_option linter.all false
set_option maxRecDepth 100000
namespace Go.Proofs.YtcfgfkkhpdlhpaaGreatDoor
open Go.RowKit
structure Itm where
 name:By
 k:Int
 lo:Int
 hi:Int
 len:Int
 deriving DecidableEq
def Itm.cs (i:Itm):List GV:=[.s i.name,.i .i64 i.k,.i .i64 i.lo,.i .i64 i.hi,.i .i64 i.len]
def Itm.gv (i:Itm):GV:=.agg i.cs
theorem Itm.cl [MaxL] (i:Itm):Cl i.gv:=fun _=>rfl
def f5 (l:List Itm):List GV:=l.map Itm.gv
theorem cR [MaxL] (l:List Itm):ClL (f5 l):=gI Itm.cl l
theorem mG (l:List Itm):(f5 l).length=l.length:=by simp[f5]
theorem m6 {l:List Itm} {i:Nat} {y:Itm} (h:l[i]?=some y):(f5 l)[i]?=some (.agg [.s y.name,.i .i64 y.k,.i .i64 y.lo,.i .i64 y.hi,.i .i64 y.len]):=by
 unfold f5;rw[aM,h];rfl
def Itm.ok (i:Itm):Bool:=fP i.name&&((decide (i.k=1)&&decide (i.lo<=i.hi)&&decide (-1000000000<=i.lo)&&decide (i.hi<=1000000000)&&decide (i.len=0))||(decide (i.k=2)&&decide (1<=i.len)&&decide (i.len<=40)&&decide (i.lo=0)&&decide (i.hi=0)))
theorem OK [MaxL] (i:Itm):SC Tryz.prog 177 [i.gv] [] (.val (.b i.ok)) []:=by
 obtain⟨name,k,lo,hi,len⟩:=i;have hn:=LQ name;have hw:=uJ len 1 40;unfold Itm.ok;simp only;generalize fP name=nm at*;cases nm with
 |false=>
  refine cY Tryz.func177 rfl ?_;conv=>whnf
  refine lM hn ?_;conv=>whnf
  exact bY rfl
 |true=>
  refine cY Tryz.func177 rfl ?_;conv=>whnf
  refine lM hn ?_;conv=>whnf
  repeat' first
   |(refine aE (fun _=>?_) (fun _=>?_)<;>conv=>whnf)
   |(refine aZ (by kernel_rfl) ?_;conv=>whnf)
   |(refine⟨_,⟨rfl,zL _,rfl,bL rfl⟩,?_⟩;conv=>whnf)
   |(refine lM hw ?_;conv=>whnf)
  all_goals
   refine bY ?_;rw[dU];simp at*;try omega
theorem MJ [MaxL] (i:Itm):SC Tryz.prog 227 [i.gv] [] (.val (.b i.ok)) []:=by
 obtain⟨name,k,lo,hi,len⟩:=i;have hn:=BS name;unfold Itm.ok;simp only;generalize fP name=nm at*;cases nm with
 |false=>
  refine cY Tryz.func227 rfl ?_;conv=>whnf
  refine lM hn ?_;conv=>whnf
  exact bY rfl
 |true=>
  refine cY Tryz.func227 rfl ?_;conv=>whnf
  refine lM hn ?_;conv=>whnf
  repeat' first
   |(refine aE (fun _=>?_) (fun _=>?_)<;>conv=>whnf)
   |(refine aZ (by kernel_rfl) ?_;conv=>whnf)
   |(refine⟨_,⟨rfl,zL _,rfl,bL rfl⟩,?_⟩;conv=>whnf)
  all_goals
   refine bY ?_;rw[dU];simp at*;try omega
def tY (l:List Itm) (s:By):Int:=match l.findIdx? (fun i=>i.name==s) with
 |some k=>k
 |none=> -1
theorem PY {l:List Itm} {s:By} (h:∀y∈l,y.name≠s):tY l s= -1:=by
 unfold tY;rw[List.findIdx?_eq_none_iff.2 (fun y hy=>by simpa using h y hy)]
theorem ED {l:List Itm} {s:By} {i:Nat} {y:Itm} (h:l[i]?=some y) (hs:y.name=s) (hb:∀z∈l.take i,z.name≠s):tY l s=(i:Int):=by
 unfold tY;have hi:=(List.getElem?_eq_some_iff.1 h).1;have:l.findIdx? (fun i=>i.name==s)=some i:=by
  rw[List.findIdx?_eq_some_iff_getElem];refine⟨hi,by have:=(List.getElem?_eq_some_iff.1 h).2;rw[this];simpa using hs,fun j hj=>?_⟩;have:l[j]∈l.take i:=by
   rw[List.mem_take_iff_getElem];exact⟨j,by omega,rfl⟩
  simpa using hb _ this
 rw[this]
theorem IT (l:List Itm) (s:By):(tY l s= -1/\∀y∈l,y.name≠s)∨∃i y,tY l s=(i:Nat)/\l[i]?=some y/\y.name=s/\∀z∈l.take i,z.name≠s:=by
 cases h:l.findIdx? (fun i=>i.name==s) with
 |none=>
  refine .inl ⟨by unfold tY;rw[h],fun y hy=>?_⟩;have:=List.findIdx?_eq_none_iff.1 h y hy;simpa using this
 |some i=>
  obtain⟨hi,h1,h2⟩:=List.findIdx?_eq_some_iff_getElem.1 h;refine .inr ⟨i,l[i],by unfold tY;rw[h],gL hi,by simpa using h1,fun z hz=>?_⟩;rw[List.mem_take_iff_getElem] at hz;obtain⟨j,hj,rfl⟩:=hz;have:=h2 j (by omega);simpa using this
theorem uT {l:List Itm} {s:By} {i:Nat} {y:Itm} (h:∀z∈l.take i,z.name≠s) (hy:l[i]?=some y) (hn:y.name≠s):∀z∈l.take (i+1),z.name≠s:=fun z hz=>by
 rw[bP,hy] at hz;rcases List.mem_append.1 hz with hz|hz
 ·exact h z hz
 ·rw[List.mem_singleton.1 (show z∈[y] from hz)];exact hn
theorem X0 [MaxL] (l:List Itm) (hl:l.length<bB) (s:By):SC Tryz.prog 228 [.sl .none (f5 l),.s s] [] (.val (.i .i64 (tY l s))) []:=by
 have hlen:=mG l;unfold bB at hl;refine cY Tryz.func228 rfl ?_;conv=>whnf
 refine cV (fun i:Nat=>i<=l.length/\∀z∈l.take i,z.name≠s) (fun i=>[(0,.sl .none (f5 l)),(1,.s s),(5,.i .i64 (i:Nat))]) (fun _=>⟨[],0,[]⟩) (fun i=>l.length - i) 0 ⟨zL _,fun z h=>by simp at h⟩ ⟨rfl,rfl,rfl,trivial⟩ rfl (fun i φ0 hi=>?_);obtain⟨hi,hne⟩:=hi;conv=>whnf
 refine aE (fun h=>?_) (fun h=>?_)<;>conv=>whnf
 rotate_left
 ·have hie:i=l.length:=by have:=aC h;rw[hlen] at this;omega
  refine b8 ?_;rw[hie,b6] at hne;exact(PY hne).symm
 have hlt:i<l.length:=by have:=aB h;rw[hlen] at this;omega
 obtain⟨y,hy⟩:∃y,l[i]?=some y:=⟨l[i],gL hlt⟩;refine⟨cN _,_,by rw[aA];exact m6 hy,rfl,?_⟩;conv=>whnf
 refine aE (fun heq=>?_) (fun heq=>?_)<;>conv=>whnf
 ·have e:y.name=s:=by simpa using heq
  exact b8 (ED hy e hne).symm
 ·have e:y.name≠s:=by simpa using heq
  exact⟨l.length - (i+1),(by show _<l.length - i;omega),i+1,⟨hlt,uT hne hy e⟩,rfl,⟨rfl,rfl,b7 (by omega),trivial⟩,rfl⟩
theorem a2g [MaxL] (l:List Itm) (hl:l.length<bB) (s:By):SC Tryz.prog 270 [.sl .none (f5 l),.s s] [] (.val (.i .i64 (tY l s))) []:=by
 have hlen:=mG l;unfold bB at hl;refine cY Tryz.func270 rfl ?_;conv=>whnf
 refine cV (fun i:Nat=>i<=l.length/\∀z∈l.take i,z.name≠s) (fun i=>[(0,.sl .none (f5 l)),(1,.s s),(5,.i .i64 (i:Nat))]) (fun _=>⟨[],0,[]⟩) (fun i=>l.length - i) 0 ⟨zL _,fun z h=>by simp at h⟩ ⟨rfl,rfl,rfl,trivial⟩ rfl (fun i φ0 hi=>?_);obtain⟨hi,hne⟩:=hi;conv=>whnf
 refine aE (fun h=>?_) (fun h=>?_)<;>conv=>whnf
 rotate_left
 ·have hie:i=l.length:=by have:=aC h;rw[hlen] at this;omega
  refine b8 ?_;rw[hie,b6] at hne;exact(PY hne).symm
 have hlt:i<l.length:=by have:=aB h;rw[hlen] at this;omega
 obtain⟨y,hy⟩:∃y,l[i]?=some y:=⟨l[i],gL hlt⟩;refine⟨cN _,_,by rw[aA];exact m6 hy,rfl,?_⟩;conv=>whnf
 refine aE (fun heq=>?_) (fun heq=>?_)<;>conv=>whnf
 ·have e:y.name=s:=by simpa using heq
  exact b8 (ED hy e hne).symm
 ·have e:y.name≠s:=by simpa using heq
  exact⟨l.length - (i+1),(by show _<l.length - i;omega),i+1,⟨hlt,uT hne hy e⟩,rfl,⟨rfl,rfl,b7 (by omega),trivial⟩,rfl⟩
def gM (l:List Itm):Bool:=l.all Itm.ok&&decide ((l.map Itm.name).Nodup)&&decide (l.length<=8)
theorem yD {l:List Itm} {i:Nat} {y:Itm} (h:∀z∈l.take i,z.ok=true) (hy:l[i]?=some y) (hn:y.ok=true):∀z∈l.take (i+1),z.ok=true:=fun z hz=>by
 rw[bP,hy] at hz;rcases List.mem_append.1 hz with hz|hz
 ·exact h z hz
 ·rw[List.mem_singleton.1 (show z∈[y] from hz)];exact hn
theorem zA {l:List Itm} {i:Nat} {y:Itm} (h:((l.take i).map Itm.name).Nodup) (hy:l[i]?=some y):((l.take (i+1)).map Itm.name).Nodup↔∀z∈l.take i,z.name≠y.name:=by
 rw[bP,hy];show((l.take i++[y]).map Itm.name).Nodup↔_;rw[cX,List.nodup_append];constructor
 ·intro⟨_,_,h3⟩ z hz;exact h3 _ (List.mem_map_of_mem hz) _ (by simp)
 ·intro h3;refine⟨h,by simp,fun a ha b hb=>?_⟩;obtain⟨z,hz,rfl⟩:=List.mem_map.1 ha;simp at hb;rw[hb];exact h3 z hz
theorem AI {l:List Itm} {i:Nat} {y:Itm} (hy:l[i]?=some y) (h:y.ok=false∨∃z∈l.take i,z.name=y.name):gM l=false:=by
 unfold gM;rcases h with h|⟨z,hz,he⟩
 ·have:l.all Itm.ok=false:=by
   rw[List.all_eq_false];exact⟨y,aL hy,by simp[h]⟩
  rw[this];rfl
 ·have:¬(l.map Itm.name).Nodup:=fun hn=>by
   have h1:((l.take (i+1)).map Itm.name).Nodup:=List.Nodup.sublist (List.Sublist.map _ (List.take_sublist _ _)) hn;have h0:((l.take i).map Itm.name).Nodup:=List.Nodup.sublist (List.Sublist.map _ (List.take_sublist _ _)) hn;exact(zA h0 hy).1 h1 z hz he
  rw[cD this];simp
theorem IS {l:List Itm} (h1:∀z∈l,z.ok=true) (h2:(l.map Itm.name).Nodup):gM l=decide (l.length<=8):=by
 unfold gM;rw[List.all_eq_true.2 h1,bN h2];simp
theorem XX {l:List Itm} {i:Nat} {y:Itm} (h0:((l.take i).map Itm.name).Nodup) (hy:l[i]?=some y):tY l y.name=(i:Int)↔∀z∈l.take i,z.name≠y.name:=by
 constructor
 ·intro h z hz he;rcases IT l y.name with⟨h1,_⟩|⟨j,w,h1,h2,h3,h4⟩
  ·rw[h1] at h;omega
  ·rw[h1] at h;have hj:j=i:=by omega
   subst hj;exact h4 z hz he
 ·intro h;exact ED hy rfl h
theorem FJ [MaxL] (l:List Itm) (hl:l.length<bB):SC Tryz.prog 188 [.sl .none (f5 l)] [] (.val (.b (gM l))) []:=by
 have hlen:=mG l;have hl':=hl;unfold bB at hl';refine cY Tryz.func188 rfl ?_;conv=>whnf
 refine cV (fun i:Nat=>i<=l.length/\(∀z∈l.take i,z.ok=true)/\((l.take i).map Itm.name).Nodup) (fun i=>[(0,.sl .none (f5 l)),(3,.i .i64 (i:Nat))]) (fun _=>⟨[],0,[]⟩) (fun i=>l.length - i) 0 ⟨zL _,(fun z h=>by simp at h),by simp⟩ ⟨rfl,rfl,trivial⟩ rfl (fun i φ0 hi=>?_);obtain⟨hi,hok,hnd⟩:=hi;conv=>whnf
 refine aE (fun h=>?_) (fun h=>?_)<;>conv=>whnf
 rotate_left
 ·have hie:i=l.length:=by have:=aC h;rw[hlen] at this;omega
  refine bY ?_;rw[hie,b6] at hok hnd;rw[IS hok hnd];rw[hlen];rw[decide_eq_decide];omega
 have hlt:i<l.length:=by have:=aB h;rw[hlen] at this;omega
 obtain⟨y,hy⟩:∃y,l[i]?=some y:=⟨l[i],gL hlt⟩;have hv:=MJ y;have hx:=X0 l hl y.name;refine⟨cN _,_,by rw[aA];exact m6 hy,rfl,?_⟩;conv=>whnf
 refine bD hv (wR _) rfl (fun _=>rfl) (.b _) ?_;conv=>whnf
 refine aE (fun h1=>?_) (fun h1=>?_)<;>conv=>whnf
 ·refine bY ?_;rw[AI hy (.inl (by simpa using h1))]
 have h1':y.ok=true:=by simpa using h1
 refine⟨cN _,_,by rw[aA];exact m6 hy,rfl,?_⟩;conv=>whnf
 refine bD hx (wR _) rfl (cC (bT (cR l)) (.cons (.s _) .nil)) (.i _ _) ?_;conv=>whnf
 refine aE (fun h2=>?_) (fun h2=>?_)<;>conv=>whnf
 ·refine bY ?_;rw[AI hy (.inr ?_)];have h3:¬tY l y.name=(i:Int):=by simpa using h2
  rw[XX hnd hy] at h3;simpa using h3
 ·have h3:tY l y.name=(i:Int):=by simpa using h2
  exact⟨l.length - (i+1),(by show _<l.length - i;omega),i+1,⟨hlt,yD hok hy h1',(zA hnd hy).2 ((XX hnd hy).1 h3)⟩,rfl,⟨rfl,b7 (by omega),trivial⟩,rfl⟩
theorem yF [MaxL] (l:List Itm) (hl:l.length<bB):SC Tryz.prog 126 [.sl .none (f5 l)] [] (.val (.b (decide (0<l.length)&&gM l))) []:=by
 have hk:=FJ l hl;have hlen:=mG l;generalize gM l=b at*;refine cY Tryz.func126 rfl ?_;conv=>whnf
 refine aE (fun h=>?_) (fun h=>?_)<;>conv=>whnf
 ·refine bD hk (wR _) rfl (cC (bT (cR l)) .nil) (.b _) ?_;conv=>whnf
  refine bY ?_;rw[bN (by have:=aB h;omega)];rfl
 ·refine bY ?_;rw[cD (by have:=aC h;omega)];rfl
structure Ar where
 name:By
 pages:Int
structure Rc where
 name:By
 area:By
 its:List Itm
 place:Int
 keys:List By
 dups:Bool
 via:By
 check:By
structure Mb where
 of:By
 auto:Bool
 keep:Int
 sel:List By
structure Ky where
 item:By
 down:Bool
structure Sy where
 name:By
 owner:By
 ms:List Mb
 order:Int
 keys:List Ky
 dups:Int
 mode:Int
structure Sch where
 ar:List Ar
 rc:List Rc
 st:List Sy
def m8 {α:Type} (p:α->Bool):List α->Int
 |[]=> -1
 |x::l=>if p x then 0 else if m8 p l<0 then -1 else m8 p l+1
theorem xI {α:Type} {p:α->Bool} {l:List α} {i:Nat} {y:α} (hy:l[i]?=some y) (hp:p y=true) (h:∀z∈l.take i,p z=false):m8 p l=i:=by
 induction l generalizing i with
 |nil=>cases hy
 |cons x l ih=>
  match i,hy,h with
  |0,hy,h=>cases hy;unfold m8;rw[aF hp];rfl
  |i+1,hy,h=>
   have h0:=ih (i:=i) hy (fun z hz=>h z (by rw[j8];exact iR _ hz));have hx:p x=false:=h x (by rw[j8];exact List.mem_cons_self);unfold m8;rw[hx,h0,aD (by simp),aD (by omega)];rfl
theorem xH {α:Type} {p:α->Bool} {l:List α} (h:∀z∈l,p z=false):m8 p l= -1:=by
 induction l with
 |nil=>rfl
 |cons x l ih=>
  unfold m8;rw[h x List.mem_cons_self,ih fun z hz=>h z (iR _ hz)];rfl
theorem a3F {α:Type} {p:α->Bool} {l:List α}:m8 p l<0↔∀z∈l,p z=false:=by
 constructor
 ·induction l with
  |nil=>intro _ z hz;cases hz
  |cons x l ih=>
   intro h z hz;unfold m8 at h;cases hx:p x with
   |true=>rw[hx,aF rfl] at h;omega
   |false=>
    rw[hx,aD (by simp)] at h;have hl:m8 p l<0:=by
     by_cases hl:m8 p l<0
     ·exact hl
     ·rw[aD hl] at h;omega
    rcases List.mem_cons.1 hz with rfl|hz
    ·exact hx
    ·exact ih hl z hz
 ·intro h;rw[xH h];omega
theorem HD {α:Type} {p:α->Bool} {l:List α} (h:0<=m8 p l):∃i y,m8 p l=(i:Nat)/\l[i]?=some y/\p y=true/\(∀z∈l.take i,p z=false)/\l.find? p=some y:=by
 induction l with
 |nil=>exact absurd h (by unfold m8;omega)
 |cons x l ih=>
  cases hx:p x with
  |true=>exact⟨0,x,by unfold m8;rw[aF hx];rfl,rfl,hx,by simp,by simp[hx]⟩
  |false=>
   have hl:0<=m8 p l:=by
    unfold m8 at h;rw[hx,aD (by simp)] at h;by_cases hl:m8 p l<0
    ·rw[aF hl] at h;omega
    ·omega
   obtain⟨i,y,e,hy,hp,ht,hf⟩:=ih hl;refine⟨i+1,y,?_,hy,hp,fun z hz=>?_,by simp[hx,hf]⟩
   ·unfold m8;rw[hx,aD (by simp),e,aD (by omega)];rfl
   ·rw[j8] at hz;rcases List.mem_cons.1 hz with rfl|hz
    ·exact hx
    ·exact ht z hz
theorem HE {α:Type} {p:α->Bool} {l:List α} {i:Nat} {y:α} (hy:l[i]?=some y) (hp:p y=true):decide (m8 p l<(i:Int))=(l.take i).any p:=by
 cases h:(l.take i).any p with
 |false=>
  rw[xI hy hp fun z hz=>by
   cases hz':p z with
   |false=>rfl
   |true=>exact absurd (List.any_eq_true.2 ⟨z,hz,hz'⟩) (by rw[h];simp)]
  simp
 |true=>
  obtain⟨z,hz,hz'⟩:=List.any_eq_true.1 h;obtain⟨j,hj,rfl⟩:=List.getElem_of_mem hz;have hj':j<i:=by rw[bM] at hj;omega
  have hjl:j<l.length:=by rw[bM] at hj;omega
  rw[List.getElem_take] at hz';have h0:0<=m8 p l:=by
   rcases Int.lt_or_le (m8 p l) 0 with h9|h9
   ·rw[a3F.1 h9 _ (dY hjl)] at hz';cases hz'
   ·exact h9
  obtain⟨k,w,e,hw,hpw,ht, -⟩:=HD h0;have hk:k<=j:=Nat.le_of_not_lt fun h9=>by
   have:=ht l[j] (List.mem_take_iff_getElem.2 ⟨j,by omega,rfl⟩);rw[this] at hz';cases hz'
  rw[e];simp;omega
def eS {α:Type} (f:Nat->α->Int):Nat->List α->Option (Nat×Int)
 |_,[]=>none
 |i,x::l=>if f i x=0 then eS f (i+1) l else some (i,f i x)
theorem J7 {α:Type} {f:Nat->α->Int} {l:List α} {n i:Nat} {y:α} (hy:l[i]?=some y) (hn:f (n+i) y≠0) (h:∀j z,j<i->l[j]?=some z->f (n+j) z=0):
  eS f n l=some (n+i,f (n+i) y):=by
 induction l generalizing i n with
 |nil=>cases hy
 |cons x l ih=>
  match i,hy,hn,h with
  |0,hy,hn,h=>cases hy;rw[Nat.add_zero] at hn⊢;unfold eS;rw[aD hn]
  |i+1,hy,hn,h=>
   unfold eS;rw[aF (show f n x=0 from h 0 x (Nat.succ_pos _) rfl),ih (n:=n+1) (i:=i) hy (by rw[show n+1+i=n+(i+1) by omega];exact hn) fun j z hj hz=>by
    rw[show n+1+j=n+(j+1) by omega];exact h (j+1) z (by omega) hz]
   rw[show n+1+i=n+(i+1) by omega]
theorem J6 {α:Type} {f:Nat->α->Int} {l:List α} {n:Nat} (h:∀j z,l[j]?=some z->f (n+j) z=0):eS f n l=none:=by
 induction l generalizing n with
 |nil=>rfl
 |cons x l ih=>
  unfold eS;rw[aF (show f n x=0 from h 0 x rfl)];exact ih fun j z hz=>by rw[show n+1+j=n+(j+1) by omega];exact h (j+1) z hz
theorem rR {α:Type} {f:Nat->α->Int} {l:List α} {n:Nat} (h:eS f n l=none):∀j z,l[j]?=some z->f (n+j) z=0:=by
 induction l generalizing n with
 |nil=>intro j z hz;cases hz
 |cons x l ih=>
  unfold eS at h;intro j z hz;by_cases h0:f n x=0
  ·rw[aF h0] at h
   match j,hz with
   |0,hz=>cases hz;exact h0
   |j+1,hz=>rw[show n+(j+1)=n+1+j by omega];exact ih h j z hz
  ·rw[aD h0] at h;cases h
def kX {α:Type} (f:Nat->α->Int) (l:List α):Int:=match eS f 0 l with
 |some (_,e)=>e
 |none=>0
theorem n7 {α:Type} {f:Nat->α->Int} {l:List α} {i:Nat} {y:α} (hy:l[i]?=some y) (hn:f i y≠0) (h:∀j z,j<i->l[j]?=some z->f j z=0):kX f l=f i y:=by
 unfold kX;rw[J7 (n:=0) hy (by rw[bH];exact hn) fun j z hj hz=>by rw[bH];exact h j z hj hz,bH]
theorem n6 {α:Type} {f:Nat->α->Int} {l:List α} (h:∀j z,l[j]?=some z->f j z=0):kX f l=0:=by
 unfold kX;rw[J6 (n:=0) fun j z hz=>by rw[bH];exact h j z hz]
def U8 (a b:Int):Int:=if a=0 then b else a
def dX (w:Bool) (e b:Int):Int:=if w then e else b
def ZD:By:=[115,121,115,116,101,109]
def uM (n lo hi:Int):Bool:=decide (lo<=n)&&decide (n<=hi)
def kL (met:List By) (n:By) (b:Int):Int:=dX (!fP n||n==ZD) 1 (dX (met.contains n) 6 b)
def mN (met:List By) (a:Ar):Int:=kL met a.name (dX (!uM a.pages 1 200) 7 0)
def dH (s:Sch):List By:=s.ar.map (·.name)
def gB (s:Sch):List By:=s.rc.map (·.name)
def tP (s:Sch):List By:=s.st.map (·.name)
def KI (r:Rc) (k:Nat) (n:By):Int:=dX (!(r.its.any (·.name==n))) 5 (dX ((r.keys.take k).contains n) 6 0)
def sC (r:Rc):Int:=if r.place=2 then dX (!uM r.keys.length 1 4) 11 (kX (KI r) r.keys) else dX (!r.keys.isEmpty||r.dups) 1 0
def HI (s:Sch) (r:Rc):Int:=if r.place=3 then dX (match s.st.find? (·.name==r.via) with|none=>true|some t=>!(t.ms.any (·.of==r.name))) 5 0 else dX (r.via !=[]) 1 0
section
variable (known : List Itm → Bool) (canon : By → Bool) (check : List Itm → By → Int)
def a1C (r:Rc):Int:=if r.check=[] then 0 else dX (!canon r.check) 2 (check r.its r.check)
def HL (s:Sch) (met:List By) (r:Rc):Int:=kL met r.name (dX (!((dH s).contains r.area)) 5 (dX (!known r.its||!uM r.place 1 3) 1 (U8 (sC r) (U8 (HI s r) (a1C canon check r)))))
end
def iE (its:List Itm) (n:By):Int:=match its.find? (·.name==n) with
 |some x=>x.k
 |none=>0
def eQ (s:Sch) (n:By):Rc:=(s.rc.find? (·.name==n)).getD ⟨[],[],[],0,[],false,[],[]⟩
def FT (o r:Rc) (k:Nat) (n:By):Int:=dX (!(r.its.any (·.name==n))) 5 (dX (iE r.its n !=iE o.its ((o.keys[k]?).getD [])) 10 0)
def TJ (s:Sch) (t:Sy) (m:Mb):Int:=if m.sel=[] then 0 else
 dX (t.owner==[]) 10 (dX ((eQ s t.owner).place !=2||(eQ s t.owner).dups) 10 (dX (m.sel.length !=(eQ s t.owner).keys.length) 11 (kX (FT (eQ s t.owner) (eQ s m.of)) m.sel)))
def pO (s:Sch) (t:Sy) (k:Nat) (m:Mb):Int:=
 dX (!((gB s).contains m.of)) 5 (dX (((t.ms.take k).map (·.of)).contains m.of) 6 (dX (!uM m.keep 1 3) 1 (TJ s t m)))
def l6 (s:Sch) (t:Sy) (k:Nat) (y:Ky):Int:=
 dX (!(t.ms.all fun m=>(eQ s m.of).its.any (·.name==y.item))) 5
  (dX (!(t.ms.all fun m=>iE (eQ s m.of).its y.item==iE (eQ s ((t.ms.head?.map (·.of)).getD [])).its y.item)) 10
   (dX (((t.keys.take k).map (·.item)).contains y.item) 6 0))
def wB (s:Sch) (t:Sy):Int:=dX (!uM t.keys.length 1 4) 11 (U8 (kX (l6 s t) t.keys) (dX (!uM t.dups 1 3) 1 0))
def JS (s:Sch) (met:List By) (t:Sy):Int:=
 kL met t.name (dX (t.owner !=[]&&!((gB s).contains t.owner)) 5 (dX (!uM t.ms.length 1 4) 11 (U8 (kX (pO s t) t.ms)
  (dX (!uM t.order 1 5) 1 (U8 (if t.order=5 then wB s t else dX (!t.keys.isEmpty||t.dups !=0) 1 0)
   (dX (!uM t.mode 1 3) 1 (dX (t.mode==3&&t.order !=5) 10 0)))))))
def uK:By:=[97,114,101,97]
def lI:By:=[114,101,99,111,114,100]
def qZ:By:=[115,101,116]
section
variable (known : List Itm → Bool) (canon : By → Bool) (check : List Itm → By → Int)
def I8 (s:Sch):By×Nat×Int:=if s.st.length>60 then(qZ,0,4) else
 match eS (fun i t=>JS s (dH s++(gB s++(tP s).take i)) t) 0 s.st with
 |some (i,e)=>(qZ,i,e)
 |none=>([],0,0)
def IA (s:Sch):By×Nat×Int:=if !uM s.rc.length 1 10 then(lI,0,4) else
 match eS (fun i r=>HL known canon check s (dH s++(gB s).take i) r) 0 s.rc with
 |some (i,e)=>(lI,i,e)
 |none=>I8 s
def ZI (s:Sch):By×Nat×Int:=if !uM s.ar.length 1 6 then(uK,0,4) else
 match eS (fun i a=>mN ((dH s).take i) a) 0 s.ar with
 |some (i,e)=>(uK,i,e)
 |none=>IA known canon check s
end
theorem dL {w:Bool} {e b:Int} (h:dX w e b=0) (he:e≠0):w=false/\b=0:=by
 cases w with
 |false=>exact⟨rfl,h⟩
 |true=>exact absurd h he
theorem wG {a b:Int} (h:U8 a b=0):a=0/\b=0:=by
 unfold U8 at h;by_cases ha:a=0
 ·rw[aF ha] at h;exact⟨ha,h⟩
 ·rw[aD ha] at h;exact absurd h ha
theorem vO {α:Type} {f:Nat->α->Int} {l:List α} (h:kX f l=0):∀j z,l[j]?=some z->f j z=0:=by
 unfold kX at h;cases hx:eS f 0 l with
 |none=>intro j z hz;have:=rR hx j z hz;rwa [bH] at this
 |some p=>
  obtain⟨i,e⟩:=p;rw[hx] at h;have aux:∀(l:List α) (n:Nat),eS f n l=some (i,e)->e≠0:=by
   intro l;induction l with
   |nil=>intro n h;cases h
   |cons x l ih=>
    intro n h;unfold eS at h;by_cases h0:f n x=0
    ·rw[aF h0] at h;exact ih _ h
    ·rw[aD h0] at h;cases h;exact h0
  exact absurd h (aux l 0 hx)
def M1 (known:List Itm->Bool) (r:Rc):Prop:=known r.its=true/\(r.place=2->∀n∈r.keys,r.its.any (·.name==n)=true)
theorem WO {known:List Itm->Bool} {canon:By->Bool} {check:List Itm->By->Int} {s:Sch} {met:List By} {r:Rc} (h:HL known canon check s met r=0):M1 known r:=by
 unfold HL kL at h;obtain⟨-,h⟩:=dL h (by decide);obtain⟨-,h⟩:=dL h (by decide);obtain⟨-,h⟩:=dL h (by decide);obtain⟨hk,h⟩:=dL h (by decide);obtain⟨h1, -⟩:=wG h;refine⟨by simpa using(Bool.or_eq_false_iff.1 hk).1,fun hp n hn=>?_⟩;unfold sC at h1;rw[aF hp] at h1;obtain⟨-,h1⟩:=dL h1 (by decide);obtain⟨j,hj⟩:=List.getElem?_of_mem hn;have h2:=vO h1 j n hj;unfold KI at h2;obtain⟨h2, -⟩:=dL h2 (by decide);simpa using h2
theorem TU {known:List Itm->Bool} {canon:By->Bool} {check:List Itm->By->Int} {s:Sch} {f:Nat->List By} (h:eS (fun i r=>HL known canon check s (f i) r) 0 s.rc=none):∀r∈s.rc,M1 known r:=by
 intro r hr;obtain⟨j,hj⟩:=List.getElem?_of_mem hr;exact WO (rR h j r hj)
theorem IB {s:Sch} {n:By} (h:(gB s).contains n=true):eQ s n∈s.rc/\s.rc.find? (·.name==n)=some (eQ s n):=by
 have:∃r,s.rc.find? (·.name==n)=some r:=by
  cases hf:s.rc.find? (·.name==n) with
  |some r=>exact⟨r,rfl⟩
  |none=>
   have h9:n∈gB s:=by simpa using h
   obtain⟨r,hr,e⟩:=List.mem_map.1 h9;have:=List.find?_eq_none.1 hf r hr;rw[e] at this;simp at this
 obtain⟨r,hr⟩:=this;have e:eQ s n=r:=by unfold eQ;rw[hr];rfl
 rw[e];exact⟨List.mem_of_find?_eq_some hr,hr⟩
theorem eK {α:Type} (f:α->By) (l:List α) (n:By):(l.map f).contains n=l.any (fun x=>f x==n):=by
 induction l with
 |nil=>rfl
 |cons x l ih=>rw[dV,List.contains_cons,List.any_cons,ih,Bool.beq_comm]
theorem qJ {α:Type} (p:α->Bool) (l:List α):decide (0<=m8 p l)=l.any p:=by
 rw[dU,aK,List.any_eq_true];constructor
 ·intro h;obtain⟨i,y, -,hy,hp, -, -⟩:=HD h;exact⟨y,aL hy,hp⟩
 ·intro⟨y,hy,hp⟩;rcases Int.lt_or_le (m8 p l) 0 with h9|h9
  ·rw[a3F.1 h9 y hy] at hp;cases hp
  ·exact h9
theorem nM {α:Type} (p:α->Bool) (l:List α):decide (m8 p l<0)=!l.any p:=by
 rw[<-qJ];by_cases h:m8 p l<0
 ·rw[bN h,cD (by omega)];rfl
 ·rw[cD h,bN (by omega)];rfl
theorem KE (a b:List By) (n:By):(a++b).contains n=(a.contains n||b.contains n):=by
 induction a with
 |nil=>simp
 |cons x a ih=>rw[List.cons_append,List.contains_cons,List.contains_cons,ih,Bool.or_assoc]
theorem a3V (s:Sch) (i:Nat) (n:By):((dH s).take i).contains n=(s.ar.take i).any (fun x=>x.name==n):=by
 unfold dH;rw[<-List.map_take];exact eK _ _ _
theorem a3U (s:Sch) (i:Nat) (n:By):(dH s++(gB s).take i).contains n=(s.ar.any (fun x=>x.name==n)||(s.rc.take i).any (fun x=>x.name==n)):=by
 rw[KE];unfold dH gB;rw[<-List.map_take,eK,eK]
theorem a3T (s:Sch) (i:Nat) (n:By):(dH s++(gB s++(tP s).take i)).contains n=(s.ar.any (fun x=>x.name==n)||(s.rc.any (fun x=>x.name==n)||(s.st.take i).any (fun x=>x.name==n))):=by
 rw[KE,KE];unfold dH gB tP;rw[<-List.map_take,eK,eK,eK]
