/-
  A part of the proof of SchemaMembers.
-/
import Derived.Test.YtcfgfkkhpdlhpaaGreatDoorQ27
set_option linter.all false
set_option maxRecDepth 100000
namespace Go.Proofs.YtcfgfkkhpdlhpaaGreatDoor
open Go.RowKit
structure Itm where
 name:By
 k:Int
 lo:Int
 hi:Int
 len:Int
 deriving DecidableEq
def Itm.cs (i:Itm):List GV:=[.s i.name,.i .i64 i.k,.i .i64 i.lo,.i .i64 i.hi,.i .i64 i.len]
def Itm.gv (i:Itm):GV:=.agg i.cs
theorem Itm.cl [MaxL] (i:Itm):Cl i.gv:=fun _=>rfl
def gI (l:List Itm):List GV:=l.map Itm.gv
theorem cR [MaxL] (l:List Itm):ClL (gI l):=gX Itm.cl l
theorem oD (l:List Itm):(gI l).length=l.length:=by simp[gI]
theorem n7 {l:List Itm} {i:Nat} {y:Itm} (h:l[i]?=some y):(gI l)[i]?=some (.agg [.s y.name,.i .i64 y.k,.i .i64 y.lo,.i .i64 y.hi,.i .i64 y.len]):=by
 unfold gI;rw[aL,h];rfl
def Itm.ok (i:Itm):Bool:=fN i.name&&((decide (i.k=1)&&decide (i.lo<=i.hi)&&decide (-1000000000<=i.lo)&&decide (i.hi<=1000000000)&&decide (i.len=0))||(decide (i.k=2)&&decide (1<=i.len)&&decide (i.len<=40)&&decide (i.lo=0)&&decide (i.hi=0)))
theorem MU [MaxL] (i:Itm):SC Tryz.prog 177 [i.gv] [] (.val (.b i.ok)) []:=by
 obtain⟨name,k,lo,hi,len⟩:=i;have hn:=K6 name;have hw:=wP len 1 40;unfold Itm.ok;simp only;generalize fN name=nm at*;cases nm with
 |false=>
  refine cW Tryz.func177 rfl ?_;conv=>whnf
  refine n5 hn ?_;conv=>whnf
  exact cQ rfl
 |true=>
  refine cW Tryz.func177 rfl ?_;conv=>whnf
  refine n5 hn ?_;conv=>whnf
  repeat' first
   |(refine aF (fun _=>?_) (fun _=>?_)<;>conv=>whnf)
   |(refine bC (by kernel_rfl) ?_;conv=>whnf)
   |(refine⟨_,⟨rfl,zL _,rfl,bL rfl⟩,?_⟩;conv=>whnf)
   |(refine n5 hw ?_;conv=>whnf)
  all_goals
   refine cQ ?_;rw[eX];simp at*;try omega
theorem KY [MaxL] (i:Itm):SC Tryz.prog 227 [i.gv] [] (.val (.b i.ok)) []:=by
 obtain⟨name,k,lo,hi,len⟩:=i;have hn:=AW name;unfold Itm.ok;simp only;generalize fN name=nm at*;cases nm with
 |false=>
  refine cW Tryz.func227 rfl ?_;conv=>whnf
  refine n5 hn ?_;conv=>whnf
  exact cQ rfl
 |true=>
  refine cW Tryz.func227 rfl ?_;conv=>whnf
  refine n5 hn ?_;conv=>whnf
  repeat' first
   |(refine aF (fun _=>?_) (fun _=>?_)<;>conv=>whnf)
   |(refine bC (by kernel_rfl) ?_;conv=>whnf)
   |(refine⟨_,⟨rfl,zL _,rfl,bL rfl⟩,?_⟩;conv=>whnf)
  all_goals
   refine cQ ?_;rw[eX];simp at*;try omega
def t6 (l:List Itm) (s:By):Int:=match l.findIdx? (fun i=>i.name==s) with
 |some k=>k
 |none=> -1
theorem O5 {l:List Itm} {s:By} (h:∀y∈l,y.name≠s):t6 l s= -1:=by
 unfold t6;rw[List.findIdx?_eq_none_iff.2 (fun y hy=>by simpa using h y hy)]
theorem DK {l:List Itm} {s:By} {i:Nat} {y:Itm} (h:l[i]?=some y) (hs:y.name=s) (hb:∀z∈l.take i,z.name≠s):t6 l s=(i:Int):=by
 unfold t6;have hi:=(List.getElem?_eq_some_iff.1 h).1;have:l.findIdx? (fun i=>i.name==s)=some i:=by
  rw[List.findIdx?_eq_some_iff_getElem];refine⟨hi,by have:=(List.getElem?_eq_some_iff.1 h).2;rw[this];simpa using hs,fun j hj=>?_⟩;have:l[j]∈l.take i:=by
   rw[List.mem_take_iff_getElem];exact⟨j,by omega,rfl⟩
  simpa using hb _ this
 rw[this]
theorem HP (l:List Itm) (s:By):(t6 l s= -1/\∀y∈l,y.name≠s)∨∃i y,t6 l s=(i:Nat)/\l[i]?=some y/\y.name=s/\∀z∈l.take i,z.name≠s:=by
 cases h:l.findIdx? (fun i=>i.name==s) with
 |none=>
  refine .inl ⟨by unfold t6;rw[h],fun y hy=>?_⟩;have:=List.findIdx?_eq_none_iff.1 h y hy;simpa using this
 |some i=>
  obtain⟨hi,h1,h2⟩:=List.findIdx?_eq_some_iff_getElem.1 h;refine .inr ⟨i,l[i],by unfold t6;rw[h],gL hi,by simpa using h1,fun z hz=>?_⟩;rw[List.mem_take_iff_getElem] at hz;obtain⟨j,hj,rfl⟩:=hz;have:=h2 j (by omega);simpa using this
theorem u9 {l:List Itm} {s:By} {i:Nat} {y:Itm} (h:∀z∈l.take i,z.name≠s) (hy:l[i]?=some y) (hn:y.name≠s):∀z∈l.take (i+1),z.name≠s:=fun z hz=>by
 rw[cH,hy] at hz;rcases List.mem_append.1 hz with hz|hz
 ·exact h z hz
 ·rw[List.mem_singleton.1 (show z∈[y] from hz)];exact hn
theorem UX [MaxL] (l:List Itm) (hl:l.length<bH) (s:By):SC Tryz.prog 228 [.sl .none (gI l),.s s] [] (.val (.i .i64 (t6 l s))) []:=by
 have hlen:=oD l;unfold bH at hl;refine cW Tryz.func228 rfl ?_;conv=>whnf
 refine dC (fun i:Nat=>i<=l.length/\∀z∈l.take i,z.name≠s) (fun i=>[(0,.sl .none (gI l)),(1,.s s),(5,.i .i64 (i:Nat))]) (fun _=>⟨[],0,[]⟩) (fun i=>l.length - i) 0 ⟨zL _,fun z h=>by simp at h⟩ ⟨rfl,rfl,rfl,trivial⟩ rfl (fun i φ0 hi=>?_);obtain⟨hi,hne⟩:=hi;conv=>whnf
 refine aF (fun h=>?_) (fun h=>?_)<;>conv=>whnf
 rotate_left
 ·have hie:i=l.length:=by have:=aC h;rw[hlen] at this;omega
  refine bG ?_;rw[hie,b9] at hne;exact(O5 hne).symm
 have hlt:i<l.length:=by have:=aB h;rw[hlen] at this;omega
 obtain⟨y,hy⟩:∃y,l[i]?=some y:=⟨l[i],gL hlt⟩;refine⟨cN _,_,by rw[aA];exact n7 hy,rfl,?_⟩;conv=>whnf
 refine aF (fun heq=>?_) (fun heq=>?_)<;>conv=>whnf
 ·have e:y.name=s:=by simpa using heq
  exact bG (DK hy e hne).symm
 ·have e:y.name≠s:=by simpa using heq
  exact⟨l.length - (i+1),(by show _<l.length - i;omega),i+1,⟨hlt,u9 hne hy e⟩,rfl,⟨rfl,rfl,b7 (by omega),trivial⟩,rfl⟩
theorem a1H [MaxL] (l:List Itm) (hl:l.length<bH) (s:By):SC Tryz.prog 270 [.sl .none (gI l),.s s] [] (.val (.i .i64 (t6 l s))) []:=by
 have hlen:=oD l;unfold bH at hl;refine cW Tryz.func270 rfl ?_;conv=>whnf
 refine dC (fun i:Nat=>i<=l.length/\∀z∈l.take i,z.name≠s) (fun i=>[(0,.sl .none (gI l)),(1,.s s),(5,.i .i64 (i:Nat))]) (fun _=>⟨[],0,[]⟩) (fun i=>l.length - i) 0 ⟨zL _,fun z h=>by simp at h⟩ ⟨rfl,rfl,rfl,trivial⟩ rfl (fun i φ0 hi=>?_);obtain⟨hi,hne⟩:=hi;conv=>whnf
 refine aF (fun h=>?_) (fun h=>?_)<;>conv=>whnf
 rotate_left
 ·have hie:i=l.length:=by have:=aC h;rw[hlen] at this;omega
  refine bG ?_;rw[hie,b9] at hne;exact(O5 hne).symm
 have hlt:i<l.length:=by have:=aB h;rw[hlen] at this;omega
 obtain⟨y,hy⟩:∃y,l[i]?=some y:=⟨l[i],gL hlt⟩;refine⟨cN _,_,by rw[aA];exact n7 hy,rfl,?_⟩;conv=>whnf
 refine aF (fun heq=>?_) (fun heq=>?_)<;>conv=>whnf
 ·have e:y.name=s:=by simpa using heq
  exact bG (DK hy e hne).symm
 ·have e:y.name≠s:=by simpa using heq
  exact⟨l.length - (i+1),(by show _<l.length - i;omega),i+1,⟨hlt,u9 hne hy e⟩,rfl,⟨rfl,rfl,b7 (by omega),trivial⟩,rfl⟩
def gU (l:List Itm):Bool:=l.all Itm.ok&&decide ((l.map Itm.name).Nodup)&&decide (l.length<=8)
theorem xL {l:List Itm} {i:Nat} {y:Itm} (h:∀z∈l.take i,z.ok=true) (hy:l[i]?=some y) (hn:y.ok=true):∀z∈l.take (i+1),z.ok=true:=fun z hz=>by
 rw[cH,hy] at hz;rcases List.mem_append.1 hz with hz|hz
 ·exact h z hz
 ·rw[List.mem_singleton.1 (show z∈[y] from hz)];exact hn
theorem yF {l:List Itm} {i:Nat} {y:Itm} (h:((l.take i).map Itm.name).Nodup) (hy:l[i]?=some y):((l.take (i+1)).map Itm.name).Nodup↔∀z∈l.take i,z.name≠y.name:=by
 rw[cH,hy];show((l.take i++[y]).map Itm.name).Nodup↔_;rw[d9,List.nodup_append];constructor
 ·intro⟨_,_,h3⟩ z hz;exact h3 _ (List.mem_map_of_mem hz) _ (by simp)
 ·intro h3;refine⟨h,by simp,fun a ha b hb=>?_⟩;obtain⟨z,hz,rfl⟩:=List.mem_map.1 ha;simp at hb;rw[hb];exact h3 z hz
theorem zN {l:List Itm} {i:Nat} {y:Itm} (hy:l[i]?=some y) (h:y.ok=false∨∃z∈l.take i,z.name=y.name):gU l=false:=by
 unfold gU;rcases h with h|⟨z,hz,he⟩
 ·have:l.all Itm.ok=false:=by
   rw[List.all_eq_false];exact⟨y,aN hy,by simp[h]⟩
  rw[this];rfl
 ·have:¬(l.map Itm.name).Nodup:=fun hn=>by
   have h1:((l.take (i+1)).map Itm.name).Nodup:=List.Nodup.sublist (List.Sublist.map _ (List.take_sublist _ _)) hn;have h0:((l.take i).map Itm.name).Nodup:=List.Nodup.sublist (List.Sublist.map _ (List.take_sublist _ _)) hn;exact(yF h0 hy).1 h1 z hz he
  rw[cM this];simp
theorem HO {l:List Itm} (h1:∀z∈l,z.ok=true) (h2:(l.map Itm.name).Nodup):gU l=decide (l.length<=8):=by
 unfold gU;rw[List.all_eq_true.2 h1,bQ h2];simp
theorem VX {l:List Itm} {i:Nat} {y:Itm} (h0:((l.take i).map Itm.name).Nodup) (hy:l[i]?=some y):t6 l y.name=(i:Int)↔∀z∈l.take i,z.name≠y.name:=by
 constructor
 ·intro h z hz he;rcases HP l y.name with⟨h1,_⟩|⟨j,w,h1,h2,h3,h4⟩
  ·rw[h1] at h;omega
  ·rw[h1] at h;have hj:j=i:=by omega
   subst hj;exact h4 z hz he
 ·intro h;exact DK hy rfl h
theorem EI [MaxL] (l:List Itm) (hl:l.length<bH):SC Tryz.prog 188 [.sl .none (gI l)] [] (.val (.b (gU l))) []:=by
 have hlen:=oD l;have hl':=hl;unfold bH at hl';refine cW Tryz.func188 rfl ?_;conv=>whnf
 refine dC (fun i:Nat=>i<=l.length/\(∀z∈l.take i,z.ok=true)/\((l.take i).map Itm.name).Nodup) (fun i=>[(0,.sl .none (gI l)),(3,.i .i64 (i:Nat))]) (fun _=>⟨[],0,[]⟩) (fun i=>l.length - i) 0 ⟨zL _,(fun z h=>by simp at h),by simp⟩ ⟨rfl,rfl,trivial⟩ rfl (fun i φ0 hi=>?_);obtain⟨hi,hok,hnd⟩:=hi;conv=>whnf
 refine aF (fun h=>?_) (fun h=>?_)<;>conv=>whnf
 rotate_left
 ·have hie:i=l.length:=by have:=aC h;rw[hlen] at this;omega
  refine cQ ?_;rw[hie,b9] at hok hnd;rw[HO hok hnd];rw[hlen];rw[decide_eq_decide];omega
 have hlt:i<l.length:=by have:=aB h;rw[hlen] at this;omega
 obtain⟨y,hy⟩:∃y,l[i]?=some y:=⟨l[i],gL hlt⟩;have hv:=KY y;have hx:=UX l hl y.name;refine⟨cN _,_,by rw[aA];exact n7 hy,rfl,?_⟩;conv=>whnf
 refine bF hv (wR _) rfl (fun _=>rfl) (.b _) ?_;conv=>whnf
 refine aF (fun h1=>?_) (fun h1=>?_)<;>conv=>whnf
 ·refine cQ ?_;rw[zN hy (.inl (by simpa using h1))]
 have h1':y.ok=true:=by simpa using h1
 refine⟨cN _,_,by rw[aA];exact n7 hy,rfl,?_⟩;conv=>whnf
 refine bF hx (wR _) rfl (cC (bT (cR l)) (.cons (.s _) .nil)) (.i _ _) ?_;conv=>whnf
 refine aF (fun h2=>?_) (fun h2=>?_)<;>conv=>whnf
 ·refine cQ ?_;rw[zN hy (.inr ?_)];have h3:¬t6 l y.name=(i:Int):=by simpa using h2
  rw[VX hnd hy] at h3;simpa using h3
 ·have h3:t6 l y.name=(i:Int):=by simpa using h2
  exact⟨l.length - (i+1),(by show _<l.length - i;omega),i+1,⟨hlt,xL hok hy h1',(yF hnd hy).2 ((VX hnd hy).1 h3)⟩,rfl,⟨rfl,b7 (by omega),trivial⟩,rfl⟩
theorem GI [MaxL] (l:List Itm) (hl:l.length<bH):SC Tryz.prog 126 [.sl .none (gI l)] [] (.val (.b (decide (0<l.length)&&gU l))) []:=by
 have hk:=EI l hl;have hlen:=oD l;generalize gU l=b at*;refine cW Tryz.func126 rfl ?_;conv=>whnf
 refine aF (fun h=>?_) (fun h=>?_)<;>conv=>whnf
 ·refine bF hk (wR _) rfl (cC (bT (cR l)) .nil) (.b _) ?_;conv=>whnf
  refine cQ ?_;rw[bQ (by have:=aB h;omega)];rfl
 ·refine cQ ?_;rw[cM (by have:=aC h;omega)];rfl
structure Ar where
 name:By
 pages:Int
structure Rc where
 name:By
 area:By
 its:List Itm
 place:Int
 keys:List By
 dups:Bool
 via:By
 check:By
structure Mb where
 of:By
 auto:Bool
 keep:Int
 sel:List By
structure Ky where
 item:By
 down:Bool
structure Sy where
 name:By
 owner:By
 ms:List Mb
 order:Int
 keys:List Ky
 dups:Int
 mode:Int
structure Sch where
 ar:List Ar
 rc:List Rc
 st:List Sy
def mC {α:Type} (p:α->Bool):List α->Int
 |[]=> -1
 |x::l=>if p x then 0 else if mC p l<0 then -1 else mC p l+1
theorem vA {α:Type} {p:α->Bool} {l:List α} {i:Nat} {y:α} (hy:l[i]?=some y) (hp:p y=true) (h:∀z∈l.take i,p z=false):mC p l=i:=by
 induction l generalizing i with
 |nil=>cases hy
 |cons x l ih=>
  match i,hy,h with
  |0,hy,h=>cases hy;unfold mC;rw[aG hp];rfl
  |i+1,hy,h=>
   have h0:=ih (i:=i) hy (fun z hz=>h z (by rw[j4];exact iU _ hz));have hx:p x=false:=h x (by rw[j4];exact List.mem_cons_self);unfold mC;rw[hx,h0,aE (by simp),aE (by omega)];rfl
theorem wU {α:Type} {p:α->Bool} {l:List α} (h:∀z∈l,p z=false):mC p l= -1:=by
 induction l with
 |nil=>rfl
 |cons x l ih=>
  unfold mC;rw[h x List.mem_cons_self,ih fun z hz=>h z (iU _ hz)];rfl
theorem a1m {α:Type} {p:α->Bool} {l:List α}:mC p l<0↔∀z∈l,p z=false:=by
 constructor
 ·induction l with
  |nil=>intro _ z hz;cases hz
  |cons x l ih=>
   intro h z hz;unfold mC at h;cases hx:p x with
   |true=>rw[hx,aG rfl] at h;omega
   |false=>
    rw[hx,aE (by simp)] at h;have hl:mC p l<0:=by
     by_cases hl:mC p l<0
     ·exact hl
     ·rw[aE hl] at h;omega
    rcases List.mem_cons.1 hz with rfl|hz
    ·exact hx
    ·exact ih hl z hz
 ·intro h;rw[wU h];omega
theorem G9 {α:Type} {p:α->Bool} {l:List α} (h:0<=mC p l):∃i y,mC p l=(i:Nat)/\l[i]?=some y/\p y=true/\(∀z∈l.take i,p z=false)/\l.find? p=some y:=by
 induction l with
 |nil=>exact absurd h (by unfold mC;omega)
 |cons x l ih=>
  cases hx:p x with
  |true=>exact⟨0,x,by unfold mC;rw[aG hx];rfl,rfl,hx,by simp,by simp[hx]⟩
  |false=>
   have hl:0<=mC p l:=by
    unfold mC at h;rw[hx,aE (by simp)] at h;by_cases hl:mC p l<0
    ·rw[aG hl] at h;omega
    ·omega
   obtain⟨i,y,e,hy,hp,ht,hf⟩:=ih hl;refine⟨i+1,y,?_,hy,hp,fun z hz=>?_,by simp[hx,hf]⟩
   ·unfold mC;rw[hx,aE (by simp),e,aE (by omega)];rfl
   ·rw[j4] at hz;rcases List.mem_cons.1 hz with rfl|hz
    ·exact hx
    ·exact ht z hz
theorem GA {α:Type} {p:α->Bool} {l:List α} {i:Nat} {y:α} (hy:l[i]?=some y) (hp:p y=true):decide (mC p l<(i:Int))=(l.take i).any p:=by
 cases h:(l.take i).any p with
 |false=>
  rw[vA hy hp fun z hz=>by
   cases hz':p z with
   |false=>rfl
   |true=>exact absurd (List.any_eq_true.2 ⟨z,hz,hz'⟩) (by rw[h];simp)]
  simp
 |true=>
  obtain⟨z,hz,hz'⟩:=List.any_eq_true.1 h;obtain⟨j,hj,rfl⟩:=List.getElem_of_mem hz;have hj':j<i:=by rw[bP] at hj;omega
  have hjl:j<l.length:=by rw[bP] at hj;omega
  rw[List.getElem_take] at hz';have h0:0<=mC p l:=by
   rcases Int.lt_or_le (mC p l) 0 with h9|h9
   ·rw[a1m.1 h9 _ (e8 hjl)] at hz';cases hz'
   ·exact h9
  obtain⟨k,w,e,hw,hpw,ht, -⟩:=G9 h0;have hk:k<=j:=Nat.le_of_not_lt fun h9=>by
   have:=ht l[j] (List.mem_take_iff_getElem.2 ⟨j,by omega,rfl⟩);rw[this] at hz';cases hz'
  rw[e];simp;omega
def eP {α:Type} (f:Nat->α->Int):Nat->List α->Option (Nat×Int)
 |_,[]=>none
 |i,x::l=>if f i x=0 then eP f (i+1) l else some (i,f i x)
theorem I2 {α:Type} {f:Nat->α->Int} {l:List α} {n i:Nat} {y:α} (hy:l[i]?=some y) (hn:f (n+i) y≠0) (h:∀j z,j<i->l[j]?=some z->f (n+j) z=0):
  eP f n l=some (n+i,f (n+i) y):=by
 induction l generalizing i n with
 |nil=>cases hy
 |cons x l ih=>
  match i,hy,hn,h with
  |0,hy,hn,h=>cases hy;rw[Nat.add_zero] at hn⊢;unfold eP;rw[aE hn]
  |i+1,hy,hn,h=>
   unfold eP;rw[aG (show f n x=0 from h 0 x (Nat.succ_pos _) rfl),ih (n:=n+1) (i:=i) hy (by rw[show n+1+i=n+(i+1) by omega];exact hn) fun j z hj hz=>by
    rw[show n+1+j=n+(j+1) by omega];exact h (j+1) z (by omega) hz]
   rw[show n+1+i=n+(i+1) by omega]
theorem I1 {α:Type} {f:Nat->α->Int} {l:List α} {n:Nat} (h:∀j z,l[j]?=some z->f (n+j) z=0):eP f n l=none:=by
 induction l generalizing n with
 |nil=>rfl
 |cons x l ih=>
  unfold eP;rw[aG (show f n x=0 from h 0 x rfl)];exact ih fun j z hz=>by rw[show n+1+j=n+(j+1) by omega];exact h (j+1) z hz
theorem yR {α:Type} {f:Nat->α->Int} {l:List α} {n:Nat} (h:eP f n l=none):∀j z,l[j]?=some z->f (n+j) z=0:=by
 induction l generalizing n with
 |nil=>intro j z hz;cases hz
 |cons x l ih=>
  unfold eP at h;intro j z hz;by_cases h0:f n x=0
  ·rw[aG h0] at h
   match j,hz with
   |0,hz=>cases hz;exact h0
   |j+1,hz=>rw[show n+(j+1)=n+1+j by omega];exact ih h j z hz
  ·rw[aE h0] at h;cases h
def kR {α:Type} (f:Nat->α->Int) (l:List α):Int:=match eP f 0 l with
 |some (_,e)=>e
 |none=>0
theorem mR {α:Type} {f:Nat->α->Int} {l:List α} {i:Nat} {y:α} (hy:l[i]?=some y) (hn:f i y≠0) (h:∀j z,j<i->l[j]?=some z->f j z=0):kR f l=f i y:=by
 unfold kR;rw[I2 (n:=0) hy (by rw[bD];exact hn) fun j z hj hz=>by rw[bD];exact h j z hj hz,bD]
theorem mQ {α:Type} {f:Nat->α->Int} {l:List α} (h:∀j z,l[j]?=some z->f j z=0):kR f l=0:=by
 unfold kR;rw[I1 (n:=0) fun j z hz=>by rw[bD];exact h j z hz]
def SB (a b:Int):Int:=if a=0 then b else a
def dZ (w:Bool) (e b:Int):Int:=if w then e else b
def XA:By:=[115,121,115,116,101,109]
def vD (n lo hi:Int):Bool:=decide (lo<=n)&&decide (n<=hi)
def kX (met:List By) (n:By) (b:Int):Int:=dZ (!fN n||n==XA) 1 (dZ (met.contains n) 6 b)
def mD (met:List By) (a:Ar):Int:=kX met a.name (dZ (!vD a.pages 1 200) 7 0)
def dD (s:Sch):List By:=s.ar.map (·.name)
def gF (s:Sch):List By:=s.rc.map (·.name)
def sP (s:Sch):List By:=s.st.map (·.name)
def J3 (r:Rc) (k:Nat) (n:By):Int:=dZ (!(r.its.any (·.name==n))) 5 (dZ ((r.keys.take k).contains n) 6 0)
def sZ (r:Rc):Int:=if r.place=2 then dZ (!vD r.keys.length 1 4) 11 (kR (J3 r) r.keys) else dZ (!r.keys.isEmpty||r.dups) 1 0
def GE (s:Sch) (r:Rc):Int:=if r.place=3 then dZ (match s.st.find? (·.name==r.via) with|none=>true|some t=>!(t.ms.any (·.of==r.name))) 5 0 else dZ (r.via !=[]) 1 0
section
variable (known : List Itm → Bool) (canon : By → Bool) (check : List Itm → By → Int)
def ZS (r:Rc):Int:=if r.check=[] then 0 else dZ (!canon r.check) 2 (check r.its r.check)
def KW (s:Sch) (met:List By) (r:Rc):Int:=kX met r.name (dZ (!((dD s).contains r.area)) 5 (dZ (!known r.its||!vD r.place 1 3) 1 (SB (sZ r) (SB (GE s r) (ZS canon check r)))))
end
def iC (its:List Itm) (n:By):Int:=match its.find? (·.name==n) with
 |some x=>x.k
 |none=>0
def i8 (s:Sch) (n:By):Rc:=(s.rc.find? (·.name==n)).getD ⟨[],[],[],0,[],false,[],[]⟩
def HF (o r:Rc) (k:Nat) (n:By):Int:=dZ (!(r.its.any (·.name==n))) 5 (dZ (iC r.its n !=iC o.its ((o.keys[k]?).getD [])) 10 0)
def U5 (s:Sch) (t:Sy) (m:Mb):Int:=if m.sel=[] then 0 else
 dZ (t.owner==[]) 10 (dZ ((i8 s t.owner).place !=2||(i8 s t.owner).dups) 10 (dZ (m.sel.length !=(i8 s t.owner).keys.length) 11 (kR (HF (i8 s t.owner) (i8 s m.of)) m.sel)))
def sW (s:Sch) (t:Sy) (k:Nat) (m:Mb):Int:=
 dZ (!((gF s).contains m.of)) 5 (dZ (((t.ms.take k).map (·.of)).contains m.of) 6 (dZ (!vD m.keep 1 3) 1 (U5 s t m)))
def lD (s:Sch) (t:Sy) (k:Nat) (y:Ky):Int:=
 dZ (!(t.ms.all fun m=>(i8 s m.of).its.any (·.name==y.item))) 5
  (dZ (!(t.ms.all fun m=>iC (i8 s m.of).its y.item==iC (i8 s ((t.ms.head?.map (·.of)).getD [])).its y.item)) 10
   (dZ (((t.keys.take k).map (·.item)).contains y.item) 6 0))
def C1 (s:Sch) (t:Sy):Int:=dZ (!vD t.keys.length 1 4) 11 (SB (kR (lD s t) t.keys) (dZ (!vD t.dups 1 3) 1 0))
def ND (s:Sch) (met:List By) (t:Sy):Int:=
 kX met t.name (dZ (t.owner !=[]&&!((gF s).contains t.owner)) 5 (dZ (!vD t.ms.length 1 4) 11 (SB (kR (sW s t) t.ms)
  (dZ (!vD t.order 1 5) 1 (SB (if t.order=5 then C1 s t else dZ (!t.keys.isEmpty||t.dups !=0) 1 0)
   (dZ (!vD t.mode 1 3) 1 (dZ (t.mode==3&&t.order !=5) 10 0)))))))
def tU:By:=[97,114,101,97]
def l6:By:=[114,101,99,111,114,100]
def qI:By:=[115,101,116]
section
variable (known : List Itm → Bool) (canon : By → Bool) (check : List Itm → By → Int)
def H7 (s:Sch):By×Nat×Int:=if s.st.length>60 then(qI,0,4) else
 match eP (fun i t=>ND s (dD s++(gF s++(sP s).take i)) t) 0 s.st with
 |some (i,e)=>(qI,i,e)
 |none=>([],0,0)
def H9 (s:Sch):By×Nat×Int:=if !vD s.rc.length 1 10 then(l6,0,4) else
 match eP (fun i r=>KW known canon check s (dD s++(gF s).take i) r) 0 s.rc with
 |some (i,e)=>(l6,i,e)
 |none=>H7 s
def XG (s:Sch):By×Nat×Int:=if !vD s.ar.length 1 6 then(tU,0,4) else
 match eP (fun i a=>mD ((dD s).take i) a) 0 s.ar with
 |some (i,e)=>(tU,i,e)
 |none=>H9 known canon check s
end
theorem lC {w:Bool} {e b:Int} (h:dZ w e b=0) (he:e≠0):w=false/\b=0:=by
 cases w with
 |false=>exact⟨rfl,h⟩
 |true=>exact absurd h he
theorem V7 {a b:Int} (h:SB a b=0):a=0/\b=0:=by
 unfold SB at h;by_cases ha:a=0
 ·rw[aG ha] at h;exact⟨ha,h⟩
 ·rw[aE ha] at h;exact absurd h ha
theorem OW {α:Type} {f:Nat->α->Int} {l:List α} (h:kR f l=0):∀j z,l[j]?=some z->f j z=0:=by
 unfold kR at h;cases hx:eP f 0 l with
 |none=>intro j z hz;have:=yR hx j z hz;rwa [bD] at this
 |some p=>
  obtain⟨i,e⟩:=p;rw[hx] at h;have aux:∀(l:List α) (n:Nat),eP f n l=some (i,e)->e≠0:=by
   intro l;induction l with
   |nil=>intro n h;cases h
   |cons x l ih=>
    intro n h;unfold eP at h;by_cases h0:f n x=0
    ·rw[aG h0] at h;exact ih _ h
    ·rw[aE h0] at h;cases h;exact h0
  exact absurd h (aux l 0 hx)
def KE (known:List Itm->Bool) (r:Rc):Prop:=known r.its=true/\(r.place=2->∀n∈r.keys,r.its.any (·.name==n)=true)
theorem UN {known:List Itm->Bool} {canon:By->Bool} {check:List Itm->By->Int} {s:Sch} {met:List By} {r:Rc} (h:KW known canon check s met r=0):KE known r:=by
 unfold KW kX at h;obtain⟨-,h⟩:=lC h (by decide);obtain⟨-,h⟩:=lC h (by decide);obtain⟨-,h⟩:=lC h (by decide);obtain⟨hk,h⟩:=lC h (by decide);obtain⟨h1, -⟩:=V7 h;refine⟨by simpa using(Bool.or_eq_false_iff.1 hk).1,fun hp n hn=>?_⟩;unfold sZ at h1;rw[aG hp] at h1;obtain⟨-,h1⟩:=lC h1 (by decide);obtain⟨j,hj⟩:=List.getElem?_of_mem hn;have h2:=OW h1 j n hj;unfold J3 at h2;obtain⟨h2, -⟩:=lC h2 (by decide);simpa using h2
theorem RX {known:List Itm->Bool} {canon:By->Bool} {check:List Itm->By->Int} {s:Sch} {f:Nat->List By} (h:eP (fun i r=>KW known canon check s (f i) r) 0 s.rc=none):∀r∈s.rc,KE known r:=by
 intro r hr;obtain⟨j,hj⟩:=List.getElem?_of_mem hr;exact UN (yR h j r hj)
theorem dG {α:Type} (f:α->By) (l:List α) (n:By):(l.map f).contains n=l.any (fun x=>f x==n):=by
 induction l with
 |nil=>rfl
 |cons x l ih=>rw[dN,List.contains_cons,List.any_cons,ih,Bool.beq_comm]
theorem nE {α:Type} (p:α->Bool) (l:List α):decide (0<=mC p l)=l.any p:=by
 rw[eX,aK,List.any_eq_true];constructor
 ·intro h;obtain⟨i,y, -,hy,hp, -, -⟩:=G9 h;exact⟨y,aN hy,hp⟩
 ·intro⟨y,hy,hp⟩;rcases Int.lt_or_le (mC p l) 0 with h9|h9
  ·rw[a1m.1 h9 y hy] at hp;cases hp
  ·exact h9
theorem nD {α:Type} (p:α->Bool) (l:List α):decide (mC p l<0)=!l.any p:=by
 rw[<-nE];by_cases h:mC p l<0
 ·rw[bQ h,cM (by omega)];rfl
 ·rw[cM h,bQ (by omega)];rfl
theorem J0 (a b:List By) (n:By):(a++b).contains n=(a.contains n||b.contains n):=by
 induction a with
 |nil=>simp
 |cons x a ih=>rw[List.cons_append,List.contains_cons,List.contains_cons,ih,Bool.or_assoc]
theorem a25 (s:Sch) (i:Nat) (n:By):((dD s).take i).contains n=(s.ar.take i).any (fun x=>x.name==n):=by
 unfold dD;rw[<-List.map_take];exact dG _ _ _
theorem a24 (s:Sch) (i:Nat) (n:By):(dD s++(gF s).take i).contains n=(s.ar.any (fun x=>x.name==n)||(s.rc.take i).any (fun x=>x.name==n)):=by
 rw[J0];unfold dD gF;rw[<-List.map_take,dG,dG]
theorem a23 (s:Sch) (i:Nat) (n:By):(dD s++(gF s++(sP s).take i)).contains n=(s.ar.any (fun x=>x.name==n)||(s.rc.any (fun x=>x.name==n)||(s.st.take i).any (fun x=>x.name==n))):=by
 rw[J0,J0];unfold dD gF sP;rw[<-List.map_take,dG,dG,dG]
