/-
  A part of the proof of SchemaFinds.
-/
import Derived.Test.YtcfgfkkhpdlhpaaGreatDoorT27
set_option linter.all false
set_option maxRecDepth 100000
namespace Go.Proofs.YtcfgfkkhpdlhpaaGreatDoor
open Go.RowKit
structure Itm where
 name:By
 k:Int
 lo:Int
 hi:Int
 len:Int
 deriving DecidableEq
def Itm.cs (i:Itm):List GV:=[.s i.name,.i .i64 i.k,.i .i64 i.lo,.i .i64 i.hi,.i .i64 i.len]
def Itm.gv (i:Itm):GV:=.agg i.cs
theorem Itm.cl [MaxL] (i:Itm):Cl i.gv:=fun _=>rfl
def fU (l:List Itm):List GV:=l.map Itm.gv
theorem d8 [MaxL] (l:List Itm):ClL (fU l):=gT Itm.cl l
theorem mH (l:List Itm):(fU l).length=l.length:=by simp[fU]
theorem nJ {l:List Itm} {i:Nat} {y:Itm} (h:l[i]?=some y):(fU l)[i]?=some (.agg [.s y.name,.i .i64 y.k,.i .i64 y.lo,.i .i64 y.hi,.i .i64 y.len]):=by
 unfold fU;rw[aM,h];rfl
def Itm.ok (i:Itm):Bool:=fV i.name&&((decide (i.k=1)&&decide (i.lo<=i.hi)&&decide (-1000000000<=i.lo)&&decide (i.hi<=1000000000)&&decide (i.len=0))||(decide (i.k=2)&&decide (1<=i.len)&&decide (i.len<=40)&&decide (i.lo=0)&&decide (i.hi=0)))
theorem O4 [MaxL] (i:Itm):SC Tryz.prog 177 [i.gv] [] (.val (.b i.ok)) []:=by
 obtain⟨name,k,lo,hi,len⟩:=i;have hn:=LI name;have hw:=x9 len 1 40;unfold Itm.ok;simp only;generalize fV name=nm at*;cases nm with
 |false=>
  refine cZ Tryz.func177 rfl ?_;conv=>whnf
  refine nH hn ?_;conv=>whnf
  exact d7 rfl
 |true=>
  refine cZ Tryz.func177 rfl ?_;conv=>whnf
  refine nH hn ?_;conv=>whnf
  repeat' first
   |(refine aF (fun _=>?_) (fun _=>?_)<;>conv=>whnf)
   |(refine b9 (by kernel_rfl) ?_;conv=>whnf)
   |(refine⟨_,⟨rfl,zL _,rfl,bL rfl⟩,?_⟩;conv=>whnf)
   |(refine nH hw ?_;conv=>whnf)
  all_goals
   refine d7 ?_;rw[eZ];simp at*;try omega
theorem M8 [MaxL] (i:Itm):SC Tryz.prog 227 [i.gv] [] (.val (.b i.ok)) []:=by
 obtain⟨name,k,lo,hi,len⟩:=i;have hn:=BF name;unfold Itm.ok;simp only;generalize fV name=nm at*;cases nm with
 |false=>
  refine cZ Tryz.func227 rfl ?_;conv=>whnf
  refine nH hn ?_;conv=>whnf
  exact d7 rfl
 |true=>
  refine cZ Tryz.func227 rfl ?_;conv=>whnf
  refine nH hn ?_;conv=>whnf
  repeat' first
   |(refine aF (fun _=>?_) (fun _=>?_)<;>conv=>whnf)
   |(refine b9 (by kernel_rfl) ?_;conv=>whnf)
   |(refine⟨_,⟨rfl,zL _,rfl,bL rfl⟩,?_⟩;conv=>whnf)
  all_goals
   refine d7 ?_;rw[eZ];simp at*;try omega
def tT (l:List Itm) (s:By):Int:=match l.findIdx? (fun i=>i.name==s) with
 |some k=>k
 |none=> -1
theorem PG {l:List Itm} {s:By} (h:∀y∈l,y.name≠s):tT l s= -1:=by
 unfold tT;rw[List.findIdx?_eq_none_iff.2 (fun y hy=>by simpa using h y hy)]
theorem E2 {l:List Itm} {s:By} {i:Nat} {y:Itm} (h:l[i]?=some y) (hs:y.name=s) (hb:∀z∈l.take i,z.name≠s):tT l s=(i:Int):=by
 unfold tT;have hi:=(List.getElem?_eq_some_iff.1 h).1;have:l.findIdx? (fun i=>i.name==s)=some i:=by
  rw[List.findIdx?_eq_some_iff_getElem];refine⟨hi,by have:=(List.getElem?_eq_some_iff.1 h).2;rw[this];simpa using hs,fun j hj=>?_⟩;have:l[j]∈l.take i:=by
   rw[List.mem_take_iff_getElem];exact⟨j,by omega,rfl⟩
  simpa using hb _ this
 rw[this]
theorem IL (l:List Itm) (s:By):(tT l s= -1/\∀y∈l,y.name≠s)∨∃i y,tT l s=(i:Nat)/\l[i]?=some y/\y.name=s/\∀z∈l.take i,z.name≠s:=by
 cases h:l.findIdx? (fun i=>i.name==s) with
 |none=>
  refine .inl ⟨by unfold tT;rw[h],fun y hy=>?_⟩;have:=List.findIdx?_eq_none_iff.1 h y hy;simpa using this
 |some i=>
  obtain⟨hi,h1,h2⟩:=List.findIdx?_eq_some_iff_getElem.1 h;refine .inr ⟨i,l[i],by unfold tT;rw[h],gL hi,by simpa using h1,fun z hz=>?_⟩;rw[List.mem_take_iff_getElem] at hz;obtain⟨j,hj,rfl⟩:=hz;have:=h2 j (by omega);simpa using this
theorem uL {l:List Itm} {s:By} {i:Nat} {y:Itm} (h:∀z∈l.take i,z.name≠s) (hy:l[i]?=some y) (hn:y.name≠s):∀z∈l.take (i+1),z.name≠s:=fun z hz=>by
 rw[bR,hy] at hz;rcases List.mem_append.1 hz with hz|hz
 ·exact h z hz
 ·rw[List.mem_singleton.1 (show z∈[y] from hz)];exact hn
theorem WL [MaxL] (l:List Itm) (hl:l.length<bH) (s:By):SC Tryz.prog 228 [.sl .none (fU l),.s s] [] (.val (.i .i64 (tT l s))) []:=by
 have hlen:=mH l;unfold bH at hl;refine cZ Tryz.func228 rfl ?_;conv=>whnf
 refine dG (fun i:Nat=>i<=l.length/\∀z∈l.take i,z.name≠s) (fun i=>[(0,.sl .none (fU l)),(1,.s s),(5,.i .i64 (i:Nat))]) (fun _=>⟨[],0,[]⟩) (fun i=>l.length - i) 0 ⟨zL _,fun z h=>by simp at h⟩ ⟨rfl,rfl,rfl,trivial⟩ rfl (fun i φ0 hi=>?_);obtain⟨hi,hne⟩:=hi;conv=>whnf
 refine aF (fun h=>?_) (fun h=>?_)<;>conv=>whnf
 rotate_left
 ·have hie:i=l.length:=by have:=aB h;rw[hlen] at this;omega
  refine bI ?_;rw[hie,b7] at hne;exact(PG hne).symm
 have hlt:i<l.length:=by have:=aA h;rw[hlen] at this;omega
 obtain⟨y,hy⟩:∃y,l[i]?=some y:=⟨l[i],gL hlt⟩;refine⟨cN _,_,by rw[aC];exact nJ hy,rfl,?_⟩;conv=>whnf
 refine aF (fun heq=>?_) (fun heq=>?_)<;>conv=>whnf
 ·have e:y.name=s:=by simpa using heq
  exact bI (E2 hy e hne).symm
 ·have e:y.name≠s:=by simpa using heq
  exact⟨l.length - (i+1),(by show _<l.length - i;omega),i+1,⟨hlt,uL hne hy e⟩,rfl,⟨rfl,rfl,b8 (by omega),trivial⟩,rfl⟩
theorem a2b [MaxL] (l:List Itm) (hl:l.length<bH) (s:By):SC Tryz.prog 270 [.sl .none (fU l),.s s] [] (.val (.i .i64 (tT l s))) []:=by
 have hlen:=mH l;unfold bH at hl;refine cZ Tryz.func270 rfl ?_;conv=>whnf
 refine dG (fun i:Nat=>i<=l.length/\∀z∈l.take i,z.name≠s) (fun i=>[(0,.sl .none (fU l)),(1,.s s),(5,.i .i64 (i:Nat))]) (fun _=>⟨[],0,[]⟩) (fun i=>l.length - i) 0 ⟨zL _,fun z h=>by simp at h⟩ ⟨rfl,rfl,rfl,trivial⟩ rfl (fun i φ0 hi=>?_);obtain⟨hi,hne⟩:=hi;conv=>whnf
 refine aF (fun h=>?_) (fun h=>?_)<;>conv=>whnf
 rotate_left
 ·have hie:i=l.length:=by have:=aB h;rw[hlen] at this;omega
  refine bI ?_;rw[hie,b7] at hne;exact(PG hne).symm
 have hlt:i<l.length:=by have:=aA h;rw[hlen] at this;omega
 obtain⟨y,hy⟩:∃y,l[i]?=some y:=⟨l[i],gL hlt⟩;refine⟨cN _,_,by rw[aC];exact nJ hy,rfl,?_⟩;conv=>whnf
 refine aF (fun heq=>?_) (fun heq=>?_)<;>conv=>whnf
 ·have e:y.name=s:=by simpa using heq
  exact bI (E2 hy e hne).symm
 ·have e:y.name≠s:=by simpa using heq
  exact⟨l.length - (i+1),(by show _<l.length - i;omega),i+1,⟨hlt,uL hne hy e⟩,rfl,⟨rfl,rfl,b8 (by omega),trivial⟩,rfl⟩
def i7 (l:List Itm):Bool:=l.all Itm.ok&&decide ((l.map Itm.name).Nodup)&&decide (l.length<=8)
theorem y7 {l:List Itm} {i:Nat} {y:Itm} (h:∀z∈l.take i,z.ok=true) (hy:l[i]?=some y) (hn:y.ok=true):∀z∈l.take (i+1),z.ok=true:=fun z hz=>by
 rw[bR,hy] at hz;rcases List.mem_append.1 hz with hz|hz
 ·exact h z hz
 ·rw[List.mem_singleton.1 (show z∈[y] from hz)];exact hn
theorem yZ {l:List Itm} {i:Nat} {y:Itm} (h:((l.take i).map Itm.name).Nodup) (hy:l[i]?=some y):((l.take (i+1)).map Itm.name).Nodup↔∀z∈l.take i,z.name≠y.name:=by
 rw[bR,hy];show((l.take i++[y]).map Itm.name).Nodup↔_;rw[cO,List.nodup_append];constructor
 ·intro⟨_,_,h3⟩ z hz;exact h3 _ (List.mem_map_of_mem hz) _ (by simp)
 ·intro h3;refine⟨h,by simp,fun a ha b hb=>?_⟩;obtain⟨z,hz,rfl⟩:=List.mem_map.1 ha;simp at hb;rw[hb];exact h3 z hz
theorem A8 {l:List Itm} {i:Nat} {y:Itm} (hy:l[i]?=some y) (h:y.ok=false∨∃z∈l.take i,z.name=y.name):i7 l=false:=by
 unfold i7;rcases h with h|⟨z,hz,he⟩
 ·have:l.all Itm.ok=false:=by
   rw[List.all_eq_false];exact⟨y,aK hy,by simp[h]⟩
  rw[this];rfl
 ·have:¬(l.map Itm.name).Nodup:=fun hn=>by
   have h1:((l.take (i+1)).map Itm.name).Nodup:=List.Nodup.sublist (List.Sublist.map _ (List.take_sublist _ _)) hn;have h0:((l.take i).map Itm.name).Nodup:=List.Nodup.sublist (List.Sublist.map _ (List.take_sublist _ _)) hn;exact(yZ h0 hy).1 h1 z hz he
  rw[cW this];simp
theorem IK {l:List Itm} (h1:∀z∈l,z.ok=true) (h2:(l.map Itm.name).Nodup):i7 l=decide (l.length<=8):=by
 unfold i7;rw[List.all_eq_true.2 h1,bS h2];simp
theorem XH {l:List Itm} {i:Nat} {y:Itm} (h0:((l.take i).map Itm.name).Nodup) (hy:l[i]?=some y):tT l y.name=(i:Int)↔∀z∈l.take i,z.name≠y.name:=by
 constructor
 ·intro h z hz he;rcases IL l y.name with⟨h1,_⟩|⟨j,w,h1,h2,h3,h4⟩
  ·rw[h1] at h;omega
  ·rw[h1] at h;have hj:j=i:=by omega
   subst hj;exact h4 z hz he
 ·intro h;exact E2 hy rfl h
theorem F7 [MaxL] (l:List Itm) (hl:l.length<bH):SC Tryz.prog 188 [.sl .none (fU l)] [] (.val (.b (i7 l))) []:=by
 have hlen:=mH l;have hl':=hl;unfold bH at hl';refine cZ Tryz.func188 rfl ?_;conv=>whnf
 refine dG (fun i:Nat=>i<=l.length/\(∀z∈l.take i,z.ok=true)/\((l.take i).map Itm.name).Nodup) (fun i=>[(0,.sl .none (fU l)),(3,.i .i64 (i:Nat))]) (fun _=>⟨[],0,[]⟩) (fun i=>l.length - i) 0 ⟨zL _,(fun z h=>by simp at h),by simp⟩ ⟨rfl,rfl,trivial⟩ rfl (fun i φ0 hi=>?_);obtain⟨hi,hok,hnd⟩:=hi;conv=>whnf
 refine aF (fun h=>?_) (fun h=>?_)<;>conv=>whnf
 rotate_left
 ·have hie:i=l.length:=by have:=aB h;rw[hlen] at this;omega
  refine d7 ?_;rw[hie,b7] at hok hnd;rw[IK hok hnd];rw[hlen];rw[decide_eq_decide];omega
 have hlt:i<l.length:=by have:=aA h;rw[hlen] at this;omega
 obtain⟨y,hy⟩:∃y,l[i]?=some y:=⟨l[i],gL hlt⟩;have hv:=M8 y;have hx:=WL l hl y.name;refine⟨cN _,_,by rw[aC];exact nJ hy,rfl,?_⟩;conv=>whnf
 refine bG hv (wR _) rfl (fun _=>rfl) (.b _) ?_;conv=>whnf
 refine aF (fun h1=>?_) (fun h1=>?_)<;>conv=>whnf
 ·refine d7 ?_;rw[A8 hy (.inl (by simpa using h1))]
 have h1':y.ok=true:=by simpa using h1
 refine⟨cN _,_,by rw[aC];exact nJ hy,rfl,?_⟩;conv=>whnf
 refine bG hx (wR _) rfl (cC (bV (d8 l)) (.cons (.s _) .nil)) (.i _ _) ?_;conv=>whnf
 refine aF (fun h2=>?_) (fun h2=>?_)<;>conv=>whnf
 ·refine d7 ?_;rw[A8 hy (.inr ?_)];have h3:¬tT l y.name=(i:Int):=by simpa using h2
  rw[XH hnd hy] at h3;simpa using h3
 ·have h3:tT l y.name=(i:Int):=by simpa using h2
  exact⟨l.length - (i+1),(by show _<l.length - i;omega),i+1,⟨hlt,y7 hok hy h1',(yZ hnd hy).2 ((XH hnd hy).1 h3)⟩,rfl,⟨rfl,b8 (by omega),trivial⟩,rfl⟩
theorem HC [MaxL] (l:List Itm) (hl:l.length<bH):SC Tryz.prog 126 [.sl .none (fU l)] [] (.val (.b (decide (0<l.length)&&i7 l))) []:=by
 have hk:=F7 l hl;have hlen:=mH l;generalize i7 l=b at*;refine cZ Tryz.func126 rfl ?_;conv=>whnf
 refine aF (fun h=>?_) (fun h=>?_)<;>conv=>whnf
 ·refine bG hk (wR _) rfl (cC (bV (d8 l)) .nil) (.b _) ?_;conv=>whnf
  refine d7 ?_;rw[bS (by have:=aA h;omega)];rfl
 ·refine d7 ?_;rw[cW (by have:=aB h;omega)];rfl
structure Ar where
 name:By
 pages:Int
structure Rc where
 name:By
 area:By
 its:List Itm
 place:Int
 keys:List By
 dups:Bool
 via:By
 check:By
structure Mb where
 of:By
 auto:Bool
 keep:Int
 sel:List By
structure Ky where
 item:By
 down:Bool
structure Sy where
 name:By
 owner:By
 ms:List Mb
 order:Int
 keys:List Ky
 dups:Int
 mode:Int
structure Sch where
 ar:List Ar
 rc:List Rc
 st:List Sy
def m6 {α:Type} (p:α->Bool):List α->Int
 |[]=> -1
 |x::l=>if p x then 0 else if m6 p l<0 then -1 else m6 p l+1
theorem sU {α:Type} {p:α->Bool} {l:List α} {i:Nat} {y:α} (hy:l[i]?=some y) (hp:p y=true) (h:∀z∈l.take i,p z=false):m6 p l=i:=by
 induction l generalizing i with
 |nil=>cases hy
 |cons x l ih=>
  match i,hy,h with
  |0,hy,h=>cases hy;unfold m6;rw[aG hp];rfl
  |i+1,hy,h=>
   have h0:=ih (i:=i) hy (fun z hz=>h z (by rw[jI];exact f6 _ hz));have hx:p x=false:=h x (by rw[jI];exact fO);unfold m6;rw[hx,h0,aE (by simp),aE (by omega)];rfl
theorem vN {α:Type} {p:α->Bool} {l:List α} (h:∀z∈l,p z=false):m6 p l= -1:=by
 induction l with
 |nil=>rfl
 |cons x l ih=>
  unfold m6;rw[h x fO,ih fun z hz=>h z (f6 _ hz)];rfl
theorem a36 {α:Type} {p:α->Bool} {l:List α}:m6 p l<0↔∀z∈l,p z=false:=by
 constructor
 ·induction l with
  |nil=>intro _ z hz;cases hz
  |cons x l ih=>
   intro h z hz;unfold m6 at h;cases hx:p x with
   |true=>rw[hx,aG rfl] at h;omega
   |false=>
    rw[hx,aE (by simp)] at h;have hl:m6 p l<0:=by
     by_cases hl:m6 p l<0
     ·exact hl
     ·rw[aE hl] at h;omega
    rcases List.mem_cons.1 hz with rfl|hz
    ·exact hx
    ·exact ih hl z hz
 ·intro h;rw[vN h];omega
theorem H2 {α:Type} {p:α->Bool} {l:List α} (h:0<=m6 p l):∃i y,m6 p l=(i:Nat)/\l[i]?=some y/\p y=true/\(∀z∈l.take i,p z=false)/\l.find? p=some y:=by
 induction l with
 |nil=>exact absurd h (by unfold m6;omega)
 |cons x l ih=>
  cases hx:p x with
  |true=>exact⟨0,x,by unfold m6;rw[aG hx];rfl,rfl,hx,by simp,by simp[hx]⟩
  |false=>
   have hl:0<=m6 p l:=by
    unfold m6 at h;rw[hx,aE (by simp)] at h;by_cases hl:m6 p l<0
    ·rw[aG hl] at h;omega
    ·omega
   obtain⟨i,y,e,hy,hp,ht,hf⟩:=ih hl;refine⟨i+1,y,?_,hy,hp,fun z hz=>?_,by simp[hx,hf]⟩
   ·unfold m6;rw[hx,aE (by simp),e,aE (by omega)];rfl
   ·rw[jI] at hz;rcases List.mem_cons.1 hz with rfl|hz
    ·exact hx
    ·exact ht z hz
theorem H3 {α:Type} {p:α->Bool} {l:List α} {i:Nat} {y:α} (hy:l[i]?=some y) (hp:p y=true):decide (m6 p l<(i:Int))=(l.take i).any p:=by
 cases h:(l.take i).any p with
 |false=>
  rw[sU hy hp fun z hz=>by
   cases hz':p z with
   |false=>rfl
   |true=>exact absurd (List.any_eq_true.2 ⟨z,hz,hz'⟩) (by rw[h];simp)]
  simp
 |true=>
  obtain⟨z,hz,hz'⟩:=List.any_eq_true.1 h;obtain⟨j,hj,rfl⟩:=List.getElem_of_mem hz;have hj':j<i:=by rw[bN] at hj;omega
  have hjl:j<l.length:=by rw[bN] at hj;omega
  rw[List.getElem_take] at hz';have h0:0<=m6 p l:=by
   rcases Int.lt_or_le (m6 p l) 0 with h9|h9
   ·rw[a36.1 h9 _ (eI hjl)] at hz';cases hz'
   ·exact h9
  obtain⟨k,w,e,hw,hpw,ht, -⟩:=H2 h0;have hk:k<=j:=Nat.le_of_not_lt fun h9=>by
   have:=ht l[j] (List.mem_take_iff_getElem.2 ⟨j,by omega,rfl⟩);rw[this] at hz';cases hz'
  rw[e];simp;omega
def eS {α:Type} (f:Nat->α->Int):Nat->List α->Option (Nat×Int)
 |_,[]=>none
 |i,x::l=>if f i x=0 then eS f (i+1) l else some (i,f i x)
theorem IY {α:Type} {f:Nat->α->Int} {l:List α} {n i:Nat} {y:α} (hy:l[i]?=some y) (hn:f (n+i) y≠0) (h:∀j z,j<i->l[j]?=some z->f (n+j) z=0):
  eS f n l=some (n+i,f (n+i) y):=by
 induction l generalizing i n with
 |nil=>cases hy
 |cons x l ih=>
  match i,hy,hn,h with
  |0,hy,hn,h=>cases hy;rw[Nat.add_zero] at hn⊢;unfold eS;rw[aE hn]
  |i+1,hy,hn,h=>
   unfold eS;rw[aG (show f n x=0 from h 0 x (Nat.succ_pos _) rfl),ih (n:=n+1) (i:=i) hy (by rw[show n+1+i=n+(i+1) by omega];exact hn) fun j z hj hz=>by
    rw[show n+1+j=n+(j+1) by omega];exact h (j+1) z (by omega) hz]
   rw[show n+1+i=n+(i+1) by omega]
theorem IX {α:Type} {f:Nat->α->Int} {l:List α} {n:Nat} (h:∀j z,l[j]?=some z->f (n+j) z=0):eS f n l=none:=by
 induction l generalizing n with
 |nil=>rfl
 |cons x l ih=>
  unfold eS;rw[aG (show f n x=0 from h 0 x rfl)];exact ih fun j z hz=>by rw[show n+1+j=n+(j+1) by omega];exact h (j+1) z hz
theorem rI {α:Type} {f:Nat->α->Int} {l:List α} {n:Nat} (h:eS f n l=none):∀j z,l[j]?=some z->f (n+j) z=0:=by
 induction l generalizing n with
 |nil=>intro j z hz;cases hz
 |cons x l ih=>
  unfold eS at h;intro j z hz;by_cases h0:f n x=0
  ·rw[aG h0] at h
   match j,hz with
   |0,hz=>cases hz;exact h0
   |j+1,hz=>rw[show n+(j+1)=n+1+j by omega];exact ih h j z hz
  ·rw[aE h0] at h;cases h
def l5 {α:Type} (f:Nat->α->Int) (l:List α):Int:=match eS f 0 l with
 |some (_,e)=>e
 |none=>0
theorem n7 {α:Type} {f:Nat->α->Int} {l:List α} {i:Nat} {y:α} (hy:l[i]?=some y) (hn:f i y≠0) (h:∀j z,j<i->l[j]?=some z->f j z=0):l5 f l=f i y:=by
 unfold l5;rw[IY (n:=0) hy (by rw[bB];exact hn) fun j z hj hz=>by rw[bB];exact h j z hj hz,bB]
theorem n6 {α:Type} {f:Nat->α->Int} {l:List α} (h:∀j z,l[j]?=some z->f j z=0):l5 f l=0:=by
 unfold l5;rw[IX (n:=0) fun j z hz=>by rw[bB];exact h j z hz]
def TR (a b:Int):Int:=if a=0 then b else a
def dZ (w:Bool) (e b:Int):Int:=if w then e else b
def YX:By:=[115,121,115,116,101,109]
def vR (n lo hi:Int):Bool:=decide (lo<=n)&&decide (n<=hi)
def kN (met:List By) (n:By) (b:Int):Int:=dZ (!fV n||n==YX) 1 (dZ (met.contains n) 6 b)
def mO (met:List By) (a:Ar):Int:=kN met a.name (dZ (!vR a.pages 1 200) 7 0)
def dH (s:Sch):List By:=s.ar.map (·.name)
def eJ (s:Sch):List By:=s.rc.map (·.name)
def tJ (s:Sch):List By:=s.st.map (·.name)
def K8 (r:Rc) (k:Nat) (n:By):Int:=dZ (!(r.its.any (·.name==n))) 5 (dZ ((r.keys.take k).contains n) 6 0)
def tS (r:Rc):Int:=if r.place=2 then dZ (!vR r.keys.length 1 4) 11 (l5 (K8 r) r.keys) else dZ (!r.keys.isEmpty||r.dups) 1 0
def H7 (s:Sch) (r:Rc):Int:=if r.place=3 then dZ (match s.st.find? (·.name==r.via) with|none=>true|some t=>!(t.ms.any (·.of==r.name))) 5 0 else dZ (r.via !=[]) 1 0
section
variable (known : List Itm → Bool) (canon : By → Bool) (check : List Itm → By → Int)
def a0y (r:Rc):Int:=if r.check=[] then 0 else dZ (!canon r.check) 2 (check r.its r.check)
def JK (s:Sch) (met:List By) (r:Rc):Int:=kN met r.name (dZ (!((dH s).contains r.area)) 5 (dZ (!known r.its||!vR r.place 1 3) 1 (TR (tS r) (TR (H7 s r) (a0y canon check r)))))
end
def iK (its:List Itm) (n:By):Int:=match its.find? (·.name==n) with
 |some x=>x.k
 |none=>0
def iH (s:Sch) (n:By):Rc:=(s.rc.find? (·.name==n)).getD ⟨[],[],[],0,[],false,[],[]⟩
def IA (o r:Rc) (k:Nat) (n:By):Int:=dZ (!(r.its.any (·.name==n))) 5 (dZ (iK r.its n !=iK o.its ((o.keys[k]?).getD [])) 10 0)
def VO (s:Sch) (t:Sy) (m:Mb):Int:=if m.sel=[] then 0 else
 dZ (t.owner==[]) 10 (dZ ((iH s t.owner).place !=2||(iH s t.owner).dups) 10 (dZ (m.sel.length !=(iH s t.owner).keys.length) 11 (l5 (IA (iH s t.owner) (iH s m.of)) m.sel)))
def pL (s:Sch) (t:Sy) (k:Nat) (m:Mb):Int:=
 dZ (!((eJ s).contains m.of)) 5 (dZ (((t.ms.take k).map (·.of)).contains m.of) 6 (dZ (!vR m.keep 1 3) 1 (VO s t m)))
def lR (s:Sch) (t:Sy) (k:Nat) (y:Ky):Int:=
 dZ (!(t.ms.all fun m=>(iH s m.of).its.any (·.name==y.item))) 5
  (dZ (!(t.ms.all fun m=>iK (iH s m.of).its y.item==iK (iH s ((t.ms.head?.map (·.of)).getD [])).its y.item)) 10
   (dZ (((t.keys.take k).map (·.item)).contains y.item) 6 0))
def y8 (s:Sch) (t:Sy):Int:=dZ (!vR t.keys.length 1 4) 11 (TR (l5 (lR s t) t.keys) (dZ (!vR t.dups 1 3) 1 0))
def JH (s:Sch) (met:List By) (t:Sy):Int:=
 kN met t.name (dZ (t.owner !=[]&&!((eJ s).contains t.owner)) 5 (dZ (!vR t.ms.length 1 4) 11 (TR (l5 (pL s t) t.ms)
  (dZ (!vR t.order 1 5) 1 (TR (if t.order=5 then y8 s t else dZ (!t.keys.isEmpty||t.dups !=0) 1 0)
   (dZ (!vR t.mode 1 3) 1 (dZ (t.mode==3&&t.order !=5) 10 0)))))))
def uD:By:=[97,114,101,97]
def lL:By:=[114,101,99,111,114,100]
def qS:By:=[115,101,116]
section
variable (known : List Itm → Bool) (canon : By → Bool) (check : List Itm → By → Int)
def I1 (s:Sch):By×Nat×Int:=if s.st.length>60 then(qS,0,4) else
 match eS (fun i t=>JH s (dH s++(eJ s++(tJ s).take i)) t) 0 s.st with
 |some (i,e)=>(qS,i,e)
 |none=>([],0,0)
def I4 (s:Sch):By×Nat×Int:=if !vR s.rc.length 1 10 then(lL,0,4) else
 match eS (fun i r=>JK known canon check s (dH s++(eJ s).take i) r) 0 s.rc with
 |some (i,e)=>(lL,i,e)
 |none=>I1 s
def Z5 (s:Sch):By×Nat×Int:=if !vR s.ar.length 1 6 then(uD,0,4) else
 match eS (fun i a=>mO ((dH s).take i) a) 0 s.ar with
 |some (i,e)=>(uD,i,e)
 |none=>I4 known canon check s
end
theorem i6 {w:Bool} {e b:Int} (h:dZ w e b=0) (he:e≠0):w=false/\b=0:=by
 cases w with
 |false=>exact⟨rfl,h⟩
 |true=>exact absurd h he
theorem FC {a b:Int} (h:TR a b=0):a=0/\b=0:=by
 unfold TR at h;by_cases ha:a=0
 ·rw[aG ha] at h;exact⟨ha,h⟩
 ·rw[aE ha] at h;exact absurd h ha
theorem GM {α:Type} {f:Nat->α->Int} {l:List α} (h:l5 f l=0):∀j z,l[j]?=some z->f j z=0:=by
 unfold l5 at h;cases hx:eS f 0 l with
 |none=>intro j z hz;have:=rI hx j z hz;rwa [bB] at this
 |some p=>
  obtain⟨i,e⟩:=p;rw[hx] at h;have aux:∀(l:List α) (n:Nat),eS f n l=some (i,e)->e≠0:=by
   intro l;induction l with
   |nil=>intro n h;cases h
   |cons x l ih=>
    intro n h;unfold eS at h;by_cases h0:f n x=0
    ·rw[aG h0] at h;exact ih _ h
    ·rw[aE h0] at h;cases h;exact h0
  exact absurd h (aux l 0 hx)
def LQ (known:List Itm->Bool) (r:Rc):Prop:=known r.its=true/\(r.place=2->∀n∈r.keys,r.its.any (·.name==n)=true)
theorem WB {known:List Itm->Bool} {canon:By->Bool} {check:List Itm->By->Int} {s:Sch} {met:List By} {r:Rc} (h:JK known canon check s met r=0):LQ known r:=by
 unfold JK kN at h;obtain⟨-,h⟩:=i6 h (by decide);obtain⟨-,h⟩:=i6 h (by decide);obtain⟨-,h⟩:=i6 h (by decide);obtain⟨hk,h⟩:=i6 h (by decide);obtain⟨h1, -⟩:=FC h;refine⟨by simpa using(Bool.or_eq_false_iff.1 hk).1,fun hp n hn=>?_⟩;unfold tS at h1;rw[aG hp] at h1;obtain⟨-,h1⟩:=i6 h1 (by decide);obtain⟨j,hj⟩:=List.getElem?_of_mem hn;have h2:=GM h1 j n hj;unfold K8 at h2;obtain⟨h2, -⟩:=i6 h2 (by decide);simpa using h2
theorem TE {known:List Itm->Bool} {canon:By->Bool} {check:List Itm->By->Int} {s:Sch} {f:Nat->List By} (h:eS (fun i r=>JK known canon check s (f i) r) 0 s.rc=none):∀r∈s.rc,LQ known r:=by
 intro r hr;obtain⟨j,hj⟩:=List.getElem?_of_mem hr;exact WB (rI h j r hj)
theorem dU {α:Type} (f:α->By) (l:List α) (n:By):(l.map f).contains n=l.any (fun x=>f x==n):=by
 induction l with
 |nil=>rfl
 |cons x l ih=>rw[dO,List.contains_cons,List.any_cons,ih,Bool.beq_comm]
theorem lP {α:Type} (p:α->Bool) (l:List α):decide (0<=m6 p l)=l.any p:=by
 rw[eZ,aL,List.any_eq_true];constructor
 ·intro h;obtain⟨i,y, -,hy,hp, -, -⟩:=H2 h;exact⟨y,aK hy,hp⟩
 ·intro⟨y,hy,hp⟩;rcases Int.lt_or_le (m6 p l) 0 with h9|h9
  ·rw[a36.1 h9 y hy] at hp;cases hp
  ·exact h9
theorem nP {α:Type} (p:α->Bool) (l:List α):decide (m6 p l<0)=!l.any p:=by
 rw[<-lP];by_cases h:m6 p l<0
 ·rw[bS h,cW (by omega)];rfl
 ·rw[cW h,bS (by omega)];rfl
theorem K3 (a b:List By) (n:By):(a++b).contains n=(a.contains n||b.contains n):=by
 induction a with
 |nil=>simp
 |cons x a ih=>rw[List.cons_append,List.contains_cons,List.contains_cons,ih,Bool.or_assoc]
theorem a3R (s:Sch) (i:Nat) (n:By):((dH s).take i).contains n=(s.ar.take i).any (fun x=>x.name==n):=by
 unfold dH;rw[<-List.map_take];exact dU _ _ _
theorem a3Q (s:Sch) (i:Nat) (n:By):(dH s++(eJ s).take i).contains n=(s.ar.any (fun x=>x.name==n)||(s.rc.take i).any (fun x=>x.name==n)):=by
 rw[K3];unfold dH eJ;rw[<-List.map_take,dU,dU]
theorem a3P (s:Sch) (i:Nat) (n:By):(dH s++(eJ s++(tJ s).take i)).contains n=(s.ar.any (fun x=>x.name==n)||(s.rc.any (fun x=>x.name==n)||(s.st.take i).any (fun x=>x.name==n))):=by
 rw[K3,K3];unfold dH eJ tJ;rw[<-List.map_take,dU,dU,dU]
