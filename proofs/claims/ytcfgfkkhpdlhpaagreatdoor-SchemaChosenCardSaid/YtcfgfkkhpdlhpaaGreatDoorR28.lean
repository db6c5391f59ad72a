/-
  A part of the proof of SchemaChosen.
-/
import Derived.Test.YtcfgfkkhpdlhpaaGreatDoorR27
set_option linter.all false
set_option maxRecDepth 100000
namespace Go.Proofs.YtcfgfkkhpdlhpaaGreatDoor
open Go.RowKit
structure Itm where
 name:By
 k:Int
 lo:Int
 hi:Int
 len:Int
 deriving DecidableEq
def Itm.cs (i:Itm):List GV:=[.s i.name,.i .i64 i.k,.i .i64 i.lo,.i .i64 i.hi,.i .i64 i.len]
def Itm.gv (i:Itm):GV:=.agg i.cs
theorem Itm.cl [MaxL] (i:Itm):Cl i.gv:=fun _=>rfl
def eZ (l:List Itm):List GV:=l.map Itm.gv
theorem cQ [MaxL] (l:List Itm):ClL (eZ l):=gI Itm.cl l
theorem m7 (l:List Itm):(eZ l).length=l.length:=by simp[eZ]
theorem lU {l:List Itm} {i:Nat} {y:Itm} (h:l[i]?=some y):(eZ l)[i]?=some (.agg [.s y.name,.i .i64 y.k,.i .i64 y.lo,.i .i64 y.hi,.i .i64 y.len]):=by
 unfold eZ;rw[aM,h];rfl
def Itm.ok (i:Itm):Bool:=fP i.name&&((decide (i.k=1)&&decide (i.lo<=i.hi)&&decide (-1000000000<=i.lo)&&decide (i.hi<=1000000000)&&decide (i.len=0))||(decide (i.k=2)&&decide (1<=i.len)&&decide (i.len<=40)&&decide (i.lo=0)&&decide (i.hi=0)))
theorem NG [MaxL] (i:Itm):SC Tryz.prog 177 [i.gv] [] (.val (.b i.ok)) []:=by
 obtain⟨name,k,lo,hi,len⟩:=i;have hn:=KU name;have hw:=tX len 1 40;unfold Itm.ok;simp only;generalize fP name=nm at*;cases nm with
 |false=>
  refine cX Tryz.func177 rfl ?_;conv=>whnf
  refine lX hn ?_;conv=>whnf
  exact bX rfl
 |true=>
  refine cX Tryz.func177 rfl ?_;conv=>whnf
  refine lX hn ?_;conv=>whnf
  repeat' first
   |(refine aF (fun _=>?_) (fun _=>?_)<;>conv=>whnf)
   |(refine b6 (by kernel_rfl) ?_;conv=>whnf)
   |(refine⟨_,⟨rfl,zL _,rfl,bL rfl⟩,?_⟩;conv=>whnf)
   |(refine lX hw ?_;conv=>whnf)
  all_goals
   refine bX ?_;rw[eJ];simp at*;try omega
theorem LK [MaxL] (i:Itm):SC Tryz.prog 227 [i.gv] [] (.val (.b i.ok)) []:=by
 obtain⟨name,k,lo,hi,len⟩:=i;have hn:=BB name;unfold Itm.ok;simp only;generalize fP name=nm at*;cases nm with
 |false=>
  refine cX Tryz.func227 rfl ?_;conv=>whnf
  refine lX hn ?_;conv=>whnf
  exact bX rfl
 |true=>
  refine cX Tryz.func227 rfl ?_;conv=>whnf
  refine lX hn ?_;conv=>whnf
  repeat' first
   |(refine aF (fun _=>?_) (fun _=>?_)<;>conv=>whnf)
   |(refine b6 (by kernel_rfl) ?_;conv=>whnf)
   |(refine⟨_,⟨rfl,zL _,rfl,bL rfl⟩,?_⟩;conv=>whnf)
  all_goals
   refine bX ?_;rw[eJ];simp at*;try omega
def tJ (l:List Itm) (s:By):Int:=match l.findIdx? (fun i=>i.name==s) with
 |some k=>k
 |none=> -1
theorem OU {l:List Itm} {s:By} (h:∀y∈l,y.name≠s):tJ l s= -1:=by
 unfold tJ;rw[List.findIdx?_eq_none_iff.2 (fun y hy=>by simpa using h y hy)]
theorem DW {l:List Itm} {s:By} {i:Nat} {y:Itm} (h:l[i]?=some y) (hs:y.name=s) (hb:∀z∈l.take i,z.name≠s):tJ l s=(i:Int):=by
 unfold tJ;have hi:=(List.getElem?_eq_some_iff.1 h).1;have:l.findIdx? (fun i=>i.name==s)=some i:=by
  rw[List.findIdx?_eq_some_iff_getElem];refine⟨hi,by have:=(List.getElem?_eq_some_iff.1 h).2;rw[this];simpa using hs,fun j hj=>?_⟩;have:l[j]∈l.take i:=by
   rw[List.mem_take_iff_getElem];exact⟨j,by omega,rfl⟩
  simpa using hb _ this
 rw[this]
theorem I3 (l:List Itm) (s:By):(tJ l s= -1/\∀y∈l,y.name≠s)∨∃i y,tJ l s=(i:Nat)/\l[i]?=some y/\y.name=s/\∀z∈l.take i,z.name≠s:=by
 cases h:l.findIdx? (fun i=>i.name==s) with
 |none=>
  refine .inl ⟨by unfold tJ;rw[h],fun y hy=>?_⟩;have:=List.findIdx?_eq_none_iff.1 h y hy;simpa using this
 |some i=>
  obtain⟨hi,h1,h2⟩:=List.findIdx?_eq_some_iff_getElem.1 h;refine .inr ⟨i,l[i],by unfold tJ;rw[h],gL hi,by simpa using h1,fun z hz=>?_⟩;rw[List.mem_take_iff_getElem] at hz;obtain⟨j,hj,rfl⟩:=hz;have:=h2 j (by omega);simpa using this
theorem uC {l:List Itm} {s:By} {i:Nat} {y:Itm} (h:∀z∈l.take i,z.name≠s) (hy:l[i]?=some y) (hn:y.name≠s):∀z∈l.take (i+1),z.name≠s:=fun z hz=>by
 rw[bR,hy] at hz;rcases List.mem_append.1 hz with hz|hz
 ·exact h z hz
 ·rw[List.mem_singleton.1 (show z∈[y] from hz)];exact hn
theorem VI [MaxL] (l:List Itm) (hl:l.length<bB) (s:By):SC Tryz.prog 228 [.sl .none (eZ l),.s s] [] (.val (.i .i64 (tJ l s))) []:=by
 have hlen:=m7 l;unfold bB at hl;refine cX Tryz.func228 rfl ?_;conv=>whnf
 refine cW (fun i:Nat=>i<=l.length/\∀z∈l.take i,z.name≠s) (fun i=>[(0,.sl .none (eZ l)),(1,.s s),(5,.i .i64 (i:Nat))]) (fun _=>⟨[],0,[]⟩) (fun i=>l.length - i) 0 ⟨zL _,fun z h=>by simp at h⟩ ⟨rfl,rfl,rfl,trivial⟩ rfl (fun i φ0 hi=>?_);obtain⟨hi,hne⟩:=hi;conv=>whnf
 refine aF (fun h=>?_) (fun h=>?_)<;>conv=>whnf
 rotate_left
 ·have hie:i=l.length:=by have:=aC h;rw[hlen] at this;omega
  refine bA ?_;rw[hie,b5] at hne;exact(OU hne).symm
 have hlt:i<l.length:=by have:=aB h;rw[hlen] at this;omega
 obtain⟨y,hy⟩:∃y,l[i]?=some y:=⟨l[i],gL hlt⟩;refine⟨cN _,_,by rw[aA];exact lU hy,rfl,?_⟩;conv=>whnf
 refine aF (fun heq=>?_) (fun heq=>?_)<;>conv=>whnf
 ·have e:y.name=s:=by simpa using heq
  exact bA (DW hy e hne).symm
 ·have e:y.name≠s:=by simpa using heq
  exact⟨l.length - (i+1),(by show _<l.length - i;omega),i+1,⟨hlt,uC hne hy e⟩,rfl,⟨rfl,rfl,b7 (by omega),trivial⟩,rfl⟩
theorem a1r [MaxL] (l:List Itm) (hl:l.length<bB) (s:By):SC Tryz.prog 270 [.sl .none (eZ l),.s s] [] (.val (.i .i64 (tJ l s))) []:=by
 have hlen:=m7 l;unfold bB at hl;refine cX Tryz.func270 rfl ?_;conv=>whnf
 refine cW (fun i:Nat=>i<=l.length/\∀z∈l.take i,z.name≠s) (fun i=>[(0,.sl .none (eZ l)),(1,.s s),(5,.i .i64 (i:Nat))]) (fun _=>⟨[],0,[]⟩) (fun i=>l.length - i) 0 ⟨zL _,fun z h=>by simp at h⟩ ⟨rfl,rfl,rfl,trivial⟩ rfl (fun i φ0 hi=>?_);obtain⟨hi,hne⟩:=hi;conv=>whnf
 refine aF (fun h=>?_) (fun h=>?_)<;>conv=>whnf
 rotate_left
 ·have hie:i=l.length:=by have:=aC h;rw[hlen] at this;omega
  refine bA ?_;rw[hie,b5] at hne;exact(OU hne).symm
 have hlt:i<l.length:=by have:=aB h;rw[hlen] at this;omega
 obtain⟨y,hy⟩:∃y,l[i]?=some y:=⟨l[i],gL hlt⟩;refine⟨cN _,_,by rw[aA];exact lU hy,rfl,?_⟩;conv=>whnf
 refine aF (fun heq=>?_) (fun heq=>?_)<;>conv=>whnf
 ·have e:y.name=s:=by simpa using heq
  exact bA (DW hy e hne).symm
 ·have e:y.name≠s:=by simpa using heq
  exact⟨l.length - (i+1),(by show _<l.length - i;omega),i+1,⟨hlt,uC hne hy e⟩,rfl,⟨rfl,rfl,b7 (by omega),trivial⟩,rfl⟩
def gM (l:List Itm):Bool:=l.all Itm.ok&&decide ((l.map Itm.name).Nodup)&&decide (l.length<=8)
theorem xP {l:List Itm} {i:Nat} {y:Itm} (h:∀z∈l.take i,z.ok=true) (hy:l[i]?=some y) (hn:y.ok=true):∀z∈l.take (i+1),z.ok=true:=fun z hz=>by
 rw[bR,hy] at hz;rcases List.mem_append.1 hz with hz|hz
 ·exact h z hz
 ·rw[List.mem_singleton.1 (show z∈[y] from hz)];exact hn
theorem yL {l:List Itm} {i:Nat} {y:Itm} (h:((l.take i).map Itm.name).Nodup) (hy:l[i]?=some y):((l.take (i+1)).map Itm.name).Nodup↔∀z∈l.take i,z.name≠y.name:=by
 rw[bR,hy];show((l.take i++[y]).map Itm.name).Nodup↔_;rw[cZ,List.nodup_append];constructor
 ·intro⟨_,_,h3⟩ z hz;exact h3 _ (List.mem_map_of_mem hz) _ (by simp)
 ·intro h3;refine⟨h,by simp,fun a ha b hb=>?_⟩;obtain⟨z,hz,rfl⟩:=List.mem_map.1 ha;simp at hb;rw[hb];exact h3 z hz
theorem zY {l:List Itm} {i:Nat} {y:Itm} (hy:l[i]?=some y) (h:y.ok=false∨∃z∈l.take i,z.name=y.name):gM l=false:=by
 unfold gM;rcases h with h|⟨z,hz,he⟩
 ·have:l.all Itm.ok=false:=by
   rw[List.all_eq_false];exact⟨y,aL hy,by simp[h]⟩
  rw[this];rfl
 ·have:¬(l.map Itm.name).Nodup:=fun hn=>by
   have h1:((l.take (i+1)).map Itm.name).Nodup:=List.Nodup.sublist (List.Sublist.map _ (List.take_sublist _ _)) hn;have h0:((l.take i).map Itm.name).Nodup:=List.Nodup.sublist (List.Sublist.map _ (List.take_sublist _ _)) hn;exact(yL h0 hy).1 h1 z hz he
  rw[cE this];simp
theorem I2 {l:List Itm} (h1:∀z∈l,z.ok=true) (h2:(l.map Itm.name).Nodup):gM l=decide (l.length<=8):=by
 unfold gM;rw[List.all_eq_true.2 h1,bM h2];simp
theorem WH {l:List Itm} {i:Nat} {y:Itm} (h0:((l.take i).map Itm.name).Nodup) (hy:l[i]?=some y):tJ l y.name=(i:Int)↔∀z∈l.take i,z.name≠y.name:=by
 constructor
 ·intro h z hz he;rcases I3 l y.name with⟨h1,_⟩|⟨j,w,h1,h2,h3,h4⟩
  ·rw[h1] at h;omega
  ·rw[h1] at h;have hj:j=i:=by omega
   subst hj;exact h4 z hz he
 ·intro h;exact DW hy rfl h
theorem EX [MaxL] (l:List Itm) (hl:l.length<bB):SC Tryz.prog 188 [.sl .none (eZ l)] [] (.val (.b (gM l))) []:=by
 have hlen:=m7 l;have hl':=hl;unfold bB at hl';refine cX Tryz.func188 rfl ?_;conv=>whnf
 refine cW (fun i:Nat=>i<=l.length/\(∀z∈l.take i,z.ok=true)/\((l.take i).map Itm.name).Nodup) (fun i=>[(0,.sl .none (eZ l)),(3,.i .i64 (i:Nat))]) (fun _=>⟨[],0,[]⟩) (fun i=>l.length - i) 0 ⟨zL _,(fun z h=>by simp at h),by simp⟩ ⟨rfl,rfl,trivial⟩ rfl (fun i φ0 hi=>?_);obtain⟨hi,hok,hnd⟩:=hi;conv=>whnf
 refine aF (fun h=>?_) (fun h=>?_)<;>conv=>whnf
 rotate_left
 ·have hie:i=l.length:=by have:=aC h;rw[hlen] at this;omega
  refine bX ?_;rw[hie,b5] at hok hnd;rw[I2 hok hnd];rw[hlen];rw[decide_eq_decide];omega
 have hlt:i<l.length:=by have:=aB h;rw[hlen] at this;omega
 obtain⟨y,hy⟩:∃y,l[i]?=some y:=⟨l[i],gL hlt⟩;have hv:=LK y;have hx:=VI l hl y.name;refine⟨cN _,_,by rw[aA];exact lU hy,rfl,?_⟩;conv=>whnf
 refine bD hv (wR _) rfl (fun _=>rfl) (.b _) ?_;conv=>whnf
 refine aF (fun h1=>?_) (fun h1=>?_)<;>conv=>whnf
 ·refine bX ?_;rw[zY hy (.inl (by simpa using h1))]
 have h1':y.ok=true:=by simpa using h1
 refine⟨cN _,_,by rw[aA];exact lU hy,rfl,?_⟩;conv=>whnf
 refine bD hx (wR _) rfl (cC (bS (cQ l)) (.cons (.s _) .nil)) (.i _ _) ?_;conv=>whnf
 refine aF (fun h2=>?_) (fun h2=>?_)<;>conv=>whnf
 ·refine bX ?_;rw[zY hy (.inr ?_)];have h3:¬tJ l y.name=(i:Int):=by simpa using h2
  rw[WH hnd hy] at h3;simpa using h3
 ·have h3:tJ l y.name=(i:Int):=by simpa using h2
  exact⟨l.length - (i+1),(by show _<l.length - i;omega),i+1,⟨hlt,xP hok hy h1',(yL hnd hy).2 ((WH hnd hy).1 h3)⟩,rfl,⟨rfl,b7 (by omega),trivial⟩,rfl⟩
theorem xS [MaxL] (l:List Itm) (hl:l.length<bB):SC Tryz.prog 126 [.sl .none (eZ l)] [] (.val (.b (decide (0<l.length)&&gM l))) []:=by
 have hk:=EX l hl;have hlen:=m7 l;generalize gM l=b at*;refine cX Tryz.func126 rfl ?_;conv=>whnf
 refine aF (fun h=>?_) (fun h=>?_)<;>conv=>whnf
 ·refine bD hk (wR _) rfl (cC (bS (cQ l)) .nil) (.b _) ?_;conv=>whnf
  refine bX ?_;rw[bM (by have:=aB h;omega)];rfl
 ·refine bX ?_;rw[cE (by have:=aC h;omega)];rfl
structure Ar where
 name:By
 pages:Int
structure Rc where
 name:By
 area:By
 its:List Itm
 place:Int
 keys:List By
 dups:Bool
 via:By
 check:By
structure Mb where
 of:By
 auto:Bool
 keep:Int
 sel:List By
structure Ky where
 item:By
 down:Bool
structure Sy where
 name:By
 owner:By
 ms:List Mb
 order:Int
 keys:List Ky
 dups:Int
 mode:Int
structure Sch where
 ar:List Ar
 rc:List Rc
 st:List Sy
def lW {α:Type} (p:α->Bool):List α->Int
 |[]=> -1
 |x::l=>if p x then 0 else if lW p l<0 then -1 else lW p l+1
theorem wX {α:Type} {p:α->Bool} {l:List α} {i:Nat} {y:α} (hy:l[i]?=some y) (hp:p y=true) (h:∀z∈l.take i,p z=false):lW p l=i:=by
 induction l generalizing i with
 |nil=>cases hy
 |cons x l ih=>
  match i,hy,h with
  |0,hy,h=>cases hy;unfold lW;rw[aG hp];rfl
  |i+1,hy,h=>
   have h0:=ih (i:=i) hy (fun z hz=>h z (by rw[j2];exact iP _ hz));have hx:p x=false:=h x (by rw[j2];exact List.mem_cons_self);unfold lW;rw[hx,h0,aD (by simp),aD (by omega)];rfl
theorem wW {α:Type} {p:α->Bool} {l:List α} (h:∀z∈l,p z=false):lW p l= -1:=by
 induction l with
 |nil=>rfl
 |cons x l ih=>
  unfold lW;rw[h x List.mem_cons_self,ih fun z hz=>h z (iP _ hz)];rfl
theorem a2P {α:Type} {p:α->Bool} {l:List α}:lW p l<0↔∀z∈l,p z=false:=by
 constructor
 ·induction l with
  |nil=>intro _ z hz;cases hz
  |cons x l ih=>
   intro h z hz;unfold lW at h;cases hx:p x with
   |true=>rw[hx,aG rfl] at h;omega
   |false=>
    rw[hx,aD (by simp)] at h;have hl:lW p l<0:=by
     by_cases hl:lW p l<0
     ·exact hl
     ·rw[aD hl] at h;omega
    rcases List.mem_cons.1 hz with rfl|hz
    ·exact hx
    ·exact ih hl z hz
 ·intro h;rw[wW h];omega
theorem GP {α:Type} {p:α->Bool} {l:List α} (h:0<=lW p l):∃i y,lW p l=(i:Nat)/\l[i]?=some y/\p y=true/\(∀z∈l.take i,p z=false)/\l.find? p=some y:=by
 induction l with
 |nil=>exact absurd h (by unfold lW;omega)
 |cons x l ih=>
  cases hx:p x with
  |true=>exact⟨0,x,by unfold lW;rw[aG hx];rfl,rfl,hx,by simp,by simp[hx]⟩
  |false=>
   have hl:0<=lW p l:=by
    unfold lW at h;rw[hx,aD (by simp)] at h;by_cases hl:lW p l<0
    ·rw[aG hl] at h;omega
    ·omega
   obtain⟨i,y,e,hy,hp,ht,hf⟩:=ih hl;refine⟨i+1,y,?_,hy,hp,fun z hz=>?_,by simp[hx,hf]⟩
   ·unfold lW;rw[hx,aD (by simp),e,aD (by omega)];rfl
   ·rw[j2] at hz;rcases List.mem_cons.1 hz with rfl|hz
    ·exact hx
    ·exact ht z hz
theorem GQ {α:Type} {p:α->Bool} {l:List α} {i:Nat} {y:α} (hy:l[i]?=some y) (hp:p y=true):decide (lW p l<(i:Int))=(l.take i).any p:=by
 cases h:(l.take i).any p with
 |false=>
  rw[wX hy hp fun z hz=>by
   cases hz':p z with
   |false=>rfl
   |true=>exact absurd (List.any_eq_true.2 ⟨z,hz,hz'⟩) (by rw[h];simp)]
  simp
 |true=>
  obtain⟨z,hz,hz'⟩:=List.any_eq_true.1 h;obtain⟨j,hj,rfl⟩:=List.getElem_of_mem hz;have hj':j<i:=by rw[bQ] at hj;omega
  have hjl:j<l.length:=by rw[bQ] at hj;omega
  rw[List.getElem_take] at hz';have h0:0<=lW p l:=by
   rcases Int.lt_or_le (lW p l) 0 with h9|h9
   ·rw[a2P.1 h9 _ (dX hjl)] at hz';cases hz'
   ·exact h9
  obtain⟨k,w,e,hw,hpw,ht, -⟩:=GP h0;have hk:k<=j:=Nat.le_of_not_lt fun h9=>by
   have:=ht l[j] (List.mem_take_iff_getElem.2 ⟨j,by omega,rfl⟩);rw[this] at hz';cases hz'
  rw[e];simp;omega
def eR {α:Type} (f:Nat->α->Int):Nat->List α->Option (Nat×Int)
 |_,[]=>none
 |i,x::l=>if f i x=0 then eR f (i+1) l else some (i,f i x)
theorem II {α:Type} {f:Nat->α->Int} {l:List α} {n i:Nat} {y:α} (hy:l[i]?=some y) (hn:f (n+i) y≠0) (h:∀j z,j<i->l[j]?=some z->f (n+j) z=0):
  eR f n l=some (n+i,f (n+i) y):=by
 induction l generalizing i n with
 |nil=>cases hy
 |cons x l ih=>
  match i,hy,hn,h with
  |0,hy,hn,h=>cases hy;rw[Nat.add_zero] at hn⊢;unfold eR;rw[aD hn]
  |i+1,hy,hn,h=>
   unfold eR;rw[aG (show f n x=0 from h 0 x (Nat.succ_pos _) rfl),ih (n:=n+1) (i:=i) hy (by rw[show n+1+i=n+(i+1) by omega];exact hn) fun j z hj hz=>by
    rw[show n+1+j=n+(j+1) by omega];exact h (j+1) z (by omega) hz]
   rw[show n+1+i=n+(i+1) by omega]
theorem IG {α:Type} {f:Nat->α->Int} {l:List α} {n:Nat} (h:∀j z,l[j]?=some z->f (n+j) z=0):eR f n l=none:=by
 induction l generalizing n with
 |nil=>rfl
 |cons x l ih=>
  unfold eR;rw[aG (show f n x=0 from h 0 x rfl)];exact ih fun j z hz=>by rw[show n+1+j=n+(j+1) by omega];exact h (j+1) z hz
theorem rA {α:Type} {f:Nat->α->Int} {l:List α} {n:Nat} (h:eR f n l=none):∀j z,l[j]?=some z->f (n+j) z=0:=by
 induction l generalizing n with
 |nil=>intro j z hz;cases hz
 |cons x l ih=>
  unfold eR at h;intro j z hz;by_cases h0:f n x=0
  ·rw[aG h0] at h
   match j,hz with
   |0,hz=>cases hz;exact h0
   |j+1,hz=>rw[show n+(j+1)=n+1+j by omega];exact ih h j z hz
  ·rw[aD h0] at h;cases h
def kR {α:Type} (f:Nat->α->Int) (l:List α):Int:=match eR f 0 l with
 |some (_,e)=>e
 |none=>0
theorem mU {α:Type} {f:Nat->α->Int} {l:List α} {i:Nat} {y:α} (hy:l[i]?=some y) (hn:f i y≠0) (h:∀j z,j<i->l[j]?=some z->f j z=0):kR f l=f i y:=by
 unfold kR;rw[II (n:=0) hy (by rw[bH];exact hn) fun j z hj hz=>by rw[bH];exact h j z hj hz,bH]
theorem mT {α:Type} {f:Nat->α->Int} {l:List α} (h:∀j z,l[j]?=some z->f j z=0):kR f l=0:=by
 unfold kR;rw[IG (n:=0) fun j z hz=>by rw[bH];exact h j z hz]
def ST (a b:Int):Int:=if a=0 then b else a
def dW (w:Bool) (e b:Int):Int:=if w then e else b
def XY:By:=[115,121,115,116,101,109]
def uR (n lo hi:Int):Bool:=decide (lo<=n)&&decide (n<=hi)
def kF (met:List By) (n:By) (b:Int):Int:=dW (!fP n||n==XY) 1 (dW (met.contains n) 6 b)
def mE (met:List By) (a:Ar):Int:=kF met a.name (dW (!uR a.pages 1 200) 7 0)
def dE (s:Sch):List By:=s.ar.map (·.name)
def gB (s:Sch):List By:=s.rc.map (·.name)
def sV (s:Sch):List By:=s.st.map (·.name)
def JO (r:Rc) (k:Nat) (n:By):Int:=dW (!(r.its.any (·.name==n))) 5 (dW ((r.keys.take k).contains n) 6 0)
def rT (r:Rc):Int:=if r.place=2 then dW (!uR r.keys.length 1 4) 11 (kR (JO r) r.keys) else dW (!r.keys.isEmpty||r.dups) 1 0
def GW (s:Sch) (r:Rc):Int:=if r.place=3 then dW (match s.st.find? (·.name==r.via) with|none=>true|some t=>!(t.ms.any (·.of==r.name))) 5 0 else dW (r.via !=[]) 1 0
section
variable (known : List Itm → Bool) (canon : By → Bool) (check : List Itm → By → Int)
def a0N (r:Rc):Int:=if r.check=[] then 0 else dW (!canon r.check) 2 (check r.its r.check)
def H0 (s:Sch) (met:List By) (r:Rc):Int:=kF met r.name (dW (!((dE s).contains r.area)) 5 (dW (!known r.its||!uR r.place 1 3) 1 (ST (rT r) (ST (GW s r) (a0N canon check r)))))
end
def iB (its:List Itm) (n:By):Int:=match its.find? (·.name==n) with
 |some x=>x.k
 |none=>0
def eQ (s:Sch) (n:By):Rc:=(s.rc.find? (·.name==n)).getD ⟨[],[],[],0,[],false,[],[]⟩
def F2 (o r:Rc) (k:Nat) (n:By):Int:=dW (!(r.its.any (·.name==n))) 5 (dW (iB r.its n !=iB o.its ((o.keys[k]?).getD [])) 10 0)
def S8 (s:Sch) (t:Sy) (m:Mb):Int:=if m.sel=[] then 0 else
 dW (t.owner==[]) 10 (dW ((eQ s t.owner).place !=2||(eQ s t.owner).dups) 10 (dW (m.sel.length !=(eQ s t.owner).keys.length) 11 (kR (F2 (eQ s t.owner) (eQ s m.of)) m.sel)))
def oX (s:Sch) (t:Sy) (k:Nat) (m:Mb):Int:=
 dW (!((gB s).contains m.of)) 5 (dW (((t.ms.take k).map (·.of)).contains m.of) 6 (dW (!uR m.keep 1 3) 1 (S8 s t m)))
def lD (s:Sch) (t:Sy) (k:Nat) (y:Ky):Int:=
 dW (!(t.ms.all fun m=>(eQ s m.of).its.any (·.name==y.item))) 5
  (dW (!(t.ms.all fun m=>iB (eQ s m.of).its y.item==iB (eQ s ((t.ms.head?.map (·.of)).getD [])).its y.item)) 10
   (dW (((t.keys.take k).map (·.item)).contains y.item) 6 0))
def xQ (s:Sch) (t:Sy):Int:=dW (!uR t.keys.length 1 4) 11 (ST (kR (lD s t) t.keys) (dW (!uR t.dups 1 3) 1 0))
def J0 (s:Sch) (met:List By) (t:Sy):Int:=
 kF met t.name (dW (t.owner !=[]&&!((gB s).contains t.owner)) 5 (dW (!uR t.ms.length 1 4) 11 (ST (kR (oX s t) t.ms)
  (dW (!uR t.order 1 5) 1 (ST (if t.order=5 then xQ s t else dW (!t.keys.isEmpty||t.dups !=0) 1 0)
   (dW (!uR t.mode 1 3) 1 (dW (t.mode==3&&t.order !=5) 10 0)))))))
def tY:By:=[97,114,101,97]
def l6:By:=[114,101,99,111,114,100]
def qM:By:=[115,101,116]
section
variable (known : List Itm → Bool) (canon : By → Bool) (check : List Itm → By → Int)
def HL (s:Sch):By×Nat×Int:=if s.st.length>60 then(qM,0,4) else
 match eR (fun i t=>J0 s (dE s++(gB s++(sV s).take i)) t) 0 s.st with
 |some (i,e)=>(qM,i,e)
 |none=>([],0,0)
def HN (s:Sch):By×Nat×Int:=if !uR s.rc.length 1 10 then(l6,0,4) else
 match eR (fun i r=>H0 known canon check s (dE s++(gB s).take i) r) 0 s.rc with
 |some (i,e)=>(l6,i,e)
 |none=>HL s
def Y5 (s:Sch):By×Nat×Int:=if !uR s.ar.length 1 6 then(tY,0,4) else
 match eR (fun i a=>mE ((dE s).take i) a) 0 s.ar with
 |some (i,e)=>(tY,i,e)
 |none=>HN known canon check s
end
theorem dT {w:Bool} {e b:Int} (h:dW w e b=0) (he:e≠0):w=false/\b=0:=by
 cases w with
 |false=>exact⟨rfl,h⟩
 |true=>exact absurd h he
theorem zQ {a b:Int} (h:ST a b=0):a=0/\b=0:=by
 unfold ST at h;by_cases ha:a=0
 ·rw[aG ha] at h;exact⟨ha,h⟩
 ·rw[aD ha] at h;exact absurd h ha
theorem yV {α:Type} {f:Nat->α->Int} {l:List α} (h:kR f l=0):∀j z,l[j]?=some z->f j z=0:=by
 unfold kR at h;cases hx:eR f 0 l with
 |none=>intro j z hz;have:=rA hx j z hz;rwa [bH] at this
 |some p=>
  obtain⟨i,e⟩:=p;rw[hx] at h;have aux:∀(l:List α) (n:Nat),eR f n l=some (i,e)->e≠0:=by
   intro l;induction l with
   |nil=>intro n h;cases h
   |cons x l ih=>
    intro n h;unfold eR at h;by_cases h0:f n x=0
    ·rw[aG h0] at h;exact ih _ h
    ·rw[aD h0] at h;cases h;exact h0
  exact absurd h (aux l 0 hx)
def L4 (known:List Itm->Bool) (r:Rc):Prop:=known r.its=true/\(r.place=2->∀n∈r.keys,r.its.any (·.name==n)=true)
theorem V7 {known:List Itm->Bool} {canon:By->Bool} {check:List Itm->By->Int} {s:Sch} {met:List By} {r:Rc} (h:H0 known canon check s met r=0):L4 known r:=by
 unfold H0 kF at h;obtain⟨-,h⟩:=dT h (by decide);obtain⟨-,h⟩:=dT h (by decide);obtain⟨-,h⟩:=dT h (by decide);obtain⟨hk,h⟩:=dT h (by decide);obtain⟨h1, -⟩:=zQ h;refine⟨by simpa using(Bool.or_eq_false_iff.1 hk).1,fun hp n hn=>?_⟩;unfold rT at h1;rw[aG hp] at h1;obtain⟨-,h1⟩:=dT h1 (by decide);obtain⟨j,hj⟩:=List.getElem?_of_mem hn;have h2:=yV h1 j n hj;unfold JO at h2;obtain⟨h2, -⟩:=dT h2 (by decide);simpa using h2
theorem SI {known:List Itm->Bool} {canon:By->Bool} {check:List Itm->By->Int} {s:Sch} {f:Nat->List By} (h:eR (fun i r=>H0 known canon check s (f i) r) 0 s.rc=none):∀r∈s.rc,L4 known r:=by
 intro r hr;obtain⟨j,hj⟩:=List.getElem?_of_mem hr;exact V7 (rA h j r hj)
theorem HO {s:Sch} {n:By} (h:(gB s).contains n=true):eQ s n∈s.rc/\s.rc.find? (·.name==n)=some (eQ s n):=by
 have:∃r,s.rc.find? (·.name==n)=some r:=by
  cases hf:s.rc.find? (·.name==n) with
  |some r=>exact⟨r,rfl⟩
  |none=>
   have h9:n∈gB s:=by simpa using h
   obtain⟨r,hr,e⟩:=List.mem_map.1 h9;have:=List.find?_eq_none.1 hf r hr;rw[e] at this;simp at this
 obtain⟨r,hr⟩:=this;have e:eQ s n=r:=by unfold eQ;rw[hr];rfl
 rw[e];exact⟨List.mem_of_find?_eq_some hr,hr⟩
theorem eK {α:Type} (f:α->By) (l:List α) (n:By):(l.map f).contains n=l.any (fun x=>f x==n):=by
 induction l with
 |nil=>rfl
 |cons x l ih=>rw[dU,List.contains_cons,List.any_cons,ih,Bool.beq_comm]
theorem pP {α:Type} (p:α->Bool) (l:List α):decide (0<=lW p l)=l.any p:=by
 rw[eJ,aK,List.any_eq_true];constructor
 ·intro h;obtain⟨i,y, -,hy,hp, -, -⟩:=GP h;exact⟨y,aL hy,hp⟩
 ·intro⟨y,hy,hp⟩;rcases Int.lt_or_le (lW p l) 0 with h9|h9
  ·rw[a2P.1 h9 y hy] at hp;cases hp
  ·exact h9
theorem nD {α:Type} (p:α->Bool) (l:List α):decide (lW p l<0)=!l.any p:=by
 rw[<-pP];by_cases h:lW p l<0
 ·rw[bM h,cE (by omega)];rfl
 ·rw[cE h,bM (by omega)];rfl
theorem JL (a b:List By) (n:By):(a++b).contains n=(a.contains n||b.contains n):=by
 induction a with
 |nil=>simp
 |cons x a ih=>rw[List.cons_append,List.contains_cons,List.contains_cons,ih,Bool.or_assoc]
theorem a2g (s:Sch) (i:Nat) (n:By):((dE s).take i).contains n=(s.ar.take i).any (fun x=>x.name==n):=by
 unfold dE;rw[<-List.map_take];exact eK _ _ _
theorem a2f (s:Sch) (i:Nat) (n:By):(dE s++(gB s).take i).contains n=(s.ar.any (fun x=>x.name==n)||(s.rc.take i).any (fun x=>x.name==n)):=by
 rw[JL];unfold dE gB;rw[<-List.map_take,eK,eK]
theorem a2e (s:Sch) (i:Nat) (n:By):(dE s++(gB s++(sV s).take i)).contains n=(s.ar.any (fun x=>x.name==n)||(s.rc.any (fun x=>x.name==n)||(s.st.take i).any (fun x=>x.name==n))):=by
 rw[JL,JL];unfold dE gB sV;rw[<-List.map_take,eK,eK,eK]
