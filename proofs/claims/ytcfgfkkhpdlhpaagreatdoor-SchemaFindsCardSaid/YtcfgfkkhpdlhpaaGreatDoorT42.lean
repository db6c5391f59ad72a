/-
  A part of the proof of SchemaFinds.
-/
import Derived.Test.YtcfgfkkhpdlhpaaGreatDoorT41
set_option linter.all false
set_option maxRecDepth 100000
namespace Go.Proofs.YtcfgfkkhpdlhpaaGreatDoor
open Go.RowKit
theorem WO [MaxL] (t:Term) (h:t.good):SC Tryz.prog 302 [.agg (VS t)] [] (.val (.s t.txt)) []:=by
 obtain⟨nm,vr,v⟩:=t;have h16:nm.length<=16:=by
  rcases h with⟨_,h2,_⟩|⟨h1,_⟩
  ·simp only at h2;cases nm with
   |nil=>simp
   |cons c u=>
    simp only[fV,aH,aL] at h2;exact h2.1.1
  ·simp only at h1;rw[h1];simp
 cases vr with
 |true=>
  have hn:nm≠[]:=by
   rcases h with⟨h1,_⟩|⟨_,h2,_⟩
   ·exact h1
   ·cases h2
  refine cZ Tryz.func302 rfl ?_;conv=>whnf
  refine aF (fun h1=>?_) (fun h1=>?_)<;>conv=>whnf
  ·refine⟨by show 1+nm.length<4611686018427387904;omega,58::nm,rfl,?_⟩;(conv=>whnf);exact gI rfl
  ·exact absurd (by simpa using h1) hn
 |false=>
  by_cases hn:nm=[]
  ·subst hn;have hv:v.ok=true:=by
    rcases h with⟨h1,_⟩|⟨_,_,h3⟩
    ·exact absurd rfl h1
    ·exact h3
   obtain⟨b0,b1,b2⟩:=IB hv;have hw:=TI v (by omega) (by omega) (by omega);have e:Term.txt ⟨[],false,v⟩=eV v:=by
    show(if v.ok=true then eV v else[])=_;rw[aG hv]
   rw[e];refine cZ Tryz.func302 rfl ?_;(conv=>whnf);refine bG hw (wR _) rfl (fun _=>rfl) (.s _) ?_;(conv=>whnf);exact gI rfl
  ·have e:Term.txt ⟨nm,false,v⟩=nm:=by
    show(if nm≠[] then nm else _)=_;rw[aG hn]
   rw[e];refine cZ Tryz.func302 rfl ?_;(conv=>whnf);refine aF (fun h1=>?_) (fun h1=>?_)<;>conv=>whnf
   ·exact gI rfl
   ·exact absurd (by simpa using h1) hn
theorem uU (t:Tree):t.flat.level=t.level:=by
 cases t with
 |pair b l r=>
  rw[L6 b];unfold dY;rw[aG rfl];obtain⟨x,y,e⟩:=zF b r (dY b none l);rw[e];rfl
 |_=>rfl
def kp (a:Bool) (y:Tree):By:=paren (decide (y.level<lD a)) y.flat.plain
def wj (a:Bool):List Tree->By
 |[]=>[]
 |x::xs=>xs.foldl (fun s y=>s++l9 a++kp a y) (kp a x)
theorem GK (a:Bool):∀(xs:List Tree) (q:Tree),¬q.level<lD a->(xs.foldl (fun q y=>Tree.pair a q y.flat) q).plain=xs.foldl (fun s y=>s++l9 a++kp a y) q.plain
 |[],q,_=>rfl
 |y::ys,q,h=>by
  rw[hZ,hZ,GK a ys (.pair a q y.flat) (by show¬lD a<lD a;omega)];congr 1;show paren (decide (q.level<lD a)) q.plain++l9 a++paren (decide (y.flat.level<lD a)) y.flat.plain=_;rw[cW h,uU];rfl
theorem ML (a:Bool) (l r:Tree):(Tree.pair a l r).flat.plain=wj a ((Tree.pair a l r).sides a):=by
 obtain⟨x,xs,h1,h2⟩:=IV a l r;rw[h1,h2];have hlen:2<=(x::xs).length:=by
  rw[<-h1];have e:(Tree.pair a l r).sides a=l.sides a++r.sides a:=aG rfl;rw[e,aD];have h1:=List.length_pos_iff.2 (qR a l);have h2:=List.length_pos_iff.2 (qR a r);omega
 cases xs with
 |nil=>simp at hlen
 |cons y ys=>
  rw[hZ,GK a ys (.pair a x.flat y.flat) (by show¬lD a<lD a;omega)];show _=ys.foldl _ (kp a x++l9 a++kp a y);congr 1;show paren (decide (x.flat.level<lD a)) x.flat.plain++l9 a++paren (decide (y.flat.level<lD a)) y.flat.plain=_;rw[uU,uU];rfl
theorem J7 {a:Bool} {L:List Tree} {i:Nat} {y:Tree} (h:L[i]?=some y):wj a (L.take (i+1))=(if i=0 then[] else wj a (L.take i)++l9 a)++kp a y:=by
 rw[bR,h];cases L with
 |nil=>cases h
 |cons x xs=>
  cases i with
  |zero=>simp at h;subst h;rfl
  |succ i=>
   rw[aE (by omega)];show wj a (x::xs.take i++[y])=wj a (x::xs.take i)++l9 a++kp a y;show(xs.take i++[y]).foldl _ _=_;rw[List.foldl_append];rfl
theorem SB (a:Bool):∀(xs:List Tree) (s:By),s.length<=(xs.foldl (fun s y=>s++l9 a++kp a y) s).length
 |[],s=>rL _
 |y::ys,s=>by
  have:=SB a ys (s++l9 a++kp a y);rw[hZ];simp only[aD] at this⊢;omega
theorem a2O (a:Bool) (L:List Tree) (i:Nat):(wj a (L.take i)).length<=(wj a L).length:=by
 cases L with
 |nil=>simp
 |cons x xs=>
  cases i with
  |zero=>simp[wj]
  |succ i=>
   have h1:wj a (x::xs)=(xs.drop i).foldl (fun s y=>s++l9 a++kp a y) (wj a (x::xs.take i)):=by
    show xs.foldl (fun s y=>s++l9 a++kp a y) (kp a x)=(xs.drop i).foldl _ ((xs.take i).foldl (fun s y=>s++l9 a++kp a y) (kp a x));rw[<-List.foldl_append,iM]
   rw[h1];exact SB a _ _
theorem a0t {a:Bool} {L:List Tree} {i:Nat} {y:Tree} (h:L[i]?=some y):(wj a (L.take i)).length+(if i=0 then 0 else(l9 a).length)+(kp a y).length<=(wj a L).length:=by
 have h1:=a2O a L (i+1);rw[J7 h] at h1;split at h1
 ·rename_i h0;subst h0;rw[aG rfl];simp only[List.take_zero,wj,b5,List.nil_append] at h1⊢;omega
 ·rename_i h0;rw[aE h0];simp only[aD] at h1;omega
set_option maxHeartbeats 1000000 in
theorem WN [MaxL] (L:List Tree) (hL:L.length<=100000) (hb:(wj true L).length<1000000) (hc:∀y∈L,SC Tryz.prog 263 [y.ng] [] (.val (.s y.flat.plain)) []):
  SC Tryz.prog 263 [.agg (k9 2 (k8 L) t0 t0 [] false)] [] (.val (.s (wj true L))) []:=by
 have hnl:(k8 L).length=L.length:=eX L;refine cZ Tryz.func263 rfl ?_;conv=>whnf
 refine fI (fun q:Nat×By=>q.1<=L.length/\wj true (L.take q.1)=q.2) (fun q=>[(1,.ptr 0 0),(4,.s q.2),(5,.i .i64 (q.1:Nat))]) (fun _=>⟨[.box 211 (k9 2 (k8 L) t0 t0 [] false)],0,[]⟩) (fun q=>L.length - q.1) (0,[]) ⟨zL _,rfl⟩ ⟨rfl,rfl,rfl,trivial⟩ rfl (fun _ _=>rL _) (fun q _=>rfl) (fun q _ e he=>?_) (fun q φ0 hi=>?_)
 ·refine⟨?_,rfl,?_⟩
  ·show[(GObj.box _ (k9 2 (k8 L) t0 t0 [] false)).ren e]=_;rw[eM (jO (r7 L) t0 t0 [] false) e]
  ·show[GV.ptr (e 0) 0,_,_]=_;rw[he 0 (by simp)];rfl
 obtain⟨i,S⟩:=q;obtain⟨hi,hSd⟩:=hi;replace hi:i<=L.length:=hi;replace hSd:wj true (L.take i)=S:=hSd;conv=>whnf
 refine aF (fun h=>?_) (fun h=>?_)<;>conv=>whnf
 rotate_left
 ·have hie:i=L.length:=by have:=aB h;rw[hnl] at this;omega
  refine gI ?_;rw[hie,b7] at hSd;exact hSd.symm
 have hlt:i<L.length:=by have:=aA h;rw[hnl] at this;omega
 obtain⟨y,hy⟩:∃y,L[i]?=some y:=⟨L[i],gL hlt⟩;have hgy:(k8 L)[i]?=some (.agg y.ncs):=by unfold k8;rw[aM,hy];rfl
 have hcy:=hc y (aK hy);have hcl:Cl (.agg y.ncs):=y.ng_cl;have hsucc:=J7 (a:=true) hy;have hkp:=a0t (a:=true) hy;replace hcy:SC Tryz.prog 263 [.agg y.ncs] [] (.val (.s y.flat.plain)) []:=hcy;have hform:∃k kids A B op yes,y.ncs=k9 k kids A B op yes/\(k=1->kp true y=40::(y.flat.plain++[41]))/\(k≠1->kp true y=y.flat.plain):=by
  cases y with
  |pair b l r=>
   refine⟨_,_,_,_,_,_,tP b l r,fun h=>?_,fun h=>?_⟩
   ·cases b with
    |true=>cases h
    |false=>rfl
   ·cases b with
    |true=>rfl
    |false=>exact absurd rfl h
  |no t=>exact⟨_,_,_,_,_,_,WW t,(fun h=>absurd h (by decide)),(fun h=>rfl)⟩
  |test op l r=>exact⟨_,_,_,_,_,_,MS op l r,(fun h=>absurd h (by decide)),(fun h=>rfl)⟩
  |truth b=>exact⟨_,_,_,_,_,_,II b,(fun h=>absurd h (by decide)),(fun h=>rfl)⟩
 obtain⟨k,kids,A,B,op,yes,hncs,hk1,hk2⟩:=hform;rw[hncs] at hgy hcy hcl;generalize kp true y=K at*;generalize y.flat.plain=X at*;rw[hSd] at hsucc hkp;clear hncs hy;refine aF (fun hi0=>?_) (fun hi0=>?_)<;>conv=>whnf
 ·have hi0':i≠0:=by have:=aA hi0;omega
  rw[aE hi0'] at hsucc hkp;have e5:(l9 true).length=5:=rfl;refine⟨by show S.length+5<4611686018427387904;omega,S++l9 true,rfl,?_⟩;conv=>whnf
  refine aF (fun hi1=>?_) (fun hi1=>?_)<;>conv=>whnf
  rotate_left
  ·rw[hi0] at hi1;cases hi1
  refine⟨cN _,.agg (k9 k kids A B op yes),by rw[aC];exact hgy,rfl,?_⟩;conv=>whnf
  refine aF (fun hk=>?_) (fun hk=>?_)<;>conv=>whnf
  ·skip;have h9:(k:Int)=1:=by simpa using hk
   have hK:=hk1 (by omega);rw[hK] at hsucc hkp;refine⟨by show(S++l9 true).length+(([40]:By)).length<4611686018427387904;simp only[aD,aJ,b5] at*;omega,S++l9 true++([40]:By),rfl,?_⟩;(conv=>whnf);refine⟨cN _,.agg (k9 k kids A B op yes),by rw[aC];exact hgy,rfl,?_⟩;(conv=>whnf);refine bG hcy (wR _) rfl (cC hcl .nil) (.s _) ?_;(conv=>whnf);refine⟨by show(S++l9 true++([40]:By)).length+(X).length<4611686018427387904;simp only[aD,aJ,b5] at*;omega,S++l9 true++([40]:By)++X,rfl,?_⟩;(conv=>whnf);refine⟨by show(S++l9 true++([40]:By)++X).length+(([41]:By)).length<4611686018427387904;simp only[aD,aJ,b5] at*;omega,S++l9 true++([40]:By)++X++([41]:By),rfl,?_⟩;(conv=>whnf);have hfin:wj true (L.take (i+1))=S++l9 true++([40]:By)++X++([41]:By):=by rw[hsucc];simp
   exact⟨L.length - (i+1),(by show _<L.length - i;omega),(i+1,_),⟨hlt,hfin⟩,rfl,⟨rfl,rfl,b8 (by omega),trivial⟩,[],rfl,rfl⟩
  ·skip;have h9:¬(k:Int)=1:=by simpa using hk
   have hK:=hk2 (by omega);rw[hK] at hsucc hkp;refine⟨cN _,.agg (k9 k kids A B op yes),by rw[aC];exact hgy,rfl,?_⟩;(conv=>whnf);refine bG hcy (wR _) rfl (cC hcl .nil) (.s _) ?_;(conv=>whnf);refine⟨by show(S++l9 true).length+(X).length<4611686018427387904;simp only[aD,aJ,b5] at*;omega,S++l9 true++X,rfl,?_⟩;(conv=>whnf);have hfin:wj true (L.take (i+1))=S++l9 true++X:=by rw[hsucc]
   exact⟨L.length - (i+1),(by show _<L.length - i;omega),(i+1,_),⟨hlt,hfin⟩,rfl,⟨rfl,rfl,b8 (by omega),trivial⟩,[],rfl,rfl⟩
 ·have hi0':i=0:=by have:=aB hi0;omega
  rw[aG hi0'] at hsucc hkp;have hS:S=[]:=by rw[<-hSd,hi0'];rfl
  rw[List.nil_append] at hsucc;refine aF (fun hi1=>?_) (fun hi1=>?_)<;>conv=>whnf
  ·rw[hi0] at hi1;cases hi1
  refine⟨cN _,.agg (k9 k kids A B op yes),by rw[aC];exact hgy,rfl,?_⟩;conv=>whnf
  refine aF (fun hk=>?_) (fun hk=>?_)<;>conv=>whnf
  ·skip;have h9:(k:Int)=1:=by simpa using hk
   have hK:=hk1 (by omega);rw[hK] at hsucc hkp;refine⟨by show(S).length+(([40]:By)).length<4611686018427387904;simp only[aD,aJ,b5] at*;omega,S++([40]:By),rfl,?_⟩;(conv=>whnf);refine⟨cN _,.agg (k9 k kids A B op yes),by rw[aC];exact hgy,rfl,?_⟩;(conv=>whnf);refine bG hcy (wR _) rfl (cC hcl .nil) (.s _) ?_;(conv=>whnf);refine⟨by show(S++([40]:By)).length+(X).length<4611686018427387904;simp only[aD,aJ,b5] at*;omega,S++([40]:By)++X,rfl,?_⟩;(conv=>whnf);refine⟨by show(S++([40]:By)++X).length+(([41]:By)).length<4611686018427387904;simp only[aD,aJ,b5] at*;omega,S++([40]:By)++X++([41]:By),rfl,?_⟩;(conv=>whnf);have hfin:wj true (L.take (i+1))=S++([40]:By)++X++([41]:By):=by rw[hsucc];rw[hS];rfl
   exact⟨L.length - (i+1),(by show _<L.length - i;omega),(i+1,_),⟨hlt,hfin⟩,rfl,⟨rfl,rfl,b8 (by omega),trivial⟩,[],rfl,rfl⟩
  ·skip;have h9:¬(k:Int)=1:=by simpa using hk
   have hK:=hk2 (by omega);rw[hK] at hsucc hkp;refine⟨cN _,.agg (k9 k kids A B op yes),by rw[aC];exact hgy,rfl,?_⟩;(conv=>whnf);refine bG hcy (wR _) rfl (cC hcl .nil) (.s _) ?_;(conv=>whnf);refine⟨by show(S).length+(X).length<4611686018427387904;simp only[aD,aJ,b5] at*;omega,S++X,rfl,?_⟩;(conv=>whnf);have hfin:wj true (L.take (i+1))=S++X:=by rw[hsucc];rw[hS];rfl
   exact⟨L.length - (i+1),(by show _<L.length - i;omega),(i+1,_),⟨hlt,hfin⟩,rfl,⟨rfl,rfl,b8 (by omega),trivial⟩,[],rfl,rfl⟩
set_option maxHeartbeats 1000000 in
theorem ZO [MaxL] (L:List Tree) (hL:L.length<=100000) (hb:(wj false L).length<1000000) (hc:∀y∈L,SC Tryz.prog 263 [y.ng] [] (.val (.s y.flat.plain)) []):
  SC Tryz.prog 263 [.agg (k9 1 (k8 L) t0 t0 [] false)] [] (.val (.s (wj false L))) []:=by
 have hnl:(k8 L).length=L.length:=eX L;refine cZ Tryz.func263 rfl ?_;conv=>whnf
 refine fI (fun q:Nat×By=>q.1<=L.length/\wj false (L.take q.1)=q.2) (fun q=>[(1,.ptr 0 0),(4,.s q.2),(5,.i .i64 (q.1:Nat))]) (fun _=>⟨[.box 211 (k9 1 (k8 L) t0 t0 [] false)],0,[]⟩) (fun q=>L.length - q.1) (0,[]) ⟨zL _,rfl⟩ ⟨rfl,rfl,rfl,trivial⟩ rfl (fun _ _=>rL _) (fun q _=>rfl) (fun q _ e he=>?_) (fun q φ0 hi=>?_)
 ·refine⟨?_,rfl,?_⟩
  ·show[(GObj.box _ (k9 1 (k8 L) t0 t0 [] false)).ren e]=_;rw[eM (jO (r7 L) t0 t0 [] false) e]
  ·show[GV.ptr (e 0) 0,_,_]=_;rw[he 0 (by simp)];rfl
 obtain⟨i,S⟩:=q;obtain⟨hi,hSd⟩:=hi;replace hi:i<=L.length:=hi;replace hSd:wj false (L.take i)=S:=hSd;conv=>whnf
 refine aF (fun h=>?_) (fun h=>?_)<;>conv=>whnf
 rotate_left
 ·have hie:i=L.length:=by have:=aB h;rw[hnl] at this;omega
  refine gI ?_;rw[hie,b7] at hSd;exact hSd.symm
 have hlt:i<L.length:=by have:=aA h;rw[hnl] at this;omega
 obtain⟨y,hy⟩:∃y,L[i]?=some y:=⟨L[i],gL hlt⟩;have hgy:(k8 L)[i]?=some (.agg y.ncs):=by unfold k8;rw[aM,hy];rfl
 have hcy:=hc y (aK hy);have hcl:Cl (.agg y.ncs):=y.ng_cl;have hsucc:=J7 (a:=false) hy;have hkp:=a0t (a:=false) hy;replace hcy:SC Tryz.prog 263 [.agg y.ncs] [] (.val (.s y.flat.plain)) []:=hcy;have hK:kp false y=y.flat.plain:=by
  unfold kp paren;rw[aE];have:=qJ y;show¬decide (y.level<1)=true;simp;omega
 obtain⟨k,kids,A,B,op,yes,hng⟩:=iW y;have hncs:y.ncs=k9 k kids A B op yes:=by
  have h9:GV.agg y.ncs=GV.agg (k9 k kids A B op yes):=hng;injection h9
 rw[hncs] at hgy hcy hcl;rw[hK] at hsucc hkp;clear hK hng;generalize y.flat.plain=X at*;rw[hSd] at hsucc hkp;clear hncs hy;refine aF (fun hi0=>?_) (fun hi0=>?_)<;>conv=>whnf
 ·have hi0':i≠0:=by have:=aA hi0;omega
  rw[aE hi0'] at hsucc hkp;have e5:(l9 false).length=4:=rfl;refine aF (fun hi1=>?_) (fun hi1=>?_)<;>conv=>whnf
  rotate_left
  ·rw[hi0] at hi1;cases hi1
  refine⟨by show(S).length+(l9 false).length<4611686018427387904;simp only[aD] at*;omega,S++l9 false,rfl,?_⟩;conv=>whnf
  refine⟨cN _,.agg (k9 k kids A B op yes),by rw[aC];exact hgy,rfl,?_⟩;conv=>whnf
  refine bG hcy (wR _) rfl (cC hcl .nil) (.s _) ?_;conv=>whnf
  refine⟨by show(S++l9 false).length+(X).length<4611686018427387904;simp only[aD] at*;omega,S++l9 false++X,rfl,?_⟩;conv=>whnf
  exact⟨L.length - (i+1),(by show _<L.length - i;omega),(i+1,_),⟨hlt,hsucc⟩,rfl,⟨rfl,rfl,b8 (by omega),trivial⟩,[],rfl,rfl⟩
 ·have hi0':i=0:=by have:=aB hi0;omega
  rw[aG hi0'] at hsucc hkp;have hS:S=[]:=by rw[<-hSd,hi0'];rfl
  rw[List.nil_append] at hsucc;refine aF (fun hi1=>?_) (fun hi1=>?_)<;>conv=>whnf
  ·rw[hi0] at hi1;cases hi1
  refine⟨cN _,.agg (k9 k kids A B op yes),by rw[aC];exact hgy,rfl,?_⟩;conv=>whnf
  refine bG hcy (wR _) rfl (cC hcl .nil) (.s _) ?_;conv=>whnf
  refine⟨by show(S).length+(X).length<4611686018427387904;omega,S++X,rfl,?_⟩;conv=>whnf
  have hfin:wj false (L.take (i+1))=S++X:=by rw[hsucc,hS];rfl
  exact⟨L.length - (i+1),(by show _<L.length - i;omega),(i+1,_),⟨hlt,hfin⟩,rfl,⟨rfl,rfl,b8 (by omega),trivial⟩,[],rfl,rfl⟩
theorem ZP [MaxL] (t:Tree) (hb:t.flat.plain.length<1000000) (hc:SC Tryz.prog 263 [t.ng] [] (.val (.s t.flat.plain)) []):
  SC Tryz.prog 263 [.agg (k9 3 [t.ng] t0 t0 [] false)] [] (.val (.s (kC++[32]++paren (decide (t.level<4)) t.flat.plain))) []:=by
 have hcl:=t.ng_cl;generalize t.flat.plain=X at*;cases t with
 |pair b l r=>
  rw[show(Tree.pair b l r).ng=.agg (k9 (lD b) (k8 ((Tree.pair b l r).sides b)) t0 t0 [] false) by show GV.agg _=_;rw[tP]] at hc hcl⊢;generalize k8 ((Tree.pair b l r).sides b)=kids at*;have e:paren (decide ((Tree.pair b l r).level<4)) X=40::(X++[41]):=by cases b<;>rfl
  rw[e];cases b with
  |true=>
   refine cZ Tryz.func263 rfl ?_;(conv=>whnf);refine⟨dN 0,.agg (k9 (lD true) kids t0 t0 [] false),rfl,rfl,?_⟩;(conv=>whnf);refine⟨_,⟨rfl,zL _,rfl,bL rfl⟩,?_⟩;(conv=>whnf);refine bG hc (wR _) rfl (cC hcl .nil) (.s _) ?_;(conv=>whnf);refine⟨by show 5+X.length<4611686018427387904;omega,kC++[32,40]++X,rfl,?_⟩;(conv=>whnf);refine⟨by show(kC++[32,40]++X).length+1<4611686018427387904;simp only[aD] at*;show 3+2+X.length+1<_;omega,kC++[32,40]++X++[41],rfl,?_⟩;(conv=>whnf);exact gI (by show kC++[32,40]++X++[41]=kC++[32]++40::(X++[41]);simp)
  |false=>
   refine cZ Tryz.func263 rfl ?_;(conv=>whnf);refine⟨dN 0,.agg (k9 (lD false) kids t0 t0 [] false),rfl,rfl,?_⟩;(conv=>whnf);refine⟨_,⟨rfl,zL _,rfl,bL rfl⟩,?_⟩;(conv=>whnf);refine bG hc (wR _) rfl (cC hcl .nil) (.s _) ?_;(conv=>whnf);refine⟨by show 5+X.length<4611686018427387904;omega,kC++[32,40]++X,rfl,?_⟩;(conv=>whnf);refine⟨by show(kC++[32,40]++X).length+1<4611686018427387904;simp only[aD] at*;show 3+2+X.length+1<_;omega,kC++[32,40]++X++[41],rfl,?_⟩;(conv=>whnf);exact gI (by show kC++[32,40]++X++[41]=kC++[32]++40::(X++[41]);simp)
 |no t=>
  have e:paren (decide ((Tree.no t).level<4)) X=40::(X++[41]):=rfl;rw[e];rw[show(Tree.no t).ng=.agg (k9 3 [t.ng] t0 t0 [] false) from rfl] at hc hcl⊢;refine cZ Tryz.func263 rfl ?_;conv=>whnf
  refine⟨dN 0,.agg (k9 3 [t.ng] t0 t0 [] false),rfl,rfl,?_⟩;conv=>whnf
  refine⟨_,⟨rfl,zL _,rfl,bL rfl⟩,?_⟩;conv=>whnf
  refine bG hc (wR _) rfl (cC hcl .nil) (.s _) ?_;conv=>whnf
  refine⟨by show 5+X.length<4611686018427387904;omega,kC++[32,40]++X,rfl,?_⟩;conv=>whnf
  refine⟨by show(kC++[32,40]++X).length+1<4611686018427387904;simp only[aD] at*;show 3+2+X.length+1<_;omega,kC++[32,40]++X++[41],rfl,?_⟩;conv=>whnf
  exact gI (by show kC++[32,40]++X++[41]=kC++[32]++40::(X++[41]);simp)
 |test op l r=>
  rw[show(Tree.test op l r).ng=.agg (k9 4 [] l r op false) from rfl] at hc hcl⊢;refine cZ Tryz.func263 rfl ?_;conv=>whnf
  refine⟨dN 0,.agg (k9 4 [] l r op false),rfl,rfl,?_⟩;conv=>whnf
  refine⟨_,⟨rfl,zL _,rfl,bL rfl⟩,?_⟩;conv=>whnf
  refine bG hc (wR _) rfl (cC hcl .nil) (.s _) ?_;conv=>whnf
  refine⟨by show 4+X.length<4611686018427387904;omega,kC++[32]++X,rfl,?_⟩;conv=>whnf
  exact gI rfl
 |truth b=>
  rw[show(Tree.truth b).ng=.agg (k9 5 [] t0 t0 [] b) from rfl] at hc hcl⊢;refine cZ Tryz.func263 rfl ?_;conv=>whnf
  refine⟨dN 0,.agg (k9 5 [] t0 t0 [] b),rfl,rfl,?_⟩;conv=>whnf
  refine⟨_,⟨rfl,zL _,rfl,bL rfl⟩,?_⟩;conv=>whnf
  refine bG hc (wR _) rfl (cC hcl .nil) (.s _) ?_;conv=>whnf
  refine⟨by show 4+X.length<4611686018427387904;omega,kC++[32]++X,rfl,?_⟩;conv=>whnf
  exact gI rfl
theorem TJ [MaxL] (op:By) (l r:Term) (ho:op.length<=2) (hl:l.good) (hr:r.good) (hl1:l.txt.length<=200) (hr1:r.txt.length<=200):
  SC Tryz.prog 263 [.agg (k9 4 [] l r op false)] [] (.val (.s (l.txt++[32]++op++[32]++r.txt))) []:=by
 have s1:=WO l hl;have s2:=WO r hr;generalize l.txt=x1 at*;generalize r.txt=x2 at*;refine cZ Tryz.func263 rfl ?_;conv=>whnf
 refine b9 (by kernel_rfl) ?_;conv=>whnf
 refine bG s1 (wR _) rfl (cC (eO (B7 l)) .nil) (.s _) ?_;conv=>whnf
 refine⟨by show x1.length+1<4611686018427387904;omega,x1++[32],rfl,?_⟩;conv=>whnf
 refine⟨by show(x1++[32]).length+op.length<4611686018427387904;rw[aD];show x1.length+1+op.length<_;omega,x1++[32]++op,rfl,?_⟩;conv=>whnf
 refine⟨by show(x1++[32]++op).length+1<4611686018427387904;rw[aD,aD];show x1.length+1+op.length+1<_;omega,x1++[32]++op++[32],rfl,?_⟩;conv=>whnf
 refine bG s2 (wR _) rfl (cC (eO (B7 r)) .nil) (.s _) ?_;conv=>whnf
 refine⟨by show(x1++[32]++op++[32]).length+x2.length<4611686018427387904;rw[aD,aD,aD];show x1.length+1+op.length+1+x2.length<_;omega,x1++[32]++op++[32]++x2,rfl,?_⟩;conv=>whnf
 exact gI rfl
theorem P4 [MaxL] (b:Bool):SC Tryz.prog 263 [.agg (k9 5 [] t0 t0 [] b)] [] (.val (.s (if b then l8 else jU))) []:=by
 cases b with
 |true=>
  refine cZ Tryz.func263 rfl ?_;conv=>whnf
  exact gI rfl
 |false=>
  refine cZ Tryz.func263 rfl ?_;conv=>whnf
  exact gI rfl
theorem zA {a:Bool}:∀{t x:Tree},t.good->x∈t.sides a->x.good
 |.pair b l r,x,h,hx=>by
  unfold Tree.sides at hx;split at hx
  ·rcases List.mem_append.1 hx with hx|hx
   ·exact zA h.1 hx
   ·exact zA h.2 hx
  ·simp at hx;subst hx;exact h
 |.no t,x,h,hx=>by simp[Tree.sides] at hx;subst hx;exact h
 |.test _ _ _,x,h,hx=>by simp[Tree.sides] at hx;subst hx;exact h
 |.truth _,x,h,hx=>by simp[Tree.sides] at hx;subst hx;exact h
theorem DL {t:Term} (h:t.good):t.name.length<=16/\t.txt.length<=180:=by
 obtain⟨nm,vr,v⟩:=t;rcases h with⟨h1,h2,_⟩|⟨h1,h2,h3⟩
 ·simp only at h1 h2;have h16:nm.length<=16:=by
   cases nm with
   |nil=>simp
   |cons c u=>
    simp only[fV,aH,aL] at h2;exact h2.1.1
  refine⟨h16,?_⟩;cases vr with
  |true=>show(58::nm).length<=180;simp;omega
  |false=>show(if nm≠[] then nm else _).length<=180;rw[aG h1];omega
 ·simp only at h1 h2 h3;subst h1;subst h2;refine⟨zL _,?_⟩;show(if v.ok=true then eV v else[]).length<=180;rw[aG h3];have:=CD h3;omega
theorem K0 {t:Tree}:t.good->t.nice:=by
 induction t with
 |pair a l r i1 i2=>exact fun h=>⟨i1 h.1,i2 h.2⟩
 |no t i=>exact fun h=>i h
 |test op l r=>exact fun h=>⟨B9 h.1,DL h.2.1,DL h.2.2⟩
 |truth b=>exact fun _=>trivial
theorem yV [MaxL]:∀(n:Nat) (t:Tree),t.size<=n->t.size<=2100->t.good->SC Tryz.prog 263 [t.ng] [] (.val (.s t.flat.plain)) []
 |0,t,h,_,_=>by cases t<;>simp[Tree.size] at h
 |n+1,t,h,h2,hg=>by
  have hb:t.flat.plain.length<1000000:=by
   have:=qY t.flat (u7 (K0 hg));rw[qN] at this;omega
  cases t with
  |truth b=>exact P4 b
  |test op l r=>
   have:=TJ op l r (B9 hg.1) hg.2.1 hg.2.2 (by have:=(DL hg.2.1).2;omega) (by have:=(DL hg.2.2).2;omega);exact this
  |no t=>
   simp only[Tree.size] at h h2;have e:(Tree.no t).flat.plain=kC++[32]++paren (decide (t.level<4)) t.flat.plain:=by
    show kC++[32]++paren (decide (t.flat.level<4)) t.flat.plain=_;rw[uU]
   rw[e] at hb⊢;have hb2:t.flat.plain.length<1000000:=by
    have:=qY t.flat (u7 (K0 (show t.good from hg)));rw[qN] at this;omega
   exact ZP t hb2 (yV n t (by omega) (by omega) hg)
  |pair a l r=>
   have hs:=@mT a (Tree.pair a l r);have hk:∀y∈(Tree.pair a l r).sides a,SC Tryz.prog 263 [y.ng] [] (.val (.s y.flat.plain)) []:=fun y hy=>by
    have:=ES hy;exact yV n y (by omega) (by omega) (zA hg hy)
   rw[ML] at hb⊢;rw[show(Tree.pair a l r).ng=.agg (k9 (lD a) (k8 ((Tree.pair a l r).sides a)) t0 t0 [] false) by show GV.agg _=_;rw[tP]];cases a with
   |true=>exact WN _ (by omega) hb hk
   |false=>exact ZO _ (by omega) hb hk
theorem QL:∀(n:Nat) (l:List UInt8),l.length<=n->∀w∈iO l,w.length<=l.length
 |0,l,h,w,hw=>by
  have:l=[]:=aN (by omega);subst this;rw[kM rfl] at hw;cases hw
 |n+1,l,h,w,hw=>by
  cases hk:skip l with
  |nil=>rw[kM hk] at hw;cases hw
  |cons c t=>
   rw[mS hk] at hw;have h1:=zO l;rw[hk] at h1;have h2:=nB c t;simp only[aJ] at h1;rcases List.mem_cons.1 hw with rfl|hw
   ·unfold H6;rw[bN];simp only[aJ];omega
   ·have:=QL n ((c::t).drop (lQ (c::t))) (by simp;omega) w hw;simp at this;omega
def tN:GV:=.agg (k9 0 [] t0 t0 [] false)
def lJ (s:By):GV:=match lM s with
 |.ok t=>.tup [t.ng,.i .i64 0]
 |.err e=>.tup [tN,.i .i64 e]
theorem tM [MaxL]:Cl tN:=eO (jO dM t0 t0 [] false)
theorem BB [MaxL] (s:By):Cl (lJ s):=by
 unfold lJ;split
 ·exact fJ (.cons (Tree.ng_cl _) (.cons (.i _ _) .nil))
 ·exact fJ (.cons tM (.cons (.i _ _) .nil))
theorem P5 [MaxL] (s:By) (hs:s.length<1000000):SC Tryz.prog 190 [.s s] [] (.val (lJ s)) []:=by
 by_cases hl:1000<s.length
 ·have e:lJ s=.tup [tN,.i .i64 3]:=by unfold lJ lM;rw[aG hl]
  rw[e];refine cZ Tryz.func190 rfl ?_;conv=>whnf
  refine aF (fun h=>?_) (fun h=>?_)<;>conv=>whnf
  ·skip;refine⟨_,⟨rfl,zL _,rfl,bL rfl⟩,?_⟩;(conv=>whnf);exact bA (sX iB (.refl _)) (fJ (.cons tM (.cons (.i _ _) .nil)))
  ·exfalso;have:=aB h;omega
 ·have hsp:=ZL s hs;cases hss:B4 s with
  |none=>
   rw[hss] at hsp;have e:lJ s=.tup [tN,.i .i64 2]:=by unfold lJ lM;rw[aE hl,hss]
   rw[e];replace hsp:SC Tryz.prog 230 [.s s] [] (.val (.tup [.sl .none [],.b false])) []:=hsp;refine cZ Tryz.func190 rfl ?_;(conv=>whnf);refine aF (fun h=>?_) (fun h=>?_)<;>conv=>whnf
   ·exfalso;have:=aA h;omega
   refine bG hsp (wR _) rfl (fun _=>rfl) (fun _=>rfl) ?_;(conv=>whnf);refine⟨_,⟨rfl,zL _,rfl,bL rfl⟩,?_⟩;(conv=>whnf);exact bA (sX iB (.refl _)) (fJ (.cons tM (.cons (.i _ _) .nil)))
  |some ws=>
   rw[hss] at hsp;replace hsp:SC Tryz.prog 230 [.s s] [] (.val (.tup [.sl .none (aZ ws),.b true])) []:=hsp;have ht:=w6 _ _ _ hss;have hwl:=sZ s.length s (rL _);rw[ht] at hwl;have hx:∀w∈ws,w.length<1000000:=fun w hw=>by
    have:=QL s.length s (rL _) w (by rw[ht];exact hw);omega
   have h4:=(a2t ws (by omega) hx (jY s) 0 0 0 (zL _) (by omega)).1 (by unfold jY;omega);rw[List.drop_zero] at h4;have hcl0:Cl (.tup [.sl .none (aZ ws),.b true]):=fJ (.cons (bV (uM ws)) (.cons (.b _) .nil));cases hp:bP iJ (jY s) .or 0 0 ws with
   |none=>
    rw[hp] at h4;obtain⟨t,a',l',b1,b2,b3,hc⟩:=h4;have e:lJ s=.tup [tN,.i .i64 2]:=by unfold lJ lM;rw[aE hl,hss];simp only;rw[hp]
    rw[e];have hcl:=t.ng_cl;obtain⟨k,kids,A,B,op,yes,hng⟩:=iW t;rw[hng] at hc hcl;refine cZ Tryz.func190 rfl ?_;(conv=>whnf);refine aF (fun h=>?_) (fun h=>?_)<;>conv=>whnf
    ·exfalso;have:=aA h;omega
    refine bG hsp (wR _) rfl (fun _=>rfl) hcl0 ?_;(conv=>whnf);refine aW (q:=1) hc rfl (wR _) rfl rfl bO bO (fun _=>rfl) hcl ?_;(conv=>whnf);refine⟨_,⟨rfl,zL _,rfl,bL rfl⟩,?_⟩;(conv=>whnf);refine⟨_,⟨rfl,zL _,rfl,bL rfl⟩,?_⟩;(conv=>whnf);exact bA (sX iB (.refl _)) (fJ (.cons tM (.cons (.i _ _) .nil)))
   |some p=>
    obtain⟨t,r,e⟩:=p;rw[hp] at h4;obtain⟨a',b1,b2,hr,b3,hc⟩:=h4;have hcl:=t.ng_cl;obtain⟨k,kids,A,B,op,yes,hng⟩:=iW t;have hsl:=aP ws;by_cases hlt:a'<ws.length
    ·have e:lJ s=.tup [tN,.i .i64 2]:=by
      unfold lJ lM;rw[aE hl,hss];simp only;rw[hp];simp only;rw[aE (by intro h;rw[h] at hr;have:=aQ List.length hr;simp at this;omega)]
     rw[e];rw[hng] at hc hcl;refine cZ Tryz.func190 rfl ?_;(conv=>whnf);refine aF (fun h=>?_) (fun h=>?_)<;>conv=>whnf
     ·exfalso;have:=aA h;omega
     refine bG hsp (wR _) rfl (fun _=>rfl) hcl0 ?_;(conv=>whnf);refine aW (q:=1) hc rfl (wR _) rfl rfl bO bO (fun _=>rfl) hcl ?_;(conv=>whnf);refine⟨_,⟨rfl,zL _,rfl,bL rfl⟩,?_⟩;(conv=>whnf);refine aF (fun h2=>?_) (fun h2=>?_)<;>conv=>whnf
     ·skip;refine⟨_,⟨rfl,zL _,rfl,bL rfl⟩,?_⟩;(conv=>whnf);exact bA (sX iB (.refl _)) (fJ (.cons tM (.cons (.i _ _) .nil)))
     ·exfalso;have:=aB h2;omega
    ·have hr0:r=[]:=by rw[hr];exact List.drop_eq_nil_of_le (by omega)
     by_cases h20:20<e
     ·have e:lJ s=.tup [tN,.i .i64 4]:=by
       unfold lJ lM;rw[aE hl,hss];simp only;rw[hp];simp only;rw[aG hr0,aG h20]
      rw[e];rw[hng] at hc hcl;rw[bS h20] at hc;refine cZ Tryz.func190 rfl ?_;(conv=>whnf);refine aF (fun h=>?_) (fun h=>?_)<;>conv=>whnf
      ·exfalso;have:=aA h;omega
      refine bG hsp (wR _) rfl (fun _=>rfl) hcl0 ?_;(conv=>whnf);refine aW (q:=1) hc rfl (wR _) rfl rfl bO bO (fun _=>rfl) hcl ?_;(conv=>whnf);refine⟨_,⟨rfl,zL _,rfl,bL rfl⟩,?_⟩;(conv=>whnf);refine aF (fun h2=>?_) (fun h2=>?_)<;>conv=>whnf
      ·exfalso;have:=aA h2;omega
      ·skip;refine⟨_,⟨rfl,zL _,rfl,bL rfl⟩,?_⟩;(conv=>whnf);exact bA (sX iB (.refl _)) (fJ (.cons tM (.cons (.i _ _) .nil)))
     ·have e:lJ s=.tup [t.ng,.i .i64 0]:=by
       unfold lJ lM;rw[aE hl,hss];simp only;rw[hp];simp only;rw[aG hr0,aE h20]
      rw[e];rw[hng] at hc hcl⊢;rw[cW h20] at hc;refine cZ Tryz.func190 rfl ?_;(conv=>whnf);refine aF (fun h=>?_) (fun h=>?_)<;>conv=>whnf
      ·exfalso;have:=aA h;omega
      refine bG hsp (wR _) rfl (fun _=>rfl) hcl0 ?_;(conv=>whnf);refine aW (q:=1) hc rfl (wR _) rfl rfl bO bO (fun _=>rfl) hcl ?_;(conv=>whnf);refine⟨_,⟨rfl,zL _,rfl,bL rfl⟩,?_⟩;(conv=>whnf);refine aF (fun h2=>?_) (fun h2=>?_)<;>conv=>whnf
      ·exfalso;have:=aA h2;omega
      ·skip;refine⟨_,⟨rfl,zL _,rfl,bL rfl⟩,?_⟩;(conv=>whnf);exact bA (.refl _) (fJ (.cons hcl (.cons (.i _ _) .nil)))
theorem BA {s:By} {e:Int} (h:lM s=.err e):e=2∨e=3∨e=4:=by
 unfold lM at h;split at h
 ·cases h;omega
 ·split at h
  ·cases h;omega
  ·split at h
   ·split at h
    ·split at h
     ·cases h;omega
     ·cases h
    ·cases h;omega
   ·cases h;omega
theorem a1Z [MaxL] (t:Tree) (hg:t.good) (hz:t.size<=2100):SC Tryz.prog 229 [t.ng] [] (.val (.tup [.s (HY t).1,.i .i64 (HY t).2])) []:=by
 have hw:=yV 2100 t hz hz hg;have hcl:=t.ng_cl;have hb:=qY t.flat (u7 (K0 hg));rw[qN] at hb;have hr:=P5 t.flat.plain (by omega);have hrc:=BB t.flat.plain;unfold lJ at hr hrc;obtain⟨k,kids,A,B,op,yes,hng⟩:=iW t;rw[hng] at hw hcl⊢;unfold HY;clear hg hng;generalize t.flat.plain=X at*;by_cases hl:1000<X.length
 ·rw[aG hl];refine cZ Tryz.func229 rfl ?_;conv=>whnf
  refine bG hw (wR _) rfl (cC hcl .nil) (.s _) ?_;conv=>whnf
  refine aF (fun h=>?_) (fun h=>?_)<;>conv=>whnf
  ·exact bA (.refl _) (fun _=>rfl)
  ·exfalso;have:=aB h;omega
 ·rw[aE hl];cases hx:lM X with
  |ok u=>
   rw[hx] at hr hrc;replace hr:SC Tryz.prog 190 [.s X] [] (.val (.tup [u.ng,.i .i64 0])) []:=hr;replace hrc:Cl (.tup [u.ng,.i .i64 0]):=hrc;obtain⟨k2,kids2,A2,B2,op2,yes2,hng2⟩:=iW u;rw[hng2] at hr hrc;refine cZ Tryz.func229 rfl ?_;(conv=>whnf);refine bG hw (wR _) rfl (cC hcl .nil) (.s _) ?_;(conv=>whnf);refine aF (fun h=>?_) (fun h=>?_)<;>conv=>whnf
   ·exfalso;have:=aA h;omega
   refine bG hr (wR _) rfl (fun _=>rfl) hrc ?_;(conv=>whnf);refine⟨_,⟨rfl,zL _,rfl,bL rfl⟩,?_⟩;(conv=>whnf);exact bA (.refl _) (fun _=>rfl)
  |err e=>
   rw[hx] at hr hrc;replace hr:SC Tryz.prog 190 [.s X] [] (.val (.tup [tN,.i .i64 e])) []:=hr;replace hrc:Cl (.tup [tN,.i .i64 e]):=hrc;have he:=BA hx;refine cZ Tryz.func229 rfl ?_;(conv=>whnf);refine bG hw (wR _) rfl (cC hcl .nil) (.s _) ?_;(conv=>whnf);refine aF (fun h=>?_) (fun h=>?_)<;>conv=>whnf
   ·exfalso;have:=aA h;omega
   refine bG hr (wR _) rfl (fun _=>rfl) hrc ?_;(conv=>whnf);refine⟨_,⟨rfl,zL _,rfl,bL rfl⟩,?_⟩;(conv=>whnf);refine aF (fun h2=>?_) (fun h2=>?_)<;>conv=>whnf
   ·exact bA (.refl _) (fun _=>rfl)
   ·exfalso;have:e=0:=by simpa using h2
    omega
theorem F2 {s:By} {t:Tree} (h:lM s=.ok t):t.size<=1000:=by
 have hr:=zW s;rw[h] at hr;have:=(CI hr).2.1;rw[qN] at this;exact this
theorem a1e [MaxL] (s:By) (hs:s.length<1000000):SC Tryz.prog 189 [.s s] [] (.val (.tup [.s (LV s).1,.i .i64 (LV s).2])) []:=by
 have hr:=P5 s hs;have hrc:=BB s;unfold lJ at hr hrc;unfold LV;cases hx:lM s with
 |ok t=>
  rw[hx] at hr hrc;replace hr:SC Tryz.prog 190 [.s s] [] (.val (.tup [t.ng,.i .i64 0])) []:=hr;replace hrc:Cl (.tup [t.ng,.i .i64 0]):=hrc;have ht:=a1Z t (F3 hx) (by have:=F2 hx;omega);have hcl:=t.ng_cl;obtain⟨k,kids,A,B,op,yes,hng⟩:=iW t;rw[hng] at hr hrc ht hcl;simp only;refine cZ Tryz.func189 rfl ?_;conv=>whnf
  refine bG hr (wR _) rfl (fun _=>rfl) hrc ?_;conv=>whnf
  refine⟨_,⟨rfl,zL _,rfl,bL rfl⟩,?_⟩;conv=>whnf
  refine bG ht (wR _) rfl (cC hcl .nil) (fun _=>rfl) ?_;conv=>whnf
  exact bA (.refl _) (fun _=>rfl)
 |err e=>
  rw[hx] at hr hrc;replace hr:SC Tryz.prog 190 [.s s] [] (.val (.tup [tN,.i .i64 e])) []:=hr;replace hrc:Cl (.tup [tN,.i .i64 e]):=hrc;have he:=BA hx;simp only;refine cZ Tryz.func189 rfl ?_;conv=>whnf
  refine bG hr (wR _) rfl (fun _=>rfl) hrc ?_;conv=>whnf
  refine⟨_,⟨rfl,zL _,rfl,bL rfl⟩,?_⟩;conv=>whnf
  refine aF (fun h2=>?_) (fun h2=>?_)<;>conv=>whnf
  ·exact bA (.refl _) (fun _=>rfl)
  ·exfalso;have:e=0:=by simpa using h2
   omega
