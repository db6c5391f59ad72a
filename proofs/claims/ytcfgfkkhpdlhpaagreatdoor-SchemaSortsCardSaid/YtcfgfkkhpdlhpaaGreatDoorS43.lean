/-
  A part of the proof of SchemaSorts.
-/
import Derived.Test.YtcfgfkkhpdlhpaaGreatDoorS42
set_option linter.all false
set_option maxRecDepth 100000
namespace Go.Proofs.YtcfgfkkhpdlhpaaGreatDoor
open Go.RowKit
theorem X4 [MaxL] (t:Term) (h:t.good):SC Tryz.prog 302 [.agg (W6 t)] [] (.val (.s t.txt)) []:=by
 obtain⟨nm,vr,v⟩:=t;have h16:nm.length<=16:=by
  rcases h with⟨_,h2,_⟩|⟨h1,_⟩
  ·simp only at h2;cases nm with
   |nil=>simp
   |cons c u=>
    simp only[fP,aH,aK] at h2;exact h2.1.1
  ·simp only at h1;rw[h1];simp
 cases vr with
 |true=>
  have hn:nm≠[]:=by
   rcases h with⟨h1,_⟩|⟨_,h2,_⟩
   ·exact h1
   ·cases h2
  refine cY Tryz.func302 rfl ?_;conv=>whnf
  refine aE (fun h1=>?_) (fun h1=>?_)<;>conv=>whnf
  ·refine⟨by show 1+nm.length<4611686018427387904;omega,58::nm,rfl,?_⟩;(conv=>whnf);exact gG rfl
  ·exact absurd (by simpa using h1) hn
 |false=>
  by_cases hn:nm=[]
  ·subst hn;have hv:v.ok=true:=by
    rcases h with⟨h1,_⟩|⟨_,_,h3⟩
    ·exact absurd rfl h1
    ·exact h3
   obtain⟨b0,b1,b2⟩:=IK hv;have hw:=TX v (by omega) (by omega) (by omega);have e:Term.txt ⟨[],false,v⟩=eX v:=by
    show(if v.ok=true then eX v else[])=_;rw[aF hv]
   rw[e];refine cY Tryz.func302 rfl ?_;(conv=>whnf);refine bD hw (wR _) rfl (fun _=>rfl) (.s _) ?_;(conv=>whnf);exact gG rfl
  ·have e:Term.txt ⟨nm,false,v⟩=nm:=by
    show(if nm≠[] then nm else _)=_;rw[aF hn]
   rw[e];refine cY Tryz.func302 rfl ?_;(conv=>whnf);refine aE (fun h1=>?_) (fun h1=>?_)<;>conv=>whnf
   ·exact gG rfl
   ·exact absurd (by simpa using h1) hn
theorem vB (t:Tree):t.flat.level=t.level:=by
 cases t with
 |pair b l r=>
  rw[LF b];unfold dW;rw[aF rfl];obtain⟨x,y,e⟩:=zJ b r (dW b none l);rw[e];rfl
 |_=>rfl
def kp (a:Bool) (y:Tree):By:=paren (decide (y.level<l8 a)) y.flat.plain
def wj (a:Bool):List Tree->By
 |[]=>[]
 |x::xs=>xs.foldl (fun s y=>s++l7 a++kp a y) (kp a x)
theorem GZ (a:Bool):∀(xs:List Tree) (q:Tree),¬q.level<l8 a->(xs.foldl (fun q y=>Tree.pair a q y.flat) q).plain=xs.foldl (fun s y=>s++l7 a++kp a y) q.plain
 |[],q,_=>rfl
 |y::ys,q,h=>by
  rw[gZ,gZ,GZ a ys (.pair a q y.flat) (by show¬l8 a<l8 a;omega)];congr 1;show paren (decide (q.level<l8 a)) q.plain++l7 a++paren (decide (y.flat.level<l8 a)) y.flat.plain=_;rw[cD h,vB];rfl
theorem MX (a:Bool) (l r:Tree):(Tree.pair a l r).flat.plain=wj a ((Tree.pair a l r).sides a):=by
 obtain⟨x,xs,h1,h2⟩:=J4 a l r;rw[h1,h2];have hlen:2<=(x::xs).length:=by
  rw[<-h1];have e:(Tree.pair a l r).sides a=l.sides a++r.sides a:=aF rfl;rw[e,aG];have h1:=List.length_pos_iff.2 (qY a l);have h2:=List.length_pos_iff.2 (qY a r);omega
 cases xs with
 |nil=>simp at hlen
 |cons y ys=>
  rw[gZ,GZ a ys (.pair a x.flat y.flat) (by show¬l8 a<l8 a;omega)];show _=ys.foldl _ (kp a x++l7 a++kp a y);congr 1;show paren (decide (x.flat.level<l8 a)) x.flat.plain++l7 a++paren (decide (y.flat.level<l8 a)) y.flat.plain=_;rw[vB,vB];rfl
theorem JJ {a:Bool} {L:List Tree} {i:Nat} {y:Tree} (h:L[i]?=some y):wj a (L.take (i+1))=(if i=0 then[] else wj a (L.take i)++l7 a)++kp a y:=by
 rw[bP,h];cases L with
 |nil=>cases h
 |cons x xs=>
  cases i with
  |zero=>simp at h;subst h;rfl
  |succ i=>
   rw[aD (by omega)];show wj a (x::xs.take i++[y])=wj a (x::xs.take i)++l7 a++kp a y;show(xs.take i++[y]).foldl _ _=_;rw[List.foldl_append];rfl
theorem SP (a:Bool):∀(xs:List Tree) (s:By),s.length<=(xs.foldl (fun s y=>s++l7 a++kp a y) s).length
 |[],s=>rL _
 |y::ys,s=>by
  have:=SP a ys (s++l7 a++kp a y);rw[gZ];simp only[aG] at this⊢;omega
theorem a2V (a:Bool) (L:List Tree) (i:Nat):(wj a (L.take i)).length<=(wj a L).length:=by
 cases L with
 |nil=>simp
 |cons x xs=>
  cases i with
  |zero=>simp[wj]
  |succ i=>
   have h1:wj a (x::xs)=(xs.drop i).foldl (fun s y=>s++l7 a++kp a y) (wj a (x::xs.take i)):=by
    show xs.foldl (fun s y=>s++l7 a++kp a y) (kp a x)=(xs.drop i).foldl _ ((xs.take i).foldl (fun s y=>s++l7 a++kp a y) (kp a x));rw[<-List.foldl_append,e8]
   rw[h1];exact SP a _ _
theorem a18 {a:Bool} {L:List Tree} {i:Nat} {y:Tree} (h:L[i]?=some y):(wj a (L.take i)).length+(if i=0 then 0 else(l7 a).length)+(kp a y).length<=(wj a L).length:=by
 have h1:=a2V a L (i+1);rw[JJ h] at h1;split at h1
 ·rename_i h0;subst h0;rw[aF rfl];simp only[List.take_zero,wj,b5,List.nil_append] at h1⊢;omega
 ·rename_i h0;rw[aD h0];simp only[aG] at h1;omega
set_option maxHeartbeats 1000000 in
theorem X2 [MaxL] (L:List Tree) (hL:L.length<=100000) (hb:(wj true L).length<1000000) (hc:∀y∈L,SC Tryz.prog 263 [y.ng] [] (.val (.s y.flat.plain)) []):
  SC Tryz.prog 263 [.agg (jY 2 (jX L) t0 t0 [] false)] [] (.val (.s (wj true L))) []:=by
 have hnl:(jX L).length=L.length:=eZ L;refine cY Tryz.func263 rfl ?_;conv=>whnf
 refine eT (fun q:Nat×By=>q.1<=L.length/\wj true (L.take q.1)=q.2) (fun q=>[(1,.ptr 0 0),(4,.s q.2),(5,.i .i64 (q.1:Nat))]) (fun _=>⟨[.box 211 (jY 2 (jX L) t0 t0 [] false)],0,[]⟩) (fun q=>L.length - q.1) (0,[]) ⟨zL _,rfl⟩ ⟨rfl,rfl,rfl,trivial⟩ rfl (fun _ _=>rL _) (fun q _=>rfl) (fun q _ e he=>?_) (fun q φ0 hi=>?_)
 ·refine⟨?_,rfl,?_⟩
  ·show[(GObj.box _ (jY 2 (jX L) t0 t0 [] false)).ren e]=_;rw[eU (jL (rI L) t0 t0 [] false) e]
  ·show[GV.ptr (e 0) 0,_,_]=_;rw[he 0 (by simp)];rfl
 obtain⟨i,S⟩:=q;obtain⟨hi,hSd⟩:=hi;replace hi:i<=L.length:=hi;replace hSd:wj true (L.take i)=S:=hSd;conv=>whnf
 refine aE (fun h=>?_) (fun h=>?_)<;>conv=>whnf
 rotate_left
 ·have hie:i=L.length:=by have:=aC h;rw[hnl] at this;omega
  refine gG ?_;rw[hie,b6] at hSd;exact hSd.symm
 have hlt:i<L.length:=by have:=aB h;rw[hnl] at this;omega
 obtain⟨y,hy⟩:∃y,L[i]?=some y:=⟨L[i],gL hlt⟩;have hgy:(jX L)[i]?=some (.agg y.ncs):=by unfold jX;rw[aM,hy];rfl
 have hcy:=hc y (aL hy);have hcl:Cl (.agg y.ncs):=y.ng_cl;have hsucc:=JJ (a:=true) hy;have hkp:=a18 (a:=true) hy;replace hcy:SC Tryz.prog 263 [.agg y.ncs] [] (.val (.s y.flat.plain)) []:=hcy;have hform:∃k kids A B op yes,y.ncs=jY k kids A B op yes/\(k=1->kp true y=40::(y.flat.plain++[41]))/\(k≠1->kp true y=y.flat.plain):=by
  cases y with
  |pair b l r=>
   refine⟨_,_,_,_,_,_,tV b l r,fun h=>?_,fun h=>?_⟩
   ·cases b with
    |true=>cases h
    |false=>rfl
   ·cases b with
    |true=>rfl
    |false=>exact absurd rfl h
  |no t=>exact⟨_,_,_,_,_,_,XC t,(fun h=>absurd h (by decide)),(fun h=>rfl)⟩
  |test op l r=>exact⟨_,_,_,_,_,_,N6 op l r,(fun h=>absurd h (by decide)),(fun h=>rfl)⟩
  |truth b=>exact⟨_,_,_,_,_,_,IQ b,(fun h=>absurd h (by decide)),(fun h=>rfl)⟩
 obtain⟨k,kids,A,B,op,yes,hncs,hk1,hk2⟩:=hform;rw[hncs] at hgy hcy hcl;generalize kp true y=K at*;generalize y.flat.plain=X at*;rw[hSd] at hsucc hkp;clear hncs hy;refine aE (fun hi0=>?_) (fun hi0=>?_)<;>conv=>whnf
 ·have hi0':i≠0:=by have:=aB hi0;omega
  rw[aD hi0'] at hsucc hkp;have e5:(l7 true).length=5:=rfl;refine⟨by show S.length+5<4611686018427387904;omega,S++l7 true,rfl,?_⟩;conv=>whnf
  refine aE (fun hi1=>?_) (fun hi1=>?_)<;>conv=>whnf
  rotate_left
  ·rw[hi0] at hi1;cases hi1
  refine⟨cN _,.agg (jY k kids A B op yes),by rw[aA];exact hgy,rfl,?_⟩;conv=>whnf
  refine aE (fun hk=>?_) (fun hk=>?_)<;>conv=>whnf
  ·skip;have h9:(k:Int)=1:=by simpa using hk
   have hK:=hk1 (by omega);rw[hK] at hsucc hkp;refine⟨by show(S++l7 true).length+(([40]:By)).length<4611686018427387904;simp only[aG,aJ,b5] at*;omega,S++l7 true++([40]:By),rfl,?_⟩;(conv=>whnf);refine⟨cN _,.agg (jY k kids A B op yes),by rw[aA];exact hgy,rfl,?_⟩;(conv=>whnf);refine bD hcy (wR _) rfl (cC hcl .nil) (.s _) ?_;(conv=>whnf);refine⟨by show(S++l7 true++([40]:By)).length+(X).length<4611686018427387904;simp only[aG,aJ,b5] at*;omega,S++l7 true++([40]:By)++X,rfl,?_⟩;(conv=>whnf);refine⟨by show(S++l7 true++([40]:By)++X).length+(([41]:By)).length<4611686018427387904;simp only[aG,aJ,b5] at*;omega,S++l7 true++([40]:By)++X++([41]:By),rfl,?_⟩;(conv=>whnf);have hfin:wj true (L.take (i+1))=S++l7 true++([40]:By)++X++([41]:By):=by rw[hsucc];simp
   exact⟨L.length - (i+1),(by show _<L.length - i;omega),(i+1,_),⟨hlt,hfin⟩,rfl,⟨rfl,rfl,b7 (by omega),trivial⟩,[],rfl,rfl⟩
  ·skip;have h9:¬(k:Int)=1:=by simpa using hk
   have hK:=hk2 (by omega);rw[hK] at hsucc hkp;refine⟨cN _,.agg (jY k kids A B op yes),by rw[aA];exact hgy,rfl,?_⟩;(conv=>whnf);refine bD hcy (wR _) rfl (cC hcl .nil) (.s _) ?_;(conv=>whnf);refine⟨by show(S++l7 true).length+(X).length<4611686018427387904;simp only[aG,aJ,b5] at*;omega,S++l7 true++X,rfl,?_⟩;(conv=>whnf);have hfin:wj true (L.take (i+1))=S++l7 true++X:=by rw[hsucc]
   exact⟨L.length - (i+1),(by show _<L.length - i;omega),(i+1,_),⟨hlt,hfin⟩,rfl,⟨rfl,rfl,b7 (by omega),trivial⟩,[],rfl,rfl⟩
 ·have hi0':i=0:=by have:=aC hi0;omega
  rw[aF hi0'] at hsucc hkp;have hS:S=[]:=by rw[<-hSd,hi0'];rfl
  rw[List.nil_append] at hsucc;refine aE (fun hi1=>?_) (fun hi1=>?_)<;>conv=>whnf
  ·rw[hi0] at hi1;cases hi1
  refine⟨cN _,.agg (jY k kids A B op yes),by rw[aA];exact hgy,rfl,?_⟩;conv=>whnf
  refine aE (fun hk=>?_) (fun hk=>?_)<;>conv=>whnf
  ·skip;have h9:(k:Int)=1:=by simpa using hk
   have hK:=hk1 (by omega);rw[hK] at hsucc hkp;refine⟨by show(S).length+(([40]:By)).length<4611686018427387904;simp only[aG,aJ,b5] at*;omega,S++([40]:By),rfl,?_⟩;(conv=>whnf);refine⟨cN _,.agg (jY k kids A B op yes),by rw[aA];exact hgy,rfl,?_⟩;(conv=>whnf);refine bD hcy (wR _) rfl (cC hcl .nil) (.s _) ?_;(conv=>whnf);refine⟨by show(S++([40]:By)).length+(X).length<4611686018427387904;simp only[aG,aJ,b5] at*;omega,S++([40]:By)++X,rfl,?_⟩;(conv=>whnf);refine⟨by show(S++([40]:By)++X).length+(([41]:By)).length<4611686018427387904;simp only[aG,aJ,b5] at*;omega,S++([40]:By)++X++([41]:By),rfl,?_⟩;(conv=>whnf);have hfin:wj true (L.take (i+1))=S++([40]:By)++X++([41]:By):=by rw[hsucc];rw[hS];rfl
   exact⟨L.length - (i+1),(by show _<L.length - i;omega),(i+1,_),⟨hlt,hfin⟩,rfl,⟨rfl,rfl,b7 (by omega),trivial⟩,[],rfl,rfl⟩
  ·skip;have h9:¬(k:Int)=1:=by simpa using hk
   have hK:=hk2 (by omega);rw[hK] at hsucc hkp;refine⟨cN _,.agg (jY k kids A B op yes),by rw[aA];exact hgy,rfl,?_⟩;(conv=>whnf);refine bD hcy (wR _) rfl (cC hcl .nil) (.s _) ?_;(conv=>whnf);refine⟨by show(S).length+(X).length<4611686018427387904;simp only[aG,aJ,b5] at*;omega,S++X,rfl,?_⟩;(conv=>whnf);have hfin:wj true (L.take (i+1))=S++X:=by rw[hsucc];rw[hS];rfl
   exact⟨L.length - (i+1),(by show _<L.length - i;omega),(i+1,_),⟨hlt,hfin⟩,rfl,⟨rfl,rfl,b7 (by omega),trivial⟩,[],rfl,rfl⟩
set_option maxHeartbeats 1000000 in
theorem ZW [MaxL] (L:List Tree) (hL:L.length<=100000) (hb:(wj false L).length<1000000) (hc:∀y∈L,SC Tryz.prog 263 [y.ng] [] (.val (.s y.flat.plain)) []):
  SC Tryz.prog 263 [.agg (jY 1 (jX L) t0 t0 [] false)] [] (.val (.s (wj false L))) []:=by
 have hnl:(jX L).length=L.length:=eZ L;refine cY Tryz.func263 rfl ?_;conv=>whnf
 refine eT (fun q:Nat×By=>q.1<=L.length/\wj false (L.take q.1)=q.2) (fun q=>[(1,.ptr 0 0),(4,.s q.2),(5,.i .i64 (q.1:Nat))]) (fun _=>⟨[.box 211 (jY 1 (jX L) t0 t0 [] false)],0,[]⟩) (fun q=>L.length - q.1) (0,[]) ⟨zL _,rfl⟩ ⟨rfl,rfl,rfl,trivial⟩ rfl (fun _ _=>rL _) (fun q _=>rfl) (fun q _ e he=>?_) (fun q φ0 hi=>?_)
 ·refine⟨?_,rfl,?_⟩
  ·show[(GObj.box _ (jY 1 (jX L) t0 t0 [] false)).ren e]=_;rw[eU (jL (rI L) t0 t0 [] false) e]
  ·show[GV.ptr (e 0) 0,_,_]=_;rw[he 0 (by simp)];rfl
 obtain⟨i,S⟩:=q;obtain⟨hi,hSd⟩:=hi;replace hi:i<=L.length:=hi;replace hSd:wj false (L.take i)=S:=hSd;conv=>whnf
 refine aE (fun h=>?_) (fun h=>?_)<;>conv=>whnf
 rotate_left
 ·have hie:i=L.length:=by have:=aC h;rw[hnl] at this;omega
  refine gG ?_;rw[hie,b6] at hSd;exact hSd.symm
 have hlt:i<L.length:=by have:=aB h;rw[hnl] at this;omega
 obtain⟨y,hy⟩:∃y,L[i]?=some y:=⟨L[i],gL hlt⟩;have hgy:(jX L)[i]?=some (.agg y.ncs):=by unfold jX;rw[aM,hy];rfl
 have hcy:=hc y (aL hy);have hcl:Cl (.agg y.ncs):=y.ng_cl;have hsucc:=JJ (a:=false) hy;have hkp:=a18 (a:=false) hy;replace hcy:SC Tryz.prog 263 [.agg y.ncs] [] (.val (.s y.flat.plain)) []:=hcy;have hK:kp false y=y.flat.plain:=by
  unfold kp paren;rw[aD];have:=qP y;show¬decide (y.level<1)=true;simp;omega
 obtain⟨k,kids,A,B,op,yes,hng⟩:=iK y;have hncs:y.ncs=jY k kids A B op yes:=by
  have h9:GV.agg y.ncs=GV.agg (jY k kids A B op yes):=hng;injection h9
 rw[hncs] at hgy hcy hcl;rw[hK] at hsucc hkp;clear hK hng;generalize y.flat.plain=X at*;rw[hSd] at hsucc hkp;clear hncs hy;refine aE (fun hi0=>?_) (fun hi0=>?_)<;>conv=>whnf
 ·have hi0':i≠0:=by have:=aB hi0;omega
  rw[aD hi0'] at hsucc hkp;have e5:(l7 false).length=4:=rfl;refine aE (fun hi1=>?_) (fun hi1=>?_)<;>conv=>whnf
  rotate_left
  ·rw[hi0] at hi1;cases hi1
  refine⟨by show(S).length+(l7 false).length<4611686018427387904;simp only[aG] at*;omega,S++l7 false,rfl,?_⟩;conv=>whnf
  refine⟨cN _,.agg (jY k kids A B op yes),by rw[aA];exact hgy,rfl,?_⟩;conv=>whnf
  refine bD hcy (wR _) rfl (cC hcl .nil) (.s _) ?_;conv=>whnf
  refine⟨by show(S++l7 false).length+(X).length<4611686018427387904;simp only[aG] at*;omega,S++l7 false++X,rfl,?_⟩;conv=>whnf
  exact⟨L.length - (i+1),(by show _<L.length - i;omega),(i+1,_),⟨hlt,hsucc⟩,rfl,⟨rfl,rfl,b7 (by omega),trivial⟩,[],rfl,rfl⟩
 ·have hi0':i=0:=by have:=aC hi0;omega
  rw[aF hi0'] at hsucc hkp;have hS:S=[]:=by rw[<-hSd,hi0'];rfl
  rw[List.nil_append] at hsucc;refine aE (fun hi1=>?_) (fun hi1=>?_)<;>conv=>whnf
  ·rw[hi0] at hi1;cases hi1
  refine⟨cN _,.agg (jY k kids A B op yes),by rw[aA];exact hgy,rfl,?_⟩;conv=>whnf
  refine bD hcy (wR _) rfl (cC hcl .nil) (.s _) ?_;conv=>whnf
  refine⟨by show(S).length+(X).length<4611686018427387904;omega,S++X,rfl,?_⟩;conv=>whnf
  have hfin:wj false (L.take (i+1))=S++X:=by rw[hsucc,hS];rfl
  exact⟨L.length - (i+1),(by show _<L.length - i;omega),(i+1,_),⟨hlt,hfin⟩,rfl,⟨rfl,rfl,b7 (by omega),trivial⟩,[],rfl,rfl⟩
theorem ZX [MaxL] (t:Tree) (hb:t.flat.plain.length<1000000) (hc:SC Tryz.prog 263 [t.ng] [] (.val (.s t.flat.plain)) []):
  SC Tryz.prog 263 [.agg (jY 3 [t.ng] t0 t0 [] false)] [] (.val (.s (k9++[32]++paren (decide (t.level<4)) t.flat.plain))) []:=by
 have hcl:=t.ng_cl;generalize t.flat.plain=X at*;cases t with
 |pair b l r=>
  rw[show(Tree.pair b l r).ng=.agg (jY (l8 b) (jX ((Tree.pair b l r).sides b)) t0 t0 [] false) by show GV.agg _=_;rw[tV]] at hc hcl⊢;generalize jX ((Tree.pair b l r).sides b)=kids at*;have e:paren (decide ((Tree.pair b l r).level<4)) X=40::(X++[41]):=by cases b<;>rfl
  rw[e];cases b with
  |true=>
   refine cY Tryz.func263 rfl ?_;(conv=>whnf);refine⟨dE 0,.agg (jY (l8 true) kids t0 t0 [] false),rfl,rfl,?_⟩;(conv=>whnf);refine⟨_,⟨rfl,zL _,rfl,bL rfl⟩,?_⟩;(conv=>whnf);refine bD hc (wR _) rfl (cC hcl .nil) (.s _) ?_;(conv=>whnf);refine⟨by show 5+X.length<4611686018427387904;omega,k9++[32,40]++X,rfl,?_⟩;(conv=>whnf);refine⟨by show(k9++[32,40]++X).length+1<4611686018427387904;simp only[aG] at*;show 3+2+X.length+1<_;omega,k9++[32,40]++X++[41],rfl,?_⟩;(conv=>whnf);exact gG (by show k9++[32,40]++X++[41]=k9++[32]++40::(X++[41]);simp)
  |false=>
   refine cY Tryz.func263 rfl ?_;(conv=>whnf);refine⟨dE 0,.agg (jY (l8 false) kids t0 t0 [] false),rfl,rfl,?_⟩;(conv=>whnf);refine⟨_,⟨rfl,zL _,rfl,bL rfl⟩,?_⟩;(conv=>whnf);refine bD hc (wR _) rfl (cC hcl .nil) (.s _) ?_;(conv=>whnf);refine⟨by show 5+X.length<4611686018427387904;omega,k9++[32,40]++X,rfl,?_⟩;(conv=>whnf);refine⟨by show(k9++[32,40]++X).length+1<4611686018427387904;simp only[aG] at*;show 3+2+X.length+1<_;omega,k9++[32,40]++X++[41],rfl,?_⟩;(conv=>whnf);exact gG (by show k9++[32,40]++X++[41]=k9++[32]++40::(X++[41]);simp)
 |no t=>
  have e:paren (decide ((Tree.no t).level<4)) X=40::(X++[41]):=rfl;rw[e];rw[show(Tree.no t).ng=.agg (jY 3 [t.ng] t0 t0 [] false) from rfl] at hc hcl⊢;refine cY Tryz.func263 rfl ?_;conv=>whnf
  refine⟨dE 0,.agg (jY 3 [t.ng] t0 t0 [] false),rfl,rfl,?_⟩;conv=>whnf
  refine⟨_,⟨rfl,zL _,rfl,bL rfl⟩,?_⟩;conv=>whnf
  refine bD hc (wR _) rfl (cC hcl .nil) (.s _) ?_;conv=>whnf
  refine⟨by show 5+X.length<4611686018427387904;omega,k9++[32,40]++X,rfl,?_⟩;conv=>whnf
  refine⟨by show(k9++[32,40]++X).length+1<4611686018427387904;simp only[aG] at*;show 3+2+X.length+1<_;omega,k9++[32,40]++X++[41],rfl,?_⟩;conv=>whnf
  exact gG (by show k9++[32,40]++X++[41]=k9++[32]++40::(X++[41]);simp)
 |test op l r=>
  rw[show(Tree.test op l r).ng=.agg (jY 4 [] l r op false) from rfl] at hc hcl⊢;refine cY Tryz.func263 rfl ?_;conv=>whnf
  refine⟨dE 0,.agg (jY 4 [] l r op false),rfl,rfl,?_⟩;conv=>whnf
  refine⟨_,⟨rfl,zL _,rfl,bL rfl⟩,?_⟩;conv=>whnf
  refine bD hc (wR _) rfl (cC hcl .nil) (.s _) ?_;conv=>whnf
  refine⟨by show 4+X.length<4611686018427387904;omega,k9++[32]++X,rfl,?_⟩;conv=>whnf
  exact gG rfl
 |truth b=>
  rw[show(Tree.truth b).ng=.agg (jY 5 [] t0 t0 [] b) from rfl] at hc hcl⊢;refine cY Tryz.func263 rfl ?_;conv=>whnf
  refine⟨dE 0,.agg (jY 5 [] t0 t0 [] b),rfl,rfl,?_⟩;conv=>whnf
  refine⟨_,⟨rfl,zL _,rfl,bL rfl⟩,?_⟩;conv=>whnf
  refine bD hc (wR _) rfl (cC hcl .nil) (.s _) ?_;conv=>whnf
  refine⟨by show 4+X.length<4611686018427387904;omega,k9++[32]++X,rfl,?_⟩;conv=>whnf
  exact gG rfl
theorem TY [MaxL] (op:By) (l r:Term) (ho:op.length<=2) (hl:l.good) (hr:r.good) (hl1:l.txt.length<=200) (hr1:r.txt.length<=200):
  SC Tryz.prog 263 [.agg (jY 4 [] l r op false)] [] (.val (.s (l.txt++[32]++op++[32]++r.txt))) []:=by
 have s1:=X4 l hl;have s2:=X4 r hr;generalize l.txt=x1 at*;generalize r.txt=x2 at*;refine cY Tryz.func263 rfl ?_;conv=>whnf
 refine aZ (by kernel_rfl) ?_;conv=>whnf
 refine bD s1 (wR _) rfl (cC (eL (BK l)) .nil) (.s _) ?_;conv=>whnf
 refine⟨by show x1.length+1<4611686018427387904;omega,x1++[32],rfl,?_⟩;conv=>whnf
 refine⟨by show(x1++[32]).length+op.length<4611686018427387904;rw[aG];show x1.length+1+op.length<_;omega,x1++[32]++op,rfl,?_⟩;conv=>whnf
 refine⟨by show(x1++[32]++op).length+1<4611686018427387904;rw[aG,aG];show x1.length+1+op.length+1<_;omega,x1++[32]++op++[32],rfl,?_⟩;conv=>whnf
 refine bD s2 (wR _) rfl (cC (eL (BK r)) .nil) (.s _) ?_;conv=>whnf
 refine⟨by show(x1++[32]++op++[32]).length+x2.length<4611686018427387904;rw[aG,aG,aG];show x1.length+1+op.length+1+x2.length<_;omega,x1++[32]++op++[32]++x2,rfl,?_⟩;conv=>whnf
 exact gG rfl
theorem PK [MaxL] (b:Bool):SC Tryz.prog 263 [.agg (jY 5 [] t0 t0 [] b)] [] (.val (.s (if b then l5 else jS))) []:=by
 cases b with
 |true=>
  refine cY Tryz.func263 rfl ?_;conv=>whnf
  exact gG rfl
 |false=>
  refine cY Tryz.func263 rfl ?_;conv=>whnf
  exact gG rfl
theorem zG {a:Bool}:∀{t x:Tree},t.good->x∈t.sides a->x.good
 |.pair b l r,x,h,hx=>by
  unfold Tree.sides at hx;split at hx
  ·rcases List.mem_append.1 hx with hx|hx
   ·exact zG h.1 hx
   ·exact zG h.2 hx
  ·simp at hx;subst hx;exact h
 |.no t,x,h,hx=>by simp[Tree.sides] at hx;subst hx;exact h
 |.test _ _ _,x,h,hx=>by simp[Tree.sides] at hx;subst hx;exact h
 |.truth _,x,h,hx=>by simp[Tree.sides] at hx;subst hx;exact h
theorem DZ {t:Term} (h:t.good):t.name.length<=16/\t.txt.length<=180:=by
 obtain⟨nm,vr,v⟩:=t;rcases h with⟨h1,h2,_⟩|⟨h1,h2,h3⟩
 ·simp only at h1 h2;have h16:nm.length<=16:=by
   cases nm with
   |nil=>simp
   |cons c u=>
    simp only[fP,aH,aK] at h2;exact h2.1.1
  refine⟨h16,?_⟩;cases vr with
  |true=>show(58::nm).length<=180;simp;omega
  |false=>show(if nm≠[] then nm else _).length<=180;rw[aF h1];omega
 ·simp only at h1 h2 h3;subst h1;subst h2;refine⟨zL _,?_⟩;show(if v.ok=true then eX v else[]).length<=180;rw[aF h3];have:=CN h3;omega
theorem KC {t:Tree}:t.good->t.nice:=by
 induction t with
 |pair a l r i1 i2=>exact fun h=>⟨i1 h.1,i2 h.2⟩
 |no t i=>exact fun h=>i h
 |test op l r=>exact fun h=>⟨BN h.1,DZ h.2.1,DZ h.2.2⟩
 |truth b=>exact fun _=>trivial
theorem z1 [MaxL]:∀(n:Nat) (t:Tree),t.size<=n->t.size<=2100->t.good->SC Tryz.prog 263 [t.ng] [] (.val (.s t.flat.plain)) []
 |0,t,h,_,_=>by cases t<;>simp[Tree.size] at h
 |n+1,t,h,h2,hg=>by
  have hb:t.flat.plain.length<1000000:=by
   have:=rE t.flat (uD (KC hg));rw[qT] at this;omega
  cases t with
  |truth b=>exact PK b
  |test op l r=>
   have:=TY op l r (BN hg.1) hg.2.1 hg.2.2 (by have:=(DZ hg.2.1).2;omega) (by have:=(DZ hg.2.2).2;omega);exact this
  |no t=>
   simp only[Tree.size] at h h2;have e:(Tree.no t).flat.plain=k9++[32]++paren (decide (t.level<4)) t.flat.plain:=by
    show k9++[32]++paren (decide (t.flat.level<4)) t.flat.plain=_;rw[vB]
   rw[e] at hb⊢;have hb2:t.flat.plain.length<1000000:=by
    have:=rE t.flat (uD (KC (show t.good from hg)));rw[qT] at this;omega
   exact ZX t hb2 (z1 n t (by omega) (by omega) hg)
  |pair a l r=>
   have hs:=@mT a (Tree.pair a l r);have hk:∀y∈(Tree.pair a l r).sides a,SC Tryz.prog 263 [y.ng] [] (.val (.s y.flat.plain)) []:=fun y hy=>by
    have:=F2 hy;exact z1 n y (by omega) (by omega) (zG hg hy)
   rw[MX] at hb⊢;rw[show(Tree.pair a l r).ng=.agg (jY (l8 a) (jX ((Tree.pair a l r).sides a)) t0 t0 [] false) by show GV.agg _=_;rw[tV]];cases a with
   |true=>exact X2 _ (by omega) hb hk
   |false=>exact ZW _ (by omega) hb hk
theorem R4:∀(n:Nat) (l:List UInt8),l.length<=n->∀w∈iG l,w.length<=l.length
 |0,l,h,w,hw=>by
  have:l=[]:=aN (by omega);subst this;rw[kK rfl] at hw;cases hw
 |n+1,l,h,w,hw=>by
  cases hk:skip l with
  |nil=>rw[kK hk] at hw;cases hw
  |cons c t=>
   rw[mS hk] at hw;have h1:=zU l;rw[hk] at h1;have h2:=nC c t;simp only[aJ] at h1;rcases List.mem_cons.1 hw with rfl|hw
   ·unfold HH;rw[bM];simp only[aJ];omega
   ·have:=R4 n ((c::t).drop (lL (c::t))) (by simp;omega) w hw;simp at this;omega
def tU:GV:=.agg (jY 0 [] t0 t0 [] false)
def lD (s:By):GV:=match lJ s with
 |.ok t=>.tup [t.ng,.i .i64 0]
 |.err e=>.tup [tU,.i .i64 e]
theorem tT [MaxL]:Cl tU:=eL (jL dN t0 t0 [] false)
theorem BP [MaxL] (s:By):Cl (lD s):=by
 unfold lD;split
 ·exact fH (.cons (Tree.ng_cl _) (.cons (.i _ _) .nil))
 ·exact fH (.cons tT (.cons (.i _ _) .nil))
theorem PM [MaxL] (s:By) (hs:s.length<1000000):SC Tryz.prog 190 [.s s] [] (.val (lD s)) []:=by
 by_cases hl:1000<s.length
 ·have e:lD s=.tup [tU,.i .i64 3]:=by unfold lD lJ;rw[aF hl]
  rw[e];refine cY Tryz.func190 rfl ?_;conv=>whnf
  refine aE (fun h=>?_) (fun h=>?_)<;>conv=>whnf
  ·skip;refine⟨_,⟨rfl,zL _,rfl,bL rfl⟩,?_⟩;(conv=>whnf);exact bE (tI hY (.refl _)) (fH (.cons tT (.cons (.i _ _) .nil)))
  ·exfalso;have:=aC h;omega
 ·have hsp:=ZT s hs;cases hss:BG s with
  |none=>
   rw[hss] at hsp;have e:lD s=.tup [tU,.i .i64 2]:=by unfold lD lJ;rw[aD hl,hss]
   rw[e];replace hsp:SC Tryz.prog 230 [.s s] [] (.val (.tup [.sl .none [],.b false])) []:=hsp;refine cY Tryz.func190 rfl ?_;(conv=>whnf);refine aE (fun h=>?_) (fun h=>?_)<;>conv=>whnf
   ·exfalso;have:=aB h;omega
   refine bD hsp (wR _) rfl (fun _=>rfl) (fun _=>rfl) ?_;(conv=>whnf);refine⟨_,⟨rfl,zL _,rfl,bL rfl⟩,?_⟩;(conv=>whnf);exact bE (tI hY (.refl _)) (fH (.cons tT (.cons (.i _ _) .nil)))
  |some ws=>
   rw[hss] at hsp;replace hsp:SC Tryz.prog 230 [.s s] [] (.val (.tup [.sl .none (bA ws),.b true])) []:=hsp;have ht:=wA _ _ _ hss;have hwl:=tK s.length s (rL _);rw[ht] at hwl;have hx:∀w∈ws,w.length<1000000:=fun w hw=>by
    have:=R4 s.length s (rL _) w (by rw[ht];exact hw);omega
   have h4:=(a30 ws (by omega) hx (jM s) 0 0 0 (zL _) (by omega)).1 (by unfold jM;omega);rw[List.drop_zero] at h4;have hcl0:Cl (.tup [.sl .none (bA ws),.b true]):=fH (.cons (bT (uU ws)) (.cons (.b _) .nil));cases hp:bR iC (jM s) .or 0 0 ws with
   |none=>
    rw[hp] at h4;obtain⟨t,a',l',b1,b2,b3,hc⟩:=h4;have e:lD s=.tup [tU,.i .i64 2]:=by unfold lD lJ;rw[aD hl,hss];simp only;rw[hp]
    rw[e];have hcl:=t.ng_cl;obtain⟨k,kids,A,B,op,yes,hng⟩:=iK t;rw[hng] at hc hcl;refine cY Tryz.func190 rfl ?_;(conv=>whnf);refine aE (fun h=>?_) (fun h=>?_)<;>conv=>whnf
    ·exfalso;have:=aB h;omega
    refine bD hsp (wR _) rfl (fun _=>rfl) hcl0 ?_;(conv=>whnf);refine aW (q:=1) hc rfl (wR _) rfl rfl bQ bQ (fun _=>rfl) hcl ?_;(conv=>whnf);refine⟨_,⟨rfl,zL _,rfl,bL rfl⟩,?_⟩;(conv=>whnf);refine⟨_,⟨rfl,zL _,rfl,bL rfl⟩,?_⟩;(conv=>whnf);exact bE (tI hY (.refl _)) (fH (.cons tT (.cons (.i _ _) .nil)))
   |some p=>
    obtain⟨t,r,e⟩:=p;rw[hp] at h4;obtain⟨a',b1,b2,hr,b3,hc⟩:=h4;have hcl:=t.ng_cl;obtain⟨k,kids,A,B,op,yes,hng⟩:=iK t;have hsl:=aP ws;by_cases hlt:a'<ws.length
    ·have e:lD s=.tup [tU,.i .i64 2]:=by
      unfold lD lJ;rw[aD hl,hss];simp only;rw[hp];simp only;rw[aD (by intro h;rw[h] at hr;have:=aQ List.length hr;simp at this;omega)]
     rw[e];rw[hng] at hc hcl;refine cY Tryz.func190 rfl ?_;(conv=>whnf);refine aE (fun h=>?_) (fun h=>?_)<;>conv=>whnf
     ·exfalso;have:=aB h;omega
     refine bD hsp (wR _) rfl (fun _=>rfl) hcl0 ?_;(conv=>whnf);refine aW (q:=1) hc rfl (wR _) rfl rfl bQ bQ (fun _=>rfl) hcl ?_;(conv=>whnf);refine⟨_,⟨rfl,zL _,rfl,bL rfl⟩,?_⟩;(conv=>whnf);refine aE (fun h2=>?_) (fun h2=>?_)<;>conv=>whnf
     ·skip;refine⟨_,⟨rfl,zL _,rfl,bL rfl⟩,?_⟩;(conv=>whnf);exact bE (tI hY (.refl _)) (fH (.cons tT (.cons (.i _ _) .nil)))
     ·exfalso;have:=aC h2;omega
    ·have hr0:r=[]:=by rw[hr];exact j0 (by omega)
     by_cases h20:20<e
     ·have e:lD s=.tup [tU,.i .i64 4]:=by
       unfold lD lJ;rw[aD hl,hss];simp only;rw[hp];simp only;rw[aF hr0,aF h20]
      rw[e];rw[hng] at hc hcl;rw[bN h20] at hc;refine cY Tryz.func190 rfl ?_;(conv=>whnf);refine aE (fun h=>?_) (fun h=>?_)<;>conv=>whnf
      ·exfalso;have:=aB h;omega
      refine bD hsp (wR _) rfl (fun _=>rfl) hcl0 ?_;(conv=>whnf);refine aW (q:=1) hc rfl (wR _) rfl rfl bQ bQ (fun _=>rfl) hcl ?_;(conv=>whnf);refine⟨_,⟨rfl,zL _,rfl,bL rfl⟩,?_⟩;(conv=>whnf);refine aE (fun h2=>?_) (fun h2=>?_)<;>conv=>whnf
      ·exfalso;have:=aB h2;omega
      ·skip;refine⟨_,⟨rfl,zL _,rfl,bL rfl⟩,?_⟩;(conv=>whnf);exact bE (tI hY (.refl _)) (fH (.cons tT (.cons (.i _ _) .nil)))
     ·have e:lD s=.tup [t.ng,.i .i64 0]:=by
       unfold lD lJ;rw[aD hl,hss];simp only;rw[hp];simp only;rw[aF hr0,aD h20]
      rw[e];rw[hng] at hc hcl⊢;rw[cD h20] at hc;refine cY Tryz.func190 rfl ?_;(conv=>whnf);refine aE (fun h=>?_) (fun h=>?_)<;>conv=>whnf
      ·exfalso;have:=aB h;omega
      refine bD hsp (wR _) rfl (fun _=>rfl) hcl0 ?_;(conv=>whnf);refine aW (q:=1) hc rfl (wR _) rfl rfl bQ bQ (fun _=>rfl) hcl ?_;(conv=>whnf);refine⟨_,⟨rfl,zL _,rfl,bL rfl⟩,?_⟩;(conv=>whnf);refine aE (fun h2=>?_) (fun h2=>?_)<;>conv=>whnf
      ·exfalso;have:=aB h2;omega
      ·skip;refine⟨_,⟨rfl,zL _,rfl,bL rfl⟩,?_⟩;(conv=>whnf);exact bE (.refl _) (fH (.cons hcl (.cons (.i _ _) .nil)))
theorem BO {s:By} {e:Int} (h:lJ s=.err e):e=2∨e=3∨e=4:=by
 unfold lJ at h;split at h
 ·cases h;omega
 ·split at h
  ·cases h;omega
  ·split at h
   ·split at h
    ·split at h
     ·cases h;omega
     ·cases h
    ·cases h;omega
   ·cases h;omega
theorem a1e [MaxL] (t:Tree) (hg:t.good) (hz:t.size<=2100):SC Tryz.prog 229 [t.ng] [] (.val (.tup [.s (I5 t).1,.i .i64 (I5 t).2])) []:=by
 have hw:=z1 2100 t hz hz hg;have hcl:=t.ng_cl;have hb:=rE t.flat (uD (KC hg));rw[qT] at hb;have hr:=PM t.flat.plain (by omega);have hrc:=BP t.flat.plain;unfold lD at hr hrc;obtain⟨k,kids,A,B,op,yes,hng⟩:=iK t;rw[hng] at hw hcl⊢;unfold I5;clear hg hng;generalize t.flat.plain=X at*;by_cases hl:1000<X.length
 ·rw[aF hl];refine cY Tryz.func229 rfl ?_;conv=>whnf
  refine bD hw (wR _) rfl (cC hcl .nil) (.s _) ?_;conv=>whnf
  refine aE (fun h=>?_) (fun h=>?_)<;>conv=>whnf
  ·exact bE (.refl _) (fun _=>rfl)
  ·exfalso;have:=aC h;omega
 ·rw[aD hl];cases hx:lJ X with
  |ok u=>
   rw[hx] at hr hrc;replace hr:SC Tryz.prog 190 [.s X] [] (.val (.tup [u.ng,.i .i64 0])) []:=hr;replace hrc:Cl (.tup [u.ng,.i .i64 0]):=hrc;obtain⟨k2,kids2,A2,B2,op2,yes2,hng2⟩:=iK u;rw[hng2] at hr hrc;refine cY Tryz.func229 rfl ?_;(conv=>whnf);refine bD hw (wR _) rfl (cC hcl .nil) (.s _) ?_;(conv=>whnf);refine aE (fun h=>?_) (fun h=>?_)<;>conv=>whnf
   ·exfalso;have:=aB h;omega
   refine bD hr (wR _) rfl (fun _=>rfl) hrc ?_;(conv=>whnf);refine⟨_,⟨rfl,zL _,rfl,bL rfl⟩,?_⟩;(conv=>whnf);exact bE (.refl _) (fun _=>rfl)
  |err e=>
   rw[hx] at hr hrc;replace hr:SC Tryz.prog 190 [.s X] [] (.val (.tup [tU,.i .i64 e])) []:=hr;replace hrc:Cl (.tup [tU,.i .i64 e]):=hrc;have he:=BO hx;refine cY Tryz.func229 rfl ?_;(conv=>whnf);refine bD hw (wR _) rfl (cC hcl .nil) (.s _) ?_;(conv=>whnf);refine aE (fun h=>?_) (fun h=>?_)<;>conv=>whnf
   ·exfalso;have:=aB h;omega
   refine bD hr (wR _) rfl (fun _=>rfl) hrc ?_;(conv=>whnf);refine⟨_,⟨rfl,zL _,rfl,bL rfl⟩,?_⟩;(conv=>whnf);refine aE (fun h2=>?_) (fun h2=>?_)<;>conv=>whnf
   ·exact bE (.refl _) (fun _=>rfl)
   ·exfalso;have:e=0:=by simpa using h2
    omega
theorem FC {s:By} {t:Tree} (h:lJ s=.ok t):t.size<=1000:=by
 have hr:=A5 s;rw[h] at hr;have:=(CT hr).2.1;rw[qT] at this;exact this
theorem a1j [MaxL] (s:By) (hs:s.length<1000000):SC Tryz.prog 189 [.s s] [] (.val (.tup [.s (M7 s).1,.i .i64 (M7 s).2])) []:=by
 have hr:=PM s hs;have hrc:=BP s;unfold lD at hr hrc;unfold M7;cases hx:lJ s with
 |ok t=>
  rw[hx] at hr hrc;replace hr:SC Tryz.prog 190 [.s s] [] (.val (.tup [t.ng,.i .i64 0])) []:=hr;replace hrc:Cl (.tup [t.ng,.i .i64 0]):=hrc;have ht:=a1e t (FE hx) (by have:=FC hx;omega);have hcl:=t.ng_cl;obtain⟨k,kids,A,B,op,yes,hng⟩:=iK t;rw[hng] at hr hrc ht hcl;simp only;refine cY Tryz.func189 rfl ?_;conv=>whnf
  refine bD hr (wR _) rfl (fun _=>rfl) hrc ?_;conv=>whnf
  refine⟨_,⟨rfl,zL _,rfl,bL rfl⟩,?_⟩;conv=>whnf
  refine bD ht (wR _) rfl (cC hcl .nil) (fun _=>rfl) ?_;conv=>whnf
  exact bE (.refl _) (fun _=>rfl)
 |err e=>
  rw[hx] at hr hrc;replace hr:SC Tryz.prog 190 [.s s] [] (.val (.tup [tU,.i .i64 e])) []:=hr;replace hrc:Cl (.tup [tU,.i .i64 e]):=hrc;have he:=BO hx;simp only;refine cY Tryz.func189 rfl ?_;conv=>whnf
  refine bD hr (wR _) rfl (fun _=>rfl) hrc ?_;conv=>whnf
  refine⟨_,⟨rfl,zL _,rfl,bL rfl⟩,?_⟩;conv=>whnf
  refine aE (fun h2=>?_) (fun h2=>?_)<;>conv=>whnf
  ·exact bE (.refl _) (fun _=>rfl)
  ·exfalso;have:e=0:=by simpa using h2
   omega
