/-
  A part of the proof of SchemaChosen.
-/
import Derived.Test.YtcfgfkkhpdlhpaaGreatDoorR42
set_option linter.all false
set_option maxRecDepth 100000
namespace Go.Proofs.YtcfgfkkhpdlhpaaGreatDoor
open Go.RowKit
theorem VM [MaxL] (t:Term) (h:t.good):SC Tryz.prog 302 [.agg (UR t)] [] (.val (.s t.txt)) []:=by
 obtain⟨nm,vr,v⟩:=t;have h16:nm.length<=16:=by
  rcases h with⟨_,h2,_⟩|⟨h1,_⟩
  ·simp only at h2;cases nm with
   |nil=>simp
   |cons c u=>
    simp only[fP,aH,aK] at h2;exact h2.1.1
  ·simp only at h1;rw[h1];simp
 cases vr with
 |true=>
  have hn:nm≠[]:=by
   rcases h with⟨h1,_⟩|⟨_,h2,_⟩
   ·exact h1
   ·cases h2
  refine cX Tryz.func302 rfl ?_;conv=>whnf
  refine aF (fun h1=>?_) (fun h1=>?_)<;>conv=>whnf
  ·refine⟨by show 1+nm.length<4611686018427387904;omega,58::nm,rfl,?_⟩;(conv=>whnf);exact gG rfl
  ·exact absurd (by simpa using h1) hn
 |false=>
  by_cases hn:nm=[]
  ·subst hn;have hv:v.ok=true:=by
    rcases h with⟨h1,_⟩|⟨_,_,h3⟩
    ·exact absurd rfl h1
    ·exact h3
   obtain⟨b0,b1,b2⟩:=HU hv;have hw:=SL v (by omega) (by omega) (by omega);have e:Term.txt ⟨[],false,v⟩=eW v:=by
    show(if v.ok=true then eW v else[])=_;rw[aG hv]
   rw[e];refine cX Tryz.func302 rfl ?_;(conv=>whnf);refine bD hw (wR _) rfl (fun _=>rfl) (.s _) ?_;(conv=>whnf);exact gG rfl
  ·have e:Term.txt ⟨nm,false,v⟩=nm:=by
    show(if nm≠[] then nm else _)=_;rw[aG hn]
   rw[e];refine cX Tryz.func302 rfl ?_;(conv=>whnf);refine aF (fun h1=>?_) (fun h1=>?_)<;>conv=>whnf
   ·exact gG rfl
   ·exact absurd (by simpa using h1) hn
theorem uN (t:Tree):t.flat.level=t.level:=by
 cases t with
 |pair b l r=>
  rw[KI b];unfold dV;rw[aG rfl];obtain⟨x,y,e⟩:=yT b r (dV b none l);rw[e];rfl
 |_=>rfl
def kp (a:Bool) (y:Tree):By:=paren (decide (y.level<kX a)) y.flat.plain
def wj (a:Bool):List Tree->By
 |[]=>[]
 |x::xs=>xs.foldl (fun s y=>s++kW a++kp a y) (kp a x)
theorem GC (a:Bool):∀(xs:List Tree) (q:Tree),¬q.level<kX a->(xs.foldl (fun q y=>Tree.pair a q y.flat) q).plain=xs.foldl (fun s y=>s++kW a++kp a y) q.plain
 |[],q,_=>rfl
 |y::ys,q,h=>by
  rw[gX,gX,GC a ys (.pair a q y.flat) (by show¬kX a<kX a;omega)];congr 1;show paren (decide (q.level<kX a)) q.plain++kW a++paren (decide (y.flat.level<kX a)) y.flat.plain=_;rw[cE h,uN];rfl
theorem LW (a:Bool) (l r:Tree):(Tree.pair a l r).flat.plain=wj a ((Tree.pair a l r).sides a):=by
 obtain⟨x,xs,h1,h2⟩:=IE a l r;rw[h1,h2];have hlen:2<=(x::xs).length:=by
  rw[<-h1];have e:(Tree.pair a l r).sides a=l.sides a++r.sides a:=aG rfl;rw[e,aE];have h1:=List.length_pos_iff.2 (qL a l);have h2:=List.length_pos_iff.2 (qL a r);omega
 cases xs with
 |nil=>simp at hlen
 |cons y ys=>
  rw[gX,GC a ys (.pair a x.flat y.flat) (by show¬kX a<kX a;omega)];show _=ys.foldl _ (kp a x++kW a++kp a y);congr 1;show paren (decide (x.flat.level<kX a)) x.flat.plain++kW a++paren (decide (y.flat.level<kX a)) y.flat.plain=_;rw[uN,uN];rfl
theorem IT {a:Bool} {L:List Tree} {i:Nat} {y:Tree} (h:L[i]?=some y):wj a (L.take (i+1))=(if i=0 then[] else wj a (L.take i)++kW a)++kp a y:=by
 rw[bR,h];cases L with
 |nil=>cases h
 |cons x xs=>
  cases i with
  |zero=>simp at h;subst h;rfl
  |succ i=>
   rw[aD (by omega)];show wj a (x::xs.take i++[y])=wj a (x::xs.take i)++kW a++kp a y;show(xs.take i++[y]).foldl _ _=_;rw[List.foldl_append];rfl
theorem R4 (a:Bool):∀(xs:List Tree) (s:By),s.length<=(xs.foldl (fun s y=>s++kW a++kp a y) s).length
 |[],s=>rL _
 |y::ys,s=>by
  have:=R4 a ys (s++kW a++kp a y);rw[gX];simp only[aE] at this⊢;omega
theorem a1f (a:Bool) (L:List Tree) (i:Nat):(wj a (L.take i)).length<=(wj a L).length:=by
 cases L with
 |nil=>simp
 |cons x xs=>
  cases i with
  |zero=>simp[wj]
  |succ i=>
   have h1:wj a (x::xs)=(xs.drop i).foldl (fun s y=>s++kW a++kp a y) (wj a (x::xs.take i)):=by
    show xs.foldl (fun s y=>s++kW a++kp a y) (kp a x)=(xs.drop i).foldl _ ((xs.take i).foldl (fun s y=>s++kW a++kp a y) (kp a x));rw[<-List.foldl_append,dZ]
   rw[h1];exact R4 a _ _
theorem a0J {a:Bool} {L:List Tree} {i:Nat} {y:Tree} (h:L[i]?=some y):(wj a (L.take i)).length+(if i=0 then 0 else(kW a).length)+(kp a y).length<=(wj a L).length:=by
 have h1:=a1f a L (i+1);rw[IT h] at h1;split at h1
 ·rename_i h0;subst h0;rw[aG rfl];simp only[List.take_zero,wj,b4,List.nil_append] at h1⊢;omega
 ·rename_i h0;rw[aD h0];simp only[aE] at h1;omega
set_option maxHeartbeats 1000000 in
theorem VK [MaxL] (L:List Tree) (hL:L.length<=100000) (hb:(wj true L).length<1000000) (hc:∀y∈L,SC Tryz.prog 263 [y.ng] [] (.val (.s y.flat.plain)) []):
  SC Tryz.prog 263 [.agg (jU 2 (jS L) t0 t0 [] false)] [] (.val (.s (wj true L))) []:=by
 have hnl:(jS L).length=L.length:=eY L;refine cX Tryz.func263 rfl ?_;conv=>whnf
 refine eS (fun q:Nat×By=>q.1<=L.length/\wj true (L.take q.1)=q.2) (fun q=>[(1,.ptr 0 0),(4,.s q.2),(5,.i .i64 (q.1:Nat))]) (fun _=>⟨[.box 211 (jU 2 (jS L) t0 t0 [] false)],0,[]⟩) (fun q=>L.length - q.1) (0,[]) ⟨zL _,rfl⟩ ⟨rfl,rfl,rfl,trivial⟩ rfl (fun _ _=>rL _) (fun q _=>rfl) (fun q _ e he=>?_) (fun q φ0 hi=>?_)
 ·refine⟨?_,rfl,?_⟩
  ·show[(GObj.box _ (jU 2 (jS L) t0 t0 [] false)).ren e]=_;rw[eT (j9 (qX L) t0 t0 [] false) e]
  ·show[GV.ptr (e 0) 0,_,_]=_;rw[he 0 (by simp)];rfl
 obtain⟨i,S⟩:=q;obtain⟨hi,hSd⟩:=hi;replace hi:i<=L.length:=hi;replace hSd:wj true (L.take i)=S:=hSd;conv=>whnf
 refine aF (fun h=>?_) (fun h=>?_)<;>conv=>whnf
 rotate_left
 ·have hie:i=L.length:=by have:=aC h;rw[hnl] at this;omega
  refine gG ?_;rw[hie,b5] at hSd;exact hSd.symm
 have hlt:i<L.length:=by have:=aB h;rw[hnl] at this;omega
 obtain⟨y,hy⟩:∃y,L[i]?=some y:=⟨L[i],gL hlt⟩;have hgy:(jS L)[i]?=some (.agg y.ncs):=by unfold jS;rw[aM,hy];rfl
 have hcy:=hc y (aL hy);have hcl:Cl (.agg y.ncs):=y.ng_cl;have hsucc:=IT (a:=true) hy;have hkp:=a0J (a:=true) hy;replace hcy:SC Tryz.prog 263 [.agg y.ncs] [] (.val (.s y.flat.plain)) []:=hcy;have hform:∃k kids A B op yes,y.ncs=jU k kids A B op yes/\(k=1->kp true y=40::(y.flat.plain++[41]))/\(k≠1->kp true y=y.flat.plain):=by
  cases y with
  |pair b l r=>
   refine⟨_,_,_,_,_,_,t7 b l r,fun h=>?_,fun h=>?_⟩
   ·cases b with
    |true=>cases h
    |false=>rfl
   ·cases b with
    |true=>rfl
    |false=>exact absurd rfl h
  |no t=>exact⟨_,_,_,_,_,_,VW t,(fun h=>absurd h (by decide)),(fun h=>rfl)⟩
  |test op l r=>exact⟨_,_,_,_,_,_,M4 op l r,(fun h=>absurd h (by decide)),(fun h=>rfl)⟩
  |truth b=>exact⟨_,_,_,_,_,_,I0 b,(fun h=>absurd h (by decide)),(fun h=>rfl)⟩
 obtain⟨k,kids,A,B,op,yes,hncs,hk1,hk2⟩:=hform;rw[hncs] at hgy hcy hcl;generalize kp true y=K at*;generalize y.flat.plain=X at*;rw[hSd] at hsucc hkp;clear hncs hy;refine aF (fun hi0=>?_) (fun hi0=>?_)<;>conv=>whnf
 ·have hi0':i≠0:=by have:=aB hi0;omega
  rw[aD hi0'] at hsucc hkp;have e5:(kW true).length=5:=rfl;refine⟨by show S.length+5<4611686018427387904;omega,S++kW true,rfl,?_⟩;conv=>whnf
  refine aF (fun hi1=>?_) (fun hi1=>?_)<;>conv=>whnf
  rotate_left
  ·rw[hi0] at hi1;cases hi1
  refine⟨cN _,.agg (jU k kids A B op yes),by rw[aA];exact hgy,rfl,?_⟩;conv=>whnf
  refine aF (fun hk=>?_) (fun hk=>?_)<;>conv=>whnf
  ·skip;have h9:(k:Int)=1:=by simpa using hk
   have hK:=hk1 (by omega);rw[hK] at hsucc hkp;refine⟨by show(S++kW true).length+(([40]:By)).length<4611686018427387904;simp only[aE,aJ,b4] at*;omega,S++kW true++([40]:By),rfl,?_⟩;(conv=>whnf);refine⟨cN _,.agg (jU k kids A B op yes),by rw[aA];exact hgy,rfl,?_⟩;(conv=>whnf);refine bD hcy (wR _) rfl (cC hcl .nil) (.s _) ?_;(conv=>whnf);refine⟨by show(S++kW true++([40]:By)).length+(X).length<4611686018427387904;simp only[aE,aJ,b4] at*;omega,S++kW true++([40]:By)++X,rfl,?_⟩;(conv=>whnf);refine⟨by show(S++kW true++([40]:By)++X).length+(([41]:By)).length<4611686018427387904;simp only[aE,aJ,b4] at*;omega,S++kW true++([40]:By)++X++([41]:By),rfl,?_⟩;(conv=>whnf);have hfin:wj true (L.take (i+1))=S++kW true++([40]:By)++X++([41]:By):=by rw[hsucc];simp
   exact⟨L.length - (i+1),(by show _<L.length - i;omega),(i+1,_),⟨hlt,hfin⟩,rfl,⟨rfl,rfl,b7 (by omega),trivial⟩,[],rfl,rfl⟩
  ·skip;have h9:¬(k:Int)=1:=by simpa using hk
   have hK:=hk2 (by omega);rw[hK] at hsucc hkp;refine⟨cN _,.agg (jU k kids A B op yes),by rw[aA];exact hgy,rfl,?_⟩;(conv=>whnf);refine bD hcy (wR _) rfl (cC hcl .nil) (.s _) ?_;(conv=>whnf);refine⟨by show(S++kW true).length+(X).length<4611686018427387904;simp only[aE,aJ,b4] at*;omega,S++kW true++X,rfl,?_⟩;(conv=>whnf);have hfin:wj true (L.take (i+1))=S++kW true++X:=by rw[hsucc]
   exact⟨L.length - (i+1),(by show _<L.length - i;omega),(i+1,_),⟨hlt,hfin⟩,rfl,⟨rfl,rfl,b7 (by omega),trivial⟩,[],rfl,rfl⟩
 ·have hi0':i=0:=by have:=aC hi0;omega
  rw[aG hi0'] at hsucc hkp;have hS:S=[]:=by rw[<-hSd,hi0'];rfl
  rw[List.nil_append] at hsucc;refine aF (fun hi1=>?_) (fun hi1=>?_)<;>conv=>whnf
  ·rw[hi0] at hi1;cases hi1
  refine⟨cN _,.agg (jU k kids A B op yes),by rw[aA];exact hgy,rfl,?_⟩;conv=>whnf
  refine aF (fun hk=>?_) (fun hk=>?_)<;>conv=>whnf
  ·skip;have h9:(k:Int)=1:=by simpa using hk
   have hK:=hk1 (by omega);rw[hK] at hsucc hkp;refine⟨by show(S).length+(([40]:By)).length<4611686018427387904;simp only[aE,aJ,b4] at*;omega,S++([40]:By),rfl,?_⟩;(conv=>whnf);refine⟨cN _,.agg (jU k kids A B op yes),by rw[aA];exact hgy,rfl,?_⟩;(conv=>whnf);refine bD hcy (wR _) rfl (cC hcl .nil) (.s _) ?_;(conv=>whnf);refine⟨by show(S++([40]:By)).length+(X).length<4611686018427387904;simp only[aE,aJ,b4] at*;omega,S++([40]:By)++X,rfl,?_⟩;(conv=>whnf);refine⟨by show(S++([40]:By)++X).length+(([41]:By)).length<4611686018427387904;simp only[aE,aJ,b4] at*;omega,S++([40]:By)++X++([41]:By),rfl,?_⟩;(conv=>whnf);have hfin:wj true (L.take (i+1))=S++([40]:By)++X++([41]:By):=by rw[hsucc];rw[hS];rfl
   exact⟨L.length - (i+1),(by show _<L.length - i;omega),(i+1,_),⟨hlt,hfin⟩,rfl,⟨rfl,rfl,b7 (by omega),trivial⟩,[],rfl,rfl⟩
  ·skip;have h9:¬(k:Int)=1:=by simpa using hk
   have hK:=hk2 (by omega);rw[hK] at hsucc hkp;refine⟨cN _,.agg (jU k kids A B op yes),by rw[aA];exact hgy,rfl,?_⟩;(conv=>whnf);refine bD hcy (wR _) rfl (cC hcl .nil) (.s _) ?_;(conv=>whnf);refine⟨by show(S).length+(X).length<4611686018427387904;simp only[aE,aJ,b4] at*;omega,S++X,rfl,?_⟩;(conv=>whnf);have hfin:wj true (L.take (i+1))=S++X:=by rw[hsucc];rw[hS];rfl
   exact⟨L.length - (i+1),(by show _<L.length - i;omega),(i+1,_),⟨hlt,hfin⟩,rfl,⟨rfl,rfl,b7 (by omega),trivial⟩,[],rfl,rfl⟩
set_option maxHeartbeats 1000000 in
theorem YK [MaxL] (L:List Tree) (hL:L.length<=100000) (hb:(wj false L).length<1000000) (hc:∀y∈L,SC Tryz.prog 263 [y.ng] [] (.val (.s y.flat.plain)) []):
  SC Tryz.prog 263 [.agg (jU 1 (jS L) t0 t0 [] false)] [] (.val (.s (wj false L))) []:=by
 have hnl:(jS L).length=L.length:=eY L;refine cX Tryz.func263 rfl ?_;conv=>whnf
 refine eS (fun q:Nat×By=>q.1<=L.length/\wj false (L.take q.1)=q.2) (fun q=>[(1,.ptr 0 0),(4,.s q.2),(5,.i .i64 (q.1:Nat))]) (fun _=>⟨[.box 211 (jU 1 (jS L) t0 t0 [] false)],0,[]⟩) (fun q=>L.length - q.1) (0,[]) ⟨zL _,rfl⟩ ⟨rfl,rfl,rfl,trivial⟩ rfl (fun _ _=>rL _) (fun q _=>rfl) (fun q _ e he=>?_) (fun q φ0 hi=>?_)
 ·refine⟨?_,rfl,?_⟩
  ·show[(GObj.box _ (jU 1 (jS L) t0 t0 [] false)).ren e]=_;rw[eT (j9 (qX L) t0 t0 [] false) e]
  ·show[GV.ptr (e 0) 0,_,_]=_;rw[he 0 (by simp)];rfl
 obtain⟨i,S⟩:=q;obtain⟨hi,hSd⟩:=hi;replace hi:i<=L.length:=hi;replace hSd:wj false (L.take i)=S:=hSd;conv=>whnf
 refine aF (fun h=>?_) (fun h=>?_)<;>conv=>whnf
 rotate_left
 ·have hie:i=L.length:=by have:=aC h;rw[hnl] at this;omega
  refine gG ?_;rw[hie,b5] at hSd;exact hSd.symm
 have hlt:i<L.length:=by have:=aB h;rw[hnl] at this;omega
 obtain⟨y,hy⟩:∃y,L[i]?=some y:=⟨L[i],gL hlt⟩;have hgy:(jS L)[i]?=some (.agg y.ncs):=by unfold jS;rw[aM,hy];rfl
 have hcy:=hc y (aL hy);have hcl:Cl (.agg y.ncs):=y.ng_cl;have hsucc:=IT (a:=false) hy;have hkp:=a0J (a:=false) hy;replace hcy:SC Tryz.prog 263 [.agg y.ncs] [] (.val (.s y.flat.plain)) []:=hcy;have hK:kp false y=y.flat.plain:=by
  unfold kp paren;rw[aD];have:=pV y;show¬decide (y.level<1)=true;simp;omega
 obtain⟨k,kids,A,B,op,yes,hng⟩:=iI y;have hncs:y.ncs=jU k kids A B op yes:=by
  have h9:GV.agg y.ncs=GV.agg (jU k kids A B op yes):=hng;injection h9
 rw[hncs] at hgy hcy hcl;rw[hK] at hsucc hkp;clear hK hng;generalize y.flat.plain=X at*;rw[hSd] at hsucc hkp;clear hncs hy;refine aF (fun hi0=>?_) (fun hi0=>?_)<;>conv=>whnf
 ·have hi0':i≠0:=by have:=aB hi0;omega
  rw[aD hi0'] at hsucc hkp;have e5:(kW false).length=4:=rfl;refine aF (fun hi1=>?_) (fun hi1=>?_)<;>conv=>whnf
  rotate_left
  ·rw[hi0] at hi1;cases hi1
  refine⟨by show(S).length+(kW false).length<4611686018427387904;simp only[aE] at*;omega,S++kW false,rfl,?_⟩;conv=>whnf
  refine⟨cN _,.agg (jU k kids A B op yes),by rw[aA];exact hgy,rfl,?_⟩;conv=>whnf
  refine bD hcy (wR _) rfl (cC hcl .nil) (.s _) ?_;conv=>whnf
  refine⟨by show(S++kW false).length+(X).length<4611686018427387904;simp only[aE] at*;omega,S++kW false++X,rfl,?_⟩;conv=>whnf
  exact⟨L.length - (i+1),(by show _<L.length - i;omega),(i+1,_),⟨hlt,hsucc⟩,rfl,⟨rfl,rfl,b7 (by omega),trivial⟩,[],rfl,rfl⟩
 ·have hi0':i=0:=by have:=aC hi0;omega
  rw[aG hi0'] at hsucc hkp;have hS:S=[]:=by rw[<-hSd,hi0'];rfl
  rw[List.nil_append] at hsucc;refine aF (fun hi1=>?_) (fun hi1=>?_)<;>conv=>whnf
  ·rw[hi0] at hi1;cases hi1
  refine⟨cN _,.agg (jU k kids A B op yes),by rw[aA];exact hgy,rfl,?_⟩;conv=>whnf
  refine bD hcy (wR _) rfl (cC hcl .nil) (.s _) ?_;conv=>whnf
  refine⟨by show(S).length+(X).length<4611686018427387904;omega,S++X,rfl,?_⟩;conv=>whnf
  have hfin:wj false (L.take (i+1))=S++X:=by rw[hsucc,hS];rfl
  exact⟨L.length - (i+1),(by show _<L.length - i;omega),(i+1,_),⟨hlt,hfin⟩,rfl,⟨rfl,rfl,b7 (by omega),trivial⟩,[],rfl,rfl⟩
theorem YL [MaxL] (t:Tree) (hb:t.flat.plain.length<1000000) (hc:SC Tryz.prog 263 [t.ng] [] (.val (.s t.flat.plain)) []):
  SC Tryz.prog 263 [.agg (jU 3 [t.ng] t0 t0 [] false)] [] (.val (.s (jX++[32]++paren (decide (t.level<4)) t.flat.plain))) []:=by
 have hcl:=t.ng_cl;generalize t.flat.plain=X at*;cases t with
 |pair b l r=>
  rw[show(Tree.pair b l r).ng=.agg (jU (kX b) (jS ((Tree.pair b l r).sides b)) t0 t0 [] false) by show GV.agg _=_;rw[t7]] at hc hcl⊢;generalize jS ((Tree.pair b l r).sides b)=kids at*;have e:paren (decide ((Tree.pair b l r).level<4)) X=40::(X++[41]):=by cases b<;>rfl
  rw[e];cases b with
  |true=>
   refine cX Tryz.func263 rfl ?_;(conv=>whnf);refine⟨dP 0,.agg (jU (kX true) kids t0 t0 [] false),rfl,rfl,?_⟩;(conv=>whnf);refine⟨_,⟨rfl,zL _,rfl,bL rfl⟩,?_⟩;(conv=>whnf);refine bD hc (wR _) rfl (cC hcl .nil) (.s _) ?_;(conv=>whnf);refine⟨by show 5+X.length<4611686018427387904;omega,jX++[32,40]++X,rfl,?_⟩;(conv=>whnf);refine⟨by show(jX++[32,40]++X).length+1<4611686018427387904;simp only[aE] at*;show 3+2+X.length+1<_;omega,jX++[32,40]++X++[41],rfl,?_⟩;(conv=>whnf);exact gG (by show jX++[32,40]++X++[41]=jX++[32]++40::(X++[41]);simp)
  |false=>
   refine cX Tryz.func263 rfl ?_;(conv=>whnf);refine⟨dP 0,.agg (jU (kX false) kids t0 t0 [] false),rfl,rfl,?_⟩;(conv=>whnf);refine⟨_,⟨rfl,zL _,rfl,bL rfl⟩,?_⟩;(conv=>whnf);refine bD hc (wR _) rfl (cC hcl .nil) (.s _) ?_;(conv=>whnf);refine⟨by show 5+X.length<4611686018427387904;omega,jX++[32,40]++X,rfl,?_⟩;(conv=>whnf);refine⟨by show(jX++[32,40]++X).length+1<4611686018427387904;simp only[aE] at*;show 3+2+X.length+1<_;omega,jX++[32,40]++X++[41],rfl,?_⟩;(conv=>whnf);exact gG (by show jX++[32,40]++X++[41]=jX++[32]++40::(X++[41]);simp)
 |no t=>
  have e:paren (decide ((Tree.no t).level<4)) X=40::(X++[41]):=rfl;rw[e];rw[show(Tree.no t).ng=.agg (jU 3 [t.ng] t0 t0 [] false) from rfl] at hc hcl⊢;refine cX Tryz.func263 rfl ?_;conv=>whnf
  refine⟨dP 0,.agg (jU 3 [t.ng] t0 t0 [] false),rfl,rfl,?_⟩;conv=>whnf
  refine⟨_,⟨rfl,zL _,rfl,bL rfl⟩,?_⟩;conv=>whnf
  refine bD hc (wR _) rfl (cC hcl .nil) (.s _) ?_;conv=>whnf
  refine⟨by show 5+X.length<4611686018427387904;omega,jX++[32,40]++X,rfl,?_⟩;conv=>whnf
  refine⟨by show(jX++[32,40]++X).length+1<4611686018427387904;simp only[aE] at*;show 3+2+X.length+1<_;omega,jX++[32,40]++X++[41],rfl,?_⟩;conv=>whnf
  exact gG (by show jX++[32,40]++X++[41]=jX++[32]++40::(X++[41]);simp)
 |test op l r=>
  rw[show(Tree.test op l r).ng=.agg (jU 4 [] l r op false) from rfl] at hc hcl⊢;refine cX Tryz.func263 rfl ?_;conv=>whnf
  refine⟨dP 0,.agg (jU 4 [] l r op false),rfl,rfl,?_⟩;conv=>whnf
  refine⟨_,⟨rfl,zL _,rfl,bL rfl⟩,?_⟩;conv=>whnf
  refine bD hc (wR _) rfl (cC hcl .nil) (.s _) ?_;conv=>whnf
  refine⟨by show 4+X.length<4611686018427387904;omega,jX++[32]++X,rfl,?_⟩;conv=>whnf
  exact gG rfl
 |truth b=>
  rw[show(Tree.truth b).ng=.agg (jU 5 [] t0 t0 [] b) from rfl] at hc hcl⊢;refine cX Tryz.func263 rfl ?_;conv=>whnf
  refine⟨dP 0,.agg (jU 5 [] t0 t0 [] b),rfl,rfl,?_⟩;conv=>whnf
  refine⟨_,⟨rfl,zL _,rfl,bL rfl⟩,?_⟩;conv=>whnf
  refine bD hc (wR _) rfl (cC hcl .nil) (.s _) ?_;conv=>whnf
  refine⟨by show 4+X.length<4611686018427387904;omega,jX++[32]++X,rfl,?_⟩;conv=>whnf
  exact gG rfl
theorem SM [MaxL] (op:By) (l r:Term) (ho:op.length<=2) (hl:l.good) (hr:r.good) (hl1:l.txt.length<=200) (hr1:r.txt.length<=200):
  SC Tryz.prog 263 [.agg (jU 4 [] l r op false)] [] (.val (.s (l.txt++[32]++op++[32]++r.txt))) []:=by
 have s1:=VM l hl;have s2:=VM r hr;generalize l.txt=x1 at*;generalize r.txt=x2 at*;refine cX Tryz.func263 rfl ?_;conv=>whnf
 refine b6 (by kernel_rfl) ?_;conv=>whnf
 refine bD s1 (wR _) rfl (cC (eL (B4 l)) .nil) (.s _) ?_;conv=>whnf
 refine⟨by show x1.length+1<4611686018427387904;omega,x1++[32],rfl,?_⟩;conv=>whnf
 refine⟨by show(x1++[32]).length+op.length<4611686018427387904;rw[aE];show x1.length+1+op.length<_;omega,x1++[32]++op,rfl,?_⟩;conv=>whnf
 refine⟨by show(x1++[32]++op).length+1<4611686018427387904;rw[aE,aE];show x1.length+1+op.length+1<_;omega,x1++[32]++op++[32],rfl,?_⟩;conv=>whnf
 refine bD s2 (wR _) rfl (cC (eL (B4 r)) .nil) (.s _) ?_;conv=>whnf
 refine⟨by show(x1++[32]++op++[32]).length+x2.length<4611686018427387904;rw[aE,aE,aE];show x1.length+1+op.length+1+x2.length<_;omega,x1++[32]++op++[32]++x2,rfl,?_⟩;conv=>whnf
 exact gG rfl
theorem OF [MaxL] (b:Bool):SC Tryz.prog 263 [.agg (jU 5 [] t0 t0 [] b)] [] (.val (.s (if b then kV else jN))) []:=by
 cases b with
 |true=>
  refine cX Tryz.func263 rfl ?_;conv=>whnf
  exact gG rfl
 |false=>
  refine cX Tryz.func263 rfl ?_;conv=>whnf
  exact gG rfl
theorem yQ {a:Bool}:∀{t x:Tree},t.good->x∈t.sides a->x.good
 |.pair b l r,x,h,hx=>by
  unfold Tree.sides at hx;split at hx
  ·rcases List.mem_append.1 hx with hx|hx
   ·exact yQ h.1 hx
   ·exact yQ h.2 hx
  ·simp at hx;subst hx;exact h
 |.no t,x,h,hx=>by simp[Tree.sides] at hx;subst hx;exact h
 |.test _ _ _,x,h,hx=>by simp[Tree.sides] at hx;subst hx;exact h
 |.truth _,x,h,hx=>by simp[Tree.sides] at hx;subst hx;exact h
theorem DJ {t:Term} (h:t.good):t.name.length<=16/\t.txt.length<=180:=by
 obtain⟨nm,vr,v⟩:=t;rcases h with⟨h1,h2,_⟩|⟨h1,h2,h3⟩
 ·simp only at h1 h2;have h16:nm.length<=16:=by
   cases nm with
   |nil=>simp
   |cons c u=>
    simp only[fP,aH,aK] at h2;exact h2.1.1
  refine⟨h16,?_⟩;cases vr with
  |true=>show(58::nm).length<=180;simp;omega
  |false=>show(if nm≠[] then nm else _).length<=180;rw[aG h1];omega
 ·simp only at h1 h2 h3;subst h1;subst h2;refine⟨zL _,?_⟩;show(if v.ok=true then eW v else[]).length<=180;rw[aG h3];have:=C5 h3;omega
theorem JJ {t:Tree}:t.good->t.nice:=by
 induction t with
 |pair a l r i1 i2=>exact fun h=>⟨i1 h.1,i2 h.2⟩
 |no t i=>exact fun h=>i h
 |test op l r=>exact fun h=>⟨B6 h.1,DJ h.2.1,DJ h.2.2⟩
 |truth b=>exact fun _=>trivial
theorem yH [MaxL]:∀(n:Nat) (t:Tree),t.size<=n->t.size<=2100->t.good->SC Tryz.prog 263 [t.ng] [] (.val (.s t.flat.plain)) []
 |0,t,h,_,_=>by cases t<;>simp[Tree.size] at h
 |n+1,t,h,h2,hg=>by
  have hb:t.flat.plain.length<1000000:=by
   have:=qT t.flat (tS (JJ hg));rw[pZ] at this;omega
  cases t with
  |truth b=>exact OF b
  |test op l r=>
   have:=SM op l r (B6 hg.1) hg.2.1 hg.2.2 (by have:=(DJ hg.2.1).2;omega) (by have:=(DJ hg.2.2).2;omega);exact this
  |no t=>
   simp only[Tree.size] at h h2;have e:(Tree.no t).flat.plain=jX++[32]++paren (decide (t.level<4)) t.flat.plain:=by
    show jX++[32]++paren (decide (t.flat.level<4)) t.flat.plain=_;rw[uN]
   rw[e] at hb⊢;have hb2:t.flat.plain.length<1000000:=by
    have:=qT t.flat (tS (JJ (show t.good from hg)));rw[pZ] at this;omega
   exact YL t hb2 (yH n t (by omega) (by omega) hg)
  |pair a l r=>
   have hs:=@mJ a (Tree.pair a l r);have hk:∀y∈(Tree.pair a l r).sides a,SC Tryz.prog 263 [y.ng] [] (.val (.s y.flat.plain)) []:=fun y hy=>by
    have:=EK hy;exact yH n y (by omega) (by omega) (yQ hg hy)
   rw[LW] at hb⊢;rw[show(Tree.pair a l r).ng=.agg (jU (kX a) (jS ((Tree.pair a l r).sides a)) t0 t0 [] false) by show GV.agg _=_;rw[t7]];cases a with
   |true=>exact VK _ (by omega) hb hk
   |false=>exact YK _ (by omega) hb hk
theorem PZ:∀(n:Nat) (l:List UInt8),l.length<=n->∀w∈iE l,w.length<=l.length
 |0,l,h,w,hw=>by
  have:l=[]:=aN (by omega);subst this;rw[kE rfl] at hw;cases hw
 |n+1,l,h,w,hw=>by
  cases hk:skip l with
  |nil=>rw[kE hk] at hw;cases hw
  |cons c t=>
   rw[mI hk] at hw;have h1:=z8 l;rw[hk] at h1;have h2:=mY c t;simp only[aJ] at h1;rcases List.mem_cons.1 hw with rfl|hw
   ·unfold GU;rw[bQ];simp only[aJ];omega
   ·have:=PZ n ((c::t).drop (l9 (c::t))) (by simp;omega) w hw;simp at this;omega
def t6:GV:=.agg (jU 0 [] t0 t0 [] false)
def l4 (s:By):GV:=match l7 s with
 |.ok t=>.tup [t.ng,.i .i64 0]
 |.err e=>.tup [t6,.i .i64 e]
theorem sZ [MaxL]:Cl t6:=eL (j9 dL t0 t0 [] false)
theorem B8 [MaxL] (s:By):Cl (l4 s):=by
 unfold l4;split
 ·exact fH (.cons (Tree.ng_cl _) (.cons (.i _ _) .nil))
 ·exact fH (.cons sZ (.cons (.i _ _) .nil))
theorem OH [MaxL] (s:By) (hs:s.length<1000000):SC Tryz.prog 190 [.s s] [] (.val (l4 s)) []:=by
 by_cases hl:1000<s.length
 ·have e:l4 s=.tup [t6,.i .i64 3]:=by unfold l4 l7;rw[aG hl]
  rw[e];refine cX Tryz.func190 rfl ?_;conv=>whnf
  refine aF (fun h=>?_) (fun h=>?_)<;>conv=>whnf
  ·skip;refine⟨_,⟨rfl,zL _,rfl,bL rfl⟩,?_⟩;(conv=>whnf);exact bC (sO hU (.refl _)) (fH (.cons sZ (.cons (.i _ _) .nil)))
  ·exfalso;have:=aC h;omega
 ·have hsp:=YH s hs;cases hss:B0 s with
  |none=>
   rw[hss] at hsp;have e:l4 s=.tup [t6,.i .i64 2]:=by unfold l4 l7;rw[aD hl,hss]
   rw[e];replace hsp:SC Tryz.prog 230 [.s s] [] (.val (.tup [.sl .none [],.b false])) []:=hsp;refine cX Tryz.func190 rfl ?_;(conv=>whnf);refine aF (fun h=>?_) (fun h=>?_)<;>conv=>whnf
   ·exfalso;have:=aB h;omega
   refine bD hsp (wR _) rfl (fun _=>rfl) (fun _=>rfl) ?_;(conv=>whnf);refine⟨_,⟨rfl,zL _,rfl,bL rfl⟩,?_⟩;(conv=>whnf);exact bC (sO hU (.refl _)) (fH (.cons sZ (.cons (.i _ _) .nil)))
  |some ws=>
   rw[hss] at hsp;replace hsp:SC Tryz.prog 230 [.s s] [] (.val (.tup [.sl .none (b9 ws),.b true])) []:=hsp;have ht:=vP _ _ _ hss;have hwl:=sQ s.length s (rL _);rw[ht] at hwl;have hx:∀w∈ws,w.length<1000000:=fun w hw=>by
    have:=PZ s.length s (rL _) w (by rw[ht];exact hw);omega
   have h4:=(a2D ws (by omega) hx (jH s) 0 0 0 (zL _) (by omega)).1 (by unfold jH;omega);rw[List.drop_zero] at h4;have hcl0:Cl (.tup [.sl .none (b9 ws),.b true]):=fH (.cons (bS (uD ws)) (.cons (.b _) .nil));cases hp:bP iA (jH s) .or 0 0 ws with
   |none=>
    rw[hp] at h4;obtain⟨t,a',l',b1,b2,b3,hc⟩:=h4;have e:l4 s=.tup [t6,.i .i64 2]:=by unfold l4 l7;rw[aD hl,hss];simp only;rw[hp]
    rw[e];have hcl:=t.ng_cl;obtain⟨k,kids,A,B,op,yes,hng⟩:=iI t;rw[hng] at hc hcl;refine cX Tryz.func190 rfl ?_;(conv=>whnf);refine aF (fun h=>?_) (fun h=>?_)<;>conv=>whnf
    ·exfalso;have:=aB h;omega
    refine bD hsp (wR _) rfl (fun _=>rfl) hcl0 ?_;(conv=>whnf);refine aW (q:=1) hc rfl (wR _) rfl rfl bO bO (fun _=>rfl) hcl ?_;(conv=>whnf);refine⟨_,⟨rfl,zL _,rfl,bL rfl⟩,?_⟩;(conv=>whnf);refine⟨_,⟨rfl,zL _,rfl,bL rfl⟩,?_⟩;(conv=>whnf);exact bC (sO hU (.refl _)) (fH (.cons sZ (.cons (.i _ _) .nil)))
   |some p=>
    obtain⟨t,r,e⟩:=p;rw[hp] at h4;obtain⟨a',b1,b2,hr,b3,hc⟩:=h4;have hcl:=t.ng_cl;obtain⟨k,kids,A,B,op,yes,hng⟩:=iI t;have hsl:=aP ws;by_cases hlt:a'<ws.length
    ·have e:l4 s=.tup [t6,.i .i64 2]:=by
      unfold l4 l7;rw[aD hl,hss];simp only;rw[hp];simp only;rw[aD (by intro h;rw[h] at hr;have:=aQ List.length hr;simp at this;omega)]
     rw[e];rw[hng] at hc hcl;refine cX Tryz.func190 rfl ?_;(conv=>whnf);refine aF (fun h=>?_) (fun h=>?_)<;>conv=>whnf
     ·exfalso;have:=aB h;omega
     refine bD hsp (wR _) rfl (fun _=>rfl) hcl0 ?_;(conv=>whnf);refine aW (q:=1) hc rfl (wR _) rfl rfl bO bO (fun _=>rfl) hcl ?_;(conv=>whnf);refine⟨_,⟨rfl,zL _,rfl,bL rfl⟩,?_⟩;(conv=>whnf);refine aF (fun h2=>?_) (fun h2=>?_)<;>conv=>whnf
     ·skip;refine⟨_,⟨rfl,zL _,rfl,bL rfl⟩,?_⟩;(conv=>whnf);exact bC (sO hU (.refl _)) (fH (.cons sZ (.cons (.i _ _) .nil)))
     ·exfalso;have:=aC h2;omega
    ·have hr0:r=[]:=by rw[hr];exact List.drop_eq_nil_of_le (by omega)
     by_cases h20:20<e
     ·have e:l4 s=.tup [t6,.i .i64 4]:=by
       unfold l4 l7;rw[aD hl,hss];simp only;rw[hp];simp only;rw[aG hr0,aG h20]
      rw[e];rw[hng] at hc hcl;rw[bM h20] at hc;refine cX Tryz.func190 rfl ?_;(conv=>whnf);refine aF (fun h=>?_) (fun h=>?_)<;>conv=>whnf
      ·exfalso;have:=aB h;omega
      refine bD hsp (wR _) rfl (fun _=>rfl) hcl0 ?_;(conv=>whnf);refine aW (q:=1) hc rfl (wR _) rfl rfl bO bO (fun _=>rfl) hcl ?_;(conv=>whnf);refine⟨_,⟨rfl,zL _,rfl,bL rfl⟩,?_⟩;(conv=>whnf);refine aF (fun h2=>?_) (fun h2=>?_)<;>conv=>whnf
      ·exfalso;have:=aB h2;omega
      ·skip;refine⟨_,⟨rfl,zL _,rfl,bL rfl⟩,?_⟩;(conv=>whnf);exact bC (sO hU (.refl _)) (fH (.cons sZ (.cons (.i _ _) .nil)))
     ·have e:l4 s=.tup [t.ng,.i .i64 0]:=by
       unfold l4 l7;rw[aD hl,hss];simp only;rw[hp];simp only;rw[aG hr0,aD h20]
      rw[e];rw[hng] at hc hcl⊢;rw[cE h20] at hc;refine cX Tryz.func190 rfl ?_;(conv=>whnf);refine aF (fun h=>?_) (fun h=>?_)<;>conv=>whnf
      ·exfalso;have:=aB h;omega
      refine bD hsp (wR _) rfl (fun _=>rfl) hcl0 ?_;(conv=>whnf);refine aW (q:=1) hc rfl (wR _) rfl rfl bO bO (fun _=>rfl) hcl ?_;(conv=>whnf);refine⟨_,⟨rfl,zL _,rfl,bL rfl⟩,?_⟩;(conv=>whnf);refine aF (fun h2=>?_) (fun h2=>?_)<;>conv=>whnf
      ·exfalso;have:=aB h2;omega
      ·skip;refine⟨_,⟨rfl,zL _,rfl,bL rfl⟩,?_⟩;(conv=>whnf);exact bC (.refl _) (fH (.cons hcl (.cons (.i _ _) .nil)))
theorem B7 {s:By} {e:Int} (h:l7 s=.err e):e=2∨e=3∨e=4:=by
 unfold l7 at h;split at h
 ·cases h;omega
 ·split at h
  ·cases h;omega
  ·split at h
   ·split at h
    ·split at h
     ·cases h;omega
     ·cases h
    ·cases h;omega
   ·cases h;omega
theorem a0p [MaxL] (t:Tree) (hg:t.good) (hz:t.size<=2100):SC Tryz.prog 229 [t.ng] [] (.val (.tup [.s (HI t).1,.i .i64 (HI t).2])) []:=by
 have hw:=yH 2100 t hz hz hg;have hcl:=t.ng_cl;have hb:=qT t.flat (tS (JJ hg));rw[pZ] at hb;have hr:=OH t.flat.plain (by omega);have hrc:=B8 t.flat.plain;unfold l4 at hr hrc;obtain⟨k,kids,A,B,op,yes,hng⟩:=iI t;rw[hng] at hw hcl⊢;unfold HI;clear hg hng;generalize t.flat.plain=X at*;by_cases hl:1000<X.length
 ·rw[aG hl];refine cX Tryz.func229 rfl ?_;conv=>whnf
  refine bD hw (wR _) rfl (cC hcl .nil) (.s _) ?_;conv=>whnf
  refine aF (fun h=>?_) (fun h=>?_)<;>conv=>whnf
  ·exact bC (.refl _) (fun _=>rfl)
  ·exfalso;have:=aC h;omega
 ·rw[aD hl];cases hx:l7 X with
  |ok u=>
   rw[hx] at hr hrc;replace hr:SC Tryz.prog 190 [.s X] [] (.val (.tup [u.ng,.i .i64 0])) []:=hr;replace hrc:Cl (.tup [u.ng,.i .i64 0]):=hrc;obtain⟨k2,kids2,A2,B2,op2,yes2,hng2⟩:=iI u;rw[hng2] at hr hrc;refine cX Tryz.func229 rfl ?_;(conv=>whnf);refine bD hw (wR _) rfl (cC hcl .nil) (.s _) ?_;(conv=>whnf);refine aF (fun h=>?_) (fun h=>?_)<;>conv=>whnf
   ·exfalso;have:=aB h;omega
   refine bD hr (wR _) rfl (fun _=>rfl) hrc ?_;(conv=>whnf);refine⟨_,⟨rfl,zL _,rfl,bL rfl⟩,?_⟩;(conv=>whnf);exact bC (.refl _) (fun _=>rfl)
  |err e=>
   rw[hx] at hr hrc;replace hr:SC Tryz.prog 190 [.s X] [] (.val (.tup [t6,.i .i64 e])) []:=hr;replace hrc:Cl (.tup [t6,.i .i64 e]):=hrc;have he:=B7 hx;refine cX Tryz.func229 rfl ?_;(conv=>whnf);refine bD hw (wR _) rfl (cC hcl .nil) (.s _) ?_;(conv=>whnf);refine aF (fun h=>?_) (fun h=>?_)<;>conv=>whnf
   ·exfalso;have:=aB h;omega
   refine bD hr (wR _) rfl (fun _=>rfl) hrc ?_;(conv=>whnf);refine⟨_,⟨rfl,zL _,rfl,bL rfl⟩,?_⟩;(conv=>whnf);refine aF (fun h2=>?_) (fun h2=>?_)<;>conv=>whnf
   ·exact bC (.refl _) (fun _=>rfl)
   ·exfalso;have:e=0:=by simpa using h2
    omega
theorem ET {s:By} {t:Tree} (h:l7 s=.ok t):t.size<=1000:=by
 have hr:=zI s;rw[h] at hr;have:=(CB hr).2.1;rw[pZ] at this;exact this
theorem a0u [MaxL] (s:By) (hs:s.length<1000000):SC Tryz.prog 189 [.s s] [] (.val (.tup [.s (L9 s).1,.i .i64 (L9 s).2])) []:=by
 have hr:=OH s hs;have hrc:=B8 s;unfold l4 at hr hrc;unfold L9;cases hx:l7 s with
 |ok t=>
  rw[hx] at hr hrc;replace hr:SC Tryz.prog 190 [.s s] [] (.val (.tup [t.ng,.i .i64 0])) []:=hr;replace hrc:Cl (.tup [t.ng,.i .i64 0]):=hrc;have ht:=a0p t (EU hx) (by have:=ET hx;omega);have hcl:=t.ng_cl;obtain⟨k,kids,A,B,op,yes,hng⟩:=iI t;rw[hng] at hr hrc ht hcl;simp only;refine cX Tryz.func189 rfl ?_;conv=>whnf
  refine bD hr (wR _) rfl (fun _=>rfl) hrc ?_;conv=>whnf
  refine⟨_,⟨rfl,zL _,rfl,bL rfl⟩,?_⟩;conv=>whnf
  refine bD ht (wR _) rfl (cC hcl .nil) (fun _=>rfl) ?_;conv=>whnf
  exact bC (.refl _) (fun _=>rfl)
 |err e=>
  rw[hx] at hr hrc;replace hr:SC Tryz.prog 190 [.s s] [] (.val (.tup [t6,.i .i64 e])) []:=hr;replace hrc:Cl (.tup [t6,.i .i64 e]):=hrc;have he:=B7 hx;simp only;refine cX Tryz.func189 rfl ?_;conv=>whnf
  refine bD hr (wR _) rfl (fun _=>rfl) hrc ?_;conv=>whnf
  refine⟨_,⟨rfl,zL _,rfl,bL rfl⟩,?_⟩;conv=>whnf
  refine aF (fun h2=>?_) (fun h2=>?_)<;>conv=>whnf
  ·exact bC (.refl _) (fun _=>rfl)
  ·exfalso;have:e=0:=by simpa using h2
   omega
