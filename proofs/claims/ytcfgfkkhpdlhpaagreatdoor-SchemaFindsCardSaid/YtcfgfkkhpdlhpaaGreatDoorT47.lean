/-
  A part of the proof of SchemaFinds.
-/
import Derived.Test.YtcfgfkkhpdlhpaaGreatDoorT46
import Derived.LaidMore
import Derived.LaidLaws
import Derived.OpenShut
import Derived.ProofKit
import Derived.Stop.Joined
import Derived.Test.YtcfgfkkhpdlhpaaGreatDoorRows
set_option linter.all false
set_option maxRecDepth 100000
namespace Go.Proofs.YtcfgfkkhpdlhpaaGreatDoor
open Go.RowKit
def r8 (l:List By):Bool:=(l.take 20).all (fun i=>decide (i.length<=100))&&decide (l.length<=20)
theorem RX [MaxL] (l:List By):SC Tryz.prog 49 [.sl .none (aZ l)] [] (.val (.b (r8 l))) []:=by
 have hle:decide (((aZ l).length:Int)<=20)=decide (l.length<=20):=by rw[aP,decide_eq_decide];omega
 unfold r8;rw[<-hle];refine cZ Tryz.func49 rfl ?_;conv=>whnf
 refine cK 0 l.length (fun i _=>i<=20/\∀z∈l.take i,decide (z.length<=100)=true) (fun i _=>[(0,.sl .none (aZ l)),(3,.i .i64 (i:Nat))]) (fun _ (_:Unit)=>[]) [] () ⟨zL _,by simp⟩ (fun i _ φ0 hi hok=>?_);have fin9:(i=l.length∨i=20)->(l.take 20).all (fun i=>decide (i.length<=100))=true:=fun hh=>by
  rw[aS];intro x hx;refine hok.2 x ?_;rcases hh with rfl|rfl
  ·rw[b7];exact List.mem_of_mem_take hx
  ·exact hx
 conv=>whnf
 refine aF (fun h=>?_) (fun h=>?_)<;>conv=>whnf
 rotate_left
 ·rw[fin9 (.inl (by have:=aB h;rw[aP] at this;omega))];exact d6 0
 have hlt:i<l.length:=by have:=aA h;rw[aP] at this;omega
 refine aF (fun h2=>?_) (fun h2=>?_)<;>conv=>whnf
 rotate_left
 ·rw[fin9 (.inr (by have:=aB h2;omega))];exact d6 0
 have hlt2:i<20:=by have:=aA h2;omega
 refine(gQ hlt).elim fun y hy=>?_;refine ix (cE hy) ⟨rfl,?_⟩;conv=>whnf
 refine aF (fun h3=>?_) (fun h3=>?_)<;>conv=>whnf
 ·rw[n9 (l:=l.take 20) (i:=i) (y:=y) (by rw[dJ,aG hlt2];exact hy) (cW (by have:=aA h3;omega))];exact d6 0
 ·exact nx () hlt ⟨hlt,by omega,sE hy (bS (by have:=aB h3;omega)) hok.2⟩
def arz (a:Ar):Nat:=a.name.length
def UW (r:Rc):Nat:=r.name.length+r.area.length+r.via.length+r.check.length
def mbz (m:Mb):Nat:=m.of.length
def kyz (y:Ky):Nat:=y.item.length
def YL (t:Sy):Nat:=t.name.length+t.owner.length+(t.ms.map mbz).sum+(t.keys.map kyz).sum
def HB (r:Rc):Bool:=BM r.its&&r8 r.keys
def zR (t:Sy):Bool:=!(decide (t.ms.length>10)||decide (t.keys.length>10))&&t.ms.all fun m=>r8 m.sel
def sK (s:Sch):Bool:=!(decide (s.ar.length>12)||decide (s.rc.length>20)||decide (s.st.length>70))&&(s.rc.all HB&&(s.st.all zR&&decide ((s.ar.map arz).sum+(s.rc.map UW).sum+(s.st.map YL).sum<=6000)))
def cap:Nat:=140737488355328
def VT (s:Sch):Prop:=(∀a∈s.ar,a.name.length<=cap)/\(∀r∈s.rc,r.name.length<=cap/\r.area.length<=cap/\r.via.length<=cap/\r.check.length<=cap)/\
 ∀t∈s.st,t.name.length<=cap/\t.owner.length<=cap/\(∀m∈t.ms,m.of.length<=cap)/\∀y∈t.keys,y.item.length<=cap
theorem zK [MaxL] {a b:Nat} (h:a+b<=4000000000000000000):IntKind.i64.wrap (((a:Nat):Int)+((b:Nat):Int))=((a+b:Nat):Int):=by rw[cD (by omega) (by omega)];omega
theorem w5 {α:Type} {f:α->Nat} {l:List α} {k:Nat} {x:α} (h:l[k]?=some x):((l.take (k+1)).map f).sum=((l.take k).map f).sum+f x:=by
 rw[bR,h,cO,List.sum_append];simp
theorem pN {α:Type} {f:α->Nat} {l:List α} {k:Nat} (h:l.length<=k):((l.take k).map f).sum=(l.map f).sum:=by rw[bX h]
theorem VF {α:Type} {f:α->Nat} {l:List α} {c:Nat} (h:∀x∈l,f x<=c):(l.map f).sum<=l.length*c:=by
 induction l with
 |nil=>exact zL _
 |cons x l ih=>
  have h1:=ih fun y hy=>h y (f6 _ hy);have h2:=h x fO;rw[dO,List.sum_cons,aJ,Nat.succ_mul];omega
theorem JD {α:Type} {f:α->Nat} {l:List α} {c n k:Nat} (h:∀x∈l,f x<=c) (hk:k<=n):((l.take k).map f).sum<=n*c:=by
 have h1:=VF (f:=f) (l:=l.take k) fun x hx=>h x (List.mem_of_mem_take hx);have h2:(l.take k).length<=n:=by rw[bN];omega
 exact e8 h1 (j1 _ h2)
set_option maxHeartbeats 8000000 in
theorem a00 [MaxL] (s:Sch) (ht:VT s):SC Tryz.prog 10 [lC s] [] (.val (.b (sK s))) []:=by
 obtain⟨ta,tr,tt⟩:=ht;have la:(vX s.ar).length=s.ar.length:=fN _ _;have lr:(vU s.rc).length=s.rc.length:=fN _ _;have lt:(rP s.st).length=s.st.length:=fN _ _;generalize hX:sK s=X;unfold sK at hX;refine cZ Tryz.func10 rfl ?_;conv=>whnf
 refine aF (fun h=>?_) (fun h=>?_)<;>rw[la] at h<;>conv=>whnf
 ·rw[bS (p:=s.ar.length>12) (by have:=aA h;omega)] at hX;exact d7 hX
 refine aF (fun h2=>?_) (fun h2=>?_)<;>rw[lr] at h2<;>conv=>whnf
 ·rw[bS (p:=s.rc.length>20) (by have:=aA h2;omega),Bool.or_true] at hX;exact d7 hX
 refine aF (fun h3=>?_) (fun h3=>?_)<;>rw[lt] at h3<;>conv=>whnf
 ·rw[bS (p:=s.st.length>70) (by have:=aA h3;omega),Bool.or_true] at hX;exact d7 hX
 have b1:s.ar.length<=12:=by have:=aB h;omega
 have b2:s.rc.length<=20:=by have:=aB h2;omega
 have b3:s.st.length<=70:=by have:=aB h3;omega
 rw[cW (p:=s.ar.length>12) (by omega),cW (p:=s.rc.length>20) (by omega),cW (p:=s.st.length>70) (by omega)] at hX;replace hX:(s.rc.all HB&&(s.st.all zR&&decide ((s.ar.map arz).sum+(s.rc.map UW).sum+(s.st.map YL).sum<=6000)))=X:=hX;clear h h2 h3;have ca:∀i,i<=12->((s.ar.take i).map arz).sum<=12*cap:=fun i hi=>JD ta hi;have cr:∀i,i<=20->((s.rc.take i).map UW).sum<=20*(4*cap):=fun i hi=>JD (fun r hr=>by have:=tr r hr;unfold UW;omega) hi;unfold cap at ca cr;refine cK 1 s.ar.length (fun i n=>n=((s.ar.take i).map arz).sum) (fun i n=>[(1,.ptr 0 0),(3,.i .i64 (n:Nat)),(4,.i .i64 (i:Nat))]) (fun i _=>[.box 26 (lI s)]) [] 0 rfl (fun i n φ0 hi hn=>?_);conv=>whnf
 refine aF (fun h=>?_) (fun h=>?_)<;>conv=>whnf
 ·have hlt:i<s.ar.length:=by have:=aA h;rw[la] at this;omega
  refine(gQ hlt).elim fun y hy=>?_;have hs:=w5 (f:=arz) hy;have hc:=ca (i+1) (by omega);refine ix (cE hy) ⟨rfl,?_⟩;conv=>whnf
  exact nx (((s.ar.take (i+1)).map arz).sum) hlt ⟨hlt,rfl⟩ rfl ⟨rfl,by show GV.i .i64 (IntKind.i64.wrap ((n:Int)+(y.name.length:Nat)))=_;rw[zK (by subst hn;unfold arz at*;omega),hs,hn];rfl,b8 (by omega),trivial⟩
 have e1:n=(s.ar.map arz).sum:=hn.trans (pN (by have:=aB h;rw[la] at this;omega));have c1:=ca s.ar.length b1;rw[pN (rL _),<-e1] at c1;rw[<-e1] at hX;clear h e1 hn;refine cK 1 s.rc.length (fun i m=>m=n+((s.rc.take i).map UW).sum/\∀r∈s.rc.take i,HB r=true) (fun i m=>[(1,.ptr 0 0),(3,.i .i64 (m:Nat)),(5,.i .i64 (i:Nat))]) (fun i _=>[.box 26 (lI s)]) [] n ⟨rfl,by simp⟩ (fun i m φ1 hi hm=>?_);conv=>whnf
 refine aF (fun h=>?_) (fun h=>?_)<;>conv=>whnf
 ·have hlt:i<s.rc.length:=by have:=aA h;rw[lr] at this;omega
  refine(gQ hlt).elim fun y hy=>?_;have hs:=w5 (f:=UW) hy;have hc:=cr (i+1) (by omega);have bad:HB y=false->false=X:=fun h9=>by rw[n9 hy h9] at hX;exact hX
  refine ix (cE hy) ⟨rfl,?_⟩;conv=>whnf
  refine st ?_;conv=>whnf
  refine cP (a01 y.its) ?_;conv=>whnf
  refine aF (fun h4=>?_) (fun h4=>?_)<;>conv=>whnf
  ·exact d7 (bad (by unfold HB;rw[TS h4];rfl))
  refine cP (RX y.keys) ?_;conv=>whnf
  refine aF (fun h5=>?_) (fun h5=>?_)<;>conv=>whnf
  ·exact d7 (bad (by unfold HB;rw[TS h5,Bool.and_false]))
  have hg:HB y=true:=by unfold HB;rw[show BM y.its=true by simpa using h4,show r8 y.keys=true by simpa using h5];rfl
  refine nx (n+((s.rc.take (i+1)).map UW).sum) hlt ⟨hlt,rfl,sE hy hg hm.2⟩ rfl ⟨rfl,?_,b8 (by omega),trivial⟩;have e0:=hm.1;show GV.i .i64 (IntKind.i64.wrap (IntKind.i64.wrap (IntKind.i64.wrap (IntKind.i64.wrap ((m:Int)+(y.name.length:Nat))+(y.area.length:Nat))+(y.via.length:Nat))+(y.check.length:Nat)))=_;unfold UW at hs hc e0⊢;rw[zK (by omega),zK (by omega),zK (by omega),zK (by omega),hs,e0];congr 2;omega
 have e1:m=n+(s.rc.map UW).sum:=hm.1.trans (by rw[pN (by have:=aB h;rw[lr] at this;omega)]);rw[rN (by have:=aB h;rw[lr] at this;omega) hm.2,<-e1] at hX;replace hX:(s.st.all zR&&decide (m+(s.st.map YL).sum<=6000))=X:=hX;have c2:=cr s.rc.length b2;rw[pN (rL _)] at c2;have c3:m<=92*140737488355328:=by omega
 clear h e1 hm c1 c2 cr ca;have cm:∀y∈s.st,y.ms.length<=10->∀i,i<=10->((y.ms.take i).map mbz).sum<=10*cap:=fun y hy _ i hi=>JD (tt y hy).2.2.1 hi;have ck:∀y∈s.st,y.keys.length<=10->∀i,i<=10->((y.keys.take i).map kyz).sum<=10*cap:=fun y hy _ i hi=>JD (tt y hy).2.2.2 hi;have cs:∀i,i<=70->(∀t∈s.st.take i,zR t=true)->((s.st.take i).map YL).sum<=70*(22*cap):=fun i hi hg=>by
  have h1:=VF (f:=YL) (l:=s.st.take i) (c:=22*cap) fun t ht=>by
   have hg':=hg t ht;have hm':=List.mem_of_mem_take ht;have hu:=tt t hm';unfold zR at hg';simp only[aH,dK,Bool.or_eq_false_iff,bM] at hg';have h3:=cm t hm' (by omega) t.ms.length (by omega);have h4:=ck t hm' (by omega) t.keys.length (by omega);rw[pN (rL _)] at h3 h4;unfold YL;omega
  have h2:(s.st.take i).length<=70:=by rw[bN];omega
  exact e8 h1 (j1 _ h2)
 unfold cap at cm ck cs;refine cK 1 s.st.length (fun i n=>n=m+((s.st.take i).map YL).sum/\∀t∈s.st.take i,zR t=true) (fun i n=>[(1,.ptr 0 0),(3,.i .i64 (n:Nat)),(7,.i .i64 (i:Nat))]) (fun i _=>[.box 26 (lI s)]) [] m ⟨rfl,by simp⟩ (fun i k φ2 hi hk=>?_);conv=>whnf
 refine aF (fun h=>?_) (fun h=>?_)<;>conv=>whnf
 rotate_left
 ·have e1:k=m+(s.st.map YL).sum:=hk.1.trans (by rw[pN (by have:=aB h;rw[lt] at this;omega)]);rw[rN (by have:=aB h;rw[lt] at this;omega) hk.2,<-e1] at hX;exact d7 (by rw[<-hX,Bool.true_and,decide_eq_decide];omega)
 have hlt:i<s.st.length:=by have:=aA h;rw[lt] at this;omega
 have c4:=cs i (by omega) hk.2;have e4:=hk.1;have c5:k<=1632*140737488355328:=by omega
 refine(gQ hlt).elim fun y hy=>?_;have hym:=aK hy;have hs:=w5 (f:=YL) hy;have bad:zR y=false->false=X:=fun h9=>by rw[n9 hy h9] at hX;exact hX
 obtain⟨u1,u2,u3,u4⟩:=tt y hym;unfold cap at u1 u2 u3 u4;refine ix (cE hy) ⟨rfl,?_⟩;conv=>whnf
 refine st ?_;conv=>whnf
 refine aF (fun h4=>?_) (fun h4=>?_)<;>rw[iC] at h4<;>conv=>whnf
 ·exact d7 (bad (by unfold zR;rw[bS (p:=y.ms.length>10) (by have:=aA h4;omega)];rfl))
 refine aF (fun h5=>?_) (fun h5=>?_)<;>rw[kX] at h5<;>conv=>whnf
 ·exact d7 (bad (by unfold zR;rw[bS (p:=y.keys.length>10) (by have:=aA h5;omega),Bool.or_true];rfl))
 have d1:y.ms.length<=10:=by have:=aB h4;omega
 have d2:y.keys.length<=10:=by have:=aB h5;omega
 have hL:zR y=y.ms.all fun m=>r8 m.sel:=by unfold zR;rw[cW (p:=y.ms.length>10) (by omega),cW (p:=y.keys.length>10) (by omega)];rfl
 have cm':=cm y hym d1;have ck':=ck y hym d2;clear h h4 h5 cm ck cs c4;refine cK 2 y.ms.length (fun j n=>n=k+y.name.length+y.owner.length+((y.ms.take j).map mbz).sum/\∀z∈y.ms.take j,r8 z.sel=true) (fun j n=>[(1,.ptr 0 0),(3,.i .i64 (n:Nat)),(7,.i .i64 (i:Nat)),(8,.ptr 1 0),(9,.i .i64 (j:Nat))])
  (fun j _=>[.box 26 (lI s),.box 39 (H9 y)]) [] (k+y.name.length+y.owner.length) ⟨rfl,by simp⟩ (fun j n φ3 hj hn=>?_) (hφ:=⟨rfl,by show GV.i .i64 (IntKind.i64.wrap (IntKind.i64.wrap ((k:Int)+(y.name.length:Nat))+(y.owner.length:Nat)))=_;rw[zK (by omega),zK (by omega)],rfl,rfl,rfl,trivial⟩)
 conv=>whnf
 refine aF (fun h=>?_) (fun h=>?_)<;>conv=>whnf
 ·have hlt2:j<y.ms.length:=by have:=aA h;rw[iC] at this;omega
  refine(gQ hlt2).elim fun z hz=>?_;have hs2:=w5 (f:=mbz) hz;have hc2:=cm' (j+1) (by omega);have e5:=hn.1;refine ix (cE hz) ⟨rfl,?_⟩;conv=>whnf
  refine cP (RX z.sel) ?_;conv=>whnf
  refine aF (fun h4=>?_) (fun h4=>?_)<;>conv=>whnf
  ·exact d7 (bad (by rw[hL,n9 hz (TS h4)]))
  refine ix (cE hz) ⟨rfl,?_⟩;conv=>whnf
  unfold mbz at hs2 hc2 e5;exact nx (k+y.name.length+y.owner.length+((y.ms.take (j+1)).map mbz).sum) hlt2 ⟨hlt2,rfl,sE hz (by simpa using h4) hn.2⟩ rfl ⟨rfl,by show GV.i .i64 (IntKind.i64.wrap ((n:Int)+(z.of.length:Nat)))=_;rw[zK (by omega),e5];unfold mbz;rw[hs2];congr 2;omega,rfl,rfl,b8 (by omega),trivial⟩
 have e6:n=k+y.name.length+y.owner.length+(y.ms.map mbz).sum:=hn.1.trans (by rw[pN (by have:=aB h;rw[iC] at this;omega)]);have hg:zR y=true:=hL.trans (rN (by have:=aB h;rw[iC] at this;omega) hn.2);have c7:=cm' y.ms.length d1;rw[pN (rL _)] at c7;clear h hn;refine cK 2 y.keys.length (fun j q=>q=n+((y.keys.take j).map kyz).sum) (fun j q=>[(1,.ptr 0 0),(3,.i .i64 (q:Nat)),(7,.i .i64 (i:Nat)),(8,.ptr 1 0),(10,.i .i64 (j:Nat))])
  (fun j _=>[.box 26 (lI s),.box 39 (H9 y)]) [] n rfl (fun j q φ4 hj hq=>?_)
 conv=>whnf
 refine aF (fun h=>?_) (fun h=>?_)<;>conv=>whnf
 ·have hlt2:j<y.keys.length:=by have:=aA h;rw[kX] at this;omega
  refine(gQ hlt2).elim fun z hz=>?_;have hs2:=w5 (f:=kyz) hz;have hc2:=ck' (j+1) (by omega);refine ix (cE hz) ⟨rfl,?_⟩;conv=>whnf
  unfold kyz at hs2 hc2 hq;exact nx (n+((y.keys.take (j+1)).map kyz).sum) hlt2 ⟨hlt2,rfl⟩ rfl ⟨rfl,by show GV.i .i64 (IntKind.i64.wrap ((q:Int)+(z.item.length:Nat)))=_;rw[zK (by omega),hq];unfold kyz;rw[hs2];congr 2;omega,rfl,rfl,b8 (by omega),trivial⟩
 have e7:q=n+(y.keys.map kyz).sum:=hq.trans (by rw[pN (by have:=aB h;rw[kX] at this;omega)]);exact nx q hlt ⟨hlt,by rw[hs,e7,e6,e4];unfold YL;omega,sE hy hg hk.2⟩
end Go.Proofs.YtcfgfkkhpdlhpaaGreatDoor
namespace Go.Proofs.YtcfgfkkhpdlhpaaGreatDoor
open Go Go.ChangeShapes Go.WideShapes Go.RowKit
section
variable {P : Program} {W : World} {sp : Nat → Bool}
theorem KB {H:Type} {enc:TypeId×Value->H} {held:Bool} {base jY n:Nat} {t e:TypeId} {k:IntKind} {cs:List Value} {p:List MemPlace} (l:List Int)
  (ht:P.underlying t=some (.array n e)) (he:P.underlying e=some (.int k)) (hc:P.cellsOf e=1) (hn:l.length=n) (hct:P.cellsOf t=n)
  (h:DataW.trod enc P W base sp held jY t cs=some (.agg (l.map fun x=>.lit (.int k x)),p)):cs=l.map (Value.int k):=by
 obtain⟨xs,m,rfl,hx,hl,hxs,hel⟩:=DataW.trod_array ht h;simp only[Prod.mk.injEq,DataW.agg.injEq] at hx;refine dS fun i=>?_;by_cases hi:i<n
 ·have h1:=hel i hi;rw[hc,Nat.mul_one] at h1;have hxi:xs[i]?=some xs[i]:=gL (by omega);rw[hxi] at h1;obtain⟨z,hz,he',_⟩:=DataW.trod_int he h1;have h2:(xs.map (·.1))[i]?=some (.lit (.int k z)):=by rw[aM,hxi,he'];rfl
  rw[<-hx.1,aM] at h2;obtain⟨y,hy,hyz⟩:=Option.map_eq_some_iff.1 h2;cases hyz;rw[aM,hy];have h3:=aQ (·[0]?) hz;simpa[dJ,gW] using h3
 ·rw[b6 (by rw[hl,hct];omega),b6 (by simp;omega)]
end
def C0 (W:World):Cx:={fx:=fun b o v=>W.cell? ⟨b,o,none⟩=some v,bk:=fun _=>none,own:=fun _=>none,hd:=fun _=>none,mine:=fun _=>False,f0:=fun b o v=>W.cell? ⟨b,o,none⟩=some v}
def a2J [Globals] (W:World):Prop:=(∀g cs,Globals.tab g=some cs->∃c t fr,W.heap[g]?=some (.cells c t fr)/\c.size=cs.length)/\∀g cs (j:Nat) x,Globals.tab g=some cs->cs[j]?=some x->∃u,W.cell? ⟨g,j,none⟩=some u/\∀D:Cx,(∀b o v,W.cell? ⟨b,o,none⟩=some v->D.fx b o v)->VR D x u
theorem TD [Globals] {W:World} (h:a2J W):Rel (C0 W) ⟨[],0,[]⟩ W W:=
 ⟨.refl _ _,fun _ _ _ h=>h,fun r x hx=>by simp at hx,fun _ _=>⟨rfl,rfl⟩,fun r b hb=>by simp[dV,C0] at hb,fun r r' b hb _=>by simp[dV,C0] at hb,
  fun r b o v hb _=>(by cases hb),fun r I b sz o v hI _ _=>(by cases hI),fun b o v h=>.inl h,h.2,fun g cs hg=>⟨fun h=>h,h.1 g cs hg⟩⟩
theorem N4 {P:Program} {W:World} {g:Nat} {n:String} {cs:Array Value} (hg:P.globalNamed n=some g) (hv:W.var? P n=some cs):∃t fr,W.heap[g]?=some (.cells cs t fr):=by
 unfold World.var? at hv;rw[hg] at hv;simp only[bY] at hv;split at hv
 ·rename_i c t fr ho;cases hv;exact⟨_,_,ho⟩
 ·cases hv
theorem EL [Globals] {W:World} {g:Nat} {l:List Value} (hv:∀j,W.cell? ⟨g,j,none⟩=l[j]?) {cs:List GV} (hl:cs.length=l.length)
  (h:∀(j:Nat) x u,cs[j]?=some x->l[j]?=some u->∀D:Cx,(∀b o v,W.cell? ⟨b,o,none⟩=some v->D.fx b o v)->VR D x u):
  ∀(j:Nat) x,cs[j]?=some x->∃u,W.cell? ⟨g,j,none⟩=some u/\∀D:Cx,(∀b o v,W.cell? ⟨b,o,none⟩=some v->D.fx b o v)->VR D x u:=fun j x hx=>by
 have hj:j<l.length:=by rw[<-hl];exact(List.getElem?_eq_some_iff.1 hx).1
 exact⟨l[j],by rw[hv,gL hj],h j x _ hx (gL hj)⟩
theorem PE {W W':World} {m:Nat->Prop} {may:MemPlace->Prop} (hm:∀k,¬m k) (h:Base m W W'):W.keptBut W' may:=by
 refine⟨h.os,h.output,fun i hi=>?_⟩;rw[h.block i hi (hm i)];cases ho:W.heap[i]? with
 |none=>rfl
 |some o=>cases o<;>first|rfl|exact⟨rfl,rfl,rfl,fun _ _=>rfl⟩|exact .inr ⟨rfl,rfl⟩
theorem own:ownKnob Tryz.prog.godebug=none:=by kernel_rfl
theorem a2S: "*" ++ "errors.errorString" = "*errors.errorString" :=by decide
theorem a1V (u:TypeId) (h:Tryz.prog.typeName? 3 u=some "*errors.errorString"):u=342:=
 typeName_ptr_named (nm:= "errors.errorString") (by rw[a2S];kernel_rfl) (by kernel_rfl) (by decide) u (by rw[a2S];exact h)
theorem YT:Tryz.prog.underlying 94=some (.interface #[("Error",100)]):=by kernel_rfl
theorem YQ:Tryz.prog.underlying 342=some (.pointer 344):=by kernel_rfl
theorem YS:Tryz.prog.underlying 344=some (.struct #[{name:= "s",type:=9,offset:=0,embedded:=false,tag:= "",pkgPath:= "errors",byteOffset:=0}]):=by kernel_rfl
theorem J8:Tryz.prog.underlying 9=some .string:=by kernel_rfl
theorem LR:Tryz.prog.underlying 4=some .bool:=by kernel_rfl
theorem LS [MaxL] {W:World} {g:Nat} {n:String} {t f:Nat} {cs:Array Value} {s:List UInt8} {p:List MemPlace} (hg:Tryz.prog.globalNamed n=some g) (hv:W.var? Tryz.prog n=some cs)
  (ht:t=94)
  (h:DataW.trod (fun _=>()) Tryz.prog W 0 (fun _=>true) false f t cs.toList=some (.iface "*errors.errorString" (.ptr (.agg [.lit (.string s)])),p))
  (hok:∀u v,cs.toList=[.iface u v]->Value.okWide Tryz.prog W .any 0 u v):
  cs.size=1/\∀(j:Nat) x,([.ifc 342 (.snap [.s s] 0)]:List GV)[j]?=some x->∃u,W.cell? ⟨g,j,none⟩=some u/\∀D:Cx,(∀b o v,W.cell? ⟨b,o,none⟩=some v->D.fx b o v)->VR D x u:=by
 subst ht;obtain⟨a,b,e,hc,hb,_,_⟩:=errorString_of_trod YT a1V YQ YS rfl rfl J8 (by kernel_rfl) (by kernel_rfl) h hok;refine⟨by have:=aQ List.length e;simpa using this,?_⟩;refine EL (l:=cs.toList) (fun j=>by rw[World.var?_cell hg hv j];simp) (by rw[e];rfl) fun j x u hx hu D hD=>?_;rw[e] at hu;have hj:j=0:=by
  have:=(List.getElem?_eq_some_iff.1 hx).1;simpa using this
 subst hj;cases hx;cases hu;obtain⟨ab,ao,asp⟩:=a;have hsp:asp=none:=by
  unfold World.cell? at hc;split at hc
  ·simp only at hc;split at hc
   ·cases hc
   ·rename_i h0;simpa using h0
  ·cases hc
 subst hsp;refine .ifc ?_;have:=VR.snap (C:=D) (cs:=[.s s]) (off:=0) ab ao (fun _=>.string b) (fun j g hj=>?_) (fun j g hj=>?_)
 ·simpa using this
 ·have hj0:j=0:=by
   have:=(List.getElem?_eq_some_iff.1 hj).1;simpa using this
  subst hj0;exact hD _ _ _ (by simpa using hc)
 ·have hj0:j=0:=by
   have:=(List.getElem?_eq_some_iff.1 hj).1;simpa using this
  subst hj0;cases hj;have:b=⟨s.toArray⟩:=by rw[<-hb]
  rw[this];exact .s s
theorem B0 [MaxL] {W:World} {g n e:Nat} {k:IntKind} {nm:String} {t f:Nat} {cs:Array Value} {p:List MemPlace} (l:List Int) (hg:Tryz.prog.globalNamed nm=some g) (hv:W.var? Tryz.prog nm=some cs)
  (ht:Tryz.prog.underlying t=some (.array n e)) (he:Tryz.prog.underlying e=some (.int k)) (hc:Tryz.prog.cellsOf e=1) (hn:l.length=n) (hct:Tryz.prog.cellsOf t=n)
  (h:DataW.trod (fun _=>()) Tryz.prog W 0 (fun _=>true) false f t cs.toList=some (.agg (l.map fun x=>.lit (.int k x)),p)):
  cs.size=l.length/\∀(j:Nat) x,(l.map (GV.i k))[j]?=some x->∃u,W.cell? ⟨g,j,none⟩=some u/\∀D:Cx,(∀b o v,W.cell? ⟨b,o,none⟩=some v->D.fx b o v)->VR D x u:=by
 have hcs:=KB l ht he hc hn hct h;refine⟨by have:=aQ List.length hcs;simpa using this,?_⟩;refine EL (l:=cs.toList) (fun j=>by rw[World.var?_cell hg hv j];simp) (by rw[hcs];simp) fun j x u hx hu D hD=>?_;rw[hcs,aM] at hu;rw[aM] at hx;obtain⟨z,hz,rfl⟩:=Option.map_eq_some_iff.1 hx;rw[hz] at hu;cases hu;exact .i k z
