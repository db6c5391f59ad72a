/- Part of ViewWrong. -/
import Derived.Test.YtimgfjldcdhejaaGreatDoorK31
set_option linter.all false
set_option maxRecDepth 100000
namespace Go.Proofs.YtimgfjldcdhejaaGreatDoor
section
open Go.RowKit
instance [MaxL] {m:Nat} {T:TypeId} {k n:Nat}:FO m (ow T k n):=⟨fun e _=>qO T k n e⟩
instance [MaxL] {e:Nat->Nat} {T:TypeId} {k n:Nat}:RO e (ow T k n) (ow T k n):=⟨qO T k n e⟩
theorem L9 [MaxL] {α:Type} {f:α->GV} {c:Nat} (hf:∀a,(f a).cells.length=c) (o:List α) (y:α) {A:Prop} {K:List GV->Nat->Prop} (hA:A) (hl:o.length<4294967296) (k:K ((o++[y]).map f) (o++[y]).length):
  GNeed (A/\(o.map f).all (fun x=>x.cells.length==c)=true/\(o.map f).length+1<=4294967296) (∃zs m,GNeed (zs=o.map f++[f y]/\m=(o.map f).length+1) (K zs m)):=
 ⟨⟨hA,by
  rw[aQ];intro x hx;obtain⟨b,_,rfl⟩:=List.mem_map.1 hx;rw[hf];exact beq_self_eq_true _,by rw[b6];omega⟩,_,_,⟨by rw[b5];rfl,by rw[b6,aG];rfl⟩,k⟩
theorem AQ [MaxL] {a b:GV} (c:GV) (h:Wk a b):Wk (.tup [a,c]) (.tup [b,c]):=uT h (.refl _)
theorem nL (s:Sch) (n:By):(∃(i:Nat),jJ (fun r:Rc=>r.name==n) s.rc=i/\s.rc[i]?=some (bS s n)/\(fV s).contains n=true)∨(jJ (fun r:Rc=>r.name==n) s.rc<0/\bS s n=⟨[],[],[],0,[],false,[],[]⟩/\(fV s).contains n=false):=by
 rw[show(fV s).contains n=s.rc.any (fun r=>r.name==n) from cE _ _ _];rcases j2 (fun r:Rc=>r.name==n) s.rc with⟨h1,h2,h3⟩|⟨i,y,h1,h2,h3,h4⟩
 ·exact .inr ⟨h1,by unfold bS;rw[h2];rfl,h3⟩
 ·exact .inl ⟨i,h1,by unfold bS;rw[h3];exact h2,h4⟩
theorem IS (s:Sch) (n:By):(∃(i:Nat),jJ (fun r:Sy=>r.name==n) s.st=i/\s.st[i]?=some (sK s n)/\(sA s).contains n=true)∨(jJ (fun r:Sy=>r.name==n) s.st<0/\sK s n=⟨[],[],[],0,[],0,0⟩/\(sA s).contains n=false):=by
 rw[show(sA s).contains n=s.st.any (fun r=>r.name==n) from cE _ _ _];rcases j2 (fun r:Sy=>r.name==n) s.st with⟨h1,h2,h3⟩|⟨i,y,h1,h2,h3,h4⟩
 ·exact .inr ⟨h1,by unfold sK;rw[h2];rfl,h3⟩
 ·exact .inl ⟨i,h1,by unfold sK;rw[h3];exact h2,h4⟩
def sX (v:Vw) (n:By):VwR:=(kJ v n).getD ⟨[],[],[],[]⟩
def vNm (v:Vw) (n:By):Option VwR:=v.recs.find? (fun r=>r.name==n)
def vNc (v:Vw) (n:By):VwR:=(vNm v n).getD ⟨[],[],[],[]⟩
theorem qH (v:Vw) (n:By):(∃(i:Nat),jJ (fun r:VwR=>r.of==n) v.recs=i/\v.recs[i]?=some (sX v n)/\(kJ v n).isSome=true/\kJ v n=some (sX v n))∨(jJ (fun r:VwR=>r.of==n) v.recs<0/\sX v n=⟨[],[],[],[]⟩/\(kJ v n).isSome=false/\kJ v n=none):=by
 unfold sX kJ;rcases j2 (fun r:VwR=>r.of==n) v.recs with⟨h1,h2,h3⟩|⟨i,y,h1,h2,h3,h4⟩
 ·exact .inr ⟨h1,by rw[h2];rfl,by rw[h2];rfl,h2⟩
 ·exact .inl ⟨i,h1,by rw[h3];exact h2,by rw[h3];rfl,by rw[h3];rfl⟩
theorem CB (v:Vw) (n:By):(∃(i:Nat),jJ (fun r:VwR=>r.name==n) v.recs=i/\v.recs[i]?=some (vNc v n)/\(vNm v n).isSome=true/\vNm v n=some (vNc v n))∨(jJ (fun r:VwR=>r.name==n) v.recs<0/\vNc v n=⟨[],[],[],[]⟩/\(vNm v n).isSome=false/\vNm v n=none):=by
 unfold vNc vNm;rcases j2 (fun r:VwR=>r.name==n) v.recs with⟨h1,h2,h3⟩|⟨i,y,h1,h2,h3,h4⟩
 ·exact .inr ⟨h1,by rw[h2];rfl,by rw[h2];rfl,h2⟩
 ·exact .inl ⟨i,h1,by rw[h3];exact h2,by rw[h3];rfl,by rw[h3];rfl⟩
theorem a5W [MaxL] (r:Rc) (n:By):SC Tryz.prog 106 [QK r,.ptr 0 0] [.box 9 [.s n]] (.val (.b (r.name==n))) [.box 9 [.s n]]:=by
 refine cO Tryz.func106 rfl ?_;conv=>whnf
 exact cQ 1
theorem IB [MaxL] (s:Sch) (hl:s.rc.length<b9) (n:By):SC Tryz.prog 53 [lT s,.s n] [] (.val (.tup [QK (bS s n),.b ((fV s).contains n)])) []:=by
 have hi:=rE (fun r=>zO (LD r)) s.rc hl (fun r=>r.name==n) _ 9 [.s n] _ 8 (fun r _=>a5W r n) (.inl ⟨rfl,rfl,rfl⟩);have key:=nL s n;generalize jJ (fun r:Rc=>r.name==n) s.rc=j at*;refine cO Tryz.func53 rfl ?_;conv=>whnf
 refine cS [1] hi ?_;conv=>whnf
 rcases key with⟨i,rfl,h2,h3⟩|⟨h1,h2,h3⟩
 ·rw[h3];refine ix (aY h2) ⟨rfl,?_⟩;conv=>whnf
  refine st ?_;conv=>whnf
  exact cQ 0
 ·rw[h2,h3];refine gY (bC h1) ?_;conv=>whnf
  refine st ?_;conv=>whnf
  exact cQ 0 (hw:=AQ _ (Wks.agg (wC (bF _) (wC (bF _) (wC (bY _ _) (wC (bF _) (wC (bY _ _) (wR _))))))))
theorem a5V [MaxL] (r:Sy) (n:By):SC Tryz.prog 145 [WD r,.ptr 0 0] [.box 9 [.s n]] (.val (.b (r.name==n))) [.box 9 [.s n]]:=by
 refine cO Tryz.func145 rfl ?_;conv=>whnf
 exact cQ 1
theorem a7C [MaxL] (s:Sch) (hl:s.st.length<b9) (n:By):SC Tryz.prog 81 [lT s,.s n] [] (.val (.tup [WD (sK s n),.b ((sA s).contains n)])) []:=by
 have hi:=rE (fun r=>zO (E8 r)) s.st hl (fun r=>r.name==n) _ 9 [.s n] _ 7 (fun r _=>a5V r n) (.inr (.inl ⟨rfl,rfl,rfl⟩));have key:=IS s n;generalize jJ (fun r:Sy=>r.name==n) s.st=j at*;refine cO Tryz.func81 rfl ?_;conv=>whnf
 refine cS [1] hi ?_;conv=>whnf
 rcases key with⟨i,rfl,h2,h3⟩|⟨h1,h2,h3⟩
 ·rw[h3];refine ix (aY h2) ⟨rfl,?_⟩;conv=>whnf
  refine st ?_;conv=>whnf
  exact cQ 0
 ·rw[h2,h3];refine gY (bC h1) ?_;conv=>whnf
  refine st ?_;conv=>whnf
  exact cQ 0 (hw:=AQ _ (Wks.agg (wC (bF _) (wC (bF _) (wC (bY _ _) (wC (bF _) (wC (bY _ _) (wR _))))))))
theorem a3H [MaxL] (r:VwR) (n:By):SC Tryz.prog 104 [uQ r,.ptr 0 0] [.box 9 [.s n]] (.val (.b (r.of==n))) [.box 9 [.s n]]:=by
 refine cO Tryz.func104 rfl ?_;conv=>whnf
 exact cQ 1
theorem ED [MaxL] (v:Vw) (hl:v.recs.length<b9) (n:By):SC Tryz.prog 48 [k7 v,.s n] [] (.val (.tup [uQ (sX v n),.b (kJ v n).isSome])) []:=by
 have hi:=rE (fun r=>zO (rM r)) v.recs hl (fun r=>r.of==n) _ 9 [.s n] _ 4 (fun r _=>a3H r n) (.inr (.inr (.inl ⟨rfl,rfl,rfl⟩)));have key:=qH v n;generalize jJ (fun r:VwR=>r.of==n) v.recs=j at*;refine cO Tryz.func48 rfl ?_;conv=>whnf
 refine cS [1] hi ?_;conv=>whnf
 rcases key with⟨i,rfl,h2,h3,_⟩|⟨h1,h2,h3,_⟩
 ·rw[h3];refine ix (aY h2) ⟨rfl,?_⟩;conv=>whnf
  refine st ?_;conv=>whnf
  exact cQ 0
 ·rw[h2,h3];refine gY (bC h1) ?_;conv=>whnf
  refine st ?_;conv=>whnf
  exact cQ 0 (hw:=AQ _ (Wks.agg (wC (bF _) (wC (bF _) (wC (bY _ _) (wR _))))))
theorem a0c [MaxL] (r:VwR) (n:By):SC Tryz.prog 103 [uQ r,.ptr 0 0] [.box 9 [.s n]] (.val (.b (r.name==n))) [.box 9 [.s n]]:=by
 refine cO Tryz.func103 rfl ?_;conv=>whnf
 exact cQ 1
theorem a3J [MaxL] (v:Vw) (hl:v.recs.length<b9) (n:By):SC Tryz.prog 43 [k7 v,.s n] [] (.val (.tup [uQ (vNc v n),.b (vNm v n).isSome])) []:=by
 have hi:=rE (fun r=>zO (rM r)) v.recs hl (fun r=>r.name==n) _ 9 [.s n] _ 4 (fun r _=>a0c r n) (.inr (.inr (.inr (.inl ⟨rfl,rfl,rfl⟩))));have key:=CB v n;generalize jJ (fun r:VwR=>r.name==n) v.recs=j at*;refine cO Tryz.func43 rfl ?_;conv=>whnf
 refine cS [1] hi ?_;conv=>whnf
 rcases key with⟨i,rfl,h2,h3,_⟩|⟨h1,h2,h3,_⟩
 ·rw[h3];refine ix (aY h2) ⟨rfl,?_⟩;conv=>whnf
  refine st ?_;conv=>whnf
  exact cQ 0
 ·rw[h2,h3];refine gY (bC h1) ?_;conv=>whnf
  refine st ?_;conv=>whnf
  exact cQ 0 (hw:=AQ _ (Wks.agg (wC (bF _) (wC (bF _) (wC (bY _ _) (wR _))))))
theorem a5S [MaxL] (n:By):SC Tryz.prog 205 [.s n] [] (.val (.b (tM n))) []:=by
 have hc:=s6 a4w n (by decide);refine cO Tryz.func205 rfl ?_;conv=>whnf
 refine cP hc ?_ (wC (bY _ _) (wR _));conv=>whnf
 exact cQ 0
theorem a5X [MaxL] (l:List By) (hl:l.length<b9):SC Tryz.prog 255 [.sl .none (bR l),.fn (.func 205) [] []] [] (.val (.i .i64 (jJ tM l))) []:=by
 unfold b9 at hl;have hlen:=cD l;refine cO Tryz.func255 rfl ?_;conv=>whnf
 refine bE 0 l.length (fun i _=>∀z∈l.take i,tM z=false) (fun i _=>[(0,.sl .none (bR l)),(1,.fn (.func 205) [] []),(7,.i .i64 (bR l).length),(8,.i .i64 (i:Nat))]) (fun _ (_:Unit)=>[]) [] () (by simp) (fun i _ φ0 hi hne=>?_);conv=>whnf
 apply gM<;>intro h<;>conv=>whnf
 rotate_left
 ·have hie:i=l.length:=by have:=aA h;omega
  rw[hie,aV] at hne;rw[nJ hne];exact cQ 0
 have hlt:i<l.length:=by have:=aB h;omega
 refine(d7 hlt).elim fun y hy=>?_;refine ix (aY hy) ⟨rfl,?_⟩;conv=>whnf
 refine cP (a5S y) ?_;conv=>whnf
 apply gM<;>intro hp<;>conv=>whnf
 ·rw[o7 hy hp hne];exact cQ 0
 ·skip;exact nx () hlt ⟨hlt,pV hy hp hne⟩
theorem a3M [MaxL] (l:List By) (hl:l.length<b9):SC Tryz.prog 204 [.sl .none (bR l),.fn (.func 205) [] []] [] (.val (.b (l.any tM))) []:=by
 have hi:=a5X l hl;refine cO Tryz.func204 rfl ?_;conv=>whnf
 refine cP hi ?_;conv=>whnf
 rw[<-l8];exact cQ 0
def pS (l:List (By×By)):List (GV×GV):=l.map fun p=>(.s p.2,.s p.1)
instance [MaxL] {l:List (By×By)}:KM (pS l):=⟨fun e=>by unfold pS;rw[List.map_map];rfl⟩
theorem a0l [MaxL] {l:List (By×By)} {n:By} (h:∀p∈l,p.2≠n):mK .string (.s n) (pS l) 0=some none:=x7 oF (fun e he=>by
 obtain⟨p,hp,rfl⟩:=List.mem_map.1 he;exact⟨p.2,rfl,h p hp⟩)
theorem W9 [MaxL] {n:By}:∀{l:List (By×By)} (j:Nat) {p:By×By},l.find? (fun p=>p.2==n)=some p->∃k,mK .string (.s n) (pS l) j=some (some (k,.s p.1))
 |[],j,p,h=>by cases h
 |x::l,j,p,h=>by
  show∃k,(match BT .string (.s n) (.s x.2) with|some true=>some (some (j,GV.s x.1))|some false=>mK .string (.s n) (pS l) (j+1)|none=>none)=_;rw[oF];cases hx:(n==x.2) with
  |true=>
   rw[List.find?_cons,show(x.2==n)=true by rw[Bool.beq_comm];exact hx] at h;cases h;exact⟨j,rfl⟩
  |false=>
   rw[List.find?_cons,show(x.2==n)=false by rw[Bool.beq_comm];exact hx] at h;exact W9 (j+1) h
theorem Q5 [MaxL] (r:VwR) (n:By):(∃x k,cW r n=some x/\mK .string (.s n) (pS r.items) 0=some (some (k,.s x)))∨(cW r n=none/\mK .string (.s n) (pS r.items) 0=some none):=by
 unfold cW;cases h:r.items.find? (fun p=>p.2==n) with
 |none=>exact .inr ⟨rfl,a0l fun p hp e=>by have:=List.find?_eq_none.1 h p hp;rw[e] at this;simp at this⟩
 |some p=>
  obtain⟨k,hk⟩:=W9 0 h;exact .inl ⟨p.1,k,rfl,hk⟩
theorem W5 [MaxL] (r:VwR) (hl:r.items.length<b9) (hn:(r.items.map (·.2)).Nodup):SC Tryz.prog 86 [uQ r] [] (.val (.mp 0)) [.mp (pS r.items)]:=by
 unfold b9 at hl;have hlen:(nK r.items).length=r.items.length:=pK _;refine cO Tryz.func86 rfl ?_;conv=>whnf
 refine bE 2 r.items.length (fun _ _=>True) (fun i _=>[(1,.ptr 0 0),(3,.mp 1),(8,.sl .none (nK r.items)),(9,.i .i64 (nK r.items).length),(10,.i .i64 (i:Nat))]) (fun i (_:Unit)=>[.box 74 (rM r),.mp (pS (r.items.take i))]) [] () trivial (fun i _ φ0 hi _=>?_);conv=>whnf
 apply gM<;>intro h<;>conv=>whnf
 rotate_left
 ·have hie:i=r.items.length:=by have:=aA h;omega
  refine⟨[1],Lies.one (by rw[hie,aV];rfl) (fun e=>RO.h (x:=.mp (pS r.items))) (by simp),fun i hi=>absurd hi (bP i),?_⟩;show Wk (GV.mp 1) (GV.mp (jZ [1] 2 0));rw[lD (by simp)];exact .refl _
 have hlt:i<r.items.length:=by have:=aB h;omega
 refine(d7 hlt).elim fun y hy=>?_;refine ix (aY hy) ⟨rfl,?_⟩;conv=>whnf
 refine st ?_;conv=>whnf
 refine⟨zL _,none,a0l (fun p hp e=>?_),?_⟩
 ·obtain⟨j,hj,he⟩:=List.mem_take_iff_getElem.1 hp;have hjl:j<r.items.length:=by omega
  have h1:=(List.pairwise_iff_getElem.1 hn) j i (by simpa using hjl) (by simpa using hlt) (by omega);rw[List.getElem_map,List.getElem_map,he,(List.getElem?_eq_some_iff.1 hy).2] at h1;exact h1 e
 conv=>whnf
 refine nx () hlt ⟨hlt,trivial⟩ ?_;show _=[_,GObj.mp (pS (r.items.take (i+1)))];rw[show pS (r.items.take (i+1))=pS (r.items.take i)++[(.s y.2,.s y.1)] by unfold pS;rw[aT,hy,b5];rfl];rfl
theorem W6 [MaxL] (r:VwR) (l:List By) (hl:l.length<=1000000):SC Tryz.prog 87 [.sl .none (bR l),.mp 0] [.mp (pS r.items)] (.val (.tup [.sl .none (bR (if l.all (fun n=>(cW r n).isSome) then l.filterMap (cW r) else[])),.b (l.all fun n=>(cW r n).isSome)])) [.mp (pS r.items)]:=by
 have hlen:=cD l;refine cO Tryz.func87 rfl ?_;conv=>whnf
 refine bE 3 l.length (fun i o=>(∀n∈l.take i,(cW r n).isSome=true)/\o=(l.take i).filterMap (cW r)) (fun i o=>[(0,.sl .none (bR l)),(1,.mp 0),(6,.sl (.own 2) (bR o)),(11,.sl .none (bR l)),(12,.i .i64 (bR l).length),(13,.i .i64 (i:Nat))]) (fun _ o=>[.mp (pS r.items),.own 0 0 0,ow 9 1 o.length]) [] [] ⟨by simp,rfl⟩ (fun i o φ0 hi ho=>?_) (hh:=fun _ _=>by simp only[e8,l5];rfl);obtain⟨ho1,ho2⟩:=ho;conv=>whnf
 apply gM<;>intro h<;>conv=>whnf
 rotate_left
 ·have hie:l.take i=l:=aW (by have:=aA h;omega);rw[hie] at ho1 ho2;rw[show(l.all fun n=>(cW r n).isSome)=true from List.all_eq_true.2 ho1,aD rfl,<-ho2];exact cQ 1 (hw:=AQ _ (bY _ _))
 have hlt:i<l.length:=by have:=aB h;omega
 refine(d7 hlt).elim fun n hn=>?_;refine ix (aY hn) ⟨rfl,?_⟩;conv=>whnf
 rcases Q5 r n with⟨x,k,h1,h2⟩|⟨h1,h2⟩
 ·refine⟨some (k,.s x),h2,?_⟩;conv=>whnf
  have ho':o++[x]=(l.take (i+1)).filterMap (cW r):=by rw[aT,hn,List.filterMap_append,<-ho2];simp[h1]
  have hol:o.length<=i:=by rw[ho2];exact dG (List.length_filterMap_le _ _) (by rw[aS];omega)
  have hnx:(∀m∈l.take (i+1),(cW r m).isSome=true):=fun m hm=>by
   rw[aT,hn] at hm;rcases List.mem_append.1 hm with hm|hm
   ·exact ho1 m hm
   ·simp at hm;subst hm;rw[h1];rfl
  cases o with
  |nil=>
   refine L9 (f:=GV.s) (c:=1) (fun _=>rfl) [] x rfl (by omega) ?_;(conv=>whnf);refine aN ?_;(conv=>whnf);exact nx ([]++[x]) hlt ⟨hlt,hnx,ho'⟩
  |cons z zs=>
   refine L9 (f:=GV.s) (c:=1) (fun _=>rfl) (z::zs) x rfl (by omega) ?_;(conv=>whnf);refine aN ?_ (h:=(cD (z::zs)).symm);(conv=>whnf);exact nx ((z::zs)++[x]) hlt ⟨hlt,hnx,ho'⟩
 ·refine⟨none,h2,?_⟩;conv=>whnf
  rw[show(l.all fun n=>(cW r n).isSome)=false from List.all_eq_false.2 ⟨n,aE hn,by rw[h1];simp⟩];exact cQ 1 (hw:=AQ _ (bY _ _))
def xI (kd:By) (i:Nat) (e:Int):GV:=.ifc 81 (.agg [.s kd,.i .i64 (i:Nat),.i .i64 e])
instance [MaxL] {kd:By} {i:Nat} {e:Int}:KG (xI kd i e):=⟨fun _=>rfl⟩
def z7 (kd:By) (i:Nat) (e:Int):GRes:=if e=0 then .val (.tup []) else .panic (xI kd i e)
theorem QZ [MaxL] (e:Nat->Nat) (kd:By) (i:Nat) (x:Int):(z7 kd i x).ren e=z7 kd i x:=by unfold z7;split<;>rfl
instance [MaxL] {e:Nat->Nat} {kd:By} {i:Nat} {x:Int}:RR e (z7 kd i x) (z7 kd i x):=⟨QZ e kd i x⟩
instance [MaxL] {n:Nat} {kd:By} {i:Nat} {x:Int}:FR n (z7 kd i x):=⟨fun e _=>QZ e kd i x⟩
theorem HI {kd:By} {i:Nat} {e:Int} (h:e≠0):z7 kd i e=.panic (xI kd i e):=aC h
theorem X8 {kd:By} {i:Nat}:z7 kd i 0=.val (.tup []):=aD rfl
abbrev a6d (s:Sch) (v:Vw) (g:GV):List GV:=[.sl .none (zB s.ar),.sl .none (pU s.rc),.sl .none (tQ s.st),.sl .none (fP v.recs),.sl .none (nK v.sets),g]
abbrev pP (s:Sch) (v:Vw) (m:List By):List GObj:=[.box 86 (a6d s v (.mp 1)),.mp (o4 m)]
theorem nU [MaxL] (w:Bool) (e:Int) (i:Nat) (he:w=true->e≠0):SC Tryz.prog 73 [.b w,.i .i64 e,.ptr 0 0] [.box 3 [.i .i64 (i:Nat)]] (z7 iR i (if w then e else 0)) [.box 3 [.i .i64 (i:Nat)]]:=by
 cases w with
 |false=>
  refine cO Tryz.func73 rfl ?_;conv=>whnf
  exact cQ 1
 |true=>
  rw[aD rfl];unfold z7;rw[aC (he rfl)];refine cO Tryz.func73 rfl ?_;conv=>whnf
  exact cQ 1
theorem oU [MaxL] (w:Bool) (e:Int) (i:Nat) (he:w=true->e≠0):SC Tryz.prog 80 [.b w,.i .i64 e,.ptr 0 0] [.box 3 [.i .i64 (i:Nat)]] (z7 nF i (if w then e else 0)) [.box 3 [.i .i64 (i:Nat)]]:=by
 cases w with
 |false=>
  refine cO Tryz.func80 rfl ?_;conv=>whnf
  exact cQ 1
 |true=>
  rw[aD rfl];unfold z7;rw[aC (he rfl)];refine cO Tryz.func80 rfl ?_;conv=>whnf
  exact cQ 1
theorem a0d [MaxL] (s:Sch) (v:Vw) (m:List By) (kd:By) (i:Nat) (n:By):SC Tryz.prog 74 [.ptr 0 0,.s kd,.i .i64 (i:Nat),.s n] (pP s v m) (z7 kd i (gJ m n 0)) (pP s v (if gJ m n 0=0 then m++[n] else m)):=by
 have hn:=CP n;generalize hE:gJ m n 0=E;unfold gJ cX at hE;generalize dU n=b at*;refine cO Tryz.func74 rfl ?_;conv=>whnf
 refine cP hn ?_;conv=>whnf
 cases b with
 |false=>
  conv=>whnf
  have:E=1:=by rw[<-hE];rfl
  subst this;show Owes _ _ (pP s v m) _ _;exact cQ 2
 |true=>
 conv=>whnf
 apply gM<;>intro hs<;>conv=>whnf
 ·have:E=1:=by rw[<-hE,show(n==YW)=true from hs];rfl
  subst this;show Owes _ _ (pP s v m) _ _;exact cQ 2
 ·rw[show(n==YW)=false from hs] at hE;cases hm:m.contains n with
  |true=>
   rw[hm] at hE;subst hE;refine(HM 0 hm).elim fun k hk=>?_;refine⟨some (k,.b true),hk,?_⟩;(conv=>whnf);show Owes _ _ (pP s v m) _ _;exact cQ 2
  |false=>
   rw[hm] at hE;subst hE;refine⟨none,y6 hm,?_⟩;(conv=>whnf);refine⟨zL _,none,y6 hm,?_⟩;(conv=>whnf);show Owes _ _ [_,.mp (o4 (m++[n]))] _ _;have e:o4 (m++[n])=o4 m++[(.s n,.b true)]:=by unfold o4;rw[b5];rfl
   rw[e];exact cQ 2
theorem Q3 [MaxL] {s:Sch} {v:Vw} {m:List By} {kd:By} {i:Nat} {n:By} (h:gJ m n 0=0):SC Tryz.prog 74 [.ptr 0 0,.s kd,.i .i64 (i:Nat),.s n] (pP s v m) (.val (.tup [])) (pP s v (m++[n])):=by
 have:=a0d s v m kd i n;rw[h] at this;exact this
theorem Q4 [MaxL] {s:Sch} {v:Vw} {m:List By} {kd:By} {i:Nat} {n:By} (h:gJ m n 0≠0):SC Tryz.prog 74 [.ptr 0 0,.s kd,.i .i64 (i:Nat),.s n] (pP s v m) (.panic (xI kd i (gJ m n 0))) (pP s v m):=by
 have:=a0d s v m kd i n;unfold z7 at this;rw[aC h,aC h] at this;exact this
theorem mN [MaxL] {k:FuncId} {kd:By} (hs:∀(w:Bool) (e:Int) (i:Nat),(w=true->e≠0)->SC Tryz.prog k [.b w,.i .i64 e,.ptr 0 0] [.box 3 [.i .i64 (i:Nat)]] (z7 kd i (if w then e else 0)) [.box 3 [.i .i64 (i:Nat)]])
  (q:Nat) (e:Int) {M:FuncId->Bool} {w:Bool} {i:Nat} {args:List GV} {σ:GS} {K:GRes->GS->Prop} (h1:w=true->K (.panic (xI kd i e)) σ) (h0:w=false->K (.val (.tup [])) σ) (he:w=true->e≠0:=by intro _;decide)
  (hw:Wks args [.b w,.i .i64 e,.ptr q 0]:=by exact wR _) (ho:σ.objs[q]?=some (.box 3 [.i .i64 (i:Nat)]):=by rfl) (hlo:σ.lo=0:=by rfl):gZ Tryz.prog M (.fn k) args σ K:=by
 refine cS [q] (hs w e i he) ?_ (by rw[show jZ [q] σ.objs.length 0=q from rfl];exact hw) (by show[σ.objs[q]?]=_;rw[ho];rfl) rfl (by simp) rfl hlo;cases w with
 |true=>
  rw[aD rfl,HI (he rfl)];exact h1 rfl
 |false=>exact h0 rfl
theorem uK [MaxL] {kd:By} {s s1 objs:List GObj} {i xi:Nat} {e xe:Int} {lo:Nat} {ds:List GDef} (hX:((i,e):Nat×Int)=(xi,xe)) (he:e≠0) (hl:s.length=2:=by rfl) (hn:(objs.take 2).length=2:=by rfl) (hm:(objs.take 2).all GObj.mort=true:=by rfl):
  OwesD 2 s (z7 kd xi xe) (oZ xe s1) (.panic (xI kd i e)) ⟨objs,lo,ds⟩:=by
 obtain⟨rfl,rfl⟩:=Prod.mk.inj hX;rw[HI he,uZ he];exact a2Y 2 (hl:=Nat.le_of_eq hl) (hn:=hn) (hm:=hm)
theorem a3K [MaxL] (n:By) (p:By×By) (x:Itm):SC Tryz.prog 77 [x.gv,.ptr 0 0] [.box 76 [.s p.1,.s p.2]] (.val (.b (x.name==p.2))) [.box 76 [.s p.1,.s p.2]]:=by
 refine cO Tryz.func77 rfl ?_;conv=>whnf
 exact cQ 1
theorem a3O [MaxL] (l:List Itm) (hl:l.length<b9) (p:By×By):SC Tryz.prog 76 [.sl .none (fM l),.fn (.func 77) [] [.ptr 0 0]] [.box 76 [.s p.1,.s p.2]] (.val (.b (l.any fun x=>x.name==p.2))) [.box 76 [.s p.1,.s p.2]]:=by
 have hi:=rE (fun x=>zO (Itm.cs x)) l hl (fun x=>x.name==p.2) _ 76 [.s p.1,.s p.2] _ 5 (fun x _=>a3K [] p x) (.inr (.inr (.inr (.inr (.inl ⟨rfl,rfl,rfl⟩)))));refine cO Tryz.func76 rfl ?_;conv=>whnf
 refine cS [0] hi ?_;conv=>whnf
 rw[<-l8];exact cQ 1
theorem a5U [MaxL] (p q:By×By):SC Tryz.prog 82 [mU q,.ptr 0 0] [.box 77 [.s p.1,.s p.2]] (.val (.b (q.2==p.2))) [.box 77 [.s p.1,.s p.2]]:=by
 refine cO Tryz.func82 rfl ?_;conv=>whnf
 exact cQ 1
theorem a3N [MaxL] (l:List (By×By)) (hl:l.length<b9) (p:By×By):SC Tryz.prog 49 [.sl .none (nK l),.fn (.func 82) [] [.ptr 0 0]] [.box 77 [.s p.1,.s p.2]] (.val (.b (l.any fun x=>x.2==p.2))) [.box 77 [.s p.1,.s p.2]]:=by
 have hi:=rE (fun x:By×By=>zO [.s x.1,.s x.2]) l hl (fun x=>x.2==p.2) _ 77 [.s p.1,.s p.2] _ 2 (fun x _=>a5U p x) (.inr (.inr (.inr (.inr (.inr (.inl ⟨rfl,rfl,rfl⟩))))));refine cO Tryz.func49 rfl ?_;conv=>whnf
 refine cS [0] hi ?_;conv=>whnf
 rw[<-l8];exact cQ 1
def wD (v:Vw):Prop:=v.recs.length<b9/\v.sets.length<b9/\∀r∈v.recs,r.items.length<b9/\r.only.length<b9
def a8S:FuncId->Bool:=fun k=>!Nat.beq k 74
theorem a3c (v:Vw) (i:Nat) (n:By):(kJ ⟨v.recs.take i,[]⟩ n).isSome=((vO v).take i).contains n:=by
 rw[show((vO v).take i).contains n=(v.recs.take i).any fun r=>r.of==n by unfold vO;rw[<-eS,cE]];unfold kJ;rw[dQ,List.find?_isSome,List.any_eq_true]
theorem a4N (l:List (By×By)) (k:Nat) {p:By×By} (hp:l[k]?=some p):o4 ((l.map (·.1)).take (k+1))=o4 ((l.map (·.1)).take k)++[(.s p.1,.b true)]:=by
 rw[mW (fun p:By×By=>p.1) hp];unfold o4;rw[b5];rfl
theorem a3d (l:List (By×By)) (k:Nat) {p:By×By} (hp:l[k]?=some p):o4 ((l.map (·.2)).take (k+1))=o4 ((l.map (·.2)).take k)++[(.s p.2,.b true)]:=by
 rw[mW (fun p:By×By=>p.2) hp];unfold o4;rw[b5];rfl
set_option synthInstance.maxSize 2000 in
set_option maxHeartbeats 4000000 in
theorem YQ [MaxL] (s:Sch) (hz:kO s) (v:Vw) (hv:wD v):SC Tryz.prog 36 [.ptr 0 0] (pP s v (bW s)) (z7 iR (mM s v).1 (mM s v).2) (oZ (mM s v).2 (pP s v (bW s++vN v))):=by
 obtain⟨⟨ha,hl,ht⟩,hr,hst⟩:=hz;obtain⟨v1,v2,v3⟩:=hv;have v1':=v1;unfold b9 at v1;have hlen:(fP v.recs).length=v.recs.length:=lJ _;generalize hX:mM s v=X;obtain⟨xi,xe⟩:=X;unfold mM at hX;have hh:(oZ xe (pP s v (bW s++vN v))).all GObj.notHeld=true:=by unfold oZ;split<;>rfl
 have hs:(pP s v (bW s)).length<=(oZ xe (pP s v (bW s++vN v))).length:=by unfold oZ;split<;>exact rL _
 refine SC.of_gwpD 2 a8S mixed Tryz.func36 rfl (bL rfl) hs hh ?_;conv=>whnf
 have hIn:t8 v.recs.length 1 10=(!(decide (((fP v.recs).length:Int)<1))&&!(decide (((fP v.recs).length:Int)>10))):=by
  rw[hlen];unfold t8;rw[dQ];simp
 apply gM<;>intro h<;>conv=>whnf
 ·rw[hIn,show decide (((fP v.recs).length:Int)<1)=true from h] at hX;exact uK (hX:((0,4):Nat×Int)=(xi,xe)) (by decide)
 apply gM<;>intro h2<;>conv=>whnf
 ·rw[hIn,show decide (((fP v.recs).length:Int)>10)=true from h2,Bool.not_true,iL] at hX;exact uK (hX:((0,4):Nat×Int)=(xi,xe)) (by decide)
 rw[hIn,show decide (((fP v.recs).length:Int)<1)=false from h,show decide (((fP v.recs).length:Int)>10)=false from h2] at hX;replace hX:(dZ (rG s v) 0 v.recs).getD (0,0)=(xi,xe):=hX;clear h h2 hIn;refine bE 2 v.recs.length (fun i _=>∀j z,j<i->v.recs[j]?=some z->rG s v j z=0) (fun i _=>[(0,.ptr 0 0),(34,.sl .none (fP v.recs)),(35,.i .i64 (fP v.recs).length),(36,.i .i64 (i:Nat))]) (fun i (_:Unit)=>pP s v (bW s++(vN v).take i)) [] () (fun j z h=>absurd h (bP j)) (fun i _ φ0 hi hok=>?_) (hσ:=by rw[List.take_zero,f5]);conv=>whnf
 apply gM<;>intro h<;>conv=>whnf
 rotate_left
 ·have hie:i=v.recs.length:=by have:=aA h;omega
  rw[kC (Nat.le_of_eq hie.symm) hok] at hX;cases hX;have hm:(vN v).take i=vN v:=aW (by rw[hie];simp[vN]);show OwesD 2 _ _ (pP s v (bW s++vN v)) _ _;exact .val (cQ 2 (ho:=aR (fun m=>pP s v (bW s++m)) hm))
 have hlt:i<v.recs.length:=by have:=aB h;omega
 refine(d7 hlt).elim fun y hy=>?_;have y1:=(v3 y (aE hy)).1;have y2:=(v3 y (aE hy)).2;have y1':=y1;unfold b9 at y1';have bad0:∀{e:Int},rG s v i y=e->e≠0->((i,e):Nat×Int)=(xi,xe):=fun he h0=>by
  subst he;rw[kD hy h0 hok] at hX;exact hX
 have bad:∀{w:Bool} {e b:Int},rG s v i y=cX w e b->w=true->e≠0->((i,e):Nat×Int)=(xi,xe):=fun he h h0=>bad0 (he.trans (aU h)) h0;have hE:rG s v i y=gJ (bW s++(vN v).take i) y.name (cX (!((fV s).contains y.of)) 5 (cX (((vO v).take i).contains y.of) 6 (cX y.items.isEmpty 11 (UF (kE (EB (bS s y.of) y) y.items) (a5P (bS s y.of) y))))):=rfl;rw[DC] at hE;refine ix (aY hy) ⟨rfl,?_⟩;conv=>whnf
 refine st ?_;conv=>whnf
 refine st ?_;conv=>whnf
 by_cases hn:gJ (bW s++(vN v).take i) y.name 0=0;rotate_left
 ·rw[aC hn] at hE;refine cG [0,1] (Q4 (kd:=iR) (i:=i) hn) ?_;conv=>whnf
  exact uK (bad0 hE hn) hn
 rw[aD hn] at hE;refine cG [0,1] (Q3 (kd:=iR) (i:=i) hn) ?_;conv=>whnf
 refine cT [none,none,none,some 0,none,some 3,none,none,none,none,some 4,some 4,none] rfl rfl (by kernel_rfl) ?_;conv=>whnf
 refine cP (IB s hl y.of) ?_;conv=>whnf
 refine st ?_;conv=>whnf
 refine mN nU 2 5 (fun h=>?_) (fun h=>?_)<;>conv=>whnf
 ·exact uK (bad hE h (by decide)) (by decide)
 replace hE:=hE.trans (aZ h);refine cT [none,none,none,none,some 0,some 2,none,none,none,some 3,none,none,none,none,some 5,some 5,none] rfl rfl (by kernel_rfl) ?_;conv=>whnf
 refine TV (zs:=fP (v.recs.take i)) (a1J _) (by rw[hlen];omega) ?_ (eS ..).symm;conv=>whnf
 have hsn:=ED ⟨v.recs.take i,[]⟩ (by unfold b9;show(v.recs.take i).length<_;rw[aS];omega) y.of;rw[a3c] at hsn;refine cP hsn ?_ (wC (Wks.agg (wC (bF _) (wC (bY _ _) (wR _)))) (wR _));conv=>whnf
 refine st ?_;conv=>whnf
 refine mN nU 2 6 (fun h=>?_) (fun h=>?_)<;>conv=>whnf
 ·exact uK (bad hE h (by decide)) (by decide)
 replace hE:=hE.trans (aZ h);have hil:(nK y.items).length=y.items.length:=pK _;have hC:y.items.isEmpty=decide (((nK y.items).length:Int)=0):=by
  rw[hil];cases y.items with
  |nil=>rfl
  |cons a l=>exact(bN (by rw[aI];omega)).symm
 rw[hC] at hE;refine mN nU 2 11 (fun h=>?_) (fun h=>?_)<;>conv=>whnf
 ·exact uK (bad hE h (by decide)) (by decide)
 replace hE:=hE.trans (aZ h);have badI:∀{e:Int},kE (EB (bS s y.of) y) y.items=e->e≠0->((i,e):Nat×Int)=(xi,xe):=fun he h0=>bad0 (hE.trans (by rw[he,p9 h0])) h0;have hrl:(bS s y.of).its.length<b9:=by
  rcases nL s y.of with⟨j,_,hj,_⟩|⟨_,hj,_⟩
  ·exact(hr _ (aE hj)).1
  ·rw[hj];decide
 have hm:(pP s v (bW s++(vN v).take i++[y.name]))=pP s v (bW s++(vN v).take (i+1)):=by rw[bD];exact aR (fun m=>pP s v (bW s++m)) (mW (fun r:VwR=>r.name) hy).symm
 refine bE 8 y.items.length (fun k _=>∀j n,j<k->y.items[j]?=some n->EB (bS s y.of) y j n=0) (fun k _=>[(0,.ptr 0 0),(3,.ptr 2 0),(4,.ptr 3 0),(5,.fn (.func 73) [] [.ptr 2 0]),(6,.ptr 4 0),(10,.mp 6),(11,.mp 7),(34,.sl .none (fP v.recs)),(35,.i .i64 (fP v.recs).length),(36,.i .i64 (i:Nat)),(87,.sl .none (nK y.items)),(88,.i .i64 (nK y.items).length),(89,.i .i64 (k:Nat))])
  (fun k (_:Unit)=>pP s v (bW s++(vN v).take i++[y.name])++[.box 3 [.i .i64 (i:Nat)],.box 74 (rM y),.box 58 (LD (bS s y.of)),.box 74 (rM (sX {recs:=v.recs.take i,sets:=[]} y.of)),.mp (o4 ((y.items.map (·.1)).take k)),.mp (o4 ((y.items.map (·.2)).take k))]) [] () (fun j n h=>absurd h (bP j)) (fun k _ φ1 hk hok2=>?_)
 conv=>whnf
 apply gM<;>intro h<;>conv=>whnf
 ·have hlt2:k<y.items.length:=by have:=aB h;omega
  refine(d7 hlt2).elim fun p hp=>?_;have badJ:∀{e:Int},EB (bS s y.of) y k p=e->e≠0->((i,e):Nat×Int)=(xi,xe):=fun he h0=>badI ((mE hp (by rw[he];exact h0) hok2).trans he) h0;have hJ:EB (bS s y.of) y k p=cX (!dU p.1) 1 (cX (((y.items.map (·.1)).take k).contains p.1) 6 (cX (!((bS s y.of).its.any (fun x=>x.name==p.2))) 5 (cX (((y.items.map (·.2)).take k).contains p.2) 6 0))):=rfl;refine ix (aY hp) ⟨rfl,?_⟩;conv=>whnf
  refine st ?_;conv=>whnf
  refine cP (CP p.1) ?_;conv=>whnf
  refine mN nU 2 1 (fun h1=>?_) (fun h1=>?_)<;>conv=>whnf
  ·exact uK (badJ (hJ.trans (aU h1)) (by decide)) (by decide)
  replace hJ:=hJ.trans (aZ h1);refine(fJ (((y.items.map (·.1)).take k).contains p.1)).elim (fun hc=>?_) (fun hc=>?_)
  ·refine(HM 0 hc).elim fun q hq=>?_;refine⟨some (q,.b true),hq,?_⟩;(conv=>whnf);refine mN nU 2 6 (w:=true) (fun _=>?_) (fun h9=>nomatch h9);(conv=>whnf);exact uK (badJ (hJ.trans (aU hc)) (by decide)) (by decide)
  refine⟨none,y6 hc,?_⟩;conv=>whnf
  refine mN nU 2 6 (w:=false) (fun h9=>nomatch h9) (fun _=>?_);conv=>whnf
  replace hJ:=hJ.trans (aZ hc);refine cS [8] (a3O (bS s y.of).its hrl p) ?_;conv=>whnf
  refine mN nU 2 5 (fun h2=>?_) (fun h2=>?_)<;>conv=>whnf
  ·exact uK (badJ (hJ.trans (aU h2)) (by decide)) (by decide)
  replace hJ:=hJ.trans (aZ h2);refine(fJ (((y.items.map (·.2)).take k).contains p.2)).elim (fun hd=>?_) (fun hd=>?_)
  ·refine(HM 0 hd).elim fun q hq=>?_;refine⟨some (q,.b true),hq,?_⟩;(conv=>whnf);refine mN nU 2 6 (w:=true) (fun _=>?_) (fun h9=>nomatch h9);(conv=>whnf);exact uK (badJ (hJ.trans (aU hd)) (by decide)) (by decide)
  refine⟨none,y6 hd,?_⟩;conv=>whnf
  refine mN nU 2 6 (w:=false) (fun h9=>nomatch h9) (fun _=>?_);conv=>whnf
  replace hJ:=hJ.trans (aZ hd);refine cT [none,none,some 8,none,none,some 8,some 6,some 7] rfl rfl (by kernel_rfl) ?_;conv=>whnf
  refine⟨zL _,none,y6 hc,?_⟩;conv=>whnf
  refine⟨zL _,none,y6 hd,?_⟩;conv=>whnf
  exact nx () hlt2 ⟨hlt2,iE hp hJ hok2⟩ (by rw[a4N _ k hp,a3d _ k hp];rfl)
 have hI0:kE (EB (bS s y.of) y) y.items=0:=mD fun j z hz=>hok2 j z (by have:=aA h;rw[hil] at this;have:=(List.getElem?_eq_some_iff.1 hz).1;omega) hz;replace hE:=hE.trans (p8 hI0);apply gM<;>intro hc<;>conv=>whnf
 rotate_left
 ·exact nx () hlt ⟨hlt,iE hy (hE.trans (aD (by simpa using hc))) hok⟩ hm
 have hE2:=hE.trans (aC (by simpa using hc));refine cP (VV y.only y2) ?_;conv=>whnf
 apply gM<;>intro h5<;>conv=>whnf
 ·refine mN nU 2 2 (w:=true) (fun _=>?_) (fun h9=>nomatch h9);conv=>whnf
  exact uK (bad hE2 (by unfold o6;rw[bN (by simpa using h5)];rfl) (by decide)) (by decide)
 refine mN nU 2 2 (fun h6=>?_) (fun h6=>?_)<;>conv=>whnf
 ·exact uK (bad hE2 (by unfold o6;rw[bN (p:=(yX y.only).1=y.only) (by simpa using h6),iL];rfl) (by decide)) (by decide)
 replace hE2:=hE2.trans (aZ (by unfold o6;rw[bC (by simpa using h5),bC (by simpa using h6)];rfl));refine cP (YA (bS s y.of).its [] hrl (by decide) y.only y2) ?_ (wC (bF _) (wC (bF _) (wC (bY _ _) (wR _))));conv=>whnf
 refine mN nU 2 (CM (bS s y.of).its [] y.only) (w:=CM (bS s y.of).its [] y.only !=0) (fun h7=>?_) (fun h7=>?_) (by intro h;simpa using h)<;>conv=>whnf
 ·exact uK (bad0 hE2 (by simpa using h7)) (by simpa using h7)
 exact nx () hlt ⟨hlt,iE hy (hE2.trans (by simpa using h7)) hok⟩ hm
variable [Globals]
end
section
open Go.RowKit
theorem a6L [MaxL] (l:List Mb):(jB l).all (sO 4)=true:=by
 rw[aQ];intro x hx;obtain⟨b,_,rfl⟩:=List.mem_map.1 hx;rfl
theorem a2m [MaxL] {g:GV} (h:Cl g):ClL g.cells:=fun e=>by
 cases g with
 |agg cs=>have h1:=h e;rw[GV.ren,cU] at h1;exact GV.agg.inj h1
 |_=>exact aR (fun x=>[x]) (h e)
theorem a4Q [MaxL] {l:List GV} (h:∀g∈l,Cl g):ClL (flat l):=fun e=>by
 induction l with
 |nil=>rfl
 |cons g l ih=>rw[kW,b5,a2m (h g fY) e,ih fun g hg=>h g (eR _ hg)]
theorem UL [MaxL] (l:List Mb):ClL (flat (jB l)):=a4Q fun g hg=>by
 obtain⟨m,_,rfl⟩:=List.mem_map.1 hg;exact eQ (KL.h (l:=mbC m))
theorem a1B [MaxL] (x:Mb) (l:List Mb) (hl:l.length<1000):SC Tryz.prog 84 [.sl .none (jB (x::l))] [] (.val (.rs 0 0 4 (x::l).length 0)) [.box 69 (flat (jB (x::l)))]:=by
 refine cO Tryz.func84 rfl ?_;conv=>whnf
 refine⟨⟨a6L (x::l),rfl,?_⟩,_,_,⟨rfl,rfl⟩,_,⟨rfl,rfl⟩,?_⟩
 ·show 0+((x::l).map _).length<=4294967296;rw[b6,aI];omega
 conv=>whnf
 refine⟨[2],Lies.one rfl (dW (UL (x::l))) (by simp),fun i hi=>absurd hi (bP i),?_⟩;show Wk (GV.rs 2 0 4 (0+(jB (x::l)).length) 0) (GV.rs (jZ [2] 3 0) 0 4 (x::l).length 0);rw[lD (by simp),show(jB (x::l)).length=(x::l).length from cL _ _,bI];exact .refl _
end
section
open Go.RowKit
section
variable [Globals]
theorem QR [MaxL] {s' objs:List GObj}:k8 [] s' objs=objs++s'.map (GObj.ren (jZ [] objs.length)):=by
 apply eK;intro r;rw[kZ (fun k hk=>by cases hk) (zL _)];unfold iU;by_cases hr:r<objs.length
 ·rw[aD hr,b7 hr];rfl
 ·rw[aC hr,cJ (by omega)];simp
instance {e:Nat->Nat} {r o z n c:Nat}:RG e (.rs r o z n c) (.rs (e r) o z n c):=⟨rfl⟩
instance {n r o z m c:Nat} [k:NL r n]:FG n (.rs r o z m c):=⟨fun e he=>by rw[GV.ren,he r k.h]⟩
theorem cN [MaxL] {P:Program} {M:FuncId->Bool} {k:FuncId} {args a:List GV} {s' t':List GObj} {r r':GRes} {σ:GS} {K:GRes->GS->Prop} (h:SC P k a [] r s')
  [i1:KL a] [i3:RH (jZ [] σ.objs.length) s' t'] [i4:RR (jZ [] σ.objs.length) r r'] (hk:K r' ⟨σ.objs++t',σ.lo,σ.ds⟩) (hw:Wks args a:=by first|exact wR _|exact wC (bY _ _) (wR _)|exact wC (bY _ _) (wC (bY _ _) (wR _))|exact wC (bF _) (wC (bY _ _) (wR _)))
  (hlo:σ.lo=0:=by rfl) (hM:M k=false:=by rfl):gZ P M (.fn k) args σ K:=by
 have hf:=h.fact (σ:=σ) (args':=args) [] ⟨List.nodup_nil,rfl,fun i k x h1=>by simp at h1,fun x hx=>by cases hx⟩ hlo (by rw[i1.h];exact hw);rw[QR,i3.h,i4.h] at hf;exact⟨r',_,hf,(fun k' e hk'=>by cases e;rw[hM] at hk';cases hk'),hk⟩
end
instance mbF_kl [MaxL] (l:List Mb):KL (flat (jB l)):=⟨UL l⟩
theorem JK [MaxL] (l:List Mb):∀x∈jB l,x.cells.length=4:=fun x hx=>by
 obtain⟨b,_,rfl⟩:=List.mem_map.1 hx;rfl
end
section
open Go.RowKit
theorem FI [MaxL] {n:Nat}:∀(xs:List GV) (i:Nat),(∀x∈xs,x.cells.length=n)->(flat xs).take (i*n)=flat (xs.take i)
 |[],i,_=>by simp[flat]
 |x::xs,0,_=>by simp[flat]
 |x::xs,i+1,h=>by
  have h1:=h x fY;rw[iX,kW,kW,List.take_append,aW (by rw[h1,gR];omega),h1,show(i+1)*n - n=i*n by rw[gR];omega,FI xs i fun y hy=>h y (eR _ hy)]
theorem BF [MaxL] {n:Nat}:∀(xs:List GV) (i:Nat),(∀x∈xs,x.cells.length=n)->(flat xs).drop (i*n)=flat (xs.drop i)
 |[],i,_=>by simp[flat]
 |x::xs,0,_=>by simp[flat]
 |x::xs,i+1,h=>by
  have h1:=h x fY;rw[List.drop_succ_cons,kW,List.drop_append,eP (by rw[h1,gR];omega),h1,show(i+1)*n - n=i*n by rw[gR];omega,BF xs i fun y hy=>h y (eR _ hy)];rfl
theorem a2V [MaxL] {n:Nat} {xs:List GV} {i:Nat} {y:GV} (h:∀x∈xs,x.cells.length=n) (hy:y.cells.length=n) (hi:i<xs.length):
  flat (xs.set i y)=(flat xs).take (i*n)++y.cells++(flat xs).drop (i*n+y.cells.length):=by
 rw[hy,show i*n+n=(i+1)*n by rw[gR];omega,FI xs i h,BF xs (i+1) h,List.set_eq_take_append_cons_drop,aD hi,GO,kW,bD]
theorem a4A [MaxL] (l:List Mb) (i:Nat) (m:Mb):jB (l.set i m)=(jB l).set i (R8 m):=by unfold jB;rw[List.map_set]
structure Del (p:Mb->Bool) (ms:List Mb) (j:Nat) (X:List Mb):Prop where
 len:X.length=ms.length
 rest:X.drop j=ms.drop j
 front:X.take ((ms.take j).filter p).length=(ms.take j).filter p
theorem Del.le {p:Mb->Bool} {ms X:List Mb} {j:Nat} (h:Del p ms j X):((ms.take j).filter p).length<=j:=by
 have h1:=eW p (ms.take j);rw[aS] at h1;omega
theorem Del.at {p:Mb->Bool} {ms X:List Mb} {j:Nat} {y:Mb} (h:Del p ms j X) (hy:ms[j]?=some y):X[j]?=some y:=by
 have h1:=aR (fun l:List Mb=>l[0]?) h.rest;simp only[gI,k4] at h1;rw[h1];exact hy
theorem Del.start {p:Mb->Bool} {ms:List Mb} {i:Nat} (hall:∀z∈ms.take i,p z=true):Del p ms i ms:=
 ⟨rfl,rfl,by rw[List.filter_eq_self.2 hall,aS,<-List.take_take];simp⟩
theorem Del.skip {p:Mb->Bool} {ms X:List Mb} {j:Nat} {y:Mb} (h:Del p ms j X) (hy:ms[j]?=some y) (hp:p y=false):Del p ms (j+1) X:=by
 have e:(ms.take (j+1)).filter p=(ms.take j).filter p:=by rw[aT,hy,List.filter_append];simp[hp]
 refine⟨h.len,?_,by rw[e];exact h.front⟩;have h1:=aR (List.drop 1) h.rest;rwa [j7,j7] at h1
theorem Del.keep {p:Mb->Bool} {ms X:List Mb} {j:Nat} {y:Mb} (h:Del p ms j X) (hy:ms[j]?=some y) (hp:p y=true):Del p ms (j+1) (X.set ((ms.take j).filter p).length y)/\
  ((ms.take (j+1)).filter p).length=((ms.take j).filter p).length+1:=by
 have e:(ms.take (j+1)).filter p=(ms.take j).filter p++[y]:=by rw[aT,hy,List.filter_append];simp[hp]
 have hj:j<ms.length:=(List.getElem?_eq_some_iff.1 hy).1;have hle:=h.le;refine⟨⟨by rw[List.length_set];exact h.len,?_,?_⟩,by rw[e,aG];rfl⟩
 ·have h1:=aR (List.drop 1) h.rest;rw[j7,j7] at h1;rw[List.drop_set,aD (by omega)];exact h1
 ·rw[e,aG,j5,aT,List.take_set,k5 (by rw[h.len];omega),List.set_eq_of_length_le (by rw[aS];omega),h.front];rfl
def mbZ:List GV:=[.s [],.b false,.i .i64 0,.sl .full []]
def DT [MaxL] (p:Mb->Bool) (ms:List Mb):List GV:=flat (jB (ms.filter p))++(List.replicate (ms.length - (ms.filter p).length) mbZ).flatten
theorem a4X [MaxL] (p:Mb->Bool) (ms:List Mb):ClL (DT p ms):=fun e=>by
 unfold DT;rw[b5,UL (ms.filter p) e,List.map_flatten,List.map_replicate];rfl
instance [MaxL] {p:Mb->Bool} {ms:List Mb}:KL (DT p ms):=⟨a4X p ms⟩
theorem a2f [MaxL] {p:Mb->Bool} {ms:List Mb} (h:∀m∈ms,p m=true):DT p ms=flat (jB ms):=by
 unfold DT;rw[List.filter_eq_self.2 h,Nat.sub_self];simp
theorem Del.done [MaxL] {p:Mb->Bool} {ms X:List Mb} (h:Del p ms ms.length X):DT p ms=(flat (jB X)).take ((ms.filter p).length*4)++(List.replicate (ms.length - (ms.filter p).length) mbZ).flatten++(flat (jB X)).drop ((ms.filter p).length*4+(ms.length - (ms.filter p).length)*4):=by
 have hf:=h.front;rw[aV] at hf;have hle:=eW p ms;rw[FI _ _ (JK X),<-gR,Nat.add_sub_cancel' hle,BF _ _ (JK X),eP (by rw[show(jB X).length=X.length from cL _ _,h.len];exact rL _)];unfold DT;rw[show(jB X).take (ms.filter p).length=jB (ms.filter p) by unfold jB;rw[<-eS,hf]];simp[flat]
end
section
open Go.RowKit
theorem HY [MaxL] {n:Nat} {xs:List GV} {i:Nat} {x:GV} (hn:0<n) (h:∀x∈xs,x.cells.length=n) (hx:xs[i]?=some x):((flat xs).drop (i*n)).take n=x.cells/\i*n+n<=(flat xs).length:=by
 obtain⟨hi,e⟩:=List.getElem?_eq_some_iff.1 hx;have h1:=h x (aE hx);have h2:(flat xs).drop (i*n)=x.cells++flat (xs.drop (i+1)):=by rw[BF xs i h,b8 hi,e,kW]
 refine⟨by rw[h2,List.take_append_of_le_length (by omega),aW (by omega)],?_⟩;have h3:=aR List.length h2;rw[d9,aG,h1] at h3;omega
theorem XI [MaxL] {X:List Mb} {i:Nat} {y:Mb} (h:X[i]?=some y):wZ Tryz.prog 69 (flat (jB X)) (0+((i:Nat):Int).toNat*4)=some (R8 y):=by
 obtain⟨h1,h2⟩:=HY (n:=4) (xs:=jB X) (by decide) (JK X) (aY h);rw[bI,aL];show(if i*4+4<=(flat (jB X)).length then some (GV.agg (((flat (jB X)).drop (i*4)).take 4)) else none)=_;rw[aD h2,h1];rfl
abbrev KZ (s:Sch) (v:Vw) (N:List By):List GObj:=pP s v N++[.box 83 [.ptr 0 0]]
abbrev a2j (s:Sch) (v:Vw) (N:List By) (X:List Mb):List GObj:=KZ s v N++[.box 69 (flat (jB X))]
def jD (v:Vw) (m:Mb):Bool:=(kJ v m.of).isSome
theorem a0g [MaxL] (s:Sch) (v:Vw) (hl:v.recs.length<b9) (N:List By) (m:Mb):SC Tryz.prog 85 [R8 m,.ptr 2 0] (KZ s v N) (.val (.b (!jD v m))) (KZ s v N):=by
 have hs:=ED v hl m.of;refine bQ zC mixed Tryz.func85 rfl (bL rfl) (by first|exact rL _|simp) rfl ?_;conv=>whnf
 refine cT [some 2,none,none,some 0,none,some 3,none,none,none,none,some 4,some 4,none] rfl rfl (by kernel_rfl) ?_;conv=>whnf
 refine cP hs ?_;conv=>whnf
 refine st ?_;conv=>whnf
 exact cQ 3
theorem a5Y [MaxL] (s:Sch) (v:Vw) (hl:v.recs.length<b9) (N:List By) (X:List Mb) (hX:X.length<1000):SC Tryz.prog 146 [.rs 3 0 4 X.length 0,.fn (.func 85) [] [.ptr 2 0]] (a2j s v N X) (.val (.i .i64 (jJ (fun m=>!jD v m) X))) (a2j s v N X):=by
 refine cO Tryz.func146 rfl ?_;conv=>whnf
 refine bE 4 X.length (fun i _=>∀z∈X.take i,(!jD v z)=false) (fun i _=>[(0,.rs 3 0 4 X.length 0),(1,.fn (.func 85) [] [.ptr 2 0]),(7,.i .i64 X.length),(8,.i .i64 (i:Nat))]) (fun _ (_:Unit)=>a2j s v N X) [] () (by simp) (fun i _ φ0 hi hne=>?_);conv=>whnf
 apply gM<;>intro h<;>conv=>whnf
 rotate_left
 ·have hie:i=X.length:=by have:=aA h;omega
  rw[hie,aV] at hne;rw[nJ hne];exact cQ 4
 have hlt:i<X.length:=by have:=aB h;omega
 refine(d7 hlt).elim fun y hy=>?_;refine⟨⟨jR _,rfl,by omega⟩,?_⟩;conv=>whnf
 refine⟨R8 y,XI hy,?_⟩;conv=>whnf
 refine cS [0,1,2] (a0g s v hl N y) ?_;conv=>whnf
 apply gM<;>intro hp<;>conv=>whnf
 ·rw[o7 hy hp hne];exact cQ 4
 ·skip;exact nx () hlt ⟨hlt,pV hy hp hne⟩
set_option synthInstance.maxSize 2000 in
theorem a0h [MaxL] (s:Sch) (v:Vw) (hl:v.recs.length<b9) (N:List By) (X:List Mb) (hX:X.length<1000):SC Tryz.prog 83 [.rs 3 0 4 X.length 0,.fn (.func 85) [] [.ptr 2 0]] (a2j s v N X) (.val (.rs 3 0 4 (X.filter (jD v)).length 0)) (KZ s v N++[.box 69 (DT (jD v) X)]):=by
 have hi:=a5Y s v hl N X hX;have key:(jJ (fun m=>!jD v m) X= -1/\∀m∈X,jD v m=true)∨∃(i:Nat) (y:Mb),jJ (fun m=>!jD v m) X=i/\X[i]?=some y/\jD v y=false/\∀z∈X.take i,jD v z=true:=by
  rcases Int.lt_or_le (jJ (fun m=>!jD v m) X) 0 with h|h
  ·have h1:=a8C.1 h;exact .inl ⟨nJ h1,fun m hm=>by simpa using h1 m hm⟩
  ·obtain⟨i,y,e,hy,hp,hz, -⟩:=E4 h;exact .inr ⟨i,y,e,hy,by simpa using hp,fun z hz'=>by simpa using hz z hz'⟩
 generalize jJ (fun m=>!jD v m) X=ji at*;refine cO Tryz.func83 rfl ?_;conv=>whnf
 refine cS [0,1,2,3] hi ?_;conv=>whnf
 rcases key with⟨rfl,hall⟩|⟨i,y,rfl,hy,hp,hz⟩
 ·conv=>whnf
  have e:(X.filter (jD v)).length=X.length:=by rw[List.filter_eq_self.2 hall]
  rw[e,a2f hall];exact cQ 4
 have hil:i<X.length:=(List.getElem?_eq_some_iff.1 hy).1;have hD0:Del (jD v) X (i+1+0) X/\i=((X.take (i+1+0)).filter (jD v)).length:=by
  have h0:Del (jD v) X i X:=Del.start hz;refine⟨h0.skip hy hp,?_⟩;rw[k4,aT,hy,List.filter_append,List.filter_eq_self.2 hz];simp[hp,aS];omega
 conv=>whnf
 refine bE (β:=List Mb×Nat) 5 (X.length - (i+1)) (fun j o=>Del (jD v) X (i+1+j) o.1/\o.2=((X.take (i+1+j)).filter (jD v)).length) (fun j o=>[(0,.rs 3 0 4 X.length 0),(1,.fn (.func 85) [] [.ptr 2 0]),(5,.i .i64 (o.2:Nat)),(6,.i .i64 (i+1+j:Nat))]) (fun _ o=>a2j s v N o.1++[.own 0 0 0]) [] (X,i) hD0 (fun j o φ0 hj ho=>?_) (hφ:=by repeat' first|exact trivial|exact rfl|exact bH (by omega)|refine And.intro ?_ ?_);obtain⟨Y,k⟩:=o;have hD:Del (jD v) X (i+1+j) Y:=ho.1;have hk:k=((X.take (i+1+j)).filter (jD v)).length:=ho.2;clear ho;have hYl:Y.length=X.length:=hD.len;have hkl:k<=i+1+j:=by have:=hD.le;omega
 conv=>whnf
 apply gM<;>intro h<;>conv=>whnf
 ·have hlt:i+1+j<X.length:=by have:=aB h;omega
  refine(d7 hlt).elim fun z hz=>?_;have hYz:Y[i+1+j]?=some z:=hD.at hz;refine⟨⟨jR _,rfl,by omega⟩,?_⟩;conv=>whnf
  refine⟨R8 z,XI hYz,?_⟩;conv=>whnf
  refine st ?_;conv=>whnf
  have hg:=a0g s v hl N z;have hsk:jD v z=false->Del (jD v) X (i+1+(j+1)) Y/\k=((X.take (i+1+(j+1))).filter (jD v)).length:=fun hb=>⟨hD.skip hz hb,by
   have e:(X.take (i+1+(j+1))).filter (jD v)=(X.take (i+1+j)).filter (jD v):=by rw[show i+1+(j+1)=i+1+j+1 from rfl,aT,hz,List.filter_append];simp[hb]
   rw[e];exact hk⟩
  have hkp:jD v z=true->Del (jD v) X (i+1+(j+1)) (Y.set k z)/\k+1=((X.take (i+1+(j+1))).filter (jD v)).length:=fun hb=>by
   have h1:=hD.keep hz hb;rw[hk];exact⟨h1.1,h1.2.symm⟩
  refine(fJ (jD v z)).elim (fun hb=>?_) (fun hb=>?_)<;>rw[hb] at hg
  ·refine cS [0,1,2] hg ?_;(conv=>whnf);refine⟨⟨jR _,rfl,by omega⟩,?_⟩;(conv=>whnf);have hks:=a2V (xs:=jB Y) (i:=k) (y:=R8 z) (JK Y) rfl (by rw[show(jB Y).length=Y.length from cL _ _];omega);have hkl3:0+((k:Nat):Int).toNat*4=k*4:=by rw[bI,aL]
   refine⟨flat (jB (Y.set k z)),⟨?_,zL _,rfl,?_⟩,?_⟩
   ·rw[a4A,hks];show _=(flat (jB Y)).take (0+((k:Nat):Int).toNat*4)++mbC z++(flat (jB Y)).drop (0+((k:Nat):Int).toNat*4+4);rw[hkl3];rfl
   ·show 0+((k:Nat):Int).toNat*4+4<=(flat (jB Y)).length;rw[hkl3];refine(d7 (l:=Y) (i:=k) (by omega)).elim fun w hw=>?_;exact(HY (n:=4) (xs:=jB Y) (i:=k) (x:=R8 w) (by decide) (JK Y) (aY hw)).2
   (conv=>whnf);exact nx (Y.set k z,k+1) (by omega) ⟨by omega,hkp hb⟩
  ·refine cS [0,1,2] hg ?_;(conv=>whnf);exact nx (Y,k) (by omega) ⟨by omega,hsk hb⟩
 have hje:i+1+j=X.length:=by have:=aA h;omega
 rw[hje] at hD hk;rw[aV] at hk;have hkX:k<X.length:=by
  rw[hk];refine Nat.lt_of_le_of_ne (eW _ _) fun e=>?_;have h1:=List.filter_eq_self.1 (List.Sublist.eq_of_length List.filter_sublist e) y (aE hy);rw[h1] at hp;cases hp
 refine⟨jR _,?_⟩;conv=>whnf
 refine⟨⟨by show((k:Nat):Int).toNat<=_;omega,rL _,.inr (by show((k:Nat):Int).toNat<_;omega)⟩,_,_,_,⟨rfl,rfl,rfl⟩,?_⟩;conv=>whnf
 have hks:0+((k:Nat):Int).toNat*4=k*4:=by rw[bI,aL]
 refine⟨DT (jD v) X,⟨?_,zL _,?_⟩,?_⟩
 ·rw[hD.done,<-hk];show _=(flat (jB Y)).take (0+((k:Nat):Int).toNat*4)++(List.replicate (X.length - ((k:Nat):Int).toNat) mbZ).flatten++(flat (jB Y)).drop (0+((k:Nat):Int).toNat*4+(X.length - ((k:Nat):Int).toNat)*4);rw[hks,aL]
 ·show 0+((k:Nat):Int).toNat*4+(X.length - ((k:Nat):Int).toNat)*4<=(flat (jB Y)).length;rw[hks,aL];refine(d7 (l:=Y) (i:=X.length - 1) (by omega)).elim fun w hw=>?_;have:=(HY (n:=4) (xs:=jB Y) (i:=X.length - 1) (x:=R8 w) (by decide) (JK Y) (aY hw)).2;omega
 conv=>whnf
 refine⟨jR _,?_⟩;conv=>whnf
 refine⟨⟨zL _,by show((k:Nat):Int).toNat<=_;omega,.inl rfl⟩,_,_,_,⟨rfl,rfl,rfl⟩,?_⟩;conv=>whnf
 rw[<-hk];exact cQ 4
end
