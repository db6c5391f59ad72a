/-
  A part of the proof of SchemaFinds.
-/
import Derived.Test.YtcfgfkkhpdlhpaaGreatDoorT50
set_option linter.all false
set_option maxRecDepth 100000
namespace Go.Proofs.YtcfgfkkhpdlhpaaGreatDoor
open Go.RowKit
def fL {α:Type} (f:List α->α->Bool×List α):List α->List α->Bool×List α
 |met,[]=>(false,met)
 |met,x::l=>if(f met x).1 then(true,(f met x).2) else fL f (f met x).2 l
section
variable {α : Type} [BEq α] [LawfulBEq α] (succ : α → List α) (o : α)
def kW:Nat->List α->α->Bool×List α
 |0=>fun met _=>(false,met)
 |k+1=>fun met x=>if x==o then(true,met) else if met.contains x then(false,met) else fL (kW k) (met++[x]) (succ x)
inductive Leads:α->Prop where
 |here:Leads o
 |step {x y:α} (h:y∈succ x) (k:Leads y):Leads x
theorem V3 {f:List α->α->Bool×List α}:∀{a b met:List α},(fL f met a).1=true->fL f met (a++b)=fL f met a
 |[],b,met,h=>by cases h
 |x::a,b,met,h=>by
  cases hx:(f met x).1 with
  |true=>simp[fL,hx]
  |false=>simp[fL,hx] at h⊢;exact V3 h
theorem V4 {f:List α->α->Bool×List α}:∀{a b met:List α},(fL f met a).1=false->fL f met (a++b)=fL f (fL f met a).2 b
 |[],b,met,h=>rfl
 |x::a,b,met,h=>by
  cases hx:(f met x).1 with
  |true=>simp[fL,hx] at h
  |false=>simp[fL,hx] at h⊢;exact V4 h
theorem AX {f:List α->α->Bool×List α} {P:α->Prop} (hf:∀met x,(f met x).1=true->P x):∀(l met:List α),(fL f met l).1=true->∃x∈l,P x
 |[],met,h=>by cases h
 |x::l,met,h=>by
  unfold fL at h;cases hx:(f met x).1 with
  |true=>exact⟨x,fO,hf _ _ hx⟩
  |false=>
   rw[hx] at h;obtain⟨y,hy,hp⟩:=AX hf l _ h;exact⟨y,f6 _ hy,hp⟩
theorem FQ:∀(k:Nat) (met:List α) (x:α),(kW succ o k met x).1=true->Leads succ o x
 |0,met,x,h=>by cases h
 |k+1,met,x,h=>by
  unfold kW at h;by_cases e:(x==o)=true
  ·cases eq_of_beq e;exact .here
  ·rw[aE e] at h;by_cases e2:met.contains x=true
   ·rw[aG e2] at h;cases h
   ·rw[aE e2] at h;obtain⟨y,hy,hp⟩:=AX (FQ k) _ _ h;exact .step hy hp
def Shut (met met':List α):Prop:=(∀y∈met,y∈met')/\∀y∈met',y∉met->y≠o/\∀z∈succ y,z∈met'
theorem Shut.trans {a b c:List α} (h:Shut succ o a b) (k:Shut succ o b c):Shut succ o a c:=
 ⟨fun y hy=>k.1 y (h.1 y hy),fun y hy hn=>by
  by_cases hb:y∈b
  ·exact⟨(h.2 y hb hn).1,fun z hz=>k.1 z ((h.2 y hb hn).2 z hz)⟩
  ·exact k.2 y hy hb⟩
def pM (U met:List α):Nat:=(U.filter fun x=>!met.contains x).length
theorem K6 {U a b:List α} (h:∀y∈a,y∈b):pM U b<=pM U a:=by
 unfold pM;induction U with
 |nil=>exact rL _
 |cons u U ih=>
  by_cases hb:u∈b
  ·by_cases ha:u∈a<;>simp[hb,ha] at ih⊢ <;>omega
  ·have ha:u∉a:=fun q=>hb (h u q);simp[hb,ha] at ih⊢;omega
theorem K5 {U met:List α} {x:α} (hx:x∈U) (hn:met.contains x=false):pM U (met++[x])<pM U met:=by
 unfold pM;induction U with
 |nil=>cases hx
 |cons u U ih=>
  have hm:x∉met:=by simpa using hn
  have hle:(U.filter fun y=>!(met++[x]).contains y).length<=(U.filter fun y=>!met.contains y).length:=K6 (U:=U) (a:=met) (b:=met++[x]) fun y hy=>eR _ hy;by_cases e:u=x
  ·subst e;simp[hm] at hle⊢;omega
  ·have hx':x∈U:=by
    rcases List.mem_cons.1 hx with q|q
    ·exact absurd q.symm e
    ·exact q
   have:=ih hx';by_cases hu:u∈met<;>simp[hu,e] at this⊢ <;>omega
theorem EF {U:List α} {F:List α->α->Bool×List α} {k:Nat} (hF:∀m y,y∈U->pM U m<k->(F m y).1=false->Shut succ o m (F m y).2/\y∈(F m y).2):
  ∀(l m:List α),(∀y∈l,y∈U)->pM U m<k->(fL F m l).1=false->Shut succ o m (fL F m l).2/\∀y∈l,y∈(fL F m l).2:=by
 intro l;induction l with
 |nil=>intro m _ _ _;exact⟨⟨fun _ h=>h,fun y hy hn=>absurd hy hn⟩,fun y hy=>by cases hy⟩
 |cons y l ih=>
  intro m hl hm hw;unfold fL at hw⊢;cases hy:(F m y).1 with
  |true=>rw[hy] at hw;cases hw
  |false=>
   rw[hy] at hw;rw[aE (by simp)] at hw⊢;obtain⟨s1,s2⟩:=hF m y (hl y fO) hm hy;obtain⟨s3,s4⟩:=ih _ (fun z hz=>hl z (f6 _ hz)) (Nat.lt_of_le_of_lt (K6 s1.1) hm) hw;refine⟨s1.trans succ o s3,fun z hz=>?_⟩;rcases List.mem_cons.1 hz with rfl|hz
   ·exact s3.1 _ s2
   ·exact s4 z hz
theorem wF {U:List α} (hU:∀x,∀y∈succ x,y∈U):∀(k:Nat) (met:List α) (x:α),x∈U->pM U met<k->(kW succ o k met x).1=false->Shut succ o met (kW succ o k met x).2/\x∈(kW succ o k met x).2
 |0,met,x,_,h,_=>absurd h (cM _)
 |k+1,met,x,hx,hk,h=>by
  unfold kW at h⊢;by_cases e:(x==o)=true
  ·rw[aG e] at h;cases h
  rw[aE e] at h⊢;by_cases e2:met.contains x=true
  ·rw[aG e2];exact⟨⟨fun _ h=>h,fun y hy hn=>absurd hy hn⟩,by simpa using e2⟩
  rw[aE e2] at h⊢;have hlt:=K5 hx (by simpa using e2);obtain⟨s1,s2⟩:=EF succ o (wF hU k) (succ x) (met++[x]) (hU x) (by omega) h;have hxin:=s1.1 x (List.mem_append_right _ fO);refine⟨⟨fun y hy=>s1.1 y (eR _ hy),fun y hy hn=>?_⟩,hxin⟩;by_cases q:y=x
  ·subst q;exact⟨fun q=>e (by rw[q];simp),s2⟩
  ·exact s1.2 y hy fun q2=>by
    rcases List.mem_append.1 q2 with q3|q3
    ·exact hn q3
    ·exact q (List.mem_singleton.1 q3)
def jT (f:List α->α->Bool×List α):List α->List α->Int
 |_,[]=> -1
 |met,x::l=>if(f met x).1 then 0 else if jT f (f met x).2 l<0 then -1 else jT f (f met x).2 l+1
theorem EH {f:List α->α->Bool×List α}:∀(met l:List α), -1<=jT f met l
 |met,[]=>dN _
 |met,x::l=>by
  have:=EH (f:=f) (f met x).2 l;unfold jT;split
  ·decide
  ·split<;>omega
theorem HU {f:List α->α->Bool×List α} {met l:List α} {x:α} (h:(f met x).1=true):fL f met (x::l)=(true,(f met x).2):=aG h
theorem EG {f:List α->α->Bool×List α} {met l:List α} {x:α} (h:(f met x).1=false):fL f met (x::l)=fL f (f met x).2 l:=aE (by rw[h];simp)
theorem SX {f:List α->α->Bool×List α} {met l:List α} {x:α} (h:(f met x).1=true) {i:Nat} {w:Int} (e:w=if jT f met (x::l)<0 then -1 else jT f met (x::l)+i):w=i:=by
 rw[show jT f met (x::l)=0 from aG h,aE (by omega)] at e;omega
theorem OF {f:List α->α->Bool×List α} {met l:List α} {x:α} (h:(f met x).1=false) {i:Nat} {w:Int} (e:w=if jT f met (x::l)<0 then -1 else jT f met (x::l)+i):w=if jT f (f met x).2 l<0 then -1 else jT f (f met x).2 l+(i+1:Nat):=by
 have hg:=EH (f:=f) (f met x).2 l;rw[show jT f met (x::l)=if jT f (f met x).2 l<0 then -1 else jT f (f met x).2 l+1 from aE (by rw[h];simp)] at e;rw[e];by_cases q:jT f (f met x).2 l<0
 ·rw[aG q,aG q];rfl
 ·rw[aE q,aE q,aE (by omega)];omega
theorem HV {f:List α->α->Bool×List α}:∀(l met:List α),decide (0<=jT f met l)=(fL f met l).1
 |[],met=>rfl
 |x::l,met=>by
  unfold jT fL;cases hx:(f met x).1 with
  |true=>rfl
  |false=>
   show decide (0<=if jT f (f met x).2 l<0 then -1 else jT f (f met x).2 l+1)=(fL f (f met x).2 l).1;rw[<-HV l];split
   ·rename_i h;rw[decide_eq_decide];omega
   ·rename_i h;rw[decide_eq_decide];omega
end
theorem ZJ {α:Type} [BEq α] [LawfulBEq α] {succ:α->List α} {o:α} {U ms M:List α} (hU:∀x,∀y∈succ x,y∈U) (hm:∀x∈ms,x∈U) (h1:∀x∈ms,x∈M) (h2:∀x∈M,∀y∈succ x,y∈M) (h3:∀x∈M,∃m∈ms,Leads succ x m):
  M.contains o=(fL (kW succ o (U.length+1)) [] ms).1:=by
 cases hw:(fL (kW succ o (U.length+1)) [] ms).1 with
 |true=>
  obtain⟨m,hmm,hl⟩:=AX (FQ succ o _) ms [] hw;have:∀x,Leads succ o x->x∈M->o∈M:=fun x h=>by
   induction h with
   |here=>exact fun h=>h
   |step h _ ih=>exact fun hx=>ih (h2 _ hx _ h)
  simpa using this m hl (h1 m hmm)
 |false=>
  cases hc:M.contains o with
  |false=>rfl
  |true=>
   exfalso;obtain⟨m,hmm,hl⟩:=h3 o (by simpa using hc);obtain⟨s1,s2⟩:=EF succ o (wF succ o hU _) ms [] hm (Nat.lt_succ_of_le (iN _ _)) hw;have:∀x,Leads succ o x->x∈(fL (kW succ o (U.length+1)) [] ms).2->False:=fun x h=>by
    induction h with
    |here=>exact fun h=>(s1.2 _ h (by simp)).1 rfl
    |step h _ ih=>exact fun hx=>ih ((s1.2 _ hx (by simp)).2 _ h)
   exact this m hl (s2 m hmm)
def JF (l:List Sy) (x:By):List By:=(l.filter (·.owner==x)).flatMap fun t=>t.ms.map (·.of)
abbrev sG (s:Sch):By->List By:=JF s.st
abbrev rgF:GV:=.fn (.func 102) [] [.ptr 1 0,.ptr 3 0,.ptr 0 0,.ptr 4 0]
abbrev DQ [MaxL] (s:Sch) (t:Sy) (m:List By):List GObj:=[.box 26 (lI s),.box 39 (H9 t),.mp (wE m),.box 85 [.mp 2],.box 123 [rgF]]
def a3c [MaxL] (s:Sch) (t:Sy) (k:Nat):Prop:=∀(m:List By) (x:By),x∈eJ s->pM (eJ s) m<k->
 SC Tryz.prog 102 [.s x,.ptr 1 0,.ptr 3 0,.ptr 0 0,.ptr 4 0] (DQ s t m) (.val (.b (kW (sG s) t.owner k m x).1)) (DQ s t (kW (sG s) t.owner k m x).2)
set_option synthInstance.maxSize 2000 in
theorem W8 [MaxL] {s:Sch} {t:Sy} {m m':List By} {b:Bool} (c:FuncId) (hc:c=104∨c=105) (y:Mb) (h:SC Tryz.prog 102 [.s y.of,.ptr 1 0,.ptr 3 0,.ptr 0 0,.ptr 4 0] (DQ s t m) (.val (.b b)) (DQ s t m')):
  SC Tryz.prog c [YO y,.ptr 4 0] (DQ s t m) (.val (.b b)) (DQ s t m'):=by
 rcases hc with rfl|rfl
 ·skip;refine cZ Tryz.func104 rfl ?_;conv=>whnf
  refine cG [0,1,2,3,4] h ?_;conv=>whnf
  exact d6 5
 ·skip;refine cZ Tryz.func105 rfl ?_;conv=>whnf
  refine cG [0,1,2,3,4] h ?_;conv=>whnf
  exact d6 5
theorem a3I {f:List By->By->Bool×List By} {l:List Mb} {i:Nat} {y:Mb} {m:List By} {W:Bool×List By} {V:Int} (hy:l[i]?=some y) (h2:W=fL f m ((l.drop i).map (·.of))) (h3:V=if jT f m ((l.drop i).map (·.of))<0 then -1 else jT f m ((l.drop i).map (·.of))+i):
  ((f m y.of).1=true->W=(true,(f m y.of).2)/\V=i)/\((f m y.of).1=false->W=fL f (f m y.of).2 ((l.drop (i+1)).map (·.of))/\V=if jT f (f m y.of).2 ((l.drop (i+1)).map (·.of))<0 then -1 else jT f (f m y.of).2 ((l.drop (i+1)).map (·.of))+(i+1:Nat)):=by
 have hd:(l.drop i).map (·.of)=y.of::(l.drop (i+1)).map (·.of):=by
  obtain⟨q,e⟩:=List.getElem?_eq_some_iff.1 hy;rw[aX q,e];rfl
 rw[hd] at h2 h3;exact⟨fun q=>⟨h2.trans (HU q),SX q h3⟩,fun q=>⟨h2.trans (EG q),OF q h3⟩⟩
set_option synthInstance.maxSize 2000 in
theorem a1X [MaxL] {s:Sch} {t:Sy} (f:List By->By->Bool×List By) (P:List By->Prop) (c:FuncId) (hc:c=104∨c=105) (l:List Mb) (hl:l.length<bH)
  (hone:∀m y,y∈l->P m->SC Tryz.prog c [YO y,.ptr 4 0] (DQ s t m) (.val (.b (f m y.of).1)) (DQ s t (f m y.of).2)/\((f m y.of).1=false->P (f m y.of).2)) (m0:List By) (h0:P m0):
  SC Tryz.prog 153 [.sl .none (kV l),.fn (.func c) [] [.ptr 4 0]] (DQ s t m0) (.val (.i .i64 (jT f m0 (l.map (·.of))))) (DQ s t (fL f m0 (l.map (·.of))).2):=by
 have hlen:=iC l;unfold bH at hl;have hs:(if jT f m0 (l.map (·.of))<0 then -1 else jT f m0 (l.map (·.of))+((0:Nat):Int))=jT f m0 (l.map (·.of)):=by
  have:=EH (f:=f) m0 (l.map (·.of));split<;>omega
 generalize hW:fL f m0 (l.map (·.of))=W;generalize hV:jT f m0 (l.map (·.of))=V at hs⊢;rcases hc with rfl|rfl;refine cZ Tryz.func153 rfl ?_;conv=>whnf
 rotate_left;refine cZ Tryz.func153 rfl ?_;conv=>whnf
 rotate_left;all_goals
  refine cK 5 l.length (fun i m=>P m/\W=fL f m ((l.drop i).map (·.of))/\V=if jT f m ((l.drop i).map (·.of))<0 then -1 else jT f m ((l.drop i).map (·.of))+i)
   (fun i _=>[(0,.sl .none (kV l)),(1,.fn (.func _) [] [.ptr 4 0]),(7,.i .i64 (kV l).length),(8,.i .i64 (i:Nat))]) (fun _ m=>DQ s t m) [] m0 ⟨h0,hW.symm,by rw[List.drop_zero,hV];exact hs.symm⟩ (fun i m φ0 hi hI=>?_)
  obtain⟨h1,h2,h3⟩:=hI;conv=>whnf
  refine aF (fun h=>?_) (fun h=>?_)<;>conv=>whnf
  rotate_left
  ·have hie:i=l.length:=by have:=aB h;rw[hlen] at this;omega
   rw[hie,List.drop_length] at h2 h3;rw[h2,h3];exact d6 5
  have hlt:i<l.length:=by have:=aA h;rw[hlen] at this;omega
  refine(gQ hlt).elim fun y hy=>?_;have hone:=hone m y (aK hy) h1;have hw:=a3I hy h2 h3;clear h2 h3;refine ix (cE hy) ⟨rfl,?_⟩;conv=>whnf
  refine cG [0,1,2,3,4] hone.1 ?_;conv=>whnf
  refine aF (fun hb=>?_) (fun hb=>?_)<;>conv=>whnf
  ·rw[(hw.1 hb).1,(hw.1 hb).2];exact d6 5
  ·exact nx (f m y.of).2 hlt ⟨hlt,hone.2 hb,hw.2 hb⟩
set_option synthInstance.maxSize 2000 in
theorem W9 [MaxL] {s:Sch} {t:Sy} (f:List By->By->Bool×List By) (P:List By->Prop) (c:FuncId) (hc:c=104∨c=105) (l:List Mb) (hl:l.length<bH)
  (hone:∀m y,y∈l->P m->SC Tryz.prog c [YO y,.ptr 4 0] (DQ s t m) (.val (.b (f m y.of).1)) (DQ s t (f m y.of).2)/\((f m y.of).1=false->P (f m y.of).2)) (m0:List By) (h0:P m0):
  SC Tryz.prog 103 [.sl .none (kV l),.fn (.func c) [] [.ptr 4 0]] (DQ s t m0) (.val (.b (fL f m0 (l.map (·.of))).1)) (DQ s t (fL f m0 (l.map (·.of))).2):=by
 have hi:=a1X f P c hc l hl hone m0 h0;rw[<-HV];generalize jT f m0 (l.map (·.of))=j at*;generalize(fL f m0 (l.map (·.of))).2=m at*;clear hone;rcases hc with rfl|rfl
 ·skip;refine cZ Tryz.func103 rfl ?_;conv=>whnf
  refine cG [0,1,2,3,4] hi ?_;conv=>whnf
  exact d6 5
 ·skip;refine cZ Tryz.func103 rfl ?_;conv=>whnf
  refine cG [0,1,2,3,4] hi ?_;conv=>whnf
  exact d6 5
theorem VG (y:Sy) (l:List Sy) (x:By):JF (y::l) x=if y.owner==x then y.ms.map (·.of)++JF l x else JF l x:=by
 unfold JF;rw[List.filter_cons];split<;>rfl
theorem HT {f:List By->By->Bool×List By} {P:List By->Prop}:∀{l m:List By},(∀m y,y∈l->P m->(f m y).1=false->P (f m y).2)->P m->(fL f m l).1=false->P (fL f m l).2
 |[],m,_,h,_=>h
 |y::l,m,hs,h,hw=>by
  cases hy:(f m y).1 with
  |true=>rw[HU hy] at hw;cases hw
  |false=>
   rw[EG hy] at hw⊢;exact HT (fun m z hz=>hs m z (f6 _ hz)) (hs m y fO h hy) hw
theorem a2X {f:List By->By->Bool×List By} {l:List Sy} {i:Nat} {y:Sy} {m:List By} {x:By} {W:Bool×List By} (hy:l[i]?=some y) (h:W=fL f m (JF (l.drop i) x)):
  ((y.owner==x)=false->W=fL f m (JF (l.drop (i+1)) x))/\((y.owner==x)=true->((fL f m (y.ms.map (·.of))).1=true->W=fL f m (y.ms.map (·.of)))/\((fL f m (y.ms.map (·.of))).1=false->W=fL f (fL f m (y.ms.map (·.of))).2 (JF (l.drop (i+1)) x))):=by
 have hd:l.drop i=y::l.drop (i+1):=by
  obtain⟨q,e⟩:=List.getElem?_eq_some_iff.1 hy;rw[aX q,e]
 rw[hd,VG] at h;refine⟨fun q=>by rw[q] at h;exact h,fun q=>?_⟩;rw[q,aG rfl] at h;exact⟨fun k=>h.trans (V3 k),fun k=>h.trans (V4 k)⟩
theorem ZW [MaxL] (m:List By) (x:By):wE m++[(GV.s x,GV.b true)]=wE (m++[x]):=by unfold wE;rw[cO];rfl
set_option synthInstance.maxSize 2000 in
theorem ZK [MaxL] {s:Sch} (hst:s.st.length<bH) (hms:∀u∈s.st,u.ms.length<bH) {t:Sy} (f:List By->By->Bool×List By) (P:List By->Prop)
  (hf:∀m x,x∈eJ s->P m->SC Tryz.prog 102 [.s x,.ptr 1 0,.ptr 3 0,.ptr 0 0,.ptr 4 0] (DQ s t m) (.val (.b (f m x).1)) (DQ s t (f m x).2)/\((f m x).1=false->P (f m x).2)) (hM:∀u∈s.st,∀y∈u.ms,y.of∈eJ s)
  (m0:List By) (x:By) (hc:m0.contains x=false) (hx:(x==t.owner)=false) (h0:P (m0++[x])):
  SC Tryz.prog 102 [.s x,.ptr 1 0,.ptr 3 0,.ptr 0 0,.ptr 4 0] (DQ s t m0) (.val (.b (fL f (m0++[x]) (sG s x)).1)) (DQ s t (fL f (m0++[x]) (sG s x)).2):=by
 have hlen:(rP s.st).length=s.st.length:=fN _ _;unfold bH at hst;have hany:=fun(y:Sy) (hy:y∈s.st)=>W9 (s:=s) (t:=t) f P _ (.inl rfl) y.ms (hms y hy) (fun m z hz hp=>⟨W8 _ (.inl rfl) z (hf m z.of (hM y hy z hz) hp).1,(hf m z.of (hM y hy z hz) hp).2⟩);have hkeep:∀(y:Sy) (hy:y∈s.st) (m:List By),P m->(fL f m (y.ms.map (·.of))).1=false->P (fL f m (y.ms.map (·.of))).2:=fun y hy m hp=>HT (fun m z hz hp=>by
  obtain⟨w,hw,rfl⟩:=List.mem_map.1 hz;exact(hf m w.of (hM y hy w hw) hp).2) hp
 clear hf hM;generalize hW:fL f (m0++[x]) (sG s x)=W;refine cZ Tryz.func102 rfl ?_;conv=>whnf
 refine gN hx ?_;conv=>whnf
 refine⟨none,K2 hc,?_⟩;conv=>whnf
 refine⟨zL _,none,K2 hc,?_⟩;conv=>whnf
 refine cK 5 s.st.length (fun i m=>P m/\W=fL f m (JF (s.st.drop i) x)) (fun i _=>[(0,.s x),(1,.ptr 1 0),(2,.ptr 3 0),(3,.ptr 0 0),(4,.ptr 4 0),(19,.sl .none (rP s.st)),(20,.i .i64 (s.st.length:Nat)),(21,.i .i64 (i:Nat))]) (fun _ m=>DQ s t m) [] (m0++[x]) ⟨h0,hW.symm⟩ (fun i m φ0 hi hI=>?_) (hφ:=⟨rfl,rfl,rfl,rfl,rfl,rfl,by rw[<-hlen];rfl,rfl,trivial⟩) (hσ:=by show(⟨[.box 26 (lI s),.box 39 (H9 t),.mp (wE m0++[(.s x,.b true)]),.box 85 [.mp 2],.box 123 [rgF]],0,[]⟩:GS)=_;rw[ZW]);conv=>whnf
 refine aF (fun h=>?_) (fun h=>?_)<;>conv=>whnf
 rotate_left
 ·have e:W=(false,m):=by rw[hI.2,fH (by have:=aB h;omega)];rfl
  rw[e];exact d6 5
 have hlt:i<s.st.length:=by have:=aA h;omega
 refine(gQ hlt).elim fun y hy=>?_;have hw:=a2X hy hI.2;have hym:=aK hy;have ha:=hany y hym m hI.1;have hp:=hkeep y hym m hI.1;refine ix (cE hy) ⟨rfl,?_⟩;conv=>whnf
 refine st ?_;conv=>whnf
 refine aF (fun h=>?_) (fun h=>?_)<;>conv=>whnf
 ·have hw:=hw.2 h;refine cG [0,1,2,3,4] ha ?_;conv=>whnf
  refine aF (fun hb=>?_) (fun hb=>?_)<;>conv=>whnf
  ·rw[hw.1 hb,hb];exact d6 5
  ·exact nx (fL f m (y.ms.map (·.of))).2 hlt ⟨hlt,hp hb,hw.2 hb⟩
 ·exact nx m hlt ⟨hlt,hI.1,hw.1 h⟩
set_option synthInstance.maxSize 2000 in
theorem a1Y [MaxL] {s:Sch} {t:Sy} (m:List By) (x:By) (h:(x==t.owner)=true):SC Tryz.prog 102 [.s x,.ptr 1 0,.ptr 3 0,.ptr 0 0,.ptr 4 0] (DQ s t m) (.val (.b true)) (DQ s t m):=by
 refine cZ Tryz.func102 rfl ?_;conv=>whnf
 refine gY h ?_;conv=>whnf
 exact d6 5
set_option synthInstance.maxSize 2000 in
theorem a1W [MaxL] {s:Sch} {t:Sy} (m:List By) (x:By) (h:(x==t.owner)=false) (hc:m.contains x=true):SC Tryz.prog 102 [.s x,.ptr 1 0,.ptr 3 0,.ptr 0 0,.ptr 4 0] (DQ s t m) (.val (.b false)) (DQ s t m):=by
 obtain⟨q,hq⟩:=RN 0 hc;refine cZ Tryz.func102 rfl ?_;conv=>whnf
 refine gN h ?_;conv=>whnf
 refine⟨some (q,.b true),hq,?_⟩;conv=>whnf
 exact d6 5
theorem RP {s:Sch} (h:(mP s).2.2=0):∀u∈s.st,∀y∈u.ms,y.of∈eJ s:=fun u hu y hy=>by
 obtain⟨k,hk⟩:=List.mem_iff_getElem?.1 hy;have h1:=(VN h hu).1 k y hk;unfold pL at h1;obtain⟨h2,_⟩:=i6 h1 (by decide);simpa using h2
theorem JE {s:Sch} (hM:∀u∈s.st,∀y∈u.ms,y.of∈eJ s):∀x,∀y∈sG s x,y∈eJ s:=fun x y hy=>by
 obtain⟨u,hu,hy⟩:=List.mem_flatMap.1 hy;obtain⟨z,hz,rfl⟩:=List.mem_map.1 hy;exact hM u (List.mem_filter.1 hu).1 z hz
theorem R0 {s:Sch} {t:Sy} {k:Nat} {m:List By} {x:By} (hU:∀x,∀y∈sG s x,y∈eJ s) (hx:x∈eJ s) (hm:pM (eJ s) m<k) (h:(kW (sG s) t.owner k m x).1=false):pM (eJ s) (kW (sG s) t.owner k m x).2<k:=
 Nat.lt_of_le_of_lt (K6 (wF (sG s) t.owner hU k m x hx hm h).1.1) hm
theorem a0j [MaxL] {s:Sch} (hst:s.st.length<bH) (hms:∀u∈s.st,u.ms.length<bH) (hM:∀u∈s.st,∀y∈u.ms,y.of∈eJ s) {t:Sy}:∀k,a3c s t k
 |0=>fun m x _ h=>absurd h (cM _)
 |k+1=>fun m x hx hk=>by
  unfold kW;cases e:(x==t.owner) with
  |true=>exact a1Y m x e
  |false=>
   cases e2:m.contains x with
   |true=>exact a1W m x e e2
   |false=>exact ZK hst hms (kW (sG s) t.owner k) (fun m=>pM (eJ s) m<k) (fun m x hx hp=>⟨a0j hst hms hM k m x hx hp,R0 (JE hM) hx hp⟩) hM m x e2 e (by have:=K5 hx e2;omega)
def QZ (s:Sch) (t:Sy):Bool:=(fL (kW (sG s) t.owner ((eJ s).length+1)) [] (t.ms.map (·.of))).1
def yA (s:Sch) (n:By):Bool×Int:=if(uO s n).2.2==0 then((uO s n).1.owner !=[]&&QZ s (uO s n).1,0) else(false,(uO s n).2.2)
theorem QY {s:Sch} {n:By} {t:Sy} {i e:Int} (h:uO s n=(t,i,e)) (he:e≠0):yA s n=(false,e):=by
 unfold yA;rw[h];exact aE (by simpa using he)
theorem M5 {s:Sch} {n:By} {t:Sy} {i:Int} (h:uO s n=(t,i,0)):yA s n=(t.owner !=[]&&QZ s t,0):=by
 unfold yA;rw[h];rfl
set_option synthInstance.maxSize 2000 in
theorem a1R [MaxL] (s:Sch) (hz:kI s) (hs:Z3 s) (n:By):SC Tryz.prog 38 [lC s,.s n] [] (.val (.tup [.b (yA s n).1,.i .i64 (yA s n).2])) []:=by
 have hS:=a0f s hz hs n;generalize hR:uO s n=R at hS;obtain⟨t,i,e⟩:=R;by_cases he:e=0
 ·subst he;obtain⟨hv,ht,_⟩:=JG hR;have hM:=RP hv;have hU:=JE hM;have hms:∀u∈s.st,u.ms.length<bH:=fun u hu=>(hz.2.2 u hu).1;have hk:=a0j hz.1.2.2 hms hM (t:=t) ((eJ s).length+1);have ha:=W9 (s:=s) (t:=t) (kW (sG s) t.owner ((eJ s).length+1)) (fun m=>pM (eJ s) m<(eJ s).length+1) _ (.inr rfl) t.ms (hms t ht) (fun m y hy hp=>⟨W8 _ (.inr rfl) y (hk m y.of (hM t ht y hy) hp),R0 hU (hM t ht y hy) hp⟩) [] (Nat.lt_succ_of_le (iN _ _));rw[M5 hR];unfold QZ;clear hk;generalize fL (kW (sG s) t.owner ((eJ s).length+1)) [] (t.ms.map (·.of))=W at*;obtain⟨b,m⟩:=W;cases ho:(t.owner !=[]) with
  |false=>
   refine cH vO mixed Tryz.func38 rfl (bL rfl) (by first|exact rL _|simp) rfl ?_;(conv=>whnf);refine cP hS ?_;(conv=>whnf);refine st ?_;(conv=>whnf);refine st ?_;(conv=>whnf);refine st ?_;(conv=>whnf);refine gN ho ?_;(conv=>whnf);exact d6 0
  |true=>
   refine cZ Tryz.func38 rfl ?_;(conv=>whnf);refine cP hS ?_;(conv=>whnf);refine st ?_;(conv=>whnf);refine st ?_;(conv=>whnf);refine st ?_;(conv=>whnf);refine gY ho ?_;(conv=>whnf);refine cG [0,1,2,3,4] ha ?_;(conv=>whnf);exact d6 0
 ·rw[QY hR he];refine cH vO mixed Tryz.func38 rfl (bL rfl) (by first|exact rL _|simp) rfl ?_;conv=>whnf
  refine cP hS ?_;conv=>whnf
  refine st ?_;conv=>whnf
  refine gY (show(e !=0)=true by simpa using he) ?_;conv=>whnf
  exact d6 0
theorem WA {s:Sch} (hv:(mP s).2.2=0) {x:By} (hx:x∈eJ s):x≠[]:=fun e=>by
 subst e;obtain⟨r,hr,hn⟩:=List.mem_map.1 hx;obtain⟨j,hj⟩:=List.mem_iff_getElem?.1 hr;have h1:=rI (JI (s:=s) hv).2.2.2.1 j r hj;unfold JK kN at h1;obtain⟨h2,_⟩:=i6 h1 (by decide);rw[hn] at h2;cases h2
def Rch (s:Sch) (t:Sy) (M:List By):Prop:=(∀x∈t.ms,x.of∈M)/\(∀x∈M,∃m∈t.ms.map (·.of),Leads (sG s) x m)/\(∀x∈M,x∈eJ s)/\M.length+pM (eJ s) M<=t.ms.length+(eJ s).length
theorem Leads.snoc {α:Type} {succ:α->List α} {x y z:α} (h:Leads succ x y) (hz:z∈succ x):Leads succ z y:=by
 induction h with
 |here=>exact .step hz .here
 |step a _ ih=>exact .step a ih
theorem Rch.add {s:Sch} {t:Sy} {M:List By} (h:Rch s t M) {x y:By} (hx:x∈M) (hy:y∈sG s x) (hu:y∈eJ s) (hc:M.contains y=false):Rch s t (M++[y]):=by
 obtain⟨h1,h2,h3,h4⟩:=h;have hl:=K5 hu hc;refine⟨fun z hz=>eR _ (h1 z hz),fun z hz=>?_,fun z hz=>?_,by rw[aD,aV];omega⟩
 ·rcases List.mem_append.1 hz with q|q
  ·exact h2 z q
  ·rw[List.mem_singleton.1 q];obtain⟨m,hm,hl⟩:=h2 x hx;exact⟨m,hm,hl.snoc hy⟩
 ·rcases List.mem_append.1 hz with q|q
  ·exact h3 z q
  ·rw[List.mem_singleton.1 q];exact hu
def Cov (s:Sch) (M:List By) (i:Nat):Prop:=i<=M.length/\∀x∈M.take i,∀y∈sG s x,y∈M
theorem Cov.add {s:Sch} {M:List By} {i:Nat} (h:Cov s M i) (y:By):Cov s (M++[y]) i:=
 ⟨by rw[aD];have:=h.1;omega,fun x hx z hz=>by
  rw[List.take_append_of_le_length h.1] at hx;exact eR _ (h.2 x hx z hz)⟩
theorem Cov.next {s:Sch} {M:List By} {i:Nat} {x:By} (h:Cov s M i) (hx:M[i]?=some x) (hs:∀y∈sG s x,y∈M):Cov s M (i+1):=
 ⟨(List.getElem?_eq_some_iff.1 hx).1,fun z hz=>by
  rw[bR,hx] at hz;rcases List.mem_append.1 hz with q|q
  ·exact h.2 z q
  ·simp at q;subst q;exact hs⟩
theorem a09 {M:List By} {i:Nat} {x y:By} (h:M[i]?=some x):(M++[y])[i]?=some x:=by
 rw[aT (List.getElem?_eq_some_iff.1 h).1];exact h
structure Rin (s:Sch) (t:Sy) (i:Nat) (x:By) (k:Nat) (M:List By):Prop where
 rr:Rch s t M
 cc:Cov s M i
 xx:M[i]?=some x
 kk:∀u∈(s.st.filter fun t=>t.owner==x).take k,∀y∈u.ms,y.of∈M
theorem Rin.add {s:Sch} {t:Sy} {i:Nat} {x:By} {k:Nat} {M:List By} (h:Rin s t i x k M) {y:By} (hy:y∈sG s x) (hu:y∈eJ s) (hc:M.contains y=false):Rin s t i x k (M++[y]):=
 ⟨h.rr.add (aK h.xx) hy hu hc,h.cc.add y,a09 h.xx,fun u hu z hz=>eR _ (h.kk u hu z hz)⟩
theorem YZ {s:Sch} {x:By} {u:Sy} {y:Mb} (hu:u∈s.st.filter fun t=>t.owner==x) (hy:y∈u.ms):y.of∈sG s x:=List.mem_flatMap.2 ⟨u,hu,List.mem_map_of_mem hy⟩
theorem a1H {s:Sch} (hv:(mP s).2.2=0) {u:Sy} (hu:u∈s.st):∃j:Nat,m6 (fun t:Sy=>t.name==u.name) s.st=j/\s.st[j]?=some u:=by
 obtain⟨j,hj⟩:=List.mem_iff_getElem?.1 hu;exact⟨j,sU (p:=fun z:Sy=>z.name==u.name) hj (by simp) (T2 hv hj).1,hj⟩
set_option maxHeartbeats 2000000 in
set_option synthInstance.maxSize 2000 in
theorem a1f [MaxL] (s:Sch) (hz:kI s) (hs:Z3 s) (hl:s.st.length<=1000) (hr:s.rc.length<=1000) (hc:∀r∈s.rc,r.check.length<1000000) (n:By):SC Tryz.prog 39 [lC s,.s n] [] (.val (.tup [.b (yA s n).1,.i .i64 (yA s n).2])) []:=by
 have hS:=a0k s hz hc n;generalize hX:yA s n=X;generalize hR:uO s n=R at hS;obtain⟨t,i0,e⟩:=R;refine cH vO mixed Tryz.func39 rfl (bL rfl) (by first|exact rL _|simp) rfl ?_;conv=>whnf
 refine cP hS ?_;conv=>whnf
 refine st ?_;conv=>whnf
 refine aF (fun h=>?_) (fun h=>?_)<;>conv=>whnf
 ·rw[<-hX,QY hR (by simpa using h)];exact d6 0
 have h0:e=0:=by simpa using h
 subst h0;rw[M5 hR] at hX;refine aF (fun h=>?_) (fun h=>?_)<;>conv=>whnf
 ·rw[show(t.owner !=[])=false by simpa using h] at hX;rw[<-hX];exact d6 0
 rw[show(t.owner !=[])=true by simpa using h,Bool.true_and] at hX;have hv:=(JG hR).1;have ht:=(JG hR).2.1;have hms:=(hs t ht).1;have hM:=RP hv;have hlen:=iC t.ms;have hrl:(eJ s).length<=1000:=by unfold eJ;rw[bQ];exact hr
 refine cK 3 t.ms.length (fun i o=>o=(t.ms.take i).map (·.of)) (fun i o=>[(2,.ptr 0 0),(6,.ptr 1 0),(9,.sl (.own 2) (aZ o)),(10,.i .i64 (i:Nat))]) (fun _ o=>[.box 26 (lI s),.box 39 (H9 t),ow 9 1 o.length]) [] [] rfl (fun i o φ0 hi ho=>?_) (hh:=fun _ _=>by simp only[gK,lN];rfl);conv=>whnf
 refine aF (fun h=>?_) (fun h=>?_)<;>conv=>whnf
 ·have hlt:i<t.ms.length:=by have:=aA h;rw[hlen] at this;omega
  refine(gQ hlt).elim fun y hy=>?_;have ho':(t.ms.take (i+1)).map (·.of)=o++[y.of]:=by rw[bR,hy,cO,<-ho];rfl
  have hol:o.length<=1000:=by rw[ho,bQ,bN];omega
  refine ix (cE hy) ⟨rfl,?_⟩;conv=>whnf
  cases o with
  |nil=>
   refine YI (f:=GV.s) (c:=1) (fun _=>rfl) [] y.of rfl (by omega) ?_;(conv=>whnf);refine⟨⟨zL _,rfl,.inr ⟨rfl,rfl⟩⟩,?_⟩;(conv=>whnf);exact nx ([]++[y.of]) hlt ⟨hlt,ho'.symm⟩
  |cons z zs=>
   refine YI (f:=GV.s) (c:=1) (fun _=>rfl) (z::zs) y.of rfl (by omega) ?_;(conv=>whnf);refine⟨⟨zL _,(aP (z::zs)).symm,.inl ⟨rfl,rfl⟩⟩,?_⟩;(conv=>whnf);exact nx ((z::zs)++[y.of]) hlt ⟨hlt,ho'.symm⟩
 have e1:o=t.ms.map (·.of):=by rw[ho,bX (by have:=aB h;rw[hlen] at this;omega)]
 have g0:Rch s t o/\Cov s o 0:=⟨⟨fun x hx=>by rw[e1];exact List.mem_map_of_mem hx,fun x hx=>⟨x,by rw[<-e1];exact hx,.here⟩,fun x hx=>by
  rw[e1] at hx;obtain⟨z,hz,rfl⟩:=List.mem_map.1 hx;exact hM t ht z hz,by rw[e1,bQ];have:=iN (fun x=>!(t.ms.map (·.of)).contains x) (eJ s);unfold pM;omega⟩,zL _,fun x hx=>by simp at hx⟩
 clear e1 ho;have hC:∀M,Rch s t M->M.length<bH/\M.length<=2000:=fun M h=>by
  have:=h.2.2.2;unfold bH;exact⟨by omega,by omega⟩
 refine cK 3 (t.ms.length+(eJ s).length) (fun i M=>Rch s t M/\Cov s M i) (fun i M=>[(2,.ptr 0 0),(6,.ptr 1 0),(9,.sl (.own 2) (aZ M)),(11,.i .i64 (i:Nat))]) (fun _ M=>[.box 26 (lI s),.box 39 (H9 t),ow 9 1 M.length]) [] o g0 (fun i M φ1 hi hg=>?_) (hh:=fun _ _=>by simp only[gK,lN];rfl);have hML:=aP M;conv=>whnf
 refine aF (fun h=>?_) (fun h=>?_)<;>conv=>whnf
 rotate_left
 ·have hsh:∀x∈M,∀y∈sG s x,y∈M:=fun x hx=>hg.2.2 x (by rw[bX (by have:=aB h;rw[hML] at this;omega)];exact hx);have hq:=ZJ (o:=t.owner) (JE hM) (ms:=t.ms.map (·.of)) (M:=M) (fun x hx=>by
   obtain⟨z,hz,rfl⟩:=List.mem_map.1 hx;exact hM t ht z hz) (fun x hx=>by
   obtain⟨z,hz,rfl⟩:=List.mem_map.1 hx;exact hg.1.1 z hz) hsh hg.1.2.1
  refine cP (a0l M (hC M hg.1).1 t.owner) ?_ (hw:=⟨bE _ _,.refl _,trivial⟩);conv=>whnf
  rw[<-hX,show QZ s t=M.contains t.owner from hq.symm];exact d6 0
 have hlt:i<M.length:=by have:=aA h;rw[hML] at this;omega
 have hltC:i<t.ms.length+(eJ s).length:=by have:=hg.1.2.2.2;omega
 refine(gQ hlt).elim fun x hx=>?_;refine b9 (by kernel_rfl) ?_;conv=>whnf
 refine ix (cE hx) ⟨rfl,?_⟩;conv=>whnf
 refine cP (CJ s hl x (WA hv (hg.1.2.2.1 x (aK hx)))) ?_;conv=>whnf
 have hOL:=aP ((s.st.filter fun t=>t.owner==x).map (·.name));rw[bQ] at hOL;refine cK 3 (s.st.filter fun t=>t.owner==x).length (fun k M=>Rin s t i x k M) (fun k M=>[(2,.ptr 0 0),(6,.ptr 1 0),(9,.sl (.own 2) (aZ M)),(11,.i .i64 (i:Nat)),(12,.sl .none (aZ ((s.st.filter fun t=>t.owner==x).map (·.name)))),(13,.i .i64 (k:Nat))]) (fun _ M=>[.box 26 (lI s),.box 39 (H9 t),ow 9 1 M.length]) [] M ⟨hg.1,hg.2,hx,by simp⟩ (fun k M φ2 hk hr=>?_) (hh:=fun _ _=>by simp only[gK,lN];rfl);conv=>whnf
 refine aF (fun h=>?_) (fun h=>?_)<;>conv=>whnf
 rotate_left
 ·refine nx M hltC ⟨hltC,hr.rr,hr.cc.next hr.xx fun y hy=>?_⟩;obtain⟨u,hu,hy⟩:=List.mem_flatMap.1 hy;obtain⟨z,hz,rfl⟩:=List.mem_map.1 hy;exact hr.kk u (by rw[bX (by have:=aB h;rw[hOL] at this;omega)];exact hu) z hz
 have hlt3:k<(s.st.filter fun t=>t.owner==x).length:=by have:=aA h;rw[hOL] at this;omega
 have hFl:(s.st.filter fun t=>t.owner==x).length<=1000:=e8 (iN _ _) hl;refine(gQ hlt3).elim fun u hu=>?_;have huf:=aK hu;have hus:=(List.mem_filter.1 huf).1;refine(a1H hv hus).elim fun j hj=>?_;have hA:=DR s hz.1.2.2 u.name;rw[hj.1] at hA;refine GDraw.wildT [none,some 0,some 0,none,none,none,none,none,none,none,some 3,some 3] rfl rfl (by kernel_rfl) ?_;conv=>whnf
 refine ix (cE (f:=GV.s) (show((s.st.filter fun t=>t.owner==x).map (·.name))[k]?=some u.name by rw[aM,hu];rfl)) ⟨rfl,?_⟩;conv=>whnf
 refine cP hA ?_;conv=>whnf
 refine ix (cE hj.2) ⟨rfl,?_⟩;conv=>whnf
 refine st ?_;conv=>whnf
 have hUL:=iC u.ms;have hum:=(hs u hus).1;refine cK 4 u.ms.length (fun j M=>Rin s t i x k M/\∀z∈u.ms.take j,z.of∈M) (fun j M=>[(2,.ptr 0 0),(6,.ptr 1 0),(9,.sl (.own 2) (aZ M)),(11,.i .i64 (i:Nat)),(12,.sl .none (aZ ((s.st.filter fun t=>t.owner==x).map (·.name)))),(13,.i .i64 (k:Nat)),(14,.ptr 3 0),(15,.i .i64 (j:Nat))]) (fun _ M=>[.box 26 (lI s),.box 39 (H9 t),ow 9 1 M.length,.box 39 (H9 u)]) [] M ⟨hr,by simp⟩ (fun j M φ3 hj hr=>?_) (hh:=fun _ _=>by simp only[gK,lN];rfl);conv=>whnf
 refine aF (fun h=>?_) (fun h=>?_)<;>conv=>whnf
 rotate_left
 ·refine nx M hlt3 ⟨hlt3,hr.1.rr,hr.1.cc,hr.1.xx,fun w hw z hz=>?_⟩;rw[bR,hu] at hw;rcases List.mem_append.1 hw with q|q
  ·exact hr.1.kk w q z hz
  ·simp at q;subst q;exact hr.2 z (by rw[bX (by have:=aB h;rw[hUL] at this;omega)];exact hz)
 have hlt4:j<u.ms.length:=by have:=aA h;rw[hUL] at this;omega
 refine(gQ hlt4).elim fun z hz=>?_;have hzm:=aK hz;have hsuc:=YZ huf hzm;have htk:∀w∈u.ms.take (j+1),w∈u.ms.take j∨w=z:=fun w hw=>by
  rw[bR,hz] at hw;rcases List.mem_append.1 hw with q|q
  ·exact .inl q
  ·exact .inr (by simpa using q)
 refine ix (cE hz) ⟨rfl,?_⟩;conv=>whnf
 refine cP (a0l M (hC M hr.1.rr).1 z.of) ?_ (hw:=⟨bE _ _,.refl _,trivial⟩);conv=>whnf
 refine aF (fun h=>?_) (fun h=>?_)<;>conv=>whnf
 rotate_left
 ·exact nx M hlt4 ⟨hlt4,hr.1,fun w hw=>by
   rcases htk w hw with q|q
   ·exact hr.2 w q
   ·rw[q];simpa using h⟩
 have hnc:M.contains z.of=false:=by simpa using h
 have hadd:=hr.1.add hsuc (hM u hus z hzm) hnc;have hal:∀w∈u.ms.take (j+1),w.of∈M++[z.of]:=fun w hw=>by
  rcases htk w hw with q|q
  ·exact eR _ (hr.2 w q)
  ·rw[q];exact List.mem_append_right _ (by simp)
 have hMl:=(hC M hr.1.rr).2;refine ix (cE hz) ⟨rfl,?_⟩;conv=>whnf
 cases M with
 |nil=>exact absurd hr.1.xx (by simp)
 |cons y ys=>
  refine YI (f:=GV.s) (c:=1) (fun _=>rfl) (y::ys) z.of rfl (by omega) ?_;conv=>whnf
  refine⟨⟨zL _,(aP (y::ys)).symm,.inl ⟨rfl,rfl⟩⟩,?_⟩;conv=>whnf
  exact nx ((y::ys)++[z.of]) hlt4 ⟨hlt4,hadd,hal⟩
variable [Globals]
theorem EnvSound.of {P:Program} {w0:World} {M:FuncId->Bool} {Γ:QJ} (h:∀k f,Γ k=some f->∀args σ r σ',f args σ=some (r,σ')->Fact P (.fn k) args σ r σ'/\(M k=true->σ'=σ)):EnvSound P w0 M Γ:=by
 refine⟨fun t args σ r σ' he=>?_,fun k hk args σ r σ' he=>?_⟩
 ·cases t with
  |yld q=>cases he
  |fn k=>
   simp only[AK] at he;cases hg:Γ k with
   |none=>rw[hg] at he;cases he
   |some f=>
    rw[hg] at he;obtain⟨hf,_⟩:=h k f hg args σ r σ' he;exact⟨hf.keep,hf.ds,fun C w vs hr hv=>hf.calls w0 C w vs hr hv⟩
 ·simp only[AK] at he;cases hg:Γ k with
  |none=>rw[hg] at he;cases he
  |some f=>
   rw[hg] at he;exact(h k f hg args σ r σ' he).2 hk
theorem SC.factNil {P:Program} {k:FuncId} {args args':List GV} {r:GRes} {σ:GS} (h:SC P k args [] r []) (ha:ClL args) (hr:∀e,r.ren e=r) (hw:Wks args' args):Fact P (.fn k) args' σ r σ:=by
 have hf:=h.fact (σ:={σ with lo:=0}) (args':=args') [] Lies.nil rfl (by rw[ha];exact hw);rw[hr] at hf;simp only[CK] at hf;exact⟨Keep.refl _,rfl,fun w0 C w vs hR hv=>(hf.calls w0 C w vs ⟨hR.below,hR.fxc,hR.obj,hR.dom,hR.new,hR.inj,hR.sepB,hR.sepO,hR.fxn,hR.gl,hR.gs⟩ hv).mono fun e w' ⟨D,h1,h2,h3⟩=>⟨D,h1,⟨h2.below,h2.fxc,h2.obj,h2.dom,h2.new,h2.inj,h2.sepB,h2.sepO,h2.fxn,h2.gl,h2.gs⟩,h3⟩⟩
theorem SC.of_gcall {P:Program} (hm:P.follows .mixedOrders=true) {M:FuncId->Bool} {Γ:QJ} (hΓ:∀w0,EnvSound P w0 M Γ) {m:Nat} {k:FuncId} {args:List GV} {r:GRes}
  (h:(D4 P M Γ m (.fn k) args ⟨[],0,[]⟩).map (·.1)=some r) (hr:∀e,r.ren e=r):SC P k args [] r []:=by
 obtain⟨⟨r1,σ'⟩,h1,rfl⟩:=Option.map_eq_some_iff.1 h;refine⟨rL _,fun C w vs hR hv=>?_,fun x hx=>by cases hx⟩;refine Calls.mono (((D3 (w0:=w) hm (hΓ w) m).1 (.fn k) args _ _ _ h1).2.2 C w vs hR hv) ?_;rintro e w' ⟨D,hl,hrD,he⟩;refine⟨D.pull (iT [] σ'.objs.length),?_,hrD.pull Lies.nil,?_⟩
 ·refine⟨hl.fx,fun i b hb=>?_,fun i I hI=>?_,hl.hd,hl.fix⟩
  ·rw[(hR.dom i (zL _)).1] at hb;cases hb
  ·rw[(hR.dom i (zL _)).2] at hI;cases hI
 ·have he2:ERel D (r1.ren (iT [] σ'.objs.length)) e:=by rw[hr];exact he
  exact he2.pull (D:=D) (f:=iT [] σ'.objs.length) (E:=D.pull (iT [] σ'.objs.length)) (fun _ _ _ h=>h) (fun _=>rfl) (fun _=>rfl)
