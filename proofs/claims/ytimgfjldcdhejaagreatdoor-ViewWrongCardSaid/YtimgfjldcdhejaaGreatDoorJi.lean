/-
  ViewWrong: Wrong, Valid, All, Real and Hidden of the program are those of the reference, for every schema, view and name; no condition beyond the given statement.
-/
import Derived.Test.YtimgfjldcdhejaaGreatDoorK36
set_option linter.all false
set_option maxRecDepth 100000
namespace Go.Proofs.YtimgfjldcdhejaaGreatDoor
section
open Go.RowKit
variable [Globals]
theorem EnvSound.of {P:Program} {w0:World} {M:FuncId->Bool} {Γ:W2} (h:∀k f,Γ k=some f->∀args σ r σ',f args σ=some (r,σ')->Fact P (.fn k) args σ r σ'/\(M k=true->σ'=σ)):EnvSound P w0 M Γ:=by
 refine⟨fun t args σ r σ' he=>?_,fun k hk args σ r σ' he=>?_⟩
 ·cases t with
  |yld q=>cases he
  |fn k=>
   simp only[DQ] at he;cases hg:Γ k with
   |none=>rw[hg] at he;cases he
   |some f=>
    rw[hg] at he;obtain⟨hf,_⟩:=h k f hg args σ r σ' he;exact⟨hf.keep,hf.ds,fun C w vs hr hv=>hf.calls w0 C w vs hr hv⟩
 ·simp only[DQ] at he;cases hg:Γ k with
  |none=>rw[hg] at he;cases he
  |some f=>
   rw[hg] at he;exact(h k f hg args σ r σ' he).2 hk
theorem SC.factNil {P:Program} {k:FuncId} {args args':List GV} {r:GRes} {σ:GS} (h:SC P k args [] r []) (ha:ClL args) (hr:∀e,r.ren e=r) (hw:Wks args' args):Fact P (.fn k) args' σ r σ:=by
 have hf:=h.fact (σ:={σ with lo:=0}) (args':=args') [] Lies.nil rfl (by rw[ha];exact hw);rw[hr] at hf;simp only[G5] at hf;exact⟨Keep.refl _,rfl,fun w0 C w vs hR hv=>(hf.calls w0 C w vs ⟨hR.below,hR.fxc,hR.obj,hR.dom,hR.new,hR.inj,hR.sepB,hR.sepO,hR.fxn,hR.gl,hR.gs⟩ hv).mono fun e w' ⟨D,h1,h2,h3⟩=>⟨D,h1,⟨h2.below,h2.fxc,h2.obj,h2.dom,h2.new,h2.inj,h2.sepB,h2.sepO,h2.fxn,h2.gl,h2.gs⟩,h3⟩⟩
theorem SC.of_gcall {P:Program} (hm:P.follows .mixedOrders=true) {M:FuncId->Bool} {Γ:W2} (hΓ:∀w0,EnvSound P w0 M Γ) {m:Nat} {k:FuncId} {args:List GV} {r:GRes}
  (h:(GN P M Γ m (.fn k) args ⟨[],0,[]⟩).map (·.1)=some r) (hr:∀e,r.ren e=r):SC P k args [] r []:=by
 obtain⟨⟨r1,σ'⟩,h1,rfl⟩:=Option.map_eq_some_iff.1 h;refine⟨rL _,fun C w vs hR hv=>?_,fun x hx=>by cases hx⟩;refine Calls.mono (((GM (w0:=w) hm (hΓ w) m).1 (.fn k) args _ _ _ h1).2.2 C w vs hR hv) ?_;rintro e w' ⟨D,hl,hrD,he⟩;refine⟨D.pull (jZ [] σ'.objs.length),?_,hrD.pull Lies.nil,?_⟩
 ·refine⟨hl.fx,fun i b hb=>?_,fun i I hI=>?_,hl.hd,hl.fix⟩
  ·rw[(hR.dom i (zL _)).1] at hb;cases hb
  ·rw[(hR.dom i (zL _)).2] at hI;cases hI
 ·have he2:ERel D (r1.ren (jZ [] σ'.objs.length)) e:=by rw[hr];exact he
  exact he2.pull (D:=D) (f:=jZ [] σ'.objs.length) (E:=D.pull (jZ [] σ'.objs.length)) (fun _ _ _ h=>h) (fun _=>rfl) (fun _=>rfl)
end
section
open Go.RowKit Go.Sort
theorem a2y [MaxL] (s pQ:List UInt8) (hs:s.length<4000000000):SC Tryz.prog 174 [.s s,.s pQ] [] (.val (.i .i64 (Lib.index s pQ))) []:=by
 refine SC.of_calls fun C w vs hr hv=>?_;obtain rfl:=a4u hv;refine(Tryz.stringslite_Index ⟨s.toArray⟩ ⟨pQ.toArray⟩ _ w (by simp[ByteArray.size];omega) (ZI hr)).mono ?_;rintro e w' ⟨rfl,rfl⟩;exact⟨_,rfl,.refl _ _,.i _ _⟩
theorem a2Z [MaxL] {σ:GS} {r:Nat} (hlo:σ.lo=0) (ho:σ.objs[r]?=some (.box 221 [.o (.pointer none),.sl .full []])):
  Fact Tryz.prog (.fn 236) [.ptr r 0] σ (.val (.tup [])) (gset σ r (.box 221 [.ptr r 0,.sl .full []])):=by
 refine⟨.gset σ _ (by omega) ho (by simp),rfl,fun w0 C w vs hr hv=>?_⟩;show Calls _ _ _ _ _;obtain⟨v,rfl,hv1⟩:=hv.arr1;obtain⟨h0,b,cs,hb,ho',hcs⟩:=hr.obj r _ ho;obtain⟨u,u',rfl,hu,hu'⟩:=(BoxV.exact hcs rfl).arr2;cases hv1 with
 |ptr hb'=>
 rw[hb] at hb';cases hb';cases hu;have hc0:w.cell? ⟨b,0,none⟩=some (.pointer none):=by simp[World.cell?,ho']
 refine(Any.Builder_copyCheck_fresh HQ Tryz.Builder_Extra_156.toX72 b w hc0 (QA ho') (by simp[World.frozen?,ho'])).mono ?_;rintro e w' ⟨rfl,rfl⟩;refine⟨C,.refl C,Rel.setObj (r:=r) (b:=b) hr (List.getElem?_eq_some_iff.1 ho).1 hb _ ⟨h0,b,_,hb,heap_setCell_same w b 0 _ _ _ ho',?_⟩ rfl rfl rfl (by simp[World.setCell]) (fun k hk=>heap_setCell_other w _ k _ hk),_,rfl,.unit⟩;exact VRs.box (.cons (.ptr hb) (.cons hu' .nil))
theorem a4T [MaxL] {σ:GS} {r:Nat} {x:GV} (ho:σ.objs[r]?=some (.box 221 [.ptr r 0,x])):
  Fact Tryz.prog (.fn 236) [.ptr r 0] σ (.val (.tup [])) σ:=by
 refine⟨.refl σ,rfl,fun w0 C w vs hr hv=>?_⟩;show Calls _ _ _ _ _;obtain⟨v,rfl,hv1⟩:=hv.arr1;obtain⟨h0,b,cs,hb,ho',hcs⟩:=hr.obj r _ ho;obtain⟨u,u',rfl,hu,hu'⟩:=(BoxV.exact hcs rfl).arr2;cases hv1 with
 |ptr hb'=>
 rw[hb] at hb';cases hb';cases hu with
 |ptr hb'=>
 rw[hb] at hb';cases hb';have hc0:w.cell? ⟨b,0,none⟩=some (.pointer (some ⟨b,0,none⟩)):=by simp[World.cell?,ho']
 refine(Any.Builder_copyCheck_used HQ Tryz.Builder_Extra_156.toX72 b w hc0).mono ?_;rintro e w' ⟨rfl,rfl⟩;exact⟨C,.refl C,hr,_,rfl,.unit⟩
def gcc (args:List GV) (σ:GS):Option (GRes×GS):=
 match args with
 |[.ptr r 0]=>match σ.objs[r]? with
  |some (.box t [.o (.pointer none),.sl .full []])=>if σ.lo=0/\t=221 then some (.val (.tup []),gset σ r (.box t [.ptr r 0,.sl .full []])) else none
  |some (.box t [.ptr q 0,x])=>if q=r/\t=221 then some (.val (.tup []),σ) else none
  |_=>none
 |_=>none
theorem a2Q [MaxL] {args:List GV} {σ σ':GS} {r:GRes} (h:gcc args σ=some (r,σ')):Fact Tryz.prog (.fn 236) args σ r σ':=by
 unfold gcc at h;split at h
 ·split at h
  ·rename_i ho;split at h
   ·rename_i hc;obtain⟨h1,rfl⟩:=hc;cases h;exact a2Z h1 ho
   ·cases h
  ·rename_i ho;split at h
   ·rename_i hc;obtain⟨rfl,rfl⟩:=hc;cases h;exact a4T ho
   ·cases h
  ·cases h
 ·cases h
def gix (args:List GV) (σ:GS):Option (GRes×GS):=
 match args with
 |[.s a,.s b]=>if a.length<4000000000 then some (.val (.i .i64 (Lib.index a b)),σ) else none
 |_=>none
def exT:By:=[115,97,108,32,62,32,48]
theorem a2a:yX exT=(exT,0):=by kernel_rfl
def gsh (args:List GV) (σ:GS):Option (GRes×GS):=
 match args with
 |[.s a]=>if a=exT then some (.val (.tup [.s exT,.i .i64 0]),σ) else none
 |_=>none
def gjn (args:List GV) (σ:GS):Option (GRes×GS):=
 match args with
 |[.sl _ [.s a,.s b],.s c]=>if a.length+b.length+c.length<1000000 then some (.val (.s (Lib.join [a,b] c)),σ) else none
 |_=>none
def a7v:W2:=fun k=>if k=236 then some gcc else if k=174 then some gix else if k=78 then some gsh else if k=179 then some gjn else none
theorem a4V [MaxL] (w0:World):EnvSound Tryz.prog w0 (fun _=>false) a7v:=.of fun k f hf args σ r σ' h=>⟨(by
 unfold a7v at hf;split at hf
 ·rename_i hk;cases hf;subst hk;exact a2Q h
 ·split at hf
  ·rename_i hk;cases hf;subst hk;unfold gix at h;split at h
   ·split at h
    ·rename_i hl;cases h;exact SC.factNil (a2y _ _ hl) (fun _=>rfl) (fun _=>rfl) (wR _)
    ·cases h
   ·cases h
  ·split at hf
   ·rename_i hk;cases hf;subst hk;unfold gsh at h;split at h
    ·split at h
     ·rename_i hl;cases h;subst hl;have hs:=VV exT (by decide);rw[a2a] at hs;exact SC.factNil hs (fun _=>rfl) (fun _=>rfl) (wR _)
     ·cases h
    ·cases h
   ·split at hf
    ·rename_i hk;cases hf;subst hk;unfold gjn at h;split at h
     ·split at h
      ·rename_i hl;cases h;exact SC.factNil (a2x [_,_] _ (bL rfl) (by simp[Lib.join];omega)) (fun _=>rfl) (fun _=>rfl) (wC (bY _ _) (wR _))
      ·cases h
     ·cases h
    ·cases hf),fun h9=>by cases h9⟩
theorem DS [MaxL]:SC Tryz.prog 7 [] [] (.val (.b true)) []:=SC.of_gcall mixed a4V (m:=40) (by kernel_rfl) (fun _=>rfl)
end
section
open Go.RowKit
theorem WF {α:Type} {f:α->Nat} {l:List α} {x:α} (h:x∈l):f x<=(l.map f).sum:=by
 induction l with
 |nil=>cases h
 |cons y l ih=>
  rw[dJ,List.sum_cons];rcases List.mem_cons.1 h with rfl|h
  ·omega
  ·have:=ih h;omega
theorem a26 {s:Sch} (h:EW s=true):kO s/\∀r∈s.rc,r.check.length<1000000:=by
 unfold EW at h;simp only[aF,eL,Bool.or_eq_false_iff,bV,aQ,aJ] at h;obtain⟨⟨⟨h1,h2⟩,h3⟩,h4,h5,h6⟩:=h;have hk:∀r∈s.rc,r.check.length<=6000:=fun r hr=>by
  have h7:rcz r<=(s.rc.map rcz).sum:=WF hr;have h8:rcz r=r.name.length+r.area.length+r.via.length+r.check.length:=rfl;omega
 refine⟨⟨⟨by unfold b9;omega,by unfold b9;omega,by unfold b9;omega⟩,fun r hr=>?_,fun t ht=>?_⟩,fun r hr=>by have:=hk r hr;omega⟩
 ·have h8:=h4 r hr;have h9:=hk r hr;unfold NY JQ y5 at h8;simp only[aF,aJ] at h8;unfold b9;exact⟨by have:=h8.1.2;omega,by have:=h8.2.2;omega,by omega⟩
 ·have h8:=h5 t ht;unfold EK y5 at h8;simp only[aF,eL,Bool.or_eq_false_iff,bV,aQ,aJ] at h8;unfold b9;exact⟨by have:=h8.1.1;omega,by have:=h8.1.2;omega,fun m hm=>by have:=(h8.2 m hm).2;omega⟩
end
section
open Go.RowKit
theorem ZL {v:Vw} (h:JO v=true):wD v/\∀r∈v.recs,r.only.length<1000000:=by
 unfold JO vsz at h;simp only[aF,aJ,aQ] at h;obtain⟨⟨⟨h1,h2⟩,h3⟩,h4⟩:=h;have hk:∀r∈v.recs,r.only.length<=5000:=fun r hr=>by
  have h7:rsz r<=(v.recs.map rsz).sum:=WF hr;have h8:rsz r=r.name.length+r.of.length+r.only.length+(r.items.map MC).sum:=rfl;omega
 refine⟨⟨by unfold b9;omega,by unfold b9;omega,fun r hr=>⟨by have:=h3 r hr;unfold b9;omega,by have:=hk r hr;unfold b9;omega⟩⟩,fun r hr=>by have:=hk r hr;omega⟩
theorem a33 [MaxL] (s:Sch) (hz:kO s) (hc:∀r∈s.rc,r.check.length<1000000):∃(W:Vw) (e:Int),wD W/\SC Tryz.prog 12 [lT s] [] (.val (.tup [k7 W,.i .i64 e])) []/\SC Tryz.prog 13 [lT s] [] (.val (.tup [k7 W,.i .i64 e])) []:=by
 have h1:=a7D s hz;have h2:=a7X s hz hc;by_cases h0:(kY s).2.2=0
 ·rw[aD h0,aD h0] at h1 h2;obtain⟨⟨ha,hl,ht⟩,hr,hst⟩:=hz;refine⟨_,_,⟨by show(s.rc.map yS).length<b9;rw[b6];exact hl,by show(s.st.map _).length<b9;rw[b6];exact ht,fun r hr9=>?_⟩,h1,h2⟩;obtain⟨x,hx,rfl⟩:=List.mem_map.1 (show r∈s.rc.map yS from hr9);exact⟨by show(x.its.map _).length<b9;rw[b6];exact(hr x hx).1,by show(0:Nat)<b9;decide⟩
 ·rw[aC h0,aC h0] at h1 h2;exact⟨_,_,⟨by decide,by decide,fun r hr=>by cases hr⟩,h1,h2⟩
set_option maxHeartbeats 4000000 in
theorem RN [MaxL] (s:Sch) (v:Vw) (n:By) (ht:a17 s) (hz9:vOk v) (h1:v.recs.length<=maxLen) (h2:v.sets.length<=maxLen) (hn:n.length<=cap):SC Tryz.prog 3 [lT s,k7 v,.s n] [] (.val (.b true)) []:=by
 have hl:=a4E s ht;have hm:=a29 v hz9 h1 h2;cases h:EW s with
 |false=>
  rw[h] at hl;refine cO Tryz.func3 rfl ?_;conv=>whnf
  refine cP hl ?_;conv=>whnf
  refine cP DS ?_;conv=>whnf
  exact cQ 0
 |true=>
 rw[h] at hl;cases h3:JO v with
 |false=>
  rw[h3] at hm;refine cO Tryz.func3 rfl ?_;conv=>whnf
  refine cP hl ?_;conv=>whnf
  refine cP hm ?_;conv=>whnf
  refine cP DS ?_;conv=>whnf
  exact cQ 0
 |true=>
 rw[h3] at hm;obtain⟨hz,hc⟩:=a26 h;obtain⟨hv,hf⟩:=ZL h3;obtain⟨W,ae,hW,hA1,hA2⟩:=a33 s hz hc;have hr1:=a5b s hz v hv n;have hr2:=a6B s hz v hv ⟨hc,hf⟩ n;generalize wP s v n=R at hr1 hr2;obtain⟨ra,rb,re⟩:=R;have hh1:=a0i s hz v hv;have hh2:=a1j s hz v hv ⟨hc,hf⟩;have hA9:(if(wA s v).2.2=0 then(DJ s v).1 else[]).length<b9:=by
  split
  ·show((s.rc.filter _).map _).length<b9;rw[b6];exact Nat.lt_of_le_of_lt (eW _ _) hz.1.2.1
  ·decide
 have hB9:(if(wA s v).2.2=0 then(DJ s v).2 else[]).length<b9:=by
  split
  ·show((s.st.filter _).map _).length<b9;rw[b6];exact Nat.lt_of_le_of_lt (eW _ _) hz.1.2.2
  ·decide
 generalize(if(wA s v).2.2=0 then(DJ s v).1 else[])=A at*;generalize(if(wA s v).2.2=0 then(DJ s v).2 else[])=B at*;generalize(if(wA s v).2.2=0 then(0:Int) else 1)=he at*;refine bQ zC mixed Tryz.func3 rfl (bL rfl) (by first|exact rL _|simp) rfl ?_;conv=>whnf
 refine cP hl ?_;conv=>whnf
 refine cP hm ?_;conv=>whnf
 apply gM<;>intro h5<;>conv=>whnf
 ·refine cP DS ?_;conv=>whnf
  exact cQ 0
 refine cP (W7 s hz v hv) ?_;conv=>whnf
 refine cP (X5 s hz v hv ⟨hc,hf⟩) ?_;conv=>whnf
 refine lQ ?_;conv=>whnf
 refine gN (show((wA s v).1 !=(wA s v).1)=false by simp) ?_;conv=>whnf
 refine gN (show(((wA s v).2.1:Int) !=(wA s v).2.1)=false by simp) ?_;conv=>whnf
 refine gN (show((wA s v).2.2 !=(wA s v).2.2)=false by simp) ?_;conv=>whnf
 refine cP (NO s hz v hv) ?_;conv=>whnf
 refine cP (O9 s hz v hv ⟨hc,hf⟩) ?_;conv=>whnf
 refine gN (show(((wA s v).2.2==0) !=((wA s v).2.2==0))=false by simp) ?_;conv=>whnf
 refine cP hA1 ?_;conv=>whnf
 refine st ?_;conv=>whnf
 refine cP hA2 ?_;conv=>whnf
 refine st ?_;conv=>whnf
 refine gN (show(ae !=ae)=false by simp) ?_;conv=>whnf
 refine cP (a6A W hW) ?_;conv=>whnf
 refine cP hr1 ?_;conv=>whnf
 refine cP hr2 ?_;conv=>whnf
 refine gN (show(ra !=ra)=false by simp) ?_;conv=>whnf
 refine gN (show(rb !=rb)=false by simp) ?_;conv=>whnf
 refine gN (show(re !=re)=false by simp) ?_;conv=>whnf
 refine cP hh1 ?_;conv=>whnf
 refine cP hh2 ?_;conv=>whnf
 refine gY (show(he==he)=true by simp) ?_;conv=>whnf
 refine cP (G1 A hA9) ?_;conv=>whnf
 refine cP (G1 B hB9) ?_;conv=>whnf
 refine cP DS ?_;conv=>whnf
 exact cQ 0
end
section
open Go
theorem viewWrong_holds:Rows.ViewWrongCardSaid:=CU (NN fun s V r h0 h1 h2 h3 h4=>RN s V r h0 h1 h2 h3 h4)
end
