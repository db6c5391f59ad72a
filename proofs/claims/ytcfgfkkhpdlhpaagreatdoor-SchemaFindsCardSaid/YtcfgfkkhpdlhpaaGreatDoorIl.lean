/-
  Record, Set, Area, In, Ring, Owned and Member are what the document says, for every schema and name that are not too large to look at (with others the law looks at its example alone); the card, in full.
-/
import Derived.Test.YtcfgfkkhpdlhpaaGreatDoorT51
import Derived.Lib.Index
import Derived.Lib.SplitLaws
set_option linter.all false
set_option maxRecDepth 100000
namespace Go.Proofs.YtcfgfkkhpdlhpaaGreatDoor
open Go.RowKit Go.Sort
theorem BL [MaxL] {C:Cx} {w:World} (hr:Rel C ⟨[],0,[]⟩ w w):w.cell? ⟨0,0,none⟩=some (.int .i64 MaxL.m):=by
 obtain⟨u,h1,h2⟩:=hr.gl 0 [.i .i64 MaxL.m] 0 (.i .i64 MaxL.m) rfl rfl;have:=h2 C (fun _ _ _ h=>h);cases this;exact hr.fxc _ _ _ h1
theorem LP [MaxL] {C:Cx} {a b:List UInt8} {l:List GV} {vs:Array Value} (hv:VRs C (.s a::.s b::l) vs.toList):∃us,vs.toList=.string ⟨a.toArray⟩::.string ⟨b.toArray⟩::us/\VRs C l us:=by
 obtain⟨u,vs',e,hv1,hv2⟩:=hv.cons_inv;obtain⟨u2,vs2,e2,hv3,hv4⟩:=hv2.cons_inv;cases hv1;cases hv3;exact⟨vs2,by rw[e,e2],hv4⟩
theorem H4 [MaxL] {C:Cx} {us:List Value} (hv:VRs C [] us):us=[]:=aN (by simpa using hv.1)
theorem YE [MaxL] (s l9:List UInt8) (hs:s.length<4000000000):SC Tryz.prog 195 [.s s,.s l9] [] (.val (.i .i64 (Lib.index s l9))) []:=by
 refine SC.of_calls fun C w vs hr hv=>?_;obtain⟨us,e,hu⟩:=LP hv;obtain rfl:=H4 hu;obtain rfl:vs= #[_,_]:=by rw[<-fK (xs:=vs),e]
 refine(Tryz.stringslite_Index ⟨s.toArray⟩ ⟨l9.toArray⟩ _ w (by simp[ByteArray.size];omega) (BL hr)).mono ?_;rintro e w' ⟨rfl,rfl⟩;exact⟨_,rfl,.refl _ _,.i _ _⟩
theorem SC.of_row [MaxL] {P:Program} {k:FuncId} {args:List GV} {xs:List (List UInt8)}
  (h:∀(C:Cx) (w:World) (vs:Array Value),Rel C ⟨[],0,[]⟩ w w->VRs C args vs.toList->∃(cs:Array Value) (T:TypeId) (c:Nat),xs.length<=c/\(∀(i:Nat) x,xs[i]?=some x->cs[i]?=some (.string ⟨x.toArray⟩))/\
   Calls P k vs w fun e w'=>e=.returned (.slice (some ⟨w.heap.size,0,none⟩) xs.length c)/\w'=w.alloc (.cells cs T)):SC P k args [] (.val (.sl .none (xs.map .s))) []:=by
 refine⟨rL _,fun C w vs hr hv=>?_,fun x hx=>by simp at hx⟩;obtain⟨cs,T,c,hc,hx,hcall⟩:=h C w vs hr hv;refine hcall.mono ?_;rintro e w' ⟨rfl,rfl⟩;obtain⟨D,hl,hF,hr'⟩:=hr.addFx (w':=w.alloc (.cells cs T)) rfl rfl rfl (by simp) (fun k hk=>by show(w.heap.push _)[k]?=_;rw[Array.getElem?_push_lt hk,aR hk]) (fun b o v=>b=w.heap.size/\cs[o]?=some v) (fun b o v hb=>by
  obtain⟨rfl,hb⟩:=hb;exact⟨rL _,by rw[World.cell?_alloc_new];simpa using hb⟩)
 refine⟨D,hl,hr',_,rfl,.sl 1 w.heap.size 0 (fun j=>(cs[j]?).getD (.bool false)) (by simp) hc (.inr (.inl rfl)) (fun x hx=>?_) (fun i x j g h1 h2=>?_) (fun i x j g h1 h2=>?_) trivial⟩
 ·obtain⟨b,_,rfl⟩:=List.mem_map.1 hx;rfl
 all_goals
  rw[aM,aI] at h1;obtain⟨b,hb,rfl⟩:=h1;cases j with
  |succ j=>cases h2
  |zero=>
  cases h2;have hi:(cs[i*1+0]?).getD (.bool false)=.string ⟨b.toArray⟩:=by simp[hx i b hb]
  first
   |exact hF _ _ _ ⟨rfl,by simp[hx i b hb]⟩
   |(rw[hi];exact .s _)
theorem YC [MaxL] (s l9:List UInt8) (n:Nat) (hs:s.length<4000000000) (h1:1<=l9.length) (hn:1<=n) (hn2:n<=4000000000):SC Tryz.prog 199 [.s s,.s l9,.i .i64 (n:Nat)] [] (.val (.sl .none ((Lib.splitK l9 0 (min n (s.length+1) - 1) s).map .s))) []:=by
 have hd:=Lib.splitB_data ⟨l9.toArray⟩ 0 (min n (s.length+1) - 1) ⟨s.toArray⟩;simp only at hd;refine SC.of_row fun C w vs hr hv=>?_;obtain⟨us,e,hu⟩:=LP hv;obtain⟨u,us',e2,hu1,hu2⟩:=hu.cons_inv;obtain rfl:=H4 hu2;cases hu1;subst e2;obtain rfl:vs= #[_,_,_]:=by rw[<-fK (xs:=vs),e]
 have hlen:=Lib.splitB_length_le ⟨l9.toArray⟩ 0 (min n (s.length+1) - 1) ⟨s.toArray⟩;have hsz:(⟨s.toArray⟩:ByteArray).size=s.length:=by simp[ByteArray.size]
 have hc:=Tryz.strings_SplitN ⟨s.toArray⟩ ⟨l9.toArray⟩ n _ w (by rw[hsz];omega) (BL hr) (by simpa[ByteArray.size] using h1) hn (by omega);rw[hsz] at hc;rw[<-hd];refine⟨_,_,min n (s.length+1),by rw[bQ];omega,fun i x hx=>?_,by rw[bQ];exact hc⟩;rw[aM,aI] at hx;obtain⟨b,hb,rfl⟩:=hx;have hi:=(List.getElem?_eq_some_iff.1 hb).1;simp only[Lib.cellsOf,List.getElem?_toArray];rw[aT (by simpa using hi),aM,hb];simp
theorem a0Y [MaxL] (s l9:List UInt8) (hs:s.length<4000000000) (h1:1<=l9.length):SC Tryz.prog 247 [.s s,.s l9] [] (.val (.sl .none ((Lib.split s l9).map .s))) []:=by
 have hd:(Lib.splitB ⟨l9.toArray⟩ 0 (Lib.countB ⟨s.toArray⟩ ⟨l9.toArray⟩) ⟨s.toArray⟩).map (·.data.toList)=Lib.split s l9:=Lib.splitB_data _ 0 _ _;refine SC.of_row fun C w vs hr hv=>?_;obtain⟨us,e,hu⟩:=LP hv;obtain rfl:=H4 hu;obtain rfl:vs= #[_,_]:=by rw[<-fK (xs:=vs),e]
 have hz:1<=(⟨l9.toArray⟩:ByteArray).size:=by simpa[ByteArray.size] using h1
 have hlen:=Lib.splitB_all ⟨l9.toArray⟩ hz 0 _ ⟨s.toArray⟩ rfl;have hc:=Tryz.strings_Split ⟨s.toArray⟩ ⟨l9.toArray⟩ _ w (by simp[ByteArray.size];omega) (BL hr) hz;rw[<-hd];refine⟨_,_,_,rL _,fun i x hx=>?_,by rw[bQ,hlen];exact hc⟩;rw[aM,aI] at hx;obtain⟨b,hb,rfl⟩:=hx;rw[List.getElem?_toArray,aM,hb];simp
theorem XU [MaxL] {σ:GS} {r:Nat} (hlo:σ.lo=0) (ho:σ.objs[r]?=some (.box 92 [.o (.pointer none),.sl .full []])):
  Fact Tryz.prog (.fn 132) [.ptr r 0] σ (.val (.tup [])) (gset σ r (.box 92 [.ptr r 0,.sl .full []])):=by
 refine⟨.gset σ _ (by omega) ho (by simp),rfl,fun w0 C w vs hr hv=>?_⟩;show Calls _ _ _ _ _;obtain⟨v,rfl,hv1⟩:=hv.arr1;obtain⟨h0,b,cs,hb,ho',hcs⟩:=hr.obj r _ ho;obtain⟨u,u',rfl,hu,hu'⟩:=(BoxV.exact hcs rfl).arr2;cases hv1 with
 |ptr hb'=>
 rw[hb] at hb';cases hb';cases hu;have hc0:w.cell? ⟨b,0,none⟩=some (.pointer none):=by simp[World.cell?,ho']
 refine(Any.Builder_copyCheck_fresh E0 Tryz.Builder_Extra_156.toX72 b w hc0 (LW ho') (by simp[World.frozen?,ho'])).mono ?_;rintro e w' ⟨rfl,rfl⟩;refine⟨C,.refl C,Rel.setObj (r:=r) (b:=b) hr (List.getElem?_eq_some_iff.1 ho).1 hb _ ⟨h0,b,_,hb,heap_setCell_same w b 0 _ _ _ ho',?_⟩ rfl rfl rfl (by simp[World.setCell]) (fun k hk=>heap_setCell_other w _ k _ hk),_,rfl,.unit⟩;exact VRs.box (.cons (.ptr hb) (.cons hu' .nil))
theorem a0C [MaxL] {σ:GS} {r:Nat} {x:GV} (ho:σ.objs[r]?=some (.box 92 [.ptr r 0,x])):
  Fact Tryz.prog (.fn 132) [.ptr r 0] σ (.val (.tup [])) σ:=by
 refine⟨.refl σ,rfl,fun w0 C w vs hr hv=>?_⟩;show Calls _ _ _ _ _;obtain⟨v,rfl,hv1⟩:=hv.arr1;obtain⟨h0,b,cs,hb,ho',hcs⟩:=hr.obj r _ ho;obtain⟨u,u',rfl,hu,hu'⟩:=(BoxV.exact hcs rfl).arr2;cases hv1 with
 |ptr hb'=>
 rw[hb] at hb';cases hb';cases hu with
 |ptr hb'=>
 rw[hb] at hb';cases hb';have hc0:w.cell? ⟨b,0,none⟩=some (.pointer (some ⟨b,0,none⟩)):=by simp[World.cell?,ho']
 refine(Any.Builder_copyCheck_used E0 Tryz.Builder_Extra_156.toX72 b w hc0).mono ?_;rintro e w' ⟨rfl,rfl⟩;exact⟨C,.refl C,hr,_,rfl,.unit⟩
def gcc (args:List GV) (σ:GS):Option (GRes×GS):=
 match args with
 |[.ptr r 0]=>match σ.objs[r]? with
  |some (.box t [.o (.pointer none),.sl .full []])=>if σ.lo=0/\t=92 then some (.val (.tup []),gset σ r (.box t [.ptr r 0,.sl .full []])) else none
  |some (.box t [.ptr q 0,x])=>if q=r/\t=92 then some (.val (.tup []),σ) else none
  |_=>none
 |_=>none
theorem XR [MaxL] {args:List GV} {σ σ':GS} {r:GRes} (h:gcc args σ=some (r,σ')):Fact Tryz.prog (.fn 132) args σ r σ':=by
 unfold gcc at h;split at h
 ·split at h
  ·rename_i ho;split at h
   ·rename_i hc;obtain⟨h1,rfl⟩:=hc;cases h;exact XU h1 ho
   ·cases h
  ·rename_i ho;split at h
   ·rename_i hc;obtain⟨rfl,rfl⟩:=hc;cases h;exact a0C ho
   ·cases h
  ·cases h
 ·cases h
def gix (args:List GV) (σ:GS):Option (GRes×GS):=
 match args with
 |[.s a,.s b]=>if a.length<4000000000 then some (.val (.i .i64 (Lib.index a b)),σ) else none
 |_=>none
def gsn (args:List GV) (σ:GS):Option (GRes×GS):=
 match args with
 |[.s a,.s b,.i .i64 (.ofNat n)]=>if a.length<4000000000/\1<=b.length/\1<=n/\n<=4000000000 then some (.val (.sl .none ((Lib.splitK b 0 (min n (a.length+1) - 1) a).map .s)),σ) else none
 |_=>none
def gsp (args:List GV) (σ:GS):Option (GRes×GS):=
 match args with
 |[.s a,.s b]=>if a.length<4000000000/\1<=b.length then some (.val (.sl .none ((Lib.split a b).map .s)),σ) else none
 |_=>none
def a2w:QJ:=fun k=>if k=132 then some gcc else if k=195 then some gix else if k=199 then some gsn else if k=247 then some gsp else none
theorem a0E [MaxL] (w0:World):EnvSound Tryz.prog w0 (fun _=>false) a2w:=.of fun k f hf args σ r σ' h=>⟨(by
 unfold a2w at hf;split at hf
 ·rename_i hk;cases hf;subst hk;exact XR h
 ·split at hf
  ·rename_i hk;cases hf;subst hk;unfold gix at h;split at h
   ·split at h
    ·rename_i hl;cases h;exact SC.factNil (YE _ _ hl) (fun _=>rfl) (fun _=>rfl) (wR _)
    ·cases h
   ·cases h
  ·split at hf
   ·rename_i hk;cases hf;subst hk;unfold gsn at h;split at h
    ·split at h
     ·rename_i hl;cases h;exact SC.factNil (YC _ _ _ hl.1 hl.2.1 hl.2.2.1 hl.2.2.2) (fun _=>rfl) (fun e=>by show GRes.val (GV.ren e _)=_;rw[bV (gT (fun _=>Cl.s _) _)]) (wR _)
     ·cases h
    ·cases h
   ·split at hf
    ·rename_i hk;cases hf;subst hk;unfold gsp at h;split at h
     ·split at h
      ·rename_i hl;cases h;exact SC.factNil (a0Y _ _ hl.1 hl.2) (fun _=>rfl) (fun e=>by show GRes.val (GV.ren e _)=_;rw[bV (gT (fun _=>Cl.s _) _)]) (wR _)
      ·cases h
     ·cases h
    ·cases hf),fun h9=>by cases h9⟩
theorem L9 [MaxL]:SC Tryz.prog 11 [] [] (.val (.b true)) []:=SC.of_gcall mixed a0E (m:=40) (by kernel_rfl) (fun _=>rfl)
end Go.Proofs.YtcfgfkkhpdlhpaaGreatDoor
namespace Go.Proofs.YtcfgfkkhpdlhpaaGreatDoor
open Go.RowKit
theorem YY {α:Type} {f:α->Nat} {l:List α} {x:α} (h:x∈l):f x<=(l.map f).sum:=by
 induction l with
 |nil=>cases h
 |cons y l ih=>
  rw[dO,List.sum_cons];rcases List.mem_cons.1 h with rfl|h
  ·omega
  ·have:=ih h;omega
theorem X9 {s:Sch} (h:sK s=true):kI s/\∀r∈s.rc,r.check.length<1000000:=by
 unfold sK at h;simp only[aH,dK,Bool.or_eq_false_iff,bM,aS,aL] at h;obtain⟨⟨⟨h1,h2⟩,h3⟩,h4,h5,h6⟩:=h;have hk:∀r∈s.rc,r.check.length<=6000:=fun r hr=>by
  have h7:UW r<=(s.rc.map UW).sum:=YY hr;have h8:UW r=r.name.length+r.area.length+r.via.length+r.check.length:=rfl;omega
 refine⟨⟨⟨by unfold bH;omega,by unfold bH;omega,by unfold bH;omega⟩,fun r hr=>?_,fun t ht=>?_⟩,fun r hr=>by have:=hk r hr;omega⟩
 ·have h8:=h4 r hr;have h9:=hk r hr;unfold HB BM r8 at h8;simp only[aH,aL] at h8;unfold bH;exact⟨by have:=h8.1.2;omega,by have:=h8.2.2;omega,by omega⟩
 ·have h8:=h5 t ht;unfold zR r8 at h8;simp only[aH,dK,Bool.or_eq_false_iff,bM,aS,aL] at h8;unfold bH;exact⟨by have:=h8.1.1;omega,by have:=h8.1.2;omega,fun m hm=>by have:=(h8.2 m hm).2;omega⟩
theorem TX {s:Sch} (h:sK s=true):Z3 s/\s.st.length<=1000:=by
 unfold sK at h;simp only[aH,dK,Bool.or_eq_false_iff,bM,aS,aL] at h;obtain⟨⟨⟨h1,h2⟩,h3⟩,h4,h5,h6⟩:=h;refine⟨fun t ht=>?_,by omega⟩;have h8:=h5 t ht;unfold zR r8 at h8;simp only[aH,dK,Bool.or_eq_false_iff,bM,aS,aL] at h8;exact⟨by have:=h8.1.1;omega,by have:=h8.1.2;omega,fun m hm=>by have:=(h8.2 m hm).2;omega⟩
theorem I2 (s:Sch) (p:Sy->Bool) (n:By):(nE s p n).1.length<=s.st.length:=by
 unfold nE;split
 ·split
  ·show((s.st.filter p).map (·.name)).length<=_;rw[bQ];exact iN _ _
  ·exact zL _
 ·exact zL _
theorem M6 {s:Sch} {p:Sy->Bool} {n:By}:nE s p n=if(vT s n).2.2==0 then((s.st.filter p).map (·.name),0) else([],(vT s n).2.2):=by
 unfold nE vT;cases(mP s).2.2==0 with
 |false=>rfl
 |true=>
  rw[aG rfl,aG rfl];rcases j5 (fun t:Rc=>t.name==n) s.rc with⟨_,h2,h3⟩|⟨i,y,_,_,h2,h3⟩
  ·rw[h2,h3];rfl
  ·rw[h2,h3];rfl
theorem TF {s:Sch} {n:By} (h:(vT s n).2.2=0):n≠[]:=by
 unfold vT at h;cases hv:((mP s).2.2==0) with
 |false=>rw[hv] at h;exact absurd (show(1:Int)=0 from h) (by decide)
 |true=>
  rw[hv,aG rfl] at h;rcases j5 (fun t:Rc=>t.name==n) s.rc with⟨_,h2,_⟩|⟨i,y,_,hy,h2,h3⟩
  ·rw[h2] at h;exact absurd (show(5:Int)=0 from h) (by decide)
  ·refine WA (eq_of_beq hv) ?_;rw[<-dU (fun r:Rc=>r.name)] at h3;simpa[eJ] using h3
theorem ZQ [MaxL] (s:Sch) (hz:kI s) (hl:s.st.length<=1000) (hc:∀r∈s.rc,r.check.length<1000000) (n:By):SC Tryz.prog 42 [lC s,.s n] [] (.val (.tup [.sl .none (aZ (nE s (fun t=>t.owner==n) n).1),.i .i64 (nE s (fun t=>t.owner==n) n).2])) []:=by
 have hr:=BE s hz hc n;have hn:=TF (s:=s) (n:=n);generalize hX:nE s (fun t=>t.owner==n) n=X;rw[M6] at hX;generalize vT s n=R at*;obtain⟨r,i,e⟩:=R;refine cH vO mixed Tryz.func42 rfl (bL rfl) (by first|exact rL _|simp) rfl ?_;conv=>whnf
 refine cP hr ?_;conv=>whnf
 refine st ?_;conv=>whnf
 refine aF (fun h=>?_) (fun h=>?_)<;>conv=>whnf
 ·rw[aE (by simpa using h)] at hX;rw[<-hX];exact d6 0 (hw:=Wk.tupl ⟨bE _ _,.refl _,trivial⟩)
 have h0:e=0:=by simpa using h
 subst h0;refine cP (CJ s hl n (hn rfl)) ?_;conv=>whnf
 rw[<-hX];exact d6 0
theorem WQ [MaxL] (s:Sch) (hz:kI s) (hl:s.st.length<=1000) (hc:∀r∈s.rc,r.check.length<1000000) (n:By):SC Tryz.prog 43 [lC s,.s n] [] (.val (.tup [.sl .none (aZ (nE s (fun t=>t.ms.any fun m=>m.of==n) n).1),.i .i64 (nE s (fun t=>t.ms.any fun m=>m.of==n) n).2])) []:=by
 have hr:=BE s hz hc n;generalize hX:nE s (fun t=>t.ms.any fun m=>m.of==n) n=X;rw[M6] at hX;generalize vT s n=R at*;obtain⟨r,i,e⟩:=R;refine cH vO mixed Tryz.func43 rfl (bL rfl) (by first|exact rL _|simp) rfl ?_;conv=>whnf
 refine cP hr ?_;conv=>whnf
 refine st ?_;conv=>whnf
 refine aF (fun h=>?_) (fun h=>?_)<;>conv=>whnf
 ·rw[aE (by simpa using h)] at hX;rw[<-hX];exact d6 0 (hw:=Wk.tupl ⟨bE _ _,.refl _,trivial⟩)
 have h0:e=0:=by simpa using h
 subst h0;refine cP (JN s hl (fun t ht=>(hz.2.2 t ht).1) n) ?_;conv=>whnf
 rw[<-hX];exact d6 0
theorem TY {s:Sch} (h:sK s=true):a2Y s/\s.rc.length<=1000:=by
 unfold sK at h;simp only[aH,dK,Bool.or_eq_false_iff,bM,aS,aL] at h;obtain⟨⟨⟨h1,h2⟩,h3⟩,h4,h5,h6⟩:=h;refine⟨fun r hr=>?_,by omega⟩;have h8:=h4 r hr;unfold HB BM r8 at h8;simp only[aH,aL] at h8;exact⟨by have:=h8.1.2;omega,by have:=h8.2.2;omega⟩
theorem a03 (s:Sch) (n:By):(XG s n).1.length<=s.rc.length:=by
 unfold XG;split
 ·show((s.rc.filter _).map _).length<=_;rw[bQ];exact iN _ _
 ·exact zL _
set_option maxHeartbeats 2000000 in
theorem HF [MaxL] (s:Sch) (ht:VT s) (n:By) (hn:n.length<=cap):SC Tryz.prog 8 [lC s,.s n] [] (.val (.b true)) []:=by
 have hl:=a00 s ht;unfold cap at hn;cases h:sK s with
 |false=>
  rw[h] at hl;refine cZ Tryz.func8 rfl ?_;conv=>whnf
  refine cP hl ?_;conv=>whnf
  refine cP L9 ?_;conv=>whnf
  exact d6 0
 |true=>
  rw[h] at hl;obtain⟨hz,hc⟩:=X9 h;obtain⟨hs,hst⟩:=TX h;obtain⟨hrz,hrc⟩:=TY h;have a1:=TB s hz hrz n;have a2:=BE s hz hc n;have b1:=a0f s hz hs n;have b2:=a0k s hz hc n;have c1:=QV s hz n;have c2:=R6 s hz hc n;have d1:=a1R s hz hs n;have d2:=a1f s hz hs hst hrc hc n;have e1:=a3F s hz hrc n;have e2:=a3L s hz hrc hc n;have e3:=a03 s n;have f1:=ZG s hz hst n;have f2:=ZQ s hz hst hc n;have f3:=I2 s (fun t=>t.owner==n) n;have g1:=W1 s hz hst n;have g2:=WQ s hz hst hc n;have g3:=I2 s (fun t=>t.ms.any fun m=>m.of==n) n;generalize vT s n=A at*;obtain⟨ar,ai,ae⟩:=A;generalize uO s n=B at*;obtain⟨br,bi,be⟩:=B;generalize xD s n=C at*;obtain⟨ci,ce⟩:=C;generalize yA s n=D at*;obtain⟨db,de⟩:=D;generalize XG s n=E at*;obtain⟨el,ee⟩:=E;generalize nE s (fun t=>t.owner==n) n=F at*;obtain⟨fl,fe⟩:=F;generalize nE s (fun t=>t.ms.any fun m=>m.of==n) n=G at*;obtain⟨gl,ge⟩:=G;have e4:=w8 el (by show el.length<bH;unfold bH;exact Nat.lt_of_le_of_lt (e8 e3 hrc) (by omega));have f4:=w8 fl (by show fl.length<bH;unfold bH;exact Nat.lt_of_le_of_lt (e8 f3 hst) (by omega));have g4:=w8 gl (by show gl.length<bH;unfold bH;exact Nat.lt_of_le_of_lt (e8 g3 hst) (by omega));clear e3 f3 g3;refine cH vO mixed Tryz.func8 rfl (bL rfl) (by first|exact rL _|simp) rfl ?_;conv=>whnf
  refine cP hl ?_;conv=>whnf
  refine aF (fun h1=>?_) (fun h1=>?_)<;>conv=>whnf
  ·refine cP L9 ?_;(conv=>whnf);exact d6 0
  refine cP a1 ?_;conv=>whnf
  refine st ?_;conv=>whnf
  refine cP a2 ?_;conv=>whnf
  refine st ?_;conv=>whnf
  refine gN (show(ai !=ai)=false by simp) ?_;conv=>whnf
  refine gN (show(ae !=ae)=false by simp) ?_;conv=>whnf
  refine cP b1 ?_;conv=>whnf
  refine st ?_;conv=>whnf
  refine cP b2 ?_;conv=>whnf
  refine st ?_;conv=>whnf
  refine gN (show(bi !=bi)=false by simp) ?_;conv=>whnf
  refine gN (show(be !=be)=false by simp) ?_;conv=>whnf
  refine gN (show(br.name !=br.name)=false by simp) ?_;conv=>whnf
  refine gN (show(br.owner !=br.owner)=false by simp) ?_;conv=>whnf
  refine gN (show(((kV br.ms).length:Int) !=(kV br.ms).length)=false by simp) ?_;conv=>whnf
  refine cP c1 ?_;conv=>whnf
  refine cP c2 ?_;conv=>whnf
  refine gN (show(ci !=ci)=false by simp) ?_;conv=>whnf
  refine gN (show(ce !=ce)=false by simp) ?_;conv=>whnf
  refine cP d1 ?_;conv=>whnf
  refine cP d2 ?_;conv=>whnf
  refine gN (show(db !=db)=false by simp) ?_;conv=>whnf
  refine gN (show(de !=de)=false by simp) ?_;conv=>whnf
  refine cP e1 ?_;conv=>whnf
  refine cP e2 ?_;conv=>whnf
  refine gN (show(ee !=ee)=false by simp) ?_;conv=>whnf
  refine cP e4 ?_;conv=>whnf
  refine cP f1 ?_;conv=>whnf
  refine cP f2 ?_;conv=>whnf
  refine gN (show(fe !=fe)=false by simp) ?_;conv=>whnf
  refine cP f4 ?_;conv=>whnf
  refine cP g1 ?_;conv=>whnf
  refine cP g2 ?_;conv=>whnf
  refine gY (show(ge==ge)=true by simp) ?_;conv=>whnf
  refine cP g4 ?_;conv=>whnf
  refine cP L9 ?_;conv=>whnf
  exact d6 0
end Go.Proofs.YtcfgfkkhpdlhpaaGreatDoor
namespace Go.Proofs.YtcfgfkkhpdlhpaaGreatDoor
open Go
theorem schemaFinds_holds:Rows.SchemaFindsCardSaid:=y5 (EU fun s n hs hn=>HF s hs n hn)
