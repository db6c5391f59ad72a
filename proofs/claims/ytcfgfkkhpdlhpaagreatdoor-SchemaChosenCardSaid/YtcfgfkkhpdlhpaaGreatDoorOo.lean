/-
  What a record of a set selects of a row (Chosen) is what the document says, for every schema, set, record and row that are not too large to look at (with others the law looks at its example alone); the card, in full.
-/
import Derived.Test.YtcfgfkkhpdlhpaaGreatDoorR51
import Derived.Lib.Index
import Derived.Lib.SplitLaws
set_option linter.all false
set_option maxRecDepth 100000
namespace Go.Proofs.YtcfgfkkhpdlhpaaGreatDoor
open Go.RowKit Go.Sort
theorem BH [MaxL] {C:Cx} {w:World} (hr:Rel C ⟨[],0,[]⟩ w w):w.cell? ⟨0,0,none⟩=some (.int .i64 MaxL.m):=by
 obtain⟨u,h1,h2⟩:=hr.gl 0 [.i .i64 MaxL.m] 0 (.i .i64 MaxL.m) rfl rfl;have:=h2 C (fun _ _ _ h=>h);cases this;exact hr.fxc _ _ _ h1
theorem L3 [MaxL] {C:Cx} {a b:List UInt8} {l:List GV} {vs:Array Value} (hv:VRs C (.s a::.s b::l) vs.toList):∃us,vs.toList=.string ⟨a.toArray⟩::.string ⟨b.toArray⟩::us/\VRs C l us:=by
 obtain⟨u,vs',e,hv1,hv2⟩:=hv.cons_inv;obtain⟨u2,vs2,e2,hv3,hv4⟩:=hv2.cons_inv;cases hv1;cases hv3;exact⟨vs2,by rw[e,e2],hv4⟩
theorem GR [MaxL] {C:Cx} {us:List Value} (hv:VRs C [] us):us=[]:=aN (by simpa using hv.1)
theorem XH [MaxL] (s kW:List UInt8) (hs:s.length<4000000000):SC Tryz.prog 195 [.s s,.s kW] [] (.val (.i .i64 (Lib.index s kW))) []:=by
 refine SC.of_calls fun C w vs hr hv=>?_;obtain⟨us,e,hu⟩:=L3 hv;obtain rfl:=GR hu;obtain rfl:vs= #[_,_]:=by rw[<-fI (xs:=vs),e]
 refine(Tryz.stringslite_Index ⟨s.toArray⟩ ⟨kW.toArray⟩ _ w (by simp[ByteArray.size];omega) (BH hr)).mono ?_;rintro e w' ⟨rfl,rfl⟩;exact⟨_,rfl,.refl _ _,.i _ _⟩
theorem SC.of_row [MaxL] {P:Program} {k:FuncId} {args:List GV} {xs:List (List UInt8)}
  (h:∀(C:Cx) (w:World) (vs:Array Value),Rel C ⟨[],0,[]⟩ w w->VRs C args vs.toList->∃(cs:Array Value) (T:TypeId) (c:Nat),xs.length<=c/\(∀(i:Nat) x,xs[i]?=some x->cs[i]?=some (.string ⟨x.toArray⟩))/\
   Calls P k vs w fun e w'=>e=.returned (.slice (some ⟨w.heap.size,0,none⟩) xs.length c)/\w'=w.alloc (.cells cs T)):SC P k args [] (.val (.sl .none (xs.map .s))) []:=by
 refine⟨rL _,fun C w vs hr hv=>?_,fun x hx=>by simp at hx⟩;obtain⟨cs,T,c,hc,hx,hcall⟩:=h C w vs hr hv;refine hcall.mono ?_;rintro e w' ⟨rfl,rfl⟩;obtain⟨D,hl,hF,hr'⟩:=hr.addFx (w':=w.alloc (.cells cs T)) rfl rfl rfl (by simp) (fun k hk=>by show(w.heap.push _)[k]?=_;rw[Array.getElem?_push_lt hk,aR hk]) (fun b o v=>b=w.heap.size/\cs[o]?=some v) (fun b o v hb=>by
  obtain⟨rfl,hb⟩:=hb;exact⟨rL _,by rw[World.cell?_alloc_new];simpa using hb⟩)
 refine⟨D,hl,hr',_,rfl,.sl 1 w.heap.size 0 (fun j=>(cs[j]?).getD (.bool false)) (by simp) hc (.inr (.inl rfl)) (fun x hx=>?_) (fun i x j g h1 h2=>?_) (fun i x j g h1 h2=>?_) trivial⟩
 ·obtain⟨b,_,rfl⟩:=List.mem_map.1 hx;rfl
 all_goals
  rw[aM,aI] at h1;obtain⟨b,hb,rfl⟩:=h1;cases j with
  |succ j=>cases h2
  |zero=>
  cases h2;have hi:(cs[i*1+0]?).getD (.bool false)=.string ⟨b.toArray⟩:=by simp[hx i b hb]
  first
   |exact hF _ _ _ ⟨rfl,by simp[hx i b hb]⟩
   |(rw[hi];exact .s _)
theorem XF [MaxL] (s kW:List UInt8) (n:Nat) (hs:s.length<4000000000) (h1:1<=kW.length) (hn:1<=n) (hn2:n<=4000000000):SC Tryz.prog 199 [.s s,.s kW,.i .i64 (n:Nat)] [] (.val (.sl .none ((Lib.splitK kW 0 (min n (s.length+1) - 1) s).map .s))) []:=by
 have hd:=Lib.splitB_data ⟨kW.toArray⟩ 0 (min n (s.length+1) - 1) ⟨s.toArray⟩;simp only at hd;refine SC.of_row fun C w vs hr hv=>?_;obtain⟨us,e,hu⟩:=L3 hv;obtain⟨u,us',e2,hu1,hu2⟩:=hu.cons_inv;obtain rfl:=GR hu2;cases hu1;subst e2;obtain rfl:vs= #[_,_,_]:=by rw[<-fI (xs:=vs),e]
 have hlen:=Lib.splitB_length_le ⟨kW.toArray⟩ 0 (min n (s.length+1) - 1) ⟨s.toArray⟩;have hsz:(⟨s.toArray⟩:ByteArray).size=s.length:=by simp[ByteArray.size]
 have hc:=Tryz.strings_SplitN ⟨s.toArray⟩ ⟨kW.toArray⟩ n _ w (by rw[hsz];omega) (BH hr) (by simpa[ByteArray.size] using h1) hn (by omega);rw[hsz] at hc;rw[<-hd];refine⟨_,_,min n (s.length+1),by rw[cU];omega,fun i x hx=>?_,by rw[cU];exact hc⟩;rw[aM,aI] at hx;obtain⟨b,hb,rfl⟩:=hx;have hi:=(List.getElem?_eq_some_iff.1 hb).1;simp only[Lib.cellsOf,List.getElem?_toArray];rw[aV (by simpa using hi),aM,hb];simp
theorem a00 [MaxL] (s kW:List UInt8) (hs:s.length<4000000000) (h1:1<=kW.length):SC Tryz.prog 247 [.s s,.s kW] [] (.val (.sl .none ((Lib.split s kW).map .s))) []:=by
 have hd:(Lib.splitB ⟨kW.toArray⟩ 0 (Lib.countB ⟨s.toArray⟩ ⟨kW.toArray⟩) ⟨s.toArray⟩).map (·.data.toList)=Lib.split s kW:=Lib.splitB_data _ 0 _ _;refine SC.of_row fun C w vs hr hv=>?_;obtain⟨us,e,hu⟩:=L3 hv;obtain rfl:=GR hu;obtain rfl:vs= #[_,_]:=by rw[<-fI (xs:=vs),e]
 have hz:1<=(⟨kW.toArray⟩:ByteArray).size:=by simpa[ByteArray.size] using h1
 have hlen:=Lib.splitB_all ⟨kW.toArray⟩ hz 0 _ ⟨s.toArray⟩ rfl;have hc:=Tryz.strings_Split ⟨s.toArray⟩ ⟨kW.toArray⟩ _ w (by simp[ByteArray.size];omega) (BH hr) hz;rw[<-hd];refine⟨_,_,_,rL _,fun i x hx=>?_,by rw[cU,hlen];exact hc⟩;rw[aM,aI] at hx;obtain⟨b,hb,rfl⟩:=hx;rw[List.getElem?_toArray,aM,hb];simp
theorem WU [MaxL] {σ:GS} {r:Nat} (hlo:σ.lo=0) (ho:σ.objs[r]?=some (.box 92 [.o (.pointer none),.sl .full []])):
  Fact Tryz.prog (.fn 132) [.ptr r 0] σ (.val (.tup [])) (gset σ r (.box 92 [.ptr r 0,.sl .full []])):=by
 refine⟨.gset σ _ (by omega) ho (by simp),rfl,fun w0 C w vs hr hv=>?_⟩;show Calls _ _ _ _ _;obtain⟨v,rfl,hv1⟩:=hv.arr1;obtain⟨h0,b,cs,hb,ho',hcs⟩:=hr.obj r _ ho;obtain⟨u,u',rfl,hu,hu'⟩:=(BoxV.exact hcs rfl).arr2;cases hv1 with
 |ptr hb'=>
 rw[hb] at hb';cases hb';cases hu;have hc0:w.cell? ⟨b,0,none⟩=some (.pointer none):=by simp[World.cell?,ho']
 refine(Any.Builder_copyCheck_fresh DU Tryz.Builder_Extra_156.toX72 b w hc0 (LA ho') (by simp[World.frozen?,ho'])).mono ?_;rintro e w' ⟨rfl,rfl⟩;refine⟨C,.refl C,Rel.setObj (r:=r) (b:=b) hr (List.getElem?_eq_some_iff.1 ho).1 hb _ ⟨h0,b,_,hb,heap_setCell_same w b 0 _ _ _ ho',?_⟩ rfl rfl rfl (by simp[World.setCell]) (fun k hk=>heap_setCell_other w _ k _ hk),_,rfl,.unit⟩;exact VRs.box (.cons (.ptr hb) (.cons hu' .nil))
theorem ZC [MaxL] {σ:GS} {r:Nat} {x:GV} (ho:σ.objs[r]?=some (.box 92 [.ptr r 0,x])):
  Fact Tryz.prog (.fn 132) [.ptr r 0] σ (.val (.tup [])) σ:=by
 refine⟨.refl σ,rfl,fun w0 C w vs hr hv=>?_⟩;show Calls _ _ _ _ _;obtain⟨v,rfl,hv1⟩:=hv.arr1;obtain⟨h0,b,cs,hb,ho',hcs⟩:=hr.obj r _ ho;obtain⟨u,u',rfl,hu,hu'⟩:=(BoxV.exact hcs rfl).arr2;cases hv1 with
 |ptr hb'=>
 rw[hb] at hb';cases hb';cases hu with
 |ptr hb'=>
 rw[hb] at hb';cases hb';have hc0:w.cell? ⟨b,0,none⟩=some (.pointer (some ⟨b,0,none⟩)):=by simp[World.cell?,ho']
 refine(Any.Builder_copyCheck_used DU Tryz.Builder_Extra_156.toX72 b w hc0).mono ?_;rintro e w' ⟨rfl,rfl⟩;exact⟨C,.refl C,hr,_,rfl,.unit⟩
def gcc (args:List GV) (σ:GS):Option (GRes×GS):=
 match args with
 |[.ptr r 0]=>match σ.objs[r]? with
  |some (.box t [.o (.pointer none),.sl .full []])=>if σ.lo=0/\t=92 then some (.val (.tup []),gset σ r (.box t [.ptr r 0,.sl .full []])) else none
  |some (.box t [.ptr q 0,x])=>if q=r/\t=92 then some (.val (.tup []),σ) else none
  |_=>none
 |_=>none
theorem WR [MaxL] {args:List GV} {σ σ':GS} {r:GRes} (h:gcc args σ=some (r,σ')):Fact Tryz.prog (.fn 132) args σ r σ':=by
 unfold gcc at h;split at h
 ·split at h
  ·rename_i ho;split at h
   ·rename_i hc;obtain⟨h1,rfl⟩:=hc;cases h;exact WU h1 ho
   ·cases h
  ·rename_i ho;split at h
   ·rename_i hc;obtain⟨rfl,rfl⟩:=hc;cases h;exact ZC ho
   ·cases h
  ·cases h
 ·cases h
def gix (args:List GV) (σ:GS):Option (GRes×GS):=
 match args with
 |[.s a,.s b]=>if a.length<4000000000 then some (.val (.i .i64 (Lib.index a b)),σ) else none
 |_=>none
def gsn (args:List GV) (σ:GS):Option (GRes×GS):=
 match args with
 |[.s a,.s b,.i .i64 (.ofNat n)]=>if a.length<4000000000/\1<=b.length/\1<=n/\n<=4000000000 then some (.val (.sl .none ((Lib.splitK b 0 (min n (a.length+1) - 1) a).map .s)),σ) else none
 |_=>none
def gsp (args:List GV) (σ:GS):Option (GRes×GS):=
 match args with
 |[.s a,.s b]=>if a.length<4000000000/\1<=b.length then some (.val (.sl .none ((Lib.split a b).map .s)),σ) else none
 |_=>none
def a2F:PX:=fun k=>if k=132 then some gcc else if k=195 then some gix else if k=199 then some gsn else if k=247 then some gsp else none
theorem ZE [MaxL] (w0:World):EnvSound Tryz.prog w0 (fun _=>false) a2F:=.of fun k f hf args σ r σ' h=>⟨(by
 unfold a2F at hf;split at hf
 ·rename_i hk;cases hf;subst hk;exact WR h
 ·split at hf
  ·rename_i hk;cases hf;subst hk;unfold gix at h;split at h
   ·split at h
    ·rename_i hl;cases h;exact SC.factNil (XH _ _ hl) (fun _=>rfl) (fun _=>rfl) (wR _)
    ·cases h
   ·cases h
  ·split at hf
   ·rename_i hk;cases hf;subst hk;unfold gsn at h;split at h
    ·split at h
     ·rename_i hl;cases h;exact SC.factNil (XF _ _ _ hl.1 hl.2.1 hl.2.2.1 hl.2.2.2) (fun _=>rfl) (fun e=>by show GRes.val (GV.ren e _)=_;rw[bS (gI (fun _=>Cl.s _) _)]) (wR _)
     ·cases h
    ·cases h
   ·split at hf
    ·rename_i hk;cases hf;subst hk;unfold gsp at h;split at h
     ·split at h
      ·rename_i hl;cases h;exact SC.factNil (a00 _ _ hl.1 hl.2) (fun _=>rfl) (fun e=>by show GRes.val (GV.ren e _)=_;rw[bS (gI (fun _=>Cl.s _) _)]) (wR _)
      ·cases h
     ·cases h
    ·cases hf),fun h9=>by cases h9⟩
theorem AF [MaxL]:SC Tryz.prog 11 [] [] (.val (.b true)) []:=SC.of_gcall mixed ZE (m:=40) (by kernel_rfl) (fun _=>rfl)
end Go.Proofs.YtcfgfkkhpdlhpaaGreatDoor
namespace Go.Proofs.YtcfgfkkhpdlhpaaGreatDoor
open Go.RowKit
theorem XZ {α:Type} {f:α->Nat} {l:List α} {x:α} (h:x∈l):f x<=(l.map f).sum:=by
 induction l with
 |nil=>cases h
 |cons y l ih=>
  rw[dU,List.sum_cons];rcases List.mem_cons.1 h with rfl|h
  ·omega
  ·have:=ih h;omega
theorem WA {s:Sch} (h:vU s=true):mK s/\∀r∈s.rc,r.check.length<1000000:=by
 unfold vU at h;simp only[aH,dQ,Bool.or_eq_false_iff,bG,aS,aK] at h;obtain⟨⟨⟨h1,h2⟩,h3⟩,h4,h5,h6⟩:=h;have hk:∀r∈s.rc,r.check.length<=6000:=fun r hr=>by
  have h7:TZ r<=(s.rc.map TZ).sum:=XZ hr;have h8:TZ r=r.name.length+r.area.length+r.via.length+r.check.length:=rfl;omega
 refine⟨⟨⟨by unfold bB;omega,by unfold bB;omega,by unfold bB;omega⟩,fun r hr=>?_,fun t ht=>?_⟩,fun r hr=>by have:=hk r hr;omega⟩
 ·have h8:=h4 r hr;have h9:=hk r hr;unfold J3 FB sD at h8;simp only[aH,aK] at h8;unfold bB;exact⟨by have:=h8.1.2;omega,by have:=h8.2.2;omega,by omega⟩
 ·have h8:=h5 t ht;unfold zC sD at h8;simp only[aH,dQ,Bool.or_eq_false_iff,bG,aS,aK] at h8;unfold bB;exact⟨by have:=h8.1.1;omega,by have:=h8.1.2;omega,fun m hm=>by have:=(h8.2 m hm).2;omega⟩
theorem SZ {s:Sch} (h:vU s=true):Y2 s/\s.st.length<=1000:=by
 unfold vU at h;simp only[aH,dQ,Bool.or_eq_false_iff,bG,aS,aK] at h;obtain⟨⟨⟨h1,h2⟩,h3⟩,h4,h5,h6⟩:=h;refine⟨fun t ht=>?_,by omega⟩;have h8:=h5 t ht;unfold zC sD at h8;simp only[aH,dQ,Bool.or_eq_false_iff,bG,aS,aK] at h8;exact⟨by have:=h8.1.1;omega,by have:=h8.1.2;omega,fun m hm=>by have:=(h8.2 m hm).2;omega⟩
instance [MaxL] {L:List (List Val)}:KL (zG L):=⟨V5 L⟩
theorem a0m {row:List Val} (h:[row].all D6=true):row.length<bB/\∀v∈row,v.s.length<bB:=by
 simp only[List.all_cons,List.all_nil,Bool.and_true] at h;refine⟨a0n h,?_⟩;simp only[D6,aH,aS,aK] at h;unfold bB;exact fun v hv=>by have:=h.2 v hv;omega
theorem FA [MaxL] (s:Sch) (ht:US s) (n r:By) (row:List Val) (hn:n.length<=cap) (hr:r.length<=cap):SC Tryz.prog 7 [nZ s,.s n,.s r,.sl .none (jT row)] [] (.val (.b true)) []:=by
 have hl:=Z1 s ht;have hR:=a1A [row] (by simp);have ho:=a0m (row:=row);unfold cap at hn hr;cases h:vU s with
 |false=>
  rw[h] at hl;refine cX Tryz.func7 rfl ?_;conv=>whnf
  refine cP hl ?_;conv=>whnf
  refine cP AF ?_;conv=>whnf
  exact dH 0
 |true=>
  rw[h] at hl;obtain⟨hz,hc⟩:=WA h;obtain⟨hs,hst⟩:=SZ h;cases hw:[row].all D6 with
  |false=>
   rw[hw] at hR;refine cR xN mixed Tryz.func7 rfl (bL rfl) (by first|exact rL _|simp) rfl ?_;(conv=>whnf);refine cP hl ?_;(conv=>whnf);refine aF (fun h1=>?_) (fun h1=>?_)<;>conv=>whnf
   ·refine cP AF ?_;(conv=>whnf);exact dH 0
   refine cP hR ?_ (hw:=wC (bI _ _) (wR _));(conv=>whnf);refine cP AF ?_;(conv=>whnf);exact dH 0
  |true=>
   rw[hw] at hR;obtain⟨ho1,ho2⟩:=ho hw;have hC:=UY s hz hs n r row ho1;have hD:=VO s hz hc n r row ho1;have hS:=YM (s3 s n r row).1 (Nat.lt_of_le_of_lt X4 (by unfold bB;omega)) (fun v hv=>ho2 v (X3 v hv));generalize s3 s n r row=Q at*;obtain⟨a,b,e⟩:=Q;refine cR xN mixed Tryz.func7 rfl (bL rfl) (by first|exact rL _|simp) rfl ?_;(conv=>whnf);refine cP hl ?_;(conv=>whnf);refine aF (fun h1=>?_) (fun h1=>?_)<;>conv=>whnf
   ·refine cP AF ?_;(conv=>whnf);exact dH 0
   refine cP hR ?_ (hw:=wC (bI _ _) (wR _));(conv=>whnf);refine cP hC ?_;(conv=>whnf);refine cP hD ?_;(conv=>whnf);refine gY (show(b==b)=true by simp) ?_;(conv=>whnf);refine gY (show(e==e)=true by simp) ?_;(conv=>whnf);refine cP hS ?_;(conv=>whnf);refine cP AF ?_;(conv=>whnf);exact dH 0
end Go.Proofs.YtcfgfkkhpdlhpaaGreatDoor
namespace Go.Proofs.YtcfgfkkhpdlhpaaGreatDoor
open Go
theorem schemaChosen_holds:Rows.SchemaChosenCardSaid:=vR (D5 fun s n r a hs hn hr=>FA s hs n r a hn hr)
