/-
  Wrong of a schema is what the reference finds first: both sides' contracts go to one plain answer.
-/
import Derived.Test.YtcfgfkkhpdlhpaaGreatDoorQ20
import Derived.Test.YtcfgfkkhpdlhpaaGreatDoorQ21
import Derived.Test.YtcfgfkkhpdlhpaaGreatDoorQ48
import Derived.Lib.Index
import Derived.Lib.SplitLaws
import Derived.Test.YtcfgfkkhpdlhpaaGreatDoorQ47
set_option linter.all false
namespace Go.Proofs.YtcfgfkkhpdlhpaaGreatDoor
open Go.RowKit Go.Sort
set_option maxRecDepth 100000
set_option linter.unusedVariables false
theorem maxl_cell [MaxL] {C:Cx} {w:World} (hr:Rel C ⟨[],0,[]⟩ w w):w.cell? ⟨0,0,none⟩=some (.int .i64 MaxL.m):=by
 obtain⟨u,h1,h2⟩:=hr.gl 0 [.i .i64 MaxL.m] 0 (.i .i64 MaxL.m) rfl rfl
 have:=h2 C (fun _ _ _ h=>h)
 cases this
 exact hr.fxc _ _ _ h1
theorem args_ss [MaxL] {C:Cx} {a b:List UInt8} {l:List GV} {vs:Array Value} (hv:VRs C (.s a::.s b::l) vs.toList):∃us,vs.toList=.string ⟨a.toArray⟩::.string ⟨b.toArray⟩::us/\VRs C l us:=by
 obtain⟨u,vs',e,hv1,hv2⟩:=hv.cons_inv
 obtain⟨u2,vs2,e2,hv3,hv4⟩:=hv2.cons_inv
 cases hv1;cases hv3
 exact⟨vs2,by rw[e,e2],hv4⟩
theorem args_nil [MaxL] {C:Cx} {us:List Value} (hv:VRs C [] us):us=[]:=List.eq_nil_of_length_eq_zero (by simpa using hv.1)
theorem c_IndexL [MaxL] (s sep:List UInt8) (hs:s.length<4000000000):SC Tryz.prog 195 [.s s,.s sep] [] (.val (.i .i64 (Lib.index s sep))) []:=by
 refine SC.of_calls fun C w vs hr hv=>?_
 obtain⟨us,e,hu⟩:=args_ss hv
 obtain rfl:=args_nil hu
 obtain rfl:vs= #[_,_]:=by rw[<-Array.toArray_toList (xs:=vs),e]
 refine(Tryz.stringslite_Index ⟨s.toArray⟩ ⟨sep.toArray⟩ _ w (by simp[ByteArray.size];omega) (maxl_cell hr)).mono ?_
 rintro e w' ⟨rfl,rfl⟩
 exact⟨_,rfl,.refl _ _,.i _ _⟩
theorem SC.of_row [MaxL] {P:Program} {k:FuncId} {args:List GV} {xs:List (List UInt8)}
  (h:∀(C:Cx) (w:World) (vs:Array Value),Rel C ⟨[],0,[]⟩ w w->VRs C args vs.toList->∃(cs:Array Value) (T:TypeId) (c:Nat),xs.length<=c/\(∀(i:Nat) x,xs[i]?=some x->cs[i]?=some (.string ⟨x.toArray⟩))/\
   Calls P k vs w fun e w'=>e=.returned (.slice (some ⟨w.heap.size,0,none⟩) xs.length c)/\w'=w.alloc (.cells cs T)):SC P k args [] (.val (.sl .none (xs.map .s))) []:=by
 refine⟨rL _,fun C w vs hr hv=>?_,fun x hx=>by simp at hx⟩
 obtain⟨cs,T,c,hc,hx,hcall⟩:=h C w vs hr hv
 refine hcall.mono ?_
 rintro e w' ⟨rfl,rfl⟩
 obtain⟨D,hl,hF,hr'⟩:=hr.addFx (w':=w.alloc (.cells cs T)) rfl rfl rfl (by simp) (fun k hk=>by show(w.heap.push _)[k]?=_;rw[Array.getElem?_push_lt hk,Array.getElem?_eq_getElem hk]) (fun b o v=>b=w.heap.size/\cs[o]?=some v) (fun b o v hb=>by
  obtain⟨rfl,hb⟩:=hb
  exact⟨rL _,by rw[World.cell?_alloc_new];simpa using hb⟩)
 refine⟨D,hl,hr',_,rfl,.sl 1 w.heap.size 0 (fun j=>(cs[j]?).getD (.bool false)) (by simp) hc (.inr (.inl rfl)) (fun x hx=>?_) (fun i x j g h1 h2=>?_) (fun i x j g h1 h2=>?_) trivial⟩
 ·obtain⟨b,_,rfl⟩:=List.mem_map.1 hx;rfl
 all_goals
  rw[List.getElem?_map,Option.map_eq_some_iff] at h1
  obtain⟨b,hb,rfl⟩:=h1
  cases j with
  |succ j=>cases h2
  |zero=>
  cases h2
  have hi:(cs[i*1+0]?).getD (.bool false)=.string ⟨b.toArray⟩:=by simp[hx i b hb]
  first
   |exact hF _ _ _ ⟨rfl,by simp[hx i b hb]⟩
   |(rw[hi];exact .s _)
theorem c_SplitN [MaxL] (s sep:List UInt8) (n:Nat) (hs:s.length<4000000000) (h1:1<=sep.length) (hn:1<=n) (hn2:n<=4000000000):SC Tryz.prog 199 [.s s,.s sep,.i .i64 (n:Nat)] [] (.val (.sl .none ((Lib.splitK sep 0 (min n (s.length+1) - 1) s).map .s))) []:=by
 have hd:=Lib.splitB_data ⟨sep.toArray⟩ 0 (min n (s.length+1) - 1) ⟨s.toArray⟩
 simp only at hd
 refine SC.of_row fun C w vs hr hv=>?_
 obtain⟨us,e,hu⟩:=args_ss hv
 obtain⟨u,us',e2,hu1,hu2⟩:=hu.cons_inv
 obtain rfl:=args_nil hu2
 cases hu1
 subst e2
 obtain rfl:vs= #[_,_,_]:=by rw[<-Array.toArray_toList (xs:=vs),e]
 have hlen:=Lib.splitB_length_le ⟨sep.toArray⟩ 0 (min n (s.length+1) - 1) ⟨s.toArray⟩
 have hsz:(⟨s.toArray⟩:ByteArray).size=s.length:=by simp[ByteArray.size]
 have hc:=Tryz.strings_SplitN ⟨s.toArray⟩ ⟨sep.toArray⟩ n _ w (by rw[hsz];omega) (maxl_cell hr) (by simpa[ByteArray.size] using h1) hn (by omega)
 rw[hsz] at hc
 rw[<-hd]
 refine⟨_,_,min n (s.length+1),by rw[List.length_map];omega,fun i x hx=>?_,by rw[List.length_map];exact hc⟩
 rw[List.getElem?_map,Option.map_eq_some_iff] at hx
 obtain⟨b,hb,rfl⟩:=hx
 have hi:=(List.getElem?_eq_some_iff.1 hb).1
 simp only[Lib.cellsOf,List.getElem?_toArray]
 rw[List.getElem?_append_left (by simpa using hi),List.getElem?_map,hb]
 simp
theorem c_Split [MaxL] (s sep:List UInt8) (hs:s.length<4000000000) (h1:1<=sep.length):SC Tryz.prog 247 [.s s,.s sep] [] (.val (.sl .none ((Lib.split s sep).map .s))) []:=by
 have hd:(Lib.splitB ⟨sep.toArray⟩ 0 (Lib.countB ⟨s.toArray⟩ ⟨sep.toArray⟩) ⟨s.toArray⟩).map (·.data.toList)=Lib.split s sep:=Lib.splitB_data _ 0 _ _
 refine SC.of_row fun C w vs hr hv=>?_
 obtain⟨us,e,hu⟩:=args_ss hv
 obtain rfl:=args_nil hu
 obtain rfl:vs= #[_,_]:=by rw[<-Array.toArray_toList (xs:=vs),e]
 have hz:1<=(⟨sep.toArray⟩:ByteArray).size:=by simpa[ByteArray.size] using h1
 have hlen:=Lib.splitB_all ⟨sep.toArray⟩ hz 0 _ ⟨s.toArray⟩ rfl
 have hc:=Tryz.strings_Split ⟨s.toArray⟩ ⟨sep.toArray⟩ _ w (by simp[ByteArray.size];omega) (maxl_cell hr) hz
 rw[<-hd]
 refine⟨_,_,_,rL _,fun i x hx=>?_,by rw[List.length_map,hlen];exact hc⟩
 rw[List.getElem?_map,Option.map_eq_some_iff] at hx
 obtain⟨b,hb,rfl⟩:=hx
 rw[List.getElem?_toArray,List.getElem?_map,hb]
 simp
theorem fact_ccN [MaxL] {σ:GS} {r:Nat} (hlo:σ.lo=0) (ho:σ.objs[r]?=some (.box 92 [.o (.pointer none),.sl .full []])):
  Fact Tryz.prog (.fn 132) [.ptr r 0] σ (.val (.tup [])) (gset σ r (.box 92 [.ptr r 0,.sl .full []])):=by
 refine⟨.gset σ _ (by omega) ho (by simp),rfl,fun w0 C w vs hr hv=>?_⟩
 show Calls _ _ _ _ _
 obtain⟨v,rfl,hv1⟩:=hv.arr1
 obtain⟨h0,b,cs,hb,ho',hcs⟩:=hr.obj r _ ho
 obtain⟨u,u',rfl,hu,hu'⟩:=(BoxV.exact hcs rfl).arr2
 cases hv1 with
 |ptr hb'=>
 rw[hb] at hb';cases hb'
 cases hu
 have hc0:w.cell? ⟨b,0,none⟩=some (.pointer none):=by simp[World.cell?,ho']
 refine(Any.Builder_copyCheck_fresh lays_cc Tryz.Builder_Extra_156.toX72 b w hc0 (shape_of ho') (by simp[World.frozen?,ho'])).mono ?_
 rintro e w' ⟨rfl,rfl⟩
 refine⟨C,.refl C,Rel.setObj (r:=r) (b:=b) hr (List.getElem?_eq_some_iff.1 ho).1 hb _ ⟨h0,b,_,hb,heap_setCell_same w b 0 _ _ _ ho',?_⟩ rfl rfl rfl (by simp[World.setCell]) (fun k hk=>heap_setCell_other w _ k _ hk),_,rfl,.unit⟩
 exact VRs.box (.cons (.ptr hb) (.cons hu' .nil))
theorem fact_cc [MaxL] {σ:GS} {r:Nat} {x:GV} (ho:σ.objs[r]?=some (.box 92 [.ptr r 0,x])):
  Fact Tryz.prog (.fn 132) [.ptr r 0] σ (.val (.tup [])) σ:=by
 refine⟨.refl σ,rfl,fun w0 C w vs hr hv=>?_⟩
 show Calls _ _ _ _ _
 obtain⟨v,rfl,hv1⟩:=hv.arr1
 obtain⟨h0,b,cs,hb,ho',hcs⟩:=hr.obj r _ ho
 obtain⟨u,u',rfl,hu,hu'⟩:=(BoxV.exact hcs rfl).arr2
 cases hv1 with
 |ptr hb'=>
 rw[hb] at hb';cases hb'
 cases hu with
 |ptr hb'=>
 rw[hb] at hb';cases hb'
 have hc0:w.cell? ⟨b,0,none⟩=some (.pointer (some ⟨b,0,none⟩)):=by simp[World.cell?,ho']
 refine(Any.Builder_copyCheck_used lays_cc Tryz.Builder_Extra_156.toX72 b w hc0).mono ?_
 rintro e w' ⟨rfl,rfl⟩
 exact⟨C,.refl C,hr,_,rfl,.unit⟩
def gcc (args:List GV) (σ:GS):Option (GRes×GS):=
 match args with
 |[.ptr r 0]=>match σ.objs[r]? with
  |some (.box t [.o (.pointer none),.sl .full []])=>if σ.lo=0/\t=92 then some (.val (.tup []),gset σ r (.box t [.ptr r 0,.sl .full []])) else none
  |some (.box t [.ptr q 0,x])=>if q=r/\t=92 then some (.val (.tup []),σ) else none
  |_=>none
 |_=>none
theorem gcc_fact [MaxL] {args:List GV} {σ σ':GS} {r:GRes} (h:gcc args σ=some (r,σ')):Fact Tryz.prog (.fn 132) args σ r σ':=by
 unfold gcc at h
 split at h
 ·split at h
  ·rename_i ho
   split at h
   ·rename_i hc
    obtain⟨h1,rfl⟩:=hc
    cases h
    exact fact_ccN h1 ho
   ·cases h
  ·rename_i ho
   split at h
   ·rename_i hc
    obtain⟨rfl,rfl⟩:=hc
    cases h
    exact fact_cc ho
   ·cases h
  ·cases h
 ·cases h
def gix (args:List GV) (σ:GS):Option (GRes×GS):=
 match args with
 |[.s a,.s b]=>if a.length<4000000000 then some (.val (.i .i64 (Lib.index a b)),σ) else none
 |_=>none
def gsn (args:List GV) (σ:GS):Option (GRes×GS):=
 match args with
 |[.s a,.s b,.i .i64 (.ofNat n)]=>if a.length<4000000000/\1<=b.length/\1<=n/\n<=4000000000 then some (.val (.sl .none ((Lib.splitK b 0 (min n (a.length+1) - 1) a).map .s)),σ) else none
 |_=>none
def gsp (args:List GV) (σ:GS):Option (GRes×GS):=
 match args with
 |[.s a,.s b]=>if a.length<4000000000/\1<=b.length then some (.val (.sl .none ((Lib.split a b).map .s)),σ) else none
 |_=>none
def envS:GEnv:=fun k=>if k=132 then some gcc else if k=195 then some gix else if k=199 then some gsn else if k=247 then some gsp else none
theorem envS_ok [MaxL] (w0:World):EnvSound Tryz.prog w0 (fun _=>false) envS:=.of fun k f hf args σ r σ' h=>⟨(by
 unfold envS at hf
 split at hf
 ·rename_i hk
  cases hf;subst hk
  exact gcc_fact h
 ·split at hf
  ·rename_i hk
   cases hf;subst hk
   unfold gix at h
   split at h
   ·split at h
    ·rename_i hl
     cases h
     exact SC.factNil (c_IndexL _ _ hl) (fun _=>rfl) (fun _=>rfl) (wR _)
    ·cases h
   ·cases h
  ·split at hf
   ·rename_i hk
    cases hf;subst hk
    unfold gsn at h
    split at h
    ·split at h
     ·rename_i hl
      cases h
      exact SC.factNil (c_SplitN _ _ _ hl.1 hl.2.1 hl.2.2.1 hl.2.2.2) (fun _=>rfl) (fun e=>by show GRes.val (GV.ren e _)=_;rw[Cl.sl (ClL.mapOf (fun _=>Cl.s _) _)]) (wR _)
     ·cases h
    ·cases h
   ·split at hf
    ·rename_i hk
     cases hf;subst hk
     unfold gsp at h
     split at h
     ·split at h
      ·rename_i hl
       cases h
       exact SC.factNil (c_Split _ _ hl.1 hl.2) (fun _=>rfl) (fun e=>by show GRes.val (GV.ren e _)=_;rw[Cl.sl (ClL.mapOf (fun _=>Cl.s _) _)]) (wR _)
      ·cases h
     ·cases h
    ·cases hf),fun h9=>by cases h9⟩
theorem e_awake [MaxL]:SC Tryz.prog 11 [] [] (.val (.b true)) []:=SC.of_gcall mixed envS_ok (m:=40) (by kernel_rfl) (fun _=>rfl)
end Go.Proofs.YtcfgfkkhpdlhpaaGreatDoor
namespace Go.Proofs.YtcfgfkkhpdlhpaaGreatDoor
open Go.RowKit
set_option maxRecDepth 100000
set_option linter.unusedVariables false
theorem sum_mem {α:Type} {f:α->Nat} {l:List α} {x:α} (h:x∈l):f x<=(l.map f).sum:=by
 induction l with
 |nil=>cases h
 |cons y l ih=>
  rw[List.map_cons,List.sum_cons]
  rcases List.mem_cons.1 h with rfl|h
  ·omega
  ·have:=ih h;omega
theorem light_ok {s:Sch} (h:lightB s=true):schOk s/\∀r∈s.rc,r.check.length<1000000:=by
 unfold lightB at h
 simp only[Bool.and_eq_true,Bool.not_eq_true',Bool.or_eq_false_iff,decide_eq_false_iff_not,List.all_eq_true,decide_eq_true_eq] at h
 obtain⟨⟨⟨h1,h2⟩,h3⟩,h4,h5,h6⟩:=h
 have hk:∀r∈s.rc,r.check.length<=6000:=fun r hr=>by
  have h7:rcz r<=(s.rc.map rcz).sum:=sum_mem hr
  have h8:rcz r=r.name.length+r.area.length+r.via.length+r.check.length:=rfl
  omega
 refine⟨⟨⟨by unfold most;omega,by unfold most;omega,by unfold most;omega⟩,fun r hr=>?_,fun t ht=>?_⟩,fun r hr=>by have:=hk r hr;omega⟩
 ·have h8:=h4 r hr
  have h9:=hk r hr
  unfold recL itemsB namesB at h8
  simp only[Bool.and_eq_true,decide_eq_true_eq] at h8
  unfold most
  exact⟨by have:=h8.1.2;omega,by have:=h8.2.2;omega,by omega⟩
 ·have h8:=h5 t ht
  unfold setL namesB at h8
  simp only[Bool.and_eq_true,Bool.not_eq_true',Bool.or_eq_false_iff,decide_eq_false_iff_not,List.all_eq_true,decide_eq_true_eq] at h8
  unfold most
  exact⟨by have:=h8.1.1;omega,by have:=h8.1.2;omega,fun m hm=>by have:=(h8.2 m hm).2;omega⟩
theorem l_SchemaWrong [MaxL] (s:Sch) (ht:schT s):SC Tryz.prog 3 [schG s] [] (.val (.b true)) []:=by
 have hl:=l_Light s ht
 cases h:lightB s with
 |false=>
  rw[h] at hl
  refine gwS Tryz.func3 rfl ?_
  conv=>whnf
  refine cP hl ?_
  conv=>whnf
  refine cP e_awake ?_
  conv=>whnf
  exact fin 0
 |true=>
  rw[h] at hl
  obtain⟨hz,hc⟩:=light_ok h
  refine SC.of_gwp allM mixed Tryz.func3 rfl (bL rfl) (by first|exact rL _|simp) rfl ?_
  conv=>whnf
  refine cP hl ?_
  conv=>whnf
  refine cP (s_Wrong s hz) ?_
  conv=>whnf
  refine cP (r_Wrong s hz hc) ?_
  conv=>whnf
  refine GDraw.calm (by kernel_rfl) ?_
  conv=>whnf
  refine gY (show((schS s).1==(schS s).1)=true by simp) ?_
  conv=>whnf
  refine gY (show(((schS s).2.1:Int)==(schS s).2.1)=true by simp) ?_
  conv=>whnf
  refine gY (show((schS s).2.2==(schS s).2.2)=true by simp) ?_
  conv=>whnf
  refine cP (s_Valid s hz) ?_
  conv=>whnf
  refine cP (r_ValidS s hz hc) ?_
  conv=>whnf
  refine gY (show(((schS s).2.2==0)==((schS s).2.2==0))=true by simp) ?_
  conv=>whnf
  refine cP e_awake ?_
  conv=>whnf
  exact fin 0
end Go.Proofs.YtcfgfkkhpdlhpaaGreatDoor
namespace Go.Proofs.YtcfgfkkhpdlhpaaGreatDoor
open Go
theorem schemaWrong_holds:Rows.SchemaWrongCardSaid:=schemaWrong_card_of (schemaWrong_of fun s hs=>l_SchemaWrong s hs)
end Go.Proofs.YtcfgfkkhpdlhpaaGreatDoor
