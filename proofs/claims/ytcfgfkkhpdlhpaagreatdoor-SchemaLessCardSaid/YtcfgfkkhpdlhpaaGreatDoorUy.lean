/-
  A valid schema without its last set is valid where no record is via it: Wrong goes to one plain answer, and the law is shown of that.
-/
import Derived.Test.YtcfgfkkhpdlhpaaGreatDoorQ20
import Derived.Test.YtcfgfkkhpdlhpaaGreatDoorQ21
import Derived.Lib.Index
import Derived.Lib.SplitLaws
import Derived.Test.YtcfgfkkhpdlhpaaGreatDoorQ47
import Derived.Test.YtcfgfkkhpdlhpaaGreatDoorQ28
import Derived.Test.YtcfgfkkhpdlhpaaGreatDoorQ48
set_option linter.all false
namespace Go.Proofs.YtcfgfkkhpdlhpaaGreatDoor
open Go.RowKit
set_option maxRecDepth 100000
set_option linter.unusedVariables false
variable [Globals]
theorem EnvSound.of {P:Program} {w0:World} {M:FuncId->Bool} {Γ:GEnv} (h:∀k f,Γ k=some f->∀args σ r σ',f args σ=some (r,σ')->Fact P (.fn k) args σ r σ'/\(M k=true->σ'=σ)):EnvSound P w0 M Γ:=by
 refine⟨fun t args σ r σ' he=>?_,fun k hk args σ r σ' he=>?_⟩
 ·cases t with
  |yld q=>cases he
  |fn k=>
   simp only[envCall] at he
   cases hg:Γ k with
   |none=>rw[hg] at he;cases he
   |some f=>
    rw[hg] at he
    obtain⟨hf,_⟩:=h k f hg args σ r σ' he
    exact⟨hf.keep,hf.ds,fun C w vs hr hv=>hf.calls w0 C w vs hr hv⟩
 ·simp only[envCall] at he
  cases hg:Γ k with
  |none=>rw[hg] at he;cases he
  |some f=>
   rw[hg] at he
   exact(h k f hg args σ r σ' he).2 hk
theorem SC.factNil {P:Program} {k:FuncId} {args args':List GV} {r:GRes} {σ:GS} (h:SC P k args [] r []) (ha:ClL args) (hr:∀e,r.ren e=r) (hw:Wks args' args):Fact P (.fn k) args' σ r σ:=by
 have hf:=h.fact (σ:={σ with lo:=0}) (args':=args') [] Lies.nil rfl (by rw[ha];exact hw)
 rw[hr] at hf
 simp only[putBack_nil] at hf
 exact⟨Keep.refl _,rfl,fun w0 C w vs hR hv=>(hf.calls w0 C w vs ⟨hR.below,hR.fxc,hR.obj,hR.dom,hR.new,hR.inj,hR.sepB,hR.sepO,hR.fxn,hR.gl,hR.gs⟩ hv).mono fun e w' ⟨D,h1,h2,h3⟩=>⟨D,h1,⟨h2.below,h2.fxc,h2.obj,h2.dom,h2.new,h2.inj,h2.sepB,h2.sepO,h2.fxn,h2.gl,h2.gs⟩,h3⟩⟩
theorem SC.of_gcall {P:Program} (hm:P.follows .mixedOrders=true) {M:FuncId->Bool} {Γ:GEnv} (hΓ:∀w0,EnvSound P w0 M Γ) {m:Nat} {k:FuncId} {args:List GV} {r:GRes}
  (h:(gcall P M Γ m (.fn k) args ⟨[],0,[]⟩).map (·.1)=some r) (hr:∀e,r.ren e=r):SC P k args [] r []:=by
 obtain⟨⟨r1,σ'⟩,h1,rfl⟩:=Option.map_eq_some_iff.1 h
 refine⟨rL _,fun C w vs hR hv=>?_,fun x hx=>by cases hx⟩
 refine Calls.mono (((gcall_sound (w0:=w) hm (hΓ w) m).1 (.fn k) args _ _ _ h1).2.2 C w vs hR hv) ?_
 rintro e w' ⟨D,hl,hrD,he⟩
 refine⟨D.pull (emb [] σ'.objs.length),?_,hrD.pull Lies.nil,?_⟩
 ·refine⟨hl.fx,fun i b hb=>?_,fun i I hI=>?_,hl.hd,hl.fix⟩
  ·rw[(hR.dom i (zL _)).1] at hb;cases hb
  ·rw[(hR.dom i (zL _)).2] at hI;cases hI
 ·have he2:ERel D (r1.ren (emb [] σ'.objs.length)) e:=by rw[hr];exact he
  exact he2.pull (D:=D) (f:=emb [] σ'.objs.length) (E:=D.pull (emb [] σ'.objs.length)) (fun _ _ _ h=>h) (fun _=>rfl) (fun _=>rfl)
end Go.Proofs.YtcfgfkkhpdlhpaaGreatDoor
namespace Go.Proofs.YtcfgfkkhpdlhpaaGreatDoor
open Go.RowKit Go.Sort
set_option maxRecDepth 100000
set_option linter.unusedVariables false
theorem maxl_cell [MaxL] {C:Cx} {w:World} (hr:Rel C ⟨[],0,[]⟩ w w):w.cell? ⟨0,0,none⟩=some (.int .i64 MaxL.m):=by
 obtain⟨u,h1,h2⟩:=hr.gl 0 [.i .i64 MaxL.m] 0 (.i .i64 MaxL.m) rfl rfl
 have:=h2 C (fun _ _ _ h=>h)
 cases this
 exact hr.fxc _ _ _ h1
theorem args_ss [MaxL] {C:Cx} {a b:List UInt8} {l:List GV} {vs:Array Value} (hv:VRs C (.s a::.s b::l) vs.toList):∃us,vs.toList=.string ⟨a.toArray⟩::.string ⟨b.toArray⟩::us/\VRs C l us:=by
 obtain⟨u,vs',e,hv1,hv2⟩:=hv.cons_inv
 obtain⟨u2,vs2,e2,hv3,hv4⟩:=hv2.cons_inv
 cases hv1;cases hv3
 exact⟨vs2,by rw[e,e2],hv4⟩
theorem args_nil [MaxL] {C:Cx} {us:List Value} (hv:VRs C [] us):us=[]:=List.eq_nil_of_length_eq_zero (by simpa using hv.1)
theorem c_IndexL [MaxL] (s sep:List UInt8) (hs:s.length<4000000000):SC Tryz.prog 195 [.s s,.s sep] [] (.val (.i .i64 (Lib.index s sep))) []:=by
 refine SC.of_calls fun C w vs hr hv=>?_
 obtain⟨us,e,hu⟩:=args_ss hv
 obtain rfl:=args_nil hu
 obtain rfl:vs= #[_,_]:=by rw[<-Array.toArray_toList (xs:=vs),e]
 refine(Tryz.stringslite_Index ⟨s.toArray⟩ ⟨sep.toArray⟩ _ w (by simp[ByteArray.size];omega) (maxl_cell hr)).mono ?_
 rintro e w' ⟨rfl,rfl⟩
 exact⟨_,rfl,.refl _ _,.i _ _⟩
theorem SC.of_row [MaxL] {P:Program} {k:FuncId} {args:List GV} {xs:List (List UInt8)}
  (h:∀(C:Cx) (w:World) (vs:Array Value),Rel C ⟨[],0,[]⟩ w w->VRs C args vs.toList->∃(cs:Array Value) (T:TypeId) (c:Nat),xs.length<=c/\(∀(i:Nat) x,xs[i]?=some x->cs[i]?=some (.string ⟨x.toArray⟩))/\
   Calls P k vs w fun e w'=>e=.returned (.slice (some ⟨w.heap.size,0,none⟩) xs.length c)/\w'=w.alloc (.cells cs T)):SC P k args [] (.val (.sl .none (xs.map .s))) []:=by
 refine⟨rL _,fun C w vs hr hv=>?_,fun x hx=>by simp at hx⟩
 obtain⟨cs,T,c,hc,hx,hcall⟩:=h C w vs hr hv
 refine hcall.mono ?_
 rintro e w' ⟨rfl,rfl⟩
 obtain⟨D,hl,hF,hr'⟩:=hr.addFx (w':=w.alloc (.cells cs T)) rfl rfl rfl (by simp) (fun k hk=>by show(w.heap.push _)[k]?=_;rw[Array.getElem?_push_lt hk,Array.getElem?_eq_getElem hk]) (fun b o v=>b=w.heap.size/\cs[o]?=some v) (fun b o v hb=>by
  obtain⟨rfl,hb⟩:=hb
  exact⟨rL _,by rw[World.cell?_alloc_new];simpa using hb⟩)
 refine⟨D,hl,hr',_,rfl,.sl 1 w.heap.size 0 (fun j=>(cs[j]?).getD (.bool false)) (by simp) hc (.inr (.inl rfl)) (fun x hx=>?_) (fun i x j g h1 h2=>?_) (fun i x j g h1 h2=>?_) trivial⟩
 ·obtain⟨b,_,rfl⟩:=List.mem_map.1 hx;rfl
 all_goals
  rw[List.getElem?_map,Option.map_eq_some_iff] at h1
  obtain⟨b,hb,rfl⟩:=h1
  cases j with
  |succ j=>cases h2
  |zero=>
  cases h2
  have hi:(cs[i*1+0]?).getD (.bool false)=.string ⟨b.toArray⟩:=by simp[hx i b hb]
  first
   |exact hF _ _ _ ⟨rfl,by simp[hx i b hb]⟩
   |(rw[hi];exact .s _)
theorem c_SplitN [MaxL] (s sep:List UInt8) (n:Nat) (hs:s.length<4000000000) (h1:1<=sep.length) (hn:1<=n) (hn2:n<=4000000000):SC Tryz.prog 199 [.s s,.s sep,.i .i64 (n:Nat)] [] (.val (.sl .none ((Lib.splitK sep 0 (min n (s.length+1) - 1) s).map .s))) []:=by
 have hd:=Lib.splitB_data ⟨sep.toArray⟩ 0 (min n (s.length+1) - 1) ⟨s.toArray⟩
 simp only at hd
 refine SC.of_row fun C w vs hr hv=>?_
 obtain⟨us,e,hu⟩:=args_ss hv
 obtain⟨u,us',e2,hu1,hu2⟩:=hu.cons_inv
 obtain rfl:=args_nil hu2
 cases hu1
 subst e2
 obtain rfl:vs= #[_,_,_]:=by rw[<-Array.toArray_toList (xs:=vs),e]
 have hlen:=Lib.splitB_length_le ⟨sep.toArray⟩ 0 (min n (s.length+1) - 1) ⟨s.toArray⟩
 have hsz:(⟨s.toArray⟩:ByteArray).size=s.length:=by simp[ByteArray.size]
 have hc:=Tryz.strings_SplitN ⟨s.toArray⟩ ⟨sep.toArray⟩ n _ w (by rw[hsz];omega) (maxl_cell hr) (by simpa[ByteArray.size] using h1) hn (by omega)
 rw[hsz] at hc
 rw[<-hd]
 refine⟨_,_,min n (s.length+1),by rw[List.length_map];omega,fun i x hx=>?_,by rw[List.length_map];exact hc⟩
 rw[List.getElem?_map,Option.map_eq_some_iff] at hx
 obtain⟨b,hb,rfl⟩:=hx
 have hi:=(List.getElem?_eq_some_iff.1 hb).1
 simp only[Lib.cellsOf,List.getElem?_toArray]
 rw[List.getElem?_append_left (by simpa using hi),List.getElem?_map,hb]
 simp
theorem c_Split [MaxL] (s sep:List UInt8) (hs:s.length<4000000000) (h1:1<=sep.length):SC Tryz.prog 247 [.s s,.s sep] [] (.val (.sl .none ((Lib.split s sep).map .s))) []:=by
 have hd:(Lib.splitB ⟨sep.toArray⟩ 0 (Lib.countB ⟨s.toArray⟩ ⟨sep.toArray⟩) ⟨s.toArray⟩).map (·.data.toList)=Lib.split s sep:=Lib.splitB_data _ 0 _ _
 refine SC.of_row fun C w vs hr hv=>?_
 obtain⟨us,e,hu⟩:=args_ss hv
 obtain rfl:=args_nil hu
 obtain rfl:vs= #[_,_]:=by rw[<-Array.toArray_toList (xs:=vs),e]
 have hz:1<=(⟨sep.toArray⟩:ByteArray).size:=by simpa[ByteArray.size] using h1
 have hlen:=Lib.splitB_all ⟨sep.toArray⟩ hz 0 _ ⟨s.toArray⟩ rfl
 have hc:=Tryz.strings_Split ⟨s.toArray⟩ ⟨sep.toArray⟩ _ w (by simp[ByteArray.size];omega) (maxl_cell hr) hz
 rw[<-hd]
 refine⟨_,_,_,rL _,fun i x hx=>?_,by rw[List.length_map,hlen];exact hc⟩
 rw[List.getElem?_map,Option.map_eq_some_iff] at hx
 obtain⟨b,hb,rfl⟩:=hx
 rw[List.getElem?_toArray,List.getElem?_map,hb]
 simp
theorem fact_ccN [MaxL] {σ:GS} {r:Nat} (hlo:σ.lo=0) (ho:σ.objs[r]?=some (.box 92 [.o (.pointer none),.sl .full []])):
  Fact Tryz.prog (.fn 132) [.ptr r 0] σ (.val (.tup [])) (gset σ r (.box 92 [.ptr r 0,.sl .full []])):=by
 refine⟨.gset σ _ (by omega) ho (by simp),rfl,fun w0 C w vs hr hv=>?_⟩
 show Calls _ _ _ _ _
 obtain⟨v,rfl,hv1⟩:=hv.arr1
 obtain⟨h0,b,cs,hb,ho',hcs⟩:=hr.obj r _ ho
 obtain⟨u,u',rfl,hu,hu'⟩:=(BoxV.exact hcs rfl).arr2
 cases hv1 with
 |ptr hb'=>
 rw[hb] at hb';cases hb'
 cases hu
 have hc0:w.cell? ⟨b,0,none⟩=some (.pointer none):=by simp[World.cell?,ho']
 refine(Any.Builder_copyCheck_fresh lays_cc Tryz.Builder_Extra_156.toX72 b w hc0 (shape_of ho') (by simp[World.frozen?,ho'])).mono ?_
 rintro e w' ⟨rfl,rfl⟩
 refine⟨C,.refl C,Rel.setObj (r:=r) (b:=b) hr (List.getElem?_eq_some_iff.1 ho).1 hb _ ⟨h0,b,_,hb,heap_setCell_same w b 0 _ _ _ ho',?_⟩ rfl rfl rfl (by simp[World.setCell]) (fun k hk=>heap_setCell_other w _ k _ hk),_,rfl,.unit⟩
 exact VRs.box (.cons (.ptr hb) (.cons hu' .nil))
theorem fact_cc [MaxL] {σ:GS} {r:Nat} {x:GV} (ho:σ.objs[r]?=some (.box 92 [.ptr r 0,x])):
  Fact Tryz.prog (.fn 132) [.ptr r 0] σ (.val (.tup [])) σ:=by
 refine⟨.refl σ,rfl,fun w0 C w vs hr hv=>?_⟩
 show Calls _ _ _ _ _
 obtain⟨v,rfl,hv1⟩:=hv.arr1
 obtain⟨h0,b,cs,hb,ho',hcs⟩:=hr.obj r _ ho
 obtain⟨u,u',rfl,hu,hu'⟩:=(BoxV.exact hcs rfl).arr2
 cases hv1 with
 |ptr hb'=>
 rw[hb] at hb';cases hb'
 cases hu with
 |ptr hb'=>
 rw[hb] at hb';cases hb'
 have hc0:w.cell? ⟨b,0,none⟩=some (.pointer (some ⟨b,0,none⟩)):=by simp[World.cell?,ho']
 refine(Any.Builder_copyCheck_used lays_cc Tryz.Builder_Extra_156.toX72 b w hc0).mono ?_
 rintro e w' ⟨rfl,rfl⟩
 exact⟨C,.refl C,hr,_,rfl,.unit⟩
def gcc (args:List GV) (σ:GS):Option (GRes×GS):=
 match args with
 |[.ptr r 0]=>match σ.objs[r]? with
  |some (.box t [.o (.pointer none),.sl .full []])=>if σ.lo=0/\t=92 then some (.val (.tup []),gset σ r (.box t [.ptr r 0,.sl .full []])) else none
  |some (.box t [.ptr q 0,x])=>if q=r/\t=92 then some (.val (.tup []),σ) else none
  |_=>none
 |_=>none
theorem gcc_fact [MaxL] {args:List GV} {σ σ':GS} {r:GRes} (h:gcc args σ=some (r,σ')):Fact Tryz.prog (.fn 132) args σ r σ':=by
 unfold gcc at h
 split at h
 ·split at h
  ·rename_i ho
   split at h
   ·rename_i hc
    obtain⟨h1,rfl⟩:=hc
    cases h
    exact fact_ccN h1 ho
   ·cases h
  ·rename_i ho
   split at h
   ·rename_i hc
    obtain⟨rfl,rfl⟩:=hc
    cases h
    exact fact_cc ho
   ·cases h
  ·cases h
 ·cases h
def gix (args:List GV) (σ:GS):Option (GRes×GS):=
 match args with
 |[.s a,.s b]=>if a.length<4000000000 then some (.val (.i .i64 (Lib.index a b)),σ) else none
 |_=>none
def gsn (args:List GV) (σ:GS):Option (GRes×GS):=
 match args with
 |[.s a,.s b,.i .i64 (.ofNat n)]=>if a.length<4000000000/\1<=b.length/\1<=n/\n<=4000000000 then some (.val (.sl .none ((Lib.splitK b 0 (min n (a.length+1) - 1) a).map .s)),σ) else none
 |_=>none
def gsp (args:List GV) (σ:GS):Option (GRes×GS):=
 match args with
 |[.s a,.s b]=>if a.length<4000000000/\1<=b.length then some (.val (.sl .none ((Lib.split a b).map .s)),σ) else none
 |_=>none
def envS:GEnv:=fun k=>if k=132 then some gcc else if k=195 then some gix else if k=199 then some gsn else if k=247 then some gsp else none
theorem envS_ok [MaxL] (w0:World):EnvSound Tryz.prog w0 (fun _=>false) envS:=.of fun k f hf args σ r σ' h=>⟨(by
 unfold envS at hf
 split at hf
 ·rename_i hk
  cases hf;subst hk
  exact gcc_fact h
 ·split at hf
  ·rename_i hk
   cases hf;subst hk
   unfold gix at h
   split at h
   ·split at h
    ·rename_i hl
     cases h
     exact SC.factNil (c_IndexL _ _ hl) (fun _=>rfl) (fun _=>rfl) (wR _)
    ·cases h
   ·cases h
  ·split at hf
   ·rename_i hk
    cases hf;subst hk
    unfold gsn at h
    split at h
    ·split at h
     ·rename_i hl
      cases h
      exact SC.factNil (c_SplitN _ _ _ hl.1 hl.2.1 hl.2.2.1 hl.2.2.2) (fun _=>rfl) (fun e=>by show GRes.val (GV.ren e _)=_;rw[Cl.sl (ClL.mapOf (fun _=>Cl.s _) _)]) (wR _)
     ·cases h
    ·cases h
   ·split at hf
    ·rename_i hk
     cases hf;subst hk
     unfold gsp at h
     split at h
     ·split at h
      ·rename_i hl
       cases h
       exact SC.factNil (c_Split _ _ hl.1 hl.2) (fun _=>rfl) (fun e=>by show GRes.val (GV.ren e _)=_;rw[Cl.sl (ClL.mapOf (fun _=>Cl.s _) _)]) (wR _)
      ·cases h
     ·cases h
    ·cases hf),fun h9=>by cases h9⟩
theorem e_awake [MaxL]:SC Tryz.prog 11 [] [] (.val (.b true)) []:=SC.of_gcall mixed envS_ok (m:=40) (by kernel_rfl) (fun _=>rfl)
end Go.Proofs.YtcfgfkkhpdlhpaaGreatDoor
namespace Go.Proofs.YtcfgfkkhpdlhpaaGreatDoor
open Go.RowKit
set_option maxRecDepth 100000
set_option linter.unusedVariables false
theorem sum_mem {α:Type} {f:α->Nat} {l:List α} {x:α} (h:x∈l):f x<=(l.map f).sum:=by
 induction l with
 |nil=>cases h
 |cons y l ih=>
  rw[List.map_cons,List.sum_cons]
  rcases List.mem_cons.1 h with rfl|h
  ·omega
  ·have:=ih h;omega
theorem light_ok {s:Sch} (h:lightB s=true):schOk s/\∀r∈s.rc,r.check.length<1000000:=by
 unfold lightB at h
 simp only[Bool.and_eq_true,Bool.not_eq_true',Bool.or_eq_false_iff,decide_eq_false_iff_not,List.all_eq_true,decide_eq_true_eq] at h
 obtain⟨⟨⟨h1,h2⟩,h3⟩,h4,h5,h6⟩:=h
 have hk:∀r∈s.rc,r.check.length<=6000:=fun r hr=>by
  have h7:rcz r<=(s.rc.map rcz).sum:=sum_mem hr
  have h8:rcz r=r.name.length+r.area.length+r.via.length+r.check.length:=rfl
  omega
 refine⟨⟨⟨by unfold most;omega,by unfold most;omega,by unfold most;omega⟩,fun r hr=>?_,fun t ht=>?_⟩,fun r hr=>by have:=hk r hr;omega⟩
 ·have h8:=h4 r hr
  have h9:=hk r hr
  unfold recL itemsB namesB at h8
  simp only[Bool.and_eq_true,decide_eq_true_eq] at h8
  unfold most
  exact⟨by have:=h8.1.2;omega,by have:=h8.2.2;omega,by omega⟩
 ·have h8:=h5 t ht
  unfold setL namesB at h8
  simp only[Bool.and_eq_true,Bool.not_eq_true',Bool.or_eq_false_iff,decide_eq_false_iff_not,List.all_eq_true,decide_eq_true_eq] at h8
  unfold most
  exact⟨by have:=h8.1.1;omega,by have:=h8.1.2;omega,fun m hm=>by have:=(h8.2 m hm).2;omega⟩
end Go.Proofs.YtcfgfkkhpdlhpaaGreatDoor
namespace Go.Proofs.YtcfgfkkhpdlhpaaGreatDoor
open Go.RowKit
set_option linter.unusedVariables false
theorem firstX_eq {α:Type} {f g:Nat->α->Int} {n:Nat} {l:List α} (h:∀j z,l[j]?=some z->f (n+j) z=g (n+j) z):firstX f n l=firstX g n l:=by
 induction l generalizing n with
 |nil=>rfl
 |cons x l ih=>
  unfold firstX
  rw[show f n x=g n x from h 0 x rfl,ih (n:=n+1) fun j z hz=>by rw[show n+1+j=n+(j+1) by omega];exact h (j+1) z hz]
theorem firstX_front {α:Type} {f:Nat->α->Int} {n:Nat} {l r:List α} (h:firstX f n (l++r)=none):firstX f n l=none:=firstX_no fun j z hz=>firstX_all h j z (by
 have hj:j<l.length:=(List.getElem?_eq_some_iff.1 hz).1
 rw[List.getElem?_append_left hj];exact hz)
theorem firstX_fst {α:Type} {f:Nat->α->Int} {n:Nat} {l:List α} {p:Nat×Int} (h:firstX f n l=some p):p.2≠0:=by
 induction l generalizing n with
 |nil=>cases h
 |cons x l ih=>
  unfold firstX at h
  by_cases h0:f n x=0
  ·rw[if_pos h0] at h;exact ih h
  ·rw[if_neg h0] at h;cases h;exact h0
section
variable {known : List Itm → Bool} {canon : By → Bool} {check : List Itm → By → Int}
theorem schW_ok {s:Sch} (h:(schW known canon check s).2.2=0):inB s.ar.length 1 6=true/\firstX (fun i a=>areaE ((areaN s).take i) a) 0 s.ar=none/\inB s.rc.length 1 10=true/\
  firstX (fun i r=>recE known canon check s (areaN s++(recN s).take i) r) 0 s.rc=none/\¬s.st.length>60/\firstX (fun i t=>setE s (areaN s++(recN s++(setN s).take i)) t) 0 s.st=none:=by
 unfold schW at h
 cases h1:inB s.ar.length 1 6 with
 |false=>rw[h1] at h;exact absurd (show(4:Int)=0 from h) (by decide)
 |true=>
  rw[h1,if_neg (by simp)] at h
  cases h2:firstX (fun i a=>areaE ((areaN s).take i) a) 0 s.ar with
  |some p=>rw[h2] at h;exact absurd h (firstX_fst h2)
  |none=>
   rw[h2] at h
   simp only[] at h
   unfold recsW at h
   cases h3:inB s.rc.length 1 10 with
   |false=>rw[h3] at h;exact absurd (show(4:Int)=0 from h) (by decide)
   |true=>
    rw[h3,if_neg (by simp)] at h
    cases h4:firstX (fun i r=>recE known canon check s (areaN s++(recN s).take i) r) 0 s.rc with
    |some p=>rw[h4] at h;exact absurd h (firstX_fst h4)
    |none=>
     rw[h4] at h
     simp only[] at h
     unfold setsW at h
     by_cases h5:s.st.length>60
     ·rw[if_pos h5] at h;exact absurd h (by decide)
     ·rw[if_neg h5] at h
      cases h6:firstX (fun i t=>setE s (areaN s++(recN s++(setN s).take i)) t) 0 s.st with
      |some p=>rw[h6] at h;exact absurd h (firstX_fst h6)
      |none=>exact⟨rfl,rfl,rfl,rfl,h5,rfl⟩
theorem schW_of {s:Sch} (h1:inB s.ar.length 1 6=true) (h2:firstX (fun i a=>areaE ((areaN s).take i) a) 0 s.ar=none) (h3:inB s.rc.length 1 10=true)
  (h4:firstX (fun i r=>recE known canon check s (areaN s++(recN s).take i) r) 0 s.rc=none) (h5:¬s.st.length>60) (h6:firstX (fun i t=>setE s (areaN s++(recN s++(setN s).take i)) t) 0 s.st=none):
  schW known canon check s=([],0,0):=by
 unfold schW
 rw[h1,if_neg (by simp),h2]
 simp only[]
 unfold recsW
 rw[h3,if_neg (by simp),h4]
 simp only[]
 unfold setsW
 rw[if_neg h5,h6]
theorem less_ok {s:Sch} {l:List Sy} {t:Sy} (hs:s.st=l++[t]) (h:(schW known canon check s).2.2=0) (hv:∀r∈s.rc,r.via=t.name->r.place≠3):schW known canon check ⟨s.ar,s.rc,l⟩=([],0,0):=by
 obtain⟨h1,h2,h3,h4,h5,h6⟩:=schW_ok h
 refine schW_of h1 h2 h3 ?_ (by rw[hs,List.length_append] at h5;show¬l.length>60;omega) ?_
 ·refine(firstX_eq (g:=fun i r=>recE known canon check s (areaN s++(recN s).take i) r) fun j r hr=>?_).trans h4
  have hvr:=hv r (List.mem_of_getElem? hr)
  have e:viaE ⟨s.ar,s.rc,l⟩ r=viaE s r:=by
   unfold viaE
   by_cases hp:r.place=3
   ·rw[if_pos hp,if_pos hp]
    have hne:(t.name==r.via)=false:=by
     cases hq:t.name==r.via with
     |false=>rfl
     |true=>exact absurd hp (hvr (eq_of_beq hq).symm)
    show stopE (match l.find? _ with|none=>true|some t=>_) 5 0=_
    rw[hs,List.find?_append]
    cases hf:l.find? (·.name==r.via) with
    |some u=>rfl
    |none=>simp[hne]
   ·rw[if_neg hp,if_neg hp]
  show nameE _ _ (stopE _ _ (stopE _ _ (orE _ (orE (viaE ⟨s.ar,s.rc,l⟩ r) _))))=_
  rw[e];rfl
 ·have h7:firstX (fun i t=>setE s (areaN s++(recN s++(setN s).take i)) t) 0 l=none:=by rw[hs] at h6;exact firstX_front h6
  refine(firstX_eq fun j u hu=>?_).trans h7
  have hj:j<l.length:=(List.getElem?_eq_some_iff.1 hu).1
  have e:(setN ⟨s.ar,s.rc,l⟩).take (0+j)=(setN s).take (0+j):=by
   unfold setN
   rw[hs,List.map_append,List.take_append_of_le_length (by rw[List.length_map];omega)]
  show setE s (areaN s++(recN s++(setN ⟨s.ar,s.rc,l⟩).take (0+j))) u=_
  rw[e]
end
end Go.Proofs.YtcfgfkkhpdlhpaaGreatDoor
namespace Go.Proofs.YtcfgfkkhpdlhpaaGreatDoor
open Go.RowKit
set_option maxRecDepth 100000
set_option linter.unusedVariables false
theorem ls_snoc {α:Type} {l:List α} (h:l.length≠0):∃a x,l=a++[x]:=⟨l.dropLast,l.getLast (fun e=>h (by rw[e];rfl)),(List.dropLast_concat_getLast _).symm⟩
theorem sys_ok [MaxL] (l:List Sy):(sysG l).all (fun x=>x.cells.length==7)=true:=by
 rw[List.all_eq_true];intro x hx
 obtain⟨b,_,rfl⟩:=List.mem_map.1 hx
 rfl
theorem sys_el [MaxL] (l:List Sy):(sysG l).all (okEl 7)=true:=by
 rw[List.all_eq_true];intro x hx
 obtain⟨b,_,rfl⟩:=List.mem_map.1 hx
 rfl
theorem tk_imp {α:Type} {p q:α->Prop} {l:List α} {i:Nat} {y:α} (hy:l[i]?=some y) (hp:p y->q y) (h:∀z∈l.take i,p z->q z):∀z∈l.take (i+1),p z->q z:=fun z hz=>by
 rw[List.take_add_one,hy] at hz
 rcases List.mem_append.1 hz with hz|hz
 ·exact h z hz
 ·rw[List.mem_singleton.1 hz];exact hp
theorem l_SchemaLess [MaxL] (s:Sch) (ht:schT s):SC Tryz.prog 4 [schG s] [] (.val (.b true)) []:=by
 have hl:=l_Light s ht
 cases h:lightB s with
 |false=>
  rw[h] at hl
  refine gwS Tryz.func4 rfl ?_
  conv=>whnf
  refine cP hl ?_
  conv=>whnf
  refine cP e_awake ?_
  conv=>whnf
  exact fin 0
 |true=>
  rw[h] at hl
  obtain⟨hz,hc⟩:=light_ok h
  refine SC.of_gwp allM mixed Tryz.func4 rfl (bL rfl) (by first|exact rL _|simp) rfl ?_
  conv=>whnf
  refine cP hl ?_
  conv=>whnf
  have hr:=r_ValidS s hz hc
  cases hv:((schS s).2.2==0) with
  |false=>
   rw[hv] at hr
   refine cP hr ?_
   conv=>whnf
   refine cP e_awake ?_
   conv=>whnf
   exact fin 0
  |true=>
   rw[hv] at hr
   refine cP hr ?_
   conv=>whnf
   have lt:(sysG s.st).length=s.st.length:=mapG_len _ _
   have lr:(rcsG s.rc).length=s.rc.length:=mapG_len _ _
   refine GIf.mk (fun h1=>?_) (fun h1=>?_)<;>rw[lt] at h1<;>conv=>whnf
   ·refine cP e_awake ?_
    conv=>whnf
    exact fin 0
   have hb:s.rc.length<4611686018427387904:=hz.1.2.1
   have h1':s.st.length≠0:=fun e=>by have:=of_decide_eq_false h1;omega
   refine(ls_snoc h1').elim fun l hl2=>hl2.elim fun t hs=>?_
   have hn:s.st.length=l.length+1:=by rw[hs,List.length_append];rfl
   have ee:IntKind.i64.wrap (((sysG s.st).length:Int) - 1)=((l.length:Nat):Int):=by rw[lt,hn,wrap_in (by have:=hz.1.2.2;unfold most at this;omega) (by have:=hz.1.2.2;unfold most at this;omega)];omega
   refine GLoop.rng 1 s.rc.length (fun i _=>∀r∈s.rc.take i,r.via=t.name->r.place≠3) (fun i _=>[(1,.ptr 0 0),(3,.i .i64 (l.length:Nat)),(4,.i .i64 (i:Nat))]) (fun _ (_:Unit)=>[.box 26 (schC s)]) [] () (by simp) (fun i _ φ0 hi hne=>?_) (hφ:=⟨rfl,congrArg _ ee,rfl,trivial⟩)
   conv=>whnf
   refine GIf.mk (fun h=>?_) (fun h=>?_)<;>rw[lr] at h<;>conv=>whnf
   ·have hlt:i<s.rc.length:=by have:=of_decide_eq_true h;omega
    refine(ex_at hlt).elim fun y hy=>?_
    have hst:s.st[l.length]?=some t:=by rw[hs,List.getElem?_append_right (rL _),Nat.sub_self];rfl
    refine GDraw.calm (by kernel_rfl) ?_
    conv=>whnf
    refine ix (map_at hy) ⟨rfl,?_⟩
    conv=>whnf
    refine ix (map_at hst) ⟨rfl,?_⟩
    conv=>whnf
    refine GIf.mk (fun h2=>?_) (fun h2=>?_)<;>conv=>whnf
    ·refine ix (map_at hy) ⟨rfl,?_⟩
     conv=>whnf
     refine GIf.mk (fun h3=>?_) (fun h3=>?_)<;>conv=>whnf
     ·refine cP e_awake ?_
      conv=>whnf
      exact fin 0
     ·exact nx () hlt ⟨hlt,tk_imp hy (fun _ hp=>by have:=of_decide_eq_false h3;omega) hne⟩
    ·exact nx () hlt ⟨hlt,tk_imp hy (fun hp=>absurd hp (ne_of_beq_false h2)) hne⟩
   refine slTo (zs:=sysG l) (sys_ok _) (by rw[lt,hn];omega) ?_ (by rw[hs];show((l++[t]).map syG).take l.length=l.map syG;rw[List.map_append,List.take_left' (by rw[List.length_map])])
   conv=>whnf
   have hv2:(schS ⟨s.ar,s.rc,l⟩).2.2=0:=congrArg (fun p:By×Nat×Int=>p.2.2) (less_ok hs (eq_of_beq hv) (by rw[List.take_of_length_le (by have:=of_decide_eq_false h;omega)] at hne;exact hne))
   have hzv:schOk ⟨s.ar,s.rc,l⟩:=⟨⟨hz.1.1,hz.1.2.1,by have:=hz.1.2.2;show l.length<most;omega⟩,hz.2.1,fun u hu=>hz.2.2 u (by rw[hs];exact List.mem_append_left _ hu)⟩
   have hval:=s_Valid ⟨s.ar,s.rc,l⟩ hzv
   rw[hv2] at hval
   refine GIf.mk (fun he=>?_) (fun he=>?_)<;>conv=>whnf
   ·refine st ?_
    conv=>whnf
    refine cP hval ?_ ⟨Wks.agg ⟨Wk.refl _,Wk.refl _,?_,trivial⟩,trivial⟩
    ·conv=>whnf
     refine cP e_awake ?_
     conv=>whnf
     exact fin 0
    ·cases l with
     |nil=>exact Wk.sl _ _
     |cons x l=>cases he
   refine⟨⟨sys_el l,rfl,?_⟩,_,_,⟨rfl,rfl⟩,?_⟩
   ·show(0+(sysG l).length<=lim)
    have:=(schW_ok (s:=s) (eq_of_beq hv)).2.2.2.2.1;unfold lim;unfold sysG;rw[mapG_len];omega
   conv=>whnf
   refine⟨⟨zL _,rfl,.inl ⟨rfl,rfl⟩⟩,?_⟩
   conv=>whnf
   refine st ?_
   conv=>whnf
   refine cP hval ?_ ⟨Wks.agg ⟨Wk.refl _,Wk.refl _,Wk.sl _ _,trivial⟩,trivial⟩
   conv=>whnf
   refine cP e_awake ?_
   conv=>whnf
   exact fin 0
end Go.Proofs.YtcfgfkkhpdlhpaaGreatDoor
namespace Go.Proofs.YtcfgfkkhpdlhpaaGreatDoor
open Go
theorem schemaLess_holds:Rows.SchemaLessCardSaid:=schemaLess_card_of (schemaLess_of fun s hs=>l_SchemaLess s hs)
end Go.Proofs.YtcfgfkkhpdlhpaaGreatDoor
