/-
  A part of the proof of ViewTexts.
-/
import Derived.Test.YtldggonlkafckaaGreatDoorQ17
import Derived.Test.YtldggonlkafckaaGreatDoorQ18
set_option linter.all false
namespace Go.Proofs.YtldggonlkafckaaGreatDoor
open Go.RowKit
set_option maxRecDepth 100000
set_option linter.unusedVariables false
def low (c:UInt8):Int:=bits .or .u8 c.toNat 32
theorem low_fin:∀n:Fin 256,0<=bits .or .u8 (n:Nat) 32/\bits .or .u8 (n:Nat) 32<256:=by decide+kernel
theorem low_in (c:UInt8):0<=low c/\low c<256:=low_fin ⟨c.toNat,UInt8.toNat_lt c⟩
def hexv (c:UInt8):Option Nat:=if 48<=c.toNat/\c.toNat<=57 then some (c.toNat - 48) else if 97<=low c/\low c<=122 then(if low c<103 then some (low c - 87).toNat else none) else none
theorem hexv_lt {c:UInt8} {h:Nat} (e:hexv c=some h):h<16:=by
 unfold hexv at e
 split at e
 ·cases e;omega
 ·split at e
  ·split at e
   ·cases e;omega
   ·cases e
  ·cases e
def hex2 (a b:UInt8):Option Nat:=match hexv a with
 |some x=>match hexv b with
  |some y=>some (16*x+y)
  |none=>none
 |none=>none
theorem c_lower [MaxL] (c:UInt8):SC Tryz.prog 301 [.i .u8 c.toNat] [] (.val (.i .u8 (low c))) []:=by
 refine gwS Tryz.func301 rfl ?_
 conv=>whnf
 exact owes_i rfl
theorem u8_wrap {n:Int} (h0:0<=n) (h1:n<256):IntKind.u8.wrap n=n:=by
 unfold IntKind.wrap;simp[IntKind.signed,IntKind.bits];omega
theorem u8w (n:Int):IntKind.u8.wrap n=n%256:=by unfold IntKind.wrap;simp[IntKind.signed,IntKind.bits]
theorem u64w (n:Int):IntKind.u64.wrap n=n%18446744073709551616:=by unfold IntKind.wrap;simp[IntKind.signed,IntKind.bits]
theorem c_ParseUintI [MaxL] (a b:UInt8):SC Tryz.prog 283 [.s [a,b],.i .i64 16,.i .i64 8] [] (.val (match hex2 a b with|some n=>.tup [.i .u64 n,.o .nilIface]|none=>.tup [.i .u64 0,.ifc 328 (.i .i64 2)])) []:=by
 refine gwS Tryz.func283 rfl ?_
 conv=>whnf
 refine⟨by decide,?_⟩
 conv=>whnf
 refine GLoop.intro (fun q:Nat×Nat=>(q=(0,0))∨(∃h,hexv a=some h/\q=(1,h))∨(∃h k,hexv a=some h/\hexv b=some k/\q=(2,16*h+k)))
  (fun q=>[(0,.s [a,b]),(1,.i .i64 16),(8,.b false),(10,.i .u64 1152921504606846976),(11,.i .u64 255),(12,.b false),(13,.i .u64 q.2),(99,.sl .none [.i .u8 a.toNat,.i .u8 b.toNat]),(100,.i .i64 2),(101,.i .i64 q.1)]) (fun _=>⟨[],0,[]⟩) (fun q=>2 - q.1) (0,0) (.inl rfl) ⟨rfl,rfl,rfl,rfl,?_,rfl,rfl,rfl,rfl,rfl,trivial⟩ rfl (fun q φ0 hq=>?_)
 ·show GV.i .u64 (IntKind.u64.wrap (IntKind.u64.wrap (1*2^min (IntKind.u64.wrap 8).toNat 64) - 1))=GV.i .u64 255
  rw[show IntKind.u64.wrap (IntKind.u64.wrap (1*2^min (IntKind.u64.wrap 8).toNat 64) - 1)=255 by decide+kernel]
 conv=>whnf
 refine GIf.mk (fun h=>?_) (fun h=>?_)<;>conv=>whnf
 ·obtain⟨c,hc,hlt,hacc,hno,hyes⟩:∃c,([.i .u8 a.toNat,.i .u8 b.toNat]:List GV)[q.1]?=some (.i .u8 c.toNat)/\q.1<2/\q.2<16/\(hexv c=none->hex2 a b=none)/\
    ∀d,hexv c=some d->(((q.1+1,16*q.2+d)=(0,0))∨(∃h,hexv a=some h/\(q.1+1,16*q.2+d)=(1,h))∨(∃h k,hexv a=some h/\hexv b=some k/\(q.1+1,16*q.2+d)=(2,16*h+k))):=by
   rcases hq with rfl|⟨h1,e1,rfl⟩|⟨h1,k1,e1,e2,rfl⟩
   ·exact⟨a,rfl,by omega,by omega,fun e=>by simp[hex2,e],fun d e=>.inr (.inl ⟨d,e,by simp⟩)⟩
   ·exact⟨b,rfl,by simp,hexv_lt e1,fun e=>by simp[hex2,e1,e],fun d e=>.inr (.inr ⟨h1,d,e1,e,by simp⟩)⟩
   ·simp at h
  refine⟨cN _,_,by rw[Int.toNat_natCast];exact hc,rfl,?_⟩
  conv=>whnf
  have fin:∀{σ':GS},hexv c=none->Owes [] (.val (match hex2 a b with|some n=>.tup [.i .u64 n,.o .nilIface]|none=>.tup [.i .u64 0,.ifc 328 (.i .i64 2)])) [] (.val (.tup [.i .u64 0,.ifc 328 (.i .i64 2)])) σ':=fun e=>by
   rw[hno e];exact owes_val rfl (fun _=>rfl)
  have hlow:=low_in c
  have hcl:=UInt8.toNat_lt c
  repeat' first
   |(refine GIf.mk (fun _=>?_) (fun _=>?_)<;>first|(exfalso;simp only[u8w,u64w,decide_eq_true_eq,decide_eq_false_iff_not,beq_iff_eq,beq_eq_false_iff_ne,ne_eq] at*;omega)|conv=>whnf)
   |(refine callP (c_lower c) (wR _) rfl (fun _=>rfl) (.i _ _) ?_;conv=>whnf)
  all_goals first
   |(refine fin ?_;unfold hexv;simp only[u8w,u64w,decide_eq_true_eq,decide_eq_false_iff_not,beq_iff_eq,beq_eq_false_iff_ne,ne_eq] at*;(repeat' split)<;>first|rfl|(exfalso;omega))
   |skip
  all_goals
   have e:∃d,hexv c=some d/\16*q.2+d<256:=by
    unfold hexv;simp only[u8w,u64w,decide_eq_true_eq,decide_eq_false_iff_not,beq_iff_eq,beq_eq_false_iff_ne,ne_eq] at*
    (repeat' split)<;>first|exact⟨_,rfl,by omega⟩|(exfalso;omega)
   obtain⟨d,e,hd⟩:=e
   refine⟨2 - (q.1+1),by show 2 - (q.1+1)<2 - q.1;omega,(q.1+1,16*q.2+d),hyes d e,rfl,⟨rfl,rfl,rfl,rfl,rfl,rfl,?_,rfl,rfl,wrap_succ (by omega),trivial⟩,rfl⟩
   refine congrArg (GV.i .u64) ?_
   simp only[u8w,u64w] at*
   unfold hexv at e
   simp only[decide_eq_true_eq,decide_eq_false_iff_not,beq_iff_eq,beq_eq_false_iff_ne,ne_eq] at*
   have e':=e
   split at e'
   ·cases e';omega
   ·split at e'
    ·split at e'
     ·cases e';omega
     ·cases e'
    ·cases e'
 ·obtain⟨h1,k1,e1,e2,rfl⟩:∃h k,hexv a=some h/\hexv b=some k/\q=(2,16*h+k):=by
   rcases hq with rfl|⟨h1,e1,rfl⟩|⟨h1,k1,e1,e2,rfl⟩
   ·simp at h
   ·simp at h
   ·exact⟨h1,k1,e1,e2,rfl⟩
  refine owes_val ?_ (fun _=>?_)
  ·simp only[hex2,e1,e2];rfl
  ·simp only[hex2,e1,e2];rfl
set_option linter.unusedSectionVars false
variable [Globals]
set_option linter.unusedVariables false
def roundEnd (r:Nat) (ds:List GDef) (res:GRes) (σ':GS):GX->Fr->GS->Prop
 |.normal,_,σ2=>gendRound r ds none σ2=some (res,σ')
 |.ret,_,σ2=>gendRound r ds (some .ret) σ2=some (res,σ')
 |.exit id,_,σ2=>gendRound r ds (some (.exit id)) σ2=some (res,σ')
 |.panic _,_,_=>False
def roundMid (P:Program) (M:FuncId->Bool) (r n:Nat) (body:Code) (ds:List GDef) (res:GRes) (σ':GS):GX->Fr->GS->Prop
 |.normal,φ1,σ1=>match σ1.objs[r]? with
  |some (.loop .ready pe' n' φ' ps' asg' body' rd')=>gsetK σ1 r (.loop .busy pe' n' φ' ps' asg' body' rd') fun s=>gwp P M (some r) n body φ1 s (roundEnd r ds res σ')
  |_=>False
 |_,_,_=>False
theorem Fact.yld {P:Program} (M:FuncId->Bool) (hm:P.follows .mixedOrders=true) {r n rd:Nat} {pe:Option Code} {φ:Fr} {ps:Array Tmp} {asg body:Code} {σ σ':GS} {args:List GV} {res:GRes}
  (ho:σ.objs[r]?=some (.loop .ready pe n φ ps asg body rd)) (hlen:args.length=ps.size) (hps:ps.toList.all (fun t=>Nat.blt t n)=true) (hlo:σ.lo=0) (hh:σ.objs.all GObj.notHeld=true) (hsz:σ.objs.length<=σ'.objs.length) (hlo':σ'.lo=0) (hds:σ'.ds=σ.ds)
  (h:gwp P M (some r) n asg ((ps.toList.zip args).foldl (fun φ p=>fput φ p.1 p.2) φ) {σ with ds:=[]} (roundMid P M r n body σ.ds res σ')):Fact P (.yld r) args σ res σ':=by
 have hnh:∀k:Nat,σ.objs[k]?≠some .held:=fun k hk=>by
  have:=List.all_eq_true.1 hh .held (List.mem_iff_getElem?.2 ⟨k,hk⟩)
  cases this
 have hps':∀t∈ps.toList,t<n:=fun t ht=>by
  have:=List.all_eq_true.1 hps t ht
  simpa[Nat.blt_eq] using this
 refine⟨⟨by rw[hlo',hlo],hsz,fun _ k hk=>by omega,fun k hk=>absurd hk (hnh k)⟩,hds,fun w0 C w vs hr hv b hb=>?_⟩
 obtain⟨h0,b',L,h1,h2,h3,h4,h5,h6,h7,h8,h9,h10⟩:=hr.obj r _ ho
 rw[hb] at h1;cases h1
 have hvs:vs.size=L.params.size:=by rw[h5,<-hlen];have:=hv.1;simpa using this
 refine⟨L.fn,_,L.assign,L.body,run_yield h2 hvs,?_⟩
 obtain⟨q1,q2⟩:=fputs_rel ps.toList args vs.toList φ L.tmps hv hps' h9 h8
 have etm:(L.params.zip vs).foldl (fun(tmps:Array Value) (x:Tmp×Value)=>tmps.setIfInBounds x.1 x.2) L.tmps=(ps.toList.zip vs.toList).foldl (fun(tmps:Array Value) p=>tmps.setIfInBounds p.1 p.2) L.tmps:=by
  rw[h5,<-Array.foldl_toList,Array.toList_zip]
 refine roundIn_of_wpIn (F:=Fence.wide) trivial ?_
 rw[h6,h7]
 show Code.wpIn (FW (some b)) 0 P asg _ _ w
 refine gwp_sound (ro:=some r) hm asg _ _ C (some b) _ _ _ w h hb (hr.ds _) (by rw[etm];exact q1) (by rw[etm];exact q2) trivial (fun x φ1 σ1 hk=>?_)
 cases x with
 |exit id=>exact hk.elim
 |ret=>exact hk.elim
 |panic g=>exact hk.elim
 |normal=>
 intro D a1 w1 hl hf1 hn1 hd1 hr1
 simp only[roundMid] at hk
 split at hk
 ·rename_i pe' n' φ' ps' asg' body' rd' ho1
  have hk:=gsetK_of (K:=fun s=>gwp P M (some r) n body φ1 s (roundEnd r σ.ds res σ')) hk
  have hbD:D.bk r=some b:=hl.bk _ _ hb
  obtain⟨g0,b',L1,g1,g2,g3,g4,g5,g6,g7,g8,g9,g10⟩:=hr1.obj r _ ho1
  rw[hbD] at g1;cases g1
  have hlt:b<w1.heap.size:=(Array.getElem?_eq_some_iff.1 g2).1
  refine⟨_,run_beginRound g2 g3,?_⟩
  have hr2:Rel D (gset σ1 r (.loop .busy pe' n' φ' ps' asg' body' rd')) w0 (w1.putObj b (.loop {L1 with state:=.busy})):=
   hr1.putLoop (List.getElem?_eq_some_iff.1 ho1).1 hbD _ ⟨g0,b,_,hbD,World.putObj_heap_same hlt,rfl,g4,g5,g6,g7,g8,g9,g10⟩
  show Code.wpIn (FW (some b)) 0 P body _ _ _
  refine gwp_sound (ro:=some r) hm body _ _ D (some b) _ _ _ _ hk hbD hr2 hf1 hn1 hd1 (fun x φ2 σ2 hend=>?_)
  intro E a2 w2 hE hf2 hn2 hd2 hr3
  have done:∀{jump:Option Code},gendRound r σ.ds jump σ2=some (res,σ')->∃v w',(Instr.endRound b jump).run P w2=.ok v w'/\∃D,C.le D/\Rel D σ' w0 w'/\ERel D res (.returned v):=fun{jump} he=>by
   by_cases hlo2:σ2.lo<=r
   ·obtain⟨v,w3,p1,F,p2,p3,p4⟩:=(gendRound_sound (P:=P) (w0:=w0) (C:=E) (b:=b) (w:=w2) hlo2 he).2.2 hr3 (hE.bk _ _ hbD)
    exact⟨v,w3,p1,F,(hl.trans hE).trans p2,p3,p4⟩
   ·exfalso
    unfold gendRound at he
    split at he
    ·cases he
     have:σ2.lo=0:=hlo'
     omega
    ·cases he
  cases x with
  |normal=>obtain⟨v,w3,p1,p2⟩:=done hend;exact⟨v,w3,p1,p2⟩
  |ret=>obtain⟨v,w3,p1,p2⟩:=done hend;exact⟨v,w3,p1,p2⟩
  |exit id=>obtain⟨v,w3,p1,p2⟩:=done hend;exact⟨v,w3,p1,p2⟩
  |panic g=>exact hend.elim
 ·exact hk.elim
theorem callY {P:Program} {M:FuncId->Bool} {r:Nat} {args:List GV} {res:GRes} {σ σ':GS} {K:GRes->GS->Prop} (h:Fact P (.yld r) args σ res σ') (hk:K res σ'):gcallK P M (.yld r) args σ K:=⟨res,σ',h,(fun k e=>by cases e),hk⟩
theorem emb_range {N i:Nat}:emb (List.range N) N i=i:=by
 by_cases h:i<N
 ·rw[emb_lt (by simpa using h)];simp
 ·rw[emb_ge (by simp;omega)];simp;omega
theorem emb_id {N:Nat}:emb (List.range N) N=id:=funext fun i=>emb_range
mutual
theorem GV.ren_id:∀g:GV,g.ren id=g
 |.agg cs=>by rw[GV.ren,GV.renL_id cs]
 |.tup cs=>by rw[GV.ren,GV.renL_id cs]
 |.ifc t g=>by rw[GV.ren,GV.ren_id g]
 |.fn k a c=>by rw[GV.ren,GV.renL_id a,GV.renL_id c]
 |.sl k xs=>by rw[GV.ren,GV.renL_id xs];cases k<;>rfl
 |.ptr r off=>rfl
 |.snap cs off=>by rw[GV.ren,GV.renL_id cs]
 |.mp r=>rfl
 |.rs r off esz n c=>rfl
 |.yld r=>rfl
 |.dat r cs=>by rw[GV.ren,GV.renL_id cs];rfl
 |.glb g off=>rfl
 |.b t=>rfl
 |.i k n=>rfl
 |.s l=>rfl
 |.o v=>rfl
 |.any=>rfl
theorem GV.renL_id:∀l:List GV,GV.renL id l=l
 |[]=>rfl
 |x::xs=>by rw[GV.renL,GV.ren_id x,GV.renL_id xs]
end
theorem map_ren_id (l:List GV):l.map (GV.ren id)=l:=by rw[<-renL_map,GV.renL_id]
theorem GObj.ren_id (x:GObj):x.ren id=x:=by
 cases x with
 |box T cs=>show GObj.box T (cs.map (GV.ren id))=_;rw[map_ren_id]
 |mp es=>show GObj.mp (es.map fun e=>(e.1.ren id,e.2.ren id))=_;simp[GV.ren_id]
 |loop st pe n φ ps asg body rd=>show GObj.loop st pe n (fun t=>(φ t).ren id) ps asg body rd=_;simp[GV.ren_id]
 |_=>rfl
theorem Lies.all (s:List GObj) (hh:∀x∈s,x≠ .held):Lies (List.range s.length) s s:=
 ⟨List.nodup_range,by simp,fun i k x h1 h2=>by
  rw[emb_id,GObj.ren_id]
  obtain⟨h3,h4⟩:=List.getElem?_eq_some_iff.1 h1
  simp at h4;subst h4;exact h2,hh⟩
theorem GRes.ren_id (r:GRes):r.ren id=r:=by cases r<;>(simp only[GRes.ren];rw[GV.ren_id])
theorem putBack_all {s s':List GObj} (h:s.length<=s'.length):putBack (List.range s.length) s' s=s':=by
 apply List.ext_getElem?
 intro r
 rw[putBack_get (fun k hk=>by simpa using hk) (by simpa using h),emb_id]
 unfold unemb
 by_cases hr:r<s.length
 ·rw[if_pos hr]
  have:(List.range s.length).idxOf? r=some r:=idxOf?_nodup List.nodup_range (by simp[hr])
  rw[this]
  show Option.map (GObj.ren id) s'[r]?=s'[r]?
  cases s'[r]? with
  |none=>rfl
  |some x=>rw[Option.map_some,GObj.ren_id]
 ·rw[if_neg hr]
  simp only[List.length_range]
  rw[show s.length+(r - s.length)=r by omega]
  cases s'[r]? with
  |none=>rfl
  |some x=>rw[Option.map_some,GObj.ren_id]
theorem SC.factAll {P:Program} {k:FuncId} {args:List GV} {s s':List GObj} {r:GRes} {σ:GS} (h:SC P k args s r s') (hs:σ.objs=s) (hlo:σ.lo=0) (hh:∀x∈s,x≠ .held):Fact P (.fn k) args σ r {σ with objs:=s'}:=by
 have:=h.fact (σ:=σ) (args':=args) (List.range s.length) (by rw[hs];exact Lies.all s hh) hlo (by rw[hs,emb_id,map_ren_id];exact .refl _)
 rw[hs,emb_id,GRes.ren_id,putBack_all h.len] at this
 exact this
end Go.Proofs.YtldggonlkafckaaGreatDoor
namespace Go.Proofs.YtldggonlkafckaaGreatDoor
open Go.RowKit
set_option linter.unusedSectionVars false
variable [Globals]
set_option linter.unusedVariables false
theorem Rel.kill {C:Cx} {σ:GS} {w0 w:World} (h:Rel C σ w0 w) {r:Nat} {T:TypeId} {cs:List GV} (ho:σ.objs[r]?=some (.box T cs)):Rel C (gset σ r .dead) w0 w:=by
 refine⟨h.below,h.fxc,fun q x hx=>?_,fun q hq=>h.dom q (by simpa[gset] using hq),h.new,h.inj,h.sepB,h.sepO,h.fxn,h.gl,h.gs⟩
 by_cases hq:r=q
 ·subst hq
  have:x=.dead:=by
   have h1:=(List.getElem?_eq_some_iff.1 ho).1
   simp only[gset] at hx
   rw[List.getElem?_set_self h1] at hx
   cases hx;rfl
  subst this
  exact⟨.inr (h.obj _ _ ho).1,fun b hb=>obj_lt h hb⟩
 ·simp only[gset] at hx
  rw[List.getElem?_set_ne hq] at hx
  exact h.obj q x hx
theorem SC.of_gwpR {P:Program} (M:FuncId->Bool) (hm:P.follows .mixedOrders=true) {k:FuncId} {fn:Func} {c:Code} (hfn:P.funcs[k]?=some fn) (hb:fn.body=some c) {args:List GV} {s s':List GObj} {r:GRes}
  (hlen:args.length<=fn.ntmps) (hs:s.length<=s'.length) (hh0:s'.all GObj.notHeld=true) (R:GRes->GS->Prop)
  (hR:∀r0 σ0,R r0 σ0->Owes s r s' r0 σ0∨(∃T cs,σ0.objs[0]?=some (.box T cs)/\Owes s r s' r0 (gset σ0 0 .dead)))
  (h:gwp P M none fn.ntmps c (gstart args) ⟨s,0,[]⟩ (endK P fn R)):SC P k args s r s':=by
 have hh:∀x∈s',x≠ .held:=fun x hx e=>by subst e;have:=List.all_eq_true.1 hh0 _ hx;cases this
 refine⟨hs,fun C w vs hr hv=>?_,hh⟩
 obtain⟨h1,h2⟩:=gstart_rel (fn:=fn) hlen hv
 have fin0:∀(D E:Cx) (e:Ending) (w'':World) (r0:GRes) (σ2:GS),C.le E->Rel E σ2 w w''->ERel E r0 e->Owes s r s' r0 σ2->∃D,C.le D/\Rel D ⟨s',0,[]⟩ w w''/\ERel D r e:=by
  intro D E e w'' r0 σ2 hlE hrE he ⟨ks,hlies,hpre,hwk⟩
  refine⟨E.pull (emb ks σ2.objs.length),?_,hrE.pull hlies,?_⟩
  ·have atb:∀i,i<s.length->emb ks σ2.objs.length i=i:=fun i hi=>by
    have h3:=hpre i hi
    obtain⟨h4,h5⟩:=List.getElem?_eq_some_iff.1 h3
    rw[emb_lt h4,h5]
   refine⟨hlE.fx,fun i b hb'=>?_,fun i I hI=>?_,?_,hlE.fix⟩
   ·have hi:i<s.length:=by
     rcases Nat.lt_or_ge i s.length with h4|h4
     ·exact h4
     ·rw[(hr.dom i h4).1] at hb';cases hb'
    show E.bk (emb ks σ2.objs.length i)=some b
    rw[atb i hi];exact hlE.bk i b hb'
   ·have hi:i<s.length:=by
     rcases Nat.lt_or_ge i s.length with h4|h4
     ·exact h4
     ·rw[(hr.dom i h4).2] at hI;cases hI
    show∃J,E.own (emb ks σ2.objs.length i)=some J/\_
    rw[atb i hi];exact hlE.own i I hI
   ·exact hlE.hd
  ·exact(hwk.erel he).pull (D:=E) (f:=emb ks σ2.objs.length) (E:=E.pull (emb ks σ2.objs.length)) (fun _ _ _ h=>h) (fun _=>rfl) (fun _=>rfl)
 have fin:∀(φ':Fr) (σ1:GS) (u:GMode) (D:Cx) (a':Act) (w':World) (um:FrameMode),gopt (gleave P (fun _=>false) (fun _ _ _=>none) 50 fn φ' σ1.ds u σ1) (fun q=>R q.1 q.2)->
   C.le D->FRel D φ' a'->DRel D σ1.ds a'.defers->Rel D σ1 w w'->MRel D u um->LeavesX P fn a'.tmps (fun e w'=>∃D,C.le D/\Rel D ⟨s',0,[]⟩ w w'/\ERel D r e) a'.defers um w':=by
  intro φ' σ1 u D a' w' um hk hl hf' hd' hr' hmr
  obtain⟨⟨r0,σ2⟩,hlv,ho⟩:=gopt_of hk
  refine(gleave_sound (tmps:=a'.tmps) (w0:=w) hm (noCall_sound w) noCall_pure _ _ _ hlv).2 D w' a'.defers um hr' hf' hd' hmr (fun E e w'' hE hrE he=>?_)
  have hlE:=hl.trans hE
  rcases hR _ _ ho with ho|⟨T,cs,hq,ho⟩
  ·exact fin0 D E e w'' r0 σ2 hlE hrE he ho
  ·exact fin0 D E e w'' r0 (gset σ2 0 .dead) hlE (hrE.kill hq) he ho
 refine calls_of_wpX hfn hb (wpIn_wide (n:=0).1 (gwp_sound (w0:=w) (ro:=none) (n:=fn.ntmps) hm c _ _ C none _ _ _ w h trivial hr h1 h2 trivial (fun x φ' σ1 hk D a' w' hl hf' hn' hd' hr'=>?_)))
 cases x with
 |normal=>exact fin φ' σ1 .ret D a' w' .returning hk hl hf' hd' hr' rfl
 |ret=>exact fin φ' σ1 .ret D a' w' .returning hk hl hf' hd' hr' rfl
 |exit id=>exact hk.elim
 |panic g=>exact fun v hv=>fin φ' σ1 (.pan g) D a' w' (.panicking [{v,recovered:=false}]) hk hl hf' hd' hr' ⟨v,rfl,hv⟩
def Ct (P:Program) (k:FuncId) (args:List GV) (x0:GObj) (p:GV):Option (GV×GObj)->Prop
 |some (g,x')=>SC P k args [x0] (.val g) [x']
 |none=>SC P k args [x0] (.panic p) [.dead]
inductive OwesO (x0:GObj) (p:GV):Option (GV×GObj)->GRes->GS->Prop where
 |val {g g0:GV} {x':GObj} {σ0:GS} (h:Owes [x0] (.val g) [x'] (.val g0) σ0):OwesO x0 p (some (g,x')) (.val g0) σ0
 |pan {T:TypeId} {cs:List GV} {rest:List GObj} {lo:Nat} {ds:List GDef}:OwesO x0 p none (.panic p) ⟨.box T cs::rest,lo,ds⟩
 |dead {rest:List GObj} {lo:Nat} {ds:List GDef}:OwesO x0 p none (.panic p) ⟨.dead::rest,lo,ds⟩
theorem Ct.of_gwp {P:Program} (M:FuncId->Bool) (hm:P.follows .mixedOrders=true) {k:FuncId} {fn:Func} {c:Code} (hfn:P.funcs[k]?=some fn) (hb:fn.body=some c) {args:List GV} {x0:GObj} {p:GV} {o:Option (GV×GObj)}
  (hlen:args.length<=fn.ntmps) (hp:Cl p) (hh:o.all (fun q=>q.2.notHeld)=true)
  (h:gwp P M none fn.ntmps c (gstart args) ⟨[x0],0,[]⟩ (endK P fn (OwesO x0 p o))):Ct P k args x0 p o:=by
 have dead:∀{rest:List GObj} {lo:Nat} {ds:List GDef},Owes [x0] (.panic p) [.dead] (.panic p) ⟨.dead::rest,lo,ds⟩:=fun{rest lo ds}=>
  ⟨[0],Lies.one rfl (fun _=>rfl) (by simp),fun i hi=>by
   have:i=0:=by simp at hi;omega
   subst this;rfl,by show Wk p (p.ren _);rw[hp];exact .refl _⟩
 cases o with
 |some q=>
  obtain⟨g,x'⟩:=q
  refine SC.of_gwpR M hm hfn hb hlen (by simp) (by simpa using hh) _ (fun r0 σ0 ho=>?_) h
  cases ho with
  |val h=>exact .inl h
 |none=>
  refine SC.of_gwpR M hm hfn hb hlen (by simp) rfl _ (fun r0 σ0 ho=>?_) h
  cases ho with
  |pan=>exact .inr ⟨_,_,rfl,dead⟩
  |dead=>exact .inl dead
theorem OwesO.box {T:TypeId} {x0:GObj} {p:GV} {cs cs':List GV} {g g':GV} {rest:List GObj} {lo:Nat} {ds:List GDef} {o:Option (GV×GObj)} (ho:o=some (g',.box T cs')) (hcs:cs=cs') (hw:Wk g g') (hc:ClL cs') (hr:Cl g'):
  OwesO x0 p o (.val g) ⟨.box T cs::rest,lo,ds⟩:=by
 subst ho;subst hcs
 refine .val ⟨[0],Lies.one rfl (GObj.box_cl hc) (by simp),fun i hi=>?_,by show Wk g (g'.ren _);rw[hr];exact hw⟩
 have:i=0:=by simp at hi;omega
 subst this;rfl
theorem OwesO.panics {T:TypeId} {x0:GObj} {p:GV} {cs:List GV} {rest:List GObj} {lo:Nat} {ds:List GDef} {o:Option (GV×GObj)} (ho:o=none):OwesO x0 p o (.panic p) ⟨.box T cs::rest,lo,ds⟩:=by
 subst ho;exact .pan
theorem OwesO.deads {x0:GObj} {p:GV} {rest:List GObj} {lo:Nat} {ds:List GDef} {o:Option (GV×GObj)} (ho:o=none):OwesO x0 p o (.panic p) ⟨.dead::rest,lo,ds⟩:=by
 subst ho;exact .dead
theorem putBack_dead {q:Nat} {objs:List GObj} (hq:q<objs.length):putBack [q] [.dead] objs=objs.set q .dead:=putBack_one hq rfl
theorem callBd {P:Program} {M:FuncId->Bool} {k:FuncId} {q:Nat} {a args:List GV} {T:TypeId} {cs:List GV} {r:GV} {σ:GS} {K:GRes->GS->Prop} (h:SC P k (.ptr 0 0::a) [.box T cs] (.panic r) [.dead])
  (hq:σ.objs[q]?=some (.box T cs)) (hw:Wks args (.ptr q 0::a)) (hlo:σ.lo=0) (hM:M k=false) (hc:ClL cs) (ha:ClL a) (hr:Cl r) (hk:gsetK σ q .dead fun s=>K (.panic r) s):gcallK P M (.fn k) args σ K:=by
 have hql:q<σ.objs.length:=(List.getElem?_eq_some_iff.1 hq).1
 have hargs:Wks args ((GV.ptr 0 0::a).map (GV.ren (emb [q] σ.objs.length))):=by
  have e0:(GV.ptr 0 0).ren (emb [q] σ.objs.length)=.ptr q 0:=by show GV.ptr (emb [q] _ 0) 0=_;rw[emb_lt (by simp)];rfl
  rw[List.map_cons,e0,ha];exact hw
 have hf:=SC.fact (σ:=σ) (args':=args) h [q] (Lies.one hq (GObj.box_cl hc) (by simp)) hlo hargs
 rw[putBack_dead hql] at hf
 rw[show(GRes.panic r).ren (emb [q] σ.objs.length)=.panic r by show GRes.panic (r.ren _)=_;rw[hr]] at hf
 exact⟨.panic r,_,hf,(fun k' e hk'=>by cases e;rw[hM] at hk';cases hk'),gsetK_of (K:=fun s=>K (.panic r) s) hk⟩
theorem callBP {P:Program} {M:FuncId->Bool} {k:FuncId} {q:Nat} {a args:List GV} {T:TypeId} {cs:List GV} {r:GV} {σ:GS} {K:GRes->GS->Prop} (h:SC P k (.ptr 0 0::a) [.box T cs] (.val r) [.box T cs])
  (hq:σ.objs[q]?=some (.box T cs)) (hw:Wks args (.ptr q 0::a)) (hlo:σ.lo=0) (hc:ClL cs) (ha:ClL a) (hr:Cl r) (hk:K (.val r) σ):gcallK P M (.fn k) args σ K:=by
 have hql:q<σ.objs.length:=(List.getElem?_eq_some_iff.1 hq).1
 have hf:=h.fact (σ:=σ) (args':=args) [q] (Lies.one hq (GObj.box_cl hc) (by simp)) hlo (by
  have e0:(GV.ptr 0 0).ren (emb [q] σ.objs.length)=.ptr q 0:=by show GV.ptr (emb [q] _ 0) 0=_;rw[emb_lt (by simp)];rfl
  rw[List.map_cons,e0,ha];exact hw)
 rw[putBack_one hql (GObj.box_cl hc _)] at hf
 rw[show(GRes.val r).ren (emb [q] σ.objs.length)=.val r by show GRes.val (r.ren _)=_;rw[hr]] at hf
 have e:σ.objs.set q (.box T cs)=σ.objs:=by
  apply List.ext_getElem?
  intro i
  by_cases hi:q=i
  ·subst hi;rw[List.getElem?_set_self hql,hq]
  ·rw[List.getElem?_set_ne hi]
 rw[e] at hf
 exact⟨.val r,σ,hf,fun _ _ _=>rfl,hk⟩
theorem putBack_two {q p:Nat} {x y:GObj} {objs:List GObj} (hn:q≠p) (hq:q<objs.length) (hp:p<objs.length):
  putBack [q,p] [x,y] objs=(objs.set q (x.ren (emb [q,p] objs.length))).set p (y.ren (emb [q,p] objs.length)):=by
 apply List.ext_getElem?
 intro r
 rw[putBack_get (fun k h=>by simp at h;omega) (rL _)]
 unfold unemb
 by_cases hr:r<objs.length
 ·rw[if_pos hr]
  by_cases hrq:q=r
  ·subst hrq
   have:([q,p]:List Nat).idxOf? q=some 0:=by simp[List.idxOf?,List.findIdx?_cons]
   rw[this,List.getElem?_set_ne (Ne.symm hn)]
   simp[hr]
  ·by_cases hrp:p=r
   ·subst hrp
    have:([q,p]:List Nat).idxOf? p=some 1:=by simp[List.idxOf?,List.findIdx?_cons,hn]
    rw[this]
    simp[hr]
   ·have:([q,p]:List Nat).idxOf? r=none:=by simp[List.idxOf?,List.findIdx?_cons,hrq,hrp]
    rw[this,List.getElem?_set_ne hrp,List.getElem?_set_ne hrq]
 ·rw[if_neg hr]
  simp only[List.length_cons,List.length_nil]
  rw[List.getElem?_eq_none (l:=[x,y]) (by simp only[List.length_cons,List.length_nil];omega),List.getElem?_eq_none (by simp only[List.length_set];omega)]
  rfl
theorem glistK_mk {α:Type}:∀{l:List α} {K:List α->Prop},K l->glistK l K
 |[],K,h=>h
 |x::l,K,h=>glistK_mk (l:=l) (K:=fun ys=>K (x::ys)) h
theorem gsetK_mk {σ:GS} {r:Nat} {x:GObj} {K:GS->Prop} {l:List GObj} (e:σ.objs.set r x=l) (h:K ⟨l,σ.lo,σ.ds⟩):gsetK σ r x K:=by
 subst e;exact glistK_mk (K:=fun l=>K ⟨l,σ.lo,σ.ds⟩) h
end Go.Proofs.YtldggonlkafckaaGreatDoor
namespace Go.Proofs.YtldggonlkafckaaGreatDoor
open Go.RowKit
set_option linter.unusedSectionVars false
variable [Globals]
set_option linter.unusedVariables false
def Own0 (s:List GObj):Prop:=∀e:Nat->Nat,(∀i,i<s.length->e i=i)->s.map (GObj.ren e)=s
theorem emb_pre {m N i:Nat} (h:i<m):emb (List.range m) N i=i:=by rw[emb_lt (by simpa using h)];simp
theorem Lies.pre {s rest:List GObj} (hc:Own0 s) (hh:∀x∈s,x≠ .held):Lies (List.range s.length) s (s++rest):=
 ⟨List.nodup_range,by simp,fun i k x h1 h2=>by
  obtain⟨h3,h4⟩:=List.getElem?_eq_some_iff.1 h1
  simp at h4;subst h4
  have hi:i<s.length:=by simpa using h3
  have:=congrArg (fun l:List GObj=>l[i]?) (hc _ (fun j hj=>emb_pre (N:=(s++rest).length) hj))
  simp only[List.getElem?_map,h2,Option.map_some,Option.some.injEq] at this
  rw[this,List.getElem?_append_left hi]
  exact h2,hh⟩
theorem owesPre {s s' rest:List GObj} {r r':GRes} {lo:Nat} {ds:List GDef} {objs:List GObj} (ho:objs=s'++rest) (hl:s.length<=s'.length) (hc:Own0 s') (hh:s'.all GObj.notHeld=true) (hr:∀e:Nat->Nat,(∀i,i<s'.length->e i=i)->r'.ren e=r') (hw:WkRes r r'):
  Owes s r' s' r ⟨objs,lo,ds⟩:=by
 subst ho
 have hh':∀x∈s',x≠ .held:=fun x hx e=>by subst e;have:=List.all_eq_true.1 hh _ hx;cases this
 refine⟨List.range s'.length,Lies.pre hc hh',fun i hi=>by rw[List.getElem?_range (by omega)],?_⟩
 rw[hr _ (fun i hi=>emb_pre hi)];exact hw
end Go.Proofs.YtldggonlkafckaaGreatDoor
namespace Go.Proofs.YtldggonlkafckaaGreatDoor
open Go.RowKit
set_option maxRecDepth 100000
set_option linter.unusedVariables false
def goodAt (i:Nat) (c:UInt8):Prop:=(97<=c.toNat/\c.toNat<=122)∨(i≠0/\(c.toNat=95∨(48<=c.toNat/\c.toNat<=57)))
theorem isInner_iff (c:UInt8):isInner c=true↔(97<=c.toNat/\c.toNat<=122)∨(c.toNat=95∨(48<=c.toNat/\c.toNat<=57)):=by
 simp[isInner,isSmall,isDigit];omega
theorem isSmall_iff (c:UInt8):isSmall c=true↔(97<=c.toNat/\c.toNat<=122):=by simp[isSmall]
theorem name_iff {s:List UInt8} (h1:1<=s.length) (h2:s.length<=16):isName s=true↔∀i c,s[i]?=some c->goodAt i c:=by
 cases s with
 |nil=>simp at h1
 |cons a t=>
  simp only[isName,Bool.and_eq_true,decide_eq_true_eq,List.all_eq_true]
  constructor
  ·rintro⟨⟨_,h3⟩,h4⟩ i c hc
   have h5:=(isInner_iff c).1 (h4 c (List.mem_of_getElem? hc))
   have h6:=(isSmall_iff a).1 h3
   unfold goodAt
   cases i with
   |zero=>simp at hc;subst hc;exact .inl h6
   |succ i=>rcases h5 with h5|h5;exact .inl h5;exact .inr ⟨by omega,h5⟩
  ·intro h
   refine⟨⟨h2,(isSmall_iff a).2 ?_⟩,fun c hc=>(isInner_iff c).2 ?_⟩
   ·rcases h 0 a rfl with h3|⟨h3,_⟩
    ·exact h3
    ·exact absurd rfl h3
   ·obtain⟨i,hi⟩:=List.mem_iff_getElem?.1 hc
    rcases h i c hi with h3|⟨_,h3⟩
    ·exact .inl h3
    ·exact .inr h3
theorem r_Name [MaxL] (s:List UInt8):SC Tryz.prog 23 [.s s] [] (.val (.b (isName s))) []:=by
 refine gwS Tryz.func23 rfl ?_
 conv=>whnf
 have short:¬(1<=s.length/\s.length<=16)->isName s=false:=fun h=>by
  cases s with
  |nil=>rfl
  |cons a t=>simp[isName] at h⊢;omega
 refine GIf.mk (fun h1=>?_) (fun h1=>?_)<;>conv=>whnf
 ·have h1':s.length<1:=by have:=of_decide_eq_true h1;omega
  exact owes_b (short (by omega)).symm
 refine GIf.mk (fun h2=>?_) (fun h2=>?_)<;>conv=>whnf
 ·have h2':16<s.length:=by have:=of_decide_eq_true h2;omega
  exact owes_b (short (by omega)).symm
 have h1':1<=s.length:=by have:=of_decide_eq_false h1;omega
 have h2':s.length<=16:=by have:=of_decide_eq_false h2;omega
 refine GLoop.intro (fun i:Nat=>i<=s.length/\∀j c,j<i->s[j]?=some c->goodAt j c) (fun i=>[(0,.s s),(3,.i .i64 (i:Nat))]) (fun _=>⟨[],0,[]⟩) (fun i=>s.length - i) 0 ⟨zL _,fun j c h=>absurd h (Nat.not_lt_zero j)⟩ ⟨rfl,rfl,trivial⟩ rfl (fun i φ0 hi=>?_)
 obtain⟨hi,hg⟩:=hi
 conv=>whnf
 refine GIf.mk (fun hlt=>?_) (fun hlt=>?_)<;>conv=>whnf
 ·have hlt':i<s.length:=by have:=of_decide_eq_true hlt;omega
  have hgi:s[i]?=some (s.getD i 0):=by rw[List.getD_eq_getElem?_getD,gL hlt'];rfl
  generalize s.getD i 0=c at*
  have hgi':s[((i:Nat):Int).toNat]?=some c:=by simpa using hgi
  have bad:¬goodAt i c->∀σ,Owes [] (.val (.b (isName s))) [] (.val (.b false)) σ:=fun hb σ=>by
   refine owes_b ?_
   rw[eq_comm,<-Bool.not_eq_true,name_iff h1' h2']
   exact fun h=>hb (h i c hgi)
  have nxt:goodAt i c->i+1<=s.length/\∀j c,j<i+1->s[j]?=some c->goodAt j c:=fun h=>⟨hlt',fun j c' hj hc'=>by
   by_cases hji:j=i
   ·subst hji;rw[hgi] at hc';cases hc';exact h
   ·exact hg j c' (by omega) hc'⟩
  repeat' first
   |(refine GIf.mk (fun _=>?_) (fun _=>?_)<;>conv=>whnf)
   |(refine GNeed.mk (cN _) ⟨c,hgi',?_⟩;conv=>whnf)
  all_goals first
   |(refine bad ?_ _;unfold goodAt;simp only[decide_eq_true_eq,decide_eq_false_iff_not,beq_iff_eq,beq_eq_false_iff_ne,ne_eq,bne_iff_ne,bne_eq_false_iff_eq,Bool.not_eq_true',Bool.not_eq_false'] at*;omega)
   |(refine GLoop.next (i+1) (nxt ?_) (by omega) ⟨rfl,wrap_succ (by omega),trivial⟩ rfl;unfold goodAt;simp only[decide_eq_true_eq,decide_eq_false_iff_not,beq_iff_eq,beq_eq_false_iff_ne,ne_eq,bne_iff_ne,bne_eq_false_iff_eq,Bool.not_eq_true',Bool.not_eq_false'] at*;omega)
 ·have hie:i=s.length:=by have:=of_decide_eq_false hlt;omega
  refine owes_b ?_
  rw[eq_comm,name_iff h1' h2']
  exact fun j c hc=>hg j c (by have:=(List.getElem?_eq_some_iff.1 hc).1;omega) hc
theorem r_ValidValue [MaxL] (v:Val):SC Tryz.prog 117 [v.gv] [] (.val (.b v.ok)) []:=by
 obtain⟨k,n,s⟩:=v
 refine gwS Tryz.func117 rfl ?_
 conv=>whnf
 repeat' (refine GIf.mk (fun _=>?_) (fun _=>?_)<;>conv=>whnf)
 all_goals
  refine owes_b ?_
  simp only[decide_eq_true_eq,decide_eq_false_iff_not,beq_iff_eq,beq_eq_false_iff_ne,ne_eq] at*
  rw[Bool.eq_iff_iff]
  simp only[Val.ok]
  simp
  try grind
theorem i64w (n:Int):IntKind.i64.wrap n=(n+9223372036854775808)%18446744073709551616 - 9223372036854775808:=by
 unfold IntKind.wrap;simp[IntKind.signed,IntKind.bits];omega
def nibS (c:UInt8):Int:=if 48<=c.toNat/\c.toNat<=57 then(c.toNat:Int) - 48 else if 97<=c.toNat/\c.toNat<=102 then(c.toNat:Int) - 87 else -1
theorem r_nibble [MaxL] (c:UInt8):SC Tryz.prog 277 [.i .u8 c.toNat] [] (.val (.i .i64 (nibS c))) []:=by
 have hc:=UInt8.toNat_lt c
 refine gwS Tryz.func277 rfl ?_
 conv=>whnf
 repeat' (refine GIf.mk (fun _=>?_) (fun _=>?_)<;>conv=>whnf)
 all_goals
  refine owes_i ?_
  simp only[decide_eq_true_eq,decide_eq_false_iff_not] at*
  unfold nibS
  (repeat' split)<;>first|(exfalso;omega)|rfl|(simp only[u8w,i64w];omega)
end Go.Proofs.YtldggonlkafckaaGreatDoor
