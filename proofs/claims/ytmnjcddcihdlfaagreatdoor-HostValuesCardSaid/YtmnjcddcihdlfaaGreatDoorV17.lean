/- Part of HostValues. -/
import Derived.Test.YtmnjcddcihdlfaaGreatDoorV16
import Derived.Laws.Rows
set_option linter.all false
set_option maxRecDepth 100000
namespace Go.Proofs.YtmnjcddcihdlfaaGreatDoor
section
open Go.RowKit
variable [Globals]
def GObj.mort:GObj->Bool
 |.box _ _|.mp _|.dead=>true
 |_=>false
def CR (n:Nat) (σ:GS):GS:=⟨List.replicate n .dead++σ.objs.drop n,σ.lo,σ.ds⟩
theorem Rel.kills {C:Cx} {σ:GS} {w0 w:World} (h:Rel C σ w0 w) {n:Nat} (hn:n<=σ.objs.length) (hm:(σ.objs.take n).all GObj.mort=true):Rel C (CR n σ) w0 w:=by
 have hl:(CR n σ).objs.length=σ.objs.length:=by simp[CR];omega
 refine⟨h.below,h.fxc,fun q x hx=>?_,fun q hq=>h.dom q (by rw[<-hl];exact hq),h.new,h.inj,h.sepB,h.sepO,h.fxn,h.gl,h.gs⟩;by_cases hq:q<n
 ·have hx':x=.dead:=by
   simp only[CR] at hx;rw[aU (by simpa using hq),List.getElem?_replicate,aA hq] at hx;cases hx;rfl
  subst hx';have hy:σ.objs[q]?=some (σ.objs[q]'(by omega)):=gL (by omega);have h1:=h.obj _ _ hy;have h2:=List.all_eq_true.1 hm (σ.objs[q]'(by omega)) (List.mem_take_iff_getElem.2 ⟨q,by omega,rfl⟩);refine⟨?_,fun b hb=>n8 h hb⟩;revert h1 h2;generalize σ.objs[q]'(by omega)=y;intro h1 h2;cases y<;>first|cases h2|skip
  ·exact .inr h1.1
  ·exact .inr h1.1
  ·exact h1.1
 ·simp only[CR] at hx;rw[bT (by simpa using hq),List.length_replicate,eP,show n+(q - n)=q by omega] at hx;exact h.obj q x hx
theorem SC.of_gwpR {P:Program} (M:FuncId->Bool) (hm:P.follows .mixedOrders=true) {k:FuncId} {fn:Func} {c:Code} (hfn:P.funcs[k]?=some fn) (hb:fn.body=some c) {args:List GV} {s s':List GObj} {r:GRes}
  (hlen:args.length<=fn.ntmps) (hs:s.length<=s'.length) (hh0:s'.all GObj.notHeld=true) (R:GRes->GS->Prop)
  (hR:∀r0 σ0,R r0 σ0->Owes s r s' r0 σ0∨(∃n,n<=σ0.objs.length/\(σ0.objs.take n).all GObj.mort=true/\Owes s r s' r0 (CR n σ0)))
  (h:OL P M none fn.ntmps c (lJ args) ⟨s,0,[]⟩ (WZ P fn R)):SC P k args s r s':=by
 have hh:∀x∈s',x≠ .held:=fun x hx e=>by subst e;have:=List.all_eq_true.1 hh0 _ hx;cases this
 refine⟨hs,fun C w vs hr hv=>?_,hh⟩;obtain⟨h1,h2⟩:=r8 (fn:=fn) hlen hv;have fin0:∀(D E:Cx) (e:Ending) (w'':World) (r0:GRes) (σ2:GS),C.le E->Rel E σ2 w w''->ERel E r0 e->Owes s r s' r0 σ2->∃D,C.le D/\Rel D ⟨s',0,[]⟩ w w''/\ERel D r e:=by
  intro D E e w'' r0 σ2 hlE hrE he ⟨ks,hlies,hpre,hwk⟩;refine⟨E.pull (iB ks σ2.objs.length),?_,hrE.pull hlies,?_⟩
  ·have atb:∀i,i<s.length->iB ks σ2.objs.length i=i:=fun i hi=>by
    have h3:=hpre i hi;obtain⟨h4,h5⟩:=List.getElem?_eq_some_iff.1 h3;rw[jD h4,h5]
   refine⟨hlE.fx,fun i b hb'=>?_,fun i I hI=>?_,?_,hlE.fix⟩
   ·have hi:i<s.length:=by
     rcases dF i s.length with h4|h4
     ·exact h4
     ·rw[(hr.dom i h4).1] at hb';cases hb'
    show E.bk (iB ks σ2.objs.length i)=some b;rw[atb i hi];exact hlE.bk i b hb'
   ·have hi:i<s.length:=by
     rcases dF i s.length with h4|h4
     ·exact h4
     ·rw[(hr.dom i h4).2] at hI;cases hI
    show∃J,E.own (iB ks σ2.objs.length i)=some J/\_;rw[atb i hi];exact hlE.own i I hI
   ·exact hlE.hd
  ·exact(hwk.erel he).pull (D:=E) (f:=iB ks σ2.objs.length) (E:=E.pull (iB ks σ2.objs.length)) (fun _ _ _ h=>h) (fun _=>rfl) (fun _=>rfl)
 have fin:∀(φ':Fr) (σ1:GS) (u:GMode) (D:Cx) (a':Act) (w':World) (um:FrameMode),rA (iJ P (fun _=>false) (fun _ _ _=>none) 50 fn φ' σ1.ds u σ1) (fun q=>R q.1 q.2)->
   C.le D->FRel D φ' a'->DRel D σ1.ds a'.defers->Rel D σ1 w w'->MRel D u um->mH P fn a'.tmps (fun e w'=>∃D,C.le D/\Rel D ⟨s',0,[]⟩ w w'/\ERel D r e) a'.defers um w':=by
  intro φ' σ1 u D a' w' um hk hl hf' hd' hr' hmr;obtain⟨⟨r0,σ2⟩,hlv,ho⟩:=jL hk;refine(nH (tmps:=a'.tmps) (w0:=w) hm (dY w) fZ _ _ _ hlv).2 D w' a'.defers um hr' hf' hd' hmr (fun E e w'' hE hrE he=>?_);have hlE:=hl.trans hE;rcases hR _ _ ho with ho|⟨n,hq,hm',ho⟩
  ·exact fin0 D E e w'' r0 σ2 hlE hrE he ho
  ·exact fin0 D E e w'' r0 (CR n σ2) hlE (hrE.kills hq hm') he ho
 refine rS hfn hb (wpIn_wide (n:=0).1 (uA (w0:=w) (ro:=none) (n:=fn.ntmps) hm c _ _ C none _ _ _ w h trivial hr h1 h2 trivial (fun x φ' σ1 hk D a' w' hl hf' hn' hd' hr'=>?_)));cases x with
 |normal=>exact fin φ' σ1 .ret D a' w' .returning hk hl hf' hd' hr' rfl
 |ret=>exact fin φ' σ1 .ret D a' w' .returning hk hl hf' hd' hr' rfl
 |exit id=>exact hk.elim
 |panic g=>exact fun v hv=>fin φ' σ1 (.pan g) D a' w' (.panicking [{v,recovered:=false}]) hk hl hf' hd' hr' ⟨v,rfl,hv⟩
def Ct (P:Program) (k:FuncId) (args:List GV) (x0:GObj) (p:GV):Option (GV×GObj)->Prop
 |some (g,x')=>SC P k args [x0] (.val g) [x']
 |none=>SC P k args [x0] (.panic p) [.dead]
inductive OwesO (x0:GObj) (p:GV):Option (GV×GObj)->GRes->GS->Prop where
 |val {g g0:GV} {x':GObj} {σ0:GS} (h:Owes [x0] (.val g) [x'] (.val g0) σ0):OwesO x0 p (some (g,x')) (.val g0) σ0
 |pan {T:TypeId} {cs:List GV} {rest:List GObj} {lo:Nat} {ds:List GDef}:OwesO x0 p none (.panic p) ⟨.box T cs::rest,lo,ds⟩
 |dead {rest:List GObj} {lo:Nat} {ds:List GDef}:OwesO x0 p none (.panic p) ⟨.dead::rest,lo,ds⟩
theorem Ct.of_gwp {P:Program} (M:FuncId->Bool) (hm:P.follows .mixedOrders=true) {k:FuncId} {fn:Func} {c:Code} (hfn:P.funcs[k]?=some fn) (hb:fn.body=some c) {args:List GV} {x0:GObj} {p:GV} {o:Option (GV×GObj)}
  (hlen:args.length<=fn.ntmps) (hp:Cl p) (hh:o.all (fun q=>q.2.notHeld)=true)
  (h:OL P M none fn.ntmps c (lJ args) ⟨[x0],0,[]⟩ (WZ P fn (OwesO x0 p o))):Ct P k args x0 p o:=by
 have dead:∀{rest:List GObj} {lo:Nat} {ds:List GDef},Owes [x0] (.panic p) [.dead] (.panic p) ⟨.dead::rest,lo,ds⟩:=fun{rest lo ds}=>
  ⟨[0],Lies.one rfl (fun _=>rfl) (by simp),fun i hi=>by
   have:i=0:=by simp at hi;omega
   subst this;rfl,by show Wk p (p.ren _);rw[hp];exact .refl _⟩
 cases o with
 |some q=>
  obtain⟨g,x'⟩:=q;refine SC.of_gwpR M hm hfn hb hlen (by simp) (by simpa using hh) _ (fun r0 σ0 ho=>?_) h;cases ho with
  |val h=>exact .inl h
 |none=>
  refine SC.of_gwpR M hm hfn hb hlen (by simp) rfl _ (fun r0 σ0 ho=>?_) h;cases ho with
  |pan=>exact .inr ⟨1,Nat.succ_le_succ (zL _),rfl,dead⟩
  |dead=>exact .inl dead
theorem OwesO.box {T:TypeId} {x0:GObj} {p:GV} {cs cs':List GV} {g g':GV} {rest:List GObj} {lo:Nat} {ds:List GDef} {o:Option (GV×GObj)} (ho:o=some (g',.box T cs')) (hcs:cs=cs') (hw:Wk g g') (hc:ClL cs') (hr:Cl g'):
  OwesO x0 p o (.val g) ⟨.box T cs::rest,lo,ds⟩:=by
 subst ho;subst hcs;refine .val ⟨[0],Lies.one rfl (GObj.box_cl hc) (by simp),fun i hi=>?_,by show Wk g (g'.ren _);rw[hr];exact hw⟩;have:i=0:=by simp at hi;omega
 subst this;rfl
theorem OwesO.panics {T:TypeId} {x0:GObj} {p:GV} {cs:List GV} {rest:List GObj} {lo:Nat} {ds:List GDef} {o:Option (GV×GObj)} (ho:o=none):OwesO x0 p o (.panic p) ⟨.box T cs::rest,lo,ds⟩:=by
 subst ho;exact .pan
theorem OwesO.deads {x0:GObj} {p:GV} {rest:List GObj} {lo:Nat} {ds:List GDef} {o:Option (GV×GObj)} (ho:o=none):OwesO x0 p o (.panic p) ⟨.dead::rest,lo,ds⟩:=by
 subst ho;exact .dead
theorem FU {q:Nat} {objs:List GObj} (hq:q<objs.length):hY [q] [.dead] objs=objs.set q .dead:=yP hq rfl
theorem a04 {P:Program} {M:FuncId->Bool} {k:FuncId} {q:Nat} {a args:List GV} {T:TypeId} {cs:List GV} {r:GV} {σ:GS} {K:GRes->GS->Prop} (h:SC P k (.ptr 0 0::a) [.box T cs] (.panic r) [.dead])
  (hq:σ.objs[q]?=some (.box T cs)) (hw:Wks args (.ptr q 0::a)) (hlo:σ.lo=0) (hM:M k=false) (hc:ClL cs) (ha:ClL a) (hr:Cl r) (hk:lU σ q .dead fun s=>K (.panic r) s) (hD:kK M=false:=by rfl):iC P M (.fn k) args σ K:=by
 have hql:q<σ.objs.length:=(List.getElem?_eq_some_iff.1 hq).1;have hargs:Wks args ((GV.ptr 0 0::a).map (GV.ren (iB [q] σ.objs.length))):=by
  have e0:(GV.ptr 0 0).ren (iB [q] σ.objs.length)=.ptr q 0:=by show GV.ptr (iB [q] _ 0) 0=_;rw[jD (by simp)];rfl
  rw[bY,e0,ha];exact hw
 have hf:=SC.fact (σ:=σ) (args':=args) h [q] (Lies.one hq (GObj.box_cl hc) (by simp)) hlo hargs;rw[FU hql] at hf;rw[show(GRes.panic r).ren (iB [q] σ.objs.length)=.panic r by show GRes.panic (r.ren _)=_;rw[hr]] at hf;exact⟨.panic r,_,hf,(B6 hM hD),iU (K:=fun s=>K (.panic r) s) hk⟩
theorem pcD {P:Program} {M:FuncId->Bool} {k:FuncId} {q:Nat} {a args:List GV} {T:TypeId} {cs:List GV} {r:GV} {σ:GS} {K:GRes->GS->Prop} (h:SC P k (.ptr 0 0::a) [.box T cs] (.panic r) [.dead]) (hk:lU σ q .dead fun s=>K (.panic r) s) (hq:σ.objs[q]?=some (.box T cs):=by rfl) (hw:Wks args (.ptr q 0::a):=by first|exact wR _|exact wC (b5 _ _) (wR _)) (hlo:σ.lo=0:=by rfl) (hM:M k=false:=by rfl) (hc:ClL cs:=by first|exact fun _=>rfl|exact cA|exact cB fun _=>rfl) (ha:ClL a:=by first|exact fun _=>rfl|exact cA|exact cB fun _=>rfl) (hr:Cl r:=by exact fun _=>rfl) (hD:kK M=false:=by rfl):iC P M (.fn k) args σ K:=a04 h hq hw hlo hM hc ha hr hk hD
theorem IT {q p:Nat} {x y:GObj} {objs:List GObj} (hn:q≠p) (hq:q<objs.length) (hp:p<objs.length):
  hY [q,p] [x,y] objs=(objs.set q (x.ren (iB [q,p] objs.length))).set p (y.ren (iB [q,p] objs.length)):=by
 apply cK;intro r;rw[iR (fun k h=>by simp at h;omega) (rL _)];unfold fU;by_cases hr:r<objs.length
 ·rw[aA hr];by_cases hrq:q=r
  ·subst hrq;have:([q,p]:List Nat).idxOf? q=some 0:=by simp[List.idxOf?,List.findIdx?_cons]
   rw[this,cV (Ne.symm hn)];simp[hr]
  ·by_cases hrp:p=r
   ·subst hrp;have:([q,p]:List Nat).idxOf? p=some 1:=by simp[List.idxOf?,List.findIdx?_cons,hn]
    rw[this];simp[hr]
   ·have:([q,p]:List Nat).idxOf? r=none:=by simp[List.idxOf?,List.findIdx?_cons,hrq,hrp]
    rw[this,cV hrp,cV hrq]
 ·rw[aB hr];simp only[aM,bW];rw[b6 (l:=[x,y]) (by simp only[aM,bW];omega),b6 (by simp only[List.length_set];omega)];rfl
theorem l5 {α:Type}:∀{l:List α} {K:List α->Prop},K l->C6 l K
 |[],K,h=>h
 |x::l,K,h=>l5 (l:=l) (K:=fun ys=>K (x::ys)) h
theorem jQ {σ:GS} {r:Nat} {x:GObj} {K:GS->Prop} {l:List GObj} (e:σ.objs.set r x=l) (h:K ⟨l,σ.lo,σ.ds⟩):lU σ r x K:=by
 subst e;exact l5 (K:=fun l=>K ⟨l,σ.lo,σ.ds⟩) h
end
section
open Go.RowKit
variable [Globals]
def XO (s:List GObj):Prop:=∀e:Nat->Nat,(∀i,i<s.length->e i=i)->s.map (GObj.ren e)=s
theorem OW {m N i:Nat} (h:i<m):iB (List.range m) N i=i:=by rw[jD (by simpa using h)];simp
theorem Lies.pre {s rest:List GObj} (hc:XO s) (hh:∀x∈s,x≠ .held):Lies (List.range s.length) s (s++rest):=
 ⟨List.nodup_range,by simp,fun i k x h1 h2=>by
  obtain⟨h3,h4⟩:=List.getElem?_eq_some_iff.1 h1;simp at h4;subst h4;have hi:i<s.length:=by simpa using h3
  have:=aJ (fun l:List GObj=>l[i]?) (hc _ (fun j hj=>OW (N:=(s++rest).length) hj));simp only[aG,h2,aT,eY] at this;rw[this,aU hi];exact h2,hh⟩
theorem A7 {s s' rest:List GObj} {r r':GRes} {lo:Nat} {ds:List GDef} {objs:List GObj} (ho:objs=s'++rest) (hl:s.length<=s'.length) (hc:XO s') (hh:s'.all GObj.notHeld=true) (hr:∀e:Nat->Nat,(∀i,i<s'.length->e i=i)->r'.ren e=r') (hw:WkRes r r'):
  Owes s r' s' r ⟨objs,lo,ds⟩:=by
 subst ho;have hh':∀x∈s',x≠ .held:=fun x hx e=>by subst e;have:=List.all_eq_true.1 hh _ hx;cases this
 refine⟨List.range s'.length,Lies.pre hc hh',fun i hi=>by rw[List.getElem?_range (by omega)],?_⟩;rw[hr _ (fun i hi=>OW hi)];exact hw
end
section
open Go.RowKit
def sS (i:Nat) (c:UInt8):Prop:=(97<=c.toNat/\c.toNat<=122)∨(i≠0/\(c.toNat=95∨(48<=c.toNat/\c.toNat<=57)))
theorem yV (c:UInt8):bQ c=true↔(97<=c.toNat/\c.toNat<=122)∨(c.toNat=95∨(48<=c.toNat/\c.toNat<=57)):=by
 simp[bQ,dA,bB];omega
theorem yU (c:UInt8):dA c=true↔(97<=c.toNat/\c.toNat<=122):=by simp[dA]
theorem J8 {s:List UInt8} (h1:1<=s.length) (h2:s.length<=16):dE s=true↔∀i c,s[i]?=some c->sS i c:=by
 cases s with
 |nil=>simp at h1
 |cons a t=>
  simp only[dE,aF,aH,aZ];constructor
  ·rintro⟨⟨_,h3⟩,h4⟩ i c hc;have h5:=(yV c).1 (h4 c (b9 hc));have h6:=(yU a).1 h3;unfold sS;cases i with
   |zero=>simp at hc;subst hc;exact .inl h6
   |succ i=>rcases h5 with h5|h5;exact .inl h5;exact .inr ⟨by omega,h5⟩
  ·intro h;refine⟨⟨h2,(yU a).2 ?_⟩,fun c hc=>(yV c).2 ?_⟩
   ·rcases h 0 a rfl with h3|⟨h3,_⟩
    ·exact h3
    ·exact absurd rfl h3
   ·obtain⟨i,hi⟩:=List.mem_iff_getElem?.1 hc;rcases h i c hi with h3|⟨_,h3⟩
    ·exact .inl h3
    ·exact .inr h3
theorem SQ [MaxL] (s:List UInt8):SC Tryz.prog 142 [.s s] [] (.val (.b (dE s))) []:=by
 refine bI Tryz.func142 rfl ?_;conv=>whnf
 have short:¬(1<=s.length/\s.length<=16)->dE s=false:=fun h=>by
  cases s with
  |nil=>rfl
  |cons a t=>simp[dE] at h⊢;omega
 apply gM<;>intro h1<;>conv=>whnf
 ·have h1':s.length<1:=by have:=aO h1;omega
  exact eM (short (by omega)).symm
 apply gM<;>intro h2<;>conv=>whnf
 ·have h2':16<s.length:=by have:=aO h2;omega
  exact eM (short (by omega)).symm
 have h1':1<=s.length:=by have:=aW h1;omega
 have h2':s.length<=16:=by have:=aW h2;omega
 refine bA (fun i:Nat=>i<=s.length/\∀j c,j<i->s[j]?=some c->sS j c) (fun i=>[(0,.s s),(3,.i .i64 (i:Nat))]) (fun _=>⟨[],0,[]⟩) (fun i=>s.length - i) 0 ⟨zL _,fun j c h=>absurd h (Nat.not_lt_zero j)⟩ ⟨rfl,rfl,trivial⟩ rfl (fun i φ0 hi=>?_);obtain⟨hi,hg⟩:=hi;conv=>whnf
 apply gM<;>intro hlt<;>conv=>whnf
 ·have hlt':i<s.length:=by have:=aO hlt;omega
  have hgi:s[i]?=some (s.getD i 0):=by rw[aL,gL hlt'];rfl
  generalize s.getD i 0=c at*;have hgi':s[((i:Nat):Int).toNat]?=some c:=by simpa using hgi
  have bad:¬sS i c->∀σ,Owes [] (.val (.b (dE s))) [] (.val (.b false)) σ:=fun hb σ=>by
   refine eM ?_;rw[eq_comm,<-Bool.not_eq_true,J8 h1' h2'];exact fun h=>hb (h i c hgi)
  have nxt:sS i c->i+1<=s.length/\∀j c,j<i+1->s[j]?=some c->sS j c:=fun h=>⟨hlt',fun j c' hj hc'=>by
   by_cases hji:j=i
   ·subst hji;rw[hgi] at hc';cases hc';exact h
   ·exact hg j c' (by omega) hc'⟩
  repeat' first
   |(apply gM<;>intro _<;>conv=>whnf)
   |(refine GNeed.mk (fK _) ⟨c,hgi',?_⟩;conv=>whnf)
  all_goals first
   |(refine bad ?_ _;unfold sS;simp only[aH,bR,bU,cY,ne_eq,bne_iff_ne,bne_eq_false_iff_eq,fT,Bool.not_eq_false'] at*;omega)
   |(refine gK (i+1) (nxt ?_) (by omega) ⟨rfl,cT (by omega),trivial⟩ rfl;unfold sS;simp only[aH,bR,bU,cY,ne_eq,bne_iff_ne,bne_eq_false_iff_eq,fT,Bool.not_eq_false'] at*;omega)
 ·have hie:i=s.length:=by have:=aW hlt;omega
  refine eM ?_;rw[eq_comm,J8 h1' h2'];exact fun j c hc=>hg j c (by have:=(List.getElem?_eq_some_iff.1 hc).1;omega) hc
theorem wA [MaxL] (v:Val):SC Tryz.prog 99 [v.gv] [] (.val (.b v.ok)) []:=by
 obtain⟨k,n,s⟩:=v;refine bI Tryz.func99 rfl ?_;conv=>whnf
 repeat' (apply gM<;>intro _<;>conv=>whnf)
 all_goals
  refine eM ?_;simp only[aH,bR,bU,cY,ne_eq] at*;rw[Bool.eq_iff_iff];simp only[Val.ok];simp;try grind
theorem a1e (n:Int):IntKind.i64.wrap n=(n+9223372036854775808)%18446744073709551616 - 9223372036854775808:=by
 unfold IntKind.wrap;simp[IntKind.signed,IntKind.bits];omega
def DC (c:UInt8):Int:=if 48<=c.toNat/\c.toNat<=57 then(c.toNat:Int) - 48 else if 97<=c.toNat/\c.toNat<=102 then(c.toNat:Int) - 87 else -1
theorem w7 [MaxL] (c:UInt8):SC Tryz.prog 236 [.i .u8 c.toNat] [] (.val (.i .i64 (DC c))) []:=by
 have hc:=bS c;refine bI Tryz.func236 rfl ?_;conv=>whnf
 repeat' (apply gM<;>intro _<;>conv=>whnf)
 all_goals
  refine iH ?_;simp only[aH,bR] at*;unfold DC
  (repeat' split)<;>first|(exfalso;omega)|rfl|(simp only[YB,a1e];omega)
end
section
open Go.RowKit
def iK (l:List UInt8):Nat:=l.foldl (fun a c=>10*a+(c.toNat - 48)) 0
theorem qN (l:List UInt8) (c:UInt8):iK (l++[c])=10*iK l+(c.toNat - 48):=by simp[iK]
def eS (l:List UInt8):Nat:=min 17 (l.takeWhile bB).length
def lX (s:List UInt8):Int×Nat:=
 let mi:=decide (s.head?=some 45);let l:=if mi then s.tail else s;let k:=eS l;let n:=iK (l.take k)
 if k=0∨(1<k/\l.head?=some 48)∨(mi=true/\n=0)∨17<=k then(0,0) else(if mi then -(n:Int) else n,(if mi then 1 else 0)+k)
theorem OX:∀(k:Nat) (l:List UInt8),l.length<=k->(∀c∈l,bB c=true)->iK l<10^k:=by
 intro k;induction k with
 |zero=>intro l h _;have:l=[]:=aI (by omega);subst this;decide
 |succ k ih=>
  intro l h hd;rcases List.eq_nil_or_concat l with rfl|⟨l',c,rfl⟩
  ·exact Nat.pos_of_ne_zero (by simp)
  ·rw[List.concat_eq_append,qN];have h1:=ih l' (by simp at h;omega) (fun d hd'=>hd d (by simp[hd']));have h2:=hd c (by simp);simp[bB] at h2;rw[Nat.pow_succ];omega
theorem HV {l:List UInt8} {j:Nat} (h:j<=eS l):∀c∈l.take j,bB c=true:=fun c hc=>by
 have h1:j<=(l.takeWhile bB).length:=by unfold eS at h;omega
 have h2:l.take j<+:l.takeWhile bB:=by
  have:=e7 (l:=l) bB;exact List.prefix_of_prefix_length_le (List.take_prefix j l) this (by rw[cL];omega)
 exact List.all_eq_true.1 (List.all_takeWhile (p:=bB) (l:=l)) c (h2.subset hc)
theorem F4 {l:List UInt8} {j:Nat} {c:UInt8} (hj:j<=eS l) (hc:l[j]?=some c) (hd:bB c=true) (h17:j<17):j+1<=eS l:=by
 have h1:j<=(l.takeWhile bB).length:=by unfold eS at hj;omega
 have:j<(l.takeWhile bB).length:=by
  rcases dF j (l.takeWhile bB).length with h|h
  ·exact h
  ·exfalso;have e:j=(l.takeWhile bB).length:=by omega
   have key:∀l:List UInt8,∀c,l[(l.takeWhile bB).length]?=some c->bB c=false:=by
    intro l;induction l with
    |nil=>intro c h;cases h
    |cons a l ih=>
     intro c h;rw[bZ] at h;split at h
     ·simp at h;exact ih c h
     ·rename_i ha;simp at h;subst h;simpa using ha
   rw[e] at hc;rw[key l c hc] at hd;cases hd
 unfold eS;omega
theorem mX {l:List UInt8} {j:Nat} (hj:j<=eS l) (h:j=17∨(∀c,l[j]?=some c->bB c=false)):j=eS l:=by
 rcases h with h|h
 ·unfold eS at hj⊢;omega
 ·rcases dF j (eS l) with hlt|hge
  ·exfalso;have h1:j<(l.takeWhile bB).length:=by unfold eS at hlt;omega
   have h2:=e7 (l:=l) bB;have h3:l[j]?=some (l.takeWhile bB)[j]:=by
    obtain⟨r,hr⟩:=h2;conv=>lhs;rw[<-hr]
    rw[aU h1,gL h1]
   have h4:=List.all_eq_true.1 (List.all_takeWhile (p:=bB) (l:=l)) _ (dO h1);rw[h _ h3] at h4;cases h4
  ·omega
theorem B3 [MaxL] (n c:Nat) (hn:n<100000000000000000) (h1:48<=c) (h2:c<=57):IntKind.i64.wrap (IntKind.i64.wrap (10*(n:Int))+IntKind.i64.wrap (IntKind.u8.wrap ((c:Int) - 48)))=((10*n+(c - 48):Nat):Int):=by
 rw[VI (n:=(c:Int) - 48) (by omega) (by omega),bN (n:=(c:Int) - 48) (by omega) (by omega),bN (n:=10*(n:Int)) (by omega) (by omega),bN (by omega) (by omega)];omega
set_option maxHeartbeats 2000000 in
theorem PX [MaxL] (s:List UInt8) (hs:s.length<dD) (h45:s.head?=some 45):SC Tryz.prog 222 [.s s,.i .i64 0] [] (.val (.tup [.i .i64 (lX s).1,.i .i64 ((lX s).2:Nat)])) []:=by
 unfold dD at hs;obtain⟨R,hR⟩:∃R,R=lX s:=⟨_,rfl⟩;rw[<-hR];have no:R=(0,0)->∀{a:GS},Owes [] (.val (.tup [.i .i64 R.1,.i .i64 (R.2:Nat)])) [] (.val (.tup [.i .i64 0,.i .i64 0])) a:=fun h=>by
  cases h;exact oW
 refine bI Tryz.func222 rfl ?_;conv=>whnf
 have hg0:s[0]?=some 45:=by rw[<-List.head?_eq_getElem?];exact h45
 have hpos:0<s.length:=(List.getElem?_eq_some_iff.1 hg0).1;refine e6 (fun _=>?_) (fun h0=>?_);rotate_left
 ·exfalso;have:=aW h0;omega
 conv=>whnf
 refine GNeed.mk (cD 0) ⟨45,hg0,?_⟩;conv=>whnf
 have hmi:decide (s.head?=some 45)=true:=aR h45;obtain⟨l,hlst⟩:∃l,l=s.tail:=⟨_,rfl⟩;have hN:lX s=if eS l=0∨(1<eS l/\l.head?=some 48)∨(true=true/\iK (l.take (eS l))=0)∨17<=eS l then(0,0) else(-(iK (l.take (eS l)):Int),1+eS l):=by
  rw[hlst];unfold lX;simp only[hmi];rfl
 have hget:∀j:Nat,l[j]?=s[1+j]?:=fun j=>by rw[hlst];rw[List.getElem?_tail,Nat.add_comm]
 have hll:l.length=s.length - 1:=by rw[hlst];rw[List.length_tail]
 clear hlst;refine bA (fun j:Nat=>j<=eS l) (fun j=>[(0,.s s),(1,.i .i64 0),(4,.i .i64 (iK (l.take j):Nat)),(5,.i .i64 0),(6,.i .i64 (1+j:Nat)),(7,.b true),(8,.i .i64 (1:Nat))]) (fun _=>⟨[],0,[]⟩) (fun j=>17 - j) 0 (zL _) ⟨rfl,rfl,rfl,rfl,rfl,rfl,rfl,trivial⟩ rfl (fun j φ0 hj=>?_);have hj17:j<=17:=by unfold eS at hj;omega
 have hjl:j<=l.length:=by
  have:=(e7 (l:=l) bB).length_le;unfold eS at hj;omega
 have hdv:=OX j (l.take j) (by rw[cL];omega) (HV hj);have hdv17:iK (l.take j)<10^17:=bV hdv (Nat.pow_le_pow_right (by decide) hj17);have hdv18:iK (l.take j)<100000000000000000:=hdv17;have wj:IntKind.i64.wrap (((1+j:Nat):Int) - ((1:Nat):Int))=(j:Int):=by rw[bN (by omega) (by omega)];omega
 clear hdv hdv17;conv=>whnf
 refine e6 (fun h1=>?lt) (fun h1=>?stop1)
 case' lt=>
  have h1':1+j<s.length:=by have:=aO h1;omega
  have hgi:s[1+j]?=some (s.getD (1+j) 0):=by rw[aL,gL h1'];rfl
  have hlj:l[j]?=some (s.getD (1+j) 0):=(hget j).trans hgi;generalize s.getD (1+j) 0=c at*;have hgi':s[((1+j:Nat):Int).toNat]?=some c:=by rw[aD];exact hgi
  have hcl:=bS c;conv=>whnf
  refine GNeed.mk (fK _) ⟨c,hgi',?_⟩;conv=>whnf
  refine e6 (fun h2=>?ge) (fun h2=>?stop2)
  case' stop2=>
   have hend:=mX hj (.inr (fun d hd=>by rw[hlj] at hd;cases hd;have:=aW h2;simp[bB];omega));clear hgi' hlj hgi h1' h2 hcl
  case' ge=>
   (conv=>whnf);refine GNeed.mk (fK _) ⟨c,hgi',?_⟩;(conv=>whnf);refine e6 (fun h3=>?le) (fun h3=>?stop3)
   case' stop3=>
    have hend:=mX hj (.inr (fun d hd=>by rw[hlj] at hd;cases hd;have:=aW h3;simp[bB];omega));clear hgi' hlj hgi h1' h2 h3 hcl
   case' le=>
    (conv=>whnf);refine e6 (fun h4=>?go) (fun h4=>?stop4)
    case' stop4=>
     have hend:=mX hj (.inl (by have:=aW h4;rw[wj] at this;omega));clear hgi' hlj hgi h1' h2 h3 h4 hcl
    case' go=>
     have g2:=aO h2;have g3:=aO h3;have g4:=aO h4;rw[wj] at g4;have htk:l.take (j+1)=l.take j++[c]:=by rw[dS,hlj];rfl
     (conv=>whnf);refine GNeed.mk (fK _) ⟨c,hgi',?_⟩;(conv=>whnf);refine gK (j+1) (F4 hj hlj (by simp[bB];omega) (by omega)) (by omega) ⟨rfl,rfl,?_,rfl,cT (by omega),rfl,rfl,trivial⟩ rfl;refine aJ (GV.i .i64) ?_;rw[htk,qN];exact B3 _ _ hdv18 (by omega) (by omega)
 case' stop1=>
  have hend:=mX hj (.inr (fun d hd=>by have:=(List.getElem?_eq_some_iff.1 hd).1;have:=aW h1;omega))
 all_goals
  clear h1;subst hend;conv=>whnf
  apply gM<;>intro e1<;>conv=>whnf
  ·exact no (hR.trans (hN.trans (aA (.inl (by have:=eq_of_beq e1;omega)))))
  have hk0:¬eS l=0:=fun h=>by rw[h] at e1;simp at e1
  apply e6<;>intro e2
  case' yes=>
   (conv=>whnf);have hk1:1<eS l:=by have:=aO e2;rw[wj] at this;omega
   obtain⟨c0,hc0⟩:∃c0,l[0]?=some c0:=⟨l[0]'(by omega),gL (by omega)⟩;have hs0:s[((1:Nat):Int).toNat]?=some c0:=by rw[aD];exact(hget 0).symm.trans hc0
   refine GNeed.mk (fK _) ⟨c0,hs0,?_⟩;(conv=>whnf);apply e6<;>intro e3
   case yes=>
    (conv=>whnf);exact no (hR.trans (hN.trans (aA (.inr (.inl ⟨hk1,by rw[List.head?_eq_getElem?,hc0,s9 (d:=48) e3]⟩)))))
   have h48:¬(1<eS l/\l.head?=some 48):=fun h=>uN (d:=48) e3 (by have h:=h.2;rw[List.head?_eq_getElem?,hc0] at h;exact aV h)
  case' no=>have h48:¬(1<eS l/\l.head?=some 48):=fun h=>by have h:=h.1;have:=aW e2;rw[wj] at this;omega
  all_goals
   (conv=>whnf);apply gM<;>intro e4<;>conv=>whnf
   ·exact no (hR.trans (hN.trans (aA (.inr (.inr (.inl ⟨rfl,by have:=eq_of_beq e4;omega⟩))))))
   have hn0:¬iK (l.take (eS l))=0:=fun h=>by rw[h] at e4;cases e4
   apply gM<;>intro e5<;>conv=>whnf
   ·exact no (hR.trans (hN.trans (aA (.inr (.inr (.inr (by have:=aO e5;rw[wj] at this;omega)))))))
   have h17:¬17<=eS l:=by have:=aW e5;rw[wj] at this;omega
   have hr:R=(-(iK (l.take (eS l)):Int),1+eS l):=hR.trans (hN.trans (aB (fun h=>h.elim hk0 (fun h=>h.elim h48 (fun h=>h.elim (fun h=>hn0 h.2) h17)))));cases hr;have w2:IntKind.i64.wrap (((1+eS l:Nat):Int) - 0)=((1+eS l:Nat):Int):=by rw[bN (by omega) (by omega)];omega
   have w3:IntKind.i64.wrap (0 - (iK (l.take (eS l)):Int))= -(iK (l.take (eS l)):Int):=by rw[bN (by omega) (by omega)];omega
   refine oO (cJ ?_) (Cl.tup (.cons (.i _ _) (.cons (.i _ _) .nil)));show GV.tup [.i .i64 (IntKind.i64.wrap (0 - (iK (l.take (eS l)):Int))),.i .i64 (IntKind.i64.wrap (((1+eS l:Nat):Int) - 0))]=_;rw[w2,w3]
set_option maxHeartbeats 2000000 in
theorem PW [MaxL] (s:List UInt8) (hs:s.length<dD) (h45:¬s.head?=some 45) (hne:s≠[]):SC Tryz.prog 222 [.s s,.i .i64 0] [] (.val (.tup [.i .i64 (lX s).1,.i .i64 ((lX s).2:Nat)])) []:=by
 unfold dD at hs;obtain⟨R,hR⟩:∃R,R=lX s:=⟨_,rfl⟩;rw[<-hR];have no:R=(0,0)->∀{a:GS},Owes [] (.val (.tup [.i .i64 R.1,.i .i64 (R.2:Nat)])) [] (.val (.tup [.i .i64 0,.i .i64 0])) a:=fun h=>by
  cases h;exact oW
 refine bI Tryz.func222 rfl ?_;conv=>whnf
 obtain⟨c1,hc1⟩:∃c1,s[0]?=some c1:=by
  obtain⟨c,t,rfl⟩:=List.exists_cons_of_ne_nil hne;exact⟨c,rfl⟩
 have hpos:0<s.length:=List.length_pos_iff.2 hne;refine e6 (fun h0=>?_) (fun h0=>?_);rotate_left
 ·exfalso;have:=aW h0;omega
 conv=>whnf
 refine GNeed.mk (cD 0) ⟨c1,hc1,?_⟩;conv=>whnf
 refine e6 (fun hm=>?_) (fun hm=>?_)
 ·exact absurd (by rw[List.head?_eq_getElem?,hc1,s9 (d:=45) hm]) h45
 conv=>whnf
 have hmi:decide (s.head?=some 45)=false:=aQ h45;obtain⟨l,hlst⟩:∃l,l=s:=⟨_,rfl⟩;have hN:lX s=if eS l=0∨(1<eS l/\l.head?=some 48)∨(false=true/\iK (l.take (eS l))=0)∨17<=eS l then(0,0) else((iK (l.take (eS l)):Int),0+eS l):=by
  rw[hlst];unfold lX;simp only[hmi];rfl
 have hget:∀j:Nat,l[j]?=s[0+j]?:=fun j=>by rw[hlst];rw[bM]
 have hll:l.length=s.length - 0:=by rw[hlst];omega
 clear hlst;refine bA (fun j:Nat=>j<=eS l) (fun j=>[(0,.s s),(1,.i .i64 0),(4,.i .i64 (iK (l.take j):Nat)),(5,.i .i64 0),(6,.i .i64 (0+j:Nat)),(7,.b _),(8,.i .i64 (0:Nat))]) (fun _=>⟨[],0,[]⟩) (fun j=>17 - j) 0 (zL _) ⟨rfl,rfl,rfl,rfl,rfl,rfl,rfl,trivial⟩ rfl (fun j φ0 hj=>?_);have hj17:j<=17:=by unfold eS at hj;omega
 have hjl:j<=l.length:=by
  have:=(e7 (l:=l) bB).length_le;unfold eS at hj;omega
 have hdv:=OX j (l.take j) (by rw[cL];omega) (HV hj);have hdv17:iK (l.take j)<10^17:=bV hdv (Nat.pow_le_pow_right (by decide) hj17);have hdv18:iK (l.take j)<100000000000000000:=hdv17;have wj:IntKind.i64.wrap (((0+j:Nat):Int) - ((0:Nat):Int))=(j:Int):=by rw[bN (by omega) (by omega)];omega
 clear hdv hdv17;conv=>whnf
 refine e6 (fun h1=>?lt) (fun h1=>?stop1)
 case' lt=>
  have h1':0+j<s.length:=by have:=aO h1;omega
  have hgi:s[0+j]?=some (s.getD (0+j) 0):=by rw[aL,gL h1'];rfl
  have hlj:l[j]?=some (s.getD (0+j) 0):=(hget j).trans hgi;generalize s.getD (0+j) 0=c at*;have hgi':s[((0+j:Nat):Int).toNat]?=some c:=by rw[aD];exact hgi
  have hcl:=bS c;conv=>whnf
  refine GNeed.mk (fK _) ⟨c,hgi',?_⟩;conv=>whnf
  refine e6 (fun h2=>?ge) (fun h2=>?stop2)
  case' stop2=>
   have hend:=mX hj (.inr (fun d hd=>by rw[hlj] at hd;cases hd;have:=aW h2;simp[bB];omega));clear hgi' hlj hgi h1' h2 hcl
  case' ge=>
   (conv=>whnf);refine GNeed.mk (fK _) ⟨c,hgi',?_⟩;(conv=>whnf);refine e6 (fun h3=>?le) (fun h3=>?stop3)
   case' stop3=>
    have hend:=mX hj (.inr (fun d hd=>by rw[hlj] at hd;cases hd;have:=aW h3;simp[bB];omega));clear hgi' hlj hgi h1' h2 h3 hcl
   case' le=>
    (conv=>whnf);refine e6 (fun h4=>?go) (fun h4=>?stop4)
    case' stop4=>
     have hend:=mX hj (.inl (by have:=aW h4;rw[wj] at this;omega));clear hgi' hlj hgi h1' h2 h3 h4 hcl
    case' go=>
     have g2:=aO h2;have g3:=aO h3;have g4:=aO h4;rw[wj] at g4;have htk:l.take (j+1)=l.take j++[c]:=by rw[dS,hlj];rfl
     (conv=>whnf);refine GNeed.mk (fK _) ⟨c,hgi',?_⟩;(conv=>whnf);refine gK (j+1) (F4 hj hlj (by simp[bB];omega) (by omega)) (by omega) ⟨rfl,rfl,?_,rfl,cT (by omega),rfl,rfl,trivial⟩ rfl;refine aJ (GV.i .i64) ?_;rw[htk,qN];exact B3 _ _ hdv18 (by omega) (by omega)
 case' stop1=>
  have hend:=mX hj (.inr (fun d hd=>by have:=(List.getElem?_eq_some_iff.1 hd).1;have:=aW h1;omega))
 all_goals
  clear h1;subst hend;conv=>whnf
  apply gM<;>intro e1<;>conv=>whnf
  ·exact no (hR.trans (hN.trans (aA (.inl (by have:=eq_of_beq e1;omega)))))
  have hk0:¬eS l=0:=fun h=>by rw[h] at e1;simp at e1
  apply e6<;>intro e2
  case' yes=>
   (conv=>whnf);have hk1:1<eS l:=by have:=aO e2;rw[wj] at this;omega
   obtain⟨c0,hc0⟩:∃c0,l[0]?=some c0:=⟨l[0]'(by omega),gL (by omega)⟩;have hs0:s[((0:Nat):Int).toNat]?=some c0:=by rw[aD];exact(hget 0).symm.trans hc0
   refine GNeed.mk (fK _) ⟨c0,hs0,?_⟩;(conv=>whnf);apply e6<;>intro e3
   case yes=>
    (conv=>whnf);exact no (hR.trans (hN.trans (aA (.inr (.inl ⟨hk1,by rw[List.head?_eq_getElem?,hc0,s9 (d:=48) e3]⟩)))))
   have h48:¬(1<eS l/\l.head?=some 48):=fun h=>uN (d:=48) e3 (by have h:=h.2;rw[List.head?_eq_getElem?,hc0] at h;exact aV h)
  case' no=>have h48:¬(1<eS l/\l.head?=some 48):=fun h=>by have h:=h.1;have:=aW e2;rw[wj] at this;omega
  all_goals
   (conv=>whnf);refine e6 (fun hx=>absurd hx (by simp[*])) (fun _=>?_);(conv=>whnf);apply gM<;>intro e5<;>conv=>whnf
   ·exact no (hR.trans (hN.trans (aA (.inr (.inr (.inr (by have:=aO e5;rw[wj] at this;omega)))))))
   have h17:¬17<=eS l:=by have:=aW e5;rw[wj] at this;omega
   have hr:R=((iK (l.take (eS l)):Int),0+eS l):=hR.trans (hN.trans (aB (fun h=>h.elim hk0 (fun h=>h.elim h48 (fun h=>h.elim (fun h=>by cases h.1) h17)))));cases hr;refine e6 (fun hx=>absurd hx (by simp[*])) (fun _=>?_);(conv=>whnf);have w2:IntKind.i64.wrap (((0+eS l:Nat):Int) - 0)=((0+eS l:Nat):Int):=by rw[bN (by omega) (by omega)];omega
   refine oO (cJ ?_) (Cl.tup (.cons (.i _ _) (.cons (.i _ _) .nil)));show GV.tup [.i .i64 ((iK (l.take (eS l)):Int)),.i .i64 (IntKind.i64.wrap (((0+eS l:Nat):Int) - 0))]=_;rw[w2]
theorem IR [MaxL] (s:List UInt8) (hs:s.length<dD):SC Tryz.prog 222 [.s s,.i .i64 0] [] (.val (.tup [.i .i64 (lX s).1,.i .i64 ((lX s).2:Nat)])) []:=by
 by_cases h45:s.head?=some 45
 ·exact PX s hs h45
 by_cases hne:s=[]
 ·subst hne;show SC _ _ _ _ (.val (.tup [.i .i64 0,.i .i64 (0:Nat)])) _;refine bI Tryz.func222 rfl ?_;conv=>whnf
  refine bA (fun _:Unit=>True) (fun _=>[(0,.s []),(1,.i .i64 0),(4,.i .i64 0),(5,.i .i64 0),(6,.i .i64 0),(7,.b false),(8,.i .i64 0)]) (fun _=>⟨[],0,[]⟩) (fun _=>0) () trivial ⟨rfl,rfl,rfl,rfl,rfl,rfl,rfl,trivial⟩ rfl (fun _ φ0 _=>?_);conv=>whnf
  exact oW
 ·exact PW s hs h45 hne
end
section
open Go.RowKit Go.Sort
theorem UM [MaxL] {C:Cx} {w:World} (g:Nat) (x:GV) (t:TypeId) (hr:Rel C ⟨[],0,[]⟩ w w) (ht:Globals.tab g=some [.ifc t x]):∃p,w.cell? ⟨g,0,none⟩=some (.iface t p):=by
 obtain⟨u,hfx,hvr⟩:=hr.gl g _ 0 _ ht rfl;have:=hvr _ (fun _ _ _ h=>h);cases this;exact⟨_,hr.fxc _ _ _ hfx⟩
theorem NJ [MaxL] (fn s:List UInt8) (base bits:Int) (hs:s.length<=281474976710656):SC Tryz.prog 179 [.s fn,.s s,.i .i64 base,.i .i64 bits,.ifc 267 (.i .i64 2)] [] (.val (.ifc 270 .any)) []:=by
 refine SC.of_calls fun C w vs hr hv=>?_;obtain⟨v1,vs1,e,h1,hv⟩:=hv.cons_inv;obtain⟨v2,vs2,rfl,h2,hv⟩:=hv.cons_inv;obtain⟨v3,vs3,rfl,h3,hv⟩:=hv.cons_inv;obtain⟨v4,vs4,rfl,h4,hv⟩:=hv.cons_inv;obtain⟨v5,vs5,rfl,h5,hv⟩:=hv.cons_inv;have:vs5=[]:=aI (by simpa using hv.1);subst this;obtain rfl:vs= #[v1,v2,v3,v4,v5]:=by rw[<-gO (xs:=vs),e]
 cases h1;cases h2;cases h3;cases h4;cases h5 with
 |ifc h5=>
 cases h5;obtain⟨p,hp⟩:=UM 2 _ _ hr rfl;refine(Tryz.strconv_toError_syntax ⟨fn.toArray⟩ ⟨s.toArray⟩ base bits _ w (by simpa[ByteArray.size] using hs) hp (.inr ⟨_,_,rfl⟩)).mono ?_;rintro e w' ⟨N,he,_,_,hb⟩;exact⟨_,he,.below hb,.ifc (.any _)⟩
theorem uY [MaxL] (a b:UInt8):SC Tryz.prog 231 [.s [a,b],.i .i64 16,.i .i64 8] [] (.val (match wX a b with|some n=>.tup [.i .u64 n,.o .nilIface]|none=>.tup [.i .u64 0,.ifc 270 .any])) []:=by
 have hI:=HZ a b;refine bI Tryz.func231 rfl ?_;conv=>whnf
 cases h:wX a b with
 |some n=>
  rw[h] at hI;refine iY hI (wR _) rfl (fun _=>rfl) (fun _=>rfl) ?_;conv=>whnf
  exact mN rfl (fun _=>rfl)
 |none=>
  rw[h] at hI;refine iY hI (wR _) rfl (fun _=>rfl) (fun _=>rfl) ?_;conv=>whnf
  refine iY (NJ _ [a,b] 16 8 (by simp)) (wR _) rfl (fun _=>rfl) (fun _=>rfl) ?_;conv=>whnf
  exact mN rfl (fun _=>rfl)
theorem IE {w:World} {b:Nat} {c:Array Value} {t:TypeId} {fr:Nat×Nat} (h:w.heap[b]?=some (.cells c t fr)):w.shape? b=some (t,c.size):=by
 unfold World.shape?;rw[h]
def xN:GObj:=.box 122 [.o (.pointer none),.sl .full []]
def LA (bs:List UInt8):List GObj:=[.box 122 [.ptr 0 0,.sl (.own 1) (bs.map fun b=>.i .u8 b.toNat)],.own bs.length 1 5]
theorem AA:Go.Proofs.Lays.n240 Tryz.prog Tryz.lays156_ren:={Tryz.lays156 with}
theorem VRs.arr1 [MaxL] {C:Cx} {g:GV} {vs:Array Value} (h:VRs C [g] vs.toList):∃v,vs= #[v]/\VR C g v:=by
 obtain⟨v,vs',e,h1,h2⟩:=h.cons_inv;have:vs'=[]:=aI (by simpa using h2.1);subst this;exact⟨v,by rw[<-gO (xs:=vs),e],h1⟩
theorem VRs.arr2 [MaxL] {C:Cx} {g g':GV} {vs:Array Value} (h:VRs C [g,g'] vs.toList):∃v v',vs= #[v,v']/\VR C g v/\VR C g' v':=by
 obtain⟨v,vs',e,h1,h2⟩:=h.cons_inv;obtain⟨v',vs',rfl,h3,h4⟩:=h2.cons_inv;have:vs'=[]:=aI (by simpa using h4.1);subst this;exact⟨v,v',by rw[<-gO (xs:=vs),e],h1,h3⟩
theorem VR.unit [MaxL] {C:Cx}:VR C (.tup []) (.tuple #[]):=.tup rfl (fun j g u h=>by simp at h)
theorem HY [MaxL]:SC Tryz.prog 84 [.ptr 0 0] [xN] (.val (.tup [])) [.box 122 [.ptr 0 0,.sl .full []]]:=by
 refine⟨rL _,fun C w vs hr hv=>?_,fun x hx=>by simp at hx;subst hx;simp⟩;obtain⟨v,rfl,hv1⟩:=hv.arr1;obtain⟨h0,b,cs,hb,ho,hcs⟩:=hr.obj 0 _ rfl;obtain⟨u,u',rfl,hu,hu'⟩:=(BoxV.exact hcs rfl).arr2;cases hv1 with
 |ptr hb'=>
 rw[hb] at hb';cases hb';cases hu;have hc0:w.cell? ⟨b,0,none⟩=some (.pointer none):=by simp[World.cell?,ho]
 refine(Any.Builder_copyCheck_fresh AA Tryz.Builder_Extra_156.toX72 b w hc0 (IE ho) (by simp[World.frozen?,ho])).mono ?_;rintro e w' ⟨rfl,rfl⟩;refine⟨C,.refl C,Rel.setObj (r:=0) (b:=b) hr (by simp) hb _ ⟨h0,b,_,hb,heap_setCell_same w b 0 _ _ _ ho,?_⟩ rfl rfl rfl (by simp[World.setCell]) (fun k hk=>heap_setCell_other w _ k _ hk),_,rfl,.unit⟩;exact VRs.box (.cons (.ptr hb) (.cons hu' .nil))
theorem zG [MaxL] (x:GV) (os:List GObj) (hn:∀y∈os,y≠ .held):SC Tryz.prog 84 [.ptr 0 0] (.box 122 [.ptr 0 0,x]::os) (.val (.tup [])) (.box 122 [.ptr 0 0,x]::os):=by
 refine⟨rL _,fun C w vs hr hv=>?_,fun y hy=>by
  rcases List.mem_cons.1 hy with rfl|hy
  ·simp
  ·exact hn y hy⟩
 obtain⟨v,rfl,hv1⟩:=hv.arr1;obtain⟨h0,b,cs,hb,ho,hcs⟩:=hr.obj 0 _ rfl;obtain⟨u,u',rfl,hu,hu'⟩:=(BoxV.exact hcs rfl).arr2;cases hv1 with
 |ptr hb'=>
 rw[hb] at hb';cases hb';cases hu with
 |ptr hb'=>
 rw[hb] at hb';cases hb';have hc0:w.cell? ⟨b,0,none⟩=some (.pointer (some ⟨b,0,none⟩)):=by simp[World.cell?,ho]
 refine(Any.Builder_copyCheck_used AA Tryz.Builder_Extra_156.toX72 b w hc0).mono ?_;rintro e w' ⟨rfl,rfl⟩;exact⟨C,.refl C,hr,_,rfl,.unit⟩
end
section
open Go.RowKit Go.Sort
def qP (bs:List UInt8):List GV:=bs.map fun b=>.i .u8 b.toNat
theorem a09 [MaxL] (bs:List UInt8) (f:Nat->Nat):GV.renL f (qP bs)=qP bs:=by rw[bX];exact ClL.mapOf (fun _=>Cl.i _ _) bs f
theorem lN (bs:List UInt8):(qP bs).length=bs.length:=by simp[qP]
theorem NO (bs:List UInt8):(qP bs).all (fun x=>x.cells.length==1)=true:=by
 rw[aZ];intro x hx;obtain⟨b,_,rfl⟩:=List.mem_map.1 hx;rfl
theorem UZ (bs:List UInt8):(qP bs).all (oE 1)=true:=by
 rw[aZ];intro x hx;obtain⟨b,_,rfl⟩:=List.mem_map.1 hx;rfl
def fI (q p:Nat) (bs:List UInt8):GObj:=.box 122 [.ptr q 0,.sl (.own p) (qP bs)]
def kH (n:Nat):GObj:=.own n 1 5
theorem m9 [MaxL] (f:Nat->Nat) (q p:Nat) (bs:List UInt8):(fI q p bs).ren f=fI (f q) (f p) bs:=by
 show GObj.box _ [.ptr (f q) 0,.sl (.own (f p)) (GV.renL f (qP bs))]=_;rw[a09];rfl
theorem n4 [MaxL] {q p:Nat} {bs:List UInt8} {objs:List GObj} (hn:q≠p) (hq:objs[q]?=some (fI q p bs)) (hp:objs[p]?=some (kH bs.length)):Lies [q,p] (LA bs) objs:=by
 refine Lies.two hn ?_ hp (by simp) (by simp);have:=m9 (iB [q,p] objs.length) 0 1 bs;rw[show GObj.box 122 [.ptr 0 0,.sl (.own 1) (bs.map fun b=>.i .u8 b.toNat)]=fI 0 1 bs from rfl,this,hq];rfl
theorem A8 [MaxL] {p:Nat} {s:List GObj} {r r':GRes} {bs:List UInt8} {σ:GS} (hs:s.length<=2) (hp:s.length=2->p=1) (hp0:0≠p) (h0:σ.objs[0]?=some (fI 0 p bs)) (h1:σ.objs[p]?=some (kH bs.length)) (hr:r'.ren (iB [0,p] σ.objs.length)=r') (hrr:WkRes r r'):Owes s r' (LA bs) r σ:=by
 refine⟨[0,p],n4 hp0 h0 h1,fun i hi=>?_,by rw[hr];exact hrr⟩;rcases i with _|_|i
 ·rfl
 ·simp[hp (by omega)]
 ·omega
theorem xM [MaxL] (c:UInt8):SC Tryz.prog 192 [.ptr 0 0,.i .u8 c.toNat] [xN] (.val (.o .nilIface)) (LA [c]):=by
 refine f8 D6 mixed Tryz.func192 rfl (bL rfl) (by simp[LA]) rfl ?_;conv=>whnf
 refine rY HY [0] (objs':=[.box 122 [.ptr 0 0,.sl .full []]]) (Lies.one' rfl (by simp[xN])) (wR _) rfl rfl rfl rfl ?_;conv=>whnf
 refine⟨⟨rfl,rfl,bL rfl⟩,qP [c],1,⟨rfl,rfl⟩,?_⟩;conv=>whnf
 refine sT ?_;conv=>whnf
 exact A8 (p:=2) (by simp) (by simp) (by decide) rfl rfl rfl (iN _)
theorem zH [MaxL] (bs:List UInt8) (c:UInt8) (hl:bs.length<1000000000):SC Tryz.prog 192 [.ptr 0 0,.i .u8 c.toNat] (LA bs) (.val (.o .nilIface)) (LA (bs++[c])):=by
 refine f8 D6 mixed Tryz.func192 rfl (bL rfl) (by simp[LA]) rfl ?_;conv=>whnf
 refine rY (zG (.sl (.own 1) (qP bs)) [kH bs.length] (by simp[kH])) [0,1] (objs':=[fI 0 1 bs,kH bs.length]) (n4 (by decide) rfl rfl) (wR _) rfl rfl ?_ rfl ?_
 ·show[(fI 0 1 bs).ren (iB [0,1] 2),kH bs.length]=_;rw[m9];rfl
 conv=>whnf
 refine⟨⟨rfl,NO bs,by show(qP bs).length+1<=4294967296;rw[lN];omega⟩,qP (bs++[c]),(bs++[c]).length,⟨by simp[qP];rfl,by show _=(qP bs).length+1;rw[lN];simp⟩,?_⟩;conv=>whnf
 refine⟨⟨zL _,by rw[lN],.inl ⟨rfl,rfl⟩⟩,?_⟩;conv=>whnf
 refine sT ?_;conv=>whnf
 exact A8 (p:=1) (by simp[LA]) (fun _=>rfl) (by decide) rfl rfl rfl (iN _)
theorem DW [MaxL] (bs l:List UInt8) (hl:bs.length+l.length<1000000000):SC Tryz.prog 44 [.ptr 0 0,.s l] (LA bs) (.val (.tup [.i .i64 l.length,.o .nilIface])) (LA (bs++l)):=by
 refine f8 D6 mixed Tryz.func44 rfl (bL rfl) (by simp[LA]) rfl ?_;conv=>whnf
 refine rY (zG (.sl (.own 1) (qP bs)) [kH bs.length] (by simp[kH])) [0,1] (objs':=[fI 0 1 bs,kH bs.length]) (n4 (by decide) rfl rfl) (wR _) rfl rfl ?_ rfl ?_
 ·show[(fI 0 1 bs).ren (iB [0,1] 2),kH bs.length]=_;rw[m9];rfl
 conv=>whnf
 apply gM<;>intro h<;>conv=>whnf
 ·have:l=[]:=by simpa using h
  subst this;refine sT ?_;conv=>whnf
  rw[eH];exact A8 (p:=1) (by simp[LA]) (fun _=>rfl) (by decide) rfl rfl rfl (iN _)
 ·refine⟨⟨UZ l,NO bs,by show(qP bs).length+(qP l).length<=4294967296;rw[lN,lN];omega⟩,qP (bs++l),(bs++l).length,⟨by simp[qP],by show _=(qP bs).length+(qP l).length;rw[lN,lN];simp⟩,?_⟩;conv=>whnf
  refine⟨⟨zL _,by rw[lN],.inl ⟨rfl,rfl⟩⟩,?_⟩;conv=>whnf
  refine sT ?_;conv=>whnf
  exact A8 (p:=1) (by simp[LA]) (fun _=>rfl) (by decide) rfl rfl rfl (iN _)
theorem Y1 {α:Type} {x:Option α} {K:α->Prop} {a:α} (h:x=some a) (k:K a):rA x K:=by rw[h];exact k
theorem V0 [MaxL] (l:List UInt8):(qP l).flatMap GV.cells=qP l:=by
 induction l with
 |nil=>rfl
 |cons c t ih=>show[GV.i .u8 c.toNat]++(qP t).flatMap GV.cells=_;rw[ih];rfl
theorem UA [MaxL] (c:UInt8) (t:List UInt8) (r:Nat):CD (.sl (.own r) (qP (c::t)))=some (.dat r (qP (c::t))):=by
 show(if(!(qP (c::t)).isEmpty&&(qP (c::t)).all fun x=>x.cells.length==1)=true then some (GV.dat r (List.flatMap GV.cells (qP (c::t)))) else none)=_;rw[NO,V0];rfl
theorem EZ (l:List UInt8):rO (qP l)=some l:=by
 induction l with
 |nil=>rfl
 |cons c t ih=>show(rO (qP t)).map _=_;rw[ih];simp
theorem R7 (l:List UInt8):(qP l).all KI=true:=by
 rw[aZ];intro x hx;obtain⟨b,_,rfl⟩:=List.mem_map.1 hx;have:=bS b;simp[KI];omega
theorem U4 [MaxL] {P:Program} {pt ty:TypeId} {r esz:Nat} {σ:GS} (l:List UInt8) (ho:σ.objs[r]?=some (.own l.length esz ty)) (hl:l≠[]) (hlo:σ.lo<=r) (hp:LW P pt=some ty) (hc:P.cellsOf ty=1) (hlim:l.length<=D7):
  uS P pt (.dat r (qP l)) (.i .i64 l.length) σ=some (.s l,gset σ r .dead):=by
 simp only[uS,ho,EZ,lN,R7,hp,hc];rw[aA];simp[hlo,hlim];exact hl
theorem L6 [MaxL] (c:UInt8) (t:List UInt8) (hl:t.length<1000000000):SC Tryz.prog 46 [.ptr 0 0] (LA (c::t)) (.val (.s (c::t))) [fI 0 1 (c::t),.dead]:=by
 refine f8 D6 mixed Tryz.func46 rfl (bL rfl) (by simp[LA]) rfl ?_;conv=>whnf
 refine hH _ _ _ rfl rfl rfl (by kernel_rfl) ?_;conv=>whnf
 refine Y1 (a:=(.dat 1 (qP (c::t)),_)) (by show Option.map _ (CD (.sl (.own 1) (qP (c::t))))=_;rw[UA];rfl) ?_;conv=>whnf
 refine Y1 (a:=(.s (c::t),⟨[fI 0 1 (c::t),.dead],0,[]⟩)) ?_ ?_
 ·show uS Tryz.prog _ (.dat 1 (qP (c::t))) (.i .i64 (qP (c::t)).length) ⟨[fI 0 1 (c::t),kH (c::t).length],0,[]⟩=_;rw[lN];exact U4 (c::t) rfl (by simp) (by simp) (by kernel_rfl) (by kernel_rfl) (by unfold D7;simp;omega)
 conv=>whnf
 refine⟨[0,1],Lies.two (by decide) ?_ rfl (by simp[fI]) (by simp),fun i hi=>?_,iN _⟩
 ·show some (fI 0 1 (c::t))=some ((fI 0 1 (c::t)).ren (iB [0,1] 2));rw[m9];rfl
 ·rcases i with _|_|i
  ·rfl
  ·rfl
  ·simp[LA] at hi;omega
end
