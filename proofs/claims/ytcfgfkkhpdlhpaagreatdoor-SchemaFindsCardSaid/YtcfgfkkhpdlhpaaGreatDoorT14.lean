/-
  A part of the proof of SchemaFinds.
-/
import Derived.Test.YtcfgfkkhpdlhpaaGreatDoorT13
import Derived.LoopN
import Derived.Recover
import Derived.RangeFuncNested
set_option linter.all false
namespace Go.Proofs.YtcfgfkkhpdlhpaaGreatDoor
open Go.RowKit
variable [Globals]
def IQ:Nat->(Fr->GS->Option (GX×Fr×GS))->Fr->GS->Option (GX×Fr×GS)
 |0,_,_,_=>none
 |m+1,f,φ,σ=>
  match f φ σ with
  |some (.normal,φ',σ')=>IQ m f φ' σ'
  |r=>r
def BZ (ro:Option Nat) (σ:GS):Option (Nat×GS):=
 match ro with
 |none=>some (σ.objs.length,{gnew σ .dfr with ds:=.coll σ.objs.length::σ.ds})
 |some r0=>match σ.objs[r0]? with
  |some (.loop _ _ _ _ _ _ _ rd)=>some (rd,σ)
  |_=>none
def tY (l:Nat) (φ:Fr) (σ:GS):Option (GX×Fr×GS):=
 if σ.lo<=l then
  match σ.objs[l]? with
  |some (.loop .busy _ _ _ _ _ _ _)=>none
  |some (.loop _ none _ _ _ _ _ _)=>some (.normal,φ,gset σ l .dead)
  |some (.loop _ (some .ret) _ _ _ _ _ _)=>some (.ret,φ,gset σ l .dead)
  |some (.loop _ (some (.exit id)) _ _ _ _ _ _)=>some (.exit id,φ,gset σ l .dead)
  |_=>none
 else none
def a3N:Nat:=1000000
def a3H (id:Nat) (ops:Array Oper):Nat:=a3N+(id+1000*((ops[0]?).bind (·.dst)).getD 0+100000*ops.size)
def KO (P:Program) (M:FuncId->Bool) (call:fT) (n:Nat) (ops:Array Oper) (φ:Fr) (σ:GS) (p:Nat):Option (GX×Fr×GS):=
 match ops[p]? with
 |some op=>match BR P call false n ops (ops.toList.take p) φ σ with
  |some (.normal,φ1,σ1)=>match cI ops op φ1 with
   |some true=>match dI P call op (dA φ1) σ1 with
    |some (.panic g,σ')=>some (.panic g,X7 ops φ,σ')
    |_=>none
   |_=>none
  |_=>none
 |none=>none
def JT (P:Program) (M:FuncId->Bool) (n:Nat) (ops:Array Oper):List Nat:=(List.range ops.size).filter fun p=>yI P M n ops p&&(match ops[p]? with|some o=>dC M o.op==2|none=>false)
def NB (P:Program) (M:FuncId->Bool) (call:fT) (n:Nat) (ops:Array Oper) (φ:Fr) (σ:GS):Option (GX×Fr×GS):=
 match JT P M n ops with
 |[p]=>KO P M call n ops φ σ p
 |_=>none
def gZ (P:Program) (M:FuncId->Bool) (call:fT) (ro:Option Nat) (n m:Nat):Code->Fr->GS->Option (GX×Fr×GS)
 |.skip,φ,σ=>some (.normal,φ,σ)
 |.label _,φ,σ=>some (.normal,φ,σ)
 |.region id ops draw,φ,σ=>if draw then(if M (a3H id ops) then NB P M call n ops φ σ else if calm M ops then NN P M call n ops φ σ else GC P M call n ops φ σ) else BR P call ro.isNone n ops ops.toList φ σ
 |.seq a b,φ,σ=>
  match gZ P M call ro n m a φ σ with
  |some (.normal,φ',σ')=>gZ P M call ro n m b φ' σ'
  |r=>r
 |.cond c a b,φ,σ=>
  match dA φ c with
  |.b t=>if t then gZ P M call ro n m a φ σ else gZ P M call ro n m b φ σ
  |_=>none
 |.block id c,φ,σ=>
  match gZ P M call ro n m c φ σ with
  |some (.exit i,φ',σ')=>if i=id then some (.normal,φ',σ') else some (.exit i,φ',σ')
  |r=>r
 |.loop c,φ,σ=>IQ m (gZ P M call ro n m c) φ σ
 |.exit id,φ,σ=>some (.exit id,φ,σ)
 |.ret,φ,σ=>some (.ret,φ,σ)
 |.rangeFunc f ps asg body,φ,σ=>
  match dA φ f with
  |.fn (.func k) first cap=>
   if m4 P k then
    match BZ ro σ with
    |some (rd,σ1)=>
     match call (.fn k) (first++.yld σ1.objs.length::cap) (gnew σ1 (.loop .ready none n φ ps asg body rd)) with
     |some (.val _,σ2)=>tY σ1.objs.length φ σ2
     |some (.panic g,σ2)=>some (.panic g,φ,σ2)
     |none=>none
    |none=>none
   else none
  |_=>none
 |_,_,_=>none
section
variable {P : Program} {call : fT} {M : FuncId → Bool} {w0 : World} {n m : Nat} {ro : Option Nat}
theorem G5 {f:Fr->GS->Option (GX×Fr×GS)} (hf:∀φ σ x φ' σ',f φ σ=some (x,φ',σ')->Keep σ σ'):∀(m:Nat) (φ φ':Fr) (σ σ':GS) (x:GX),IQ m f φ σ=some (x,φ',σ')->Keep σ σ'
 |0,_,_,_,_,_,h=>by cases h
 |m+1,φ,φ',σ,σ',x,h=>by
  simp only[IQ] at h;split at h
  ·rename_i φ1 σ1 h1;exact(hf _ _ _ _ _ h1).trans (G5 hf m _ _ _ _ _ h)
  ·exact hf _ _ _ _ _ h
theorem PY (hcall:bZ P w0 call) {ops:Array Oper} {φ φ':Fr} {σ σ':GS} {x:GX} (h:NN P M call n ops φ σ=some (x,φ',σ')):Keep σ σ':=by
 unfold NN at h;split at h
 ·split at h
  ·rename_i h1;cases h;exact qM hcall _ _ _ _ _ _ h1
  ·cases h
 ·cases h
theorem NC (hcall:bZ P w0 call) {ops:Array Oper} {φ φ':Fr} {σ σ':GS} {x:GX} {p:Nat} (h:KO P M call n ops φ σ p=some (x,φ',σ')):Keep σ σ':=by
 unfold KO at h;split at h
 ·split at h
  ·rename_i h1;split at h
   ·split at h
    ·rename_i h2;cases h;exact(qM hcall _ _ _ _ _ _ h1).trans (rG hcall h2)
    ·cases h
   ·cases h
  ·cases h
 ·cases h
theorem PQ (hcall:bZ P w0 call) {ops:Array Oper} {φ φ':Fr} {σ σ':GS} {x:GX} (h:NB P M call n ops φ σ=some (x,φ',σ')):Keep σ σ':=by
 unfold NB at h;split at h
 ·exact NC hcall h
 ·cases h
theorem NA (hm:P.follows .mixedOrders=true) (hcall:bZ P w0 call) (hpure:dR M call) {rb:Option Nat} {C:Cx} {φ φ':Fr} {σ σ':GS} {x:GX} {id:Nat} {ops:Array Oper} {Q:Exit->Act->World->Prop} {a:Act} {w:World}
  (hg:NB P M call n ops φ σ=some (x,φ',σ')) (hr:Rel C σ w0 w) (hf:FRel C φ a) (hn:a.tmps.size=n) (hd0:DRel C σ.ds a.defers) (hq:QOk w0 C Q n x φ' σ'):(Code.region id ops true).wpIn (FW rb) 0 P Q a w:=by
 unfold NB at hg;split at hg
 ·rename_i p hp;have hmem:p∈JT P M n ops:=by rw[hp];simp
  unfold JT at hmem;simp only[List.mem_filter,f5,aH] at hmem;obtain⟨hps,hcp,_⟩:=hmem;unfold KO at hg;split at hg
  ·rename_i op hop;split at hg
   ·rename_i φ1 σ1 h1;split at hg
    ·rename_i hw;split at hg
     ·rename_i g σ2 h2;cases hg;have hlen:(ops.toList.take p).length=p:=by simp;omega
      obtain⟨Φ,S,G,e1,e2,e3,e4,e5⟩:=EK (ops.toList.take p) 0 φ φ1 σ σ1 (fun j hj=>by rw[hlen] at hj;rw[dJ,aG hj];simp) h1;rw[bB,hlen] at e3 e4;refine D5 (call:=fun _=>call) (Φ:=Φ) (S:=S) (G:=G) hm (fun _=>hcall) (fun _=>hpure) hcp hop (fun i o hi ho=>e5 i o (zL _) (by rw[hlen];omega) ho) ?_ ?_ e1 e2 hr hf hn hd0 hq
      ·rw[e3];exact hw
      ·rw[e3,e4];exact h2
     ·cases hg
    ·cases hg
   ·cases hg
  ·cases hg
 ·cases hg
theorem NJ {σ σ1:GS} {rd:Nat} (h:BZ ro σ=some (rd,σ1)):Keep σ σ1:=by
 unfold BZ at h;split at h
 ·cases h;exact(Keep.gnew σ _).dsr
 ·split at h
  ·cases h;exact .refl σ
  ·cases h
theorem HI {l:Nat} {φ φ':Fr} {σ σ':GS} {x:GX} (h:tY l φ σ=some (x,φ',σ')):Keep σ σ':=by
 unfold tY at h;split at h
 ·rename_i hlo;split at h<;>first
   |(cases h;done)
   |(rename_i ho;cases h;exact .gset σ _ hlo ho (by simp))
 ·cases h
theorem vC (hcall:bZ P w0 call):∀(c:Code) (φ φ':Fr) (σ σ':GS) (x:GX),gZ P M call ro n m c φ σ=some (x,φ',σ')->Keep σ σ':=by
 intro c;induction c with
 |skip=>intro φ φ' σ σ' x h;simp only[gZ] at h;cases h;exact .refl σ
 |label l=>intro φ φ' σ σ' x h;simp only[gZ] at h;cases h;exact .refl σ
 |region id ops draw=>
  intro φ φ' σ σ' x h;simp only[gZ] at h;split at h
  ·split at h
   ·exact PQ hcall h
   split at h
   ·exact PY hcall h
   ·exact NM hcall h
  ·exact qM hcall _ _ _ _ _ _ h
 |seq a b iha ihb=>
  intro φ φ' σ σ' x h;simp only[gZ] at h;split at h
  ·rename_i h1;exact(iha _ _ _ _ _ h1).trans (ihb _ _ _ _ _ h)
  ·exact iha _ _ _ _ _ h
 |cond c a b iha ihb=>
  intro φ φ' σ σ' x h;simp only[gZ] at h;split at h
  ·split at h
   ·exact iha _ _ _ _ _ h
   ·exact ihb _ _ _ _ _ h
  ·cases h
 |block id c ih=>
  intro φ φ' σ σ' x h;simp only[gZ] at h;split at h
  ·rename_i h1;split at h<;>(cases h;exact ih _ _ _ _ _ h1)
  ·exact ih _ _ _ _ _ h
 |loop c ih=>
  intro φ φ' σ σ' x h;simp only[gZ] at h;exact G5 (fun φ σ x φ' σ' h=>ih φ φ' σ σ' x h) m _ _ _ _ _ h
 |exit id=>intro φ φ' σ σ' x h;simp only[gZ] at h;cases h;exact .refl σ
 |ret=>intro φ φ' σ σ' x h;simp only[gZ] at h;cases h;exact .refl σ
 |rangeFunc f ps asg body iha ihb=>
  intro φ φ' σ σ' x h;simp only[gZ] at h;split at h
  ·split at h
   ·split at h
    ·rename_i rd σ1 hent;have k1:=NJ hent;split at h
     ·rename_i hc;exact(k1.trans (.gnew σ1 _)).trans ((hcall _ _ _ _ _ hc).1.trans (HI h))
     ·rename_i hc;cases h;exact(k1.trans (.gnew σ1 _)).trans (hcall _ _ _ _ _ hc).1
     ·cases h
    ·cases h
   ·cases h
  ·cases h
 |_=>intro φ φ' σ σ' x h;simp only[gZ] at h;cases h
def RoR (C:Cx):Option Nat->Option Nat->Prop
 |none,none=>True
 |some r,some b=>C.bk r=some b
 |_,_=>False
theorem RoR.mono {C D:Cx} (hl:C.le D):∀{ro rb:Option Nat},RoR C ro rb->RoR D ro rb
 |none,none,_=>trivial
 |some _,some _,h=>hl.bk _ _ h
theorem RoR.none_of {C:Cx}:∀{ro rb:Option Nat},RoR C ro rb->ro.isNone=true->rb=none
 |none,none,_,_=>rfl
theorem Rel.putLoop {C:Cx} {σ:GS} {w:World} (h:Rel C σ w0 w) {r b:Nat} {o:Obj} (hr:r<σ.objs.length) (hb:C.bk r=some b) (x:GObj) (hx:ORel C (w.putObj b o) r x):
  Rel C (gset σ r x) w0 (w.putObj b o):=
 h.setObj hr hb x hx rfl rfl rfl (by simp[World.putObj]) (fun k hk=>World.putObj_heap_other hk)
theorem GB {C:Cx} {σ:GS} {w:World} {l b:Nat} {φ φ':Fr} {σ':GS} {x:GX} (h:Rel C σ w0 w) (hb:C.bk l=some b) (hg:tY l φ σ=some (x,φ',σ')):
  φ'=φ/\σ'.ds=σ.ds/\∃jump w',(Instr.endLoop b).run P w=.ok jump w'/\Rel C σ' w0 w'/\
   ((jump=none/\x=.normal)∨(jump=some .ret/\x=.ret)∨∃id,jump=some (.exit id)/\x=.exit id):=by
 unfold tY at hg;split at hg
 ·have fin:∀{st:LoopState} {pe:Option Code} {n:Nat} {ψ:Fr} {ps:Array Tmp} {asg body:Code} {rd:Nat},σ.objs[l]?=some (.loop st pe n ψ ps asg body rd)->st≠ .busy->
    ∃w',(Instr.endLoop b).run P w=.ok pe w'/\Rel C (gset σ l .dead) w0 w':=by
   intro st pe n ψ ps asg body rd ho hst;obtain⟨h0,b',L,h1,h2,h3,h4,_⟩:=h.obj l _ ho;rw[hb] at h1;cases h1;have hlt:b<w.heap.size:=(Array.getElem?_eq_some_iff.1 h2).1;refine⟨_,by rw[run_endLoop h2 (by rw[h3];exact hst),h4],h.putLoop (List.getElem?_eq_some_iff.1 ho).1 hb .dead ⟨.inr h0,fun b' hb'=>?_⟩⟩;rw[fZ hb] at hb';cases hb';simpa[World.putObj] using hlt
  split at hg
  ·cases hg
  ·rename_i st _ _ _ _ _ _ hne ho;cases hg;obtain⟨w',h1,h2⟩:=fin ho (fun e=>hne e);exact⟨rfl,rfl,none,w',h1,h2,.inl ⟨rfl,rfl⟩⟩
  ·rename_i st _ _ _ _ _ _ hne ho;cases hg;obtain⟨w',h1,h2⟩:=fin ho (fun e=>hne e);exact⟨rfl,rfl,_,w',h1,h2,.inr (.inl ⟨rfl,rfl⟩)⟩
  ·rename_i st id _ _ _ _ _ _ hne ho;cases hg;obtain⟨w',h1,h2⟩:=fin ho (fun e=>hne e);exact⟨rfl,rfl,_,w',h1,h2,.inr (.inr ⟨id,rfl,rfl⟩)⟩
  ·cases hg
 ·cases hg
def qV (F:Fence) (n:Nat) (P:Program) (c:Code) (Q:Exit->Act->World->Prop):Nat->Act->World->Prop
 |0,_,_=>False
 |j+1,a,w=>c.wpIn F n P (Exit.then (qV F n P c Q j) Q) a w
theorem sW {F:Fence} {i:Nat} {Q:Exit->Act->World->Prop} {a:Act} {w:World} {c:Code} (j:Nat) (h:qV F i P c Q j a w):(Code.loop c).wpIn F i P Q a w:=by
 intro b k cs hro hb hr;have key:∀j a w,qV F i P c Q j a w->
   ∃e a' w',Q e a' w'/\ArrivesIn (Machine.fenced P F) P (lone (b.atR a (.code c::.inLoop c::k)) cs w) b k cs e a' w':=by
  intro j;induction j with
  |zero=>intro a w h;exact h.elim
  |succ j ih=>
   intro a w h;obtain⟨e,a₁,w₁,hq,harr⟩:=h b (.inLoop c::k) cs hro hb hr;cases e with
   |normal=>
    obtain⟨e₂,a₂,w₂,hq₂,harr₂⟩:=ih a₁ w₁ hq;exact⟨e₂,a₂,w₂,hq₂,.of_steps (StepsIn.trans harr (.one (fenced_calm hb hr rfl) stepR_inLoop)) harr₂⟩
   |exit id=>exact⟨_,a₁,w₁,hq,.pass (x:=.inLoop c) rfl (fun _ _=>.inl (by simp)) harr⟩
   |goto l=>exact⟨_,a₁,w₁,hq,.pass (x:=.inLoop c) rfl (fun _ _=>.inl (by simp)) harr⟩
   |ret=>exact⟨_,a₁,w₁,hq,.pass (x:=.inLoop c) rfl (fun _ _=>.inl (by simp)) harr⟩
   |panic ch=>exact⟨_,a₁,w₁,hq,.pass (x:=.inLoop c) rfl (fun _ _=>.inl (by simp)) harr⟩
   |outgrown=>exact⟨_,a₁,w₁,hq,.pass (x:=.inLoop c) rfl (fun _ _=>.inl (by simp)) harr⟩
 obtain⟨e,a',w',hq,harr⟩:=key j a w h;exact⟨e,a',w',hq,.of_steps (.one (fenced_calm hb hr rfl) stepR_loop) harr⟩
theorem n5 (hm:P.follows .mixedOrders=true) (hcall:bZ P w0 call) (hpure:dR M call):∀(c:Code) (Q:Exit->Act->World->Prop) (C:Cx) (rb:Option Nat) (φ φ':Fr) (σ σ':GS) (x:GX) (a:Act) (w:World),
  gZ P M call ro n m c φ σ=some (x,φ',σ')->RoR C ro rb->Rel C σ w0 w->FRel C φ a->a.tmps.size=n->DRel C σ.ds a.defers->QOk w0 C Q n x φ' σ'->c.wpIn (FW rb) 0 P Q a w:=by
 intro c;induction c with
 |skip=>intro Q C rb φ φ' σ σ' x a w h ho hr hf hn hd hq;simp only[gZ] at h;cases h;exact wpIn_skip (hq C a w (.refl C) hf hn hd hr)
 |label l=>intro Q C rb φ φ' σ σ' x a w h ho hr hf hn hd hq;simp only[gZ] at h;cases h;exact wpIn_label (hq C a w (.refl C) hf hn hd hr)
 |exit id=>intro Q C rb φ φ' σ σ' x a w h ho hr hf hn hd hq;simp only[gZ] at h;cases h;exact wpIn_exit (hq C a w (.refl C) hf hn hd hr)
 |ret=>intro Q C rb φ φ' σ σ' x a w h ho hr hf hn hd hq;simp only[gZ] at h;cases h;exact wpIn_ret (hq C a w (.refl C) hf hn hd hr)
 |region id ops draw=>
  intro Q C rb φ φ' σ σ' x a w h ho hr hf hn hd hq;simp only[gZ] at h;cases draw with
  |true=>
   rw[aG rfl] at h;split at h
   ·exact NA hm hcall hpure h hr hf hn hd hq
   split at h
   ·exact NK hm hcall hpure h hr hf hn hd hq
   ·exact KU hm hcall hpure h hr hf hn hd hq
  |false=>exact wpIn_region_list (vA hcall (fun e=>ho.none_of e) _ C φ φ' σ σ' x a w (by simpa using h) hr hf hn hd hq)
 |seq c1 c2 ih1 ih2=>
  intro Q C rb φ φ' σ σ' x a w h ho hr hf hn hd hq;simp only[gZ] at h;refine wpIn_seq ?_;split at h
  ·rename_i φ1 σ1 h1;refine ih1 _ C rb φ φ1 σ σ1 _ a w h1 ho hr hf hn hd (fun D a1 w1 hl hf1 hn1 hd1 hr1=>?_);exact ih2 Q D rb φ1 φ' σ1 σ' x a1 w1 h (ho.mono hl) hr1 hf1 hn1 hd1 (hq.mono hl)
  ·rename_i hne;refine ih1 _ C rb φ φ' σ σ' x a w h ho hr hf hn hd (fun D a1 w1 hl hf1 hn1 hd1 hr1=>?_);have:=hq D a1 w1 hl hf1 hn1 hd1 hr1;cases x with
   |normal=>exact absurd h (hne _ _)
   |exit id=>exact this
   |ret=>exact this
   |panic g=>exact this
 |cond c c1 c2 ih1 ih2=>
  intro Q C rb φ φ' σ σ' x a w h ho hr hf hn hd hq;simp only[gZ] at h;split at h
  ·rename_i t ht;have hv:=dQ hf c;rw[ht] at hv;generalize hu:a.eval c=u at hv;cases hv;refine wpIn_cond hu ?_;cases t with
   |true=>exact ih1 Q C rb φ φ' σ σ' x a w (by simpa using h) ho hr hf hn hd hq
   |false=>exact ih2 Q C rb φ φ' σ σ' x a w (by simpa using h) ho hr hf hn hd hq
  ·cases h
 |block id c ih=>
  intro Q C rb φ φ' σ σ' x a w h ho hr hf hn hd hq;simp only[gZ] at h;refine wpIn_block ?_;split at h
  ·rename_i i φ1 σ1 h1;refine ih _ C rb φ φ1 σ σ1 _ a w h1 ho hr hf hn hd (fun D a1 w1 hl hf1 hn1 hd1 hr1=>?_);split at h
   ·rename_i hi;cases h;show if i=id then Q .normal a1 w1 else Q (.exit i) a1 w1;rw[aG hi];exact hq D a1 w1 hl hf1 hn1 hd1 hr1
   ·rename_i hi;cases h;show if i=id then Q .normal a1 w1 else Q (.exit i) a1 w1;rw[aE hi];exact hq D a1 w1 hl hf1 hn1 hd1 hr1
  ·rename_i hne;refine ih _ C rb φ φ' σ σ' x a w h ho hr hf hn hd (fun D a1 w1 hl hf1 hn1 hd1 hr1=>?_);have:=hq D a1 w1 hl hf1 hn1 hd1 hr1;cases x with
   |normal=>exact this
   |exit id=>exact absurd h (hne _ _ _)
   |ret=>exact this
   |panic g=>exact this
 |loop c ih=>
  intro Q C rb φ φ' σ σ' x a w h ho hr hf hn hd hq;simp only[gZ] at h;refine sW m ?_;have key:∀(k:Nat) (C:Cx) (φ:Fr) (σ:GS) (a:Act) (w:World),IQ k (gZ P M call ro n m c) φ σ=some (x,φ',σ')->RoR C ro rb->Rel C σ w0 w->FRel C φ a->a.tmps.size=n->
    DRel C σ.ds a.defers->QOk w0 C Q n x φ' σ'->qV (FW rb) 0 P c Q k a w:=by
   intro k;induction k with
   |zero=>intro C φ σ a w h;cases h
   |succ k ihk=>
    intro C φ σ a w h ho hr hf hn hd hq;simp only[IQ] at h;unfold qV;split at h
    ·rename_i φ1 σ1 h1;refine ih _ C rb φ φ1 σ σ1 _ a w h1 ho hr hf hn hd (fun D a1 w1 hl hf1 hn1 hd1 hr1=>?_);exact ihk D φ1 σ1 a1 w1 h (ho.mono hl) hr1 hf1 hn1 hd1 (hq.mono hl)
    ·rename_i hne;refine ih _ C rb φ φ' σ σ' x a w h ho hr hf hn hd (fun D a1 w1 hl hf1 hn1 hd1 hr1=>?_);have:=hq D a1 w1 hl hf1 hn1 hd1 hr1;cases x with
     |normal=>exact absurd h (hne _ _)
     |exit id=>exact this
     |ret=>exact this
     |panic g=>exact this
  exact key m C φ σ a w h ho hr hf hn hd hq
 |rangeFunc f ps asg body iha ihb=>
  intro Q C rb φ φ' σ σ' x a w h ho hr hf hn hd hq;simp only[gZ] at h;split at h
  ·rename_i k first cap hfv
   split at h
   ·rename_i hk;split at h
    ·rename_i rd σ1 hent;have hv0:=dQ hf f;rw[hfv] at hv0;generalize hu:a.eval f=u at hv0;cases hv0 with
     |fn h1 h2 h3 h4=>
     rename_i va vc;have e1:VRs C first va.toList:=⟨by simpa using h1,fun j g u a b=>h3 j g u a (by simpa using b)⟩
     have e2:VRs C cap vc.toList:=⟨by simpa using h2,fun j g u a b=>h4 j g u a (by simpa using b)⟩;refine wpIn_rangeFunc (fun fn _=>?_);have enter:∃(D:Cx) (l:Nat) (mark:List Deferred) (w1:World),C.le D/\D.bk σ1.objs.length=some l/\(Instr.enterLoop fn a.tmps ps asg body (FW rb).round).run P w=.ok (l,mark) w1/\
       Rel D (gnew σ1 (.loop .ready none n φ ps asg body rd)) w0 w1/\DRel D σ1.ds (mark++a.defers):=by
      cases ro with
      |none=>
       cases rb with
       |some b=>exact ho.elim
       |none=>
       simp only[BZ] at hent;cases hent;obtain⟨D1,hl1,hb1,hr1⟩:=hr.newObj .dfr (.deferred (some [])) (fun D _ hb ho=>⟨ho,_,hb,heap_alloc_new w _⟩);have hr1':Rel D1 {gnew σ .dfr with ds:=.coll σ.objs.length::σ.ds} w0 (w.alloc (.deferred (some []))):=hr1.ds _;obtain⟨D2,hl2,hb2,hr2⟩:=hr1'.newObj (.loop .ready none n φ ps asg body σ.objs.length) (.loop {state:=.ready,pending:=none,fn,tmps:=a.tmps,params:=ps,assign:=asg,body,defers:=w.heap.size})
        (fun D hl hb ho=>⟨ho,_,_,hb,heap_alloc_new _ _,rfl,rfl,rfl,rfl,rfl,hn,fun t=>(hf t).mono (hl1.trans hl),hl.bk _ _ hb1⟩)
       refine⟨D2,w.heap.size+1,_,_,hl1.trans hl2,by rw[hb2];simp,run_enterLoop_outer _ _ _ _ _,hr2,⟨w.heap.size,hl2.bk _ _ hb1,rfl⟩,hd.mono (hl1.trans hl2)⟩
      |some r0=>
       cases rb with
       |none=>exact ho.elim
       |some b=>
       have hob:C.bk r0=some b:=ho;simp only[BZ] at hent;split at hent
       ·rename_i ho0;cases hent;obtain⟨h0,b',L,g1,g2,_,_,_,_,_,_,_,g9⟩:=hr.obj _ _ ho0;rw[hob] at g1;cases g1;obtain⟨D2,hl2,hb2,hr2⟩:=hr.newObj (.loop .ready none n φ ps asg body rd) (.loop {state:=.ready,pending:=none,fn,tmps:=a.tmps,params:=ps,assign:=asg,body,defers:=L.defers})
         (fun D hl hb ho=>⟨ho,_,_,hb,heap_alloc_new _ _,rfl,rfl,rfl,rfl,rfl,hn,fun t=>(hf t).mono hl,hl.bk _ _ g9⟩)
        exact⟨D2,w.heap.size,[],_,hl2,hb2,run_enterLoop_inner g2 _ _ _ _ _,hr2,hd.mono hl2⟩
       ·cases hent
     obtain⟨D,l,mark,w1,hl,hbl,hrun,hrel,hdr⟩:=enter;have hargs:VRs D (first++.yld σ1.objs.length::cap) (va++ #[Value.func (.yield l) #[] #[]]++vc).toList:=by
      simp only[Array.toList_append];rw[bD];exact(e1.mono hl).append (VRs.cons (.yld hbl) (e2.mono hl))
     have hcs:∀(r:GRes) (σ2:GS),call (.fn k) (first++.yld σ1.objs.length::cap) (gnew σ1 (.loop .ready none n φ ps asg body rd))=some (r,σ2)->σ2.ds=σ1.ds/\
       Calls P k (va++ #[Value.func (.yield l) #[] #[]]++vc) w1 fun e w'=>∃E,D.le E/\Rel E σ2 w0 w'/\ERel E r e:=fun r σ2 hc=>by
      obtain⟨_,q1,q2⟩:=hcall _ _ _ _ _ hc;exact⟨q1,q2 D w1 _ hrel hargs⟩
     refine⟨l,mark,w1,{target:=.fn (.func k) vc,args:=va++ #[Value.func (.yield l) #[] #[]]},w1,k,va++ #[Value.func (.yield l) #[] #[]]++vc,w1,hrun,?_,fun _ _=>trivial,?_,fun h=>(by cases h),?_⟩
     ·simp only[resolve,hu];simp[go_sem,Deferred.ofValue]
     ·simp[invoke,pX hk]
     ·refine GW ?_;have fr':∀{E:Cx},D.le E->FRel E φ {a with defers:=mark++a.defers}:=fun hE t=>(hf t).mono (hl.trans hE);split at h
      ·rename_i g σ2 hc;obtain⟨q1,q2⟩:=hcs _ _ hc;refine q2.mono ?_;rintro e w' ⟨E,hE,hrE,v,rfl,hv⟩;obtain⟨rfl,p1,jump,w'',p2,p3,p4⟩:=GB hrE (hE.bk _ _ hbl) h;refine⟨jump,w'',p2,?_⟩;have hfin:=hq E {a with defers:=mark++a.defers} w'' (hl.trans hE) (fr' hE) hn (by rw[p1,q1];exact hdr.mono hE) p3;rcases p4 with⟨rfl,rfl⟩|⟨rfl,rfl⟩|⟨id,rfl,rfl⟩
       ·exact hfin
       ·exact wpIn_ret hfin
       ·exact wpIn_exit hfin
      ·rename_i g σ2 hc;cases h;obtain⟨q1,q2⟩:=hcs _ _ hc;refine q2.mono ?_;rintro e w' ⟨E,hE,hrE,v,rfl,hv⟩;exact hq E {a with defers:=mark++a.defers} w' (hl.trans hE) (fr' hE) hn (by rw[q1];exact hdr.mono hE) hrE v hv
      ·cases h
    ·cases h
   ·cases h
  ·cases h
 |_=>intro Q C rb φ φ' σ σ' x a w h;simp only[gZ] at h;cases h
end
end Go.Proofs.YtcfgfkkhpdlhpaaGreatDoor
namespace Go.Proofs.YtcfgfkkhpdlhpaaGreatDoor
open Go.RowKit
variable [Globals]
def oE (P:Program) (fn:Func) (tmps:Array Value) (R:Ending->World->Prop):List Deferred->FrameMode->World->Prop
 |[],.returning,w=>∃v,(results fn tmps).run P w=.ok v w/\R (.returned v) w
 |[],.panicking chain,w=>R (.panicked chain) w
 |[],.run,_=>False
 |d::ds,u,w=>u≠ .run/\
   ((∃r w',d.target=.collected r/\(Instr.takeDeferred r).run P w=.ok [] w'/\oE P fn tmps R ds u w')∨
   (∃fv cap f args,d.target=.fn fv cap/\(invoke d.target d.args).run P w=.ok (.enter f args) w/\
    CallsD P f args u w fun
     |.returned _,u',w'=>oE P fn tmps R ds (settle u') w'
     |.panicked chain,u',w'=>oE P fn tmps R ds (raised u' chain) w'
     |.outgrown,_,w'=>R .outgrown w'))
theorem sL {P:Program} {fn:Func} {tmps:Array Value} {R:Ending->World->Prop}:∀(ds:List Deferred) (u:FrameMode) (w:World) (fr:Frame)
  (cs:List Frame),fr.mode=u->fr.defers=ds->fr.tmps=tmps->P.funcs[fr.fn]?=some fn->fr.kind=.normal->oE P fn tmps R ds u w->
  ∃e w' fr',R e w'/\Comes P (lone fr cs w) (lone fr' cs w') e/\fr'.fn=fr.fn/\fr'.leaving P w' e:=by
 intro ds;induction ds with
 |nil=>
  intro u w fr cs hu hd ht hf hk h;cases u with
  |run=>exact h.elim
  |returning=>
   obtain⟨v,hr,hR⟩:=h;exact⟨.returned v,w,fr,hR,Steps.refl P _,rfl,hu,hd,hk,fn,hf,ht▸hr⟩
  |panicking chain=>exact⟨.panicked chain,w,fr,h,Steps.refl P _,rfl,hu,hd,fn,hf⟩
 |cons d ds ih=>
  intro u w fr cs hu hd ht hf hk h;obtain⟨hrun,⟨r,w',htar,htake,hrest⟩|⟨fv,cap,f,args,htar,hinv,hcall⟩⟩:=h
  ·have h1:=step_collected (cs:=cs) (hu▸hrun) hd htar htake;rw[List.nil_append] at h1;obtain⟨e',w'',fr',hR',hs',hfn',hl'⟩:=ih u w' {fr with defers:=ds} cs hu rfl ht hf hk hrest;exact⟨e',w'',fr',hR',Comes.of_steps (.one h1) hs',hfn',hl'⟩
  ·have h1:=step_defer (cs:=cs) (hu▸hrun) hd htar hinv;obtain⟨e,u',w',frX,hR,hsteps,hkX,hgo⟩:=hcall {fr with defers:=ds} cs hu;cases e with
   |returned v=>
    have h2:=step_going_returned (c:={{fr with defers:=ds} with mode:=u'}) (cs:=cs) hkX hgo;obtain⟨e',w'',fr',hR',hs',hfn',hl'⟩:=ih (settle u') w' {{{fr with defers:=ds} with mode:=u'} with mode:=settle u'} cs rfl rfl ht hf hk hR;exact⟨e',w'',fr',hR',Comes.of_steps (.head h1 (Steps.trans hsteps (.one h2))) hs',hfn',hl'⟩
   |panicked chain=>
    have h2:=step_going_panicked (c:={{fr with defers:=ds} with mode:=u'}) (cs:=cs) hgo;obtain⟨e',w'',fr',hR',hs',hfn',hl'⟩:=ih (raised u' chain) w' {{{fr with defers:=ds} with mode:=u'} with mode:=raised u' chain} cs rfl rfl ht hf hk hR;exact⟨e',w'',fr',hR',Comes.of_steps (.head h1 (Steps.trans hsteps (.one h2))) hs',hfn',hl'⟩
   |outgrown=>exact⟨.outgrown,w',fr,hR,Outgrown.of_steps (.one h1) hsteps,rfl,trivial⟩
def UU (P:Program) (fn:Func) (R:Ending->World->Prop):Exit->Act->World->Prop
 |.normal,a,w|.ret,a,w=>oE P fn a.tmps R a.defers .returning w
 |.panic chain,a,w=>oE P fn a.tmps R a.defers (.panicking chain) w
 |.outgrown,_,w=>R .outgrown w
 |_,_,_=>False
theorem vI {P:Program} {f:FuncId} {fn:Func} {c:Code} {args:Array Value} {w:World} {R:Ending->World->Prop}
  (hf:P.funcs[f]?=some fn) (hb:fn.body=some c)
  (h:c.wp P (UU P fn R) {tmps:=args++Array.replicate (fn.ntmps - args.size) undef,defers:=[]} w):Calls P f args w R:=by
 intro cs;let b:Frame:={(default:Frame) with fn:=f,kind:=.normal};have henter:Frame.enter P f args .normal=
   b.at {tmps:=args++Array.replicate (fn.ntmps - args.size) undef,defers:=[]} [.code c]:=by
  simp[Frame.enter,Frame.at,hf,hb,b]
 obtain⟨e,a',w',hq,harr⟩:=h b [] cs;rw[<-henter] at harr;cases e with
 |normal=>
  obtain⟨e',w'',fr',hR,hs,hfn,hl⟩:=sL a'.defers .returning w' {b.at a' [] with mode:=.returning} cs rfl rfl rfl hf rfl hq;exact⟨e',w'',fr',hR,Comes.of_steps (Steps.trans harr (.one step_end)) hs,hfn,hl⟩
 |ret=>
  obtain⟨todo,hs₀⟩:=harr;obtain⟨e',w'',fr',hR,hs,hfn,hl⟩:=sL a'.defers .returning w' {b.at a' todo with mode:=.returning} cs rfl rfl rfl hf rfl hq;exact⟨e',w'',fr',hR,Comes.of_steps hs₀ hs,hfn,hl⟩
 |panic chain=>
  obtain⟨todo,hs₀⟩:=harr;obtain⟨e',w'',fr',hR,hs,hfn,hl⟩:=sL a'.defers (.panicking chain) w' {b.at a' todo with mode:=.panicking chain} cs rfl rfl rfl hf rfl hq;exact⟨e',w'',fr',hR,Comes.of_steps hs₀ hs,hfn,hl⟩
 |exit id=>exact hq.elim
 |goto l=>exact hq.elim
 |outgrown=>exact⟨.outgrown,w',b,hq,harr.resolve_left (by simp[b]),rfl,trivial⟩
inductive GMode where
 |ret
 |pan (g:GV)
 |rcv
def xN:Op->Bool
 |.call {callee:=.builtin .recover,..}=>true
 |_=>false
def CZ (P:Program) (n:Nat) (ops:Array Oper):List Nat->Fr->GMode->GS->Option (Fr×GMode×GS)
 |[],φ,u,σ=>some (φ,u,σ)
 |i::rest,φ,u,σ=>
  match ops[i]? with
  |none=>none
  |some o=>
   if(o.dst.all fun d=>decide (d<n))&&o.guard.isNone then
    if xN o.op then
     match u with
     |.pan g=>CZ P n ops rest (iF φ o.dst g) .rcv σ
     |u=>CZ P n ops rest (iF φ o.dst (.o .nilIface)) u σ
    else
     match rR P (dA φ) o.op σ with
     |some (g,σ')=>CZ P n ops rest (iF φ o.dst g) u σ'
     |none=>none
   else none
def mE (P:Program) (M:FuncId->Bool) (call:fT) (n m:Nat):Code->Fr->GMode->GS->Option (GX×Fr×GMode×GS)
 |.seq a b,φ,u,σ=>
  match mE P M call n m a φ u σ with
  |some (.normal,φ',u',σ')=>mE P M call n m b φ' u' σ'
  |r=>r
 |.cond c a b,φ,u,σ=>
  match dA φ c with
  |.b t=>if t then mE P M call n m a φ u σ else mE P M call n m b φ u σ
  |_=>none
 |.region id ops draw,φ,u,σ=>
  if !draw&&ops.toList.any (fun o=>xN o.op) then(CZ P n ops (List.range ops.size) φ u σ).map fun(φ',u',σ')=>(.normal,φ',u',σ')
  else(gZ P M call none n m (.region id ops draw) φ σ).map fun(x,φ',σ')=>(x,φ',u,σ')
 |c,φ,u,σ=>(gZ P M call none n m c φ σ).map fun(x,φ',σ')=>(x,φ',u,σ')
def a1x (P:Program) (φ:Fr) (σ:GS):ResultVar->Option GV
 |.tmp t=>some (φ t)
 |.cell a t=>nN P t (φ a) σ
def S6 (f:ResultVar->Option GV):List ResultVar->Option (List GV)
 |[]=>some []
 |x::xs=>(f x).bind fun v=>(S6 f xs).map fun vs=>v::vs
def a3U:List GV->GV
 |[v]=>v
 |vs=>.tup vs
def wM (P:Program) (fn:Func) (φ:Fr) (σ:GS):Option GV:=(S6 (a1x P φ σ) fn.results.toList).map a3U
def nS (args:List GV):Fr:=fun t=>args.getD t (.tup [])
def xR (P:Program) (M:FuncId->Bool) (call:fT) (m:Nat) (k:FuncId) (args:List GV) (u:GMode) (σ:GS):Option (GRes×GMode×GS):=
 match P.funcs[k]? with
 |some fn=>match fn.body with
  |some c=>
   if args.length<=fn.ntmps&&m4 P k then
    match mE P M call fn.ntmps m c (nS args) u {σ with ds:=[]} with
    |some (.normal,φ,u',σ')=>if σ'.ds.isEmpty then(wM P fn φ σ').map fun v=>(.val v,u',{σ' with ds:=σ.ds}) else none
    |some (.ret,φ,u',σ')=>if σ'.ds.isEmpty then(wM P fn φ σ').map fun v=>(.val v,u',{σ' with ds:=σ.ds}) else none
    |some (.panic g,_,u',σ')=>if σ'.ds.isEmpty then some (.panic g,u',{σ' with ds:=σ.ds}) else none
    |_=>none
   else none
  |none=>none
 |none=>none
def kZ (P:Program) (M:FuncId->Bool) (call:fT) (m:Nat) (fn:Func) (φ:Fr):List GDef->GMode->GS->Option (GRes×GS)
 |[],.ret,σ=>(wM P fn φ σ).map fun v=>(.val v,σ)
 |[],.pan g,σ=>some (.panic g,σ)
 |[],.rcv,_=>none
 |.coll r::ds,u,σ=>
  match σ.objs[r]? with
  |some .dfr=>if σ.lo<=r then kZ P M call m fn φ ds u (gset σ r .dead) else none
  |_=>none
 |.fn k args cap::ds,u,σ=>
  match xR P M call m k (args++cap) u σ with
  |some (.val _,.rcv,σ')=>kZ P M call m fn φ ds .ret σ'
  |some (.val _,u',σ')=>kZ P M call m fn φ ds u' σ'
  |some (.panic g,.ret,σ')=>kZ P M call m fn φ ds (.pan g) σ'
  |_=>none
def S9 (P:Program) (M:FuncId->Bool) (call:fT) (m:Nat) (fn:Func) (c:Code) (args:List GV) (σ:GS):Option (GRes×GS):=
 if args.length<=fn.ntmps then
  match gZ P M call none fn.ntmps m c (nS args) {σ with ds:=[]} with
  |some (.normal,φ,σ')=>(kZ P M call m fn φ σ'.ds .ret σ').map fun r=>(r.1,{r.2 with ds:=σ.ds})
  |some (.ret,φ,σ')=>(kZ P M call m fn φ σ'.ds .ret σ').map fun r=>(r.1,{r.2 with ds:=σ.ds})
  |some (.panic g,φ,σ')=>(kZ P M call m fn φ σ'.ds (.pan g) σ').map fun r=>(r.1,{r.2 with ds:=σ.ds})
  |_=>none
 else none
def XK (f:List GV->GS->Option (GRes×GS)) (args:List GV) (σ:GS):Option (GRes×GS):=
 match f (args.map GV.pur) {objs:=σ.objs,lo:=σ.objs.length} with
 |some (.val g,_)=>if GV.bel σ.objs.length g.pur then some (.val g.pur,σ) else none
 |some (.panic g,_)=>if GV.bel σ.objs.length g.pur then some (.panic g.pur,σ) else none
 |none=>none
def kO (r:Nat) (ds:List GDef) (jump:Option Code) (σ:GS):Option (GRes×GS):=
 match σ.objs[r]? with
 |some (.loop _ _ n φ ps asg body rd)=>some (.val (.b jump.isNone),{gset σ r (.loop (if jump.isNone then .ready else .done) jump n φ ps asg body rd) with ds:=ds})
 |_=>none
def a1v (P:Program) (M:FuncId->Bool) (call:fT) (m:Nat) (r:Nat) (args:List GV) (σ:GS):Option (GRes×GS):=
 match σ.objs[r]? with
 |some (.loop .ready _ n φ ps asg body _)=>
  if σ.lo<=r&&args.length==ps.size&&ps.toList.all (fun t=>decide (t<n)) then
   match gZ P M call (some r) n m asg ((ps.toList.zip args).foldl (fun φ p=>GJ φ p.1 p.2) φ) {σ with ds:=[]} with
   |some (.normal,φ1,σ1)=>
    match σ1.objs[r]? with
    |some (.loop .ready pe' n' φ' ps' asg' body' rd')=>
     match gZ P M call (some r) n m body φ1 (gset σ1 r (.loop .busy pe' n' φ' ps' asg' body' rd')) with
     |some (.normal,_,σ2)=>kO r σ.ds none σ2
     |some (.ret,_,σ2)=>kO r σ.ds (some .ret) σ2
     |some (.exit id,_,σ2)=>kO r σ.ds (some (.exit id)) σ2
     |_=>none
    |_=>none
   |_=>none
  else none
 |_=>none
abbrev QJ:=FuncId->Option (List GV->GS->Option (GRes×GS))
def AK (Γ:QJ):fT:=fun t args σ=>
 match t with
 |.fn k=>match Γ k with
  |some h=>h args σ
  |none=>none
 |.yld _=>none
def D4 (P:Program) (M:FuncId->Bool) (Γ:QJ):Nat->fT
 |0=>fun _ _ _=>none
 |m+1=>fun t args σ=>
  match t with
  |.fn k=>
   match AK Γ (.fn k) args σ with
   |some r=>some r
   |none=>
    match P.funcs[k]? with
    |some fn=>
     match fn.body with
     |some c=>if M k then XK (S9 P M (D4 P M Γ m) m fn c) args σ else S9 P M (D4 P M Γ m) m fn c args σ
     |none=>none
    |none=>none
  |.yld r=>a1v P M (D4 P M Γ m) m r args σ
structure EnvSound (P:Program) (w0:World) (M:FuncId->Bool) (Γ:QJ):Prop where
 call:bZ P w0 (AK Γ)
 pure:dR M (AK Γ)
