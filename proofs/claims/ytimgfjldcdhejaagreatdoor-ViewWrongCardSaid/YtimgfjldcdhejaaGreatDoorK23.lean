/- Part of ViewWrong. -/
import Derived.Test.YtimgfjldcdhejaaGreatDoorK22
set_option linter.all false
set_option maxRecDepth 100000
namespace Go.Proofs.YtimgfjldcdhejaaGreatDoor
open Go.RowKit
def sZ (ws:List By) (a dp:Int) (bad jO:Bool):GObj:=.box 211 [.sl .none (bR ws),.i .i64 a,.i .i64 dp,.b bad,.b jO]
theorem kP [MaxL] (ws:List By) (a dp:Int) (bad jO:Bool):ClL [.sl .none (bR ws),.i .i64 a,.i .i64 dp,.b bad,.b jO]:=.cons (bK (eJ ws)) (fun _=>rfl)
theorem sB [MaxL] {ws:List By} {a dp:Int} {bad jO:Bool}:ClL [.sl .none (bR ws),.i .i64 a,.i .i64 dp,.b bad,.b jO]:=kP ws a dp bad jO
def m7 (ws:List By) (a:Nat):By:=(ws.drop a).headD []
theorem a0W {ws:List By} {a:Nat} (h:a<ws.length):(bR ws)[a]?=some (.s (m7 ws a)):=by
 unfold m7 bR;rw[aK,b8 h,gL h];rfl
theorem I6 {ws:List By} {a:Nat} (h:ws.length<=a):m7 ws a=[]:=by
 unfold m7;rw[List.drop_eq_nil_of_le h];rfl
theorem M7 [MaxL] (ws:List By) (hw:ws.length<b9) (a:Nat) (dp:Int) (bad jO:Bool):SC Tryz.prog 280 [.ptr 0 0] [sZ ws a dp bad jO] (.val (.s (m7 ws a))) [sZ ws a dp bad jO]:=by
 have hl:(bR ws).length=ws.length:=cD ws;unfold b9 at hw;refine cO Tryz.func280 rfl ?_;conv=>whnf
 refine lQ ?_;conv=>whnf
 apply gM<;>intro h<;>conv=>whnf
 ·have ha:a<ws.length:=by have:=aB h;omega
  refine lQ ?_;conv=>whnf
  refine⟨jR _,.s (m7 ws a),by rw[aL];exact a0W ha,rfl,?_⟩;conv=>whnf
  exact r8 rfl rfl (kP ws a dp bad jO)
 ·have ha:ws.length<=a:=by have:=aA h;omega
  rw[I6 ha];exact r8 rfl rfl (kP ws a dp bad jO)
def CY (ws:List By) (a:Nat) (bad:Bool) (w:By):Bool:=!bad&&(m7 ws a==w)
theorem UA [MaxL] (ws:List By) (hw:ws.length<b9) (a:Nat) (ha:a<=ws.length) (dp:Int) (bad jO:Bool) (w:By):
  SC Tryz.prog 225 [.ptr 0 0,.s w] [sZ ws a dp bad jO] (.val (.b (CY ws a bad w))) [sZ ws (if CY ws a bad w then a+1 else a:Nat) dp bad jO]:=by
 have hn:=M7 ws hw a dp bad jO;have hw':=hw;unfold b9 at hw';cases bad with
 |true=>
  refine cO Tryz.func225 rfl ?_;conv=>whnf
  exact uY rfl rfl (kP ws a dp true jO)
 |false=>
  have e:CY ws a false w=(m7 ws a==w):=by simp[CY]
  rw[e];generalize m7 ws a=x at*;refine cO Tryz.func225 rfl ?_;conv=>whnf
  refine cBx 0 hn ?_;conv=>whnf
  apply gM<;>intro hc<;>conv=>whnf
  ·have e2:(x==w)=false:=by simpa using hc
   rw[e2];exact uY rfl rfl (kP ws a dp false jO)
  ·have e2:(x==w)=true:=by simpa using hc
   rw[e2];refine⟨[.i .i64 (a+1:Nat)],⟨(by rw[bH (by omega)];rfl),rL _,rfl,bL rfl⟩,?_⟩;(conv=>whnf);exact uY rfl rfl (kP ws (a+1:Nat) dp false jO)
theorem a1V [MaxL] (ws:List By) (hw:ws.length<b9) (a:Nat) (dp:Int) (bad jO:Bool):
  SC Tryz.prog 319 [.ptr 0 0] [sZ ws a dp bad jO] (.val (.b (dU (m7 ws a)&&!a7o.contains (m7 ws a)))) [sZ ws a dp bad jO]:=by
 have hn:=M7 ws hw a dp bad jO;generalize m7 ws a=x at*;refine cO Tryz.func319 rfl ?_;conv=>whnf
 refine cBx 0 hn ?_;conv=>whnf
 refine sL (tY x) ?_;conv=>whnf
 apply gM<;>intro h1<;>conv=>whnf
 ·skip;refine sL (UB x) ?_;conv=>whnf
  refine uY rfl ?_ (kP ws a dp bad jO);rw[h1];rfl
 ·refine uY rfl ?_ (kP ws a dp bad jO);rw[h1];rfl
theorem a7Q [MaxL] (ws:List By) (a lv:Nat) (hl:lv<1000000) (bad jO:Bool):
  SC Tryz.prog 303 [.ptr 0 0] [sZ ws a lv bad jO] (.val (.tup [])) [sZ ws a (lv+1:Nat) bad (jO||decide (20<lv+1))]:=by
 have e:IntKind.i64.wrap ((lv:Int)+1)=((lv+1:Nat):Int):=H6 hl;refine cO Tryz.func303 rfl ?_;conv=>whnf
 refine⟨[.i .i64 (lv+1:Nat)],⟨(by rw[e];rfl),rL _,rfl,bL rfl⟩,?_⟩;conv=>whnf
 have e2:((20:Int)<((lv+1:Nat):Int))↔20<lv+1:=by omega
 apply gM<;>intro h<;>conv=>whnf
 ·have h':20<lv+1:=by have:=aB h;omega
  refine sT ?_;conv=>whnf
  refine jU ?_ (.refl _) (kP ws a (lv+1:Nat) bad _) (fun _=>rfl);rw[bC h',Bool.or_true];rfl
 ·have h':¬20<lv+1:=by have:=aA h;omega
  refine jU ?_ (.refl _) (kP ws a (lv+1:Nat) bad _) (fun _=>rfl);rw[bN h',Bool.or_false]
def Q1 (t:Term):List GV:=[.s (if t.var then[] else t.name),.s (if t.var then t.name else[]),.i .i64 t.v.k,.i .i64 t.v.n,.s t.v.s]
def t0:Term:=⟨[],false,v0⟩
theorem oV [MaxL] (t:Term):ClL (Q1 t):=fun _=>rfl
instance [MaxL] {t:Term}:KL (Q1 t):=⟨fun _=>rfl⟩
theorem J4 [MaxL] (ws:List By) (hw:ws.length<b9) (a:Nat) (dp:Int) (jO:Bool):
  SC Tryz.prog 310 [.ptr 0 0] [sZ ws a dp true jO] (.val (.agg (Q1 t0))) [sZ ws a dp true jO]:=by
 have hn:=M7 ws hw a dp true jO;generalize m7 ws a=x at*;refine cO Tryz.func310 rfl ?_;conv=>whnf
 refine cBx 0 hn ?_;conv=>whnf
 refine sT ?_;conv=>whnf
 exact jU rfl (.refl _) (kP ws a dp true jO) (fun _=>rfl)
def kG (x:By):Bool:=dU x&&!a7o.contains x
theorem IN {lit:By->Option Val} (w:By) (ts:List By):iB lit (w::ts)=if w=[58] then(match iB lit ts with
   |some (t,r)=>if t.name=[]∨t.var=true then none else some (⟨t.name,true,t.v⟩,r)
   |none=>none)
  else if kG w then some (⟨w,false,v0⟩,ts) else match lit w with
   |some v=>some (⟨[],false,v⟩,ts)
   |none=>none:=by
 conv=>lhs;unfold iB
 rfl
theorem I7 {ws:List By} {a:Nat} (h:a<ws.length):ws.drop a=m7 ws a::ws.drop (a+1):=by
 unfold m7;rw[b8 h];rfl
theorem XC {x:By} (h:kG x=true):x≠[]/\x≠[58]:=by
 constructor<;>(rintro rfl;exact absurd h (by decide))
theorem nZ {ws:List By} {a:Nat} (h:m7 ws a≠[]):a<ws.length:=by
 rcases eO a ws.length with h1|h1
 ·exact h1
 ·exact absurd (I6 h1) h
theorem a25:jQ []=none:=by unfold jQ;rw[aC (fun h=>h.1 rfl)]
theorem a0p (ws:List By) (a:Nat):iB jQ (ws.drop a)=if kG (m7 ws a) then some (⟨m7 ws a,false,v0⟩,ws.drop (a+1)) else if m7 ws a=[58] then
   (if kG (m7 ws (a+1)) then some (⟨m7 ws (a+1),true,v0⟩,ws.drop (a+2)) else none)
  else match jQ (m7 ws a) with
   |some v=>some (⟨[],false,v⟩,ws.drop (a+1))
   |none=>none:=by
 by_cases ha:a<ws.length
 ·rw[I7 ha,IN];by_cases h1:m7 ws a=[58]
  ·rw[aD h1,h1,aC (by decide),aD rfl];by_cases hb:a+1<ws.length
   ·rw[I7 hb,IN];by_cases h3:kG (m7 ws (a+1))=true
    ·rw[aD h3,aC (XC h3).2,aD h3];simp only;rw[aC (by rintro(h|h);exact(XC h3).1 h;cases h)]
    ·rw[aC h3,aC h3];by_cases h4:m7 ws (a+1)=[58]
     ·rw[aD h4];cases iB jQ (ws.drop (a+1+1)) with
      |none=>rfl
      |some p=>
       obtain⟨t,r⟩:=p;simp only;by_cases h5:t.name=[]∨t.var=true
       ·rw[aD h5]
       ·rw[aC h5];simp only;rw[aD (.inr trivial)]
     ·rw[aC h4];cases jQ (m7 ws (a+1)) with
      |none=>rfl
      |some v=>simp only;rw[aD (.inl trivial)]
   ·rw[I6 (by omega),List.drop_eq_nil_of_le (by omega)];rfl
  ·rw[aC h1,aC h1]
 ·rw[I6 (by omega),List.drop_eq_nil_of_le (by omega),aC (by decide),aC (by decide),a25];rfl
theorem ZK (x:By):(jQ x=some (sP x).1/\x≠[]/\(sP x).2=x.length/\(sP x).1.ok=true)∨(jQ x=none/\¬(x≠[]/\(sP x).2=x.length/\(sP x).1.ok=true)):=by
 unfold jQ;by_cases h:x≠[]/\(sP x).2=x.length/\(sP x).1.ok=true
 ·rw[aD h];exact .inl ⟨rfl,h⟩
 ·rw[aC h];exact .inr ⟨rfl,h⟩
theorem a1O [MaxL] (ws : List By) (hw : ws.length < b9) (hx : ∀ w ∈ ws, w.length < 1000000) (a : Nat) (ha : a ≤ ws.length) (dp : Int) (jO : Bool) :
    match iB jQ (ws.drop a) with
    | some (t, r) => ∃ a', a ≤ a' ∧ a' ≤ ws.length ∧ r = ws.drop a' ∧ SC Tryz.prog 310 [.ptr 0 0] [sZ ws a dp false jO] (.val (.agg (Q1 t))) [sZ ws a' dp false jO]
    | none => ∃ a', a ≤ a' ∧ a' ≤ ws.length ∧ SC Tryz.prog 310 [.ptr 0 0] [sZ ws a dp false jO] (.val (.agg (Q1 t0))) [sZ ws a' dp true jO] := by
  have hn := M7 ws hw a dp false jO;have hn1 := a1V ws hw a dp false jO;have hn2 := a1V ws hw (a + 1) dp false jO;have hxl : (m7 ws a).length < 1000000 := by
    rcases eO a ws.length with h1 | h1
    · exact hx _ (by have := I7 h1; exact List.mem_of_mem_drop (i := a) (by rw [this]; simp))
    · rw [I6 h1]; decide
  have hw' := hw;unfold b9 at hw';have hlen : (bR ws).length = ws.length := cD ws;rw [a0p];by_cases h1 : kG (m7 ws a) = true
  · rw [aD h1]
    have hlt := nZ (XC h1).1;refine ⟨a + 1, by omega, hlt, rfl, ?_⟩;replace hn1 : SC Tryz.prog 319 [.ptr 0 0] [sZ ws a dp false jO] (.val (.b (kG (m7 ws a)))) [sZ ws a dp false jO] := hn1;rw [h1] at hn1;generalize m7 ws a = x at *;refine cO Tryz.func310 rfl ?_;conv => whnf
    refine cBx 0 hn ?_;conv => whnf
    refine cBx 0 hn1 ?_;conv => whnf
    refine ⟨[.i .i64 (a + 1 : Nat)], ⟨(by rw [bH (by omega)]; rfl), rL _, rfl, bL rfl⟩, ?_⟩;conv => whnf
    refine sT ?_;conv => whnf
    exact jU rfl (.refl _) (kP ws (a + 1 : Nat) dp false jO) (fun _ => rfl)
  rw [aC h1];have h1' : kG (m7 ws a) = false := by simpa using h1
  replace hn1 : SC Tryz.prog 319 [.ptr 0 0] [sZ ws a dp false jO] (.val (.b (kG (m7 ws a)))) [sZ ws a dp false jO] := hn1;rw [h1'] at hn1;by_cases h2 : m7 ws a = [58]
  · rw [aD h2]
    have hlt := nZ (ws := ws) (a := a) (by rw [h2]; simp);replace hn2 : SC Tryz.prog 319 [.ptr 0 0] [sZ ws (a + 1 : Nat) dp false jO] (.val (.b (kG (m7 ws (a + 1))))) [sZ ws (a + 1 : Nat) dp false jO] := hn2;rw [h2] at hn;by_cases h3 : kG (m7 ws (a + 1)) = true
    · rw [aD h3]
      have hlt2 := nZ (XC h3).1;have hget := a0W hlt2;refine ⟨a + 2, by omega, hlt2, rfl, ?_⟩;rw [h3] at hn2;generalize m7 ws (a + 1) = y at *;clear h1 h1' h2 hxl;refine cO Tryz.func310 rfl ?_;conv => whnf
      refine cBx 0 hn ?_;conv => whnf
      refine cBx 0 hn1 ?_;conv => whnf
      refine ⟨[.i .i64 (a + 1 : Nat)], ⟨(by rw [bH (by omega)]; rfl), rL _, rfl, bL rfl⟩, ?_⟩;conv => whnf
      refine cBx 0 hn2 ?_;conv => whnf
      refine ⟨[.i .i64 (a + 2 : Nat)], ⟨(by rw [bH (i := a + 1) (by omega)]; rfl), rL _, rfl, bL rfl⟩, ?_⟩;conv => whnf
      refine lQ ?_;conv => whnf
      have w2 : IntKind.i64.wrap (((a + 2 : Nat) : Int) - 1) = ((a + 1 : Nat) : Int) := by rw [dB (by omega) (by omega)]; omega
      refine ⟨by rw [w2]; exact jR _, .s y, by rw [w2, aL]; exact hget, rfl, ?_⟩;conv => whnf
      refine sT ?_;conv => whnf
      exact jU rfl (.refl _) (kP ws (a + 2 : Nat) dp false jO) (fun _ => rfl)
    · rw [aC h3]
      refine ⟨a + 1, by omega, hlt, ?_⟩;have h3' : kG (m7 ws (a + 1)) = false := by simpa using h3
      rw [h3'] at hn2;generalize m7 ws (a + 1) = y at *;clear h1 h1' h2 hxl;refine cO Tryz.func310 rfl ?_;conv => whnf
      refine cBx 0 hn ?_;conv => whnf
      refine cBx 0 hn1 ?_;conv => whnf
      refine ⟨[.i .i64 (a + 1 : Nat)], ⟨(by rw [bH (by omega)]; rfl), rL _, rfl, bL rfl⟩, ?_⟩;conv => whnf
      refine cBx 0 hn2 ?_;conv => whnf
      refine sT ?_;conv => whnf
      refine sT ?_;conv => whnf
      exact jU rfl (.refl _) (kP ws (a + 1 : Nat) dp true jO) (fun _ => rfl)
  · rw [aC h2]
    have hl := ZK (m7 ws a);have hlit := ZA (m7 ws a) hxl;have hok := O1 (sP (m7 ws a)).1;have hin := nZ (ws := ws) (a := a);generalize m7 ws a = x at *;generalize sP x = q at *;obtain ⟨v, k⟩ := q;simp only at hl hlit hok;rcases hl with ⟨e, l1, l2, l3⟩ | ⟨e, l0⟩
    · rw [e]
      refine ⟨a + 1, by omega, hin l1, rfl, ?_⟩;rw [l3] at hok;refine cO Tryz.func310 rfl ?_;conv => whnf
      refine cBx 0 hn ?_;conv => whnf
      refine cBx 0 hn1 ?_;conv => whnf
      apply gM<;>intro hc<;>conv=>whnf
      · exact absurd (by simpa using hc) h2
      refine mG hlit (fun _ => rfl) ?_;conv => whnf
      refine sT ?_;conv => whnf
      apply gM<;>intro s1<;>conv=>whnf
      rotate_left
      · exact absurd (by simpa using s1) l1
      apply gM<;>intro s2<;>conv=>whnf
      rotate_left
      · have := aA s2; exact absurd (by omega) this
      refine mG hok (.b _) ?_;conv => whnf
      refine ⟨[.i .i64 (a + 1 : Nat)], ⟨(by rw [bH (by have := hin l1; omega)]; rfl), rL _, rfl, bL rfl⟩, ?_⟩;conv => whnf
      refine sT ?_;conv => whnf
      exact jU rfl (.refl _) (kP ws (a + 1 : Nat) dp false jO) (fun _ => rfl)
    · rw [e]
      refine ⟨a, rL _, ha, ?_⟩;refine cO Tryz.func310 rfl ?_;conv => whnf
      refine cBx 0 hn ?_;conv => whnf
      refine cBx 0 hn1 ?_;conv => whnf
      apply gM<;>intro hc<;>conv=>whnf
      · exact absurd (by simpa using hc) h2
      refine mG hlit (fun _ => rfl) ?_;conv => whnf
      refine sT ?_;conv => whnf
      apply gM<;>intro s1<;>conv=>whnf
      · apply gM<;>intro s2<;>conv=>whnf
        · have hvo : v.ok = false := by
            cases hv : v.ok with
            | false => rfl
            | true => exact absurd ⟨by simpa using s1, by have : (k : Int) = (x.length : Int) := by simpa using s2
                                                          omega, hv⟩ l0
          rw [hvo] at hok;refine mG hok (.b _) ?_;conv => whnf
          refine sT ?_;conv => whnf
          refine sT ?_;conv => whnf
          exact jU rfl (.refl _) (kP ws a dp true jO) (fun _ => rfl)
        · skip
          refine sT ?_;conv => whnf
          refine sT ?_;conv => whnf
          exact jU rfl (.refl _) (kP ws a dp true jO) (fun _ => rfl)
      · skip
        refine sT ?_;conv => whnf
        refine sT ?_;conv => whnf
        exact jU rfl (.refl _) (kP ws a dp true jO) (fun _ => rfl)
def kH (k:Nat) (kids:List GV) (a b:Term) (op:By) (yes:Bool):List GV:=.i .i64 k::.sl .none kids::(Q1 a++(Q1 b++[.s op,.b yes]))
def G8 {α:Type} (a:Bool) (p:α×α):α:=if a then p.2 else p.1
def nk:Tree->List GV×(List GV×List GV)
 |.pair b l r=>let ks:=G8 b (nk l).2++G8 b (nk r).2
   let cs:=kH (lL b) ks t0 t0 [] false
   (cs,if b then([.agg cs],ks) else(ks,[.agg cs]))
 |.no t=>let cs:=kH 3 [.agg (nk t).1] t0 t0 [] false
   (cs,[.agg cs],[.agg cs])
 |.test op l r=>let cs:=kH 4 [] l r op false
   (cs,[.agg cs],[.agg cs])
 |.truth b=>let cs:=kH 5 [] t0 t0 [] b
   (cs,[.agg cs],[.agg cs])
def Tree.ncs (t:Tree):List GV:=(nk t).1
def Tree.ng (t:Tree):GV:=.agg t.ncs
def j3 (l:List Tree):List GV:=l.map Tree.ng
theorem D9 (a:Bool):∀t:Tree,G8 a (nk t).2=j3 (t.sides a)
 |.pair b l r=>by
  have h1:=D9 a l;have h2:=D9 a r;unfold Tree.sides;by_cases hab:a=b
  ·subst hab;rw[aD rfl];unfold j3 at*;rw[b5,<-h1,<-h2];cases a<;>rfl
  ·rw[aC hab];cases a<;>cases b<;>first|rfl|exact absurd rfl hab
 |.no t=>by cases a<;>rfl
 |.test _ _ _=>by cases a<;>rfl
 |.truth _=>by cases a<;>rfl
theorem rS (a:Bool) (l r:Tree):(Tree.pair a l r).ncs=kH (lL a) (j3 ((Tree.pair a l r).sides a)) t0 t0 [] false:=by
 show kH (lL a) (G8 a (nk l).2++G8 a (nk r).2) t0 t0 [] false=_;rw[D9,D9];congr 1;have e:(Tree.pair a l r).sides a=l.sides a++r.sides a:=aD rfl;rw[e];unfold j3;rw[b5]
theorem a1r (t:Tree):(Tree.no t).ncs=kH 3 [t.ng] t0 t0 [] false:=rfl
theorem R6 (op:By) (l r:Term):(Tree.test op l r).ncs=kH 4 [] l r op false:=rfl
theorem MO (b:Bool):(Tree.truth b).ncs=kH 5 [] t0 t0 [] b:=rfl
theorem qP [MaxL] {k:Nat} {kids:List GV} (h:ClL kids) (a b:Term) (op:By) (yes:Bool):ClL (kH k kids a b op yes):=.cons (.i _ _) (.cons (bK h) (fun _=>rfl))
theorem ClL.app [MaxL] {a b:List GV} (ha:ClL a) (hb:ClL b):ClL (a++b):=fun f=>by rw[b5,ha f,hb f]
theorem XD [MaxL]:∀t:Tree,ClL (nk t).1/\(∀a,ClL (G8 a (nk t).2))
 |.pair b l r=>by
  have h1:=XD l;have h2:=XD r;have hk:ClL (G8 b (nk l).2++G8 b (nk r).2):=ClL.app (h1.2 b) (h2.2 b);have hc:=qP (k:=lL b) hk t0 t0 [] false;exact⟨hc,fun a=>by
   cases a<;>cases b<;>first|exact hk|exact cC (eQ hc) .nil⟩
 |.no t=>by
  have hc:=qP (k:=3) (cC (eQ (XD t).1) .nil) t0 t0 [] false;exact⟨hc,fun a=>by cases a<;>exact cC (eQ hc) .nil⟩
 |.test op l r=>by
  have hc:=qP (k:=4) jF l r op false;exact⟨hc,fun a=>by cases a<;>exact cC (eQ hc) .nil⟩
 |.truth b=>by
  have hc:=qP (k:=5) jF t0 t0 [] b;exact⟨hc,fun a=>by cases a<;>exact cC (eQ hc) .nil⟩
theorem Tree.ncs_cl [MaxL] (t:Tree):ClL t.ncs:=(XD t).1
theorem Tree.ng_cl [MaxL] (t:Tree):Cl t.ng:=eQ t.ncs_cl
theorem pH [MaxL] (l:List Tree):ClL (j3 l):=iA Tree.ng_cl l
theorem XE (t:Tree):t.ncs.length=14:=by cases t<;>rfl
theorem dT (l:List Tree):(j3 l).length=l.length:=by simp[j3]
theorem zS (l:List Tree):(j3 l).all (fun x=>x.cells.length==14)=true:=by
 rw[aQ];intro x hx;obtain⟨t,_,rfl⟩:=List.mem_map.1 hx;show(t.ncs.length==14)=true;rw[XE];rfl
theorem R5 (l:List Tree):(j3 l).all (sO 14)=true:=by
 rw[aQ];intro x hx;obtain⟨t,_,rfl⟩:=List.mem_map.1 hx;have:=XE t;cases t<;>rfl
theorem JG (a:Bool) (t:Tree):(t.ncs=kH (lL a) (j3 (t.sides a)) t0 t0 [] false/\2<=(t.sides a).length)∨(∃k kids x y op yes,t.ncs=kH k kids x y op yes/\k≠lL a/\t.sides a=[t]):=by
 cases t with
 |pair b l r=>
  by_cases hab:a=b
  ·subst hab;refine .inl ⟨rS a l r,?_⟩;have e:(Tree.pair a l r).sides a=l.sides a++r.sides a:=aD rfl;rw[e,aG];have h1:=List.length_pos_iff.2 (tR a l);have h2:=List.length_pos_iff.2 (tR a r);omega
  ·exact .inr ⟨_,_,_,_,_,_,rS b l r,(by cases a<;>cases b<;>first|exact absurd rfl hab|decide),aC hab⟩
 |no t=>exact .inr ⟨_,_,_,_,_,_,a1r t,(by cases a<;>decide),rfl⟩
 |test op l r=>exact .inr ⟨_,_,_,_,_,_,R6 op l r,(by cases a<;>decide),rfl⟩
 |truth b=>exact .inr ⟨_,_,_,_,_,_,MO b,(by cases a<;>decide),rfl⟩
def fX (a:Bool) (x:Tree) (l:List Tree):Tree:=l.foldl (fun q y=>.pair a q y) x
theorem zW (a:Bool):∀(l:List Tree) (x:Tree),(fX a x l).sides a=(x::l).flatMap (Tree.sides a)
 |[],x=>by simp[fX]
 |y::l,x=>by
  have:=zW a l (.pair a x y);show(fX a (.pair a x y) l).sides a=_;rw[this,dV,dV,dV];have e:(Tree.pair a x y).sides a=x.sides a++y.sides a:=aD rfl;rw[e,bD]
theorem n7 [MaxL] {c:GV} {k:Tok} {xs rest:List GV}:Wk (.agg (c::.sl k xs::rest)) (.agg (c::.sl .none xs::rest)):=Wk.agg rfl (fun j g g' h h'=>by
 rcases j with _|_|j
 ·simp at h h';subst h;subst h';exact .refl _
 ·simp at h h';subst h;subst h';exact bY _ _
 ·simp at h h';rw[h] at h';cases h';exact .refl _)
def XA:List GV:=[.i .i64 0,.sl .full [],.s [],.s [],.i .i64 0,.i .i64 0,.s [],.s [],.s [],.i .i64 0,.i .i64 0,.s [],.s [],.b false]
def OH (a:Bool) (l:List Tree) (i:Nat):List Tree:=(l.take i).flatMap (Tree.sides a)
theorem ZG {a:Bool} {l:List Tree} {i:Nat} {y:Tree} (h:l[i]?=some y):OH a l (i+1)=OH a l i++y.sides a:=by
 unfold OH;rw[aT,h,List.flatMap_append];simp
theorem a40 (a:Bool) (l:List Tree) (i:Nat):(OH a l i).length<=(l.flatMap (Tree.sides a)).length:=by
 have:l.flatMap (Tree.sides a)=OH a l i++(l.drop i).flatMap (Tree.sides a):=by
  unfold OH;rw[<-List.flatMap_append,j4]
 rw[this,aG];omega
theorem JA [MaxL] (a:Bool) (x:Tree) (l:List Tree) (hl:l.length<=100000) (hs:((x::l).flatMap (Tree.sides a)).length<=1000000):
  SC Tryz.prog 226 [.i .i64 (lL a:Nat),.sl .none (j3 (x::l))] [] (.val (fX a x l).ng) []:=by
 have hjs:=zW a l x;have hform:=JG a (fX a x l);have hcl:=(fX a x l).ng_cl;generalize hm:fX a x l=m at*;have hlen:(x::l).length<=100001:=by simp;omega
 generalize x::l=M at*;clear hm hl l x;have hle:=a40 a M;refine cO Tryz.func226 rfl ?_;conv=>whnf
 refine dH (fun q:Nat×List Tree=>q.1<=M.length/\OH a M q.1=q.2) (fun q=>[(0,.i .i64 (lL a:Nat)),(1,.sl .none (j3 M)),(4,.ptr 0 0),(5,.sl (.own 1) (j3 q.2)),(6,.i .i64 (q.1:Nat))])
  (fun q=>⟨[.box 169 XA,ow 169 14 q.2.length],0,[]⟩) (fun q=>M.length - q.1) (0,[]) ⟨zL _,rfl⟩ ⟨rfl,rfl,rfl,rfl,rfl,trivial⟩ rfl (fun _ _=>rL _) (fun q _=>by simp only[e8,l5];rfl) (fun q _ e he=>?_) (fun q φ0 hi=>?_)
 ·refine⟨?_,rfl,?_⟩
  ·show[GObj.box _ (XA.map (GV.ren e)),(ow _ 14 _).ren e]=_;rw[qO];rfl
  ·show[_,(GV.sl .none (j3 M)).ren e,GV.ptr (e 0) 0,(GV.sl (.own 1) (j3 q.2)).ren e,_]=_;rw[nB (he 1 (by simp)) (pH _),bK (pH M) e,he 0 (by simp)];rfl
 obtain⟨i,o⟩:=q;obtain⟨hi,ho⟩:=hi;replace hi:i<=M.length:=hi;replace ho:OH a M i=o:=ho;conv=>whnf
 have hnl:(j3 M).length=M.length:=dT M;apply gM<;>intro h<;>conv=>whnf
 rotate_left
 ·have hie:i=M.length:=by have:=aA h;omega
  have ho':o=m.sides a:=by rw[<-ho,hjs,hie];unfold OH;rw[aV]
  rcases hform with⟨e,h2⟩|⟨k,kids,A,B,op,yes,e,hk,h2⟩
  ·rw[ho'];have hcl':Cl (.agg (kH (lL a) (j3 (m.sides a)) t0 t0 [] false)):=by rw[<-e];exact hcl
   have hng:m.ng=.agg (kH (lL a) (j3 (m.sides a)) t0 t0 [] false):=by show GV.agg m.ncs=_;rw[e]
   rw[hng];have hml:=dT (m.sides a);generalize m.sides a=ms at*;apply gM<;>intro h1<;>conv=>whnf
   ·have h3:((j3 ms).length:Int)=1:=by simpa using h1
    omega
   refine sT ?_;(conv=>whnf);exact cZ n7 hcl'
  ·rw[ho',h2];have hng:m.ng=.agg (kH k kids A B op yes):=by show GV.agg m.ncs=_;rw[e]
   have hgm:(j3 [m])[0]?=some (.agg (kH k kids A B op yes)):=by rw[<-hng];rfl
   rw[hng] at hcl⊢;refine⟨eU 0,.agg (kH k kids A B op yes),hgm,rfl,?_⟩;(conv=>whnf);refine sT ?_;(conv=>whnf);exact cZ (.refl _) hcl
 have hlt:i<M.length:=by have:=aB h;omega
 obtain⟨y,hy⟩:∃y,M[i]?=some y:=⟨M[i],gL hlt⟩;have hgy:(j3 M)[i]?=some (.agg y.ncs):=by unfold j3;rw[aK,hy];rfl
 have hos:=ZG (a:=a) hy;have hle1:=hle (i+1);rw[hos,aG] at hle1;rw[ho] at hos hle1;rcases JG a y with⟨e,h2⟩|⟨k,kids,A,B,op,yes,e,hk,h2⟩
 ·rw[e] at hgy;generalize y.sides a=ys at*;rcases ys with _|⟨y1,ys⟩
  ·simp at h2
  refine⟨jR _,.agg (kH (lL a) (j3 (y1::ys)) t0 t0 [] false),by rw[aL];exact hgy,rfl,?_⟩;conv=>whnf
  apply gM<;>intro heq<;>conv=>whnf
  rotate_left
  ·simp at heq
  refine⟨jR _,.agg (kH (lL a) (j3 (y1::ys)) t0 t0 [] false),by rw[aL];exact hgy,rfl,?_⟩;conv=>whnf
  cases o with
  |nil=>
   refine⟨⟨R5 (y1::ys),zS _,by show(j3 (([]:List Tree))).length+(j3 (y1::ys)).length<=4294967296;rw[dT,dT];omega⟩,j3 (([]:List Tree)++(y1::ys)),(([]:List Tree)++(y1::ys)).length,⟨(by show j3 (([]:List Tree)++y1::ys)=j3 (([]:List Tree))++j3 (y1::ys);unfold j3;rw[b5]),by show _=(j3 (([]:List Tree))).length+(j3 (y1::ys)).length;rw[dT,dT,aG]⟩,?_⟩;(conv=>whnf);refine aN ?_ (h:=by first|rfl|(rw[dT];rfl)|(rw[dT];simp));(conv=>whnf);exact⟨M.length - (i+1),(by show _<M.length - i;omega),(i+1,([]:List Tree)++(y1::ys)),⟨hlt,hos⟩,rfl,⟨rfl,rfl,rfl,rfl,bH (by omega),trivial⟩,_,rfl,rfl⟩
  |cons z zs=>
   refine⟨⟨R5 (y1::ys),zS _,by show(j3 ((z::zs))).length+(j3 (y1::ys)).length<=4294967296;rw[dT,dT];omega⟩,j3 ((z::zs)++(y1::ys)),((z::zs)++(y1::ys)).length,⟨(by show j3 ((z::zs)++y1::ys)=j3 ((z::zs))++j3 (y1::ys);unfold j3;rw[b5]),by show _=(j3 ((z::zs))).length+(j3 (y1::ys)).length;rw[dT,dT,aG]⟩,?_⟩;(conv=>whnf);refine aN ?_ (h:=by first|rfl|(rw[dT];rfl)|(rw[dT];simp));(conv=>whnf);exact⟨M.length - (i+1),(by show _<M.length - i;omega),(i+1,(z::zs)++(y1::ys)),⟨hlt,hos⟩,rfl,⟨rfl,rfl,rfl,rfl,bH (by omega),trivial⟩,_,rfl,rfl⟩
 ·rw[e] at hgy;refine⟨jR _,.agg (kH k kids A B op yes),by rw[aL];exact hgy,rfl,?_⟩;conv=>whnf
  apply gM<;>intro heq<;>conv=>whnf
  ·exfalso;apply hk;have:=eq_of_beq heq;omega
  refine⟨jR _,.agg (kH k kids A B op yes),by rw[aL];exact hgy,rfl,?_⟩;conv=>whnf
  have hyng:y.ng=.agg (kH k kids A B op yes):=by show GV.agg y.ncs=_;rw[e]
  rw[h2] at hos hle1;simp only[j5] at hle1;cases o with
  |nil=>
   refine⟨⟨rfl,zS _,by show(j3 (([]:List Tree))).length+1<=4294967296;rw[dT];omega⟩,j3 (([]:List Tree)++[y]),(([]:List Tree)++[y]).length,⟨(by show j3 (([]:List Tree)++[y])=j3 (([]:List Tree))++[GV.agg (kH k kids A B op yes)];rw[<-hyng];unfold j3;rw[b5];rfl),by show _=(j3 (([]:List Tree))).length+1;rw[dT,aG];rfl⟩,?_⟩;(conv=>whnf);refine aN ?_ (h:=by first|rfl|(rw[dT];rfl)|(rw[dT];simp));(conv=>whnf);exact⟨M.length - (i+1),(by show _<M.length - i;omega),(i+1,([]:List Tree)++[y]),⟨hlt,hos⟩,rfl,⟨rfl,rfl,rfl,rfl,bH (by omega),trivial⟩,_,rfl,rfl⟩
  |cons z zs=>
   refine⟨⟨rfl,zS _,by show(j3 ((z::zs))).length+1<=4294967296;rw[dT];omega⟩,j3 ((z::zs)++[y]),((z::zs)++[y]).length,⟨(by show j3 ((z::zs)++[y])=j3 ((z::zs))++[GV.agg (kH k kids A B op yes)];rw[<-hyng];unfold j3;rw[b5];rfl),by show _=(j3 ((z::zs))).length+1;rw[dT,aG];rfl⟩,?_⟩;(conv=>whnf);refine aN ?_ (h:=by first|rfl|(rw[dT];rfl)|(rw[dT];simp));(conv=>whnf);exact⟨M.length - (i+1),(by show _<M.length - i;omega),(i+1,(z::zs)++[y]),⟨hlt,hos⟩,rfl,⟨rfl,rfl,rfl,rfl,bH (by omega),trivial⟩,_,rfl,rfl⟩
theorem mT [MaxL] {ws:List By} (hw:ws.length<b9) {a:Nat} {w:By} (h:m7 ws a=w) (hne:w≠[]) (dp:Int) (jO:Bool):
  SC Tryz.prog 225 [.ptr 0 0,.s w] [sZ ws a dp false jO] (.val (.b true)) [sZ ws (a+1:Nat) dp false jO]:=by
 have ha:=nZ (ws:=ws) (a:=a) (by rw[h];exact hne);have:=UA ws hw a (by omega) dp false jO w;have e:CY ws a false w=true:=by unfold CY;rw[h];simp
 rw[e] at this;exact this
theorem lK [MaxL] {ws:List By} (hw:ws.length<b9) {a:Nat} (ha:a<=ws.length) {w:By} (h:m7 ws a≠w) (dp:Int) (jO:Bool):
  SC Tryz.prog 225 [.ptr 0 0,.s w] [sZ ws a dp false jO] (.val (.b false)) [sZ ws a dp false jO]:=by
 have:=UA ws hw a ha dp false jO w;have e:CY ws a false w=false:=by unfold CY;simp[h]
 rw[e] at this;exact this
theorem C8 [MaxL] {ws:List By} (hw:ws.length<b9) {a:Nat} (ha:a<=ws.length) (w:By) (dp:Int) (jO:Bool):
  SC Tryz.prog 225 [.ptr 0 0,.s w] [sZ ws a dp true jO] (.val (.b false)) [sZ ws a dp true jO]:=by
 have:=UA ws hw a ha dp true jO w;have e:CY ws a true w=false:=rfl;rw[e] at this;exact this
def Rr [MaxL] (k:FuncId) (ws:List By) (a lv d:Nat) (o:Option (Tree×List By×Nat)):Prop:=match o with
 |some (t,r,e)=>∃a',a<=a'/\a'<=ws.length/\r=ws.drop a'/\t.size<=a' - a/\SC Tryz.prog k [.ptr 0 0] [sZ ws a lv false (decide (20<d))] (.val t.ng) [sZ ws a' lv false (decide (20<e))]
 |none=>∃t a' l',a<=a'/\a'<=ws.length/\t.size<=a' - a+1/\SC Tryz.prog k [.ptr 0 0] [sZ ws a lv false (decide (20<d))] (.val (Tree.ng t)) [sZ ws a' lv true l']
theorem XM (d lv:Nat):(decide (20<d)||decide (20<lv+1))=decide (20<max d (lv+1)):=by
 rw[dQ];simp;omega
theorem fL (t:Tree):∃k kids A B op yes,t.ng=.agg (kH k kids A B op yes):=by
 rcases JG true t with⟨e,_⟩|⟨k,kids,A,B,op,yes,e,_⟩
 ·exact⟨_,_,_,_,_,_,by show GV.agg t.ncs=_;rw[e]⟩
 ·exact⟨_,_,_,_,_,_,by show GV.agg t.ncs=_;rw[e]⟩
def OE (o:Option (Tree×List By×Nat)):Option (Tree×List By×Nat):=match o with
 |some (t,r,e)=>if r.headD []=[41] then some (t,r.tail,e) else none
 |none=>none
theorem tJ (ws:List By) (a:Nat):(ws.drop a).tail=ws.drop (a+1):=by simp
theorem a1R [MaxL] (ws:List By) (hw:ws.length<1000000) (a lv d:Nat) (hlv:lv<100000) (h:m7 ws a=[40]) (o:Option (Tree×List By×Nat))
  (hc:Rr 168 ws (a+1) (lv+1) (max d (lv+1)) o):Rr 302 ws a lv d (OE o):=by
 have hm:ws.length<b9:=by unfold b9;omega
 have ha:=nZ (ws:=ws) (a:=a) (by rw[h];simp);have h1:=mT hm h (by simp) lv (decide (20<d));have h2:=a7Q ws (a+1) lv (by omega) false (decide (20<d));rw[XM] at h2;have hdec:IntKind.i64.wrap (((lv+1:Nat):Int) - 1)=((lv:Nat):Int):=by rw[dB (by omega) (by omega)];omega
 cases o with
 |none=>
  obtain⟨t,a',l',b1,b2,b3,hc⟩:=hc;have h3:=C8 hm b2 [41] lv l';refine⟨t,a',l',by omega,b2,by omega,?_⟩;have hcl:=t.ng_cl;obtain⟨k,kids,A,B,op,yes,hng⟩:=fL t;rw[hng] at hc hcl⊢;refine cO Tryz.func302 rfl ?_;conv=>whnf
  refine cBx 0 h1 ?_;conv=>whnf
  refine BL (q:=0) h2 sB sB (fun _=>rfl) (i8 .nil) ?_;conv=>whnf
  refine BL (q:=0) hc sB sB (fun _=>rfl) hcl ?_;conv=>whnf
  refine sT ?_;conv=>whnf
  refine⟨[.i .i64 (lv:Nat)],⟨(by rw[hdec];rfl),rL _,rfl,bL rfl⟩,?_⟩;conv=>whnf
  refine cBx 0 h3 ?_;conv=>whnf
  refine sT ?_;conv=>whnf
  refine sT ?_;conv=>whnf
  exact jU rfl (.refl _) (kP ws a' lv true l') hcl
 |some p=>
  obtain⟨t,r,e⟩:=p;obtain⟨a',b1,b2,rfl,b3,hc⟩:=hc;by_cases h4:m7 ws a'=[41]
  ·have ha':=nZ (ws:=ws) (a:=a') (by rw[h4];simp);have h3:=mT hm h4 (by simp) lv (decide (20<e));have hp:OE (some (t,ws.drop a',e))=some (t,ws.drop (a'+1),e):=by
    show(if(ws.drop a').headD []=[41] then some (t,(ws.drop a').tail,e) else none)=_;rw[aD (show(ws.drop a').headD []=[41] from h4),tJ]
   rw[hp];refine⟨a'+1,by omega,ha',rfl,by omega,?_⟩;have hcl:=t.ng_cl;obtain⟨k,kids,A,B,op,yes,hng⟩:=fL t;rw[hng] at hc hcl⊢;refine cO Tryz.func302 rfl ?_;(conv=>whnf);refine cBx 0 h1 ?_;(conv=>whnf);refine BL (q:=0) h2 sB sB (fun _=>rfl) (i8 .nil) ?_;(conv=>whnf);refine BL (q:=0) hc sB sB (fun _=>rfl) hcl ?_;(conv=>whnf);refine sT ?_;(conv=>whnf);refine⟨[.i .i64 (lv:Nat)],⟨(by rw[hdec];rfl),rL _,rfl,bL rfl⟩,?_⟩;(conv=>whnf);refine cBx 0 h3 ?_;(conv=>whnf);refine sT ?_;(conv=>whnf);exact jU rfl (.refl _) (kP ws (a'+1:Nat) lv false (decide (20<e))) hcl
  ·have h3:=lK hm b2 h4 lv (decide (20<e));have hp:OE (some (t,ws.drop a',e))=none:=by
    show(if(ws.drop a').headD []=[41] then some (t,(ws.drop a').tail,e) else none)=_;rw[aC (show¬(ws.drop a').headD []=[41] from h4)]
   rw[hp];refine⟨t,a',decide (20<e),by omega,b2,by omega,?_⟩;have hcl:=t.ng_cl;obtain⟨k,kids,A,B,op,yes,hng⟩:=fL t;rw[hng] at hc hcl⊢;refine cO Tryz.func302 rfl ?_;(conv=>whnf);refine cBx 0 h1 ?_;(conv=>whnf);refine BL (q:=0) h2 sB sB (fun _=>rfl) (i8 .nil) ?_;(conv=>whnf);refine BL (q:=0) hc sB sB (fun _=>rfl) hcl ?_;(conv=>whnf);refine sT ?_;(conv=>whnf);refine⟨[.i .i64 (lv:Nat)],⟨(by rw[hdec];rfl),rL _,rfl,bL rfl⟩,?_⟩;(conv=>whnf);refine cBx 0 h3 ?_;(conv=>whnf);refine sT ?_;(conv=>whnf);refine sT ?_;(conv=>whnf);exact jU rfl (.refl _) (kP ws a' lv true (decide (20<e))) hcl
theorem a1T [MaxL] (ws:List By) (hw:ws.length<1000000) (a lv d:Nat) (h:m7 ws a=m8):Rr 302 ws a lv d (some (.truth true,ws.drop (a+1),d)):=by
 have hm:ws.length<b9:=by unfold b9;omega
 have ha:=nZ (ws:=ws) (a:=a) (by rw[h];decide);have n0:=lK hm (Nat.le_of_lt ha) (w:=([40])) (by rw[h];decide) lv (decide (20<d));have y:=mT hm h (by decide) lv (decide (20<d));refine⟨a+1,by omega,ha,rfl,by simp only[Tree.size];omega,?_⟩;show SC _ _ _ _ (.val (.agg (kH 5 [] t0 t0 [] true))) _;refine cO Tryz.func302 rfl ?_;conv=>whnf
 refine cBx 0 n0 ?_;conv=>whnf
 refine cBx 0 y ?_;conv=>whnf
 refine sT ?_;conv=>whnf
 exact jU rfl n7 (kP ws (a+1:Nat) lv false (decide (20<d))) (eQ (qP jF t0 t0 [] true))
theorem a1S [MaxL] (ws:List By) (hw:ws.length<1000000) (a lv d:Nat) (h:m7 ws a=kN):Rr 302 ws a lv d (some (.truth false,ws.drop (a+1),d)):=by
 have hm:ws.length<b9:=by unfold b9;omega
 have ha:=nZ (ws:=ws) (a:=a) (by rw[h];decide);have n0:=lK hm (Nat.le_of_lt ha) (w:=([40])) (by rw[h];decide) lv (decide (20<d));have n1:=lK hm (Nat.le_of_lt ha) (w:=m8) (by rw[h];decide) lv (decide (20<d));have y:=mT hm h (by decide) lv (decide (20<d));refine⟨a+1,by omega,ha,rfl,by simp only[Tree.size];omega,?_⟩;show SC _ _ _ _ (.val (.agg (kH 5 [] t0 t0 [] false))) _;refine cO Tryz.func302 rfl ?_;conv=>whnf
 refine cBx 0 n0 ?_;conv=>whnf
 refine cBx 0 n1 ?_;conv=>whnf
 refine cBx 0 y ?_;conv=>whnf
 refine sT ?_;conv=>whnf
 exact jU rfl n7 (kP ws (a+1:Nat) lv false (decide (20<d))) (eQ (qP jF t0 t0 [] false))
set_option maxHeartbeats 2000000 in
theorem a1Q [MaxL] (ws:List By) (hw:ws.length<1000000) (hx:∀w∈ws,w.length<1000000) (a:Nat) (ha:a<=ws.length) (lv d:Nat) (h1:m7 ws a≠[40]) (h2:m7 ws a≠m8) (h3:m7 ws a≠kN):
  Rr 302 ws a lv d (match iB jQ (ws.drop a) with
   |some (x,r)=>if oB (r.headD []) then(match iB jQ r.tail with
     |some (y,r')=>some (.test (r.headD []) x y,r',d)
     |none=>none)
    else none
   |none=>none):=by
 have hm:ws.length<b9:=by unfold b9;omega
 have n1:=lK hm ha h1 lv (decide (20<d));have n2:=lK hm ha h2 lv (decide (20<d));have n3:=lK hm ha h3 lv (decide (20<d));have hs:=a1O ws hm hx a ha lv (decide (20<d));rcases ht:iB jQ (ws.drop a) with _|⟨x,r⟩<;>rw[ht] at hs
 case' none=>
  obtain⟨a',hle,ha',hs⟩:=hs;have hn:=M7 ws hm a' lv true (decide (20<d));have K:=fun(w:By) (_:True)=>C8 hm ha' w lv (decide (20<d));have hs2:=J4 ws hm a' lv (decide (20<d));refine⟨.test (m7 ws a') t0 t0,a',decide (20<d),hle,ha',Nat.le_add_left _ _,?_⟩;show SC _ _ _ _ (.val (.agg (kH 4 [] t0 t0 (m7 ws a') false))) _
 case' some=>
  obtain⟨a',hle,ha',rfl,hs⟩:=hs;have hlt:a<a':=by
   have:=sY ht;simp only[d9] at this;omega
  have hn:=M7 ws hm a' lv false (decide (20<d));have K:=fun(w:By) (h:m7 ws a'≠w)=>lK hm ha' h lv (decide (20<d));simp only;rw[show(ws.drop a').headD []=m7 ws a' from rfl,tJ];by_cases hr:oB (m7 ws a')=true
  case' neg=>
   rw[aC hr];have hs2:=J4 ws hm a' lv (decide (20<d));refine⟨.test (m7 ws a') x t0,a',decide (20<d),hle,ha',Nat.le_add_left _ _,?_⟩;show SC _ _ _ _ (.val (.agg (kH 4 [] x t0 (m7 ws a') false))) _
  case' pos=>
   rw[aD hr];have ne:m7 ws a'≠[]:=fun h=>by rw[h] at hr;cases hr
   have hin:=nZ ne;have Y:=mT hm (a:=a') rfl ne lv (decide (20<d));have hs2:=a1O ws hm hx (a'+1) hin lv (decide (20<d));rcases ht2:iB jQ (ws.drop (a'+1)) with _|⟨y,r⟩<;>rw[ht2] at hs2
   case' none=>
    obtain⟨b',hle2,hb',hs2⟩:=hs2;refine⟨.test (m7 ws a') x t0,b',decide (20<d),by omega,hb',Nat.le_add_left _ _,?_⟩;show SC _ _ _ _ (.val (.agg (kH 4 [] x t0 (m7 ws a') false))) _
   case' some=>
    obtain⟨b',hle2,hb',rfl,hs2⟩:=hs2;refine⟨b',by omega,hb',rfl,by simp only[Tree.size];omega,?_⟩;show SC _ _ _ _ (.val (.agg (kH 4 [] x y (m7 ws a') false))) _
   all_goals
    clear hin ne;generalize m7 ws a'=op at*;simp only[oB,Z1,iJ,aJ,List.mem_cons,List.not_mem_nil,or_false] at hr;rcases hr with rfl|rfl|rfl|rfl|rfl|rfl
 all_goals
  try generalize m7 ws a'=op at*
  refine cO Tryz.func302 rfl ?_;conv=>whnf
  repeat first
   |(refine cBx 0 n1 ?_;conv=>whnf)
   |(refine cBx 0 n2 ?_;conv=>whnf)
   |(refine cBx 0 n3 ?_;conv=>whnf)
   |(refine cBx 0 hs ?_;conv=>whnf)
   |(refine cBx 0 hn ?_;conv=>whnf)
   |(refine cBx 0 Y ?_;conv=>whnf)
   |(refine cBx 0 (K [61] (by first|exact trivial|exact fun h=>hr (by rw[h];rfl)|decide)) ?_;conv=>whnf)
   |(refine cBx 0 (K [60,62] (by first|exact trivial|exact fun h=>hr (by rw[h];rfl)|decide)) ?_;conv=>whnf)
   |(refine cBx 0 (K [60] (by first|exact trivial|exact fun h=>hr (by rw[h];rfl)|decide)) ?_;conv=>whnf)
   |(refine cBx 0 (K [60,61] (by first|exact trivial|exact fun h=>hr (by rw[h];rfl)|decide)) ?_;conv=>whnf)
   |(refine cBx 0 (K [62] (by first|exact trivial|exact fun h=>hr (by rw[h];rfl)|decide)) ?_;conv=>whnf)
   |(refine cBx 0 (K [62,61] (by first|exact trivial|exact fun h=>hr (by rw[h];rfl)|decide)) ?_;conv=>whnf)
   |(refine cBx 0 hs2 ?_;conv=>whnf)
   |(refine sT ?_;conv=>whnf)
  exact jU rfl n7 sB (eQ (qP jF _ _ _ false))
