/- Part of HostValues. -/
import Derived.Test.YtmnjcddcihdlfaaGreatDoorV20
import Derived.Lib.Index
import Derived.Lib.IndexMore
set_option linter.all false
set_option maxRecDepth 100000
namespace Go.Proofs.YtmnjcddcihdlfaaGreatDoor
section
open Go.RowKit
variable [Globals]
def MP (l:List Nat):FuncId->Bool:=fun k=>l.any fun i=>Nat.beq k i
def XX (op:Op):Bool:=
 match op with
 |.defer _=>true
 |_=>false
theorem N2 {ρ:Operand->GV} {op:Op} (h:XX op=false):rK ρ op=none:=by
 unfold rK;split
 ·cases h
 ·rfl
def eqY (y:Option Bool) (want:Bool):Bool:=
 match y with
 |some true=>want
 |some false=>!want
 |none=>false
theorem a00 (y:Option Bool) (want:Bool):(y==some want)=eqY y want:=by
 cases y with
 |none=>rfl
 |some b=>cases b<;>cases want<;>rfl
noncomputable def rW (ops:Array Oper) (o:Oper) (T:Tr GV) (K:Bool->HR):HR:=
 match o.guard with
 |none=>K true
 |some (j,want)=>pZ (r7 ops (fr T) j) fun y=>K (eqY y want)
theorem wU {ops:Array Oper} {o:Oper} {T:Tr GV} {K:Bool->HR} {q:GRes} (h:rW ops o T K=some q):∃b,bF ops o (fr T)=some b/\K b=some q:=by
 unfold rW at h;unfold bF;split at h
 ·rename_i hg;rw[hg];exact⟨true,rfl,h⟩
 ·rename_i j want hg;obtain⟨y,h1,h⟩:=iZ h;rw[hg];simp only[h1];exact⟨_,aJ some (a00 y want),h⟩
structure HRun where
 run:HC->Bool->Tr GV->HS->(GX->Tr GV->HS->HR)->HR
noncomputable def TN (P:Program) (n:Nat) (ops:Array Oper) (o:Oper) (ih:HRun):HRun:=
 match o.dst.all fun d=>decide (d<n) with
 |false=>⟨fun _ _ _ _ _=>none⟩
 |true=>match XX o.op with
  |true=>⟨fun call dz T H K=>rW ops o T fun w=>Bool.rec (motive:=fun _=>HR) (nA T o.dst (.tup []) fun T=>ih.run call dz T H K)
    (xQ dz (pZ (rK (bO (fr T)) o.op) fun d=>nA T o.dst (.tup []) fun T=>uJ H (fun ds=>d::ds) fun H=>ih.run call dz T H K)) w⟩
  |false=>match o.guard with
   |none=>⟨fun call dz T H K=>(tN P o.op).run call T H (fun g H=>nA T o.dst g fun T=>ih.run call dz T H K) (fun g H=>K (.panic g) T H)⟩
   |some _=>⟨fun call dz T H K=>rW ops o T fun w=>Bool.rec (motive:=fun _=>HR) (nA T o.dst (.tup []) fun T=>ih.run call dz T H K)
    ((tN P o.op).run call T H (fun g H=>nA T o.dst g fun T=>ih.run call dz T H K) (fun g H=>K (.panic g) T H)) w⟩
noncomputable def zK (P:Program) (n:Nat) (ops:Array Oper) (l:List Oper):HRun:=
 List.rec (motive:=fun _=>HRun) ⟨fun _ _ T H K=>K .normal T H⟩ (fun o _ ih=>TN P n ops o ih) l
variable {P : Program}
theorem GD {call:HC} (hs:mA call.h call.g) {dz:Bool} {n:Nat} {ops:Array Oper}:∀(l:List Oper) (T:Tr GV) (H:HS) (K:GX->Tr GV->HS->HR) (q:GRes),
  (zK P n ops l).run call dz T H K=some q->∃x T' H',uK P call.g dz n ops l (fr T) (ab H)=some (x,fr T',ab H')/\K x T' H'=some q:=by
 intro l;induction l with
 |nil=>intro T H K q h;exact⟨.normal,T,H,rfl,h⟩
 |cons o l ih=>
  intro T H K q h;replace h:(TN P n ops o (zK P n ops l)).run call dz T H K=some q:=h;unfold TN at h;split at h
  ·cases h
  ·rename_i hd;split at h
   ·rename_i hdf;simp only at h;obtain⟨w,hw,h⟩:=wU h;simp only[uK,hd,aA,hw];cases w with
    |false=>
     simp only[u9] at h;obtain⟨x,T',H',h1,h⟩:=ih _ _ _ _ h;rw[uE] at h1;exact⟨x,T',H',h1,h⟩
    |true=>
     obtain⟨hz,h⟩:=gS h;obtain⟨d,h2,h⟩:=iZ h;simp only[u9,ZD] at h;obtain⟨x,T',H',h1,h⟩:=ih _ _ _ _ h;rw[uE] at h1;refine⟨x,T',H',?_,h⟩;simp only[hz,aA,h2];exact hz▸h1
   ·rename_i hdf;replace h:rW ops o T (fun w=>Bool.rec (motive:=fun _=>HR) (nA T o.dst (.tup []) fun T=>(zK P n ops l).run call dz T H K)
      ((tN P o.op).run call T H (fun g H=>nA T o.dst g fun T=>(zK P n ops l).run call dz T H K) (fun g H=>K (.panic g) T H)) w)=some q:=by
     split at h
     ·rename_i hg;unfold rW;rw[hg];exact h
     ·exact h
    obtain⟨w,hw,h⟩:=wU h;have hgd:(if dz=true then rK (bO (fr T)) o.op else none)=none:=by rw[N2 hdf];simp
    simp only[uK,hd,aA,hw];cases w with
    |false=>
     simp only[u9] at h;obtain⟨x,T',H',h1,h⟩:=ih _ _ _ _ h;rw[uE] at h1;exact⟨x,T',H',h1,h⟩
    |true=>
     obtain⟨r,H1,h2,h⟩:=CS hs h;simp only[hgd,h2];rcases h with⟨g,rfl,h⟩|⟨g,rfl,h⟩
     ·simp only[u9] at h;obtain⟨x,T',H',h1,h⟩:=ih _ _ _ _ h;rw[uE] at h1;exact⟨x,T',H',h1,h⟩
     ·exact⟨_,T,H1,rfl,h⟩
noncomputable def JH (Mk:List Nat) (H:HS) (K:HS->HR):HR:=
 List.rec (motive:=fun _=>HS->HR) K (fun r _ ih H=>l9 H r (.o .held) ih) Mk H
noncomputable def sH (Mk:List Nat) (H:HS):HS:=Mk.foldl (fun H r=>sD H r (.o .held)) H
theorem TP (K:HS->HR):∀(Mk:List Nat) (H:HS),JH Mk H K=K (sH Mk H):=by
 intro Mk;induction Mk with
 |nil=>intro H;rfl
 |cons r Mk ih=>
  intro H;show l9 H r (.o .held) (fun H=>JH Mk H K)=_;rw[gQ,ih];rfl
theorem IF (H:HS) (r q:Nat) (x:HObj):fR (sD H r x) q=(fR H q).map fun y=>if q=r then x else y:=by
 unfold fR;have:(sD H r x).n=H.n:=rfl;rw[this];cases Nat.blt q H.n with
 |false=>rfl
 |true=>exact aJ some (pX H.t x r q)
theorem Q2:∀(Mk:List Nat) (H:HS) (q:Nat),fR (sH Mk H) q=(fR H q).map fun y=>if Mk.contains q then .o .held else y:=by
 intro Mk;induction Mk with
 |nil=>intro H q;simp[sH]
 |cons r Mk ih=>
  intro H q;show fR (sH Mk (sD H r (.o .held))) q=_;rw[ih,IF];cases fR H q with
  |none=>rfl
  |some y=>
   simp only[aT,List.contains_cons];by_cases h1:q=r
   ·subst h1;simp
   ·have:(q==r)=false:=by simpa using h1
    rw[this,aB h1];simp
theorem T8 (Mk:List Nat) (H:HS):ab (sH Mk H)=k8 Mk (ab H):=by
 have hf:∀(Mk:List Nat) (H:HS),(sH Mk H).lo=H.lo/\(sH Mk H).ds=H.ds:=by
  intro Mk;induction Mk with
  |nil=>exact fun H=>⟨rfl,rfl⟩
  |cons r Mk ih=>exact fun H=>ih (sD H r _)
 have ho:(ab (sH Mk H)).objs=(k8 Mk (ab H)).objs:=by
  apply cK;intro q;rw[k4,e8,e8,Q2];cases fR H q with
  |none=>rfl
  |some y=>simp only[aT];split<;>rfl
 show(⟨(ab (sH Mk H)).objs,(sH Mk H).lo,(sH Mk H).ds⟩:GS)=⟨(k8 Mk (ab H)).objs,H.lo,H.ds⟩;rw[ho,(hf Mk H).1,(hf Mk H).2]
noncomputable def AD (Mk:List Nat) (H H1:HS) (K:HS->HR):HR:=
 List.rec (motive:=fun _=>HS->HR) K (fun r _ ih H1=>Option.rec (motive:=fun _=>HR) (ih H1) (fun y=>l9 H1 r y ih) (fR H r)) Mk H1
noncomputable def jK (Mk:List Nat) (H H1:HS):HS:=Mk.foldl (fun H1 r=>Option.rec (motive:=fun _=>HS) H1 (fun y=>sD H1 r y) (fR H r)) H1
theorem M6 (H:HS) (K:HS->HR):∀(Mk:List Nat) (H1:HS),AD Mk H H1 K=K (jK Mk H H1):=by
 intro Mk;induction Mk with
 |nil=>intro H1;rfl
 |cons r Mk ih=>
  intro H1;show Option.rec (motive:=fun _=>HR) (AD Mk H H1 K) (fun y=>l9 H1 r y fun H1=>AD Mk H H1 K) (fR H r)=K (jK Mk H (Option.rec (motive:=fun _=>HS) H1 (fun y=>sD H1 r y) (fR H r)));cases fR H r with
  |none=>exact ih H1
  |some y=>simp only[gQ];exact ih _
theorem I8 (H:HS):∀(Mk:List Nat) (H1:HS) (q:Nat),fR (jK Mk H H1) q=(fR H1 q).map fun y=>if Mk.contains q then(fR H q).getD y else y:=by
 intro Mk;induction Mk with
 |nil=>intro H1 q;simp[jK]
 |cons r Mk ih=>
  intro H1 q;show fR (jK Mk H (Option.rec (motive:=fun _=>HS) H1 (fun y=>sD H1 r y) (fR H r))) q=_;rw[ih];cases hr:fR H r with
  |none=>
   simp only;cases fR H1 q with
   |none=>rfl
   |some y=>
    simp only[aT,List.contains_cons];by_cases h1:q=r
    ·subst h1;rw[hr];simp
    ·have:(q==r)=false:=by simpa using h1
     rw[this];simp
  |some z=>
   simp only[IF];cases fR H1 q with
   |none=>rfl
   |some y=>
    simp only[aT,List.contains_cons];by_cases h1:q=r
    ·subst h1;rw[hr];simp
    ·have:(q==r)=false:=by simpa using h1
     rw[this,aB h1];simp
theorem LC (Mk:List Nat) (H H1:HS):ab (jK Mk H H1)=kN Mk (ab H) (ab H1):=by
 have hf:∀(Mk:List Nat) (H1:HS),(jK Mk H H1).lo=H1.lo/\(jK Mk H H1).ds=H1.ds:=by
  intro Mk;induction Mk with
  |nil=>exact fun H1=>⟨rfl,rfl⟩
  |cons r Mk ih=>
   intro H1;show(jK Mk H (Option.rec (motive:=fun _=>HS) H1 (fun y=>sD H1 r y) (fR H r))).lo=_/\(jK Mk H (Option.rec (motive:=fun _=>HS) H1 (fun y=>sD H1 r y) (fR H r))).ds=_;rw[(ih _).1,(ih _).2];cases fR H r<;>exact⟨rfl,rfl⟩
 have ho:(ab (jK Mk H H1)).objs=(kN Mk (ab H) (ab H1)).objs:=by
  apply cK;intro q;rw[l4,e8,e8,I8];cases fR H1 q with
  |none=>rfl
  |some y=>
   simp only[aT,aL,e8];split
   ·cases fR H q<;>rfl
   ·rfl
 show(⟨(ab (jK Mk H H1)).objs,(jK Mk H H1).lo,(jK Mk H H1).ds⟩:GS)=⟨(kN Mk (ab H) (ab H1)).objs,H1.lo,H1.ds⟩;rw[ho,(hf Mk H1).1,(hf Mk H1).2]
end
section
open Go.RowKit
variable [Globals]
variable {M : FuncId → Bool}
noncomputable def lH (P:Program) (M:FuncId->Bool) (call:HC) (U:Nat->Option Nat) (Mk:Nat->List Nat) (i:Nat) (o:Oper) (T:Tr GV) (H:HS) (K:GV->HS->HR):HR:=
 match dH M o.op with
 |0=>(tN P o.op).run call T H K (fun _ _=>none)
 |1=>xQ (decide (fQ (bO (fr T)) o.op=U i∨U i=some D5)) ((tN P o.op).run call T H K (fun _ _=>none))
 |2=>xQ (decide (fQ (bO (fr T)) o.op=U i)) ((tN P o.op).run call T H K (fun _ _=>none))
 |3=>pZ (mF P (bO (fr T)) o.op) fun f=>pZ (U i) fun r=>match fR H r with
  |some (.o .free)=>xQ (decide (H.lo<=r)) (l9 H r (.o f.2) (K (f.1 r)))
  |_=>none
 |4=>JH (Mk i) H fun H1=>(tN P o.op).run call T H1 (fun g H2=>AD (Mk i) H H2 (K g)) (fun _ _=>none)
 |_=>none
noncomputable def kS (P:Program) (M:FuncId->Bool) (call:HC) (U:Nat->Option Nat) (Mk:Nat->List Nat) (n:Nat) (ops:Array Oper) (l:List Oper):Nat->Tr GV->HS->(Tr GV->HS->HR)->HR:=
 List.rec (motive:=fun _=>Nat->Tr GV->HS->(Tr GV->HS->HR)->HR) (fun _ T H K=>K T H) (fun o _ ih i T H K=>
  xQ (o.dst.all fun d=>decide (d<n)) (rW ops o T fun w=>Bool.rec (motive:=fun _=>HR) (nA T o.dst (.tup []) fun T=>ih (Nat.succ i) T H K)
   (lH P M call U Mk i o T H fun g H=>nA T o.dst g fun T=>ih (Nat.succ i) T H K) w)) l
noncomputable def kZ (c:Nat):HS->(HS->HR)->HR:=Nat.rec (motive:=fun _=>HS->(HS->HR)->HR) (fun H K=>K H) (fun _ ih H K=>uI H (.o .free) fun _ H=>ih H K) c
noncomputable def a18 {β:Type} (x:Option Nat) (K:Option Nat->β):β:=Option.rec (motive:=fun _=>β) (K none) (fun r=>K (some r)) x
theorem WU {β:Type} (x:Option Nat) (K:Option Nat->β):a18 x K=K x:=by cases x<;>rfl
noncomputable def MC (P:Program) (M:FuncId->Bool) (n:Nat) (ops:Array Oper):HRun:=
 ⟨fun call _ T H K=>tJ a18 (mQ P M call.g (H.n+(ops.toList.filter fun o=>dH M o.op==3).length) (ab H) ops.toList H.n (fr T)) fun U=>
  kZ (ops.toList.filter fun o=>dH M o.op==3).length H fun H0=>
   xQ (wild M ops (gW ops.toList []) U H0.n) (kS P M call (fun i=>U.getD i none) (kY M ops (gW ops.toList []) U) n ops ops.toList 0 T H0 fun T H=>K .normal T H)⟩
noncomputable def BE {β:Type} (l:List Oper):Tr GV->(Tr GV->β)->β:=
 List.rec (motive:=fun _=>Tr GV->(Tr GV->β)->β) (fun T K=>K T) (fun o _ ih T K=>match o.dst with
  |some d=>Tr.setK (path d) .any T fun T=>ih T K
  |none=>ih T K) l
noncomputable def GB (P:Program) (M:FuncId->Bool) (n:Nat) (ops:Array Oper):HRun:=
 match A6 P M n ops with
 |[p]=>match ops[p]? with
  |some op=>⟨fun call _ T H K=>(zK P n ops (ops.toList.take p)).run call false T H fun x T1 H1=>match x with
   |.normal=>rW ops op T1 fun w=>xQ w ((tN P op.op).run call T1 H1 (fun _ _=>none) fun g H2=>BE ops.toList T fun T'=>K (.panic g) T' H2)
   |_=>none⟩
  |none=>⟨fun _ _ _ _ _=>none⟩
 |_=>⟨fun _ _ _ _ _=>none⟩
noncomputable def GA (P : Program) (M : FuncId → Bool) (n id : Nat) (ops : Array Oper) (draw : Bool) : HRun :=
  match draw with
  | true => match M (a0Z id ops) with
   | true => GB P M n ops
   | false => match calm M ops with
    | true => ⟨fun call _ T H K => (zK P n ops ops.toList).run call false T H fun x T H => match x with
      | .normal => K .normal T H
      | _ => none⟩
    | false => MC P M n ops
  | false => zK P n ops ops.toList
variable {P : Program}
theorem AB {call:HC} (hs:mA call.h call.g) {o:Oper} {T:Tr GV} {H:HS} {K:GV->HS->HR} {q:GRes} (h:(tN P o.op).run call T H K (fun _ _=>none)=some q):
  ∃g H',zM (cE P call.g o (bO (fr T)) (ab H))=some (g,ab H')/\K g H'=some q:=by
 obtain⟨r,H',h1,h⟩:=CS hs h;rcases h with⟨g,rfl,h⟩|⟨g,_,h⟩
 ·exact⟨g,H',by rw[h1];rfl,h⟩
 ·cases h
theorem TJ {call:HC} (hs:mA call.h call.g) {U:Nat->Option Nat} {Mk:Nat->List Nat} {i:Nat} {o:Oper} {T:Tr GV} {H:HS} {K:GV->HS->HR} {q:GRes}
  (h:lH P M call U Mk i o T H K=some q):∃g H',kJ P M call.g U Mk i o (fr T) (ab H)=some (g,ab H')/\K g H'=some q:=by
 unfold lH at h;unfold kJ;split at h
 ·rename_i hc;rw[hc];exact AB hs h
 ·rename_i hc;obtain⟨hd,h⟩:=gS h;rw[hc];simp only[aA (aO hd)];exact AB hs h
 ·rename_i hc;obtain⟨hd,h⟩:=gS h;rw[hc];simp only[aA (aO hd)];exact AB hs h
 ·rename_i hc;obtain⟨f,h1,h⟩:=iZ h;obtain⟨r,h2,h⟩:=iZ h;split at h
  ·rename_i ho;obtain⟨hd,h⟩:=gS h;rw[gQ] at h;have hlo:(ab H).lo=H.lo:=rfl;rw[hc];simp only[h1,h2,e8,ho,aT,HObj.g,hlo,aA (aO hd),uH];exact⟨_,_,rfl,h⟩
  ·cases h
 ·rename_i hc;rw[TP] at h;obtain⟨g,H1,h1,h⟩:=AB hs h;rw[M6] at h;rw[hc];simp only;rw[<-T8,h1];simp only[<-LC];exact⟨_,_,rfl,h⟩
 ·cases h
theorem Q7 {call:HC} (hs:mA call.h call.g) {U:Nat->Option Nat} {Mk:Nat->List Nat} {n:Nat} {ops:Array Oper}:∀(l:List Oper) (i:Nat) (T:Tr GV) (H:HS) (K:Tr GV->HS->HR) (q:GRes),
  kS P M call U Mk n ops l i T H K=some q->∃T' H',pM P M call.g U Mk n ops l i (fr T) (ab H)=some (fr T',ab H')/\K T' H'=some q:=by
 intro l;induction l with
 |nil=>intro i T H K q h;exact⟨T,H,rfl,h⟩
 |cons o l ih=>
  intro i T H K q h;obtain⟨hd,h⟩:=gS h;obtain⟨w,hw,h⟩:=wU h;simp only[pM,hd,aA,hw];cases w with
  |false=>
   replace h:nA T o.dst (.tup []) (fun T=>kS P M call U Mk n ops l (i+1) T H K)=some q:=h;rw[u9] at h;obtain⟨T',H',h1,h⟩:=ih _ _ _ _ _ h;rw[uE] at h1;exact⟨T',H',h1,h⟩
  |true=>
   obtain⟨g,H1,h2,h⟩:=TJ hs h;replace h:nA T o.dst g (fun T=>kS P M call U Mk n ops l (i+1) T H1 K)=some q:=h;rw[u9] at h;obtain⟨T',H',h1,h⟩:=ih _ _ _ _ _ h;rw[uE] at h1;simp only[h2];exact⟨T',H',h1,h⟩
theorem TX:∀(c:Nat) (H:HS) (K:HS->HR) (q:GRes),kZ c H K=some q->∃H',ab H'={ab H with objs:=(ab H).objs++List.replicate c .free}/\K H'=some q:=by
 intro c;induction c with
 |zero=>intro H K q h;exact⟨H,by simp,h⟩
 |succ c ih=>
  intro H K q h;replace h:uI H (.o .free) (fun _ H=>kZ c H K)=some q:=h;rw[kM] at h;obtain⟨H',h1,h⟩:=ih _ _ _ h;refine⟨H',?_,h⟩;rw[h1,<-lP];simp[gnew,List.replicate_succ]
theorem QB {call:HC} (hs:mA call.h call.g) {dz:Bool} {n:Nat} {ops:Array Oper} {T:Tr GV} {H:HS} {K:GX->Tr GV->HS->HR} {q:GRes}
  (h:(MC P M n ops).run call dz T H K=some q):∃x T' H',vJ P M call.g n ops (fr T) (ab H)=some (x,fr T',ab H')/\K x T' H'=some q:=by
 unfold MC at h;simp only[yH WU] at h;obtain⟨H0,h0,h⟩:=TX _ _ _ _ h;obtain⟨hw,h⟩:=gS h;obtain⟨T',H',h1,h⟩:=Q7 hs _ _ _ _ _ _ h;refine⟨.normal,T',H',?_,h⟩;unfold vJ;have hl:=jW H;have hn:((ab H).objs++List.replicate (ops.toList.filter fun o=>dH M o.op==3).length GObj.free).length=H0.n:=by rw[<-jW H0,h0]
 have he:H.n+(ops.toList.filter fun o=>dH M o.op==3).length=H0.n:=by rw[<-hn,aX,List.length_replicate,hl]
 rw[he] at hw h1;simp only[hl,hn];rw[aA hw];rw[h0] at h1;rw[h1];rfl
theorem TT:∀(l:List Oper) (T:Tr GV) (K:Tr GV->HR) (q:GRes),BE l T K=some q->∃T',(∀t,fr T' t=if(l.any fun o=>o.dst==some t)=true then .any else fr T t)/\K T'=some q:=by
 intro l;induction l with
 |nil=>intro T K q h;exact⟨T,fun t=>by simp,h⟩
 |cons o l ih=>
  intro T K q h;cases hd:o.dst with
  |none=>
   replace h:(match o.dst with|some d=>Tr.setK (path d) .any T fun T=>BE l T K|none=>BE l T K)=some q:=h;rw[hd] at h;obtain⟨T',h1,h⟩:=ih _ _ _ h;exact⟨T',fun t=>by rw[h1 t,List.any_cons,hd];simp,h⟩
  |some d=>
   replace h:(match o.dst with|some d=>Tr.setK (path d) .any T fun T=>BE l T K|none=>BE l T K)=some q:=h;rw[hd] at h;replace h:Tr.setK (path d) .any T (fun T=>BE l T K)=some q:=h;rw[Tr.setK_eq] at h;obtain⟨T',h1,h⟩:=ih _ _ _ h;refine⟨T',fun t=>?_,h⟩;rw[h1 t,List.any_cons,hd,HN];simp only[uL];by_cases ht:t=d
   ·subst ht;simp
   ·have:(some d==some t)=false:=by simp[Ne.symm ht]
    rw[this,aB ht];simp
theorem WD {call:HC} (hs:mA call.h call.g) {dz:Bool} {n:Nat} {ops:Array Oper} {T:Tr GV} {H:HS} {K:GX->Tr GV->HS->HR} {q:GRes}
  (h:(GB P M n ops).run call dz T H K=some q):∃x T' H',BW P M call.g n ops (fr T) (ab H)=some (x,fr T',ab H')/\K x T' H'=some q:=by
 unfold GB at h;split at h
 ·rename_i p hp;split at h
  ·rename_i op hop;obtain⟨x,T1,H1,h1,h⟩:=GD hs _ _ _ _ _ h;cases x with
   |normal=>
    obtain⟨w,hw,h⟩:=wU h;obtain⟨rfl,h⟩:=gS h;obtain⟨r,H2,h2,h⟩:=CS hs h;rcases h with⟨g,_,h⟩|⟨g,rfl,h⟩
    ·cases h
    ·obtain⟨T',h3,h⟩:=TT _ _ _ _ h;refine⟨_,T',H2,?_,h⟩;have:fr T'=DE ops (fr T):=funext fun t=>h3 t;simp only[BW,hp,BX,hop,h1,hw,h2,this]
   |_=>cases h
  ·cases h
 ·cases h
theorem M8 {call:HC} (hs:mA call.h call.g) {ro:Option Nat} {n m id:Nat} {ops:Array Oper} {draw:Bool} {T:Tr GV} {H:HS} {K:GX->Tr GV->HS->HR} {q:GRes}
  (h:(GA P M n id ops draw).run call ro.isNone T H K=some q):∃x T' H',eK P M call.g ro n m (.region id ops draw) (fr T) (ab H)=some (x,fr T',ab H')/\K x T' H'=some q:=by
 unfold GA at h;simp only[eK];split at h
 ·rw[aA rfl];split at h
  ·rename_i hM;rw[aA hM];exact WD hs h
  rename_i hM;rw[aB (by simp[hM])];split at h
  ·rename_i hc;obtain⟨x,T',H',h1,h⟩:=GD hs _ _ _ _ _ h;split at h
   ·refine⟨.normal,T',H',?_,h⟩;rw[aA hc];simp only[EY,hc,aA,h1]
   ·cases h
  ·rename_i hc;obtain⟨x,T',H',h1,h⟩:=QB hs h;refine⟨x,T',H',?_,h⟩;rw[hc,aB (by simp),h1]
 ·rw[aB (by simp)];exact GD hs _ _ _ _ _ h
structure HCd where
 run:HC->Nat->Option Nat->Tr GV->HS->(GX->Tr GV->HS->HR)->HR
noncomputable def XY (m:Nat) (f:Tr GV->HS->(GX->Tr GV->HS->HR)->HR):Tr GV->HS->(GX->Tr GV->HS->HR)->HR:=
 Nat.rec (motive:=fun _=>Tr GV->HS->(GX->Tr GV->HS->HR)->HR) (fun _ _ _=>none) (fun _ ih T H K=>f T H fun x T H=>match x with
  |.normal=>ih T H K
  |x=>K x T H) m
noncomputable def xZ (ro:Option Nat) (H:HS) (K:Nat->HS->HR):HR:=
 match ro with
 |none=>uI H (.o .dfr) fun n H=>uJ H (fun ds=>.coll n::ds) (K n)
 |some r0=>match fR H r0 with
  |some (.lp _ _ _ _ _ _ _ rd)=>K rd H
  |_=>none
noncomputable def BH (l:Nat) (T:Tr GV) (H:HS) (K:GX->Tr GV->HS->HR):HR:=
 xQ (Nat.ble H.lo l) (match fR H l with
  |some (.lp .busy _ _ _ _ _ _ _)=>none
  |some (.lp _ none _ _ _ _ _ _)=>l9 H l (.o .dead) (K .normal T)
  |some (.lp _ (some .ret) _ _ _ _ _ _)=>l9 H l (.o .dead) (K .ret T)
  |some (.lp _ (some (.exit id)) _ _ _ _ _ _)=>l9 H l (.o .dead) (K (.exit id) T)
  |_=>none)
noncomputable def BJ (P:Program) (M:FuncId->Bool) (n:Nat) (c:Code):HCd:=
 Code.rec (motive:=fun _=>HCd)
  ⟨fun _ _ _ T H K=>K .normal T H⟩
  (fun id ops draw=>⟨fun call _ ro T H K=>(GA P M n id ops draw).run call ro.isNone T H K⟩)
  (fun _ _ a b=>⟨fun call m ro T H K=>a.run call m ro T H fun x T H=>match x with
   |.normal=>b.run call m ro T H K
   |x=>K x T H⟩)
  (fun c _ _ a b=>⟨fun call m ro T H K=>(lQ c).run T fun c=>match c with
   |.b t=>Bool.rec (motive:=fun _=>HR) (b.run call m ro T H K) (a.run call m ro T H K) t
   |_=>none⟩)
  (fun id _ c=>⟨fun call m ro T H K=>c.run call m ro T H fun x T H=>match x with
   |.exit i=>Bool.rec (motive:=fun _=>HR) (K (.exit i) T H) (K .normal T H) (Nat.beq i id)
   |x=>K x T H⟩)
  (fun _ c=>⟨fun call m ro T H K=>XY m (c.run call m ro) T H K⟩)
  (fun f ps asg body _ _=>⟨fun call m ro T H K=>(lQ f).run T fun v=>match v with
   |.fn (.func k) first cap=>match iL P k with
    |true=>xZ ro H fun rd H1=>uI H1 (.lp .ready none n T ps asg body rd) fun l H2=>call.h (.fn k) (first++.yld l::cap) H2 fun r H3=>match r with
     |.val _=>BH l T H3 K
     |.panic g=>K (.panic g) T H3
    |false=>none
   |_=>none⟩)
  (fun id=>⟨fun _ _ _ T H K=>K (.exit id) T H⟩)
  (fun _ _=>⟨fun _ _ _ _ _ _=>none⟩)
  (fun _=>⟨fun _ _ _ T H K=>K .normal T H⟩)
  (fun _=>⟨fun _ _ _ _ _ _=>none⟩)
  ⟨fun _ _ _ T H K=>K .ret T H⟩
  (fun _=>⟨fun _ _ _ _ _ _=>none⟩)
  c
theorem TU {f:Tr GV->HS->(GX->Tr GV->HS->HR)->HR} {g:Fr->GS->Option (GX×Fr×GS)} (hf:∀T H K q,f T H K=some q->∃x T' H',g (fr T) (ab H)=some (x,fr T',ab H')/\K x T' H'=some q):
  ∀(m:Nat) (T:Tr GV) (H:HS) (K:GX->Tr GV->HS->HR) (q:GRes),XY m f T H K=some q->∃x T' H',zD m g (fr T) (ab H)=some (x,fr T',ab H')/\K x T' H'=some q:=by
 intro m;induction m with
 |zero=>intro T H K q h;cases h
 |succ m ih=>
  intro T H K q h;obtain⟨x,T1,H1,h1,h⟩:=hf _ _ _ _ h;simp only[zD,h1];cases x with
  |normal=>exact ih _ _ _ _ h
  |_=>exact⟨_,T1,H1,rfl,h⟩
theorem QA {ro:Option Nat} {H:HS} {K:Nat->HS->HR} {q:GRes} (h:xZ ro H K=some q):∃rd H',sZ ro (ab H)=some (rd,ab H')/\K rd H'=some q:=by
 unfold xZ at h;unfold sZ;split at h
 ·rw[kM] at h;refine⟨_,_,?_,h⟩;rw[lP,jW];rfl
 ·rename_i r0;split at h
  ·rename_i ho;simp only[e8,ho,aT,HObj.g];exact⟨_,_,rfl,h⟩
  ·cases h
theorem JK {l:Nat} {T:Tr GV} {H:HS} {K:GX->Tr GV->HS->HR} {q:GRes} (h:BH l T H K=some q):∃x T' H',mV l (fr T) (ab H)=some (x,fr T',ab H')/\K x T' H'=some q:=by
 obtain⟨hl,h⟩:=gS h;have hlo:(ab H).lo=H.lo:=rfl;simp only[mV,hlo,aA (bL hl),e8];cases ho:fR H l with
 |none=>rw[ho] at h;cases h
 |some y=>
  rw[ho] at h;cases y with
  |o x=>cases h
  |lp st pe n T0 ps asg body rd=>
   have hg:∀(x:GX),l9 H l (.o .dead) (K x T)=some q->∃y T' H',some (x,fr T,gset (ab H) l .dead)=some (y,fr T',ab H')/\K y T' H'=some q:=fun x hx=>by
    rw[gQ] at hx;exact⟨x,T,_,by rw[uH],hx⟩
   simp only[aT,HObj.g];cases st with
   |busy=>cases h
   |ready=>
    cases pe with
    |none=>exact hg _ h
    |some c=>cases c<;>first|exact hg _ h|(cases h;done)
   |done=>
    cases pe with
    |none=>exact hg _ h
    |some c=>cases c<;>first|exact hg _ h|(cases h;done)
   |exhausted=>
    cases pe with
    |none=>exact hg _ h
    |some c=>cases c<;>first|exact hg _ h|(cases h;done)
theorem BI {call:HC} (hs:mA call.h call.g) {n m:Nat} {ro:Option Nat}:∀(c:Code) (T:Tr GV) (H:HS) (K:GX->Tr GV->HS->HR) (q:GRes),
  (BJ P M n c).run call m ro T H K=some q->∃x T' H',eK P M call.g ro n m c (fr T) (ab H)=some (x,fr T',ab H')/\K x T' H'=some q:=by
 intro c;induction c with
 |skip=>intro T H K q h;exact⟨.normal,T,H,rfl,h⟩
 |label l=>intro T H K q h;exact⟨.normal,T,H,rfl,h⟩
 |region id ops draw=>intro T H K q h;exact M8 hs h
 |seq a b iha ihb=>
  intro T H K q h;obtain⟨x,T1,H1,h1,h⟩:=iha _ _ _ _ h;simp only[eK,h1];cases x with
  |normal=>exact ihb _ _ _ _ h
  |_=>exact⟨_,T1,H1,rfl,h⟩
 |cond c a b iha ihb=>
  intro T H K q h;replace h:(lQ c).run T (fun c=>match c with
   |.b t=>Bool.rec (motive:=fun _=>HR) ((BJ P M n b).run call m ro T H K) ((BJ P M n a).run call m ro T H K) t
   |_=>none)=some q:=h
  rw[j5] at h;simp only[eK];split at h
  ·rename_i t ht;rw[ht];cases t with
   |true=>simp only[aA];exact iha _ _ _ _ h
   |false=>simp only[aY,cO];exact ihb _ _ _ _ h
  ·cases h
 |block id c ih=>
  intro T H K q h;obtain⟨x,T1,H1,h1,h⟩:=ih _ _ _ _ h;simp only[eK,h1];cases x with
  |exit i=>
   replace h:Bool.rec (motive:=fun _=>HR) (K (.exit i) T1 H1) (K .normal T1 H1) (Nat.beq i id)=some q:=h;simp only;cases hb:Nat.beq i id with
   |true=>rw[hb] at h;rw[aA (cI hb)];exact⟨_,T1,H1,rfl,h⟩
   |false=>
    rw[hb] at h;rw[aB (fun e=>by subst e;rw[Nat.beq_refl] at hb;cases hb)];exact⟨_,T1,H1,rfl,h⟩
  |_=>exact⟨_,T1,H1,rfl,h⟩
 |loop c ih=>
  intro T H K q h;simp only[eK];exact TU (f:=(BJ P M n c).run call m ro) (fun T H K q h=>ih T H K q h) m T H K q h
 |exit id=>intro T H K q h;exact⟨.exit id,T,H,rfl,h⟩
 |ret=>intro T H K q h;exact⟨.ret,T,H,rfl,h⟩
 |rangeFunc f ps asg body iha ihb=>
  intro T H K q h;replace h:(lQ f).run T (fun v=>match v with
   |.fn (.func k) first cap=>match iL P k with
    |true=>xZ ro H fun rd H1=>uI H1 (.lp .ready none n T ps asg body rd) fun l H2=>call.h (.fn k) (first++.yld l::cap) H2 fun r H3=>match r with
     |.val _=>BH l T H3 K
     |.panic g=>K (.panic g) T H3
    |false=>none
   |_=>none)=some q:=h
  rw[j5] at h;simp only[eK];split at h
  ·rename_i k first cap hf
   rw[hf];split at h
   ·rename_i hc;obtain⟨rd,H1,h1,h⟩:=QA h;rw[kM] at h;obtain⟨r,H3,h3,h⟩:=hs _ _ _ _ _ h;simp only[hc,aA,h1];rw[V4,<-jW] at h3;simp only[HObj.g] at h3;rw[h3];cases r with
    |val g=>
     simp only[jW];exact JK h
    |panic g=>exact⟨_,T,H3,rfl,h⟩
   ·cases h
  ·cases h
 |_=>intro T H K q h;cases h
end
section
open Go.RowKit
variable [Globals]
variable {M : FuncId → Bool}
noncomputable def OG (P:Program) (T:Tr GV) (H:HS) (l:List ResultVar):(List GV->HR)->HR:=
 List.rec (motive:=fun _=>(List GV->HR)->HR) (fun K=>K []) (fun x _ ih K=>match x with
  |.tmp t=>(lQ (.tmp t)).run T fun v=>ih fun vs=>K (v::vs)
  |.cell a t=>(lQ (.tmp a)).run T fun a=>pZ (BF P t a H) fun v=>fsp v fun v=>ih fun vs=>K (v::vs)) l
noncomputable def JF (P:Program) (fn:Func) (T:Tr GV) (H:HS) (K:GV->HR):HR:=OG P T H fn.results.toList fun vs=>match vs with
 |[v]=>K v
 |vs=>K (.tup vs)
noncomputable def ME (l:List GObj):Nat->Tr HObj->(Nat->Tr HObj->HR)->HR:=
 List.rec (motive:=fun _=>Nat->Tr HObj->(Nat->Tr HObj->HR)->HR) (fun n t K=>K n t) (fun x _ ih n t K=>Tr.setK (path n) (.o x) t fun t=>ih (Nat.succ n) t K) l
noncomputable def RD (σ:GS) (K:HS->HR):HR:=ME σ.objs 0 .nil fun n t=>K ⟨t,n,σ.lo,σ.ds⟩
noncomputable def qY (P:Program) (M:FuncId->Bool) (Γ:s7) (m:Nat) (fn:Func) (T:Tr GV) (ds:List GDef):GMode->HS->(GRes->HS->HR)->HR:=
 List.rec (motive:=fun _=>GMode->HS->(GRes->HS->HR)->HR)
  (fun u H K=>match u with
   |.ret=>JF P fn T H fun v=>K (.val v) H
   |.pan g=>K (.panic g) H
   |.rcv=>none)
  (fun d _ ih u H K=>match d with
   |.coll r=>match fR H r with
    |some (.o .dfr)=>xQ (Nat.ble H.lo r) (l9 H r (.o .dead) fun H=>ih u H K)
    |_=>none
   |.fn k args cap=>match nR P M (j7 P M Γ m) m k (args++cap) u (ab H) with
    |some (.val _,.rcv,σ')=>RD σ' fun H=>ih .ret H K
    |some (.val _,.ret,σ')=>RD σ' fun H=>ih .ret H K
    |some (.val _,.pan g,σ')=>RD σ' fun H=>ih (.pan g) H K
    |some (.panic g,.ret,σ')=>RD σ' fun H=>ih (.pan g) H K
    |_=>none) ds
noncomputable def sK (l:List GV):Nat->Tr GV->(Tr GV->HR)->HR:=
 List.rec (motive:=fun _=>Nat->Tr GV->(Tr GV->HR)->HR) (fun _ T K=>K T) (fun g _ ih i T K=>Tr.setK (path i) g T fun T=>ih (Nat.succ i) T K) l
structure HFn where
 run:HC->Nat->List GV->HS->(GRes->HS->HR)->HR
noncomputable def BL (P:Program) (M:FuncId->Bool) (Γ:s7) (fn:Func) (c:Code):HFn:=
 ⟨fun call m args H K=>xQ (decide (args.length<=fn.ntmps)) (sK args 0 .nil fun T=>
    uJ H (fun _=>[]) fun H0=>(BJ P M fn.ntmps c).run call m none T H0 fun x T' H'=>match x with
     |.normal=>qY P M Γ m fn T' H'.ds .ret H' fun r H2=>uJ H2 (fun _=>H.ds) (K r)
     |.ret=>qY P M Γ m fn T' H'.ds .ret H' fun r H2=>uJ H2 (fun _=>H.ds) (K r)
     |.panic g=>qY P M Γ m fn T' H'.ds (.pan g) H' fun r H2=>uJ H2 (fun _=>H.ds) (K r)
     |.exit _=>none)⟩
noncomputable def rX (P:Program) (M:FuncId->Bool) (Γ:s7) (k:FuncId):HFn:=
 match P.funcs[k]? with
 |none=>⟨fun _ _ _ _ _=>none⟩
 |some fn=>match fn.body with
  |none=>⟨fun _ _ _ _ _=>none⟩
  |some c=>match M k with
   |false=>BL P M Γ fn c
   |true=>⟨fun call m args H K=>tJ KN (args.map GV.pur) fun args=>(BL P M Γ fn c).run call m args ⟨H.t,H.n,H.n,[]⟩ fun r _=>match r with
    |.val g=>xQ (GV.bel H.n g.pur) (KN g.pur fun g=>K (.val g) H)
    |.panic g=>xQ (GV.bel H.n g.pur) (KN g.pur fun g=>K (.panic g) H)⟩
noncomputable def qI (r:Nat) (ds:List GDef) (jump:Option Code) (H:HS) (K:GRes->HS->HR):HR:=
 match fR H r with
 |some (.lp _ _ n T ps asg body rd)=>l9 H r (.lp (if jump.isNone then .ready else .done) jump n T ps asg body rd) fun H=>uJ H (fun _=>ds) (K (.val (.b jump.isNone)))
 |_=>none
noncomputable def TM (l:List (Tmp×GV)):Tr GV->(Tr GV->HR)->HR:=
 List.rec (motive:=fun _=>Tr GV->(Tr GV->HR)->HR) (fun T K=>K T) (fun p _ ih T K=>KN p.2 fun g=>Tr.setK (path p.1) g T fun T=>ih T K) l
noncomputable def Z9 (P:Program) (M:FuncId->Bool) (call:HC) (m r:Nat) (args:List GV) (H:HS) (K:GRes->HS->HR):HR:=
 match fR H r with
 |some (.lp .ready _ n T ps asg body _)=>
  xQ (decide (H.lo<=r)&&args.length==ps.size&&ps.toList.all (fun t=>decide (t<n)))
   (TM (ps.toList.zip args) T fun T=>uJ H (fun _=>[]) fun H0=>(BJ P M n asg).run call m (some r) T H0 fun x T1 H1=>match x with
    |.normal=>match fR H1 r with
     |some (.lp .ready pe' n' T' ps' asg' body' rd')=>l9 H1 r (.lp .busy pe' n' T' ps' asg' body' rd') fun H1=>
      (BJ P M n body).run call m (some r) T1 H1 fun x _ H2=>match x with
       |.normal=>qI r H.ds none H2 K
       |.ret=>qI r H.ds (some .ret) H2 K
       |.exit id=>qI r H.ds (some (.exit id)) H2 K
       |_=>none
     |_=>none
    |_=>none)
 |_=>none
abbrev RA:=FuncId->List GV->HS->Option ((GRes->HS->HR)->HR)
noncomputable def bH (P:Program) (M:FuncId->Bool) (Γ:s7) (Δ:RA) (m:Nat):FI:=
 Nat.rec (motive:=fun _=>FI) (fun _ _ _ _=>none) (fun m ih t args H K=>match t with
  |.fn k=>match Δ k args H with
   |some f=>f K
   |none=>(rX P M Γ k).run ⟨ih,j7 P M Γ m⟩ m args H K
  |.yld r=>Z9 P M ⟨ih,j7 P M Γ m⟩ m r args H K) m
def XP (Γ:s7) (Δ:RA):Prop:=∀k args H,match Δ k args H with
 |some f=>∀K q,f K=some q->∃r H',oX Γ (.fn k) args (ab H)=some (r,ab H')/\K r H'=some q
 |none=>oX Γ (.fn k) args (ab H)=none
variable {P : Program}
theorem TQ {T:Tr GV} {H:HS}:∀(l:List ResultVar) (K:List GV->HR) (q:GRes),OG P T H l K=some q->∃vs,C3 (QQ P (fr T) (ab H)) l=some vs/\K vs=some q:=by
 intro l;induction l with
 |nil=>intro K q h;exact⟨[],rfl,h⟩
 |cons x l ih=>
  intro K q h;cases x with
  |tmp t=>
   replace h:(lQ (.tmp t)).run T (fun v=>OG P T H l fun vs=>K (v::vs))=some q:=h;rw[j5] at h;obtain⟨vs,h1,h⟩:=ih _ _ h;exact⟨_,by simp only[C3,QQ,bC,h1,aT];rfl,h⟩
  |cell a t=>
   replace h:(lQ (.tmp a)).run T (fun a=>pZ (BF P t a H) fun v=>fsp v fun v=>OG P T H l fun vs=>K (v::vs))=some q:=h;rw[j5] at h;obtain⟨v,h2,h⟩:=iZ h;rw[N9] at h;obtain⟨vs,h1,h⟩:=ih _ _ h;have h3:k9 P t (fr T a) (ab H)=some v:=JI h2;exact⟨_,by simp only[C3,QQ,h3,bC,h1,aT],h⟩
theorem JE {fn:Func} {T:Tr GV} {H:HS} {K:GV->HR} {q:GRes} (h:JF P fn T H K=some q):∃v,o6 P fn (fr T) (ab H)=some v/\K v=some q:=by
 obtain⟨vs,h1,h⟩:=TQ _ _ _ h;refine⟨ZV vs,by simp only[o6,h1,aT],?_⟩;split at h
 ·exact h
 ·rename_i hn;unfold ZV;split
  ·exact absurd rfl (hn _)
  ·exact h
theorem QC:∀(l:List GObj) (n:Nat) (t:Tr HObj) (K:Nat->Tr HObj->HR) (q:GRes),ME l n t K=some q->
  ∃t',(∀r,r<n->xW t' r=xW t r)/\(∀r x,l[r]?=some x->xW t' (n+r)=.o x)/\K (n+l.length) t'=some q:=by
 intro l;induction l with
 |nil=>intro n t K q h;exact⟨t,fun _ _=>rfl,fun r x hx=>by simp at hx,h⟩
 |cons x l ih=>
  intro n t K q h;replace h:Tr.setK (path n) (.o x) t (fun t=>ME l (n+1) t K)=some q:=h;rw[Tr.setK_eq] at h;obtain⟨t',h1,h2,h⟩:=ih _ _ _ _ h;refine⟨t',fun r hr=>?_,fun r y hy=>?_,?_⟩
  ·rw[h1 r (by omega),pX,aB (by omega)]
  ·cases r with
   |zero=>simp at hy;subst hy;rw[Nat.add_zero,h1 n (by omega),pX,aA rfl]
   |succ r=>rw[show n+(r+1)=n+1+r by omega];exact h2 r y (by simpa using hy)
  ·rw[show n+(x::l).length=n+1+l.length by simp;omega];exact h
theorem ZA {σ:GS} {K:HS->HR} {q:GRes} (h:RD σ K=some q):∃H,ab H=σ/\K H=some q:=by
 obtain⟨t,_,h2,h⟩:=QC _ _ _ _ _ h;refine⟨_,?_,h⟩;have:(List.range (0+σ.objs.length)).map (fun r=>(xW t r).g)=σ.objs:=by
  apply cK;intro r;rw[aG];by_cases hr:r<σ.objs.length
  ·rw[List.getElem?_range (by omega),gL hr];have:=h2 r _ (gL hr);rw[bM] at this;simp only[aT,this,HObj.g]
  ·rw[b6 (by simp;omega),b6 (by omega)];rfl
 show(⟨_,σ.lo,σ.ds⟩:GS)=σ;rw[this]
theorem EO {Γ : s7} {m : Nat} {fn : Func} {T : Tr GV} : ∀ (ds : List GDef) (u : GMode) (H : HS) (K : GRes → HS → HR) (q : GRes), qY P M Γ m fn T ds u H K = some q →
    ∃ r H', iJ P M (j7 P M Γ m) m fn (fr T) ds u (ab H) = some (r, ab H') ∧ K r H' = some q := by
  intro ds;induction ds with
  | nil =>
    intro u H K q h;cases u with
    | ret =>
      obtain ⟨v, h1, h⟩ := JE (K := fun v => K (.val v) H) h;exact ⟨_, H, by simp only [iJ, h1, aT], h⟩
    | pan g => exact ⟨_, H, rfl, h⟩
    | rcv => cases h
  | cons d ds ih =>
    intro u H K q h;cases d with
    | coll r =>
      replace h : (match fR H r with
        | some (.o .dfr) => xQ (Nat.ble H.lo r) (l9 H r (.o .dead) fun H => qY P M Γ m fn T ds u H K)
        | _ => none) = some q := h
      split at h
      · rename_i ho
        obtain ⟨hl, h⟩ := gS h;rw [gQ] at h;have hlo : (ab H).lo = H.lo := rfl;simp only [iJ, e8, ho, aT, HObj.g, hlo, aA (bL hl), uH];exact ih _ _ _ _ h
      · cases h
    | fn k args cap =>
      replace h : (match nR P M (j7 P M Γ m) m k (args ++ cap) u (ab H) with
        | some (.val _, .rcv, σ') => RD σ' fun H => qY P M Γ m fn T ds .ret H K
        | some (.val _, .ret, σ') => RD σ' fun H => qY P M Γ m fn T ds .ret H K
        | some (.val _, .pan g, σ') => RD σ' fun H => qY P M Γ m fn T ds (.pan g) H K
        | some (.panic g, .ret, σ') => RD σ' fun H => qY P M Γ m fn T ds (.pan g) H K
        | _ => none) = some q := h
      simp only [iJ];split at h;all_goals first
        | (cases h; done)
        | (rename_i hd
           rw [hd];obtain ⟨H1, h1, h2⟩ := ZA h;subst h1;exact ih _ _ _ _ h2)
theorem TY:∀(l:List GV) (i:Nat) (T:Tr GV) (K:Tr GV->HR) (q:GRes),sK l i T K=some q->∃T',fr T'=(fun t=>if i<=t then l.getD (t - i) (fr T t) else fr T t)/\K T'=some q:=by
 intro l;induction l with
 |nil=>intro i T K q h;exact⟨T,by funext t;simp,h⟩
 |cons g l ih=>
  intro i T K q h;replace h:Tr.setK (path i) g T (fun T=>sK l (i+1) T K)=some q:=h;rw[Tr.setK_eq] at h;obtain⟨T',h1,h⟩:=ih _ _ _ _ h;refine⟨T',?_,h⟩;rw[h1];funext t;rw[HN];simp only[uL];by_cases h2:t=i
  ·subst h2;rw[aB (by omega),aA rfl,aA (rL _),Nat.sub_self];rfl
  ·by_cases h3:i<=t
   ·rw[aA (by omega),aA h3,aB h2];obtain⟨j,rfl⟩:∃j,t=i+1+j:=⟨t - (i+1),by omega⟩;rw[show i+1+j - (i+1)=j by omega,show i+1+j - i=j+1 by omega];rfl
   ·rw[aB (by omega),aB h2,aB h3]
theorem TK:∀(l:List (Tmp×GV)) (T:Tr GV) (K:Tr GV->HR) (q:GRes),TM l T K=some q->∃T',fr T'=l.foldl (fun φ p=>uL φ p.1 p.2) (fr T)/\K T'=some q:=by
 intro l;induction l with
 |nil=>intro T K q h;exact⟨T,rfl,h⟩
 |cons p l ih=>
  intro T K q h;replace h:KN p.2 (fun g=>Tr.setK (path p.1) g T fun T=>TM l T K)=some q:=h;rw[xE,Tr.setK_eq] at h;obtain⟨T',h1,h⟩:=ih _ _ _ h;exact⟨T',by rw[h1,HN];rfl,h⟩
theorem GG {r:Nat} {ds:List GDef} {jump:Option Code} {H:HS} {K:GRes->HS->HR} {q:GRes} (h:qI r ds jump H K=some q):
  ∃x H',iF r ds jump (ab H)=some (x,ab H')/\K x H'=some q:=by
 unfold qI at h;unfold iF;split at h
 ·rename_i ho;rw[gQ] at h;refine⟨_,_,?_,h⟩;simp only[e8,ho,aT,HObj.g];rw[show∀st n T ps asg body rd,gset (ab H) r (.loop st jump n (fr T) ps asg body rd)=ab (sD H r (.lp st jump n T ps asg body rd)) from fun st n T ps asg body rd=>(vS H r (.lp st jump n T ps asg body rd)).symm];rfl
 ·cases h
theorem WB {call:HC} (hs:mA call.h call.g) {m r:Nat} {args:List GV} {H:HS} {K:GRes->HS->HR} {q:GRes} (h:Z9 P M call m r args H K=some q):
  ∃x H',U3 P M call.g m r args (ab H)=some (x,ab H')/\K x H'=some q:=by
 unfold Z9 at h;unfold U3;split at h
 ·rename_i ho;obtain⟨hc,h⟩:=gS h;have hlo:(ab H).lo=H.lo:=rfl;have uJ:(ab H).ds=H.ds:=rfl;simp only[e8,ho,aT,HObj.g,hlo,uJ];rw[aA hc];obtain⟨T0,h0,h⟩:=TK _ _ _ _ h;obtain⟨x,T1,H1,h1,h⟩:=BI hs _ _ _ _ _ h;rw[h0] at h1;rw[show({objs:=(ab H).objs,lo:=H.lo,ds:=[]}:GS)=ab ⟨H.t,H.n,H.lo,[]⟩ from rfl,h1];split at h
  ·simp only[e8];split at h
   ·rename_i ho1;rw[gQ] at h;obtain⟨y,T2,H2,h2,h⟩:=BI hs _ _ _ _ _ h;rw[vS] at h2;simp only[ho1,aT,HObj.g];simp only[HObj.g] at h2;rw[h2];cases y with
    |panic g=>cases h
    |_=>exact GG h
   ·cases h
  ·cases h
 ·cases h
theorem JO {Γ:s7} {m:Nat} {fn:Func} {c:Code} {ih:FI} (hs:mA ih (j7 P M Γ m)) {args:List GV} {H:HS} {K:GRes->HS->HR} {q:GRes}
  (h:(BL P M Γ fn c).run ⟨ih,j7 P M Γ m⟩ m args H K=some q):∃r H',F0 P M (j7 P M Γ m) m fn c args (ab H)=some (r,ab H')/\K r H'=some q:=by
 unfold BL at h;obtain⟨hn,h⟩:=gS h;obtain⟨T,h0,h⟩:=TY _ _ _ _ _ h;obtain⟨x,T1,H1,h1,h⟩:=BI (call:=⟨ih,j7 P M Γ m⟩) hs _ _ _ _ _ h;have hst:fr T=lJ args:=by
  rw[h0];funext t;simp[lJ,ZZ]
 rw[hst] at h1;simp only[F0,aA (aO hn)];rw[show({ab H with ds:=[]}:GS)=ab ⟨H.t,H.n,H.lo,[]⟩ from rfl];have uJ:(ab H).ds=H.ds:=rfl;rw[h1];cases x with
 |exit id=>cases h
 |panic g=>
  obtain⟨r,H2,h2,h⟩:=EO _ _ _ _ _ h;refine⟨r,_,?_,h⟩;simp only;rw[show(ab H1).ds=H1.ds from rfl,h2];rfl
 |_=>
  obtain⟨r,H2,h2,h⟩:=EO _ _ _ _ _ h;refine⟨r,_,?_,h⟩;simp only;rw[show(ab H1).ds=H1.ds from rfl,h2];rfl
theorem ZC {Γ:s7} {k:FuncId} {m:Nat} {ih:FI} (hs:mA ih (j7 P M Γ m)) {args:List GV} {H:HS} {K:GRes->HS->HR} {q:GRes} (hk:oX Γ (.fn k) args (ab H)=none)
  (h:(rX P M Γ k).run ⟨ih,j7 P M Γ m⟩ m args H K=some q):∃r H',j7 P M Γ (m+1) (.fn k) args (ab H)=some (r,ab H')/\K r H'=some q:=by
 unfold rX at h;split at h
 ·cases h
 ·rename_i fn rX;split at h
  ·cases h
  ·rename_i c hb;split at h
   ·rename_i hM;simp only[j7,hk,rX,hb,hM,aY,cO];exact JO hs h
   ·rename_i hM;simp only[yH xE] at h;obtain⟨r,H',h1,h⟩:=JO hs h;have e:ab ⟨H.t,H.n,H.n,[]⟩={objs:=(ab H).objs,lo:=(ab H).objs.length}:=by rw[jW];rfl
    rw[e] at h1;simp only[j7,hk,rX,hb,hM,dL,OM,h1];cases r with
    |val g=>
     obtain⟨hbl,h⟩:=gS h;rw[xE] at h;exact⟨_,H,by simp only[jW,hbl,dL],h⟩
    |panic g=>
     obtain⟨hbl,h⟩:=gS h;rw[xE] at h;exact⟨_,H,by simp only[jW,hbl,dL],h⟩
theorem JM {Γ:s7} {Δ:RA} (hE:XP Γ Δ):∀m:Nat,mA (bH P M Γ Δ m) (j7 P M Γ m):=by
 intro m;induction m with
 |zero=>intro t args H K q h;cases h
 |succ m ih=>
  intro t args H K q h;cases t with
  |fn k=>
   replace h:(match Δ k args H with
    |some f=>f K
    |none=>(rX P M Γ k).run ⟨bH P M Γ Δ m,j7 P M Γ m⟩ m args H K)=some q:=h
   have he:=hE k args H;split at h
   ·rename_i f hd;rw[hd] at he;obtain⟨r,H',h1,h⟩:=he _ _ h;exact⟨r,H',by simp only[j7,h1],h⟩
   ·rename_i hd;rw[hd] at he;exact ZC ih he h
  |yld r=>exact WB (call:=⟨bH P M Γ Δ m,j7 P M Γ m⟩) ih h
theorem SC.of_hcall (hm:P.follows .mixedOrders=true) {Γ:s7} {Δ:RA} (hΓ:∀w0,EnvSound P w0 M Γ) (hE:XP Γ Δ) {m:Nat} {k:FuncId} {args:List GV} {r:GRes}
  (h:bH P M Γ Δ m (.fn k) args ⟨.nil,0,0,[]⟩ (fun r _=>some r)=some r) (hr:∀e,r.ren e=r):SC P k args [] r []:=by
 obtain⟨r1,H',h1,h⟩:=JM hE m _ _ _ _ _ h;cases h;exact SC.of_gcall hm hΓ (m:=m) (by rw[show(⟨[],0,[]⟩:GS)=ab ⟨.nil,0,0,[]⟩ from rfl,h1];rfl) hr
end
section
open Go.RowKit
theorem EL [MaxL] {C:Cx} {w:World} (hr:Rel C ⟨[],0,[]⟩ w w):w.cell? ⟨1,0,none⟩=some (.int .i64 MaxL.m):=by
 obtain⟨u,h1,h2⟩:=hr.gl 1 [.i .i64 MaxL.m] 0 (.i .i64 MaxL.m) rfl rfl;have:=h2 C (fun _ _ _ h=>h);cases this;exact hr.fxc _ _ _ h1
theorem P1 [MaxL] {C:Cx} {a b:By} {vs:Array Value} (hv:VRs C [.s a,.s b] vs.toList):vs= #[.string ⟨a.toArray⟩,.string ⟨b.toArray⟩]:=by
 obtain⟨u,vs',e,hv1,hv2⟩:=hv.cons_inv;obtain⟨u2,vs2,e2,hv3,hv4⟩:=hv2.cons_inv;have:vs2=[]:=aI (by simpa using hv4.1);subst this;cases hv1;cases hv3;rw[<-gO (xs:=vs),e,e2]
theorem OZ [MaxL] (s AT:By) (hs:s.length<4000000000):SC Tryz.prog 184 [.s s,.s AT] [] (.val (.i .i64 (Lib.index s AT))) []:=by
 refine SC.of_calls fun C w vs hr hv=>?_;obtain rfl:=P1 hv;refine(Tryz.strings_Index ⟨s.toArray⟩ ⟨AT.toArray⟩ _ w (by simp[ByteArray.size];omega) (EL hr)).mono ?_;rintro e w' ⟨rfl,rfl⟩;exact⟨_,rfl,.refl _ _,.i _ _⟩
end
