/- Part of ViewWrong. -/
import Derived.Test.YtimgfjldcdhejaaGreatDoorK19
set_option linter.all false
set_option maxRecDepth 100000
namespace Go.Proofs.YtimgfjldcdhejaaGreatDoor
section
open Go.RowKit
def pT (t:List UInt8):Nat:=1+(t.takeWhile dL).length
def sw:List UInt8->Option Nat
 |[]=>none
 |c::t=>
  if dL c=true/\c≠95 then
   (if 97<=c.toNat then(if dU ((c::t).take (pT t)) then some (pT t) else none) else if(zF ((c::t).take (pT t))).2 then some (pT t) else none)
  else if c=45 then(if(zF ((c::t).take (pT t))).2 then some (pT t) else none)
  else if c=34 then(if(jS (c::t) 0).2=0 then none else some (jS (c::t) 0).2)
  else if(c=60/\(t.head?=some 62∨t.head?=some 61))∨(c=62/\t.head?=some 61) then some 2
  else if c=40∨c=41∨c=58∨c=61∨c=60∨c=62 then some 1 else none
def lS:Nat->List UInt8->Option (List By)
 |0,_=>none
 |_+1,[]=>some []
 |f+1,c::t=>if c=32 then lS f t else match sw (c::t) with
  |some k=>(lS f ((c::t).drop k)).map fun ws=>(c::t).take k::ws
  |none=>none
theorem a1C (t:List UInt8):1<=pT t:=by unfold pT;omega
theorem WQ (t:List UInt8):pT t<=t.length+1:=by
 have:=(gW (l:=t) dL).length_le;unfold pT;omega
theorem IX:∀(n:Nat) {l t r:List UInt8},l.length<=n->rq l=some (t,r)->r.length<l.length
 |0,l,t,r,h,e=>by
  cases l with
  |nil=>cases e
  |cons _ _=>simp at h
 |n+1,[],t,r,h,e=>by cases e
 |n+1,c::l,t,r,h,e=>by
  have hl:l.length<=n:=by simp at h;omega
  by_cases h34:c=34
  ·rw[h34,WR] at e;cases e;simp
  ·by_cases hb:c.toNat<32∨126<c.toNat
   ·rw[NX h34 hb] at e;cases e
   ·by_cases h92:c=92
    ·subst h92;by_cases hx:∃a b l2,l=120::a::b::l2
     ·obtain⟨a,b,l2,rfl⟩:=hx;rw[a3m] at e;split at e
      ·split at e
       ·split at e
        ·cases e
        ·cases hq:rq l2 with
         |none=>rw[hq] at e;cases e
         |some p=>rw[hq] at e;cases e;have:=IX n (l:=l2) (t:=p.1) (r:=p.2) (by simp at hl;omega) hq;simp;omega
       ·cases e
      ·cases e
     ·by_cases he:∃c' l1,l=c'::l1/\(c'=34∨c'=92)
      ·obtain⟨c',l1,rfl,hc'⟩:=he;rw[NW hc'] at e;cases hq:rq l1 with
       |none=>rw[hq] at e;cases e
       |some p=>rw[hq] at e;cases e;have:=IX n (l:=l1) (t:=p.1) (r:=p.2) (by simp at hl;omega) hq;simp;omega
      ·rw[D5 (fun e0 r1 h1=>⟨fun h=>he ⟨e0,r1,h1,h⟩,fun h a b r2 h2=>hx ⟨a,b,r2,by rw[h1,h,h2]⟩⟩)] at e;cases e
    ·rw[a3n h34 hb h92] at e;cases hq:rq l with
     |none=>rw[hq] at e;cases e
     |some p=>rw[hq] at e;cases e;have:=IX n (l:=l) (t:=p.1) (r:=p.2) hl hq;simp;omega
theorem QN (s:List UInt8) (i:Nat):jS s i=jS (s.drop i) 0:=by
 unfold jS;rw[show(s.drop i)[0]?=s[i]? by rw[gI];rfl,j7,bI];split
 ·cases h:rq (s.drop (i+1)) with
  |none=>rfl
  |some p=>simp only[ER,d9];congr 1;omega
 ·rfl
theorem M9 (s:List UInt8):(jS s 0).2<=s.length:=by
 unfold jS;split
 ·cases h:rq (s.drop (0+1)) with
  |none=>exact zL _
  |some p=>simp only[ER];omega
 ·exact zL _
theorem a0t {l:List UInt8} {k:Nat} (h:sw l=some k):1<=k/\k<=l.length:=by
 cases l with
 |nil=>cases h
 |cons c t=>
  have h1:=a1C t;have h2:=WQ t;have h3:=M9 (c::t);have h4:(t.head?=some 62∨t.head?=some 61)->1<=t.length:=fun h=>by
   cases t with
   |nil=>simp at h
   |cons _ _=>simp
  simp only[sw] at h;simp only[aI] at h3⊢;split at h
  ·split at h
   ·split at h
    ·cases h;omega
    ·cases h
   ·split at h
    ·cases h;omega
    ·cases h
  ·split at h
   ·split at h
    ·cases h;omega
    ·cases h
   ·split at h
    ·split at h
     ·cases h
     ·cases h;omega
    ·split at h
     ·rename_i hh;cases h;have:1<=t.length:=h4 (hh.elim (fun h=>h.2) (fun h=>.inr h.2));omega
     ·split at h
      ·cases h;omega
      ·cases h
def EI (s:By):Option (List By):=lS (s.length+1) s
theorem C7 (f:Nat):lS (f+1) []=some []:=rfl
theorem wJ (f:Nat) (t:By):lS (f+1) (32::t)=lS f t:=by
 show(if(32:UInt8)=32 then _ else _)=_;rw[aD rfl]
theorem wK (f:Nat) {c:UInt8} (h:c≠32) (t:By):lS (f+1) (c::t)=match sw (c::t) with
  |some k=>(lS f ((c::t).drop k)).map fun ws=>(c::t).take k::ws
  |none=>none:=by
 show(if c=32 then _ else _)=_;rw[aC h];try rfl
theorem uX:∀(f g:Nat) (l:By),l.length<f->l.length<g->lS f l=lS g l
 |0,_,_,h,_=>by omega
 |_,0,_,_,h=>by omega
 |f+1,g+1,[],_,_=>rfl
 |f+1,g+1,c::t,h,h'=>by
  simp only[aI] at h h';by_cases hc:c=32
  ·rw[hc,wJ,wJ];exact uX f g t (by omega) (by omega)
  ·rw[wK f hc,wK g hc];cases hk:sw (c::t) with
   |none=>rfl
   |some k=>
    have:=a0t hk;have hd:((c::t).drop k).length<=t.length:=by simp;omega
    simp only;rw[uX f g _ (by omega) (by omega)]
variable [Globals]
class NL (i n:Nat):Prop where
 h:i<n
instance (n:Nat):NL 0 (n+1):=⟨Nat.succ_pos n⟩
instance (i n:Nat) [k:NL i n]:NL (i+1) (n+1):=⟨Nat.succ_lt_succ k.h⟩
class RG (e:Nat->Nat) (g:GV) (g':outParam GV):Prop where
 h:g.ren e=g'
class RL (e:Nat->Nat) (l:List GV) (l':outParam (List GV)):Prop where
 h:l.map (GV.ren e)=l'
class RO (e:Nat->Nat) (x:GObj) (x':outParam GObj):Prop where
 h:x.ren e=x'
class RH (e:Nat->Nat) (s:List GObj) (s':outParam (List GObj)):Prop where
 h:s.map (GObj.ren e)=s'
class RR (e:Nat->Nat) (r:GRes) (r':outParam GRes):Prop where
 h:r.ren e=r'
class KG (g:GV):Prop where
 h:Cl g
class KL (l:List GV):Prop where
 h:ClL l
instance {x:Bool}:KG (.b x):=⟨fun _=>rfl⟩
instance {k:IntKind} {n:Int}:KG (.i k n):=⟨fun _=>rfl⟩
instance {l:List UInt8}:KG (.s l):=⟨fun _=>rfl⟩
instance {v:Value}:KG (.o v):=⟨fun _=>rfl⟩
instance {g o:Nat}:KG (.glb g o):=⟨fun _=>rfl⟩
instance:KG .any:=⟨fun _=>rfl⟩
instance {l:List GV} [k:KL l]:KG (.agg l):=⟨eQ k.h⟩
instance {l:List GV} [k:KL l]:KG (.tup l):=⟨i8 k.h⟩
instance {l:List GV} [k:KL l]:KG (.sl .none l):=⟨bK k.h⟩
instance {l:List GV} [k:KL l]:KG (.sl .full l):=⟨fun e=>by rw[GV.ren,cU,k.h e];rfl⟩
instance {t:TypeId} {g:GV} [k:KG g]:KG (.ifc t g):=⟨fun e=>by rw[GV.ren,k.h e]⟩
instance {f:Fn} {a c:List GV} [k:KL a] [j:KL c]:KG (.fn f a c):=⟨fun e=>by rw[GV.ren,cU,cU,k.h e,j.h e]⟩
instance {l:List GV} {o:Nat} [k:KL l]:KG (.snap l o):=⟨fun e=>by rw[GV.ren,cU,k.h e]⟩
instance:KL []:=⟨jF⟩
instance {x:GV} {l:List GV} [k:KG x] [j:KL l]:KL (x::l):=⟨cC k.h j.h⟩
instance {α:Type} {f:α->GV} {l:List α} [k:∀a,KG (f a)]:KL (l.map f):=⟨iA (fun a=>(k a).h) l⟩
instance (priority:=low) {e:Nat->Nat} {g:GV} [k:KG g]:RG e g g:=⟨k.h e⟩
instance (priority:=low) {e:Nat->Nat} {l:List GV} [k:KL l]:RL e l l:=⟨k.h e⟩
instance {e:Nat->Nat} {r o:Nat}:RG e (.ptr r o) (.ptr (e r) o):=⟨rfl⟩
instance {e:Nat->Nat} {r:Nat}:RG e (.mp r) (.mp (e r)):=⟨rfl⟩
instance {e:Nat->Nat} {r:Nat} {l:List GV} [k:KL l]:RG e (.sl (.own r) l) (.sl (.own (e r)) l):=⟨by rw[GV.ren,cU,k.h e];rfl⟩
instance {e:Nat->Nat} {f:Fn} {a c a' c':List GV} [k:RL e a a'] [j:RL e c c']:RG e (.fn f a c) (.fn f a' c'):=⟨by rw[GV.ren,cU,cU,k.h,j.h]⟩
instance {e:Nat->Nat} {l l':List GV} [k:RL e l l']:RG e (.agg l) (.agg l'):=⟨by rw[GV.ren,cU,k.h]⟩
instance {e:Nat->Nat} {l l':List GV} [k:RL e l l']:RG e (.tup l) (.tup l'):=⟨by rw[GV.ren,cU,k.h]⟩
instance {e:Nat->Nat}:RL e [] []:=⟨rfl⟩
instance {e:Nat->Nat} {x x':GV} {l l':List GV} [k:RG e x x'] [j:RL e l l']:RL e (x::l) (x'::l'):=⟨by rw[dJ,k.h,j.h]⟩
instance {e:Nat->Nat} {T:TypeId} {l l':List GV} [k:RL e l l']:RO e (.box T l) (.box T l'):=⟨by rw[GObj.ren,k.h]⟩
class KM (l:List (GV×GV)):Prop where
 h:∀e,l.map (fun p=>(p.1.ren e,p.2.ren e))=l
instance:KM []:=⟨fun _=>rfl⟩
instance {a b:GV} {l:List (GV×GV)} [i:KG a] [j:KG b] [k:KM l]:KM ((a,b)::l):=⟨fun e=>by rw[dJ,i.h e,j.h e,k.h]⟩
instance {l l':List (GV×GV)} [j:KM l] [k:KM l']:KM (l++l'):=⟨fun e=>by rw[b5,j.h,k.h]⟩
instance {e:Nat->Nat} {l:List (GV×GV)} [k:KM l]:RO e (.mp l) (.mp l):=⟨by rw[GObj.ren,k.h]⟩
instance {e:Nat->Nat} {n s:Nat} {t:TypeId}:RO e (.own n s t) (.own n s t):=⟨rfl⟩
instance {e:Nat->Nat}:RO e .dead .dead:=⟨rfl⟩
instance {e:Nat->Nat}:RH e [] []:=⟨rfl⟩
instance {e:Nat->Nat} {x x':GObj} {s s':List GObj} [k:RO e x x'] [j:RH e s s']:RH e (x::s) (x'::s'):=⟨by rw[dJ,k.h,j.h]⟩
instance {e:Nat->Nat} {s t s' t':List GObj} [k:RH e s s'] [j:RH e t t']:RH e (s++t) (s'++t'):=⟨by rw[b5,k.h,j.h]⟩
instance {e:Nat->Nat} {g g':GV} [k:RG e g g']:RR e (.val g) (.val g'):=⟨by rw[GRes.ren,k.h]⟩
instance {e:Nat->Nat} {g g':GV} [k:RG e g g']:RR e (.panic g) (.panic g'):=⟨by rw[GRes.ren,k.h]⟩
theorem Lies.mk' {ks:List Nat} {s t objs:List GObj} [hr:RH (jZ ks objs.length) s t] (ho:ks.map (fun q=>objs[q]?)=t.map some) (hl:ks.length=s.length) (hn:ks.Nodup) (hh:s.all GObj.notHeld=true):Lies ks s objs:=
 ⟨hn,hl,fun i k x h1 h2=>by
  have h3:=aR (fun l:List (Option GObj)=>l[i]?) ho;have h4:=aR (fun l:List GObj=>l[i]?) hr.h;simp only[aK,h1,h2,dP] at h3 h4;rw[<-h4] at h3;simpa using h3,fun x hx e=>by subst e;have:=List.all_eq_true.1 hh _ hx;cases this⟩
def vR:List Nat->List GObj->List GObj->List GObj
 |q::ks,x::xs,l=>vR ks xs (l.set q x)
 |_,_,l=>l
theorem IT:∀(ks:List Nat) (xs l:List GObj),(vR ks xs l).length=l.length
 |[],_,l=>rfl
 |q::ks,[],l=>rfl
 |q::ks,x::xs,l=>by rw[vR,IT,List.length_set]
theorem IU:∀(ks:List Nat) (xs l:List GObj) (r:Nat),ks.Nodup->ks.length=xs.length->r<l.length->(vR ks xs l)[r]?=match ks.idxOf? r with|some i=>xs[i]?|none=>l[r]?
 |[],_,l,r,_,_,_=>rfl
 |q::ks,[],l,r,_,h,_=>by cases h
 |q::ks,x::xs,l,r,hn,h,hr=>by
  rw[vR,IU ks xs _ r (List.nodup_cons.1 hn).2 (by simpa using h) (by rw[List.length_set];exact hr)];by_cases hq:q=r
  ·subst hq;have h1:ks.idxOf? q=none:=List.idxOf?_eq_none_iff.2 (List.nodup_cons.1 hn).1;rw[h1];simp[List.idxOf?,List.findIdx?_cons,hr]
  ·have e:(q::ks).idxOf? r=(ks.idxOf? r).map (· +1):=by simp[List.idxOf?,List.findIdx?_cons,hq]
   rw[e];cases ks.idxOf? r with
   |none=>simp[dK hq]
   |some i=>simp
theorem G3 {ks:List Nat} {s' objs:List GObj} (hn:ks.Nodup) (hl:ks.length=s'.length) (hk:∀k∈ks,k<objs.length):k8 ks s' objs=vR ks (s'.map (GObj.ren (jZ ks objs.length))) objs:=by
 apply eK;intro r;rw[kZ hk (Nat.le_of_eq hl)];unfold iU;by_cases hr:r<objs.length
 ·rw[aD hr,IU _ _ _ _ hn (by simpa using hl) hr];cases ks.idxOf? r with
  |none=>rfl
  |some i=>simp
 ·rw[aC hr,bG (l:=vR _ _ _) (by rw[IT];omega)];have:s'[ks.length+(r - objs.length)]?=none:=bG (by omega);simp[this]
theorem cG (ks:List Nat) {P:Program} {M:FuncId->Bool} {k:FuncId} {args a a':List GV} {s t s' t':List GObj} {r r':GRes} {σ:GS} {K:GRes->GS->Prop} (h:SC P k a s r s')
  [i1:RL (jZ ks σ.objs.length) a a'] [i2:RH (jZ ks σ.objs.length) s t] [i3:RH (jZ ks σ.objs.length) s' t'] [i4:RR (jZ ks σ.objs.length) r r']
  (hk:K r' ⟨vR ks t' σ.objs,σ.lo,σ.ds⟩) (hw:Wks args a':=by first|exact wR _|exact wC (bY _ _) (wR _)|exact wC (bY _ _) (wC (bY _ _) (wR _))|exact wC (bF _) (wC (bY _ _) (wR _))) (ho:ks.map (fun q=>σ.objs[q]?)=t.map some:=by rfl) (hl:ks.length=s.length:=by rfl) (hl':ks.length=s'.length:=by rfl) (hn:ks.Nodup:=by decide)
  (hh:s.all GObj.notHeld=true:=by rfl) (hlo:σ.lo=0:=by rfl) (hM:M k=false:=by rfl):gZ P M (.fn k) args σ K:=by
 have hL:Lies ks s σ.objs:=Lies.mk' ho hl hn hh;have hf:=h.fact (σ:=σ) (args':=args) ks hL hlo (by rw[i1.h];exact hw);rw[G3 hn hl' (fun k hk=>hL.lt k hk),i3.h,i4.h] at hf;exact⟨r',_,hf,(fun k' e hk'=>by cases e;rw[hM] at hk';cases hk'),hk⟩
theorem cP {P:Program} {M:FuncId->Bool} {k:FuncId} {a args:List GV} {r:GV} {σ:GS} {K:GRes->GS->Prop} (h:SC P k a [] (.val r) []) [i1:KL a] [i2:KG r] (hk:K (.val r) σ) (hw:Wks args a:=by first|exact wR _|exact wC (bY _ _) (wR _)|exact wC (bY _ _) (wC (bY _ _) (wR _))|exact wC (bF _) (wC (bY _ _) (wR _))) (hlo:σ.lo=0:=by rfl):
  gZ P M (.fn k) args σ K:=bT h hw hlo i1.h i2.h hk
theorem cBx (q:Nat) {P:Program} {M:FuncId->Bool} {k:FuncId} {a args:List GV} {T:TypeId} {cs cs':List GV} {r:GV} {σ:GS} {K:GRes->GS->Prop} (h:SC P k (.ptr 0 0::a) [.box T cs] (.val r) [.box T cs']) [i1:KL cs] [i2:KL cs'] [i3:KL a] [i4:KG r]
  (hk:pX σ q (.box T cs') fun s=>K (.val r) s) (hq:σ.objs[q]?=some (.box T cs):=by rfl) (hw:Wks args (.ptr q 0::a):=by first|exact wR _|exact wC (bY _ _) (wR _)|exact wC (bY _ _) (wC (bY _ _) (wR _))|exact wC (bF _) (wC (bY _ _) (wR _))) (hlo:σ.lo=0:=by rfl) (hM:M k=false:=by rfl):gZ P M (.fn k) args σ K:=
 a2p h hq hw hlo hM i1.h i2.h i3.h i4.h hk
theorem cS (ks:List Nat) {P:Program} {M:FuncId->Bool} {k:FuncId} {args a a':List GV} {s t:List GObj} {r r':GRes} {σ:GS} {K:GRes->GS->Prop} (h:SC P k a s r s)
  [i1:RL (jZ ks σ.objs.length) a a'] [i2:RH (jZ ks σ.objs.length) s t] [i4:RR (jZ ks σ.objs.length) r r']
  (hk:K r' σ) (hw:Wks args a':=by first|exact wR _|exact wC (bY _ _) (wR _)|exact wC (bY _ _) (wC (bY _ _) (wR _))|exact wC (bF _) (wC (bY _ _) (wR _))) (ho:ks.map (fun q=>σ.objs[q]?)=t.map some:=by rfl) (hl:ks.length=s.length:=by rfl) (hn:ks.Nodup:=by decide)
  (hh:s.all GObj.notHeld=true:=by rfl) (hlo:σ.lo=0:=by rfl):gZ P M (.fn k) args σ K:=by
 have hL:Lies ks s σ.objs:=Lies.mk' ho hl hn hh;have hf:=h.fact (σ:=σ) (args':=args) ks hL hlo (by rw[i1.h];exact hw);rw[G3 hn hl (fun k hk=>hL.lt k hk),i2.h,i4.h] at hf;have same:∀(ks:List Nat) (t l:List GObj),ks.map (fun q=>l[q]?)=t.map some->vR ks t l=l:=by
  intro ks;induction ks with
  |nil=>intro t l _;cases t<;>rfl
  |cons q ks ih=>
   intro t l he;cases t with
   |nil=>rfl
   |cons x t=>
    simp only[dJ,List.cons.injEq] at he;have:l.set q x=l:=by
     apply eK;intro j;by_cases hj:q=j
     ·subst hj;rw[he.1,k5 (List.getElem?_eq_some_iff.1 he.1).1]
     ·rw[dK hj]
    rw[vR,this];exact ih t l he.2
 rw[same ks t σ.objs ho] at hf;exact⟨r',σ,hf,fun _ _ _=>rfl,hk⟩
theorem Wks.at_:∀{l l':List GV},Wks l l'->l.length=l'.length/\∀(j:Nat) g g',l[j]?=some g->l'[j]?=some g'->Wk g g'
 |[],[],_=>⟨rfl,fun j g g' h=>by simp at h⟩
 |g::l,g'::l',h=>by
  obtain⟨h1,h2⟩:=Wks.at_ h.2;refine⟨aR (· +1) h1,fun j x x' hx hx'=>?_⟩;cases j with
  |zero=>cases hx;cases hx';exact h.1
  |succ j=>exact h2 j x x' hx hx'
 |[],_::_,h=>h.elim
 |_::_,[],h=>h.elim
theorem Wks.agg {l l':List GV} (h:Wks l l'):Wk (.agg l) (.agg l'):=Wk.agg h.at_.1 h.at_.2
class FG (n:Nat) (g:GV):Prop where
 h:∀e:Nat->Nat,(∀i,i<n->e i=i)->g.ren e=g
class FL (n:Nat) (l:List GV):Prop where
 h:∀e:Nat->Nat,(∀i,i<n->e i=i)->l.map (GV.ren e)=l
class FO (n:Nat) (x:GObj):Prop where
 h:∀e:Nat->Nat,(∀i,i<n->e i=i)->x.ren e=x
class FH (n:Nat) (s:List GObj):Prop where
 h:∀e:Nat->Nat,(∀i,i<n->e i=i)->s.map (GObj.ren e)=s
class FR (n:Nat) (r:GRes):Prop where
 h:∀e:Nat->Nat,(∀i,i<n->e i=i)->r.ren e=r
class FP (n:Nat) (l:List (Nat×GV)):Prop where
 h:∀e:Nat->Nat,(∀i,i<n->e i=i)->l.map (fun p=>p.2.ren e)=l.map (·.2)
class FD (n:Nat) (l:List GDef):Prop where
 h:∀e:Nat->Nat,(∀i,i<n->e i=i)->l.map (GDef.ren e)=l
instance (priority:=low) {n:Nat} {g:GV} [k:KG g]:FG n g:=⟨fun e _=>k.h e⟩
instance (priority:=low) {n:Nat} {l:List GV} [k:KL l]:FL n l:=⟨fun e _=>k.h e⟩
instance {n r o:Nat} [k:NL r n]:FG n (.ptr r o):=⟨fun e he=>by rw[GV.ren,he r k.h]⟩
instance {n r:Nat} [k:NL r n]:FG n (.mp r):=⟨fun e he=>by rw[GV.ren,he r k.h]⟩
instance {n r:Nat} {l:List GV} [k:NL r n] [j:KL l]:FG n (.sl (.own r) l):=⟨fun e he=>by rw[GV.ren,cU,j.h e,Tok.ren,he r k.h]⟩
instance {n:Nat} {f:Fn} {a c:List GV} [k:FL n a] [j:FL n c]:FG n (.fn f a c):=⟨fun e he=>by rw[GV.ren,cU,cU,k.h e he,j.h e he]⟩
instance {n:Nat} {l:List GV} [k:FL n l]:FG n (.agg l):=⟨fun e he=>by rw[GV.ren,cU,k.h e he]⟩
instance {n:Nat} {l:List GV} [k:FL n l]:FG n (.tup l):=⟨fun e he=>by rw[GV.ren,cU,k.h e he]⟩
instance {n:Nat}:FL n []:=⟨fun _ _=>rfl⟩
instance {n:Nat} {x:GV} {l:List GV} [k:FG n x] [j:FL n l]:FL n (x::l):=⟨fun e he=>by rw[dJ,k.h e he,j.h e he]⟩
instance {n:Nat} {T:TypeId} {l:List GV} [k:FL n l]:FO n (.box T l):=⟨fun e he=>by rw[GObj.ren,k.h e he]⟩
instance {n:Nat} {l:List (GV×GV)} [k:KM l]:FO n (.mp l):=⟨fun e _=>by rw[GObj.ren,k.h]⟩
instance {m n s:Nat} {t:TypeId}:FO m (.own n s t):=⟨fun _ _=>rfl⟩
instance {n:Nat}:FO n .dead:=⟨fun _ _=>rfl⟩
instance {n:Nat}:FH n []:=⟨fun _ _=>rfl⟩
instance {n:Nat} {x:GObj} {s:List GObj} [k:FO n x] [j:FH n s]:FH n (x::s):=⟨fun e he=>by rw[dJ,k.h e he,j.h e he]⟩
instance {n:Nat} {s t:List GObj} [k:FH n s] [j:FH n t]:FH n (s++t):=⟨fun e he=>by rw[b5,k.h e he,j.h e he]⟩
instance {n:Nat} {g:GV} [k:FG n g]:FR n (.val g):=⟨fun e he=>by rw[GRes.ren,k.h e he]⟩
instance {n:Nat} {g:GV} [k:FG n g]:FR n (.panic g):=⟨fun e he=>by rw[GRes.ren,k.h e he]⟩
theorem FP.nil {n:Nat}:FP n []:=⟨fun _ _=>rfl⟩
theorem FP.cons {n t:Nat} {g:GV} {l:List (Nat×GV)} [k:FG n g] (j:FP n l):FP n ((t,g)::l):=⟨fun e he=>by rw[dJ,dJ,k.h e he,j.h e he]⟩
instance {n:Nat}:FD n []:=⟨fun _ _=>rfl⟩
theorem cQ (n:Nat) {s s' objs:List GObj} {r r':GRes} {lo:Nat} {ds:List GDef} [i1:FH n s'] [i2:FR n r']
  (hw:WkRes r r':=by exact WkRes.refl _) (ho:objs.take n=s':=by rfl) (hn:s'.length=n:=by rfl) (hl:s.length<=n:=by first|exact rL _|exact bL rfl) (hh:s'.all GObj.notHeld=true:=by rfl):
  Owes s r' s' r ⟨objs,lo,ds⟩:=by
 subst hn;refine eX (rest:=objs.drop s'.length) ?_ hl (fun e he=>i1.h e he) hh (fun e he=>i2.h e he) hw;have h1:=j4 s'.length objs;rw[ho] at h1;exact h1.symm
inductive OwesD (n:Nat) (s:List GObj) (r:GRes) (s':List GObj) (r0:GRes) (σ:GS):Prop where
 |val (h:Owes s r s' r0 σ)
 |pan (hn:n<=σ.objs.length) (hm:(σ.objs.take n).all GObj.mort=true) (h:Owes s r s' r0 (GT n σ))
theorem SC.of_gwpD (n:Nat) {P:Program} (M:FuncId->Bool) (hm:P.follows .mixedOrders=true) {k:FuncId} {fn:Func} {c:Code} (hfn:P.funcs[k]?=some fn) (hb:fn.body=some c) {args:List GV} {s s':List GObj} {r:GRes}
  (hlen:args.length<=fn.ntmps) (hs:s.length<=s'.length) (hh:s'.all GObj.notHeld=true) (h:UU P M none fn.ntmps c (vZ args) ⟨s,0,[]⟩ (a2c P fn (OwesD n s r s'))):SC P k args s r s':=
 SC.of_gwpR M hm hfn hb hlen hs hh _ (fun r0 σ0 ho=>by
  cases ho with
  |val h=>exact .inl h
  |pan hn hm h=>exact .inr ⟨n,hn,hm,h⟩) h
theorem a2Y (n:Nat) {s s' objs:List GObj} {r r':GRes} {lo:Nat} {ds:List GDef} [i2:FR n r'] (hw:WkRes r r':=by exact WkRes.refl _) (hs:s'=List.replicate n .dead:=by rfl) (hl:s.length<=n:=by first|exact rL _|exact bL rfl)
  (hn:(objs.take n).length=n:=by rfl) (hm:(objs.take n).all GObj.mort=true:=by rfl):OwesD n s r' s' r ⟨objs,lo,ds⟩:=by
 subst hs;have hn':n<=objs.length:=by rw[aS] at hn;omega
 refine .pan hn' hm (eX (rest:=objs.drop n) rfl (by rw[List.length_replicate];exact hl) (fun e he=>?_) ?_ (fun e he=>i2.h e fun i hi=>he i (by rw[List.length_replicate];exact hi)) hw)
 ·rw[List.map_replicate];rfl
 ·rw[aQ];intro x hx;rw[List.eq_of_mem_replicate hx];rfl
theorem GLoop.rng {β:Type} {f:r7} {φ:Fr} {σ:GS} {K:GX->Fr->GS->Prop} (m n:Nat) (I:Nat->β->Prop) (L:Nat->β->List (Nat×GV)) (O:Nat->β->List GObj) (D:List GDef) (b0:β) [i1:∀i b,FH m (O i b)] [i3:FD m D] (h0:I 0 b0)
  (step:∀i b φ0,i<=n->I i b->f (AI φ0 (L i b)) ⟨O i b,0,D⟩ fun x φ' σ'=>match x with
   |.normal=>∃m',m'<n - i/\∃a':Nat×β,(a'.1<=n/\I a'.1 a'.2)/\n - a'.1=m'/\kT φ' (L a'.1 a'.2)/\∃extra,σ'.objs=O a'.1 a'.2++extra/\σ'.ds=D
   |.exit i=>K (.exit i) φ' σ'
   |.ret=>K .ret φ' σ'
   |.panic g=>K (.panic g) φ' σ')
  (hφ:kT φ (L 0 b0):=by repeat' first|exact trivial|exact rfl|refine And.intro ?_ ?_) (hσ:σ=⟨O 0 b0,0,D⟩:=by rfl) (i2:∀i b,FP m (L i b):=by intros;repeat first|exact FP.nil|refine FP.cons ?_) (hm:∀i b,(O i b).length=m:=by intros;rfl) (hh:∀i b,(O i b).all GObj.notHeld=true:=by intros;rfl):GLoop f φ σ K:=
 dH (fun q:Nat×β=>q.1<=n/\I q.1 q.2) (fun q=>L q.1 q.2) (fun q=>⟨O q.1 q.2,0,D⟩) (fun q=>n - q.1) (0,b0) ⟨zL _,h0⟩ hφ hσ (fun q _=>by show(O 0 b0).length<=(O q.1 q.2).length;rw[hm,hm];exact rL _) (fun q _=>hh q.1 q.2)
  (fun q hq e he=>by
   have he':∀i,i<m->e i=i:=fun i hi=>he i (by show i<(O q.1 q.2).length;rw[hm];exact hi);exact⟨(i1 q.1 q.2).h e he',i3.h e he',(i2 q.1 q.2).h e he'⟩)
  (fun q φ0 hq=>step q.1 q.2 φ0 hq.1 hq.2)
def bE:=@GLoop.rng
theorem nx {β:Type} {n i:Nat} {J A:Nat×β->Prop} {O:Nat×β->List GObj} {objs:List GObj} {ds D:List GDef} (b':β) (hlt:i<n) (hJ:J (i+1,b')) (ho:objs.take (O (i+1,b')).length=O (i+1,b'):=by rfl)
  (ha:A (i+1,b'):=by repeat' first|exact trivial|exact rfl|exact bH (by omega)|refine And.intro ?_ ?_) (hd:ds=D:=by rfl):
  ∃m',m'<n - i/\∃a',J a'/\n - a'.1=m'/\A a'/\∃extra,objs=O a'++extra/\ds=D:=
 ⟨n - (i+1),by omega,(i+1,b'),hJ,rfl,ha,objs.drop (O (i+1,b')).length,by
  have h1:=j4 (O (i+1,b')).length objs;rw[ho] at h1;exact h1.symm,hd⟩
theorem TV {xs zs:List GV} {size k:Nat} {X:Tok} {K:Tok->List GV->Prop} (hall:xs.all (fun x=>x.cells.length==size)=true) (hk:k<=xs.length) (h:K .none zs) (hz:xs.take k=zs) (hX:X=.none:=by split<;>first|rfl|(split<;>rfl)):
  GNeed (xs.all (fun x=>x.cells.length==size)=true) (GNeed (0<=((k:Nat):Int)) (GNeed (0<=((k:Nat):Int).toNat/\((k:Nat):Int).toNat<=xs.length) (∃ys,ys=(xs.drop 0).take (((k:Nat):Int).toNat - 0)/\∃k',k'=X/\K k' ys))):=
 ⟨hall,jR _,⟨zL _,by rw[aL];exact hk⟩,zs,by rw[aL,List.drop_zero,Nat.sub_zero,hz],_,rfl,by rw[hX];exact h⟩
theorem gY {c:Bool} {A B:Prop} (h:c=true) (a:A):GIf c A B:=by subst h;exact a
theorem gN {c:Bool} {A B:Prop} (h:c=false) (b:B):GIf c A B:=by subst h;exact b
theorem st {l:List GV} {a b off n:Nat} {c:Bool} {K:List GV->Prop} (k:K l) (h1:a<=b:=by exact zL _) (h2:c=true:=by rfl) (h3:off+l.length<=n:=by exact bL rfl):∃vc,GNeed (vc=l/\a<=b/\c=true/\off+vc.length<=n) (K vc):=⟨l,⟨rfl,h1,h2,h3⟩,k⟩
theorem ix {α:Type} {xs:List α} {p:α->Prop} {i:Nat} {y:α} (hy:xs[i]?=some y) (hp:p y):GNeed (0<=((i:Nat):Int)) (∃y,xs[((i:Nat):Int).toNat]?=some y/\p y):=⟨jR _,y,by rw[aL];exact hy,hp⟩
end
section
open Go.RowKit
def bR (ws:List By):List GV:=ws.map .s
theorem eJ [MaxL] (ws:List By):ClL (bR ws):=iA (fun _=>Cl.s _) _
instance [MaxL] {l:List By}:KL (bR l):=⟨eJ l⟩
theorem cD (ws:List By):(bR ws).length=ws.length:=by simp[bR]
theorem HB (ws:List By):(bR ws).all (fun x=>x.cells.length==1)=true:=by
 rw[aQ];intro x hx;obtain⟨b,_,rfl⟩:=List.mem_map.1 hx;rfl
def a0z:Option (List By)->GV
 |some ws=>.tup [.sl .none (bR ws),.b true]
 |none=>.tup [.sl .none [],.b false]
theorem ap1 [MaxL] {α:Type} {f:α->GV} {c:Nat} (hf:∀a,(f a).cells.length=c) (o:List α) (y:α) {A:Prop} {K:List GV->Nat->Prop} (hA:A) (hl:o.length<4294967296) (k:K ((o++[y]).map f) (o++[y]).length):
  GNeed (A/\(o.map f).all (fun x=>x.cells.length==c)=true/\(o.map f).length+1<=4294967296) (∃zs m,GNeed (zs=o.map f++[f y]/\m=(o.map f).length+1) (K zs m)):=
 ⟨⟨hA,by
  rw[aQ];intro x hx;obtain⟨b,_,rfl⟩:=List.mem_map.1 hx;rw[hf];exact beq_self_eq_true _,by rw[b6];omega⟩,_,_,⟨by rw[b5];rfl,by rw[b6,aG];rfl⟩,k⟩
theorem gUy [MaxL] {c d:UInt8} {A B:Prop} (h:c=d) (a:A):GIf ((c.toNat:Int)==(d.toNat:Int)) A B:=by subst h;rw[beq_self_eq_true];exact a
theorem gUn [MaxL] {c d:UInt8} {A B:Prop} (h:c≠d) (b:B):GIf ((c.toNat:Int)==(d.toNat:Int)) A B:=bZ (fun e=>absurd (mO e) h) (fun _=>b)
theorem gU [MaxL] (d:UInt8) {c:UInt8} {A B:Prop} (y:c=d->A) (n:c≠d->B):GIf ((c.toNat:Int)==(d.toNat:Int)) A B:=bZ (fun e=>y (mO e)) (fun e=>n (o9 e))
theorem gVy [MaxL] {c d:UInt8} {A B:Prop} (h:c≠d) (a:A):GIf ((c.toNat:Int) !=(d.toNat:Int)) A B:=bZ (fun _=>a) (fun e=>absurd (tP e) h)
theorem gVn [MaxL] {c d:UInt8} {A B:Prop} (h:c=d) (b:B):GIf ((c.toNat:Int) !=(d.toNat:Int)) A B:=bZ (fun e=>absurd h (tO e)) (fun _=>b)
theorem gV [MaxL] (d:UInt8) {c:UInt8} {A B:Prop} (y:c≠d->A) (n:c=d->B):GIf ((c.toNat:Int) !=(d.toNat:Int)) A B:=bZ (fun e=>y (tO e)) (fun e=>n (tP e))
set_option maxHeartbeats 4000000 in
theorem a3r [MaxL] (s:List UInt8) (hs:s.length<1000000):SC Tryz.prog 167 [.s s] [] (.val (a0z (EI s))) []:=by
 generalize hR:EI s=R;have no:∀{k:Tok} {a:GS},Owes [] (.val (a0z none)) [] (.val (.tup [.sl k [],.b false])) a:=cZ (uT (bY _ _) (.refl _)) (i8 (.cons (bK jF) (.cons (.b _) .nil)));refine cO Tryz.func167 rfl ?_;conv=>whnf
 refine dH (fun q:Nat×List By=>q.1<=s.length/\q.2.length<=q.1/\(lS (s.length+1) (s.drop q.1)).map (fun ws=>q.2++ws)=R)
  (fun q=>[(0,.s s),(4,.sl (.own 1) (bR q.2)),(5,.i .i64 (q.1:Nat))]) (fun q=>⟨[.own 0 0 0,ow 9 1 q.2.length],0,[]⟩) (fun q=>s.length - q.1) (0,[]) ⟨zL _,rL _,by
   rw[<-hR];show Option.map _ (lS _ s)=lS _ s;cases lS (s.length+1) s<;>rfl⟩ ⟨rfl,rfl,rfl,trivial⟩ rfl (fun _ _=>rL _) (fun q _=>by simp only[e8,l5];rfl) (fun q _ e he=>?_) (fun q φ0 hq=>?_)
 ·refine⟨by simp[qO];rfl,rfl,?_⟩;show[_,(GV.sl (.own 1) (bR q.2)).ren e,_]=_;rw[nB (he 1 (by simp)) (eJ q.2)];rfl
 obtain⟨i,ws⟩:=q;obtain⟨hi,hws,hq⟩:=hq;replace hi:i<=s.length:=hi;replace hws:ws.length<=i:=hws;replace hq:(lS (s.length+1) (s.drop i)).map (fun l=>ws++l)=R:=hq;conv=>whnf
 apply gM<;>intro h1<;>conv=>whnf
 rotate_left
 ·have hie:i=s.length:=by have:=aA h1;omega
  have hr:R=some ws:=by rw[<-hq,hie,List.drop_length,C7];simp
  rw[hr];exact cZ (uT (bY _ _) (.refl _)) (i8 (.cons (bK (eJ ws)) (.cons (.b _) .nil)))
 have hlt:i<s.length:=by have:=aB h1;omega
 have hg:∀j,j<s.length->s[j]?=some (s.getD j 0):=fun j h=>by rw[aO,gL h];rfl
 have hgi:=hg i hlt;have hd:s.drop i=s.getD i 0::s.drop (i+1):=by
  rw[b8 hlt,aO,gL hlt];rfl
 generalize s.getD i 0=c at*;refine GNeed.mk (jR _) ⟨c,by rw[aL];exact hgi,?_⟩;conv=>whnf
 apply gM<;>intro h32<;>conv=>whnf
 ·have hc:=mO (d:=32) h32;exact⟨s.length - (i+1),(by show _<s.length - i;omega),(i+1,ws),⟨hlt,(by show ws.length<=i+1;omega),by
   rw[<-hq,hd,hc,wJ];show Option.map _ (lS (s.length+1) (s.drop (i+1)))=_;rw[uX (s.length+1) s.length _ (by rw[d9];omega) (by rw[d9];omega)]⟩,rfl,⟨rfl,rfl,bH (by omega),trivial⟩,_,rfl,rfl⟩
 have hc32:=o9 (d:=32) h32;generalize hT:s.drop (i+1)=t at*;have htl:t.length=s.length - (i+1):=by rw[<-hT,d9]
 have next:∀k,sw (c::t)=some k->i+k<=s.length/\1<=k/\(lS (s.length+1) (s.drop (i+k))).map (fun l=>(ws++[(c::t).take k])++l)=R:=fun k hk=>by
  have hp:=a0t hk;simp only[aI] at hp;refine⟨by omega,hp.1,?_⟩;rw[<-hq,hd,wK _ hc32,hk];simp only;rw[show(c::t).drop k=s.drop (i+k) by rw[<-hd,j7],uX (s.length+1) s.length _ (by rw[d9];omega) (by rw[d9];omega)];simp[i6]
 have bad:sw (c::t)=none->R=none:=fun h=>by rw[<-hq,hd,wK _ hc32,h];rfl
 refine sL (a1M c) ?_;conv=>whnf
 have hrw:pT t<=t.length+1:=WQ t;have hd':∀j:Nat,t[j]?=s[i+1+j]?:=fun j=>by rw[<-hT,gI]
 have runEnd:∀k:Nat,1<=k->(∀c∈t.take (k - 1),dL c=true)->(∀c,t[k - 1]?=some c->dL c=false)->k=pT t∨t.length<k - 1:=fun k hk h h'=>by
  have:=(TO h h').1;unfold pT;rw[this,aS];omega
 have W:∀k:Nat,i+k<=s.length->IntKind.i64.wrap ((i:Int)+(k:Int))=((i+k:Nat):Int):=fun k h=>by rw[dB (by omega) (by omega)];rfl
 refine bZ (fun hin=>?za) (fun hin=>?zb)
 case' za=>
  conv=>whnf
  refine bZ (fun h95=>?zc) (fun h95=>?zd)
  case zd=>
   (conv=>whnf);have hc95:=tP (d:=95) h95;rw[bad (by rw[hc95];simp[sw])];subst hc95;clear next bad hd hgi hc32 runEnd hd'
   repeat' (apply gM<;>intro hh<;>conv=>whnf)
   all_goals first
    |exact no
    |(exfalso;revert hh;decide)
    |(exfalso;simp_all;done)
  have hc95:=tO (d:=95) h95;have hw:sw (c::t)=if 97<=c.toNat then(if dU ((c::t).take (pT t)) then some (pT t) else none) else if(zF ((c::t).take (pT t))).2 then some (pT t) else none:=by simp only[sw];rw[aD ⟨hin,hc95⟩]
 case' zb=>
  conv=>whnf
  have hni:¬(dL c=true/\c≠95):=fun h=>by rw[hin] at h;exact absurd h.1 (by decide)
  refine bZ (fun h45=>?ze) (fun h45=>?zf)
  case' ze=>
   have hc45:=mO (d:=45) h45;have hw:sw (c::t)=if(zF ((c::t).take (pT t))).2 then some (pT t) else none:=by simp only[sw];rw[aC hni,aD hc45]
 case' za|ze=>
  conv=>whnf
  refine dD (fun k:Nat=>1<=k/\i+k<=s.length/\∀c∈t.take (k - 1),dL c=true) (fun k=>[(0,.s s),(4,.sl (.own 1) (bR ws)),(5,.i .i64 (i:Nat)),(6,.i .u8 c.toNat),(7,.i .i64 (k:Nat))]) (fun _=>⟨[.own 0 0 0,ow 9 1 ws.length],0,[]⟩) (fun k=>s.length - k) 1
   ⟨rL _,hlt,fun c h=>by simp at h⟩ ⟨rfl,rfl,rfl,rfl,rfl,trivial⟩ rfl (fun k φ1 hk=>?_)
  obtain⟨hk1,hk2,hk3⟩:=hk;have wk:=W k hk2;conv=>whnf
  apply bZ<;>intro g1
  case' yes=>
   have g1':i+k<s.length:=by have:=aB g1;rw[wk] at this;omega
   have hge:=hg (i+k) g1';(conv=>whnf);refine GNeed.mk (by rw[wk];exact jR _) ⟨s.getD (i+k) 0,by rw[wk,aL];exact hge,?_⟩;(conv=>whnf);refine sL (a1M (s.getD (i+k) 0)) ?_;(conv=>whnf);apply bZ<;>intro g2
   case yes=>
    (conv=>whnf);refine fR (k+1) ⟨by omega,by omega,?_⟩ (by omega) ⟨rfl,rfl,rfl,rfl,bH (by omega),trivial⟩ rfl;intro c' hc';rw[show k+1 - 1=k - 1+1 by omega,aT,hd',show i+1+(k - 1)=i+k by omega,hge] at hc';rcases List.mem_append.1 hc' with h|h
    ·exact hk3 c' h
    ·rw[List.mem_singleton.1 (show c'∈[s.getD (i+k) 0] from h)];exact g2
   have hkr:k=pT t:=(runEnd k hk1 hk3 (fun c' h=>by rw[hd',show i+1+(k - 1)=i+k by omega,hge] at h;cases h;exact g2)).resolve_right (by omega);clear hge g1' g1 g2
  case' no=>
   have hkr:k=pT t:=(runEnd k hk1 hk3 (fun c' h=>by
    have g1':s.length<=i+k:=by have:=aA g1;rw[wk] at this;omega
    rw[hd',bG (by omega)] at h;cases h)).resolve_right (by omega)
   clear g1
  all_goals
   (conv=>whnf);rw[<-hkr] at hw;try
    (apply bZ<;>intro h97)<;>(first|rw[aD (by have:=aB h97;omega)] at hw|rw[aC (by have:=aA h97;omega)] at hw)<;>conv=>whnf
  all_goals
   refine⟨jR _,?_⟩;(conv=>whnf);refine⟨by rw[wk];exact jR _,⟨by rw[wk,aL,aL];omega,by rw[wk,aL];exact hk2⟩,(c::t).take k,by rw[wk,aL,aL,hd,Nat.add_sub_cancel_left],?_⟩;(conv=>whnf);first
    |refine cP (tY ((c::t).take k)) ?_
    |refine cP (a3w ((c::t).take k) (by unfold b9;rw[aS];omega)) ?_
   (conv=>whnf);apply bZ<;>intro hz
   case yes=>
    (conv=>whnf);rw[bad (by rw[hw,aC (by simpa using hz)])];exact no
   (conv=>whnf);rw[aD (by simpa using hz)] at hw
 case' zf=>
  conv=>whnf
  have hc45:=o9 (d:=45) h45;refine bZ (fun h34=>?zg) (fun h34=>?zh)
  case' zg=>
   (conv=>whnf);have hc34:=mO (d:=34) h34;have hql:=M9 (c::t);have hcq:=WY s hs i hi;have hw:sw (c::t)=if(jS (c::t) 0).2=0 then none else some (jS (c::t) 0).2:=by simp only[sw];rw[aC hni,aC hc45,aD hc34]
   rw[QN,hd] at hcq;generalize(jS (c::t) 0).2=k at hcq hql hw;simp only[aI] at hql;refine sL hcq ?_;(conv=>whnf);apply bZ<;>intro hz
   case yes=>
    (conv=>whnf);rw[bad (by rw[hw,aD (by simpa using hz)])];exact no
   (conv=>whnf);rw[aC (by simpa using hz)] at hw;have hk2:i+k<=s.length:=by omega
   have wk:=W k hk2
  case' zh=>
   have hc34:=o9 (d:=34) h34;have S:sw (c::t)=if(c=60/\(t.head?=some 62∨t.head?=some 61))∨(c=62/\t.head?=some 61) then some 2 else if c=40∨c=41∨c=58∨c=61∨c=60∨c=62 then some 1 else none:=by
    simp only[sw];rw[aC hni,aC hc45,aC hc34]
   have w1:IntKind.i64.wrap ((i:Int)+1)=((i+1:Nat):Int):=W 1 hlt;have hg':=hg (i+1);generalize s.getD (i+1) 0=v at hg';have L:∀{A B:Prop},(s[i+1]?=some v/\t.head?=some v->A)->(t.head?=none->B)->GIf (decide (IntKind.i64.wrap ((i:Int)+1)<(s.length:Int))) A B:=fun y n=>by
    rw[w1];exact bZ (fun h=>y (by have h:=hg' (by have:=aB h;omega);exact⟨h,by rw[fZ,hd'];exact h⟩)) (fun h=>n (by rw[fZ,hd'];exact bG (by have:=aA h;omega)))
   have D:∀{P:UInt8->Prop},s[i+1]?=some v/\t.head?=some v->P v->GNeed (0<=IntKind.i64.wrap ((i:Int)+1)) (∃y,s[(IntKind.i64.wrap ((i:Int)+1)).toNat]?=some y/\P y):=fun{P} h p=>GNeed.mk (by rw[w1];exact jR _) ⟨v,by rw[w1,aL];exact h.1,p⟩;have q1:=trivial;have q2:=trivial;have ht:=trivial;have m1:=trivial;have m2:=trivial;have m3:=trivial;have m4:=trivial;by_cases c1:c=60
   case' pos=>obtain⟨c2,k0,k1,k2,k3⟩:c≠62/\c≠40/\c≠41/\c≠58/\c≠61:=by rw[c1];decide
   case' neg=>
    by_cases c2:c=62
    case' pos=>obtain⟨k0,k1,k2,k3⟩:c≠40/\c≠41/\c≠58/\c≠61:=by rw[c2];decide
   all_goals
    (conv=>whnf);repeat' first
     |(refine gUy c1 ?_;conv=>whnf)
     |(refine gUn c1 ?_;conv=>whnf)
     |(refine gUy c2 ?_;conv=>whnf)
     |(refine gUn c2 ?_;conv=>whnf)
     |(refine gVy c1 ?_;conv=>whnf)
     |(refine gVn c1 ?_;conv=>whnf)
     |(refine gVy c2 ?_;conv=>whnf)
     |(refine gVn c2 ?_;conv=>whnf)
     |(refine L (fun ht=>?_) (fun ht=>?_)<;>conv=>whnf)
     |(refine D ht ?_;conv=>whnf)
     |(refine gU 62 (fun q2=>?_) (fun q2=>?_)<;>conv=>whnf)
     |(refine gU 61 (fun q1=>?_) (fun q1=>?_)<;>conv=>whnf)
     |(refine gVy k0 ?_;conv=>whnf)
     |(refine gVy k1 ?_;conv=>whnf)
     |(refine gVy k2 ?_;conv=>whnf)
     |(refine gVy k3 ?_;conv=>whnf)
     |(refine gV 40 (fun m1=>?_) (fun m1=>?_)<;>conv=>whnf)
     |(refine gV 41 (fun m2=>?_) (fun m2=>?_)<;>conv=>whnf)
     |(refine gV 58 (fun m3=>?_) (fun m3=>?_)<;>conv=>whnf)
     |(refine gV 61 (fun m4=>?_) (fun m4=>?_)<;>conv=>whnf)
   all_goals first
    |first
      |have z:v=62∨v=61:=.inl q2
      |have z:v=62∨v=61:=.inr q1
     have hw:sw (c::t)=some 2:=by rw[S];simp[c1,c2,ht,q1,q2]
     obtain⟨k,e⟩:∃k:Nat,k=2:=⟨_,rfl⟩;have wk:IntKind.i64.wrap ((i:Int)+2)=((i+k:Nat):Int):=by subst e;exact W 2 (next 2 hw).1
     rw[<-e] at hw
    |have z:c≠61:=m4
     rw[bad (by rw[S];simp[c1,c2,m1,m2,m3,m4])];exact no
    |have hw:sw (c::t)=some 1:=by rw[S];simp[c1,c2,ht,q1,q2,m1,m2,m3,m4]
     obtain⟨k,e⟩:∃k:Nat,k=1:=⟨_,rfl⟩;have wk:IntKind.i64.wrap ((i:Int)+1)=((i+k:Nat):Int):=by subst e;exact w1
     rw[<-e] at hw
   all_goals have hk2:=(next k hw).1
 all_goals
  obtain⟨n1,n2,n3⟩:=next k hw
  refine⟨jR _,?_⟩;conv=>whnf
  refine⟨by rw[wk];exact jR _,⟨by rw[wk,aL,aL];omega,by rw[wk,aL];exact hk2⟩,(c::t).take k,by rw[wk,aL,aL,hd,Nat.add_sub_cancel_left],?_⟩;conv=>whnf
  cases ws;all_goals
   refine ap1 (f:=GV.s) (c:=1) (fun _=>rfl) _ ((c::t).take k) rfl (by simp only[aI,bO] at hws⊢;omega) ?_;(conv=>whnf);refine aN ?_ (h:=by first|rfl|exact(cD (_::_)).symm);(conv=>whnf);exact⟨s.length - (i+k),(by show _<s.length - i;omega),(i+k,_++[(c::t).take k]),⟨n1,(by show(_++[(c::t).take k]).length<=i+k;rw[aG,j5];first|exact Nat.le_of_lt_succ (by omega)|omega),n3⟩,rfl,⟨rfl,rfl,(by show GV.i .i64 (IntKind.i64.wrap _)=_;rw[wk]),trivial⟩,_,rfl,rfl⟩
end
section
open Go.RowKit
def arC (a:Ar):List GV:=[.s a.name,.i .i64 a.pages]
def arG (a:Ar):GV:=.agg (arC a)
def zB (l:List Ar):List GV:=l.map arG
def LD (r:Rc):List GV:=[.s r.name,.s r.area,.sl .none (fM r.its),.i .i64 r.place,.sl .none (bR r.keys),.b r.dups,.s r.via,.s r.check]
def QK (r:Rc):GV:=.agg (LD r)
def pU (l:List Rc):List GV:=l.map QK
def mbC (m:Mb):List GV:=[.s m.of,.b m.auto,.i .i64 m.keep,.sl .none (bR m.sel)]
def R8 (m:Mb):GV:=.agg (mbC m)
def jB (l:List Mb):List GV:=l.map R8
def kyC (k:Ky):List GV:=[.s k.item,.b k.down]
def kyG (k:Ky):GV:=.agg (kyC k)
def vX (l:List Ky):List GV:=l.map kyG
def E8 (t:Sy):List GV:=[.s t.name,.s t.owner,.sl .none (jB t.ms),.i .i64 t.order,.sl .none (vX t.keys),.i .i64 t.dups,.i .i64 t.mode]
def WD (t:Sy):GV:=.agg (E8 t)
def tQ (l:List Sy):List GV:=l.map WD
def jX (s:Sch):List GV:=[.sl .none (zB s.ar),.sl .none (pU s.rc),.sl .none (tQ s.st)]
def lT (s:Sch):GV:=.agg (jX s)
theorem cL [MaxL] {α:Type} (f:α->GV) (l:List α):(l.map f).length=l.length:=by simp
theorem YD [MaxL] (l:List Ar):ClL (zB l):=iA (fun _ _=>rfl) l
theorem O0 [MaxL] (r:Rc):ClL (LD r):=cC (fun _=>rfl) (cC (fun _=>rfl) (cC (bK (dC r.its)) (cC (fun _=>rfl) (cC (bK (eJ r.keys)) (cC (fun _=>rfl) (cC (fun _=>rfl) (cC (fun _=>rfl) .nil)))))))
theorem WW [MaxL] (l:List Rc):ClL (pU l):=iA (fun r=>eQ (O0 r)) l
theorem UM [MaxL] (m:Mb):ClL (mbC m):=cC (fun _=>rfl) (cC (fun _=>rfl) (cC (fun _=>rfl) (cC (bK (eJ m.sel)) .nil)))
theorem XH [MaxL] (l:List Mb):ClL (jB l):=iA (fun m=>eQ (UM m)) l
theorem XO [MaxL] (l:List Ky):ClL (vX l):=iA (fun _ _=>rfl) l
theorem TU [MaxL] (t:Sy):ClL (E8 t):=cC (fun _=>rfl) (cC (fun _=>rfl) (cC (bK (XH t.ms)) (cC (fun _=>rfl) (cC (bK (XO t.keys)) (cC (fun _=>rfl) (cC (fun _=>rfl) .nil))))))
theorem WC [MaxL] (l:List Sy):ClL (tQ l):=iA (fun t=>eQ (TU t)) l
theorem WN [MaxL] (s:Sch):ClL (jX s):=cC (bK (YD s.ar)) (cC (bK (WW s.rc)) (cC (bK (WC s.st)) .nil))
theorem a3h [MaxL] (s:Sch):Cl (lT s):=eQ (WN s)
def kO (s:Sch):Prop:=(s.ar.length<b9/\s.rc.length<b9/\s.st.length<b9)/\(∀r∈s.rc,r.its.length<b9/\r.keys.length<b9/\r.check.length<b9)/\∀t∈s.st,t.ms.length<b9/\t.keys.length<b9/\∀m∈t.ms,m.sel.length<b9
def o4 (l:List By):List (GV×GV):=l.map fun n=>(.s n,.b true)
theorem y6 [MaxL] {l:List By} {s:By} (h:l.contains s=false):mK .string (.s s) (o4 l) 0=some none:=x7 oF (fun e he=>by
 obtain⟨z,hz,rfl⟩:=List.mem_map.1 he;exact⟨z,rfl,fun e=>by subst e;simp[hz] at h⟩)
theorem HM {l:List By} {s:By}:∀(j:Nat),l.contains s=true->∃k,mK .string (.s s) (o4 l) j=some (some (k,.b true)):=by
 induction l with
 |nil=>intro j h;cases h
 |cons x l ih=>
  intro j h;show∃k,(match BT .string (.s s) (.s x) with|some true=>some (some (j,GV.b true))|some false=>mK .string (.s s) (o4 l) (j+1)|none=>none)=_;rw[oF];cases hx:(s==x) with
  |true=>exact⟨j,rfl⟩
  |false=>exact ih (j+1) (by rw[iK,hx] at h;exact h)
end
section
open Go.RowKit
instance [MaxL] {l:List Itm}:KL (fM l):=⟨dC l⟩
instance [MaxL] {l:List Ar}:KL (zB l):=⟨YD l⟩
instance [MaxL] {l:List Rc}:KL (pU l):=⟨WW l⟩
instance [MaxL] {l:List Mb}:KL (jB l):=⟨XH l⟩
instance [MaxL] {l:List Ky}:KL (vX l):=⟨XO l⟩
instance [MaxL] {l:List Sy}:KL (tQ l):=⟨WC l⟩
instance [MaxL] {a:Ar}:KL (arC a):=⟨fun _=>rfl⟩
instance [MaxL] {r:Rc}:KL (LD r):=⟨O0 r⟩
instance [MaxL] {m:Mb}:KL (mbC m):=⟨UM m⟩
instance [MaxL] {y:Ky}:KL (kyC y):=⟨fun _=>rfl⟩
instance [MaxL] {t:Sy}:KL (E8 t):=⟨TU t⟩
instance [MaxL] {s:Sch}:KL (jX s):=⟨WN s⟩
instance [MaxL] {s:Sch}:KG (lT s):=⟨a3h s⟩
instance [MaxL] {r:Rc}:KG (QK r):=⟨eQ (O0 r)⟩
instance [MaxL] {m:Mb}:KG (R8 m):=⟨eQ (UM m)⟩
instance [MaxL] {t:Sy}:KG (WD t):=⟨eQ (TU t)⟩
instance [MaxL] {y:Ky}:KG (kyG y):=⟨fun _=>rfl⟩
instance [MaxL] {i:Itm}:KL i.cs:=⟨fun _=>rfl⟩
instance [MaxL] {i:Itm}:KG i.gv:=⟨i.cl⟩
instance [MaxL] {l:List By}:KM (o4 l):=⟨fun e=>by unfold o4;rw[List.map_map];rfl⟩
theorem aY [MaxL] {α:Type} {f:α->GV} {l:List α} {i:Nat} {x:α} (h:l[i]?=some x):(l.map f)[i]?=some (f x):=by rw[aK,h];rfl
theorem pV {α:Type} {p:α->Bool} {l:List α} {i:Nat} {y:α} (hy:l[i]?=some y) (hp:p y=false) (h:∀z∈l.take i,p z=false):∀z∈l.take (i+1),p z=false:=fun z hz=>by
 rw[aT,hy] at hz;rcases List.mem_append.1 hz with hz|hz
 ·exact h z hz
 ·simp at hz;subst hz;exact hp
noncomputable def zN (n:Nat):(Nat->GV)->List GV:=Nat.rec (motive:=fun _=>(Nat->GV)->List GV) (fun _=>[]) (fun _ ih f=>f 0::ih fun i=>f (i+1)) n
instance [MaxL] {n:Nat} {f:Nat->GV} [k:∀i,KG (f i)]:KL (zN n f):=⟨by
 induction n generalizing f with
 |zero=>exact jF
 |succ n ih=>exact cC (k 0).h (ih (k:=fun i=>k (i+1)))⟩
instance [MaxL] {l:List GV} {i:Nat} [k:KL l]:KG (l.getD i .any):=⟨fun e=>by
 have h:=aR (fun z:List GV=>z[i]?) (k.h e);simp only[aK] at h;rw[aO];cases hx:l[i]? with
 |none=>rfl
 |some x=>rw[hx] at h;simpa using h⟩
theorem FQ [MaxL] {α:Type} (F:α->Nat->GV) [∀a i,KG (F a i)] (l:List α) (hl:l.length<b9) (p:α->Bool) (c:FuncId) (T:TypeId) (cs:List GV) [KL cs] (k:FuncId) (n:Nat)
  (hc:∀a∈l,SC Tryz.prog c [.agg (zN n (F a)),.ptr 0 0] [.box T cs] (.val (.b (p a))) [.box T cs])
  (hk:k=286/\n=2/\c=239∨k=105/\n=8/\c=244∨k=144/\n=7/\c=242∨k=146/\n=4/\c=243∨k=112/\n=5/\c=240∨k=287/\n=2/\c=246):
  SC Tryz.prog k [.sl .none (l.map fun a=>.agg (zN n (F a))),.fn (.func c) [] [.ptr 0 0]] [.box T cs] (.val (.i .i64 (jJ p l))) [.box T cs]:=by
 unfold b9 at hl;have hlen:(l.map fun a=>GV.agg (zN n (F a))).length=l.length:=by simp
 rcases hk with⟨rfl,rfl,rfl⟩|⟨rfl,rfl,rfl⟩|⟨rfl,rfl,rfl⟩|⟨rfl,rfl,rfl⟩|⟨rfl,rfl,rfl⟩|⟨rfl,rfl,rfl⟩;refine cO Tryz.func286 rfl ?_;conv=>whnf
 rotate_left;refine cO Tryz.func105 rfl ?_;conv=>whnf
 rotate_left;refine cO Tryz.func144 rfl ?_;conv=>whnf
 rotate_left;refine cO Tryz.func146 rfl ?_;conv=>whnf
 rotate_left;refine cO Tryz.func112 rfl ?_;conv=>whnf
 rotate_left;refine cO Tryz.func287 rfl ?_;conv=>whnf
 rotate_left;all_goals
  refine bE 1 l.length (fun i _=>∀z∈l.take i,p z=false) (fun i _=>[(0,.sl .none (l.map fun a=>.agg (zN _ (F a)))),(1,.fn (.func _) [] [.ptr 0 0]),(7,.i .i64 (l.map fun a=>GV.agg (zN _ (F a))).length),(8,.i .i64 (i:Nat))]) (fun _ (_:Unit)=>[.box T cs]) [] () (by simp) (fun i _ φ0 hi hne=>?_);conv=>whnf
  apply gM<;>intro h<;>conv=>whnf
  rotate_left
  ·have hie:i=l.length:=by have:=aA h;omega
   rw[hie,aV] at hne;rw[nJ hne];exact cQ 1
  have hlt:i<l.length:=by have:=aB h;omega
  obtain⟨y,hy⟩:∃y,l[i]?=some y:=⟨l[i],gL hlt⟩;refine ix (aY hy) ⟨rfl,?_⟩;conv=>whnf
  refine cS [0] (hc y (aE hy)) ?_;conv=>whnf
  apply gM<;>intro hp<;>conv=>whnf
  ·rw[o7 hy hp hne];exact cQ 1
  ·skip;exact nx () hlt ⟨hlt,pV hy hp hne⟩
def zO (C:List GV) (i:Nat):GV:=C.getD i .any
instance [MaxL] {l:List GV} {i:Nat} [k:KL l]:KG (zO l i):=inferInstanceAs (KG (l.getD i .any))
theorem a3k [MaxL] (a:Ar) (n:By):SC Tryz.prog 239 [arG a,.ptr 0 0] [.box 9 [.s n]] (.val (.b (a.name==n))) [.box 9 [.s n]]:=by
 refine cO Tryz.func239 rfl ?_;conv=>whnf
 exact cQ 1
theorem a5o [MaxL] (r:Rc) (n:By):SC Tryz.prog 244 [QK r,.ptr 0 0] [.box 9 [.s n]] (.val (.b (r.name==n))) [.box 9 [.s n]]:=by
 refine cO Tryz.func244 rfl ?_;conv=>whnf
 exact cQ 1
theorem a5n [MaxL] (t:Sy) (n:By):SC Tryz.prog 242 [WD t,.ptr 0 0] [.box 9 [.s n]] (.val (.b (t.name==n))) [.box 9 [.s n]]:=by
 refine cO Tryz.func242 rfl ?_;conv=>whnf
 exact cQ 1
theorem a5p [MaxL] (m:Mb) (n:By):SC Tryz.prog 243 [R8 m,.ptr 0 0] [.box 9 [.s n]] (.val (.b (m.of==n))) [.box 9 [.s n]]:=by
 refine cO Tryz.func243 rfl ?_;conv=>whnf
 exact cQ 1
theorem a3i [MaxL] (x:Itm) (n:By):SC Tryz.prog 240 [x.gv,.ptr 0 0] [.box 9 [.s n]] (.val (.b (x.name==n))) [.box 9 [.s n]]:=by
 refine cO Tryz.func240 rfl ?_;conv=>whnf
 exact cQ 1
theorem a5l [MaxL] (y z:Ky):SC Tryz.prog 246 [kyG y,.ptr 0 0] [.box 71 (kyC z)] (.val (.b (y.item==z.item))) [.box 71 (kyC z)]:=by
 refine cO Tryz.func246 rfl ?_;conv=>whnf
 exact cQ 1
theorem a5r [MaxL] (s:Sch) (hl:s.ar.length<b9) (m:List By) (n:By):SC Tryz.prog 185 [.ptr 0 0,.s n] [.box 184 [.sl .none (zB s.ar),.sl .none (pU s.rc),.sl .none (tQ s.st),.mp 1],.mp (o4 m)] (.val (.b ((bW s).contains n))) [.box 184 [.sl .none (zB s.ar),.sl .none (pU s.rc),.sl .none (tQ s.st),.mp 1],.mp (o4 m)]:=by
 have hi:=FQ (fun a=>zO (arC a)) s.ar hl (fun a=>a.name==n) _ 9 [.s n] _ 2 (fun a _=>a3k a n) (.inl ⟨rfl,rfl,rfl⟩);have hc:SC Tryz.prog 238 [.sl .none (zB s.ar),.fn (.func 239) [] [.ptr 0 0]] [.box 9 [.s n]] (.val (.b (s.ar.any fun a=>a.name==n))) [.box 9 [.s n]]:=by
  refine cO Tryz.func238 rfl ?_;conv=>whnf
  refine cS [0] hi ?_;conv=>whnf
  rw[<-l8];exact cQ 1
 rw[show(bW s).contains n=s.ar.any fun a=>a.name==n from cE _ _ _];refine cO Tryz.func185 rfl ?_;conv=>whnf
 refine cS [2] hc ?_;conv=>whnf
 exact cQ 2
theorem wM [MaxL] (s:Sch) (hl:s.rc.length<b9) (n:By):SC Tryz.prog 191 [lT s,.s n] [] (.val (.i .i64 (jJ (fun r=>r.name==n) s.rc))) []:=by
 have hi:=FQ (fun r=>zO (LD r)) s.rc hl (fun r=>r.name==n) _ 9 [.s n] _ 8 (fun r _=>a5o r n) (.inr (.inl ⟨rfl,rfl,rfl⟩));refine cO Tryz.func191 rfl ?_;conv=>whnf
 refine cS [1] hi ?_;conv=>whnf
 exact cQ 0
theorem a7H [MaxL] (s:Sch) (hl:s.st.length<b9) (n:By):SC Tryz.prog 188 [lT s,.s n] [] (.val (.i .i64 (jJ (fun t=>t.name==n) s.st))) []:=by
 have hi:=FQ (fun t=>zO (E8 t)) s.st hl (fun t=>t.name==n) _ 9 [.s n] _ 7 (fun t _=>a5n t n) (.inr (.inr (.inl ⟨rfl,rfl,rfl⟩)));refine cO Tryz.func188 rfl ?_;conv=>whnf
 refine cS [1] hi ?_;conv=>whnf
 exact cQ 0
theorem QD [MaxL] (t:Sy) (hl:t.ms.length<b9) (n:By):SC Tryz.prog 189 [WD t,.s n] [] (.val (.i .i64 (jJ (fun m=>m.of==n) t.ms))) []:=by
 have hi:=FQ (fun m=>zO (mbC m)) t.ms hl (fun m=>m.of==n) _ 9 [.s n] _ 4 (fun m _=>a5p m n) (.inr (.inr (.inr (.inl ⟨rfl,rfl,rfl⟩))));refine cO Tryz.func189 rfl ?_;conv=>whnf
 refine cS [1] hi ?_;conv=>whnf
 exact cQ 0
def oD (l:List Itm) (n:By):Itm:=(l.find? (·.name==n)).getD ⟨[],0,0,0,0⟩
theorem j2 {α:Type} (p:α->Bool) (l:List α):(jJ p l<0/\l.find? p=none/\l.any p=false)∨∃(i:Nat) (y:α),jJ p l=i/\l[i]?=some y/\l.find? p=some y/\l.any p=true:=by
 rcases Int.lt_or_le (jJ p l) 0 with h|h
 ·exact .inl ⟨h,List.find?_eq_none.2 fun z hz=>by simp[a8C.1 h z hz],by rw[<-l8];exact bN (by omega)⟩
 ·obtain⟨i,y,e,hy,hp, -,hf⟩:=E4 h;exact .inr ⟨i,y,e,hy,hf,by rw[<-l8];exact bC h⟩
theorem IV [MaxL] (r:Rc) (hl:r.its.length<b9) (n:By):SC Tryz.prog 186 [QK r,.s n] [] (.val (.tup [(oD r.its n).gv,.b (r.its.any (·.name==n))])) []:=by
 have hi:=FQ (fun x=>zO (Itm.cs x)) r.its hl (fun x=>x.name==n) _ 9 [.s n] _ 5 (fun x _=>a3i x n) (.inr (.inr (.inr (.inr (.inl ⟨rfl,rfl,rfl⟩)))));have key:=j2 (fun x:Itm=>x.name==n) r.its;generalize jJ (fun x:Itm=>x.name==n) r.its=j at*;refine cO Tryz.func186 rfl ?_;conv=>whnf
 refine cS [1] hi ?_;conv=>whnf
 rcases key with⟨h1,h2,h3⟩|⟨i,y,rfl,h2,h3,h4⟩
 ·rw[h3,show oD r.its n=⟨[],0,0,0,0⟩ by unfold oD;rw[h2];rfl];refine gY (bC h1) ?_;conv=>whnf
  refine st ?_;conv=>whnf
  exact cQ 0
 ·rw[h4,show oD r.its n=y by unfold oD;rw[h3];rfl];conv=>whnf
  refine ix (aY h2) ⟨rfl,?_⟩;conv=>whnf
  refine st ?_;conv=>whnf
  exact cQ 0
end
