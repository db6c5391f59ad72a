/-
  A part of the proof of SchemaFinds.
-/
import Derived.Test.YtcfgfkkhpdlhpaaGreatDoorT32
set_option linter.all false
set_option maxRecDepth 100000
namespace Go.Proofs.YtcfgfkkhpdlhpaaGreatDoor
open Go.RowKit
def arC (a:Ar):List GV:=[.s a.name,.i .i64 a.pages]
def arG (a:Ar):GV:=.agg (arC a)
def vX (l:List Ar):List GV:=l.map arG
def YM (r:Rc):List GV:=[.s r.name,.s r.area,.sl .none (fU r.its),.i .i64 r.place,.sl .none (aZ r.keys),.b r.dups,.s r.via,.s r.check]
def OC (r:Rc):GV:=.agg (YM r)
def vU (l:List Rc):List GV:=l.map OC
def mbC (m:Mb):List GV:=[.s m.of,.b m.auto,.i .i64 m.keep,.sl .none (aZ m.sel)]
def YO (m:Mb):GV:=.agg (mbC m)
def kV (l:List Mb):List GV:=l.map YO
def XC (k:Ky):List GV:=[.s k.item,.b k.down]
def kyG (k:Ky):GV:=.agg (XC k)
def tQ (l:List Ky):List GV:=l.map kyG
def H9 (t:Sy):List GV:=[.s t.name,.s t.owner,.sl .none (kV t.ms),.i .i64 t.order,.sl .none (tQ t.keys),.i .i64 t.dups,.i .i64 t.mode]
def xZ (t:Sy):GV:=.agg (H9 t)
def rP (l:List Sy):List GV:=l.map xZ
def lI (s:Sch):List GV:=[.sl .none (vX s.ar),.sl .none (vU s.rc),.sl .none (rP s.st)]
def lC (s:Sch):GV:=.agg (lI s)
theorem fN [MaxL] {α:Type} (f:α->GV) (l:List α):(l.map f).length=l.length:=by simp
theorem SP [MaxL] (l:List Ar):ClL (vX l):=gT (fun _ _=>rfl) l
theorem P1 [MaxL] (r:Rc):ClL (YM r):=cC (fun _=>rfl) (cC (fun _=>rfl) (cC (bV (d8 r.its)) (cC (fun _=>rfl) (cC (bV (uM r.keys)) (cC (fun _=>rfl) (cC (fun _=>rfl) (cC (fun _=>rfl) .nil)))))))
theorem R2 [MaxL] (l:List Rc):ClL (vU l):=gT (fun r=>eO (P1 r)) l
theorem PA [MaxL] (m:Mb):ClL (mbC m):=cC (fun _=>rfl) (cC (fun _=>rfl) (cC (fun _=>rfl) (cC (bV (uM m.sel)) .nil)))
theorem RS [MaxL] (l:List Mb):ClL (kV l):=gT (fun m=>eO (PA m)) l
theorem RY [MaxL] (l:List Ky):ClL (tQ l):=gT (fun _ _=>rfl) l
theorem OP [MaxL] (t:Sy):ClL (H9 t):=cC (fun _=>rfl) (cC (fun _=>rfl) (cC (bV (RS t.ms)) (cC (fun _=>rfl) (cC (bV (RY t.keys)) (cC (fun _=>rfl) (cC (fun _=>rfl) .nil))))))
theorem QO [MaxL] (l:List Sy):ClL (rP l):=gT (fun t=>eO (OP t)) l
theorem QT [MaxL] (s:Sch):ClL (lI s):=cC (bV (SP s.ar)) (cC (bV (R2 s.rc)) (cC (bV (QO s.st)) .nil))
theorem Z6 [MaxL] (s:Sch):Cl (lC s):=eO (QT s)
def kI (s:Sch):Prop:=(s.ar.length<bH/\s.rc.length<bH/\s.st.length<bH)/\(∀r∈s.rc,r.its.length<bH/\r.keys.length<bH/\r.check.length<bH)/\∀t∈s.st,t.ms.length<bH/\t.keys.length<bH/\∀m∈t.ms,m.sel.length<bH
def wE (l:List By):List (GV×GV):=l.map fun n=>(.s n,.b true)
theorem K2 [MaxL] {l:List By} {s:By} (h:l.contains s=false):nO .string (.s s) (wE l) 0=some none:=wW qL (fun e he=>by
 obtain⟨z,hz,rfl⟩:=List.mem_map.1 he;exact⟨z,rfl,fun e=>by subst e;simp[hz] at h⟩)
theorem RN {l:List By} {s:By}:∀(j:Nat),l.contains s=true->∃k,nO .string (.s s) (wE l) j=some (some (k,.b true)):=by
 induction l with
 |nil=>intro j h;cases h
 |cons x l ih=>
  intro j h;show∃k,(match AE .string (.s s) (.s x) with|some true=>some (some (j,GV.b true))|some false=>nO .string (.s s) (wE l) (j+1)|none=>none)=_;rw[qL];cases hx:(s==x) with
  |true=>exact⟨j,rfl⟩
  |false=>exact ih (j+1) (by rw[List.contains_cons,hx] at h;exact h)
variable [Globals]
class NL (i n:Nat):Prop where
 h:i<n
instance (n:Nat):NL 0 (n+1):=⟨Nat.succ_pos n⟩
instance (i n:Nat) [k:NL i n]:NL (i+1) (n+1):=⟨Nat.succ_lt_succ k.h⟩
class RG (e:Nat->Nat) (g:GV) (g':outParam GV):Prop where
 h:g.ren e=g'
class RL (e:Nat->Nat) (l:List GV) (l':outParam (List GV)):Prop where
 h:l.map (GV.ren e)=l'
class RO (e:Nat->Nat) (x:GObj) (x':outParam GObj):Prop where
 h:x.ren e=x'
class RH (e:Nat->Nat) (s:List GObj) (s':outParam (List GObj)):Prop where
 h:s.map (GObj.ren e)=s'
class RR (e:Nat->Nat) (r:GRes) (r':outParam GRes):Prop where
 h:r.ren e=r'
class KG (g:GV):Prop where
 h:Cl g
class KL (l:List GV):Prop where
 h:ClL l
instance {x:Bool}:KG (.b x):=⟨fun _=>rfl⟩
instance {k:IntKind} {n:Int}:KG (.i k n):=⟨fun _=>rfl⟩
instance {l:List UInt8}:KG (.s l):=⟨fun _=>rfl⟩
instance {v:Value}:KG (.o v):=⟨fun _=>rfl⟩
instance {g o:Nat}:KG (.glb g o):=⟨fun _=>rfl⟩
instance:KG .any:=⟨fun _=>rfl⟩
instance {l:List GV} [k:KL l]:KG (.agg l):=⟨eO k.h⟩
instance {l:List GV} [k:KL l]:KG (.tup l):=⟨fJ k.h⟩
instance {l:List GV} [k:KL l]:KG (.sl .none l):=⟨bV k.h⟩
instance {l:List GV} [k:KL l]:KG (.sl .full l):=⟨fun e=>by rw[GV.ren,cQ,k.h e];rfl⟩
instance {t:TypeId} {g:GV} [k:KG g]:KG (.ifc t g):=⟨fun e=>by rw[GV.ren,k.h e]⟩
instance {f:Fn} {a c:List GV} [k:KL a] [j:KL c]:KG (.fn f a c):=⟨fun e=>by rw[GV.ren,cQ,cQ,k.h e,j.h e]⟩
instance {l:List GV} {o:Nat} [k:KL l]:KG (.snap l o):=⟨fun e=>by rw[GV.ren,cQ,k.h e]⟩
instance:KL []:=⟨dM⟩
instance {x:GV} {l:List GV} [k:KG x] [j:KL l]:KL (x::l):=⟨cC k.h j.h⟩
instance {α:Type} {f:α->GV} {l:List α} [k:∀a,KG (f a)]:KL (l.map f):=⟨gT (fun a=>(k a).h) l⟩
instance (priority:=low) {e:Nat->Nat} {g:GV} [k:KG g]:RG e g g:=⟨k.h e⟩
instance (priority:=low) {e:Nat->Nat} {l:List GV} [k:KL l]:RL e l l:=⟨k.h e⟩
instance {e:Nat->Nat} {r o:Nat}:RG e (.ptr r o) (.ptr (e r) o):=⟨rfl⟩
instance {e:Nat->Nat} {r:Nat}:RG e (.mp r) (.mp (e r)):=⟨rfl⟩
instance {e:Nat->Nat} {r:Nat} {l:List GV} [k:KL l]:RG e (.sl (.own r) l) (.sl (.own (e r)) l):=⟨by rw[GV.ren,cQ,k.h e];rfl⟩
instance {e:Nat->Nat} {f:Fn} {a c a' c':List GV} [k:RL e a a'] [j:RL e c c']:RG e (.fn f a c) (.fn f a' c'):=⟨by rw[GV.ren,cQ,cQ,k.h,j.h]⟩
instance {e:Nat->Nat} {l l':List GV} [k:RL e l l']:RG e (.agg l) (.agg l'):=⟨by rw[GV.ren,cQ,k.h]⟩
instance {e:Nat->Nat} {l l':List GV} [k:RL e l l']:RG e (.tup l) (.tup l'):=⟨by rw[GV.ren,cQ,k.h]⟩
instance {e:Nat->Nat}:RL e [] []:=⟨rfl⟩
instance {e:Nat->Nat} {x x':GV} {l l':List GV} [k:RG e x x'] [j:RL e l l']:RL e (x::l) (x'::l'):=⟨by rw[dO,k.h,j.h]⟩
instance {e:Nat->Nat} {T:TypeId} {l l':List GV} [k:RL e l l']:RO e (.box T l) (.box T l'):=⟨by rw[GObj.ren,k.h]⟩
class KM (l:List (GV×GV)):Prop where
 h:∀e,l.map (fun p=>(p.1.ren e,p.2.ren e))=l
instance:KM []:=⟨fun _=>rfl⟩
instance {a b:GV} {l:List (GV×GV)} [i:KG a] [j:KG b] [k:KM l]:KM ((a,b)::l):=⟨fun e=>by rw[dO,i.h e,j.h e,k.h]⟩
instance {l l':List (GV×GV)} [j:KM l] [k:KM l']:KM (l++l'):=⟨fun e=>by rw[cO,j.h,k.h]⟩
instance {e:Nat->Nat} {l:List (GV×GV)} [k:KM l]:RO e (.mp l) (.mp l):=⟨by rw[GObj.ren,k.h]⟩
instance {e:Nat->Nat} {n s:Nat} {t:TypeId}:RO e (.own n s t) (.own n s t):=⟨rfl⟩
instance {e:Nat->Nat}:RO e .dead .dead:=⟨rfl⟩
instance {e:Nat->Nat}:RH e [] []:=⟨rfl⟩
instance {e:Nat->Nat} {x x':GObj} {s s':List GObj} [k:RO e x x'] [j:RH e s s']:RH e (x::s) (x'::s'):=⟨by rw[dO,k.h,j.h]⟩
instance {e:Nat->Nat} {s t s' t':List GObj} [k:RH e s s'] [j:RH e t t']:RH e (s++t) (s'++t'):=⟨by rw[cO,k.h,j.h]⟩
instance {e:Nat->Nat} {g g':GV} [k:RG e g g']:RR e (.val g) (.val g'):=⟨by rw[GRes.ren,k.h]⟩
instance {e:Nat->Nat} {g g':GV} [k:RG e g g']:RR e (.panic g) (.panic g'):=⟨by rw[GRes.ren,k.h]⟩
theorem Lies.mk' {ks:List Nat} {s t objs:List GObj} [hr:RH (iT ks objs.length) s t] (ho:ks.map (fun q=>objs[q]?)=t.map some) (hl:ks.length=s.length) (hn:ks.Nodup) (hh:s.all GObj.notHeld=true):Lies ks s objs:=
 ⟨hn,hl,fun i k x h1 h2=>by
  have h3:=aQ (fun l:List (Option GObj)=>l[i]?) ho;have h4:=aQ (fun l:List GObj=>l[i]?) hr.h;simp only[aM,h1,h2,eL] at h3 h4;rw[<-h4] at h3;simpa using h3,fun x hx e=>by subst e;have:=List.all_eq_true.1 hh _ hx;cases this⟩
def qT:List Nat->List GObj->List GObj->List GObj
 |q::ks,x::xs,l=>qT ks xs (l.set q x)
 |_,_,l=>l
theorem yR:∀(ks:List Nat) (xs l:List GObj),(qT ks xs l).length=l.length
 |[],_,l=>rfl
 |q::ks,[],l=>rfl
 |q::ks,x::xs,l=>by rw[qT,yR,List.length_set]
theorem ET:∀(ks:List Nat) (xs l:List GObj) (r:Nat),ks.Nodup->ks.length=xs.length->r<l.length->(qT ks xs l)[r]?=match ks.idxOf? r with|some i=>xs[i]?|none=>l[r]?
 |[],_,l,r,_,_,_=>rfl
 |q::ks,[],l,r,_,h,_=>by cases h
 |q::ks,x::xs,l,r,hn,h,hr=>by
  rw[qT,ET ks xs _ r (List.nodup_cons.1 hn).2 (by simpa using h) (by rw[List.length_set];exact hr)];by_cases hq:q=r
  ·subst hq;have h1:ks.idxOf? q=none:=List.idxOf?_eq_none_iff.2 (List.nodup_cons.1 hn).1;rw[h1];simp[List.idxOf?,List.findIdx?_cons,hr]
  ·have e:(q::ks).idxOf? r=(ks.idxOf? r).map (· +1):=by simp[List.idxOf?,List.findIdx?_cons,hq]
   rw[e];cases ks.idxOf? r with
   |none=>simp[dF hq]
   |some i=>simp
theorem rW {ks:List Nat} {s' objs:List GObj} (hn:ks.Nodup) (hl:ks.length=s'.length) (hk:∀k∈ks,k<objs.length):iI ks s' objs=qT ks (s'.map (GObj.ren (iT ks objs.length))) objs:=by
 apply dS;intro r;rw[iR hk (Nat.le_of_eq hl)];unfold gX;by_cases hr:r<objs.length
 ·rw[aG hr,ET _ _ _ _ hn (by simpa using hl) hr];cases ks.idxOf? r with
  |none=>rfl
  |some i=>simp
 ·rw[aE hr,b6 (l:=qT _ _ _) (by rw[yR];omega)];have:s'[ks.length+(r - objs.length)]?=none:=b6 (by omega);simp[this]
theorem cG (ks:List Nat) {P:Program} {M:FuncId->Bool} {k:FuncId} {args a a':List GV} {s t s' t':List GObj} {r r':GRes} {σ:GS} {K:GRes->GS->Prop} (h:SC P k a s r s')
  [i1:RL (iT ks σ.objs.length) a a'] [i2:RH (iT ks σ.objs.length) s t] [i3:RH (iT ks σ.objs.length) s' t'] [i4:RR (iT ks σ.objs.length) r r']
  (hk:K r' ⟨qT ks t' σ.objs,σ.lo,σ.ds⟩) (hw:Wks args a':=by first|exact wR _|exact wC (bE _ _) (wR _)|exact wC (bE _ _) (wC (bE _ _) (wR _))|exact wC (cY _) (wC (bE _ _) (wR _))) (ho:ks.map (fun q=>σ.objs[q]?)=t.map some:=by rfl) (hl:ks.length=s.length:=by rfl) (hl':ks.length=s'.length:=by rfl) (hn:ks.Nodup:=by decide)
  (hh:s.all GObj.notHeld=true:=by rfl) (hlo:σ.lo=0:=by rfl) (hM:M k=false:=by rfl):iU P M (.fn k) args σ K:=by
 have hL:Lies ks s σ.objs:=Lies.mk' ho hl hn hh;have hf:=h.fact (σ:=σ) (args':=args) ks hL hlo (by rw[i1.h];exact hw);rw[rW hn hl' (fun k hk=>hL.lt k hk),i3.h,i4.h] at hf;exact⟨r',_,hf,(fun k' e hk'=>by cases e;rw[hM] at hk';cases hk'),hk⟩
theorem cP {P:Program} {M:FuncId->Bool} {k:FuncId} {a args:List GV} {r:GV} {σ:GS} {K:GRes->GS->Prop} (h:SC P k a [] (.val r) []) [i1:KL a] [i2:KG r] (hk:K (.val r) σ) (hw:Wks args a:=by first|exact wR _|exact wC (bE _ _) (wR _)|exact wC (bE _ _) (wC (bE _ _) (wR _))|exact wC (cY _) (wC (bE _ _) (wR _))) (hlo:σ.lo=0:=by rfl):
  iU P M (.fn k) args σ K:=bG h hw hlo i1.h i2.h hk
theorem cS (ks:List Nat) {P:Program} {M:FuncId->Bool} {k:FuncId} {args a a':List GV} {s t:List GObj} {r r':GRes} {σ:GS} {K:GRes->GS->Prop} (h:SC P k a s r s)
  [i1:RL (iT ks σ.objs.length) a a'] [i2:RH (iT ks σ.objs.length) s t] [i4:RR (iT ks σ.objs.length) r r']
  (hk:K r' σ) (hw:Wks args a':=by first|exact wR _|exact wC (bE _ _) (wR _)|exact wC (bE _ _) (wC (bE _ _) (wR _))|exact wC (cY _) (wC (bE _ _) (wR _))) (ho:ks.map (fun q=>σ.objs[q]?)=t.map some:=by rfl) (hl:ks.length=s.length:=by rfl) (hn:ks.Nodup:=by decide)
  (hh:s.all GObj.notHeld=true:=by rfl) (hlo:σ.lo=0:=by rfl):iU P M (.fn k) args σ K:=by
 have hL:Lies ks s σ.objs:=Lies.mk' ho hl hn hh;have hf:=h.fact (σ:=σ) (args':=args) ks hL hlo (by rw[i1.h];exact hw);rw[rW hn hl (fun k hk=>hL.lt k hk),i2.h,i4.h] at hf;have same:∀(ks:List Nat) (t l:List GObj),ks.map (fun q=>l[q]?)=t.map some->qT ks t l=l:=by
  intro ks;induction ks with
  |nil=>intro t l _;cases t<;>rfl
  |cons q ks ih=>
   intro t l he;cases t with
   |nil=>rfl
   |cons x t=>
    simp only[dO,List.cons.injEq] at he;have:l.set q x=l:=by
     apply dS;intro j;by_cases hj:q=j
     ·subst hj;rw[he.1,List.getElem?_set_self (List.getElem?_eq_some_iff.1 he.1).1]
     ·rw[dF hj]
    rw[qT,this];exact ih t l he.2
 rw[same ks t σ.objs ho] at hf;exact⟨r',σ,hf,fun _ _ _=>rfl,hk⟩
theorem Wks.at_:∀{l l':List GV},Wks l l'->l.length=l'.length/\∀(j:Nat) g g',l[j]?=some g->l'[j]?=some g'->Wk g g'
 |[],[],_=>⟨rfl,fun j g g' h=>by simp at h⟩
 |g::l,g'::l',h=>by
  obtain⟨h1,h2⟩:=Wks.at_ h.2;refine⟨aQ (· +1) h1,fun j x x' hx hx'=>?_⟩;cases j with
  |zero=>cases hx;cases hx';exact h.1
  |succ j=>exact h2 j x x' hx hx'
 |[],_::_,h=>h.elim
 |_::_,[],h=>h.elim
theorem Wks.agg {l l':List GV} (h:Wks l l'):Wk (.agg l) (.agg l'):=Wk.agg h.at_.1 h.at_.2
class FG (n:Nat) (g:GV):Prop where
 h:∀e:Nat->Nat,(∀i,i<n->e i=i)->g.ren e=g
class FL (n:Nat) (l:List GV):Prop where
 h:∀e:Nat->Nat,(∀i,i<n->e i=i)->l.map (GV.ren e)=l
class FO (n:Nat) (x:GObj):Prop where
 h:∀e:Nat->Nat,(∀i,i<n->e i=i)->x.ren e=x
class FH (n:Nat) (s:List GObj):Prop where
 h:∀e:Nat->Nat,(∀i,i<n->e i=i)->s.map (GObj.ren e)=s
class FR (n:Nat) (r:GRes):Prop where
 h:∀e:Nat->Nat,(∀i,i<n->e i=i)->r.ren e=r
class FP (n:Nat) (l:List (Nat×GV)):Prop where
 h:∀e:Nat->Nat,(∀i,i<n->e i=i)->l.map (fun p=>p.2.ren e)=l.map (·.2)
class FD (n:Nat) (l:List GDef):Prop where
 h:∀e:Nat->Nat,(∀i,i<n->e i=i)->l.map (GDef.ren e)=l
instance (priority:=low) {n:Nat} {g:GV} [k:KG g]:FG n g:=⟨fun e _=>k.h e⟩
instance (priority:=low) {n:Nat} {l:List GV} [k:KL l]:FL n l:=⟨fun e _=>k.h e⟩
instance {n r o:Nat} [k:NL r n]:FG n (.ptr r o):=⟨fun e he=>by rw[GV.ren,he r k.h]⟩
instance {n r:Nat} [k:NL r n]:FG n (.mp r):=⟨fun e he=>by rw[GV.ren,he r k.h]⟩
instance {n r:Nat} {l:List GV} [k:NL r n] [j:KL l]:FG n (.sl (.own r) l):=⟨fun e he=>by rw[GV.ren,cQ,j.h e,Tok.ren,he r k.h]⟩
instance {n:Nat} {f:Fn} {a c:List GV} [k:FL n a] [j:FL n c]:FG n (.fn f a c):=⟨fun e he=>by rw[GV.ren,cQ,cQ,k.h e he,j.h e he]⟩
instance {n:Nat} {l:List GV} [k:FL n l]:FG n (.agg l):=⟨fun e he=>by rw[GV.ren,cQ,k.h e he]⟩
instance {n:Nat} {l:List GV} [k:FL n l]:FG n (.tup l):=⟨fun e he=>by rw[GV.ren,cQ,k.h e he]⟩
instance {n:Nat}:FL n []:=⟨fun _ _=>rfl⟩
instance {n:Nat} {x:GV} {l:List GV} [k:FG n x] [j:FL n l]:FL n (x::l):=⟨fun e he=>by rw[dO,k.h e he,j.h e he]⟩
instance {n:Nat} {T:TypeId} {l:List GV} [k:FL n l]:FO n (.box T l):=⟨fun e he=>by rw[GObj.ren,k.h e he]⟩
instance {n:Nat} {l:List (GV×GV)} [k:KM l]:FO n (.mp l):=⟨fun e _=>by rw[GObj.ren,k.h]⟩
instance {m n s:Nat} {t:TypeId}:FO m (.own n s t):=⟨fun _ _=>rfl⟩
instance {n:Nat}:FO n .dead:=⟨fun _ _=>rfl⟩
instance {n:Nat}:FH n []:=⟨fun _ _=>rfl⟩
instance {n:Nat} {x:GObj} {s:List GObj} [k:FO n x] [j:FH n s]:FH n (x::s):=⟨fun e he=>by rw[dO,k.h e he,j.h e he]⟩
instance {n:Nat} {s t:List GObj} [k:FH n s] [j:FH n t]:FH n (s++t):=⟨fun e he=>by rw[cO,k.h e he,j.h e he]⟩
instance {n:Nat} {g:GV} [k:FG n g]:FR n (.val g):=⟨fun e he=>by rw[GRes.ren,k.h e he]⟩
instance {n:Nat} {g:GV} [k:FG n g]:FR n (.panic g):=⟨fun e he=>by rw[GRes.ren,k.h e he]⟩
theorem FP.nil {n:Nat}:FP n []:=⟨fun _ _=>rfl⟩
theorem FP.cons {n t:Nat} {g:GV} {l:List (Nat×GV)} [k:FG n g] (j:FP n l):FP n ((t,g)::l):=⟨fun e he=>by rw[dO,dO,k.h e he,j.h e he]⟩
instance {n:Nat}:FD n []:=⟨fun _ _=>rfl⟩
theorem d6 (n:Nat) {s s' objs:List GObj} {r r':GRes} {lo:Nat} {ds:List GDef} [i1:FH n s'] [i2:FR n r']
  (hw:WkRes r r':=by exact WkRes.refl _) (ho:objs.take n=s':=by rfl) (hn:s'.length=n:=by rfl) (hl:s.length<=n:=by first|exact rL _|exact bL rfl) (hh:s'.all GObj.notHeld=true:=by rfl):
  Owes s r' s' r ⟨objs,lo,ds⟩:=by
 subst hn;refine k7 (rest:=objs.drop s'.length) ?_ hl (fun e he=>i1.h e he) hh (fun e he=>i2.h e he) hw;have h1:=iM s'.length objs;rw[ho] at h1;exact h1.symm
inductive OwesD (n:Nat) (s:List GObj) (r:GRes) (s':List GObj) (r0:GRes) (σ:GS):Prop where
 |val (h:Owes s r s' r0 σ)
 |pan (hn:n<=σ.objs.length) (hm:(σ.objs.take n).all GObj.mort=true) (h:Owes s r s' r0 (D7 n σ))
theorem SC.of_gwpD (n:Nat) {P:Program} (M:FuncId->Bool) (hm:P.follows .mixedOrders=true) {k:FuncId} {fn:Func} {c:Code} (hfn:P.funcs[k]?=some fn) (hb:fn.body=some c) {args:List GV} {s s':List GObj} {r:GRes}
  (hlen:args.length<=fn.ntmps) (hs:s.length<=s'.length) (hh:s'.all GObj.notHeld=true) (h:PI P M none fn.ntmps c (nS args) ⟨s,0,[]⟩ (XW P fn (OwesD n s r s'))):SC P k args s r s':=
 SC.of_gwpR M hm hfn hb hlen hs hh _ (fun r0 σ0 ho=>by
  cases ho with
  |val h=>exact .inl h
  |pan hn hm h=>exact .inr ⟨n,hn,hm,h⟩) h
theorem a0B (n:Nat) {s s' objs:List GObj} {r r':GRes} {lo:Nat} {ds:List GDef} [i2:FR n r'] (hw:WkRes r r':=by exact WkRes.refl _) (hs:s'=List.replicate n .dead:=by rfl) (hl:s.length<=n:=by first|exact rL _|exact bL rfl)
  (hn:(objs.take n).length=n:=by rfl) (hm:(objs.take n).all GObj.mort=true:=by rfl):OwesD n s r' s' r ⟨objs,lo,ds⟩:=by
 subst hs;have hn':n<=objs.length:=by rw[bN] at hn;omega
 refine .pan hn' hm (k7 (rest:=objs.drop n) rfl (by rw[List.length_replicate];exact hl) (fun e he=>?_) ?_ (fun e he=>i2.h e fun i hi=>he i (by rw[List.length_replicate];exact hi)) hw)
 ·rw[List.map_replicate];rfl
 ·rw[aS];intro x hx;rw[List.eq_of_mem_replicate hx];rfl
theorem GLoop.rng {β:Type} {f:pY} {φ:Fr} {σ:GS} {K:GX->Fr->GS->Prop} (m n:Nat) (I:Nat->β->Prop) (L:Nat->β->List (Nat×GV)) (O:Nat->β->List GObj) (D:List GDef) (b0:β) [i1:∀i b,FH m (O i b)] [i3:FD m D] (h0:I 0 b0)
  (step:∀i b φ0,i<=n->I i b->f (C7 φ0 (L i b)) ⟨O i b,0,D⟩ fun x φ' σ'=>match x with
   |.normal=>∃m',m'<n - i/\∃a':Nat×β,(a'.1<=n/\I a'.1 a'.2)/\n - a'.1=m'/\mC φ' (L a'.1 a'.2)/\∃extra,σ'.objs=O a'.1 a'.2++extra/\σ'.ds=D
   |.exit i=>K (.exit i) φ' σ'
   |.ret=>K .ret φ' σ'
   |.panic g=>K (.panic g) φ' σ')
  (hφ:mC φ (L 0 b0):=by repeat' first|exact trivial|exact rfl|refine And.intro ?_ ?_) (hσ:σ=⟨O 0 b0,0,D⟩:=by rfl) (i2:∀i b,FP m (L i b):=by intros;repeat first|exact FP.nil|refine FP.cons ?_) (hm:∀i b,(O i b).length=m:=by intros;rfl) (hh:∀i b,(O i b).all GObj.notHeld=true:=by intros;rfl):GLoop f φ σ K:=
 fI (fun q:Nat×β=>q.1<=n/\I q.1 q.2) (fun q=>L q.1 q.2) (fun q=>⟨O q.1 q.2,0,D⟩) (fun q=>n - q.1) (0,b0) ⟨zL _,h0⟩ hφ hσ (fun q _=>by show(O 0 b0).length<=(O q.1 q.2).length;rw[hm,hm];exact rL _) (fun q _=>hh q.1 q.2)
  (fun q hq e he=>by
   have he':∀i,i<m->e i=i:=fun i hi=>he i (by show i<(O q.1 q.2).length;rw[hm];exact hi);exact⟨(i1 q.1 q.2).h e he',i3.h e he',(i2 q.1 q.2).h e he'⟩)
  (fun q φ0 hq=>step q.1 q.2 φ0 hq.1 hq.2)
def cK:=@GLoop.rng
theorem nx {β:Type} {n i:Nat} {J A:Nat×β->Prop} {O:Nat×β->List GObj} {objs:List GObj} {ds D:List GDef} (b':β) (hlt:i<n) (hJ:J (i+1,b')) (ho:objs.take (O (i+1,b')).length=O (i+1,b'):=by rfl)
  (ha:A (i+1,b'):=by repeat' first|exact trivial|exact rfl|exact b8 (by omega)|refine And.intro ?_ ?_) (hd:ds=D:=by rfl):
  ∃m',m'<n - i/\∃a',J a'/\n - a'.1=m'/\A a'/\∃extra,objs=O a'++extra/\ds=D:=
 ⟨n - (i+1),by omega,(i+1,b'),hJ,rfl,ha,objs.drop (O (i+1,b')).length,by
  have h1:=iM (O (i+1,b')).length objs;rw[ho] at h1;exact h1.symm,hd⟩
theorem Z1 {xs zs:List GV} {size k:Nat} {X:Tok} {K:Tok->List GV->Prop} (hall:xs.all (fun x=>x.cells.length==size)=true) (hk:k<=xs.length) (h:K .none zs) (hz:xs.take k=zs) (hX:X=.none:=by split<;>first|rfl|(split<;>rfl)):
  GNeed (xs.all (fun x=>x.cells.length==size)=true) (GNeed (0<=((k:Nat):Int)) (GNeed (0<=((k:Nat):Int).toNat/\((k:Nat):Int).toNat<=xs.length) (∃ys,ys=(xs.drop 0).take (((k:Nat):Int).toNat - 0)/\∃k',k'=X/\K k' ys))):=
 ⟨hall,cN _,⟨zL _,by rw[aC];exact hk⟩,zs,by rw[aC,List.drop_zero,Nat.sub_zero,hz],_,rfl,by rw[hX];exact h⟩
theorem gY {c:Bool} {A B:Prop} (h:c=true) (a:A):GIf c A B:=by subst h;exact a
theorem gN {c:Bool} {A B:Prop} (h:c=false) (b:B):GIf c A B:=by subst h;exact b
theorem st {l:List GV} {a b off n:Nat} {c:Bool} {K:List GV->Prop} (k:K l) (h1:a<=b:=by exact zL _) (h2:c=true:=by rfl) (h3:off+l.length<=n:=by exact bL rfl):∃vc,GNeed (vc=l/\a<=b/\c=true/\off+vc.length<=n) (K vc):=⟨l,⟨rfl,h1,h2,h3⟩,k⟩
theorem ix {α:Type} {xs:List α} {p:α->Prop} {i:Nat} {y:α} (hy:xs[i]?=some y) (hp:p y):GNeed (0<=((i:Nat):Int)) (∃y,xs[((i:Nat):Int).toNat]?=some y/\p y):=⟨cN _,y,by rw[aC];exact hy,hp⟩
end Go.Proofs.YtcfgfkkhpdlhpaaGreatDoor
namespace Go.Proofs.YtcfgfkkhpdlhpaaGreatDoor
open Go.RowKit
instance [MaxL] {l:List By}:KL (aZ l):=⟨uM l⟩
instance [MaxL] {l:List Itm}:KL (fU l):=⟨d8 l⟩
instance [MaxL] {l:List Ar}:KL (vX l):=⟨SP l⟩
instance [MaxL] {l:List Rc}:KL (vU l):=⟨R2 l⟩
instance [MaxL] {l:List Mb}:KL (kV l):=⟨RS l⟩
instance [MaxL] {l:List Ky}:KL (tQ l):=⟨RY l⟩
instance [MaxL] {l:List Sy}:KL (rP l):=⟨QO l⟩
instance [MaxL] {a:Ar}:KL (arC a):=⟨fun _=>rfl⟩
instance [MaxL] {r:Rc}:KL (YM r):=⟨P1 r⟩
instance [MaxL] {m:Mb}:KL (mbC m):=⟨PA m⟩
instance [MaxL] {y:Ky}:KL (XC y):=⟨fun _=>rfl⟩
instance [MaxL] {t:Sy}:KL (H9 t):=⟨OP t⟩
instance [MaxL] {s:Sch}:KL (lI s):=⟨QT s⟩
instance [MaxL] {s:Sch}:KG (lC s):=⟨Z6 s⟩
instance [MaxL] {r:Rc}:KG (OC r):=⟨eO (P1 r)⟩
instance [MaxL] {m:Mb}:KG (YO m):=⟨eO (PA m)⟩
instance [MaxL] {t:Sy}:KG (xZ t):=⟨eO (OP t)⟩
instance [MaxL] {y:Ky}:KG (kyG y):=⟨fun _=>rfl⟩
instance [MaxL] {i:Itm}:KL i.cs:=⟨fun _=>rfl⟩
instance [MaxL] {i:Itm}:KG i.gv:=⟨i.cl⟩
instance [MaxL] {l:List By}:KM (wE l):=⟨fun e=>by unfold wE;rw[List.map_map];rfl⟩
theorem cE [MaxL] {α:Type} {f:α->GV} {l:List α} {i:Nat} {x:α} (h:l[i]?=some x):(l.map f)[i]?=some (f x):=by rw[aM,h];rfl
theorem zM {α:Type} {p:α->Bool} {l:List α} {i:Nat} {y:α} (hy:l[i]?=some y) (hp:p y=false) (h:∀z∈l.take i,p z=false):∀z∈l.take (i+1),p z=false:=fun z hz=>by
 rw[bR,hy] at hz;rcases List.mem_append.1 hz with hz|hz
 ·exact h z hz
 ·simp at hz;subst hz;exact hp
noncomputable def I3 (n:Nat):(Nat->GV)->List GV:=Nat.rec (motive:=fun _=>(Nat->GV)->List GV) (fun _=>[]) (fun _ ih f=>f 0::ih fun i=>f (i+1)) n
instance [MaxL] {n:Nat} {f:Nat->GV} [k:∀i,KG (f i)]:KL (I3 n f):=⟨by
 induction n generalizing f with
 |zero=>exact dM
 |succ n ih=>exact cC (k 0).h (ih (k:=fun i=>k (i+1)))⟩
instance [MaxL] {l:List GV} {i:Nat} [k:KL l]:KG (l.getD i .any):=⟨fun e=>by
 have h:=aQ (fun z:List GV=>z[i]?) (k.h e);simp only[aM] at h;rw[aO];cases hx:l[i]? with
 |none=>rfl
 |some x=>rw[hx] at h;simpa using h⟩
theorem CA [MaxL] {α:Type} (F:α->Nat->GV) [∀a i,KG (F a i)] (l:List α) (hl:l.length<bH) (p:α->Bool) (c:FuncId) (T:TypeId) (cs:List GV) [KL cs] (k:FuncId) (n:Nat)
  (hc:∀a∈l,SC Tryz.prog c [.agg (I3 n (F a)),.ptr 0 0] [.box T cs] (.val (.b (p a))) [.box T cs])
  (hk:k=99/\n=2/\c=176∨k=162/\n=8/\c=163∨k=157/\n=7/\c=158∨k=153/\n=4/\c=154∨k=179/\n=5/\c=180∨k=226/\n=2/\c=187∨k=179/\n=5/\c=211):
  SC Tryz.prog k [.sl .none (l.map fun a=>.agg (I3 n (F a))),.fn (.func c) [] [.ptr 0 0]] [.box T cs] (.val (.i .i64 (m6 p l))) [.box T cs]:=by
 unfold bH at hl;have hlen:(l.map fun a=>GV.agg (I3 n (F a))).length=l.length:=by simp
 rcases hk with⟨rfl,rfl,rfl⟩|⟨rfl,rfl,rfl⟩|⟨rfl,rfl,rfl⟩|⟨rfl,rfl,rfl⟩|⟨rfl,rfl,rfl⟩|⟨rfl,rfl,rfl⟩|⟨rfl,rfl,rfl⟩;refine cZ Tryz.func99 rfl ?_;conv=>whnf
 rotate_left;refine cZ Tryz.func162 rfl ?_;conv=>whnf
 rotate_left;refine cZ Tryz.func157 rfl ?_;conv=>whnf
 rotate_left;refine cZ Tryz.func153 rfl ?_;conv=>whnf
 rotate_left;refine cZ Tryz.func179 rfl ?_;conv=>whnf
 rotate_left;refine cZ Tryz.func226 rfl ?_;conv=>whnf
 rotate_left;refine cZ Tryz.func179 rfl ?_;conv=>whnf
 rotate_left;all_goals
  refine cK 1 l.length (fun i _=>∀z∈l.take i,p z=false) (fun i _=>[(0,.sl .none (l.map fun a=>.agg (I3 _ (F a)))),(1,.fn (.func _) [] [.ptr 0 0]),(7,.i .i64 (l.map fun a=>GV.agg (I3 _ (F a))).length),(8,.i .i64 (i:Nat))]) (fun _ (_:Unit)=>[.box T cs]) [] () (by simp) (fun i _ φ0 hi hne=>?_);conv=>whnf
  refine aF (fun h=>?_) (fun h=>?_)<;>conv=>whnf
  rotate_left
  ·have hie:i=l.length:=by have:=aB h;rw[hlen] at this;omega
   rw[hie,b7] at hne;rw[vN hne];exact d6 1
  have hlt:i<l.length:=by have:=aA h;rw[hlen] at this;omega
  obtain⟨y,hy⟩:∃y,l[i]?=some y:=⟨l[i],gL hlt⟩;refine ix (cE hy) ⟨rfl,?_⟩;conv=>whnf
  refine cS [0] (hc y (aK hy)) ?_;conv=>whnf
  refine aF (fun hp=>?_) (fun hp=>?_)<;>conv=>whnf
  ·rw[sU hy hp hne];exact d6 1
  ·skip;exact nx () hlt ⟨hlt,zM hy hp hne⟩
def OV (C:List GV) (i:Nat):GV:=C.getD i .any
instance [MaxL] {l:List GV} {i:Nat} [k:KL l]:KG (OV l i):=inferInstanceAs (KG (l.getD i .any))
theorem ZE [MaxL] (a:Ar) (n:By):SC Tryz.prog 176 [arG a,.ptr 0 0] [.box 9 [.s n]] (.val (.b (a.name==n))) [.box 9 [.s n]]:=by
 refine cZ Tryz.func176 rfl ?_;conv=>whnf
 exact d6 1
theorem a1L [MaxL] (r:Rc) (n:By):SC Tryz.prog 163 [OC r,.ptr 0 0] [.box 9 [.s n]] (.val (.b (r.name==n))) [.box 9 [.s n]]:=by
 refine cZ Tryz.func163 rfl ?_;conv=>whnf
 exact d6 1
theorem a1K [MaxL] (t:Sy) (n:By):SC Tryz.prog 158 [xZ t,.ptr 0 0] [.box 9 [.s n]] (.val (.b (t.name==n))) [.box 9 [.s n]]:=by
 refine cZ Tryz.func158 rfl ?_;conv=>whnf
 exact d6 1
theorem a1N [MaxL] (m:Mb) (n:By):SC Tryz.prog 154 [YO m,.ptr 0 0] [.box 9 [.s n]] (.val (.b (m.of==n))) [.box 9 [.s n]]:=by
 refine cZ Tryz.func154 rfl ?_;conv=>whnf
 exact d6 1
theorem Z8 [MaxL] (x:Itm) (n:By):SC Tryz.prog 180 [x.gv,.ptr 0 0] [.box 9 [.s n]] (.val (.b (x.name==n))) [.box 9 [.s n]]:=by
 refine cZ Tryz.func180 rfl ?_;conv=>whnf
 exact d6 1
theorem a1I [MaxL] (y z:Ky):SC Tryz.prog 187 [kyG y,.ptr 0 0] [.box 78 (XC z)] (.val (.b (y.item==z.item))) [.box 78 (XC z)]:=by
 refine cZ Tryz.func187 rfl ?_;conv=>whnf
 exact d6 1
theorem a1Q [MaxL] (s:Sch) (hl:s.ar.length<bH) (m:List By) (n:By):SC Tryz.prog 116 [.ptr 0 0,.s n] [.box 87 [.sl .none (vX s.ar),.sl .none (vU s.rc),.sl .none (rP s.st),.mp 1],.mp (wE m)] (.val (.b ((dH s).contains n))) [.box 87 [.sl .none (vX s.ar),.sl .none (vU s.rc),.sl .none (rP s.st),.mp 1],.mp (wE m)]:=by
 have hi:=CA (fun a=>OV (arC a)) s.ar hl (fun a=>a.name==n) _ 9 [.s n] _ 2 (fun a _=>ZE a n) (.inl ⟨rfl,rfl,rfl⟩);have hc:SC Tryz.prog 175 [.sl .none (vX s.ar),.fn (.func 176) [] [.ptr 0 0]] [.box 9 [.s n]] (.val (.b (s.ar.any fun a=>a.name==n))) [.box 9 [.s n]]:=by
  refine cZ Tryz.func175 rfl ?_;conv=>whnf
  refine cS [0] hi ?_;conv=>whnf
  rw[<-lP];exact d6 1
 rw[show(dH s).contains n=s.ar.any fun a=>a.name==n from dU _ _ _];refine cZ Tryz.func116 rfl ?_;conv=>whnf
 refine cS [2] hc ?_;conv=>whnf
 exact d6 2
theorem oH [MaxL] (s:Sch) (hl:s.rc.length<bH) (n:By):SC Tryz.prog 90 [lC s,.s n] [] (.val (.i .i64 (m6 (fun r=>r.name==n) s.rc))) []:=by
 have hi:=CA (fun r=>OV (YM r)) s.rc hl (fun r=>r.name==n) _ 9 [.s n] _ 8 (fun r _=>a1L r n) (.inr (.inl ⟨rfl,rfl,rfl⟩));refine cZ Tryz.func90 rfl ?_;conv=>whnf
 refine cS [1] hi ?_;conv=>whnf
 exact d6 0
theorem a0e [MaxL] (s:Sch) (hl:s.st.length<bH) (n:By):SC Tryz.prog 87 [lC s,.s n] [] (.val (.i .i64 (m6 (fun t=>t.name==n) s.st))) []:=by
 have hi:=CA (fun t=>OV (H9 t)) s.st hl (fun t=>t.name==n) _ 9 [.s n] _ 7 (fun t _=>a1K t n) (.inr (.inr (.inl ⟨rfl,rfl,rfl⟩)));refine cZ Tryz.func87 rfl ?_;conv=>whnf
 refine cS [1] hi ?_;conv=>whnf
 exact d6 0
theorem EW [MaxL] (t:Sy) (hl:t.ms.length<bH) (n:By):SC Tryz.prog 82 [xZ t,.s n] [] (.val (.i .i64 (m6 (fun m=>m.of==n) t.ms))) []:=by
 have hi:=CA (fun m=>OV (mbC m)) t.ms hl (fun m=>m.of==n) _ 9 [.s n] _ 4 (fun m _=>a1N m n) (.inr (.inr (.inr (.inl ⟨rfl,rfl,rfl⟩))));refine cZ Tryz.func82 rfl ?_;conv=>whnf
 refine cS [1] hi ?_;conv=>whnf
 exact d6 0
def yB (l:List Itm) (n:By):Itm:=(l.find? (·.name==n)).getD ⟨[],0,0,0,0⟩
theorem j5 {α:Type} (p:α->Bool) (l:List α):(m6 p l<0/\l.find? p=none/\l.any p=false)∨∃(i:Nat) (y:α),m6 p l=i/\l[i]?=some y/\l.find? p=some y/\l.any p=true:=by
 rcases Int.lt_or_le (m6 p l) 0 with h|h
 ·exact .inl ⟨h,List.find?_eq_none.2 fun z hz=>by simp[a36.1 h z hz],by rw[<-lP];exact cW (by omega)⟩
 ·obtain⟨i,y,e,hy,hp, -,hf⟩:=H2 h;exact .inr ⟨i,y,e,hy,hf,by rw[<-lP];exact bS h⟩
theorem EV [MaxL] (r:Rc) (hl:r.its.length<bH) (n:By):SC Tryz.prog 118 [OC r,.s n] [] (.val (.tup [(yB r.its n).gv,.b (r.its.any (·.name==n))])) []:=by
 have hi:=CA (fun x=>OV (Itm.cs x)) r.its hl (fun x=>x.name==n) _ 9 [.s n] _ 5 (fun x _=>Z8 x n) (.inr (.inr (.inr (.inr (.inl ⟨rfl,rfl,rfl⟩)))));have key:=j5 (fun x:Itm=>x.name==n) r.its;generalize m6 (fun x:Itm=>x.name==n) r.its=j at*;refine cZ Tryz.func118 rfl ?_;conv=>whnf
 refine cS [1] hi ?_;conv=>whnf
 rcases key with⟨h1,h2,h3⟩|⟨i,y,rfl,h2,h3,h4⟩
 ·rw[h3,show yB r.its n=⟨[],0,0,0,0⟩ by unfold yB;rw[h2];rfl];refine gY (bS h1) ?_;conv=>whnf
  refine st ?_;conv=>whnf
  exact d6 0
 ·rw[h4,show yB r.its n=y by unfold yB;rw[h3];rfl];conv=>whnf
  refine ix (cE h2) ⟨rfl,?_⟩;conv=>whnf
  refine st ?_;conv=>whnf
  exact d6 0
