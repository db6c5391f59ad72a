/- Part of HostValues. -/
import Derived.Test.YtmnjcddcihdlfaaGreatDoorV23
set_option linter.all false
set_option maxRecDepth 100000
namespace Go.Proofs.YtmnjcddcihdlfaaGreatDoor
section
open Go.RowKit
variable [Globals]
class NL (i n:Nat):Prop where
 h:i<n
instance (n:Nat):NL 0 (n+1):=⟨Nat.succ_pos n⟩
instance (i n:Nat) [k:NL i n]:NL (i+1) (n+1):=⟨Nat.succ_lt_succ k.h⟩
class RG (e:Nat->Nat) (g:GV) (g':outParam GV):Prop where
 h:g.ren e=g'
class RL (e:Nat->Nat) (l:List GV) (l':outParam (List GV)):Prop where
 h:l.map (GV.ren e)=l'
class RO (e:Nat->Nat) (x:GObj) (x':outParam GObj):Prop where
 h:x.ren e=x'
class RH (e:Nat->Nat) (s:List GObj) (s':outParam (List GObj)):Prop where
 h:s.map (GObj.ren e)=s'
class RR (e:Nat->Nat) (r:GRes) (r':outParam GRes):Prop where
 h:r.ren e=r'
class KG (g:GV):Prop where
 h:Cl g
class KL (l:List GV):Prop where
 h:ClL l
instance {x:Bool}:KG (.b x):=⟨fun _=>rfl⟩
instance {k:IntKind} {n:Int}:KG (.i k n):=⟨fun _=>rfl⟩
instance {l:List UInt8}:KG (.s l):=⟨fun _=>rfl⟩
instance {v:Value}:KG (.o v):=⟨fun _=>rfl⟩
instance {g o:Nat}:KG (.glb g o):=⟨fun _=>rfl⟩
instance:KG .any:=⟨fun _=>rfl⟩
instance {l:List GV} [k:KL l]:KG (.agg l):=⟨Cl.agg k.h⟩
instance {l:List GV} [k:KL l]:KG (.tup l):=⟨Cl.tup k.h⟩
instance {l:List GV} [k:KL l]:KG (.sl .none l):=⟨Cl.sl k.h⟩
instance {l:List GV} [k:KL l]:KG (.sl .full l):=⟨fun e=>by rw[GV.ren,bX,k.h e];rfl⟩
instance {t:TypeId} {g:GV} [k:KG g]:KG (.ifc t g):=⟨fun e=>by rw[GV.ren,k.h e]⟩
instance {f:Fn} {a c:List GV} [k:KL a] [j:KL c]:KG (.fn f a c):=⟨fun e=>by rw[GV.ren,bX,bX,k.h e,j.h e]⟩
instance {l:List GV} {o:Nat} [k:KL l]:KG (.snap l o):=⟨fun e=>by rw[GV.ren,bX,k.h e]⟩
instance:KL []:=⟨ClL.nil⟩
instance {x:GV} {l:List GV} [k:KG x] [j:KL l]:KL (x::l):=⟨cC k.h j.h⟩
instance {α:Type} {f:α->GV} {l:List α} [k:∀a,KG (f a)]:KL (l.map f):=⟨ClL.mapOf (fun a=>(k a).h) l⟩
instance (priority:=low) {e:Nat->Nat} {g:GV} [k:KG g]:RG e g g:=⟨k.h e⟩
instance (priority:=low) {e:Nat->Nat} {l:List GV} [k:KL l]:RL e l l:=⟨k.h e⟩
instance {e:Nat->Nat} {r o:Nat}:RG e (.ptr r o) (.ptr (e r) o):=⟨rfl⟩
instance {e:Nat->Nat} {r:Nat}:RG e (.mp r) (.mp (e r)):=⟨rfl⟩
instance {e:Nat->Nat} {r:Nat} {l:List GV} [k:KL l]:RG e (.sl (.own r) l) (.sl (.own (e r)) l):=⟨by rw[GV.ren,bX,k.h e];rfl⟩
instance {e:Nat->Nat} {f:Fn} {a c a' c':List GV} [k:RL e a a'] [j:RL e c c']:RG e (.fn f a c) (.fn f a' c'):=⟨by rw[GV.ren,bX,bX,k.h,j.h]⟩
instance {e:Nat->Nat} {l l':List GV} [k:RL e l l']:RG e (.agg l) (.agg l'):=⟨by rw[GV.ren,bX,k.h]⟩
instance {e:Nat->Nat} {l l':List GV} [k:RL e l l']:RG e (.tup l) (.tup l'):=⟨by rw[GV.ren,bX,k.h]⟩
instance {e:Nat->Nat}:RL e [] []:=⟨rfl⟩
instance {e:Nat->Nat} {x x':GV} {l l':List GV} [k:RG e x x'] [j:RL e l l']:RL e (x::l) (x'::l'):=⟨by rw[bY,k.h,j.h]⟩
instance {e:Nat->Nat} {T:TypeId} {l l':List GV} [k:RL e l l']:RO e (.box T l) (.box T l'):=⟨by rw[GObj.ren,k.h]⟩
class KM (l:List (GV×GV)):Prop where
 h:∀e,l.map (fun p=>(p.1.ren e,p.2.ren e))=l
instance:KM []:=⟨fun _=>rfl⟩
instance {a b:GV} {l:List (GV×GV)} [i:KG a] [j:KG b] [k:KM l]:KM ((a,b)::l):=⟨fun e=>by rw[bY,i.h e,j.h e,k.h]⟩
instance {l l':List (GV×GV)} [j:KM l] [k:KM l']:KM (l++l'):=⟨fun e=>by rw[dI,j.h,k.h]⟩
instance {e:Nat->Nat} {l:List (GV×GV)} [k:KM l]:RO e (.mp l) (.mp l):=⟨by rw[GObj.ren,k.h]⟩
instance {e:Nat->Nat} {n s:Nat} {t:TypeId}:RO e (.own n s t) (.own n s t):=⟨rfl⟩
instance {e:Nat->Nat}:RO e .dead .dead:=⟨rfl⟩
instance {e:Nat->Nat}:RH e [] []:=⟨rfl⟩
instance {e:Nat->Nat} {x x':GObj} {s s':List GObj} [k:RO e x x'] [j:RH e s s']:RH e (x::s) (x'::s'):=⟨by rw[bY,k.h,j.h]⟩
instance {e:Nat->Nat} {s t s' t':List GObj} [k:RH e s s'] [j:RH e t t']:RH e (s++t) (s'++t'):=⟨by rw[dI,k.h,j.h]⟩
instance {e:Nat->Nat} {g g':GV} [k:RG e g g']:RR e (.val g) (.val g'):=⟨by rw[GRes.ren,k.h]⟩
instance {e:Nat->Nat} {g g':GV} [k:RG e g g']:RR e (.panic g) (.panic g'):=⟨by rw[GRes.ren,k.h]⟩
theorem Lies.mk' {ks:List Nat} {s t objs:List GObj} [hr:RH (iB ks objs.length) s t] (ho:ks.map (fun q=>objs[q]?)=t.map some) (hl:ks.length=s.length) (hn:ks.Nodup) (hh:s.all GObj.notHeld=true):Lies ks s objs:=
 ⟨hn,hl,fun i k x h1 h2=>by
  have h3:=aJ (fun l:List (Option GObj)=>l[i]?) ho;have h4:=aJ (fun l:List GObj=>l[i]?) hr.h;simp only[aG,h1,h2,aT] at h3 h4;rw[<-h4] at h3;simpa using h3,fun x hx e=>by subst e;have:=List.all_eq_true.1 hh _ hx;cases this⟩
def nW:List Nat->List GObj->List GObj->List GObj
 |q::ks,x::xs,l=>nW ks xs (l.set q x)
 |_,_,l=>l
theorem v8:∀(ks:List Nat) (xs l:List GObj),(nW ks xs l).length=l.length
 |[],_,l=>rfl
 |q::ks,[],l=>rfl
 |q::ks,x::xs,l=>by rw[nW,v8,List.length_set]
theorem AS:∀(ks:List Nat) (xs l:List GObj) (r:Nat),ks.Nodup->ks.length=xs.length->r<l.length->(nW ks xs l)[r]?=match ks.idxOf? r with|some i=>xs[i]?|none=>l[r]?
 |[],_,l,r,_,_,_=>rfl
 |q::ks,[],l,r,_,h,_=>by cases h
 |q::ks,x::xs,l,r,hn,h,hr=>by
  rw[nW,AS ks xs _ r (List.nodup_cons.1 hn).2 (by simpa using h) (by rw[List.length_set];exact hr)];by_cases hq:q=r
  ·subst hq;have h1:ks.idxOf? q=none:=List.idxOf?_eq_none_iff.2 (List.nodup_cons.1 hn).1;rw[h1];simp[List.idxOf?,List.findIdx?_cons,hr]
  ·have e:(q::ks).idxOf? r=(ks.idxOf? r).map (· +1):=by simp[List.idxOf?,List.findIdx?_cons,hq]
   rw[e];cases ks.idxOf? r with
   |none=>simp[cV hq]
   |some i=>simp
theorem oN {ks:List Nat} {s' objs:List GObj} (hn:ks.Nodup) (hl:ks.length=s'.length) (hk:∀k∈ks,k<objs.length):hY ks s' objs=nW ks (s'.map (GObj.ren (iB ks objs.length))) objs:=by
 apply cK;intro r;rw[iR hk (Nat.le_of_eq hl)];unfold fU;by_cases hr:r<objs.length
 ·rw[aA hr,AS _ _ _ _ hn (by simpa using hl) hr];cases ks.idxOf? r with
  |none=>rfl
  |some i=>simp
 ·rw[aB hr,b6 (l:=nW _ _ _) (by rw[v8];omega)];have:s'[ks.length+(r - objs.length)]?=none:=b6 (by omega);simp[this]
theorem cG (ks:List Nat) {P:Program} {M:FuncId->Bool} {k:FuncId} {args a a':List GV} {s t s' t':List GObj} {r r':GRes} {σ:GS} {K:GRes->GS->Prop} (h:SC P k a s r s')
  [i1:RL (iB ks σ.objs.length) a a'] [i2:RH (iB ks σ.objs.length) s t] [i3:RH (iB ks σ.objs.length) s' t'] [i4:RR (iB ks σ.objs.length) r r']
  (hk:K r' ⟨nW ks t' σ.objs,σ.lo,σ.ds⟩) (hw:Wks args a':=by first|exact wR _|exact wC (b5 _ _) (wR _)|exact wC (b5 _ _) (wC (b5 _ _) (wR _))|exact wC (iN _) (wC (b5 _ _) (wR _))) (ho:ks.map (fun q=>σ.objs[q]?)=t.map some:=by rfl) (hl:ks.length=s.length:=by rfl) (hl':ks.length=s'.length:=by rfl) (hn:ks.Nodup:=by decide)
  (hh:s.all GObj.notHeld=true:=by rfl) (hlo:σ.lo=0:=by rfl) (hM:M k=false:=by rfl) (hD:kK M=false:=by rfl):iC P M (.fn k) args σ K:=by
 have hL:Lies ks s σ.objs:=Lies.mk' ho hl hn hh;have hf:=h.fact (σ:=σ) (args':=args) ks hL hlo (by rw[i1.h];exact hw);rw[oN hn hl' (fun k hk=>hL.lt k hk),i3.h,i4.h] at hf;exact⟨r',_,hf,(B6 hM hD),hk⟩
theorem cP {P:Program} {M:FuncId->Bool} {k:FuncId} {a args:List GV} {r:GV} {σ:GS} {K:GRes->GS->Prop} (h:SC P k a [] (.val r) []) [i1:KL a] [i2:KG r] (hk:K (.val r) σ) (hw:Wks args a:=by first|exact wR _|exact wC (b5 _ _) (wR _)|exact wC (b5 _ _) (wC (b5 _ _) (wR _))|exact wC (iN _) (wC (b5 _ _) (wR _))) (hlo:σ.lo=0:=by rfl):
  iC P M (.fn k) args σ K:=iY h hw hlo i1.h i2.h hk
theorem cS (ks:List Nat) {P:Program} {M:FuncId->Bool} {k:FuncId} {args a a':List GV} {s t:List GObj} {r r':GRes} {σ:GS} {K:GRes->GS->Prop} (h:SC P k a s r s)
  [i1:RL (iB ks σ.objs.length) a a'] [i2:RH (iB ks σ.objs.length) s t] [i4:RR (iB ks σ.objs.length) r r']
  (hk:K r' σ) (hw:Wks args a':=by first|exact wR _|exact wC (b5 _ _) (wR _)|exact wC (b5 _ _) (wC (b5 _ _) (wR _))|exact wC (iN _) (wC (b5 _ _) (wR _))) (ho:ks.map (fun q=>σ.objs[q]?)=t.map some:=by rfl) (hl:ks.length=s.length:=by rfl) (hn:ks.Nodup:=by decide)
  (hh:s.all GObj.notHeld=true:=by rfl) (hlo:σ.lo=0:=by rfl):iC P M (.fn k) args σ K:=by
 have hL:Lies ks s σ.objs:=Lies.mk' ho hl hn hh;have hf:=h.fact (σ:=σ) (args':=args) ks hL hlo (by rw[i1.h];exact hw);rw[oN hn hl (fun k hk=>hL.lt k hk),i2.h,i4.h] at hf;have same:∀(ks:List Nat) (t l:List GObj),ks.map (fun q=>l[q]?)=t.map some->nW ks t l=l:=by
  intro ks;induction ks with
  |nil=>intro t l _;cases t<;>rfl
  |cons q ks ih=>
   intro t l he;cases t with
   |nil=>rfl
   |cons x t=>
    simp only[bY,List.cons.injEq] at he;have:l.set q x=l:=by
     apply cK;intro j;by_cases hj:q=j
     ·subst hj;rw[he.1,List.getElem?_set_self (List.getElem?_eq_some_iff.1 he.1).1]
     ·rw[cV hj]
    rw[nW,this];exact ih t l he.2
 rw[same ks t σ.objs ho] at hf;exact⟨r',σ,hf,fun _ _ _=>rfl,hk⟩
theorem Wks.at_:∀{l l':List GV},Wks l l'->l.length=l'.length/\∀(j:Nat) g g',l[j]?=some g->l'[j]?=some g'->Wk g g'
 |[],[],_=>⟨rfl,fun j g g' h=>by simp at h⟩
 |g::l,g'::l',h=>by
  obtain⟨h1,h2⟩:=Wks.at_ h.2;refine⟨aJ (· +1) h1,fun j x x' hx hx'=>?_⟩;cases j with
  |zero=>cases hx;cases hx';exact h.1
  |succ j=>exact h2 j x x' hx hx'
 |[],_::_,h=>h.elim
 |_::_,[],h=>h.elim
theorem Wks.agg {l l':List GV} (h:Wks l l'):Wk (.agg l) (.agg l'):=Wk.agg h.at_.1 h.at_.2
class FG (n:Nat) (g:GV):Prop where
 h:∀e:Nat->Nat,(∀i,i<n->e i=i)->g.ren e=g
class FL (n:Nat) (l:List GV):Prop where
 h:∀e:Nat->Nat,(∀i,i<n->e i=i)->l.map (GV.ren e)=l
class FO (n:Nat) (x:GObj):Prop where
 h:∀e:Nat->Nat,(∀i,i<n->e i=i)->x.ren e=x
class FH (n:Nat) (s:List GObj):Prop where
 h:∀e:Nat->Nat,(∀i,i<n->e i=i)->s.map (GObj.ren e)=s
class FR (n:Nat) (r:GRes):Prop where
 h:∀e:Nat->Nat,(∀i,i<n->e i=i)->r.ren e=r
class FD (n:Nat) (l:List GDef):Prop where
 h:∀e:Nat->Nat,(∀i,i<n->e i=i)->l.map (GDef.ren e)=l
instance (priority:=low) {n:Nat} {g:GV} [k:KG g]:FG n g:=⟨fun e _=>k.h e⟩
instance (priority:=low) {n:Nat} {l:List GV} [k:KL l]:FL n l:=⟨fun e _=>k.h e⟩
instance {n r o:Nat} [k:NL r n]:FG n (.ptr r o):=⟨fun e he=>by rw[GV.ren,he r k.h]⟩
instance {n r:Nat} [k:NL r n]:FG n (.mp r):=⟨fun e he=>by rw[GV.ren,he r k.h]⟩
instance {n r:Nat} {l:List GV} [k:NL r n] [j:KL l]:FG n (.sl (.own r) l):=⟨fun e he=>by rw[GV.ren,bX,j.h e,Tok.ren,he r k.h]⟩
instance {n:Nat} {f:Fn} {a c:List GV} [k:FL n a] [j:FL n c]:FG n (.fn f a c):=⟨fun e he=>by rw[GV.ren,bX,bX,k.h e he,j.h e he]⟩
instance {n:Nat} {l:List GV} [k:FL n l]:FG n (.agg l):=⟨fun e he=>by rw[GV.ren,bX,k.h e he]⟩
instance {n:Nat} {l:List GV} [k:FL n l]:FG n (.tup l):=⟨fun e he=>by rw[GV.ren,bX,k.h e he]⟩
instance {n:Nat}:FL n []:=⟨fun _ _=>rfl⟩
instance {n:Nat} {x:GV} {l:List GV} [k:FG n x] [j:FL n l]:FL n (x::l):=⟨fun e he=>by rw[bY,k.h e he,j.h e he]⟩
instance {n:Nat} {T:TypeId} {l:List GV} [k:FL n l]:FO n (.box T l):=⟨fun e he=>by rw[GObj.ren,k.h e he]⟩
instance {n:Nat} {l:List (GV×GV)} [k:KM l]:FO n (.mp l):=⟨fun e _=>by rw[GObj.ren,k.h]⟩
instance {m n s:Nat} {t:TypeId}:FO m (.own n s t):=⟨fun _ _=>rfl⟩
instance {n:Nat}:FO n .dead:=⟨fun _ _=>rfl⟩
instance {n:Nat}:FH n []:=⟨fun _ _=>rfl⟩
instance {n:Nat} {x:GObj} {s:List GObj} [k:FO n x] [j:FH n s]:FH n (x::s):=⟨fun e he=>by rw[bY,k.h e he,j.h e he]⟩
instance {n:Nat} {s t:List GObj} [k:FH n s] [j:FH n t]:FH n (s++t):=⟨fun e he=>by rw[dI,k.h e he,j.h e he]⟩
instance {n:Nat} {g:GV} [k:FG n g]:FR n (.val g):=⟨fun e he=>by rw[GRes.ren,k.h e he]⟩
instance {n:Nat} {g:GV} [k:FG n g]:FR n (.panic g):=⟨fun e he=>by rw[GRes.ren,k.h e he]⟩
instance {n:Nat}:FD n []:=⟨fun _ _=>rfl⟩
theorem fin (n:Nat) {s s' objs:List GObj} {r r':GRes} {lo:Nat} {ds:List GDef} [i1:FH n s'] [i2:FR n r']
  (hw:WkRes r r':=by exact WkRes.refl _) (ho:objs.take n=s':=by rfl) (hn:s'.length=n:=by rfl) (hl:s.length<=n:=by first|exact rL _|exact bL rfl) (hh:s'.all GObj.notHeld=true:=by rfl):
  Owes s r' s' r ⟨objs,lo,ds⟩:=by
 subst hn;refine A7 (rest:=objs.drop s'.length) ?_ hl (fun e he=>i1.h e he) hh (fun e he=>i2.h e he) hw;have h1:=fX s'.length objs;rw[ho] at h1;exact h1.symm
theorem nx {β:Type} {n i:Nat} {J A:Nat×β->Prop} {O:Nat×β->List GObj} {objs:List GObj} {ds D:List GDef} (b':β) (hlt:i<n) (hJ:J (i+1,b')) (ho:objs.take (O (i+1,b')).length=O (i+1,b'):=by rfl)
  (ha:A (i+1,b'):=by repeat' first|exact trivial|exact rfl|exact cT (by omega)|refine And.intro ?_ ?_) (hd:ds=D:=by rfl):
  ∃m',m'<n - i/\∃a',J a'/\n - a'.1=m'/\A a'/\∃extra,objs=O a'++extra/\ds=D:=
 ⟨n - (i+1),by omega,(i+1,b'),hJ,rfl,ha,objs.drop (O (i+1,b')).length,by
  have h1:=fX (O (i+1,b')).length objs;rw[ho] at h1;exact h1.symm,hd⟩
theorem gY {c:Bool} {A B:Prop} (h:c=true) (a:A):GIf c A B:=by subst h;exact a
theorem gN {c:Bool} {A B:Prop} (h:c=false) (b:B):GIf c A B:=by subst h;exact b
theorem st {l:List GV} {a b off n:Nat} {c:Bool} {K:List GV->Prop} (k:K l) (h1:a<=b:=by exact zL _) (h2:c=true:=by rfl) (h3:off+l.length<=n:=by exact bL rfl):∃vc,GNeed (vc=l/\a<=b/\c=true/\off+vc.length<=n) (K vc):=⟨l,⟨rfl,h1,h2,h3⟩,k⟩
theorem ix {α:Type} {xs:List α} {p:α->Prop} {i:Nat} {y:α} (hy:xs[i]?=some y) (hp:p y):GNeed (0<=((i:Nat):Int)) (∃y,xs[((i:Nat):Int).toNat]?=some y/\p y):=⟨fK _,y,by rw[aD];exact hy,hp⟩
end
section
open Go.RowKit Go.Sort
theorem UL [MaxL] {σ:GS} {r:Nat} (hlo:σ.lo=0) (ho:σ.objs[r]?=some (.box 122 [.o (.pointer none),.sl .full []])):
  Fact Tryz.prog (.fn 84) [.ptr r 0] σ (.val (.tup [])) (gset σ r (.box 122 [.ptr r 0,.sl .full []])):=by
 refine⟨.gset σ _ (by omega) ho (by simp),rfl,fun w0 C w vs hr hv=>?_⟩;show Calls _ _ _ _ _;obtain⟨v,rfl,hv1⟩:=hv.arr1;obtain⟨h0,b,cs,hb,ho',hcs⟩:=hr.obj r _ ho;obtain⟨u,u',rfl,hu,hu'⟩:=(BoxV.exact hcs rfl).arr2;cases hv1 with
 |ptr hb'=>
 rw[hb] at hb';cases hb';cases hu;have hc0:w.cell? ⟨b,0,none⟩=some (.pointer none):=by simp[World.cell?,ho']
 refine(Any.Builder_copyCheck_fresh AA Tryz.Builder_Extra_156.toX72 b w hc0 (IE ho') (by simp[World.frozen?,ho'])).mono ?_;rintro e w' ⟨rfl,rfl⟩;refine⟨C,.refl C,Rel.setObj (r:=r) (b:=b) hr (List.getElem?_eq_some_iff.1 ho).1 hb _ ⟨h0,b,_,hb,heap_setCell_same w b 0 _ _ _ ho',?_⟩ rfl rfl rfl (by simp[World.setCell]) (fun k hk=>heap_setCell_other w _ k _ hk),_,rfl,.unit⟩;exact VRs.box (.cons (.ptr hb) (.cons hu' .nil))
theorem WW [MaxL] {σ:GS} {r:Nat} {x:GV} (ho:σ.objs[r]?=some (.box 122 [.ptr r 0,x])):
  Fact Tryz.prog (.fn 84) [.ptr r 0] σ (.val (.tup [])) σ:=by
 refine⟨.refl σ,rfl,fun w0 C w vs hr hv=>?_⟩;show Calls _ _ _ _ _;obtain⟨v,rfl,hv1⟩:=hv.arr1;obtain⟨h0,b,cs,hb,ho',hcs⟩:=hr.obj r _ ho;obtain⟨u,u',rfl,hu,hu'⟩:=(BoxV.exact hcs rfl).arr2;cases hv1 with
 |ptr hb'=>
 rw[hb] at hb';cases hb';cases hu with
 |ptr hb'=>
 rw[hb] at hb';cases hb';have hc0:w.cell? ⟨b,0,none⟩=some (.pointer (some ⟨b,0,none⟩)):=by simp[World.cell?,ho']
 refine(Any.Builder_copyCheck_used AA Tryz.Builder_Extra_156.toX72 b w hc0).mono ?_;rintro e w' ⟨rfl,rfl⟩;exact⟨C,.refl C,hr,_,rfl,.unit⟩
def gcc (args:List GV) (σ:GS):Option (GRes×GS):=
 match args with
 |[.ptr r 0]=>match σ.objs[r]? with
  |some (.box t [.o (.pointer none),.sl .full []])=>if σ.lo=0/\t=122 then some (.val (.tup []),gset σ r (.box t [.ptr r 0,.sl .full []])) else none
  |some (.box t [.ptr q 0,x])=>if q=r/\t=122 then some (.val (.tup []),σ) else none
  |_=>none
 |_=>none
def gix (args:List GV) (σ:GS):Option (GRes×GS):=
 match args with
 |[.s a,.s b]=>if a.length<4000000000 then some (.val (.i .i64 (Lib.index a b)),σ) else none
 |_=>none
theorem UD [MaxL] {args:List GV} {σ σ':GS} {r:GRes} (h:gcc args σ=some (r,σ')):Fact Tryz.prog (.fn 84) args σ r σ':=by
 unfold gcc at h;split at h
 ·split at h
  ·rename_i ho;split at h
   ·rename_i hc;obtain⟨h1,rfl⟩:=hc;cases h;exact UL h1 ho
   ·cases h
  ·rename_i ho;split at h
   ·rename_i hc;obtain⟨rfl,rfl⟩:=hc;cases h;exact WW ho
   ·cases h
  ·cases h
 ·cases h
theorem K7 [MaxL] {args:List GV} {σ σ':GS} {r:GRes} (h:gix args σ=some (r,σ')):Fact Tryz.prog (.fn 184) args σ r σ'/\σ'=σ:=by
 unfold gix at h;split at h
 ·split at h
  ·rename_i hl;cases h;exact⟨SC.factNil (OZ _ _ hl) (fun _=>rfl) (fun _=>rfl) (wR _),rfl⟩
  ·cases h
 ·cases h
noncomputable def I5 (args:List GV) (H:HS):Option ((GRes->HS->HR)->HR):=
 match args with
 |[.ptr r 0]=>match fR H r with
  |some (.o (.box t [.o (.pointer none),.sl .full []]))=>if H.lo=0/\t=122 then some fun K=>l9 H r (.o (.box t [.ptr r 0,.sl .full []])) (K (.val (.tup []))) else none
  |some (.o (.box t [.ptr q 0,x]))=>if q=r/\t=122 then some fun K=>K (.val (.tup [])) H else none
  |_=>none
 |_=>none
noncomputable def hix (args:List GV) (H:HS):Option ((GRes->HS->HR)->HR):=
 match args with
 |[.s a,.s b]=>if a.length<4000000000 then some fun K=>WV (Lib.index a b) fun n=>K (.val (.i .i64 n)) H else none
 |_=>none
def HQ (f:Option ((GRes->HS->HR)->HR)) (g:Option (GRes×GS)):Prop:=
 match f with
 |some f=>∀K q,f K=some q->∃r H',g=some (r,ab H')/\K r H'=some q
 |none=>g=none
theorem ZE [MaxL] (args:List GV) (H:HS):HQ (I5 args H) (gcc args (ab H)):=by
 unfold I5 gcc;split
 ·simp only[e8];have hlo:(ab H).lo=H.lo:=rfl;split
  ·rename_i ho;simp only[ho,aT,HObj.g,hlo];split
   ·intro K q h;dsimp only at h;rw[gQ] at h;exact⟨_,_,by rw[uH],h⟩
   ·rfl
  ·rename_i ho;simp only[ho,aT,HObj.g];split
   ·intro K q h;exact⟨_,_,rfl,h⟩
   ·rfl
  ·rename_i h1 h2;show _=none;cases ho:fR H _ with
   |none=>rfl
   |some y=>
    cases y with
    |lp=>rfl
    |o x=>
     simp only[aT,HObj.g];split
     ·rename_i e;cases e;exact absurd ho (h1 _)
     ·rename_i e;cases e;exact absurd ho (h2 _ _ _)
     ·rfl
 ·rfl
theorem ZB [MaxL] (args:List GV) (H:HS):HQ (hix args H) (gix args (ab H)):=by
 unfold hix gix;split
 ·split
  ·intro K q h;dsimp only at h;rw[HP] at h;exact⟨_,_,rfl,h⟩
  ·rfl
 ·rfl
end
section
open Go.RowKit
abbrev RF:=List (Nat×By×GV)
def IB (l:RF) (k:Nat) (a:By):Option GV:=(l.find? fun e=>Nat.beq e.1 k&&decide (e.2.1=a)).map (·.2.2)
def ZR (l:RF) (k:Nat):Option (List GV->GS->Option (GRes×GS)):=
 match l.any fun e=>Nat.beq e.1 k with
 |true=>some fun args σ=>match args with
  |[.s a]=>(IB l k a).map fun g=>(.val g,σ)
  |_=>none
 |false=>none
noncomputable def Q5 [MaxL] (l:RF) (k:Nat) (args:List GV) (H:HS):Option ((GRes->HS->HR)->HR):=
 match l.any fun e=>Nat.beq e.1 k with
 |true=>match args with
  |[.s a]=>match IB l k a with
   |some g=>some fun K=>K (.val g) H
   |none=>none
  |_=>none
 |false=>none
def TabOk [MaxL] (l:RF):Prop:=∀e∈l,SC Tryz.prog e.1 [.s e.2.1] [] (.val e.2.2) []/\∀f,e.2.2.ren f=e.2.2
theorem TabOk.nil [MaxL]:TabOk []:=fun e h=>by cases h
theorem TabOk.cons [MaxL] {l:RF} {k:Nat} {a:By} {g:GV} (h:SC Tryz.prog k [.s a] [] (.val g) []) (hg:∀f,g.ren f=g) (hl:TabOk l):TabOk ((k,a,g)::l):=fun e he=>by
 rcases List.mem_cons.1 he with rfl|he
 ·exact⟨h,hg⟩
 ·exact hl e he
theorem PD [MaxL] {l:RF} {k:Nat} {a:By} {g:GV} (h:IB l k a=some g):(k,a,g)∈l:=by
 unfold IB at h;obtain⟨e,h1,rfl⟩:=Option.map_eq_some_iff.1 h;have h2:=List.find?_some h1;simp only[aF,aH] at h2;have h3:=cI h2.1;have:=List.mem_of_find?_eq_some h1;obtain⟨x,y,z⟩:=e;simp only at h2 h3;rw[<-h3,<-h2.2];exact this
def UI (l:RF):s7:=fun k=>if k=84 then some gcc else if k=184 then some gix else ZR l k
noncomputable def ZQ [MaxL] (l:RF):RA:=fun k args H=>match Nat.beq k 84 with
 |true=>I5 args H
 |false=>match Nat.beq k 184 with
  |true=>hix args H
  |false=>Q5 l k args H
theorem V3 {a b:Nat} (h:¬a=b):Nat.beq a b=false:=by
 cases hb:Nat.beq a b with
 |false=>rfl
 |true=>exact absurd (cI hb) h
theorem KX [MaxL] (l:RF):XP (UI l) (ZQ l):=fun k args H=>by
 show HQ (ZQ l k args H) (match UI l k with|some h=>h args (ab H)|none=>none);unfold ZQ UI;by_cases h1:k=84
 ·subst h1;exact ZE args H
 ·rw[V3 h1,aB h1];by_cases h2:k=184
  ·subst h2;exact ZB args H
  ·rw[V3 h2,aB h2];unfold ZR Q5;simp only;cases l.any fun e=>Nat.beq e.1 k with
   |false=>rfl
   |true=>
    dsimp only;split
    ·rename_i a;cases IB l k a with
     |none=>rfl
     |some g=>exact fun K q h=>⟨.val g,H,rfl,h⟩
    ·rfl
theorem qM [MaxL] (m:List Nat) (hm0:MP m 84=false) {l:RF} (hl:TabOk l) (hD:kK (MP m)=false:=by rfl) (w0:World):EnvSound Tryz.prog w0 (MP m) (UI l):=.of (hD:=hD) fun k f hf args σ r σ' h=>by
 unfold UI at hf;split at hf
 ·rename_i hk;subst hk;cases hf;exact⟨UD h,fun hm=>by rw[hm0] at hm;cases hm⟩
 ·split at hf
  ·rename_i hk;subst hk;cases hf;exact⟨(K7 h).1,fun _=>(K7 h).2⟩
  ·unfold ZR at hf;split at hf
   ·cases hf;dsimp only at h;split at h
    ·rename_i a;obtain⟨g,h3,e⟩:=Option.map_eq_some_iff.1 h;cases e;obtain⟨h4,h5⟩:=hl _ (PD h3);exact⟨SC.factNil h4 (fun _=>rfl) (fun e=>by show GRes.val (g.ren e)=_;rw[h5]) (wR _),fun _=>rfl⟩
    ·cases h
   ·cases hf
theorem X2 [MaxL]:SC Tryz.prog 166 [.s [110]] [] (.val (.b false)) []:=
 SC.of_hcall mixed (qM [] rfl .nil) (KX []) (m:=600) (by kernel_rfl) (fun _=>rfl)
theorem X1 [MaxL]:SC Tryz.prog 166 [.s [59]] [] (.val (.b false)) []:=
 SC.of_hcall mixed (qM [] rfl .nil) (KX []) (m:=600) (by kernel_rfl) (fun _=>rfl)
def YE:RF:=[(166,[110],.b false),(166,[59],.b false)]
theorem NV [MaxL]:TabOk YE:=.cons X2 (fun _=>rfl) (.cons X1 (fun _=>rfl) .nil)
def a0Q:By:=[112,114,111,103,114,97,109,32,112,32,123,10,112,114,105,110,116,32,49,32,43,59,32,125]
def a0a:GV:=.tup [.o (.pointer none),.i .i64 2,.i .i64 2]
theorem UO [MaxL]:SC Tryz.prog 10 [.s a0Q] [] (.val a0a) []:=
 SC.of_hcall mixed (qM [1706001] rfl NV) (KX YE) (m:=300) (by kernel_rfl) (fun _=>rfl)
def a0R:RF:=(10,a0Q,a0a)::YE
theorem VM [MaxL]:TabOk a0R:=.cons UO (fun _=>rfl) NV
end
section
open Go.RowKit
def Tk.kd:Tk->Nat
 |.nm _=>110
 |.nu _=>100
 |.tx _=>116
 |.sg _=>115
 |.fin=>101
 |.bad=>119
def Tk.vl:Tk->Val
 |.nu n=>⟨1,n,[]⟩
 |.tx s=>⟨2,0,s⟩
 |_=>⟨0,0,[]⟩
def Tp.cs (p:Tp):List GV:=[.i .u8 (p.t.kd:Nat),.s p.raw,.i .i64 p.t.vl.k,.i .i64 p.t.vl.n,.s p.t.vl.s,.i .i64 (p.line:Nat)]
def I9 (p:Tp):GV:=.agg p.cs
def lW (l:List Tp):List GV:=l.map I9
instance [MaxL] (p:Tp):KG (I9 p):=⟨fun _=>rfl⟩
instance [MaxL] (l:List Tp):KL (lW l):=⟨ClL.mapOf (fun p=>(show KG (I9 p) from inferInstance).h) l⟩
def Tp.ok (p:Tp):Prop:=match p.t with
 |.nm x=>p.raw=x/\dE x=true
 |.sg x=>p.raw=x/\a1X.contains x=true
 |_=>True
abbrev kQ (l:List Tp) (s:PS):GObj:=.box 173 [.sl .none (lW l),.i .i64 (s.n:Nat),.i .i64 (s.far:Nat),.i .i64 0,.i .i64 0,.i .i64 (s.pr:Nat),.b false]
theorem LF {l:List Tp} {n:Nat} {p:Tp} (h:l[n]?=some p):(lW l)[n]?=some (I9 p):=by rw[lW,aG,h];rfl
def mL:GV:=.ifc 174 (.agg [])
instance [MaxL]:KG mL:=⟨fun _=>rfl⟩
theorem sM [MaxL] (l:List Tp) (s:PS) (p:Tp) (hp:l[s.n]?=some p):SC Tryz.prog 91 [.ptr 0 0] [kQ l s] (.val (I9 p)) [kQ l s]:=by
 refine bI Tryz.func91 rfl ?_;conv=>whnf
 refine gP ?_;conv=>whnf
 refine ix (LF hp) ⟨rfl,?_⟩;conv=>whnf
 refine st ?_;conv=>whnf
 exact fin 1
theorem lC [MaxL] (a b:Nat):[GV.i .i64 ((max a b:Nat):Int)]=(GV.i .i64 (if(b:Int)>(a:Int) then(b:Int) else(a:Int))).cells:=by
 show[_]=[_];congr 2;split<;>omega
theorem nG [MaxL] (l:List Tp) (s:PS):SC Tryz.prog 92 [.ptr 0 0] [kQ l s] (.panic mL) [kQ l s.wr]:=by
 refine bI Tryz.func92 rfl ?_;conv=>whnf
 refine gP ?_;conv=>whnf
 refine⟨_,⟨lC _ _,zL _,rfl,bL rfl⟩,?_⟩;conv=>whnf
 exact fin 1
theorem JT [MaxL] (l:List Tp) (s:PS) (p:Tp) (hp:l[s.n]?=some p) (hk:p.ok) (x:By):SC Tryz.prog 94 [.ptr 0 0,.s x] [kQ l s] (.val (.b (gV p.t x))) [kQ l s]:=by
 have hn:=sM l s p hp;obtain⟨t,raw,ln⟩:=p;cases t
 case nm y=>
  have hr:raw=y:=hk.1;subst hr;refine bI Tryz.func94 rfl ?_;conv=>whnf
  refine cS [0] hn ?_;conv=>whnf
  refine st ?_;conv=>whnf
  exact fin 1
 case sg y=>
  have hr:raw=y:=hk.1;subst hr;refine bI Tryz.func94 rfl ?_;conv=>whnf
  refine cS [0] hn ?_;conv=>whnf
  refine st ?_;conv=>whnf
  exact fin 1
 all_goals
  refine bI Tryz.func94 rfl ?_;conv=>whnf
  refine cS [0] hn ?_;conv=>whnf
  refine st ?_;conv=>whnf
  exact fin 1
theorem nO [MaxL] (l:List Tp) (s:PS) (p:Tp) (hp:l[s.n]?=some p) (hk:p.ok) (x:By) (h:gV p.t x=false):SC Tryz.prog 104 [.ptr 0 0,.s x] [kQ l s] (.val (.b false)) [kQ l s]:=by
 have hn:=JT l s p hp hk x;rw[h] at hn;refine bI Tryz.func104 rfl ?_;conv=>whnf
 refine cS [0] hn ?_;conv=>whnf
 exact fin 1
theorem kT [MaxL] (l:List Tp) (s:PS) (p:Tp) (hp:l[s.n]?=some p) (hk:p.ok) (x:By) (h:gV p.t x=true) (hs:s.n<1000000):SC Tryz.prog 104 [.ptr 0 0,.s x] [kQ l s] (.val (.b true)) [kQ l s.adv]:=by
 have hn:=JT l s p hp hk x;rw[h] at hn;refine bI Tryz.func104 rfl ?_;conv=>whnf
 refine cS [0] hn ?_;conv=>whnf
 refine⟨_,⟨bE (by omega),zL _,rfl,bL rfl⟩,?_⟩;conv=>whnf
 exact fin 1
theorem EP [MaxL] (l:List Tp) (s:PS) (p:Tp) (hp:l[s.n]?=some p) (hk:p.ok) (x:By) (h:gV p.t x=false):SC Tryz.prog 114 [.ptr 0 0,.s x] [kQ l s] (.panic mL) [kQ l s.wr]:=by
 have hn:=nO l s p hp hk x h;refine bI Tryz.func114 rfl ?_;conv=>whnf
 refine cS [0] hn ?_;conv=>whnf
 refine cG [0] (nG l s) ?_;conv=>whnf
 exact fin 1
theorem BM [MaxL] (l:List Tp) (s:PS) (p:Tp) (hp:l[s.n]?=some p) (hk:p.ok) (x:By) (h:gV p.t x=true) (hs:s.n<1000000):SC Tryz.prog 114 [.ptr 0 0,.s x] [kQ l s] (.val (.tup [])) [kQ l s.adv]:=by
 have hn:=kT l s p hp hk x h hs;refine bI Tryz.func114 rfl ?_;conv=>whnf
 refine cG [0] hn ?_;conv=>whnf
 exact fin 1
theorem BO [MaxL] (l:List Tp) (s:PS) (p:Tp) (hp:l[s.n]?=some p) (x:By) (hx:p.t=.nm x) (hk:p.ok) (hs:s.n<1000000):SC Tryz.prog 115 [.ptr 0 0] [kQ l s] (.val (.s x)) [kQ l s.adv]:=by
 have hn:=sM l s p hp;obtain⟨t,raw,ln⟩:=p;cases hx;have hr:raw=x:=hk.1;subst hr;refine bI Tryz.func115 rfl ?_;conv=>whnf
 refine cS [0] hn ?_;conv=>whnf
 refine⟨_,⟨bE (by omega),zL _,rfl,bL rfl⟩,?_⟩;conv=>whnf
 have e:IntKind.i64.wrap (((s.n+1:Nat):Int) - 1)=(s.n:Nat):=by rw[bN (by omega) (by omega)];omega
 refine gP ?_;conv=>whnf
 refine⟨by rw[e];exact fK _,I9 ⟨.nm raw,raw,ln⟩,by rw[e,aD];exact LF hp,rfl,?_⟩;conv=>whnf
 exact fin 1
theorem EQ [MaxL] (l:List Tp) (s:PS) (p:Tp) (hp:l[s.n]?=some p) (hx:∀x,p.t≠ .nm x):SC Tryz.prog 115 [.ptr 0 0] [kQ l s] (.panic mL) [kQ l s.wr]:=by
 have hn:=sM l s p hp;obtain⟨t,raw,ln⟩:=p;cases t
 case nm y=>exact absurd rfl (hx y)
 all_goals
  refine bI Tryz.func115 rfl ?_;conv=>whnf
  refine cS [0] hn ?_;conv=>whnf
  refine cG [0] (nG l s) ?_;conv=>whnf
  exact fin 1
end
section
open Go.RowKit
def Tk.kr:Tk->Int
 |.nm _=>1
 |.nu _=>2
 |.tx _=>3
 |.sg _=>4
 |.fin=>0
 |.bad=>5
def Tk.sr:Tk->By
 |.nm s=>s
 |.tx s=>s
 |.sg s=>s
 |_=>[]
def Tk.nr:Tk->Int
 |.nu n=>n
 |_=>0
def Tq.cs (p:Tq):List GV:=[.i .i64 p.t.kr,.s p.t.sr,.i .i64 p.t.nr,.i .i64 (p.line:Nat)]
def PC (p:Tq):GV:=.agg p.cs
def AP (l:List Tq):List GV:=l.map PC
instance [MaxL] (p:Tq):KG (PC p):=⟨fun _=>rfl⟩
instance [MaxL] (l:List Tq):KL (AP l):=⟨ClL.mapOf (fun p=>(show KG (PC p) from inferInstance).h) l⟩
theorem j8 {l:List Tq} {n:Nat} {p:Tq} (h:l[n]?=some p):(AP l)[n]?=some (PC p):=by rw[AP,aG,h];rfl
theorem vT (l:List Tq):(AP l).length=l.length:=aS _
def XI:Option Nat->Int
 |none=> -1
 |some b=>(b:Nat)
abbrev i7 (l:List Tq) (s:RS):GObj:=.box 149 [.sl .none (AP l),.i .i64 (s.n:Nat),.i .i64 (XI s.bad),.i .i64 0,.i .i64 (s.ps:Nat),.i .i64 0,.i .i64 (s.pm:Nat),.i .i64 0,.i .i64 0]
theorem nF [MaxL] (l:List Tq) (s:RS):SC Tryz.prog 61 [.ptr 0 0] [i7 l s] (.val (.b s.bad.isNone)) [i7 l s]:=by
 obtain⟨n,bad,ps,pm⟩:=s;cases bad with
 |none=>
  show SC _ _ _ _ (.val (.b true)) _;refine bI Tryz.func61 rfl ?_;conv=>whnf
  exact fin 1
 |some b=>
  show SC _ _ _ _ (.val (.b false)) _;have q:decide (((b:Nat):Int)<0)=false:=aQ (by omega);refine bI Tryz.func61 rfl ?_;conv=>whnf
  exact fin 1 (hw:=cJ (by show GV.b (decide (((b:Nat):Int)<0))=_;rw[q]))
theorem qV [MaxL] (l:List Tq) (s:RS):SC Tryz.prog 152 [.ptr 0 0] [i7 l s] (.val (.tup [])) [i7 l s.fail]:=by
 obtain⟨n,bad,ps,pm⟩:=s;cases bad with
 |none=>
  refine bI Tryz.func152 rfl ?_;conv=>whnf
  refine st ?_;conv=>whnf
  exact fin 1
 |some b=>
  refine bI Tryz.func152 rfl ?_;conv=>whnf
  exact fin 1
theorem pH [MaxL] (l:List Tq) (s:RS) (p:Tq) (hp:l[s.n]?=some p) (x:By):SC Tryz.prog 62 [.ptr 0 0,.s x] [i7 l s] (.val (.b (gV p.t x))) [i7 l s]:=by
 have hg:=j8 hp;obtain⟨t,ln⟩:=p;cases t;all_goals
  refine bI Tryz.func62 rfl ?_;conv=>whnf
  refine b7 [none,none,none,some 0,none,none,none,some 0,none,none,some 1,some 1] rfl rfl (by kernel_rfl) ?_;conv=>whnf
  refine ix hg ⟨rfl,?_⟩;conv=>whnf
  refine st ?_;conv=>whnf
  exact fin 1
theorem VW [MaxL] (l:List Tq) (s:RS) (k:Nat) (hk:k<1000000) (hn:s.n<1000000) (p:Tq) (hp:l[s.n+k]?=some p) (x:By):SC Tryz.prog 148 [.ptr 0 0,.i .i64 (k:Nat),.s x] [i7 l s] (.val (.b (gV p.t x))) [i7 l s]:=by
 have hg:=j8 hp;have hlt:=(List.getElem?_eq_some_iff.1 hp).1;have hw:IntKind.i64.wrap (((s.n:Nat):Int)+((k:Nat):Int))=((s.n+k:Nat):Int):=by rw[bN (by omega) (by omega)];omega
 have hq:decide (((s.n+k:Nat):Int)>=(((AP l).length:Nat):Int))=false:=aQ (by rw[vT];omega);obtain⟨t,ln⟩:=p;cases t;all_goals
  refine bI Tryz.func148 rfl ?_;conv=>whnf
  refine gP ?_;conv=>whnf
  refine gN (c:=decide (IntKind.i64.wrap (((s.n:Nat):Int)+((k:Nat):Int))>=(((AP l).length:Nat):Int))) (by rw[hw];exact hq) ?_;conv=>whnf
  refine b7 [none,none,none,some 0,none,none,none,some 0,none,none,none,none,some 1,some 1] rfl rfl (by kernel_rfl) ?_;conv=>whnf
  refine⟨by rw[hw];omega,_,by rw[hw,aD];exact hg,rfl,?_⟩;conv=>whnf
  refine st ?_;conv=>whnf
  exact fin 1
theorem SN [MaxL] (l:List Tq) (s:RS) (p:Tq) (hp:l[s.n]?=some p) (hn:s.n<1000000) (x:By):SC Tryz.prog 147 [.ptr 0 0,.s x] [i7 l s] (.val (.tup [])) [i7 l (hQ (l.map (·.t)) s x)]:=by
 have ho:=nF l s;have hi:=pH l s p hp x;have hf:=qV l s;have ht:tk (l.map (·.t)) s.n=p.t:=by unfold tk;rw[aL,aG,hp];rfl
 unfold hQ;rw[ht];cases hb:s.bad with
 |some b=>
  rw[hb] at ho;replace ho:SC _ _ _ _ (.val (.b false)) _:=ho;rw[aA (show(some b).isSome=true from rfl)];refine bI Tryz.func147 rfl ?_;conv=>whnf
  refine cS [0] ho ?_;conv=>whnf
  exact fin 1
 |none=>
  rw[hb] at ho;replace ho:SC _ _ _ _ (.val (.b true)) _:=ho;rw[aB (show¬(none:Option Nat).isSome=true by decide)];cases hc:gV p.t x with
  |true=>
   rw[hc] at hi;rw[aA rfl];refine bI Tryz.func147 rfl ?_;(conv=>whnf);refine cS [0] ho ?_;(conv=>whnf);refine cS [0] hi ?_;(conv=>whnf);refine⟨_,⟨bE (by omega),zL _,rfl,bL rfl⟩,?_⟩;(conv=>whnf);exact fin 1
  |false=>
   rw[hc] at hi;rw[aB b4];refine bI Tryz.func147 rfl ?_;(conv=>whnf);refine cS [0] ho ?_;(conv=>whnf);refine cS [0] hi ?_;(conv=>whnf);refine cG [0] hf ?_;(conv=>whnf);exact fin 1
def O8 (l:List Tk) (s:RS):By×RS:=if s.bad.isSome=true then([],s) else match tk l s.n with
 |.nm y=>(y,s.adv)
 |_=>([],s.fail)
theorem YS [MaxL] (l:List Tq) (s:RS) (p:Tq) (hp:l[s.n]?=some p) (hn:s.n<1000000):SC Tryz.prog 149 [.ptr 0 0] [i7 l s] (.val (.s (O8 (l.map (·.t)) s).1)) [i7 l (O8 (l.map (·.t)) s).2]:=by
 have ho:=nF l s;have hf:=qV l s;have hg:=j8 hp;have ht:tk (l.map (·.t)) s.n=p.t:=by unfold tk;rw[aL,aG,hp];rfl
 have hw:IntKind.i64.wrap (((s.n+1:Nat):Int) - 1)=((s.n:Nat):Int):=by rw[bN (by omega) (by omega)];omega
 unfold O8;rw[ht];cases hb:s.bad with
 |some b=>
  rw[hb] at ho;replace ho:SC _ _ _ _ (.val (.b false)) _:=ho;rw[aA (show(some b).isSome=true from rfl)];refine bI Tryz.func149 rfl ?_;conv=>whnf
  refine cS [0] ho ?_;conv=>whnf
  exact fin 1
 |none=>
  rw[hb] at ho;replace ho:SC _ _ _ _ (.val (.b true)) _:=ho;rw[aB (show¬(none:Option Nat).isSome=true by decide)];obtain⟨t,ln⟩:=p;cases t
  case nm y=>
   refine bI Tryz.func149 rfl ?_;(conv=>whnf);refine cS [0] ho ?_;(conv=>whnf);refine gP ?_;(conv=>whnf);refine ix hg ⟨rfl,?_⟩;(conv=>whnf);refine⟨_,⟨bE (by omega),zL _,rfl,bL rfl⟩,?_⟩;(conv=>whnf);refine gP ?_;(conv=>whnf);refine⟨by rw[hw];omega,_,by rw[hw,aD];exact hg,rfl,?_⟩;(conv=>whnf);exact fin 1
  all_goals
   refine bI Tryz.func149 rfl ?_;(conv=>whnf);refine cS [0] ho ?_;(conv=>whnf);refine gP ?_;(conv=>whnf);refine ix hg ⟨rfl,?_⟩;(conv=>whnf);refine cG [0] hf ?_;(conv=>whnf);exact fin 1
end
section
open Go.RowKit
theorem qU [MaxL] (c:UInt8):SC Tryz.prog 143 [.i .u8 c.toNat] [] (.val (.b (dA c))) []:=by
 refine f8 D6 mixed Tryz.func143 rfl (bL rfl) (rL _) rfl ?_;conv=>whnf
 repeat' ((refine e6 (fun h=>?_) (fun h=>?_))<;>conv=>whnf)
 all_goals (refine eM ?_;simp only[aH,bR] at*;rw[Bool.eq_iff_iff];simp[dA];omega)
theorem tW [MaxL] (c:UInt8):SC Tryz.prog 144 [.i .u8 c.toNat] [] (.val (.b (bB c))) []:=by
 refine f8 D6 mixed Tryz.func144 rfl (bL rfl) (rL _) rfl ?_;conv=>whnf
 repeat' ((refine e6 (fun h=>?_) (fun h=>?_))<;>conv=>whnf)
 all_goals (refine eM ?_;simp only[aH,bR] at*;rw[Bool.eq_iff_iff];simp[bB];omega)
def yN (l:By):By:=match l with
 |[]=>[]
 |c::t=>if gI (c::t)=true then(c::t).take 2 else if jI c=true then[c] else[]
set_option maxHeartbeats 4000000 in
theorem YQ [MaxL] (s:By) (k:Nat) (hs:s.length<=20000) (c:UInt8) (hc:s[k]?=some c):SC Tryz.prog 146 [.s s,.i .i64 (k:Nat)] [] (.val (.s (yN (s.drop k)))) []:=by
 have hk:k<s.length:=(List.getElem?_eq_some_iff.1 hc).1;have hT:s.drop k=c::s.drop (k+1):=by
  rw[<-cM hk,(List.getElem?_eq_some_iff.1 hc).2]
 have hw:IntKind.i64.wrap (((k:Nat):Int)+1)=((k+1:Nat):Int):=by rw[bN (by omega) (by omega)];omega
 have hw2:IntKind.i64.wrap (((k:Nat):Int)+2)=((k+2:Nat):Int):=by rw[bN (by omega) (by omega)];omega
 have hR:yN (s.drop k)=if gI (s.drop k)=true then(s.drop k).take 2 else if jI c=true then[c] else[]:=by rw[hT];rfl
 rw[hR];clear hR;by_cases h2:k+1<s.length
 ·obtain⟨T2,hT2⟩:∃T2,T2=(s.drop k).take 2:=⟨_,rfl⟩;have hp:gI (s.drop k)=[[60,62],[60,61],[62,61]].contains T2:=by rw[hT2];rfl
  rw[hp,<-hT2];refine bI Tryz.func146 rfl ?_;conv=>whnf
  refine gY (c:=decide (IntKind.i64.wrap (((k:Nat):Int)+1)<((s.length:Nat):Int))) (by rw[hw];exact aR (by omega)) ?_;conv=>whnf
  refine⟨fK _,?_⟩;conv=>whnf
  rw[hw2];refine⟨fK _,?_⟩;conv=>whnf
  refine⟨⟨by rw[aD,aD];omega,by rw[aD];omega⟩,T2,by rw[hT2,aD,aD,Nat.add_sub_cancel_left],?_⟩;conv=>whnf
  by_cases n1:T2=[60,62]
  ·rw[n1];(conv=>whnf);exact fin 0
  by_cases n2:T2=[60,61]
  ·rw[n2];(conv=>whnf);exact fin 0
  by_cases n3:T2=[62,61]
  ·rw[n3];(conv=>whnf);exact fin 0
  rw[show(T2==(⟨#[60,62]⟩:ByteArray).data.toList)=false from beq_eq_false_iff_ne.2 n1];conv=>whnf
  rw[show(T2==(⟨#[60,61]⟩:ByteArray).data.toList)=false from beq_eq_false_iff_ne.2 n2];conv=>whnf
  rw[show(T2==(⟨#[62,61]⟩:ByteArray).data.toList)=false from beq_eq_false_iff_ne.2 n3];conv=>whnf
  rw[show[[60,62],[60,61],[62,61]].contains T2=false by simp[n1,n2,n3],aB b4];refine⟨fK _,c,by rw[aD];exact hc,?_⟩;conv=>whnf
  by_cases hsig:jI c=true;rotate_left
  ·rw[aB hsig];have hne:∀x∈[123,125,40,41,59,44,61,60,62,43,45,42,38,46],((c.toNat:Int)==((UInt8.toNat x:Nat):Int))=false:=fun x hx=>by
    rw[cY];intro h;have:c=x:=by apply UInt8.toNat_inj.1;omega
    subst this;exact hsig (by unfold jI;simpa using hx)
   rw[show(((c.toNat:Nat):Int)==123)=false from hne 123 (by decide)];(conv=>whnf);rw[show(((c.toNat:Nat):Int)==125)=false from hne 125 (by decide)];(conv=>whnf);rw[show(((c.toNat:Nat):Int)==59)=false from hne 59 (by decide)];(conv=>whnf);rw[show(((c.toNat:Nat):Int)==44)=false from hne 44 (by decide)];(conv=>whnf);rw[show(((c.toNat:Nat):Int)==40)=false from hne 40 (by decide)];(conv=>whnf);rw[show(((c.toNat:Nat):Int)==41)=false from hne 41 (by decide)];(conv=>whnf);rw[show(((c.toNat:Nat):Int)==61)=false from hne 61 (by decide)];(conv=>whnf);rw[show(((c.toNat:Nat):Int)==60)=false from hne 60 (by decide)];(conv=>whnf);rw[show(((c.toNat:Nat):Int)==62)=false from hne 62 (by decide)];(conv=>whnf);rw[show(((c.toNat:Nat):Int)==43)=false from hne 43 (by decide)];(conv=>whnf);rw[show(((c.toNat:Nat):Int)==45)=false from hne 45 (by decide)];(conv=>whnf);rw[show(((c.toNat:Nat):Int)==38)=false from hne 38 (by decide)];(conv=>whnf);rw[show(((c.toNat:Nat):Int)==42)=false from hne 42 (by decide)];(conv=>whnf);rw[show(((c.toNat:Nat):Int)==46)=false from hne 46 (by decide)];(conv=>whnf);exact fin 0
  rw[aA hsig];have I5:c∈[123,125,40,41,59,44,61,60,62,43,45,42,38,46]:=by unfold jI at hsig;simpa using hsig
  have hone:(s.drop k).take 1=[c]:=by rw[hT];rfl
  simp only[dU,cZ,or_false] at I5;rcases I5 with rfl|rfl|rfl|rfl|rfl|rfl|rfl|rfl|rfl|rfl|rfl|rfl|rfl|rfl;all_goals
   (conv=>whnf);refine⟨fK _,?_⟩;(conv=>whnf);rw[hw];refine⟨fK _,?_⟩;(conv=>whnf);refine⟨⟨by rw[aD,aD];omega,by rw[aD];omega⟩,(s.drop k).take 1,by rw[aD,aD,Nat.add_sub_cancel_left],?_⟩;rw[hone];(conv=>whnf);exact fin 0
 ·have hlast:s.drop (k+1)=[]:=dT (by omega);rw[aB (by rw[hT,hlast];show¬([[60,62],[60,61],[62,61]]:List By).contains [c]=true;simp)];refine bI Tryz.func146 rfl ?_;conv=>whnf
  refine gN (c:=decide (IntKind.i64.wrap (((k:Nat):Int)+1)<((s.length:Nat):Int))) (by rw[hw];exact aQ (by omega)) ?_;conv=>whnf
  refine⟨fK _,c,by rw[aD];exact hc,?_⟩;conv=>whnf
  by_cases hsig:jI c=true;rotate_left
  ·rw[aB hsig];have hne:∀x∈[123,125,40,41,59,44,61,60,62,43,45,42,38,46],((c.toNat:Int)==((UInt8.toNat x:Nat):Int))=false:=fun x hx=>by
    rw[cY];intro h;have:c=x:=by apply UInt8.toNat_inj.1;omega
    subst this;exact hsig (by unfold jI;simpa using hx)
   rw[show(((c.toNat:Nat):Int)==123)=false from hne 123 (by decide)];(conv=>whnf);rw[show(((c.toNat:Nat):Int)==125)=false from hne 125 (by decide)];(conv=>whnf);rw[show(((c.toNat:Nat):Int)==59)=false from hne 59 (by decide)];(conv=>whnf);rw[show(((c.toNat:Nat):Int)==44)=false from hne 44 (by decide)];(conv=>whnf);rw[show(((c.toNat:Nat):Int)==40)=false from hne 40 (by decide)];(conv=>whnf);rw[show(((c.toNat:Nat):Int)==41)=false from hne 41 (by decide)];(conv=>whnf);rw[show(((c.toNat:Nat):Int)==61)=false from hne 61 (by decide)];(conv=>whnf);rw[show(((c.toNat:Nat):Int)==60)=false from hne 60 (by decide)];(conv=>whnf);rw[show(((c.toNat:Nat):Int)==62)=false from hne 62 (by decide)];(conv=>whnf);rw[show(((c.toNat:Nat):Int)==43)=false from hne 43 (by decide)];(conv=>whnf);rw[show(((c.toNat:Nat):Int)==45)=false from hne 45 (by decide)];(conv=>whnf);rw[show(((c.toNat:Nat):Int)==38)=false from hne 38 (by decide)];(conv=>whnf);rw[show(((c.toNat:Nat):Int)==42)=false from hne 42 (by decide)];(conv=>whnf);rw[show(((c.toNat:Nat):Int)==46)=false from hne 46 (by decide)];(conv=>whnf);exact fin 0
  rw[aA hsig];have I5:c∈[123,125,40,41,59,44,61,60,62,43,45,42,38,46]:=by unfold jI at hsig;simpa using hsig
  have hone:(s.drop k).take 1=[c]:=by rw[hT];rfl
  simp only[dU,cZ,or_false] at I5;rcases I5 with rfl|rfl|rfl|rfl|rfl|rfl|rfl|rfl|rfl|rfl|rfl|rfl|rfl|rfl;all_goals
   (conv=>whnf);refine⟨fK _,?_⟩;(conv=>whnf);rw[hw];refine⟨fK _,?_⟩;(conv=>whnf);refine⟨⟨by rw[aD,aD];omega,by rw[aD];omega⟩,(s.drop k).take 1,by rw[aD,aD,Nat.add_sub_cancel_left],?_⟩;rw[hone];(conv=>whnf);exact fin 0
end
