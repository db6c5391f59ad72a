/-
  A part of the proof of SchemaFinds.
-/
import Derived.Test.YtcfgfkkhpdlhpaaGreatDoorT23
set_option linter.all false
set_option maxRecDepth 100000
namespace Go.Proofs.YtcfgfkkhpdlhpaaGreatDoor
open Go.RowKit
def rr:Nat->List UInt8->Option (List Val)
 |0,_=>none
 |f+1,l=>match rv l with
  |none=>none
  |some (v,r)=>if r=[] then some [v] else if r.head?=some 44 then(rr f r.tail).map (v:: ·) else none
def eT (w:List UInt8):Option (List Val):=
 if w=[] then some [] else match rr (w.length+1) w with
 |some vs=>if pK vs&&decide (jM vs=w) then some vs else none
 |none=>none
theorem W4:∀(f:Nat) {l t r:List UInt8},l.length<f->rt l=some (t,r)->r<:+l
 |0,l,_,_,hf,_=>by omega
 |f+1,l,t,r,hf,h=>by
  have step:∀{l':List UInt8} {g:List UInt8->List UInt8},l'.length<f->(rt l').map (fun p=>(g p.1,p.2))=some (t,r)->r<:+l':=fun hl h=>by
   rw[aI] at h;obtain⟨⟨t',r'⟩,h1,h2⟩:=h;cases h2;exact W4 f hl h1
  cases l with
  |nil=>cases h
  |cons c l=>
   simp only[aJ] at hf;by_cases h34:c=34
   ·subst h34;rw[W6] at h;cases h;exact List.suffix_cons _ _
   by_cases h92:c=92
   ·subst h92;cases l with
    |nil=>cases h
    |cons e l=>
     by_cases h120:e=120
     ·subst h120;rcases l with _|⟨a,_|⟨b,l⟩⟩
      ·cases h
      ·cases h
      ·rw[a1S] at h;split at h
       ·simp only[aJ] at hf;have:=step (g:=fun x=>_::x) (by omega) h;exact this.trans ⟨[92,120,a,b],rfl⟩
       ·cases h
     ·rw[W5 h120] at h;simp only[aJ] at hf;have:=step (g:=fun x=>_::x) (by omega) h;exact this.trans ⟨[92,e],rfl⟩
   ·rw[a1T h34 h92] at h;have:=step (g:=fun x=>_::x) (by omega) h;exact this.trans ⟨[c],rfl⟩
theorem W2 {l r:List UInt8} {v:Val} (h:rv l=some (v,r)):r<:+l:=by
 unfold rv at h;split at h
 ·rename_i hd;cases l with
  |nil=>cases hd
  |cons c l=>
   rw[aI] at h;obtain⟨⟨t',r'⟩,h1,h2⟩:=h;cases h2;exact(W4 _ (Nat.lt_succ_self _) h1).trans (List.suffix_cons _ _)
 ·split at h
  ·split at h
   ·cases h;exact List.dropWhile_suffix _
   ·cases h
  ·cases h
def onM (l:List FuncId):FuncId->Bool:=fun k=>!l.contains k
def R8 (s:List UInt8) (n:Nat):List Val->List GObj
 |[]=>[.box 56 [.sl .full []],.box 29 [.i .i64 0],DC s n]
 |v::vs=>[.box 56 [.sl (.own 4) (iQ (v::vs))],.box 29 [.i .i64 0],DC s n,.own 1 3 138,.own (v::vs).length 3 138]
theorem xL (s:List UInt8) (n m:Nat) (vs:List Val):(R8 s n []).length<=(R8 s m vs).length:=by cases vs<;>simp[R8]
theorem WS [MaxL] (s:List UInt8) (n:Nat) (vs:List Val):(R8 s n vs).all GObj.notHeld=true:=by cases vs<;>rfl
theorem ZS [MaxL] (s:List UInt8) (n:Nat) (vs:List Val) {e:Nat->Nat} (he:∀i,i<(R8 s n vs).length->e i=i):(R8 s n vs).map (GObj.ren e)=R8 s n vs:=by
 cases vs with
 |nil=>rfl
 |cons v vs=>
  show[GObj.box _ [(GV.sl (.own 4) (iQ (v::vs))).ren e],_,_,_,_]=_;rw[pP (he 4 (by simp[R8])) (jJ _)];rfl
theorem CO {s:List UInt8} {vs:List Val} (hs:s≠[]) (hr:rr (s.length+1) s=some vs) (h:pK vs=false∨¬jM vs=s):eT s=none:=by
 unfold eT;rw[aE hs,hr];rcases h with h|h<;>simp[h]
theorem zY {s:List UInt8} {vs:List Val} (hs:s≠[]) (hr:rr (s.length+1) s=some vs) (h:pK vs=true) (h':jM vs=s):eT s=some vs:=by
 unfold eT;rw[aE hs,hr];simp[h,h']
theorem wD [MaxL] {g g':GV} {r0:GRes} {σ0:GS} (h:r0=.val g) (hw:Wk g g') (hc:Cl g'):Owes [] (.val g') [] r0 σ0:=by
 subst h;exact bA hw hc
theorem sX [MaxL] {a a' b b':GV} (h:Wk a a') (h':Wk b b'):Wk (.tup [a,b]) (.tup [a',b']):=fun C v hv=>by
 cases hv with
 |tup hl hv=>
 refine .tup hl (fun j g u h1 h2=>?_);rcases j with _|_|j
 ·simp at h1;subst h1;exact h C _ (hv 0 a u rfl h2)
 ·simp at h1;subst h1;exact h' C _ (hv 1 b u rfl h2)
 ·simp at h1
theorem uG [MaxL] {k:IntKind} {n:Int}:Wk (.tup [.sl .full [],.i k n]) (.tup [.sl .none [],.i k n]):=sX (bE _ _) (.refl _)
theorem yH [MaxL] {k:IntKind} {n:Int}:Cl (.tup [.sl .none [],.i k n]):=fJ (.cons (bV dM) (.cons (.i _ _) .nil))
theorem V7 (vs:List Val):(iQ vs).all (fun x=>x.cells.length==3)=true:=by
 rw[aS];intro x hx;obtain⟨v,_,rfl⟩:=List.mem_map.1 hx;rfl
set_option maxHeartbeats 2000000 in
theorem a0Z [MaxL] (s:List UInt8) (hs:s.length<1000000):SC Tryz.prog 347 [.s s] [] (.val (if 20000<s.length then .tup [.sl .none [],.i .i64 3] else match eT s with|some vs=>.tup [.sl .none (iQ vs),.i .i64 0]|none=>.tup [.sl .none [],.i .i64 2])) []:=by
 refine cH (onM [356]) mixed Tryz.func347 rfl (bL rfl) (rL _) rfl ?_;conv=>whnf
 refine aF (fun h=>?_) (fun h=>?_)<;>conv=>whnf
 ·have:20000<s.length:=by simp at h;omega
  rw[aG this];refine⟨_,⟨rfl,zL _,rfl,bL rfl⟩,?_⟩;conv=>whnf
  refine⟨_,⟨rfl,zL _,rfl,bL rfl⟩,?_⟩;conv=>whnf
  exact DU (bE _ _) (.refl _) (bV dM) (.i _ _)
 rw[aE (by simp at h;omega)];generalize hO:(match eT s with|some vs=>GV.tup [.sl .none (iQ vs),.i .i64 0]|none=>.tup [.sl .none [],.i .i64 2])=O;generalize hR:rr (s.length+1) s=R;refine fI (fun q:Nat×Nat×List Val=>q.2.1<=s.length/\s.length - q.2.1<q.1/\q.2.2.length<=q.2.1/\(rr q.1 (s.drop q.2.1)).map (fun x=>q.2.2++x)=R)
  (fun q=>[(0,.s s),(2,.ptr 0 0),(3,.ptr 1 0),(4,.ptr 2 0)]) (fun q=>⟨R8 s q.2.1 q.2.2,0,[.fn 355 [] [.ptr 0 0,.ptr 1 0]]⟩) (fun q=>q.1) (s.length+1,0,[]) ⟨zL _,by simp,by simp,?_⟩ ⟨rfl,rfl,rfl,rfl,trivial⟩ rfl ?_ ?_ ?_ (fun q φ0 hq=>?_)
 ·rw[<-hR];cases h:rr (s.length+1) (s.drop 0)<;>(rw[List.drop_zero] at h;simp[h])
 ·intro q _;exact xL s 0 q.2.1 q.2.2
 ·intro q _;exact WS s q.2.1 q.2.2
 ·intro q _ e he;refine⟨ZS s q.2.1 q.2.2 he,?_,?_⟩
  ·show[GDef.fn _ [] [.ptr (e 0) 0,.ptr (e 1) 0]]=_;rw[he 0 (cT (by simp[R8]) (xL s 0 q.2.1 q.2.2)),he 1 (cT (by simp[R8]) (xL s 0 q.2.1 q.2.2))]
  ·show[GV.s s,.ptr (e 0) 0,.ptr (e 1) 0,.ptr (e 2) 0]=_;rw[he 0 (cT (by simp[R8]) (xL s 0 q.2.1 q.2.2)),he 1 (cT (by simp[R8]) (xL s 0 q.2.1 q.2.2)),he 2 (cT (by simp[R8]) (xL s 0 q.2.1 q.2.2))];rfl
 obtain⟨f,n,vs⟩:=q;obtain⟨hn,hf,hv,hq⟩:=hq;replace hn:n<=s.length:=hn;replace hf:s.length - n<f:=hf;replace hv:vs.length<=n:=hv;replace hq:(rr f (s.drop n)).map (fun x=>vs++x)=R:=hq;obtain⟨f,rfl⟩:∃g,f=g+1:=⟨f - 1,by omega⟩;have hval:=a0O s n hn hs;cases vs with
 |nil=>
  conv=>whnf
  refine aF (fun hne=>?_) (fun hne=>?_)<;>conv=>whnf
  ·have hs0:s≠[]:=by simpa using hne
   cases hrv:rv (s.drop n) with
   |none=>
    rw[hrv] at hval;have hR0:R=none:=by rw[<-hq];simp[rr,hrv]
    have hpr:eT s=none:=by unfold eT;rw[aE hs0,hR,hR0]
    have hpp:=hpr;have hOO:GV.tup [.sl .none [],.i .i64 2]=O:=by rw[<-hO,hpp]
    cases hOO;refine GDraw.pan 2 _ rfl (by kernel_rfl) ?_;(conv=>whnf);refine m5 (q:=2) hval rfl (by first|exact wR _|exact wC (bE _ _) (wR _)|exact wC (bE _ _) (wC (bE _ _) (wR _))|exact wC (cY _) (wC (bE _ _) (wR _))) rfl rfl (by first|exact fun _=>rfl|exact cA|exact cB fun _=>rfl) (by first|exact fun _=>rfl|exact cA|exact cB fun _=>rfl) (by first|exact fun _=>rfl|exact cA|exact cB fun _=>rfl) ?_;(conv=>whnf);refine wD (g:=.tup [.sl .full [],.i .i64 2]) ?_ ?_ ?_
    ·kernel_rfl
    ·exact uG
    ·exact yH
   |some p=>
    rw[hrv] at hval;refine GDraw.wild _ _ _ rfl rfl rfl (by kernel_rfl) ?_;(conv=>whnf);obtain⟨v,r⟩:=p;have hsuf:=W2 hrv;have hrl:r.length<=s.length - n:=by simpa using hsuf.length_le
    have hrd:r=s.drop (s.length - r.length):=List.suffix_iff_eq_drop.1 (hsuf.trans (List.drop_suffix n s));refine rQ (q:=2) hval ?_;(conv=>whnf);refine⟨⟨rfl,rfl,bL rfl⟩,iQ [v],1,⟨rfl,rfl⟩,?_⟩;(conv=>whnf);refine⟨_,⟨rfl,zL _,rfl,bL rfl⟩,?_⟩;(conv=>whnf);refine aF (fun he=>?_) (fun he=>?_)<;>conv=>whnf
    ·have hr0:r=[]:=by
      have:s.length - r.length=s.length:=by have h5:=eq_of_beq he;exact Int.ofNat.inj h5
      have h6:=List.length_pos_iff.2 hs0;exact aN (by omega)
     have hR0:R=some ([v]):=by rw[<-hq];simp[rr,hrv,hr0]
     have hpn:=fun h=>CO (vs:=[v]) hs0 (hR.trans hR0) h;have hpy:=fun h h'=>zY (vs:=[v]) hs0 (hR.trans hR0) h h';have hb:([v]).length<bH:=by show 1<bH;decide
     refine bG (vK ([v]) hb) (wC (bE _ _) jL) rfl (cC (bV (jJ _)) dM) (.b _) ?_;(conv=>whnf);cases hrow:pK ([v]) with
     |false=>
      have hpp:=hpn (.inl hrow);have hOO:GV.tup [.sl .none [],.i .i64 2]=O:=by rw[<-hO,hpp]
      cases hOO;(conv=>whnf);refine wD (g:=.tup [.sl .full [],.i .i64 2]) ?_ ?_ ?_
      ·kernel_rfl
      ·exact uG
      ·exact yH
     |true=>
      (conv=>whnf);obtain⟨T,hT⟩:∃T,T=jM ([v]):=⟨_,rfl⟩;have hIT:SC Tryz.prog 301 [.sl .none (iQ ([v]))] [] (.val (.s T)) []:=by
       have:=vL ([v]) hb;rw[hrow] at this;rw[hT];exact this
      refine bG hIT (wC (bE _ _) jL) rfl (cC (bV (jJ _)) dM) (.s _) ?_;(conv=>whnf);refine aF (fun htx=>?_) (fun htx=>?_)<;>conv=>whnf
      ·have hne':¬jM ([v])=s:=by rw[<-hT];simpa using htx
       have hpp:=hpn (.inr hne');have hOO:GV.tup [.sl .none [],.i .i64 2]=O:=by rw[<-hO,hpp]
       cases hOO;refine wD (g:=.tup [.sl .full [],.i .i64 2]) ?_ ?_ ?_
       ·kernel_rfl
       ·exact uG
       ·exact yH
      ·have he':jM ([v])=s:=by rw[<-hT];simpa using htx
       have hpp:=hpy hrow he';have hOO:GV.tup [.sl .none (iQ ([v])),.i .i64 0]=O:=by rw[<-hO,hpp]
       cases hOO;refine⟨_,⟨rfl,zL _,rfl,bL rfl⟩,?_⟩;(conv=>whnf);refine⟨_,⟨rfl,zL _,rfl,bL rfl⟩,?_⟩;(conv=>whnf);exact DU (bE _ _) (.refl _) (bV (jJ _)) (.i _ _)
    ·have hr0:r≠[]:=fun e=>by
      subst e;simp at he
     have hm:s.length<bH:=by unfold bH;omega
     refine rQ (q:=2) (xB s (s.length - r.length) hm) ?_;(conv=>whnf);have hget:s.getD (s.length - r.length) 0=r.headD 0:=by
      rw[aO];conv=>rhs;rw[hrd]
      rw[List.headD_eq_head?_getD,List.head?_drop]
     rw[hget];obtain⟨c,r',rfl⟩:=cV hr0;refine aF (fun h44=>?_) (fun h44=>?_)<;>conv=>whnf
     ·have h44':c≠44:=nD (d:=44) h44;have hR0:R=none:=by rw[<-hq];simp[rr,hrv,h44']
      have hpr:eT s=none:=by unfold eT;rw[aE hs0,hR,hR0]
      have hpp:=hpr;have hOO:GV.tup [.sl .none [],.i .i64 2]=O:=by rw[<-hO,hpp]
      cases hOO;refine wD (g:=.tup [.sl .full [],.i .i64 2]) ?_ ?_ ?_
      ·kernel_rfl
      ·exact uG
      ·exact yH
     ·have h44':c=44:=mD (d:=44) h44;refine⟨[.i .i64 (s.length - (c::r').length+1:Nat)],⟨kH (by omega),zL _,rfl,bL rfl⟩,?_⟩;(conv=>whnf);refine⟨f,Nat.lt_succ_self f,(f,s.length - (c::r').length+1,[v]),⟨?_,?_,?_,?_⟩,rfl,⟨rfl,rfl,rfl,rfl,trivial⟩,_,rfl,rfl⟩
      ·show _<=_;simp at hrl⊢;try omega
      ·show _ - _<_;simp at hrl⊢;try omega
      ·show(_:List Val).length<=_;simp at hrl hv⊢;try omega
      ·show(rr f (s.drop (s.length - (c::r').length+1))).map _=R;have e:s.drop (s.length - (c::r').length+1)=r':=by rw[<-j8,<-hrd];rfl
       rw[e,<-hq];simp[rr,hrv,h44',cU]
  ·have hs0:s=[]:=by simpa using hne
   have hpn:pK []=false∨¬jM []=s->eT s=none:=fun h=>h.elim (fun h=>by cases h) (fun h=>by subst hs0;exact absurd rfl h);have hpy:pK []=true->jM []=s->eT s=some []:=fun _ _=>by subst hs0;rfl
   have hb:(([]:List Val)).length<bH:=by decide
   refine bG (vK (([]:List Val)) hb) (wC (bE _ _) jL) rfl (cC (bV (jJ _)) dM) (.b _) ?_;(conv=>whnf);have hrow:pK ([]:List Val)=true:=rfl;obtain⟨T,hT⟩:∃T,T=jM (([]:List Val)):=⟨_,rfl⟩;have hIT:SC Tryz.prog 301 [.sl .none (iQ (([]:List Val)))] [] (.val (.s T)) []:=by
    have:=vL (([]:List Val)) hb;rw[hrow] at this;rw[hT];exact this
   refine bG hIT (wC (bE _ _) jL) rfl (cC (bV (jJ _)) dM) (.s _) ?_;(conv=>whnf);refine aF (fun htx=>?_) (fun htx=>?_)<;>conv=>whnf
   ·have hne':¬jM (([]:List Val))=s:=by rw[<-hT];simpa using htx
    have hpp:=hpn (.inr hne');have hOO:GV.tup [.sl .none [],.i .i64 2]=O:=by rw[<-hO,hpp]
    cases hOO;refine wD (g:=.tup [.sl .full [],.i .i64 2]) ?_ ?_ ?_
    ·kernel_rfl
    ·exact uG
    ·exact yH
   ·have he':jM (([]:List Val))=s:=by rw[<-hT];simpa using htx
    have hpp:=hpy hrow he';have hOO:GV.tup [.sl .none (iQ (([]:List Val))),.i .i64 0]=O:=by rw[<-hO,hpp]
    cases hOO;refine⟨_,⟨rfl,zL _,rfl,bL rfl⟩,?_⟩;(conv=>whnf);refine⟨_,⟨rfl,zL _,rfl,bL rfl⟩,?_⟩;(conv=>whnf);exact DU (bE _ _) (.refl _) (bV (jJ _)) (.i _ _)
 |cons v0 vs=>
  conv=>whnf
  refine aF (fun hne=>?_) (fun hne=>?_)<;>conv=>whnf
  ·have hs0:s≠[]:=by simpa using hne
   cases hrv:rv (s.drop n) with
   |none=>
    rw[hrv] at hval;have hR0:R=none:=by rw[<-hq];simp[rr,hrv]
    have hpr:eT s=none:=by unfold eT;rw[aE hs0,hR,hR0]
    have hpp:=hpr;have hOO:GV.tup [.sl .none [],.i .i64 2]=O:=by rw[<-hO,hpp]
    cases hOO;refine GDraw.pan 2 _ rfl (by kernel_rfl) ?_;(conv=>whnf);refine m5 (q:=2) hval rfl (by first|exact wR _|exact wC (bE _ _) (wR _)|exact wC (bE _ _) (wC (bE _ _) (wR _))|exact wC (cY _) (wC (bE _ _) (wR _))) rfl rfl (by first|exact fun _=>rfl|exact cA|exact cB fun _=>rfl) (by first|exact fun _=>rfl|exact cA|exact cB fun _=>rfl) (by first|exact fun _=>rfl|exact cA|exact cB fun _=>rfl) ?_;(conv=>whnf);refine wD (g:=.tup [.sl .full [],.i .i64 2]) ?_ ?_ ?_
    ·kernel_rfl
    ·exact uG
    ·exact yH
   |some p=>
    rw[hrv] at hval;refine GDraw.wild _ _ _ rfl rfl rfl (by kernel_rfl) ?_;(conv=>whnf);obtain⟨v,r⟩:=p;have hsuf:=W2 hrv;have hrl:r.length<=s.length - n:=by simpa using hsuf.length_le
    have hrd:r=s.drop (s.length - r.length):=List.suffix_iff_eq_drop.1 (hsuf.trans (List.drop_suffix n s));refine rQ (q:=2) hval ?_;(conv=>whnf);refine⟨⟨rfl,V7 _,?_⟩,iQ (v0::vs++[v]),(v0::vs++[v]).length,⟨by simp[iQ];rfl,by simp[iQ]⟩,?_⟩
    ·show(iQ (v0::vs)).length+1<=4294967296;simp[iQ] at hv⊢;omega
    (conv=>whnf);refine⟨⟨zL _,by simp[iQ],.inl ⟨rfl,rfl⟩⟩,?_⟩;(conv=>whnf);refine⟨_,⟨rfl,zL _,rfl,bL rfl⟩,?_⟩;(conv=>whnf);refine aF (fun he=>?_) (fun he=>?_)<;>conv=>whnf
    ·have hr0:r=[]:=by
      have:s.length - r.length=s.length:=by have h5:=eq_of_beq he;exact Int.ofNat.inj h5
      have h6:=List.length_pos_iff.2 hs0;exact aN (by omega)
     have hR0:R=some (v0::vs++[v]):=by rw[<-hq];simp[rr,hrv,hr0]
     have hpn:=fun h=>CO (vs:=v0::vs++[v]) hs0 (hR.trans hR0) h;have hpy:=fun h h'=>zY (vs:=v0::vs++[v]) hs0 (hR.trans hR0) h h';have hb:(v0::vs++[v]).length<bH:=by have h9:=hv;simp at h9;unfold bH;simp;omega
     refine bG (vK (v0::vs++[v]) hb) (wC (bE _ _) jL) rfl (cC (bV (jJ _)) dM) (.b _) ?_;(conv=>whnf);cases hrow:pK (v0::vs++[v]) with
     |false=>
      have hpp:=hpn (.inl hrow);have hOO:GV.tup [.sl .none [],.i .i64 2]=O:=by rw[<-hO,hpp]
      cases hOO;(conv=>whnf);refine wD (g:=.tup [.sl .full [],.i .i64 2]) ?_ ?_ ?_
      ·kernel_rfl
      ·exact uG
      ·exact yH
     |true=>
      (conv=>whnf);obtain⟨T,hT⟩:∃T,T=jM (v0::vs++[v]):=⟨_,rfl⟩;have hIT:SC Tryz.prog 301 [.sl .none (iQ (v0::vs++[v]))] [] (.val (.s T)) []:=by
       have:=vL (v0::vs++[v]) hb;rw[hrow] at this;rw[hT];exact this
      refine bG hIT (wC (bE _ _) jL) rfl (cC (bV (jJ _)) dM) (.s _) ?_;(conv=>whnf);refine aF (fun htx=>?_) (fun htx=>?_)<;>conv=>whnf
      ·have hne':¬jM (v0::vs++[v])=s:=by rw[<-hT];simpa using htx
       have hpp:=hpn (.inr hne');have hOO:GV.tup [.sl .none [],.i .i64 2]=O:=by rw[<-hO,hpp]
       cases hOO;refine wD (g:=.tup [.sl .full [],.i .i64 2]) ?_ ?_ ?_
       ·kernel_rfl
       ·exact uG
       ·exact yH
      ·have he':jM (v0::vs++[v])=s:=by rw[<-hT];simpa using htx
       have hpp:=hpy hrow he';have hOO:GV.tup [.sl .none (iQ (v0::vs++[v])),.i .i64 0]=O:=by rw[<-hO,hpp]
       cases hOO;refine⟨_,⟨rfl,zL _,rfl,bL rfl⟩,?_⟩;(conv=>whnf);refine⟨_,⟨rfl,zL _,rfl,bL rfl⟩,?_⟩;(conv=>whnf);exact DU (bE _ _) (.refl _) (bV (jJ _)) (.i _ _)
    ·have hr0:r≠[]:=fun e=>by
      subst e;simp at he
     have hm:s.length<bH:=by unfold bH;omega
     refine rQ (q:=2) (xB s (s.length - r.length) hm) ?_;(conv=>whnf);have hget:s.getD (s.length - r.length) 0=r.headD 0:=by
      rw[aO];conv=>rhs;rw[hrd]
      rw[List.headD_eq_head?_getD,List.head?_drop]
     rw[hget];obtain⟨c,r',rfl⟩:=cV hr0;refine aF (fun h44=>?_) (fun h44=>?_)<;>conv=>whnf
     ·have h44':c≠44:=nD (d:=44) h44;have hR0:R=none:=by rw[<-hq];simp[rr,hrv,h44']
      have hpr:eT s=none:=by unfold eT;rw[aE hs0,hR,hR0]
      have hpp:=hpr;have hOO:GV.tup [.sl .none [],.i .i64 2]=O:=by rw[<-hO,hpp]
      cases hOO;refine wD (g:=.tup [.sl .full [],.i .i64 2]) ?_ ?_ ?_
      ·kernel_rfl
      ·exact uG
      ·exact yH
     ·have h44':c=44:=mD (d:=44) h44;refine⟨[.i .i64 (s.length - (c::r').length+1:Nat)],⟨kH (by omega),zL _,rfl,bL rfl⟩,?_⟩;(conv=>whnf);refine⟨f,Nat.lt_succ_self f,(f,s.length - (c::r').length+1,v0::vs++[v]),⟨?_,?_,?_,?_⟩,rfl,⟨rfl,rfl,rfl,rfl,trivial⟩,_,rfl,rfl⟩
      ·show _<=_;simp at hrl⊢;try omega
      ·show _ - _<_;simp at hrl⊢;try omega
      ·show(_:List Val).length<=_;simp at hrl hv⊢;try omega
      ·show(rr f (s.drop (s.length - (c::r').length+1))).map _=R;have e:s.drop (s.length - (c::r').length+1)=r':=by rw[<-j8,<-hrd];rfl
       rw[e,<-hq];simp[rr,hrv,h44',cU]
  ·exfalso;have hs0:s=[]:=by simpa using hne
   subst hs0;simp at hn hv;omega
theorem MF [MaxL] {x:GObj} {objs:List GObj} (hx:x.ren (iT [] objs.length)=x):iI [] [x] objs=objs++[x]:=by
 apply dS;intro r;rw[iR (fun k h=>by simp at h) (by simp)];unfold gX;by_cases hr:r<objs.length
 ·rw[aG hr,aT hr];rfl
 ·rw[aE hr,bF (by omega)];show(([x]:List GObj)[0+(r - objs.length)]?).map _=_;rw[bB];cases h:r - objs.length with
  |zero=>simp[hx]
  |succ j=>rfl
theorem sS [MaxL] {P:Program} {M:FuncId->Bool} {k:FuncId} {a args:List GV} {es:List (GV×GV)} {σ:GS} {K:GRes->GS->Prop} (h:SC P k a [] (.val (.mp 0)) [.mp es]) (hw:Wks args a) (hlo:σ.lo=0)
  (hM:M k=false) (ha:ClL a) (hes:∀f,(GObj.mp es).ren f=.mp es) (hk:BU (σ.objs++[.mp es]) fun l=>K (.val (.mp σ.objs.length)) ⟨l,σ.lo,σ.ds⟩):iU P M (.fn k) args σ K:=by
 have hf:=h.fact (σ:=σ) (args':=args) [] Lies.nil hlo (by rw[ha];exact hw);rw[MF (hes _)] at hf;rw[show(GRes.val (.mp 0)).ren (iT [] σ.objs.length)=.val (.mp σ.objs.length) from by show GRes.val (.mp (iT [] σ.objs.length 0))=_;simp[iT]] at hf;exact⟨_,_,hf,(fun k' e hk'=>by cases e;rw[hM] at hk';cases hk'),xQ (K:=fun l=>K (.val (.mp σ.objs.length)) ⟨l,σ.lo,σ.ds⟩) hk⟩
def xK:List (GV×GV):=[(.s [116,114,117,101],.fn (.func 343) [] []),(.s [102,97,108,115,101],.fn (.func 344) [] []),(.s [40],.fn (.func 345) [] [])]
def OY:List (GV×GV):=[(.s [61],.fn (.func 348) [] []),(.s [60,62],.fn (.func 349) [] []),(.s [60],.fn (.func 350) [] []),(.s [60,61],.fn (.func 351) [] []),(.s [62],.fn (.func 352) [] []),(.s [62,61],.fn (.func 353) [] [])]
theorem WT [MaxL] {es:List (GV×GV)} {lo:Nat} {ds:List GDef} (hes:∀f,(GObj.mp es).ren f=.mp es):
  Owes [] (.val (.mp 0)) [.mp es] (.val (.mp 0)) ⟨[.mp es],lo,ds⟩:=by
 refine⟨[0],Lies.one rfl hes (by simp),fun i hi=>absurd hi (cM i),?_⟩;have:iT [0] 1 0=0:=kF (by simp);show Wk (.mp 0) (.mp (iT [0] 1 0));rw[this];exact .refl _
theorem kR [MaxL] (f:Nat->Nat):(GObj.mp xK).ren f=.mp xK:=rfl
theorem zV [MaxL] (f:Nat->Nat):(GObj.mp OY).ren f=.mp OY:=rfl
theorem oA [MaxL]:SC Tryz.prog 336 [] [] (.val (.mp 0)) [.mp xK]:=by
 refine cZ Tryz.func336 rfl ?_;conv=>whnf
 refine⟨rL _,none,rfl,?_⟩;conv=>whnf
 refine⟨rL _,none,rfl,?_⟩;conv=>whnf
 refine⟨rL _,none,rfl,?_⟩;conv=>whnf
 exact WT (es:=xK) kR
theorem xA [MaxL]:SC Tryz.prog 338 [] [] (.val (.mp 0)) [.mp OY]:=by
 refine cZ Tryz.func338 rfl ?_;conv=>whnf
 refine⟨rL _,none,rfl,?_⟩;conv=>whnf
 refine⟨rL _,none,rfl,?_⟩;conv=>whnf
 refine⟨rL _,none,rfl,?_⟩;conv=>whnf
 refine⟨rL _,none,rfl,?_⟩;conv=>whnf
 refine⟨rL _,none,rfl,?_⟩;conv=>whnf
 refine⟨rL _,none,rfl,?_⟩;conv=>whnf
 exact WT (es:=OY) zV
