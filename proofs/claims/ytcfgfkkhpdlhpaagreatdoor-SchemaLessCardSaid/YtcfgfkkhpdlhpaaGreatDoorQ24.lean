/-
  A part of the proof of SchemaLess.
-/
import Derived.Test.YtcfgfkkhpdlhpaaGreatDoorQ23
set_option linter.all false
namespace Go.Proofs.YtcfgfkkhpdlhpaaGreatDoor
open Go.RowKit
set_option maxRecDepth 100000
set_option linter.unusedVariables false
def rr:Nat->List UInt8->Option (List Val)
 |0,_=>none
 |f+1,l=>match rv l with
  |none=>none
  |some (v,r)=>if r=[] then some [v] else if r.head?=some 44 then(rr f r.tail).map (v:: ·) else none
def parseRow (w:List UInt8):Option (List Val):=
 if w=[] then some [] else match rr (w.length+1) w with
 |some vs=>if rowOk vs&&decide (rowText vs=w) then some vs else none
 |none=>none
theorem rt_suf:∀(f:Nat) {l t r:List UInt8},l.length<f->rt l=some (t,r)->r<:+l
 |0,l,_,_,hf,_=>by omega
 |f+1,l,t,r,hf,h=>by
  have step:∀{l':List UInt8} {g:List UInt8->List UInt8},l'.length<f->(rt l').map (fun p=>(g p.1,p.2))=some (t,r)->r<:+l':=fun hl h=>by
   rw[Option.map_eq_some_iff] at h
   obtain⟨⟨t',r'⟩,h1,h2⟩:=h
   cases h2
   exact rt_suf f hl h1
  cases l with
  |nil=>cases h
  |cons c l=>
   simp only[List.length_cons] at hf
   by_cases h34:c=34
   ·subst h34;rw[rt_34] at h;cases h;exact List.suffix_cons _ _
   by_cases h92:c=92
   ·subst h92
    cases l with
    |nil=>cases h
    |cons e l=>
     by_cases h120:e=120
     ·subst h120
      rcases l with _|⟨a,_|⟨b,l⟩⟩
      ·cases h
      ·cases h
      ·rw[rt_x] at h
       split at h
       ·simp only[List.length_cons] at hf
        have:=step (g:=fun x=>_::x) (by omega) h
        exact this.trans ⟨[92,120,a,b],rfl⟩
       ·cases h
     ·rw[rt_92 h120] at h
      simp only[List.length_cons] at hf
      have:=step (g:=fun x=>_::x) (by omega) h
      exact this.trans ⟨[92,e],rfl⟩
   ·rw[rt_c h34 h92] at h
    have:=step (g:=fun x=>_::x) (by omega) h
    exact this.trans ⟨[c],rfl⟩
theorem rv_suf {l r:List UInt8} {v:Val} (h:rv l=some (v,r)):r<:+l:=by
 unfold rv at h
 split at h
 ·rename_i hd
  cases l with
  |nil=>cases hd
  |cons c l=>
   rw[Option.map_eq_some_iff] at h
   obtain⟨⟨t',r'⟩,h1,h2⟩:=h
   cases h2
   exact(rt_suf _ (Nat.lt_succ_self _) h1).trans (List.suffix_cons _ _)
 ·split at h
  ·split at h
   ·cases h;exact List.dropWhile_suffix _
   ·cases h
  ·cases h
def onM (l:List FuncId):FuncId->Bool:=fun k=>!l.contains k
def prO (s:List UInt8) (n:Nat):List Val->List GObj
 |[]=>[.box 56 [.sl .full []],.box 29 [.i .i64 0],rdI s n]
 |v::vs=>[.box 56 [.sl (.own 4) (valsG (v::vs))],.box 29 [.i .i64 0],rdI s n,.own 1 3 138,.own (v::vs).length 3 138]
theorem prO_len (s:List UInt8) (n m:Nat) (vs:List Val):(prO s n []).length<=(prO s m vs).length:=by cases vs<;>simp[prO]
theorem prO_held [MaxL] (s:List UInt8) (n:Nat) (vs:List Val):(prO s n vs).all GObj.notHeld=true:=by cases vs<;>rfl
theorem prO_ren [MaxL] (s:List UInt8) (n:Nat) (vs:List Val) {e:Nat->Nat} (he:∀i,i<(prO s n vs).length->e i=i):(prO s n vs).map (GObj.ren e)=prO s n vs:=by
 cases vs with
 |nil=>rfl
 |cons v vs=>
  show[GObj.box _ [(GV.sl (.own 4) (valsG (v::vs))).ren e],_,_,_,_]=_
  rw[ren_own (he 4 (by simp[prO])) (valsG_cl _)];rfl
theorem parseRow_no {s:List UInt8} {vs:List Val} (hs:s≠[]) (hr:rr (s.length+1) s=some vs) (h:rowOk vs=false∨¬rowText vs=s):parseRow s=none:=by
 unfold parseRow
 rw[if_neg hs,hr]
 rcases h with h|h<;>simp[h]
theorem parseRow_yes {s:List UInt8} {vs:List Val} (hs:s≠[]) (hr:rr (s.length+1) s=some vs) (h:rowOk vs=true) (h':rowText vs=s):parseRow s=some vs:=by
 unfold parseRow
 rw[if_neg hs,hr]
 simp[h,h']
theorem owes0 [MaxL] {g g':GV} {r0:GRes} {σ0:GS} (h:r0=.val g) (hw:Wk g g') (hc:Cl g'):Owes [] (.val g') [] r0 σ0:=by
 subst h;exact owes_wk hw hc
theorem wk_t2 [MaxL] {a a' b b':GV} (h:Wk a a') (h':Wk b b'):Wk (.tup [a,b]) (.tup [a',b']):=fun C v hv=>by
 cases hv with
 |tup hl hv=>
 refine .tup hl (fun j g u h1 h2=>?_)
 rcases j with _|_|j
 ·simp at h1;subst h1;exact h C _ (hv 0 a u rfl h2)
 ·simp at h1;subst h1;exact h' C _ (hv 1 b u rfl h2)
 ·simp at h1
theorem wk_pan [MaxL] {k:IntKind} {n:Int}:Wk (.tup [.sl .full [],.i k n]) (.tup [.sl .none [],.i k n]):=wk_t2 (Wk.sl _ _) (.refl _)
theorem clPan [MaxL] {k:IntKind} {n:Int}:Cl (.tup [.sl .none [],.i k n]):=Cl.tup (.cons (Cl.sl ClL.nil) (.cons (.i _ _) .nil))
theorem valsG_ok (vs:List Val):(valsG vs).all (fun x=>x.cells.length==3)=true:=by
 rw[List.all_eq_true];intro x hx
 obtain⟨v,_,rfl⟩:=List.mem_map.1 hx
 rfl
set_option maxHeartbeats 2000000 in
theorem c_Parse [MaxL] (s:List UInt8) (hs:s.length<1000000):SC Tryz.prog 347 [.s s] [] (.val (if 20000<s.length then .tup [.sl .none [],.i .i64 3] else match parseRow s with|some vs=>.tup [.sl .none (valsG vs),.i .i64 0]|none=>.tup [.sl .none [],.i .i64 2])) []:=by
 refine SC.of_gwp (onM [356]) mixed Tryz.func347 rfl (bL rfl) (rL _) rfl ?_
 conv=>whnf
 refine GIf.mk (fun h=>?_) (fun h=>?_)<;>conv=>whnf
 ·have:20000<s.length:=by simp at h;omega
  rw[if_pos this]
  refine⟨_,⟨rfl,zL _,rfl,bL rfl⟩,?_⟩
  conv=>whnf
  refine⟨_,⟨rfl,zL _,rfl,bL rfl⟩,?_⟩
  conv=>whnf
  exact owes_t2 (Wk.sl _ _) (.refl _) (Cl.sl ClL.nil) (.i _ _)
 rw[if_neg (by simp at h;omega)]
 generalize hO:(match parseRow s with|some vs=>GV.tup [.sl .none (valsG vs),.i .i64 0]|none=>.tup [.sl .none [],.i .i64 2])=O
 generalize hR:rr (s.length+1) s=R
 refine GLoop.introS (fun q:Nat×Nat×List Val=>q.2.1<=s.length/\s.length - q.2.1<q.1/\q.2.2.length<=q.2.1/\(rr q.1 (s.drop q.2.1)).map (fun x=>q.2.2++x)=R)
  (fun q=>[(0,.s s),(2,.ptr 0 0),(3,.ptr 1 0),(4,.ptr 2 0)]) (fun q=>⟨prO s q.2.1 q.2.2,0,[.fn 355 [] [.ptr 0 0,.ptr 1 0]]⟩) (fun q=>q.1) (s.length+1,0,[]) ⟨zL _,by simp,by simp,?_⟩ ⟨rfl,rfl,rfl,rfl,trivial⟩ rfl ?_ ?_ ?_ (fun q φ0 hq=>?_)
 ·rw[<-hR];cases h:rr (s.length+1) (s.drop 0)<;>(rw[List.drop_zero] at h;simp[h])
 ·intro q _;exact prO_len s 0 q.2.1 q.2.2
 ·intro q _;exact prO_held s q.2.1 q.2.2
 ·intro q _ e he
  refine⟨prO_ren s q.2.1 q.2.2 he,?_,?_⟩
  ·show[GDef.fn _ [] [.ptr (e 0) 0,.ptr (e 1) 0]]=_
   rw[he 0 (Nat.lt_of_lt_of_le (by simp[prO]) (prO_len s 0 q.2.1 q.2.2)),he 1 (Nat.lt_of_lt_of_le (by simp[prO]) (prO_len s 0 q.2.1 q.2.2))]
  ·show[GV.s s,.ptr (e 0) 0,.ptr (e 1) 0,.ptr (e 2) 0]=_
   rw[he 0 (Nat.lt_of_lt_of_le (by simp[prO]) (prO_len s 0 q.2.1 q.2.2)),he 1 (Nat.lt_of_lt_of_le (by simp[prO]) (prO_len s 0 q.2.1 q.2.2)),he 2 (Nat.lt_of_lt_of_le (by simp[prO]) (prO_len s 0 q.2.1 q.2.2))]
   rfl
 obtain⟨f,n,vs⟩:=q
 obtain⟨hn,hf,hv,hq⟩:=hq
 replace hn:n<=s.length:=hn
 replace hf:s.length - n<f:=hf
 replace hv:vs.length<=n:=hv
 replace hq:(rr f (s.drop n)).map (fun x=>vs++x)=R:=hq
 obtain⟨f,rfl⟩:∃g,f=g+1:=⟨f - 1,by omega⟩
 have hval:=c_value s n hn hs
 cases vs with
 |nil=>
  conv=>whnf
  refine GIf.mk (fun hne=>?_) (fun hne=>?_)<;>conv=>whnf
  ·have hs0:s≠[]:=by simpa using hne
   cases hrv:rv (s.drop n) with
   |none=>
    rw[hrv] at hval
    have hR0:R=none:=by rw[<-hq];simp[rr,hrv]
    have hpr:parseRow s=none:=by unfold parseRow;rw[if_neg hs0,hR,hR0]
    have hpp:=hpr
    have hOO:GV.tup [.sl .none [],.i .i64 2]=O:=by rw[<-hO,hpp]
    cases hOO
    refine GDraw.pan 2 _ rfl (by kernel_rfl) ?_
    conv=>whnf
    refine callBd (q:=2) hval rfl (by first|exact wR _|exact wC (Wk.sl _ _) (wR _)|exact wC (Wk.sl _ _) (wC (Wk.sl _ _) (wR _))|exact wC (Wk.refl _) (wC (Wk.sl _ _) (wR _))) rfl rfl (by first|exact fun _=>rfl|exact cA|exact cB fun _=>rfl) (by first|exact fun _=>rfl|exact cA|exact cB fun _=>rfl) (by first|exact fun _=>rfl|exact cA|exact cB fun _=>rfl) ?_
    conv=>whnf
    refine owes0 (g:=.tup [.sl .full [],.i .i64 2]) ?_ ?_ ?_
    ·kernel_rfl
    ·exact wk_pan
    ·exact clPan
   |some p=>
    rw[hrv] at hval
    refine GDraw.wild _ _ _ rfl rfl rfl (by kernel_rfl) ?_
    conv=>whnf
    obtain⟨v,r⟩:=p
    have hsuf:=rv_suf hrv
    have hrl:r.length<=s.length - n:=by simpa using hsuf.length_le
    have hrd:r=s.drop (s.length - r.length):=List.suffix_iff_eq_drop.1 (hsuf.trans (List.drop_suffix n s))
    refine pcB (q:=2) hval ?_
    conv=>whnf
    refine⟨⟨rfl,rfl,bL rfl⟩,valsG [v],1,⟨rfl,rfl⟩,?_⟩
    conv=>whnf
    refine⟨_,⟨rfl,zL _,rfl,bL rfl⟩,?_⟩
    conv=>whnf
    refine GIf.mk (fun he=>?_) (fun he=>?_)<;>conv=>whnf
    ·have hr0:r=[]:=by
      have:s.length - r.length=s.length:=by have h5:=eq_of_beq he;exact Int.ofNat.inj h5
      have h6:=List.length_pos_iff.2 hs0
      exact List.eq_nil_of_length_eq_zero (by omega)
     have hR0:R=some ([v]):=by rw[<-hq];simp[rr,hrv,hr0]
     have hpn:=fun h=>parseRow_no (vs:=[v]) hs0 (hR.trans hR0) h
     have hpy:=fun h h'=>parseRow_yes (vs:=[v]) hs0 (hR.trans hR0) h h'
     have hb:([v]).length<most:=by show 1<most;decide
     refine callP (c_ValidRow ([v]) hb) (wC (Wk.sl _ _) Wks.nil) rfl (cC (Cl.sl (valsG_cl _)) ClL.nil) (.b _) ?_
     conv=>whnf
     cases hrow:rowOk ([v]) with
     |false=>
      have hpp:=hpn (.inl hrow)
      have hOO:GV.tup [.sl .none [],.i .i64 2]=O:=by rw[<-hO,hpp]
      cases hOO
      conv=>whnf
      refine owes0 (g:=.tup [.sl .full [],.i .i64 2]) ?_ ?_ ?_
      ·kernel_rfl
      ·exact wk_pan
      ·exact clPan
     |true=>
      conv=>whnf
      obtain⟨T,hT⟩:∃T,T=rowText ([v]):=⟨_,rfl⟩
      have hIT:SC Tryz.prog 301 [.sl .none (valsG ([v]))] [] (.val (.s T)) []:=by
       have:=c_ItemText ([v]) hb
       rw[hrow] at this
       rw[hT];exact this
      refine callP hIT (wC (Wk.sl _ _) Wks.nil) rfl (cC (Cl.sl (valsG_cl _)) ClL.nil) (.s _) ?_
      conv=>whnf
      refine GIf.mk (fun htx=>?_) (fun htx=>?_)<;>conv=>whnf
      ·have hne':¬rowText ([v])=s:=by rw[<-hT];simpa using htx
       have hpp:=hpn (.inr hne')
       have hOO:GV.tup [.sl .none [],.i .i64 2]=O:=by rw[<-hO,hpp]
       cases hOO
       refine owes0 (g:=.tup [.sl .full [],.i .i64 2]) ?_ ?_ ?_
       ·kernel_rfl
       ·exact wk_pan
       ·exact clPan
      ·have he':rowText ([v])=s:=by rw[<-hT];simpa using htx
       have hpp:=hpy hrow he'
       have hOO:GV.tup [.sl .none (valsG ([v])),.i .i64 0]=O:=by rw[<-hO,hpp]
       cases hOO
       refine⟨_,⟨rfl,zL _,rfl,bL rfl⟩,?_⟩
       conv=>whnf
       refine⟨_,⟨rfl,zL _,rfl,bL rfl⟩,?_⟩
       conv=>whnf
       exact owes_t2 (Wk.sl _ _) (.refl _) (Cl.sl (valsG_cl _)) (.i _ _)
    ·have hr0:r≠[]:=fun e=>by
      subst e;simp at he
     have hm:s.length<most:=by unfold most;omega
     refine pcB (q:=2) (c_next s (s.length - r.length) hm) ?_
     conv=>whnf
     have hget:s.getD (s.length - r.length) 0=r.headD 0:=by
      rw[List.getD_eq_getElem?_getD]
      conv=>rhs;rw[hrd]
      rw[List.headD_eq_head?_getD,List.head?_drop]
     rw[hget]
     obtain⟨c,r',rfl⟩:=List.exists_cons_of_ne_nil hr0
     refine GIf.mk (fun h44=>?_) (fun h44=>?_)<;>conv=>whnf
     ·have h44':c≠44:=u8n_ne (d:=44) h44
      have hR0:R=none:=by rw[<-hq];simp[rr,hrv,h44']
      have hpr:parseRow s=none:=by unfold parseRow;rw[if_neg hs0,hR,hR0]
      have hpp:=hpr
      have hOO:GV.tup [.sl .none [],.i .i64 2]=O:=by rw[<-hO,hpp]
      cases hOO
      refine owes0 (g:=.tup [.sl .full [],.i .i64 2]) ?_ ?_ ?_
      ·kernel_rfl
      ·exact wk_pan
      ·exact clPan
     ·have h44':c=44:=u8n_eq (d:=44) h44
      refine⟨[.i .i64 (s.length - (c::r').length+1:Nat)],⟨cells_succ (by omega),zL _,rfl,bL rfl⟩,?_⟩
      conv=>whnf
      refine⟨f,Nat.lt_succ_self f,(f,s.length - (c::r').length+1,[v]),⟨?_,?_,?_,?_⟩,rfl,⟨rfl,rfl,rfl,rfl,trivial⟩,_,rfl,rfl⟩
      ·show _<=_;simp at hrl⊢;try omega
      ·show _ - _<_;simp at hrl⊢;try omega
      ·show(_:List Val).length<=_;simp at hrl hv⊢;try omega
      ·show(rr f (s.drop (s.length - (c::r').length+1))).map _=R
       have e:s.drop (s.length - (c::r').length+1)=r':=by rw[<-List.drop_drop,<-hrd];rfl
       rw[e,<-hq]
       simp[rr,hrv,h44',Function.comp_def]
  ·have hs0:s=[]:=by simpa using hne
   have hpn:rowOk []=false∨¬rowText []=s->parseRow s=none:=fun h=>h.elim (fun h=>by cases h) (fun h=>by subst hs0;exact absurd rfl h)
   have hpy:rowOk []=true->rowText []=s->parseRow s=some []:=fun _ _=>by subst hs0;rfl
   have hb:(([]:List Val)).length<most:=by decide
   refine callP (c_ValidRow (([]:List Val)) hb) (wC (Wk.sl _ _) Wks.nil) rfl (cC (Cl.sl (valsG_cl _)) ClL.nil) (.b _) ?_
   conv=>whnf
   have hrow:rowOk ([]:List Val)=true:=rfl
   obtain⟨T,hT⟩:∃T,T=rowText (([]:List Val)):=⟨_,rfl⟩
   have hIT:SC Tryz.prog 301 [.sl .none (valsG (([]:List Val)))] [] (.val (.s T)) []:=by
    have:=c_ItemText (([]:List Val)) hb
    rw[hrow] at this
    rw[hT];exact this
   refine callP hIT (wC (Wk.sl _ _) Wks.nil) rfl (cC (Cl.sl (valsG_cl _)) ClL.nil) (.s _) ?_
   conv=>whnf
   refine GIf.mk (fun htx=>?_) (fun htx=>?_)<;>conv=>whnf
   ·have hne':¬rowText (([]:List Val))=s:=by rw[<-hT];simpa using htx
    have hpp:=hpn (.inr hne')
    have hOO:GV.tup [.sl .none [],.i .i64 2]=O:=by rw[<-hO,hpp]
    cases hOO
    refine owes0 (g:=.tup [.sl .full [],.i .i64 2]) ?_ ?_ ?_
    ·kernel_rfl
    ·exact wk_pan
    ·exact clPan
   ·have he':rowText (([]:List Val))=s:=by rw[<-hT];simpa using htx
    have hpp:=hpy hrow he'
    have hOO:GV.tup [.sl .none (valsG (([]:List Val))),.i .i64 0]=O:=by rw[<-hO,hpp]
    cases hOO
    refine⟨_,⟨rfl,zL _,rfl,bL rfl⟩,?_⟩
    conv=>whnf
    refine⟨_,⟨rfl,zL _,rfl,bL rfl⟩,?_⟩
    conv=>whnf
    exact owes_t2 (Wk.sl _ _) (.refl _) (Cl.sl (valsG_cl _)) (.i _ _)
 |cons v0 vs=>
  conv=>whnf
  refine GIf.mk (fun hne=>?_) (fun hne=>?_)<;>conv=>whnf
  ·have hs0:s≠[]:=by simpa using hne
   cases hrv:rv (s.drop n) with
   |none=>
    rw[hrv] at hval
    have hR0:R=none:=by rw[<-hq];simp[rr,hrv]
    have hpr:parseRow s=none:=by unfold parseRow;rw[if_neg hs0,hR,hR0]
    have hpp:=hpr
    have hOO:GV.tup [.sl .none [],.i .i64 2]=O:=by rw[<-hO,hpp]
    cases hOO
    refine GDraw.pan 2 _ rfl (by kernel_rfl) ?_
    conv=>whnf
    refine callBd (q:=2) hval rfl (by first|exact wR _|exact wC (Wk.sl _ _) (wR _)|exact wC (Wk.sl _ _) (wC (Wk.sl _ _) (wR _))|exact wC (Wk.refl _) (wC (Wk.sl _ _) (wR _))) rfl rfl (by first|exact fun _=>rfl|exact cA|exact cB fun _=>rfl) (by first|exact fun _=>rfl|exact cA|exact cB fun _=>rfl) (by first|exact fun _=>rfl|exact cA|exact cB fun _=>rfl) ?_
    conv=>whnf
    refine owes0 (g:=.tup [.sl .full [],.i .i64 2]) ?_ ?_ ?_
    ·kernel_rfl
    ·exact wk_pan
    ·exact clPan
   |some p=>
    rw[hrv] at hval
    refine GDraw.wild _ _ _ rfl rfl rfl (by kernel_rfl) ?_
    conv=>whnf
    obtain⟨v,r⟩:=p
    have hsuf:=rv_suf hrv
    have hrl:r.length<=s.length - n:=by simpa using hsuf.length_le
    have hrd:r=s.drop (s.length - r.length):=List.suffix_iff_eq_drop.1 (hsuf.trans (List.drop_suffix n s))
    refine pcB (q:=2) hval ?_
    conv=>whnf
    refine⟨⟨rfl,valsG_ok _,?_⟩,valsG (v0::vs++[v]),(v0::vs++[v]).length,⟨by simp[valsG];rfl,by simp[valsG]⟩,?_⟩
    ·show(valsG (v0::vs)).length+1<=4294967296;simp[valsG] at hv⊢;omega
    conv=>whnf
    refine⟨⟨zL _,by simp[valsG],.inl ⟨rfl,rfl⟩⟩,?_⟩
    conv=>whnf
    refine⟨_,⟨rfl,zL _,rfl,bL rfl⟩,?_⟩
    conv=>whnf
    refine GIf.mk (fun he=>?_) (fun he=>?_)<;>conv=>whnf
    ·have hr0:r=[]:=by
      have:s.length - r.length=s.length:=by have h5:=eq_of_beq he;exact Int.ofNat.inj h5
      have h6:=List.length_pos_iff.2 hs0
      exact List.eq_nil_of_length_eq_zero (by omega)
     have hR0:R=some (v0::vs++[v]):=by rw[<-hq];simp[rr,hrv,hr0]
     have hpn:=fun h=>parseRow_no (vs:=v0::vs++[v]) hs0 (hR.trans hR0) h
     have hpy:=fun h h'=>parseRow_yes (vs:=v0::vs++[v]) hs0 (hR.trans hR0) h h'
     have hb:(v0::vs++[v]).length<most:=by have h9:=hv;simp at h9;unfold most;simp;omega
     refine callP (c_ValidRow (v0::vs++[v]) hb) (wC (Wk.sl _ _) Wks.nil) rfl (cC (Cl.sl (valsG_cl _)) ClL.nil) (.b _) ?_
     conv=>whnf
     cases hrow:rowOk (v0::vs++[v]) with
     |false=>
      have hpp:=hpn (.inl hrow)
      have hOO:GV.tup [.sl .none [],.i .i64 2]=O:=by rw[<-hO,hpp]
      cases hOO
      conv=>whnf
      refine owes0 (g:=.tup [.sl .full [],.i .i64 2]) ?_ ?_ ?_
      ·kernel_rfl
      ·exact wk_pan
      ·exact clPan
     |true=>
      conv=>whnf
      obtain⟨T,hT⟩:∃T,T=rowText (v0::vs++[v]):=⟨_,rfl⟩
      have hIT:SC Tryz.prog 301 [.sl .none (valsG (v0::vs++[v]))] [] (.val (.s T)) []:=by
       have:=c_ItemText (v0::vs++[v]) hb
       rw[hrow] at this
       rw[hT];exact this
      refine callP hIT (wC (Wk.sl _ _) Wks.nil) rfl (cC (Cl.sl (valsG_cl _)) ClL.nil) (.s _) ?_
      conv=>whnf
      refine GIf.mk (fun htx=>?_) (fun htx=>?_)<;>conv=>whnf
      ·have hne':¬rowText (v0::vs++[v])=s:=by rw[<-hT];simpa using htx
       have hpp:=hpn (.inr hne')
       have hOO:GV.tup [.sl .none [],.i .i64 2]=O:=by rw[<-hO,hpp]
       cases hOO
       refine owes0 (g:=.tup [.sl .full [],.i .i64 2]) ?_ ?_ ?_
       ·kernel_rfl
       ·exact wk_pan
       ·exact clPan
      ·have he':rowText (v0::vs++[v])=s:=by rw[<-hT];simpa using htx
       have hpp:=hpy hrow he'
       have hOO:GV.tup [.sl .none (valsG (v0::vs++[v])),.i .i64 0]=O:=by rw[<-hO,hpp]
       cases hOO
       refine⟨_,⟨rfl,zL _,rfl,bL rfl⟩,?_⟩
       conv=>whnf
       refine⟨_,⟨rfl,zL _,rfl,bL rfl⟩,?_⟩
       conv=>whnf
       exact owes_t2 (Wk.sl _ _) (.refl _) (Cl.sl (valsG_cl _)) (.i _ _)
    ·have hr0:r≠[]:=fun e=>by
      subst e;simp at he
     have hm:s.length<most:=by unfold most;omega
     refine pcB (q:=2) (c_next s (s.length - r.length) hm) ?_
     conv=>whnf
     have hget:s.getD (s.length - r.length) 0=r.headD 0:=by
      rw[List.getD_eq_getElem?_getD]
      conv=>rhs;rw[hrd]
      rw[List.headD_eq_head?_getD,List.head?_drop]
     rw[hget]
     obtain⟨c,r',rfl⟩:=List.exists_cons_of_ne_nil hr0
     refine GIf.mk (fun h44=>?_) (fun h44=>?_)<;>conv=>whnf
     ·have h44':c≠44:=u8n_ne (d:=44) h44
      have hR0:R=none:=by rw[<-hq];simp[rr,hrv,h44']
      have hpr:parseRow s=none:=by unfold parseRow;rw[if_neg hs0,hR,hR0]
      have hpp:=hpr
      have hOO:GV.tup [.sl .none [],.i .i64 2]=O:=by rw[<-hO,hpp]
      cases hOO
      refine owes0 (g:=.tup [.sl .full [],.i .i64 2]) ?_ ?_ ?_
      ·kernel_rfl
      ·exact wk_pan
      ·exact clPan
     ·have h44':c=44:=u8n_eq (d:=44) h44
      refine⟨[.i .i64 (s.length - (c::r').length+1:Nat)],⟨cells_succ (by omega),zL _,rfl,bL rfl⟩,?_⟩
      conv=>whnf
      refine⟨f,Nat.lt_succ_self f,(f,s.length - (c::r').length+1,v0::vs++[v]),⟨?_,?_,?_,?_⟩,rfl,⟨rfl,rfl,rfl,rfl,trivial⟩,_,rfl,rfl⟩
      ·show _<=_;simp at hrl⊢;try omega
      ·show _ - _<_;simp at hrl⊢;try omega
      ·show(_:List Val).length<=_;simp at hrl hv⊢;try omega
      ·show(rr f (s.drop (s.length - (c::r').length+1))).map _=R
       have e:s.drop (s.length - (c::r').length+1)=r':=by rw[<-List.drop_drop,<-hrd];rfl
       rw[e,<-hq]
       simp[rr,hrv,h44',Function.comp_def]
  ·exfalso
   have hs0:s=[]:=by simpa using hne
   subst hs0;simp at hn hv;omega
theorem putBack_new [MaxL] {x:GObj} {objs:List GObj} (hx:x.ren (emb [] objs.length)=x):putBack [] [x] objs=objs++[x]:=by
 apply List.ext_getElem?
 intro r
 rw[putBack_get (fun k h=>by simp at h) (by simp)]
 unfold unemb
 by_cases hr:r<objs.length
 ·rw[if_pos hr,List.getElem?_append_left hr]
  rfl
 ·rw[if_neg hr,List.getElem?_append_right (by omega)]
  show(([x]:List GObj)[0+(r - objs.length)]?).map _=_
  rw[Nat.zero_add]
  cases h:r - objs.length with
  |zero=>simp[hx]
  |succ j=>rfl
theorem callMp [MaxL] {P:Program} {M:FuncId->Bool} {k:FuncId} {a args:List GV} {es:List (GV×GV)} {σ:GS} {K:GRes->GS->Prop} (h:SC P k a [] (.val (.mp 0)) [.mp es]) (hw:Wks args a) (hlo:σ.lo=0)
  (hM:M k=false) (ha:ClL a) (hes:∀f,(GObj.mp es).ren f=.mp es) (hk:glistK (σ.objs++[.mp es]) fun l=>K (.val (.mp σ.objs.length)) ⟨l,σ.lo,σ.ds⟩):gcallK P M (.fn k) args σ K:=by
 have hf:=h.fact (σ:=σ) (args':=args) [] Lies.nil hlo (by rw[ha];exact hw)
 rw[putBack_new (hes _)] at hf
 rw[show(GRes.val (.mp 0)).ren (emb [] σ.objs.length)=.val (.mp σ.objs.length) from by show GRes.val (.mp (emb [] σ.objs.length 0))=_;simp[emb]] at hf
 exact⟨_,_,hf,(fun k' e hk'=>by cases e;rw[hM] at hk';cases hk'),glistK_of (K:=fun l=>K (.val (.mp σ.objs.length)) ⟨l,σ.lo,σ.ds⟩) hk⟩
def readerL:List (GV×GV):=[(.s [116,114,117,101],.fn (.func 343) [] []),(.s [102,97,108,115,101],.fn (.func 344) [] []),(.s [40],.fn (.func 345) [] [])]
def relL:List (GV×GV):=[(.s [61],.fn (.func 348) [] []),(.s [60,62],.fn (.func 349) [] []),(.s [60],.fn (.func 350) [] []),(.s [60,61],.fn (.func 351) [] []),(.s [62],.fn (.func 352) [] []),(.s [62,61],.fn (.func 353) [] [])]
theorem owesMp [MaxL] {es:List (GV×GV)} {lo:Nat} {ds:List GDef} (hes:∀f,(GObj.mp es).ren f=.mp es):
  Owes [] (.val (.mp 0)) [.mp es] (.val (.mp 0)) ⟨[.mp es],lo,ds⟩:=by
 refine⟨[0],Lies.one rfl hes (by simp),fun i hi=>absurd hi (Nat.not_lt_zero i),?_⟩
 have:emb [0] 1 0=0:=emb_lt (by simp)
 show Wk (.mp 0) (.mp (emb [0] 1 0))
 rw[this];exact .refl _
theorem readerL_ren [MaxL] (f:Nat->Nat):(GObj.mp readerL).ren f=.mp readerL:=rfl
theorem relL_ren [MaxL] (f:Nat->Nat):(GObj.mp relL).ren f=.mp relL:=rfl
theorem c_readers [MaxL]:SC Tryz.prog 336 [] [] (.val (.mp 0)) [.mp readerL]:=by
 refine gwS Tryz.func336 rfl ?_
 conv=>whnf
 refine⟨rL _,none,rfl,?_⟩
 conv=>whnf
 refine⟨rL _,none,rfl,?_⟩
 conv=>whnf
 refine⟨rL _,none,rfl,?_⟩
 conv=>whnf
 exact owesMp (es:=readerL) readerL_ren
theorem c_relations [MaxL]:SC Tryz.prog 338 [] [] (.val (.mp 0)) [.mp relL]:=by
 refine gwS Tryz.func338 rfl ?_
 conv=>whnf
 refine⟨rL _,none,rfl,?_⟩
 conv=>whnf
 refine⟨rL _,none,rfl,?_⟩
 conv=>whnf
 refine⟨rL _,none,rfl,?_⟩
 conv=>whnf
 refine⟨rL _,none,rfl,?_⟩
 conv=>whnf
 refine⟨rL _,none,rfl,?_⟩
 conv=>whnf
 refine⟨rL _,none,rfl,?_⟩
 conv=>whnf
 exact owesMp (es:=relL) relL_ren
end Go.Proofs.YtcfgfkkhpdlhpaaGreatDoor
