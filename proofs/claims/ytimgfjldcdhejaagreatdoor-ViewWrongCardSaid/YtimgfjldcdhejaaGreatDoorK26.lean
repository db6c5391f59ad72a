/- Part of ViewWrong. -/
import Derived.Test.YtimgfjldcdhejaaGreatDoorK25
set_option linter.all false
set_option maxRecDepth 100000
namespace Go.Proofs.YtimgfjldcdhejaaGreatDoor
open Go.RowKit
theorem WA:∀(n:Nat) (l:List UInt8),l.length<=n->∀w∈j6 l,w.length<=l.length
 |0,l,h,w,hw=>by
  have:l=[]:=aM (by omega);subst this;rw[lI rfl] at hw;cases hw
 |n+1,l,h,w,hw=>by
  cases hk:skip l with
  |nil=>rw[lI hk] at hw;cases hw
  |cons c t=>
   rw[oA hk] at hw;have h1:=CX l;rw[hk] at h1;have h2:=oQ c t;simp only[aI] at h1;rcases List.mem_cons.1 hw with rfl|hw
   ·unfold NK;rw[aS];simp only[aI];omega
   ·have:=WA n ((c::t).drop (mL (c::t))) (by simp;omega) w hw;simp at this;omega
def nG:GV:=.agg (kH 0 [] t0 t0 [] false)
def kI (s:By):GV:=match jH s with
 |.ok t=>.tup [t.ng,.i .i64 0]
 |.err e=>.tup [nG,.i .i64 e]
theorem uA [MaxL]:Cl nG:=eQ (qP jF t0 t0 [] false)
theorem qM [MaxL] (s:By):Cl (kI s):=by
 unfold kI;split
 ·exact i8 (.cons (Tree.ng_cl _) (.cons (.i _ _) .nil))
 ·exact i8 (.cons uA (.cons (.i _ _) .nil))
theorem J6 [MaxL] (s:By) (hs:s.length<1000000):SC Tryz.prog 120 [.s s] [] (.val (kI s)) []:=by
 by_cases hl:1000<s.length
 ·have e:kI s=.tup [nG,.i .i64 3]:=by unfold kI jH;rw[aD hl]
  rw[e];refine cO Tryz.func120 rfl ?_;conv=>whnf
  apply gM<;>intro h<;>conv=>whnf
  ·skip;refine sT ?_;(conv=>whnf);exact cZ (uT n7 (.refl _)) (i8 (.cons uA (.cons (.i _ _) .nil)))
  ·exfalso;have:=aA h;omega
 ·have hsp:=a3r s hs;cases hss:EI s with
  |none=>
   rw[hss] at hsp;have e:kI s=.tup [nG,.i .i64 2]:=by unfold kI jH;rw[aC hl,hss]
   rw[e];replace hsp:SC Tryz.prog 167 [.s s] [] (.val (.tup [.sl .none [],.b false])) []:=hsp;refine cO Tryz.func120 rfl ?_;(conv=>whnf);apply gM<;>intro h<;>conv=>whnf
   ·exfalso;have:=aB h;omega
   refine mG hsp (fun _=>rfl) ?_;(conv=>whnf);refine sT ?_;(conv=>whnf);exact cZ (uT n7 (.refl _)) (i8 (.cons uA (.cons (.i _ _) .nil)))
  |some ws=>
   rw[hss] at hsp;replace hsp:SC Tryz.prog 167 [.s s] [] (.val (.tup [.sl .none (bR ws),.b true])) []:=hsp;have ht:=zM _ _ _ hss;have hwl:=wH s.length s (rL _);rw[ht] at hwl;have hx:∀w∈ws,w.length<1000000:=fun w hw=>by
    have:=WA s.length s (rL _) w (by rw[ht];exact hw);omega
   have h4:=(a7q ws (by omega) hx (kM s) 0 0 0 (zL _) (by omega)).1 (by unfold kM;omega);rw[List.drop_zero] at h4;have hcl0:Cl (.tup [.sl .none (bR ws),.b true]):=i8 (.cons (bK (eJ ws)) (.cons (.b _) .nil));cases hp:bU jQ (kM s) .or 0 0 ws with
   |none=>
    rw[hp] at h4;obtain⟨t,a',l',b1,b2,b3,hc⟩:=h4;have e:kI s=.tup [nG,.i .i64 2]:=by unfold kI jH;rw[aC hl,hss];simp only;rw[hp]
    rw[e];have hcl:=t.ng_cl;obtain⟨k,kids,A,B,op,yes,hng⟩:=fL t;rw[hng] at hc hcl;refine cO Tryz.func120 rfl ?_;(conv=>whnf);apply gM<;>intro h<;>conv=>whnf
    ·exfalso;have:=aB h;omega
    refine mG hsp hcl0 ?_;(conv=>whnf);refine BL (q:=1) hc sB sB (fun _=>rfl) hcl ?_;(conv=>whnf);refine sT ?_;(conv=>whnf);refine sT ?_;(conv=>whnf);exact cZ (uT n7 (.refl _)) (i8 (.cons uA (.cons (.i _ _) .nil)))
   |some p=>
    obtain⟨t,r,e⟩:=p;rw[hp] at h4;obtain⟨a',b1,b2,hr,b3,hc⟩:=h4;have hcl:=t.ng_cl;obtain⟨k,kids,A,B,op,yes,hng⟩:=fL t;have hsl:=cD ws;by_cases hlt:a'<ws.length
    ·have e:kI s=.tup [nG,.i .i64 2]:=by
      unfold kI jH;rw[aC hl,hss];simp only;rw[hp];simp only;rw[aC (by intro h;rw[h] at hr;have:=aR List.length hr;simp at this;omega)]
     rw[e];rw[hng] at hc hcl;refine cO Tryz.func120 rfl ?_;(conv=>whnf);apply gM<;>intro h<;>conv=>whnf
     ·exfalso;have:=aB h;omega
     refine mG hsp hcl0 ?_;(conv=>whnf);refine BL (q:=1) hc sB sB (fun _=>rfl) hcl ?_;(conv=>whnf);refine sT ?_;(conv=>whnf);apply gM<;>intro h2<;>conv=>whnf
     ·skip;refine sT ?_;(conv=>whnf);exact cZ (uT n7 (.refl _)) (i8 (.cons uA (.cons (.i _ _) .nil)))
     ·exfalso;have:=aA h2;omega
    ·have hr0:r=[]:=by rw[hr];exact List.drop_eq_nil_of_le (by omega)
     by_cases h20:20<e
     ·have e:kI s=.tup [nG,.i .i64 4]:=by
       unfold kI jH;rw[aC hl,hss];simp only;rw[hp];simp only;rw[aD hr0,aD h20]
      rw[e];rw[hng] at hc hcl;rw[bC h20] at hc;refine cO Tryz.func120 rfl ?_;(conv=>whnf);apply gM<;>intro h<;>conv=>whnf
      ·exfalso;have:=aB h;omega
      refine mG hsp hcl0 ?_;(conv=>whnf);refine BL (q:=1) hc sB sB (fun _=>rfl) hcl ?_;(conv=>whnf);refine sT ?_;(conv=>whnf);apply gM<;>intro h2<;>conv=>whnf
      ·exfalso;have:=aB h2;omega
      ·skip;refine sT ?_;(conv=>whnf);exact cZ (uT n7 (.refl _)) (i8 (.cons uA (.cons (.i _ _) .nil)))
     ·have e:kI s=.tup [t.ng,.i .i64 0]:=by
       unfold kI jH;rw[aC hl,hss];simp only;rw[hp];simp only;rw[aD hr0,aC h20]
      rw[e];rw[hng] at hc hcl⊢;rw[bN h20] at hc;refine cO Tryz.func120 rfl ?_;(conv=>whnf);apply gM<;>intro h<;>conv=>whnf
      ·exfalso;have:=aB h;omega
      refine mG hsp hcl0 ?_;(conv=>whnf);refine BL (q:=1) hc sB sB (fun _=>rfl) hcl ?_;(conv=>whnf);refine sT ?_;(conv=>whnf);apply gM<;>intro h2<;>conv=>whnf
      ·exfalso;have:=aB h2;omega
      ·skip;refine sT ?_;(conv=>whnf);exact cZ (.refl _) (i8 (.cons hcl (.cons (.i _ _) .nil)))
theorem qL {s:By} {e:Int} (h:jH s=.err e):e=2∨e=3∨e=4:=by
 unfold jH at h;split at h
 ·cases h;omega
 ·split at h
  ·cases h;omega
  ·split at h
   ·split at h
    ·split at h
     ·cases h;omega
     ·cases h
    ·cases h;omega
   ·cases h;omega
theorem U9 [MaxL] (t:Tree) (hg:t.good) (hz:t.size<=2100):SC Tryz.prog 211 [t.ng] [] (.val (.tup [.s (yW t).1,.i .i64 (yW t).2])) []:=by
 have hw:=C9 2100 t hz hz hg;have hcl:=t.ng_cl;have hb:=tZ t.flat (xC (HK hg));rw[tI] at hb;have hr:=J6 t.flat.plain (by omega);have hrc:=qM t.flat.plain;unfold kI at hr hrc;obtain⟨k,kids,A,B,op,yes,hng⟩:=fL t;rw[hng] at hw hcl⊢;unfold yW;clear hg hng;generalize t.flat.plain=X at*;by_cases hl:1000<X.length
 ·rw[aD hl];refine cO Tryz.func211 rfl ?_;conv=>whnf
  refine bT hw (wR _) rfl (cC hcl .nil) (.s _) ?_;conv=>whnf
  apply gM<;>intro h<;>conv=>whnf
  ·exact oW
  ·exfalso;have:=aA h;omega
 ·rw[aC hl];cases hx:jH X with
  |ok u=>
   rw[hx] at hr hrc;replace hr:SC Tryz.prog 120 [.s X] [] (.val (.tup [u.ng,.i .i64 0])) []:=hr;replace hrc:Cl (.tup [u.ng,.i .i64 0]):=hrc;obtain⟨k2,kids2,A2,B2,op2,yes2,hng2⟩:=fL u;rw[hng2] at hr hrc;refine cO Tryz.func211 rfl ?_;(conv=>whnf);refine bT hw (wR _) rfl (cC hcl .nil) (.s _) ?_;(conv=>whnf);apply gM<;>intro h<;>conv=>whnf
   ·exfalso;have:=aB h;omega
   refine mG hr hrc ?_;(conv=>whnf);refine sT ?_;(conv=>whnf);exact oW
  |err e=>
   rw[hx] at hr hrc;replace hr:SC Tryz.prog 120 [.s X] [] (.val (.tup [nG,.i .i64 e])) []:=hr;replace hrc:Cl (.tup [nG,.i .i64 e]):=hrc;have he:=qL hx;refine cO Tryz.func211 rfl ?_;(conv=>whnf);refine bT hw (wR _) rfl (cC hcl .nil) (.s _) ?_;(conv=>whnf);apply gM<;>intro h<;>conv=>whnf
   ·exfalso;have:=aB h;omega
   refine mG hr hrc ?_;(conv=>whnf);refine sT ?_;(conv=>whnf);apply gM<;>intro h2<;>conv=>whnf
   ·exact oW
   ·exfalso;have:e=0:=by simpa using h2
    omega
theorem qK {s:By} {t:Tree} (h:jH s=.ok t):t.size<=1000:=by
 have hr:=rO s;rw[h] at hr;have:=(mR hr).2.1;rw[tI] at this;exact this
theorem a63 [MaxL] (s:By) (hs:s.length<1000000):SC Tryz.prog 153 [.s s] [] (.val (.tup [.s (Q9 s).1,.i .i64 (Q9 s).2])) []:=by
 have hr:=J6 s hs;have hrc:=qM s;unfold kI at hr hrc;unfold Q9;cases hx:jH s with
 |ok t=>
  rw[hx] at hr hrc;replace hr:SC Tryz.prog 120 [.s s] [] (.val (.tup [t.ng,.i .i64 0])) []:=hr;replace hrc:Cl (.tup [t.ng,.i .i64 0]):=hrc;have ht:=U9 t (mS hx) (by have:=qK hx;omega);have hcl:=t.ng_cl;obtain⟨k,kids,A,B,op,yes,hng⟩:=fL t;rw[hng] at hr hrc ht hcl;simp only;refine cO Tryz.func153 rfl ?_;conv=>whnf
  refine mG hr hrc ?_;conv=>whnf
  refine sT ?_;conv=>whnf
  refine bT ht (wR _) rfl (cC hcl .nil) (fun _=>rfl) ?_;conv=>whnf
  exact oW
 |err e=>
  rw[hx] at hr hrc;replace hr:SC Tryz.prog 120 [.s s] [] (.val (.tup [nG,.i .i64 e])) []:=hr;replace hrc:Cl (.tup [nG,.i .i64 e]):=hrc;have he:=qL hx;simp only;refine cO Tryz.func153 rfl ?_;conv=>whnf
  refine mG hr hrc ?_;conv=>whnf
  refine sT ?_;conv=>whnf
  apply gM<;>intro h2<;>conv=>whnf
  ·exact oW
  ·exfalso;have:e=0:=by simpa using h2
   omega
def oN (l:List By):List GV:=l.map .s
theorem xS [MaxL] (l:List By):ClL (oN l):=iA Cl.s l
theorem WH (l:List By):(oN l).all (fun x=>x.cells.length==1)=true:=by
 rw[aQ];intro x hx;obtain⟨v,_,rfl⟩:=List.mem_map.1 hx;rfl
def gH (vr:Bool) (l:List By):List GObj:=[.box 4 [.b vr],.box 43 [.sl (.own 2) (oN l)],ow 9 1 l.length]
def yU (vr:Bool) (l:List By) (t:Term):List By:=if t.name≠[]/\t.var=vr/\¬t.name∈l then l++[t.name] else l
theorem w5 [MaxL] (vr:Bool) (l:List By):H5 (gH vr l):=fun e he=>by
 show[GObj.box _ [.b vr],GObj.box _ [(GV.sl (.own 2) (oN l)).ren e],(ow _ 1 l.length).ren e]=_;rw[nB (he 2 (by simp[gH])) (xS l),qO];rfl
theorem rA [MaxL] (vr:Bool) (l:List By) {T:TypeId} {cs:List GV} (hc:ClL cs):H5 (gH vr l++[GObj.box T cs]):=fun e he=>by
 show[GObj.box _ [.b vr],GObj.box _ [(GV.sl (.own 2) (oN l)).ren e],(ow _ 1 l.length).ren e,GObj.box T (cs.map (GV.ren e))]=_;rw[nB (he 2 (by simp[gH])) (xS l),qO,hc e];rfl
theorem nX [MaxL] (vr:Bool) (l:List By):(gH vr l).all GObj.notHeld=true:=by
 simp only[gH,e8,l5,List.all_nil];rfl
theorem nQ [MaxL] (vr:Bool) (l:List By) {T:TypeId} {cs:List GV}:(gH vr l++[GObj.box T cs]).all GObj.notHeld=true:=by
 rw[List.all_append,nX];rfl
def a5g (op:By) (a b:Term) (second:Bool):Term:=if second then b else a
theorem a7x [MaxL] (vr:Bool) (l:List By) (hl:l.length<=100000) (op:By) (a b:Term) (second:Bool):
  SC Tryz.prog 296 [.ptr 3 (if second then 6 else 1),.ptr 0 0,.ptr 1 0] (gH vr l++[.box 248 (Tree.test op a b).cs]) (.val (.tup [])) (gH vr (yU vr l (a5g op a b second))++[.box 248 (Tree.test op a b).cs]):=by
 cases second with
 |false=>
  show SC _ _ [.ptr 3 1,.ptr 0 0,.ptr 1 0] _ _ (gH vr (yU vr l a)++_);refine bQ oP mixed Tryz.func296 rfl (bL rfl) (by simp[gH]) (nQ _ _) ?_;conv=>whnf
  have same:yU vr l a=l->∀(rest:List GObj) (objs:List GObj),objs=gH vr l++[.box 248 (Tree.test op a b).cs]++rest->Owes (gH vr l++[.box 248 (Tree.test op a b).cs]) (.val (.tup [])) (gH vr (yU vr l a)++[.box 248 (Tree.test op a b).cs]) (.val (.tup [])) ⟨objs,0,[]⟩:=fun e rest objs ho=>by
   rw[e];exact eX ho (rL _) (rA vr l (iG _)) (nQ _ _) (fun _ _=>rfl) (bF _)
  refine lQ ?_;conv=>whnf
  apply gM<;>intro hn<;>conv=>whnf
  ·have hn':a.name≠[]:=by simpa using hn
   apply gM<;>intro hv<;>conv=>whnf
   ·have hv':a.var=vr:=by simpa using hv
    refine bT (s6 l a.name (by unfold b9;omega)) (wC (bY _ _) (wR _)) rfl (cC (bK (xS l)) (fun _=>rfl)) (.b _) ?_;(conv=>whnf);apply gM<;>intro hc<;>conv=>whnf
    ·have hc':¬a.name∈l:=by simpa using hc
     have e:yU vr l a=l++[a.name]:=aD ⟨hn',hv',hc'⟩;clear same;rw[e];cases l with
     |nil=>
      refine GDraw.wild _ _ _ rfl rfl rfl (by kernel_rfl) ?_;(conv=>whnf);refine⟨⟨rfl,rfl,bL rfl⟩,oN [a.name],1,⟨rfl,rfl⟩,?_⟩;(conv=>whnf);refine aN ?_;(conv=>whnf);refine sT ?_;(conv=>whnf);exact eX (rest:=[_]) rfl (by simp[gH]) (rA vr [a.name] (iG _)) (nQ _ _) (fun _ _=>rfl) (bF _)
     |cons z l=>
      refine GDraw.wild _ _ _ rfl rfl rfl (by kernel_rfl) ?_;(conv=>whnf);refine⟨⟨rfl,WH (z::l),by show(oN (z::l)).length+1<=4294967296;simp[oN] at hl⊢;omega⟩,oN (z::l++[a.name]),(z::l++[a.name]).length,⟨by simp[oN];rfl,by show _=(oN (z::l)).length+1;simp[oN]⟩,?_⟩;(conv=>whnf);refine⟨⟨zL _,by simp[oN],.inl ⟨rfl,rfl⟩⟩,?_⟩;(conv=>whnf);refine sT ?_;(conv=>whnf);exact eX (rest:=[_]) rfl (by simp[gH]) (rA vr (z::l++[a.name]) (iG _)) (nQ _ _) (fun _ _=>rfl) (bF _)
    ·have hc':a.name∈l:=by simpa using hc
     exact same (aC (fun h=>h.2.2 hc')) [] _ rfl
   ·have hv':¬a.var=vr:=by simpa using hv
    exact same (aC (fun h=>hv' h.2.1)) [] _ rfl
  ·have hn':a.name=[]:=by simpa using hn
   exact same (aC (fun h=>h.1 hn')) [] _ rfl
 |true=>
  show SC _ _ [.ptr 3 6,.ptr 0 0,.ptr 1 0] _ _ (gH vr (yU vr l b)++_);refine bQ oP mixed Tryz.func296 rfl (bL rfl) (by simp[gH]) (nQ _ _) ?_;conv=>whnf
  have same:yU vr l b=l->∀(rest:List GObj) (objs:List GObj),objs=gH vr l++[.box 248 (Tree.test op a b).cs]++rest->Owes (gH vr l++[.box 248 (Tree.test op a b).cs]) (.val (.tup [])) (gH vr (yU vr l b)++[.box 248 (Tree.test op a b).cs]) (.val (.tup [])) ⟨objs,0,[]⟩:=fun e rest objs ho=>by
   rw[e];exact eX ho (rL _) (rA vr l (iG _)) (nQ _ _) (fun _ _=>rfl) (bF _)
  refine lQ ?_;conv=>whnf
  apply gM<;>intro hn<;>conv=>whnf
  ·have hn':b.name≠[]:=by simpa using hn
   apply gM<;>intro hv<;>conv=>whnf
   ·have hv':b.var=vr:=by simpa using hv
    refine bT (s6 l b.name (by unfold b9;omega)) (wC (bY _ _) (wR _)) rfl (cC (bK (xS l)) (fun _=>rfl)) (.b _) ?_;(conv=>whnf);apply gM<;>intro hc<;>conv=>whnf
    ·have hc':¬b.name∈l:=by simpa using hc
     have e:yU vr l b=l++[b.name]:=aD ⟨hn',hv',hc'⟩;clear same;rw[e];cases l with
     |nil=>
      refine GDraw.wild _ _ _ rfl rfl rfl (by kernel_rfl) ?_;(conv=>whnf);refine⟨⟨rfl,rfl,bL rfl⟩,oN [b.name],1,⟨rfl,rfl⟩,?_⟩;(conv=>whnf);refine aN ?_;(conv=>whnf);refine sT ?_;(conv=>whnf);exact eX (rest:=[_]) rfl (by simp[gH]) (rA vr [b.name] (iG _)) (nQ _ _) (fun _ _=>rfl) (bF _)
     |cons z l=>
      refine GDraw.wild _ _ _ rfl rfl rfl (by kernel_rfl) ?_;(conv=>whnf);refine⟨⟨rfl,WH (z::l),by show(oN (z::l)).length+1<=4294967296;simp[oN] at hl⊢;omega⟩,oN (z::l++[b.name]),(z::l++[b.name]).length,⟨by simp[oN];rfl,by show _=(oN (z::l)).length+1;simp[oN]⟩,?_⟩;(conv=>whnf);refine⟨⟨zL _,by simp[oN],.inl ⟨rfl,rfl⟩⟩,?_⟩;(conv=>whnf);refine sT ?_;(conv=>whnf);exact eX (rest:=[_]) rfl (by simp[gH]) (rA vr (z::l++[b.name]) (iG _)) (nQ _ _) (fun _ _=>rfl) (bF _)
    ·have hc':b.name∈l:=by simpa using hc
     exact same (aC (fun h=>h.2.2 hc')) [] _ rfl
   ·have hv':¬b.var=vr:=by simpa using hv
    exact same (aC (fun h=>hv' h.2.1)) [] _ rfl
  ·have hn':b.name=[]:=by simpa using hn
   exact same (aC (fun h=>h.1 hn')) [] _ rfl
def m6 (vr:Bool) (l:List By):Tree->List By
 |.pair _ x y=>m6 vr (m6 vr l x) y
 |.no t=>m6 vr l t
 |.test _ a b=>yU vr (yU vr l a) b
 |.truth _=>l
theorem LC (vr:Bool) (l:List By) (t:Term):(yU vr l t).length<=l.length+1:=by
 unfold yU;split<;>simp
theorem yV (vr:Bool):∀(t:Tree) (l:List By),(m6 vr l t).length<=l.length+2*t.size
 |.pair _ x y,l=>by
  have h1:=yV vr x l;have h2:=yV vr y (m6 vr l x);simp only[m6,Tree.size];omega
 |.no t,l=>by
  have h1:=yV vr t l;simp only[m6,Tree.size];omega
 |.test _ a b,l=>by
  have h1:=LC vr l a;have h2:=LC vr (yU vr l a) b;simp only[m6,Tree.size];omega
 |.truth _,l=>by simp only[m6,Tree.size];omega
def gF:GV:=.fn (.func 296) [] [.ptr 0 0,.ptr 1 0]
theorem a6Z [MaxL] {e:Nat->Nat} (h0:e 0=0) (h1:e 1=1):gF.ren e=gF:=by
 show GV.fn _ [] [.ptr (e 0) 0,.ptr (e 1) 0]=_;rw[h0,h1];rfl
theorem L8 [MaxL] {vr:Bool} {l:List By} {t:Tree} (e:Nat->Nat) (he:∀i,i<(gH vr l).length->e i=i):[t.gv,gF].map (GV.ren e)=[t.gv,gF]:=by
 show[t.gv.ren e,gF.ren e]=_;rw[t.cl e,a6Z (he 0 (by simp[gH])) (he 1 (by simp[gH]))]
theorem I1 [MaxL] (vr:Bool):∀(t:Tree) (l:List By),l.length+2*t.size<=100000->SC Tryz.prog 198 [t.gv,gF] (gH vr l) (.val (.tup [])) (gH vr (m6 vr l t))
 |.pair a x y,l,hb=>by
  simp only[Tree.size] at hb;have s1:=I1 vr x l (by omega);have h1:=yV vr x l;have s2:=I1 vr y (m6 vr l x) (by omega);refine bQ oP mixed Tryz.func198 rfl (bL rfl) (by simp[gH]) (nX _ _) ?_;conv=>whnf
  refine sT ?_;conv=>whnf
  refine iS (rest:=[.box 259 (Tree.pair a x y).cs]) s1 rfl (by simp[gH]) rfl rfl (w5 vr l) (w5 vr _) (nX _ _) (L8) (fun _ _=>rfl) (wR _) ?_;conv=>whnf
  refine iS (rest:=[.box 259 (Tree.pair a x y).cs]) s2 rfl (by simp[gH]) rfl rfl (w5 vr _) (w5 vr _) (nX _ _) (L8) (fun _ _=>rfl) (wR _) ?_;conv=>whnf
  exact eX (rest:=[_]) rfl (by simp[gH]) (w5 vr _) (nX _ _) (fun _ _=>rfl) (bF _)
 |.no x,l,hb=>by
  simp only[Tree.size] at hb;have s1:=I1 vr x l (by omega);refine bQ oP mixed Tryz.func198 rfl (bL rfl) (by simp[gH]) (nX _ _) ?_;conv=>whnf
  refine sT ?_;conv=>whnf
  refine iS (rest:=[.box 261 (Tree.no x).cs]) s1 rfl (by simp[gH]) rfl rfl (w5 vr l) (w5 vr _) (nX _ _) (L8) (fun _ _=>rfl) (wR _) ?_;conv=>whnf
  exact eX (rest:=[_]) rfl (by simp[gH]) (w5 vr _) (nX _ _) (fun _ _=>rfl) (bF _)
 |.test op a b,l,hb=>by
  simp only[Tree.size] at hb;have s1:=a7x vr l (by omega) op a b false;have h1:=LC vr l a;have s2:=a7x vr (yU vr l a) (by omega) op a b true;have hcs:=(Tree.test op a b).cs_cl;refine bQ oP mixed Tryz.func198 rfl (bL rfl) (by simp[gH]) (nX _ _) ?_;conv=>whnf
  refine sT ?_;conv=>whnf
  refine iS (rest:=[]) s1 rfl (by simp[gH]) rfl rfl (rA vr l hcs) (rA vr _ hcs) (nQ _ _) (fun e he=>by show[GV.ptr (e 3) 1,.ptr (e 0) 0,.ptr (e 1) 0]=_;rw[he 3 (by simp[gH]),he 0 (by simp[gH]),he 1 (by simp[gH])];rfl) (fun _ _=>rfl) (wR _) ?_;conv=>whnf
  refine iS (rest:=[]) s2 rfl (by simp[gH]) rfl rfl (rA vr _ hcs) (rA vr _ hcs) (nQ _ _) (fun e he=>by show[GV.ptr (e 3) 6,.ptr (e 0) 0,.ptr (e 1) 0]=_;rw[he 3 (by simp[gH]),he 0 (by simp[gH]),he 1 (by simp[gH])];rfl) (fun _ _=>rfl) (wR _) ?_;conv=>whnf
  exact eX (rest:=[_]) rfl (by simp[gH]) (w5 vr _) (nX _ _) (fun _ _=>rfl) (bF _)
 |.truth b,l,hb=>by
  refine bQ oP mixed Tryz.func198 rfl (bL rfl) (by simp[gH]) (nX _ _) ?_;conv=>whnf
  exact eX (rest:=[]) rfl (by simp[gH]) (w5 vr _) (nX _ _) (fun _ _=>rfl) (bF _)
theorem SC.nilOwn [MaxL] {k:FuncId} {args:List GV} {r:GRes} {s':List GObj} (vr:Bool) (h:SC Tryz.prog k args (gH vr []) r s'):
  SC Tryz.prog k args [.box 4 [.b vr],.box 43 [.sl .full []]] r s':=by
 refine⟨dG (by simp[gH]) h.len,fun C w vs hr hv=>?_,h.noheld⟩;obtain⟨D,hl,hown,hrel⟩:=Rel.newNil hr (hr.newAt _);have hrel2:Rel D ⟨gH vr [],0,[]⟩ w w:=by
  refine⟨hrel.below,hrel.fxc,fun q x hx=>?_,fun q hq=>hrel.dom q (by simpa[gH] using hq),hrel.new,hrel.inj,hrel.sepB,hrel.sepO,hrel.fxn,hrel.gl,hrel.gs⟩;rcases q with _|_|_|q
  ·simp[gH] at hx;subst hx;exact hrel.obj 0 _ rfl
  ·simp[gH] at hx;subst hx;obtain⟨h0,b,cs,hb,ho,hcs⟩:=hrel.obj 1 _ rfl;have hcs':=(BoxV.exact hcs rfl);refine⟨h0,b,cs,hb,ho,VRs.box ?_⟩;obtain⟨v,rfl,hv1⟩:=hcs'.arr1;cases hv1 with
   |sl esz b' off us hn hc ha hw hx hvv ht=>
   obtain⟨hc0,ha0⟩:=ht;obtain rfl:=ha0 rfl;simp at hn hc0;subst hn;subst hc0;refine .cons (.sl 0 0 0 us rfl (rL _) (.inl ⟨rfl,rfl⟩) (fun x hx=>by cases hx) (fun i x j g h=>by simp[oN] at h) (fun i x j g h=>by simp[oN] at h) ⟨_,hown,zL _,(fun h=>absurd h (Nat.lt_irrefl 0)),fun _=>.inl ⟨rfl,rfl⟩⟩) ⟨rfl,fun j g u h=>by simp at h⟩
  ·simp[gH,ow] at hx;subst hx;exact hrel.obj 2 _ rfl
  ·simp[gH] at hx
 refine(h.calls D w vs hrel2 (hv.mono hl)).mono fun e w' ⟨E,hE,hrE,he⟩=>⟨E,hl.trans hE,hrE,he⟩
def z1 (s:By) (vr:Bool):GV:=match iP s with
 |.ok t=>.tup [.sl .none (oN (m6 vr [] t)),.i .i64 0]
 |.err e=>.tup [.sl .none [],.i .i64 e]
theorem VT [MaxL] (s:By) (hs:s.length<b9) (vr:Bool):SC Tryz.prog 254 [.s s,.b vr] [] (.val (z1 s vr)) []:=by
 have hr:=PR s hs;have hcl:=wQ s;unfold nM at hr hcl;unfold z1;cases h:iP s with
 |err e=>
  rw[h] at hr hcl;replace hr:SC Tryz.prog 140 [.s s] [] (.val (.tup [.o .nilIface,.i .i64 e])) []:=hr;have he:=qJ h;refine cO Tryz.func254 rfl ?_;conv=>whnf
  refine mG hr hcl ?_;conv=>whnf
  apply gM<;>intro h0<;>conv=>whnf
  ·exact cZ (uT (bY _ _) (.refl _)) (i8 (.cons (bK jF) (.cons (.i _ _) .nil)))
  ·exfalso;have:e=0:=by simpa using h0
   omega
 |ok t=>
  rw[h] at hr hcl;replace hr:SC Tryz.prog 140 [.s s] [] (.val (.tup [t.gv,.i .i64 0])) []:=hr;obtain⟨hn,hz,_⟩:=mR h;have hterm:=SC.nilOwn vr (I1 vr t [] (by simp;omega));show SC _ _ _ _ (.val (.tup [.sl .none (oN (m6 vr [] t)),.i .i64 0])) [];generalize m6 vr [] t=L at hterm⊢;refine cO Tryz.func254 rfl ?_;conv=>whnf
  refine mG hr hcl ?_;conv=>whnf
  refine uN hterm [0,2] (objs':=[.box 4 [.b vr],.own 0 0 0,.box 43 [.sl (.own 3) (oN L)],ow 9 1 L.length]) (Lies.two (by decide) rfl rfl (by simp) (by simp)) ?hw rfl rfl ?ho rfl ?_
  case hw=>
   show Wks [t.gv,.fn (.func 296) [] [.ptr 0 0,.ptr 2 0]] [t.gv.ren _,.fn (.func 296) [] [.ptr 0 0,.ptr 2 0]];rw[t.cl];exact wR _
  case ho=>
   show[.box 4 [.b vr],.own 0 0 0,GObj.box 43 [(GV.sl (.own 2) (oN L)).ren (jZ [0,2] 3)],(ow 9 1 L.length).ren (jZ [0,2] 3)]=_;rw[qO];have:(GV.sl (.own 2) (oN L)).ren (jZ [0,2] 3)=.sl (.own 3) (oN L):=by
    rw[GV.ren,cU,xS L];rfl
   rw[this]
  conv=>whnf
  exact cZ (uT (bY _ _) (.refl _)) (i8 (.cons (bK (xS L)) (.cons (.i _ _) .nil)))
theorem a2U [MaxL] (s:By) (vr:Bool):Cl (z1 s vr):=by
 unfold z1;split
 ·exact i8 (.cons (bK (xS _)) (.cons (.i _ _) .nil))
 ·exact i8 (.cons (bK jF) (.cons (.i _ _) .nil))
def N2 (s:By) (vr:Bool):List By:=match iP s with
 |.ok t=>m6 vr [] t
 |.err e=>[]
def a52 (s:By):Int:=match iP s with
 |.ok t=>0
 |.err e=>e
theorem a2T (s:By) (vr:Bool):z1 s vr=.tup [.sl .none (oN (N2 s vr)),.i .i64 (a52 s)]:=by
 unfold z1 N2 a52;cases iP s<;>rfl
theorem a4q [MaxL] (s:By) (hs:s.length<b9):SC Tryz.prog 203 [.s s] [] (.val (z1 s false)) []:=by
 have hg:=VT s hs false;have hcl:=a2U s false;rw[a2T] at hg hcl⊢;refine cO Tryz.func203 rfl ?_;conv=>whnf
 refine mG hg hcl ?_;conv=>whnf
 exact cZ (.refl _) hcl
def d8:Tree->List Term
 |.pair _ l r=>d8 l++d8 r
 |.no t=>d8 t
 |.test _ a b=>[a,b]
 |.truth _=>[]
theorem sQ (a:Bool):∀t:Tree,(t.sides a).flatMap d8=d8 t
 |.pair b l r=>by
  unfold Tree.sides;split
  ·rw[List.flatMap_append,sQ a l,sQ a r];rfl
  ·simp
 |.no t=>by simp[Tree.sides]
 |.test _ _ _=>by simp[Tree.sides]
 |.truth _=>by simp[Tree.sides]
theorem mX:∀t:Tree,(d8 t).length<=2*t.size
 |.pair _ l r=>by
  have h1:=mX l;have h2:=mX r;simp only[d8,Tree.size,aG];omega
 |.no t=>by
  have:=mX t;simp only[d8,Tree.size];omega
 |.test _ _ _=>by simp[d8,Tree.size]
 |.truth _=>by simp[d8]
def zE (l:List Term):List GV:=l.map fun t=>.agg (Q1 t)
theorem vS [MaxL] (l:List Term):ClL (zE l):=iA (fun t=>eQ (oV t)) l
theorem mI (l:List Term):(zE l).length=l.length:=by simp[zE]
theorem a16 (l:List Term):(zE l).all (fun x=>x.cells.length==5)=true:=by
 rw[aQ];intro x hx;obtain⟨t,_,rfl⟩:=List.mem_map.1 hx;rfl
theorem QC (l:List Term):(zE l).all (sO 5)=true:=by
 rw[aQ];intro x hx;obtain⟨t,_,rfl⟩:=List.mem_map.1 hx;rfl
theorem WM (a b:List Term):zE (a++b)=zE a++zE b:=by unfold zE;rw[b5]
theorem Z4 [MaxL] (op:By) (l r:Term):SC Tryz.prog 171 [.agg (kH 4 [] l r op false)] [] (.val (.sl .none (zE [l,r]))) []:=by
 refine cO Tryz.func171 rfl ?_;conv=>whnf
 exact cZ (bY _ _) (bK (vS _))
def lvs (L:List Tree) (i:Nat):List Term:=(L.take i).flatMap d8
theorem a1x {L:List Tree} {i:Nat} {y:Tree} (h:L[i]?=some y):lvs L (i+1)=lvs L i++d8 y:=by
 unfold lvs;rw[aT,h,List.flatMap_append];simp
theorem a6M (L:List Tree) (i:Nat):(lvs L i).length<=(L.flatMap d8).length:=by
 have:L.flatMap d8=lvs L i++(L.drop i).flatMap d8:=by
  unfold lvs;rw[<-List.flatMap_append,j4]
 rw[this,aG];omega
theorem EP [MaxL] (k:Nat) (hk:k≠4) (L:List Tree) (yes:Bool) (hL:L.length<=100000) (hb:(L.flatMap d8).length<=1000000) (hc:∀y∈L,SC Tryz.prog 171 [y.ng] [] (.val (.sl .none (zE (d8 y)))) []):
  SC Tryz.prog 171 [.agg (kH k (j3 L) t0 t0 [] yes)] [] (.val (.sl .none (zE (L.flatMap d8)))) []:=by
 have hnl:(j3 L).length=L.length:=dT L;refine cO Tryz.func171 rfl ?_;conv=>whnf
 apply gM<;>intro h4<;>conv=>whnf
 ·exfalso;have h9:(k:Int)=4:=by simpa using h4
  omega
 refine dH (fun q:Nat×List Term=>q.1<=L.length/\lvs L q.1=q.2) (fun q=>[(1,.ptr 0 0),(3,.sl (.own 2) (zE q.2)),(4,.i .i64 (q.1:Nat))])
  (fun q=>⟨[.box 169 (kH k (j3 L) t0 t0 [] yes),.own 0 0 0,ow 167 5 q.2.length],0,[]⟩) (fun q=>L.length - q.1) (0,[]) ⟨zL _,rfl⟩ ⟨rfl,rfl,rfl,trivial⟩ rfl (fun _ _=>rL _) (fun q _=>by simp only[e8,l5];rfl) (fun q _ e he=>?_) (fun q φ0 hi=>?_)
 ·refine⟨?_,rfl,?_⟩
  ·show[(GObj.box _ (kH k (j3 L) t0 t0 [] yes)).ren e,_,(ow _ 5 _).ren e]=_;rw[qO,dW (qP (pH L) t0 t0 [] yes) e];rfl
  ·show[GV.ptr (e 0) 0,(GV.sl (.own 2) (zE q.2)).ren e,_]=_;rw[nB (he 2 (by simp)) (vS _),he 0 (by simp)];rfl
 obtain⟨i,o⟩:=q;obtain⟨hi,ho⟩:=hi;replace hi:i<=L.length:=hi;replace ho:lvs L i=o:=ho;conv=>whnf
 apply gM<;>intro h<;>conv=>whnf
 rotate_left
 ·have hie:i=L.length:=by have:=aA h;omega
  have hoe:o=L.flatMap d8:=by rw[<-ho,hie];unfold lvs;rw[aV]
  rw[<-hoe];exact cZ (bY _ _) (bK (vS _))
 have hlt:i<L.length:=by have:=aB h;omega
 obtain⟨y,hy⟩:∃y,L[i]?=some y:=⟨L[i],gL hlt⟩;have hgy:(j3 L)[i]?=some y.ng:=by unfold j3;rw[aK,hy];rfl
 have hcy:=hc y (aE hy);have hcl:=y.ng_cl;have hsucc:=a1x hy;have hle:=a6M L (i+1);rw[hsucc,ho,aG] at hle;rw[ho] at hsucc;obtain⟨k2,kids,A,B,op,yes2,hng⟩:=fL y;rw[hng] at hgy hcy hcl;refine⟨jR _,.agg (kH k2 kids A B op yes2),by rw[aL];exact hgy,rfl,?_⟩;conv=>whnf
 generalize d8 y=ys at*;rcases ys with _|⟨y1,ys⟩
 ·refine bT hcy (wR _) rfl (cC hcl .nil) (bK (vS _)) ?_;conv=>whnf
  rw[f5] at hsucc;exact⟨L.length - (i+1),(by show _<L.length - i;omega),(i+1,o),⟨hlt,hsucc⟩,rfl,⟨rfl,rfl,bH (by omega),trivial⟩,[],rfl,rfl⟩
 ·refine bT hcy (wR _) rfl (cC hcl .nil) (bK (vS _)) ?_;conv=>whnf
  cases o with
  |nil=>
   refine⟨⟨QC (y1::ys),a16 _,by show(zE ([]:List Term)).length+(zE (y1::ys)).length<=4294967296;rw[mI,mI];omega⟩,zE (([]:List Term)++y1::ys),(([]:List Term)++y1::ys).length,⟨WM ([]:List Term) (y1::ys),by show _=(zE ([]:List Term)).length+(zE (y1::ys)).length;rw[mI,mI,aG]⟩,?_⟩;(conv=>whnf);refine aN ?_ (h:=by first|rfl|(rw[mI];rfl)|(rw[mI];simp));(conv=>whnf);exact⟨L.length - (i+1),(by show _<L.length - i;omega),(i+1,([]:List Term)++y1::ys),⟨hlt,hsucc⟩,rfl,⟨rfl,rfl,bH (by omega),trivial⟩,_,rfl,rfl⟩
  |cons z zs=>
   refine⟨⟨QC (y1::ys),a16 _,by show(zE (z::zs)).length+(zE (y1::ys)).length<=4294967296;rw[mI,mI];omega⟩,zE ((z::zs)++y1::ys),((z::zs)++y1::ys).length,⟨WM (z::zs) (y1::ys),by show _=(zE (z::zs)).length+(zE (y1::ys)).length;rw[mI,mI,aG]⟩,?_⟩;(conv=>whnf);refine aN ?_ (h:=by first|rfl|(rw[mI];rfl)|(rw[mI];simp));(conv=>whnf);exact⟨L.length - (i+1),(by show _<L.length - i;omega),(i+1,(z::zs)++y1::ys),⟨hlt,hsucc⟩,rfl,⟨rfl,rfl,bH (by omega),trivial⟩,_,rfl,rfl⟩
theorem a7R [MaxL] (l:List By) (s:By) (hl:l.length<1000000):SC Tryz.prog 212 [.sl .none (bR l),.s s] [] (.val (.b (l.contains s))) []:=by
 have hlen:=cD l;refine cO Tryz.func212 rfl ?_;conv=>whnf
 refine dD (fun i:Nat=>i<=l.length/\(l.take i).contains s=false) (fun i=>[(0,.sl .none (bR l)),(1,.s s),(4,.b false),(5,.i .i64 (i:Nat))]) (fun _=>⟨[],0,[]⟩) (fun i=>l.length - i) 0 ⟨zL _,rfl⟩ ⟨rfl,rfl,rfl,rfl,trivial⟩ rfl (fun i φ0 hi=>?_);obtain⟨hi,hni⟩:=hi;conv=>whnf
 apply gM<;>intro h<;>conv=>whnf
 rotate_left
 ·have hie:i=l.length:=by have:=aA h;omega
  refine d6 ?_;rw[hie,aV] at hni;exact hni.symm
 have hlt:i<l.length:=by have:=aB h;omega
 obtain⟨y,hy⟩:∃y,l[i]?=some y:=⟨l[i],gL hlt⟩;have hgy:(bR l)[i]?=some (.s y):=by unfold bR;rw[aK,hy];rfl
 have htk:(l.take (i+1)).contains s=(s==y):=by
  rw[aT,hy];rw[iJ] at hni⊢;simp at hni⊢;rw[dQ];simp[hni]
 refine⟨jR _,.s y,by rw[aL];exact hgy,rfl,?_⟩;conv=>whnf
 apply gM<;>intro heq<;>conv=>whnf
 ·refine d6 ?_;have e:y=s:=by simpa using heq
  rw[e] at hy;rw[iJ];exact(bC (aE hy)).symm
 ·refine⟨l.length - (i+1),(by show _<l.length - i;omega),i+1,⟨hlt,?_⟩,rfl,⟨rfl,rfl,rfl,bH (by omega),trivial⟩,rfl⟩;rw[htk];have e:¬y=s:=by simpa using heq
  simp[Ne.symm e]
theorem HE [MaxL]:∀(n:Nat) (t:Tree),t.size<=n->t.size<=5000->SC Tryz.prog 171 [t.ng] [] (.val (.sl .none (zE (d8 t)))) []
 |0,t,h,_=>by cases t<;>simp[Tree.size] at h
 |n+1,t,h,h2=>by
  have hz:=mX t;cases t with
  |truth b=>
   have:=EP 5 (by decide) [] b (by simp) (by simp) (fun y hy=>by cases hy);exact this
  |test op l r=>exact Z4 op l r
  |no t=>
   simp only[Tree.size] at h h2;have:=EP 3 (by decide) [t] false (by simp) (by simp[d8] at hz⊢;simp only[Tree.size] at hz;omega) (fun y hy=>by
    rw[List.mem_singleton.1 hy];exact HE n t (by omega) (by omega))
   have e:[t].flatMap d8=d8 (.no t):=by simp[d8]
   rw[e] at this;exact this
  |pair a l r=>
   have hs:=@n9 a (Tree.pair a l r);have hk:∀y∈(Tree.pair a l r).sides a,SC Tryz.prog 171 [y.ng] [] (.val (.sl .none (zE (d8 y)))) []:=fun y hy=>by
    have:=CZ hy;exact HE n y (by omega) (by omega)
   have:=EP (lL a) (by cases a<;>decide) ((Tree.pair a l r).sides a) false (by omega) (by rw[sQ];omega) hk;rw[sQ] at this;rw[show(Tree.pair a l r).ng=.agg (kH (lL a) (j3 ((Tree.pair a l r).sides a)) t0 t0 [] false) by show GV.agg _=_;rw[rS]];exact this
def zD (l:List By) (x:By):List By:=if x≠[]/\¬x∈l then l++[x] else l
def UQ (t:Term):By:=if t.var then[] else t.name
def vrn (t:Term):By:=if t.var then t.name else[]
theorem a38 (l:List By) (x:By):(zD l x).length<=l.length+1:=by
 unfold zD;split<;>simp
theorem KQ (f:Term->By):∀(ts:List Term) (l:List By),(ts.foldl (fun l t=>zD l (f t)) l).length<=l.length+ts.length
 |[],l=>by simp
 |t::ts,l=>by
  have:=KQ f ts (zD l (f t));have h2:=a38 l (f t);rw[eV,aI];omega
def UJ (f:Term->By) (t:Tree):List By:=(d8 t).foldl (fun l x=>zD l (f x)) []
theorem s9 (vr:Bool):∀(t:Tree) (l:List By),m6 vr l t=(d8 t).foldl (fun l x=>zD l (if vr then vrn x else UQ x)) l
 |.pair _ x y,l=>by
  unfold m6 d8;rw[k6,<-s9 vr x l,<-s9 vr y]
 |.no t,l=>by unfold m6 d8;exact s9 vr t l
 |.test _ a b,l=>by
  have key:∀(l:List By) (t:Term),yU vr l t=zD l (if vr then vrn t else UQ t):=fun l t=>by
   obtain⟨nm,v,x⟩:=t;unfold yU zD;cases vr<;>cases v<;>simp[UQ,vrn]
  show yU vr (yU vr l a) b=zD (zD l _) _;rw[key,key]
 |.truth _,l=>rfl
def a3A:Option Tree->List Term
 |none=>[]
 |some x=>d8 x
theorem v8 (a:Bool) (acc:Option Tree) (t:Tree):d8 (pW a acc t)=a3A acc++d8 t:=by cases acc<;>rfl
theorem OM (a:Bool):∀(t:Tree) (acc:Option Tree),d8 (dA a acc t)=a3A acc++d8 t:=by
 intro t;induction t generalizing a with
 |pair b l r i1 i2=>
  intro acc;unfold dA;split
  ·rw[i2];show d8 (dA a acc l)++d8 r=a3A acc++(d8 l++d8 r);rw[i1,bD]
  ·rw[v8,i2];show a3A acc++(d8 (dA b none l)++d8 r)=a3A acc++(d8 l++d8 r);rw[i1];rfl
 |no t i=>
  intro acc;unfold dA;rw[v8];show _++d8 (dA true none t)=_;rw[i];rfl
 |test op l r=>intro acc;unfold dA;rw[v8]
 |truth b=>intro acc;unfold dA;rw[v8]
theorem GB (t:Tree):d8 t.flat=d8 t:=by
 unfold Tree.flat;rw[OM];rfl
def a8R (op:By) (c:Int):Bool:=if op=[61] then c==0 else if op=[60,62] then c !=0 else if op=[60] then decide (c<0) else if op=[60,61] then decide (c<=0) else if op=[62] then decide (c>0) else decide (c>=0)
def lR (τ:Term->Val):Tree->Bool
 |.pair a l r=>if a then lR τ l&&lR τ r else lR τ l||lR τ r
 |.no t=>!lR τ t
 |.test op l r=>a8R op (a8e (τ l) (τ r))
 |.truth b=>b
def a2i (a:Bool):Option Bool->Bool->Bool
 |none,x=>x
 |some y,x=>if a then y&&x else y||x
theorem xO (τ:Term->Val) (a:Bool) (acc:Option Tree) (t:Tree):lR τ (pW a acc t)=a2i a (acc.map (lR τ)) (lR τ t):=by cases acc<;>rfl
theorem rI (τ:Term->Val):∀(t:Tree) (a:Bool) (acc:Option Tree),lR τ (dA a acc t)=a2i a (acc.map (lR τ)) (lR τ t)
 |.pair b l r,a,acc=>by
  unfold dA;split
  ·rename_i hab;subst hab;rw[rI τ r,dP,rI τ l];cases acc<;>cases a<;>simp[a2i,lR,Bool.and_assoc,Bool.or_assoc]
  ·rw[xO,rI τ r,dP,rI τ l];cases acc<;>cases b<;>simp[a2i,lR]
 |.no t,a,acc=>by
  unfold dA;rw[xO];show a2i a _ (!lR τ (dA true none t))=_;rw[rI τ t];rfl
 |.test op l r,a,acc=>by unfold dA;rw[xO]
 |.truth b,a,acc=>by unfold dA;rw[xO]
theorem FV (τ:Term->Val) (a:Bool):∀t:Tree,lR τ t=if a then(t.sides a).all (lR τ) else(t.sides a).any (lR τ)
 |.pair b l r=>by
  unfold Tree.sides;by_cases hab:a=b
  ·subst hab;rw[aD rfl,List.all_append,List.any_append];have h1:=FV τ a l;have h2:=FV τ a r;cases a<;>simp[lR,h1,h2]
  ·rw[aC hab];cases a<;>simp
 |.no t=>by cases a<;>simp[Tree.sides]
 |.test _ _ _=>by cases a<;>simp[Tree.sides]
 |.truth _=>by cases a<;>simp[Tree.sides]
def jI (I V:List Itm) (t:Term):Int:=if t.name=[] then t.v.k else match(if t.var then V else I).find? (fun i=>i.name==t.name) with
 |some i=>i.k
 |none=>0
def n8:Tree->List (Term×Term)
 |.pair _ l r=>n8 l++n8 r
 |.no t=>n8 t
 |.test _ a b=>[(a,b)]
 |.truth _=>[]
def uM (I V:List Itm) (t:Tree):Int:=if(d8 t).any (fun x=>jI I V x==0) then 5 else if(n8 t).any (fun p=>jI I V p.1 !=jI I V p.2) then 10 else 0
theorem rT:∀t:Tree,d8 t=(n8 t).flatMap fun p=>[p.1,p.2]
 |.pair _ l r=>by simp only[d8,n8,List.flatMap_append];rw[rT l,rT r]
 |.no t=>rT t
 |.test _ _ _=>rfl
 |.truth _=>rfl
def a39:Option Tree->List (Term×Term)
 |none=>[]
 |some x=>n8 x
theorem AT (a:Bool) (acc:Option Tree) (t:Tree):n8 (pW a acc t)=a39 acc++n8 t:=by cases acc<;>rfl
theorem pZ:∀(t:Tree) (a:Bool) (acc:Option Tree),n8 (dA a acc t)=a39 acc++n8 t
 |.pair b l r,a,acc=>by
  unfold dA;split
  ·rw[pZ r];show n8 (dA a acc l)++n8 r=a39 acc++(n8 l++n8 r);rw[pZ l,bD]
  ·rw[AT,pZ r];show a39 acc++(n8 (dA b none l)++n8 r)=a39 acc++(n8 l++n8 r);rw[pZ l];rfl
 |.no t,a,acc=>by
  unfold dA;rw[AT];show _++n8 (dA true none t)=_;rw[pZ t];rfl
 |.test op l r,a,acc=>by unfold dA;rw[AT]
 |.truth b,a,acc=>by unfold dA;rw[AT]
theorem YV (t:Tree):n8 t.flat=n8 t:=pZ t true none
theorem VK (I V:List Itm) (t:Tree):uM I V t.flat=uM I V t:=by
 unfold uM;rw[GB,YV]
