/- Part of ViewWrong. -/
import Derived.Test.YtimgfjldcdhejaaGreatDoorK16
set_option linter.all false
set_option maxRecDepth 100000
namespace Go.Proofs.YtimgfjldcdhejaaGreatDoor
open Go.RowKit
def rr:Nat->List UInt8->Option (List Val)
 |0,_=>none
 |f+1,l=>match rv l with
  |none=>none
  |some (v,r)=>if r=[] then some [v] else if r.head?=some 44 then(rr f r.tail).map (v:: ·) else none
def iZ (w:List UInt8):Option (List Val):=
 if w=[] then some [] else match rr (w.length+1) w with
 |some vs=>if tV vs&&decide (nV vs=w) then some vs else none
 |none=>none
theorem a1D:∀(f:Nat) {l t r:List UInt8},l.length<f->rt l=some (t,r)->r<:+l
 |0,l,_,_,hf,_=>by omega
 |f+1,l,t,r,hf,h=>by
  have step:∀{l':List UInt8} {g:List UInt8->List UInt8},l'.length<f->(rt l').map (fun p=>(g p.1,p.2))=some (t,r)->r<:+l':=fun hl h=>by
   rw[aH] at h;obtain⟨⟨t',r'⟩,h1,h2⟩:=h;cases h2;exact a1D f hl h1
  cases l with
  |nil=>cases h
  |cons c l=>
   simp only[aI] at hf;by_cases h34:c=34
   ·subst h34;rw[a1F] at h;cases h;exact List.suffix_cons _ _
   by_cases h92:c=92
   ·subst h92;cases l with
    |nil=>cases h
    |cons e l=>
     by_cases h120:e=120
     ·subst h120;rcases l with _|⟨a,_|⟨b,l⟩⟩
      ·cases h
      ·cases h
      ·rw[a5t] at h;split at h
       ·simp only[aI] at hf;have:=step (g:=fun x=>_::x) (by omega) h;exact this.trans ⟨[92,120,a,b],rfl⟩
       ·cases h
     ·rw[a1E h120] at h;simp only[aI] at hf;have:=step (g:=fun x=>_::x) (by omega) h;exact this.trans ⟨[92,e],rfl⟩
   ·rw[a5u h34 h92] at h;have:=step (g:=fun x=>_::x) (by omega) h;exact this.trans ⟨[c],rfl⟩
theorem a5s {l r:List UInt8} {v:Val} (h:rv l=some (v,r)):r<:+l:=by
 unfold rv at h;split at h
 ·rename_i hd;cases l with
  |nil=>cases hd
  |cons c l=>
   rw[aH] at h;obtain⟨⟨t',r'⟩,h1,h2⟩:=h;cases h2;exact(a1D _ (Nat.lt_succ_self _) h1).trans (List.suffix_cons _ _)
 ·split at h
  ·split at h
   ·cases h;exact List.dropWhile_suffix _
   ·cases h
  ·cases h
def onM (l:List FuncId):FuncId->Bool:=fun k=>!l.contains k
def X6 (s:List UInt8) (n:Nat):List Val->List GObj
 |[]=>[.box 48 [.sl .full []],.box 34 [.i .i64 0],GZ s n]
 |v::vs=>[.box 48 [.sl (.own 4) (kF (v::vs))],.box 34 [.i .i64 0],GZ s n,.own 1 3 101,.own (v::vs).length 3 101]
theorem AZ (s:List UInt8) (n m:Nat) (vs:List Val):(X6 s n []).length<=(X6 s m vs).length:=by cases vs<;>simp[X6]
theorem a1k [MaxL] (s:List UInt8) (n:Nat) (vs:List Val):(X6 s n vs).all GObj.notHeld=true:=by cases vs<;>rfl
theorem a3z [MaxL] (s:List UInt8) (n:Nat) (vs:List Val) {e:Nat->Nat} (he:∀i,i<(X6 s n vs).length->e i=i):(X6 s n vs).map (GObj.ren e)=X6 s n vs:=by
 cases vs with
 |nil=>rfl
 |cons v vs=>
  show[GObj.box _ [(GV.sl (.own 4) (kF (v::vs))).ren e],_,_,_,_]=_;rw[nB (he 4 (by simp[X6])) (lH _)];rfl
theorem QX {s:List UInt8} {vs:List Val} (hs:s≠[]) (hr:rr (s.length+1) s=some vs) (h:tV vs=false∨¬nV vs=s):iZ s=none:=by
 unfold iZ;rw[aC hs,hr];rcases h with h|h<;>simp[h]
theorem OD {s:List UInt8} {vs:List Val} (hs:s≠[]) (hr:rr (s.length+1) s=some vs) (h:tV vs=true) (h':nV vs=s):iZ s=some vs:=by
 unfold iZ;rw[aC hs,hr];simp[h,h']
theorem BQ [MaxL] {g g':GV} {r0:GRes} {σ0:GS} (h:r0=.val g) (hw:Wk g g') (hc:Cl g'):Owes [] (.val g') [] r0 σ0:=by
 subst h;exact cZ hw hc
theorem uT [MaxL] {a a' b b':GV} (h:Wk a a') (h':Wk b b'):Wk (.tup [a,b]) (.tup [a',b']):=fun C v hv=>by
 cases hv with
 |tup hl hv=>
 refine .tup hl (fun j g u h1 h2=>?_);rcases j with _|_|j
 ·simp at h1;subst h1;exact h C _ (hv 0 a u rfl h2)
 ·simp at h1;subst h1;exact h' C _ (hv 1 b u rfl h2)
 ·simp at h1
theorem I5 [MaxL] {k:IntKind} {n:Int}:Wk (.tup [.sl .full [],.i k n]) (.tup [.sl .none [],.i k n]):=uT (bY _ _) (.refl _)
theorem NE [MaxL] {k:IntKind} {n:Int}:Cl (.tup [.sl .none [],.i k n]):=i8 (.cons (bK jF) (.cons (.i _ _) .nil))
theorem a0b (vs:List Val):(kF vs).all (fun x=>x.cells.length==3)=true:=by
 rw[aQ];intro x hx;obtain⟨v,_,rfl⟩:=List.mem_map.1 hx;rfl
set_option maxHeartbeats 4000000 in
theorem a4p [MaxL] (s:List UInt8) (hs:s.length<1000000):SC Tryz.prog 330 [.s s] [] (.val (if 20000<s.length then .tup [.sl .none [],.i .i64 3] else match iZ s with|some vs=>.tup [.sl .none (kF vs),.i .i64 0]|none=>.tup [.sl .none [],.i .i64 2])) []:=by
 refine bQ (onM [335]) mixed Tryz.func330 rfl (bL rfl) (rL _) rfl ?_;conv=>whnf
 apply gM<;>intro h<;>conv=>whnf
 ·have:20000<s.length:=by simp at h;omega
  rw[aD this];refine sT ?_;conv=>whnf
  refine sT ?_;conv=>whnf
  exact OG (bY _ _) (.refl _) (bK jF) (.i _ _)
 rw[aC (by simp at h;omega)];generalize hO:(match iZ s with|some vs=>GV.tup [.sl .none (kF vs),.i .i64 0]|none=>.tup [.sl .none [],.i .i64 2])=O;generalize hR:rr (s.length+1) s=R;refine dH (fun q:Nat×Nat×List Val=>q.2.1<=s.length/\s.length - q.2.1<q.1/\q.2.2.length<=q.2.1/\(rr q.1 (s.drop q.2.1)).map (fun x=>q.2.2++x)=R)
  (fun q=>[(0,.s s),(2,.ptr 0 0),(3,.ptr 1 0),(4,.ptr 2 0)]) (fun q=>⟨X6 s q.2.1 q.2.2,0,[.fn 334 [] [.ptr 0 0,.ptr 1 0]]⟩) (fun q=>q.1) (s.length+1,0,[]) ⟨zL _,by simp,by simp,?_⟩ ⟨rfl,rfl,rfl,rfl,trivial⟩ rfl ?_ ?_ ?_ (fun q φ0 hq=>?_)
 ·rw[<-hR];cases h:rr (s.length+1) (s.drop 0)<;>(rw[List.drop_zero] at h;simp[h])
 ·intro q _;exact AZ s 0 q.2.1 q.2.2
 ·intro q _;exact a1k s q.2.1 q.2.2
 ·intro q _ e he;refine⟨a3z s q.2.1 q.2.2 he,?_,?_⟩
  ·show[GDef.fn _ [] [.ptr (e 0) 0,.ptr (e 1) 0]]=_;rw[he 0 (cI (by simp[X6]) (AZ s 0 q.2.1 q.2.2)),he 1 (cI (by simp[X6]) (AZ s 0 q.2.1 q.2.2))]
  ·show[GV.s s,.ptr (e 0) 0,.ptr (e 1) 0,.ptr (e 2) 0]=_;rw[he 0 (cI (by simp[X6]) (AZ s 0 q.2.1 q.2.2)),he 1 (cI (by simp[X6]) (AZ s 0 q.2.1 q.2.2)),he 2 (cI (by simp[X6]) (AZ s 0 q.2.1 q.2.2))];rfl
 obtain⟨f,n,vs⟩:=q;obtain⟨hn,hf,hv,hq⟩:=hq;replace hn:n<=s.length:=hn;replace hf:s.length - n<f:=hf;replace hv:vs.length<=n:=hv;replace hq:(rr f (s.drop n)).map (fun x=>vs++x)=R:=hq;obtain⟨f,rfl⟩:∃g,f=g+1:=⟨f - 1,by omega⟩;have hval:=a4g s n hn hs;have hm:s.length<b9:=by unfold b9;omega
 have bad:iZ s=none->GV.tup [.sl .none [],.i .i64 2]=O:=fun h=>by rw[<-hO,h]
 have good:∀ws,iZ s=some ws->GV.tup [.sl .none (kF ws),.i .i64 0]=O:=fun ws h=>by rw[<-hO,h]
 by_cases hs0:s=[]
 ·obtain rfl:vs=[]:=aM (by rw[hs0] at hn;simp at hn;omega);conv=>whnf
  apply gM<;>intro hne<;>conv=>whnf
  ·exact absurd hs0 (by simpa using hne)
  have hpn:tV []=false∨¬nV []=s->iZ s=none:=fun h=>h.elim (fun h=>by cases h) (fun h=>by subst hs0;exact absurd rfl h);have hpy:tV []=true->nV []=s->iZ s=some []:=fun _ _=>by subst hs0;rfl
  have hb:(([]:List Val)).length<b9:=by decide
  refine bT (CO ([]:List Val) hb) (wC (bY _ _) Wks.nil) rfl (cC (bK (lH _)) jF) (.b _) ?_;conv=>whnf
  have hrow:tV ([]:List Val)=true:=rfl;obtain⟨T,hT⟩:∃T,T=nV ([]:List Val):=⟨_,rfl⟩;have hIT:=CQ ([]:List Val) hb;rw[hrow,aD rfl,<-hT] at hIT;conv=>whnf
  refine bT hIT (wC (bY _ _) Wks.nil) rfl (cC (bK (lH _)) jF) (.s _) ?_;conv=>whnf
  apply gM<;>intro htx<;>conv=>whnf
  ·have hOO:=bad (hpn (.inr (by rw[<-hT];simpa using htx)));cases hOO;exact BQ (g:=.tup [.sl .full [],.i .i64 2]) (by kernel_rfl) I5 NE
  have hOO:=good _ (hpy hrow (by rw[<-hT];simpa using htx));cases hOO;refine sT ?_;conv=>whnf
  refine sT ?_;conv=>whnf
  exact OG (bY _ _) (.refl _) (bK (lH _)) (.i _ _)
 have hpr:R=none->iZ s=none:=fun h=>by unfold iZ;rw[aC hs0,hR,h]
 obtain⟨os,hos⟩:∃os,os=vs:=⟨_,rfl⟩;rw[<-hos] at hv hq;rcases vs with _|⟨v0,vs⟩;all_goals
  conv=>whnf
  apply bZ<;>intro hne;rotate_left
  ·exact absurd (by simpa using hne) hs0
  conv=>whnf
  rcases hrv:rv (s.drop n) with _|⟨v,r⟩<;>rw[hrv] at hval
  case none=>
   have hOO:=bad (hpr (by rw[<-hq];simp[rr,hrv]));cases hOO;refine GDraw.pan 2 _ rfl (by kernel_rfl) ?_;(conv=>whnf);refine TE (q:=2) hval ?_;(conv=>whnf);exact BQ (g:=.tup [.sl .full [],.i .i64 2]) (by kernel_rfl) I5 NE
  refine GDraw.wild _ _ _ rfl rfl rfl (by kernel_rfl) ?_;conv=>whnf
  have hsuf:=a5s hrv;have hrl:r.length<=s.length - n:=by simpa using hsuf.length_le
  have hrd:r=s.drop (s.length - r.length):=List.suffix_iff_eq_drop.1 (hsuf.trans (List.drop_suffix n s));obtain⟨z,zs,hz⟩:∃z zs,z::zs=os++[v]:=by rw[hos];exact⟨_,_,rfl⟩
  refine B0 (q:=2) hval ?_;conv=>whnf
  first
   |refine⟨⟨rfl,rfl,bL rfl⟩,kF (z::zs),(z::zs).length,⟨by rw[hz,hos];rfl,by rw[hz,hos];rfl⟩,?_⟩
   |refine⟨⟨rfl,a0b _,by show(kF (v0::vs)).length+1<=4294967296;rw[hos] at hv;simp[kF] at hv⊢;omega⟩,kF (z::zs),(z::zs).length,⟨by rw[hz,hos];simp[kF];rfl,by rw[hz,hos];simp[kF]⟩,?_⟩
    (conv=>whnf);refine⟨⟨zL _,by simp[kF],.inl ⟨rfl,rfl⟩⟩,?_⟩
  conv=>whnf
  refine sT ?_;conv=>whnf
  apply bZ<;>intro he
  case yes=>
   (conv=>whnf);have hr0:r=[]:=by
    have:s.length - r.length=s.length:=by have h5:=eq_of_beq he;exact Int.ofNat.inj h5
    have h6:=List.length_pos_iff.2 hs0;exact aM (by omega)
   have hR0:R=some (z::zs):=by rw[<-hq,hz];simp[rr,hrv,hr0]
   have hpn:=fun h=>QX hs0 (hR.trans hR0) h;have hpy:=fun h h'=>OD hs0 (hR.trans hR0) h h';have hb:(z::zs).length<b9:=by rw[hz];have h9:=hv;unfold b9;simp;omega
   refine bT (CO (z::zs) hb) (wC (bY _ _) Wks.nil) rfl (cC (bK (lH _)) jF) (.b _) ?_;(conv=>whnf);cases hrow:tV (z::zs)
   case false=>
    have hOO:=bad (hpn (.inl hrow));cases hOO;(conv=>whnf);exact BQ (g:=.tup [.sl .full [],.i .i64 2]) (by kernel_rfl) I5 NE
   obtain⟨T,hT⟩:∃T,T=nV (z::zs):=⟨_,rfl⟩;have hIT:=CQ (z::zs) hb;rw[hrow,aD rfl,<-hT] at hIT;(conv=>whnf);refine bT hIT (wC (bY _ _) Wks.nil) rfl (cC (bK (lH _)) jF) (.s _) ?_;(conv=>whnf);apply gM<;>intro htx<;>conv=>whnf
   ·have hOO:=bad (hpn (.inr (by rw[<-hT];simpa using htx)));cases hOO;exact BQ (g:=.tup [.sl .full [],.i .i64 2]) (by kernel_rfl) I5 NE
   have hOO:=good _ (hpy hrow (by rw[<-hT];simpa using htx));cases hOO;refine sT ?_;(conv=>whnf);refine sT ?_;(conv=>whnf);exact OG (bY _ _) (.refl _) (bK (lH _)) (.i _ _)
  have hr0:r≠[]:=fun e=>by
   subst e;simp at he
  conv=>whnf
  refine B0 (q:=2) (CN s (s.length - r.length) hm) ?_;conv=>whnf
  have hget:s.getD (s.length - r.length) 0=r.headD 0:=by
   rw[aO];conv=>rhs;rw[hrd]
   rw[List.headD_eq_head?_getD,List.head?_drop]
  rw[hget];obtain⟨c,r',rfl⟩:=iI hr0;apply gM<;>intro h44<;>conv=>whnf
  ·have h44':c≠44:=tO (d:=44) h44;have hOO:=bad (hpr (by rw[<-hq];simp[rr,hrv,h44']));cases hOO;exact BQ (g:=.tup [.sl .full [],.i .i64 2]) (by kernel_rfl) I5 NE
  have h44':c=44:=tP (d:=44) h44;refine⟨[.i .i64 (s.length - (c::r').length+1:Nat)],⟨m5 (by omega),zL _,rfl,bL rfl⟩,?_⟩;conv=>whnf
  refine⟨f,Nat.lt_succ_self f,(f,s.length - (c::r').length+1,z::zs),⟨?_,?_,?_,?_⟩,rfl,⟨rfl,rfl,rfl,rfl,trivial⟩,_,rfl,rfl⟩
  ·show _<=_;simp at hrl⊢;try omega
  ·show _ - _<_;simp at hrl⊢;try omega
  ·show(z::zs).length<=_;rw[hz];simp at hrl hv⊢;try omega
  ·show(rr f (s.drop (s.length - (c::r').length+1))).map (fun x=>z::zs++x)=R;have e:s.drop (s.length - (c::r').length+1)=r':=by rw[<-j7,<-hrd];rfl
   rw[e,<-hq,hz];simp[rr,hrv,h44',i6]
theorem QQ [MaxL] {x:GObj} {objs:List GObj} (hx:x.ren (jZ [] objs.length)=x):k8 [] [x] objs=objs++[x]:=by
 apply eK;intro r;rw[kZ (fun k h=>by simp at h) (by simp)];unfold iU;by_cases hr:r<objs.length
 ·rw[aD hr,b7 hr];rfl
 ·rw[aC hr,cJ (by omega)];show(([x]:List GObj)[0+(r - objs.length)]?).map _=_;rw[bI];cases h:r - objs.length with
  |zero=>simp[hx]
  |succ j=>rfl
theorem L4 [MaxL] {P:Program} {M:FuncId->Bool} {k:FuncId} {a args:List GV} {es:List (GV×GV)} {σ:GS} {K:GRes->GS->Prop} (h:SC P k a [] (.val (.mp 0)) [.mp es]) (hw:Wks args a) (hlo:σ.lo=0)
  (hM:M k=false) (ha:ClL a) (hes:∀f,(GObj.mp es).ren f=.mp es) (hk:F5 (σ.objs++[.mp es]) fun l=>K (.val (.mp σ.objs.length)) ⟨l,σ.lo,σ.ds⟩):gZ P M (.fn k) args σ K:=by
 have hf:=h.fact (σ:=σ) (args':=args) [] Lies.nil hlo (by rw[ha];exact hw);rw[QQ (hes _)] at hf;rw[show(GRes.val (.mp 0)).ren (jZ [] σ.objs.length)=.val (.mp σ.objs.length) from by show GRes.val (.mp (jZ [] σ.objs.length 0))=_;simp[jZ]] at hf;exact⟨_,_,hf,(fun k' e hk'=>by cases e;rw[hM] at hk';cases hk'),BB (K:=fun l=>K (.val (.mp σ.objs.length)) ⟨l,σ.lo,σ.ds⟩) hk⟩
def AY:List (GV×GV):=[(.s [116,114,117,101],.fn (.func 326) [] []),(.s [102,97,108,115,101],.fn (.func 327) [] []),(.s [40],.fn (.func 328) [] [])]
def U5:List (GV×GV):=[(.s [61],.fn (.func 267) [] []),(.s [60,62],.fn (.func 268) [] []),(.s [60],.fn (.func 269) [] []),(.s [60,61],.fn (.func 270) [] []),(.s [62],.fn (.func 271) [] []),(.s [62,61],.fn (.func 272) [] [])]
theorem a1n [MaxL] {es:List (GV×GV)} {lo:Nat} {ds:List GDef} (hes:∀f,(GObj.mp es).ren f=.mp es):
  Owes [] (.val (.mp 0)) [.mp es] (.val (.mp 0)) ⟨[.mp es],lo,ds⟩:=by
 refine⟨[0],Lies.one rfl hes (by simp),fun i hi=>absurd hi (bP i),?_⟩;have:jZ [0] 1 0=0:=lD (by simp);show Wk (.mp 0) (.mp (jZ [0] 1 0));rw[this];exact .refl _
theorem rN [MaxL] (f:Nat->Nat):(GObj.mp AY).ren f=.mp AY:=rfl
theorem QI [MaxL] (f:Nat->Nat):(GObj.mp U5).ren f=.mp U5:=rfl
theorem BI [MaxL]:SC Tryz.prog 321 [] [] (.val (.mp 0)) [.mp AY]:=by
 refine cO Tryz.func321 rfl ?_;conv=>whnf
 refine⟨rL _,none,rfl,?_⟩;conv=>whnf
 refine⟨rL _,none,rfl,?_⟩;conv=>whnf
 refine⟨rL _,none,rfl,?_⟩;conv=>whnf
 exact a1n (es:=AY) rN
theorem SW [MaxL]:SC Tryz.prog 217 [] [] (.val (.mp 0)) [.mp U5]:=by
 refine cO Tryz.func217 rfl ?_;conv=>whnf
 refine⟨rL _,none,rfl,?_⟩;conv=>whnf
 refine⟨rL _,none,rfl,?_⟩;conv=>whnf
 refine⟨rL _,none,rfl,?_⟩;conv=>whnf
 refine⟨rL _,none,rfl,?_⟩;conv=>whnf
 refine⟨rL _,none,rfl,?_⟩;conv=>whnf
 refine⟨rL _,none,rfl,?_⟩;conv=>whnf
 exact a1n (es:=U5) QI
def Term.cs (t:Term):List GV:=[.s t.name,.b t.var,.i .i64 t.v.k,.i .i64 t.v.n,.s t.v.s]
def Term.gv (t:Term):GV:=.agg t.cs
theorem Term.cl [MaxL] (t:Term):Cl t.gv:=fun _=>rfl
def gX:GV:=.ifc 286 (.agg [])
def zP (w:List UInt8):Option Val:=match iZ w with
 |some [v]=>if w.head?=some 34 then some v else none
 |_=>none
def dM (w:List UInt8):Option Val:=match Lib.atoiAll w with
 |.ok n=>if Lib.itoa n=w/\Val.ok ⟨1,n,[]⟩=true then some ⟨1,n,[]⟩ else zP w
 |_=>zP w
theorem B6 {w:List UInt8} (h:∀v,Lib.atoiAll w≠ .ok v):dM w=zP w:=by
 unfold dM;split
 ·rename_i n e;exact absurd e (h n)
 ·rfl
theorem HP {w:List UInt8} {n:Int} (h:Lib.atoiAll w=.ok n):dM w=if Lib.itoa n=w/\Val.ok ⟨1,n,[]⟩=true then some ⟨1,n,[]⟩ else zP w:=by
 unfold dM;rw[h]
theorem T4 [MaxL] (w:List UInt8) (h:w.length<=20000):SC Tryz.prog 330 [.s w] [] (.val (match iZ w with|some vs=>.tup [.sl .none (kF vs),.i .i64 0]|none=>.tup [.sl .none [],.i .i64 2])) []:=by
 have:=a4p w (by omega);rw[aC (by omega)] at this;exact this
theorem SP [MaxL] (w:List UInt8):Cl (match iZ w with|some vs=>.tup [.sl .none (kF vs),.i .i64 0]|none=>.tup [.sl .none [],.i .i64 2]):=by
 cases iZ w with
 |none=>exact NE
 |some vs=>exact i8 (.cons (bK (lH vs)) (.cons (.i _ _) .nil))
def Rd [MaxL] (k:FuncId) (a:List GV) (s:List UInt8) (n:Nat) (d:Int) (o:Option (GV×List (List UInt8)×Int)):Prop:=match o with
 |some (g,r,e)=>∃m,At s m r/\SC Tryz.prog k (.ptr 0 0::a) [rd s n d] (.val g) [rd s m e]
 |none=>SC Tryz.prog k (.ptr 0 0::a) [rd s n d] (.panic gX) [.dead]
theorem Rd.mk [MaxL] {k:FuncId} {a:List GV} {s:List UInt8} {n:Nat} {d:Int} {o:Option (GV×List (List UInt8)×Int)} (m:Nat) (hm:∀g r e,o=some (g,r,e)->At s m r)
  (h:Ct Tryz.prog k (.ptr 0 0::a) (rd s n d) gX (o.map fun p=>(p.1,rd s m p.2.2))):Rd k a s n d o:=by
 cases o with
 |none=>exact h
 |some p=>exact⟨m,hm _ _ _ rfl,h⟩
def BN (ts:List (List UInt8)) (d:Int):Option (GV×List (List UInt8)×Int):=(iB dM ts).map fun p=>(p.1.gv,p.2,d)
theorem NU {w:List UInt8} (h:w≠[58]) (ts:List (List UInt8)):iB dM (w::ts)=if dU w&&!a7o.contains w then some (⟨w,false,v0⟩,ts) else match dM w with
   |some v=>some (⟨[],false,v⟩,ts)
   |none=>none:=by
 conv=>lhs;unfold iB
 rw[aC h];cases dM w<;>rfl
theorem TT {w:List UInt8} {ts r:List (List UInt8)} {t:Term} (h:w≠[58]) (e:iB dM (w::ts)=some (t,r)):r=ts:=by
 rw[NU h] at e;split at e
 ·cases e;rfl
 ·split at e
  ·cases e;rfl
  ·cases e
def Term.onV (t:Term):Term:=⟨t.name,true,t.v⟩
theorem WB (ts:List (List UInt8)):iB dM ([58]::ts)=match iB dM ts with
   |some (t,r)=>if t.name=[]∨t.var=true then none else some (t.onV,r)
   |none=>none:=by
 conv=>lhs;unfold iB
 rw[aD rfl];rfl
theorem VO [MaxL] (s:List UInt8) (hs:s.length<=20000) (d:Int):∀(ts:List (List UInt8)) (n:Nat),At s n ts->Rd 322 [] s n d (BN ts d)
 |[],n,h=>by
  have hm:s.length<b9:=by unfold b9;omega
  have hw:=rD s n d h hm;have hnb:=h.nb.1;refine Rd.mk n (fun g r e h=>by cases h) ?_;refine jN oP mixed Tryz.func322 rfl (bL rfl) (fun _=>rfl) ?hh ?_
  case hh=>rfl
  have hP:=T4 [] (by decide);have hPc:=SP [];have hN:=CP [];obtain⟨na,hA⟩:=FS [] (by decide) (fun v e=>by cases e);conv=>whnf
  refine B0 (q:=0) hw ?_;conv=>whnf
  refine⟨[.i .i64 (nb s n:Nat)],⟨?_,zL _,rfl,bL rfl⟩,?_⟩
  ·show _=(GV.i .i64 (IntKind.i64.wrap ((nb s n:Int)+0))).cells;rw[dB (by omega) (by omega),Int.add_zero];rfl
  conv=>whnf
  refine sL hN ?_;conv=>whnf
  refine sL hA ?_;conv=>whnf
  refine mG hP hPc ?_;conv=>whnf
  exact OwesO.panics rfl
 |w::ts,n,h=>by
  have hm:s.length<b9:=by unfold b9;omega
  have hw:=rD s n d h hm;obtain⟨h1,h2⟩:=h.tail;have hl2:=h2.1;have hst:∀x:Int,x=((nb s n+w.length:Nat):Int)->[GV.i .i64 ((nb s n+w.length:Nat):Int)]=(GV.i .i64 (IntKind.i64.wrap ((nb s n:Int)+(w.length:Int)))).cells:=fun _ _=>by
   rw[dB (by omega) (by omega)];rfl
  by_cases hc:w=[58]
  ·subst hc;have ih:=VO s hs d ts _ h2;unfold BN at ih⊢;rw[WB];cases ht:iB dM ts with
   |none=>
    rw[ht] at ih;refine Rd.mk 0 (fun g r e h=>by cases h) ?_;refine jN oP mixed Tryz.func322 rfl (bL rfl) (fun _=>rfl) ?hh ?_
    case hh=>rfl
    (conv=>whnf);refine B0 (q:=0) hw ?_;(conv=>whnf);refine⟨[.i .i64 (nb s n+1:Nat)],⟨hst _ rfl,zL _,rfl,bL rfl⟩,?_⟩;(conv=>whnf);refine TE (q:=0) ih ?_;(conv=>whnf);exact jK rfl
   |some p=>
    obtain⟨t,r⟩:=p;rw[ht] at ih;obtain⟨m,hmA,hc⟩:=ih;refine Rd.mk m (fun g r' e h=>?_) ?_
    ·dsimp only at h;split at h
     ·cases h
     ·cases h;exact hmA
    obtain⟨nm,vr,v⟩:=t;by_cases hbad:nm=[]∨vr=true
    ·show Ct _ _ _ _ _ (Option.map _ (Option.map _ (if nm=[]∨vr=true then none else some _)));rw[aD hbad];refine jN oP mixed Tryz.func322 rfl (bL rfl) (fun _=>rfl) ?hh ?_
     case hh=>rfl
     (conv=>whnf);refine B0 (q:=0) hw ?_;(conv=>whnf);refine⟨[.i .i64 (nb s n+1:Nat)],⟨hst _ rfl,zL _,rfl,bL rfl⟩,?_⟩;(conv=>whnf);refine B0 (q:=0) hc ?_;(conv=>whnf);refine sT ?_;(conv=>whnf);apply gM<;>intro hn0<;>conv=>whnf
     ·exact OwesO.panics rfl
     ·have hn0':nm≠[]:=by simpa using hn0
      have hvr:vr=true:=hbad.resolve_left hn0';subst hvr;(conv=>whnf);exact OwesO.panics rfl
    ·show Ct _ _ _ _ _ (Option.map _ (Option.map _ (if nm=[]∨vr=true then none else some _)));rw[aC hbad];have hn0':nm≠[]:=fun e=>hbad (.inl e);have hvr:vr=false:=by cases vr with
      |false=>rfl
      |true=>exact absurd (.inr rfl) hbad
     subst hvr;refine jN oP mixed Tryz.func322 rfl (bL rfl) (fun _=>rfl) ?hh ?_
     case hh=>rfl
     (conv=>whnf);refine B0 (q:=0) hw ?_;(conv=>whnf);refine⟨[.i .i64 (nb s n+1:Nat)],⟨hst _ rfl,zL _,rfl,bL rfl⟩,?_⟩;(conv=>whnf);refine B0 (q:=0) hc ?_;(conv=>whnf);refine sT ?_;(conv=>whnf);apply gM<;>intro hn0<;>conv=>whnf
     ·exact absurd (by simpa using hn0) hn0'
     ·skip;refine sT ?_;(conv=>whnf);refine sT ?_;(conv=>whnf);exact kB rfl rfl (.refl _) (fun _=>rfl) (Term.cl _)
  ·have hrest:=fun(t:Term) (r:List (List UInt8))=>TT (ts:=ts) (t:=t) (r:=r) hc;have htw:=NU hc ts;refine Rd.mk (nb s n+w.length) (fun g r e h=>?_) ?_
   ·unfold BN at h;cases hT:iB dM (w::ts) with
    |none=>rw[hT] at h;cases h
    |some p=>
     obtain⟨t,r'⟩:=p;rw[hT] at h;cases h;rw[hrest _ _ hT];exact h2
   generalize hG:(BN (w::ts) d).map (fun p=>(p.1,rd s (nb s n+w.length) p.2.2))=G;have hwl:w.length<=20000:=by omega
   have hP:=T4 w hwl;have hPc:=SP w;refine jN oP mixed Tryz.func322 rfl (bL rfl) (fun _=>rfl) ?hh ?_
   case hh=>
    rw[<-hG];unfold BN;cases iB dM (w::ts)<;>rfl
   (conv=>whnf);refine B0 (q:=0) hw ?_;(conv=>whnf);refine⟨[.i .i64 (nb s n+w.length:Nat)],⟨hst _ rfl,zL _,rfl,bL rfl⟩,?_⟩;(conv=>whnf);apply gM<;>intro hcc<;>conv=>whnf
   ·exact absurd (by simpa using hcc) hc
   refine sL (CP w) ?_;(conv=>whnf);have names:dU w=true->a7o.contains w=false->G=some (Term.gv ⟨w,false,v0⟩,rd s (nb s n+w.length) d):=fun a b=>by
    rw[<-hG];unfold BN;rw[htw,a,b];rfl
   have hlit:(dU w&&!a7o.contains w)=false->(dM w=none->G=none)/\(∀v,dM w=some v->G=some (Term.gv ⟨[],false,v⟩,rd s (nb s n+w.length) d)):=fun a=>
    ⟨fun b=>by rw[<-hG];unfold BN;rw[htw,a,b];rfl,fun v b=>by rw[<-hG];unfold BN;rw[htw,a,b];rfl⟩
   clear htw hG hrest;cases hnm:dU w
   case' true=>
    (conv=>whnf);refine sL (Y9 w) ?_;(conv=>whnf);cases hk:a7o.contains w
    case false=>
     (conv=>whnf);refine sT ?_;(conv=>whnf);exact kB (names hnm hk) rfl (.refl _) (fun _=>rfl) (Term.cl _)
    obtain⟨hOn,hOs⟩:=hlit (by rw[hnm,hk];rfl)
   case' false=>obtain⟨hOn,hOs⟩:=hlit (by rw[hnm];rfl)
   all_goals
    clear names hlit;(conv=>whnf);by_cases hex:∃v,Lib.atoiAll w=.ok v
    case' pos=>
     obtain⟨k,hk1⟩:=hex;obtain⟨lo,hi⟩:=YB hk1;have hlo:=HP hk1;refine sL (NH w (by omega) k hk1) ?_;(conv=>whnf);refine sL (VW k lo hi) ?_;(conv=>whnf);apply bZ<;>intro heq
     case' yes=>
      (conv=>whnf);have heq':Lib.itoa k=w:=by simpa using heq
      refine sT ?_;(conv=>whnf);refine sL (E0 ⟨1,k,[]⟩) ?_;(conv=>whnf);cases hvv:Val.ok ⟨1,k,[]⟩
      case true=>
       (conv=>whnf);refine sT ?_;(conv=>whnf);exact kB (hOs _ (hlo.trans (aD ⟨heq',hvv⟩))) rfl (.refl _) (fun _=>rfl) (Term.cl _)
      have hq1:dM w=zP w:=hlo.trans (aC (fun h=>by rw[hvv] at h;exact absurd h.2 (by decide)))
     case' no=>
      have heq':¬Lib.itoa k=w:=by simpa using heq
      have hq1:dM w=zP w:=hlo.trans (aC (fun h=>heq' h.1))
    case' neg=>
     obtain⟨na,hA⟩:=FS w (by omega) (fun v e=>hex ⟨v,e⟩);have hq1:dM w=zP w:=B6 (fun v e=>hex ⟨v,e⟩);refine sL hA ?_;conv=>whnf
    all_goals
     (conv=>whnf);refine mG hP hPc ?_;rcases hpr:iZ w with _|_|⟨v,_|⟨v2,vs⟩⟩
     case' some.cons.nil=>
      (conv=>whnf);have hwne:w≠[]:=fun e=>by subst e;cases hpr
      obtain⟨c,w',hcw⟩:=iI hwne;refine⟨by decide,c,by rw[hcw];rfl,?_⟩;(conv=>whnf);apply bZ<;>intro h34
      case yes=>
       (conv=>whnf);have h34':=mO (d:=34) h34;have hO:=hOs v (hq1.trans (by unfold zP;rw[hpr,hcw,h34'];rfl));refine⟨eU 0,v.gv,rfl,rfl,?_⟩;(conv=>whnf);refine sT ?_;(conv=>whnf);refine kB hO rfl (.refl _) (fun _=>rfl) (Term.cl _)
      have h34':=o9 (d:=34) h34
     all_goals
      (conv=>whnf);exact OwesO.panics (hOn (hq1.trans (by unfold zP;rw[hpr];try (rw[hcw];simp[h34']))))
def Tree.ty:Tree->TypeId
 |.pair _ _ _=>259
 |.no _=>261
 |.test _ _ _=>248
 |.truth _=>267
def Tree.cs:Tree->List GV
 |.pair a l r=>[.i .i64 (lL a:Nat),.ifc l.ty (.agg l.cs),.ifc r.ty (.agg r.cs)]
 |.no t=>[.ifc t.ty (.agg t.cs)]
 |.test op l r=>.s op::(l.cs++r.cs)
 |.truth b=>[.b b]
def Tree.gv (t:Tree):GV:=.ifc t.ty (.agg t.cs)
theorem Tree.cs_cl [MaxL]:∀t:Tree,ClL t.cs
 |.pair a l r=>.cons (.i _ _) (.cons (Cl.ifc (eQ l.cs_cl)) (.cons (Cl.ifc (eQ r.cs_cl)) .nil))
 |.no t=>.cons (Cl.ifc (eQ t.cs_cl)) .nil
 |.test op l r=>fun _=>rfl
 |.truth b=>fun _=>rfl
def iG:=@Tree.cs_cl
theorem Tree.cl [MaxL] (t:Tree):Cl t.gv:=Cl.ifc (eQ t.cs_cl)
def jE:=@Tree.cl
inductive Lp [MaxL] (s:List UInt8) (k:FuncId) (w:List UInt8) (a:Bool) (lv:Nat):Nat->Tree->Nat->Nat->Option (Tree×Nat×Nat)->Prop where
 |stop {t:Tree} {n d:Nat} {ts:List (List UInt8)} (h:At s n ts) (hne:ts.headD []≠w):Lp s k w a lv 0 t n d (some (t,nb s n,d))
 |bad {t:Tree} {n d:Nat} {ts:List (List UInt8)} (h:At s n (w::ts)) (hc:SC Tryz.prog k [.ptr 0 0,.i .i64 lv] [rd s (nb s n+w.length) d] (.panic gX) [.dead]):Lp s k w a lv 0 t n d none
 |step {j:Nat} {t m:Tree} {n d n' d':Nat} {ts:List (List UInt8)} {fin:Option (Tree×Nat×Nat)} (h:At s n (w::ts)) (hc:SC Tryz.prog k [.ptr 0 0,.i .i64 lv] [rd s (nb s n+w.length) d] (.val m.gv) [rd s n' d'])
   (hr:Lp s k w a lv j (.pair a t m) n' d' fin):Lp s k w a lv (j+1) t n d fin
def uS (s:List UInt8) (o:Option (Tree×Nat×Nat)):Option (GV×GObj):=o.map fun p=>(p.1.gv,rd s p.2.1 p.2.2)
theorem oL (s:List UInt8) (o:Option (Tree×Nat×Nat)):(uS s o).all (fun q=>q.2.notHeld)=true:=by cases o<;>rfl
theorem a8h [MaxL] (s:List UInt8) (hs:s.length<b9) (lv n d n1 d1 j:Nat) (t:Tree) (fin:Option (Tree×Nat×Nat))
  (hc:SC Tryz.prog 288 [.ptr 0 0,.i .i64 lv] [rd s n d] (.val t.gv) [rd s n1 d1]) (hl:Lp s 288 EA false lv j t n1 d1 fin):
  Ct Tryz.prog 248 [.ptr 0 0,.i .i64 lv] (rd s n d) gX (uS s fin):=by
 refine jN oP mixed Tryz.func248 rfl (bL rfl) (fun _=>rfl) ?hh ?_
 case hh=>exact oL s fin
 conv=>whnf
 refine BL (q:=0) hc (fun _=>rfl) (fun _=>rfl) (fun _=>rfl) t.cl ?_;conv=>whnf
 refine dD (fun q:Nat×Tree×Nat×Nat=>Lp s 288 EA false lv q.1 q.2.1 q.2.2.1 q.2.2.2 fin)
  (fun q=>[(0,.ptr 0 0),(1,.i .i64 lv),(5,q.2.1.gv)]) (fun q=>⟨[rd s q.2.2.1 q.2.2.2],0,[]⟩) (fun q=>q.1) (j,t,n1,d1) hl ⟨rfl,rfl,rfl,trivial⟩ rfl (fun q φ0 hq=>?_)
 obtain⟨j,t,n,d⟩:=q;replace hq:Lp s 288 EA false lv j t n d fin:=hq;conv=>whnf
 cases hq with
 |stop h hne=>
  refine B0 (q:=0) (H9 s n d h hs hne) ?_;conv=>whnf
  exact kB rfl rfl (.refl _) (fun _=>rfl) t.cl
 |bad h hc=>
  refine B0 (q:=0) (wI s n d h hs) ?_;conv=>whnf
  refine TE (q:=0) hc ?_;conv=>whnf
  exact jK rfl
 |step h hc hr=>
  rename_i j m n' d' ts;refine B0 (q:=0) (wI s n d h hs) ?_;conv=>whnf
  refine BL (q:=0) hc (fun _=>rfl) (fun _=>rfl) (fun _=>rfl) m.cl ?_;conv=>whnf
  exact⟨j,Nat.lt_succ_self j,(j,.pair false t m,n',d'),hr,rfl,⟨rfl,rfl,rfl,trivial⟩,rfl⟩
theorem a2r [MaxL] (s:List UInt8) (lv n d:Nat) (hc:SC Tryz.prog 288 [.ptr 0 0,.i .i64 lv] [rd s n d] (.panic gX) [.dead]):
  Ct Tryz.prog 248 [.ptr 0 0,.i .i64 lv] (rd s n d) gX none:=by
 refine jN oP mixed Tryz.func248 rfl (bL rfl) (fun _=>rfl) ?hh ?_
 case hh=>rfl
 conv=>whnf
 refine TE (q:=0) hc ?_;conv=>whnf
 exact jK rfl
theorem a7z [MaxL] (s:List UInt8) (hs:s.length<b9) (lv n d n1 d1 j:Nat) (t:Tree) (fin:Option (Tree×Nat×Nat))
  (hc:SC Tryz.prog 305 [.ptr 0 0,.i .i64 lv] [rd s n d] (.val t.gv) [rd s n1 d1]) (hl:Lp s 305 oS true lv j t n1 d1 fin):
  Ct Tryz.prog 288 [.ptr 0 0,.i .i64 lv] (rd s n d) gX (uS s fin):=by
 refine jN oP mixed Tryz.func288 rfl (bL rfl) (fun _=>rfl) ?hh ?_
 case hh=>exact oL s fin
 conv=>whnf
 refine BL (q:=0) hc (fun _=>rfl) (fun _=>rfl) (fun _=>rfl) t.cl ?_;conv=>whnf
 refine dD (fun q:Nat×Tree×Nat×Nat=>Lp s 305 oS true lv q.1 q.2.1 q.2.2.1 q.2.2.2 fin)
  (fun q=>[(0,.ptr 0 0),(1,.i .i64 lv),(5,q.2.1.gv)]) (fun q=>⟨[rd s q.2.2.1 q.2.2.2],0,[]⟩) (fun q=>q.1) (j,t,n1,d1) hl ⟨rfl,rfl,rfl,trivial⟩ rfl (fun q φ0 hq=>?_)
 obtain⟨j,t,n,d⟩:=q;replace hq:Lp s 305 oS true lv j t n d fin:=hq;conv=>whnf
 cases hq with
 |stop h hne=>
  refine B0 (q:=0) (H9 s n d h hs hne) ?_;conv=>whnf
  exact kB rfl rfl (.refl _) (fun _=>rfl) t.cl
 |bad h hc=>
  refine B0 (q:=0) (wI s n d h hs) ?_;conv=>whnf
  refine TE (q:=0) hc ?_;conv=>whnf
  exact jK rfl
 |step h hc hr=>
  rename_i j m n' d' ts;refine B0 (q:=0) (wI s n d h hs) ?_;conv=>whnf
  refine BL (q:=0) hc (fun _=>rfl) (fun _=>rfl) (fun _=>rfl) m.cl ?_;conv=>whnf
  exact⟨j,Nat.lt_succ_self j,(j,.pair true t m,n',d'),hr,rfl,⟨rfl,rfl,rfl,trivial⟩,rfl⟩
theorem a0B [MaxL] (s:List UInt8) (lv n d:Nat) (hc:SC Tryz.prog 305 [.ptr 0 0,.i .i64 lv] [rd s n d] (.panic gX) [.dead]):
  Ct Tryz.prog 288 [.ptr 0 0,.i .i64 lv] (rd s n d) gX none:=by
 refine jN oP mixed Tryz.func288 rfl (bL rfl) (fun _=>rfl) ?hh ?_
 case hh=>rfl
 conv=>whnf
 refine TE (q:=0) hc ?_;conv=>whnf
 exact jK rfl
theorem H6 [MaxL] {lv:Nat} (h:lv<1000000):IntKind.i64.wrap ((lv:Int)+1)=((lv+1:Nat):Int):=dB (by omega) (by omega)
theorem NG [MaxL] {d lv:Nat} (h:lv<1000000):[GV.i .i64 ((max d (lv+1):Nat):Int)]=(GV.i .i64 (if(d:Int)<IntKind.i64.wrap ((lv:Int)+1) then IntKind.i64.wrap ((lv:Int)+1) else(d:Int))).cells:=by
 rw[H6 h];show[_]=[_];congr 2;split<;>omega
theorem a2s [MaxL] (s:List UInt8) (hs:s.length<b9) (lv n d:Nat) {ts:List (List UInt8)} (h:At s n ts) (hne:ts.headD []≠kX) (fin:Option (Tree×Nat×Nat))
  (hc:Ct Tryz.prog 311 [.ptr 0 0,.i .i64 lv] (rd s (nb s n) d) gX (uS s fin)):
  Ct Tryz.prog 305 [.ptr 0 0,.i .i64 lv] (rd s n d) gX (uS s fin):=by
 refine jN oP mixed Tryz.func305 rfl (bL rfl) (fun _=>rfl) ?hh ?_
 case hh=>exact oL s fin
 conv=>whnf
 refine B0 (q:=0) (H9 s n d h hs hne) ?_;conv=>whnf
 cases fin with
 |none=>
  replace hc:SC Tryz.prog 311 [.ptr 0 0,.i .i64 lv] [rd s (nb s n) d] (.panic gX) [.dead]:=hc;refine TE (q:=0) hc ?_;conv=>whnf
  exact jK rfl
 |some p=>
  replace hc:SC Tryz.prog 311 [.ptr 0 0,.i .i64 lv] [rd s (nb s n) d] (.val p.1.gv) [rd s p.2.1 p.2.2]:=hc;refine BL (q:=0) hc (fun _=>rfl) (fun _=>rfl) (fun _=>rfl) (jE _) ?_;conv=>whnf
  exact kB rfl rfl (.refl _) (fun _=>rfl) (jE _)
theorem a06 [MaxL] (s:List UInt8) (hs:s.length<b9) (lv n d:Nat) (hlv:lv<1000000) {ts:List (List UInt8)} (h:At s n (kX::ts)) (fin:Option (Tree×Nat×Nat))
  (hc:Ct Tryz.prog 311 [.ptr 0 0,.i .i64 (lv+1:Nat)] (rd s (nb s n+3) (max d (lv+1):Nat)) gX (uS s fin)):
  Ct Tryz.prog 305 [.ptr 0 0,.i .i64 lv] (rd s n d) gX (uS s (fin.map fun p=>(.no p.1,p.2))):=by
 refine jN oP mixed Tryz.func305 rfl (bL rfl) (fun _=>rfl) ?hh ?_
 case hh=>exact oL s _
 conv=>whnf
 refine B0 (q:=0) (wI s n d h hs) ?_;conv=>whnf
 refine⟨[.i .i64 (max d (lv+1):Nat)],⟨NG hlv,zL _,rfl,bL rfl⟩,?_⟩;conv=>whnf
 have e:GV.i .i64 (IntKind.i64.wrap ((lv:Int)+1))=.i .i64 ((lv+1:Nat):Int):=by rw[H6 hlv]
 cases fin with
 |none=>
  replace hc:SC Tryz.prog 311 [.ptr 0 0,.i .i64 (lv+1:Nat)] [rd s (nb s n+3) (max d (lv+1):Nat)] (.panic gX) [.dead]:=hc;rw[<-e] at hc;refine TE (q:=0) hc ?_;conv=>whnf
  exact jK rfl
 |some p=>
  replace hc:SC Tryz.prog 311 [.ptr 0 0,.i .i64 (lv+1:Nat)] [rd s (nb s n+3) (max d (lv+1):Nat)] (.val p.1.gv) [rd s p.2.1 p.2.2]:=hc;rw[<-e] at hc;refine BL (q:=0) hc (fun _=>rfl) (fun _=>rfl) (fun _=>rfl) (jE _) ?_;conv=>whnf
  exact kB rfl rfl (.refl _) (fun _=>rfl) (jE (.no p.1))
