/-
  A part of the proof of SchemaFinds.
-/
import Derived.Test.YtcfgfkkhpdlhpaaGreatDoorT48
set_option linter.all false
set_option maxRecDepth 100000
namespace Go.Proofs.YtcfgfkkhpdlhpaaGreatDoor
open Go.RowKit
variable [Globals]
def a3d (g:GV):Prop:=∀(A B:Cx) (u:Value),VR A g u->VR B g u
def Fz (g:GV):Prop:=a3d g∨Cl g
theorem Rel.freeze {C D:Cx} {s:List GObj} {w w':World} {T:TypeId} {cs xs:List GV} {esz:Nat} (hC:∀r,s.length<=r->C.bk r=none/\C.own r=none) (hl:C.le D) (h:Rel D ⟨s++[.box T cs],0,[]⟩ w w') (hs:∀x∈s,∃T cs,x=.box T cs/\∀g∈cs,Fz g)
  (hcs:cs=flat xs) (hw:∀x∈xs,x.cells.length=esz) (hcl:∀g∈cs,Fz g):
  ∃E:Cx,C.le E/\Rel E ⟨s,0,[]⟩ w w'/\(∀(n c:Nat) (v:Value),n=xs.length->VR D (.rs s.length 0 esz n c) v->0<esz->VR E (.sl .none xs) v)/\∀g,Fz g->∀v,VR D g v->VR E g v:=by
 obtain⟨h0,b,vs,h1,h2,h3,_⟩:=h.obj s.length (.box T cs) (by simp);have hd:∀r,s.length<r->D.bk r=none/\D.own r=none:=fun r hr=>h.dom r (by simp;omega);have hown:∀r,D.own r=none:=fun r=>by
  rcases Nat.lt_trichotomy r s.length with hr|hr|hr
  ·obtain⟨T',cs',e,_⟩:=hs s[r] (eI hr);have:=h.obj r s[r] (by simp[aT hr,gL hr]);rw[e] at this;exact this.1
  ·subst hr;exact h0
  ·exact(hd r hr).2
 let E:Cx:={D with bk:=fun r=>if r=s.length then none else D.bk r,fx:=fun b' o v=>D.fx b' o v∨(b'=b/\vs[o]?=some v)};have hEb:∀r,r≠s.length->E.bk r=D.bk r:=fun r hr=>aE hr;have key:∀g,Fz g->∀u,VR D g u->VR E g u:=fun g hf u h=>by
  rcases hf with hf|hf
  ·exact hf D E u h
  ·refine VR.pull (D:=D) (E:=E) (f:=fun r=>if r=s.length then s.length+1 else r) (fun _ _ _ x=>.inl x) (fun i=>?_) (fun i=>?_) h (hf _).symm
   ·show(if i=s.length then none else D.bk i)=D.bk (if i=s.length then s.length+1 else i);split
    ·exact(hd _ (Nat.lt_succ_self _)).1.symm
    ·rfl
   ·show D.own i=D.own (if i=s.length then s.length+1 else i);rw[hown,hown]
 have keys:∀{gs:List GV} {us:List Value},(∀g∈gs,Fz g)->VRs D gs us->VRs E gs us:=fun hf h=>⟨h.1,fun j g u g1 g2=>key g (hf g (aK g1)) u (h.2 j g u g1 g2)⟩;have hE0:E.bk s.length=none:=aG rfl;have hblk:∀r b',dV E r=some b'->r≠s.length/\D.bk r=some b':=fun r b' hb=>by
  by_cases hr:r=s.length
  ·exfalso;have ho:E.own r=none:=hown r;rw[hr] at hb ho;simp[dV,hE0,ho] at hb
  ·refine⟨hr,?_⟩;have ho:E.own r=none:=hown r;unfold dV at hb;rw[hEb r hr,ho] at hb;cases hq:D.bk r with
   |none=>rw[hq] at hb;cases hb
   |some z=>rw[hq] at hb;exact hb
 refine⟨E,⟨fun _ _ _ x=>.inl (hl.fx _ _ _ x),fun r b' x=>?_,fun r I x=>hl.own r I x,hl.hd,hl.fix⟩,⟨h.below,fun b' o v hx=>?_,fun r x hx=>?_,fun r hr=>?_,fun r b' hb=>h.new r b' (fZ (hblk r b' hb).2),
  fun r r' b' hb hb'=>h.inj r r' b' (fZ (hblk r b' hb).2) (fZ (hblk r' b' hb').2),fun r b' o v hb hx=>?_,fun r I b' sz o v hI _ _=>?_,fun b' o v hx=>?_,
  fun g cs j x hg hj=>(h.gl g cs j x hg hj).imp fun u hu=>⟨.inl hu.1,fun F he=>hu.2 F fun _ _ _ hx=>he _ _ _ (.inl hx)⟩,h.gs⟩,⟨fun n c v hn hv hp=>?_,key⟩⟩
 ·have hr:r≠s.length:=fun e=>by subst e;rw[(hC _ (rL _)).1] at x;cases x
  rw[hEb r hr];exact hl.bk r b' x
 ·rcases hx with hx|⟨rfl,hx⟩
  ·exact h.fxc _ _ _ hx
  ·rw[cell_of_row w' _ o vs T (0,0) h2];exact hx
 ·have hr:r<s.length:=(List.getElem?_eq_some_iff.1 hx).1;obtain⟨T',cs',rfl,hf⟩:=hs x (aK hx);obtain⟨g0,b',vs',g1,g2,g3⟩:=h.obj r (.box T' cs') (by rw[aT hr];exact hx);exact⟨g0,b',vs',(hEb r (by omega)).trans g1,g2,keys hf g3.1,g3.2⟩
 ·refine⟨?_,hown r⟩;have hr:s.length<=r:=hr;by_cases e:r=s.length
  ·rw[e];exact hE0
  ·rw[hEb r e];exact(hd r (by omega)).1
 ·have hr:r≠s.length:=fun e=>by rw[e,hE0] at hb;cases hb
  rw[hEb r hr] at hb;rcases hx with hx|⟨rfl,hx⟩
  ·exact h.sepB r _ _ _ hb hx
  ·exact hr (h.inj r s.length _ (fZ hb) (fZ h1))
 ·have ho:E.own r=none:=hown r;rw[ho] at hI;cases hI
 ·rcases hx with hx|⟨rfl,hx⟩
  ·exact h.fxn _ _ _ hx
  ·exact .inr (h.new s.length _ (fZ h1))
 ·have h4:VRs E cs (vs.toList.take cs.length):=keys hcl h3;rw[hcs] at h4;cases hv with
  |rp hb=>omega
  |rs hb hc _ _=>
   rw[h1] at hb;cases hb;subst hn;refine QR hw h4 (fun j u hj=>?_) hc trivial;rw[bB];refine .inr ⟨rfl,?_⟩;rw[dJ] at hj;split at hj
   ·rw[dB] at hj;exact hj
   ·cases hj
theorem SC.freezeA {P:Program} {k:FuncId} {args pre post:List GV} {T:TypeId} {cs xs:List GV} {esz n c:Nat} (h:SC P k args [] (.val (.agg (pre++.rs 0 0 esz n c::post))) [.box T cs])
  (hp:0<esz) (hcs:cs=flat xs) (hn:n=xs.length) (hw:∀x∈xs,x.cells.length=esz) (hcl:∀g∈cs,Fz g) (h1:∀g∈pre,Fz g) (h2:∀g∈post,Fz g):
  SC P k args [] (.val (.agg (pre++.sl .none xs::post))) []:=by
 refine⟨rL _,fun C w vs hr hv=>?_,fun x hx=>by cases hx⟩;refine(h.calls C w vs hr hv).mono fun en w' ⟨D,hl,hrD,he⟩=>?_;obtain⟨E,hlE,hrE,hv2,key⟩:=Rel.freeze (s:=[]) (fun r=>hr.dom r) hl hrD (fun x hx=>by cases hx) hcs hw hcl;refine⟨E,hlE,hrE,?_⟩;obtain⟨v,rfl,hv3⟩:=he;cases hv3 with
 |agg hs hvv=>
 rename_i us;refine⟨_,rfl,.agg (by rw[hs];simp) fun j g u g1 g2=>?_⟩;rcases Nat.lt_trichotomy j pre.length with hj|hj|hj
 ·rw[aT hj] at g1;exact key g (h1 g (aK g1)) u (hvv j g u (by rw[aT hj];exact g1) g2)
 ·subst hj;rw[bF (rL _),Nat.sub_self] at g1;cases g1;exact hv2 n c u hn (hvv pre.length _ u (by rw[bF (rL _),Nat.sub_self];rfl) g2) hp
 ·obtain⟨q,rfl⟩:∃q,j=pre.length+(q+1):=⟨j - pre.length - 1,by omega⟩;rw[bF (by omega),show pre.length+(q+1) - pre.length=q+1 by omega] at g1;have g1':post[q]?=some g:=g1;exact key g (h2 g (aK g1')) u (hvv _ g u (by rw[bF (by omega),show pre.length+(q+1) - pre.length=q+1 by omega];exact g1') g2)
theorem SC.nil_or {P:Program} {k:FuncId} {s s':List GObj} {r:GRes} (h1:SC P k [.sl .full []] s r s') (h2:∀p c,SC P k [.o (.slice (some p) 0 c)] s r s'):SC P k [.sl .none []] s r s':=
 ⟨h1.len,fun C w vs hr hv=>by
  obtain⟨v,hvs⟩:∃v,vs.toList=[v]:=List.length_eq_one_iff.1 hv.1;have h0:VR C (.sl .none []) v:=hv.2 0 _ v rfl (by rw[hvs];rfl);have one:∀g,VR C g v->VRs C [g] vs.toList:=fun g hg=>by rw[hvs];exact VRs.cons hg VRs.nil
  cases h0 with
  |sl esz b off us hn hc ha hw hx hv ht=>
  rename_i a n c;have hn0:n=0:=hn;subst hn0;cases a with
  |none=>
   have hc0:c=0:=by rcases ha with h|h|h<;>first|exact h.2|exact h|cases h
   subst hc0;exact h1.calls C w vs hr (one _ (.sl esz b off us rfl (rL _) (.inl ⟨rfl,rfl⟩) hw hx hv ⟨rfl,fun _=>rfl⟩))
  |some p=>exact(h2 p c).calls C w vs hr (one _ (.o rfl)),h1.noheld⟩
end Go.Proofs.YtcfgfkkhpdlhpaaGreatDoor
namespace Go.Proofs.YtcfgfkkhpdlhpaaGreatDoor
open Go.RowKit
theorem a1C [MaxL] (l:List By):(aZ l).all (r4 1)=true:=by
 rw[aS];intro x hx;obtain⟨b,_,rfl⟩:=List.mem_map.1 hx;rfl
theorem a1t [MaxL] (l:List Ky):(tQ l).all (r4 2)=true:=by
 rw[aS];intro x hx;obtain⟨b,_,rfl⟩:=List.mem_map.1 hx;rfl
theorem a1o [MaxL] (l:List Mb):(kV l).all (r4 4)=true:=by
 rw[aS];intro x hx;obtain⟨b,_,rfl⟩:=List.mem_map.1 hx;rfl
theorem EX [MaxL] (l:List By) (hl:l.length<=1000):SC Tryz.prog 161 [.sl .none (aZ l)] [] (.val (.sl .none (aZ l))) []:=by
 cases l with
 |nil=>
  refine SC.nil_or ?_ fun p c=>?_
  ·skip;refine cZ Tryz.func161 rfl ?_;(conv=>whnf);exact d6 0 (hw:=bE _ _)
  ·skip;refine cZ Tryz.func161 rfl ?_;(conv=>whnf);exact d6 0 (hw:=bE _ _)
 |cons x l=>
  refine cZ Tryz.func161 rfl ?_;conv=>whnf
  refine⟨⟨a1C (x::l),rfl,?_⟩,_,_,⟨rfl,rfl⟩,?_⟩
  ·show 0+((x::l).map _).length<=4294967296;rw[bQ];omega
  conv=>whnf
  refine⟨⟨zL _,rfl,.inl ⟨rfl,rfl⟩⟩,?_⟩;conv=>whnf
  exact d6 0 (hw:=bE _ _)
theorem M0 [MaxL] (l:List Ky) (hl:l.length<=1000):SC Tryz.prog 159 [.sl .none (tQ l)] [] (.val (.sl .none (tQ l))) []:=by
 cases l with
 |nil=>
  refine SC.nil_or ?_ fun p c=>?_
  ·skip;refine cZ Tryz.func159 rfl ?_;(conv=>whnf);exact d6 0 (hw:=bE _ _)
  ·skip;refine cZ Tryz.func159 rfl ?_;(conv=>whnf);exact d6 0 (hw:=bE _ _)
 |cons x l=>
  refine cZ Tryz.func159 rfl ?_;conv=>whnf
  refine⟨⟨a1t (x::l),rfl,?_⟩,_,_,⟨rfl,rfl⟩,?_⟩
  ·show 0+((x::l).map _).length<=4294967296;rw[bQ];omega
  conv=>whnf
  refine⟨⟨zL _,rfl,.inl ⟨rfl,rfl⟩⟩,?_⟩;conv=>whnf
  exact d6 0 (hw:=bE _ _)
theorem Y2 [MaxL] {g:GV} (h:Cl g):ClL g.cells:=fun e=>by
 cases g with
 |agg cs=>have h1:=h e;rw[GV.ren,cQ] at h1;exact GV.agg.inj h1
 |_=>exact aQ (fun x=>[x]) (h e)
theorem SE [MaxL] {l:List GV} (h:∀g∈l,Cl g):ClL (flat l):=fun e=>by
 induction l with
 |nil=>rfl
 |cons g l ih=>rw[nV,cO,Y2 (h g fO) e,ih fun g hg=>h g (f6 _ hg)]
theorem K4 [MaxL] (l:List Mb):ClL (flat (kV l)):=SE fun g hg=>by
 obtain⟨m,_,rfl⟩:=List.mem_map.1 hg;exact eO (KL.h (l:=mbC m))
theorem VX [MaxL] (x:Mb) (l:List Mb) (hl:l.length<1000):SC Tryz.prog 160 [.sl .none (kV (x::l))] [] (.val (.rs 0 0 4 (x::l).length 0)) [.box 46 (flat (kV (x::l)))]:=by
 refine cZ Tryz.func160 rfl ?_;conv=>whnf
 refine⟨⟨a1o (x::l),rfl,?_⟩,_,_,⟨rfl,rfl⟩,_,⟨rfl,rfl⟩,?_⟩
 ·show 0+((x::l).map _).length<=4294967296;rw[bQ,aJ];omega
 conv=>whnf
 refine⟨[2],Lies.one rfl (eM (K4 (x::l))) (by simp),fun i hi=>absurd hi (cM i),?_⟩;show Wk (GV.rs 2 0 4 (0+(kV (x::l)).length) 0) (GV.rs (iT [2] 3 0) 0 4 (x::l).length 0);rw[kF (by simp),show(kV (x::l)).length=(x::l).length from fN _ _,bB];exact .refl _
end Go.Proofs.YtcfgfkkhpdlhpaaGreatDoor
namespace Go.Proofs.YtcfgfkkhpdlhpaaGreatDoor
open Go.RowKit
section
variable [Globals]
theorem MG [MaxL] {s' objs:List GObj}:iI [] s' objs=objs++s'.map (GObj.ren (iT [] objs.length)):=by
 apply dS;intro r;rw[iR (fun k hk=>by cases hk) (zL _)];unfold gX;by_cases hr:r<objs.length
 ·rw[aG hr,aT hr];rfl
 ·rw[aE hr,bF (by omega)];simp
instance {e:Nat->Nat} {r o z n c:Nat}:RG e (.rs r o z n c) (.rs (e r) o z n c):=⟨rfl⟩
instance {n r o z m c:Nat} [k:NL r n]:FG n (.rs r o z m c):=⟨fun e he=>by rw[GV.ren,he r k.h]⟩
theorem cNx [MaxL] {P:Program} {M:FuncId->Bool} {k:FuncId} {args a:List GV} {s' t':List GObj} {r r':GRes} {σ:GS} {K:GRes->GS->Prop} (h:SC P k a [] r s')
  [i1:KL a] [i3:RH (iT [] σ.objs.length) s' t'] [i4:RR (iT [] σ.objs.length) r r'] (hk:K r' ⟨σ.objs++t',σ.lo,σ.ds⟩) (hw:Wks args a:=by first|exact wR _|exact wC (bE _ _) (wR _)|exact wC (bE _ _) (wC (bE _ _) (wR _))|exact wC (cY _) (wC (bE _ _) (wR _)))
  (hlo:σ.lo=0:=by rfl) (hM:M k=false:=by rfl):iU P M (.fn k) args σ K:=by
 have hf:=h.fact (σ:=σ) (args':=args) [] ⟨List.nodup_nil,rfl,fun i k x h1=>by simp at h1,fun x hx=>by cases hx⟩ hlo (by rw[i1.h];exact hw);rw[MG,i3.h,i4.h] at hf;exact⟨r',_,hf,(fun k' e hk'=>by cases e;rw[hM] at hk';cases hk'),hk⟩
end
def cpM:FuncId->Bool:=fun k=>!Nat.beq k 160
instance mbF_kl [MaxL] (l:List Mb):KL (flat (kV l)):=⟨K4 l⟩
abbrev cpC [MaxL] (t:Sy) (v:GV):List GV:=[.s t.name,.s t.owner,v,.i .i64 t.order,.sl .none (tQ t.keys),.i .i64 t.dups,.i .i64 t.mode]
theorem a25 {α:Type} {l:List α} {i:Nat} (h:i<l.length):∃x,l[i]?=some x:=⟨l[i],gL h⟩
theorem a0p [MaxL] (l:List Mb):∀x∈kV l,x.cells.length=4:=fun x hx=>by
 obtain⟨b,_,rfl⟩:=List.mem_map.1 hx;rfl
theorem C4 [MaxL] {l:List GV} (h:ClL l):∀g∈l,Fz g:=fun g hg=>.inr fun e=>by
 obtain⟨j,hj⟩:=List.mem_iff_getElem?.1 hg;have h1:=aQ (fun l:List GV=>l[j]?) (h e);simp only[aM,hj,eL] at h1;exact aY h1
theorem TW {α:Type} {l:List α} {k:Nat} {v:α} (h:l[k]?=some v):l=l.take k++[v]++l.drop (k+1):=by
 obtain⟨hk,e⟩:=List.getElem?_eq_some_iff.1 h;have h1:=iM k l;rw[aX hk,e] at h1;rw[bD];exact h1.symm
abbrev cpZ [MaxL]:List GV:=[.s [],.s [],.sl .full [],.i .i64 0,.sl .full [],.i .i64 0,.i .i64 0]
set_option synthInstance.maxSize 2000 in
theorem T6 [MaxL] (t:Sy) (x:Mb) (l:List Mb) (ht:t.ms=x::l) (hl:l.length<1000) (hk:t.keys.length<=1000) (hs:∀m∈t.ms,m.sel.length<=1000):
  SC Tryz.prog 88 [xZ t] [] (.val (.agg (cpC t (.rs 0 0 4 (x::l).length 0)))) [.box 46 (flat (kV (x::l)))]:=by
 have hlen:(x::l).length=l.length+1:=rfl;refine cH cpM mixed Tryz.func88 rfl (bL rfl) (by first|exact rL _|simp) rfl ?_;conv=>whnf
 refine b9 (by kernel_rfl) ?_;conv=>whnf
 refine cP (M0 t.keys hk) ?_;conv=>whnf
 rw[ht];refine cNx (VX x l hl) ?_;conv=>whnf
 refine st ?_;conv=>whnf
 refine st ?_;conv=>whnf
 refine cK 3 (x::l).length (fun _ _=>True) (fun i _=>[(1,.ptr 0 0),(2,.ptr 1 0),(14,.i .i64 (x::l).length),(15,.i .i64 (i:Nat))])
  (fun _ (_:Unit)=>[.box 39 (cpC t (.rs 2 0 4 (x::l).length 0)),.box 39 cpZ,.box 46 (flat (kV (x::l)))]) [] () trivial (fun i _ φ0 hi _=>?_)
 conv=>whnf
 refine aF (fun h=>?_) (fun h=>?_)<;>conv=>whnf
 ·have hlt:i<(x::l).length:=by have:=aA h;omega
  refine(a25 hlt).elim fun y hy=>?_;have hg:=AI (n:=4) (kV (x::l)) (a0p _) i (YO y) 3 (.sl .none (aZ y.sel)) (cE hy) rfl;refine b9 (by kernel_rfl) ?_;conv=>whnf
  refine⟨⟨cN _,rfl,by omega⟩,?_⟩;conv=>whnf
  refine⟨.sl .none (aZ y.sel),?_,?_⟩
  ·show(flat (kV (x::l)))[0+(i:Int).toNat*4+3]?=_;rw[bB,aC];exact hg
  conv=>whnf
  refine cP (EX y.sel (hs y (by rw[ht];exact aK hy))) ?_;conv=>whnf
  refine⟨⟨cN _,rfl,by omega⟩,?_⟩;conv=>whnf
  refine⟨flat (kV (x::l)),⟨?_,zL _,rfl,?_⟩,?_⟩
  ·show _=(flat (kV (x::l))).take (0+(i:Int).toNat*4+3)++[.sl .none (aZ y.sel)]++(flat (kV (x::l))).drop (0+(i:Int).toNat*4+3+1);rw[bB,aC];exact TW hg
  ·show 0+(i:Int).toNat*4+3+1<=(flat (kV (x::l))).length;rw[bB,aC];exact(List.getElem?_eq_some_iff.1 hg).1
  conv=>whnf
  exact nx () hlt ⟨hlt,trivial⟩
 ·refine st ?_;conv=>whnf
  refine⟨[2],Lies.one rfl (eM (K4 (x::l))) (by simp),fun i hi=>absurd hi (cM i),?_⟩;show Wk _ ((GV.agg (cpC t (.rs 0 0 4 (x::l).length 0))).ren (iT [2] 3));rw[RG.h (e:=iT [2] 3) (g:=GV.agg (cpC t (.rs 0 0 4 (x::l).length 0)))];exact cY _
theorem T9 [MaxL]:SC Tryz.prog 160 [.sl .none []] [] (.val (.sl .none [])) []:=by
 refine SC.nil_or ?_ fun p c=>?_
 ·skip;refine cZ Tryz.func160 rfl ?_;conv=>whnf
  exact d6 0 (hw:=bE _ _)
 ·skip;refine cZ Tryz.func160 rfl ?_;conv=>whnf
  exact d6 0 (hw:=bE _ _)
set_option synthInstance.maxSize 2000 in
theorem T7 [MaxL] (t:Sy) (ht:t.ms=[]) (hk:t.keys.length<=1000):SC Tryz.prog 88 [xZ t] [] (.val (.agg (cpC t (.sl .none [])))) []:=by
 refine cZ Tryz.func88 rfl ?_;conv=>whnf
 refine b9 (by kernel_rfl) ?_;conv=>whnf
 refine cP (M0 t.keys hk) ?_;conv=>whnf
 rw[ht];refine cP T9 ?_;conv=>whnf
 refine st ?_;conv=>whnf
 refine st ?_;conv=>whnf
 refine cK 2 0 (fun _ _=>True) (fun i _=>[(1,.ptr 0 0),(2,.ptr 1 0),(14,.i .i64 (0:Nat)),(15,.i .i64 (i:Nat))])
  (fun _ (_:Unit)=>[.box 39 (cpC t (.sl .none [])),.box 39 cpZ]) [] () trivial (fun i _ φ0 hi _=>?_)
 conv=>whnf
 refine st ?_;conv=>whnf
 exact d6 0
theorem LZ [MaxL] (t:Sy) (hl:t.ms.length<=1000) (hk:t.keys.length<=1000) (hs:∀m∈t.ms,m.sel.length<=1000):SC Tryz.prog 88 [xZ t] [] (.val (xZ t)) []:=by
 have e:xZ t=.agg (cpC t (.sl .none (kV t.ms))):=rfl;cases ht:t.ms with
 |nil=>rw[ht] at e;exact(aQ (fun g=>SC Tryz.prog 88 [xZ t] [] (.val g) []) e).mpr (T7 t ht hk)
 |cons x l=>
  rw[ht] at e hl;have h:=T6 t x l ht (by rw[aJ] at hl;omega) hk hs;refine(aQ (fun g=>SC Tryz.prog 88 [xZ t] [] (.val g) []) e).mpr ?_;exact SC.freezeA (pre:=[.s t.name,.s t.owner]) (post:=[.i .i64 t.order,.sl .none (tQ t.keys),.i .i64 t.dups,.i .i64 t.mode]) h (by omega) rfl (show(x::l).length=(kV (x::l)).length from(fN _ _).symm) (a0p (x::l)) (C4 (K4 (x::l))) (C4 (KL.h (l:=[.s t.name,.s t.owner]))) (C4 (KL.h (l:=[.i .i64 t.order,.sl .none (tQ t.keys),.i .i64 t.dups,.i .i64 t.mode])))
end Go.Proofs.YtcfgfkkhpdlhpaaGreatDoor
namespace Go.Proofs.YtcfgfkkhpdlhpaaGreatDoor
open Go.RowKit
def sy0:Sy:=⟨[],[],[],0,[],0,0⟩
def uO (s:Sch) (n:By):Sy×Int×Int:=if(mP s).2.2==0 then(match s.st.find? (·.name==n) with|none=>(sy0,0,5)|some t=>(t,m6 (·.name==n) s.st,0)) else(sy0,0,1)
def Z3 (s:Sch):Prop:=∀t∈s.st,t.ms.length<=1000/\t.keys.length<=1000/\∀m∈t.ms,m.sel.length<=1000
theorem Wk.tupl [MaxL] {l l':List GV} (h:Wks l l'):Wk (.tup l) (.tup l'):=fun C v hv=>by
 obtain⟨h1,h2⟩:=h.at_;cases hv with
 |tup hs hvv=>
  refine .tup (by rw[hs,h1]) fun j g u g1 g2=>?_;have hj:=(List.getElem?_eq_some_iff.1 g1).1;exact h2 j _ g (gL (by omega)) g1 C u (hvv j _ u (gL (by omega)) g2)
theorem zSy [MaxL]:Wk (.agg cpZ) (xZ sy0):=Wks.agg ⟨.refl _,.refl _,bE _ _,.refl _,bE _ _,.refl _,.refl _,trivial⟩
theorem a0f [MaxL] (s:Sch) (hz:kI s) (hs:Z3 s) (n:By):SC Tryz.prog 27 [lC s,.s n] [] (.val (.tup [xZ (uO s n).1,.i .i64 (uO s n).2.1,.i .i64 (uO s n).2.2])) []:=by
 have hv:=DP s hz;have hi:=a0e s hz.1.2.2 n;unfold uO;cases h:((mP s).2.2==0) with
 |false=>
  rw[h] at hv;show SC _ _ _ _ (.val (.tup [xZ sy0,.i .i64 0,.i .i64 1])) _;refine cZ Tryz.func27 rfl ?_;conv=>whnf
  refine cP hv ?_;conv=>whnf
  refine st ?_;conv=>whnf
  exact d6 0 (hw:=Wk.tupl ⟨zSy,.refl _,.refl _,trivial⟩)
 |true=>
  rw[h] at hv;rcases j5 (fun t:Sy=>t.name==n) s.st with⟨h1,h2,_⟩|⟨i,y,h1,hy,h2,_⟩
  ·rw[h2];show SC _ _ _ _ (.val (.tup [xZ sy0,.i .i64 0,.i .i64 5])) _;refine cZ Tryz.func27 rfl ?_;(conv=>whnf);refine cP hv ?_;(conv=>whnf);refine cP hi ?_;(conv=>whnf);refine gY (bS h1) ?_;(conv=>whnf);refine st ?_;(conv=>whnf);exact d6 0 (hw:=Wk.tupl ⟨zSy,.refl _,.refl _,trivial⟩)
  ·rw[h2,h1];rw[h1] at hi;show SC _ _ _ _ (.val (.tup [xZ y,.i .i64 i,.i .i64 0])) _;have hy':=hs y (aK hy);refine cZ Tryz.func27 rfl ?_;(conv=>whnf);refine cP hv ?_;(conv=>whnf);refine cP hi ?_;(conv=>whnf);refine ix (cE hy) ⟨rfl,?_⟩;(conv=>whnf);refine cP (LZ y hy'.1 hy'.2.1 hy'.2.2) ?_;(conv=>whnf);refine st ?_;(conv=>whnf);exact d6 0
theorem a0k [MaxL] (s:Sch) (hz:kI s) (hc:∀r∈s.rc,r.check.length<1000000) (n:By):SC Tryz.prog 35 [lC s,.s n] [] (.val (.tup [xZ (uO s n).1,.i .i64 (uO s n).2.1,.i .i64 (uO s n).2.2])) []:=by
 have hv:=F5 s hz hc;have hi:=DR s hz.1.2.2 n;unfold uO;cases h:((mP s).2.2==0) with
 |false=>
  rw[h] at hv;show SC _ _ _ _ (.val (.tup [xZ sy0,.i .i64 0,.i .i64 1])) _;refine cZ Tryz.func35 rfl ?_;conv=>whnf
  refine cP hv ?_;conv=>whnf
  refine st ?_;conv=>whnf
  exact d6 0 (hw:=Wk.tupl ⟨zSy,.refl _,.refl _,trivial⟩)
 |true=>
  rw[h] at hv;rcases j5 (fun t:Sy=>t.name==n) s.st with⟨h1,h2,_⟩|⟨i,y,h1,hy,h2,_⟩
  ·rw[h2];show SC _ _ _ _ (.val (.tup [xZ sy0,.i .i64 0,.i .i64 5])) _;refine cZ Tryz.func35 rfl ?_;(conv=>whnf);refine cP hv ?_;(conv=>whnf);refine cP hi ?_;(conv=>whnf);refine gY (bS h1) ?_;(conv=>whnf);refine st ?_;(conv=>whnf);exact d6 0 (hw:=Wk.tupl ⟨zSy,.refl _,.refl _,trivial⟩)
  ·rw[h2,h1];rw[h1] at hi;show SC _ _ _ _ (.val (.tup [xZ y,.i .i64 i,.i .i64 0])) _;refine cZ Tryz.func35 rfl ?_;(conv=>whnf);refine cP hv ?_;(conv=>whnf);refine cP hi ?_;(conv=>whnf);refine ix (cE hy) ⟨rfl,?_⟩;(conv=>whnf);refine st ?_;(conv=>whnf);exact d6 0
end Go.Proofs.YtcfgfkkhpdlhpaaGreatDoor
namespace Go.Proofs.YtcfgfkkhpdlhpaaGreatDoor
open Go.RowKit
theorem a0l [MaxL] (l:List By) (hl:l.length<bH) (n:By):SC Tryz.prog 26 [.sl .none (aZ l),.s n] [] (.val (.b (l.contains n))) []:=by
 have hi:=R5 l hl n;have e:l.contains n=decide (0<=m6 (fun a=>a==n) l):=by
  rw[lP];have h:=dU (fun x:By=>x) l n;rwa [List.map_id'] at h
 rw[e];refine cZ Tryz.func26 rfl ?_;conv=>whnf
 refine cP hi ?_;conv=>whnf
 exact d6 0
theorem w8 [MaxL] (l:List By) (hl:l.length<bH):SC Tryz.prog 24 [.sl .none (aZ l),.sl .none (aZ l)] [] (.val (.b true)) []:=by
 have hle:(aZ l).length=l.length:=aP l;unfold bH at hl;refine cZ Tryz.func24 rfl ?_;conv=>whnf
 refine gN (show(((aZ l).length:Int) !=(aZ l).length)=false by simp) ?_;conv=>whnf
 refine cK 0 l.length (fun i _=>True) (fun i _=>[(0,.sl .none (aZ l)),(1,.sl .none (aZ l)),(5,.i .i64 (i:Nat))]) (fun _ (_:Unit)=>[]) [] () trivial (fun i _ φ0 hi _=>?_);conv=>whnf
 refine aF (fun h=>?_) (fun h=>?_)<;>conv=>whnf
 ·have hlt:i<l.length:=by have:=aA h;rw[hle] at this;omega
  refine(gQ hlt).elim fun y hy=>?_;refine b9 (by kernel_rfl) ?_;conv=>whnf
  refine ix (cE hy) ⟨rfl,?_⟩;conv=>whnf
  refine ix (cE hy) ⟨rfl,?_⟩;conv=>whnf
  refine gN (show(y !=y)=false by simp) ?_;conv=>whnf
  exact nx () hlt ⟨hlt,trivial⟩
 ·exact d6 0
end Go.Proofs.YtcfgfkkhpdlhpaaGreatDoor
namespace Go.Proofs.YtcfgfkkhpdlhpaaGreatDoor
open Go.RowKit
variable [Globals]
theorem Q6 {n N:Nat} {D C:Cx} (hn:n<=N) (hl:C.le D) (hC:∀r,n<=r->C.bk r=none/\C.own r=none):C.le (D.pull (iT (List.range n) N)):=by
 have he:∀i,i<n->iT (List.range n) N i=i:=fun i hi=>by rw[kF (by simpa using hi)];simp
 refine⟨hl.fx,fun i b hb=>?_,fun i I hI=>?_,hl.hd,hl.fix⟩
 ·have hi:i<n:=by
   rcases dX i n with h|h
   ·exact h
   ·rw[(hC i h).1] at hb;cases hb
  show D.bk (iT (List.range n) N i)=some b;rw[he i hi];exact hl.bk i b hb
 ·have hi:i<n:=by
   rcases dX i n with h|h
   ·exact h
   ·rw[(hC i h).2] at hI;cases hI
  show∃J,D.own (iT (List.range n) N i)=some J/\_;rw[he i hi];exact hl.own i I hI
theorem Fact.forget {P:Program} {q:Nat} {args:List GV} {σ:GS} {r:GRes} {s' extra:List GObj} {lo:Nat} {ds:List GDef} (h:Fact P (.yld q) args σ r ⟨s'++extra,lo,ds⟩) (hlo:lo=0) (hlen:σ.objs.length<=s'.length) (hc:HS s') (hh:s'.all GObj.notHeld=true) (hr:∀e,r.ren e=r) (hσ:σ.objs.all GObj.notHeld=true):
  Fact P (.yld q) args σ r ⟨s',lo,ds⟩:=by
 have hh':∀x∈s',x≠ .held:=fun x hx e=>by subst e;have:=List.all_eq_true.1 hh _ hx;cases this
 have hnh:∀k:Nat,σ.objs[k]?≠some .held:=fun k hk=>by
  have:=List.all_eq_true.1 hσ .held (List.mem_iff_getElem?.2 ⟨k,hk⟩);cases this
 refine⟨⟨h.keep.lo,hlen,fun h1 k hk=>?_,fun k hk=>absurd hk (hnh k)⟩,h.ds,fun w0 C w vs hR hv b hb=>?_⟩
 ·have h2:σ.lo=0:=by have h3:lo=σ.lo:=h.keep.lo;omega
  omega
 ·obtain⟨f,t,a,c,h1,h2⟩:=h.calls w0 C w vs hR hv b hb;refine⟨f,t,a,c,h1,h2.mono ?_⟩;rintro e w' ⟨D,hl,hrD,he⟩;refine⟨D.pull (iT (List.range s'.length) (s'++extra).length),Q6 (by simp) hl (fun i hi=>hR.dom i (by omega)),?_,?_⟩
  ·have:=hrD.pull (Lies.pre hc hh');exact⟨this.below,this.fxc,this.obj,this.dom,this.new,this.inj,this.sepB,this.sepO,this.fxn,this.gl,this.gs⟩
  ·have he2:ERel D (r.ren (iT (List.range s'.length) (s'++extra).length)) e:=by rw[hr];exact he
   exact he2.pull (D:=D) (f:=iT (List.range s'.length) (s'++extra).length) (E:=D.pull (iT (List.range s'.length) (s'++extra).length)) (fun _ _ _ h=>h) (fun _=>rfl) (fun _=>rfl)
end Go.Proofs.YtcfgfkkhpdlhpaaGreatDoor
namespace Go.Proofs.YtcfgfkkhpdlhpaaGreatDoor
open Go.RowKit
abbrev sT [MaxL] (t:Sy):GObj:=.box 39 (H9 t)
def tO [MaxL]:List Sy->List GObj
 |[]=>[]
 |t::l=>[sT t,.own 1 1 9,.own (l.length+1) 1 9]
def tG [MaxL]:List Sy->GV
 |[]=>.sl .full []
 |t::l=>.sl (.own 9) (aZ ((t::l).map (·.name)))
def tH [MaxL] (s:Sch) (c:FuncId) (n:By) (L:GObj) (d:List Sy):List GObj:=
 .box 26 (lI s)::.box 132 [.fn (.func c) [] [.ptr 2 0]]::.box 9 [.s n]::.box 33 [tG d]::.own 0 0 0::.dfr::L::tO d
theorem zN [MaxL] (s:Sch) (c:FuncId) (n:By) {L:GObj} (hL:L.notHeld=true) (d:List Sy):(tH s c n L d).all GObj.notHeld=true:=by
 cases d<;>simp only[tH,tO,gK,hL]<;>rfl
set_option synthInstance.maxSize 2000 in
theorem JC [MaxL] (s:Sch) (c:FuncId) (n:By) {L:GObj} (hLr:∀e:Nat->Nat,(∀i,i<7->e i=i)->L.ren e=L) (d:List Sy) (e:Nat->Nat) (he:∀i,i<(tH s c n L d).length->e i=i):(tH s c n L d).map (GObj.ren e)=tH s c n L d:=by
 have h7:∀i,i<7->e i=i:=fun i hi=>he i (by cases d<;>simp only[tH,tO,aJ,b5]<;>omega);have a:FH 7 [.box 26 (lI s),.box 132 [.fn (.func c) [] [.ptr 2 0]],.box 9 [.s n]]:=inferInstance;have a':=a.h e h7;simp only[dO,List.map_nil,List.cons.injEq,and_true] at a';obtain⟨a1,a2,a3⟩:=a';cases d with
 |nil=>
  show[_,_,_,_,_,_,_]=[_,_,_,_,_,_,_];rw[a1,a2,a3,hLr e h7];rfl
 |cons t l=>
  have h10:∀i,i<10->e i=i:=fun i hi=>he i hi;have b:FH 10 [.box 33 [tG (t::l)],sT t]:=⟨fun e he=>(show FH 10 [.box 33 [.sl (.own 9) (aZ ((t::l).map (·.name)))],sT t] from inferInstance).h e he⟩;have b':=b.h e h10;simp only[dO,List.map_nil,List.cons.injEq,and_true] at b';show[_,_,_,_,_,_,_,_,_,_]=[_,_,_,_,_,_,_,_,_,_];rw[a1,a2,a3,hLr e h7,b'.1,b'.2];rfl
theorem a1A [MaxL] (s:Sch) (c:FuncId) (n:By) (L:GObj) (d:List Sy):7<=(tH s c n L d).length:=by
 cases d<;>simp only[tH,tO,aJ,b5]<;>omega
theorem L7 {α:Type} {p:α->Bool} {l:List α} {i:Nat} {y:α} (hy:l[i]?=some y):(l.take (i+1)).filter p=(l.take i).filter p++if p y then[y] else[]:=by
 rw[bR,hy,List.filter_append];cases h:p y<;>simp[h]
theorem VV [MaxL] (s:Sch) (hl:s.st.length<=1000) (p:Sy->Bool) (c:FuncId) (hc:c=89∨c=85) (n:By)
  (hp:∀t∈s.st,SC Tryz.prog c [xZ t,.ptr 0 0] [.box 9 [.s n]] (.val (.b (p t))) [.box 9 [.s n]]) (L:GObj) (hL:L.notHeld=true) (hLr:∀e:Nat->Nat,(∀i,i<7->e i=i)->L.ren e=L)
  (hb:∀(d:List Sy) (t:Sy),d.length<=1000->Fact Tryz.prog (.yld 6) [.s t.name] ⟨tH s c n L d++[sT t],0,[]⟩ (.val (.b true)) ⟨tH s c n L (d++[t])++(if d=[] then[] else[sT t]),0,[]⟩):
  SC Tryz.prog 209 [.yld 6,.ptr 0 0,.ptr 1 0] (tH s c n L []) (.val (.tup [])) (tH s c n L (s.st.filter p)):=by
 have hlen:(rP s.st).length=s.st.length:=fN _ _;refine cH oY mixed Tryz.func209 rfl (bL rfl) (by simp[tH,tO]) (zN s c n hL _) ?_;conv=>whnf
 refine fI (fun q:Nat×List Sy=>q.1<=s.st.length/\q.2=(s.st.take q.1).filter p) (fun q=>[(0,.yld 6),(1,.ptr 0 0),(2,.ptr 1 0),(7,.sl .none (rP s.st)),(8,.i .i64 (s.st.length:Nat)),(9,.i .i64 (q.1:Nat))]) (fun q=>⟨tH s c n L q.2,0,[]⟩) (fun q=>s.st.length - q.1) (0,[]) ⟨zL _,rfl⟩
  ⟨rfl,rfl,rfl,rfl,by rw[<-hlen];rfl,rfl,trivial⟩ rfl (fun q _=>by show(tH s c n L []).length<=(tH s c n L q.2).length;simp[tH,tO]) (fun q _=>zN s c n hL _) (fun q _ e he=>⟨JC s c n hLr q.2 e he,rfl,?_⟩) (fun q φ0 hq=>?_)
 ·have h7:∀i,i<7->e i=i:=fun i hi=>he i (cT hi (a1A s c n L q.2));show[GV.yld (e 6),GV.ptr (e 0) 0,GV.ptr (e 1) 0,GV.ren e (.sl .none (rP s.st)),_,_]=_;rw[h7 6 (by omega),h7 0 (by omega),h7 1 (by omega),(KG.h (g:=.sl .none (rP s.st))) e];rfl
 obtain⟨i,d⟩:=q;obtain⟨hi,hd⟩:=hq;replace hi:i<=s.st.length:=hi;replace hd:d=(s.st.take i).filter p:=hd;have hdl:d.length<=1000:=by rw[hd];exact e8 (iN _ _) (by rw[bN];omega)
 rcases hc with rfl|rfl<;>cases d with
 |nil=>
  conv=>whnf
  refine aF (fun h=>?_) (fun h=>?_)<;>conv=>whnf
  ·have hlt:i<s.st.length:=by have:=aA h;omega
   refine(gQ hlt).elim fun y hy=>?_;have hy':=hp y (aK hy);have hf:=L7 (p:=p) hy;rw[<-hd] at hf;refine ix (cE hy) ⟨rfl,?_⟩;(conv=>whnf);refine st ?_;(conv=>whnf);refine cS [2] hy' ?_;(conv=>whnf);refine aF (fun hpy=>?_) (fun hpy=>?_)<;>conv=>whnf
   ·rw[hpy,aG rfl] at hf;refine GY (hb [] y hdl) ?_;(conv=>whnf);exact nx ([]++[y]) hlt ⟨hlt,hf.symm⟩ (List.take_left)
   ·rw[hpy] at hf;exact nx [] hlt ⟨hlt,by rw[hf];simp⟩
  ·have e:s.st.filter p=[]:=by rw[hd,bX (by have:=aB h;omega)]
   rw[e];exact k7 (rest:=[]) (by simp) (by simp[tH,tO]) (JC s _ n hLr _) (zN s _ n hL _) (fun _ _=>rfl) (WkRes.refl _)
 |cons t l=>
  conv=>whnf
  refine aF (fun h=>?_) (fun h=>?_)<;>conv=>whnf
  ·have hlt:i<s.st.length:=by have:=aA h;omega
   refine(gQ hlt).elim fun y hy=>?_;have hy':=hp y (aK hy);have hf:=L7 (p:=p) hy;rw[<-hd] at hf;refine ix (cE hy) ⟨rfl,?_⟩;(conv=>whnf);refine st ?_;(conv=>whnf);refine cS [2] hy' ?_;(conv=>whnf);refine aF (fun hpy=>?_) (fun hpy=>?_)<;>conv=>whnf
   ·rw[hpy,aG rfl] at hf;refine GY (hb (t::l) y hdl) ?_;(conv=>whnf);exact nx ((t::l)++[y]) hlt ⟨hlt,hf.symm⟩ (List.take_left)
   ·rw[hpy] at hf;exact nx (t::l) hlt ⟨hlt,by rw[hf];simp⟩
  ·have e:s.st.filter p=(t::l):=by rw[hd,bX (by have:=aB h;omega)]
   rw[e];exact k7 (rest:=[]) (by simp) (by simp[tH,tO]) (JC s _ n hLr _) (zN s _ n hL _) (fun _ _=>rfl) (WkRes.refl _)
end Go.Proofs.YtcfgfkkhpdlhpaaGreatDoor
namespace Go.Proofs.YtcfgfkkhpdlhpaaGreatDoor
open Go.RowKit
theorem PF.put [MaxL] {e:Nat->Nat} {φ:Fr} {d:Nat} {g:GV} (h:∀t,(φ t).ren e=φ t) (hg:g.ren e=g):∀t,(SA φ d g t).ren e=SA φ d g t:=fun t=>by
 rw[vF];by_cases ht:t=d
 ·subst ht;rw[C6];exact hg
 ·rw[zD ht];exact h t
theorem PF.start [MaxL] {e:Nat->Nat} {args:List GV} (h:args.map (GV.ren e)=args):∀t,(nS args t).ren e=nS args t:=fun t=>by
 unfold nS;rw[aO];have h1:=aQ (fun l:List GV=>l[t]?) h;simp only[aM] at h1;cases h2:args[t]? with
 |none=>rfl
 |some g=>rw[h2] at h1;simpa using h1
theorem MX [MaxL] {e:Nat->Nat} {st:LoopState} {pe:Option Code} {n:Nat} {φ:Fr} {ps:Array Tmp} {asg body:Code} {rd:Nat} (h:∀t,(φ t).ren e=φ t) (h8:e rd=rd):(GObj.loop st pe n φ ps asg body rd).ren e=.loop st pe n φ ps asg body rd:=by
 show GObj.loop st pe n (fun t=>(φ t).ren e) ps asg body (e rd)=_;rw[h8,show(fun t=>(φ t).ren e)=φ from funext h]
theorem QN [MaxL] (s:Sch) (c:FuncId) (n:By) {L:GObj} (hL:L.notHeld=true) (d:List Sy) (t:Sy):(tH s c n L d++[sT t]).all GObj.notHeld=true:=by
 rw[List.all_append,zN s c n hL];rfl
theorem a19 [MaxL] (s:Sch) (c:FuncId) (n:By) {L:GObj} (hLr:∀e:Nat->Nat,(∀i,i<7->e i=i)->L.ren e=L) (d:List Sy) (t:Sy):HS (tH s c n L d++[sT t]):=fun e he=>by
 rw[cO,JC s c n hLr d e (fun i hi=>he i (by rw[aD];omega))];exact aQ (_++ ·) ((FH.h (n:=0) (s:=[sT t]) e (fun i hi=>absurd hi (cM i))))
theorem Z0 [MaxL] (l:List By):(aZ l).all (fun x=>x.cells.length==1)=true:=by
 rw[aS];intro x hx;obtain⟨b,_,rfl⟩:=List.mem_map.1 hx;rfl
theorem W0 [MaxL] (s:Sch) (hl:s.st.length<=1000) (p:Sy->Bool) (c:FuncId) (hc:c=89∨c=85) (n:By)
  (hp:∀t∈s.st,SC Tryz.prog c [xZ t,.ptr 0 0] [.box 9 [.s n]] (.val (.b (p t))) [.box 9 [.s n]]):
  SC Tryz.prog 208 [.sl .full [],.fn (.func 209) [] [.ptr 0 0,.ptr 1 0]] [.box 26 (lI s),.box 132 [.fn (.func c) [] [.ptr 2 0]],.box 9 [.s n]]
   (.val (.sl .none (aZ ((s.st.filter p).map (·.name))))) [.box 26 (lI s),.box 132 [.fn (.func c) [] [.ptr 2 0]],.box 9 [.s n]]:=by
 refine cZ Tryz.func208 rfl ?_;conv=>whnf
 refine⟨.val (.tup []),⟨tH s c n (.loop .ready none _ _ _ _ _ 5) (s.st.filter p),0,[.coll 5]⟩,SC.factAll (VV s hl p c hc n hp (.loop .ready none _ _ _ _ _ 5) rfl (fun e he=>?hLr) (fun d t hd=>?hb)) rfl rfl ?hh,?_⟩
 case hh=>
  intro x hx e;subst e;have h1:=List.all_eq_true.1 (show List.all _ GObj.notHeld=true from rfl) _ hx;cases h1
 case hLr=>
  refine MX ?_ (he 5 (by omega));repeat' first
   |exact PF.start (FL.h (n:=7) e he)
   |exact FG.h (n:=7) e he
   |exact(FG.h (n:=7) e he:GV.ren e (.ptr 3 0)=.ptr 3 0)
   |exact(FG.h (n:=7) e he:GV.ren e (.sl (.own 4) [])=.sl (.own 4) [])
   |refine PF.put ?_ ?_
 case hb=>
  cases d with
  |nil=>
   refine Fact.yld oY mixed (r:=6) rfl rfl (by kernel_rfl) rfl rfl (bL rfl) rfl rfl ?_;(conv=>whnf);refine⟨⟨rfl,rfl,bL rfl⟩,_,_,⟨rfl,rfl⟩,?_⟩;(conv=>whnf);refine st ?_;(conv=>whnf);rfl
  |cons t0 l=>
   have hn:(aZ ((t0::l).map (·.name))).length=l.length+1:=by rw[aP,bQ];rfl
   have hd':l.length+1<=1000:=hd;refine Fact.forget (extra:=[.own 1 1 9]) ?_ rfl ?_ ?_ ?_ (fun _=>rfl) ?_
   ·refine Fact.yld oY mixed (r:=6) rfl rfl (by kernel_rfl) rfl rfl ?_ rfl rfl ?_
    ·simp[tH,tO]
    (conv=>whnf);refine⟨⟨rfl,Z0 _,?_⟩,aZ ((t0::(l++[t])).map (·.name)),(l++[t]).length+1,⟨?_,?_⟩,?_⟩
    ·show(aZ ((t0::l).map (·.name))).length+1<=4294967296;rw[hn];omega
    ·show aZ ((t0::(l++[t])).map (·.name))=aZ ((t0::l).map (·.name))++[.s t.name];simp[aZ]
    ·show(l++[t]).length+1=(aZ ((t0::l).map (·.name))).length+1;rw[hn,aD];rfl
    (conv=>whnf);refine⟨⟨zL _,hn.symm,.inl ⟨rfl,rfl⟩⟩,?_⟩;(conv=>whnf);refine st ?_;(conv=>whnf);rfl
   ·simp[tH,tO]
   ·refine a19 s c n (fun e he=>MX ?_ (he 5 (by omega))) _ t;repeat' first
     |exact PF.start (FL.h (n:=7) e he)
     |exact FG.h (n:=7) e he
     |exact(FG.h (n:=7) e he:GV.ren e (.ptr 3 0)=.ptr 3 0)
     |exact(FG.h (n:=7) e he:GV.ren e (.sl (.own 4) [])=.sl (.own 4) [])
     |refine PF.put ?_ ?_
   ·exact QN s c n rfl _ t
   ·exact QN s c n rfl _ t
 generalize s.st.filter p=F;cases F with
 |nil=>
  conv=>whnf
  exact d6 3 (hw:=bE _ _)
 |cons t l=>
  conv=>whnf
  exact d6 3 (hw:=bE _ _)
