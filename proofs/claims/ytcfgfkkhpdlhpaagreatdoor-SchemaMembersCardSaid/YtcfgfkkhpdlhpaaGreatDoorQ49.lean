/-
  A part of the proof of SchemaMembers.
-/
import Derived.Test.YtcfgfkkhpdlhpaaGreatDoorQ48
set_option linter.all false
set_option maxRecDepth 100000
namespace Go.Proofs.YtcfgfkkhpdlhpaaGreatDoor
open Go.RowKit
variable [Globals]
def a2G (g:GV):Prop:=∀(A B:Cx) (u:Value),VR A g u->VR B g u
def Fz (g:GV):Prop:=a2G g∨Cl g
theorem Rel.freeze {C D:Cx} {s:List GObj} {w w':World} {T:TypeId} {cs xs:List GV} {esz:Nat} (hC:∀r,s.length<=r->C.bk r=none/\C.own r=none) (hl:C.le D) (h:Rel D ⟨s++[.box T cs],0,[]⟩ w w') (hs:∀x∈s,∃T cs,x=.box T cs/\∀g∈cs,Fz g)
  (hcs:cs=flat xs) (hw:∀x∈xs,x.cells.length=esz) (hcl:∀g∈cs,Fz g):
  ∃E:Cx,C.le E/\Rel E ⟨s,0,[]⟩ w w'/\(∀(n c:Nat) (v:Value),n=xs.length->VR D (.rs s.length 0 esz n c) v->0<esz->VR E (.sl .none xs) v)/\∀g,Fz g->∀v,VR D g v->VR E g v:=by
 obtain⟨h0,b,vs,h1,h2,h3,_⟩:=h.obj s.length (.box T cs) (by simp);have hd:∀r,s.length<r->D.bk r=none/\D.own r=none:=fun r hr=>h.dom r (by simp;omega);have hown:∀r,D.own r=none:=fun r=>by
  rcases Nat.lt_trichotomy r s.length with hr|hr|hr
  ·obtain⟨T',cs',e,_⟩:=hs s[r] (e8 hr);have:=h.obj r s[r] (by simp[aT hr,gL hr]);rw[e] at this;exact this.1
  ·subst hr;exact h0
  ·exact(hd r hr).2
 let E:Cx:={D with bk:=fun r=>if r=s.length then none else D.bk r,fx:=fun b' o v=>D.fx b' o v∨(b'=b/\vs[o]?=some v)};have hEb:∀r,r≠s.length->E.bk r=D.bk r:=fun r hr=>aE hr;have key:∀g,Fz g->∀u,VR D g u->VR E g u:=fun g hf u h=>by
  rcases hf with hf|hf
  ·exact hf D E u h
  ·refine VR.pull (D:=D) (E:=E) (f:=fun r=>if r=s.length then s.length+1 else r) (fun _ _ _ x=>.inl x) (fun i=>?_) (fun i=>?_) h (hf _).symm
   ·show(if i=s.length then none else D.bk i)=D.bk (if i=s.length then s.length+1 else i);split
    ·exact(hd _ (Nat.lt_succ_self _)).1.symm
    ·rfl
   ·show D.own i=D.own (if i=s.length then s.length+1 else i);rw[hown,hown]
 have keys:∀{gs:List GV} {us:List Value},(∀g∈gs,Fz g)->VRs D gs us->VRs E gs us:=fun hf h=>⟨h.1,fun j g u g1 g2=>key g (hf g (aN g1)) u (h.2 j g u g1 g2)⟩;have hE0:E.bk s.length=none:=aG rfl;have hblk:∀r b',dV E r=some b'->r≠s.length/\D.bk r=some b':=fun r b' hb=>by
  by_cases hr:r=s.length
  ·exfalso;have ho:E.own r=none:=hown r;rw[hr] at hb ho;simp[dV,hE0,ho] at hb
  ·refine⟨hr,?_⟩;have ho:E.own r=none:=hown r;unfold dV at hb;rw[hEb r hr,ho] at hb;cases hq:D.bk r with
   |none=>rw[hq] at hb;cases hb
   |some z=>rw[hq] at hb;exact hb
 refine⟨E,⟨fun _ _ _ x=>.inl (hl.fx _ _ _ x),fun r b' x=>?_,fun r I x=>hl.own r I x,hl.hd,hl.fix⟩,⟨h.below,fun b' o v hx=>?_,fun r x hx=>?_,fun r hr=>?_,fun r b' hb=>h.new r b' (fR (hblk r b' hb).2),
  fun r r' b' hb hb'=>h.inj r r' b' (fR (hblk r b' hb).2) (fR (hblk r' b' hb').2),fun r b' o v hb hx=>?_,fun r I b' sz o v hI _ _=>?_,fun b' o v hx=>?_,
  fun g cs j x hg hj=>(h.gl g cs j x hg hj).imp fun u hu=>⟨.inl hu.1,fun F he=>hu.2 F fun _ _ _ hx=>he _ _ _ (.inl hx)⟩,h.gs⟩,⟨fun n c v hn hv hp=>?_,key⟩⟩
 ·have hr:r≠s.length:=fun e=>by subst e;rw[(hC _ (rL _)).1] at x;cases x
  rw[hEb r hr];exact hl.bk r b' x
 ·rcases hx with hx|⟨rfl,hx⟩
  ·exact h.fxc _ _ _ hx
  ·rw[cell_of_row w' _ o vs T (0,0) h2];exact hx
 ·have hr:r<s.length:=(List.getElem?_eq_some_iff.1 hx).1;obtain⟨T',cs',rfl,hf⟩:=hs x (aN hx);obtain⟨g0,b',vs',g1,g2,g3⟩:=h.obj r (.box T' cs') (by rw[aT hr];exact hx);exact⟨g0,b',vs',(hEb r (by omega)).trans g1,g2,keys hf g3.1,g3.2⟩
 ·refine⟨?_,hown r⟩;have hr:s.length<=r:=hr;by_cases e:r=s.length
  ·rw[e];exact hE0
  ·rw[hEb r e];exact(hd r (by omega)).1
 ·have hr:r≠s.length:=fun e=>by rw[e,hE0] at hb;cases hb
  rw[hEb r hr] at hb;rcases hx with hx|⟨rfl,hx⟩
  ·exact h.sepB r _ _ _ hb hx
  ·exact hr (h.inj r s.length _ (fR hb) (fR h1))
 ·have ho:E.own r=none:=hown r;rw[ho] at hI;cases hI
 ·rcases hx with hx|⟨rfl,hx⟩
  ·exact h.fxn _ _ _ hx
  ·exact .inr (h.new s.length _ (fR h1))
 ·have h4:VRs E cs (vs.toList.take cs.length):=keys hcl h3;rw[hcs] at h4;cases hv with
  |rp hb=>omega
  |rs hb hc _ _=>
   rw[h1] at hb;cases hb;subst hn;refine PM hw h4 (fun j u hj=>?_) hc trivial;rw[bD];refine .inr ⟨rfl,?_⟩;rw[dJ] at hj;split at hj
   ·rw[cZ] at hj;exact hj
   ·cases hj
theorem SC.freezeA {P:Program} {k:FuncId} {args pre post:List GV} {T:TypeId} {cs xs:List GV} {esz n c:Nat} (h:SC P k args [] (.val (.agg (pre++.rs 0 0 esz n c::post))) [.box T cs])
  (hp:0<esz) (hcs:cs=flat xs) (hn:n=xs.length) (hw:∀x∈xs,x.cells.length=esz) (hcl:∀g∈cs,Fz g) (h1:∀g∈pre,Fz g) (h2:∀g∈post,Fz g):
  SC P k args [] (.val (.agg (pre++.sl .none xs::post))) []:=by
 refine⟨rL _,fun C w vs hr hv=>?_,fun x hx=>by cases hx⟩;refine(h.calls C w vs hr hv).mono fun en w' ⟨D,hl,hrD,he⟩=>?_;obtain⟨E,hlE,hrE,hv2,key⟩:=Rel.freeze (s:=[]) (fun r=>hr.dom r) hl hrD (fun x hx=>by cases hx) hcs hw hcl;refine⟨E,hlE,hrE,?_⟩;obtain⟨v,rfl,hv3⟩:=he;cases hv3 with
 |agg hs hvv=>
 rename_i us;refine⟨_,rfl,.agg (by rw[hs];simp) fun j g u g1 g2=>?_⟩;rcases Nat.lt_trichotomy j pre.length with hj|hj|hj
 ·rw[aT hj] at g1;exact key g (h1 g (aN g1)) u (hvv j g u (by rw[aT hj];exact g1) g2)
 ·subst hj;rw[bE (rL _),Nat.sub_self] at g1;cases g1;exact hv2 n c u hn (hvv pre.length _ u (by rw[bE (rL _),Nat.sub_self];rfl) g2) hp
 ·obtain⟨q,rfl⟩:∃q,j=pre.length+(q+1):=⟨j - pre.length - 1,by omega⟩;rw[bE (by omega),show pre.length+(q+1) - pre.length=q+1 by omega] at g1;have g1':post[q]?=some g:=g1;exact key g (h2 g (aN g1')) u (hvv _ g u (by rw[bE (by omega),show pre.length+(q+1) - pre.length=q+1 by omega];exact g1') g2)
theorem SC.nil_or {P:Program} {k:FuncId} {s s':List GObj} {r:GRes} (h1:SC P k [.sl .full []] s r s') (h2:∀p c,SC P k [.o (.slice (some p) 0 c)] s r s'):SC P k [.sl .none []] s r s':=
 ⟨h1.len,fun C w vs hr hv=>by
  obtain⟨v,hvs⟩:∃v,vs.toList=[v]:=List.length_eq_one_iff.1 hv.1;have h0:VR C (.sl .none []) v:=hv.2 0 _ v rfl (by rw[hvs];rfl);have one:∀g,VR C g v->VRs C [g] vs.toList:=fun g hg=>by rw[hvs];exact VRs.cons hg VRs.nil
  cases h0 with
  |sl esz b off us hn hc ha hw hx hv ht=>
  rename_i a n c;have hn0:n=0:=hn;subst hn0;cases a with
  |none=>
   have hc0:c=0:=by rcases ha with h|h|h<;>first|exact h.2|exact h|cases h
   subst hc0;exact h1.calls C w vs hr (one _ (.sl esz b off us rfl (rL _) (.inl ⟨rfl,rfl⟩) hw hx hv ⟨rfl,fun _=>rfl⟩))
  |some p=>exact(h2 p c).calls C w vs hr (one _ (.o rfl)),h1.noheld⟩
end Go.Proofs.YtcfgfkkhpdlhpaaGreatDoor
namespace Go.Proofs.YtcfgfkkhpdlhpaaGreatDoor
open Go.RowKit
theorem a03 [MaxL] (l:List By):(b5 l).all (rE 1)=true:=by
 rw[aS];intro x hx;obtain⟨b,_,rfl⟩:=List.mem_map.1 hx;rfl
theorem a0e [MaxL] (l:List Ky):(sX l).all (rE 2)=true:=by
 rw[aS];intro x hx;obtain⟨b,_,rfl⟩:=List.mem_map.1 hx;rfl
theorem a0Z [MaxL] (l:List Mb):(lX l).all (rE 4)=true:=by
 rw[aS];intro x hx;obtain⟨b,_,rfl⟩:=List.mem_map.1 hx;rfl
theorem UD [MaxL] (l:List By) (hl:l.length<=1000):SC Tryz.prog 161 [.sl .none (b5 l)] [] (.val (.sl .none (b5 l))) []:=by
 cases l with
 |nil=>
  refine SC.nil_or ?_ fun p c=>?_
  ·skip;refine cW Tryz.func161 rfl ?_;(conv=>whnf);exact dH 0 (hw:=bK _ _)
  ·skip;refine cW Tryz.func161 rfl ?_;(conv=>whnf);exact dH 0 (hw:=bK _ _)
 |cons x l=>
  refine cW Tryz.func161 rfl ?_;conv=>whnf
  refine⟨⟨a03 (x::l),rfl,?_⟩,_,_,⟨rfl,rfl⟩,?_⟩
  ·show 0+((x::l).map _).length<=4294967296;rw[cT];omega
  conv=>whnf
  refine⟨⟨zL _,rfl,.inl ⟨rfl,rfl⟩⟩,?_⟩;conv=>whnf
  exact dH 0 (hw:=bK _ _)
theorem KR [MaxL] (l:List Ky) (hl:l.length<=1000):SC Tryz.prog 159 [.sl .none (sX l)] [] (.val (.sl .none (sX l))) []:=by
 cases l with
 |nil=>
  refine SC.nil_or ?_ fun p c=>?_
  ·skip;refine cW Tryz.func159 rfl ?_;(conv=>whnf);exact dH 0 (hw:=bK _ _)
  ·skip;refine cW Tryz.func159 rfl ?_;(conv=>whnf);exact dH 0 (hw:=bK _ _)
 |cons x l=>
  refine cW Tryz.func159 rfl ?_;conv=>whnf
  refine⟨⟨a0e (x::l),rfl,?_⟩,_,_,⟨rfl,rfl⟩,?_⟩
  ·show 0+((x::l).map _).length<=4294967296;rw[cT];omega
  conv=>whnf
  refine⟨⟨zL _,rfl,.inl ⟨rfl,rfl⟩⟩,?_⟩;conv=>whnf
  exact dH 0 (hw:=bK _ _)
theorem WI [MaxL] {g:GV} (h:Cl g):ClL g.cells:=fun e=>by
 cases g with
 |agg cs=>have h1:=h e;rw[GV.ren,cI] at h1;exact GV.agg.inj h1
 |_=>exact aQ (fun x=>[x]) (h e)
theorem YG [MaxL] {l:List GV} (h:∀g∈l,Cl g):ClL (flat l):=fun e=>by
 induction l with
 |nil=>rfl
 |cons g l ih=>rw[nM,d9,WI (h g List.mem_cons_self) e,ih fun g hg=>h g (iU _ hg)]
theorem J1 [MaxL] (l:List Mb):ClL (flat (lX l)):=YG fun g hg=>by
 obtain⟨m,_,rfl⟩:=List.mem_map.1 hg;exact eK (KL.h (l:=ZK m))
theorem UE [MaxL] (x:Mb) (l:List Mb) (hl:l.length<1000):SC Tryz.prog 160 [.sl .none (lX (x::l))] [] (.val (.rs 0 0 4 (x::l).length 0)) [.box 46 (flat (lX (x::l)))]:=by
 refine cW Tryz.func160 rfl ?_;conv=>whnf
 refine⟨⟨a0Z (x::l),rfl,?_⟩,_,_,⟨rfl,rfl⟩,_,⟨rfl,rfl⟩,?_⟩
 ·show 0+((x::l).map _).length<=4294967296;rw[cT,aJ];omega
 conv=>whnf
 refine⟨[2],Lies.one rfl (eQ (J1 (x::l))) (by simp),fun i hi=>absurd hi (d8 i),?_⟩;show Wk (GV.rs 2 0 4 (0+(lX (x::l)).length) 0) (GV.rs (iQ [2] 3 0) 0 4 (x::l).length 0);rw[kG (by simp),show(lX (x::l)).length=(x::l).length from gV _ _,bD];exact .refl _
end Go.Proofs.YtcfgfkkhpdlhpaaGreatDoor
namespace Go.Proofs.YtcfgfkkhpdlhpaaGreatDoor
open Go.RowKit
section
variable [Globals]
theorem L8 [MaxL] {s' objs:List GObj}:iA [] s' objs=objs++s'.map (GObj.ren (iQ [] objs.length)):=by
 apply dR;intro r;rw[iJ (fun k hk=>by cases hk) (zL _)];unfold gP;by_cases hr:r<objs.length
 ·rw[aG hr,aT hr];rfl
 ·rw[aE hr,bE (by omega)];simp
instance {e:Nat->Nat} {r o z n c:Nat}:RG e (.rs r o z n c) (.rs (e r) o z n c):=⟨rfl⟩
instance {n r o z m c:Nat} [k:NL r n]:FG n (.rs r o z m c):=⟨fun e he=>by rw[GV.ren,he r k.h]⟩
theorem cNx [MaxL] {P:Program} {M:FuncId->Bool} {k:FuncId} {args a:List GV} {s' t':List GObj} {r r':GRes} {σ:GS} {K:GRes->GS->Prop} (h:SC P k a [] r s')
  [i1:KL a] [i3:RH (iQ [] σ.objs.length) s' t'] [i4:RR (iQ [] σ.objs.length) r r'] (hk:K r' ⟨σ.objs++t',σ.lo,σ.ds⟩) (hw:Wks args a:=by first|exact wR _|exact wC (bK _ _) (wR _)|exact wC (bK _ _) (wC (bK _ _) (wR _))|exact wC (cO _) (wC (bK _ _) (wR _)))
  (hlo:σ.lo=0:=by rfl) (hM:M k=false:=by rfl):iL P M (.fn k) args σ K:=by
 have hf:=h.fact (σ:=σ) (args':=args) [] ⟨List.nodup_nil,rfl,fun i k x h1=>by simp at h1,fun x hx=>by cases hx⟩ hlo (by rw[i1.h];exact hw);rw[L8,i3.h,i4.h] at hf;exact⟨r',_,hf,(fun k' e hk'=>by cases e;rw[hM] at hk';cases hk'),hk⟩
end
def cpM:FuncId->Bool:=fun k=>!Nat.beq k 160
instance mbF_kl [MaxL] (l:List Mb):KL (flat (lX l)):=⟨J1 l⟩
abbrev cpC [MaxL] (t:Sy) (v:GV):List GV:=[.s t.name,.s t.owner,v,.i .i64 t.order,.sl .none (sX t.keys),.i .i64 t.dups,.i .i64 t.mode]
theorem a0m {α:Type} {l:List α} {i:Nat} (h:i<l.length):∃x,l[i]?=some x:=⟨l[i],gL h⟩
theorem ZJ [MaxL] (l:List Mb):∀x∈lX l,x.cells.length=4:=fun x hx=>by
 obtain⟨b,_,rfl⟩:=List.mem_map.1 hx;rfl
theorem OV [MaxL] {l:List GV} (h:ClL l):∀g∈l,Fz g:=fun g hg=>.inr fun e=>by
 obtain⟨j,hj⟩:=List.mem_iff_getElem?.1 hg;have h1:=aQ (fun l:List GV=>l[j]?) (h e);simp only[aL,hj,eJ] at h1;exact aX h1
theorem SH {α:Type} {l:List α} {k:Nat} {v:α} (h:l[k]?=some v):l=l.take k++[v]++l.drop (k+1):=by
 obtain⟨hk,e⟩:=List.getElem?_eq_some_iff.1 h;have h1:=iF k l;rw[aY hk,e] at h1;rw[bB];exact h1.symm
abbrev cpZ [MaxL]:List GV:=[.s [],.s [],.sl .full [],.i .i64 0,.sl .full [],.i .i64 0,.i .i64 0]
set_option synthInstance.maxSize 2000 in
theorem RQ [MaxL] (t:Sy) (x:Mb) (l:List Mb) (ht:t.ms=x::l) (hl:l.length<1000) (hk:t.keys.length<=1000) (hs:∀m∈t.ms,m.sel.length<=1000):
  SC Tryz.prog 88 [xJ t] [] (.val (.agg (cpC t (.rs 0 0 4 (x::l).length 0)))) [.box 46 (flat (lX (x::l)))]:=by
 have hlen:(x::l).length=l.length+1:=rfl;refine dL cpM mixed Tryz.func88 rfl (bL rfl) (by first|exact rL _|simp) rfl ?_;conv=>whnf
 refine bC (by kernel_rfl) ?_;conv=>whnf
 refine cP (KR t.keys hk) ?_;conv=>whnf
 rw[ht];refine cNx (UE x l hl) ?_;conv=>whnf
 refine st ?_;conv=>whnf
 refine st ?_;conv=>whnf
 refine dF 3 (x::l).length (fun _ _=>True) (fun i _=>[(1,.ptr 0 0),(2,.ptr 1 0),(14,.i .i64 (x::l).length),(15,.i .i64 (i:Nat))])
  (fun _ (_:Unit)=>[.box 39 (cpC t (.rs 2 0 4 (x::l).length 0)),.box 39 cpZ,.box 46 (flat (lX (x::l)))]) [] () trivial (fun i _ φ0 hi _=>?_)
 conv=>whnf
 refine aF (fun h=>?_) (fun h=>?_)<;>conv=>whnf
 ·have hlt:i<(x::l).length:=by have:=aB h;omega
  refine(a0m hlt).elim fun y hy=>?_;have hg:=zX (n:=4) (lX (x::l)) (ZJ _) i (X2 y) 3 (.sl .none (b5 y.sel)) (cU hy) rfl;refine bC (by kernel_rfl) ?_;conv=>whnf
  refine⟨⟨cN _,rfl,by omega⟩,?_⟩;conv=>whnf
  refine⟨.sl .none (b5 y.sel),?_,?_⟩
  ·show(flat (lX (x::l)))[0+(i:Int).toNat*4+3]?=_;rw[bD,aA];exact hg
  conv=>whnf
  refine cP (UD y.sel (hs y (by rw[ht];exact aN hy))) ?_;conv=>whnf
  refine⟨⟨cN _,rfl,by omega⟩,?_⟩;conv=>whnf
  refine⟨flat (lX (x::l)),⟨?_,zL _,rfl,?_⟩,?_⟩
  ·show _=(flat (lX (x::l))).take (0+(i:Int).toNat*4+3)++[.sl .none (b5 y.sel)]++(flat (lX (x::l))).drop (0+(i:Int).toNat*4+3+1);rw[bD,aA];exact SH hg
  ·show 0+(i:Int).toNat*4+3+1<=(flat (lX (x::l))).length;rw[bD,aA];exact(List.getElem?_eq_some_iff.1 hg).1
  conv=>whnf
  exact nx () hlt ⟨hlt,trivial⟩
 ·refine st ?_;conv=>whnf
  refine⟨[2],Lies.one rfl (eQ (J1 (x::l))) (by simp),fun i hi=>absurd hi (d8 i),?_⟩;show Wk _ ((GV.agg (cpC t (.rs 0 0 4 (x::l).length 0))).ren (iQ [2] 3));rw[RG.h (e:=iQ [2] 3) (g:=GV.agg (cpC t (.rs 0 0 4 (x::l).length 0)))];exact cO _
theorem RU [MaxL]:SC Tryz.prog 160 [.sl .none []] [] (.val (.sl .none [])) []:=by
 refine SC.nil_or ?_ fun p c=>?_
 ·skip;refine cW Tryz.func160 rfl ?_;conv=>whnf
  exact dH 0 (hw:=bK _ _)
 ·skip;refine cW Tryz.func160 rfl ?_;conv=>whnf
  exact dH 0 (hw:=bK _ _)
set_option synthInstance.maxSize 2000 in
theorem RS [MaxL] (t:Sy) (ht:t.ms=[]) (hk:t.keys.length<=1000):SC Tryz.prog 88 [xJ t] [] (.val (.agg (cpC t (.sl .none [])))) []:=by
 refine cW Tryz.func88 rfl ?_;conv=>whnf
 refine bC (by kernel_rfl) ?_;conv=>whnf
 refine cP (KR t.keys hk) ?_;conv=>whnf
 rw[ht];refine cP RU ?_;conv=>whnf
 refine st ?_;conv=>whnf
 refine st ?_;conv=>whnf
 refine dF 2 0 (fun _ _=>True) (fun i _=>[(1,.ptr 0 0),(2,.ptr 1 0),(14,.i .i64 (0:Nat)),(15,.i .i64 (i:Nat))])
  (fun _ (_:Unit)=>[.box 39 (cpC t (.sl .none [])),.box 39 cpZ]) [] () trivial (fun i _ φ0 hi _=>?_)
 conv=>whnf
 refine st ?_;conv=>whnf
 exact dH 0
theorem KQ [MaxL] (t:Sy) (hl:t.ms.length<=1000) (hk:t.keys.length<=1000) (hs:∀m∈t.ms,m.sel.length<=1000):SC Tryz.prog 88 [xJ t] [] (.val (xJ t)) []:=by
 have e:xJ t=.agg (cpC t (.sl .none (lX t.ms))):=rfl;cases ht:t.ms with
 |nil=>rw[ht] at e;exact(aQ (fun g=>SC Tryz.prog 88 [xJ t] [] (.val g) []) e).mpr (RS t ht hk)
 |cons x l=>
  rw[ht] at e hl;have h:=RQ t x l ht (by rw[aJ] at hl;omega) hk hs;refine(aQ (fun g=>SC Tryz.prog 88 [xJ t] [] (.val g) []) e).mpr ?_;exact SC.freezeA (pre:=[.s t.name,.s t.owner]) (post:=[.i .i64 t.order,.sl .none (sX t.keys),.i .i64 t.dups,.i .i64 t.mode]) h (by omega) rfl (show(x::l).length=(lX (x::l)).length from(gV _ _).symm) (ZJ (x::l)) (OV (J1 (x::l))) (OV (KL.h (l:=[.s t.name,.s t.owner]))) (OV (KL.h (l:=[.i .i64 t.order,.sl .none (sX t.keys),.i .i64 t.dups,.i .i64 t.mode])))
end Go.Proofs.YtcfgfkkhpdlhpaaGreatDoor
namespace Go.Proofs.YtcfgfkkhpdlhpaaGreatDoor
open Go.RowKit
def ZA:Sy:=⟨[],[],[],0,[],0,0⟩
def mb0:Mb:=⟨[],false,0,[]⟩
def s4 (s:Sch) (n:By):Sy×Int×Int:=if(oM s).2.2==0 then(match s.st.find? (·.name==n) with|none=>(ZA,0,5)|some t=>(t,mC (·.name==n) s.st,0)) else(ZA,0,1)
def B4 (s:Sch) (n r:By):Mb×Int:=if(s4 s n).2.2==0 then(match(s4 s n).1.ms.find? (·.of==r) with|none=>(mb0,8)|some m=>(m,0)) else(mb0,(s4 s n).2.2)
def a08 (s:Sch):Prop:=∀t∈s.st,t.ms.length<=1000/\t.keys.length<=1000/\∀m∈t.ms,m.sel.length<=1000
theorem Wk.tupl [MaxL] {l l':List GV} (h:Wks l l'):Wk (.tup l) (.tup l'):=fun C v hv=>by
 obtain⟨h1,h2⟩:=h.at_;cases hv with
 |tup hs hvv=>
  refine .tup (by rw[hs,h1]) fun j g u g1 g2=>?_;have hj:=(List.getElem?_eq_some_iff.1 g1).1;exact h2 j _ g (gL (by omega)) g1 C u (hvv j _ u (gL (by omega)) g2)
theorem zSy [MaxL]:Wk (.agg cpZ) (xJ ZA):=Wks.agg ⟨.refl _,.refl _,bK _ _,.refl _,bK _ _,.refl _,.refl _,trivial⟩
theorem ZC [MaxL] (s:Sch) (hz:lU s) (hs:a08 s) (n:By):SC Tryz.prog 27 [nG s,.s n] [] (.val (.tup [xJ (s4 s n).1,.i .i64 (s4 s n).2.1,.i .i64 (s4 s n).2.2])) []:=by
 have hv:=PR s hz;have hi:=ZB s hz.1.2.2 n;unfold s4;cases h:((oM s).2.2==0) with
 |false=>
  rw[h] at hv;show SC _ _ _ _ (.val (.tup [xJ ZA,.i .i64 0,.i .i64 1])) _;refine cW Tryz.func27 rfl ?_;conv=>whnf
  refine cP hv ?_;conv=>whnf
  refine st ?_;conv=>whnf
  exact dH 0 (hw:=Wk.tupl ⟨zSy,.refl _,.refl _,trivial⟩)
 |true=>
  rw[h] at hv;rcases jT (fun t:Sy=>t.name==n) s.st with⟨h1,h2,_⟩|⟨i,y,h1,hy,h2,_⟩
  ·rw[h2];show SC _ _ _ _ (.val (.tup [xJ ZA,.i .i64 0,.i .i64 5])) _;refine cW Tryz.func27 rfl ?_;(conv=>whnf);refine cP hv ?_;(conv=>whnf);refine cP hi ?_;(conv=>whnf);refine gY (bQ h1) ?_;(conv=>whnf);refine st ?_;(conv=>whnf);exact dH 0 (hw:=Wk.tupl ⟨zSy,.refl _,.refl _,trivial⟩)
  ·rw[h2,h1];rw[h1] at hi;show SC _ _ _ _ (.val (.tup [xJ y,.i .i64 i,.i .i64 0])) _;have hy':=hs y (aN hy);refine cW Tryz.func27 rfl ?_;(conv=>whnf);refine cP hv ?_;(conv=>whnf);refine cP hi ?_;(conv=>whnf);refine ix (cU hy) ⟨rfl,?_⟩;(conv=>whnf);refine cP (KQ y hy'.1 hy'.2.1 hy'.2.2) ?_;(conv=>whnf);refine st ?_;(conv=>whnf);exact dH 0
theorem a1I [MaxL] (s:Sch) (hz:lU s) (hc:∀r∈s.rc,r.check.length<1000000) (n:By):SC Tryz.prog 35 [nG s,.s n] [] (.val (.tup [xJ (s4 s n).1,.i .i64 (s4 s n).2.1,.i .i64 (s4 s n).2.2])) []:=by
 have hv:=V0 s hz hc;have hi:=IM s hz.1.2.2 n;unfold s4;cases h:((oM s).2.2==0) with
 |false=>
  rw[h] at hv;show SC _ _ _ _ (.val (.tup [xJ ZA,.i .i64 0,.i .i64 1])) _;refine cW Tryz.func35 rfl ?_;conv=>whnf
  refine cP hv ?_;conv=>whnf
  refine st ?_;conv=>whnf
  exact dH 0 (hw:=Wk.tupl ⟨zSy,.refl _,.refl _,trivial⟩)
 |true=>
  rw[h] at hv;rcases jT (fun t:Sy=>t.name==n) s.st with⟨h1,h2,_⟩|⟨i,y,h1,hy,h2,_⟩
  ·rw[h2];show SC _ _ _ _ (.val (.tup [xJ ZA,.i .i64 0,.i .i64 5])) _;refine cW Tryz.func35 rfl ?_;(conv=>whnf);refine cP hv ?_;(conv=>whnf);refine cP hi ?_;(conv=>whnf);refine gY (bQ h1) ?_;(conv=>whnf);refine st ?_;(conv=>whnf);exact dH 0 (hw:=Wk.tupl ⟨zSy,.refl _,.refl _,trivial⟩)
  ·rw[h2,h1];rw[h1] at hi;show SC _ _ _ _ (.val (.tup [xJ y,.i .i64 i,.i .i64 0])) _;refine cW Tryz.func35 rfl ?_;(conv=>whnf);refine cP hv ?_;(conv=>whnf);refine cP hi ?_;(conv=>whnf);refine ix (cU hy) ⟨rfl,?_⟩;(conv=>whnf);refine st ?_;(conv=>whnf);exact dH 0
theorem PN {s:Sch} (hz:lU s) (n:By):(s4 s n).1.ms.length<bH:=by
 unfold s4;split
 ·split
  ·exact bW (Nat.zero_lt_succ 0) (by unfold bH;omega)
  ·rename_i t ht;exact(hz.2.2 t (hZ ht)).1
 ·exact bW (Nat.zero_lt_succ 0) (by unfold bH;omega)
theorem zMb [MaxL]:Wk (.agg [.s [],.b false,.i .i64 0,.sl .full []]) (X2 mb0):=Wks.agg ⟨.refl _,.refl _,.refl _,bK _ _,trivial⟩
theorem NI [MaxL] (s:Sch) (hz:lU s) (hs:a08 s) (n r:By):SC Tryz.prog 22 [nG s,.s n,.s r] [] (.val (.tup [X2 (B4 s n r).1,.i .i64 (B4 s n r).2])) []:=by
 have hv:=ZC s hz hs n;have hm:=PN hz n;unfold B4;generalize hR:s4 s n=R at*;obtain⟨t,i,e⟩:=R;have hi:=z8 t hm r;cases he:(e==0) with
 |false=>
  rw[aE (by simp)];refine cW Tryz.func22 rfl ?_;conv=>whnf
  refine cP hv ?_;conv=>whnf
  refine st ?_;conv=>whnf
  refine gY (show(!(e==0))=true by rw[he];rfl) ?_;conv=>whnf
  refine st ?_;conv=>whnf
  exact dH 0 (hw:=Wk.tupl ⟨zMb,.refl _,trivial⟩)
 |true=>
  cases eq_of_beq he;rw[aG rfl];rcases jT (fun m:Mb=>m.of==r) t.ms with⟨h1,h2,_⟩|⟨j,y,h1,hy,h2,_⟩
  ·rw[show(t,i,(0:Int)).1.ms=t.ms from rfl,h2];refine cW Tryz.func22 rfl ?_;(conv=>whnf);refine cP hv ?_;(conv=>whnf);refine st ?_;(conv=>whnf);refine cP hi ?_;(conv=>whnf);refine gY (bQ h1) ?_;(conv=>whnf);refine st ?_;(conv=>whnf);exact dH 0 (hw:=Wk.tupl ⟨zMb,.refl _,trivial⟩)
  ·rw[show(t,i,(0:Int)).1.ms=t.ms from rfl,h2];rw[h1] at hi;refine cW Tryz.func22 rfl ?_;(conv=>whnf);refine cP hv ?_;(conv=>whnf);refine st ?_;(conv=>whnf);refine cP hi ?_;(conv=>whnf);refine ix (cU hy) ⟨rfl,?_⟩;(conv=>whnf);refine st ?_;(conv=>whnf);exact dH 0
end Go.Proofs.YtcfgfkkhpdlhpaaGreatDoor
namespace Go.Proofs.YtcfgfkkhpdlhpaaGreatDoor
open Go.RowKit
theorem NV [MaxL] (s:Sch) (hz:lU s) (hc:∀r∈s.rc,r.check.length<1000000) (n r:By):SC Tryz.prog 23 [nG s,.s n,.s r] [] (.val (.tup [X2 (B4 s n r).1,.i .i64 (B4 s n r).2])) []:=by
 have hv:=a1I s hz hc n;have hm:=PN hz n;unfold B4;generalize hR:s4 s n=R at*;obtain⟨t,i,e⟩:=R;have hi:=yD t hm r;cases he:(e==0) with
 |false=>
  rw[aE (by simp)];refine cW Tryz.func23 rfl ?_;conv=>whnf
  refine cP hv ?_;conv=>whnf
  refine st ?_;conv=>whnf
  refine gY (show(!(e==0))=true by rw[he];rfl) ?_;conv=>whnf
  refine st ?_;conv=>whnf
  exact dH 0 (hw:=Wk.tupl ⟨zMb,.refl _,trivial⟩)
 |true=>
  cases eq_of_beq he;rw[aG rfl];rcases jT (fun m:Mb=>m.of==r) t.ms with⟨h1,h2,_⟩|⟨j,y,h1,hy,h2,_⟩
  ·rw[show(t,i,(0:Int)).1.ms=t.ms from rfl,h2];refine cW Tryz.func23 rfl ?_;(conv=>whnf);refine cP hv ?_;(conv=>whnf);refine st ?_;(conv=>whnf);refine cP hi ?_;(conv=>whnf);refine gY (bQ h1) ?_;(conv=>whnf);refine st ?_;(conv=>whnf);exact dH 0 (hw:=Wk.tupl ⟨zMb,.refl _,trivial⟩)
  ·rw[show(t,i,(0:Int)).1.ms=t.ms from rfl,h2];rw[h1] at hi;refine cW Tryz.func23 rfl ?_;(conv=>whnf);refine cP hv ?_;(conv=>whnf);refine st ?_;(conv=>whnf);refine cP hi ?_;(conv=>whnf);refine ix (cU hy) ⟨rfl,?_⟩;(conv=>whnf);refine st ?_;(conv=>whnf);exact dH 0
theorem V3 [MaxL] (l:List By) (hl:l.length<bH) (n:By):SC Tryz.prog 26 [.sl .none (b5 l),.s n] [] (.val (.b (l.contains n))) []:=by
 have hi:=PZ l hl n;have e:l.contains n=decide (0<=mC (fun a=>a==n) l):=by
  rw[nE];have h:=dG (fun x:By=>x) l n;rwa [List.map_id'] at h
 rw[e];refine cW Tryz.func26 rfl ?_;conv=>whnf
 refine cP hi ?_;conv=>whnf
 exact dH 0
theorem KZ [MaxL] (l:List By) (hl:l.length<bH):SC Tryz.prog 24 [.sl .none (b5 l),.sl .none (b5 l)] [] (.val (.b true)) []:=by
 have hle:(b5 l).length=l.length:=aP l;unfold bH at hl;refine cW Tryz.func24 rfl ?_;conv=>whnf
 refine gN (show(((b5 l).length:Int) !=(b5 l).length)=false by simp) ?_;conv=>whnf
 refine dF 0 l.length (fun i _=>True) (fun i _=>[(0,.sl .none (b5 l)),(1,.sl .none (b5 l)),(5,.i .i64 (i:Nat))]) (fun _ (_:Unit)=>[]) [] () trivial (fun i _ φ0 hi _=>?_);conv=>whnf
 refine aF (fun h=>?_) (fun h=>?_)<;>conv=>whnf
 ·have hlt:i<l.length:=by have:=aB h;rw[hle] at this;omega
  refine(j6 hlt).elim fun y hy=>?_;refine bC (by kernel_rfl) ?_;conv=>whnf
  refine ix (cU hy) ⟨rfl,?_⟩;conv=>whnf
  refine ix (cU hy) ⟨rfl,?_⟩;conv=>whnf
  refine gN (show(y !=y)=false by simp) ?_;conv=>whnf
  exact nx () hlt ⟨hlt,trivial⟩
 ·exact dH 0
end Go.Proofs.YtcfgfkkhpdlhpaaGreatDoor
namespace Go.Proofs.YtcfgfkkhpdlhpaaGreatDoor
open Go.RowKit
variable [Globals]
theorem OY {n N:Nat} {D C:Cx} (hn:n<=N) (hl:C.le D) (hC:∀r,n<=r->C.bk r=none/\C.own r=none):C.le (D.pull (iQ (List.range n) N)):=by
 have he:∀i,i<n->iQ (List.range n) N i=i:=fun i hi=>by rw[kG (by simpa using hi)];simp
 refine⟨hl.fx,fun i b hb=>?_,fun i I hI=>?_,hl.hd,hl.fix⟩
 ·have hi:i<n:=by
   rcases dX i n with h|h
   ·exact h
   ·rw[(hC i h).1] at hb;cases hb
  show D.bk (iQ (List.range n) N i)=some b;rw[he i hi];exact hl.bk i b hb
 ·have hi:i<n:=by
   rcases dX i n with h|h
   ·exact h
   ·rw[(hC i h).2] at hI;cases hI
  show∃J,D.own (iQ (List.range n) N i)=some J/\_;rw[he i hi];exact hl.own i I hI
theorem Fact.forget {P:Program} {q:Nat} {args:List GV} {σ:GS} {r:GRes} {s' extra:List GObj} {lo:Nat} {ds:List GDef} (h:Fact P (.yld q) args σ r ⟨s'++extra,lo,ds⟩) (hlo:lo=0) (hlen:σ.objs.length<=s'.length) (hc:H0 s') (hh:s'.all GObj.notHeld=true) (hr:∀e,r.ren e=r) (hσ:σ.objs.all GObj.notHeld=true):
  Fact P (.yld q) args σ r ⟨s',lo,ds⟩:=by
 have hh':∀x∈s',x≠ .held:=fun x hx e=>by subst e;have:=List.all_eq_true.1 hh _ hx;cases this
 have hnh:∀k:Nat,σ.objs[k]?≠some .held:=fun k hk=>by
  have:=List.all_eq_true.1 hσ .held (List.mem_iff_getElem?.2 ⟨k,hk⟩);cases this
 refine⟨⟨h.keep.lo,hlen,fun h1 k hk=>?_,fun k hk=>absurd hk (hnh k)⟩,h.ds,fun w0 C w vs hR hv b hb=>?_⟩
 ·have h2:σ.lo=0:=by have h3:lo=σ.lo:=h.keep.lo;omega
  omega
 ·obtain⟨f,t,a,c,h1,h2⟩:=h.calls w0 C w vs hR hv b hb;refine⟨f,t,a,c,h1,h2.mono ?_⟩;rintro e w' ⟨D,hl,hrD,he⟩;refine⟨D.pull (iQ (List.range s'.length) (s'++extra).length),OY (by simp) hl (fun i hi=>hR.dom i (by omega)),?_,?_⟩
  ·have:=hrD.pull (Lies.pre hc hh');exact⟨this.below,this.fxc,this.obj,this.dom,this.new,this.inj,this.sepB,this.sepO,this.fxn,this.gl,this.gs⟩
  ·have he2:ERel D (r.ren (iQ (List.range s'.length) (s'++extra).length)) e:=by rw[hr];exact he
   exact he2.pull (D:=D) (f:=iQ (List.range s'.length) (s'++extra).length) (E:=D.pull (iQ (List.range s'.length) (s'++extra).length)) (fun _ _ _ h=>h) (fun _=>rfl) (fun _=>rfl)
end Go.Proofs.YtcfgfkkhpdlhpaaGreatDoor
namespace Go.Proofs.YtcfgfkkhpdlhpaaGreatDoor
open Go.RowKit
abbrev sT [MaxL] (t:Sy):GObj:=.box 39 (PJ t)
def tO [MaxL]:List Sy->List GObj
 |[]=>[]
 |t::l=>[sT t,.own 1 1 9,.own (l.length+1) 1 9]
def tG [MaxL]:List Sy->GV
 |[]=>.sl .full []
 |t::l=>.sl (.own 9) (b5 ((t::l).map (·.name)))
def tH [MaxL] (s:Sch) (c:FuncId) (n:By) (L:GObj) (d:List Sy):List GObj:=
 .box 26 (nI s)::.box 132 [.fn (.func c) [] [.ptr 2 0]]::.box 9 [.s n]::.box 33 [tG d]::.own 0 0 0::.dfr::L::tO d
theorem yW [MaxL] (s:Sch) (c:FuncId) (n:By) {L:GObj} (hL:L.notHeld=true) (d:List Sy):(tH s c n L d).all GObj.notHeld=true:=by
 cases d<;>simp only[tH,tO,List.all_cons,hL]<;>rfl
set_option synthInstance.maxSize 2000 in
theorem IF [MaxL] (s:Sch) (c:FuncId) (n:By) {L:GObj} (hLr:∀e:Nat->Nat,(∀i,i<7->e i=i)->L.ren e=L) (d:List Sy) (e:Nat->Nat) (he:∀i,i<(tH s c n L d).length->e i=i):(tH s c n L d).map (GObj.ren e)=tH s c n L d:=by
 have h7:∀i,i<7->e i=i:=fun i hi=>he i (by cases d<;>simp only[tH,tO,aJ,b4]<;>omega);have a:FH 7 [.box 26 (nI s),.box 132 [.fn (.func c) [] [.ptr 2 0]],.box 9 [.s n]]:=inferInstance;have a':=a.h e h7;simp only[dN,List.map_nil,List.cons.injEq,and_true] at a';obtain⟨a1,a2,a3⟩:=a';cases d with
 |nil=>
  show[_,_,_,_,_,_,_]=[_,_,_,_,_,_,_];rw[a1,a2,a3,hLr e h7];rfl
 |cons t l=>
  have h10:∀i,i<10->e i=i:=fun i hi=>he i hi;have b:FH 10 [.box 33 [tG (t::l)],sT t]:=⟨fun e he=>(show FH 10 [.box 33 [.sl (.own 9) (b5 ((t::l).map (·.name)))],sT t] from inferInstance).h e he⟩;have b':=b.h e h10;simp only[dN,List.map_nil,List.cons.injEq,and_true] at b';show[_,_,_,_,_,_,_,_,_,_]=[_,_,_,_,_,_,_,_,_,_];rw[a1,a2,a3,hLr e h7,b'.1,b'.2];rfl
theorem a02 [MaxL] (s:Sch) (c:FuncId) (n:By) (L:GObj) (d:List Sy):7<=(tH s c n L d).length:=by
 cases d<;>simp only[tH,tO,aJ,b4]<;>omega
theorem QR {α:Type} {p:α->Bool} {l:List α} {i:Nat} {y:α} (hy:l[i]?=some y):(l.take (i+1)).filter p=(l.take i).filter p++if p y then[y] else[]:=by
 rw[cH,hy,List.filter_append];cases h:p y<;>simp[h]
theorem UB [MaxL] (s:Sch) (hl:s.st.length<=1000) (p:Sy->Bool) (c:FuncId) (hc:c=89∨c=85) (n:By)
  (hp:∀t∈s.st,SC Tryz.prog c [xJ t,.ptr 0 0] [.box 9 [.s n]] (.val (.b (p t))) [.box 9 [.s n]]) (L:GObj) (hL:L.notHeld=true) (hLr:∀e:Nat->Nat,(∀i,i<7->e i=i)->L.ren e=L)
  (hb:∀(d:List Sy) (t:Sy),d.length<=1000->Fact Tryz.prog (.yld 6) [.s t.name] ⟨tH s c n L d++[sT t],0,[]⟩ (.val (.b true)) ⟨tH s c n L (d++[t])++(if d=[] then[] else[sT t]),0,[]⟩):
  SC Tryz.prog 209 [.yld 6,.ptr 0 0,.ptr 1 0] (tH s c n L []) (.val (.tup [])) (tH s c n L (s.st.filter p)):=by
 have hlen:(vF s.st).length=s.st.length:=gV _ _;refine dL oQ mixed Tryz.func209 rfl (bL rfl) (by simp[tH,tO]) (yW s c n hL _) ?_;conv=>whnf
 refine f7 (fun q:Nat×List Sy=>q.1<=s.st.length/\q.2=(s.st.take q.1).filter p) (fun q=>[(0,.yld 6),(1,.ptr 0 0),(2,.ptr 1 0),(7,.sl .none (vF s.st)),(8,.i .i64 (s.st.length:Nat)),(9,.i .i64 (q.1:Nat))]) (fun q=>⟨tH s c n L q.2,0,[]⟩) (fun q=>s.st.length - q.1) (0,[]) ⟨zL _,rfl⟩
  ⟨rfl,rfl,rfl,rfl,by rw[<-hlen];rfl,rfl,trivial⟩ rfl (fun q _=>by show(tH s c n L []).length<=(tH s c n L q.2).length;simp[tH,tO]) (fun q _=>yW s c n hL _) (fun q _ e he=>⟨IF s c n hLr q.2 e he,rfl,?_⟩) (fun q φ0 hq=>?_)
 ·have h7:∀i,i<7->e i=i:=fun i hi=>he i (bW hi (a02 s c n L q.2));show[GV.yld (e 6),GV.ptr (e 0) 0,GV.ptr (e 1) 0,GV.ren e (.sl .none (vF s.st)),_,_]=_;rw[h7 6 (by omega),h7 0 (by omega),h7 1 (by omega),(KG.h (g:=.sl .none (vF s.st))) e];rfl
 obtain⟨i,d⟩:=q;obtain⟨hi,hd⟩:=hq;replace hi:i<=s.st.length:=hi;replace hd:d=(s.st.take i).filter p:=hd;have hdl:d.length<=1000:=by rw[hd];exact eM (List.length_filter_le _ _) (by rw[bP];omega)
 rcases hc with rfl|rfl<;>cases d with
 |nil=>
  conv=>whnf
  refine aF (fun h=>?_) (fun h=>?_)<;>conv=>whnf
  ·have hlt:i<s.st.length:=by have:=aB h;omega
   refine(j6 hlt).elim fun y hy=>?_;have hy':=hp y (aN hy);have hf:=QR (p:=p) hy;rw[<-hd] at hf;refine ix (cU hy) ⟨rfl,?_⟩;(conv=>whnf);refine st ?_;(conv=>whnf);refine cS [2] hy' ?_;(conv=>whnf);refine aF (fun hpy=>?_) (fun hpy=>?_)<;>conv=>whnf
   ·rw[hpy,aG rfl] at hf;refine G5 (hb [] y hdl) ?_;(conv=>whnf);exact nx ([]++[y]) hlt ⟨hlt,hf.symm⟩ (List.take_left)
   ·rw[hpy] at hf;exact nx [] hlt ⟨hlt,by rw[hf];simp⟩
  ·have e:s.st.filter p=[]:=by rw[hd,dI (by have:=aC h;omega)]
   rw[e];exact jU (rest:=[]) (by simp) (by simp[tH,tO]) (IF s _ n hLr _) (yW s _ n hL _) (fun _ _=>rfl) (WkRes.refl _)
 |cons t l=>
  conv=>whnf
  refine aF (fun h=>?_) (fun h=>?_)<;>conv=>whnf
  ·have hlt:i<s.st.length:=by have:=aB h;omega
   refine(j6 hlt).elim fun y hy=>?_;have hy':=hp y (aN hy);have hf:=QR (p:=p) hy;rw[<-hd] at hf;refine ix (cU hy) ⟨rfl,?_⟩;(conv=>whnf);refine st ?_;(conv=>whnf);refine cS [2] hy' ?_;(conv=>whnf);refine aF (fun hpy=>?_) (fun hpy=>?_)<;>conv=>whnf
   ·rw[hpy,aG rfl] at hf;refine G5 (hb (t::l) y hdl) ?_;(conv=>whnf);exact nx ((t::l)++[y]) hlt ⟨hlt,hf.symm⟩ (List.take_left)
   ·rw[hpy] at hf;exact nx (t::l) hlt ⟨hlt,by rw[hf];simp⟩
  ·have e:s.st.filter p=(t::l):=by rw[hd,dI (by have:=aC h;omega)]
   rw[e];exact jU (rest:=[]) (by simp) (by simp[tH,tO]) (IF s _ n hLr _) (yW s _ n hL _) (fun _ _=>rfl) (WkRes.refl _)
