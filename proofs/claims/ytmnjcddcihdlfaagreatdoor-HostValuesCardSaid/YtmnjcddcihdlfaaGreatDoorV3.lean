/- Part of HostValues. -/
import Derived.Test.YtmnjcddcihdlfaaGreatDoorV2
import Derived.Lib.ConvBytes
import Derived.Laws.BytesString
set_option linter.all false
namespace Go.Proofs.YtmnjcddcihdlfaaGreatDoor
open Go.RowKit
variable [Globals]
def Runs (P:Program) (C:Cx) (w0 w:World) (σ':GS) (g:GV) (s:Sem Value):Prop:=
 ∃D v w',C.le D/\Rel D σ' w0 w'/\VR D g v/\s.run P w=.ok v w'
section
variable {P : Program} {C : Cx} {σ : GS} {w0 w : World}
theorem Runs.pure {g:GV} {v:Value} {s:Sem Value} (h:Rel C σ w0 w) (hv:VR C g v) (hr:s.run P w=.ok v w):Runs P C w0 w σ g s:=⟨C,v,w,.refl C,h,hv,hr⟩
theorem tV {t:TypeId} {b:Bool} (h:XM P t=some b) (w:World):(isAgg t).run P w=.ok b w:=by
 unfold XM at h;unfold isAgg;cases hu:P.underlying t with
 |none=>rw[hu] at h;cases h
 |some d=>
  rw[hu] at h;simp only[Sem.run_bind,run_underlying hu,Result.andThen_ok];cases d<;>simp at h<;>subst h<;>rfl
theorem dX {t:TypeId} {n:Nat} (h:dR P t=some n) (w:World):(sizeOf t).run P w=.ok n w:=by
 unfold dR at h;cases hi:P.info? t with
 |none=>rw[hi] at h;cases h
 |some i=>rw[hi] at h;simp at h;simp[sizeOf,typeInfo,hi,h]
theorem tT {t:TypeId} {n:Nat} (h:dR P t=some n):∃i,P.info? t=some i/\i.size=n:=by
 unfold dR at h;cases hi:P.info? t with
 |none=>rw[hi] at h;cases h
 |some i=>rw[hi] at h;exact⟨i,rfl,by simpa using h⟩
theorem iV {t e:TypeId} (h:iP P t=some e):P.underlying t=some (.slice e):=by
 unfold iP at h;split at h<;>simp at h;subst h;assumption
theorem AL {t e:TypeId} {n:Nat} (h:zS P t=some (n,e)):P.underlying t=some (.array n e):=by
 unfold zS at h;split at h<;>simp at h;obtain⟨rfl,rfl⟩:=h;assumption
theorem iS {t k e:TypeId} (h:pW P t=some (k,e)):P.underlying t=some (.map k e):=by
 unfold pW at h;split at h<;>simp at h;obtain⟨rfl,rfl⟩:=h;assumption
theorem F3 {s:TypeId} {f o:Nat} {ft:TypeId} (h:yJ P s f=some (o,ft)):∃fs x,P.underlying s=some (.struct fs)/\fs[f]?=some x/\x.offset=o/\x.type=ft:=by
 unfold yJ at h;split at h
 ·rename_i fs hu;cases hx:fs[f]? with
  |none=>rw[hx] at h;cases h
  |some x=>rw[hx] at h;simp at h;exact⟨fs,x,hu,hx,h.1,h.2⟩
 ·cases h
theorem wP {t:TypeId} {k:Nat} (h:eU P t=some k):∃d,P.underlying t=some d:=by
 unfold eU at h;cases hu:P.underlying t with
 |none=>rw[hu] at h;cases h
 |some d=>exact⟨d,rfl⟩
theorem jH {t:TypeId} (h:eU P t=some 1):P.underlying t=some .string:=by
 unfold eU at h;split at h<;>simp at h;assumption
theorem EM {t:TypeId} (h:eU P t=some 2):P.underlying t=some .bool:=by
 unfold eU at h;split at h<;>simp at h;assumption
theorem vF {t:TypeId} (h:eU P t=some 3):∃ms,P.underlying t=some (.interface ms):=by
 unfold eU at h;split at h<;>simp at h;exact⟨_,by assumption⟩
theorem sI {t:TypeId} (h:eU P t=some 4):∃e,P.underlying t=some (.pointer e):=by
 unfold eU at h;split at h<;>simp at h;exact⟨_,by assumption⟩
theorem lZ {t:TypeId} (h:eU P t=some 6):∃e,P.underlying t=some (.slice e):=by
 unfold eU at h;split at h<;>simp at h;exact⟨_,by assumption⟩
theorem wQ {t:TypeId} {k:IntKind} (h:G7 P t=some k):P.underlying t=some (.int k):=by
 unfold G7 at h;split at h<;>simp at h;subst h;assumption
theorem EG {t:TypeId} {k:Nat} (h:eU P t=some k) (hk:k≠3):∃d,P.underlying t=some d/\∀ms,d≠ .interface ms:=by
 obtain⟨d,hd⟩:=wP h;refine⟨d,hd,fun ms e=>?_⟩;subst e;unfold eU at h;rw[hd] at h;simp at h;exact hk h.symm
theorem DO (C:Cx):∀(n:Nat) (v:Value),VR C (AI n v) v:=by
 intro n;induction n with
 |zero=>intro v;exact .any v
 |succ n ih=>
  intro v;unfold AI;split
  ·exact .b _
  ·exact .i _ _
  ·rename_i s;have:s=⟨s.data.toList.toArray⟩:=by cases s;simp
   rw[this];simpa using VR.s (C:=C) s.data.toList
  ·exact .sl 0 0 0 (fun _=>undef) rfl (rL _) (.inl ⟨rfl,rfl⟩) (fun x hx=>by cases hx) (fun i x j g h=>by simp at h) (fun i x j g h=>by simp at h) ⟨rfl,fun _=>rfl⟩
  ·rename_i vs;refine .agg (by simp) (fun j g u h1 h2=>?_);rw[aG,bJ,h2] at h1;cases h1;exact ih u
  ·split
   ·exact .o (by assumption)
   ·exact .any _
theorem dK (C:Cx) (v:Value):VR C (kD v) v:=DO C 3 v
theorem jY {t:TypeId} {z:GV} (h:iE P t=some z) (w:World):∃v,(zeroValue t).run P w=.ok v w/\z=kD v:=by
 unfold iE at h;cases hi:P.info? t with
 |none=>rw[hi] at h;cases h
 |some i=>
  rw[hi] at h;cases hz:i.zero with
  |none=>rw[bC,hz] at h;cases h
  |some v=>
   rw[bC,hz] at h;cases h;exact⟨v,by simp[zeroValue,typeInfo,hi,hz],rfl⟩
def FRel (C:Cx) (φ:Nat->GV) (a:Act):Prop:=∀t,VR C (φ t) (a.tmps.getD t undef)
theorem FRel.mono {D:Cx} {φ:Nat->GV} {a:Act} (hl:C.le D) (h:FRel C φ a):FRel D φ a:=fun t=>(h t).mono hl
theorem cQ {φ:Nat->GV} {a:Act} (h:FRel C φ a) (x:Operand):VR C (bO φ x) (a.eval x):=by
 cases x with
 |tmp t=>exact h t
 |const v=>exact dK C v
 |global g=>exact .glb g 0
 |func f=>exact .fn rfl rfl (fun j g u h=>by simp at h) (fun j g u h=>by simp at h)
theorem zA {t:TypeId} {cs:List GV} {off:Nat} {g:GV} {vs:Array Value} (hv:VRs C cs vs.toList) (h:o7 P t cs off=some g):
  ∃v,(part t vs off).run P w=.ok v w/\VR C g v:=by
 unfold o7 at h;split at h
 ·rename_i ha;split at h
  ·rename_i n hn;split at h
   ·cases h;refine⟨.agg (vs.extract off (off+n)),by simp[part,tV ha,dX hn],?_⟩;have:=(hv.drop off).take n;have e:(vs.extract off (off+n)).toList=(vs.toList.drop off).take n:=by
     rw[Array.toList_extract,List.extract_eq_take_drop,show off+n - off=n by omega]
    refine .agg (by rw[<-b8,e];exact this.1) (fun j g u h1 h2=>this.2 j g u h1 ?_);rw[<-e,bJ];exact h2
   ·cases h
  ·cases h
 ·rename_i ha;obtain⟨u,hu,hr⟩:=hv.get h;have hu':vs[off]?=some u:=by simpa using hu
  exact⟨u,by simp[part,tV ha,hu'],hr⟩
 ·cases h
theorem CT {b:Nat}:∀(cs:List GV) (o:Nat),(∀(j:Nat) g,cs[j]?=some g->∃u,w.cell? ⟨b,o+j,none⟩=some u/\VR C g u)->
  ∃us:List Value,VRs C cs us/\∀(j:Nat) u,us[j]?=some u->w.cell? ⟨b,o+j,none⟩=some u
 |[],o,_=>⟨[],iO,fun j u h=>by simp at h⟩
 |c::cs,o,h=>by
  obtain⟨u,hu,hr⟩:=h 0 c rfl;obtain⟨us,h1,h2⟩:=CT cs (o+1) (fun j g hg=>by
   obtain⟨u,hu,hr⟩:=h (j+1) g (by simpa using hg);exact⟨u,by rw[show o+1+j=o+(j+1) by omega];exact hu,hr⟩)
  refine⟨u::us,fS hr h1,fun j v hv=>?_⟩;cases j with
  |zero=>simp at hv;subst hv;exact hu
  |succ j=>rw[show o+(j+1)=o+1+j by omega];exact h2 j v (by simpa using hv)
theorem iM (b o n:Nat):Addr.add ⟨b,o,none⟩ n=⟨b,o+n,none⟩:=by unfold Addr.add;split<;>simp_all
theorem mT {t:TypeId} {cs:List GV} {b o off:Nat} {g:GV} (hc:∀(j:Nat) g,cs[j]?=some g->∃u,w.cell? ⟨b,o+j,none⟩=some u/\VR C g u)
  (h:o7 P t cs off=some g):∃v,(loadVar t ⟨b,o+off,none⟩).run P w=.ok v w/\VR C g v:=by
 obtain⟨us,hv,hcell⟩:=CT cs o hc;unfold o7 at h;split at h
 ·rename_i ha;split at h
  ·rename_i n hn;split at h
   ·rename_i hle;cases h;have hv2:=(hv.drop off).take n;have hlen:((us.drop off).take n).length=n:=by rw[hv2.1];simp;omega
    have hrun:=run_loadCells_list (P:=P) w ⟨b,o+off,none⟩ ((us.drop off).take n) (fun j v hj=>by
     rw[iM];rw[cH] at hj;split at hj
     ·rw[eP] at hj;rw[show o+off+j=o+(off+j) by omega];exact hcell _ v hj
     ·cases hj)
    rw[hlen] at hrun;refine⟨.agg ((us.drop off).take n).toArray,by simp[loadVar,tV ha,dX hn,hrun],?_⟩;exact .agg (by simpa using hv2.1) (fun j g u h1 h2=>hv2.2 j g u h1 (by simpa using h2))
   ·cases h
  ·cases h
 ·rename_i ha;obtain⟨u,hu,hr⟩:=hv.get h;exact⟨u,by simp[loadVar,tV ha,hcell off u hu],hr⟩
 ·cases h
theorem AR {us vs:List Value} {off k n:Nat} (hk:off+k<=n) (hn:n<=vs.length) (hu:us.length=k):
  (vs.take off++us++vs.drop (off+k)).take n=(vs.take n).take off++us++(vs.take n).drop (off+k):=by
 subst hu;apply cK;intro j;simp only[cH,List.getElem?_append,aX,cL,eP];repeat' split
 all_goals first
  |rfl
  |(exfalso;omega)
  |(congr 1;omega)
  |(rw[b6];omega)
  |(rw[eq_comm,b6];omega)
theorem uG {cs:List GV} {b:Nat} {vs:Array Value} {T:TypeId} (hb:w.heap[b]?=some (.cells vs T (0,0))) (hv:VRs C cs (vs.toList.take cs.length)):
  ∀(j:Nat) g,cs[j]?=some g->∃u,w.cell? ⟨b,0+j,none⟩=some u/\VR C g u:=fun j g hg=>by
 obtain⟨u,hu,hr⟩:=hv.get hg;rw[cH,aA (List.getElem?_eq_some_iff.1 hg).1] at hu;exact⟨u,by rw[bM,cell_of_row w b j vs T (0,0) hb];simpa using hu,hr⟩
theorem K6 {t:TypeId} {a g:GV} {va:Value} (h:Rel C σ w0 w) (ha:VR C a va) (hg:k9 P t a σ=some g):Runs P C w0 w σ g (Instr.loadAt t va):=by
 cases ha with
 |ptr hb=>
  rename_i r off b;simp only[k9] at hg;split at hg
  ·rename_i cs hcs;obtain⟨_,b',vs,h1,h2,h3,_⟩:=h.obj r _ hcs;rw[hb] at h1;cases h1;obtain⟨v,hr,hv⟩:=mT (P:=P) (b:=b) (o:=0) (uG h2 h3) hg;rw[bM] at hr;exact .pure h hv (by simpa[Instr.loadAt,Instr.sureAddr] using hr)
  ·cases hg
 |rp hb=>
  rename_i r off b;simp only[k9,dL] at hg;split at hg
  ·rename_i cs hcs;obtain⟨_,b',vs,h1,h2,h3,_⟩:=h.obj r _ hcs;rw[hb] at h1;cases h1;obtain⟨v,hr,hv⟩:=mT (P:=P) (b:=b) (o:=0) (uG h2 h3) hg;rw[bM] at hr;exact .pure h hv (by simpa[Instr.loadAt,Instr.sureAddr] using hr)
  ·cases hg
 |rs hb hc hp hx=>rw[k9,aB (by omega)] at hg;cases hg
 |snap b o us hx hv=>
  obtain⟨v,hr,hv⟩:=mT (P:=P) (w:=w) (b:=b) (o:=o) (fun j g hj=>⟨_,h.fxc _ _ _ (hx j g hj),hv j g hj⟩) hg;exact .pure h hv (by simpa[Instr.loadAt,Instr.sureAddr] using hr)
 |glb q off=>
  simp only[k9] at hg;split at hg
  ·rename_i cs hcs;obtain⟨v,hr,hv⟩:=mT (P:=P) (w:=w) (C:=C) (b:=q) (o:=0) (fun j x hj=>by
    obtain⟨u,h1,h2⟩:=h.gl q cs j x hcs hj;exact⟨u,by rw[bM];exact h.fxc _ _ _ h1,h2 C fun _ _ _ hx=>hx⟩) hg
   rw[bM] at hr;exact .pure h hv (by simpa[Instr.loadAt,Instr.sureAddr] using hr)
  ·cases hg
 |_=>simp[k9] at hg
theorem BT {t:TypeId} {r off b:Nat} {g:GV} {v:Value} {σ':GS} (h:Rel C σ w0 w) (hb:C.bk r=some b) (hv:VR C g v)
  (hg:gT P t r off g σ=some σ'):
  ∃w',Rel C σ' w0 w'/\(Instr.storeAt t (.pointer (some ⟨b,off,none⟩)) v).run P w=.ok () w':=by
 unfold gT at hg;split at hg
 ·rename_i T cs hcs;split at hg
  ·rename_i hc;cases hg;simp only[aF,aH] at hc;obtain⟨⟨⟨_,hok⟩,hsz⟩,hlen⟩:=hc;obtain⟨h0,b',vs,h1,h2,h3,hx9⟩:=h.obj r _ hcs;rw[hb] at h1;cases h1;cases hs:dR P t with
   |none=>rw[hs] at hsz;cases hsz
   |some n=>
    rw[hs] at hok;simp only[fM] at hok;have hk:=hv.cells (nZ hok);have hl:=kI hok;have hvl:v.cells.toList.length=n:=by rw[hk.1];exact hl
    have hvs:cs.length<=vs.toList.length:=by have:=h3.1;rw[cL] at this;omega
    have h1c:∀u∈v.cells.toList,u.oneCell'=true:=fun u hu=>by
     obtain⟨j,hj⟩:=List.mem_iff_getElem?.1 hu;have hjl:j<g.cells.length:=by rw[<-hk.1];exact(List.getElem?_eq_some_iff.1 hj).1
     exact(hk.2 j _ u (gL hjl) hj).isCell (u4 hok _ (dO hjl))
    have hrun:=run_storeCells_at P b off T v.cells.toList 0 vs w h2 (by rw[hvl];have hvz:vs.toList.length=vs.size:=b8;omega) h1c;refine⟨_,?_,by
     have hn:v.cells.size=n:=by rw[<-b8];exact hvl
     have:(Instr.storeAt t (.pointer (some ⟨b,off,none⟩)) v).run P w=(storeCells ⟨b,off,none⟩ v.cells.toList 0).run P w:=by
      simp[Instr.storeAt,Instr.sureAddr,storeVar,dX hs,hn]
     rw[this];exact hrun⟩
    refine Rel.setObj h (List.getElem?_eq_some_iff.1 hcs).1 hb _ ⟨h0,b,_,hb,setRow_heap w b vs _ T (0,0) h2,?_⟩ rfl rfl rfl (by simp) (fun k hk=>setRow_other w b k _ hk);simp only[Nat.add_zero];rw[show v.cells.toList.length=g.cells.length from hk.1];have e1:(cs.take off++g.cells++cs.drop (off+g.cells.length)).length=cs.length:=by simp only[aX,cL,cU];omega
    refine⟨?_,fun hT=>?_⟩
    ·rw[e1];have h4:=((h3.take off).append hk).append (h3.drop (off+g.cells.length));rw[AR hlen hvs hk.1];exact h4
    ·rw[e1,<-hx9 hT];have hkl:v.cells.toList.length=g.cells.length:=hk.1;have hvz:vs.toList.length=vs.size:=b8;simp only[List.size_toArray,aX,cL,cU];omega
  ·cases hg
 ·cases hg
theorem GO {t:TypeId} {a g:GV} {va v:Value} {σ':GS} (h:Rel C σ w0 w) (ha:VR C a va) (hv:VR C g v) (hg:lI P t a g σ=some σ'):
  ∃w',Rel C σ' w0 w'/\(Instr.storeAt t va v).run P w=.ok () w':=by
 cases ha with
 |ptr hb=>exact BT h hb hv hg
 |rp hb=>exact BT h hb hv (by rw[lI,aA rfl] at hg;exact hg)
 |rs hb hc hp hx=>rw[lI,aB (by omega)] at hg;cases hg
 |_=>simp[lI] at hg
theorem N5 {t:TypeId} {x:GV} {v:Value} {f:xP} {r0:Nat} {σ':GS} (h:Rel C σ w0 w) (hv:VR C x v) (hg:WT t x=some f) (hx:NewAt C σ r0 f.2 σ'):Runs P C w0 w σ' (f.1 r0) (Instr.box t v):=by
 unfold WT at hg;split at hg
 ·rename_i hk;cases hz:Globals.fz t x.cells with
  |false=>
   rw[hz] at hg;cases hg;obtain⟨hl,hr⟩:=h.newBox x.cells t hx v.cells (hv.cells hk);exact⟨_,_,_,hl,hr,.ptr (aA rfl),by simp[Instr.box,newVar,newRow]⟩
  |true=>
   rw[hz] at hg;cases hg;have hc:=hv.cells hk;obtain⟨D,hl,hF,hr⟩:=(h.putDead hx).addFx (w':=w.alloc (.cells v.cells t)) rfl rfl rfl (by simp) (fun k hk=>by show(w.heap.push _)[k]?=_;rw[Array.getElem?_push_lt hk,aK hk]) (fun b o u=>b=w.heap.size/\v.cells[o]?=some u) (fun b o u hb=>by
    obtain⟨rfl,hb⟩:=hb;exact⟨rL _,by rw[World.cell?_alloc_new];simpa using hb⟩)
   have get:∀(j:Nat) g,x.cells[j]?=some g->∃u,v.cells[j]?=some u/\VR C g u:=fun j g hj=>by
    obtain⟨u,h1,h2⟩:=hc.get hj;exact⟨u,by simpa using h1,h2⟩
   refine⟨_,_,_,hl,hr,.snap w.heap.size 0 (fun j=>(v.cells[j]?).getD (.bool false)) (fun j g hj=>?_) (fun j g hj=>?_),by simp[Instr.box,newVar,newRow]⟩
   ·obtain⟨u,h1,_⟩:=get j g hj;exact hF _ _ _ ⟨rfl,by rw[bM,h1];rfl⟩
   ·obtain⟨u,h1,h2⟩:=get j g hj;rw[h1];exact h2.mono hl
 ·cases hg
theorem HM {t:TypeId} {f:xP} {r0:Nat} {σ':GS} (h:Rel C σ w0 w) (hg:yE P t=some f) (hx:NewAt C σ r0 f.2 σ') (v:Value):Runs P C w0 w σ' (f.1 r0) (Instr.alloc t true v):=by
 unfold yE at hg;split at hg
 ·rename_i z hz;split at hg
  ·rename_i hk;cases hg;obtain⟨u,hu,rfl⟩:=jY hz w;obtain⟨hl,hr⟩:=h.newBox (kD u).cells t hx u.cells ((dK C u).cells hk);exact⟨_,_,_,hl,hr,.ptr (aA rfl),by simp[Instr.alloc,newVar,newRow,hu]⟩
  ·cases hg
 ·cases hg
theorem H8 {s:TypeId} {x g:GV} {f:Nat} {v:Value} (h:Rel C σ w0 w) (hv:VR C x v) (hg:C9 P s x f=some g):Runs P C w0 w σ g (Instr.field s v f):=by
 cases hv with
 |agg hl hv=>
  rename_i cs vs;unfold C9 at hg;simp only at hg;split at hg
  ·rename_i o ft hf;obtain⟨fs,x,hu,hx,rfl,rfl⟩:=F3 hf;obtain⟨u,hr,hur⟩:=zA (P:=P) (w:=w) (cs:=cs) (vs:=vs) ⟨by simpa using hl,fun j g u h1 h2=>hv j g u h1 (by simpa using h2)⟩ hg;exact .pure h hur (by simp[Instr.field,run_underlying hu,hx,asAgg,hr])
  ·cases hg
 |_=>simp[C9] at hg
theorem y9 {s:TypeId} {x g:GV} {f:Nat} {v:Value} (h:Rel C σ w0 w) (hv:VR C x v) (hg:rI P s x f=some g):Runs P C w0 w σ g (Instr.fieldAt s v f):=by
 unfold rI at hg;split at hg
 ·rename_i o ft hf;obtain⟨fs,y,hu,hx,rfl,rfl⟩:=F3 hf;split at hg
  ·rename_i n hn;split at hg
   ·cases hg
   ·rename_i hn0;have hp:∀b off:Nat,(Instr.fieldAt s (.pointer (some ⟨b,off,none⟩)) f).run P w=.ok (.pointer (some ⟨b,off+y.offset,none⟩)) w:=fun b off=>by
     simp[Instr.fieldAt,run_underlying hu,hx,Instr.sureAddr,fieldPlace,dX hn,hn0,iM]
    cases hv with
    |ptr hb=>simp at hg;subst hg;exact .pure h (.ptr hb) (hp _ _)
    |rp hb=>simp at hg;subst hg;exact .pure h (.rp hb) (hp _ _)
    |rs hb hc h0 hx=>
     simp only at hg;split at hg
     ·omega
     ·cases hg
    |snap b o us hx hv=>simp at hg;subst hg;exact .pure h (.snap b o us hx hv) (by rw[hp,Nat.add_assoc])
    |glb q off=>simp at hg;subst hg;exact .pure h (.glb _ _) (by rw[hp])
    |_=>simp at hg
  ·cases hg
 ·cases hg
theorem H6 {t:TypeId} {x i g:GV} {vx vi:Value} (h:Rel C σ w0 w) (hx:VR C x vx) (hi:VR C i vi) (hg:vI P t x i=some g):Runs P C w0 w σ g (Instr.index t vx vi):=by
 unfold vI at hg;split at hg
 ·rename_i k n;cases hi;split at hg
  ·rename_i h0;cases hx with
   |s l=>
    simp only at hg;split at hg
    ·rename_i hk;cases hb:l[n.toNat]? with
     |none=>rw[hb] at hg;cases hg
     |some c=>
      rw[hb] at hg;cases hg;refine .pure h (.i _ _) ?_;have hlt:n.toNat<l.length:=(List.getElem?_eq_some_iff.1 hb).1;have hget:(ByteArray.mk l.toArray)[n.toNat]?=some c:=by
       have hlt':n.toNat<(ByteArray.mk l.toArray).size:=by simpa[ByteArray.size] using hlt
       rw[ByteArray.getElem?_lt' _ _ hlt'];have hc:=(List.getElem?_eq_some_iff.1 hb).2;have he:(ByteArray.mk l.toArray)[n.toNat]=l[n.toNat]:=rfl;rw[he,hc]
      simp[Instr.index,asIntOf,run_underlying (jH hk),h0,hget]
    ·cases hg
   |agg hl hv=>
    rename_i cs vs;simp only at hg;split at hg
    ·rename_i len e ha;split at hg
     ·rename_i size hs;split at hg
      ·rename_i hlt;obtain⟨u,hr,hur⟩:=zA (P:=P) (w:=w) (cs:=cs) (vs:=vs) ⟨by simpa using hl,fun j g u h1 h2=>hv j g u h1 (by simpa using h2)⟩ hg;exact .pure h hur (by simp[Instr.index,asIntOf,run_underlying (AL ha),h0,hlt,dX hs,hr])
      ·cases hg
     ·cases hg
    ·cases hg
   |_=>simp at hg
  ·cases hg
 ·cases hg
theorem y7 {t : TypeId} {x i g : GV} {vx vi : Value} (h : Rel C σ w0 w) (hx : VR C x vx) (hi : VR C i vi) (hg : kU P t x i = some g) : Runs P C w0 w σ g (Instr.indexAt t vx vi) := by
  unfold kU at hg;split at hg
  · rename_i k n
    cases hi;split at hg
    · rename_i h0
      cases hx with
      | sl esz b off us hn hc ha hw hx hv ht =>
        rename_i k xs a n' c;simp only at hg;split at hg
        · rename_i e he
          split at hg
          · rename_i size y hs hy
            split at hg
            · rename_i hyl
              cases hg;have hlt : n.toNat < xs.length := (List.getElem?_eq_some_iff.1 hy).1;have hesz : esz = size := by rw [← hw y (b9 hy)]; exact hyl
              subst hesz;rcases ha with ⟨rfl, rfl⟩ | rfl | h9
              · omega
              rotate_left
              · omega
              · refine .pure h (v := .pointer (some ⟨b, off + n.toNat * esz, none⟩)) (.snap b (off + n.toNat * esz) (fun j => us (n.toNat * esz + j)) (fun j g hj => ?_) (fun j g hj => hv n.toNat y j g hy hj)) ?_
                · exact hx n.toNat y j g hy hj
                · have hlt2 : n < n' := by omega
                  simp [Instr.indexAt, asIntOf, run_underlying (iV he), h0, hlt2, dX hs, iM]
            · cases hg
          · cases hg
        · cases hg
      | ptr hb =>
        simp only at hg;split at hg
        · rename_i len e ha
          split at hg
          · rename_i size hs
            split at hg
            · rename_i hlt
              cases hg;exact .pure h (.ptr hb) (by simp [Instr.indexAt, asIntOf, run_underlying (AL ha), h0, hlt, dX hs, iM, Instr.sureAddr])
            · cases hg
          · cases hg
        · cases hg
      | glb q off =>
        simp only at hg;split at hg
        · rename_i len e ha
          split at hg
          · rename_i size hs
            split at hg
            · rename_i hlt
              cases hg;exact .pure h (.glb _ _) (by simp [Instr.indexAt, asIntOf, run_underlying (AL ha), h0, hlt, dX hs, iM, Instr.sureAddr])
            · cases hg
          · cases hg
        · cases hg
      | snap b o us hx hv =>
        simp only at hg;split at hg
        · rename_i len e ha
          split at hg
          · rename_i size hs
            split at hg
            · rename_i hlt
              cases hg;exact .pure h (.snap b o us hx hv) (by simp [Instr.indexAt, asIntOf, run_underlying (AL ha), h0, hlt, dX hs, iM, Instr.sureAddr, Nat.add_assoc])
            · cases hg
          · cases hg
        · cases hg
      | rp hb => simp only at hg; repeat' split at hg
                 all_goals first | (cases hg; done) | (rename_i hcc; simp only [aF, aH] at hcc; exfalso; have := hcc.2; omega)
      | rs hb hc hp hx =>
        simp only at hg;split at hg
        · rename_i e he
          split at hg
          · rename_i size hs
            split at hg
            · rename_i hcc
              cases hg;simp only [aF, aH] at hcc;obtain ⟨rfl, hlt⟩ := hcc;exact .pure h (.rp hb) (by simp [Instr.indexAt, asIntOf, run_underlying (iV he), h0, hlt, dX hs, iM])
            · cases hg
          · cases hg
        · cases hg
      | _ => simp at hg
    · cases hg
  · cases hg
theorem CA {x g:GV} {i:Nat} {v:Value} (h:Rel C σ w0 w) (hx:VR C x v) (hg:x8 x i=some g):Runs P C w0 w σ g (Instr.extract v i):=by
 cases hx with
 |tup hl hv=>
  rename_i cs vs;have hi:i<cs.length:=(List.getElem?_eq_some_iff.1 hg).1;have hu:vs[i]?=some (vs[i]'(by omega)):=aK (by omega);exact .pure h (hv i g _ hg hu) (by simp[Instr.extract,hu])
 |_=>simp[x8] at hg
theorem y5 {t:TypeId} {x g:GV} {v:Value} (h:Rel C σ w0 w) (hx:VR C x v) (hg:rG P t x=some g):Runs P C w0 w σ g (Instr.makeInterface t v):=by
 unfold rG at hg;split at hg
 ·cases hg
 ·cases hg
 ·rename_i k hk hk3;cases hg;obtain⟨d,hd,hne⟩:=EG hk3 (fun e=>hk e);refine .pure h (.ifc hx) ?_;unfold Instr.makeInterface;simp only[Sem.run_bind,run_underlying hd,Result.andThen_ok];cases d<;>first|rfl|exact absurd rfl (hne _)
theorem DP {t xt:TypeId} {ok:Bool} {x g:GV} {v:Value} (h:Rel C σ w0 w) (hx:VR C x v) (hg:AJ P t ok x=some g):Runs P C w0 w σ g (Instr.typeAssert v xt t ok):=by
 unfold AJ at hg;split at hg
 ·cases hg
 ·cases hg
 ·rename_i k hk hk3;obtain⟨d,hd,hne⟩:=EG hk3 (fun e=>hk e);have tup2:∀{g1:GV} {v1:Value} {b:Bool},VR C g1 v1->VR C (.tup [g1,.b b]) (.tuple #[v1,.bool b]):=fun{g1} {v1} {b} hg=>by
   have this:VRs C [g1,.b b] [v1,.bool b]:=fS hg (fS (VR.b (C:=C) b) iO);exact .tup rfl (fun j g u h1 h2=>this.2 j g u h1 (by simpa using h2))
  split at hg
  ·rename_i u g1;cases hx with
   |ifc hx=>
    rename_i v1;split at hg
    ·rename_i hut;subst hut;cases hg;cases ok with
     |true=>
      refine .pure h (tup2 hx) ?_;unfold Instr.typeAssert;simp only[Sem.run_bind,run_underlying hd,Result.andThen_ok];cases d<;>first|(simp;done)|exact absurd rfl (hne _)
     |false=>
      refine .pure h hx ?_;unfold Instr.typeAssert;simp only[Sem.run_bind,run_underlying hd,Result.andThen_ok];cases d<;>first|(simp;done)|exact absurd rfl (hne _)
    ·rename_i hut;split at hg
     ·rename_i hok;subst hok;cases hz:iE P t with
      |none=>rw[hz] at hg;cases hg
      |some z=>
       rw[hz] at hg;cases hg;obtain⟨vz,hvz,rfl⟩:=jY hz w;refine .pure h (tup2 (dK C vz)) ?_;unfold Instr.typeAssert;simp only[Sem.run_bind,run_underlying hd,Result.andThen_ok];cases d<;>first|(simp[hut,hvz];done)|exact absurd rfl (hne _)
     ·cases hg
  ·cases hx with
   |o hp=>
    split at hg
    ·rename_i hok;subst hok;cases hz:iE P t with
     |none=>rw[hz] at hg;cases hg
     |some z=>
      rw[hz] at hg;cases hg;obtain⟨vz,hvz,rfl⟩:=jY hz w;refine .pure h (tup2 (dK C vz)) ?_;unfold Instr.typeAssert;simp only[Sem.run_bind,run_underlying hd,Result.andThen_ok];cases d<;>first|(simp[hvz];done)|exact absurd rfl (hne _)
    ·cases hg
  ·cases hg
theorem QO {op:UnOp} {x g:GV} {v:Value} (h:Rel C σ w0 w) (hx:VR C x v) (hg:gun op x=some g):Runs P C w0 w σ g (Op.unary op v):=by
 unfold gun at hg;split at hg
 ·cases hx;cases hg;exact .pure h (.i _ _) rfl
 ·cases hx;cases hg;exact .pure h (.b _) rfl
 ·cases hx;cases hg;exact .pure h (.i _ _) rfl
 ·cases hg
theorem tH:∀(xs:List GV) (l:List UInt8),rO xs=some l->∃ns:List Int,xs=ns.map (GV.i .u8)/\l=ns.map fun n=>UInt8.ofNat n.toNat
 |[],l,h=>by cases h;exact⟨[],rfl,rfl⟩
 |x::xs,l,h=>by
  unfold rO at h;split at h
  ·rename_i e;cases e
  ·rename_i n r e;cases e;rw[aC] at h;obtain⟨l',hl',rfl⟩:=h;obtain⟨ns,h1,h2⟩:=tH _ l' hl';exact⟨n::ns,by rw[h1];rfl,by rw[h2];rfl⟩
  ·cases h
theorem EB:∀(ns:List Int) (a:List UInt8),ns.foldl (fun(r:ByteArray) n=>r.push (UInt8.ofNat n.toNat)) ⟨a.toArray⟩=⟨(a++ns.map fun n=>UInt8.ofNat n.toNat).toArray⟩
 |[],a=>by simp
 |n::ns,a=>by
  rw[List.foldl_cons];have:(ByteArray.mk a.toArray).push (UInt8.ofNat n.toNat)=⟨(a++[UInt8.ofNat n.toNat]).toArray⟩:=by simp[ByteArray.push]
  rw[this,EB ns];simp
theorem CF {src dst:TypeId} {x g:GV} {v:Value} (h:Rel C σ w0 w) (hx:VR C x v) (hg:oB P src dst x=some g):Runs P C w0 w σ g (convert src dst v):=by
 unfold oB at hg;split at hg
 ·rename_i ki n;cases hx;split at hg
  ·rename_i k hk;split at hg
   ·rename_i hs;cases hg;obtain⟨j,hj⟩:=Option.isSome_iff_exists.1 hs;obtain⟨d,hd⟩:=wP hj;refine .pure h (.i _ _) ?_;unfold convert;simp only[Sem.run_bind,run_underlying hd,run_underlying (wQ hk),Result.andThen_ok];cases d<;>rfl
   ·cases hg
  ·split at hg
   ·rename_i hs;cases hg;simp only[aF,aH] at hs;obtain⟨j,hj⟩:=Option.isSome_iff_exists.1 hs.2;obtain⟨d,hd⟩:=wP hj;have:=VR.s (C:=C) (Utf8.encode n).data.toList;refine .pure h this ?_;unfold convert;simp only[Sem.run_bind,run_underlying hd,run_underlying (jH hs.1),Result.andThen_ok];cases d<;>simp[Conv.intToString]
   ·cases hg
 ·rename_i l;cases hx;split at hg
  ·rename_i hs;cases hg;simp only[aF,aH] at hs;refine .pure h (.s _) ?_;unfold convert;simp only[Sem.run_bind,run_underlying (jH hs.2),run_underlying (jH hs.1),Result.andThen_ok];rfl
  ·split at hg
   ·rename_i e he;split at hg
    ·rename_i hs;cases hg;simp only[aF,aH] at hs;let s:ByteArray:=⟨l.toArray⟩;have hrun:=Lib.run_convert_string_bytes (P:=P) w src dst e s (jH hs.2) (iV he) (wQ hs.1);have hcell:∀(j:Nat) (b:UInt8),l[j]?=some b->(Lib.bytesWorld w e s).cell? ⟨w.heap.size,j,none⟩=some (.int .u8 b.toNat):=fun j b hj=>by
      have hlt:=(List.getElem?_eq_some_iff.1 hj).1;rw[Lib.bytesWorld_cell w e s j (by show j<l.toArray.size;simpa using hlt)];simp[s,List.getD,hj]
     obtain⟨D,hl,hF,hr⟩:=h.addFx (w':=Lib.bytesWorld w e s) rfl rfl rfl (by rw[Lib.bytesWorld_size];omega) (fun k hk=>Lib.bytesWorld_at_old w e s k hk)
      (fun b o v=>b=w.heap.size/\∃x:UInt8,l[o]?=some x/\v=.int .u8 x.toNat) (fun b o v ⟨e1,x,hx,e2⟩=>by subst e1;subst e2;exact⟨rL _,hcell o x hx⟩)
     refine⟨D,_,_,hl,hr,?_,hrun⟩;have get:∀{i:Nat} {x:GV} {j:Nat} {g:GV},(l.map fun b=>GV.i .u8 b.toNat)[i]?=some x->x.cells[j]?=some g->∃b:UInt8,l[i]?=some b/\j=0/\g=.i .u8 b.toNat:=fun h1 h2=>by
      rw[aG,aC] at h1;obtain⟨b,hb,rfl⟩:=h1;simp only[GV.cells] at h2;rename_i j g;cases j with
      |zero=>simp at h2;exact⟨b,hb,rfl,h2.symm⟩
      |succ j=>simp at h2
     have hsz:s.size=l.length:=by simp[s,ByteArray.size]
     refine .sl 1 w.heap.size 0 (fun i=>.int .u8 (l.getD i 0).toNat) (by simpa using hsz) (grownCap_ge w s.size 0 e) (.inr (.inl rfl)) (fun x hx=>?_) (fun i x j g h1 h2=>?_) (fun i x j g h1 h2=>?_) trivial
     ·obtain⟨b,_,rfl⟩:=List.mem_map.1 hx;rfl
     ·obtain⟨b,hb,rfl,rfl⟩:=get h1 h2;refine hF _ _ _ ⟨rfl,b,?_,?_⟩
      ·simpa using hb
      ·simp[List.getD,hb]
     ·obtain⟨b,hb,rfl,rfl⟩:=get h1 h2;simp only[Nat.mul_one,Nat.add_zero,List.getD,hb,fM];exact .i _ _
    ·cases hg
   ·cases hg
 ·cases hx with
  |sl esz b off us hn hc ha hw hxx hv ht=>
  rename_i k xs a n c;split at hg
  ·rename_i e he;split at hg
   ·rename_i hs;simp only[aF,aH] at hs;rw[aC] at hg;obtain⟨l,hl,rfl⟩:=hg;obtain⟨ns,rfl,rfl⟩:=tH xs l hl;refine .pure h (.s _) ?_;rw[run_convert_bytes_string w src dst e a n c (iV he) (wQ hs.1) (jH hs.2)];rcases ha with⟨rfl,rfl⟩|rfl|h9
    ·have:ns=[]:=aI (by simp at hn;omega);subst this;simp[Conv.bytesToString];rfl
    rotate_left
    ·have:ns=[]:=aI (by simp at hn;omega);subst this;obtain rfl:n=0:=by omega
     cases a with
     |none=>
      simp[Conv.bytesToString];rfl
     |some q=>
      simp[Conv.bytesToString];rfl
    ·have hone:∀x∈ns.map (GV.i .u8),x.cells.length=1:=fun x hx=>by
      obtain⟨q,_,rfl⟩:=List.mem_map.1 hx;rfl
     have hload:(loadCells ⟨b,off,none⟩ n).run P w=.ok (ns.map (Value.int .u8)).toArray w:=by
      have hlen:n=(ns.map (Value.int .u8)).length:=by simpa using hn
      rw[hlen];refine run_loadCells_list w _ _ (fun j v hj=>?_);rw[aG,aC] at hj;obtain⟨q,hq,rfl⟩:=hj;have hj2:(ns.map (GV.i .u8))[j]?=some (.i .u8 q):=by rw[aG,hq];rfl
      have hesz:esz=1:=by rw[<-hw _ (b9 hj2)];rfl
      subst hesz;have h1:=hxx j _ 0 (.i .u8 q) hj2 rfl;have h2:=hv j _ 0 (.i .u8 q) hj2 rfl;rw[Nat.mul_one,Nat.add_zero] at h1 h2;generalize us j=uj at h1 h2;cases h2;rw[iM];exact h.fxc _ _ _ h1
     rw[run_bytesToString w _ n c ns hload];have:=EB ns [];rw[List.nil_append] at this;rw[show ByteArray.empty=⟨([]:List UInt8).toArray⟩ from rfl,this]
   ·cases hg
  ·cases hg
 ·cases hg
end
