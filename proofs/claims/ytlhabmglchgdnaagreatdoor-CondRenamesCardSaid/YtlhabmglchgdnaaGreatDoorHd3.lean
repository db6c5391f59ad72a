/-
  CondRenames: Rename of every text and names is that of the reference, and over items renamed alike a condition is as true as before: the card, for every input.
-/
import Derived.Test.YtlhabmglchgdnaaGreatDoorQ44
import Derived.Test.YtlhabmglchgdnaaGreatDoorQ43
import Derived.Test.YtlhabmglchgdnaaGreatDoorQ32
set_option linter.all false
namespace Go.Proofs.YtlhabmglchgdnaaGreatDoor
open Go.RowKit
set_option maxRecDepth 100000
set_option linter.unusedVariables false
theorem itms_flat (y:Itm) (L:List Itm):flat (itms (y::L))=.s y.name::.i .i64 y.k::.i .i64 y.lo::.i .i64 y.hi::.i .i64 y.len::flat (itms L):=rfl
theorem flat5_len:∀L:List Itm,(flat (itms L)).length=5*L.length
 |[]=>rfl
 |y::L=>by rw[itms_flat];simp only[List.length_cons,flat5_len L];omega
theorem flat5_name:∀(L:List Itm) (i:Nat) (y:Itm),L[i]?=some y->(flat (itms L))[i*5]?=some (.s y.name)
 |[],i,y,h=>by simp at h
 |z::L,0,y,h=>by simp at h;subst h;rfl
 |z::L,i+1,y,h=>by
  rw[itms_flat,show(i+1)*5=i*5+1+1+1+1+1 by omega]
  simp only[List.getElem?_cons_succ]
  exact flat5_name L i y (by simpa using h)
theorem flat5_put:∀(L:List Itm) (i:Nat) (y:Itm) (n:By),L[i]?=some y->(flat (itms L)).take (i*5)++[.s n]++(flat (itms L)).drop (i*5+1)=flat (itms (L.set i (setN y n)))
 |[],i,y,n,h=>by simp at h
 |z::L,0,y,n,h=>by simp at h;subst h;rfl
 |z::L,i+1,y,n,h=>by
  have:=flat5_put L i y n (by simpa using h)
  rw[itms_flat,show(i+1)*5=i*5+1+1+1+1+1 by omega,List.set_cons_succ,itms_flat,<-this]
  simp only[List.take_succ_cons,List.drop_succ_cons,List.cons_append]
theorem flat5_free (L:List Itm):∀g∈flat (itms L),Free g:=fun g hg=>by
 unfold flat itms at hg
 obtain⟨x,hx,hgx⟩:=List.mem_flatMap.1 hg
 obtain⟨y,_,rfl⟩:=List.mem_map.1 hx
 replace hgx:g∈[GV.s y.name,.i .i64 y.k,.i .i64 y.lo,.i .i64 y.hi,.i .i64 y.len]:=hgx
 simp only[List.mem_cons,List.not_mem_nil,or_false] at hgx
 rcases hgx with h|h|h|h|h<;>subst h
 ·exact .s _
 ·exact .i _ _
 ·exact .i _ _
 ·exact .i _ _
 ·exact .i _ _
theorem flat5_cl (L:List Itm):ClL (flat (itms L)):=fun e=>by
 unfold flat itms
 induction L with
 |nil=>rfl
 |cons y L ih=>simp only[List.map_cons,List.flatMap_cons,List.map_append];rw[ih];rfl
def rowI (L:List Itm):GObj:=.box 47 (flat (itms L))
theorem r_indexR (L:List Itm) (hl:L.length<1000000) (s:By):SC Tryz.prog 74 [.rs 0 0 5 L.length L.length,.s s] [rowI L] (.val (.i .i64 (idxN L s))) [rowI L]:=by
 have hcl:=flat5_cl L
 have hfl:=flat5_len L
 unfold rowI
 refine SC.of_gwp noM mixed Tryz.func74 rfl (Nat.le_of_ble_eq_true rfl) (by first|exact Nat.le_refl _|simp) rfl ?_
 conv=>whnf
 refine GLoop.introS (fun i:Nat=>i<=L.length/\∀z∈L.take i,z.name≠s) (fun i=>[(0,.rs 0 0 5 L.length L.length),(1,.s s),(5,.i .i64 (i:Nat))]) (fun _=>⟨[.box 47 (flat (itms L))],0,[]⟩) (fun i=>L.length - i) 0 ⟨Nat.zero_le _,fun z h=>by simp at h⟩ ⟨rfl,rfl,rfl,trivial⟩ rfl (fun _ _=>Nat.le_refl _) (fun _ _=>rfl) (fun i _ e he=>?_) (fun i φ0 hi=>?_)
 ·refine⟨?_,rfl,?_⟩
  ·show[(GObj.box _ (flat (itms L))).ren e]=_
   rw[GObj.box_cl hcl e]
  ·show[GV.rs (e 0) 0 5 _ _,_,_]=_
   rw[he 0 (by simp)];rfl
 obtain⟨hi,hne⟩:=hi
 conv=>whnf
 refine GIf.mk (fun h=>?_) (fun h=>?_)<;>conv=>whnf
 rotate_left
 ·have hie:i=L.length:=by have:=of_decide_eq_false h;omega
  rw[hie,List.take_length] at hne
  rw[idx_no hne]
  exact owesB rfl (.refl _) hcl (.i _ _)
 have hlt:i<L.length:=by have:=of_decide_eq_true h;omega
 obtain⟨y,hy⟩:∃y,L[i]?=some y:=⟨L[i],List.getElem?_eq_getElem hlt⟩
 refine⟨⟨Int.natCast_nonneg _,rfl,of_decide_eq_true h⟩,?_⟩
 conv=>whnf
 refine⟨.s y.name,?_,?_⟩
 ·show(flat (itms L))[0+(i:Int).toNat*5+0]?=_
  rw[Nat.add_zero,Nat.zero_add,Int.toNat_natCast]
  exact flat5_name L i y hy
 conv=>whnf
 refine GIf.mk (fun heq=>?_) (fun heq=>?_)<;>conv=>whnf
 ·have e:y.name=s:=by simpa using heq
  rw[idx_yes hy e hne]
  exact owesB rfl (.refl _) hcl (.i _ _)
 ·have e:y.name≠s:=by simpa using heq
  exact⟨L.length - (i+1),(by show _<L.length - i;omega),i+1,⟨hlt,take_ne_succ hne hy e⟩,rfl,⟨rfl,rfl,wrap_succ (by omega),trivial⟩,[],rfl,rfl⟩
end Go.Proofs.YtlhabmglchgdnaaGreatDoor
namespace Go.Proofs.YtlhabmglchgdnaaGreatDoor
open Go.RowKit
set_option maxRecDepth 100000
set_option linter.unusedVariables false
def rowS (N:List By):GObj:=.box 9 (strG N)
def zipN (I:List Itm) (N:List By):List Itm:=List.zipWith setN I N
def midN (I:List Itm) (N:List By) (i:Nat):List Itm:=(zipN I N).take i++I.drop i
theorem zip_len {I:List Itm} {N:List By} (h:N.length=I.length):(zipN I N).length=I.length:=by unfold zipN;rw[List.length_zipWith];omega
theorem zip_at {I:List Itm} {N:List By} {i:Nat} {y:Itm} {n:By} (hy:I[i]?=some y) (hn:N[i]?=some n):(zipN I N)[i]?=some (setN y n):=by
 unfold zipN
 rw[List.getElem?_zipWith,hy,hn]
theorem mid_len {I:List Itm} {N:List By} (h:N.length=I.length) {i:Nat} (hi:i<=I.length):(midN I N i).length=I.length:=by
 unfold midN
 rw[List.length_append,List.length_take,zip_len h,List.length_drop];omega
theorem mid_end {I:List Itm} {N:List By} (h:N.length=I.length):midN I N I.length=zipN I N:=by
 unfold midN
 rw[List.take_of_length_le (by rw[zip_len h];exact Nat.le_refl _),List.drop_length,List.append_nil]
theorem mid_at {I:List Itm} {N:List By} (h:N.length=I.length) {i:Nat} {y:Itm} (hy:I[i]?=some y):(midN I N i)[i]?=some y:=by
 have hi:=(List.getElem?_eq_some_iff.1 hy).1
 unfold midN
 rw[List.getElem?_append_right (by rw[List.length_take,zip_len h];omega),List.length_take,zip_len h,Nat.min_eq_left (by omega),Nat.sub_self,List.getElem?_drop,Nat.add_zero]
 exact hy
theorem mid_succ {I:List Itm} {N:List By} (h:N.length=I.length) {i:Nat} {y:Itm} {n:By} (hy:I[i]?=some y) (hn:N[i]?=some n):(midN I N i).set i (setN y n)=midN I N (i+1):=by
 have hi:=(List.getElem?_eq_some_iff.1 hy).1
 have hl:((zipN I N).take i).length=i:=by rw[List.length_take,zip_len h];omega
 unfold midN
 rw[List.set_append_right _ _ (by omega),hl,Nat.sub_self,List.take_add_one,zip_at hy hn,List.append_assoc]
 congr 1
 rw[List.drop_eq_getElem_cons hi]
 rfl
def renO (I:List Itm) (N:List By):List Itm×Int:=
 if decide (0<I.length)&&knownB I then
  if N.all isName then(if((zipN I N).map Itm.name).Nodup then(zipN I N,0) else([],6)) else([],1)
 else([],1)
theorem strG_free (N:List By):∀g∈strG N,Free g:=fun g hg=>by
 obtain⟨x,_,rfl⟩:=List.mem_map.1 hg
 exact .s _
theorem callAt {P:Program} {M:FuncId->Bool} {k:FuncId} {q:Nat} {a args:List GV} {T:TypeId} {cs:List GV} {r:GV} {σ:GS} {K:GRes->GS->Prop} (h:SC P k a [.box T cs] (.val r) [.box T cs])
  (hq:σ.objs[q]?=some (.box T cs)) (hw:Wks args (a.map (GV.ren (emb [q] σ.objs.length)))) (hlo:σ.lo=0) (hc:ClL cs) (hr:Cl r) (hk:K (.val r) σ):gcallK P M (.fn k) args σ K:=by
 have hql:q<σ.objs.length:=(List.getElem?_eq_some_iff.1 hq).1
 have hf:=h.fact (σ:=σ) (args':=args) [q] (Lies.one hq (GObj.box_cl hc) (by simp)) hlo hw
 rw[putBack_one hql (GObj.box_cl hc _)] at hf
 rw[show(GRes.val r).ren (emb [q] σ.objs.length)=.val r by show GRes.val (r.ren _)=_;rw[hr]] at hf
 have e:σ.objs.set q (.box T cs)=σ.objs:=by
  apply List.ext_getElem?
  intro i
  by_cases hi:q=i
  ·subst hi;rw[List.getElem?_set_self hql,hq]
  ·rw[List.getElem?_set_ne hi]
 rw[e] at hf
 exact⟨.val r,σ,hf,fun _ _ _=>rfl,hk⟩
theorem itms_okEl (l:List Itm):(itms l).all (okEl 5)=true:=by
 rw[List.all_eq_true];intro x hx
 obtain⟨y,_,rfl⟩:=List.mem_map.1 hx
 rfl
theorem ren1_walk (I:List Itm) (N:List By) (hI:I.length<1000000) (hl:N.length=I.length) (b1:(decide (0<I.length)&&knownB I)=true) (r:GRes) (s':List GObj)
  (hs:1<=s'.length) (hh:s'.all GObj.notHeld=true)
  (hbad:N.all isName=false->r=.val (.tup [.sl .none [],.i .i64 1])/\s'=[rowS N])
  (hdup:N.all isName=true->¬((zipN I N).map Itm.name).Nodup->r=.val (.tup [.sl .none [],.i .i64 6])/\s'=[rowS N])
  (hok:N.all isName=true->((zipN I N).map Itm.name).Nodup->r=.val (.tup [.rs 1 0 5 I.length I.length,.i .i64 0])/\s'=[rowS N,rowI (zipN I N)]):
  SC Tryz.prog 37 [.sl .none (itms I),.rs 0 0 1 N.length N.length] [rowS N] r s':=by
 have hv:=r_ValidItems1 I (by unfold most;omega)
 have hil:=itms_len I
 have hsl:=strG_len N
 have hcN:=strG_cl N
 rw[b1] at hv
 have h0:0<I.length:=by
  rw[Bool.and_eq_true] at b1
  exact of_decide_eq_true b1.1
 have hne:itms I≠[]:=fun e=>by have:=congrArg List.length e;rw[hil] at this;exact absurd this (by show I.length≠0;omega)
 have hZl:=zip_len hl
 refine SC.of_gwp noM mixed Tryz.func37 rfl (Nat.le_of_ble_eq_true rfl) hs hh ?_
 unfold rowS
 conv=>whnf
 refine callP hv (Wks.refl _) rfl (ClL.cons (Cl.sl (itms_cl I)) .nil) (.b _) ?_
 conv=>whnf
 refine GIf.mk (fun hn=>?_) (fun hn=>?_)<;>conv=>whnf
 ·exact absurd hn (by rw[hil,hl];simp)
 conv=>whnf
 refine GIf.mk (fun he=>?_) (fun he=>?_)<;>conv=>whnf
 ·exact absurd (List.isEmpty_iff.1 he) hne
 refine⟨⟨itms_okEl I,rfl,(by show 0+(itms I).length<=4294967296;rw[hil];omega)⟩,itms I,I.length,⟨rfl,(by show _=0+(itms I).length;rw[hil,Nat.zero_add])⟩,flat (itms (midN I N 0)),⟨rfl,rfl⟩,?_⟩
 conv=>whnf
 refine GLoop.introS (fun i:Nat=>i<=I.length/\∀x∈N.take i,isName x=true) (fun i=>[(1,.rs 0 0 1 N.length N.length),(6,.rs 3 0 5 I.length I.length),(7,.i .i64 (i:Nat))]) (fun i=>⟨[.box 9 (strG N),.own 0 0 0,.own 0 0 0,.box 47 (flat (itms (midN I N i)))],0,[]⟩) (fun i=>I.length - i) 0 ⟨Nat.zero_le _,fun x h=>by simp at h⟩ ⟨rfl,rfl,rfl,trivial⟩ rfl (fun _ _=>Nat.le_refl _) (fun _ _=>rfl) (fun i _ e he=>?_) (fun i φ0 hi=>?_)
 ·refine⟨?_,rfl,?_⟩
  ·show[(GObj.box _ (strG N)).ren e,.own 0 0 0,.own 0 0 0,(GObj.box _ (flat _)).ren e]=_
   rw[GObj.box_cl hcN e,GObj.box_cl (flat5_cl _) e]
  ·show[GV.rs (e 0) 0 1 _ _,GV.rs (e 3) 0 5 _ _,_]=_
   rw[he 0 (by simp),he 3 (by simp)];rfl
 obtain⟨hi,hN⟩:=hi
 conv=>whnf
 refine GIf.mk (fun h=>?_) (fun h=>?_)<;>conv=>whnf
 rotate_left
 ·have hie:i=I.length:=by have:=of_decide_eq_false h;omega
  have hNa:N.all isName=true:=List.all_eq_true.2 (by rw[hie,<-hl,List.take_length] at hN;exact hN)
  replace hbad:=0
  rw[hie,mid_end hl]
  conv=>whnf
  refine GLoop.introS (fun i:Nat=>i<=I.length/\(((zipN I N).take i).map Itm.name).Nodup) (fun i=>[(6,.rs 3 0 5 I.length I.length),(8,.i .i64 (i:Nat))]) (fun i=>⟨[.box 9 (strG N),.own 0 0 0,.own 0 0 0,.box 47 (flat (itms (zipN I N)))],0,[]⟩) (fun i=>I.length - i) 0 ⟨Nat.zero_le _,by simp⟩ ⟨rfl,rfl,trivial⟩ rfl (fun _ _=>Nat.le_refl _) (fun _ _=>rfl) (fun i _ e he=>?_) (fun i φ0 hi=>?_)
  ·refine⟨?_,rfl,?_⟩
   ·show[(GObj.box _ (strG N)).ren e,.own 0 0 0,.own 0 0 0,(GObj.box _ (flat _)).ren e]=_
    rw[GObj.box_cl hcN e,GObj.box_cl (flat5_cl _) e]
   ·show[GV.rs (e 3) 0 5 _ _,_]=_
    rw[he 3 (by simp)];rfl
  obtain⟨hi,hnd⟩:=hi
  conv=>whnf
  refine GIf.mk (fun h=>?_) (fun h=>?_)<;>conv=>whnf
  rotate_left
  ·have hie:i=I.length:=by have:=of_decide_eq_false h;omega
   rw[hie,<-hZl,List.take_length] at hnd
   obtain⟨rfl,rfl⟩:=hok hNa hnd
   refine⟨[0,3],Lies.two (by decide) ?_ ?_ (by simp[rowS]) (by simp[rowI]),fun i hi=>?_,?_⟩
   ·show some (GObj.box 9 (strG N))=some ((rowS N).ren _)
    unfold rowS
    rw[GObj.box_cl hcN]
   ·show some (GObj.box 47 _)=some ((rowI (zipN I N)).ren _)
    unfold rowI
    rw[GObj.box_cl (flat5_cl _)]
   ·have:i=0:=by simp at hi;omega
    subst this;rfl
   ·show Wk _ (GV.tup [GV.rs (emb [0,3] _ 1) 0 5 _ _,.i .i64 0])
    rw[show emb [0,3] _ 1=3 from emb_lt (by simp)]
    exact .refl _
  have hlt:i<I.length:=by have:=of_decide_eq_true h;omega
  obtain⟨y,hy⟩:∃y,(zipN I N)[i]?=some y:=⟨(zipN I N)[i]'(by omega),List.getElem?_eq_getElem (by omega)⟩
  refine⟨⟨Int.natCast_nonneg _,rfl,of_decide_eq_true h⟩,?_⟩
  conv=>whnf
  refine⟨.s y.name,?_,?_⟩
  ·show(flat (itms (zipN I N)))[0+(i:Int).toNat*5+0]?=_
   rw[Nat.add_zero,Nat.zero_add,Int.toNat_natCast]
   exact flat5_name _ i y hy
  conv=>whnf
  have hix:=r_indexR (zipN I N) (by omega) y.name
  refine callAt (q:=3) hix rfl ?_ rfl (flat5_cl _) (.i _ _) ?_
  ·refine Wks.cons ?_ (Wks.refl _)
   show Wk _ (GV.rs (emb [3] _ 0) 0 5 _ _)
   rw[show emb [3] _ 0=3 from emb_lt (by simp),hZl]
   exact .refl _
  conv=>whnf
  refine GIf.mk (fun hx=>?_) (fun hx=>?_)<;>conv=>whnf
  ·have hx:idxN (zipN I N) y.name≠(i:Int):=by simpa using hx
   have hd:¬((zipN I N).map Itm.name).Nodup:=fun h=>hx ((idx_ne hnd hy).2 ((nodup_succ hnd hy).1 (List.Nodup.sublist (List.Sublist.map _ (List.take_sublist _ _)) h)))
   obtain⟨rfl,rfl⟩:=hdup hNa hd
   exact owesB rfl (wk_t2 (Wk.sl _ _) (.refl _)) hcN (Cl.tup (.cons (Cl.sl ClL.nil) (.cons (.i _ _) .nil)))
  have hx:idxN (zipN I N) y.name=(i:Int):=by simpa using hx
  exact⟨I.length - (i+1),(by show _<I.length - i;omega),i+1,⟨hlt,(nodup_succ hnd hy).2 ((idx_ne hnd hy).1 hx)⟩,rfl,⟨rfl,wrap_succ (by omega),trivial⟩,[],rfl,rfl⟩
 ·have hlt:i<N.length:=by have:=of_decide_eq_true h;omega
  have hlt':i<I.length:=by omega
  obtain⟨n,hn⟩:∃n,N[i]?=some n:=⟨N[i],List.getElem?_eq_getElem hlt⟩
  obtain⟨y,hy⟩:∃y,I[i]?=some y:=⟨I[i],List.getElem?_eq_getElem hlt'⟩
  have hnat:(strG N)[0+(i:Int).toNat*1+0]?=some (.s n):=by
   rw[Nat.add_zero,Nat.zero_add,Nat.mul_one,Int.toNat_natCast]
   unfold strG
   rw[List.getElem?_map,hn];rfl
  refine⟨⟨Int.natCast_nonneg _,rfl,of_decide_eq_true h⟩,?_⟩
  conv=>whnf
  refine⟨.s n,hnat,?_⟩
  conv=>whnf
  refine callP (r_Name n) (by first|exact Wks.refl _|exact Wks.cons (Wk.sl _ _) (Wks.refl _)|exact Wks.cons (Wk.sl _ _) (Wks.cons (Wk.sl _ _) (Wks.refl _))|exact Wks.cons (Wk.refl _) (Wks.cons (Wk.sl _ _) (Wks.refl _))) rfl (by first|exact fun _=>rfl|exact Cl.sl (ClL.mapOf (fun _=>Cl.s _) _)|exact ClL.cons (Cl.sl (ClL.mapOf (fun _=>Cl.s _) _)) (fun _=>rfl)) (by first|exact fun _=>rfl|exact Cl.sl (ClL.mapOf (fun _=>Cl.s _) _)|exact ClL.cons (Cl.sl (ClL.mapOf (fun _=>Cl.s _) _)) (fun _=>rfl)) ?_
  conv=>whnf
  refine GIf.mk (fun hnm=>?_) (fun hnm=>?_)<;>conv=>whnf
  ·have hnm:isName n=false:=by simpa using hnm
   obtain⟨rfl,rfl⟩:=hbad (List.all_eq_false.2 ⟨n,List.mem_of_getElem? hn,by rw[hnm];simp⟩)
   exact owesB rfl (wk_t2 (Wk.sl _ _) (.refl _)) hcN (Cl.tup (.cons (Cl.sl ClL.nil) (.cons (.i _ _) .nil)))
  have hnm:isName n=true:=by simpa using hnm
  conv=>whnf
  refine⟨⟨Int.natCast_nonneg _,rfl,of_decide_eq_true h⟩,?_⟩
  conv=>whnf
  refine⟨.s n,hnat,?_⟩
  conv=>whnf
  refine⟨⟨Int.natCast_nonneg _,rfl,(by show(i:Int)<(I.length:Int);omega)⟩,?_⟩
  conv=>whnf
  refine⟨flat (itms (midN I N (i+1))),⟨?_,Nat.zero_le _,rfl,?_⟩,?_⟩
  ·show _=(flat (itms (midN I N i))).take (0+(i:Int).toNat*5+0)++[.s n]++(flat (itms (midN I N i))).drop (0+(i:Int).toNat*5+0+1)
   simp only[Nat.add_zero,Nat.zero_add,Int.toNat_natCast]
   rw[flat5_put _ i y n (mid_at hl hy),mid_succ hl hy hn]
  ·show 0+(i:Int).toNat*5+0+1<=(flat (itms (midN I N i))).length
   rw[flat5_len,mid_len hl hi,Int.toNat_natCast];omega
  conv=>whnf
  refine⟨I.length - (i+1),(by show _<I.length - i;omega),i+1,⟨hlt',fun x hx=>?_⟩,rfl,⟨rfl,rfl,wrap_succ (by omega),trivial⟩,[],rfl,rfl⟩
  rw[List.take_add_one,hn] at hx
  rcases List.mem_append.1 hx with q|q
  ·exact hN x q
  ·rw[List.mem_singleton.1 (show x∈[n] from q)];exact hnm
theorem r_Rename1 (I:List Itm) (N:List By) (hI:I.length<1000000) (hl:N.length=I.length):
  SC Tryz.prog 37 [.sl .none (itms I),.rs 0 0 1 N.length N.length] [rowS N] (.val (.tup [.sl .none (itms (renO I N).1),.i .i64 (renO I N).2])) [rowS N]:=by
 have hv:=r_ValidItems1 I (by unfold most;omega)
 have hil:=itms_len I
 have hcN:=strG_cl N
 unfold renO
 cases b1:(decide (0<I.length)&&knownB I) with
 |false=>
  rw[b1] at hv
  unfold rowS
  refine SC.of_gwp noM mixed Tryz.func37 rfl (Nat.le_of_ble_eq_true rfl) (by first|exact Nat.le_refl _|simp) rfl ?_
  conv=>whnf
  refine callP hv (Wks.refl _) rfl (ClL.cons (Cl.sl (itms_cl I)) .nil) (.b _) ?_
  conv=>whnf
  exact owesB rfl (wk_t2 (Wk.sl _ _) (.refl _)) hcN (Cl.tup (.cons (Cl.sl ClL.nil) (.cons (.i _ _) .nil)))
 |true=>
  rw[if_pos rfl]
  cases b2:N.all isName with
  |false=>exact ren1_walk I N hI hl b1 _ _ (Nat.le_refl _) rfl (fun _=>⟨rfl,rfl⟩) (fun h=>by rw[b2] at h;cases h) (fun h=>by rw[b2] at h;cases h)
  |true=>
   rw[if_pos rfl]
   by_cases b3:((zipN I N).map Itm.name).Nodup
   ·rw[if_pos b3]
    refine SC.freezeT (T:=47) (esz:=5) (n:=I.length) (c:=I.length) (cs:=flat (itms (zipN I N))) (ren1_walk I N hI hl b1 _ _ (Nat.le_add_left 1 1) rfl (fun h=>by rw[b2] at h;cases h) (fun _ h=>absurd b3 h) (fun _ _=>⟨rfl,rfl⟩)) (fun x hx=>?_) (by decide) rfl ?_ (fun x hx=>?_) (flat5_free _)
    ·rw[List.mem_singleton.1 hx];exact⟨_,_,rfl,strG_free N⟩
    ·rw[itms_len,zip_len hl]
    ·obtain⟨y,_,rfl⟩:=List.mem_map.1 hx;rfl
   ·rw[if_neg b3]
    exact ren1_walk I N hI hl b1 _ _ (Nat.le_refl _) rfl (fun h=>by rw[b2] at h;cases h) (fun _ _=>⟨rfl,rfl⟩) (fun _ h=>absurd h b3)
end Go.Proofs.YtlhabmglchgdnaaGreatDoor
namespace Go.Proofs.YtlhabmglchgdnaaGreatDoor
set_option maxRecDepth 100000
set_option linter.unusedVariables false
def nnL (f g:List By) (I:List Itm) (i:Nat):List By:=(I.take i).map (fun y=>nmap f g y.name)++List.replicate (I.length - i) []
theorem nn_len {f g:List By} {I:List Itm} {i:Nat} (h:i<=I.length):(nnL f g I i).length=I.length:=by
 unfold nnL
 rw[List.length_append,List.length_map,List.length_take,List.length_replicate];omega
theorem nn_0 (f g:List By) (I:List Itm):nnL f g I 0=List.replicate I.length []:=rfl
theorem nn_end (f g:List By) (I:List Itm):nnL f g I I.length=I.map (fun y=>nmap f g y.name):=by
 unfold nnL
 rw[List.take_length,Nat.sub_self];simp
theorem nn_set {f g:List By} {I:List Itm} {i:Nat} {y:Itm} (hy:I[i]?=some y):(nnL f g I i).set i (nmap f g y.name)=nnL f g I (i+1):=by
 have hi:=(List.getElem?_eq_some_iff.1 hy).1
 have hl:((I.take i).map (fun y=>nmap f g y.name)).length=i:=by rw[List.length_map,List.length_take];omega
 unfold nnL
 rw[List.set_append_right _ _ (by omega),hl,Nat.sub_self,show I.length - i=(I.length - (i+1))+1 by omega,List.replicate_succ,List.set_cons_zero,List.take_add_one,hy,List.map_append,List.append_assoc]
 rfl
theorem str_put:∀(L:List By) (i:Nat) (x:By),i<L.length->(strG L).take i++[.s x]++(strG L).drop (i+1)=strG (L.set i x)
 |[],i,x,h=>absurd h (Nat.not_lt_zero i)
 |z::L,0,x,h=>rfl
 |z::L,i+1,x,h=>by
  have:=str_put L i x (by simpa using h)
  rw[List.set_cons_succ]
  show GV.s z::((strG L).take i++[.s x]++(strG L).drop (i+1))=GV.s z::strG (L.set i x)
  rw[this]
theorem str_rep (n:Nat):strG (List.replicate n ([]:By))=List.replicate n (.s []):=by
 unfold strG;rw[List.map_replicate]
theorem zip_ren (f g:List By):∀I:List Itm,zipN I (I.map fun y=>nmap f g y.name)=renI f g I
 |[]=>rfl
 |y::I=>by
  have:=zip_ren f g I
  unfold zipN renI at*
  rw[List.map_cons,List.zipWith_cons_cons,this,List.map_cons]
theorem ok_set {y:Itm} {n:By} (h:y.ok=true) (hn:isName n=true):(setN y n).ok=true:=by
 unfold Itm.ok setN at*
 rw[Bool.and_eq_true] at h⊢
 exact⟨hn,h.2⟩
theorem zip_known {I:List Itm} {N:List By} (hk:knownB I=true) (hl:N.length=I.length) (hN:N.all isName=true) (hd:((zipN I N).map Itm.name).Nodup):knownB (zipN I N)=true:=by
 unfold knownB at*
 simp only[Bool.and_eq_true,decide_eq_true_eq] at hk⊢
 refine⟨⟨List.all_eq_true.2 fun x hx=>?_,hd⟩,by rw[zip_len hl];exact hk.2⟩
 obtain⟨i,hi⟩:=List.mem_iff_getElem?.1 hx
 have hlt:=(List.getElem?_eq_some_iff.1 hi).1
 rw[zip_len hl] at hlt
 rw[zip_at (List.getElem?_eq_getElem hlt) (List.getElem?_eq_getElem (show i<N.length by omega))] at hi
 cases hi
 exact ok_set (List.all_eq_true.1 hk.1.1 _ (List.getElem_mem hlt)) (List.all_eq_true.1 hN _ (List.getElem_mem _))
theorem renO_ok {I:List Itm} {N:List By} (hl:N.length=I.length) (h:(renO I N).2=0):(renO I N).1=zipN I N/\knownB (zipN I N)=true:=by
 unfold renO at*
 split at h
 ·rename_i h1
  split at h
  ·rename_i h2
   split at h
   ·rename_i h3
    rw[Bool.and_eq_true] at h1
    rw[if_pos (by rw[Bool.and_eq_true];exact h1),if_pos h2,if_pos h3]
    exact⟨rfl,zip_known h1.2 hl h2 h3⟩
   ·cases h
  ·cases h
 ·cases h
theorem renS_len {s:By} {f g:List By} (h:(renS s f g).2=0) (hne:∀e,readS s=.err e->e≠0):f.length=g.length:=by
 unfold renS at h
 cases hx:readS s with
 |err e=>rw[hx] at h;exact absurd h (hne e hx)
 |ok t=>
  rw[hx] at h
  simp only at h
  by_cases hl:f.length=g.length
  ·exact hl
  ·rw[if_neg hl] at h;cases h
theorem nmap_at (f g:List By) (w:By) (hl:f.length=g.length):(idxS f w= -1/\nmap f g w=w)∨∃(k:Nat) (x:By),idxS f w=(k:Nat)/\g[k]?=some x/\nmap f g w=x/\k<g.length:=by
 unfold idxS nmap
 cases e:f.findIdx? (· ==w) with
 |none=>exact .inl ⟨rfl,rfl⟩
 |some k=>
  obtain⟨hk,_,_⟩:=List.findIdx?_eq_some_iff_getElem.1 e
  have hk':k<g.length:=by omega
  refine .inr ⟨k,g[k],rfl,List.getElem?_eq_getElem hk',?_,hk'⟩
  show g.getD k []=_
  rw[List.getD_eq_getElem?_getD,List.getElem?_eq_getElem hk',Option.getD_some]
theorem renamed_law {I:List Itm} {R:List Val} {s s':By} {f g:List By} {b:Bool} (h:evalS I [] R [] s=(b,0)) (hr:renS s f g=(s',0)) (ho:(renO I (I.map fun y=>nmap f g y.name)).2=0):
  evalS (renO I (I.map fun y=>nmap f g y.name)).1 [] R [] s'=(b,0):=by
 obtain⟨h1,h2⟩:=renO_ok (by rw[List.length_map]) ho
 rw[zip_ren] at h1 h2
 rw[h1]
 exact eval_renamed h hr h2
end Go.Proofs.YtlhabmglchgdnaaGreatDoor
namespace Go.Proofs.YtlhabmglchgdnaaGreatDoor
open Go.RowKit
set_option maxRecDepth 100000
set_option linter.unusedVariables false
theorem l_CondRenames (s:By) (f g:List By) (I:List Itm) (R:List Val):
  SC Tryz.prog 6 [.s s,.sl .none (strG f),.sl .none (strG g),.sl .none (itms I),.sl .none (vlsG R)] [] (.val (.b true)) []:=by
 have haw:=l_awake
 have n1:=l_Names f
 have n2:=l_Names g
 have i1:=l_Items I
 have i3:=l_Rows [R] (by simp)
 have hRW:[R].all rowB=true->R.length<most:=fun h=>by
  simp only[List.all_cons,List.all_nil,Bool.and_true] at h
  exact row_le h
 generalize[R].all rowB=b3 at*
 cases a1:namesB f with
 |false=>
  rw[a1] at n1
  refine SC.of_gwp noM mixed Tryz.func6 rfl (Nat.le_of_ble_eq_true rfl) (by first|exact Nat.le_refl _|simp) rfl ?_
  conv=>whnf
  refine GIf.mk (fun h=>?_) (fun h=>?_)<;>conv=>whnf
  ·skip
   refine callP haw (Wks.refl _) rfl (fun _=>rfl) (.b _) ?_
   conv=>whnf
   exact owes_b rfl
  refine callP n1 (Wks.refl _) rfl (ClL.cons (Cl.sl (strG_cl f)) .nil) (.b _) ?_
  conv=>whnf
  refine callP haw (Wks.refl _) rfl (fun _=>rfl) (.b _) ?_
  conv=>whnf
  exact owes_b rfl
 |true=>
 rw[a1] at n1
 cases a2:namesB g with
 |false=>
  rw[a2] at n2
  refine SC.of_gwp noM mixed Tryz.func6 rfl (Nat.le_of_ble_eq_true rfl) (by first|exact Nat.le_refl _|simp) rfl ?_
  conv=>whnf
  refine GIf.mk (fun h=>?_) (fun h=>?_)<;>conv=>whnf
  ·skip
   refine callP haw (Wks.refl _) rfl (fun _=>rfl) (.b _) ?_
   conv=>whnf
   exact owes_b rfl
  refine callP n1 (Wks.refl _) rfl (ClL.cons (Cl.sl (strG_cl f)) .nil) (.b _) ?_
  conv=>whnf
  refine callP n2 (Wks.refl _) rfl (ClL.cons (Cl.sl (strG_cl g)) .nil) (.b _) ?_
  conv=>whnf
  refine callP haw (Wks.refl _) rfl (fun _=>rfl) (.b _) ?_
  conv=>whnf
  exact owes_b rfl
 |true=>
 rw[a2] at n2
 cases b1:itemsB I with
 |false=>
  rw[b1] at i1
  refine SC.of_gwp noM mixed Tryz.func6 rfl (Nat.le_of_ble_eq_true rfl) (by first|exact Nat.le_refl _|simp) rfl ?_
  conv=>whnf
  refine GIf.mk (fun h=>?_) (fun h=>?_)<;>conv=>whnf
  ·skip
   refine callP haw (Wks.refl _) rfl (fun _=>rfl) (.b _) ?_
   conv=>whnf
   exact owes_b rfl
  refine callP n1 (Wks.refl _) rfl (ClL.cons (Cl.sl (strG_cl f)) .nil) (.b _) ?_
  conv=>whnf
  refine callP n2 (Wks.refl _) rfl (ClL.cons (Cl.sl (strG_cl g)) .nil) (.b _) ?_
  conv=>whnf
  refine callP i1 (Wks.refl _) rfl (ClL.cons (Cl.sl (itms_cl I)) .nil) (.b _) ?_
  conv=>whnf
  refine callP haw (Wks.refl _) rfl (fun _=>rfl) (.b _) ?_
  conv=>whnf
  exact owes_b rfl
 |true=>
 rw[b1] at i1
 cases b3 with
 |false=>
  refine SC.of_gwp noM mixed Tryz.func6 rfl (Nat.le_of_ble_eq_true rfl) (by first|exact Nat.le_refl _|simp) rfl ?_
  conv=>whnf
  refine GIf.mk (fun h=>?_) (fun h=>?_)<;>conv=>whnf
  ·skip
   refine callP haw (Wks.refl _) rfl (fun _=>rfl) (.b _) ?_
   conv=>whnf
   exact owes_b rfl
  refine callP n1 (Wks.refl _) rfl (ClL.cons (Cl.sl (strG_cl f)) .nil) (.b _) ?_
  conv=>whnf
  refine callP n2 (Wks.refl _) rfl (ClL.cons (Cl.sl (strG_cl g)) .nil) (.b _) ?_
  conv=>whnf
  refine callP i1 (Wks.refl _) rfl (ClL.cons (Cl.sl (itms_cl I)) .nil) (.b _) ?_
  conv=>whnf
  refine callP i3 (Wks.cons (Wk.sl _ _) (Wks.refl _)) rfl (ClL.cons (Cl.sl (rowsG_cl [R])) .nil) (.b _) ?_
  conv=>whnf
  refine callP haw (Wks.refl _) rfl (fun _=>rfl) (.b _) ?_
  conv=>whnf
  exact owes_b rfl
 |true=>
  have hR:=hRW rfl
  have hI:=items_le b1
  have hIm:=hI
  unfold most at hIm
  have hI20:I.length<=20:=by
   have b2:=b1
   unfold itemsB at b2
   simp only[Bool.and_eq_true,decide_eq_true_eq] at b2
   exact b2.2
  have hf:=names_le a1
  have hg:=names_le a2
  have hil:=itms_len I
  have hcf:=strG_cl f
  have hcg:=strG_cl g
  have c1:=c_Rename s f g (by omega) (by omega)
  have r1:=r_Rename s f g (by omega) (by omega)
  rw[renR_eq] at r1
  have kn:=r_Known1 I hI
  have hlen:=fun h=>@renS_len s f g h (fun e he=>by rcases readS_err he with rfl|rfl|rfl<;>decide)
  have hlw:=fun b s' h hr ho=>@renamed_law I R s s' f g b h hr ho
  have e1:=c_EvalU I [] R [] hI (by unfold most;simp) hR (by unfold most;simp) s
  have t1:=l_tell (renS s f g).1 (renS s f g).2
  generalize renS s f g=q at*
  obtain⟨w,e⟩:=q
  generalize evalS I [] R [] s=X at*
  obtain⟨x,p⟩:=X
  simp only at c1 r1 t1 e1 hlen
  refine SC.of_gwp noM mixed Tryz.func6 rfl (Nat.le_of_ble_eq_true rfl) (by first|exact Nat.le_refl _|simp) rfl ?_
  conv=>whnf
  refine GIf.mk (fun h=>?_) (fun h=>?_)<;>conv=>whnf
  ·skip
   refine callP haw (Wks.refl _) rfl (fun _=>rfl) (.b _) ?_
   conv=>whnf
   exact owes_b rfl
  refine callP n1 (Wks.refl _) rfl (ClL.cons (Cl.sl (strG_cl f)) .nil) (.b _) ?_
  conv=>whnf
  refine callP n2 (Wks.refl _) rfl (ClL.cons (Cl.sl (strG_cl g)) .nil) (.b _) ?_
  conv=>whnf
  refine callP i1 (Wks.refl _) rfl (ClL.cons (Cl.sl (itms_cl I)) .nil) (.b _) ?_
  conv=>whnf
  refine callP i3 (Wks.cons (Wk.sl _ _) (Wks.refl _)) rfl (ClL.cons (Cl.sl (rowsG_cl [R])) .nil) (.b _) ?_
  conv=>whnf
  refine callP c1 (Wks.refl _) rfl (ClL.cons (.s _) (ClL.cons (Cl.sl hcf) (ClL.cons (Cl.sl hcg) .nil))) (fun _=>rfl) ?_
  conv=>whnf
  refine callP t1 (Wks.refl _) rfl (fun _=>rfl) (fun _=>rfl) ?_
  conv=>whnf
  refine callP r1 (Wks.refl _) rfl (ClL.cons (.s _) (ClL.cons (Cl.sl hcf) (ClL.cons (Cl.sl hcg) .nil))) (fun _=>rfl) ?_
  conv=>whnf
  refine callP t1 (Wks.refl _) rfl (fun _=>rfl) (fun _=>rfl) ?_
  conv=>whnf
  refine⟨by kernel_rfl,?_⟩
  conv=>whnf
  refine GIf.mk (fun n3=>?_) (fun n3=>?_)<;>conv=>whnf
  ·simp at n3
  refine GIf.mk (fun z0=>?_) (fun z0=>?_)<;>conv=>whnf
  ·skip
   refine callP haw (Wks.refl _) rfl (fun _=>rfl) (.b _) ?_
   conv=>whnf
   exact owes_b rfl
  have he:e=0:=by simpa using z0
  subst he
  have hfg:f.length=g.length:=hlen rfl
  have hnm:=fun w=>nmap_at f g w hfg
  have hix:=fun w=>l_index f (by omega) w
  cases kb:knownB I with
  |false=>
   rw[kb] at kn
   refine callP kn (Wks.refl _) rfl (ClL.cons (Cl.sl (itms_cl I)) .nil) (.b _) ?_
   conv=>whnf
   refine callP haw (Wks.refl _) rfl (fun _=>rfl) (.b _) ?_
   conv=>whnf
   exact owes_b rfl
  |true=>
  rw[kb] at kn
  refine callP kn (Wks.refl _) rfl (ClL.cons (Cl.sl (itms_cl I)) .nil) (.b _) ?_
  conv=>whnf
  refine⟨I.length,strG (nnL f g I 0),⟨(by rw[hil]),rfl,(by rw[hil];show(I.length:Int)<=(4294967296:Nat);omega),?_⟩,?_⟩
  ·rw[nn_0,str_rep]
   induction I.length with
   |zero=>rfl
   |succ n ih=>rw[List.replicate_succ,List.replicate_succ,List.flatten_cons,<-ih];rfl
  conv=>whnf
  refine GLoop.introS (fun i:Nat=>i<=I.length) (fun i=>[(0,.s s),(1,.sl .none (strG f)),(2,.sl .none (strG g)),(3,.sl .none (itms I)),(4,.sl .none (vlsG R)),(11,.s w),(13,.rs 1 0 1 I.length I.length),(14,.i .i64 (i:Nat))])
   (fun i=>⟨[.own 1 1 32,.box 9 (strG (nnL f g I i))],0,[]⟩) (fun i=>I.length - i) 0 (Nat.zero_le _) ⟨rfl,rfl,rfl,rfl,rfl,rfl,rfl,rfl,trivial⟩ rfl (fun _ _=>Nat.le_refl _) (fun _ _=>rfl) (fun i _ e he=>?_) (fun i φ0 hi=>?_)
  ·refine⟨?_,rfl,?_⟩
   ·show[GObj.own 1 1 _,(GObj.box _ (strG _)).ren e]=_
    rw[GObj.box_cl (strG_cl _) e]
   ·show[_,(GV.sl .none (strG f)).ren e,(GV.sl .none (strG g)).ren e,(GV.sl .none (itms I)).ren e,(GV.sl .none (vlsG R)).ren e,_,GV.rs (e 1) 0 1 _ _,_]=_
    rw[Cl.sl (itms_cl I) e,Cl.sl (vlsG_cl R) e,Cl.sl hcf e,Cl.sl hcg e,he 1 (by simp)];rfl
  replace hi:i<=I.length:=hi
  have hnl:=nn_len (f:=f) (g:=g) hi
  conv=>whnf
  refine GIf.mk (fun h1=>?_) (fun h1=>?_)<;>conv=>whnf
  rotate_left
  ·have hie:i=I.length:=by have:=of_decide_eq_false h1;rw[hil] at this;omega
   subst hie
   rw[nn_end]
   generalize hN:(I.map fun y=>nmap f g y.name)=N at*
   have hNl:N.length=I.length:=by rw[<-hN,List.length_map]
   have hr1:=r_Rename1 I N (by omega) hNl
   have hlw2:=fun b h ho=>hlw b w h rfl ho
   have e2:=fun(J:List Itm) (hJ:J.length<most)=>c_EvalU J [] R [] hJ (by unfold most;simp) hR (by unfold most;simp) w
   have hOl:(renO I N).1.length<most:=by
    unfold renO
    split
    ·split
     ·split
      ·show(zipN I N).length<most
       rw[zip_len hNl];exact hI
      ·unfold most;simp
     ·unfold most;simp
    ·unfold most;simp
   generalize renO I N=Q at*
   obtain⟨J,o⟩:=Q
   simp only at hlw2 hOl hr1
   have hcN:=strG_cl N
   unfold rowS at hr1
   refine callAt (q:=1) hr1 rfl ?_ rfl hcN (Cl.tup (.cons (Cl.sl (itms_cl J)) (.cons (.i _ _) .nil))) ?_
   ·refine Wks.cons (by rw[Cl.sl (itms_cl I)];exact Wk.refl _) (Wks.cons ?_ (Wks.refl _))
    show Wk _ (GV.rs (emb [1] _ 0) 0 1 _ _)
    rw[show emb [1] _ 0=1 from emb_lt (by simp),hNl]
    exact .refl _
   conv=>whnf
   refine callP e1 (Wks.cons (Wk.refl _) (Wks.cons (Wk.refl _) (Wks.cons (Wk.refl _) (Wks.cons (Wk.sl _ _) (Wks.cons (Wk.sl _ _) (Wks.refl _)))))) rfl (ClL.cons (.s _) (ClL.cons (Cl.sl (itms_cl I)) (ClL.cons (Cl.sl (vlsG_cl R)) (ClL.cons (Cl.sl ClL.nil) (ClL.cons (Cl.sl ClL.nil) .nil))))) (fun _=>rfl) ?_
   conv=>whnf
   refine GIf.mk (fun z1=>?_) (fun z1=>?_)<;>conv=>whnf
   ·skip
    refine callP haw (Wks.refl _) rfl (fun _=>rfl) (.b _) ?_
    conv=>whnf
    exact owes_b rfl
   refine GIf.mk (fun z2=>?_) (fun z2=>?_)<;>conv=>whnf
   ·skip
    refine callP haw (Wks.refl _) rfl (fun _=>rfl) (.b _) ?_
    conv=>whnf
    exact owes_b rfl
   have ho:o=0:=by simpa using z1
   have hX:(x,p)=(x,(0:Int)):=by rw[show p=0 by simpa using z2]
   have e3:=e2 J hOl
   rw[hlw2 x hX ho] at e3
   refine callP e3 (Wks.cons (Wk.refl _) (Wks.cons (Wk.refl _) (Wks.cons (Wk.refl _) (Wks.cons (Wk.sl _ _) (Wks.cons (Wk.sl _ _) (Wks.refl _)))))) rfl (ClL.cons (.s _) (ClL.cons (Cl.sl (itms_cl J)) (ClL.cons (Cl.sl (vlsG_cl R)) (ClL.cons (Cl.sl ClL.nil) (ClL.cons (Cl.sl ClL.nil) .nil))))) (fun _=>rfl) ?_
   conv=>whnf
   refine GIf.mk (fun z3=>?_) (fun z3=>?_)<;>conv=>whnf
   ·skip
    refine callP haw (Wks.refl _) rfl (fun _=>rfl) (.b _) ?_
    conv=>whnf
    exact owes_b rfl
   ·simp at z3
  have hlt:i<I.length:=by have:=of_decide_eq_true h1;rw[hil] at this;omega
  obtain⟨y,hy⟩:∃y,I[i]?=some y:=⟨I[i],List.getElem?_eq_getElem hlt⟩
  have hgy:=itms_at hy
  have hsl:=strG_len (nnL f g I i)
  refine⟨Int.natCast_nonneg _,_,by rw[Int.toNat_natCast];exact hgy,rfl,?_⟩
  conv=>whnf
  refine⟨⟨Int.natCast_nonneg _,rfl,(by show(i:Int)<(I.length:Int);omega)⟩,?_⟩
  conv=>whnf
  have hput:=str_put (nnL f g I i) i y.name (by omega)
  have hat:(strG ((nnL f g I i).set i y.name))[0+(i:Int).toNat*1+0]?=some (.s y.name):=by
   rw[Nat.add_zero,Nat.zero_add,Nat.mul_one,Int.toNat_natCast]
   unfold strG
   rw[List.getElem?_map,List.getElem?_set_self (by omega)];rfl
  refine⟨strG ((nnL f g I i).set i y.name),⟨?_,Nat.zero_le _,rfl,?_⟩,?_⟩
  ·show _=(strG (nnL f g I i)).take (0+(i:Int).toNat*1+0)++[.s y.name]++(strG (nnL f g I i)).drop (0+(i:Int).toNat*1+0+1)
   simp only[Nat.add_zero,Nat.zero_add,Nat.mul_one,Int.toNat_natCast]
   exact hput.symm
  ·show 0+(i:Int).toNat*1+0+1<=(strG (nnL f g I i)).length
   rw[hsl,hnl,Int.toNat_natCast];omega
  conv=>whnf
  refine⟨⟨Int.natCast_nonneg _,rfl,(by show(i:Int)<(I.length:Int);omega)⟩,?_⟩
  conv=>whnf
  refine⟨.s y.name,hat,?_⟩
  conv=>whnf
  have hx1:=hix y.name
  rcases hnm y.name with⟨k1,k2⟩|⟨k,x1,k1,k2,k3,k4⟩
  ·rw[k1] at hx1
   refine callP hx1 (Wks.refl _) rfl (ClL.cons (Cl.sl hcf) (fun _=>rfl)) (.i _ _) ?_
   conv=>whnf
   refine⟨I.length - (i+1),(by show _<I.length - i;omega),i+1,hlt,rfl,⟨rfl,rfl,rfl,rfl,rfl,rfl,rfl,wrap_succ (by omega),trivial⟩,[],?_,rfl⟩
   show[GObj.own 1 1 _,GObj.box _ (strG ((nnL f g I i).set i y.name))]=[GObj.own 1 1 _,GObj.box _ (strG (nnL f g I (i+1)))]++[]
   rw[<-nn_set hy,k2];rfl
  ·rw[k1] at hx1
   have hgx:(strG g)[((k:Nat):Int).toNat]?=some (.s x1):=by
    rw[Int.toNat_natCast];unfold strG;rw[List.getElem?_map,k2];rfl
   refine callP hx1 (Wks.refl _) rfl (ClL.cons (Cl.sl hcf) (fun _=>rfl)) (.i _ _) ?_
   conv=>whnf
   refine⟨Int.natCast_nonneg _,_,hgx,rfl,?_⟩
   conv=>whnf
   refine⟨⟨Int.natCast_nonneg _,rfl,(by show(i:Int)<(I.length:Int);omega)⟩,?_⟩
   conv=>whnf
   have hput2:=str_put ((nnL f g I i).set i y.name) i x1 (by rw[List.length_set];omega)
   refine⟨strG (nnL f g I (i+1)),⟨?_,Nat.zero_le _,rfl,?_⟩,?_⟩
   ·show _=(strG ((nnL f g I i).set i y.name)).take (0+(i:Int).toNat*1+0)++[.s x1]++(strG ((nnL f g I i).set i y.name)).drop (0+(i:Int).toNat*1+0+1)
    simp only[Nat.add_zero,Nat.zero_add,Nat.mul_one,Int.toNat_natCast]
    rw[hput2,List.set_set,<-nn_set hy,k3]
   ·show 0+(i:Int).toNat*1+0+1<=(strG ((nnL f g I i).set i y.name)).length
    rw[strG_len,List.length_set,hnl,Int.toNat_natCast];omega
   conv=>whnf
   exact⟨I.length - (i+1),(by show _<I.length - i;omega),i+1,hlt,rfl,⟨rfl,rfl,rfl,rfl,rfl,rfl,rfl,wrap_succ (by omega),trivial⟩,[],rfl,rfl⟩
end Go.Proofs.YtlhabmglchgdnaaGreatDoor
namespace Go.Proofs.YtlhabmglchgdnaaGreatDoor
theorem condRenames_holds:Rows.CondRenamesCardSaid:=condRenames_card_of (condRenames_of fun a0 a1 a2 a3 a4 _ _ _ _ _=>⟨[],l_CondRenames a0 a1 a2 a3 a4⟩)
end Go.Proofs.YtlhabmglchgdnaaGreatDoor
