/-
  A part of the proof of ViewTexts.
-/
import Derived.Test.YtldggonlkafckaaGreatDoorQ45
import Derived.Test.YtldggonlkafckaaGreatDoorQ19
set_option linter.all false
namespace Go.Proofs.YtldggonlkafckaaGreatDoor
open Go.RowKit
set_option maxRecDepth 100000
set_option linter.unusedVariables false
def sqH (a0 a1 a2 a3 a4:List By->GObj) (tl:List By->List GObj) (L:GObj) (p:By) (done:List By) (rest:By):List GObj:=
 a0 done::a1 done::a2 done::a3 done::a4 done::.box 9 [.s rest]::.box 9 [.s p]::.box 3 [.i .i64 0]::.dfr::L::tl done
theorem c_split1 [MaxL] (a0 a1 a2 a3 a4:List By->GObj) (tl:List By->List GObj) (L:GObj) (p s:By) (hp:p≠[]) (hpl:p.length<=100) (hs:s.length<=100000) (ht:tl []=[])
  (hh:∀done rest,(sqH a0 a1 a2 a3 a4 tl L p done rest).all GObj.notHeld=true)
  (hb:∀done rest x,done.length<=s.length->x.length<=s.length->Fact Tryz.prog (.yld 9) [.s x] ⟨sqH a0 a1 a2 a3 a4 tl L p done rest,0,[]⟩ (.val (.b true)) ⟨sqH a0 a1 a2 a3 a4 tl L p (done++[x]) rest,0,[]⟩):
  SC Tryz.prog 182 [.yld 9,.ptr 6 0,.ptr 5 0,.ptr 7 0] (sqH a0 a1 a2 a3 a4 tl L p [] s) (.val (.tup [])) (sqH a0 a1 a2 a3 a4 tl L p (pieces p s) ((pieces p s).getLastD [])):=by
 have hp0:0<p.length:=List.length_pos_iff.2 hp
 refine SC.of_gwp noM mixed Tryz.func182 rfl (bL rfl) (by simp[sqH,ht]) (hh _ _) ?_
 conv=>whnf
 refine GIf.mk (fun h0=>?_) (fun h0=>?_)<;>conv=>whnf
 ·exfalso
  have h9:((p.length:Nat):Int)=0:=by simpa using h0
  omega
 refine GLoop.intro (fun q:List By×By=>q.1++pieces p q.2=pieces p s/\q.1.length+q.2.length<=s.length) (fun q=>[(0,.yld 9),(1,.ptr 6 0),(2,.ptr 5 0),(3,.ptr 7 0)]) (fun q=>⟨sqH a0 a1 a2 a3 a4 tl L p q.1 q.2,0,[]⟩) (fun q=>q.2.length) ([],s) ⟨rfl,by simp⟩ ⟨rfl,rfl,rfl,rfl,trivial⟩ rfl (fun q φ0 hq=>?_)
 obtain⟨done,rest⟩:=q
 obtain⟨hq1,hq2⟩:=hq
 replace hq1:done++pieces p rest=pieces p s:=hq1
 replace hq2:done.length+rest.length<=s.length:=hq2
 have hi:=c_Index rest p (by omega)
 conv=>whnf
 rcases cut_cases rest p with⟨a,b,e1,c1,i1,_⟩|⟨c1,i1⟩
 ·rw[i1] at hi
  have hl:=congrArg List.length e1
  simp only[List.length_append] at hl
  have w1:IntKind.i64.wrap (((a.length:Nat):Int)+0)=((a.length:Nat):Int):=by rw[wrap_in (by omega) (by omega)];omega
  have w2:IntKind.i64.wrap (((a.length:Nat):Int)+((p.length:Nat):Int))=((a.length+p.length:Nat):Int):=by rw[wrap_in (by omega) (by omega)];omega
  have t1:rest.take a.length=a:=by rw[e1,List.append_assoc];exact List.take_left' rfl
  have d1:rest.drop (a.length+p.length)=b:=by rw[e1];exact List.drop_left' (by simp)
  have hpc:done++[a]++pieces p b=pieces p s:=by
   rw[<-hq1]
   conv=>rhs;rw[pieces_cut hp,c1]
   simp
  refine callP hi (wR _) rfl (fun _=>rfl) (.i _ _) ?_
  conv=>whnf
  refine⟨by rw[w1];exact cN _,⟨zL _,by rw[w1,Int.toNat_natCast];show a.length<=rest.length;omega⟩,a,by rw[w1,Int.toNat_natCast];exact t1.symm,?_⟩
  conv=>whnf
  refine callY (hb done rest a (by omega) (by omega)) ?_
  conv=>whnf
  refine⟨by rw[w2];exact cN _,⟨by rw[w2,Int.toNat_natCast];show a.length+p.length<=rest.length;omega,rL _⟩,b,by rw[w2,Int.toNat_natCast,d1,List.take_of_length_le (by omega)],?_⟩
  conv=>whnf
  refine⟨_,⟨rfl,zL _,rfl,bL rfl⟩,?_⟩
  conv=>whnf
  refine glistK_mk (l:=tl (done++[a])) ?_
  conv=>whnf
  exact⟨b.length,(by show b.length<rest.length;omega),(done++[a],b),⟨hpc,by show(done++[a]).length+b.length<=_;rw[List.length_append,List.length_singleton];omega⟩,rfl,⟨rfl,rfl,rfl,rfl,trivial⟩,rfl⟩
 ·rw[i1] at hi
  have hpc:done++[rest]=pieces p s:=by
   rw[<-hq1,pieces_cut hp,c1];rfl
  have hgl:(pieces p s).getLastD []=rest:=by rw[<-hpc,List.getLastD_eq_getLast?,List.getLast?_append];rfl
  rw[hgl,<-hpc]
  refine callP hi (wR _) rfl (fun _=>rfl) (.i _ _) ?_
  conv=>whnf
  refine callY (hb done rest rest (by omega) (by omega)) ?_
  conv=>whnf
  refine⟨List.range (sqH a0 a1 a2 a3 a4 tl L p (done++[rest]) rest).length,Lies.all _ (fun x hx e=>?_),fun j hj=>?_,?_⟩
  ·subst e
   have:=List.all_eq_true.1 (hh (done++[rest]) rest) _ hx
   cases this
  ·have h5:j<(sqH a0 a1 a2 a3 a4 tl L p [] s).length:=hj
   have h6:(sqH a0 a1 a2 a3 a4 tl L p [] s).length<=(sqH a0 a1 a2 a3 a4 tl L p (done++[rest]) rest).length:=by simp[sqH,ht]
   have:j<(sqH a0 a1 a2 a3 a4 tl L p (done++[rest]) rest).length:=by omega
   simp[this]
  ·exact .refl _
end Go.Proofs.YtldggonlkafckaaGreatDoor
