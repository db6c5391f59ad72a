/-
  What a record is in a set (MemberOf) is what the document says; a record is among Member of a set exactly if MemberOf tells it, and its owner's Owned has the set, for every schema, set and record that are not too large to look at (with others the law looks at its example alone); the card, in full.
-/
import Derived.Test.YtcfgfkkhpdlhpaaGreatDoorQ50
set_option linter.all false
set_option maxRecDepth 100000
namespace Go.Proofs.YtcfgfkkhpdlhpaaGreatDoor
open Go.RowKit
theorem SI {s:Sch} (h:vT s=true):a08 s/\s.st.length<=1000:=by
 unfold vT at h;simp only[aH,dT,Bool.or_eq_false_iff,bM,aS,aK] at h;obtain⟨⟨⟨h1,h2⟩,h3⟩,h4,h5,h6⟩:=h;refine⟨fun t ht=>?_,by omega⟩;have h8:=h5 t ht;unfold z1 s8 at h8;simp only[aH,dT,Bool.or_eq_false_iff,bM,aS,aK] at h8;exact⟨by have:=h8.1.1;omega,by have:=h8.1.2;omega,fun m hm=>by have:=(h8.2 m hm).2;omega⟩
theorem VF {s:Sch} (hz:lU s) (n r:By):(B4 s n r).1.sel.length<bH:=by
 have h0:([]:List By).length<bH:=by unfold bH;simp
 unfold B4;split
 ·split
  ·exact h0
  ·rename_i m hm;have hmm:=hZ hm;unfold s4 at hmm;split at hmm
   ·split at hmm
    ·cases hmm
    ·rename_i t ht;exact(hz.2.2 t (hZ ht)).2.2 m hmm
   ·cases hmm
 ·exact h0
theorem AM (s:Sch) (p:Sy->Bool) (n:By):(lZ s p n).1.length<=s.st.length:=by
 unfold lZ;split
 ·split
  ·show((s.st.filter p).map (·.name)).length<=_;rw[cT];exact List.length_filter_le _ _
  ·exact zL _
 ·exact zL _
theorem Y3 {s:Sch} {n r:By} (h:(lZ s (fun t=>t.ms.any fun m=>m.of==r) r).2=0):(lZ s (fun t=>t.ms.any fun m=>m.of==r) r).1.contains n=((B4 s n r).2==0):=by
 unfold lZ at h⊢;cases hv:((oM s).2.2==0) with
 |false=>rw[hv] at h;simp at h
 |true=>
  rw[hv,aG rfl] at h;rw[aG rfl];cases hr:s.rc.any (·.name==r) with
  |false=>rw[hr] at h;simp at h
  |true=>rw[aG rfl];exact Y4 (eq_of_beq hv) n r
theorem CW [MaxL] (s:Sch) (ht:U9 s) (n r:By) (hn:n.length<=cap) (hr:r.length<=cap):SC Tryz.prog 6 [nG s,.s n,.s r] [] (.val (.b true)) []:=by
 have hl:=Y7 s ht;unfold cap at hn hr;cases h:vT s with
 |false=>
  rw[h] at hl;refine cW Tryz.func6 rfl ?_;conv=>whnf
  refine cP hl ?_;conv=>whnf
  refine cP rS ?_;conv=>whnf
  exact dH 0
 |true=>
  rw[h] at hl;obtain⟨hz,hc⟩:=VP h;obtain⟨hs,hst⟩:=SI h;have hm:=NI s hz hs n r;have hm':=NV s hz hc n r;have hsel:=VF hz n r;have hS:=ZC s hz hs n;have hM:=UG s hz hst r;have hMl:=AM s (fun t=>t.ms.any fun m=>m.of==r) r;have hlaw:(lZ s (fun t=>t.ms.any fun m=>m.of==r) r).2=0->(lZ s (fun t=>t.ms.any fun m=>m.of==r) r).1.contains n=((B4 s n r).2==0):=Y3;have hown:=fun t i=>XX (s:=s) (n:=n) (t:=t) (i:=i);generalize B4 s n r=A at*;obtain⟨m,e⟩:=A;generalize lZ s (fun t=>t.ms.any fun m=>m.of==r) r=Bq at*;obtain⟨l,g⟩:=Bq;have hH:=V3 l (by show l.length<bH;unfold bH;exact Nat.lt_of_le_of_lt (eM hMl hst) (by omega)) n;generalize hR:s4 s n=R at*;obtain⟨t,i,g3⟩:=R;refine dL PA mixed Tryz.func6 rfl (bL rfl) (by first|exact rL _|simp) rfl ?_;conv=>whnf
  refine cP hl ?_;conv=>whnf
  refine aF (fun h1=>?_) (fun h1=>?_)<;>conv=>whnf
  ·refine cP rS ?_;(conv=>whnf);exact dH 0
  refine cP hm ?_;conv=>whnf
  refine st ?_;conv=>whnf
  refine cP hm' ?_;conv=>whnf
  refine st ?_;conv=>whnf
  refine gN (show(e !=e)=false by simp) ?_;conv=>whnf
  refine gN (show(m.of !=m.of)=false by simp) ?_;conv=>whnf
  refine gN (show(m.auto !=m.auto)=false by simp) ?_;conv=>whnf
  refine gN (show(m.keep !=m.keep)=false by simp) ?_;conv=>whnf
  refine cP (KZ m.sel hsel) ?_;conv=>whnf
  refine cP hM ?_;conv=>whnf
  refine aF (fun hg=>?_) (fun hg=>?_)<;>conv=>whnf
  ·refine cP hH ?_;(conv=>whnf);refine gN (show(l.contains n !=(e==0))=false by rw[show l.contains n=(e==0) from hlaw (eq_of_beq hg)];simp) ?_;(conv=>whnf);refine cP hS ?_;(conv=>whnf);refine st ?_;(conv=>whnf);refine aF (fun h3=>?_) (fun h3=>?_)<;>conv=>whnf
   ·refine aF (fun h4=>?_) (fun h4=>?_)<;>conv=>whnf
    ·have h5:=hown t i (by rw[show g3=0 from eq_of_beq h3]) (fun e=>by rw[e] at h4;cases h4);have hO:=PS s hz hst t.owner;have hOl:=AM s (fun u=>u.owner==t.owner) t.owner;generalize lZ s (fun u=>u.owner==t.owner) t.owner=Q at*;obtain⟨lo,go⟩:=Q;obtain⟨h6,h7⟩:=h5;replace h6:go=0:=h6;subst h6;have hHo:=V3 lo (by show lo.length<bH;unfold bH;exact Nat.lt_of_le_of_lt (eM hOl hst) (by omega)) n;rw[show lo.contains n=true from h7] at hHo;refine cP hO ?_;(conv=>whnf);refine cP hHo ?_;(conv=>whnf);refine cP rS ?_;(conv=>whnf);exact dH 0
    ·refine cP rS ?_;(conv=>whnf);exact dH 0
   ·refine cP rS ?_;(conv=>whnf);exact dH 0
  ·skip;refine cP hS ?_;(conv=>whnf);refine st ?_;(conv=>whnf);refine aF (fun h3=>?_) (fun h3=>?_)<;>conv=>whnf
   ·refine aF (fun h4=>?_) (fun h4=>?_)<;>conv=>whnf
    ·have h5:=hown t i (by rw[show g3=0 from eq_of_beq h3]) (fun e=>by rw[e] at h4;cases h4);have hO:=PS s hz hst t.owner;have hOl:=AM s (fun u=>u.owner==t.owner) t.owner;generalize lZ s (fun u=>u.owner==t.owner) t.owner=Q at*;obtain⟨lo,go⟩:=Q;obtain⟨h6,h7⟩:=h5;replace h6:go=0:=h6;subst h6;have hHo:=V3 lo (by show lo.length<bH;unfold bH;exact Nat.lt_of_le_of_lt (eM hOl hst) (by omega)) n;rw[show lo.contains n=true from h7] at hHo;refine cP hO ?_;(conv=>whnf);refine cP hHo ?_;(conv=>whnf);refine cP rS ?_;(conv=>whnf);exact dH 0
    ·refine cP rS ?_;(conv=>whnf);exact dH 0
   ·refine cP rS ?_;(conv=>whnf);exact dH 0
end Go.Proofs.YtcfgfkkhpdlhpaaGreatDoor
namespace Go.Proofs.YtcfgfkkhpdlhpaaGreatDoor
open Go
theorem schemaMembers_holds:Rows.SchemaMembersCardSaid:=vG (AP fun s n r hs hn hr=>CW s hs n r hn hr)
