/-
  SortRow and CompareIn are what the document says, and CompareIn is an order, for every schema, set, record and three rows that are not too large to look at (with others the law looks at its example alone); the card, in full.
-/
import Derived.Test.YtcfgfkkhpdlhpaaGreatDoorS52
set_option linter.all false
set_option maxRecDepth 100000
namespace Go.Proofs.YtcfgfkkhpdlhpaaGreatDoor
open Go.RowKit
theorem a3C {s:Sch} {n r:By} {row:List Val}:(s8 s n r row).1.length<=8/\∀v∈(s8 s n r row).1,v∈row:=by
 have h0:∀e:Int,(([],e):List Val×Int).1.length<=8/\∀v∈(([],e):List Val×Int).1,v∈row:=fun e=>⟨zL _,fun v hv=>by cases hv⟩;cases hm:wH s n r with
 |mk m e=>
  by_cases he:e=0
  ·subst he;obtain⟨t,i,hR,_⟩:=AG hm;rw[F1 hm hR];split
   ·rename_i h5;have hg:=BH hm hR (by simpa using h5);cases hf:oR (eQ s r).its row with
    |false=>exact h0 1
    |true=>exact⟨by rw[aF rfl];show(nP _ _ _).length<=8;rw[A9];exact hg.1,fun v hv=>X8 hf hg.2 v hv⟩
   ·exact h0 10
  ·rw[JR hm he];exact h0 e
theorem WK {a b c:List Val} (h:[a,b,c].all BM=true):(a.length<bB/\∀v∈a,v.s.length<bB)/\(b.length<bB/\∀v∈b,v.s.length<bB):=by
 simp only[iX,List.all_nil,Bool.and_true,aH] at h;exact⟨WM (by simp[h.1]),WM (by simp[h.2.1])⟩
set_option maxHeartbeats 2000000 in
theorem HP [MaxL] (s:Sch) (ht:W7 s) (n r:By) (a b c:List Val) (hn:n.length<=cap) (hr:r.length<=cap):SC Tryz.prog 9 [nO s,.s n,.s r,.sl .none (hZ a),.sl .none (hZ b),.sl .none (hZ c)] [] (.val (.b true)) []:=by
 have hl:=a0C s ht;have hR:=a1x [a,b,c] (by simp);have ho:=WK (a:=a) (b:=b) (c:=c);unfold cap at hn hr;cases h:wI s with
 |false=>
  rw[h] at hl;refine cY Tryz.func9 rfl ?_;conv=>whnf
  refine cP hl ?_;conv=>whnf
  refine cP pZ ?_;conv=>whnf
  exact dB 0
 |true=>
  rw[h] at hl;obtain⟨hz,hc⟩:=XQ h;obtain⟨hs,hst⟩:=UE h;cases hw:[a,b,c].all BM with
  |false=>
   rw[hw] at hR;refine dF I2 mixed Tryz.func9 rfl (bL rfl) (by first|exact rL _|simp) rfl ?_;(conv=>whnf);refine cP hl ?_;(conv=>whnf);refine aE (fun h1=>?_) (fun h1=>?_)<;>conv=>whnf
   ·refine cP pZ ?_;(conv=>whnf);exact dB 0
   refine cP hR ?_ (hw:=wC (bI _ _) (wR _));(conv=>whnf);refine cP pZ ?_;(conv=>whnf);exact dB 0
  |true=>
   rw[hw] at hR;obtain⟨⟨a1,a2⟩,b1,b2⟩:=ho hw;have hA:=TQ s hz hs n r a a1;have hB:=TZ s hz hs hc n r a a1;have hV:=ZY (s8 s n r a).1 (Nat.lt_of_le_of_lt a3C.1 (by unfold bB;omega)) (fun v hv=>a2 v (a3C.2 v hv));have hC:=s9 s hz hs n a b;have hD:=MM s hz hs hc n a b a2 b2;have hE:=s9 s hz hs n b a;have hF:=s9 s hz hs n b c;have hG:=s9 s hz hs n a c;have hS:=RS a b a1 b1 a2 b2;have la:=kA a;have lc:=kA c;generalize s8 s n r a=Q at*;obtain⟨q,eq⟩:=Q;have hlaw:=fun x=>YI (s:=s) (n:=n) (a:=a) (b:=b) (c:=c) (x:=x);generalize vQ s n a b=P at*;obtain⟨x,e⟩:=P;refine dF I2 mixed Tryz.func9 rfl (bL rfl) (by first|exact rL _|simp) rfl ?_;(conv=>whnf);refine cP hl ?_;(conv=>whnf);refine aE (fun h1=>?_) (fun h1=>?_)<;>conv=>whnf
   ·refine cP pZ ?_;(conv=>whnf);exact dB 0
   refine cP hR ?_ (hw:=wC (bI _ _) (wR _));(conv=>whnf);refine cP hA ?_;(conv=>whnf);refine cP hB ?_;(conv=>whnf);refine gN (show(eq !=eq)=false by simp) ?_;(conv=>whnf);refine cP hV ?_;(conv=>whnf);refine cP hC ?_;(conv=>whnf);refine cP hD ?_;(conv=>whnf);refine gN (show(x !=x)=false by simp) ?_;(conv=>whnf);refine gN (show(e !=e)=false by simp) ?_;(conv=>whnf);refine aE (fun h2=>?_) (fun h2=>?_)<;>conv=>whnf
   ·refine cP pZ ?_;(conv=>whnf);exact dB 0
   refine aE (fun h3=>?_) (fun h3=>?_)<;>rw[la,lc] at h3<;>conv=>whnf
   ·refine cP pZ ?_;(conv=>whnf);exact dB 0
   have e0:e=0:=by simpa using h2
   refine(hlaw x (by rw[e0]) (by simp at h3;omega)).elim fun y k=>k.elim fun z k=>k.elim fun w k=>?_;obtain⟨k1,k2,k3,k4,k5,k6,k7⟩:=k;rw[k1] at hE;rw[k2] at hF;rw[k3] at hG;refine cP hE ?_;(conv=>whnf);refine cP hF ?_;(conv=>whnf);refine cP hG ?_;(conv=>whnf);refine gN (show(y !=IntKind.i64.wrap (0 - x))=false by rw[k4];rcases k7 with rfl|rfl|rfl<;>rfl) ?_;(conv=>whnf);refine aE (fun h4=>?_) (fun h4=>?_)<;>conv=>whnf
   ·refine aE (fun h5=>?_) (fun h5=>?_)<;>conv=>whnf
    ·refine gN (show decide (w>0)=false from cD (by have:=k5 (aB h4) (aB h5);omega)) ?_;(conv=>whnf);refine cP hS ?_;(conv=>whnf);refine gY (show((x==0)==(uH a b==0))=true by rw[k6];simp) ?_;(conv=>whnf);refine cP pZ ?_;(conv=>whnf);exact dB 0
    ·refine cP hS ?_;(conv=>whnf);refine gY (show((x==0)==(uH a b==0))=true by rw[k6];simp) ?_;(conv=>whnf);refine cP pZ ?_;(conv=>whnf);exact dB 0
   ·refine cP hS ?_;(conv=>whnf);refine gY (show((x==0)==(uH a b==0))=true by rw[k6];simp) ?_;(conv=>whnf);refine cP pZ ?_;(conv=>whnf);exact dB 0
end Go.Proofs.YtcfgfkkhpdlhpaaGreatDoor
namespace Go.Proofs.YtcfgfkkhpdlhpaaGreatDoor
open Go
theorem schemaSorts_holds:Rows.SchemaSortsCardSaid:=yB (F5 fun s n r a b c hs hn hr=>HP s hs n r a b c hn hr)
