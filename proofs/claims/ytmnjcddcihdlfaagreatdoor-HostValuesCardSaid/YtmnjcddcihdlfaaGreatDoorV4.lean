/- Part of HostValues. -/
import Derived.Test.YtmnjcddcihdlfaaGreatDoorV3
import Derived.Laws.Slices
import Derived.Laws.StructEq
set_option linter.all false
namespace Go.Proofs.YtmnjcddcihdlfaaGreatDoor
open Go.RowKit
variable [Globals]
def flat (xs:List GV):List GV:=xs.flatMap GV.cells
theorem k7 (x:GV) (xs:List GV):flat (x::xs)=x.cells++flat xs:=by simp[flat]
theorem KQ (xs ys:List GV):flat (xs++ys)=flat xs++flat ys:=by simp[flat]
theorem jV {n:Nat}:∀(xs:List GV),(∀x∈xs,x.cells.length=n)->(flat xs).length=xs.length*n
 |[],_=>by simp[flat]
 |x::xs,h=>by
  rw[k7,aX,h x (by simp),jV xs (fun y hy=>h y (by simp[hy])),aM,Nat.succ_mul];omega
theorem CN {n:Nat}:∀(xs:List GV),(∀x∈xs,x.cells.length=n)->∀(i:Nat) x (j:Nat) g,xs[i]?=some x->x.cells[j]?=some g->(flat xs)[i*n+j]?=some g
 |[],_,i,x,j,g,h,_=>by simp at h
 |y::xs,hw,0,x,j,g,h,hj=>by
  simp at h;subst h;rw[k7,Nat.zero_mul,bM,aU (List.getElem?_eq_some_iff.1 hj).1];exact hj
 |y::xs,hw,i+1,x,j,g,h,hj=>by
  have ih:=CN xs (fun z hz=>hw z (by simp[hz])) i x j g (by simpa using h) hj;rw[k7,bT (by rw[hw y (by simp),Nat.succ_mul];omega),hw y (by simp),show(i+1)*n+j - n=i*n+j by rw[Nat.succ_mul];omega];exact ih
section
variable {P : Program} {C : Cx} {σ : GS} {w0 w : World}
theorem yI {esz:Nat} (F:Nat->Value->Prop):∀(xs:List GV) (o:Nat),(∀x∈xs,x.cells.length=esz)->
  (∀(i:Nat) x (j:Nat) g,xs[i]?=some x->x.cells[j]?=some g->∃u,F (o+i*esz+j) u/\VR C g u)->∃us:List Value,VRs C (flat xs) us/\∀(j:Nat) u,us[j]?=some u->F (o+j) u
 |[],o,_,_=>⟨[],iO,fun j u h=>by simp at h⟩
 |x::xs,o,hw,h=>by
  have hx:∀(cs:List GV) (k:Nat),(∀(j:Nat) g,cs[j]?=some g->∃u,F (k+j) u/\VR C g u)->∃us:List Value,VRs C cs us/\∀(j:Nat) u,us[j]?=some u->F (k+j) u:=by
   intro cs;induction cs with
   |nil=>exact fun k _=>⟨[],iO,fun j u h=>by simp at h⟩
   |cons c cs ih=>
    intro k h;obtain⟨u,hu,hr⟩:=h 0 c rfl;obtain⟨us,h1,h2⟩:=ih (k+1) (fun j g hg=>by rw[show k+1+j=k+(j+1) by omega];exact h (j+1) g (by simpa using hg));refine⟨u::us,fS hr h1,fun j v hv=>?_⟩;cases j with
    |zero=>simp at hv;subst hv;exact hu
    |succ j=>rw[show k+(j+1)=k+1+j by omega];exact h2 j v (by simpa using hv)
  obtain⟨us1,a1,a2⟩:=hx x.cells o (fun j g hg=>by have:=h 0 x j g rfl hg;simpa using this);obtain⟨us2,b1,b2⟩:=yI F xs (o+esz) (fun y hy=>hw y (by simp[hy])) (fun i y j g hy hg=>by
   have:=h (i+1) y j g (by simpa using hy) hg;rw[show o+(i+1)*esz+j=o+esz+i*esz+j by rw[Nat.succ_mul];omega] at this;exact this)
  refine⟨us1++us2,by rw[k7];exact a1.append b1,fun j u hu=>?_⟩;have hl:us1.length=esz:=by rw[a1.1];exact hw x (by simp)
  by_cases hj:j<us1.length
  ·rw[aU hj] at hu;exact a2 j u hu
  ·rw[bT (by omega)] at hu;have:=b2 _ u hu;rw[show o+esz+(j - us1.length)=o+j by omega] at this;exact this
theorem ID {k:Tok} {xs:List GV} {esz b off c:Nat} {us:List Value} (hw:∀x∈xs,x.cells.length=esz) (hv:VRs C (flat xs) us)
  (hfx:∀(j:Nat) u,us[j]?=some u->C.fx b (off+j) u) (hc:xs.length<=c) (ht:TokOk C k xs.length c esz (some ⟨b,off,none⟩)):
  VR C (.sl k xs) (.slice (some ⟨b,off,none⟩) xs.length c):=by
 have hg:∀(i:Nat) x (j:Nat) g,xs[i]?=some x->x.cells[j]?=some g->us[i*esz+j]?=some (us.getD (i*esz+j) undef)/\VR C g (us.getD (i*esz+j) undef):=fun i x j g hx hj=>by
  obtain⟨u,hu,hr⟩:=hv.get (CN xs hw i x j g hx hj);rw[aL,hu];exact⟨rfl,hr⟩
 exact .sl esz b off (fun k=>us.getD k undef) rfl hc (.inr (.inl rfl)) hw (fun i x j g hx hj=>by
  have:=hfx _ _ (hg i x j g hx hj).1;rw[<-Nat.add_assoc] at this;exact this) (fun i x j g hx hj=>(hg i x j g hx hj).2) ht
theorem MY {op : BinOp} {t : TypeId} {x y : Operand} {k : IntKind} {a b : Int} {g : GV} (hop : op ≠ .shl) (hop' : op ≠ .shr) (h : Rel C σ w0 w) (hg : U9 op k a b = some g) :
    Runs P C w0 w σ g (do eqGuard op t x y (.int k a) (.int k b); binOp op t (.int k a) (.int k b)) := by
  cases op <;> simp only [U9] at hg <;> first
    | exact absurd rfl hop
    | exact absurd rfl hop'
    | (cases hg; exact .pure h (.i _ _) (by simp [go_sem, Op.intArith]))
    | (cases hg; exact .pure h (.b _) (by simp [go_sem]))
    | (split at hg
       · cases hg
       · rename_i hb
         cases hg; exact .pure h (.i _ _) (by simp [go_sem, Op.intDiv, hb]))
theorem MJ {op : BinOp} {t : TypeId} {x y : Operand} {a b : List UInt8} {g : GV} (h : Rel C σ w0 w) (hg : WP op a b = some g) :
    Runs P C w0 w σ g (do eqGuard op t x y (.string ⟨a.toArray⟩) (.string ⟨b.toArray⟩); binOp op t (.string ⟨a.toArray⟩) (.string ⟨b.toArray⟩)) := by
  have hl : ∀ l : List UInt8, (ByteArray.mk l.toArray).toList = l := fun l => by simp
  cases op <;> simp only [WP] at hg <;> first
    | (cases hg; done)
    | (cases hg; exact .pure h (.b _) (by simp [eqGuard_at_string, binOp, Op.stringOp, hl]))
    | (split at hg
       · rename_i hb
         cases hg;refine .pure h (.s _) ?_;have hs : ∀ l : List UInt8, (ByteArray.mk l.toArray).size = l.length := fun l => by simp [ByteArray.size]
         have hn : ¬ ((9223372036854775807 : Int) < ((a.length : Int) + (b.length : Int))) := by unfold jN at hb; omega
         simp [eqGuard_at_string, binOp, Op.stringOp, hs, hn];rfl
       · cases hg)
theorem NB {t:TypeId} (hk:P.underlying t=some .bool) (a b:Bool):(Op.equal t (.bool a) (.bool b)).run P w=.ok (a==b) w:=run_equal_bool w t a b hk
theorem DT {t:TypeId} {ms:Array (String×TypeId)} (hk:P.underlying t=some (.interface ms)):(Op.equal t .nilIface .nilIface).run P w=.ok true w:=
 (fun d=>by simp[Op.equalIn,run_underlying hk]:∀d:Nat,(Op.equalIn (d+1) t .nilIface .nilIface).run P w=.ok true w) 9999
theorem DV {t u:TypeId} {v:Value} {ms:Array (String×TypeId)} (hk:P.underlying t=some (.interface ms)):(Op.equal t (.iface u v) .nilIface).run P w=.ok false w:=
 (fun d=>by simp[Op.equalIn,run_underlying hk]:∀d:Nat,(Op.equalIn (d+1) t (.iface u v) .nilIface).run P w=.ok false w) 9999
theorem DU {t u:TypeId} {v:Value} {ms:Array (String×TypeId)} (hk:P.underlying t=some (.interface ms)):(Op.equal t .nilIface (.iface u v)).run P w=.ok false w:=
 (fun d=>by simp[Op.equalIn,run_underlying hk]:∀d:Nat,(Op.equalIn (d+1) t .nilIface (.iface u v)).run P w=.ok false w) 9999
theorem uV {t e:TypeId} {a:Option Addr} (hk:P.underlying t=some (.pointer e)):(Op.equal t (.pointer a) (.pointer none)).run P w=.ok a.isNone w:=
 (fun d=>by cases a<;>simp[Op.equalIn,run_underlying hk]:∀d:Nat,(Op.equalIn (d+1) t (.pointer a) (.pointer none)).run P w=.ok a.isNone w) 9999
theorem pO {t e:TypeId} {a:Option Addr} (hk:P.underlying t=some (.pointer e)):(Op.equal t (.pointer none) (.pointer a)).run P w=.ok a.isNone w:=
 (fun d=>by simp[Op.equalIn,run_underlying hk]:∀d:Nat,(Op.equalIn (d+1) t (.pointer none) (.pointer a)).run P w=.ok a.isNone w) 9999
theorem nJ {t e:TypeId} {a:Option Addr} {n c:Nat} (hk:P.underlying t=some (.slice e)):(Op.equal t (.slice a n c) (.slice none 0 0)).run P w=.ok a.isNone w:=
 (fun d=>by cases a<;>simp[Op.equalIn,run_underlying hk]:∀d:Nat,(Op.equalIn (d+1) t (.slice a n c) (.slice none 0 0)).run P w=.ok a.isNone w) 9999
theorem sG {C:Cx} {v:Value} (h:VR C (.sl .full []) v):v=.slice none 0 0:=by
 cases h with
 |sl esz b off us hn hc ha hw hx hv ht=>
  obtain⟨h1,h2⟩:=ht;rw[h2 rfl];cases hn;cases h1;rfl
theorem IX {t e:TypeId} (h:LW P t=some e):P.underlying t=some (.pointer e):=by
 unfold LW at h;split at h<;>simp_all
theorem DS {t e:TypeId} (hk:P.underlying t=some (.pointer e)) {n:Nat} (hs:dR P e=some n) (hn:0<n) (b o o':Nat):
  (Op.equal t (.pointer (some ⟨b,o,none⟩)) (.pointer (some ⟨b,o',none⟩))).run P w=.ok (o==o') w:=
 (fun d=>by
  have hne:n≠0:=by omega
  have hb:((⟨b,o,none⟩:Addr)==⟨b,o',none⟩)=(o==o'):=by
   by_cases h:o=o'
   ·subst h;simp
   ·have h1:((⟨b,o,none⟩:Addr)==⟨b,o',none⟩)=false:=by
     rw[cY];intro e;cases e;exact h rfl
    rw[h1,beq_eq_false_iff_ne.2 h]
  simp[Op.equalIn,run_underlying hk,dX hs,hne,sameAddr,hb]:∀d:Nat,(Op.equalIn (d+1) t (.pointer (some ⟨b,o,none⟩)) (.pointer (some ⟨b,o',none⟩))).run P w=.ok (o==o') w) 9999
def eqv:Value->Bool
 |.bool _|.nilIface|.iface _ _|.pointer _|.agg _|.slice _ _ _=>true
 |_=>false
theorem rR:∀(fs:List Field) (i:Nat) (cs ds:List GV) (xs ys:Array Value) (r:Bool) (d:Nat),G2 fs i=true->k6 P fs cs ds=some r->
  (∀(j:Nat) g,cs[j]?=some g->∃u,xs[i+j]?=some u/\VR C g u)->(∀(j:Nat) g,ds[j]?=some g->∃u,ys[i+j]?=some u/\VR C g u)->(Op.eqFields (d+1) xs ys fs).run P w=.ok r w
 |[],i,cs,ds,xs,ys,r,d,_,hg,_,_=>by
  simp only[k6,eY] at hg;subst hg;simp[Op.eqFields]
 |f::fs,i,cs,ds,xs,ys,r,d,ho,hg,hx,hy=>by
  simp only[G2,aF,bne_iff_ne,ne_eq,bU] at ho;obtain⟨⟨hn,hoff⟩,hrest⟩:=ho;have shape:(∃k a k' b cs' ds',cs=GV.i k a::cs'/\ds=GV.i k' b::ds')∨(∃a b cs' ds',cs=GV.s a::cs'/\ds=GV.s b::ds')∨(∃a b cs' ds',cs=GV.b a::cs'/\ds=GV.b b::ds'):=by
   unfold k6 at hg;split at hg
   ·rename_i h;cases h
   ·exact .inl ⟨_,_,_,_,_,_,rfl,rfl⟩
   ·exact .inr (.inl ⟨_,_,_,_,rfl,rfl⟩)
   ·exact .inr (.inr ⟨_,_,_,_,rfl,rfl⟩)
   ·cases hg
  rcases shape with⟨k,a,k',b,cs',ds',rfl,rfl⟩|⟨a,b,cs',ds',rfl,rfl⟩|⟨a,b,cs',ds',rfl,rfl⟩
  ·simp only[k6] at hg;split at hg
   ·rename_i hk;subst hk;split at hg
    ·rename_i hi;obtain⟨q,hq⟩:=Option.isSome_iff_exists.1 hi;have hu:=wQ hq;obtain⟨r',hr',rfl⟩:=Option.map_eq_some_iff.1 hg;obtain⟨u,hu1,hv1⟩:=hx 0 _ rfl;obtain⟨v,hu2,hv2⟩:=hy 0 _ rfl;cases hv1;cases hv2;have ih:=rR fs (i+1) cs' ds' xs ys r' d hrest hr' (fun j g h=>by have:=hx (j+1) g (by simpa using h);rw[show i+1+j=i+(j+1) by omega];exact this) (fun j g h=>by have:=hy (j+1) g (by simpa using h);rw[show i+1+j=i+(j+1) by omega];exact this);rw[Nat.add_zero] at hu1 hu2;have p1:(part f.type xs f.offset).run P w=.ok (.int k a) w:=by simp[part,isAgg,run_underlying hu,hoff,hu1]
     have p2:(part f.type ys f.offset).run P w=.ok (.int k b) w:=by simp[part,isAgg,run_underlying hu,hoff,hu2]
     have p3:=run_equalIn_int (P:=P) w d f.type k q a b hu;unfold Op.eqFields;rw[aA hn];simp only[Sem.run_bind,p1,p2,p3,Result.andThen_ok];cases hab:(a==b) with
     |true=>simpa using ih
     |false=>simp
    ·cases hg
   ·cases hg
  ·simp only[k6] at hg;split at hg
   ·rename_i hi;have hu:=jH hi;obtain⟨r',hr',rfl⟩:=Option.map_eq_some_iff.1 hg;obtain⟨u,hu1,hv1⟩:=hx 0 _ rfl;obtain⟨v,hu2,hv2⟩:=hy 0 _ rfl;cases hv1;cases hv2;have ih:=rR fs (i+1) cs' ds' xs ys r' d hrest hr' (fun j g h=>by have:=hx (j+1) g (by simpa using h);rw[show i+1+j=i+(j+1) by omega];exact this) (fun j g h=>by have:=hy (j+1) g (by simpa using h);rw[show i+1+j=i+(j+1) by omega];exact this);rw[Nat.add_zero] at hu1 hu2;have p1:(part f.type xs f.offset).run P w=.ok (.string ⟨a.toArray⟩) w:=by simp[part,isAgg,run_underlying hu,hoff,hu1]
    have p2:(part f.type ys f.offset).run P w=.ok (.string ⟨b.toArray⟩) w:=by simp[part,isAgg,run_underlying hu,hoff,hu2]
    have p3:=run_equalIn_string (P:=P) w d f.type ⟨a.toArray⟩ ⟨b.toArray⟩ hu;rw[show((⟨a.toArray⟩:ByteArray).toList==(⟨b.toArray⟩:ByteArray).toList)=(a==b) by rw[ByteArray.toList_eq,ByteArray.toList_eq]] at p3;unfold Op.eqFields;rw[aA hn];simp only[Sem.run_bind,p1,p2,p3,Result.andThen_ok];cases hab:(a==b) with
    |true=>simpa using ih
    |false=>simp
   ·cases hg
  ·simp only[k6] at hg;split at hg
   ·rename_i hi;have hu:=EM hi;obtain⟨r',hr',rfl⟩:=Option.map_eq_some_iff.1 hg;obtain⟨u,hu1,hv1⟩:=hx 0 _ rfl;obtain⟨v,hu2,hv2⟩:=hy 0 _ rfl;cases hv1;cases hv2;have ih:=rR fs (i+1) cs' ds' xs ys r' d hrest hr' (fun j g h=>by have:=hx (j+1) g (by simpa using h);rw[show i+1+j=i+(j+1) by omega];exact this) (fun j g h=>by have:=hy (j+1) g (by simpa using h);rw[show i+1+j=i+(j+1) by omega];exact this);rw[Nat.add_zero] at hu1 hu2;have p1:(part f.type xs f.offset).run P w=.ok (.bool a) w:=by simp[part,isAgg,run_underlying hu,hoff,hu1]
    have p2:(part f.type ys f.offset).run P w=.ok (.bool b) w:=by simp[part,isAgg,run_underlying hu,hoff,hu2]
    have p3:(Op.equalIn (d+1) f.type (.bool a) (.bool b)).run P w=.ok (a==b) w:=by simp[Op.equalIn,run_underlying hu]
    unfold Op.eqFields;rw[aA hn];simp only[Sem.run_bind,p1,p2,p3,Result.andThen_ok];cases hab:(a==b) with
    |true=>simpa using ih
    |false=>simp
   ·cases hg
theorem yA {op:BinOp} {t:TypeId} {x y:Operand} {a b:GV} {va vb:Value} {r:Bool} (h:Rel C σ w0 w) (ha:VR C a va) (hb:VR C b vb)
  (hg:geq P t (fW x) (fW y) a b=some r):
  (eqGuard op t x y va vb).run P w=.ok () w/\(Op.equal t va vb).run P w=.ok r w/\eqv va=true/\eqv vb=true:=by
 unfold geq at hg;split at hg
 ·cases ha;cases hb;split at hg
  ·rename_i hk;cases hg;exact⟨by cases op<;>rfl,NB (EM hk) _ _,rfl,rfl⟩
  ·cases hg
 ·cases ha;cases hb;split at hg
  ·rename_i hk;cases hg;simp only[aF,dJ,aH] at hk;obtain⟨ms,hms⟩:=vF hk.1;refine⟨?_,DT hms,rfl,rfl⟩;rcases hk.2 with hc|hc
   ·cases x<;>simp[fW] at hc;cases op<;>rfl
   ·cases y<;>simp[fW] at hc;cases op<;>cases x<;>rfl
  ·cases hg
 ·cases ha;cases hb;split at hg
  ·rename_i hk;cases hg;obtain⟨ms,hms⟩:=vF hk;exact⟨by cases op<;>rfl,DV hms,rfl,rfl⟩
  ·cases hg
 ·cases ha;cases hb;split at hg
  ·rename_i hk;cases hg;obtain⟨ms,hms⟩:=vF hk;exact⟨by cases op<;>rfl,DU hms,rfl,rfl⟩
  ·cases hg
 ·cases ha;cases hb;split at hg
  ·rename_i hk;cases hg;obtain⟨e,he⟩:=sI hk;exact⟨by cases op<;>rfl,uV he,rfl,rfl⟩
  ·cases hg
 ·cases ha;cases hb;split at hg
  ·rename_i hk;cases hg;obtain⟨e,he⟩:=sI hk;exact⟨by cases op<;>rfl,pO he,rfl,rfl⟩
  ·cases hg
 ·cases ha;cases hb;split at hg
  ·rename_i hk;cases hg;obtain⟨e,he⟩:=sI hk;exact⟨by cases op<;>rfl,uV he,rfl,rfl⟩
  ·cases hg
 ·cases ha;cases hb;split at hg
  ·rename_i hk;cases hg;obtain⟨e,he⟩:=sI hk;exact⟨by cases op<;>rfl,pO he,rfl,rfl⟩
  ·cases hg
 ·cases ha;cases hb;split at hg
  ·rename_i hk;cases hg;obtain⟨e,he⟩:=sI hk;exact⟨by cases op<;>rfl,pO he,rfl,rfl⟩
  ·cases hg
 ·rename_i cs ds;split at hg
  ·rename_i hk;unfold vW at hk;simp only[aF,fT] at hk;obtain⟨⟨⟨h1,h2⟩,h3⟩,h4⟩:=hk;obtain⟨fs,hfs⟩:∃fs,P.underlying t=some (.struct fs):=by
    split at h1
    ·exact⟨_,by assumption⟩
    ·cases h1
   have hff:P.fieldsOf t=fs:=by unfold Program.fieldsOf;rw[hfs]
   have ef:CM P t=fs.toList:=by unfold CM;rw[hfs]
   rw[ef] at h2 hg;have cell:∀{cs:List GV} {vs:Array Value},vs.size=cs.length->(∀(j:Nat) g u,cs[j]?=some g->vs[j]?=some u->VR C g u)->∀(j:Nat) g,cs[j]?=some g->∃u,vs[0+j]?=some u/\VR C g u:=fun{cs vs} hl hv j g hj=>by
    have hlt:=(List.getElem?_eq_some_iff.1 hj).1;have hu:vs[j]?=some (vs[j]'(by omega)):=aK (by omega);exact⟨_,by rw[bM];exact hu,hv j g _ hj hu⟩
   cases ha with
   |agg hl1 hv1=>
    cases hb with
    |agg hl2 hv2=>
     refine⟨run_eqGuard_agg w op t x y _ _ h4,?_,rfl,rfl⟩;rename_i vs1 vs2;have h5:=run_equalIn_struct (P:=P) w 9999 t vs1 vs2 (by rw[hff];exact hfs) h3;rw[hff] at h5;exact h5.trans (rR fs.toList 0 cs ds _ _ r 9998 h2 hg (cell hl1 hv1) (cell hl2 hv2))
  ·cases hg
 ·rename_i r0 o0 r1 o1;split at hg
  ·rename_i hk;cases hg;simp only[aF,aH] at hk;obtain⟨rfl,hk⟩:=hk;cases hp:LW P t with
   |none=>rw[hp] at hk;simp at hk
   |some e=>
    rw[hp] at hk;have hk:decide (0<(dR P e).getD 0)=true:=hk;cases hs:dR P e with
    |none=>rw[hs] at hk;simp at hk
    |some n=>
     rw[hs] at hk;have hn:0<n:=by simpa using hk
     cases ha with
     |ptr h1=>
      cases hb with
      |ptr h2=>
       rw[h1] at h2;cases h2;exact⟨by cases op<;>rfl,DS (IX hp) hs hn _ _ _,rfl,rfl⟩
  ·cases hg
 ·rename_i x0 xs0;split at hg
  ·rename_i hk;cases hg;obtain⟨e,he⟩:=lZ hk;cases sG hb;cases ha with
   |sl esz b off us hn hc ha hw hx hv ht=>
   rename_i a n c;have:a.isNone=false:=by
    rcases ha with⟨_,h2⟩|h2|h2
    ·simp at hn;omega
    ·rw[h2];rfl
    ·simp at hn;omega
   exact⟨by cases op<;>rfl,by rw[nJ he,this],rfl,rfl⟩
  ·cases hg
 ·split at hg
  ·rename_i hk;cases hg;obtain⟨e,he⟩:=lZ hk;cases sG hb;cases sG ha;exact⟨by cases op<;>rfl,nJ he,rfl,rfl⟩
  ·cases hg
 ·split at hg
  ·rename_i hk;cases hg;obtain⟨e,he⟩:=lZ hk;cases sG hb;cases ha;exact⟨by cases op<;>rfl,nJ he,rfl,rfl⟩
  ·cases hg
 ·split at hg
  ·rename_i hk;cases hg;obtain⟨e,he⟩:=lZ hk;cases sG hb;cases ha;exact⟨by cases op<;>rfl,nJ he,rfl,rfl⟩
  ·cases hg
 ·cases hg
theorem N8 {op:BinOp} {t:TypeId} {x y:Operand} {a b g:GV} {va vb:Value} (h:Rel C σ w0 w) (ha:VR C a va) (hb:VR C b vb)
  (hg:yD P op t (fW x) (fW y) a b=some g):Runs P C w0 w σ g (do eqGuard op t x y va vb;binOp op t va vb):=by
 unfold yD at hg;split at hg
 ·cases ha;cases hb;split at hg
  ·rename_i h0;cases hg;exact .pure h (.i _ _) (by simp[go_sem,binOp,Op.shift,show¬(_:Int)<0 from Int.not_lt.2 h0])
  ·cases hg
 ·cases ha;cases hb;split at hg
  ·rename_i h0;cases hg;exact .pure h (.i _ _) (by simp[go_sem,binOp,Op.shift,show¬(_:Int)<0 from Int.not_lt.2 h0])
  ·cases hg
 ·rename_i hn1 hn2;cases ha;cases hb;split at hg
  ·rename_i hk;subst hk;exact MY (fun e=>hn1 e) (fun e=>hn2 e) h hg
  ·cases hg
 ·cases ha;cases hb;exact MJ h hg
 ·cases he:geq P t (fW x) (fW y) a b with
  |none=>rw[he] at hg;cases hg
  |some r=>
   rw[he] at hg;cases hg;obtain⟨h1,h2,h3,h4⟩:=yA (op:=.eql) h ha hb he;refine .pure h (.b r) ?_;rw[Sem.run_bind,h1,Result.andThen_ok];cases va<;>cases vb<;>first
    |(cases h3;done)
    |(cases h4;done)
    |simp[binOp,h2]
 ·cases he:geq P t (fW x) (fW y) a b with
  |none=>rw[he] at hg;cases hg
  |some r=>
   rw[he] at hg;cases hg;obtain⟨h1,h2,h3,h4⟩:=yA (op:=.neq) h ha hb he;refine .pure h (.b (!r)) ?_;rw[Sem.run_bind,h1,Result.andThen_ok];cases va<;>cases vb<;>first
    |(cases h3;done)
    |(cases h4;done)
    |simp[binOp,h2]
 ·cases hg
inductive OR (C:Cx):Option GV->Option Value->Prop where
 |none:OR C none none
 |some {g:GV} {v:Value} (h:VR C g v):OR C (some g) (some v)
theorem jC {x:GV} {v:Value} {d a y:Nat} {code:BoundsCode} (hx:VR C x v) (hg:jU (some x) d=some a) (hy:a<=y):(Instr.sliceBound v y code).run P w=.ok a w:=by
 unfold jU at hg;split at hg
 ·rename_i e;cases e
 ·rename_i k n e;cases e;split at hg
  ·rename_i h0;cases hg;cases hx;have h1:n<=(y:Int):=by omega
   simp[Instr.sliceBound,asIntOf,h0,h1]
  ·cases hg
 ·cases hg
theorem tO {lo hi:Option GV} {vlo vhi:Option Value} {is:Bool} {len cap a b:Nat} (hlo:OR C lo vlo) (hhi:OR C hi vhi)
  (ga:jU lo 0=some a) (gb:jU hi len=some b) (hab:a<=b) (hb:b<=cap):(Instr.sliceBounds is len cap vlo vhi none).run P w=.ok (a,b,cap) w:=by
 unfold Instr.sliceBounds;cases hhi with
 |none=>
  cases gb;cases hlo with
  |none=>cases ga;simp
  |some h=>simp[jC h ga hab]
 |some hh=>
  cases hlo with
  |none=>cases ga;simp[jC hh gb hb]
  |some h=>simp[jC h ga hab,jC hh gb hb]
theorem L7 {lo hi:Option GV} {m:GV} {vlo vhi:Option Value} {vm:Value} {is:Bool} {len cap a b:Nat} (hlo:OR C lo vlo) (hhi:OR C hi vhi) (hm:VR C m vm)
  (ga:jU lo 0=some a) (gb:jU hi len=some b) (gm:jU (some m) 0=some b) (hi':hi.isSome=true) (hab:a<=b) (hb:b<=cap):
  (Instr.sliceBounds is len cap vlo vhi (some vm)).run P w=.ok (a,b,b) w:=by
 unfold Instr.sliceBounds;cases hhi with
 |none=>cases hi'
 |some hh=>
  cases hlo with
  |none=>cases ga;simp[jC hh gb (rL b),jC hm gm hb]
  |some h=>simp[jC h ga hab,jC hh gb (rL b),jC hm gm hb]
theorem qR {t:TypeId} {x:Value} {lo hi mx:Option Value} {d:TypeDesc} (hd:P.underlying t=some d) (hne:∀n e,d≠ .array n e):
  (Instr.sliceAt t x lo hi mx).run P w=(Instr.slice t x lo hi mx).run P w:=by
 unfold Instr.sliceAt;simp only[Sem.run_bind,run_underlying hd,Result.andThen_ok]
theorem GT {t:TypeId} {x g:GV} {lo hi mx:Option GV} {vx:Value} {vlo vhi vmx:Option Value} (h:Rel C σ w0 w) (hx:VR C x vx) (hlo:OR C lo vlo) (hhi:OR C hi vhi) (hmx:OR C mx vmx)
  (hg:lK P t x lo hi mx=some g):Runs P C w0 w σ g (Instr.sliceAt t vx vlo vhi vmx):=by
 cases hx with
 |s l=>
  simp only[lK] at hg;split at hg
  ·rename_i hc;simp only[aF,aH,Option.isNone_iff_eq_none] at hc;obtain⟨hk,rfl⟩:=hc;cases hmx;split at hg
   ·rename_i a b ga gb;split at hg
    ·rename_i hab;simp only[aF,aH] at hab;cases hg;refine .pure h (.s _) ?_;rw[qR (jH hk) (by simp)];have hs:(ByteArray.mk l.toArray).size=l.length:=by simp[ByteArray.size]
     have hbr:=tO (P:=P) (w:=w) (is:=false) (cap:=l.length) hlo hhi ga gb hab.1 hab.2;unfold Instr.slice;simp only[Sem.run_bind,run_underlying (jH hk),Result.andThen_ok,hs];simp[ByteArray.extract_mk,hbr]
    ·cases hg
   ·cases hg
  ·cases hg
 |sl esz bb off us hn hcc ha hw hxx hv ht=>
  rename_i k xs aa n c;simp only[lK] at hg;split at hg
  ·rename_i e he;split at hg
   ·rename_i size hs;split at hg
    ·rename_i hall;split at hg
     ·rename_i a b ga gb;split at hg
      ·rename_i hab;simp only[aF,aH] at hab;obtain⟨hab1,hab2⟩:=hab;have hesz:xs≠[]->esz=size:=fun hne=>by
        obtain⟨y,hy⟩:=List.exists_mem_of_ne_nil xs hne;rw[<-hw y hy];simp only[aZ,bU] at hall;exact hall y hy
       have cut:∀(k':Tok) (m:Nat),b<=m->(aa=none∨c=0->m=0)->TokOk C k' (b - a) (m - a) esz (if m=a then aa else aa.map (·.add (a*size)))->
         VR C (.sl k' ((xs.drop a).take (b - a))) (.slice (if m=a then aa else aa.map (·.add (a*size))) (b - a) (m - a)):=by
        intro k' m hbm hnone htok;have hlen:((xs.drop a).take (b - a)).length=b - a:=by simp;omega
        have hcut:∀(i:Nat) x,((xs.drop a).take (b - a))[i]?=some x->xs[a+i]?=some x:=fun i x hi=>by
         rw[cH] at hi;split at hi
         ·rw[eP] at hi;exact hi
         ·cases hi
        have hoff:b - a≠0->esz=size:=fun hne=>hesz (fun e0=>by subst e0;simp at hab2;omega);refine .sl esz bb (if m=a then off else off+a*size) (fun q=>us (a*esz+q)) hlen.symm (by omega) ?_ (fun x hx=>hw x ?_) (fun i x j g hi hj=>?_) (fun i x j g hi hj=>?_) (by rw[hlen];exact htok)
        ·rcases ha with⟨rfl,rfl⟩|rfl|h9
         ·have:=hnone (.inl rfl);left;refine⟨by split<;>rfl,by omega⟩
         ·right;left;split
          ·rfl
          ·simp[iM]
         ·right;right;have:=hnone (.inr h9);omega
        ·exact List.mem_of_mem_drop (List.mem_of_mem_take hx)
        ·have hi':=hcut i x hi;have hne:b - a≠0:=fun e0=>by rw[e0] at hi;simp at hi
         have hm:m≠a:=by omega
         rw[aB hm];have:=hxx (a+i) x j g hi' hj;rw[hoff hne] at this⊢;rw[show off+a*size+i*size+j=off+(a+i)*size+j by rw[Nat.add_mul];omega,show a*size+(i*size+j)=(a+i)*size+j by rw[Nat.add_mul];omega];exact this
        ·have hi':=hcut i x hi;have:=hv (a+i) x j g hi' hj;rw[show a*esz+(i*esz+j)=(a+i)*esz+j by rw[Nat.add_mul];omega];exact this
       have hund:=iV he;have hna:∀n e',TypeDesc.slice e≠ .array n e':=by simp
       split at hg
       ·cases hmx;cases hg;have hbr:=tO (P:=P) (w:=w) (is:=true) (len:=n) (cap:=c) hlo hhi ga (by rw[hn];exact gb) hab1 (by omega);refine .pure h (cut _ c (by omega) (fun e0=>by rcases e0 with e0|e0;(rcases ha with⟨_,h2⟩|h2|h2;exact h2;(rw[e0] at h2;cases h2);exact h2);exact e0) ?_) ?_
        ·split
         ·rename_i hf;simp only[aF,aH] at hf;obtain⟨rfl,rfl⟩:=hf;have e1:(if c=0 then aa else aa.map (·.add (0*size)))=aa:=by
           split
           ·rfl
           ·cases aa<;>simp[Addr.add]
          rw[e1];exact ht
         ·split
          ·rename_i hf;simp only[aF,aH] at hf;obtain⟨⟨rfl,rfl⟩,hlt⟩:=hf;have:c=xs.length:=ht.1;refine⟨?_,fun h0=>?_⟩
           ·show c - a=xs.length - a;omega
           ·omega
          ·trivial
        ·rw[qR hund hna];unfold Instr.slice;simp only[Sem.run_bind,run_underlying hund,Result.andThen_ok,hbr,dX hs,Sem.run_pure]
       ·rename_i m;cases hmx with
        |some hm=>
         split at hg
         ·rename_i hf;simp only[aF,aH] at hf;cases hg;have hbr:=L7 (P:=P) (w:=w) (is:=true) (len:=n) (cap:=c) hlo hhi hm ga (by rw[hn];exact gb) hf.2 hf.1 hab1 (by omega);refine .pure h (cut _ b (rL _) (fun e0=>by rcases e0 with e0|e0;(rcases ha with⟨_,h2⟩|h2|h2;omega;(rw[e0] at h2;cases h2);omega);omega) (by split;exact⟨rfl,fun h0=>by omega⟩;trivial)) ?_;rw[qR hund hna];unfold Instr.slice;simp only[Sem.run_bind,run_underlying hund,Result.andThen_ok,hbr,dX hs,Sem.run_pure]
         ·cases hg
      ·cases hg
     ·cases hg
    ·cases hg
   ·cases hg
  ·cases hg
 |rp hb=>
  simp only[lK] at hg;split at hg
  ·split at hg
   ·split at hg
    ·rename_i hq;simp only[aF,aH] at hq;omega
    ·cases hg
   ·cases hg
  ·cases hg
 |rs hb hcc hp hxc=>
  rename_i r off esz n c bb c';simp only[lK] at hg;split at hg
  ·rename_i e he;split at hg
   ·rename_i size hs;split at hg
    ·rename_i hq;simp only[aF,aH,Option.isNone_iff_eq_none] at hq;obtain⟨⟨rfl,hpos⟩,rfl⟩:=hq;cases hmx;split at hg
     ·rename_i a b ga gb;split at hg
      ·rename_i hab;simp only[aF,aH] at hab;obtain⟨⟨hab1,hab2⟩,hab3⟩:=hab;cases hg;have hund:=iV he;have hna:∀n e',TypeDesc.slice e≠ .array n e':=by simp
       have hbr:=tO (P:=P) (w:=w) (is:=true) (len:=n) (cap:=c') hlo hhi ga gb hab1 (by omega);have hv9:VR C (.rs r (off+a*esz) esz (b - a) (if a=0 then c else 0)) (.slice (if c'=a then some ⟨bb,off,none⟩ else(some (⟨bb,off,none⟩:Addr)).map (·.add (a*esz))) (b - a) (c' - a)):=by
        have e1:(if c'=a then some (⟨bb,off,none⟩:Addr) else(some (⟨bb,off,none⟩:Addr)).map (·.add (a*esz)))=some ⟨bb,off+a*esz,none⟩:=by
         split
         ·have:a=0:=by omega
          subst this;simp
         ·simp[iM]
        rw[e1];refine .rs hb (by omega) hp ?_;split
        ·rename_i h0;subst h0;rcases hxc with h1|h1
         ·exact .inl h1
         ·exact .inr (by omega)
        ·exact .inl rfl
       refine .pure h hv9 ?_;rw[qR hund hna];unfold Instr.slice;simp only[Sem.run_bind,run_underlying hund,Result.andThen_ok,hbr,dX hs,Sem.run_pure]
      ·cases hg
     ·cases hg
    ·cases hg
   ·cases hg
  ·cases hg
 |_=>simp[lK] at hg
def PRs (C:Cx) (ps:List (Nat×GV)) (qs:List (Nat×Value)):Prop:=qs.map (·.1)=ps.map (·.1)/\VRs C (ps.map (·.2)) (qs.map (·.2))
theorem PRs.cons_inv {p:Nat×GV} {ps:List (Nat×GV)} {qs:List (Nat×Value)} (h:PRs C (p::ps) qs):∃v qs',qs=(p.1,v)::qs'/\VR C p.2 v/\PRs C ps qs':=by
 obtain⟨h1,h2⟩:=h;cases qs with
 |nil=>cases h1
 |cons q qs'=>
  simp only[bY,List.cons.injEq] at h1;obtain⟨v,vs',e,hv,hvs⟩:=VRs.cons_inv (by simpa using h2);simp only[List.cons.injEq] at e;obtain⟨e1,e2⟩:=e;refine⟨q.2,qs',by rw[<-h1.1],e1▸hv,h1.2,?_⟩;rw[e2];exact hvs
theorem PRs.of {ps:List (Nat×Operand)} {ρ:Operand->GV} {ρ':Operand->Value} (h:∀x,VR C (ρ x) (ρ' x)):PRs C (ps.map fun p=>(p.1,ρ p.2)) (ps.map fun p=>(p.1,ρ' p.2)):=by
 refine⟨by simp,by simp,fun j g u h1 h2=>?_⟩;simp only[List.map_map,aG,aC] at h1 h2;obtain⟨p,hp,rfl⟩:=h1;obtain⟨q,hq,rfl⟩:=h2;rw[hp] at hq;cases hq;exact h _
def lput:List Value->Nat->List Value->List Value
 |cs,_,[]=>cs
 |cs,off,x::xs=>lput (cs.set off x) (off+1) xs
theorem JA:∀(xs cs:List Value) (off:Nat),(lput cs off xs).length=cs.length
 |[],cs,off=>rfl
 |x::xs,cs,off=>by rw[lput,JA xs];simp
theorem VRs.lput:∀(xs:List GV) (us:List Value) (cs:List GV) (vs:List Value) (off:Nat),VRs C cs vs->VRs C xs us->VRs C (ZT cs off xs) (lput vs off us)
 |[],us,cs,vs,off,h,k=>by
  have:us=[]:=aI (by simpa using k.1);subst this;exact h
 |x::xs,us,cs,vs,off,h,k=>by
  obtain⟨u,us',rfl,hu,hus⟩:=k.cons_inv;exact VRs.lput xs us' _ _ _ (h.set off hu) hus
theorem F2:∀(l:List Value) (k off:Nat) (cells:Array Value),((l.zipIdx k).foldl (fun(cs:Array Value) (p:Value×Nat)=>cs.setIfInBounds (off+p.2) p.1) cells).toList=lput cells.toList (off+k) l
 |[],k,off,cells=>rfl
 |x::l,k,off,cells=>by
  rw[List.zipIdx_cons,List.foldl_cons,F2 l (k+1) off,lput,Array.toList_setIfInBounds,Nat.add_assoc]
theorem OA:∀(xs cs:List Value) (off:Nat),off+xs.length<=cs.length->lput cs off xs=cs.take off++xs++cs.drop (off+xs.length)
 |[],cs,off,_=>by simp[lput]
 |x::xs,cs,off,h=>by
  simp at h;rw[lput,OA xs (cs.set off x) (off+1) (by simp;omega)];have e:=list_seg_step cs off x xs (by omega);rw[e,aM]
theorem CP (v:Value) (off:Nat) (cells:Array Value):(v.cells.zipIdx.foldl (fun(cs:Array Value) (p:Value×Nat)=>cs.setIfInBounds (off+p.2) p.1) cells).toList=lput cells.toList off v.cells.toList:=by
 rw[<-Array.foldl_toList,Array.toList_zipIdx,F2];rfl
theorem sY {place:Nat->Option (Nat×Nat)}:∀(ps:List (Nat×GV)) (qs:List (Nat×Value)) (cs:List GV) (vs:Array Value) (r:List GV),VRs C cs vs.toList->PRs C ps qs->
  K9 place cs ps=some r->∃us:Array Value,Instr.fill place vs qs=some us/\VRs C r us.toList
 |[],qs,cs,vs,r,h,hp,hg=>by
  have:qs=[]:=by have:=hp.1;simpa using this
  subst this;cases hg;exact⟨vs,rfl,h⟩
 |p::ps,qs,cs,vs,r,h,hp,hg=>by
  obtain⟨v,qs',rfl,hv,hps⟩:=hp.cons_inv;obtain⟨i,g⟩:=p;simp only[K9] at hg;split at hg
  ·cases hg
  ·rename_i off size hpl;split at hg
   ·cases hg
   ·rename_i hc;simp only[dJ,fT,aH,not_or] at hc;obtain⟨⟨hk,hsz⟩,hle⟩:=hc;have hk:g.known=true:=by simpa using hk
    have hcl:=hv.cells hk;have hvs:v.cells.size=g.cells.length:=by rw[<-b8];exact hcl.1
    have hcs:vs.size=cs.length:=by rw[<-b8];exact h.1
    obtain⟨us,h1,h2⟩:=sY ps qs' _ (v.cells.zipIdx.foldl (fun(cs:Array Value) (p:Value×Nat)=>cs.setIfInBounds (off+p.2) p.1) vs) r (by rw[CP];exact VRs.lput _ _ _ _ _ h hcl) hps hg;refine⟨us,?_,h2⟩;simp only[Instr.fill,hpl];rw[aB (by simp;refine⟨?_,?_⟩<;>omega)];exact h1
theorem B1:∀(fs:List Field) (places:List (Nat×Nat)),fs.mapM (fun(f:Field)=>(P.info? f.type).map fun i=>(f.offset,i.size))=some places->
  ∀i:Nat,places[i]?=(fs[i]?).bind fun(f:Field)=>(P.info? f.type).map fun i=>(f.offset,i.size)
 |[],places,h,i=>by simp at h;subst h;simp
 |f::fs,places,h,i=>by
  simp only[List.mapM_cons,Option.bind_eq_bind,Option.pure_def,Option.bind_eq_some_iff] at h;obtain⟨p,hp,rest,hr,he⟩:=h;cases he;cases i with
  |zero=>simp[hp]
  |succ i=>simpa using B1 fs rest hr i
theorem yS:∀(fs:List Field),(∀f∈fs,(P.info? f.type).isSome=true)->∃places,fs.mapM (fun(f:Field)=>(P.info? f.type).map fun i=>(f.offset,i.size))=some places
 |[],_=>⟨[],rfl⟩
 |f::fs,h=>by
  obtain⟨pl,hp⟩:=yS fs (fun g hg=>h g (by simp[hg]));obtain⟨i,hi⟩:=Option.isSome_iff_exists.1 (h f (by simp));exact⟨(f.offset,i.size)::pl,by simp[List.mapM_cons,hi,hp]⟩
theorem HI {t:TypeId} {ps:List (Nat×GV)} {qs:Array (Nat×Value)} {g:GV} (h:Rel C σ w0 w) (hp:PRs C ps qs.toList) (hg:HJ P t ps=some g):Runs P C w0 w σ g (Instr.build t qs):=by
 unfold HJ at hg;split at hg
 ·rename_i z hz;split at hg
  ·rename_i hsz;cases hf:K9 (xU P t) z ps with
   |none=>rw[hf] at hg;cases hg
   |some r=>
    rw[hf] at hg;cases hg;unfold S7 at hsz;split at hsz
    ·rename_i fs hu;have hall:∀f∈fs.toList,(P.info? f.type).isSome=true:=fun f hf=>by
      rw[aZ] at hsz;exact hsz f hf
     obtain⟨places,hpl⟩:=yS (P:=P) fs.toList hall;unfold iE at hz;cases hi:P.info? t with
     |none=>rw[hi] at hz;cases hz
     |some it=>
      rw[hi] at hz;cases hzz:it.zero with
      |none=>rw[bC,hzz] at hz;cases hz
      |some zv=>
       rw[bC,hzz] at hz;have hz':kD zv=.agg z:=by simpa using hz
       have hzr:=(dK C zv).cells (by rw[hz'];rfl);rw[hz'] at hzr;have hplace:(fun i=>places.toArray[i]?)=xU P t:=by
        funext i;rw[List.getElem?_toArray,B1 fs.toList places hpl i];unfold xU zS yJ dR;rw[hu];simp only;cases hfi:fs[i]? with
        |none=>simp[hfi]
        |some f=>cases hii:P.info? f.type<;>simp[hfi,hii]
       obtain⟨us,h1,h2⟩:=sY ps qs.toList z zv.cells r hzr hp hf;refine .pure h (v:=.agg us) (.agg (by rw[<-b8];exact h2.1) (fun j g u a b=>h2.2 j g u a (by simpa using b))) ?_;apply run_build;unfold Program.built;simp only[hi,hu,hzz,hpl];rw[hplace];exact h1
    ·rename_i len e hu;obtain⟨ie,hie⟩:=Option.isSome_iff_exists.1 hsz;unfold iE at hz;cases hi:P.info? t with
     |none=>rw[hi] at hz;cases hz
     |some it=>
      rw[hi] at hz;cases hzz:it.zero with
      |none=>rw[bC,hzz] at hz;cases hz
      |some zv=>
       rw[bC,hzz] at hz;have hz':kD zv=.agg z:=by simpa using hz
       have hzr:=(dK C zv).cells (by rw[hz'];rfl);rw[hz'] at hzr;have hplace:(fun i=>some (i*ie.size,ie.size))=xU P t:=by
        funext i;unfold xU zS dR;rw[hu];simp only[hie,aT]
       obtain⟨us,h1,h2⟩:=sY ps qs.toList z zv.cells r hzr hp hf;refine .pure h (v:=.agg us) (.agg (by rw[<-b8];exact h2.1) (fun j g u a b=>h2.2 j g u a (by simpa using b))) ?_;apply run_build;unfold Program.built;simp only[hi,hu,hzz,hie];rw[hplace];exact h1
    ·cases hsz
  ·cases hg
 ·cases hg
theorem KV {size:Nat}:∀(qs:List (Nat×Value)) (k:Nat) (cells:Array Value),qs.map (·.1)=List.range' k qs.length->(∀q∈qs,q.2.cells.size=size)->cells.size=(k+qs.length)*size->
  ∃us:Array Value,Instr.fill (fun i=>some (i*size,size)) cells qs=some us/\us.toList=cells.toList.take (k*size)++(qs.map (·.2)).flatMap fun v=>v.cells.toList
 |[],k,cells,_,_,hs=>⟨cells,rfl,by simp at hs⊢;rw[fN];simp;omega⟩
 |(i,v)::qs,k,cells,hi,hw,hs=>by
  simp only[bY,aM,List.range'_succ,List.cons.injEq] at hi;obtain⟨rfl,hi⟩:=hi;have hvs:v.cells.size=size:=hw (i,v) (by simp);simp only[aM] at hs;have hmul:(i+(qs.length+1))*size=i*size+size+qs.length*size:=by rw[Nat.add_mul,Nat.succ_mul];omega
  let c2:=v.cells.zipIdx.foldl (fun(cs:Array Value) (p:Value×Nat)=>cs.setIfInBounds (i*size+p.2) p.1) cells;have h2:c2.toList=lput cells.toList (i*size) v.cells.toList:=CP v (i*size) cells;have h2s:c2.size=cells.size:=by rw[<-b8,h2,JA];simp
  obtain⟨us,h3,h4⟩:=KV qs (i+1) c2 hi (fun q hq=>hw q (by simp[hq])) (by rw[h2s,hs];congr 1;omega);refine⟨us,?_,?_⟩
  ·simp only[Instr.fill];rw[aB (by simp;refine⟨hvs,?_⟩;omega)];exact h3
  ·rw[h4,h2,OA _ _ _ (by simp;omega)];have e1:(cells.toList.take (i*size)++v.cells.toList).length=(i+1)*size:=by simp[hvs,Nat.succ_mul];omega
   rw[<-e1,List.take_left,bY,gZ,cW]
theorem VRs.flat:∀(xs:List GV) (us:List Value),(∀x∈xs,x.known=true)->VRs C xs us->VRs C (flat xs) (us.flatMap fun v=>v.cells.toList)
 |[],us,_,h=>by
  have:us=[]:=aI (by simpa using h.1);subst this;exact iO
 |x::xs,us,hk,h=>by
  obtain⟨u,us',rfl,hu,hus⟩:=h.cons_inv;rw[k7,gZ];exact(hu.cells (hk x (by simp))).append (VRs.flat xs us' (fun y hy=>hk y (by simp[hy])) hus)
theorem xD {t:TypeId} {len:Nat} {ps:List (Nat×GV)} {qs:Array (Nat×Value)} {f:xP} {r0:Nat} {σ':GS} (h:Rel C σ w0 w) (hp:PRs C ps qs.toList)
  (hg:oT P t len ps=some f) (hx:NewAt C σ r0 f.2 σ'):Runs P C w0 w σ' (f.1 r0) (Instr.buildSlice t len qs):=by
 unfold oT at hg;split at hg
 ·rename_i e he;split at hg
  ·rename_i size z hs hz;split at hg
   ·rename_i hc;simp only[aF,aH,bU,aZ] at hc;obtain⟨⟨⟨⟨hsz,hzk⟩,hrange⟩,hok⟩,hlim⟩:=hc;split at hg
    ·rename_i hwl;simp only[aF,bU] at hwl;obtain⟨_,rfl⟩:=hwl;cases hg;have h2:ps=[]:=by simpa using hrange
     have hq':qs= #[]:=by
      have h1:=hp.1;rw[h2] at h1;simpa using h1
     subst hq';obtain⟨D,hl,ho,hr⟩:=h.newNil hx;refine⟨D,.slice (some ⟨w.heap.size,0,none⟩) 0 0,w.alloc (.cells #[] e),hl,hr.world rfl rfl rfl (by simp) (fun k hk=>Below.heap_alloc w _ k hk),.sl 0 w.heap.size 0 (fun _=>undef) rfl (rL _) (.inr (.inl rfl)) (fun x hx=>by cases hx) (fun i x j g h=>by simp at h) (fun i x j g h=>by simp at h) ⟨_,ho,rL _,fun h=>absurd h (Nat.lt_irrefl 0),fun _=>.inl ⟨rfl,rfl⟩⟩,?_⟩;have hu:=iV he;have hr0:Array.range 0= #[]:=rfl;unfold Instr.buildSlice;simp[run_underlying hu,dX hs,Instr.fill,newRow,hr0]
    obtain⟨vz,hvz,rfl⟩:=jY hz w;have hlen:qs.toList.length=len:=by
     have:=aJ List.length hp.1;have h2:=aJ List.length hrange;simp at this h2;simp;omega
    have hw:∀q∈qs.toList,q.2.cells.size=size:=fun q hq=>by
     obtain⟨j,hj⟩:=List.mem_iff_getElem?.1 hq;have hj2:(qs.toList.map (·.2))[j]?=some q.2:=by simp[aG] at hj⊢;exact⟨q.1,hj⟩
     have hjl:j<(ps.map (·.2)).length:=by rw[<-hp.2.1];exact(List.getElem?_eq_some_iff.1 hj2).1
     have hr:=hp.2.2 j _ q.2 (gL hjl) hj2;have ho:=hok _ (dO hjl);rw[<-b8,(hr.cells (nZ ho)).1];exact kI ho
    let c0:Array Value:=(Array.range (len*size)).map (fun i=>vz.cells[i%vz.cells.size]!);obtain⟨us,h1,h2⟩:=KV (size:=size) qs.toList 0 c0 (by rw[hp.1,hrange,hlen,List.range_eq_range']) hw (by simp[c0];simp at hlen;rw[hlen]);have hus:us.toList=(qs.toList.map (·.2)).flatMap fun v=>v.cells.toList:=by simpa using h2
    have hflat:VRs C (flat (ps.map (·.2))) us.toList:=by rw[hus];exact VRs.flat _ _ (fun x hx=>nZ (hok x hx)) hp.2
    have hwid:∀x∈ps.map (·.2),x.cells.length=size:=fun x hx=>kI (hok x hx);have hplen:(ps.map (·.2)).length=len:=by have:=hp.2.1;simp at this hlen⊢;omega
    have husz:us.size=len*size:=by rw[<-b8,hflat.1,jV _ hwid,hplen]
    have hrun:(Instr.buildSlice t len qs).run P w=.ok (.slice (some ⟨w.heap.size,0,none⟩) len len) (w.alloc (.cells us e)):=by
     have hu:=iV he;unfold Instr.buildSlice;have hlim2:¬(2^24<len*size):=by simpa using hlim
     by_cases h0:len*size=0
     ·have hq:qs.toList=[]:=by
       have:len=0:=by rcases Nat.mul_eq_zero.1 h0 with h|h;exact h;omega
       exact aI (by omega)
      have hq':qs= #[]:=by rw[<-Array.toList_inj];exact hq
      have hue:us= #[]:=by rw[<-Array.toList_inj,hus,hq];rfl
      subst hq';have hr0:Array.range 0= #[]:=rfl;simp[run_underlying hu,dX hs,h0,Instr.fill,newRow,hue,hr0]
     ·simp[run_underlying hu,dX hs,hlim2,h0,hvz,newRow];have h1':Instr.fill (fun i=>some (i*size,size)) ((Array.range (len*size)).map fun i=>vz.cells[i%vz.cells.size]!) qs.toList=some us:=h1;simp only[h1'];rfl
    split at hg
    ·cases hg;obtain⟨hl,hr⟩:=h.newBox _ e hx us hflat;exact⟨_,_,_,hl,hr,.rs (aA rfl) (rL _) hsz (.inr rfl),hrun⟩
    cases hg;obtain⟨D,hl,hown,hfx,hrel⟩:=h.newRow len size e hx us hsz (by omega);refine⟨D,.slice (some ⟨w.heap.size,0,none⟩) (ps.map (·.2)).length len,_,hl,hrel,ID (k:=.own r0) hwid (hflat.mono hl) (fun j u hj=>?_) (by omega) ⟨_,hown,by rw[hplen];exact rL _,fun _=>rfl,fun _=>.inr ⟨_,_,rfl,rfl,by rw[husz];exact rL _⟩⟩,?_⟩
    ·rw[bM];refine hfx j u ?_ (by simpa using hj);have:=(List.getElem?_eq_some_iff.1 hj).1;rw[b8] at this;omega
    ·rw[hplen];exact hrun
   ·cases hg
  ·cases hg
 ·cases hg
end
