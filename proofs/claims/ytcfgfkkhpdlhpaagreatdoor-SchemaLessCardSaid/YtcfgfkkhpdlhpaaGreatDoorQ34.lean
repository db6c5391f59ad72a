/-
  A part of the proof of SchemaLess.
-/
import Derived.Test.YtcfgfkkhpdlhpaaGreatDoorQ33
import Derived.Test.YtcfgfkkhpdlhpaaGreatDoorQ28
import Derived.Test.YtcfgfkkhpdlhpaaGreatDoorQ27
set_option linter.all false
namespace Go.Proofs.YtcfgfkkhpdlhpaaGreatDoor
open Go.RowKit
set_option maxRecDepth 100000
set_option linter.unusedVariables false
theorem s_within [MaxL] (n lo hi:Int):SC Tryz.prog 112 [.i .i64 n,.i .i64 lo,.i .i64 hi] [] (.val (.b (inB n lo hi))) []:=by
 unfold inB
 refine gwS Tryz.func112 rfl ?_
 conv=>whnf
 repeat' first
  |(refine GIf.mk (fun _=>?_) (fun _=>?_)<;>conv=>whnf)
  |(refine GDraw.calm (by kernel_rfl) ?_;conv=>whnf)
  |(refine⟨_,⟨rfl,zL _,rfl,bL rfl⟩,?_⟩;conv=>whnf)
 all_goals (rename_i h;refine owes_b ?_;simp at h⊢;omega)
def badG (kd:By) (i:Nat) (e:Int):GV:=.ifc 82 (.agg [.s kd,.i .i64 (i:Nat),.i .i64 e])
instance [MaxL] {kd:By} {i:Nat} {e:Int}:KG (badG kd i e):=⟨fun _=>rfl⟩
def outR (kd:By) (i:Nat) (e:Int):GRes:=if e=0 then .val (.tup []) else .panic (badG kd i e)
theorem outR_ren [MaxL] (e:Nat->Nat) (kd:By) (i:Nat) (x:Int):(outR kd i x).ren e=outR kd i x:=by unfold outR;split<;>rfl
instance [MaxL] {e:Nat->Nat} {kd:By} {i:Nat} {x:Int}:RR e (outR kd i x) (outR kd i x):=⟨outR_ren e kd i x⟩
instance [MaxL] {n:Nat} {kd:By} {i:Nat} {x:Int}:FR n (outR kd i x):=⟨fun e _=>outR_ren e kd i x⟩
theorem s_fail [MaxL] (kd:By) (i:Nat) (e:Int):SC Tryz.prog 113 [.s kd,.i .i64 (i:Nat),.i .i64 e] [] (.panic (badG kd i e)) []:=by
 refine gwS Tryz.func113 rfl ?_
 conv=>whnf
 exact fin 0
abbrev chkH (s:Sch) (m:List By):List GObj:=[.box 87 [.sl .none (arsG s.ar),.sl .none (rcsG s.rc),.sl .none (sysG s.st),.mp 1],.mp (metL m)]
theorem s_stop1 [MaxL] (w:Bool) (e:Int) (i:Nat) (he:w=true->e≠0):SC Tryz.prog 115 [.b w,.i .i64 e,.ptr 0 0] [.box 3 [.i .i64 (i:Nat)]] (outR recordW i (if w then e else 0)) [.box 3 [.i .i64 (i:Nat)]]:=by
 cases w with
 |false=>
  refine gwS Tryz.func115 rfl ?_
  conv=>whnf
  exact fin 1
 |true=>
  rw[if_pos rfl]
  unfold outR
  rw[if_neg (he rfl)]
  refine gwS Tryz.func115 rfl ?_
  conv=>whnf
  refine cS [] (s_fail recordW i e) ?_
  conv=>whnf
  exact fin 1
theorem s_stop2 [MaxL] (w:Bool) (e:Int) (i:Nat) (he:w=true->e≠0):SC Tryz.prog 122 [.b w,.i .i64 e,.ptr 0 0] [.box 3 [.i .i64 (i:Nat)]] (outR setW3 i (if w then e else 0)) [.box 3 [.i .i64 (i:Nat)]]:=by
 cases w with
 |false=>
  refine gwS Tryz.func122 rfl ?_
  conv=>whnf
  exact fin 1
 |true=>
  rw[if_pos rfl]
  unfold outR
  rw[if_neg (he rfl)]
  refine gwS Tryz.func122 rfl ?_
  conv=>whnf
  refine cS [] (s_fail setW3 i e) ?_
  conv=>whnf
  exact fin 1
theorem s_named [MaxL] (s:Sch) (m:List By) (kd:By) (i:Nat) (n:By):SC Tryz.prog 114 [.ptr 0 0,.s kd,.i .i64 (i:Nat),.s n] (chkH s m) (outR kd i (nameE m n 0)) (chkH s (if nameE m n 0=0 then m++[n] else m)):=by
 have hn:=c_Name n
 generalize hE:nameE m n 0=E
 unfold nameE stopE at hE
 generalize isName n=b at*
 refine gwS Tryz.func114 rfl ?_
 conv=>whnf
 refine cP hn ?_
 conv=>whnf
 repeat' first
  |(refine GIf.mk (fun _=>?_) (fun _=>?_)<;>conv=>whnf)
  |(refine GDraw.calm (by kernel_rfl) ?_;conv=>whnf)
  |(refine⟨_,⟨rfl,zL _,rfl,bL rfl⟩,?_⟩;conv=>whnf)
 ·have:E=1:=by rw[<-hE];simp[*]
  subst this
  refine cS [] (s_fail kd i 1) ?_
  conv=>whnf
  show Owes _ _ (chkH s m) _ _
  exact fin 2
 ·rename_i hb hs
  have:E=1:=by rw[<-hE,show(n==sysW)=true from hs];simp
  subst this
  refine cS [] (s_fail kd i 1) ?_
  conv=>whnf
  show Owes _ _ (chkH s m) _ _
  exact fin 2
 ·rename_i hb hs
  rw[hb,show(n==sysW)=false from hs] at hE
  cases hm:m.contains n with
  |true=>
   rw[hm] at hE
   subst hE
   obtain⟨k,hk⟩:=met_yes 0 hm
   refine⟨some (k,.b true),hk,?_⟩
   conv=>whnf
   refine cS [] (s_fail kd i 6) ?_
   conv=>whnf
   show Owes _ _ (chkH s m) _ _
   exact fin 2
  |false=>
   rw[hm] at hE
   subst hE
   refine⟨none,met_no hm,?_⟩
   conv=>whnf
   refine⟨zL _,none,met_no hm,?_⟩
   conv=>whnf
   show Owes _ _ [_,.mp (metL (m++[n]))] _ _
   have e:metL (m++[n])=metL m++[(.s n,.b true)]:=by unfold metL;rw[List.map_append];rfl
   rw[e]
   exact fin 2
theorem named_ok [MaxL] {s:Sch} {m:List By} {kd:By} {i:Nat} {n:By} (h:nameE m n 0=0):SC Tryz.prog 114 [.ptr 0 0,.s kd,.i .i64 (i:Nat),.s n] (chkH s m) (.val (.tup [])) (chkH s (m++[n])):=by
 have:=s_named s m kd i n
 rw[h] at this;exact this
theorem named_no [MaxL] {s:Sch} {m:List By} {kd:By} {i:Nat} {n:By} (h:nameE m n 0≠0):SC Tryz.prog 114 [.ptr 0 0,.s kd,.i .i64 (i:Nat),.s n] (chkH s m) (.panic (badG kd i (nameE m n 0))) (chkH s m):=by
 have:=s_named s m kd i n
 unfold outR at this
 rw[if_neg h,if_neg h] at this;exact this
theorem nameE_b (m:List By) (n:By) (b:Int):nameE m n b=if nameE m n 0=0 then b else nameE m n 0:=by
 unfold nameE stopE
 cases(!isName n||n==sysW)<;>cases m.contains n<;>simp
def outH (e:Int) (s:List GObj):List GObj:=if e=0 then s else[.dead,.dead]
def areasX (s:Sch):Nat×Int:=if !inB s.ar.length 1 6 then(0,4) else(firstX (fun i a=>areaE ((areaN s).take i) a) 0 s.ar).getD (0,0)
theorem outR_no {kd:By} {i:Nat} {e:Int} (h:e≠0):outR kd i e=.panic (badG kd i e):=if_neg h
theorem outH_no [MaxL] {s:List GObj} {e:Int} (h:e≠0):outH e s=[.dead,.dead]:=if_neg h
theorem firstX0_at {α:Type} {f:Nat->α->Int} {l:List α} {i:Nat} {y:α} (hy:l[i]?=some y) (hn:f i y≠0) (h:∀j z,j<i->l[j]?=some z->f j z=0):firstX f 0 l=some (i,f i y):=by
 have:=firstX_at (f:=f) (n:=0) hy (by rw[Nat.zero_add];exact hn) fun j z hj hz=>by rw[Nat.zero_add];exact h j z hj hz
 rwa [Nat.zero_add] at this
theorem firstX0_no {α:Type} {f:Nat->α->Int} {l:List α} {n:Nat} (hn:l.length<=n) (h:∀j z,j<n->l[j]?=some z->f j z=0):firstX f 0 l=none:=firstX_no fun j z hz=>by
 rw[Nat.zero_add];exact h j z (Nat.lt_of_lt_of_le (List.getElem?_eq_some_iff.1 hz).1 hn) hz
theorem ok_succ {α:Type} {f:Nat->α->Int} {l:List α} {i:Nat} {y:α} (hy:l[i]?=some y) (h0:f i y=0) (h:∀j z,j<i->l[j]?=some z->f j z=0):∀j z,j<i+1->l[j]?=some z->f j z=0:=fun j z hj hz=>by
 rcases Nat.lt_or_eq_of_le (Nat.le_of_lt_succ hj) with h1|rfl
 ·exact h j z h1 hz
 ·rw[hy] at hz;cases hz;exact h0
theorem names_succ {α:Type} (f:α->By) {l:List α} {i:Nat} {y:α} (hy:l[i]?=some y):(l.map f).take (i+1)=(l.map f).take i++[f y]:=by rw[List.take_add_one,List.getElem?_map,hy];rfl
theorem s_areas [MaxL] (s:Sch) (hl:s.ar.length<most):SC Tryz.prog 51 [.ptr 0 0] (chkH s []) (outR areaW (areasX s).1 (areasX s).2) (outH (areasX s).2 (chkH s (areaN s))):=by
 unfold most at hl
 have hlen:(arsG s.ar).length=s.ar.length:=mapG_len _ _
 generalize hX:areasX s=X
 obtain⟨xi,xe⟩:=X
 unfold areasX at hX
 have hh:(outH xe (chkH s (areaN s))).all GObj.notHeld=true:=by unfold outH;split<;>rfl
 have hs:(chkH s []).length<=(outH xe (chkH s (areaN s))).length:=by unfold outH;split<;>exact rL _
 refine SC.of_gwpD 2 noM mixed Tryz.func51 rfl (bL rfl) hs hh ?_
 conv=>whnf
 have hw:=s_within (arsG s.ar).length 1 6
 refine cP hw ?_
 conv=>whnf
 refine GIf.mk (fun h=>?_) (fun h=>?_)<;>conv=>whnf
 ·rw[hlen] at h
  rw[h,if_pos rfl] at hX
  cases hX
  refine cS [] (s_fail areaW 0 4) ?_
  conv=>whnf
  exact finX 2
 rw[hlen] at h
 rw[h,if_neg (by simp)] at hX
 refine GLoop.rng 2 s.ar.length (fun i _=>∀j z,j<i->s.ar[j]?=some z->areaE ((areaN s).take j) z=0) (fun i _=>[(0,.ptr 0 0),(17,.sl .none (arsG s.ar)),(18,.i .i64 (arsG s.ar).length),(19,.i .i64 (i:Nat))]) (fun i (_:Unit)=>chkH s ((areaN s).take i)) [] () (fun j z h=>absurd h (Nat.not_lt_zero j)) (fun i _ φ0 hi hok=>?_)
 conv=>whnf
 refine GIf.mk (fun h=>?_) (fun h=>?_)<;>conv=>whnf
 rotate_left
 ·have hie:i=s.ar.length:=by have:=of_decide_eq_false h;rw[hlen] at this;omega
  rw[firstX0_no (Nat.le_of_eq hie.symm) hok] at hX
  cases hX
  have hm:(areaN s).take i=areaN s:=List.take_of_length_le (by rw[hie];simp[areaN])
  show OwesD 2 _ _ (chkH s (areaN s)) _ _
  exact .val (fin 2 (ho:=congrArg (fun m=>chkH s m) hm))
 have hlt:i<s.ar.length:=by have:=of_decide_eq_true h;rw[hlen] at this;omega
 obtain⟨y,hy⟩:∃y,s.ar[i]?=some y:=⟨s.ar[i],gL hlt⟩
 have hX':=fun hn=>firstX0_at (f:=fun i a=>areaE ((areaN s).take i) a) hy hn hok
 have hE:areaE ((areaN s).take i) y=nameE ((areaN s).take i) y.name (stopE (!inB y.pages 1 200) 7 0):=rfl
 rw[nameE_b] at hE
 refine ix (map_at hy) ⟨rfl,?_⟩
 conv=>whnf
 refine st ?_
 conv=>whnf
 by_cases hn:nameE ((areaN s).take i) y.name 0=0
 ·rw[if_pos hn] at hE
  refine cG [0,1] (named_ok (kd:=areaW) (i:=i) hn) ?_
  conv=>whnf
  refine cP (s_within y.pages 1 200) ?_
  conv=>whnf
  refine GIf.mk (fun h=>?_) (fun h=>?_)<;>conv=>whnf
  ·rw[h] at hE
   replace hE:areaE ((areaN s).take i) y=7:=hE
   rw[hX' (by rw[hE];decide),hE] at hX
   obtain⟨rfl,rfl⟩:=Prod.mk.inj hX
   refine cS [] (s_fail areaW i 7) ?_
   conv=>whnf
   exact finX 2
  ·rw[h] at hE
   exact nx () hlt ⟨hlt,ok_succ hy hE hok⟩ (congrArg (fun m=>chkH s m) (names_succ (fun a:Ar=>a.name) hy).symm)
 ·rw[if_neg hn] at hE
  rw[hX' (by rw[hE];exact hn),hE] at hX
  obtain⟨rfl,rfl⟩:=Prod.mk.inj hX
  refine cG [0,1] (named_no (kd:=areaW) (i:=i) hn) ?_
  conv=>whnf
  rw[outR_no hn,outH_no hn]
  exact finX 2
def cmpI (x y:Int):Int:=if x<y then -1 else if y<x then 1 else 0
def cmpB (a b:By):Int:=if Op.bytesLess a b then -1 else if Op.bytesLess b a then 1 else 0
def cmpV (a b:Val):Int:=if cmpI a.k b.k≠0 then cmpI a.k b.k else if cmpI a.n b.n≠0 then cmpI a.n b.n else cmpB a.s b.s
def seenL (l:List Itm):List (GV×GV):=l.map fun i=>(.s i.name,.b true)
theorem seen_no [MaxL] {l:List Itm} {s:By} (h:∀z∈l,z.name≠s):gfind .string (.s s) (seenL l) 0=some none:=gfind_no gsame_str (fun e he=>by
 obtain⟨z,hz,rfl⟩:=List.mem_map.1 he
 exact⟨z.name,rfl,h z hz⟩)
theorem seen_yes {l:List Itm} {s:By}:∀(j:Nat),(∃z∈l,z.name=s)->∃k,gfind .string (.s s) (seenL l) j=some (some (k,.b true)):=by
 induction l with
 |nil=>rintro j ⟨z,hz,_⟩;cases hz
 |cons x l ih=>
  intro j h
  show∃k,(match gsame .string (.s s) (.s x.name) with|some true=>some (some (j,GV.b true))|some false=>gfind .string (.s s) (seenL l) (j+1)|none=>none)=_
  rw[gsame_str]
  cases hx:(s==x.name) with
  |true=>exact⟨j,rfl⟩
  |false=>
   obtain⟨z,hz,he⟩:=h
   rcases List.mem_cons.1 hz with rfl|hz
   ·rw[he] at hx;simp at hx
   ·exact ih (j+1) ⟨z,hz,he⟩
theorem c_ValidItems [MaxL] (l:List Itm) (hl:l.length<most):SC Tryz.prog 117 [.sl .none (itms l)] [] (.val (.b (decide (0<l.length)&&knownB l))) []:=by
 have hlen:=itms_len l
 have hl':=hl
 unfold most at hl'
 refine gwS Tryz.func117 rfl ?_
 conv=>whnf
 refine GLoop.introS (fun q:Nat×List (GV×GV)=>q.1<=l.length/\(∀z∈l.take q.1,z.ok=true)/\((l.take q.1).map Itm.name).Nodup/\q.2=seenL (l.take q.1)) (fun q=>[(0,.sl .none (itms l)),(3,.mp 0),(7,.sl .none (itms l)),(8,.i .i64 (itms l).length),(9,.i .i64 (q.1:Nat))])
  (fun q=>⟨[.mp q.2],0,[]⟩) (fun q=>l.length - q.1) (0,[]) ⟨zL _,(fun z h=>by simp at h),by simp,rfl⟩ ⟨rfl,rfl,rfl,rfl,rfl,trivial⟩ rfl (fun _ _=>rL _) (fun q _=>rfl) (fun q hq e he=>?_) (fun q φ0 hi=>?_)
 ·refine⟨?_,rfl,?_⟩
  ·show[(GObj.mp q.2).ren e]=_
   rw[hq.2.2.2]
   show[GObj.mp ((seenL (l.take q.1)).map _)]=_
   unfold seenL
   rw[List.map_map];rfl
  ·show[(GV.sl .none (itms l)).ren e,GV.mp (e 0),(GV.sl .none (itms l)).ren e,_,_]=_
   rw[Cl.sl (itms_cl l) e,he 0 (by simp)];rfl
 obtain⟨i,es⟩:=q
 obtain⟨hi,hok,hnd,hes⟩:=hi
 replace hi:i<=l.length:=hi
 replace hok:∀z∈l.take i,z.ok=true:=hok
 replace hnd:((l.take i).map Itm.name).Nodup:=hnd
 replace hes:es=seenL (l.take i):=hes
 conv=>whnf
 refine GIf.mk (fun h=>?_) (fun h=>?_)<;>conv=>whnf
 rotate_left
 ·have hie:i=l.length:=by have:=of_decide_eq_false h;rw[hlen] at this;omega
  rw[hie,List.take_length] at hok hnd
  have hw:=c_within (l.length:Int) 1 8
  rw[<-hlen] at hw
  refine callP hw (wR _) rfl (fun _=>rfl) (.b _) ?_
  conv=>whnf
  refine owes_b ?_
  rw[known_end hok hnd,hlen,Bool.eq_iff_iff]
  simp
  omega
 have hlt:i<l.length:=by have:=of_decide_eq_true h;rw[hlen] at this;omega
 obtain⟨y,hy⟩:∃y,l[i]?=some y:=⟨l[i],gL hlt⟩
 have hv:=c_ValidItem y
 have hgy:=itms_at hy
 refine⟨cN _,_,by rw[Int.toNat_natCast];exact hgy,rfl,?_⟩
 conv=>whnf
 refine⟨_,⟨rfl,zL _,rfl,bL rfl⟩,?_⟩
 conv=>whnf
 refine callP hv (wR _) rfl (fun _=>rfl) (.b _) ?_
 conv=>whnf
 refine GIf.mk (fun h1=>?_) (fun h1=>?_)<;>conv=>whnf
 ·refine owes_b ?_
  rw[known_no hy (.inl (by simpa using h1))];simp
 have h1':y.ok=true:=by simpa using h1
 by_cases hdup:∃z∈l.take i,z.name=y.name
 ·obtain⟨k,hk⟩:=seen_yes 0 hdup
  rw[<-hes] at hk
  refine⟨some (k,.b true),hk,?_⟩
  conv=>whnf
  refine owes_b ?_
  rw[known_no hy (.inr hdup)];simp
 ·have hne:∀z∈l.take i,z.name≠y.name:=fun z hz he=>hdup ⟨z,hz,he⟩
  have hk:=seen_no hne
  rw[<-hes] at hk
  refine⟨none,hk,?_⟩
  conv=>whnf
  refine⟨rL _,none,hk,?_⟩
  conv=>whnf
  have hes':es++[(GV.s y.name,GV.b true)]=seenL (l.take (i+1)):=by
   rw[hes,List.take_add_one,hy]
   unfold seenL
   rw[List.map_append];rfl
  exact⟨l.length - (i+1),(by show _<l.length - i;omega),(i+1,es++[(GV.s y.name,GV.b true)]),⟨hlt,take_all_succ hok hy h1',(nodup_succ hnd hy).2 hne,hes'⟩,rfl,⟨rfl,rfl,rfl,rfl,wrap_succ (by omega),trivial⟩,_,rfl,rfl⟩
theorem ok_kind {v:Val} (h:v.ok=true):v.k=1∨v.k=2:=by
 simp only[Val.ok,Bool.or_eq_true,Bool.and_eq_true,decide_eq_true_eq] at h
 rcases h with h|h
 ·exact .inl h.1.1.1
 ·exact .inr h.1.1
def takesB (i:Itm) (v:Val):Bool:=v.ok&&decide (v.k=i.k)&&((decide (v.k=2)&&decide ((v.s.length:Int)<=i.len))||(decide (v.k=1)&&decide (i.lo<=v.n)&&decide (v.n<=i.hi)))
theorem c_listed [MaxL] (l:List Itm) (hl:l.length<most):SC Tryz.prog 184 [.sl .none (itms l)] [] (.val (.b (knownB l))) []:=by
 have hk:=c_ValidItems l hl
 have hlen:=itms_len l
 refine gwS Tryz.func184 rfl ?_
 conv=>whnf
 refine GIf.mk (fun h=>?_) (fun h=>?_)<;>conv=>whnf
 ·refine owes_b ?_
  have h0:l.length=0:=by
   have h9:((itms l).length:Int)=0:=by simpa using h
   omega
  rw[List.eq_nil_of_length_eq_zero h0];rfl
 ·refine callP hk (wR _) rfl (cC (Cl.sl (itms_cl l)) .nil) (.b _) ?_
  conv=>whnf
  refine owes_b ?_
  have h0:0<l.length:=by
   have h9:¬((itms l).length:Int)=0:=by simpa using h
   omega
  rw[decide_eq_true h0];rfl
def eachB:List Itm->List Val->Bool
 |[],[]=>true
 |i::l,v::r=>takesB i v&&eachB l r
 |_,_=>false
def fitsB (l:List Itm) (r:List Val):Bool:=decide (0<l.length)&&knownB l&&eachB l r
def fits2 (l:List Itm) (r:List Val):Bool:=knownB l&&(decide (l.length=0/\r.length=0)||fitsB l r)
theorem four [MaxL] (s:List UInt8) (hs:s.length<=20000):∀f,Four s f:=by
 have hm:s.length<most:=by unfold most;omega
 intro f
 induction f using Nat.strongRecOn with
 |ind f ih=>
 intro lv d n ts h hb
 cases f with
 |zero=>exact⟨fun h=>by omega,fun h=>by omega,fun h=>by omega,fun h=>by omega⟩
 |succ f=>
 have IH:∀g,g<=f->Four s g:=fun g hg=>ih g (by omega)
 obtain⟨_,iand,inot,iprim⟩:=IH f (rL _) lv d n ts h hb
 refine⟨fun hf=>?_,fun hf=>?_,fun hf=>?_,fun hf=>?_⟩
 ·obtain⟨m1,hm1,hc1⟩:=iand (by omega)
  cases hp:pars litP f .and lv d ts with
  |none=>
   rw[hp] at hc1
   have e:pars litP (f+1) .or lv d ts=none:=by
    conv=>lhs;unfold pars
    rw[hp]
   rw[e]
   exact⟨0,(fun _ _ _ h=>by cases h),c_or_pan s lv n d hc1⟩
  |some p=>
   obtain⟨t1,r1,e1⟩:=p
   rw[hp] at hc1
   have e:pars litP (f+1) .or lv d ts=pars litP f (.orL t1) lv e1 r1:=by
    conv=>lhs;unfold pars
    rw[hp]
   have hlen:=pars_len _ _ _ _ _ _ _ _ hp
   have hl3:=hlen.2.1 rfl
   obtain⟨m2,j,hm2,hl⟩:=lp_or s f IH f t1 lv e1 m1 r1 (rL _) (hm1 _ _ _ hp) (by omega) (by omega)
   rw[e]
   exact⟨m2,hm2,c_or s hm lv n d m1 e1 j t1 _ hc1 hl⟩
 ·obtain⟨m1,hm1,hc1⟩:=inot (by omega)
  cases hp:pars litP f .not lv d ts with
  |none=>
   rw[hp] at hc1
   have e:pars litP (f+1) .and lv d ts=none:=by
    conv=>lhs;unfold pars
    rw[hp]
   rw[e]
   exact⟨0,(fun _ _ _ h=>by cases h),c_and_pan s lv n d hc1⟩
  |some p=>
   obtain⟨t1,r1,e1⟩:=p
   rw[hp] at hc1
   have e:pars litP (f+1) .and lv d ts=pars litP f (.andL t1) lv e1 r1:=by
    conv=>lhs;unfold pars
    rw[hp]
   have hlen:=pars_len _ _ _ _ _ _ _ _ hp
   have hl3:=hlen.2.1 rfl
   obtain⟨m2,j,hm2,hl⟩:=lp_and s f IH f t1 lv e1 m1 r1 (rL _) (hm1 _ _ _ hp) (by omega) (by omega)
   rw[e]
   exact⟨m2,hm2,c_and s hm lv n d m1 e1 j t1 _ hc1 hl⟩
 ·by_cases hw:ts.headD []=wNot
  ·obtain⟨r,rfl⟩:=head_ne hw (by decide)
   simp only[List.length_cons] at hb hf
   obtain⟨_,_,_,ip⟩:=IH f (rL _) (lv+1) (max d (lv+1)) (nb s n+wNot.length) r h.tail.2 (by omega)
   obtain⟨m1,hm1,hc1⟩:=ip (by omega)
   have e:pars litP (f+1) .not lv d (wNot::r)=(pars litP f .prim (lv+1) (max d (lv+1)) r).map fun p=>(.no p.1,p.2.1,p.2.2):=by
    conv=>lhs;unfold pars
    rw[if_pos hw]
    show(match pars litP f .prim (lv+1) (max d (lv+1)) r with|some (n,r,e)=>_|none=>_)=_
    cases pars litP f .prim (lv+1) (max d (lv+1)) r<;>rfl
   rw[e]
   refine⟨m1,fun t r' e' he=>?_,?_⟩
   ·rw[Option.map_eq_some_iff] at he
    obtain⟨⟨t0,r0,e0⟩,h1,h2⟩:=he
    cases h2
    exact hm1 _ _ _ h1
   ·have:=c_not_yes s hm lv n d (by omega) h _ hc1
    rw[Option.map_map] at this⊢
    exact this
  ·have e:pars litP (f+1) .not lv d ts=pars litP f .prim lv d ts:=by
    conv=>lhs;unfold pars
    rw[if_neg hw]
   obtain⟨_,_,_,ip⟩:=IH f (rL _) lv d (nb s n) ts h.nb hb
   obtain⟨m1,hm1,hc1⟩:=ip (by omega)
   rw[e]
   exact⟨m1,hm1,c_not_no s hm lv n d h hw _ hc1⟩
 ·by_cases h1:ts.headD []=wTrue
  ·obtain⟨r,rfl⟩:=head_ne h1 (by decide)
   have e:pars litP (f+1) .prim lv d (wTrue::r)=some (.truth true,r,d):=by
    conv=>lhs;unfold pars
    rw[if_pos h1];rfl
   rw[e]
   exact⟨nb s n+wTrue.length,(fun t r e h'=>by cases h';exact h.tail.2),c_prim1 s hm lv n d h (some (.truth true,nb s n+wTrue.length,d)) (c_readers1 s lv (nb s n+wTrue.length) d)⟩
  by_cases h2:ts.headD []=wFalse
  ·obtain⟨r,rfl⟩:=head_ne h2 (by decide)
   have e:pars litP (f+1) .prim lv d (wFalse::r)=some (.truth false,r,d):=by
    conv=>lhs;unfold pars
    rw[if_neg h1,if_pos h2];rfl
   rw[e]
   exact⟨nb s n+wFalse.length,(fun t r e h'=>by cases h';exact h.tail.2),c_prim2 s hm lv n d h (some (.truth false,nb s n+wFalse.length,d)) (c_readers2 s lv (nb s n+wFalse.length) d)⟩
  by_cases h3:ts.headD []=[40]
  ·obtain⟨r,rfl⟩:=head_ne h3 (by decide)
   simp only[List.length_cons] at hb hf
   obtain⟨io,_⟩:=IH f (rL _) (lv+1) (max d (lv+1)) (nb s n+1) r h.tail.2 (by omega)
   obtain⟨m1,hm1,hc1⟩:=io (by omega)
   cases hp:pars litP f .or (lv+1) (max d (lv+1)) r with
   |none=>
    rw[hp] at hc1
    have e:pars litP (f+1) .prim lv d ([40]::r)=none:=by
     conv=>lhs;unfold pars
     rw[if_neg h1,if_neg h2,if_pos h3]
     show(match pars litP f .or (lv+1) (max d (lv+1)) r with|some (n,r,e)=>_|none=>_)=_
     rw[hp]
    rw[e]
    exact⟨0,(fun _ _ _ h=>by cases h),c_prim3 s hm lv n d h none (c_paren s hm lv (nb s n+1) d (by omega) none [] (fun _ _ _ h=>by cases h) hc1)⟩
   |some p=>
    obtain⟨t1,r1,e1⟩:=p
    rw[hp] at hc1
    have hA1:=(hm1 _ _ _ hp).1
    have e:pars litP (f+1) .prim lv d ([40]::r)=if r1.headD []=[41] then some (t1,r1.tail,e1) else none:=by
     conv=>lhs;unfold pars
     rw[if_neg h1,if_neg h2,if_pos h3]
     show(match pars litP f .or (lv+1) (max d (lv+1)) r with|some (n,r,e)=>_|none=>_)=_
     rw[hp]
    have hc2:=c_prim3 s hm lv n d h _ (c_paren s hm lv (nb s n+1) d (by omega) (some (t1,m1,e1)) r1 (fun _ _ _ h=>by cases h;exact hA1) hc1)
    rw[e]
    by_cases h4:r1.headD []=[41]
    ·obtain⟨r2,rfl⟩:=head_ne h4 (by decide)
     refine⟨nb s m1+1,fun t r e h'=>?_,?_⟩
     ·rw[if_pos h4] at h';cases h';exact hA1.tail.2
     ·rw[if_pos h4]
      unfold parenO at hc2
      simp only[h4,if_true] at hc2
      exact hc2
    ·refine⟨0,fun t r e h'=>?_,?_⟩
     ·rw[if_neg h4] at h';cases h'
     ·rw[if_neg h4]
      unfold parenO at hc2
      simp only[h4,if_false] at hc2
      exact hc2
  obtain⟨m,hm1,hc⟩:=c_prim_t s hs lv n d h h1 h2 h3
  have e:pars litP (f+1) .prim lv d ts=pars litP 1 .prim lv d ts:=by
   conv=>lhs;unfold pars
   conv=>rhs;unfold pars
   rw[if_neg h1,if_neg h1,if_neg h2,if_neg h2,if_neg h3,if_neg h3]
  rw[e]
  exact⟨m,hm1,hc⟩
def fuel (s:List UInt8):Nat:=10*s.length+10
theorem toks_len:∀(n:Nat) (l:List UInt8),l.length<=n->(toks l).length<=l.length
 |0,l,h=>by
  have:l=[]:=List.eq_nil_of_length_eq_zero (by omega)
  subst this;rw[toks_nil rfl];simp
 |n+1,l,h=>by
  cases hk:skip l with
  |nil=>rw[toks_nil hk];simp
  |cons c t=>
   rw[toks_cons hk]
   have h1:=skip_len l
   rw[hk] at h1
   have h2:=wlen_pos c t
   simp only[List.length_cons] at h1⊢
   have:=toks_len n ((c::t).drop (wlen (c::t))) (by simp;omega)
   simp only[List.length_drop,List.length_cons] at this
   omega
theorem c_parse [MaxL] (s:List UInt8) (hs:s.length<=20000):SC Tryz.prog 217 [.s s] [] (.val (match pars litP (fuel s) .or 0 0 (toks s) with
  |some (t,r,e)=>.tup [t.gv,.i .i64 (e:Nat),.b (r.headD []==[])]
  |none=>.tup [.o .nilIface,.i .i64 0,.b false])) []:=by
 have hm:s.length<most:=by unfold most;omega
 have h0:At s 0 (toks s):=⟨zL _,rfl⟩
 have hl:=toks_len s.length s (rL _)
 obtain⟨io,_⟩:=four s hs (fuel s) 0 0 0 (toks s) h0 (by omega)
 obtain⟨m,hm1,hc⟩:=io (by unfold fuel;omega)
 cases hp:pars litP (fuel s) .or 0 0 (toks s) with
 |none=>
  rw[hp] at hc
  replace hc:SC Tryz.prog 257 [.ptr 0 0,.i .i64 (0:Nat)] [rd s 0 (0:Nat)] (.panic wrongC) [.dead]:=hc
  refine gwS Tryz.func217 rfl ?_
  conv=>whnf
  refine callBd (q:=3) hc rfl (by first|exact wR _|exact wC (Wk.sl _ _) (wR _)|exact wC (Wk.sl _ _) (wC (Wk.sl _ _) (wR _))|exact wC (Wk.refl _) (wC (Wk.sl _ _) (wR _))) rfl rfl (by first|exact fun _=>rfl|exact cA|exact cB fun _=>rfl) (by first|exact fun _=>rfl|exact cA|exact cB fun _=>rfl) (by first|exact fun _=>rfl|exact cA|exact cB fun _=>rfl) ?_
  conv=>whnf
  refine owes0 (g:=.tup [.o .nilIface,.i .i64 0,.b false]) ?_ ?_ ?_
  ·kernel_rfl
  ·exact .refl _
  ·exact fun _=>rfl
 |some p=>
  obtain⟨t,r,e⟩:=p
  rw[hp] at hc
  replace hc:SC Tryz.prog 257 [.ptr 0 0,.i .i64 (0:Nat)] [rd s 0 (0:Nat)] (.val t.gv) [rd s m e]:=hc
  obtain⟨hA,hnb⟩:=hm1 _ _ _ hp
  have hwd:=c_word' s m e hA hm
  rw[hnb] at hwd
  refine SC.of_gwp noM mixed Tryz.func217 rfl (bL rfl) (rL _) rfl ?_
  conv=>whnf
  refine callB (q:=3) hc rfl (wR _) rfl rfl (fun _=>rfl) (fun _=>rfl) (fun _=>rfl) t.cl ?_
  conv=>whnf
  refine⟨_,⟨rfl,zL _,rfl,bL rfl⟩,?_⟩
  conv=>whnf
  refine GDraw.wild _ _ _ rfl rfl rfl (by kernel_rfl) ?_
  conv=>whnf
  refine callBP (q:=3) hwd rfl (wR _) rfl (fun _=>rfl) (fun _=>rfl) (fun _=>rfl) ?_
  conv=>whnf
  refine⟨_,⟨rfl,zL _,rfl,bL rfl⟩,?_⟩
  conv=>whnf
  refine⟨_,⟨rfl,zL _,rfl,bL rfl⟩,?_⟩
  conv=>whnf
  refine⟨_,⟨rfl,zL _,rfl,bL rfl⟩,?_⟩
  conv=>whnf
  exact owes_wk (.refl _) (Cl.tup (.cons t.cl (.cons (.i _ _) (.cons (.b _) .nil))))
theorem toks_ne:∀(n:Nat) (l:List UInt8),l.length<=n->∀w∈toks l,w≠[]
 |0,l,h,w,hw=>by
  have:l=[]:=List.eq_nil_of_length_eq_zero (by omega)
  subst this;rw[toks_nil rfl] at hw;cases hw
 |n+1,l,h,w,hw=>by
  cases hk:skip l with
  |nil=>rw[toks_nil hk] at hw;cases hw
  |cons c t=>
   rw[toks_cons hk] at hw
   have h1:=skip_len l
   rw[hk] at h1
   have h2:=wlen_pos c t
   simp only[List.length_cons] at h1
   rcases List.mem_cons.1 hw with rfl|hw
   ·intro e
    have:=congrArg List.length e
    unfold wrd at this
    rw[List.length_take] at this
    simp at this;omega
   ·exact toks_ne n ((c::t).drop (wlen (c::t))) (by simp;omega) w hw
inductive RdE where
 |ok (t:Tree)
 |err (e:Int)
def readS (s:List UInt8):RdE:=if 1000<s.length then .err 3 else match pars litP (fuel s) .or 0 0 (toks s) with
 |some (t,r,e)=>if r.headD []==[] then(if 20<e then .err 4 else .ok t.flat) else .err 2
 |none=>.err 2
end Go.Proofs.YtcfgfkkhpdlhpaaGreatDoor
