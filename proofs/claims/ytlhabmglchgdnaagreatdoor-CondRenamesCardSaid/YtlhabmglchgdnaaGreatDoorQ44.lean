/-
  CondRenames: Rename of every text and names is that of the reference, and over items renamed alike a condition is as true as before: the card, for every input.
-/
import Derived.Test.YtlhabmglchgdnaaGreatDoorQ43
import Derived.Test.YtlhabmglchgdnaaGreatDoorQ19
set_option linter.all false
namespace Go.Proofs.YtlhabmglchgdnaaGreatDoor
open Go.RowKit
set_option maxRecDepth 100000
set_option linter.unusedVariables false
theorem strG_okEl (l:List By):(strG l).all (okEl 1)=true:=by
 rw[List.all_eq_true];intro x hx
 obtain⟨v,_,rfl⟩:=List.mem_map.1 hx
 rfl
theorem c_ConcatS1 (x y:By) (xs ys:List By) (hx:(x::xs).length<=100000) (hy:(y::ys).length<=100000):
  SC Tryz.prog 64 [.sl .none [.sl .none (strG (x::xs)),.sl .none (strG (y::ys))]] [] (.val (.sl .none (strG ((x::xs)++(y::ys))))) []:=by
 have e1:(strG (x::xs)).length=(x::xs).length:=by simp[strG]
 have e2:(strG (y::ys)).length=(y::ys).length:=by simp[strG]
 have hg:=c_GrowS ((x::xs).length+(y::ys).length) (by simp;omega) (by omega)
 have hgt:∀l:List By,(strG l).length=l.length:=fun l=>by simp[strG]
 generalize hA:x::xs=A at*
 generalize hB:y::ys=B at*
 have hA0:A.length≠0:=by rw[<-hA];simp
 have hB0:B.length≠0:=by rw[<-hB];simp
 clear hA hB
 refine SC.of_gwp noM mixed Tryz.func64 rfl (Nat.le_of_ble_eq_true rfl) (by first|exact Nat.le_refl _|simp) rfl ?_
 conv=>whnf
 refine GLoop.intro (fun q:Nat×Nat=>(q=(0,0))∨q=(1,A.length)∨q=(2,A.length+B.length)) (fun q=>[(0,.sl .none [.sl .none (strG A),.sl .none (strG B)]),(3,.i .i64 (q.2:Nat)),(9,.sl .none [.sl .none (strG A),.sl .none (strG B)]),(10,.i .i64 2),(11,.i .i64 (q.1:Nat))]) (fun _=>⟨[.own 0 0 0],0,[]⟩) (fun q=>2 - q.1) (0,0) (.inl rfl) ⟨rfl,rfl,rfl,rfl,rfl,trivial⟩ rfl (fun q φ0 hq=>?_)
 rcases hq with rfl|rfl|rfl
 ·conv=>whnf
  refine⟨Int.le_refl 0,_,rfl,rfl,?_⟩
  conv=>whnf
  have hw:IntKind.i64.wrap (((0:Nat):Int)+((strG A).length:Int))=(A.length:Int):=by rw[e1,wrap_in (by omega) (by omega)];omega
  refine GIf.mk (fun hneg=>?_) (fun hneg=>?_)<;>conv=>whnf
  ·exfalso
   have h9:=of_decide_eq_true hneg
   rw[hw] at h9;omega
  exact⟨1,by decide,(1,A.length),.inr (.inl rfl),rfl,⟨rfl,by rw[<-hw];rfl,rfl,rfl,rfl,trivial⟩,rfl⟩
 ·conv=>whnf
  refine⟨Int.natCast_nonneg 1,_,rfl,rfl,?_⟩
  conv=>whnf
  have hw:IntKind.i64.wrap ((A.length:Int)+((strG B).length:Int))=((A.length+B.length:Nat):Int):=by rw[e2,wrap_in (by omega) (by omega)];omega
  refine GIf.mk (fun hneg=>?_) (fun hneg=>?_)<;>conv=>whnf
  ·exfalso
   have h9:=of_decide_eq_true hneg
   rw[hw] at h9;omega
  exact⟨0,Nat.zero_lt_one,(2,A.length+B.length),.inr (.inr rfl),rfl,⟨rfl,by rw[<-hw];rfl,rfl,rfl,rfl,trivial⟩,rfl⟩
 ·conv=>whnf
  refine callG hg [] (objs':=[.own 0 0 0,.own 0 1 9]) Lies.nil (Wks.refl _) rfl rfl rfl rfl ?_
  conv=>whnf
  refine GLoop.intro (fun q:Nat×List By=>(q=(0,[]))∨q=(1,A)∨q=(2,A++B)) (fun q=>[(6,.sl (.own 1) (strG q.2)),(25,.sl .none [.sl .none (strG A),.sl .none (strG B)]),(26,.i .i64 2),(27,.i .i64 (q.1:Nat))]) (fun q=>⟨[.own 0 0 0,.own q.2.length 1 9],0,[]⟩) (fun q=>2 - q.1) (0,[]) (.inl rfl) ⟨rfl,rfl,rfl,rfl,trivial⟩ rfl (fun q φ1 hq=>?_)
  rcases hq with rfl|rfl|rfl
  ·conv=>whnf
   refine⟨Int.le_refl 0,_,rfl,rfl,?_⟩
   conv=>whnf
   refine GIf.mk (fun hemp=>?_) (fun hemp=>?_)
   ·exfalso
    have:(strG A).length=0:=by rw[List.isEmpty_iff.1 hemp];rfl
    omega
   conv=>whnf
   refine⟨⟨strG_okEl A,rfl,by show 0+(strG A).length<=4294967296;omega⟩,strG A,A.length,⟨rfl,by show _=0+(strG A).length;omega⟩,?_⟩
   conv=>whnf
   refine⟨⟨Nat.zero_le _,rfl,.inl ⟨rfl,rfl⟩⟩,?_⟩
   conv=>whnf
   exact⟨1,by decide,(1,A),.inr (.inl rfl),rfl,⟨rfl,rfl,rfl,rfl,trivial⟩,rfl⟩
  ·conv=>whnf
   refine⟨Int.natCast_nonneg 1,_,rfl,rfl,?_⟩
   conv=>whnf
   refine GIf.mk (fun hemp=>?_) (fun hemp=>?_)
   ·exfalso
    have:(strG B).length=0:=by rw[List.isEmpty_iff.1 hemp];rfl
    omega
   conv=>whnf
   refine⟨⟨strG_okEl B,strG_ok A,by show(strG A).length+(strG B).length<=4294967296;omega⟩,strG (A++B),(A++B).length,⟨by simp[strG],by show _=(strG A).length+(strG B).length;rw[List.length_append];omega⟩,?_⟩
   conv=>whnf
   refine⟨⟨Nat.zero_le _,by rw[e1],.inl ⟨rfl,rfl⟩⟩,?_⟩
   conv=>whnf
   exact⟨0,Nat.zero_lt_one,(2,A++B),.inr (.inr rfl),rfl,⟨rfl,rfl,rfl,rfl,trivial⟩,rfl⟩
  ·conv=>whnf
   exact owes_wk (Wk.sl _ _) (Cl.sl (strG_cl _))
theorem c_ConcatS0:SC Tryz.prog 64 [.sl .none [.sl .none [],.sl .none []]] [] (.val (.sl .none [])) []:=by
 have hg:=c_GrowS0
 refine SC.of_gwp noM mixed Tryz.func64 rfl (Nat.le_of_ble_eq_true rfl) (by first|exact Nat.le_refl _|simp) rfl ?_
 conv=>whnf
 refine GLoop.intro (fun q:Nat=>q=0∨q=1∨q=2) (fun q=>[(0,.sl .none [.sl .none [],.sl .none []]),(3,.i .i64 0),(9,.sl .none [.sl .none [],.sl .none []]),(10,.i .i64 2),(11,.i .i64 (q:Nat))]) (fun _=>⟨[.own 0 0 0],0,[]⟩) (fun q=>2 - q) 0 (.inl rfl) ⟨rfl,rfl,rfl,rfl,rfl,trivial⟩ rfl (fun q φ0 hq=>?_)
 rcases hq with rfl|rfl|rfl
 ·conv=>whnf
  refine⟨Int.le_refl 0,_,rfl,rfl,?_⟩
  conv=>whnf
  exact⟨1,by decide,1,.inr (.inl rfl),rfl,⟨rfl,rfl,rfl,rfl,rfl,trivial⟩,rfl⟩
 ·conv=>whnf
  refine⟨Int.natCast_nonneg 1,_,rfl,rfl,?_⟩
  conv=>whnf
  exact⟨0,Nat.zero_lt_one,2,.inr (.inr rfl),rfl,⟨rfl,rfl,rfl,rfl,rfl,trivial⟩,rfl⟩
 ·conv=>whnf
  refine callP hg (Wks.refl _) rfl (fun _=>rfl) (fun _=>rfl) ?_
  conv=>whnf
  refine GLoop.intro (fun q:Nat=>q=0∨q=1∨q=2) (fun q=>[(6,.sl .full []),(25,.sl .none [.sl .none [],.sl .none []]),(26,.i .i64 2),(27,.i .i64 (q:Nat))]) (fun _=>⟨[.own 0 0 0],0,[]⟩) (fun q=>2 - q) 0 (.inl rfl) ⟨rfl,rfl,rfl,rfl,trivial⟩ rfl (fun q φ1 hq=>?_)
  rcases hq with rfl|rfl|rfl
  ·conv=>whnf
   refine⟨Int.le_refl 0,_,rfl,rfl,?_⟩
   conv=>whnf
   exact⟨1,by decide,1,.inr (.inl rfl),rfl,⟨rfl,rfl,rfl,rfl,trivial⟩,rfl⟩
  ·conv=>whnf
   refine⟨Int.natCast_nonneg 1,_,rfl,rfl,?_⟩
   conv=>whnf
   exact⟨0,Nat.zero_lt_one,2,.inr (.inr rfl),rfl,⟨rfl,rfl,rfl,rfl,trivial⟩,rfl⟩
  ·conv=>whnf
   exact owes_wk (Wk.sl _ _) (Cl.sl ClL.nil)
theorem c_ConcatS (f g:List By) (h:f.length=g.length) (hf:f.length<=100000):SC Tryz.prog 64 [.sl .none [.sl .none (strG f),.sl .none (strG g)]] [] (.val (.sl .none (strG (f++g)))) []:=by
 cases f with
 |nil=>
  have:g=[]:=List.eq_nil_of_length_eq_zero (by simpa using h.symm)
  subst this
  exact c_ConcatS0
 |cons x xs=>
  cases g with
  |nil=>simp at h
  |cons y ys=>exact c_ConcatS1 x y xs ys hf (by omega)
end Go.Proofs.YtlhabmglchgdnaaGreatDoor
namespace Go.Proofs.YtlhabmglchgdnaaGreatDoor
open Go.RowKit
set_option maxRecDepth 100000
set_option linter.unusedVariables false
def nmap (f g:List By) (w:By):By:=match f.findIdx? (· ==w) with
 |some i=>g.getD i []
 |none=>w
def setN (y:Itm) (n:By):Itm:=⟨n,y.k,y.lo,y.hi,y.len⟩
def renI (f g:List By) (I:List Itm):List Itm:=I.map fun y=>setN y (nmap f g y.name)
def renS (s:By) (f g:List By):By×Int:=match readS s with
 |.err e=>([],e)
 |.ok t=>if f.length=g.length then(if(f++g).all nmOk then resS (t.mp (renT f g)) else([],1)) else([],11)
theorem renT_eq (f g:List By) {t:Term} (hv:t.var=false) (hn:t.name≠[]):renT f g t=⟨nmap f g t.name,false,t.v⟩:=by
 unfold renT nmap
 rw[if_pos ⟨hv,hn⟩]
 cases f.findIdx? (· ==t.name) with
 |some i=>rfl
 |none=>obtain⟨nm,vr,w⟩:=t;simp only at hv;subst hv;rfl
theorem renT_no (f g:List By) {t:Term} (h:¬(t.var=false/\t.name≠[])):renT f g t=t:=if_neg h
theorem nmap_ok {f g:List By} (h:(f++g).all nmOk=true) (hl:f.length=g.length) {w:By} (hw:nmOk w=true):nmOk (nmap f g w)=true:=by
 unfold nmap
 cases e:f.findIdx? (· ==w) with
 |none=>exact hw
 |some i=>
  obtain⟨hi,_,_⟩:=List.findIdx?_eq_some_iff_getElem.1 e
  have hi':i<g.length:=by omega
  show nmOk (g.getD i [])=true
  rw[List.getD_eq_getElem?_getD,List.getElem?_eq_getElem hi',Option.getD_some]
  exact List.all_eq_true.1 h _ (List.mem_append.2 (.inr (List.getElem_mem hi')))
theorem nmOk_iff (w:By):nmOk w=true↔isName w=true/\kept.contains w=false:=by
 unfold nmOk
 rw[Bool.and_eq_true,Bool.not_eq_true']
theorem ren_good {f g:List By} (h:(f++g).all nmOk=true) (hl:f.length=g.length) {t:Term} (ht:t.good):(renT f g t).good:=by
 by_cases hc:t.var=false/\t.name≠[]
 ·rw[renT_eq f g hc.1 hc.2]
  rcases ht with⟨h1,h2,h3,h4⟩|⟨h1,_,_⟩
  ·have:=nmap_ok h hl ((nmOk_iff t.name).2 ⟨h2,h3⟩)
   obtain⟨k1,k2⟩:=(nmOk_iff _).1 this
   exact .inl ⟨(fun e=>by rw[show nmap f g t.name=[] from e] at k1;cases k1),k1,k2,h4⟩
  ·exact absurd h1 hc.2
 ·rw[renT_no f g hc];exact ht
theorem takes_set (y:Itm) (n:By) (v:Val):takesB (setN y n) v=takesB y v:=rfl
theorem each_ren (f g:List By):∀(I:List Itm) (R:List Val),eachB (renI f g I) R=eachB I R
 |[],[]=>rfl
 |[],_::_=>rfl
 |_::_,[]=>rfl
 |y::I,v::R=>by
  show(takesB (setN y _) v&&eachB (renI f g I) R)=(takesB y v&&eachB I R)
  rw[takes_set,each_ren f g I R]
theorem renI_len (f g:List By) (I:List Itm):(renI f g I).length=I.length:=by simp[renI]
theorem fits_ren {f g:List By} {I:List Itm} {R:List Val} (hk:knownB (renI f g I)=true) (h:fits2 I R=true):fits2 (renI f g I) R=true:=by
 unfold fits2 fitsB at*
 rw[renI_len,each_ren,hk]
 simp only[Bool.and_eq_true,Bool.or_eq_true,decide_eq_true_eq,Bool.true_and] at h⊢
 rcases h.2 with h1|h1
 ·exact .inl h1
 ·exact .inr ⟨⟨h1.1.1,trivial⟩,h1.2⟩
theorem eval_renamed {I:List Itm} {R:List Val} {s s':By} {f g:List By} {b:Bool} (h:evalS I [] R [] s=(b,0)) (hr:renS s f g=(s',0)) (hk:knownB (renI f g I)=true):evalS (renI f g I) [] R [] s'=(b,0):=by
 obtain⟨T,hrd,he⟩:=eval_ok h
 have hg:=(readS_good hrd).1
 unfold renS at hr
 rw[hrd] at hr
 simp only at hr
 split at hr
 ·rename_i hlen
  split at hr
  ·rename_i hall
   have h0:(resS (T.mp (renT f g))).2=0:=by rw[hr]
   have hs':(resS (T.mp (renT f g))).1=s':=by rw[hr]
   have hrd2:=res_read (mp_good (fun _=>ren_good hall hlen) hg) h0
   rw[hs'] at hrd2
   obtain⟨k1,k2,k3,k4,k5⟩:=evT_ok he
   simp only[Bool.and_eq_true] at k1
   unfold evalS
   rw[hrd2]
   have hknown:=hk
   unfold knownB at hknown
   simp only[Bool.and_eq_true,decide_eq_true_eq,List.all_eq_true] at hknown
   obtain⟨⟨hok,hnd⟩,_⟩:=hknown
   refine evT_moved (F:=renT f g) (by rw[tsts_flat,tsts_mp]) (fun τ=>by rw[truth_flat,truth_mp]) he (by simp only[Bool.and_eq_true];exact⟨⟨hk,by decide⟩,fits_ren hk k1.2⟩) rfl rfl (fun x hx hx0=>?_)
   by_cases hn:x.name=[]
   ·rw[renT_no f g (fun q=>q.2 hn)]
    unfold kindR valT
    rw[if_pos hn,if_pos hn,if_pos hn,if_pos hn]
    exact⟨rfl,rfl⟩
   cases hv:x.var with
   |true=>
    exfalso
    apply hx0
    unfold kindR
    rw[if_neg hn,hv]
    rfl
   |false=>
    have e1:kindR I [] x=match I.find? (fun i=>i.name==x.name) with
      |some i=>i.k
      |none=>0:=by unfold kindR;rw[if_neg hn,hv];rfl
    rcases idx_kind I x.name with⟨_,i2⟩|⟨j,y,i1,i2,i3⟩
    ·exfalso;rw[i2] at e1;exact hx0 e1
    ·have hyn:y.name=x.name:=by have:=List.find?_some i3;simpa using this
     have hI':(renI f g I)[j]?=some (setN y (nmap f g x.name)):=by
      unfold renI
      rw[List.getElem?_map,i2,Option.map_some,hyn]
     have hj':=(List.getElem?_eq_some_iff.1 hI').1
     have hnm:isName (nmap f g x.name)=true:=by
      have:=hok _ (List.mem_of_getElem? hI')
      unfold Itm.ok at this
      rw[Bool.and_eq_true] at this
      exact this.1
     have hne:nmap f g x.name≠[]:=fun e=>by rw[e] at hnm;cases hnm
     have hidx:idxN (renI f g I) (nmap f g x.name)=(j:Int):=idx_yes hI' rfl (fun z hz hze=>by
      obtain⟨m,hm,rfl⟩:=List.mem_take_iff_getElem.1 hz
      have hm':m<(renI f g I).length:=by omega
      have hp:=List.pairwise_iff_getElem.1 hnd m j (by simp only[List.length_map];omega) (by simp only[List.length_map];omega) (by omega)
      apply hp
      rw[List.getElem_map,List.getElem_map,(List.getElem?_eq_some_iff.1 hI').2]
      exact hze)
     rw[renT_eq f g hv hn]
     refine⟨?_,?_⟩
     ·have e2:kindR (renI f g I) [] ⟨nmap f g x.name,false,x.v⟩=match(renI f g I).find? (fun i=>i.name==nmap f g x.name) with
        |some i=>i.k
        |none=>0:=by unfold kindR;rw[if_neg hne];rfl
      rcases idx_kind (renI f g I) (nmap f g x.name) with⟨q,_⟩|⟨j',y',q1,q2,q3⟩
      ·rw[hidx] at q;omega
      ·rw[hidx] at q1
       have:j=j':=by omega
       subst this
       rw[hI'] at q2;cases q2
       rw[e2,q3,e1,i3];rfl
     ·unfold valT lkp
      rw[if_neg hne,if_neg hn,hv]
      simp only[Bool.false_eq_true,if_false]
      rw[hidx,i1]
  ·have:=congrArg Prod.snd hr;simp at this
 ·have:=congrArg Prod.snd hr;simp at this
end Go.Proofs.YtlhabmglchgdnaaGreatDoor
namespace Go.Proofs.YtlhabmglchgdnaaGreatDoor
open Go.RowKit
set_option maxRecDepth 100000
set_option linter.unusedVariables false
theorem c_ren1 (f g:List By) (hl:f.length=g.length) (hf:f.length<=100000) (t:Term):SC Tryz.prog 68 [t.gv,.ptr 0 0,.ptr 1 0] [.box 27 [.sl .none (strG f)],.box 27 [.sl .none (strG g)]] (.val (renT f g t).gv) [.box 27 [.sl .none (strG f)],.box 27 [.sl .none (strG g)]]:=by
 have ho:=two_own (T0:=27) (T1:=27) (c0:=[.sl .none (strG f)]) (c1:=[.sl .none (strG g)]) (ClL.cons (Cl.sl (strG_cl f)) .nil) (ClL.cons (Cl.sl (strG_cl g)) .nil)
 have hi:=c_IndexS f t.name (by unfold most;omega)
 have hcases:(idxS f t.name= -1/\f.findIdx? (· ==t.name)=none)∨∃i x,idxS f t.name=(i:Nat)/\f.findIdx? (· ==t.name)=some i/\g[i]?=some x:=by
  cases e:f.findIdx? (· ==t.name) with
  |none=>exact .inl ⟨by unfold idxS;rw[e],rfl⟩
  |some i=>
   obtain⟨h1,_,_⟩:=List.findIdx?_eq_some_iff_getElem.1 e
   exact .inr ⟨i,g[i]'(by omega),by unfold idxS;rw[e],rfl,List.getElem?_eq_getElem _⟩
 obtain⟨nm,vr,w⟩:=t
 simp only at hi hcases
 rcases hcases with⟨h1,h2⟩|⟨i,x,h1,h2,h3⟩
 ·have e:renT f g ⟨nm,vr,w⟩=⟨nm,vr,w⟩:=by
   unfold renT
   split
   ·simp only[h2]
   ·rfl
  rw[e]
  rw[h1] at hi
  refine SC.of_gwp noM mixed Tryz.func68 rfl (Nat.le_of_ble_eq_true rfl) (Nat.le_of_ble_eq_true rfl) rfl ?_
  conv=>whnf
  refine callP hi (Wks.refl _) rfl (ClL.cons (Cl.sl (strG_cl f)) (fun _=>rfl)) (.i _ _) ?_
  conv=>whnf
  repeat (refine⟨_,⟨rfl,Nat.zero_le _,rfl,Nat.le_of_ble_eq_true rfl⟩,?_⟩;conv=>whnf)
  exact owesPre (rest:=_) rfl (Nat.le_refl _) ho rfl (fun e _=>congrArg GRes.val (Term.cl _ e)) (show WkRes (.val _) (.val _) from Wk.refl _)
 ·rw[h1] at hi
  have hgx:(strG g)[((i:Nat):Int).toNat]?=some (.s x):=by
   rw[Int.toNat_natCast];unfold strG;rw[List.getElem?_map,h3];rfl
  have hgd:g.getD i []=x:=by rw[List.getD_eq_getElem?_getD,h3];rfl
  cases vr with
  |true=>
   have e:renT f g ⟨nm,true,w⟩=⟨nm,true,w⟩:=if_neg (fun q=>by cases q.1)
   rw[e]
   refine SC.of_gwp noM mixed Tryz.func68 rfl (Nat.le_of_ble_eq_true rfl) (Nat.le_of_ble_eq_true rfl) rfl ?_
   conv=>whnf
   refine callP hi (Wks.refl _) rfl (ClL.cons (Cl.sl (strG_cl f)) (fun _=>rfl)) (.i _ _) ?_
   conv=>whnf
   repeat (refine⟨_,⟨rfl,Nat.zero_le _,rfl,Nat.le_of_ble_eq_true rfl⟩,?_⟩;conv=>whnf)
   exact owesPre (rest:=_) rfl (Nat.le_refl _) ho rfl (fun e _=>congrArg GRes.val (Term.cl _ e)) (show WkRes (.val _) (.val _) from Wk.refl _)
  |false=>
  cases nm with
  |nil=>
   have e:renT f g ⟨[],false,w⟩=⟨[],false,w⟩:=if_neg (fun q=>q.2 rfl)
   rw[e]
   refine SC.of_gwp noM mixed Tryz.func68 rfl (Nat.le_of_ble_eq_true rfl) (Nat.le_of_ble_eq_true rfl) rfl ?_
   conv=>whnf
   refine callP hi (Wks.refl _) rfl (ClL.cons (Cl.sl (strG_cl f)) (fun _=>rfl)) (.i _ _) ?_
   conv=>whnf
   repeat (refine⟨_,⟨rfl,Nat.zero_le _,rfl,Nat.le_of_ble_eq_true rfl⟩,?_⟩;conv=>whnf)
   exact owesPre (rest:=_) rfl (Nat.le_refl _) ho rfl (fun e _=>congrArg GRes.val (Term.cl _ e)) (show WkRes (.val _) (.val _) from Wk.refl _)
  |cons a nm=>
   have e:renT f g ⟨a::nm,false,w⟩=⟨x,false,w⟩:=by
    unfold renT
    rw[if_pos ⟨rfl,List.cons_ne_nil _ _⟩]
    simp only[h2,hgd]
   rw[e]
   refine SC.of_gwp noM mixed Tryz.func68 rfl (Nat.le_of_ble_eq_true rfl) (Nat.le_of_ble_eq_true rfl) rfl ?_
   conv=>whnf
   refine callP hi (Wks.refl _) rfl (ClL.cons (Cl.sl (strG_cl f)) (fun _=>rfl)) (.i _ _) ?_
   conv=>whnf
   refine⟨Int.natCast_nonneg _,_,hgx,rfl,?_⟩
   conv=>whnf
   repeat (refine⟨_,⟨rfl,Nat.zero_le _,rfl,Nat.le_of_ble_eq_true rfl⟩,?_⟩;conv=>whnf)
   exact owesPre (rest:=_) rfl (Nat.le_refl _) ho rfl (fun e _=>congrArg GRes.val (Term.cl _ e)) (show WkRes (.val _) (.val _) from Wk.refl _)
theorem strG_at0 {l:List By} {i:Nat} {x:By} (h:l[i]?=some x):(strG l)[((i:Nat):Int).toNat]?=some (.s x):=by
 rw[Int.toNat_natCast];unfold strG;rw[List.getElem?_map,h];rfl
theorem c_Rename (s:By) (f g:List By) (hf:f.length<=100000) (hgl:g.length<=100000):SC Tryz.prog 33 [.s s,.sl .none (strG f),.sl .none (strG g)] [] (.val (.tup [.s (renS s f g).1,.i .i64 (renS s f g).2])) []:=by
 have hr:=c_readU s
 have hcl:=readG_cl s
 have l1:=strG_len f
 have l2:=strG_len g
 unfold readG at hr hcl
 unfold renS
 cases h:readS s with
 |err e=>
  rw[h] at hr hcl
  replace hr:SC Tryz.prog 46 [.s s] [] (.val (.tup [.o .nilIface,.i .i64 e])) []:=hr
  have he:=readS_err h
  simp only
  rcases he with rfl|rfl|rfl
  all_goals
   refine SC.of_gwp noM mixed Tryz.func33 rfl (Nat.le_of_ble_eq_true rfl) (by first|exact Nat.le_refl _|simp) rfl ?_
   conv=>whnf
   refine callP hr (Wks.refl _) rfl (fun _=>rfl) hcl ?_
   conv=>whnf
   exact owes_wk (.refl _) (fun _=>rfl)
 |ok t=>
  rw[h] at hr hcl
  replace hr:SC Tryz.prog 46 [.s s] [] (.val (.tup [t.gv,.i .i64 0])) []:=hr
  obtain⟨hn,hz,_⟩:=readS_bound h
  have hg:=(readS_good h).1
  simp only
  by_cases hl:f.length=g.length
  rotate_left
  ·rw[if_neg hl]
   refine SC.of_gwp noM mixed Tryz.func33 rfl (Nat.le_of_ble_eq_true rfl) (by first|exact Nat.le_refl _|simp) rfl ?_
   conv=>whnf
   refine callP hr (Wks.refl _) rfl (fun _=>rfl) hcl ?_
   conv=>whnf
   refine GIf.mk (fun h1=>?_) (fun h1=>?_)<;>conv=>whnf
   ·exact owes_wk (.refl _) (fun _=>rfl)
   ·exfalso;have h9:((strG f).length:Int)=(strG g).length:=by simpa using h1
    omega
  rw[if_pos hl]
  have hch:=c_changed (T0:=27) (T1:=27) (c0:=[.sl .none (strG f)]) (c1:=[.sl .none (strG g)]) (ClL.cons (Cl.sl (strG_cl f)) .nil) (ClL.cons (Cl.sl (strG_cl g)) .nil) (by kernel_rfl) (c_ren1 f g hl hf) t
  have hres:(f++g).all nmOk=true->SC Tryz.prog 47 [(t.mp (renT f g)).gv] [] (.val (.tup [.s (resS (t.mp (renT f g))).1,.i .i64 (resS (t.mp (renT f g))).2])) []:=fun ha=>c_result (t.mp (renT f g)) (nice_of (mp_good (fun _=>ren_good ha hl) hg)) (by rw[mp_size];omega)
  have htc:=(t.mp (renT f g)).cl
  have ho:=two_own (T0:=27) (T1:=27) (c0:=[.sl .none (strG f)]) (c1:=[.sl .none (strG g)]) (ClL.cons (Cl.sl (strG_cl f)) .nil) (ClL.cons (Cl.sl (strG_cl g)) .nil)
  have hcc:=c_ConcatS f g hl hf
  generalize t.mp (renT f g)=u at*
  generalize resS u=q at*
  obtain⟨w,e⟩:=q
  generalize hG:(if(f++g).all nmOk=true then(w,e) else(([]:By),(1:Int)))=G
  have hno:(f++g).all nmOk=false->G=([],1):=fun h=>by rw[<-hG,h];rfl
  have hyes:(f++g).all nmOk=true->G=(w,e):=fun h=>by rw[<-hG,h];rfl
  clear hG
  refine SC.of_gwp noM mixed Tryz.func33 rfl (Nat.le_of_ble_eq_true rfl) (by first|exact Nat.le_refl _|simp) rfl ?_
  conv=>whnf
  refine callP hr (Wks.refl _) rfl (fun _=>rfl) hcl ?_
  conv=>whnf
  refine GIf.mk (fun h1=>?_) (fun h1=>?_)<;>conv=>whnf
  ·exfalso;have h9:¬((strG f).length:Int)=(strG g).length:=by simpa using h1
   omega
  refine callP hcc (Wks.cons (Wk.sl _ _) (Wks.refl _)) rfl (ClL.cons (Cl.sl (ClL.cons (Cl.sl (strG_cl f)) (ClL.cons (Cl.sl (strG_cl g)) .nil))) .nil) (Cl.sl (strG_cl _)) ?_
  conv=>whnf
  refine GLoop.introS (fun i:Nat=>i<=(f++g).length/\∀x∈(f++g).take i,nmOk x=true) (fun i=>[(4,.ptr 0 0),(5,.ptr 1 0),(8,.ifc t.ty (.agg t.cs)),(28,.sl .none (strG (f++g))),(29,.i .i64 (strG (f++g)).length),(30,.i .i64 (i:Nat))]) (fun i=>⟨[.box 27 [.sl .none (strG f)],.box 27 [.sl .none (strG g)],.own 2 1 27],0,[]⟩) (fun i=>(f++g).length - i) 0 ⟨Nat.zero_le _,fun x h=>by simp at h⟩ ⟨rfl,rfl,rfl,rfl,rfl,rfl,trivial⟩ rfl (fun _ _=>Nat.le_refl _) (fun _ _=>rfl) (fun i _ e he=>?_) (fun i φ0 hi=>?_)
  ·refine⟨?_,rfl,?_⟩
   ·show[(GObj.box _ [(GV.sl .none (strG f)).ren e]),(GObj.box _ [(GV.sl .none (strG g)).ren e]),.own 2 1 _]=_
    rw[Cl.sl (strG_cl f) e,Cl.sl (strG_cl g) e]
   ·show[GV.ptr (e 0) 0,GV.ptr (e 1) 0,t.gv.ren e,(GV.sl .none (strG (f++g))).ren e,_,_]=_
    rw[he 0 (by simp),he 1 (by simp),t.cl e,Cl.sl (strG_cl (f++g)) e];rfl
  obtain⟨hi,hall⟩:=hi
  have l3:=strG_len (f++g)
  have l4:(f++g).length=f.length+g.length:=List.length_append
  conv=>whnf
  refine GIf.mk (fun h=>?_) (fun h=>?_)<;>conv=>whnf
  rotate_left
  ·have hie:i=(f++g).length:=by have:=of_decide_eq_false h;omega
   rw[hie,List.take_length] at hall
   have ha:(f++g).all nmOk=true:=List.all_eq_true.2 hall
   rw[hyes ha]
   have hres:=hres ha
   refine callPreP (rest:=[.own 2 1 27]) hch rfl rfl ho rfl chArgs htc (Wks.refl _) ?_
   conv=>whnf
   refine callP hres (Wks.refl _) rfl (ClL.cons htc .nil) (fun _=>rfl) ?_
   conv=>whnf
   exact owes_wk (.refl _) (fun _=>rfl)
  have hlt:i<(f++g).length:=by have:=of_decide_eq_true h;omega
  obtain⟨x,hxx⟩:∃x,(f++g)[i]?=some x:=⟨(f++g)[i],List.getElem?_eq_getElem hlt⟩
  have hxa:=strG_at0 hxx
  have r1:=c_Name x
  have r2:=c_keptC x
  have bad:nmOk x=false->G=([],1):=fun h=>hno (List.all_eq_false.2 ⟨x,List.mem_of_getElem? hxx,by rw[h];simp⟩)
  have good:nmOk x=true->(f++g).length - (i+1)<(f++g).length - i/\(i+1<=(f++g).length/\∀y∈(f++g).take (i+1),nmOk y=true):=fun h1=>⟨by omega,hlt,fun y hy=>by
   rw[List.take_add_one,hxx] at hy
   rcases List.mem_append.1 hy with q|q
   ·exact hall y q
   ·rw[List.mem_singleton.1 (show y∈[x] from q)];exact h1⟩
  unfold nmOk at bad good
  refine⟨Int.natCast_nonneg _,_,hxa,rfl,?_⟩
  conv=>whnf
  cases b1:isName x with
  |false=>
   rw[b1] at r1 bad
   rw[bad rfl]
   refine callP r1 (Wks.refl _) rfl (fun _=>rfl) (.b _) ?_
   conv=>whnf
   exact owes_wk (.refl _) (fun _=>rfl)
  |true=>
  rw[b1] at r1 bad good
  refine callP r1 (Wks.refl _) rfl (fun _=>rfl) (.b _) ?_
  conv=>whnf
  cases b2:kept.contains x with
  |true=>
   rw[b2] at r2 bad
   rw[bad rfl]
   refine callP r2 (Wks.refl _) rfl (fun _=>rfl) (.b _) ?_
   conv=>whnf
   exact owes_wk (.refl _) (fun _=>rfl)
  |false=>
  rw[b2] at r2 good
  obtain⟨g1,g2⟩:=good rfl
  refine callP r2 (Wks.refl _) rfl (fun _=>rfl) (.b _) ?_
  conv=>whnf
  exact⟨(f++g).length - (i+1),g1,i+1,g2,rfl,⟨rfl,rfl,rfl,rfl,rfl,wrap_succ (by omega),trivial⟩,[],rfl,rfl⟩
end Go.Proofs.YtlhabmglchgdnaaGreatDoor
namespace Go.Proofs.YtlhabmglchgdnaaGreatDoor
open Go.RowKit
set_option maxRecDepth 100000
set_option linter.unusedVariables false
theorem mp_congr {F G:Term->Term}:∀{t:Tree},t.good->(∀x:Term,x.good->F x=G x)->t.mp F=t.mp G
 |.pair a l r,h,hf=>by simp only[Tree.mp,mp_congr (t:=l) h.1 hf,mp_congr (t:=r) h.2 hf]
 |.no t,h,hf=>by simp only[Tree.mp,mp_congr (t:=t) h hf]
 |.test op l r,h,hf=>by simp only[Tree.mp,hf l h.2.1,hf r h.2.2]
 |.truth b,h,hf=>rfl
theorem chT_r (f g:List By) {t:Tree} (h:t.good):t.mp (chT f g [] v0)=t.mp (renT f g):=mp_congr h fun x hx=>by
 unfold chT boundT
 refine if_neg (fun q=>?_)
 obtain⟨h1,h2⟩:=q
 have hv:x.var=true:=by
  unfold renT at h1
  split at h1
  ·split at h1
   ·cases h1
   ·exact h1
  ·exact h1
 have e:renT f g x=x:=renT_no f g (fun q=>by rw[hv] at q;cases q.1)
 rw[e] at h2
 exact good_var hx hv h2
def renR (s:By) (f g:List By):By×Int:=match readR s with
 |.err e=>([],e)
 |.ok t=>if f.length=g.length then(if(f++g).all nmOk then toldR (t.mp (chT f g [] v0)) else([],1)) else([],11)
theorem renR_eq (s:By) (f g:List By):renR s f g=renS s f g:=by
 unfold renR renS
 have hr:=readR_eq s
 cases hx:readR s with
 |err e=>rw[hx] at hr;rw[hr]
 |ok t=>
  rw[hx] at hr;rw[hr]
  simp only
  by_cases hl:f.length=g.length
  ·rw[if_pos hl,if_pos hl]
   cases ha:(f++g).all nmOk with
   |false=>rfl
   |true=>
    have hg:=readR_good hx
    rw[if_pos rfl,if_pos rfl,chT_r f g hg,res_mp,toldR_eq (mp_good (fun _=>ren_good ha hl) hg)]
  ·rw[if_neg hl,if_neg hl]
theorem pairs_no {f g:List By} {i:Nat} {x y:By} (hx:f[i]?=some x) (hy:g[i]?=some y) (h:nmOk x=false∨nmOk y=false):(f++g).all nmOk=false:=by
 rw[Bool.eq_false_iff]
 intro ha
 have h1:=List.all_eq_true.1 ha x (List.mem_append.2 (.inl (List.mem_of_getElem? hx)))
 have h2:=List.all_eq_true.1 ha y (List.mem_append.2 (.inr (List.mem_of_getElem? hy)))
 rcases h with h|h
 ·rw[h] at h1;cases h1
 ·rw[h] at h2;cases h2
theorem pairs_end {f g:List By} (hl:f.length=g.length) (h:∀(i:Nat) x y,f[i]?=some x->g[i]?=some y->nmOk x=true/\nmOk y=true):(f++g).all nmOk=true:=by
 rw[List.all_eq_true]
 intro z hz
 rcases List.mem_append.1 hz with hz|hz
 ·obtain⟨i,hi⟩:=List.mem_iff_getElem?.1 hz
  have:=(List.getElem?_eq_some_iff.1 hi).1
  exact(h i z (g[i]'(by omega)) hi (List.getElem?_eq_getElem _)).1
 ·obtain⟨i,hi⟩:=List.mem_iff_getElem?.1 hz
  have:=(List.getElem?_eq_some_iff.1 hi).1
  exact(h i (f[i]'(by omega)) z (List.getElem?_eq_getElem _) hi).2
theorem strG_at {l:List By} {i:Nat} {x:By} (h:l[i]?=some x):(strG l)[((i:Nat):Int).toNat]?=some (.s x):=by
 rw[Int.toNat_natCast];unfold strG;rw[List.getElem?_map,h];rfl
theorem r_Rename (s:By) (f g:List By) (hf:f.length<1000000) (hg:g.length<1000000):SC Tryz.prog 34 [.s s,.sl .none (strG f),.sl .none (strG g)] [] (.val (.tup [.s (renR s f g).1,.i .i64 (renR s f g).2])) []:=by
 have hr:=r_ReadU s
 have hrc:=readRG_cl s
 have l1:=strG_len f
 have l2:=strG_len g
 unfold readRG at hr hrc
 unfold renR
 cases hx:readR s with
 |err e=>
  rw[hx] at hr hrc
  replace hr:SC Tryz.prog 48 [.s s] [] (.val (.tup [nodeN,.i .i64 e])) []:=hr
  replace hrc:Cl (.tup [nodeN,.i .i64 e]):=hrc
  have he:=readR_err hx
  simp only
  rcases he with rfl|rfl|rfl
  all_goals
   refine SC.of_gwp noM mixed Tryz.func34 rfl (Nat.le_of_ble_eq_true rfl) (by first|exact Nat.le_refl _|simp) rfl ?_
   conv=>whnf
   refine callP hr (Wks.refl _) rfl (fun _=>rfl) hrc ?_
   conv=>whnf
   repeat (refine⟨_,⟨rfl,Nat.zero_le _,rfl,Nat.le_of_ble_eq_true rfl⟩,?_⟩;conv=>whnf)
   exact owes_wk (.refl _) (fun _=>rfl)
 |ok t=>
  rw[hx] at hr hrc
  replace hr:SC Tryz.prog 48 [.s s] [] (.val (.tup [t.ng,.i .i64 0])) []:=hr
  replace hrc:Cl (.tup [t.ng,.i .i64 0]):=hrc
  have hz:=readR_size hx
  have hgd:=readR_good hx
  have htc:=t.ng_cl
  simp only
  by_cases hl:f.length=g.length
  rotate_left
  ·rw[if_neg hl]
   obtain⟨k,kids,A,B,op,yes,hng⟩:=ng_form t
   rw[hng] at hr hrc
   refine SC.of_gwp noM mixed Tryz.func34 rfl (Nat.le_of_ble_eq_true rfl) (by first|exact Nat.le_refl _|simp) rfl ?_
   conv=>whnf
   refine callP hr (Wks.refl _) rfl (fun _=>rfl) hrc ?_
   conv=>whnf
   repeat (refine⟨_,⟨rfl,Nat.zero_le _,rfl,Nat.le_of_ble_eq_true rfl⟩,?_⟩;conv=>whnf)
   refine GIf.mk (fun h1=>?_) (fun h1=>?_)<;>conv=>whnf
   ·exact owes_wk (.refl _) (fun _=>rfl)
   ·exfalso;have h9:((strG f).length:Int)=(strG g).length:=by simpa using h1
    omega
  rw[if_pos hl]
  have hch:=r_changed f g hf (by omega) [] v0 5000 t (by omega) (by omega) hgd
  have ht:(f++g).all nmOk=true->SC Tryz.prog 49 [(t.mp (chT f g [] v0)).ng] [] (.val (.tup [.s (toldR (t.mp (chT f g [] v0))).1,.i .i64 (toldR (t.mp (chT f g [] v0))).2])) []:=fun ha=>by
   refine r_told _ ?_ (by rw[mp_size];omega)
   rw[chT_r f g hgd]
   exact mp_good (fun _=>ren_good ha hl) hgd
  have hw:=wsC_cl f g [] v0
  generalize t.mp (chT f g [] v0)=u at*
  have huc:=u.ng_cl
  generalize hq:toldR u=q at*
  obtain⟨w,e⟩:=q
  obtain⟨k,kids,A,B,op,yes,hng⟩:=ng_form t
  obtain⟨k2,kids2,A2,B2,op2,yes2,hng2⟩:=ng_form u
  unfold wsC at hch hw
  rw[hng] at hr hrc hch htc
  rw[hng2] at hch ht huc
  have hbc:ClL (ndc k kids A B op yes):=fun e=>by
   have:=htc e
   exact GV.agg.inj this
  generalize hG:(if(f++g).all nmOk=true then(w,e) else(([]:By),(1:Int)))=G
  have hno:(f++g).all nmOk=false->G=([],1):=fun h=>by rw[<-hG,h];rfl
  have hyes:(f++g).all nmOk=true->G=(w,e):=fun h=>by rw[<-hG,h];rfl
  clear hG
  refine SC.of_gwp noM mixed Tryz.func34 rfl (Nat.le_of_ble_eq_true rfl) (by first|exact Nat.le_refl _|simp) rfl ?_
  conv=>whnf
  refine callP hr (Wks.refl _) rfl (fun _=>rfl) hrc ?_
  conv=>whnf
  repeat (refine⟨_,⟨rfl,Nat.zero_le _,rfl,Nat.le_of_ble_eq_true rfl⟩,?_⟩;conv=>whnf)
  refine GIf.mk (fun h1=>?_) (fun h1=>?_)<;>conv=>whnf
  ·exfalso;have h9:¬((strG f).length:Int)=(strG g).length:=by simpa using h1
   omega
  refine GLoop.introS (fun i:Nat=>i<=f.length/\∀j<i,∀x y,f[j]?=some x->g[j]?=some y->nmOk x=true/\nmOk y=true) (fun i=>[(1,.sl .none (strG f)),(2,.sl .none (strG g)),(8,.ptr 0 0),(10,.i .i64 (i:Nat))]) (fun i=>⟨[.box 69 (ndc k kids A B op yes)],0,[]⟩) (fun i=>f.length - i) 0 ⟨Nat.zero_le _,fun j h=>absurd h (Nat.not_lt_zero j)⟩ ⟨rfl,rfl,rfl,rfl,trivial⟩ rfl (fun _ _=>Nat.le_refl _) (fun _ _=>rfl) (fun i _ e he=>?_) (fun i φ0 hi=>?_)
  ·refine⟨?_,rfl,?_⟩
   ·show[(GObj.box _ (ndc k kids A B op yes)).ren e]=_
    rw[GObj.box_cl hbc e]
   ·show[(GV.sl .none (strG f)).ren e,(GV.sl .none (strG g)).ren e,GV.ptr (e 0) 0,_]=_
    rw[he 0 (by simp),Cl.sl (strG_cl f) e,Cl.sl (strG_cl g) e];rfl
  obtain⟨hi,hall⟩:=hi
  conv=>whnf
  refine GIf.mk (fun h=>?_) (fun h=>?_)<;>conv=>whnf
  rotate_left
  ·have hie:i=f.length:=by have:=of_decide_eq_false h;omega
   have ha:(f++g).all nmOk=true:=pairs_end hl (fun j x y hx hy=>hall j (by rw[hie];exact(List.getElem?_eq_some_iff.1 hx).1) x y hx hy)
   rw[hyes ha]
   have ht:=ht ha
   refine callP hch (Wks.refl _) rfl (ClL.cons htc hw) huc ?_
   conv=>whnf
   refine callP ht (Wks.refl _) rfl (ClL.cons huc .nil) (fun _=>rfl) ?_
   conv=>whnf
   exact owes_wk (.refl _) (fun _=>rfl)
  have hlt:i<f.length:=by have:=of_decide_eq_true h;omega
  obtain⟨x,hxx⟩:∃x,f[i]?=some x:=⟨f[i],List.getElem?_eq_getElem hlt⟩
  obtain⟨y,hyy⟩:∃y,g[i]?=some y:=⟨g[i]'(by omega),List.getElem?_eq_getElem (by omega)⟩
  have hxa:=strG_at hxx
  have hya:=strG_at hyy
  have hn1:=pairs_no hxx hyy
  have r1:=r_Name x
  have r2:=r_kept x
  have r3:=r_Name y
  have r4:=r_kept y
  refine⟨Int.natCast_nonneg _,_,hxa,rfl,?_⟩
  conv=>whnf
  have bad:(nmOk x=false∨nmOk y=false)->G=([],1):=fun h=>hno (hn1 h)
  unfold nmOk at bad
  have good:(isName x&&!kept.contains x)=true->(isName y&&!kept.contains y)=true->f.length - (i+1)<f.length - i/\(i+1<=f.length/\∀j<i+1,∀x y,f[j]?=some x->g[j]?=some y->nmOk x=true/\nmOk y=true):=fun h1 h2=>⟨by omega,hlt,fun j hj a b ha hb=>by
   rcases Nat.lt_succ_iff_lt_or_eq.1 hj with q|q
   ·exact hall j q a b ha hb
   ·subst q
    rw[hxx] at ha;rw[hyy] at hb
    cases ha;cases hb
    exact⟨h1,h2⟩⟩
  cases b1:isName x with
  |false=>
   rw[b1] at r1 bad
   rw[bad (.inl rfl)]
   refine callP r1 (Wks.refl _) rfl (fun _=>rfl) (.b _) ?_
   conv=>whnf
   exact owes_wk (.refl _) (fun _=>rfl)
  |true=>
  rw[b1] at r1 bad good
  refine callP r1 (Wks.refl _) rfl (fun _=>rfl) (.b _) ?_
  conv=>whnf
  refine⟨Int.natCast_nonneg _,_,hxa,rfl,?_⟩
  conv=>whnf
  cases b2:kept.contains x with
  |true=>
   rw[b2] at r2 bad
   rw[bad (.inl rfl)]
   refine callP r2 (Wks.refl _) rfl (fun _=>rfl) (.b _) ?_
   conv=>whnf
   exact owes_wk (.refl _) (fun _=>rfl)
  |false=>
  rw[b2] at r2 bad good
  refine callP r2 (Wks.refl _) rfl (fun _=>rfl) (.b _) ?_
  conv=>whnf
  refine⟨Int.natCast_nonneg _,_,hya,rfl,?_⟩
  conv=>whnf
  cases b3:isName y with
  |false=>
   rw[b3] at r3 bad
   rw[bad (.inr rfl)]
   refine callP r3 (Wks.refl _) rfl (fun _=>rfl) (.b _) ?_
   conv=>whnf
   exact owes_wk (.refl _) (fun _=>rfl)
  |true=>
  rw[b3] at r3 bad good
  refine callP r3 (Wks.refl _) rfl (fun _=>rfl) (.b _) ?_
  conv=>whnf
  refine⟨Int.natCast_nonneg _,_,hya,rfl,?_⟩
  conv=>whnf
  cases b4:kept.contains y with
  |true=>
   rw[b4] at r4 bad
   rw[bad (.inr rfl)]
   refine callP r4 (Wks.refl _) rfl (fun _=>rfl) (.b _) ?_
   conv=>whnf
   exact owes_wk (.refl _) (fun _=>rfl)
  |false=>
  rw[b4] at r4 good
  obtain⟨g1,g2⟩:=good rfl rfl
  refine callP r4 (Wks.refl _) rfl (fun _=>rfl) (.b _) ?_
  conv=>whnf
  exact⟨f.length - (i+1),g1,i+1,g2,rfl,⟨rfl,rfl,rfl,wrap_succ (by omega),trivial⟩,[],rfl,rfl⟩
end Go.Proofs.YtlhabmglchgdnaaGreatDoor
namespace Go.Proofs.YtlhabmglchgdnaaGreatDoor
open Go.RowKit
set_option linter.unusedSectionVars false
variable [Globals]
set_option linter.unusedVariables false
def Free (g:GV):Prop:=∀(A B:Cx) (u:Value),VR A g u->VR B g u
theorem Free.s (l:List UInt8):Free (.s l):=fun A B u h=>by cases h;exact .s _
theorem Free.i (k:IntKind) (n:Int):Free (.i k n):=fun A B u h=>by cases h;exact .i _ _
theorem VRs.free {A B:Cx} {gs:List GV} {us:List Value} (hf:∀g∈gs,Free g) (h:VRs A gs us):VRs B gs us:=⟨h.1,fun j g u g1 g2=>hf g (List.mem_of_getElem? g1) A B u (h.2 j g u g1 g2)⟩
theorem Rel.freeze {C D:Cx} {s:List GObj} {w w':World} {T:TypeId} {cs xs:List GV} {esz:Nat} (hC:∀r,s.length<=r->C.bk r=none/\C.own r=none) (hl:C.le D) (h:Rel D ⟨s++[.box T cs],0,[]⟩ w w') (hs:∀x∈s,∃T cs,x=.box T cs/\∀g∈cs,Free g)
  (hcs:cs=flat xs) (hw:∀x∈xs,x.cells.length=esz) (hcl:∀g∈cs,Free g):
  ∃E:Cx,C.le E/\Rel E ⟨s,0,[]⟩ w w'/\∀(n c:Nat) (v:Value),n=xs.length->VR D (.rs s.length 0 esz n c) v->0<esz->VR E (.sl .none xs) v:=by
 obtain⟨h0,b,vs,h1,h2,h3,_⟩:=h.obj s.length (.box T cs) (by simp)
 have hd:∀r,s.length<r->D.bk r=none/\D.own r=none:=fun r hr=>h.dom r (by simp;omega)
 have hown:∀r,D.own r=none:=fun r=>by
  rcases Nat.lt_trichotomy r s.length with hr|hr|hr
  ·obtain⟨T',cs',e,_⟩:=hs s[r] (List.getElem_mem hr)
   have:=h.obj r s[r] (by simp[List.getElem?_append_left hr,List.getElem?_eq_getElem hr])
   rw[e] at this
   exact this.1
  ·subst hr;exact h0
  ·exact(hd r hr).2
 let E:Cx:={D with bk:=fun r=>if r=s.length then none else D.bk r,fx:=fun b' o v=>D.fx b' o v∨(b'=b/\vs[o]?=some v)}
 have hEb:∀r,r≠s.length->E.bk r=D.bk r:=fun r hr=>if_neg hr
 have hE0:E.bk s.length=none:=if_pos rfl
 have hblk:∀r b',blkOf E r=some b'->r≠s.length/\D.bk r=some b':=fun r b' hb=>by
  by_cases hr:r=s.length
  ·exfalso
   have ho:E.own r=none:=hown r
   rw[hr] at hb ho
   simp[blkOf,hE0,ho] at hb
  ·refine⟨hr,?_⟩
   have ho:E.own r=none:=hown r
   unfold blkOf at hb
   rw[hEb r hr,ho] at hb
   cases hq:D.bk r with
   |none=>rw[hq] at hb;cases hb
   |some z=>rw[hq] at hb;exact hb
 refine⟨E,⟨fun _ _ _ x=>.inl (hl.fx _ _ _ x),fun r b' x=>?_,fun r I x=>hl.own r I x,hl.hd,hl.fix⟩,⟨h.below,fun b' o v hx=>?_,fun r x hx=>?_,fun r hr=>?_,fun r b' hb=>h.new r b' (blkOf_bk (hblk r b' hb).2),
  fun r r' b' hb hb'=>h.inj r r' b' (blkOf_bk (hblk r b' hb).2) (blkOf_bk (hblk r' b' hb').2),fun r b' o v hb hx=>?_,fun r I b' sz o v hI _ _=>?_,fun b' o v hx=>?_,
  fun g cs j x hg hj=>(h.gl g cs j x hg hj).imp fun u hu=>⟨.inl hu.1,fun F he=>hu.2 F fun _ _ _ hx=>he _ _ _ (.inl hx)⟩,h.gs⟩,fun n c v hn hv hp=>?_⟩
 ·have hr:r≠s.length:=fun e=>by subst e;rw[(hC _ (Nat.le_refl _)).1] at x;cases x
  rw[hEb r hr];exact hl.bk r b' x
 ·rcases hx with hx|⟨rfl,hx⟩
  ·exact h.fxc _ _ _ hx
  ·rw[cell_of_row w' _ o vs T (0,0) h2];exact hx
 ·have hr:r<s.length:=(List.getElem?_eq_some_iff.1 hx).1
  obtain⟨T',cs',rfl,hf⟩:=hs x (List.mem_of_getElem? hx)
  obtain⟨g0,b',vs',g1,g2,g3⟩:=h.obj r (.box T' cs') (by rw[List.getElem?_append_left hr];exact hx)
  exact⟨g0,b',vs',(hEb r (by omega)).trans g1,g2,g3.1.free hf,g3.2⟩
 ·refine⟨?_,hown r⟩
  have hr:s.length<=r:=hr
  by_cases e:r=s.length
  ·rw[e];exact hE0
  ·rw[hEb r e];exact(hd r (by omega)).1
 ·have hr:r≠s.length:=fun e=>by rw[e,hE0] at hb;cases hb
  rw[hEb r hr] at hb
  rcases hx with hx|⟨rfl,hx⟩
  ·exact h.sepB r _ _ _ hb hx
  ·exact hr (h.inj r s.length _ (blkOf_bk hb) (blkOf_bk h1))
 ·have ho:E.own r=none:=hown r
  rw[ho] at hI;cases hI
 ·rcases hx with hx|⟨rfl,hx⟩
  ·exact h.fxn _ _ _ hx
  ·exact .inr (h.new s.length _ (blkOf_bk h1))
 ·have h4:VRs E cs (vs.toList.take cs.length):=h3.free hcl
  rw[hcs] at h4
  cases hv with
  |rp hb=>omega
  |rs hb hc _=>
   rw[h1] at hb;cases hb
   subst hn
   refine sl_of hw h4 (fun j u hj=>?_) hc trivial
   rw[Nat.zero_add]
   refine .inr ⟨rfl,?_⟩
   rw[List.getElem?_take] at hj
   split at hj
   ·rw[Array.getElem?_toList] at hj;exact hj
   ·cases hj
theorem SC.freezeT {P:Program} {k:FuncId} {args:List GV} {s:List GObj} {T:TypeId} {cs xs:List GV} {esz n c:Nat} {ik:IntKind} {e:Int} (h:SC P k args s (.val (.tup [.rs s.length 0 esz n c,.i ik e])) (s++[.box T cs]))
  (hs:∀x∈s,∃T cs,x=.box T cs/\∀g∈cs,Free g) (hp:0<esz) (hcs:cs=flat xs) (hn:n=xs.length)
  (hw:∀x∈xs,x.cells.length=esz) (hcl:∀g∈cs,Free g):SC P k args s (.val (.tup [.sl .none xs,.i ik e])) s:=by
 refine⟨Nat.le_refl _,fun C w vs hr hv=>?_,fun x hx=>h.noheld x (by simp[hx])⟩
 refine(h.calls C w vs hr hv).mono fun en w' ⟨D,hl,hrD,he⟩=>?_
 obtain⟨E,hlE,hrE,hv2⟩:=Rel.freeze (fun r=>hr.dom r) hl hrD hs hcs hw hcl
 refine⟨E,hlE,hrE,?_⟩
 obtain⟨v,rfl,hv3⟩:=he
 cases hv3 with
 |tup hs hvv=>
 rename_i us
 refine⟨_,rfl,.tup hs fun j g u h1 h2=>?_⟩
 rcases j with _|_|j
 ·simp at h1;subst h1
  exact hv2 n c u hn (hvv 0 _ u rfl h2) hp
 ·simp at h1;subst h1
  have:=hvv 1 _ u rfl h2
  cases this
  exact .i _ _
 ·simp at h1
end Go.Proofs.YtlhabmglchgdnaaGreatDoor
