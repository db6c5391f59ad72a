/-
  A part of the proof of SchemaLess.
-/
import Derived.Test.YtcfgfkkhpdlhpaaGreatDoorQ29
import Derived.Test.YtcfgfkkhpdlhpaaGreatDoorQ23
set_option linter.all false
namespace Go.Proofs.YtcfgfkkhpdlhpaaGreatDoor
open Go.RowKit
set_option maxRecDepth 100000
set_option linter.unusedVariables false
def nibN (c:UInt8):Option Nat:=if 48<=c.toNat/\c.toNat<=57 then some (c.toNat - 48) else if 97<=c.toNat/\c.toNat<=102 then some (c.toNat - 87) else none
def rq:List UInt8->Option (List UInt8×List UInt8)
 |[]=>none
 |c::r=>if c=34 then some ([],r) else if c.toNat<32∨126<c.toNat then none else if c=92 then(match r with
   |[]=>none
   |e::r1=>if e=34∨e=92 then(rq r1).map fun p=>(e::p.1,p.2) else if e=120 then(match r1 with
     |a::b::r2=>(match nibN a with
      |some x=>(match nibN b with
       |some y=>if 32<=16*x+y/\16*x+y<=126 then none else(rq r2).map fun p=>(UInt8.ofNat (16*x+y)::p.1,p.2)
       |none=>none)
      |none=>none)
     |_=>none) else none)
  else(rq r).map fun p=>(c::p.1,p.2)
theorem rq_nil:rq []=none:=rfl
theorem rq_34 (r:List UInt8):rq (34::r)=some ([],r):=by
 conv=>lhs;unfold rq
 rfl
theorem rq_bad {c:UInt8} (h:c≠34) (h':c.toNat<32∨126<c.toNat) (r:List UInt8):rq (c::r)=none:=by
 conv=>lhs;unfold rq
 rw[if_neg h,if_pos h']
theorem rq_c {c:UInt8} (h:c≠34) (h':¬(c.toNat<32∨126<c.toNat)) (h'':c≠92) (r:List UInt8):rq (c::r)=(rq r).map fun p=>(c::p.1,p.2):=by
 conv=>lhs;unfold rq
 rw[if_neg h,if_neg h',if_neg h'']
theorem rq_esc {e:UInt8} (h:e=34∨e=92) (r:List UInt8):rq (92::e::r)=(rq r).map fun p=>(e::p.1,p.2):=by
 conv=>lhs;unfold rq
 rw[if_neg (by decide),if_neg (by decide),if_pos rfl]
 show(if e=34∨e=92 then _ else _)=_
 rw[if_pos h]
theorem rq_x (a b:UInt8) (r:List UInt8):rq (92::120::a::b::r)=match nibN a with
  |some x=>(match nibN b with
   |some y=>if 32<=16*x+y/\16*x+y<=126 then none else(rq r).map fun p=>(UInt8.ofNat (16*x+y)::p.1,p.2)
   |none=>none)
  |none=>none:=by
 conv=>lhs;unfold rq
 rfl
theorem rq_none {r:List UInt8} (h:∀e r1,r=e::r1->¬(e=34∨e=92)/\(e=120->∀a b r2,r1≠a::b::r2)):rq (92::r)=none:=by
 conv=>lhs;unfold rq
 rw[if_neg (by decide),if_neg (by decide),if_pos rfl]
 cases r with
 |nil=>rfl
 |cons e r1=>
  obtain⟨h1,h2⟩:=h e r1 rfl
  show(if e=34∨e=92 then _ else _)=_
  rw[if_neg h1]
  by_cases h3:e=120
  ·rw[if_pos h3]
   rcases r1 with _|⟨a,_|⟨b,r2⟩⟩
   ·rfl
   ·rfl
   ·exact absurd rfl (h2 h3 a b r2)
  ·rw[if_neg h3]
theorem nibN_lt {c:UInt8} {n:Nat} (h:nibN c=some n):n<16:=by
 unfold nibN at h
 split at h
 ·cases h;omega
 ·split at h
  ·cases h;omega
  ·cases h
theorem nib_eq (c:UInt8):nibS c=match nibN c with|some n=>(n:Int)|none=> -1:=by
 unfold nibS nibN
 split
 ·simp;omega
 ·split
  ·simp;omega
  ·rfl
def qres (n k:Nat):Option (List UInt8×List UInt8)->List UInt8×Nat
 |some (t,r)=>(t,n - r.length - k)
 |none=>([],0)
def quoteS (s:List UInt8) (k:Nat):List UInt8×Nat:=if s[k]?=some 34 then qres s.length k (rq (s.drop (k+1))) else([],0)
set_option maxHeartbeats 2000000 in
theorem r_Quote [MaxL] (s:List UInt8) (hs:s.length<1000000) (k:Nat) (hk:k<=s.length):SC Tryz.prog 266 [.s s,.i .i64 (k:Nat)] [] (.val (.tup [.s (quoteS s k).1,.i .i64 ((quoteS s k).2:Nat)])) []:=by
 obtain⟨O,hO0⟩:∃O,O=quoteS s k:=⟨_,rfl⟩
 rw[<-hO0]
 unfold quoteS at hO0
 refine gwS Tryz.func266 rfl ?_
 conv=>whnf
 refine GIf.mk (fun h1=>?_) (fun h1=>?_)
 ·have h1':s.length<=k:=by have:=of_decide_eq_true h1;omega
  rw[if_neg (by rw[List.getElem?_eq_none h1'];simp)] at hO0
  cases hO0
  conv=>whnf
  exact owes_wk (.refl _) (fun _=>rfl)
 have h1':k<s.length:=by have:=of_decide_eq_false h1;omega
 have hgk:s[k]?=some (s.getD k 0):=by rw[List.getD_eq_getElem?_getD,gL h1'];rfl
 generalize s.getD k 0=c0 at*
 conv=>whnf
 refine GNeed.mk (cN _) ⟨c0,by rw[Int.toNat_natCast];exact hgk,?_⟩
 conv=>whnf
 refine GIf.mk (fun h34=>?_) (fun h34=>?_)<;>conv=>whnf
 ·have:=u8n_ne (d:=34) h34
  rw[if_neg (by rw[hgk];intro h;exact this (Option.some.inj h))] at hO0
  cases hO0
  exact owes_wk (.refl _) (fun _=>rfl)
 have h34':=u8n_eq (d:=34) h34
 rw[if_pos (by rw[hgk,h34'])] at hO0
 generalize hR:rq (s.drop (k+1))=R at hO0
 have hO:O=qres s.length k R:=hO0
 clear hO0 h34 h34' hgk h1
 refine GLoop.introS (fun q:Nat×List UInt8=>k<q.1/\q.1<=s.length/\q.2.length<=q.1/\(rq (s.drop q.1)).map (fun p=>(q.2++p.1,p.2))=R)
  (fun q=>[(0,.s s),(1,.i .i64 (k:Nat)),(6,.sl (.own 0) (byG q.2)),(7,.i .i64 (q.1:Nat))]) (fun q=>⟨[ow 5 1 q.2.length],0,[]⟩) (fun q=>s.length - q.1) (k+1,[]) ⟨by omega,by omega,by simp,?_⟩ ⟨rfl,rfl,rfl,wrap_succ (by omega),trivial⟩ rfl (fun _ _=>rL _) (fun q _=>by simp only[List.all_cons,ow_held];rfl) (fun q _ e he=>?_) (fun q φ0 hq=>?_)
 ·rw[<-hR];show Option.map _ (rq (s.drop (k+1)))=_;cases rq (s.drop (k+1))<;>rfl
 ·refine⟨by simp[ow_ren],rfl,?_⟩
  show[_,_,(GV.sl (.own 0) (byG q.2)).ren e,_]=_
  rw[ren_own (he 0 (by simp)) (l:=byG q.2) (ClL.mapOf (fun _=>Cl.i _ _) _)];rfl
 obtain⟨i,out⟩:=q
 obtain⟨hik,hi,hol,hq⟩:=hq
 replace hik:k<i:=hik
 replace hi:i<=s.length:=hi
 replace hol:out.length<=i:=hol
 replace hq:(rq (s.drop i)).map (fun p=>(out++p.1,p.2))=R:=hq
 conv=>whnf
 refine GIf.mk (fun h1=>?_) (fun h1=>?_)
 rotate_left
 ·have hie:i=s.length:=by have:=of_decide_eq_false h1;omega
  subst hie
  conv=>whnf
  refine GIf.mk (fun h2=>?_) (fun h2=>?_)<;>conv=>whnf
  ·have hr:O=([],0):=hO.trans (by rw[<-hq,List.drop_of_length_le (rL _),rq_nil];rfl)
   cases hr
   exact owes_wk (.refl _) (fun _=>rfl)
  ·exfalso;have:=of_decide_eq_false h2;omega
 have hlt:i<s.length:=by have:=of_decide_eq_true h1;omega
 have hgi:s[i]?=some (s.getD i 0):=by rw[List.getD_eq_getElem?_getD,gL hlt];rfl
 have hd:s.drop i=s.getD i 0::s.drop (i+1):=by
  rw[List.drop_eq_getElem_cons hlt,List.getD_eq_getElem?_getD,gL hlt];rfl
 generalize s.getD i 0=c at*
 have hgi':s[((i:Nat):Int).toNat]?=some c:=by rw[Int.toNat_natCast];exact hgi
 rw[hd] at hq
 conv=>whnf
 refine GNeed.mk (cN _) ⟨c,hgi',?_⟩
 conv=>whnf
 refine GIf.mk (fun h34=>?_) (fun h34=>?_)
 rotate_left
 ·have hc:=u8n_eq (d:=34) h34
  rw[hc,rq_34] at hq
  conv=>whnf
  refine GIf.mk (fun h2=>?_) (fun h2=>?_)<;>conv=>whnf
  ·exfalso;have:=of_decide_eq_true h2;omega
  have hr:O=(out,i+1 - k):=hO.trans (by
   rw[<-hq]
   show(out++[],s.length - (s.drop (i+1)).length - k)=_
   rw[List.append_nil,List.length_drop]
   congr 1;omega)
  cases hr
  refine⟨out,gbytes_by out,?_⟩
  conv=>whnf
  refine owes_wk (Wk.of_eq ?_) (Cl.tup (.cons (.s _) (.cons (.i _ _) .nil)))
  show GV.tup [.s out,.i .i64 (IntKind.i64.wrap (IntKind.i64.wrap ((i:Int)+1) - (k:Int)))]=.tup [.s out,.i .i64 ((i+1 - k:Nat):Int)]
  rw[wrap_in (n:=(i:Int)+1) (by omega) (by omega),wrap_in (by omega) (by omega)]
  have h:(i:Int)+1 - (k:Int)=((i+1 - k:Nat):Int):=by omega
  rw[h]
 have hc34:=u8n_ne (d:=34) h34
 conv=>whnf
 refine GNeed.mk (cN _) ⟨c,hgi',?_⟩
 conv=>whnf
 refine GIf.mk (fun hl32=>?_) (fun hl32=>?_)<;>conv=>whnf
 ·have:=of_decide_eq_true hl32
  have hr:O=([],0):=hO.trans (by rw[<-hq,rq_bad hc34 (.inl (by omega))];rfl)
  cases hr
  exact owes_wk (.refl _) (fun _=>rfl)
 refine GIf.mk (fun hg126=>?_) (fun hg126=>?_)<;>conv=>whnf
 ·have:=of_decide_eq_true hg126
  have hr:O=([],0):=hO.trans (by rw[<-hq,rq_bad hc34 (.inr (by omega))];rfl)
  cases hr
  exact owes_wk (.refl _) (fun _=>rfl)
 have hpr:¬(c.toNat<32∨126<c.toNat):=by have h8:=of_decide_eq_false hl32;have h9:=of_decide_eq_false hg126;omega
 clear hl32 hg126
 refine GIf.mk (fun h92=>?_) (fun h92=>?_)<;>conv=>whnf
 ·have hc92:=u8n_ne (d:=92) h92
  rw[rq_c hc34 hpr hc92] at hq
  cases out with
  |nil=>
   refine⟨⟨rfl,byG_ok _,by show(byG ([]:List UInt8)).length+1<=4294967296;rw[byG_len];omega⟩,byG (([]:List UInt8)++[c]),(([]:List UInt8)++[c]).length,⟨by simp[byG];rfl,by show _=(byG ([]:List UInt8)).length+1;rw[byG_len];simp⟩,?_⟩
   conv=>whnf
   refine⟨⟨zL _,by first|rfl|(rw[byG_len];rfl)|(rw[byG_len];simp),by first|exact .inr ⟨rfl,rfl⟩|exact .inl ⟨rfl,rfl⟩⟩,?_⟩
   conv=>whnf
   exact⟨s.length - (i+1),(by show _<s.length - i;omega),(i+1,([]:List UInt8)++[c]),⟨by show k<i+1;omega,by show i+1<=_;omega,(by show(_:List UInt8).length<=i+1;simp only[List.length_append,List.length_cons,List.length_nil] at hol⊢;omega),by
    rw[<-hq]
    show Option.map _ (rq (s.drop (i+1)))=_
    simp[Function.comp_def]⟩,rfl,⟨rfl,rfl,rfl,wrap_succ (by omega),trivial⟩,_,rfl,rfl⟩
  |cons z out=>
   refine⟨⟨rfl,byG_ok _,by show(byG (z::out)).length+1<=4294967296;rw[byG_len];omega⟩,byG ((z::out)++[c]),((z::out)++[c]).length,⟨by simp[byG];rfl,by show _=(byG (z::out)).length+1;rw[byG_len];simp⟩,?_⟩
   conv=>whnf
   refine⟨⟨zL _,by first|rfl|(rw[byG_len];rfl)|(rw[byG_len];simp),by first|exact .inr ⟨rfl,rfl⟩|exact .inl ⟨rfl,rfl⟩⟩,?_⟩
   conv=>whnf
   exact⟨s.length - (i+1),(by show _<s.length - i;omega),(i+1,(z::out)++[c]),⟨by show k<i+1;omega,by show i+1<=_;omega,(by show(_:List UInt8).length<=i+1;simp only[List.length_append,List.length_cons,List.length_nil] at hol⊢;omega),by
    rw[<-hq]
    show Option.map _ (rq (s.drop (i+1)))=_
    simp[Function.comp_def]⟩,rfl,⟨rfl,rfl,rfl,wrap_succ (by omega),trivial⟩,_,rfl,rfl⟩
 have hc92:=u8n_eq (d:=92) h92
 subst hc92
 clear h92 hgi' hd hgi
 have w1:IntKind.i64.wrap ((i:Int)+1)=((i+1:Nat):Int):=by rw[wrap_in (by omega) (by omega)];rfl
 have w2:IntKind.i64.wrap ((i:Int)+2)=((i+2:Nat):Int):=by rw[wrap_in (by omega) (by omega)];rfl
 have w3:IntKind.i64.wrap ((i:Int)+3)=((i+3:Nat):Int):=by rw[wrap_in (by omega) (by omega)];rfl
 have w4:IntKind.i64.wrap ((i:Int)+4)=((i+4:Nat):Int):=by rw[wrap_in (by omega) (by omega)];rfl
 refine GIf.mk (fun e1=>?_) (fun e1=>?_)<;>conv=>whnf
 rotate_left
 ·have hl1:s.length<=i+1:=by have:=of_decide_eq_false e1;rw[w1] at this;omega
  have hn:s.drop (i+1)=[]:=List.drop_of_length_le hl1
  refine GIf.mk (fun e3=>?_) (fun e3=>?_)<;>conv=>whnf
  ·exfalso;have:=of_decide_eq_true e3;rw[w3] at this;omega
  have hr:O=([],0):=hO.trans (by rw[<-hq,hn,rq_none (fun e r1 h=>by cases h)];rfl)
  cases hr
  exact owes_wk (.refl _) (fun _=>rfl)
 have hl1:i+1<s.length:=by have:=of_decide_eq_true e1;rw[w1] at this;omega
 have hge:s[i+1]?=some (s.getD (i+1) 0):=by rw[List.getD_eq_getElem?_getD,gL hl1];rfl
 have hd1:s.drop (i+1)=s.getD (i+1) 0::s.drop (i+2):=by
  rw[List.drop_eq_getElem_cons hl1,List.getD_eq_getElem?_getD,gL hl1];rfl
 generalize s.getD (i+1) 0=e at*
 rw[hd1] at hq
 have ge1:s[(IntKind.i64.wrap ((i:Int)+1)).toNat]?=some e:=by rw[w1,Int.toNat_natCast];exact hge
 have gp1:0<=IntKind.i64.wrap ((i:Int)+1):=by rw[w1];exact cN _
 refine GNeed.mk gp1 ⟨e,ge1,?_⟩
 conv=>whnf
 refine GIf.mk (fun e34=>?_) (fun e34=>?_)<;>conv=>whnf
 ·have he:=u8_eq (d:=34) e34
  rw[rq_esc (.inl he)] at hq
  refine GNeed.mk gp1 ⟨e,ge1,?_⟩
  conv=>whnf
  cases out with
  |nil=>
   refine⟨⟨rfl,byG_ok _,by show(byG ([]:List UInt8)).length+1<=4294967296;rw[byG_len];omega⟩,byG (([]:List UInt8)++[e]),(([]:List UInt8)++[e]).length,⟨by simp[byG];rfl,by show _=(byG ([]:List UInt8)).length+1;rw[byG_len];simp⟩,?_⟩
   conv=>whnf
   refine⟨⟨zL _,by first|rfl|(rw[byG_len];rfl)|(rw[byG_len];simp),by first|exact .inr ⟨rfl,rfl⟩|exact .inl ⟨rfl,rfl⟩⟩,?_⟩
   conv=>whnf
   exact⟨s.length - (i+2),(by show _<s.length - i;omega),(i+2,([]:List UInt8)++[e]),⟨by show k<i+2;omega,by show i+2<=_;omega,(by show(_:List UInt8).length<=i+2;simp only[List.length_append,List.length_cons,List.length_nil] at hol⊢;omega),by
    rw[<-hq]
    show Option.map _ (rq (s.drop (i+2)))=_
    simp[Function.comp_def]⟩,rfl,⟨rfl,rfl,rfl,(by show GV.i .i64 (IntKind.i64.wrap ((i:Int)+2))=_;rw[w2]),trivial⟩,_,rfl,rfl⟩
  |cons z out=>
   refine⟨⟨rfl,byG_ok _,by show(byG (z::out)).length+1<=4294967296;rw[byG_len];omega⟩,byG ((z::out)++[e]),((z::out)++[e]).length,⟨by simp[byG];rfl,by show _=(byG (z::out)).length+1;rw[byG_len];simp⟩,?_⟩
   conv=>whnf
   refine⟨⟨zL _,by first|rfl|(rw[byG_len];rfl)|(rw[byG_len];simp),by first|exact .inr ⟨rfl,rfl⟩|exact .inl ⟨rfl,rfl⟩⟩,?_⟩
   conv=>whnf
   exact⟨s.length - (i+2),(by show _<s.length - i;omega),(i+2,(z::out)++[e]),⟨by show k<i+2;omega,by show i+2<=_;omega,(by show(_:List UInt8).length<=i+2;simp only[List.length_append,List.length_cons,List.length_nil] at hol⊢;omega),by
    rw[<-hq]
    show Option.map _ (rq (s.drop (i+2)))=_
    simp[Function.comp_def]⟩,rfl,⟨rfl,rfl,rfl,(by show GV.i .i64 (IntKind.i64.wrap ((i:Int)+2))=_;rw[w2]),trivial⟩,_,rfl,rfl⟩
 have he34:=u8_ne (d:=34) e34
 refine GNeed.mk gp1 ⟨e,ge1,?_⟩
 conv=>whnf
 refine GIf.mk (fun e92=>?_) (fun e92=>?_)<;>conv=>whnf
 ·have he:=u8_eq (d:=92) e92
  rw[rq_esc (.inr he)] at hq
  refine GNeed.mk gp1 ⟨e,ge1,?_⟩
  conv=>whnf
  cases out with
  |nil=>
   refine⟨⟨rfl,byG_ok _,by show(byG ([]:List UInt8)).length+1<=4294967296;rw[byG_len];omega⟩,byG (([]:List UInt8)++[e]),(([]:List UInt8)++[e]).length,⟨by simp[byG];rfl,by show _=(byG ([]:List UInt8)).length+1;rw[byG_len];simp⟩,?_⟩
   conv=>whnf
   refine⟨⟨zL _,by first|rfl|(rw[byG_len];rfl)|(rw[byG_len];simp),by first|exact .inr ⟨rfl,rfl⟩|exact .inl ⟨rfl,rfl⟩⟩,?_⟩
   conv=>whnf
   exact⟨s.length - (i+2),(by show _<s.length - i;omega),(i+2,([]:List UInt8)++[e]),⟨by show k<i+2;omega,by show i+2<=_;omega,(by show(_:List UInt8).length<=i+2;simp only[List.length_append,List.length_cons,List.length_nil] at hol⊢;omega),by
    rw[<-hq]
    show Option.map _ (rq (s.drop (i+2)))=_
    simp[Function.comp_def]⟩,rfl,⟨rfl,rfl,rfl,(by show GV.i .i64 (IntKind.i64.wrap ((i:Int)+2))=_;rw[w2]),trivial⟩,_,rfl,rfl⟩
  |cons z out=>
   refine⟨⟨rfl,byG_ok _,by show(byG (z::out)).length+1<=4294967296;rw[byG_len];omega⟩,byG ((z::out)++[e]),((z::out)++[e]).length,⟨by simp[byG];rfl,by show _=(byG (z::out)).length+1;rw[byG_len];simp⟩,?_⟩
   conv=>whnf
   refine⟨⟨zL _,by first|rfl|(rw[byG_len];rfl)|(rw[byG_len];simp),by first|exact .inr ⟨rfl,rfl⟩|exact .inl ⟨rfl,rfl⟩⟩,?_⟩
   conv=>whnf
   exact⟨s.length - (i+2),(by show _<s.length - i;omega),(i+2,(z::out)++[e]),⟨by show k<i+2;omega,by show i+2<=_;omega,(by show(_:List UInt8).length<=i+2;simp only[List.length_append,List.length_cons,List.length_nil] at hol⊢;omega),by
    rw[<-hq]
    show Option.map _ (rq (s.drop (i+2)))=_
    simp[Function.comp_def]⟩,rfl,⟨rfl,rfl,rfl,(by show GV.i .i64 (IntKind.i64.wrap ((i:Int)+2))=_;rw[w2]),trivial⟩,_,rfl,rfl⟩
 have he92:=u8_ne (d:=92) e92
 refine GIf.mk (fun e3=>?_) (fun e3=>?_)<;>conv=>whnf
 rotate_left
 ·have hl3:s.length<=i+3:=by have:=of_decide_eq_false e3;rw[w3] at this;omega
  have hsh:(s.drop (i+2)).length<=1:=by rw[List.length_drop];omega
  have hr:O=([],0):=hO.trans (by rw[<-hq,rq_none (fun e0 r1 h=>by cases h;exact⟨fun h=>h.elim he34 he92,fun _ a b r2 h=>by rw[h] at hsh;simp at hsh⟩)];rfl)
  cases hr
  exact owes_wk (.refl _) (fun _=>rfl)
 have hl3:i+3<s.length:=by have:=of_decide_eq_true e3;rw[w3] at this;omega
 refine GNeed.mk gp1 ⟨e,ge1,?_⟩
 conv=>whnf
 refine GIf.mk (fun e120=>?_) (fun e120=>?_)<;>conv=>whnf
 rotate_left
 ·have he120:=u8_ne (d:=120) e120
  have hr:O=([],0):=hO.trans (by rw[<-hq,rq_none (fun e0 r1 h=>by cases h;exact⟨fun h=>h.elim he34 he92,fun h=>absurd h he120⟩)];rfl)
  cases hr
  exact owes_wk (.refl _) (fun _=>rfl)
 have he120:=u8_eq (d:=120) e120
 obtain⟨a,b,hab,ha,hb⟩:∃a b,s.drop (i+2)=a::b::s.drop (i+4)/\s[i+2]?=some a/\s[i+3]?=some b:=
  ⟨s[i+2],s[i+3],by rw[List.drop_eq_getElem_cons (by omega),List.drop_eq_getElem_cons (by omega)],gL _,gL _⟩
 rw[hab,he120,rq_x] at hq
 have ga:s[(IntKind.i64.wrap ((i:Int)+2)).toNat]?=some a:=by rw[w2,Int.toNat_natCast];exact ha
 have gb:s[(IntKind.i64.wrap ((i:Int)+3)).toNat]?=some b:=by rw[w3,Int.toNat_natCast];exact hb
 have gp2:0<=IntKind.i64.wrap ((i:Int)+2):=by rw[w2];exact cN _
 have gp3:0<=IntKind.i64.wrap ((i:Int)+3):=by rw[w3];exact cN _
 refine GNeed.mk gp2 ⟨a,ga,?_⟩
 conv=>whnf
 refine pcP (r_nibble a) ?_
 conv=>whnf
 refine GIf.mk (fun na=>?_) (fun na=>?_)<;>conv=>whnf
 rotate_left
 ·have hx:=of_decide_eq_false na
  rw[nib_eq] at hx
  have hxn:nibN a=none:=by
   cases h:nibN a with
   |none=>rfl
   |some x=>rw[h] at hx;simp at hx
  have hr:O=([],0):=hO.trans (by rw[<-hq,hxn];rfl)
  cases hr
  exact owes_wk (.refl _) (fun _=>rfl)
 obtain⟨x,hxn⟩:∃x,nibN a=some x:=by
  have hx:=of_decide_eq_true na
  rw[nib_eq] at hx
  cases h:nibN a with
  |none=>rw[h] at hx;simp at hx
  |some x=>exact⟨x,rfl⟩
 refine GNeed.mk gp3 ⟨b,gb,?_⟩
 conv=>whnf
 refine pcP (r_nibble b) ?_
 conv=>whnf
 refine GIf.mk (fun nb=>?_) (fun nb=>?_)<;>conv=>whnf
 rotate_left
 ·have hx:=of_decide_eq_false nb
  rw[nib_eq] at hx
  have hyn:nibN b=none:=by
   cases h:nibN b with
   |none=>rfl
   |some x=>rw[h] at hx;simp at hx
  have hr:O=([],0):=hO.trans (by rw[<-hq,hxn,hyn];rfl)
  cases hr
  exact owes_wk (.refl _) (fun _=>rfl)
 obtain⟨y,hyn⟩:∃y,nibN b=some y:=by
  have hx:=of_decide_eq_true nb
  rw[nib_eq] at hx
  cases h:nibN b with
  |none=>rw[h] at hx;simp at hx
  |some x=>exact⟨x,rfl⟩
 have hx16:=nibN_lt hxn
 have hy16:=nibN_lt hyn
 have sa:nibS a=(x:Int):=by rw[nib_eq,hxn]
 have sb:nibS b=(y:Int):=by rw[nib_eq,hyn]
 rw[hxn,hyn] at hq
 replace hq:Option.map (fun p=>(out++p.1,p.2)) (if 32<=16*x+y/\16*x+y<=126 then none else(rq (s.drop (i+4))).map fun p=>(UInt8.ofNat (16*x+y)::p.1,p.2))=R:=hq
 have hv:IntKind.i64.wrap (IntKind.i64.wrap (16*nibS a)+nibS b)=((16*x+y:Nat):Int):=by
  rw[sa,sb,wrap_in (n:=16*(x:Int)) (by omega) (by omega),wrap_in (by omega) (by omega)];omega
 have hV:IntKind.u8.wrap (IntKind.i64.wrap (IntKind.i64.wrap (16*nibS a)+nibS b))=((UInt8.ofNat (16*x+y)).toNat:Int):=by
  rw[hv,u8w,UInt8.toNat_ofNat'];omega
 refine GDraw.calm (by kernel_rfl) ?_
 conv=>whnf
 refine GNeed.mk gp2 ⟨a,ga,?_⟩
 conv=>whnf
 refine pcP (r_nibble a) ?_
 conv=>whnf
 refine GNeed.mk gp3 ⟨b,gb,?_⟩
 conv=>whnf
 refine pcP (r_nibble b) ?_
 conv=>whnf
 refine GIf.mk (fun g1=>?_) (fun g1=>?_)<;>conv=>whnf
 ·refine GIf.mk (fun g2=>?_) (fun g2=>?_)<;>conv=>whnf
  ·have g1':=of_decide_eq_true g1
   have g2':=of_decide_eq_true g2
   rw[hv] at g1' g2'
   have hr:O=([],0):=hO.trans (by rw[<-hq,if_pos ⟨by omega,by omega⟩];rfl)
   cases hr
   exact owes_wk (.refl _) (fun _=>rfl)
  have hn:¬(32<=16*x+y/\16*x+y<=126):=by have g2':=of_decide_eq_false g2;rw[hv] at g2';omega
  rw[if_neg hn] at hq
  cases out with
  |nil=>
   refine⟨⟨rfl,byG_ok _,by show(byG ([]:List UInt8)).length+1<=4294967296;rw[byG_len];omega⟩,byG (([]:List UInt8)++[UInt8.ofNat (16*x+y)]),(([]:List UInt8)++[UInt8.ofNat (16*x+y)]).length,⟨(by first|(rw[hV];simp[byG];done)|(rw[hV];simp[byG];rfl)),by show _=(byG ([]:List UInt8)).length+1;rw[byG_len];simp⟩,?_⟩
   conv=>whnf
   refine⟨⟨zL _,by first|rfl|(rw[byG_len];rfl)|(rw[byG_len];simp),by first|exact .inr ⟨rfl,rfl⟩|exact .inl ⟨rfl,rfl⟩⟩,?_⟩
   conv=>whnf
   exact⟨s.length - (i+4),(by show _<s.length - i;omega),(i+4,([]:List UInt8)++[UInt8.ofNat (16*x+y)]),⟨by show k<i+4;omega,by show i+4<=_;omega,(by show(_:List UInt8).length<=i+4;simp only[List.length_append,List.length_cons,List.length_nil] at hol⊢;omega),by
    rw[<-hq]
    show Option.map _ (rq (s.drop (i+4)))=_
    simp[Function.comp_def]⟩,rfl,⟨rfl,rfl,rfl,(by show GV.i .i64 (IntKind.i64.wrap ((i:Int)+4))=_;rw[w4]),trivial⟩,_,rfl,rfl⟩
  |cons z out=>
   refine⟨⟨rfl,byG_ok _,by show(byG (z::out)).length+1<=4294967296;rw[byG_len];omega⟩,byG ((z::out)++[UInt8.ofNat (16*x+y)]),((z::out)++[UInt8.ofNat (16*x+y)]).length,⟨(by first|(rw[hV];simp[byG];done)|(rw[hV];simp[byG];rfl)),by show _=(byG (z::out)).length+1;rw[byG_len];simp⟩,?_⟩
   conv=>whnf
   refine⟨⟨zL _,by first|rfl|(rw[byG_len];rfl)|(rw[byG_len];simp),by first|exact .inr ⟨rfl,rfl⟩|exact .inl ⟨rfl,rfl⟩⟩,?_⟩
   conv=>whnf
   exact⟨s.length - (i+4),(by show _<s.length - i;omega),(i+4,(z::out)++[UInt8.ofNat (16*x+y)]),⟨by show k<i+4;omega,by show i+4<=_;omega,(by show(_:List UInt8).length<=i+4;simp only[List.length_append,List.length_cons,List.length_nil] at hol⊢;omega),by
    rw[<-hq]
    show Option.map _ (rq (s.drop (i+4)))=_
    simp[Function.comp_def]⟩,rfl,⟨rfl,rfl,rfl,(by show GV.i .i64 (IntKind.i64.wrap ((i:Int)+4))=_;rw[w4]),trivial⟩,_,rfl,rfl⟩
 ·have hn:¬(32<=16*x+y/\16*x+y<=126):=by have g1':=of_decide_eq_false g1;rw[hv] at g1';omega
  rw[if_neg hn] at hq
  cases out with
  |nil=>
   refine⟨⟨rfl,byG_ok _,by show(byG ([]:List UInt8)).length+1<=4294967296;rw[byG_len];omega⟩,byG (([]:List UInt8)++[UInt8.ofNat (16*x+y)]),(([]:List UInt8)++[UInt8.ofNat (16*x+y)]).length,⟨(by first|(rw[hV];simp[byG];done)|(rw[hV];simp[byG];rfl)),by show _=(byG ([]:List UInt8)).length+1;rw[byG_len];simp⟩,?_⟩
   conv=>whnf
   refine⟨⟨zL _,by first|rfl|(rw[byG_len];rfl)|(rw[byG_len];simp),by first|exact .inr ⟨rfl,rfl⟩|exact .inl ⟨rfl,rfl⟩⟩,?_⟩
   conv=>whnf
   exact⟨s.length - (i+4),(by show _<s.length - i;omega),(i+4,([]:List UInt8)++[UInt8.ofNat (16*x+y)]),⟨by show k<i+4;omega,by show i+4<=_;omega,(by show(_:List UInt8).length<=i+4;simp only[List.length_append,List.length_cons,List.length_nil] at hol⊢;omega),by
    rw[<-hq]
    show Option.map _ (rq (s.drop (i+4)))=_
    simp[Function.comp_def]⟩,rfl,⟨rfl,rfl,rfl,(by show GV.i .i64 (IntKind.i64.wrap ((i:Int)+4))=_;rw[w4]),trivial⟩,_,rfl,rfl⟩
  |cons z out=>
   refine⟨⟨rfl,byG_ok _,by show(byG (z::out)).length+1<=4294967296;rw[byG_len];omega⟩,byG ((z::out)++[UInt8.ofNat (16*x+y)]),((z::out)++[UInt8.ofNat (16*x+y)]).length,⟨(by first|(rw[hV];simp[byG];done)|(rw[hV];simp[byG];rfl)),by show _=(byG (z::out)).length+1;rw[byG_len];simp⟩,?_⟩
   conv=>whnf
   refine⟨⟨zL _,by first|rfl|(rw[byG_len];rfl)|(rw[byG_len];simp),by first|exact .inr ⟨rfl,rfl⟩|exact .inl ⟨rfl,rfl⟩⟩,?_⟩
   conv=>whnf
   exact⟨s.length - (i+4),(by show _<s.length - i;omega),(i+4,(z::out)++[UInt8.ofNat (16*x+y)]),⟨by show k<i+4;omega,by show i+4<=_;omega,(by show(_:List UInt8).length<=i+4;simp only[List.length_append,List.length_cons,List.length_nil] at hol⊢;omega),by
    rw[<-hq]
    show Option.map _ (rq (s.drop (i+4)))=_
    simp[Function.comp_def]⟩,rfl,⟨rfl,rfl,rfl,(by show GV.i .i64 (IntKind.i64.wrap ((i:Int)+4))=_;rw[w4]),trivial⟩,_,rfl,rfl⟩
def wholeS (s:List UInt8):Int×Bool:=((numS s).1,decide (0<(numS s).2)&&((numS s).2==s.length))
theorem r_Whole [MaxL] (s:List UInt8) (hs:s.length<most):SC Tryz.prog 265 [.s s] [] (.val (.tup [.i .i64 (wholeS s).1,.b (wholeS s).2])) []:=by
 refine gwS Tryz.func265 rfl ?_
 conv=>whnf
 refine pcP (r_Number s hs) ?_
 conv=>whnf
 refine GIf.mk (fun h1=>?_) (fun h1=>?_)<;>conv=>whnf
 ·refine owes_wk (Wk.of_eq ?_) (Cl.tup (.cons (.i _ _) (.cons (.b _) .nil)))
  have h1':0<(numS s).2:=by have:=of_decide_eq_true h1;omega
  show GV.tup [.i .i64 (numS s).1,.b (((numS s).2:Int)==(s.length:Int))]=.tup [.i .i64 (numS s).1,.b (decide (0<(numS s).2)&&((numS s).2==s.length))]
  rw[decide_eq_true h1',Bool.true_and]
  have:(((numS s).2:Int)==(s.length:Int))=((numS s).2==s.length):=by rw[Bool.eq_iff_iff];simp;omega
  rw[this]
 ·refine owes_wk (Wk.of_eq ?_) (Cl.tup (.cons (.i _ _) (.cons (.b _) .nil)))
  have h1':¬0<(numS s).2:=by have:=of_decide_eq_false h1;omega
  show GV.tup [.i .i64 (numS s).1,.b false]=.tup [.i .i64 (numS s).1,.b (decide (0<(numS s).2)&&((numS s).2==s.length))]
  rw[decide_eq_false h1',Bool.false_and]
def litQ (s:List UInt8):Val×Nat:=if s.head?=some 34 then(⟨2,0,(quoteS s 0).1⟩,(quoteS s 0).2) else(⟨1,(numS s).1,[]⟩,(numS s).2)
theorem r_Literal [MaxL] (s:List UInt8) (hs:s.length<1000000):SC Tryz.prog 342 [.s s,.i .i64 0] [] (.val (.tup [(litQ s).1.gv,.i .i64 ((litQ s).2:Nat)])) []:=by
 refine gwS Tryz.func342 rfl ?_
 conv=>whnf
 refine GIf.mk (fun h1=>?_) (fun h1=>?_)<;>conv=>whnf
 rotate_left
 ·have hn:s=[]:=by
   have:=of_decide_eq_false h1
   exact List.eq_nil_of_length_eq_zero (by omega)
  subst hn
  refine pcP (r_Number [] (by show 0<most;decide)) ?_
  conv=>whnf
  refine⟨_,⟨rfl,zL _,rfl,bL rfl⟩,?_⟩
  conv=>whnf
  refine owes_wk (.refl _) (fun _=>rfl)
 have h1':0<s.length:=by have:=of_decide_eq_true h1;omega
 obtain⟨c,r,rfl⟩:∃c r,s=c::r:=by
  cases s with
  |nil=>simp at h1'
  |cons c r=>exact⟨c,r,rfl⟩
 refine GNeed.mk (Int.le_refl _) ⟨c,rfl,?_⟩
 conv=>whnf
 refine GIf.mk (fun h2=>?_) (fun h2=>?_)<;>conv=>whnf
 ·have hc:=u8_eq (d:=34) h2
  refine pcP (r_Quote (c::r) hs 0 (zL _)) ?_
  conv=>whnf
  refine⟨_,⟨rfl,zL _,rfl,bL rfl⟩,?_⟩
  conv=>whnf
  have hq:litQ (c::r)=(⟨2,0,(quoteS (c::r) 0).1⟩,(quoteS (c::r) 0).2):=by unfold litQ;rw[if_pos (by rw[hc];rfl)]
  rw[hq]
  exact owes_wk (.refl _) (fun _=>rfl)
 have hc:=u8_ne (d:=34) h2
 refine pcP (r_Number (c::r) (by unfold most;omega)) ?_
 conv=>whnf
 refine⟨_,⟨rfl,zL _,rfl,bL rfl⟩,?_⟩
 conv=>whnf
 have hq:litQ (c::r)=(⟨1,(numS (c::r)).1,[]⟩,(numS (c::r)).2):=by unfold litQ;exact if_neg (fun h=>hc (Option.some.inj h))
 rw[hq]
 exact owes_wk (.refl _) (fun _=>rfl)
theorem enc_dig':∀d:Fin 10,(Utf8.encode ((48+d.1:Nat):Int)).data.toList=[UInt8.ofNat (48+d.1)]:=by decide+kernel
theorem enc_dig (d:Nat) (h:d<10):(Utf8.encode ((48+d:Nat):Int)).data.toList=[UInt8.ofNat (48+d)]:=by
 obtain⟨e,rfl⟩:∃e:Fin 10,d=e.1:=⟨⟨d,h⟩,rfl⟩
 exact enc_dig' e
theorem dec_len (n:Nat) (hn:n<9223372036854775808):(Lib.decDigits n).length<=21:=by
 have h:=Lib.itoa_length_le (n:Int) (by omega) (by omega)
 unfold Lib.itoa at h
 rw[if_neg (by omega),Int.toNat_natCast] at h
 exact h
theorem i32w (n:Int):IntKind.i32.wrap n=(n+2147483648)%4294967296 - 2147483648:=by
 unfold IntKind.wrap;simp[IntKind.signed,IntKind.bits];omega
theorem r_DecimalP [MaxL] (n : Nat) (hn : n < 9223372036854775808) : SC Tryz.prog 62 [.i .i64 (n : Nat)] [] (.val (.s (Lib.decDigits n))) [] := by
  refine gwS Tryz.func62 rfl ?_
  conv => whnf
  refine GLoop.introS (fun q : Nat × List UInt8 => q.1 ≤ n ∧ Lib.decDigits q.1 ++ q.2 = Lib.decDigits n) (fun q => [(0, .i .i64 (q.1 : Nat)), (3, .s q.2)]) (fun q => ⟨[], 0, []⟩) (fun q => q.1) (n, []) ⟨rL _, List.append_nil _⟩ ⟨rfl, rfl, trivial⟩ rfl (fun _ _ => rL _) (fun q _ => rfl) (fun q _ e he => ⟨rfl, rfl, rfl⟩) (fun q φ0 hq => ?_)
  obtain ⟨m, acc⟩ := q
  obtain ⟨hm, hq⟩ := hq
  replace hm : m ≤ n := hm
  replace hq : Lib.decDigits m ++ acc = Lib.decDigits n := hq
  have hal : acc.length ≤ 21 := by have := dec_len n hn; rw [← hq] at this; simp at this; omega
  conv => whnf
  refine GIf.mk (fun h3 => ?_) (fun h3 => ?_) <;> conv => whnf
  · have h3' : 10 ≤ m := by have := of_decide_eq_true h3; omega
    have hm10 : m % 10 < 10 := Nat.mod_lt _ (by decide)
    have he : (Utf8.encode (IntKind.i32.wrap (IntKind.i64.wrap (48 + ((m : Nat) : Int).tmod 10)))).data.toList = [UInt8.ofNat (48 + m % 10)] := by
      have hw : ((m : Nat) : Int).tmod 10 = ((m % 10 : Nat) : Int) := by rw [Int.tmod_eq_emod_of_nonneg (by omega)]; omega
      rw [hw, wrap_in (by omega) (by omega), i32w, show (48 + ((m % 10 : Nat) : Int) + 2147483648) % 4294967296 - 2147483648 = ((48 + m % 10 : Nat) : Int) by omega]
      exact enc_dig _ hm10
    refine ⟨by decide, ?_⟩
    conv => whnf
    refine ⟨by
      show (Utf8.encode (IntKind.i32.wrap (IntKind.i64.wrap (48 + ((m : Nat) : Int).tmod 10)))).data.toList.length + acc.length < slim
      rw [he]; unfold slim; simp; omega, _, rfl, ?_⟩
    conv => whnf
    refine ⟨by decide, ?_⟩
    conv => whnf
    have hd : Lib.decDigits m = Lib.decDigits (m / 10) ++ [UInt8.ofNat (48 + m % 10)] := by rw [Lib.decDigits, dif_neg (by omega)]
    exact ⟨m / 10, (by show m / 10 < m; omega), (m / 10, UInt8.ofNat (48 + m % 10) :: acc), ⟨(by show m / 10 ≤ n; omega), (by show Lib.decDigits (m / 10) ++ UInt8.ofNat (48 + m % 10) :: acc = _; rw [← hq, hd]; simp)⟩, rfl,
      ⟨(by show GV.i .i64 (IntKind.i64.wrap (((m : Nat) : Int).tdiv 10)) = .i .i64 ((m / 10 : Nat) : Int)
           rw [Int.tdiv_eq_ediv_of_nonneg (by omega), wrap_in (by omega) (by omega)]; rfl), (by
        show GV.s ((Utf8.encode (IntKind.i32.wrap (IntKind.i64.wrap (48 + ((m : Nat) : Int).tmod 10)))).data.toList ++ acc) = .s (UInt8.ofNat (48 + m % 10) :: acc)
        rw [he]; rfl), trivial⟩, _, rfl, rfl⟩
  · have h3' : m < 10 := by have := of_decide_eq_false h3; omega
    have he : (Utf8.encode (IntKind.i32.wrap (IntKind.i64.wrap (48 + ((m : Nat) : Int))))).data.toList = [UInt8.ofNat (48 + m)] := by
      rw [wrap_in (by omega) (by omega), i32w, show (48 + (m : Int) + 2147483648) % 4294967296 - 2147483648 = ((48 + m : Nat) : Int) by omega]
      exact enc_dig m h3'
    refine ⟨by
      show (Utf8.encode (IntKind.i32.wrap (IntKind.i64.wrap (48 + ((m : Nat) : Int))))).data.toList.length + acc.length < slim
      rw [he]; unfold slim; simp; omega, _, rfl, ?_⟩
    conv => whnf
    refine owes_wk (Wk.of_eq ?_) (.s _)
    show GV.s ((Utf8.encode (IntKind.i32.wrap (IntKind.i64.wrap (48 + ((m : Nat) : Int))))).data.toList ++ acc) = _
    rw [he, ← hq, Lib.decDigits_one h3']
theorem itoa_min:Lib.itoa (-9223372036854775808)=[45,57,50,50,51,51,55,50,48,51,54,56,53,52,55,55,53,56,48,56]:=by
 unfold Lib.itoa
 rw[if_pos (by decide)]
 repeat (rw[Lib.decDigits];simp)
theorem r_Decimal [MaxL] (n:Int) (h0: -9223372036854775808<=n) (h1:n<=9223372036854775807):SC Tryz.prog 62 [.i .i64 n] [] (.val (.s (Lib.itoa n))) []:=by
 by_cases hp:0<=n
 ·obtain⟨k,rfl⟩:∃k:Nat,n=k:=⟨n.toNat,by omega⟩
  unfold Lib.itoa
  rw[if_neg (by omega),Int.toNat_natCast]
  exact r_DecimalP k (by omega)
 refine gwS Tryz.func62 rfl ?_
 conv=>whnf
 refine GIf.mk (fun h2=>?_) (fun h2=>?_)<;>conv=>whnf
 ·have:n= -9223372036854775808:=by simpa using h2
  subst this
  rw[itoa_min]
  exact owes_wk (.refl _) (.s _)
 have h2':n≠ -9223372036854775808:=by simpa using h2
 refine GIf.mk (fun h3=>?_) (fun h3=>?_)<;>conv=>whnf
 rotate_left
 ·exfalso;have:=of_decide_eq_false h3;omega
 obtain⟨k,rfl⟩:∃k:Nat,n= -(k:Int):=⟨n.natAbs,by omega⟩
 have hk:IntKind.i64.wrap (0 - -(k:Int))=(k:Int):=by rw[wrap_in (by omega) (by omega)];omega
 have hc:=r_DecimalP k (by omega)
 rw[<-hk] at hc
 refine pcP hc ?_
 conv=>whnf
 have hl:=dec_len k (by omega)
 refine⟨by show 1+(Lib.decDigits k).length<slim;unfold slim;omega,_,rfl,?_⟩
 conv=>whnf
 refine owes_wk (Wk.of_eq ?_) (.s _)
 unfold Lib.itoa
 rw[if_pos (by omega),Int.natAbs_neg,Int.natAbs_natCast]
 rfl
end Go.Proofs.YtcfgfkkhpdlhpaaGreatDoor
