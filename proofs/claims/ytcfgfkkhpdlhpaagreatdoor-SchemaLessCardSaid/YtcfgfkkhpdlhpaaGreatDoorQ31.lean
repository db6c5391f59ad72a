/-
  A part of the proof of SchemaLess.
-/
import Derived.Test.YtcfgfkkhpdlhpaaGreatDoorQ30
import Derived.Test.YtcfgfkkhpdlhpaaGreatDoorQ23
set_option linter.all false
namespace Go.Proofs.YtcfgfkkhpdlhpaaGreatDoor
open Go.RowKit
set_option maxRecDepth 100000
set_option linter.unusedVariables false
theorem hq_hi:∀n:Fin 256,0<=IntKind.u8.wrap (((n:Nat):Int).tdiv 16)/\hexs[(IntKind.u8.wrap (((n:Nat):Int).tdiv 16)).toNat]?=some (hexd ((n:Nat) / 16)):=by decide+kernel
theorem hq_lo:∀n:Fin 256,0<=(((n:Nat):Int).tmod 16)/\hexs[(((n:Nat):Int).tmod 16).toNat]?=some (hexd ((n:Nat)%16)):=by decide+kernel
theorem r_Quoted [MaxL] (s:List UInt8) (hs:s.length<1000000):SC Tryz.prog 332 [.s s] [] (.val (.s (quoted s))) []:=by
 refine gwS Tryz.func332 rfl ?_
 conv=>whnf
 refine GLoop.introS (fun q:Nat×List UInt8=>q.1<=s.length/\q.2=(s.take q.1).flatMap esc)
  (fun q=>[(0,.s s),(3,.sl (.own 0) (byG q.2)),(4,.s hexs),(5,.i .i64 (q.1:Nat))]) (fun q=>⟨[ow 5 1 q.2.length],0,[]⟩) (fun q=>s.length - q.1) (0,[]) ⟨zL _,rfl⟩ ⟨rfl,rfl,rfl,rfl,trivial⟩ rfl (fun _ _=>rL _) (fun q _=>by simp only[List.all_cons,ow_held];rfl) (fun q _ e he=>?_) (fun q φ0 hq=>?_)
 ·refine⟨by simp[ow_ren],rfl,?_⟩
  show[_,(GV.sl (.own 0) (byG q.2)).ren e,_,_]=_
  rw[ren_own (he 0 (by simp)) (l:=byG q.2) (ClL.mapOf (fun _=>Cl.i _ _) _)];rfl
 obtain⟨i,out⟩:=q
 obtain⟨hi,hout⟩:=hq
 replace hi:i<=s.length:=hi
 replace hout:out=(s.take i).flatMap esc:=hout
 have hol:out.length<=4*i:=by
  rw[hout];refine Nat.le_trans (esc_len _) ?_;rw[List.length_take];omega
 conv=>whnf
 refine GIf.mk (fun h1=>?_) (fun h1=>?_)<;>conv=>whnf
 rotate_left
 ·have hie:i=s.length:=by have:=of_decide_eq_false h1;omega
  refine⟨out,gbytes_by out,?_⟩
  conv=>whnf
  have hoq:out=s.flatMap esc:=by rw[hout,hie,List.take_length]
  refine⟨by show 1+out.length<slim;unfold slim;omega,_,rfl,?_⟩
  conv=>whnf
  refine⟨by show([34]++out).length+1<slim;rw[List.length_append];show 1+out.length+1<slim;unfold slim;omega,_,rfl,?_⟩
  conv=>whnf
  refine owes_wk (Wk.of_eq ?_) (.s _)
  show GV.s ([34]++out++[34])=.s (quoted s)
  rw[hoq];unfold quoted;simp
 have hlt:i<s.length:=by have:=of_decide_eq_true h1;omega
 have hgi:s[i]?=some (s.getD i 0):=by rw[List.getD_eq_getElem?_getD,gL hlt];rfl
 generalize s.getD i 0=c at*
 have hgi':s[((i:Nat):Int).toNat]?=some c:=by rw[Int.toNat_natCast];exact hgi
 have ht:(s.take (i+1)).flatMap esc=(s.take i).flatMap esc++esc c:=by
  rw[List.take_add_one,hgi];simp
 refine GNeed.mk (cN _) ⟨c,hgi',?_⟩
 conv=>whnf
 refine GIf.mk (fun h34=>?_) (fun h34=>?_)<;>conv=>whnf
 ·have hc:=u8_eq (d:=34) h34
  have hesc:esc c=[92,c]:=by unfold esc;rw[if_pos (.inl hc)]
  cases out with
  |nil=>
   refine⟨⟨rfl,byG_ok _,by show(byG ([]:List UInt8)).length+2<=4294967296;rw[byG_len];omega⟩,byG (([]:List UInt8)++[92,c]),(([]:List UInt8)++[92,c]).length,⟨(by show byG (([]:List UInt8)++[92,c])=byG ([]:List UInt8)++[GV.i .u8 92,GV.i .u8 c.toNat];simp[byG]),by show _=(byG ([]:List UInt8)).length+2;rw[byG_len];simp⟩,?_⟩
   conv=>whnf
   refine⟨⟨zL _,by first|rfl|(rw[byG_len];rfl)|(rw[byG_len];simp),by first|exact .inr ⟨rfl,rfl⟩|exact .inl ⟨rfl,rfl⟩⟩,?_⟩
   conv=>whnf
   exact⟨s.length - (i+1),(by show _<s.length - i;omega),(i+1,([]:List UInt8)++[92,c]),⟨by show i+1<=_;omega,(by show([]:List UInt8)++[92,c]=_;rw[ht,<-hout,hesc])⟩,rfl,⟨rfl,rfl,rfl,wrap_succ (by omega),trivial⟩,_,rfl,rfl⟩
  |cons z out=>
   refine⟨⟨rfl,byG_ok _,by show(byG (z::out)).length+2<=4294967296;rw[byG_len];omega⟩,byG ((z::out)++[92,c]),((z::out)++[92,c]).length,⟨(by show byG ((z::out)++[92,c])=byG (z::out)++[GV.i .u8 92,GV.i .u8 c.toNat];simp[byG]),by show _=(byG (z::out)).length+2;rw[byG_len];simp⟩,?_⟩
   conv=>whnf
   refine⟨⟨zL _,by first|rfl|(rw[byG_len];rfl)|(rw[byG_len];simp),by first|exact .inr ⟨rfl,rfl⟩|exact .inl ⟨rfl,rfl⟩⟩,?_⟩
   conv=>whnf
   exact⟨s.length - (i+1),(by show _<s.length - i;omega),(i+1,(z::out)++[92,c]),⟨by show i+1<=_;omega,(by show(z::out)++[92,c]=_;rw[ht,<-hout,hesc])⟩,rfl,⟨rfl,rfl,rfl,wrap_succ (by omega),trivial⟩,_,rfl,rfl⟩
 have hc34:=u8_ne (d:=34) h34
 refine GIf.mk (fun h92=>?_) (fun h92=>?_)<;>conv=>whnf
 ·have hc:=u8_eq (d:=92) h92
  have hesc:esc c=[92,c]:=by unfold esc;rw[if_pos (.inr hc)]
  cases out with
  |nil=>
   refine⟨⟨rfl,byG_ok _,by show(byG ([]:List UInt8)).length+2<=4294967296;rw[byG_len];omega⟩,byG (([]:List UInt8)++[92,c]),(([]:List UInt8)++[92,c]).length,⟨(by show byG (([]:List UInt8)++[92,c])=byG ([]:List UInt8)++[GV.i .u8 92,GV.i .u8 c.toNat];simp[byG]),by show _=(byG ([]:List UInt8)).length+2;rw[byG_len];simp⟩,?_⟩
   conv=>whnf
   refine⟨⟨zL _,by first|rfl|(rw[byG_len];rfl)|(rw[byG_len];simp),by first|exact .inr ⟨rfl,rfl⟩|exact .inl ⟨rfl,rfl⟩⟩,?_⟩
   conv=>whnf
   exact⟨s.length - (i+1),(by show _<s.length - i;omega),(i+1,([]:List UInt8)++[92,c]),⟨by show i+1<=_;omega,(by show([]:List UInt8)++[92,c]=_;rw[ht,<-hout,hesc])⟩,rfl,⟨rfl,rfl,rfl,wrap_succ (by omega),trivial⟩,_,rfl,rfl⟩
  |cons z out=>
   refine⟨⟨rfl,byG_ok _,by show(byG (z::out)).length+2<=4294967296;rw[byG_len];omega⟩,byG ((z::out)++[92,c]),((z::out)++[92,c]).length,⟨(by show byG ((z::out)++[92,c])=byG (z::out)++[GV.i .u8 92,GV.i .u8 c.toNat];simp[byG]),by show _=(byG (z::out)).length+2;rw[byG_len];simp⟩,?_⟩
   conv=>whnf
   refine⟨⟨zL _,by first|rfl|(rw[byG_len];rfl)|(rw[byG_len];simp),by first|exact .inr ⟨rfl,rfl⟩|exact .inl ⟨rfl,rfl⟩⟩,?_⟩
   conv=>whnf
   exact⟨s.length - (i+1),(by show _<s.length - i;omega),(i+1,(z::out)++[92,c]),⟨by show i+1<=_;omega,(by show(z::out)++[92,c]=_;rw[ht,<-hout,hesc])⟩,rfl,⟨rfl,rfl,rfl,wrap_succ (by omega),trivial⟩,_,rfl,rfl⟩
 have hc92:=u8_ne (d:=92) h92
 refine GIf.mk (fun hl=>?_) (fun hl=>?_)<;>conv=>whnf
 ·have hl':=of_decide_eq_true hl
  have hesc:esc c=[92,120,hexd (c.toNat / 16),hexd (c.toNat%16)]:=by unfold esc;rw[if_neg (fun h=>h.elim hc34 hc92),if_pos (.inl (by omega))]
  have hc8:=UInt8.toNat_lt c
  refine GDraw.calm (by kernel_rfl) ?_
  conv=>whnf
  refine⟨by decide,?_⟩
  conv=>whnf
  refine GNeed.mk (hq_hi ⟨c.toNat,hc8⟩).1 ⟨hexd (c.toNat / 16),(hq_hi ⟨c.toNat,hc8⟩).2,?_⟩
  conv=>whnf
  refine⟨by decide,?_⟩
  conv=>whnf
  refine GNeed.mk (hq_lo ⟨c.toNat,hc8⟩).1 ⟨hexd (c.toNat%16),(hq_lo ⟨c.toNat,hc8⟩).2,?_⟩
  conv=>whnf
  cases out with
  |nil=>
   refine⟨⟨rfl,byG_ok _,by show(byG ([]:List UInt8)).length+4<=4294967296;rw[byG_len];omega⟩,byG (([]:List UInt8)++[92,120,hexd (c.toNat / 16),hexd (c.toNat%16)]),(([]:List UInt8)++[92,120,hexd (c.toNat / 16),hexd (c.toNat%16)]).length,⟨(by show byG (([]:List UInt8)++[92,120,hexd (c.toNat / 16),hexd (c.toNat%16)])=byG ([]:List UInt8)++[GV.i .u8 92,GV.i .u8 120,GV.i .u8 (hexd (c.toNat / 16)).toNat,GV.i .u8 (hexd (c.toNat%16)).toNat];simp[byG]),by show _=(byG ([]:List UInt8)).length+4;rw[byG_len];simp⟩,?_⟩
   conv=>whnf
   refine⟨⟨zL _,by first|rfl|(rw[byG_len];rfl)|(rw[byG_len];simp),by first|exact .inr ⟨rfl,rfl⟩|exact .inl ⟨rfl,rfl⟩⟩,?_⟩
   conv=>whnf
   exact⟨s.length - (i+1),(by show _<s.length - i;omega),(i+1,([]:List UInt8)++[92,120,hexd (c.toNat / 16),hexd (c.toNat%16)]),⟨by show i+1<=_;omega,(by show([]:List UInt8)++[92,120,hexd (c.toNat / 16),hexd (c.toNat%16)]=_;rw[ht,<-hout,hesc])⟩,rfl,⟨rfl,rfl,rfl,wrap_succ (by omega),trivial⟩,_,rfl,rfl⟩
  |cons z out=>
   refine⟨⟨rfl,byG_ok _,by show(byG (z::out)).length+4<=4294967296;rw[byG_len];omega⟩,byG ((z::out)++[92,120,hexd (c.toNat / 16),hexd (c.toNat%16)]),((z::out)++[92,120,hexd (c.toNat / 16),hexd (c.toNat%16)]).length,⟨(by show byG ((z::out)++[92,120,hexd (c.toNat / 16),hexd (c.toNat%16)])=byG (z::out)++[GV.i .u8 92,GV.i .u8 120,GV.i .u8 (hexd (c.toNat / 16)).toNat,GV.i .u8 (hexd (c.toNat%16)).toNat];simp[byG]),by show _=(byG (z::out)).length+4;rw[byG_len];simp⟩,?_⟩
   conv=>whnf
   refine⟨⟨zL _,by first|rfl|(rw[byG_len];rfl)|(rw[byG_len];simp),by first|exact .inr ⟨rfl,rfl⟩|exact .inl ⟨rfl,rfl⟩⟩,?_⟩
   conv=>whnf
   exact⟨s.length - (i+1),(by show _<s.length - i;omega),(i+1,(z::out)++[92,120,hexd (c.toNat / 16),hexd (c.toNat%16)]),⟨by show i+1<=_;omega,(by show(z::out)++[92,120,hexd (c.toNat / 16),hexd (c.toNat%16)]=_;rw[ht,<-hout,hesc])⟩,rfl,⟨rfl,rfl,rfl,wrap_succ (by omega),trivial⟩,_,rfl,rfl⟩
 have hl':=of_decide_eq_false hl
 refine GIf.mk (fun hg=>?_) (fun hg=>?_)<;>conv=>whnf
 ·have hg':=of_decide_eq_true hg
  have hesc:esc c=[92,120,hexd (c.toNat / 16),hexd (c.toNat%16)]:=by unfold esc;rw[if_neg (fun h=>h.elim hc34 hc92),if_pos (.inr (by omega))]
  have hc8:=UInt8.toNat_lt c
  refine GDraw.calm (by kernel_rfl) ?_
  conv=>whnf
  refine⟨by decide,?_⟩
  conv=>whnf
  refine GNeed.mk (hq_hi ⟨c.toNat,hc8⟩).1 ⟨hexd (c.toNat / 16),(hq_hi ⟨c.toNat,hc8⟩).2,?_⟩
  conv=>whnf
  refine⟨by decide,?_⟩
  conv=>whnf
  refine GNeed.mk (hq_lo ⟨c.toNat,hc8⟩).1 ⟨hexd (c.toNat%16),(hq_lo ⟨c.toNat,hc8⟩).2,?_⟩
  conv=>whnf
  cases out with
  |nil=>
   refine⟨⟨rfl,byG_ok _,by show(byG ([]:List UInt8)).length+4<=4294967296;rw[byG_len];omega⟩,byG (([]:List UInt8)++[92,120,hexd (c.toNat / 16),hexd (c.toNat%16)]),(([]:List UInt8)++[92,120,hexd (c.toNat / 16),hexd (c.toNat%16)]).length,⟨(by show byG (([]:List UInt8)++[92,120,hexd (c.toNat / 16),hexd (c.toNat%16)])=byG ([]:List UInt8)++[GV.i .u8 92,GV.i .u8 120,GV.i .u8 (hexd (c.toNat / 16)).toNat,GV.i .u8 (hexd (c.toNat%16)).toNat];simp[byG]),by show _=(byG ([]:List UInt8)).length+4;rw[byG_len];simp⟩,?_⟩
   conv=>whnf
   refine⟨⟨zL _,by first|rfl|(rw[byG_len];rfl)|(rw[byG_len];simp),by first|exact .inr ⟨rfl,rfl⟩|exact .inl ⟨rfl,rfl⟩⟩,?_⟩
   conv=>whnf
   exact⟨s.length - (i+1),(by show _<s.length - i;omega),(i+1,([]:List UInt8)++[92,120,hexd (c.toNat / 16),hexd (c.toNat%16)]),⟨by show i+1<=_;omega,(by show([]:List UInt8)++[92,120,hexd (c.toNat / 16),hexd (c.toNat%16)]=_;rw[ht,<-hout,hesc])⟩,rfl,⟨rfl,rfl,rfl,wrap_succ (by omega),trivial⟩,_,rfl,rfl⟩
  |cons z out=>
   refine⟨⟨rfl,byG_ok _,by show(byG (z::out)).length+4<=4294967296;rw[byG_len];omega⟩,byG ((z::out)++[92,120,hexd (c.toNat / 16),hexd (c.toNat%16)]),((z::out)++[92,120,hexd (c.toNat / 16),hexd (c.toNat%16)]).length,⟨(by show byG ((z::out)++[92,120,hexd (c.toNat / 16),hexd (c.toNat%16)])=byG (z::out)++[GV.i .u8 92,GV.i .u8 120,GV.i .u8 (hexd (c.toNat / 16)).toNat,GV.i .u8 (hexd (c.toNat%16)).toNat];simp[byG]),by show _=(byG (z::out)).length+4;rw[byG_len];simp⟩,?_⟩
   conv=>whnf
   refine⟨⟨zL _,by first|rfl|(rw[byG_len];rfl)|(rw[byG_len];simp),by first|exact .inr ⟨rfl,rfl⟩|exact .inl ⟨rfl,rfl⟩⟩,?_⟩
   conv=>whnf
   exact⟨s.length - (i+1),(by show _<s.length - i;omega),(i+1,(z::out)++[92,120,hexd (c.toNat / 16),hexd (c.toNat%16)]),⟨by show i+1<=_;omega,(by show(z::out)++[92,120,hexd (c.toNat / 16),hexd (c.toNat%16)]=_;rw[ht,<-hout,hesc])⟩,rfl,⟨rfl,rfl,rfl,wrap_succ (by omega),trivial⟩,_,rfl,rfl⟩
 have hg':=of_decide_eq_false hg
 have hesc:esc c=[c]:=by unfold esc;rw[if_neg (fun h=>h.elim hc34 hc92),if_neg (by omega)]
 cases out with
 |nil=>
  refine⟨⟨rfl,byG_ok _,by show(byG ([]:List UInt8)).length+1<=4294967296;rw[byG_len];omega⟩,byG (([]:List UInt8)++[c]),(([]:List UInt8)++[c]).length,⟨(by show byG (([]:List UInt8)++[c])=byG ([]:List UInt8)++[GV.i .u8 c.toNat];simp[byG]),by show _=(byG ([]:List UInt8)).length+1;rw[byG_len];simp⟩,?_⟩
  conv=>whnf
  refine⟨⟨zL _,by first|rfl|(rw[byG_len];rfl)|(rw[byG_len];simp),by first|exact .inr ⟨rfl,rfl⟩|exact .inl ⟨rfl,rfl⟩⟩,?_⟩
  conv=>whnf
  exact⟨s.length - (i+1),(by show _<s.length - i;omega),(i+1,([]:List UInt8)++[c]),⟨by show i+1<=_;omega,(by show([]:List UInt8)++[c]=_;rw[ht,<-hout,hesc])⟩,rfl,⟨rfl,rfl,rfl,wrap_succ (by omega),trivial⟩,_,rfl,rfl⟩
 |cons z out=>
  refine⟨⟨rfl,byG_ok _,by show(byG (z::out)).length+1<=4294967296;rw[byG_len];omega⟩,byG ((z::out)++[c]),((z::out)++[c]).length,⟨(by show byG ((z::out)++[c])=byG (z::out)++[GV.i .u8 c.toNat];simp[byG]),by show _=(byG (z::out)).length+1;rw[byG_len];simp⟩,?_⟩
  conv=>whnf
  refine⟨⟨zL _,by first|rfl|(rw[byG_len];rfl)|(rw[byG_len];simp),by first|exact .inr ⟨rfl,rfl⟩|exact .inl ⟨rfl,rfl⟩⟩,?_⟩
  conv=>whnf
  exact⟨s.length - (i+1),(by show _<s.length - i;omega),(i+1,(z::out)++[c]),⟨by show i+1<=_;omega,(by show(z::out)++[c]=_;rw[ht,<-hout,hesc])⟩,rfl,⟨rfl,rfl,rfl,wrap_succ (by omega),trivial⟩,_,rfl,rfl⟩
theorem r_Written [MaxL] (v:Val) (hv:v.s.length<1000000) (h0: -9223372036854775808<=v.n) (h1:v.n<=9223372036854775807):SC Tryz.prog 321 [v.gv] [] (.val (.s (written v))) []:=by
 obtain⟨k,n,s⟩:=v
 refine gwS Tryz.func321 rfl ?_
 conv=>whnf
 refine GIf.mk (fun h=>?_) (fun h=>?_)<;>conv=>whnf
 ·have h':k=1:=by simpa using h
  refine pcP (r_Decimal n h0 h1) ?_
  conv=>whnf
  refine owes_wk (Wk.of_eq ?_) (.s _)
  show GV.s (Lib.itoa n)=_
  unfold written;rw[if_pos h']
 ·have h':k≠1:=by simpa using h
  refine pcP (r_Quoted s hv) ?_
  conv=>whnf
  refine owes_wk (Wk.of_eq ?_) (.s _)
  show GV.s (quoted s)=_
  unfold written;rw[if_neg h']
theorem r_word [MaxL] (c:UInt8):SC Tryz.prog 264 [.i .u8 c.toNat] [] (.val (.b (isInner c))) []:=by
 refine gwS Tryz.func264 rfl ?_
 conv=>whnf
 repeat' (refine GIf.mk (fun _=>?_) (fun _=>?_)<;>conv=>whnf)
 all_goals
  refine owes_b ?_
  rw[Bool.eq_iff_iff,isInner_iff]
  simp only[decide_eq_true_eq,decide_eq_false_iff_not,beq_iff_eq,beq_eq_false_iff_ne,ne_eq,Bool.false_eq_true] at*
  first|done|omega|(refine iff_of_true trivial ?_;omega)|(refine iff_of_false (fun h=>h) ?_;omega)
theorem r_kept [MaxL] (w:List UInt8):SC Tryz.prog 354 [.s w] [] (.val (.b (kept.contains w))) []:=by
 refine gwS Tryz.func354 rfl ?_
 conv=>whnf
 repeat' (refine GIf.mk (fun _=>?_) (fun _=>?_)<;>conv=>whnf)
 all_goals
  refine owes_b ?_
  rw[Bool.eq_iff_iff]
  simp[kept] at*
  try simp[*]
def runW (t:List UInt8):Nat:=1+(t.takeWhile isInner).length
def sw:List UInt8->Option Nat
 |[]=>none
 |c::t=>
  if isInner c=true/\c≠95 then
   (if 97<=c.toNat then(if isName ((c::t).take (runW t)) then some (runW t) else none) else if(wholeS ((c::t).take (runW t))).2 then some (runW t) else none)
  else if c=45 then(if(wholeS ((c::t).take (runW t))).2 then some (runW t) else none)
  else if c=34 then(if(quoteS (c::t) 0).2=0 then none else some (quoteS (c::t) 0).2)
  else if(c=60/\(t.head?=some 62∨t.head?=some 61))∨(c=62/\t.head?=some 61) then some 2
  else if c=40∨c=41∨c=58∨c=61∨c=60∨c=62 then some 1 else none
def splitF:Nat->List UInt8->Option (List By)
 |0,_=>none
 |_+1,[]=>some []
 |f+1,c::t=>if c=32 then splitF f t else match sw (c::t) with
  |some k=>(splitF f ((c::t).drop k)).map fun ws=>(c::t).take k::ws
  |none=>none
theorem runW_pos (t:List UInt8):1<=runW t:=by unfold runW;omega
theorem runW_le (t:List UInt8):runW t<=t.length+1:=by
 have:=(List.takeWhile_prefix (l:=t) isInner).length_le
 unfold runW;omega
theorem rq_suf:∀(n:Nat) {l t r:List UInt8},l.length<=n->rq l=some (t,r)->r.length<l.length
 |0,l,t,r,h,e=>by
  cases l with
  |nil=>cases e
  |cons _ _=>simp at h
 |n+1,[],t,r,h,e=>by cases e
 |n+1,c::l,t,r,h,e=>by
  have hl:l.length<=n:=by simp at h;omega
  by_cases h34:c=34
  ·rw[h34,rq_34] at e;cases e;simp
  ·by_cases hb:c.toNat<32∨126<c.toNat
   ·rw[rq_bad h34 hb] at e;cases e
   ·by_cases h92:c=92
    ·subst h92
     by_cases hx:∃a b l2,l=120::a::b::l2
     ·obtain⟨a,b,l2,rfl⟩:=hx
      rw[rq_x] at e
      split at e
      ·split at e
       ·split at e
        ·cases e
        ·cases hq:rq l2 with
         |none=>rw[hq] at e;cases e
         |some p=>rw[hq] at e;cases e;have:=rq_suf n (l:=l2) (t:=p.1) (r:=p.2) (by simp at hl;omega) hq;simp;omega
       ·cases e
      ·cases e
     ·by_cases he:∃c' l1,l=c'::l1/\(c'=34∨c'=92)
      ·obtain⟨c',l1,rfl,hc'⟩:=he
       rw[rq_esc hc'] at e
       cases hq:rq l1 with
       |none=>rw[hq] at e;cases e
       |some p=>rw[hq] at e;cases e;have:=rq_suf n (l:=l1) (t:=p.1) (r:=p.2) (by simp at hl;omega) hq;simp;omega
      ·rw[rq_none (fun e0 r1 h1=>⟨fun h=>he ⟨e0,r1,h1,h⟩,fun h a b r2 h2=>hx ⟨a,b,r2,by rw[h1,h,h2]⟩⟩)] at e;cases e
    ·rw[rq_c h34 hb h92] at e
     cases hq:rq l with
     |none=>rw[hq] at e;cases e
     |some p=>rw[hq] at e;cases e;have:=rq_suf n (l:=l) (t:=p.1) (r:=p.2) hl hq;simp;omega
theorem quoteS_drop (s:List UInt8) (i:Nat):quoteS s i=quoteS (s.drop i) 0:=by
 unfold quoteS
 rw[show(s.drop i)[0]?=s[i]? by rw[List.getElem?_drop];rfl,List.drop_drop,Nat.zero_add]
 split
 ·cases h:rq (s.drop (i+1)) with
  |none=>rfl
  |some p=>simp only[qres,List.length_drop];congr 1;omega
 ·rfl
theorem quoteS_le (s:List UInt8):(quoteS s 0).2<=s.length:=by
 unfold quoteS
 split
 ·cases h:rq (s.drop (0+1)) with
  |none=>exact zL _
  |some p=>simp only[qres];omega
 ·exact zL _
theorem sw_pos {l:List UInt8} {k:Nat} (h:sw l=some k):1<=k/\k<=l.length:=by
 cases l with
 |nil=>cases h
 |cons c t=>
  have h1:=runW_pos t
  have h2:=runW_le t
  have h3:=quoteS_le (c::t)
  have h4:(t.head?=some 62∨t.head?=some 61)->1<=t.length:=fun h=>by
   cases t with
   |nil=>simp at h
   |cons _ _=>simp
  simp only[sw] at h
  simp only[List.length_cons] at h3⊢
  split at h
  ·split at h
   ·split at h
    ·cases h;omega
    ·cases h
   ·split at h
    ·cases h;omega
    ·cases h
  ·split at h
   ·split at h
    ·cases h;omega
    ·cases h
   ·split at h
    ·split at h
     ·cases h
     ·cases h;omega
    ·split at h
     ·rename_i hh
      cases h
      have:1<=t.length:=h4 (hh.elim (fun h=>h.2) (fun h=>.inr h.2))
      omega
     ·split at h
      ·cases h;omega
      ·cases h
def splitS (s:By):Option (List By):=splitF (s.length+1) s
theorem splitF_nil (f:Nat):splitF (f+1) []=some []:=rfl
theorem splitF_sp (f:Nat) (t:By):splitF (f+1) (32::t)=splitF f t:=by
 show(if(32:UInt8)=32 then _ else _)=_
 rw[if_pos rfl]
theorem splitF_c (f:Nat) {c:UInt8} (h:c≠32) (t:By):splitF (f+1) (c::t)=match sw (c::t) with
  |some k=>(splitF f ((c::t).drop k)).map fun ws=>(c::t).take k::ws
  |none=>none:=by
 show(if c=32 then _ else _)=_
 rw[if_neg h]
 try rfl
theorem splitF_fuel:∀(f g:Nat) (l:By),l.length<f->l.length<g->splitF f l=splitF g l
 |0,_,_,h,_=>by omega
 |_,0,_,_,h=>by omega
 |f+1,g+1,[],_,_=>rfl
 |f+1,g+1,c::t,h,h'=>by
  simp only[List.length_cons] at h h'
  by_cases hc:c=32
  ·rw[hc,splitF_sp,splitF_sp];exact splitF_fuel f g t (by omega) (by omega)
  ·rw[splitF_c f hc,splitF_c g hc]
   cases hk:sw (c::t) with
   |none=>rfl
   |some k=>
    have:=sw_pos hk
    have hd:((c::t).drop k).length<=t.length:=by simp;omega
    simp only
    rw[splitF_fuel f g _ (by omega) (by omega)]
end Go.Proofs.YtcfgfkkhpdlhpaaGreatDoor
