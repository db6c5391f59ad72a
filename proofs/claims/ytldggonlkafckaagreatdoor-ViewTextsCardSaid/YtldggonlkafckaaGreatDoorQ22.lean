/-
  A part of the proof of ViewTexts.
-/
import Derived.Test.YtldggonlkafckaaGreatDoorQ21
set_option linter.all false
namespace Go.Proofs.YtldggonlkafckaaGreatDoor
open Go.RowKit
set_option maxRecDepth 100000
set_option linter.unusedVariables false
def qlen:List UInt8->Nat
 |[]=>0
 |c::r=>if c=34 then 0 else if c=92 then(match r with
  |[]=>2
  |_::r'=>2+qlen r') else 1+qlen r
theorem qlen_34 (l:List UInt8):qlen (34::l)=0:=by cases l<;>rfl
theorem qlen_92n:qlen [92]=2:=rfl
theorem qlen_92 (x:UInt8) (l:List UInt8):qlen (92::x::l)=2+qlen l:=by
 conv=>lhs;unfold qlen
 rw[if_neg (by decide),if_pos rfl]
theorem qlen_c {c:UInt8} (h:¬c=34) (h':¬c=92) (l:List UInt8):qlen (c::l)=1+qlen l:=by
 conv=>lhs;unfold qlen
 rw[if_neg h,if_neg h']
def wlen (l:List UInt8):Nat:=
 match l with
 |[]=>0
 |c::t=>
  if[60,62].isPrefixOf l||[60,61].isPrefixOf l||[62,61].isPrefixOf l then 2
  else if isInner c||(c==45&&t.head?.any isDigit) then 1+(t.takeWhile isInner).length
  else if c=34 then min (2+qlen t) l.length
  else 1
def wrd (l:List UInt8):List UInt8:=l.take (wlen l)
theorem c_word [MaxL] (s:List UInt8) (n:Nat) (d:Int) (hn:n<=s.length) (hs:s.length<most):
  SC Tryz.prog 208 [.ptr 0 0] [rd s n d] (.val (.s (wrd (s.drop (nb s n))))) [rd s (nb s n) d]:=by
 have hbl:=c_blanks s n d hn hs
 have hnb:nb s n<=s.length:=by
  have:=(List.takeWhile_prefix (l:=s.drop n) (· ==32)).length_le
  simp at this;unfold nb;omega
 generalize nb s n=m at*
 generalize hr:s.drop m=r at*
 unfold most at hs
 have hrl:r.length<=s.length:=by rw[<-hr];simp
 refine gwS Tryz.func208 rfl ?_
 conv=>whnf
 refine callB (q:=0) hbl rfl (by first|exact wR _|exact wC (Wk.sl _ _) (wR _)|exact wC (Wk.sl _ _) (wC (Wk.sl _ _) (wR _))|exact wC (Wk.refl _) (wC (Wk.sl _ _) (wR _))) rfl rfl (by first|exact fun _=>rfl|exact cA|exact cB fun _=>rfl) (by first|exact fun _=>rfl|exact cA|exact cB fun _=>rfl) (by first|exact fun _=>rfl|exact cA|exact cB fun _=>rfl) (by first|exact fun _=>rfl|exact cA|exact cB fun _=>rfl) ?_
 conv=>whnf
 refine GDraw.calm (by kernel_rfl) ?_
 conv=>whnf
 refine⟨cN _,⟨by simpa using hnb,rL _⟩,r,by rw[Int.toNat_natCast,hr,List.take_of_length_le (by rw[<-hr];simp)],?_⟩
 conv=>whnf
 cases r with
 |nil=>exact owesB rfl (.refl _) (fun _=>rfl) (fun _=>rfl)
 |cons c t=>
 conv=>whnf
 refine GLoop.intro (fun i:Nat=>i<=3/\(0<i->[60,62].isPrefixOf (c::t)=false)/\(1<i->[60,61].isPrefixOf (c::t)=false)/\(2<i->[62,61].isPrefixOf (c::t)=false))
  (fun i=>[(3,.s (c::t)),(20,.sl (.own 1) [.s [60,62],.s [60,61],.s [62,61]]),(21,.i .i64 3),(22,.i .i64 i)]) (fun _=>⟨[rd s m d,.own 3 1 9],0,[]⟩) (fun i=>3 - i) 0
  ⟨by omega,fun h=>absurd h (by omega),fun h=>absurd h (by omega),fun h=>absurd h (by omega)⟩ ⟨rfl,rfl,rfl,rfl,trivial⟩ rfl (fun i φ0 hi=>?_)
 obtain⟨hi0,hi1,hi2,hi3⟩:=hi
 have hc4:i=0∨i=1∨i=2∨i=3:=by omega
 have ends:∀k:Nat,k=wlen (c::t)->(c::t).take k=wrd (c::t):=fun k hk=>by rw[wrd,hk]
 rcases hc4 with rfl|rfl|rfl|rfl
 ·conv=>whnf
  refine⟨Int.le_refl 0,.s [60,62],rfl,rfl,?_⟩
  conv=>whnf
  refine callP (c_HasPrefix (c::t) [60,62]) (by first|exact wR _|exact wC (Wk.sl _ _) (wR _)|exact wC (Wk.sl _ _) (wC (Wk.sl _ _) (wR _))|exact wC (Wk.refl _) (wC (Wk.sl _ _) (wR _))) rfl (by first|exact fun _=>rfl|exact cA|exact cB fun _=>rfl) (by first|exact fun _=>rfl|exact cA|exact cB fun _=>rfl) ?_
  conv=>whnf
  refine GIf.mk (fun h=>?_) (fun h=>?_)<;>conv=>whnf
  ·refine owesB_s rfl ?_ (fun _=>rfl)
   rw[<-ends 2 (by simp[wlen,h])]
   exact List.prefix_iff_eq_take.1 (List.isPrefixOf_iff_prefix.1 h)
  ·exact GLoop.next 1 ⟨by omega,fun _=>h,fun h=>absurd h (by omega),fun h=>absurd h (by omega)⟩ (by omega) ⟨rfl,rfl,rfl,rfl,trivial⟩ rfl
 ·conv=>whnf
  refine⟨by decide,.s [60,61],rfl,rfl,?_⟩
  conv=>whnf
  refine callP (c_HasPrefix (c::t) [60,61]) (by first|exact wR _|exact wC (Wk.sl _ _) (wR _)|exact wC (Wk.sl _ _) (wC (Wk.sl _ _) (wR _))|exact wC (Wk.refl _) (wC (Wk.sl _ _) (wR _))) rfl (by first|exact fun _=>rfl|exact cA|exact cB fun _=>rfl) (by first|exact fun _=>rfl|exact cA|exact cB fun _=>rfl) ?_
  conv=>whnf
  refine GIf.mk (fun h=>?_) (fun h=>?_)<;>conv=>whnf
  ·refine owesB_s rfl ?_ (fun _=>rfl)
   rw[<-ends 2 (by simp[wlen,h])]
   exact List.prefix_iff_eq_take.1 (List.isPrefixOf_iff_prefix.1 h)
  ·exact GLoop.next 2 ⟨by omega,fun _=>hi1 (by omega),fun _=>h,fun h=>absurd h (by omega)⟩ (by omega) ⟨rfl,rfl,rfl,rfl,trivial⟩ rfl
 ·conv=>whnf
  refine⟨by decide,.s [62,61],rfl,rfl,?_⟩
  conv=>whnf
  refine callP (c_HasPrefix (c::t) [62,61]) (by first|exact wR _|exact wC (Wk.sl _ _) (wR _)|exact wC (Wk.sl _ _) (wC (Wk.sl _ _) (wR _))|exact wC (Wk.refl _) (wC (Wk.sl _ _) (wR _))) rfl (by first|exact fun _=>rfl|exact cA|exact cB fun _=>rfl) (by first|exact fun _=>rfl|exact cA|exact cB fun _=>rfl) ?_
  conv=>whnf
  refine GIf.mk (fun h=>?_) (fun h=>?_)<;>conv=>whnf
  ·refine owesB_s rfl ?_ (fun _=>rfl)
   rw[<-ends 2 (by simp[wlen,h])]
   exact List.prefix_iff_eq_take.1 (List.isPrefixOf_iff_prefix.1 h)
  ·exact GLoop.next 3 ⟨by omega,fun _=>hi1 (by omega),fun _=>hi2 (by omega),fun _=>h⟩ (by omega) ⟨rfl,rfl,rfl,rfl,trivial⟩ rfl
 ·have hp1:=hi1 (by omega)
  have hp2:=hi2 (by omega)
  have hp3:=hi3 (by omega)
  clear hi0 hi1 hi2 hi3
  have hwl:wlen (c::t)=if isInner c||(c==45&&t.head?.any isDigit) then 1+(t.takeWhile isInner).length else if c=34 then min (2+qlen t) (c::t).length else 1:=by
   simp only[wlen,hp1,hp2,hp3];rfl
  conv=>whnf
  refine⟨Int.le_refl 0,c,rfl,?_⟩
  conv=>whnf
  refine callP (c_innerC c) (by first|exact wR _|exact wC (Wk.sl _ _) (wR _)|exact wC (Wk.sl _ _) (wC (Wk.sl _ _) (wR _))|exact wC (Wk.refl _) (wC (Wk.sl _ _) (wR _))) rfl (by first|exact fun _=>rfl|exact cA|exact cB fun _=>rfl) (by first|exact fun _=>rfl|exact cA|exact cB fun _=>rfl) ?_
  conv=>whnf
  refine GIf.mk (fun h1=>?in1) (fun h1=>?_)
  rotate_left
  ·conv=>whnf
   refine⟨Int.le_refl 0,c,rfl,?_⟩
   conv=>whnf
   refine GIf.mk (fun h2=>?_) (fun h2=>?el1)
   have hc45:c=45:=u8_eq (d:=45) h2
   cases t with
   |nil=>
    have hw:(isInner c||(c==45&&([]:List UInt8).head?.any isDigit))=false:=by simp[h1]
    conv=>whnf
    refine⟨Int.le_refl 0,c,rfl,?_⟩
    conv=>whnf
    have hc34:¬c=34:=by rw[hc45];decide
    refine GIf.mk (fun h34=>?_) (fun h34=>?_)<;>conv=>whnf
    ·exact absurd (u8_eq (d:=34) h34) hc34
    refine⟨by decide,⟨by decide,by simp⟩,[c],rfl,?_⟩
    conv=>whnf
    exact owesB_s rfl (ends 1 (by rw[hwl,hw,if_neg (by simp),if_neg hc34])) (fun _=>rfl)
   |cons e t'=>
    conv=>whnf
    refine GIf.mk (fun h3=>?_) (fun h3=>?_)
    rotate_left
    ·exfalso;simp at h3;omega
    conv=>whnf
    refine⟨by decide,e,rfl,?_⟩
    conv=>whnf
    refine callP (c_digit e) (by first|exact wR _|exact wC (Wk.sl _ _) (wR _)|exact wC (Wk.sl _ _) (wC (Wk.sl _ _) (wR _))|exact wC (Wk.refl _) (wC (Wk.sl _ _) (wR _))) rfl (by first|exact fun _=>rfl|exact cA|exact cB fun _=>rfl) (by first|exact fun _=>rfl|exact cA|exact cB fun _=>rfl) ?_
    conv=>whnf
    refine GIf.mk (fun h4=>?_) (fun h4=>?_)
    ·have hw:(isInner c||(c==45&&(e::t').head?.any isDigit))=true:=by simp[hc45,h4]
     conv=>whnf
     refine GLoop.intro (fun k:Nat=>1<=k/\k<=(c::(e::t')).length/\k+(((c::(e::t')).drop k).takeWhile isInner).length=1+((e::t').takeWhile isInner).length)
      (fun k=>[(3,.s (c::(e::t'))),(6,.i .i64 k)]) (fun _=>⟨[rd s m d,.own 3 1 9],0,[]⟩) (fun k=>(c::(e::t')).length - k) 1
      ⟨rL _,by simp,rfl⟩ ⟨rfl,rfl,trivial⟩ rfl (fun k φ1 hk=>?_)
     obtain⟨hk1,hk2,hk3⟩:=hk
     conv=>whnf
     have fin:((c::(e::t')).drop k).takeWhile isInner=[]->(c::(e::t')).take k=wrd (c::(e::t')):=fun h0=>ends k (by rw[hwl,hw,if_pos rfl,<-hk3,h0];rfl)
     refine GIf.mk (fun hlt=>?_) (fun hlt=>?_)<;>conv=>whnf
     ·have hlt':k<(c::(e::t')).length:=by simp at hlt⊢;omega
      refine⟨cN _,(c::(e::t'))[k],by simp,?_⟩
      conv=>whnf
      refine callP (c_innerC (c::(e::t'))[k]) (by first|exact wR _|exact wC (Wk.sl _ _) (wR _)|exact wC (Wk.sl _ _) (wC (Wk.sl _ _) (wR _))|exact wC (Wk.refl _) (wC (Wk.sl _ _) (wR _))) rfl (by first|exact fun _=>rfl|exact cA|exact cB fun _=>rfl) (by first|exact fun _=>rfl|exact cA|exact cB fun _=>rfl) ?_
      conv=>whnf
      refine GIf.mk (fun hin=>?_) (fun hin=>?_)<;>conv=>whnf
      ·refine GLoop.next (k+1) ⟨by omega,hlt',?_⟩ (by omega) ⟨rfl,wrap_succ (by omega),trivial⟩ rfl
       rw[List.drop_eq_getElem_cons hlt',List.takeWhile_cons,hin,if_pos rfl,List.length_cons] at hk3
       omega
      ·refine⟨cN _,⟨zL _,by simpa using hk2⟩,(c::(e::t')).take k,by simp,?_⟩
       conv=>whnf
       exact owesB_s rfl (fin (by rw[List.drop_eq_getElem_cons hlt',List.takeWhile_cons,hin];rfl)) (fun _=>rfl)
     ·have hge:(c::(e::t')).length<=k:=by simp at hlt⊢;omega
      refine⟨cN _,⟨zL _,by simpa using hk2⟩,(c::(e::t')).take k,by simp,?_⟩
      conv=>whnf
      exact owesB_s rfl (fin (by rw[List.drop_of_length_le hge];rfl)) (fun _=>rfl)
    ·have hw:(isInner c||(c==45&&(e::t').head?.any isDigit))=false:=by simp[h1,h4]
     conv=>whnf
     refine⟨Int.le_refl 0,c,rfl,?_⟩
     conv=>whnf
     refine GIf.mk (fun h34=>?_) (fun h34=>?_)<;>conv=>whnf
     ·have hc34:c=34:=u8_eq (d:=34) h34
      refine GLoop.intro (fun k:Nat=>1<=k/\k<=(c::(e::t')).length+1/\k+qlen ((c::(e::t')).drop k)=1+qlen (e::t'))
       (fun k=>[(3,.s (c::(e::t'))),(6,.i .i64 k)]) (fun _=>⟨[rd s m d,.own 3 1 9],0,[]⟩) (fun k=>(c::(e::t')).length+1 - k) 1
       ⟨rL _,by simp,rfl⟩ ⟨rfl,rfl,trivial⟩ rfl (fun k φ1 hk=>?_)
      obtain⟨hk1,hk2,hk3⟩:=hk
      conv=>whnf
      have fin:qlen ((c::(e::t')).drop k)=0->∀q:Int,q=(if(((c::(e::t')).length:Nat):Int)<(k:Int)+1 then(((c::(e::t')).length:Nat):Int) else(k:Int)+1)->q.toNat=wlen (c::(e::t')):=fun h0 q hq=>by
       rw[hwl,hw,if_neg (by simp),if_pos hc34]
       rw[h0] at hk3
       subst hq
       split<;>omega
      have fin2:qlen ((c::(e::t')).drop k)=0->∀q:Int,q=(if(((c::(e::t')).length:Nat):Int)<IntKind.i64.wrap ((k:Int)+1) then(((c::(e::t')).length:Nat):Int) else IntKind.i64.wrap ((k:Int)+1))->0<=q/\q.toNat<=(c::(e::t')).length/\(c::(e::t')).take q.toNat=wrd (c::(e::t')):=fun h0 q hq=>by
       rw[wrap_in (by omega) (by omega)] at hq
       refine⟨?_,?_,ends _ (fin h0 q hq)⟩
       ·subst hq;split<;>omega
       ·subst hq;split<;>omega
      refine GIf.mk (fun hlt=>?_) (fun hlt=>?_)<;>conv=>whnf
      ·have hlt':k<(c::(e::t')).length:=by simp at hlt⊢;omega
       refine⟨cN _,(c::(e::t'))[k],by simp,?_⟩
       conv=>whnf
       refine GIf.mk (fun hne=>?_) (fun hne=>?_)<;>conv=>whnf
       ·have hne':¬(c::(e::t'))[k]=34:=fun e=>by rw[e] at hne;simp at hne
        refine⟨cN _,(c::(e::t'))[k],by simp,?_⟩
        conv=>whnf
        have hd:=List.drop_eq_getElem_cons hlt'
        refine GIf.mk (fun h92=>?_) (fun h92=>?_)<;>conv=>whnf
        ·have h92':=u8_eq (d:=92) h92
         rw[hd,h92'] at hk3
         refine GLoop.next (k+2) ⟨by omega,by omega,?_⟩ (by omega) ⟨rfl,?_,trivial⟩ rfl
         ·rw[<-hk3]
          cases hdr:(c::(e::t')).drop (k+1) with
          |nil=>
           have:(c::(e::t')).drop (k+2)=[]:=by rw[<-List.drop_drop (i:=1),hdr];rfl
           rw[this,qlen_92n];rfl
          |cons x y=>
           have:(c::(e::t')).drop (k+2)=y:=by rw[<-List.drop_drop (i:=1),hdr];rfl
           rw[this,qlen_92];omega
         ·show GV.i .i64 (IntKind.i64.wrap (IntKind.i64.wrap ((k:Int)+1)+1))=_
          rw[wrap_in (n:=(k:Int)+1) (by omega) (by omega),wrap_in (n:=(k:Int)+1+1) (by omega) (by omega)]
          rfl
        ·have h92':=u8_ne (d:=92) h92
         refine GLoop.next (k+1) ⟨by omega,by omega,?_⟩ (by omega) ⟨rfl,wrap_succ (by omega),trivial⟩ rfl
         rw[hd] at hk3
         rw[qlen_c hne' h92'] at hk3
         rw[<-hk3];omega
       ·have he:(c::(e::t'))[k]=34:=by
         have:((((c::(e::t'))[k]).toNat:Int)==((34:UInt8).toNat:Int))=true:=by simpa using hne
         exact u8_eq this
        have h0:qlen ((c::(e::t')).drop k)=0:=by rw[List.drop_eq_getElem_cons hlt',he,qlen_34]
        obtain⟨f1,f2,f3⟩:=fin2 h0 _ rfl
        refine⟨f1,⟨zL _,f2⟩,_,rfl,?_⟩
        conv=>whnf
        exact owesB_s rfl (by simpa using f3) (fun _=>rfl)
      ·have hge:(c::(e::t')).length<=k:=by simp at hlt⊢;omega
       have h0:qlen ((c::(e::t')).drop k)=0:=by rw[List.drop_of_length_le hge];rfl
       obtain⟨f1,f2,f3⟩:=fin2 h0 _ rfl
       refine⟨f1,⟨zL _,f2⟩,_,rfl,?_⟩
       conv=>whnf
       exact owesB_s rfl (by simpa using f3) (fun _=>rfl)
     ·have hc34:=u8_ne (d:=34) h34
      refine⟨by decide,⟨by decide,by simp⟩,[c],rfl,?_⟩
      conv=>whnf
      exact owesB_s rfl (ends 1 (by rw[hwl,hw,if_neg (by simp),if_neg hc34])) (fun _=>rfl)
   case el1=>
    have hw:(isInner c||(c==45&&t.head?.any isDigit))=false:=by
     have:=u8_ne (d:=45) h2
     simp[h1,this]
    conv=>whnf
    refine⟨Int.le_refl 0,c,rfl,?_⟩
    conv=>whnf
    refine GIf.mk (fun h34=>?_) (fun h34=>?_)<;>conv=>whnf
    ·have hc34:c=34:=u8_eq (d:=34) h34
     refine GLoop.intro (fun k:Nat=>1<=k/\k<=(c::t).length+1/\k+qlen ((c::t).drop k)=1+qlen t)
      (fun k=>[(3,.s (c::t)),(6,.i .i64 k)]) (fun _=>⟨[rd s m d,.own 3 1 9],0,[]⟩) (fun k=>(c::t).length+1 - k) 1
      ⟨rL _,by simp,rfl⟩ ⟨rfl,rfl,trivial⟩ rfl (fun k φ1 hk=>?_)
     obtain⟨hk1,hk2,hk3⟩:=hk
     conv=>whnf
     have fin:qlen ((c::t).drop k)=0->∀q:Int,q=(if(((c::t).length:Nat):Int)<(k:Int)+1 then(((c::t).length:Nat):Int) else(k:Int)+1)->q.toNat=wlen (c::t):=fun h0 q hq=>by
      rw[hwl,hw,if_neg (by simp),if_pos hc34]
      rw[h0] at hk3
      subst hq
      split<;>omega
     have fin2:qlen ((c::t).drop k)=0->∀q:Int,q=(if(((c::t).length:Nat):Int)<IntKind.i64.wrap ((k:Int)+1) then(((c::t).length:Nat):Int) else IntKind.i64.wrap ((k:Int)+1))->0<=q/\q.toNat<=(c::t).length/\(c::t).take q.toNat=wrd (c::t):=fun h0 q hq=>by
      rw[wrap_in (by omega) (by omega)] at hq
      refine⟨?_,?_,ends _ (fin h0 q hq)⟩
      ·subst hq;split<;>omega
      ·subst hq;split<;>omega
     refine GIf.mk (fun hlt=>?_) (fun hlt=>?_)<;>conv=>whnf
     ·have hlt':k<(c::t).length:=by simp at hlt⊢;omega
      refine⟨cN _,(c::t)[k],by simp,?_⟩
      conv=>whnf
      refine GIf.mk (fun hne=>?_) (fun hne=>?_)<;>conv=>whnf
      ·have hne':¬(c::t)[k]=34:=fun e=>by rw[e] at hne;simp at hne
       refine⟨cN _,(c::t)[k],by simp,?_⟩
       conv=>whnf
       have hd:=List.drop_eq_getElem_cons hlt'
       refine GIf.mk (fun h92=>?_) (fun h92=>?_)<;>conv=>whnf
       ·have h92':=u8_eq (d:=92) h92
        rw[hd,h92'] at hk3
        refine GLoop.next (k+2) ⟨by omega,by omega,?_⟩ (by omega) ⟨rfl,?_,trivial⟩ rfl
        ·rw[<-hk3]
         cases hdr:(c::t).drop (k+1) with
         |nil=>
          have:(c::t).drop (k+2)=[]:=by rw[<-List.drop_drop (i:=1),hdr];rfl
          rw[this,qlen_92n];rfl
         |cons x y=>
          have:(c::t).drop (k+2)=y:=by rw[<-List.drop_drop (i:=1),hdr];rfl
          rw[this,qlen_92];omega
        ·show GV.i .i64 (IntKind.i64.wrap (IntKind.i64.wrap ((k:Int)+1)+1))=_
         rw[wrap_in (n:=(k:Int)+1) (by omega) (by omega),wrap_in (n:=(k:Int)+1+1) (by omega) (by omega)]
         rfl
       ·have h92':=u8_ne (d:=92) h92
        refine GLoop.next (k+1) ⟨by omega,by omega,?_⟩ (by omega) ⟨rfl,wrap_succ (by omega),trivial⟩ rfl
        rw[hd] at hk3
        rw[qlen_c hne' h92'] at hk3
        rw[<-hk3];omega
      ·have he:(c::t)[k]=34:=by
        have:((((c::t)[k]).toNat:Int)==((34:UInt8).toNat:Int))=true:=by simpa using hne
        exact u8_eq this
       have h0:qlen ((c::t).drop k)=0:=by rw[List.drop_eq_getElem_cons hlt',he,qlen_34]
       obtain⟨f1,f2,f3⟩:=fin2 h0 _ rfl
       refine⟨f1,⟨zL _,f2⟩,_,rfl,?_⟩
       conv=>whnf
       exact owesB_s rfl (by simpa using f3) (fun _=>rfl)
     ·have hge:(c::t).length<=k:=by simp at hlt⊢;omega
      have h0:qlen ((c::t).drop k)=0:=by rw[List.drop_of_length_le hge];rfl
      obtain⟨f1,f2,f3⟩:=fin2 h0 _ rfl
      refine⟨f1,⟨zL _,f2⟩,_,rfl,?_⟩
      conv=>whnf
      exact owesB_s rfl (by simpa using f3) (fun _=>rfl)
    ·have hc34:=u8_ne (d:=34) h34
     refine⟨by decide,⟨by decide,by simp⟩,[c],rfl,?_⟩
     conv=>whnf
     exact owesB_s rfl (ends 1 (by rw[hwl,hw,if_neg (by simp),if_neg hc34])) (fun _=>rfl)
  case in1=>
   have hw:(isInner c||(c==45&&t.head?.any isDigit))=true:=by simp[h1]
   conv=>whnf
   refine GLoop.intro (fun k:Nat=>1<=k/\k<=(c::t).length/\k+(((c::t).drop k).takeWhile isInner).length=1+(t.takeWhile isInner).length)
    (fun k=>[(3,.s (c::t)),(6,.i .i64 k)]) (fun _=>⟨[rd s m d,.own 3 1 9],0,[]⟩) (fun k=>(c::t).length - k) 1
    ⟨rL _,by simp,rfl⟩ ⟨rfl,rfl,trivial⟩ rfl (fun k φ1 hk=>?_)
   obtain⟨hk1,hk2,hk3⟩:=hk
   conv=>whnf
   have fin:((c::t).drop k).takeWhile isInner=[]->(c::t).take k=wrd (c::t):=fun h0=>ends k (by rw[hwl,hw,if_pos rfl,<-hk3,h0];rfl)
   refine GIf.mk (fun hlt=>?_) (fun hlt=>?_)<;>conv=>whnf
   ·have hlt':k<(c::t).length:=by simp at hlt⊢;omega
    refine⟨cN _,(c::t)[k],by simp,?_⟩
    conv=>whnf
    refine callP (c_innerC (c::t)[k]) (by first|exact wR _|exact wC (Wk.sl _ _) (wR _)|exact wC (Wk.sl _ _) (wC (Wk.sl _ _) (wR _))|exact wC (Wk.refl _) (wC (Wk.sl _ _) (wR _))) rfl (by first|exact fun _=>rfl|exact cA|exact cB fun _=>rfl) (by first|exact fun _=>rfl|exact cA|exact cB fun _=>rfl) ?_
    conv=>whnf
    refine GIf.mk (fun hin=>?_) (fun hin=>?_)<;>conv=>whnf
    ·refine GLoop.next (k+1) ⟨by omega,hlt',?_⟩ (by omega) ⟨rfl,wrap_succ (by omega),trivial⟩ rfl
     rw[List.drop_eq_getElem_cons hlt',List.takeWhile_cons,hin,if_pos rfl,List.length_cons] at hk3
     omega
    ·refine⟨cN _,⟨zL _,by simpa using hk2⟩,(c::t).take k,by simp,?_⟩
     conv=>whnf
     exact owesB_s rfl (fin (by rw[List.drop_eq_getElem_cons hlt',List.takeWhile_cons,hin];rfl)) (fun _=>rfl)
   ·have hge:(c::t).length<=k:=by simp at hlt⊢;omega
    refine⟨cN _,⟨zL _,by simpa using hk2⟩,(c::t).take k,by simp,?_⟩
    conv=>whnf
    exact owesB_s rfl (fin (by rw[List.drop_of_length_le hge];rfl)) (fun _=>rfl)
def skip (l:List UInt8):List UInt8:=l.dropWhile (· ==32)
theorem skip_len (l:List UInt8):(skip l).length<=l.length:=(List.dropWhile_suffix (· ==32)).length_le
theorem wlen_pos (c:UInt8) (t:List UInt8):1<=wlen (c::t):=by
 simp only[wlen]
 split
 ·omega
 ·split
  ·omega
  ·split
   ·simp;omega
   ·omega
theorem wlen_le (l:List UInt8):wlen l<=l.length:=by
 cases l with
 |nil=>simp[wlen]
 |cons c t=>
  simp only[wlen]
  split
  ·rename_i h
   simp only[Bool.or_eq_true,List.isPrefixOf_iff_prefix] at h
   rcases h with(h|h)|h<;>(have:=h.length_le;simpa using this)
  ·split
   ·have:=(List.takeWhile_prefix (l:=t) isInner).length_le
    simp;omega
   ·split
    ·omega
    ·simp
def toks (l:List UInt8):List (List UInt8):=
 match h:skip l with
 |[]=>[]
 |c::t=>wrd (c::t)::toks ((c::t).drop (wlen (c::t)))
termination_by l.length
decreasing_by
 have h1:=skip_len l
 have h2:=wlen_pos c t
 rw[h] at h1
 simp at h1⊢;omega
theorem toks_nil {l:List UInt8} (h:skip l=[]):toks l=[]:=by
 rw[toks];split
 ·rfl
 ·rename_i h2;rw[h] at h2;cases h2
theorem toks_cons {l:List UInt8} {c:UInt8} {t:List UInt8} (h:skip l=c::t):toks l=wrd (c::t)::toks ((c::t).drop (wlen (c::t))):=by
 rw[toks];split
 ·rename_i h2;rw[h] at h2;cases h2
 ·rename_i c' t' h2;rw[h] at h2;cases h2;rfl
theorem skip_skip (l:List UInt8):skip (skip l)=skip l:=by
 induction l with
 |nil=>rfl
 |cons c t ih=>
  unfold skip at*
  rw[List.dropWhile_cons]
  split
  ·exact ih
  ·rename_i h;rw[List.dropWhile_cons,if_neg h]
theorem toks_skip (l:List UInt8):toks (skip l)=toks l:=by
 cases h:skip l with
 |nil=>rw[toks_nil h];exact toks_nil rfl
 |cons c t=>rw[toks_cons h,toks_cons (l:=c::t) (by rw[<-h,skip_skip])]
theorem drop_nb (s:List UInt8) (n:Nat):s.drop (nb s n)=skip (s.drop n):=by
 unfold nb skip
 rw[<-List.drop_drop]
 generalize s.drop n=l
 induction l with
 |nil=>rfl
 |cons c t ih=>
  rw[List.takeWhile_cons,List.dropWhile_cons]
  split
  ·simpa using ih
  ·simp
theorem nb_le {s:List UInt8} {n:Nat} (hn:n<=s.length):nb s n<=s.length:=by
 have:=(List.takeWhile_prefix (l:=s.drop n) (· ==32)).length_le
 simp at this;unfold nb;omega
def At (s:List UInt8) (n:Nat) (ts:List (List UInt8)):Prop:=n<=s.length/\toks (s.drop n)=ts
theorem At.nb {s:List UInt8} {n:Nat} {ts:List (List UInt8)} (h:At s n ts):At s (nb s n) ts:=⟨nb_le h.1,by rw[drop_nb,toks_skip];exact h.2⟩
theorem At.head {s:List UInt8} {n:Nat} {ts:List (List UInt8)} (h:At s n ts):wrd (s.drop (Go.Proofs.YtldggonlkafckaaGreatDoor.nb s n))=ts.headD []:=by
 rw[drop_nb]
 cases hk:skip (s.drop n) with
 |nil=>rw[<-h.2,toks_nil hk];rfl
 |cons c t=>rw[<-h.2,toks_cons hk];rfl
theorem At.tail {s:List UInt8} {n:Nat} {w:List UInt8} {ts:List (List UInt8)} (h:At s n (w::ts)):1<=w.length/\At s (Go.Proofs.YtldggonlkafckaaGreatDoor.nb s n+w.length) ts:=by
 have h2:=h.2
 have hd:=drop_nb s n
 cases hk:skip (s.drop n) with
 |nil=>rw[toks_nil hk] at h2;cases h2
 |cons c t=>
  rw[toks_cons hk] at h2
  cases h2
  rw[hk] at hd
  have hl:(wrd (c::t)).length=wlen (c::t):=by unfold wrd;rw[List.length_take];exact Nat.min_eq_left (wlen_le _)
  have hp:=wlen_pos c t
  have hle:=wlen_le (c::t)
  have hnl:=nb_le h.1
  have hlen:(s.drop (Go.Proofs.YtldggonlkafckaaGreatDoor.nb s n)).length=(c::t).length:=by rw[hd]
  rw[List.length_drop] at hlen
  refine⟨by omega,by omega,?_⟩
  rw[<-List.drop_drop,hd,hl]
theorem c_word' [MaxL] (s:List UInt8) (n:Nat) (d:Int) {ts:List (List UInt8)} (h:At s n ts) (hs:s.length<most):
  SC Tryz.prog 208 [.ptr 0 0] [rd s n d] (.val (.s (ts.headD []))) [rd s (nb s n) d]:=by
 have:=c_word s n d h.1 hs
 rw[h.head] at this
 exact this
theorem take_yes [MaxL] (s:List UInt8) (n:Nat) (d:Int) {w:List UInt8} {ts:List (List UInt8)} (h:At s n (w::ts)) (hs:s.length<most):
  SC Tryz.prog 242 [.ptr 0 0,.s w] [rd s n d] (.val (.b true)) [rd s (nb s n+w.length) d]:=by
 have hw:=c_word' s n d h hs
 obtain⟨h1,h2,_⟩:=h.tail
 unfold most at hs
 refine gwS Tryz.func242 rfl ?_
 conv=>whnf
 refine callB (q:=0) hw rfl (by first|exact wR _|exact wC (Wk.sl _ _) (wR _)|exact wC (Wk.sl _ _) (wC (Wk.sl _ _) (wR _))|exact wC (Wk.refl _) (wC (Wk.sl _ _) (wR _))) rfl rfl (by first|exact fun _=>rfl|exact cA|exact cB fun _=>rfl) (by first|exact fun _=>rfl|exact cA|exact cB fun _=>rfl) (by first|exact fun _=>rfl|exact cA|exact cB fun _=>rfl) (by first|exact fun _=>rfl|exact cA|exact cB fun _=>rfl) ?_
 conv=>whnf
 refine GIf.mk (fun hc=>?_) (fun hc=>?_)<;>conv=>whnf
 ·simp at hc
 ·refine⟨[.i .i64 (nb s n+w.length:Nat)],⟨?_,rL _,rfl,bL rfl⟩,?_⟩
  ·rw[wrap_in (by omega) (by omega)];rfl
  ·conv=>whnf
   exact owesB_b rfl rfl (fun _=>rfl)
theorem take_no [MaxL] (s:List UInt8) (n:Nat) (d:Int) {w:List UInt8} {ts:List (List UInt8)} (h:At s n ts) (hs:s.length<most) (hne:ts.headD []≠w):
  SC Tryz.prog 242 [.ptr 0 0,.s w] [rd s n d] (.val (.b false)) [rd s (nb s n) d]:=by
 have hw:=c_word' s n d h hs
 unfold most at hs
 refine gwS Tryz.func242 rfl ?_
 conv=>whnf
 refine callB (q:=0) hw rfl (by first|exact wR _|exact wC (Wk.sl _ _) (wR _)|exact wC (Wk.sl _ _) (wC (Wk.sl _ _) (wR _))|exact wC (Wk.refl _) (wC (Wk.sl _ _) (wR _))) rfl rfl (by first|exact fun _=>rfl|exact cA|exact cB fun _=>rfl) (by first|exact fun _=>rfl|exact cA|exact cB fun _=>rfl) (by first|exact fun _=>rfl|exact cA|exact cB fun _=>rfl) (by first|exact fun _=>rfl|exact cA|exact cB fun _=>rfl) ?_
 conv=>whnf
 refine GIf.mk (fun hc=>?_) (fun hc=>?_)<;>conv=>whnf
 ·exact owesB_b rfl rfl (fun _=>rfl)
 ·exact absurd (by simpa using hc) hne
end Go.Proofs.YtldggonlkafckaaGreatDoor
