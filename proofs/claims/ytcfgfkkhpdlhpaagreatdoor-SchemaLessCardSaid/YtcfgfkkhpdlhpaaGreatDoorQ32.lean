/-
  A part of the proof of SchemaLess.
-/
import Derived.Test.YtcfgfkkhpdlhpaaGreatDoorQ31
import Derived.Test.YtcfgfkkhpdlhpaaGreatDoorQ24
set_option linter.all false
namespace Go.Proofs.YtcfgfkkhpdlhpaaGreatDoor
open Go.RowKit
set_option maxRecDepth 100000
set_option linter.unusedVariables false
def strG (ws:List By):List GV:=ws.map .s
theorem strG_cl [MaxL] (ws:List By):ClL (strG ws):=ClL.mapOf (fun _=>Cl.s _) _
theorem strG_len (ws:List By):(strG ws).length=ws.length:=by simp[strG]
theorem strG_ok (ws:List By):(strG ws).all (fun x=>x.cells.length==1)=true:=by
 rw[List.all_eq_true];intro x hx
 obtain⟨b,_,rfl⟩:=List.mem_map.1 hx
 rfl
def splitR:Option (List By)->GV
 |some ws=>.tup [.sl .none (strG ws),.b true]
 |none=>.tup [.sl .none [],.b false]
set_option maxHeartbeats 2000000 in
theorem r_split [MaxL] (s:List UInt8) (hs:s.length<1000000):SC Tryz.prog 230 [.s s] [] (.val (splitR (splitS s))) []:=by
 generalize hR:splitS s=R
 refine gwS Tryz.func230 rfl ?_
 conv=>whnf
 refine GLoop.introS (fun q:Nat×List By=>q.1<=s.length/\q.2.length<=q.1/\(splitF (s.length+1) (s.drop q.1)).map (fun ws=>q.2++ws)=R)
  (fun q=>[(0,.s s),(4,.sl (.own 1) (strG q.2)),(5,.i .i64 (q.1:Nat))]) (fun q=>⟨[.own 0 0 0,ow 9 1 q.2.length],0,[]⟩) (fun q=>s.length - q.1) (0,[]) ⟨zL _,rL _,by
   rw[<-hR];show Option.map _ (splitF _ s)=splitF _ s;cases splitF (s.length+1) s<;>rfl⟩ ⟨rfl,rfl,rfl,trivial⟩ rfl (fun _ _=>rL _) (fun q _=>by simp only[List.all_cons,ow_held];rfl) (fun q _ e he=>?_) (fun q φ0 hq=>?_)
 ·refine⟨by simp[ow_ren];rfl,rfl,?_⟩
  show[_,(GV.sl (.own 1) (strG q.2)).ren e,_]=_
  rw[ren_own (he 1 (by simp)) (strG_cl q.2)];rfl
 obtain⟨i,ws⟩:=q
 obtain⟨hi,hws,hq⟩:=hq
 replace hi:i<=s.length:=hi
 replace hws:ws.length<=i:=hws
 replace hq:(splitF (s.length+1) (s.drop i)).map (fun l=>ws++l)=R:=hq
 conv=>whnf
 refine GIf.mk (fun h1=>?_) (fun h1=>?_)<;>conv=>whnf
 rotate_left
 ·have hie:i=s.length:=by have:=of_decide_eq_false h1;omega
  have hr:R=some ws:=by rw[<-hq,hie,List.drop_length,splitF_nil];simp
  rw[hr]
  exact owes_wk (wk_t2 (Wk.sl _ _) (.refl _)) (Cl.tup (.cons (Cl.sl (strG_cl ws)) (.cons (.b _) .nil)))
 have hlt:i<s.length:=by have:=of_decide_eq_true h1;omega
 have hgi:s[i]?=some (s.getD i 0):=by rw[List.getD_eq_getElem?_getD,gL hlt];rfl
 have hd:s.drop i=s.getD i 0::s.drop (i+1):=by
  rw[List.drop_eq_getElem_cons hlt,List.getD_eq_getElem?_getD,gL hlt];rfl
 generalize s.getD i 0=c at*
 have hgi':s[((i:Nat):Int).toNat]?=some c:=by rw[Int.toNat_natCast];exact hgi
 refine GNeed.mk (cN _) ⟨c,hgi',?_⟩
 conv=>whnf
 refine GIf.mk (fun h32=>?_) (fun h32=>?_)<;>conv=>whnf
 ·have hc:=u8_eq (d:=32) h32
  exact⟨s.length - (i+1),(by show _<s.length - i;omega),(i+1,ws),⟨hlt,(by show ws.length<=i+1;omega),by
   rw[<-hq,hd,hc,splitF_sp]
   show Option.map _ (splitF (s.length+1) (s.drop (i+1)))=_
   rw[splitF_fuel (s.length+1) s.length _ (by rw[List.length_drop];omega) (by rw[List.length_drop];omega)]⟩,rfl,⟨rfl,rfl,wrap_succ (by omega),trivial⟩,_,rfl,rfl⟩
 have hc32:=u8_ne (d:=32) h32
 generalize hT:s.drop (i+1)=t at*
 have htl:t.length=s.length - (i+1):=by rw[<-hT,List.length_drop]
 have next:∀k,sw (c::t)=some k->i+k<=s.length/\1<=k/\(splitF (s.length+1) (s.drop (i+k))).map (fun l=>(ws++[(c::t).take k])++l)=R:=fun k hk=>by
  have hp:=sw_pos hk
  simp only[List.length_cons] at hp
  refine⟨by omega,hp.1,?_⟩
  rw[<-hq,hd,splitF_c _ hc32,hk]
  simp only
  rw[show(c::t).drop k=s.drop (i+k) by rw[<-hd,List.drop_drop],splitF_fuel (s.length+1) s.length _ (by rw[List.length_drop];omega) (by rw[List.length_drop];omega)]
  simp[Function.comp_def]
 have bad:sw (c::t)=none->R=none:=fun h=>by rw[<-hq,hd,splitF_c _ hc32,h];rfl
 refine pcP (r_word c) ?_
 conv=>whnf
 have hrw:runW t<=t.length+1:=runW_le t
 have hd':∀j:Nat,t[j]?=s[i+1+j]?:=fun j=>by rw[<-hT,List.getElem?_drop]
 have runEnd:∀k:Nat,1<=k->(∀c∈t.take (k - 1),isInner c=true)->(∀c,t[k - 1]?=some c->isInner c=false)->k=runW t∨t.length<k - 1:=fun k hk h h'=>by
  have:=(tw_end h h').1
  unfold runW
  rw[this,List.length_take]
  omega
 refine GIf.mk (fun hin=>?_) (fun hin=>?_)<;>conv=>whnf
 ·refine GIf.mk (fun h95=>?_) (fun h95=>?_)<;>conv=>whnf
  ·have hc95:=u8n_ne (d:=95) h95
   refine GLoop.intro (fun k:Nat=>1<=k/\i+k<=s.length/\∀c∈t.take (k - 1),isInner c=true) (fun k=>[(0,.s s),(4,.sl (.own 1) (strG ws)),(5,.i .i64 (i:Nat)),(6,.i .u8 c.toNat),(7,.i .i64 (k:Nat))]) (fun _=>⟨[.own 0 0 0,ow 9 1 ws.length],0,[]⟩) (fun k=>s.length - k) 1
    ⟨rL _,hlt,fun c h=>by simp at h⟩ ⟨rfl,rfl,rfl,rfl,rfl,trivial⟩ rfl (fun k φ1 hk=>?_)
   obtain⟨hk1,hk2,hk3⟩:=hk
   have wk:IntKind.i64.wrap ((i:Int)+(k:Int))=((i+k:Nat):Int):=by rw[wrap_in (by omega) (by omega)];rfl
   conv=>whnf
   refine GIf.mk (fun g1=>?in1) (fun g1=>?in2)
   case' in1=>
    have g1':i+k<s.length:=by have:=of_decide_eq_true g1;rw[wk] at this;omega
    have hge:s[i+k]?=some (s.getD (i+k) 0):=by rw[List.getD_eq_getElem?_getD,gL g1'];rfl
    conv=>whnf
    refine GNeed.mk (by rw[wk];exact cN _) ⟨s.getD (i+k) 0,by rw[wk,Int.toNat_natCast];exact hge,?_⟩
    conv=>whnf
    refine pcP (r_word (s.getD (i+k) 0)) ?_
    conv=>whnf
    refine GIf.mk (fun g2=>?go) (fun g2=>?out)
   case' go=>
    conv=>whnf
    refine GLoop.next (k+1) ⟨by omega,by omega,?_⟩ (by omega) ⟨rfl,rfl,rfl,rfl,wrap_succ (by omega),trivial⟩ rfl
    intro c' hc'
    rw[show k+1 - 1=k - 1+1 by omega,List.take_add_one,hd',show i+1+(k - 1)=i+k by omega,hge] at hc'
    rcases List.mem_append.1 hc' with h|h
    ·exact hk3 c' h
    ·rw[List.mem_singleton.1 (show c'∈[s.getD (i+k) 0] from h)];exact g2
   case' out=>
    have hkr:k=runW t:=(runEnd k hk1 hk3 (fun c' h=>by rw[hd',show i+1+(k - 1)=i+k by omega,hge] at h;cases h;exact g2)).resolve_right (by omega)
    clear hge g1' g1 g2
   case' in2=>
    have hkr:k=runW t:=(runEnd k hk1 hk3 (fun c' h=>by
     have g1':s.length<=i+k:=by have:=of_decide_eq_false g1;rw[wk] at this;omega
     rw[hd',List.getElem?_eq_none (by omega)] at h;cases h)).resolve_right (by omega)
    clear g1
   all_goals
    conv=>whnf
    refine GIf.mk (fun h97=>?_) (fun h97=>?_)<;>conv=>whnf
    ·have h97':97<=c.toNat:=by have:=of_decide_eq_true h97;omega
     refine⟨cN _,?_⟩
     conv=>whnf
     refine⟨by rw[wk];exact cN _,⟨by rw[wk,Int.toNat_natCast,Int.toNat_natCast];omega,by rw[wk,Int.toNat_natCast];exact hk2⟩,(c::t).take k,by rw[wk,Int.toNat_natCast,Int.toNat_natCast,hd,Nat.add_sub_cancel_left],?_⟩
     conv=>whnf
     refine pcP (r_Name ((c::t).take k)) ?_
     conv=>whnf
     refine GIf.mk (fun hnm=>?_) (fun hnm=>?_)<;>conv=>whnf
     ·have hr:=bad (by simp only[sw];rw[if_pos ⟨hin,hc95⟩,if_pos h97',if_neg (by rw[<-hkr];simpa using hnm)])
      rw[hr]
      exact owes_wk (wk_t2 (Wk.sl _ _) (.refl _)) (Cl.tup (.cons (Cl.sl ClL.nil) (.cons (.b _) .nil)))
     have hk:sw (c::t)=some k:=by simp only[sw];rw[if_pos ⟨hin,hc95⟩,if_pos h97',if_pos (by rw[<-hkr];simpa using hnm),hkr]
     obtain⟨n1,n2,n3⟩:=next k hk
     refine⟨cN _,?_⟩
     conv=>whnf
     refine⟨by rw[wk];exact cN _,⟨by rw[wk,Int.toNat_natCast,Int.toNat_natCast];omega,by rw[wk,Int.toNat_natCast];exact hk2⟩,(c::t).take k,by rw[wk,Int.toNat_natCast,Int.toNat_natCast,hd,Nat.add_sub_cancel_left],?_⟩
     conv=>whnf
     cases ws with
     |nil=>
      refine⟨⟨rfl,strG_ok _,by show(strG ([]:List By)).length+1<=4294967296;rw[strG_len];omega⟩,strG (([]:List By)++[(c::t).take k]),(([]:List By)++[(c::t).take k]).length,⟨(by show strG (([]:List By)++[(c::t).take k])=strG ([]:List By)++[GV.s ((c::t).take k)];simp[strG]),by show _=(strG ([]:List By)).length+1;rw[strG_len];simp⟩,?_⟩
      conv=>whnf
      refine⟨⟨zL _,by first|rfl|(rw[strG_len];rfl)|(rw[strG_len];simp),by first|exact .inr ⟨rfl,rfl⟩|exact .inl ⟨rfl,rfl⟩⟩,?_⟩
      conv=>whnf
      exact⟨s.length - (i+k),(by show _<s.length - i;omega),(i+k,([]:List By)++[(c::t).take k]),⟨n1,(by show(([]:List By)++[(c::t).take k]).length<=i+k;rw[List.length_append,List.length_singleton];omega),n3⟩,rfl,⟨rfl,rfl,(by show GV.i .i64 (IntKind.i64.wrap ((i:Int)+(k:Int)))=_;rw[wk]),trivial⟩,_,rfl,rfl⟩
     |cons z ws=>
      refine⟨⟨rfl,strG_ok _,by show(strG (z::ws)).length+1<=4294967296;rw[strG_len];omega⟩,strG ((z::ws)++[(c::t).take k]),((z::ws)++[(c::t).take k]).length,⟨(by show strG ((z::ws)++[(c::t).take k])=strG (z::ws)++[GV.s ((c::t).take k)];simp[strG]),by show _=(strG (z::ws)).length+1;rw[strG_len];simp⟩,?_⟩
      conv=>whnf
      refine⟨⟨zL _,by first|rfl|(rw[strG_len];rfl)|(rw[strG_len];simp),by first|exact .inr ⟨rfl,rfl⟩|exact .inl ⟨rfl,rfl⟩⟩,?_⟩
      conv=>whnf
      exact⟨s.length - (i+k),(by show _<s.length - i;omega),(i+k,(z::ws)++[(c::t).take k]),⟨n1,(by show((z::ws)++[(c::t).take k]).length<=i+k;rw[List.length_append,List.length_singleton];omega),n3⟩,rfl,⟨rfl,rfl,(by show GV.i .i64 (IntKind.i64.wrap ((i:Int)+(k:Int)))=_;rw[wk]),trivial⟩,_,rfl,rfl⟩
    ·have h97':¬97<=c.toNat:=by have:=of_decide_eq_false h97;omega
     refine⟨cN _,?_⟩
     conv=>whnf
     refine⟨by rw[wk];exact cN _,⟨by rw[wk,Int.toNat_natCast,Int.toNat_natCast];omega,by rw[wk,Int.toNat_natCast];exact hk2⟩,(c::t).take k,by rw[wk,Int.toNat_natCast,Int.toNat_natCast,hd,Nat.add_sub_cancel_left],?_⟩
     conv=>whnf
     refine pcP (r_Whole ((c::t).take k) (by unfold most;rw[List.length_take];omega)) ?_
     conv=>whnf
     refine GIf.mk (fun hwn=>?_) (fun hwn=>?_)<;>conv=>whnf
     ·have hr:=bad (by simp only[sw];rw[if_pos ⟨hin,hc95⟩,if_neg h97',if_neg (by rw[<-hkr];simpa using hwn)])
      rw[hr]
      exact owes_wk (wk_t2 (Wk.sl _ _) (.refl _)) (Cl.tup (.cons (Cl.sl ClL.nil) (.cons (.b _) .nil)))
     have hk:sw (c::t)=some k:=by simp only[sw];rw[if_pos ⟨hin,hc95⟩,if_neg h97',if_pos (by rw[<-hkr];simpa using hwn),hkr]
     obtain⟨n1,n2,n3⟩:=next k hk
     refine⟨cN _,?_⟩
     conv=>whnf
     refine⟨by rw[wk];exact cN _,⟨by rw[wk,Int.toNat_natCast,Int.toNat_natCast];omega,by rw[wk,Int.toNat_natCast];exact hk2⟩,(c::t).take k,by rw[wk,Int.toNat_natCast,Int.toNat_natCast,hd,Nat.add_sub_cancel_left],?_⟩
     conv=>whnf
     cases ws with
     |nil=>
      refine⟨⟨rfl,strG_ok _,by show(strG ([]:List By)).length+1<=4294967296;rw[strG_len];omega⟩,strG (([]:List By)++[(c::t).take k]),(([]:List By)++[(c::t).take k]).length,⟨(by show strG (([]:List By)++[(c::t).take k])=strG ([]:List By)++[GV.s ((c::t).take k)];simp[strG]),by show _=(strG ([]:List By)).length+1;rw[strG_len];simp⟩,?_⟩
      conv=>whnf
      refine⟨⟨zL _,by first|rfl|(rw[strG_len];rfl)|(rw[strG_len];simp),by first|exact .inr ⟨rfl,rfl⟩|exact .inl ⟨rfl,rfl⟩⟩,?_⟩
      conv=>whnf
      exact⟨s.length - (i+k),(by show _<s.length - i;omega),(i+k,([]:List By)++[(c::t).take k]),⟨n1,(by show(([]:List By)++[(c::t).take k]).length<=i+k;rw[List.length_append,List.length_singleton];omega),n3⟩,rfl,⟨rfl,rfl,(by show GV.i .i64 (IntKind.i64.wrap ((i:Int)+(k:Int)))=_;rw[wk]),trivial⟩,_,rfl,rfl⟩
     |cons z ws=>
      refine⟨⟨rfl,strG_ok _,by show(strG (z::ws)).length+1<=4294967296;rw[strG_len];omega⟩,strG ((z::ws)++[(c::t).take k]),((z::ws)++[(c::t).take k]).length,⟨(by show strG ((z::ws)++[(c::t).take k])=strG (z::ws)++[GV.s ((c::t).take k)];simp[strG]),by show _=(strG (z::ws)).length+1;rw[strG_len];simp⟩,?_⟩
      conv=>whnf
      refine⟨⟨zL _,by first|rfl|(rw[strG_len];rfl)|(rw[strG_len];simp),by first|exact .inr ⟨rfl,rfl⟩|exact .inl ⟨rfl,rfl⟩⟩,?_⟩
      conv=>whnf
      exact⟨s.length - (i+k),(by show _<s.length - i;omega),(i+k,(z::ws)++[(c::t).take k]),⟨n1,(by show((z::ws)++[(c::t).take k]).length<=i+k;rw[List.length_append,List.length_singleton];omega),n3⟩,rfl,⟨rfl,rfl,(by show GV.i .i64 (IntKind.i64.wrap ((i:Int)+(k:Int)))=_;rw[wk]),trivial⟩,_,rfl,rfl⟩
  ·have hc95:=u8n_eq (d:=95) h95
   have hr:=bad (by rw[hc95];simp[sw])
   rw[hr]
   subst hc95
   clear next bad hd hgi hgi' hc32 runEnd hd'
   repeat' (refine GIf.mk (fun hh=>?_) (fun hh=>?_)<;>conv=>whnf)
   all_goals first
    |(exact owes_wk (wk_t2 (Wk.sl _ _) (.refl _)) (Cl.tup (.cons (Cl.sl ClL.nil) (.cons (.b _) .nil))))
    |(exfalso;revert hh;decide)
    |(exfalso;simp_all;done)
 ·refine GIf.mk (fun h45=>?_) (fun h45=>?_)<;>conv=>whnf
  ·have hc45:=u8_eq (d:=45) h45
   refine GLoop.intro (fun k:Nat=>1<=k/\i+k<=s.length/\∀c∈t.take (k - 1),isInner c=true) (fun k=>[(0,.s s),(4,.sl (.own 1) (strG ws)),(5,.i .i64 (i:Nat)),(6,.i .u8 c.toNat),(7,.i .i64 (k:Nat))]) (fun _=>⟨[.own 0 0 0,ow 9 1 ws.length],0,[]⟩) (fun k=>s.length - k) 1
    ⟨rL _,hlt,fun c h=>by simp at h⟩ ⟨rfl,rfl,rfl,rfl,rfl,trivial⟩ rfl (fun k φ1 hk=>?_)
   obtain⟨hk1,hk2,hk3⟩:=hk
   have wk:IntKind.i64.wrap ((i:Int)+(k:Int))=((i+k:Nat):Int):=by rw[wrap_in (by omega) (by omega)];rfl
   conv=>whnf
   refine GIf.mk (fun g1=>?jn1) (fun g1=>?jn2)
   case' jn1=>
    have g1':i+k<s.length:=by have:=of_decide_eq_true g1;rw[wk] at this;omega
    have hge:s[i+k]?=some (s.getD (i+k) 0):=by rw[List.getD_eq_getElem?_getD,gL g1'];rfl
    conv=>whnf
    refine GNeed.mk (by rw[wk];exact cN _) ⟨s.getD (i+k) 0,by rw[wk,Int.toNat_natCast];exact hge,?_⟩
    conv=>whnf
    refine pcP (r_word (s.getD (i+k) 0)) ?_
    conv=>whnf
    refine GIf.mk (fun g2=>?jgo) (fun g2=>?jout)
   case' jgo=>
    conv=>whnf
    refine GLoop.next (k+1) ⟨by omega,by omega,?_⟩ (by omega) ⟨rfl,rfl,rfl,rfl,wrap_succ (by omega),trivial⟩ rfl
    intro c' hc'
    rw[show k+1 - 1=k - 1+1 by omega,List.take_add_one,hd',show i+1+(k - 1)=i+k by omega,hge] at hc'
    rcases List.mem_append.1 hc' with h|h
    ·exact hk3 c' h
    ·rw[List.mem_singleton.1 (show c'∈[s.getD (i+k) 0] from h)];exact g2
   case' jout=>
    have hkr:k=runW t:=(runEnd k hk1 hk3 (fun c' h=>by rw[hd',show i+1+(k - 1)=i+k by omega,hge] at h;cases h;exact g2)).resolve_right (by omega)
    clear hge g1' g1 g2
   case' jn2=>
    have hkr:k=runW t:=(runEnd k hk1 hk3 (fun c' h=>by
     have g1':s.length<=i+k:=by have:=of_decide_eq_false g1;rw[wk] at this;omega
     rw[hd',List.getElem?_eq_none (by omega)] at h;cases h)).resolve_right (by omega)
    clear g1
   all_goals
    conv=>whnf
    refine⟨cN _,?_⟩
    conv=>whnf
    refine⟨by rw[wk];exact cN _,⟨by rw[wk,Int.toNat_natCast,Int.toNat_natCast];omega,by rw[wk,Int.toNat_natCast];exact hk2⟩,(c::t).take k,by rw[wk,Int.toNat_natCast,Int.toNat_natCast,hd,Nat.add_sub_cancel_left],?_⟩
    conv=>whnf
    refine pcP (r_Whole ((c::t).take k) (by unfold most;rw[List.length_take];omega)) ?_
    conv=>whnf
    refine GIf.mk (fun hwn=>?_) (fun hwn=>?_)<;>conv=>whnf
    ·have hr:=bad (by simp only[sw];rw[if_neg (fun h=>by rw[hin] at h;exact absurd h.1 (by decide)),if_pos hc45,if_neg (by rw[<-hkr];simpa using hwn)])
     rw[hr]
     exact owes_wk (wk_t2 (Wk.sl _ _) (.refl _)) (Cl.tup (.cons (Cl.sl ClL.nil) (.cons (.b _) .nil)))
    have hk:sw (c::t)=some k:=by simp only[sw];rw[if_neg (fun h=>by rw[hin] at h;exact absurd h.1 (by decide)),if_pos hc45,if_pos (by rw[<-hkr];simpa using hwn),hkr]
    obtain⟨n1,n2,n3⟩:=next k hk
    refine⟨cN _,?_⟩
    conv=>whnf
    refine⟨by rw[wk];exact cN _,⟨by rw[wk,Int.toNat_natCast,Int.toNat_natCast];omega,by rw[wk,Int.toNat_natCast];exact hk2⟩,(c::t).take k,by rw[wk,Int.toNat_natCast,Int.toNat_natCast,hd,Nat.add_sub_cancel_left],?_⟩
    conv=>whnf
    cases ws with
    |nil=>
     refine⟨⟨rfl,strG_ok _,by show(strG ([]:List By)).length+1<=4294967296;rw[strG_len];omega⟩,strG (([]:List By)++[(c::t).take k]),(([]:List By)++[(c::t).take k]).length,⟨(by show strG (([]:List By)++[(c::t).take k])=strG ([]:List By)++[GV.s ((c::t).take k)];simp[strG]),by show _=(strG ([]:List By)).length+1;rw[strG_len];simp⟩,?_⟩
     conv=>whnf
     refine⟨⟨zL _,by first|rfl|(rw[strG_len];rfl)|(rw[strG_len];simp),by first|exact .inr ⟨rfl,rfl⟩|exact .inl ⟨rfl,rfl⟩⟩,?_⟩
     conv=>whnf
     exact⟨s.length - (i+k),(by show _<s.length - i;omega),(i+k,([]:List By)++[(c::t).take k]),⟨n1,(by show(([]:List By)++[(c::t).take k]).length<=i+k;rw[List.length_append,List.length_singleton];omega),n3⟩,rfl,⟨rfl,rfl,(by show GV.i .i64 (IntKind.i64.wrap ((i:Int)+(k:Int)))=_;rw[wk]),trivial⟩,_,rfl,rfl⟩
    |cons z ws=>
     refine⟨⟨rfl,strG_ok _,by show(strG (z::ws)).length+1<=4294967296;rw[strG_len];omega⟩,strG ((z::ws)++[(c::t).take k]),((z::ws)++[(c::t).take k]).length,⟨(by show strG ((z::ws)++[(c::t).take k])=strG (z::ws)++[GV.s ((c::t).take k)];simp[strG]),by show _=(strG (z::ws)).length+1;rw[strG_len];simp⟩,?_⟩
     conv=>whnf
     refine⟨⟨zL _,by first|rfl|(rw[strG_len];rfl)|(rw[strG_len];simp),by first|exact .inr ⟨rfl,rfl⟩|exact .inl ⟨rfl,rfl⟩⟩,?_⟩
     conv=>whnf
     exact⟨s.length - (i+k),(by show _<s.length - i;omega),(i+k,(z::ws)++[(c::t).take k]),⟨n1,(by show((z::ws)++[(c::t).take k]).length<=i+k;rw[List.length_append,List.length_singleton];omega),n3⟩,rfl,⟨rfl,rfl,(by show GV.i .i64 (IntKind.i64.wrap ((i:Int)+(k:Int)))=_;rw[wk]),trivial⟩,_,rfl,rfl⟩
  have hc45:=u8_ne (d:=45) h45
  have hni:¬(isInner c=true/\c≠95):=fun h=>by rw[hin] at h;exact absurd h.1 (by decide)
  refine GIf.mk (fun h34=>?_) (fun h34=>?_)<;>conv=>whnf
  ·have hc34:=u8_eq (d:=34) h34
   have hql:=quoteS_le (c::t)
   have hcq:=r_Quote s hs i hi
   rw[quoteS_drop,hd] at hcq
   generalize hkq:(quoteS (c::t) 0).2=k at hcq hql
   simp only[List.length_cons] at hql
   refine pcP hcq ?_
   conv=>whnf
   refine GIf.mk (fun hz=>?_) (fun hz=>?_)<;>conv=>whnf
   ·have hz0:k=0:=by simpa using hz
    have hr:=bad (by simp only[sw];rw[if_neg hni,if_neg hc45,if_pos hc34,if_pos (by rw[hkq,hz0])])
    rw[hr]
    exact owes_wk (wk_t2 (Wk.sl _ _) (.refl _)) (Cl.tup (.cons (Cl.sl ClL.nil) (.cons (.b _) .nil)))
   have hz0:k≠0:=by simpa using hz
   have hk:sw (c::t)=some k:=by simp only[sw];rw[if_neg hni,if_neg hc45,if_pos hc34,if_neg (by rw[hkq];exact hz0),hkq]
   have hk2:i+k<=s.length:=by omega
   have wk:IntKind.i64.wrap ((i:Int)+(k:Int))=((i+k:Nat):Int):=by rw[wrap_in (by omega) (by omega)];rfl
   obtain⟨n1,n2,n3⟩:=next k hk
   refine⟨cN _,?_⟩
   conv=>whnf
   refine⟨by rw[wk];exact cN _,⟨by rw[wk,Int.toNat_natCast,Int.toNat_natCast];omega,by rw[wk,Int.toNat_natCast];exact hk2⟩,(c::t).take k,by rw[wk,Int.toNat_natCast,Int.toNat_natCast,hd,Nat.add_sub_cancel_left],?_⟩
   conv=>whnf
   cases ws with
   |nil=>
    refine⟨⟨rfl,strG_ok _,by show(strG ([]:List By)).length+1<=4294967296;rw[strG_len];omega⟩,strG (([]:List By)++[(c::t).take k]),(([]:List By)++[(c::t).take k]).length,⟨(by show strG (([]:List By)++[(c::t).take k])=strG ([]:List By)++[GV.s ((c::t).take k)];simp[strG]),by show _=(strG ([]:List By)).length+1;rw[strG_len];simp⟩,?_⟩
    conv=>whnf
    refine⟨⟨zL _,by first|rfl|(rw[strG_len];rfl)|(rw[strG_len];simp),by first|exact .inr ⟨rfl,rfl⟩|exact .inl ⟨rfl,rfl⟩⟩,?_⟩
    conv=>whnf
    exact⟨s.length - (i+k),(by show _<s.length - i;omega),(i+k,([]:List By)++[(c::t).take k]),⟨n1,(by show(([]:List By)++[(c::t).take k]).length<=i+k;rw[List.length_append,List.length_singleton];omega),n3⟩,rfl,⟨rfl,rfl,(by show GV.i .i64 (IntKind.i64.wrap ((i:Int)+(k:Int)))=_;rw[wk]),trivial⟩,_,rfl,rfl⟩
   |cons z ws=>
    refine⟨⟨rfl,strG_ok _,by show(strG (z::ws)).length+1<=4294967296;rw[strG_len];omega⟩,strG ((z::ws)++[(c::t).take k]),((z::ws)++[(c::t).take k]).length,⟨(by show strG ((z::ws)++[(c::t).take k])=strG (z::ws)++[GV.s ((c::t).take k)];simp[strG]),by show _=(strG (z::ws)).length+1;rw[strG_len];simp⟩,?_⟩
    conv=>whnf
    refine⟨⟨zL _,by first|rfl|(rw[strG_len];rfl)|(rw[strG_len];simp),by first|exact .inr ⟨rfl,rfl⟩|exact .inl ⟨rfl,rfl⟩⟩,?_⟩
    conv=>whnf
    exact⟨s.length - (i+k),(by show _<s.length - i;omega),(i+k,(z::ws)++[(c::t).take k]),⟨n1,(by show((z::ws)++[(c::t).take k]).length<=i+k;rw[List.length_append,List.length_singleton];omega),n3⟩,rfl,⟨rfl,rfl,(by show GV.i .i64 (IntKind.i64.wrap ((i:Int)+(k:Int)))=_;rw[wk]),trivial⟩,_,rfl,rfl⟩
  have hc34:=u8_ne (d:=34) h34
  have S2:((c=60/\(t.head?=some 62∨t.head?=some 61))∨(c=62/\t.head?=some 61))->sw (c::t)=some 2:=fun h=>by
   simp only[sw];rw[if_neg hni,if_neg hc45,if_neg hc34,if_pos h]
  have S1:¬((c=60/\(t.head?=some 62∨t.head?=some 61))∨(c=62/\t.head?=some 61))->(c=40∨c=41∨c=58∨c=61∨c=60∨c=62)->sw (c::t)=some 1:=fun h h'=>by
   simp only[sw];rw[if_neg hni,if_neg hc45,if_neg hc34,if_neg h,if_pos h']
  have S0:¬(c=40∨c=41∨c=58∨c=61∨c=60∨c=62)->sw (c::t)=none:=fun h=>by
   simp only[sw];rw[if_neg hni,if_neg hc45,if_neg hc34,if_neg (fun e=>h (e.elim (fun e=>.inr (.inr (.inr (.inr (.inl e.1))))) (fun e=>.inr (.inr (.inr (.inr (.inr e.1))))))),if_neg h]
  have w1:IntKind.i64.wrap ((i:Int)+1)=((i+1:Nat):Int):=by rw[wrap_in (by omega) (by omega)];rfl
  refine GIf.mk (fun g60=>?_) (fun g60=>?_)<;>conv=>whnf
  ·have c60:=u8_eq (d:=60) g60
   refine GIf.mk (fun gl=>?_) (fun gl=>?_)<;>conv=>whnf
   ·skip
    have hge:s[i+1]?=some (s.getD (i+1) 0):=by
     have:i+1<s.length:=by have:=of_decide_eq_true gl;rw[w1] at this;omega
     rw[List.getD_eq_getElem?_getD,gL this];rfl
    have hth:t.head?=some (s.getD (i+1) 0):=by rw[<-hge,List.head?_eq_getElem?,hd']
    refine GNeed.mk (by rw[w1];exact cN _) ⟨s.getD (i+1) 0,by rw[w1,Int.toNat_natCast];exact hge,?_⟩
    conv=>whnf
    refine GIf.mk (fun e62=>?_) (fun e62=>?_)<;>conv=>whnf
    ·have hv:s.getD (i+1) 0=62:=u8_eq (d:=62) e62
     have hk:sw (c::t)=some 2:=S2 (.inl ⟨c60,.inl (by rw[hth,hv])⟩)
     have wk:IntKind.i64.wrap ((i:Int)+(2:Int))=((i+2:Nat):Int):=by rw[wrap_in (by omega) (by omega)];rfl
     have hk2:i+2<=s.length:=by have:=(sw_pos hk).2;simp only[List.length_cons] at this;omega
     obtain⟨n1,n2,n3⟩:=next 2 hk
     refine⟨cN _,?_⟩
     conv=>whnf
     refine⟨by rw[wk];exact cN _,⟨by rw[wk,Int.toNat_natCast,Int.toNat_natCast];omega,by rw[wk,Int.toNat_natCast];exact hk2⟩,(c::t).take 2,by rw[wk,Int.toNat_natCast,Int.toNat_natCast,hd,Nat.add_sub_cancel_left],?_⟩
     conv=>whnf
     cases ws with
     |nil=>
      refine⟨⟨rfl,strG_ok _,by show(strG ([]:List By)).length+1<=4294967296;rw[strG_len];omega⟩,strG (([]:List By)++[(c::t).take 2]),(([]:List By)++[(c::t).take 2]).length,⟨(by show strG (([]:List By)++[(c::t).take 2])=strG ([]:List By)++[GV.s ((c::t).take 2)];simp[strG]),by show _=(strG ([]:List By)).length+1;rw[strG_len];simp⟩,?_⟩
      conv=>whnf
      refine⟨⟨zL _,by first|rfl|(rw[strG_len];rfl)|(rw[strG_len];simp),by first|exact .inr ⟨rfl,rfl⟩|exact .inl ⟨rfl,rfl⟩⟩,?_⟩
      conv=>whnf
      exact⟨s.length - (i+2),(by show _<s.length - i;omega),(i+2,([]:List By)++[(c::t).take 2]),⟨n1,(by show(([]:List By)++[(c::t).take 2]).length<=i+2;rw[List.length_append,List.length_singleton];omega),n3⟩,rfl,⟨rfl,rfl,(by show GV.i .i64 (IntKind.i64.wrap ((i:Int)+(2:Int)))=_;rw[wk]),trivial⟩,_,rfl,rfl⟩
     |cons z ws=>
      refine⟨⟨rfl,strG_ok _,by show(strG (z::ws)).length+1<=4294967296;rw[strG_len];omega⟩,strG ((z::ws)++[(c::t).take 2]),((z::ws)++[(c::t).take 2]).length,⟨(by show strG ((z::ws)++[(c::t).take 2])=strG (z::ws)++[GV.s ((c::t).take 2)];simp[strG]),by show _=(strG (z::ws)).length+1;rw[strG_len];simp⟩,?_⟩
      conv=>whnf
      refine⟨⟨zL _,by first|rfl|(rw[strG_len];rfl)|(rw[strG_len];simp),by first|exact .inr ⟨rfl,rfl⟩|exact .inl ⟨rfl,rfl⟩⟩,?_⟩
      conv=>whnf
      exact⟨s.length - (i+2),(by show _<s.length - i;omega),(i+2,(z::ws)++[(c::t).take 2]),⟨n1,(by show((z::ws)++[(c::t).take 2]).length<=i+2;rw[List.length_append,List.length_singleton];omega),n3⟩,rfl,⟨rfl,rfl,(by show GV.i .i64 (IntKind.i64.wrap ((i:Int)+(2:Int)))=_;rw[wk]),trivial⟩,_,rfl,rfl⟩
    ·have hv62:=u8_ne (d:=62) e62
     refine GNeed.mk (by rw[w1];exact cN _) ⟨s.getD (i+1) 0,by rw[w1,Int.toNat_natCast];exact hge,?_⟩
     conv=>whnf
     refine GIf.mk (fun e61=>?_) (fun e61=>?_)<;>conv=>whnf
     ·have hv:s.getD (i+1) 0=61:=u8_eq (d:=61) e61
      have hk:sw (c::t)=some 2:=S2 (.inl ⟨c60,.inr (by rw[hth,hv])⟩)
      have wk:IntKind.i64.wrap ((i:Int)+(2:Int))=((i+2:Nat):Int):=by rw[wrap_in (by omega) (by omega)];rfl
      have hk2:i+2<=s.length:=by have:=(sw_pos hk).2;simp only[List.length_cons] at this;omega
      obtain⟨n1,n2,n3⟩:=next 2 hk
      refine⟨cN _,?_⟩
      conv=>whnf
      refine⟨by rw[wk];exact cN _,⟨by rw[wk,Int.toNat_natCast,Int.toNat_natCast];omega,by rw[wk,Int.toNat_natCast];exact hk2⟩,(c::t).take 2,by rw[wk,Int.toNat_natCast,Int.toNat_natCast,hd,Nat.add_sub_cancel_left],?_⟩
      conv=>whnf
      cases ws with
      |nil=>
       refine⟨⟨rfl,strG_ok _,by show(strG ([]:List By)).length+1<=4294967296;rw[strG_len];omega⟩,strG (([]:List By)++[(c::t).take 2]),(([]:List By)++[(c::t).take 2]).length,⟨(by show strG (([]:List By)++[(c::t).take 2])=strG ([]:List By)++[GV.s ((c::t).take 2)];simp[strG]),by show _=(strG ([]:List By)).length+1;rw[strG_len];simp⟩,?_⟩
       conv=>whnf
       refine⟨⟨zL _,by first|rfl|(rw[strG_len];rfl)|(rw[strG_len];simp),by first|exact .inr ⟨rfl,rfl⟩|exact .inl ⟨rfl,rfl⟩⟩,?_⟩
       conv=>whnf
       exact⟨s.length - (i+2),(by show _<s.length - i;omega),(i+2,([]:List By)++[(c::t).take 2]),⟨n1,(by show(([]:List By)++[(c::t).take 2]).length<=i+2;rw[List.length_append,List.length_singleton];omega),n3⟩,rfl,⟨rfl,rfl,(by show GV.i .i64 (IntKind.i64.wrap ((i:Int)+(2:Int)))=_;rw[wk]),trivial⟩,_,rfl,rfl⟩
      |cons z ws=>
       refine⟨⟨rfl,strG_ok _,by show(strG (z::ws)).length+1<=4294967296;rw[strG_len];omega⟩,strG ((z::ws)++[(c::t).take 2]),((z::ws)++[(c::t).take 2]).length,⟨(by show strG ((z::ws)++[(c::t).take 2])=strG (z::ws)++[GV.s ((c::t).take 2)];simp[strG]),by show _=(strG (z::ws)).length+1;rw[strG_len];simp⟩,?_⟩
       conv=>whnf
       refine⟨⟨zL _,by first|rfl|(rw[strG_len];rfl)|(rw[strG_len];simp),by first|exact .inr ⟨rfl,rfl⟩|exact .inl ⟨rfl,rfl⟩⟩,?_⟩
       conv=>whnf
       exact⟨s.length - (i+2),(by show _<s.length - i;omega),(i+2,(z::ws)++[(c::t).take 2]),⟨n1,(by show((z::ws)++[(c::t).take 2]).length<=i+2;rw[List.length_append,List.length_singleton];omega),n3⟩,rfl,⟨rfl,rfl,(by show GV.i .i64 (IntKind.i64.wrap ((i:Int)+(2:Int)))=_;rw[wk]),trivial⟩,_,rfl,rfl⟩
     ·have hv61:=u8_ne (d:=61) e61
      have neg:¬((c=60/\(t.head?=some 62∨t.head?=some 61))∨(c=62/\t.head?=some 61)):=by
       rw[hth]
       rintro(⟨_,h|h⟩|⟨h,_⟩)
       ·exact hv62 (Option.some.inj h)
       ·exact hv61 (Option.some.inj h)
       ·rw[c60] at h;exact absurd h (by decide)
      repeat' (refine GIf.mk (fun hh=>?_) (fun hh=>?_)<;>first|(exfalso;rw[c60] at hh;revert hh;decide)|(conv=>whnf))
      have hk:sw (c::t)=some 1:=S1 (neg) (.inr (.inr (.inr (.inr (.inl c60)))))
      have wk:=w1
      have hk2:i+1<=s.length:=hlt
      obtain⟨n1,n2,n3⟩:=next 1 hk
      refine⟨cN _,?_⟩
      conv=>whnf
      refine⟨by rw[wk];exact cN _,⟨by rw[wk,Int.toNat_natCast,Int.toNat_natCast];omega,by rw[wk,Int.toNat_natCast];exact hk2⟩,(c::t).take 1,by rw[wk,Int.toNat_natCast,Int.toNat_natCast,hd,Nat.add_sub_cancel_left],?_⟩
      conv=>whnf
      cases ws with
      |nil=>
       refine⟨⟨rfl,strG_ok _,by show(strG ([]:List By)).length+1<=4294967296;rw[strG_len];omega⟩,strG (([]:List By)++[(c::t).take 1]),(([]:List By)++[(c::t).take 1]).length,⟨(by show strG (([]:List By)++[(c::t).take 1])=strG ([]:List By)++[GV.s ((c::t).take 1)];simp[strG]),by show _=(strG ([]:List By)).length+1;rw[strG_len];simp⟩,?_⟩
       conv=>whnf
       refine⟨⟨zL _,by first|rfl|(rw[strG_len];rfl)|(rw[strG_len];simp),by first|exact .inr ⟨rfl,rfl⟩|exact .inl ⟨rfl,rfl⟩⟩,?_⟩
       conv=>whnf
       exact⟨s.length - (i+1),(by show _<s.length - i;omega),(i+1,([]:List By)++[(c::t).take 1]),⟨n1,(by show(([]:List By)++[(c::t).take 1]).length<=i+1;rw[List.length_append,List.length_singleton];omega),n3⟩,rfl,⟨rfl,rfl,(by show GV.i .i64 (IntKind.i64.wrap ((i:Int)+(1:Int)))=_;rw[wk]),trivial⟩,_,rfl,rfl⟩
      |cons z ws=>
       refine⟨⟨rfl,strG_ok _,by show(strG (z::ws)).length+1<=4294967296;rw[strG_len];omega⟩,strG ((z::ws)++[(c::t).take 1]),((z::ws)++[(c::t).take 1]).length,⟨(by show strG ((z::ws)++[(c::t).take 1])=strG (z::ws)++[GV.s ((c::t).take 1)];simp[strG]),by show _=(strG (z::ws)).length+1;rw[strG_len];simp⟩,?_⟩
       conv=>whnf
       refine⟨⟨zL _,by first|rfl|(rw[strG_len];rfl)|(rw[strG_len];simp),by first|exact .inr ⟨rfl,rfl⟩|exact .inl ⟨rfl,rfl⟩⟩,?_⟩
       conv=>whnf
       exact⟨s.length - (i+1),(by show _<s.length - i;omega),(i+1,(z::ws)++[(c::t).take 1]),⟨n1,(by show((z::ws)++[(c::t).take 1]).length<=i+1;rw[List.length_append,List.length_singleton];omega),n3⟩,rfl,⟨rfl,rfl,(by show GV.i .i64 (IntKind.i64.wrap ((i:Int)+(1:Int)))=_;rw[wk]),trivial⟩,_,rfl,rfl⟩
   ·skip
    have hth:t.head?=none:=by
     have:¬i+1<s.length:=by have:=of_decide_eq_false gl;rw[w1] at this;omega
     rw[List.head?_eq_getElem?,hd'];exact List.getElem?_eq_none (by omega)
    have neg:¬((c=60/\(t.head?=some 62∨t.head?=some 61))∨(c=62/\t.head?=some 61)):=by
     rw[hth]
     rintro(⟨_,h|h⟩|⟨h,_⟩)
     ·cases h
     ·cases h
     ·rw[c60] at h;exact absurd h (by decide)
    repeat' (refine GIf.mk (fun hh=>?_) (fun hh=>?_)<;>first|(exfalso;rw[c60] at hh;revert hh;decide)|(conv=>whnf))
    have hk:sw (c::t)=some 1:=S1 (neg) (.inr (.inr (.inr (.inr (.inl c60)))))
    have wk:=w1
    have hk2:i+1<=s.length:=hlt
    obtain⟨n1,n2,n3⟩:=next 1 hk
    refine⟨cN _,?_⟩
    conv=>whnf
    refine⟨by rw[wk];exact cN _,⟨by rw[wk,Int.toNat_natCast,Int.toNat_natCast];omega,by rw[wk,Int.toNat_natCast];exact hk2⟩,(c::t).take 1,by rw[wk,Int.toNat_natCast,Int.toNat_natCast,hd,Nat.add_sub_cancel_left],?_⟩
    conv=>whnf
    cases ws with
    |nil=>
     refine⟨⟨rfl,strG_ok _,by show(strG ([]:List By)).length+1<=4294967296;rw[strG_len];omega⟩,strG (([]:List By)++[(c::t).take 1]),(([]:List By)++[(c::t).take 1]).length,⟨(by show strG (([]:List By)++[(c::t).take 1])=strG ([]:List By)++[GV.s ((c::t).take 1)];simp[strG]),by show _=(strG ([]:List By)).length+1;rw[strG_len];simp⟩,?_⟩
     conv=>whnf
     refine⟨⟨zL _,by first|rfl|(rw[strG_len];rfl)|(rw[strG_len];simp),by first|exact .inr ⟨rfl,rfl⟩|exact .inl ⟨rfl,rfl⟩⟩,?_⟩
     conv=>whnf
     exact⟨s.length - (i+1),(by show _<s.length - i;omega),(i+1,([]:List By)++[(c::t).take 1]),⟨n1,(by show(([]:List By)++[(c::t).take 1]).length<=i+1;rw[List.length_append,List.length_singleton];omega),n3⟩,rfl,⟨rfl,rfl,(by show GV.i .i64 (IntKind.i64.wrap ((i:Int)+(1:Int)))=_;rw[wk]),trivial⟩,_,rfl,rfl⟩
    |cons z ws=>
     refine⟨⟨rfl,strG_ok _,by show(strG (z::ws)).length+1<=4294967296;rw[strG_len];omega⟩,strG ((z::ws)++[(c::t).take 1]),((z::ws)++[(c::t).take 1]).length,⟨(by show strG ((z::ws)++[(c::t).take 1])=strG (z::ws)++[GV.s ((c::t).take 1)];simp[strG]),by show _=(strG (z::ws)).length+1;rw[strG_len];simp⟩,?_⟩
     conv=>whnf
     refine⟨⟨zL _,by first|rfl|(rw[strG_len];rfl)|(rw[strG_len];simp),by first|exact .inr ⟨rfl,rfl⟩|exact .inl ⟨rfl,rfl⟩⟩,?_⟩
     conv=>whnf
     exact⟨s.length - (i+1),(by show _<s.length - i;omega),(i+1,(z::ws)++[(c::t).take 1]),⟨n1,(by show((z::ws)++[(c::t).take 1]).length<=i+1;rw[List.length_append,List.length_singleton];omega),n3⟩,rfl,⟨rfl,rfl,(by show GV.i .i64 (IntKind.i64.wrap ((i:Int)+(1:Int)))=_;rw[wk]),trivial⟩,_,rfl,rfl⟩
  ·have c60:=u8_ne (d:=60) g60
   refine GIf.mk (fun g62=>?_) (fun g62=>?_)<;>conv=>whnf
   ·have c62:=u8_eq (d:=62) g62
    refine GIf.mk (fun gl=>?_) (fun gl=>?_)<;>conv=>whnf
    ·skip
     have hge:s[i+1]?=some (s.getD (i+1) 0):=by
      have:i+1<s.length:=by have:=of_decide_eq_true gl;rw[w1] at this;omega
      rw[List.getD_eq_getElem?_getD,gL this];rfl
     have hth:t.head?=some (s.getD (i+1) 0):=by rw[<-hge,List.head?_eq_getElem?,hd']
     refine GNeed.mk (by rw[w1];exact cN _) ⟨s.getD (i+1) 0,by rw[w1,Int.toNat_natCast];exact hge,?_⟩
     conv=>whnf
     refine GIf.mk (fun e61=>?_) (fun e61=>?_)<;>conv=>whnf
     ·have hv:s.getD (i+1) 0=61:=u8_eq (d:=61) e61
      have hk:sw (c::t)=some 2:=S2 (.inr ⟨c62,by rw[hth,hv]⟩)
      have wk:IntKind.i64.wrap ((i:Int)+(2:Int))=((i+2:Nat):Int):=by rw[wrap_in (by omega) (by omega)];rfl
      have hk2:i+2<=s.length:=by have:=(sw_pos hk).2;simp only[List.length_cons] at this;omega
      obtain⟨n1,n2,n3⟩:=next 2 hk
      refine⟨cN _,?_⟩
      conv=>whnf
      refine⟨by rw[wk];exact cN _,⟨by rw[wk,Int.toNat_natCast,Int.toNat_natCast];omega,by rw[wk,Int.toNat_natCast];exact hk2⟩,(c::t).take 2,by rw[wk,Int.toNat_natCast,Int.toNat_natCast,hd,Nat.add_sub_cancel_left],?_⟩
      conv=>whnf
      cases ws with
      |nil=>
       refine⟨⟨rfl,strG_ok _,by show(strG ([]:List By)).length+1<=4294967296;rw[strG_len];omega⟩,strG (([]:List By)++[(c::t).take 2]),(([]:List By)++[(c::t).take 2]).length,⟨(by show strG (([]:List By)++[(c::t).take 2])=strG ([]:List By)++[GV.s ((c::t).take 2)];simp[strG]),by show _=(strG ([]:List By)).length+1;rw[strG_len];simp⟩,?_⟩
       conv=>whnf
       refine⟨⟨zL _,by first|rfl|(rw[strG_len];rfl)|(rw[strG_len];simp),by first|exact .inr ⟨rfl,rfl⟩|exact .inl ⟨rfl,rfl⟩⟩,?_⟩
       conv=>whnf
       exact⟨s.length - (i+2),(by show _<s.length - i;omega),(i+2,([]:List By)++[(c::t).take 2]),⟨n1,(by show(([]:List By)++[(c::t).take 2]).length<=i+2;rw[List.length_append,List.length_singleton];omega),n3⟩,rfl,⟨rfl,rfl,(by show GV.i .i64 (IntKind.i64.wrap ((i:Int)+(2:Int)))=_;rw[wk]),trivial⟩,_,rfl,rfl⟩
      |cons z ws=>
       refine⟨⟨rfl,strG_ok _,by show(strG (z::ws)).length+1<=4294967296;rw[strG_len];omega⟩,strG ((z::ws)++[(c::t).take 2]),((z::ws)++[(c::t).take 2]).length,⟨(by show strG ((z::ws)++[(c::t).take 2])=strG (z::ws)++[GV.s ((c::t).take 2)];simp[strG]),by show _=(strG (z::ws)).length+1;rw[strG_len];simp⟩,?_⟩
       conv=>whnf
       refine⟨⟨zL _,by first|rfl|(rw[strG_len];rfl)|(rw[strG_len];simp),by first|exact .inr ⟨rfl,rfl⟩|exact .inl ⟨rfl,rfl⟩⟩,?_⟩
       conv=>whnf
       exact⟨s.length - (i+2),(by show _<s.length - i;omega),(i+2,(z::ws)++[(c::t).take 2]),⟨n1,(by show((z::ws)++[(c::t).take 2]).length<=i+2;rw[List.length_append,List.length_singleton];omega),n3⟩,rfl,⟨rfl,rfl,(by show GV.i .i64 (IntKind.i64.wrap ((i:Int)+(2:Int)))=_;rw[wk]),trivial⟩,_,rfl,rfl⟩
     ·have hv61:=u8_ne (d:=61) e61
      have neg:¬((c=60/\(t.head?=some 62∨t.head?=some 61))∨(c=62/\t.head?=some 61)):=by
       rw[hth]
       rintro(⟨h,_⟩|⟨_,h⟩)
       ·exact c60 h
       ·exact hv61 (Option.some.inj h)
      repeat' (refine GIf.mk (fun hh=>?_) (fun hh=>?_)<;>first|(exfalso;rw[c62] at hh;revert hh;decide)|(conv=>whnf))
      have hk:sw (c::t)=some 1:=S1 (neg) (.inr (.inr (.inr (.inr (.inr c62)))))
      have wk:=w1
      have hk2:i+1<=s.length:=hlt
      obtain⟨n1,n2,n3⟩:=next 1 hk
      refine⟨cN _,?_⟩
      conv=>whnf
      refine⟨by rw[wk];exact cN _,⟨by rw[wk,Int.toNat_natCast,Int.toNat_natCast];omega,by rw[wk,Int.toNat_natCast];exact hk2⟩,(c::t).take 1,by rw[wk,Int.toNat_natCast,Int.toNat_natCast,hd,Nat.add_sub_cancel_left],?_⟩
      conv=>whnf
      cases ws with
      |nil=>
       refine⟨⟨rfl,strG_ok _,by show(strG ([]:List By)).length+1<=4294967296;rw[strG_len];omega⟩,strG (([]:List By)++[(c::t).take 1]),(([]:List By)++[(c::t).take 1]).length,⟨(by show strG (([]:List By)++[(c::t).take 1])=strG ([]:List By)++[GV.s ((c::t).take 1)];simp[strG]),by show _=(strG ([]:List By)).length+1;rw[strG_len];simp⟩,?_⟩
       conv=>whnf
       refine⟨⟨zL _,by first|rfl|(rw[strG_len];rfl)|(rw[strG_len];simp),by first|exact .inr ⟨rfl,rfl⟩|exact .inl ⟨rfl,rfl⟩⟩,?_⟩
       conv=>whnf
       exact⟨s.length - (i+1),(by show _<s.length - i;omega),(i+1,([]:List By)++[(c::t).take 1]),⟨n1,(by show(([]:List By)++[(c::t).take 1]).length<=i+1;rw[List.length_append,List.length_singleton];omega),n3⟩,rfl,⟨rfl,rfl,(by show GV.i .i64 (IntKind.i64.wrap ((i:Int)+(1:Int)))=_;rw[wk]),trivial⟩,_,rfl,rfl⟩
      |cons z ws=>
       refine⟨⟨rfl,strG_ok _,by show(strG (z::ws)).length+1<=4294967296;rw[strG_len];omega⟩,strG ((z::ws)++[(c::t).take 1]),((z::ws)++[(c::t).take 1]).length,⟨(by show strG ((z::ws)++[(c::t).take 1])=strG (z::ws)++[GV.s ((c::t).take 1)];simp[strG]),by show _=(strG (z::ws)).length+1;rw[strG_len];simp⟩,?_⟩
       conv=>whnf
       refine⟨⟨zL _,by first|rfl|(rw[strG_len];rfl)|(rw[strG_len];simp),by first|exact .inr ⟨rfl,rfl⟩|exact .inl ⟨rfl,rfl⟩⟩,?_⟩
       conv=>whnf
       exact⟨s.length - (i+1),(by show _<s.length - i;omega),(i+1,(z::ws)++[(c::t).take 1]),⟨n1,(by show((z::ws)++[(c::t).take 1]).length<=i+1;rw[List.length_append,List.length_singleton];omega),n3⟩,rfl,⟨rfl,rfl,(by show GV.i .i64 (IntKind.i64.wrap ((i:Int)+(1:Int)))=_;rw[wk]),trivial⟩,_,rfl,rfl⟩
    ·skip
     have hth:t.head?=none:=by
      have:¬i+1<s.length:=by have:=of_decide_eq_false gl;rw[w1] at this;omega
      rw[List.head?_eq_getElem?,hd'];exact List.getElem?_eq_none (by omega)
     have neg:¬((c=60/\(t.head?=some 62∨t.head?=some 61))∨(c=62/\t.head?=some 61)):=by
      rw[hth]
      rintro(⟨h,_⟩|⟨_,h⟩)
      ·exact c60 h
      ·cases h
     repeat' (refine GIf.mk (fun hh=>?_) (fun hh=>?_)<;>first|(exfalso;rw[c62] at hh;revert hh;decide)|(conv=>whnf))
     have hk:sw (c::t)=some 1:=S1 (neg) (.inr (.inr (.inr (.inr (.inr c62)))))
     have wk:=w1
     have hk2:i+1<=s.length:=hlt
     obtain⟨n1,n2,n3⟩:=next 1 hk
     refine⟨cN _,?_⟩
     conv=>whnf
     refine⟨by rw[wk];exact cN _,⟨by rw[wk,Int.toNat_natCast,Int.toNat_natCast];omega,by rw[wk,Int.toNat_natCast];exact hk2⟩,(c::t).take 1,by rw[wk,Int.toNat_natCast,Int.toNat_natCast,hd,Nat.add_sub_cancel_left],?_⟩
     conv=>whnf
     cases ws with
     |nil=>
      refine⟨⟨rfl,strG_ok _,by show(strG ([]:List By)).length+1<=4294967296;rw[strG_len];omega⟩,strG (([]:List By)++[(c::t).take 1]),(([]:List By)++[(c::t).take 1]).length,⟨(by show strG (([]:List By)++[(c::t).take 1])=strG ([]:List By)++[GV.s ((c::t).take 1)];simp[strG]),by show _=(strG ([]:List By)).length+1;rw[strG_len];simp⟩,?_⟩
      conv=>whnf
      refine⟨⟨zL _,by first|rfl|(rw[strG_len];rfl)|(rw[strG_len];simp),by first|exact .inr ⟨rfl,rfl⟩|exact .inl ⟨rfl,rfl⟩⟩,?_⟩
      conv=>whnf
      exact⟨s.length - (i+1),(by show _<s.length - i;omega),(i+1,([]:List By)++[(c::t).take 1]),⟨n1,(by show(([]:List By)++[(c::t).take 1]).length<=i+1;rw[List.length_append,List.length_singleton];omega),n3⟩,rfl,⟨rfl,rfl,(by show GV.i .i64 (IntKind.i64.wrap ((i:Int)+(1:Int)))=_;rw[wk]),trivial⟩,_,rfl,rfl⟩
     |cons z ws=>
      refine⟨⟨rfl,strG_ok _,by show(strG (z::ws)).length+1<=4294967296;rw[strG_len];omega⟩,strG ((z::ws)++[(c::t).take 1]),((z::ws)++[(c::t).take 1]).length,⟨(by show strG ((z::ws)++[(c::t).take 1])=strG (z::ws)++[GV.s ((c::t).take 1)];simp[strG]),by show _=(strG (z::ws)).length+1;rw[strG_len];simp⟩,?_⟩
      conv=>whnf
      refine⟨⟨zL _,by first|rfl|(rw[strG_len];rfl)|(rw[strG_len];simp),by first|exact .inr ⟨rfl,rfl⟩|exact .inl ⟨rfl,rfl⟩⟩,?_⟩
      conv=>whnf
      exact⟨s.length - (i+1),(by show _<s.length - i;omega),(i+1,(z::ws)++[(c::t).take 1]),⟨n1,(by show((z::ws)++[(c::t).take 1]).length<=i+1;rw[List.length_append,List.length_singleton];omega),n3⟩,rfl,⟨rfl,rfl,(by show GV.i .i64 (IntKind.i64.wrap ((i:Int)+(1:Int)))=_;rw[wk]),trivial⟩,_,rfl,rfl⟩
   ·have c62:=u8_ne (d:=62) g62
    have neg:¬((c=60/\(t.head?=some 62∨t.head?=some 61))∨(c=62/\t.head?=some 61)):=by
     rintro(⟨h,_⟩|⟨h,_⟩)
     ·exact c60 h
     ·exact c62 h
    refine GIf.mk (fun g=>?_) (fun g=>?_)<;>conv=>whnf
    rotate_left
    ·have m:=u8n_eq (d:=40) g
     have hk:sw (c::t)=some 1:=S1 (neg) (.inl m)
     have wk:=w1
     have hk2:i+1<=s.length:=hlt
     obtain⟨n1,n2,n3⟩:=next 1 hk
     refine⟨cN _,?_⟩
     conv=>whnf
     refine⟨by rw[wk];exact cN _,⟨by rw[wk,Int.toNat_natCast,Int.toNat_natCast];omega,by rw[wk,Int.toNat_natCast];exact hk2⟩,(c::t).take 1,by rw[wk,Int.toNat_natCast,Int.toNat_natCast,hd,Nat.add_sub_cancel_left],?_⟩
     conv=>whnf
     cases ws with
     |nil=>
      refine⟨⟨rfl,strG_ok _,by show(strG ([]:List By)).length+1<=4294967296;rw[strG_len];omega⟩,strG (([]:List By)++[(c::t).take 1]),(([]:List By)++[(c::t).take 1]).length,⟨(by show strG (([]:List By)++[(c::t).take 1])=strG ([]:List By)++[GV.s ((c::t).take 1)];simp[strG]),by show _=(strG ([]:List By)).length+1;rw[strG_len];simp⟩,?_⟩
      conv=>whnf
      refine⟨⟨zL _,by first|rfl|(rw[strG_len];rfl)|(rw[strG_len];simp),by first|exact .inr ⟨rfl,rfl⟩|exact .inl ⟨rfl,rfl⟩⟩,?_⟩
      conv=>whnf
      exact⟨s.length - (i+1),(by show _<s.length - i;omega),(i+1,([]:List By)++[(c::t).take 1]),⟨n1,(by show(([]:List By)++[(c::t).take 1]).length<=i+1;rw[List.length_append,List.length_singleton];omega),n3⟩,rfl,⟨rfl,rfl,(by show GV.i .i64 (IntKind.i64.wrap ((i:Int)+(1:Int)))=_;rw[wk]),trivial⟩,_,rfl,rfl⟩
     |cons z ws=>
      refine⟨⟨rfl,strG_ok _,by show(strG (z::ws)).length+1<=4294967296;rw[strG_len];omega⟩,strG ((z::ws)++[(c::t).take 1]),((z::ws)++[(c::t).take 1]).length,⟨(by show strG ((z::ws)++[(c::t).take 1])=strG (z::ws)++[GV.s ((c::t).take 1)];simp[strG]),by show _=(strG (z::ws)).length+1;rw[strG_len];simp⟩,?_⟩
      conv=>whnf
      refine⟨⟨zL _,by first|rfl|(rw[strG_len];rfl)|(rw[strG_len];simp),by first|exact .inr ⟨rfl,rfl⟩|exact .inl ⟨rfl,rfl⟩⟩,?_⟩
      conv=>whnf
      exact⟨s.length - (i+1),(by show _<s.length - i;omega),(i+1,(z::ws)++[(c::t).take 1]),⟨n1,(by show((z::ws)++[(c::t).take 1]).length<=i+1;rw[List.length_append,List.length_singleton];omega),n3⟩,rfl,⟨rfl,rfl,(by show GV.i .i64 (IntKind.i64.wrap ((i:Int)+(1:Int)))=_;rw[wk]),trivial⟩,_,rfl,rfl⟩
    have m40:=u8n_ne (d:=40) g
    refine GIf.mk (fun g=>?_) (fun g=>?_)<;>conv=>whnf
    rotate_left
    ·have m:=u8n_eq (d:=41) g
     have hk:sw (c::t)=some 1:=S1 (neg) (.inr (.inl m))
     have wk:=w1
     have hk2:i+1<=s.length:=hlt
     obtain⟨n1,n2,n3⟩:=next 1 hk
     refine⟨cN _,?_⟩
     conv=>whnf
     refine⟨by rw[wk];exact cN _,⟨by rw[wk,Int.toNat_natCast,Int.toNat_natCast];omega,by rw[wk,Int.toNat_natCast];exact hk2⟩,(c::t).take 1,by rw[wk,Int.toNat_natCast,Int.toNat_natCast,hd,Nat.add_sub_cancel_left],?_⟩
     conv=>whnf
     cases ws with
     |nil=>
      refine⟨⟨rfl,strG_ok _,by show(strG ([]:List By)).length+1<=4294967296;rw[strG_len];omega⟩,strG (([]:List By)++[(c::t).take 1]),(([]:List By)++[(c::t).take 1]).length,⟨(by show strG (([]:List By)++[(c::t).take 1])=strG ([]:List By)++[GV.s ((c::t).take 1)];simp[strG]),by show _=(strG ([]:List By)).length+1;rw[strG_len];simp⟩,?_⟩
      conv=>whnf
      refine⟨⟨zL _,by first|rfl|(rw[strG_len];rfl)|(rw[strG_len];simp),by first|exact .inr ⟨rfl,rfl⟩|exact .inl ⟨rfl,rfl⟩⟩,?_⟩
      conv=>whnf
      exact⟨s.length - (i+1),(by show _<s.length - i;omega),(i+1,([]:List By)++[(c::t).take 1]),⟨n1,(by show(([]:List By)++[(c::t).take 1]).length<=i+1;rw[List.length_append,List.length_singleton];omega),n3⟩,rfl,⟨rfl,rfl,(by show GV.i .i64 (IntKind.i64.wrap ((i:Int)+(1:Int)))=_;rw[wk]),trivial⟩,_,rfl,rfl⟩
     |cons z ws=>
      refine⟨⟨rfl,strG_ok _,by show(strG (z::ws)).length+1<=4294967296;rw[strG_len];omega⟩,strG ((z::ws)++[(c::t).take 1]),((z::ws)++[(c::t).take 1]).length,⟨(by show strG ((z::ws)++[(c::t).take 1])=strG (z::ws)++[GV.s ((c::t).take 1)];simp[strG]),by show _=(strG (z::ws)).length+1;rw[strG_len];simp⟩,?_⟩
      conv=>whnf
      refine⟨⟨zL _,by first|rfl|(rw[strG_len];rfl)|(rw[strG_len];simp),by first|exact .inr ⟨rfl,rfl⟩|exact .inl ⟨rfl,rfl⟩⟩,?_⟩
      conv=>whnf
      exact⟨s.length - (i+1),(by show _<s.length - i;omega),(i+1,(z::ws)++[(c::t).take 1]),⟨n1,(by show((z::ws)++[(c::t).take 1]).length<=i+1;rw[List.length_append,List.length_singleton];omega),n3⟩,rfl,⟨rfl,rfl,(by show GV.i .i64 (IntKind.i64.wrap ((i:Int)+(1:Int)))=_;rw[wk]),trivial⟩,_,rfl,rfl⟩
    have m41:=u8n_ne (d:=41) g
    refine GIf.mk (fun g=>?_) (fun g=>?_)<;>conv=>whnf
    rotate_left
    ·have m:=u8n_eq (d:=58) g
     have hk:sw (c::t)=some 1:=S1 (neg) (.inr (.inr (.inl m)))
     have wk:=w1
     have hk2:i+1<=s.length:=hlt
     obtain⟨n1,n2,n3⟩:=next 1 hk
     refine⟨cN _,?_⟩
     conv=>whnf
     refine⟨by rw[wk];exact cN _,⟨by rw[wk,Int.toNat_natCast,Int.toNat_natCast];omega,by rw[wk,Int.toNat_natCast];exact hk2⟩,(c::t).take 1,by rw[wk,Int.toNat_natCast,Int.toNat_natCast,hd,Nat.add_sub_cancel_left],?_⟩
     conv=>whnf
     cases ws with
     |nil=>
      refine⟨⟨rfl,strG_ok _,by show(strG ([]:List By)).length+1<=4294967296;rw[strG_len];omega⟩,strG (([]:List By)++[(c::t).take 1]),(([]:List By)++[(c::t).take 1]).length,⟨(by show strG (([]:List By)++[(c::t).take 1])=strG ([]:List By)++[GV.s ((c::t).take 1)];simp[strG]),by show _=(strG ([]:List By)).length+1;rw[strG_len];simp⟩,?_⟩
      conv=>whnf
      refine⟨⟨zL _,by first|rfl|(rw[strG_len];rfl)|(rw[strG_len];simp),by first|exact .inr ⟨rfl,rfl⟩|exact .inl ⟨rfl,rfl⟩⟩,?_⟩
      conv=>whnf
      exact⟨s.length - (i+1),(by show _<s.length - i;omega),(i+1,([]:List By)++[(c::t).take 1]),⟨n1,(by show(([]:List By)++[(c::t).take 1]).length<=i+1;rw[List.length_append,List.length_singleton];omega),n3⟩,rfl,⟨rfl,rfl,(by show GV.i .i64 (IntKind.i64.wrap ((i:Int)+(1:Int)))=_;rw[wk]),trivial⟩,_,rfl,rfl⟩
     |cons z ws=>
      refine⟨⟨rfl,strG_ok _,by show(strG (z::ws)).length+1<=4294967296;rw[strG_len];omega⟩,strG ((z::ws)++[(c::t).take 1]),((z::ws)++[(c::t).take 1]).length,⟨(by show strG ((z::ws)++[(c::t).take 1])=strG (z::ws)++[GV.s ((c::t).take 1)];simp[strG]),by show _=(strG (z::ws)).length+1;rw[strG_len];simp⟩,?_⟩
      conv=>whnf
      refine⟨⟨zL _,by first|rfl|(rw[strG_len];rfl)|(rw[strG_len];simp),by first|exact .inr ⟨rfl,rfl⟩|exact .inl ⟨rfl,rfl⟩⟩,?_⟩
      conv=>whnf
      exact⟨s.length - (i+1),(by show _<s.length - i;omega),(i+1,(z::ws)++[(c::t).take 1]),⟨n1,(by show((z::ws)++[(c::t).take 1]).length<=i+1;rw[List.length_append,List.length_singleton];omega),n3⟩,rfl,⟨rfl,rfl,(by show GV.i .i64 (IntKind.i64.wrap ((i:Int)+(1:Int)))=_;rw[wk]),trivial⟩,_,rfl,rfl⟩
    have m58:=u8n_ne (d:=58) g
    refine GIf.mk (fun g=>?_) (fun g=>?_)<;>conv=>whnf
    rotate_left
    ·have m:=u8n_eq (d:=61) g
     have hk:sw (c::t)=some 1:=S1 (neg) (.inr (.inr (.inr (.inl m))))
     have wk:=w1
     have hk2:i+1<=s.length:=hlt
     obtain⟨n1,n2,n3⟩:=next 1 hk
     refine⟨cN _,?_⟩
     conv=>whnf
     refine⟨by rw[wk];exact cN _,⟨by rw[wk,Int.toNat_natCast,Int.toNat_natCast];omega,by rw[wk,Int.toNat_natCast];exact hk2⟩,(c::t).take 1,by rw[wk,Int.toNat_natCast,Int.toNat_natCast,hd,Nat.add_sub_cancel_left],?_⟩
     conv=>whnf
     cases ws with
     |nil=>
      refine⟨⟨rfl,strG_ok _,by show(strG ([]:List By)).length+1<=4294967296;rw[strG_len];omega⟩,strG (([]:List By)++[(c::t).take 1]),(([]:List By)++[(c::t).take 1]).length,⟨(by show strG (([]:List By)++[(c::t).take 1])=strG ([]:List By)++[GV.s ((c::t).take 1)];simp[strG]),by show _=(strG ([]:List By)).length+1;rw[strG_len];simp⟩,?_⟩
      conv=>whnf
      refine⟨⟨zL _,by first|rfl|(rw[strG_len];rfl)|(rw[strG_len];simp),by first|exact .inr ⟨rfl,rfl⟩|exact .inl ⟨rfl,rfl⟩⟩,?_⟩
      conv=>whnf
      exact⟨s.length - (i+1),(by show _<s.length - i;omega),(i+1,([]:List By)++[(c::t).take 1]),⟨n1,(by show(([]:List By)++[(c::t).take 1]).length<=i+1;rw[List.length_append,List.length_singleton];omega),n3⟩,rfl,⟨rfl,rfl,(by show GV.i .i64 (IntKind.i64.wrap ((i:Int)+(1:Int)))=_;rw[wk]),trivial⟩,_,rfl,rfl⟩
     |cons z ws=>
      refine⟨⟨rfl,strG_ok _,by show(strG (z::ws)).length+1<=4294967296;rw[strG_len];omega⟩,strG ((z::ws)++[(c::t).take 1]),((z::ws)++[(c::t).take 1]).length,⟨(by show strG ((z::ws)++[(c::t).take 1])=strG (z::ws)++[GV.s ((c::t).take 1)];simp[strG]),by show _=(strG (z::ws)).length+1;rw[strG_len];simp⟩,?_⟩
      conv=>whnf
      refine⟨⟨zL _,by first|rfl|(rw[strG_len];rfl)|(rw[strG_len];simp),by first|exact .inr ⟨rfl,rfl⟩|exact .inl ⟨rfl,rfl⟩⟩,?_⟩
      conv=>whnf
      exact⟨s.length - (i+1),(by show _<s.length - i;omega),(i+1,(z::ws)++[(c::t).take 1]),⟨n1,(by show((z::ws)++[(c::t).take 1]).length<=i+1;rw[List.length_append,List.length_singleton];omega),n3⟩,rfl,⟨rfl,rfl,(by show GV.i .i64 (IntKind.i64.wrap ((i:Int)+(1:Int)))=_;rw[wk]),trivial⟩,_,rfl,rfl⟩
    have m61:=u8n_ne (d:=61) g
    refine GIf.mk (fun g=>?_) (fun g=>?_)<;>conv=>whnf
    rotate_left
    ·exact absurd (u8n_eq (d:=60) g) c60
    refine GIf.mk (fun g=>?_) (fun g=>?_)<;>conv=>whnf
    rotate_left
    ·exact absurd (u8n_eq (d:=62) g) c62
    have hr:=bad (S0 (by
     rintro(h|h|h|h|h|h)
     ·exact m40 h
     ·exact m41 h
     ·exact m58 h
     ·exact m61 h
     ·exact c60 h
     ·exact c62 h))
    rw[hr]
    exact owes_wk (wk_t2 (Wk.sl _ _) (.refl _)) (Cl.tup (.cons (Cl.sl ClL.nil) (.cons (.b _) .nil)))
end Go.Proofs.YtcfgfkkhpdlhpaaGreatDoor
