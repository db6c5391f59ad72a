/-
  A part of the proof of SchemaFinds.
-/
import Derived.Test.YtcfgfkkhpdlhpaaGreatDoorT31
set_option linter.all false
set_option maxRecDepth 100000
namespace Go.Proofs.YtcfgfkkhpdlhpaaGreatDoor
open Go.RowKit
def aZ (ws:List By):List GV:=ws.map .s
theorem uM [MaxL] (ws:List By):ClL (aZ ws):=gT (fun _=>Cl.s _) _
theorem aP (ws:List By):(aZ ws).length=ws.length:=by simp[aZ]
theorem fQ (ws:List By):(aZ ws).all (fun x=>x.cells.length==1)=true:=by
 rw[aS];intro x hx;obtain⟨b,_,rfl⟩:=List.mem_map.1 hx;rfl
def a1F:Option (List By)->GV
 |some ws=>.tup [.sl .none (aZ ws),.b true]
 |none=>.tup [.sl .none [],.b false]
set_option maxHeartbeats 2000000 in
theorem ZL [MaxL] (s:List UInt8) (hs:s.length<1000000):SC Tryz.prog 230 [.s s] [] (.val (a1F (B4 s))) []:=by
 generalize hR:B4 s=R;refine cZ Tryz.func230 rfl ?_;conv=>whnf
 refine fI (fun q:Nat×List By=>q.1<=s.length/\q.2.length<=q.1/\(kT (s.length+1) (s.drop q.1)).map (fun ws=>q.2++ws)=R)
  (fun q=>[(0,.s s),(4,.sl (.own 1) (aZ q.2)),(5,.i .i64 (q.1:Nat))]) (fun q=>⟨[.own 0 0 0,ow 9 1 q.2.length],0,[]⟩) (fun q=>s.length - q.1) (0,[]) ⟨zL _,rL _,by
   rw[<-hR];show Option.map _ (kT _ s)=kT _ s;cases kT (s.length+1) s<;>rfl⟩ ⟨rfl,rfl,rfl,trivial⟩ rfl (fun _ _=>rL _) (fun q _=>by simp only[gK,lN];rfl) (fun q _ e he=>?_) (fun q φ0 hq=>?_)
 ·refine⟨by simp[yX];rfl,rfl,?_⟩;show[_,(GV.sl (.own 1) (aZ q.2)).ren e,_]=_;rw[pP (he 1 (by simp)) (uM q.2)];rfl
 obtain⟨i,ws⟩:=q;obtain⟨hi,hws,hq⟩:=hq;replace hi:i<=s.length:=hi;replace hws:ws.length<=i:=hws;replace hq:(kT (s.length+1) (s.drop i)).map (fun l=>ws++l)=R:=hq;conv=>whnf
 refine aF (fun h1=>?_) (fun h1=>?_)<;>conv=>whnf
 rotate_left
 ·have hie:i=s.length:=by have:=aB h1;omega
  have hr:R=some ws:=by rw[<-hq,hie,List.drop_length,yP];simp
  rw[hr];exact bA (sX (bE _ _) (.refl _)) (fJ (.cons (bV (uM ws)) (.cons (.b _) .nil)))
 have hlt:i<s.length:=by have:=aA h1;omega
 have hgi:s[i]?=some (s.getD i 0):=by rw[aO,gL hlt];rfl
 have hd:s.drop i=s.getD i 0::s.drop (i+1):=by
  rw[aX hlt,aO,gL hlt];rfl
 generalize s.getD i 0=c at*;have hgi':s[((i:Nat):Int).toNat]?=some c:=by rw[aC];exact hgi
 refine GNeed.mk (cN _) ⟨c,hgi',?_⟩;conv=>whnf
 refine aF (fun h32=>?_) (fun h32=>?_)<;>conv=>whnf
 ·have hc:=j2 (d:=32) h32;exact⟨s.length - (i+1),(by show _<s.length - i;omega),(i+1,ws),⟨hlt,(by show ws.length<=i+1;omega),by
   rw[<-hq,hd,hc,t7];show Option.map _ (kT (s.length+1) (s.drop (i+1)))=_;rw[rV (s.length+1) s.length _ (by rw[dW];omega) (by rw[dW];omega)]⟩,rfl,⟨rfl,rfl,b8 (by omega),trivial⟩,_,rfl,rfl⟩
 have hc32:=jV (d:=32) h32;generalize hT:s.drop (i+1)=t at*;have htl:t.length=s.length - (i+1):=by rw[<-hT,dW]
 have next:∀k,sw (c::t)=some k->i+k<=s.length/\1<=k/\(kT (s.length+1) (s.drop (i+k))).map (fun l=>(ws++[(c::t).take k])++l)=R:=fun k hk=>by
  have hp:=EQ hk;simp only[aJ] at hp;refine⟨by omega,hp.1,?_⟩;rw[<-hq,hd,t8 _ hc32,hk];simp only;rw[show(c::t).drop k=s.drop (i+k) by rw[<-hd,j8],rV (s.length+1) s.length _ (by rw[dW];omega) (by rw[dW];omega)];simp[cU]
 have bad:sw (c::t)=none->R=none:=fun h=>by rw[<-hq,hd,t8 _ hc32,h];rfl
 refine nH (P2 c) ?_;conv=>whnf
 have hrw:pO t<=t.length+1:=QW t;have hd':∀j:Nat,t[j]?=s[i+1+j]?:=fun j=>by rw[<-hT,gW]
 have runEnd:∀k:Nat,1<=k->(∀c∈t.take (k - 1),d9 c=true)->(∀c,t[k - 1]?=some c->d9 c=false)->k=pO t∨t.length<k - 1:=fun k hk h h'=>by
  have:=(OJ h h').1;unfold pO;rw[this,bN];omega
 refine aF (fun hin=>?_) (fun hin=>?_)<;>conv=>whnf
 ·refine aF (fun h95=>?_) (fun h95=>?_)<;>conv=>whnf
  ·have hc95:=nD (d:=95) h95;refine dG (fun k:Nat=>1<=k/\i+k<=s.length/\∀c∈t.take (k - 1),d9 c=true) (fun k=>[(0,.s s),(4,.sl (.own 1) (aZ ws)),(5,.i .i64 (i:Nat)),(6,.i .u8 c.toNat),(7,.i .i64 (k:Nat))]) (fun _=>⟨[.own 0 0 0,ow 9 1 ws.length],0,[]⟩) (fun k=>s.length - k) 1
    ⟨rL _,hlt,fun c h=>by simp at h⟩ ⟨rfl,rfl,rfl,rfl,rfl,trivial⟩ rfl (fun k φ1 hk=>?_)
   obtain⟨hk1,hk2,hk3⟩:=hk;have wk:IntKind.i64.wrap ((i:Int)+(k:Int))=((i+k:Nat):Int):=by rw[cD (by omega) (by omega)];rfl
   (conv=>whnf);refine aF (fun g1=>?in1) (fun g1=>?in2)
   case' in1=>
    have g1':i+k<s.length:=by have:=aA g1;rw[wk] at this;omega
    have hge:s[i+k]?=some (s.getD (i+k) 0):=by rw[aO,gL g1'];rfl
    (conv=>whnf);refine GNeed.mk (by rw[wk];exact cN _) ⟨s.getD (i+k) 0,by rw[wk,aC];exact hge,?_⟩;(conv=>whnf);refine nH (P2 (s.getD (i+k) 0)) ?_;(conv=>whnf);refine aF (fun g2=>?go) (fun g2=>?out)
   case' go=>
    (conv=>whnf);refine eQ (k+1) ⟨by omega,by omega,?_⟩ (by omega) ⟨rfl,rfl,rfl,rfl,b8 (by omega),trivial⟩ rfl;intro c' hc';rw[show k+1 - 1=k - 1+1 by omega,bR,hd',show i+1+(k - 1)=i+k by omega,hge] at hc';rcases List.mem_append.1 hc' with h|h
    ·exact hk3 c' h
    ·rw[List.mem_singleton.1 (show c'∈[s.getD (i+k) 0] from h)];exact g2
   case' out=>
    have hkr:k=pO t:=(runEnd k hk1 hk3 (fun c' h=>by rw[hd',show i+1+(k - 1)=i+k by omega,hge] at h;cases h;exact g2)).resolve_right (by omega);clear hge g1' g1 g2
   case' in2=>
    have hkr:k=pO t:=(runEnd k hk1 hk3 (fun c' h=>by
     have g1':s.length<=i+k:=by have:=aB g1;rw[wk] at this;omega
     rw[hd',b6 (by omega)] at h;cases h)).resolve_right (by omega)
    clear g1
   all_goals
    (conv=>whnf);refine aF (fun h97=>?_) (fun h97=>?_)<;>conv=>whnf
    ·have h97':97<=c.toNat:=by have:=aA h97;omega
     refine⟨cN _,?_⟩;(conv=>whnf);refine⟨by rw[wk];exact cN _,⟨by rw[wk,aC,aC];omega,by rw[wk,aC];exact hk2⟩,(c::t).take k,by rw[wk,aC,aC,hd,bU],?_⟩;(conv=>whnf);refine nH (BF ((c::t).take k)) ?_;(conv=>whnf);refine aF (fun hnm=>?_) (fun hnm=>?_)<;>conv=>whnf
     ·have hr:=bad (by simp only[sw];rw[aG ⟨hin,hc95⟩,aG h97',aE (by rw[<-hkr];simpa using hnm)]);rw[hr];exact bA (sX (bE _ _) (.refl _)) (fJ (.cons (bV dM) (.cons (.b _) .nil)))
     have hk:sw (c::t)=some k:=by simp only[sw];rw[aG ⟨hin,hc95⟩,aG h97',aG (by rw[<-hkr];simpa using hnm),hkr]
     obtain⟨n1,n2,n3⟩:=next k hk
     refine⟨cN _,?_⟩;(conv=>whnf);refine⟨by rw[wk];exact cN _,⟨by rw[wk,aC,aC];omega,by rw[wk,aC];exact hk2⟩,(c::t).take k,by rw[wk,aC,aC,hd,bU],?_⟩;(conv=>whnf);cases ws with
     |nil=>
      refine⟨⟨rfl,fQ _,by show(aZ ([]:List By)).length+1<=4294967296;rw[aP];omega⟩,aZ (([]:List By)++[(c::t).take k]),(([]:List By)++[(c::t).take k]).length,⟨(by show aZ (([]:List By)++[(c::t).take k])=aZ ([]:List By)++[GV.s ((c::t).take k)];simp[aZ]),by show _=(aZ ([]:List By)).length+1;rw[aP];simp⟩,?_⟩;(conv=>whnf);refine⟨⟨zL _,by first|rfl|(rw[aP];rfl)|(rw[aP];simp),by first|exact .inr ⟨rfl,rfl⟩|exact .inl ⟨rfl,rfl⟩⟩,?_⟩;(conv=>whnf);exact⟨s.length - (i+k),(by show _<s.length - i;omega),(i+k,([]:List By)++[(c::t).take k]),⟨n1,(by show(([]:List By)++[(c::t).take k]).length<=i+k;rw[aD,aV];omega),n3⟩,rfl,⟨rfl,rfl,(by show GV.i .i64 (IntKind.i64.wrap ((i:Int)+(k:Int)))=_;rw[wk]),trivial⟩,_,rfl,rfl⟩
     |cons z ws=>
      refine⟨⟨rfl,fQ _,by show(aZ (z::ws)).length+1<=4294967296;rw[aP];omega⟩,aZ ((z::ws)++[(c::t).take k]),((z::ws)++[(c::t).take k]).length,⟨(by show aZ ((z::ws)++[(c::t).take k])=aZ (z::ws)++[GV.s ((c::t).take k)];simp[aZ]),by show _=(aZ (z::ws)).length+1;rw[aP];simp⟩,?_⟩;(conv=>whnf);refine⟨⟨zL _,by first|rfl|(rw[aP];rfl)|(rw[aP];simp),by first|exact .inr ⟨rfl,rfl⟩|exact .inl ⟨rfl,rfl⟩⟩,?_⟩;(conv=>whnf);exact⟨s.length - (i+k),(by show _<s.length - i;omega),(i+k,(z::ws)++[(c::t).take k]),⟨n1,(by show((z::ws)++[(c::t).take k]).length<=i+k;rw[aD,aV];omega),n3⟩,rfl,⟨rfl,rfl,(by show GV.i .i64 (IntKind.i64.wrap ((i:Int)+(k:Int)))=_;rw[wk]),trivial⟩,_,rfl,rfl⟩
    ·have h97':¬97<=c.toNat:=by have:=aB h97;omega
     refine⟨cN _,?_⟩;(conv=>whnf);refine⟨by rw[wk];exact cN _,⟨by rw[wk,aC,aC];omega,by rw[wk,aC];exact hk2⟩,(c::t).take k,by rw[wk,aC,aC,hd,bU],?_⟩;(conv=>whnf);refine nH (R3 ((c::t).take k) (by unfold bH;rw[bN];omega)) ?_;(conv=>whnf);refine aF (fun hwn=>?_) (fun hwn=>?_)<;>conv=>whnf
     ·have hr:=bad (by simp only[sw];rw[aG ⟨hin,hc95⟩,aE h97',aE (by rw[<-hkr];simpa using hwn)]);rw[hr];exact bA (sX (bE _ _) (.refl _)) (fJ (.cons (bV dM) (.cons (.b _) .nil)))
     have hk:sw (c::t)=some k:=by simp only[sw];rw[aG ⟨hin,hc95⟩,aE h97',aG (by rw[<-hkr];simpa using hwn),hkr]
     obtain⟨n1,n2,n3⟩:=next k hk
     refine⟨cN _,?_⟩;(conv=>whnf);refine⟨by rw[wk];exact cN _,⟨by rw[wk,aC,aC];omega,by rw[wk,aC];exact hk2⟩,(c::t).take k,by rw[wk,aC,aC,hd,bU],?_⟩;(conv=>whnf);cases ws with
     |nil=>
      refine⟨⟨rfl,fQ _,by show(aZ ([]:List By)).length+1<=4294967296;rw[aP];omega⟩,aZ (([]:List By)++[(c::t).take k]),(([]:List By)++[(c::t).take k]).length,⟨(by show aZ (([]:List By)++[(c::t).take k])=aZ ([]:List By)++[GV.s ((c::t).take k)];simp[aZ]),by show _=(aZ ([]:List By)).length+1;rw[aP];simp⟩,?_⟩;(conv=>whnf);refine⟨⟨zL _,by first|rfl|(rw[aP];rfl)|(rw[aP];simp),by first|exact .inr ⟨rfl,rfl⟩|exact .inl ⟨rfl,rfl⟩⟩,?_⟩;(conv=>whnf);exact⟨s.length - (i+k),(by show _<s.length - i;omega),(i+k,([]:List By)++[(c::t).take k]),⟨n1,(by show(([]:List By)++[(c::t).take k]).length<=i+k;rw[aD,aV];omega),n3⟩,rfl,⟨rfl,rfl,(by show GV.i .i64 (IntKind.i64.wrap ((i:Int)+(k:Int)))=_;rw[wk]),trivial⟩,_,rfl,rfl⟩
     |cons z ws=>
      refine⟨⟨rfl,fQ _,by show(aZ (z::ws)).length+1<=4294967296;rw[aP];omega⟩,aZ ((z::ws)++[(c::t).take k]),((z::ws)++[(c::t).take k]).length,⟨(by show aZ ((z::ws)++[(c::t).take k])=aZ (z::ws)++[GV.s ((c::t).take k)];simp[aZ]),by show _=(aZ (z::ws)).length+1;rw[aP];simp⟩,?_⟩;(conv=>whnf);refine⟨⟨zL _,by first|rfl|(rw[aP];rfl)|(rw[aP];simp),by first|exact .inr ⟨rfl,rfl⟩|exact .inl ⟨rfl,rfl⟩⟩,?_⟩;(conv=>whnf);exact⟨s.length - (i+k),(by show _<s.length - i;omega),(i+k,(z::ws)++[(c::t).take k]),⟨n1,(by show((z::ws)++[(c::t).take k]).length<=i+k;rw[aD,aV];omega),n3⟩,rfl,⟨rfl,rfl,(by show GV.i .i64 (IntKind.i64.wrap ((i:Int)+(k:Int)))=_;rw[wk]),trivial⟩,_,rfl,rfl⟩
  ·have hc95:=mD (d:=95) h95;have hr:=bad (by rw[hc95];simp[sw]);rw[hr];subst hc95;clear next bad hd hgi hgi' hc32 runEnd hd'
   repeat' (refine aF (fun hh=>?_) (fun hh=>?_)<;>conv=>whnf)
   all_goals first
    |(exact bA (sX (bE _ _) (.refl _)) (fJ (.cons (bV dM) (.cons (.b _) .nil))))
    |(exfalso;revert hh;decide)
    |(exfalso;simp_all;done)
 ·refine aF (fun h45=>?_) (fun h45=>?_)<;>conv=>whnf
  ·have hc45:=j2 (d:=45) h45;refine dG (fun k:Nat=>1<=k/\i+k<=s.length/\∀c∈t.take (k - 1),d9 c=true) (fun k=>[(0,.s s),(4,.sl (.own 1) (aZ ws)),(5,.i .i64 (i:Nat)),(6,.i .u8 c.toNat),(7,.i .i64 (k:Nat))]) (fun _=>⟨[.own 0 0 0,ow 9 1 ws.length],0,[]⟩) (fun k=>s.length - k) 1
    ⟨rL _,hlt,fun c h=>by simp at h⟩ ⟨rfl,rfl,rfl,rfl,rfl,trivial⟩ rfl (fun k φ1 hk=>?_)
   obtain⟨hk1,hk2,hk3⟩:=hk;have wk:IntKind.i64.wrap ((i:Int)+(k:Int))=((i+k:Nat):Int):=by rw[cD (by omega) (by omega)];rfl
   (conv=>whnf);refine aF (fun g1=>?jn1) (fun g1=>?jn2)
   case' jn1=>
    have g1':i+k<s.length:=by have:=aA g1;rw[wk] at this;omega
    have hge:s[i+k]?=some (s.getD (i+k) 0):=by rw[aO,gL g1'];rfl
    (conv=>whnf);refine GNeed.mk (by rw[wk];exact cN _) ⟨s.getD (i+k) 0,by rw[wk,aC];exact hge,?_⟩;(conv=>whnf);refine nH (P2 (s.getD (i+k) 0)) ?_;(conv=>whnf);refine aF (fun g2=>?jgo) (fun g2=>?jout)
   case' jgo=>
    (conv=>whnf);refine eQ (k+1) ⟨by omega,by omega,?_⟩ (by omega) ⟨rfl,rfl,rfl,rfl,b8 (by omega),trivial⟩ rfl;intro c' hc';rw[show k+1 - 1=k - 1+1 by omega,bR,hd',show i+1+(k - 1)=i+k by omega,hge] at hc';rcases List.mem_append.1 hc' with h|h
    ·exact hk3 c' h
    ·rw[List.mem_singleton.1 (show c'∈[s.getD (i+k) 0] from h)];exact g2
   case' jout=>
    have hkr:k=pO t:=(runEnd k hk1 hk3 (fun c' h=>by rw[hd',show i+1+(k - 1)=i+k by omega,hge] at h;cases h;exact g2)).resolve_right (by omega);clear hge g1' g1 g2
   case' jn2=>
    have hkr:k=pO t:=(runEnd k hk1 hk3 (fun c' h=>by
     have g1':s.length<=i+k:=by have:=aB g1;rw[wk] at this;omega
     rw[hd',b6 (by omega)] at h;cases h)).resolve_right (by omega)
    clear g1
   all_goals
    (conv=>whnf);refine⟨cN _,?_⟩;(conv=>whnf);refine⟨by rw[wk];exact cN _,⟨by rw[wk,aC,aC];omega,by rw[wk,aC];exact hk2⟩,(c::t).take k,by rw[wk,aC,aC,hd,bU],?_⟩;(conv=>whnf);refine nH (R3 ((c::t).take k) (by unfold bH;rw[bN];omega)) ?_;(conv=>whnf);refine aF (fun hwn=>?_) (fun hwn=>?_)<;>conv=>whnf
    ·have hr:=bad (by simp only[sw];rw[aE (fun h=>by rw[hin] at h;exact absurd h.1 (by decide)),aG hc45,aE (by rw[<-hkr];simpa using hwn)]);rw[hr];exact bA (sX (bE _ _) (.refl _)) (fJ (.cons (bV dM) (.cons (.b _) .nil)))
    have hk:sw (c::t)=some k:=by simp only[sw];rw[aE (fun h=>by rw[hin] at h;exact absurd h.1 (by decide)),aG hc45,aG (by rw[<-hkr];simpa using hwn),hkr]
    obtain⟨n1,n2,n3⟩:=next k hk
    refine⟨cN _,?_⟩;(conv=>whnf);refine⟨by rw[wk];exact cN _,⟨by rw[wk,aC,aC];omega,by rw[wk,aC];exact hk2⟩,(c::t).take k,by rw[wk,aC,aC,hd,bU],?_⟩;(conv=>whnf);cases ws with
    |nil=>
     refine⟨⟨rfl,fQ _,by show(aZ ([]:List By)).length+1<=4294967296;rw[aP];omega⟩,aZ (([]:List By)++[(c::t).take k]),(([]:List By)++[(c::t).take k]).length,⟨(by show aZ (([]:List By)++[(c::t).take k])=aZ ([]:List By)++[GV.s ((c::t).take k)];simp[aZ]),by show _=(aZ ([]:List By)).length+1;rw[aP];simp⟩,?_⟩;(conv=>whnf);refine⟨⟨zL _,by first|rfl|(rw[aP];rfl)|(rw[aP];simp),by first|exact .inr ⟨rfl,rfl⟩|exact .inl ⟨rfl,rfl⟩⟩,?_⟩;(conv=>whnf);exact⟨s.length - (i+k),(by show _<s.length - i;omega),(i+k,([]:List By)++[(c::t).take k]),⟨n1,(by show(([]:List By)++[(c::t).take k]).length<=i+k;rw[aD,aV];omega),n3⟩,rfl,⟨rfl,rfl,(by show GV.i .i64 (IntKind.i64.wrap ((i:Int)+(k:Int)))=_;rw[wk]),trivial⟩,_,rfl,rfl⟩
    |cons z ws=>
     refine⟨⟨rfl,fQ _,by show(aZ (z::ws)).length+1<=4294967296;rw[aP];omega⟩,aZ ((z::ws)++[(c::t).take k]),((z::ws)++[(c::t).take k]).length,⟨(by show aZ ((z::ws)++[(c::t).take k])=aZ (z::ws)++[GV.s ((c::t).take k)];simp[aZ]),by show _=(aZ (z::ws)).length+1;rw[aP];simp⟩,?_⟩;(conv=>whnf);refine⟨⟨zL _,by first|rfl|(rw[aP];rfl)|(rw[aP];simp),by first|exact .inr ⟨rfl,rfl⟩|exact .inl ⟨rfl,rfl⟩⟩,?_⟩;(conv=>whnf);exact⟨s.length - (i+k),(by show _<s.length - i;omega),(i+k,(z::ws)++[(c::t).take k]),⟨n1,(by show((z::ws)++[(c::t).take k]).length<=i+k;rw[aD,aV];omega),n3⟩,rfl,⟨rfl,rfl,(by show GV.i .i64 (IntKind.i64.wrap ((i:Int)+(k:Int)))=_;rw[wk]),trivial⟩,_,rfl,rfl⟩
  have hc45:=jV (d:=45) h45;have hni:¬(d9 c=true/\c≠95):=fun h=>by rw[hin] at h;exact absurd h.1 (by decide)
  refine aF (fun h34=>?_) (fun h34=>?_)<;>conv=>whnf
  ·have hc34:=j2 (d:=34) h34;have hql:=I7 (c::t);have hcq:=R4 s hs i hi;rw[MB,hd] at hcq;generalize hkq:(jN (c::t) 0).2=k at hcq hql;simp only[aJ] at hql;refine nH hcq ?_;(conv=>whnf);refine aF (fun hz=>?_) (fun hz=>?_)<;>conv=>whnf
   ·have hz0:k=0:=by simpa using hz
    have hr:=bad (by simp only[sw];rw[aE hni,aE hc45,aG hc34,aG (by rw[hkq,hz0])]);rw[hr];exact bA (sX (bE _ _) (.refl _)) (fJ (.cons (bV dM) (.cons (.b _) .nil)))
   have hz0:k≠0:=by simpa using hz
   have hk:sw (c::t)=some k:=by simp only[sw];rw[aE hni,aE hc45,aG hc34,aE (by rw[hkq];exact hz0),hkq]
   have hk2:i+k<=s.length:=by omega
   have wk:IntKind.i64.wrap ((i:Int)+(k:Int))=((i+k:Nat):Int):=by rw[cD (by omega) (by omega)];rfl
   obtain⟨n1,n2,n3⟩:=next k hk
   refine⟨cN _,?_⟩;(conv=>whnf);refine⟨by rw[wk];exact cN _,⟨by rw[wk,aC,aC];omega,by rw[wk,aC];exact hk2⟩,(c::t).take k,by rw[wk,aC,aC,hd,bU],?_⟩;(conv=>whnf);cases ws with
   |nil=>
    refine⟨⟨rfl,fQ _,by show(aZ ([]:List By)).length+1<=4294967296;rw[aP];omega⟩,aZ (([]:List By)++[(c::t).take k]),(([]:List By)++[(c::t).take k]).length,⟨(by show aZ (([]:List By)++[(c::t).take k])=aZ ([]:List By)++[GV.s ((c::t).take k)];simp[aZ]),by show _=(aZ ([]:List By)).length+1;rw[aP];simp⟩,?_⟩;(conv=>whnf);refine⟨⟨zL _,by first|rfl|(rw[aP];rfl)|(rw[aP];simp),by first|exact .inr ⟨rfl,rfl⟩|exact .inl ⟨rfl,rfl⟩⟩,?_⟩;(conv=>whnf);exact⟨s.length - (i+k),(by show _<s.length - i;omega),(i+k,([]:List By)++[(c::t).take k]),⟨n1,(by show(([]:List By)++[(c::t).take k]).length<=i+k;rw[aD,aV];omega),n3⟩,rfl,⟨rfl,rfl,(by show GV.i .i64 (IntKind.i64.wrap ((i:Int)+(k:Int)))=_;rw[wk]),trivial⟩,_,rfl,rfl⟩
   |cons z ws=>
    refine⟨⟨rfl,fQ _,by show(aZ (z::ws)).length+1<=4294967296;rw[aP];omega⟩,aZ ((z::ws)++[(c::t).take k]),((z::ws)++[(c::t).take k]).length,⟨(by show aZ ((z::ws)++[(c::t).take k])=aZ (z::ws)++[GV.s ((c::t).take k)];simp[aZ]),by show _=(aZ (z::ws)).length+1;rw[aP];simp⟩,?_⟩;(conv=>whnf);refine⟨⟨zL _,by first|rfl|(rw[aP];rfl)|(rw[aP];simp),by first|exact .inr ⟨rfl,rfl⟩|exact .inl ⟨rfl,rfl⟩⟩,?_⟩;(conv=>whnf);exact⟨s.length - (i+k),(by show _<s.length - i;omega),(i+k,(z::ws)++[(c::t).take k]),⟨n1,(by show((z::ws)++[(c::t).take k]).length<=i+k;rw[aD,aV];omega),n3⟩,rfl,⟨rfl,rfl,(by show GV.i .i64 (IntKind.i64.wrap ((i:Int)+(k:Int)))=_;rw[wk]),trivial⟩,_,rfl,rfl⟩
  have hc34:=jV (d:=34) h34;have S2:((c=60/\(t.head?=some 62∨t.head?=some 61))∨(c=62/\t.head?=some 61))->sw (c::t)=some 2:=fun h=>by
   simp only[sw];rw[aE hni,aE hc45,aE hc34,aG h]
  have S1:¬((c=60/\(t.head?=some 62∨t.head?=some 61))∨(c=62/\t.head?=some 61))->(c=40∨c=41∨c=58∨c=61∨c=60∨c=62)->sw (c::t)=some 1:=fun h h'=>by
   simp only[sw];rw[aE hni,aE hc45,aE hc34,aE h,aG h']
  have S0:¬(c=40∨c=41∨c=58∨c=61∨c=60∨c=62)->sw (c::t)=none:=fun h=>by
   simp only[sw];rw[aE hni,aE hc45,aE hc34,aE (fun e=>h (e.elim (fun e=>.inr (.inr (.inr (.inr (.inl e.1))))) (fun e=>.inr (.inr (.inr (.inr (.inr e.1))))))),aE h]
  have w1:IntKind.i64.wrap ((i:Int)+1)=((i+1:Nat):Int):=by rw[cD (by omega) (by omega)];rfl
  refine aF (fun g60=>?_) (fun g60=>?_)<;>conv=>whnf
  ·have c60:=j2 (d:=60) g60;refine aF (fun gl=>?_) (fun gl=>?_)<;>conv=>whnf
   ·skip;have hge:s[i+1]?=some (s.getD (i+1) 0):=by
     have:i+1<s.length:=by have:=aA gl;rw[w1] at this;omega
     rw[aO,gL this];rfl
    have hth:t.head?=some (s.getD (i+1) 0):=by rw[<-hge,f7,hd']
    refine GNeed.mk (by rw[w1];exact cN _) ⟨s.getD (i+1) 0,by rw[w1,aC];exact hge,?_⟩;(conv=>whnf);refine aF (fun e62=>?_) (fun e62=>?_)<;>conv=>whnf
    ·have hv:s.getD (i+1) 0=62:=j2 (d:=62) e62;have hk:sw (c::t)=some 2:=S2 (.inl ⟨c60,.inl (by rw[hth,hv])⟩);have wk:IntKind.i64.wrap ((i:Int)+(2:Int))=((i+2:Nat):Int):=by rw[cD (by omega) (by omega)];rfl
     have hk2:i+2<=s.length:=by have:=(EQ hk).2;simp only[aJ] at this;omega
     obtain⟨n1,n2,n3⟩:=next 2 hk
     refine⟨cN _,?_⟩;(conv=>whnf);refine⟨by rw[wk];exact cN _,⟨by rw[wk,aC,aC];omega,by rw[wk,aC];exact hk2⟩,(c::t).take 2,by rw[wk,aC,aC,hd,bU],?_⟩;(conv=>whnf);cases ws with
     |nil=>
      refine⟨⟨rfl,fQ _,by show(aZ ([]:List By)).length+1<=4294967296;rw[aP];omega⟩,aZ (([]:List By)++[(c::t).take 2]),(([]:List By)++[(c::t).take 2]).length,⟨(by show aZ (([]:List By)++[(c::t).take 2])=aZ ([]:List By)++[GV.s ((c::t).take 2)];simp[aZ]),by show _=(aZ ([]:List By)).length+1;rw[aP];simp⟩,?_⟩;(conv=>whnf);refine⟨⟨zL _,by first|rfl|(rw[aP];rfl)|(rw[aP];simp),by first|exact .inr ⟨rfl,rfl⟩|exact .inl ⟨rfl,rfl⟩⟩,?_⟩;(conv=>whnf);exact⟨s.length - (i+2),(by show _<s.length - i;omega),(i+2,([]:List By)++[(c::t).take 2]),⟨n1,(by show(([]:List By)++[(c::t).take 2]).length<=i+2;rw[aD,aV];omega),n3⟩,rfl,⟨rfl,rfl,(by show GV.i .i64 (IntKind.i64.wrap ((i:Int)+(2:Int)))=_;rw[wk]),trivial⟩,_,rfl,rfl⟩
     |cons z ws=>
      refine⟨⟨rfl,fQ _,by show(aZ (z::ws)).length+1<=4294967296;rw[aP];omega⟩,aZ ((z::ws)++[(c::t).take 2]),((z::ws)++[(c::t).take 2]).length,⟨(by show aZ ((z::ws)++[(c::t).take 2])=aZ (z::ws)++[GV.s ((c::t).take 2)];simp[aZ]),by show _=(aZ (z::ws)).length+1;rw[aP];simp⟩,?_⟩;(conv=>whnf);refine⟨⟨zL _,by first|rfl|(rw[aP];rfl)|(rw[aP];simp),by first|exact .inr ⟨rfl,rfl⟩|exact .inl ⟨rfl,rfl⟩⟩,?_⟩;(conv=>whnf);exact⟨s.length - (i+2),(by show _<s.length - i;omega),(i+2,(z::ws)++[(c::t).take 2]),⟨n1,(by show((z::ws)++[(c::t).take 2]).length<=i+2;rw[aD,aV];omega),n3⟩,rfl,⟨rfl,rfl,(by show GV.i .i64 (IntKind.i64.wrap ((i:Int)+(2:Int)))=_;rw[wk]),trivial⟩,_,rfl,rfl⟩
    ·have hv62:=jV (d:=62) e62;refine GNeed.mk (by rw[w1];exact cN _) ⟨s.getD (i+1) 0,by rw[w1,aC];exact hge,?_⟩;(conv=>whnf);refine aF (fun e61=>?_) (fun e61=>?_)<;>conv=>whnf
     ·have hv:s.getD (i+1) 0=61:=j2 (d:=61) e61;have hk:sw (c::t)=some 2:=S2 (.inl ⟨c60,.inr (by rw[hth,hv])⟩);have wk:IntKind.i64.wrap ((i:Int)+(2:Int))=((i+2:Nat):Int):=by rw[cD (by omega) (by omega)];rfl
      have hk2:i+2<=s.length:=by have:=(EQ hk).2;simp only[aJ] at this;omega
      obtain⟨n1,n2,n3⟩:=next 2 hk
      refine⟨cN _,?_⟩;(conv=>whnf);refine⟨by rw[wk];exact cN _,⟨by rw[wk,aC,aC];omega,by rw[wk,aC];exact hk2⟩,(c::t).take 2,by rw[wk,aC,aC,hd,bU],?_⟩;(conv=>whnf);cases ws with
      |nil=>
       refine⟨⟨rfl,fQ _,by show(aZ ([]:List By)).length+1<=4294967296;rw[aP];omega⟩,aZ (([]:List By)++[(c::t).take 2]),(([]:List By)++[(c::t).take 2]).length,⟨(by show aZ (([]:List By)++[(c::t).take 2])=aZ ([]:List By)++[GV.s ((c::t).take 2)];simp[aZ]),by show _=(aZ ([]:List By)).length+1;rw[aP];simp⟩,?_⟩;(conv=>whnf);refine⟨⟨zL _,by first|rfl|(rw[aP];rfl)|(rw[aP];simp),by first|exact .inr ⟨rfl,rfl⟩|exact .inl ⟨rfl,rfl⟩⟩,?_⟩;(conv=>whnf);exact⟨s.length - (i+2),(by show _<s.length - i;omega),(i+2,([]:List By)++[(c::t).take 2]),⟨n1,(by show(([]:List By)++[(c::t).take 2]).length<=i+2;rw[aD,aV];omega),n3⟩,rfl,⟨rfl,rfl,(by show GV.i .i64 (IntKind.i64.wrap ((i:Int)+(2:Int)))=_;rw[wk]),trivial⟩,_,rfl,rfl⟩
      |cons z ws=>
       refine⟨⟨rfl,fQ _,by show(aZ (z::ws)).length+1<=4294967296;rw[aP];omega⟩,aZ ((z::ws)++[(c::t).take 2]),((z::ws)++[(c::t).take 2]).length,⟨(by show aZ ((z::ws)++[(c::t).take 2])=aZ (z::ws)++[GV.s ((c::t).take 2)];simp[aZ]),by show _=(aZ (z::ws)).length+1;rw[aP];simp⟩,?_⟩;(conv=>whnf);refine⟨⟨zL _,by first|rfl|(rw[aP];rfl)|(rw[aP];simp),by first|exact .inr ⟨rfl,rfl⟩|exact .inl ⟨rfl,rfl⟩⟩,?_⟩;(conv=>whnf);exact⟨s.length - (i+2),(by show _<s.length - i;omega),(i+2,(z::ws)++[(c::t).take 2]),⟨n1,(by show((z::ws)++[(c::t).take 2]).length<=i+2;rw[aD,aV];omega),n3⟩,rfl,⟨rfl,rfl,(by show GV.i .i64 (IntKind.i64.wrap ((i:Int)+(2:Int)))=_;rw[wk]),trivial⟩,_,rfl,rfl⟩
     ·have hv61:=jV (d:=61) e61;have neg:¬((c=60/\(t.head?=some 62∨t.head?=some 61))∨(c=62/\t.head?=some 61)):=by
       rw[hth];rintro(⟨_,h|h⟩|⟨h,_⟩)
       ·exact hv62 (aY h)
       ·exact hv61 (aY h)
       ·rw[c60] at h;exact absurd h (by decide)
      repeat' (refine aF (fun hh=>?_) (fun hh=>?_)<;>first|(exfalso;rw[c60] at hh;revert hh;decide)|(conv=>whnf))
      have hk:sw (c::t)=some 1:=S1 (neg) (.inr (.inr (.inr (.inr (.inl c60)))));have wk:=w1;have hk2:i+1<=s.length:=hlt;obtain⟨n1,n2,n3⟩:=next 1 hk
      refine⟨cN _,?_⟩;(conv=>whnf);refine⟨by rw[wk];exact cN _,⟨by rw[wk,aC,aC];omega,by rw[wk,aC];exact hk2⟩,(c::t).take 1,by rw[wk,aC,aC,hd,bU],?_⟩;(conv=>whnf);cases ws with
      |nil=>
       refine⟨⟨rfl,fQ _,by show(aZ ([]:List By)).length+1<=4294967296;rw[aP];omega⟩,aZ (([]:List By)++[(c::t).take 1]),(([]:List By)++[(c::t).take 1]).length,⟨(by show aZ (([]:List By)++[(c::t).take 1])=aZ ([]:List By)++[GV.s ((c::t).take 1)];simp[aZ]),by show _=(aZ ([]:List By)).length+1;rw[aP];simp⟩,?_⟩;(conv=>whnf);refine⟨⟨zL _,by first|rfl|(rw[aP];rfl)|(rw[aP];simp),by first|exact .inr ⟨rfl,rfl⟩|exact .inl ⟨rfl,rfl⟩⟩,?_⟩;(conv=>whnf);exact⟨s.length - (i+1),(by show _<s.length - i;omega),(i+1,([]:List By)++[(c::t).take 1]),⟨n1,(by show(([]:List By)++[(c::t).take 1]).length<=i+1;rw[aD,aV];omega),n3⟩,rfl,⟨rfl,rfl,(by show GV.i .i64 (IntKind.i64.wrap ((i:Int)+(1:Int)))=_;rw[wk]),trivial⟩,_,rfl,rfl⟩
      |cons z ws=>
       refine⟨⟨rfl,fQ _,by show(aZ (z::ws)).length+1<=4294967296;rw[aP];omega⟩,aZ ((z::ws)++[(c::t).take 1]),((z::ws)++[(c::t).take 1]).length,⟨(by show aZ ((z::ws)++[(c::t).take 1])=aZ (z::ws)++[GV.s ((c::t).take 1)];simp[aZ]),by show _=(aZ (z::ws)).length+1;rw[aP];simp⟩,?_⟩;(conv=>whnf);refine⟨⟨zL _,by first|rfl|(rw[aP];rfl)|(rw[aP];simp),by first|exact .inr ⟨rfl,rfl⟩|exact .inl ⟨rfl,rfl⟩⟩,?_⟩;(conv=>whnf);exact⟨s.length - (i+1),(by show _<s.length - i;omega),(i+1,(z::ws)++[(c::t).take 1]),⟨n1,(by show((z::ws)++[(c::t).take 1]).length<=i+1;rw[aD,aV];omega),n3⟩,rfl,⟨rfl,rfl,(by show GV.i .i64 (IntKind.i64.wrap ((i:Int)+(1:Int)))=_;rw[wk]),trivial⟩,_,rfl,rfl⟩
   ·skip;have hth:t.head?=none:=by
     have:¬i+1<s.length:=by have:=aB gl;rw[w1] at this;omega
     rw[f7,hd'];exact b6 (by omega)
    have neg:¬((c=60/\(t.head?=some 62∨t.head?=some 61))∨(c=62/\t.head?=some 61)):=by
     rw[hth];rintro(⟨_,h|h⟩|⟨h,_⟩)
     ·cases h
     ·cases h
     ·rw[c60] at h;exact absurd h (by decide)
    repeat' (refine aF (fun hh=>?_) (fun hh=>?_)<;>first|(exfalso;rw[c60] at hh;revert hh;decide)|(conv=>whnf))
    have hk:sw (c::t)=some 1:=S1 (neg) (.inr (.inr (.inr (.inr (.inl c60)))));have wk:=w1;have hk2:i+1<=s.length:=hlt;obtain⟨n1,n2,n3⟩:=next 1 hk
    refine⟨cN _,?_⟩;(conv=>whnf);refine⟨by rw[wk];exact cN _,⟨by rw[wk,aC,aC];omega,by rw[wk,aC];exact hk2⟩,(c::t).take 1,by rw[wk,aC,aC,hd,bU],?_⟩;(conv=>whnf);cases ws with
    |nil=>
     refine⟨⟨rfl,fQ _,by show(aZ ([]:List By)).length+1<=4294967296;rw[aP];omega⟩,aZ (([]:List By)++[(c::t).take 1]),(([]:List By)++[(c::t).take 1]).length,⟨(by show aZ (([]:List By)++[(c::t).take 1])=aZ ([]:List By)++[GV.s ((c::t).take 1)];simp[aZ]),by show _=(aZ ([]:List By)).length+1;rw[aP];simp⟩,?_⟩;(conv=>whnf);refine⟨⟨zL _,by first|rfl|(rw[aP];rfl)|(rw[aP];simp),by first|exact .inr ⟨rfl,rfl⟩|exact .inl ⟨rfl,rfl⟩⟩,?_⟩;(conv=>whnf);exact⟨s.length - (i+1),(by show _<s.length - i;omega),(i+1,([]:List By)++[(c::t).take 1]),⟨n1,(by show(([]:List By)++[(c::t).take 1]).length<=i+1;rw[aD,aV];omega),n3⟩,rfl,⟨rfl,rfl,(by show GV.i .i64 (IntKind.i64.wrap ((i:Int)+(1:Int)))=_;rw[wk]),trivial⟩,_,rfl,rfl⟩
    |cons z ws=>
     refine⟨⟨rfl,fQ _,by show(aZ (z::ws)).length+1<=4294967296;rw[aP];omega⟩,aZ ((z::ws)++[(c::t).take 1]),((z::ws)++[(c::t).take 1]).length,⟨(by show aZ ((z::ws)++[(c::t).take 1])=aZ (z::ws)++[GV.s ((c::t).take 1)];simp[aZ]),by show _=(aZ (z::ws)).length+1;rw[aP];simp⟩,?_⟩;(conv=>whnf);refine⟨⟨zL _,by first|rfl|(rw[aP];rfl)|(rw[aP];simp),by first|exact .inr ⟨rfl,rfl⟩|exact .inl ⟨rfl,rfl⟩⟩,?_⟩;(conv=>whnf);exact⟨s.length - (i+1),(by show _<s.length - i;omega),(i+1,(z::ws)++[(c::t).take 1]),⟨n1,(by show((z::ws)++[(c::t).take 1]).length<=i+1;rw[aD,aV];omega),n3⟩,rfl,⟨rfl,rfl,(by show GV.i .i64 (IntKind.i64.wrap ((i:Int)+(1:Int)))=_;rw[wk]),trivial⟩,_,rfl,rfl⟩
  ·have c60:=jV (d:=60) g60;refine aF (fun g62=>?_) (fun g62=>?_)<;>conv=>whnf
   ·have c62:=j2 (d:=62) g62;refine aF (fun gl=>?_) (fun gl=>?_)<;>conv=>whnf
    ·skip;have hge:s[i+1]?=some (s.getD (i+1) 0):=by
      have:i+1<s.length:=by have:=aA gl;rw[w1] at this;omega
      rw[aO,gL this];rfl
     have hth:t.head?=some (s.getD (i+1) 0):=by rw[<-hge,f7,hd']
     refine GNeed.mk (by rw[w1];exact cN _) ⟨s.getD (i+1) 0,by rw[w1,aC];exact hge,?_⟩;(conv=>whnf);refine aF (fun e61=>?_) (fun e61=>?_)<;>conv=>whnf
     ·have hv:s.getD (i+1) 0=61:=j2 (d:=61) e61;have hk:sw (c::t)=some 2:=S2 (.inr ⟨c62,by rw[hth,hv]⟩);have wk:IntKind.i64.wrap ((i:Int)+(2:Int))=((i+2:Nat):Int):=by rw[cD (by omega) (by omega)];rfl
      have hk2:i+2<=s.length:=by have:=(EQ hk).2;simp only[aJ] at this;omega
      obtain⟨n1,n2,n3⟩:=next 2 hk
      refine⟨cN _,?_⟩;(conv=>whnf);refine⟨by rw[wk];exact cN _,⟨by rw[wk,aC,aC];omega,by rw[wk,aC];exact hk2⟩,(c::t).take 2,by rw[wk,aC,aC,hd,bU],?_⟩;(conv=>whnf);cases ws with
      |nil=>
       refine⟨⟨rfl,fQ _,by show(aZ ([]:List By)).length+1<=4294967296;rw[aP];omega⟩,aZ (([]:List By)++[(c::t).take 2]),(([]:List By)++[(c::t).take 2]).length,⟨(by show aZ (([]:List By)++[(c::t).take 2])=aZ ([]:List By)++[GV.s ((c::t).take 2)];simp[aZ]),by show _=(aZ ([]:List By)).length+1;rw[aP];simp⟩,?_⟩;(conv=>whnf);refine⟨⟨zL _,by first|rfl|(rw[aP];rfl)|(rw[aP];simp),by first|exact .inr ⟨rfl,rfl⟩|exact .inl ⟨rfl,rfl⟩⟩,?_⟩;(conv=>whnf);exact⟨s.length - (i+2),(by show _<s.length - i;omega),(i+2,([]:List By)++[(c::t).take 2]),⟨n1,(by show(([]:List By)++[(c::t).take 2]).length<=i+2;rw[aD,aV];omega),n3⟩,rfl,⟨rfl,rfl,(by show GV.i .i64 (IntKind.i64.wrap ((i:Int)+(2:Int)))=_;rw[wk]),trivial⟩,_,rfl,rfl⟩
      |cons z ws=>
       refine⟨⟨rfl,fQ _,by show(aZ (z::ws)).length+1<=4294967296;rw[aP];omega⟩,aZ ((z::ws)++[(c::t).take 2]),((z::ws)++[(c::t).take 2]).length,⟨(by show aZ ((z::ws)++[(c::t).take 2])=aZ (z::ws)++[GV.s ((c::t).take 2)];simp[aZ]),by show _=(aZ (z::ws)).length+1;rw[aP];simp⟩,?_⟩;(conv=>whnf);refine⟨⟨zL _,by first|rfl|(rw[aP];rfl)|(rw[aP];simp),by first|exact .inr ⟨rfl,rfl⟩|exact .inl ⟨rfl,rfl⟩⟩,?_⟩;(conv=>whnf);exact⟨s.length - (i+2),(by show _<s.length - i;omega),(i+2,(z::ws)++[(c::t).take 2]),⟨n1,(by show((z::ws)++[(c::t).take 2]).length<=i+2;rw[aD,aV];omega),n3⟩,rfl,⟨rfl,rfl,(by show GV.i .i64 (IntKind.i64.wrap ((i:Int)+(2:Int)))=_;rw[wk]),trivial⟩,_,rfl,rfl⟩
     ·have hv61:=jV (d:=61) e61;have neg:¬((c=60/\(t.head?=some 62∨t.head?=some 61))∨(c=62/\t.head?=some 61)):=by
       rw[hth];rintro(⟨h,_⟩|⟨_,h⟩)
       ·exact c60 h
       ·exact hv61 (aY h)
      repeat' (refine aF (fun hh=>?_) (fun hh=>?_)<;>first|(exfalso;rw[c62] at hh;revert hh;decide)|(conv=>whnf))
      have hk:sw (c::t)=some 1:=S1 (neg) (.inr (.inr (.inr (.inr (.inr c62)))));have wk:=w1;have hk2:i+1<=s.length:=hlt;obtain⟨n1,n2,n3⟩:=next 1 hk
      refine⟨cN _,?_⟩;(conv=>whnf);refine⟨by rw[wk];exact cN _,⟨by rw[wk,aC,aC];omega,by rw[wk,aC];exact hk2⟩,(c::t).take 1,by rw[wk,aC,aC,hd,bU],?_⟩;(conv=>whnf);cases ws with
      |nil=>
       refine⟨⟨rfl,fQ _,by show(aZ ([]:List By)).length+1<=4294967296;rw[aP];omega⟩,aZ (([]:List By)++[(c::t).take 1]),(([]:List By)++[(c::t).take 1]).length,⟨(by show aZ (([]:List By)++[(c::t).take 1])=aZ ([]:List By)++[GV.s ((c::t).take 1)];simp[aZ]),by show _=(aZ ([]:List By)).length+1;rw[aP];simp⟩,?_⟩;(conv=>whnf);refine⟨⟨zL _,by first|rfl|(rw[aP];rfl)|(rw[aP];simp),by first|exact .inr ⟨rfl,rfl⟩|exact .inl ⟨rfl,rfl⟩⟩,?_⟩;(conv=>whnf);exact⟨s.length - (i+1),(by show _<s.length - i;omega),(i+1,([]:List By)++[(c::t).take 1]),⟨n1,(by show(([]:List By)++[(c::t).take 1]).length<=i+1;rw[aD,aV];omega),n3⟩,rfl,⟨rfl,rfl,(by show GV.i .i64 (IntKind.i64.wrap ((i:Int)+(1:Int)))=_;rw[wk]),trivial⟩,_,rfl,rfl⟩
      |cons z ws=>
       refine⟨⟨rfl,fQ _,by show(aZ (z::ws)).length+1<=4294967296;rw[aP];omega⟩,aZ ((z::ws)++[(c::t).take 1]),((z::ws)++[(c::t).take 1]).length,⟨(by show aZ ((z::ws)++[(c::t).take 1])=aZ (z::ws)++[GV.s ((c::t).take 1)];simp[aZ]),by show _=(aZ (z::ws)).length+1;rw[aP];simp⟩,?_⟩;(conv=>whnf);refine⟨⟨zL _,by first|rfl|(rw[aP];rfl)|(rw[aP];simp),by first|exact .inr ⟨rfl,rfl⟩|exact .inl ⟨rfl,rfl⟩⟩,?_⟩;(conv=>whnf);exact⟨s.length - (i+1),(by show _<s.length - i;omega),(i+1,(z::ws)++[(c::t).take 1]),⟨n1,(by show((z::ws)++[(c::t).take 1]).length<=i+1;rw[aD,aV];omega),n3⟩,rfl,⟨rfl,rfl,(by show GV.i .i64 (IntKind.i64.wrap ((i:Int)+(1:Int)))=_;rw[wk]),trivial⟩,_,rfl,rfl⟩
    ·skip;have hth:t.head?=none:=by
      have:¬i+1<s.length:=by have:=aB gl;rw[w1] at this;omega
      rw[f7,hd'];exact b6 (by omega)
     have neg:¬((c=60/\(t.head?=some 62∨t.head?=some 61))∨(c=62/\t.head?=some 61)):=by
      rw[hth];rintro(⟨h,_⟩|⟨_,h⟩)
      ·exact c60 h
      ·cases h
     repeat' (refine aF (fun hh=>?_) (fun hh=>?_)<;>first|(exfalso;rw[c62] at hh;revert hh;decide)|(conv=>whnf))
     have hk:sw (c::t)=some 1:=S1 (neg) (.inr (.inr (.inr (.inr (.inr c62)))));have wk:=w1;have hk2:i+1<=s.length:=hlt;obtain⟨n1,n2,n3⟩:=next 1 hk
     refine⟨cN _,?_⟩;(conv=>whnf);refine⟨by rw[wk];exact cN _,⟨by rw[wk,aC,aC];omega,by rw[wk,aC];exact hk2⟩,(c::t).take 1,by rw[wk,aC,aC,hd,bU],?_⟩;(conv=>whnf);cases ws with
     |nil=>
      refine⟨⟨rfl,fQ _,by show(aZ ([]:List By)).length+1<=4294967296;rw[aP];omega⟩,aZ (([]:List By)++[(c::t).take 1]),(([]:List By)++[(c::t).take 1]).length,⟨(by show aZ (([]:List By)++[(c::t).take 1])=aZ ([]:List By)++[GV.s ((c::t).take 1)];simp[aZ]),by show _=(aZ ([]:List By)).length+1;rw[aP];simp⟩,?_⟩;(conv=>whnf);refine⟨⟨zL _,by first|rfl|(rw[aP];rfl)|(rw[aP];simp),by first|exact .inr ⟨rfl,rfl⟩|exact .inl ⟨rfl,rfl⟩⟩,?_⟩;(conv=>whnf);exact⟨s.length - (i+1),(by show _<s.length - i;omega),(i+1,([]:List By)++[(c::t).take 1]),⟨n1,(by show(([]:List By)++[(c::t).take 1]).length<=i+1;rw[aD,aV];omega),n3⟩,rfl,⟨rfl,rfl,(by show GV.i .i64 (IntKind.i64.wrap ((i:Int)+(1:Int)))=_;rw[wk]),trivial⟩,_,rfl,rfl⟩
     |cons z ws=>
      refine⟨⟨rfl,fQ _,by show(aZ (z::ws)).length+1<=4294967296;rw[aP];omega⟩,aZ ((z::ws)++[(c::t).take 1]),((z::ws)++[(c::t).take 1]).length,⟨(by show aZ ((z::ws)++[(c::t).take 1])=aZ (z::ws)++[GV.s ((c::t).take 1)];simp[aZ]),by show _=(aZ (z::ws)).length+1;rw[aP];simp⟩,?_⟩;(conv=>whnf);refine⟨⟨zL _,by first|rfl|(rw[aP];rfl)|(rw[aP];simp),by first|exact .inr ⟨rfl,rfl⟩|exact .inl ⟨rfl,rfl⟩⟩,?_⟩;(conv=>whnf);exact⟨s.length - (i+1),(by show _<s.length - i;omega),(i+1,(z::ws)++[(c::t).take 1]),⟨n1,(by show((z::ws)++[(c::t).take 1]).length<=i+1;rw[aD,aV];omega),n3⟩,rfl,⟨rfl,rfl,(by show GV.i .i64 (IntKind.i64.wrap ((i:Int)+(1:Int)))=_;rw[wk]),trivial⟩,_,rfl,rfl⟩
   ·have c62:=jV (d:=62) g62;have neg:¬((c=60/\(t.head?=some 62∨t.head?=some 61))∨(c=62/\t.head?=some 61)):=by
     rintro(⟨h,_⟩|⟨h,_⟩)
     ·exact c60 h
     ·exact c62 h
    refine aF (fun g=>?_) (fun g=>?_)<;>conv=>whnf
    rotate_left
    ·have m:=mD (d:=40) g;have hk:sw (c::t)=some 1:=S1 (neg) (.inl m);have wk:=w1;have hk2:i+1<=s.length:=hlt;obtain⟨n1,n2,n3⟩:=next 1 hk
     refine⟨cN _,?_⟩;(conv=>whnf);refine⟨by rw[wk];exact cN _,⟨by rw[wk,aC,aC];omega,by rw[wk,aC];exact hk2⟩,(c::t).take 1,by rw[wk,aC,aC,hd,bU],?_⟩;(conv=>whnf);cases ws with
     |nil=>
      refine⟨⟨rfl,fQ _,by show(aZ ([]:List By)).length+1<=4294967296;rw[aP];omega⟩,aZ (([]:List By)++[(c::t).take 1]),(([]:List By)++[(c::t).take 1]).length,⟨(by show aZ (([]:List By)++[(c::t).take 1])=aZ ([]:List By)++[GV.s ((c::t).take 1)];simp[aZ]),by show _=(aZ ([]:List By)).length+1;rw[aP];simp⟩,?_⟩;(conv=>whnf);refine⟨⟨zL _,by first|rfl|(rw[aP];rfl)|(rw[aP];simp),by first|exact .inr ⟨rfl,rfl⟩|exact .inl ⟨rfl,rfl⟩⟩,?_⟩;(conv=>whnf);exact⟨s.length - (i+1),(by show _<s.length - i;omega),(i+1,([]:List By)++[(c::t).take 1]),⟨n1,(by show(([]:List By)++[(c::t).take 1]).length<=i+1;rw[aD,aV];omega),n3⟩,rfl,⟨rfl,rfl,(by show GV.i .i64 (IntKind.i64.wrap ((i:Int)+(1:Int)))=_;rw[wk]),trivial⟩,_,rfl,rfl⟩
     |cons z ws=>
      refine⟨⟨rfl,fQ _,by show(aZ (z::ws)).length+1<=4294967296;rw[aP];omega⟩,aZ ((z::ws)++[(c::t).take 1]),((z::ws)++[(c::t).take 1]).length,⟨(by show aZ ((z::ws)++[(c::t).take 1])=aZ (z::ws)++[GV.s ((c::t).take 1)];simp[aZ]),by show _=(aZ (z::ws)).length+1;rw[aP];simp⟩,?_⟩;(conv=>whnf);refine⟨⟨zL _,by first|rfl|(rw[aP];rfl)|(rw[aP];simp),by first|exact .inr ⟨rfl,rfl⟩|exact .inl ⟨rfl,rfl⟩⟩,?_⟩;(conv=>whnf);exact⟨s.length - (i+1),(by show _<s.length - i;omega),(i+1,(z::ws)++[(c::t).take 1]),⟨n1,(by show((z::ws)++[(c::t).take 1]).length<=i+1;rw[aD,aV];omega),n3⟩,rfl,⟨rfl,rfl,(by show GV.i .i64 (IntKind.i64.wrap ((i:Int)+(1:Int)))=_;rw[wk]),trivial⟩,_,rfl,rfl⟩
    have m40:=nD (d:=40) g;refine aF (fun g=>?_) (fun g=>?_)<;>conv=>whnf
    rotate_left
    ·have m:=mD (d:=41) g;have hk:sw (c::t)=some 1:=S1 (neg) (.inr (.inl m));have wk:=w1;have hk2:i+1<=s.length:=hlt;obtain⟨n1,n2,n3⟩:=next 1 hk
     refine⟨cN _,?_⟩;(conv=>whnf);refine⟨by rw[wk];exact cN _,⟨by rw[wk,aC,aC];omega,by rw[wk,aC];exact hk2⟩,(c::t).take 1,by rw[wk,aC,aC,hd,bU],?_⟩;(conv=>whnf);cases ws with
     |nil=>
      refine⟨⟨rfl,fQ _,by show(aZ ([]:List By)).length+1<=4294967296;rw[aP];omega⟩,aZ (([]:List By)++[(c::t).take 1]),(([]:List By)++[(c::t).take 1]).length,⟨(by show aZ (([]:List By)++[(c::t).take 1])=aZ ([]:List By)++[GV.s ((c::t).take 1)];simp[aZ]),by show _=(aZ ([]:List By)).length+1;rw[aP];simp⟩,?_⟩;(conv=>whnf);refine⟨⟨zL _,by first|rfl|(rw[aP];rfl)|(rw[aP];simp),by first|exact .inr ⟨rfl,rfl⟩|exact .inl ⟨rfl,rfl⟩⟩,?_⟩;(conv=>whnf);exact⟨s.length - (i+1),(by show _<s.length - i;omega),(i+1,([]:List By)++[(c::t).take 1]),⟨n1,(by show(([]:List By)++[(c::t).take 1]).length<=i+1;rw[aD,aV];omega),n3⟩,rfl,⟨rfl,rfl,(by show GV.i .i64 (IntKind.i64.wrap ((i:Int)+(1:Int)))=_;rw[wk]),trivial⟩,_,rfl,rfl⟩
     |cons z ws=>
      refine⟨⟨rfl,fQ _,by show(aZ (z::ws)).length+1<=4294967296;rw[aP];omega⟩,aZ ((z::ws)++[(c::t).take 1]),((z::ws)++[(c::t).take 1]).length,⟨(by show aZ ((z::ws)++[(c::t).take 1])=aZ (z::ws)++[GV.s ((c::t).take 1)];simp[aZ]),by show _=(aZ (z::ws)).length+1;rw[aP];simp⟩,?_⟩;(conv=>whnf);refine⟨⟨zL _,by first|rfl|(rw[aP];rfl)|(rw[aP];simp),by first|exact .inr ⟨rfl,rfl⟩|exact .inl ⟨rfl,rfl⟩⟩,?_⟩;(conv=>whnf);exact⟨s.length - (i+1),(by show _<s.length - i;omega),(i+1,(z::ws)++[(c::t).take 1]),⟨n1,(by show((z::ws)++[(c::t).take 1]).length<=i+1;rw[aD,aV];omega),n3⟩,rfl,⟨rfl,rfl,(by show GV.i .i64 (IntKind.i64.wrap ((i:Int)+(1:Int)))=_;rw[wk]),trivial⟩,_,rfl,rfl⟩
    have m41:=nD (d:=41) g;refine aF (fun g=>?_) (fun g=>?_)<;>conv=>whnf
    rotate_left
    ·have m:=mD (d:=58) g;have hk:sw (c::t)=some 1:=S1 (neg) (.inr (.inr (.inl m)));have wk:=w1;have hk2:i+1<=s.length:=hlt;obtain⟨n1,n2,n3⟩:=next 1 hk
     refine⟨cN _,?_⟩;(conv=>whnf);refine⟨by rw[wk];exact cN _,⟨by rw[wk,aC,aC];omega,by rw[wk,aC];exact hk2⟩,(c::t).take 1,by rw[wk,aC,aC,hd,bU],?_⟩;(conv=>whnf);cases ws with
     |nil=>
      refine⟨⟨rfl,fQ _,by show(aZ ([]:List By)).length+1<=4294967296;rw[aP];omega⟩,aZ (([]:List By)++[(c::t).take 1]),(([]:List By)++[(c::t).take 1]).length,⟨(by show aZ (([]:List By)++[(c::t).take 1])=aZ ([]:List By)++[GV.s ((c::t).take 1)];simp[aZ]),by show _=(aZ ([]:List By)).length+1;rw[aP];simp⟩,?_⟩;(conv=>whnf);refine⟨⟨zL _,by first|rfl|(rw[aP];rfl)|(rw[aP];simp),by first|exact .inr ⟨rfl,rfl⟩|exact .inl ⟨rfl,rfl⟩⟩,?_⟩;(conv=>whnf);exact⟨s.length - (i+1),(by show _<s.length - i;omega),(i+1,([]:List By)++[(c::t).take 1]),⟨n1,(by show(([]:List By)++[(c::t).take 1]).length<=i+1;rw[aD,aV];omega),n3⟩,rfl,⟨rfl,rfl,(by show GV.i .i64 (IntKind.i64.wrap ((i:Int)+(1:Int)))=_;rw[wk]),trivial⟩,_,rfl,rfl⟩
     |cons z ws=>
      refine⟨⟨rfl,fQ _,by show(aZ (z::ws)).length+1<=4294967296;rw[aP];omega⟩,aZ ((z::ws)++[(c::t).take 1]),((z::ws)++[(c::t).take 1]).length,⟨(by show aZ ((z::ws)++[(c::t).take 1])=aZ (z::ws)++[GV.s ((c::t).take 1)];simp[aZ]),by show _=(aZ (z::ws)).length+1;rw[aP];simp⟩,?_⟩;(conv=>whnf);refine⟨⟨zL _,by first|rfl|(rw[aP];rfl)|(rw[aP];simp),by first|exact .inr ⟨rfl,rfl⟩|exact .inl ⟨rfl,rfl⟩⟩,?_⟩;(conv=>whnf);exact⟨s.length - (i+1),(by show _<s.length - i;omega),(i+1,(z::ws)++[(c::t).take 1]),⟨n1,(by show((z::ws)++[(c::t).take 1]).length<=i+1;rw[aD,aV];omega),n3⟩,rfl,⟨rfl,rfl,(by show GV.i .i64 (IntKind.i64.wrap ((i:Int)+(1:Int)))=_;rw[wk]),trivial⟩,_,rfl,rfl⟩
    have m58:=nD (d:=58) g;refine aF (fun g=>?_) (fun g=>?_)<;>conv=>whnf
    rotate_left
    ·have m:=mD (d:=61) g;have hk:sw (c::t)=some 1:=S1 (neg) (.inr (.inr (.inr (.inl m))));have wk:=w1;have hk2:i+1<=s.length:=hlt;obtain⟨n1,n2,n3⟩:=next 1 hk
     refine⟨cN _,?_⟩;(conv=>whnf);refine⟨by rw[wk];exact cN _,⟨by rw[wk,aC,aC];omega,by rw[wk,aC];exact hk2⟩,(c::t).take 1,by rw[wk,aC,aC,hd,bU],?_⟩;(conv=>whnf);cases ws with
     |nil=>
      refine⟨⟨rfl,fQ _,by show(aZ ([]:List By)).length+1<=4294967296;rw[aP];omega⟩,aZ (([]:List By)++[(c::t).take 1]),(([]:List By)++[(c::t).take 1]).length,⟨(by show aZ (([]:List By)++[(c::t).take 1])=aZ ([]:List By)++[GV.s ((c::t).take 1)];simp[aZ]),by show _=(aZ ([]:List By)).length+1;rw[aP];simp⟩,?_⟩;(conv=>whnf);refine⟨⟨zL _,by first|rfl|(rw[aP];rfl)|(rw[aP];simp),by first|exact .inr ⟨rfl,rfl⟩|exact .inl ⟨rfl,rfl⟩⟩,?_⟩;(conv=>whnf);exact⟨s.length - (i+1),(by show _<s.length - i;omega),(i+1,([]:List By)++[(c::t).take 1]),⟨n1,(by show(([]:List By)++[(c::t).take 1]).length<=i+1;rw[aD,aV];omega),n3⟩,rfl,⟨rfl,rfl,(by show GV.i .i64 (IntKind.i64.wrap ((i:Int)+(1:Int)))=_;rw[wk]),trivial⟩,_,rfl,rfl⟩
     |cons z ws=>
      refine⟨⟨rfl,fQ _,by show(aZ (z::ws)).length+1<=4294967296;rw[aP];omega⟩,aZ ((z::ws)++[(c::t).take 1]),((z::ws)++[(c::t).take 1]).length,⟨(by show aZ ((z::ws)++[(c::t).take 1])=aZ (z::ws)++[GV.s ((c::t).take 1)];simp[aZ]),by show _=(aZ (z::ws)).length+1;rw[aP];simp⟩,?_⟩;(conv=>whnf);refine⟨⟨zL _,by first|rfl|(rw[aP];rfl)|(rw[aP];simp),by first|exact .inr ⟨rfl,rfl⟩|exact .inl ⟨rfl,rfl⟩⟩,?_⟩;(conv=>whnf);exact⟨s.length - (i+1),(by show _<s.length - i;omega),(i+1,(z::ws)++[(c::t).take 1]),⟨n1,(by show((z::ws)++[(c::t).take 1]).length<=i+1;rw[aD,aV];omega),n3⟩,rfl,⟨rfl,rfl,(by show GV.i .i64 (IntKind.i64.wrap ((i:Int)+(1:Int)))=_;rw[wk]),trivial⟩,_,rfl,rfl⟩
    have m61:=nD (d:=61) g;refine aF (fun g=>?_) (fun g=>?_)<;>conv=>whnf
    rotate_left
    ·exact absurd (mD (d:=60) g) c60
    refine aF (fun g=>?_) (fun g=>?_)<;>conv=>whnf
    rotate_left
    ·exact absurd (mD (d:=62) g) c62
    have hr:=bad (S0 (by
     rintro(h|h|h|h|h|h)
     ·exact m40 h
     ·exact m41 h
     ·exact m58 h
     ·exact m61 h
     ·exact c60 h
     ·exact c62 h))
    rw[hr];exact bA (sX (bE _ _) (.refl _)) (fJ (.cons (bV dM) (.cons (.b _) .nil)))
