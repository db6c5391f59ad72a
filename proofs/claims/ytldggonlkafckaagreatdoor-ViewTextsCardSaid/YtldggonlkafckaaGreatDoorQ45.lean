/-
  A part of the proof of ViewTexts.
-/
import Derived.Test.YtldggonlkafckaaGreatDoorQ44
import Derived.Test.YtldggonlkafckaaGreatDoorQ21
import Derived.Test.YtldggonlkafckaaGreatDoorQ19
set_option linter.all false
namespace Go.Proofs.YtldggonlkafckaaGreatDoor
open Go.RowKit
set_option maxRecDepth 100000
set_option linter.unusedVariables false
set_option linter.unusedSimpArgs false
theorem c_WriteStringN [MaxL] (l:By) (h0:l≠[]) (hl:l.length<1000000000):SC Tryz.prog 55 [.ptr 0 0,.s l] [bldN] (.val (.tup [.i .i64 l.length,.o .nilIface])) (bld l):=by
 refine SC.of_gwp noM mixed Tryz.func55 rfl (bL rfl) (by simp[bld]) rfl ?_
 conv=>whnf
 refine callG c_copyCheckN [0] (objs':=[.box 127 [.ptr 0 0,.sl .full []]]) (Lies.one' rfl (by simp[bldN])) (wR _) rfl rfl rfl rfl ?_
 conv=>whnf
 refine GIf.mk (fun h=>?_) (fun h=>?_)<;>conv=>whnf
 ·exfalso;exact h0 (by simpa using h)
 refine⟨⟨byG_okEl l,rfl,by show 0+(byG l).length<=4294967296;rw[byG_len];omega⟩,byG l,l.length,⟨rfl,by show _=0+(byG l).length;rw[byG_len];omega⟩,?_⟩
 conv=>whnf
 refine⟨_,⟨rfl,zL _,rfl,bL rfl⟩,?_⟩
 conv=>whnf
 exact owesBld (p:=1) (by simp[bld]) (fun _=>rfl) (by decide) rfl rfl rfl (Wk.refl _)
theorem bld_put4 [MaxL] {x y z w o':GObj} {rest:List GObj} {bs':By} {o:GObj} (ho:∀f,o.ren f=o):
  putBack [1,4] [bldAt 0 1 bs',o] (x::y::z::w::o'::rest)=x::bldAt 1 4 bs'::z::w::o::rest:=by
 rw[putBack_two (by decide) (by simp) (by simp),bldAt_ren,ho]
 rfl
theorem callWS4 [MaxL] {M:FuncId->Bool} {K:GRes->GS->Prop} {x y z:GObj} {rest:List GObj} {bs l:By} {ds:List GDef} (hl:bs.length+l.length<1000000000) (hM:M 55=false) (hk:K (.val (.tup [.i .i64 l.length,.o .nilIface])) ⟨x::bldAt 1 4 (bs++l)::y::z::ownB (bs++l).length::rest,0,ds⟩):
  gcallK Tryz.prog M (.fn 55) [.ptr 1 0,.s l] ⟨x::bldAt 1 4 bs::y::z::ownB bs.length::rest,0,ds⟩ K:=
 callG (c_WriteString bs l hl) [1,4] (bld_lies (by decide) rfl rfl) (wR _) rfl hM (bld_put4 fun _=>rfl) rfl hk
theorem callWS0 [MaxL] {M:FuncId->Bool} {K:GRes->GS->Prop} {x y z:GObj} {l:By} {ds:List GDef} (h0:l≠[]) (hl:l.length<1000000000) (hM:M 55=false) (hk:K (.val (.tup [.i .i64 l.length,.o .nilIface])) ⟨[x,bldAt 1 4 l,y,z,ownB l.length],0,ds⟩):
  gcallK Tryz.prog M (.fn 55) [.ptr 1 0,.s l] ⟨[x,bldN,y,z],0,ds⟩ K:=by
 refine callG (c_WriteStringN l h0 hl) [1] (objs':=[x,bldAt 1 4 l,y,z,ownB l.length]) (Lies.one' rfl (by simp[bldN])) (wR _) rfl hM ?_ rfl hk
 show[x,(bldAt 0 1 l).ren _,y,z,(ownB l.length).ren _]=_
 rw[bldAt_ren];rfl
theorem callStr4 [MaxL] {M:FuncId->Bool} {K:GRes->GS->Prop} {x y z:GObj} {rest:List GObj} {c:UInt8} {t:By} {ds:List GDef} (hl:t.length<1000000000) (hM:M 57=false) (hk:K (.val (.s (c::t))) ⟨x::bldAt 1 4 (c::t)::y::z::.dead::rest,0,ds⟩):
  gcallK Tryz.prog M (.fn 57) [.ptr 1 0] ⟨x::bldAt 1 4 (c::t)::y::z::ownB (c::t).length::rest,0,ds⟩ K:=
 callG (c_String c t hl) [1,4] (bld_lies (by decide) rfl rfl) (wR _) rfl hM (bld_put4 fun _=>rfl) rfl hk
def mB:FuncId->Bool:=fun k=>!(k==55)
def wS (v:Vw) (r0:VwR):Nat->By->List GObj
 |0,_=>[.box 25 (viewC v),bldN]
 |_+1,S=>[.box 25 (viewC v),bldAt 1 4 S,.box 68 (recC r0),ow 9 1 r0.items.length,ownB S.length]
theorem wS_ren [MaxL] (v:Vw) (r0:VwR) (i:Nat) (S:By) (e:Nat->Nat) (he:∀j,j<(wS v r0 i S).length->e j=j):(wS v r0 i S).map (GObj.ren e)=wS v r0 i S:=by
 cases i with
 |zero=>show[GObj.ren e _,GObj.ren e bldN]=_;rw[viewBox_ren];rfl
 |succ i=>
  show[GObj.ren e _,(bldAt 1 4 S).ren e,GObj.ren e _,(ow _ 1 _).ren e,(ownB _).ren e]=_
  rw[viewBox_ren,recBox_ren,ow_ren,bldAt_ren,he 1 (by simp[wS]),he 4 (by simp[wS])];rfl
theorem wS_held [MaxL] (v:Vw) (r0:VwR) (i:Nat) (S:By):(wS v r0 i S).all GObj.notHeld=true:=by
 cases i with
 |zero=>rfl
 |succ i=>simp only[wS,List.all_cons,ow_held];rfl
theorem wS_len (v:Vw) (r0:VwR) (i:Nat) (S:By):2<=(wS v r0 i S).length:=by cases i<;>simp[wS]
theorem join_len_mem:∀{l:List By} {sep x:By},x∈l->x.length<=(Lib.join l sep).length
 |[y],sep,x,h=>by rw[join_one,List.mem_singleton.1 h];exact rL _
 |y::z::l,sep,x,h=>by
  rw[join_cons2]
  rcases List.mem_cons.1 h with rfl|h
  ·simp only[List.length_append];omega
  ·have:=join_len_mem (sep:=sep) h
   simp only[List.length_append];omega
set_option maxHeartbeats 2000000 in
theorem c_writtenV [MaxL] (v:Vw) (hf:formV v=true) (hV:(viewT v).length<=100000):SC Tryz.prog 33 [viewG v] [] (.val (.s (viewT v))) []:=by
 have l1:=recsG_len v.recs
 have l2:=itG_len v.sets
 obtain⟨b1,b2,b3⟩:=view_bounds hV
 have hp:=view_parts v
 have hne:=(formV_iff hf).2.2
 obtain⟨r0,hr0⟩:∃r0,v.recs[0]?=some r0:=by
  cases h:v.recs with
  |nil=>exact absurd h hne
  |cons a l=>exact⟨a,rfl⟩
 have hpos:0<v.recs.length:=List.length_pos_iff.2 hne
 clear hf hne
 refine SC.of_gwp mB mixed Tryz.func33 rfl (bL rfl) (by first|exact rL _|simp) rfl ?_
 conv=>whnf
 refine GLoop.introS (fun q:Nat×By=>q.1<=v.recs.length/\q.2=lns ((v.recs.map recL).take q.1)) (fun q=>[(1,.ptr 0 0),(3,.ptr 1 0),(12,.sl .none (recsG v.recs)),(13,.i .i64 (recsG v.recs).length),(14,.i .i64 (q.1:Nat))]) (fun q=>⟨wS v r0 q.1 q.2,0,[]⟩) (fun q=>v.recs.length - q.1) (0,[]) ⟨zL _,rfl⟩ ⟨rfl,rfl,rfl,rfl,rfl,trivial⟩ rfl (fun q _=>wS_len _ _ _ _) (fun q _=>wS_held _ _ _ _) (fun q _ e he=>?_) (fun q φ0 hi=>?_)
 ·have h2:=wS_len v r0 q.1 q.2
  refine⟨wS_ren _ _ _ _ e he,rfl,?_⟩
  show[GV.ptr (e 0) 0,GV.ptr (e 1) 0,(GV.sl .none (recsG v.recs)).ren e,_,_]=_
  rw[he 0 (by show 0<(wS _ _ _ _).length;omega),he 1 (by show 1<(wS _ _ _ _).length;omega),Cl.sl (recsG_cl _) e];rfl
 obtain⟨i,S⟩:=q
 obtain⟨hi,hS⟩:=hi
 replace hi:i<=v.recs.length:=hi
 replace hS:S=lns ((v.recs.map recL).take i):=hS
 by_cases hlt:i<v.recs.length
 rotate_left
 ·have hie:i=v.recs.length:=by omega
  rw[hie,List.take_of_length_le (by simp)] at hS
  obtain⟨m,rfl⟩:∃m,i=m+1:=⟨i - 1,by omega⟩
  conv=>whnf
  refine GIf.mk (fun h=>?_) (fun h=>?_)<;>conv=>whnf
  ·exfalso;have h9:((m+1:Nat):Int)<((recsG v.recs).length:Nat):=of_decide_eq_true h;omega
  clear h
  refine GLoop.introS (fun q:Nat×By=>q.1<=v.sets.length/\q.2=S++lns ((v.sets.map setL).take q.1)) (fun q=>[(3,.ptr 1 0),(58,.sl .none (itG v.sets)),(59,.i .i64 (itG v.sets).length),(60,.i .i64 (q.1:Nat))]) (fun q=>⟨wS v r0 1 q.2,0,[]⟩) (fun q=>v.sets.length - q.1) (0,S) ⟨zL _,(List.append_nil _).symm⟩ ⟨rfl,rfl,rfl,rfl,trivial⟩ rfl (fun _ _=>rL _) (fun q _=>wS_held v r0 1 q.2) (fun q _ e he=>?_) (fun q φ0 hq=>?_)
  ·refine⟨wS_ren _ _ 1 _ e he,rfl,?_⟩
   show[GV.ptr (e 1) 0,(GV.sl .none (itG v.sets)).ren e,_,_]=_
   rw[he 1 (by simp[wS]),Cl.sl (itG_cl _) e];rfl
  obtain⟨k,T⟩:=q
  obtain⟨hk,hT⟩:=hq
  replace hk:k<=v.sets.length:=hk
  replace hT:T=S++lns ((v.sets.map setL).take k):=hT
  conv=>whnf
  refine GIf.mk (fun h=>?_) (fun h=>?_)<;>conv=>whnf
  rotate_left
  ·have hke:k=v.sets.length:=by have h9:¬((k:Nat):Int)<((itG v.sets).length:Nat):=of_decide_eq_false h;omega
   rw[hke,List.take_of_length_le (by simp),hS] at hT
   have hvt:viewT v=T:=by rw[hT];unfold viewT;rw[lns_app]
   rw[hvt] at hV⊢
   have hTn:T≠[]:=fun e=>by
    have h5:=congrArg List.length hvt
    have h6:=lns_len (v.recs.map recL)
    rw[e] at h5
    rw[List.length_map] at h6
    simp only[List.length_nil] at h5
    omega
   clear hT hvt hp
   match T,hTn,hV with
   |c::T',_,hV=>
    refine callStr4 (M:=fun _=>false) (by simp at hV;omega) rfl ?_
    conv=>whnf
    exact owes_s rfl
  have hlt2:k<v.sets.length:=by have h9:((k:Nat):Int)<((itG v.sets).length:Nat):=of_decide_eq_true h;omega
  have hex:∃p,v.sets[k]?=some p:=⟨v.sets[k],gL hlt2⟩
  refine hex.elim (fun p hpp=>?_)
  have hg:=itG_at hpp
  have hm:(v.sets.map setL)[k]?=some (setL p):=by rw[List.getElem?_map,hpp];rfl
  have hn:S++lns ((v.sets.map setL).take (k+1))=T++(setL p++[10]):=by
   rw[List.take_add_one,hm,lns_app,<-List.append_assoc,<-hT]
   show T++(setL p++[10]++[])=_
   rw[List.append_nil]
  have hle:=lns_take_le (v.sets.map setL) (k+1)
  have hl2:=congrArg List.length hn
  have hsl:(setL p).length=p.1.length+p.2.length+8:=by unfold setL pairT setW ofW;simp;omega
  have hSl:=congrArg List.length hS
  simp only[List.length_append,List.length_cons,List.length_nil] at hl2
  have hb:T.length+p.1.length+p.2.length<=1000000:=by omega
  have hfin:setW1++p.1++ofW++p.2++[10]=setL p++[10]:=by unfold setL pairT setW1 setW;simp only[List.append_assoc];rfl
  clear hle hl2 hsl hT hm hSl
  refine⟨cN _,_,hg,rfl,?_⟩
  conv=>whnf
  refine⟨_,⟨rfl,zL _,rfl,bL rfl⟩,?_⟩
  conv=>whnf
  refine⟨slim_of (a:=setW1) (b:=p.1) (by(try simp only[List.length_append,List.length_cons,List.length_nil,recW1,setW1,ofW,opW,clW,onlyW]);omega),setW1++p.1,rfl,?_⟩
  conv=>whnf
  refine⟨slim_of (a:=(setW1++p.1)) (b:=ofW) (by(try simp only[List.length_append,List.length_cons,List.length_nil,recW1,setW1,ofW,opW,clW,onlyW]);omega),(setW1++p.1)++ofW,rfl,?_⟩
  conv=>whnf
  refine⟨slim_of (a:=((setW1++p.1)++ofW)) (b:=p.2) (by(try simp only[List.length_append,List.length_cons,List.length_nil,recW1,setW1,ofW,opW,clW,onlyW]);omega),((setW1++p.1)++ofW)++p.2,rfl,?_⟩
  conv=>whnf
  refine⟨slim_of (a:=(((setW1++p.1)++ofW)++p.2)) (b:=([10]:By)) (by(try simp only[List.length_append,List.length_cons,List.length_nil,recW1,setW1,ofW,opW,clW,onlyW]);omega),(((setW1++p.1)++ofW)++p.2)++([10]:By),rfl,?_⟩
  conv=>whnf
  refine callWS4 (bs:=T) (by simp only[List.length_append,List.length_cons,List.length_nil,setW1,ofW];omega) rfl ?_
  conv=>whnf
  rw[hfin]
  exact⟨v.sets.length - (k+1),(by show _<v.sets.length - k;omega),(k+1,T++(setL p++[10])),⟨hlt2,hn.symm⟩,rfl,⟨rfl,rfl,rfl,wrap_succ (by omega),trivial⟩,[_],rfl,rfl⟩
 have hex:∃r,v.recs[i]?=some r:=⟨v.recs[i],gL hlt⟩
 refine hex.elim (fun r hr=>?_)
 have hg:=recsG_at hr
 have hit:=(b3 r (List.mem_of_getElem? hr)).1
 have l3:=itG_len r.items
 have hm:(v.recs.map recL)[i]?=some (recL r):=by rw[List.getElem?_map,hr];rfl
 have hn:lns ((v.recs.map recL).take (i+1))=S++(recL r++[10]):=by
  rw[List.take_add_one,hm,lns_app,<-hS]
  show S++(recL r++[10]++[])=_
  rw[List.append_nil]
 have hle:=lns_take_le (v.recs.map recL) (i+1)
 have hl2:=congrArg List.length hn
 have hrl:=recL_len r
 simp only[List.length_append,List.length_cons,List.length_nil] at hl2
 have hb:S.length+(7+r.name.length+4+r.of.length+3+(Lib.join (r.items.map pairT) semi).length+2+(onlyT r).length)<=1000000:=by omega
 have hfin:recL r++[10]=headT r++onlyT r++[10]:=rfl
 have hhd:recW1++r.name++ofW++r.of++opW++Lib.join (r.items.map pairT) semi++clW=headT r:=by unfold headT recW1 recW;simp only[List.append_assoc];rfl
 have hhl:(headT r).length=7+r.name.length+4+r.of.length+3+(Lib.join (r.items.map pairT) semi).length+2:=by
  unfold headT;simp only[List.length_append,recW,ofW,opW,clW,List.length_cons,List.length_nil]
 have hhn:headT r≠[]:=fun e=>by rw[e] at hhl;simp at hhl
 have fin:(v.recs.length - (i+1)<v.recs.length - i)/\i+1<=v.recs.length/\S++(recL r++[10])=lns ((v.recs.map recL).take (i+1)):=⟨by omega,hlt,hn.symm⟩
 have hjn0:=c_Join (r.items.map pairT) semi (by simp;omega) (by omega)
 have hjn:∀Z,Z=r.items.map pairT->SC Tryz.prog 73 [.sl .none (strG Z),.s semi] [] (.val (.s (Lib.join (r.items.map pairT) semi))) []:=fun Z hZ=>by rw[hZ];exact hjn0
 have hel:∀p∈r.items,p.1.length+4+p.2.length<=1000000:=fun p hp=>by
  obtain⟨a,b,e⟩:=List.append_of_mem hp
  have h8:=join_len_mem (l:=r.items.map pairT) (sep:=semi) (x:=pairT p) (List.mem_map_of_mem hp)
  have h9:(pairT p).length=p.1.length+4+p.2.length:=by unfold pairT ofW;simp;omega
  omega
 clear hle hl2 hrl hm
 rcases i with _|m
 ·obtain rfl:r=r0:=by rw[hr0] at hr;exact(Option.some.inj hr).symm
  obtain rfl:S=[]:=hS
  conv=>whnf
  refine GIf.mk (fun h=>?_) (fun h=>?_)<;>conv=>whnf
  rotate_left
  ·exfalso;have h9:¬((0:Nat):Int)<((recsG v.recs).length:Nat):=of_decide_eq_false h;omega
  clear h
  refine⟨cN _,_,hg,rfl,?_⟩
  conv=>whnf
  refine⟨_,⟨rfl,zL _,rfl,bL rfl⟩,?_⟩
  conv=>whnf
  refine GLoop.introS (fun Z:List By=>Z=(r.items.map pairT).take Z.length) (fun Z=>[(3,.ptr 1 0),(12,.sl .none (recsG v.recs)),(13,.i .i64 (recsG v.recs).length),(14,.i .i64 (0:Nat)),(1,.ptr 0 0),(5,.ptr 2 0),(6,.sl (.own 3) (strG Z)),(19,.sl .none (itG r.items)),(20,.i .i64 (itG r.items).length),(21,.i .i64 (Z.length:Nat))]) (fun Z=>⟨[.box 25 (viewC v),bldN,.box 68 (recC r),ow 9 1 Z.length],0,[]⟩) (fun Z=>r.items.length - Z.length) [] rfl ⟨rfl,rfl,rfl,rfl,rfl,rfl,rfl,rfl,rfl,rfl,trivial⟩ rfl (fun _ _=>rL _) (fun _ _=>by simp only[List.all_cons,ow_held];rfl) (fun Z _ e he=>?_) (fun Z φ1 hZ=>?_)
  ·refine⟨?_,rfl,?_⟩
   ·show[GObj.ren e _,GObj.ren e bldN,GObj.ren e _,(ow _ 1 _).ren e]=_
    rw[viewBox_ren,recBox_ren,ow_ren];rfl
   ·show[GV.ptr (e 1) 0,(GV.sl .none (recsG v.recs)).ren e,_,_,GV.ptr (e 0) 0,GV.ptr (e 2) 0,(GV.sl (.own 3) (strG _)).ren e,(GV.sl .none (itG r.items)).ren e,_,_]=_
    rw[he 0 (by simp),he 1 (by simp),he 2 (by simp),ren_own (he 3 (by simp)) (strG_cl _),Cl.sl (recsG_cl _) e,Cl.sl (itG_cl _) e];rfl
  by_cases hkl:Z.length<r.items.length
  rotate_left
  ·have htk:Z=r.items.map pairT:=by rw[hZ];exact List.take_of_length_le (by simp;omega)
   have hke:Z.length=r.items.length:=by rw[htk,List.length_map]
   conv=>whnf
   refine GIf.mk (fun h=>?_) (fun h=>?_)<;>conv=>whnf
   ·exfalso;have h9:((Z.length:Nat):Int)<((itG r.items).length:Nat):=of_decide_eq_true h;omega
   clear h
   refine GDraw.calm (by kernel_rfl) ?_
   conv=>whnf
   refine⟨slim_of (a:=recW1) (b:=r.name) (by(try simp only[List.length_append,List.length_cons,List.length_nil,recW1,setW1,ofW,opW,clW,onlyW]);omega),recW1++r.name,rfl,?_⟩
   conv=>whnf
   refine⟨slim_of (a:=(recW1++r.name)) (b:=ofW) (by(try simp only[List.length_append,List.length_cons,List.length_nil,recW1,setW1,ofW,opW,clW,onlyW]);omega),(recW1++r.name)++ofW,rfl,?_⟩
   conv=>whnf
   refine⟨slim_of (a:=((recW1++r.name)++ofW)) (b:=r.of) (by(try simp only[List.length_append,List.length_cons,List.length_nil,recW1,setW1,ofW,opW,clW,onlyW]);omega),((recW1++r.name)++ofW)++r.of,rfl,?_⟩
   conv=>whnf
   refine⟨slim_of (a:=(((recW1++r.name)++ofW)++r.of)) (b:=opW) (by(try simp only[List.length_append,List.length_cons,List.length_nil,recW1,setW1,ofW,opW,clW,onlyW]);omega),(((recW1++r.name)++ofW)++r.of)++opW,rfl,?_⟩
   conv=>whnf
   refine callP (hjn _ htk) (wC (Wk.sl _ _) (wR _)) rfl (cC (Cl.sl (strG_cl _)) (fun _=>rfl)) (.s _) ?_
   conv=>whnf
   refine⟨slim_of (a:=(recW1++r.name++ofW++r.of++opW)) (b:=Lib.join (r.items.map pairT) semi) (by(try simp only[List.length_append,List.length_cons,List.length_nil,recW1,setW1,ofW,opW,clW,onlyW]);omega),(recW1++r.name++ofW++r.of++opW)++Lib.join (r.items.map pairT) semi,rfl,?_⟩
   conv=>whnf
   refine⟨slim_of (a:=((recW1++r.name++ofW++r.of++opW)++Lib.join (r.items.map pairT) semi)) (b:=clW) (by(try simp only[List.length_append,List.length_cons,List.length_nil,recW1,setW1,ofW,opW,clW,onlyW]);omega),((recW1++r.name++ofW++r.of++opW)++Lib.join (r.items.map pairT) semi)++clW,rfl,?_⟩
   conv=>whnf
   refine callWS0 (by rw[hhd];exact hhn) (by rw[hhd];omega) rfl ?_
   conv=>whnf
   refine GIf.mk (fun ho=>?_) (fun ho=>?_)<;>conv=>whnf
   ·have ho':r.only≠[]:=by simpa using ho
    have e:onlyT r=onlyW++r.only:=if_neg ho'
    have ol:(onlyT r).length=6+r.only.length:=by rw[e];simp[onlyW];omega
    refine⟨slim_of (a:=onlyW) (b:=r.only) (by(try simp only[List.length_append,List.length_cons,List.length_nil,recW1,setW1,ofW,opW,clW,onlyW]);omega),onlyW++r.only,rfl,?_⟩
    conv=>whnf
    refine callWS4 (bs:=(recW1++r.name++ofW++r.of++opW++Lib.join (r.items.map pairT) semi++clW)) (by rw[<-e,hhd];(try rw[List.length_append]);omega) rfl ?_
    conv=>whnf
    refine callWS4 (bs:=(recW1++r.name++ofW++r.of++opW++Lib.join (r.items.map pairT) semi++clW)++(onlyW++r.only)) (l:=[10]) (by rw[<-e,hhd,List.length_append];(try rw[List.length_append]);simp only[List.length_cons,List.length_nil];omega) rfl ?_
    conv=>whnf
    have ef:(recW1++r.name++ofW++r.of++opW++Lib.join (r.items.map pairT) semi++clW)++(onlyW++r.only)++[10]=(([]:By)++(recL r++[10])):=by rw[hfin,e,hhd];simp only[List.append_assoc,List.nil_append,List.append_nil]
    have ob:([.box 25 (viewC v),bldAt 1 4 ((recW1++r.name++ofW++r.of++opW++Lib.join (r.items.map pairT) semi++clW)++(onlyW++r.only)++[10]),.box 68 (recC r),ow 9 1 Z.length,ownB ((recW1++r.name++ofW++r.of++opW++Lib.join (r.items.map pairT) semi++clW)++(onlyW++r.only)++[10]).length]:List GObj)=[.box 25 (viewC v),bldAt 1 4 ((([]:By)++(recL r++[10]))),.box 68 (recC r),ow 9 1 r.items.length,ownB ((([]:By)++(recL r++[10]))).length]:=by rw[ef,hke]
    exact⟨v.recs.length - (0+1),fin.1,(0+1,(([]:By)++(recL r++[10]))),fin.2,rfl,⟨rfl,rfl,rfl,rfl,wrap_succ (by omega),trivial⟩,[],ob,rfl⟩
   ·have ho':r.only=[]:=by simpa using ho
    have e:onlyT r=[]:=if_pos ho'
    refine callWS4 (bs:=(recW1++r.name++ofW++r.of++opW++Lib.join (r.items.map pairT) semi++clW)) (l:=[10]) (by rw[hhd];(try rw[List.length_append]);simp only[List.length_cons,List.length_nil];omega) rfl ?_
    conv=>whnf
    have ef:(recW1++r.name++ofW++r.of++opW++Lib.join (r.items.map pairT) semi++clW)++[10]=(([]:By)++(recL r++[10])):=by rw[hfin,e,hhd];simp only[List.append_assoc,List.nil_append,List.append_nil]
    have ob:([.box 25 (viewC v),bldAt 1 4 ((recW1++r.name++ofW++r.of++opW++Lib.join (r.items.map pairT) semi++clW)++[10]),.box 68 (recC r),ow 9 1 Z.length,ownB ((recW1++r.name++ofW++r.of++opW++Lib.join (r.items.map pairT) semi++clW)++[10]).length]:List GObj)=[.box 25 (viewC v),bldAt 1 4 ((([]:By)++(recL r++[10]))),.box 68 (recC r),ow 9 1 r.items.length,ownB ((([]:By)++(recL r++[10]))).length]:=by rw[ef,hke]
    exact⟨v.recs.length - (0+1),fin.1,(0+1,(([]:By)++(recL r++[10]))),fin.2,rfl,⟨rfl,rfl,rfl,rfl,wrap_succ (by omega),trivial⟩,[],ob,rfl⟩
  have hex2:∃p,r.items[Z.length]?=some p:=⟨r.items[Z.length],gL hkl⟩
  refine hex2.elim (fun p hpp=>?_)
  have hgp:=itG_at hpp
  have hmp:(r.items.map pairT)[Z.length]?=some (pairT p):=by rw[List.getElem?_map,hpp];rfl
  have hts:Z++[pairT p]=(r.items.map pairT).take (Z++[pairT p]).length:=by rw[List.length_append,show[pairT p].length=1 from rfl,List.take_add_one,hmp,<-hZ];rfl
  have hpl:=hel p (List.mem_of_getElem? hpp)
  have w5:=wrap_succ (i:=Z.length) (by omega)
  have hml:r.items.length - (Z++[pairT p]).length<r.items.length - Z.length:=by rw[List.length_append,show[pairT p].length=1 from rfl];omega
  have w6:GV.i .i64 (IntKind.i64.wrap ((Z.length:Int)+1))=.i .i64 ((Z++[pairT p]).length:Nat):=by rw[List.length_append];exact w5
  clear hZ hmp w5
  rcases Z with _|⟨z,Z⟩
  all_goals
   conv=>whnf
   refine GIf.mk (fun h=>?_) (fun h=>?_)<;>conv=>whnf
   rotate_left
   ·exfalso;have h9:=of_decide_eq_false h;simp only[List.length_cons,List.length_nil] at hkl h9;omega
   clear h
   refine⟨cN _,_,hgp,rfl,?_⟩
   conv=>whnf
   refine⟨_,⟨rfl,zL _,rfl,bL rfl⟩,?_⟩
   conv=>whnf
   refine⟨slim_of (a:=p.1) (b:=ofW) (by(try simp only[List.length_append,List.length_cons,List.length_nil,recW1,setW1,ofW,opW,clW,onlyW]);omega),p.1++ofW,rfl,?_⟩
   conv=>whnf
   refine⟨slim_of (a:=(p.1++ofW)) (b:=p.2) (by(try simp only[List.length_append,List.length_cons,List.length_nil,recW1,setW1,ofW,opW,clW,onlyW]);omega),(p.1++ofW)++p.2,rfl,?_⟩
   conv=>whnf
  ·refine⟨⟨rfl,rfl,bL rfl⟩,strG ([]++[pairT p]),1,⟨rfl,rfl⟩,?_⟩
   conv=>whnf
   refine⟨⟨zL _,rfl,by first|exact .inr ⟨rfl,rfl⟩|exact .inl ⟨rfl,rfl⟩⟩,?_⟩
   conv=>whnf
   exact⟨r.items.length - ([]++[pairT p]).length,hml,[]++[pairT p],hts,rfl,⟨rfl,rfl,rfl,rfl,rfl,rfl,rfl,rfl,rfl,w6,trivial⟩,_,rfl,rfl⟩
  ·refine⟨⟨rfl,strG_ok _,by show(strG (z::Z)).length+1<=4294967296;rw[strG_len];omega⟩,strG ((z::Z)++[pairT p]),((z::Z)++[pairT p]).length,⟨by unfold strG;rw[List.map_append];rfl,by show _=(strG (z::Z)).length+1;rw[strG_len,List.length_append];rfl⟩,?_⟩
   conv=>whnf
   refine⟨⟨zL _,by show _=(strG (z::Z)).length;rw[strG_len];rfl,.inl ⟨rfl,rfl⟩⟩,?_⟩
   conv=>whnf
   exact⟨r.items.length - ((z::Z)++[pairT p]).length,hml,(z::Z)++[pairT p],hts,rfl,⟨rfl,rfl,rfl,rfl,rfl,rfl,rfl,rfl,rfl,w6,trivial⟩,_,rfl,rfl⟩
 ·skip
  conv=>whnf
  refine GIf.mk (fun h=>?_) (fun h=>?_)<;>conv=>whnf
  rotate_left
  ·exfalso;have h9:¬(((m+1):Nat):Int)<((recsG v.recs).length:Nat):=of_decide_eq_false h;omega
  clear h
  refine⟨cN _,_,hg,rfl,?_⟩
  conv=>whnf
  refine⟨_,⟨rfl,zL _,rfl,bL rfl⟩,?_⟩
  conv=>whnf
  refine GLoop.introS (fun Z:List By=>Z=(r.items.map pairT).take Z.length) (fun Z=>[(3,.ptr 1 0),(12,.sl .none (recsG v.recs)),(13,.i .i64 (recsG v.recs).length),(14,.i .i64 ((m+1):Nat)),(1,.ptr 0 0),(5,.ptr 5 0),(6,.sl (.own 6) (strG Z)),(19,.sl .none (itG r.items)),(20,.i .i64 (itG r.items).length),(21,.i .i64 (Z.length:Nat))]) (fun Z=>⟨[.box 25 (viewC v),bldAt 1 4 S,.box 68 (recC r0),ow 9 1 r0.items.length,ownB S.length,.box 68 (recC r),ow 9 1 Z.length],0,[]⟩) (fun Z=>r.items.length - Z.length) [] rfl ⟨rfl,rfl,rfl,rfl,rfl,rfl,rfl,rfl,rfl,rfl,trivial⟩ rfl (fun _ _=>rL _) (fun _ _=>by simp only[List.all_cons,ow_held];rfl) (fun Z _ e he=>?_) (fun Z φ1 hZ=>?_)
  ·refine⟨?_,rfl,?_⟩
   ·show[GObj.ren e _,(bldAt 1 4 S).ren e,GObj.ren e _,(ow _ 1 _).ren e,(ownB _).ren e,GObj.ren e _,(ow _ 1 _).ren e]=_
    rw[viewBox_ren,recBox_ren,recBox_ren,ow_ren,ow_ren,bldAt_ren,he 1 (by simp),he 4 (by simp)];rfl
   ·show[GV.ptr (e 1) 0,(GV.sl .none (recsG v.recs)).ren e,_,_,GV.ptr (e 0) 0,GV.ptr (e 5) 0,(GV.sl (.own 6) (strG _)).ren e,(GV.sl .none (itG r.items)).ren e,_,_]=_
    rw[he 0 (by simp),he 1 (by simp),he 5 (by simp),ren_own (he 6 (by simp)) (strG_cl _),Cl.sl (recsG_cl _) e,Cl.sl (itG_cl _) e];rfl
  by_cases hkl:Z.length<r.items.length
  rotate_left
  ·have htk:Z=r.items.map pairT:=by rw[hZ];exact List.take_of_length_le (by simp;omega)
   have hke:Z.length=r.items.length:=by rw[htk,List.length_map]
   conv=>whnf
   refine GIf.mk (fun h=>?_) (fun h=>?_)<;>conv=>whnf
   ·exfalso;have h9:((Z.length:Nat):Int)<((itG r.items).length:Nat):=of_decide_eq_true h;omega
   clear h
   refine GDraw.calm (by kernel_rfl) ?_
   conv=>whnf
   refine⟨slim_of (a:=recW1) (b:=r.name) (by(try simp only[List.length_append,List.length_cons,List.length_nil,recW1,setW1,ofW,opW,clW,onlyW]);omega),recW1++r.name,rfl,?_⟩
   conv=>whnf
   refine⟨slim_of (a:=(recW1++r.name)) (b:=ofW) (by(try simp only[List.length_append,List.length_cons,List.length_nil,recW1,setW1,ofW,opW,clW,onlyW]);omega),(recW1++r.name)++ofW,rfl,?_⟩
   conv=>whnf
   refine⟨slim_of (a:=((recW1++r.name)++ofW)) (b:=r.of) (by(try simp only[List.length_append,List.length_cons,List.length_nil,recW1,setW1,ofW,opW,clW,onlyW]);omega),((recW1++r.name)++ofW)++r.of,rfl,?_⟩
   conv=>whnf
   refine⟨slim_of (a:=(((recW1++r.name)++ofW)++r.of)) (b:=opW) (by(try simp only[List.length_append,List.length_cons,List.length_nil,recW1,setW1,ofW,opW,clW,onlyW]);omega),(((recW1++r.name)++ofW)++r.of)++opW,rfl,?_⟩
   conv=>whnf
   refine callP (hjn _ htk) (wC (Wk.sl _ _) (wR _)) rfl (cC (Cl.sl (strG_cl _)) (fun _=>rfl)) (.s _) ?_
   conv=>whnf
   refine⟨slim_of (a:=(recW1++r.name++ofW++r.of++opW)) (b:=Lib.join (r.items.map pairT) semi) (by(try simp only[List.length_append,List.length_cons,List.length_nil,recW1,setW1,ofW,opW,clW,onlyW]);omega),(recW1++r.name++ofW++r.of++opW)++Lib.join (r.items.map pairT) semi,rfl,?_⟩
   conv=>whnf
   refine⟨slim_of (a:=((recW1++r.name++ofW++r.of++opW)++Lib.join (r.items.map pairT) semi)) (b:=clW) (by(try simp only[List.length_append,List.length_cons,List.length_nil,recW1,setW1,ofW,opW,clW,onlyW]);omega),((recW1++r.name++ofW++r.of++opW)++Lib.join (r.items.map pairT) semi)++clW,rfl,?_⟩
   conv=>whnf
   refine callWS4 (bs:=S) (by rw[hhd];omega) rfl ?_
   conv=>whnf
   refine GIf.mk (fun ho=>?_) (fun ho=>?_)<;>conv=>whnf
   ·have ho':r.only≠[]:=by simpa using ho
    have e:onlyT r=onlyW++r.only:=if_neg ho'
    have ol:(onlyT r).length=6+r.only.length:=by rw[e];simp[onlyW];omega
    refine⟨slim_of (a:=onlyW) (b:=r.only) (by(try simp only[List.length_append,List.length_cons,List.length_nil,recW1,setW1,ofW,opW,clW,onlyW]);omega),onlyW++r.only,rfl,?_⟩
    conv=>whnf
    refine callWS4 (bs:=(S++(recW1++r.name++ofW++r.of++opW++Lib.join (r.items.map pairT) semi++clW))) (by rw[<-e,hhd];(try rw[List.length_append]);omega) rfl ?_
    conv=>whnf
    refine callWS4 (bs:=(S++(recW1++r.name++ofW++r.of++opW++Lib.join (r.items.map pairT) semi++clW))++(onlyW++r.only)) (l:=[10]) (by rw[<-e,hhd,List.length_append];(try rw[List.length_append]);simp only[List.length_cons,List.length_nil];omega) rfl ?_
    conv=>whnf
    have ef:(S++(recW1++r.name++ofW++r.of++opW++Lib.join (r.items.map pairT) semi++clW))++(onlyW++r.only)++[10]=((S:By)++(recL r++[10])):=by rw[hfin,e,hhd];simp only[List.append_assoc,List.nil_append,List.append_nil]
    have ob:([.box 25 (viewC v),bldAt 1 4 ((S++(recW1++r.name++ofW++r.of++opW++Lib.join (r.items.map pairT) semi++clW))++(onlyW++r.only)++[10]),.box 68 (recC r0),ow 9 1 r0.items.length,ownB ((S++(recW1++r.name++ofW++r.of++opW++Lib.join (r.items.map pairT) semi++clW))++(onlyW++r.only)++[10]).length,.box 68 (recC r),ow 9 1 Z.length]:List GObj)=[.box 25 (viewC v),bldAt 1 4 (((S:By)++(recL r++[10]))),.box 68 (recC r0),ow 9 1 r0.items.length,ownB (((S:By)++(recL r++[10]))).length,.box 68 (recC r),ow 9 1 Z.length]:=by rw[ef]
    exact⟨v.recs.length - ((m+1)+1),fin.1,((m+1)+1,((S:By)++(recL r++[10]))),fin.2,rfl,⟨rfl,rfl,rfl,rfl,wrap_succ (by omega),trivial⟩,[.box 68 (recC r),ow 9 1 Z.length],ob,rfl⟩
   ·have ho':r.only=[]:=by simpa using ho
    have e:onlyT r=[]:=if_pos ho'
    refine callWS4 (bs:=(S++(recW1++r.name++ofW++r.of++opW++Lib.join (r.items.map pairT) semi++clW))) (l:=[10]) (by rw[hhd];(try rw[List.length_append]);simp only[List.length_cons,List.length_nil];omega) rfl ?_
    conv=>whnf
    have ef:(S++(recW1++r.name++ofW++r.of++opW++Lib.join (r.items.map pairT) semi++clW))++[10]=((S:By)++(recL r++[10])):=by rw[hfin,e,hhd];simp only[List.append_assoc,List.nil_append,List.append_nil]
    have ob:([.box 25 (viewC v),bldAt 1 4 ((S++(recW1++r.name++ofW++r.of++opW++Lib.join (r.items.map pairT) semi++clW))++[10]),.box 68 (recC r0),ow 9 1 r0.items.length,ownB ((S++(recW1++r.name++ofW++r.of++opW++Lib.join (r.items.map pairT) semi++clW))++[10]).length,.box 68 (recC r),ow 9 1 Z.length]:List GObj)=[.box 25 (viewC v),bldAt 1 4 (((S:By)++(recL r++[10]))),.box 68 (recC r0),ow 9 1 r0.items.length,ownB (((S:By)++(recL r++[10]))).length,.box 68 (recC r),ow 9 1 Z.length]:=by rw[ef]
    exact⟨v.recs.length - ((m+1)+1),fin.1,((m+1)+1,((S:By)++(recL r++[10]))),fin.2,rfl,⟨rfl,rfl,rfl,rfl,wrap_succ (by omega),trivial⟩,[.box 68 (recC r),ow 9 1 Z.length],ob,rfl⟩
  have hex2:∃p,r.items[Z.length]?=some p:=⟨r.items[Z.length],gL hkl⟩
  refine hex2.elim (fun p hpp=>?_)
  have hgp:=itG_at hpp
  have hmp:(r.items.map pairT)[Z.length]?=some (pairT p):=by rw[List.getElem?_map,hpp];rfl
  have hts:Z++[pairT p]=(r.items.map pairT).take (Z++[pairT p]).length:=by rw[List.length_append,show[pairT p].length=1 from rfl,List.take_add_one,hmp,<-hZ];rfl
  have hpl:=hel p (List.mem_of_getElem? hpp)
  have w5:=wrap_succ (i:=Z.length) (by omega)
  have hml:r.items.length - (Z++[pairT p]).length<r.items.length - Z.length:=by rw[List.length_append,show[pairT p].length=1 from rfl];omega
  have w6:GV.i .i64 (IntKind.i64.wrap ((Z.length:Int)+1))=.i .i64 ((Z++[pairT p]).length:Nat):=by rw[List.length_append];exact w5
  clear hZ hmp w5
  rcases Z with _|⟨z,Z⟩
  all_goals
   conv=>whnf
   refine GIf.mk (fun h=>?_) (fun h=>?_)<;>conv=>whnf
   rotate_left
   ·exfalso;have h9:=of_decide_eq_false h;simp only[List.length_cons,List.length_nil] at hkl h9;omega
   clear h
   refine⟨cN _,_,hgp,rfl,?_⟩
   conv=>whnf
   refine⟨_,⟨rfl,zL _,rfl,bL rfl⟩,?_⟩
   conv=>whnf
   refine⟨slim_of (a:=p.1) (b:=ofW) (by(try simp only[List.length_append,List.length_cons,List.length_nil,recW1,setW1,ofW,opW,clW,onlyW]);omega),p.1++ofW,rfl,?_⟩
   conv=>whnf
   refine⟨slim_of (a:=(p.1++ofW)) (b:=p.2) (by(try simp only[List.length_append,List.length_cons,List.length_nil,recW1,setW1,ofW,opW,clW,onlyW]);omega),(p.1++ofW)++p.2,rfl,?_⟩
   conv=>whnf
  ·refine⟨⟨rfl,rfl,bL rfl⟩,strG ([]++[pairT p]),1,⟨rfl,rfl⟩,?_⟩
   conv=>whnf
   refine⟨⟨zL _,rfl,by first|exact .inr ⟨rfl,rfl⟩|exact .inl ⟨rfl,rfl⟩⟩,?_⟩
   conv=>whnf
   exact⟨r.items.length - ([]++[pairT p]).length,hml,[]++[pairT p],hts,rfl,⟨rfl,rfl,rfl,rfl,rfl,rfl,rfl,rfl,rfl,w6,trivial⟩,_,rfl,rfl⟩
  ·refine⟨⟨rfl,strG_ok _,by show(strG (z::Z)).length+1<=4294967296;rw[strG_len];omega⟩,strG ((z::Z)++[pairT p]),((z::Z)++[pairT p]).length,⟨by unfold strG;rw[List.map_append];rfl,by show _=(strG (z::Z)).length+1;rw[strG_len,List.length_append];rfl⟩,?_⟩
   conv=>whnf
   refine⟨⟨zL _,by show _=(strG (z::Z)).length;rw[strG_len];rfl,.inl ⟨rfl,rfl⟩⟩,?_⟩
   conv=>whnf
   exact⟨r.items.length - ((z::Z)++[pairT p]).length,hml,(z::Z)++[pairT p],hts,rfl,⟨rfl,rfl,rfl,rfl,rfl,rfl,rfl,rfl,rfl,w6,trivial⟩,_,rfl,rfl⟩
theorem c_FormatV [MaxL] (v:Vw) (hV:(viewT v).length<=100000):SC Tryz.prog 9 [viewG v] [] (.val (.s (fmtV v))) []:=by
 obtain⟨b1,b2,b3⟩:=view_bounds hV
 have h:=c_form v b1 b2 (fun r hr=>⟨(b3 r hr).1,by have:=(b3 r hr).2.1;omega⟩)
 unfold fmtV
 rcases Bool.eq_false_or_eq_true (formV v) with hf|hf
 ·have hw:=c_writtenV v hf hV
  rw[hf] at h⊢
  refine gwS Tryz.func9 rfl ?_
  conv=>whnf
  refine callP h (wR _) rfl (cC (viewG_cl v) .nil) (.b _) ?_
  conv=>whnf
  refine callP hw (wR _) rfl (cC (viewG_cl v) .nil) (.s _) ?_
  conv=>whnf
  exact owes_s rfl
 ·rw[hf] at h⊢
  refine gwS Tryz.func9 rfl ?_
  conv=>whnf
  refine callP h (wR _) rfl (cC (viewG_cl v) .nil) (.b _) ?_
  conv=>whnf
  exact owes_s rfl
theorem c_splitSeq [MaxL] (s p:By):SC Tryz.prog 132 [.s s,.s p,.i .i64 0] [] (.val (.fn (.func 182) [] [.ptr 1 0,.ptr 0 0,.ptr 2 0])) [.box 9 [.s s],.box 9 [.s p],.box 3 [.i .i64 0]]:=by
 refine SC.of_gwp noM mixed Tryz.func132 rfl (bL rfl) (by simp) rfl ?_
 conv=>whnf
 refine⟨[0,1,2],⟨by decide,rfl,fun i k x h1 h2=>?_,fun x hx=>by simp at hx;rcases hx with rfl|rfl|rfl<;>simp⟩,fun i hi=>absurd hi (Nat.not_lt_zero i),?_⟩
 ·match i,h1,h2 with
  |0,h1,h2=>cases h1;cases h2;rfl
  |1,h1,h2=>cases h1;cases h2;rfl
  |2,h1,h2=>cases h1;cases h2;rfl
  |i+3,h1,h2=>cases h1
 ·exact .refl _
theorem c_SplitSeq [MaxL] (s p:By):SC Tryz.prog 77 [.s s,.s p] [] (.val (.fn (.func 182) [] [.ptr 1 0,.ptr 0 0,.ptr 2 0])) [.box 9 [.s s],.box 9 [.s p],.box 3 [.i .i64 0]]:=by
 refine SC.of_gwp noM mixed Tryz.func77 rfl (bL rfl) (by simp) rfl ?_
 conv=>whnf
 refine callG (c_splitSeq s p) [] (objs':=[.box 9 [.s s],.box 9 [.s p],.box 3 [.i .i64 0]]) Lies.nil (wR _) rfl rfl rfl rfl ?_
 conv=>whnf
 refine⟨[0,1,2],⟨by decide,rfl,fun i k x h1 h2=>?_,fun x hx=>by simp at hx;rcases hx with rfl|rfl|rfl<;>simp⟩,fun i hi=>absurd hi (Nat.not_lt_zero i),?_⟩
 ·match i,h1,h2 with
  |0,h1,h2=>cases h1;cases h2;rfl
  |1,h1,h2=>cases h1;cases h2;rfl
  |2,h1,h2=>cases h1;cases h2;rfl
  |i+3,h1,h2=>cases h1
 ·exact .refl _
variable [Globals]
theorem emb_pre_le {n N:Nat} {D C:Cx} (hn:n<=N) (hl:C.le D) (hC:∀r,n<=r->C.bk r=none/\C.own r=none):C.le (D.pull (emb (List.range n) N)):=by
 have he:∀i,i<n->emb (List.range n) N i=i:=fun i hi=>by rw[emb_lt (by simpa using hi)];simp
 refine⟨hl.fx,fun i b hb=>?_,fun i I hI=>?_,hl.hd,hl.fix⟩
 ·have hi:i<n:=by
   rcases Nat.lt_or_ge i n with h|h
   ·exact h
   ·rw[(hC i h).1] at hb;cases hb
  show D.bk (emb (List.range n) N i)=some b
  rw[he i hi];exact hl.bk i b hb
 ·have hi:i<n:=by
   rcases Nat.lt_or_ge i n with h|h
   ·exact h
   ·rw[(hC i h).2] at hI;cases hI
  show∃J,D.own (emb (List.range n) N i)=some J/\_
  rw[he i hi];exact hl.own i I hI
theorem Fact.forget {P:Program} {q:Nat} {args:List GV} {σ:GS} {r:GRes} {s' extra:List GObj} {lo:Nat} {ds:List GDef} (h:Fact P (.yld q) args σ r ⟨s'++extra,lo,ds⟩) (hlo:lo=0) (hlen:σ.objs.length<=s'.length) (hc:Own0 s') (hh:s'.all GObj.notHeld=true) (hr:∀e,r.ren e=r) (hσ:σ.objs.all GObj.notHeld=true):
  Fact P (.yld q) args σ r ⟨s',lo,ds⟩:=by
 have hh':∀x∈s',x≠ .held:=fun x hx e=>by subst e;have:=List.all_eq_true.1 hh _ hx;cases this
 have hnh:∀k:Nat,σ.objs[k]?≠some .held:=fun k hk=>by
  have:=List.all_eq_true.1 hσ .held (List.mem_iff_getElem?.2 ⟨k,hk⟩)
  cases this
 refine⟨⟨h.keep.lo,hlen,fun h1 k hk=>?_,fun k hk=>absurd hk (hnh k)⟩,h.ds,fun w0 C w vs hR hv b hb=>?_⟩
 ·have h2:σ.lo=0:=by have h3:lo=σ.lo:=h.keep.lo;omega
  omega
 ·obtain⟨f,t,a,c,h1,h2⟩:=h.calls w0 C w vs hR hv b hb
  refine⟨f,t,a,c,h1,h2.mono ?_⟩
  rintro e w' ⟨D,hl,hrD,he⟩
  refine⟨D.pull (emb (List.range s'.length) (s'++extra).length),emb_pre_le (by simp) hl (fun i hi=>hR.dom i (by omega)),?_,?_⟩
  ·have:=hrD.pull (Lies.pre hc hh')
   exact⟨this.below,this.fxc,this.obj,this.dom,this.new,this.inj,this.sepB,this.sepO,this.fxn,this.gl,this.gs⟩
  ·have he2:ERel D (r.ren (emb (List.range s'.length) (s'++extra).length)) e:=by rw[hr];exact he
   exact he2.pull (D:=D) (f:=emb (List.range s'.length) (s'++extra).length) (E:=D.pull (emb (List.range s'.length) (s'++extra).length)) (fun _ _ _ h=>h) (fun _=>rfl) (fun _=>rfl)
theorem SC.less {P:Program} {k:FuncId} {args:List GV} {s s' s2:List GObj} {r:GRes} (h:SC P k args s r s') (hl:s2.length=s'.length) (hh:∀x∈s2,x≠ .held) (ho:∀(C:Cx) (w:World) (i:Nat) x y,s'[i]?=some x->s2[i]?=some y->ORel C w i x->ORel C w i y):SC P k args s r s2:=
 ⟨by rw[hl];exact h.len,fun C w vs hR hv=>(h.calls C w vs hR hv).mono fun e w' ⟨D,h1,h2,h3⟩=>⟨D,h1,⟨h2.below,h2.fxc,fun i y hy=>(by
  have hi:i<s'.length:=by rw[<-hl];exact(List.getElem?_eq_some_iff.1 hy).1
  exact ho D w' i _ y (gL hi) hy (h2.obj i _ (gL hi))),fun i hi=>h2.dom i (by rw[<-show s2.length=s'.length from hl];exact hi),h2.new,h2.inj,h2.sepB,h2.sepO,h2.fxn,h2.gl,h2.gs⟩,h3⟩,hh⟩
theorem ORel.box_less {C:Cx} {w:World} {i:Nat} {T:TypeId} {cs cs':List GV} (hl:cs.length=cs'.length) (hw:∀(j:Nat) g g',cs[j]?=some g->cs'[j]?=some g'->Wk g g') (h:ORel C w i (.box T cs)):ORel C w i (.box T cs'):=by
 obtain⟨h0,b,vs,h1,h2,h3,h4⟩:=h
 refine⟨h0,b,vs,h1,h2,⟨by rw[<-hl,h3.1,hl],fun j g u g1 g2=>?_⟩,fun q=>by rw[h4 q,hl]⟩
 have hj:j<cs.length:=by rw[hl];exact(List.getElem?_eq_some_iff.1 g1).1
 rw[<-hl] at g2
 exact hw j _ g (gL hj) g1 C u (h3.2 j _ u (gL hj) g2)
theorem Wk.slEl {k:Tok} {xs ys:List GV} (hl:xs.length=ys.length) (h:∀(i:Nat) x y,xs[i]?=some x->ys[i]?=some y->x.cells.length=y.cells.length/\∀(j:Nat) g g',x.cells[j]?=some g->y.cells[j]?=some g'->Wk g g'):Wk (.sl k xs) (.sl k ys):=fun C v hv=>by
 cases hv with
 |sl esz b off us hn hc ha hw hx hvv ht=>
 have at_:∀(i:Nat) y,ys[i]?=some y->∃x,xs[i]?=some x:=fun i y hy=>by
  have:i<xs.length:=by rw[hl];exact(List.getElem?_eq_some_iff.1 hy).1
  exact⟨xs[i],gL this⟩
 have cell:∀(i:Nat) y (j:Nat) g,ys[i]?=some y->y.cells[j]?=some g->∃x g0,xs[i]?=some x/\x.cells[j]?=some g0/\Wk g0 g:=fun i y j g h1 h2=>by
  obtain⟨x,hx0⟩:=at_ i y h1
  obtain⟨h3,h4⟩:=h i x y hx0 h1
  have:j<x.cells.length:=by rw[h3];exact(List.getElem?_eq_some_iff.1 h2).1
  exact⟨x,x.cells[j],hx0,gL this,h4 j _ g (gL this) h2⟩
 refine .sl esz b off us (hn.trans hl) hc ha (fun y hy=>?_) (fun i y j g h1 h2=>?_) (fun i y j g h1 h2=>?_) (by rw[<-hl];exact ht)
 ·obtain⟨i,hi⟩:=List.mem_iff_getElem?.1 hy
  obtain⟨x,hx0⟩:=at_ i y hi
  rw[<-(h i x y hx0 hi).1]
  exact hw x (List.mem_iff_getElem?.2 ⟨i,hx0⟩)
 ·obtain⟨x,g0,q1,q2,_⟩:=cell i y j g h1 h2
  exact hx i x j g0 q1 q2
 ·obtain⟨x,g0,q1,q2,q3⟩:=cell i y j g h1 h2
  exact q3 C _ (hvv i x j g0 q1 q2)
theorem SC.forget {P:Program} {k:FuncId} {args:List GV} {s s' extra:List GObj} {r:GRes} (h:SC P k args s r (s'++extra)) (hlen:s.length<=s'.length) (hc:Own0 s') (hh:s'.all GObj.notHeld=true) (hr:∀e,r.ren e=r):SC P k args s r s':=by
 have hh':∀x∈s',x≠ .held:=fun x hx e=>by subst e;have:=List.all_eq_true.1 hh _ hx;cases this
 refine⟨hlen,fun C w vs hR hv=>(h.calls C w vs hR hv).mono ?_,hh'⟩
 rintro e w' ⟨D,hl,hrD,he⟩
 refine⟨D.pull (emb (List.range s'.length) (s'++extra).length),emb_pre_le (by simp) hl (fun i hi=>hR.dom i (Nat.le_trans hlen hi)),hrD.pull (Lies.pre hc hh'),?_⟩
 have he2:ERel D (r.ren (emb (List.range s'.length) (s'++extra).length)) e:=by rw[hr];exact he
 exact he2.pull (D:=D) (f:=emb (List.range s'.length) (s'++extra).length) (E:=D.pull (emb (List.range s'.length) (s'++extra).length)) (fun _ _ _ h=>h) (fun _=>rfl) (fun _=>rfl)
end Go.Proofs.YtldggonlkafckaaGreatDoor
