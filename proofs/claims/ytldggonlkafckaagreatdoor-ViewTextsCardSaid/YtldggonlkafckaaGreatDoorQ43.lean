/-
  A part of the proof of ViewTexts.
-/
import Derived.Test.YtldggonlkafckaaGreatDoorQ42
set_option linter.all false
namespace Go.Proofs.YtldggonlkafckaaGreatDoor
open Go.RowKit
set_option maxRecDepth 100000
set_option linter.unusedVariables false
set_option linter.unusedSimpArgs false
theorem slim_of {a b:By} (h:a.length+b.length<=1000000000):a.length+b.length<4611686018427387904:=by omega
theorem join_snoc:∀(l:List By) (x sep:By),Lib.join (l++[x]) sep=if l=[] then x else Lib.join l sep++sep++x
 |[],x,sep=>by rw[List.nil_append,join_one];rfl
 |[y],x,sep=>by rw[if_neg (by simp),show[y]++[x]=[y,x] from rfl,join_cons2,join_one,join_one]
 |y::z::l,x,sep=>by
  have:=join_snoc (z::l) x sep
  rw[if_neg (by simp)] at this⊢
  rw[show(y::z::l)++[x]=y::z::(l++[x]) from rfl,join_cons2,show z::(l++[x])=(z::l)++[x] from rfl,this,join_cons2]
  simp only[List.append_assoc]
theorem join_take_le (l:List By) (sep:By):∀k,(Lib.join (l.take k) sep).length<=(Lib.join (l.take (k+1)) sep).length:=fun k=>by
 rw[List.take_add_one]
 cases h:l[k]? with
 |none=>simp
 |some x=>
  rw[Option.toList_some,join_snoc]
  split
  ·rename_i h1;rw[h1];unfold Lib.join;simp[List.intercalate]
  ·simp only[List.length_append];omega
theorem join_take (l:List By) (sep:By) (k:Nat):∀n,(Lib.join (l.take k) sep).length<=(Lib.join (l.take (k+n)) sep).length
 |0=>rL _
 |n+1=>Nat.le_trans (join_take l sep k n) (join_take_le l sep (k+n))
theorem join_take_all (l:List By) (sep:By) (k:Nat):(Lib.join (l.take k) sep).length<=(Lib.join l sep).length:=by
 have h:=join_take l sep k l.length
 have h2:l.take (k+l.length)=l:=List.take_of_length_le (by omega)
 rwa [h2] at h
theorem join_ge:∀(l:List (By×By)),4*l.length<=(Lib.join (l.map pairT) semi).length
 |[]=>by simp
 |[p]=>by rw[List.map_cons,List.map_nil,join_one];unfold pairT ofW;simp;omega
 |p::q::l=>by
  have:=join_ge (q::l)
  rw[List.map_cons,List.map_cons,join_cons2,<-List.map_cons]
  have h2:4<=(pairT p).length:=by unfold pairT ofW;simp;omega
  simp only[List.length_append,List.length_cons] at this⊢
  omega
theorem lns_take_le (L:List By) (k:Nat):(lns (L.take k)).length<=(lns L).length:=by
 conv=>rhs;rw[<-List.take_append_drop k L,lns_app]
 simp
theorem lns_len:∀(L:List By),L.length<=(lns L).length
 |[]=>zL _
 |x::l=>by
  have:=lns_len l
  rw[show lns (x::l)=x++[10]++lns l from rfl]
  simp only[List.length_append,List.length_cons,List.length_nil]
  omega
theorem lns_mem {L:List By} {x:By} (h:x∈L):x.length<(lns L).length:=by
 obtain⟨a,b,rfl⟩:=List.append_of_mem h
 rw[lns_app,show lns (x::b)=x++[10]++lns b from rfl]
 simp only[List.length_append,List.length_cons,List.length_nil]
 omega
theorem view_parts (v:Vw):(lns (v.recs.map recL)).length+(lns (v.sets.map setL)).length=(viewT v).length:=by
 unfold viewT;rw[lns_app,List.length_append]
theorem view_bounds {v:Vw} {n:Nat} (h:(viewT v).length<=n):v.recs.length<=n/\v.sets.length<=n/\∀r∈v.recs,r.items.length<=n/\r.only.length<=n/\(recL r).length<=n:=by
 have hp:=view_parts v
 have h1:=lns_len (v.recs.map recL)
 have h2:=lns_len (v.sets.map setL)
 rw[List.length_map] at h1 h2
 refine⟨by omega,by omega,fun r hr=>?_⟩
 have h3:=lns_mem (List.mem_map_of_mem (f:=recL) hr)
 have h4:=join_ge r.items
 have h5:r.only.length<=(onlyT r).length:=by
  unfold onlyT onlyW
  split
  ·rename_i h9;rw[h9];simp
  ·simp only[List.length_append,List.length_cons,List.length_nil];omega
 have h6:(recL r).length=(headT r).length+(onlyT r).length:=by unfold recL;simp
 have h7:(Lib.join (r.items.map pairT) semi).length<=(headT r).length:=by unfold headT;simp;omega
 exact⟨by omega,by omega,by omega⟩
def recW1:By:=[114,101,99,111,114,100,32]
def setW1:By:=[115,101,116,32]
theorem recL_len (r:VwR):(recL r).length=7+r.name.length+4+r.of.length+3+(Lib.join (r.items.map pairT) semi).length+2+(onlyT r).length:=by
 unfold recL headT
 simp only[List.length_append,recW,ofW,opW,clW,List.length_cons,List.length_nil]
set_option maxHeartbeats 4000000 in
theorem r_FormatV [MaxL] (v:Vw) (hV:(viewT v).length<=100000):SC Tryz.prog 10 [viewG v] [] (.val (.s (fmtV v))) []:=by
 have l1:=recsG_len v.recs
 have l2:=itG_len v.sets
 obtain⟨b1,b2,b3⟩:=view_bounds hV
 have hp:=view_parts v
 have hf:=r_formed v b1 b2 (fun r hr=>⟨(b3 r hr).1,by have:=(b3 r hr).2.1;omega⟩)
 unfold fmtV
 rcases Bool.eq_false_or_eq_true (formV v) with hfv|hfv
 rotate_left
 ·rw[hfv] at hf⊢
  refine gwS Tryz.func10 rfl ?_
  conv=>whnf
  refine callP hf (wR _) rfl (cC (viewG_cl v) .nil) (.b _) ?_
  conv=>whnf
  exact owes_s rfl
 rw[hfv] at hf⊢
 show SC _ _ _ _ (.val (.s (viewT v))) _
 refine gwS Tryz.func10 rfl ?_
 conv=>whnf
 refine callP hf (wR _) rfl (cC (viewG_cl v) .nil) (.b _) ?_
 conv=>whnf
 clear hf hfv
 refine GLoop.introS (fun q:Nat×By=>q.1<=v.recs.length/\q.2=lns ((v.recs.map recL).take q.1)) (fun q=>[(1,.ptr 0 0),(3,.s q.2),(4,.i .i64 (q.1:Nat))]) (fun _=>⟨[.box 25 (viewC v)],0,[]⟩) (fun q=>v.recs.length - q.1) (0,[]) ⟨zL _,rfl⟩ ⟨rfl,rfl,rfl,trivial⟩ rfl (fun _ _=>rL _) (fun _ _=>rfl) (fun i _ e he=>?_) (fun q φ0 hi=>?_)
 ·refine⟨by show[GObj.ren e _]=_;rw[viewBox_ren],rfl,?_⟩
  show[GV.ptr (e 0) 0,_,_]=_
  rw[he 0 (by simp)];rfl
 obtain⟨i,S⟩:=q
 obtain⟨hi,hS⟩:=hi
 replace hi:i<=v.recs.length:=hi
 replace hS:S=lns ((v.recs.map recL).take i):=hS
 conv=>whnf
 refine GIf.mk (fun h=>?_) (fun h=>?_)<;>conv=>whnf
 rotate_left
 ·have hie:i=v.recs.length:=by have h9:¬((i:Nat):Int)<((recsG v.recs).length:Nat):=of_decide_eq_false h;omega
  rw[hie,List.take_of_length_le (by simp)] at hS
  refine GLoop.introS (fun q:Nat×By=>q.1<=v.sets.length/\q.2=lns (v.recs.map recL)++lns ((v.sets.map setL).take q.1)) (fun q=>[(1,.ptr 0 0),(3,.s q.2),(7,.i .i64 (q.1:Nat))]) (fun _=>⟨[.box 25 (viewC v)],0,[]⟩) (fun q=>v.sets.length - q.1) (0,S) ⟨zL _,by rw[hS];exact(List.append_nil _).symm⟩ ⟨rfl,rfl,rfl,trivial⟩ rfl (fun _ _=>rL _) (fun _ _=>rfl) (fun i _ e he=>?_) (fun q φ0 hi=>?_)
  ·refine⟨by show[GObj.ren e _]=_;rw[viewBox_ren],rfl,?_⟩
   show[GV.ptr (e 0) 0,_,_]=_
   rw[he 0 (by simp)];rfl
  clear h
  obtain⟨k,S⟩:=q
  obtain⟨hk,hT⟩:=hi
  replace hk:k<=v.sets.length:=hk
  replace hT:S=lns (v.recs.map recL)++lns ((v.sets.map setL).take k):=hT
  conv=>whnf
  refine GIf.mk (fun h=>?_) (fun h=>?_)<;>conv=>whnf
  rotate_left
  ·have hke:k=v.sets.length:=by have h9:¬((k:Nat):Int)<((itG v.sets).length:Nat):=of_decide_eq_false h;omega
   rw[hke,List.take_of_length_le (by simp)] at hT
   refine owes_s ?_
   show S=_
   rw[hT];unfold viewT;rw[lns_app]
  have hlt:k<v.sets.length:=by have h9:((k:Nat):Int)<((itG v.sets).length:Nat):=of_decide_eq_true h;omega
  obtain⟨p,hpp⟩:∃p,v.sets[k]?=some p:=⟨v.sets[k],gL hlt⟩
  have hg:=itG_at hpp
  have hm:(v.sets.map setL)[k]?=some (setL p):=by rw[List.getElem?_map,hpp];rfl
  have hn:lns (v.recs.map recL)++lns ((v.sets.map setL).take (k+1))=S++(setL p++[10]):=by
   rw[List.take_add_one,hm,lns_app,<-List.append_assoc,<-hT]
   show S++(setL p++[10]++[])=_
   rw[List.append_nil]
  have hle:=lns_take_le (v.sets.map setL) (k+1)
  have hl2:=congrArg List.length hn
  have hsl:(setL p).length=p.1.length+p.2.length+8:=by unfold setL pairT setW ofW;simp;omega
  simp only[List.length_append,List.length_cons,List.length_nil] at hl2
  have hb:S.length+p.1.length+p.2.length<=1000000:=by omega
  have hfin:S++setW1++p.1++ofW++p.2++[10]=S++(setL p++[10]):=by unfold setL pairT setW1 setW;simp only[List.append_assoc];rfl
  clear hle hl2 hsl hT hS hm
  refine GDraw.calm (by kernel_rfl) ?_
  conv=>whnf
  refine⟨slim_of (a:=S) (b:=setW1) (by(try simp only[List.length_append,List.length_cons,List.length_nil,recW1,setW1,ofW,opW,clW,semi,onlyW]);omega),S++setW1,rfl,?_⟩
  conv=>whnf
  refine⟨cN _,_,hg,rfl,?_⟩
  conv=>whnf
  refine⟨slim_of (a:=(S++setW1)) (b:=p.1) (by(try simp only[List.length_append,List.length_cons,List.length_nil,recW1,setW1,ofW,opW,clW,semi,onlyW]);omega),(S++setW1)++p.1,rfl,?_⟩
  conv=>whnf
  refine⟨slim_of (a:=((S++setW1)++p.1)) (b:=ofW) (by(try simp only[List.length_append,List.length_cons,List.length_nil,recW1,setW1,ofW,opW,clW,semi,onlyW]);omega),((S++setW1)++p.1)++ofW,rfl,?_⟩
  conv=>whnf
  refine⟨cN _,_,hg,rfl,?_⟩
  conv=>whnf
  refine⟨slim_of (a:=(((S++setW1)++p.1)++ofW)) (b:=p.2) (by(try simp only[List.length_append,List.length_cons,List.length_nil,recW1,setW1,ofW,opW,clW,semi,onlyW]);omega),(((S++setW1)++p.1)++ofW)++p.2,rfl,?_⟩
  conv=>whnf
  refine⟨slim_of (a:=((((S++setW1)++p.1)++ofW)++p.2)) (b:=([10]:By)) (by(try simp only[List.length_append,List.length_cons,List.length_nil,recW1,setW1,ofW,opW,clW,semi,onlyW]);omega),((((S++setW1)++p.1)++ofW)++p.2)++([10]:By),rfl,?_⟩
  conv=>whnf
  exact⟨v.sets.length - (k+1),(by show _<v.sets.length - k;omega),(k+1,S++(setL p++[10])),⟨hlt,hn.symm⟩,rfl,⟨rfl,congrArg GV.s hfin,wrap_succ (by omega),trivial⟩,[],rfl,rfl⟩
 have hlt:i<v.recs.length:=by have h9:((i:Nat):Int)<((recsG v.recs).length:Nat):=of_decide_eq_true h;omega
 obtain⟨r,hr⟩:∃r,v.recs[i]?=some r:=⟨v.recs[i],gL hlt⟩
 have hg:=recsG_at hr
 have hit:=(b3 r (List.mem_of_getElem? hr)).1
 have l3:=itG_len r.items
 have hm:(v.recs.map recL)[i]?=some (recL r):=by rw[List.getElem?_map,hr];rfl
 have hn:lns ((v.recs.map recL).take (i+1))=S++(recL r++[10]):=by
  rw[List.take_add_one,hm,lns_app,<-hS]
  show S++(recL r++[10]++[])=_
  rw[List.append_nil]
 have hle:=lns_take_le (v.recs.map recL) (i+1)
 have hl2:=congrArg List.length hn
 have hrl:=recL_len r
 simp only[List.length_append,List.length_cons,List.length_nil] at hl2
 have hb:S.length+(7+r.name.length+4+r.of.length+3+(Lib.join (r.items.map pairT) semi).length+2+(onlyT r).length)<=1000000:=by omega
 have hfin:S++(recL r++[10])=S++recW1++r.name++ofW++r.of++opW++Lib.join (r.items.map pairT) semi++clW++onlyT r++[10]:=by unfold recL headT recW1 recW;simp only[List.append_assoc];rfl
 have fin:(v.recs.length - (i+1)<v.recs.length - i)/\i+1<=v.recs.length/\S++(recL r++[10])=lns ((v.recs.map recL).take (i+1)):=⟨by omega,hlt,hn.symm⟩
 rw[hfin] at fin
 clear hle hl2 hrl hn hS hm hfin
 refine⟨cN _,_,hg,rfl,?_⟩
 conv=>whnf
 refine⟨_,⟨rfl,zL _,rfl,bL rfl⟩,?_⟩
 conv=>whnf
 refine⟨slim_of (a:=S) (b:=recW1) (by(try simp only[List.length_append,List.length_cons,List.length_nil,recW1,setW1,ofW,opW,clW,semi,onlyW]);omega),S++recW1,rfl,?_⟩
 conv=>whnf
 refine⟨slim_of (a:=(S++recW1)) (b:=r.name) (by(try simp only[List.length_append,List.length_cons,List.length_nil,recW1,setW1,ofW,opW,clW,semi,onlyW]);omega),(S++recW1)++r.name,rfl,?_⟩
 conv=>whnf
 refine⟨slim_of (a:=((S++recW1)++r.name)) (b:=ofW) (by(try simp only[List.length_append,List.length_cons,List.length_nil,recW1,setW1,ofW,opW,clW,semi,onlyW]);omega),((S++recW1)++r.name)++ofW,rfl,?_⟩
 conv=>whnf
 refine⟨slim_of (a:=(((S++recW1)++r.name)++ofW)) (b:=r.of) (by(try simp only[List.length_append,List.length_cons,List.length_nil,recW1,setW1,ofW,opW,clW,semi,onlyW]);omega),(((S++recW1)++r.name)++ofW)++r.of,rfl,?_⟩
 conv=>whnf
 refine⟨slim_of (a:=((((S++recW1)++r.name)++ofW)++r.of)) (b:=opW) (by(try simp only[List.length_append,List.length_cons,List.length_nil,recW1,setW1,ofW,opW,clW,semi,onlyW]);omega),((((S++recW1)++r.name)++ofW)++r.of)++opW,rfl,?_⟩
 conv=>whnf
 refine GLoop.introS (fun q:Nat×By=>q.1<=r.items.length/\q.2=S++recW1++r.name++ofW++r.of++opW++Lib.join ((r.items.map pairT).take q.1) semi) (fun q=>[(1,.ptr 0 0),(3,.s q.2),(4,.i .i64 (i:Nat)),(5,.ptr 1 0),(6,.i .i64 (q.1:Nat))]) (fun _=>⟨[.box 25 (viewC v),.box 68 (recC r)],0,[]⟩) (fun q=>r.items.length - q.1) (0,S++recW1++r.name++ofW++r.of++opW) ⟨zL _,(List.append_nil _).symm⟩ ⟨rfl,rfl,rfl,rfl,rfl,trivial⟩ rfl (fun _ _=>rL _) (fun _ _=>rfl) (fun k _ e he=>?_) (fun q φ1 hk=>?_)
 ·refine⟨by show[GObj.ren e _,GObj.ren e _]=_;rw[viewBox_ren,recBox_ren],rfl,?_⟩
  show[GV.ptr (e 0) 0,_,_,GV.ptr (e 1) 0,_]=_
  rw[he 0 (by simp),he 1 (by simp)];rfl
 clear h
 obtain⟨k,B⟩:=q
 obtain⟨hk,hB⟩:=hk
 replace hk:k<=r.items.length:=hk
 replace hB:B=S++recW1++r.name++ofW++r.of++opW++Lib.join ((r.items.map pairT).take k) semi:=hB
 have hBl:=congrArg List.length hB
 have htk:=join_take_all (r.items.map pairT) semi k
 simp only[List.length_append,List.length_cons,List.length_nil,recW1,ofW,opW] at hBl
 have hBb:B.length+2+(onlyT r).length<=1000000:=by omega
 conv=>whnf
 refine GIf.mk (fun h=>?_) (fun h=>?_)<;>conv=>whnf
 rotate_left
 ·have hke:k=r.items.length:=by have h9:¬((k:Nat):Int)<((itG r.items).length:Nat):=of_decide_eq_false h;omega
  rw[hke,List.take_of_length_le (by simp)] at hB
  rw[<-hB] at fin
  obtain⟨fin1,fin2⟩:=fin
  clear hB hBl htk
  refine⟨slim_of (a:=B) (b:=clW) (by(try simp only[List.length_append,List.length_cons,List.length_nil,recW1,setW1,ofW,opW,clW,semi,onlyW]);omega),B++clW,rfl,?_⟩
  conv=>whnf
  refine GIf.mk (fun ho=>?_) (fun ho=>?_)<;>conv=>whnf
  ·have ho':r.only≠[]:=by simpa using ho
   have e:onlyT r=onlyW++r.only:=if_neg ho'
   rw[e] at fin2 hBb
   simp only[List.length_append,List.length_cons,List.length_nil,onlyW] at hBb
   refine⟨slim_of (a:=(B++clW)) (b:=onlyW) (by(try simp only[List.length_append,List.length_cons,List.length_nil,recW1,setW1,ofW,opW,clW,semi,onlyW]);omega),(B++clW)++onlyW,rfl,?_⟩
   conv=>whnf
   refine⟨slim_of (a:=(B++clW++onlyW)) (b:=r.only) (by(try simp only[List.length_append,List.length_cons,List.length_nil,recW1,setW1,ofW,opW,clW,semi,onlyW]);omega),(B++clW++onlyW)++r.only,rfl,?_⟩
   conv=>whnf
   refine⟨slim_of (a:=(B++clW++onlyW++r.only)) (b:=([10]:By)) (by(try simp only[List.length_append,List.length_cons,List.length_nil,recW1,setW1,ofW,opW,clW,semi,onlyW]);omega),(B++clW++onlyW++r.only)++([10]:By),rfl,?_⟩
   conv=>whnf
   exact⟨v.recs.length - (i+1),fin1,(i+1,B++clW++(onlyW++r.only)++[10]),fin2,rfl,⟨rfl,by rw[<-List.append_assoc (B++clW)];rfl,wrap_succ (by omega),trivial⟩,[_],rfl,rfl⟩
  ·have ho':r.only=[]:=by simpa using ho
   have e:onlyT r=[]:=if_pos ho'
   rw[e,List.append_nil] at fin2
   refine⟨slim_of (a:=(B++clW)) (b:=([10]:By)) (by(try simp only[List.length_append,List.length_cons,List.length_nil,recW1,setW1,ofW,opW,clW,semi,onlyW]);omega),(B++clW)++([10]:By),rfl,?_⟩
   conv=>whnf
   exact⟨v.recs.length - (i+1),fin1,(i+1,B++clW++[10]),fin2,rfl,⟨rfl,rfl,wrap_succ (by omega),trivial⟩,[_],rfl,rfl⟩
 have hkl:k<r.items.length:=by have h9:((k:Nat):Int)<((itG r.items).length:Nat):=of_decide_eq_true h;omega
 have hex:∃p,r.items[k]?=some p:=⟨r.items[k],gL hkl⟩
 refine hex.elim (fun p hpp=>?_)
 have hgp:=itG_at hpp
 have hmp:(r.items.map pairT)[k]?=some (pairT p):=by rw[List.getElem?_map,hpp];rfl
 have hj:Lib.join ((r.items.map pairT).take (k+1)) semi=if k=0 then pairT p else Lib.join ((r.items.map pairT).take k) semi++semi++pairT p:=by
  rw[List.take_add_one,hmp]
  show Lib.join (_++[pairT p]) semi=_
  rw[join_snoc]
  have:((r.items.map pairT).take k=[])↔k=0:=by
   rw[<-List.length_eq_zero_iff,List.length_take,List.length_map];omega
  by_cases hk0:k=0
  ·rw[if_pos (this.2 hk0),if_pos hk0]
  ·rw[if_neg (fun q=>hk0 (this.1 q)),if_neg hk0]
 have htk1:=join_take_all (r.items.map pairT) semi (k+1)
 have hpl:(pairT p).length=p.1.length+4+p.2.length:=by unfold pairT ofW;simp;omega
 refine GIf.mk (fun h0=>?_) (fun h0=>?_)<;>conv=>whnf
 ·have hk0:¬k=0:=by have h9:(0:Int)<((k:Nat):Int):=of_decide_eq_true h0;omega
  rw[if_neg hk0] at hj
  have hjl:=congrArg List.length hj
  simp only[List.length_append] at hjl
  have es:semi.length=2:=rfl
  have hB2:B++semi++pairT p=S++recW1++r.name++ofW++r.of++opW++Lib.join ((r.items.map pairT).take (k+1)) semi:=by rw[hj,hB];simp only[List.append_assoc]
  have hb5:B.length+2+(p.1.length+4+p.2.length)<=3000000:=by omega
  clear hj hjl htk htk1 hBl hB hmp
  refine⟨slim_of (a:=B) (b:=semi) (by(try simp only[List.length_append,List.length_cons,List.length_nil,recW1,setW1,ofW,opW,clW,semi,onlyW]);omega),B++semi,rfl,?_⟩
  conv=>whnf
  refine GDraw.calm (by kernel_rfl) ?_
  conv=>whnf
  refine⟨cN _,_,hgp,rfl,?_⟩
  conv=>whnf
  refine⟨slim_of (a:=(B++semi)) (b:=p.1) (by(try simp only[List.length_append,List.length_cons,List.length_nil,recW1,setW1,ofW,opW,clW,semi,onlyW]);omega),(B++semi)++p.1,rfl,?_⟩
  conv=>whnf
  refine⟨slim_of (a:=((B++semi)++p.1)) (b:=ofW) (by(try simp only[List.length_append,List.length_cons,List.length_nil,recW1,setW1,ofW,opW,clW,semi,onlyW]);omega),((B++semi)++p.1)++ofW,rfl,?_⟩
  conv=>whnf
  refine⟨cN _,_,hgp,rfl,?_⟩
  conv=>whnf
  refine⟨slim_of (a:=(((B++semi)++p.1)++ofW)) (b:=p.2) (by(try simp only[List.length_append,List.length_cons,List.length_nil,recW1,setW1,ofW,opW,clW,semi,onlyW]);omega),(((B++semi)++p.1)++ofW)++p.2,rfl,?_⟩
  conv=>whnf
  exact⟨r.items.length - (k+1),(by show _<r.items.length - k;omega),(k+1,B++semi++pairT p),⟨hkl,hB2⟩,rfl,⟨rfl,congrArg GV.s (show B++semi++p.1++ofW++p.2=B++semi++pairT p by unfold pairT;simp only[List.append_assoc]),rfl,rfl,wrap_succ (by omega),trivial⟩,[],rfl,rfl⟩
 ·have hk0:k=0:=by have h9:¬(0:Int)<((k:Nat):Int):=of_decide_eq_false h0;omega
  rw[if_pos hk0] at hj
  have hjl:=congrArg List.length hj
  have hB2:B++pairT p=S++recW1++r.name++ofW++r.of++opW++Lib.join ((r.items.map pairT).take (k+1)) semi:=by rw[hj,hB,hk0];show _++Lib.join [] semi++pairT p=_;unfold Lib.join;simp[List.intercalate]
  have hb5:B.length+(p.1.length+4+p.2.length)<=3000000:=by omega
  clear hj hjl htk htk1 hBl hB hmp
  refine GDraw.calm (by kernel_rfl) ?_
  conv=>whnf
  refine⟨cN _,_,hgp,rfl,?_⟩
  conv=>whnf
  refine⟨slim_of (a:=B) (b:=p.1) (by(try simp only[List.length_append,List.length_cons,List.length_nil,recW1,setW1,ofW,opW,clW,semi,onlyW]);omega),B++p.1,rfl,?_⟩
  conv=>whnf
  refine⟨slim_of (a:=(B++p.1)) (b:=ofW) (by(try simp only[List.length_append,List.length_cons,List.length_nil,recW1,setW1,ofW,opW,clW,semi,onlyW]);omega),(B++p.1)++ofW,rfl,?_⟩
  conv=>whnf
  refine⟨cN _,_,hgp,rfl,?_⟩
  conv=>whnf
  refine⟨slim_of (a:=((B++p.1)++ofW)) (b:=p.2) (by(try simp only[List.length_append,List.length_cons,List.length_nil,recW1,setW1,ofW,opW,clW,semi,onlyW]);omega),((B++p.1)++ofW)++p.2,rfl,?_⟩
  conv=>whnf
  exact⟨r.items.length - (k+1),(by show _<r.items.length - k;omega),(k+1,B++pairT p),⟨hkl,hB2⟩,rfl,⟨rfl,congrArg GV.s (show B++p.1++ofW++p.2=B++pairT p by unfold pairT;simp only[List.append_assoc]),rfl,rfl,wrap_succ (by omega),trivial⟩,[],rfl,rfl⟩
def tgI (σ:GS) (k:Nat) (o:Option GV):Option Nat:=gtargetA (fun _=>match((match some k,o with|some size,some y=>if y.cells.length=size then some (GV.snap y.cells 0) else none|_,_=>none).map fun g=>(g,σ)) with|some (g,_)=>g|none=>GV.any) (.load 0 (.tmp 0))
theorem tgI_some [MaxL] {σ:GS} {k:Nat} {g:GV} (h:g.cells.length=k):tgI σ k (some g)=none:=by
 unfold tgI
 simp only[if_pos h];rfl
theorem take_snoc {α:Type} {a b:List α} {i:Nat} {x y:α} (ha:a[i]?=some x) (hb:b[i]?=some y) (h:a.take i=b.take i) (hxy:x=y):a.take (i+1)=b.take (i+1):=by
 rw[List.take_add_one,List.take_add_one,ha,hb,h,hxy]
theorem at_ne {α:Type} {a b:List α} {i:Nat} {x y:α} (ha:a[i]?=some x) (hb:b[i]?=some y) (hxy:x≠y):a≠b:=fun e=>by
 subst e;rw[ha] at hb;exact hxy (Option.some.inj hb)
set_option maxHeartbeats 4000000 in
theorem r_Same [MaxL] (v w:Vw) (h1:v.recs.length<=100000) (h2:v.sets.length<=100000) (h3:∀r∈v.recs,r.items.length<=100000):SC Tryz.prog 12 [viewG v,viewG w] [] (.val (.b (decide (v=w)))) []:=by
 have l1:=recsG_len v.recs
 have l2:=itG_len v.sets
 have k1:=recsG_len w.recs
 have k2:=itG_len w.sets
 have nr:v.recs≠w.recs->false=decide (v=w):=fun q=>(decide_eq_false (fun e=>q (by rw[e]))).symm
 have ns:v.sets≠w.sets->false=decide (v=w):=fun q=>(decide_eq_false (fun e=>q (by rw[e]))).symm
 refine gwS Tryz.func12 rfl ?_
 conv=>whnf
 refine GIf.mk (fun g1=>?_) (fun g1=>?_)<;>conv=>whnf
 ·refine owes_b (nr fun e=>?_)
  have h9:¬((recsG v.recs).length:Int)=(recsG w.recs).length:=by simpa using g1
  rw[e] at h9;exact h9 rfl
 refine GIf.mk (fun g2=>?_) (fun g2=>?_)<;>conv=>whnf
 ·refine owes_b (ns fun e=>?_)
  have h9:¬((itG v.sets).length:Int)=(itG w.sets).length:=by simpa using g2
  rw[e] at h9;exact h9 rfl
 have e1:v.recs.length=w.recs.length:=by
  have h9:((recsG v.recs).length:Int)=(recsG w.recs).length:=by simpa using g1
  omega
 have e2:v.sets.length=w.sets.length:=by
  have h9:((itG v.sets).length:Int)=(itG w.sets).length:=by simpa using g2
  omega
 clear g1 g2
 have own1:∀e:Nat->Nat,[GObj.box 25 (viewC v),.box 25 (viewC w)].map (GObj.ren e)=[GObj.box 25 (viewC v),.box 25 (viewC w)]:=fun e=>by
  show[GObj.ren e _,GObj.ren e _]=_
  rw[viewBox_ren,viewBox_ren]
 refine GLoop.introS (fun i:Nat=>i<=v.recs.length/\v.recs.take i=w.recs.take i) (fun i=>[(2,.ptr 0 0),(3,.ptr 1 0),(5,.i .i64 (i:Nat))]) (fun _=>⟨[.box 25 (viewC v),.box 25 (viewC w)],0,[]⟩) (fun i=>v.recs.length - i) 0 ⟨zL _,rfl⟩ ⟨rfl,rfl,rfl,trivial⟩ rfl (fun _ _=>rL _) (fun _ _=>rfl) (fun i _ e he=>?_) (fun i φ0 hi=>?_)
 ·refine⟨own1 e,rfl,?_⟩
  show[GV.ptr (e 0) 0,GV.ptr (e 1) 0,_]=_
  rw[he 0 (by simp),he 1 (by simp)];rfl
 obtain⟨hi,hall⟩:=hi
 conv=>whnf
 refine GIf.mk (fun h=>?_) (fun h=>?_)<;>conv=>whnf
 rotate_left
 ·have hie:i=v.recs.length:=by have h9:¬((i:Nat):Int)<((recsG v.recs).length:Nat):=of_decide_eq_false h;omega
  rw[hie,List.take_length,e1,List.take_length] at hall
  clear h
  refine GLoop.introS (fun i:Nat=>i<=v.sets.length/\v.sets.take i=w.sets.take i) (fun i=>[(2,.ptr 0 0),(3,.ptr 1 0),(9,.i .i64 (i:Nat))]) (fun _=>⟨[.box 25 (viewC v),.box 25 (viewC w)],0,[]⟩) (fun i=>v.sets.length - i) 0 ⟨zL _,rfl⟩ ⟨rfl,rfl,rfl,trivial⟩ rfl (fun _ _=>rL _) (fun _ _=>rfl) (fun i _ e he=>?_) (fun k φ0 hk=>?_)
  ·refine⟨own1 e,rfl,?_⟩
   show[GV.ptr (e 0) 0,GV.ptr (e 1) 0,_]=_
   rw[he 0 (by simp),he 1 (by simp)];rfl
  obtain⟨hk,hset⟩:=hk
  conv=>whnf
  refine GIf.mk (fun h=>?_) (fun h=>?_)<;>conv=>whnf
  rotate_left
  ·have hke:k=v.sets.length:=by have h9:¬((k:Nat):Int)<((itG v.sets).length:Nat):=of_decide_eq_false h;omega
   rw[hke,List.take_length,e2,List.take_length] at hset
   refine owes_b (decide_eq_true ?_).symm
   obtain⟨a,b⟩:=v
   obtain⟨c,d⟩:=w
   exact(show Vw.mk a b=Vw.mk c d by rw[show a=c from hall,show b=d from hset])
  have hlt:k<v.sets.length:=by have h9:((k:Nat):Int)<((itG v.sets).length:Nat):=of_decide_eq_true h;omega
  have hex:∃p,v.sets[k]?=some p:=⟨v.sets[k],gL hlt⟩
  have hex2:∃p,w.sets[k]?=some p:=⟨w.sets[k]'(by omega),gL _⟩
  refine hex.elim (fun p hp=>hex2.elim (fun q hq=>?_))
  have gp:=itG_at hp
  have gq:=itG_at hq
  have bad:=at_ne hp hq
  have nxt:=take_snoc hp hq hset
  refine GDraw.calm (by kernel_rfl) ?_
  conv=>whnf
  refine⟨cN _,_,gp,rfl,?_⟩
  conv=>whnf
  refine⟨cN _,_,gq,rfl,?_⟩
  conv=>whnf
  refine⟨by kernel_rfl,?_⟩
  conv=>whnf
  refine GIf.mk (fun hne=>?_) (fun hne=>?_)<;>conv=>whnf
  ·refine owes_b (ns (bad fun e=>?_))
   rw[e] at hne
   simp at hne
  ·have hpq:p=q:=by
    obtain⟨pa,pb⟩:=p
    obtain⟨qa,qb⟩:=q
    simp at hne
    rw[hne.1,hne.2]
   exact⟨v.sets.length - (k+1),(by omega),k+1,⟨hlt,nxt hpq⟩,rfl,⟨rfl,rfl,wrap_succ (by omega),trivial⟩,_,rfl,rfl⟩
 have hlt:i<v.recs.length:=by have h9:((i:Nat):Int)<((recsG v.recs).length:Nat):=of_decide_eq_true h;omega
 have hex:∃p,v.recs[i]?=some p:=⟨v.recs[i],gL hlt⟩
 have hex2:∃p,w.recs[i]?=some p:=⟨w.recs[i]'(by omega),gL _⟩
 refine hex.elim (fun x hx=>hex2.elim (fun y hy=>?_))
 have gx:=recsG_at hx
 have gy:=recsG_at hy
 have bad:x≠y->false=decide (v=w):=fun q=>nr (at_ne hx hy q)
 have nxt:=take_snoc hx hy hall
 have hxi:=h3 x (List.mem_of_getElem? hx)
 have l3:=itG_len x.items
 have l4:=itG_len y.items
 refine GDraw.wild _ [none,some 0,none,none,none,none,some 1,none,none,none,some 2,some 3,some 2,some 3] _ rfl (Eq.trans (b:=[none,some 0,none,none,tgI ⟨[.box 25 (viewC v),.box 25 (viewC w)],0,[]⟩ 4 ((recsG v.recs)[((i:Nat):Int).toNat]?),none,some 1,none,none,tgI ⟨[.box 25 (viewC v),.box 25 (viewC w)],0,[]⟩ 4 ((recsG w.recs)[((i:Nat):Int).toNat]?),some 2,some 3,some 2,some 3]) (by kernel_rfl) ?tgt) rfl (by kernel_rfl) ?_
 case tgt=>rw[gx,gy,tgI_some (k:=4) (g:=recG x) rfl,tgI_some (k:=4) (g:=recG y) rfl]
 conv=>whnf
 refine⟨cN _,_,gx,rfl,?_⟩
 conv=>whnf
 refine⟨cN _,_,gy,rfl,?_⟩
 conv=>whnf
 repeat (refine⟨_,⟨rfl,zL _,rfl,bL rfl⟩,?_⟩;conv=>whnf)
 refine GIf.mk (fun n1=>?_) (fun n1=>?_)<;>conv=>whnf
 ·exact owes_b (bad fun e=>by rw[e] at n1;simp at n1)
 refine GIf.mk (fun n2=>?_) (fun n2=>?_)<;>conv=>whnf
 ·exact owes_b (bad fun e=>by rw[e] at n2;simp at n2)
 refine GIf.mk (fun n3=>?_) (fun n3=>?_)<;>conv=>whnf
 ·exact owes_b (bad fun e=>by rw[e] at n3;simp at n3)
 refine GIf.mk (fun n4=>?_) (fun n4=>?_)<;>conv=>whnf
 ·exact owes_b (bad fun e=>by rw[e] at n4;simp at n4)
 have m1:x.name=y.name:=by simpa using n1
 have m2:x.of=y.of:=by simpa using n2
 have m3:x.only=y.only:=by simpa using n3
 have m4:x.items.length=y.items.length:=by
  have h9:((itG x.items).length:Int)=(itG y.items).length:=by simpa using n4
  omega
 clear n1 n2 n3 n4 h
 have bad2:x.items≠y.items->false=decide (v=w):=fun q=>bad fun e=>q (by rw[e])
 have nxt2:x.items=y.items->v.recs.length - (i+1)<v.recs.length - i/\i+1<=v.recs.length/\v.recs.take (i+1)=w.recs.take (i+1):=fun q=>⟨by omega,hlt,nxt (by
  obtain⟨a,b,c,d⟩:=x
  obtain⟨a',b',c',d'⟩:=y
  show VwR.mk a b c d=VwR.mk a' b' c' d'
  rw[show a=a' from m1,show b=b' from m2,show d=d' from m3,show c=c' from q])⟩
 clear nxt bad m1 m2 m3
 have own2:∀e:Nat->Nat,[GObj.box 25 (viewC v),.box 25 (viewC w),.box 68 (recC x),.box 68 (recC y)].map (GObj.ren e)=[GObj.box 25 (viewC v),.box 25 (viewC w),.box 68 (recC x),.box 68 (recC y)]:=fun e=>by
  show[GObj.ren e _,GObj.ren e _,GObj.ren e _,GObj.ren e _]=_
  rw[viewBox_ren,viewBox_ren,recBox_ren,recBox_ren]
 refine GLoop.introS (fun k:Nat=>k<=x.items.length/\x.items.take k=y.items.take k) (fun k=>[(2,.ptr 0 0),(3,.ptr 1 0),(5,.i .i64 (i:Nat)),(6,.ptr 2 0),(7,.ptr 3 0),(8,.i .i64 (k:Nat))]) (fun _=>⟨[.box 25 (viewC v),.box 25 (viewC w),.box 68 (recC x),.box 68 (recC y)],0,[]⟩) (fun k=>x.items.length - k) 0 ⟨zL _,rfl⟩ ⟨rfl,rfl,rfl,rfl,rfl,rfl,trivial⟩ rfl (fun _ _=>rL _) (fun _ _=>rfl) (fun k _ e he=>?_) (fun k φ1 hk=>?_)
 ·refine⟨own2 e,rfl,?_⟩
  show[GV.ptr (e 0) 0,GV.ptr (e 1) 0,_,GV.ptr (e 2) 0,GV.ptr (e 3) 0,_]=_
  rw[he 0 (by simp),he 1 (by simp),he 2 (by simp),he 3 (by simp)];rfl
 obtain⟨hk,hset⟩:=hk
 conv=>whnf
 refine GIf.mk (fun h=>?_) (fun h=>?_)<;>conv=>whnf
 rotate_left
 ·have hke:k=x.items.length:=by have h9:¬((k:Nat):Int)<((itG x.items).length:Nat):=of_decide_eq_false h;omega
  rw[hke,List.take_length,m4,List.take_length] at hset
  obtain⟨n1,n2⟩:=nxt2 hset
  exact⟨v.recs.length - (i+1),n1,i+1,n2,rfl,⟨rfl,rfl,wrap_succ (by omega),trivial⟩,[_,_],rfl,rfl⟩
 have hkl:k<x.items.length:=by have h9:((k:Nat):Int)<((itG x.items).length:Nat):=of_decide_eq_true h;omega
 have hex3:∃p,x.items[k]?=some p:=⟨x.items[k],gL hkl⟩
 have hex4:∃p,y.items[k]?=some p:=⟨y.items[k]'(by omega),gL _⟩
 refine hex3.elim (fun p hp=>hex4.elim (fun q hq=>?_))
 have gp:=itG_at hp
 have gq:=itG_at hq
 have bad3:=at_ne hp hq
 have nxt3:=take_snoc hp hq hset
 refine GDraw.calm (by kernel_rfl) ?_
 conv=>whnf
 refine⟨cN _,_,gp,rfl,?_⟩
 conv=>whnf
 refine⟨cN _,_,gq,rfl,?_⟩
 conv=>whnf
 refine⟨by kernel_rfl,?_⟩
 conv=>whnf
 refine GIf.mk (fun hne=>?_) (fun hne=>?_)<;>conv=>whnf
 ·refine owes_b (bad2 (bad3 fun e=>?_))
  rw[e] at hne
  simp at hne
 ·have hpq:p=q:=by
   obtain⟨pa,pb⟩:=p
   obtain⟨qa,qb⟩:=q
   simp at hne
   rw[hne.1,hne.2]
  exact⟨x.items.length - (k+1),(by omega),k+1,⟨hkl,nxt3 hpq⟩,rfl,⟨rfl,rfl,rfl,rfl,rfl,wrap_succ (by omega),trivial⟩,[],rfl,rfl⟩
end Go.Proofs.YtldggonlkafckaaGreatDoor
