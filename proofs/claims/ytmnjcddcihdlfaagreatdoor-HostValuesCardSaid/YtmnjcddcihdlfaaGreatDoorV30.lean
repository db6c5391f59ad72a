/- Part of HostValues. -/
import Derived.Test.YtmnjcddcihdlfaaGreatDoorV29
set_option linter.all false
set_option maxRecDepth 100000
namespace Go.Proofs.YtmnjcddcihdlfaaGreatDoor
open Go.RowKit
theorem E1 (c:UInt8) (t:By):1<=(iD (c::t)).2.length/\(iD (c::t)).2.length<=(c::t).length:=by
 unfold iD;dsimp only;have hp:=(e7 (l:=t) bQ).length_le;split
 ·exact⟨by simp,by simp only[aM];omega⟩
 ·split
  ·rw[cL];simp only[aM];omega
  ·split
   ·split
    ·rename_i h;unfold gI at h;cases t with
     |nil=>simp at h
     |cons d t=>simp
    ·simp
   ·simp
def D8 (s:By) (L:GObj) (T:List Tp):List GObj:=match T with
 |[p]=>if p.t=.fin then wE s L p else wH s L [p]
 |T=>wH s L T
theorem I7 [MaxL] {s:By} {L:GObj} {d:List Tp} {p:Tp} (h:d≠[]):D8 s L (d++[p])=wH s L (d++[p]):=by
 obtain⟨a,l,rfl⟩:=List.exists_cons_of_ne_nil h;cases l<;>rfl
set_option maxHeartbeats 4000000 in
theorem TZ [MaxL] (s:By) (hs:s.length<=20000) (L:GObj) (hL:L.notHeld=true) (hLr:∀e:Nat->Nat,(∀i,i<5->e i=i)->L.ren e=L) (T:List Tp) (hT:jG (if tL s=true then 1 else 0) (s.length+1) 1 s=T)
  (hb:∀(d:List Tp) (p:Tp),d.length<=20001->Fact Tryz.prog (.yld 4) [I9 p] ⟨wH s L d++[RB p],0,[]⟩ (.val (.b true)) ⟨wH s L (d++[p])++(if d=[] then[] else[RB p]),0,[]⟩)
  (hf:∀(d:List Tp) (p:Tp),d≠[]->d.length<=20001->Fact Tryz.prog (.yld 4) [I9 p] ⟨wH s L d,0,[]⟩ (.val (.b true)) ⟨wH s L (d++[p]),0,[]⟩)
  (h0:∀p:Tp,Fact Tryz.prog (.yld 4) [I9 p] ⟨wH s L [],0,[]⟩ (.val (.b true)) ⟨wE s L p,0,[]⟩):
  SC Tryz.prog 111 [.yld 4,.ptr 0 0] (wH s L []) (.val (.tup [])) (D8 s L T):=by
 have hsuf:=a0u s hs;have hEh:∀T,(D8 s L T).all GObj.notHeld=true:=fun T=>by
  unfold D8;split
  ·split
   ·simp only[wE,List.all_cons,hL];rfl
   ·exact oJ s hL _
  ·exact oJ s hL _
 refine f8 D6 mixed Tryz.func111 rfl (bL rfl) (by unfold D8;split<;>(try split)<;>simp[wH,wO,wE]) (hEh T) ?_;conv=>whnf
 refine GLoop.introS (fun q:Nat×Nat×Nat×List Tp=>q.2.2.1<=s.length/\s.length - q.2.2.1<q.1/\1<=q.2.1/\q.2.1<=q.2.2.1+1/\q.2.2.2.length<=q.2.2.1/\q.2.2.2++jG (if tL s=true then 1 else 0) q.1 q.2.1 (s.drop q.2.2.1)=T)
  (fun q=>[(0,.yld 4),(1,.ptr 0 0),(3,.i .i64 (q.2.1:Nat)),(4,.i .i64 (q.2.2.1:Nat))]) (fun q=>⟨wH s L q.2.2.2,0,[]⟩) (fun q=>s.length - q.2.2.1) (s.length+1,1,0,[]) ⟨zL _,by show s.length - 0<s.length+1;omega,rL _,rL _,rL _,hT⟩
  ⟨rfl,rfl,rfl,rfl,trivial⟩ rfl (fun q _=>by show(wH s L []).length<=(wH s L q.2.2.2).length;simp[wH,wO]) (fun q _=>oJ s hL _) (fun q _ e he=>⟨AN s hLr q.2.2.2 e he,rfl,?_⟩) (fun q φ0 hq=>?_)
 ·have h5:∀i,i<5->e i=i:=fun i hi=>he i (bV hi (RT s L q.2.2.2));show[GV.yld (e 4),GV.ptr (e 0) 0,_,_]=_;rw[h5 4 (by omega),h5 0 (by omega)];rfl
 obtain⟨f,ln,i,d⟩:=q;obtain⟨hq1,hq2,hq3,hq4,hq5,hq6⟩:=hq;replace hq1:i<=s.length:=hq1;replace hq2:s.length - i<f:=hq2;replace hq3:1<=ln:=hq3;replace hq4:ln<=i+1:=hq4;replace hq5:d.length<=i:=hq5;replace hq6:d++jG (if tL s=true then 1 else 0) f ln (s.drop i)=T:=hq6;obtain⟨f,rfl⟩:∃g,f=g+1:=⟨f - 1,by omega⟩;have hwi:i<9223372036854775807:=by omega
 have hwln:ln<9223372036854775807:=by omega
 by_cases hlt:i<s.length;rotate_left
 ·have hn:s.drop i=[]:=eQ (by omega);rw[hn] at hq6;unfold jG at hq6;dsimp only at hq6;have gge:decide (((i:Nat):Int)<((s.length:Nat):Int))=false:=aQ (by omega);have hln:∃v:Int,(if tL s=true then IntKind.i64.wrap (((ln:Nat):Int) - 1) else((ln:Nat):Int))=v/\v=((ln - (if tL s=true then 1 else 0):Nat):Int):=by
   refine⟨_,rfl,?_⟩;split
   ·rw[bN (by omega) (by omega)];omega
   ·omega
  obtain⟨v,hv1,hv2⟩:=hln;obtain⟨pe,hpe⟩:∃pe:Tp,pe=⟨.fin,[],ln - (if tL s=true then 1 else 0)⟩:=⟨_,rfl⟩;rw[<-hpe] at hq6;have hpc:GV.agg [.i .u8 101,.s [],.i .i64 0,.i .i64 0,.s [],.i .i64 v]=I9 pe:=by rw[hpe,hv2];rfl
  subst hq6;cases d with
  |nil=>
   have hw:D8 s L ([]++[pe])=wE s L pe:=by show(if pe.t=.fin then wE s L pe else wH s L [pe])=_;rw[aA (by rw[hpe])]
   rw[hw];have hfl:=h0 pe;rw[<-hpc] at hfl;cases hen:tL s;all_goals
    rw[hen] at hsuf hv1;first
     |rw[aA rfl] at hv1
     |rw[aB b4] at hv1
    subst hv1;(conv=>whnf);refine gN gge ?_;(conv=>whnf);refine cP hsuf ?_;(conv=>whnf);refine xJ hfl ?_;(conv=>whnf);exact A7 (rest:=[]) (eH _).symm (by simp[wH,wO,wE]) (fun e he=>by
     have hr:=hLr e (fun j hj=>he j (by simp[wE];omega));have b:FH 8 [.box 165 [.sl (.own 7) [I9 pe]],RB pe]:=inferInstance;have b':=b.h e (fun j hj=>he j (by simp[wE];omega));simp only[bY,List.map_nil,List.cons.injEq,and_true] at b';show[_,_,_,_,_,_,_,_]=[_,_,_,_,_,_,_,_];rw[hr,b'.1,b'.2];rfl) (by simp only[wE,List.all_cons,hL];rfl) (fun _ _=>rfl) (WkRes.refl _)
  |cons d0 ds=>
   rw[I7 (fO _ _)];have hfl:=hf (d0::ds) pe (fO _ _) (by omega);rw[<-hpc] at hfl;cases hen:tL s;all_goals
    rw[hen] at hsuf hv1;first
     |rw[aA rfl] at hv1
     |rw[aB b4] at hv1
    subst hv1;(conv=>whnf);refine gN gge ?_;(conv=>whnf);refine cP hsuf ?_;(conv=>whnf);refine xJ hfl ?_;(conv=>whnf);exact A7 (rest:=[]) (eH _).symm (by simp[wH,wO]) (fun e he=>AN s hLr _ e he) (oJ s hL _) (fun _ _=>rfl) (WkRes.refl _)
 have hd:s.drop i=s[i]::s.drop (i+1):=bD hlt;generalize hc:s[i]=c at hd;have hgi:s[((i:Nat):Int).toNat]?=some c:=by rw[aD,gL hlt,hc]
 have glt:decide (((i:Nat):Int)<((s.length:Nat):Int))=true:=aR (by omega);rw[hd] at hq6;unfold jG at hq6;dsimp only at hq6;by_cases h10:c=10
 ·rw[aA h10] at hq6;subst h10;conv=>whnf
  refine gY glt ?_;conv=>whnf
  refine GNeed.mk (fK _) ⟨10,hgi,?_⟩;conv=>whnf
  exact⟨s.length - (i+1),(by show s.length - (i+1)<s.length - i;omega),(f,ln+1,i+1,d),⟨hlt,by show s.length - (i+1)<f;omega,by show 1<=ln+1;omega,by show ln+1<=i+1+1;omega,by show d.length<=i+1;omega,hq6⟩,rfl,⟨rfl,rfl,cT hwln,cT hwi,trivial⟩,[],(eH _).symm,rfl⟩
 have c10:((c.toNat:Int)==10)=false:=by
  have:c.toNat≠10:=fun e=>h10 (UInt8.toNat_inj.1 e);simp;omega
 rw[aB h10] at hq6;by_cases h32:c=32∨c=9
 ·rw[aA h32] at hq6;rcases h32 with rfl|rfl;all_goals
   (conv=>whnf);refine gY glt ?_;(conv=>whnf);refine GNeed.mk (fK _) ⟨_,hgi,?_⟩;(conv=>whnf);exact⟨s.length - (i+1),(by show s.length - (i+1)<s.length - i;omega),(f,ln,i+1,d),⟨hlt,by show s.length - (i+1)<f;omega,hq3,by show ln<=i+1+1;omega,by show d.length<=i+1;omega,hq6⟩,rfl,⟨rfl,rfl,rfl,cT hwi,trivial⟩,[],(eH _).symm,rfl⟩
 have c32:((c.toNat:Int)==32)=false:=by
  have:c.toNat≠32:=fun e=>h32 (.inl (UInt8.toNat_inj.1 e));simp;omega
 have c9:((c.toNat:Int)==9)=false:=by
  have:c.toNat≠9:=fun e=>h32 (.inr (UInt8.toNat_inj.1 e));simp;omega
 rw[aB h32] at hq6;by_cases h35:c=35
 ·rw[aA h35] at hq6;subst h35;conv=>whnf
  refine gY glt ?_;conv=>whnf
  refine GNeed.mk (fK _) ⟨35,hgi,?_⟩;conv=>whnf
  refine bA (fun j:Nat=>i<=j/\j<=s.length/\(s.drop j).dropWhile (·!=10)=(s.drop (i+1)).dropWhile (·!=10)) (fun j=>[(0,.yld 4),(1,.ptr 0 0),(3,.i .i64 (ln:Nat)),(4,.i .i64 (j:Nat))]) (fun _=>⟨wH s L d,0,[]⟩) (fun j=>s.length - j) i
   ⟨rL _,by omega,by rw[hd];rfl⟩ ⟨rfl,rfl,rfl,rfl,trivial⟩ rfl (fun j φ1 hj=>?_)
  obtain⟨hj1,hj2,hj3⟩:=hj;conv=>whnf
  refine e6 (fun h=>?_) (fun h=>?_)
  ·have hjl:j<s.length:=by have:=aO h;omega
   have hdj:s.drop j=s[j]::s.drop (j+1):=bD hjl;(conv=>whnf);refine GNeed.mk (fK _) ⟨s[j],by rw[aD,gL hjl],?_⟩;(conv=>whnf);refine e6 (fun h10'=>?_) (fun h10'=>?_)
   ·have hne:=p8 (d:=10) h10';(conv=>whnf);refine gK (j+1) ⟨by omega,hjl,?_⟩ (by omega) ⟨rfl,rfl,rfl,cT (by omega),trivial⟩ rfl;rw[<-hj3,hdj,List.dropWhile_cons,aA (by simpa using hne)]
   ·have he10:=nV (d:=10) h10';have hji:i<j:=by
     rcases dF i j with h|h
     ·exact h
     ·have:j=i:=by omega
      subst this;rw[he10] at hc;cases hc
    have hrest:s.drop j=(s.drop (i+1)).dropWhile (·!=10):=by rw[<-hj3,hdj,List.dropWhile_cons,aB (by rw[he10];simp)]
    rw[<-hrest] at hq6;(conv=>whnf);exact⟨s.length - j,(by show s.length - j<s.length - i;omega),(f,ln,j,d),⟨hj2,by show s.length - j<f;omega,hq3,by show ln<=j+1;omega,by show d.length<=j;omega,hq6⟩,rfl,⟨rfl,rfl,rfl,rfl,trivial⟩,[],(eH _).symm,rfl⟩
  ·have hjl:j=s.length:=by have:=aW h;omega
   have hrest:s.drop j=(s.drop (i+1)).dropWhile (·!=10):=by rw[<-hj3,eQ (by omega)];rfl
   rw[<-hrest] at hq6;(conv=>whnf);exact⟨s.length - j,(by show s.length - j<s.length - i;omega),(f,ln,j,d),⟨hj2,by show s.length - j<f;omega,hq3,by show ln<=j+1;omega,by show d.length<=j;omega,hq6⟩,rfl,⟨rfl,rfl,rfl,rfl,trivial⟩,[],(eH _).symm,rfl⟩
 have c35:((c.toNat:Int)==35)=false:=by
  have:c.toNat≠35:=fun e=>h35 (UInt8.toNat_inj.1 e);simp;omega
 rw[aB h35] at hq6;have hwd:=ZF c (s.drop (i+1)) (by rw[<-hd,cU];omega);obtain⟨w1,w2⟩:=E1 c (s.drop (i+1));have hln:(c::s.drop (i+1)).length=s.length - i:=by rw[<-hd,cU]
 rw[hln] at w2;have hdd:(c::s.drop (i+1)).drop (iD (c::s.drop (i+1))).2.length=s.drop (i+(iD (c::s.drop (i+1))).2.length):=by rw[<-hd,List.drop_drop]
 rw[hdd] at hq6;generalize iD (c::s.drop (i+1))=W at*;obtain⟨wt,wr⟩:=W;replace hwd:SC Tryz.prog 112 [.s (c::s.drop (i+1))] [] (.val (.agg [.i .u8 (wt.kd:Nat),.s wr,.i .i64 wt.vl.k,.i .i64 wt.vl.n,.s wt.vl.s,.i .i64 0])) []:=hwd;dsimp only at w1 w2 hq6;obtain⟨pw,hpw⟩:∃pw:Tp,pw=⟨wt,wr,ln⟩:=⟨_,rfl⟩;rw[<-hpw] at hq6;have hpc:GV.agg [.i .u8 (wt.kd:Nat),.s wr,.i .i64 wt.vl.k,.i .i64 wt.vl.n,.s wt.vl.s,.i .i64 (ln:Nat)]=I9 pw:=by rw[hpw];rfl
 have hpb:GObj.box 168 [.i .u8 (wt.kd:Nat),.s wr,.i .i64 wt.vl.k,.i .i64 wt.vl.n,.s wt.vl.s,.i .i64 (ln:Nat)]=RB pw:=by rw[hpw];rfl
 have hbd:=hb d pw (by omega);rw[<-hpc,<-hpb] at hbd;have hw5:IntKind.i64.wrap (((i:Nat):Int)+((wr.length:Nat):Int))=((i+wr.length:Nat):Int):=by rw[bN (by omega) (by omega)];rfl
 by_cases hbad:wt=.bad
 ·have hpt:pw.t≠ .fin:=by rw[hpw];dsimp only;rw[hbad];simp
  subst hbad;have hkb:(((pw.t.kd:Nat):Int)==119)=true:=by rw[hpw];rfl
  rw[aA rfl] at hq6;have hT:D8 s L T=wH s L (d++[pw]):=by
   rw[<-hq6];cases d with
   |nil=>show(if pw.t=.fin then wE s L pw else wH s L [pw])=_;rw[aB hpt];rfl
   |cons d0 ds=>exact I7 (fO _ _)
  rw[hT];cases d
  case' nil=>rw[aA rfl,eH] at hbd
  case' cons=>rw[aB (fO _ _)] at hbd
  all_goals
   (conv=>whnf);refine gY glt ?_;(conv=>whnf);refine GNeed.mk (fK _) ⟨c,hgi,?_⟩;(conv=>whnf);rw[c10];(conv=>whnf);rw[c32];(conv=>whnf);rw[c9];(conv=>whnf);rw[c35];(conv=>whnf);refine⟨fK _,⟨by rw[aD];exact hq1,rL _⟩,c::s.drop (i+1),by rw[aD,hd,fN (by rw[<-hd,cU];exact rL _)],?_⟩;(conv=>whnf);refine cP hwd ?_;(conv=>whnf);refine _root_.Go.Proofs.YtmnjcddcihdlfaaGreatDoor.st ?_;(conv=>whnf);refine _root_.Go.Proofs.YtmnjcddcihdlfaaGreatDoor.st ?_;(conv=>whnf);refine xJ hbd ?_;(conv=>whnf);try
    rw[hkb];conv=>whnf
   exact A7 (by first|exact(eH _).symm|rfl) (by simp[wH,wO]) (fun e he=>AN s hLr _ e he) (oJ s hL _) (fun _ _=>rfl) (WkRes.refl _)
 have hkd:(((wt.kd:Nat):Int)==119)=false:=by cases wt<;>first|rfl|exact absurd rfl hbad
 have hkd2:(((pw.t.kd:Nat):Int)==119)=false:=by rw[hpw];exact hkd
 rw[aB hbad] at hq6;cases d
 case' nil=>rw[aA rfl,eH] at hbd
 case' cons=>rw[aB (fO _ _)] at hbd
 all_goals
  conv=>whnf
  refine gY glt ?_;conv=>whnf
  refine GNeed.mk (fK _) ⟨c,hgi,?_⟩;conv=>whnf
  rw[c10];conv=>whnf
  rw[c32];conv=>whnf
  rw[c9];conv=>whnf
  rw[c35];conv=>whnf
  refine⟨fK _,⟨by rw[aD];exact hq1,rL _⟩,c::s.drop (i+1),by rw[aD,hd,fN (by rw[<-hd,cU];exact rL _)],?_⟩;conv=>whnf
  refine cP hwd ?_;conv=>whnf
  refine _root_.Go.Proofs.YtmnjcddcihdlfaaGreatDoor.st ?_;conv=>whnf
  refine _root_.Go.Proofs.YtmnjcddcihdlfaaGreatDoor.st ?_;conv=>whnf
  refine xJ hbd ?_;conv=>whnf
  first
   |rw[hkd]
   |rw[hkd2]
  conv=>whnf
  exact⟨s.length - (i+wr.length),(by show s.length - (i+wr.length)<s.length - i;omega),(f,ln,i+wr.length,_++[pw]),⟨by show i+wr.length<=s.length;omega,by show s.length - (i+wr.length)<f;omega,hq3,by show ln<=i+wr.length+1;omega,by show(_++[pw]).length<=i+wr.length;rw[aX];simp only[List.length_singleton];simp only[aM,bW] at hq5⊢;omega,by rw[cW];exact hq6⟩,rfl,⟨rfl,rfl,rfl,by first|(show GV.i .i64 (IntKind.i64.wrap (((i:Nat):Int)+((wr.length:Nat):Int)))=_;rw[hw5])|(show GV.i .i64 (IntKind.i64.wrap (((i:Nat):Int)+((pw.raw.length:Nat):Int)))=_;rw[show pw.raw=wr by rw[hpw],hw5]),trivial⟩,_,rfl,rfl⟩
theorem NS (l:List Tp):(lW l).length=l.length:=aS _
theorem S3 [MaxL] (l:List Tp):(lW l).all (fun x=>x.cells.length==6)=true:=by
 rw[aZ];intro x hx;obtain⟨b,_,rfl⟩:=List.mem_map.1 hx;rfl
theorem I6 [MaxL] (s:By) {L:GObj} (hL:L.notHeld=true) (d:List Tp) (X:List GObj) (hX:X.all GObj.notHeld=true):(wH s L d++X).all GObj.notHeld=true:=by
 rw[List.all_append,oJ s hL,hX];rfl
theorem V9 [MaxL] (s:By) {L:GObj} (hLr:∀e:Nat->Nat,(∀i,i<5->e i=i)->L.ren e=L) (d:List Tp) (X:List GObj) [hX:FH 0 X]:XO (wH s L d++X):=fun e he=>by
 rw[dI,AN s hLr d e (fun i hi=>he i (by rw[aX];omega)),hX.h e (fun i hi=>absurd hi (Nat.not_lt_zero i))]
def nlN (s:By):Nat:=if tL s=true then 1 else 0
def cR (s:By):List Tp:=jG (nlN s) (s.length+1) 1 s
theorem U2 [MaxL] (s:By) (hs:s.length<=20000) (hne:cR s≠[]):
  SC Tryz.prog 110 [.sl .full [],.fn (.func 111) [] [.ptr 0 0]] [.box 9 [.s s]] (.val (.sl .none (lW (cR s)))) [.box 9 [.s s]]:=by
 refine bI Tryz.func110 rfl ?_;conv=>whnf
 refine⟨.val (.tup []),⟨D8 s (.loop .ready none _ _ _ _ _ 3) (cR s),0,[.coll 3]⟩,SC.factAll (TZ s hs (.loop .ready none _ _ _ _ _ 3) rfl (fun e he=>?hLr) (cR s) rfl (fun d p hd=>?hb) (fun d p hn hd=>?hf) (fun p=>?h0)) rfl rfl ?hh,?_⟩
 case hh=>
  intro x hx e;subst e;have h1:=List.all_eq_true.1 (show List.all _ GObj.notHeld=true from rfl) _ hx;cases h1
 case hLr=>
  refine BA ?_ (he 3 (by omega));repeat' first
   |exact PF.start (FL.h (n:=5) e he)
   |exact FG.h (n:=5) e he
   |exact(FG.h (n:=5) e he:GV.ren e (.ptr 1 0)=.ptr 1 0)
   |exact(FG.h (n:=5) e he:GV.ren e (.sl (.own 2) [])=.sl (.own 2) [])
   |refine PF.put ?_ ?_
 case h0=>
  refine Fact.yld D6 mixed (r:=4) rfl rfl (by kernel_rfl) rfl rfl (bL rfl) rfl rfl ?_;conv=>whnf
  refine _root_.Go.Proofs.YtmnjcddcihdlfaaGreatDoor.st ?_;conv=>whnf
  refine⟨⟨rfl,rfl,bL rfl⟩,_,_,⟨rfl,rfl⟩,?_⟩;conv=>whnf
  refine _root_.Go.Proofs.YtmnjcddcihdlfaaGreatDoor.st ?_;conv=>whnf
  rfl
 case hb=>
  cases d with
  |nil=>
   refine Fact.yld D6 mixed (r:=4) rfl rfl (by kernel_rfl) rfl rfl (bL rfl) rfl rfl ?_;(conv=>whnf);refine _root_.Go.Proofs.YtmnjcddcihdlfaaGreatDoor.st ?_;(conv=>whnf);refine⟨⟨rfl,rfl,bL rfl⟩,_,_,⟨rfl,rfl⟩,?_⟩;(conv=>whnf);refine _root_.Go.Proofs.YtmnjcddcihdlfaaGreatDoor.st ?_;(conv=>whnf);rfl
  |cons p0 l=>
   have hn:(lW (p0::l)).length=l.length+1:=NS _;have hd':l.length+1<=20001:=hd;refine Fact.forget (extra:=[RB p,.own 1 6 168]) ?_ rfl ?_ ?_ ?_ (fun _=>rfl) ?_
   ·refine Fact.yld D6 mixed (r:=4) rfl rfl (by kernel_rfl) rfl rfl ?_ rfl rfl ?_
    ·simp[wH,wO]
    (conv=>whnf);refine _root_.Go.Proofs.YtmnjcddcihdlfaaGreatDoor.st ?_;(conv=>whnf);refine⟨⟨rfl,S3 _,?_⟩,lW (p0::(l++[p])),(l++[p]).length+1,⟨?_,?_⟩,?_⟩
    ·show(lW (p0::l)).length+1<=4294967296;rw[hn];omega
    ·show lW (p0::(l++[p]))=lW (p0::l)++[I9 p];simp[lW]
    ·show(l++[p]).length+1=(lW (p0::l)).length+1;rw[hn,aX];rfl
    (conv=>whnf);refine⟨⟨zL _,hn.symm,.inl ⟨rfl,rfl⟩⟩,?_⟩;(conv=>whnf);refine _root_.Go.Proofs.YtmnjcddcihdlfaaGreatDoor.st ?_;(conv=>whnf);rfl
   ·simp[wH,wO]
   ·refine V9 s (fun e he=>?_) _ [RB p];refine BA ?_ (he 3 (by omega));repeat' first
     |exact PF.start (FL.h (n:=5) e he)
     |exact FG.h (n:=5) e he
     |exact(FG.h (n:=5) e he:GV.ren e (.ptr 1 0)=.ptr 1 0)
     |exact(FG.h (n:=5) e he:GV.ren e (.sl (.own 2) [])=.sl (.own 2) [])
     |refine PF.put ?_ ?_
   ·exact I6 s rfl _ _ rfl
   ·exact I6 s rfl _ _ rfl
 case hf=>
  cases d with
  |nil=>exact absurd rfl hn
  |cons p0 l=>
   have hn:(lW (p0::l)).length=l.length+1:=NS _;have hd':l.length+1<=20001:=hd;refine Fact.forget (extra:=[RB p,.own 1 6 168]) ?_ rfl ?_ ?_ ?_ (fun _=>rfl) ?_
   ·refine Fact.yld D6 mixed (r:=4) rfl rfl (by kernel_rfl) rfl rfl ?_ rfl rfl ?_
    ·simp[wH,wO]
    (conv=>whnf);refine _root_.Go.Proofs.YtmnjcddcihdlfaaGreatDoor.st ?_;(conv=>whnf);refine⟨⟨rfl,S3 _,?_⟩,lW (p0::(l++[p])),(l++[p]).length+1,⟨?_,?_⟩,?_⟩
    ·show(lW (p0::l)).length+1<=4294967296;rw[hn];omega
    ·show lW (p0::(l++[p]))=lW (p0::l)++[I9 p];simp[lW]
    ·show(l++[p]).length+1=(lW (p0::l)).length+1;rw[hn,aX];rfl
    (conv=>whnf);refine⟨⟨zL _,hn.symm,.inl ⟨rfl,rfl⟩⟩,?_⟩;(conv=>whnf);refine _root_.Go.Proofs.YtmnjcddcihdlfaaGreatDoor.st ?_;(conv=>whnf);rfl
   ·simp[wH,wO]
   ·refine(fun e he=>AN s (fun e he=>?_) _ e he);refine BA ?_ (he 3 (by omega));repeat' first
     |exact PF.start (FL.h (n:=5) e he)
     |exact FG.h (n:=5) e he
     |exact(FG.h (n:=5) e he:GV.ren e (.ptr 1 0)=.ptr 1 0)
     |exact(FG.h (n:=5) e he:GV.ren e (.sl (.own 2) [])=.sl (.own 2) [])
     |refine PF.put ?_ ?_
   ·exact oJ s rfl _
   ·exact oJ s rfl _
 generalize hT:cR s=T at*;rcases T with _|⟨p,_|⟨p2,l⟩⟩
 ·exact absurd rfl hne
 ·by_cases hp:p.t=.fin
  ·have e:∀L,D8 s L [p]=wE s L p:=fun L=>aA hp;rw[e];(conv=>whnf);exact fin 1 (hw:=b5 _ _)
  ·have e:∀L,D8 s L [p]=wH s L [p]:=fun L=>aB hp;rw[e];(conv=>whnf);exact fin 1 (hw:=b5 _ _)
 ·conv=>whnf
  exact fin 1 (hw:=b5 _ _)
theorem QE [MaxL] (s:By) (hs:s.length<=20000) (hne:cR s≠[]):
  SC Tryz.prog 75 [.fn (.func 111) [] [.ptr 0 0]] [.box 9 [.s s]] (.val (.sl .none (lW (cR s)))) [.box 9 [.s s]]:=by
 have h:=U2 s hs hne;refine bI Tryz.func75 rfl ?_;conv=>whnf
 refine cS [0] h ?_;conv=>whnf
 exact fin 1
theorem WG [MaxL] (s:By):SC Tryz.prog 76 [.s s] [] (.val (.fn (.func 111) [] [.ptr 0 0])) [.box 9 [.s s]]:=by
 refine bI Tryz.func76 rfl ?_;conv=>whnf
 exact fin 1
theorem RM (c:UInt8) (t:By) (ln:Nat):Tp.ok ⟨(iD (c::t)).1,(iD (c::t)).2,ln⟩:=by
 unfold iD Tp.ok;dsimp only;by_cases hi:bQ c=true
 ·rw[aA hi];dsimp only;by_cases hn:dE (c::t.takeWhile bQ)=true
  ·rw[aA hn];exact⟨rfl,hn⟩
  ·rw[aB hn];cases s5 (c::t.takeWhile bQ)<;>trivial
 rw[aB hi];by_cases h34:c=34
 ·rw[aA h34];dsimp only;cases n7 ((c::t).take (min (2+kG t) (c::t).length))<;>trivial
 rw[aB h34];by_cases hs:jI c=true
 ·rw[aA hs];dsimp only;refine⟨rfl,?_⟩;by_cases hp:gI (c::t)=true
  ·rw[aA hp];unfold gI at hp;simp only[List.contains_eq_mem,dU,cZ,or_false,aH] at hp;rcases hp with h|h|h<;>rw[h]<;>decide
  ·rw[aB hp];unfold jI at hs;simp only[List.contains_eq_mem,dU,cZ,or_false,aH] at hs;rcases hs with rfl|rfl|rfl|rfl|rfl|rfl|rfl|rfl|rfl|rfl|rfl|rfl|rfl|rfl<;>decide
 ·rw[aB hs];trivial
theorem FJ (t:Tk) (l:List Tk) (n:Nat):tk (t::l) (n+1)=tk l n:=rfl
theorem WfP.cons {t:Tk} {l:List Tk} (h:WfP l) (hl:t≠ .fin->t≠ .bad->l≠[]):WfP (t::l):=⟨fun n hn h1 h2=>by
 cases n with
 |zero=>
  have:=List.length_pos_iff.2 (hl h1 h2);simp only[aM];omega
 |succ n=>
  rw[FJ] at h1 h2;have:=h.next n (by simpa using hn) h1 h2;simpa using this⟩
theorem vV (nl:Nat):∀(f ln:Nat) (l:By),l.length<f->(jG nl f ln l).length<=l.length+1/\(∀p∈jG nl f ln l,p.ok)/\WfP (wT (jG nl f ln l))/\jG nl f ln l≠[]
 |0,ln,l,h=>by omega
 |f+1,ln,[],h=>⟨rL _,fun p hp=>by rw[List.mem_singleton.1 hp];trivial,⟨fun n hn h1 h2=>by
   have:n=0:=by simp[wT,jG] at hn;omega
   subst this;exact absurd rfl h1⟩,fO _ _⟩
 |f+1,ln,c::t,h=>by
  simp only[aM] at h;have up:∀{ln':Nat} {l':By},l'.length<=t.length->(jG nl f ln' l').length<=(c::t).length+1/\(∀p∈jG nl f ln' l',p.ok)/\WfP (wT (jG nl f ln' l'))/\jG nl f ln' l'≠[]:=fun{ln' l'} hl=>by
   obtain⟨a,b⟩:=vV nl f ln' l' (by omega);exact⟨by simp only[aM];omega,b⟩
  unfold jG;dsimp only;by_cases h10:c=10
  ·rw[aA h10];exact up (rL _)
  rw[aB h10];by_cases h32:c=32∨c=9
  ·rw[aA h32];exact up (rL _)
  rw[aB h32];by_cases h35:c=35
  ·rw[aA h35];exact up (List.dropWhile_suffix _).length_le
  rw[aB h35];have hk:=RM c t ln;obtain⟨w1,w2⟩:=E1 c t;by_cases hb:(iD (c::t)).1=.bad
  ·rw[aA hb];refine⟨by simp,fun p hp=>by rw[List.mem_singleton.1 hp];exact hk,⟨fun n hn h1 h2=>?_⟩,fO _ _⟩;have:n=0:=by simp[wT] at hn;omega
   subst this;exact absurd hb h2
  ·rw[aB hb];obtain⟨a,b,c',d⟩:=vV nl f ln ((c::t).drop (iD (c::t)).2.length) (by rw[cU];simp only[aM];omega);refine⟨?_,fun p hp=>?_,WfP.cons c' (fun _ _ e=>d (List.map_eq_nil_iff.1 e)),fO _ _⟩
   ·simp only[aM,cU] at a⊢;omega
   ·rcases List.mem_cons.1 hp with rfl|hp
    ·exact hk
    ·exact b p hp
theorem nM (s:By) (hs:s.length<=20000):WfT (cR s)/\cR s≠[]:=by
 obtain⟨a,b,c,d⟩:=vV (nlN s) (s.length+1) 1 s (eJ _);exact⟨⟨by unfold cR;omega,b,c⟩,d⟩
theorem ZJ [MaxL] (l:List Tp) (s:PS):SC Tryz.prog 79 [.ptr 0 0] [kQ l s] (.val (.b (decide (((s.pr:Nat):Int)>30)))) [kQ l s]:=by
 refine bI Tryz.func79 rfl ?_;conv=>whnf
 by_cases h:((s.pr:Nat):Int)>30
 ·rw[aR h];conv=>whnf
  exact fin 1
 ·rw[aQ h];conv=>whnf
  exact fin 1
theorem JR [MaxL] (l:List Tp) (w:WfT l) (hl:0<l.length) (f:Nat) (hf:EK.expr.need l.length<=f):SC Tryz.prog 51 [.ptr 0 0,.ptr 1 0] [kQ l ⟨0,0,0⟩,.box 47 [gU]]
  (match(pE (wT l) f .expr 0 ⟨0,0,0⟩).1 with|some _=>.val (.tup [])|none=>.panic mL) [kQ l (pE (wT l) f .expr 0 ⟨0,0,0⟩).2,.box 47 [((pE (wT l) f .expr 0 ⟨0,0,0⟩).1.map Ex.gvP).getD gU]]:=by
 have hc:=(OJ l w f).2.2 0 ⟨0,0,0⟩ hl (zL _) hf;generalize pE (wT l) f .expr 0 ⟨0,0,0⟩=P at hc⊢;obtain⟨_|e,s'⟩:=P
 ·dsimp only[kA,Option.map,Option.getD] at hc⊢;refine bI Tryz.func51 rfl ?_;conv=>whnf
  refine cG [0] hc ?_;conv=>whnf
  exact fin 2
 ·dsimp only[kA,Option.map,Option.getD] at hc⊢;refine bI Tryz.func51 rfl ?_;conv=>whnf
  refine cG [0] hc ?_;conv=>whnf
  refine _root_.Go.Proofs.YtmnjcddcihdlfaaGreatDoor.st ?_;conv=>whnf
  exact fin 2
theorem JS [MaxL] (l:List Tp) (w:WfT l) (hl:0<l.length) (f:Nat) (hf:CK.cond.need l.length<=f):SC Tryz.prog 68 [.ptr 0 0,.ptr 1 0] [kQ l ⟨0,0,0⟩,.box 81 [gU]]
  (match(pC (wT l) f .cond 0 ⟨0,0,0⟩).1 with|some _=>.val (.tup [])|none=>.panic mL) [kQ l (pC (wT l) f .cond 0 ⟨0,0,0⟩).2,.box 81 [((pC (wT l) f .cond 0 ⟨0,0,0⟩).1.map Cn.gvP).getD gU]]:=by
 have hc:=(WN l w f).2.2.2 0 ⟨0,0,0⟩ hl (zL _) hf;generalize pC (wT l) f .cond 0 ⟨0,0,0⟩=P at hc⊢;obtain⟨_|e,s'⟩:=P
 ·dsimp only[l8,Option.map,Option.getD] at hc⊢;refine bI Tryz.func68 rfl ?_;conv=>whnf
  refine cG [0] hc ?_;conv=>whnf
  exact fin 2
 ·dsimp only[l8,Option.map,Option.getD] at hc⊢;refine bI Tryz.func68 rfl ?_;conv=>whnf
  refine cG [0] hc ?_;conv=>whnf
  refine _root_.Go.Proofs.YtmnjcddcihdlfaaGreatDoor.st ?_;conv=>whnf
  exact fin 2
theorem IU [MaxL] {ks:List Nat} {s1 x objs:List GObj} (hn:ks.Nodup) (hl:ks.length=s1.length) (hk:∀k∈ks,k<objs.length):hY ks (s1++x) objs=hY ks s1 objs++x.map (GObj.ren (iB ks objs.length)):=by
 have bG:(hY ks s1 objs).length=objs.length:=by rw[oN hn hl hk,v8]
 apply cK;intro r;by_cases hr:r<objs.length
 ·rw[aU (by rw[bG];exact hr),iR hk (by rw[aX];omega),iR hk (Nat.le_of_eq hl)];unfold fU;rw[aA hr];cases h:ks.idxOf? r with
  |none=>rfl
  |some i=>
   have hi:i<s1.length:=by rw[<-hl];exact(List.idxOf?_eq_some_iff.1 h).1
   show((s1++x)[i]?).map _=(s1[i]?).map _;rw[aU hi]
 ·rw[bT (by omega),iR hk (by rw[aX];omega)];unfold fU;rw[aB hr];show((s1++x)[ks.length+(r - objs.length)]?).map _=_;rw[bG,hl,bT (by omega),aG,show s1.length+(r - objs.length) - s1.length=r - objs.length by omega]
theorem cX [MaxL] (ks:List Nat) {P:Program} {M:FuncId->Bool} {k:FuncId} {args a a':List GV} {s t s' t' x x':List GObj} {r r':GRes} {σ:GS} {K:GRes->GS->Prop} (h:SC P k a s r (s'++x))
  [i1:RL (iB ks σ.objs.length) a a'] [i2:RH (iB ks σ.objs.length) s t] [i3:RH (iB ks σ.objs.length) s' t'] [i5:RH (iB ks σ.objs.length) x x'] [i4:RR (iB ks σ.objs.length) r r']
  (hk:K r' ⟨nW ks t' σ.objs++x',σ.lo,σ.ds⟩) (hw:Wks args a':=by first|exact wR _|exact wC (b5 _ _) (wR _)|exact wC (b5 _ _) (wC (b5 _ _) (wR _))|exact wC (iN _) (wC (b5 _ _) (wR _))) (ho:ks.map (fun q=>σ.objs[q]?)=t.map some:=by rfl) (hl:ks.length=s.length:=by rfl) (hl':ks.length=s'.length:=by rfl) (hn:ks.Nodup:=by decide)
  (hh:s.all GObj.notHeld=true:=by rfl) (hlo:σ.lo=0:=by rfl) (hM:M k=false:=by rfl) (hD:kK M=false:=by rfl):iC P M (.fn k) args σ K:=by
 have hL:Lies ks s σ.objs:=Lies.mk' ho hl hn hh;have hf:=h.fact (σ:=σ) (args':=args) ks hL hlo (by rw[i1.h];exact hw);rw[IU hn hl' (fun k hk=>hL.lt k hk),oN hn hl' (fun k hk=>hL.lt k hk),i3.h,i5.h,i4.h] at hf;exact⟨r',_,hf,(B6 hM hD),hk⟩
theorem OH [MaxL] (F:FuncId) (T:TypeId) (s:By) (hs:20000<s.length):SC Tryz.prog 50 [.s s,.fn (.func F) [] [.ptr 0 0]] [.box T [gU]] (.val (.i .i64 3)) [.box T [gU]]:=by
 refine bI Tryz.func50 rfl ?_;conv=>whnf
 refine gY (aR (by omega)) ?_;conv=>whnf
 refine st ?_;conv=>whnf
 exact fin 1
theorem GJ [MaxL] (F:FuncId) (hF:F=51∨F=68) (T:TypeId) (s:By) (hs:s.length<=20000) (ok:Bool) (s1:PS) (g:GV) [KG g] (hn:ok=true->s1.n<(cR s).length)
  (hf:SC Tryz.prog F [.ptr 0 0,.ptr 1 0] [kQ (cR s) ⟨0,0,0⟩,.box T [gU]] (if ok=true then .val (.tup []) else .panic mL) [kQ (cR s) s1,.box T [g]]):
  SC Tryz.prog 50 [.s s,.fn (.func F) [] [.ptr 0 0]] [.box T [gU]] (.val (.i .i64 (if ok=true then(if tk (wT (cR s)) s1.n=.fin then(if 30<s1.pr then 4 else 0) else 2) else 2))) [.box T [g]]:=by
 rcases hF with rfl|rfl;all_goals
  obtain⟨w,hne⟩:=nM s hs;have hwo:=WG s;have hco:=QE s hs hne;cases ok with
  |false=>
   rw[aB b4] at hf⊢;refine bI Tryz.func50 rfl ?_;(conv=>whnf);refine gN (aQ (by omega)) ?_;(conv=>whnf);refine cX [] (s':=[]) (x:=[.box 9 [.s s]]) hwo ?_;(conv=>whnf);refine cS [2] hco ?_;(conv=>whnf);refine cG [3,0] hf ?_;(conv=>whnf);exact j4 (r:=.val (.i .i64 2)) 1 (by kernel_rfl) (by kernel_rfl)
  |true=>
   rw[aA rfl] at hf;rw[aA rfl];obtain⟨p,hp,hk,ht,_⟩:=w.at_ (hn rfl);have hnow:=sM (cR s) s1 p hp;have hwr:=nG (cR s) s1;have hov:=ZJ (cR s) s1;rw[ht];obtain⟨t,raw,ln⟩:=p;by_cases hfin:t=.fin
   ·subst hfin;rw[aA rfl];by_cases h30:30<s1.pr
    case' pos=>
     rw[aA h30];rw[aR (show((s1.pr:Nat):Int)>30 by omega)] at hov
    case' neg=>
     rw[aB h30];rw[aQ (show¬((s1.pr:Nat):Int)>30 by omega)] at hov
    all_goals
     refine bI Tryz.func50 rfl ?_;(conv=>whnf);refine gN (aQ (by omega)) ?_;(conv=>whnf);refine cX [] (s':=[]) (x:=[.box 9 [.s s]]) hwo ?_;(conv=>whnf);refine cS [2] hco ?_;(conv=>whnf);refine cG [3,0] hf ?_;(conv=>whnf);refine cG [3] hnow ?_;(conv=>whnf);refine cG [3] hov ?_;(conv=>whnf);refine st ?_;(conv=>whnf);exact j4 (r:=.val (.i .i64 _)) 1 (by kernel_rfl) (by kernel_rfl)
   ·rw[aB hfin];have hkd:(((t.kd:Nat):Int) !=101)=true:=by cases t<;>first|rfl|exact absurd rfl hfin
    replace hnow:SC Tryz.prog 91 [.ptr 0 0] [kQ (cR s) s1] (.val (.agg [.i .u8 (t.kd:Nat),.s raw,.i .i64 t.vl.k,.i .i64 t.vl.n,.s t.vl.s,.i .i64 (ln:Nat)])) [kQ (cR s) s1]:=hnow;refine bI Tryz.func50 rfl ?_;(conv=>whnf);refine gN (aQ (by omega)) ?_;(conv=>whnf);refine cX [] (s':=[]) (x:=[.box 9 [.s s]]) hwo ?_;(conv=>whnf);refine cS [2] hco ?_;(conv=>whnf);refine cG [3,0] hf ?_;(conv=>whnf);refine cG [3] hnow ?_;(conv=>whnf);refine gY hkd ?_;(conv=>whnf);refine cG [3] hwr ?_;(conv=>whnf);exact j4 (r:=.val (.i .i64 2)) 1 (by kernel_rfl) (by kernel_rfl)
def gH (s:By):Nat:=5*s.length+20
def uW (l:List Tk) (s:PS):Int:=if tk l s.n=.fin then(if 30<s.pr then 4 else 0) else 2
def lR (s:By):Option Ex×Int:=if 20000<s.length then(none,3) else match pE (wT (cR s)) (gH s) .expr 0 ⟨0,0,0⟩ with
 |(some e,st)=>(some e,uW (wT (cR s)) st)
 |(none,_)=>(none,2)
def lS (s:By):Option Cn×Int:=if 20000<s.length then(none,3) else match pC (wT (cR s)) (gH s) .cond 0 ⟨0,0,0⟩ with
 |(some c,st)=>(some c,uW (wT (cR s)) st)
 |(none,_)=>(none,2)
def Z0 (o:Option Ex):GV:=(o.map Ex.gvP).getD gU
def Z1 (o:Option Cn):GV:=(o.map Cn.gvP).getD gU
instance [MaxL] (o:Option Ex):KG (Z0 o):=⟨by cases o with
 |none=>exact fV
 |some e=>exact e.cl⟩
instance [MaxL] (o:Option Cn):KG (Z1 o):=⟨by cases o with
 |none=>exact fV
 |some e=>exact e.cl⟩
theorem xR (s:By):(cR s).length<=s.length+1:=(vV (nlN s) (s.length+1) 1 s (eJ _)).1
theorem qZ [MaxL] (s:By):SC Tryz.prog 17 [.s s] [] (.val (.tup [Z0 (lR s).1,.i .i64 (lR s).2])) []:=by
 by_cases hs:20000<s.length
 ·have h:=OH 51 47 s hs;rw[show lR s=(none,3) from aA hs];refine bI Tryz.func17 rfl ?_;conv=>whnf
  refine cG [0] h ?_;conv=>whnf
  refine st ?_;conv=>whnf
  exact fin 0
 obtain⟨w,hne⟩:=nM s (by omega);have bG:=xR s;have hpos:=List.length_pos_iff.2 hne;have hwl:(wT (cR s)).length=(cR s).length:=aS _;have h1:=JR (cR s) w hpos (gH s) (by simp only[EK.need,gH];omega);have hlt:=fun e s'=>B2 w.next (gH s) .expr 0 ⟨0,0,0⟩ (by rw[hwl];exact hpos) (by rw[hwl];simp only[EK.need,gH];omega) (e:=e) (s':=s');have hr:lR s=match pE (wT (cR s)) (gH s) .expr 0 ⟨0,0,0⟩ with
  |(some e,st)=>(some e,uW (wT (cR s)) st)
  |(none,_)=>(none,2):=aB hs
 rw[hr];generalize pE (wT (cR s)) (gH s) .expr 0 ⟨0,0,0⟩=P at h1 hlt;obtain⟨_|e,s'⟩:=P
 ·have h:=GJ 51 (.inl rfl) 47 s (by omega) false s' gU (fun h=>by cases h) h1;rw[aB b4] at h;refine bI Tryz.func17 rfl ?_;conv=>whnf
  refine cG [0] h ?_;conv=>whnf
  refine st ?_;conv=>whnf
  exact fin 0
 ·have h:=GJ 51 (.inl rfl) 47 s (by omega) true s' e.gvP (fun _=>by have:=(hlt e s' rfl).1;rw[hwl] at this;exact this) h1;rw[aA rfl] at h;replace h:SC Tryz.prog _ _ _ (.val (.i .i64 (uW (wT (cR s)) s'))) _:=h;dsimp only[Z0,Option.map,Option.getD];refine bI Tryz.func17 rfl ?_;conv=>whnf
  refine cG [0] h ?_;conv=>whnf
  refine st ?_;conv=>whnf
  exact fin 0
theorem r4 [MaxL] (s:By):SC Tryz.prog 27 [.s s] [] (.val (.tup [Z1 (lS s).1,.i .i64 (lS s).2])) []:=by
 by_cases hs:20000<s.length
 ·have h:=OH 68 81 s hs;rw[show lS s=(none,3) from aA hs];refine bI Tryz.func27 rfl ?_;conv=>whnf
  refine cG [0] h ?_;conv=>whnf
  refine st ?_;conv=>whnf
  exact fin 0
 obtain⟨w,hne⟩:=nM s (by omega);have bG:=xR s;have hpos:=List.length_pos_iff.2 hne;have hwl:(wT (cR s)).length=(cR s).length:=aS _;have h1:=JS (cR s) w hpos (gH s) (by simp only[CK.need,gH];omega);have hlt:=fun e s'=>EE w.next w.names (gH s) .cond 0 ⟨0,0,0⟩ (by rw[hwl];exact hpos) (by rw[hwl];simp only[CK.need,gH];omega) (e:=e) (s':=s');have hr:lS s=match pC (wT (cR s)) (gH s) .cond 0 ⟨0,0,0⟩ with
  |(some e,st)=>(some e,uW (wT (cR s)) st)
  |(none,_)=>(none,2):=aB hs
 rw[hr];generalize pC (wT (cR s)) (gH s) .cond 0 ⟨0,0,0⟩=P at h1 hlt;obtain⟨_|e,s'⟩:=P
 ·have h:=GJ 68 (.inr rfl) 81 s (by omega) false s' gU (fun h=>by cases h) h1;rw[aB b4] at h;refine bI Tryz.func27 rfl ?_;conv=>whnf
  refine cG [0] h ?_;conv=>whnf
  refine st ?_;conv=>whnf
  exact fin 0
 ·have h:=GJ 68 (.inr rfl) 81 s (by omega) true s' e.gvP (fun _=>by have:=(hlt e s' rfl).1;rw[hwl] at this;exact this) h1;rw[aA rfl] at h;replace h:SC Tryz.prog _ _ _ (.val (.i .i64 (uW (wT (cR s)) s'))) _:=h;dsimp only[Z1,Option.map,Option.getD];refine bI Tryz.func27 rfl ?_;conv=>whnf
  refine cG [0] h ?_;conv=>whnf
  refine st ?_;conv=>whnf
  exact fin 0
structure Itm where
 name:By
 k:Int
 lo:Int
 hi:Int
 len:Int
 deriving DecidableEq
def Itm.cs (i:Itm):List GV:=[.s i.name,.i .i64 i.k,.i .i64 i.lo,.i .i64 i.hi,.i .i64 i.len]
def Itm.gv (i:Itm):GV:=.agg i.cs
theorem Itm.cl [MaxL] (i:Itm):Cl i.gv:=fun _=>rfl
def eT (l:List Itm):List GV:=l.map Itm.gv
theorem G5 [MaxL] (l:List Itm):ClL (eT l):=ClL.mapOf Itm.cl l
theorem gR (l:List Itm):(eT l).length=l.length:=by simp[eT]
theorem u6 {l:List Itm} {i:Nat} {y:Itm} (h:l[i]?=some y):(eT l)[i]?=some (.agg [.s y.name,.i .i64 y.k,.i .i64 y.lo,.i .i64 y.hi,.i .i64 y.len]):=by
 unfold eT;rw[aG,h];rfl
def Itm.ok (i:Itm):Bool:=dE i.name&&((decide (i.k=1)&&decide (i.lo<=i.hi)&&decide (-1000000000<=i.lo)&&decide (i.hi<=1000000000)&&decide (i.len=0))||(decide (i.k=2)&&decide (1<=i.len)&&decide (i.len<=40)&&decide (i.lo=0)&&decide (i.hi=0)))
theorem L5 [MaxL] (i:Itm):SC Tryz.prog 47 [i.gv] [] (.val (.b i.ok)) []:=by
 obtain⟨name,k,lo,hi,len⟩:=i;have hn:=UX name;have hw:=xL len 1 40;unfold Itm.ok;simp only;generalize dE name=nm at*;cases nm with
 |false=>
  refine bI Tryz.func47 rfl ?_;conv=>whnf
  refine vD hn ?_;conv=>whnf
  exact eM rfl
 |true=>
  refine bI Tryz.func47 rfl ?_;conv=>whnf
  refine vD hn ?_;conv=>whnf
  repeat' first
   |(apply gM<;>intro _<;>conv=>whnf)
   |(refine gP ?_;conv=>whnf)
   |(refine sT ?_;conv=>whnf)
   |(refine vD hw ?_;conv=>whnf)
  all_goals
   refine eM ?_;rw[Bool.eq_iff_iff];simp at*;try omega
theorem IQ [MaxL] (i:Itm):SC Tryz.prog 98 [i.gv] [] (.val (.b i.ok)) []:=by
 obtain⟨name,k,lo,hi,len⟩:=i;have hn:=SQ name;unfold Itm.ok;simp only;generalize dE name=nm at*;cases nm with
 |false=>
  refine bI Tryz.func98 rfl ?_;conv=>whnf
  refine vD hn ?_;conv=>whnf
  exact eM rfl
 |true=>
  refine bI Tryz.func98 rfl ?_;conv=>whnf
  refine vD hn ?_;conv=>whnf
  repeat' first
   |(apply gM<;>intro _<;>conv=>whnf)
   |(refine gP ?_;conv=>whnf)
   |(refine sT ?_;conv=>whnf)
  all_goals
   refine eM ?_;rw[Bool.eq_iff_iff];simp at*;try omega
theorem uO {l:List Itm} {i:Nat} {y:Itm} (h:∀z∈l.take i,z.ok=true) (hy:l[i]?=some y) (hn:y.ok=true):∀z∈l.take (i+1),z.ok=true:=fun z hz=>by
 rw[dS,hy] at hz;rcases List.mem_append.1 hz with hz|hz
 ·exact h z hz
 ·rw[List.mem_singleton.1 (show z∈[y] from hz)];exact hn
theorem B5 {l:List Itm} {i:Nat} {y:Itm} (h:((l.take i).map Itm.name).Nodup) (hy:l[i]?=some y):((l.take (i+1)).map Itm.name).Nodup↔∀z∈l.take i,z.name≠y.name:=by
 rw[dS,hy];show((l.take i++[y]).map Itm.name).Nodup↔_;rw[dI,List.nodup_append];constructor
 ·intro⟨_,_,h3⟩ z hz;exact h3 _ (List.mem_map_of_mem hz) _ (by simp)
 ·intro h3;refine⟨h,by simp,fun a ha b hb=>?_⟩;obtain⟨z,hz,rfl⟩:=List.mem_map.1 ha;simp at hb;rw[hb];exact h3 z hz
