/-
  A part of the proof of SchemaFinds.
-/
import Derived.Test.YtcfgfkkhpdlhpaaGreatDoorT25
set_option linter.all false
set_option maxRecDepth 100000
namespace Go.Proofs.YtcfgfkkhpdlhpaaGreatDoor
open Go.RowKit
def Tree.ty:Tree->TypeId
 |.pair _ _ _=>280
 |.no _=>278
 |.test _ _ _=>244
 |.truth _=>285
def Tree.cs:Tree->List GV
 |.pair a l r=>[.i .i64 (lD a:Nat),.ifc l.ty (.agg l.cs),.ifc r.ty (.agg r.cs)]
 |.no t=>[.ifc t.ty (.agg t.cs)]
 |.test op l r=>.s op::(l.cs++r.cs)
 |.truth b=>[.b b]
def Tree.gv (t:Tree):GV:=.ifc t.ty (.agg t.cs)
theorem Tree.cs_cl [MaxL]:∀t:Tree,ClL t.cs
 |.pair a l r=>.cons (.i _ _) (.cons (Cl.ifc (eO l.cs_cl)) (.cons (Cl.ifc (eO r.cs_cl)) .nil))
 |.no t=>.cons (Cl.ifc (eO t.cs_cl)) .nil
 |.test op l r=>fun _=>rfl
 |.truth b=>fun _=>rfl
theorem Tree.cl [MaxL] (t:Tree):Cl t.gv:=Cl.ifc (eO t.cs_cl)
inductive Lp [MaxL] (s:List UInt8) (k:FuncId) (w:List UInt8) (a:Bool) (lv:Nat):Nat->Tree->Nat->Nat->Option (Tree×Nat×Nat)->Prop where
 |stop {t:Tree} {n d:Nat} {ts:List (List UInt8)} (h:At s n ts) (hne:ts.headD []≠w):Lp s k w a lv 0 t n d (some (t,nb s n,d))
 |bad {t:Tree} {n d:Nat} {ts:List (List UInt8)} (h:At s n (w::ts)) (hc:SC Tryz.prog k [.ptr 0 0,.i .i64 lv] [rd s (nb s n+w.length) d] (.panic gO) [.dead]):Lp s k w a lv 0 t n d none
 |step {j:Nat} {t m:Tree} {n d n' d':Nat} {ts:List (List UInt8)} {fin:Option (Tree×Nat×Nat)} (h:At s n (w::ts)) (hc:SC Tryz.prog k [.ptr 0 0,.i .i64 lv] [rd s (nb s n+w.length) d] (.val m.gv) [rd s n' d'])
   (hr:Lp s k w a lv j (.pair a t m) n' d' fin):Lp s k w a lv (j+1) t n d fin
def rS (s:List UInt8) (o:Option (Tree×Nat×Nat)):Option (GV×GObj):=o.map fun p=>(p.1.gv,rd s p.2.1 p.2.2)
theorem n8 (s:List UInt8) (o:Option (Tree×Nat×Nat)):(rS s o).all (fun q=>q.2.notHeld)=true:=by cases o<;>rfl
theorem a3a [MaxL] (s:List UInt8) (hs:s.length<bH) (lv n d n1 d1 j:Nat) (t:Tree) (fin:Option (Tree×Nat×Nat))
  (hc:SC Tryz.prog 294 [.ptr 0 0,.i .i64 lv] [rd s n d] (.val t.gv) [rd s n1 d1]) (hl:Lp s 294 AY false lv j t n1 d1 fin):
  Ct Tryz.prog 257 [.ptr 0 0,.i .i64 lv] (rd s n d) gO (rS s fin):=by
 refine gS oY mixed Tryz.func257 rfl (bL rfl) (fun _=>rfl) ?hh ?_
 case hh=>exact n8 s fin
 conv=>whnf
 refine aW (q:=0) hc rfl (wR _) rfl rfl (fun _=>rfl) (fun _=>rfl) (fun _=>rfl) t.cl ?_;conv=>whnf
 refine dG (fun q:Nat×Tree×Nat×Nat=>Lp s 294 AY false lv q.1 q.2.1 q.2.2.1 q.2.2.2 fin)
  (fun q=>[(0,.ptr 0 0),(1,.i .i64 lv),(5,q.2.1.gv)]) (fun q=>⟨[rd s q.2.2.1 q.2.2.2],0,[]⟩) (fun q=>q.1) (j,t,n1,d1) hl ⟨rfl,rfl,rfl,trivial⟩ rfl (fun q φ0 hq=>?_)
 obtain⟨j,t,n,d⟩:=q;replace hq:Lp s 294 AY false lv j t n d fin:=hq;conv=>whnf
 cases hq with
 |stop h hne=>
  refine rQ (q:=0) (DM s n d h hs hne) ?_;conv=>whnf
  exact gE rfl rfl (.refl _) (fun _=>rfl) t.cl
 |bad h hc=>
  refine rQ (q:=0) (t6 s n d h hs) ?_;conv=>whnf
  refine m5 (q:=0) hc rfl (by first|exact wR _|exact wC (bE _ _) (wR _)|exact wC (bE _ _) (wC (bE _ _) (wR _))|exact wC (cY _) (wC (bE _ _) (wR _))) rfl rfl (by first|exact fun _=>rfl|exact cA|exact cB fun _=>rfl) (by first|exact fun _=>rfl|exact cA|exact cB fun _=>rfl) (by first|exact fun _=>rfl|exact cA|exact cB fun _=>rfl) ?_;conv=>whnf
  exact j0 rfl
 |step h hc hr=>
  rename_i j m n' d' ts;refine rQ (q:=0) (t6 s n d h hs) ?_;conv=>whnf
  refine aW (q:=0) hc rfl (wR _) rfl rfl (fun _=>rfl) (fun _=>rfl) (fun _=>rfl) m.cl ?_;conv=>whnf
  exact⟨j,Nat.lt_succ_self j,(j,.pair false t m,n',d'),hr,rfl,⟨rfl,rfl,rfl,trivial⟩,rfl⟩
theorem Y8 [MaxL] (s:List UInt8) (lv n d:Nat) (hc:SC Tryz.prog 294 [.ptr 0 0,.i .i64 lv] [rd s n d] (.panic gO) [.dead]):
  Ct Tryz.prog 257 [.ptr 0 0,.i .i64 lv] (rd s n d) gO none:=by
 refine gS oY mixed Tryz.func257 rfl (bL rfl) (fun _=>rfl) ?hh ?_
 case hh=>rfl
 conv=>whnf
 refine m5 (q:=0) hc rfl (by first|exact wR _|exact wC (bE _ _) (wR _)|exact wC (bE _ _) (wC (bE _ _) (wR _))|exact wC (cY _) (wC (bE _ _) (wR _))) rfl rfl (by first|exact fun _=>rfl|exact cA|exact cB fun _=>rfl) (by first|exact fun _=>rfl|exact cA|exact cB fun _=>rfl) (by first|exact fun _=>rfl|exact cA|exact cB fun _=>rfl) ?_;conv=>whnf
 exact j0 rfl
theorem a2y [MaxL] (s:List UInt8) (hs:s.length<bH) (lv n d n1 d1 j:Nat) (t:Tree) (fin:Option (Tree×Nat×Nat))
  (hc:SC Tryz.prog 317 [.ptr 0 0,.i .i64 lv] [rd s n d] (.val t.gv) [rd s n1 d1]) (hl:Lp s 317 nC true lv j t n1 d1 fin):
  Ct Tryz.prog 294 [.ptr 0 0,.i .i64 lv] (rd s n d) gO (rS s fin):=by
 refine gS oY mixed Tryz.func294 rfl (bL rfl) (fun _=>rfl) ?hh ?_
 case hh=>exact n8 s fin
 conv=>whnf
 refine aW (q:=0) hc rfl (wR _) rfl rfl (fun _=>rfl) (fun _=>rfl) (fun _=>rfl) t.cl ?_;conv=>whnf
 refine dG (fun q:Nat×Tree×Nat×Nat=>Lp s 317 nC true lv q.1 q.2.1 q.2.2.1 q.2.2.2 fin)
  (fun q=>[(0,.ptr 0 0),(1,.i .i64 lv),(5,q.2.1.gv)]) (fun q=>⟨[rd s q.2.2.1 q.2.2.2],0,[]⟩) (fun q=>q.1) (j,t,n1,d1) hl ⟨rfl,rfl,rfl,trivial⟩ rfl (fun q φ0 hq=>?_)
 obtain⟨j,t,n,d⟩:=q;replace hq:Lp s 317 nC true lv j t n d fin:=hq;conv=>whnf
 cases hq with
 |stop h hne=>
  refine rQ (q:=0) (DM s n d h hs hne) ?_;conv=>whnf
  exact gE rfl rfl (.refl _) (fun _=>rfl) t.cl
 |bad h hc=>
  refine rQ (q:=0) (t6 s n d h hs) ?_;conv=>whnf
  refine m5 (q:=0) hc rfl (by first|exact wR _|exact wC (bE _ _) (wR _)|exact wC (bE _ _) (wC (bE _ _) (wR _))|exact wC (cY _) (wC (bE _ _) (wR _))) rfl rfl (by first|exact fun _=>rfl|exact cA|exact cB fun _=>rfl) (by first|exact fun _=>rfl|exact cA|exact cB fun _=>rfl) (by first|exact fun _=>rfl|exact cA|exact cB fun _=>rfl) ?_;conv=>whnf
  exact j0 rfl
 |step h hc hr=>
  rename_i j m n' d' ts;refine rQ (q:=0) (t6 s n d h hs) ?_;conv=>whnf
  refine aW (q:=0) hc rfl (wR _) rfl rfl (fun _=>rfl) (fun _=>rfl) (fun _=>rfl) m.cl ?_;conv=>whnf
  exact⟨j,Nat.lt_succ_self j,(j,.pair true t m,n',d'),hr,rfl,⟨rfl,rfl,rfl,trivial⟩,rfl⟩
theorem UQ [MaxL] (s:List UInt8) (lv n d:Nat) (hc:SC Tryz.prog 317 [.ptr 0 0,.i .i64 lv] [rd s n d] (.panic gO) [.dead]):
  Ct Tryz.prog 294 [.ptr 0 0,.i .i64 lv] (rd s n d) gO none:=by
 refine gS oY mixed Tryz.func294 rfl (bL rfl) (fun _=>rfl) ?hh ?_
 case hh=>rfl
 conv=>whnf
 refine m5 (q:=0) hc rfl (by first|exact wR _|exact wC (bE _ _) (wR _)|exact wC (bE _ _) (wC (bE _ _) (wR _))|exact wC (cY _) (wC (bE _ _) (wR _))) rfl rfl (by first|exact fun _=>rfl|exact cA|exact cB fun _=>rfl) (by first|exact fun _=>rfl|exact cA|exact cB fun _=>rfl) (by first|exact fun _=>rfl|exact cA|exact cB fun _=>rfl) ?_;conv=>whnf
 exact j0 rfl
theorem DK [MaxL] {lv:Nat} (h:lv<1000000):IntKind.i64.wrap ((lv:Int)+1)=((lv+1:Nat):Int):=cD (by omega) (by omega)
theorem J4 [MaxL] {d lv:Nat} (h:lv<1000000):[GV.i .i64 ((max d (lv+1):Nat):Int)]=(GV.i .i64 (if(d:Int)<IntKind.i64.wrap ((lv:Int)+1) then IntKind.i64.wrap ((lv:Int)+1) else(d:Int))).cells:=by
 rw[DK h];show[_]=[_];congr 2;split<;>omega
theorem Y9 [MaxL] (s:List UInt8) (hs:s.length<bH) (lv n d:Nat) {ts:List (List UInt8)} (h:At s n ts) (hne:ts.headD []≠kC) (fin:Option (Tree×Nat×Nat))
  (hc:Ct Tryz.prog 327 [.ptr 0 0,.i .i64 lv] (rd s (nb s n) d) gO (rS s fin)):
  Ct Tryz.prog 317 [.ptr 0 0,.i .i64 lv] (rd s n d) gO (rS s fin):=by
 refine gS oY mixed Tryz.func317 rfl (bL rfl) (fun _=>rfl) ?hh ?_
 case hh=>exact n8 s fin
 conv=>whnf
 refine rQ (q:=0) (DM s n d h hs hne) ?_;conv=>whnf
 cases fin with
 |none=>
  replace hc:SC Tryz.prog 327 [.ptr 0 0,.i .i64 lv] [rd s (nb s n) d] (.panic gO) [.dead]:=hc;refine m5 (q:=0) hc rfl (by first|exact wR _|exact wC (bE _ _) (wR _)|exact wC (bE _ _) (wC (bE _ _) (wR _))|exact wC (cY _) (wC (bE _ _) (wR _))) rfl rfl (by first|exact fun _=>rfl|exact cA|exact cB fun _=>rfl) (by first|exact fun _=>rfl|exact cA|exact cB fun _=>rfl) (by first|exact fun _=>rfl|exact cA|exact cB fun _=>rfl) ?_;conv=>whnf
  exact j0 rfl
 |some p=>
  replace hc:SC Tryz.prog 327 [.ptr 0 0,.i .i64 lv] [rd s (nb s n) d] (.val p.1.gv) [rd s p.2.1 p.2.2]:=hc;refine aW (q:=0) hc rfl (wR _) rfl rfl (fun _=>rfl) (fun _=>rfl) (fun _=>rfl) (Tree.cl _) ?_;conv=>whnf
  exact gE rfl rfl (.refl _) (fun _=>rfl) (Tree.cl _)
theorem UL [MaxL] (s:List UInt8) (hs:s.length<bH) (lv n d:Nat) (hlv:lv<1000000) {ts:List (List UInt8)} (h:At s n (kC::ts)) (fin:Option (Tree×Nat×Nat))
  (hc:Ct Tryz.prog 327 [.ptr 0 0,.i .i64 (lv+1:Nat)] (rd s (nb s n+3) (max d (lv+1):Nat)) gO (rS s fin)):
  Ct Tryz.prog 317 [.ptr 0 0,.i .i64 lv] (rd s n d) gO (rS s (fin.map fun p=>(.no p.1,p.2))):=by
 refine gS oY mixed Tryz.func317 rfl (bL rfl) (fun _=>rfl) ?hh ?_
 case hh=>exact n8 s _
 conv=>whnf
 refine rQ (q:=0) (t6 s n d h hs) ?_;conv=>whnf
 refine⟨[.i .i64 (max d (lv+1):Nat)],⟨J4 hlv,zL _,rfl,bL rfl⟩,?_⟩;conv=>whnf
 have e:GV.i .i64 (IntKind.i64.wrap ((lv:Int)+1))=.i .i64 ((lv+1:Nat):Int):=by rw[DK hlv]
 cases fin with
 |none=>
  replace hc:SC Tryz.prog 327 [.ptr 0 0,.i .i64 (lv+1:Nat)] [rd s (nb s n+3) (max d (lv+1):Nat)] (.panic gO) [.dead]:=hc;rw[<-e] at hc;refine m5 (q:=0) hc rfl (wR _) rfl rfl (fun _=>rfl) (fun _=>rfl) (fun _=>rfl) ?_;conv=>whnf
  exact j0 rfl
 |some p=>
  replace hc:SC Tryz.prog 327 [.ptr 0 0,.i .i64 (lv+1:Nat)] [rd s (nb s n+3) (max d (lv+1):Nat)] (.val p.1.gv) [rd s p.2.1 p.2.2]:=hc;rw[<-e] at hc;refine aW (q:=0) hc rfl (wR _) rfl rfl (fun _=>rfl) (fun _=>rfl) (fun _=>rfl) (Tree.cl _) ?_;conv=>whnf
  exact gE rfl rfl (.refl _) (fun _=>rfl) (Tree.cl (.no p.1))
