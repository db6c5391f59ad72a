/-
  A part of the proof of SchemaChosen.
-/
import Derived.Test.YtcfgfkkhpdlhpaaGreatDoorR25
set_option linter.all false
set_option maxRecDepth 100000
namespace Go.Proofs.YtcfgfkkhpdlhpaaGreatDoor
open Go.RowKit
def Tree.ty:Tree->TypeId
 |.pair _ _ _=>280
 |.no _=>278
 |.test _ _ _=>244
 |.truth _=>285
def Tree.cs:Tree->List GV
 |.pair a l r=>[.i .i64 (kX a:Nat),.ifc l.ty (.agg l.cs),.ifc r.ty (.agg r.cs)]
 |.no t=>[.ifc t.ty (.agg t.cs)]
 |.test op l r=>.s op::(l.cs++r.cs)
 |.truth b=>[.b b]
def Tree.gv (t:Tree):GV:=.ifc t.ty (.agg t.cs)
theorem Tree.cs_cl [MaxL]:∀t:Tree,ClL t.cs
 |.pair a l r=>.cons (.i _ _) (.cons (Cl.ifc (eL l.cs_cl)) (.cons (Cl.ifc (eL r.cs_cl)) .nil))
 |.no t=>.cons (Cl.ifc (eL t.cs_cl)) .nil
 |.test op l r=>fun _=>rfl
 |.truth b=>fun _=>rfl
theorem Tree.cl [MaxL] (t:Tree):Cl t.gv:=Cl.ifc (eL t.cs_cl)
inductive Lp [MaxL] (s:List UInt8) (k:FuncId) (w:List UInt8) (a:Bool) (lv:Nat):Nat->Tree->Nat->Nat->Option (Tree×Nat×Nat)->Prop where
 |stop {t:Tree} {n d:Nat} {ts:List (List UInt8)} (h:At s n ts) (hne:ts.headD []≠w):Lp s k w a lv 0 t n d (some (t,nb s n,d))
 |bad {t:Tree} {n d:Nat} {ts:List (List UInt8)} (h:At s n (w::ts)) (hc:SC Tryz.prog k [.ptr 0 0,.i .i64 lv] [rd s (nb s n+w.length) d] (.panic gK) [.dead]):Lp s k w a lv 0 t n d none
 |step {j:Nat} {t m:Tree} {n d n' d':Nat} {ts:List (List UInt8)} {fin:Option (Tree×Nat×Nat)} (h:At s n (w::ts)) (hc:SC Tryz.prog k [.ptr 0 0,.i .i64 lv] [rd s (nb s n+w.length) d] (.val m.gv) [rd s n' d'])
   (hr:Lp s k w a lv j (.pair a t m) n' d' fin):Lp s k w a lv (j+1) t n d fin
def rM (s:List UInt8) (o:Option (Tree×Nat×Nat)):Option (GV×GObj):=o.map fun p=>(p.1.gv,rd s p.2.1 p.2.2)
theorem mV (s:List UInt8) (o:Option (Tree×Nat×Nat)):(rM s o).all (fun q=>q.2.notHeld)=true:=by cases o<;>rfl
theorem a2n [MaxL] (s:List UInt8) (hs:s.length<bB) (lv n d n1 d1 j:Nat) (t:Tree) (fin:Option (Tree×Nat×Nat))
  (hc:SC Tryz.prog 294 [.ptr 0 0,.i .i64 lv] [rd s n d] (.val t.gv) [rd s n1 d1]) (hl:Lp s 294 AU false lv j t n1 d1 fin):
  Ct Tryz.prog 257 [.ptr 0 0,.i .i64 lv] (rd s n d) gK (rM s fin):=by
 refine gQ pU mixed Tryz.func257 rfl (bL rfl) (fun _=>rfl) ?hh ?_
 case hh=>exact mV s fin
 conv=>whnf
 refine aW (q:=0) hc rfl (wR _) rfl rfl (fun _=>rfl) (fun _=>rfl) (fun _=>rfl) t.cl ?_;conv=>whnf
 refine cW (fun q:Nat×Tree×Nat×Nat=>Lp s 294 AU false lv q.1 q.2.1 q.2.2.1 q.2.2.2 fin)
  (fun q=>[(0,.ptr 0 0),(1,.i .i64 lv),(5,q.2.1.gv)]) (fun q=>⟨[rd s q.2.2.1 q.2.2.2],0,[]⟩) (fun q=>q.1) (j,t,n1,d1) hl ⟨rfl,rfl,rfl,trivial⟩ rfl (fun q φ0 hq=>?_)
 obtain⟨j,t,n,d⟩:=q;replace hq:Lp s 294 AU false lv j t n d fin:=hq;conv=>whnf
 cases hq with
 |stop h hne=>
  refine rI (q:=0) (DK s n d h hs hne) ?_;conv=>whnf
  exact fY rfl rfl (.refl _) (fun _=>rfl) t.cl
 |bad h hc=>
  refine rI (q:=0) (sR s n d h hs) ?_;conv=>whnf
  refine lP (q:=0) hc rfl (by first|exact wR _|exact wC (bI _ _) (wR _)|exact wC (bI _ _) (wC (bI _ _) (wR _))|exact wC (cY _) (wC (bI _ _) (wR _))) rfl rfl (by first|exact fun _=>rfl|exact cA|exact cB fun _=>rfl) (by first|exact fun _=>rfl|exact cA|exact cB fun _=>rfl) (by first|exact fun _=>rfl|exact cA|exact cB fun _=>rfl) ?_;conv=>whnf
  exact iN rfl
 |step h hc hr=>
  rename_i j m n' d' ts;refine rI (q:=0) (sR s n d h hs) ?_;conv=>whnf
  refine aW (q:=0) hc rfl (wR _) rfl rfl (fun _=>rfl) (fun _=>rfl) (fun _=>rfl) m.cl ?_;conv=>whnf
  exact⟨j,Nat.lt_succ_self j,(j,.pair false t m,n',d'),hr,rfl,⟨rfl,rfl,rfl,trivial⟩,rfl⟩
theorem XB [MaxL] (s:List UInt8) (lv n d:Nat) (hc:SC Tryz.prog 294 [.ptr 0 0,.i .i64 lv] [rd s n d] (.panic gK) [.dead]):
  Ct Tryz.prog 257 [.ptr 0 0,.i .i64 lv] (rd s n d) gK none:=by
 refine gQ pU mixed Tryz.func257 rfl (bL rfl) (fun _=>rfl) ?hh ?_
 case hh=>rfl
 conv=>whnf
 refine lP (q:=0) hc rfl (by first|exact wR _|exact wC (bI _ _) (wR _)|exact wC (bI _ _) (wC (bI _ _) (wR _))|exact wC (cY _) (wC (bI _ _) (wR _))) rfl rfl (by first|exact fun _=>rfl|exact cA|exact cB fun _=>rfl) (by first|exact fun _=>rfl|exact cA|exact cB fun _=>rfl) (by first|exact fun _=>rfl|exact cA|exact cB fun _=>rfl) ?_;conv=>whnf
 exact iN rfl
theorem a2H [MaxL] (s:List UInt8) (hs:s.length<bB) (lv n d n1 d1 j:Nat) (t:Tree) (fin:Option (Tree×Nat×Nat))
  (hc:SC Tryz.prog 317 [.ptr 0 0,.i .i64 lv] [rd s n d] (.val t.gv) [rd s n1 d1]) (hl:Lp s 317 mZ true lv j t n1 d1 fin):
  Ct Tryz.prog 294 [.ptr 0 0,.i .i64 lv] (rd s n d) gK (rM s fin):=by
 refine gQ pU mixed Tryz.func294 rfl (bL rfl) (fun _=>rfl) ?hh ?_
 case hh=>exact mV s fin
 conv=>whnf
 refine aW (q:=0) hc rfl (wR _) rfl rfl (fun _=>rfl) (fun _=>rfl) (fun _=>rfl) t.cl ?_;conv=>whnf
 refine cW (fun q:Nat×Tree×Nat×Nat=>Lp s 317 mZ true lv q.1 q.2.1 q.2.2.1 q.2.2.2 fin)
  (fun q=>[(0,.ptr 0 0),(1,.i .i64 lv),(5,q.2.1.gv)]) (fun q=>⟨[rd s q.2.2.1 q.2.2.2],0,[]⟩) (fun q=>q.1) (j,t,n1,d1) hl ⟨rfl,rfl,rfl,trivial⟩ rfl (fun q φ0 hq=>?_)
 obtain⟨j,t,n,d⟩:=q;replace hq:Lp s 317 mZ true lv j t n d fin:=hq;conv=>whnf
 cases hq with
 |stop h hne=>
  refine rI (q:=0) (DK s n d h hs hne) ?_;conv=>whnf
  exact fY rfl rfl (.refl _) (fun _=>rfl) t.cl
 |bad h hc=>
  refine rI (q:=0) (sR s n d h hs) ?_;conv=>whnf
  refine lP (q:=0) hc rfl (by first|exact wR _|exact wC (bI _ _) (wR _)|exact wC (bI _ _) (wC (bI _ _) (wR _))|exact wC (cY _) (wC (bI _ _) (wR _))) rfl rfl (by first|exact fun _=>rfl|exact cA|exact cB fun _=>rfl) (by first|exact fun _=>rfl|exact cA|exact cB fun _=>rfl) (by first|exact fun _=>rfl|exact cA|exact cB fun _=>rfl) ?_;conv=>whnf
  exact iN rfl
 |step h hc hr=>
  rename_i j m n' d' ts;refine rI (q:=0) (sR s n d h hs) ?_;conv=>whnf
  refine aW (q:=0) hc rfl (wR _) rfl rfl (fun _=>rfl) (fun _=>rfl) (fun _=>rfl) m.cl ?_;conv=>whnf
  exact⟨j,Nat.lt_succ_self j,(j,.pair true t m,n',d'),hr,rfl,⟨rfl,rfl,rfl,trivial⟩,rfl⟩
theorem TT [MaxL] (s:List UInt8) (lv n d:Nat) (hc:SC Tryz.prog 317 [.ptr 0 0,.i .i64 lv] [rd s n d] (.panic gK) [.dead]):
  Ct Tryz.prog 294 [.ptr 0 0,.i .i64 lv] (rd s n d) gK none:=by
 refine gQ pU mixed Tryz.func294 rfl (bL rfl) (fun _=>rfl) ?hh ?_
 case hh=>rfl
 conv=>whnf
 refine lP (q:=0) hc rfl (by first|exact wR _|exact wC (bI _ _) (wR _)|exact wC (bI _ _) (wC (bI _ _) (wR _))|exact wC (cY _) (wC (bI _ _) (wR _))) rfl rfl (by first|exact fun _=>rfl|exact cA|exact cB fun _=>rfl) (by first|exact fun _=>rfl|exact cA|exact cB fun _=>rfl) (by first|exact fun _=>rfl|exact cA|exact cB fun _=>rfl) ?_;conv=>whnf
 exact iN rfl
theorem DH [MaxL] {lv:Nat} (h:lv<1000000):IntKind.i64.wrap ((lv:Int)+1)=((lv+1:Nat):Int):=bU (by omega) (by omega)
theorem IQ [MaxL] {d lv:Nat} (h:lv<1000000):[GV.i .i64 ((max d (lv+1):Nat):Int)]=(GV.i .i64 (if(d:Int)<IntKind.i64.wrap ((lv:Int)+1) then IntKind.i64.wrap ((lv:Int)+1) else(d:Int))).cells:=by
 rw[DH h];show[_]=[_];congr 2;split<;>omega
theorem XC [MaxL] (s:List UInt8) (hs:s.length<bB) (lv n d:Nat) {ts:List (List UInt8)} (h:At s n ts) (hne:ts.headD []≠jX) (fin:Option (Tree×Nat×Nat))
  (hc:Ct Tryz.prog 327 [.ptr 0 0,.i .i64 lv] (rd s (nb s n) d) gK (rM s fin)):
  Ct Tryz.prog 317 [.ptr 0 0,.i .i64 lv] (rd s n d) gK (rM s fin):=by
 refine gQ pU mixed Tryz.func317 rfl (bL rfl) (fun _=>rfl) ?hh ?_
 case hh=>exact mV s fin
 conv=>whnf
 refine rI (q:=0) (DK s n d h hs hne) ?_;conv=>whnf
 cases fin with
 |none=>
  replace hc:SC Tryz.prog 327 [.ptr 0 0,.i .i64 lv] [rd s (nb s n) d] (.panic gK) [.dead]:=hc;refine lP (q:=0) hc rfl (by first|exact wR _|exact wC (bI _ _) (wR _)|exact wC (bI _ _) (wC (bI _ _) (wR _))|exact wC (cY _) (wC (bI _ _) (wR _))) rfl rfl (by first|exact fun _=>rfl|exact cA|exact cB fun _=>rfl) (by first|exact fun _=>rfl|exact cA|exact cB fun _=>rfl) (by first|exact fun _=>rfl|exact cA|exact cB fun _=>rfl) ?_;conv=>whnf
  exact iN rfl
 |some p=>
  replace hc:SC Tryz.prog 327 [.ptr 0 0,.i .i64 lv] [rd s (nb s n) d] (.val p.1.gv) [rd s p.2.1 p.2.2]:=hc;refine aW (q:=0) hc rfl (wR _) rfl rfl (fun _=>rfl) (fun _=>rfl) (fun _=>rfl) (Tree.cl _) ?_;conv=>whnf
  exact fY rfl rfl (.refl _) (fun _=>rfl) (Tree.cl _)
theorem TO [MaxL] (s:List UInt8) (hs:s.length<bB) (lv n d:Nat) (hlv:lv<1000000) {ts:List (List UInt8)} (h:At s n (jX::ts)) (fin:Option (Tree×Nat×Nat))
  (hc:Ct Tryz.prog 327 [.ptr 0 0,.i .i64 (lv+1:Nat)] (rd s (nb s n+3) (max d (lv+1):Nat)) gK (rM s fin)):
  Ct Tryz.prog 317 [.ptr 0 0,.i .i64 lv] (rd s n d) gK (rM s (fin.map fun p=>(.no p.1,p.2))):=by
 refine gQ pU mixed Tryz.func317 rfl (bL rfl) (fun _=>rfl) ?hh ?_
 case hh=>exact mV s _
 conv=>whnf
 refine rI (q:=0) (sR s n d h hs) ?_;conv=>whnf
 refine⟨[.i .i64 (max d (lv+1):Nat)],⟨IQ hlv,zL _,rfl,bL rfl⟩,?_⟩;conv=>whnf
 have e:GV.i .i64 (IntKind.i64.wrap ((lv:Int)+1))=.i .i64 ((lv+1:Nat):Int):=by rw[DH hlv]
 cases fin with
 |none=>
  replace hc:SC Tryz.prog 327 [.ptr 0 0,.i .i64 (lv+1:Nat)] [rd s (nb s n+3) (max d (lv+1):Nat)] (.panic gK) [.dead]:=hc;rw[<-e] at hc;refine lP (q:=0) hc rfl (wR _) rfl rfl (fun _=>rfl) (fun _=>rfl) (fun _=>rfl) ?_;conv=>whnf
  exact iN rfl
 |some p=>
  replace hc:SC Tryz.prog 327 [.ptr 0 0,.i .i64 (lv+1:Nat)] [rd s (nb s n+3) (max d (lv+1):Nat)] (.val p.1.gv) [rd s p.2.1 p.2.2]:=hc;rw[<-e] at hc;refine aW (q:=0) hc rfl (wR _) rfl rfl (fun _=>rfl) (fun _=>rfl) (fun _=>rfl) (Tree.cl _) ?_;conv=>whnf
  exact fY rfl rfl (.refl _) (fun _=>rfl) (Tree.cl (.no p.1))
