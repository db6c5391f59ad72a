/- Part of HostValues. -/
import Derived.Test.YtmnjcddcihdlfaaGreatDoorV4
import Derived.Lib.AppendStr
set_option linter.all false
namespace Go.Proofs.YtmnjcddcihdlfaaGreatDoor
open Go.RowKit
variable [Globals]
section
variable {P : Program} {C : Cx} {σ : GS} {w0 w : World}
theorem uP (t ty e:TypeId) (i:TypeInfo) (ht:P.underlying t=some (.slice e)) (hi:P.info? e=some i)
  (g sLen sCap:Nat) (T:TypeId) (cur:Array Value) (hg:w.heap[g]?=some (.cells cur T (0,0)))
  (a:Addr) (m c:Nat) (news:List Value) (hl:news.length=m*i.size) (hnews:∀(j:Nat) u,news[j]?=some u->w.cell? (a.add j)=some u) (h1:∀u∈news,u.oneCell'=true)
  (hroom:sLen+m<=sCap) (hfit:sLen*i.size+news.length<=cur.size):
  (Builtin.append_ #[t,t] ty #[.slice (some ⟨g,0,none⟩) sLen sCap,.slice (some a) m c]).run P w=
   .ok (.slice (some ⟨g,0,none⟩) (sLen+m) sCap) (w.setRow g (cur.toList.take (sLen*i.size)++news++cur.toList.drop (sLen*i.size+news.length)).toArray):=by
 have hf:=run_firstCells_some (P:=P) w i.size m a m c news hl hnews;have hst:=run_storeCells_at P g (sLen*i.size) T news 0 cur w hg (by simpa using hfit) h1;simp only[Nat.add_zero] at hst;simp[Builtin.append_,run_underlying ht,sizeOf,typeInfo,hi,Builtin.lenOf,hroom,hf,Addr.add_lit,hst]
theorem n6 (t ty e:TypeId) (ht:P.underlying t=some (.slice e)) {size:Nat} (hs:dR P e=some size) (a b:Option Addr) (n c c':Nat) (hn:n<=c):
  (Builtin.append_ #[t,t] ty #[.slice a n c,.slice b 0 c']).run P w=.ok (.slice a n c) w:=by
 have hf:(Builtin.firstCells size 0 (.slice b 0 c')).run P w=.ok #[] w:=by cases b<;>simp[Builtin.firstCells,loadCells,loadCellsFrom]
 cases a<;>simp[Builtin.append_,run_underlying ht,dX hs,Builtin.lenOf,hn,hf,storeCells]
theorem D0 (t ty e:TypeId) (i:TypeInfo) (z:Value) (ht:P.underlying t=some (.slice e)) (hi:P.info? e=some i) (hz:i.zero=some z) (hzs:z.cells.size=i.size)
  (a:Option Addr) (n c:Nat) (olds:List Value) (hlo:olds.length=n*i.size) (ha:(a=none/\c=0/\n=0)∨∃b,a=some b/\∀(j:Nat) u,olds[j]?=some u->w.cell? (b.add j)=some u)
  (s:Addr) (m cs:Nat) (news:List Value) (hl:news.length=m*i.size) (hnews:∀(j:Nat) u,news[j]?=some u->w.cell? (s.add j)=some u)
  (hm:0<m) (hg:c<n+m) (hlim:n+m<=D7) (hb:i.bytes<=4096):
  ∃(cap:Nat) (arr:Array Value),(Builtin.append_ #[t,t] ty #[.slice a n c,.slice (some s) m cs]).run P w=.ok (.slice (some ⟨w.heap.size,0,none⟩) (n+m) cap) (w.drew.alloc (.cells arr e))/\
   n+m<=cap/\arr.size=cap*i.size/\∃rest,arr.toList=olds++news++rest:=by
 have hbytes:(n+m)*i.bytes<=4294967296*4096:=Nat.mul_le_mul hlim hb;have hge:=grownCap_ge w (n+m) c e;rcases ha with⟨rfl,rfl,rfl⟩|⟨b,rfl,hold⟩
 ·have ho:olds=[]:=aI (by simpa using hlo);subst ho;have hr:=run_append_nil (P:=P) w t ty e i z ht hi hz s m cs news hl hnews hm (by simp only[D7] at hlim;omega) (by rw[bM] at hbytes;omega);rw[bM] at hge⊢;refine⟨_,_,hr,hge,?_,_,by simp;rfl⟩;rw[Array.size_append,size_zeroCells,hzs,List.size_toArray,hl,<-Nat.add_mul];congr 1;omega
 ·have hr:=run_append_grow (P:=P) w t ty e i z ht hi hz b n c olds hlo hold s m cs news hl hnews hg (by simp only[D7] at hlim;omega) (growslice_fits hg (by omega));refine⟨_,_,hr,hge,?_,_,by simp;rfl⟩;rw[Array.size_append,Array.size_append,size_zeroCells,hzs,List.size_toArray,List.size_toArray,hl,hlo,<-Nat.add_mul,<-Nat.add_mul];congr 1;omega
theorem xH {gs:List GV} {us:List Value} (h:VRs C gs us) (hc:∀g∈gs,g.isCell=true):∀u∈us,u.oneCell'=true:=fun u hu=>by
 obtain⟨j,hj⟩:=List.mem_iff_getElem?.1 hu;have hjl:j<gs.length:=by rw[<-h.1];exact(List.getElem?_eq_some_iff.1 hj).1
 exact(h.2 j _ u (gL hjl) hj).isCell (hc _ (dO hjl))
structure Src (P:Program) (t u ty e:TypeId) (i:TypeInfo) (w:World) (vx:Value) (m:Nat) (news:List Value):Prop where
 room:∀(g n c:Nat) (cur:Array Value),w.heap[g]?=some (.cells cur e (0,0))->n+m<=c->n*i.size+news.length<=cur.size->
  (Builtin.append_ #[t,u] ty #[.slice (some ⟨g,0,none⟩) n c,vx]).run P w=.ok (.slice (some ⟨g,0,none⟩) (n+m) c) (w.setRow g (cur.toList.take (n*i.size)++news++cur.toList.drop (n*i.size+news.length)).toArray)
 new:∀(a:Option Addr) (n c:Nat) (olds:List Value),olds.length=n*i.size->((a=none/\c=0/\n=0)∨∃b,a=some b/\∀(j:Nat) u,olds[j]?=some u->w.cell? (b.add j)=some u)->
  c<n+m->n+m<=D7->
  ∃(cap:Nat) (arr:Array Value),(Builtin.append_ #[t,u] ty #[.slice a n c,vx]).run P w=.ok (.slice (some ⟨w.heap.size,0,none⟩) (n+m) cap) (w.drew.alloc (.cells arr e))/\
   n+m<=cap/\arr.size=cap*i.size/\∃rest,arr.toList=olds++news++rest
theorem xO (t u ty e:TypeId) (i:TypeInfo) (z:Value) (ht:P.underlying t=some (.slice e)) (hu:P.underlying u=some .string) (hi:P.info? e=some i) (hz:i.zero=some z) (hzs:z.cells.size=i.size) (hs1:i.size=1)
  (a:Option Addr) (n c:Nat) (olds:List Value) (hlo:olds.length=n*i.size) (ha:(a=none/\c=0/\n=0)∨∃b,a=some b/\∀(j:Nat) u,olds[j]?=some u->w.cell? (b.add j)=some u)
  (s:ByteArray) (hm:0<s.size) (hg:c<n+s.size) (hlim:n+s.size<=D7) (hb:i.bytes<=4096):
  ∃(cap:Nat) (arr:Array Value),(Builtin.append_ #[t,u] ty #[.slice a n c,.string s]).run P w=.ok (.slice (some ⟨w.heap.size,0,none⟩) (n+s.size) cap) (w.drew.alloc (.cells arr e))/\
   n+s.size<=cap/\arr.size=cap*i.size/\∃rest,arr.toList=olds++Lib.strCells s++rest:=by
 have hbytes:(n+s.size)*i.bytes<=4294967296*4096:=Nat.mul_le_mul hlim hb;have hge:=grownCap_ge w (n+s.size) c e;have hsl:(Lib.strCells s).length=s.size:=Lib.strCells_length s;rcases ha with⟨rfl,rfl,rfl⟩|⟨b,rfl,hold⟩
 ·have ho:olds=[]:=aI (by simpa using hlo);subst ho;have hr:=run_append_nil_string (P:=P) w t u ty e i z ht hu hi hz s hm (by simp only[D7] at hlim;omega) (by rw[bM] at hbytes;omega);rw[bM] at hge⊢;refine⟨_,_,hr,hge,?_,(Builtin.zeroCells z.cells (grownCap w s.size 0 e - s.size)).toList,by simp[Lib.strCells]⟩;rw[Array.size_append,size_zeroCells,hzs,Array.size_map,hs1,Nat.mul_one,Nat.mul_one];show s.size+_=_;omega
 ·have hr:=Lib.run_append_grow_string (P:=P) (w:=w) t u ty e i z ht hu hi hz b n c olds hlo hold s hg (by simp only[D7] at hlim;omega) (growslice_fits hg (by omega));refine⟨_,_,hr,hge,?_,_,by simp;rfl⟩;rw[Array.size_append,Array.size_append,size_zeroCells,hzs,List.size_toArray,List.size_toArray,hsl,hlo,hs1,Nat.mul_one,Nat.mul_one,Nat.mul_one];omega
theorem qS (t u ty e:TypeId) (ht:P.underlying t=some (.slice e)) (hu:P.underlying u=some .string) {size:Nat} (hs:dR P e=some size) (a:Option Addr) (n c:Nat) (hn:n<=c):
  (Builtin.append_ #[t,u] ty #[.slice a n c,.string ⟨([]:List UInt8).toArray⟩]).run P w=.ok (.slice a n c) w:=by
 have e0:(ByteArray.mk ([]:List UInt8).toArray).size=0:=rfl;have hf:(Builtin.firstCells size 0 (.string ⟨([]:List UInt8).toArray⟩)).run P w=.ok #[] w:=by
  simp[Builtin.firstCells]
 cases a<;>simp[Builtin.append_,run_underlying ht,run_underlying hu,dX hs,Builtin.lenOf,e0,hn,hf,storeCells]
theorem rN {e:TypeId} {size:Nat}:∀(n:Nat) (cs ys:List GV),t7 P e size n cs=some ys->ys.length=n
 |0,cs,ys,h=>by cases h;rfl
 |n+1,cs,ys,h=>by
  simp only[t7] at h;split at h
  ·rename_i y ys' h1 h2;cases h;rw[aM,rN n _ _ h2]
  ·cases h
theorem t6 {e:TypeId} {size:Nat}:∀(n:Nat) (cs ys:List GV),t7 P e size n cs=some ys->flat ys=cs.take (n*size)
 |0,cs,ys,h=>by cases h;simp[flat]
 |n+1,cs,ys,h=>by
  simp only[t7] at h;split at h
  ·rename_i y ys' h1 h2;cases h;rw[k7,t6 n _ _ h2,Nat.add_mul,Nat.one_mul,Nat.add_comm (n*size) size,List.take_add];congr 1;split at h1
   ·split at h1
    ·cases h1;rfl
    ·cases h1
   ·split at h1
    ·rename_i c cs';split at h1
     ·rename_i hc;cases h1;simp only[aF] at hc;rw[cI hc.2];have:y.cells=[y]:=by cases y<;>first|rfl|(simp[GV.isCell] at hc;done)
      rw[this];rfl
     ·cases h1
    ·cases h1
   ·cases h1
  ·cases h
theorem S5 {t u ty e:TypeId} {x:GV} {vx:Value} (hx:VR C x vx) (hg:zN P t u x σ=some []) (he:iP P t=some e) {size:Nat} (hsz:dR P e=some size)
  (a:Option Addr) (n c:Nat) (hc:n<=c):(Builtin.append_ #[t,u] ty #[.slice a n c,vx]).run P w=.ok (.slice a n c) w:=by
 have hund:=iV he;unfold zN at hg;split at hg
 ·split at hg
  ·rename_i htu;subst htu;split at hg
   ·split at hg
    ·have hn0:=rN _ _ _ hg;cases hx;rw[show _=0 from hn0.symm];exact n6 t ty e hund hsz a _ n c _ hc
    ·cases hg
   ·cases hg
  ·cases hg
 ·split at hg
  ·rename_i htu;cases hg;subst htu;cases hx with
   |sl esz2 b2 off2 us2 hn2 hc2 ha2 hw2 hxx2 hv2 ht2=>
   rename_i a2 n2 c2;have hn0:n2=0:=by simpa using hn2
   subst hn0;exact n6 t ty e hund hsz a a2 n c c2 hc
  ·cases hg
 ·rename_i l;rw[he] at hg;simp only at hg;split at hg
  ·rename_i hc1;simp only[aF,aH] at hc1;have hl:l=[]:=by simpa using hg
   subst hl;cases hx;exact qS t u ty e hund (jH hc1.2) hsz a n c hc
  ·cases hg
 ·split at hg
  ·rename_i htu;subst htu;cases hx;exact n6 t ty e hund hsz a _ n c _ hc
  ·cases hg
 ·cases hg
theorem S6 {t u ty e:TypeId} {x:GV} {vx:Value} {ys:List GV} (h:Rel C σ w0 w) (hx:VR C x vx) (hg:zN P t u x σ=some ys) (he:iP P t=some e) {i:TypeInfo} (hi:P.info? e=some i) {z:Value} (hz:i.zero=some z) (hzs:z.cells.size=i.size) (hiby:i.bytes<=4096):
  ys≠[]->(∀y∈ys,oE i.size y=true)->∃news,VRs C (flat ys) news/\Src P t u ty e i w vx ys.length news:=by
 have hund:=iV he;have hsz:dR P e=some i.size:=by simp[dR,hi]
 unfold zN at hg;split at hg
 ·rename_i r2 off2 sz2 n2 c2;split at hg
  ·rename_i htu;subst htu;split at hg
   ·rename_i e' T cs he' hobj;rw[he] at he';cases he';split at hg
    ·rename_i hsz2;rw[hsz] at hsz2;have hsz2:i.size=sz2+1:=aV hsz2;have hlen:=rN _ _ _ hg;have hfl:=t6 _ _ _ hg;cases hx with
     |rs hbk hc2 hp2 hx2=>
     rename_i b2 c2';obtain⟨_,b',vs,hb',hheap,hbv⟩:=h.obj r2 _ hobj;rw[hbk] at hb';cases hb';refine fun hyne hoky=>?_;have hmpos:0<ys.length:=List.length_pos_iff.2 hyne;have hwy:∀y∈ys,y.cells.length=i.size:=fun y hy=>kI (hoky y hy);have hnv:VRs C (flat ys) (((vs.toList.take cs.length).drop off2).take (n2*(sz2+1))):=by
      rw[hfl];exact(hbv.1.drop off2).take _
     generalize hnews:((vs.toList.take cs.length).drop off2).take (n2*(sz2+1))=news at hnv;have hnl:news.length=n2*i.size:=by rw[hnv.1,jV ys hwy,hlen]
     have hn1:∀u∈news,u.oneCell'=true:=xH hnv (fun g hg=>by
      simp only[flat,List.mem_flatMap] at hg;obtain⟨y,hy,hgy⟩:=hg;exact u4 (hoky y hy) g hgy)
     have hnc:∀(j:Nat) u,news[j]?=some u->w.cell? ((⟨b2,off2,none⟩:Addr).add j)=some u:=fun j u hj=>by
      rw[iM,cell_of_row w b2 _ vs T (0,0) hheap];rw[<-hnews,cH] at hj;split at hj
      ·rw[eP,cH] at hj;split at hj
       ·rw[<-bJ];exact hj
       ·cases hj
      ·cases hj
     refine⟨news,hnv,fun g n c cur hg hroom hfit=>?_,fun a n c olds hol haa hlt hlim=>?_⟩
     ·rw[hlen] at hroom⊢;exact uP (P:=P) (w:=w) t ty e i hund hi g n c e cur hg ⟨b2,off2,none⟩ n2 c2' news hnl hnc hn1 hroom hfit
     ·rw[hlen] at hlt hlim⊢;exact D0 (P:=P) (w:=w) t ty e i z hund hi hz hzs a n c olds hol haa ⟨b2,off2,none⟩ n2 c2' news hnl hnc (by omega) hlt hlim hiby
    ·cases hg
   ·cases hg
  ·cases hg
 ·rename_i k2 ys0;split at hg
  ·rename_i htu;cases hg;subst htu;cases hx with
   |sl esz2 b2 off2 us2 hn2 hc2 ha2 hw2 hxx2 hv2 ht2=>
   rename_i a2 n2 c2;refine fun hyne hoky=>?_
   ·have hmpos:0<ys.length:=List.length_pos_iff.2 hyne;have hwy:∀y∈ys,y.cells.length=i.size:=fun y hy=>kI (hoky y hy);have ha2':a2=some ⟨b2,off2,none⟩:=by
     rcases ha2 with⟨_,h2⟩|h2|h2
     ·omega
     ·exact h2
     ·omega
    obtain⟨y0,hy0⟩:=List.exists_mem_of_ne_nil ys hyne;obtain⟨news,hnv,hnf⟩:=yI (C:=C) (fun o u=>C.fx b2 o u) ys off2 hw2 (fun i x j g h1 h2=>⟨_,hxx2 i x j g h1 h2,hv2 i x j g h1 h2⟩);have hnl:news.length=n2*i.size:=by rw[hnv.1,jV ys hwy,hn2]
    have hn1:∀u∈news,u.oneCell'=true:=xH hnv (fun g hg=>by
     simp only[flat,List.mem_flatMap] at hg;obtain⟨y,hy,hgy⟩:=hg;exact u4 (hoky y hy) g hgy)
    subst ha2';have hnc:∀(j:Nat) u,news[j]?=some u->w.cell? ((⟨b2,off2,none⟩:Addr).add j)=some u:=fun j u hj=>by rw[iM];exact h.fxc _ _ _ (hnf j u hj)
    refine⟨news,hnv,fun g n c cur hg hroom hfit=>?_,fun a n c olds hol haa hlt hlim=>?_⟩
    ·rw[<-hn2] at hroom⊢;exact uP (P:=P) (w:=w) t ty e i hund hi g n c e cur hg ⟨b2,off2,none⟩ n2 c2 news hnl hnc hn1 hroom hfit
    ·rw[<-hn2] at hlt hlim⊢;exact D0 (P:=P) (w:=w) t ty e i z hund hi hz hzs a n c olds hol haa ⟨b2,off2,none⟩ n2 c2 news hnl hnc (by omega) hlt hlim hiby
  ·cases hg
 ·rename_i l;rw[he] at hg;simp only at hg;split at hg
  ·rename_i hc;simp only[aF,aH] at hc;cases hg;cases hx;have hu:=jH hc.2;refine fun hyne hoky=>?_
   ·have hlne:l≠[]:=fun e0=>hyne (by rw[e0];rfl);obtain⟨b0,l0,rfl⟩:=List.exists_cons_of_ne_nil hlne;have hs1:i.size=1:=by
     have:=kI (hoky (.i .u8 b0.toNat) (by simp));exact this.symm
    let s:ByteArray:=⟨(b0::l0).toArray⟩;have hss:s.size=(b0::l0).length:=by simp[s,ByteArray.size]
    have hsc:Lib.strCells s=(b0::l0).map fun b=>Value.int .u8 b.toNat:=by simp[Lib.strCells,s]
    have hfl:∀l:List UInt8,flat (l.map fun b=>GV.i .u8 b.toNat)=l.map fun b=>GV.i .u8 b.toNat:=fun l=>by
     induction l with
     |nil=>rfl
     |cons b l ih=>rw[bY,k7,ih];rfl
    refine⟨Lib.strCells s,?_,fun g n c cur hg hroom hfit=>?_,fun a n c olds hol haa hlt hlim=>?_⟩
    ·rw[hfl,hsc];refine⟨by simp,fun j g u h1 h2=>?_⟩;rw[aG,aC] at h1 h2;obtain⟨q,hq,rfl⟩:=h1;obtain⟨q',hq',rfl⟩:=h2;rw[hq] at hq';cases hq';exact .i _ _
    ·rw[aS,<-hss] at hroom⊢;rw[Lib.strCells_length] at hfit⊢;rw[hs1,Nat.mul_one] at hfit⊢;exact Lib.run_append_room_string (P:=P) (w:=w) t u ty e i hund hu hi hs1 g n c cur hg s hroom hfit
    ·rw[aS,<-hss] at hlt hlim⊢;exact xO (P:=P) (w:=w) t u ty e i z hund hu hi hz hzs hs1 a n c olds hol haa s (by rw[hss];simp) hlt hlim hiby
  ·cases hg
 ·split at hg
  ·cases hg;exact fun h=>absurd rfl h
  ·cases hg
 ·cases hg
theorem DQ {t u ty:TypeId} {s x g:GV} {vs vx:Value} {σ':GS} (h:Rel C σ w0 w) (hs:VR C s vs) (hx:VR C x vx) (hg:nI P t u s x σ=some (g,σ')):
  Runs P C w0 w σ' g (Builtin.append_ #[t,u] ty #[vs,vx]):=by
 unfold nI at hg;split at hg
 ·rename_i k xs ys hsrc;cases hs with
  |sl esz b off us hn hc ha hw hxx hv ht=>
  rename_i a n c;split at hg
  ·rename_i e he;split at hg
   ·rename_i size bytes z hsz hby hzz;split at hg
    ·rename_i hcond;simp only[aF,aH,bU] at hcond;obtain⟨hzk,hzl⟩:=hcond;have hund:=iV he;split at hg
     ·rename_i hemp;have hye:ys=[]:=by simpa using hemp
      subst hye;cases hg;exact .pure h (.sl esz b off us hn hc ha hw hxx hv ht) (S5 hx hsrc he hsz a n c hc)
     ·rename_i hemp;have hyne:ys≠[]:=by simpa using hemp
      split at hg
      ·rename_i hc1;simp only[aF,aH,bU,aZ] at hc1;obtain⟨⟨⟨⟨hpos,hoky⟩,hwx⟩,hlim⟩,hbytes⟩:=hc1;obtain⟨i,hi,hisz⟩:=tT hsz;have hiby:i.bytes<=4096:=by
        unfold m8 at hby;rw[hi] at hby;simp at hby;omega
       unfold iE at hzz;rw[hi,bC] at hzz;cases hz:i.zero with
       |none=>rw[hz] at hzz;cases hzz
       |some zv=>
       rw[hz] at hzz;have hzz:kD zv=z:=by simpa using hzz
       subst hzz;have hzs:zv.cells.size=i.size:=by rw[<-b8,((dK C zv).cells hzk).1,hisz];exact hzl
       have hmpos:0<ys.length:=List.length_pos_iff.2 hyne;have hwy:∀y∈ys,y.cells.length=size:=fun y hy=>kI (hoky y hy);obtain⟨news,hnv,hS⟩:=S6 (ty:=ty) h hx hsrc he hi hz hzs hiby hyne (by rw[hisz];exact hoky);obtain⟨n2,hn2⟩:∃n2,n2=ys.length:=⟨_,rfl⟩;rw[<-hn2] at hS;obtain⟨esz2,hesz2⟩:∃q,q=size:=⟨_,rfl⟩;subst hesz2;have hnl:news.length=n2*i.size:=by rw[hnv.1,jV ys hwy,hisz,hn2]
       have hwx':∀x∈xs,x.cells.length=esz2:=hwx;have heszx:xs≠[]->esz=esz2:=fun hne=>by
        obtain⟨x0,hx0⟩:=List.exists_mem_of_ne_nil xs hne;rw[<-hw x0 hx0];exact hwx' x0 hx0
       obtain⟨olds,hov,hof⟩:=yI (C:=C) (fun o u=>C.fx b o u) xs off hwx' (fun i x j g h1 h2=>by
        have hne:xs≠[]:=fun e0=>by subst e0;simp at h1
        have hxq:=hxx i x j g h1 h2;have hvq:=hv i x j g h1 h2;rw[heszx hne] at hxq hvq;exact⟨_,hxq,hvq⟩)
       have hol:olds.length=n*i.size:=by rw[hov.1,jV xs hwx',hisz,hn]
       have hwall:∀x∈xs++ys,x.cells.length=esz2:=fun x hx=>by
        rcases List.mem_append.1 hx with h1|h1
        ·exact hwx' x h1
        ·exact hwy x h1
       have hall:VRs C (flat (xs++ys)) (olds++news):=by rw[KQ];exact hov.append hnv
       have hlim':n+n2<=D7:=by rw[hn,hn2];exact hlim
       have hxy:(xs++ys).length=n+n2:=by rw[aX,hn,hn2]
       have haa:(a=none/\c=0/\n=0)∨∃q,a=some q/\∀(j:Nat) u,olds[j]?=some u->w.cell? (q.add j)=some u:=by
        rcases ha with⟨h1,h2⟩|h1|h1
        ·exact .inl ⟨h1,h2,by omega⟩
        ·exact .inr ⟨_,h1,fun j u hj=>by rw[iM];exact h.fxc _ _ _ (hof j u hj)⟩
        ·cases ha0:a with
         |none=>exact .inl ⟨rfl,h1,by omega⟩
         |some q=>exact .inr ⟨q,rfl,fun j u hj=>(by
          have h8:olds.length=0:=by rw[hol,show n=0 by omega,Nat.zero_mul]
          rw[b6 (by omega)] at hj;cases hj)⟩
       have inNew:∀(D:Cx) (k':Tok) (arr:Array Value) (cap:Nat),C.le D->(∃rest,arr.toList=olds++news++rest)->n+n2<=cap->
         (∀o v,o<(n+n2)*esz2->arr[o]?=some v->D.fx w.heap.size o v)->TokOk D k' (n+n2) cap esz2 (some ⟨w.heap.size,0,none⟩)->
         VR D (.sl k' (xs++ys)) (.slice (some ⟨w.heap.size,0,none⟩) (n+n2) cap):=by
        intro D k' arr cap hl hrest hcap hfx htok;obtain⟨rest,hrest⟩:=hrest;rw[<-hxy] at hcap hfx htok⊢;refine ID hwall (hall.mono hl) (fun j u hj=>?_) hcap htok;have hj1:j<(olds++news).length:=(List.getElem?_eq_some_iff.1 hj).1;rw[bM];refine hfx j u ?_ ?_
        ·rw[hall.1,jV _ hwall] at hj1;exact hj1
        ·rw[<-bJ,hrest,aU hj1];exact hj
       have hesz2i:i.size=esz2:=hisz;split at hg
       ·
        split at hg
        ·
         rename_i hwr;cases hg;have hcn:c=n:=by have:c=xs.length:=ht.1;omega
         obtain⟨cap,arr,hrun,hcap,hasz,rest,hrest⟩:=hS.new a n c olds hol haa (by omega) hlim';have hpre:VRs C ((xs++ys).flatMap GV.cells) (arr.toList.take ((xs++ys).flatMap GV.cells).length):=by
          have e1:((xs++ys).flatMap GV.cells).length=(olds++news).length:=hall.1.symm;rw[e1,hrest,List.take_left];exact hall
         obtain⟨hl,hrel⟩:=h.drew.newBoxP _ e (h.drew.newAt _) arr ⟨hpre,fun hf=>by rw[hwr] at hf;cases hf⟩;exact⟨_,_,_,hl,hrel,.rs (aA rfl) (show xs.length+ys.length<=cap by omega) hpos (.inl rfl),by rw[show xs.length+ys.length=n+n2 by omega];exact hrun⟩
        cases hg;have hcn:c=n:=by have:c=xs.length:=ht.1;omega
        obtain⟨cap,arr,hrun,hcap,hasz,hrest⟩:=hS.new a n c olds hol haa (by omega) hlim';obtain⟨D,hl,hown,hfx,hrel⟩:=h.drew.newRow (n+n2) esz2 e (h.drew.newAt _) arr hpos (by rw[hasz,hesz2i];exact Nat.mul_le_mul_right _ hcap);have hsz':w.drew.heap.size=w.heap.size:=rfl;rw[hsz'] at hown hfx;refine⟨D,_,_,hl,?_,inNew D (.own σ.objs.length) arr cap hl hrest hcap hfx ⟨_,hown,rL _,fun _=>rfl,fun _=>.inr ⟨_,_,rfl,rfl,?_⟩⟩,hrun⟩
        ·rw[show xs.length+ys.length=n+n2 by omega];exact hrel
        ·show cap*esz2<=arr.size;rw[hasz,hesz2i];exact rL _
       ·
        rename_i r;split at hg
        ·rename_i n' esz' ty' hobj;split at hg
         ·
          rename_i hwx;simp only[aF,bU,List.isEmpty_iff] at hwx;obtain⟨⟨hwr,he0,hn0⟩,hx0⟩:=hwx;cases hg;obtain⟨h0,I,hI,hIlen,hIesz,hIblk⟩:=h.obj r _ hobj;obtain⟨I',hI',hle,hIe,htok⟩:=ht;rw[hI] at hI';cases hI';have hnz:n=0:=by rw[hn,hx0];rfl
          have hc0:c=0:=by
           rcases htok (by rw[hIlen,hn0,hx0];rfl) with h1|⟨bb,sz,hblk,_⟩
           ·exact h1.2
           ·obtain⟨⟨q,_⟩,_⟩:=hIblk bb sz hblk;omega
          obtain⟨cap,arr,hrun,hcap,hasz,rest,hrest⟩:=hS.new a n c olds hol haa (by omega) hlim';have hpre:VRs C ((xs++ys).flatMap GV.cells) (arr.toList.take ((xs++ys).flatMap GV.cells).length):=by
           have e1:((xs++ys).flatMap GV.cells).length=(olds++news).length:=hall.1.symm;rw[e1,hrest,List.take_left];exact hall
          obtain⟨hl,hrel⟩:=h.drew.newBoxP _ e (h.drew.newAt _) arr ⟨hpre,fun hf=>by rw[hwr] at hf;cases hf⟩;exact⟨_,_,_,hl,hrel,.rs (aA rfl) (show xs.length+ys.length<=cap by omega) hpos (.inl rfl),by rw[show xs.length+ys.length=n+n2 by omega];exact hrun⟩
         split at hg
         ·rename_i hco;simp only[aF,dJ,aH,bU] at hco;obtain⟨⟨hlo,hn'⟩,hesz'⟩:=hco;cases hg;obtain⟨h0,I,hI,hIlen,hIesz,hIblk⟩:=h.obj r _ hobj;obtain⟨I',hI',hle,hIe,htok⟩:=ht;rw[hI] at hI';cases hI';have hIn:I.len=n:=by omega
          by_cases hroom:n+n2<=c
          ·
           rcases htok (by omega) with h1|⟨bb,sz,hblk,haB,hcsz⟩
           ·omega
           ·obtain⟨⟨he0,hfit⟩,cur,hheap,hcur⟩:=hIblk bb sz hblk;obtain⟨hesz3,hty⟩:esz'=esz2/\ty'=e:=by rcases hesz' with h1|h1;exact h1;omega
            rw[hty] at hheap;have hIesz2:I.esz=esz2:=by omega
            have hab:a=some ⟨b,off,none⟩:=by
             rcases ha with⟨h1,_⟩|h1|h1
             ·rw[h1] at haB;cases haB
             ·exact h1
             ·exfalso;omega
            rw[hab] at haB;cases haB;subst hab;subst hcur;have hfit2:n*i.size+news.length<=cur.size:=by
             rw[hnl,<-Nat.add_mul,hesz2i];have:(n+n2)*esz2<=c*esz2:=Nat.mul_le_mul_right _ hroom;rw[<-hIesz2] at this⊢;omega
            have hrun:=hS.room b n c cur hheap hroom hfit2;let vs':Array Value:=(cur.toList.take (n*i.size)++news++cur.toList.drop (n*i.size+news.length)).toArray;have hold:cur.toList.take (n*i.size)=olds:=by
             apply cK;intro j;rw[cH];split
             ·rename_i hj;have hjo:j<olds.length:=by rw[hol];exact hj
              have hcell:=h.fxc _ _ _ (hof j _ (gL hjo));rw[bM,cell_of_row w b j cur e (0,0) hheap] at hcell;rw[bJ,hcell,gL hjo]
             ·rename_i hj;rw[b6 (by rw[hol];omega)]
            have hvs':vs'.toList=olds++news++cur.toList.drop (n*i.size+news.length):=by simp[vs',hold]
            have hvsz:vs'.size=cur.size:=by
             rw[<-b8,hvs'];simp only[aX,cU,b8];omega
            obtain⟨D,hl,hown,hfx,hrel⟩:=h.growRow hI (n+n2) esz2 cur vs' e hblk hheap (by omega) hIesz2.symm hpos hvsz (by
              rw[hnl,<-Nat.add_mul,hesz2i] at hfit2;exact hfit2) (fun o ho=>by
             rw[hIn] at ho;have ho2:o<olds.length:=by rw[hol,hesz2i];exact ho
             rw[<-bJ,hvs',cW,aU ho2,<-hold,cH,aA (by rw[<-hol];exact ho2),bJ])
            refine⟨D,_,_,hl,by rw[show xs.length+ys.length=n+n2 by omega];exact hrel,?_,hrun⟩;rw[<-hxy];refine ID (k:=.own r) hwall (hall.mono hl) (fun j u hj=>?_) (by omega) ⟨_,hown,by rw[hxy];exact rL _,fun _=>rfl,fun _=>.inr ⟨_,_,rfl,rfl,?_⟩⟩
            ·have hj1:j<(olds++news).length:=(List.getElem?_eq_some_iff.1 hj).1;rw[bM];refine hfx j u ?_ ?_
             ·rw[hall.1,jV _ hwall,hxy] at hj1;exact hj1
             ·rw[<-bJ,hvs',aU hj1];exact hj
            ·show c*esz2<=cur.size;rw[<-hIesz2];exact hcsz
          ·
           obtain⟨cap,arr,hrun,hcap,hasz,hrest⟩:=hS.new a n c olds hol haa (by omega) hlim';have hhI:h.drew=h.drew:=rfl;obtain⟨D,hl,hown,hfx,hrel⟩:=h.drew.moveRow hI (n+n2) esz2 arr e (by omega) (fun h1=>by rcases hesz' with h2|h2<;>omega) hpos (by rw[hasz,hesz2i];exact Nat.mul_le_mul_right _ hcap);have hsz':w.drew.heap.size=w.heap.size:=rfl;rw[hsz'] at hown hfx;refine⟨D,_,_,hl,?_,inNew D (.own r) arr cap hl hrest hcap hfx ⟨_,hown,rL _,fun _=>rfl,fun _=>.inr ⟨_,_,rfl,rfl,?_⟩⟩,hrun⟩
           ·rw[show xs.length+ys.length=n+n2 by omega];exact hrel
           ·show cap*esz2<=arr.size;rw[hasz,hesz2i];exact rL _
         ·cases hg
        ·cases hg
       ·cases hg
      ·cases hg
    ·cases hg
   ·cases hg
  ·cases hg
 ·cases hg
theorem HL {t u ty:TypeId} {r n c size bytes:Nat} {x z:GV} {vs vx:Value} {e:TypeId} {cs ys:List GV} (h:Rel C σ w0 w) (hs:VR C (.rs r 0 size n c) vs) (hx:VR C x vx)
  (ho:σ.objs[r]?=some (.box e cs)) (hlen:cs.length=c*size) (hsrc:zN P t u x σ=some ys) (he:iP P t=some e) (hsz:dR P e=some size) (hby:m8 P e=some bytes) (hzz:iE P e=some z)
  (hzk:z.known=true) (hzl:z.cells.length=size) (hyne:ys≠[]) (hoky:∀y∈ys,oE size y=true) (hlim:n+ys.length<=D7) (hbytes:bytes<=4096) (hc0:0<c) (hwr:Globals.wr e=true) (hnc:n<=c):
  (n+ys.length<=c/\Runs P C w0 w (gset σ r (.box e (cs.take (n*size)++flat ys++cs.drop (n*size+(flat ys).length)))) (.rs r 0 size (n+ys.length) c) (Builtin.append_ #[t,u] ty #[vs,vx]))∨
  (c<n+ys.length/\∃cap,n+ys.length<=cap/\Runs P C w0 w (gnew σ (.box e (cs.take (n*size)++flat ys++List.replicate ((cap - (n+ys.length))*size) .any))) (.rs σ.objs.length 0 size (n+ys.length) cap) (Builtin.append_ #[t,u] ty #[vs,vx])):=by
 cases hs with
 |rp hb=>omega
 |rs hb hc' hpos hxc=>
 rename_i b c';obtain rfl:c=c':=by rcases hxc with h1|h1<;>omega
 obtain⟨i,hi,hisz⟩:=tT hsz;have hiby:i.bytes<=4096:=by
  unfold m8 at hby;rw[hi] at hby;simp at hby;omega
 unfold iE at hzz;rw[hi,bC] at hzz;cases hz:i.zero with
 |none=>rw[hz] at hzz;cases hzz
 |some zv=>
 rw[hz] at hzz;have hzz:kD zv=z:=by simpa using hzz
 subst hzz;have hzs:zv.cells.size=i.size:=by rw[<-b8,((dK C zv).cells hzk).1,hisz];exact hzl
 have hwy:∀y∈ys,y.cells.length=size:=fun y hy=>kI (hoky y hy);obtain⟨news,hnv,hS⟩:=S6 (ty:=ty) h hx hsrc he hi hz hzs hiby hyne (by rw[hisz];exact hoky);have hnl:news.length=ys.length*size:=by rw[hnv.1,jV ys hwy]
 have hfl:(flat ys).length=ys.length*size:=jV ys hwy;obtain⟨h0,b',arr0,h1,h2,h3,hx9⟩:=h.obj r _ ho;rw[hb] at h1;cases h1;have hsa:cs.length<=arr0.toList.length:=by have:=h3.1;rw[cL] at this;omega
 have hasz0:arr0.toList.length=arr0.size:=b8;have hns:n*size<=c*size:=Nat.mul_le_mul_right _ hnc;by_cases hroom:n+ys.length<=c
 ·refine .inl ⟨hroom,?_⟩;have hr2:(n+ys.length)*size<=c*size:=Nat.mul_le_mul_right _ hroom;rw[Nat.add_mul] at hr2;have hrun:=hS.room b n c arr0 h2 hroom (by rw[hisz,hnl];omega);rw[hisz] at hrun;refine⟨C,_,_,.refl C,?_,.rs hb (by omega) hpos (.inr rfl),hrun⟩;refine Rel.setObj h (List.getElem?_eq_some_iff.1 ho).1 hb _ ⟨h0,b,_,hb,setRow_heap w b arr0 _ e (0,0) h2,?_⟩ rfl rfl rfl (by simp) (fun k hk=>setRow_other w b k _ hk);have e1:(cs.take (n*size)++flat ys++cs.drop (n*size+(flat ys).length)).length=cs.length:=by simp only[aX,cL,cU];omega
  have e2:news.length=(flat ys).length:=hnv.1;refine⟨?_,fun hT=>by rw[hwr] at hT;cases hT⟩;rw[e1,e2];have h4:=((h3.take (n*size)).append hnv).append (h3.drop (n*size+(flat ys).length));rw[<-AR (us:=news) (by rw[hfl];omega) hsa e2] at h4;exact h4
 ·refine .inr ⟨by omega,?_⟩;have hold:VRs C (cs.take (n*size)) (arr0.toList.take (n*size)):=by
   have:=h3.take (n*size);rwa [List.take_take,Nat.min_eq_left (by omega)] at this
  have hol:(arr0.toList.take (n*size)).length=n*i.size:=by rw[cL,hisz];omega
  obtain⟨cap,arr,hrun,hcap,hasz,rest,hrest⟩:=hS.new (some ⟨b,0,none⟩) n c _ hol (.inr ⟨_,rfl,fun j u hj=>by
   rw[iM,bM,cell_of_row w b j arr0 e (0,0) h2];rw[cH] at hj;split at hj
   ·rw[<-bJ];exact hj
   ·cases hj⟩) (by omega) hlim
  refine⟨cap,hcap,?_⟩;have hall:VRs C (cs.take (n*size)++flat ys) (arr0.toList.take (n*size)++news):=hold.append hnv;have hrl:rest.length=(cap - (n+ys.length))*size:=by
   have:=aJ List.length hrest;rw[b8,hasz,hisz,aX,aX,hol,hisz,hnl] at this;rw[Nat.sub_mul,Nat.add_mul];omega
  have hany:VRs C (List.replicate ((cap - (n+ys.length))*size) .any) rest:=⟨by simp[hrl],fun j g v hg _=>by
   have:=b9 hg;rw[(List.mem_replicate.1 this).2];exact .any _⟩
  obtain⟨hl,hrel⟩:=h.drew.newBoxP _ e (h.drew.newAt _) arr ⟨by
   have hh:=hall.append hany;have e9:arr.toList.take (cs.take (n*size)++flat ys++List.replicate ((cap - (n+ys.length))*size) GV.any).length=arr0.toList.take (n*size)++news++rest:=by
    rw[<-hh.1,hrest];exact dG
   rw[e9];exact hh,fun hf=>by rw[hwr] at hf;cases hf⟩
  exact⟨_,_,_,hl,hrel,.rs (aA rfl) hcap hpos (.inr rfl),hrun⟩
end
