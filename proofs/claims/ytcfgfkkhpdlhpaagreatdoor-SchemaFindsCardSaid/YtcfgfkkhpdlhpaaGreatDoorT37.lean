/-
  A part of the proof of SchemaFinds.
-/
import Derived.Test.YtcfgfkkhpdlhpaaGreatDoorT36
set_option linter.all false
set_option maxRecDepth 100000
namespace Go.Proofs.YtcfgfkkhpdlhpaaGreatDoor
open Go.RowKit
def FS (l:List UInt8):Bool:=[60,62].isPrefixOf l||[60,61].isPrefixOf l||[62,61].isPrefixOf l
theorem m9 (c:UInt8) (t:List UInt8):FS (c::t)=true↔(c=60/\(t.head?=some 62∨t.head?=some 61))∨(c=62/\t.head?=some 61):=by
 cases t with
 |nil=>simp[FS,List.isPrefixOf]
 |cons d t=>
  simp only[FS,List.isPrefixOf,Bool.and_true,eY,aH,dE,List.head?_cons,j6];constructor
  ·rintro((⟨rfl,rfl⟩|⟨rfl,rfl⟩)|⟨rfl,rfl⟩)
   ·exact .inl ⟨rfl,.inl rfl⟩
   ·exact .inl ⟨rfl,.inr rfl⟩
   ·exact .inr ⟨rfl,rfl⟩
  ·rintro(⟨rfl,rfl|rfl⟩|⟨rfl,rfl⟩)
   ·exact .inl (.inl ⟨rfl,rfl⟩)
   ·exact .inl (.inr ⟨rfl,rfl⟩)
   ·exact .inr ⟨rfl,rfl⟩
theorem uF (c:UInt8) (t:List UInt8):lQ (c::t)=if FS (c::t)=true then 2 else if(d9 c||(c==45&&t.head?.any cR))=true then pO t else if c=34 then min (2+mQ t) (t.length+1) else 1:=rfl
theorem BN {c:UInt8} (h:d9 c=true):c≠60/\c≠62/\c≠45/\c≠34/\c≠40/\c≠41/\c≠58/\c≠61/\c≠32:=by
 refine⟨?_,?_,?_,?_,?_,?_,?_,?_,?_⟩<;>(rintro rfl;revert h;decide)
theorem J1 {l:List UInt8} (h:eK l≠0):∃d r,l=d::r/\cR d=true:=by
 cases l with
 |nil=>exact absurd rfl h
 |cons d r=>
  refine⟨d,r,rfl,?_⟩;cases hd:cR d with
  |true=>rfl
  |false=>exact absurd (by unfold eK;rw[eU,hd];rfl) h
theorem DW {c:UInt8} {t:List UInt8} (h:(jW (c::t)).2≠0):cR c=true∨(c=45/\∃d r,t=d::r/\cR d=true):=by
 by_cases h45:c=45
 ·subst h45;rw[P8] at h;refine .inr ⟨rfl,J1 (fun e=>h (by rw[aG (.inl e)]))⟩
 ·rw[P7 (by simpa using h45)] at h;obtain⟨d,r,e,hd⟩:=J1 (l:=c::t) (fun e=>h (by rw[aG (.inl e)]));cases e;exact .inl hd
theorem DY {c:UInt8} {t:List UInt8} {v:Val} (h:cL (c::t)=some v) (h34:c≠34):(jW (c::t)).2=(c::t).length:=by
 rw[<-DZ] at h;unfold iJ at h;split at h
 ·rename_i hc;have:=hc.2.1;unfold pR at this;rw[aE (by simpa using h34)] at this;exact this
 ·cases h
theorem JO (t:List UInt8):jN (34::t) 0=BG (34::t).length 0 (rq t):=by
 unfold jN;rw[aG (show(34::t)[0]?=some 34 from rfl)];rfl
theorem TU {t:List UInt8} {v:Val} (h:cL (34::t)=some v):∃s,rq t=some (s,[]):=by
 rw[<-DZ] at h;unfold iJ at h;split at h
 ·rename_i hc;have:=hc.2.1;unfold pR at this;rw[aG (show(34::t).head?=some 34 from rfl)] at this;replace this:(jN (34::t) 0).2=(34::t).length:=this;rw[JO] at this;cases hr:rq t with
  |none=>rw[hr] at this;simp[BG] at this
  |some p=>
   rw[hr] at this;obtain⟨s,r⟩:=p;simp[BG] at this;have hl:=EZ t.length (rL _) hr;have:r=[]:=aN (by omega);exact⟨s,by rw[this]⟩
 ·cases h
theorem AV (w:List UInt8):(AW w).2=true↔0<(jW w).2/\(jW w).2=w.length:=by
 unfold AW;simp
theorem VD (c:UInt8) (t:List UInt8):(c::t).take (pO t)=c::t.takeWhile d9:=by
 unfold pO;rw[Nat.add_comm,jI];congr 1;have:=List.prefix_iff_eq_take.1 (gM (l:=t) d9);exact this.symm
theorem V8 {t:List UInt8} {d:UInt8} {r:List UInt8} (h:t.takeWhile d9=d::r):t.head?=some d:=by
 cases t with
 |nil=>cases h
 |cons a t=>
  rw[eU] at h;split at h
  ·cases h;rfl
  ·cases h
theorem s9 {c:UInt8} (h:cR c=true):d9 c=true:=by
 unfold d9;rw[h];simp
theorem QP {c:UInt8} {t:List UInt8} {k:Nat} (h:sw (c::t)=some k):lQ (c::t)=k:=by
 rw[uF];simp only[sw] at h;split at h
 ·rename_i hi;have hn:=BN hi.1;rw[aE (fun e=>by rcases(m9 c t).1 e with e|e;exact hn.1 e.1;exact hn.2.1 e.1),aG (by rw[hi.1];rfl)];split at h
  ·split at h
   ·exact aY h
   ·cases h
  ·split at h
   ·exact aY h
   ·cases h
 ·rename_i hi;split at h
  ·rename_i h45;subst h45;split at h
   ·rename_i hw;rw[VD] at hw;obtain⟨h1,h2⟩:=(AV _).1 hw;rcases DW (Nat.pos_iff_ne_zero.1 h1) with e|⟨_,d,r,e,hd⟩
    ·exact absurd e (by decide)
    ·rw[aE (fun e=>by rcases(m9 45 t).1 e with e|e<;>exact absurd e.1 (by decide)),aG (by rw[V8 e];simp[hd])];exact aY h
   ·cases h
  ·rename_i h45;split at h
   ·rename_i h34;subst h34;split at h
    ·cases h
    ·rename_i hz;rw[aE (fun e=>by rcases(m9 34 t).1 e with e|e<;>exact absurd e.1 (by decide)),aE (by simp;decide),aG rfl];have hq:=JO t;rw[hq] at h hz;cases hr:rq t with
     |none=>rw[hr] at hz;exact absurd rfl hz
     |some p=>
      obtain⟨s,r⟩:=p;rw[hr] at h;have hf:=xJ t.length (rL _) hr;have hql:mQ t=(s.flatMap mM).length:=by rw[hf];exact R7 s r
      have hlen:=aQ List.length hf;simp only[aD,aJ] at hlen;simp only[BG,j6,aJ] at h;rw[hql];omega
   ·rename_i h34;split at h
    ·rename_i hp;rw[aG ((m9 c t).2 hp)];exact aY h
    ·rename_i hp;split at h
     ·rename_i hm;have hin:d9 c=false:=by rcases hm with rfl|rfl|rfl|rfl|rfl|rfl<;>decide
      rw[aE (fun e=>hp ((m9 c t).1 e)),aE (by rw[hin];simp[h45]),aE h34];exact aY h
     ·cases h
def cw (w:By):Prop:=fV w=true∨(cL w).isSome=true∨w=[40]∨w=[41]∨w=[58]∨mU w=true
theorem IJ {c:UInt8} {t:List UInt8} (h:fV (c::t)=true):mB c=true:=by
 simp only[fV,aH] at h;exact h.1.2
theorem OX {c:UInt8} {t:List UInt8} (h:mU (c::t)=true):c=60∨c=61∨c=62:=by
 simp only[mU,TC,List.contains_eq_mem,aL,List.mem_cons,List.not_mem_nil,or_false] at h;rcases h with h|h|h|h|h|h<;>cases h<;>simp
theorem NZ {c:UInt8} {t:List UInt8} (h:cw (c::t)):(mB c=true/\fV (c::t)=true)∨(cR c=true/\∃v,cL (c::t)=some v)∨(c=45/\∃v,cL (c::t)=some v)∨(c=34/\∃v,cL (c::t)=some v)∨c=40∨c=41∨c=58∨c=60∨c=61∨c=62:=by
 rcases h with h|h|h|h|h|h
 ·exact .inl ⟨IJ h,h⟩
 ·obtain⟨v,hv⟩:=Option.isSome_iff_exists.1 h;by_cases h34:c=34
  ·exact .inr (.inr (.inr (.inl ⟨h34,v,hv⟩)))
  ·have:=DY hv h34;rcases DW (c:=c) (t:=t) (by rw[this];simp) with e|e
   ·exact .inr (.inl ⟨e,v,hv⟩)
   ·exact .inr (.inr (.inl ⟨e.1,v,hv⟩))
 ·cases h;simp
 ·cases h;simp
 ·cases h;simp
 ·rcases OX h with rfl|rfl|rfl<;>simp
theorem I0 (c:UInt8):mB c=true↔97<=c.toNat/\c.toNat<=122:=by simp[mB]
theorem LU {c:UInt8} (h:mB c=true):d9 c=true:=by unfold d9;rw[h];rfl
theorem VE {c:UInt8} {t:List UInt8} (h32:c≠32) (h:cw (H6 (c::t))):sw (c::t)=some (lQ (c::t)):=by
 have hw:∃u,H6 (c::t)=c::u/\(c::u)=(c::t).take (lQ (c::t)):=by
  have:=nB c t;unfold H6;obtain⟨k,hk⟩:∃k,lQ (c::t)=k+1:=⟨lQ (c::t) - 1,by omega⟩;exact⟨t.take k,by rw[hk];rfl,by rw[hk];rfl⟩
 obtain⟨u,hu,hu2⟩:=hw;rw[hu] at h;by_cases hin:d9 c=true
 ·have hn:=BN hin;have hwl:lQ (c::t)=pO t:=by
   rw[uF,aE (fun e=>by rcases(m9 c t).1 e with e|e;exact hn.1 e.1;exact hn.2.1 e.1),aG (by rw[hin];rfl)]
  rw[hwl] at hu2⊢;simp only[sw];rcases NZ h with⟨h1,h2⟩|⟨h1,v,h2⟩|h1|h1|h1
  ·have h97:=(I0 c).1 h1;rw[aG ⟨hin,by rintro rfl;revert h1;decide⟩,aG h97.1,aG (by rw[<-hu2];exact h2)]
  ·have h97:=(kD c).1 h1;rw[aG ⟨hin,by rintro rfl;revert h1;decide⟩,aE (by omega),aG (by
    rw[<-hu2,AV];have:=DY h2 hn.2.2.2.1;exact⟨by rw[this];simp,this⟩)]
  ·exact absurd h1.1 hn.2.2.1
  ·exact absurd h1.1 hn.2.2.2.1
  ·rcases h1 with h1|h1|h1|h1|h1|h1
   ·exact absurd h1 hn.2.2.2.2.1
   ·exact absurd h1 hn.2.2.2.2.2.1
   ·exact absurd h1 hn.2.2.2.2.2.2.1
   ·exact absurd h1 hn.1
   ·exact absurd h1 hn.2.2.2.2.2.2.2.1
   ·exact absurd h1 hn.2.1
 ·have hin':d9 c=false:=by simpa using hin
  rcases NZ h with⟨h1,h2⟩|⟨h1,v,h2⟩|⟨rfl,v,h2⟩|⟨rfl,v,h2⟩|h1
  ·exact absurd (LU h1) hin
  ·exact absurd (s9 h1) hin
  ·have hnum:=DY h2 (by decide);rcases DW (c:=45) (t:=u) (by rw[hnum];simp) with e|⟨_,d,r,e,hd⟩
   ·exact absurd e (by decide)
   ·have hwl:lQ (45::t)=pO t:=by
     rw[uF,aE (fun e=>by rcases(m9 45 t).1 e with e|e<;>exact absurd e.1 (by decide)),aG];subst e;have hle:=nB 45 t;cases t with
     |nil=>have:=aQ List.length hu2;simp at this;omega
     |cons a t=>
      obtain⟨k,hk⟩:∃k,lQ (45::a::t)=k+1:=⟨lQ (45::a::t) - 1,by omega⟩;rw[hk,jI] at hu2;cases k with
      |zero=>simp at hu2
      |succ k=>
       rw[jI] at hu2;simp at hu2;simp[<-hu2.1,hd]
    rw[hwl] at hu2⊢;simp only[sw];rw[aE (fun e=>hin e.1),aG trivial,aG (by rw[<-hu2,AV];exact⟨by rw[hnum];simp,hnum⟩)]
  ·obtain⟨s,hs⟩:=TU h2;have hf:=xJ u.length (rL _) hs;have ht:t=u++t.drop u.length:=by
    have h3:u=t.take u.length:=by
     have hle:=nB 34 t;obtain⟨k,hk⟩:∃k,lQ (34::t)=k+1:=⟨lQ (34::t) - 1,by omega⟩;rw[hk,jI] at hu2;have h4:=(List.cons.inj hu2).2;rw[h4,bN];rcases Nat.le_total k t.length with hkt|hkt
     ·rw[Nat.min_eq_left hkt]
     ·rw[Nat.min_eq_right hkt,b7,bX hkt]
    conv=>lhs;rw[<-iM u.length t]
    rw[<-h3]
   generalize t.drop u.length=rest at ht;rw[hf,bD] at ht;replace ht:t=s.flatMap mM++34::rest:=ht;have hr:rq t=some (s,rest):=by rw[ht];exact a0i s rest
   have hq:=JO t;have hlen:=aQ List.length ht;simp only[aD,aJ] at hlen;have hk:sw (34::t)=some (jN (34::t) 0).2:=by
    simp only[sw];rw[aE (fun e=>hin e.1),aE (by decide),aG trivial,aE];rw[hq,hr];simp only[BG,aJ];omega
   rw[hk,QP hk]
  ·by_cases hp:FS (c::t)=true
   ·have h2:=(m9 c t).1 hp;rw[uF,aG hp];simp only[sw];have hc:c=60∨c=62:=h2.elim (fun h=>.inl h.1) (fun h=>.inr h.1);rw[aE (fun e=>hin e.1),aE (by rcases hc with rfl|rfl<;>decide),aE (by rcases hc with rfl|rfl<;>decide),aG h2]
   ·have h45:c≠45:=by rcases h1 with rfl|rfl|rfl|rfl|rfl|rfl<;>decide
    have h34:c≠34:=by rcases h1 with rfl|rfl|rfl|rfl|rfl|rfl<;>decide
    rw[uF,aE hp,aE (by rw[hin'];simp[h45]),aE h34];simp only[sw];rw[aE (fun e=>hin e.1),aE h45,aE h34,aE (fun e=>hp ((m9 c t).2 e)),aG (by
     rcases h1 with h|h|h|h|h|h<;>simp[h])]
theorem a1G {c:UInt8} (h:c≠32) (t:List UInt8):skip (c::t)=c::t:=by
 unfold skip;rw[List.dropWhile_cons,aE (by simpa using h)]
theorem uJ (t:List UInt8):iO (32::t)=iO t:=by
 rw[<-B1 (32::t),<-B1 t];rfl
theorem OM {c:UInt8} (h:c≠32) (t:List UInt8):iO (c::t)=H6 (c::t)::iO ((c::t).drop (lQ (c::t))):=mS (a1G h t)
theorem w6:∀(f:Nat) (l:List UInt8) (ws:List By),kT f l=some ws->iO l=ws
 |0,_,_,h=>by cases h
 |f+1,[],ws,h=>by rw[yP] at h;cases h;exact kM rfl
 |f+1,c::t,ws,h=>by
  by_cases hc:c=32
  ·rw[hc,t7] at h;rw[hc,uJ];exact w6 f t ws h
  ·rw[t8 f hc] at h;cases hk:sw (c::t) with
   |none=>rw[hk] at h;cases h
   |some k=>
    rw[hk] at h;simp only[aI] at h;obtain⟨ws',h1,rfl⟩:=h;have hw:=QP hk;rw[OM hc,hw,w6 f _ _ h1];unfold H6;rw[hw]
theorem ER:∀(f:Nat) (l:List UInt8),l.length<f->(∀w∈iO l,cw w)->kT f l=some (iO l)
 |0,_,h,_=>by omega
 |f+1,[],_,_=>by rw[yP,kM rfl]
 |f+1,c::t,hl,h=>by
  simp only[aJ] at hl;by_cases hc:c=32
  ·rw[hc,uJ] at h⊢;rw[t7];exact ER f t (by omega) h
  ·rw[OM hc] at h⊢;have hk:=VE hc (h (H6 (c::t)) (by simp));have hp:=nB c t;rw[t8 f hc,hk];simp only;rw[ER f _ (by simp;omega) (fun w hw=>h w (by simp[hw]))];rfl
theorem EO:∀{ts r:List By} {t:Term},gB cL ts=some (t,r)->∃pre,ts=pre++r/\∀w∈pre,cw w
 |[],r,t,h=>by cases h
 |w::ts,r,t,h=>by
  unfold gB at h;split at h
  ·rename_i hw;split at h
   ·rename_i h1;split at h
    ·cases h
    ·cases h;obtain⟨pre,rfl,hp⟩:=EO h1;refine⟨w::pre,rfl,fun x hx=>?_⟩;rcases List.mem_cons.1 hx with rfl|hx
     ·exact .inr (.inr (.inr (.inr (.inl hw))))
     ·exact hp x hx
   ·cases h
  ·split at h
   ·rename_i hn;cases h;simp only[aH] at hn;exact⟨[w],rfl,fun x hx=>by rw[List.mem_singleton.1 hx];exact .inl hn.1⟩
   ·split at h
    ·rename_i v hv;cases h;exact⟨[w],rfl,fun x hx=>by rw[List.mem_singleton.1 hx];exact .inr (.inl (by rw[hv];rfl))⟩
    ·cases h
theorem x8 {ts r:List By} {w:By} (hw:cw w) (h:∃pre,ts=pre++r/\∀w∈pre,cw w):∃pre,w::ts=pre++r/\∀w∈pre,cw w:=by
 obtain⟨pre,rfl,hp⟩:=h;exact⟨w::pre,rfl,fun x hx=>by
  rcases List.mem_cons.1 hx with rfl|hx
  ·exact hw
  ·exact hp x hx⟩
theorem uB {ts r r':List By} (h:∃pre,ts=pre++r/\∀w∈pre,cw w) (h':∃pre,r=pre++r'/\∀w∈pre,cw w):∃pre,ts=pre++r'/\∀w∈pre,cw w:=by
 obtain⟨p,rfl,hp⟩:=h;obtain⟨q,rfl,hq⟩:=h';exact⟨p++q,by simp,fun x hx=>(List.mem_append.1 hx).elim (hp x) (hq x)⟩
theorem AL (r:List By):∃pre,r=pre++r/\∀w∈pre,cw w:=⟨[],rfl,fun _ h=>by cases h⟩
theorem a35:cw AY/\cw nC/\cw kC/\cw l8/\cw jU:=⟨.inl (by decide),.inl (by decide),.inl (by decide),.inl (by decide),.inl (by decide)⟩
theorem mA:∀(f:Nat) (m:Md) (lv d:Nat) (ts r:List By) (t:Tree) (e:Nat),bP cL f m lv d ts=some (t,r,e)->∃pre,ts=pre++r/\∀w∈pre,cw w
 |0,m,lv,d,ts,r,t,e,h=>by cases h
 |f+1,.or,lv,d,ts,r,t,e,h=>by
  unfold bP at h;split at h
  ·rename_i n r1 e1 h1;exact uB (mA f _ _ _ _ _ _ _ h1) (mA f _ _ _ _ _ _ _ h)
  ·cases h
 |f+1,.orL n,lv,d,ts,r,t,e,h=>by
  unfold bP at h;split at h
  ·rename_i hd;obtain⟨r0,rfl⟩:=fY hd (by decide);split at h
   ·rename_i n r1 e1 h1;exact x8 a35.1 (uB (mA f _ _ _ _ _ _ _ h1) (mA f _ _ _ _ _ _ _ h))
   ·cases h
  ·cases h;exact AL _
 |f+1,.and,lv,d,ts,r,t,e,h=>by
  unfold bP at h;split at h
  ·rename_i n r1 e1 h1;exact uB (mA f _ _ _ _ _ _ _ h1) (mA f _ _ _ _ _ _ _ h)
  ·cases h
 |f+1,.andL n,lv,d,ts,r,t,e,h=>by
  unfold bP at h;split at h
  ·rename_i hd;obtain⟨r0,rfl⟩:=fY hd (by decide);split at h
   ·rename_i n r1 e1 h1;exact x8 a35.2.1 (uB (mA f _ _ _ _ _ _ _ h1) (mA f _ _ _ _ _ _ _ h))
   ·cases h
  ·cases h;exact AL _
 |f+1,.not,lv,d,ts,r,t,e,h=>by
  unfold bP at h;split at h
  ·rename_i hd;obtain⟨r0,rfl⟩:=fY hd (by decide);split at h
   ·rename_i n r1 e1 h1;cases h;exact x8 a35.2.2.1 (mA f _ _ _ _ _ _ _ h1)
   ·cases h
  ·exact mA f _ _ _ _ _ _ _ h
 |f+1,.prim,lv,d,ts,r,t,e,h=>by
  unfold bP at h;split at h
  ·rename_i hd;obtain⟨r0,rfl⟩:=fY hd (by decide);cases h;exact x8 a35.2.2.2.1 (AL _)
  ·split at h
   ·rename_i hd;obtain⟨r0,rfl⟩:=fY hd (by decide);cases h;exact x8 a35.2.2.2.2 (AL _)
   ·split at h
    ·rename_i hd;obtain⟨r0,rfl⟩:=fY hd (by decide);split at h
     ·rename_i n r1 e1 h1;split at h
      ·rename_i hr;obtain⟨r2,rfl⟩:=fY hr (by decide);cases h;exact x8 (.inr (.inr (.inl rfl))) (uB (mA f _ _ _ _ _ _ _ h1) (x8 (.inr (.inr (.inr (.inl rfl)))) (AL _)))
      ·cases h
     ·cases h
    ·split at h
     ·rename_i a r1 h1;split at h
      ·rename_i hrel;split at h
       ·rename_i b r2 h2;cases h;refine uB (EO h1) ?_;obtain⟨q,hq⟩:∃q,r1=r1.headD []::q:=by
         cases r1 with
         |nil=>exact absurd hrel (by decide)
         |cons a q=>exact⟨q,rfl⟩
        conv=>enter [1,pre];rw[hq]
        refine x8 (.inr (.inr (.inr (.inr (.inr hrel))))) ?_;have:r1.tail=q:=by rw[hq];rfl
        rw[<-this];exact EO h2
       ·cases h
      ·cases h
     ·cases h
def lM (s:By):RdE:=if 1000<s.length then .err 3 else match B4 s with
 |none=>.err 2
 |some ws=>match bP iJ (jY s) .or 0 0 ws with
  |some (t,r,e)=>if r=[] then(if 20<e then .err 4 else .ok t) else .err 2
  |none=>.err 2
theorem zW (s:By):mF s=match lM s with
  |.ok t=>.ok t.flat
  |.err e=>.err e:=by
 have hl:iJ=cL:=funext DZ;unfold mF lM;by_cases h1:1000<s.length
 ·rw[aG h1,aG h1]
 ·rw[aE h1,aE h1,hl];cases hs:B4 s with
  |some ws=>
   rw[w6 _ _ _ hs];simp only;cases hp:bP cL (jY s) .or 0 0 ws with
   |none=>rfl
   |some p=>
    obtain⟨t,r,e⟩:=p;simp only;cases r with
    |nil=>
     simp only[List.headD_nil,beq_self_eq_true,fP];split<;>rfl
    |cons w r=>
     have hne:w≠[]:=by
      obtain⟨pre,e1,_⟩:=mA _ _ _ _ _ _ _ _ hp;exact J9 s.length s (rL _) w (by rw[w6 _ _ _ hs,e1];simp)
     rw[aE (by simpa using hne),aE (by simp)]
  |none=>
   simp only;cases hp:bP cL (jY s) .or 0 0 (iO s) with
   |none=>rfl
   |some p=>
    obtain⟨t,r,e⟩:=p;simp only;obtain⟨pre,e1,h2⟩:=mA _ _ _ _ _ _ _ _ hp;cases r with
    |nil=>
     exfalso;rw[iV] at e1;have:=ER (s.length+1) s (by omega) (by rw[e1];exact h2);unfold B4 at hs;rw[hs] at this;cases this
    |cons w r=>
     have hne:w≠[]:=J9 s.length s (rL _) w (by rw[e1];simp);rw[aE (by simpa using hne)]
def qH (ws:List By) (a dp:Int) (bad gG:Bool):GObj:=.box 250 [.sl .none (aZ ws),.i .i64 a,.i .i64 dp,.b bad,.b gG]
theorem dP [MaxL] (ws:List By) (a dp:Int) (bad gG:Bool):ClL [.sl .none (aZ ws),.i .i64 a,.i .i64 dp,.b bad,.b gG]:=.cons (bV (uM ws)) (fun _=>rfl)
theorem bO [MaxL] {ws:List By} {a dp:Int} {bad gG:Bool}:ClL [.sl .none (aZ ws),.i .i64 a,.i .i64 dp,.b bad,.b gG]:=dP ws a dp bad gG
def l7 (ws:List By) (a:Nat):By:=(ws.drop a).headD []
theorem V2 {ws:List By} {a:Nat} (h:a<ws.length):(aZ ws)[a]?=some (.s (l7 ws a)):=by
 unfold l7 aZ;rw[aM,aX h,gL h];rfl
theorem ED {ws:List By} {a:Nat} (h:ws.length<=a):l7 ws a=[]:=by
 unfold l7;rw[List.drop_eq_nil_of_le h];rfl
theorem I6 [MaxL] (ws:List By) (hw:ws.length<bH) (a:Nat) (dp:Int) (bad gG:Bool):SC Tryz.prog 306 [.ptr 0 0] [qH ws a dp bad gG] (.val (.s (l7 ws a))) [qH ws a dp bad gG]:=by
 have hl:(aZ ws).length=ws.length:=aP ws;unfold bH at hw;refine cZ Tryz.func306 rfl ?_;conv=>whnf
 refine b9 (by kernel_rfl) ?_;conv=>whnf
 refine aF (fun h=>?_) (fun h=>?_)<;>conv=>whnf
 ·have ha:a<ws.length:=by have:=aA h;rw[hl] at this;omega
  refine b9 (by kernel_rfl) ?_;conv=>whnf
  refine⟨cN _,.s (l7 ws a),by rw[aC];exact V2 ha,rfl,?_⟩;conv=>whnf
  exact kJ rfl rfl (dP ws a dp bad gG)
 ·have ha:ws.length<=a:=by have:=aB h;rw[hl] at this;omega
  rw[ED ha];exact kJ rfl rfl (dP ws a dp bad gG)
def zP (ws:List By) (a:Nat) (bad:Bool) (w:By):Bool:=!bad&&(l7 ws a==w)
theorem P3 [MaxL] (ws:List By) (hw:ws.length<bH) (a:Nat) (ha:a<=ws.length) (dp:Int) (bad gG:Bool) (w:By):
  SC Tryz.prog 268 [.ptr 0 0,.s w] [qH ws a dp bad gG] (.val (.b (zP ws a bad w))) [qH ws (if zP ws a bad w then a+1 else a:Nat) dp bad gG]:=by
 have hn:=I6 ws hw a dp bad gG;have hw':=hw;unfold bH at hw';cases bad with
 |true=>
  refine cZ Tryz.func268 rfl ?_;conv=>whnf
  exact rX rfl rfl (dP ws a dp true gG)
 |false=>
  have e:zP ws a false w=(l7 ws a==w):=by simp[zP]
  rw[e];generalize l7 ws a=x at*;refine cZ Tryz.func268 rfl ?_;conv=>whnf
  refine aW (q:=0) hn rfl (wR _) rfl rfl (dP ws a dp false gG) (dP ws a dp false gG) (fun _=>rfl) (.s _) ?_;conv=>whnf
  refine aF (fun hc=>?_) (fun hc=>?_)<;>conv=>whnf
  ·have e2:(x==w)=false:=by simpa using hc
   rw[e2];exact rX rfl rfl (dP ws a dp false gG)
  ·have e2:(x==w)=true:=by simpa using hc
   rw[e2];refine⟨[.i .i64 (a+1:Nat)],⟨(by rw[b8 (by omega)];rfl),rL _,rfl,bL rfl⟩,?_⟩;(conv=>whnf);exact rX rfl rfl (dP ws (a+1:Nat) dp false gG)
theorem WJ [MaxL] (ws:List By) (hw:ws.length<bH) (a:Nat) (dp:Int) (bad gG:Bool):
  SC Tryz.prog 341 [.ptr 0 0] [qH ws a dp bad gG] (.val (.b (fV (l7 ws a)&&!a2q.contains (l7 ws a)))) [qH ws a dp bad gG]:=by
 have hn:=I6 ws hw a dp bad gG;generalize l7 ws a=x at*;refine cZ Tryz.func341 rfl ?_;conv=>whnf
 refine aW (q:=0) hn rfl (wR _) rfl rfl (dP ws a dp bad gG) (dP ws a dp bad gG) (fun _=>rfl) (.s _) ?_;conv=>whnf
 refine nH (BF x) ?_;conv=>whnf
 refine aF (fun h1=>?_) (fun h1=>?_)<;>conv=>whnf
 ·skip;refine nH (a1c x) ?_;conv=>whnf
  refine rX rfl ?_ (dP ws a dp bad gG);rw[h1];rfl
 ·refine rX rfl ?_ (dP ws a dp bad gG);rw[h1];rfl
theorem a2a [MaxL] (ws:List By) (a lv:Nat) (hl:lv<1000000) (bad gG:Bool):
  SC Tryz.prog 323 [.ptr 0 0] [qH ws a lv bad gG] (.val (.tup [])) [qH ws a (lv+1:Nat) bad (gG||decide (20<lv+1))]:=by
 have e:IntKind.i64.wrap ((lv:Int)+1)=((lv+1:Nat):Int):=DK hl;refine cZ Tryz.func323 rfl ?_;conv=>whnf
 refine⟨[.i .i64 (lv+1:Nat)],⟨(by rw[e];rfl),rL _,rfl,bL rfl⟩,?_⟩;conv=>whnf
 have e2:((20:Int)<((lv+1:Nat):Int))↔20<lv+1:=by omega
 refine aF (fun h=>?_) (fun h=>?_)<;>conv=>whnf
 ·have h':20<lv+1:=by have:=aA h;omega
  refine⟨_,⟨rfl,zL _,rfl,bL rfl⟩,?_⟩;conv=>whnf
  refine gC ?_ (.refl _) (dP ws a (lv+1:Nat) bad _) (fun _=>rfl);rw[bS h',Bool.or_true];rfl
 ·have h':¬20<lv+1:=by have:=aB h;omega
  refine gC ?_ (.refl _) (dP ws a (lv+1:Nat) bad _) (fun _=>rfl);rw[cW h',Bool.or_false]
def VS (t:Term):List GV:=[.s (if t.var then[] else t.name),.s (if t.var then t.name else[]),.i .i64 t.v.k,.i .i64 t.v.n,.s t.v.s]
def t0:Term:=⟨[],false,v0⟩
theorem B7 [MaxL] (t:Term):ClL (VS t):=fun _=>rfl
theorem F4 [MaxL] (ws:List By) (hw:ws.length<bH) (a:Nat) (dp:Int) (gG:Bool):
  SC Tryz.prog 333 [.ptr 0 0] [qH ws a dp true gG] (.val (.agg (VS t0))) [qH ws a dp true gG]:=by
 have hn:=I6 ws hw a dp true gG;generalize l7 ws a=x at*;refine cZ Tryz.func333 rfl ?_;conv=>whnf
 refine aW (q:=0) hn rfl (wR _) rfl rfl (dP ws a dp true gG) (dP ws a dp true gG) (fun _=>rfl) (.s _) ?_;conv=>whnf
 refine⟨_,⟨rfl,zL _,rfl,bL rfl⟩,?_⟩;conv=>whnf
 exact gC rfl (.refl _) (dP ws a dp true gG) (fun _=>rfl)
def DD (x:By):Bool:=fV x&&!a2q.contains x
theorem EP {lit:By->Option Val} (w:By) (ts:List By):gB lit (w::ts)=if w=[58] then(match gB lit ts with
   |some (t,r)=>if t.name=[]∨t.var=true then none else some (⟨t.name,true,t.v⟩,r)
   |none=>none)
  else if DD w then some (⟨w,false,v0⟩,ts) else match lit w with
   |some v=>some (⟨[],false,v⟩,ts)
   |none=>none:=by
 conv=>lhs;unfold gB
 rfl
theorem EE {ws:List By} {a:Nat} (h:a<ws.length):ws.drop a=l7 ws a::ws.drop (a+1):=by
 unfold l7;rw[aX h];rfl
theorem RF {x:By} (h:DD x=true):x≠[]/\x≠[58]:=by
 constructor<;>(rintro rfl;exact absurd h (by decide))
theorem kL {ws:List By} {a:Nat} (h:l7 ws a≠[]):a<ws.length:=by
 rcases dX a ws.length with h1|h1
 ·exact h1
 ·exact absurd (ED h1) h
theorem X8:iJ []=none:=by unfold iJ;rw[aE (fun h=>h.1 rfl)]
theorem VC (ws:List By) (a:Nat):gB iJ (ws.drop a)=if DD (l7 ws a) then some (⟨l7 ws a,false,v0⟩,ws.drop (a+1)) else if l7 ws a=[58] then
   (if DD (l7 ws (a+1)) then some (⟨l7 ws (a+1),true,v0⟩,ws.drop (a+2)) else none)
  else match iJ (l7 ws a) with
   |some v=>some (⟨[],false,v⟩,ws.drop (a+1))
   |none=>none:=by
 by_cases ha:a<ws.length
 ·rw[EE ha,EP];by_cases h1:l7 ws a=[58]
  ·rw[aG h1,h1,aE (by decide),aG rfl];by_cases hb:a+1<ws.length
   ·rw[EE hb,EP];by_cases h3:DD (l7 ws (a+1))=true
    ·rw[aG h3,aE (RF h3).2,aG h3];simp only;rw[aE (by rintro(h|h);exact(RF h3).1 h;cases h)]
    ·rw[aE h3,aE h3];by_cases h4:l7 ws (a+1)=[58]
     ·rw[aG h4];cases gB iJ (ws.drop (a+1+1)) with
      |none=>rfl
      |some p=>
       obtain⟨t,r⟩:=p;simp only;by_cases h5:t.name=[]∨t.var=true
       ·rw[aG h5]
       ·rw[aE h5];simp only;rw[aG (.inr trivial)]
     ·rw[aE h4];cases iJ (l7 ws (a+1)) with
      |none=>rfl
      |some v=>simp only;rw[aG (.inl trivial)]
   ·rw[ED (by omega),List.drop_eq_nil_of_le (by omega)];rfl
  ·rw[aE h1,aE h1]
 ·rw[ED (by omega),List.drop_eq_nil_of_le (by omega),aE (by decide),aE (by decide),X8];rfl
theorem TV (x:By):(iJ x=some (pR x).1/\x≠[]/\(pR x).2=x.length/\(pR x).1.ok=true)∨(iJ x=none/\¬(x≠[]/\(pR x).2=x.length/\(pR x).1.ok=true)):=by
 unfold iJ;by_cases h:x≠[]/\(pR x).2=x.length/\(pR x).1.ok=true
 ·rw[aG h];exact .inl ⟨rfl,h⟩
 ·rw[aE h];exact .inr ⟨rfl,h⟩
theorem yU [MaxL] (ws : List By) (hw : ws.length < bH) (hx : ∀ w ∈ ws, w.length < 1000000) (a : Nat) (ha : a ≤ ws.length) (dp : Int) (gG : Bool) :
    match gB iJ (ws.drop a) with
    | some (t, r) => ∃ a', a ≤ a' ∧ a' ≤ ws.length ∧ r = ws.drop a' ∧ SC Tryz.prog 333 [.ptr 0 0] [qH ws a dp false gG] (.val (.agg (VS t))) [qH ws a' dp false gG]
    | none => ∃ a', a ≤ a' ∧ a' ≤ ws.length ∧ SC Tryz.prog 333 [.ptr 0 0] [qH ws a dp false gG] (.val (.agg (VS t0))) [qH ws a' dp true gG] := by
  have hn := I6 ws hw a dp false gG;have hn1 := WJ ws hw a dp false gG;have hn2 := WJ ws hw (a + 1) dp false gG;have hxl : (l7 ws a).length < 1000000 := by
    rcases dX a ws.length with h1 | h1
    · exact hx _ (by have := EE h1; exact List.mem_of_mem_drop (i := a) (by rw [this]; simp))
    · rw [ED h1]; decide
  have hw' := hw;unfold bH at hw';have hlen : (aZ ws).length = ws.length := aP ws;rw [VC];by_cases h1 : DD (l7 ws a) = true
  · rw [aG h1]
    have hlt := kL (RF h1).1;refine ⟨a + 1, by omega, hlt, rfl, ?_⟩;replace hn1 : SC Tryz.prog 341 [.ptr 0 0] [qH ws a dp false gG] (.val (.b (DD (l7 ws a)))) [qH ws a dp false gG] := hn1;rw [h1] at hn1;generalize l7 ws a = x at *;refine cZ Tryz.func333 rfl ?_;conv => whnf
    refine aW (q := 0) hn rfl (wR _) rfl rfl (dP ws a dp false gG) (dP ws a dp false gG) (fun _ => rfl) (.s _) ?_;conv => whnf
    refine aW (q := 0) hn1 rfl (wR _) rfl rfl (dP ws a dp false gG) (dP ws a dp false gG) (fun _ => rfl) (.b _) ?_;conv => whnf
    refine ⟨[.i .i64 (a + 1 : Nat)], ⟨(by rw [b8 (by omega)]; rfl), rL _, rfl, bL rfl⟩, ?_⟩;conv => whnf
    refine ⟨_, ⟨rfl, zL _, rfl, bL rfl⟩, ?_⟩;conv => whnf
    exact gC rfl (.refl _) (dP ws (a + 1 : Nat) dp false gG) (fun _ => rfl)
  rw [aE h1];have h1' : DD (l7 ws a) = false := by simpa using h1
  replace hn1 : SC Tryz.prog 341 [.ptr 0 0] [qH ws a dp false gG] (.val (.b (DD (l7 ws a)))) [qH ws a dp false gG] := hn1;rw [h1'] at hn1;by_cases h2 : l7 ws a = [58]
  · rw [aG h2]
    have hlt := kL (ws := ws) (a := a) (by rw [h2]; simp);replace hn2 : SC Tryz.prog 341 [.ptr 0 0] [qH ws (a + 1 : Nat) dp false gG] (.val (.b (DD (l7 ws (a + 1))))) [qH ws (a + 1 : Nat) dp false gG] := hn2;rw [h2] at hn;by_cases h3 : DD (l7 ws (a + 1)) = true
    · rw [aG h3]
      have hlt2 := kL (RF h3).1;have hget := V2 hlt2;refine ⟨a + 2, by omega, hlt2, rfl, ?_⟩;rw [h3] at hn2;generalize l7 ws (a + 1) = y at *;clear h1 h1' h2 hxl;refine cZ Tryz.func333 rfl ?_;conv => whnf
      refine aW (q := 0) hn rfl (wR _) rfl rfl (dP ws a dp false gG) (dP ws a dp false gG) (fun _ => rfl) (.s _) ?_;conv => whnf
      refine aW (q := 0) hn1 rfl (wR _) rfl rfl (dP ws a dp false gG) (dP ws a dp false gG) (fun _ => rfl) (.b _) ?_;conv => whnf
      refine ⟨[.i .i64 (a + 1 : Nat)], ⟨(by rw [b8 (by omega)]; rfl), rL _, rfl, bL rfl⟩, ?_⟩;conv => whnf
      refine aW (q := 0) hn2 rfl (wR _) rfl rfl (dP ws (a + 1 : Nat) dp false gG) (dP ws (a + 1 : Nat) dp false gG) (fun _ => rfl) (.b _) ?_;conv => whnf
      refine ⟨[.i .i64 (a + 2 : Nat)], ⟨(by rw [b8 (i := a + 1) (by omega)]; rfl), rL _, rfl, bL rfl⟩, ?_⟩;conv => whnf
      refine b9 (by kernel_rfl) ?_;conv => whnf
      have w2 : IntKind.i64.wrap (((a + 2 : Nat) : Int) - 1) = ((a + 1 : Nat) : Int) := by rw [cD (by omega) (by omega)]; omega
      refine ⟨by rw [w2]; exact cN _, .s y, by rw [w2, aC]; exact hget, rfl, ?_⟩;conv => whnf
      refine ⟨_, ⟨rfl, zL _, rfl, bL rfl⟩, ?_⟩;conv => whnf
      exact gC rfl (.refl _) (dP ws (a + 2 : Nat) dp false gG) (fun _ => rfl)
    · rw [aE h3]
      refine ⟨a + 1, by omega, hlt, ?_⟩;have h3' : DD (l7 ws (a + 1)) = false := by simpa using h3
      rw [h3'] at hn2;generalize l7 ws (a + 1) = y at *;clear h1 h1' h2 hxl;refine cZ Tryz.func333 rfl ?_;conv => whnf
      refine aW (q := 0) hn rfl (wR _) rfl rfl (dP ws a dp false gG) (dP ws a dp false gG) (fun _ => rfl) (.s _) ?_;conv => whnf
      refine aW (q := 0) hn1 rfl (wR _) rfl rfl (dP ws a dp false gG) (dP ws a dp false gG) (fun _ => rfl) (.b _) ?_;conv => whnf
      refine ⟨[.i .i64 (a + 1 : Nat)], ⟨(by rw [b8 (by omega)]; rfl), rL _, rfl, bL rfl⟩, ?_⟩;conv => whnf
      refine aW (q := 0) hn2 rfl (wR _) rfl rfl (dP ws (a + 1 : Nat) dp false gG) (dP ws (a + 1 : Nat) dp false gG) (fun _ => rfl) (.b _) ?_;conv => whnf
      refine ⟨_, ⟨rfl, zL _, rfl, bL rfl⟩, ?_⟩;conv => whnf
      refine ⟨_, ⟨rfl, zL _, rfl, bL rfl⟩, ?_⟩;conv => whnf
      exact gC rfl (.refl _) (dP ws (a + 1 : Nat) dp true gG) (fun _ => rfl)
  · rw [aE h2]
    have hl := TV (l7 ws a);have hlit := TN (l7 ws a) hxl;have hok := JM (pR (l7 ws a)).1;have hin := kL (ws := ws) (a := a);generalize l7 ws a = x at *;generalize pR x = q at *;obtain ⟨v, k⟩ := q;simp only at hl hlit hok;rcases hl with ⟨e, l1, l2, l3⟩ | ⟨e, l0⟩
    · rw [e]
      refine ⟨a + 1, by omega, hin l1, rfl, ?_⟩;rw [l3] at hok;refine cZ Tryz.func333 rfl ?_;conv => whnf
      refine aW (q := 0) hn rfl (wR _) rfl rfl (dP ws a dp false gG) (dP ws a dp false gG) (fun _ => rfl) (.s _) ?_;conv => whnf
      refine aW (q := 0) hn1 rfl (wR _) rfl rfl (dP ws a dp false gG) (dP ws a dp false gG) (fun _ => rfl) (.b _) ?_;conv => whnf
      refine aF (fun hc => ?_) (fun hc => ?_) <;> conv => whnf
      · exact absurd (by simpa using hc) h2
      refine bG hlit (wR _) rfl (fun _ => rfl) (fun _ => rfl) ?_;conv => whnf
      refine ⟨_, ⟨rfl, zL _, rfl, bL rfl⟩, ?_⟩;conv => whnf
      refine aF (fun s1 => ?_) (fun s1 => ?_) <;> conv => whnf
      rotate_left
      · exact absurd (by simpa using s1) l1
      refine aF (fun s2 => ?_) (fun s2 => ?_) <;> conv => whnf
      rotate_left
      · have := aB s2; exact absurd (by omega) this
      refine bG hok (wR _) rfl (fun _ => rfl) (.b _) ?_;conv => whnf
      refine ⟨[.i .i64 (a + 1 : Nat)], ⟨(by rw [b8 (by have := hin l1; omega)]; rfl), rL _, rfl, bL rfl⟩, ?_⟩;conv => whnf
      refine ⟨_, ⟨rfl, zL _, rfl, bL rfl⟩, ?_⟩;conv => whnf
      exact gC rfl (.refl _) (dP ws (a + 1 : Nat) dp false gG) (fun _ => rfl)
    · rw [e]
      refine ⟨a, rL _, ha, ?_⟩;refine cZ Tryz.func333 rfl ?_;conv => whnf
      refine aW (q := 0) hn rfl (wR _) rfl rfl (dP ws a dp false gG) (dP ws a dp false gG) (fun _ => rfl) (.s _) ?_;conv => whnf
      refine aW (q := 0) hn1 rfl (wR _) rfl rfl (dP ws a dp false gG) (dP ws a dp false gG) (fun _ => rfl) (.b _) ?_;conv => whnf
      refine aF (fun hc => ?_) (fun hc => ?_) <;> conv => whnf
      · exact absurd (by simpa using hc) h2
      refine bG hlit (wR _) rfl (fun _ => rfl) (fun _ => rfl) ?_;conv => whnf
      refine ⟨_, ⟨rfl, zL _, rfl, bL rfl⟩, ?_⟩;conv => whnf
      refine aF (fun s1 => ?_) (fun s1 => ?_) <;> conv => whnf
      · refine aF (fun s2 => ?_) (fun s2 => ?_) <;> conv => whnf
        · have hvo : v.ok = false := by
            cases hv : v.ok with
            | false => rfl
            | true => exact absurd ⟨by simpa using s1, by have : (k : Int) = (x.length : Int) := by simpa using s2
                                                          omega, hv⟩ l0
          rw [hvo] at hok;refine bG hok (wR _) rfl (fun _ => rfl) (.b _) ?_;conv => whnf
          refine ⟨_, ⟨rfl, zL _, rfl, bL rfl⟩, ?_⟩;conv => whnf
          refine ⟨_, ⟨rfl, zL _, rfl, bL rfl⟩, ?_⟩;conv => whnf
          exact gC rfl (.refl _) (dP ws a dp true gG) (fun _ => rfl)
        · skip
          refine ⟨_, ⟨rfl, zL _, rfl, bL rfl⟩, ?_⟩;conv => whnf
          refine ⟨_, ⟨rfl, zL _, rfl, bL rfl⟩, ?_⟩;conv => whnf
          exact gC rfl (.refl _) (dP ws a dp true gG) (fun _ => rfl)
      · skip
        refine ⟨_, ⟨rfl, zL _, rfl, bL rfl⟩, ?_⟩;conv => whnf
        refine ⟨_, ⟨rfl, zL _, rfl, bL rfl⟩, ?_⟩;conv => whnf
        exact gC rfl (.refl _) (dP ws a dp true gG) (fun _ => rfl)
