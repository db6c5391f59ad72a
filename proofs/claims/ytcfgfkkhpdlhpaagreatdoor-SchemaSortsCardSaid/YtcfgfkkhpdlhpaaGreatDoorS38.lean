/-
  A part of the proof of SchemaSorts.
-/
import Derived.Test.YtcfgfkkhpdlhpaaGreatDoorS37
set_option linter.all false
set_option maxRecDepth 100000
namespace Go.Proofs.YtcfgfkkhpdlhpaaGreatDoor
open Go.RowKit
def G4 (l:List UInt8):Bool:=[60,62].isPrefixOf l||[60,61].isPrefixOf l||[62,61].isPrefixOf l
theorem m4 (c:UInt8) (t:List UInt8):G4 (c::t)=true↔(c=60/\(t.head?=some 62∨t.head?=some 61))∨(c=62/\t.head?=some 61):=by
 cases t with
 |nil=>simp[G4,List.isPrefixOf]
 |cons d t=>
  simp only[G4,List.isPrefixOf,Bool.and_true,eR,aH,cT,List.head?_cons,iZ];constructor
  ·rintro((⟨rfl,rfl⟩|⟨rfl,rfl⟩)|⟨rfl,rfl⟩)
   ·exact .inl ⟨rfl,.inl rfl⟩
   ·exact .inl ⟨rfl,.inr rfl⟩
   ·exact .inr ⟨rfl,rfl⟩
  ·rintro(⟨rfl,rfl|rfl⟩|⟨rfl,rfl⟩)
   ·exact .inl (.inl ⟨rfl,rfl⟩)
   ·exact .inl (.inr ⟨rfl,rfl⟩)
   ·exact .inr ⟨rfl,rfl⟩
theorem uN (c:UInt8) (t:List UInt8):lL (c::t)=if G4 (c::t)=true then 2 else if(d8 c||(c==45&&t.head?.any cO))=true then pQ t else if c=34 then min (2+mP t) (t.length+1) else 1:=rfl
theorem BZ {c:UInt8} (h:d8 c=true):c≠60/\c≠62/\c≠45/\c≠34/\c≠40/\c≠41/\c≠58/\c≠61/\c≠32:=by
 refine⟨?_,?_,?_,?_,?_,?_,?_,?_,?_⟩<;>(rintro rfl;revert h;decide)
theorem JA {l:List UInt8} (h:eI l≠0):∃d r,l=d::r/\cO d=true:=by
 cases l with
 |nil=>exact absurd rfl h
 |cons d r=>
  refine⟨d,r,rfl,?_⟩;cases hd:cO d with
  |true=>rfl
  |false=>exact absurd (by unfold eI;rw[eW,hd];rfl) h
theorem E8 {c:UInt8} {t:List UInt8} (h:(jU (c::t)).2≠0):cO c=true∨(c=45/\∃d r,t=d::r/\cO d=true):=by
 by_cases h45:c=45
 ·subst h45;rw[PR] at h;refine .inr ⟨rfl,JA (fun e=>h (by rw[aF (.inl e)]))⟩
 ·rw[PQ (by simpa using h45)] at h;obtain⟨d,r,e,hd⟩:=JA (l:=c::t) (fun e=>h (by rw[aF (.inl e)]));cases e;exact .inl hd
theorem E9 {c:UInt8} {t:List UInt8} {v:Val} (h:cK (c::t)=some v) (h34:c≠34):(jU (c::t)).2=(c::t).length:=by
 rw[<-EA] at h;unfold iC at h;split at h
 ·rename_i hc;have:=hc.2.1;unfold pT at this;rw[aD (by simpa using h34)] at this;exact this
 ·cases h
theorem JZ (t:List UInt8):jK (34::t) 0=BT (34::t).length 0 (rq t):=by
 unfold jK;rw[aF (show(34::t)[0]?=some 34 from rfl)];rfl
theorem UB {t:List UInt8} {v:Val} (h:cK (34::t)=some v):∃s,rq t=some (s,[]):=by
 rw[<-EA] at h;unfold iC at h;split at h
 ·rename_i hc;have:=hc.2.1;unfold pT at this;rw[aF (show(34::t).head?=some 34 from rfl)] at this;replace this:(jK (34::t) 0).2=(34::t).length:=this;rw[JZ] at this;cases hr:rq t with
  |none=>rw[hr] at this;simp[BT] at this
  |some p=>
   rw[hr] at this;obtain⟨s,r⟩:=p;simp[BT] at this;have hl:=F9 t.length (rL _) hr;have:r=[]:=aN (by omega);exact⟨s,by rw[this]⟩
 ·cases h
theorem B8 (w:List UInt8):(B9 w).2=true↔0<(jU w).2/\(jU w).2=w.length:=by
 unfold B9;simp
theorem VV (c:UInt8) (t:List UInt8):(c::t).take (pQ t)=c::t.takeWhile d8:=by
 unfold pQ;rw[Nat.add_comm,j8];congr 1;have:=List.prefix_iff_eq_take.1 (gJ (l:=t) d8);exact this.symm
theorem VP {t:List UInt8} {d:UInt8} {r:List UInt8} (h:t.takeWhile d8=d::r):t.head?=some d:=by
 cases t with
 |nil=>cases h
 |cons a t=>
  rw[eW] at h;split at h
  ·cases h;rfl
  ·cases h
theorem sI {c:UInt8} (h:cO c=true):d8 c=true:=by
 unfold d8;rw[h];simp
theorem R7 {c:UInt8} {t:List UInt8} {k:Nat} (h:sw (c::t)=some k):lL (c::t)=k:=by
 rw[uN];simp only[sw] at h;split at h
 ·rename_i hi;have hn:=BZ hi.1;rw[aD (fun e=>by rcases(m4 c t).1 e with e|e;exact hn.1 e.1;exact hn.2.1 e.1),aF (by rw[hi.1];rfl)];split at h
  ·split at h
   ·exact aY h
   ·cases h
  ·split at h
   ·exact aY h
   ·cases h
 ·rename_i hi;split at h
  ·rename_i h45;subst h45;split at h
   ·rename_i hw;rw[VV] at hw;obtain⟨h1,h2⟩:=(B8 _).1 hw;rcases E8 (Nat.pos_iff_ne_zero.1 h1) with e|⟨_,d,r,e,hd⟩
    ·exact absurd e (by decide)
    ·rw[aD (fun e=>by rcases(m4 45 t).1 e with e|e<;>exact absurd e.1 (by decide)),aF (by rw[VP e];simp[hd])];exact aY h
   ·cases h
  ·rename_i h45;split at h
   ·rename_i h34;subst h34;split at h
    ·cases h
    ·rename_i hz;rw[aD (fun e=>by rcases(m4 34 t).1 e with e|e<;>exact absurd e.1 (by decide)),aD (by simp;decide),aF rfl];have hq:=JZ t;rw[hq] at h hz;cases hr:rq t with
     |none=>rw[hr] at hz;exact absurd rfl hz
     |some p=>
      obtain⟨s,r⟩:=p;rw[hr] at h;have hf:=xP t.length (rL _) hr;have hql:mP t=(s.flatMap mL).length:=by rw[hf];exact RU s r
      have hlen:=aQ List.length hf;simp only[aG,aJ] at hlen;simp only[BT,iZ,aJ] at h;rw[hql];omega
   ·rename_i h34;split at h
    ·rename_i hp;rw[aF ((m4 c t).2 hp)];exact aY h
    ·rename_i hp;split at h
     ·rename_i hm;have hin:d8 c=false:=by rcases hm with rfl|rfl|rfl|rfl|rfl|rfl<;>decide
      rw[aD (fun e=>hp ((m4 c t).1 e)),aD (by rw[hin];simp[h45]),aD h34];exact aY h
     ·cases h
def cw (w:By):Prop:=fP w=true∨(cK w).isSome=true∨w=[40]∨w=[41]∨w=[58]∨mU w=true
theorem IR {c:UInt8} {t:List UInt8} (h:fP (c::t)=true):m7 c=true:=by
 simp only[fP,aH] at h;exact h.1.2
theorem PD {c:UInt8} {t:List UInt8} (h:mU (c::t)=true):c=60∨c=61∨c=62:=by
 simp only[mU,TS,List.contains_eq_mem,aK,List.mem_cons,List.not_mem_nil,or_false] at h;rcases h with h|h|h|h|h|h<;>cases h<;>simp
theorem OC {c:UInt8} {t:List UInt8} (h:cw (c::t)):(m7 c=true/\fP (c::t)=true)∨(cO c=true/\∃v,cK (c::t)=some v)∨(c=45/\∃v,cK (c::t)=some v)∨(c=34/\∃v,cK (c::t)=some v)∨c=40∨c=41∨c=58∨c=60∨c=61∨c=62:=by
 rcases h with h|h|h|h|h|h
 ·exact .inl ⟨IR h,h⟩
 ·obtain⟨v,hv⟩:=Option.isSome_iff_exists.1 h;by_cases h34:c=34
  ·exact .inr (.inr (.inr (.inl ⟨h34,v,hv⟩)))
  ·have:=E9 hv h34;rcases E8 (c:=c) (t:=t) (by rw[this];simp) with e|e
   ·exact .inr (.inl ⟨e,v,hv⟩)
   ·exact .inr (.inr (.inl ⟨e.1,v,hv⟩))
 ·cases h;simp
 ·cases h;simp
 ·cases h;simp
 ·rcases PD h with rfl|rfl|rfl<;>simp
theorem I7 (c:UInt8):m7 c=true↔97<=c.toNat/\c.toNat<=122:=by simp[m7]
theorem M6 {c:UInt8} (h:m7 c=true):d8 c=true:=by unfold d8;rw[h];rfl
theorem VW {c:UInt8} {t:List UInt8} (h32:c≠32) (h:cw (HH (c::t))):sw (c::t)=some (lL (c::t)):=by
 have hw:∃u,HH (c::t)=c::u/\(c::u)=(c::t).take (lL (c::t)):=by
  have:=nC c t;unfold HH;obtain⟨k,hk⟩:∃k,lL (c::t)=k+1:=⟨lL (c::t) - 1,by omega⟩;exact⟨t.take k,by rw[hk];rfl,by rw[hk];rfl⟩
 obtain⟨u,hu,hu2⟩:=hw;rw[hu] at h;by_cases hin:d8 c=true
 ·have hn:=BZ hin;have hwl:lL (c::t)=pQ t:=by
   rw[uN,aD (fun e=>by rcases(m4 c t).1 e with e|e;exact hn.1 e.1;exact hn.2.1 e.1),aF (by rw[hin];rfl)]
  rw[hwl] at hu2⊢;simp only[sw];rcases OC h with⟨h1,h2⟩|⟨h1,v,h2⟩|h1|h1|h1
  ·have h97:=(I7 c).1 h1;rw[aF ⟨hin,by rintro rfl;revert h1;decide⟩,aF h97.1,aF (by rw[<-hu2];exact h2)]
  ·have h97:=(kC c).1 h1;rw[aF ⟨hin,by rintro rfl;revert h1;decide⟩,aD (by omega),aF (by
    rw[<-hu2,B8];have:=E9 h2 hn.2.2.2.1;exact⟨by rw[this];simp,this⟩)]
  ·exact absurd h1.1 hn.2.2.1
  ·exact absurd h1.1 hn.2.2.2.1
  ·rcases h1 with h1|h1|h1|h1|h1|h1
   ·exact absurd h1 hn.2.2.2.2.1
   ·exact absurd h1 hn.2.2.2.2.2.1
   ·exact absurd h1 hn.2.2.2.2.2.2.1
   ·exact absurd h1 hn.1
   ·exact absurd h1 hn.2.2.2.2.2.2.2.1
   ·exact absurd h1 hn.2.1
 ·have hin':d8 c=false:=by simpa using hin
  rcases OC h with⟨h1,h2⟩|⟨h1,v,h2⟩|⟨rfl,v,h2⟩|⟨rfl,v,h2⟩|h1
  ·exact absurd (M6 h1) hin
  ·exact absurd (sI h1) hin
  ·have hnum:=E9 h2 (by decide);rcases E8 (c:=45) (t:=u) (by rw[hnum];simp) with e|⟨_,d,r,e,hd⟩
   ·exact absurd e (by decide)
   ·have hwl:lL (45::t)=pQ t:=by
     rw[uN,aD (fun e=>by rcases(m4 45 t).1 e with e|e<;>exact absurd e.1 (by decide)),aF];subst e;have hle:=nC 45 t;cases t with
     |nil=>have:=aQ List.length hu2;simp at this;omega
     |cons a t=>
      obtain⟨k,hk⟩:∃k,lL (45::a::t)=k+1:=⟨lL (45::a::t) - 1,by omega⟩;rw[hk,j8] at hu2;cases k with
      |zero=>simp at hu2
      |succ k=>
       rw[j8] at hu2;simp at hu2;simp[<-hu2.1,hd]
    rw[hwl] at hu2⊢;simp only[sw];rw[aD (fun e=>hin e.1),aF trivial,aF (by rw[<-hu2,B8];exact⟨by rw[hnum];simp,hnum⟩)]
  ·obtain⟨s,hs⟩:=UB h2;have hf:=xP u.length (rL _) hs;have ht:t=u++t.drop u.length:=by
    have h3:u=t.take u.length:=by
     have hle:=nC 34 t;obtain⟨k,hk⟩:∃k,lL (34::t)=k+1:=⟨lL (34::t) - 1,by omega⟩;rw[hk,j8] at hu2;have h4:=(List.cons.inj hu2).2;rw[h4,bM];rcases Nat.le_total k t.length with hkt|hkt
     ·rw[Nat.min_eq_left hkt]
     ·rw[Nat.min_eq_right hkt,b6,cZ hkt]
    conv=>lhs;rw[<-e8 u.length t]
    rw[<-h3]
   generalize t.drop u.length=rest at ht;rw[hf,bG] at ht;replace ht:t=s.flatMap mL++34::rest:=ht;have hr:rq t=some (s,rest):=by rw[ht];exact a0y s rest
   have hq:=JZ t;have hlen:=aQ List.length ht;simp only[aG,aJ] at hlen;have hk:sw (34::t)=some (jK (34::t) 0).2:=by
    simp only[sw];rw[aD (fun e=>hin e.1),aD (by decide),aF trivial,aD];rw[hq,hr];simp only[BT,aJ];omega
   rw[hk,R7 hk]
  ·by_cases hp:G4 (c::t)=true
   ·have h2:=(m4 c t).1 hp;rw[uN,aF hp];simp only[sw];have hc:c=60∨c=62:=h2.elim (fun h=>.inl h.1) (fun h=>.inr h.1);rw[aD (fun e=>hin e.1),aD (by rcases hc with rfl|rfl<;>decide),aD (by rcases hc with rfl|rfl<;>decide),aF h2]
   ·have h45:c≠45:=by rcases h1 with rfl|rfl|rfl|rfl|rfl|rfl<;>decide
    have h34:c≠34:=by rcases h1 with rfl|rfl|rfl|rfl|rfl|rfl<;>decide
    rw[uN,aD hp,aD (by rw[hin'];simp[h45]),aD h34];simp only[sw];rw[aD (fun e=>hin e.1),aD h45,aD h34,aD (fun e=>hp ((m4 c t).2 e)),aF (by
     rcases h1 with h|h|h|h|h|h<;>simp[h])]
theorem a1Q {c:UInt8} (h:c≠32) (t:List UInt8):skip (c::t)=c::t:=by
 unfold skip;rw[List.dropWhile_cons,aD (by simpa using h)]
theorem uR (t:List UInt8):iG (32::t)=iG t:=by
 rw[<-BD (32::t),<-BD t];rfl
theorem P2 {c:UInt8} (h:c≠32) (t:List UInt8):iG (c::t)=HH (c::t)::iG ((c::t).drop (lL (c::t))):=mS (a1Q h t)
theorem wA:∀(f:Nat) (l:List UInt8) (ws:List By),kR f l=some ws->iG l=ws
 |0,_,_,h=>by cases h
 |f+1,[],ws,h=>by rw[yU] at h;cases h;exact kK rfl
 |f+1,c::t,ws,h=>by
  by_cases hc:c=32
  ·rw[hc,tM] at h;rw[hc,uR];exact wA f t ws h
  ·rw[tN f hc] at h;cases hk:sw (c::t) with
   |none=>rw[hk] at h;cases h
   |some k=>
    rw[hk] at h;simp only[aI] at h;obtain⟨ws',h1,rfl⟩:=h;have hw:=R7 hk;rw[P2 hc,hw,wA f _ _ h1];unfold HH;rw[hw]
theorem F0:∀(f:Nat) (l:List UInt8),l.length<f->(∀w∈iG l,cw w)->kR f l=some (iG l)
 |0,_,h,_=>by omega
 |f+1,[],_,_=>by rw[yU,kK rfl]
 |f+1,c::t,hl,h=>by
  simp only[aJ] at hl;by_cases hc:c=32
  ·rw[hc,uR] at h⊢;rw[tM];exact F0 f t (by omega) h
  ·rw[P2 hc] at h⊢;have hk:=VW hc (h (HH (c::t)) (by simp));have hp:=nC c t;rw[tN f hc,hk];simp only;rw[F0 f _ (by simp;omega) (fun w hw=>h w (by simp[hw]))];rfl
theorem EX:∀{ts r:List By} {t:Term},fV cK ts=some (t,r)->∃pre,ts=pre++r/\∀w∈pre,cw w
 |[],r,t,h=>by cases h
 |w::ts,r,t,h=>by
  unfold fV at h;split at h
  ·rename_i hw;split at h
   ·rename_i h1;split at h
    ·cases h
    ·cases h;obtain⟨pre,rfl,hp⟩:=EX h1;refine⟨w::pre,rfl,fun x hx=>?_⟩;rcases List.mem_cons.1 hx with rfl|hx
     ·exact .inr (.inr (.inr (.inr (.inl hw))))
     ·exact hp x hx
   ·cases h
  ·split at h
   ·rename_i hn;cases h;simp only[aH] at hn;exact⟨[w],rfl,fun x hx=>by rw[List.mem_singleton.1 hx];exact .inl hn.1⟩
   ·split at h
    ·rename_i v hv;cases h;exact⟨[w],rfl,fun x hx=>by rw[List.mem_singleton.1 hx];exact .inr (.inl (by rw[hv];rfl))⟩
    ·cases h
theorem xD {ts r:List By} {w:By} (hw:cw w) (h:∃pre,ts=pre++r/\∀w∈pre,cw w):∃pre,w::ts=pre++r/\∀w∈pre,cw w:=by
 obtain⟨pre,rfl,hp⟩:=h;exact⟨w::pre,rfl,fun x hx=>by
  rcases List.mem_cons.1 hx with rfl|hx
  ·exact hw
  ·exact hp x hx⟩
theorem uG {ts r r':List By} (h:∃pre,ts=pre++r/\∀w∈pre,cw w) (h':∃pre,r=pre++r'/\∀w∈pre,cw w):∃pre,ts=pre++r'/\∀w∈pre,cw w:=by
 obtain⟨p,rfl,hp⟩:=h;obtain⟨q,rfl,hq⟩:=h';exact⟨p++q,by simp,fun x hx=>(List.mem_append.1 hx).elim (hp x) (hq x)⟩
theorem AX (r:List By):∃pre,r=pre++r/\∀w∈pre,cw w:=⟨[],rfl,fun _ h=>by cases h⟩
theorem a3E:cw BA/\cw nD/\cw k9/\cw l5/\cw jS:=⟨.inl (by decide),.inl (by decide),.inl (by decide),.inl (by decide),.inl (by decide)⟩
theorem m5:∀(f:Nat) (m:Md) (lv d:Nat) (ts r:List By) (t:Tree) (e:Nat),bR cK f m lv d ts=some (t,r,e)->∃pre,ts=pre++r/\∀w∈pre,cw w
 |0,m,lv,d,ts,r,t,e,h=>by cases h
 |f+1,.or,lv,d,ts,r,t,e,h=>by
  unfold bR at h;split at h
  ·rename_i n r1 e1 h1;exact uG (m5 f _ _ _ _ _ _ _ h1) (m5 f _ _ _ _ _ _ _ h)
  ·cases h
 |f+1,.orL n,lv,d,ts,r,t,e,h=>by
  unfold bR at h;split at h
  ·rename_i hd;obtain⟨r0,rfl⟩:=fS hd (by decide);split at h
   ·rename_i n r1 e1 h1;exact xD a3E.1 (uG (m5 f _ _ _ _ _ _ _ h1) (m5 f _ _ _ _ _ _ _ h))
   ·cases h
  ·cases h;exact AX _
 |f+1,.and,lv,d,ts,r,t,e,h=>by
  unfold bR at h;split at h
  ·rename_i n r1 e1 h1;exact uG (m5 f _ _ _ _ _ _ _ h1) (m5 f _ _ _ _ _ _ _ h)
  ·cases h
 |f+1,.andL n,lv,d,ts,r,t,e,h=>by
  unfold bR at h;split at h
  ·rename_i hd;obtain⟨r0,rfl⟩:=fS hd (by decide);split at h
   ·rename_i n r1 e1 h1;exact xD a3E.2.1 (uG (m5 f _ _ _ _ _ _ _ h1) (m5 f _ _ _ _ _ _ _ h))
   ·cases h
  ·cases h;exact AX _
 |f+1,.not,lv,d,ts,r,t,e,h=>by
  unfold bR at h;split at h
  ·rename_i hd;obtain⟨r0,rfl⟩:=fS hd (by decide);split at h
   ·rename_i n r1 e1 h1;cases h;exact xD a3E.2.2.1 (m5 f _ _ _ _ _ _ _ h1)
   ·cases h
  ·exact m5 f _ _ _ _ _ _ _ h
 |f+1,.prim,lv,d,ts,r,t,e,h=>by
  unfold bR at h;split at h
  ·rename_i hd;obtain⟨r0,rfl⟩:=fS hd (by decide);cases h;exact xD a3E.2.2.2.1 (AX _)
  ·split at h
   ·rename_i hd;obtain⟨r0,rfl⟩:=fS hd (by decide);cases h;exact xD a3E.2.2.2.2 (AX _)
   ·split at h
    ·rename_i hd;obtain⟨r0,rfl⟩:=fS hd (by decide);split at h
     ·rename_i n r1 e1 h1;split at h
      ·rename_i hr;obtain⟨r2,rfl⟩:=fS hr (by decide);cases h;exact xD (.inr (.inr (.inl rfl))) (uG (m5 f _ _ _ _ _ _ _ h1) (xD (.inr (.inr (.inr (.inl rfl)))) (AX _)))
      ·cases h
     ·cases h
    ·split at h
     ·rename_i a r1 h1;split at h
      ·rename_i hrel;split at h
       ·rename_i b r2 h2;cases h;refine uG (EX h1) ?_;obtain⟨q,hq⟩:∃q,r1=r1.headD []::q:=by
         cases r1 with
         |nil=>exact absurd hrel (by decide)
         |cons a q=>exact⟨q,rfl⟩
        conv=>enter [1,pre];rw[hq]
        refine xD (.inr (.inr (.inr (.inr (.inr hrel))))) ?_;have:r1.tail=q:=by rw[hq];rfl
        rw[<-this];exact EX h2
       ·cases h
      ·cases h
     ·cases h
def lJ (s:By):RdE:=if 1000<s.length then .err 3 else match BG s with
 |none=>.err 2
 |some ws=>match bR iC (jM s) .or 0 0 ws with
  |some (t,r,e)=>if r=[] then(if 20<e then .err 4 else .ok t) else .err 2
  |none=>.err 2
theorem A5 (s:By):mE s=match lJ s with
  |.ok t=>.ok t.flat
  |.err e=>.err e:=by
 have hl:iC=cK:=funext EA;unfold mE lJ;by_cases h1:1000<s.length
 ·rw[aF h1,aF h1]
 ·rw[aD h1,aD h1,hl];cases hs:BG s with
  |some ws=>
   rw[wA _ _ _ hs];simp only;cases hp:bR cK (jM s) .or 0 0 ws with
   |none=>rfl
   |some p=>
    obtain⟨t,r,e⟩:=p;simp only;cases r with
    |nil=>
     simp only[List.headD_nil,beq_self_eq_true,fK];split<;>rfl
    |cons w r=>
     have hne:w≠[]:=by
      obtain⟨pre,e1,_⟩:=m5 _ _ _ _ _ _ _ _ hp;exact JM s.length s (rL _) w (by rw[wA _ _ _ hs,e1];simp)
     rw[aD (by simpa using hne),aD (by simp)]
  |none=>
   simp only;cases hp:bR cK (jM s) .or 0 0 (iG s) with
   |none=>rfl
   |some p=>
    obtain⟨t,r,e⟩:=p;simp only;obtain⟨pre,e1,h2⟩:=m5 _ _ _ _ _ _ _ _ hp;cases r with
    |nil=>
     exfalso;rw[gC] at e1;have:=F0 (s.length+1) s (by omega) (by rw[e1];exact h2);unfold BG at hs;rw[hs] at this;cases this
    |cons w r=>
     have hne:w≠[]:=JM s.length s (rL _) w (by rw[e1];simp);rw[aD (by simpa using hne)]
def qM (ws:List By) (a dp:Int) (bad gE:Bool):GObj:=.box 250 [.sl .none (bA ws),.i .i64 a,.i .i64 dp,.b bad,.b gE]
theorem dO [MaxL] (ws:List By) (a dp:Int) (bad gE:Bool):ClL [.sl .none (bA ws),.i .i64 a,.i .i64 dp,.b bad,.b gE]:=.cons (bT (uU ws)) (fun _=>rfl)
theorem bQ [MaxL] {ws:List By} {a dp:Int} {bad gE:Bool}:ClL [.sl .none (bA ws),.i .i64 a,.i .i64 dp,.b bad,.b gE]:=dO ws a dp bad gE
def l4 (ws:List By) (a:Nat):By:=(ws.drop a).headD []
theorem VL {ws:List By} {a:Nat} (h:a<ws.length):(bA ws)[a]?=some (.s (l4 ws a)):=by
 unfold l4 bA;rw[aM,aT h,gL h];rfl
theorem EP {ws:List By} {a:Nat} (h:ws.length<=a):l4 ws a=[]:=by
 unfold l4;rw[j0 h];rfl
theorem ID [MaxL] (ws:List By) (hw:ws.length<bB) (a:Nat) (dp:Int) (bad gE:Bool):SC Tryz.prog 306 [.ptr 0 0] [qM ws a dp bad gE] (.val (.s (l4 ws a))) [qM ws a dp bad gE]:=by
 have hl:(bA ws).length=ws.length:=aP ws;unfold bB at hw;refine cY Tryz.func306 rfl ?_;conv=>whnf
 refine aZ (by kernel_rfl) ?_;conv=>whnf
 refine aE (fun h=>?_) (fun h=>?_)<;>conv=>whnf
 ·have ha:a<ws.length:=by have:=aB h;rw[hl] at this;omega
  refine aZ (by kernel_rfl) ?_;conv=>whnf
  refine⟨cN _,.s (l4 ws a),by rw[aA];exact VL ha,rfl,?_⟩;conv=>whnf
  exact kH rfl rfl (dO ws a dp bad gE)
 ·have ha:ws.length<=a:=by have:=aC h;rw[hl] at this;omega
  rw[EP ha];exact kH rfl rfl (dO ws a dp bad gE)
def zV (ws:List By) (a:Nat) (bad:Bool) (w:By):Bool:=!bad&&(l4 ws a==w)
theorem PJ [MaxL] (ws:List By) (hw:ws.length<bB) (a:Nat) (ha:a<=ws.length) (dp:Int) (bad gE:Bool) (w:By):
  SC Tryz.prog 268 [.ptr 0 0,.s w] [qM ws a dp bad gE] (.val (.b (zV ws a bad w))) [qM ws (if zV ws a bad w then a+1 else a:Nat) dp bad gE]:=by
 have hn:=ID ws hw a dp bad gE;have hw':=hw;unfold bB at hw';cases bad with
 |true=>
  refine cY Tryz.func268 rfl ?_;conv=>whnf
  exact sA rfl rfl (dO ws a dp true gE)
 |false=>
  have e:zV ws a false w=(l4 ws a==w):=by simp[zV]
  rw[e];generalize l4 ws a=x at*;refine cY Tryz.func268 rfl ?_;conv=>whnf
  refine aW (q:=0) hn rfl (wR _) rfl rfl (dO ws a dp false gE) (dO ws a dp false gE) (fun _=>rfl) (.s _) ?_;conv=>whnf
  refine aE (fun hc=>?_) (fun hc=>?_)<;>conv=>whnf
  ·have e2:(x==w)=false:=by simpa using hc
   rw[e2];exact sA rfl rfl (dO ws a dp false gE)
  ·have e2:(x==w)=true:=by simpa using hc
   rw[e2];refine⟨[.i .i64 (a+1:Nat)],⟨(by rw[b7 (by omega)];rfl),rL _,rfl,bL rfl⟩,?_⟩;(conv=>whnf);exact sA rfl rfl (dO ws (a+1:Nat) dp false gE)
theorem WY [MaxL] (ws:List By) (hw:ws.length<bB) (a:Nat) (dp:Int) (bad gE:Bool):
  SC Tryz.prog 341 [.ptr 0 0] [qM ws a dp bad gE] (.val (.b (fP (l4 ws a)&&!a2y.contains (l4 ws a)))) [qM ws a dp bad gE]:=by
 have hn:=ID ws hw a dp bad gE;generalize l4 ws a=x at*;refine cY Tryz.func341 rfl ?_;conv=>whnf
 refine aW (q:=0) hn rfl (wR _) rfl rfl (dO ws a dp bad gE) (dO ws a dp bad gE) (fun _=>rfl) (.s _) ?_;conv=>whnf
 refine lM (BS x) ?_;conv=>whnf
 refine aE (fun h1=>?_) (fun h1=>?_)<;>conv=>whnf
 ·skip;refine lM (a1h x) ?_;conv=>whnf
  refine sA rfl ?_ (dO ws a dp bad gE);rw[h1];rfl
 ·refine sA rfl ?_ (dO ws a dp bad gE);rw[h1];rfl
theorem a2f [MaxL] (ws:List By) (a lv:Nat) (hl:lv<1000000) (bad gE:Bool):
  SC Tryz.prog 323 [.ptr 0 0] [qM ws a lv bad gE] (.val (.tup [])) [qM ws a (lv+1:Nat) bad (gE||decide (20<lv+1))]:=by
 have e:IntKind.i64.wrap ((lv:Int)+1)=((lv+1:Nat):Int):=DX hl;refine cY Tryz.func323 rfl ?_;conv=>whnf
 refine⟨[.i .i64 (lv+1:Nat)],⟨(by rw[e];rfl),rL _,rfl,bL rfl⟩,?_⟩;conv=>whnf
 have e2:((20:Int)<((lv+1:Nat):Int))↔20<lv+1:=by omega
 refine aE (fun h=>?_) (fun h=>?_)<;>conv=>whnf
 ·have h':20<lv+1:=by have:=aB h;omega
  refine⟨_,⟨rfl,zL _,rfl,bL rfl⟩,?_⟩;conv=>whnf
  refine fW ?_ (.refl _) (dO ws a (lv+1:Nat) bad _) (fun _=>rfl);rw[bN h',Bool.or_true];rfl
 ·have h':¬20<lv+1:=by have:=aC h;omega
  refine fW ?_ (.refl _) (dO ws a (lv+1:Nat) bad _) (fun _=>rfl);rw[cD h',Bool.or_false]
def W6 (t:Term):List GV:=[.s (if t.var then[] else t.name),.s (if t.var then t.name else[]),.i .i64 t.v.k,.i .i64 t.v.n,.s t.v.s]
def t0:Term:=⟨[],false,v0⟩
theorem BK [MaxL] (t:Term):ClL (W6 t):=fun _=>rfl
theorem FF [MaxL] (ws:List By) (hw:ws.length<bB) (a:Nat) (dp:Int) (gE:Bool):
  SC Tryz.prog 333 [.ptr 0 0] [qM ws a dp true gE] (.val (.agg (W6 t0))) [qM ws a dp true gE]:=by
 have hn:=ID ws hw a dp true gE;generalize l4 ws a=x at*;refine cY Tryz.func333 rfl ?_;conv=>whnf
 refine aW (q:=0) hn rfl (wR _) rfl rfl (dO ws a dp true gE) (dO ws a dp true gE) (fun _=>rfl) (.s _) ?_;conv=>whnf
 refine⟨_,⟨rfl,zL _,rfl,bL rfl⟩,?_⟩;conv=>whnf
 exact fW rfl (.refl _) (dO ws a dp true gE) (fun _=>rfl)
def DP (x:By):Bool:=fP x&&!a2y.contains x
theorem EY {lit:By->Option Val} (w:By) (ts:List By):fV lit (w::ts)=if w=[58] then(match fV lit ts with
   |some (t,r)=>if t.name=[]∨t.var=true then none else some (⟨t.name,true,t.v⟩,r)
   |none=>none)
  else if DP w then some (⟨w,false,v0⟩,ts) else match lit w with
   |some v=>some (⟨[],false,v⟩,ts)
   |none=>none:=by
 conv=>lhs;unfold fV
 rfl
theorem EQ {ws:List By} {a:Nat} (h:a<ws.length):ws.drop a=l4 ws a::ws.drop (a+1):=by
 unfold l4;rw[aT h];rfl
theorem S4 {x:By} (h:DP x=true):x≠[]/\x≠[58]:=by
 constructor<;>(rintro rfl;exact absurd h (by decide))
theorem kJ {ws:List By} {a:Nat} (h:l4 ws a≠[]):a<ws.length:=by
 rcases eO a ws.length with h1|h1
 ·exact h1
 ·exact absurd (EP h1) h
theorem XP:iC []=none:=by unfold iC;rw[aD (fun h=>h.1 rfl)]
theorem VU (ws:List By) (a:Nat):fV iC (ws.drop a)=if DP (l4 ws a) then some (⟨l4 ws a,false,v0⟩,ws.drop (a+1)) else if l4 ws a=[58] then
   (if DP (l4 ws (a+1)) then some (⟨l4 ws (a+1),true,v0⟩,ws.drop (a+2)) else none)
  else match iC (l4 ws a) with
   |some v=>some (⟨[],false,v⟩,ws.drop (a+1))
   |none=>none:=by
 by_cases ha:a<ws.length
 ·rw[EQ ha,EY];by_cases h1:l4 ws a=[58]
  ·rw[aF h1,h1,aD (by decide),aF rfl];by_cases hb:a+1<ws.length
   ·rw[EQ hb,EY];by_cases h3:DP (l4 ws (a+1))=true
    ·rw[aF h3,aD (S4 h3).2,aF h3];simp only;rw[aD (by rintro(h|h);exact(S4 h3).1 h;cases h)]
    ·rw[aD h3,aD h3];by_cases h4:l4 ws (a+1)=[58]
     ·rw[aF h4];cases fV iC (ws.drop (a+1+1)) with
      |none=>rfl
      |some p=>
       obtain⟨t,r⟩:=p;simp only;by_cases h5:t.name=[]∨t.var=true
       ·rw[aF h5]
       ·rw[aD h5];simp only;rw[aF (.inr trivial)]
     ·rw[aD h4];cases iC (l4 ws (a+1)) with
      |none=>rfl
      |some v=>simp only;rw[aF (.inl trivial)]
   ·rw[EP (by omega),j0 (by omega)];rfl
  ·rw[aD h1,aD h1]
 ·rw[EP (by omega),j0 (by omega),aD (by decide),aD (by decide),XP];rfl
theorem UC (x:By):(iC x=some (pT x).1/\x≠[]/\(pT x).2=x.length/\(pT x).1.ok=true)∨(iC x=none/\¬(x≠[]/\(pT x).2=x.length/\(pT x).1.ok=true)):=by
 unfold iC;by_cases h:x≠[]/\(pT x).2=x.length/\(pT x).1.ok=true
 ·rw[aF h];exact .inl ⟨rfl,h⟩
 ·rw[aD h];exact .inr ⟨rfl,h⟩
theorem yZ [MaxL] (ws : List By) (hw : ws.length < bB) (hx : ∀ w ∈ ws, w.length < 1000000) (a : Nat) (ha : a ≤ ws.length) (dp : Int) (gE : Bool) :
    match fV iC (ws.drop a) with
    | some (t, r) => ∃ a', a ≤ a' ∧ a' ≤ ws.length ∧ r = ws.drop a' ∧ SC Tryz.prog 333 [.ptr 0 0] [qM ws a dp false gE] (.val (.agg (W6 t))) [qM ws a' dp false gE]
    | none => ∃ a', a ≤ a' ∧ a' ≤ ws.length ∧ SC Tryz.prog 333 [.ptr 0 0] [qM ws a dp false gE] (.val (.agg (W6 t0))) [qM ws a' dp true gE] := by
  have hn := ID ws hw a dp false gE;have hn1 := WY ws hw a dp false gE;have hn2 := WY ws hw (a + 1) dp false gE;have hxl : (l4 ws a).length < 1000000 := by
    rcases eO a ws.length with h1 | h1
    · exact hx _ (by have := EQ h1; exact List.mem_of_mem_drop (i := a) (by rw [this]; simp))
    · rw [EP h1]; decide
  have hw' := hw;unfold bB at hw';have hlen : (bA ws).length = ws.length := aP ws;rw [VU];by_cases h1 : DP (l4 ws a) = true
  · rw [aF h1]
    have hlt := kJ (S4 h1).1;refine ⟨a + 1, by omega, hlt, rfl, ?_⟩;replace hn1 : SC Tryz.prog 341 [.ptr 0 0] [qM ws a dp false gE] (.val (.b (DP (l4 ws a)))) [qM ws a dp false gE] := hn1;rw [h1] at hn1;generalize l4 ws a = x at *;refine cY Tryz.func333 rfl ?_;conv => whnf
    refine aW (q := 0) hn rfl (wR _) rfl rfl (dO ws a dp false gE) (dO ws a dp false gE) (fun _ => rfl) (.s _) ?_;conv => whnf
    refine aW (q := 0) hn1 rfl (wR _) rfl rfl (dO ws a dp false gE) (dO ws a dp false gE) (fun _ => rfl) (.b _) ?_;conv => whnf
    refine ⟨[.i .i64 (a + 1 : Nat)], ⟨(by rw [b7 (by omega)]; rfl), rL _, rfl, bL rfl⟩, ?_⟩;conv => whnf
    refine ⟨_, ⟨rfl, zL _, rfl, bL rfl⟩, ?_⟩;conv => whnf
    exact fW rfl (.refl _) (dO ws (a + 1 : Nat) dp false gE) (fun _ => rfl)
  rw [aD h1];have h1' : DP (l4 ws a) = false := by simpa using h1
  replace hn1 : SC Tryz.prog 341 [.ptr 0 0] [qM ws a dp false gE] (.val (.b (DP (l4 ws a)))) [qM ws a dp false gE] := hn1;rw [h1'] at hn1;by_cases h2 : l4 ws a = [58]
  · rw [aF h2]
    have hlt := kJ (ws := ws) (a := a) (by rw [h2]; simp);replace hn2 : SC Tryz.prog 341 [.ptr 0 0] [qM ws (a + 1 : Nat) dp false gE] (.val (.b (DP (l4 ws (a + 1))))) [qM ws (a + 1 : Nat) dp false gE] := hn2;rw [h2] at hn;by_cases h3 : DP (l4 ws (a + 1)) = true
    · rw [aF h3]
      have hlt2 := kJ (S4 h3).1;have hget := VL hlt2;refine ⟨a + 2, by omega, hlt2, rfl, ?_⟩;rw [h3] at hn2;generalize l4 ws (a + 1) = y at *;clear h1 h1' h2 hxl;refine cY Tryz.func333 rfl ?_;conv => whnf
      refine aW (q := 0) hn rfl (wR _) rfl rfl (dO ws a dp false gE) (dO ws a dp false gE) (fun _ => rfl) (.s _) ?_;conv => whnf
      refine aW (q := 0) hn1 rfl (wR _) rfl rfl (dO ws a dp false gE) (dO ws a dp false gE) (fun _ => rfl) (.b _) ?_;conv => whnf
      refine ⟨[.i .i64 (a + 1 : Nat)], ⟨(by rw [b7 (by omega)]; rfl), rL _, rfl, bL rfl⟩, ?_⟩;conv => whnf
      refine aW (q := 0) hn2 rfl (wR _) rfl rfl (dO ws (a + 1 : Nat) dp false gE) (dO ws (a + 1 : Nat) dp false gE) (fun _ => rfl) (.b _) ?_;conv => whnf
      refine ⟨[.i .i64 (a + 2 : Nat)], ⟨(by rw [b7 (i := a + 1) (by omega)]; rfl), rL _, rfl, bL rfl⟩, ?_⟩;conv => whnf
      refine aZ (by kernel_rfl) ?_;conv => whnf
      have w2 : IntKind.i64.wrap (((a + 2 : Nat) : Int) - 1) = ((a + 1 : Nat) : Int) := by rw [bV (by omega) (by omega)]; omega
      refine ⟨by rw [w2]; exact cN _, .s y, by rw [w2, aA]; exact hget, rfl, ?_⟩;conv => whnf
      refine ⟨_, ⟨rfl, zL _, rfl, bL rfl⟩, ?_⟩;conv => whnf
      exact fW rfl (.refl _) (dO ws (a + 2 : Nat) dp false gE) (fun _ => rfl)
    · rw [aD h3]
      refine ⟨a + 1, by omega, hlt, ?_⟩;have h3' : DP (l4 ws (a + 1)) = false := by simpa using h3
      rw [h3'] at hn2;generalize l4 ws (a + 1) = y at *;clear h1 h1' h2 hxl;refine cY Tryz.func333 rfl ?_;conv => whnf
      refine aW (q := 0) hn rfl (wR _) rfl rfl (dO ws a dp false gE) (dO ws a dp false gE) (fun _ => rfl) (.s _) ?_;conv => whnf
      refine aW (q := 0) hn1 rfl (wR _) rfl rfl (dO ws a dp false gE) (dO ws a dp false gE) (fun _ => rfl) (.b _) ?_;conv => whnf
      refine ⟨[.i .i64 (a + 1 : Nat)], ⟨(by rw [b7 (by omega)]; rfl), rL _, rfl, bL rfl⟩, ?_⟩;conv => whnf
      refine aW (q := 0) hn2 rfl (wR _) rfl rfl (dO ws (a + 1 : Nat) dp false gE) (dO ws (a + 1 : Nat) dp false gE) (fun _ => rfl) (.b _) ?_;conv => whnf
      refine ⟨_, ⟨rfl, zL _, rfl, bL rfl⟩, ?_⟩;conv => whnf
      refine ⟨_, ⟨rfl, zL _, rfl, bL rfl⟩, ?_⟩;conv => whnf
      exact fW rfl (.refl _) (dO ws (a + 1 : Nat) dp true gE) (fun _ => rfl)
  · rw [aD h2]
    have hl := UC (l4 ws a);have hlit := U3 (l4 ws a) hxl;have hok := A7 (pT (l4 ws a)).1;have hin := kJ (ws := ws) (a := a);generalize l4 ws a = x at *;generalize pT x = q at *;obtain ⟨v, k⟩ := q;simp only at hl hlit hok;rcases hl with ⟨e, l1, l2, l3⟩ | ⟨e, l0⟩
    · rw [e]
      refine ⟨a + 1, by omega, hin l1, rfl, ?_⟩;rw [l3] at hok;refine cY Tryz.func333 rfl ?_;conv => whnf
      refine aW (q := 0) hn rfl (wR _) rfl rfl (dO ws a dp false gE) (dO ws a dp false gE) (fun _ => rfl) (.s _) ?_;conv => whnf
      refine aW (q := 0) hn1 rfl (wR _) rfl rfl (dO ws a dp false gE) (dO ws a dp false gE) (fun _ => rfl) (.b _) ?_;conv => whnf
      refine aE (fun hc => ?_) (fun hc => ?_) <;> conv => whnf
      · exact absurd (by simpa using hc) h2
      refine bD hlit (wR _) rfl (fun _ => rfl) (fun _ => rfl) ?_;conv => whnf
      refine ⟨_, ⟨rfl, zL _, rfl, bL rfl⟩, ?_⟩;conv => whnf
      refine aE (fun s1 => ?_) (fun s1 => ?_) <;> conv => whnf
      rotate_left
      · exact absurd (by simpa using s1) l1
      refine aE (fun s2 => ?_) (fun s2 => ?_) <;> conv => whnf
      rotate_left
      · have := aC s2; exact absurd (by omega) this
      refine bD hok (wR _) rfl (fun _ => rfl) (.b _) ?_;conv => whnf
      refine ⟨[.i .i64 (a + 1 : Nat)], ⟨(by rw [b7 (by have := hin l1; omega)]; rfl), rL _, rfl, bL rfl⟩, ?_⟩;conv => whnf
      refine ⟨_, ⟨rfl, zL _, rfl, bL rfl⟩, ?_⟩;conv => whnf
      exact fW rfl (.refl _) (dO ws (a + 1 : Nat) dp false gE) (fun _ => rfl)
    · rw [e]
      refine ⟨a, rL _, ha, ?_⟩;refine cY Tryz.func333 rfl ?_;conv => whnf
      refine aW (q := 0) hn rfl (wR _) rfl rfl (dO ws a dp false gE) (dO ws a dp false gE) (fun _ => rfl) (.s _) ?_;conv => whnf
      refine aW (q := 0) hn1 rfl (wR _) rfl rfl (dO ws a dp false gE) (dO ws a dp false gE) (fun _ => rfl) (.b _) ?_;conv => whnf
      refine aE (fun hc => ?_) (fun hc => ?_) <;> conv => whnf
      · exact absurd (by simpa using hc) h2
      refine bD hlit (wR _) rfl (fun _ => rfl) (fun _ => rfl) ?_;conv => whnf
      refine ⟨_, ⟨rfl, zL _, rfl, bL rfl⟩, ?_⟩;conv => whnf
      refine aE (fun s1 => ?_) (fun s1 => ?_) <;> conv => whnf
      · refine aE (fun s2 => ?_) (fun s2 => ?_) <;> conv => whnf
        · have hvo : v.ok = false := by
            cases hv : v.ok with
            | false => rfl
            | true => exact absurd ⟨by simpa using s1, by have : (k : Int) = (x.length : Int) := by simpa using s2
                                                          omega, hv⟩ l0
          rw [hvo] at hok;refine bD hok (wR _) rfl (fun _ => rfl) (.b _) ?_;conv => whnf
          refine ⟨_, ⟨rfl, zL _, rfl, bL rfl⟩, ?_⟩;conv => whnf
          refine ⟨_, ⟨rfl, zL _, rfl, bL rfl⟩, ?_⟩;conv => whnf
          exact fW rfl (.refl _) (dO ws a dp true gE) (fun _ => rfl)
        · skip
          refine ⟨_, ⟨rfl, zL _, rfl, bL rfl⟩, ?_⟩;conv => whnf
          refine ⟨_, ⟨rfl, zL _, rfl, bL rfl⟩, ?_⟩;conv => whnf
          exact fW rfl (.refl _) (dO ws a dp true gE) (fun _ => rfl)
      · skip
        refine ⟨_, ⟨rfl, zL _, rfl, bL rfl⟩, ?_⟩;conv => whnf
        refine ⟨_, ⟨rfl, zL _, rfl, bL rfl⟩, ?_⟩;conv => whnf
        exact fW rfl (.refl _) (dO ws a dp true gE) (fun _ => rfl)
