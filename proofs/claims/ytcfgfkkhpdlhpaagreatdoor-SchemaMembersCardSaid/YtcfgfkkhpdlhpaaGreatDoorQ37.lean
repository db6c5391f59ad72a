/-
  A part of the proof of SchemaMembers.
-/
import Derived.Test.YtcfgfkkhpdlhpaaGreatDoorQ36
set_option linter.all false
set_option maxRecDepth 100000
namespace Go.Proofs.YtcfgfkkhpdlhpaaGreatDoor
open Go.RowKit
def EW (l:List UInt8):Bool:=[60,62].isPrefixOf l||[60,61].isPrefixOf l||[62,61].isPrefixOf l
theorem lR (c:UInt8) (t:List UInt8):EW (c::t)=true↔(c=60/\(t.head?=some 62∨t.head?=some 61))∨(c=62/\t.head?=some 61):=by
 cases t with
 |nil=>simp[EW,List.isPrefixOf]
 |cons d t=>
  simp only[EW,List.isPrefixOf,Bool.and_true,eW,aH,dA,List.head?_cons,iZ];constructor
  ·rintro((⟨rfl,rfl⟩|⟨rfl,rfl⟩)|⟨rfl,rfl⟩)
   ·exact .inl ⟨rfl,.inl rfl⟩
   ·exact .inl ⟨rfl,.inr rfl⟩
   ·exact .inr ⟨rfl,rfl⟩
  ·rintro(⟨rfl,rfl|rfl⟩|⟨rfl,rfl⟩)
   ·exact .inl (.inl ⟨rfl,rfl⟩)
   ·exact .inl (.inr ⟨rfl,rfl⟩)
   ·exact .inr ⟨rfl,rfl⟩
theorem tX (c:UInt8) (t:List UInt8):l9 (c::t)=if EW (c::t)=true then 2 else if(cV c||(c==45&&t.head?.any cJ))=true then oZ t else if c=34 then min (2+mF t) (t.length+1) else 1:=rfl
theorem B6 {c:UInt8} (h:cV c=true):c≠60/\c≠62/\c≠45/\c≠34/\c≠40/\c≠41/\c≠58/\c≠61/\c≠32:=by
 refine⟨?_,?_,?_,?_,?_,?_,?_,?_,?_⟩<;>(rintro rfl;revert h;decide)
theorem I5 {l:List UInt8} (h:eI l≠0):∃d r,l=d::r/\cJ d=true:=by
 cases l with
 |nil=>exact absurd rfl h
 |cons d r=>
  refine⟨d,r,rfl,?_⟩;cases hd:cJ d with
  |true=>rfl
  |false=>exact absurd (by unfold eI;rw[eS,hd];rfl) h
theorem DF {c:UInt8} {t:List UInt8} (h:(jP (c::t)).2≠0):cJ c=true∨(c=45/\∃d r,t=d::r/\cJ d=true):=by
 by_cases h45:c=45
 ·subst h45;rw[NY] at h;refine .inr ⟨rfl,I5 (fun e=>h (by rw[aG (.inl e)]))⟩
 ·rw[NX (by simpa using h45)] at h;obtain⟨d,r,e,hd⟩:=I5 (l:=c::t) (fun e=>h (by rw[aG (.inl e)]));cases e;exact .inl hd
theorem DG {c:UInt8} {t:List UInt8} {v:Val} (h:cE (c::t)=some v) (h34:c≠34):(jP (c::t)).2=(c::t).length:=by
 rw[<-DH] at h;unfold iB at h;split at h
 ·rename_i hc;have:=hc.2.1;unfold pH at this;rw[aE (by simpa using h34)] at this;exact this
 ·cases h
theorem IN (t:List UInt8):jH (34::t) 0=AX (34::t).length 0 (rq t):=by
 unfold jH;rw[aG (show(34::t)[0]?=some 34 from rfl)];rfl
theorem SF {t:List UInt8} {v:Val} (h:cE (34::t)=some v):∃s,rq t=some (s,[]):=by
 rw[<-DH] at h;unfold iB at h;split at h
 ·rename_i hc;have:=hc.2.1;unfold pH at this;rw[aG (show(34::t).head?=some 34 from rfl)] at this;replace this:(jH (34::t) 0).2=(34::t).length:=this;rw[IN] at this;cases hr:rq t with
  |none=>rw[hr] at this;simp[AX] at this
  |some p=>
   rw[hr] at this;obtain⟨s,r⟩:=p;simp[AX] at this;have hl:=EB t.length (rL _) hr;have:r=[]:=aM (by omega);exact⟨s,by rw[this]⟩
 ·cases h
theorem AD (w:List UInt8):(AE w).2=true↔0<(jP w).2/\(jP w).2=w.length:=by
 unfold AE;simp
theorem TW (c:UInt8) (t:List UInt8):(c::t).take (oZ t)=c::t.takeWhile cV:=by
 unfold oZ;rw[Nat.add_comm,j4];congr 1;have:=List.prefix_iff_eq_take.1 (gD (l:=t) cV);exact this.symm
theorem TR {t:List UInt8} {d:UInt8} {r:List UInt8} (h:t.takeWhile cV=d::r):t.head?=some d:=by
 cases t with
 |nil=>cases h
 |cons a t=>
  rw[eS] at h;split at h
  ·cases h;rfl
  ·cases h
theorem rU {c:UInt8} (h:cJ c=true):cV c=true:=by
 unfold cV;rw[h];simp
theorem PK {c:UInt8} {t:List UInt8} {k:Nat} (h:sw (c::t)=some k):l9 (c::t)=k:=by
 rw[tX];simp only[sw] at h;split at h
 ·rename_i hi;have hn:=B6 hi.1;rw[aE (fun e=>by rcases(lR c t).1 e with e|e;exact hn.1 e.1;exact hn.2.1 e.1),aG (by rw[hi.1];rfl)];split at h
  ·split at h
   ·exact aX h
   ·cases h
  ·split at h
   ·exact aX h
   ·cases h
 ·rename_i hi;split at h
  ·rename_i h45;subst h45;split at h
   ·rename_i hw;rw[TW] at hw;obtain⟨h1,h2⟩:=(AD _).1 hw;rcases DF (Nat.pos_iff_ne_zero.1 h1) with e|⟨_,d,r,e,hd⟩
    ·exact absurd e (by decide)
    ·rw[aE (fun e=>by rcases(lR 45 t).1 e with e|e<;>exact absurd e.1 (by decide)),aG (by rw[TR e];simp[hd])];exact aX h
   ·cases h
  ·rename_i h45;split at h
   ·rename_i h34;subst h34;split at h
    ·cases h
    ·rename_i hz;rw[aE (fun e=>by rcases(lR 34 t).1 e with e|e<;>exact absurd e.1 (by decide)),aE (by simp;decide),aG rfl];have hq:=IN t;rw[hq] at h hz;cases hr:rq t with
     |none=>rw[hr] at hz;exact absurd rfl hz
     |some p=>
      obtain⟨s,r⟩:=p;rw[hr] at h;have hf:=wZ t.length (rL _) hr;have hql:mF t=(s.flatMap mA).length:=by rw[hf];exact Q0 s r
      have hlen:=aQ List.length hf;simp only[aD,aJ] at hlen;simp only[AX,iZ,aJ] at h;rw[hql];omega
   ·rename_i h34;split at h
    ·rename_i hp;rw[aG ((lR c t).2 hp)];exact aX h
    ·rename_i hp;split at h
     ·rename_i hm;have hin:cV c=false:=by rcases hm with rfl|rfl|rfl|rfl|rfl|rfl<;>decide
      rw[aE (fun e=>hp ((lR c t).1 e)),aE (by rw[hin];simp[h45]),aE h34];exact aX h
     ·cases h
def cw (w:By):Prop:=fN w=true∨(cE w).isSome=true∨w=[40]∨w=[41]∨w=[58]∨mJ w=true
theorem HN {c:UInt8} {t:List UInt8} (h:fN (c::t)=true):lT c=true:=by
 simp only[fN,aH] at h;exact h.1.2
theorem NM {c:UInt8} {t:List UInt8} (h:mJ (c::t)=true):c=60∨c=61∨c=62:=by
 simp only[mJ,RV,List.contains_eq_mem,aK,List.mem_cons,List.not_mem_nil,or_false] at h;rcases h with h|h|h|h|h|h<;>cases h<;>simp
theorem MP {c:UInt8} {t:List UInt8} (h:cw (c::t)):(lT c=true/\fN (c::t)=true)∨(cJ c=true/\∃v,cE (c::t)=some v)∨(c=45/\∃v,cE (c::t)=some v)∨(c=34/\∃v,cE (c::t)=some v)∨c=40∨c=41∨c=58∨c=60∨c=61∨c=62:=by
 rcases h with h|h|h|h|h|h
 ·exact .inl ⟨HN h,h⟩
 ·obtain⟨v,hv⟩:=Option.isSome_iff_exists.1 h;by_cases h34:c=34
  ·exact .inr (.inr (.inr (.inl ⟨h34,v,hv⟩)))
  ·have:=DG hv h34;rcases DF (c:=c) (t:=t) (by rw[this];simp) with e|e
   ·exact .inr (.inl ⟨e,v,hv⟩)
   ·exact .inr (.inr (.inl ⟨e.1,v,hv⟩))
 ·cases h;simp
 ·cases h;simp
 ·cases h;simp
 ·rcases NM h with rfl|rfl|rfl<;>simp
theorem H5 (c:UInt8):lT c=true↔97<=c.toNat/\c.toNat<=122:=by simp[lT]
theorem KJ {c:UInt8} (h:lT c=true):cV c=true:=by unfold cV;rw[h];rfl
theorem TX {c:UInt8} {t:List UInt8} (h32:c≠32) (h:cw (GD (c::t))):sw (c::t)=some (l9 (c::t)):=by
 have hw:∃u,GD (c::t)=c::u/\(c::u)=(c::t).take (l9 (c::t)):=by
  have:=mV c t;unfold GD;obtain⟨k,hk⟩:∃k,l9 (c::t)=k+1:=⟨l9 (c::t) - 1,by omega⟩;exact⟨t.take k,by rw[hk];rfl,by rw[hk];rfl⟩
 obtain⟨u,hu,hu2⟩:=hw;rw[hu] at h;by_cases hin:cV c=true
 ·have hn:=B6 hin;have hwl:l9 (c::t)=oZ t:=by
   rw[tX,aE (fun e=>by rcases(lR c t).1 e with e|e;exact hn.1 e.1;exact hn.2.1 e.1),aG (by rw[hin];rfl)]
  rw[hwl] at hu2⊢;simp only[sw];rcases MP h with⟨h1,h2⟩|⟨h1,v,h2⟩|h1|h1|h1
  ·have h97:=(H5 c).1 h1;rw[aG ⟨hin,by rintro rfl;revert h1;decide⟩,aG h97.1,aG (by rw[<-hu2];exact h2)]
  ·have h97:=(k7 c).1 h1;rw[aG ⟨hin,by rintro rfl;revert h1;decide⟩,aE (by omega),aG (by
    rw[<-hu2,AD];have:=DG h2 hn.2.2.2.1;exact⟨by rw[this];simp,this⟩)]
  ·exact absurd h1.1 hn.2.2.1
  ·exact absurd h1.1 hn.2.2.2.1
  ·rcases h1 with h1|h1|h1|h1|h1|h1
   ·exact absurd h1 hn.2.2.2.2.1
   ·exact absurd h1 hn.2.2.2.2.2.1
   ·exact absurd h1 hn.2.2.2.2.2.2.1
   ·exact absurd h1 hn.1
   ·exact absurd h1 hn.2.2.2.2.2.2.2.1
   ·exact absurd h1 hn.2.1
 ·have hin':cV c=false:=by simpa using hin
  rcases MP h with⟨h1,h2⟩|⟨h1,v,h2⟩|⟨rfl,v,h2⟩|⟨rfl,v,h2⟩|h1
  ·exact absurd (KJ h1) hin
  ·exact absurd (rU h1) hin
  ·have hnum:=DG h2 (by decide);rcases DF (c:=45) (t:=u) (by rw[hnum];simp) with e|⟨_,d,r,e,hd⟩
   ·exact absurd e (by decide)
   ·have hwl:l9 (45::t)=oZ t:=by
     rw[tX,aE (fun e=>by rcases(lR 45 t).1 e with e|e<;>exact absurd e.1 (by decide)),aG];subst e;have hle:=mV 45 t;cases t with
     |nil=>have:=aQ List.length hu2;simp at this;omega
     |cons a t=>
      obtain⟨k,hk⟩:∃k,l9 (45::a::t)=k+1:=⟨l9 (45::a::t) - 1,by omega⟩;rw[hk,j4] at hu2;cases k with
      |zero=>simp at hu2
      |succ k=>
       rw[j4] at hu2;simp at hu2;simp[<-hu2.1,hd]
    rw[hwl] at hu2⊢;simp only[sw];rw[aE (fun e=>hin e.1),aG trivial,aG (by rw[<-hu2,AD];exact⟨by rw[hnum];simp,hnum⟩)]
  ·obtain⟨s,hs⟩:=SF h2;have hf:=wZ u.length (rL _) hs;have ht:t=u++t.drop u.length:=by
    have h3:u=t.take u.length:=by
     have hle:=mV 34 t;obtain⟨k,hk⟩:∃k,l9 (34::t)=k+1:=⟨l9 (34::t) - 1,by omega⟩;rw[hk,j4] at hu2;have h4:=(List.cons.inj hu2).2;rw[h4,bP];rcases Nat.le_total k t.length with hkt|hkt
     ·rw[Nat.min_eq_left hkt]
     ·rw[Nat.min_eq_right hkt,b9,dI hkt]
    conv=>lhs;rw[<-iF u.length t]
    rw[<-h3]
   generalize t.drop u.length=rest at ht;rw[hf,bB] at ht;replace ht:t=s.flatMap mA++34::rest:=ht;have hr:rq t=some (s,rest):=by rw[ht];exact ZF s rest
   have hq:=IN t;have hlen:=aQ List.length ht;simp only[aD,aJ] at hlen;have hk:sw (34::t)=some (jH (34::t) 0).2:=by
    simp only[sw];rw[aE (fun e=>hin e.1),aE (by decide),aG trivial,aE];rw[hq,hr];simp only[AX,aJ];omega
   rw[hk,PK hk]
  ·by_cases hp:EW (c::t)=true
   ·have h2:=(lR c t).1 hp;rw[tX,aG hp];simp only[sw];have hc:c=60∨c=62:=h2.elim (fun h=>.inl h.1) (fun h=>.inr h.1);rw[aE (fun e=>hin e.1),aE (by rcases hc with rfl|rfl<;>decide),aE (by rcases hc with rfl|rfl<;>decide),aG h2]
   ·have h45:c≠45:=by rcases h1 with rfl|rfl|rfl|rfl|rfl|rfl<;>decide
    have h34:c≠34:=by rcases h1 with rfl|rfl|rfl|rfl|rfl|rfl<;>decide
    rw[tX,aE hp,aE (by rw[hin'];simp[h45]),aE h34];simp only[sw];rw[aE (fun e=>hin e.1),aE h45,aE h34,aE (fun e=>hp ((lR c t).2 e)),aG (by
     rcases h1 with h|h|h|h|h|h<;>simp[h])]
theorem a07 {c:UInt8} (h:c≠32) (t:List UInt8):skip (c::t)=c::t:=by
 unfold skip;rw[List.dropWhile_cons,aE (by simpa using h)]
theorem u6 (t:List UInt8):iG (32::t)=iG t:=by
 rw[<-AI (32::t),<-AI t];rfl
theorem N9 {c:UInt8} (h:c≠32) (t:List UInt8):iG (c::t)=GD (c::t)::iG ((c::t).drop (l9 (c::t))):=mH (a07 h t)
theorem vM:∀(f:Nat) (l:List UInt8) (ws:List By),kL f l=some ws->iG l=ws
 |0,_,_,h=>by cases h
 |f+1,[],ws,h=>by rw[y6] at h;cases h;exact kE rfl
 |f+1,c::t,ws,h=>by
  by_cases hc:c=32
  ·rw[hc,sM] at h;rw[hc,u6];exact vM f t ws h
  ·rw[sN f hc] at h;cases hk:sw (c::t) with
   |none=>rw[hk] at h;cases h
   |some k=>
    rw[hk] at h;simp only[aI] at h;obtain⟨ws',h1,rfl⟩:=h;have hw:=PK hk;rw[N9 hc,hw,vM f _ _ h1];unfold GD;rw[hw]
theorem E6:∀(f:Nat) (l:List UInt8),l.length<f->(∀w∈iG l,cw w)->kL f l=some (iG l)
 |0,_,h,_=>by omega
 |f+1,[],_,_=>by rw[y6,kE rfl]
 |f+1,c::t,hl,h=>by
  simp only[aJ] at hl;by_cases hc:c=32
  ·rw[hc,u6] at h⊢;rw[sM];exact E6 f t (by omega) h
  ·rw[N9 hc] at h⊢;have hk:=TX hc (h (GD (c::t)) (by simp));have hp:=mV c t;rw[sN f hc,hk];simp only;rw[E6 f _ (by simp;omega) (fun w hw=>h w (by simp[hw]))];rfl
theorem E3:∀{ts r:List By} {t:Term},fT cE ts=some (t,r)->∃pre,ts=pre++r/\∀w∈pre,cw w
 |[],r,t,h=>by cases h
 |w::ts,r,t,h=>by
  unfold fT at h;split at h
  ·rename_i hw;split at h
   ·rename_i h1;split at h
    ·cases h
    ·cases h;obtain⟨pre,rfl,hp⟩:=E3 h1;refine⟨w::pre,rfl,fun x hx=>?_⟩;rcases List.mem_cons.1 hx with rfl|hx
     ·exact .inr (.inr (.inr (.inr (.inl hw))))
     ·exact hp x hx
   ·cases h
  ·split at h
   ·rename_i hn;cases h;simp only[aH] at hn;exact⟨[w],rfl,fun x hx=>by rw[List.mem_singleton.1 hx];exact .inl hn.1⟩
   ·split at h
    ·rename_i v hv;cases h;exact⟨[w],rfl,fun x hx=>by rw[List.mem_singleton.1 hx];exact .inr (.inl (by rw[hv];rfl))⟩
    ·cases h
theorem wO {ts r:List By} {w:By} (hw:cw w) (h:∃pre,ts=pre++r/\∀w∈pre,cw w):∃pre,w::ts=pre++r/\∀w∈pre,cw w:=by
 obtain⟨pre,rfl,hp⟩:=h;exact⟨w::pre,rfl,fun x hx=>by
  rcases List.mem_cons.1 hx with rfl|hx
  ·exact hw
  ·exact hp x hx⟩
theorem tS {ts r r':List By} (h:∃pre,ts=pre++r/\∀w∈pre,cw w) (h':∃pre,r=pre++r'/\∀w∈pre,cw w):∃pre,ts=pre++r'/\∀w∈pre,cw w:=by
 obtain⟨p,rfl,hp⟩:=h;obtain⟨q,rfl,hq⟩:=h';exact⟨p++q,by simp,fun x hx=>(List.mem_append.1 hx).elim (hp x) (hq x)⟩
theorem A0 (r:List By):∃pre,r=pre++r/\∀w∈pre,cw w:=⟨[],rfl,fun _ h=>by cases h⟩
theorem a1l:cw AF/\cw mW/\cw jZ/\cw kU/\cw jN:=⟨.inl (by decide),.inl (by decide),.inl (by decide),.inl (by decide),.inl (by decide)⟩
theorem lS:∀(f:Nat) (m:Md) (lv d:Nat) (ts r:List By) (t:Tree) (e:Nat),bO cE f m lv d ts=some (t,r,e)->∃pre,ts=pre++r/\∀w∈pre,cw w
 |0,m,lv,d,ts,r,t,e,h=>by cases h
 |f+1,.or,lv,d,ts,r,t,e,h=>by
  unfold bO at h;split at h
  ·rename_i n r1 e1 h1;exact tS (lS f _ _ _ _ _ _ _ h1) (lS f _ _ _ _ _ _ _ h)
  ·cases h
 |f+1,.orL n,lv,d,ts,r,t,e,h=>by
  unfold bO at h;split at h
  ·rename_i hd;obtain⟨r0,rfl⟩:=fQ hd (by decide);split at h
   ·rename_i n r1 e1 h1;exact wO a1l.1 (tS (lS f _ _ _ _ _ _ _ h1) (lS f _ _ _ _ _ _ _ h))
   ·cases h
  ·cases h;exact A0 _
 |f+1,.and,lv,d,ts,r,t,e,h=>by
  unfold bO at h;split at h
  ·rename_i n r1 e1 h1;exact tS (lS f _ _ _ _ _ _ _ h1) (lS f _ _ _ _ _ _ _ h)
  ·cases h
 |f+1,.andL n,lv,d,ts,r,t,e,h=>by
  unfold bO at h;split at h
  ·rename_i hd;obtain⟨r0,rfl⟩:=fQ hd (by decide);split at h
   ·rename_i n r1 e1 h1;exact wO a1l.2.1 (tS (lS f _ _ _ _ _ _ _ h1) (lS f _ _ _ _ _ _ _ h))
   ·cases h
  ·cases h;exact A0 _
 |f+1,.not,lv,d,ts,r,t,e,h=>by
  unfold bO at h;split at h
  ·rename_i hd;obtain⟨r0,rfl⟩:=fQ hd (by decide);split at h
   ·rename_i n r1 e1 h1;cases h;exact wO a1l.2.2.1 (lS f _ _ _ _ _ _ _ h1)
   ·cases h
  ·exact lS f _ _ _ _ _ _ _ h
 |f+1,.prim,lv,d,ts,r,t,e,h=>by
  unfold bO at h;split at h
  ·rename_i hd;obtain⟨r0,rfl⟩:=fQ hd (by decide);cases h;exact wO a1l.2.2.2.1 (A0 _)
  ·split at h
   ·rename_i hd;obtain⟨r0,rfl⟩:=fQ hd (by decide);cases h;exact wO a1l.2.2.2.2 (A0 _)
   ·split at h
    ·rename_i hd;obtain⟨r0,rfl⟩:=fQ hd (by decide);split at h
     ·rename_i n r1 e1 h1;split at h
      ·rename_i hr;obtain⟨r2,rfl⟩:=fQ hr (by decide);cases h;exact wO (.inr (.inr (.inl rfl))) (tS (lS f _ _ _ _ _ _ _ h1) (wO (.inr (.inr (.inr (.inl rfl)))) (A0 _)))
      ·cases h
     ·cases h
    ·split at h
     ·rename_i a r1 h1;split at h
      ·rename_i hrel;split at h
       ·rename_i b r2 h2;cases h;refine tS (E3 h1) ?_;obtain⟨q,hq⟩:∃q,r1=r1.headD []::q:=by
         cases r1 with
         |nil=>exact absurd hrel (by decide)
         |cons a q=>exact⟨q,rfl⟩
        conv=>enter [1,pre];rw[hq]
        refine wO (.inr (.inr (.inr (.inr (.inr hrel))))) ?_;have:r1.tail=q:=by rw[hq];rfl
        rw[<-this];exact E3 h2
       ·cases h
      ·cases h
     ·cases h
def l7 (s:By):RdE:=if 1000<s.length then .err 3 else match AK s with
 |none=>.err 2
 |some ws=>match bO iB (jR s) .or 0 0 ws with
  |some (t,r,e)=>if r=[] then(if 20<e then .err 4 else .ok t) else .err 2
  |none=>.err 2
theorem zC (s:By):m4 s=match l7 s with
  |.ok t=>.ok t.flat
  |.err e=>.err e:=by
 have hl:iB=cE:=funext DH;unfold m4 l7;by_cases h1:1000<s.length
 ·rw[aG h1,aG h1]
 ·rw[aE h1,aE h1,hl];cases hs:AK s with
  |some ws=>
   rw[vM _ _ _ hs];simp only;cases hp:bO cE (jR s) .or 0 0 ws with
   |none=>rfl
   |some p=>
    obtain⟨t,r,e⟩:=p;simp only;cases r with
    |nil=>
     simp only[List.headD_nil,beq_self_eq_true,fI];split<;>rfl
    |cons w r=>
     have hne:w≠[]:=by
      obtain⟨pre,e1,_⟩:=lS _ _ _ _ _ _ _ _ hp;exact IC s.length s (rL _) w (by rw[vM _ _ _ hs,e1];simp)
     rw[aE (by simpa using hne),aE (by simp)]
  |none=>
   simp only;cases hp:bO cE (jR s) .or 0 0 (iG s) with
   |none=>rfl
   |some p=>
    obtain⟨t,r,e⟩:=p;simp only;obtain⟨pre,e1,h2⟩:=lS _ _ _ _ _ _ _ _ hp;cases r with
    |nil=>
     exfalso;rw[iM] at e1;have:=E6 (s.length+1) s (by omega) (by rw[e1];exact h2);unfold AK at hs;rw[hs] at this;cases this
    |cons w r=>
     have hne:w≠[]:=IC s.length s (rL _) w (by rw[e1];simp);rw[aE (by simpa using hne)]
def pQ (ws:List By) (a dp:Int) (bad fZ:Bool):GObj:=.box 250 [.sl .none (b5 ws),.i .i64 a,.i .i64 dp,.b bad,.b fZ]
theorem dO [MaxL] (ws:List By) (a dp:Int) (bad fZ:Bool):ClL [.sl .none (b5 ws),.i .i64 a,.i .i64 dp,.b bad,.b fZ]:=.cons (bT (uA ws)) (fun _=>rfl)
theorem bN [MaxL] {ws:List By} {a dp:Int} {bad fZ:Bool}:ClL [.sl .none (b5 ws),.i .i64 a,.i .i64 dp,.b bad,.b fZ]:=dO ws a dp bad fZ
def kT (ws:List By) (a:Nat):By:=(ws.drop a).headD []
theorem TN {ws:List By} {a:Nat} (h:a<ws.length):(b5 ws)[a]?=some (.s (kT ws a)):=by
 unfold kT b5;rw[aL,aY h,gL h];rfl
theorem DV {ws:List By} {a:Nat} (h:ws.length<=a):kT ws a=[]:=by
 unfold kT;rw[List.drop_eq_nil_of_le h];rfl
theorem HB [MaxL] (ws:List By) (hw:ws.length<bH) (a:Nat) (dp:Int) (bad fZ:Bool):SC Tryz.prog 306 [.ptr 0 0] [pQ ws a dp bad fZ] (.val (.s (kT ws a))) [pQ ws a dp bad fZ]:=by
 have hl:(b5 ws).length=ws.length:=aP ws;unfold bH at hw;refine cW Tryz.func306 rfl ?_;conv=>whnf
 refine bC (by kernel_rfl) ?_;conv=>whnf
 refine aF (fun h=>?_) (fun h=>?_)<;>conv=>whnf
 ·have ha:a<ws.length:=by have:=aB h;rw[hl] at this;omega
  refine bC (by kernel_rfl) ?_;conv=>whnf
  refine⟨cN _,.s (kT ws a),by rw[aA];exact TN ha,rfl,?_⟩;conv=>whnf
  exact kB rfl rfl (dO ws a dp bad fZ)
 ·have ha:ws.length<=a:=by have:=aC h;rw[hl] at this;omega
  rw[DV ha];exact kB rfl rfl (dO ws a dp bad fZ)
def yY (ws:List By) (a:Nat) (bad:Bool) (w:By):Bool:=!bad&&(kT ws a==w)
theorem NS [MaxL] (ws:List By) (hw:ws.length<bH) (a:Nat) (ha:a<=ws.length) (dp:Int) (bad fZ:Bool) (w:By):
  SC Tryz.prog 268 [.ptr 0 0,.s w] [pQ ws a dp bad fZ] (.val (.b (yY ws a bad w))) [pQ ws (if yY ws a bad w then a+1 else a:Nat) dp bad fZ]:=by
 have hn:=HB ws hw a dp bad fZ;have hw':=hw;unfold bH at hw';cases bad with
 |true=>
  refine cW Tryz.func268 rfl ?_;conv=>whnf
  exact rM rfl rfl (dO ws a dp true fZ)
 |false=>
  have e:yY ws a false w=(kT ws a==w):=by simp[yY]
  rw[e];generalize kT ws a=x at*;refine cW Tryz.func268 rfl ?_;conv=>whnf
  refine aV (q:=0) hn rfl (wR _) rfl rfl (dO ws a dp false fZ) (dO ws a dp false fZ) (fun _=>rfl) (.s _) ?_;conv=>whnf
  refine aF (fun hc=>?_) (fun hc=>?_)<;>conv=>whnf
  ·have e2:(x==w)=false:=by simpa using hc
   rw[e2];exact rM rfl rfl (dO ws a dp false fZ)
  ·have e2:(x==w)=true:=by simpa using hc
   rw[e2];refine⟨[.i .i64 (a+1:Nat)],⟨(by rw[b7 (by omega)];rfl),rL _,rfl,bL rfl⟩,?_⟩;(conv=>whnf);exact rM rfl rfl (dO ws (a+1:Nat) dp false fZ)
theorem UV [MaxL] (ws:List By) (hw:ws.length<bH) (a:Nat) (dp:Int) (bad fZ:Bool):
  SC Tryz.prog 341 [.ptr 0 0] [pQ ws a dp bad fZ] (.val (.b (fN (kT ws a)&&!a1X.contains (kT ws a)))) [pQ ws a dp bad fZ]:=by
 have hn:=HB ws hw a dp bad fZ;generalize kT ws a=x at*;refine cW Tryz.func341 rfl ?_;conv=>whnf
 refine aV (q:=0) hn rfl (wR _) rfl rfl (dO ws a dp bad fZ) (dO ws a dp bad fZ) (fun _=>rfl) (.s _) ?_;conv=>whnf
 refine n5 (AW x) ?_;conv=>whnf
 refine aF (fun h1=>?_) (fun h1=>?_)<;>conv=>whnf
 ·skip;refine n5 (a0O x) ?_;conv=>whnf
  refine rM rfl ?_ (dO ws a dp bad fZ);rw[h1];rfl
 ·refine rM rfl ?_ (dO ws a dp bad fZ);rw[h1];rfl
theorem a1G [MaxL] (ws:List By) (a lv:Nat) (hl:lv<1000000) (bad fZ:Bool):
  SC Tryz.prog 323 [.ptr 0 0] [pQ ws a lv bad fZ] (.val (.tup [])) [pQ ws a (lv+1:Nat) bad (fZ||decide (20<lv+1))]:=by
 have e:IntKind.i64.wrap ((lv:Int)+1)=((lv+1:Nat):Int):=D5 hl;refine cW Tryz.func323 rfl ?_;conv=>whnf
 refine⟨[.i .i64 (lv+1:Nat)],⟨(by rw[e];rfl),rL _,rfl,bL rfl⟩,?_⟩;conv=>whnf
 have e2:((20:Int)<((lv+1:Nat):Int))↔20<lv+1:=by omega
 refine aF (fun h=>?_) (fun h=>?_)<;>conv=>whnf
 ·have h':20<lv+1:=by have:=aB h;omega
  refine⟨_,⟨rfl,zL _,rfl,bL rfl⟩,?_⟩;conv=>whnf
  refine fU ?_ (.refl _) (dO ws a (lv+1:Nat) bad _) (fun _=>rfl);rw[bQ h',Bool.or_true];rfl
 ·have h':¬20<lv+1:=by have:=aC h;omega
  refine fU ?_ (.refl _) (dO ws a (lv+1:Nat) bad _) (fun _=>rfl);rw[cM h',Bool.or_false]
def U8 (t:Term):List GV:=[.s (if t.var then[] else t.name),.s (if t.var then t.name else[]),.i .i64 t.v.k,.i .i64 t.v.n,.s t.v.s]
def t0:Term:=⟨[],false,v0⟩
theorem AO [MaxL] (t:Term):ClL (U8 t):=fun _=>rfl
theorem EG [MaxL] (ws:List By) (hw:ws.length<bH) (a:Nat) (dp:Int) (fZ:Bool):
  SC Tryz.prog 333 [.ptr 0 0] [pQ ws a dp true fZ] (.val (.agg (U8 t0))) [pQ ws a dp true fZ]:=by
 have hn:=HB ws hw a dp true fZ;generalize kT ws a=x at*;refine cW Tryz.func333 rfl ?_;conv=>whnf
 refine aV (q:=0) hn rfl (wR _) rfl rfl (dO ws a dp true fZ) (dO ws a dp true fZ) (fun _=>rfl) (.s _) ?_;conv=>whnf
 refine⟨_,⟨rfl,zL _,rfl,bL rfl⟩,?_⟩;conv=>whnf
 exact fU rfl (.refl _) (dO ws a dp true fZ) (fun _=>rfl)
def CU (x:By):Bool:=fN x&&!a1X.contains x
theorem E4 {lit:By->Option Val} (w:By) (ts:List By):fT lit (w::ts)=if w=[58] then(match fT lit ts with
   |some (t,r)=>if t.name=[]∨t.var=true then none else some (⟨t.name,true,t.v⟩,r)
   |none=>none)
  else if CU w then some (⟨w,false,v0⟩,ts) else match lit w with
   |some v=>some (⟨[],false,v⟩,ts)
   |none=>none:=by
 conv=>lhs;unfold fT
 rfl
theorem DW {ws:List By} {a:Nat} (h:a<ws.length):ws.drop a=kT ws a::ws.drop (a+1):=by
 unfold kT;rw[aY h];rfl
theorem Q4 {x:By} (h:CU x=true):x≠[]/\x≠[58]:=by
 constructor<;>(rintro rfl;exact absurd h (by decide))
theorem kD {ws:List By} {a:Nat} (h:kT ws a≠[]):a<ws.length:=by
 rcases dX a ws.length with h1|h1
 ·exact h1
 ·exact absurd (DV h1) h
theorem VO:iB []=none:=by unfold iB;rw[aE (fun h=>h.1 rfl)]
theorem TV (ws:List By) (a:Nat):fT iB (ws.drop a)=if CU (kT ws a) then some (⟨kT ws a,false,v0⟩,ws.drop (a+1)) else if kT ws a=[58] then
   (if CU (kT ws (a+1)) then some (⟨kT ws (a+1),true,v0⟩,ws.drop (a+2)) else none)
  else match iB (kT ws a) with
   |some v=>some (⟨[],false,v⟩,ws.drop (a+1))
   |none=>none:=by
 by_cases ha:a<ws.length
 ·rw[DW ha,E4];by_cases h1:kT ws a=[58]
  ·rw[aG h1,h1,aE (by decide),aG rfl];by_cases hb:a+1<ws.length
   ·rw[DW hb,E4];by_cases h3:CU (kT ws (a+1))=true
    ·rw[aG h3,aE (Q4 h3).2,aG h3];simp only;rw[aE (by rintro(h|h);exact(Q4 h3).1 h;cases h)]
    ·rw[aE h3,aE h3];by_cases h4:kT ws (a+1)=[58]
     ·rw[aG h4];cases fT iB (ws.drop (a+1+1)) with
      |none=>rfl
      |some p=>
       obtain⟨t,r⟩:=p;simp only;by_cases h5:t.name=[]∨t.var=true
       ·rw[aG h5]
       ·rw[aE h5];simp only;rw[aG (.inr trivial)]
     ·rw[aE h4];cases iB (kT ws (a+1)) with
      |none=>rfl
      |some v=>simp only;rw[aG (.inl trivial)]
   ·rw[DV (by omega),List.drop_eq_nil_of_le (by omega)];rfl
  ·rw[aE h1,aE h1]
 ·rw[DV (by omega),List.drop_eq_nil_of_le (by omega),aE (by decide),aE (by decide),VO];rfl
theorem SG (x:By):(iB x=some (pH x).1/\x≠[]/\(pH x).2=x.length/\(pH x).1.ok=true)∨(iB x=none/\¬(x≠[]/\(pH x).2=x.length/\(pH x).1.ok=true)):=by
 unfold iB;by_cases h:x≠[]/\(pH x).2=x.length/\(pH x).1.ok=true
 ·rw[aG h];exact .inl ⟨rfl,h⟩
 ·rw[aE h];exact .inr ⟨rfl,h⟩
theorem yB [MaxL] (ws : List By) (hw : ws.length < bH) (hx : ∀ w ∈ ws, w.length < 1000000) (a : Nat) (ha : a ≤ ws.length) (dp : Int) (fZ : Bool) :
    match fT iB (ws.drop a) with
    | some (t, r) => ∃ a', a ≤ a' ∧ a' ≤ ws.length ∧ r = ws.drop a' ∧ SC Tryz.prog 333 [.ptr 0 0] [pQ ws a dp false fZ] (.val (.agg (U8 t))) [pQ ws a' dp false fZ]
    | none => ∃ a', a ≤ a' ∧ a' ≤ ws.length ∧ SC Tryz.prog 333 [.ptr 0 0] [pQ ws a dp false fZ] (.val (.agg (U8 t0))) [pQ ws a' dp true fZ] := by
  have hn := HB ws hw a dp false fZ;have hn1 := UV ws hw a dp false fZ;have hn2 := UV ws hw (a + 1) dp false fZ;have hxl : (kT ws a).length < 1000000 := by
    rcases dX a ws.length with h1 | h1
    · exact hx _ (by have := DW h1; exact List.mem_of_mem_drop (i := a) (by rw [this]; simp))
    · rw [DV h1]; decide
  have hw' := hw;unfold bH at hw';have hlen : (b5 ws).length = ws.length := aP ws;rw [TV];by_cases h1 : CU (kT ws a) = true
  · rw [aG h1]
    have hlt := kD (Q4 h1).1;refine ⟨a + 1, by omega, hlt, rfl, ?_⟩;replace hn1 : SC Tryz.prog 341 [.ptr 0 0] [pQ ws a dp false fZ] (.val (.b (CU (kT ws a)))) [pQ ws a dp false fZ] := hn1;rw [h1] at hn1;generalize kT ws a = x at *;refine cW Tryz.func333 rfl ?_;conv => whnf
    refine aV (q := 0) hn rfl (wR _) rfl rfl (dO ws a dp false fZ) (dO ws a dp false fZ) (fun _ => rfl) (.s _) ?_;conv => whnf
    refine aV (q := 0) hn1 rfl (wR _) rfl rfl (dO ws a dp false fZ) (dO ws a dp false fZ) (fun _ => rfl) (.b _) ?_;conv => whnf
    refine ⟨[.i .i64 (a + 1 : Nat)], ⟨(by rw [b7 (by omega)]; rfl), rL _, rfl, bL rfl⟩, ?_⟩;conv => whnf
    refine ⟨_, ⟨rfl, zL _, rfl, bL rfl⟩, ?_⟩;conv => whnf
    exact fU rfl (.refl _) (dO ws (a + 1 : Nat) dp false fZ) (fun _ => rfl)
  rw [aE h1];have h1' : CU (kT ws a) = false := by simpa using h1
  replace hn1 : SC Tryz.prog 341 [.ptr 0 0] [pQ ws a dp false fZ] (.val (.b (CU (kT ws a)))) [pQ ws a dp false fZ] := hn1;rw [h1'] at hn1;by_cases h2 : kT ws a = [58]
  · rw [aG h2]
    have hlt := kD (ws := ws) (a := a) (by rw [h2]; simp);replace hn2 : SC Tryz.prog 341 [.ptr 0 0] [pQ ws (a + 1 : Nat) dp false fZ] (.val (.b (CU (kT ws (a + 1))))) [pQ ws (a + 1 : Nat) dp false fZ] := hn2;rw [h2] at hn;by_cases h3 : CU (kT ws (a + 1)) = true
    · rw [aG h3]
      have hlt2 := kD (Q4 h3).1;have hget := TN hlt2;refine ⟨a + 2, by omega, hlt2, rfl, ?_⟩;rw [h3] at hn2;generalize kT ws (a + 1) = y at *;clear h1 h1' h2 hxl;refine cW Tryz.func333 rfl ?_;conv => whnf
      refine aV (q := 0) hn rfl (wR _) rfl rfl (dO ws a dp false fZ) (dO ws a dp false fZ) (fun _ => rfl) (.s _) ?_;conv => whnf
      refine aV (q := 0) hn1 rfl (wR _) rfl rfl (dO ws a dp false fZ) (dO ws a dp false fZ) (fun _ => rfl) (.b _) ?_;conv => whnf
      refine ⟨[.i .i64 (a + 1 : Nat)], ⟨(by rw [b7 (by omega)]; rfl), rL _, rfl, bL rfl⟩, ?_⟩;conv => whnf
      refine aV (q := 0) hn2 rfl (wR _) rfl rfl (dO ws (a + 1 : Nat) dp false fZ) (dO ws (a + 1 : Nat) dp false fZ) (fun _ => rfl) (.b _) ?_;conv => whnf
      refine ⟨[.i .i64 (a + 2 : Nat)], ⟨(by rw [b7 (i := a + 1) (by omega)]; rfl), rL _, rfl, bL rfl⟩, ?_⟩;conv => whnf
      refine bC (by kernel_rfl) ?_;conv => whnf
      have w2 : IntKind.i64.wrap (((a + 2 : Nat) : Int) - 1) = ((a + 1 : Nat) : Int) := by rw [bY (by omega) (by omega)]; omega
      refine ⟨by rw [w2]; exact cN _, .s y, by rw [w2, aA]; exact hget, rfl, ?_⟩;conv => whnf
      refine ⟨_, ⟨rfl, zL _, rfl, bL rfl⟩, ?_⟩;conv => whnf
      exact fU rfl (.refl _) (dO ws (a + 2 : Nat) dp false fZ) (fun _ => rfl)
    · rw [aE h3]
      refine ⟨a + 1, by omega, hlt, ?_⟩;have h3' : CU (kT ws (a + 1)) = false := by simpa using h3
      rw [h3'] at hn2;generalize kT ws (a + 1) = y at *;clear h1 h1' h2 hxl;refine cW Tryz.func333 rfl ?_;conv => whnf
      refine aV (q := 0) hn rfl (wR _) rfl rfl (dO ws a dp false fZ) (dO ws a dp false fZ) (fun _ => rfl) (.s _) ?_;conv => whnf
      refine aV (q := 0) hn1 rfl (wR _) rfl rfl (dO ws a dp false fZ) (dO ws a dp false fZ) (fun _ => rfl) (.b _) ?_;conv => whnf
      refine ⟨[.i .i64 (a + 1 : Nat)], ⟨(by rw [b7 (by omega)]; rfl), rL _, rfl, bL rfl⟩, ?_⟩;conv => whnf
      refine aV (q := 0) hn2 rfl (wR _) rfl rfl (dO ws (a + 1 : Nat) dp false fZ) (dO ws (a + 1 : Nat) dp false fZ) (fun _ => rfl) (.b _) ?_;conv => whnf
      refine ⟨_, ⟨rfl, zL _, rfl, bL rfl⟩, ?_⟩;conv => whnf
      refine ⟨_, ⟨rfl, zL _, rfl, bL rfl⟩, ?_⟩;conv => whnf
      exact fU rfl (.refl _) (dO ws (a + 1 : Nat) dp true fZ) (fun _ => rfl)
  · rw [aE h2]
    have hl := SG (kT ws a);have hlit := S7 (kT ws a) hxl;have hok := IL (pH (kT ws a)).1;have hin := kD (ws := ws) (a := a);generalize kT ws a = x at *;generalize pH x = q at *;obtain ⟨v, k⟩ := q;simp only at hl hlit hok;rcases hl with ⟨e, l1, l2, l3⟩ | ⟨e, l0⟩
    · rw [e]
      refine ⟨a + 1, by omega, hin l1, rfl, ?_⟩;rw [l3] at hok;refine cW Tryz.func333 rfl ?_;conv => whnf
      refine aV (q := 0) hn rfl (wR _) rfl rfl (dO ws a dp false fZ) (dO ws a dp false fZ) (fun _ => rfl) (.s _) ?_;conv => whnf
      refine aV (q := 0) hn1 rfl (wR _) rfl rfl (dO ws a dp false fZ) (dO ws a dp false fZ) (fun _ => rfl) (.b _) ?_;conv => whnf
      refine aF (fun hc => ?_) (fun hc => ?_) <;> conv => whnf
      · exact absurd (by simpa using hc) h2
      refine bF hlit (wR _) rfl (fun _ => rfl) (fun _ => rfl) ?_;conv => whnf
      refine ⟨_, ⟨rfl, zL _, rfl, bL rfl⟩, ?_⟩;conv => whnf
      refine aF (fun s1 => ?_) (fun s1 => ?_) <;> conv => whnf
      rotate_left
      · exact absurd (by simpa using s1) l1
      refine aF (fun s2 => ?_) (fun s2 => ?_) <;> conv => whnf
      rotate_left
      · have := aC s2; exact absurd (by omega) this
      refine bF hok (wR _) rfl (fun _ => rfl) (.b _) ?_;conv => whnf
      refine ⟨[.i .i64 (a + 1 : Nat)], ⟨(by rw [b7 (by have := hin l1; omega)]; rfl), rL _, rfl, bL rfl⟩, ?_⟩;conv => whnf
      refine ⟨_, ⟨rfl, zL _, rfl, bL rfl⟩, ?_⟩;conv => whnf
      exact fU rfl (.refl _) (dO ws (a + 1 : Nat) dp false fZ) (fun _ => rfl)
    · rw [e]
      refine ⟨a, rL _, ha, ?_⟩;refine cW Tryz.func333 rfl ?_;conv => whnf
      refine aV (q := 0) hn rfl (wR _) rfl rfl (dO ws a dp false fZ) (dO ws a dp false fZ) (fun _ => rfl) (.s _) ?_;conv => whnf
      refine aV (q := 0) hn1 rfl (wR _) rfl rfl (dO ws a dp false fZ) (dO ws a dp false fZ) (fun _ => rfl) (.b _) ?_;conv => whnf
      refine aF (fun hc => ?_) (fun hc => ?_) <;> conv => whnf
      · exact absurd (by simpa using hc) h2
      refine bF hlit (wR _) rfl (fun _ => rfl) (fun _ => rfl) ?_;conv => whnf
      refine ⟨_, ⟨rfl, zL _, rfl, bL rfl⟩, ?_⟩;conv => whnf
      refine aF (fun s1 => ?_) (fun s1 => ?_) <;> conv => whnf
      · refine aF (fun s2 => ?_) (fun s2 => ?_) <;> conv => whnf
        · have hvo : v.ok = false := by
            cases hv : v.ok with
            | false => rfl
            | true => exact absurd ⟨by simpa using s1, by have : (k : Int) = (x.length : Int) := by simpa using s2
                                                          omega, hv⟩ l0
          rw [hvo] at hok;refine bF hok (wR _) rfl (fun _ => rfl) (.b _) ?_;conv => whnf
          refine ⟨_, ⟨rfl, zL _, rfl, bL rfl⟩, ?_⟩;conv => whnf
          refine ⟨_, ⟨rfl, zL _, rfl, bL rfl⟩, ?_⟩;conv => whnf
          exact fU rfl (.refl _) (dO ws a dp true fZ) (fun _ => rfl)
        · skip
          refine ⟨_, ⟨rfl, zL _, rfl, bL rfl⟩, ?_⟩;conv => whnf
          refine ⟨_, ⟨rfl, zL _, rfl, bL rfl⟩, ?_⟩;conv => whnf
          exact fU rfl (.refl _) (dO ws a dp true fZ) (fun _ => rfl)
      · skip
        refine ⟨_, ⟨rfl, zL _, rfl, bL rfl⟩, ?_⟩;conv => whnf
        refine ⟨_, ⟨rfl, zL _, rfl, bL rfl⟩, ?_⟩;conv => whnf
        exact fU rfl (.refl _) (dO ws a dp true fZ) (fun _ => rfl)
