/-
  A part of the proof of SchemaChosen.
-/
import Derived.Test.YtcfgfkkhpdlhpaaGreatDoorR37
set_option linter.all false
set_option maxRecDepth 100000
namespace Go.Proofs.YtcfgfkkhpdlhpaaGreatDoor
open Go.RowKit
def FC (l:List UInt8):Bool:=[60,62].isPrefixOf l||[60,61].isPrefixOf l||[62,61].isPrefixOf l
theorem lS (c:UInt8) (t:List UInt8):FC (c::t)=true↔(c=60/\(t.head?=some 62∨t.head?=some 61))∨(c=62/\t.head?=some 61):=by
 cases t with
 |nil=>simp[FC,List.isPrefixOf]
 |cons d t=>
  simp only[FC,List.isPrefixOf,Bool.and_true,f5,aH,dC,List.head?_cons,iW];constructor
  ·rintro((⟨rfl,rfl⟩|⟨rfl,rfl⟩)|⟨rfl,rfl⟩)
   ·exact .inl ⟨rfl,.inl rfl⟩
   ·exact .inl ⟨rfl,.inr rfl⟩
   ·exact .inr ⟨rfl,rfl⟩
  ·rintro(⟨rfl,rfl|rfl⟩|⟨rfl,rfl⟩)
   ·exact .inl (.inl ⟨rfl,rfl⟩)
   ·exact .inl (.inr ⟨rfl,rfl⟩)
   ·exact .inr ⟨rfl,rfl⟩
theorem u5 (c:UInt8) (t:List UInt8):l9 (c::t)=if FC (c::t)=true then 2 else if(d6 c||(c==45&&t.head?.any cL))=true then oZ t else if c=34 then min (2+mG t) (t.length+1) else 1:=rfl
theorem BI {c:UInt8} (h:d6 c=true):c≠60/\c≠62/\c≠45/\c≠34/\c≠40/\c≠41/\c≠58/\c≠61/\c≠32:=by
 refine⟨?_,?_,?_,?_,?_,?_,?_,?_,?_⟩<;>(rintro rfl;revert h;decide)
theorem IL {l:List UInt8} (h:e8 l≠0):∃d r,l=d::r/\cL d=true:=by
 cases l with
 |nil=>exact absurd rfl h
 |cons d r=>
  refine⟨d,r,rfl,?_⟩;cases hd:cL d with
  |true=>rfl
  |false=>exact absurd (by unfold e8;rw[eV,hd];rfl) h
theorem DR {c:UInt8} {t:List UInt8} (h:(jP (c::t)).2≠0):cL c=true∨(c=45/\∃d r,t=d::r/\cL d=true):=by
 by_cases h45:c=45
 ·subst h45;rw[OM] at h;refine .inr ⟨rfl,IL (fun e=>h (by rw[aG (.inl e)]))⟩
 ·rw[OL (by simpa using h45)] at h;obtain⟨d,r,e,hd⟩:=IL (l:=c::t) (fun e=>h (by rw[aG (.inl e)]));cases e;exact .inl hd
theorem DS {c:UInt8} {t:List UInt8} {v:Val} (h:cI (c::t)=some v) (h34:c≠34):(jP (c::t)).2=(c::t).length:=by
 rw[<-DT] at h;unfold iA at h;split at h
 ·rename_i hc;have:=hc.2.1;unfold pH at this;rw[aD (by simpa using h34)] at this;exact this
 ·cases h
theorem J7 (t:List UInt8):j8 (34::t) 0=BC (34::t).length 0 (rq t):=by
 unfold j8;rw[aG (show(34::t)[0]?=some 34 from rfl)];rfl
theorem SW {t:List UInt8} {v:Val} (h:cI (34::t)=some v):∃s,rq t=some (s,[]):=by
 rw[<-DT] at h;unfold iA at h;split at h
 ·rename_i hc;have:=hc.2.1;unfold pH at this;rw[aG (show(34::t).head?=some 34 from rfl)] at this;replace this:(j8 (34::t) 0).2=(34::t).length:=this;rw[J7] at this;cases hr:rq t with
  |none=>rw[hr] at this;simp[BC] at this
  |some p=>
   rw[hr] at this;obtain⟨s,r⟩:=p;simp[BC] at this;have hl:=EQ t.length (rL _) hr;have:r=[]:=aN (by omega);exact⟨s,by rw[this]⟩
 ·cases h
theorem AS (w:List UInt8):(AT w).2=true↔0<(jP w).2/\(jP w).2=w.length:=by
 unfold AT;simp
theorem UF (c:UInt8) (t:List UInt8):(c::t).take (oZ t)=c::t.takeWhile d6:=by
 unfold oZ;rw[Nat.add_comm,j2];congr 1;have:=List.prefix_iff_eq_take.1 (gJ (l:=t) d6);exact this.symm
theorem UA {t:List UInt8} {d:UInt8} {r:List UInt8} (h:t.takeWhile d6=d::r):t.head?=some d:=by
 cases t with
 |nil=>cases h
 |cons a t=>
  rw[eV] at h;split at h
  ·cases h;rfl
  ·cases h
theorem rZ {c:UInt8} (h:cL c=true):d6 c=true:=by
 unfold d6;rw[h];simp
theorem Q2 {c:UInt8} {t:List UInt8} {k:Nat} (h:sw (c::t)=some k):l9 (c::t)=k:=by
 rw[u5];simp only[sw] at h;split at h
 ·rename_i hi;have hn:=BI hi.1;rw[aD (fun e=>by rcases(lS c t).1 e with e|e;exact hn.1 e.1;exact hn.2.1 e.1),aG (by rw[hi.1];rfl)];split at h
  ·split at h
   ·exact aY h
   ·cases h
  ·split at h
   ·exact aY h
   ·cases h
 ·rename_i hi;split at h
  ·rename_i h45;subst h45;split at h
   ·rename_i hw;rw[UF] at hw;obtain⟨h1,h2⟩:=(AS _).1 hw;rcases DR (Nat.pos_iff_ne_zero.1 h1) with e|⟨_,d,r,e,hd⟩
    ·exact absurd e (by decide)
    ·rw[aD (fun e=>by rcases(lS 45 t).1 e with e|e<;>exact absurd e.1 (by decide)),aG (by rw[UA e];simp[hd])];exact aY h
   ·cases h
  ·rename_i h45;split at h
   ·rename_i h34;subst h34;split at h
    ·cases h
    ·rename_i hz;rw[aD (fun e=>by rcases(lS 34 t).1 e with e|e<;>exact absurd e.1 (by decide)),aD (by simp;decide),aG rfl];have hq:=J7 t;rw[hq] at h hz;cases hr:rq t with
     |none=>rw[hr] at hz;exact absurd rfl hz
     |some p=>
      obtain⟨s,r⟩:=p;rw[hr] at h;have hf:=x5 t.length (rL _) hr;have hql:mG t=(s.flatMap mC).length:=by rw[hf];exact QF s r
      have hlen:=aQ List.length hf;simp only[aE,aJ] at hlen;simp only[BC,iW,aJ] at h;rw[hql];omega
   ·rename_i h34;split at h
    ·rename_i hp;rw[aG ((lS c t).2 hp)];exact aY h
    ·rename_i hp;split at h
     ·rename_i hm;have hin:d6 c=false:=by rcases hm with rfl|rfl|rfl|rfl|rfl|rfl<;>decide
      rw[aD (fun e=>hp ((lS c t).1 e)),aD (by rw[hin];simp[h45]),aD h34];exact aY h
     ·cases h
def cw (w:By):Prop:=fP w=true∨(cI w).isSome=true∨w=[40]∨w=[41]∨w=[58]∨mL w=true
theorem I1 {c:UInt8} {t:List UInt8} (h:fP (c::t)=true):lV c=true:=by
 simp only[fP,aH] at h;exact h.1.2
theorem O8 {c:UInt8} {t:List UInt8} (h:mL (c::t)=true):c=60∨c=61∨c=62:=by
 simp only[mL,SG,List.contains_eq_mem,aK,List.mem_cons,List.not_mem_nil,or_false] at h;rcases h with h|h|h|h|h|h<;>cases h<;>simp
theorem N8 {c:UInt8} {t:List UInt8} (h:cw (c::t)):(lV c=true/\fP (c::t)=true)∨(cL c=true/\∃v,cI (c::t)=some v)∨(c=45/\∃v,cI (c::t)=some v)∨(c=34/\∃v,cI (c::t)=some v)∨c=40∨c=41∨c=58∨c=60∨c=61∨c=62:=by
 rcases h with h|h|h|h|h|h
 ·exact .inl ⟨I1 h,h⟩
 ·obtain⟨v,hv⟩:=Option.isSome_iff_exists.1 h;by_cases h34:c=34
  ·exact .inr (.inr (.inr (.inl ⟨h34,v,hv⟩)))
  ·have:=DS hv h34;rcases DR (c:=c) (t:=t) (by rw[this];simp) with e|e
   ·exact .inr (.inl ⟨e,v,hv⟩)
   ·exact .inr (.inr (.inl ⟨e.1,v,hv⟩))
 ·cases h;simp
 ·cases h;simp
 ·cases h;simp
 ·rcases O8 h with rfl|rfl|rfl<;>simp
theorem HK (c:UInt8):lV c=true↔97<=c.toNat/\c.toNat<=122:=by simp[lV]
theorem L8 {c:UInt8} (h:lV c=true):d6 c=true:=by unfold d6;rw[h];rfl
theorem UG {c:UInt8} {t:List UInt8} (h32:c≠32) (h:cw (GU (c::t))):sw (c::t)=some (l9 (c::t)):=by
 have hw:∃u,GU (c::t)=c::u/\(c::u)=(c::t).take (l9 (c::t)):=by
  have:=mY c t;unfold GU;obtain⟨k,hk⟩:∃k,l9 (c::t)=k+1:=⟨l9 (c::t) - 1,by omega⟩;exact⟨t.take k,by rw[hk];rfl,by rw[hk];rfl⟩
 obtain⟨u,hu,hu2⟩:=hw;rw[hu] at h;by_cases hin:d6 c=true
 ·have hn:=BI hin;have hwl:l9 (c::t)=oZ t:=by
   rw[u5,aD (fun e=>by rcases(lS c t).1 e with e|e;exact hn.1 e.1;exact hn.2.1 e.1),aG (by rw[hin];rfl)]
  rw[hwl] at hu2⊢;simp only[sw];rcases N8 h with⟨h1,h2⟩|⟨h1,v,h2⟩|h1|h1|h1
  ·have h97:=(HK c).1 h1;rw[aG ⟨hin,by rintro rfl;revert h1;decide⟩,aG h97.1,aG (by rw[<-hu2];exact h2)]
  ·have h97:=(jZ c).1 h1;rw[aG ⟨hin,by rintro rfl;revert h1;decide⟩,aD (by omega),aG (by
    rw[<-hu2,AS];have:=DS h2 hn.2.2.2.1;exact⟨by rw[this];simp,this⟩)]
  ·exact absurd h1.1 hn.2.2.1
  ·exact absurd h1.1 hn.2.2.2.1
  ·rcases h1 with h1|h1|h1|h1|h1|h1
   ·exact absurd h1 hn.2.2.2.2.1
   ·exact absurd h1 hn.2.2.2.2.2.1
   ·exact absurd h1 hn.2.2.2.2.2.2.1
   ·exact absurd h1 hn.1
   ·exact absurd h1 hn.2.2.2.2.2.2.2.1
   ·exact absurd h1 hn.2.1
 ·have hin':d6 c=false:=by simpa using hin
  rcases N8 h with⟨h1,h2⟩|⟨h1,v,h2⟩|⟨rfl,v,h2⟩|⟨rfl,v,h2⟩|h1
  ·exact absurd (L8 h1) hin
  ·exact absurd (rZ h1) hin
  ·have hnum:=DS h2 (by decide);rcases DR (c:=45) (t:=u) (by rw[hnum];simp) with e|⟨_,d,r,e,hd⟩
   ·exact absurd e (by decide)
   ·have hwl:l9 (45::t)=oZ t:=by
     rw[u5,aD (fun e=>by rcases(lS 45 t).1 e with e|e<;>exact absurd e.1 (by decide)),aG];subst e;have hle:=mY 45 t;cases t with
     |nil=>have:=aQ List.length hu2;simp at this;omega
     |cons a t=>
      obtain⟨k,hk⟩:∃k,l9 (45::a::t)=k+1:=⟨l9 (45::a::t) - 1,by omega⟩;rw[hk,j2] at hu2;cases k with
      |zero=>simp at hu2
      |succ k=>
       rw[j2] at hu2;simp at hu2;simp[<-hu2.1,hd]
    rw[hwl] at hu2⊢;simp only[sw];rw[aD (fun e=>hin e.1),aG trivial,aG (by rw[<-hu2,AS];exact⟨by rw[hnum];simp,hnum⟩)]
  ·obtain⟨s,hs⟩:=SW h2;have hf:=x5 u.length (rL _) hs;have ht:t=u++t.drop u.length:=by
    have h3:u=t.take u.length:=by
     have hle:=mY 34 t;obtain⟨k,hk⟩:∃k,l9 (34::t)=k+1:=⟨l9 (34::t) - 1,by omega⟩;rw[hk,j2] at hu2;have h4:=(List.cons.inj hu2).2;rw[h4,bQ];rcases Nat.le_total k t.length with hkt|hkt
     ·rw[Nat.min_eq_left hkt]
     ·rw[Nat.min_eq_right hkt,b5,dI hkt]
    conv=>lhs;rw[<-dZ u.length t]
    rw[<-h3]
   generalize t.drop u.length=rest at ht;rw[hf,bF] at ht;replace ht:t=s.flatMap mC++34::rest:=ht;have hr:rq t=some (s,rest):=by rw[ht];exact a0B s rest
   have hq:=J7 t;have hlen:=aQ List.length ht;simp only[aE,aJ] at hlen;have hk:sw (34::t)=some (j8 (34::t) 0).2:=by
    simp only[sw];rw[aD (fun e=>hin e.1),aD (by decide),aG trivial,aD];rw[hq,hr];simp only[BC,aJ];omega
   rw[hk,Q2 hk]
  ·by_cases hp:FC (c::t)=true
   ·have h2:=(lS c t).1 hp;rw[u5,aG hp];simp only[sw];have hc:c=60∨c=62:=h2.elim (fun h=>.inl h.1) (fun h=>.inr h.1);rw[aD (fun e=>hin e.1),aD (by rcases hc with rfl|rfl<;>decide),aD (by rcases hc with rfl|rfl<;>decide),aG h2]
   ·have h45:c≠45:=by rcases h1 with rfl|rfl|rfl|rfl|rfl|rfl<;>decide
    have h34:c≠34:=by rcases h1 with rfl|rfl|rfl|rfl|rfl|rfl<;>decide
    rw[u5,aD hp,aD (by rw[hin'];simp[h45]),aD h34];simp only[sw];rw[aD (fun e=>hin e.1),aD h45,aD h34,aD (fun e=>hp ((lS c t).2 e)),aG (by
     rcases h1 with h|h|h|h|h|h<;>simp[h])]
theorem a0a {c:UInt8} (h:c≠32) (t:List UInt8):skip (c::t)=c::t:=by
 unfold skip;rw[List.dropWhile_cons,aD (by simpa using h)]
theorem uA (t:List UInt8):iE (32::t)=iE t:=by
 rw[<-AX (32::t),<-AX t];rfl
theorem NY {c:UInt8} (h:c≠32) (t:List UInt8):iE (c::t)=GU (c::t)::iE ((c::t).drop (l9 (c::t))):=mI (a0a h t)
theorem vP:∀(f:Nat) (l:List UInt8) (ws:List By),kL f l=some ws->iE l=ws
 |0,_,_,h=>by cases h
 |f+1,[],ws,h=>by rw[yC] at h;cases h;exact kE rfl
 |f+1,c::t,ws,h=>by
  by_cases hc:c=32
  ·rw[hc,sS] at h;rw[hc,uA];exact vP f t ws h
  ·rw[sT f hc] at h;cases hk:sw (c::t) with
   |none=>rw[hk] at h;cases h
   |some k=>
    rw[hk] at h;simp only[aI] at h;obtain⟨ws',h1,rfl⟩:=h;have hw:=Q2 hk;rw[NY hc,hw,vP f _ _ h1];unfold GU;rw[hw]
theorem EJ:∀(f:Nat) (l:List UInt8),l.length<f->(∀w∈iE l,cw w)->kL f l=some (iE l)
 |0,_,h,_=>by omega
 |f+1,[],_,_=>by rw[yC,kE rfl]
 |f+1,c::t,hl,h=>by
  simp only[aJ] at hl;by_cases hc:c=32
  ·rw[hc,uA] at h⊢;rw[sS];exact EJ f t (by omega) h
  ·rw[NY hc] at h⊢;have hk:=UG hc (h (GU (c::t)) (by simp));have hp:=mY c t;rw[sT f hc,hk];simp only;rw[EJ f _ (by simp;omega) (fun w hw=>h w (by simp[hw]))];rfl
theorem EG:∀{ts r:List By} {t:Term},fV cI ts=some (t,r)->∃pre,ts=pre++r/\∀w∈pre,cw w
 |[],r,t,h=>by cases h
 |w::ts,r,t,h=>by
  unfold fV at h;split at h
  ·rename_i hw;split at h
   ·rename_i h1;split at h
    ·cases h
    ·cases h;obtain⟨pre,rfl,hp⟩:=EG h1;refine⟨w::pre,rfl,fun x hx=>?_⟩;rcases List.mem_cons.1 hx with rfl|hx
     ·exact .inr (.inr (.inr (.inr (.inl hw))))
     ·exact hp x hx
   ·cases h
  ·split at h
   ·rename_i hn;cases h;simp only[aH] at hn;exact⟨[w],rfl,fun x hx=>by rw[List.mem_singleton.1 hx];exact .inl hn.1⟩
   ·split at h
    ·rename_i v hv;cases h;exact⟨[w],rfl,fun x hx=>by rw[List.mem_singleton.1 hx];exact .inr (.inl (by rw[hv];rfl))⟩
    ·cases h
theorem wS {ts r:List By} {w:By} (hw:cw w) (h:∃pre,ts=pre++r/\∀w∈pre,cw w):∃pre,w::ts=pre++r/\∀w∈pre,cw w:=by
 obtain⟨pre,rfl,hp⟩:=h;exact⟨w::pre,rfl,fun x hx=>by
  rcases List.mem_cons.1 hx with rfl|hx
  ·exact hw
  ·exact hp x hx⟩
theorem tV {ts r r':List By} (h:∃pre,ts=pre++r/\∀w∈pre,cw w) (h':∃pre,r=pre++r'/\∀w∈pre,cw w):∃pre,ts=pre++r'/\∀w∈pre,cw w:=by
 obtain⟨p,rfl,hp⟩:=h;obtain⟨q,rfl,hq⟩:=h';exact⟨p++q,by simp,fun x hx=>(List.mem_append.1 hx).elim (hp x) (hq x)⟩
theorem AG (r:List By):∃pre,r=pre++r/\∀w∈pre,cw w:=⟨[],rfl,fun _ h=>by cases h⟩
theorem a2O:cw AU/\cw mZ/\cw jX/\cw kV/\cw jN:=⟨.inl (by decide),.inl (by decide),.inl (by decide),.inl (by decide),.inl (by decide)⟩
theorem lT:∀(f:Nat) (m:Md) (lv d:Nat) (ts r:List By) (t:Tree) (e:Nat),bP cI f m lv d ts=some (t,r,e)->∃pre,ts=pre++r/\∀w∈pre,cw w
 |0,m,lv,d,ts,r,t,e,h=>by cases h
 |f+1,.or,lv,d,ts,r,t,e,h=>by
  unfold bP at h;split at h
  ·rename_i n r1 e1 h1;exact tV (lT f _ _ _ _ _ _ _ h1) (lT f _ _ _ _ _ _ _ h)
  ·cases h
 |f+1,.orL n,lv,d,ts,r,t,e,h=>by
  unfold bP at h;split at h
  ·rename_i hd;obtain⟨r0,rfl⟩:=fS hd (by decide);split at h
   ·rename_i n r1 e1 h1;exact wS a2O.1 (tV (lT f _ _ _ _ _ _ _ h1) (lT f _ _ _ _ _ _ _ h))
   ·cases h
  ·cases h;exact AG _
 |f+1,.and,lv,d,ts,r,t,e,h=>by
  unfold bP at h;split at h
  ·rename_i n r1 e1 h1;exact tV (lT f _ _ _ _ _ _ _ h1) (lT f _ _ _ _ _ _ _ h)
  ·cases h
 |f+1,.andL n,lv,d,ts,r,t,e,h=>by
  unfold bP at h;split at h
  ·rename_i hd;obtain⟨r0,rfl⟩:=fS hd (by decide);split at h
   ·rename_i n r1 e1 h1;exact wS a2O.2.1 (tV (lT f _ _ _ _ _ _ _ h1) (lT f _ _ _ _ _ _ _ h))
   ·cases h
  ·cases h;exact AG _
 |f+1,.not,lv,d,ts,r,t,e,h=>by
  unfold bP at h;split at h
  ·rename_i hd;obtain⟨r0,rfl⟩:=fS hd (by decide);split at h
   ·rename_i n r1 e1 h1;cases h;exact wS a2O.2.2.1 (lT f _ _ _ _ _ _ _ h1)
   ·cases h
  ·exact lT f _ _ _ _ _ _ _ h
 |f+1,.prim,lv,d,ts,r,t,e,h=>by
  unfold bP at h;split at h
  ·rename_i hd;obtain⟨r0,rfl⟩:=fS hd (by decide);cases h;exact wS a2O.2.2.2.1 (AG _)
  ·split at h
   ·rename_i hd;obtain⟨r0,rfl⟩:=fS hd (by decide);cases h;exact wS a2O.2.2.2.2 (AG _)
   ·split at h
    ·rename_i hd;obtain⟨r0,rfl⟩:=fS hd (by decide);split at h
     ·rename_i n r1 e1 h1;split at h
      ·rename_i hr;obtain⟨r2,rfl⟩:=fS hr (by decide);cases h;exact wS (.inr (.inr (.inl rfl))) (tV (lT f _ _ _ _ _ _ _ h1) (wS (.inr (.inr (.inr (.inl rfl)))) (AG _)))
      ·cases h
     ·cases h
    ·split at h
     ·rename_i a r1 h1;split at h
      ·rename_i hrel;split at h
       ·rename_i b r2 h2;cases h;refine tV (EG h1) ?_;obtain⟨q,hq⟩:∃q,r1=r1.headD []::q:=by
         cases r1 with
         |nil=>exact absurd hrel (by decide)
         |cons a q=>exact⟨q,rfl⟩
        conv=>enter [1,pre];rw[hq]
        refine wS (.inr (.inr (.inr (.inr (.inr hrel))))) ?_;have:r1.tail=q:=by rw[hq];rfl
        rw[<-this];exact EG h2
       ·cases h
      ·cases h
     ·cases h
def l7 (s:By):RdE:=if 1000<s.length then .err 3 else match B0 s with
 |none=>.err 2
 |some ws=>match bP iA (jH s) .or 0 0 ws with
  |some (t,r,e)=>if r=[] then(if 20<e then .err 4 else .ok t) else .err 2
  |none=>.err 2
theorem zI (s:By):m5 s=match l7 s with
  |.ok t=>.ok t.flat
  |.err e=>.err e:=by
 have hl:iA=cI:=funext DT;unfold m5 l7;by_cases h1:1000<s.length
 ·rw[aG h1,aG h1]
 ·rw[aD h1,aD h1,hl];cases hs:B0 s with
  |some ws=>
   rw[vP _ _ _ hs];simp only;cases hp:bP cI (jH s) .or 0 0 ws with
   |none=>rfl
   |some p=>
    obtain⟨t,r,e⟩:=p;simp only;cases r with
    |nil=>
     simp only[List.headD_nil,beq_self_eq_true,fK];split<;>rfl
    |cons w r=>
     have hne:w≠[]:=by
      obtain⟨pre,e1,_⟩:=lT _ _ _ _ _ _ _ _ hp;exact IW s.length s (rL _) w (by rw[vP _ _ _ hs,e1];simp)
     rw[aD (by simpa using hne),aD (by simp)]
  |none=>
   simp only;cases hp:bP cI (jH s) .or 0 0 (iE s) with
   |none=>rfl
   |some p=>
    obtain⟨t,r,e⟩:=p;simp only;obtain⟨pre,e1,h2⟩:=lT _ _ _ _ _ _ _ _ hp;cases r with
    |nil=>
     exfalso;rw[gC] at e1;have:=EJ (s.length+1) s (by omega) (by rw[e1];exact h2);unfold B0 at hs;rw[hs] at this;cases this
    |cons w r=>
     have hne:w≠[]:=IW s.length s (rL _) w (by rw[e1];simp);rw[aD (by simpa using hne)]
def pS (ws:List By) (a dp:Int) (bad gE:Bool):GObj:=.box 250 [.sl .none (b9 ws),.i .i64 a,.i .i64 dp,.b bad,.b gE]
theorem dM [MaxL] (ws:List By) (a dp:Int) (bad gE:Bool):ClL [.sl .none (b9 ws),.i .i64 a,.i .i64 dp,.b bad,.b gE]:=.cons (bS (uD ws)) (fun _=>rfl)
theorem bO [MaxL] {ws:List By} {a dp:Int} {bad gE:Bool}:ClL [.sl .none (b9 ws),.i .i64 a,.i .i64 dp,.b bad,.b gE]:=dM ws a dp bad gE
def kU (ws:List By) (a:Nat):By:=(ws.drop a).headD []
theorem U6 {ws:List By} {a:Nat} (h:a<ws.length):(b9 ws)[a]?=some (.s (kU ws a)):=by
 unfold kU b9;rw[aM,aT h,gL h];rfl
theorem E8 {ws:List By} {a:Nat} (h:ws.length<=a):kU ws a=[]:=by
 unfold kU;rw[List.drop_eq_nil_of_le h];rfl
theorem HQ [MaxL] (ws:List By) (hw:ws.length<bB) (a:Nat) (dp:Int) (bad gE:Bool):SC Tryz.prog 306 [.ptr 0 0] [pS ws a dp bad gE] (.val (.s (kU ws a))) [pS ws a dp bad gE]:=by
 have hl:(b9 ws).length=ws.length:=aP ws;unfold bB at hw;refine cX Tryz.func306 rfl ?_;conv=>whnf
 refine b6 (by kernel_rfl) ?_;conv=>whnf
 refine aF (fun h=>?_) (fun h=>?_)<;>conv=>whnf
 ·have ha:a<ws.length:=by have:=aB h;rw[hl] at this;omega
  refine b6 (by kernel_rfl) ?_;conv=>whnf
  refine⟨cN _,.s (kU ws a),by rw[aA];exact U6 ha,rfl,?_⟩;conv=>whnf
  exact kB rfl rfl (dM ws a dp bad gE)
 ·have ha:ws.length<=a:=by have:=aC h;rw[hl] at this;omega
  rw[E8 ha];exact kB rfl rfl (dM ws a dp bad gE)
def zA (ws:List By) (a:Nat) (bad:Bool) (w:By):Bool:=!bad&&(kU ws a==w)
theorem OE [MaxL] (ws:List By) (hw:ws.length<bB) (a:Nat) (ha:a<=ws.length) (dp:Int) (bad gE:Bool) (w:By):
  SC Tryz.prog 268 [.ptr 0 0,.s w] [pS ws a dp bad gE] (.val (.b (zA ws a bad w))) [pS ws (if zA ws a bad w then a+1 else a:Nat) dp bad gE]:=by
 have hn:=HQ ws hw a dp bad gE;have hw':=hw;unfold bB at hw';cases bad with
 |true=>
  refine cX Tryz.func268 rfl ?_;conv=>whnf
  exact rQ rfl rfl (dM ws a dp true gE)
 |false=>
  have e:zA ws a false w=(kU ws a==w):=by simp[zA]
  rw[e];generalize kU ws a=x at*;refine cX Tryz.func268 rfl ?_;conv=>whnf
  refine aW (q:=0) hn rfl (wR _) rfl rfl (dM ws a dp false gE) (dM ws a dp false gE) (fun _=>rfl) (.s _) ?_;conv=>whnf
  refine aF (fun hc=>?_) (fun hc=>?_)<;>conv=>whnf
  ·have e2:(x==w)=false:=by simpa using hc
   rw[e2];exact rQ rfl rfl (dM ws a dp false gE)
  ·have e2:(x==w)=true:=by simpa using hc
   rw[e2];refine⟨[.i .i64 (a+1:Nat)],⟨(by rw[b7 (by omega)];rfl),rL _,rfl,bL rfl⟩,?_⟩;(conv=>whnf);exact rQ rfl rfl (dM ws (a+1:Nat) dp false gE)
theorem VG [MaxL] (ws:List By) (hw:ws.length<bB) (a:Nat) (dp:Int) (bad gE:Bool):
  SC Tryz.prog 341 [.ptr 0 0] [pS ws a dp bad gE] (.val (.b (fP (kU ws a)&&!a2B.contains (kU ws a)))) [pS ws a dp bad gE]:=by
 have hn:=HQ ws hw a dp bad gE;generalize kU ws a=x at*;refine cX Tryz.func341 rfl ?_;conv=>whnf
 refine aW (q:=0) hn rfl (wR _) rfl rfl (dM ws a dp bad gE) (dM ws a dp bad gE) (fun _=>rfl) (.s _) ?_;conv=>whnf
 refine lX (BB x) ?_;conv=>whnf
 refine aF (fun h1=>?_) (fun h1=>?_)<;>conv=>whnf
 ·skip;refine lX (a0s x) ?_;conv=>whnf
  refine rQ rfl ?_ (dM ws a dp bad gE);rw[h1];rfl
 ·refine rQ rfl ?_ (dM ws a dp bad gE);rw[h1];rfl
theorem a1q [MaxL] (ws:List By) (a lv:Nat) (hl:lv<1000000) (bad gE:Bool):
  SC Tryz.prog 323 [.ptr 0 0] [pS ws a lv bad gE] (.val (.tup [])) [pS ws a (lv+1:Nat) bad (gE||decide (20<lv+1))]:=by
 have e:IntKind.i64.wrap ((lv:Int)+1)=((lv+1:Nat):Int):=DH hl;refine cX Tryz.func323 rfl ?_;conv=>whnf
 refine⟨[.i .i64 (lv+1:Nat)],⟨(by rw[e];rfl),rL _,rfl,bL rfl⟩,?_⟩;conv=>whnf
 have e2:((20:Int)<((lv+1:Nat):Int))↔20<lv+1:=by omega
 refine aF (fun h=>?_) (fun h=>?_)<;>conv=>whnf
 ·have h':20<lv+1:=by have:=aB h;omega
  refine⟨_,⟨rfl,zL _,rfl,bL rfl⟩,?_⟩;conv=>whnf
  refine fW ?_ (.refl _) (dM ws a (lv+1:Nat) bad _) (fun _=>rfl);rw[bM h',Bool.or_true];rfl
 ·have h':¬20<lv+1:=by have:=aC h;omega
  refine fW ?_ (.refl _) (dM ws a (lv+1:Nat) bad _) (fun _=>rfl);rw[cE h',Bool.or_false]
def UR (t:Term):List GV:=[.s (if t.var then[] else t.name),.s (if t.var then t.name else[]),.i .i64 t.v.k,.i .i64 t.v.n,.s t.v.s]
def t0:Term:=⟨[],false,v0⟩
theorem B4 [MaxL] (t:Term):ClL (UR t):=fun _=>rfl
theorem EV [MaxL] (ws:List By) (hw:ws.length<bB) (a:Nat) (dp:Int) (gE:Bool):
  SC Tryz.prog 333 [.ptr 0 0] [pS ws a dp true gE] (.val (.agg (UR t0))) [pS ws a dp true gE]:=by
 have hn:=HQ ws hw a dp true gE;generalize kU ws a=x at*;refine cX Tryz.func333 rfl ?_;conv=>whnf
 refine aW (q:=0) hn rfl (wR _) rfl rfl (dM ws a dp true gE) (dM ws a dp true gE) (fun _=>rfl) (.s _) ?_;conv=>whnf
 refine⟨_,⟨rfl,zL _,rfl,bL rfl⟩,?_⟩;conv=>whnf
 exact fW rfl (.refl _) (dM ws a dp true gE) (fun _=>rfl)
def D8 (x:By):Bool:=fP x&&!a2B.contains x
theorem EH {lit:By->Option Val} (w:By) (ts:List By):fV lit (w::ts)=if w=[58] then(match fV lit ts with
   |some (t,r)=>if t.name=[]∨t.var=true then none else some (⟨t.name,true,t.v⟩,r)
   |none=>none)
  else if D8 w then some (⟨w,false,v0⟩,ts) else match lit w with
   |some v=>some (⟨[],false,v⟩,ts)
   |none=>none:=by
 conv=>lhs;unfold fV
 rfl
theorem E9 {ws:List By} {a:Nat} (h:a<ws.length):ws.drop a=kU ws a::ws.drop (a+1):=by
 unfold kU;rw[aT h];rfl
theorem QK {x:By} (h:D8 x=true):x≠[]/\x≠[58]:=by
 constructor<;>(rintro rfl;exact absurd h (by decide))
theorem kD {ws:List By} {a:Nat} (h:kU ws a≠[]):a<ws.length:=by
 rcases eO a ws.length with h1|h1
 ·exact h1
 ·exact absurd (E8 h1) h
theorem W9:iA []=none:=by unfold iA;rw[aD (fun h=>h.1 rfl)]
theorem UE (ws:List By) (a:Nat):fV iA (ws.drop a)=if D8 (kU ws a) then some (⟨kU ws a,false,v0⟩,ws.drop (a+1)) else if kU ws a=[58] then
   (if D8 (kU ws (a+1)) then some (⟨kU ws (a+1),true,v0⟩,ws.drop (a+2)) else none)
  else match iA (kU ws a) with
   |some v=>some (⟨[],false,v⟩,ws.drop (a+1))
   |none=>none:=by
 by_cases ha:a<ws.length
 ·rw[E9 ha,EH];by_cases h1:kU ws a=[58]
  ·rw[aG h1,h1,aD (by decide),aG rfl];by_cases hb:a+1<ws.length
   ·rw[E9 hb,EH];by_cases h3:D8 (kU ws (a+1))=true
    ·rw[aG h3,aD (QK h3).2,aG h3];simp only;rw[aD (by rintro(h|h);exact(QK h3).1 h;cases h)]
    ·rw[aD h3,aD h3];by_cases h4:kU ws (a+1)=[58]
     ·rw[aG h4];cases fV iA (ws.drop (a+1+1)) with
      |none=>rfl
      |some p=>
       obtain⟨t,r⟩:=p;simp only;by_cases h5:t.name=[]∨t.var=true
       ·rw[aG h5]
       ·rw[aD h5];simp only;rw[aG (.inr trivial)]
     ·rw[aD h4];cases iA (kU ws (a+1)) with
      |none=>rfl
      |some v=>simp only;rw[aG (.inl trivial)]
   ·rw[E8 (by omega),List.drop_eq_nil_of_le (by omega)];rfl
  ·rw[aD h1,aD h1]
 ·rw[E8 (by omega),List.drop_eq_nil_of_le (by omega),aD (by decide),aD (by decide),W9];rfl
theorem SX (x:By):(iA x=some (pH x).1/\x≠[]/\(pH x).2=x.length/\(pH x).1.ok=true)∨(iA x=none/\¬(x≠[]/\(pH x).2=x.length/\(pH x).1.ok=true)):=by
 unfold iA;by_cases h:x≠[]/\(pH x).2=x.length/\(pH x).1.ok=true
 ·rw[aG h];exact .inl ⟨rfl,h⟩
 ·rw[aD h];exact .inr ⟨rfl,h⟩
theorem yG [MaxL] (ws : List By) (hw : ws.length < bB) (hx : ∀ w ∈ ws, w.length < 1000000) (a : Nat) (ha : a ≤ ws.length) (dp : Int) (gE : Bool) :
    match fV iA (ws.drop a) with
    | some (t, r) => ∃ a', a ≤ a' ∧ a' ≤ ws.length ∧ r = ws.drop a' ∧ SC Tryz.prog 333 [.ptr 0 0] [pS ws a dp false gE] (.val (.agg (UR t))) [pS ws a' dp false gE]
    | none => ∃ a', a ≤ a' ∧ a' ≤ ws.length ∧ SC Tryz.prog 333 [.ptr 0 0] [pS ws a dp false gE] (.val (.agg (UR t0))) [pS ws a' dp true gE] := by
  have hn := HQ ws hw a dp false gE;have hn1 := VG ws hw a dp false gE;have hn2 := VG ws hw (a + 1) dp false gE;have hxl : (kU ws a).length < 1000000 := by
    rcases eO a ws.length with h1 | h1
    · exact hx _ (by have := E9 h1; exact List.mem_of_mem_drop (i := a) (by rw [this]; simp))
    · rw [E8 h1]; decide
  have hw' := hw;unfold bB at hw';have hlen : (b9 ws).length = ws.length := aP ws;rw [UE];by_cases h1 : D8 (kU ws a) = true
  · rw [aG h1]
    have hlt := kD (QK h1).1;refine ⟨a + 1, by omega, hlt, rfl, ?_⟩;replace hn1 : SC Tryz.prog 341 [.ptr 0 0] [pS ws a dp false gE] (.val (.b (D8 (kU ws a)))) [pS ws a dp false gE] := hn1;rw [h1] at hn1;generalize kU ws a = x at *;refine cX Tryz.func333 rfl ?_;conv => whnf
    refine aW (q := 0) hn rfl (wR _) rfl rfl (dM ws a dp false gE) (dM ws a dp false gE) (fun _ => rfl) (.s _) ?_;conv => whnf
    refine aW (q := 0) hn1 rfl (wR _) rfl rfl (dM ws a dp false gE) (dM ws a dp false gE) (fun _ => rfl) (.b _) ?_;conv => whnf
    refine ⟨[.i .i64 (a + 1 : Nat)], ⟨(by rw [b7 (by omega)]; rfl), rL _, rfl, bL rfl⟩, ?_⟩;conv => whnf
    refine ⟨_, ⟨rfl, zL _, rfl, bL rfl⟩, ?_⟩;conv => whnf
    exact fW rfl (.refl _) (dM ws (a + 1 : Nat) dp false gE) (fun _ => rfl)
  rw [aD h1];have h1' : D8 (kU ws a) = false := by simpa using h1
  replace hn1 : SC Tryz.prog 341 [.ptr 0 0] [pS ws a dp false gE] (.val (.b (D8 (kU ws a)))) [pS ws a dp false gE] := hn1;rw [h1'] at hn1;by_cases h2 : kU ws a = [58]
  · rw [aG h2]
    have hlt := kD (ws := ws) (a := a) (by rw [h2]; simp);replace hn2 : SC Tryz.prog 341 [.ptr 0 0] [pS ws (a + 1 : Nat) dp false gE] (.val (.b (D8 (kU ws (a + 1))))) [pS ws (a + 1 : Nat) dp false gE] := hn2;rw [h2] at hn;by_cases h3 : D8 (kU ws (a + 1)) = true
    · rw [aG h3]
      have hlt2 := kD (QK h3).1;have hget := U6 hlt2;refine ⟨a + 2, by omega, hlt2, rfl, ?_⟩;rw [h3] at hn2;generalize kU ws (a + 1) = y at *;clear h1 h1' h2 hxl;refine cX Tryz.func333 rfl ?_;conv => whnf
      refine aW (q := 0) hn rfl (wR _) rfl rfl (dM ws a dp false gE) (dM ws a dp false gE) (fun _ => rfl) (.s _) ?_;conv => whnf
      refine aW (q := 0) hn1 rfl (wR _) rfl rfl (dM ws a dp false gE) (dM ws a dp false gE) (fun _ => rfl) (.b _) ?_;conv => whnf
      refine ⟨[.i .i64 (a + 1 : Nat)], ⟨(by rw [b7 (by omega)]; rfl), rL _, rfl, bL rfl⟩, ?_⟩;conv => whnf
      refine aW (q := 0) hn2 rfl (wR _) rfl rfl (dM ws (a + 1 : Nat) dp false gE) (dM ws (a + 1 : Nat) dp false gE) (fun _ => rfl) (.b _) ?_;conv => whnf
      refine ⟨[.i .i64 (a + 2 : Nat)], ⟨(by rw [b7 (i := a + 1) (by omega)]; rfl), rL _, rfl, bL rfl⟩, ?_⟩;conv => whnf
      refine b6 (by kernel_rfl) ?_;conv => whnf
      have w2 : IntKind.i64.wrap (((a + 2 : Nat) : Int) - 1) = ((a + 1 : Nat) : Int) := by rw [bU (by omega) (by omega)]; omega
      refine ⟨by rw [w2]; exact cN _, .s y, by rw [w2, aA]; exact hget, rfl, ?_⟩;conv => whnf
      refine ⟨_, ⟨rfl, zL _, rfl, bL rfl⟩, ?_⟩;conv => whnf
      exact fW rfl (.refl _) (dM ws (a + 2 : Nat) dp false gE) (fun _ => rfl)
    · rw [aD h3]
      refine ⟨a + 1, by omega, hlt, ?_⟩;have h3' : D8 (kU ws (a + 1)) = false := by simpa using h3
      rw [h3'] at hn2;generalize kU ws (a + 1) = y at *;clear h1 h1' h2 hxl;refine cX Tryz.func333 rfl ?_;conv => whnf
      refine aW (q := 0) hn rfl (wR _) rfl rfl (dM ws a dp false gE) (dM ws a dp false gE) (fun _ => rfl) (.s _) ?_;conv => whnf
      refine aW (q := 0) hn1 rfl (wR _) rfl rfl (dM ws a dp false gE) (dM ws a dp false gE) (fun _ => rfl) (.b _) ?_;conv => whnf
      refine ⟨[.i .i64 (a + 1 : Nat)], ⟨(by rw [b7 (by omega)]; rfl), rL _, rfl, bL rfl⟩, ?_⟩;conv => whnf
      refine aW (q := 0) hn2 rfl (wR _) rfl rfl (dM ws (a + 1 : Nat) dp false gE) (dM ws (a + 1 : Nat) dp false gE) (fun _ => rfl) (.b _) ?_;conv => whnf
      refine ⟨_, ⟨rfl, zL _, rfl, bL rfl⟩, ?_⟩;conv => whnf
      refine ⟨_, ⟨rfl, zL _, rfl, bL rfl⟩, ?_⟩;conv => whnf
      exact fW rfl (.refl _) (dM ws (a + 1 : Nat) dp true gE) (fun _ => rfl)
  · rw [aD h2]
    have hl := SX (kU ws a);have hlit := SP (kU ws a) hxl;have hok := zK (pH (kU ws a)).1;have hin := kD (ws := ws) (a := a);generalize kU ws a = x at *;generalize pH x = q at *;obtain ⟨v, k⟩ := q;simp only at hl hlit hok;rcases hl with ⟨e, l1, l2, l3⟩ | ⟨e, l0⟩
    · rw [e]
      refine ⟨a + 1, by omega, hin l1, rfl, ?_⟩;rw [l3] at hok;refine cX Tryz.func333 rfl ?_;conv => whnf
      refine aW (q := 0) hn rfl (wR _) rfl rfl (dM ws a dp false gE) (dM ws a dp false gE) (fun _ => rfl) (.s _) ?_;conv => whnf
      refine aW (q := 0) hn1 rfl (wR _) rfl rfl (dM ws a dp false gE) (dM ws a dp false gE) (fun _ => rfl) (.b _) ?_;conv => whnf
      refine aF (fun hc => ?_) (fun hc => ?_) <;> conv => whnf
      · exact absurd (by simpa using hc) h2
      refine bD hlit (wR _) rfl (fun _ => rfl) (fun _ => rfl) ?_;conv => whnf
      refine ⟨_, ⟨rfl, zL _, rfl, bL rfl⟩, ?_⟩;conv => whnf
      refine aF (fun s1 => ?_) (fun s1 => ?_) <;> conv => whnf
      rotate_left
      · exact absurd (by simpa using s1) l1
      refine aF (fun s2 => ?_) (fun s2 => ?_) <;> conv => whnf
      rotate_left
      · have := aC s2; exact absurd (by omega) this
      refine bD hok (wR _) rfl (fun _ => rfl) (.b _) ?_;conv => whnf
      refine ⟨[.i .i64 (a + 1 : Nat)], ⟨(by rw [b7 (by have := hin l1; omega)]; rfl), rL _, rfl, bL rfl⟩, ?_⟩;conv => whnf
      refine ⟨_, ⟨rfl, zL _, rfl, bL rfl⟩, ?_⟩;conv => whnf
      exact fW rfl (.refl _) (dM ws (a + 1 : Nat) dp false gE) (fun _ => rfl)
    · rw [e]
      refine ⟨a, rL _, ha, ?_⟩;refine cX Tryz.func333 rfl ?_;conv => whnf
      refine aW (q := 0) hn rfl (wR _) rfl rfl (dM ws a dp false gE) (dM ws a dp false gE) (fun _ => rfl) (.s _) ?_;conv => whnf
      refine aW (q := 0) hn1 rfl (wR _) rfl rfl (dM ws a dp false gE) (dM ws a dp false gE) (fun _ => rfl) (.b _) ?_;conv => whnf
      refine aF (fun hc => ?_) (fun hc => ?_) <;> conv => whnf
      · exact absurd (by simpa using hc) h2
      refine bD hlit (wR _) rfl (fun _ => rfl) (fun _ => rfl) ?_;conv => whnf
      refine ⟨_, ⟨rfl, zL _, rfl, bL rfl⟩, ?_⟩;conv => whnf
      refine aF (fun s1 => ?_) (fun s1 => ?_) <;> conv => whnf
      · refine aF (fun s2 => ?_) (fun s2 => ?_) <;> conv => whnf
        · have hvo : v.ok = false := by
            cases hv : v.ok with
            | false => rfl
            | true => exact absurd ⟨by simpa using s1, by have : (k : Int) = (x.length : Int) := by simpa using s2
                                                          omega, hv⟩ l0
          rw [hvo] at hok;refine bD hok (wR _) rfl (fun _ => rfl) (.b _) ?_;conv => whnf
          refine ⟨_, ⟨rfl, zL _, rfl, bL rfl⟩, ?_⟩;conv => whnf
          refine ⟨_, ⟨rfl, zL _, rfl, bL rfl⟩, ?_⟩;conv => whnf
          exact fW rfl (.refl _) (dM ws a dp true gE) (fun _ => rfl)
        · skip
          refine ⟨_, ⟨rfl, zL _, rfl, bL rfl⟩, ?_⟩;conv => whnf
          refine ⟨_, ⟨rfl, zL _, rfl, bL rfl⟩, ?_⟩;conv => whnf
          exact fW rfl (.refl _) (dM ws a dp true gE) (fun _ => rfl)
      · skip
        refine ⟨_, ⟨rfl, zL _, rfl, bL rfl⟩, ?_⟩;conv => whnf
        refine ⟨_, ⟨rfl, zL _, rfl, bL rfl⟩, ?_⟩;conv => whnf
        exact fW rfl (.refl _) (dM ws a dp true gE) (fun _ => rfl)
