/-
  A part of the proof of SchemaChosen.
-/
import Derived.Test.YtcfgfkkhpdlhpaaGreatDoorR41
set_option linter.all false
set_option maxRecDepth 100000
namespace Go.Proofs.YtcfgfkkhpdlhpaaGreatDoor
open Go.RowKit
def FE (a:Bool):Tree->Bool
 |.pair b _ _=>a==b
 |_=>false
def nJ:Tree->Prop
 |.pair a l r=>nJ l/\nJ r/\FE a r=false
 |.no t=>nJ t
 |_=>True
theorem yT (b:Bool):∀(t x:Tree),∃l r,dV b (some x) t=.pair b l r
 |.pair c l r,x=>by
  unfold dV;split
  ·exact yT b r _
  ·exact⟨_,_,rfl⟩
 |.no t,x=>⟨_,_,rfl⟩
 |.test _ _ _,x=>⟨_,_,rfl⟩
 |.truth _,x=>⟨_,_,rfl⟩
def a0P:Option Tree->Prop
 |none=>True
 |some t=>nJ t
theorem A0 {a:Bool} {acc:Option Tree} {t:Tree} (h:a0P acc) (ht:nJ t) (hp:FE a t=false):nJ (r4 a acc t):=by
 cases acc with
 |none=>exact ht
 |some x=>exact⟨h,ht,hp⟩
theorem tT:∀(t:Tree) (a:Bool) (acc:Option Tree),a0P acc->nJ (dV a acc t)
 |.pair b l r,a,acc,h=>by
  unfold dV;split
  ·exact tT r a _ (tT l a _ h)
  ·rename_i hab;refine A0 h (tT r b _ (tT l b none trivial)) ?_;obtain⟨x,y,e⟩:=yT b r (dV b none l);rw[e];simpa[FE] using hab
 |.no t,a,acc,h=>by
  unfold dV;exact A0 h (tT t true none trivial) rfl
 |.test _ _ _,a,acc,h=>by unfold dV;exact A0 h trivial rfl
 |.truth _,a,acc,h=>by unfold dV;exact A0 h trivial rfl
theorem KH (t:Tree):nJ t.flat:=tT t true none trivial
theorem TE (b:Bool) (x r:Tree) (h:FE b r=false):dV b (some x) r=.pair b x (dV b none r):=by
 cases r with
 |pair c l r=>
  have hb:¬b=c:=by simpa[FE] using h
  conv=>lhs;unfold dV
  conv=>rhs;unfold dV
  rw[aD hb,aD hb];rfl
 |_=>rfl
theorem v8:∀(t:Tree),nJ t->∀a,dV a none t=t
 |.pair b l r,h,a=>by
  rw[GD a b];conv=>lhs;unfold dV
  rw[aG rfl,v8 l h.1 b,TE b l r h.2.2,v8 r h.2.1 b]
 |.no t,h,a=>by
  unfold dV;rw[v8 t h true];rfl
 |.test _ _ _,h,a=>rfl
 |.truth _,h,a=>rfl
theorem R5 {t:Tree} (h:nJ t):t.flat=t:=v8 t h true
theorem TD (t:Tree):t.flat.flat=t.flat:=R5 (KH t)
def Term.good (t:Term):Prop:=(t.name≠[]/\fP t.name=true/\a2B.contains t.name=false/\t.v=v0)∨(t.name=[]/\t.var=false/\t.v.ok=true)
def Tree.good:Tree->Prop
 |.pair _ l r=>l.good/\r.good
 |.no t=>t.good
 |.test op l r=>mL op=true/\l.good/\r.good
 |.truth _=>True
theorem yB:∀{ts r:List By} {t:Term},fV cI ts=some (t,r)->t.good
 |[],r,t,h=>by cases h
 |w::ts,r,t,h=>by
  unfold fV at h;split at h
  ·split at h
   ·rename_i t' r' h1;have ih:=yB h1;split at h
    ·cases h
    ·rename_i hc;cases h;rcases ih with ih|ih
     ·exact .inl ih
     ·exact absurd (.inl ih.1) hc
   ·cases h
  ·split at h
   ·rename_i hn;cases h;simp only[aH,dQ] at hn;exact .inl ⟨(by rintro rfl;exact absurd hn.1 (by decide)),hn.1,hn.2,rfl⟩
   ·split at h
    ·rename_i v hv;cases h;exact .inr ⟨rfl,rfl,F9 hv⟩
    ·cases h
def Md.good:Md->Prop
 |.orL n=>n.good
 |.andL n=>n.good
 |_=>True
theorem jM:∀(f:Nat) (m:Md) (lv d:Nat) (ts r:List By) (t:Tree) (e:Nat),bP cI f m lv d ts=some (t,r,e)->m.good->t.good
 |0,m,lv,d,ts,r,t,e,h,_=>by cases h
 |f+1,.or,lv,d,ts,r,t,e,h,_=>by
  unfold bP at h;split at h
  ·rename_i n r1 e1 h1;exact jM f _ _ _ _ _ _ _ h (jM f _ _ _ _ _ _ _ h1 trivial)
  ·cases h
 |f+1,.orL n,lv,d,ts,r,t,e,h,hn=>by
  unfold bP at h;split at h
  ·split at h
   ·rename_i n r1 e1 h1;exact jM f _ _ _ _ _ _ _ h ⟨hn,jM f _ _ _ _ _ _ _ h1 trivial⟩
   ·cases h
  ·cases h;exact hn
 |f+1,.and,lv,d,ts,r,t,e,h,_=>by
  unfold bP at h;split at h
  ·rename_i n r1 e1 h1;exact jM f _ _ _ _ _ _ _ h (jM f _ _ _ _ _ _ _ h1 trivial)
  ·cases h
 |f+1,.andL n,lv,d,ts,r,t,e,h,hn=>by
  unfold bP at h;split at h
  ·split at h
   ·rename_i n r1 e1 h1;exact jM f _ _ _ _ _ _ _ h ⟨hn,jM f _ _ _ _ _ _ _ h1 trivial⟩
   ·cases h
  ·cases h;exact hn
 |f+1,.not,lv,d,ts,r,t,e,h,_=>by
  unfold bP at h;split at h
  ·split at h
   ·rename_i n r1 e1 h1;cases h;show n.good;exact jM f .prim _ _ _ _ _ _ h1 trivial
   ·cases h
  ·exact jM f .prim _ _ _ _ _ _ h trivial
 |f+1,.prim,lv,d,ts,r,t,e,h,_=>by
  unfold bP at h;split at h
  ·cases h;trivial
  ·split at h
   ·cases h;trivial
   ·split at h
    ·split at h
     ·rename_i n r1 e1 h1;split at h
      ·cases h;exact jM f .or _ _ _ _ _ _ h1 trivial
      ·cases h
     ·cases h
    ·split at h
     ·rename_i a r1 h1;split at h
      ·rename_i hrel;split at h
       ·rename_i b r2 h2;cases h;exact⟨hrel,yB h1,yB h2⟩
       ·cases h
      ·cases h
     ·cases h
def RU:Option Tree->Prop
 |none=>True
 |some t=>t.good
theorem uQ (a:Bool) {acc:Option Tree} {t:Tree} (h:RU acc) (h':t.good):(r4 a acc t).good:=by
 cases acc with
 |none=>exact h'
 |some x=>exact⟨h,h'⟩
theorem nM (a:Bool):∀(t:Tree) (acc:Option Tree),RU acc->t.good->(dV a acc t).good
 |.pair b l r,acc,h,ht=>by
  unfold dV;split
  ·exact nM a r _ (nM a l _ h ht.1) ht.2
  ·exact uQ a h (nM b r _ (nM b l _ trivial ht.1) ht.2)
 |.no t,acc,h,ht=>by unfold dV;exact uQ a h (nM true t _ trivial ht)
 |.test _ _ _,acc,h,ht=>by unfold dV;exact uQ a h ht
 |.truth _,acc,h,ht=>by unfold dV;exact uQ a h ht
theorem IF {t:Tree} (h:t.good):t.flat.good:=nM true t none trivial h
theorem a19 (l:List UInt8):cI (34::l)=jK (34::l):=uM (fun v h=>by
 unfold Lib.atoiAll at h;simp only[show¬((34:UInt8).toNat=43∨(34:UInt8).toNat=45) by decide,fM] at h;unfold Lib.parseMag Lib.parseUint10 at h;rw[aD (by simp),aD (by decide)] at h;cases h)
theorem M0 {v:Val} (h:v.ok=true):(∃n,v=⟨1,n,[]⟩/\ -1000000000<=n/\n<=1000000000)∨∃s,v=⟨2,0,s⟩:=by
 obtain⟨k,n,s⟩:=v;simp only[Val.ok,f5,aH,aK] at h;rcases h with⟨⟨⟨rfl,rfl⟩,h1⟩,h2⟩|⟨⟨rfl,rfl⟩,h1⟩
 ·exact .inl ⟨n,rfl,h1,h2⟩
 ·exact .inr ⟨s,rfl⟩
theorem CJ {v:Val} (h:v.ok=true):cI (eW v)=some v:=by
 rcases M0 h with⟨n,rfl,h1,h2⟩|⟨s,rfl⟩
 ·show cI (Lib.itoa n)=_;rw[zW (IR h1 h2),aG ⟨rfl,h⟩]
 ·show cI (34::(s.flatMap mC++[34]))=_;rw[a19,VP,a09];simp only;rw[aG ⟨h,rfl⟩]
def Term.words (t:Term):List By:=if t.var then[[58],t.name] else if t.name≠[] then[t.name] else[eW t.v]
theorem EF {w:By} (h:fP w=true) (hk:a2B.contains w=false) (ts:List By):fV cI (w::ts)=some (⟨w,false,v0⟩,ts):=by
 conv=>lhs;unfold fV
 rw[aD (by rintro rfl;exact absurd h (by decide)),aG (by rw[h,hk];rfl)]
theorem M9 {w:By} {v:Val} (h:cI w=some v):∃c t,w=c::t/\(c=34∨c=45∨cL c=true):=by
 cases w with
 |nil=>rw[uM (fun v h=>by cases h),DN (by simp)] at h;cases h
 |cons c t=>
  refine⟨c,t,rfl,?_⟩;by_cases h34:c=34
  ·exact .inl h34
  ·have:=DS h h34;rcases DR (c:=c) (t:=t) (by rw[this];simp) with e|e
   ·exact .inr (.inr e)
   ·exact .inr (.inl e.1)
theorem F8 {w w':By} {v:Val} (h:cI w=some v) (h':w'.head?.any (fun c=>c==34||c==45||cL c)=false):w≠w':=by
 obtain⟨c,t,rfl,hc⟩:=M9 h;rintro rfl;simp only[List.head?_cons,Option.any_some,Bool.or_eq_false_iff] at h';rcases hc with rfl|rfl|hc
 ·exact absurd h'.1.1 (by decide)
 ·exact absurd h'.1.2 (by decide)
 ·rw[hc] at h';exact absurd h'.2 (by decide)
theorem OP {w:By} {v:Val} (h:cI w=some v):fP w=false:=by
 obtain⟨c,t,rfl,hc⟩:=M9 h;cases hn:fP (c::t) with
 |false=>rfl
 |true=>
  have:=(HK c).1 (I1 hn);rcases hc with rfl|rfl|hc
  ·exact absurd this (by decide)
  ·exact absurd this (by decide)
  ·have:=(jZ c).1 hc;omega
theorem CA {t:Term} (h:t.good) (rest:List By):fV cI (t.words++rest)=some (t,rest):=by
 obtain⟨name,var,v⟩:=t;rcases h with⟨h1,h2,h3,h4⟩|⟨h1,h2,h3⟩
 ·simp only at h1 h2 h3 h4;subst h4;cases var with
  |true=>
   show fV cI ([58]::name::rest)=_;rw[Q0,EF h2 h3];simp only;rw[aD (by rintro(h|h);exact h1 h;cases h)];rfl
  |false=>
   have:Term.words ⟨name,false,v0⟩=[name]:=by unfold Term.words;rw[aD (by simp),aG h1]
   rw[this];exact EF h2 h3 rest
 ·simp only at h1 h2 h3;subst h1;subst h2;show fV cI (eW v::rest)=_;have hl:=CJ h3;rw[IY (F8 hl (by decide)),aD (by rw[OP hl];simp),hl]
def Bd (y:By):Prop:=y=[]∨∃z,y=32::z∨y=41::z
theorem Bd.sp (z:By):Bd (32::z):=.inr ⟨z,.inl rfl⟩
theorem Bd.cl (z:By):Bd (41::z):=.inr ⟨z,.inr rfl⟩
theorem a06 {u y:By} (hu:∀c∈u,d6 c=true) (hy:Bd y):(u++y).takeWhile d6=u:=by
 induction u with
 |nil=>rcases hy with rfl|⟨z,rfl|rfl⟩<;>rfl
 |cons c u ih=>
  rw[List.cons_append,eV,aG (hu c (by simp)),ih (fun d hd=>hu d (by simp[hd]))]
theorem s6 {c:UInt8} {u y:By} (h32:c≠32) (hl:l9 (c::(u++y))=u.length+1):iE (c::u++y)=(c::u)::iE y:=by
 show iE (c::(u++y))=_;rw[NY h32];unfold GU;rw[hl,j2,List.drop_succ_cons,List.take_left',List.drop_left']<;>rfl
theorem EE {c:UInt8} {u y:By} (hc:d6 c=true) (hu:∀c∈u,d6 c=true) (hy:Bd y):iE (c::u++y)=(c::u)::iE y:=by
 have hn:=BI hc;refine s6 hn.2.2.2.2.2.2.2.2 ?_;rw[u5,aD (fun e=>by rcases(lS c _).1 e with e|e;exact hn.1 e.1;exact hn.2.1 e.1),aG (by rw[hc];rfl)];unfold oZ;rw[a06 hu hy];omega
theorem sP {w y:By} (h:fP w=true) (hy:Bd y):iE (w++y)=w::iE y:=by
 cases w with
 |nil=>exact absurd h (by decide)
 |cons c u=>
  simp only[fP,aH,aS] at h;exact EE (h.2 c (by simp)) (fun d hd=>h.2 d (by simp[hd])) hy
theorem AY {c:UInt8} (h:c=40∨c=41∨c=58) (y:By):iE (c::y)=[c]::iE y:=by
 have hp:FC (c::y)=false:=by
  cases hp:FC (c::y) with
  |false=>rfl
  |true=>rcases(lS c y).1 hp with e|e<;>(have:=e.1;subst this;rcases h with h|h|h<;>exact absurd h (by decide))
 have hw:l9 (c::([]++y))=([]:By).length+1:=by
  show l9 (c::y)=1;rw[u5,hp];rcases h with rfl|rfl|rfl<;>rfl
 exact s6 (by rcases h with rfl|rfl|rfl<;>decide) hw
theorem UD {w:By} (h:mL w=true) (z:By):iE (w++32::z)=w::iE (32::z):=by
 simp only[mL,SG,List.contains_eq_mem,aK,List.mem_cons,List.not_mem_nil,or_false] at h;rcases h with rfl|rfl|rfl|rfl|rfl|rfl
 ·exact s6 (u:=[]) (by decide) rfl
 ·exact s6 (u:=[62]) (by decide) rfl
 ·exact s6 (u:=[]) (by decide) rfl
 ·exact s6 (u:=[61]) (by decide) rfl
 ·exact s6 (u:=[]) (by decide) rfl
 ·exact s6 (u:=[61]) (by decide) rfl
theorem NX {v:Val} (h:v.ok=true) {y:By} (hy:Bd y):iE (eW v++y)=eW v::iE y:=by
 rcases M0 h with⟨n,rfl,h1,h2⟩|⟨s,rfl⟩
 ·show iE (Lib.itoa n++y)=Lib.itoa n::iE y;unfold Lib.itoa;by_cases hn:n<0
  ·rw[aG hn];obtain⟨d1,d2,d3,_⟩:=rD n.natAbs;refine s6 (by decide) ?_;cases hd:Lib.decDigits n.natAbs with
   |nil=>exact absurd hd d3
   |cons d r=>
    rw[hd] at d1;rw[u5,aD (fun e=>by rcases(lS 45 _).1 e with e|e<;>exact absurd e.1 (by decide)),aG (by simp[d1 d (by simp)])];unfold oZ;rw[a06 (fun c hc=>rZ (d1 c hc)) hy];omega
  ·rw[aD hn];obtain⟨d1,d2,d3,_⟩:=rD n.toNat;cases hd:Lib.decDigits n.toNat with
   |nil=>exact absurd hd d3
   |cons d r=>
    rw[hd] at d1;exact EE (rZ (d1 d (by simp))) (fun c hc=>rZ (d1 c (by simp[hc]))) hy
 ·show iE (34::(s.flatMap mC++[34])++y)=(34::(s.flatMap mC++[34]))::iE y;refine s6 (by decide) ?_;rw[u5,aD (fun e=>by rcases(lS 34 _).1 e with e|e<;>exact absurd e.1 (by decide)),aD (by simp;decide),aG rfl,bF];show min (2+mG (s.flatMap mC++34::y)) _=_;rw[QF];simp only[aE,aJ,b4,List.singleton_append];omega
theorem HJ {t:Term} (h:t.good) {y:By} (hy:Bd y):iE (t.txt++y)=t.words++iE y:=by
 obtain⟨name,var,v⟩:=t;rcases h with⟨h1,h2,h3,h4⟩|⟨h1,h2,h3⟩
 ·simp only at h1 h2 h3 h4;cases var with
  |true=>
   show iE (58::(name++y))=[58]::name::iE y;rw[AY (.inr (.inr rfl)),sP h2 hy]
  |false=>
   have e1:Term.words ⟨name,false,v⟩=[name]:=by unfold Term.words;rw[aD (by simp),aG h1]
   have e2:Term.txt ⟨name,false,v⟩=name:=by unfold Term.txt;rw[aD (by simp),aG h1]
   rw[e1,e2,sP h2 hy];rfl
 ·simp only at h1 h2 h3;subst h1;subst h2;have e2:Term.txt ⟨[],false,v⟩=eW v:=by
   show(if v.ok=true then eW v else[])=_;rw[aG h3]
  rw[e2,NX h3 hy];rfl
def BE (b:Bool) (ws:List By):List By:=if b then[40]::(ws++[[41]]) else ws
def wOp (a:Bool):By:=if a then mZ else AU
def Tree.words:Tree->List By
 |.pair a l r=>BE (decide (l.level<kX a)) l.words++wOp a::BE (decide (r.level<kX a)) r.words
 |.no t=>jX::BE (decide (t.level<4)) t.words
 |.test op l r=>l.words++op::r.words
 |.truth b=>[if b then kV else jN]
theorem y8 {b:Bool} {p:By} {ws:List By} (h:∀y,Bd y->iE (p++y)=ws++iE y) {y:By} (hy:Bd y):iE (paren b p++y)=BE b ws++iE y:=by
 cases b with
 |false=>exact h y hy
 |true=>
  show iE (40::(p++[41])++y)=[40]::(ws++[[41]])++iE y;rw[List.cons_append,bF,AY (.inl rfl)];show[40]::iE (p++41::y)=_;rw[h _ (.cl y),AY (.inr (.inl rfl))];simp
theorem uB:∀(t:Tree),t.good->∀y,Bd y->iE (t.plain++y)=t.words++iE y
 |.pair a l r,h,y,hy=>by
  unfold Tree.plain Tree.words;rw[bF,bF];have e:kW a++(paren (decide (r.level<kX a)) r.plain++y)=32::(wOp a++32::(paren (decide (r.level<kX a)) r.plain++y)):=by
   cases a<;>simp[kW,wOp]
  rw[e,y8 (uB l h.1) (.sp _),uA,sP (by cases a<;>decide) (.sp _),uA,y8 (uB r h.2) hy];simp
 |.no t,h,y,hy=>by
  unfold Tree.plain Tree.words;rw[bF,bF];show iE (jX++32::(paren (decide (t.level<4)) t.plain++y))=_;rw[sP (by decide) (.sp _),uA,y8 (uB t h) hy];rfl
 |.test op l r,h,y,hy=>by
  unfold Tree.plain Tree.words;have e:l.txt++[32]++op++[32]++r.txt++y=l.txt++32::(op++32::(r.txt++y)):=by simp
  rw[e,HJ h.2.1 (.sp _),uA,UD h.1,uA,HJ h.2.2 hy];simp
 |.truth b,h,y,hy=>by
  unfold Tree.plain Tree.words;exact sP (by cases b<;>decide) hy
def R (m:Md) (lv d:Nat) (ts:List By) (x:Tree×List By×Nat):Prop:=∀f,10*ts.length+m.rk<f->bP cI f m lv d ts=some x
theorem R.len {m:Md} {lv d:Nat} {ts r:List By} {t:Tree} {e:Nat} (h:R m lv d ts (t,r,e)) (hm:m.loop=false):r.length<ts.length:=(iU _ _ _ _ _ _ _ _ (h (10*ts.length+m.rk+1) (by omega))).2.1 hm
theorem R.or {lv d:Nat} {ts r:List By} {t:Tree} {e:Nat} {x:Tree×List By×Nat} (h1:R .and lv d ts (t,r,e)) (h2:R (.orL t) lv e r x):R .or lv d ts x:=fun f hf=>by
 have:=h1.len rfl;cases f with
 |zero=>omega
 |succ g=>
  unfold bP;rw[h1 g (by simp only[Md.rk] at*;omega)];exact h2 g (by simp only[Md.rk] at*;omega)
theorem R.and {lv d:Nat} {ts r:List By} {t:Tree} {e:Nat} {x:Tree×List By×Nat} (h1:R .not lv d ts (t,r,e)) (h2:R (.andL t) lv e r x):R .and lv d ts x:=fun f hf=>by
 have:=h1.len rfl;cases f with
 |zero=>omega
 |succ g=>
  unfold bP;rw[h1 g (by simp only[Md.rk] at*;omega)];exact h2 g (by simp only[Md.rk] at*;omega)
theorem R.orL {n m:Tree} {lv d:Nat} {ts r:List By} {e:Nat} {x:Tree×List By×Nat} (h1:R .and lv d ts (m,r,e)) (h2:R (.orL (.pair false n m)) lv e r x):R (.orL n) lv d (AU::ts) x:=fun f hf=>by
 have:=h1.len rfl;simp only[aJ] at hf;cases f with
 |zero=>omega
 |succ g=>
  unfold bP;rw[aG (show(AU::ts).headD []=AU from rfl)];show(match bP cI g .and lv d ts with|some (m,r,e)=>_|none=>_)=_;rw[h1 g (by simp only[Md.rk] at*;omega)];exact h2 g (by simp only[Md.rk] at*;omega)
theorem R.andL {n m:Tree} {lv d:Nat} {ts r:List By} {e:Nat} {x:Tree×List By×Nat} (h1:R .not lv d ts (m,r,e)) (h2:R (.andL (.pair true n m)) lv e r x):R (.andL n) lv d (mZ::ts) x:=fun f hf=>by
 have:=h1.len rfl;simp only[aJ] at hf;cases f with
 |zero=>omega
 |succ g=>
  unfold bP;rw[aG (show(mZ::ts).headD []=mZ from rfl)];show(match bP cI g .not lv d ts with|some (m,r,e)=>_|none=>_)=_;rw[h1 g (by simp only[Md.rk] at*;omega)];exact h2 g (by simp only[Md.rk] at*;omega)
theorem R.orS {n:Tree} {lv d:Nat} {ts:List By} (h:ts.headD []≠AU):R (.orL n) lv d ts (n,ts,d):=fun f hf=>by
 cases f with
 |zero=>omega
 |succ g=>unfold bP;rw[aD h]
theorem R.andS {n:Tree} {lv d:Nat} {ts:List By} (h:ts.headD []≠mZ):R (.andL n) lv d ts (n,ts,d):=fun f hf=>by
 cases f with
 |zero=>omega
 |succ g=>unfold bP;rw[aD h]
theorem R.not1 {n:Tree} {lv d:Nat} {ts r:List By} {e:Nat} (h:R .prim (lv+1) (max d (lv+1)) ts (n,r,e)):R .not lv d (jX::ts) (.no n,r,e):=fun f hf=>by
 simp only[aJ] at hf;cases f with
 |zero=>omega
 |succ g=>
  unfold bP;rw[aG (show(jX::ts).headD []=jX from rfl)];show(match bP cI g .prim (lv+1) (max d (lv+1)) ts with|some (n,r,e)=>_|none=>_)=_;rw[h g (by simp only[Md.rk] at*;omega)]
theorem R.not0 {lv d:Nat} {ts:List By} {x:Tree×List By×Nat} (hn:ts.headD []≠jX) (h:R .prim lv d ts x):R .not lv d ts x:=fun f hf=>by
 cases f with
 |zero=>omega
 |succ g=>
  unfold bP;rw[aD hn];exact h g (by simp only[Md.rk] at*;omega)
theorem R.paren {n:Tree} {lv d:Nat} {ts r:List By} {e:Nat} (h:R .or (lv+1) (max d (lv+1)) ts (n,[41]::r,e)):R .prim lv d ([40]::ts) (n,r,e):=fun f hf=>by
 simp only[aJ] at hf;cases f with
 |zero=>omega
 |succ g=>
  unfold bP;rw[aD (show¬([40]::ts).headD []=kV by show¬([40]:By)=kV;decide),aD (show¬([40]::ts).headD []=jN by show¬([40]:By)=jN;decide),aG (show([40]::ts).headD []=[40] from rfl)];show(match bP cI g .or (lv+1) (max d (lv+1)) ts with|some (n,r,e)=>_|none=>_)=_;rw[h g (by simp only[Md.rk] at*;omega)];show(if([41]:By)=[41] then some (n,r,e) else none)=_;rw[aG rfl]
theorem R.truth {b:Bool} {lv d:Nat} {r:List By}:R .prim lv d ((if b then kV else jN)::r) (.truth b,r,d):=fun f hf=>by
 cases f with
 |zero=>omega
 |succ g=>
  unfold bP;cases b with
  |true=>rw[aG (show List.headD ((if true=true then kV else jN)::r) []=kV from rfl)];rfl
  |false=>
   rw[aD (show¬List.headD ((if false=true then kV else jN)::r) []=kV by show¬jN=kV;decide),aG (show List.headD ((if false=true then kV else jN)::r) []=jN from rfl)];rfl
theorem E7 {t:Term} (h:t.good) (r:List By):(t.words++r).headD []≠kV/\(t.words++r).headD []≠jN/\(t.words++r).headD []≠[40]/\(t.words++r).headD []≠jX:=by
 obtain⟨name,var,v⟩:=t;rcases h with⟨h1,h2,h3,h4⟩|⟨h1,h2,h3⟩
 ·simp only at h1 h2 h3 h4;cases var with
  |true=>
   show([58]:By)≠_/\([58]:By)≠_/\([58]:By)≠_/\([58]:By)≠_;exact⟨by decide,by decide,by decide,by decide⟩
  |false=>
   have e1:Term.words ⟨name,false,v⟩=[name]:=by unfold Term.words;rw[aD (by simp),aG h1]
   rw[e1];show name≠_/\name≠_/\name≠_/\name≠_;refine⟨?_,?_,?_,?_⟩<;>rintro rfl
   ·exact absurd h3 (by decide)
   ·exact absurd h3 (by decide)
   ·exact absurd h2 (by decide)
   ·exact absurd h3 (by decide)
 ·simp only at h1 h2 h3;subst h1;subst h2;show eW v≠_/\eW v≠_/\eW v≠_/\eW v≠_;have hl:=CJ h3;exact⟨F8 hl (by decide),F8 hl (by decide),F8 hl (by decide),F8 hl (by decide)⟩
theorem R.test {op:By} {a b:Term} {lv d:Nat} {r:List By} (ho:mL op=true) (ha:a.good) (hb:b.good):R .prim lv d (a.words++op::(b.words++r)) (.test op a b,r,d):=fun f hf=>by
 obtain⟨h1,h2,h3,_⟩:=E7 ha (op::(b.words++r));cases f with
 |zero=>omega
 |succ g=>
  unfold bP;rw[aD h1,aD h2,aD h3,CA ha];show(if mL op=true then(match fV cI (b.words++r) with|some (b,r')=>some (Tree.test op a b,r',d)|none=>none) else none)=_;rw[aG ho,CA hb]
theorem oS (t:Tree) (k:Nat):t.deep k=(if t.level<k then 1 else 0)+t.deep 0:=by
 cases t with
 |pair a l r=>
  show(if kX a<k then 1 else 0)+max (l.deep (kX a)) (r.deep (kX a))=(if kX a<k then 1 else 0)+((if kX a<0 then 1 else 0)+max (l.deep (kX a)) (r.deep (kX a)));rw[aD (show¬kX a<0 by omega)];omega
 |no t=>
  show(if 3<k then 1 else 0)+1+t.deep 4=(if 3<k then 1 else 0)+((if 3<0 then 1 else 0)+1+t.deep 4);rw[aD (show¬3<0 by omega)];omega
 |test _ _ _=>
  show(if 4<k then 1 else 0)=(if 4<k then 1 else 0)+(if 4<0 then 1 else 0);rw[aD (show¬4<0 by omega)];omega
 |truth _=>
  show(if 4<k then 1 else 0)=(if 4<k then 1 else 0)+(if 4<0 then 1 else 0);rw[aD (show¬4<0 by omega)];omega
theorem pV (t:Tree):1<=t.level:=by
 cases t with
 |pair a l r=>cases a<;>exact bL rfl
 |_=>exact bL rfl
def RD (t:Tree):Prop:=∀lv d rest,lv<=d->R .prim lv d (BE (decide (t.level<4)) t.words++rest) (t,rest,max d (lv+t.deep 4))
def RC (t:Tree):Prop:=∀lv d rest,lv<=d->R .not lv d (BE (decide (t.level<3)) t.words++rest) (t,rest,max d (lv+t.deep 3))
def RB (t:Tree):Prop:=∀lv d rest x,lv<=d->R (.andL t) lv (max d (lv+t.deep 2)) rest x->R .and lv d (BE (decide (t.level<2)) t.words++rest) x
def RA (t:Tree):Prop:=∀lv d rest x,lv<=d->rest.headD []≠mZ->R (.orL t) lv (max d (lv+t.deep 1)) rest x->R .or lv d (t.words++rest) x
theorem RB.of {t:Tree} (h:RC t) (hl:t.level≠2):RB t:=fun lv d rest x hd hx=>by
 have h':=h lv d rest hd;have e1:decide (t.level<3)=decide (t.level<2):=by
  rw[decide_eq_decide];omega
 have e2:t.deep 3=t.deep 2:=by
  rw[oS t 3,oS t 2];by_cases h2:t.level<2
  ·rw[aG h2,aG (by omega)]
  ·rw[aD h2,aD (by omega)]
 rw[e1,e2] at h';exact R.and h' hx
theorem RA.of {t:Tree} (h:RB t) (hl:t.level≠1):RA t:=fun lv d rest x hd hr hx=>by
 have hp:=pV t;have h':=h lv d rest (t,rest,max d (lv+t.deep 2)) hd (R.andS hr);have e1:decide (t.level<2)=false:=by rw[bG];omega
 have e2:t.deep 2=t.deep 1:=by
  rw[oS t 2,oS t 1,aD (by omega),aD (by omega)]
 rw[e1,e2] at h';exact R.or h' hx
theorem RA.paren {t:Tree} (h:RA t) (lv d:Nat) (rest:List By) (hd:lv<=d):R .prim lv d ([40]::(t.words++[[41]])++rest) (t,rest,max d (lv+(1+t.deep 0))):=by
 have h1:=h (lv+1) (max d (lv+1)) ([41]::rest) (t,[41]::rest,max (max d (lv+1)) (lv+1+t.deep 1)) (by omega) (by show¬([41]:By)=mZ;decide) (R.orS (by show¬([41]:By)=AU;decide));have hp:=pV t;have e:t.deep 1=t.deep 0:=by rw[oS t 1,aD (by omega)];omega
 rw[e,show max (max d (lv+1)) (lv+1+t.deep 0)=max d (lv+(1+t.deep 0)) by omega] at h1;have h2:=R.paren h1;simpa using h2
theorem RD.of {t:Tree} (h:RA t) (hl:t.level<4):RD t:=fun lv d rest hd=>by
 have:=h.paren lv d rest hd;rw[oS t 4,aG hl,show decide (t.level<4)=true from bM hl];exact this
theorem RC.of {t:Tree} (h:RA t) (hl:t.level<3):RC t:=fun lv d rest hd=>by
 have:=h.paren lv d rest hd;rw[oS t 3,aG hl,show decide (t.level<3)=true from bM hl];exact R.not0 (by show¬([40]:By)=jX;decide) this
theorem RB.paren {t:Tree} (h:RA t) (hl:t.level<2):RB t:=RB.of (RC.of h (by omega)) (by omega)
theorem B9:∀(t:Tree),t.good->nJ t->RD t/\RC t/\RB t/\RA t
 |.truth b,_,_=>by
  have hD:∀lv d rest,lv<=d->R .prim lv d ([if b then kV else jN]++rest) (.truth b,rest,max d (lv+0)):=fun lv d rest hd=>by
   rw[show max d (lv+0)=d by omega];exact R.truth
  have hC:RC (.truth b):=fun lv d rest hd=>R.not0 (by
   show(if b then kV else jN)≠jX;cases b<;>decide) (hD lv d rest hd)
  have hB:=RB.of hC (show¬4=2 by decide);exact⟨hD,hC,hB,RA.of hB (show¬4=1 by decide)⟩
 |.test op a b,hg,_=>by
  have hD:∀lv d rest,lv<=d->R .prim lv d ((a.words++op::b.words)++rest) (.test op a b,rest,max d (lv+0)):=fun lv d rest hd=>by
   rw[show max d (lv+0)=d by omega,bF];exact R.test hg.1 hg.2.1 hg.2.2
  have hC:RC (.test op a b):=fun lv d rest hd=>R.not0 (by
   show((a.words++op::b.words)++rest).headD []≠_;rw[bF];exact(E7 hg.2.1 _).2.2.2) (hD lv d rest hd)
  have hB:=RB.of hC (show¬4=2 by decide);exact⟨hD,hC,hB,RA.of hB (show¬4=1 by decide)⟩
 |.no t,hg,hf=>by
  obtain⟨iD,_⟩:=B9 t hg hf;have hC:RC (.no t):=fun lv d rest hd=>by
   have h1:=iD (lv+1) (max d (lv+1)) rest (by omega);show R .not lv d (jX::(BE (decide (t.level<4)) t.words++rest)) (.no t,rest,max d (lv+((if 3<3 then 1 else 0)+1+t.deep 4)));rw[aD (by decide),show max d (lv+(0+1+t.deep 4))=max (max d (lv+1)) (lv+1+t.deep 4) by omega];exact R.not1 h1
  have hB:=RB.of hC (show¬3=2 by decide);have hA:=RA.of hB (show¬3=1 by decide);exact⟨RD.of hA (show 3<4 by decide),hC,hB,hA⟩
 |.pair true l r,hg,hf=>by
  obtain⟨_,_,lB,_⟩:=B9 l hg.1 hf.1;obtain⟨_,rC,_,_⟩:=B9 r hg.2 hf.2.1;have hr2:r.level≠2:=by
   have:=hf.2.2;cases r with
   |pair c _ _=>cases c with
    |true=>cases this
    |false=>exact fun h=>absurd h (show¬1=2 by decide)
   |_=>exact fun h=>by cases h
  have hB:RB (.pair true l r):=fun lv d rest x hd hx=>by
   have e1:decide (r.level<3)=decide (r.level<2):=by
    rw[decide_eq_decide];omega
   have e2:r.deep 3=r.deep 2:=by
    rw[oS r 3,oS r 2];by_cases h2:r.level<2
    ·rw[aG h2,aG (by omega)]
    ·rw[aD h2,aD (by omega)]
   have hr:=rC lv (max d (lv+l.deep 2)) rest (by omega);rw[e1,e2] at hr;have hl:=lB lv d (mZ::(BE (decide (r.level<2)) r.words++rest)) x hd (R.andL hr (by
    have e3:(Tree.pair true l r).deep 2=max (l.deep 2) (r.deep 2):=by
     show(if kX true<2 then 1 else 0)+max (l.deep 2) (r.deep 2)=_;rw[aD (show¬kX true<2 by decide)];omega
    rw[e3] at hx;rw[show max (max d (lv+l.deep 2)) (lv+r.deep 2)=max d (lv+max (l.deep 2) (r.deep 2)) by omega];exact hx))
   show R .and lv d ((BE (decide (l.level<2)) l.words++mZ::BE (decide (r.level<2)) r.words)++rest) x;rw[bF];exact hl
  have hA:=RA.of hB (show¬2=1 by decide);exact⟨RD.of hA (show 2<4 by decide),RC.of hA (show 2<3 by decide),hB,hA⟩
 |.pair false l r,hg,hf=>by
  obtain⟨_,_,_,lA⟩:=B9 l hg.1 hf.1;obtain⟨_,_,rB,_⟩:=B9 r hg.2 hf.2.1;have hr2:¬r.level<2:=by
   have:=hf.2.2;cases r with
   |pair c _ _=>cases c with
    |false=>cases this
    |true=>exact fun h=>absurd h (show¬2<2 by decide)
   |no _=>exact(show¬3<2 by decide)
   |_=>exact(show¬4<2 by decide)
  have hA:RA (.pair false l r):=fun lv d rest x hd hh hx=>by
   have hl1:=pV l;have hr1:=pV r;have e0:decide (r.level<2)=false:=cE hr2;have e2:r.deep 2=r.deep 1:=by
    rw[oS r 2,oS r 1,aD hr2,aD (by omega)]
   have hr:=rB lv (max d (lv+l.deep 1)) rest (r,rest,max (max d (lv+l.deep 1)) (lv+r.deep 2)) (by omega) (R.andS hh);rw[e0,e2] at hr;have hl:=lA lv d (AU::(r.words++rest)) x hd (by show¬AU=mZ;decide) (R.orL hr (by
    have e3:(Tree.pair false l r).deep 1=max (l.deep 1) (r.deep 1):=by
     show(if kX false<1 then 1 else 0)+max (l.deep 1) (r.deep 1)=_;rw[aD (show¬kX false<1 by decide)];omega
    rw[e3] at hx;rw[show max (max d (lv+l.deep 1)) (lv+r.deep 1)=max d (lv+max (l.deep 1) (r.deep 1)) by omega];exact hx))
   show R .or lv d ((BE (decide (l.level<1)) l.words++AU::BE (decide (r.level<1)) r.words)++rest) x;rw[bF,show decide (l.level<1)=false from cE (by omega),show decide (r.level<1)=false from cE (by omega)];exact hl
  exact⟨RD.of hA (show 1<4 by decide),RC.of hA (show 1<3 by decide),RB.paren hA (show 1<2 by decide),hA⟩
theorem OA {u:Tree} (hg:u.good) (hf:nJ u) (hl:u.plain.length<=1000):m5 u.plain=if 20<u.deep 0 then .err 4 else .ok u:=by
 have ht:iE u.plain=u.words:=by
  have:=uB u hg [] (.inl rfl);rw[gC,kE (l:=[]) rfl,gC] at this;exact this
 have hA:=(B9 u hg hf).2.2.2 0 0 [] (u,[],max 0 (0+u.deep 1)) (rL _) (by decide) (R.orS (by decide));rw[gC] at hA;have hlen:=sQ u.plain.length u.plain (rL _);rw[ht] at hlen;have hp:=hA (jH u.plain) (by unfold jH;simp only[Md.rk];omega);have hv:=pV u;unfold m5;rw[aD (by omega),ht,hp];simp only[List.headD_nil,beq_self_eq_true,fK];have e1:max 0 (0+u.deep 1)=u.deep 0:=by rw[oS u 1,aD (by omega)];omega
 rw[e1,R5 hf]
theorem OB {s:By} {t:Tree} (h:m5 s=.ok t):t.good/\nJ t:=by
 unfold m5 at h;split at h
 ·cases h
 ·split at h
  ·rename_i t0 r e hp;split at h
   ·split at h
    ·cases h
    ·cases h;exact⟨IF (jM _ _ _ _ _ _ _ _ hp trivial),KH t0⟩
   ·cases h
  ·cases h
theorem EU {s:By} {t:Tree} (h:l7 s=.ok t):t.good:=by
 unfold l7 at h;rw[show iA=cI from funext DT] at h;split at h
 ·cases h
 ·split at h
  ·cases h
  ·split at h
   ·rename_i t0 r e hp;split at h
    ·split at h
     ·cases h
     ·cases h;exact jM _ _ _ _ _ _ _ _ hp trivial
    ·cases h
   ·cases h
def HI (t:Tree):By×Int:=if 1000<t.flat.plain.length then([],4) else match l7 t.flat.plain with
 |.ok _=>(t.flat.plain,0)
 |.err _=>([],4)
theorem UC {t:Tree} (h:t.good):HI t=O7 t:=by
 unfold HI O7;by_cases h1:1000<t.flat.plain.length
 ·rw[aG h1,aG (.inl h1)]
 ·rw[aD h1];have hr:=zI t.flat.plain;rw[OA (IF h) (KH t) (by omega)] at hr;by_cases h2:20<t.flat.deep 0
  ·rw[aG (.inr h2)];rw[aG h2] at hr;cases hx:l7 t.flat.plain with
   |ok u=>rw[hx] at hr;cases hr
   |err e=>rfl
  ·rw[aD (fun h=>h.elim h1 h2)];rw[aD h2] at hr;cases hx:l7 t.flat.plain with
   |ok u=>rfl
   |err e=>rw[hx] at hr;cases hr
def L9 (s:By):By×Int:=match l7 s with
 |.ok t=>HI t
 |.err e=>([],e)
theorem UM (s:By):L9 s=zB s:=by
 unfold L9 zB;have hr:=zI s;cases hx:l7 s with
 |err e=>rw[hx] at hr;rw[hr]
 |ok t=>
  rw[hx] at hr;rw[hr];simp only;rw[UC (EU hx)];unfold O7;rw[TD]
