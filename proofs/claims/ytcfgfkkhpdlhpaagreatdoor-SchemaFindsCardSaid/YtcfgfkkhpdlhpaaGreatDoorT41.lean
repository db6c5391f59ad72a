/-
  A part of the proof of SchemaFinds.
-/
import Derived.Test.YtcfgfkkhpdlhpaaGreatDoorT40
set_option linter.all false
set_option maxRecDepth 100000
namespace Go.Proofs.YtcfgfkkhpdlhpaaGreatDoor
open Go.RowKit
def FT (a:Bool):Tree->Bool
 |.pair b _ _=>a==b
 |_=>false
def nW:Tree->Prop
 |.pair a l r=>nW l/\nW r/\FT a r=false
 |.no t=>nW t
 |_=>True
theorem zF (b:Bool):∀(t x:Tree),∃l r,dY b (some x) t=.pair b l r
 |.pair c l r,x=>by
  unfold dY;split
  ·exact zF b r _
  ·exact⟨_,_,rfl⟩
 |.no t,x=>⟨_,_,rfl⟩
 |.test _ _ _,x=>⟨_,_,rfl⟩
 |.truth _,x=>⟨_,_,rfl⟩
def a12:Option Tree->Prop
 |none=>True
 |some t=>nW t
theorem AA {a:Bool} {acc:Option Tree} {t:Tree} (h:a12 acc) (ht:nW t) (hp:FT a t=false):nW (rD a acc t):=by
 cases acc with
 |none=>exact ht
 |some x=>exact⟨h,ht,hp⟩
theorem u9:∀(t:Tree) (a:Bool) (acc:Option Tree),a12 acc->nW (dY a acc t)
 |.pair b l r,a,acc,h=>by
  unfold dY;split
  ·exact u9 r a _ (u9 l a _ h)
  ·rename_i hab;refine AA h (u9 r b _ (u9 l b none trivial)) ?_;obtain⟨x,y,e⟩:=zF b r (dY b none l);rw[e];simpa[FT] using hab
 |.no t,a,acc,h=>by
  unfold dY;exact AA h (u9 t true none trivial) rfl
 |.test _ _ _,a,acc,h=>by unfold dY;exact AA h trivial rfl
 |.truth _,a,acc,h=>by unfold dY;exact AA h trivial rfl
theorem L5 (t:Tree):nW t.flat:=u9 t true none trivial
theorem UD (b:Bool) (x r:Tree) (h:FT b r=false):dY b (some x) r=.pair b x (dY b none r):=by
 cases r with
 |pair c l r=>
  have hb:¬b=c:=by simpa[FT] using h
  conv=>lhs;unfold dY
  conv=>rhs;unfold dY
  rw[aE hb,aE hb];rfl
 |_=>rfl
theorem vG:∀(t:Tree),nW t->∀a,dY a none t=t
 |.pair b l r,h,a=>by
  rw[GL a b];conv=>lhs;unfold dY
  rw[aG rfl,vG l h.1 b,UD b l r h.2.2,vG r h.2.1 b]
 |.no t,h,a=>by
  unfold dY;rw[vG t h true];rfl
 |.test _ _ _,h,a=>rfl
 |.truth _,h,a=>rfl
theorem SD {t:Tree} (h:nW t):t.flat=t:=vG t h true
theorem UC (t:Tree):t.flat.flat=t.flat:=SD (L5 t)
def Term.good (t:Term):Prop:=(t.name≠[]/\fV t.name=true/\a2q.contains t.name=false/\t.v=v0)∨(t.name=[]/\t.var=false/\t.v.ok=true)
def Tree.good:Tree->Prop
 |.pair _ l r=>l.good/\r.good
 |.no t=>t.good
 |.test op l r=>mU op=true/\l.good/\r.good
 |.truth _=>True
theorem yO:∀{ts r:List By} {t:Term},gB cL ts=some (t,r)->t.good
 |[],r,t,h=>by cases h
 |w::ts,r,t,h=>by
  unfold gB at h;split at h
  ·split at h
   ·rename_i t' r' h1;have ih:=yO h1;split at h
    ·cases h
    ·rename_i hc;cases h;rcases ih with ih|ih
     ·exact .inl ih
     ·exact absurd (.inl ih.1) hc
   ·cases h
  ·split at h
   ·rename_i hn;cases h;simp only[aH,dK] at hn;exact .inl ⟨(by rintro rfl;exact absurd hn.1 (by decide)),hn.1,hn.2,rfl⟩
   ·split at h
    ·rename_i v hv;cases h;exact .inr ⟨rfl,rfl,FN hv⟩
    ·cases h
def Md.good:Md->Prop
 |.orL n=>n.good
 |.andL n=>n.good
 |_=>True
theorem jS:∀(f:Nat) (m:Md) (lv d:Nat) (ts r:List By) (t:Tree) (e:Nat),bP cL f m lv d ts=some (t,r,e)->m.good->t.good
 |0,m,lv,d,ts,r,t,e,h,_=>by cases h
 |f+1,.or,lv,d,ts,r,t,e,h,_=>by
  unfold bP at h;split at h
  ·rename_i n r1 e1 h1;exact jS f _ _ _ _ _ _ _ h (jS f _ _ _ _ _ _ _ h1 trivial)
  ·cases h
 |f+1,.orL n,lv,d,ts,r,t,e,h,hn=>by
  unfold bP at h;split at h
  ·split at h
   ·rename_i n r1 e1 h1;exact jS f _ _ _ _ _ _ _ h ⟨hn,jS f _ _ _ _ _ _ _ h1 trivial⟩
   ·cases h
  ·cases h;exact hn
 |f+1,.and,lv,d,ts,r,t,e,h,_=>by
  unfold bP at h;split at h
  ·rename_i n r1 e1 h1;exact jS f _ _ _ _ _ _ _ h (jS f _ _ _ _ _ _ _ h1 trivial)
  ·cases h
 |f+1,.andL n,lv,d,ts,r,t,e,h,hn=>by
  unfold bP at h;split at h
  ·split at h
   ·rename_i n r1 e1 h1;exact jS f _ _ _ _ _ _ _ h ⟨hn,jS f _ _ _ _ _ _ _ h1 trivial⟩
   ·cases h
  ·cases h;exact hn
 |f+1,.not,lv,d,ts,r,t,e,h,_=>by
  unfold bP at h;split at h
  ·split at h
   ·rename_i n r1 e1 h1;cases h;show n.good;exact jS f .prim _ _ _ _ _ _ h1 trivial
   ·cases h
  ·exact jS f .prim _ _ _ _ _ _ h trivial
 |f+1,.prim,lv,d,ts,r,t,e,h,_=>by
  unfold bP at h;split at h
  ·cases h;trivial
  ·split at h
   ·cases h;trivial
   ·split at h
    ·split at h
     ·rename_i n r1 e1 h1;split at h
      ·cases h;exact jS f .or _ _ _ _ _ _ h1 trivial
      ·cases h
     ·cases h
    ·split at h
     ·rename_i a r1 h1;split at h
      ·rename_i hrel;split at h
       ·rename_i b r2 h2;cases h;exact⟨hrel,yO h1,yO h2⟩
       ·cases h
      ·cases h
     ·cases h
def ST:Option Tree->Prop
 |none=>True
 |some t=>t.good
theorem uX (a:Bool) {acc:Option Tree} {t:Tree} (h:ST acc) (h':t.good):(rD a acc t).good:=by
 cases acc with
 |none=>exact h'
 |some x=>exact⟨h,h'⟩
theorem nZ (a:Bool):∀(t:Tree) (acc:Option Tree),ST acc->t.good->(dY a acc t).good
 |.pair b l r,acc,h,ht=>by
  unfold dY;split
  ·exact nZ a r _ (nZ a l _ h ht.1) ht.2
  ·exact uX a h (nZ b r _ (nZ b l _ trivial ht.1) ht.2)
 |.no t,acc,h,ht=>by unfold dY;exact uX a h (nZ true t _ trivial ht)
 |.test _ _ _,acc,h,ht=>by unfold dY;exact uX a h ht
 |.truth _,acc,h,ht=>by unfold dY;exact uX a h ht
theorem IW {t:Tree} (h:t.good):t.flat.good:=nZ true t none trivial h
theorem a1r (l:List UInt8):cL (34::l)=jQ (34::l):=uT (fun v h=>by
 unfold Lib.atoiAll at h;simp only[show¬((34:UInt8).toNat=43∨(34:UInt8).toNat=45) by decide,fR] at h;unfold Lib.parseMag Lib.parseUint10 at h;rw[aE (by simp),aE (by decide)] at h;cases h)
theorem MO {v:Val} (h:v.ok=true):(∃n,v=⟨1,n,[]⟩/\ -1000000000<=n/\n<=1000000000)∨∃s,v=⟨2,0,s⟩:=by
 obtain⟨k,n,s⟩:=v;simp only[Val.ok,eY,aH,aL] at h;rcases h with⟨⟨⟨rfl,rfl⟩,h1⟩,h2⟩|⟨⟨rfl,rfl⟩,h1⟩
 ·exact .inl ⟨n,rfl,h1,h2⟩
 ·exact .inr ⟨s,rfl⟩
theorem CQ {v:Val} (h:v.ok=true):cL (eV v)=some v:=by
 rcases MO h with⟨n,rfl,h1,h2⟩|⟨s,rfl⟩
 ·show cL (Lib.itoa n)=_;rw[A7 (J5 h1 h2),aG ⟨rfl,h⟩]
 ·show cL (34::(s.flatMap mM++[34]))=_;rw[a1r,WR,a0g];simp only;rw[aG ⟨h,rfl⟩]
def Term.words (t:Term):List By:=if t.var then[[58],t.name] else if t.name≠[] then[t.name] else[eV t.v]
theorem EN {w:By} (h:fV w=true) (hk:a2q.contains w=false) (ts:List By):gB cL (w::ts)=some (⟨w,false,v0⟩,ts):=by
 conv=>lhs;unfold gB
 rw[aE (by rintro rfl;exact absurd h (by decide)),aG (by rw[h,hk];rfl)]
theorem MY {w:By} {v:Val} (h:cL w=some v):∃c t,w=c::t/\(c=34∨c=45∨cR c=true):=by
 cases w with
 |nil=>rw[uT (fun v h=>by cases h),DS (by simp)] at h;cases h
 |cons c t=>
  refine⟨c,t,rfl,?_⟩;by_cases h34:c=34
  ·exact .inl h34
  ·have:=DY h h34;rcases DW (c:=c) (t:=t) (by rw[this];simp) with e|e
   ·exact .inr (.inr e)
   ·exact .inr (.inl e.1)
theorem FM {w w':By} {v:Val} (h:cL w=some v) (h':w'.head?.any (fun c=>c==34||c==45||cR c)=false):w≠w':=by
 obtain⟨c,t,rfl,hc⟩:=MY h;rintro rfl;simp only[List.head?_cons,Option.any_some,Bool.or_eq_false_iff] at h';rcases hc with rfl|rfl|hc
 ·exact absurd h'.1.1 (by decide)
 ·exact absurd h'.1.2 (by decide)
 ·rw[hc] at h';exact absurd h'.2 (by decide)
theorem PB {w:By} {v:Val} (h:cL w=some v):fV w=false:=by
 obtain⟨c,t,rfl,hc⟩:=MY h;cases hn:fV (c::t) with
 |false=>rfl
 |true=>
  have:=(I0 c).1 (IJ hn);rcases hc with rfl|rfl|hc
  ·exact absurd this (by decide)
  ·exact absurd this (by decide)
  ·have:=(kD c).1 hc;omega
theorem CH {t:Term} (h:t.good) (rest:List By):gB cL (t.words++rest)=some (t,rest):=by
 obtain⟨name,var,v⟩:=t;rcases h with⟨h1,h2,h3,h4⟩|⟨h1,h2,h3⟩
 ·simp only at h1 h2 h3 h4;subst h4;cases var with
  |true=>
   show gB cL ([58]::name::rest)=_;rw[QM,EN h2 h3];simp only;rw[aE (by rintro(h|h);exact h1 h;cases h)];rfl
  |false=>
   have:Term.words ⟨name,false,v0⟩=[name]:=by unfold Term.words;rw[aE (by simp),aG h1]
   rw[this];exact EN h2 h3 rest
 ·simp only at h1 h2 h3;subst h1;subst h2;show gB cL (eV v::rest)=_;have hl:=CQ h3;rw[JB (FM hl (by decide)),aE (by rw[PB hl];simp),hl]
def Bd (y:By):Prop:=y=[]∨∃z,y=32::z∨y=41::z
theorem Bd.sp (z:By):Bd (32::z):=.inr ⟨z,.inl rfl⟩
theorem Bd.cl (z:By):Bd (41::z):=.inr ⟨z,.inr rfl⟩
theorem a0d {u y:By} (hu:∀c∈u,d9 c=true) (hy:Bd y):(u++y).takeWhile d9=u:=by
 induction u with
 |nil=>rcases hy with rfl|⟨z,rfl|rfl⟩<;>rfl
 |cons c u ih=>
  rw[List.cons_append,eU,aG (hu c (by simp)),ih (fun d hd=>hu d (by simp[hd]))]
theorem sC {c:UInt8} {u y:By} (h32:c≠32) (hl:lQ (c::(u++y))=u.length+1):iO (c::u++y)=(c::u)::iO y:=by
 show iO (c::(u++y))=_;rw[OM h32];unfold H6;rw[hl,jI,List.drop_succ_cons,List.take_left',List.drop_left']<;>rfl
theorem EM {c:UInt8} {u y:By} (hc:d9 c=true) (hu:∀c∈u,d9 c=true) (hy:Bd y):iO (c::u++y)=(c::u)::iO y:=by
 have hn:=BN hc;refine sC hn.2.2.2.2.2.2.2.2 ?_;rw[uF,aE (fun e=>by rcases(m9 c _).1 e with e|e;exact hn.1 e.1;exact hn.2.1 e.1),aG (by rw[hc];rfl)];unfold pO;rw[a0d hu hy];omega
theorem sY {w y:By} (h:fV w=true) (hy:Bd y):iO (w++y)=w::iO y:=by
 cases w with
 |nil=>exact absurd h (by decide)
 |cons c u=>
  simp only[fV,aH,aS] at h;exact EM (h.2 c (by simp)) (fun d hd=>h.2 d (by simp[hd])) hy
theorem B3 {c:UInt8} (h:c=40∨c=41∨c=58) (y:By):iO (c::y)=[c]::iO y:=by
 have hp:FS (c::y)=false:=by
  cases hp:FS (c::y) with
  |false=>rfl
  |true=>rcases(m9 c y).1 hp with e|e<;>(have:=e.1;subst this;rcases h with h|h|h<;>exact absurd h (by decide))
 have hw:lQ (c::([]++y))=([]:By).length+1:=by
  show lQ (c::y)=1;rw[uF,hp];rcases h with rfl|rfl|rfl<;>rfl
 exact sC (by rcases h with rfl|rfl|rfl<;>decide) hw
theorem VB {w:By} (h:mU w=true) (z:By):iO (w++32::z)=w::iO (32::z):=by
 simp only[mU,TC,List.contains_eq_mem,aL,List.mem_cons,List.not_mem_nil,or_false] at h;rcases h with rfl|rfl|rfl|rfl|rfl|rfl
 ·exact sC (u:=[]) (by decide) rfl
 ·exact sC (u:=[62]) (by decide) rfl
 ·exact sC (u:=[]) (by decide) rfl
 ·exact sC (u:=[61]) (by decide) rfl
 ·exact sC (u:=[]) (by decide) rfl
 ·exact sC (u:=[61]) (by decide) rfl
theorem OL {v:Val} (h:v.ok=true) {y:By} (hy:Bd y):iO (eV v++y)=eV v::iO y:=by
 rcases MO h with⟨n,rfl,h1,h2⟩|⟨s,rfl⟩
 ·show iO (Lib.itoa n++y)=Lib.itoa n::iO y;unfold Lib.itoa;by_cases hn:n<0
  ·rw[aG hn];obtain⟨d1,d2,d3,_⟩:=rJ n.natAbs;refine sC (by decide) ?_;cases hd:Lib.decDigits n.natAbs with
   |nil=>exact absurd hd d3
   |cons d r=>
    rw[hd] at d1;rw[uF,aE (fun e=>by rcases(m9 45 _).1 e with e|e<;>exact absurd e.1 (by decide)),aG (by simp[d1 d (by simp)])];unfold pO;rw[a0d (fun c hc=>s9 (d1 c hc)) hy];omega
  ·rw[aE hn];obtain⟨d1,d2,d3,_⟩:=rJ n.toNat;cases hd:Lib.decDigits n.toNat with
   |nil=>exact absurd hd d3
   |cons d r=>
    rw[hd] at d1;exact EM (s9 (d1 d (by simp))) (fun c hc=>s9 (d1 c (by simp[hc]))) hy
 ·show iO (34::(s.flatMap mM++[34])++y)=(34::(s.flatMap mM++[34]))::iO y;refine sC (by decide) ?_;rw[uF,aE (fun e=>by rcases(m9 34 _).1 e with e|e<;>exact absurd e.1 (by decide)),aE (by simp;decide),aG rfl,bD];show min (2+mQ (s.flatMap mM++34::y)) _=_;rw[R7];simp only[aD,aJ,b5,List.singleton_append];omega
theorem HZ {t:Term} (h:t.good) {y:By} (hy:Bd y):iO (t.txt++y)=t.words++iO y:=by
 obtain⟨name,var,v⟩:=t;rcases h with⟨h1,h2,h3,h4⟩|⟨h1,h2,h3⟩
 ·simp only at h1 h2 h3 h4;cases var with
  |true=>
   show iO (58::(name++y))=[58]::name::iO y;rw[B3 (.inr (.inr rfl)),sY h2 hy]
  |false=>
   have e1:Term.words ⟨name,false,v⟩=[name]:=by unfold Term.words;rw[aE (by simp),aG h1]
   have e2:Term.txt ⟨name,false,v⟩=name:=by unfold Term.txt;rw[aE (by simp),aG h1]
   rw[e1,e2,sY h2 hy];rfl
 ·simp only at h1 h2 h3;subst h1;subst h2;have e2:Term.txt ⟨[],false,v⟩=eV v:=by
   show(if v.ok=true then eV v else[])=_;rw[aG h3]
  rw[e2,OL h3 hy];rfl
def BI (b:Bool) (ws:List By):List By:=if b then[40]::(ws++[[41]]) else ws
def wOp (a:Bool):By:=if a then nC else AY
def Tree.words:Tree->List By
 |.pair a l r=>BI (decide (l.level<lD a)) l.words++wOp a::BI (decide (r.level<lD a)) r.words
 |.no t=>kC::BI (decide (t.level<4)) t.words
 |.test op l r=>l.words++op::r.words
 |.truth b=>[if b then l8 else jU]
theorem yL {b:Bool} {p:By} {ws:List By} (h:∀y,Bd y->iO (p++y)=ws++iO y) {y:By} (hy:Bd y):iO (paren b p++y)=BI b ws++iO y:=by
 cases b with
 |false=>exact h y hy
 |true=>
  show iO (40::(p++[41])++y)=[40]::(ws++[[41]])++iO y;rw[List.cons_append,bD,B3 (.inl rfl)];show[40]::iO (p++41::y)=_;rw[h _ (.cl y),B3 (.inr (.inl rfl))];simp
theorem uK:∀(t:Tree),t.good->∀y,Bd y->iO (t.plain++y)=t.words++iO y
 |.pair a l r,h,y,hy=>by
  unfold Tree.plain Tree.words;rw[bD,bD];have e:l9 a++(paren (decide (r.level<lD a)) r.plain++y)=32::(wOp a++32::(paren (decide (r.level<lD a)) r.plain++y)):=by
   cases a<;>simp[l9,wOp]
  rw[e,yL (uK l h.1) (.sp _),uJ,sY (by cases a<;>decide) (.sp _),uJ,yL (uK r h.2) hy];simp
 |.no t,h,y,hy=>by
  unfold Tree.plain Tree.words;rw[bD,bD];show iO (kC++32::(paren (decide (t.level<4)) t.plain++y))=_;rw[sY (by decide) (.sp _),uJ,yL (uK t h) hy];rfl
 |.test op l r,h,y,hy=>by
  unfold Tree.plain Tree.words;have e:l.txt++[32]++op++[32]++r.txt++y=l.txt++32::(op++32::(r.txt++y)):=by simp
  rw[e,HZ h.2.1 (.sp _),uJ,VB h.1,uJ,HZ h.2.2 hy];simp
 |.truth b,h,y,hy=>by
  unfold Tree.plain Tree.words;exact sY (by cases b<;>decide) hy
def R (m:Md) (lv d:Nat) (ts:List By) (x:Tree×List By×Nat):Prop:=∀f,10*ts.length+m.rk<f->bP cL f m lv d ts=some x
theorem R.len {m:Md} {lv d:Nat} {ts r:List By} {t:Tree} {e:Nat} (h:R m lv d ts (t,r,e)) (hm:m.loop=false):r.length<ts.length:=(j3 _ _ _ _ _ _ _ _ (h (10*ts.length+m.rk+1) (by omega))).2.1 hm
theorem R.or {lv d:Nat} {ts r:List By} {t:Tree} {e:Nat} {x:Tree×List By×Nat} (h1:R .and lv d ts (t,r,e)) (h2:R (.orL t) lv e r x):R .or lv d ts x:=fun f hf=>by
 have:=h1.len rfl;cases f with
 |zero=>omega
 |succ g=>
  unfold bP;rw[h1 g (by simp only[Md.rk] at*;omega)];exact h2 g (by simp only[Md.rk] at*;omega)
theorem R.and {lv d:Nat} {ts r:List By} {t:Tree} {e:Nat} {x:Tree×List By×Nat} (h1:R .not lv d ts (t,r,e)) (h2:R (.andL t) lv e r x):R .and lv d ts x:=fun f hf=>by
 have:=h1.len rfl;cases f with
 |zero=>omega
 |succ g=>
  unfold bP;rw[h1 g (by simp only[Md.rk] at*;omega)];exact h2 g (by simp only[Md.rk] at*;omega)
theorem R.orL {n m:Tree} {lv d:Nat} {ts r:List By} {e:Nat} {x:Tree×List By×Nat} (h1:R .and lv d ts (m,r,e)) (h2:R (.orL (.pair false n m)) lv e r x):R (.orL n) lv d (AY::ts) x:=fun f hf=>by
 have:=h1.len rfl;simp only[aJ] at hf;cases f with
 |zero=>omega
 |succ g=>
  unfold bP;rw[aG (show(AY::ts).headD []=AY from rfl)];show(match bP cL g .and lv d ts with|some (m,r,e)=>_|none=>_)=_;rw[h1 g (by simp only[Md.rk] at*;omega)];exact h2 g (by simp only[Md.rk] at*;omega)
theorem R.andL {n m:Tree} {lv d:Nat} {ts r:List By} {e:Nat} {x:Tree×List By×Nat} (h1:R .not lv d ts (m,r,e)) (h2:R (.andL (.pair true n m)) lv e r x):R (.andL n) lv d (nC::ts) x:=fun f hf=>by
 have:=h1.len rfl;simp only[aJ] at hf;cases f with
 |zero=>omega
 |succ g=>
  unfold bP;rw[aG (show(nC::ts).headD []=nC from rfl)];show(match bP cL g .not lv d ts with|some (m,r,e)=>_|none=>_)=_;rw[h1 g (by simp only[Md.rk] at*;omega)];exact h2 g (by simp only[Md.rk] at*;omega)
theorem R.orS {n:Tree} {lv d:Nat} {ts:List By} (h:ts.headD []≠AY):R (.orL n) lv d ts (n,ts,d):=fun f hf=>by
 cases f with
 |zero=>omega
 |succ g=>unfold bP;rw[aE h]
theorem R.andS {n:Tree} {lv d:Nat} {ts:List By} (h:ts.headD []≠nC):R (.andL n) lv d ts (n,ts,d):=fun f hf=>by
 cases f with
 |zero=>omega
 |succ g=>unfold bP;rw[aE h]
theorem R.not1 {n:Tree} {lv d:Nat} {ts r:List By} {e:Nat} (h:R .prim (lv+1) (max d (lv+1)) ts (n,r,e)):R .not lv d (kC::ts) (.no n,r,e):=fun f hf=>by
 simp only[aJ] at hf;cases f with
 |zero=>omega
 |succ g=>
  unfold bP;rw[aG (show(kC::ts).headD []=kC from rfl)];show(match bP cL g .prim (lv+1) (max d (lv+1)) ts with|some (n,r,e)=>_|none=>_)=_;rw[h g (by simp only[Md.rk] at*;omega)]
theorem R.not0 {lv d:Nat} {ts:List By} {x:Tree×List By×Nat} (hn:ts.headD []≠kC) (h:R .prim lv d ts x):R .not lv d ts x:=fun f hf=>by
 cases f with
 |zero=>omega
 |succ g=>
  unfold bP;rw[aE hn];exact h g (by simp only[Md.rk] at*;omega)
theorem R.paren {n:Tree} {lv d:Nat} {ts r:List By} {e:Nat} (h:R .or (lv+1) (max d (lv+1)) ts (n,[41]::r,e)):R .prim lv d ([40]::ts) (n,r,e):=fun f hf=>by
 simp only[aJ] at hf;cases f with
 |zero=>omega
 |succ g=>
  unfold bP;rw[aE (show¬([40]::ts).headD []=l8 by show¬([40]:By)=l8;decide),aE (show¬([40]::ts).headD []=jU by show¬([40]:By)=jU;decide),aG (show([40]::ts).headD []=[40] from rfl)];show(match bP cL g .or (lv+1) (max d (lv+1)) ts with|some (n,r,e)=>_|none=>_)=_;rw[h g (by simp only[Md.rk] at*;omega)];show(if([41]:By)=[41] then some (n,r,e) else none)=_;rw[aG rfl]
theorem R.truth {b:Bool} {lv d:Nat} {r:List By}:R .prim lv d ((if b then l8 else jU)::r) (.truth b,r,d):=fun f hf=>by
 cases f with
 |zero=>omega
 |succ g=>
  unfold bP;cases b with
  |true=>rw[aG (show List.headD ((if true=true then l8 else jU)::r) []=l8 from rfl)];rfl
  |false=>
   rw[aE (show¬List.headD ((if false=true then l8 else jU)::r) []=l8 by show¬jU=l8;decide),aG (show List.headD ((if false=true then l8 else jU)::r) []=jU from rfl)];rfl
theorem EC {t:Term} (h:t.good) (r:List By):(t.words++r).headD []≠l8/\(t.words++r).headD []≠jU/\(t.words++r).headD []≠[40]/\(t.words++r).headD []≠kC:=by
 obtain⟨name,var,v⟩:=t;rcases h with⟨h1,h2,h3,h4⟩|⟨h1,h2,h3⟩
 ·simp only at h1 h2 h3 h4;cases var with
  |true=>
   show([58]:By)≠_/\([58]:By)≠_/\([58]:By)≠_/\([58]:By)≠_;exact⟨by decide,by decide,by decide,by decide⟩
  |false=>
   have e1:Term.words ⟨name,false,v⟩=[name]:=by unfold Term.words;rw[aE (by simp),aG h1]
   rw[e1];show name≠_/\name≠_/\name≠_/\name≠_;refine⟨?_,?_,?_,?_⟩<;>rintro rfl
   ·exact absurd h3 (by decide)
   ·exact absurd h3 (by decide)
   ·exact absurd h2 (by decide)
   ·exact absurd h3 (by decide)
 ·simp only at h1 h2 h3;subst h1;subst h2;show eV v≠_/\eV v≠_/\eV v≠_/\eV v≠_;have hl:=CQ h3;exact⟨FM hl (by decide),FM hl (by decide),FM hl (by decide),FM hl (by decide)⟩
theorem R.test {op:By} {a b:Term} {lv d:Nat} {r:List By} (ho:mU op=true) (ha:a.good) (hb:b.good):R .prim lv d (a.words++op::(b.words++r)) (.test op a b,r,d):=fun f hf=>by
 obtain⟨h1,h2,h3,_⟩:=EC ha (op::(b.words++r));cases f with
 |zero=>omega
 |succ g=>
  unfold bP;rw[aE h1,aE h2,aE h3,CH ha];show(if mU op=true then(match gB cL (b.words++r) with|some (b,r')=>some (Tree.test op a b,r',d)|none=>none) else none)=_;rw[aG ho,CH hb]
theorem p9 (t:Tree) (k:Nat):t.deep k=(if t.level<k then 1 else 0)+t.deep 0:=by
 cases t with
 |pair a l r=>
  show(if lD a<k then 1 else 0)+max (l.deep (lD a)) (r.deep (lD a))=(if lD a<k then 1 else 0)+((if lD a<0 then 1 else 0)+max (l.deep (lD a)) (r.deep (lD a)));rw[aE (show¬lD a<0 by omega)];omega
 |no t=>
  show(if 3<k then 1 else 0)+1+t.deep 4=(if 3<k then 1 else 0)+((if 3<0 then 1 else 0)+1+t.deep 4);rw[aE (show¬3<0 by omega)];omega
 |test _ _ _=>
  show(if 4<k then 1 else 0)=(if 4<k then 1 else 0)+(if 4<0 then 1 else 0);rw[aE (show¬4<0 by omega)];omega
 |truth _=>
  show(if 4<k then 1 else 0)=(if 4<k then 1 else 0)+(if 4<0 then 1 else 0);rw[aE (show¬4<0 by omega)];omega
theorem qJ (t:Tree):1<=t.level:=by
 cases t with
 |pair a l r=>cases a<;>exact bL rfl
 |_=>exact bL rfl
def RD (t:Tree):Prop:=∀lv d rest,lv<=d->R .prim lv d (BI (decide (t.level<4)) t.words++rest) (t,rest,max d (lv+t.deep 4))
def RC (t:Tree):Prop:=∀lv d rest,lv<=d->R .not lv d (BI (decide (t.level<3)) t.words++rest) (t,rest,max d (lv+t.deep 3))
def RB (t:Tree):Prop:=∀lv d rest x,lv<=d->R (.andL t) lv (max d (lv+t.deep 2)) rest x->R .and lv d (BI (decide (t.level<2)) t.words++rest) x
def RA (t:Tree):Prop:=∀lv d rest x,lv<=d->rest.headD []≠nC->R (.orL t) lv (max d (lv+t.deep 1)) rest x->R .or lv d (t.words++rest) x
theorem RB.of {t:Tree} (h:RC t) (hl:t.level≠2):RB t:=fun lv d rest x hd hx=>by
 have h':=h lv d rest hd;have e1:decide (t.level<3)=decide (t.level<2):=by
  rw[decide_eq_decide];omega
 have e2:t.deep 3=t.deep 2:=by
  rw[p9 t 3,p9 t 2];by_cases h2:t.level<2
  ·rw[aG h2,aG (by omega)]
  ·rw[aE h2,aE (by omega)]
 rw[e1,e2] at h';exact R.and h' hx
theorem RA.of {t:Tree} (h:RB t) (hl:t.level≠1):RA t:=fun lv d rest x hd hr hx=>by
 have hp:=qJ t;have h':=h lv d rest (t,rest,max d (lv+t.deep 2)) hd (R.andS hr);have e1:decide (t.level<2)=false:=by rw[bM];omega
 have e2:t.deep 2=t.deep 1:=by
  rw[p9 t 2,p9 t 1,aE (by omega),aE (by omega)]
 rw[e1,e2] at h';exact R.or h' hx
theorem RA.paren {t:Tree} (h:RA t) (lv d:Nat) (rest:List By) (hd:lv<=d):R .prim lv d ([40]::(t.words++[[41]])++rest) (t,rest,max d (lv+(1+t.deep 0))):=by
 have h1:=h (lv+1) (max d (lv+1)) ([41]::rest) (t,[41]::rest,max (max d (lv+1)) (lv+1+t.deep 1)) (by omega) (by show¬([41]:By)=nC;decide) (R.orS (by show¬([41]:By)=AY;decide));have hp:=qJ t;have e:t.deep 1=t.deep 0:=by rw[p9 t 1,aE (by omega)];omega
 rw[e,show max (max d (lv+1)) (lv+1+t.deep 0)=max d (lv+(1+t.deep 0)) by omega] at h1;have h2:=R.paren h1;simpa using h2
theorem RD.of {t:Tree} (h:RA t) (hl:t.level<4):RD t:=fun lv d rest hd=>by
 have:=h.paren lv d rest hd;rw[p9 t 4,aG hl,show decide (t.level<4)=true from bS hl];exact this
theorem RC.of {t:Tree} (h:RA t) (hl:t.level<3):RC t:=fun lv d rest hd=>by
 have:=h.paren lv d rest hd;rw[p9 t 3,aG hl,show decide (t.level<3)=true from bS hl];exact R.not0 (by show¬([40]:By)=kC;decide) this
theorem RB.paren {t:Tree} (h:RA t) (hl:t.level<2):RB t:=RB.of (RC.of h (by omega)) (by omega)
theorem BC:∀(t:Tree),t.good->nW t->RD t/\RC t/\RB t/\RA t
 |.truth b,_,_=>by
  have hD:∀lv d rest,lv<=d->R .prim lv d ([if b then l8 else jU]++rest) (.truth b,rest,max d (lv+0)):=fun lv d rest hd=>by
   rw[show max d (lv+0)=d by omega];exact R.truth
  have hC:RC (.truth b):=fun lv d rest hd=>R.not0 (by
   show(if b then l8 else jU)≠kC;cases b<;>decide) (hD lv d rest hd)
  have hB:=RB.of hC (show¬4=2 by decide);exact⟨hD,hC,hB,RA.of hB (show¬4=1 by decide)⟩
 |.test op a b,hg,_=>by
  have hD:∀lv d rest,lv<=d->R .prim lv d ((a.words++op::b.words)++rest) (.test op a b,rest,max d (lv+0)):=fun lv d rest hd=>by
   rw[show max d (lv+0)=d by omega,bD];exact R.test hg.1 hg.2.1 hg.2.2
  have hC:RC (.test op a b):=fun lv d rest hd=>R.not0 (by
   show((a.words++op::b.words)++rest).headD []≠_;rw[bD];exact(EC hg.2.1 _).2.2.2) (hD lv d rest hd)
  have hB:=RB.of hC (show¬4=2 by decide);exact⟨hD,hC,hB,RA.of hB (show¬4=1 by decide)⟩
 |.no t,hg,hf=>by
  obtain⟨iD,_⟩:=BC t hg hf;have hC:RC (.no t):=fun lv d rest hd=>by
   have h1:=iD (lv+1) (max d (lv+1)) rest (by omega);show R .not lv d (kC::(BI (decide (t.level<4)) t.words++rest)) (.no t,rest,max d (lv+((if 3<3 then 1 else 0)+1+t.deep 4)));rw[aE (by decide),show max d (lv+(0+1+t.deep 4))=max (max d (lv+1)) (lv+1+t.deep 4) by omega];exact R.not1 h1
  have hB:=RB.of hC (show¬3=2 by decide);have hA:=RA.of hB (show¬3=1 by decide);exact⟨RD.of hA (show 3<4 by decide),hC,hB,hA⟩
 |.pair true l r,hg,hf=>by
  obtain⟨_,_,lB,_⟩:=BC l hg.1 hf.1;obtain⟨_,rC,_,_⟩:=BC r hg.2 hf.2.1;have hr2:r.level≠2:=by
   have:=hf.2.2;cases r with
   |pair c _ _=>cases c with
    |true=>cases this
    |false=>exact fun h=>absurd h (show¬1=2 by decide)
   |_=>exact fun h=>by cases h
  have hB:RB (.pair true l r):=fun lv d rest x hd hx=>by
   have e1:decide (r.level<3)=decide (r.level<2):=by
    rw[decide_eq_decide];omega
   have e2:r.deep 3=r.deep 2:=by
    rw[p9 r 3,p9 r 2];by_cases h2:r.level<2
    ·rw[aG h2,aG (by omega)]
    ·rw[aE h2,aE (by omega)]
   have hr:=rC lv (max d (lv+l.deep 2)) rest (by omega);rw[e1,e2] at hr;have hl:=lB lv d (nC::(BI (decide (r.level<2)) r.words++rest)) x hd (R.andL hr (by
    have e3:(Tree.pair true l r).deep 2=max (l.deep 2) (r.deep 2):=by
     show(if lD true<2 then 1 else 0)+max (l.deep 2) (r.deep 2)=_;rw[aE (show¬lD true<2 by decide)];omega
    rw[e3] at hx;rw[show max (max d (lv+l.deep 2)) (lv+r.deep 2)=max d (lv+max (l.deep 2) (r.deep 2)) by omega];exact hx))
   show R .and lv d ((BI (decide (l.level<2)) l.words++nC::BI (decide (r.level<2)) r.words)++rest) x;rw[bD];exact hl
  have hA:=RA.of hB (show¬2=1 by decide);exact⟨RD.of hA (show 2<4 by decide),RC.of hA (show 2<3 by decide),hB,hA⟩
 |.pair false l r,hg,hf=>by
  obtain⟨_,_,_,lA⟩:=BC l hg.1 hf.1;obtain⟨_,_,rB,_⟩:=BC r hg.2 hf.2.1;have hr2:¬r.level<2:=by
   have:=hf.2.2;cases r with
   |pair c _ _=>cases c with
    |false=>cases this
    |true=>exact fun h=>absurd h (show¬2<2 by decide)
   |no _=>exact(show¬3<2 by decide)
   |_=>exact(show¬4<2 by decide)
  have hA:RA (.pair false l r):=fun lv d rest x hd hh hx=>by
   have hl1:=qJ l;have hr1:=qJ r;have e0:decide (r.level<2)=false:=cW hr2;have e2:r.deep 2=r.deep 1:=by
    rw[p9 r 2,p9 r 1,aE hr2,aE (by omega)]
   have hr:=rB lv (max d (lv+l.deep 1)) rest (r,rest,max (max d (lv+l.deep 1)) (lv+r.deep 2)) (by omega) (R.andS hh);rw[e0,e2] at hr;have hl:=lA lv d (AY::(r.words++rest)) x hd (by show¬AY=nC;decide) (R.orL hr (by
    have e3:(Tree.pair false l r).deep 1=max (l.deep 1) (r.deep 1):=by
     show(if lD false<1 then 1 else 0)+max (l.deep 1) (r.deep 1)=_;rw[aE (show¬lD false<1 by decide)];omega
    rw[e3] at hx;rw[show max (max d (lv+l.deep 1)) (lv+r.deep 1)=max d (lv+max (l.deep 1) (r.deep 1)) by omega];exact hx))
   show R .or lv d ((BI (decide (l.level<1)) l.words++AY::BI (decide (r.level<1)) r.words)++rest) x;rw[bD,show decide (l.level<1)=false from cW (by omega),show decide (r.level<1)=false from cW (by omega)];exact hl
  exact⟨RD.of hA (show 1<4 by decide),RC.of hA (show 1<3 by decide),RB.paren hA (show 1<2 by decide),hA⟩
theorem OZ {u:Tree} (hg:u.good) (hf:nW u) (hl:u.plain.length<=1000):mF u.plain=if 20<u.deep 0 then .err 4 else .ok u:=by
 have ht:iO u.plain=u.words:=by
  have:=uK u hg [] (.inl rfl);rw[iV,kM (l:=[]) rfl,iV] at this;exact this
 have hA:=(BC u hg hf).2.2.2 0 0 [] (u,[],max 0 (0+u.deep 1)) (rL _) (by decide) (R.orS (by decide));rw[iV] at hA;have hlen:=sZ u.plain.length u.plain (rL _);rw[ht] at hlen;have hp:=hA (jY u.plain) (by unfold jY;simp only[Md.rk];omega);have hv:=qJ u;unfold mF;rw[aE (by omega),ht,hp];simp only[List.headD_nil,beq_self_eq_true,fP];have e1:max 0 (0+u.deep 1)=u.deep 0:=by rw[p9 u 1,aE (by omega)];omega
 rw[e1,SD hf]
theorem P0 {s:By} {t:Tree} (h:mF s=.ok t):t.good/\nW t:=by
 unfold mF at h;split at h
 ·cases h
 ·split at h
  ·rename_i t0 r e hp;split at h
   ·split at h
    ·cases h
    ·cases h;exact⟨IW (jS _ _ _ _ _ _ _ _ hp trivial),L5 t0⟩
   ·cases h
  ·cases h
theorem F3 {s:By} {t:Tree} (h:lM s=.ok t):t.good:=by
 unfold lM at h;rw[show iJ=cL from funext DZ] at h;split at h
 ·cases h
 ·split at h
  ·cases h
  ·split at h
   ·rename_i t0 r e hp;split at h
    ·split at h
     ·cases h
     ·cases h;exact jS _ _ _ _ _ _ _ _ hp trivial
    ·cases h
   ·cases h
def HY (t:Tree):By×Int:=if 1000<t.flat.plain.length then([],4) else match lM t.flat.plain with
 |.ok _=>(t.flat.plain,0)
 |.err _=>([],4)
theorem VA {t:Tree} (h:t.good):HY t=OW t:=by
 unfold HY OW;by_cases h1:1000<t.flat.plain.length
 ·rw[aG h1,aG (.inl h1)]
 ·rw[aE h1];have hr:=zW t.flat.plain;rw[OZ (IW h) (L5 t) (by omega)] at hr;by_cases h2:20<t.flat.deep 0
  ·rw[aG (.inr h2)];rw[aG h2] at hr;cases hx:lM t.flat.plain with
   |ok u=>rw[hx] at hr;cases hr
   |err e=>rfl
  ·rw[aE (fun h=>h.elim h1 h2)];rw[aE h2] at hr;cases hx:lM t.flat.plain with
   |ok u=>rfl
   |err e=>rw[hx] at hr;cases hr
def LV (s:By):By×Int:=match lM s with
 |.ok t=>HY t
 |.err e=>([],e)
theorem VL (s:By):LV s=zQ s:=by
 unfold LV zQ;have hr:=zW s;cases hx:lM s with
 |err e=>rw[hx] at hr;rw[hr]
 |ok t=>
  rw[hx] at hr;rw[hr];simp only;rw[VA (F3 hx)];unfold OW;rw[UC]
