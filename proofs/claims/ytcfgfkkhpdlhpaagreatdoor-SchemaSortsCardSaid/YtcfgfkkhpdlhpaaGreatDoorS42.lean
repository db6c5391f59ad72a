/-
  A part of the proof of SchemaSorts.
-/
import Derived.Test.YtcfgfkkhpdlhpaaGreatDoorS41
set_option linter.all false
set_option maxRecDepth 100000
namespace Go.Proofs.YtcfgfkkhpdlhpaaGreatDoor
open Go.RowKit
def G5 (a:Bool):Tree->Bool
 |.pair b _ _=>a==b
 |_=>false
def nU:Tree->Prop
 |.pair a l r=>nU l/\nU r/\G5 a r=false
 |.no t=>nU t
 |_=>True
theorem zJ (b:Bool):∀(t x:Tree),∃l r,dW b (some x) t=.pair b l r
 |.pair c l r,x=>by
  unfold dW;split
  ·exact zJ b r _
  ·exact⟨_,_,rfl⟩
 |.no t,x=>⟨_,_,rfl⟩
 |.test _ _ _,x=>⟨_,_,rfl⟩
 |.truth _,x=>⟨_,_,rfl⟩
def a1F:Option Tree->Prop
 |none=>True
 |some t=>nU t
theorem AK {a:Bool} {acc:Option Tree} {t:Tree} (h:a1F acc) (ht:nU t) (hp:G5 a t=false):nU (rM a acc t):=by
 cases acc with
 |none=>exact ht
 |some x=>exact⟨h,ht,hp⟩
theorem uE:∀(t:Tree) (a:Bool) (acc:Option Tree),a1F acc->nU (dW a acc t)
 |.pair b l r,a,acc,h=>by
  unfold dW;split
  ·exact uE r a _ (uE l a _ h)
  ·rename_i hab;refine AK h (uE r b _ (uE l b none trivial)) ?_;obtain⟨x,y,e⟩:=zJ b r (dW b none l);rw[e];simpa[G5] using hab
 |.no t,a,acc,h=>by
  unfold dW;exact AK h (uE t true none trivial) rfl
 |.test _ _ _,a,acc,h=>by unfold dW;exact AK h trivial rfl
 |.truth _,a,acc,h=>by unfold dW;exact AK h trivial rfl
theorem LE (t:Tree):nU t.flat:=uE t true none trivial
theorem UT (b:Bool) (x r:Tree) (h:G5 b r=false):dW b (some x) r=.pair b x (dW b none r):=by
 cases r with
 |pair c l r=>
  have hb:¬b=c:=by simpa[G5] using h
  conv=>lhs;unfold dW
  conv=>rhs;unfold dW
  rw[aD hb,aD hb];rfl
 |_=>rfl
theorem vN:∀(t:Tree),nU t->∀a,dW a none t=t
 |.pair b l r,h,a=>by
  rw[H0 a b];conv=>lhs;unfold dW
  rw[aF rfl,vN l h.1 b,UT b l r h.2.2,vN r h.2.1 b]
 |.no t,h,a=>by
  unfold dW;rw[vN t h true];rfl
 |.test _ _ _,h,a=>rfl
 |.truth _,h,a=>rfl
theorem SQ {t:Tree} (h:nU t):t.flat=t:=vN t h true
theorem US (t:Tree):t.flat.flat=t.flat:=SQ (LE t)
def Term.good (t:Term):Prop:=(t.name≠[]/\fP t.name=true/\a2y.contains t.name=false/\t.v=v0)∨(t.name=[]/\t.var=false/\t.v.ok=true)
def Tree.good:Tree->Prop
 |.pair _ l r=>l.good/\r.good
 |.no t=>t.good
 |.test op l r=>mU op=true/\l.good/\r.good
 |.truth _=>True
theorem yT:∀{ts r:List By} {t:Term},fV cK ts=some (t,r)->t.good
 |[],r,t,h=>by cases h
 |w::ts,r,t,h=>by
  unfold fV at h;split at h
  ·split at h
   ·rename_i t' r' h1;have ih:=yT h1;split at h
    ·cases h
    ·rename_i hc;cases h;rcases ih with ih|ih
     ·exact .inl ih
     ·exact absurd (.inl ih.1) hc
   ·cases h
  ·split at h
   ·rename_i hn;cases h;simp only[aH,dR] at hn;exact .inl ⟨(by rintro rfl;exact absurd hn.1 (by decide)),hn.1,hn.2,rfl⟩
   ·split at h
    ·rename_i v hv;cases h;exact .inr ⟨rfl,rfl,G2 hv⟩
    ·cases h
def Md.good:Md->Prop
 |.orL n=>n.good
 |.andL n=>n.good
 |_=>True
theorem jR:∀(f:Nat) (m:Md) (lv d:Nat) (ts r:List By) (t:Tree) (e:Nat),bR cK f m lv d ts=some (t,r,e)->m.good->t.good
 |0,m,lv,d,ts,r,t,e,h,_=>by cases h
 |f+1,.or,lv,d,ts,r,t,e,h,_=>by
  unfold bR at h;split at h
  ·rename_i n r1 e1 h1;exact jR f _ _ _ _ _ _ _ h (jR f _ _ _ _ _ _ _ h1 trivial)
  ·cases h
 |f+1,.orL n,lv,d,ts,r,t,e,h,hn=>by
  unfold bR at h;split at h
  ·split at h
   ·rename_i n r1 e1 h1;exact jR f _ _ _ _ _ _ _ h ⟨hn,jR f _ _ _ _ _ _ _ h1 trivial⟩
   ·cases h
  ·cases h;exact hn
 |f+1,.and,lv,d,ts,r,t,e,h,_=>by
  unfold bR at h;split at h
  ·rename_i n r1 e1 h1;exact jR f _ _ _ _ _ _ _ h (jR f _ _ _ _ _ _ _ h1 trivial)
  ·cases h
 |f+1,.andL n,lv,d,ts,r,t,e,h,hn=>by
  unfold bR at h;split at h
  ·split at h
   ·rename_i n r1 e1 h1;exact jR f _ _ _ _ _ _ _ h ⟨hn,jR f _ _ _ _ _ _ _ h1 trivial⟩
   ·cases h
  ·cases h;exact hn
 |f+1,.not,lv,d,ts,r,t,e,h,_=>by
  unfold bR at h;split at h
  ·split at h
   ·rename_i n r1 e1 h1;cases h;show n.good;exact jR f .prim _ _ _ _ _ _ h1 trivial
   ·cases h
  ·exact jR f .prim _ _ _ _ _ _ h trivial
 |f+1,.prim,lv,d,ts,r,t,e,h,_=>by
  unfold bR at h;split at h
  ·cases h;trivial
  ·split at h
   ·cases h;trivial
   ·split at h
    ·split at h
     ·rename_i n r1 e1 h1;split at h
      ·cases h;exact jR f .or _ _ _ _ _ _ h1 trivial
      ·cases h
     ·cases h
    ·split at h
     ·rename_i a r1 h1;split at h
      ·rename_i hrel;split at h
       ·rename_i b r2 h2;cases h;exact⟨hrel,yT h1,yT h2⟩
       ·cases h
      ·cases h
     ·cases h
def T9:Option Tree->Prop
 |none=>True
 |some t=>t.good
theorem vE (a:Bool) {acc:Option Tree} {t:Tree} (h:T9 acc) (h':t.good):(rM a acc t).good:=by
 cases acc with
 |none=>exact h'
 |some x=>exact⟨h,h'⟩
theorem nX (a:Bool):∀(t:Tree) (acc:Option Tree),T9 acc->t.good->(dW a acc t).good
 |.pair b l r,acc,h,ht=>by
  unfold dW;split
  ·exact nX a r _ (nX a l _ h ht.1) ht.2
  ·exact vE a h (nX b r _ (nX b l _ trivial ht.1) ht.2)
 |.no t,acc,h,ht=>by unfold dW;exact vE a h (nX true t _ trivial ht)
 |.test _ _ _,acc,h,ht=>by unfold dW;exact vE a h ht
 |.truth _,acc,h,ht=>by unfold dW;exact vE a h ht
theorem J5 {t:Tree} (h:t.good):t.flat.good:=nX true t none trivial h
theorem a1w (l:List UInt8):cK (34::l)=jP (34::l):=vA (fun v h=>by
 unfold Lib.atoiAll at h;simp only[show¬((34:UInt8).toNat=43∨(34:UInt8).toNat=45) by decide,fM] at h;unfold Lib.parseMag Lib.parseUint10 at h;rw[aD (by simp),aD (by decide)] at h;cases h)
theorem N2 {v:Val} (h:v.ok=true):(∃n,v=⟨1,n,[]⟩/\ -1000000000<=n/\n<=1000000000)∨∃s,v=⟨2,0,s⟩:=by
 obtain⟨k,n,s⟩:=v;simp only[Val.ok,eR,aH,aK] at h;rcases h with⟨⟨⟨rfl,rfl⟩,h1⟩,h2⟩|⟨⟨rfl,rfl⟩,h1⟩
 ·exact .inl ⟨n,rfl,h1,h2⟩
 ·exact .inr ⟨s,rfl⟩
theorem D3 {v:Val} (h:v.ok=true):cK (eX v)=some v:=by
 rcases N2 h with⟨n,rfl,h1,h2⟩|⟨s,rfl⟩
 ·show cK (Lib.itoa n)=_;rw[AH (JH h1 h2),aF ⟨rfl,h⟩]
 ·show cK (34::(s.flatMap mL++[34]))=_;rw[a1w,X6,a0w];simp only;rw[aF ⟨h,rfl⟩]
def Term.words (t:Term):List By:=if t.var then[[58],t.name] else if t.name≠[] then[t.name] else[eX t.v]
theorem EW {w:By} (h:fP w=true) (hk:a2y.contains w=false) (ts:List By):fV cK (w::ts)=some (⟨w,false,v0⟩,ts):=by
 conv=>lhs;unfold fV
 rw[aD (by rintro rfl;exact absurd h (by decide)),aF (by rw[h,hk];rfl)]
theorem NC {w:By} {v:Val} (h:cK w=some v):∃c t,w=c::t/\(c=34∨c=45∨cO c=true):=by
 cases w with
 |nil=>rw[vA (fun v h=>by cases h),E4 (by simp)] at h;cases h
 |cons c t=>
  refine⟨c,t,rfl,?_⟩;by_cases h34:c=34
  ·exact .inl h34
  ·have:=E9 h h34;rcases E8 (c:=c) (t:=t) (by rw[this];simp) with e|e
   ·exact .inr (.inr e)
   ·exact .inr (.inl e.1)
theorem G1 {w w':By} {v:Val} (h:cK w=some v) (h':w'.head?.any (fun c=>c==34||c==45||cO c)=false):w≠w':=by
 obtain⟨c,t,rfl,hc⟩:=NC h;rintro rfl;simp only[List.head?_cons,Option.any_some,Bool.or_eq_false_iff] at h';rcases hc with rfl|rfl|hc
 ·exact absurd h'.1.1 (by decide)
 ·exact absurd h'.1.2 (by decide)
 ·rw[hc] at h';exact absurd h'.2 (by decide)
theorem PU {w:By} {v:Val} (h:cK w=some v):fP w=false:=by
 obtain⟨c,t,rfl,hc⟩:=NC h;cases hn:fP (c::t) with
 |false=>rfl
 |true=>
  have:=(I7 c).1 (IR hn);rcases hc with rfl|rfl|hc
  ·exact absurd this (by decide)
  ·exact absurd this (by decide)
  ·have:=(kC c).1 hc;omega
theorem CS {t:Term} (h:t.good) (rest:List By):fV cK (t.words++rest)=some (t,rest):=by
 obtain⟨name,var,v⟩:=t;rcases h with⟨h1,h2,h3,h4⟩|⟨h1,h2,h3⟩
 ·simp only at h1 h2 h3 h4;subst h4;cases var with
  |true=>
   show fV cK ([58]::name::rest)=_;rw[R5,EW h2 h3];simp only;rw[aD (by rintro(h|h);exact h1 h;cases h)];rfl
  |false=>
   have:Term.words ⟨name,false,v0⟩=[name]:=by unfold Term.words;rw[aD (by simp),aF h1]
   rw[this];exact EW h2 h3 rest
 ·simp only at h1 h2 h3;subst h1;subst h2;show fV cK (eX v::rest)=_;have hl:=D3 h3;rw[JP (G1 hl (by decide)),aD (by rw[PU hl];simp),hl]
def Bd (y:By):Prop:=y=[]∨∃z,y=32::z∨y=41::z
theorem Bd.sp (z:By):Bd (32::z):=.inr ⟨z,.inl rfl⟩
theorem Bd.cl (z:By):Bd (41::z):=.inr ⟨z,.inr rfl⟩
theorem a0u {u y:By} (hu:∀c∈u,d8 c=true) (hy:Bd y):(u++y).takeWhile d8=u:=by
 induction u with
 |nil=>rcases hy with rfl|⟨z,rfl|rfl⟩<;>rfl
 |cons c u ih=>
  rw[List.cons_append,eW,aF (hu c (by simp)),ih (fun d hd=>hu d (by simp[hd]))]
theorem sL {c:UInt8} {u y:By} (h32:c≠32) (hl:lL (c::(u++y))=u.length+1):iG (c::u++y)=(c::u)::iG y:=by
 show iG (c::(u++y))=_;rw[P2 h32];unfold HH;rw[hl,j8,List.drop_succ_cons,List.take_left',List.drop_left']<;>rfl
theorem EV {c:UInt8} {u y:By} (hc:d8 c=true) (hu:∀c∈u,d8 c=true) (hy:Bd y):iG (c::u++y)=(c::u)::iG y:=by
 have hn:=BZ hc;refine sL hn.2.2.2.2.2.2.2.2 ?_;rw[uN,aD (fun e=>by rcases(m4 c _).1 e with e|e;exact hn.1 e.1;exact hn.2.1 e.1),aF (by rw[hc];rfl)];unfold pQ;rw[a0u hu hy];omega
theorem tJ {w y:By} (h:fP w=true) (hy:Bd y):iG (w++y)=w::iG y:=by
 cases w with
 |nil=>exact absurd h (by decide)
 |cons c u=>
  simp only[fP,aH,aS] at h;exact EV (h.2 c (by simp)) (fun d hd=>h.2 d (by simp[hd])) hy
theorem BE {c:UInt8} (h:c=40∨c=41∨c=58) (y:By):iG (c::y)=[c]::iG y:=by
 have hp:G4 (c::y)=false:=by
  cases hp:G4 (c::y) with
  |false=>rfl
  |true=>rcases(m4 c y).1 hp with e|e<;>(have:=e.1;subst this;rcases h with h|h|h<;>exact absurd h (by decide))
 have hw:lL (c::([]++y))=([]:By).length+1:=by
  show lL (c::y)=1;rw[uN,hp];rcases h with rfl|rfl|rfl<;>rfl
 exact sL (by rcases h with rfl|rfl|rfl<;>decide) hw
theorem VT {w:By} (h:mU w=true) (z:By):iG (w++32::z)=w::iG (32::z):=by
 simp only[mU,TS,List.contains_eq_mem,aK,List.mem_cons,List.not_mem_nil,or_false] at h;rcases h with rfl|rfl|rfl|rfl|rfl|rfl
 ·exact sL (u:=[]) (by decide) rfl
 ·exact sL (u:=[62]) (by decide) rfl
 ·exact sL (u:=[]) (by decide) rfl
 ·exact sL (u:=[61]) (by decide) rfl
 ·exact sL (u:=[]) (by decide) rfl
 ·exact sL (u:=[61]) (by decide) rfl
theorem P1 {v:Val} (h:v.ok=true) {y:By} (hy:Bd y):iG (eX v++y)=eX v::iG y:=by
 rcases N2 h with⟨n,rfl,h1,h2⟩|⟨s,rfl⟩
 ·show iG (Lib.itoa n++y)=Lib.itoa n::iG y;unfold Lib.itoa;by_cases hn:n<0
  ·rw[aF hn];obtain⟨d1,d2,d3,_⟩:=rS n.natAbs;refine sL (by decide) ?_;cases hd:Lib.decDigits n.natAbs with
   |nil=>exact absurd hd d3
   |cons d r=>
    rw[hd] at d1;rw[uN,aD (fun e=>by rcases(m4 45 _).1 e with e|e<;>exact absurd e.1 (by decide)),aF (by simp[d1 d (by simp)])];unfold pQ;rw[a0u (fun c hc=>sI (d1 c hc)) hy];omega
  ·rw[aD hn];obtain⟨d1,d2,d3,_⟩:=rS n.toNat;cases hd:Lib.decDigits n.toNat with
   |nil=>exact absurd hd d3
   |cons d r=>
    rw[hd] at d1;exact EV (sI (d1 d (by simp))) (fun c hc=>sI (d1 c (by simp[hc]))) hy
 ·show iG (34::(s.flatMap mL++[34])++y)=(34::(s.flatMap mL++[34]))::iG y;refine sL (by decide) ?_;rw[uN,aD (fun e=>by rcases(m4 34 _).1 e with e|e<;>exact absurd e.1 (by decide)),aD (by simp;decide),aF rfl,bG];show min (2+mP (s.flatMap mL++34::y)) _=_;rw[RU];simp only[aG,aJ,b5,List.singleton_append];omega
theorem I6 {t:Term} (h:t.good) {y:By} (hy:Bd y):iG (t.txt++y)=t.words++iG y:=by
 obtain⟨name,var,v⟩:=t;rcases h with⟨h1,h2,h3,h4⟩|⟨h1,h2,h3⟩
 ·simp only at h1 h2 h3 h4;cases var with
  |true=>
   show iG (58::(name++y))=[58]::name::iG y;rw[BE (.inr (.inr rfl)),tJ h2 hy]
  |false=>
   have e1:Term.words ⟨name,false,v⟩=[name]:=by unfold Term.words;rw[aD (by simp),aF h1]
   have e2:Term.txt ⟨name,false,v⟩=name:=by unfold Term.txt;rw[aD (by simp),aF h1]
   rw[e1,e2,tJ h2 hy];rfl
 ·simp only at h1 h2 h3;subst h1;subst h2;have e2:Term.txt ⟨[],false,v⟩=eX v:=by
   show(if v.ok=true then eX v else[])=_;rw[aF h3]
  rw[e2,P1 h3 hy];rfl
def BV (b:Bool) (ws:List By):List By:=if b then[40]::(ws++[[41]]) else ws
def wOp (a:Bool):By:=if a then nD else BA
def Tree.words:Tree->List By
 |.pair a l r=>BV (decide (l.level<l8 a)) l.words++wOp a::BV (decide (r.level<l8 a)) r.words
 |.no t=>k9::BV (decide (t.level<4)) t.words
 |.test op l r=>l.words++op::r.words
 |.truth b=>[if b then l5 else jS]
theorem yQ {b:Bool} {p:By} {ws:List By} (h:∀y,Bd y->iG (p++y)=ws++iG y) {y:By} (hy:Bd y):iG (paren b p++y)=BV b ws++iG y:=by
 cases b with
 |false=>exact h y hy
 |true=>
  show iG (40::(p++[41])++y)=[40]::(ws++[[41]])++iG y;rw[List.cons_append,bG,BE (.inl rfl)];show[40]::iG (p++41::y)=_;rw[h _ (.cl y),BE (.inr (.inl rfl))];simp
theorem uS:∀(t:Tree),t.good->∀y,Bd y->iG (t.plain++y)=t.words++iG y
 |.pair a l r,h,y,hy=>by
  unfold Tree.plain Tree.words;rw[bG,bG];have e:l7 a++(paren (decide (r.level<l8 a)) r.plain++y)=32::(wOp a++32::(paren (decide (r.level<l8 a)) r.plain++y)):=by
   cases a<;>simp[l7,wOp]
  rw[e,yQ (uS l h.1) (.sp _),uR,tJ (by cases a<;>decide) (.sp _),uR,yQ (uS r h.2) hy];simp
 |.no t,h,y,hy=>by
  unfold Tree.plain Tree.words;rw[bG,bG];show iG (k9++32::(paren (decide (t.level<4)) t.plain++y))=_;rw[tJ (by decide) (.sp _),uR,yQ (uS t h) hy];rfl
 |.test op l r,h,y,hy=>by
  unfold Tree.plain Tree.words;have e:l.txt++[32]++op++[32]++r.txt++y=l.txt++32::(op++32::(r.txt++y)):=by simp
  rw[e,I6 h.2.1 (.sp _),uR,VT h.1,uR,I6 h.2.2 hy];simp
 |.truth b,h,y,hy=>by
  unfold Tree.plain Tree.words;exact tJ (by cases b<;>decide) hy
def R (m:Md) (lv d:Nat) (ts:List By) (x:Tree×List By×Nat):Prop:=∀f,10*ts.length+m.rk<f->bR cK f m lv d ts=some x
theorem R.len {m:Md} {lv d:Nat} {ts r:List By} {t:Tree} {e:Nat} (h:R m lv d ts (t,r,e)) (hm:m.loop=false):r.length<ts.length:=(iV _ _ _ _ _ _ _ _ (h (10*ts.length+m.rk+1) (by omega))).2.1 hm
theorem R.or {lv d:Nat} {ts r:List By} {t:Tree} {e:Nat} {x:Tree×List By×Nat} (h1:R .and lv d ts (t,r,e)) (h2:R (.orL t) lv e r x):R .or lv d ts x:=fun f hf=>by
 have:=h1.len rfl;cases f with
 |zero=>omega
 |succ g=>
  unfold bR;rw[h1 g (by simp only[Md.rk] at*;omega)];exact h2 g (by simp only[Md.rk] at*;omega)
theorem R.and {lv d:Nat} {ts r:List By} {t:Tree} {e:Nat} {x:Tree×List By×Nat} (h1:R .not lv d ts (t,r,e)) (h2:R (.andL t) lv e r x):R .and lv d ts x:=fun f hf=>by
 have:=h1.len rfl;cases f with
 |zero=>omega
 |succ g=>
  unfold bR;rw[h1 g (by simp only[Md.rk] at*;omega)];exact h2 g (by simp only[Md.rk] at*;omega)
theorem R.orL {n m:Tree} {lv d:Nat} {ts r:List By} {e:Nat} {x:Tree×List By×Nat} (h1:R .and lv d ts (m,r,e)) (h2:R (.orL (.pair false n m)) lv e r x):R (.orL n) lv d (BA::ts) x:=fun f hf=>by
 have:=h1.len rfl;simp only[aJ] at hf;cases f with
 |zero=>omega
 |succ g=>
  unfold bR;rw[aF (show(BA::ts).headD []=BA from rfl)];show(match bR cK g .and lv d ts with|some (m,r,e)=>_|none=>_)=_;rw[h1 g (by simp only[Md.rk] at*;omega)];exact h2 g (by simp only[Md.rk] at*;omega)
theorem R.andL {n m:Tree} {lv d:Nat} {ts r:List By} {e:Nat} {x:Tree×List By×Nat} (h1:R .not lv d ts (m,r,e)) (h2:R (.andL (.pair true n m)) lv e r x):R (.andL n) lv d (nD::ts) x:=fun f hf=>by
 have:=h1.len rfl;simp only[aJ] at hf;cases f with
 |zero=>omega
 |succ g=>
  unfold bR;rw[aF (show(nD::ts).headD []=nD from rfl)];show(match bR cK g .not lv d ts with|some (m,r,e)=>_|none=>_)=_;rw[h1 g (by simp only[Md.rk] at*;omega)];exact h2 g (by simp only[Md.rk] at*;omega)
theorem R.orS {n:Tree} {lv d:Nat} {ts:List By} (h:ts.headD []≠BA):R (.orL n) lv d ts (n,ts,d):=fun f hf=>by
 cases f with
 |zero=>omega
 |succ g=>unfold bR;rw[aD h]
theorem R.andS {n:Tree} {lv d:Nat} {ts:List By} (h:ts.headD []≠nD):R (.andL n) lv d ts (n,ts,d):=fun f hf=>by
 cases f with
 |zero=>omega
 |succ g=>unfold bR;rw[aD h]
theorem R.not1 {n:Tree} {lv d:Nat} {ts r:List By} {e:Nat} (h:R .prim (lv+1) (max d (lv+1)) ts (n,r,e)):R .not lv d (k9::ts) (.no n,r,e):=fun f hf=>by
 simp only[aJ] at hf;cases f with
 |zero=>omega
 |succ g=>
  unfold bR;rw[aF (show(k9::ts).headD []=k9 from rfl)];show(match bR cK g .prim (lv+1) (max d (lv+1)) ts with|some (n,r,e)=>_|none=>_)=_;rw[h g (by simp only[Md.rk] at*;omega)]
theorem R.not0 {lv d:Nat} {ts:List By} {x:Tree×List By×Nat} (hn:ts.headD []≠k9) (h:R .prim lv d ts x):R .not lv d ts x:=fun f hf=>by
 cases f with
 |zero=>omega
 |succ g=>
  unfold bR;rw[aD hn];exact h g (by simp only[Md.rk] at*;omega)
theorem R.paren {n:Tree} {lv d:Nat} {ts r:List By} {e:Nat} (h:R .or (lv+1) (max d (lv+1)) ts (n,[41]::r,e)):R .prim lv d ([40]::ts) (n,r,e):=fun f hf=>by
 simp only[aJ] at hf;cases f with
 |zero=>omega
 |succ g=>
  unfold bR;rw[aD (show¬([40]::ts).headD []=l5 by show¬([40]:By)=l5;decide),aD (show¬([40]::ts).headD []=jS by show¬([40]:By)=jS;decide),aF (show([40]::ts).headD []=[40] from rfl)];show(match bR cK g .or (lv+1) (max d (lv+1)) ts with|some (n,r,e)=>_|none=>_)=_;rw[h g (by simp only[Md.rk] at*;omega)];show(if([41]:By)=[41] then some (n,r,e) else none)=_;rw[aF rfl]
theorem R.truth {b:Bool} {lv d:Nat} {r:List By}:R .prim lv d ((if b then l5 else jS)::r) (.truth b,r,d):=fun f hf=>by
 cases f with
 |zero=>omega
 |succ g=>
  unfold bR;cases b with
  |true=>rw[aF (show List.headD ((if true=true then l5 else jS)::r) []=l5 from rfl)];rfl
  |false=>
   rw[aD (show¬List.headD ((if false=true then l5 else jS)::r) []=l5 by show¬jS=l5;decide),aF (show List.headD ((if false=true then l5 else jS)::r) []=jS from rfl)];rfl
theorem EO {t:Term} (h:t.good) (r:List By):(t.words++r).headD []≠l5/\(t.words++r).headD []≠jS/\(t.words++r).headD []≠[40]/\(t.words++r).headD []≠k9:=by
 obtain⟨name,var,v⟩:=t;rcases h with⟨h1,h2,h3,h4⟩|⟨h1,h2,h3⟩
 ·simp only at h1 h2 h3 h4;cases var with
  |true=>
   show([58]:By)≠_/\([58]:By)≠_/\([58]:By)≠_/\([58]:By)≠_;exact⟨by decide,by decide,by decide,by decide⟩
  |false=>
   have e1:Term.words ⟨name,false,v⟩=[name]:=by unfold Term.words;rw[aD (by simp),aF h1]
   rw[e1];show name≠_/\name≠_/\name≠_/\name≠_;refine⟨?_,?_,?_,?_⟩<;>rintro rfl
   ·exact absurd h3 (by decide)
   ·exact absurd h3 (by decide)
   ·exact absurd h2 (by decide)
   ·exact absurd h3 (by decide)
 ·simp only at h1 h2 h3;subst h1;subst h2;show eX v≠_/\eX v≠_/\eX v≠_/\eX v≠_;have hl:=D3 h3;exact⟨G1 hl (by decide),G1 hl (by decide),G1 hl (by decide),G1 hl (by decide)⟩
theorem R.test {op:By} {a b:Term} {lv d:Nat} {r:List By} (ho:mU op=true) (ha:a.good) (hb:b.good):R .prim lv d (a.words++op::(b.words++r)) (.test op a b,r,d):=fun f hf=>by
 obtain⟨h1,h2,h3,_⟩:=EO ha (op::(b.words++r));cases f with
 |zero=>omega
 |succ g=>
  unfold bR;rw[aD h1,aD h2,aD h3,CS ha];show(if mU op=true then(match fV cK (b.words++r) with|some (b,r')=>some (Tree.test op a b,r',d)|none=>none) else none)=_;rw[aF ho,CS hb]
theorem pJ (t:Tree) (k:Nat):t.deep k=(if t.level<k then 1 else 0)+t.deep 0:=by
 cases t with
 |pair a l r=>
  show(if l8 a<k then 1 else 0)+max (l.deep (l8 a)) (r.deep (l8 a))=(if l8 a<k then 1 else 0)+((if l8 a<0 then 1 else 0)+max (l.deep (l8 a)) (r.deep (l8 a)));rw[aD (show¬l8 a<0 by omega)];omega
 |no t=>
  show(if 3<k then 1 else 0)+1+t.deep 4=(if 3<k then 1 else 0)+((if 3<0 then 1 else 0)+1+t.deep 4);rw[aD (show¬3<0 by omega)];omega
 |test _ _ _=>
  show(if 4<k then 1 else 0)=(if 4<k then 1 else 0)+(if 4<0 then 1 else 0);rw[aD (show¬4<0 by omega)];omega
 |truth _=>
  show(if 4<k then 1 else 0)=(if 4<k then 1 else 0)+(if 4<0 then 1 else 0);rw[aD (show¬4<0 by omega)];omega
theorem qP (t:Tree):1<=t.level:=by
 cases t with
 |pair a l r=>cases a<;>exact bL rfl
 |_=>exact bL rfl
def RD (t:Tree):Prop:=∀lv d rest,lv<=d->R .prim lv d (BV (decide (t.level<4)) t.words++rest) (t,rest,max d (lv+t.deep 4))
def RC (t:Tree):Prop:=∀lv d rest,lv<=d->R .not lv d (BV (decide (t.level<3)) t.words++rest) (t,rest,max d (lv+t.deep 3))
def RB (t:Tree):Prop:=∀lv d rest x,lv<=d->R (.andL t) lv (max d (lv+t.deep 2)) rest x->R .and lv d (BV (decide (t.level<2)) t.words++rest) x
def RA (t:Tree):Prop:=∀lv d rest x,lv<=d->rest.headD []≠nD->R (.orL t) lv (max d (lv+t.deep 1)) rest x->R .or lv d (t.words++rest) x
theorem RB.of {t:Tree} (h:RC t) (hl:t.level≠2):RB t:=fun lv d rest x hd hx=>by
 have h':=h lv d rest hd;have e1:decide (t.level<3)=decide (t.level<2):=by
  rw[decide_eq_decide];omega
 have e2:t.deep 3=t.deep 2:=by
  rw[pJ t 3,pJ t 2];by_cases h2:t.level<2
  ·rw[aF h2,aF (by omega)]
  ·rw[aD h2,aD (by omega)]
 rw[e1,e2] at h';exact R.and h' hx
theorem RA.of {t:Tree} (h:RB t) (hl:t.level≠1):RA t:=fun lv d rest x hd hr hx=>by
 have hp:=qP t;have h':=h lv d rest (t,rest,max d (lv+t.deep 2)) hd (R.andS hr);have e1:decide (t.level<2)=false:=by rw[bC];omega
 have e2:t.deep 2=t.deep 1:=by
  rw[pJ t 2,pJ t 1,aD (by omega),aD (by omega)]
 rw[e1,e2] at h';exact R.or h' hx
theorem RA.paren {t:Tree} (h:RA t) (lv d:Nat) (rest:List By) (hd:lv<=d):R .prim lv d ([40]::(t.words++[[41]])++rest) (t,rest,max d (lv+(1+t.deep 0))):=by
 have h1:=h (lv+1) (max d (lv+1)) ([41]::rest) (t,[41]::rest,max (max d (lv+1)) (lv+1+t.deep 1)) (by omega) (by show¬([41]:By)=nD;decide) (R.orS (by show¬([41]:By)=BA;decide));have hp:=qP t;have e:t.deep 1=t.deep 0:=by rw[pJ t 1,aD (by omega)];omega
 rw[e,show max (max d (lv+1)) (lv+1+t.deep 0)=max d (lv+(1+t.deep 0)) by omega] at h1;have h2:=R.paren h1;simpa using h2
theorem RD.of {t:Tree} (h:RA t) (hl:t.level<4):RD t:=fun lv d rest hd=>by
 have:=h.paren lv d rest hd;rw[pJ t 4,aF hl,show decide (t.level<4)=true from bN hl];exact this
theorem RC.of {t:Tree} (h:RA t) (hl:t.level<3):RC t:=fun lv d rest hd=>by
 have:=h.paren lv d rest hd;rw[pJ t 3,aF hl,show decide (t.level<3)=true from bN hl];exact R.not0 (by show¬([40]:By)=k9;decide) this
theorem RB.paren {t:Tree} (h:RA t) (hl:t.level<2):RB t:=RB.of (RC.of h (by omega)) (by omega)
theorem BQ:∀(t:Tree),t.good->nU t->RD t/\RC t/\RB t/\RA t
 |.truth b,_,_=>by
  have hD:∀lv d rest,lv<=d->R .prim lv d ([if b then l5 else jS]++rest) (.truth b,rest,max d (lv+0)):=fun lv d rest hd=>by
   rw[show max d (lv+0)=d by omega];exact R.truth
  have hC:RC (.truth b):=fun lv d rest hd=>R.not0 (by
   show(if b then l5 else jS)≠k9;cases b<;>decide) (hD lv d rest hd)
  have hB:=RB.of hC (show¬4=2 by decide);exact⟨hD,hC,hB,RA.of hB (show¬4=1 by decide)⟩
 |.test op a b,hg,_=>by
  have hD:∀lv d rest,lv<=d->R .prim lv d ((a.words++op::b.words)++rest) (.test op a b,rest,max d (lv+0)):=fun lv d rest hd=>by
   rw[show max d (lv+0)=d by omega,bG];exact R.test hg.1 hg.2.1 hg.2.2
  have hC:RC (.test op a b):=fun lv d rest hd=>R.not0 (by
   show((a.words++op::b.words)++rest).headD []≠_;rw[bG];exact(EO hg.2.1 _).2.2.2) (hD lv d rest hd)
  have hB:=RB.of hC (show¬4=2 by decide);exact⟨hD,hC,hB,RA.of hB (show¬4=1 by decide)⟩
 |.no t,hg,hf=>by
  obtain⟨iD,_⟩:=BQ t hg hf;have hC:RC (.no t):=fun lv d rest hd=>by
   have h1:=iD (lv+1) (max d (lv+1)) rest (by omega);show R .not lv d (k9::(BV (decide (t.level<4)) t.words++rest)) (.no t,rest,max d (lv+((if 3<3 then 1 else 0)+1+t.deep 4)));rw[aD (by decide),show max d (lv+(0+1+t.deep 4))=max (max d (lv+1)) (lv+1+t.deep 4) by omega];exact R.not1 h1
  have hB:=RB.of hC (show¬3=2 by decide);have hA:=RA.of hB (show¬3=1 by decide);exact⟨RD.of hA (show 3<4 by decide),hC,hB,hA⟩
 |.pair true l r,hg,hf=>by
  obtain⟨_,_,lB,_⟩:=BQ l hg.1 hf.1;obtain⟨_,rC,_,_⟩:=BQ r hg.2 hf.2.1;have hr2:r.level≠2:=by
   have:=hf.2.2;cases r with
   |pair c _ _=>cases c with
    |true=>cases this
    |false=>exact fun h=>absurd h (show¬1=2 by decide)
   |_=>exact fun h=>by cases h
  have hB:RB (.pair true l r):=fun lv d rest x hd hx=>by
   have e1:decide (r.level<3)=decide (r.level<2):=by
    rw[decide_eq_decide];omega
   have e2:r.deep 3=r.deep 2:=by
    rw[pJ r 3,pJ r 2];by_cases h2:r.level<2
    ·rw[aF h2,aF (by omega)]
    ·rw[aD h2,aD (by omega)]
   have hr:=rC lv (max d (lv+l.deep 2)) rest (by omega);rw[e1,e2] at hr;have hl:=lB lv d (nD::(BV (decide (r.level<2)) r.words++rest)) x hd (R.andL hr (by
    have e3:(Tree.pair true l r).deep 2=max (l.deep 2) (r.deep 2):=by
     show(if l8 true<2 then 1 else 0)+max (l.deep 2) (r.deep 2)=_;rw[aD (show¬l8 true<2 by decide)];omega
    rw[e3] at hx;rw[show max (max d (lv+l.deep 2)) (lv+r.deep 2)=max d (lv+max (l.deep 2) (r.deep 2)) by omega];exact hx))
   show R .and lv d ((BV (decide (l.level<2)) l.words++nD::BV (decide (r.level<2)) r.words)++rest) x;rw[bG];exact hl
  have hA:=RA.of hB (show¬2=1 by decide);exact⟨RD.of hA (show 2<4 by decide),RC.of hA (show 2<3 by decide),hB,hA⟩
 |.pair false l r,hg,hf=>by
  obtain⟨_,_,_,lA⟩:=BQ l hg.1 hf.1;obtain⟨_,_,rB,_⟩:=BQ r hg.2 hf.2.1;have hr2:¬r.level<2:=by
   have:=hf.2.2;cases r with
   |pair c _ _=>cases c with
    |false=>cases this
    |true=>exact fun h=>absurd h (show¬2<2 by decide)
   |no _=>exact(show¬3<2 by decide)
   |_=>exact(show¬4<2 by decide)
  have hA:RA (.pair false l r):=fun lv d rest x hd hh hx=>by
   have hl1:=qP l;have hr1:=qP r;have e0:decide (r.level<2)=false:=cD hr2;have e2:r.deep 2=r.deep 1:=by
    rw[pJ r 2,pJ r 1,aD hr2,aD (by omega)]
   have hr:=rB lv (max d (lv+l.deep 1)) rest (r,rest,max (max d (lv+l.deep 1)) (lv+r.deep 2)) (by omega) (R.andS hh);rw[e0,e2] at hr;have hl:=lA lv d (BA::(r.words++rest)) x hd (by show¬BA=nD;decide) (R.orL hr (by
    have e3:(Tree.pair false l r).deep 1=max (l.deep 1) (r.deep 1):=by
     show(if l8 false<1 then 1 else 0)+max (l.deep 1) (r.deep 1)=_;rw[aD (show¬l8 false<1 by decide)];omega
    rw[e3] at hx;rw[show max (max d (lv+l.deep 1)) (lv+r.deep 1)=max d (lv+max (l.deep 1) (r.deep 1)) by omega];exact hx))
   show R .or lv d ((BV (decide (l.level<1)) l.words++BA::BV (decide (r.level<1)) r.words)++rest) x;rw[bG,show decide (l.level<1)=false from cD (by omega),show decide (r.level<1)=false from cD (by omega)];exact hl
  exact⟨RD.of hA (show 1<4 by decide),RC.of hA (show 1<3 by decide),RB.paren hA (show 1<2 by decide),hA⟩
theorem PF {u:Tree} (hg:u.good) (hf:nU u) (hl:u.plain.length<=1000):mE u.plain=if 20<u.deep 0 then .err 4 else .ok u:=by
 have ht:iG u.plain=u.words:=by
  have:=uS u hg [] (.inl rfl);rw[gC,kK (l:=[]) rfl,gC] at this;exact this
 have hA:=(BQ u hg hf).2.2.2 0 0 [] (u,[],max 0 (0+u.deep 1)) (rL _) (by decide) (R.orS (by decide));rw[gC] at hA;have hlen:=tK u.plain.length u.plain (rL _);rw[ht] at hlen;have hp:=hA (jM u.plain) (by unfold jM;simp only[Md.rk];omega);have hv:=qP u;unfold mE;rw[aD (by omega),ht,hp];simp only[List.headD_nil,beq_self_eq_true,fK];have e1:max 0 (0+u.deep 1)=u.deep 0:=by rw[pJ u 1,aD (by omega)];omega
 rw[e1,SQ hf]
theorem PG {s:By} {t:Tree} (h:mE s=.ok t):t.good/\nU t:=by
 unfold mE at h;split at h
 ·cases h
 ·split at h
  ·rename_i t0 r e hp;split at h
   ·split at h
    ·cases h
    ·cases h;exact⟨J5 (jR _ _ _ _ _ _ _ _ hp trivial),LE t0⟩
   ·cases h
  ·cases h
theorem FE {s:By} {t:Tree} (h:lJ s=.ok t):t.good:=by
 unfold lJ at h;rw[show iC=cK from funext EA] at h;split at h
 ·cases h
 ·split at h
  ·cases h
  ·split at h
   ·rename_i t0 r e hp;split at h
    ·split at h
     ·cases h
     ·cases h;exact jR _ _ _ _ _ _ _ _ hp trivial
    ·cases h
   ·cases h
def I5 (t:Tree):By×Int:=if 1000<t.flat.plain.length then([],4) else match lJ t.flat.plain with
 |.ok _=>(t.flat.plain,0)
 |.err _=>([],4)
theorem VS {t:Tree} (h:t.good):I5 t=PC t:=by
 unfold I5 PC;by_cases h1:1000<t.flat.plain.length
 ·rw[aF h1,aF (.inl h1)]
 ·rw[aD h1];have hr:=A5 t.flat.plain;rw[PF (J5 h) (LE t) (by omega)] at hr;by_cases h2:20<t.flat.deep 0
  ·rw[aF (.inr h2)];rw[aF h2] at hr;cases hx:lJ t.flat.plain with
   |ok u=>rw[hx] at hr;cases hr
   |err e=>rfl
  ·rw[aD (fun h=>h.elim h1 h2)];rw[aD h2] at hr;cases hx:lJ t.flat.plain with
   |ok u=>rfl
   |err e=>rw[hx] at hr;cases hr
def M7 (s:By):By×Int:=match lJ s with
 |.ok t=>I5 t
 |.err e=>([],e)
theorem W2 (s:By):M7 s=zW s:=by
 unfold M7 zW;have hr:=A5 s;cases hx:lJ s with
 |err e=>rw[hx] at hr;rw[hr]
 |ok t=>
  rw[hx] at hr;rw[hr];simp only;rw[VS (FE hx)];unfold PC;rw[US]
