/-
  A part of the proof of SchemaMembers.
-/
import Derived.Test.YtcfgfkkhpdlhpaaGreatDoorQ40
set_option linter.all false
set_option maxRecDepth 100000
namespace Go.Proofs.YtcfgfkkhpdlhpaaGreatDoor
open Go.RowKit
def EX (a:Bool):Tree->Bool
 |.pair b _ _=>a==b
 |_=>false
def nN:Tree->Prop
 |.pair a l r=>nN l/\nN r/\EX a r=false
 |.no t=>nN t
 |_=>True
theorem yP (b:Bool):∀(t x:Tree),∃l r,dY b (some x) t=.pair b l r
 |.pair c l r,x=>by
  unfold dY;split
  ·exact yP b r _
  ·exact⟨_,_,rfl⟩
 |.no t,x=>⟨_,_,rfl⟩
 |.test _ _ _,x=>⟨_,_,rfl⟩
 |.truth _,x=>⟨_,_,rfl⟩
def ZU:Option Tree->Prop
 |none=>True
 |some t=>nN t
theorem zP {a:Bool} {acc:Option Tree} {t:Tree} (h:ZU acc) (ht:nN t) (hp:EX a t=false):nN (qX a acc t):=by
 cases acc with
 |none=>exact ht
 |some x=>exact⟨h,ht,hp⟩
theorem tQ:∀(t:Tree) (a:Bool) (acc:Option Tree),ZU acc->nN (dY a acc t)
 |.pair b l r,a,acc,h=>by
  unfold dY;split
  ·exact tQ r a _ (tQ l a _ h)
  ·rename_i hab;refine zP h (tQ r b _ (tQ l b none trivial)) ?_;obtain⟨x,y,e⟩:=yP b r (dY b none l);rw[e];simpa[EX] using hab
 |.no t,a,acc,h=>by
  unfold dY;exact zP h (tQ t true none trivial) rfl
 |.test _ _ _,a,acc,h=>by unfold dY;exact zP h trivial rfl
 |.truth _,a,acc,h=>by unfold dY;exact zP h trivial rfl
theorem JV (t:Tree):nN t.flat:=tQ t true none trivial
theorem SX (b:Bool) (x r:Tree) (h:EX b r=false):dY b (some x) r=.pair b x (dY b none r):=by
 cases r with
 |pair c l r=>
  have hb:¬b=c:=by simpa[EX] using h
  conv=>lhs;unfold dY
  conv=>rhs;unfold dY
  rw[aE hb,aE hb];rfl
 |_=>rfl
theorem uU:∀(t:Tree),nN t->∀a,dY a none t=t
 |.pair b l r,h,a=>by
  rw[FV a b];conv=>lhs;unfold dY
  rw[aG rfl,uU l h.1 b,SX b l r h.2.2,uU r h.2.1 b]
 |.no t,h,a=>by
  unfold dY;rw[uU t h true];rfl
 |.test _ _ _,h,a=>rfl
 |.truth _,h,a=>rfl
theorem QQ {t:Tree} (h:nN t):t.flat=t:=uU t h true
theorem SW (t:Tree):t.flat.flat=t.flat:=QQ (JV t)
def Term.good (t:Term):Prop:=(t.name≠[]/\fN t.name=true/\a1X.contains t.name=false/\t.v=v0)∨(t.name=[]/\t.var=false/\t.v.ok=true)
def Tree.good:Tree->Prop
 |.pair _ l r=>l.good/\r.good
 |.no t=>t.good
 |.test op l r=>mJ op=true/\l.good/\r.good
 |.truth _=>True
theorem y5:∀{ts r:List By} {t:Term},fT cE ts=some (t,r)->t.good
 |[],r,t,h=>by cases h
 |w::ts,r,t,h=>by
  unfold fT at h;split at h
  ·split at h
   ·rename_i t' r' h1;have ih:=y5 h1;split at h
    ·cases h
    ·rename_i hc;cases h;rcases ih with ih|ih
     ·exact .inl ih
     ·exact absurd (.inl ih.1) hc
   ·cases h
  ·split at h
   ·rename_i hn;cases h;simp only[aH,dT] at hn;exact .inl ⟨(by rintro rfl;exact absurd hn.1 (by decide)),hn.1,hn.2,rfl⟩
   ·split at h
    ·rename_i v hv;cases h;exact .inr ⟨rfl,rfl,ET hv⟩
    ·cases h
def Md.good:Md->Prop
 |.orL n=>n.good
 |.andL n=>n.good
 |_=>True
theorem jM:∀(f:Nat) (m:Md) (lv d:Nat) (ts r:List By) (t:Tree) (e:Nat),bO cE f m lv d ts=some (t,r,e)->m.good->t.good
 |0,m,lv,d,ts,r,t,e,h,_=>by cases h
 |f+1,.or,lv,d,ts,r,t,e,h,_=>by
  unfold bO at h;split at h
  ·rename_i n r1 e1 h1;exact jM f _ _ _ _ _ _ _ h (jM f _ _ _ _ _ _ _ h1 trivial)
  ·cases h
 |f+1,.orL n,lv,d,ts,r,t,e,h,hn=>by
  unfold bO at h;split at h
  ·split at h
   ·rename_i n r1 e1 h1;exact jM f _ _ _ _ _ _ _ h ⟨hn,jM f _ _ _ _ _ _ _ h1 trivial⟩
   ·cases h
  ·cases h;exact hn
 |f+1,.and,lv,d,ts,r,t,e,h,_=>by
  unfold bO at h;split at h
  ·rename_i n r1 e1 h1;exact jM f _ _ _ _ _ _ _ h (jM f _ _ _ _ _ _ _ h1 trivial)
  ·cases h
 |f+1,.andL n,lv,d,ts,r,t,e,h,hn=>by
  unfold bO at h;split at h
  ·split at h
   ·rename_i n r1 e1 h1;exact jM f _ _ _ _ _ _ _ h ⟨hn,jM f _ _ _ _ _ _ _ h1 trivial⟩
   ·cases h
  ·cases h;exact hn
 |f+1,.not,lv,d,ts,r,t,e,h,_=>by
  unfold bO at h;split at h
  ·split at h
   ·rename_i n r1 e1 h1;cases h;show n.good;exact jM f .prim _ _ _ _ _ _ h1 trivial
   ·cases h
  ·exact jM f .prim _ _ _ _ _ _ h trivial
 |f+1,.prim,lv,d,ts,r,t,e,h,_=>by
  unfold bO at h;split at h
  ·cases h;trivial
  ·split at h
   ·cases h;trivial
   ·split at h
    ·split at h
     ·rename_i n r1 e1 h1;split at h
      ·cases h;exact jM f .or _ _ _ _ _ _ h1 trivial
      ·cases h
     ·cases h
    ·split at h
     ·rename_i a r1 h1;split at h
      ·rename_i hrel;split at h
       ·rename_i b r2 h2;cases h;exact⟨hrel,y5 h1,y5 h2⟩
       ·cases h
      ·cases h
     ·cases h
def R6:Option Tree->Prop
 |none=>True
 |some t=>t.good
theorem uK (a:Bool) {acc:Option Tree} {t:Tree} (h:R6 acc) (h':t.good):(qX a acc t).good:=by
 cases acc with
 |none=>exact h'
 |some x=>exact⟨h,h'⟩
theorem nQ (a:Bool):∀(t:Tree) (acc:Option Tree),R6 acc->t.good->(dY a acc t).good
 |.pair b l r,acc,h,ht=>by
  unfold dY;split
  ·exact nQ a r _ (nQ a l _ h ht.1) ht.2
  ·exact uK a h (nQ b r _ (nQ b l _ trivial ht.1) ht.2)
 |.no t,acc,h,ht=>by unfold dY;exact uK a h (nQ true t _ trivial ht)
 |.test _ _ _,acc,h,ht=>by unfold dY;exact uK a h ht
 |.truth _,acc,h,ht=>by unfold dY;exact uK a h ht
theorem I0 {t:Tree} (h:t.good):t.flat.good:=nQ true t none trivial h
theorem a0c (l:List UInt8):cE (34::l)=jK (34::l):=uG (fun v h=>by
 unfold Lib.atoiAll at h;simp only[show¬((34:UInt8).toNat=43∨(34:UInt8).toNat=45) by decide,fK] at h;unfold Lib.parseMag Lib.parseUint10 at h;rw[aE (by simp),aE (by decide)] at h;cases h)
theorem LG {v:Val} (h:v.ok=true):(∃n,v=⟨1,n,[]⟩/\ -1000000000<=n/\n<=1000000000)∨∃s,v=⟨2,0,s⟩:=by
 obtain⟨k,n,s⟩:=v;simp only[Val.ok,eW,aH,aK] at h;rcases h with⟨⟨⟨rfl,rfl⟩,h1⟩,h2⟩|⟨⟨rfl,rfl⟩,h1⟩
 ·exact .inl ⟨n,rfl,h1,h2⟩
 ·exact .inr ⟨s,rfl⟩
theorem C9 {v:Val} (h:v.ok=true):cE (eT v)=some v:=by
 rcases LG h with⟨n,rfl,h1,h2⟩|⟨s,rfl⟩
 ·show cE (Lib.itoa n)=_;rw[zM (I9 h1 h2),aG ⟨rfl,h⟩]
 ·show cE (34::(s.flatMap mA++[34]))=_;rw[a0c,V4,ZD];simp only;rw[aG ⟨h,rfl⟩]
def Term.words (t:Term):List By:=if t.var then[[58],t.name] else if t.name≠[] then[t.name] else[eT t.v]
theorem E2 {w:By} (h:fN w=true) (hk:a1X.contains w=false) (ts:List By):fT cE (w::ts)=some (⟨w,false,v0⟩,ts):=by
 conv=>lhs;unfold fT
 rw[aE (by rintro rfl;exact absurd h (by decide)),aG (by rw[h,hk];rfl)]
theorem LQ {w:By} {v:Val} (h:cE w=some v):∃c t,w=c::t/\(c=34∨c=45∨cJ c=true):=by
 cases w with
 |nil=>rw[uG (fun v h=>by cases h),DB (by simp)] at h;cases h
 |cons c t=>
  refine⟨c,t,rfl,?_⟩;by_cases h34:c=34
  ·exact .inl h34
  ·have:=DG h h34;rcases DF (c:=c) (t:=t) (by rw[this];simp) with e|e
   ·exact .inr (.inr e)
   ·exact .inr (.inl e.1)
theorem ES {w w':By} {v:Val} (h:cE w=some v) (h':w'.head?.any (fun c=>c==34||c==45||cJ c)=false):w≠w':=by
 obtain⟨c,t,rfl,hc⟩:=LQ h;rintro rfl;simp only[List.head?_cons,Option.any_some,Bool.or_eq_false_iff] at h';rcases hc with rfl|rfl|hc
 ·exact absurd h'.1.1 (by decide)
 ·exact absurd h'.1.2 (by decide)
 ·rw[hc] at h';exact absurd h'.2 (by decide)
theorem O1 {w:By} {v:Val} (h:cE w=some v):fN w=false:=by
 obtain⟨c,t,rfl,hc⟩:=LQ h;cases hn:fN (c::t) with
 |false=>rfl
 |true=>
  have:=(H5 c).1 (HN hn);rcases hc with rfl|rfl|hc
  ·exact absurd this (by decide)
  ·exact absurd this (by decide)
  ·have:=(k7 c).1 hc;omega
theorem BZ {t:Term} (h:t.good) (rest:List By):fT cE (t.words++rest)=some (t,rest):=by
 obtain⟨name,var,v⟩:=t;rcases h with⟨h1,h2,h3,h4⟩|⟨h1,h2,h3⟩
 ·simp only at h1 h2 h3 h4;subst h4;cases var with
  |true=>
   show fT cE ([58]::name::rest)=_;rw[PG,E2 h2 h3];simp only;rw[aE (by rintro(h|h);exact h1 h;cases h)];rfl
  |false=>
   have:Term.words ⟨name,false,v0⟩=[name]:=by unfold Term.words;rw[aE (by simp),aG h1]
   rw[this];exact E2 h2 h3 rest
 ·simp only at h1 h2 h3;subst h1;subst h2;show fT cE (eT v::rest)=_;have hl:=C9 h3;rw[IE (ES hl (by decide)),aE (by rw[O1 hl];simp),hl]
def Bd (y:By):Prop:=y=[]∨∃z,y=32::z∨y=41::z
theorem Bd.sp (z:By):Bd (32::z):=.inr ⟨z,.inl rfl⟩
theorem Bd.cl (z:By):Bd (41::z):=.inr ⟨z,.inr rfl⟩
theorem Z9 {u y:By} (hu:∀c∈u,cV c=true) (hy:Bd y):(u++y).takeWhile cV=u:=by
 induction u with
 |nil=>rcases hy with rfl|⟨z,rfl|rfl⟩<;>rfl
 |cons c u ih=>
  rw[List.cons_append,eS,aG (hu c (by simp)),ih (fun d hd=>hu d (by simp[hd]))]
theorem rX {c:UInt8} {u y:By} (h32:c≠32) (hl:l9 (c::(u++y))=u.length+1):iG (c::u++y)=(c::u)::iG y:=by
 show iG (c::(u++y))=_;rw[N9 h32];unfold GD;rw[hl,j4,List.drop_succ_cons,List.take_left',List.drop_left']<;>rfl
theorem E1 {c:UInt8} {u y:By} (hc:cV c=true) (hu:∀c∈u,cV c=true) (hy:Bd y):iG (c::u++y)=(c::u)::iG y:=by
 have hn:=B6 hc;refine rX hn.2.2.2.2.2.2.2.2 ?_;rw[tX,aE (fun e=>by rcases(lR c _).1 e with e|e;exact hn.1 e.1;exact hn.2.1 e.1),aG (by rw[hc];rfl)];unfold oZ;rw[Z9 hu hy];omega
theorem sJ {w y:By} (h:fN w=true) (hy:Bd y):iG (w++y)=w::iG y:=by
 cases w with
 |nil=>exact absurd h (by decide)
 |cons c u=>
  simp only[fN,aH,aS] at h;exact E1 (h.2 c (by simp)) (fun d hd=>h.2 d (by simp[hd])) hy
theorem AJ {c:UInt8} (h:c=40∨c=41∨c=58) (y:By):iG (c::y)=[c]::iG y:=by
 have hp:EW (c::y)=false:=by
  cases hp:EW (c::y) with
  |false=>rfl
  |true=>rcases(lR c y).1 hp with e|e<;>(have:=e.1;subst this;rcases h with h|h|h<;>exact absurd h (by decide))
 have hw:l9 (c::([]++y))=([]:By).length+1:=by
  show l9 (c::y)=1;rw[tX,hp];rcases h with rfl|rfl|rfl<;>rfl
 exact rX (by rcases h with rfl|rfl|rfl<;>decide) hw
theorem TU {w:By} (h:mJ w=true) (z:By):iG (w++32::z)=w::iG (32::z):=by
 simp only[mJ,RV,List.contains_eq_mem,aK,List.mem_cons,List.not_mem_nil,or_false] at h;rcases h with rfl|rfl|rfl|rfl|rfl|rfl
 ·exact rX (u:=[]) (by decide) rfl
 ·exact rX (u:=[62]) (by decide) rfl
 ·exact rX (u:=[]) (by decide) rfl
 ·exact rX (u:=[61]) (by decide) rfl
 ·exact rX (u:=[]) (by decide) rfl
 ·exact rX (u:=[61]) (by decide) rfl
theorem N8 {v:Val} (h:v.ok=true) {y:By} (hy:Bd y):iG (eT v++y)=eT v::iG y:=by
 rcases LG h with⟨n,rfl,h1,h2⟩|⟨s,rfl⟩
 ·show iG (Lib.itoa n++y)=Lib.itoa n::iG y;unfold Lib.itoa;by_cases hn:n<0
  ·rw[aG hn];obtain⟨d1,d2,d3,_⟩:=r5 n.natAbs;refine rX (by decide) ?_;cases hd:Lib.decDigits n.natAbs with
   |nil=>exact absurd hd d3
   |cons d r=>
    rw[hd] at d1;rw[tX,aE (fun e=>by rcases(lR 45 _).1 e with e|e<;>exact absurd e.1 (by decide)),aG (by simp[d1 d (by simp)])];unfold oZ;rw[Z9 (fun c hc=>rU (d1 c hc)) hy];omega
  ·rw[aE hn];obtain⟨d1,d2,d3,_⟩:=r5 n.toNat;cases hd:Lib.decDigits n.toNat with
   |nil=>exact absurd hd d3
   |cons d r=>
    rw[hd] at d1;exact E1 (rU (d1 d (by simp))) (fun c hc=>rU (d1 c (by simp[hc]))) hy
 ·show iG (34::(s.flatMap mA++[34])++y)=(34::(s.flatMap mA++[34]))::iG y;refine rX (by decide) ?_;rw[tX,aE (fun e=>by rcases(lR 34 _).1 e with e|e<;>exact absurd e.1 (by decide)),aE (by simp;decide),aG rfl,bB];show min (2+mF (s.flatMap mA++34::y)) _=_;rw[Q0];simp only[aD,aJ,b4,List.singleton_append];omega
theorem H4 {t:Term} (h:t.good) {y:By} (hy:Bd y):iG (t.txt++y)=t.words++iG y:=by
 obtain⟨name,var,v⟩:=t;rcases h with⟨h1,h2,h3,h4⟩|⟨h1,h2,h3⟩
 ·simp only at h1 h2 h3 h4;cases var with
  |true=>
   show iG (58::(name++y))=[58]::name::iG y;rw[AJ (.inr (.inr rfl)),sJ h2 hy]
  |false=>
   have e1:Term.words ⟨name,false,v⟩=[name]:=by unfold Term.words;rw[aE (by simp),aG h1]
   have e2:Term.txt ⟨name,false,v⟩=name:=by unfold Term.txt;rw[aE (by simp),aG h1]
   rw[e1,e2,sJ h2 hy];rfl
 ·simp only at h1 h2 h3;subst h1;subst h2;have e2:Term.txt ⟨[],false,v⟩=eT v:=by
   show(if v.ok=true then eT v else[])=_;rw[aG h3]
  rw[e2,N8 h3 hy];rfl
def AZ (b:Bool) (ws:List By):List By:=if b then[40]::(ws++[[41]]) else ws
def wOp (a:Bool):By:=if a then mW else AF
def Tree.words:Tree->List By
 |.pair a l r=>AZ (decide (l.level<kW a)) l.words++wOp a::AZ (decide (r.level<kW a)) r.words
 |.no t=>jZ::AZ (decide (t.level<4)) t.words
 |.test op l r=>l.words++op::r.words
 |.truth b=>[if b then kU else jN]
theorem xX {b:Bool} {p:By} {ws:List By} (h:∀y,Bd y->iG (p++y)=ws++iG y) {y:By} (hy:Bd y):iG (paren b p++y)=AZ b ws++iG y:=by
 cases b with
 |false=>exact h y hy
 |true=>
  show iG (40::(p++[41])++y)=[40]::(ws++[[41]])++iG y;rw[List.cons_append,bB,AJ (.inl rfl)];show[40]::iG (p++41::y)=_;rw[h _ (.cl y),AJ (.inr (.inl rfl))];simp
theorem u7:∀(t:Tree),t.good->∀y,Bd y->iG (t.plain++y)=t.words++iG y
 |.pair a l r,h,y,hy=>by
  unfold Tree.plain Tree.words;rw[bB,bB];have e:kV a++(paren (decide (r.level<kW a)) r.plain++y)=32::(wOp a++32::(paren (decide (r.level<kW a)) r.plain++y)):=by
   cases a<;>simp[kV,wOp]
  rw[e,xX (u7 l h.1) (.sp _),u6,sJ (by cases a<;>decide) (.sp _),u6,xX (u7 r h.2) hy];simp
 |.no t,h,y,hy=>by
  unfold Tree.plain Tree.words;rw[bB,bB];show iG (jZ++32::(paren (decide (t.level<4)) t.plain++y))=_;rw[sJ (by decide) (.sp _),u6,xX (u7 t h) hy];rfl
 |.test op l r,h,y,hy=>by
  unfold Tree.plain Tree.words;have e:l.txt++[32]++op++[32]++r.txt++y=l.txt++32::(op++32::(r.txt++y)):=by simp
  rw[e,H4 h.2.1 (.sp _),u6,TU h.1,u6,H4 h.2.2 hy];simp
 |.truth b,h,y,hy=>by
  unfold Tree.plain Tree.words;exact sJ (by cases b<;>decide) hy
def R (m:Md) (lv d:Nat) (ts:List By) (x:Tree×List By×Nat):Prop:=∀f,10*ts.length+m.rk<f->bO cE f m lv d ts=some x
theorem R.len {m:Md} {lv d:Nat} {ts r:List By} {t:Tree} {e:Nat} (h:R m lv d ts (t,r,e)) (hm:m.loop=false):r.length<ts.length:=(iX _ _ _ _ _ _ _ _ (h (10*ts.length+m.rk+1) (by omega))).2.1 hm
theorem R.or {lv d:Nat} {ts r:List By} {t:Tree} {e:Nat} {x:Tree×List By×Nat} (h1:R .and lv d ts (t,r,e)) (h2:R (.orL t) lv e r x):R .or lv d ts x:=fun f hf=>by
 have:=h1.len rfl;cases f with
 |zero=>omega
 |succ g=>
  unfold bO;rw[h1 g (by simp only[Md.rk] at*;omega)];exact h2 g (by simp only[Md.rk] at*;omega)
theorem R.and {lv d:Nat} {ts r:List By} {t:Tree} {e:Nat} {x:Tree×List By×Nat} (h1:R .not lv d ts (t,r,e)) (h2:R (.andL t) lv e r x):R .and lv d ts x:=fun f hf=>by
 have:=h1.len rfl;cases f with
 |zero=>omega
 |succ g=>
  unfold bO;rw[h1 g (by simp only[Md.rk] at*;omega)];exact h2 g (by simp only[Md.rk] at*;omega)
theorem R.orL {n m:Tree} {lv d:Nat} {ts r:List By} {e:Nat} {x:Tree×List By×Nat} (h1:R .and lv d ts (m,r,e)) (h2:R (.orL (.pair false n m)) lv e r x):R (.orL n) lv d (AF::ts) x:=fun f hf=>by
 have:=h1.len rfl;simp only[aJ] at hf;cases f with
 |zero=>omega
 |succ g=>
  unfold bO;rw[aG (show(AF::ts).headD []=AF from rfl)];show(match bO cE g .and lv d ts with|some (m,r,e)=>_|none=>_)=_;rw[h1 g (by simp only[Md.rk] at*;omega)];exact h2 g (by simp only[Md.rk] at*;omega)
theorem R.andL {n m:Tree} {lv d:Nat} {ts r:List By} {e:Nat} {x:Tree×List By×Nat} (h1:R .not lv d ts (m,r,e)) (h2:R (.andL (.pair true n m)) lv e r x):R (.andL n) lv d (mW::ts) x:=fun f hf=>by
 have:=h1.len rfl;simp only[aJ] at hf;cases f with
 |zero=>omega
 |succ g=>
  unfold bO;rw[aG (show(mW::ts).headD []=mW from rfl)];show(match bO cE g .not lv d ts with|some (m,r,e)=>_|none=>_)=_;rw[h1 g (by simp only[Md.rk] at*;omega)];exact h2 g (by simp only[Md.rk] at*;omega)
theorem R.orS {n:Tree} {lv d:Nat} {ts:List By} (h:ts.headD []≠AF):R (.orL n) lv d ts (n,ts,d):=fun f hf=>by
 cases f with
 |zero=>omega
 |succ g=>unfold bO;rw[aE h]
theorem R.andS {n:Tree} {lv d:Nat} {ts:List By} (h:ts.headD []≠mW):R (.andL n) lv d ts (n,ts,d):=fun f hf=>by
 cases f with
 |zero=>omega
 |succ g=>unfold bO;rw[aE h]
theorem R.not1 {n:Tree} {lv d:Nat} {ts r:List By} {e:Nat} (h:R .prim (lv+1) (max d (lv+1)) ts (n,r,e)):R .not lv d (jZ::ts) (.no n,r,e):=fun f hf=>by
 simp only[aJ] at hf;cases f with
 |zero=>omega
 |succ g=>
  unfold bO;rw[aG (show(jZ::ts).headD []=jZ from rfl)];show(match bO cE g .prim (lv+1) (max d (lv+1)) ts with|some (n,r,e)=>_|none=>_)=_;rw[h g (by simp only[Md.rk] at*;omega)]
theorem R.not0 {lv d:Nat} {ts:List By} {x:Tree×List By×Nat} (hn:ts.headD []≠jZ) (h:R .prim lv d ts x):R .not lv d ts x:=fun f hf=>by
 cases f with
 |zero=>omega
 |succ g=>
  unfold bO;rw[aE hn];exact h g (by simp only[Md.rk] at*;omega)
theorem R.paren {n:Tree} {lv d:Nat} {ts r:List By} {e:Nat} (h:R .or (lv+1) (max d (lv+1)) ts (n,[41]::r,e)):R .prim lv d ([40]::ts) (n,r,e):=fun f hf=>by
 simp only[aJ] at hf;cases f with
 |zero=>omega
 |succ g=>
  unfold bO;rw[aE (show¬([40]::ts).headD []=kU by show¬([40]:By)=kU;decide),aE (show¬([40]::ts).headD []=jN by show¬([40]:By)=jN;decide),aG (show([40]::ts).headD []=[40] from rfl)];show(match bO cE g .or (lv+1) (max d (lv+1)) ts with|some (n,r,e)=>_|none=>_)=_;rw[h g (by simp only[Md.rk] at*;omega)];show(if([41]:By)=[41] then some (n,r,e) else none)=_;rw[aG rfl]
theorem R.truth {b:Bool} {lv d:Nat} {r:List By}:R .prim lv d ((if b then kU else jN)::r) (.truth b,r,d):=fun f hf=>by
 cases f with
 |zero=>omega
 |succ g=>
  unfold bO;cases b with
  |true=>rw[aG (show List.headD ((if true=true then kU else jN)::r) []=kU from rfl)];rfl
  |false=>
   rw[aE (show¬List.headD ((if false=true then kU else jN)::r) []=kU by show¬jN=kU;decide),aG (show List.headD ((if false=true then kU else jN)::r) []=jN from rfl)];rfl
theorem DU {t:Term} (h:t.good) (r:List By):(t.words++r).headD []≠kU/\(t.words++r).headD []≠jN/\(t.words++r).headD []≠[40]/\(t.words++r).headD []≠jZ:=by
 obtain⟨name,var,v⟩:=t;rcases h with⟨h1,h2,h3,h4⟩|⟨h1,h2,h3⟩
 ·simp only at h1 h2 h3 h4;cases var with
  |true=>
   show([58]:By)≠_/\([58]:By)≠_/\([58]:By)≠_/\([58]:By)≠_;exact⟨by decide,by decide,by decide,by decide⟩
  |false=>
   have e1:Term.words ⟨name,false,v⟩=[name]:=by unfold Term.words;rw[aE (by simp),aG h1]
   rw[e1];show name≠_/\name≠_/\name≠_/\name≠_;refine⟨?_,?_,?_,?_⟩<;>rintro rfl
   ·exact absurd h3 (by decide)
   ·exact absurd h3 (by decide)
   ·exact absurd h2 (by decide)
   ·exact absurd h3 (by decide)
 ·simp only at h1 h2 h3;subst h1;subst h2;show eT v≠_/\eT v≠_/\eT v≠_/\eT v≠_;have hl:=C9 h3;exact⟨ES hl (by decide),ES hl (by decide),ES hl (by decide),ES hl (by decide)⟩
theorem R.test {op:By} {a b:Term} {lv d:Nat} {r:List By} (ho:mJ op=true) (ha:a.good) (hb:b.good):R .prim lv d (a.words++op::(b.words++r)) (.test op a b,r,d):=fun f hf=>by
 obtain⟨h1,h2,h3,_⟩:=DU ha (op::(b.words++r));cases f with
 |zero=>omega
 |succ g=>
  unfold bO;rw[aE h1,aE h2,aE h3,BZ ha];show(if mJ op=true then(match fT cE (b.words++r) with|some (b,r')=>some (Tree.test op a b,r',d)|none=>none) else none)=_;rw[aG ho,BZ hb]
theorem oT (t:Tree) (k:Nat):t.deep k=(if t.level<k then 1 else 0)+t.deep 0:=by
 cases t with
 |pair a l r=>
  show(if kW a<k then 1 else 0)+max (l.deep (kW a)) (r.deep (kW a))=(if kW a<k then 1 else 0)+((if kW a<0 then 1 else 0)+max (l.deep (kW a)) (r.deep (kW a)));rw[aE (show¬kW a<0 by omega)];omega
 |no t=>
  show(if 3<k then 1 else 0)+1+t.deep 4=(if 3<k then 1 else 0)+((if 3<0 then 1 else 0)+1+t.deep 4);rw[aE (show¬3<0 by omega)];omega
 |test _ _ _=>
  show(if 4<k then 1 else 0)=(if 4<k then 1 else 0)+(if 4<0 then 1 else 0);rw[aE (show¬4<0 by omega)];omega
 |truth _=>
  show(if 4<k then 1 else 0)=(if 4<k then 1 else 0)+(if 4<0 then 1 else 0);rw[aE (show¬4<0 by omega)];omega
theorem pS (t:Tree):1<=t.level:=by
 cases t with
 |pair a l r=>cases a<;>exact bL rfl
 |_=>exact bL rfl
def RD (t:Tree):Prop:=∀lv d rest,lv<=d->R .prim lv d (AZ (decide (t.level<4)) t.words++rest) (t,rest,max d (lv+t.deep 4))
def RC (t:Tree):Prop:=∀lv d rest,lv<=d->R .not lv d (AZ (decide (t.level<3)) t.words++rest) (t,rest,max d (lv+t.deep 3))
def RB (t:Tree):Prop:=∀lv d rest x,lv<=d->R (.andL t) lv (max d (lv+t.deep 2)) rest x->R .and lv d (AZ (decide (t.level<2)) t.words++rest) x
def RA (t:Tree):Prop:=∀lv d rest x,lv<=d->rest.headD []≠mW->R (.orL t) lv (max d (lv+t.deep 1)) rest x->R .or lv d (t.words++rest) x
theorem RB.of {t:Tree} (h:RC t) (hl:t.level≠2):RB t:=fun lv d rest x hd hx=>by
 have h':=h lv d rest hd;have e1:decide (t.level<3)=decide (t.level<2):=by
  rw[decide_eq_decide];omega
 have e2:t.deep 3=t.deep 2:=by
  rw[oT t 3,oT t 2];by_cases h2:t.level<2
  ·rw[aG h2,aG (by omega)]
  ·rw[aE h2,aE (by omega)]
 rw[e1,e2] at h';exact R.and h' hx
theorem RA.of {t:Tree} (h:RB t) (hl:t.level≠1):RA t:=fun lv d rest x hd hr hx=>by
 have hp:=pS t;have h':=h lv d rest (t,rest,max d (lv+t.deep 2)) hd (R.andS hr);have e1:decide (t.level<2)=false:=by rw[bM];omega
 have e2:t.deep 2=t.deep 1:=by
  rw[oT t 2,oT t 1,aE (by omega),aE (by omega)]
 rw[e1,e2] at h';exact R.or h' hx
theorem RA.paren {t:Tree} (h:RA t) (lv d:Nat) (rest:List By) (hd:lv<=d):R .prim lv d ([40]::(t.words++[[41]])++rest) (t,rest,max d (lv+(1+t.deep 0))):=by
 have h1:=h (lv+1) (max d (lv+1)) ([41]::rest) (t,[41]::rest,max (max d (lv+1)) (lv+1+t.deep 1)) (by omega) (by show¬([41]:By)=mW;decide) (R.orS (by show¬([41]:By)=AF;decide));have hp:=pS t;have e:t.deep 1=t.deep 0:=by rw[oT t 1,aE (by omega)];omega
 rw[e,show max (max d (lv+1)) (lv+1+t.deep 0)=max d (lv+(1+t.deep 0)) by omega] at h1;have h2:=R.paren h1;simpa using h2
theorem RD.of {t:Tree} (h:RA t) (hl:t.level<4):RD t:=fun lv d rest hd=>by
 have:=h.paren lv d rest hd;rw[oT t 4,aG hl,show decide (t.level<4)=true from bQ hl];exact this
theorem RC.of {t:Tree} (h:RA t) (hl:t.level<3):RC t:=fun lv d rest hd=>by
 have:=h.paren lv d rest hd;rw[oT t 3,aG hl,show decide (t.level<3)=true from bQ hl];exact R.not0 (by show¬([40]:By)=jZ;decide) this
theorem RB.paren {t:Tree} (h:RA t) (hl:t.level<2):RB t:=RB.of (RC.of h (by omega)) (by omega)
theorem AU:∀(t:Tree),t.good->nN t->RD t/\RC t/\RB t/\RA t
 |.truth b,_,_=>by
  have hD:∀lv d rest,lv<=d->R .prim lv d ([if b then kU else jN]++rest) (.truth b,rest,max d (lv+0)):=fun lv d rest hd=>by
   rw[show max d (lv+0)=d by omega];exact R.truth
  have hC:RC (.truth b):=fun lv d rest hd=>R.not0 (by
   show(if b then kU else jN)≠jZ;cases b<;>decide) (hD lv d rest hd)
  have hB:=RB.of hC (show¬4=2 by decide);exact⟨hD,hC,hB,RA.of hB (show¬4=1 by decide)⟩
 |.test op a b,hg,_=>by
  have hD:∀lv d rest,lv<=d->R .prim lv d ((a.words++op::b.words)++rest) (.test op a b,rest,max d (lv+0)):=fun lv d rest hd=>by
   rw[show max d (lv+0)=d by omega,bB];exact R.test hg.1 hg.2.1 hg.2.2
  have hC:RC (.test op a b):=fun lv d rest hd=>R.not0 (by
   show((a.words++op::b.words)++rest).headD []≠_;rw[bB];exact(DU hg.2.1 _).2.2.2) (hD lv d rest hd)
  have hB:=RB.of hC (show¬4=2 by decide);exact⟨hD,hC,hB,RA.of hB (show¬4=1 by decide)⟩
 |.no t,hg,hf=>by
  obtain⟨iD,_⟩:=AU t hg hf;have hC:RC (.no t):=fun lv d rest hd=>by
   have h1:=iD (lv+1) (max d (lv+1)) rest (by omega);show R .not lv d (jZ::(AZ (decide (t.level<4)) t.words++rest)) (.no t,rest,max d (lv+((if 3<3 then 1 else 0)+1+t.deep 4)));rw[aE (by decide),show max d (lv+(0+1+t.deep 4))=max (max d (lv+1)) (lv+1+t.deep 4) by omega];exact R.not1 h1
  have hB:=RB.of hC (show¬3=2 by decide);have hA:=RA.of hB (show¬3=1 by decide);exact⟨RD.of hA (show 3<4 by decide),hC,hB,hA⟩
 |.pair true l r,hg,hf=>by
  obtain⟨_,_,lB,_⟩:=AU l hg.1 hf.1;obtain⟨_,rC,_,_⟩:=AU r hg.2 hf.2.1;have hr2:r.level≠2:=by
   have:=hf.2.2;cases r with
   |pair c _ _=>cases c with
    |true=>cases this
    |false=>exact fun h=>absurd h (show¬1=2 by decide)
   |_=>exact fun h=>by cases h
  have hB:RB (.pair true l r):=fun lv d rest x hd hx=>by
   have e1:decide (r.level<3)=decide (r.level<2):=by
    rw[decide_eq_decide];omega
   have e2:r.deep 3=r.deep 2:=by
    rw[oT r 3,oT r 2];by_cases h2:r.level<2
    ·rw[aG h2,aG (by omega)]
    ·rw[aE h2,aE (by omega)]
   have hr:=rC lv (max d (lv+l.deep 2)) rest (by omega);rw[e1,e2] at hr;have hl:=lB lv d (mW::(AZ (decide (r.level<2)) r.words++rest)) x hd (R.andL hr (by
    have e3:(Tree.pair true l r).deep 2=max (l.deep 2) (r.deep 2):=by
     show(if kW true<2 then 1 else 0)+max (l.deep 2) (r.deep 2)=_;rw[aE (show¬kW true<2 by decide)];omega
    rw[e3] at hx;rw[show max (max d (lv+l.deep 2)) (lv+r.deep 2)=max d (lv+max (l.deep 2) (r.deep 2)) by omega];exact hx))
   show R .and lv d ((AZ (decide (l.level<2)) l.words++mW::AZ (decide (r.level<2)) r.words)++rest) x;rw[bB];exact hl
  have hA:=RA.of hB (show¬2=1 by decide);exact⟨RD.of hA (show 2<4 by decide),RC.of hA (show 2<3 by decide),hB,hA⟩
 |.pair false l r,hg,hf=>by
  obtain⟨_,_,_,lA⟩:=AU l hg.1 hf.1;obtain⟨_,_,rB,_⟩:=AU r hg.2 hf.2.1;have hr2:¬r.level<2:=by
   have:=hf.2.2;cases r with
   |pair c _ _=>cases c with
    |false=>cases this
    |true=>exact fun h=>absurd h (show¬2<2 by decide)
   |no _=>exact(show¬3<2 by decide)
   |_=>exact(show¬4<2 by decide)
  have hA:RA (.pair false l r):=fun lv d rest x hd hh hx=>by
   have hl1:=pS l;have hr1:=pS r;have e0:decide (r.level<2)=false:=cM hr2;have e2:r.deep 2=r.deep 1:=by
    rw[oT r 2,oT r 1,aE hr2,aE (by omega)]
   have hr:=rB lv (max d (lv+l.deep 1)) rest (r,rest,max (max d (lv+l.deep 1)) (lv+r.deep 2)) (by omega) (R.andS hh);rw[e0,e2] at hr;have hl:=lA lv d (AF::(r.words++rest)) x hd (by show¬AF=mW;decide) (R.orL hr (by
    have e3:(Tree.pair false l r).deep 1=max (l.deep 1) (r.deep 1):=by
     show(if kW false<1 then 1 else 0)+max (l.deep 1) (r.deep 1)=_;rw[aE (show¬kW false<1 by decide)];omega
    rw[e3] at hx;rw[show max (max d (lv+l.deep 1)) (lv+r.deep 1)=max d (lv+max (l.deep 1) (r.deep 1)) by omega];exact hx))
   show R .or lv d ((AZ (decide (l.level<1)) l.words++AF::AZ (decide (r.level<1)) r.words)++rest) x;rw[bB,show decide (l.level<1)=false from cM (by omega),show decide (r.level<1)=false from cM (by omega)];exact hl
  exact⟨RD.of hA (show 1<4 by decide),RC.of hA (show 1<3 by decide),RB.paren hA (show 1<2 by decide),hA⟩
theorem NO {u:Tree} (hg:u.good) (hf:nN u) (hl:u.plain.length<=1000):m4 u.plain=if 20<u.deep 0 then .err 4 else .ok u:=by
 have ht:iG u.plain=u.words:=by
  have:=u7 u hg [] (.inl rfl);rw[iM,kE (l:=[]) rfl,iM] at this;exact this
 have hA:=(AU u hg hf).2.2.2 0 0 [] (u,[],max 0 (0+u.deep 1)) (rL _) (by decide) (R.orS (by decide));rw[iM] at hA;have hlen:=sK u.plain.length u.plain (rL _);rw[ht] at hlen;have hp:=hA (jR u.plain) (by unfold jR;simp only[Md.rk];omega);have hv:=pS u;unfold m4;rw[aE (by omega),ht,hp];simp only[List.headD_nil,beq_self_eq_true,fI];have e1:max 0 (0+u.deep 1)=u.deep 0:=by rw[oT u 1,aE (by omega)];omega
 rw[e1,QQ hf]
theorem NP {s:By} {t:Tree} (h:m4 s=.ok t):t.good/\nN t:=by
 unfold m4 at h;split at h
 ·cases h
 ·split at h
  ·rename_i t0 r e hp;split at h
   ·split at h
    ·cases h
    ·cases h;exact⟨I0 (jM _ _ _ _ _ _ _ _ hp trivial),JV t0⟩
   ·cases h
  ·cases h
theorem EF {s:By} {t:Tree} (h:l7 s=.ok t):t.good:=by
 unfold l7 at h;rw[show iB=cE from funext DH] at h;split at h
 ·cases h
 ·split at h
  ·cases h
  ·split at h
   ·rename_i t0 r e hp;split at h
    ·split at h
     ·cases h
     ·cases h;exact jM _ _ _ _ _ _ _ _ hp trivial
    ·cases h
   ·cases h
def H3 (t:Tree):By×Int:=if 1000<t.flat.plain.length then([],4) else match l7 t.flat.plain with
 |.ok _=>(t.flat.plain,0)
 |.err _=>([],4)
theorem TT {t:Tree} (h:t.good):H3 t=NK t:=by
 unfold H3 NK;by_cases h1:1000<t.flat.plain.length
 ·rw[aG h1,aG (.inl h1)]
 ·rw[aE h1];have hr:=zC t.flat.plain;rw[NO (I0 h) (JV t) (by omega)] at hr;by_cases h2:20<t.flat.deep 0
  ·rw[aG (.inr h2)];rw[aG h2] at hr;cases hx:l7 t.flat.plain with
   |ok u=>rw[hx] at hr;cases hr
   |err e=>rfl
  ·rw[aE (fun h=>h.elim h1 h2)];rw[aE h2] at hr;cases hx:l7 t.flat.plain with
   |ok u=>rfl
   |err e=>rw[hx] at hr;cases hr
def KK (s:By):By×Int:=match l7 s with
 |.ok t=>H3 t
 |.err e=>([],e)
theorem U3 (s:By):KK s=yZ s:=by
 unfold KK yZ;have hr:=zC s;cases hx:l7 s with
 |err e=>rw[hx] at hr;rw[hr]
 |ok t=>
  rw[hx] at hr;rw[hr];simp only;rw[TT (EF hx)];unfold NK;rw[SW]
