/- Part of ViewWrong. -/
import Derived.Test.YtimgfjldcdhejaaGreatDoorK24
set_option linter.all false
set_option maxRecDepth 100000
namespace Go.Proofs.YtimgfjldcdhejaaGreatDoor
open Go.RowKit
def JS (a:Bool):Tree->Bool
 |.pair b _ _=>a==b
 |_=>false
def qW:Tree->Prop
 |.pair a l r=>qW l/\qW r/\JS a r=false
 |.no t=>qW t
 |_=>True
theorem yK (b:Bool):∀(t x:Tree),∃l r,dA b (some x) t=.pair b l r
 |.pair c l r,x=>by
  unfold dA;split
  ·exact yK b r _
  ·exact⟨_,_,rfl⟩
 |.no t,x=>⟨_,_,rfl⟩
 |.test _ _ _,x=>⟨_,_,rfl⟩
 |.truth _,x=>⟨_,_,rfl⟩
def a5M:Option Tree->Prop
 |none=>True
 |some t=>qW t
theorem DH {a:Bool} {acc:Option Tree} {t:Tree} (h:a5M acc) (ht:qW t) (hp:JS a t=false):qW (pW a acc t):=by
 cases acc with
 |none=>exact ht
 |some x=>exact⟨h,ht,hp⟩
theorem xD:∀(t:Tree) (a:Bool) (acc:Option Tree),a5M acc->qW (dA a acc t)
 |.pair b l r,a,acc,h=>by
  unfold dA;split
  ·exact xD r a _ (xD l a _ h)
  ·rename_i hab;refine DH h (xD r b _ (xD l b none trivial)) ?_;obtain⟨x,y,e⟩:=yK b r (dA b none l);rw[e];simpa[JS] using hab
 |.no t,a,acc,h=>by
  unfold dA;exact DH h (xD t true none trivial) rfl
 |.test _ _ _,a,acc,h=>by unfold dA;exact DH h trivial rfl
 |.truth _,a,acc,h=>by unfold dA;exact DH h trivial rfl
theorem PI (t:Tree):qW t.flat:=xD t true none trivial
theorem ZY (b:Bool) (x r:Tree) (h:JS b r=false):dA b (some x) r=.pair b x (dA b none r):=by
 cases r with
 |pair c l r=>
  have hb:¬b=c:=by simpa[JS] using h
  conv=>lhs;unfold dA
  conv=>rhs;unfold dA
  rw[aC hb,aC hb];rfl
 |_=>rfl
theorem yJ:∀(t:Tree),qW t->∀a,dA a none t=t
 |.pair b l r,h,a=>by
  rw[KS a b];conv=>lhs;unfold dA
  rw[aD rfl,yJ l h.1 b,ZY b l r h.2.2,yJ r h.2.1 b]
 |.no t,h,a=>by
  unfold dA;rw[yJ t h true];rfl
 |.test _ _ _,h,a=>rfl
 |.truth _,h,a=>rfl
theorem XW {t:Tree} (h:qW t):t.flat=t:=yJ t h true
theorem FM (t:Tree):t.flat.flat=t.flat:=XW (PI t)
def Term.good (t:Term):Prop:=(t.name≠[]/\dU t.name=true/\a7o.contains t.name=false/\t.v=v0)∨(t.name=[]/\t.var=false/\t.v.ok=true)
def Tree.good:Tree->Prop
 |.pair _ l r=>l.good/\r.good
 |.no t=>t.good
 |.test op l r=>oB op=true/\l.good/\r.good
 |.truth _=>True
theorem C6:∀{ts r:List By} {t:Term},iB dM ts=some (t,r)->t.good
 |[],r,t,h=>by cases h
 |w::ts,r,t,h=>by
  unfold iB at h;split at h
  ·split at h
   ·rename_i t' r' h1;have ih:=C6 h1;split at h
    ·cases h
    ·rename_i hc;cases h;rcases ih with ih|ih
     ·exact .inl ih
     ·exact absurd (.inl ih.1) hc
   ·cases h
  ·split at h
   ·rename_i hn;cases h;simp only[aF,eL] at hn;exact .inl ⟨(by rintro rfl;exact absurd hn.1 (by decide)),hn.1,hn.2,rfl⟩
   ·split at h
    ·rename_i v hv;cases h;exact .inr ⟨rfl,rfl,JN hv⟩
    ·cases h
def Md.good:Md->Prop
 |.orL n=>n.good
 |.andL n=>n.good
 |_=>True
theorem kL:∀(f:Nat) (m:Md) (lv d:Nat) (ts r:List By) (t:Tree) (e:Nat),bU dM f m lv d ts=some (t,r,e)->m.good->t.good
 |0,m,lv,d,ts,r,t,e,h,_=>by cases h
 |f+1,.or,lv,d,ts,r,t,e,h,_=>by
  unfold bU at h;split at h
  ·rename_i n r1 e1 h1;exact kL f _ _ _ _ _ _ _ h (kL f _ _ _ _ _ _ _ h1 trivial)
  ·cases h
 |f+1,.orL n,lv,d,ts,r,t,e,h,hn=>by
  unfold bU at h;split at h
  ·split at h
   ·rename_i n r1 e1 h1;exact kL f _ _ _ _ _ _ _ h ⟨hn,kL f _ _ _ _ _ _ _ h1 trivial⟩
   ·cases h
  ·cases h;exact hn
 |f+1,.and,lv,d,ts,r,t,e,h,_=>by
  unfold bU at h;split at h
  ·rename_i n r1 e1 h1;exact kL f _ _ _ _ _ _ _ h (kL f _ _ _ _ _ _ _ h1 trivial)
  ·cases h
 |f+1,.andL n,lv,d,ts,r,t,e,h,hn=>by
  unfold bU at h;split at h
  ·split at h
   ·rename_i n r1 e1 h1;exact kL f _ _ _ _ _ _ _ h ⟨hn,kL f _ _ _ _ _ _ _ h1 trivial⟩
   ·cases h
  ·cases h;exact hn
 |f+1,.not,lv,d,ts,r,t,e,h,_=>by
  unfold bU at h;split at h
  ·split at h
   ·rename_i n r1 e1 h1;cases h;show n.good;exact kL f .prim _ _ _ _ _ _ h1 trivial
   ·cases h
  ·exact kL f .prim _ _ _ _ _ _ h trivial
 |f+1,.prim,lv,d,ts,r,t,e,h,_=>by
  unfold bU at h;split at h
  ·cases h;trivial
  ·split at h
   ·cases h;trivial
   ·split at h
    ·split at h
     ·rename_i n r1 e1 h1;split at h
      ·cases h;exact kL f .or _ _ _ _ _ _ h1 trivial
      ·cases h
     ·cases h
    ·split at h
     ·rename_i a r1 h1;split at h
      ·rename_i hrel;split at h
       ·rename_i b r2 h2;cases h;exact⟨hrel,C6 h1,C6 h2⟩
       ·cases h
      ·cases h
     ·cases h
def YI:Option Tree->Prop
 |none=>True
 |some t=>t.good
theorem yB (a:Bool) {acc:Option Tree} {t:Tree} (h:YI acc) (h':t.good):(pW a acc t).good:=by
 cases acc with
 |none=>exact h'
 |some x=>exact⟨h,h'⟩
theorem qZ (a:Bool):∀(t:Tree) (acc:Option Tree),YI acc->t.good->(dA a acc t).good
 |.pair b l r,acc,h,ht=>by
  unfold dA;split
  ·exact qZ a r _ (qZ a l _ h ht.1) ht.2
  ·exact yB a h (qZ b r _ (qZ b l _ trivial ht.1) ht.2)
 |.no t,acc,h,ht=>by unfold dA;exact yB a h (qZ true t _ trivial ht)
 |.test _ _ _,acc,h,ht=>by unfold dA;exact yB a h ht
 |.truth _,acc,h,ht=>by unfold dA;exact yB a h ht
theorem N6 {t:Tree} (h:t.good):t.flat.good:=qZ true t none trivial h
theorem a6O (l:List UInt8):dM (34::l)=zP (34::l):=B6 (fun v h=>by
 unfold Lib.atoiAll at h;simp only[show¬((34:UInt8).toNat=43∨(34:UInt8).toNat=45) by decide,fN] at h;unfold Lib.parseMag Lib.parseUint10 at h;rw[aC (by simp),aC (by decide)] at h;cases h)
theorem R1 {v:Val} (h:v.ok=true):(∃n,v=⟨1,n,[]⟩/\ -1000000000<=n/\n<=1000000000)∨∃s,v=⟨2,0,s⟩:=by
 obtain⟨k,n,s⟩:=v;simp only[Val.ok,f6,aF,aJ] at h;rcases h with⟨⟨⟨rfl,rfl⟩,h1⟩,h2⟩|⟨⟨rfl,rfl⟩,h1⟩
 ·exact .inl ⟨n,rfl,h1,h2⟩
 ·exact .inr ⟨s,rfl⟩
theorem GA {v:Val} (h:v.ok=true):dM (eY v)=some v:=by
 rcases R1 h with⟨n,rfl,h1,h2⟩|⟨s,rfl⟩
 ·show dM (Lib.itoa n)=_;rw[HP (NI h1 h2),aD ⟨rfl,h⟩]
 ·show dM (34::(s.flatMap nS++[34]))=_;rw[a6O,a1e,a4y];simp only;rw[aD ⟨h,rfl⟩]
def Term.words (t:Term):List By:=if t.var then[[58],t.name] else if t.name≠[] then[t.name] else[eY t.v]
theorem IL {w:By} (h:dU w=true) (hk:a7o.contains w=false) (ts:List By):iB dM (w::ts)=some (⟨w,false,v0⟩,ts):=by
 conv=>lhs;unfold iB
 rw[aC (by rintro rfl;exact absurd h (by decide)),aD (by rw[h,hk];rfl)]
theorem RJ {w:By} {v:Val} (h:dM w=some v):∃c t,w=c::t/\(c=34∨c=45∨cY c=true):=by
 cases w with
 |nil=>rw[B6 (fun v h=>by cases h),HF (by simp)] at h;cases h
 |cons c t=>
  refine⟨c,t,rfl,?_⟩;by_cases h34:c=34
  ·exact .inl h34
  ·have:=HN h h34;rcases HJ (c:=c) (t:=t) (by rw[this];simp) with e|e
   ·exact .inr (.inr e)
   ·exact .inr (.inl e.1)
theorem JM {w w':By} {v:Val} (h:dM w=some v) (h':w'.head?.any (fun c=>c==34||c==45||cY c)=false):w≠w':=by
 obtain⟨c,t,rfl,hc⟩:=RJ h;rintro rfl;simp only[List.head?_cons,Option.any_some,Bool.or_eq_false_iff] at h';rcases hc with rfl|rfl|hc
 ·exact absurd h'.1.1 (by decide)
 ·exact absurd h'.1.2 (by decide)
 ·rw[hc] at h';exact absurd h'.2 (by decide)
theorem UN {w:By} {v:Val} (h:dM w=some v):dU w=false:=by
 obtain⟨c,t,rfl,hc⟩:=RJ h;cases hn:dU (c::t) with
 |false=>rfl
 |true=>
  have:=(M2 c).1 (MP hn);rcases hc with rfl|rfl|hc
  ·exact absurd this (by decide)
  ·exact absurd this (by decide)
  ·have:=(l6 c).1 hc;omega
theorem FZ {t:Term} (h:t.good) (rest:List By):iB dM (t.words++rest)=some (t,rest):=by
 obtain⟨name,var,v⟩:=t;rcases h with⟨h1,h2,h3,h4⟩|⟨h1,h2,h3⟩
 ·simp only at h1 h2 h3 h4;subst h4;cases var with
  |true=>
   show iB dM ([58]::name::rest)=_;rw[WB,IL h2 h3];simp only;rw[aC (by rintro(h|h);exact h1 h;cases h)];rfl
  |false=>
   have:Term.words ⟨name,false,v0⟩=[name]:=by unfold Term.words;rw[aC (by simp),aD h1]
   rw[this];exact IL h2 h3 rest
 ·simp only at h1 h2 h3;subst h1;subst h2;show iB dM (eY v::rest)=_;have hl:=GA h3;rw[NU (JM hl (by decide)),aC (by rw[UN hl];simp),hl]
def Bd (y:By):Prop:=y=[]∨∃z,y=32::z∨y=41::z
theorem Bd.sp (z:By):Bd (32::z):=.inr ⟨z,.inl rfl⟩
theorem Bd.cl (z:By):Bd (41::z):=.inr ⟨z,.inr rfl⟩
theorem a4x {u y:By} (hu:∀c∈u,dL c=true) (hy:Bd y):(u++y).takeWhile dL=u:=by
 induction u with
 |nil=>rcases hy with rfl|⟨z,rfl|rfl⟩<;>rfl
 |cons c u ih=>
  rw[List.cons_append,gS,aD (hu c (by simp)),ih (fun d hd=>hu d (by simp[hd]))]
theorem vK {c:UInt8} {u y:By} (h32:c≠32) (hl:mL (c::(u++y))=u.length+1):j6 (c::u++y)=(c::u)::j6 y:=by
 show j6 (c::(u++y))=_;rw[TR h32];unfold NK;rw[hl,iX,List.drop_succ_cons,List.take_left',List.drop_left']<;>rfl
theorem IK {c:UInt8} {u y:By} (hc:dL c=true) (hu:∀c∈u,dL c=true) (hy:Bd y):j6 (c::u++y)=(c::u)::j6 y:=by
 have hn:=EX hc;refine vK hn.2.2.2.2.2.2.2.2 ?_;rw[xL,aC (fun e=>by rcases(nC c _).1 e with e|e;exact hn.1 e.1;exact hn.2.1 e.1),aD (by rw[hc];rfl)];unfold pT;rw[a4x hu hy];omega
theorem wG {w y:By} (h:dU w=true) (hy:Bd y):j6 (w++y)=w::j6 y:=by
 cases w with
 |nil=>exact absurd h (by decide)
 |cons c u=>
  simp only[dU,aF,aQ] at h;exact IK (h.2 c (by simp)) (fun d hd=>h.2 d (by simp[hd])) hy
theorem EH {c:UInt8} (h:c=40∨c=41∨c=58) (y:By):j6 (c::y)=[c]::j6 y:=by
 have hp:JR (c::y)=false:=by
  cases hp:JR (c::y) with
  |false=>rfl
  |true=>rcases(nC c y).1 hp with e|e<;>(have:=e.1;subst this;rcases h with h|h|h<;>exact absurd h (by decide))
 have hw:mL (c::([]++y))=([]:By).length+1:=by
  show mL (c::y)=1;rw[xL,hp];rcases h with rfl|rfl|rfl<;>rfl
 exact vK (by rcases h with rfl|rfl|rfl<;>decide) hw
theorem a0o {w:By} (h:oB w=true) (z:By):j6 (w++32::z)=w::j6 (32::z):=by
 simp only[oB,Z1,iJ,aJ,List.mem_cons,List.not_mem_nil,or_false] at h;rcases h with rfl|rfl|rfl|rfl|rfl|rfl
 ·exact vK (u:=[]) (by decide) rfl
 ·exact vK (u:=[62]) (by decide) rfl
 ·exact vK (u:=[]) (by decide) rfl
 ·exact vK (u:=[61]) (by decide) rfl
 ·exact vK (u:=[]) (by decide) rfl
 ·exact vK (u:=[61]) (by decide) rfl
theorem TQ {v:Val} (h:v.ok=true) {y:By} (hy:Bd y):j6 (eY v++y)=eY v::j6 y:=by
 rcases R1 h with⟨n,rfl,h1,h2⟩|⟨s,rfl⟩
 ·show j6 (Lib.itoa n++y)=Lib.itoa n::j6 y;unfold Lib.itoa;by_cases hn:n<0
  ·rw[aD hn];obtain⟨d1,d2,d3,_⟩:=uL n.natAbs;refine vK (by decide) ?_;cases hd:Lib.decDigits n.natAbs with
   |nil=>exact absurd hd d3
   |cons d r=>
    rw[hd] at d1;rw[xL,aC (fun e=>by rcases(nC 45 _).1 e with e|e<;>exact absurd e.1 (by decide)),aD (by simp[d1 d (by simp)])];unfold pT;rw[a4x (fun c hc=>vF (d1 c hc)) hy];omega
  ·rw[aC hn];obtain⟨d1,d2,d3,_⟩:=uL n.toNat;cases hd:Lib.decDigits n.toNat with
   |nil=>exact absurd hd d3
   |cons d r=>
    rw[hd] at d1;exact IK (vF (d1 d (by simp))) (fun c hc=>vF (d1 c (by simp[hc]))) hy
 ·show j6 (34::(s.flatMap nS++[34])++y)=(34::(s.flatMap nS++[34]))::j6 y;refine vK (by decide) ?_;rw[xL,aC (fun e=>by rcases(nC 34 _).1 e with e|e<;>exact absurd e.1 (by decide)),aC (by simp;decide),aD rfl,bD];show min (2+sD (s.flatMap nS++34::y)) _=_;rw[X3];simp only[aG,aI,bO,List.singleton_append];omega
theorem M0 {t:Term} (h:t.good) {y:By} (hy:Bd y):j6 (t.txt++y)=t.words++j6 y:=by
 obtain⟨name,var,v⟩:=t;rcases h with⟨h1,h2,h3,h4⟩|⟨h1,h2,h3⟩
 ·simp only at h1 h2 h3 h4;cases var with
  |true=>
   show j6 (58::(name++y))=[58]::name::j6 y;rw[EH (.inr (.inr rfl)),wG h2 hy]
  |false=>
   have e1:Term.words ⟨name,false,v⟩=[name]:=by unfold Term.words;rw[aC (by simp),aD h1]
   have e2:Term.txt ⟨name,false,v⟩=name:=by unfold Term.txt;rw[aC (by simp),aD h1]
   rw[e1,e2,wG h2 hy];rfl
 ·simp only at h1 h2 h3;subst h1;subst h2;have e2:Term.txt ⟨[],false,v⟩=eY v:=by
   show(if v.ok=true then eY v else[])=_;rw[aD h3]
  rw[e2,TQ h3 hy];rfl
def ET (b:Bool) (ws:List By):List By:=if b then[40]::(ws++[[41]]) else ws
def wOp (a:Bool):By:=if a then oS else EA
def Tree.words:Tree->List By
 |.pair a l r=>ET (decide (l.level<lL a)) l.words++wOp a::ET (decide (r.level<lL a)) r.words
 |.no t=>kX::ET (decide (t.level<4)) t.words
 |.test op l r=>l.words++op::r.words
 |.truth b=>[if b then m8 else kN]
theorem C3 {b:Bool} {p:By} {ws:List By} (h:∀y,Bd y->j6 (p++y)=ws++j6 y) {y:By} (hy:Bd y):j6 (paren b p++y)=ET b ws++j6 y:=by
 cases b with
 |false=>exact h y hy
 |true=>
  show j6 (40::(p++[41])++y)=[40]::(ws++[[41]])++j6 y;rw[List.cons_append,bD,EH (.inl rfl)];show[40]::j6 (p++41::y)=_;rw[h _ (.cl y),EH (.inr (.inl rfl))];simp
theorem xQ:∀(t:Tree),t.good->∀y,Bd y->j6 (t.plain++y)=t.words++j6 y
 |.pair a l r,h,y,hy=>by
  unfold Tree.plain Tree.words;rw[bD,bD];have e:pQ a++(paren (decide (r.level<lL a)) r.plain++y)=32::(wOp a++32::(paren (decide (r.level<lL a)) r.plain++y)):=by
   cases a<;>simp[pQ,wOp]
  rw[e,C3 (xQ l h.1) (.sp _),xP,wG (by cases a<;>decide) (.sp _),xP,C3 (xQ r h.2) hy];simp
 |.no t,h,y,hy=>by
  unfold Tree.plain Tree.words;rw[bD,bD];show j6 (kX++32::(paren (decide (t.level<4)) t.plain++y))=_;rw[wG (by decide) (.sp _),xP,C3 (xQ t h) hy];rfl
 |.test op l r,h,y,hy=>by
  unfold Tree.plain Tree.words;have e:l.txt++[32]++op++[32]++r.txt++y=l.txt++32::(op++32::(r.txt++y)):=by simp
  rw[e,M0 h.2.1 (.sp _),xP,a0o h.1,xP,M0 h.2.2 hy];simp
 |.truth b,h,y,hy=>by
  unfold Tree.plain Tree.words;exact wG (by cases b<;>decide) hy
def R (m:Md) (lv d:Nat) (ts:List By) (x:Tree×List By×Nat):Prop:=∀f,10*ts.length+m.rk<f->bU dM f m lv d ts=some x
theorem R.len {m:Md} {lv d:Nat} {ts r:List By} {t:Tree} {e:Nat} (h:R m lv d ts (t,r,e)) (hm:m.loop=false):r.length<ts.length:=(jT _ _ _ _ _ _ _ _ (h (10*ts.length+m.rk+1) (by omega))).2.1 hm
theorem R.or {lv d:Nat} {ts r:List By} {t:Tree} {e:Nat} {x:Tree×List By×Nat} (h1:R .and lv d ts (t,r,e)) (h2:R (.orL t) lv e r x):R .or lv d ts x:=fun f hf=>by
 have:=h1.len rfl;cases f with
 |zero=>omega
 |succ g=>
  unfold bU;rw[h1 g (by simp only[Md.rk] at*;omega)];exact h2 g (by simp only[Md.rk] at*;omega)
theorem R.and {lv d:Nat} {ts r:List By} {t:Tree} {e:Nat} {x:Tree×List By×Nat} (h1:R .not lv d ts (t,r,e)) (h2:R (.andL t) lv e r x):R .and lv d ts x:=fun f hf=>by
 have:=h1.len rfl;cases f with
 |zero=>omega
 |succ g=>
  unfold bU;rw[h1 g (by simp only[Md.rk] at*;omega)];exact h2 g (by simp only[Md.rk] at*;omega)
theorem R.orL {n m:Tree} {lv d:Nat} {ts r:List By} {e:Nat} {x:Tree×List By×Nat} (h1:R .and lv d ts (m,r,e)) (h2:R (.orL (.pair false n m)) lv e r x):R (.orL n) lv d (EA::ts) x:=fun f hf=>by
 have:=h1.len rfl;simp only[aI] at hf;cases f with
 |zero=>omega
 |succ g=>
  unfold bU;rw[aD (show(EA::ts).headD []=EA from rfl)];show(match bU dM g .and lv d ts with|some (m,r,e)=>_|none=>_)=_;rw[h1 g (by simp only[Md.rk] at*;omega)];exact h2 g (by simp only[Md.rk] at*;omega)
theorem R.andL {n m:Tree} {lv d:Nat} {ts r:List By} {e:Nat} {x:Tree×List By×Nat} (h1:R .not lv d ts (m,r,e)) (h2:R (.andL (.pair true n m)) lv e r x):R (.andL n) lv d (oS::ts) x:=fun f hf=>by
 have:=h1.len rfl;simp only[aI] at hf;cases f with
 |zero=>omega
 |succ g=>
  unfold bU;rw[aD (show(oS::ts).headD []=oS from rfl)];show(match bU dM g .not lv d ts with|some (m,r,e)=>_|none=>_)=_;rw[h1 g (by simp only[Md.rk] at*;omega)];exact h2 g (by simp only[Md.rk] at*;omega)
theorem R.orS {n:Tree} {lv d:Nat} {ts:List By} (h:ts.headD []≠EA):R (.orL n) lv d ts (n,ts,d):=fun f hf=>by
 cases f with
 |zero=>omega
 |succ g=>unfold bU;rw[aC h]
theorem R.andS {n:Tree} {lv d:Nat} {ts:List By} (h:ts.headD []≠oS):R (.andL n) lv d ts (n,ts,d):=fun f hf=>by
 cases f with
 |zero=>omega
 |succ g=>unfold bU;rw[aC h]
theorem R.not1 {n:Tree} {lv d:Nat} {ts r:List By} {e:Nat} (h:R .prim (lv+1) (max d (lv+1)) ts (n,r,e)):R .not lv d (kX::ts) (.no n,r,e):=fun f hf=>by
 simp only[aI] at hf;cases f with
 |zero=>omega
 |succ g=>
  unfold bU;rw[aD (show(kX::ts).headD []=kX from rfl)];show(match bU dM g .prim (lv+1) (max d (lv+1)) ts with|some (n,r,e)=>_|none=>_)=_;rw[h g (by simp only[Md.rk] at*;omega)]
theorem R.not0 {lv d:Nat} {ts:List By} {x:Tree×List By×Nat} (hn:ts.headD []≠kX) (h:R .prim lv d ts x):R .not lv d ts x:=fun f hf=>by
 cases f with
 |zero=>omega
 |succ g=>
  unfold bU;rw[aC hn];exact h g (by simp only[Md.rk] at*;omega)
theorem R.paren {n:Tree} {lv d:Nat} {ts r:List By} {e:Nat} (h:R .or (lv+1) (max d (lv+1)) ts (n,[41]::r,e)):R .prim lv d ([40]::ts) (n,r,e):=fun f hf=>by
 simp only[aI] at hf;cases f with
 |zero=>omega
 |succ g=>
  unfold bU;rw[aC (show¬([40]::ts).headD []=m8 by show¬([40]:By)=m8;decide),aC (show¬([40]::ts).headD []=kN by show¬([40]:By)=kN;decide),aD (show([40]::ts).headD []=[40] from rfl)];show(match bU dM g .or (lv+1) (max d (lv+1)) ts with|some (n,r,e)=>_|none=>_)=_;rw[h g (by simp only[Md.rk] at*;omega)];show(if([41]:By)=[41] then some (n,r,e) else none)=_;rw[aD rfl]
theorem R.truth {b:Bool} {lv d:Nat} {r:List By}:R .prim lv d ((if b then m8 else kN)::r) (.truth b,r,d):=fun f hf=>by
 cases f with
 |zero=>omega
 |succ g=>
  unfold bU;cases b with
  |true=>rw[aD (show List.headD ((if true=true then m8 else kN)::r) []=m8 from rfl)];rfl
  |false=>
   rw[aC (show¬List.headD ((if false=true then m8 else kN)::r) []=m8 by show¬kN=m8;decide),aD (show List.headD ((if false=true then m8 else kN)::r) []=kN from rfl)];rfl
theorem I4 {t:Term} (h:t.good) (r:List By):(t.words++r).headD []≠m8/\(t.words++r).headD []≠kN/\(t.words++r).headD []≠[40]/\(t.words++r).headD []≠kX:=by
 obtain⟨name,var,v⟩:=t;rcases h with⟨h1,h2,h3,h4⟩|⟨h1,h2,h3⟩
 ·simp only at h1 h2 h3 h4;cases var with
  |true=>
   show([58]:By)≠_/\([58]:By)≠_/\([58]:By)≠_/\([58]:By)≠_;exact⟨by decide,by decide,by decide,by decide⟩
  |false=>
   have e1:Term.words ⟨name,false,v⟩=[name]:=by unfold Term.words;rw[aC (by simp),aD h1]
   rw[e1];show name≠_/\name≠_/\name≠_/\name≠_;refine⟨?_,?_,?_,?_⟩<;>rintro rfl
   ·exact absurd h3 (by decide)
   ·exact absurd h3 (by decide)
   ·exact absurd h2 (by decide)
   ·exact absurd h3 (by decide)
 ·simp only at h1 h2 h3;subst h1;subst h2;show eY v≠_/\eY v≠_/\eY v≠_/\eY v≠_;have hl:=GA h3;exact⟨JM hl (by decide),JM hl (by decide),JM hl (by decide),JM hl (by decide)⟩
theorem R.test {op:By} {a b:Term} {lv d:Nat} {r:List By} (ho:oB op=true) (ha:a.good) (hb:b.good):R .prim lv d (a.words++op::(b.words++r)) (.test op a b,r,d):=fun f hf=>by
 obtain⟨h1,h2,h3,_⟩:=I4 ha (op::(b.words++r));cases f with
 |zero=>omega
 |succ g=>
  unfold bU;rw[aC h1,aC h2,aC h3,FZ ha];show(if oB op=true then(match iB dM (b.words++r) with|some (b,r')=>some (Tree.test op a b,r',d)|none=>none) else none)=_;rw[aD ho,FZ hb]
theorem sG (t:Tree) (k:Nat):t.deep k=(if t.level<k then 1 else 0)+t.deep 0:=by
 cases t with
 |pair a l r=>
  show(if lL a<k then 1 else 0)+max (l.deep (lL a)) (r.deep (lL a))=(if lL a<k then 1 else 0)+((if lL a<0 then 1 else 0)+max (l.deep (lL a)) (r.deep (lL a)));rw[aC (show¬lL a<0 by omega)];omega
 |no t=>
  show(if 3<k then 1 else 0)+1+t.deep 4=(if 3<k then 1 else 0)+((if 3<0 then 1 else 0)+1+t.deep 4);rw[aC (show¬3<0 by omega)];omega
 |test _ _ _=>
  show(if 4<k then 1 else 0)=(if 4<k then 1 else 0)+(if 4<0 then 1 else 0);rw[aC (show¬4<0 by omega)];omega
 |truth _=>
  show(if 4<k then 1 else 0)=(if 4<k then 1 else 0)+(if 4<0 then 1 else 0);rw[aC (show¬4<0 by omega)];omega
theorem t7 (t:Tree):1<=t.level:=by
 cases t with
 |pair a l r=>cases a<;>exact bL rfl
 |_=>exact bL rfl
def RD (t:Tree):Prop:=∀lv d rest,lv<=d->R .prim lv d (ET (decide (t.level<4)) t.words++rest) (t,rest,max d (lv+t.deep 4))
def RC (t:Tree):Prop:=∀lv d rest,lv<=d->R .not lv d (ET (decide (t.level<3)) t.words++rest) (t,rest,max d (lv+t.deep 3))
def RB (t:Tree):Prop:=∀lv d rest x,lv<=d->R (.andL t) lv (max d (lv+t.deep 2)) rest x->R .and lv d (ET (decide (t.level<2)) t.words++rest) x
def RA (t:Tree):Prop:=∀lv d rest x,lv<=d->rest.headD []≠oS->R (.orL t) lv (max d (lv+t.deep 1)) rest x->R .or lv d (t.words++rest) x
theorem RB.of {t:Tree} (h:RC t) (hl:t.level≠2):RB t:=fun lv d rest x hd hx=>by
 have h':=h lv d rest hd;have e1:decide (t.level<3)=decide (t.level<2):=by
  rw[decide_eq_decide];omega
 have e2:t.deep 3=t.deep 2:=by
  rw[sG t 3,sG t 2];by_cases h2:t.level<2
  ·rw[aD h2,aD (by omega)]
  ·rw[aC h2,aC (by omega)]
 rw[e1,e2] at h';exact R.and h' hx
theorem RA.of {t:Tree} (h:RB t) (hl:t.level≠1):RA t:=fun lv d rest x hd hr hx=>by
 have hp:=t7 t;have h':=h lv d rest (t,rest,max d (lv+t.deep 2)) hd (R.andS hr);have e1:decide (t.level<2)=false:=by rw[bV];omega
 have e2:t.deep 2=t.deep 1:=by
  rw[sG t 2,sG t 1,aC (by omega),aC (by omega)]
 rw[e1,e2] at h';exact R.or h' hx
theorem RA.paren {t:Tree} (h:RA t) (lv d:Nat) (rest:List By) (hd:lv<=d):R .prim lv d ([40]::(t.words++[[41]])++rest) (t,rest,max d (lv+(1+t.deep 0))):=by
 have h1:=h (lv+1) (max d (lv+1)) ([41]::rest) (t,[41]::rest,max (max d (lv+1)) (lv+1+t.deep 1)) (by omega) (by show¬([41]:By)=oS;decide) (R.orS (by show¬([41]:By)=EA;decide));have hp:=t7 t;have e:t.deep 1=t.deep 0:=by rw[sG t 1,aC (by omega)];omega
 rw[e,show max (max d (lv+1)) (lv+1+t.deep 0)=max d (lv+(1+t.deep 0)) by omega] at h1;have h2:=R.paren h1;simpa using h2
theorem RD.of {t:Tree} (h:RA t) (hl:t.level<4):RD t:=fun lv d rest hd=>by
 have:=h.paren lv d rest hd;rw[sG t 4,aD hl,show decide (t.level<4)=true from bC hl];exact this
theorem RC.of {t:Tree} (h:RA t) (hl:t.level<3):RC t:=fun lv d rest hd=>by
 have:=h.paren lv d rest hd;rw[sG t 3,aD hl,show decide (t.level<3)=true from bC hl];exact R.not0 (by show¬([40]:By)=kX;decide) this
theorem RB.paren {t:Tree} (h:RA t) (hl:t.level<2):RB t:=RB.of (RC.of h (by omega)) (by omega)
theorem EO:∀(t:Tree),t.good->qW t->RD t/\RC t/\RB t/\RA t
 |.truth b,_,_=>by
  have hD:∀lv d rest,lv<=d->R .prim lv d ([if b then m8 else kN]++rest) (.truth b,rest,max d (lv+0)):=fun lv d rest hd=>by
   rw[show max d (lv+0)=d by omega];exact R.truth
  have hC:RC (.truth b):=fun lv d rest hd=>R.not0 (by
   show(if b then m8 else kN)≠kX;cases b<;>decide) (hD lv d rest hd)
  have hB:=RB.of hC (show¬4=2 by decide);exact⟨hD,hC,hB,RA.of hB (show¬4=1 by decide)⟩
 |.test op a b,hg,_=>by
  have hD:∀lv d rest,lv<=d->R .prim lv d ((a.words++op::b.words)++rest) (.test op a b,rest,max d (lv+0)):=fun lv d rest hd=>by
   rw[show max d (lv+0)=d by omega,bD];exact R.test hg.1 hg.2.1 hg.2.2
  have hC:RC (.test op a b):=fun lv d rest hd=>R.not0 (by
   show((a.words++op::b.words)++rest).headD []≠_;rw[bD];exact(I4 hg.2.1 _).2.2.2) (hD lv d rest hd)
  have hB:=RB.of hC (show¬4=2 by decide);exact⟨hD,hC,hB,RA.of hB (show¬4=1 by decide)⟩
 |.no t,hg,hf=>by
  obtain⟨iD,_⟩:=EO t hg hf;have hC:RC (.no t):=fun lv d rest hd=>by
   have h1:=iD (lv+1) (max d (lv+1)) rest (by omega);show R .not lv d (kX::(ET (decide (t.level<4)) t.words++rest)) (.no t,rest,max d (lv+((if 3<3 then 1 else 0)+1+t.deep 4)));rw[aC (by decide),show max d (lv+(0+1+t.deep 4))=max (max d (lv+1)) (lv+1+t.deep 4) by omega];exact R.not1 h1
  have hB:=RB.of hC (show¬3=2 by decide);have hA:=RA.of hB (show¬3=1 by decide);exact⟨RD.of hA (show 3<4 by decide),hC,hB,hA⟩
 |.pair true l r,hg,hf=>by
  obtain⟨_,_,lB,_⟩:=EO l hg.1 hf.1;obtain⟨_,rC,_,_⟩:=EO r hg.2 hf.2.1;have hr2:r.level≠2:=by
   have:=hf.2.2;cases r with
   |pair c _ _=>cases c with
    |true=>cases this
    |false=>exact fun h=>absurd h (show¬1=2 by decide)
   |_=>exact fun h=>by cases h
  have hB:RB (.pair true l r):=fun lv d rest x hd hx=>by
   have e1:decide (r.level<3)=decide (r.level<2):=by
    rw[decide_eq_decide];omega
   have e2:r.deep 3=r.deep 2:=by
    rw[sG r 3,sG r 2];by_cases h2:r.level<2
    ·rw[aD h2,aD (by omega)]
    ·rw[aC h2,aC (by omega)]
   have hr:=rC lv (max d (lv+l.deep 2)) rest (by omega);rw[e1,e2] at hr;have hl:=lB lv d (oS::(ET (decide (r.level<2)) r.words++rest)) x hd (R.andL hr (by
    have e3:(Tree.pair true l r).deep 2=max (l.deep 2) (r.deep 2):=by
     show(if lL true<2 then 1 else 0)+max (l.deep 2) (r.deep 2)=_;rw[aC (show¬lL true<2 by decide)];omega
    rw[e3] at hx;rw[show max (max d (lv+l.deep 2)) (lv+r.deep 2)=max d (lv+max (l.deep 2) (r.deep 2)) by omega];exact hx))
   show R .and lv d ((ET (decide (l.level<2)) l.words++oS::ET (decide (r.level<2)) r.words)++rest) x;rw[bD];exact hl
  have hA:=RA.of hB (show¬2=1 by decide);exact⟨RD.of hA (show 2<4 by decide),RC.of hA (show 2<3 by decide),hB,hA⟩
 |.pair false l r,hg,hf=>by
  obtain⟨_,_,_,lA⟩:=EO l hg.1 hf.1;obtain⟨_,_,rB,_⟩:=EO r hg.2 hf.2.1;have hr2:¬r.level<2:=by
   have:=hf.2.2;cases r with
   |pair c _ _=>cases c with
    |false=>cases this
    |true=>exact fun h=>absurd h (show¬2<2 by decide)
   |no _=>exact(show¬3<2 by decide)
   |_=>exact(show¬4<2 by decide)
  have hA:RA (.pair false l r):=fun lv d rest x hd hh hx=>by
   have hl1:=t7 l;have hr1:=t7 r;have e0:decide (r.level<2)=false:=bN hr2;have e2:r.deep 2=r.deep 1:=by
    rw[sG r 2,sG r 1,aC hr2,aC (by omega)]
   have hr:=rB lv (max d (lv+l.deep 1)) rest (r,rest,max (max d (lv+l.deep 1)) (lv+r.deep 2)) (by omega) (R.andS hh);rw[e0,e2] at hr;have hl:=lA lv d (EA::(r.words++rest)) x hd (by show¬EA=oS;decide) (R.orL hr (by
    have e3:(Tree.pair false l r).deep 1=max (l.deep 1) (r.deep 1):=by
     show(if lL false<1 then 1 else 0)+max (l.deep 1) (r.deep 1)=_;rw[aC (show¬lL false<1 by decide)];omega
    rw[e3] at hx;rw[show max (max d (lv+l.deep 1)) (lv+r.deep 1)=max d (lv+max (l.deep 1) (r.deep 1)) by omega];exact hx))
   show R .or lv d ((ET (decide (l.level<1)) l.words++EA::ET (decide (r.level<1)) r.words)++rest) x;rw[bD,show decide (l.level<1)=false from bN (by omega),show decide (r.level<1)=false from bN (by omega)];exact hl
  exact⟨RD.of hA (show 1<4 by decide),RC.of hA (show 1<3 by decide),RB.paren hA (show 1<2 by decide),hA⟩
theorem U7 {u:Tree} (hg:u.good) (hf:qW u) (hl:u.plain.length<=1000):iP u.plain=if 20<u.deep 0 then .err 4 else .ok u:=by
 have ht:j6 u.plain=u.words:=by
  have:=xQ u hg [] (.inl rfl);rw[f5,lI (l:=[]) rfl,f5] at this;exact this
 have hA:=(EO u hg hf).2.2.2 0 0 [] (u,[],max 0 (0+u.deep 1)) (rL _) (by decide) (R.orS (by decide));rw[f5] at hA;have hlen:=wH u.plain.length u.plain (rL _);rw[ht] at hlen;have hp:=hA (kM u.plain) (by unfold kM;simp only[Md.rk];omega);have hv:=t7 u;unfold iP;rw[aC (by omega),ht,hp];simp only[List.headD_nil,beq_self_eq_true,f7];have e1:max 0 (0+u.deep 1)=u.deep 0:=by rw[sG u 1,aC (by omega)];omega
 rw[e1,XW hf]
theorem J3 {s:By} {t:Tree} (h:iP s=.ok t):t.good/\qW t:=by
 unfold iP at h;split at h
 ·cases h
 ·split at h
  ·rename_i t0 r e hp;split at h
   ·split at h
    ·cases h
    ·cases h;exact⟨N6 (kL _ _ _ _ _ _ _ _ hp trivial),PI t0⟩
   ·cases h
  ·cases h
theorem mS {s:By} {t:Tree} (h:jH s=.ok t):t.good:=by
 unfold jH at h;rw[show jQ=dM from funext HO] at h;split at h
 ·cases h
 ·split at h
  ·cases h
  ·split at h
   ·rename_i t0 r e hp;split at h
    ·split at h
     ·cases h
     ·cases h;exact kL _ _ _ _ _ _ _ _ hp trivial
    ·cases h
   ·cases h
def yW (t:Tree):By×Int:=if 1000<t.flat.plain.length then([],4) else match jH t.flat.plain with
 |.ok _=>(t.flat.plain,0)
 |.err _=>([],4)
theorem IJ {t:Tree} (h:t.good):yW t=xZ t:=by
 unfold yW xZ;by_cases h1:1000<t.flat.plain.length
 ·rw[aD h1,aD (.inl h1)]
 ·rw[aC h1];have hr:=rO t.flat.plain;rw[U7 (N6 h) (PI t) (by omega)] at hr;by_cases h2:20<t.flat.deep 0
  ·rw[aD (.inr h2)];rw[aD h2] at hr;cases hx:jH t.flat.plain with
   |ok u=>rw[hx] at hr;cases hr
   |err e=>rfl
  ·rw[aC (fun h=>h.elim h1 h2)];rw[aC h2] at hr;cases hx:jH t.flat.plain with
   |ok u=>rfl
   |err e=>rw[hx] at hr;cases hr
def Q9 (s:By):By×Int:=match jH s with
 |.ok t=>yW t
 |.err e=>([],e)
theorem a14 (s:By):Q9 s=yX s:=by
 unfold Q9 yX;have hr:=rO s;cases hx:jH s with
 |err e=>rw[hx] at hr;rw[hr]
 |ok t=>
  rw[hx] at hr;rw[hr];simp only;rw[IJ (mS hx)];unfold xZ;rw[FM]
theorem a1b [MaxL] (t:Term) (h:t.good):SC Tryz.prog 299 [.agg (Q1 t)] [] (.val (.s t.txt)) []:=by
 obtain⟨nm,vr,v⟩:=t;have h16:nm.length<=16:=by
  rcases h with⟨_,h2,_⟩|⟨h1,_⟩
  ·simp only at h2;cases nm with
   |nil=>simp
   |cons c u=>
    simp only[dU,aF,aJ] at h2;exact h2.1.1
  ·simp only at h1;rw[h1];simp
 cases vr with
 |true=>
  have hn:nm≠[]:=by
   rcases h with⟨h1,_⟩|⟨_,h2,_⟩
   ·exact h1
   ·cases h2
  refine cO Tryz.func299 rfl ?_;conv=>whnf
  apply gM<;>intro h1<;>conv=>whnf
  ·refine⟨by show 1+nm.length<4611686018427387904;omega,58::nm,rfl,?_⟩;(conv=>whnf);exact gO rfl
  ·exact absurd (by simpa using h1) hn
 |false=>
  by_cases hn:nm=[]
  ·subst hn;have hv:v.ok=true:=by
    rcases h with⟨h1,_⟩|⟨_,_,h3⟩
    ·exact absurd rfl h1
    ·exact h3
   obtain⟨b0,b1,b2⟩:=MJ hv;have hw:=Z6 v (by omega) (by omega) (by omega);have e:Term.txt ⟨[],false,v⟩=eY v:=by
    show(if v.ok=true then eY v else[])=_;rw[aD hv]
   rw[e];refine cO Tryz.func299 rfl ?_;(conv=>whnf);refine mG hw (.s _) ?_;(conv=>whnf);exact gO rfl
  ·have e:Term.txt ⟨nm,false,v⟩=nm:=by
    show(if nm≠[] then nm else _)=_;rw[aD hn]
   rw[e];refine cO Tryz.func299 rfl ?_;(conv=>whnf);apply gM<;>intro h1<;>conv=>whnf
   ·exact gO rfl
   ·exact absurd (by simpa using h1) hn
theorem y8 (t:Tree):t.flat.level=t.level:=by
 cases t with
 |pair b l r=>
  rw[BE b];unfold dA;rw[aD rfl];obtain⟨x,y,e⟩:=yK b r (dA b none l);rw[e];rfl
 |_=>rfl
def kp (a:Bool) (y:Tree):By:=paren (decide (y.level<lL a)) y.flat.plain
def wj (a:Bool):List Tree->By
 |[]=>[]
 |x::xs=>xs.foldl (fun s y=>s++pQ a++kp a y) (kp a x)
theorem KP (a:Bool):∀(xs:List Tree) (q:Tree),¬q.level<lL a->(xs.foldl (fun q y=>Tree.pair a q y.flat) q).plain=xs.foldl (fun s y=>s++pQ a++kp a y) q.plain
 |[],q,_=>rfl
 |y::ys,q,h=>by
  rw[eV,eV,KP a ys (.pair a q y.flat) (by show¬lL a<lL a;omega)];congr 1;show paren (decide (q.level<lL a)) q.plain++pQ a++paren (decide (y.flat.level<lL a)) y.flat.plain=_;rw[bN h,y8];rfl
theorem QV (a:Bool) (l r:Tree):(Tree.pair a l r).flat.plain=wj a ((Tree.pair a l r).sides a):=by
 obtain⟨x,xs,h1,h2⟩:=FJ a l r;rw[h1,h2];have hlen:2<=(x::xs).length:=by
  rw[<-h1];have e:(Tree.pair a l r).sides a=l.sides a++r.sides a:=aD rfl;rw[e,aG];have h1:=List.length_pos_iff.2 (tR a l);have h2:=List.length_pos_iff.2 (tR a r);omega
 cases xs with
 |nil=>simp at hlen
 |cons y ys=>
  rw[eV,KP a ys (.pair a x.flat y.flat) (by show¬lL a<lL a;omega)];show _=ys.foldl _ (kp a x++pQ a++kp a y);congr 1;show paren (decide (x.flat.level<lL a)) x.flat.plain++pQ a++paren (decide (y.flat.level<lL a)) y.flat.plain=_;rw[y8,y8];rfl
theorem NM {a:Bool} {L:List Tree} {i:Nat} {y:Tree} (h:L[i]?=some y):wj a (L.take (i+1))=(if i=0 then[] else wj a (L.take i)++pQ a)++kp a y:=by
 rw[aT,h];cases L with
 |nil=>cases h
 |cons x xs=>
  cases i with
  |zero=>simp at h;subst h;rfl
  |succ i=>
   rw[aC (by omega)];show wj a (x::xs.take i++[y])=wj a (x::xs.take i)++pQ a++kp a y;show(xs.take i++[y]).foldl _ _=_;rw[k6];rfl
theorem XV (a:Bool):∀(xs:List Tree) (s:By),s.length<=(xs.foldl (fun s y=>s++pQ a++kp a y) s).length
 |[],s=>rL _
 |y::ys,s=>by
  have:=XV a ys (s++pQ a++kp a y);rw[eV];simp only[aG] at this⊢;omega
theorem a7A (a:Bool) (L:List Tree) (i:Nat):(wj a (L.take i)).length<=(wj a L).length:=by
 cases L with
 |nil=>simp
 |cons x xs=>
  cases i with
  |zero=>simp[wj]
  |succ i=>
   have h1:wj a (x::xs)=(xs.drop i).foldl (fun s y=>s++pQ a++kp a y) (wj a (x::xs.take i)):=by
    show xs.foldl (fun s y=>s++pQ a++kp a y) (kp a x)=(xs.drop i).foldl _ ((xs.take i).foldl (fun s y=>s++pQ a++kp a y) (kp a x));rw[<-k6,j4]
   rw[h1];exact XV a _ _
theorem a5B {a:Bool} {L:List Tree} {i:Nat} {y:Tree} (h:L[i]?=some y):(wj a (L.take i)).length+(if i=0 then 0 else(pQ a).length)+(kp a y).length<=(wj a L).length:=by
 have h1:=a7A a L (i+1);rw[NM h] at h1;split at h1
 ·rename_i h0;subst h0;rw[aD rfl];simp only[List.take_zero,wj,bO,List.nil_append] at h1⊢;omega
 ·rename_i h0;rw[aC h0];simp only[aG] at h1;omega
set_option maxHeartbeats 1000000 in
theorem a1a [MaxL] (L:List Tree) (hL:L.length<=100000) (hb:(wj true L).length<1000000) (hc:∀y∈L,SC Tryz.prog 261 [y.ng] [] (.val (.s y.flat.plain)) []):
  SC Tryz.prog 261 [.agg (kH 2 (j3 L) t0 t0 [] false)] [] (.val (.s (wj true L))) []:=by
 have hnl:(j3 L).length=L.length:=dT L;refine cO Tryz.func261 rfl ?_;conv=>whnf
 refine dH (fun q:Nat×By=>q.1<=L.length/\wj true (L.take q.1)=q.2) (fun q=>[(1,.ptr 0 0),(4,.s q.2),(5,.i .i64 (q.1:Nat))]) (fun _=>⟨[.box 169 (kH 2 (j3 L) t0 t0 [] false)],0,[]⟩) (fun q=>L.length - q.1) (0,[]) ⟨zL _,rfl⟩ ⟨rfl,rfl,rfl,trivial⟩ rfl (fun _ _=>rL _) (fun q _=>rfl) (fun q _ e he=>?_) (fun q φ0 hi=>?_)
 ·refine⟨?_,rfl,?_⟩
  ·show[(GObj.box _ (kH 2 (j3 L) t0 t0 [] false)).ren e]=_;rw[dW (qP (pH L) t0 t0 [] false) e]
  ·show[GV.ptr (e 0) 0,_,_]=_;rw[he 0 (by simp)];rfl
 obtain⟨i,S⟩:=q;obtain⟨hi,hSd⟩:=hi;replace hi:i<=L.length:=hi;replace hSd:wj true (L.take i)=S:=hSd;conv=>whnf
 apply gM<;>intro h<;>conv=>whnf
 rotate_left
 ·have hie:i=L.length:=by have:=aA h;omega
  refine gO ?_;rw[hie,aV] at hSd;exact hSd.symm
 have hlt:i<L.length:=by have:=aB h;omega
 obtain⟨y,hy⟩:∃y,L[i]?=some y:=⟨L[i],gL hlt⟩;have hgy:(j3 L)[i]?=some (.agg y.ncs):=by unfold j3;rw[aK,hy];rfl
 have hcy:=hc y (aE hy);have hcl:Cl (.agg y.ncs):=y.ng_cl;have hsucc:=NM (a:=true) hy;have hkp:=a5B (a:=true) hy;replace hcy:SC Tryz.prog 261 [.agg y.ncs] [] (.val (.s y.flat.plain)) []:=hcy;have hform:∃k kids A B op yes,y.ncs=kH k kids A B op yes/\(k=1->kp true y=40::(y.flat.plain++[41]))/\(k≠1->kp true y=y.flat.plain):=by
  cases y with
  |pair b l r=>
   refine⟨_,_,_,_,_,_,rS b l r,fun h=>?_,fun h=>?_⟩
   ·cases b with
    |true=>cases h
    |false=>rfl
   ·cases b with
    |true=>rfl
    |false=>exact absurd rfl h
  |no t=>exact⟨_,_,_,_,_,_,a1r t,(fun h=>absurd h (by decide)),(fun h=>rfl)⟩
  |test op l r=>exact⟨_,_,_,_,_,_,R6 op l r,(fun h=>absurd h (by decide)),(fun h=>rfl)⟩
  |truth b=>exact⟨_,_,_,_,_,_,MO b,(fun h=>absurd h (by decide)),(fun h=>rfl)⟩
 obtain⟨k,kids,A,B,op,yes,hncs,hk1,hk2⟩:=hform;rw[hncs] at hgy hcy hcl;generalize kp true y=K at*;generalize y.flat.plain=X at*;rw[hSd] at hsucc hkp;clear hncs hy;apply gM<;>intro hi0<;>conv=>whnf
 ·have hi0':i≠0:=by have:=aB hi0;omega
  rw[aC hi0'] at hsucc hkp;have e5:(pQ true).length=5:=rfl;refine⟨by show S.length+5<4611686018427387904;omega,S++pQ true,rfl,?_⟩;conv=>whnf
  apply gM<;>intro hi1<;>conv=>whnf
  rotate_left
  ·rw[hi0] at hi1;cases hi1
  refine⟨jR _,.agg (kH k kids A B op yes),by rw[aL];exact hgy,rfl,?_⟩;conv=>whnf
  apply gM<;>intro hk<;>conv=>whnf
  ·skip;have h9:(k:Int)=1:=by simpa using hk
   have hK:=hk1 (by omega);rw[hK] at hsucc hkp;refine⟨by show(S++pQ true).length+(([40]:By)).length<4611686018427387904;simp only[aG,aI,bO] at*;omega,S++pQ true++([40]:By),rfl,?_⟩;(conv=>whnf);refine⟨jR _,.agg (kH k kids A B op yes),by rw[aL];exact hgy,rfl,?_⟩;(conv=>whnf);refine bT hcy (wR _) rfl (cC hcl .nil) (.s _) ?_;(conv=>whnf);refine⟨by show(S++pQ true++([40]:By)).length+(X).length<4611686018427387904;simp only[aG,aI,bO] at*;omega,S++pQ true++([40]:By)++X,rfl,?_⟩;(conv=>whnf);refine⟨by show(S++pQ true++([40]:By)++X).length+(([41]:By)).length<4611686018427387904;simp only[aG,aI,bO] at*;omega,S++pQ true++([40]:By)++X++([41]:By),rfl,?_⟩;(conv=>whnf);have hfin:wj true (L.take (i+1))=S++pQ true++([40]:By)++X++([41]:By):=by rw[hsucc];simp
   exact⟨L.length - (i+1),(by show _<L.length - i;omega),(i+1,_),⟨hlt,hfin⟩,rfl,⟨rfl,rfl,bH (by omega),trivial⟩,[],rfl,rfl⟩
  ·skip;have h9:¬(k:Int)=1:=by simpa using hk
   have hK:=hk2 (by omega);rw[hK] at hsucc hkp;refine⟨jR _,.agg (kH k kids A B op yes),by rw[aL];exact hgy,rfl,?_⟩;(conv=>whnf);refine bT hcy (wR _) rfl (cC hcl .nil) (.s _) ?_;(conv=>whnf);refine⟨by show(S++pQ true).length+(X).length<4611686018427387904;simp only[aG,aI,bO] at*;omega,S++pQ true++X,rfl,?_⟩;(conv=>whnf);have hfin:wj true (L.take (i+1))=S++pQ true++X:=by rw[hsucc]
   exact⟨L.length - (i+1),(by show _<L.length - i;omega),(i+1,_),⟨hlt,hfin⟩,rfl,⟨rfl,rfl,bH (by omega),trivial⟩,[],rfl,rfl⟩
 ·have hi0':i=0:=by have:=aA hi0;omega
  rw[aD hi0'] at hsucc hkp;have hS:S=[]:=by rw[<-hSd,hi0'];rfl
  rw[List.nil_append] at hsucc;apply gM<;>intro hi1<;>conv=>whnf
  ·rw[hi0] at hi1;cases hi1
  refine⟨jR _,.agg (kH k kids A B op yes),by rw[aL];exact hgy,rfl,?_⟩;conv=>whnf
  apply gM<;>intro hk<;>conv=>whnf
  ·skip;have h9:(k:Int)=1:=by simpa using hk
   have hK:=hk1 (by omega);rw[hK] at hsucc hkp;refine⟨by show(S).length+(([40]:By)).length<4611686018427387904;simp only[aG,aI,bO] at*;omega,S++([40]:By),rfl,?_⟩;(conv=>whnf);refine⟨jR _,.agg (kH k kids A B op yes),by rw[aL];exact hgy,rfl,?_⟩;(conv=>whnf);refine bT hcy (wR _) rfl (cC hcl .nil) (.s _) ?_;(conv=>whnf);refine⟨by show(S++([40]:By)).length+(X).length<4611686018427387904;simp only[aG,aI,bO] at*;omega,S++([40]:By)++X,rfl,?_⟩;(conv=>whnf);refine⟨by show(S++([40]:By)++X).length+(([41]:By)).length<4611686018427387904;simp only[aG,aI,bO] at*;omega,S++([40]:By)++X++([41]:By),rfl,?_⟩;(conv=>whnf);have hfin:wj true (L.take (i+1))=S++([40]:By)++X++([41]:By):=by rw[hsucc];rw[hS];rfl
   exact⟨L.length - (i+1),(by show _<L.length - i;omega),(i+1,_),⟨hlt,hfin⟩,rfl,⟨rfl,rfl,bH (by omega),trivial⟩,[],rfl,rfl⟩
  ·skip;have h9:¬(k:Int)=1:=by simpa using hk
   have hK:=hk2 (by omega);rw[hK] at hsucc hkp;refine⟨jR _,.agg (kH k kids A B op yes),by rw[aL];exact hgy,rfl,?_⟩;(conv=>whnf);refine bT hcy (wR _) rfl (cC hcl .nil) (.s _) ?_;(conv=>whnf);refine⟨by show(S).length+(X).length<4611686018427387904;simp only[aG,aI,bO] at*;omega,S++X,rfl,?_⟩;(conv=>whnf);have hfin:wj true (L.take (i+1))=S++X:=by rw[hsucc];rw[hS];rfl
   exact⟨L.length - (i+1),(by show _<L.length - i;omega),(i+1,_),⟨hlt,hfin⟩,rfl,⟨rfl,rfl,bH (by omega),trivial⟩,[],rfl,rfl⟩
set_option maxHeartbeats 1000000 in
theorem a3u [MaxL] (L:List Tree) (hL:L.length<=100000) (hb:(wj false L).length<1000000) (hc:∀y∈L,SC Tryz.prog 261 [y.ng] [] (.val (.s y.flat.plain)) []):
  SC Tryz.prog 261 [.agg (kH 1 (j3 L) t0 t0 [] false)] [] (.val (.s (wj false L))) []:=by
 have hnl:(j3 L).length=L.length:=dT L;refine cO Tryz.func261 rfl ?_;conv=>whnf
 refine dH (fun q:Nat×By=>q.1<=L.length/\wj false (L.take q.1)=q.2) (fun q=>[(1,.ptr 0 0),(4,.s q.2),(5,.i .i64 (q.1:Nat))]) (fun _=>⟨[.box 169 (kH 1 (j3 L) t0 t0 [] false)],0,[]⟩) (fun q=>L.length - q.1) (0,[]) ⟨zL _,rfl⟩ ⟨rfl,rfl,rfl,trivial⟩ rfl (fun _ _=>rL _) (fun q _=>rfl) (fun q _ e he=>?_) (fun q φ0 hi=>?_)
 ·refine⟨?_,rfl,?_⟩
  ·show[(GObj.box _ (kH 1 (j3 L) t0 t0 [] false)).ren e]=_;rw[dW (qP (pH L) t0 t0 [] false) e]
  ·show[GV.ptr (e 0) 0,_,_]=_;rw[he 0 (by simp)];rfl
 obtain⟨i,S⟩:=q;obtain⟨hi,hSd⟩:=hi;replace hi:i<=L.length:=hi;replace hSd:wj false (L.take i)=S:=hSd;conv=>whnf
 apply gM<;>intro h<;>conv=>whnf
 rotate_left
 ·have hie:i=L.length:=by have:=aA h;omega
  refine gO ?_;rw[hie,aV] at hSd;exact hSd.symm
 have hlt:i<L.length:=by have:=aB h;omega
 obtain⟨y,hy⟩:∃y,L[i]?=some y:=⟨L[i],gL hlt⟩;have hgy:(j3 L)[i]?=some (.agg y.ncs):=by unfold j3;rw[aK,hy];rfl
 have hcy:=hc y (aE hy);have hcl:Cl (.agg y.ncs):=y.ng_cl;have hsucc:=NM (a:=false) hy;have hkp:=a5B (a:=false) hy;replace hcy:SC Tryz.prog 261 [.agg y.ncs] [] (.val (.s y.flat.plain)) []:=hcy;have hK:kp false y=y.flat.plain:=by
  unfold kp paren;rw[aC];have:=t7 y;show¬decide (y.level<1)=true;simp;omega
 obtain⟨k,kids,A,B,op,yes,hng⟩:=fL y;have hncs:y.ncs=kH k kids A B op yes:=by
  have h9:GV.agg y.ncs=GV.agg (kH k kids A B op yes):=hng;injection h9
 rw[hncs] at hgy hcy hcl;rw[hK] at hsucc hkp;clear hK hng;generalize y.flat.plain=X at*;rw[hSd] at hsucc hkp;clear hncs hy;apply gM<;>intro hi0<;>conv=>whnf
 ·have hi0':i≠0:=by have:=aB hi0;omega
  rw[aC hi0'] at hsucc hkp;have e5:(pQ false).length=4:=rfl;apply gM<;>intro hi1<;>conv=>whnf
  rotate_left
  ·rw[hi0] at hi1;cases hi1
  refine⟨by show(S).length+(pQ false).length<4611686018427387904;simp only[aG] at*;omega,S++pQ false,rfl,?_⟩;conv=>whnf
  refine⟨jR _,.agg (kH k kids A B op yes),by rw[aL];exact hgy,rfl,?_⟩;conv=>whnf
  refine bT hcy (wR _) rfl (cC hcl .nil) (.s _) ?_;conv=>whnf
  refine⟨by show(S++pQ false).length+(X).length<4611686018427387904;simp only[aG] at*;omega,S++pQ false++X,rfl,?_⟩;conv=>whnf
  exact⟨L.length - (i+1),(by show _<L.length - i;omega),(i+1,_),⟨hlt,hsucc⟩,rfl,⟨rfl,rfl,bH (by omega),trivial⟩,[],rfl,rfl⟩
 ·have hi0':i=0:=by have:=aA hi0;omega
  rw[aD hi0'] at hsucc hkp;have hS:S=[]:=by rw[<-hSd,hi0'];rfl
  rw[List.nil_append] at hsucc;apply gM<;>intro hi1<;>conv=>whnf
  ·rw[hi0] at hi1;cases hi1
  refine⟨jR _,.agg (kH k kids A B op yes),by rw[aL];exact hgy,rfl,?_⟩;conv=>whnf
  refine bT hcy (wR _) rfl (cC hcl .nil) (.s _) ?_;conv=>whnf
  refine⟨by show(S).length+(X).length<4611686018427387904;omega,S++X,rfl,?_⟩;conv=>whnf
  have hfin:wj false (L.take (i+1))=S++X:=by rw[hsucc,hS];rfl
  exact⟨L.length - (i+1),(by show _<L.length - i;omega),(i+1,_),⟨hlt,hfin⟩,rfl,⟨rfl,rfl,bH (by omega),trivial⟩,[],rfl,rfl⟩
theorem a3v [MaxL] (t:Tree) (hb:t.flat.plain.length<1000000) (hc:SC Tryz.prog 261 [t.ng] [] (.val (.s t.flat.plain)) []):
  SC Tryz.prog 261 [.agg (kH 3 [t.ng] t0 t0 [] false)] [] (.val (.s (kX++[32]++paren (decide (t.level<4)) t.flat.plain))) []:=by
 have hcl:=t.ng_cl;generalize t.flat.plain=X at*;cases t with
 |pair b l r=>
  rw[show(Tree.pair b l r).ng=.agg (kH (lL b) (j3 ((Tree.pair b l r).sides b)) t0 t0 [] false) by show GV.agg _=_;rw[rS]] at hc hcl⊢;generalize j3 ((Tree.pair b l r).sides b)=kids at*;have e:paren (decide ((Tree.pair b l r).level<4)) X=40::(X++[41]):=by cases b<;>rfl
  rw[e];cases b with
  |true=>
   refine cO Tryz.func261 rfl ?_;(conv=>whnf);refine⟨eU 0,.agg (kH (lL true) kids t0 t0 [] false),rfl,rfl,?_⟩;(conv=>whnf);refine sT ?_;(conv=>whnf);refine bT hc (wR _) rfl (cC hcl .nil) (.s _) ?_;(conv=>whnf);refine⟨by show 5+X.length<4611686018427387904;omega,kX++[32,40]++X,rfl,?_⟩;(conv=>whnf);refine⟨by show(kX++[32,40]++X).length+1<4611686018427387904;simp only[aG] at*;show 3+2+X.length+1<_;omega,kX++[32,40]++X++[41],rfl,?_⟩;(conv=>whnf);exact gO (by show kX++[32,40]++X++[41]=kX++[32]++40::(X++[41]);simp)
  |false=>
   refine cO Tryz.func261 rfl ?_;(conv=>whnf);refine⟨eU 0,.agg (kH (lL false) kids t0 t0 [] false),rfl,rfl,?_⟩;(conv=>whnf);refine sT ?_;(conv=>whnf);refine bT hc (wR _) rfl (cC hcl .nil) (.s _) ?_;(conv=>whnf);refine⟨by show 5+X.length<4611686018427387904;omega,kX++[32,40]++X,rfl,?_⟩;(conv=>whnf);refine⟨by show(kX++[32,40]++X).length+1<4611686018427387904;simp only[aG] at*;show 3+2+X.length+1<_;omega,kX++[32,40]++X++[41],rfl,?_⟩;(conv=>whnf);exact gO (by show kX++[32,40]++X++[41]=kX++[32]++40::(X++[41]);simp)
 |no t=>
  have e:paren (decide ((Tree.no t).level<4)) X=40::(X++[41]):=rfl;rw[e];rw[show(Tree.no t).ng=.agg (kH 3 [t.ng] t0 t0 [] false) from rfl] at hc hcl⊢;refine cO Tryz.func261 rfl ?_;conv=>whnf
  refine⟨eU 0,.agg (kH 3 [t.ng] t0 t0 [] false),rfl,rfl,?_⟩;conv=>whnf
  refine sT ?_;conv=>whnf
  refine bT hc (wR _) rfl (cC hcl .nil) (.s _) ?_;conv=>whnf
  refine⟨by show 5+X.length<4611686018427387904;omega,kX++[32,40]++X,rfl,?_⟩;conv=>whnf
  refine⟨by show(kX++[32,40]++X).length+1<4611686018427387904;simp only[aG] at*;show 3+2+X.length+1<_;omega,kX++[32,40]++X++[41],rfl,?_⟩;conv=>whnf
  exact gO (by show kX++[32,40]++X++[41]=kX++[32]++40::(X++[41]);simp)
 |test op l r=>
  rw[show(Tree.test op l r).ng=.agg (kH 4 [] l r op false) from rfl] at hc hcl⊢;refine cO Tryz.func261 rfl ?_;conv=>whnf
  refine⟨eU 0,.agg (kH 4 [] l r op false),rfl,rfl,?_⟩;conv=>whnf
  refine sT ?_;conv=>whnf
  refine bT hc (wR _) rfl (cC hcl .nil) (.s _) ?_;conv=>whnf
  refine⟨by show 4+X.length<4611686018427387904;omega,kX++[32]++X,rfl,?_⟩;conv=>whnf
  exact gO rfl
 |truth b=>
  rw[show(Tree.truth b).ng=.agg (kH 5 [] t0 t0 [] b) from rfl] at hc hcl⊢;refine cO Tryz.func261 rfl ?_;conv=>whnf
  refine⟨eU 0,.agg (kH 5 [] t0 t0 [] b),rfl,rfl,?_⟩;conv=>whnf
  refine sT ?_;conv=>whnf
  refine bT hc (wR _) rfl (cC hcl .nil) (.s _) ?_;conv=>whnf
  refine⟨by show 4+X.length<4611686018427387904;omega,kX++[32]++X,rfl,?_⟩;conv=>whnf
  exact gO rfl
theorem Z7 [MaxL] (op:By) (l r:Term) (ho:op.length<=2) (hl:l.good) (hr:r.good) (hl1:l.txt.length<=200) (hr1:r.txt.length<=200):
  SC Tryz.prog 261 [.agg (kH 4 [] l r op false)] [] (.val (.s (l.txt++[32]++op++[32]++r.txt))) []:=by
 have s1:=a1b l hl;have s2:=a1b r hr;generalize l.txt=x1 at*;generalize r.txt=x2 at*;refine cO Tryz.func261 rfl ?_;conv=>whnf
 refine lQ ?_;conv=>whnf
 refine bT s1 (wR _) rfl (cC (eQ (oV l)) .nil) (.s _) ?_;conv=>whnf
 refine⟨by show x1.length+1<4611686018427387904;omega,x1++[32],rfl,?_⟩;conv=>whnf
 refine⟨by show(x1++[32]).length+op.length<4611686018427387904;rw[aG];show x1.length+1+op.length<_;omega,x1++[32]++op,rfl,?_⟩;conv=>whnf
 refine⟨by show(x1++[32]++op).length+1<4611686018427387904;rw[aG,aG];show x1.length+1+op.length+1<_;omega,x1++[32]++op++[32],rfl,?_⟩;conv=>whnf
 refine bT s2 (wR _) rfl (cC (eQ (oV r)) .nil) (.s _) ?_;conv=>whnf
 refine⟨by show(x1++[32]++op++[32]).length+x2.length<4611686018427387904;rw[aG,aG,aG];show x1.length+1+op.length+1+x2.length<_;omega,x1++[32]++op++[32]++x2,rfl,?_⟩;conv=>whnf
 exact gO rfl
theorem UC [MaxL] (b:Bool):SC Tryz.prog 261 [.agg (kH 5 [] t0 t0 [] b)] [] (.val (.s (if b then m8 else kN))) []:=by
 cases b with
 |true=>
  refine cO Tryz.func261 rfl ?_;conv=>whnf
  exact gO rfl
 |false=>
  refine cO Tryz.func261 rfl ?_;conv=>whnf
  exact gO rfl
theorem CG {a:Bool}:∀{t x:Tree},t.good->x∈t.sides a->x.good
 |.pair b l r,x,h,hx=>by
  unfold Tree.sides at hx;split at hx
  ·rcases List.mem_append.1 hx with hx|hx
   ·exact CG h.1 hx
   ·exact CG h.2 hx
  ·simp at hx;subst hx;exact h
 |.no t,x,h,hx=>by simp[Tree.sides] at hx;subst hx;exact h
 |.test _ _ _,x,h,hx=>by simp[Tree.sides] at hx;subst hx;exact h
 |.truth _,x,h,hx=>by simp[Tree.sides] at hx;subst hx;exact h
theorem H8 {t:Term} (h:t.good):t.name.length<=16/\t.txt.length<=180:=by
 obtain⟨nm,vr,v⟩:=t;rcases h with⟨h1,h2,_⟩|⟨h1,h2,h3⟩
 ·simp only at h1 h2;have h16:nm.length<=16:=by
   cases nm with
   |nil=>simp
   |cons c u=>
    simp only[dU,aF,aJ] at h2;exact h2.1.1
  refine⟨h16,?_⟩;cases vr with
  |true=>show(58::nm).length<=180;simp;omega
  |false=>show(if nm≠[] then nm else _).length<=180;rw[aD h1];omega
 ·simp only at h1 h2 h3;subst h1;subst h2;refine⟨zL _,?_⟩;show(if v.ok=true then eY v else[]).length<=180;rw[aD h3];have:=FU h3;omega
theorem HK {t:Tree}:t.good->t.nice:=by
 induction t with
 |pair a l r i1 i2=>exact fun h=>⟨i1 h.1,i2 h.2⟩
 |no t i=>exact fun h=>i h
 |test op l r=>exact fun h=>⟨EN h.1,H8 h.2.1,H8 h.2.2⟩
 |truth b=>exact fun _=>trivial
theorem C9 [MaxL]:∀(n:Nat) (t:Tree),t.size<=n->t.size<=2100->t.good->SC Tryz.prog 261 [t.ng] [] (.val (.s t.flat.plain)) []
 |0,t,h,_,_=>by cases t<;>simp[Tree.size] at h
 |n+1,t,h,h2,hg=>by
  have hb:t.flat.plain.length<1000000:=by
   have:=tZ t.flat (xC (HK hg));rw[tI] at this;omega
  cases t with
  |truth b=>exact UC b
  |test op l r=>
   have:=Z7 op l r (EN hg.1) hg.2.1 hg.2.2 (by have:=(H8 hg.2.1).2;omega) (by have:=(H8 hg.2.2).2;omega);exact this
  |no t=>
   simp only[Tree.size] at h h2;have e:(Tree.no t).flat.plain=kX++[32]++paren (decide (t.level<4)) t.flat.plain:=by
    show kX++[32]++paren (decide (t.flat.level<4)) t.flat.plain=_;rw[y8]
   rw[e] at hb⊢;have hb2:t.flat.plain.length<1000000:=by
    have:=tZ t.flat (xC (HK (show t.good from hg)));rw[tI] at this;omega
   exact a3v t hb2 (C9 n t (by omega) (by omega) hg)
  |pair a l r=>
   have hs:=@n9 a (Tree.pair a l r);have hk:∀y∈(Tree.pair a l r).sides a,SC Tryz.prog 261 [y.ng] [] (.val (.s y.flat.plain)) []:=fun y hy=>by
    have:=CZ hy;exact C9 n y (by omega) (by omega) (CG hg hy)
   rw[QV] at hb⊢;rw[show(Tree.pair a l r).ng=.agg (kH (lL a) (j3 ((Tree.pair a l r).sides a)) t0 t0 [] false) by show GV.agg _=_;rw[rS]];cases a with
   |true=>exact a1a _ (by omega) hb hk
   |false=>exact a3u _ (by omega) hb hk
