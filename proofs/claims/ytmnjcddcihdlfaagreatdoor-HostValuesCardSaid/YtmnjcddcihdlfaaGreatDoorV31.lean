/- Part of HostValues. -/
import Derived.Test.YtmnjcddcihdlfaaGreatDoorV30
set_option linter.all false
set_option maxRecDepth 100000
namespace Go.Proofs.YtmnjcddcihdlfaaGreatDoor
open Go.RowKit
def pP (x y:Int):Int:=if x<y then -1 else if y<x then 1 else 0
def uM (a b:By):Int:=if Op.bytesLess a b then -1 else if Op.bytesLess b a then 1 else 0
def zQ (a b:Val):Int:=if pP a.k b.k≠0 then pP a.k b.k else if pP a.n b.n≠0 then pP a.n b.n else uM a.s b.s
theorem a06 [MaxL] (x:Int):SC Tryz.prog 175 [.i .i64 x] [] (.val (.b false)) []:=by
 refine bI Tryz.func175 rfl ?_;conv=>whnf
 exact eM (by simp)
theorem UU [MaxL] (x:By):SC Tryz.prog 176 [.s x] [] (.val (.b false)) []:=by
 refine bI Tryz.func176 rfl ?_;conv=>whnf
 exact eM (by simp)
theorem UV [MaxL] (x y:Int):SC Tryz.prog 155 [.i .i64 x,.i .i64 y] [] (.val (.i .i64 (pP x y))) []:=by
 refine bI Tryz.func155 rfl ?_;conv=>whnf
 repeat' first
  |(apply gM<;>intro _<;>conv=>whnf)
  |(refine gP ?_;conv=>whnf)
  |(refine sT ?_;conv=>whnf)
  |(refine vD (a06 _) ?_;conv=>whnf)
 all_goals
  refine iH ?_;unfold pP;simp only[aH,bR,gt_iff_lt] at*;repeat' split
  all_goals first|rfl|omega
theorem V2 (a:By):Op.bytesLess a a=false:=by
 induction a with
 |nil=>rfl
 |cons c a ih=>
  unfold Op.bytesLess;rw[ih];simp
theorem V1:∀{a b:By},Op.bytesLess a b=false->a≠b->Op.bytesLess b a=true
 |[],[],_,h=>absurd rfl h
 |[],_::_,h,_=>by unfold Op.bytesLess at h;cases h
 |_::_,[],_,_=>by unfold Op.bytesLess;rfl
 |x::a,y::b,h,hn=>by
  unfold Op.bytesLess at h⊢;simp only[Bool.or_eq_false_iff,bR] at h;by_cases hxy:x=y
  ·subst hxy;have h2:Op.bytesLess a b=false:=by simpa using h.2
   rw[V1 h2 (fun e=>hn (by rw[e]))];simp
  ·have:y<x:=by
    have h1:=h.1;have hne:x.toNat≠y.toNat:=fun e=>hxy (UInt8.toNat_inj.1 e);rw[UInt8.lt_iff_toNat_lt] at h1⊢;omega
   simp[this]
theorem a07 [MaxL] (a b:By):SC Tryz.prog 156 [.s a,.s b] [] (.val (.i .i64 (uM a b))) []:=by
 refine bI Tryz.func156 rfl ?_;conv=>whnf
 refine vD (UU a) ?_;conv=>whnf
 refine vD (UU b) ?_;conv=>whnf
 apply gM<;>intro h1<;>conv=>whnf
 ·refine iH ?_;unfold uM;rw[aA h1]
 ·apply gM<;>intro h2<;>conv=>whnf
  ·refine iH ?_;unfold uM;rw[aB (by rw[h1];decide)];have h3:a≠b:=by rintro rfl;simp[V2] at h2
   rw[aA (V1 h1 h3)]
  ·refine iH ?_;have h3:a=b:=by simpa[h1] using h2
   rw[h3];unfold uM;rw[V2];rfl
theorem XG [MaxL] (a b c:Int):SC Tryz.prog 154 [.sl .none [.i .i64 a,.i .i64 b,.i .i64 c]] [] (.val (.i .i64 (if a≠0 then a else if b≠0 then b else c))) []:=by
 refine bI Tryz.func154 rfl ?_;conv=>whnf
 refine bA (fun i:Nat=>i=0∨(i=1/\a=0)∨(i=2/\a=0/\b=0)∨(i=3/\a=0/\b=0/\c=0)) (fun i=>[(3,.i .i64 0),(6,.sl .none [.i .i64 a,.i .i64 b,.i .i64 c]),(7,.i .i64 3),(8,.i .i64 (i:Nat))]) (fun _=>⟨[],0,[]⟩) (fun i=>3 - i) 0 (.inl rfl) ⟨rfl,rfl,rfl,rfl,trivial⟩ rfl (fun i φ0 hi=>?_);rcases hi with rfl|⟨rfl,ha⟩|⟨rfl,ha,hb⟩|⟨rfl,ha,hb,hc⟩
 ·conv=>whnf
  refine⟨cD 0,.i .i64 a,rfl,rfl,?_⟩;conv=>whnf
  apply gM<;>intro h<;>conv=>whnf
  ·exact iH (by rw[aA (by simpa using h)])
  ·exact⟨2,by decide,1,.inr (.inl ⟨rfl,by simpa using h⟩),rfl,⟨rfl,rfl,rfl,rfl,trivial⟩,rfl⟩
 ·conv=>whnf
  refine⟨fK 1,.i .i64 b,rfl,rfl,?_⟩;conv=>whnf
  apply gM<;>intro h<;>conv=>whnf
  ·exact iH (by rw[aB (by simpa using ha),aA (by simpa using h)])
  ·exact⟨1,by decide,2,.inr (.inr (.inl ⟨rfl,ha,by simpa using h⟩)),rfl,⟨rfl,rfl,rfl,rfl,trivial⟩,rfl⟩
 ·conv=>whnf
  refine⟨fK 2,.i .i64 c,rfl,rfl,?_⟩;conv=>whnf
  apply gM<;>intro h<;>conv=>whnf
  ·exact iH (by rw[aB (by simpa using ha),aB (by simpa using hb)])
  ·exact⟨0,by decide,3,.inr (.inr (.inr ⟨rfl,ha,hb,by simpa using h⟩)),rfl,⟨rfl,rfl,rfl,rfl,trivial⟩,rfl⟩
 ·conv=>whnf
  exact iH (by rw[aB (by simpa using ha),aB (by simpa using hb),hc])
theorem NN [MaxL] (a b:Val):SC Tryz.prog 106 [a.gv,b.gv] [] (.val (.i .i64 (zQ a b))) []:=by
 obtain⟨k1,n1,s1⟩:=a;obtain⟨k2,n2,s2⟩:=b;have h1:=UV k1 k2;have h2:=UV n1 n2;have h3:=a07 s1 s2;unfold zQ;simp only;generalize pP k1 k2=x at*;generalize pP n1 n2=y at*;generalize uM s1 s2=z at*;have h4:=XG x y z;refine bI Tryz.func106 rfl ?_;conv=>whnf
 refine gP ?_;conv=>whnf
 refine vD h1 ?_;conv=>whnf
 refine vD h2 ?_;conv=>whnf
 refine vD h3 ?_;conv=>whnf
 refine iY h4 (wC (b5 _ _) Wks.nil) rfl (cC (Cl.sl (fun _=>rfl)) .nil) (.i _ _) ?_;conv=>whnf
 exact iH rfl
theorem SO [MaxL] (x y:Int):SC Tryz.prog 108 [.i .i64 x,.i .i64 y] [] (.val (.i .i64 (pP x y))) []:=by
 refine bI Tryz.func108 rfl ?_;conv=>whnf
 repeat' first
  |(apply gM<;>intro _<;>conv=>whnf)
  |(refine gP ?_;conv=>whnf)
  |(refine sT ?_;conv=>whnf)
 all_goals
  refine iH ?_;unfold pP;simp only[aH,bR,gt_iff_lt] at*;repeat' split
  all_goals first|rfl|omega
theorem LR [MaxL] (n:Int):SC Tryz.prog 158 [.i .i64 n] [] (.val (.i .i64 (pP n 0))) []:=by
 refine bI Tryz.func158 rfl ?_;conv=>whnf
 repeat' first
  |(apply gM<;>intro _<;>conv=>whnf)
  |(refine gP ?_;conv=>whnf)
  |(refine sT ?_;conv=>whnf)
 all_goals
  refine iH ?_;unfold pP;simp only[aH,bR,gt_iff_lt] at*;repeat' split
  all_goals first|rfl|omega
theorem I2 (p a b:By):Op.bytesLess (p++a) (p++b)=Op.bytesLess a b:=by
 induction p with
 |nil=>rfl
 |cons c p ih=>
  have:¬c<c:=by rw[UInt8.lt_iff_toNat_lt];omega
  show(decide (c<c)||(c==c&&Op.bytesLess (p++a) (p++b)))=_;rw[ih];simp[this]
theorem X7 {p a b:By} {x y:UInt8} (h:x≠y):uM (p++x::a) (p++y::b)=pP ((x.toNat:Int) - (y.toNat:Int)) 0:=by
 have hn:x.toNat≠y.toNat:=fun e=>h (UInt8.toNat_inj.1 e);have e1:∀(x y:UInt8) (a b:By),x≠y->Op.bytesLess (x::a) (y::b)=decide (x.toNat<y.toNat):=fun x y a b h=>by
  unfold Op.bytesLess;rw[show(x==y)=false by simpa using h,Bool.false_and,Bool.or_false];rfl
 unfold uM pP;rw[I2,I2,e1 x y a b h,e1 y x b a (Ne.symm h)];by_cases hl:x.toNat<y.toNat
 ·rw[aR hl];show(-1:Int)=_;rw[aA (by omega)]
 ·have h2:y.toNat<x.toNat:=by omega
  rw[aQ hl,aR h2];show(1:Int)=_;rw[aB (by omega),aA (by omega)]
theorem L0 (p a b:By) (h:a=[]∨b=[]):uM (p++a) (p++b)=pP ((a.length:Int) - (b.length:Int)) 0:=by
 unfold uM pP;rw[I2,I2];rcases h with rfl|rfl
 ·cases b with
  |nil=>rfl
  |cons c b=>
   show(if true=true then(-1:Int) else _)=_;rw[aA rfl,aA (by simp only[bW,aM];omega)]
 ·cases a with
  |nil=>rfl
  |cons c a=>
   show(if false=true then(-1:Int) else if true=true then 1 else 0)=_;rw[aB (by decide),aA rfl,aB (by simp only[bW,aM];omega),aA (by simp only[bW,aM];omega)]
theorem VU [MaxL] (a b:By) (ha:a.length<dD) (hb:b.length<dD):SC Tryz.prog 109 [.s a,.s b] [] (.val (.i .i64 (uM a b))) []:=by
 unfold dD at ha hb;refine bI Tryz.func109 rfl ?_;conv=>whnf
 refine bA (fun i:Nat=>i<=a.length/\i<=b.length/\a.take i=b.take i) (fun i=>[(0,.s a),(1,.s b),(5,.i .i64 (i:Nat))]) (fun _=>⟨[],0,[]⟩) (fun i=>a.length - i) 0 ⟨zL _,zL _,rfl⟩ ⟨rfl,rfl,rfl,trivial⟩ rfl (fun i φ0 hi=>?_);obtain⟨hia,hib,hp⟩:=hi;conv=>whnf
 apply gM<;>intro h1<;>conv=>whnf
 ·have h1':i<a.length:=by have:=aO h1;omega
  apply gM<;>intro h2<;>conv=>whnf
  ·have h2':i<b.length:=by have:=aO h2;omega
   have hga:a[i]?=some a[i]:=gL h1';have hgb:b[i]?=some b[i]:=gL h2';have hda:a.drop i=a[i]::a.drop (i+1):=bD h1';have hdb:b.drop i=b[i]::b.drop (i+1):=bD h2';have hta:a.take (i+1)=a.take i++[a[i]]:=by rw[dS,hga];rfl
   have htb:b.take (i+1)=b.take i++[b[i]]:=by rw[dS,hgb];rfl
   generalize a[i]=x at*;generalize b[i]=y at*;refine gP ?_;(conv=>whnf);refine GNeed.mk (fK _) ⟨x,by rw[aD];exact hga,?_⟩;(conv=>whnf);refine GNeed.mk (fK _) ⟨y,by rw[aD];exact hgb,?_⟩;(conv=>whnf);apply gM<;>intro hne<;>conv=>whnf
   ·have hxy:x≠y:=p8 hne;have hc:uM a b=pP ((x.toNat:Int) - (y.toNat:Int)) 0:=by
     have e1:a=b.take i++x::a.drop (i+1):=by rw[<-hp,<-hda,fX]
     have e2:b=b.take i++y::b.drop (i+1):=by rw[<-hdb,fX]
     have h9:uM (b.take i++x::a.drop (i+1)) (b.take i++y::b.drop (i+1))=_:=X7 hxy;rw[<-e1,<-e2] at h9;exact h9
    rw[hc];have hx:=bS x;have hy:=bS y;refine gP ?_;(conv=>whnf);refine GNeed.mk (fK _) ⟨x,by rw[aD];exact hga,?_⟩;(conv=>whnf);refine GNeed.mk (fK _) ⟨y,by rw[aD];exact hgb,?_⟩;(conv=>whnf);refine iY (LR _) (wR _) rfl (fun _=>rfl) (.i _ _) ?_;(conv=>whnf);refine iH ?_;rw[bN (n:=(x.toNat:Int)) (by omega) (by omega),bN (n:=(y.toNat:Int)) (by omega) (by omega),bN (by omega) (by omega)]
   ·have hxy:x=y:=nV hne;exact⟨a.length - (i+1),(by show _<a.length - i;omega),i+1,⟨h1',h2',by rw[hta,htb,hp,hxy]⟩,rfl,⟨rfl,rfl,cT (by omega),trivial⟩,rfl⟩
  ·have hib2:i=b.length:=by have:=aW h2;omega
   have hc:uM a b=pP ((a.length:Int) - (b.length:Int)) 0:=by
    have e1:a=b++a.drop i:=by
     conv=>lhs;rw[<-fX i a,hp,hib2,dG]
     rw[hib2]
    have h9:=L0 b (a.drop i) [] (.inr rfl);rw[eH,<-e1] at h9;rw[h9];congr 1;rw[cU];simp;omega
   rw[hc];have wl:IntKind.i64.wrap ((a.length:Int) - (b.length:Int))=(a.length:Int) - (b.length:Int):=bN (by omega) (by omega);refine iY (LR (IntKind.i64.wrap ((a.length:Int) - (b.length:Int)))) (wR _) rfl (fun _=>rfl) (.i _ _) ?_;(conv=>whnf);exact iH (by rw[wl])
 ·have hia2:i=a.length:=by have:=aW h1;omega
  have hc:uM a b=pP ((a.length:Int) - (b.length:Int)) 0:=by
   have e1:b=a++b.drop i:=by
    conv=>lhs;rw[<-fX i b,<-hp,hia2,dG]
    rw[hia2]
   have h9:=L0 a [] (b.drop i) (.inl rfl);rw[eH,<-e1] at h9;rw[h9];congr 1;rw[cU];simp;omega
  rw[hc];have wl:IntKind.i64.wrap ((a.length:Int) - (b.length:Int))=(a.length:Int) - (b.length:Int):=bN (by omega) (by omega);refine iY (LR (IntKind.i64.wrap ((a.length:Int) - (b.length:Int)))) (wR _) rfl (fun _=>rfl) (.i _ _) ?_;conv=>whnf
  exact iH (by rw[wl])
theorem LT [MaxL] (a b:Val) (ha:a.s.length<dD) (hb:b.s.length<dD):SC Tryz.prog 74 [a.gv,b.gv] [] (.val (.i .i64 (zQ a b))) []:=by
 obtain⟨k1,n1,s1⟩:=a;obtain⟨k2,n2,s2⟩:=b;have h1:=SO k1 k2;have h2:=SO n1 n2;have h3:=VU s1 s2 ha hb;unfold zQ;simp only;generalize pP k1 k2=x at*;generalize pP n1 n2=y at*;generalize uM s1 s2=z at*;refine bI Tryz.func74 rfl ?_;conv=>whnf
 refine vD h1 ?_;conv=>whnf
 apply gM<;>intro e1<;>conv=>whnf
 ·exact iH (by rw[aA (by simpa using e1)])
 refine vD h2 ?_;conv=>whnf
 apply gM<;>intro e2<;>conv=>whnf
 ·exact iH (by rw[aB (by simpa using e1),aA (by simpa using e2)])
 refine vD h3 ?_;conv=>whnf
 exact iH (by rw[aB (by simpa using e1),aB (by simpa using e2)])
def eW {α:Type} (f:α->By) (w:By):List α->Option (Nat×α)
 |[]=>none
 |x::l=>if w==f x then some (0,x) else(eW f w l).map fun p=>(p.1+1,p.2)
theorem y8 [MaxL] {α:Type} (f:α->By) (g:α->GV) (w:By):∀(l:List α) (i:Nat),i6 .string (.s w) (l.map fun x=>(.s (f x),g x)) i=some ((eW f w l).map fun p=>(i+p.1,g p.2))
 |[],i=>rfl
 |x::l,i=>by
  rw[bY];unfold i6 eW;show(match some (w==f x) with|some true=>_|some false=>_|none=>_)=_;cases h:w==f x with
  |true=>rw[aA rfl];rfl
  |false=>
   rw[aB b4];show i6 .string (.s w) _ (i+1)=_;rw[y8 f g w l (i+1),Option.map_map];congr 1;cases eW f w l with
   |none=>rfl
   |some p=>show some (i+1+p.1,g p.2)=some (i+(p.1+1),g p.2);rw[Nat.add_right_comm,Nat.add_assoc]
def kE (l:List Itm):List (GV×GV):=l.map fun x=>(.s x.name,.i .i64 x.k)
instance [MaxL] (l:List Itm):KM (kE l):=⟨fun e=>by unfold kE;rw[List.map_map];rfl⟩
def vk (l:List Itm) (s:By):Int:=match eW Itm.name s l with
 |some p=>p.2.k
 |none=>0
theorem OE [MaxL] (l:List Itm) (s:By):∃f,i6 .string (.s s) (kE l) 0=some f/\((∃i,f=some (i,.i .i64 (vk l s)))∨(f=none/\vk l s=0)):=by
 refine⟨_,y8 Itm.name (fun x=>.i .i64 x.k) s l 0,?_⟩;unfold vk;cases eW Itm.name s l with
 |none=>exact .inr ⟨rfl,rfl⟩
 |some p=>exact .inl ⟨_,rfl⟩
abbrev V8 (q:Nat):GObj:=.box 140 [.sl .full [],.sl .full [],.sl .full [],.sl .full [],.sl .full [],.sl .full [],.sl .full [],.sl .full [],.mp q,.i .i64 0]
abbrev RE (l:List Itm):List GObj:=[V8 1,.mp (kE l)]
def f6 (e:Int):GV:=.ifc 137 (.agg [.i .i64 0,.i .i64 e])
instance [MaxL] (e:Int):KG (f6 e):=⟨fun _=>rfl⟩
theorem sL [MaxL] (l:List Itm) (b:Bool) (e:Int):SC Tryz.prog 70 [.ptr 0 0,.b b,.i .i64 e] (RE l) (if b=true then .panic (f6 e) else .val (.tup [])) (RE l):=by
 cases b with
 |true=>
  rw[aA rfl];refine bI Tryz.func70 rfl ?_;conv=>whnf
  exact fin 2
 |false=>
  rw[aB b4];refine bI Tryz.func70 rfl ?_;conv=>whnf
  exact fin 2
theorem a1B [MaxL] (s AT:By) (hs:s.length<4000000000):SC Tryz.prog 133 [.s s,.s AT] [] (.val (.tup [.s (Lib.cut s AT).1,.s (Lib.cut s AT).2.1,.b (Lib.cut s AT).2.2])) []:=by
 refine SC.of_calls fun C w vs hr hv=>?_;obtain rfl:=P1 hv;refine(Tryz.strings_Cut ⟨s.toArray⟩ ⟨AT.toArray⟩ _ w (by simp[ByteArray.size];omega) (EL hr)).mono ?_;rintro e w' ⟨rfl,n,rfl⟩;refine⟨_,rfl,⟨rfl,rfl,rL _,fun _ _ _=>rfl⟩,.tup rfl fun j g u h1 h2=>?_⟩
 match j,h1,h2 with
 |0,h1,h2=>cases h1;cases h2;exact .s _
 |1,h1,h2=>cases h1;cases h2;exact .s _
 |2,h1,h2=>cases h1;cases h2;exact .b _
theorem ZK [MaxL] (s:By):SC Tryz.prog 134 [.sl .none [],.fn (.func 135) [] [.ptr 0 0]] [.box 9 [.s s]] (.val (.i .i64 (-1))) [.box 9 [.s s]]:=by
 refine bI Tryz.func134 rfl ?_;conv=>whnf
 refine bA (fun _:Unit=>True) (fun _=>[(7,.i .i64 0),(8,.i .i64 0)]) (fun _=>⟨[.box 9 [.s s]],0,[]⟩) (fun _=>0) () trivial ⟨rfl,rfl,trivial⟩ rfl (fun a φ0 ha=>?_);conv=>whnf
 exact fin 1
theorem MH [MaxL] (s:By) (hs:s.length<4000000000):SC Tryz.prog 96 [.agg [.sl .full [],.sl .full [],.sl .full []],.s s] [] (.val (.i .i64 0)) []:=by
 have hc:=a1B s [46] hs;generalize Lib.cut s [46]=X at hc;obtain⟨a,b,d⟩:=X;refine bI Tryz.func96 rfl ?_;conv=>whnf
 refine cP hc ?_;conv=>whnf
 refine st ?_;conv=>whnf
 refine st ?_;conv=>whnf
 refine cS [1] (ZK a) ?_ (wC (b5 _ _) (wR _));conv=>whnf
 exact fin 0
def LY:List By:=[[43],[45],[42],[38]]
def Ex.wf:Ex->Prop
 |.zero=>False
 |.num n=>0<=n/\n<=1000000000
 |.txt s=>s.length<=40
 |.item r i=>r.length<=16/\i.length<=16
 |.neg e=>e.wf
 |.bin op a b=>op∈LY/\a.wf/\b.wf
 |_=>True
def Ex.nm (l:List Itm):Ex->Bool
 |.var s=>decide (vk l s≠0)
 |.item _ _=>false
 |.neg e=>e.nm l
 |.bin _ a b=>a.nm l&&b.nm l
 |_=>true
abbrev nmH (l:List Itm):List GObj:=[V8 1,.mp (kE l),.box 51 [.ptr 0 0]]
def nm1 (l:List Itm):Ex->Bool
 |.var s=>decide (vk l s≠0)
 |.item _ _=>false
 |_=>true
def xS (b:Bool) (e:Int):GRes:=if b=true then .val (.tup []) else .panic (f6 e)
theorem mP [MaxL] (l:List Itm) (e:Ex) (h:e.wf):SC Tryz.prog 95 [e.gvP,.ptr 2 0] (nmH l) (xS (nm1 l e) 5) (nmH l):=by
 have st0:=sL l false 5;have st1:=sL l true 5;rw[aB b4] at st0;rw[aA rfl] at st1;cases e with
 |zero=>exact h.elim
 |var s=>
  obtain⟨f,hf,hv⟩:=OE l s;by_cases h0:vk l s=0
  ·have q0:(vk l s==0)=true:=beq_iff_eq.2 h0;show SC _ _ _ _ (xS (decide (vk l s≠0)) 5) _;rw[show decide (vk l s≠0)=false from aQ (fun h=>h h0)];rcases hv with⟨i,rfl⟩|⟨rfl,_⟩
   ·show SC _ _ _ _ (.panic (f6 5)) _;refine bI Tryz.func95 rfl ?_;(conv=>whnf);refine GDraw.pan 37 _ rfl (by kernel_rfl) ?_;(conv=>whnf);refine⟨_,hf,?_⟩;(conv=>whnf);rw[q0];(conv=>whnf);refine cS [0,1] st1 ?_;(conv=>whnf);exact fin 3
   ·show SC _ _ _ _ (.panic (f6 5)) _;refine bI Tryz.func95 rfl ?_;(conv=>whnf);refine GDraw.pan 37 _ rfl (by kernel_rfl) ?_;(conv=>whnf);refine⟨_,hf,?_⟩;(conv=>whnf);refine cS [0,1] st1 ?_;(conv=>whnf);exact fin 3
  ·have q0:(vk l s==0)=false:=beq_eq_false_iff_ne.2 h0;show SC _ _ _ _ (xS (decide (vk l s≠0)) 5) _;rw[show decide (vk l s≠0)=true from aR h0];rcases hv with⟨i,rfl⟩|⟨_,h1⟩
   ·show SC _ _ _ _ (.val (.tup [])) _;refine bI Tryz.func95 rfl ?_;(conv=>whnf);refine gP ?_;(conv=>whnf);refine⟨_,hf,?_⟩;(conv=>whnf);rw[q0];(conv=>whnf);refine cS [0,1] st0 ?_;(conv=>whnf);exact fin 3
   ·exact absurd h1 h0
 |item r i=>
  have hk:=MH (r++[46]++i) (by have:=h.1;have:=h.2;simp only[aX];show r.length+1+i.length<_;omega);show SC _ _ _ _ (.panic (f6 5)) _;refine bI Tryz.func95 rfl ?_;conv=>whnf
  refine GDraw.pan 37 _ rfl (by kernel_rfl) ?_;conv=>whnf
  refine cP hk ?_;conv=>whnf
  refine cS [0,1] st1 ?_;conv=>whnf
  exact fin 3
 |bin op a b=>
  have ho:=h.1;show SC _ _ _ _ (.val (.tup [])) _;simp only[LY,dU,cZ,or_false] at ho;rcases ho with rfl|rfl|rfl|rfl;all_goals
   refine bI Tryz.func95 rfl ?_;(conv=>whnf);refine gP ?_;(conv=>whnf);refine cS [0,1] st0 ?_;(conv=>whnf);exact fin 3
 |_=>
  show SC _ _ _ _ (.val (.tup [])) _;refine bI Tryz.func95 rfl ?_;conv=>whnf
  refine gP ?_;conv=>whnf
  refine cS [0,1] st0 ?_;conv=>whnf
  exact fin 3
abbrev nmF:GV:=.fn (.func 95) [] [.ptr 2 0]
theorem r5 [MaxL] (l:List Itm):SC Tryz.prog 40 [gU,nmF] (nmH l) (.val (.tup [])) (nmH l):=by
 refine bI Tryz.func40 rfl ?_;conv=>whnf
 exact fin 3
theorem SH [MaxL] (b:Bool) (x:Int) (e:Nat->Nat):(xS b x).ren e=xS b x:=by cases b<;>rfl
instance [MaxL] {b:Bool} {x:Int} {e:Nat->Nat}:RR e (xS b x) (xS b x):=⟨SH b x e⟩
theorem GM [MaxL] (l:List Itm):∀(e:Ex),e.wf->SC Tryz.prog 40 [e.gvP,nmF] (nmH l) (xS (e.nm l) 5) (nmH l)
 |.zero,h=>h.elim
 |.neg e,h=>by
  have h0:=r5 l;have i:=GM l e h;have h1:=mP l (.neg e) h;show SC _ _ _ _ (xS (e.nm l) 5) _;replace h1:SC _ _ _ _ (.val (.tup [])) _:=h1;cases hb:e.nm l with
  |true=>
   rw[hb] at i;replace i:SC _ _ _ _ (.val (.tup [])) _:=i;show SC _ _ _ _ (.val (.tup [])) _;refine bI Tryz.func40 rfl ?_;(conv=>whnf);refine cS [0,1,2] h0 ?_;(conv=>whnf);refine cS [0,1,2] i ?_;(conv=>whnf);refine cS [0,1,2] h1 ?_;(conv=>whnf);exact fin 3
  |false=>
   rw[hb] at i;replace i:SC _ _ _ _ (.panic (f6 5)) _:=i;show SC _ _ _ _ (.panic (f6 5)) _;refine bI Tryz.func40 rfl ?_;(conv=>whnf);refine cS [0,1,2] h0 ?_;(conv=>whnf);refine cS [0,1,2] i ?_;(conv=>whnf);exact fin 3
 |.bin op a b,h=>by
  have i:=GM l a h.2.1;have j:=GM l b h.2.2;have h1:=mP l (.bin op a b) h;show SC _ _ _ _ (xS (a.nm l&&b.nm l) 5) _;replace h1:SC _ _ _ _ (.val (.tup [])) _:=h1;cases ha:a.nm l with
  |false=>
   rw[ha] at i;replace i:SC _ _ _ _ (.panic (f6 5)) _:=i;show SC _ _ _ _ (.panic (f6 5)) _;refine bI Tryz.func40 rfl ?_;(conv=>whnf);refine cS [0,1,2] i ?_;(conv=>whnf);exact fin 3
  |true=>
   rw[ha] at i;replace i:SC _ _ _ _ (.val (.tup [])) _:=i;cases hb:b.nm l with
   |false=>
    rw[hb] at j;replace j:SC _ _ _ _ (.panic (f6 5)) _:=j;show SC _ _ _ _ (.panic (f6 5)) _;refine bI Tryz.func40 rfl ?_;(conv=>whnf);refine cS [0,1,2] i ?_;(conv=>whnf);refine cS [0,1,2] j ?_;(conv=>whnf);exact fin 3
   |true=>
    rw[hb] at j;replace j:SC _ _ _ _ (.val (.tup [])) _:=j;show SC _ _ _ _ (.val (.tup [])) _;refine bI Tryz.func40 rfl ?_;(conv=>whnf);refine cS [0,1,2] i ?_;(conv=>whnf);refine cS [0,1,2] j ?_;(conv=>whnf);refine cS [0,1,2] h1 ?_;(conv=>whnf);exact fin 3
 |.num n,h=>by
  have h0:=r5 l;have h1:=mP l (.num n) h;replace h1:SC _ _ _ _ (.val (.tup [])) _:=h1;show SC _ _ _ _ (.val (.tup [])) _;refine bI Tryz.func40 rfl ?_;conv=>whnf
  refine cS [0,1,2] h0 ?_;conv=>whnf
  refine cS [0,1,2] h0 ?_;conv=>whnf
  refine cS [0,1,2] h1 ?_;conv=>whnf
  exact fin 3
 |.txt s,h=>by
  have h0:=r5 l;have h1:=mP l (.txt s) h;replace h1:SC _ _ _ _ (.val (.tup [])) _:=h1;show SC _ _ _ _ (.val (.tup [])) _;refine bI Tryz.func40 rfl ?_;conv=>whnf
  refine cS [0,1,2] h0 ?_;conv=>whnf
  refine cS [0,1,2] h0 ?_;conv=>whnf
  refine cS [0,1,2] h1 ?_;conv=>whnf
  exact fin 3
 |.status,h=>by
  have h0:=r5 l;have h1:=mP l (.status) h;replace h1:SC _ _ _ _ (.val (.tup [])) _:=h1;show SC _ _ _ _ (.val (.tup [])) _;refine bI Tryz.func40 rfl ?_;conv=>whnf
  refine cS [0,1,2] h0 ?_;conv=>whnf
  refine cS [0,1,2] h0 ?_;conv=>whnf
  refine cS [0,1,2] h1 ?_;conv=>whnf
  exact fin 3
 |.key,h=>by
  have h0:=r5 l;have h1:=mP l (.key) h;replace h1:SC _ _ _ _ (.val (.tup [])) _:=h1;show SC _ _ _ _ (.val (.tup [])) _;refine bI Tryz.func40 rfl ?_;conv=>whnf
  refine cS [0,1,2] h0 ?_;conv=>whnf
  refine cS [0,1,2] h0 ?_;conv=>whnf
  refine cS [0,1,2] h1 ?_;conv=>whnf
  exact fin 3
 |.item r i,h=>by
  have h0:=r5 l;have h1:=mP l (.item r i) h;replace h1:SC _ _ _ _ (.panic (f6 5)) _:=h1;show SC _ _ _ _ (.panic (f6 5)) _;refine bI Tryz.func40 rfl ?_;conv=>whnf
  refine cS [0,1,2] h0 ?_;conv=>whnf
  refine cS [0,1,2] h0 ?_;conv=>whnf
  refine cS [0,1,2] h1 ?_;conv=>whnf
  exact fin 3
 |.var s,h=>by
  have h0:=r5 l;have h1:=mP l (.var s) h;show SC _ _ _ _ (xS (decide (vk l s≠0)) 5) _;replace h1:SC _ _ _ _ (xS (decide (vk l s≠0)) 5) _:=h1;cases hb:decide (vk l s≠0) with
  |true=>
   rw[hb] at h1;replace h1:SC _ _ _ _ (.val (.tup [])) _:=h1;show SC _ _ _ _ (.val (.tup [])) _;refine bI Tryz.func40 rfl ?_;(conv=>whnf);refine cS [0,1,2] h0 ?_;(conv=>whnf);refine cS [0,1,2] h0 ?_;(conv=>whnf);refine cS [0,1,2] h1 ?_;(conv=>whnf);exact fin 3
  |false=>
   rw[hb] at h1;replace h1:SC _ _ _ _ (.panic (f6 5)) _:=h1;show SC _ _ _ _ (.panic (f6 5)) _;refine bI Tryz.func40 rfl ?_;(conv=>whnf);refine cS [0,1,2] h0 ?_;(conv=>whnf);refine cS [0,1,2] h0 ?_;(conv=>whnf);refine cS [0,1,2] h1 ?_;(conv=>whnf);exact fin 3
theorem WL [MaxL] (l:List Itm) (e:Ex) (h:e.wf):SC Tryz.prog 54 [.ptr 0 0,e.gvP] (RE l) (xS (e.nm l) 5) (RE l):=by
 have i:=GM l e h;cases hb:e.nm l with
 |true=>
  rw[hb] at i;replace i:SC _ _ _ _ (.val (.tup [])) _:=i;show SC _ _ _ _ (.val (.tup [])) _;refine bI Tryz.func54 rfl ?_;conv=>whnf
  refine cS [0,1,2] i ?_;conv=>whnf
  exact fin 2
 |false=>
  rw[hb] at i;replace i:SC _ _ _ _ (.panic (f6 5)) _:=i;show SC _ _ _ _ (.panic (f6 5)) _;refine bI Tryz.func54 rfl ?_;conv=>whnf
  refine cS [0,1,2] i ?_;conv=>whnf
  exact fin 2
def mI (op:By):Int:=if op=[38] then 2 else 1
def Ex.kd (l:List Itm):Ex->Option Int
 |.txt _=>some 2
 |.var s=>some (vk l s)
 |.neg e=>if e.kd l=some 1 then some 1 else none
 |.bin op a b=>if a.kd l=some (mI op)/\b.kd l=some (mI op) then some (mI op) else none
 |_=>some 1
def YL:Option Int->GRes
 |some k=>.val (.i .i64 k)
 |none=>.panic (f6 10)
theorem GK [MaxL] (l:List Itm):∀(e:Ex),e.wf->e.nm l=true->SC Tryz.prog 55 [.ptr 0 0,e.gvP] (RE l) (YL (e.kd l)) (RE l)
 |.zero,h,_=>h.elim
 |.item _ _,_,h=>by cases h
 |.num n,_,_=>by
  show SC _ _ _ _ (.val (.i .i64 1)) _;refine bI Tryz.func55 rfl ?_;conv=>whnf
  exact fin 2
 |.txt s,_,_=>by
  show SC _ _ _ _ (.val (.i .i64 2)) _;refine bI Tryz.func55 rfl ?_;conv=>whnf
  exact fin 2
 |.status,_,_=>by
  show SC _ _ _ _ (.val (.i .i64 1)) _;refine bI Tryz.func55 rfl ?_;conv=>whnf
  exact fin 2
 |.key,_,_=>by
  show SC _ _ _ _ (.val (.i .i64 1)) _;refine bI Tryz.func55 rfl ?_;conv=>whnf
  exact fin 2
 |.var s,_,h=>by
  obtain⟨f,hf,hv⟩:=OE l s;have h0:vk l s≠0:=aO h;show SC _ _ _ _ (.val (.i .i64 (vk l s))) _;rcases hv with⟨i,rfl⟩|⟨_,h1⟩
  ·skip;refine bI Tryz.func55 rfl ?_;(conv=>whnf);refine gP ?_;(conv=>whnf);refine⟨_,hf,?_⟩;(conv=>whnf);exact fin 2
  ·exact absurd h1 h0
 |.neg e,h,hn=>by
  have i:=GK l e h hn;have st0:=sL l false 10;have st1:=sL l true 10;rw[aB b4] at st0;rw[aA rfl] at st1;show SC _ _ _ _ (YL (if e.kd l=some 1 then some 1 else none)) _;cases hk:e.kd l with
  |none=>
   rw[hk] at i;replace i:SC _ _ _ _ (.panic (f6 10)) _:=i;show SC _ _ _ _ (.panic (f6 10)) _;refine bI Tryz.func55 rfl ?_;(conv=>whnf);refine cS [0,1] i ?_;(conv=>whnf);exact fin 2
  |some k=>
   rw[hk] at i;replace i:SC _ _ _ _ (.val (.i .i64 k)) _:=i;by_cases h1:k=1
   ·subst h1;show SC _ _ _ _ (.val (.i .i64 1)) _;refine bI Tryz.func55 rfl ?_;(conv=>whnf);refine cS [0,1] i ?_;(conv=>whnf);refine cS [0,1] st0 ?_;(conv=>whnf);exact fin 2
   ·rw[aB (fun h=>h1 (aV h))];show SC _ _ _ _ (.panic (f6 10)) _;have q:(k !=1)=true:=bne_iff_ne.2 h1;refine bI Tryz.func55 rfl ?_;(conv=>whnf);refine cS [0,1] i ?_;(conv=>whnf);rw[q];refine cS [0,1] st1 ?_;(conv=>whnf);exact fin 2
 |.bin op a b,h,hn=>by
  have hn':a.nm l=true/\b.nm l=true:=by simpa[Ex.nm] using hn
  have i:=GK l a h.2.1 hn'.1;have j:=GK l b h.2.2 hn'.2;have ho:=h.1;have st0:=sL l false 10;have st1:=sL l true 10;rw[aB b4] at st0;rw[aA rfl] at st1;show SC _ _ _ _ (YL (if a.kd l=some (mI op)/\b.kd l=some (mI op) then some (mI op) else none)) _;have hw:(op=[38]/\mI op=2)∨((op=[43]∨op=[45]∨op=[42])/\mI op=1):=by
   simp only[LY,dU,cZ,or_false] at ho;rcases ho with rfl|rfl|rfl|rfl
   ·exact .inr ⟨.inl rfl,by decide⟩
   ·exact .inr ⟨.inr (.inl rfl),by decide⟩
   ·exact .inr ⟨.inr (.inr rfl),by decide⟩
   ·exact .inl ⟨rfl,by decide⟩
  clear ho hn hn' h;generalize hW:mI op=W at*;clear hW;cases ha:a.kd l with
  |none=>
   rw[ha] at i;rw[aB (fun h=>by cases h.1)];replace i:SC _ _ _ _ (.panic (f6 10)) _:=i;show SC _ _ _ _ (.panic (f6 10)) _;rcases hw with⟨rfl,rfl⟩|⟨rfl|rfl|rfl,rfl⟩;all_goals
    refine bI Tryz.func55 rfl ?_;(conv=>whnf);refine GDraw.pans (f6 10) (by kernel_rfl) ?_;(conv=>whnf);refine cS [0,1] i ?_;refine⟨rfl,?_⟩;(conv=>whnf);exact fin 2
  |some ka=>
   rw[ha] at i;replace i:SC _ _ _ _ (.val (.i .i64 ka)) _:=i;cases hb:b.kd l with
   |none=>
    rw[hb] at j;rw[aB (fun h=>by cases h.2)];replace j:SC _ _ _ _ (.panic (f6 10)) _:=j;show SC _ _ _ _ (.panic (f6 10)) _;rcases hw with⟨rfl,rfl⟩|⟨rfl|rfl|rfl,rfl⟩;all_goals
     refine bI Tryz.func55 rfl ?_;(conv=>whnf);refine GDraw.pans (f6 10) (by kernel_rfl) ?_;(conv=>whnf);refine cS [0,1] i ?_;(conv=>whnf);refine cS [0,1] j ?_;refine⟨rfl,?_⟩;(conv=>whnf);exact fin 2
   |some kb=>
    rw[hb] at j;replace j:SC _ _ _ _ (.val (.i .i64 kb)) _:=j;by_cases h1:ka=W;rotate_left
    ·rw[aB (fun h=>h1 (aV h.1))];show SC _ _ _ _ (.panic (f6 10)) _;have q:(ka !=W)=true:=bne_iff_ne.2 h1;rcases hw with⟨rfl,rfl⟩|⟨rfl|rfl|rfl,rfl⟩;all_goals
      refine bI Tryz.func55 rfl ?_;(conv=>whnf);refine gP ?_;(conv=>whnf);refine cS [0,1] i ?_;(conv=>whnf);refine cS [0,1] j ?_;(conv=>whnf);rw[q];(conv=>whnf);refine cS [0,1] st1 ?_;(conv=>whnf);exact fin 2
    subst h1;by_cases h2:kb=ka;rotate_left
    ·rw[aB (fun h=>h2 (aV h.2))];show SC _ _ _ _ (.panic (f6 10)) _;have q:(kb !=ka)=true:=bne_iff_ne.2 h2;rcases hw with⟨rfl,rfl⟩|⟨rfl|rfl|rfl,rfl⟩;all_goals
      refine bI Tryz.func55 rfl ?_;(conv=>whnf);refine gP ?_;(conv=>whnf);refine cS [0,1] i ?_;(conv=>whnf);refine cS [0,1] j ?_;(conv=>whnf);rw[q];(conv=>whnf);refine cS [0,1] st1 ?_;(conv=>whnf);exact fin 2
    subst h2;rw[aA ⟨rfl,rfl⟩];show SC _ _ _ _ (.val (.i .i64 kb)) _;rcases hw with⟨rfl,rfl⟩|⟨rfl|rfl|rfl,rfl⟩;all_goals
     refine bI Tryz.func55 rfl ?_;(conv=>whnf);refine gP ?_;(conv=>whnf);refine cS [0,1] i ?_;(conv=>whnf);refine cS [0,1] j ?_;(conv=>whnf);refine cS [0,1] st0 ?_;(conv=>whnf);exact fin 2
def Ex.ck (l:List Itm) (e:Ex):Except Int Int:=if e.nm l=true then(match e.kd l with
 |some k=>.ok k
 |none=>.error 10) else .error 5
def a1Z:Except Int Int->GRes
 |.ok k=>.val (.i .i64 k)
 |.error e=>.panic (f6 e)
theorem GL [MaxL] (l:List Itm) (e:Ex) (h:e.wf):SC Tryz.prog 20 [.ptr 0 0,e.gvP] (RE l) (a1Z (e.ck l)) (RE l):=by
 have i:=WL l e h;unfold Ex.ck;cases hb:e.nm l with
 |false=>
  rw[hb] at i;replace i:SC _ _ _ _ (.panic (f6 5)) _:=i;rw[aB b4];show SC _ _ _ _ (.panic (f6 5)) _;refine bI Tryz.func20 rfl ?_;conv=>whnf
  refine cS [0,1] i ?_;conv=>whnf
  exact fin 2
 |true=>
  rw[hb] at i;replace i:SC _ _ _ _ (.val (.tup [])) _:=i;rw[aA rfl];have j:=GK l e h hb;cases hk:e.kd l with
  |none=>
   rw[hk] at j;replace j:SC _ _ _ _ (.panic (f6 10)) _:=j;show SC _ _ _ _ (.panic (f6 10)) _;refine bI Tryz.func20 rfl ?_;(conv=>whnf);refine cS [0,1] i ?_;(conv=>whnf);refine cS [0,1] j ?_;(conv=>whnf);exact fin 2
  |some k=>
   rw[hk] at j;replace j:SC _ _ _ _ (.val (.i .i64 k)) _:=j;show SC _ _ _ _ (.val (.i .i64 k)) _;refine bI Tryz.func20 rfl ?_;(conv=>whnf);refine cS [0,1] i ?_;(conv=>whnf);refine cS [0,1] j ?_;(conv=>whnf);exact fin 2
def Cn.wf:Cn->Prop
 |.zero=>False
 |.rel op a b=>op∈FP/\a.wf/\b.wf
 |.no c=>c.wf
 |.two op a b=>(op=[111,114]∨op=[97,110,100])/\a.wf/\b.wf
def Cn.er (l:List Itm):Cn->Int
 |.zero=>0
 |.rel _ a b=>match a.ck l with
  |.error e=>e
  |.ok ka=>match b.ck l with
   |.error e=>e
   |.ok kb=>if ka=kb then 0 else 10
 |.no c=>c.er l
 |.two _ a b=>if a.er l=0 then b.er l else a.er l
def vA (e:Int):GRes:=if e=0 then .val (.tup []) else .panic (f6 e)
theorem OK [MaxL] (l:List Itm):SC Tryz.prog 29 [.ptr 0 0,gU] (RE l) (.val (.tup [])) (RE l):=by
 refine bI Tryz.func29 rfl ?_;conv=>whnf
 exact fin 2
theorem Ex.ck_ne (l:List Itm) (e:Ex) {x:Int} (h:e.ck l=.error x):x≠0:=by
 unfold Ex.ck at h;split at h
 ·split at h<;>cases h;decide
 ·cases h;decide
theorem AG [MaxL] (l:List Itm):∀(c:Cn),c.wf->SC Tryz.prog 29 [.ptr 0 0,c.gvP] (RE l) (vA (c.er l)) (RE l)
 |.zero,h=>h.elim
 |.rel op a b,h=>by
  have h0:=OK l;have i:=GL l a h.2.1;have j:=GL l b h.2.2;have st0:=sL l false 10;have st1:=sL l true 10;rw[aB b4] at st0;rw[aA rfl] at st1;unfold Cn.er;cases ha:a.ck l with
  |error x=>
   have hx:=Ex.ck_ne l a ha;rw[ha] at i;replace i:SC _ _ _ _ (.panic (f6 x)) _:=i;show SC _ _ _ _ (vA x) _;unfold vA;rw[aB hx];refine bI Tryz.func29 rfl ?_;(conv=>whnf);refine cS [0,1] h0 ?_;(conv=>whnf);refine cS [0,1] h0 ?_;(conv=>whnf);refine cS [0,1] i ?_;(conv=>whnf);exact fin 2
  |ok ka=>
   rw[ha] at i;replace i:SC _ _ _ _ (.val (.i .i64 ka)) _:=i;cases hb:b.ck l with
   |error x=>
    have hx:=Ex.ck_ne l b hb;rw[hb] at j;replace j:SC _ _ _ _ (.panic (f6 x)) _:=j;show SC _ _ _ _ (vA x) _;unfold vA;rw[aB hx];refine bI Tryz.func29 rfl ?_;(conv=>whnf);refine cS [0,1] h0 ?_;(conv=>whnf);refine cS [0,1] h0 ?_;(conv=>whnf);refine cS [0,1] i ?_;(conv=>whnf);refine cS [0,1] j ?_;(conv=>whnf);exact fin 2
   |ok kb=>
    rw[hb] at j;replace j:SC _ _ _ _ (.val (.i .i64 kb)) _:=j;show SC _ _ _ _ (vA (if ka=kb then 0 else 10)) _;by_cases hk:ka=kb
    ·subst hk;rw[aA rfl];show SC _ _ _ _ (.val (.tup [])) _;have q:(ka !=ka)=false:=eO ka;refine bI Tryz.func29 rfl ?_;(conv=>whnf);refine cS [0,1] h0 ?_;(conv=>whnf);refine cS [0,1] h0 ?_;(conv=>whnf);refine cS [0,1] i ?_;(conv=>whnf);refine cS [0,1] j ?_;(conv=>whnf);rw[q];refine cS [0,1] st0 ?_;(conv=>whnf);exact fin 2
    ·rw[aB hk];show SC _ _ _ _ (.panic (f6 10)) _;have q:(ka !=kb)=true:=bne_iff_ne.2 hk;refine bI Tryz.func29 rfl ?_;(conv=>whnf);refine cS [0,1] h0 ?_;(conv=>whnf);refine cS [0,1] h0 ?_;(conv=>whnf);refine cS [0,1] i ?_;(conv=>whnf);refine cS [0,1] j ?_;(conv=>whnf);rw[q];refine cS [0,1] st1 ?_;(conv=>whnf);exact fin 2
 |.no c,h=>by
  have h0:=OK l;have i:=AG l c h;show SC _ _ _ _ (vA (c.er l)) _;unfold vA at i⊢;by_cases hx:c.er l=0
  ·rw[aA hx] at i⊢;refine bI Tryz.func29 rfl ?_;(conv=>whnf);refine cS [0,1] h0 ?_;(conv=>whnf);refine cS [0,1] i ?_;(conv=>whnf);exact fin 2
  ·rw[aB hx] at i⊢;refine bI Tryz.func29 rfl ?_;(conv=>whnf);refine cS [0,1] h0 ?_;(conv=>whnf);refine cS [0,1] i ?_;(conv=>whnf);exact fin 2
 |.two op a b,h=>by
  have i:=AG l a h.2.1;have j:=AG l b h.2.2;show SC _ _ _ _ (vA (if a.er l=0 then b.er l else a.er l)) _;unfold vA at i j⊢;by_cases hx:a.er l=0;rotate_left
  ·rw[aB hx] at i;rw[aB hx,aB hx];refine bI Tryz.func29 rfl ?_;(conv=>whnf);refine cS [0,1] i ?_;(conv=>whnf);exact fin 2
  rw[aA hx] at i;rw[aA hx];by_cases hy:b.er l=0
  ·rw[aA hy] at j⊢;refine bI Tryz.func29 rfl ?_;(conv=>whnf);refine cS [0,1] i ?_;(conv=>whnf);refine cS [0,1] j ?_;(conv=>whnf);exact fin 2
  ·rw[aB hy] at j⊢;refine bI Tryz.func29 rfl ?_;(conv=>whnf);refine cS [0,1] i ?_;(conv=>whnf);refine cS [0,1] j ?_;(conv=>whnf);exact fin 2
theorem BQ [MaxL] (l:List Itm) (e:Ex) (h:e.wf):SC Tryz.prog 19 [.ptr 0 0,.ptr 2 0] [V8 1,.mp (kE l),.box 47 [e.gvP]] (match e.ck l with
  |.ok _=>.val (.tup [])
  |.error x=>.panic (f6 x)) [V8 1,.mp (kE l),.box 47 [e.gvP]]:=by
 have i:=GL l e h;cases hk:e.ck l with
 |ok k=>
  rw[hk] at i;replace i:SC _ _ _ _ (.val (.i .i64 k)) _:=i;show SC _ _ _ _ (.val (.tup [])) _;refine bI Tryz.func19 rfl ?_;conv=>whnf
  refine cS [0,1] i ?_;conv=>whnf
  exact fin 3
 |error x=>
  rw[hk] at i;replace i:SC _ _ _ _ (.panic (f6 x)) _:=i;show SC _ _ _ _ (.panic (f6 x)) _;refine bI Tryz.func19 rfl ?_;conv=>whnf
  refine cS [0,1] i ?_;conv=>whnf
  exact fin 3
theorem BR [MaxL] (l:List Itm) (c:Cn) (h:c.wf):SC Tryz.prog 28 [.ptr 0 0,.ptr 2 0] [V8 1,.mp (kE l),.box 81 [c.gvP]] (vA (c.er l)) [V8 1,.mp (kE l),.box 81 [c.gvP]]:=by
 have i:=AG l c h;unfold vA at i⊢;by_cases hk:c.er l=0
 ·rw[aA hk] at i⊢;refine bI Tryz.func28 rfl ?_;conv=>whnf
  refine cS [0,1] i ?_;conv=>whnf
  exact fin 3
 ·rw[aB hk] at i⊢;refine bI Tryz.func28 rfl ?_;conv=>whnf
  refine cS [0,1] i ?_;conv=>whnf
  exact fin 3
