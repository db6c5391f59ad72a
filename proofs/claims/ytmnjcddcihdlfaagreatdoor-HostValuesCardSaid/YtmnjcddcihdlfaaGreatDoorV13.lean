/- Part of HostValues. -/
import Derived.Test.YtmnjcddcihdlfaaGreatDoorV12
set_option linter.all false
namespace Go.Proofs.YtmnjcddcihdlfaaGreatDoor
section
open Go.RowKit
variable [Globals]
def Tok.ren (f:Nat->Nat):Tok->Tok
 |.own r=>.own (f r)
 |k=>k
mutual
def GV.ren (f:Nat->Nat):GV->GV
 |.agg cs=>.agg (GV.renL f cs)
 |.tup cs=>.tup (GV.renL f cs)
 |.ifc t g=>.ifc t (GV.ren f g)
 |.fn k a c=>.fn k (GV.renL f a) (GV.renL f c)
 |.sl k xs=>.sl (k.ren f) (GV.renL f xs)
 |.ptr r off=>.ptr (f r) off
 |.snap cs off=>.snap (GV.renL f cs) off
 |.mp r=>.mp (f r)
 |.rs r off esz n c=>.rs (f r) off esz n c
 |.yld r=>.yld (f r)
 |.dat r cs=>.dat (f r) (GV.renL f cs)
 |.glb g off=>.glb g off
 |.b t=>.b t
 |.i k n=>.i k n
 |.s l=>.s l
 |.o v=>.o v
 |.any=>.any
def GV.renL (f:Nat->Nat):List GV->List GV
 |[]=>[]
 |x::xs=>GV.ren f x::GV.renL f xs
end
theorem bX (f:Nat->Nat):∀xs:List GV,GV.renL f xs=xs.map (GV.ren f)
 |[]=>rfl
 |x::xs=>by rw[GV.renL,bX f xs];rfl
theorem pT (f:Nat->Nat) (x:GV):(x.ren f).cells=x.cells.map (GV.ren f):=by
 cases x<;>simp[GV.ren,GV.cells,bX]
def GRes.ren (f:Nat->Nat):GRes->GRes
 |.val g=>.val (g.ren f)
 |.panic g=>.panic (g.ren f)
def GObj.ren (f:Nat->Nat):GObj->GObj
 |.box T cs=>.box T (cs.map (GV.ren f))
 |.mp es=>.mp (es.map fun e=>(e.1.ren f,e.2.ren f))
 |.mx es bs clk=>.mx (es.map fun e=>(e.1.ren f,e.2.ren f)) bs clk
 |.it m since seen last=>.it (m.map f) since seen last
 |.loop st pe n φ ps asg body rd=>.loop st pe n (fun t=>(φ t).ren f) ps asg body (f rd)
 |.own n esz ty=>.own n esz ty
 |.dfr=>.dfr
 |.dead=>.dead
 |.free=>.free
 |.held=>.held
theorem TokOk.push {D E:Cx} {f:Nat->Nat} (hown:∀i I,D.own i=some I->E.own (f i)=some I) {k:Tok} {n c esz:Nat} {a:Option Addr} (h:TokOk D k n c esz a):TokOk E (k.ren f) n c esz a:=by
 cases k with
 |none=>trivial
 |full=>exact h
 |own r=>
  obtain⟨I,hI,h1⟩:=h;exact⟨I,hown r I hI,h1⟩
theorem TokOk.pull {D E:Cx} {f:Nat->Nat} (hown:∀i,E.own i=D.own (f i)) {k:Tok} {n c esz:Nat} {a:Option Addr} (h:TokOk D (k.ren f) n c esz a):TokOk E k n c esz a:=by
 cases k with
 |none=>trivial
 |full=>exact h
 |own r=>
  obtain⟨I,hI,h1⟩:=h;exact⟨I,(hown r).trans hI,h1⟩
theorem VR.push {D E:Cx} {f:Nat->Nat} (hfx:∀b o v,D.fx b o v->E.fx b o v) (hbk:∀i b,D.bk i=some b->E.bk (f i)=some b) (hown:∀i I,D.own i=some I->E.own (f i)=some I)
  {g:GV} {v:Value} (h:VR D g v):VR E (g.ren f) v:=by
 induction h with
 |b x=>exact .b x
 |i k n=>exact .i k n
 |s x=>exact .s x
 |o h=>exact .o h
 |agg hl _ ih=>
  rw[GV.ren,bX];refine .agg (by simpa using hl) (fun j g u h1 h2=>?_);rw[aG,aC] at h1;obtain⟨a,ha,rfl⟩:=h1;exact ih j a u ha h2
 |tup hl _ ih=>
  rw[GV.ren,bX];refine .tup (by simpa using hl) (fun j g u h1 h2=>?_);rw[aG,aC] at h1;obtain⟨a,ha,rfl⟩:=h1;exact ih j a u ha h2
 |ifc _ ih=>exact .ifc ih
 |fn h1 h2 _ _ ih1 ih2=>
  rw[GV.ren,bX,bX];refine .fn (by simpa using h1) (by simpa using h2) (fun j g u h1 h2=>?_) (fun j g u h1 h2=>?_)<;>
  ·rw[aG,aC] at h1;obtain⟨a,ha,rfl⟩:=h1;first|exact ih1 j a u ha h2|exact ih2 j a u ha h2
 |sl esz b off us hn hc ha hw hx hv ht ih=>
  rw[GV.ren,bX];have get:∀{xs:List GV} {i:Nat} {x:GV} {j:Nat} {g:GV},(xs.map (GV.ren f))[i]?=some x->x.cells[j]?=some g->∃y z,xs[i]?=some y/\y.cells[j]?=some z/\g=z.ren f:=fun h1 h2=>by
   rw[aG,aC] at h1;obtain⟨y,hy,rfl⟩:=h1;rw[pT,aG,aC] at h2;obtain⟨z,hz,rfl⟩:=h2;exact⟨y,z,hy,hz,rfl⟩
  refine .sl esz b off us (by simpa using hn) hc ha (fun x hx=>?_) (fun i x j g h1 h2=>?_) (fun i x j g h1 h2=>?_) (by rw[aS];exact ht.push hown)
  ·obtain⟨y,hy,rfl⟩:=List.mem_map.1 hx;rw[pT,aS];exact hw y hy
  ·obtain⟨y,z,hy,hz,rfl⟩:=get h1 h2;exact hfx _ _ _ (hx i y j z hy hz)
  ·obtain⟨y,z,hy,hz,rfl⟩:=get h1 h2;exact ih i y j z hy hz
 |ptr h=>exact .ptr (hbk _ _ h)
 |snap b o us hx _ ih=>
  rw[GV.ren,bX];refine .snap b o us (fun j g h1=>?_) (fun j g h1=>?_)<;>
  ·rw[aG,aC] at h1;obtain⟨a,ha,rfl⟩:=h1;first|exact hfx _ _ _ (hx j a ha)|exact ih j a ha
 |mp h=>exact .mp (hbk _ _ h)
 |rs h hc hp hx=>exact .rs (hbk _ _ h) hc hp hx
 |rp h=>exact .rp (hbk _ _ h)
 |yld h=>exact .yld (hbk _ _ h)
 |dat us hx _ ht ih=>
  rw[GV.ren,bX];refine .dat us (fun j g h1=>?_) (fun j g h1=>?_) (by
   rw[aS];obtain⟨I,hI,h2⟩:=ht;exact⟨I,hown _ I hI,h2⟩)<;>
  ·rw[aG,aC] at h1;obtain⟨a,ha,rfl⟩:=h1;first|exact hfx _ _ _ (hx j a ha)|exact ih j a ha
 |glb g o=>exact .glb g o
 |any v=>exact .any v
theorem VR.pull {D E:Cx} {f:Nat->Nat} (hfx:∀b o v,D.fx b o v->E.fx b o v) (hbk:∀i,E.bk i=D.bk (f i)) (hown:∀i,E.own i=D.own (f i))
  {g':GV} {v:Value} (h:VR D g' v):∀{g:GV},g'=g.ren f->VR E g v:=by
 induction h with
 |b x=>intro g e;cases g<;>simp only[GV.ren] at e<;>first|(cases e;done)|(cases e;exact .b _)
 |i k n=>intro g e;cases g<;>simp only[GV.ren] at e<;>first|(cases e;done)|(cases e;exact .i _ _)
 |s x=>intro g e;cases g<;>simp only[GV.ren] at e<;>first|(cases e;done)|(cases e;exact .s _)
 |o h=>intro g e;cases g<;>simp only[GV.ren] at e<;>first|(cases e;done)|(cases e;exact .o h)
 |agg hl _ ih=>
  intro g e;cases g<;>simp only[GV.ren] at e<;>first|(cases e;done)|skip
  cases e;refine .agg (by simpa[bX] using hl) (fun j g u h1 h2=>ih j _ u (by rw[bX,aG,h1];rfl) h2 rfl)
 |tup hl _ ih=>
  intro g e;cases g<;>simp only[GV.ren] at e<;>first|(cases e;done)|skip
  cases e;refine .tup (by simpa[bX] using hl) (fun j g u h1 h2=>ih j _ u (by rw[bX,aG,h1];rfl) h2 rfl)
 |ifc _ ih=>
  intro g e;cases g<;>simp only[GV.ren] at e<;>first|(cases e;done)|skip
  cases e;exact .ifc (ih rfl)
 |fn h1 h2 _ _ ih1 ih2=>
  intro g e;cases g<;>simp only[GV.ren] at e<;>first|(cases e;done)|skip
  cases e;refine .fn (by simpa[bX] using h1) (by simpa[bX] using h2) (fun j g u h1 h2=>ih1 j _ u (by rw[bX,aG,h1];rfl) h2 rfl) (fun j g u h1 h2=>ih2 j _ u (by rw[bX,aG,h1];rfl) h2 rfl)
 |sl esz b off us hn hc ha hw hx hv ht ih=>
  intro g e;cases g<;>simp only[GV.ren] at e<;>first|(cases e;done)|skip
  rename_i k0 xs0;cases e;refine .sl esz b off us (by simpa[bX] using hn) hc ha (fun x hx=>?_) (fun i x j g h1 h2=>?_) (fun i x j g h1 h2=>?_) ?_
  ·have:=hw (x.ren f) (by rw[bX];exact List.mem_map.2 ⟨x,hx,rfl⟩);simpa[pT] using this
  ·exact hfx _ _ _ (hx i (x.ren f) j (g.ren f) (by rw[bX,aG,h1];rfl) (by rw[pT,aG,h2];rfl))
  ·exact ih i (x.ren f) j (g.ren f) (by rw[bX,aG,h1];rfl) (by rw[pT,aG,h2];rfl) rfl
  ·have:=ht.pull (E:=E) hown;simpa[bX] using this
 |ptr h=>
  intro g e;cases g<;>simp only[GV.ren] at e<;>first|(cases e;done)|skip
  cases e;exact .ptr ((hbk _).trans h)
 |snap b o us hx _ ih=>
  intro g e;cases g<;>simp only[GV.ren] at e<;>first|(cases e;done)|skip
  cases e;refine .snap b o us (fun j g h1=>?_) (fun j g h1=>?_)
  ·exact hfx _ _ _ (hx j (g.ren f) (by rw[bX,aG,h1];rfl))
  ·exact ih j (g.ren f) (by rw[bX,aG,h1];rfl) rfl
 |mp h=>
  intro g e;cases g<;>simp only[GV.ren] at e<;>first|(cases e;done)|skip
  cases e;exact .mp ((hbk _).trans h)
 |rs h hc hp hx=>
  intro g e;cases g<;>simp only[GV.ren] at e<;>first|(cases e;done)|skip
  cases e;exact .rs ((hbk _).trans h) hc hp hx
 |rp h=>
  intro g e;cases g<;>simp only[GV.ren] at e<;>first|(cases e;done)|skip
  cases e;exact .rp ((hbk _).trans h)
 |yld h=>
  intro g e;cases g<;>simp only[GV.ren] at e<;>first|(cases e;done)|skip
  cases e;exact .yld ((hbk _).trans h)
 |dat us hx _ ht ih=>
  intro g e;cases g<;>simp only[GV.ren] at e<;>first|(cases e;done)|skip
  cases e;refine .dat us (fun j g h1=>?_) (fun j g h1=>?_) ?_
  ·exact hfx _ _ _ (hx j (g.ren f) (by rw[bX,aG,h1];rfl))
  ·exact ih j (g.ren f) (by rw[bX,aG,h1];rfl) rfl
  ·obtain⟨I,hI,h2⟩:=ht;rw[bX,aS] at h2;exact⟨I,(hown _).trans hI,h2⟩
 |glb g o=>intro g e;cases g<;>simp only[GV.ren] at e<;>first|(cases e;done)|(cases e;exact .glb _ _)
 |any v=>intro g e;cases g<;>simp only[GV.ren] at e<;>first|(cases e;done)|(exact .any v)
theorem VRs.push {D E:Cx} {f:Nat->Nat} (hfx:∀b o v,D.fx b o v->E.fx b o v) (hbk:∀i b,D.bk i=some b->E.bk (f i)=some b) (hown:∀i I,D.own i=some I->E.own (f i)=some I)
  {gs:List GV} {vs:List Value} (h:VRs D gs vs):VRs E (gs.map (GV.ren f)) vs:=by
 refine⟨by simp[h.1],fun j g u h1 h2=>?_⟩;rw[aG,aC] at h1;obtain⟨a,ha,rfl⟩:=h1;exact(h.2 j a u ha h2).push hfx hbk hown
theorem VRs.pull {D E:Cx} {f:Nat->Nat} (hfx:∀b o v,D.fx b o v->E.fx b o v) (hbk:∀i,E.bk i=D.bk (f i)) (hown:∀i,E.own i=D.own (f i))
  {gs:List GV} {vs:List Value} (h:VRs D (gs.map (GV.ren f)) vs):VRs E gs vs:=by
 refine⟨by simpa using h.1,fun j g u h1 h2=>?_⟩;exact(h.2 j (g.ren f) u (by rw[aG,h1];rfl) h2).pull hfx hbk hown rfl
theorem ORel.push {D E:Cx} {f:Nat->Nat} {w:World} {i:Nat} {x:GObj} (hfx:∀b o v,D.fx b o v->E.fx b o v) (hbk:∀i b,D.bk i=some b->E.bk (f i)=some b) (hown:∀i I,D.own i=some I->E.own (f i)=some I)
  (eb:E.bk (f i)=D.bk i) (eo:E.own (f i)=D.own i) (hne:x≠ .held) (h:ORel D w i x):ORel E w (f i) (x.ren f):=by
 have eblk:d8 E (f i)=d8 D i:=by simp only[d8,eb,eo]
 cases x with
 |box T cs=>
  obtain⟨h0,b,vs,h1,h2,h3⟩:=h;exact⟨eo.trans h0,b,vs,eb.trans h1,h2,by rw[aS];exact h3.1.push hfx hbk hown,by rw[aS];exact h3.2⟩
 |own n esz ty=>
  obtain⟨h0,I,h1,h2,h3,h4⟩:=h;exact⟨eb.trans h0,I,eo.trans h1,h2,h3,h4⟩
 |mp es=>
  obtain⟨h0,b,ents,clk,h1,h2,h3,h4⟩:=h;refine⟨eo.trans h0,b,ents,clk,eb.trans h1,h2,?_,?_⟩
  ·have:=h3.push (f:=f) hfx hbk hown;simpa[List.map_map,dP] using this
  ·have:=h4.push (f:=f) hfx hbk hown;simpa[List.map_map,dP] using this
 |mx es bs clk=>
  obtain⟨h0,b,ents,h1,h2,h5,h3,h4⟩:=h;refine⟨eo.trans h0,b,ents,eb.trans h1,h2,h5,?_,?_⟩
  ·have:=h3.push (f:=f) hfx hbk hown;simpa[List.map_map,dP] using this
  ·have:=h4.push (f:=f) hfx hbk hown;simpa[List.map_map,dP] using this
 |it m since seen last=>
  obtain⟨h0,b,mb,h1,h2,h3⟩:=h;refine⟨eo.trans h0,b,mb,eb.trans h1,h2,fun q hq=>?_⟩;obtain⟨p,rfl,rfl⟩:=Option.map_eq_some_iff.1 hq;exact(h3 p rfl).imp fun c hc=>⟨hc.1,hbk _ _ hc.2⟩
 |loop st pe n φ ps asg body rd=>
  obtain⟨h0,b,L,h1,h2,h3,h4,h5,h6,h7,h8,h9,h10⟩:=h;exact⟨eo.trans h0,b,L,eb.trans h1,h2,h3,h4,h5,h6,h7,h8,fun t=>(h9 t).push hfx hbk hown,hbk _ _ h10⟩
 |dfr=>
  obtain⟨h0,b,h1,h2⟩:=h;exact⟨eo.trans h0,b,eb.trans h1,h2⟩
 |dead=>exact⟨h.1.imp (eb.trans ·) (eo.trans ·),fun b hb=>h.2 b (eblk▸hb)⟩
 |free=>exact⟨eb.trans h.1,eo.trans h.2⟩
 |held=>exact absurd rfl hne
theorem ORel.pull {D E:Cx} {f:Nat->Nat} {w:World} {i:Nat} {x:GObj} (hfx:∀b o v,D.fx b o v->E.fx b o v) (hbk:∀i,E.bk i=D.bk (f i)) (hown:∀i,E.own i=D.own (f i))
  (hne:x≠ .held) (h:ORel D w (f i) (x.ren f)):ORel E w i x:=by
 have eblk:d8 E i=d8 D (f i):=by simp only[d8,hbk,hown]
 cases x with
 |box T cs=>
  obtain⟨h0,b,vs,h1,h2,h3⟩:=h;exact⟨(hown i).trans h0,b,vs,(hbk i).trans h1,h2,VRs.pull (f:=f) hfx hbk hown (by have:=h3.1;rw[aS] at this;exact this),by have:=h3.2;rw[aS] at this;exact this⟩
 |own n esz ty=>
  obtain⟨h0,I,h1,h2,h3,h4⟩:=h;exact⟨(hbk i).trans h0,I,(hown i).trans h1,h2,h3,h4⟩
 |mp es=>
  obtain⟨h0,b,ents,clk,h1,h2,h3,h4⟩:=h;refine⟨(hown i).trans h0,b,ents,clk,(hbk i).trans h1,h2,VRs.pull (f:=f) hfx hbk hown ?_,VRs.pull (f:=f) hfx hbk hown ?_⟩
  ·simpa[List.map_map,dP] using h3
  ·simpa[List.map_map,dP] using h4
 |mx es bs clk=>
  obtain⟨h0,b,ents,h1,h2,h5,h3,h4⟩:=h;refine⟨(hown i).trans h0,b,ents,(hbk i).trans h1,h2,h5,VRs.pull (f:=f) hfx hbk hown ?_,VRs.pull (f:=f) hfx hbk hown ?_⟩
  ·simpa[List.map_map,dP] using h3
  ·simpa[List.map_map,dP] using h4
 |it m since seen last=>
  obtain⟨h0,b,mb,h1,h2,h3⟩:=h;exact⟨(hown i).trans h0,b,mb,(hbk i).trans h1,h2,fun q hq=>(h3 (f q) (by rw[hq];rfl)).imp fun c hc=>⟨hc.1,(hbk q).trans hc.2⟩⟩
 |loop st pe n φ ps asg body rd=>
  obtain⟨h0,b,L,h1,h2,h3,h4,h5,h6,h7,h8,h9,h10⟩:=h;exact⟨(hown i).trans h0,b,L,(hbk i).trans h1,h2,h3,h4,h5,h6,h7,h8,fun t=>(h9 t).pull hfx hbk hown rfl,(hbk _).trans h10⟩
 |dfr=>
  obtain⟨h0,b,h1,h2⟩:=h;exact⟨(hown i).trans h0,b,(hbk i).trans h1,h2⟩
 |dead=>exact⟨h.1.imp ((hbk i).trans ·) ((hown i).trans ·),fun b hb=>h.2 b (eblk▸hb)⟩
 |free=>exact⟨(hbk i).trans h.1,(hown i).trans h.2⟩
 |held=>exact absurd rfl hne
def iB (ks:List Nat) (N:Nat) (i:Nat):Nat:=if h:i<ks.length then ks[i] else N+(i - ks.length)
theorem jD {ks:List Nat} {N i:Nat} (h:i<ks.length):iB ks N i=ks[i]:=dif_pos h
theorem tM {ks:List Nat} {N i:Nat} (h:ks.length<=i):iB ks N i=N+(i - ks.length):=dif_neg (by omega)
theorem EH {ks:List Nat} (hn:ks.Nodup) {i j:Nat} (hi:i<ks.length) (hj:j<ks.length) (h:ks[i]=ks[j]):i=j:=by
 have hp:=List.pairwise_iff_getElem.1 hn;rcases Nat.lt_trichotomy i j with h1|h1|h1
 ·exact absurd h (hp i j hi hj h1)
 ·exact h1
 ·exact absurd h.symm (hp j i hj hi h1)
theorem X0 {ks:List Nat} {N:Nat} (hn:ks.Nodup) (hk:∀k∈ks,k<N) {i j:Nat} (h:iB ks N i=iB ks N j):i=j:=by
 by_cases hi:i<ks.length<;>by_cases hj:j<ks.length
 ·rw[jD hi,jD hj] at h;exact EH hn hi hj h
 ·rw[jD hi,tM (by omega)] at h;have:=hk _ (dO hi);omega
 ·rw[tM (by omega),jD hj] at h;have:=hk _ (dO hj);omega
 ·rw[tM (by omega),tM (by omega)] at h;omega
def Cx.pull (C:Cx) (f:Nat->Nat):Cx:={fx:=C.fx,bk:=fun i=>C.bk (f i),own:=fun i=>C.own (f i),hd:=C.hd,mine:=C.mine,f0:=C.f0}
structure Lies (ks:List Nat) (s:List GObj) (objs:List GObj):Prop where
 nodup:ks.Nodup
 len:ks.length=s.length
 at_:∀(i:Nat) k x,ks[i]?=some k->s[i]?=some x->objs[k]?=some (x.ren (iB ks objs.length))
 noheld:∀x∈s,x≠ .held
theorem Lies.lt {ks:List Nat} {s objs:List GObj} (h:Lies ks s objs):∀k∈ks,k<objs.length:=fun k hk=>by
 obtain⟨i,hi⟩:=List.mem_iff_getElem?.1 hk;have hi':i<s.length:=by rw[<-h.len];exact(List.getElem?_eq_some_iff.1 hi).1
 exact(List.getElem?_eq_some_iff.1 (h.at_ i k _ hi (gL hi'))).1
theorem Rel.pull {C:Cx} {σ:GS} {w0 w:World} {ks:List Nat} {s:List GObj} (h:Rel C σ w0 w) (hl:Lies ks s σ.objs):Rel (C.pull (iB ks σ.objs.length)) ⟨s,0,[]⟩ w0 w:=by
 have hlt:=hl.lt;refine⟨h.below,h.fxc,fun r x hx=>?_,fun r hr=>?_,fun r b hb=>h.new _ b hb,fun r r' b hb hb'=>X0 hl.nodup hlt (h.inj _ _ b hb hb'),
  fun r b o v hb hx=>h.sepB _ b o v hb hx,fun r I b sz o v hI hb hx=>h.sepO _ I b sz o v hI hb hx,h.fxn,h.gl,h.gs⟩
 ·have hr:r<s.length:=(List.getElem?_eq_some_iff.1 hx).1;have hr':r<ks.length:=by rw[hl.len];exact hr
  have ho:=hl.at_ r ks[r] x (gL hr') hx;have:=h.obj _ _ ho;rw[<-jD (N:=σ.objs.length) hr'] at this;exact this.pull (D:=C) (f:=iB ks σ.objs.length) (E:=C.pull (iB ks σ.objs.length)) (fun _ _ _ h=>h) (fun _=>rfl) (fun _=>rfl) (hl.noheld x (List.mem_iff_getElem?.2 ⟨r,hx⟩))
 ·have hr:s.length<=r:=hr;have:σ.objs.length<=iB ks σ.objs.length r:=by rw[tM (by rw[hl.len];exact hr)];omega
  exact h.dom _ this
def Cx.alone (C:Cx):Cx:={C with mine:=fun b=>∃i,d8 C i=some b,f0:=C.fx}
theorem VR.alone {C:Cx} {m:Nat->Prop} {f0:Nat->Nat->Value->Prop} {g:GV} {v:Value} (h:VR C g v):VR {C with mine:=m,f0:=f0} g v:=by
 induction h with
 |b x=>exact .b x
 |i k n=>exact .i k n
 |s x=>exact .s x
 |o h=>exact .o h
 |agg hs _ ih=>exact .agg hs ih
 |tup hs _ ih=>exact .tup hs ih
 |ifc _ ih=>exact .ifc ih
 |fn h1 h2 _ _ ih1 ih2=>exact .fn h1 h2 ih1 ih2
 |sl esz b off us hn hc ha hw hx hv ht ih=>exact .sl esz b off us hn hc ha hw hx ih (by rename_i k _ _ _ _ _;cases k<;>exact ht)
 |ptr h=>exact .ptr h
 |snap b o us hx _ ih=>exact .snap b o us hx ih
 |mp h=>exact .mp h
 |rs h hc hp hx=>exact .rs h hc hp hx
 |rp h=>exact .rp h
 |yld h=>exact .yld h
 |dat us hx _ ht ih=>exact .dat us hx ih ht
 |glb g o=>exact .glb g o
 |any v=>exact .any v
theorem VRs.alone {C:Cx} {m:Nat->Prop} {f0:Nat->Nat->Value->Prop} {gs:List GV} {vs:List Value} (h:VRs C gs vs):VRs {C with mine:=m,f0:=f0} gs vs:=⟨h.1,fun j g u h1 h2=>(h.2 j g u h1 h2).alone⟩
theorem ORel.alone {C:Cx} {m:Nat->Prop} {f0:Nat->Nat->Value->Prop} {w:World} {r:Nat} {x:GObj} (h:ORel C w r x):ORel {C with mine:=m,f0:=f0} w r x:=by
 cases x with
 |box T cs=>obtain⟨h0,b,vs,h1,h2,h3⟩:=h;exact⟨h0,b,vs,h1,h2,h3.1.alone,h3.2⟩
 |own n esz ty=>exact h
 |mp es=>obtain⟨h0,b,ents,clk,h1,h2,h3,h4⟩:=h;exact⟨h0,b,ents,clk,h1,h2,h3.alone,h4.alone⟩
 |mx es bs clk=>obtain⟨h0,b,ents,h1,h2,h5,h3,h4⟩:=h;exact⟨h0,b,ents,h1,h2,h5,h3.alone,h4.alone⟩
 |loop st pe n φ ps asg body rd=>
  obtain⟨h0,b,L,h1,h2,h3,h4,h5,h6,h7,h8,h9,h10⟩:=h;exact⟨h0,b,L,h1,h2,h3,h4,h5,h6,h7,h8,fun t=>(h9 t).alone,h10⟩
 |_=>exact h
theorem Rel.alone {C:Cx} {σ:GS} {w0 w:World} (h:Rel C σ w0 w):Rel C.alone σ w w:=
 ⟨.refl _ _,h.fxc,fun r x hx=>(h.obj r x hx).alone,h.dom,fun r b hb=>.inr ⟨r,hb⟩,h.inj,h.sepB,h.sepO,fun b o v hx=>.inl hx,h.gl,fun g cs hg=>by
  obtain⟨h1,c,t,fr,h2,h3⟩:=h.gs g cs hg;have hlt:g<w0.heap.size:=(Array.getElem?_eq_some_iff.1 h2).1;refine⟨fun⟨i,hb⟩=>?_,c,t,fr,by rw[h.below.block g hlt h1];exact h2,h3⟩;rcases h.new i g hb with h4|h4
  ·omega
  ·exact h1 h4⟩
theorem ERel.push {D E:Cx} {f:Nat->Nat} (hfx:∀b o v,D.fx b o v->E.fx b o v) (hbk:∀i b,D.bk i=some b->E.bk (f i)=some b) (hown:∀i I,D.own i=some I->E.own (f i)=some I)
  {r:GRes} {e:Ending} (h:ERel D r e):ERel E (r.ren f) e:=by
 cases r with
 |val g=>obtain⟨v,e1,h1⟩:=h;exact⟨v,e1,h1.push hfx hbk hown⟩
 |panic g=>obtain⟨v,e1,h1⟩:=h;exact⟨v,e1,h1.push hfx hbk hown⟩
theorem ERel.pull {D E:Cx} {f:Nat->Nat} (hfx:∀b o v,D.fx b o v->E.fx b o v) (hbk:∀i,E.bk i=D.bk (f i)) (hown:∀i,E.own i=D.own (f i))
  {r:GRes} {e:Ending} (h:ERel D (r.ren f) e):ERel E r e:=by
 cases r with
 |val g=>obtain⟨v,e1,h1⟩:=h;exact⟨v,e1,h1.pull hfx hbk hown rfl⟩
 |panic g=>obtain⟨v,e1,h1⟩:=h;exact⟨v,e1,h1.pull hfx hbk hown rfl⟩
def hY (ks:List Nat) (s':List GObj) (objs:List GObj):List GObj:=
 (objs.zipIdx.map fun p=>match ks.idxOf? p.2 with
  |some i=>match s'[i]? with
   |some x=>x.ren (iB ks objs.length)
   |none=>p.1
  |none=>p.1)++(s'.drop ks.length).map (GObj.ren (iB ks objs.length))
def fU (ks:List Nat) (N r:Nat):Option Nat:=if r<N then ks.idxOf? r else some (ks.length+(r - N))
theorem oP {ks:List Nat} {r i:Nat} (h:ks.idxOf? r=some i):ks[i]?=some r:=by
 unfold List.idxOf? at h;have h1:=List.findIdx?_eq_some_iff_getElem.1 h;obtain⟨hi,h2,_⟩:=h1;rw[gL hi];simpa using h2
theorem wS {ks:List Nat} (hn:ks.Nodup) {r i:Nat} (h:ks[i]?=some r):ks.idxOf? r=some i:=by
 cases hx:ks.idxOf? r with
 |none=>
  unfold List.idxOf? at hx;rw[List.findIdx?_eq_none_iff] at hx;have:=hx r (List.mem_iff_getElem?.2 ⟨i,h⟩);simp at this
 |some j=>
  have hj:=oP hx;have hi':=(List.getElem?_eq_some_iff.1 h);have hj':=(List.getElem?_eq_some_iff.1 hj);obtain⟨a,ha⟩:=hi';obtain⟨b,hb⟩:=hj';rw[EH hn b a (hb.trans ha.symm)]
theorem P9 {ks:List Nat} {N:Nat} (hn:ks.Nodup) (hk:∀k∈ks,k<N) (i:Nat):fU ks N (iB ks N i)=some i:=by
 unfold fU;by_cases hi:i<ks.length
 ·rw[jD hi,aA (hk _ (dO hi))];exact wS hn (gL hi)
 ·rw[tM (by omega),aB (by omega)];congr 1;omega
theorem QX {ks:List Nat} {N r i:Nat} (h:fU ks N r=some i):iB ks N i=r:=by
 unfold fU at h;split at h
 ·have h1:=oP h;obtain⟨hi,h2⟩:=List.getElem?_eq_some_iff.1 h1;rw[jD hi];exact h2
 ·cases h;rw[tM (by omega)];omega
theorem iR {ks:List Nat} {s' objs:List GObj} (hk:∀k∈ks,k<objs.length) (hlen:ks.length<=s'.length) (r:Nat):
  (hY ks s' objs)[r]?=match fU ks objs.length r with
   |some i=>(s'[i]?).map (GObj.ren (iB ks objs.length))
   |none=>objs[r]?:=by
 unfold hY fU;by_cases hr:r<objs.length
 ·rw[aU (by simpa using hr),aA hr,aG,List.getElem?_zipIdx,gL hr];simp only[aT,bM];cases hx:ks.idxOf? r with
  |none=>rfl
  |some i=>
   have hi:=(List.getElem?_eq_some_iff.1 (oP hx)).1;simp only;rw[gL (show i<s'.length by omega)];rfl
 ·rw[bT (by simpa using hr),aB hr];simp only[aS,List.length_zipIdx,aG,eP]
theorem yR {ks:List Nat} {s' objs:List GObj} (hlen:ks.length<=s'.length):(hY ks s' objs).length=objs.length+(s'.length - ks.length):=by
 simp[hY]
structure SC (P:Program) (k:FuncId) (args:List GV) (s:List GObj) (r:GRes) (s':List GObj):Prop where
 len:s.length<=s'.length
 calls:∀(C:Cx) (w:World) (vs:Array Value),Rel C ⟨s,0,[]⟩ w w->VRs C args vs.toList->Calls P k vs w fun e w'=>∃D,C.le D/\Rel D ⟨s',0,[]⟩ w w'/\ERel D r e
 noheld:∀x∈s',x≠ .held
structure Fact (P:Program) (t:Tgt) (args:List GV) (σ:GS) (r:GRes) (σ':GS):Prop where
 keep:Keep σ σ'
 ds:σ'.ds=σ.ds
 calls:∀(w0:World) (C:Cx) (w:World) (vs:Array Value),Rel C σ w0 w->VRs C args vs.toList->P4 P C t vs w fun e w'=>∃D,C.le D/\Rel D σ' w0 w'/\ERel D r e
def Wk (g g':GV):Prop:=∀(C:Cx) (v:Value),VR C g v->VR C g' v
theorem Wk.refl (g:GV):Wk g g:=fun _ _ h=>h
def iN:=@Wk.refl
theorem Wk.sl (k:Tok) (xs:List GV):Wk (.sl k xs) (.sl .none xs):=fun C v h=>by
 cases h with
 |sl esz b off us hn hc ha hw hx hv ht=>exact .sl esz b off us hn hc ha hw hx hv trivial
def b5:=@Wk.sl
def Wks:List GV->List GV->Prop
 |[],[]=>True
 |g::gs,h::hs=>Wk g h/\Wks gs hs
 |_,_=>False
theorem Wks.refl:∀gs:List GV,Wks gs gs
 |[]=>trivial
 |g::gs=>⟨.refl g,Wks.refl gs⟩
theorem wR (g:List GV):Wks g g:=Wks.refl g
theorem Wks.vrs {C:Cx}:∀{gs hs:List GV} {vs:List Value},Wks gs hs->VRs C gs vs->VRs C hs vs
 |[],[],_,_,h=>h
 |g::gs,h::hs,vs,hw,hv=>by
  obtain⟨v,vs',rfl,h1,h2⟩:=hv.cons_inv;exact .cons (hw.1 C v h1) (hw.2.vrs h2)
 |[],_::_,_,h,_=>h.elim
 |_::_,[],_,h,_=>h.elim
theorem SC.fact {P : Program} {k : FuncId} {args args' : List GV} {s s' : List GObj} {r : GRes} {σ : GS} (h : SC P k args s r s') (ks : List Nat) (hl : Lies ks s σ.objs) (hlo : σ.lo = 0)
    (hargs : Wks args' (args.map (GV.ren (iB ks σ.objs.length)))) : Fact P (.fn k) args' σ (r.ren (iB ks σ.objs.length)) { σ with objs := hY ks s' σ.objs } := by
  have hlt := hl.lt
  have hkl : ks.length ≤ s'.length := by rw [hl.len]; exact h.len
  have hget := iR (s' := s') hlt hkl
  generalize hf : iB ks σ.objs.length = f at *
  have funemb : ∀ r i, fU ks σ.objs.length r = some i → f i = r := fun r i hi => by rw [← hf]; exact QX hi
  have unf : ∀ i, fU ks σ.objs.length (f i) = some i := fun i => by rw [← hf]; exact P9 hl.nodup hlt i
  refine ⟨⟨rfl, ?_, fun _ r hr => ?_, fun r hr => ?_⟩, rfl, fun w0 C w vs hr hv => ?_⟩
  · show σ.objs.length ≤ (hY ks s' σ.objs).length
    rw [yR hkl]; omega
  · rw [hlo] at hr; omega
  · show (hY ks s' σ.objs)[r]? = _
    rw [hget r]
    cases hu : fU ks σ.objs.length r with
    | none => exact hr
    | some i =>
      exfalso
      have hrl := (List.getElem?_eq_some_iff.1 hr).1
      have hu' : ks.idxOf? r = some i := by unfold fU at hu; rw [aA hrl] at hu; exact hu
      have hki := oP hu'
      have hi : i < s.length := by rw [← hl.len]; exact (List.getElem?_eq_some_iff.1 hki).1
      have := hl.at_ i r _ hki (gL hi)
      rw [hr] at this
      have hne := hl.noheld s[i] (dO hi)
      revert this
      cases hx : s[i] <;> simp [GObj.ren]
      exact hne hx
  · have hpull := hr.pull hl
    rw [hf] at hpull
    have hrel1 := hpull.alone
    have hv1 : VRs (C.pull f).alone args vs.toList := ((hargs.vrs hv).pull (D := C) (f := f) (E := C.pull f) (fun _ _ _ h => h) (fun _ => rfl) (fun _ => rfl)).alone
    refine Calls.mono (h.calls _ w vs hrel1 hv1) ?_
    rintro e w' ⟨D, hle, hD, hE⟩
    have cmine : ∀ b, (C.pull f).alone.mine b ↔ ∃ i, d8 C (f i) = some b := fun b => Iff.rfl
    let E : Cx := { fx := D.fx, bk := fun r => match fU ks σ.objs.length r with | some i => D.bk i | none => C.bk r,
                    own := fun r => match fU ks σ.objs.length r with | some i => D.own i | none => C.own r, hd := C.hd, mine := C.mine, f0 := C.f0 }
    have Ebk : ∀ i, E.bk (f i) = D.bk i := fun i => by show (match fU ks σ.objs.length (f i) with | some i => D.bk i | none => C.bk (f i)) = _; rw [unf i]
    have Eown : ∀ i, E.own (f i) = D.own i := fun i => by show (match fU ks σ.objs.length (f i) with | some i => D.own i | none => C.own (f i)) = _; rw [unf i]
    have EbkN : ∀ r, fU ks σ.objs.length r = none → E.bk r = C.bk r := fun r hr => by show (match fU ks σ.objs.length r with | some i => D.bk i | none => C.bk r) = _; rw [hr]
    have EownN : ∀ r, fU ks σ.objs.length r = none → E.own r = C.own r := fun r hr => by show (match fU ks σ.objs.length r with | some i => D.own i | none => C.own r) = _; rw [hr]
    have Eblk : ∀ i, d8 E (f i) = d8 D i := fun i => by simp only [d8, Ebk, Eown]
    have EblkN : ∀ r, fU ks σ.objs.length r = none → d8 E r = d8 C r := fun r hr => by simp only [d8, EbkN r hr, EownN r hr]
    have hCE : C.le E := by
      refine ⟨hle.fx, fun r b hb => ?_, fun r I hI => ?_, rfl, rfl, rfl⟩
      · cases hu : fU ks σ.objs.length r with
        | none => rw [EbkN r hu]; exact hb
        | some i =>
          obtain rfl := funemb r i hu
          rw [Ebk]; exact hle.bk i b hb
      · cases hu : fU ks σ.objs.length r with
        | none => exact ⟨I, (EownN r hu).trans hI, .inl rfl⟩
        | some i =>
          obtain rfl := funemb r i hu
          rw [Eown]; exact hle.own i I hI
    have other : ∀ r b, fU ks σ.objs.length r = none → d8 C r = some b → b < w.heap.size ∧ ¬ (C.pull f).alone.mine b := fun r b hu hb => by
      refine ⟨n8 hr hb, fun hm => ?_⟩
      obtain ⟨i, hi⟩ := (cmine b).1 hm
      have := hr.inj r (f i) b hb hi
      rw [this, unf i] at hu; cases hu
    have same : ∀ b, b < w.heap.size → ¬ (C.pull f).alone.mine b → w'.heap[b]? = w.heap[b]? := fun b h1 h2 => hD.below.block b h1 (by rw [hle.fix.1]; exact h2)
    have minenew : ∀ b, (C.pull f).alone.mine b → w0.heap.size ≤ b ∨ C.mine b := fun b hm => by
      obtain ⟨i, hi⟩ := (cmine b).1 hm
      exact hr.new _ b hi
    have hfxn : ∀ b o v, D.fx b o v → C.fx b o v ∨ w.heap.size ≤ b ∨ (C.pull f).alone.mine b := fun b o v hx => by
      have := hD.fxn b o v hx
      rw [hle.fix.1, hle.fix.2] at this
      exact this
    refine ⟨E, hCE, ?_, hE.push (D := D) (E := E) (f := f) (fun _ _ _ h => h) (fun i b hb => (Ebk i).trans hb) (fun i I hI => (Eown i).trans hI)⟩
    refine ⟨?_, hD.fxc, fun r x hx => ?_, fun r hrr => ?_, fun r b hb => ?_, fun r r' b hb hb' => ?_, fun r b o v hb hx => ?_, fun r I b sz o v hI hb hx => ?_, fun b o v hx => ?_, hD.gl, hr.gs⟩
    · refine ⟨hD.below.os.trans hr.below.os, hD.below.output.trans hr.below.output, gX hr.below.size hD.below.size, fun b hb hm => ?_⟩
      rw [← hr.below.block b hb hm]
      refine same b (bV hb hr.below.size) (fun h => ?_)
      rcases minenew b h with h1 | h1
      · omega
      · exact hm h1
    · have hx : (hY ks s' σ.objs)[r]? = some x := hx
      rw [hget r] at hx
      cases hu : fU ks σ.objs.length r with
      | none =>
        rw [hu] at hx
        refine ORel.keep' hCE (EbkN r hu) (EownN r hu) (fun b hb => bV (n8 hr hb) hD.below.size) (fun b hb => ?_) (hr.obj r x hx)
        obtain ⟨h1, h2⟩ := other r b hu hb
        exact same b h1 h2
      | some i =>
        rw [hu] at hx
        rw [aC] at hx
        obtain ⟨y, hy, rfl⟩ := hx
        obtain rfl := funemb r i hu
        exact (hD.obj i y hy).push (D := D) (E := E) (f := f) (fun _ _ _ h => h) (fun i b hb => (Ebk i).trans hb) (fun i I hI => (Eown i).trans hI) (Ebk i) (Eown i) (h.noheld y (List.mem_iff_getElem?.2 ⟨i, hy⟩))
    · have hrr : σ.objs.length + (s'.length - ks.length) ≤ r := by
        have : (hY ks s' σ.objs).length ≤ r := hrr
        rwa [yR hkl] at this
      have hu : fU ks σ.objs.length r = some (ks.length + (r - σ.objs.length)) := by unfold fU; rw [aB (by omega)]
      obtain ⟨h1, h2⟩ := hD.dom (ks.length + (r - σ.objs.length)) (by show s'.length ≤ _; omega)
      have := funemb r _ hu
      rw [← this, Ebk, Eown]
      exact ⟨h1, h2⟩
    · cases hu : fU ks σ.objs.length r with
      | none => rw [EblkN r hu] at hb; exact hr.new r b hb
      | some i =>
        obtain rfl := funemb r i hu
        rw [Eblk] at hb
        rcases hD.new i b hb with h1 | h1
        · exact .inl (gX hr.below.size h1)
        · rw [hle.fix.1] at h1; exact minenew b h1
    · have mixed : ∀ i q b, fU ks σ.objs.length q = none → d8 D i = some b → d8 C q = some b → False := fun i q b hu h1 h2 => by
        obtain ⟨h3, h4⟩ := other q b hu h2
        rcases hD.new i b h1 with h5 | h5
        · omega
        · rw [hle.fix.1] at h5; exact h4 h5
      cases hu : fU ks σ.objs.length r with
      | none =>
        rw [EblkN r hu] at hb
        cases hu' : fU ks σ.objs.length r' with
        | none => rw [EblkN r' hu'] at hb'; exact hr.inj _ _ b hb hb'
        | some i =>
          obtain rfl := funemb r' i hu'
          rw [Eblk] at hb'
          exact (mixed i r b hu hb' hb).elim
      | some i =>
        obtain rfl := funemb r i hu
        rw [Eblk] at hb
        cases hu' : fU ks σ.objs.length r' with
        | none => rw [EblkN r' hu'] at hb'; exact (mixed i r' b hu' hb hb').elim
        | some i' =>
          obtain rfl := funemb r' i' hu'
          rw [Eblk] at hb'
          rw [hD.inj i i' b hb hb']
    · have hx : D.fx b o v := hx
      cases hu : fU ks σ.objs.length r with
      | none =>
        rw [EbkN r hu] at hb
        obtain ⟨h3, h4⟩ := other r b hu (dM hb)
        rcases hfxn b o v hx with h5 | h5 | h5
        · exact hr.sepB r b o v hb h5
        · omega
        · exact h4 h5
      | some i =>
        obtain rfl := funemb r i hu
        rw [Ebk] at hb
        exact hD.sepB i b o v hb hx
    · have hx : D.fx b o v := hx
      cases hu : fU ks σ.objs.length r with
      | none =>
        rw [EownN r hu] at hI
        have hbk0 : C.bk r = none := by
          rcases dF r σ.objs.length with h1 | h1
          · rcases (hr.obj r _ (gL h1)).one with h2 | h2
            · exact h2
            · rw [h2] at hI; cases hI
          · exact (hr.dom r h1).1
        obtain ⟨h3, h4⟩ := other r b hu (jJ hbk0 hI hb)
        rcases hfxn b o v hx with h5 | h5 | h5
        · exact hr.sepO r I b sz o v hI hb h5
        · omega
        · exact (h4 h5).elim
      | some i =>
        obtain rfl := funemb r i hu
        rw [Eown] at hI
        exact hD.sepO i I b sz o v hI hb hx
    · have hx : D.fx b o v := hx
      rcases hfxn b o v hx with h5 | h5 | h5
      · exact hr.fxn b o v h5
      · exact .inr (.inl (gX hr.below.size h5))
      · exact .inr (minenew b h5)
end
section
open Go.RowKit
variable [Globals]
def xI (M:FuncId->Bool) (ops:Array Oper):Bool:=
 let A:=gW ops.toList []
 (List.range ops.size).all fun j=>
  match ops[j]? with
  |none=>true
  |some oj=>
   (oj.after.all fun e=>!Region.binds .any e||decide (e.on<j))&&cF M oj.op !=2&&
   (List.range j).all fun i=>
    match ops[i]? with
    |none=>true
    |some oi=>(A.getD j []).contains i||oi.apart ops oj
section
variable {P : Program} {call : Nat → dQ} {M : FuncId → Bool} {w0 : World} {n : Nat} {ops : Array Oper} {Φ : Nat → Fr} {G : Nat → GV} {D : Nat → Bool}
theorem CW (hc:xI M ops=true) {i j:Nat} {oi oj:Oper} (hi:ops[i]?=some oi) (hj:ops[j]?=some oj) (hij:i<j):i∈(gW ops.toList []).getD j []∨oi.apart ops oj=true:=by
 unfold xI at hc;simp only[aZ,d9] at hc;have h1:=hc j (Array.getElem?_eq_some_iff.1 hj).1;simp only[hj,aF,aZ,d9] at h1;have h2:=h1.2 i hij;simpa only[hi,dJ,List.contains_iff_mem] using h2
theorem NH (hc:xI M ops=true) {j:Nat} {oj:Oper} (hj:ops[j]?=some oj):∀e∈oj.after,Region.binds .any e=true->e.on<j:=by
 unfold xI at hc;simp only[aZ,d9] at hc;have h1:=hc j (Array.getElem?_eq_some_iff.1 hj).1;simp only[hj,aF] at h1;intro e he hb;have h2:=(Array.all_eq_true_iff_forall_mem.1 h1.1.1) e he;simpa[hb] using h2
theorem NA {N:Nat} (hp:∀i,i<N->∀t,Φ (i+1) t=if D i=false/\eX ops i=some t then G i else Φ i t) {L:Array Bool} {j t:Nat} (hL:∀i,D i=true->L.getD i false=false)
  (hw:∀i,i<N->D i=false->eX ops i=some t->(i<j->L.getD i false=true)/\(j<=i->L.getD i false=false)):
  ∀k,k<=N->jX ops G (Φ 0) L k t=Φ (min k j) t
 |0,_=>by simp[jX]
 |k+1,hk=>by
  have ih:=NA hp hL hw k (by omega);have hp:=hp k (by omega) t;simp only[jX];by_cases hd:D k=false/\eX ops k=some t
  ·obtain⟨h1,h2⟩:=hw k (by omega) hd.1 hd.2;by_cases hkj:k<j
   ·rw[h1 hkj,aA rfl,eI,aA hd.2,show min (k+1) j=k+1 by omega,hp,aA hd]
   ·rw[h2 (by omega)];simp only[aY,cO];rw[ih,show min (k+1) j=min k j by omega]
  ·have e:(if L.getD k false=true then f5 (jX ops G (Φ 0) L k) (eX ops k) (G k) else jX ops G (Φ 0) L k) t=jX ops G (Φ 0) L k t:=by
    by_cases hDk:D k=true
    ·rw[hL k hDk];rfl
    ·split
     ·rw[eI,aB (fun h=>hd ⟨by simpa using hDk,h⟩)]
     ·rfl
   rw[e,ih];by_cases hkj:k<j
   ·rw[show min (k+1) j=k+1 by omega,show min k j=k by omega,hp,aB hd]
   ·rw[show min (k+1) j=min k j by omega]
theorem KY (hm:P.follows .mixedOrders=true) (hcall:∀i,bK P w0 (call i)) {ro:Option Nat} {C:Cx} {φ:Fr} {σ:GS} {id:Nat} {Q:Exit->Act->World->Prop} {a:Act} {w:World} {g:GV}
  (hcalm:xI M ops=true) (p:Nat) (hps:p<ops.size) (hDp:D p=true)
  (T:∀(i:Nat) o,ops[i]?=some o->D i=false->(o.dst.all fun d=>decide (d<n))=true/\(∀t,Φ (i+1) t=if eX ops i=some t then G i else Φ i t)/\(∀k∈(gW ops.toList []).getD i [],D k=false)/\
   ((bF ops o (Φ i)=some false/\G i=.tup [])∨(bF ops o (Φ i)=some true/\cE P (call i) o (bO (Φ i)) σ=some (.val (G i),σ))))
  (U:∀(i:Nat) o,ops[i]?=some o->D i=true->(∀t,Φ (i+1) t=Φ i t)/\((∃k∈(gW ops.toList []).getD i [],D k=true)∨(bF ops o (Φ i)=some true/\cE P (call i) o (bO (Φ i)) σ=some (.panic g,σ))))
  (e1:Φ 0=φ) (hr:Rel C σ w0 w) (hf:FRel C φ a) (hn:a.tmps.size=n) (hd0:DRel C σ.ds a.defers) (hq:QOk w0 C Q n (.panic g) (DE ops φ) σ):(Code.region id ops true).wpIn (FW ro) 0 P Q a w:=by
 have hput:∀i,i<ops.size->∀t,Φ (i+1) t=if D i=false/\eX ops i=some t then G i else Φ i t:=fun i hi t=>by
  have ho:ops[i]?=some (ops[i]'(by omega)):=aK (by omega);cases hD:D i with
  |false=>
   rw[(T i _ ho hD).2.1 t];simp
  |true=>rw[(U i _ ho hD).1 t];simp
 have ahead:∀(L:Array Bool),kW ops L->∀(i j:Nat) oi oj,ops[i]?=some oi->ops[j]?=some oj->i<j->i∈(gW ops.toList []).getD j []->
   ((∀e∈oj.after,Region.binds .any e=true->L.getD e.on false=true)->L.getD i false=true)/\(L.getD i false=false->L.getD j false=false):=fun L hc i j oi oj hi hj hij hanc=>by
  refine⟨fun hready=>lO hc j oj hj hready i hanc,fun hni=>?_⟩;cases hjl:L.getD j false with
  |false=>rfl
  |true=>
   have:=lO hc j oj hj (fun e he hb=>hc j oj hj hjl e he hb) i hanc;rw[hni] at this;cases this
 have key:∀(fuel:Nat) (L:Array Bool) (E:Cx) (a':Act) (w':World),L.size=ops.size->kW ops L->(∀i,D i=true->L.getD i false=false)->nC L ops.size<=fuel->C.le E->Rel E σ w0 w'->
   FRel E (jX ops G (Φ 0) L ops.size) a'->a'.tmps.size=n->a'.defers=a.defers->wpAnyIn (FW ro) 0 P .any ops Q fuel L a' w':=by
  intro fuel;induction fuel with
  |zero=>
   intro L E a' w' hLs hc hdead hcnt hl hrel hfr hna hda;have hall:=qO (L:=L) ops.size (by omega) p hps;rw[hdead p hDp] at hall;cases hall
  |succ fuel ih=>
   intro L E a' w' hLs hc hdead hcnt hl hrel hfr hna hda;refine⟨fun hend=>?_,fun j hj=>?_⟩
   ·have hall:∀i,i<ops.size->L.getD i false=true:=by
     intro i;induction i using Nat.strongRecOn with
     |_ i ihi=>
      intro hi;cases hb:L.getD i false with
      |true=>rfl
      |false=>
       have ho:ops[i]?=some (ops[i]'hi):=aK hi;have:i∈Region.ready .any ops L:=mem_ready.2 ⟨by
        rw[aP] at hb⊢;rw[aK (by omega:i<L.size)] at hb⊢;simpa using hb,_,ho,fun e he hbe=>by
         have:=NH hcalm ho e he hbe;exact ihi e.on this (by omega)⟩
       rw[hend] at this;cases this
    have:=hall p hps;rw[hdead p hDp] at this;cases this
   ·obtain⟨hj0,o,ho,hready⟩:=mem_ready.1 hj;have hjs:=(Array.getElem?_eq_some_iff.1 ho).1;have hjn:L.getD j false=false:=by
     rw[aP] at hj0⊢;rw[aK (by omega:j<L.size)] at hj0⊢;simpa using hj0
    have names:∀t,(t∈o.looksAt ops∨o.dst=some t)->∀i,i<ops.size->D i=false->eX ops i=some t->(i<j->L.getD i false=true)/\(j<=i->L.getD i false=false):=fun t ht i hi _ hd=>by
     have hoi:ops[i]?=some (ops[i]'(by omega)):=aK (by omega);have hdi:(ops[i]'(by omega)).dst=some t:=by rw[eX,hoi,bC] at hd;exact hd
     refine⟨fun hij=>?_,fun hij=>?_⟩
     ·rcases CW hcalm hoi ho hij with h1|h1
      ·exact(ahead L hc i j _ _ hoi ho hij h1).1 hready
      ·obtain⟨a1,a2,a3⟩:=Oper.apart_spec h1;rcases ht with ht|ht
       ·exact absurd ht (a1 t hdi)
       ·exact absurd ht (a2 t hdi)
     ·by_cases hij2:i=j
      ·subst hij2;exact hjn
      ·rcases CW hcalm ho hoi (by omega) with h1|h1
       ·exact(ahead L hc j i _ _ ho hoi (by omega) h1).2 hjn
       ·obtain⟨a1,a2,a3⟩:=Oper.apart_spec h1;rcases ht with ht|ht
        ·exact absurd ht (a3 t hdi)
        ·exact absurd hdi (a2 t ht)
    have hframe:∀t,(t∈o.looksAt ops∨o.dst=some t)->jX ops G (Φ 0) L ops.size t=Φ j t:=fun t ht=>by
     rw[NA hput hdead (names t ht) ops.size (rL _),show min ops.size j=j by omega]
    have hwant:bF ops o (jX ops G (Φ 0) L ops.size)=bF ops o (Φ j):=by
     unfold bF;cases hgd:o.guard with
     |none=>rfl
     |some gw=>
      obtain⟨k,want⟩:=gw;simp only;congr 1;unfold r7;cases hdk:(ops[k]?).bind (·.dst) with
      |none=>rfl
      |some d=>
       simp only;rw[hframe d (.inl (by simp[Oper.looksAt,hgd,hdk]))]
    have hcong:∀τ,cE P (call j) o (bO (jX ops G (Φ 0) L ops.size)) τ=cE P (call j) o (bO (Φ j)) τ:=fun τ=>oS (fun x hx=>by
     cases x with
     |tmp t=>exact hframe t (.inl (by
       unfold Oper.looksAt;exact List.mem_append_left _ (List.mem_filterMap.2 ⟨.tmp t,by simpa using hx,rfl⟩)))
     |_=>rfl)
    cases hDj:D j with
    |true=>
     obtain⟨hw,hpan⟩:=(U j o ho hDj).2.resolve_left (fun⟨k,hk,hDk⟩=>by
      have h1:=lO hc j o ho hready k hk;rw[hdead k hDk] at h1;cases h1)
     unfold wpOpIn;simp only[ho];rw[dB hfr (hwant.trans hw)];simp only[dL];refine fL (hcall j) hrel (cQ hfr) ((hcong σ).trans hpan) (fun g' F v w'' eg=>by cases eg) (fun g' F v w'' eg hE hrE hv=>?_);cases eg;refine hq F a' w'' (hl.trans hE) (fun t=>?_) hna (by rw[hda];exact hd0.mono (hl.trans hE)) hrE v hv;unfold DE;split
     ·exact .any _
     ·rename_i h;have h:(ops.toList.any fun o=>o.dst==some t)=false:=by simpa using h
      have:=hfr t;rw[CI ops.size (rL _) h,e1] at this;exact this.mono hE
    |false=>
     obtain⟨hdst,_,hanc,hstep⟩:=T j o ho hDj;let L':=L.setIfInBounds j true;have hL'o:∀i,i≠j->L'.getD i false=L.getD i false:=fun i hi=>getD_set_ne false (Ne.symm hi);have hL'j:L'.getD j false=true:=by
      simp[L',aP,show j<L.size by omega]
     have hc':kW ops L':=fun k ok hk hkl e he hb=>by
      by_cases hkj:k=j
      ·subst hkj;rw[ho] at hk;cases hk;exact getD_set_true (hready e he hb)
      ·rw[hL'o k hkj] at hkl;exact getD_set_true (hc k ok hk hkl e he hb)
     have hcnt':nC L' ops.size<=fuel:=by
      have:=(uF hL'o hL'j hjn ops.size).2 hjs;omega
     have hdead':∀i,D i=true->L'.getD i false=false:=fun i hi=>by
      rw[hL'o i (fun e=>by subst e;rw[hi] at hDj;cases hDj)];exact hdead i hi
     have next:∀(E':Cx) (v:Value) (w'':World),E.le E'->Rel E' σ w0 w''->VR E' (G j) v->wpAnyIn (FW ro) 0 P .any ops Q fuel L' (a'.put o.dst v) w'':=fun E' v w'' hE hrE hv=>by
      obtain⟨q1,q2,q3⟩:=(hfr.mono hE).put (d:=o.dst) hv hna (n:=n) hdst;refine ih L' E' _ _ (by simp[L',hLs]) hc' hdead' hcnt' (hl.trans hE) hrE (fun t=>?_) q2 (q3.trans hda);have hq1:=q1 t;rw[eI] at hq1;by_cases ht:o.dst=some t
      ·rw[aA ht] at hq1;have h1:=NA hput hdead' (L:=L') (j:=j+1) (t:=t) (fun i hi hDi hd=>by
        obtain⟨n1,n2⟩:=names t (.inr ht) i hi hDi hd;refine⟨fun hij=>?_,fun hij=>?_⟩
        ·by_cases hij2:i=j
         ·subst hij2;exact hL'j
         ·rw[hL'o i hij2];exact n1 (by omega)
        ·rw[hL'o i (by omega)];exact n2 (by omega)) ops.size (rL _)
       rw[h1,show min ops.size (j+1)=j+1 by omega,hput j hjs t,aA ⟨hDj,by rw[eX,ho,bC];exact ht⟩];exact hq1
      ·rw[aB ht] at hq1;rw[nS hL'o (by rw[eX,ho,bC];exact ht)];exact hq1
     unfold wpOpIn;simp only[ho];rcases hstep with⟨hw,hG⟩|⟨hw,hop⟩
     ·rw[dB hfr (hwant.trans hw)];simp only[aY,cO];exact⟨fun _ _=>trivial,next E undef w' (.refl E) hrel (by rw[hG];exact qQ E)⟩
     ·rw[dB hfr (hwant.trans hw)];simp only[dL];refine fL (hcall j) hrel (cQ hfr) ((hcong σ).trans hop) (fun g' F v w'' eg hE hrE hv=>?_) (fun g' F v w'' eg=>by cases eg);cases eg;exact next F v w'' hE hrE hv
 refine wpIn_region_any hm (key ops.size (Array.replicate ops.size false) C a _ (by simp) (fun j o ho hj=>?_) (fun i hi=>?_) ?_ (.refl C) ?_ ?_ hn rfl)
 ·have hjs:=(Array.getElem?_eq_some_iff.1 ho).1;simp[aP,hjs] at hj
 ·rw[aP,dV];split<;>rfl
 ·have:∀(L:Array Bool) k,nC L k<=k:=fun L k=>by
   induction k with
   |zero=>exact rL _
   |succ k ih=>simp only[nC];split<;>omega
  exact this _ _
 ·exact hr.drew
 ·have:∀k,jX ops G (Φ 0) (Array.replicate ops.size false) k=Φ 0:=fun k=>by
   induction k with
   |zero=>rfl
   |succ k ih=>
    simp only[jX];rw[aB (by simp[aP,dV];split<;>simp),ih]
  rw[this,e1];exact hf
end
end
