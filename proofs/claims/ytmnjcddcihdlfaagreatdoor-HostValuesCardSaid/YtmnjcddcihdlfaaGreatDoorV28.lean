/- Part of HostValues. -/
import Derived.Test.YtmnjcddcihdlfaaGreatDoorV27
set_option linter.all false
set_option maxRecDepth 100000
namespace Go.Proofs.YtmnjcddcihdlfaaGreatDoor
section
open Go.RowKit
variable [Globals]
def sV (f:GV->Option GV):List GV->Option (List GV)
 |[]=>some []
 |x::xs=>match f x,sV f xs with
  |some y,some ys=>some (y::ys)
  |_,_=>none
def oF (P:Program) (ob:Nat->Option GObj):Nat->GV->Option GV
 |0,_=>none
 |n+1,g=>match g with
  |.b x=>some (.b x)
  |.i k m=>some (.i k m)
  |.s l=>some (.s l)
  |.o v=>some (.o v)
  |.agg cs=>(sV (oF P ob n) cs).map .agg
  |.tup cs=>(sV (oF P ob n) cs).map .tup
  |.ifc t v=>(oF P ob n v).map (.ifc t)
  |.sl .full []=>some (.sl .full [])
  |.sl _ xs=>(sV (oF P ob n) xs).map (.sl .none)
  |.rs r off (sz+1) m _=>match ob r with
   |some (.box T cs)=>match t7 P T (sz+1) m (cs.drop off) with
    |some ys=>if ys.all (oE (sz+1)) then(sV (oF P ob n) ys).map (.sl .none) else none
    |none=>none
   |_=>none
  |_=>none
variable {P : Program} {ob : Nat → Option GObj}
theorem xF {f:GV->Option GV}:∀{xs ys:List GV},sV f xs=some ys->ys.length=xs.length/\∀(i:Nat) y,ys[i]?=some y->∃x,xs[i]?=some x/\f x=some y
 |[],ys,h=>by cases h;exact⟨rfl,fun i y h=>by simp at h⟩
 |x::xs,ys,h=>by
  simp only[sV] at h;split at h
  ·rename_i y ys' h1 h2;cases h;obtain⟨a,b⟩:=xF h2;refine⟨by simp[a],fun i z hz=>?_⟩;cases i with
   |zero=>simp at hz;subst hz;exact⟨x,rfl,h1⟩
   |succ i=>exact(b i z (by simpa using hz)).imp fun x hx=>⟨by simpa using hx.1,hx.2⟩
  ·cases h
theorem uD {n:Nat} {x x':GV} (h:oF P ob n x=some x'):x'.cells.length=x.cells.length/\∀(j:Nat) g',x'.cells[j]?=some g'->∃g m,m<=n/\x.cells[j]?=some g/\oF P ob m g=some g':=by
 have one:x.cells=[x]->x'.cells=[x']->x'.cells.length=x.cells.length/\∀(j:Nat) g',x'.cells[j]?=some g'->∃g m,m<=n/\x.cells[j]?=some g/\oF P ob m g=some g':=fun e1 e2=>by
  rw[e1,e2];refine⟨rfl,fun j g' hj=>?_⟩;cases j with
  |zero=>simp at hj;subst hj;exact⟨x,n,rL _,rfl,h⟩
  |succ j=>simp at hj
 cases n with
 |zero=>cases h
 |succ n=>
  cases x with
  |agg cs=>
   simp only[oF,aC] at h;obtain⟨ys,hy,rfl⟩:=h;obtain⟨a,b⟩:=xF hy;exact⟨a,fun j g' hj=>(b j g' hj).imp fun g hg=>⟨n,Nat.le_succ n,hg⟩⟩
  |b x=>refine one rfl ?_;cases h;rfl
  |i k m=>refine one rfl ?_;cases h;rfl
  |s l=>refine one rfl ?_;cases h;rfl
  |o v=>refine one rfl ?_;cases h;rfl
  |tup cs=>refine one rfl ?_;simp only[oF,aC] at h;obtain⟨ys,hy,rfl⟩:=h;rfl
  |ifc t v=>refine one rfl ?_;simp only[oF,aC] at h;obtain⟨ys,hy,rfl⟩:=h;rfl
  |sl k xs=>
   refine one rfl ?_;unfold oF at h;split at h<;>first
    |(cases h;rfl;done)
    |(cases h;done)
    |(rw[aC] at h;obtain⟨ys,hy,rfl⟩:=h;rfl)
    |skip
   all_goals (rename_i e;cases e)
  |rs r off sz m c=>
   refine one rfl ?_;cases sz with
   |zero=>cases h
   |succ sz=>
    simp only[oF] at h;split at h
    ·split at h
     ·split at h
      ·rw[aC] at h;obtain⟨ys,hy,rfl⟩:=h;rfl
      ·cases h
     ·cases h
    ·cases h
  |_=>cases h
theorem KO {n:Nat}:∀{ys ys':List GV},sV (oF P ob n) ys=some ys'->(flat ys').length=(flat ys).length/\∀(j:Nat) g',(flat ys')[j]?=some g'->∃g m,m<=n/\(flat ys)[j]?=some g/\oF P ob m g=some g'
 |[],ys',h=>by cases h;exact⟨rfl,fun j g h=>by simp[flat] at h⟩
 |y::ys,ys',h=>by
  simp only[sV] at h;split at h
  ·rename_i z zs h1 h2;cases h;obtain⟨a,b⟩:=KO h2;obtain⟨c,d⟩:=uD h1;rw[k7,k7];refine⟨by rw[aX,aX,a,c],fun j g' hj=>?_⟩;by_cases hlt:j<z.cells.length
   ·rw[aU hlt] at hj;obtain⟨g,m,h3,h4,h5⟩:=d j g' hj;exact⟨g,m,h3,by rw[aU (by omega)];exact h4,h5⟩
   ·rw[bT (by omega)] at hj;obtain⟨g,m,h3,h4,h5⟩:=b _ g' hj;exact⟨g,m,h3,by rw[bT (by omega),<-c];exact h4,h5⟩
  ·cases h
def Cx.cold (D:Cx) (objs:List GObj) (w:World):Cx:=
 {D with bk:=fun _=>none,own:=fun _=>none,fx:=fun b o v=>D.fx b o v∨∃r T cs vs,objs[r]?=some (.box T cs)/\D.bk r=some b/\w.heap[b]?=some (.cells vs T (0,0))/\vs[o]?=some v}
theorem Rel.cold {D:Cx} {σ:GS} {w0 w:World} (h:Rel D σ w0 w):Rel (D.cold σ.objs w) ⟨[],0,[]⟩ w0 w:=by
 have hnb:∀r,d8 (D.cold σ.objs w) r=none:=fun r=>rfl;refine⟨h.below,fun b o v hx=>?_,fun r x hx=>by simp at hx,fun r _=>⟨rfl,rfl⟩,fun r b hb=>(by rw[hnb] at hb;cases hb),fun r r' b hb=>(by rw[hnb] at hb;cases hb),
  fun r b o v hb=>(by cases hb),fun r I b sz o v hI=>(by cases hI),fun b o v hx=>?_,
  fun g cs j x hg hj=>(h.gl g cs j x hg hj).imp fun u hu=>⟨.inl hu.1,fun F he=>hu.2 F fun _ _ _ hx=>he _ _ _ (.inl hx)⟩,h.gs⟩
 ·rcases hx with hx|⟨r,T,cs,vs,_,_,h3,h4⟩
  ·exact h.fxc _ _ _ hx
  ·rw[cell_of_row w b o vs T (0,0) h3];exact h4
 ·rcases hx with hx|⟨r,T,cs,vs,_,h2,_,_⟩
  ·exact h.fxn _ _ _ hx
  ·exact .inr (h.new r b (dM h2))
theorem F1 {D:Cx} {σ:GS} {w0 w:World} (h:Rel D σ w0 w) (hob:∀r x,ob r=some x->σ.objs[r]?=some x):∀(n:Nat) (g g':GV) (v:Value),oF P ob n g=some g'->VR D g v->VR (D.cold σ.objs w) g' v:=by
 intro n;induction n using Nat.strongRecOn with
 |ind n ih=>
 intro g g' v hg hv;cases n with
 |zero=>cases hg
 |succ n=>
  have list:∀{cs ys:List GV} {vs:Array Value},sV (oF P ob n) cs=some ys->vs.size=cs.length->(∀(j:Nat) g u,cs[j]?=some g->vs[j]?=some u->VR D g u)->
    vs.size=ys.length/\∀(j:Nat) g u,ys[j]?=some g->vs[j]?=some u->VR (D.cold σ.objs w) g u:=fun hy hs hvv=>by
   obtain⟨a,b⟩:=xF hy;refine⟨by rw[hs,a],fun j g u h1 h2=>?_⟩;obtain⟨x,hx,hf⟩:=b j g h1;exact ih n (eJ n) x g u hf (hvv j x u hx h2)
  have row:∀{k:Tok} {xs ys:List GV} {v:Value},sV (oF P ob n) xs=some ys->VR D (.sl k xs) v->VR (D.cold σ.objs w) (.sl .none ys) v:=fun{k xs ys v} hy hv=>by
   obtain⟨a,b⟩:=xF hy;cases hv with
   |sl esz b0 off us hn hc ha hw hx hvv ht=>
   have cell:∀(i:Nat) y (j:Nat) g',ys[i]?=some y->y.cells[j]?=some g'->∃x g m,m<=n/\xs[i]?=some x/\x.cells[j]?=some g/\oF P ob m g=some g':=fun i y j g' h1 h2=>by
    obtain⟨x,hx1,hf⟩:=b i y h1;obtain⟨g,m,h3,h4,h5⟩:=(uD hf).2 j g' h2;exact⟨x,g,m,h3,hx1,h4,h5⟩
   refine .sl esz b0 off us (hn.trans a.symm) hc ha (fun y hy=>?_) (fun i y j g' h1 h2=>?_) (fun i y j g' h1 h2=>?_) trivial
   ·obtain⟨i,hi⟩:=List.getElem?_of_mem hy;obtain⟨x,hx1,hf⟩:=b i y hi;rw[(uD hf).1];exact hw x (b9 hx1)
   ·obtain⟨x,g,m,h3,h4,h5,h6⟩:=cell i y j g' h1 h2;exact .inl (hx i x j g h4 h5)
   ·obtain⟨x,g,m,h3,h4,h5,h6⟩:=cell i y j g' h1 h2;exact ih m (by omega) g g' _ h6 (hvv i x j g h4 h5)
  unfold oF at hg;split at hg
  ·cases hg;cases hv;exact .b _
  ·cases hg;cases hv;exact .i _ _
  ·cases hg;cases hv;exact .s _
  ·cases hg;cases hv with
   |o h=>exact .o h
  ·rw[aC] at hg;obtain⟨ys,hy,rfl⟩:=hg;cases hv with
   |agg hs hvv=>obtain⟨a,b⟩:=list hy hs hvv;exact .agg a b
  ·rw[aC] at hg;obtain⟨ys,hy,rfl⟩:=hg;cases hv with
   |tup hs hvv=>obtain⟨a,b⟩:=list hy hs hvv;exact .tup a b
  ·rw[aC] at hg;obtain⟨y,hy,rfl⟩:=hg;cases hv with
   |ifc h=>exact .ifc (ih n (eJ n) _ _ _ hy h)
  ·cases hg;cases hv with
   |sl esz b0 off us hn hc ha hw hx hvv ht=>
   exact .sl esz b0 off us hn hc ha hw (fun i x j g h=>by simp at h) (fun i x j g h=>by simp at h) ht
  ·rw[aC] at hg;obtain⟨ys,hy,rfl⟩:=hg;exact row hy hv
  ·rename_i r off sz m c;split at hg
   ·rename_i T cs ho;split at hg
    ·rename_i ys hch;split at hg
     ·rename_i hok;rw[aC] at hg;obtain⟨ys',hy,rfl⟩:=hg;rw[aZ] at hok;have hobj:=hob r _ ho;obtain⟨_,b,vs,h1,h2,h3,_⟩:=h.obj r _ hobj;have bG:=rN _ _ _ hch;have hfl:=t6 _ _ _ hch;have hwy:∀y∈ys,y.cells.length=sz+1:=fun y hy=>kI (hok y hy);have hv3:VRs D (flat ys) (((vs.toList.take cs.length).drop off).take (m*(sz+1))):=by rw[hfl];exact(h3.drop off).take _
      obtain⟨a,bb⟩:=KO hy;obtain⟨a2,b2⟩:=xF hy;cases hv with
      |rs hb hc hp hx=>
       rw[h1] at hb;cases hb;rename_i c';have:=ID (C:=D.cold σ.objs w) (k:=.none) (xs:=ys') (esz:=sz+1) (b:=b) (off:=off) (c:=c') (us:=((vs.toList.take cs.length).drop off).take (m*(sz+1)))
        (fun y hy'=>by
         obtain⟨i,hi⟩:=List.getElem?_of_mem hy';obtain⟨x,hx1,hf⟩:=b2 i y hi;rw[(uD hf).1];exact hwy x (b9 hx1))
        ⟨by rw[a];exact hv3.1,fun j g u g1 g2=>by
         obtain⟨g0,k,h5,h6,h7⟩:=bb j g g1;exact ih k (by omega) g0 g u h7 (hv3.2 j g0 u h6 g2)⟩
        (fun j u hj=>.inr ⟨r,T,cs,vs,hobj,h1,h2,by
         rw[cH] at hj;split at hj
         ·rw[eP,cH] at hj;split at hj
          ·rw[<-bJ];exact hj
          ·cases hj
         ·cases hj⟩)
        (by rw[a2,bG];exact hc) trivial
       rw[a2,bG] at this;exact this
     ·cases hg
    ·cases hg
   ·cases hg
  ·cases hg
noncomputable def ZY (P:Program) (r:GRes) (H:HS):HR:=
 match r with
 |.val g=>(oF P (fun r=>(fR H r).map HObj.g) 30 g).map .val
 |.panic g=>(oF P (fun r=>(fR H r).map HObj.g) 30 g).map .panic
theorem SC.of_hcallF (hm:P.follows .mixedOrders=true) {M:FuncId->Bool} {Γ:s7} {Δ:RA} (hΓ:∀w0,EnvSound P w0 M Γ) (hE:XP Γ Δ) {m:Nat} {k:FuncId} {args:List GV} {r:GRes}
  (h:bH P M Γ Δ m (.fn k) args ⟨.nil,0,0,[]⟩ (ZY P)=some r):SC P k args [] r []:=by
 obtain⟨r1,H',h1,h⟩:=JM hE m _ _ _ _ _ h;refine⟨rL _,fun C w vs hR hv=>?_,fun x hx=>by cases hx⟩;refine Calls.mono (((t8 (w0:=w) hm (hΓ w) m).1 (.fn k) args _ _ _ h1).2.2 C w vs hR hv) ?_;rintro e w' ⟨D,hl,hrD,he⟩;have hob:∀r x,(fR H' r).map HObj.g=some x->(ab H').objs[r]?=some x:=fun r x hx=>(e8 H' r).trans hx;refine⟨D.cold (ab H').objs w',⟨fun b o v hx=>.inl (hl.fx _ _ _ hx),fun i b hb=>?_,fun i I hI=>?_,hl.hd,hl.fix⟩,hrD.cold,?_⟩
 ·rw[(hR.dom i (zL _)).1] at hb;cases hb
 ·rw[(hR.dom i (zL _)).2] at hI;cases hI
 ·cases r1 with
  |val g=>
   simp only[ZY,aC] at h;obtain⟨g',hg,rfl⟩:=h;obtain⟨v,rfl,hv⟩:=he;exact⟨v,rfl,F1 hrD hob 30 g g' v hg hv⟩
  |panic g=>
   simp only[ZY,aC] at h;obtain⟨g',hg,rfl⟩:=h;obtain⟨v,rfl,hv⟩:=he;exact⟨v,rfl,F1 hrD hob 30 g g' v hg hv⟩
section
variable {G H : Globals}
end
end
section
open Go.RowKit
theorem X3 [MaxL]:SC Tryz.prog 4 [] [] (.val (.b true)) []:=
 SC.of_hcall mixed (qM [122] rfl VM) (KX a0R) (m:=300) (by kernel_rfl) (fun _=>rfl)
end
section
open Go.RowKit
def Y7:By:=[112,114,111,103,114,97,109,32,118,97,114,32,105,110,116,32,116,101,120,116,32,108,101,116,32,112,114,105,110,116,32,115,116,111,112,32,105,102,32,101,108,115,101,32,119,104,105,108,101,32,111,114,32,97,110,100,32,110,111,116,32,115,116,97,116,117,115,32,107,101,121,32,102,105,110,100,32,111,98,116,97,105,110,32,103,101,116,32,115,116,111,114,101,32,109,111,100,105,102,121,32,101,114,97,115,101,32,99,111,110,110,101,99,116,32,100,105,115,99,111,110,110,101,99,116,32,114,101,99,111,110,110,101,99,116,32,107,101,101,112,32,102,114,101,101,32,109,111,118,101,32,102,105,114,115,116,32,108,97,115,116,32,110,101,120,116,32,112,114,105,111,114,32,110,116,104,32,97,110,121,32,100,117,112,32,99,117,114,114,101,110,116,32,119,105,116,104,105,110,32,117,115,105,110,103,32,114,101,116,97,105,110,105,110,103,32,111,119,110,101,114,32,109,101,109,98,101,114,32,101,109,112,116,121,32,114,101,99,111,114,100,32,97,114,101,97,32,116,111,32,97,108,108,32,112,101,114,109,97,110,101,110,116,32,115,101,108,101,99,116,105,118,101,32,111,102,32,105,110,115,105,100,101]
theorem UN [MaxL]:SC Tryz.prog 185 [.s Y7] [] (.val (.sl .none (OD.map .s))) []:=
 SC.of_hcallF mixed (qM [] rfl .nil) (KX []) (m:=600) (by kernel_rfl)
theorem U1 [MaxL] (l:By):SC Tryz.prog 166 [.s l] [] (.val (.b (OD.contains l))) []:=by
 have h:=oY OD l (by decide);have e:=UN;refine bI Tryz.func166 rfl ?_;conv=>whnf
 refine cP e ?_;conv=>whnf
 refine cP h ?_;conv=>whnf
 exact fin 0
theorem QD [MaxL] (l:List Tp) (s:PS) (p:Tp) (hp:l[s.n]?=some p) (x:By) (hx:p.t=.nm x) (hk:p.ok) (hkp:OD.contains x=false) (hs:s.n<1000000):SC Tryz.prog 116 [.ptr 0 0] [kQ l s] (.val (.s x)) [kQ l s.adv]:=by
 have hn:=sM l s p hp;have hv:=BO l s p hp x hx hk hs;have hkk:=U1 x;rw[hkp] at hkk;obtain⟨t,raw,ln⟩:=p;cases hx;have hr:raw=x:=hk.1;subst hr;refine bI Tryz.func116 rfl ?_;conv=>whnf
 refine cS [0] hn ?_;conv=>whnf
 refine cP hkk ?_;conv=>whnf
 refine cG [0] hv ?_;conv=>whnf
 exact fin 1
theorem BN [MaxL] (l:List Tp) (s:PS) (p:Tp) (hp:l[s.n]?=some p) (h:∀x,p.t=.nm x->p.ok/\OD.contains x=true):SC Tryz.prog 116 [.ptr 0 0] [kQ l s] (.panic mL) [kQ l s.wr]:=by
 have hn:=sM l s p hp;have hkk:=U1 p.raw;cases hb:OD.contains p.raw with
 |true=>
  rw[hb] at hkk;refine bI Tryz.func116 rfl ?_;conv=>whnf
  refine cS [0] hn ?_;conv=>whnf
  refine cP hkk ?_;conv=>whnf
  refine cG [0] (nG l s) ?_;conv=>whnf
  exact fin 1
 |false=>
  rw[hb] at hkk;have hno:=EQ l s p hp (fun x hx=>by
   obtain⟨h1,h2⟩:=h x hx;unfold Tp.ok at h1;rw[hx] at h1;rw[h1.1,h2] at hb;cases hb)
  refine bI Tryz.func116 rfl ?_;conv=>whnf
  refine cS [0] hn ?_;conv=>whnf
  refine cP hkk ?_;conv=>whnf
  refine cG [0] hno ?_;conv=>whnf
  exact fin 1
end
section
open Go.RowKit
def gU:GV:=.o (.pointer none)
def WX (op:By) (n:Int) (s:By) (l r:GV):List GV:=[.s op,.i .i64 n,.s s,l,r]
def Ex.csP:Ex->List GV
 |.zero=>[]
 |.num n=>WX [110,117,109] n [] gU gU
 |.txt s=>WX [116,101,120,116] 0 s gU gU
 |.var s=>WX [110,97,109,101] 0 s gU gU
 |.item r i=>WX [105,116,101,109] 0 (r++[46]++i) gU gU
 |.status=>WX [115,116,97,116,117,115] 0 [] gU gU
 |.key=>WX [107,101,121] 0 [] gU gU
 |.neg e=>WX [110,101,103] 0 [] gU (.snap e.csP 0)
 |.bin op a b=>WX op 0 [] (.snap a.csP 0) (.snap b.csP 0)
def Ex.gvP (e:Ex):GV:=.snap e.csP 0
theorem tK [MaxL] {op s:By} {n:Int} {l r:GV} (hl:Cl l) (hr:Cl r):ClL (WX op n s l r):=.cons (.s _) (.cons (.i _ _) (.cons (.s _) (.cons hl (.cons hr .nil))))
theorem fV [MaxL]:Cl gU:=fun _=>rfl
theorem Ex.clL [MaxL]:∀e:Ex,ClL e.csP
 |.zero=>.nil
 |.num n=>tK fV fV
 |.txt s=>tK fV fV
 |.var s=>tK fV fV
 |.item r i=>tK fV fV
 |.status=>tK fV fV
 |.key=>tK fV fV
 |.neg e=>tK fV (Cl.snap e.clL 0)
 |.bin op a b=>tK (Cl.snap a.clL 0) (Cl.snap b.clL 0)
theorem Ex.cl [MaxL] (e:Ex):Cl e.gvP:=Cl.snap e.clL 0
instance [MaxL] (e:Ex):KG e.gvP:=⟨e.cl⟩
def kA:Option Ex->GRes
 |some e=>.val e.gvP
 |none=>.panic mL
instance [MaxL] {e:Nat->Nat} (o:Option Ex):RR e (kA o) (kA o):=⟨by cases o with
 |none=>rfl
 |some x=>show GRes.val (x.gvP.ren e)=_;rw[x.cl];rfl⟩
instance [MaxL] {n:Nat} (o:Option Ex):FR n (kA o):=⟨fun e _=>(RR.h (e:=e) (r:=kA o))⟩
def wT (l:List Tp):List Tk:=l.map (·.t)
theorem NU {l:List Tp} {n:Nat} {p:Tp} (h:l[n]?=some p):tk (wT l) n=p.t:=by
 unfold tk wT;rw[aL,aG,h];rfl
structure WfT (l:List Tp):Prop where
 len:l.length<=100000
 ok:∀p∈l,p.ok
 next:WfP (wT l)
def XQ [MaxL] (l:List Tp) (f:Nat):Prop:=∀d s,s.n<l.length->d<=s.n->EK.fact.need (l.length - s.n)<=f->SC Tryz.prog 132 [.ptr 0 0,.i .i64 (d:Nat)] [kQ l s] (kA (pE (wT l) f .fact d s).1) [kQ l (pE (wT l) f .fact d s).2]
def a0D [MaxL] (l:List Tp) (f:Nat):Prop:=∀d s,s.n<l.length->d<=s.n->EK.term.need (l.length - s.n)<=f->SC Tryz.prog 93 [.ptr 0 0,.i .i64 (d:Nat)] [kQ l s] (kA (pE (wT l) f .term d s).1) [kQ l (pE (wT l) f .term d s).2]
def V5 [MaxL] (l:List Tp) (f:Nat):Prop:=∀d s,s.n<l.length->d<=s.n->EK.expr.need (l.length - s.n)<=f->SC Tryz.prog 52 [.ptr 0 0,.i .i64 (d:Nat)] [kQ l s] (kA (pE (wT l) f .expr d s).1) [kQ l (pE (wT l) f .expr d s).2]
theorem WM [MaxL] (l:List Tp) (s:PS) (d:Nat) (p:Tp) (hp:l[s.n]?=some p) (hk:p.ok) (hs:s.n<1000000) (f:Nat) (h:(∃n,p.t=.nu n)∨∃x,p.t=.tx x):SC Tryz.prog 132 [.ptr 0 0,.i .i64 (d:Nat)] [kQ l s] (kA (pE (wT l) (f+1) .fact d s).1) [kQ l (pE (wT l) (f+1) .fact d s).2]:=by
 have hn:=sM l s p hp;have ht:=NU hp;unfold pE;rw[ht];obtain⟨t,raw,ln⟩:=p;rcases h with⟨n,h⟩|⟨x,h⟩;all_goals
  cases h;dsimp only;refine bI Tryz.func132 rfl ?_;conv=>whnf
  refine cS [0] hn ?_;conv=>whnf
  refine st ?_;conv=>whnf
  refine⟨_,⟨bE (by omega),zL _,rfl,bL rfl⟩,?_⟩;conv=>whnf
  exact fin 1
theorem WfT.at_ {l:List Tp} (w:WfT l) {n:Nat} (h:n<l.length):∃p,l[n]?=some p/\p.ok/\tk (wT l) n=p.t/\(p.t≠ .fin->p.t≠ .bad->n+1<l.length):=
 ⟨l[n],gL h,w.ok _ (dO h),NU (gL h),fun h1 h2=>by
  have:=w.next.next n (by simpa[wT] using h) (by rw[NU (gL h)];exact h1) (by rw[NU (gL h)];exact h2);simpa[wT] using this⟩
theorem wJ {x y:By} (h:dE x=true) (hy:dE y=false):x≠y:=fun e=>by rw[e,hy] at h;cases h
theorem B2 {l:List Tk} (w:WfP l) (f:Nat) (k:EK) (d:Nat) (s:PS) (hn:s.n<l.length) (hf:k.need (l.length - s.n)<=f) {e:Ex} {s':PS} (h:pE l f k d s=(some e,s')):s'.n<l.length/\s.n+k.gain<=s'.n:=by
 have:=VN l l ⟨w,fun _ _=>rfl⟩ f k d s hn hf;rw[h] at this;exact⟨this.2.1,this.2.2⟩
theorem wK {x:By} (h:dE x=true):x.length<=16:=by
 cases x with
 |nil=>simp
 |cons c t=>simp only[dE,aF,aH] at h;exact h.1.1
theorem Tp.ok.name {p:Tp} {x:By} (h:p.ok) (hx:p.t=.nm x):dE x=true:=by
 unfold Tp.ok at h;rw[hx] at h;exact h.2
def mNm:FuncId->Bool:=onM [115]
theorem ZL [MaxL] (l:List Tp) (w:WfT l) (f:Nat) (hf:XQ l f) (he:V5 l f):XQ l (f+1):=by
 intro d s hn hd hneed;obtain⟨p,hp,hk,ht,lT⟩:=w.at_ hn;have hl:=w.len;have hnow:=sM l s p hp;simp only[EK.need] at hneed;by_cases h0:(∃n,p.t=.nu n)∨∃x,p.t=.tx x
 ·exact WM l s d p hp hk (by omega) f h0
 have hm:=fun x (h:gV p.t x=false)=>nO l s p hp hk x h;obtain⟨t,raw,ln⟩:=p;unfold pE;rw[ht];cases t with
 |nu n=>exact absurd (.inl ⟨n,rfl⟩) h0
 |tx x=>exact absurd (.inr ⟨x,rfl⟩) h0
 |fin|bad=>
  have hv:=BN l s _ hp (fun x hx=>by cases hx);have hm1:=hm [45] rfl;have hm2:=hm [40] rfl;dsimp only;refine bI Tryz.func132 rfl ?_;conv=>whnf
  refine cS [0] hnow ?_;conv=>whnf
  refine st ?_;conv=>whnf
  refine cS [0] hm1 ?_;conv=>whnf
  refine cS [0] hm2 ?_;conv=>whnf
  refine gP ?_;conv=>whnf
  refine cG [0] hv ?_;conv=>whnf
  exact fin 1
 |sg x=>
  have hr:raw=x:=hk.1;have hn1:s.n+1<l.length:=lT (by simp) (by simp);dsimp only;by_cases h1:x=[45]
  ·have hm1:=kT l s _ hp hk [45] (by rw[h1];rfl) (by omega);have hc:=hf d s.adv hn1 (by show d<=s.n+1;omega) (by simp only[EK.need,PS.adv];omega);rw[aA h1];generalize pE (wT l) f .fact d s.adv=R at hc;obtain⟨_|e,s'⟩:=R;all_goals
    dsimp only[kA] at hc⊢;refine bI Tryz.func132 rfl ?_;(conv=>whnf);refine cS [0] hnow ?_;(conv=>whnf);refine st ?_;(conv=>whnf);refine cG [0] hm1 ?_;(conv=>whnf);refine cG [0] hc ?_;(conv=>whnf);exact fin 1
  rw[aB h1];have hm1:=hm [45] (by show(x==_)=false;simpa using h1);by_cases h2:x=[40]
  ·have hm2:=kT l s _ hp hk [40] (by rw[h2];rfl) (by omega);have hc:=he (d+1) (s.adv.deep (d+1)) hn1 (by show d+1<=s.n+1;omega) (by simp only[EK.need,PS.adv,PS.deep];omega);rw[aA h2];have hwd:GV.i .i64 (IntKind.i64.wrap ((d:Int)+1))=.i .i64 ((d+1:Nat):Int):=cT (by omega);have hmx:[GV.i .i64 ((max s.pr (d+1):Nat):Int)]=(GV.i .i64 (if IntKind.i64.wrap ((d:Int)+1)>((s.pr:Nat):Int) then IntKind.i64.wrap ((d:Int)+1) else((s.pr:Nat):Int))).cells:=by
    rw[bN (n:=(d:Int)+1) (by omega) (by omega)];exact lC s.pr (d+1)
   have hlt:=fun e s'=>B2 w.next f .expr (d+1) (s.adv.deep (d+1)) (by simpa[wT,PS.adv,PS.deep] using hn1) (by simp only[EK.need,PS.adv,PS.deep,wT,aS];omega) (e:=e) (s':=s');rw[<-hwd] at hc;rw[show(wT l).length=l.length from aS _] at hlt;generalize pE (wT l) f .expr (d+1) (s.adv.deep (d+1))=R at hc hlt;obtain⟨_|e,s'⟩:=R
   ·dsimp only[kA] at hc⊢;refine bI Tryz.func132 rfl ?_;(conv=>whnf);refine cS [0] hnow ?_;(conv=>whnf);refine st ?_;(conv=>whnf);refine cS [0] hm1 ?_;(conv=>whnf);refine cG [0] hm2 ?_;(conv=>whnf);refine⟨_,⟨hmx,zL _,rfl,bL rfl⟩,?_⟩;(conv=>whnf);refine cG [0] hc ?_;(conv=>whnf);exact fin 1
   obtain⟨hn2,hg⟩:=hlt e s' rfl;obtain⟨p2,hp2,hk2,ht2,_⟩:=w.at_ hn2;dsimp only[kA] at hc⊢;rw[ht2];by_cases h3:gV p2.t [41]=true
   case' pos=>
    rw[aA h3];have hwt:=BM l s' p2 hp2 hk2 [41] h3 (by omega)
   case' neg=>
    rw[aB h3];have hwt:=EP l s' p2 hp2 hk2 [41] (by simpa using h3)
   all_goals
    dsimp only;refine bI Tryz.func132 rfl ?_;(conv=>whnf);refine cS [0] hnow ?_;(conv=>whnf);refine st ?_;(conv=>whnf);refine cS [0] hm1 ?_;(conv=>whnf);refine cG [0] hm2 ?_;(conv=>whnf);refine⟨_,⟨hmx,zL _,rfl,bL rfl⟩,?_⟩;(conv=>whnf);refine cG [0] hc ?_;(conv=>whnf);refine cG [0] hwt ?_;(conv=>whnf);exact fin 1
  rw[aB h2];have hm2:=hm [40] (by show(x==_)=false;simpa using h2);have hv:=BN l s _ hp (fun y hy=>by cases hy);subst hr;refine bI Tryz.func132 rfl ?_;conv=>whnf
  refine cS [0] hnow ?_;conv=>whnf
  refine st ?_;conv=>whnf
  refine cS [0] hm1 ?_;conv=>whnf
  refine cS [0] hm2 ?_;conv=>whnf
  refine gP ?_;conv=>whnf
  refine cG [0] hv ?_;conv=>whnf
  exact fin 1
 |nm x=>
  have hr:raw=x:=hk.1;have hx:dE x=true:=hk.2;have hn1:s.n+1<l.length:=lT (by simp) (by simp);have hm1:=hm [45] (by show(x==_)=false;simpa using wJ hx (by decide));have hm2:=hm [40] (by show(x==_)=false;simpa using wJ hx (by decide));dsimp only;by_cases h1:x=eZ
  ·rw[aA h1];dsimp only[kA];have h1':raw=eZ:=hr.trans h1;subst h1';refine bI Tryz.func132 rfl ?_;(conv=>whnf);refine cS [0] hnow ?_;(conv=>whnf);refine st ?_;(conv=>whnf);refine cS [0] hm1 ?_;(conv=>whnf);refine cS [0] hm2 ?_;(conv=>whnf);refine⟨_,⟨bE (by omega),zL _,rfl,bL rfl⟩,?_⟩;(conv=>whnf);exact fin 1
  rw[aB h1];by_cases h2:x=mJ
  ·rw[aA h2];dsimp only[kA];have h1':raw=mJ:=hr.trans h2;subst h1';refine bI Tryz.func132 rfl ?_;(conv=>whnf);refine cS [0] hnow ?_;(conv=>whnf);refine st ?_;(conv=>whnf);refine cS [0] hm1 ?_;(conv=>whnf);refine cS [0] hm2 ?_;(conv=>whnf);refine⟨_,⟨bE (by omega),zL _,rfl,bL rfl⟩,?_⟩;(conv=>whnf);exact fin 1
  rw[aB h2];subst hr;have q1:(raw==(⟨#[115,116,97,116,117,115]⟩:ByteArray).data.toList)=false:=beq_eq_false_iff_ne.2 h1;have q2:(raw==(⟨#[107,101,121]⟩:ByteArray).data.toList)=false:=beq_eq_false_iff_ne.2 h2;replace hnow:SC Tryz.prog 91 [.ptr 0 0] [kQ l s] (.val (.agg [.i .u8 110,.s raw,.i .i64 0,.i .i64 0,.s [],.i .i64 (ln:Nat)])) [kQ l s]:=hnow;obtain⟨p1,hp1,hk1,ht1,hnext1⟩:=w.at_ hn1;have wn:IntKind.i64.wrap (((s.n:Nat):Int)+1)=((s.n+1:Nat):Int):=by rw[bN (by omega) (by omega)];rfl
  have i0:0<=IntKind.i64.wrap (((s.n:Nat):Int)+1):=by rw[wn];exact fK _
  have i1:(lW l)[(IntKind.i64.wrap (((s.n:Nat):Int)+1)).toNat]?=some (I9 p1):=by rw[wn,aD];exact LF hp1
  have hvar:∃R:Option Ex×PS,R=(if OD.contains raw=true then(none,s.wr) else(some (.var raw),s.adv))/\SC Tryz.prog 116 [.ptr 0 0] [kQ l s] (match R.1 with|some _=>.val (.s raw)|none=>.panic mL) [kQ l R.2]/\(R.1=none∨R.1=some (.var raw)):=by
   cases hkp:OD.contains raw with
   |true=>exact⟨_,rfl,BN l s _ hp (fun y hy=>by cases hy;exact⟨hk,hkp⟩),.inl rfl⟩
   |false=>exact⟨_,rfl,QD l s _ hp raw rfl hk hkp (by omega),.inr rfl⟩
  obtain⟨R,hR,hv,hRc⟩:=hvar;rw[ht1];obtain⟨o,s'⟩:=R;replace hRc:o=none∨o=some (.var raw):=hRc;by_cases h3:raw=iX
  ·rw[aB (fun h=>h.1 h3),<-hR];subst h3;rcases hRc with rfl|rfl;all_goals
    dsimp only[kA] at hv⊢;refine bI Tryz.func132 rfl ?_;(conv=>whnf);refine cS [0] hnow ?_;(conv=>whnf);refine st ?_;(conv=>whnf);refine cS [0] hm1 ?_;(conv=>whnf);refine cS [0] hm2 ?_;(conv=>whnf);rw[q1];(conv=>whnf);rw[q2];(conv=>whnf);refine gP ?_;(conv=>whnf);refine cG [0] hv ?_;(conv=>whnf);exact fin 1
  have q3:(raw==(⟨#[110,111,116]⟩:ByteArray).data.toList)=false:=beq_eq_false_iff_ne.2 h3;have hrl:=wK hx;have hr1:raw.length+((⟨#[46]⟩:ByteArray).data.toList).length<jN:=by show raw.length+1<4611686018427387904;omega
  by_cases h4:p1.t=.sg [46]
  ·rw[aA ⟨h3,h4⟩];obtain⟨t1,raw1,ln1⟩:=p1;cases h4;have hrw:raw1=[46]:=hk1.1;subst hrw;have hn2:s.n+2<l.length:=hnext1 (by simp) (by simp);obtain⟨p2,hp2,hk2,ht2,_⟩:=w.at_ hn2;rw[ht2];have w2:[GV.i .i64 ((s.n+2:Nat):Int)]=(GV.i .i64 (IntKind.i64.wrap (((s.n:Nat):Int)+2))).cells:=by rw[bN (by omega) (by omega)];rfl
   by_cases h5:∃y,p2.t=.nm y
   ·obtain⟨y,h5⟩:=h5;rw[h5];have hyl:=wK (hk2.name h5);have hr2:(raw++(⟨#[46]⟩:ByteArray).data.toList).length+y.length<jN:=by rw[aX];show raw.length+1+y.length<4611686018427387904;omega
    have hnm:=BO l s.adv.adv p2 hp2 y h5 hk2 (by show s.n+2<_;omega);dsimp only[kA];refine f8 mNm mixed Tryz.func132 rfl (bL rfl) (by first|exact rL _|simp) rfl ?_;(conv=>whnf);refine cS [0] hnow ?_;(conv=>whnf);refine st ?_;(conv=>whnf);refine cS [0] hm1 ?_;(conv=>whnf);refine cS [0] hm2 ?_;(conv=>whnf);rw[q1];(conv=>whnf);rw[q2];(conv=>whnf);refine gP ?_;(conv=>whnf);rw[q3];(conv=>whnf);refine⟨i0,_,i1,rfl,?_⟩;(conv=>whnf);refine⟨i0,_,i1,rfl,?_⟩;(conv=>whnf);refine⟨_,⟨w2,zL _,rfl,bL rfl⟩,?_⟩;(conv=>whnf);refine hH _ _ _ rfl rfl rfl (by kernel_rfl) ?_;(conv=>whnf);refine⟨hr1,_,rfl,?_⟩;(conv=>whnf);refine cG [0] hnm ?_;(conv=>whnf);refine⟨hr2,_,rfl,?_⟩;(conv=>whnf);exact fin 1
   have hnm:=EQ l s.adv.adv p2 hp2 (fun y hy=>h5 ⟨y,hy⟩);obtain⟨t2,raw2,ln2⟩:=p2;cases t2
   case nm=>exact absurd ⟨_,rfl⟩ h5
   all_goals
    dsimp only[kA];refine f8 mNm mixed Tryz.func132 rfl (bL rfl) (by first|exact rL _|simp) rfl ?_;(conv=>whnf);refine cS [0] hnow ?_;(conv=>whnf);refine st ?_;(conv=>whnf);refine cS [0] hm1 ?_;(conv=>whnf);refine cS [0] hm2 ?_;(conv=>whnf);rw[q1];(conv=>whnf);rw[q2];(conv=>whnf);refine gP ?_;(conv=>whnf);rw[q3];(conv=>whnf);refine⟨i0,_,i1,rfl,?_⟩;(conv=>whnf);refine⟨i0,_,i1,rfl,?_⟩;(conv=>whnf);refine⟨_,⟨w2,zL _,rfl,bL rfl⟩,?_⟩;(conv=>whnf);refine GDraw.pan 4 _ rfl (by kernel_rfl) ?_;(conv=>whnf);refine⟨hr1,_,rfl,?_⟩;(conv=>whnf);refine cG [0] hnm ?_;(conv=>whnf);exact fin 1
  rw[aB (fun h=>h4 h.2),<-hR];obtain⟨t1,raw1,ln1⟩:=p1;cases t1
  case' sg y=>
   have hrw:raw1=y:=hk1.1;subst hrw;have q4:(raw1==(⟨#[46]⟩:ByteArray).data.toList)=false:=beq_eq_false_iff_ne.2 (fun e=>h4 (by rw[e]))
  all_goals
   rcases hRc with rfl|rfl;all_goals
    dsimp only[kA] at hv⊢;refine bI Tryz.func132 rfl ?_;(conv=>whnf);refine cS [0] hnow ?_;(conv=>whnf);refine st ?_;(conv=>whnf);refine cS [0] hm1 ?_;(conv=>whnf);refine cS [0] hm2 ?_;(conv=>whnf);rw[q1];(conv=>whnf);rw[q2];(conv=>whnf);refine gP ?_;(conv=>whnf);rw[q3];(conv=>whnf);refine⟨i0,_,i1,rfl,?_⟩;(conv=>whnf);first
     |refine cG [0] hv ?_
     |refine⟨i0,_,i1,rfl,?_⟩
      (conv=>whnf);rw[q4];(conv=>whnf);refine cG [0] hv ?_
    (conv=>whnf);exact fin 1
end
section
open Go.RowKit
theorem ZG [MaxL] (l:List Tp) (w:WfT l) (f:Nat) (IH:∀g,g<=f->XQ l g):a0D l (f+1):=by
 intro d s hn hd hneed;have hl:=w.len;have hwl:(wT l).length=l.length:=aS _;simp only[EK.need] at hneed;have hc:=IH f (rL _) d s hn hd (by simp only[EK.need];omega);unfold pE;cases hp:pE (wT l) f .fact d s with
 |mk o s1=>
 rw[hp] at hc;cases o with
 |none=>
  dsimp only[kA] at hc⊢;refine bI Tryz.func93 rfl ?_;conv=>whnf
  refine cG [0] hc ?_;conv=>whnf
  exact fin 1
 |some e1=>
 obtain⟨hn1,hg1⟩:=B2 w.next f .fact d s (by rw[hwl];exact hn) (by simp only[EK.need];omega) hp;rw[hwl] at hn1;simp only[EK.gain] at hg1;dsimp only[kA] at hc;dsimp only;generalize hR:pE (wT l) f (.termL e1) d s1=R;refine bI Tryz.func93 rfl ?_;conv=>whnf
 refine cG [0] hc ?_;conv=>whnf
 refine GLoop.introS (fun q:Nat×Ex×PS=>q.1<=f/\q.2.2.n<l.length/\d<=q.2.2.n/\(EK.termL q.2.1).need (l.length - q.2.2.n)<=q.1/\pE (wT l) q.1 (.termL q.2.1) d q.2.2=R)
  (fun q=>[(0,.ptr 0 0),(1,.i .i64 (d:Nat)),(5,q.2.1.gvP)]) (fun q=>⟨[kQ l q.2.2],0,[]⟩) (fun q=>l.length - q.2.2.n) (f,e1,s1) ⟨rL _,hn1,by show d<=s1.n;omega,by simp only[EK.need];omega,hR⟩ ⟨rfl,rfl,rfl,trivial⟩ rfl
  (fun _ _=>rL _) (fun _ _=>rfl) (fun q _ e he=>⟨(FH.h (n:=1) (s:=[kQ l q.2.2]) e he),rfl,?_⟩) (fun q φ0 hq=>?_)
 ·show[GV.ptr (e 0) 0,_,GV.ren e q.2.1.gvP]=_;rw[he 0 (by simp),q.2.1.cl];rfl
 obtain⟨g,e,t⟩:=q;obtain⟨hq1,hq2,hq3,hq4,hq5⟩:=hq;replace hq1:g<=f:=hq1;replace hq2:t.n<l.length:=hq2;replace hq3:d<=t.n:=hq3;replace hq4:5*(l.length - t.n)+1<=g:=hq4;replace hq5:pE (wT l) g (.termL e) d t=R:=hq5;obtain⟨g,rfl⟩:∃k,g=k+1:=⟨g - 1,by omega⟩;obtain⟨p,hpt,hk,ht,lT⟩:=w.at_ hq2;unfold pE at hq5;rw[ht] at hq5;by_cases h1:gV p.t [42]=true
 ·have hm:=kT l t p hpt hk [42] h1 (by omega);rw[aA h1] at hq5;have hn2:t.n+1<l.length:=lT (by rintro e;rw[e] at h1;cases h1) (by rintro e;rw[e] at h1;cases h1);have hc2:=IH g (by omega) d t.adv hn2 (by show d<=t.n+1;omega) (by simp only[EK.need,PS.adv];omega);have hlt:=fun e' s'=>B2 w.next g .fact d t.adv (by rw[hwl];exact hn2) (by rw[hwl];simp only[EK.need,PS.adv];omega) (e:=e') (s':=s');rw[hwl] at hlt;generalize pE (wT l) g .fact d t.adv=Q at hc2 hq5 hlt;obtain⟨_|e',t'⟩:=Q
  ·dsimp only[kA] at hc2 hq5;subst hq5;(conv=>whnf);refine cG [0] hm ?_;(conv=>whnf);refine cG [0] hc2 ?_;(conv=>whnf);exact fin 1
  ·dsimp only[kA] at hc2 hq5;obtain⟨l1,l2⟩:=hlt e' t' rfl;simp only[EK.gain,PS.adv] at l2;(conv=>whnf);refine cG [0] hm ?_;(conv=>whnf);refine cG [0] hc2 ?_;(conv=>whnf);exact⟨l.length - t'.n,(by show l.length - t'.n<l.length - t.n;omega),(g,Ex.bin [42] e e',t'),⟨by show g<=f;omega,l1,by show d<=t'.n;omega,by show 5*(l.length - t'.n)+1<=g;omega,hq5⟩,rfl,⟨rfl,rfl,rfl,trivial⟩,_,rfl,rfl⟩
 ·have hm:=nO l t p hpt hk [42] (by simpa using h1);rw[aB h1] at hq5;subst hq5;dsimp only[kA];conv=>whnf
  refine cG [0] hm ?_;conv=>whnf
  exact fin 1
theorem a0l {p:Tp} (hk:p.ok) (h:∀x,p.t=.sg x->¬(x=[43]∨x=[45]∨x=[38])):gV p.t [43]=false/\gV p.t [45]=false/\gV p.t [38]=false:=by
 cases ht:p.t with
 |nm y=>
  have hy:=hk.name ht;exact⟨beq_eq_false_iff_ne.2 (wJ hy (by decide)),beq_eq_false_iff_ne.2 (wJ hy (by decide)),beq_eq_false_iff_ne.2 (wJ hy (by decide))⟩
 |sg y=>
  have hy:=h y ht;exact⟨beq_eq_false_iff_ne.2 fun e=>hy (.inl e),beq_eq_false_iff_ne.2 fun e=>hy (.inr (.inl e)),beq_eq_false_iff_ne.2 fun e=>hy (.inr (.inr e))⟩
 |_=>exact⟨rfl,rfl,rfl⟩
theorem ZM [MaxL] (l:List Tp) (w:WfT l) (f:Nat) (IH:∀g,g<=f->a0D l g):V5 l (f+1):=by
 intro d s hn hd hneed;have hl:=w.len;have hwl:(wT l).length=l.length:=aS _;simp only[EK.need] at hneed;have hc:=IH f (rL _) d s hn hd (by simp only[EK.need];omega);unfold pE;cases hp:pE (wT l) f .term d s with
 |mk o s1=>
 rw[hp] at hc;cases o with
 |none=>
  dsimp only[kA] at hc⊢;refine bI Tryz.func52 rfl ?_;conv=>whnf
  refine cG [0] hc ?_;conv=>whnf
  exact fin 1
 |some e1=>
 obtain⟨hn1,hg1⟩:=B2 w.next f .term d s (by rw[hwl];exact hn) (by simp only[EK.need];omega) hp;rw[hwl] at hn1;simp only[EK.gain] at hg1;dsimp only[kA] at hc;dsimp only;generalize hR:pE (wT l) f (.exprL e1) d s1=R;refine bI Tryz.func52 rfl ?_;conv=>whnf
 refine cG [0] hc ?_;conv=>whnf
 refine GLoop.introS (fun q:Nat×Ex×PS=>q.1<=f/\q.2.2.n<l.length/\d<=q.2.2.n/\(EK.exprL q.2.1).need (l.length - q.2.2.n)<=q.1/\pE (wT l) q.1 (.exprL q.2.1) d q.2.2=R)
  (fun q=>[(0,.ptr 0 0),(1,.i .i64 (d:Nat)),(5,q.2.1.gvP)]) (fun q=>⟨[kQ l q.2.2],0,[]⟩) (fun q=>l.length - q.2.2.n) (f,e1,s1) ⟨rL _,hn1,by show d<=s1.n;omega,by simp only[EK.need];omega,hR⟩ ⟨rfl,rfl,rfl,trivial⟩ rfl
  (fun _ _=>rL _) (fun _ _=>rfl) (fun q _ e he=>⟨(FH.h (n:=1) (s:=[kQ l q.2.2]) e he),rfl,?_⟩) (fun q φ0 hq=>?_)
 ·show[GV.ptr (e 0) 0,_,GV.ren e q.2.1.gvP]=_;rw[he 0 (by simp),q.2.1.cl];rfl
 obtain⟨g,e,t⟩:=q;obtain⟨hq1,hq2,hq3,hq4,hq5⟩:=hq;replace hq1:g<=f:=hq1;replace hq2:t.n<l.length:=hq2;replace hq3:d<=t.n:=hq3;replace hq4:5*(l.length - t.n)+1<=g:=hq4;replace hq5:pE (wT l) g (.exprL e) d t=R:=hq5;obtain⟨g,rfl⟩:∃k,g=k+1:=⟨g - 1,by omega⟩;obtain⟨p,hpt,hk,ht,lT⟩:=w.at_ hq2;unfold pE at hq5;rw[ht] at hq5;by_cases h1:∃x,p.t=.sg x/\(x=[43]∨x=[45]∨x=[38])
 ·obtain⟨x,hx,h1⟩:=h1;have hm:=fun y b (h:gV p.t y=b)=>JT l t p hpt hk y;have hnow:=sM l t p hpt;have hn2:t.n+1<l.length:=lT (by rw[hx];simp) (by rw[hx];simp);have hc2:=IH g (by omega) d t.adv hn2 (by show d<=t.n+1;omega) (by simp only[EK.need,PS.adv];omega);have hlt:=fun e' s'=>B2 w.next g .term d t.adv (by rw[hwl];exact hn2) (by rw[hwl];simp only[EK.need,PS.adv];omega) (e:=e') (s':=s');rw[hwl] at hlt;rw[hx] at hq5;dsimp only at hq5;rw[aA h1] at hq5;generalize pE (wT l) g .term d t.adv=Q at hc2 hq5 hlt;obtain⟨t0,raw,ln⟩:=p;cases hx;have hr:raw=x:=hk.1;subst hr;obtain⟨_|e',t'⟩:=Q
  ·dsimp only[kA] at hc2 hq5;subst hq5;rcases h1 with rfl|rfl|rfl;all_goals
    (conv=>whnf);refine cG [0] (hm [43] _ rfl) ?_;(conv=>whnf);try
     refine cG [0] (hm [45] _ rfl) ?_;conv=>whnf
    try
     refine cG [0] (hm [38] _ rfl) ?_;conv=>whnf
    refine cG [0] hnow ?_;(conv=>whnf);refine⟨_,⟨bE (by omega),zL _,rfl,bL rfl⟩,?_⟩;(conv=>whnf);refine cG [0] hc2 ?_;(conv=>whnf);exact fin 1
  ·dsimp only[kA] at hc2 hq5;obtain⟨l1,l2⟩:=hlt e' t' rfl;simp only[EK.gain,PS.adv] at l2;rcases h1 with rfl|rfl|rfl;all_goals
    (conv=>whnf);refine cG [0] (hm [43] _ rfl) ?_;(conv=>whnf);try
     refine cG [0] (hm [45] _ rfl) ?_;conv=>whnf
    try
     refine cG [0] (hm [38] _ rfl) ?_;conv=>whnf
    refine cG [0] hnow ?_;(conv=>whnf);refine⟨_,⟨bE (by omega),zL _,rfl,bL rfl⟩,?_⟩;(conv=>whnf);refine cG [0] hc2 ?_;(conv=>whnf);exact⟨l.length - t'.n,(by show l.length - t'.n<l.length - t.n;omega),(g,Ex.bin _ e e',t'),⟨by show g<=f;omega,l1,by show d<=t'.n;omega,by show 5*(l.length - t'.n)+1<=g;omega,hq5⟩,rfl,⟨rfl,rfl,rfl,trivial⟩,_,rfl,rfl⟩
 ·have hno:∀x,p.t=.sg x->¬(x=[43]∨x=[45]∨x=[38]):=fun x hx h=>h1 ⟨x,hx,h⟩;obtain⟨o1,o2,o3⟩:=a0l hk hno;have m1:=JT l t p hpt hk [43];have m2:=JT l t p hpt hk [45];have m3:=JT l t p hpt hk [38];rw[o1] at m1;rw[o2] at m2;rw[o3] at m3;have hR2:R=(some e,t):=by
   rw[<-hq5];split
   ·rename_i x hx;rw[aB (hno x hx)]
   ·rfl
  subst hR2;dsimp only[kA];conv=>whnf
  refine cG [0] m1 ?_;conv=>whnf
  refine cG [0] m2 ?_;conv=>whnf
  refine cG [0] m3 ?_;conv=>whnf
  exact fin 1
theorem OJ [MaxL] (l:List Tp) (w:WfT l):∀f,XQ l f/\a0D l f/\V5 l f:=by
 intro f;induction f using Nat.strongRecOn with
 |ind f ih=>
 cases f with
 |zero=>exact⟨fun d s hn hd h=>by simp[EK.need] at h,fun d s hn hd h=>by simp[EK.need] at h,fun d s hn hd h=>by simp[EK.need] at h⟩
 |succ f=>exact⟨ZL l w f (ih f (eJ _)).1 (ih f (eJ _)).2.2,ZG l w f (fun g hg=>(ih g (by omega)).1),ZM l w f (fun g hg=>(ih g (by omega)).2.1)⟩
end
section
open Go.RowKit
theorem SC.freezeP [MaxL] {P:Program} {k:FuncId} {args:List GV} {s s':List GObj} {T:TypeId} {cs:List GV} (h:SC P k args s (.val (.ptr s.length 0)) (s'++[.box T cs])) (hls:s'.length=s.length)
  (hs:∀x∈s',∃T cs,x=.box T cs/\∀g∈cs,Fz g) (hcl:∀g∈cs,Fz g) (hne:0<cs.length):SC P k args s (.val (.snap cs 0)) s':=by
 refine⟨Nat.le_of_eq hls.symm,fun C w vs hr hv=>?_,fun x hx=>?_⟩
 ·refine(h.calls C w vs hr hv).mono fun en w' ⟨D,hl,hrD,he⟩=>?_;obtain⟨E,hlE,hrE,hv2,_⟩:=Rel.freeze (esz:=cs.length) (xs:=[.agg cs]) (fun r h=>hr.dom r (by show s.length<=r;omega)) hl hrD hs (by simp[flat,GV.cells]) (fun x hx=>by rw[List.mem_singleton.1 hx];rfl) hcl;refine⟨E,hlE,hrE,?_⟩;obtain⟨v,rfl,hv3⟩:=he;refine⟨v,rfl,?_⟩;cases hv3 with
  |ptr hb=>
  rename_i b _;have h4:=hv2 1 1 (.slice (some ⟨b,0,none⟩) 1 1) rfl (.rs (by rw[hls];exact hb) (rL _) hne (.inr rfl)) hne;cases h4 with
  |sl esz b' off us hn hc ha hw hx hvv ht=>
   rcases ha with⟨h5,_⟩|h5|h5
   ·cases h5
   ·cases h5;refine .snap _ 0 us (fun j g hj=>?_) (fun j g hj=>?_)
    ·have:=hx 0 (.agg cs) j g rfl hj;simpa using this
    ·have:=hvv 0 (.agg cs) j g rfl hj;simpa using this
   ·cases h5
 ·obtain⟨T,cs,rfl,_⟩:=hs x hx;simp
theorem BS [MaxL] (a x:By) (ha:a.length<1000):SC Tryz.prog 164 [.s a,.s x] [] (.val (.b (decide (0<=Lib.index a x)))) []:=by
 refine bI Tryz.func164 rfl ?_;conv=>whnf
 refine cP (OZ a x (by omega)) ?_;conv=>whnf
 exact fin 0
theorem W1 {x:By} (h:a1X.contains x=true):decide (0<=Lib.index [43,45,42,38,61,60,62,60,61,62,61] x)=PZ (.sg x):=by
 have:∀w∈a1X,decide (0<=Lib.index [43,45,42,38,61,60,62,60,61,62,61] w)=PZ (.sg w):=by decide+kernel
 exact this x (by simpa using h)
def Cn.csP:Cn->List GV
 |.zero=>[]
 |.rel op a b=>[.s op,gU,gU,a.gvP,b.gvP]
 |.no c=>[.s iX,gU,.snap c.csP 0,gU,gU]
 |.two op a b=>[.s op,.snap a.csP 0,.snap b.csP 0,gU,gU]
def Cn.gvP (c:Cn):GV:=.snap c.csP 0
theorem Cn.clL [MaxL]:∀c:Cn,ClL c.csP
 |.zero=>.nil
 |.rel op a b=>.cons (.s _) (.cons fV (.cons fV (.cons a.cl (.cons b.cl .nil))))
 |.no c=>.cons (.s _) (.cons fV (.cons (Cl.snap c.clL 0) (.cons fV (.cons fV .nil))))
 |.two op a b=>.cons (.s _) (.cons (Cl.snap a.clL 0) (.cons (Cl.snap b.clL 0) (.cons fV (.cons fV .nil))))
theorem Cn.cl [MaxL] (c:Cn):Cl c.gvP:=Cl.snap c.clL 0
instance [MaxL] (c:Cn):KG c.gvP:=⟨c.cl⟩
instance [MaxL]:KG gU:=⟨fV⟩
def l8:Option Cn->GRes
 |some c=>.val c.gvP
 |none=>.panic mL
instance [MaxL] {e:Nat->Nat} (o:Option Cn):RR e (l8 o) (l8 o):=⟨by cases o with
 |none=>rfl
 |some x=>show GRes.val (x.gvP.ren e)=_;rw[x.cl];rfl⟩
instance [MaxL] {n:Nat} (o:Option Cn):FR n (l8 o):=⟨fun e _=>(RR.h (e:=e) (r:=l8 o))⟩
abbrev E4 (l:List Tp) (s:PS) (d:Nat) (g:GV):List GObj:=[kQ l s,.box 133 [.ptr 0 0],.box 3 [.i .i64 (d:Nat)],.box 81 [g]]
theorem U0 [MaxL] (l:List Tp) (s s1:PS) (d:Nat) (o:Option Cn) (hs:s.n<100000) (hd:d<100000)
  (hc:SC Tryz.prog 69 [.ptr 0 0,.i .i64 (d+1:Nat)] [kQ l (s.adv.deep (d+1))] (l8 o) [kQ l s1]) (p1:Tp) (hs1:o.isSome=true->s1.n<100000/\l[s1.n]?=some p1/\p1.ok)
  (p2:Tp) (hs2:o.isSome=true->gV p1.t [41]=true->l[s1.n+1]?=some p2/\p2.ok):
  SC Tryz.prog 199 [.ptr 1 0,.ptr 2 0,.ptr 3 0] (E4 l s d gU)
   (if o.isSome=true/\gV p1.t [41]=true/\PZ p2.t=false then .val (.tup []) else .panic mL)
   (E4 l (if o.isSome=true then(if gV p1.t [41]=true then(if PZ p2.t=true then s1.adv.wr else s1.adv) else s1.wr) else s1) d ((o.map Cn.gvP).getD gU)):=by
 have hwd:GV.i .i64 (IntKind.i64.wrap ((d:Int)+1))=.i .i64 ((d+1:Nat):Int):=cT (by omega);have hmx:[GV.i .i64 ((max s.pr (d+1):Nat):Int)]=(GV.i .i64 (if IntKind.i64.wrap ((d:Int)+1)>((s.pr:Nat):Int) then IntKind.i64.wrap ((d:Int)+1) else((s.pr:Nat):Int))).cells:=by
  rw[bN (n:=(d:Int)+1) (by omega) (by omega)];exact lC s.pr (d+1)
 rw[<-hwd] at hc;cases o with
 |none=>
  rw[aB (by simp),aB (by simp)];dsimp only[l8] at hc;show SC Tryz.prog _ _ _ (.panic mL) (E4 l s1 d gU);refine bI Tryz.func199 rfl ?_;conv=>whnf
  refine⟨_,⟨bE (by omega),zL _,rfl,bL rfl⟩,?_⟩;conv=>whnf
  refine gP ?_;conv=>whnf
  refine⟨_,⟨hmx,zL _,rfl,bL rfl⟩,?_⟩;conv=>whnf
  refine cG [0] hc ?_;conv=>whnf
  exact fin 4
 |some c=>
  obtain⟨hl1,hp1,hk1⟩:=hs1 rfl;dsimp only[l8] at hc;by_cases h1:gV p1.t [41]=true;rotate_left
  ·have hw:=EP l s1 p1 hp1 hk1 [41] (by simpa using h1);rw[aB (fun h=>h1 h.2.1),aA (show(some c).isSome=true from rfl),aB h1];show SC Tryz.prog _ _ _ (.panic mL) (E4 l s1.wr d c.gvP);refine bI Tryz.func199 rfl ?_;(conv=>whnf);refine⟨_,⟨bE (by omega),zL _,rfl,bL rfl⟩,?_⟩;(conv=>whnf);refine gP ?_;(conv=>whnf);refine⟨_,⟨hmx,zL _,rfl,bL rfl⟩,?_⟩;(conv=>whnf);refine cG [0] hc ?_;(conv=>whnf);refine sT ?_;(conv=>whnf);refine cG [0] hw ?_;(conv=>whnf);exact fin 4
  have hw:=BM l s1 p1 hp1 hk1 [41] h1 (by omega);obtain⟨hp2,hk2⟩:=hs2 rfl h1;have hnow:=sM l s1.adv p2 hp2;rw[aA (show(some c).isSome=true from rfl),aA h1];obtain⟨t2,raw2,ln2⟩:=p2;cases t2
  case sg y=>
   have hr:raw2=y:=hk2.1;subst hr;have hct:=BS [43,45,42,38,61,60,62,60,61,62,61] raw2 (by decide);rw[W1 hk2.2] at hct;cases hop:PZ (.sg raw2) with
   |false=>
    rw[hop] at hct;rw[aA ⟨rfl,h1,rfl⟩,aB (show¬false=true by simp)];show SC Tryz.prog _ _ _ (.val (.tup [])) (E4 l s1.adv d c.gvP);refine bI Tryz.func199 rfl ?_;(conv=>whnf);refine⟨_,⟨bE (by omega),zL _,rfl,bL rfl⟩,?_⟩;(conv=>whnf);refine gP ?_;(conv=>whnf);refine⟨_,⟨hmx,zL _,rfl,bL rfl⟩,?_⟩;(conv=>whnf);refine cG [0] hc ?_;(conv=>whnf);refine sT ?_;(conv=>whnf);refine cG [0] hw ?_;(conv=>whnf);refine cG [0] hnow ?_;(conv=>whnf);refine st ?_;(conv=>whnf);refine cP hct ?_;(conv=>whnf);exact fin 4
   |true=>
    rw[hop] at hct;rw[aB (fun h=>by have:=h.2.2;cases this),aA (show true=true from rfl)];show SC Tryz.prog _ _ _ (.panic mL) (E4 l s1.adv.wr d c.gvP);refine bI Tryz.func199 rfl ?_;(conv=>whnf);refine⟨_,⟨bE (by omega),zL _,rfl,bL rfl⟩,?_⟩;(conv=>whnf);refine gP ?_;(conv=>whnf);refine⟨_,⟨hmx,zL _,rfl,bL rfl⟩,?_⟩;(conv=>whnf);refine cG [0] hc ?_;(conv=>whnf);refine sT ?_;(conv=>whnf);refine cG [0] hw ?_;(conv=>whnf);refine cG [0] hnow ?_;(conv=>whnf);refine st ?_;(conv=>whnf);refine cP hct ?_;(conv=>whnf);refine cG [0] (nG l s1.adv) ?_;(conv=>whnf);exact fin 4
  all_goals
   rw[aA ⟨rfl,h1,rfl⟩,aB (by simp[PZ])];show SC Tryz.prog _ _ _ (.val (.tup [])) (E4 l s1.adv d c.gvP);refine bI Tryz.func199 rfl ?_;(conv=>whnf);refine⟨_,⟨bE (by omega),zL _,rfl,bL rfl⟩,?_⟩;(conv=>whnf);refine gP ?_;(conv=>whnf);refine⟨_,⟨hmx,zL _,rfl,bL rfl⟩,?_⟩;(conv=>whnf);refine cG [0] hc ?_;(conv=>whnf);refine sT ?_;(conv=>whnf);refine cG [0] hw ?_;(conv=>whnf);refine cG [0] hnow ?_;(conv=>whnf);refine st ?_;(conv=>whnf);exact fin 4
end
