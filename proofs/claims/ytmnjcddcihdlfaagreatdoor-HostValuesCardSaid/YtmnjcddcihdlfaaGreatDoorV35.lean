/- Part of HostValues. -/
import Derived.Test.YtmnjcddcihdlfaaGreatDoorV34
set_option linter.all false
set_option maxRecDepth 100000
namespace Go.Proofs.YtmnjcddcihdlfaaGreatDoor
section
open Go.RowKit
set_option maxHeartbeats 2000000
def rZ (s:By):Ex×RS:=rE (kR (dC s)) (gH s) .expr ⟨0,none,0,0⟩
theorem w5 [MaxL] (s:By) (hs:s.length<=20000):SC Tryz.prog 23 [.ptr 0 0] [i7 (dC s) ⟨0,none,0,0⟩] (.val (rZ s).1.gvR) [i7 (dC s) (rZ s).2]/\(rZ s).2.n<(dC s).length:=by
 obtain⟨w,hpos⟩:=E0 s hs;have bG:(dC s).length<=s.length+1:=(sA (if s.getLast?=some 10 then 1 else 0) (s.length+1) 1 s (eJ _)).1;exact⟨(FS w (gH s)).2.2 (gH s) (rL _) ⟨0,none,0,0⟩ hpos (zL _) (by simp only[EK.need,gH];omega),(iW w (gH s) .expr ⟨0,none,0,0⟩ hpos).2.1⟩
def s3 (s:By):Cn×RS:=rC (kR (dC s)) (gH s) .cond ⟨0,none,0,0⟩
theorem w6 [MaxL] (s:By) (hs:s.length<=20000):SC Tryz.prog 31 [.ptr 0 0] [i7 (dC s) ⟨0,none,0,0⟩] (.val (s3 s).1.gvR) [i7 (dC s) (s3 s).2]/\(s3 s).2.n<(dC s).length:=by
 obtain⟨w,hpos⟩:=E0 s hs;have bG:(dC s).length<=s.length+1:=(sA (if s.getLast?=some 10 then 1 else 0) (s.length+1) 1 s (eJ _)).1;exact⟨(NX w (gH s)).2.2.2.2 (gH s) (rL _) ⟨0,none,0,0⟩ hpos (zL _) (by simp only[CK.need,gH];omega),(jA w (gH s) .cond ⟨0,none,0,0⟩ hpos).2.1⟩
theorem E8 [MaxL] (s:By) (l:List Itm) (vs:List Val) (e:Int) (he:e≠0) (h:SC Tryz.prog 22 [.s s,.sl .none (eT l),.sl .none (dZ vs)] [] (.val (.tup [gU,.i .i64 e])) []):
  SC Tryz.prog 7 [.s s,.sl .none (eT l),.sl .none (dZ vs)] [] (.val (.tup [Val.gv ⟨0,0,[]⟩,.i .i64 e])) []:=by
 have q:(e !=0)=true:=bne_iff_ne.2 he;refine bI Tryz.func7 rfl ?_;conv=>whnf
 refine cP h ?_;conv=>whnf
 rw[q];conv=>whnf
 refine st ?_;conv=>whnf
 exact fin 0
theorem PQ [MaxL] (s:By) (l:List Itm) (vs:List Val) (hl:l.length<dD) (hm:vs.length<dD) (hb:(nD l&&s4 l vs)=true) (hs:s.length<=20000) (hne:oC (kR (dC s)) (rZ s).2≠0):
  SC Tryz.prog 7 [.s s,.sl .none (eT l),.sl .none (dZ vs)] [] (.val (.tup [Val.gv ⟨0,0,[]⟩,.i .i64 (oC (kR (dC s)) (rZ s).2)])) []:=by
 have h:=oM s l vs hl hm hb hs;obtain⟨h1,hn⟩:=w5 s hs;have h2:=yO (dC s) (rZ s).2 _ (gL hn);rw[d7] at h1;generalize oC (kR (dC s)) (rZ s).2=x at*;have q:(x !=0)=true:=bne_iff_ne.2 hne;refine bI Tryz.func7 rfl ?_;conv=>whnf
 refine cN h ?_;conv=>whnf
 refine cG [1] h1 ?_;conv=>whnf
 refine st ?_;conv=>whnf
 refine cS [1] h2 ?_;conv=>whnf
 rw[q];conv=>whnf
 refine st ?_;conv=>whnf
 exact j4 (r:=.val (.tup [Val.gv ⟨0,0,[]⟩,.i .i64 x])) 0 (by kernel_rfl) (by kernel_rfl)
theorem PP [MaxL] (s:By) (l:List Itm) (vs:List Val) (hl:l.length<dD) (hm:vs.length<dD) (hb:(nD l&&s4 l vs)=true) (hs:s.length<=20000) (h0:oC (kR (dC s)) (rZ s).2=0) (hw:(rZ s).1.wf) (x:Int) (hc:(rZ s).1.ck l=.error x) (hx:x≠0):
  SC Tryz.prog 7 [.s s,.sl .none (eT l),.sl .none (dZ vs)] [] (.val (.tup [Val.gv ⟨0,0,[]⟩,.i .i64 x])) []:=by
 have h:=oM s l vs hl hm hb hs;obtain⟨h1,hn⟩:=w5 s hs;have h2:=yO (dC s) (rZ s).2 _ (gL hn);rw[h0] at h2;have hV:nD l=true:=by cases hx:nD l with|true=>rfl|false=>rw[hx] at hb;cases hb
 have h3:=w8 l hl hV (rZ s).1 hw;rw[hc] at h3;rw[d7] at h1 h3;replace h3:SC _ _ _ _ (.val (.tup [.i .i64 0,.i .i64 x])) _:=h3;have q:(x !=0)=true:=bne_iff_ne.2 hx;refine bI Tryz.func7 rfl ?_;conv=>whnf
 refine cN h ?_;conv=>whnf
 refine cG [1] h1 ?_;conv=>whnf
 refine st ?_;conv=>whnf
 refine cS [1] h2 ?_;conv=>whnf
 refine st ?_;conv=>whnf
 refine cP h3 ?_ (hw:=⟨Wks.agg ⟨.refl _,b5 _ _,b5 _ _,b5 _ _,b5 _ _,b5 _ _,trivial⟩,.refl _,trivial⟩);conv=>whnf
 rw[q];conv=>whnf
 refine st ?_;conv=>whnf
 exact j4 (r:=.val (.tup [Val.gv ⟨0,0,[]⟩,.i .i64 x])) 0 (by kernel_rfl) (by kernel_rfl)
theorem PO [MaxL] (s:By) (l:List Itm) (vs:List Val) (hl:l.length<dD) (hm:vs.length<dD) (hb:(nD l&&s4 l vs)=true) (hs:s.length<=20000) (h0:oC (kR (dC s)) (rZ s).2=0) (hw:(rZ s).1.wf) (k:Int) (hc:(rZ s).1.ck l=.ok k) (hd:l.length≠vs.length):
  SC Tryz.prog 7 [.s s,.sl .none (eT l),.sl .none (dZ vs)] [] (.val (.tup [Val.gv ⟨0,0,[]⟩,.i .i64 11])) []:=by
 have h:=oM s l vs hl hm hb hs;obtain⟨h1,hn⟩:=w5 s hs;have h2:=yO (dC s) (rZ s).2 _ (gL hn);rw[h0] at h2;have hV:nD l=true:=by cases hx:nD l with|true=>rfl|false=>rw[hx] at hb;cases hb
 have h3:=w8 l hl hV (rZ s).1 hw;rw[hc] at h3;rw[d7] at h1 h3;replace h3:SC _ _ _ _ (.val (.tup [.i .i64 k,.i .i64 0])) _:=h3;have bG:=gR l;have hvl:(dZ vs).length=vs.length:=aS _;have q:((((eT l).length:Nat):Int) !=(((dZ vs).length:Nat):Int))=true:=bne_iff_ne.2 (by rw[hvl,bG];omega);refine bI Tryz.func7 rfl ?_;conv=>whnf
 refine cN h ?_;conv=>whnf
 refine cG [1] h1 ?_;conv=>whnf
 refine st ?_;conv=>whnf
 refine cS [1] h2 ?_;conv=>whnf
 refine st ?_;conv=>whnf
 refine cP h3 ?_ (hw:=⟨Wks.agg ⟨.refl _,b5 _ _,b5 _ _,b5 _ _,b5 _ _,b5 _ _,trivial⟩,.refl _,trivial⟩);conv=>whnf
 rw[q];conv=>whnf
 refine st ?_;conv=>whnf
 exact j4 (r:=.val (.tup [Val.gv ⟨0,0,[]⟩,.i .i64 11])) 0 (by kernel_rfl) (by kernel_rfl)
theorem PN [MaxL] (s:By) (l:List Itm) (vs:List Val) (hl:l.length<dD) (hm:vs.length<dD) (hb:(nD l&&s4 l vs)=true) (hs:s.length<=20000) (h0:oC (kR (dC s)) (rZ s).2=0) (hw:(rZ s).1.wf) (k:Int) (hc:(rZ s).1.ck l=.ok k) (hd:l.length=vs.length) (hn':(rZ s).1.nm l=true) (hv:∀v∈vs,v.ok=true):
  SC Tryz.prog 7 [.s s,.sl .none (eT l),.sl .none (dZ vs)] [] (.val (.tup [(if((rZ s).1.rk l vs).2=true then((rZ s).1.rk l vs).1.gv else Val.gv ⟨0,0,[]⟩),.i .i64 (if((rZ s).1.rk l vs).2=true then 0 else 7)])) []:=by
 have h:=oM s l vs hl hm hb hs;obtain⟨h1,hn⟩:=w5 s hs;have h2:=yO (dC s) (rZ s).2 _ (gL hn);rw[h0] at h2;have hV:nD l=true:=by cases hx:nD l with|true=>rfl|false=>rw[hx] at hb;cases hb
 have h3:=w8 l hl hV (rZ s).1 hw;have h4:=pU l vs hl hv hd (rZ s).1 hw hn';rw[hc] at h3;rw[d7] at h1 h3;replace h3:SC _ _ _ _ (.val (.tup [.i .i64 k,.i .i64 0])) _:=h3;have bG:=gR l;have hvl:(dZ vs).length=vs.length:=aS _;have q:((((eT l).length:Nat):Int) !=(((dZ vs).length:Nat):Int))=false:=by rw[hvl,bG,hd];exact eO _
 rw[d7] at h4;generalize(rZ s).1.rk l vs=P at*;obtain⟨⟨k2,m,t⟩,b⟩:=P;cases b with
 |true=>
  show SC _ _ _ _ (.val (.tup [Val.gv ⟨k2,m,t⟩,.i .i64 0])) _;refine bI Tryz.func7 rfl ?_;conv=>whnf
  refine cN h ?_;conv=>whnf
  refine cG [1] h1 ?_;conv=>whnf
  refine st ?_;conv=>whnf
  refine cS [1] h2 ?_;conv=>whnf
  refine st ?_;conv=>whnf
  refine cP h3 ?_ (hw:=⟨Wks.agg ⟨.refl _,b5 _ _,b5 _ _,b5 _ _,b5 _ _,b5 _ _,trivial⟩,.refl _,trivial⟩);conv=>whnf
  rw[q];conv=>whnf
  refine cP h4 ?_ (hw:=⟨Wks.agg ⟨.refl _,b5 _ _,b5 _ _,b5 _ _,b5 _ _,b5 _ _,.refl _,b5 _ _,.refl _,.refl _,trivial⟩,.refl _,trivial⟩);conv=>whnf
  refine st (l:=Val.cs ⟨k2,m,t⟩) ?_;conv=>whnf
  refine st (l:=Val.cs ⟨k2,m,t⟩) ?_;conv=>whnf
  exact j4 (r:=.val (.tup [Val.gv ⟨k2,m,t⟩,.i .i64 0])) 0 (by kernel_rfl) (by kernel_rfl)
 |false=>
  show SC _ _ _ _ (.val (.tup [Val.gv ⟨0,0,[]⟩,.i .i64 7])) _;refine bI Tryz.func7 rfl ?_;conv=>whnf
  refine cN h ?_;conv=>whnf
  refine cG [1] h1 ?_;conv=>whnf
  refine st ?_;conv=>whnf
  refine cS [1] h2 ?_;conv=>whnf
  refine st ?_;conv=>whnf
  refine cP h3 ?_ (hw:=⟨Wks.agg ⟨.refl _,b5 _ _,b5 _ _,b5 _ _,b5 _ _,b5 _ _,trivial⟩,.refl _,trivial⟩);conv=>whnf
  rw[q];conv=>whnf
  refine cP h4 ?_ (hw:=⟨Wks.agg ⟨.refl _,b5 _ _,b5 _ _,b5 _ _,b5 _ _,b5 _ _,.refl _,b5 _ _,.refl _,.refl _,trivial⟩,.refl _,trivial⟩);conv=>whnf
  refine st (l:=Val.cs ⟨k2,m,t⟩) ?_;conv=>whnf
  refine st ?_;conv=>whnf
  exact j4 (r:=.val (.tup [Val.gv ⟨0,0,[]⟩,.i .i64 7])) 0 (by kernel_rfl) (by kernel_rfl)
theorem E9 [MaxL] (s:By) (l:List Itm) (vs:List Val) (e:Int) (he:e≠0) (h:SC Tryz.prog 22 [.s s,.sl .none (eT l),.sl .none (dZ vs)] [] (.val (.tup [gU,.i .i64 e])) []):
  SC Tryz.prog 9 [.s s,.sl .none (eT l),.sl .none (dZ vs)] [] (.val (.tup [.b false,.i .i64 e])) []:=by
 have q:(e !=0)=true:=bne_iff_ne.2 he;refine bI Tryz.func9 rfl ?_;conv=>whnf
 refine cP h ?_;conv=>whnf
 rw[q];conv=>whnf
 exact fin 0
theorem PV [MaxL] (s:By) (l:List Itm) (vs:List Val) (hl:l.length<dD) (hm:vs.length<dD) (hb:(nD l&&s4 l vs)=true) (hs:s.length<=20000) (hne:oC (kR (dC s)) (s3 s).2≠0):
  SC Tryz.prog 9 [.s s,.sl .none (eT l),.sl .none (dZ vs)] [] (.val (.tup [.b false,.i .i64 (oC (kR (dC s)) (s3 s).2)])) []:=by
 have h:=oM s l vs hl hm hb hs;obtain⟨h1,hn⟩:=w6 s hs;have h2:=yO (dC s) (s3 s).2 _ (gL hn);rw[dW] at h1;generalize oC (kR (dC s)) (s3 s).2=x at*;have q:(x !=0)=true:=bne_iff_ne.2 hne;refine bI Tryz.func9 rfl ?_;conv=>whnf
 refine cN h ?_;conv=>whnf
 refine cG [0] h1 ?_;conv=>whnf
 refine st ?_;conv=>whnf
 refine cS [0] h2 ?_;conv=>whnf
 rw[q];conv=>whnf
 exact j4 (r:=.val (.tup [.b false,.i .i64 x])) 0 (by kernel_rfl) (by kernel_rfl)
theorem PU [MaxL] (s:By) (l:List Itm) (vs:List Val) (hl:l.length<dD) (hm:vs.length<dD) (hb:(nD l&&s4 l vs)=true) (hs:s.length<=20000) (h0:oC (kR (dC s)) (s3 s).2=0) (hw:(s3 s).1.wf) (x:Int) (hc:(s3 s).1.er l=x) (hx:x≠0):
  SC Tryz.prog 9 [.s s,.sl .none (eT l),.sl .none (dZ vs)] [] (.val (.tup [.b false,.i .i64 x])) []:=by
 have h:=oM s l vs hl hm hb hs;obtain⟨h1,hn⟩:=w6 s hs;have h2:=yO (dC s) (s3 s).2 _ (gL hn);rw[h0] at h2;have hV:nD l=true:=by cases hx:nD l with|true=>rfl|false=>rw[hx] at hb;cases hb
 have h3:=tX l hl hV (s3 s).1 hw;rw[hc] at h3;rw[dW] at h1 h3;have q:(x !=0)=true:=bne_iff_ne.2 hx;refine bI Tryz.func9 rfl ?_;conv=>whnf
 refine cN h ?_;conv=>whnf
 refine cG [0] h1 ?_;conv=>whnf
 refine st ?_;conv=>whnf
 refine cS [0] h2 ?_;conv=>whnf
 refine st ?_;conv=>whnf
 refine cP h3 ?_ (hw:=⟨Wks.agg ⟨.refl _,b5 _ _,b5 _ _,b5 _ _,b5 _ _,b5 _ _,trivial⟩,.refl _,trivial⟩);conv=>whnf
 rw[q];conv=>whnf
 exact j4 (r:=.val (.tup [.b false,.i .i64 x])) 0 (by kernel_rfl) (by kernel_rfl)
theorem PT [MaxL] (s:By) (l:List Itm) (vs:List Val) (hl:l.length<dD) (hm:vs.length<dD) (hb:(nD l&&s4 l vs)=true) (hs:s.length<=20000) (h0:oC (kR (dC s)) (s3 s).2=0) (hw:(s3 s).1.wf) (hc:(s3 s).1.er l=0) (hd:l.length≠vs.length):
  SC Tryz.prog 9 [.s s,.sl .none (eT l),.sl .none (dZ vs)] [] (.val (.tup [.b false,.i .i64 11])) []:=by
 have h:=oM s l vs hl hm hb hs;obtain⟨h1,hn⟩:=w6 s hs;have h2:=yO (dC s) (s3 s).2 _ (gL hn);rw[h0] at h2;have hV:nD l=true:=by cases hx:nD l with|true=>rfl|false=>rw[hx] at hb;cases hb
 have h3:=tX l hl hV (s3 s).1 hw;rw[hc] at h3;rw[dW] at h1 h3;have bG:=gR l;have hvl:(dZ vs).length=vs.length:=aS _;have q:((((eT l).length:Nat):Int) !=(((dZ vs).length:Nat):Int))=true:=bne_iff_ne.2 (by rw[hvl,bG];omega);refine bI Tryz.func9 rfl ?_;conv=>whnf
 refine cN h ?_;conv=>whnf
 refine cG [0] h1 ?_;conv=>whnf
 refine st ?_;conv=>whnf
 refine cS [0] h2 ?_;conv=>whnf
 refine st ?_;conv=>whnf
 refine cP h3 ?_ (hw:=⟨Wks.agg ⟨.refl _,b5 _ _,b5 _ _,b5 _ _,b5 _ _,b5 _ _,trivial⟩,.refl _,trivial⟩);conv=>whnf
 rw[q];conv=>whnf
 exact j4 (r:=.val (.tup [.b false,.i .i64 11])) 0 (by kernel_rfl) (by kernel_rfl)
theorem PR [MaxL] (s:By) (l:List Itm) (vs:List Val) (hl:l.length<dD) (hm:vs.length<dD) (hb:(nD l&&s4 l vs)=true) (hs:s.length<=20000) (h0:oC (kR (dC s)) (s3 s).2=0) (hw:(s3 s).1.wf) (hc:(s3 s).1.er l=0) (hd:l.length=vs.length) (hn':(s3 s).1.nm l=true) (hv:∀v∈vs,v.ok=true):
  SC Tryz.prog 9 [.s s,.sl .none (eT l),.sl .none (dZ vs)] [] (.val (.tup [.b (if((s3 s).1.rk l vs).2=true then((s3 s).1.rk l vs).1 else false),.i .i64 (if((s3 s).1.rk l vs).2=true then 0 else 7)])) []:=by
 have h:=oM s l vs hl hm hb hs;obtain⟨h1,hn⟩:=w6 s hs;have h2:=yO (dC s) (s3 s).2 _ (gL hn);rw[h0] at h2;have hV:nD l=true:=by cases hx:nD l with|true=>rfl|false=>rw[hx] at hb;cases hb
 have h3:=tX l hl hV (s3 s).1 hw;have h4:=wB l vs hl hv hd (s3 s).1 hw hn';rw[hc] at h3;rw[dW] at h1 h3;have bG:=gR l;have hvl:(dZ vs).length=vs.length:=aS _;have q:((((eT l).length:Nat):Int) !=(((dZ vs).length:Nat):Int))=false:=by rw[hvl,bG,hd];exact eO _
 rw[dW] at h4;generalize(s3 s).1.rk l vs=P at*;obtain⟨v,b⟩:=P;cases b with
 |true=>
  show SC _ _ _ _ (.val (.tup [.b v,.i .i64 0])) _;refine bI Tryz.func9 rfl ?_;conv=>whnf
  refine cN h ?_;conv=>whnf
  refine cG [0] h1 ?_;conv=>whnf
  refine st ?_;conv=>whnf
  refine cS [0] h2 ?_;conv=>whnf
  refine st ?_;conv=>whnf
  refine cP h3 ?_ (hw:=⟨Wks.agg ⟨.refl _,b5 _ _,b5 _ _,b5 _ _,b5 _ _,b5 _ _,trivial⟩,.refl _,trivial⟩);conv=>whnf
  rw[q];conv=>whnf
  refine cP h4 ?_ (hw:=⟨Wks.agg ⟨.refl _,b5 _ _,b5 _ _,b5 _ _,b5 _ _,b5 _ _,.refl _,b5 _ _,.refl _,.refl _,trivial⟩,.refl _,trivial⟩);conv=>whnf
  exact j4 (r:=.val (.tup [.b v,.i .i64 0])) 0 (by kernel_rfl) (by kernel_rfl)
 |false=>
  show SC _ _ _ _ (.val (.tup [.b false,.i .i64 7])) _;refine bI Tryz.func9 rfl ?_;conv=>whnf
  refine cN h ?_;conv=>whnf
  refine cG [0] h1 ?_;conv=>whnf
  refine st ?_;conv=>whnf
  refine cS [0] h2 ?_;conv=>whnf
  refine st ?_;conv=>whnf
  refine cP h3 ?_ (hw:=⟨Wks.agg ⟨.refl _,b5 _ _,b5 _ _,b5 _ _,b5 _ _,b5 _ _,trivial⟩,.refl _,trivial⟩);conv=>whnf
  rw[q];conv=>whnf
  refine cP h4 ?_ (hw:=⟨Wks.agg ⟨.refl _,b5 _ _,b5 _ _,b5 _ _,b5 _ _,b5 _ _,.refl _,b5 _ _,.refl _,.refl _,trivial⟩,.refl _,trivial⟩);conv=>whnf
  exact j4 (r:=.val (.tup [.b false,.i .i64 7])) 0 (by kernel_rfl) (by kernel_rfl)
theorem S4:∀(m:List Tk) (n:Nat),n<(NF m).length->tk (NF m) n=tk m n
 |[],n,h=>by cases h
 |t::r,n,h=>by
  unfold NF at h⊢;by_cases hb:t=.bad
  ·rw[aA hb] at h⊢;cases n with
   |zero=>rfl
   |succ n=>exact absurd h (by simp)
  ·rw[aB hb] at h⊢;cases n with
   |zero=>rfl
   |succ n=>exact S4 r n (by simpa using h)
theorem sB (nl nl':Nat):∀(f ln ln':Nat) (l:By),(lA nl f ln l).map (·.t)=(lA nl' f ln' l).map (·.t)
 |0,ln,ln',l=>rfl
 |f+1,ln,ln',[]=>rfl
 |f+1,ln,ln',c::t=>by
  unfold lA;dsimp only;by_cases h10:c=10
  ·rw[aA h10,aA h10];exact sB nl nl' f _ _ _
  rw[aB h10,aB h10];by_cases h32:c=32∨c=9
  ·rw[aA h32,aA h32];exact sB nl nl' f _ _ _
  rw[aB h32,aB h32];by_cases h35:c=35
  ·rw[aA h35,aA h35];exact sB nl nl' f _ _ _
  rw[aB h35,aB h35,bY,bY,sB nl nl' f ln ln' _]
theorem RK (s:By):wT (cR s)=NF (kR (dC s)):=by
 show(jG (nlN s) (s.length+1) 1 s).map (·.t)=NF ((lA _ (s.length+1) 1 s).map (·.t));rw[vU,sB (nlN s) (if s.getLast?=some 10 then 1 else 0) (s.length+1) 1 1 s]
theorem yL (s:By) (hs:s.length<=20000):Alike (wT (cR s)) (kR (dC s)):=by
 refine⟨(nM s hs).1.next,fun n hn=>?_⟩;rw[RK] at hn⊢;exact S4 _ n hn
theorem DX (s:By) (hs:s.length<=20000):0<(wT (cR s)).length:=by
 rw[show(wT (cR s)).length=(cR s).length from aS _];exact List.length_pos_iff.2 (nM s hs).2
theorem DZ (s:By):(wT (cR s)).length<=s.length+1:=by
 rw[show(wT (cR s)).length=(cR s).length from aS _];exact xR s
theorem SJ (s:By) (hs:s.length<=20000):(lR s).2=oC (kR (dC s)) (rZ s).2/\((lR s).2=0->(lR s).1=some (rZ s).1):=by
 have ha:=yL s hs;have hp:=DX s hs;have hf:=DZ s;have h:=VN (wT (cR s)) (kR (dC s)) ha (gH s) .expr 0 ⟨0,0,0⟩ hp (by simp only[EK.need,gH];omega);unfold lR rZ;rw[aB (by omega)];revert h;show zT _ _ 0 0 _ (pE (wT (cR s)) (gH s) .expr 0 ⟨0,0,0⟩) (rE (kR (dC s)) (gH s) .expr ⟨0,none,0,0⟩)->_;generalize pE (wT (cR s)) (gH s) .expr 0 ⟨0,0,0⟩=P;generalize rE (kR (dC s)) (gH s) .expr ⟨0,none,0,0⟩=Q;intro h;obtain⟨_|e,st⟩:=P
 ·obtain⟨e,n,b,pm,rfl⟩:=h;exact⟨by unfold oC;rw[aA (.inl rfl)],fun h=>by cases h⟩
 ·obtain⟨rfl,h2,_⟩:=h;refine⟨?_,fun _=>rfl⟩;show uW (wT (cR s)) st=_;unfold uW oC;dsimp only;rw[<-ha.eq _ h2];by_cases ht:tk (wT (cR s)) st.n=.fin
  ·have hne:¬((none:Option Nat).isSome=true∨tk (wT (cR s)) st.n≠ .fin):=fun h=>h.elim (fun h=>by cases h) (fun h=>h ht);rw[aA ht,aB hne]
  ·rw[aB ht,aA (.inr ht)]
theorem W2 {t:Tk} (h:PZ t=true):t≠ .fin:=by rintro rfl;cases h
theorem SL (s:By) (hs:s.length<=20000):(lS s).2=oC (kR (dC s)) (s3 s).2/\((lS s).2=0->(lS s).1=some (s3 s).1):=by
 have ha:=yL s hs;have hp:=DX s hs;have hf:=DZ s;have h:=a0T (wT (cR s)) (kR (dC s)) ha (nM s hs).1.names (gH s) .cond 0 ⟨0,0,0⟩ hp (by simp only[CK.need,gH];omega);unfold lS s3;rw[aB (by omega)];revert h;show zU _ 0 0 _ (pC (wT (cR s)) (gH s) .cond 0 ⟨0,0,0⟩) (rC (kR (dC s)) (gH s) .cond ⟨0,none,0,0⟩)->_;generalize pC (wT (cR s)) (gH s) .cond 0 ⟨0,0,0⟩=P;generalize rC (kR (dC s)) (gH s) .cond ⟨0,none,0,0⟩=Q;intro h;obtain⟨_|e,st⟩:=P
 ·obtain⟨e,n,pm,⟨b,rfl⟩|⟨rfl,h2,h3⟩⟩:=h
  ·exact⟨by unfold oC;rw[aA (.inl rfl)],fun h=>by cases h⟩
  ·exact⟨by unfold oC;rw[aA (.inr (by rw[<-ha.eq _ h2];exact W2 h3))],fun h=>by cases h⟩
 ·obtain⟨rfl,h2,_⟩:=h;refine⟨?_,fun _=>rfl⟩;show uW (wT (cR s)) st=_;unfold uW oC;dsimp only;rw[<-ha.eq _ h2];by_cases ht:tk (wT (cR s)) st.n=.fin
  ·have hne:¬((none:Option Nat).isSome=true∨tk (wT (cR s)) st.n≠ .fin):=fun h=>h.elim (fun h=>by cases h) (fun h=>h ht);rw[aA ht,aB hne]
  ·rw[aB ht,aA (.inr ht)]
def Tk.okT:Tk->Prop
 |.nu n=>0<=n/\n<=1000000000
 |.tx s=>s.length<=40
 |.nm x=>dE x=true
 |_=>True
theorem P6 (c:UInt8) (t:By):(iD (c::t)).1.okT:=by
 unfold iD;dsimp only;by_cases h1:bQ c=true
 ·rw[aA h1];dsimp only;by_cases h2:dE (c::t.takeWhile bQ)=true
  ·rw[aA h2];exact h2
  ·rw[aB h2];cases hn:s5 (c::t.takeWhile bQ) with
   |none=>trivial
   |some k=>
    have:=u5 hn (by simp;rintro rfl;revert h1;decide);exact⟨this.1,this.2.1⟩
 rw[aB h1];by_cases h3:c=34
 ·subst h3;rw[aA rfl];dsimp only;cases hq:n7 ((34::t).take (min (2+kG t) (34::t).length)) with
  |none=>trivial
  |some v=>
   obtain⟨m,hm⟩:∃m,min (2+kG t) (34::t).length=m+1:=⟨min (2+kG t) (34::t).length - 1,by simp;omega⟩;rw[hm] at hq;have hv:=(vC (t:=t.take m) hq).2.1;exact(Val.ok_n hv).2.2
 rw[aB h3];split<;>trivial
theorem pS (nl:Nat):∀(f ln:Nat) (l:By),∀p∈jG nl f ln l,p.t.okT
 |0,ln,l,p,h=>by cases h
 |f+1,ln,[],p,h=>by rw[List.mem_singleton.1 h];trivial
 |f+1,ln,c::t,p,h=>by
  unfold jG at h;dsimp only at h;split at h
  ·exact pS nl f _ _ p h
  split at h
  ·exact pS nl f _ _ p h
  split at h
  ·exact pS nl f _ _ p h
  rcases List.mem_cons.1 h with rfl|h
  ·exact P6 c t
  ·split at h
   ·cases h
   ·exact pS nl f _ _ p h
theorem YD {l:List Tk} (h:∀t∈l,t.okT) (n:Nat):(tk l n).okT:=by
 unfold tk;rw[aL];cases hn:l[n]? with
 |none=>trivial
 |some t=>exact h t (b9 hn)
theorem DY (s:By) (n:Nat):(tk (wT (cR s)) n).okT:=YD (fun t ht=>by
 obtain⟨p,hp,rfl⟩:=List.mem_map.1 ht;exact pS _ _ _ _ p hp) n
def EK.wf:EK->Prop
 |.termL e=>e.wf
 |.exprL e=>e.wf
 |_=>True
theorem SW {l:List Tk} (hl:∀n,(tk l n).okT):∀(f:Nat) (k:EK) (d:Nat) (s:PS) (e:Ex) (s':PS),k.wf->pE l f k d s=(some e,s')->e.wf:=by
 intro f;induction f with
 |zero=>intro k d s e s' _ h;cases h
 |succ f ih=>
  intro k d s e s' hk h;have h0:=hl s.n;cases k with
  |fact=>
   unfold pE at h;cases ht:tk l s.n with
   |nu n=>rw[ht] at h h0;cases h;exact h0
   |tx x=>rw[ht] at h h0;cases h;exact h0
   |fin=>rw[ht] at h;cases h
   |bad=>rw[ht] at h;cases h
   |sg x=>
    rw[ht] at h;dsimp only at h;split at h
    ·split at h
     ·rename_i e1 s1 q1;cases h;have i:=ih .fact _ _ _ _ trivial q1;exact i
     ·cases h
    split at h
    ·split at h
     ·rename_i e1 s1 q1;split at h
      ·cases h;exact ih .expr _ _ _ _ trivial q1
      ·cases h
     ·cases h
    ·cases h
   |nm x=>
    rw[ht] at h h0;dsimp only at h;split at h
    ·cases h;trivial
    split at h
    ·cases h;trivial
    split at h
    ·have h2:=hl (s.n+2);split at h
     ·rename_i y hy;rw[hy] at h2;cases h;exact⟨wK h0,wK h2⟩
     ·cases h
    split at h
    ·cases h
    ·cases h;trivial
  |term=>
   unfold pE at h;split at h
   ·rename_i e1 s1 q1;exact ih (.termL e1) _ _ _ _ (ih .fact _ _ _ _ trivial q1) h
   ·cases h
  |expr=>
   unfold pE at h;split at h
   ·rename_i e1 s1 q1;exact ih (.exprL e1) _ _ _ _ (ih .term _ _ _ _ trivial q1) h
   ·cases h
  |termL e0=>
   unfold pE at h;split at h
   ·split at h
    ·rename_i e1 s1 q1;exact ih (.termL (.bin [42] e0 e1)) _ _ _ _ ⟨by decide,hk,ih .fact _ _ _ _ trivial q1⟩ h
    ·cases h
   ·cases h;exact hk
  |exprL e0=>
   unfold pE at h;cases ht:tk l s.n with
   |sg x=>
    rw[ht] at h;dsimp only at h;split at h
    ·rename_i hx;split at h
     ·rename_i e1 s1 q1;exact ih (.exprL (.bin x e0 e1)) _ _ _ _ ⟨by rcases hx with rfl|rfl|rfl<;>decide,hk,ih .term _ _ _ _ trivial q1⟩ h
     ·cases h
    ·cases h;exact hk
   |_=>rw[ht] at h;cases h;exact hk
def CK.wf:CK->Prop
 |.bothL c=>c.wf
 |.condL c=>c.wf
 |_=>True
theorem a0i {l:List Tk} (hl:∀n,(tk l n).okT):∀(f:Nat) (k:CK) (d:Nat) (s:PS) (e:Cn) (s':PS),k.wf->pC l f k d s=(some e,s')->e.wf:=by
 intro f;induction f with
 |zero=>intro k d s e s' _ h;cases h
 |succ f ih=>
  intro k d s e s' hk h;cases k with
  |rel=>
   unfold pC at h;split at h
   ·rename_i a s1 q1;split at h
    ·rename_i op hop;split at h
     ·rename_i hr;split at h
      ·rename_i b s2 q2;cases h;exact⟨by simpa using hr,SW hl f .expr _ _ _ _ trivial q1,SW hl f .expr _ _ _ _ trivial q2⟩
      ·cases h
     ·cases h
    ·cases h
   ·cases h
  |prim=>
   unfold pC at h;split at h
   ·split at h
    ·rename_i c s1 q1;split at h
     ·split at h
      ·exact ih .rel _ _ _ _ trivial h
      ·cases h;exact ih .cond _ _ _ _ trivial q1
     ·exact ih .rel _ _ _ _ trivial h
    ·exact ih .rel _ _ _ _ trivial h
   ·exact ih .rel _ _ _ _ trivial h
  |not=>
   unfold pC at h;split at h
   ·split at h
    ·rename_i c s1 q1;cases h;have i:=ih .prim _ _ _ _ trivial q1;exact i
    ·cases h
   ·exact ih .prim _ _ _ _ trivial h
  |both=>
   unfold pC at h;split at h
   ·rename_i c s1 q1;exact ih (.bothL c) _ _ _ _ (ih .not _ _ _ _ trivial q1) h
   ·cases h
  |cond=>
   unfold pC at h;split at h
   ·rename_i c s1 q1;exact ih (.condL c) _ _ _ _ (ih .both _ _ _ _ trivial q1) h
   ·cases h
  |bothL c0=>
   unfold pC at h;split at h
   ·split at h
    ·rename_i c s1 q1;exact ih (.bothL (.two [97,110,100] c0 c)) _ _ _ _ ⟨.inr rfl,hk,ih .not _ _ _ _ trivial q1⟩ h
    ·cases h
   ·cases h;exact hk
  |condL c0=>
   unfold pC at h;split at h
   ·split at h
    ·rename_i c s1 q1;exact ih (.condL (.two [111,114] c0 c)) _ _ _ _ ⟨.inl rfl,hk,ih .both _ _ _ _ trivial q1⟩ h
    ·cases h
   ·cases h;exact hk
theorem SI {s:By} {e:Ex} {c:Int} (h:lR s=(some e,c)):e.wf:=by
 unfold lR at h;split at h
 ·cases h
 split at h
 ·rename_i e1 st q;cases h;exact SW (DY s) (gH s) .expr _ _ _ _ trivial q
 ·cases h
theorem SK {s:By} {e:Cn} {c:Int} (h:lS s=(some e,c)):e.wf:=by
 unfold lS at h;split at h
 ·cases h
 split at h
 ·rename_i e1 st q;cases h;exact a0i (DY s) (gH s) .cond _ _ _ _ trivial q
 ·cases h
theorem UR {l:List Itm} {e:Ex} {k:Int} (h:e.ck l=.ok k):e.nm l=true:=by
 unfold Ex.ck at h;split at h
 ·assumption
 ·cases h
theorem OV {l:List Itm}:∀(c:Cn),c.er l=0->c.nm l=true
 |.zero,_=>rfl
 |.no c,h=>OV c h
 |.two op a b,h=>by
  have h:(if a.er l=0 then b.er l else a.er l)=0:=h;by_cases ha:a.er l=0
  ·rw[aA ha] at h;show(a.nm l&&b.nm l)=true;rw[OV a ha,OV b h];rfl
  ·rw[aB ha] at h;exact absurd h ha
 |.rel op a b,h=>by
  unfold Cn.er at h;cases ha:a.ck l with
  |error x=>rw[ha] at h;exact absurd h (Ex.ck_ne l a ha)
  |ok ka=>
   rw[ha] at h;dsimp only at h;cases hb:b.ck l with
   |error x=>rw[hb] at h;exact absurd h (Ex.ck_ne l b hb)
   |ok kb=>
    show(a.nm l&&b.nm l)=true;rw[UR ha,UR hb];rfl
def a1C (o:Option Bool) (p:Bool×Bool):Prop:=match o with
 |some v=>p=(v,true)
 |none=>p.2=false
theorem A3 {l:List Itm} {vs:List Val} (hv:∀v∈vs,v.ok=true) (bG:l.length=vs.length):∀(c:Cn),c.wf->c.nm l=true->a1C (c.hold l vs) (c.rk l vs)
 |.zero,h,_=>h.elim
 |.no c,h,hn=>by
  have ih:=A3 hv bG c h hn;unfold Cn.hold Cn.rk;cases hc:c.hold l vs with
  |none=>rw[hc] at ih;exact ih
  |some x=>
   rw[hc] at ih;replace ih:c.rk l vs=(x,true):=ih;rw[ih];rfl
 |.two op a b,h,hn=>by
  have hn':a.nm l=true/\b.nm l=true:=by simpa[Cn.nm] using hn
  have ih:=A3 hv bG a h.2.1 hn'.1;have jh:=A3 hv bG b h.2.2 hn'.2;unfold Cn.hold Cn.rk;cases ha:a.hold l vs with
  |none=>
   rw[ha] at ih;replace ih:(a.rk l vs).2=false:=ih;show((a.rk l vs).2&&(b.rk l vs).2)=false;rw[ih];rfl
  |some x=>
   rw[ha] at ih;replace ih:a.rk l vs=(x,true):=ih;cases hb:b.hold l vs with
   |none=>
    rw[hb] at jh;replace jh:(b.rk l vs).2=false:=jh;show((a.rk l vs).2&&(b.rk l vs).2)=false;rw[jh,Bool.and_false]
   |some y=>
    rw[hb] at jh;replace jh:b.rk l vs=(y,true):=jh;rw[ih,jh];show((if op=[97,110,100] then x&&y else x||y),true&&true)=((if op=[111,114] then x||y else x&&y),true);rcases h.1 with rfl|rfl
    ·rw[aB (by decide),aA rfl];rfl
    ·rw[aA rfl,aB (by decide)];rfl
 |.rel op a b,h,hn=>by
  have hn':a.nm l=true/\b.nm l=true:=by simpa[Cn.nm] using hn
  have ih:=uQ hv bG a h.2.1 hn'.1;have jh:=uQ hv bG b h.2.2 hn'.2;unfold Cn.hold Cn.rk;cases ha:a.ev l vs with
  |none=>
   rw[ha] at ih;replace ih:(a.rk l vs).2=false:=ih;show((a.rk l vs).2&&(b.rk l vs).2)=false;rw[ih];rfl
  |some x=>
   rw[ha] at ih;replace ih:a.rk l vs=(x,true):=ih;cases hb:b.ev l vs with
   |none=>
    rw[hb] at jh;replace jh:(b.rk l vs).2=false:=jh;show((a.rk l vs).2&&(b.rk l vs).2)=false;rw[jh,Bool.and_false]
   |some y=>
    rw[hb] at jh;replace jh:b.rk l vs=(y,true):=jh;rw[ih,jh];rfl
theorem SZ {l:List Itm} {vs:List Val} (h:s4 l vs=true):∀v∈vs,v.ok=true:=fun v hv=>by
 obtain⟨i,hi⟩:=List.mem_iff_getElem?.1 hv;cases ho:v.ok with
 |true=>rfl
 |false=>rw[M0 hi (by unfold qW;rw[ho];rfl)] at h;cases h
theorem XJ [MaxL] (s:By) (l:List Itm) (vs:List Val) (hl:l.length<dD) (hm:vs.length<dD):∃(v:Val) (c:Int),
  SC Tryz.prog 6 [.s s,.sl .none (eT l),.sl .none (dZ vs)] [] (.val (.tup [v.gv,.i .i64 c])) []/\
  SC Tryz.prog 7 [.s s,.sl .none (eT l),.sl .none (dZ vs)] [] (.val (.tup [v.gv,.i .i64 c])) []:=by
 cases hb:(nD l&&s4 l vs) with
 |false=>exact⟨_,_,QI s l vs hl hm hb,E8 s l vs 1 (by decide) (AX s l vs hl hm hb)⟩
 |true=>
 by_cases hs:20000<s.length
 ·exact⟨_,_,ER s l vs hl hm hb none 3 (aA hs) (by decide),E8 s l vs 3 (by decide) (w9 s l vs hl hm hb hs)⟩
 replace hs:s.length<=20000:=by omega
 obtain⟨e1,e2⟩:=SJ s hs;by_cases h0:(lR s).2=0;rotate_left
 ·exact⟨_,_,ER s l vs hl hm hb (lR s).1 (lR s).2 rfl h0,e1▸PQ s l vs hl hm hb hs (e1▸h0)⟩
 have hr:lR s=(some (rZ s).1,0):=Prod.ext (e2 h0) h0;have hw:=SI hr;have h1:oC (kR (dC s)) (rZ s).2=0:=e1▸h0;cases hc:(rZ s).1.ck l with
 |error x=>exact⟨_,_,QH s l vs hl hm hb _ hr hw x hc,PP s l vs hl hm hb hs h1 hw x hc (Ex.ck_ne l _ hc)⟩
 |ok k=>
  by_cases hd:l.length=vs.length;rotate_left
  ·exact⟨_,_,QG s l vs hl hm hb _ hr hw k hc (fun h=>hd h.symm),PO s l vs hl hm hb hs h1 hw k hc hd⟩
  have hv:∀v∈vs,v.ok=true:=SZ (by cases h:s4 l vs with|true=>rfl|false=>rw[h,Bool.and_false] at hb;cases hb);have hn:=UR hc;have p:=QF s l vs hl hm hb _ hr hw k hc hd hn hv;have q:=PN s l vs hl hm hb hs h1 hw k hc hd hn hv;have hS:=uQ hv hd _ hw hn;cases he:(rZ s).1.ev l vs with
  |none=>
   rw[he] at hS p;replace hS:((rZ s).1.rk l vs).2=false:=hS;rw[hS] at q;exact⟨⟨0,0,[]⟩,7,p,q⟩
  |some v=>
   rw[he] at hS p;replace hS:(rZ s).1.rk l vs=(v,true):=hS;rw[hS] at q;exact⟨v,0,p,q⟩
theorem XK [MaxL] (s:By) (l:List Itm) (vs:List Val) (hl:l.length<dD) (hm:vs.length<dD):∃(v:Bool) (c:Int),
  SC Tryz.prog 8 [.s s,.sl .none (eT l),.sl .none (dZ vs)] [] (.val (.tup [.b v,.i .i64 c])) []/\
  SC Tryz.prog 9 [.s s,.sl .none (eT l),.sl .none (dZ vs)] [] (.val (.tup [.b v,.i .i64 c])) []:=by
 cases hb:(nD l&&s4 l vs) with
 |false=>exact⟨_,_,QM s l vs hl hm hb,E9 s l vs 1 (by decide) (AX s l vs hl hm hb)⟩
 |true=>
 by_cases hs:20000<s.length
 ·exact⟨_,_,ES s l vs hl hm hb none 3 (aA hs) (by decide),E9 s l vs 3 (by decide) (w9 s l vs hl hm hb hs)⟩
 replace hs:s.length<=20000:=by omega
 obtain⟨e1,e2⟩:=SL s hs;by_cases h0:(lS s).2=0;rotate_left
 ·exact⟨_,_,ES s l vs hl hm hb (lS s).1 (lS s).2 rfl h0,e1▸PV s l vs hl hm hb hs (e1▸h0)⟩
 have hr:lS s=(some (s3 s).1,0):=Prod.ext (e2 h0) h0;have hw:=SK hr;have h1:oC (kR (dC s)) (s3 s).2=0:=e1▸h0;by_cases hc:(s3 s).1.er l=0;rotate_left
 ·exact⟨_,_,QL s l vs hl hm hb _ hr hw _ rfl hc,PU s l vs hl hm hb hs h1 hw _ rfl hc⟩
 by_cases hd:l.length=vs.length;rotate_left
 ·exact⟨_,_,QK s l vs hl hm hb _ hr hw hc (fun h=>hd h.symm),PT s l vs hl hm hb hs h1 hw hc hd⟩
 have hv:∀v∈vs,v.ok=true:=SZ (by cases h:s4 l vs with|true=>rfl|false=>rw[h,Bool.and_false] at hb;cases hb);have hn:=OV _ hc;have p:=QJ s l vs hl hm hb _ hr hw hc hd hn hv;have q:=PR s l vs hl hm hb hs h1 hw hc hd hn hv;have hS:=A3 hv hd _ hw hn;cases he:(s3 s).1.hold l vs with
 |none=>
  rw[he] at hS p;replace hS:((s3 s).1.rk l vs).2=false:=hS;rw[hS] at q;exact⟨false,7,p,q⟩
 |some v=>
  rw[he] at hS p;replace hS:(s3 s).1.rk l vs=(v,true):=hS;rw[hS] at q;exact⟨v,0,p,q⟩
theorem TD [MaxL] (s:By):SC Tryz.prog 5 [.s s] [] (.val (.b (decide (3000<s.length)&&decide (s.length<=20000)))) []:=by
 by_cases h1:3000<s.length
 ·rw[aR h1];refine bI Tryz.func5 rfl ?_;conv=>whnf
  refine gY (c:=decide (((s.length:Nat):Int)>3000)) (aR (by omega)) ?_;conv=>whnf
  exact fin 0 (hw:=cJ (by show GV.b (decide _)=GV.b (true&&decide _);rw[Bool.true_and];congr 1;exact decide_eq_decide.2 (by omega)))
 ·rw[aQ h1];refine bI Tryz.func5 rfl ?_;conv=>whnf
  refine gN (c:=decide (((s.length:Nat):Int)>3000)) (aQ (by omega)) ?_;conv=>whnf
  exact fin 0
theorem G4 [MaxL] (s t:By) (l:List Itm) (vs:List Val) (hl:l.length<dD) (hm:vs.length<dD):
  SC Tryz.prog 3 [.s s,.s t,.sl .none (eT l),.sl .none (dZ vs)] [] (.val (.b true)) []:=by
 have ha:=X3;have h1:=TD s;have h2:=TD t;obtain⟨v,c,p1,q1⟩:=XJ s l vs hl hm;obtain⟨b,d,p2,q2⟩:=XK t l vs hl hm;obtain⟨k,n,x⟩:=v;have he:(!(k==k&&(n==n&&(x==x&&true))))=false:=by simp
 have hc:(c !=c)=false:=eO _;have hd:(d==d)=true:=beq_self_eq_true _;have hb:(b==b)=true:=beq_self_eq_true _;generalize(decide (3000<s.length)&&decide (s.length<=20000))=z1 at h1;generalize(decide (3000<t.length)&&decide (t.length<=20000))=z2 at h2;cases z1 with
 |true=>
  refine bI Tryz.func3 rfl ?_;conv=>whnf
  refine cP ha ?_;conv=>whnf
  refine cP h1 ?_;conv=>whnf
  exact fin 0
 |false=>
 cases z2 with
 |true=>
  refine bI Tryz.func3 rfl ?_;conv=>whnf
  refine cP ha ?_;conv=>whnf
  refine cP h1 ?_;conv=>whnf
  refine cP h2 ?_;conv=>whnf
  exact fin 0
 |false=>
  refine bI Tryz.func3 rfl ?_;conv=>whnf
  refine cP ha ?_;conv=>whnf
  refine cP h1 ?_;conv=>whnf
  refine cP h2 ?_;conv=>whnf
  refine cP p1 ?_;conv=>whnf
  refine st (l:=Val.cs ⟨k,n,x⟩) ?_;conv=>whnf
  refine cP q1 ?_;conv=>whnf
  refine st (l:=Val.cs ⟨k,n,x⟩) ?_;conv=>whnf
  refine⟨by kernel_rfl,?_⟩;conv=>whnf
  refine gN he ?_;conv=>whnf
  rw[hc];conv=>whnf
  refine cP p2 ?_;conv=>whnf
  refine cP q2 ?_;conv=>whnf
  rw[hb];conv=>whnf
  exact fin 0 (hw:=cJ (aJ GV.b hd))
end
section
open Go Go.ChangeShapes Go.WideShapes Go.RowKit
theorem OC {α:Type} {Q:Nat->α->Prop}:∀n,(∀i,i<n->∃a,Q i a)->∃l:List α,l.length=n/\∀i a,l[i]?=some a->Q i a
 |0,_=>⟨[],rfl,fun i a h=>by simp at h⟩
 |n+1,h=>by
  obtain⟨l,hl,hq⟩:=OC n (fun i hi=>h i (by omega));obtain⟨a,ha⟩:=h n (by omega);refine⟨l++[a],by simp[hl],fun i b hb=>?_⟩;rcases Nat.lt_trichotomy i n with hi|rfl|hi
  ·rw[aU (by omega)] at hb;exact hq i b hb
  ·rw[bT (by omega),hl] at hb;simp at hb;subst hb;exact ha
  ·rw[b6 (by simp;omega)] at hb;cases hb
theorem FE (b off n:Nat):(⟨b,off,none⟩:Addr).add n=⟨b,off+n,none⟩:=by
 unfold Addr.add;split
 ·rename_i h;subst h;rfl
 ·rfl
theorem IC [MaxL] {H:Type} {enc:TypeId×Value->H} {P:Program} {W:World} {r:Reach} {b0 base:Nat} {sp:Nat->Bool} {held:Bool} {α:Type} (vals:α->List Value) (gv:α->GV) {t e:TypeId} {v:Value} {d:DataW H} {ps:List MemPlace}
  (ht:P.underlying t=some (.slice e)) {esz:Nat} (hc:P.cellsOf e=esz)
  (elem:∀(n:Nat) cs x,DataW.trod enc P W base sp held n e cs=some x->∃a:α,cs=vals a)
  (hg:∀a,(gv a).cells.length=esz) (hv:∀a,(vals a).length=esz)
  (hvr:∀(C:Cx) a (j:Nat) g u,(gv a).cells[j]?=some g->(vals a)[j]?=some u->VR C g u)
  (hval:Value.okWide P W r b0 t v) (hd:DataW.Trod enc P W base sp held t v d ps) (hlt:∀m∈d.weights P t,m<=reachBytes) (hbe:1<=P.bytesOf e):
  ∃l:List α,l.length<=reachBytes/\VR (C0 W) (.sl .none (l.map gv)) v:=by
 have hspot:∀a len cap,v=.slice (some a) len cap->a.spot=none:=by
  rintro a len cap rfl;simp only[Value.okWide,ht,Cell.okWide,Cell.ok,World.has] at hval;exact hval.2.2.2.1
 obtain⟨a0,len0,cap0,rfl⟩:=okWide_slice ht hval;obtain⟨fuel,hf⟩:=hd;rcases DataW.trod_slice ht hf with⟨hcs,_⟩|⟨a,len,cap,elems,rest,n,_,hcs,hx,hb,hl,hm,bG,hel,_,_⟩
 ·simp[Value.cells] at hcs;obtain⟨rfl,rfl,rfl⟩:=hcs;exact⟨[],zL _,.sl 0 0 0 (fun _=>.bool false) rfl (rL _) (.inl ⟨rfl,rfl⟩) (by simp) (by simp) (by simp) trivial⟩
 ·simp[Value.cells] at hcs;obtain⟨rfl,rfl,rfl⟩:=hcs;have hsp:=hspot a len0 cap0 rfl;obtain⟨b,off,spot⟩:=a;simp only at hsp;subst hsp;obtain⟨l,hll,hq⟩:=OC (Q:=fun i x=>W.cells? base ((⟨b,off,none⟩:Addr).add (i*esz)) esz=some (vals x)) len0 (fun i hi=>by
   have h1:=hel i hi;have hy:elems[i]?=some (elems[i]'(by omega)):=gL (by omega);rw[hy,Option.bind_eq_some_iff,hc] at h1;obtain⟨cs',h1,h2⟩:=h1;obtain⟨x,rfl⟩:=elem _ _ _ h2;exact⟨x,h1⟩)
  have hcell:∀(i:Nat) x (j:Nat) u,l[i]?=some x->(vals x)[j]?=some u->W.cell? ⟨b,off+i*esz+j,none⟩=some u:=fun i x j u hx hu=>by
   obtain⟨_,hn,hh⟩:=World.cells?_some (hq i x hx);have hj:j<esz:=by rw[<-hn];exact(List.getElem?_eq_some_iff.1 hu).1
   have:=hh j hj;rw[FE,FE,hu] at this;exact this
  have hbig:l.length<=reachBytes:=by
   have hd:d=.slice (elems.map (·.1)) (rest.map (·.1)):=aJ Prod.fst hx;have:=hlt ((elems.map (·.1)).length+(rest.map (·.1)).length |> (· *P.bytesOf e)) (by rw[hd];unfold DataW.weights;rw[ht];exact gJ);have h2:=Nat.le_mul_of_pos_right ((elems.map (·.1)).length+(rest.map (·.1)).length) hbe;rw[aS,aS] at this h2;dsimp only at this;omega
  refine⟨l,hbig,.sl esz b off (fun k=>(W.cell? ⟨b,off+k,none⟩).getD (.bool false)) (by simp[hll]) hl (.inr (.inl rfl)) (fun x hx=>?_) (fun i x j g hx hj=>?_) (fun i x j g hx hj=>?_) trivial⟩
  ·obtain⟨y,_,rfl⟩:=List.mem_map.1 hx;exact hg y
  all_goals
   rw[aG] at hx;obtain⟨y,hy,rfl⟩:=Option.map_eq_some_iff.1 hx;have hjl:j<(vals y).length:=by
    have:=(List.getElem?_eq_some_iff.1 hj).1;rw[hg] at this;rw[hv];exact this
   have hu:(vals y)[j]?=some (vals y)[j]:=gL hjl;have hce:=hcell i y j _ hy hu;rw[<-Nat.add_assoc,hce,fM]
  ·exact hce
  ·exact hvr _ y j g _ hj hu
theorem a1h {α:Type} {cs:List α} (h:cs.length=5):∃a b c d e,cs=[a,b,c,d,e]:=by
 match cs,h with
 |[a,b,c,d,e],_=>exact⟨a,b,c,d,e,rfl⟩
theorem a0P {α:Type} {cs:List α} (h:cs.length=3):∃a b c,cs=[a,b,c]:=by
 match cs,h with
 |[a,b,c],_=>exact⟨a,b,c,rfl⟩
theorem RY:Tryz.prog.underlying 128=some (.struct #[{name:= "Name",type:=9,offset:=0,embedded:=false,tag:= "",pkgPath:= "",byteOffset:=0},{name:= "Kind",type:=3,offset:=1,embedded:=false,tag:= "",pkgPath:= "",byteOffset:=16},{name:= "Low",type:=3,offset:=2,embedded:=false,tag:= "",pkgPath:= "",byteOffset:=24},{name:= "High",type:=3,offset:=3,embedded:=false,tag:= "",pkgPath:= "",byteOffset:=32},{name:= "Len",type:=3,offset:=4,embedded:=false,tag:= "",pkgPath:= "",byteOffset:=40}]):=by kernel_rfl
theorem VD:Tryz.prog.underlying 27=some (.struct #[{name:= "Kind",type:=3,offset:=0,embedded:=false,tag:= "",pkgPath:= "",byteOffset:=0},{name:= "N",type:=3,offset:=1,embedded:=false,tag:= "",pkgPath:= "",byteOffset:=8},{name:= "S",type:=9,offset:=2,embedded:=false,tag:= "",pkgPath:= "",byteOffset:=16}]):=by kernel_rfl
theorem VF:Tryz.prog.underlying 3=some (.int .i64):=by kernel_rfl
theorem PA:Tryz.prog.underlying 22=some (.slice 128):=by kernel_rfl
theorem RX:Tryz.prog.underlying 23=some (.slice 27):=by kernel_rfl
theorem F8:Tryz.prog.cellsOf 9=1:=by kernel_rfl
theorem F9:Tryz.prog.cellsOf 3=1:=by kernel_rfl
theorem CU:Tryz.prog.cellsOf 128=5:=by kernel_rfl
theorem F7:Tryz.prog.cellsOf 27=3:=by kernel_rfl
def a0s (i:Itm):List Value:=[.string ⟨i.name.toArray⟩,.int .i64 i.k,.int .i64 i.lo,.int .i64 i.hi,.int .i64 i.len]
def a0L (v:Val):List Value:=[.int .i64 v.k,.int .i64 v.n,.string ⟨v.s.toArray⟩]
section
variable {H : Type} {enc : TypeId × Value → H} {W : World} {base n : Nat} {sp : Nat → Bool} {held : Bool} {cs : List Value} {x : DataW H × List MemPlace}
theorem u3 {v:Value} {y:Option (DataW H×List MemPlace)} (h:DataW.trod enc Tryz.prog W base sp held n 3 [v]=y) (hy:y.isSome=true):∃z,v=.int .i64 z:=by
 obtain⟨y',rfl⟩:=Option.isSome_iff_exists.1 hy;obtain⟨z,hz,_⟩:=DataW.trod_int VF h;exact⟨z,by simpa using hz⟩
theorem O3 {v:Value} {y:Option (DataW H×List MemPlace)} (h:DataW.trod enc Tryz.prog W base sp held n 9 [v]=y) (hy:y.isSome=true):∃z:List UInt8,v=.string ⟨z.toArray⟩:=by
 obtain⟨y',rfl⟩:=Option.isSome_iff_exists.1 hy;obtain⟨z,hz,_⟩:=DataW.trod_string zX h;exact⟨z.data.toList,by simpa using hz⟩
theorem Q4 (h:DataW.trod enc Tryz.prog W base sp held n 128 cs=some x):∃i:Itm,cs=a0s i:=by
 obtain⟨xs,m,rfl,_,bG,hxs,hf⟩:=DataW.trod_struct RY h;rw[CU] at bG;obtain⟨c0,c1,c2,c3,c4,rfl⟩:=a1h bG;have f0:DataW.trod enc Tryz.prog W base sp held m 9 (([c0,c1,c2,c3,c4].drop 0).take (Tryz.prog.cellsOf 9))=xs[0]?:=hf 0 _ rfl;have f1:DataW.trod enc Tryz.prog W base sp held m 3 (([c0,c1,c2,c3,c4].drop 1).take (Tryz.prog.cellsOf 3))=xs[1]?:=hf 1 _ rfl;have f2:DataW.trod enc Tryz.prog W base sp held m 3 (([c0,c1,c2,c3,c4].drop 2).take (Tryz.prog.cellsOf 3))=xs[2]?:=hf 2 _ rfl;have f3:DataW.trod enc Tryz.prog W base sp held m 3 (([c0,c1,c2,c3,c4].drop 3).take (Tryz.prog.cellsOf 3))=xs[3]?:=hf 3 _ rfl;have f4:DataW.trod enc Tryz.prog W base sp held m 3 (([c0,c1,c2,c3,c4].drop 4).take (Tryz.prog.cellsOf 3))=xs[4]?:=hf 4 _ rfl;rw[F8] at f0;rw[F9] at f1 f2 f3 f4;have hn:∀i,i<5->(xs[i]?).isSome=true:=fun i hi=>by
  rw[gL (by rw[hxs];exact hi)];rfl
 obtain⟨a,rfl⟩:=O3 f0 (hn 0 (by decide));obtain⟨b,rfl⟩:=u3 f1 (hn 1 (by decide));obtain⟨c,rfl⟩:=u3 f2 (hn 2 (by decide));obtain⟨d,rfl⟩:=u3 f3 (hn 3 (by decide));obtain⟨e,rfl⟩:=u3 f4 (hn 4 (by decide));exact⟨⟨a,b,c,d,e⟩,rfl⟩
theorem RW (h:DataW.trod enc Tryz.prog W base sp held n 27 cs=some x):∃i:Val,cs=a0L i:=by
 obtain⟨xs,m,rfl,_,bG,hxs,hf⟩:=DataW.trod_struct VD h;rw[F7] at bG;obtain⟨c0,c1,c2,rfl⟩:=a0P bG;have f0:DataW.trod enc Tryz.prog W base sp held m 3 (([c0,c1,c2].drop 0).take (Tryz.prog.cellsOf 3))=xs[0]?:=hf 0 _ rfl;have f1:DataW.trod enc Tryz.prog W base sp held m 3 (([c0,c1,c2].drop 1).take (Tryz.prog.cellsOf 3))=xs[1]?:=hf 1 _ rfl;have f2:DataW.trod enc Tryz.prog W base sp held m 9 (([c0,c1,c2].drop 2).take (Tryz.prog.cellsOf 9))=xs[2]?:=hf 2 _ rfl;rw[F9] at f0 f1;rw[F8] at f2;have hn:∀i,i<3->(xs[i]?).isSome=true:=fun i hi=>by
  rw[gL (by rw[hxs];exact hi)];rfl
 obtain⟨a,rfl⟩:=u3 f0 (hn 0 (by decide));obtain⟨b,rfl⟩:=u3 f1 (hn 1 (by decide));obtain⟨c,rfl⟩:=O3 f2 (hn 2 (by decide));exact⟨⟨a,b,c⟩,rfl⟩
variable {r : Reach} {b0 : Nat} {v : Value} {d : DataW H} {ps : List MemPlace}
theorem TF [MaxL] (hval:Value.okWide Tryz.prog W r b0 22 v) (hd:DataW.Trod enc Tryz.prog W base sp held 22 v d ps) (hlt:∀m∈d.weights Tryz.prog 22,m<=reachBytes):∃l:List Itm,l.length<=reachBytes/\VR (C0 W) (.sl .none (eT l)) v:=
 IC a0s Itm.gv PA CU (fun _ _ _ h=>Q4 h) (fun _=>rfl) (fun _=>rfl) (fun C a j g u hg hu=>by
  match j,hg,hu with
  |0,hg,hu=>cases hg;cases hu;exact .s _
  |1,hg,hu=>cases hg;cases hu;exact .i _ _
  |2,hg,hu=>cases hg;cases hu;exact .i _ _
  |3,hg,hu=>cases hg;cases hu;exact .i _ _
  |4,hg,hu=>cases hg;cases hu;exact .i _ _
  |j+5,hg,hu=>cases hg) hval hd hlt (bL (by kernel_rfl))
theorem VC [MaxL] (hval:Value.okWide Tryz.prog W r b0 23 v) (hd:DataW.Trod enc Tryz.prog W base sp held 23 v d ps) (hlt:∀m∈d.weights Tryz.prog 23,m<=reachBytes):∃l:List Val,l.length<=reachBytes/\VR (C0 W) (.sl .none (dZ l)) v:=
 IC a0L Val.gv RX F7 (fun _ _ _ h=>RW h) (fun _=>rfl) (fun _=>rfl) (fun C a j g u hg hu=>by
  match j,hg,hu with
  |0,hg,hu=>cases hg;cases hu;exact .i _ _
  |1,hg,hu=>cases hg;cases hu;exact .i _ _
  |2,hg,hu=>cases hg;cases hu;exact .s _
  |j+3,hg,hu=>cases hg) hval hd hlt (bL (by kernel_rfl))
end
end
