/- Part of HostValues. -/
import Derived.Test.YtmnjcddcihdlfaaGreatDoorV32
set_option linter.all false
set_option maxRecDepth 100000
namespace Go.Proofs.YtmnjcddcihdlfaaGreatDoor
open Go.RowKit
set_option maxHeartbeats 1000000
theorem QI [MaxL] (s:By) (l:List Itm) (vs:List Val) (hl:l.length<dD) (hm:vs.length<dD) (hb:(nD l&&s4 l vs)=false):
  SC Tryz.prog 6 [.s s,.sl .none (eT l),.sl .none (dZ vs)] [] (.val (.tup [(Val.gv ⟨0,0,[]⟩),.i .i64 1])) []:=by
 have ho:=pL l vs hl hm;have hvl:(dZ vs).length=vs.length:=aS _;have bG:=gR l;rw[hb] at ho;replace ho:SC _ _ _ _ (.val (.tup [M1,M2,.i .i64 1])) []:=ho;refine bI Tryz.func6 rfl ?_;conv=>whnf
 refine cP ho ?_;conv=>whnf
 refine st ?_;conv=>whnf
 exact j4 (r:=.val (.tup [(Val.gv ⟨0,0,[]⟩),.i .i64 1])) 0 (by kernel_rfl) (by kernel_rfl)
theorem ER [MaxL] (s:By) (l:List Itm) (vs:List Val) (hl:l.length<dD) (hm:vs.length<dD) (hb:(nD l&&s4 l vs)=true) (x:Option Ex) (c:Int) (h:lR s=(x,c)) (hc:c≠0):
  SC Tryz.prog 6 [.s s,.sl .none (eT l),.sl .none (dZ vs)] [] (.val (.tup [(Val.gv ⟨0,0,[]⟩),.i .i64 c])) []:=by
 have ho:=pL l vs hl hm;have hvl:(dZ vs).length=vs.length:=aS _;have bG:=gR l;rw[hb] at ho;replace ho:SC _ _ _ _ (.val (.tup [.mp 1,.fn (.func 49) [] [.ptr 0 0,.ptr 3 0],.i .i64 0])) (SX l vs):=ho;have hr:=qZ s;rw[h] at hr;have q0:(c==0)=false:=beq_eq_false_iff_ne.2 hc;have q1:(c !=0)=true:=bne_iff_ne.2 hc;cases x with
 |none=>
  replace hr:SC _ _ _ _ (.val (.tup [gU,.i .i64 c])) _:=hr;refine bI Tryz.func6 rfl ?_;conv=>whnf
  refine cN ho ?_;conv=>whnf
  refine cP hr ?_;conv=>whnf
  refine st ?_;conv=>whnf
  rw[q0];conv=>whnf
  rw[q0];conv=>whnf
  rw[q1];conv=>whnf
  refine st ?_;conv=>whnf
  exact j4 (r:=.val (.tup [(Val.gv ⟨0,0,[]⟩),.i .i64 c])) 0 (by kernel_rfl) (by kernel_rfl)
 |some e=>
  replace hr:SC _ _ _ _ (.val (.tup [e.gvP,.i .i64 c])) _:=hr;refine bI Tryz.func6 rfl ?_;conv=>whnf
  refine cN ho ?_;conv=>whnf
  refine cP hr ?_;conv=>whnf
  refine st ?_;conv=>whnf
  rw[q0];conv=>whnf
  rw[q0];conv=>whnf
  rw[q1];conv=>whnf
  refine st ?_;conv=>whnf
  exact j4 (r:=.val (.tup [(Val.gv ⟨0,0,[]⟩),.i .i64 c])) 0 (by kernel_rfl) (by kernel_rfl)
theorem QH [MaxL] (s:By) (l:List Itm) (vs:List Val) (hl:l.length<dD) (hm:vs.length<dD) (hb:(nD l&&s4 l vs)=true) (e:Ex) (h:lR s=(some e,0)) (hw:e.wf) (x:Int) (h2:e.ck l=.error x):
  SC Tryz.prog 6 [.s s,.sl .none (eT l),.sl .none (dZ vs)] [] (.val (.tup [(Val.gv ⟨0,0,[]⟩),.i .i64 x])) []:=by
 have ho:=pL l vs hl hm;have hvl:(dZ vs).length=vs.length:=aS _;have bG:=gR l;rw[hb] at ho;replace ho:SC _ _ _ _ (.val (.tup [.mp 1,.fn (.func 49) [] [.ptr 0 0,.ptr 3 0],.i .i64 0])) (SX l vs):=ho;have hr:=qZ s;rw[h] at hr;have h1:=BQ l e hw;rw[h2] at h1;have hx:=Ex.ck_ne l e h2;replace h1:SC _ _ _ _ (.panic (f6 x)) _:=h1;have ha:=BP _ (.inl rfl) _ l e.gvP x h1;have q0:(x==0)=false:=beq_eq_false_iff_ne.2 hx;have q1:(x !=0)=true:=bne_iff_ne.2 hx;replace hr:SC _ _ _ _ (.val (.tup [e.gvP,.i .i64 0])) _:=hr;refine bI Tryz.func6 rfl ?_;conv=>whnf
 refine cN ho ?_;conv=>whnf
 refine cP hr ?_;conv=>whnf
 refine st ?_;conv=>whnf
 refine cS [2,5] ha ?_;conv=>whnf
 rw[q0];conv=>whnf
 rw[q1];conv=>whnf
 refine st ?_;conv=>whnf
 exact j4 (r:=.val (.tup [(Val.gv ⟨0,0,[]⟩),.i .i64 x])) 0 (by kernel_rfl) (by kernel_rfl)
theorem QG [MaxL] (s:By) (l:List Itm) (vs:List Val) (hl:l.length<dD) (hm:vs.length<dD) (hb:(nD l&&s4 l vs)=true) (e:Ex) (h:lR s=(some e,0)) (hw:e.wf) (k:Int) (h2:e.ck l=.ok k) (hd:vs.length≠l.length):
  SC Tryz.prog 6 [.s s,.sl .none (eT l),.sl .none (dZ vs)] [] (.val (.tup [(Val.gv ⟨0,0,[]⟩),.i .i64 11])) []:=by
 have ho:=pL l vs hl hm;have hvl:(dZ vs).length=vs.length:=aS _;have bG:=gR l;rw[hb] at ho;replace ho:SC _ _ _ _ (.val (.tup [.mp 1,.fn (.func 49) [] [.ptr 0 0,.ptr 3 0],.i .i64 0])) (SX l vs):=ho;have hr:=qZ s;rw[h] at hr;have h1:=BQ l e hw;rw[h2] at h1;replace h1:SC _ _ _ _ (.val (.tup [])) _:=h1;have ha:=r6 _ (.inl rfl) _ l e.gvP h1;replace hr:SC _ _ _ _ (.val (.tup [e.gvP,.i .i64 0])) _:=hr;have q:((((dZ vs).length:Nat):Int) !=(((eT l).length:Nat):Int))=true:=bne_iff_ne.2 (by rw[hvl,bG];omega);refine bI Tryz.func6 rfl ?_;conv=>whnf
 refine cN ho ?_;conv=>whnf
 refine cP hr ?_;conv=>whnf
 refine st ?_;conv=>whnf
 refine cS [2,5] ha ?_;conv=>whnf
 rw[q];conv=>whnf
 refine st ?_;conv=>whnf
 exact j4 (r:=.val (.tup [(Val.gv ⟨0,0,[]⟩),.i .i64 11])) 0 (by kernel_rfl) (by kernel_rfl)
theorem QF [MaxL] (s:By) (l:List Itm) (vs:List Val) (hl:l.length<dD) (hm:vs.length<dD) (hb:(nD l&&s4 l vs)=true) (e:Ex) (h:lR s=(some e,0)) (hw:e.wf) (k:Int) (h2:e.ck l=.ok k) (hd:l.length=vs.length) (hn:e.nm l=true) (hv:∀v∈vs,v.ok=true):
  SC Tryz.prog 6 [.s s,.sl .none (eT l),.sl .none (dZ vs)] [] (.val (.tup [(match e.ev l vs with|some v=>v.gv|none=>Val.gv ⟨0,0,[]⟩),.i .i64 (if(e.ev l vs).isSome=true then 0 else 7)])) []:=by
 have ho:=pL l vs hl hm;have hvl:(dZ vs).length=vs.length:=aS _;have bG:=gR l;rw[hb] at ho;replace ho:SC _ _ _ _ (.val (.tup [.mp 1,.fn (.func 49) [] [.ptr 0 0,.ptr 3 0],.i .i64 0])) (SX l vs):=ho;have hr:=qZ s;rw[h] at hr;have h1:=BQ l e hw;rw[h2] at h1;replace h1:SC _ _ _ _ (.val (.tup [])) _:=h1;have ha:=r6 _ (.inl rfl) _ l e.gvP h1;replace hr:SC _ _ _ _ (.val (.tup [e.gvP,.i .i64 0])) _:=hr;have q:((((dZ vs).length:Nat):Int) !=(((eT l).length:Nat):Int))=false:=by rw[hvl,bG,hd];exact eO _
 have he:=ZP l vs hv hd e hw hn;cases hx:e.ev l vs with
 |none=>
  rw[hx] at he;replace he:SC _ _ _ _ (.val (.tup [(Val.gv ⟨0,0,[]⟩),.b false])) _:=he;show SC _ _ _ _ (.val (.tup [(Val.gv ⟨0,0,[]⟩),.i .i64 7])) _;refine bI Tryz.func6 rfl ?_;conv=>whnf
  refine cN ho ?_;conv=>whnf
  refine cP hr ?_;conv=>whnf
  refine st ?_;conv=>whnf
  refine cS [2,5] ha ?_;conv=>whnf
  rw[q];conv=>whnf
  refine cS [1,3,4] he ?_;conv=>whnf
  refine st ?_;conv=>whnf
  refine st ?_;conv=>whnf
  exact j4 (r:=.val (.tup [(Val.gv ⟨0,0,[]⟩),.i .i64 7])) 0 (by kernel_rfl) (by kernel_rfl)
 |some v=>
  rw[hx] at he;replace he:SC _ _ _ _ (.val (.tup [v.gv,.b true])) _:=he;show SC _ _ _ _ (.val (.tup [v.gv,.i .i64 0])) _;refine bI Tryz.func6 rfl ?_;conv=>whnf
  refine cN ho ?_;conv=>whnf
  refine cP hr ?_;conv=>whnf
  refine st ?_;conv=>whnf
  refine cS [2,5] ha ?_;conv=>whnf
  rw[q];conv=>whnf
  refine cS [1,3,4] he ?_;conv=>whnf
  refine st ?_;conv=>whnf
  refine st ?_;conv=>whnf
  exact j4 (r:=.val (.tup [v.gv,.i .i64 0])) 0 (by kernel_rfl) (by kernel_rfl)
theorem QM [MaxL] (s:By) (l:List Itm) (vs:List Val) (hl:l.length<dD) (hm:vs.length<dD) (hb:(nD l&&s4 l vs)=false):
  SC Tryz.prog 8 [.s s,.sl .none (eT l),.sl .none (dZ vs)] [] (.val (.tup [(.b false),.i .i64 1])) []:=by
 have ho:=pL l vs hl hm;have hvl:(dZ vs).length=vs.length:=aS _;have bG:=gR l;rw[hb] at ho;replace ho:SC _ _ _ _ (.val (.tup [M1,M2,.i .i64 1])) []:=ho;refine bI Tryz.func8 rfl ?_;conv=>whnf
 refine cP ho ?_;conv=>whnf
 exact j4 (r:=.val (.tup [(.b false),.i .i64 1])) 0 (by kernel_rfl) (by kernel_rfl)
theorem ES [MaxL] (s:By) (l:List Itm) (vs:List Val) (hl:l.length<dD) (hm:vs.length<dD) (hb:(nD l&&s4 l vs)=true) (x:Option Cn) (c:Int) (h:lS s=(x,c)) (hc:c≠0):
  SC Tryz.prog 8 [.s s,.sl .none (eT l),.sl .none (dZ vs)] [] (.val (.tup [(.b false),.i .i64 c])) []:=by
 have ho:=pL l vs hl hm;have hvl:(dZ vs).length=vs.length:=aS _;have bG:=gR l;rw[hb] at ho;replace ho:SC _ _ _ _ (.val (.tup [.mp 1,.fn (.func 49) [] [.ptr 0 0,.ptr 3 0],.i .i64 0])) (SX l vs):=ho;have hr:=r4 s;rw[h] at hr;have q0:(c==0)=false:=beq_eq_false_iff_ne.2 hc;have q1:(c !=0)=true:=bne_iff_ne.2 hc;cases x with
 |none=>
  replace hr:SC _ _ _ _ (.val (.tup [gU,.i .i64 c])) _:=hr;refine bI Tryz.func8 rfl ?_;conv=>whnf
  refine cN ho ?_;conv=>whnf
  refine cP hr ?_;conv=>whnf
  refine st ?_;conv=>whnf
  rw[q0];conv=>whnf
  rw[q0];conv=>whnf
  rw[q1];conv=>whnf
  exact j4 (r:=.val (.tup [(.b false),.i .i64 c])) 0 (by kernel_rfl) (by kernel_rfl)
 |some e=>
  replace hr:SC _ _ _ _ (.val (.tup [e.gvP,.i .i64 c])) _:=hr;refine bI Tryz.func8 rfl ?_;conv=>whnf
  refine cN ho ?_;conv=>whnf
  refine cP hr ?_;conv=>whnf
  refine st ?_;conv=>whnf
  rw[q0];conv=>whnf
  rw[q0];conv=>whnf
  rw[q1];conv=>whnf
  exact j4 (r:=.val (.tup [(.b false),.i .i64 c])) 0 (by kernel_rfl) (by kernel_rfl)
theorem QL [MaxL] (s:By) (l:List Itm) (vs:List Val) (hl:l.length<dD) (hm:vs.length<dD) (hb:(nD l&&s4 l vs)=true) (e:Cn) (h:lS s=(some e,0)) (hw:e.wf) (x:Int) (h2:e.er l=x) (hx:x≠0):
  SC Tryz.prog 8 [.s s,.sl .none (eT l),.sl .none (dZ vs)] [] (.val (.tup [(.b false),.i .i64 x])) []:=by
 have ho:=pL l vs hl hm;have hvl:(dZ vs).length=vs.length:=aS _;have bG:=gR l;rw[hb] at ho;replace ho:SC _ _ _ _ (.val (.tup [.mp 1,.fn (.func 49) [] [.ptr 0 0,.ptr 3 0],.i .i64 0])) (SX l vs):=ho;have hr:=r4 s;rw[h] at hr;have h1:=BR l e hw;rw[h2] at h1;unfold vA at h1;rw[aB hx] at h1;have ha:=BP _ (.inr rfl) _ l e.gvP x h1;have q0:(x==0)=false:=beq_eq_false_iff_ne.2 hx;have q1:(x !=0)=true:=bne_iff_ne.2 hx;replace hr:SC _ _ _ _ (.val (.tup [e.gvP,.i .i64 0])) _:=hr;refine bI Tryz.func8 rfl ?_;conv=>whnf
 refine cN ho ?_;conv=>whnf
 refine cP hr ?_;conv=>whnf
 refine st ?_;conv=>whnf
 refine cS [1,4] ha ?_;conv=>whnf
 rw[q0];conv=>whnf
 rw[q1];conv=>whnf
 exact j4 (r:=.val (.tup [(.b false),.i .i64 x])) 0 (by kernel_rfl) (by kernel_rfl)
theorem QK [MaxL] (s:By) (l:List Itm) (vs:List Val) (hl:l.length<dD) (hm:vs.length<dD) (hb:(nD l&&s4 l vs)=true) (e:Cn) (h:lS s=(some e,0)) (hw:e.wf) (h2:e.er l=0) (hd:vs.length≠l.length):
  SC Tryz.prog 8 [.s s,.sl .none (eT l),.sl .none (dZ vs)] [] (.val (.tup [(.b false),.i .i64 11])) []:=by
 have ho:=pL l vs hl hm;have hvl:(dZ vs).length=vs.length:=aS _;have bG:=gR l;rw[hb] at ho;replace ho:SC _ _ _ _ (.val (.tup [.mp 1,.fn (.func 49) [] [.ptr 0 0,.ptr 3 0],.i .i64 0])) (SX l vs):=ho;have hr:=r4 s;rw[h] at hr;have h1:=BR l e hw;rw[h2] at h1;unfold vA at h1;rw[aA rfl] at h1;have ha:=r6 _ (.inr rfl) _ l e.gvP h1;replace hr:SC _ _ _ _ (.val (.tup [e.gvP,.i .i64 0])) _:=hr;have q:((((dZ vs).length:Nat):Int) !=(((eT l).length:Nat):Int))=true:=bne_iff_ne.2 (by rw[hvl,bG];omega);refine bI Tryz.func8 rfl ?_;conv=>whnf
 refine cN ho ?_;conv=>whnf
 refine cP hr ?_;conv=>whnf
 refine st ?_;conv=>whnf
 refine cS [1,4] ha ?_;conv=>whnf
 rw[q];conv=>whnf
 exact j4 (r:=.val (.tup [(.b false),.i .i64 11])) 0 (by kernel_rfl) (by kernel_rfl)
theorem QJ [MaxL] (s:By) (l:List Itm) (vs:List Val) (hl:l.length<dD) (hm:vs.length<dD) (hb:(nD l&&s4 l vs)=true) (e:Cn) (h:lS s=(some e,0)) (hw:e.wf) (h2:e.er l=0) (hd:l.length=vs.length) (hn:e.nm l=true) (hv:∀v∈vs,v.ok=true):
  SC Tryz.prog 8 [.s s,.sl .none (eT l),.sl .none (dZ vs)] [] (.val (.tup [(.b (match e.hold l vs with|some v=>v|none=>false)),.i .i64 (if(e.hold l vs).isSome=true then 0 else 7)])) []:=by
 have ho:=pL l vs hl hm;have hvl:(dZ vs).length=vs.length:=aS _;have bG:=gR l;rw[hb] at ho;replace ho:SC _ _ _ _ (.val (.tup [.mp 1,.fn (.func 49) [] [.ptr 0 0,.ptr 3 0],.i .i64 0])) (SX l vs):=ho;have hr:=r4 s;rw[h] at hr;have h1:=BR l e hw;rw[h2] at h1;unfold vA at h1;rw[aA rfl] at h1;have ha:=r6 _ (.inr rfl) _ l e.gvP h1;replace hr:SC _ _ _ _ (.val (.tup [e.gvP,.i .i64 0])) _:=hr;have q:((((dZ vs).length:Nat):Int) !=(((eT l).length:Nat):Int))=false:=by rw[hvl,bG,hd];exact eO _
 have he:=WO l vs hv hd e hw hn;cases hx:e.hold l vs with
 |none=>
  rw[hx] at he;replace he:SC _ _ _ _ (.val (.tup [(.b false),.b false])) _:=he;show SC _ _ _ _ (.val (.tup [(.b false),.i .i64 7])) _;refine bI Tryz.func8 rfl ?_;conv=>whnf
  refine cN ho ?_;conv=>whnf
  refine cP hr ?_;conv=>whnf
  refine st ?_;conv=>whnf
  refine cS [1,4] ha ?_;conv=>whnf
  rw[q];conv=>whnf
  refine cS [0,2,3] he ?_;conv=>whnf
  exact j4 (r:=.val (.tup [(.b false),.i .i64 7])) 0 (by kernel_rfl) (by kernel_rfl)
 |some v=>
  rw[hx] at he;replace he:SC _ _ _ _ (.val (.tup [.b v,.b true])) _:=he;show SC _ _ _ _ (.val (.tup [.b v,.i .i64 0])) _;refine bI Tryz.func8 rfl ?_;conv=>whnf
  refine cN ho ?_;conv=>whnf
  refine cP hr ?_;conv=>whnf
  refine st ?_;conv=>whnf
  refine cS [1,4] ha ?_;conv=>whnf
  rw[q];conv=>whnf
  refine cS [0,2,3] he ?_;conv=>whnf
  exact j4 (r:=.val (.tup [.b v,.i .i64 0])) 0 (by kernel_rfl) (by kernel_rfl)
def XU (o:Option (Nat×Itm)):Int:=match o with
 |some p=>(p.1:Nat)
 |none=> -1
theorem vM {s:By} {l:List Itm}:∀(i:Nat),(∀z∈l.take i,z.name≠s)->eW Itm.name s l=(eW Itm.name s (l.drop i)).map fun p=>(i+p.1,p.2)
 |0,_=>by
  rw[List.drop_zero];cases eW Itm.name s l with
  |none=>rfl
  |some p=>show some p=some (0+p.1,p.2);rw[bM]
 |i+1,h=>by
  cases l with
  |nil=>rw[List.drop_nil];rfl
  |cons x l=>
   have hx:(s==x.name)=false:=beq_eq_false_iff_ne.2 (fun h'=>h x (by simp) h'.symm);have ih:=vM (s:=s) (l:=l) i (fun z hz=>h z (by simp[hz]));show(if(s==x.name)=true then some (0,x) else(eW Itm.name s l).map fun p=>(p.1+1,p.2))=(eW Itm.name s (l.drop i)).map _;rw[hx,aB b4,ih,Option.map_map];congr 1;funext p;show(i+p.1+1,p.2)=(i+1+p.1,p.2);rw[show i+p.1+1=i+1+p.1 by omega]
theorem qT [MaxL] (l:List Itm) (hl:l.length<dD) (s:By):SC Tryz.prog 66 [.sl .none (eT l),.s s] [] (.val (.i .i64 (XU (eW Itm.name s l)))) []:=by
 have bG:=gR l;have hl':=hl;unfold dD at hl';refine bI Tryz.func66 rfl ?_;conv=>whnf
 refine bA (fun j:Nat=>j<=l.length/\∀z∈l.take j,z.name≠s) (fun j=>[(0,.sl .none (eT l)),(1,.s s),(5,.i .i64 (j:Nat))]) (fun _=>⟨[],0,[]⟩) (fun j=>l.length - j) 0 ⟨zL _,by simp⟩ ⟨rfl,rfl,rfl,trivial⟩ rfl (fun j φ0 hj=>?_);obtain⟨j1,j2⟩:=hj;conv=>whnf
 by_cases h:j<l.length;rotate_left
 ·refine gN (c:=decide (((j:Nat):Int)<(((eT l).length:Nat):Int))) (aQ (by rw[bG];omega)) ?_;conv=>whnf
  rw[fN (by omega)] at j2;rw[RU j2];exact fin 0
 obtain⟨y,hy⟩:∃y,l[j]?=some y:=⟨l[j],gL h⟩;have hg:=u6 hy;refine gY (c:=decide (((j:Nat):Int)<(((eT l).length:Nat):Int))) (aR (by rw[bG];omega)) ?_;conv=>whnf
 refine⟨fK _,_,by rw[aD];exact hg,rfl,?_⟩;conv=>whnf
 have hd:l.drop j=y::l.drop (j+1):=by rw[<-cM h,(List.getElem?_eq_some_iff.1 hy).2]
 cases hys:y.name==s with
 |true=>
  have e:=eq_of_beq hys;have hf:eW Itm.name s l=some (j,y):=by
   rw[vM j j2,hd];unfold eW;rw[<-e,beq_self_eq_true,aA rfl];rfl
  rw[hf];exact fin 0
 |false=>
  conv=>whnf
  have e:y.name≠s:=beq_eq_false_iff_ne.1 hys;exact⟨l.length - (j+1),(by omega),j+1,⟨h,fun z hz=>by
   rw[dS,hy] at hz;rcases List.mem_append.1 hz with hz|hz
   ·exact j2 z hz
   ·rw[List.mem_singleton.1 hz];exact e⟩,rfl,⟨rfl,rfl,cT (by omega),trivial⟩,rfl⟩
set_option maxHeartbeats 4000000
theorem UJ {l:List Itm} {i:Nat} {y:Itm} (hy:l[i]?=some y):((∃z∈l.take i,z.name=y.name)->XU (eW Itm.name y.name l)≠(i:Nat))/\((∀z∈l.take i,z.name≠y.name)->XU (eW Itm.name y.name l)=(i:Nat)):=by
 have hlt:i<l.length:=(List.getElem?_eq_some_iff.1 hy).1;have hd:l.drop i=y::l.drop (i+1):=by rw[<-cM hlt,(List.getElem?_eq_some_iff.1 hy).2]
 refine⟨fun⟨z,hz,he⟩ h=>?_,fun h=>?_⟩
 ·obtain⟨j,hj⟩:=List.getElem?_of_mem hz;have hji:j<i:=by have:=(List.getElem?_eq_some_iff.1 hj).1;rw[cL] at this;omega
  have key:∀(l:List Itm) (j:Nat) (z:Itm) (s:By),l[j]?=some z->z.name=s->∃p,eW Itm.name s l=some p/\p.1<=j:=by
   intro l;induction l with
   |nil=>intro j z s h;cases h
   |cons x l ih=>
    intro j z s h1 h2;unfold eW;cases hx:s==x.name with
    |true=>exact⟨_,rfl,zL _⟩
    |false=>
     cases j with
     |zero=>cases h1;rw[h2] at hx;simp at hx
     |succ j=>
      obtain⟨p,hp,hle⟩:=ih j z s h1 h2;exact⟨(p.1+1,p.2),by rw[aB b4,hp];rfl,Nat.succ_le_succ hle⟩
  have hjl:l[j]?=some z:=by rw[cH,aA hji] at hj;exact hj
  obtain⟨p,hp,hle⟩:=key l j z y.name hjl he;rw[hp] at h;have:((p.1:Nat):Int)=(i:Nat):=h;omega
 ·rw[vM i h,hd];unfold eW;rw[beq_self_eq_true,aA rfl];rfl
theorem LI [MaxL] (l:List Itm) (vs:List Val) (hl:l.length<dD) (hm:vs.length<dD):SC Tryz.prog 58 [.sl .none (eT l),.sl .none (dZ vs)] [] (.val (.i .i64 (if(nD l&&s4 l vs)=true then 0 else 1))) []:=by
 have bG:=gR l;have hvl:(dZ vs).length=vs.length:=aS _;have hl':=hl;have hm':=hm;unfold dD at hl' hm';refine bI Tryz.func58 rfl ?_;conv=>whnf
 refine bA (fun i:Nat=>i<=l.length/\(∀z∈l.take i,z.ok=true)/\((l.take i).map Itm.name).Nodup) (fun i=>[(0,.sl .none (eT l)),(1,.sl .none (dZ vs)),(5,.i .i64 (i:Nat))]) (fun _=>⟨[],0,[]⟩) (fun i=>l.length - i) 0 ⟨zL _,(fun z h=>by simp at h),by simp⟩ ⟨rfl,rfl,rfl,trivial⟩ rfl (fun i φ0 hi=>?_);obtain⟨hi,hok,hnd⟩:=hi;conv=>whnf
 by_cases hlt:i<l.length;rotate_left
 ·have hie:i=l.length:=by omega
  rw[hie,dG] at hok hnd;have hV:nD l=true:=by
   unfold nD;rw[show l.all Itm.ok=true from List.all_eq_true.2 hok,aR hnd];rfl
  rw[hV,Bool.true_and];refine gN (c:=decide (((i:Nat):Int)<(((eT l).length:Nat):Int))) (aQ (by rw[bG];omega)) ?_;conv=>whnf
  refine bA (fun j:Nat=>j<=vs.length/\∀i,i<j->∀v,vs[i]?=some v->qW l i v=true) (fun j=>[(0,.sl .none (eT l)),(1,.sl .none (dZ vs)),(6,.i .i64 (j:Nat))]) (fun _=>⟨[],0,[]⟩) (fun j=>vs.length - j) 0 ⟨zL _,(fun i h=>by omega)⟩ ⟨rfl,rfl,rfl,trivial⟩ rfl (fun j φ1 hj=>?_);obtain⟨hj1,hj2⟩:=hj;conv=>whnf
  by_cases hjt:j<vs.length;rotate_left
  ·have hW:s4 l vs=true:=by
    unfold s4;rw[aZ];intro x hx;have hx:=List.mem_range.1 hx;cases hv:vs[x]? with
    |none=>rfl
    |some v=>exact hj2 x (by omega) v hv
   refine gN (c:=decide (((j:Nat):Int)<(((dZ vs).length:Nat):Int))) (aQ (by rw[hvl];omega)) ?_;(conv=>whnf);rw[hW,aA rfl];exact fin 0
  obtain⟨v,hv⟩:∃v,vs[j]?=some v:=⟨vs[j],gL hjt⟩;have hc:=wA v;have hgv:=zW hv;have nxt:qW l j v=true->∀i,i<j+1->∀v,vs[i]?=some v->qW l i v=true:=fun h i hi w hw=>by
   rcases Nat.lt_succ_iff_lt_or_eq.1 hi with h1|rfl
   ·exact hj2 i h1 w hw
   ·rw[hv] at hw;cases hw;exact h
  have hno:qW l j v=false->s4 l vs=false:=fun h=>M0 hv h;refine gY (c:=decide (((j:Nat):Int)<(((dZ vs).length:Nat):Int))) (aR (by rw[hvl];omega)) ?_;conv=>whnf
  refine gP ?_;conv=>whnf
  refine ix hgv ⟨rfl,?_⟩;conv=>whnf
  refine cP hc ?_;cases hok2:v.ok with
  |false=>
   (conv=>whnf);rw[hno (by unfold qW;rw[hok2];rfl),aB b4];exact fin 0
  |true=>
   (conv=>whnf);by_cases hjl:j<l.length;rotate_left
   ·refine gN (c:=decide (((j:Nat):Int)<(((eT l).length:Nat):Int))) (aQ (by rw[bG];omega)) ?_;(conv=>whnf);exact⟨vs.length - (j+1),(by omega),j+1,⟨hjt,nxt (by unfold qW;rw[hok2,b6 (by omega)];rfl)⟩,rfl,⟨rfl,rfl,cT (by omega),trivial⟩,rfl⟩
   obtain⟨y,hy⟩:∃y,l[j]?=some y:=⟨l[j],gL hjl⟩;have hgy:=u6 hy;refine gY (c:=decide (((j:Nat):Int)<(((eT l).length:Nat):Int))) (aR (by rw[bG];omega)) ?_;(conv=>whnf);refine ix hgv ⟨rfl,?_⟩;(conv=>whnf);refine ix hgy ⟨rfl,?_⟩;(conv=>whnf);by_cases hk:v.k=y.k
   ·rw[show(v.k !=y.k)=false by rw[hk];exact eO _];(conv=>whnf);exact⟨vs.length - (j+1),(by omega),j+1,⟨hjt,nxt (by unfold qW;rw[hok2,hy];exact aR hk)⟩,rfl,⟨rfl,rfl,cT (by omega),trivial⟩,rfl⟩
   ·rw[show(v.k !=y.k)=true from bne_iff_ne.2 hk];(conv=>whnf);rw[hno (by unfold qW;rw[hok2,hy];exact aQ hk),aB b4];exact fin 0
 obtain⟨y,hy⟩:∃y,l[i]?=some y:=⟨l[i],gL hlt⟩;have hv:=IQ y;have hgy:=u6 hy;have hvar:=qT l hl y.name;obtain⟨f1,f2⟩:=UJ hy;refine gY (c:=decide (((i:Nat):Int)<(((eT l).length:Nat):Int))) (aR (by rw[bG];omega)) ?_;conv=>whnf
 refine ix hgy ⟨rfl,?_⟩;conv=>whnf
 refine cP hv ?_;cases hyo:y.ok with
 |false=>
  conv=>whnf
  rw[G1 hy (.inl hyo),Bool.false_and,aB b4];exact fin 0
 |true=>
  conv=>whnf
  refine ix hgy ⟨rfl,?_⟩;conv=>whnf
  refine cP hvar ?_;conv=>whnf
  by_cases hdup:∃z∈l.take i,z.name=y.name
  ·rw[show(XU (eW Itm.name y.name l) !=((i:Nat):Int))=true from bne_iff_ne.2 (f1 hdup)];(conv=>whnf);rw[G1 hy (.inr hdup),Bool.false_and,aB b4];exact fin 0
  ·have hne:∀z∈l.take i,z.name≠y.name:=fun z hz he=>hdup ⟨z,hz,he⟩;rw[show(XU (eW Itm.name y.name l) !=((i:Nat):Int))=false by rw[f2 hne];exact eO _];(conv=>whnf);exact⟨l.length - (i+1),(by omega),i+1,⟨hlt,uO hok hy hyo,(B5 hnd hy).2 hne⟩,rfl,⟨rfl,rfl,cT (by omega),trivial⟩,rfl⟩
def oC (l:List Tk) (s:RS):Int:=if s.bad.isSome=true∨tk l s.n≠ .fin then 2 else if 30<s.pm then 4 else 0
theorem yO [MaxL] (l:List Tq) (s:RS) (p:Tq) (hp:l[s.n]?=some p):SC Tryz.prog 24 [.ptr 0 0] [i7 l s] (.val (.i .i64 (oC (kR l) s))) [i7 l s]:=by
 have hg:=j8 hp;have ht:=rV hp;obtain⟨n,bad,ps,pm⟩:=s;unfold oC;rw[show tk (kR l) (RS.mk n bad ps pm).n=p.t from ht];cases bad with
 |some b=>
  rw[aA (.inl rfl)];refine bI Tryz.func24 rfl ?_;conv=>whnf
  refine gP ?_;conv=>whnf
  exact fin 1
 |none=>
  obtain⟨t,ln⟩:=p;cases t
  case fin=>
   rw[aB (fun h=>h.elim (fun h=>by cases h) (fun h=>h rfl))];by_cases h30:30<pm
   ·rw[aA h30];refine bI Tryz.func24 rfl ?_;(conv=>whnf);refine gP ?_;(conv=>whnf);refine ix hg ⟨rfl,?_⟩;(conv=>whnf);refine gY (c:=decide (((pm:Nat):Int)>30)) (aR (by omega)) ?_;(conv=>whnf);exact fin 1
   ·rw[aB h30];refine bI Tryz.func24 rfl ?_;(conv=>whnf);refine gP ?_;(conv=>whnf);refine ix hg ⟨rfl,?_⟩;(conv=>whnf);refine gN (c:=decide (((pm:Nat):Int)>30)) (aQ (by omega)) ?_;(conv=>whnf);exact fin 1
  all_goals
   rw[aA (.inr (by nofun))];refine bI Tryz.func24 rfl ?_;(conv=>whnf);refine gP ?_;(conv=>whnf);refine ix hg ⟨rfl,?_⟩;(conv=>whnf);exact fin 1
theorem AX [MaxL] (s:By) (l:List Itm) (vs:List Val) (hl:l.length<dD) (hm:vs.length<dD) (hb:(nD l&&s4 l vs)=false):SC Tryz.prog 22 [.s s,.sl .none (eT l),.sl .none (dZ vs)] [] (.val (.tup [gU,.i .i64 1])) []:=by
 have h:=LI l vs hl hm;rw[hb,aB b4] at h;refine bI Tryz.func22 rfl ?_;conv=>whnf
 refine cP h ?_;conv=>whnf
 exact fin 0
theorem w9 [MaxL] (s:By) (l:List Itm) (vs:List Val) (hl:l.length<dD) (hm:vs.length<dD) (hb:(nD l&&s4 l vs)=true) (hs:20000<s.length):SC Tryz.prog 22 [.s s,.sl .none (eT l),.sl .none (dZ vs)] [] (.val (.tup [gU,.i .i64 3])) []:=by
 have h:=LI l vs hl hm;rw[hb,aA rfl] at h;refine bI Tryz.func22 rfl ?_;conv=>whnf
 refine cP h ?_;conv=>whnf
 refine gY (c:=decide (((s.length:Nat):Int)>20000)) (aR (by omega)) ?_;conv=>whnf
 exact fin 0
theorem oM [MaxL] (s:By) (l:List Itm) (vs:List Val) (hl:l.length<dD) (hm:vs.length<dD) (hb:(nD l&&s4 l vs)=true) (hs:s.length<=20000):SC Tryz.prog 22 [.s s,.sl .none (eT l),.sl .none (dZ vs)] [] (.val (.tup [.ptr 0 0,.i .i64 0])) [i7 (dC s) ⟨0,none,0,0⟩]:=by
 have h:=LI l vs hl hm;rw[hb,aA rfl] at h;have hw:=VT s hs;refine bI Tryz.func22 rfl ?_;conv=>whnf
 refine cP h ?_;conv=>whnf
 refine gN (c:=decide (((s.length:Nat):Int)>20000)) (aQ (by omega)) ?_;conv=>whnf
 refine cP hw ?_;conv=>whnf
 exact fin 1
set_option maxHeartbeats 2000000
abbrev scG (l:List Itm):GV:=.agg [.sl .none (eT l),.sl .none [],.sl .none [],.sl .none [],.sl .none [],.sl .none []]
theorem YX [MaxL] (s:By):SC Tryz.prog 67 [.agg [.sl .none [],.sl .none []],.s s] [] (.val (.i .i64 (-1))) []:=by
 refine bI Tryz.func67 rfl ?_;conv=>whnf
 refine bA (fun _:Unit=>True) (fun _=>[(2,.ptr 0 0),(5,.i .i64 0)]) (fun _=>⟨[.box 67 [.sl .none [],.sl .none []]],0,[]⟩) (fun _=>0) () trivial ⟨rfl,rfl,trivial⟩ rfl (fun a φ0 ha=>?_);conv=>whnf
 exact fin 0
theorem VV [MaxL] (l:List Itm) (r i:By):SC Tryz.prog 102 [scG l,.s r,.s i] [] (.val (.tup [Itm.gv ⟨[],0,0,0,0⟩,.b false])) []:=by
 have h:=YX r;refine bI Tryz.func102 rfl ?_;conv=>whnf
 refine cP h ?_;conv=>whnf
 refine st ?_;conv=>whnf
 exact fin 0
theorem a0K {l:List Itm} (hv:nD l=true) (s:By):(vk l s=0->XU (eW Itm.name s l)= -1)/\(vk l s≠0->0<=XU (eW Itm.name s l)):=by
 have hok:∀x∈l,x.ok=true:=by
  unfold nD at hv;rw[aF,aZ] at hv;exact hv.1
 have key:∀p,eW Itm.name s l=some p->p.2∈l:=by
  intro p hp;have:∀(l:List Itm) p,eW Itm.name s l=some p->p.2∈l:=by
   intro l;induction l with
   |nil=>intro p h;cases h
   |cons x l ih=>
    intro p h;unfold eW at h;split at h
    ·cases h;exact gJ ..
    ·rw[aC] at h;obtain⟨q,h1,h2⟩:=h;cases h2;exact fH _ (ih q h1)
  exact this l p hp
 unfold vk;cases hf:eW Itm.name s l with
 |none=>exact⟨fun _=>rfl,fun h=>absurd rfl h⟩
 |some p=>
  have hk:=J5 (hok p.2 (key p hf));refine⟨fun h=>?_,fun _=>fK _⟩;have h:p.2.k=0:=h;omega
theorem Z5 [MaxL] (e:Ex):(Ex.neg e).gvR=.agg [.s [110,101,103],.i .i64 0,.s [],.s [],.sl .none [.agg [.s e.op,.i .i64 e.n,.s e.st,.s e.it,.sl .none (e.kids.map Ex.gvR)]]]:=by
 show GV.agg (Y2 [110,101,103] 0 [] [] [.agg e.csR])=_;rw[Ex.raw];rfl
theorem a0B [MaxL] (op:By) (a b:Ex):(Ex.bin op a b).gvR=.agg [.s op,.i .i64 0,.s [],.s [],.sl .none [.agg [.s a.op,.i .i64 a.n,.s a.st,.s a.it,.sl .none (a.kids.map Ex.gvR)],.agg [.s b.op,.i .i64 b.n,.s b.st,.s b.it,.sl .none (b.kids.map Ex.gvR)]]]:=by
 show GV.agg (Y2 op 0 [] [] [.agg a.csR,.agg b.csR])=_;rw[Ex.raw,Ex.raw];rfl
abbrev E6 (l:List Itm):GObj:=.box 74 [.sl .none (eT l),.sl .none [],.sl .none [],.sl .none [],.sl .none [],.sl .none []]
theorem A5 [MaxL] (l:List Itm) (hl:l.length<dD) (hv:nD l=true):∀(e:Ex),e.wf->SC Tryz.prog 63 [scG l,e.gvR] [] (.val (.b (e.nm l))) []
 |.zero,h=>h.elim
 |.item r i,_=>by
  have h:=VV l r i;show SC _ _ _ _ (.val (.b false)) _;refine bI Tryz.func63 rfl ?_;conv=>whnf
  refine cP h ?_;conv=>whnf
  refine st ?_;conv=>whnf
  exact fin 0
 |.var s,_=>by
  have h:=qT l hl s;obtain⟨p1,p2⟩:=a0K hv s;show SC _ _ _ _ (.val (.b (decide (vk l s≠0)))) _;by_cases h0:vk l s=0
  ·rw[p1 h0] at h;rw[aQ (fun h=>h h0)];refine bI Tryz.func63 rfl ?_;(conv=>whnf);refine cP h ?_;(conv=>whnf);exact fin 0
  ·have p3:=p2 h0;rw[aR h0];generalize XU (eW Itm.name s l)=x at*;refine bI Tryz.func63 rfl ?_;(conv=>whnf);refine cP h ?_;(conv=>whnf);refine gN (c:=decide (x<0)) (aQ (by omega)) ?_;(conv=>whnf);refine bA (fun _:Unit=>True) (fun _=>[(2,.ptr 0 0),(3,.ptr 1 0),(7,.i .i64 0)]) (fun _=>⟨[E6 l,OQ (.var s)],0,[]⟩) (fun _=>0) () trivial ⟨rfl,rfl,rfl,trivial⟩ rfl (fun a φ0 ha=>?_);(conv=>whnf);exact fin 0
 |.num n,_=>by
  show SC _ _ _ _ (.val (.b true)) _;refine bI Tryz.func63 rfl ?_;conv=>whnf
  refine bA (fun _:Unit=>True) (fun _=>[(2,.ptr 0 0),(3,.ptr 1 0),(7,.i .i64 0)]) (fun _=>⟨[E6 l,OQ (.num n)],0,[]⟩) (fun _=>0) () trivial ⟨rfl,rfl,rfl,trivial⟩ rfl (fun a φ0 ha=>?_);conv=>whnf
  exact fin 0
 |.txt s,_=>by
  show SC _ _ _ _ (.val (.b true)) _;refine bI Tryz.func63 rfl ?_;conv=>whnf
  refine bA (fun _:Unit=>True) (fun _=>[(2,.ptr 0 0),(3,.ptr 1 0),(7,.i .i64 0)]) (fun _=>⟨[E6 l,OQ (.txt s)],0,[]⟩) (fun _=>0) () trivial ⟨rfl,rfl,rfl,trivial⟩ rfl (fun a φ0 ha=>?_);conv=>whnf
  exact fin 0
 |.status,_=>by
  show SC _ _ _ _ (.val (.b true)) _;refine bI Tryz.func63 rfl ?_;conv=>whnf
  refine bA (fun _:Unit=>True) (fun _=>[(2,.ptr 0 0),(3,.ptr 1 0),(7,.i .i64 0)]) (fun _=>⟨[E6 l,OQ (.status)],0,[]⟩) (fun _=>0) () trivial ⟨rfl,rfl,rfl,trivial⟩ rfl (fun a φ0 ha=>?_);conv=>whnf
  exact fin 0
 |.key,_=>by
  show SC _ _ _ _ (.val (.b true)) _;refine bI Tryz.func63 rfl ?_;conv=>whnf
  refine bA (fun _:Unit=>True) (fun _=>[(2,.ptr 0 0),(3,.ptr 1 0),(7,.i .i64 0)]) (fun _=>⟨[E6 l,OQ (.key)],0,[]⟩) (fun _=>0) () trivial ⟨rfl,rfl,rfl,trivial⟩ rfl (fun a φ0 ha=>?_);conv=>whnf
  exact fin 0
 |.neg e,h=>by
  have ih:=A5 l hl hv e h;rw[d7] at ih;rw[Z5];show SC _ _ _ _ (.val (.b (e.nm l))) _;generalize e.nm l=b at*;refine bI Tryz.func63 rfl ?_;conv=>whnf
  refine bA (fun j:Nat=>j=0∨(j=1/\b=true)) (fun j=>[(2,.ptr 0 0),(3,.ptr 1 0),(7,.i .i64 (j:Nat))]) (fun _=>⟨[E6 l,.box 61 [.s [110,101,103],.i .i64 0,.s [],.s [],.sl .none [.agg [.s e.op,.i .i64 e.n,.s e.st,.s e.it,.sl .none (e.kids.map Ex.gvR)]]]],0,[]⟩) (fun j=>1 - j) 0 (.inl rfl) ⟨rfl,rfl,rfl,trivial⟩ rfl (fun j φ0 hj=>?_);rcases hj with rfl|⟨rfl,rfl⟩
  ·(conv=>whnf);refine gP ?_;(conv=>whnf);refine⟨cD 0,_,rfl,rfl,?_⟩;(conv=>whnf);refine cP ih ?_;cases b with
   |false=>
    (conv=>whnf);exact fin 0
   |true=>
    (conv=>whnf);exact⟨0,by decide,1,.inr ⟨rfl,rfl⟩,rfl,⟨rfl,rfl,rfl,trivial⟩,rfl⟩
  ·(conv=>whnf);exact fin 0
 |.bin op a b,h=>by
  have ih:=A5 l hl hv a h.2.1;have jh:=A5 l hl hv b h.2.2;have ho:=h.1;simp only[LY,dU,cZ,or_false] at ho;rw[d7] at ih jh;rw[a0B];show SC _ _ _ _ (.val (.b (a.nm l&&b.nm l))) _;generalize a.nm l=x at*;generalize b.nm l=y at*;clear h;rcases ho with rfl|rfl|rfl|rfl
  ·skip;refine bI Tryz.func63 rfl ?_;(conv=>whnf);refine bA (fun j:Nat=>j=0∨(j=1/\x=true)∨(j=2/\x=true/\y=true)) (fun j=>[(2,.ptr 0 0),(3,.ptr 1 0),(7,.i .i64 (j:Nat))]) (fun _=>⟨[E6 l,.box 61 [.s [43],.i .i64 0,.s [],.s [],.sl .none [.agg [.s a.op,.i .i64 a.n,.s a.st,.s a.it,.sl .none (a.kids.map Ex.gvR)],.agg [.s b.op,.i .i64 b.n,.s b.st,.s b.it,.sl .none (b.kids.map Ex.gvR)]]]],0,[]⟩) (fun j=>2 - j) 0 (.inl rfl) ⟨rfl,rfl,rfl,trivial⟩ rfl (fun j φ0 hj=>?_);rcases hj with rfl|⟨rfl,rfl⟩|⟨rfl,rfl,rfl⟩
   ·(conv=>whnf);refine gP ?_;(conv=>whnf);refine⟨cD 0,_,rfl,rfl,?_⟩;(conv=>whnf);refine cP ih ?_;cases x with
    |false=>
     (conv=>whnf);exact fin 0
    |true=>
     (conv=>whnf);exact⟨1,by decide,1,.inr (.inl ⟨rfl,rfl⟩),rfl,⟨rfl,rfl,rfl,trivial⟩,rfl⟩
   ·(conv=>whnf);refine gP ?_;(conv=>whnf);refine⟨fK 1,_,rfl,rfl,?_⟩;(conv=>whnf);refine cP jh ?_;cases y with
    |false=>
     (conv=>whnf);exact fin 0
    |true=>
     (conv=>whnf);exact⟨0,by decide,2,.inr (.inr ⟨rfl,rfl,rfl⟩),rfl,⟨rfl,rfl,rfl,trivial⟩,rfl⟩
   ·(conv=>whnf);exact fin 0
  ·skip;refine bI Tryz.func63 rfl ?_;(conv=>whnf);refine bA (fun j:Nat=>j=0∨(j=1/\x=true)∨(j=2/\x=true/\y=true)) (fun j=>[(2,.ptr 0 0),(3,.ptr 1 0),(7,.i .i64 (j:Nat))]) (fun _=>⟨[E6 l,.box 61 [.s [45],.i .i64 0,.s [],.s [],.sl .none [.agg [.s a.op,.i .i64 a.n,.s a.st,.s a.it,.sl .none (a.kids.map Ex.gvR)],.agg [.s b.op,.i .i64 b.n,.s b.st,.s b.it,.sl .none (b.kids.map Ex.gvR)]]]],0,[]⟩) (fun j=>2 - j) 0 (.inl rfl) ⟨rfl,rfl,rfl,trivial⟩ rfl (fun j φ0 hj=>?_);rcases hj with rfl|⟨rfl,rfl⟩|⟨rfl,rfl,rfl⟩
   ·(conv=>whnf);refine gP ?_;(conv=>whnf);refine⟨cD 0,_,rfl,rfl,?_⟩;(conv=>whnf);refine cP ih ?_;cases x with
    |false=>
     (conv=>whnf);exact fin 0
    |true=>
     (conv=>whnf);exact⟨1,by decide,1,.inr (.inl ⟨rfl,rfl⟩),rfl,⟨rfl,rfl,rfl,trivial⟩,rfl⟩
   ·(conv=>whnf);refine gP ?_;(conv=>whnf);refine⟨fK 1,_,rfl,rfl,?_⟩;(conv=>whnf);refine cP jh ?_;cases y with
    |false=>
     (conv=>whnf);exact fin 0
    |true=>
     (conv=>whnf);exact⟨0,by decide,2,.inr (.inr ⟨rfl,rfl,rfl⟩),rfl,⟨rfl,rfl,rfl,trivial⟩,rfl⟩
   ·(conv=>whnf);exact fin 0
  ·skip;refine bI Tryz.func63 rfl ?_;(conv=>whnf);refine bA (fun j:Nat=>j=0∨(j=1/\x=true)∨(j=2/\x=true/\y=true)) (fun j=>[(2,.ptr 0 0),(3,.ptr 1 0),(7,.i .i64 (j:Nat))]) (fun _=>⟨[E6 l,.box 61 [.s [42],.i .i64 0,.s [],.s [],.sl .none [.agg [.s a.op,.i .i64 a.n,.s a.st,.s a.it,.sl .none (a.kids.map Ex.gvR)],.agg [.s b.op,.i .i64 b.n,.s b.st,.s b.it,.sl .none (b.kids.map Ex.gvR)]]]],0,[]⟩) (fun j=>2 - j) 0 (.inl rfl) ⟨rfl,rfl,rfl,trivial⟩ rfl (fun j φ0 hj=>?_);rcases hj with rfl|⟨rfl,rfl⟩|⟨rfl,rfl,rfl⟩
   ·(conv=>whnf);refine gP ?_;(conv=>whnf);refine⟨cD 0,_,rfl,rfl,?_⟩;(conv=>whnf);refine cP ih ?_;cases x with
    |false=>
     (conv=>whnf);exact fin 0
    |true=>
     (conv=>whnf);exact⟨1,by decide,1,.inr (.inl ⟨rfl,rfl⟩),rfl,⟨rfl,rfl,rfl,trivial⟩,rfl⟩
   ·(conv=>whnf);refine gP ?_;(conv=>whnf);refine⟨fK 1,_,rfl,rfl,?_⟩;(conv=>whnf);refine cP jh ?_;cases y with
    |false=>
     (conv=>whnf);exact fin 0
    |true=>
     (conv=>whnf);exact⟨0,by decide,2,.inr (.inr ⟨rfl,rfl,rfl⟩),rfl,⟨rfl,rfl,rfl,trivial⟩,rfl⟩
   ·(conv=>whnf);exact fin 0
  ·skip;refine bI Tryz.func63 rfl ?_;(conv=>whnf);refine bA (fun j:Nat=>j=0∨(j=1/\x=true)∨(j=2/\x=true/\y=true)) (fun j=>[(2,.ptr 0 0),(3,.ptr 1 0),(7,.i .i64 (j:Nat))]) (fun _=>⟨[E6 l,.box 61 [.s [38],.i .i64 0,.s [],.s [],.sl .none [.agg [.s a.op,.i .i64 a.n,.s a.st,.s a.it,.sl .none (a.kids.map Ex.gvR)],.agg [.s b.op,.i .i64 b.n,.s b.st,.s b.it,.sl .none (b.kids.map Ex.gvR)]]]],0,[]⟩) (fun j=>2 - j) 0 (.inl rfl) ⟨rfl,rfl,rfl,trivial⟩ rfl (fun j φ0 hj=>?_);rcases hj with rfl|⟨rfl,rfl⟩|⟨rfl,rfl,rfl⟩
   ·(conv=>whnf);refine gP ?_;(conv=>whnf);refine⟨cD 0,_,rfl,rfl,?_⟩;(conv=>whnf);refine cP ih ?_;cases x with
    |false=>
     (conv=>whnf);exact fin 0
    |true=>
     (conv=>whnf);exact⟨1,by decide,1,.inr (.inl ⟨rfl,rfl⟩),rfl,⟨rfl,rfl,rfl,trivial⟩,rfl⟩
   ·(conv=>whnf);refine gP ?_;(conv=>whnf);refine⟨fK 1,_,rfl,rfl,?_⟩;(conv=>whnf);refine cP jh ?_;cases y with
    |false=>
     (conv=>whnf);exact fin 0
    |true=>
     (conv=>whnf);exact⟨0,by decide,2,.inr (.inr ⟨rfl,rfl,rfl⟩),rfl,⟨rfl,rfl,rfl,trivial⟩,rfl⟩
   ·(conv=>whnf);exact fin 0
