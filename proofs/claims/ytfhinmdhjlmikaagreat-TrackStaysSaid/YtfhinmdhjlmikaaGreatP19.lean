/- Tracks: which numbers are short. Tracks: instances of their methods; which lists agree. Tracks: awake, which lists agree. Tracks: instances of Of, List, Span, Len, Drop, fits. Tracks: what lies around a time stays when stamps are dropped or added elsewhere. -/
import Derived.Test.YtfhinmdhjlmikaaGreatP18
namespace Go.Proofs.YtfhinmdhjlmikaaGreat
set_option linter.unusedSimpArgs false
set_option linter.unusedVariables false
set_option maxRecDepth 100000
open Go.RowKit
def Rq.tw (r:Rq):Bool:=decide (r.L≤2) && decide (r.N≤2)
def RSt.tw (x:RSt):Bool:=x.r0.tw && (x.r1.tw && (x.r2.tw && (x.r3.tw && (x.r4.tw && (x.r5.tw && x.r6.tw)))))
theorem Rq.tw_iff {r:Rq}:r.tw=true↔r.L≤2∧r.N≤2:=by simp[Rq.tw]
theorem RSt.tw_iff {x:RSt}:x.tw=true↔x.two:=by
 unfold RSt.tw RSt.two RSt.rs
 simp only[Bool.and_eq_true,Rq.tw_iff,List.mem_cons,List.not_mem_nil,or_false,forall_eq_or_imp,forall_eq]
def uW (r:Rq) (v:Value):List Fq:=[]
theorem aa0 {w:World} (r:Rq) (v:Value) (i:IsL w v [r]) (hL:r.L≤2) (hN:r.N≤2):
  Calls Tryz.prog 35 #[v] w fun e w'=>e= .returned (.bool true)∧Below w.heap.size w w':=by
 refine(aH (ρ:=frs (uW r v)++([.val (.bool r.s),.dig r.L r.p,.dig r.N r.q,.val (.int .i64 (r.L:Int)),.val (.int .i64 (r.N:Int))]:List Vp)) (w:=w) (fuel:=300) (args:=[.agg [.ref 0,.ref 1,.ref 2]]) (vs:=[v]) (r:=.v (.one (.b true))) (lo:=[]) (obs:=[])
  (ah)
  (ae (rX (n:=1) (m:=3) (t:=23) ⟨_,Tryz.underlying23⟩ rfl rfl) (ae (aA (t:=3) (aj (n:=3) rfl) (aJ (c:=2)) (cG (by omega))) (ae (rX (n:=2) (m:=4) (t:=23) ⟨_,Tryz.underlying23⟩ rfl rfl) (ae (aA (t:=3) (aj (n:=4) rfl) (aJ (c:=2)) (cG (by omega))) (ai))))) (by kernel_rfl) Tryz.func35 (by kernel_rfl) aG ⟨(aY (ns:=[0]) (rs:=[r]) ⟨⟨rfl,rfl,rfl⟩,trivial⟩).2 i,trivial⟩).mono ?_
 rintro e w' ⟨v,rfl,h1,h2⟩
 have e1:v= .bool true:=h1
 subst e1
 exact⟨rfl,h2⟩
def uX (r:Rq) (v:Value):List Fq:=[]
theorem aa1 {w:World} (r:Rq) (v:Value) (i:IsL w v [r]) (hL:2<r.L):
  Calls Tryz.prog 35 #[v] w fun e w'=>e= .returned (.bool false)∧Below w.heap.size w w':=by
 refine(aH (ρ:=frs (uX r v)++([.val (.bool r.s),.dig r.L r.p,.dig r.N r.q,.val (.int .i64 (r.L:Int))]:List Vp)) (w:=w) (fuel:=300) (args:=[.agg [.ref 0,.ref 1,.ref 2]]) (vs:=[v]) (r:=.v (.one (.b false))) (lo:=[]) (obs:=[])
  (ah)
  (ae (rX (n:=1) (m:=3) (t:=23) ⟨_,Tryz.underlying23⟩ rfl rfl) (ae (aA (t:=3) (aj (n:=3) rfl) (aJ (c:=2)) (dU (by omega))) (ai))) (by kernel_rfl) Tryz.func35 (by kernel_rfl) aG ⟨(aY (ns:=[0]) (rs:=[r]) ⟨⟨rfl,rfl,rfl⟩,trivial⟩).2 i,trivial⟩).mono ?_
 rintro e w' ⟨v,rfl,h1,h2⟩
 have e1:v= .bool false:=h1
 subst e1
 exact⟨rfl,h2⟩
def uY (r:Rq) (v:Value):List Fq:=[]
theorem aa2 {w:World} (r:Rq) (v:Value) (i:IsL w v [r]) (hL:r.L≤2) (hN:2<r.N):
  Calls Tryz.prog 35 #[v] w fun e w'=>e= .returned (.bool false)∧Below w.heap.size w w':=by
 refine(aH (ρ:=frs (uY r v)++([.val (.bool r.s),.dig r.L r.p,.dig r.N r.q,.val (.int .i64 (r.L:Int)),.val (.int .i64 (r.N:Int))]:List Vp)) (w:=w) (fuel:=300) (args:=[.agg [.ref 0,.ref 1,.ref 2]]) (vs:=[v]) (r:=.v (.one (.b false))) (lo:=[]) (obs:=[])
  (ah)
  (ae (rX (n:=1) (m:=3) (t:=23) ⟨_,Tryz.underlying23⟩ rfl rfl) (ae (aA (t:=3) (aj (n:=3) rfl) (aJ (c:=2)) (cG (by omega))) (ae (rX (n:=2) (m:=4) (t:=23) ⟨_,Tryz.underlying23⟩ rfl rfl) (ae (aA (t:=3) (aj (n:=4) rfl) (aJ (c:=2)) (dU (by omega))) (ai))))) (by kernel_rfl) Tryz.func35 (by kernel_rfl) aG ⟨(aY (ns:=[0]) (rs:=[r]) ⟨⟨rfl,rfl,rfl⟩,trivial⟩).2 i,trivial⟩).mono ?_
 rintro e w' ⟨v,rfl,h1,h2⟩
 have e1:v= .bool false:=h1
 subst e1
 exact⟨rfl,h2⟩
theorem q_short {w:World} (r:Rq) (v:Value) (i:IsL w v [r]):Calls Tryz.prog 35 #[v] w fun e w'=>e= .returned (.bool r.tw)∧Below w.heap.size w w':=by
 by_cases hL:r.L≤2
 ·by_cases hN:r.N≤2
  ·rw[Rq.tw_iff.2 ⟨hL,hN⟩];exact aa0 r v i hL hN
  ·rw[show r.tw=false by simp[Rq.tw,hN]];exact aa2 r v i hL (by omega)
 ·rw[show r.tw=false by simp[Rq.tw,hL]];exact aa1 r v i (by omega)
theorem bd {ρ:Rho} {n:Nat} {r:Rq} {b:Bool} (hr:AtR ρ [n] [r]) (hb:r.tw=b):Inst.Ok Tryz.prog ρ ⟨35,[fD [n]],.v (.one (.b b))⟩:=
 ⟨aC Tryz.func35 rfl rfl,fun B w vs hB h=>by
  match vs,h with
  | [v],h=>
   refine(q_short r v ((aY hr).1 h.1)).mono ?_
   rintro e w' ⟨rfl,h2⟩
   exact⟨_,rfl,by subst hb;rfl,h2⟩⟩
def aa3 (x:RSt) (v:Value):List Fq:=[]
theorem q_fit0 {w:World} (x:RSt) (v:Value) (i:IsL w v x.rs) (k0:x.r0.tw=false):
  Calls Tryz.prog 9 #[v] w fun e w'=>e= .returned (.bool false)∧Below w.heap.size w w':=by
 refine(aH (ρ:=frs (aa3 x v)++([.val (.int .i64 x.tm),.val (.bool x.r0.s),.dig x.r0.L x.r0.p,.dig x.r0.N x.r0.q,.val (.bool x.r1.s),.dig x.r1.L x.r1.p,.dig x.r1.N x.r1.q,.val (.bool x.r2.s),.dig x.r2.L x.r2.p,.dig x.r2.N x.r2.q,.val (.bool x.r3.s),.dig x.r3.L x.r3.p,.dig x.r3.N x.r3.q,.val (.bool x.r4.s),.dig x.r4.L x.r4.p,.dig x.r4.N x.r4.q,.val (.bool x.r5.s),.dig x.r5.L x.r5.p,.dig x.r5.N x.r5.q,.val (.bool x.r6.s),.dig x.r6.L x.r6.p,.dig x.r6.N x.r6.q]:List Vp)) (w:=w) (fuel:=300) (args:=[.agg [.ref 1,.ref 2,.ref 3,.ref 4,.ref 5,.ref 6,.ref 7,.ref 8,.ref 9,.ref 10,.ref 11,.ref 12,.ref 13,.ref 14,.ref 15,.ref 16,.ref 17,.ref 18,.ref 19,.ref 20,.ref 21]]) (vs:=[v]) (r:=.v (.one (.b false))) (lo:=[]) (obs:=[])
  (af (bd (n:=1) (r:=x.r0) (b:=false) ⟨⟨rfl,rfl,rfl⟩,trivial⟩ k0) ah)
  ai (by kernel_rfl) Tryz.func9 (by kernel_rfl) aG ⟨(aY (ns:=[1,4,7,10,13,16,19]) (rs:=x.rs) ⟨⟨rfl,rfl,rfl⟩,⟨rfl,rfl,rfl⟩,⟨rfl,rfl,rfl⟩,⟨rfl,rfl,rfl⟩,⟨rfl,rfl,rfl⟩,⟨rfl,rfl,rfl⟩,⟨rfl,rfl,rfl⟩,trivial⟩).2 i,trivial⟩).mono ?_
 rintro e w' ⟨v,rfl,h1,h2⟩
 have e1:v= .bool false:=h1
 subst e1
 exact⟨rfl,h2⟩
def aa4 (x:RSt) (v:Value):List Fq:=[]
theorem q_fit1 {w:World} (x:RSt) (v:Value) (i:IsL w v x.rs) (k0:x.r0.tw=true) (k1:x.r1.tw=false):
  Calls Tryz.prog 9 #[v] w fun e w'=>e= .returned (.bool false)∧Below w.heap.size w w':=by
 refine(aH (ρ:=frs (aa4 x v)++([.val (.int .i64 x.tm),.val (.bool x.r0.s),.dig x.r0.L x.r0.p,.dig x.r0.N x.r0.q,.val (.bool x.r1.s),.dig x.r1.L x.r1.p,.dig x.r1.N x.r1.q,.val (.bool x.r2.s),.dig x.r2.L x.r2.p,.dig x.r2.N x.r2.q,.val (.bool x.r3.s),.dig x.r3.L x.r3.p,.dig x.r3.N x.r3.q,.val (.bool x.r4.s),.dig x.r4.L x.r4.p,.dig x.r4.N x.r4.q,.val (.bool x.r5.s),.dig x.r5.L x.r5.p,.dig x.r5.N x.r5.q,.val (.bool x.r6.s),.dig x.r6.L x.r6.p,.dig x.r6.N x.r6.q]:List Vp)) (w:=w) (fuel:=300) (args:=[.agg [.ref 1,.ref 2,.ref 3,.ref 4,.ref 5,.ref 6,.ref 7,.ref 8,.ref 9,.ref 10,.ref 11,.ref 12,.ref 13,.ref 14,.ref 15,.ref 16,.ref 17,.ref 18,.ref 19,.ref 20,.ref 21]]) (vs:=[v]) (r:=.v (.one (.b false))) (lo:=[]) (obs:=[])
  (af (bd (n:=1) (r:=x.r0) (b:=true) ⟨⟨rfl,rfl,rfl⟩,trivial⟩ k0) (af (bd (n:=4) (r:=x.r1) (b:=false) ⟨⟨rfl,rfl,rfl⟩,trivial⟩ k1) ah))
  ai (by kernel_rfl) Tryz.func9 (by kernel_rfl) aG ⟨(aY (ns:=[1,4,7,10,13,16,19]) (rs:=x.rs) ⟨⟨rfl,rfl,rfl⟩,⟨rfl,rfl,rfl⟩,⟨rfl,rfl,rfl⟩,⟨rfl,rfl,rfl⟩,⟨rfl,rfl,rfl⟩,⟨rfl,rfl,rfl⟩,⟨rfl,rfl,rfl⟩,trivial⟩).2 i,trivial⟩).mono ?_
 rintro e w' ⟨v,rfl,h1,h2⟩
 have e1:v= .bool false:=h1
 subst e1
 exact⟨rfl,h2⟩
def aa5 (x:RSt) (v:Value):List Fq:=[]
theorem q_fit2 {w:World} (x:RSt) (v:Value) (i:IsL w v x.rs) (k0:x.r0.tw=true) (k1:x.r1.tw=true) (k2:x.r2.tw=false):
  Calls Tryz.prog 9 #[v] w fun e w'=>e= .returned (.bool false)∧Below w.heap.size w w':=by
 refine(aH (ρ:=frs (aa5 x v)++([.val (.int .i64 x.tm),.val (.bool x.r0.s),.dig x.r0.L x.r0.p,.dig x.r0.N x.r0.q,.val (.bool x.r1.s),.dig x.r1.L x.r1.p,.dig x.r1.N x.r1.q,.val (.bool x.r2.s),.dig x.r2.L x.r2.p,.dig x.r2.N x.r2.q,.val (.bool x.r3.s),.dig x.r3.L x.r3.p,.dig x.r3.N x.r3.q,.val (.bool x.r4.s),.dig x.r4.L x.r4.p,.dig x.r4.N x.r4.q,.val (.bool x.r5.s),.dig x.r5.L x.r5.p,.dig x.r5.N x.r5.q,.val (.bool x.r6.s),.dig x.r6.L x.r6.p,.dig x.r6.N x.r6.q]:List Vp)) (w:=w) (fuel:=300) (args:=[.agg [.ref 1,.ref 2,.ref 3,.ref 4,.ref 5,.ref 6,.ref 7,.ref 8,.ref 9,.ref 10,.ref 11,.ref 12,.ref 13,.ref 14,.ref 15,.ref 16,.ref 17,.ref 18,.ref 19,.ref 20,.ref 21]]) (vs:=[v]) (r:=.v (.one (.b false))) (lo:=[]) (obs:=[])
  (af (bd (n:=1) (r:=x.r0) (b:=true) ⟨⟨rfl,rfl,rfl⟩,trivial⟩ k0) (af (bd (n:=4) (r:=x.r1) (b:=true) ⟨⟨rfl,rfl,rfl⟩,trivial⟩ k1) (af (bd (n:=7) (r:=x.r2) (b:=false) ⟨⟨rfl,rfl,rfl⟩,trivial⟩ k2) ah)))
  ai (by kernel_rfl) Tryz.func9 (by kernel_rfl) aG ⟨(aY (ns:=[1,4,7,10,13,16,19]) (rs:=x.rs) ⟨⟨rfl,rfl,rfl⟩,⟨rfl,rfl,rfl⟩,⟨rfl,rfl,rfl⟩,⟨rfl,rfl,rfl⟩,⟨rfl,rfl,rfl⟩,⟨rfl,rfl,rfl⟩,⟨rfl,rfl,rfl⟩,trivial⟩).2 i,trivial⟩).mono ?_
 rintro e w' ⟨v,rfl,h1,h2⟩
 have e1:v= .bool false:=h1
 subst e1
 exact⟨rfl,h2⟩
def aa6 (x:RSt) (v:Value):List Fq:=[]
theorem q_fit3 {w:World} (x:RSt) (v:Value) (i:IsL w v x.rs) (k0:x.r0.tw=true) (k1:x.r1.tw=true) (k2:x.r2.tw=true) (k3:x.r3.tw=false):
  Calls Tryz.prog 9 #[v] w fun e w'=>e= .returned (.bool false)∧Below w.heap.size w w':=by
 refine(aH (ρ:=frs (aa6 x v)++([.val (.int .i64 x.tm),.val (.bool x.r0.s),.dig x.r0.L x.r0.p,.dig x.r0.N x.r0.q,.val (.bool x.r1.s),.dig x.r1.L x.r1.p,.dig x.r1.N x.r1.q,.val (.bool x.r2.s),.dig x.r2.L x.r2.p,.dig x.r2.N x.r2.q,.val (.bool x.r3.s),.dig x.r3.L x.r3.p,.dig x.r3.N x.r3.q,.val (.bool x.r4.s),.dig x.r4.L x.r4.p,.dig x.r4.N x.r4.q,.val (.bool x.r5.s),.dig x.r5.L x.r5.p,.dig x.r5.N x.r5.q,.val (.bool x.r6.s),.dig x.r6.L x.r6.p,.dig x.r6.N x.r6.q]:List Vp)) (w:=w) (fuel:=300) (args:=[.agg [.ref 1,.ref 2,.ref 3,.ref 4,.ref 5,.ref 6,.ref 7,.ref 8,.ref 9,.ref 10,.ref 11,.ref 12,.ref 13,.ref 14,.ref 15,.ref 16,.ref 17,.ref 18,.ref 19,.ref 20,.ref 21]]) (vs:=[v]) (r:=.v (.one (.b false))) (lo:=[]) (obs:=[])
  (af (bd (n:=1) (r:=x.r0) (b:=true) ⟨⟨rfl,rfl,rfl⟩,trivial⟩ k0) (af (bd (n:=4) (r:=x.r1) (b:=true) ⟨⟨rfl,rfl,rfl⟩,trivial⟩ k1) (af (bd (n:=7) (r:=x.r2) (b:=true) ⟨⟨rfl,rfl,rfl⟩,trivial⟩ k2) (af (bd (n:=10) (r:=x.r3) (b:=false) ⟨⟨rfl,rfl,rfl⟩,trivial⟩ k3) ah))))
  ai (by kernel_rfl) Tryz.func9 (by kernel_rfl) aG ⟨(aY (ns:=[1,4,7,10,13,16,19]) (rs:=x.rs) ⟨⟨rfl,rfl,rfl⟩,⟨rfl,rfl,rfl⟩,⟨rfl,rfl,rfl⟩,⟨rfl,rfl,rfl⟩,⟨rfl,rfl,rfl⟩,⟨rfl,rfl,rfl⟩,⟨rfl,rfl,rfl⟩,trivial⟩).2 i,trivial⟩).mono ?_
 rintro e w' ⟨v,rfl,h1,h2⟩
 have e1:v= .bool false:=h1
 subst e1
 exact⟨rfl,h2⟩
def aa7 (x:RSt) (v:Value):List Fq:=[]
theorem q_fit4 {w:World} (x:RSt) (v:Value) (i:IsL w v x.rs) (k0:x.r0.tw=true) (k1:x.r1.tw=true) (k2:x.r2.tw=true) (k3:x.r3.tw=true) (k4:x.r4.tw=false):
  Calls Tryz.prog 9 #[v] w fun e w'=>e= .returned (.bool false)∧Below w.heap.size w w':=by
 refine(aH (ρ:=frs (aa7 x v)++([.val (.int .i64 x.tm),.val (.bool x.r0.s),.dig x.r0.L x.r0.p,.dig x.r0.N x.r0.q,.val (.bool x.r1.s),.dig x.r1.L x.r1.p,.dig x.r1.N x.r1.q,.val (.bool x.r2.s),.dig x.r2.L x.r2.p,.dig x.r2.N x.r2.q,.val (.bool x.r3.s),.dig x.r3.L x.r3.p,.dig x.r3.N x.r3.q,.val (.bool x.r4.s),.dig x.r4.L x.r4.p,.dig x.r4.N x.r4.q,.val (.bool x.r5.s),.dig x.r5.L x.r5.p,.dig x.r5.N x.r5.q,.val (.bool x.r6.s),.dig x.r6.L x.r6.p,.dig x.r6.N x.r6.q]:List Vp)) (w:=w) (fuel:=300) (args:=[.agg [.ref 1,.ref 2,.ref 3,.ref 4,.ref 5,.ref 6,.ref 7,.ref 8,.ref 9,.ref 10,.ref 11,.ref 12,.ref 13,.ref 14,.ref 15,.ref 16,.ref 17,.ref 18,.ref 19,.ref 20,.ref 21]]) (vs:=[v]) (r:=.v (.one (.b false))) (lo:=[]) (obs:=[])
  (af (bd (n:=1) (r:=x.r0) (b:=true) ⟨⟨rfl,rfl,rfl⟩,trivial⟩ k0) (af (bd (n:=4) (r:=x.r1) (b:=true) ⟨⟨rfl,rfl,rfl⟩,trivial⟩ k1) (af (bd (n:=7) (r:=x.r2) (b:=true) ⟨⟨rfl,rfl,rfl⟩,trivial⟩ k2) (af (bd (n:=10) (r:=x.r3) (b:=true) ⟨⟨rfl,rfl,rfl⟩,trivial⟩ k3) (af (bd (n:=13) (r:=x.r4) (b:=false) ⟨⟨rfl,rfl,rfl⟩,trivial⟩ k4) ah)))))
  ai (by kernel_rfl) Tryz.func9 (by kernel_rfl) aG ⟨(aY (ns:=[1,4,7,10,13,16,19]) (rs:=x.rs) ⟨⟨rfl,rfl,rfl⟩,⟨rfl,rfl,rfl⟩,⟨rfl,rfl,rfl⟩,⟨rfl,rfl,rfl⟩,⟨rfl,rfl,rfl⟩,⟨rfl,rfl,rfl⟩,⟨rfl,rfl,rfl⟩,trivial⟩).2 i,trivial⟩).mono ?_
 rintro e w' ⟨v,rfl,h1,h2⟩
 have e1:v= .bool false:=h1
 subst e1
 exact⟨rfl,h2⟩
def aa8 (x:RSt) (v:Value):List Fq:=[]
theorem q_fit5 {w:World} (x:RSt) (v:Value) (i:IsL w v x.rs) (k0:x.r0.tw=true) (k1:x.r1.tw=true) (k2:x.r2.tw=true) (k3:x.r3.tw=true) (k4:x.r4.tw=true) (k5:x.r5.tw=false):
  Calls Tryz.prog 9 #[v] w fun e w'=>e= .returned (.bool false)∧Below w.heap.size w w':=by
 refine(aH (ρ:=frs (aa8 x v)++([.val (.int .i64 x.tm),.val (.bool x.r0.s),.dig x.r0.L x.r0.p,.dig x.r0.N x.r0.q,.val (.bool x.r1.s),.dig x.r1.L x.r1.p,.dig x.r1.N x.r1.q,.val (.bool x.r2.s),.dig x.r2.L x.r2.p,.dig x.r2.N x.r2.q,.val (.bool x.r3.s),.dig x.r3.L x.r3.p,.dig x.r3.N x.r3.q,.val (.bool x.r4.s),.dig x.r4.L x.r4.p,.dig x.r4.N x.r4.q,.val (.bool x.r5.s),.dig x.r5.L x.r5.p,.dig x.r5.N x.r5.q,.val (.bool x.r6.s),.dig x.r6.L x.r6.p,.dig x.r6.N x.r6.q]:List Vp)) (w:=w) (fuel:=300) (args:=[.agg [.ref 1,.ref 2,.ref 3,.ref 4,.ref 5,.ref 6,.ref 7,.ref 8,.ref 9,.ref 10,.ref 11,.ref 12,.ref 13,.ref 14,.ref 15,.ref 16,.ref 17,.ref 18,.ref 19,.ref 20,.ref 21]]) (vs:=[v]) (r:=.v (.one (.b false))) (lo:=[]) (obs:=[])
  (af (bd (n:=1) (r:=x.r0) (b:=true) ⟨⟨rfl,rfl,rfl⟩,trivial⟩ k0) (af (bd (n:=4) (r:=x.r1) (b:=true) ⟨⟨rfl,rfl,rfl⟩,trivial⟩ k1) (af (bd (n:=7) (r:=x.r2) (b:=true) ⟨⟨rfl,rfl,rfl⟩,trivial⟩ k2) (af (bd (n:=10) (r:=x.r3) (b:=true) ⟨⟨rfl,rfl,rfl⟩,trivial⟩ k3) (af (bd (n:=13) (r:=x.r4) (b:=true) ⟨⟨rfl,rfl,rfl⟩,trivial⟩ k4) (af (bd (n:=16) (r:=x.r5) (b:=false) ⟨⟨rfl,rfl,rfl⟩,trivial⟩ k5) ah))))))
  ai (by kernel_rfl) Tryz.func9 (by kernel_rfl) aG ⟨(aY (ns:=[1,4,7,10,13,16,19]) (rs:=x.rs) ⟨⟨rfl,rfl,rfl⟩,⟨rfl,rfl,rfl⟩,⟨rfl,rfl,rfl⟩,⟨rfl,rfl,rfl⟩,⟨rfl,rfl,rfl⟩,⟨rfl,rfl,rfl⟩,⟨rfl,rfl,rfl⟩,trivial⟩).2 i,trivial⟩).mono ?_
 rintro e w' ⟨v,rfl,h1,h2⟩
 have e1:v= .bool false:=h1
 subst e1
 exact⟨rfl,h2⟩
def aa9 (x:RSt) (v:Value):List Fq:=[]
theorem q_fit6 {w:World} (x:RSt) (v:Value) (i:IsL w v x.rs) (k0:x.r0.tw=true) (k1:x.r1.tw=true) (k2:x.r2.tw=true) (k3:x.r3.tw=true) (k4:x.r4.tw=true) (k5:x.r5.tw=true) (k6:x.r6.tw=false):
  Calls Tryz.prog 9 #[v] w fun e w'=>e= .returned (.bool false)∧Below w.heap.size w w':=by
 refine(aH (ρ:=frs (aa9 x v)++([.val (.int .i64 x.tm),.val (.bool x.r0.s),.dig x.r0.L x.r0.p,.dig x.r0.N x.r0.q,.val (.bool x.r1.s),.dig x.r1.L x.r1.p,.dig x.r1.N x.r1.q,.val (.bool x.r2.s),.dig x.r2.L x.r2.p,.dig x.r2.N x.r2.q,.val (.bool x.r3.s),.dig x.r3.L x.r3.p,.dig x.r3.N x.r3.q,.val (.bool x.r4.s),.dig x.r4.L x.r4.p,.dig x.r4.N x.r4.q,.val (.bool x.r5.s),.dig x.r5.L x.r5.p,.dig x.r5.N x.r5.q,.val (.bool x.r6.s),.dig x.r6.L x.r6.p,.dig x.r6.N x.r6.q]:List Vp)) (w:=w) (fuel:=300) (args:=[.agg [.ref 1,.ref 2,.ref 3,.ref 4,.ref 5,.ref 6,.ref 7,.ref 8,.ref 9,.ref 10,.ref 11,.ref 12,.ref 13,.ref 14,.ref 15,.ref 16,.ref 17,.ref 18,.ref 19,.ref 20,.ref 21]]) (vs:=[v]) (r:=.v (.one (.b false))) (lo:=[]) (obs:=[])
  (af (bd (n:=1) (r:=x.r0) (b:=true) ⟨⟨rfl,rfl,rfl⟩,trivial⟩ k0) (af (bd (n:=4) (r:=x.r1) (b:=true) ⟨⟨rfl,rfl,rfl⟩,trivial⟩ k1) (af (bd (n:=7) (r:=x.r2) (b:=true) ⟨⟨rfl,rfl,rfl⟩,trivial⟩ k2) (af (bd (n:=10) (r:=x.r3) (b:=true) ⟨⟨rfl,rfl,rfl⟩,trivial⟩ k3) (af (bd (n:=13) (r:=x.r4) (b:=true) ⟨⟨rfl,rfl,rfl⟩,trivial⟩ k4) (af (bd (n:=16) (r:=x.r5) (b:=true) ⟨⟨rfl,rfl,rfl⟩,trivial⟩ k5) (af (bd (n:=19) (r:=x.r6) (b:=false) ⟨⟨rfl,rfl,rfl⟩,trivial⟩ k6) ah)))))))
  ai (by kernel_rfl) Tryz.func9 (by kernel_rfl) aG ⟨(aY (ns:=[1,4,7,10,13,16,19]) (rs:=x.rs) ⟨⟨rfl,rfl,rfl⟩,⟨rfl,rfl,rfl⟩,⟨rfl,rfl,rfl⟩,⟨rfl,rfl,rfl⟩,⟨rfl,rfl,rfl⟩,⟨rfl,rfl,rfl⟩,⟨rfl,rfl,rfl⟩,trivial⟩).2 i,trivial⟩).mono ?_
 rintro e w' ⟨v,rfl,h1,h2⟩
 have e1:v= .bool false:=h1
 subst e1
 exact⟨rfl,h2⟩
def aba (x:RSt) (v:Value):List Fq:=[]
theorem q_fit7 {w:World} (x:RSt) (v:Value) (i:IsL w v x.rs) (k0:x.r0.tw=true) (k1:x.r1.tw=true) (k2:x.r2.tw=true) (k3:x.r3.tw=true) (k4:x.r4.tw=true) (k5:x.r5.tw=true) (k6:x.r6.tw=true):
  Calls Tryz.prog 9 #[v] w fun e w'=>e= .returned (.bool true)∧Below w.heap.size w w':=by
 refine(aH (ρ:=frs (aba x v)++([.val (.int .i64 x.tm),.val (.bool x.r0.s),.dig x.r0.L x.r0.p,.dig x.r0.N x.r0.q,.val (.bool x.r1.s),.dig x.r1.L x.r1.p,.dig x.r1.N x.r1.q,.val (.bool x.r2.s),.dig x.r2.L x.r2.p,.dig x.r2.N x.r2.q,.val (.bool x.r3.s),.dig x.r3.L x.r3.p,.dig x.r3.N x.r3.q,.val (.bool x.r4.s),.dig x.r4.L x.r4.p,.dig x.r4.N x.r4.q,.val (.bool x.r5.s),.dig x.r5.L x.r5.p,.dig x.r5.N x.r5.q,.val (.bool x.r6.s),.dig x.r6.L x.r6.p,.dig x.r6.N x.r6.q]:List Vp)) (w:=w) (fuel:=300) (args:=[.agg [.ref 1,.ref 2,.ref 3,.ref 4,.ref 5,.ref 6,.ref 7,.ref 8,.ref 9,.ref 10,.ref 11,.ref 12,.ref 13,.ref 14,.ref 15,.ref 16,.ref 17,.ref 18,.ref 19,.ref 20,.ref 21]]) (vs:=[v]) (r:=.v (.one (.b true))) (lo:=[]) (obs:=[])
  (af (bd (n:=1) (r:=x.r0) (b:=true) ⟨⟨rfl,rfl,rfl⟩,trivial⟩ k0) (af (bd (n:=4) (r:=x.r1) (b:=true) ⟨⟨rfl,rfl,rfl⟩,trivial⟩ k1) (af (bd (n:=7) (r:=x.r2) (b:=true) ⟨⟨rfl,rfl,rfl⟩,trivial⟩ k2) (af (bd (n:=10) (r:=x.r3) (b:=true) ⟨⟨rfl,rfl,rfl⟩,trivial⟩ k3) (af (bd (n:=13) (r:=x.r4) (b:=true) ⟨⟨rfl,rfl,rfl⟩,trivial⟩ k4) (af (bd (n:=16) (r:=x.r5) (b:=true) ⟨⟨rfl,rfl,rfl⟩,trivial⟩ k5) (af (bd (n:=19) (r:=x.r6) (b:=true) ⟨⟨rfl,rfl,rfl⟩,trivial⟩ k6) ah)))))))
  ai (by kernel_rfl) Tryz.func9 (by kernel_rfl) aG ⟨(aY (ns:=[1,4,7,10,13,16,19]) (rs:=x.rs) ⟨⟨rfl,rfl,rfl⟩,⟨rfl,rfl,rfl⟩,⟨rfl,rfl,rfl⟩,⟨rfl,rfl,rfl⟩,⟨rfl,rfl,rfl⟩,⟨rfl,rfl,rfl⟩,⟨rfl,rfl,rfl⟩,trivial⟩).2 i,trivial⟩).mono ?_
 rintro e w' ⟨v,rfl,h1,h2⟩
 have e1:v= .bool true:=h1
 subst e1
 exact⟨rfl,h2⟩
theorem q_fit {w:World} (x:RSt) (v:Value) (i:IsL w v x.rs):Calls Tryz.prog 9 #[v] w fun e w'=>e= .returned (.bool x.tw)∧Below w.heap.size w w':=by
 rcases Bool.eq_false_or_eq_true x.r0.tw with k0 | k0
 case inr=>rw[show x.tw=false by simp[RSt.tw,k0]];exact q_fit0 x v i k0
 rcases Bool.eq_false_or_eq_true x.r1.tw with k1 | k1
 case inr=>rw[show x.tw=false by simp[RSt.tw,k0,k1]];exact q_fit1 x v i k0 k1
 rcases Bool.eq_false_or_eq_true x.r2.tw with k2 | k2
 case inr=>rw[show x.tw=false by simp[RSt.tw,k0,k1,k2]];exact q_fit2 x v i k0 k1 k2
 rcases Bool.eq_false_or_eq_true x.r3.tw with k3 | k3
 case inr=>rw[show x.tw=false by simp[RSt.tw,k0,k1,k2,k3]];exact q_fit3 x v i k0 k1 k2 k3
 rcases Bool.eq_false_or_eq_true x.r4.tw with k4 | k4
 case inr=>rw[show x.tw=false by simp[RSt.tw,k0,k1,k2,k3,k4]];exact q_fit4 x v i k0 k1 k2 k3 k4
 rcases Bool.eq_false_or_eq_true x.r5.tw with k5 | k5
 case inr=>rw[show x.tw=false by simp[RSt.tw,k0,k1,k2,k3,k4,k5]];exact q_fit5 x v i k0 k1 k2 k3 k4 k5
 rcases Bool.eq_false_or_eq_true x.r6.tw with k6 | k6
 case inr=>rw[show x.tw=false by simp[RSt.tw,k0,k1,k2,k3,k4,k5,k6]];exact q_fit6 x v i k0 k1 k2 k3 k4 k5 k6
 rw[show x.tw=true by simp[RSt.tw,k0,k1,k2,k3,k4,k5,k6]];exact q_fit7 x v i k0 k1 k2 k3 k4 k5 k6
theorem hH {ρ:Rho} {ns:List Nat} {x:RSt} {b:Bool} (hr:AtR ρ ns x.rs) (hb:x.tw=b):Inst.Ok Tryz.prog ρ ⟨9,[fD ns],.v (.one (.b b))⟩:=
 ⟨aC Tryz.func9 rfl rfl,fun B w vs hB h=>by
  match vs,h with
  | [v],h=>
   refine(q_fit x v ((aY hr).1 h.1)).mono ?_
   rintro e w' ⟨rfl,h2⟩
   exact⟨_,rfl,by subst hb;rfl,h2⟩⟩
def lU:MS:=dJ 28 [(0,.v (.one (.ref 0))),(1,.v (.one (.ref 1))),(5,.v (.one (.i .i64 0)))] []
def lV:MS:=dJ 28 [(0,.v (.one (.ref 0))),(1,.v (.one (.ref 1)))] []
def gl (R:List RSt) (v:Value) (M:Nat):List Fq:=[]
theorem q_fitsT {w:World} (R:List RSt) (v:Value) (M:Nat) (hR:(Vp.rowW R.length (bc R)).p w v) (hM:M≤1000) (ht:∀x∈R,x.tw=true) (hl:R.length≤M):
  Calls Tryz.prog 8 #[v,.int .i64 ((M:Nat):Int)] w fun e w'=>e= .returned (.bool true)∧Below w.heap.size w w':=by
 have hL0:LOb.Ok Tryz.prog (frs (gl R v M)++(([.rowW R.length (bc R),.val (.int .i64 ((M:Nat):Int))]:List Vp)++(([.val (.int .i64 (R.length:Int))]:List Vp)))) (Ent.of w) 28 ⟨cO Tryz.f8 0,lU,.ext 0,lV⟩:=by
  refine co R.length (fun k=>frs (gl R v M)++(([.rowW R.length (bc R),.val (.int .i64 ((M:Nat):Int))]:List Vp)++(([.val (.int .i64 ((k:Nat):Int))]:List Vp)))) (fun _=>dJ 28 [(0,.v (.one (.ref 0))),(1,.v (.one (.ref 1))),(5,.v (.one (.ref 2)))] []) ?_ ?_ ?_ (by decide) (Nat.zero_le _)
  ·intro a_ w_ h_
   exact MSt.conv (N:=2) (σ:=[(2,.i .i64 0)]) (cmP (by kernel_rfl)) (aW (sgi (n:=2) (u:=0) (v:=((0:Nat):Int)) rfl (aJ (c:=0)) (by omega)) bk) (by kernel_rfl) h_ (Nat.zero_le _)
  ·intro k hk
   obtain⟨y,hy⟩:∃x,R[k]? =some x:=⟨_,List.getElem?_eq_getElem (by omega)⟩
   refine bO (N:=3) (ρx:=frs (gl R v M)++(([.rowW R.length (bc R),.val (.int .i64 ((M:Nat):Int))]:List Vp)++(([.val (.int .i64 ((k:Nat):Int))]:List Vp)++(([.val (.int .i64 (R.length:Int)),.plcW y.qs,.plcW (mz y.rs),.val (.int .i64 y.tm),.val (.bool y.r0.s),.dig y.r0.L y.r0.p,.dig y.r0.N y.r0.q,.val (.bool y.r1.s),.dig y.r1.L y.r1.p,.dig y.r1.N y.r1.q,.val (.bool y.r2.s),.dig y.r2.L y.r2.p,.dig y.r2.N y.r2.q,.val (.bool y.r3.s),.dig y.r3.L y.r3.p,.dig y.r3.N y.r3.q,.val (.bool y.r4.s),.dig y.r4.L y.r4.p,.dig y.r4.N y.r4.q,.val (.bool y.r5.s),.dig y.r5.L y.r5.p,.dig y.r5.N y.r5.q,.val (.bool y.r6.s),.dig y.r6.L y.r6.p,.dig y.r6.N y.r6.q,.val (.int .i64 (((k:Nat):Int)+1))]:List Vp))))) (cmX (by kernel_rfl)) (by kernel_rfl) (Nat.zero_le _) ?_
   exact bv (N:=2) (σ:=[(2,.ref 28)]) (lo:=[]) (n:=300) (af (hH (ns:=[7,10,13,16,19,22,25]) (x:=y) (b:=true) ⟨⟨rfl,rfl,rfl⟩,⟨rfl,rfl,rfl⟩,⟨rfl,rfl,rfl⟩,⟨rfl,rfl,rfl⟩,⟨rfl,rfl,rfl⟩,⟨rfl,rfl,rfl⟩,⟨rfl,rfl,rfl⟩,trivial⟩ (ht y (List.mem_of_getElem? hy))) ah)
    (ae (cZ (n:=0) (t:=22) ⟨_,Tryz.underlying22⟩ rfl (l:=.ref 3) (fun _ _=>aD rfl az)) (ae (aA (t:=3) (aj (n:=2) rfl) (aj (n:=3) rfl) (a8 (by omega))) (ae (aA (t:=3) (aj (n:=2) rfl) (aj (n:=1) rfl) (cG (by omega))) (ae (iT (n:=0) (m:=4) (k:=k) (x:=y) (R:=R) (t:=22) Tryz.underlying22 (by kernel_rfl) rfl rfl (bf (aj (n:=2) rfl) (by omega)) hy) (ae (sK (n:=4) (m:=5) (t:=35) (f:=1) (off:=1) (sz:=20) (by kernel_rfl) rfl rfl (hr1 (x:=y))) (ae (iS (n:=5) (t:=33) (ls:=cQ [7,10,13,16,19,22,25]) (by kernel_rfl) (by kernel_rfl) rfl (gS (rs:=y.rs) ⟨⟨rfl,rfl,rfl⟩,⟨rfl,rfl,rfl⟩,⟨rfl,rfl,rfl⟩,⟨rfl,rfl,rfl⟩,⟨rfl,rfl,rfl⟩,⟨rfl,rfl,rfl⟩,⟨rfl,rfl,rfl⟩,trivial⟩)) (ae (fY (m:=28) (t:=3) (aj (n:=2) rfl) (aJ (c:=1)) rfl rfl (by omega) (by omega)) (ai))))))))
    (by kernel_rfl) (obs:=[]) (by kernel_rfl) aG (cmP (by kernel_rfl)) (aW (sgi (n:=2) (u:=(((k:Nat):Int)+1)) (v:=((k+1:Nat):Int)) rfl (aj (n:=28) rfl) (by omega)) bk) (Nat.zero_le _)
  ·refine bO (N:=3) (ρx:=frs (gl R v M)++(([.rowW R.length (bc R),.val (.int .i64 ((M:Nat):Int))]:List Vp)++(([.val (.int .i64 ((R.length:Nat):Int))]:List Vp)++(([.val (.int .i64 (R.length:Int))]:List Vp))))) (cmX (by kernel_rfl)) (by kernel_rfl) (Nat.zero_le _) ?_
   exact bv (N:=2) (σ:=[]) (lo:=[]) (n:=300) (ah)
    (ae (cZ (n:=0) (t:=22) ⟨_,Tryz.underlying22⟩ rfl (l:=.ref 3) (fun _ _=>aD rfl az)) (ae (aA (t:=3) (aj (n:=2) rfl) (aj (n:=3) rfl) (aU (by omega))) (ai)))
    (by kernel_rfl) (obs:=[]) (by kernel_rfl) aG (cmP (by kernel_rfl)) bk (Nat.zero_le _)
 refine(aH (ρ:=frs (gl R v M)++(([.rowW R.length (bc R),.val (.int .i64 ((M:Nat):Int))]:List Vp)++(([.val (.int .i64 (R.length:Int))]:List Vp)))) (w:=w) (fuel:=300) (args:=[.one (.ref 0),.one (.ref 1)]) (vs:=[v,.int .i64 ((M:Nat):Int)]) (r:=.v (.one (.b true))) (lo:=[some (lU,.ext 0,lV)]) (obs:=[⟨cO Tryz.f8 0,lU,.ext 0,lV⟩])
  (ah)
  (ae (cZ (n:=0) (t:=22) ⟨_,Tryz.underlying22⟩ rfl (l:=.ref 2) (fun _ _=>aD rfl az)) (ae (aA (t:=3) (aj (n:=2) rfl) (aj (n:=1) rfl) (cG (by omega))) (ai))) (by kernel_rfl) Tryz.func8 (by kernel_rfl) (en hL0 aG) ⟨bJ (m:=0) rfl hR,⟨aD (n:=1) rfl az,trivial⟩⟩).mono ?_
 rintro e w' ⟨v,rfl,h1,h2⟩
 have e1:v= .bool true:=h1
 subst e1
 exact⟨rfl,h2⟩
def lW:MS:=dJ 28 [(0,.v (.one (.ref 0))),(1,.v (.one (.ref 1))),(5,.v (.one (.i .i64 0)))] []
def gn (R:List RSt) (v:Value) (M:Nat) (j:Nat) (x:RSt):List Fq:=[]
theorem q_fitsF {w:World} (R:List RSt) (v:Value) (M:Nat) (hR:(Vp.rowW R.length (bc R)).p w v) (hM:M≤1000) (j:Nat) (x:RSt) (hx:R[j]? =some x) (hj:j≤M) (ht:∀(i:Nat) (y:RSt),i<j→R[i]? =some y→y.tw=true) (hb:x.tw=false):
  Calls Tryz.prog 8 #[v,.int .i64 ((M:Nat):Int)] w fun e w'=>e= .returned (.bool false)∧Below w.heap.size w w':=by
 have hjl:=(List.getElem?_eq_some_iff.1 hx).1
 have hL0:LOb.Ok Tryz.prog (frs (gn R v M j x)++(([.rowW R.length (bc R),.val (.int .i64 ((M:Nat):Int))]:List Vp)++(([]:List Vp)))) (Ent.of w) 28 ⟨cO Tryz.f8 0,lW,.ret,dJ 28 [(4,.v (.one (.b false)))] []⟩:=by
  refine co j (fun k=>frs (gn R v M j x)++(([.rowW R.length (bc R),.val (.int .i64 ((M:Nat):Int))]:List Vp)++(([.val (.int .i64 ((k:Nat):Int))]:List Vp)))) (fun _=>dJ 28 [(0,.v (.one (.ref 0))),(1,.v (.one (.ref 1))),(5,.v (.one (.ref 2)))] []) ?_ ?_ ?_ (by decide) (Nat.zero_le _)
  ·intro a_ w_ h_
   exact MSt.conv (N:=2) (σ:=[(2,.i .i64 0)]) (cmP (by kernel_rfl)) (aW (sgi (n:=2) (u:=0) (v:=((0:Nat):Int)) rfl (aJ (c:=0)) (by omega)) bk) (by kernel_rfl) h_ (Nat.zero_le _)
  ·intro k hk
   obtain⟨y,hy⟩:∃x,R[k]? =some x:=⟨_,List.getElem?_eq_getElem (by omega)⟩
   refine bO (N:=3) (ρx:=frs (gn R v M j x)++(([.rowW R.length (bc R),.val (.int .i64 ((M:Nat):Int))]:List Vp)++(([.val (.int .i64 ((k:Nat):Int))]:List Vp)++(([.val (.int .i64 (R.length:Int)),.plcW y.qs,.plcW (mz y.rs),.val (.int .i64 y.tm),.val (.bool y.r0.s),.dig y.r0.L y.r0.p,.dig y.r0.N y.r0.q,.val (.bool y.r1.s),.dig y.r1.L y.r1.p,.dig y.r1.N y.r1.q,.val (.bool y.r2.s),.dig y.r2.L y.r2.p,.dig y.r2.N y.r2.q,.val (.bool y.r3.s),.dig y.r3.L y.r3.p,.dig y.r3.N y.r3.q,.val (.bool y.r4.s),.dig y.r4.L y.r4.p,.dig y.r4.N y.r4.q,.val (.bool y.r5.s),.dig y.r5.L y.r5.p,.dig y.r5.N y.r5.q,.val (.bool y.r6.s),.dig y.r6.L y.r6.p,.dig y.r6.N y.r6.q,.val (.int .i64 (((k:Nat):Int)+1))]:List Vp))))) (cmX (by kernel_rfl)) (by kernel_rfl) (Nat.zero_le _) ?_
   exact bv (N:=2) (σ:=[(2,.ref 28)]) (lo:=[]) (n:=300) (af (hH (ns:=[7,10,13,16,19,22,25]) (x:=y) (b:=true) ⟨⟨rfl,rfl,rfl⟩,⟨rfl,rfl,rfl⟩,⟨rfl,rfl,rfl⟩,⟨rfl,rfl,rfl⟩,⟨rfl,rfl,rfl⟩,⟨rfl,rfl,rfl⟩,⟨rfl,rfl,rfl⟩,trivial⟩ (ht k y hk hy)) ah)
    (ae (cZ (n:=0) (t:=22) ⟨_,Tryz.underlying22⟩ rfl (l:=.ref 3) (fun _ _=>aD rfl az)) (ae (aA (t:=3) (aj (n:=2) rfl) (aj (n:=3) rfl) (a8 (by omega))) (ae (aA (t:=3) (aj (n:=2) rfl) (aj (n:=1) rfl) (cG (by omega))) (ae (iT (n:=0) (m:=4) (k:=k) (x:=y) (R:=R) (t:=22) Tryz.underlying22 (by kernel_rfl) rfl rfl (bf (aj (n:=2) rfl) (by omega)) hy) (ae (sK (n:=4) (m:=5) (t:=35) (f:=1) (off:=1) (sz:=20) (by kernel_rfl) rfl rfl (hr1 (x:=y))) (ae (iS (n:=5) (t:=33) (ls:=cQ [7,10,13,16,19,22,25]) (by kernel_rfl) (by kernel_rfl) rfl (gS (rs:=y.rs) ⟨⟨rfl,rfl,rfl⟩,⟨rfl,rfl,rfl⟩,⟨rfl,rfl,rfl⟩,⟨rfl,rfl,rfl⟩,⟨rfl,rfl,rfl⟩,⟨rfl,rfl,rfl⟩,⟨rfl,rfl,rfl⟩,trivial⟩)) (ae (fY (m:=28) (t:=3) (aj (n:=2) rfl) (aJ (c:=1)) rfl rfl (by omega) (by omega)) (ai))))))))
    (by kernel_rfl) (obs:=[]) (by kernel_rfl) aG (cmP (by kernel_rfl)) (aW (sgi (n:=2) (u:=(((k:Nat):Int)+1)) (v:=((k+1:Nat):Int)) rfl (aj (n:=28) rfl) (by omega)) bk) (Nat.zero_le _)
  ·refine bO (N:=3) (ρx:=frs (gn R v M j x)++(([.rowW R.length (bc R),.val (.int .i64 ((M:Nat):Int))]:List Vp)++(([.val (.int .i64 ((j:Nat):Int))]:List Vp)++(([.val (.int .i64 (R.length:Int)),.plcW x.qs,.plcW (mz x.rs),.val (.int .i64 x.tm),.val (.bool x.r0.s),.dig x.r0.L x.r0.p,.dig x.r0.N x.r0.q,.val (.bool x.r1.s),.dig x.r1.L x.r1.p,.dig x.r1.N x.r1.q,.val (.bool x.r2.s),.dig x.r2.L x.r2.p,.dig x.r2.N x.r2.q,.val (.bool x.r3.s),.dig x.r3.L x.r3.p,.dig x.r3.N x.r3.q,.val (.bool x.r4.s),.dig x.r4.L x.r4.p,.dig x.r4.N x.r4.q,.val (.bool x.r5.s),.dig x.r5.L x.r5.p,.dig x.r5.N x.r5.q,.val (.bool x.r6.s),.dig x.r6.L x.r6.p,.dig x.r6.N x.r6.q]:List Vp))))) (cmX (by kernel_rfl)) (by kernel_rfl) (Nat.zero_le _) ?_
   exact bv (N:=2) (σ:=[]) (lo:=[]) (n:=300) (af (hH (ns:=[7,10,13,16,19,22,25]) (x:=x) (b:=false) ⟨⟨rfl,rfl,rfl⟩,⟨rfl,rfl,rfl⟩,⟨rfl,rfl,rfl⟩,⟨rfl,rfl,rfl⟩,⟨rfl,rfl,rfl⟩,⟨rfl,rfl,rfl⟩,⟨rfl,rfl,rfl⟩,trivial⟩ hb) ah)
    (ae (cZ (n:=0) (t:=22) ⟨_,Tryz.underlying22⟩ rfl (l:=.ref 3) (fun _ _=>aD rfl az)) (ae (aA (t:=3) (aj (n:=2) rfl) (aj (n:=3) rfl) (a8 (by omega))) (ae (aA (t:=3) (aj (n:=2) rfl) (aj (n:=1) rfl) (cG (by omega))) (ae (iT (n:=0) (m:=4) (k:=j) (x:=x) (R:=R) (t:=22) Tryz.underlying22 (by kernel_rfl) rfl rfl (bf (aj (n:=2) rfl) (by omega)) hx) (ae (sK (n:=4) (m:=5) (t:=35) (f:=1) (off:=1) (sz:=20) (by kernel_rfl) rfl rfl (hr1 (x:=x))) (ae (iS (n:=5) (t:=33) (ls:=cQ [7,10,13,16,19,22,25]) (by kernel_rfl) (by kernel_rfl) rfl (gS (rs:=x.rs) ⟨⟨rfl,rfl,rfl⟩,⟨rfl,rfl,rfl⟩,⟨rfl,rfl,rfl⟩,⟨rfl,rfl,rfl⟩,⟨rfl,rfl,rfl⟩,⟨rfl,rfl,rfl⟩,⟨rfl,rfl,rfl⟩,trivial⟩)) (ai)))))))
    (by kernel_rfl) (obs:=[]) (by kernel_rfl) aG (cmP (by kernel_rfl)) bk (Nat.zero_le _)
 refine(aH (ρ:=frs (gn R v M j x)++(([.rowW R.length (bc R),.val (.int .i64 ((M:Nat):Int))]:List Vp)++(([]:List Vp)))) (w:=w) (fuel:=300) (args:=[.one (.ref 0),.one (.ref 1)]) (vs:=[v,.int .i64 ((M:Nat):Int)]) (r:=.v (.one (.b false))) (lo:=[some (lW,.ret,dJ 28 [(4,.v (.one (.b false)))] [])]) (obs:=[⟨cO Tryz.f8 0,lW,.ret,dJ 28 [(4,.v (.one (.b false)))] []⟩])
  (ah)
  ai (by kernel_rfl) Tryz.func8 (by kernel_rfl) (en hL0 aG) ⟨bJ (m:=0) rfl hR,⟨aD (n:=1) rfl az,trivial⟩⟩).mono ?_
 rintro e w' ⟨v,rfl,h1,h2⟩
 have e1:v= .bool false:=h1
 subst e1
 exact⟨rfl,h2⟩
def lX:MS:=dJ 28 [(0,.v (.one (.ref 0))),(1,.v (.one (.ref 1))),(5,.v (.one (.i .i64 0)))] []
def lY:MS:=dJ 28 [(0,.v (.one (.ref 0))),(1,.v (.one (.ref 1)))] []
def go (R:List RSt) (v:Value) (M:Nat):List Fq:=[]
theorem q_fitsG {w:World} (R:List RSt) (v:Value) (M:Nat) (hR:(Vp.rowW R.length (bc R)).p w v) (hM:M≤1000) (ht:∀(i:Nat) (y:RSt),i<M+1→R[i]? =some y→y.tw=true) (hl:M+1<R.length):
  Calls Tryz.prog 8 #[v,.int .i64 ((M:Nat):Int)] w fun e w'=>e= .returned (.bool false)∧Below w.heap.size w w':=by
 have hL0:LOb.Ok Tryz.prog (frs (go R v M)++(([.rowW R.length (bc R),.val (.int .i64 ((M:Nat):Int))]:List Vp)++(([.val (.int .i64 (R.length:Int))]:List Vp)))) (Ent.of w) 28 ⟨cO Tryz.f8 0,lX,.ext 0,lY⟩:=by
  refine co (M+1) (fun k=>frs (go R v M)++(([.rowW R.length (bc R),.val (.int .i64 ((M:Nat):Int))]:List Vp)++(([.val (.int .i64 ((k:Nat):Int))]:List Vp)))) (fun _=>dJ 28 [(0,.v (.one (.ref 0))),(1,.v (.one (.ref 1))),(5,.v (.one (.ref 2)))] []) ?_ ?_ ?_ (by decide) (Nat.zero_le _)
  ·intro a_ w_ h_
   exact MSt.conv (N:=2) (σ:=[(2,.i .i64 0)]) (cmP (by kernel_rfl)) (aW (sgi (n:=2) (u:=0) (v:=((0:Nat):Int)) rfl (aJ (c:=0)) (by omega)) bk) (by kernel_rfl) h_ (Nat.zero_le _)
  ·intro k hk
   obtain⟨y,hy⟩:∃x,R[k]? =some x:=⟨_,List.getElem?_eq_getElem (by omega)⟩
   refine bO (N:=3) (ρx:=frs (go R v M)++(([.rowW R.length (bc R),.val (.int .i64 ((M:Nat):Int))]:List Vp)++(([.val (.int .i64 ((k:Nat):Int))]:List Vp)++(([.val (.int .i64 (R.length:Int)),.plcW y.qs,.plcW (mz y.rs),.val (.int .i64 y.tm),.val (.bool y.r0.s),.dig y.r0.L y.r0.p,.dig y.r0.N y.r0.q,.val (.bool y.r1.s),.dig y.r1.L y.r1.p,.dig y.r1.N y.r1.q,.val (.bool y.r2.s),.dig y.r2.L y.r2.p,.dig y.r2.N y.r2.q,.val (.bool y.r3.s),.dig y.r3.L y.r3.p,.dig y.r3.N y.r3.q,.val (.bool y.r4.s),.dig y.r4.L y.r4.p,.dig y.r4.N y.r4.q,.val (.bool y.r5.s),.dig y.r5.L y.r5.p,.dig y.r5.N y.r5.q,.val (.bool y.r6.s),.dig y.r6.L y.r6.p,.dig y.r6.N y.r6.q,.val (.int .i64 (((k:Nat):Int)+1))]:List Vp))))) (cmX (by kernel_rfl)) (by kernel_rfl) (Nat.zero_le _) ?_
   exact bv (N:=2) (σ:=[(2,.ref 28)]) (lo:=[]) (n:=300) (af (hH (ns:=[7,10,13,16,19,22,25]) (x:=y) (b:=true) ⟨⟨rfl,rfl,rfl⟩,⟨rfl,rfl,rfl⟩,⟨rfl,rfl,rfl⟩,⟨rfl,rfl,rfl⟩,⟨rfl,rfl,rfl⟩,⟨rfl,rfl,rfl⟩,⟨rfl,rfl,rfl⟩,trivial⟩ (ht k y hk hy)) ah)
    (ae (cZ (n:=0) (t:=22) ⟨_,Tryz.underlying22⟩ rfl (l:=.ref 3) (fun _ _=>aD rfl az)) (ae (aA (t:=3) (aj (n:=2) rfl) (aj (n:=3) rfl) (a8 (by omega))) (ae (aA (t:=3) (aj (n:=2) rfl) (aj (n:=1) rfl) (cG (by omega))) (ae (iT (n:=0) (m:=4) (k:=k) (x:=y) (R:=R) (t:=22) Tryz.underlying22 (by kernel_rfl) rfl rfl (bf (aj (n:=2) rfl) (by omega)) hy) (ae (sK (n:=4) (m:=5) (t:=35) (f:=1) (off:=1) (sz:=20) (by kernel_rfl) rfl rfl (hr1 (x:=y))) (ae (iS (n:=5) (t:=33) (ls:=cQ [7,10,13,16,19,22,25]) (by kernel_rfl) (by kernel_rfl) rfl (gS (rs:=y.rs) ⟨⟨rfl,rfl,rfl⟩,⟨rfl,rfl,rfl⟩,⟨rfl,rfl,rfl⟩,⟨rfl,rfl,rfl⟩,⟨rfl,rfl,rfl⟩,⟨rfl,rfl,rfl⟩,⟨rfl,rfl,rfl⟩,trivial⟩)) (ae (fY (m:=28) (t:=3) (aj (n:=2) rfl) (aJ (c:=1)) rfl rfl (by omega) (by omega)) (ai))))))))
    (by kernel_rfl) (obs:=[]) (by kernel_rfl) aG (cmP (by kernel_rfl)) (aW (sgi (n:=2) (u:=(((k:Nat):Int)+1)) (v:=((k+1:Nat):Int)) rfl (aj (n:=28) rfl) (by omega)) bk) (Nat.zero_le _)
  ·refine bO (N:=3) (ρx:=frs (go R v M)++(([.rowW R.length (bc R),.val (.int .i64 ((M:Nat):Int))]:List Vp)++(([.val (.int .i64 (((M+1):Nat):Int))]:List Vp)++(([.val (.int .i64 (R.length:Int))]:List Vp))))) (cmX (by kernel_rfl)) (by kernel_rfl) (Nat.zero_le _) ?_
   exact bv (N:=2) (σ:=[]) (lo:=[]) (n:=300) (ah)
    (ae (cZ (n:=0) (t:=22) ⟨_,Tryz.underlying22⟩ rfl (l:=.ref 3) (fun _ _=>aD rfl az)) (ae (aA (t:=3) (aj (n:=2) rfl) (aj (n:=3) rfl) (a8 (by omega))) (ae (aA (t:=3) (aj (n:=2) rfl) (aj (n:=1) rfl) (dU (by omega))) (ai))))
    (by kernel_rfl) (obs:=[]) (by kernel_rfl) aG (cmP (by kernel_rfl)) bk (Nat.zero_le _)
 refine(aH (ρ:=frs (go R v M)++(([.rowW R.length (bc R),.val (.int .i64 ((M:Nat):Int))]:List Vp)++(([.val (.int .i64 (R.length:Int))]:List Vp)))) (w:=w) (fuel:=300) (args:=[.one (.ref 0),.one (.ref 1)]) (vs:=[v,.int .i64 ((M:Nat):Int)]) (r:=.v (.one (.b false))) (lo:=[some (lX,.ext 0,lY)]) (obs:=[⟨cO Tryz.f8 0,lX,.ext 0,lY⟩])
  (ah)
  (ae (cZ (n:=0) (t:=22) ⟨_,Tryz.underlying22⟩ rfl (l:=.ref 2) (fun _ _=>aD rfl az)) (ae (aA (t:=3) (aj (n:=2) rfl) (aj (n:=1) rfl) (dU (by omega))) (ai))) (by kernel_rfl) Tryz.func8 (by kernel_rfl) (en hL0 aG) ⟨bJ (m:=0) rfl hR,⟨aD (n:=1) rfl az,trivial⟩⟩).mono ?_
 rintro e w' ⟨v,rfl,h1,h2⟩
 have e1:v= .bool false:=h1
 subst e1
 exact⟨rfl,h2⟩
def lZ:MS:=dJ 28 [(0,.v (.one (.ref 0))),(1,.v (.one (.ref 1))),(5,.v (.one (.i .i64 0)))] []
def l7:MS:=dJ 28 [(0,.v (.one (.ref 0))),(1,.v (.one (.ref 1)))] []
def gr (R:List RSt) (v:Value) (M:Nat):List Fq:=[]
theorem q_fitsH {w:World} (R:List RSt) (v:Value) (M:Nat) (hR:(Vp.rowW R.length (bc R)).p w v) (hM:M≤1000) (ht:∀(i:Nat) (y:RSt),i<M+1→R[i]? =some y→y.tw=true) (hl:R.length=M+1):
  Calls Tryz.prog 8 #[v,.int .i64 ((M:Nat):Int)] w fun e w'=>e= .returned (.bool false)∧Below w.heap.size w w':=by
 have hL0:LOb.Ok Tryz.prog (frs (gr R v M)++(([.rowW R.length (bc R),.val (.int .i64 ((M:Nat):Int))]:List Vp)++(([.val (.int .i64 (R.length:Int))]:List Vp)))) (Ent.of w) 28 ⟨cO Tryz.f8 0,lZ,.ext 0,l7⟩:=by
  refine co R.length (fun k=>frs (gr R v M)++(([.rowW R.length (bc R),.val (.int .i64 ((M:Nat):Int))]:List Vp)++(([.val (.int .i64 ((k:Nat):Int))]:List Vp)))) (fun _=>dJ 28 [(0,.v (.one (.ref 0))),(1,.v (.one (.ref 1))),(5,.v (.one (.ref 2)))] []) ?_ ?_ ?_ (by decide) (Nat.zero_le _)
  ·intro a_ w_ h_
   exact MSt.conv (N:=2) (σ:=[(2,.i .i64 0)]) (cmP (by kernel_rfl)) (aW (sgi (n:=2) (u:=0) (v:=((0:Nat):Int)) rfl (aJ (c:=0)) (by omega)) bk) (by kernel_rfl) h_ (Nat.zero_le _)
  ·intro k hk
   obtain⟨y,hy⟩:∃x,R[k]? =some x:=⟨_,List.getElem?_eq_getElem (by omega)⟩
   refine bO (N:=3) (ρx:=frs (gr R v M)++(([.rowW R.length (bc R),.val (.int .i64 ((M:Nat):Int))]:List Vp)++(([.val (.int .i64 ((k:Nat):Int))]:List Vp)++(([.val (.int .i64 (R.length:Int)),.plcW y.qs,.plcW (mz y.rs),.val (.int .i64 y.tm),.val (.bool y.r0.s),.dig y.r0.L y.r0.p,.dig y.r0.N y.r0.q,.val (.bool y.r1.s),.dig y.r1.L y.r1.p,.dig y.r1.N y.r1.q,.val (.bool y.r2.s),.dig y.r2.L y.r2.p,.dig y.r2.N y.r2.q,.val (.bool y.r3.s),.dig y.r3.L y.r3.p,.dig y.r3.N y.r3.q,.val (.bool y.r4.s),.dig y.r4.L y.r4.p,.dig y.r4.N y.r4.q,.val (.bool y.r5.s),.dig y.r5.L y.r5.p,.dig y.r5.N y.r5.q,.val (.bool y.r6.s),.dig y.r6.L y.r6.p,.dig y.r6.N y.r6.q,.val (.int .i64 (((k:Nat):Int)+1))]:List Vp))))) (cmX (by kernel_rfl)) (by kernel_rfl) (Nat.zero_le _) ?_
   exact bv (N:=2) (σ:=[(2,.ref 28)]) (lo:=[]) (n:=300) (af (hH (ns:=[7,10,13,16,19,22,25]) (x:=y) (b:=true) ⟨⟨rfl,rfl,rfl⟩,⟨rfl,rfl,rfl⟩,⟨rfl,rfl,rfl⟩,⟨rfl,rfl,rfl⟩,⟨rfl,rfl,rfl⟩,⟨rfl,rfl,rfl⟩,⟨rfl,rfl,rfl⟩,trivial⟩ (ht k y (by omega) hy)) ah)
    (ae (cZ (n:=0) (t:=22) ⟨_,Tryz.underlying22⟩ rfl (l:=.ref 3) (fun _ _=>aD rfl az)) (ae (aA (t:=3) (aj (n:=2) rfl) (aj (n:=3) rfl) (a8 (by omega))) (ae (aA (t:=3) (aj (n:=2) rfl) (aj (n:=1) rfl) (cG (by omega))) (ae (iT (n:=0) (m:=4) (k:=k) (x:=y) (R:=R) (t:=22) Tryz.underlying22 (by kernel_rfl) rfl rfl (bf (aj (n:=2) rfl) (by omega)) hy) (ae (sK (n:=4) (m:=5) (t:=35) (f:=1) (off:=1) (sz:=20) (by kernel_rfl) rfl rfl (hr1 (x:=y))) (ae (iS (n:=5) (t:=33) (ls:=cQ [7,10,13,16,19,22,25]) (by kernel_rfl) (by kernel_rfl) rfl (gS (rs:=y.rs) ⟨⟨rfl,rfl,rfl⟩,⟨rfl,rfl,rfl⟩,⟨rfl,rfl,rfl⟩,⟨rfl,rfl,rfl⟩,⟨rfl,rfl,rfl⟩,⟨rfl,rfl,rfl⟩,⟨rfl,rfl,rfl⟩,trivial⟩)) (ae (fY (m:=28) (t:=3) (aj (n:=2) rfl) (aJ (c:=1)) rfl rfl (by omega) (by omega)) (ai))))))))
    (by kernel_rfl) (obs:=[]) (by kernel_rfl) aG (cmP (by kernel_rfl)) (aW (sgi (n:=2) (u:=(((k:Nat):Int)+1)) (v:=((k+1:Nat):Int)) rfl (aj (n:=28) rfl) (by omega)) bk) (Nat.zero_le _)
  ·refine bO (N:=3) (ρx:=frs (gr R v M)++(([.rowW R.length (bc R),.val (.int .i64 ((M:Nat):Int))]:List Vp)++(([.val (.int .i64 ((R.length:Nat):Int))]:List Vp)++(([.val (.int .i64 (R.length:Int))]:List Vp))))) (cmX (by kernel_rfl)) (by kernel_rfl) (Nat.zero_le _) ?_
   exact bv (N:=2) (σ:=[]) (lo:=[]) (n:=300) (ah)
    (ae (cZ (n:=0) (t:=22) ⟨_,Tryz.underlying22⟩ rfl (l:=.ref 3) (fun _ _=>aD rfl az)) (ae (aA (t:=3) (aj (n:=2) rfl) (aj (n:=3) rfl) (aU (by omega))) (ai)))
    (by kernel_rfl) (obs:=[]) (by kernel_rfl) aG (cmP (by kernel_rfl)) bk (Nat.zero_le _)
 refine(aH (ρ:=frs (gr R v M)++(([.rowW R.length (bc R),.val (.int .i64 ((M:Nat):Int))]:List Vp)++(([.val (.int .i64 (R.length:Int))]:List Vp)))) (w:=w) (fuel:=300) (args:=[.one (.ref 0),.one (.ref 1)]) (vs:=[v,.int .i64 ((M:Nat):Int)]) (r:=.v (.one (.b false))) (lo:=[some (lZ,.ext 0,l7)]) (obs:=[⟨cO Tryz.f8 0,lZ,.ext 0,l7⟩])
  (ah)
  (ae (cZ (n:=0) (t:=22) ⟨_,Tryz.underlying22⟩ rfl (l:=.ref 2) (fun _ _=>aD rfl az)) (ae (aA (t:=3) (aj (n:=2) rfl) (aj (n:=1) rfl) (dU (by omega))) (ai))) (by kernel_rfl) Tryz.func8 (by kernel_rfl) (en hL0 aG) ⟨bJ (m:=0) rfl hR,⟨aD (n:=1) rfl az,trivial⟩⟩).mono ?_
 rintro e w' ⟨v,rfl,h1,h2⟩
 have e1:v= .bool false:=h1
 subst e1
 exact⟨rfl,h2⟩
def cR (R:List RSt) (M:Nat):Prop:=R.length≤M∧∀x∈R,x.two
open Classical in
theorem q_fits {w:World} (R:List RSt) (v:Value) (M:Nat) (hR:(Vp.rowW R.length (bc R)).p w v) (hM:M≤1000):Calls Tryz.prog 8 #[v,.int .i64 ((M:Nat):Int)] w fun e w'=>e= .returned (.bool (decide (cR R M)))∧Below w.heap.size w w':=by
 have first:∀n,(∀(i:Nat) (y:RSt),i<n→R[i]? =some y→y.tw=true)∨∃j x,j<n∧R[j]? =some x∧(∀(i:Nat) (y:RSt),i<j→R[i]? =some y→y.tw=true)∧x.tw=false:=by
  intro n
  induction n with
  | zero=>exact .inl (fun i y h=>by omega)
  | succ n ih=>
   rcases ih with h | ⟨j,x,h1,h2⟩
   ·by_cases hb:∃x,R[n]? =some x∧x.tw=false
    ·obtain⟨x,hx,hb⟩:=hb
     exact .inr ⟨n,x,by omega,hx,h,hb⟩
    ·refine .inl (fun i y hi hy=> ?_)
     by_cases e:i=n
     ·subst e
      cases ht:y.tw with
      | true=>rfl
      | false=>exact absurd ⟨y,hy,ht⟩ hb
     ·exact h i y (by omega) hy
   ·exact .inr ⟨j,x,by omega,h2⟩
 rcases first (M+1)with h | ⟨j,x,hj,hx,ht,hb⟩
 ·by_cases hl:R.length≤M
  ·have ht:∀x∈R,x.tw=true:=fun x hx=>by
    obtain⟨i,hi,rfl⟩:=List.getElem_of_mem hx
    exact h i _ (by omega) (List.getElem?_eq_getElem hi)
   rw[show decide (cR R M)=true from decide_eq_true ⟨hl,fun x hx=>RSt.tw_iff.1 (ht x hx)⟩]
   exact q_fitsT R v M hR hM ht hl
  ·rw[show decide (cR R M)=false from decide_eq_false (fun hf=>hl hf.1)]
   by_cases he:R.length=M+1
   ·exact q_fitsH R v M hR hM h he
   ·exact q_fitsG R v M hR hM h (by omega)
 ·rw[show decide (cR R M)=false from decide_eq_false (fun hf=>by
   have:=RSt.tw_iff.2 (hf.2 x (List.mem_of_getElem? hx))
   rw[hb]at this;cases this)]
  exact q_fitsF R v M hR hM j x hx (by omega) ht hb
end Go.Proofs.YtfhinmdhjlmikaaGreat
namespace Go.Proofs.YtfhinmdhjlmikaaGreat
set_option linter.unusedSimpArgs false
set_option linter.unusedVariables false
set_option maxRecDepth 100000
open Go.RowKit
theorem Pq.good.btw {a b:Pq} {m:Fq} (ga:a.good) (gb:b.good) (gm:m.valid=true):(Pq.mk (a.rot.way (a.rot.inv.mul b.rot) m) (a.pos.lerp b.pos m)).good:=Pq.good.mk (zZ ga.rot (iG (cB ga.rot) gb.rot).comp gm) (ga.pos.lerp gb.pos gm)
theorem uZ {S:List St} {a:Int} {z y:St} {c:Int} (hS:GoodS S) (h:Road S a z y c) (h0:c=0):GoodT z∧GoodT y∧z.tm≤a∧a≤y.tm∧(z.tm=y.tm→z=y):=by
 cases h with
 | E _=>omega
 | O1 _ _ _ _=>omega
 | O2 _ _ _ _ _ _ _=>omega
 | Q f hf hb l hl hn ha y hy ey hp eq1=>exact⟨hS.at hy,hS.at hy,by omega,by omega,fun _=>rfl⟩
 | M f hf hb l hl hn ha y hy ey hp h1 eq1 z hz=>
  obtain⟨z',h2,h3⟩:=di (S:=S) (a:=a) (k:=plN S a - 1) (by omega)
  rw[hz]at h2;injection h2 with h2;subst h2
  exact⟨hS.at hz,hS.at hy,by omega,by omega,by omega⟩
theorem fZ {S:List St} {a:Int} {z y:St} (hS:GoodS S) (h:Road S a z y 0):(atP z y 0 a).good∧(atP z y 0 a).ok 1000000:=by
 obtain⟨gz,gy,h1,h2,_⟩:=uZ hS h rfl
 unfold atP
 rw[if_neg (by omega)]
 split
 ·exact⟨gy.good,gy.ok.mono (by decide)⟩
 ·have zl:=gz.lo;have yh:=gy.hi
  have v:=fR (v:=a - z.tm) (u:=y.tm - z.tm) (by omega)
  have k:=eC (v:=a - z.tm) (u:=y.tm - z.tm) (by omega) (by omega) (by omega) (by omega) (by omega)
  exact⟨Pq.good.btw gz.good gy.good v,⟨(nX gz.ok.rot gy.ok.rot k gz.good.rot gy.good.rot v).mono (by decide),(gz.ok.pos.lerp gy.ok.pos k).mono (by decide)⟩⟩
section
variable {xs:List Fq} {ys:Rho} {n m m' u n0 n1:Nat} {k:Nat} {ks kr k0 k1:List Nat} {l la lc:Leaf} {S S':List St} {a c t:Int} {z y s:St} {r:SV}
theorem st_isC {ρ:Rho} {B:Blk} {w:World} {v:Value} {xs:List Fq} {ys:Rho} {ks:List Nat} {s:St} (ha:AtL xs ks s.pose.cs) (ht:s.tm=t):(SV.agg (.i .i64 t::bN ks)).holds (frs xs++ys) B w v↔dm w v s:=by
 constructor
 ·rintro⟨vs,rfl,h⟩
  match vs,h with
  | v0::vs,h=>
   have e:v0= .int .i64 t:=h.1
   subst e;subst ht
   exact⟨vs,rfl,(ec ha).1 h.2⟩
 ·rintro⟨cs,rfl,h⟩
  subst ht
  exact⟨.int .i64 s.tm::cs,rfl,rfl,(ec ha).2 h⟩
/-- Add of a stamp that is known. -/
theorem qT (hm:(frs xs++ys)[m]? =some (.row stT S.length (aF S))) (hm':(frs xs++ys)[m']? =some (.row stT S'.length (aF S'))) (ha:AtL xs ks s.pose.cs) (ht:s.tm=t) (he:fF S s=(S',c)) (hs:s.pose.ok 2) (gs:s.pose.good) (hS:GoodS S):
  (OIns.mk (.mut 14 ⟨[k],[(u,79,[.own k m])],[(u,79,[.own k m'])],none,[],[.one (.i .i64 c)]⟩) [.one (.ptr u 0),.agg (.i .i64 t::bN ks)] r).Ok Tryz.prog (frs xs++ys):=
 qI (args:=[.agg (.i .i64 t::bN ks)]) (aC Tryz.func14 rfl rfl) hm hm' (fun B w g sl vs _ ht' hv=>by
  match vs,hv with
  | [v],hv=>
   refine(q_Add S s v ht' ((st_isC (ρ:=ys) ha ht).1 hv.1) hs gs hS).mono ?_
   rw[he]
   rintro e w' ⟨rfl,h3⟩
   exact⟨_,rfl,fun B'=>rfl,h3⟩)
theorem eF (tl:lT (frs xs++ys) u 79 l S) (ka:KI (frs xs++ys) la .i64 a) (hS:GoodS S) (hr:Road S a z y c) (ar:AtL xs kr (atP z y c a).cs) (hlc:∀B w,lc.holds (frs xs++ys) B w (.int .i64 c)):
  (OIns.mk (.mut 12 ⟨[],[(u,79,[l])],[],none,[],[row kr,.one lc]⟩) [.one (.ptr u 0),.one la] r).Ok Tryz.prog (frs xs++ys):=
 dt (args:=[.one la]) (aC Tryz.func12 rfl rfl) tl (fun B w g sl vs _ ht hv=>by
  match vs,hv with
  | [v],hv=>
   have e:=ka _ _ _ hv.1
   subst e
   refine(q_AtS ht hS hr).mono ?_
   rintro e w' ⟨v0,rfl,h1,h2⟩
   exact⟨_,rfl,fun B' _=>⟨[v0,.int .i64 c],rfl,(ag ar).2 h1,hlc _ _,trivial⟩,h2⟩)
theorem eh (tl:lT (frs xs++ys) u 79 l S) (ka:KI (frs xs++ys) la .i64 a) (hS:GoodS S) (hr:Road S a z y c) (a0:(frs xs++ys)[n0]? =some (.val (.int .i64 z.tm))) (b0:AtL xs k0 z.pose.cs) (a1:(frs xs++ys)[n1]? =some (.val (.int .i64 y.tm))) (b1:AtL xs k1 y.pose.cs) (hlc:∀B w,lc.holds (frs xs++ys) B w (.int .i64 c)):
  (OIns.mk (.mut 13 ⟨[],[(u,79,[l])],[],none,[],[.agg (.ref n0::bN k0),.agg (.ref n1::bN k1),.one lc]⟩) [.one (.ptr u 0),.one la] r).Ok Tryz.prog (frs xs++ys):=
 dt (args:=[.one la]) (aC Tryz.func13 rfl rfl) tl (fun B w g sl vs _ ht hv=>by
  match vs,hv with
  | [v],hv=>
   have e:=ka _ _ _ hv.1
   subst e
   refine(yp ht hS hr).mono ?_
   rintro e w' ⟨v0,v1,rfl,h1,h1',h2⟩
   exact⟨_,rfl,fun B' _=>⟨[v0,v1,.int .i64 c],rfl,(cc a0 b0).2 h1,(cc a1 b1).2 h1',hlc _ _,trivial⟩,h2⟩)
end
end Go.Proofs.YtfhinmdhjlmikaaGreat
namespace Go.Proofs.YtfhinmdhjlmikaaGreat
set_option linter.unusedSimpArgs false
set_option linter.unusedVariables false
set_option maxRecDepth 100000
open Go.RowKit
def cX (a b c:Int):Pq:=⟨⟨Fq.ofInt a,Fq.ofInt 0,Fq.ofInt 0,Fq.ofInt b⟩,Vq.of c 0 0⟩
def tu1:St:=⟨10,cX 1 0 0⟩
def tu2:St:=⟨20,cX 0 1 0⟩
def tu3:St:=⟨20,cX 1 1 4⟩
def tu4:St:=⟨20,cX 1 0 4⟩
theorem kV {a b c:Int} (la: -9223372036854775808≤a) (ra:a<9223372036854775808) (lb: -9223372036854775808≤b) (rb:b<9223372036854775808) (lc: -9223372036854775808≤c) (rc:c<9223372036854775808):(cX a b c).ok 2:=
 ⟨⟨bB la ra,bB (by decide) (by decide),bB (by decide) (by decide),bB lb rb⟩,uc lc rc (by decide) (by decide) (by decide) (by decide)⟩
theorem abb:tu1.pose.ok 2:=kV (by decide) (by decide) (by decide) (by decide) (by decide) (by decide)
theorem tu2_ok:tu2.pose.ok 2:=kV (by decide) (by decide) (by decide) (by decide) (by decide) (by decide)
theorem abc:tu3.pose.ok 2:=kV (by decide) (by decide) (by decide) (by decide) (by decide) (by decide)
theorem tu4_ok:tu4.pose.ok 2:=kV (by decide) (by decide) (by decide) (by decide) (by decide) (by decide)
theorem gT {a b c:Int} (h:(cX a b c).rot.first=Fq.ofInt 1):(cX a b c).good:=⟨qG ⟨aN _,aN _,aN _,aN _⟩ h,Vq.good.of _ _ _⟩
theorem sM:tu1.pose.good:=gT (by rfl)
theorem abd:tu2.pose.good:=gT (by rfl)
theorem sN:tu3.pose.good:=gT (by rfl)
theorem abe:tu4.pose.good:=gT (by rfl)
theorem add1:fF [] tu1=([tu1],0):=by
 unfold fF
 rw[if_neg (by simp[tu1]),if_neg (fun⟨y,hy,_⟩=>by simp[plN]at hy),if_neg (fun⟨y,hy,_⟩=>by simp[plN]at hy),if_neg (fun h=>by
  rcases h with⟨z,h,_⟩ | ⟨y,hy,_⟩
  ·simp[plN]at h
  ·simp[plN]at hy),if_pos (by simp)]
 rfl
theorem pl1:plN [tu1] 20=1:=by simp[plN,tu1]
theorem pl3:plN [tu1,tu3] 20=1:=by simp[plN,tu1,tu3]
theorem add2:fF [tu1] tu2=([tu1],21):=by
 unfold fF
 rw[if_neg (by simp[tu2]),show plN [tu1] tu2.tm=1 from pl1,if_neg (fun⟨y,hy,_⟩=>by simp at hy),if_neg (fun⟨y,hy,_⟩=>by simp at hy),if_pos (.inl ⟨tu1,by omega,rfl,by show((cX 1 0 0).rot.inv.mul (cX 0 1 0).rot).w.p=0;decide⟩)]
theorem add3:fF [tu1] tu3=([tu1,tu3],0):=by
 unfold fF
 rw[if_neg (by simp[tu3]),show plN [tu1] tu3.tm=1 from pl1,if_neg (fun⟨y,hy,_⟩=>by simp at hy),if_neg (fun⟨y,hy,_⟩=>by simp at hy),if_neg (fun h=>by
  rcases h with⟨z,_,hz,ho⟩ | ⟨y,hy,_⟩
  ·simp at hz;subst hz
   exact absurd ho (by show¬((cX 1 0 0).rot.inv.mul (cX 1 1 4).rot).w.p=0;decide)
  ·simp at hy),if_pos (by simp)]
 rfl
theorem add4:fF [tu1,tu3] tu4=([tu1,tu3],7):=by
 unfold fF
 rw[if_neg (by simp[tu4]),show plN [tu1,tu3] tu4.tm=1 from pl3,if_neg (fun⟨y,hy,_,e⟩=>by
  simp at hy;subst hy
  exact absurd (congrArg (fun p:Pq=>p.rot.z.p) e) (by show¬(cX 1 1 4).rot.z.p=(cX 1 0 4).rot.z.p;decide)),if_pos ⟨tu3,rfl,rfl⟩]
theorem gS0:GoodS []:=GoodS.nil
theorem gS1:GoodS [tu1]:=by have:=jo GoodS.nil abb sM;rw[add1]at this;exact this
theorem gS3:GoodS [tu1,tu3]:=by have:=jo gS1 abc sN;rw[add3]at this;exact this
theorem qU:Road [tu1,tu3] 15 tu1 tu3 0:=.M tu1 rfl (by decide) tu3 rfl (by decide) (by decide) tu3 rfl (by decide) (by decide) (by decide) (by decide) tu1 rfl
theorem road21:Road [tu1,tu3] 21 zst zst 17:=.O2 tu1 rfl (by decide) tu3 rfl (by decide) (by decide)
theorem aw_half:(atP tu1 tu3 0 15).rot.z=Fq.ratio 1 2:=by
 unfold atP
 rw[if_neg (by decide),if_neg (by decide)]
 rfl
theorem aw_pos:(atP tu1 tu3 0 15).pos=Vq.of 2 0 0:=by
 unfold atP
 rw[if_neg (by decide),if_neg (by decide)]
 rfl
def oE:List Fq:=[(Fq.ofInt 0)]
theorem vd (w:World):
  Calls Tryz.prog 39 #[.int .i64 (0),.int .i64 (0),.int .i64 (0)] w fun e w'=>eI w (Vq.of 0 0 0) e w':=by
 refine(cRn (ρ:=frs (oE)++([]:List Vp)) (args:=[.one (.i .i64 0),.one (.i .i64 0),.one (.i .i64 0)]) (vs:=[.int .i64 (0),.int .i64 (0),.int .i64 (0)]) (r:=.v (row [0,0,0]))
  (af (dQ (k:=0) rfl (by decide) (by decide)) ah)
  ai Tryz.func39 (by kernel_rfl) ⟨rfl,⟨rfl,⟨rfl,trivial⟩⟩⟩).mono ?_
 rintro e w' ⟨v,rfl,h1,h2⟩
 exact⟨v,rfl,(ag (xs:=oE) (ks:=[0,0,0]) (vs:=[(Fq.ofInt 0),(Fq.ofInt 0),(Fq.ofInt 0)]) ⟨rfl,rfl,rfl,trivial⟩).1 h1,h2⟩
theorem oF {xs:List Fq} {ys:Rho} {kr:List Nat} (ar:AtL xs kr [(Vq.of 0 0 0).x,(Vq.of 0 0 0).y,(Vq.of 0 0 0).z]):OkI xs ys ⟨39,[.one (.i .i64 0),.one (.i .i64 0),.one (.i .i64 0)],.v (row kr)⟩:=
 ⟨aC Tryz.func39 rfl rfl,fun B w vs hB h=>by
  match vs,h with
  | [vx,vy,vz],h=>
   have ex:vx= .int .i64 (0):=h.1
   subst ex
   have ey:vy= .int .i64 (0):=h.2.1
   subst ey
   have ez:vz= .int .i64 (0):=h.2.2.1
   subst ez
   refine(vd w).mono ?_
   rintro e w' ⟨v,rfl,h1,h2⟩
   exact⟨v,rfl,(ag ar).2 h1,h2⟩⟩
def oG:List Fq:=[(Fq.ofInt 4),(Fq.ofInt 0)]
theorem ve (w:World):
  Calls Tryz.prog 39 #[.int .i64 (4),.int .i64 (0),.int .i64 (0)] w fun e w'=>eI w (Vq.of 4 0 0) e w':=by
 refine(cRn (ρ:=frs (oG)++([]:List Vp)) (args:=[.one (.i .i64 4),.one (.i .i64 0),.one (.i .i64 0)]) (vs:=[.int .i64 (4),.int .i64 (0),.int .i64 (0)]) (r:=.v (row [0,1,1]))
  (af (dQ (k:=0) rfl (by decide) (by decide)) (af (dQ (k:=1) rfl (by decide) (by decide)) ah))
  ai Tryz.func39 (by kernel_rfl) ⟨rfl,⟨rfl,⟨rfl,trivial⟩⟩⟩).mono ?_
 rintro e w' ⟨v,rfl,h1,h2⟩
 exact⟨v,rfl,(ag (xs:=oG) (ks:=[0,1,1]) (vs:=[(Fq.ofInt 4),(Fq.ofInt 0),(Fq.ofInt 0)]) ⟨rfl,rfl,rfl,trivial⟩).1 h1,h2⟩
theorem oH {xs:List Fq} {ys:Rho} {kr:List Nat} (ar:AtL xs kr [(Vq.of 4 0 0).x,(Vq.of 4 0 0).y,(Vq.of 4 0 0).z]):OkI xs ys ⟨39,[.one (.i .i64 4),.one (.i .i64 0),.one (.i .i64 0)],.v (row kr)⟩:=
 ⟨aC Tryz.func39 rfl rfl,fun B w vs hB h=>by
  match vs,h with
  | [vx,vy,vz],h=>
   have ex:vx= .int .i64 (4):=h.1
   subst ex
   have ey:vy= .int .i64 (0):=h.2.1
   subst ey
   have ez:vz= .int .i64 (0):=h.2.2.1
   subst ez
   refine(ve w).mono ?_
   rintro e w' ⟨v,rfl,h1,h2⟩
   exact⟨v,rfl,(ag ar).2 h1,h2⟩⟩
def oI:List Fq:=[(Fq.ofInt 2),(Fq.ofInt 0)]
theorem vg (w:World):
  Calls Tryz.prog 39 #[.int .i64 (2),.int .i64 (0),.int .i64 (0)] w fun e w'=>eI w (Vq.of 2 0 0) e w':=by
 refine(cRn (ρ:=frs (oI)++([]:List Vp)) (args:=[.one (.i .i64 2),.one (.i .i64 0),.one (.i .i64 0)]) (vs:=[.int .i64 (2),.int .i64 (0),.int .i64 (0)]) (r:=.v (row [0,1,1]))
  (af (dQ (k:=0) rfl (by decide) (by decide)) (af (dQ (k:=1) rfl (by decide) (by decide)) ah))
  ai Tryz.func39 (by kernel_rfl) ⟨rfl,⟨rfl,⟨rfl,trivial⟩⟩⟩).mono ?_
 rintro e w' ⟨v,rfl,h1,h2⟩
 exact⟨v,rfl,(ag (xs:=oI) (ks:=[0,1,1]) (vs:=[(Fq.ofInt 2),(Fq.ofInt 0),(Fq.ofInt 0)]) ⟨rfl,rfl,rfl,trivial⟩).1 h1,h2⟩
theorem vh {xs:List Fq} {ys:Rho} {kr:List Nat} (ar:AtL xs kr [(Vq.of 2 0 0).x,(Vq.of 2 0 0).y,(Vq.of 2 0 0).z]):OkI xs ys ⟨39,[.one (.i .i64 2),.one (.i .i64 0),.one (.i .i64 0)],.v (row kr)⟩:=
 ⟨aC Tryz.func39 rfl rfl,fun B w vs hB h=>by
  match vs,h with
  | [vx,vy,vz],h=>
   have ex:vx= .int .i64 (2):=h.1
   subst ex
   have ey:vy= .int .i64 (0):=h.2.1
   subst ey
   have ez:vz= .int .i64 (0):=h.2.2.1
   subst ez
   refine(vg w).mono ?_
   rintro e w' ⟨v,rfl,h1,h2⟩
   exact⟨v,rfl,(ag ar).2 h1,h2⟩⟩
def wD:List Fq:=[(Fq.ofInt 1),(Fq.ofInt 0),(Vq.of 0 0 0).x,(Vq.of 0 0 0).y,(Vq.of 0 0 0).z]
theorem q_tu100 (w:World):
  Calls Tryz.prog 36 #[.int .i64 (1),.int .i64 (0),.int .i64 (0)] w fun e w'=>si w (cX 1 0 0) e w':=by
 refine(cRn (ρ:=frs (wD)++([]:List Vp)) (args:=[.one (.i .i64 1),.one (.i .i64 0),.one (.i .i64 0)]) (vs:=[.int .i64 (1),.int .i64 (0),.int .i64 (0)]) (r:=.v (row [0,1,1,1,2,3,4]))
  (af (dQ (k:=0) rfl (by decide) (by decide)) (af (dQ (k:=1) rfl (by decide) (by decide)) (af (oF (kr:=[2,3,4]) ⟨rfl,rfl,rfl,trivial⟩) ah)))
  ai Tryz.func36 (by kernel_rfl) ⟨rfl,⟨rfl,⟨rfl,trivial⟩⟩⟩).mono ?_
 rintro e w' ⟨v,rfl,h1,h2⟩
 exact⟨v,rfl,(ag (xs:=wD) (ks:=[0,1,1,1,2,3,4]) (vs:=[(Fq.ofInt 1),(Fq.ofInt 0),(Fq.ofInt 0),(Fq.ofInt 0),(Vq.of 0 0 0).x,(Vq.of 0 0 0).y,(Vq.of 0 0 0).z]) ⟨rfl,rfl,rfl,rfl,rfl,rfl,rfl,trivial⟩).1 h1,h2⟩
theorem I_tu100 {xs:List Fq} {ys:Rho} {kr:List Nat} (ar:AtL xs kr (cX 1 0 0).cs):OkI xs ys ⟨36,[.one (.i .i64 1),.one (.i .i64 0),.one (.i .i64 0)],.v (row kr)⟩:=
 ⟨aC Tryz.func36 rfl rfl,fun B w vs hB h=>by
  match vs,h with
  | [vx,vy,vz],h=>
   have ex:vx= .int .i64 (1):=h.1
   subst ex
   have ey:vy= .int .i64 (0):=h.2.1
   subst ey
   have ez:vz= .int .i64 (0):=h.2.2.1
   subst ez
   refine(q_tu100 w).mono ?_
   rintro e w' ⟨v,rfl,h1,h2⟩
   exact⟨v,rfl,(ag ar).2 h1,h2⟩⟩
def wE:List Fq:=[(Fq.ofInt 0),(Fq.ofInt 1),(Vq.of 0 0 0).x,(Vq.of 0 0 0).y,(Vq.of 0 0 0).z]
theorem q_tu010 (w:World):
  Calls Tryz.prog 36 #[.int .i64 (0),.int .i64 (1),.int .i64 (0)] w fun e w'=>si w (cX 0 1 0) e w':=by
 refine(cRn (ρ:=frs (wE)++([]:List Vp)) (args:=[.one (.i .i64 0),.one (.i .i64 1),.one (.i .i64 0)]) (vs:=[.int .i64 (0),.int .i64 (1),.int .i64 (0)]) (r:=.v (row [0,0,0,1,2,3,4]))
  (af (dQ (k:=0) rfl (by decide) (by decide)) (af (dQ (k:=1) rfl (by decide) (by decide)) (af (oF (kr:=[2,3,4]) ⟨rfl,rfl,rfl,trivial⟩) ah)))
  ai Tryz.func36 (by kernel_rfl) ⟨rfl,⟨rfl,⟨rfl,trivial⟩⟩⟩).mono ?_
 rintro e w' ⟨v,rfl,h1,h2⟩
 exact⟨v,rfl,(ag (xs:=wE) (ks:=[0,0,0,1,2,3,4]) (vs:=[(Fq.ofInt 0),(Fq.ofInt 0),(Fq.ofInt 0),(Fq.ofInt 1),(Vq.of 0 0 0).x,(Vq.of 0 0 0).y,(Vq.of 0 0 0).z]) ⟨rfl,rfl,rfl,rfl,rfl,rfl,rfl,trivial⟩).1 h1,h2⟩
theorem I_tu010 {xs:List Fq} {ys:Rho} {kr:List Nat} (ar:AtL xs kr (cX 0 1 0).cs):OkI xs ys ⟨36,[.one (.i .i64 0),.one (.i .i64 1),.one (.i .i64 0)],.v (row kr)⟩:=
 ⟨aC Tryz.func36 rfl rfl,fun B w vs hB h=>by
  match vs,h with
  | [vx,vy,vz],h=>
   have ex:vx= .int .i64 (0):=h.1
   subst ex
   have ey:vy= .int .i64 (1):=h.2.1
   subst ey
   have ez:vz= .int .i64 (0):=h.2.2.1
   subst ez
   refine(q_tu010 w).mono ?_
   rintro e w' ⟨v,rfl,h1,h2⟩
   exact⟨v,rfl,(ag ar).2 h1,h2⟩⟩
def wF:List Fq:=[(Fq.ofInt 1),(Fq.ofInt 0),(Vq.of 4 0 0).x,(Vq.of 4 0 0).y,(Vq.of 4 0 0).z]
theorem q_tu114 (w:World):
  Calls Tryz.prog 36 #[.int .i64 (1),.int .i64 (1),.int .i64 (4)] w fun e w'=>si w (cX 1 1 4) e w':=by
 refine(cRn (ρ:=frs (wF)++([]:List Vp)) (args:=[.one (.i .i64 1),.one (.i .i64 1),.one (.i .i64 4)]) (vs:=[.int .i64 (1),.int .i64 (1),.int .i64 (4)]) (r:=.v (row [0,1,1,0,2,3,4]))
  (af (dQ (k:=0) rfl (by decide) (by decide)) (af (dQ (k:=1) rfl (by decide) (by decide)) (af (oH (kr:=[2,3,4]) ⟨rfl,rfl,rfl,trivial⟩) ah)))
  ai Tryz.func36 (by kernel_rfl) ⟨rfl,⟨rfl,⟨rfl,trivial⟩⟩⟩).mono ?_
 rintro e w' ⟨v,rfl,h1,h2⟩
 exact⟨v,rfl,(ag (xs:=wF) (ks:=[0,1,1,0,2,3,4]) (vs:=[(Fq.ofInt 1),(Fq.ofInt 0),(Fq.ofInt 0),(Fq.ofInt 1),(Vq.of 4 0 0).x,(Vq.of 4 0 0).y,(Vq.of 4 0 0).z]) ⟨rfl,rfl,rfl,rfl,rfl,rfl,rfl,trivial⟩).1 h1,h2⟩
theorem I_tu114 {xs:List Fq} {ys:Rho} {kr:List Nat} (ar:AtL xs kr (cX 1 1 4).cs):OkI xs ys ⟨36,[.one (.i .i64 1),.one (.i .i64 1),.one (.i .i64 4)],.v (row kr)⟩:=
 ⟨aC Tryz.func36 rfl rfl,fun B w vs hB h=>by
  match vs,h with
  | [vx,vy,vz],h=>
   have ex:vx= .int .i64 (1):=h.1
   subst ex
   have ey:vy= .int .i64 (1):=h.2.1
   subst ey
   have ez:vz= .int .i64 (4):=h.2.2.1
   subst ez
   refine(q_tu114 w).mono ?_
   rintro e w' ⟨v,rfl,h1,h2⟩
   exact⟨v,rfl,(ag ar).2 h1,h2⟩⟩
def wG:List Fq:=[(Fq.ofInt 1),(Fq.ofInt 0),(Vq.of 4 0 0).x,(Vq.of 4 0 0).y,(Vq.of 4 0 0).z]
theorem q_tu104 (w:World):
  Calls Tryz.prog 36 #[.int .i64 (1),.int .i64 (0),.int .i64 (4)] w fun e w'=>si w (cX 1 0 4) e w':=by
 refine(cRn (ρ:=frs (wG)++([]:List Vp)) (args:=[.one (.i .i64 1),.one (.i .i64 0),.one (.i .i64 4)]) (vs:=[.int .i64 (1),.int .i64 (0),.int .i64 (4)]) (r:=.v (row [0,1,1,1,2,3,4]))
  (af (dQ (k:=0) rfl (by decide) (by decide)) (af (dQ (k:=1) rfl (by decide) (by decide)) (af (oH (kr:=[2,3,4]) ⟨rfl,rfl,rfl,trivial⟩) ah)))
  ai Tryz.func36 (by kernel_rfl) ⟨rfl,⟨rfl,⟨rfl,trivial⟩⟩⟩).mono ?_
 rintro e w' ⟨v,rfl,h1,h2⟩
 exact⟨v,rfl,(ag (xs:=wG) (ks:=[0,1,1,1,2,3,4]) (vs:=[(Fq.ofInt 1),(Fq.ofInt 0),(Fq.ofInt 0),(Fq.ofInt 0),(Vq.of 4 0 0).x,(Vq.of 4 0 0).y,(Vq.of 4 0 0).z]) ⟨rfl,rfl,rfl,rfl,rfl,rfl,rfl,trivial⟩).1 h1,h2⟩
theorem I_tu104 {xs:List Fq} {ys:Rho} {kr:List Nat} (ar:AtL xs kr (cX 1 0 4).cs):OkI xs ys ⟨36,[.one (.i .i64 1),.one (.i .i64 0),.one (.i .i64 4)],.v (row kr)⟩:=
 ⟨aC Tryz.func36 rfl rfl,fun B w vs hB h=>by
  match vs,h with
  | [vx,vy,vz],h=>
   have ex:vx= .int .i64 (1):=h.1
   subst ex
   have ey:vy= .int .i64 (0):=h.2.1
   subst ey
   have ez:vz= .int .i64 (4):=h.2.2.1
   subst ez
   refine(q_tu104 w).mono ?_
   rintro e w' ⟨v,rfl,h1,h2⟩
   exact⟨v,rfl,(ag ar).2 h1,h2⟩⟩
noncomputable def vi:List Fq:=((cX 1 0 0).cs++((cX 0 1 0).cs++((cX 1 1 4).cs++((cX 1 0 4).cs++((atP tu1 tu3 0 15).cs++((atP zst zst 17 21).cs++([(Fq.ratio 1 2),(Vq.of 2 0 0).x,(Vq.of 2 0 0).y,(Vq.of 2 0 0).z])))))))
theorem abf {w:World}:
  Calls Tryz.prog 10 #[] w fun e w'=>e= .returned (.bool true)∧Below w.heap.size w w':=by
 refine(aH (ρ:=frs (vi)++([.row stT ([]:List St).length (aF ([]:List St)),.row stT ([tu1]).length (aF ([tu1])),.row stT ([tu1,tu3]).length (aF ([tu1,tu3]))]:List Vp)) (w:=w) (fuel:=300) (args:=[]) (vs:=[]) (r:=.v (.one (.b true))) (lo:=[]) (obs:=[])
  (af (I_tu100 (kr:=[0,1,2,3,4,5,6]) ⟨rfl,rfl,rfl,rfl,rfl,rfl,rfl,trivial⟩) (af (I_tu010 (kr:=[7,8,9,10,11,12,13]) ⟨rfl,rfl,rfl,rfl,rfl,rfl,rfl,trivial⟩) (af (I_tu114 (kr:=[14,15,16,17,18,19,20]) ⟨rfl,rfl,rfl,rfl,rfl,rfl,rfl,trivial⟩) (af (I_tu104 (kr:=[21,22,23,24,25,26,27]) ⟨rfl,rfl,rfl,rfl,rfl,rfl,rfl,trivial⟩) (af (I_tHalf (ir:=42) rfl) (af (eO (i:=31) (j:=42) (l:=.b true) rfl rfl (lb (Fq.same_iff.2 aw_half)) ((fZ gS3 qU).2.rot.z.mono (by decide)).p ((fZ gS3 qU).2.rot.z.mono (by decide)).q ((eC (v:=1) (u:=2) (by decide) (by decide) (by decide) (by decide) (by decide)).mono (by decide)).p ((eC (v:=1) (u:=2) (by decide) (by decide) (by decide) (by decide) (by decide)).mono (by decide)).q) (af (vh (kr:=[43,44,45]) ⟨rfl,rfl,rfl,trivial⟩) (af (jS (ka:=[32,33,34]) (a:=(atP tu1 tu3 0 15).pos) (kb:=[43,44,45]) (b:=(Vq.of 2 0 0)) ⟨rfl,rfl,rfl,trivial⟩ ⟨rfl,rfl,rfl,trivial⟩ ((fZ gS3 qU).2.pos.mono (by decide)) ((uc (by decide) (by decide) (by decide) (by decide) (by decide) (by decide)).mono (by decide)) aw_pos) ah))))))))
  (ae (uU (u:=0) (k:=0) (m:=138) (r:=.one .sl0) rfl) (ae (ba (y:=0) (o:=0) (t:=39) ⟨_,Tryz.underlying39⟩) (ae (qT (u:=0) (k:=0) (m:=138) (m':=139) (ks:=[0,1,2,3,4,5,6]) (S:=([]:List St)) (S':=[tu1]) (s:=tu1) (t:=10) (c:=0) (r:=.one .sl0) rfl rfl ⟨rfl,rfl,rfl,rfl,rfl,rfl,rfl,trivial⟩ rfl add1 abb sM gS0) (ae (qT (u:=0) (k:=0) (m:=139) (m':=139) (ks:=[7,8,9,10,11,12,13]) (S:=([tu1])) (S':=[tu1]) (s:=tu2) (t:=20) (c:=21) (r:=.one .sl0) rfl rfl ⟨rfl,rfl,rfl,rfl,rfl,rfl,rfl,trivial⟩ rfl add2 tu2_ok abd gS1) (ae (qT (u:=0) (k:=0) (m:=139) (m':=140) (ks:=[14,15,16,17,18,19,20]) (S:=([tu1])) (S':=[tu1,tu3]) (s:=tu3) (t:=20) (c:=0) (r:=.one .sl0) rfl rfl ⟨rfl,rfl,rfl,rfl,rfl,rfl,rfl,trivial⟩ rfl add3 abc sN gS1) (ae (qT (u:=0) (k:=0) (m:=140) (m':=140) (ks:=[21,22,23,24,25,26,27]) (S:=([tu1,tu3])) (S':=[tu1,tu3]) (s:=tu4) (t:=20) (c:=7) (r:=.one .sl0) rfl rfl ⟨rfl,rfl,rfl,rfl,rfl,rfl,rfl,trivial⟩ rfl add4 tu4_ok abe gS3) (ae (eF (u:=0) (l:=.own 0 140) (z:=tu1) (y:=tu3) (c:=0) (a:=15) (lc:=.i .i64 0) (kr:=[28,29,30,31,32,33,34]) (r:=.one .sl0) (dp (m:=140) rfl) (bf (aJ (c:=15)) (by omega)) gS3 qU ⟨rfl,rfl,rfl,rfl,rfl,rfl,rfl,trivial⟩ (fun _ _=>rfl)) (ae (eF (u:=0) (l:=.own 0 140) (z:=zst) (y:=zst) (c:=17) (a:=21) (lc:=.i .i64 17) (kr:=[35,36,37,38,39,40,41]) (r:=.one .sl0) (dp (m:=140) rfl) (bf (aJ (c:=21)) (by omega)) gS3 road21 ⟨rfl,rfl,rfl,rfl,rfl,rfl,rfl,trivial⟩ (fun _ _=>rfl)) (ai))))))))) (by kernel_rfl) Tryz.func10 (by kernel_rfl) aG trivial).mono ?_
 rintro e w' ⟨v,rfl,h2,h3⟩
 have e1:v= .bool true:=h2
 subst e1
 exact⟨rfl,h3⟩
theorem bQ {ρ:Rho}:Inst.Ok Tryz.prog ρ ⟨10,[],.v (.one (.b true))⟩:=
 ⟨aC Tryz.func10 rfl rfl,fun B w vs hB h=>by
  match vs,h with
  | [],_=>
   refine abf.mono ?_
   rintro e w' ⟨rfl,h2⟩
   exact⟨_,rfl,rfl,h2⟩⟩
end Go.Proofs.YtfhinmdhjlmikaaGreat
namespace Go.Proofs.YtfhinmdhjlmikaaGreat
set_option linter.unusedSimpArgs false
set_option linter.unusedVariables false
set_option maxRecDepth 100000
open Go.RowKit
section
variable {ρ:Rho} {n m m' k r j u:Nat} {T:TypeId} {B:Blk} {w:World} {S S':List St} {f:FuncId} {args xs:List SV} {l:Leaf}
end
/-- The times of the first and of the last stamp. -/
def cg (S:List St):Int×Int×Bool:=match S[0]?,S[S.length - 1]? with
 | some f,some l=>(f.tm,l.tm,true)
 | _,_=>(0,0,false)
theorem q_SpanS {S:List St} {w:World} {g:Nat} {sl:Value} (h:TrkS 79 w g sl S) (hS:GoodS S):Calls Tryz.prog 20 (.pointer (some ⟨g,0,none⟩)::[]).toArray w fun e w'=>e= .returned (.tuple #[.int .i64 (cg S).1,.int .i64 (cg S).2.1,.bool (cg S).2.2])∧Below w.heap.size w w':=by
 by_cases h0:S.length=0
 ·have e:S=[]:=List.eq_nil_of_length_eq_zero h0
  subst e;exact q_Span0 [] h hS.len rfl
 ·obtain⟨f,hf⟩:∃f,S[0]? =some f:=⟨_,List.getElem?_eq_getElem (by omega)⟩
  obtain⟨l,hl⟩:∃f,S[S.length - 1]? =some f:=⟨_,List.getElem?_eq_getElem (by omega)⟩
  rw[show cg S=(f.tm,l.tm,true)by unfold cg;rw[hf,hl]]
  exact q_Span1 S h hS.len f hf l hl (by omega)
section
variable {ρ:Rho} {n m m' k j u c n' j' s1 s2:Nat} {S:List St} {R:List RSt} {r:SV} {l la lb:Leaf} {M:Nat} {b:Bool} {x:RSt} {a:Int}
theorem vj {s:Vp} {B:Blk} {w:World} {v:Value} (hn:ρ[n]? =some s) (h:(Leaf.ref n).holds ρ B w v):s.p w v:=by
 obtain⟨s',h1,h2,_⟩:=h
 rw[hn]at h1;injection h1 with h1;subst h1;exact h2
open Classical in
theorem cT (hn:ρ[n]? =some (.rowW R.length (bc R))) (hM:M≤1000) (hb:decide (cR R M)=b):Inst.Ok Tryz.prog ρ ⟨8,[.one (.ref n),.one (.i .i64 ((M:Nat):Int))],.v (.one (.b b))⟩:=
 ⟨aC Tryz.func8 rfl rfl,fun B w vs hB h=>by
  match vs,h with
  | [v,v'],h=>
   have e:v'= .int .i64 ((M:Nat):Int):=h.2.1
   subst e
   refine(q_fits R v M (vj hn h.1) hM).mono ?_
   rintro e w' ⟨rfl,h2⟩
   exact⟨_,rfl,by subst hb;rfl,h2⟩⟩
theorem eH (hn:ρ[n]? =some (.rowW R.length (bc R))) (hm:ρ[m]? =some (.row stT (aB R R.length).length (aF (aB R R.length)))) (h2:∀x∈R,x.two) (hl:R.length≤100000) (hA:cm R R.length):(OIns.mk (.mut 11 ⟨[k],[],[],some (u,79,[.own k m]),[],[.one (.ptr u 0),.one (.i .i64 0)]⟩) [.one (.ref n)] r).Ok Tryz.prog ρ:=
 wt (args:=[.one (.ref n)]) (aC Tryz.func11 rfl rfl) hm (fun B w vs _ hv=>by
  match vs,hv with
  | [v],hv=>
   refine(q_tOf0 R v (vj hn hv.1) h2 hl hA).mono ?_
   rintro e w' ⟨g,sl,rfl,h1,h2,h3,h4⟩
   exact⟨_,g,sl,rfl,fun B' hB=>⟨[_,_],rfl,⟨g,hB,rfl⟩,rfl,trivial⟩,h1,h2,h3,h4⟩)
theorem vl (hn:ρ[n]? =some (.rowW R.length (bc R))) (hc:ρ[c]? =some (.val (.int .i64 (bE (aB R j) x).2))) (h2:∀x∈R,x.two) (hl:R.length≤100000) (hx:R[j]? =some x) (hA:cm R j) (h0:(bE (aB R j) x).2≠0):Inst.Ok Tryz.prog ρ ⟨11,[.one (.ref n)],.tup [.one .nilp,.one (.ref c)]⟩:=
 ⟨aC Tryz.func11 rfl rfl,fun B w vs hB h=>by
  match vs,h with
  | [v],h=>
   refine(q_tOf1 R v j x (vj hn h.1) h2 hl hx hA h0).mono ?_
   rintro e w' ⟨rfl,h3⟩
   exact⟨_,rfl,⟨[_,_],rfl,rfl,aD hc az,trivial⟩,h3⟩⟩
theorem qW (tl:lT ρ u 79 l S) (hS:GoodS S) (hn:ρ[n]? =some (.val (.int .i64 (S.length:Int)))):(OIns.mk (.mut 25 ⟨[],[(u,79,[l])],[],none,[],[.one (.ref n)]⟩) [.one (.ptr u 0)] r).Ok Tryz.prog ρ:=
 dt (args:=[]) (aC Tryz.func25 rfl rfl) tl (fun B w g sl vs _ ht hv=>by
  match vs,hv with
  | [],hv=>
   refine(q_Len S ht hS.len).mono ?_
   rintro e w' ⟨rfl,h2⟩
   exact⟨_,rfl,fun B' _=>aD hn az,h2⟩)
theorem kX (tl:lT ρ u 79 l S) (hS:GoodS S) (h1:ρ[s1]? =some (.val (.int .i64 (cg S).1))) (h2:ρ[s2]? =some (.val (.int .i64 (cg S).2.1))) (hb:(cg S).2.2=b):(OIns.mk (.mut 20 ⟨[],[(u,79,[l])],[],none,[],[.one (.ref s1),.one (.ref s2),.one (.b b)]⟩) [.one (.ptr u 0)] r).Ok Tryz.prog ρ:=
 dt (args:=[]) (aC Tryz.func20 rfl rfl) tl (fun B w g sl vs _ ht hv=>by
  match vs,hv with
  | [],hv=>
   refine(q_SpanS ht hS).mono ?_
   rintro e w' ⟨rfl,h3⟩
   subst hb
   exact⟨_,rfl,fun B' _=>⟨[_,_,_],rfl,aD h1 az,aD h2 az,rfl,trivial⟩,h3⟩)
theorem wH (hm:ρ[m]? =some (.row stT S.length (aF S))) (hm':ρ[m']? =some (.row stT (S.drop (plN S (a+1) - 1)).length (aF (S.drop (plN S (a+1) - 1))))) (ka:KI ρ la .i64 a) (hS:GoodS S) (hc:ρ[c]? =some (.val (.int .i64 ((plN S (a+1) - 1:Nat):Int)))):
  (OIns.mk (.mut 26 ⟨[k],[(u,79,[.own k m])],[(u,79,[.own k m'])],none,[],[.one (.ref c)]⟩) [.one (.ptr u 0),.one la] r).Ok Tryz.prog ρ:=
 qI (args:=[.one la]) (aC Tryz.func26 rfl rfl) hm hm' (fun B w g sl vs _ ht hv=>by
  match vs,hv with
  | [v],hv=>
   have e:=ka _ _ _ hv.1
   subst e
   refine(q_DropS ht hS).mono ?_
   rintro e w' ⟨rfl,h3⟩
   exact⟨_,rfl,fun B'=>aD hc az,h3⟩)
end
end Go.Proofs.YtfhinmdhjlmikaaGreat
namespace Go.Proofs.YtfhinmdhjlmikaaGreat
set_option linter.unusedSimpArgs false
set_option linter.unusedVariables false
set_option maxRecDepth 100000
open Go.RowKit
section
variable {S S':List St} {i t a:Int} {z y:St}
theorem oJ {S:List St} {b:Int} {k:Nat} {x:St} (hS:GoodS S) (hx:S[k]? =some x) (h:¬x.tm<b):plN S b≤k:=by
 by_cases e:plN S b≤k
 ·exact e
 ·obtain⟨x',h1,h2⟩:=di (S:=S) (a:=b) (k:=k) (by omega)
  rw[hx]at h1;injection h1 with h1;subst h1;exact absurd h2 h
theorem pT {S:List St} {b:Int} {k:Nat} {x:St} (hS:GoodS S) (hx:S[k]? =some x) (h:x.tm<b):k<plN S b:=by
 by_cases e:k<plN S b
 ·exact e
 ·exact absurd h (kU hS.sort (by omega) hx)
theorem ends {S:List St} {k:Nat} {x:St} (hS:GoodS S) (hx:S[k]? =some x):∃f l,S[0]? =some f∧S[S.length - 1]? =some l∧f.tm≤x.tm∧x.tm≤l.tm∧k<S.length:=by
 have hk:=(List.getElem?_eq_some_iff.1 hx).1
 refine⟨_,_,List.getElem?_eq_getElem (by omega),List.getElem?_eq_getElem (by omega),?_,?_,hk⟩
 ·rcases Nat.eq_zero_or_pos k with e | e
  ·subst e;rw[List.getElem?_eq_getElem hk]at hx;injection hx with hx;rw[hx];omega
  ·have:=hS.sort 0 k _ _ e (List.getElem?_eq_getElem (by omega)) hx;omega
 ·rcases Nat.lt_or_ge k (S.length - 1)with e | e
  ·have:=hS.sort k (S.length - 1) _ _ e hx (List.getElem?_eq_getElem (by omega));omega
  ·have e:k=S.length - 1:=by omega
   subst e;rw[List.getElem?_eq_getElem hk]at hx;injection hx with hx;rw[hx];omega
theorem qX {k:Nat} (hS:GoodS S) (hy:S[k]? =some y) (e:y.tm=t):Road S t y y 0:=by
 obtain⟨f,l,hf,hl,h1,h2,h3⟩:=ends hS hy
 have p1:plN S t=k:=Nat.le_antisymm (oJ hS hy (by omega)) (by
  rcases Nat.eq_zero_or_pos k with e0 | e0
  ·omega
  ·have hz:S[k - 1]? =some (S[k - 1]'(by omega)):=List.getElem?_eq_getElem (by omega)
   have:=pT hS hz (b:=t) (by have:=hS.sort (k - 1) k _ _ (by omega) hz hy;omega);omega)
 have p2:plN S (t+1)=k+1:=Nat.le_antisymm (by
  by_cases e0:k+1<S.length
  ·have hz:S[k+1]? =some (S[k+1]'e0):=List.getElem?_eq_getElem e0
   exact oJ hS hz (by have:=hS.sort k (k+1) _ _ (by omega) hy hz;omega)
  ·have:=bi S (t+1);omega) (pT hS hy (by omega))
 exact .Q f hf (by omega) l hl (by omega) (by omega) y (by rw[p1];exact hy) e (by omega) (by omega)
theorem oK {k:Nat} (hS:GoodS S) (hz:S[k]? =some z) (hy:S[k+1]? =some y) (h1:z.tm<t) (h2:t<y.tm):Road S t z y 0:=by
 obtain⟨f,_,hf,_,h3,_,_⟩:=ends hS hz
 obtain⟨_,l,_,hl,_,h4,h5⟩:=ends hS hy
 have p1:plN S t=k+1:=Nat.le_antisymm (oJ hS hy (by omega)) (pT hS hz h1)
 have p2:plN S (t+1)=k+1:=Nat.le_antisymm (oJ hS hy (by omega)) (pT hS hz (by omega))
 exact .M f hf (by omega) l hl (by omega) (by omega) y (by rw[p1];exact hy) h2 (by omega) (by omega) (by omega) z (by rw[p1];exact hz)
theorem sO (h:Road S t z y 0):(∃k:Nat,S[k]? =some y∧y.tm=t∧z=y)∨∃k:Nat,S[k]? =some z∧S[k+1]? =some y∧z.tm<t∧t<y.tm:=by
 cases h with
 | Q f hf hb l hl hn ha y hy ey hp eq1=>exact .inl ⟨_,hy,ey,rfl⟩
 | M f hf hb l hl hn ha y hy ey hp h0 eq1 z hz=>
  obtain⟨x',h1,h2⟩:=di (S:=S) (a:=t) (k:=plN S t - 1) (by omega)
  rw[hz]at h1;injection h1 with h1;subst h1
  exact .inr ⟨plN S t - 1,hz,by rw[←hy];congr 1;omega,h2,ey⟩
theorem jq {c:Int} (hS:GoodS S) (ha:a≤t) (h:Road S t z y c):Road (S.drop (plN S (a+1) - 1)) t z y c:=by
 have hle:=bi S (a+1)
 have hd:∀k,(S.drop (plN S (a+1) - 1))[k]? =S[plN S (a+1) - 1+k]? :=fun k=>List.getElem?_drop
 have hx:∀k x,S[k]? =some x→¬k+1<plN S (a+1)→(S.drop (plN S (a+1) - 1))[k - (plN S (a+1) - 1)]? =some x:=fun k x hx hk=>by rw[hd,←hx];congr 1;omega
 by_cases h0:c=0
 ·subst h0
  rcases sO h with⟨k,hy,e,rfl⟩ | ⟨k,hz,hy,h1,h2⟩
  ·refine qX (hS.drop _) (hx k _ hy (fun hk=> ?_)) e
   obtain⟨x',h3,h4⟩:=di (S:=S) (a:=a+1) (k:=k+1) hk
   have:=hS.sort _ _ _ _ (Nat.lt_succ_self k) hy h3;omega
  ·have hk:¬k+1<plN S (a+1):=fun hk=>by
    obtain⟨x',h3,h4⟩:=di (S:=S) (a:=a+1) (k:=k+1) hk
    rw[hy]at h3;injection h3 with h3;subst h3;omega
   exact oK (hS.drop _) (hx k _ hz hk) (by rw[hd,←hy];congr 1;omega) h1 h2
 ·cases h with
  | E h0=>exact .E (by rw[List.length_drop];omega)
  | O1 f hf hn hta=>
   have:plN S (a+1)≤0:=oJ hS hf (by omega)
   rw[show plN S (a+1) - 1=0 by omega];exact .O1 f hf hn hta
  | O2 f hf hb l hl hn hta=>
   have hl':(S.drop (plN S (a+1) - 1))[(S.drop (plN S (a+1) - 1)).length - 1]? =some l:=by rw[hd,List.length_drop,←hl];congr 1;omega
   obtain⟨f',_,hf',_,h3,_,h4⟩:=ends (hS.drop (plN S (a+1) - 1)) hl'
   exact .O2 f' hf' (by omega) l hl' (by omega) hta
  | Q=>exact absurd rfl h0
  | M=>exact absurd rfl h0
theorem vn {p k:Nat} {s:St} (hp:p≤S.length) (h:k<p):(aS S p s)[k]? =S[k]? :=by
 unfold aS;rw[List.getElem?_append_left (by rw[List.length_take];omega),List.getElem?_take_of_lt h]
theorem vv {p k:Nat} {s:St} (hp:p≤S.length) (h:p≤k):(aS S p s)[k+1]? =S[k]? :=by
 unfold aS;rw[List.getElem?_append_right (by rw[List.length_take];omega),List.length_take,Nat.min_eq_left hp,show k+1 - p=(k - p)+1 by omega,List.getElem?_cons_succ,List.getElem?_drop];congr 1;omega
/-- A stamp elsewhere. -/
theorem abg {s:St} (hS:GoodS S) (hl:S.length<64) (hs:s.pose.ok 2) (gs:s.pose.good) (h:Road S t z y 0) (h0:(fF S s).2=0) (ho:¬(z.tm<s.tm∧s.tm<y.tm)):Road (fF S s).1 t z y 0:=by
 have hG:=jo hS hs gs
 revert h0 hG;unfold fF
 split
 ·intro h0;simp at h0
 ·split
  ·intro _ _;exact h
  ·split
   ·intro h0;simp at h0
   ·rename_i he
    split
    ·intro h0;simp at h0
    ·try rw[if_pos hl]
     intro _ hG
     have hp:=bi S s.tm
     have ne:∀(k:Nat) (x:St),S[k]? =some x→x.tm≠s.tm:=fun k x hx e=>he ⟨x,by
      have p1:plN S s.tm=k:=Nat.le_antisymm (oJ hS hx (by omega)) (by
       rcases Nat.eq_zero_or_pos k with e0 | e0
       ·omega
       ·have hz:S[k - 1]? =some (S[k - 1]'(by have:=(List.getElem?_eq_some_iff.1 hx).1;omega)):=List.getElem?_eq_getElem _
        have:=pT hS hz (b:=s.tm) (by have:=hS.sort (k - 1) k _ _ (by omega) hz hx;omega);omega)
      rw[p1];exact hx,e⟩
     rcases sO h with⟨k,hy,e,rfl⟩ | ⟨k,hz,hy,h1,h2⟩
     ·rcases Nat.lt_or_ge k (plN S s.tm)with hk | hk
      ·exact qX (k:=k) hG (by rw[vn hp hk];exact hy) e
      ·exact qX (k:=k+1) hG (by rw[vv hp hk];exact hy) e
     ·have nz:=ne _ _ hz;have ny:=ne _ _ hy
      by_cases hk:z.tm<s.tm
      ·have hk1:k+1<plN S s.tm:=pT hS hy (by omega)
       exact oK (k:=k) hG (by rw[vn hp (by omega)];exact hz) (by rw[vn hp hk1];exact hy) h1 h2
      ·have hk1:=oJ hS hz hk
       exact oK (k:=k+1) hG (by rw[vv hp hk1];exact hz) (by rw[vv hp (by omega)];exact hy) h1 h2
end
theorem o_max {ρ:Rho} {x y:Int} {lx ly:Leaf} {m:Nat} (hx:KI ρ lx .i64 x) (hy:KI ρ ly .i64 y) (hm:ρ[m]? =some (.val (.int .i64 (max x y)))):(OIns.mk .max [.one lx,.one ly] (.one (.ref m))).Ok Tryz.prog ρ:=fun B w vs hv=>by
 match vs,hv with
 | [v0,v1],hv=>
  have e0:=hx _ _ _ hv.1
  have e1:=hy _ _ _ hv.2.1
  subst e0;subst e1
  refine⟨_,aD hm az,fun ts ty=> ?_⟩
  rw[show max x y=if y>x then y else x by omega]
  simp[Builtin.max_,Builtin.max2]
theorem abh (S:List St) (s:St):(fF S s).1.length≤S.length+1:=by
 have h:=bP (s:=s) (bi S s.tm)
 unfold fF
 repeat' split
 all_goals simp only[List.length_drop,h]
 all_goals omega
theorem abi (S:List St) (x:RSt):(bE S x).1.length≤S.length+1:=by
 unfold bE;split
 ·exact abh _ _
 ·exact Nat.le_succ _
theorem l8 (R:List RSt):∀k,k≤R.length→(aB R k).length≤k
 | 0,_=>by rw[uV];exact Nat.le_refl _
 | k+1,h=>by
  rw[fG (List.getElem?_eq_getElem (by omega))]
  have:=abi (aB R k) (R[k]'(by omega));have:=l8 R k (by omega);omega
theorem addS_ne {S:List St} {s:St} (h0:(fF S s).2=0):0<(fF S s).1.length:=by
 have h:=bP (s:=s) (bi S s.tm)
 revert h0;unfold fF
 split
 ·intro h0;simp at h0
 ·split
  ·rename_i he;intro _;obtain⟨y,hy,_⟩:=he
   have:=(List.getElem?_eq_some_iff.1 hy).1;simp only;omega
  ·split
   ·intro h0;simp at h0
   ·split
    ·intro h0;simp at h0
    ·split
     ·intro _;simp only[h];omega
     ·intro _;simp only[List.length_drop,h];omega
theorem abj {R:List RSt} (hA:cm R R.length) (h:0<R.length):0<(aB R R.length).length:=by
 have hx:R[R.length - 1]? =some (R[R.length - 1]'(by omega)):=List.getElem?_eq_getElem (by omega)
 have h1:=hA.2 _ _ (by omega) hx
 have h2:=fG hx
 rw[show R.length - 1+1=R.length by omega]at h2
 rw[h2];revert h1;unfold bE
 split
 ·exact addS_ne
 ·intro h1;simp at h1
theorem pU {S:List St} {x:RSt} {t:Int} {z y:St} (hS:GoodS S) (hl:S.length<64) (h2:x.two) (h:Road S t z y 0) (h0:(bE S x).2=0) (ho:¬(z.tm<x.tm∧x.tm<y.tm)):Road (bE S x).1 t z y 0:=by
 revert h0;unfold bE
 split
 ·rename_i hx
  intro h0
  have e:hx.choose.tm=x.tm:=congrArg RSt.tm hx.choose_spec.1.symm
  exact abg hS hl (uT h2 hx.choose_spec.1 hx.choose_spec.2) hx.choose_spec.2 h h0 (by rw[e];exact ho)
 ·intro h0;simp at h0
theorem atP_q (y:St) (a:Int):atP y y 0 a=y.pose:=by simp[atP]
theorem atP_m {z y:St} {a:Int} (h:z.tm≠y.tm):atP z y 0 a=Pq.mk (z.pose.rot.way (z.pose.rot.inv.mul y.pose.rot) (Fq.ratio (a - z.tm) (y.tm - z.tm))) (z.pose.pos.lerp y.pose.pos (Fq.ratio (a - z.tm) (y.tm - z.tm))):=by
 unfold atP;rw[if_neg (by omega),if_neg h]
theorem m8 {S:List St} {f l:St} (hf:S[0]? =some f) (hl:S[S.length - 1]? =some l):cg S=(f.tm,l.tm,true):=by unfold cg;rw[hf,hl]
theorem wf64 {a:Int} (h:(Lit.int .i64 a).wf=true): -9223372036854775808≤a∧a≤9223372036854775807:=by
 simp only[Lit.wf,Bool.and_eq_true,decide_eq_true_eq]at h
 exact h
section
variable {xs:List Fq} {ys:Rho} {u:Nat} {l la:Leaf} {S:List St} {a:Int} {z y:St} {kr:List Nat} {E:Pq} {r:SV}
theorem I_AtE (tl:lT (frs xs++ys) u 79 l S) (ka:KI (frs xs++ys) la .i64 a) (hS:GoodS S) (hr:Road S a z y 0) (he:atP z y 0 a=E) (ar:AtL xs kr E.cs):
  (OIns.mk (.mut 12 ⟨[],[(u,79,[l])],[],none,[],[row kr,.one (.i .i64 0)]⟩) [.one (.ptr u 0),.one la] r).Ok Tryz.prog (frs xs++ys):=by
 subst he;exact eF tl ka hS hr ar (fun _ _=>rfl)
end
end Go.Proofs.YtfhinmdhjlmikaaGreat
