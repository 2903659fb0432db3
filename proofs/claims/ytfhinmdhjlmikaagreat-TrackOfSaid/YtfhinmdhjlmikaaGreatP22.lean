/- Tracks: which numbers are short. Tracks: instances of their methods; which lists agree. Tracks: awake, which lists agree. -/
import Derived.Test.YtfhinmdhjlmikaaGreatP21
namespace Go.Proofs.YtfhinmdhjlmikaaGreat
set_option linter.unusedSimpArgs false
set_option linter.unusedVariables false
set_option maxRecDepth 100000
open Go.RowKit
def Rq.tw (r:Rq):Bool:=decide (r.L≤2) && decide (r.N≤2)
def RSt.tw (x:RSt):Bool:=x.r0.tw && (x.r1.tw && (x.r2.tw && (x.r3.tw && (x.r4.tw && (x.r5.tw && x.r6.tw)))))
theorem Rq.tw_iff {r:Rq}:r.tw=true↔r.L≤2∧r.N≤2:=by simp[Rq.tw]
theorem RSt.tw_iff {x:RSt}:x.tw=true↔x.two:=by
 unfold RSt.tw RSt.two RSt.rs
 simp only[Bool.and_eq_true,Rq.tw_iff,List.mem_cons,List.not_mem_nil,or_false,forall_eq_or_imp,forall_eq]
def xW (r:Rq) (v:Value):List Fq:=[]
theorem q_shortT {w:World} (r:Rq) (v:Value) (i:IsL w v [r]) (hL:r.L≤2) (hN:r.N≤2):
  Calls Tryz.prog 35 #[v] w fun e w'=>e= .returned (.bool true)∧Below w.heap.size w w':=by
 refine(aX (ρ:=frs (xW r v)++([.val (.bool r.s),.dig r.L r.p,.dig r.N r.q,.val (.int .i64 (r.L:Int)),.val (.int .i64 (r.N:Int))]:List Vp)) (w:=w) (fuel:=300) (args:=[.agg [.ref 0,.ref 1,.ref 2]]) (vs:=[v]) (r:=.v (.one (.b true))) (lo:=[]) (obs:=[])
  (ai)
  (ae (ue (n:=1) (m:=3) (t:=23) ⟨_,Tryz.underlying23⟩ rfl rfl) (ae (aw (t:=3) (ah (n:=3) rfl) (aG (c:=2)) (cm (by omega))) (ae (ue (n:=2) (m:=4) (t:=23) ⟨_,Tryz.underlying23⟩ rfl rfl) (ae (aw (t:=3) (ah (n:=4) rfl) (aG (c:=2)) (cm (by omega))) (aj))))) (by kernel_rfl) Tryz.func35 (by kernel_rfl) aD ⟨(aP (ns:=[0]) (rs:=[r]) ⟨⟨rfl,rfl,rfl⟩,trivial⟩).2 i,trivial⟩).mono ?_
 rintro e w' ⟨v,rfl,h1,h2⟩
 have e1:v= .bool true:=h1
 subst e1
 exact⟨rfl,h2⟩
def xX (r:Rq) (v:Value):List Fq:=[]
theorem q_shortL {w:World} (r:Rq) (v:Value) (i:IsL w v [r]) (hL:2<r.L):
  Calls Tryz.prog 35 #[v] w fun e w'=>e= .returned (.bool false)∧Below w.heap.size w w':=by
 refine(aX (ρ:=frs (xX r v)++([.val (.bool r.s),.dig r.L r.p,.dig r.N r.q,.val (.int .i64 (r.L:Int))]:List Vp)) (w:=w) (fuel:=300) (args:=[.agg [.ref 0,.ref 1,.ref 2]]) (vs:=[v]) (r:=.v (.one (.b false))) (lo:=[]) (obs:=[])
  (ai)
  (ae (ue (n:=1) (m:=3) (t:=23) ⟨_,Tryz.underlying23⟩ rfl rfl) (ae (aw (t:=3) (ah (n:=3) rfl) (aG (c:=2)) (dF (by omega))) (aj))) (by kernel_rfl) Tryz.func35 (by kernel_rfl) aD ⟨(aP (ns:=[0]) (rs:=[r]) ⟨⟨rfl,rfl,rfl⟩,trivial⟩).2 i,trivial⟩).mono ?_
 rintro e w' ⟨v,rfl,h1,h2⟩
 have e1:v= .bool false:=h1
 subst e1
 exact⟨rfl,h2⟩
def xY (r:Rq) (v:Value):List Fq:=[]
theorem q_shortN {w:World} (r:Rq) (v:Value) (i:IsL w v [r]) (hL:r.L≤2) (hN:2<r.N):
  Calls Tryz.prog 35 #[v] w fun e w'=>e= .returned (.bool false)∧Below w.heap.size w w':=by
 refine(aX (ρ:=frs (xY r v)++([.val (.bool r.s),.dig r.L r.p,.dig r.N r.q,.val (.int .i64 (r.L:Int)),.val (.int .i64 (r.N:Int))]:List Vp)) (w:=w) (fuel:=300) (args:=[.agg [.ref 0,.ref 1,.ref 2]]) (vs:=[v]) (r:=.v (.one (.b false))) (lo:=[]) (obs:=[])
  (ai)
  (ae (ue (n:=1) (m:=3) (t:=23) ⟨_,Tryz.underlying23⟩ rfl rfl) (ae (aw (t:=3) (ah (n:=3) rfl) (aG (c:=2)) (cm (by omega))) (ae (ue (n:=2) (m:=4) (t:=23) ⟨_,Tryz.underlying23⟩ rfl rfl) (ae (aw (t:=3) (ah (n:=4) rfl) (aG (c:=2)) (dF (by omega))) (aj))))) (by kernel_rfl) Tryz.func35 (by kernel_rfl) aD ⟨(aP (ns:=[0]) (rs:=[r]) ⟨⟨rfl,rfl,rfl⟩,trivial⟩).2 i,trivial⟩).mono ?_
 rintro e w' ⟨v,rfl,h1,h2⟩
 have e1:v= .bool false:=h1
 subst e1
 exact⟨rfl,h2⟩
theorem q_short {w:World} (r:Rq) (v:Value) (i:IsL w v [r]):Calls Tryz.prog 35 #[v] w fun e w'=>e= .returned (.bool r.tw)∧Below w.heap.size w w':=by
 by_cases hL:r.L≤2
 ·by_cases hN:r.N≤2
  ·rw[Rq.tw_iff.2 ⟨hL,hN⟩];exact q_shortT r v i hL hN
  ·rw[show r.tw=false by simp[Rq.tw,hN]];exact q_shortN r v i hL (by omega)
 ·rw[show r.tw=false by simp[Rq.tw,hL]];exact q_shortL r v i (by omega)
theorem bA {ρ:Rho} {n:Nat} {r:Rq} {b:Bool} (hr:AtR ρ [n] [r]) (hb:r.tw=b):Inst.Ok Tryz.prog ρ ⟨35,[cU [n]],.v (.one (.b b))⟩:=
 ⟨aA Tryz.func35 rfl rfl,fun B w vs hB h=>by
  match vs,h with
  | [v],h=>
   refine(q_short r v ((aP hr).1 h.1)).mono ?_
   rintro e w' ⟨rfl,h2⟩
   exact⟨_,rfl,by subst hb;rfl,h2⟩⟩
def xq_fit0X (x:RSt) (v:Value):List Fq:=[]
theorem q_fit0 {w:World} (x:RSt) (v:Value) (i:IsL w v x.rs) (k0:x.r0.tw=false):
  Calls Tryz.prog 9 #[v] w fun e w'=>e= .returned (.bool false)∧Below w.heap.size w w':=by
 refine(aX (ρ:=frs (xq_fit0X x v)++([.val (.int .i64 x.tm),.val (.bool x.r0.s),.dig x.r0.L x.r0.p,.dig x.r0.N x.r0.q,.val (.bool x.r1.s),.dig x.r1.L x.r1.p,.dig x.r1.N x.r1.q,.val (.bool x.r2.s),.dig x.r2.L x.r2.p,.dig x.r2.N x.r2.q,.val (.bool x.r3.s),.dig x.r3.L x.r3.p,.dig x.r3.N x.r3.q,.val (.bool x.r4.s),.dig x.r4.L x.r4.p,.dig x.r4.N x.r4.q,.val (.bool x.r5.s),.dig x.r5.L x.r5.p,.dig x.r5.N x.r5.q,.val (.bool x.r6.s),.dig x.r6.L x.r6.p,.dig x.r6.N x.r6.q]:List Vp)) (w:=w) (fuel:=300) (args:=[.agg [.ref 1,.ref 2,.ref 3,.ref 4,.ref 5,.ref 6,.ref 7,.ref 8,.ref 9,.ref 10,.ref 11,.ref 12,.ref 13,.ref 14,.ref 15,.ref 16,.ref 17,.ref 18,.ref 19,.ref 20,.ref 21]]) (vs:=[v]) (r:=.v (.one (.b false))) (lo:=[]) (obs:=[])
  (af (bA (n:=1) (r:=x.r0) (b:=false) ⟨⟨rfl,rfl,rfl⟩,trivial⟩ k0) ai)
  aj (by kernel_rfl) Tryz.func9 (by kernel_rfl) aD ⟨(aP (ns:=[1,4,7,10,13,16,19]) (rs:=x.rs) ⟨⟨rfl,rfl,rfl⟩,⟨rfl,rfl,rfl⟩,⟨rfl,rfl,rfl⟩,⟨rfl,rfl,rfl⟩,⟨rfl,rfl,rfl⟩,⟨rfl,rfl,rfl⟩,⟨rfl,rfl,rfl⟩,trivial⟩).2 i,trivial⟩).mono ?_
 rintro e w' ⟨v,rfl,h1,h2⟩
 have e1:v= .bool false:=h1
 subst e1
 exact⟨rfl,h2⟩
def xq_fit1X (x:RSt) (v:Value):List Fq:=[]
theorem q_fit1 {w:World} (x:RSt) (v:Value) (i:IsL w v x.rs) (k0:x.r0.tw=true) (k1:x.r1.tw=false):
  Calls Tryz.prog 9 #[v] w fun e w'=>e= .returned (.bool false)∧Below w.heap.size w w':=by
 refine(aX (ρ:=frs (xq_fit1X x v)++([.val (.int .i64 x.tm),.val (.bool x.r0.s),.dig x.r0.L x.r0.p,.dig x.r0.N x.r0.q,.val (.bool x.r1.s),.dig x.r1.L x.r1.p,.dig x.r1.N x.r1.q,.val (.bool x.r2.s),.dig x.r2.L x.r2.p,.dig x.r2.N x.r2.q,.val (.bool x.r3.s),.dig x.r3.L x.r3.p,.dig x.r3.N x.r3.q,.val (.bool x.r4.s),.dig x.r4.L x.r4.p,.dig x.r4.N x.r4.q,.val (.bool x.r5.s),.dig x.r5.L x.r5.p,.dig x.r5.N x.r5.q,.val (.bool x.r6.s),.dig x.r6.L x.r6.p,.dig x.r6.N x.r6.q]:List Vp)) (w:=w) (fuel:=300) (args:=[.agg [.ref 1,.ref 2,.ref 3,.ref 4,.ref 5,.ref 6,.ref 7,.ref 8,.ref 9,.ref 10,.ref 11,.ref 12,.ref 13,.ref 14,.ref 15,.ref 16,.ref 17,.ref 18,.ref 19,.ref 20,.ref 21]]) (vs:=[v]) (r:=.v (.one (.b false))) (lo:=[]) (obs:=[])
  (af (bA (n:=1) (r:=x.r0) (b:=true) ⟨⟨rfl,rfl,rfl⟩,trivial⟩ k0) (af (bA (n:=4) (r:=x.r1) (b:=false) ⟨⟨rfl,rfl,rfl⟩,trivial⟩ k1) ai))
  aj (by kernel_rfl) Tryz.func9 (by kernel_rfl) aD ⟨(aP (ns:=[1,4,7,10,13,16,19]) (rs:=x.rs) ⟨⟨rfl,rfl,rfl⟩,⟨rfl,rfl,rfl⟩,⟨rfl,rfl,rfl⟩,⟨rfl,rfl,rfl⟩,⟨rfl,rfl,rfl⟩,⟨rfl,rfl,rfl⟩,⟨rfl,rfl,rfl⟩,trivial⟩).2 i,trivial⟩).mono ?_
 rintro e w' ⟨v,rfl,h1,h2⟩
 have e1:v= .bool false:=h1
 subst e1
 exact⟨rfl,h2⟩
def xq_fit2X (x:RSt) (v:Value):List Fq:=[]
theorem q_fit2 {w:World} (x:RSt) (v:Value) (i:IsL w v x.rs) (k0:x.r0.tw=true) (k1:x.r1.tw=true) (k2:x.r2.tw=false):
  Calls Tryz.prog 9 #[v] w fun e w'=>e= .returned (.bool false)∧Below w.heap.size w w':=by
 refine(aX (ρ:=frs (xq_fit2X x v)++([.val (.int .i64 x.tm),.val (.bool x.r0.s),.dig x.r0.L x.r0.p,.dig x.r0.N x.r0.q,.val (.bool x.r1.s),.dig x.r1.L x.r1.p,.dig x.r1.N x.r1.q,.val (.bool x.r2.s),.dig x.r2.L x.r2.p,.dig x.r2.N x.r2.q,.val (.bool x.r3.s),.dig x.r3.L x.r3.p,.dig x.r3.N x.r3.q,.val (.bool x.r4.s),.dig x.r4.L x.r4.p,.dig x.r4.N x.r4.q,.val (.bool x.r5.s),.dig x.r5.L x.r5.p,.dig x.r5.N x.r5.q,.val (.bool x.r6.s),.dig x.r6.L x.r6.p,.dig x.r6.N x.r6.q]:List Vp)) (w:=w) (fuel:=300) (args:=[.agg [.ref 1,.ref 2,.ref 3,.ref 4,.ref 5,.ref 6,.ref 7,.ref 8,.ref 9,.ref 10,.ref 11,.ref 12,.ref 13,.ref 14,.ref 15,.ref 16,.ref 17,.ref 18,.ref 19,.ref 20,.ref 21]]) (vs:=[v]) (r:=.v (.one (.b false))) (lo:=[]) (obs:=[])
  (af (bA (n:=1) (r:=x.r0) (b:=true) ⟨⟨rfl,rfl,rfl⟩,trivial⟩ k0) (af (bA (n:=4) (r:=x.r1) (b:=true) ⟨⟨rfl,rfl,rfl⟩,trivial⟩ k1) (af (bA (n:=7) (r:=x.r2) (b:=false) ⟨⟨rfl,rfl,rfl⟩,trivial⟩ k2) ai)))
  aj (by kernel_rfl) Tryz.func9 (by kernel_rfl) aD ⟨(aP (ns:=[1,4,7,10,13,16,19]) (rs:=x.rs) ⟨⟨rfl,rfl,rfl⟩,⟨rfl,rfl,rfl⟩,⟨rfl,rfl,rfl⟩,⟨rfl,rfl,rfl⟩,⟨rfl,rfl,rfl⟩,⟨rfl,rfl,rfl⟩,⟨rfl,rfl,rfl⟩,trivial⟩).2 i,trivial⟩).mono ?_
 rintro e w' ⟨v,rfl,h1,h2⟩
 have e1:v= .bool false:=h1
 subst e1
 exact⟨rfl,h2⟩
def xq_fit3X (x:RSt) (v:Value):List Fq:=[]
theorem q_fit3 {w:World} (x:RSt) (v:Value) (i:IsL w v x.rs) (k0:x.r0.tw=true) (k1:x.r1.tw=true) (k2:x.r2.tw=true) (k3:x.r3.tw=false):
  Calls Tryz.prog 9 #[v] w fun e w'=>e= .returned (.bool false)∧Below w.heap.size w w':=by
 refine(aX (ρ:=frs (xq_fit3X x v)++([.val (.int .i64 x.tm),.val (.bool x.r0.s),.dig x.r0.L x.r0.p,.dig x.r0.N x.r0.q,.val (.bool x.r1.s),.dig x.r1.L x.r1.p,.dig x.r1.N x.r1.q,.val (.bool x.r2.s),.dig x.r2.L x.r2.p,.dig x.r2.N x.r2.q,.val (.bool x.r3.s),.dig x.r3.L x.r3.p,.dig x.r3.N x.r3.q,.val (.bool x.r4.s),.dig x.r4.L x.r4.p,.dig x.r4.N x.r4.q,.val (.bool x.r5.s),.dig x.r5.L x.r5.p,.dig x.r5.N x.r5.q,.val (.bool x.r6.s),.dig x.r6.L x.r6.p,.dig x.r6.N x.r6.q]:List Vp)) (w:=w) (fuel:=300) (args:=[.agg [.ref 1,.ref 2,.ref 3,.ref 4,.ref 5,.ref 6,.ref 7,.ref 8,.ref 9,.ref 10,.ref 11,.ref 12,.ref 13,.ref 14,.ref 15,.ref 16,.ref 17,.ref 18,.ref 19,.ref 20,.ref 21]]) (vs:=[v]) (r:=.v (.one (.b false))) (lo:=[]) (obs:=[])
  (af (bA (n:=1) (r:=x.r0) (b:=true) ⟨⟨rfl,rfl,rfl⟩,trivial⟩ k0) (af (bA (n:=4) (r:=x.r1) (b:=true) ⟨⟨rfl,rfl,rfl⟩,trivial⟩ k1) (af (bA (n:=7) (r:=x.r2) (b:=true) ⟨⟨rfl,rfl,rfl⟩,trivial⟩ k2) (af (bA (n:=10) (r:=x.r3) (b:=false) ⟨⟨rfl,rfl,rfl⟩,trivial⟩ k3) ai))))
  aj (by kernel_rfl) Tryz.func9 (by kernel_rfl) aD ⟨(aP (ns:=[1,4,7,10,13,16,19]) (rs:=x.rs) ⟨⟨rfl,rfl,rfl⟩,⟨rfl,rfl,rfl⟩,⟨rfl,rfl,rfl⟩,⟨rfl,rfl,rfl⟩,⟨rfl,rfl,rfl⟩,⟨rfl,rfl,rfl⟩,⟨rfl,rfl,rfl⟩,trivial⟩).2 i,trivial⟩).mono ?_
 rintro e w' ⟨v,rfl,h1,h2⟩
 have e1:v= .bool false:=h1
 subst e1
 exact⟨rfl,h2⟩
def xq_fit4X (x:RSt) (v:Value):List Fq:=[]
theorem q_fit4 {w:World} (x:RSt) (v:Value) (i:IsL w v x.rs) (k0:x.r0.tw=true) (k1:x.r1.tw=true) (k2:x.r2.tw=true) (k3:x.r3.tw=true) (k4:x.r4.tw=false):
  Calls Tryz.prog 9 #[v] w fun e w'=>e= .returned (.bool false)∧Below w.heap.size w w':=by
 refine(aX (ρ:=frs (xq_fit4X x v)++([.val (.int .i64 x.tm),.val (.bool x.r0.s),.dig x.r0.L x.r0.p,.dig x.r0.N x.r0.q,.val (.bool x.r1.s),.dig x.r1.L x.r1.p,.dig x.r1.N x.r1.q,.val (.bool x.r2.s),.dig x.r2.L x.r2.p,.dig x.r2.N x.r2.q,.val (.bool x.r3.s),.dig x.r3.L x.r3.p,.dig x.r3.N x.r3.q,.val (.bool x.r4.s),.dig x.r4.L x.r4.p,.dig x.r4.N x.r4.q,.val (.bool x.r5.s),.dig x.r5.L x.r5.p,.dig x.r5.N x.r5.q,.val (.bool x.r6.s),.dig x.r6.L x.r6.p,.dig x.r6.N x.r6.q]:List Vp)) (w:=w) (fuel:=300) (args:=[.agg [.ref 1,.ref 2,.ref 3,.ref 4,.ref 5,.ref 6,.ref 7,.ref 8,.ref 9,.ref 10,.ref 11,.ref 12,.ref 13,.ref 14,.ref 15,.ref 16,.ref 17,.ref 18,.ref 19,.ref 20,.ref 21]]) (vs:=[v]) (r:=.v (.one (.b false))) (lo:=[]) (obs:=[])
  (af (bA (n:=1) (r:=x.r0) (b:=true) ⟨⟨rfl,rfl,rfl⟩,trivial⟩ k0) (af (bA (n:=4) (r:=x.r1) (b:=true) ⟨⟨rfl,rfl,rfl⟩,trivial⟩ k1) (af (bA (n:=7) (r:=x.r2) (b:=true) ⟨⟨rfl,rfl,rfl⟩,trivial⟩ k2) (af (bA (n:=10) (r:=x.r3) (b:=true) ⟨⟨rfl,rfl,rfl⟩,trivial⟩ k3) (af (bA (n:=13) (r:=x.r4) (b:=false) ⟨⟨rfl,rfl,rfl⟩,trivial⟩ k4) ai)))))
  aj (by kernel_rfl) Tryz.func9 (by kernel_rfl) aD ⟨(aP (ns:=[1,4,7,10,13,16,19]) (rs:=x.rs) ⟨⟨rfl,rfl,rfl⟩,⟨rfl,rfl,rfl⟩,⟨rfl,rfl,rfl⟩,⟨rfl,rfl,rfl⟩,⟨rfl,rfl,rfl⟩,⟨rfl,rfl,rfl⟩,⟨rfl,rfl,rfl⟩,trivial⟩).2 i,trivial⟩).mono ?_
 rintro e w' ⟨v,rfl,h1,h2⟩
 have e1:v= .bool false:=h1
 subst e1
 exact⟨rfl,h2⟩
def xq_fit5X (x:RSt) (v:Value):List Fq:=[]
theorem q_fit5 {w:World} (x:RSt) (v:Value) (i:IsL w v x.rs) (k0:x.r0.tw=true) (k1:x.r1.tw=true) (k2:x.r2.tw=true) (k3:x.r3.tw=true) (k4:x.r4.tw=true) (k5:x.r5.tw=false):
  Calls Tryz.prog 9 #[v] w fun e w'=>e= .returned (.bool false)∧Below w.heap.size w w':=by
 refine(aX (ρ:=frs (xq_fit5X x v)++([.val (.int .i64 x.tm),.val (.bool x.r0.s),.dig x.r0.L x.r0.p,.dig x.r0.N x.r0.q,.val (.bool x.r1.s),.dig x.r1.L x.r1.p,.dig x.r1.N x.r1.q,.val (.bool x.r2.s),.dig x.r2.L x.r2.p,.dig x.r2.N x.r2.q,.val (.bool x.r3.s),.dig x.r3.L x.r3.p,.dig x.r3.N x.r3.q,.val (.bool x.r4.s),.dig x.r4.L x.r4.p,.dig x.r4.N x.r4.q,.val (.bool x.r5.s),.dig x.r5.L x.r5.p,.dig x.r5.N x.r5.q,.val (.bool x.r6.s),.dig x.r6.L x.r6.p,.dig x.r6.N x.r6.q]:List Vp)) (w:=w) (fuel:=300) (args:=[.agg [.ref 1,.ref 2,.ref 3,.ref 4,.ref 5,.ref 6,.ref 7,.ref 8,.ref 9,.ref 10,.ref 11,.ref 12,.ref 13,.ref 14,.ref 15,.ref 16,.ref 17,.ref 18,.ref 19,.ref 20,.ref 21]]) (vs:=[v]) (r:=.v (.one (.b false))) (lo:=[]) (obs:=[])
  (af (bA (n:=1) (r:=x.r0) (b:=true) ⟨⟨rfl,rfl,rfl⟩,trivial⟩ k0) (af (bA (n:=4) (r:=x.r1) (b:=true) ⟨⟨rfl,rfl,rfl⟩,trivial⟩ k1) (af (bA (n:=7) (r:=x.r2) (b:=true) ⟨⟨rfl,rfl,rfl⟩,trivial⟩ k2) (af (bA (n:=10) (r:=x.r3) (b:=true) ⟨⟨rfl,rfl,rfl⟩,trivial⟩ k3) (af (bA (n:=13) (r:=x.r4) (b:=true) ⟨⟨rfl,rfl,rfl⟩,trivial⟩ k4) (af (bA (n:=16) (r:=x.r5) (b:=false) ⟨⟨rfl,rfl,rfl⟩,trivial⟩ k5) ai))))))
  aj (by kernel_rfl) Tryz.func9 (by kernel_rfl) aD ⟨(aP (ns:=[1,4,7,10,13,16,19]) (rs:=x.rs) ⟨⟨rfl,rfl,rfl⟩,⟨rfl,rfl,rfl⟩,⟨rfl,rfl,rfl⟩,⟨rfl,rfl,rfl⟩,⟨rfl,rfl,rfl⟩,⟨rfl,rfl,rfl⟩,⟨rfl,rfl,rfl⟩,trivial⟩).2 i,trivial⟩).mono ?_
 rintro e w' ⟨v,rfl,h1,h2⟩
 have e1:v= .bool false:=h1
 subst e1
 exact⟨rfl,h2⟩
def xq_fit6X (x:RSt) (v:Value):List Fq:=[]
theorem q_fit6 {w:World} (x:RSt) (v:Value) (i:IsL w v x.rs) (k0:x.r0.tw=true) (k1:x.r1.tw=true) (k2:x.r2.tw=true) (k3:x.r3.tw=true) (k4:x.r4.tw=true) (k5:x.r5.tw=true) (k6:x.r6.tw=false):
  Calls Tryz.prog 9 #[v] w fun e w'=>e= .returned (.bool false)∧Below w.heap.size w w':=by
 refine(aX (ρ:=frs (xq_fit6X x v)++([.val (.int .i64 x.tm),.val (.bool x.r0.s),.dig x.r0.L x.r0.p,.dig x.r0.N x.r0.q,.val (.bool x.r1.s),.dig x.r1.L x.r1.p,.dig x.r1.N x.r1.q,.val (.bool x.r2.s),.dig x.r2.L x.r2.p,.dig x.r2.N x.r2.q,.val (.bool x.r3.s),.dig x.r3.L x.r3.p,.dig x.r3.N x.r3.q,.val (.bool x.r4.s),.dig x.r4.L x.r4.p,.dig x.r4.N x.r4.q,.val (.bool x.r5.s),.dig x.r5.L x.r5.p,.dig x.r5.N x.r5.q,.val (.bool x.r6.s),.dig x.r6.L x.r6.p,.dig x.r6.N x.r6.q]:List Vp)) (w:=w) (fuel:=300) (args:=[.agg [.ref 1,.ref 2,.ref 3,.ref 4,.ref 5,.ref 6,.ref 7,.ref 8,.ref 9,.ref 10,.ref 11,.ref 12,.ref 13,.ref 14,.ref 15,.ref 16,.ref 17,.ref 18,.ref 19,.ref 20,.ref 21]]) (vs:=[v]) (r:=.v (.one (.b false))) (lo:=[]) (obs:=[])
  (af (bA (n:=1) (r:=x.r0) (b:=true) ⟨⟨rfl,rfl,rfl⟩,trivial⟩ k0) (af (bA (n:=4) (r:=x.r1) (b:=true) ⟨⟨rfl,rfl,rfl⟩,trivial⟩ k1) (af (bA (n:=7) (r:=x.r2) (b:=true) ⟨⟨rfl,rfl,rfl⟩,trivial⟩ k2) (af (bA (n:=10) (r:=x.r3) (b:=true) ⟨⟨rfl,rfl,rfl⟩,trivial⟩ k3) (af (bA (n:=13) (r:=x.r4) (b:=true) ⟨⟨rfl,rfl,rfl⟩,trivial⟩ k4) (af (bA (n:=16) (r:=x.r5) (b:=true) ⟨⟨rfl,rfl,rfl⟩,trivial⟩ k5) (af (bA (n:=19) (r:=x.r6) (b:=false) ⟨⟨rfl,rfl,rfl⟩,trivial⟩ k6) ai)))))))
  aj (by kernel_rfl) Tryz.func9 (by kernel_rfl) aD ⟨(aP (ns:=[1,4,7,10,13,16,19]) (rs:=x.rs) ⟨⟨rfl,rfl,rfl⟩,⟨rfl,rfl,rfl⟩,⟨rfl,rfl,rfl⟩,⟨rfl,rfl,rfl⟩,⟨rfl,rfl,rfl⟩,⟨rfl,rfl,rfl⟩,⟨rfl,rfl,rfl⟩,trivial⟩).2 i,trivial⟩).mono ?_
 rintro e w' ⟨v,rfl,h1,h2⟩
 have e1:v= .bool false:=h1
 subst e1
 exact⟨rfl,h2⟩
def xq_fit7X (x:RSt) (v:Value):List Fq:=[]
theorem q_fit7 {w:World} (x:RSt) (v:Value) (i:IsL w v x.rs) (k0:x.r0.tw=true) (k1:x.r1.tw=true) (k2:x.r2.tw=true) (k3:x.r3.tw=true) (k4:x.r4.tw=true) (k5:x.r5.tw=true) (k6:x.r6.tw=true):
  Calls Tryz.prog 9 #[v] w fun e w'=>e= .returned (.bool true)∧Below w.heap.size w w':=by
 refine(aX (ρ:=frs (xq_fit7X x v)++([.val (.int .i64 x.tm),.val (.bool x.r0.s),.dig x.r0.L x.r0.p,.dig x.r0.N x.r0.q,.val (.bool x.r1.s),.dig x.r1.L x.r1.p,.dig x.r1.N x.r1.q,.val (.bool x.r2.s),.dig x.r2.L x.r2.p,.dig x.r2.N x.r2.q,.val (.bool x.r3.s),.dig x.r3.L x.r3.p,.dig x.r3.N x.r3.q,.val (.bool x.r4.s),.dig x.r4.L x.r4.p,.dig x.r4.N x.r4.q,.val (.bool x.r5.s),.dig x.r5.L x.r5.p,.dig x.r5.N x.r5.q,.val (.bool x.r6.s),.dig x.r6.L x.r6.p,.dig x.r6.N x.r6.q]:List Vp)) (w:=w) (fuel:=300) (args:=[.agg [.ref 1,.ref 2,.ref 3,.ref 4,.ref 5,.ref 6,.ref 7,.ref 8,.ref 9,.ref 10,.ref 11,.ref 12,.ref 13,.ref 14,.ref 15,.ref 16,.ref 17,.ref 18,.ref 19,.ref 20,.ref 21]]) (vs:=[v]) (r:=.v (.one (.b true))) (lo:=[]) (obs:=[])
  (af (bA (n:=1) (r:=x.r0) (b:=true) ⟨⟨rfl,rfl,rfl⟩,trivial⟩ k0) (af (bA (n:=4) (r:=x.r1) (b:=true) ⟨⟨rfl,rfl,rfl⟩,trivial⟩ k1) (af (bA (n:=7) (r:=x.r2) (b:=true) ⟨⟨rfl,rfl,rfl⟩,trivial⟩ k2) (af (bA (n:=10) (r:=x.r3) (b:=true) ⟨⟨rfl,rfl,rfl⟩,trivial⟩ k3) (af (bA (n:=13) (r:=x.r4) (b:=true) ⟨⟨rfl,rfl,rfl⟩,trivial⟩ k4) (af (bA (n:=16) (r:=x.r5) (b:=true) ⟨⟨rfl,rfl,rfl⟩,trivial⟩ k5) (af (bA (n:=19) (r:=x.r6) (b:=true) ⟨⟨rfl,rfl,rfl⟩,trivial⟩ k6) ai)))))))
  aj (by kernel_rfl) Tryz.func9 (by kernel_rfl) aD ⟨(aP (ns:=[1,4,7,10,13,16,19]) (rs:=x.rs) ⟨⟨rfl,rfl,rfl⟩,⟨rfl,rfl,rfl⟩,⟨rfl,rfl,rfl⟩,⟨rfl,rfl,rfl⟩,⟨rfl,rfl,rfl⟩,⟨rfl,rfl,rfl⟩,⟨rfl,rfl,rfl⟩,trivial⟩).2 i,trivial⟩).mono ?_
 rintro e w' ⟨v,rfl,h1,h2⟩
 have e1:v= .bool true:=h1
 subst e1
 exact⟨rfl,h2⟩
theorem q_fit {w:World} (x:RSt) (v:Value) (i:IsL w v x.rs):Calls Tryz.prog 9 #[v] w fun e w'=>e= .returned (.bool x.tw)∧Below w.heap.size w w':=by
 rcases Bool.eq_false_or_eq_true x.r0.tw with k0 | k0
 case inr=>rw[show x.tw=false by simp[RSt.tw,k0]];exact q_fit0 x v i k0
 rcases Bool.eq_false_or_eq_true x.r1.tw with k1 | k1
 case inr=>rw[show x.tw=false by simp[RSt.tw,k0,k1]];exact q_fit1 x v i k0 k1
 rcases Bool.eq_false_or_eq_true x.r2.tw with k2 | k2
 case inr=>rw[show x.tw=false by simp[RSt.tw,k0,k1,k2]];exact q_fit2 x v i k0 k1 k2
 rcases Bool.eq_false_or_eq_true x.r3.tw with k3 | k3
 case inr=>rw[show x.tw=false by simp[RSt.tw,k0,k1,k2,k3]];exact q_fit3 x v i k0 k1 k2 k3
 rcases Bool.eq_false_or_eq_true x.r4.tw with k4 | k4
 case inr=>rw[show x.tw=false by simp[RSt.tw,k0,k1,k2,k3,k4]];exact q_fit4 x v i k0 k1 k2 k3 k4
 rcases Bool.eq_false_or_eq_true x.r5.tw with k5 | k5
 case inr=>rw[show x.tw=false by simp[RSt.tw,k0,k1,k2,k3,k4,k5]];exact q_fit5 x v i k0 k1 k2 k3 k4 k5
 rcases Bool.eq_false_or_eq_true x.r6.tw with k6 | k6
 case inr=>rw[show x.tw=false by simp[RSt.tw,k0,k1,k2,k3,k4,k5,k6]];exact q_fit6 x v i k0 k1 k2 k3 k4 k5 k6
 rw[show x.tw=true by simp[RSt.tw,k0,k1,k2,k3,k4,k5,k6]];exact q_fit7 x v i k0 k1 k2 k3 k4 k5 k6
theorem kE {ρ:Rho} {ns:List Nat} {x:RSt} {b:Bool} (hr:AtR ρ ns x.rs) (hb:x.tw=b):Inst.Ok Tryz.prog ρ ⟨9,[cU ns],.v (.one (.b b))⟩:=
 ⟨aA Tryz.func9 rfl rfl,fun B w vs hB h=>by
  match vs,h with
  | [v],h=>
   refine(q_fit x v ((aP hr).1 h.1)).mono ?_
   rintro e w' ⟨rfl,h2⟩
   exact⟨_,rfl,by subst hb;rfl,h2⟩⟩
def nC:MS:=bK 28 [(0,.v (.one (.ref 0))),(1,.v (.one (.ref 1))),(5,.v (.one (.i .i64 0)))] []
def nD:MS:=bK 28 [(0,.v (.one (.ref 0))),(1,.v (.one (.ref 1)))] []
def iD (R:List RSt) (v:Value) (M:Nat):List Fq:=[]
theorem q_fitsT {w:World} (R:List RSt) (v:Value) (M:Nat) (hR:(Vp.rowW R.length (bT R)).p w v) (hM:M≤1000) (ht:∀x∈R,x.tw=true) (hl:R.length≤M):
  Calls Tryz.prog 8 #[v,.int .i64 ((M:Nat):Int)] w fun e w'=>e= .returned (.bool true)∧Below w.heap.size w w':=by
 have hL0:LOb.Ok Tryz.prog (frs (iD R v M)++(([.rowW R.length (bT R),.val (.int .i64 ((M:Nat):Int))]:List Vp)++(([.val (.int .i64 (R.length:Int))]:List Vp)))) (Ent.of w) 28 ⟨aZ Tryz.f8 0,nC,.ext 0,nD⟩:=by
  refine a8 R.length (fun k=>frs (iD R v M)++(([.rowW R.length (bT R),.val (.int .i64 ((M:Nat):Int))]:List Vp)++(([.val (.int .i64 ((k:Nat):Int))]:List Vp)))) (fun _=>bK 28 [(0,.v (.one (.ref 0))),(1,.v (.one (.ref 1))),(5,.v (.one (.ref 2)))] []) ?_ ?_ ?_ (by decide) (Nat.zero_le _)
  ·intro a_ w_ h_
   exact MSt.conv (N:=2) (σ:=[(2,.i .i64 0)]) (cmP (by kernel_rfl)) (aB (sgi (n:=2) (u:=0) (v:=((0:Nat):Int)) rfl (aG (c:=0)) (by omega)) aI) (by kernel_rfl) h_ (Nat.zero_le _)
  ·intro k hk
   obtain⟨y,hy⟩:∃x,R[k]? =some x:=⟨_,List.getElem?_eq_getElem (by omega)⟩
   refine aO (N:=3) (ρx:=frs (iD R v M)++(([.rowW R.length (bT R),.val (.int .i64 ((M:Nat):Int))]:List Vp)++(([.val (.int .i64 ((k:Nat):Int))]:List Vp)++(([.val (.int .i64 (R.length:Int)),.plcW y.qs,.plcW (jk y.rs),.val (.int .i64 y.tm),.val (.bool y.r0.s),.dig y.r0.L y.r0.p,.dig y.r0.N y.r0.q,.val (.bool y.r1.s),.dig y.r1.L y.r1.p,.dig y.r1.N y.r1.q,.val (.bool y.r2.s),.dig y.r2.L y.r2.p,.dig y.r2.N y.r2.q,.val (.bool y.r3.s),.dig y.r3.L y.r3.p,.dig y.r3.N y.r3.q,.val (.bool y.r4.s),.dig y.r4.L y.r4.p,.dig y.r4.N y.r4.q,.val (.bool y.r5.s),.dig y.r5.L y.r5.p,.dig y.r5.N y.r5.q,.val (.bool y.r6.s),.dig y.r6.L y.r6.p,.dig y.r6.N y.r6.q,.val (.int .i64 (((k:Nat):Int)+1))]:List Vp))))) (cmX (by kernel_rfl)) (by kernel_rfl) (Nat.zero_le _) ?_
   exact aJ (N:=2) (σ:=[(2,.ref 28)]) (lo:=[]) (n:=300) (af (kE (ns:=[7,10,13,16,19,22,25]) (x:=y) (b:=true) ⟨⟨rfl,rfl,rfl⟩,⟨rfl,rfl,rfl⟩,⟨rfl,rfl,rfl⟩,⟨rfl,rfl,rfl⟩,⟨rfl,rfl,rfl⟩,⟨rfl,rfl,rfl⟩,⟨rfl,rfl,rfl⟩,trivial⟩ (ht y (List.mem_of_getElem? hy))) ai)
    (ae (dN (n:=0) (t:=22) ⟨_,Tryz.underlying22⟩ rfl (l:=.ref 3) (fun _ _=>aF rfl aE)) (ae (aw (t:=3) (ah (n:=2) rfl) (ah (n:=3) rfl) (aK (by omega))) (ae (aw (t:=3) (ah (n:=2) rfl) (ah (n:=1) rfl) (cm (by omega))) (ae (gD (n:=0) (m:=4) (k:=k) (x:=y) (R:=R) (t:=22) Tryz.underlying22 (by kernel_rfl) rfl rfl (aT (ah (n:=2) rfl) (by omega)) hy) (ae (jj (n:=4) (m:=5) (t:=35) (f:=1) (off:=1) (sz:=20) (by kernel_rfl) rfl rfl (hr1 (x:=y))) (ae (dw (n:=5) (t:=33) (ls:=bf [7,10,13,16,19,22,25]) (by kernel_rfl) (by kernel_rfl) rfl (d5 (rs:=y.rs) ⟨⟨rfl,rfl,rfl⟩,⟨rfl,rfl,rfl⟩,⟨rfl,rfl,rfl⟩,⟨rfl,rfl,rfl⟩,⟨rfl,rfl,rfl⟩,⟨rfl,rfl,rfl⟩,⟨rfl,rfl,rfl⟩,trivial⟩)) (ae (cj (m:=28) (t:=3) (ah (n:=2) rfl) (aG (c:=1)) rfl rfl (by omega) (by omega)) (aj))))))))
    (by kernel_rfl) (obs:=[]) (by kernel_rfl) aD (cmP (by kernel_rfl)) (aB (sgi (n:=2) (u:=(((k:Nat):Int)+1)) (v:=((k+1:Nat):Int)) rfl (ah (n:=28) rfl) (by omega)) aI) (Nat.zero_le _)
  ·refine aO (N:=3) (ρx:=frs (iD R v M)++(([.rowW R.length (bT R),.val (.int .i64 ((M:Nat):Int))]:List Vp)++(([.val (.int .i64 ((R.length:Nat):Int))]:List Vp)++(([.val (.int .i64 (R.length:Int))]:List Vp))))) (cmX (by kernel_rfl)) (by kernel_rfl) (Nat.zero_le _) ?_
   exact aJ (N:=2) (σ:=[]) (lo:=[]) (n:=300) (ai)
    (ae (dN (n:=0) (t:=22) ⟨_,Tryz.underlying22⟩ rfl (l:=.ref 3) (fun _ _=>aF rfl aE)) (ae (aw (t:=3) (ah (n:=2) rfl) (ah (n:=3) rfl) (aM (by omega))) (aj)))
    (by kernel_rfl) (obs:=[]) (by kernel_rfl) aD (cmP (by kernel_rfl)) aI (Nat.zero_le _)
 refine(aX (ρ:=frs (iD R v M)++(([.rowW R.length (bT R),.val (.int .i64 ((M:Nat):Int))]:List Vp)++(([.val (.int .i64 (R.length:Int))]:List Vp)))) (w:=w) (fuel:=300) (args:=[.one (.ref 0),.one (.ref 1)]) (vs:=[v,.int .i64 ((M:Nat):Int)]) (r:=.v (.one (.b true))) (lo:=[some (nC,.ext 0,nD)]) (obs:=[⟨aZ Tryz.f8 0,nC,.ext 0,nD⟩])
  (ai)
  (ae (dN (n:=0) (t:=22) ⟨_,Tryz.underlying22⟩ rfl (l:=.ref 2) (fun _ _=>aF rfl aE)) (ae (aw (t:=3) (ah (n:=2) rfl) (ah (n:=1) rfl) (cm (by omega))) (aj))) (by kernel_rfl) Tryz.func8 (by kernel_rfl) (bw hL0 aD) ⟨dc (m:=0) rfl hR,⟨aF (n:=1) rfl aE,trivial⟩⟩).mono ?_
 rintro e w' ⟨v,rfl,h1,h2⟩
 have e1:v= .bool true:=h1
 subst e1
 exact⟨rfl,h2⟩
def nE:MS:=bK 28 [(0,.v (.one (.ref 0))),(1,.v (.one (.ref 1))),(5,.v (.one (.i .i64 0)))] []
def iE (R:List RSt) (v:Value) (M:Nat) (j:Nat) (x:RSt):List Fq:=[]
theorem q_fitsF {w:World} (R:List RSt) (v:Value) (M:Nat) (hR:(Vp.rowW R.length (bT R)).p w v) (hM:M≤1000) (j:Nat) (x:RSt) (hx:R[j]? =some x) (hj:j≤M) (ht:∀(i:Nat) (y:RSt),i<j→R[i]? =some y→y.tw=true) (hb:x.tw=false):
  Calls Tryz.prog 8 #[v,.int .i64 ((M:Nat):Int)] w fun e w'=>e= .returned (.bool false)∧Below w.heap.size w w':=by
 have hjl:=(List.getElem?_eq_some_iff.1 hx).1
 have hL0:LOb.Ok Tryz.prog (frs (iE R v M j x)++(([.rowW R.length (bT R),.val (.int .i64 ((M:Nat):Int))]:List Vp)++(([]:List Vp)))) (Ent.of w) 28 ⟨aZ Tryz.f8 0,nE,.ret,bK 28 [(4,.v (.one (.b false)))] []⟩:=by
  refine a8 j (fun k=>frs (iE R v M j x)++(([.rowW R.length (bT R),.val (.int .i64 ((M:Nat):Int))]:List Vp)++(([.val (.int .i64 ((k:Nat):Int))]:List Vp)))) (fun _=>bK 28 [(0,.v (.one (.ref 0))),(1,.v (.one (.ref 1))),(5,.v (.one (.ref 2)))] []) ?_ ?_ ?_ (by decide) (Nat.zero_le _)
  ·intro a_ w_ h_
   exact MSt.conv (N:=2) (σ:=[(2,.i .i64 0)]) (cmP (by kernel_rfl)) (aB (sgi (n:=2) (u:=0) (v:=((0:Nat):Int)) rfl (aG (c:=0)) (by omega)) aI) (by kernel_rfl) h_ (Nat.zero_le _)
  ·intro k hk
   obtain⟨y,hy⟩:∃x,R[k]? =some x:=⟨_,List.getElem?_eq_getElem (by omega)⟩
   refine aO (N:=3) (ρx:=frs (iE R v M j x)++(([.rowW R.length (bT R),.val (.int .i64 ((M:Nat):Int))]:List Vp)++(([.val (.int .i64 ((k:Nat):Int))]:List Vp)++(([.val (.int .i64 (R.length:Int)),.plcW y.qs,.plcW (jk y.rs),.val (.int .i64 y.tm),.val (.bool y.r0.s),.dig y.r0.L y.r0.p,.dig y.r0.N y.r0.q,.val (.bool y.r1.s),.dig y.r1.L y.r1.p,.dig y.r1.N y.r1.q,.val (.bool y.r2.s),.dig y.r2.L y.r2.p,.dig y.r2.N y.r2.q,.val (.bool y.r3.s),.dig y.r3.L y.r3.p,.dig y.r3.N y.r3.q,.val (.bool y.r4.s),.dig y.r4.L y.r4.p,.dig y.r4.N y.r4.q,.val (.bool y.r5.s),.dig y.r5.L y.r5.p,.dig y.r5.N y.r5.q,.val (.bool y.r6.s),.dig y.r6.L y.r6.p,.dig y.r6.N y.r6.q,.val (.int .i64 (((k:Nat):Int)+1))]:List Vp))))) (cmX (by kernel_rfl)) (by kernel_rfl) (Nat.zero_le _) ?_
   exact aJ (N:=2) (σ:=[(2,.ref 28)]) (lo:=[]) (n:=300) (af (kE (ns:=[7,10,13,16,19,22,25]) (x:=y) (b:=true) ⟨⟨rfl,rfl,rfl⟩,⟨rfl,rfl,rfl⟩,⟨rfl,rfl,rfl⟩,⟨rfl,rfl,rfl⟩,⟨rfl,rfl,rfl⟩,⟨rfl,rfl,rfl⟩,⟨rfl,rfl,rfl⟩,trivial⟩ (ht k y hk hy)) ai)
    (ae (dN (n:=0) (t:=22) ⟨_,Tryz.underlying22⟩ rfl (l:=.ref 3) (fun _ _=>aF rfl aE)) (ae (aw (t:=3) (ah (n:=2) rfl) (ah (n:=3) rfl) (aK (by omega))) (ae (aw (t:=3) (ah (n:=2) rfl) (ah (n:=1) rfl) (cm (by omega))) (ae (gD (n:=0) (m:=4) (k:=k) (x:=y) (R:=R) (t:=22) Tryz.underlying22 (by kernel_rfl) rfl rfl (aT (ah (n:=2) rfl) (by omega)) hy) (ae (jj (n:=4) (m:=5) (t:=35) (f:=1) (off:=1) (sz:=20) (by kernel_rfl) rfl rfl (hr1 (x:=y))) (ae (dw (n:=5) (t:=33) (ls:=bf [7,10,13,16,19,22,25]) (by kernel_rfl) (by kernel_rfl) rfl (d5 (rs:=y.rs) ⟨⟨rfl,rfl,rfl⟩,⟨rfl,rfl,rfl⟩,⟨rfl,rfl,rfl⟩,⟨rfl,rfl,rfl⟩,⟨rfl,rfl,rfl⟩,⟨rfl,rfl,rfl⟩,⟨rfl,rfl,rfl⟩,trivial⟩)) (ae (cj (m:=28) (t:=3) (ah (n:=2) rfl) (aG (c:=1)) rfl rfl (by omega) (by omega)) (aj))))))))
    (by kernel_rfl) (obs:=[]) (by kernel_rfl) aD (cmP (by kernel_rfl)) (aB (sgi (n:=2) (u:=(((k:Nat):Int)+1)) (v:=((k+1:Nat):Int)) rfl (ah (n:=28) rfl) (by omega)) aI) (Nat.zero_le _)
  ·refine aO (N:=3) (ρx:=frs (iE R v M j x)++(([.rowW R.length (bT R),.val (.int .i64 ((M:Nat):Int))]:List Vp)++(([.val (.int .i64 ((j:Nat):Int))]:List Vp)++(([.val (.int .i64 (R.length:Int)),.plcW x.qs,.plcW (jk x.rs),.val (.int .i64 x.tm),.val (.bool x.r0.s),.dig x.r0.L x.r0.p,.dig x.r0.N x.r0.q,.val (.bool x.r1.s),.dig x.r1.L x.r1.p,.dig x.r1.N x.r1.q,.val (.bool x.r2.s),.dig x.r2.L x.r2.p,.dig x.r2.N x.r2.q,.val (.bool x.r3.s),.dig x.r3.L x.r3.p,.dig x.r3.N x.r3.q,.val (.bool x.r4.s),.dig x.r4.L x.r4.p,.dig x.r4.N x.r4.q,.val (.bool x.r5.s),.dig x.r5.L x.r5.p,.dig x.r5.N x.r5.q,.val (.bool x.r6.s),.dig x.r6.L x.r6.p,.dig x.r6.N x.r6.q]:List Vp))))) (cmX (by kernel_rfl)) (by kernel_rfl) (Nat.zero_le _) ?_
   exact aJ (N:=2) (σ:=[]) (lo:=[]) (n:=300) (af (kE (ns:=[7,10,13,16,19,22,25]) (x:=x) (b:=false) ⟨⟨rfl,rfl,rfl⟩,⟨rfl,rfl,rfl⟩,⟨rfl,rfl,rfl⟩,⟨rfl,rfl,rfl⟩,⟨rfl,rfl,rfl⟩,⟨rfl,rfl,rfl⟩,⟨rfl,rfl,rfl⟩,trivial⟩ hb) ai)
    (ae (dN (n:=0) (t:=22) ⟨_,Tryz.underlying22⟩ rfl (l:=.ref 3) (fun _ _=>aF rfl aE)) (ae (aw (t:=3) (ah (n:=2) rfl) (ah (n:=3) rfl) (aK (by omega))) (ae (aw (t:=3) (ah (n:=2) rfl) (ah (n:=1) rfl) (cm (by omega))) (ae (gD (n:=0) (m:=4) (k:=j) (x:=x) (R:=R) (t:=22) Tryz.underlying22 (by kernel_rfl) rfl rfl (aT (ah (n:=2) rfl) (by omega)) hx) (ae (jj (n:=4) (m:=5) (t:=35) (f:=1) (off:=1) (sz:=20) (by kernel_rfl) rfl rfl (hr1 (x:=x))) (ae (dw (n:=5) (t:=33) (ls:=bf [7,10,13,16,19,22,25]) (by kernel_rfl) (by kernel_rfl) rfl (d5 (rs:=x.rs) ⟨⟨rfl,rfl,rfl⟩,⟨rfl,rfl,rfl⟩,⟨rfl,rfl,rfl⟩,⟨rfl,rfl,rfl⟩,⟨rfl,rfl,rfl⟩,⟨rfl,rfl,rfl⟩,⟨rfl,rfl,rfl⟩,trivial⟩)) (aj)))))))
    (by kernel_rfl) (obs:=[]) (by kernel_rfl) aD (cmP (by kernel_rfl)) aI (Nat.zero_le _)
 refine(aX (ρ:=frs (iE R v M j x)++(([.rowW R.length (bT R),.val (.int .i64 ((M:Nat):Int))]:List Vp)++(([]:List Vp)))) (w:=w) (fuel:=300) (args:=[.one (.ref 0),.one (.ref 1)]) (vs:=[v,.int .i64 ((M:Nat):Int)]) (r:=.v (.one (.b false))) (lo:=[some (nE,.ret,bK 28 [(4,.v (.one (.b false)))] [])]) (obs:=[⟨aZ Tryz.f8 0,nE,.ret,bK 28 [(4,.v (.one (.b false)))] []⟩])
  (ai)
  aj (by kernel_rfl) Tryz.func8 (by kernel_rfl) (bw hL0 aD) ⟨dc (m:=0) rfl hR,⟨aF (n:=1) rfl aE,trivial⟩⟩).mono ?_
 rintro e w' ⟨v,rfl,h1,h2⟩
 have e1:v= .bool false:=h1
 subst e1
 exact⟨rfl,h2⟩
def nF:MS:=bK 28 [(0,.v (.one (.ref 0))),(1,.v (.one (.ref 1))),(5,.v (.one (.i .i64 0)))] []
def nG:MS:=bK 28 [(0,.v (.one (.ref 0))),(1,.v (.one (.ref 1)))] []
def iF (R:List RSt) (v:Value) (M:Nat):List Fq:=[]
theorem q_fitsG {w:World} (R:List RSt) (v:Value) (M:Nat) (hR:(Vp.rowW R.length (bT R)).p w v) (hM:M≤1000) (ht:∀(i:Nat) (y:RSt),i<M+1→R[i]? =some y→y.tw=true) (hl:M+1<R.length):
  Calls Tryz.prog 8 #[v,.int .i64 ((M:Nat):Int)] w fun e w'=>e= .returned (.bool false)∧Below w.heap.size w w':=by
 have hL0:LOb.Ok Tryz.prog (frs (iF R v M)++(([.rowW R.length (bT R),.val (.int .i64 ((M:Nat):Int))]:List Vp)++(([.val (.int .i64 (R.length:Int))]:List Vp)))) (Ent.of w) 28 ⟨aZ Tryz.f8 0,nF,.ext 0,nG⟩:=by
  refine a8 (M+1) (fun k=>frs (iF R v M)++(([.rowW R.length (bT R),.val (.int .i64 ((M:Nat):Int))]:List Vp)++(([.val (.int .i64 ((k:Nat):Int))]:List Vp)))) (fun _=>bK 28 [(0,.v (.one (.ref 0))),(1,.v (.one (.ref 1))),(5,.v (.one (.ref 2)))] []) ?_ ?_ ?_ (by decide) (Nat.zero_le _)
  ·intro a_ w_ h_
   exact MSt.conv (N:=2) (σ:=[(2,.i .i64 0)]) (cmP (by kernel_rfl)) (aB (sgi (n:=2) (u:=0) (v:=((0:Nat):Int)) rfl (aG (c:=0)) (by omega)) aI) (by kernel_rfl) h_ (Nat.zero_le _)
  ·intro k hk
   obtain⟨y,hy⟩:∃x,R[k]? =some x:=⟨_,List.getElem?_eq_getElem (by omega)⟩
   refine aO (N:=3) (ρx:=frs (iF R v M)++(([.rowW R.length (bT R),.val (.int .i64 ((M:Nat):Int))]:List Vp)++(([.val (.int .i64 ((k:Nat):Int))]:List Vp)++(([.val (.int .i64 (R.length:Int)),.plcW y.qs,.plcW (jk y.rs),.val (.int .i64 y.tm),.val (.bool y.r0.s),.dig y.r0.L y.r0.p,.dig y.r0.N y.r0.q,.val (.bool y.r1.s),.dig y.r1.L y.r1.p,.dig y.r1.N y.r1.q,.val (.bool y.r2.s),.dig y.r2.L y.r2.p,.dig y.r2.N y.r2.q,.val (.bool y.r3.s),.dig y.r3.L y.r3.p,.dig y.r3.N y.r3.q,.val (.bool y.r4.s),.dig y.r4.L y.r4.p,.dig y.r4.N y.r4.q,.val (.bool y.r5.s),.dig y.r5.L y.r5.p,.dig y.r5.N y.r5.q,.val (.bool y.r6.s),.dig y.r6.L y.r6.p,.dig y.r6.N y.r6.q,.val (.int .i64 (((k:Nat):Int)+1))]:List Vp))))) (cmX (by kernel_rfl)) (by kernel_rfl) (Nat.zero_le _) ?_
   exact aJ (N:=2) (σ:=[(2,.ref 28)]) (lo:=[]) (n:=300) (af (kE (ns:=[7,10,13,16,19,22,25]) (x:=y) (b:=true) ⟨⟨rfl,rfl,rfl⟩,⟨rfl,rfl,rfl⟩,⟨rfl,rfl,rfl⟩,⟨rfl,rfl,rfl⟩,⟨rfl,rfl,rfl⟩,⟨rfl,rfl,rfl⟩,⟨rfl,rfl,rfl⟩,trivial⟩ (ht k y hk hy)) ai)
    (ae (dN (n:=0) (t:=22) ⟨_,Tryz.underlying22⟩ rfl (l:=.ref 3) (fun _ _=>aF rfl aE)) (ae (aw (t:=3) (ah (n:=2) rfl) (ah (n:=3) rfl) (aK (by omega))) (ae (aw (t:=3) (ah (n:=2) rfl) (ah (n:=1) rfl) (cm (by omega))) (ae (gD (n:=0) (m:=4) (k:=k) (x:=y) (R:=R) (t:=22) Tryz.underlying22 (by kernel_rfl) rfl rfl (aT (ah (n:=2) rfl) (by omega)) hy) (ae (jj (n:=4) (m:=5) (t:=35) (f:=1) (off:=1) (sz:=20) (by kernel_rfl) rfl rfl (hr1 (x:=y))) (ae (dw (n:=5) (t:=33) (ls:=bf [7,10,13,16,19,22,25]) (by kernel_rfl) (by kernel_rfl) rfl (d5 (rs:=y.rs) ⟨⟨rfl,rfl,rfl⟩,⟨rfl,rfl,rfl⟩,⟨rfl,rfl,rfl⟩,⟨rfl,rfl,rfl⟩,⟨rfl,rfl,rfl⟩,⟨rfl,rfl,rfl⟩,⟨rfl,rfl,rfl⟩,trivial⟩)) (ae (cj (m:=28) (t:=3) (ah (n:=2) rfl) (aG (c:=1)) rfl rfl (by omega) (by omega)) (aj))))))))
    (by kernel_rfl) (obs:=[]) (by kernel_rfl) aD (cmP (by kernel_rfl)) (aB (sgi (n:=2) (u:=(((k:Nat):Int)+1)) (v:=((k+1:Nat):Int)) rfl (ah (n:=28) rfl) (by omega)) aI) (Nat.zero_le _)
  ·refine aO (N:=3) (ρx:=frs (iF R v M)++(([.rowW R.length (bT R),.val (.int .i64 ((M:Nat):Int))]:List Vp)++(([.val (.int .i64 (((M+1):Nat):Int))]:List Vp)++(([.val (.int .i64 (R.length:Int))]:List Vp))))) (cmX (by kernel_rfl)) (by kernel_rfl) (Nat.zero_le _) ?_
   exact aJ (N:=2) (σ:=[]) (lo:=[]) (n:=300) (ai)
    (ae (dN (n:=0) (t:=22) ⟨_,Tryz.underlying22⟩ rfl (l:=.ref 3) (fun _ _=>aF rfl aE)) (ae (aw (t:=3) (ah (n:=2) rfl) (ah (n:=3) rfl) (aK (by omega))) (ae (aw (t:=3) (ah (n:=2) rfl) (ah (n:=1) rfl) (dF (by omega))) (aj))))
    (by kernel_rfl) (obs:=[]) (by kernel_rfl) aD (cmP (by kernel_rfl)) aI (Nat.zero_le _)
 refine(aX (ρ:=frs (iF R v M)++(([.rowW R.length (bT R),.val (.int .i64 ((M:Nat):Int))]:List Vp)++(([.val (.int .i64 (R.length:Int))]:List Vp)))) (w:=w) (fuel:=300) (args:=[.one (.ref 0),.one (.ref 1)]) (vs:=[v,.int .i64 ((M:Nat):Int)]) (r:=.v (.one (.b false))) (lo:=[some (nF,.ext 0,nG)]) (obs:=[⟨aZ Tryz.f8 0,nF,.ext 0,nG⟩])
  (ai)
  (ae (dN (n:=0) (t:=22) ⟨_,Tryz.underlying22⟩ rfl (l:=.ref 2) (fun _ _=>aF rfl aE)) (ae (aw (t:=3) (ah (n:=2) rfl) (ah (n:=1) rfl) (dF (by omega))) (aj))) (by kernel_rfl) Tryz.func8 (by kernel_rfl) (bw hL0 aD) ⟨dc (m:=0) rfl hR,⟨aF (n:=1) rfl aE,trivial⟩⟩).mono ?_
 rintro e w' ⟨v,rfl,h1,h2⟩
 have e1:v= .bool false:=h1
 subst e1
 exact⟨rfl,h2⟩
def nH:MS:=bK 28 [(0,.v (.one (.ref 0))),(1,.v (.one (.ref 1))),(5,.v (.one (.i .i64 0)))] []
def nI:MS:=bK 28 [(0,.v (.one (.ref 0))),(1,.v (.one (.ref 1)))] []
def iG (R:List RSt) (v:Value) (M:Nat):List Fq:=[]
theorem q_fitsH {w:World} (R:List RSt) (v:Value) (M:Nat) (hR:(Vp.rowW R.length (bT R)).p w v) (hM:M≤1000) (ht:∀(i:Nat) (y:RSt),i<M+1→R[i]? =some y→y.tw=true) (hl:R.length=M+1):
  Calls Tryz.prog 8 #[v,.int .i64 ((M:Nat):Int)] w fun e w'=>e= .returned (.bool false)∧Below w.heap.size w w':=by
 have hL0:LOb.Ok Tryz.prog (frs (iG R v M)++(([.rowW R.length (bT R),.val (.int .i64 ((M:Nat):Int))]:List Vp)++(([.val (.int .i64 (R.length:Int))]:List Vp)))) (Ent.of w) 28 ⟨aZ Tryz.f8 0,nH,.ext 0,nI⟩:=by
  refine a8 R.length (fun k=>frs (iG R v M)++(([.rowW R.length (bT R),.val (.int .i64 ((M:Nat):Int))]:List Vp)++(([.val (.int .i64 ((k:Nat):Int))]:List Vp)))) (fun _=>bK 28 [(0,.v (.one (.ref 0))),(1,.v (.one (.ref 1))),(5,.v (.one (.ref 2)))] []) ?_ ?_ ?_ (by decide) (Nat.zero_le _)
  ·intro a_ w_ h_
   exact MSt.conv (N:=2) (σ:=[(2,.i .i64 0)]) (cmP (by kernel_rfl)) (aB (sgi (n:=2) (u:=0) (v:=((0:Nat):Int)) rfl (aG (c:=0)) (by omega)) aI) (by kernel_rfl) h_ (Nat.zero_le _)
  ·intro k hk
   obtain⟨y,hy⟩:∃x,R[k]? =some x:=⟨_,List.getElem?_eq_getElem (by omega)⟩
   refine aO (N:=3) (ρx:=frs (iG R v M)++(([.rowW R.length (bT R),.val (.int .i64 ((M:Nat):Int))]:List Vp)++(([.val (.int .i64 ((k:Nat):Int))]:List Vp)++(([.val (.int .i64 (R.length:Int)),.plcW y.qs,.plcW (jk y.rs),.val (.int .i64 y.tm),.val (.bool y.r0.s),.dig y.r0.L y.r0.p,.dig y.r0.N y.r0.q,.val (.bool y.r1.s),.dig y.r1.L y.r1.p,.dig y.r1.N y.r1.q,.val (.bool y.r2.s),.dig y.r2.L y.r2.p,.dig y.r2.N y.r2.q,.val (.bool y.r3.s),.dig y.r3.L y.r3.p,.dig y.r3.N y.r3.q,.val (.bool y.r4.s),.dig y.r4.L y.r4.p,.dig y.r4.N y.r4.q,.val (.bool y.r5.s),.dig y.r5.L y.r5.p,.dig y.r5.N y.r5.q,.val (.bool y.r6.s),.dig y.r6.L y.r6.p,.dig y.r6.N y.r6.q,.val (.int .i64 (((k:Nat):Int)+1))]:List Vp))))) (cmX (by kernel_rfl)) (by kernel_rfl) (Nat.zero_le _) ?_
   exact aJ (N:=2) (σ:=[(2,.ref 28)]) (lo:=[]) (n:=300) (af (kE (ns:=[7,10,13,16,19,22,25]) (x:=y) (b:=true) ⟨⟨rfl,rfl,rfl⟩,⟨rfl,rfl,rfl⟩,⟨rfl,rfl,rfl⟩,⟨rfl,rfl,rfl⟩,⟨rfl,rfl,rfl⟩,⟨rfl,rfl,rfl⟩,⟨rfl,rfl,rfl⟩,trivial⟩ (ht k y (by omega) hy)) ai)
    (ae (dN (n:=0) (t:=22) ⟨_,Tryz.underlying22⟩ rfl (l:=.ref 3) (fun _ _=>aF rfl aE)) (ae (aw (t:=3) (ah (n:=2) rfl) (ah (n:=3) rfl) (aK (by omega))) (ae (aw (t:=3) (ah (n:=2) rfl) (ah (n:=1) rfl) (cm (by omega))) (ae (gD (n:=0) (m:=4) (k:=k) (x:=y) (R:=R) (t:=22) Tryz.underlying22 (by kernel_rfl) rfl rfl (aT (ah (n:=2) rfl) (by omega)) hy) (ae (jj (n:=4) (m:=5) (t:=35) (f:=1) (off:=1) (sz:=20) (by kernel_rfl) rfl rfl (hr1 (x:=y))) (ae (dw (n:=5) (t:=33) (ls:=bf [7,10,13,16,19,22,25]) (by kernel_rfl) (by kernel_rfl) rfl (d5 (rs:=y.rs) ⟨⟨rfl,rfl,rfl⟩,⟨rfl,rfl,rfl⟩,⟨rfl,rfl,rfl⟩,⟨rfl,rfl,rfl⟩,⟨rfl,rfl,rfl⟩,⟨rfl,rfl,rfl⟩,⟨rfl,rfl,rfl⟩,trivial⟩)) (ae (cj (m:=28) (t:=3) (ah (n:=2) rfl) (aG (c:=1)) rfl rfl (by omega) (by omega)) (aj))))))))
    (by kernel_rfl) (obs:=[]) (by kernel_rfl) aD (cmP (by kernel_rfl)) (aB (sgi (n:=2) (u:=(((k:Nat):Int)+1)) (v:=((k+1:Nat):Int)) rfl (ah (n:=28) rfl) (by omega)) aI) (Nat.zero_le _)
  ·refine aO (N:=3) (ρx:=frs (iG R v M)++(([.rowW R.length (bT R),.val (.int .i64 ((M:Nat):Int))]:List Vp)++(([.val (.int .i64 ((R.length:Nat):Int))]:List Vp)++(([.val (.int .i64 (R.length:Int))]:List Vp))))) (cmX (by kernel_rfl)) (by kernel_rfl) (Nat.zero_le _) ?_
   exact aJ (N:=2) (σ:=[]) (lo:=[]) (n:=300) (ai)
    (ae (dN (n:=0) (t:=22) ⟨_,Tryz.underlying22⟩ rfl (l:=.ref 3) (fun _ _=>aF rfl aE)) (ae (aw (t:=3) (ah (n:=2) rfl) (ah (n:=3) rfl) (aM (by omega))) (aj)))
    (by kernel_rfl) (obs:=[]) (by kernel_rfl) aD (cmP (by kernel_rfl)) aI (Nat.zero_le _)
 refine(aX (ρ:=frs (iG R v M)++(([.rowW R.length (bT R),.val (.int .i64 ((M:Nat):Int))]:List Vp)++(([.val (.int .i64 (R.length:Int))]:List Vp)))) (w:=w) (fuel:=300) (args:=[.one (.ref 0),.one (.ref 1)]) (vs:=[v,.int .i64 ((M:Nat):Int)]) (r:=.v (.one (.b false))) (lo:=[some (nH,.ext 0,nI)]) (obs:=[⟨aZ Tryz.f8 0,nH,.ext 0,nI⟩])
  (ai)
  (ae (dN (n:=0) (t:=22) ⟨_,Tryz.underlying22⟩ rfl (l:=.ref 2) (fun _ _=>aF rfl aE)) (ae (aw (t:=3) (ah (n:=2) rfl) (ah (n:=1) rfl) (dF (by omega))) (aj))) (by kernel_rfl) Tryz.func8 (by kernel_rfl) (bw hL0 aD) ⟨dc (m:=0) rfl hR,⟨aF (n:=1) rfl aE,trivial⟩⟩).mono ?_
 rintro e w' ⟨v,rfl,h1,h2⟩
 have e1:v= .bool false:=h1
 subst e1
 exact⟨rfl,h2⟩
def mD (R:List RSt) (M:Nat):Prop:=R.length≤M∧∀x∈R,x.two
open Classical in
theorem q_fits {w:World} (R:List RSt) (v:Value) (M:Nat) (hR:(Vp.rowW R.length (bT R)).p w v) (hM:M≤1000):Calls Tryz.prog 8 #[v,.int .i64 ((M:Nat):Int)] w fun e w'=>e= .returned (.bool (decide (mD R M)))∧Below w.heap.size w w':=by
 have first:∀n,(∀(i:Nat) (y:RSt),i<n→R[i]? =some y→y.tw=true)∨∃j x,j<n∧R[j]? =some x∧(∀(i:Nat) (y:RSt),i<j→R[i]? =some y→y.tw=true)∧x.tw=false:=by
  intro n
  induction n with
  | zero=>exact .inl (fun i y h=>by omega)
  | succ n ih=>
   rcases ih with h | ⟨j,x,h1,h2⟩
   ·by_cases hb:∃x,R[n]? =some x∧x.tw=false
    ·obtain⟨x,hx,hb⟩:=hb
     exact .inr ⟨n,x,by omega,hx,h,hb⟩
    ·refine .inl (fun i y hi hy=> ?_)
     by_cases e:i=n
     ·subst e
      cases ht:y.tw with
      | true=>rfl
      | false=>exact absurd ⟨y,hy,ht⟩ hb
     ·exact h i y (by omega) hy
   ·exact .inr ⟨j,x,by omega,h2⟩
 rcases first (M+1)with h | ⟨j,x,hj,hx,ht,hb⟩
 ·by_cases hl:R.length≤M
  ·have ht:∀x∈R,x.tw=true:=fun x hx=>by
    obtain⟨i,hi,rfl⟩:=List.getElem_of_mem hx
    exact h i _ (by omega) (List.getElem?_eq_getElem hi)
   rw[show decide (mD R M)=true from decide_eq_true ⟨hl,fun x hx=>RSt.tw_iff.1 (ht x hx)⟩]
   exact q_fitsT R v M hR hM ht hl
  ·rw[show decide (mD R M)=false from decide_eq_false (fun hf=>hl hf.1)]
   by_cases he:R.length=M+1
   ·exact q_fitsH R v M hR hM h he
   ·exact q_fitsG R v M hR hM h (by omega)
 ·rw[show decide (mD R M)=false from decide_eq_false (fun hf=>by
   have:=RSt.tw_iff.2 (hf.2 x (List.mem_of_getElem? hx))
   rw[hb]at this;cases this)]
  exact q_fitsF R v M hR hM j x hx (by omega) ht hb
end Go.Proofs.YtfhinmdhjlmikaaGreat
namespace Go.Proofs.YtfhinmdhjlmikaaGreat
set_option linter.unusedSimpArgs false
set_option linter.unusedVariables false
set_option maxRecDepth 100000
open Go.RowKit
theorem Pq.good.btw {a b:Pq} {m:Fq} (ga:a.good) (gb:b.good) (gm:m.valid=true):(Pq.mk (a.rot.way (a.rot.inv.mul b.rot) m) (a.pos.lerp b.pos m)).good:=Pq.good.mk (way_good ga.rot (ig (bM ga.rot) gb.rot).comp gm) (ga.pos.lerp gb.pos gm)
theorem road_z {S:List St} {a:Int} {z y:St} {c:Int} (hS:GoodS S) (h:Road S a z y c) (h0:c=0):GoodT z∧GoodT y∧z.tm≤a∧a≤y.tm∧(z.tm=y.tm→z=y):=by
 cases h with
 | E _=>omega
 | O1 _ _ _ _=>omega
 | O2 _ _ _ _ _ _ _=>omega
 | Q f hf hb l hl hn ha y hy ey hp eq1=>exact⟨hS.at hy,hS.at hy,by omega,by omega,fun _=>rfl⟩
 | M f hf hb l hl hn ha y hy ey hp h1 eq1 z hz=>
  obtain⟨z',h2,h3⟩:=dv (S:=S) (a:=a) (k:=plN S a - 1) (by omega)
  rw[hz]at h2;injection h2 with h2;subst h2
  exact⟨hS.at hz,hS.at hy,by omega,by omega,by omega⟩
theorem sX {S:List St} {a:Int} {z y:St} (hS:GoodS S) (h:Road S a z y 0):(atP z y 0 a).good∧(atP z y 0 a).ok 1000000:=by
 obtain⟨gz,gy,h1,h2,_⟩:=road_z hS h rfl
 unfold atP
 rw[if_neg (by omega)]
 split
 ·exact⟨gy.good,gy.ok.mono (by decide)⟩
 ·have zl:=gz.lo;have yh:=gy.hi
  have v:=dV (v:=a - z.tm) (u:=y.tm - z.tm) (by omega)
  have k:=eN (v:=a - z.tm) (u:=y.tm - z.tm) (by omega) (by omega) (by omega) (by omega) (by omega)
  exact⟨Pq.good.btw gz.good gy.good v,⟨(pA gz.ok.rot gy.ok.rot k gz.good.rot gy.good.rot v).mono (by decide),(gz.ok.pos.lerp gy.ok.pos k).mono (by decide)⟩⟩
section
variable {xs:List Fq} {ys:Rho} {n m m' u n0 n1:Nat} {k:Nat} {ks kr k0 k1:List Nat} {l la lc:Leaf} {S S':List St} {a c t:Int} {z y s:St} {r:SV}
theorem st_isC {ρ:Rho} {B:Blk} {w:World} {v:Value} {xs:List Fq} {ys:Rho} {ks:List Nat} {s:St} (ha:AtL xs ks s.pose.cs) (ht:s.tm=t):(SV.agg (.i .i64 t::bk ks)).holds (frs xs++ys) B w v↔cn w v s:=by
 constructor
 ·rintro⟨vs,rfl,h⟩
  match vs,h with
  | v0::vs,h=>
   have e:v0= .int .i64 t:=h.1
   subst e;subst ht
   exact⟨vs,rfl,(fe ha).1 h.2⟩
 ·rintro⟨cs,rfl,h⟩
  subst ht
  exact⟨.int .i64 s.tm::cs,rfl,rfl,(fe ha).2 h⟩
/-- Add of a stamp that is known. -/
theorem sY (hm:(frs xs++ys)[m]? =some (.row stT S.length (az S))) (hm':(frs xs++ys)[m']? =some (.row stT S'.length (az S'))) (ha:AtL xs ks s.pose.cs) (ht:s.tm=t) (he:jl S s=(S',c)) (hs:s.pose.ok 2) (gs:s.pose.good) (hS:GoodS S):
  (OIns.mk (.mut 14 ⟨[k],[(u,79,[.own k m])],[(u,79,[.own k m'])],none,[],[.one (.i .i64 c)]⟩) [.one (.ptr u 0),.agg (.i .i64 t::bk ks)] r).Ok Tryz.prog (frs xs++ys):=
 mu (args:=[.agg (.i .i64 t::bk ks)]) (aA Tryz.func14 rfl rfl) hm hm' (fun B w g sl vs _ ht' hv=>by
  match vs,hv with
  | [v],hv=>
   refine(q_Add S s v ht' ((st_isC (ρ:=ys) ha ht).1 hv.1) hs gs hS).mono ?_
   rw[he]
   rintro e w' ⟨rfl,h3⟩
   exact⟨_,rfl,fun B'=>rfl,h3⟩)
theorem I_AtS (tl:gI (frs xs++ys) u 79 l S) (ka:KI (frs xs++ys) la .i64 a) (hS:GoodS S) (hr:Road S a z y c) (ar:AtL xs kr (atP z y c a).cs) (hlc:∀B w,lc.holds (frs xs++ys) B w (.int .i64 c)):
  (OIns.mk (.mut 12 ⟨[],[(u,79,[l])],[],none,[],[row kr,.one lc]⟩) [.one (.ptr u 0),.one la] r).Ok Tryz.prog (frs xs++ys):=
 bY (args:=[.one la]) (aA Tryz.func12 rfl rfl) tl (fun B w g sl vs _ ht hv=>by
  match vs,hv with
  | [v],hv=>
   have e:=ka _ _ _ hv.1
   subst e
   refine(q_AtS ht hS hr).mono ?_
   rintro e w' ⟨v0,rfl,h1,h2⟩
   exact⟨_,rfl,fun B' _=>⟨[v0,.int .i64 c],rfl,(ag ar).2 h1,hlc _ _,trivial⟩,h2⟩)
end
/-- Poses that agree, as they lie in memory. -/
theorem I_rpEqR {ρ:Rho} {ns ns':List Nat} {s:St} (hr:AtR ρ ns s.raw.rs) (hr':AtR ρ ns' s.raw.rs) (hs:s.pose.ok 2):Inst.Ok Tryz.prog ρ ⟨15,[cU ns,cU ns'],.v (.one (.b true))⟩:=
 ⟨aA Tryz.func15 rfl rfl,fun B w vs hB h=>by
  match vs,h with
  | [v,v'],h=>
   refine(lm v v' s.pose s.pose w ((aP hr).1 h.1) ((aP hr').1 h.2.1) (hs.mono (by decide)) (hs.mono (by decide)) rfl).mono ?_
   rintro e w' ⟨rfl,h2⟩
   exact⟨_,rfl,rfl,h2⟩⟩
end Go.Proofs.YtfhinmdhjlmikaaGreat
namespace Go.Proofs.YtfhinmdhjlmikaaGreat
set_option linter.unusedSimpArgs false
set_option linter.unusedVariables false
set_option maxRecDepth 100000
open Go.RowKit
def dH (a b c:Int):Pq:=⟨⟨Fq.ofInt a,Fq.ofInt 0,Fq.ofInt 0,Fq.ofInt b⟩,Vq.of c 0 0⟩
def tu1:St:=⟨10,dH 1 0 0⟩
def tu2:St:=⟨20,dH 0 1 0⟩
def tu3:St:=⟨20,dH 1 1 4⟩
def tu4:St:=⟨20,dH 1 0 4⟩
theorem mE {a b c:Int} (la: -9223372036854775808≤a) (ra:a<9223372036854775808) (lb: -9223372036854775808≤b) (rb:b<9223372036854775808) (lc: -9223372036854775808≤c) (rc:c<9223372036854775808):(dH a b c).ok 2:=
 ⟨⟨bE la ra,bE (by decide) (by decide),bE (by decide) (by decide),bE lb rb⟩,wH lc rc (by decide) (by decide) (by decide) (by decide)⟩
theorem tu1_ok:tu1.pose.ok 2:=mE (by decide) (by decide) (by decide) (by decide) (by decide) (by decide)
theorem tu2_ok:tu2.pose.ok 2:=mE (by decide) (by decide) (by decide) (by decide) (by decide) (by decide)
theorem tu3_ok:tu3.pose.ok 2:=mE (by decide) (by decide) (by decide) (by decide) (by decide) (by decide)
theorem tu4_ok:tu4.pose.ok 2:=mE (by decide) (by decide) (by decide) (by decide) (by decide) (by decide)
theorem jd {a b c:Int} (h:(dH a b c).rot.first=Fq.ofInt 1):(dH a b c).good:=⟨oJ ⟨aY _,aY _,aY _,aY _⟩ h,Vq.good.of _ _ _⟩
theorem vh:tu1.pose.good:=jd (by rfl)
theorem tu2_good:tu2.pose.good:=jd (by rfl)
theorem vi:tu3.pose.good:=jd (by rfl)
theorem tu4_good:tu4.pose.good:=jd (by rfl)
theorem add1:jl [] tu1=([tu1],0):=by
 unfold jl
 rw[if_neg (by simp[tu1]),if_neg (fun⟨y,hy,_⟩=>by simp[plN]at hy),if_neg (fun⟨y,hy,_⟩=>by simp[plN]at hy),if_neg (fun h=>by
  rcases h with⟨z,h,_⟩ | ⟨y,hy,_⟩
  ·simp[plN]at h
  ·simp[plN]at hy),if_pos (by simp)]
 rfl
theorem pl1:plN [tu1] 20=1:=by simp[plN,tu1]
theorem pl3:plN [tu1,tu3] 20=1:=by simp[plN,tu1,tu3]
theorem add2:jl [tu1] tu2=([tu1],21):=by
 unfold jl
 rw[if_neg (by simp[tu2]),show plN [tu1] tu2.tm=1 from pl1,if_neg (fun⟨y,hy,_⟩=>by simp at hy),if_neg (fun⟨y,hy,_⟩=>by simp at hy),if_pos (.inl ⟨tu1,by omega,rfl,by show((dH 1 0 0).rot.inv.mul (dH 0 1 0).rot).w.p=0;decide⟩)]
theorem add3:jl [tu1] tu3=([tu1,tu3],0):=by
 unfold jl
 rw[if_neg (by simp[tu3]),show plN [tu1] tu3.tm=1 from pl1,if_neg (fun⟨y,hy,_⟩=>by simp at hy),if_neg (fun⟨y,hy,_⟩=>by simp at hy),if_neg (fun h=>by
  rcases h with⟨z,_,hz,ho⟩ | ⟨y,hy,_⟩
  ·simp at hz;subst hz
   exact absurd ho (by show¬((dH 1 0 0).rot.inv.mul (dH 1 1 4).rot).w.p=0;decide)
  ·simp at hy),if_pos (by simp)]
 rfl
theorem add4:jl [tu1,tu3] tu4=([tu1,tu3],7):=by
 unfold jl
 rw[if_neg (by simp[tu4]),show plN [tu1,tu3] tu4.tm=1 from pl3,if_neg (fun⟨y,hy,_,e⟩=>by
  simp at hy;subst hy
  exact absurd (congrArg (fun p:Pq=>p.rot.z.p) e) (by show¬(dH 1 1 4).rot.z.p=(dH 1 0 4).rot.z.p;decide)),if_pos ⟨tu3,rfl,rfl⟩]
theorem gS0:GoodS []:=GoodS.nil
theorem gS1:GoodS [tu1]:=by have:=nu GoodS.nil tu1_ok vh;rw[add1]at this;exact this
theorem gS3:GoodS [tu1,tu3]:=by have:=nu gS1 tu3_ok vi;rw[add3]at this;exact this
theorem sZ:Road [tu1,tu3] 15 tu1 tu3 0:=.M tu1 rfl (by decide) tu3 rfl (by decide) (by decide) tu3 rfl (by decide) (by decide) (by decide) (by decide) tu1 rfl
theorem road21:Road [tu1,tu3] 21 zst zst 17:=.O2 tu1 rfl (by decide) tu3 rfl (by decide) (by decide)
theorem aw_half:(atP tu1 tu3 0 15).rot.z=Fq.ratio 1 2:=by
 unfold atP
 rw[if_neg (by decide),if_neg (by decide)]
 rfl
theorem aw_pos:(atP tu1 tu3 0 15).pos=Vq.of 2 0 0:=by
 unfold atP
 rw[if_neg (by decide),if_neg (by decide)]
 rfl
def p9:List Fq:=[(Fq.ofInt 0)]
theorem xZ (w:World):
  Calls Tryz.prog 39 #[.int .i64 (0),.int .i64 (0),.int .i64 (0)] w fun e w'=>eB w (Vq.of 0 0 0) e w':=by
 refine(cRn (ρ:=frs (p9)++([]:List Vp)) (args:=[.one (.i .i64 0),.one (.i .i64 0),.one (.i .i64 0)]) (vs:=[.int .i64 (0),.int .i64 (0),.int .i64 (0)]) (r:=.v (row [0,0,0]))
  (af (dS (k:=0) rfl (by decide) (by decide)) ai)
  aj Tryz.func39 (by kernel_rfl) ⟨rfl,⟨rfl,⟨rfl,trivial⟩⟩⟩).mono ?_
 rintro e w' ⟨v,rfl,h1,h2⟩
 exact⟨v,rfl,(ag (xs:=p9) (ks:=[0,0,0]) (vs:=[(Fq.ofInt 0),(Fq.ofInt 0),(Fq.ofInt 0)]) ⟨rfl,rfl,rfl,trivial⟩).1 h1,h2⟩
theorem qc {xs:List Fq} {ys:Rho} {kr:List Nat} (ar:AtL xs kr [(Vq.of 0 0 0).x,(Vq.of 0 0 0).y,(Vq.of 0 0 0).z]):OkI xs ys ⟨39,[.one (.i .i64 0),.one (.i .i64 0),.one (.i .i64 0)],.v (row kr)⟩:=
 ⟨aA Tryz.func39 rfl rfl,fun B w vs hB h=>by
  match vs,h with
  | [vx,vy,vz],h=>
   have ex:vx= .int .i64 (0):=h.1
   subst ex
   have ey:vy= .int .i64 (0):=h.2.1
   subst ey
   have ez:vz= .int .i64 (0):=h.2.2.1
   subst ez
   refine(xZ w).mono ?_
   rintro e w' ⟨v,rfl,h1,h2⟩
   exact⟨v,rfl,(ag ar).2 h1,h2⟩⟩
def qd:List Fq:=[(Fq.ofInt 4),(Fq.ofInt 0)]
theorem x6 (w:World):
  Calls Tryz.prog 39 #[.int .i64 (4),.int .i64 (0),.int .i64 (0)] w fun e w'=>eB w (Vq.of 4 0 0) e w':=by
 refine(cRn (ρ:=frs (qd)++([]:List Vp)) (args:=[.one (.i .i64 4),.one (.i .i64 0),.one (.i .i64 0)]) (vs:=[.int .i64 (4),.int .i64 (0),.int .i64 (0)]) (r:=.v (row [0,1,1]))
  (af (dS (k:=0) rfl (by decide) (by decide)) (af (dS (k:=1) rfl (by decide) (by decide)) ai))
  aj Tryz.func39 (by kernel_rfl) ⟨rfl,⟨rfl,⟨rfl,trivial⟩⟩⟩).mono ?_
 rintro e w' ⟨v,rfl,h1,h2⟩
 exact⟨v,rfl,(ag (xs:=qd) (ks:=[0,1,1]) (vs:=[(Fq.ofInt 4),(Fq.ofInt 0),(Fq.ofInt 0)]) ⟨rfl,rfl,rfl,trivial⟩).1 h1,h2⟩
theorem qe {xs:List Fq} {ys:Rho} {kr:List Nat} (ar:AtL xs kr [(Vq.of 4 0 0).x,(Vq.of 4 0 0).y,(Vq.of 4 0 0).z]):OkI xs ys ⟨39,[.one (.i .i64 4),.one (.i .i64 0),.one (.i .i64 0)],.v (row kr)⟩:=
 ⟨aA Tryz.func39 rfl rfl,fun B w vs hB h=>by
  match vs,h with
  | [vx,vy,vz],h=>
   have ex:vx= .int .i64 (4):=h.1
   subst ex
   have ey:vy= .int .i64 (0):=h.2.1
   subst ey
   have ez:vz= .int .i64 (0):=h.2.2.1
   subst ez
   refine(x6 w).mono ?_
   rintro e w' ⟨v,rfl,h1,h2⟩
   exact⟨v,rfl,(ag ar).2 h1,h2⟩⟩
def qf:List Fq:=[(Fq.ofInt 2),(Fq.ofInt 0)]
theorem x9 (w:World):
  Calls Tryz.prog 39 #[.int .i64 (2),.int .i64 (0),.int .i64 (0)] w fun e w'=>eB w (Vq.of 2 0 0) e w':=by
 refine(cRn (ρ:=frs (qf)++([]:List Vp)) (args:=[.one (.i .i64 2),.one (.i .i64 0),.one (.i .i64 0)]) (vs:=[.int .i64 (2),.int .i64 (0),.int .i64 (0)]) (r:=.v (row [0,1,1]))
  (af (dS (k:=0) rfl (by decide) (by decide)) (af (dS (k:=1) rfl (by decide) (by decide)) ai))
  aj Tryz.func39 (by kernel_rfl) ⟨rfl,⟨rfl,⟨rfl,trivial⟩⟩⟩).mono ?_
 rintro e w' ⟨v,rfl,h1,h2⟩
 exact⟨v,rfl,(ag (xs:=qf) (ks:=[0,1,1]) (vs:=[(Fq.ofInt 2),(Fq.ofInt 0),(Fq.ofInt 0)]) ⟨rfl,rfl,rfl,trivial⟩).1 h1,h2⟩
theorem yc {xs:List Fq} {ys:Rho} {kr:List Nat} (ar:AtL xs kr [(Vq.of 2 0 0).x,(Vq.of 2 0 0).y,(Vq.of 2 0 0).z]):OkI xs ys ⟨39,[.one (.i .i64 2),.one (.i .i64 0),.one (.i .i64 0)],.v (row kr)⟩:=
 ⟨aA Tryz.func39 rfl rfl,fun B w vs hB h=>by
  match vs,h with
  | [vx,vy,vz],h=>
   have ex:vx= .int .i64 (2):=h.1
   subst ex
   have ey:vy= .int .i64 (0):=h.2.1
   subst ey
   have ez:vz= .int .i64 (0):=h.2.2.1
   subst ez
   refine(x9 w).mono ?_
   rintro e w' ⟨v,rfl,h1,h2⟩
   exact⟨v,rfl,(ag ar).2 h1,h2⟩⟩
def zf:List Fq:=[(Fq.ofInt 1),(Fq.ofInt 0),(Vq.of 0 0 0).x,(Vq.of 0 0 0).y,(Vq.of 0 0 0).z]
theorem q_tu100 (w:World):
  Calls Tryz.prog 36 #[.int .i64 (1),.int .i64 (0),.int .i64 (0)] w fun e w'=>uu w (dH 1 0 0) e w':=by
 refine(cRn (ρ:=frs (zf)++([]:List Vp)) (args:=[.one (.i .i64 1),.one (.i .i64 0),.one (.i .i64 0)]) (vs:=[.int .i64 (1),.int .i64 (0),.int .i64 (0)]) (r:=.v (row [0,1,1,1,2,3,4]))
  (af (dS (k:=0) rfl (by decide) (by decide)) (af (dS (k:=1) rfl (by decide) (by decide)) (af (qc (kr:=[2,3,4]) ⟨rfl,rfl,rfl,trivial⟩) ai)))
  aj Tryz.func36 (by kernel_rfl) ⟨rfl,⟨rfl,⟨rfl,trivial⟩⟩⟩).mono ?_
 rintro e w' ⟨v,rfl,h1,h2⟩
 exact⟨v,rfl,(ag (xs:=zf) (ks:=[0,1,1,1,2,3,4]) (vs:=[(Fq.ofInt 1),(Fq.ofInt 0),(Fq.ofInt 0),(Fq.ofInt 0),(Vq.of 0 0 0).x,(Vq.of 0 0 0).y,(Vq.of 0 0 0).z]) ⟨rfl,rfl,rfl,rfl,rfl,rfl,rfl,trivial⟩).1 h1,h2⟩
theorem I_tu100 {xs:List Fq} {ys:Rho} {kr:List Nat} (ar:AtL xs kr (dH 1 0 0).cs):OkI xs ys ⟨36,[.one (.i .i64 1),.one (.i .i64 0),.one (.i .i64 0)],.v (row kr)⟩:=
 ⟨aA Tryz.func36 rfl rfl,fun B w vs hB h=>by
  match vs,h with
  | [vx,vy,vz],h=>
   have ex:vx= .int .i64 (1):=h.1
   subst ex
   have ey:vy= .int .i64 (0):=h.2.1
   subst ey
   have ez:vz= .int .i64 (0):=h.2.2.1
   subst ez
   refine(q_tu100 w).mono ?_
   rintro e w' ⟨v,rfl,h1,h2⟩
   exact⟨v,rfl,(ag ar).2 h1,h2⟩⟩
def zg:List Fq:=[(Fq.ofInt 0),(Fq.ofInt 1),(Vq.of 0 0 0).x,(Vq.of 0 0 0).y,(Vq.of 0 0 0).z]
theorem q_tu010 (w:World):
  Calls Tryz.prog 36 #[.int .i64 (0),.int .i64 (1),.int .i64 (0)] w fun e w'=>uu w (dH 0 1 0) e w':=by
 refine(cRn (ρ:=frs (zg)++([]:List Vp)) (args:=[.one (.i .i64 0),.one (.i .i64 1),.one (.i .i64 0)]) (vs:=[.int .i64 (0),.int .i64 (1),.int .i64 (0)]) (r:=.v (row [0,0,0,1,2,3,4]))
  (af (dS (k:=0) rfl (by decide) (by decide)) (af (dS (k:=1) rfl (by decide) (by decide)) (af (qc (kr:=[2,3,4]) ⟨rfl,rfl,rfl,trivial⟩) ai)))
  aj Tryz.func36 (by kernel_rfl) ⟨rfl,⟨rfl,⟨rfl,trivial⟩⟩⟩).mono ?_
 rintro e w' ⟨v,rfl,h1,h2⟩
 exact⟨v,rfl,(ag (xs:=zg) (ks:=[0,0,0,1,2,3,4]) (vs:=[(Fq.ofInt 0),(Fq.ofInt 0),(Fq.ofInt 0),(Fq.ofInt 1),(Vq.of 0 0 0).x,(Vq.of 0 0 0).y,(Vq.of 0 0 0).z]) ⟨rfl,rfl,rfl,rfl,rfl,rfl,rfl,trivial⟩).1 h1,h2⟩
theorem I_tu010 {xs:List Fq} {ys:Rho} {kr:List Nat} (ar:AtL xs kr (dH 0 1 0).cs):OkI xs ys ⟨36,[.one (.i .i64 0),.one (.i .i64 1),.one (.i .i64 0)],.v (row kr)⟩:=
 ⟨aA Tryz.func36 rfl rfl,fun B w vs hB h=>by
  match vs,h with
  | [vx,vy,vz],h=>
   have ex:vx= .int .i64 (0):=h.1
   subst ex
   have ey:vy= .int .i64 (1):=h.2.1
   subst ey
   have ez:vz= .int .i64 (0):=h.2.2.1
   subst ez
   refine(q_tu010 w).mono ?_
   rintro e w' ⟨v,rfl,h1,h2⟩
   exact⟨v,rfl,(ag ar).2 h1,h2⟩⟩
def zh:List Fq:=[(Fq.ofInt 1),(Fq.ofInt 0),(Vq.of 4 0 0).x,(Vq.of 4 0 0).y,(Vq.of 4 0 0).z]
theorem q_tu114 (w:World):
  Calls Tryz.prog 36 #[.int .i64 (1),.int .i64 (1),.int .i64 (4)] w fun e w'=>uu w (dH 1 1 4) e w':=by
 refine(cRn (ρ:=frs (zh)++([]:List Vp)) (args:=[.one (.i .i64 1),.one (.i .i64 1),.one (.i .i64 4)]) (vs:=[.int .i64 (1),.int .i64 (1),.int .i64 (4)]) (r:=.v (row [0,1,1,0,2,3,4]))
  (af (dS (k:=0) rfl (by decide) (by decide)) (af (dS (k:=1) rfl (by decide) (by decide)) (af (qe (kr:=[2,3,4]) ⟨rfl,rfl,rfl,trivial⟩) ai)))
  aj Tryz.func36 (by kernel_rfl) ⟨rfl,⟨rfl,⟨rfl,trivial⟩⟩⟩).mono ?_
 rintro e w' ⟨v,rfl,h1,h2⟩
 exact⟨v,rfl,(ag (xs:=zh) (ks:=[0,1,1,0,2,3,4]) (vs:=[(Fq.ofInt 1),(Fq.ofInt 0),(Fq.ofInt 0),(Fq.ofInt 1),(Vq.of 4 0 0).x,(Vq.of 4 0 0).y,(Vq.of 4 0 0).z]) ⟨rfl,rfl,rfl,rfl,rfl,rfl,rfl,trivial⟩).1 h1,h2⟩
theorem I_tu114 {xs:List Fq} {ys:Rho} {kr:List Nat} (ar:AtL xs kr (dH 1 1 4).cs):OkI xs ys ⟨36,[.one (.i .i64 1),.one (.i .i64 1),.one (.i .i64 4)],.v (row kr)⟩:=
 ⟨aA Tryz.func36 rfl rfl,fun B w vs hB h=>by
  match vs,h with
  | [vx,vy,vz],h=>
   have ex:vx= .int .i64 (1):=h.1
   subst ex
   have ey:vy= .int .i64 (1):=h.2.1
   subst ey
   have ez:vz= .int .i64 (4):=h.2.2.1
   subst ez
   refine(q_tu114 w).mono ?_
   rintro e w' ⟨v,rfl,h1,h2⟩
   exact⟨v,rfl,(ag ar).2 h1,h2⟩⟩
def zi:List Fq:=[(Fq.ofInt 1),(Fq.ofInt 0),(Vq.of 4 0 0).x,(Vq.of 4 0 0).y,(Vq.of 4 0 0).z]
theorem q_tu104 (w:World):
  Calls Tryz.prog 36 #[.int .i64 (1),.int .i64 (0),.int .i64 (4)] w fun e w'=>uu w (dH 1 0 4) e w':=by
 refine(cRn (ρ:=frs (zi)++([]:List Vp)) (args:=[.one (.i .i64 1),.one (.i .i64 0),.one (.i .i64 4)]) (vs:=[.int .i64 (1),.int .i64 (0),.int .i64 (4)]) (r:=.v (row [0,1,1,1,2,3,4]))
  (af (dS (k:=0) rfl (by decide) (by decide)) (af (dS (k:=1) rfl (by decide) (by decide)) (af (qe (kr:=[2,3,4]) ⟨rfl,rfl,rfl,trivial⟩) ai)))
  aj Tryz.func36 (by kernel_rfl) ⟨rfl,⟨rfl,⟨rfl,trivial⟩⟩⟩).mono ?_
 rintro e w' ⟨v,rfl,h1,h2⟩
 exact⟨v,rfl,(ag (xs:=zi) (ks:=[0,1,1,1,2,3,4]) (vs:=[(Fq.ofInt 1),(Fq.ofInt 0),(Fq.ofInt 0),(Fq.ofInt 0),(Vq.of 4 0 0).x,(Vq.of 4 0 0).y,(Vq.of 4 0 0).z]) ⟨rfl,rfl,rfl,rfl,rfl,rfl,rfl,trivial⟩).1 h1,h2⟩
theorem I_tu104 {xs:List Fq} {ys:Rho} {kr:List Nat} (ar:AtL xs kr (dH 1 0 4).cs):OkI xs ys ⟨36,[.one (.i .i64 1),.one (.i .i64 0),.one (.i .i64 4)],.v (row kr)⟩:=
 ⟨aA Tryz.func36 rfl rfl,fun B w vs hB h=>by
  match vs,h with
  | [vx,vy,vz],h=>
   have ex:vx= .int .i64 (1):=h.1
   subst ex
   have ey:vy= .int .i64 (0):=h.2.1
   subst ey
   have ez:vz= .int .i64 (4):=h.2.2.1
   subst ez
   refine(q_tu104 w).mono ?_
   rintro e w' ⟨v,rfl,h1,h2⟩
   exact⟨v,rfl,(ag ar).2 h1,h2⟩⟩
def qg:MS:=bK 42 [(0,.v (.one (.ref 0))),(1,.v (.one (.ref 0))),(5,.v (.one (.i .i64 0)))] []
def qh:MS:=bK 42 [(0,.v (.one (.ref 0))),(1,.v (.one (.ref 0)))] []
def jW (S:List St) (v v':Value):List Fq:=[]
theorem q_Same {w:World} (S:List St) (v v':Value) (h1:(Vp.row stT S.length (az S)).p w v) (h1':(Vp.row stT S.length (az S)).p w v') (hl:S.length≤100000) (hk:∀x∈S,x.pose.ok 2):
  Calls Tryz.prog 17 #[v,v'] w fun e w'=>e= .returned (.bool true)∧Below w.heap.size w w':=by
 have hL0:LOb.Ok Tryz.prog (frs (jW S v v')++(([.row stT S.length (az S),.val (.int .i64 (S.length:Int))]:List Vp)++(([]:List Vp)))) (Ent.of w) 42 ⟨aZ Tryz.f17 0,qg,.ext 0,qh⟩:=by
  refine a8 S.length (fun k=>frs (jW S v v')++(([.row stT S.length (az S),.val (.int .i64 (S.length:Int))]:List Vp)++(([.val (.int .i64 ((k:Nat):Int))]:List Vp)))) (fun _=>bK 42 [(0,.v (.one (.ref 0))),(1,.v (.one (.ref 0))),(5,.v (.one (.ref 2)))] []) ?_ ?_ ?_ (by decide) (Nat.zero_le _)
  ·intro a_ w_ h_
   exact MSt.conv (N:=2) (σ:=[(2,.i .i64 0)]) (cmP (by kernel_rfl)) (aB (sgi (n:=2) (u:=0) (v:=((0:Nat):Int)) rfl (aG (c:=0)) (by omega)) aI) (by kernel_rfl) h_ (Nat.zero_le _)
  ·intro k hk0
   obtain⟨x,hx⟩:∃x,S[k]? =some x:=⟨_,List.getElem?_eq_getElem hk0⟩
   refine aO (N:=3) (ρx:=frs (jW S v v')++(([.row stT S.length (az S),.val (.int .i64 (S.length:Int))]:List Vp)++(([.val (.int .i64 ((k:Nat):Int))]:List Vp)++(([.plc stT x.qs,.val (.int .i64 x.tm),.plc stT (frs x.pose.cs),.val (.bool x.pose.rot.w.s),.dig (nl x.pose.rot.w.p) x.pose.rot.w.p,.dig (nl x.pose.rot.w.q) x.pose.rot.w.q,.val (.bool x.pose.rot.x.s),.dig (nl x.pose.rot.x.p) x.pose.rot.x.p,.dig (nl x.pose.rot.x.q) x.pose.rot.x.q,.val (.bool x.pose.rot.y.s),.dig (nl x.pose.rot.y.p) x.pose.rot.y.p,.dig (nl x.pose.rot.y.q) x.pose.rot.y.q,.val (.bool x.pose.rot.z.s),.dig (nl x.pose.rot.z.p) x.pose.rot.z.p,.dig (nl x.pose.rot.z.q) x.pose.rot.z.q,.val (.bool x.pose.pos.x.s),.dig (nl x.pose.pos.x.p) x.pose.pos.x.p,.dig (nl x.pose.pos.x.q) x.pose.pos.x.q,.val (.bool x.pose.pos.y.s),.dig (nl x.pose.pos.y.p) x.pose.pos.y.p,.dig (nl x.pose.pos.y.q) x.pose.pos.y.q,.val (.bool x.pose.pos.z.s),.dig (nl x.pose.pos.z.p) x.pose.pos.z.p,.dig (nl x.pose.pos.z.q) x.pose.pos.z.q,.val (.int .i64 (((k:Nat):Int)+1))]:List Vp))))) (cmX (by kernel_rfl)) (by kernel_rfl) (Nat.zero_le _) ?_
   exact aJ (N:=2) (σ:=[(2,.ref 27)]) (lo:=[]) (n:=300) (af (I_rpEqR (ns:=[6,9,12,15,18,21,24]) (ns':=[6,9,12,15,18,21,24]) (s:=x) ⟨⟨rfl,rfl,rfl⟩,⟨rfl,rfl,rfl⟩,⟨rfl,rfl,rfl⟩,⟨rfl,rfl,rfl⟩,⟨rfl,rfl,rfl⟩,⟨rfl,rfl,rfl⟩,⟨rfl,rfl,rfl⟩,trivial⟩ ⟨⟨rfl,rfl,rfl⟩,⟨rfl,rfl,rfl⟩,⟨rfl,rfl,rfl⟩,⟨rfl,rfl,rfl⟩,⟨rfl,rfl,rfl⟩,⟨rfl,rfl,rfl⟩,⟨rfl,rfl,rfl⟩,trivial⟩ (hk x (List.mem_of_getElem? hx))) ai)
    (ae (po (n:=0) (t:=22) ⟨_,Tryz.underlying22⟩ rfl (l:=.ref 1) (fun _ _=>aF rfl aE)) (ae (aw (t:=3) (ah (n:=2) rfl) (ah (n:=1) rfl) (aK (by omega))) (ae (iaT (n:=0) (m:=3) rfl rfl (aT (ah (n:=2) rfl) (by omega)) hx) (ae (fa0 x 3 rfl) (ae (ldt x 3 4 rfl rfl) (ae (aw (t:=3) (ah (n:=4) rfl) (ah (n:=4) rfl) (cc (by omega))) (ae (fa1 x 3 5 rfl rfl) (ae (jB (n:=5) (t:=33) (ls:=bf [6,9,12,15,18,21,24]) (by kernel_rfl) (by kernel_rfl) rfl (d5 (rs:=x.raw.rs) ⟨⟨rfl,rfl,rfl⟩,⟨rfl,rfl,rfl⟩,⟨rfl,rfl,rfl⟩,⟨rfl,rfl,rfl⟩,⟨rfl,rfl,rfl⟩,⟨rfl,rfl,rfl⟩,⟨rfl,rfl,rfl⟩,trivial⟩)) (ae (cj (m:=27) (t:=3) (ah (n:=2) rfl) (aG (c:=1)) rfl rfl (by omega) (by omega)) (aj))))))))))
    (by kernel_rfl) (obs:=[]) (by kernel_rfl) aD (cmP (by kernel_rfl)) (aB (sgi (n:=2) (u:=(((k:Nat):Int)+1)) (v:=((k+1:Nat):Int)) rfl (ah (n:=27) rfl) (by omega)) aI) (Nat.zero_le _)
  ·refine aO (N:=3) (ρx:=frs (jW S v v')++(([.row stT S.length (az S),.val (.int .i64 (S.length:Int))]:List Vp)++(([.val (.int .i64 ((S.length:Nat):Int))]:List Vp)++(([]:List Vp))))) (cmX (by kernel_rfl)) (by kernel_rfl) (Nat.zero_le _) ?_
   exact aJ (N:=2) (σ:=[]) (lo:=[]) (n:=300) (ai)
    (ae (po (n:=0) (t:=22) ⟨_,Tryz.underlying22⟩ rfl (l:=.ref 1) (fun _ _=>aF rfl aE)) (ae (aw (t:=3) (ah (n:=2) rfl) (ah (n:=1) rfl) (aM (by omega))) (aj)))
    (by kernel_rfl) (obs:=[]) (by kernel_rfl) aD (cmP (by kernel_rfl)) aI (Nat.zero_le _)
 refine(aX (ρ:=frs (jW S v v')++(([.row stT S.length (az S),.val (.int .i64 (S.length:Int))]:List Vp)++(([]:List Vp)))) (w:=w) (fuel:=300) (args:=[.one (.ref 0),.one (.ref 0)]) (vs:=[v,v']) (r:=.v (.one (.b true))) (lo:=[some (qg,.ext 0,qh)]) (obs:=[⟨aZ Tryz.f17 0,qg,.ext 0,qh⟩])
  (ai)
  (ae (po (n:=0) (t:=22) ⟨_,Tryz.underlying22⟩ rfl (l:=.ref 1) (fun _ _=>aF rfl aE)) (ae (aw (t:=3) (ah (n:=1) rfl) (ah (n:=1) rfl) (cc (by omega))) (aj))) (by kernel_rfl) Tryz.func17 (by kernel_rfl) (bw hL0 aD) ⟨dc (m:=0) rfl h1,⟨dc (m:=0) rfl h1',trivial⟩⟩).mono ?_
 rintro e w' ⟨v,rfl,h2,h3⟩
 have e1:v= .bool true:=h2
 subst e1
 exact⟨rfl,h3⟩
noncomputable def yd:List Fq:=((dH 1 0 0).cs++((dH 0 1 0).cs++((dH 1 1 4).cs++((dH 1 0 4).cs++((atP tu1 tu3 0 15).cs++((atP zst zst 17 21).cs++([(Fq.ratio 1 2),(Vq.of 2 0 0).x,(Vq.of 2 0 0).y,(Vq.of 2 0 0).z])))))))
theorem q_tAwake {w:World}:
  Calls Tryz.prog 10 #[] w fun e w'=>e= .returned (.bool true)∧Below w.heap.size w w':=by
 refine(aX (ρ:=frs (yd)++([.row stT ([]:List St).length (az ([]:List St)),.row stT ([tu1]).length (az ([tu1])),.row stT ([tu1,tu3]).length (az ([tu1,tu3]))]:List Vp)) (w:=w) (fuel:=300) (args:=[]) (vs:=[]) (r:=.v (.one (.b true))) (lo:=[]) (obs:=[])
  (af (I_tu100 (kr:=[0,1,2,3,4,5,6]) ⟨rfl,rfl,rfl,rfl,rfl,rfl,rfl,trivial⟩) (af (I_tu010 (kr:=[7,8,9,10,11,12,13]) ⟨rfl,rfl,rfl,rfl,rfl,rfl,rfl,trivial⟩) (af (I_tu114 (kr:=[14,15,16,17,18,19,20]) ⟨rfl,rfl,rfl,rfl,rfl,rfl,rfl,trivial⟩) (af (I_tu104 (kr:=[21,22,23,24,25,26,27]) ⟨rfl,rfl,rfl,rfl,rfl,rfl,rfl,trivial⟩) (af (sG (ir:=42) rfl) (af (bV (i:=31) (j:=42) (l:=.b true) rfl rfl (lb (Fq.same_iff.2 aw_half)) ((sX gS3 sZ).2.rot.z.mono (by decide)).p ((sX gS3 sZ).2.rot.z.mono (by decide)).q ((eN (v:=1) (u:=2) (by decide) (by decide) (by decide) (by decide) (by decide)).mono (by decide)).p ((eN (v:=1) (u:=2) (by decide) (by decide) (by decide) (by decide) (by decide)).mono (by decide)).q) (af (yc (kr:=[43,44,45]) ⟨rfl,rfl,rfl,trivial⟩) (af (pH (ka:=[32,33,34]) (a:=(atP tu1 tu3 0 15).pos) (kb:=[43,44,45]) (b:=(Vq.of 2 0 0)) ⟨rfl,rfl,rfl,trivial⟩ ⟨rfl,rfl,rfl,trivial⟩ ((sX gS3 sZ).2.pos.mono (by decide)) ((wH (by decide) (by decide) (by decide) (by decide) (by decide) (by decide)).mono (by decide)) aw_pos) ai))))))))
  (ae (sV (u:=0) (k:=0) (m:=138) (r:=.one .sl0) rfl) (ae (bN (y:=0) (o:=0) (t:=39) ⟨_,Tryz.underlying39⟩) (ae (sY (u:=0) (k:=0) (m:=138) (m':=139) (ks:=[0,1,2,3,4,5,6]) (S:=([]:List St)) (S':=[tu1]) (s:=tu1) (t:=10) (c:=0) (r:=.one .sl0) rfl rfl ⟨rfl,rfl,rfl,rfl,rfl,rfl,rfl,trivial⟩ rfl add1 tu1_ok vh gS0) (ae (sY (u:=0) (k:=0) (m:=139) (m':=139) (ks:=[7,8,9,10,11,12,13]) (S:=([tu1])) (S':=[tu1]) (s:=tu2) (t:=20) (c:=21) (r:=.one .sl0) rfl rfl ⟨rfl,rfl,rfl,rfl,rfl,rfl,rfl,trivial⟩ rfl add2 tu2_ok tu2_good gS1) (ae (sY (u:=0) (k:=0) (m:=139) (m':=140) (ks:=[14,15,16,17,18,19,20]) (S:=([tu1])) (S':=[tu1,tu3]) (s:=tu3) (t:=20) (c:=0) (r:=.one .sl0) rfl rfl ⟨rfl,rfl,rfl,rfl,rfl,rfl,rfl,trivial⟩ rfl add3 tu3_ok vi gS1) (ae (sY (u:=0) (k:=0) (m:=140) (m':=140) (ks:=[21,22,23,24,25,26,27]) (S:=([tu1,tu3])) (S':=[tu1,tu3]) (s:=tu4) (t:=20) (c:=7) (r:=.one .sl0) rfl rfl ⟨rfl,rfl,rfl,rfl,rfl,rfl,rfl,trivial⟩ rfl add4 tu4_ok tu4_good gS3) (ae (I_AtS (u:=0) (l:=.own 0 140) (z:=tu1) (y:=tu3) (c:=0) (a:=15) (lc:=.i .i64 0) (kr:=[28,29,30,31,32,33,34]) (r:=.one .sl0) (fy (m:=140) rfl) (aT (aG (c:=15)) (by omega)) gS3 sZ ⟨rfl,rfl,rfl,rfl,rfl,rfl,rfl,trivial⟩ (fun _ _=>rfl)) (ae (I_AtS (u:=0) (l:=.own 0 140) (z:=zst) (y:=zst) (c:=17) (a:=21) (lc:=.i .i64 17) (kr:=[35,36,37,38,39,40,41]) (r:=.one .sl0) (fy (m:=140) rfl) (aT (aG (c:=21)) (by omega)) gS3 road21 ⟨rfl,rfl,rfl,rfl,rfl,rfl,rfl,trivial⟩ (fun _ _=>rfl)) (aj))))))))) (by kernel_rfl) Tryz.func10 (by kernel_rfl) aD trivial).mono ?_
 rintro e w' ⟨v,rfl,h2,h3⟩
 have e1:v= .bool true:=h2
 subst e1
 exact⟨rfl,h3⟩
theorem gF {ρ:Rho}:Inst.Ok Tryz.prog ρ ⟨10,[],.v (.one (.b true))⟩:=
 ⟨aA Tryz.func10 rfl rfl,fun B w vs hB h=>by
  match vs,h with
  | [],_=>
   refine q_tAwake.mono ?_
   rintro e w' ⟨rfl,h2⟩
   exact⟨_,rfl,rfl,h2⟩⟩
end Go.Proofs.YtfhinmdhjlmikaaGreat
