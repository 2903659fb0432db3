/- Which poses are valid, as they come in. Tracks: stamps as they come in; calls of methods that read; appends of stamps; more loops. -/
import Derived.Test.YtfhinmdhjlmikaaGreatP16
namespace Go.Proofs.YtfhinmdhjlmikaaGreat
set_option linter.unusedSimpArgs false
set_option linter.unusedVariables false
set_option maxRecDepth 100000
open Go.RowKit
/-- The parts are valid, the first that is not zero is one. -/
def og (r0 r1 r2 r3:Rq):Bool:=(r0.vld && (r1.vld && (r2.vld && r3.vld))) && (Qq.mk ⟨r0.s,r0.p,r0.q⟩ ⟨r1.s,r1.p,r1.q⟩ ⟨r2.s,r2.p,r2.q⟩ ⟨r3.s,r3.p,r3.q⟩).first.same (Fq.ofInt 1)
def fS (r0 r1 r2 r3:Rq):List Fq:=[]
theorem q_partsX (x:Value) (r0 r1 r2 r3:Rq) (w:World) (h:IsL w x [r0,r1,r2,r3]):Calls Tryz.prog 101 #[x] w fun e w'=>RetL w [r0,r1,r2,r3] e w':=by
 refine(cRn (ρ:=frs (fS r0 r1 r2 r3)++ [.val (.bool r0.s),.dig r0.L r0.p,.dig r0.N r0.q,.val (.bool r1.s),.dig r1.L r1.p,.dig r1.N r1.q,.val (.bool r2.s),.dig r2.L r2.p,.dig r2.N r2.q,.val (.bool r3.s),.dig r3.L r3.p,.dig r3.N r3.q]) (args:=[cU [0,3,6,9]]) (vs:=[x]) (r:=.v (cU [0,3,6,9]))
  (ai) aj Tryz.func101 (by kernel_rfl) ⟨(aP (ns:=[0,3,6,9]) (rs:=[r0,r1,r2,r3]) ⟨⟨rfl,rfl,rfl⟩,⟨rfl,rfl,rfl⟩,⟨rfl,rfl,rfl⟩,⟨rfl,rfl,rfl⟩,trivial⟩).2 h,trivial⟩).mono ?_
 rintro e w' ⟨v,rfl,h1,h2⟩
 exact⟨v,rfl,(aP (ns:=[0,3,6,9]) (rs:=[r0,r1,r2,r3]) ⟨⟨rfl,rfl,rfl⟩,⟨rfl,rfl,rfl⟩,⟨rfl,rfl,rfl⟩,⟨rfl,rfl,rfl⟩,trivial⟩).1 h1,h2⟩
theorem mz {xs:List Fq} {ys:Rho} {ns:List Nat} {r0 r1 r2 r3:Rq} (hr:AtR (frs xs++ys) ns [r0,r1,r2,r3]):OkI xs ys ⟨101,[cU ns],.v (cU ns)⟩:=
 ⟨aA Tryz.func101 rfl rfl,fun B w vs hB h=>by
  match vs,h with
  | [va],h=>
   refine(q_partsX va r0 r1 r2 r3 w ((aP hr).1 h.1)).mono ?_
   rintro e w' ⟨v,rfl,h1,h2⟩
   exact⟨v,rfl,(aP hr).2 h1,h2⟩⟩
def xe (r0 r1 r2 r3:Rq):List Fq:=[]
def xf (r0 r1 r2 r3:Rq):List Fq:=[]
def xg (r0 r1 r2 r3:Rq):List Fq:=[]
def xh (r0 r1 r2 r3:Rq):List Fq:=[]
theorem aax (x:Value) (r0 r1 r2 r3:Rq) (w:World) (h:IsL w x [r0,r1,r2,r3]) (lr0:r0.L≤1000000) (nr0:r0.N≤1000000) (lr1:r1.L≤1000000) (nr1:r1.N≤1000000) (lr2:r2.L≤1000000) (nr2:r2.N≤1000000) (lr3:r3.L≤1000000) (nr3:r3.N≤1000000) (hne:(r0.vld && (r1.vld && (r2.vld && r3.vld)))=false):Calls Tryz.prog 69 #[x] w fun e w'=>bH w (.bool false) e w':=by
 rcases Bool.eq_false_or_eq_true (r0.vld)with c0 | c0
 ·rcases Bool.eq_false_or_eq_true (r1.vld)with c1 | c1
  ·rcases Bool.eq_false_or_eq_true (r2.vld)with c2 | c2
   ·rcases Bool.eq_false_or_eq_true (r3.vld)with c3 | c3
    ·exact absurd hne (by rw[c0,c1,c2,c3];decide)
    ·refine(cRn (ρ:=frs (xe r0 r1 r2 r3)++ [.val (.bool r0.s),.dig r0.L r0.p,.dig r0.N r0.q,.val (.bool r1.s),.dig r1.L r1.p,.dig r1.N r1.q,.val (.bool r2.s),.dig r2.L r2.p,.dig r2.N r2.q,.val (.bool r3.s),.dig r3.L r3.p,.dig r3.N r3.q]) (args:=[cU [0,3,6,9]]) (vs:=[x]) (r:=.v (.one (.b false)))
      (af (mz (ns:=[0,3,6,9]) ⟨⟨rfl,rfl,rfl⟩,⟨rfl,rfl,rfl⟩,⟨rfl,rfl,rfl⟩,⟨rfl,rfl,rfl⟩,trivial⟩) (af (bW (n:=0) (r:=r0) (d:=true) ⟨⟨rfl,rfl,rfl⟩,trivial⟩ c0 lr0 nr0) (af (bW (n:=3) (r:=r1) (d:=true) ⟨⟨rfl,rfl,rfl⟩,trivial⟩ c1 lr1 nr1) (af (bW (n:=6) (r:=r2) (d:=true) ⟨⟨rfl,rfl,rfl⟩,trivial⟩ c2 lr2 nr2) (af (bW (n:=9) (r:=r3) (d:=false) ⟨⟨rfl,rfl,rfl⟩,trivial⟩ c3 lr3 nr3) (ai)))))) aj Tryz.func69 (by kernel_rfl) ⟨(aP (ns:=[0,3,6,9]) (rs:=[r0,r1,r2,r3]) ⟨⟨rfl,rfl,rfl⟩,⟨rfl,rfl,rfl⟩,⟨rfl,rfl,rfl⟩,⟨rfl,rfl,rfl⟩,trivial⟩).2 h,trivial⟩).mono ?_
     rintro e w' ⟨v,rfl,h1,h2⟩
     exact⟨congrArg Ending.returned h1,h2⟩
   ·refine(cRn (ρ:=frs (xf r0 r1 r2 r3)++ [.val (.bool r0.s),.dig r0.L r0.p,.dig r0.N r0.q,.val (.bool r1.s),.dig r1.L r1.p,.dig r1.N r1.q,.val (.bool r2.s),.dig r2.L r2.p,.dig r2.N r2.q,.val (.bool r3.s),.dig r3.L r3.p,.dig r3.N r3.q]) (args:=[cU [0,3,6,9]]) (vs:=[x]) (r:=.v (.one (.b false)))
     (af (mz (ns:=[0,3,6,9]) ⟨⟨rfl,rfl,rfl⟩,⟨rfl,rfl,rfl⟩,⟨rfl,rfl,rfl⟩,⟨rfl,rfl,rfl⟩,trivial⟩) (af (bW (n:=0) (r:=r0) (d:=true) ⟨⟨rfl,rfl,rfl⟩,trivial⟩ c0 lr0 nr0) (af (bW (n:=3) (r:=r1) (d:=true) ⟨⟨rfl,rfl,rfl⟩,trivial⟩ c1 lr1 nr1) (af (bW (n:=6) (r:=r2) (d:=false) ⟨⟨rfl,rfl,rfl⟩,trivial⟩ c2 lr2 nr2) (ai))))) aj Tryz.func69 (by kernel_rfl) ⟨(aP (ns:=[0,3,6,9]) (rs:=[r0,r1,r2,r3]) ⟨⟨rfl,rfl,rfl⟩,⟨rfl,rfl,rfl⟩,⟨rfl,rfl,rfl⟩,⟨rfl,rfl,rfl⟩,trivial⟩).2 h,trivial⟩).mono ?_
    rintro e w' ⟨v,rfl,h1,h2⟩
    exact⟨congrArg Ending.returned h1,h2⟩
  ·refine(cRn (ρ:=frs (xg r0 r1 r2 r3)++ [.val (.bool r0.s),.dig r0.L r0.p,.dig r0.N r0.q,.val (.bool r1.s),.dig r1.L r1.p,.dig r1.N r1.q,.val (.bool r2.s),.dig r2.L r2.p,.dig r2.N r2.q,.val (.bool r3.s),.dig r3.L r3.p,.dig r3.N r3.q]) (args:=[cU [0,3,6,9]]) (vs:=[x]) (r:=.v (.one (.b false)))
    (af (mz (ns:=[0,3,6,9]) ⟨⟨rfl,rfl,rfl⟩,⟨rfl,rfl,rfl⟩,⟨rfl,rfl,rfl⟩,⟨rfl,rfl,rfl⟩,trivial⟩) (af (bW (n:=0) (r:=r0) (d:=true) ⟨⟨rfl,rfl,rfl⟩,trivial⟩ c0 lr0 nr0) (af (bW (n:=3) (r:=r1) (d:=false) ⟨⟨rfl,rfl,rfl⟩,trivial⟩ c1 lr1 nr1) (ai)))) aj Tryz.func69 (by kernel_rfl) ⟨(aP (ns:=[0,3,6,9]) (rs:=[r0,r1,r2,r3]) ⟨⟨rfl,rfl,rfl⟩,⟨rfl,rfl,rfl⟩,⟨rfl,rfl,rfl⟩,⟨rfl,rfl,rfl⟩,trivial⟩).2 h,trivial⟩).mono ?_
   rintro e w' ⟨v,rfl,h1,h2⟩
   exact⟨congrArg Ending.returned h1,h2⟩
 ·refine(cRn (ρ:=frs (xh r0 r1 r2 r3)++ [.val (.bool r0.s),.dig r0.L r0.p,.dig r0.N r0.q,.val (.bool r1.s),.dig r1.L r1.p,.dig r1.N r1.q,.val (.bool r2.s),.dig r2.L r2.p,.dig r2.N r2.q,.val (.bool r3.s),.dig r3.L r3.p,.dig r3.N r3.q]) (args:=[cU [0,3,6,9]]) (vs:=[x]) (r:=.v (.one (.b false)))
   (af (mz (ns:=[0,3,6,9]) ⟨⟨rfl,rfl,rfl⟩,⟨rfl,rfl,rfl⟩,⟨rfl,rfl,rfl⟩,⟨rfl,rfl,rfl⟩,trivial⟩) (af (bW (n:=0) (r:=r0) (d:=false) ⟨⟨rfl,rfl,rfl⟩,trivial⟩ c0 lr0 nr0) (ai))) aj Tryz.func69 (by kernel_rfl) ⟨(aP (ns:=[0,3,6,9]) (rs:=[r0,r1,r2,r3]) ⟨⟨rfl,rfl,rfl⟩,⟨rfl,rfl,rfl⟩,⟨rfl,rfl,rfl⟩,⟨rfl,rfl,rfl⟩,trivial⟩).2 h,trivial⟩).mono ?_
  rintro e w' ⟨v,rfl,h1,h2⟩
  exact⟨congrArg Ending.returned h1,h2⟩
def xi (r0 r1 r2 r3:Rq):List Fq:=[]
def xj (r0 r1 r2 r3:Rq):List Fq:=[]
def xk (r0 r1 r2 r3:Rq):List Fq:=[]
def xl (r0 r1 r2 r3:Rq):List Fq:=[]
theorem aay (x:Value) (r0 r1 r2 r3:Rq) (w:World) (h:IsL w x [r0,r1,r2,r3]) (lr0:r0.L≤1000000) (nr0:r0.N≤1000000) (lr1:r1.L≤1000000) (nr1:r1.N≤1000000) (lr2:r2.L≤1000000) (nr2:r2.N≤1000000) (lr3:r3.L≤1000000) (nr3:r3.N≤1000000) (hne:(r0.vld && (r1.vld && (r2.vld && r3.vld)))=false):Calls Tryz.prog 51 #[x] w fun e w'=>bH w (.bool false) e w':=by
 rcases Bool.eq_false_or_eq_true (r0.vld)with c0 | c0
 ·rcases Bool.eq_false_or_eq_true (r1.vld)with c1 | c1
  ·rcases Bool.eq_false_or_eq_true (r2.vld)with c2 | c2
   ·rcases Bool.eq_false_or_eq_true (r3.vld)with c3 | c3
    ·exact absurd hne (by rw[c0,c1,c2,c3];decide)
    ·refine(cRn (ρ:=frs (xi r0 r1 r2 r3)++ [.val (.bool r0.s),.dig r0.L r0.p,.dig r0.N r0.q,.val (.bool r1.s),.dig r1.L r1.p,.dig r1.N r1.q,.val (.bool r2.s),.dig r2.L r2.p,.dig r2.N r2.q,.val (.bool r3.s),.dig r3.L r3.p,.dig r3.N r3.q]) (args:=[cU [0,3,6,9]]) (vs:=[x]) (r:=.v (.one (.b false)))
      (af (bX (n:=0) (r:=r0) (d:=true) ⟨⟨rfl,rfl,rfl⟩,trivial⟩ c0 lr0 nr0) (af (bX (n:=3) (r:=r1) (d:=true) ⟨⟨rfl,rfl,rfl⟩,trivial⟩ c1 lr1 nr1) (af (bX (n:=6) (r:=r2) (d:=true) ⟨⟨rfl,rfl,rfl⟩,trivial⟩ c2 lr2 nr2) (af (bX (n:=9) (r:=r3) (d:=false) ⟨⟨rfl,rfl,rfl⟩,trivial⟩ c3 lr3 nr3) (ai))))) aj Tryz.func51 (by kernel_rfl) ⟨(aP (ns:=[0,3,6,9]) (rs:=[r0,r1,r2,r3]) ⟨⟨rfl,rfl,rfl⟩,⟨rfl,rfl,rfl⟩,⟨rfl,rfl,rfl⟩,⟨rfl,rfl,rfl⟩,trivial⟩).2 h,trivial⟩).mono ?_
     rintro e w' ⟨v,rfl,h1,h2⟩
     exact⟨congrArg Ending.returned h1,h2⟩
   ·refine(cRn (ρ:=frs (xj r0 r1 r2 r3)++ [.val (.bool r0.s),.dig r0.L r0.p,.dig r0.N r0.q,.val (.bool r1.s),.dig r1.L r1.p,.dig r1.N r1.q,.val (.bool r2.s),.dig r2.L r2.p,.dig r2.N r2.q,.val (.bool r3.s),.dig r3.L r3.p,.dig r3.N r3.q]) (args:=[cU [0,3,6,9]]) (vs:=[x]) (r:=.v (.one (.b false)))
     (af (bX (n:=0) (r:=r0) (d:=true) ⟨⟨rfl,rfl,rfl⟩,trivial⟩ c0 lr0 nr0) (af (bX (n:=3) (r:=r1) (d:=true) ⟨⟨rfl,rfl,rfl⟩,trivial⟩ c1 lr1 nr1) (af (bX (n:=6) (r:=r2) (d:=false) ⟨⟨rfl,rfl,rfl⟩,trivial⟩ c2 lr2 nr2) (ai)))) aj Tryz.func51 (by kernel_rfl) ⟨(aP (ns:=[0,3,6,9]) (rs:=[r0,r1,r2,r3]) ⟨⟨rfl,rfl,rfl⟩,⟨rfl,rfl,rfl⟩,⟨rfl,rfl,rfl⟩,⟨rfl,rfl,rfl⟩,trivial⟩).2 h,trivial⟩).mono ?_
    rintro e w' ⟨v,rfl,h1,h2⟩
    exact⟨congrArg Ending.returned h1,h2⟩
  ·refine(cRn (ρ:=frs (xk r0 r1 r2 r3)++ [.val (.bool r0.s),.dig r0.L r0.p,.dig r0.N r0.q,.val (.bool r1.s),.dig r1.L r1.p,.dig r1.N r1.q,.val (.bool r2.s),.dig r2.L r2.p,.dig r2.N r2.q,.val (.bool r3.s),.dig r3.L r3.p,.dig r3.N r3.q]) (args:=[cU [0,3,6,9]]) (vs:=[x]) (r:=.v (.one (.b false)))
    (af (bX (n:=0) (r:=r0) (d:=true) ⟨⟨rfl,rfl,rfl⟩,trivial⟩ c0 lr0 nr0) (af (bX (n:=3) (r:=r1) (d:=false) ⟨⟨rfl,rfl,rfl⟩,trivial⟩ c1 lr1 nr1) (ai))) aj Tryz.func51 (by kernel_rfl) ⟨(aP (ns:=[0,3,6,9]) (rs:=[r0,r1,r2,r3]) ⟨⟨rfl,rfl,rfl⟩,⟨rfl,rfl,rfl⟩,⟨rfl,rfl,rfl⟩,⟨rfl,rfl,rfl⟩,trivial⟩).2 h,trivial⟩).mono ?_
   rintro e w' ⟨v,rfl,h1,h2⟩
   exact⟨congrArg Ending.returned h1,h2⟩
 ·refine(cRn (ρ:=frs (xl r0 r1 r2 r3)++ [.val (.bool r0.s),.dig r0.L r0.p,.dig r0.N r0.q,.val (.bool r1.s),.dig r1.L r1.p,.dig r1.N r1.q,.val (.bool r2.s),.dig r2.L r2.p,.dig r2.N r2.q,.val (.bool r3.s),.dig r3.L r3.p,.dig r3.N r3.q]) (args:=[cU [0,3,6,9]]) (vs:=[x]) (r:=.v (.one (.b false)))
   (af (bX (n:=0) (r:=r0) (d:=false) ⟨⟨rfl,rfl,rfl⟩,trivial⟩ c0 lr0 nr0) (ai)) aj Tryz.func51 (by kernel_rfl) ⟨(aP (ns:=[0,3,6,9]) (rs:=[r0,r1,r2,r3]) ⟨⟨rfl,rfl,rfl⟩,⟨rfl,rfl,rfl⟩,⟨rfl,rfl,rfl⟩,⟨rfl,rfl,rfl⟩,trivial⟩).2 h,trivial⟩).mono ?_
  rintro e w' ⟨v,rfl,h1,h2⟩
  exact⟨congrArg Ending.returned h1,h2⟩
theorem aaz (vq:Value) (q:Qq) (w:World) (iq:dM w vq q) (hq:q.ok 1000000) (gc:q.comp):Calls Tryz.prog 69 #[vq] w fun e w'=>bH w (.bool (q.first.same (Fq.ofInt 1))) e w':=by
 by_cases h:q.first=Fq.ofInt 1
 ·rw[Fq.same_iff.2 h];exact pC vq q w iq hq (oJ gc h)
 ·rw[eL h];exact wJ vq q w iq hq gc h
theorem xm (x:Value) (r0 r1 r2 r3:Rq) (w:World) (h:IsL w x [r0,r1,r2,r3]) (lr0:r0.L≤1000000) (nr0:r0.N≤1000000) (lr1:r1.L≤1000000) (nr1:r1.N≤1000000) (lr2:r2.L≤1000000) (nr2:r2.N≤1000000) (lr3:r3.L≤1000000) (nr3:r3.N≤1000000):Calls Tryz.prog 69 #[x] w fun e w'=>bH w (.bool (og r0 r1 r2 r3)) e w':=by
 rcases Bool.eq_false_or_eq_true (r0.vld && (r1.vld && (r2.vld && r3.vld)))with hv | hv
 ·unfold og
  rw[hv,Bool.true_and]
  simp only[Bool.and_eq_true]at hv
  obtain⟨h0,h1,h2,h3⟩:=hv
  have k0:=jP h0;have k1:=jP h1;have k2:=jP h2;have k3:=jP h3
  have m0:=dB h0;have m1:=dB h1;have m2:=dB h2;have m3:=dB h3
  refine aaz x (Qq.mk ⟨r0.s,r0.p,r0.q⟩ ⟨r1.s,r1.p,r1.q⟩ ⟨r2.s,r2.p,r2.q⟩ ⟨r3.s,r3.p,r3.q⟩) w (by have h':=h;rw[m0.1,m1.1,m2.1,m3.1]at h';exact h') ⟨⟨?_,?_,Fq.valid.n m0.2⟩,⟨?_,?_,Fq.valid.n m1.2⟩,⟨?_,?_,Fq.valid.n m2.2⟩,⟨?_,?_,Fq.valid.n m3.2⟩⟩ ⟨m0.2,m1.2,m2.2,m3.2⟩
  ·show nl r0.p≤_;omega
  ·show nl r0.q≤_;omega
  ·show nl r1.p≤_;omega
  ·show nl r1.q≤_;omega
  ·show nl r2.p≤_;omega
  ·show nl r2.q≤_;omega
  ·show nl r3.p≤_;omega
  ·show nl r3.q≤_;omega
 ·unfold og
  rw[hv,Bool.false_and]
  exact aax x r0 r1 r2 r3 w h lr0 nr0 lr1 nr1 lr2 nr2 lr3 nr3 hv
theorem aaA (vq:Value) (q:Qq) (w:World) (iq:dM w vq q) (hq:q.ok 1000000) (gc:q.comp):Calls Tryz.prog 51 #[vq] w fun e w'=>bH w (.bool (q.first.same (Fq.ofInt 1))) e w':=by
 by_cases h:q.first=Fq.ofInt 1
 ·rw[Fq.same_iff.2 h];exact pF vq q w iq hq (oJ gc h)
 ·rw[eL h];exact wL vq q w iq hq gc h
theorem xp (x:Value) (r0 r1 r2 r3:Rq) (w:World) (h:IsL w x [r0,r1,r2,r3]) (lr0:r0.L≤1000000) (nr0:r0.N≤1000000) (lr1:r1.L≤1000000) (nr1:r1.N≤1000000) (lr2:r2.L≤1000000) (nr2:r2.N≤1000000) (lr3:r3.L≤1000000) (nr3:r3.N≤1000000):Calls Tryz.prog 51 #[x] w fun e w'=>bH w (.bool (og r0 r1 r2 r3)) e w':=by
 rcases Bool.eq_false_or_eq_true (r0.vld && (r1.vld && (r2.vld && r3.vld)))with hv | hv
 ·unfold og
  rw[hv,Bool.true_and]
  simp only[Bool.and_eq_true]at hv
  obtain⟨h0,h1,h2,h3⟩:=hv
  have k0:=jP h0;have k1:=jP h1;have k2:=jP h2;have k3:=jP h3
  have m0:=dB h0;have m1:=dB h1;have m2:=dB h2;have m3:=dB h3
  refine aaA x (Qq.mk ⟨r0.s,r0.p,r0.q⟩ ⟨r1.s,r1.p,r1.q⟩ ⟨r2.s,r2.p,r2.q⟩ ⟨r3.s,r3.p,r3.q⟩) w (by have h':=h;rw[m0.1,m1.1,m2.1,m3.1]at h';exact h') ⟨⟨?_,?_,Fq.valid.n m0.2⟩,⟨?_,?_,Fq.valid.n m1.2⟩,⟨?_,?_,Fq.valid.n m2.2⟩,⟨?_,?_,Fq.valid.n m3.2⟩⟩ ⟨m0.2,m1.2,m2.2,m3.2⟩
  ·show nl r0.p≤_;omega
  ·show nl r0.q≤_;omega
  ·show nl r1.p≤_;omega
  ·show nl r1.q≤_;omega
  ·show nl r2.p≤_;omega
  ·show nl r2.q≤_;omega
  ·show nl r3.p≤_;omega
  ·show nl r3.q≤_;omega
 ·unfold og
  rw[hv,Bool.false_and]
  exact aay x r0 r1 r2 r3 w h lr0 nr0 lr1 nr1 lr2 nr2 lr3 nr3 hv
def ku (r0 r1 r2:Rq):Bool:=r0.vld && (r1.vld && r2.vld)
def mA (r0 r1 r2 r3 r4 r5 r6:Rq):Bool:=og r0 r1 r2 r3 && ku r4 r5 r6
def xq (r0 r1 r2:Rq):List Fq:=[]
def xr (r0 r1 r2:Rq):List Fq:=[]
def xt (r0 r1 r2:Rq):List Fq:=[]
def xu (r0 r1 r2:Rq):List Fq:=[]
theorem aaB (x:Value) (r0 r1 r2:Rq) (w:World) (h:IsL w x [r0,r1,r2]) (lr0:r0.L≤1000000) (nr0:r0.N≤1000000) (lr1:r1.L≤1000000) (nr1:r1.N≤1000000) (lr2:r2.L≤1000000) (nr2:r2.N≤1000000):Calls Tryz.prog 70 #[x] w fun e w'=>bH w (.bool (ku r0 r1 r2)) e w':=by
 rcases Bool.eq_false_or_eq_true (r0.vld)with c0 | c0
 ·rcases Bool.eq_false_or_eq_true (r1.vld)with c1 | c1
  ·rcases Bool.eq_false_or_eq_true (r2.vld)with c2 | c2
   ·refine(cRn (ρ:=frs (xq r0 r1 r2)++ [.val (.bool r0.s),.dig r0.L r0.p,.dig r0.N r0.q,.val (.bool r1.s),.dig r1.L r1.p,.dig r1.N r1.q,.val (.bool r2.s),.dig r2.L r2.p,.dig r2.N r2.q]) (args:=[cU [0,3,6]]) (vs:=[x]) (r:=.v (.one (.b true)))
     (af (bW (n:=0) (r:=r0) (d:=true) ⟨⟨rfl,rfl,rfl⟩,trivial⟩ c0 lr0 nr0) (af (bW (n:=3) (r:=r1) (d:=true) ⟨⟨rfl,rfl,rfl⟩,trivial⟩ c1 lr1 nr1) (af (bW (n:=6) (r:=r2) (d:=true) ⟨⟨rfl,rfl,rfl⟩,trivial⟩ c2 lr2 nr2) ai)))
     aj Tryz.func70 (by kernel_rfl) ⟨(aP (ns:=[0,3,6]) (rs:=[r0,r1,r2]) ⟨⟨rfl,rfl,rfl⟩,⟨rfl,rfl,rfl⟩,⟨rfl,rfl,rfl⟩,trivial⟩).2 h,trivial⟩).mono ?_
    rintro e w' ⟨v,rfl,h1,h2⟩
    have h1:v= .bool _:=h1
    subst h1
    exact⟨by simp[ku,c0,c1,c2],h2⟩
   ·refine(cRn (ρ:=frs (xr r0 r1 r2)++ [.val (.bool r0.s),.dig r0.L r0.p,.dig r0.N r0.q,.val (.bool r1.s),.dig r1.L r1.p,.dig r1.N r1.q,.val (.bool r2.s),.dig r2.L r2.p,.dig r2.N r2.q]) (args:=[cU [0,3,6]]) (vs:=[x]) (r:=.v (.one (.b false)))
     (af (bW (n:=0) (r:=r0) (d:=true) ⟨⟨rfl,rfl,rfl⟩,trivial⟩ c0 lr0 nr0) (af (bW (n:=3) (r:=r1) (d:=true) ⟨⟨rfl,rfl,rfl⟩,trivial⟩ c1 lr1 nr1) (af (bW (n:=6) (r:=r2) (d:=false) ⟨⟨rfl,rfl,rfl⟩,trivial⟩ c2 lr2 nr2) ai)))
     aj Tryz.func70 (by kernel_rfl) ⟨(aP (ns:=[0,3,6]) (rs:=[r0,r1,r2]) ⟨⟨rfl,rfl,rfl⟩,⟨rfl,rfl,rfl⟩,⟨rfl,rfl,rfl⟩,trivial⟩).2 h,trivial⟩).mono ?_
    rintro e w' ⟨v,rfl,h1,h2⟩
    have h1:v= .bool _:=h1
    subst h1
    exact⟨by simp[ku,c0,c1,c2],h2⟩
  ·refine(cRn (ρ:=frs (xt r0 r1 r2)++ [.val (.bool r0.s),.dig r0.L r0.p,.dig r0.N r0.q,.val (.bool r1.s),.dig r1.L r1.p,.dig r1.N r1.q,.val (.bool r2.s),.dig r2.L r2.p,.dig r2.N r2.q]) (args:=[cU [0,3,6]]) (vs:=[x]) (r:=.v (.one (.b false)))
    (af (bW (n:=0) (r:=r0) (d:=true) ⟨⟨rfl,rfl,rfl⟩,trivial⟩ c0 lr0 nr0) (af (bW (n:=3) (r:=r1) (d:=false) ⟨⟨rfl,rfl,rfl⟩,trivial⟩ c1 lr1 nr1) ai))
    aj Tryz.func70 (by kernel_rfl) ⟨(aP (ns:=[0,3,6]) (rs:=[r0,r1,r2]) ⟨⟨rfl,rfl,rfl⟩,⟨rfl,rfl,rfl⟩,⟨rfl,rfl,rfl⟩,trivial⟩).2 h,trivial⟩).mono ?_
   rintro e w' ⟨v,rfl,h1,h2⟩
   have h1:v= .bool _:=h1
   subst h1
   exact⟨by simp[ku,c0,c1],h2⟩
 ·refine(cRn (ρ:=frs (xu r0 r1 r2)++ [.val (.bool r0.s),.dig r0.L r0.p,.dig r0.N r0.q,.val (.bool r1.s),.dig r1.L r1.p,.dig r1.N r1.q,.val (.bool r2.s),.dig r2.L r2.p,.dig r2.N r2.q]) (args:=[cU [0,3,6]]) (vs:=[x]) (r:=.v (.one (.b false)))
   (af (bW (n:=0) (r:=r0) (d:=false) ⟨⟨rfl,rfl,rfl⟩,trivial⟩ c0 lr0 nr0) ai)
   aj Tryz.func70 (by kernel_rfl) ⟨(aP (ns:=[0,3,6]) (rs:=[r0,r1,r2]) ⟨⟨rfl,rfl,rfl⟩,⟨rfl,rfl,rfl⟩,⟨rfl,rfl,rfl⟩,trivial⟩).2 h,trivial⟩).mono ?_
  rintro e w' ⟨v,rfl,h1,h2⟩
  have h1:v= .bool _:=h1
  subst h1
  exact⟨by simp[ku,c0],h2⟩
theorem rn {xs:List Fq} {ys:Rho} {ns:List Nat} {r0 r1 r2:Rq} {d:Bool} (hr:AtR (frs xs++ys) ns [r0,r1,r2]) (hd:ku r0 r1 r2=d) (lr0:r0.L≤1000000) (nr0:r0.N≤1000000) (lr1:r1.L≤1000000) (nr1:r1.N≤1000000) (lr2:r2.L≤1000000) (nr2:r2.N≤1000000):OkI xs ys ⟨70,[cU ns],.v (.one (.b d))⟩:=
 ⟨aA Tryz.func70 rfl rfl,fun B w vs hB h=>by
  match vs,h with
  | [x],h=>
   refine(aaB x r0 r1 r2 w ((aP hr).1 h.1) lr0 nr0 lr1 nr1 lr2 nr2).mono ?_
   rintro e w' ⟨rfl,h2⟩
   exact⟨_,rfl,by subst hd;rfl,h2⟩⟩
def uD (r0 r1 r2:Rq):List Fq:=[]
def uE (r0 r1 r2:Rq):List Fq:=[]
def uF (r0 r1 r2:Rq):List Fq:=[]
def uG (r0 r1 r2:Rq):List Fq:=[]
theorem xw (x:Value) (r0 r1 r2:Rq) (w:World) (h:IsL w x [r0,r1,r2]) (lr0:r0.L≤1000000) (nr0:r0.N≤1000000) (lr1:r1.L≤1000000) (nr1:r1.N≤1000000) (lr2:r2.L≤1000000) (nr2:r2.N≤1000000):Calls Tryz.prog 52 #[x] w fun e w'=>bH w (.bool (ku r0 r1 r2)) e w':=by
 rcases Bool.eq_false_or_eq_true (r0.vld)with c0 | c0
 ·rcases Bool.eq_false_or_eq_true (r1.vld)with c1 | c1
  ·rcases Bool.eq_false_or_eq_true (r2.vld)with c2 | c2
   ·refine(cRn (ρ:=frs (uD r0 r1 r2)++ [.val (.bool r0.s),.dig r0.L r0.p,.dig r0.N r0.q,.val (.bool r1.s),.dig r1.L r1.p,.dig r1.N r1.q,.val (.bool r2.s),.dig r2.L r2.p,.dig r2.N r2.q]) (args:=[cU [0,3,6]]) (vs:=[x]) (r:=.v (.one (.b true)))
     (af (bX (n:=0) (r:=r0) (d:=true) ⟨⟨rfl,rfl,rfl⟩,trivial⟩ c0 lr0 nr0) (af (bX (n:=3) (r:=r1) (d:=true) ⟨⟨rfl,rfl,rfl⟩,trivial⟩ c1 lr1 nr1) (af (bX (n:=6) (r:=r2) (d:=true) ⟨⟨rfl,rfl,rfl⟩,trivial⟩ c2 lr2 nr2) ai)))
     aj Tryz.func52 (by kernel_rfl) ⟨(aP (ns:=[0,3,6]) (rs:=[r0,r1,r2]) ⟨⟨rfl,rfl,rfl⟩,⟨rfl,rfl,rfl⟩,⟨rfl,rfl,rfl⟩,trivial⟩).2 h,trivial⟩).mono ?_
    rintro e w' ⟨v,rfl,h1,h2⟩
    have h1:v= .bool _:=h1
    subst h1
    exact⟨by simp[ku,c0,c1,c2],h2⟩
   ·refine(cRn (ρ:=frs (uE r0 r1 r2)++ [.val (.bool r0.s),.dig r0.L r0.p,.dig r0.N r0.q,.val (.bool r1.s),.dig r1.L r1.p,.dig r1.N r1.q,.val (.bool r2.s),.dig r2.L r2.p,.dig r2.N r2.q]) (args:=[cU [0,3,6]]) (vs:=[x]) (r:=.v (.one (.b false)))
     (af (bX (n:=0) (r:=r0) (d:=true) ⟨⟨rfl,rfl,rfl⟩,trivial⟩ c0 lr0 nr0) (af (bX (n:=3) (r:=r1) (d:=true) ⟨⟨rfl,rfl,rfl⟩,trivial⟩ c1 lr1 nr1) (af (bX (n:=6) (r:=r2) (d:=false) ⟨⟨rfl,rfl,rfl⟩,trivial⟩ c2 lr2 nr2) ai)))
     aj Tryz.func52 (by kernel_rfl) ⟨(aP (ns:=[0,3,6]) (rs:=[r0,r1,r2]) ⟨⟨rfl,rfl,rfl⟩,⟨rfl,rfl,rfl⟩,⟨rfl,rfl,rfl⟩,trivial⟩).2 h,trivial⟩).mono ?_
    rintro e w' ⟨v,rfl,h1,h2⟩
    have h1:v= .bool _:=h1
    subst h1
    exact⟨by simp[ku,c0,c1,c2],h2⟩
  ·refine(cRn (ρ:=frs (uF r0 r1 r2)++ [.val (.bool r0.s),.dig r0.L r0.p,.dig r0.N r0.q,.val (.bool r1.s),.dig r1.L r1.p,.dig r1.N r1.q,.val (.bool r2.s),.dig r2.L r2.p,.dig r2.N r2.q]) (args:=[cU [0,3,6]]) (vs:=[x]) (r:=.v (.one (.b false)))
    (af (bX (n:=0) (r:=r0) (d:=true) ⟨⟨rfl,rfl,rfl⟩,trivial⟩ c0 lr0 nr0) (af (bX (n:=3) (r:=r1) (d:=false) ⟨⟨rfl,rfl,rfl⟩,trivial⟩ c1 lr1 nr1) ai))
    aj Tryz.func52 (by kernel_rfl) ⟨(aP (ns:=[0,3,6]) (rs:=[r0,r1,r2]) ⟨⟨rfl,rfl,rfl⟩,⟨rfl,rfl,rfl⟩,⟨rfl,rfl,rfl⟩,trivial⟩).2 h,trivial⟩).mono ?_
   rintro e w' ⟨v,rfl,h1,h2⟩
   have h1:v= .bool _:=h1
   subst h1
   exact⟨by simp[ku,c0,c1],h2⟩
 ·refine(cRn (ρ:=frs (uG r0 r1 r2)++ [.val (.bool r0.s),.dig r0.L r0.p,.dig r0.N r0.q,.val (.bool r1.s),.dig r1.L r1.p,.dig r1.N r1.q,.val (.bool r2.s),.dig r2.L r2.p,.dig r2.N r2.q]) (args:=[cU [0,3,6]]) (vs:=[x]) (r:=.v (.one (.b false)))
   (af (bX (n:=0) (r:=r0) (d:=false) ⟨⟨rfl,rfl,rfl⟩,trivial⟩ c0 lr0 nr0) ai)
   aj Tryz.func52 (by kernel_rfl) ⟨(aP (ns:=[0,3,6]) (rs:=[r0,r1,r2]) ⟨⟨rfl,rfl,rfl⟩,⟨rfl,rfl,rfl⟩,⟨rfl,rfl,rfl⟩,trivial⟩).2 h,trivial⟩).mono ?_
  rintro e w' ⟨v,rfl,h1,h2⟩
  have h1:v= .bool _:=h1
  subst h1
  exact⟨by simp[ku,c0],h2⟩
theorem pR {xs:List Fq} {ys:Rho} {ns:List Nat} {r0 r1 r2:Rq} {d:Bool} (hr:AtR (frs xs++ys) ns [r0,r1,r2]) (hd:ku r0 r1 r2=d) (lr0:r0.L≤1000000) (nr0:r0.N≤1000000) (lr1:r1.L≤1000000) (nr1:r1.N≤1000000) (lr2:r2.L≤1000000) (nr2:r2.N≤1000000):OkI xs ys ⟨52,[cU ns],.v (.one (.b d))⟩:=
 ⟨aA Tryz.func52 rfl rfl,fun B w vs hB h=>by
  match vs,h with
  | [x],h=>
   refine(xw x r0 r1 r2 w ((aP hr).1 h.1) lr0 nr0 lr1 nr1 lr2 nr2).mono ?_
   rintro e w' ⟨rfl,h2⟩
   exact⟨_,rfl,by subst hd;rfl,h2⟩⟩
theorem lB {xs:List Fq} {ys:Rho} {ns:List Nat} {r0 r1 r2 r3:Rq} {d:Bool} (hr:AtR (frs xs++ys) ns [r0,r1,r2,r3]) (hd:og r0 r1 r2 r3=d) (lr0:r0.L≤1000000) (nr0:r0.N≤1000000) (lr1:r1.L≤1000000) (nr1:r1.N≤1000000) (lr2:r2.L≤1000000) (nr2:r2.N≤1000000) (lr3:r3.L≤1000000) (nr3:r3.N≤1000000):OkI xs ys ⟨69,[cU ns],.v (.one (.b d))⟩:=
 ⟨aA Tryz.func69 rfl rfl,fun B w vs hB h=>by
  match vs,h with
  | [va],h=>
   refine(xm va r0 r1 r2 r3 w ((aP hr).1 h.1) lr0 nr0 lr1 nr1 lr2 nr2 lr3 nr3).mono ?_
   rintro e w' ⟨rfl,h2⟩
   exact⟨_,rfl,by subst hd;rfl,h2⟩⟩
theorem lC {xs:List Fq} {ys:Rho} {ns:List Nat} {r0 r1 r2 r3:Rq} {d:Bool} (hr:AtR (frs xs++ys) ns [r0,r1,r2,r3]) (hd:og r0 r1 r2 r3=d) (lr0:r0.L≤1000000) (nr0:r0.N≤1000000) (lr1:r1.L≤1000000) (nr1:r1.N≤1000000) (lr2:r2.L≤1000000) (nr2:r2.N≤1000000) (lr3:r3.L≤1000000) (nr3:r3.N≤1000000):OkI xs ys ⟨51,[cU ns],.v (.one (.b d))⟩:=
 ⟨aA Tryz.func51 rfl rfl,fun B w vs hB h=>by
  match vs,h with
  | [va],h=>
   refine(xp va r0 r1 r2 r3 w ((aP hr).1 h.1) lr0 nr0 lr1 nr1 lr2 nr2 lr3 nr3).mono ?_
   rintro e w' ⟨rfl,h2⟩
   exact⟨_,rfl,by subst hd;rfl,h2⟩⟩
def uH (r0 r1 r2 r3 r4 r5 r6:Rq):List Fq:=[]
def uI (r0 r1 r2 r3 r4 r5 r6:Rq):List Fq:=[]
def uJ (r0 r1 r2 r3 r4 r5 r6:Rq):List Fq:=[]
theorem xx (x:Value) (r0 r1 r2 r3 r4 r5 r6:Rq) (w:World) (h:IsL w x [r0,r1,r2,r3,r4,r5,r6]) (lr0:r0.L≤1000000) (nr0:r0.N≤1000000) (lr1:r1.L≤1000000) (nr1:r1.N≤1000000) (lr2:r2.L≤1000000) (nr2:r2.N≤1000000) (lr3:r3.L≤1000000) (nr3:r3.N≤1000000) (lr4:r4.L≤1000000) (nr4:r4.N≤1000000) (lr5:r5.L≤1000000) (nr5:r5.N≤1000000) (lr6:r6.L≤1000000) (nr6:r6.N≤1000000):Calls Tryz.prog 44 #[x] w fun e w'=>bH w (.bool (mA r0 r1 r2 r3 r4 r5 r6)) e w':=by
 rcases Bool.eq_false_or_eq_true (og r0 r1 r2 r3)with c0 | c0
 ·rcases Bool.eq_false_or_eq_true (ku r4 r5 r6)with c1 | c1
  ·refine(cRn (ρ:=frs (uH r0 r1 r2 r3 r4 r5 r6)++ [.val (.bool r0.s),.dig r0.L r0.p,.dig r0.N r0.q,.val (.bool r1.s),.dig r1.L r1.p,.dig r1.N r1.q,.val (.bool r2.s),.dig r2.L r2.p,.dig r2.N r2.q,.val (.bool r3.s),.dig r3.L r3.p,.dig r3.N r3.q,.val (.bool r4.s),.dig r4.L r4.p,.dig r4.N r4.q,.val (.bool r5.s),.dig r5.L r5.p,.dig r5.N r5.q,.val (.bool r6.s),.dig r6.L r6.p,.dig r6.N r6.q]) (args:=[cU [0,3,6,9,12,15,18]]) (vs:=[x]) (r:=.v (.one (.b true)))
    (af (lB (ns:=[0,3,6,9]) (d:=true) ⟨⟨rfl,rfl,rfl⟩,⟨rfl,rfl,rfl⟩,⟨rfl,rfl,rfl⟩,⟨rfl,rfl,rfl⟩,trivial⟩ c0 lr0 nr0 lr1 nr1 lr2 nr2 lr3 nr3) (af (rn (ns:=[12,15,18]) (d:=true) ⟨⟨rfl,rfl,rfl⟩,⟨rfl,rfl,rfl⟩,⟨rfl,rfl,rfl⟩,trivial⟩ c1 lr4 nr4 lr5 nr5 lr6 nr6) ai))
    aj Tryz.func44 (by kernel_rfl) ⟨(aP (ns:=[0,3,6,9,12,15,18]) (rs:=[r0,r1,r2,r3,r4,r5,r6]) ⟨⟨rfl,rfl,rfl⟩,⟨rfl,rfl,rfl⟩,⟨rfl,rfl,rfl⟩,⟨rfl,rfl,rfl⟩,⟨rfl,rfl,rfl⟩,⟨rfl,rfl,rfl⟩,⟨rfl,rfl,rfl⟩,trivial⟩).2 h,trivial⟩).mono ?_
   rintro e w' ⟨v,rfl,h1,h2⟩
   have h1:v= .bool _:=h1
   subst h1
   exact⟨by simp[mA,c0,c1],h2⟩
  ·refine(cRn (ρ:=frs (uI r0 r1 r2 r3 r4 r5 r6)++ [.val (.bool r0.s),.dig r0.L r0.p,.dig r0.N r0.q,.val (.bool r1.s),.dig r1.L r1.p,.dig r1.N r1.q,.val (.bool r2.s),.dig r2.L r2.p,.dig r2.N r2.q,.val (.bool r3.s),.dig r3.L r3.p,.dig r3.N r3.q,.val (.bool r4.s),.dig r4.L r4.p,.dig r4.N r4.q,.val (.bool r5.s),.dig r5.L r5.p,.dig r5.N r5.q,.val (.bool r6.s),.dig r6.L r6.p,.dig r6.N r6.q]) (args:=[cU [0,3,6,9,12,15,18]]) (vs:=[x]) (r:=.v (.one (.b false)))
    (af (lB (ns:=[0,3,6,9]) (d:=true) ⟨⟨rfl,rfl,rfl⟩,⟨rfl,rfl,rfl⟩,⟨rfl,rfl,rfl⟩,⟨rfl,rfl,rfl⟩,trivial⟩ c0 lr0 nr0 lr1 nr1 lr2 nr2 lr3 nr3) (af (rn (ns:=[12,15,18]) (d:=false) ⟨⟨rfl,rfl,rfl⟩,⟨rfl,rfl,rfl⟩,⟨rfl,rfl,rfl⟩,trivial⟩ c1 lr4 nr4 lr5 nr5 lr6 nr6) ai))
    aj Tryz.func44 (by kernel_rfl) ⟨(aP (ns:=[0,3,6,9,12,15,18]) (rs:=[r0,r1,r2,r3,r4,r5,r6]) ⟨⟨rfl,rfl,rfl⟩,⟨rfl,rfl,rfl⟩,⟨rfl,rfl,rfl⟩,⟨rfl,rfl,rfl⟩,⟨rfl,rfl,rfl⟩,⟨rfl,rfl,rfl⟩,⟨rfl,rfl,rfl⟩,trivial⟩).2 h,trivial⟩).mono ?_
   rintro e w' ⟨v,rfl,h1,h2⟩
   have h1:v= .bool _:=h1
   subst h1
   exact⟨by simp[mA,c0,c1],h2⟩
 ·refine(cRn (ρ:=frs (uJ r0 r1 r2 r3 r4 r5 r6)++ [.val (.bool r0.s),.dig r0.L r0.p,.dig r0.N r0.q,.val (.bool r1.s),.dig r1.L r1.p,.dig r1.N r1.q,.val (.bool r2.s),.dig r2.L r2.p,.dig r2.N r2.q,.val (.bool r3.s),.dig r3.L r3.p,.dig r3.N r3.q,.val (.bool r4.s),.dig r4.L r4.p,.dig r4.N r4.q,.val (.bool r5.s),.dig r5.L r5.p,.dig r5.N r5.q,.val (.bool r6.s),.dig r6.L r6.p,.dig r6.N r6.q]) (args:=[cU [0,3,6,9,12,15,18]]) (vs:=[x]) (r:=.v (.one (.b false)))
   (af (lB (ns:=[0,3,6,9]) (d:=false) ⟨⟨rfl,rfl,rfl⟩,⟨rfl,rfl,rfl⟩,⟨rfl,rfl,rfl⟩,⟨rfl,rfl,rfl⟩,trivial⟩ c0 lr0 nr0 lr1 nr1 lr2 nr2 lr3 nr3) ai)
   aj Tryz.func44 (by kernel_rfl) ⟨(aP (ns:=[0,3,6,9,12,15,18]) (rs:=[r0,r1,r2,r3,r4,r5,r6]) ⟨⟨rfl,rfl,rfl⟩,⟨rfl,rfl,rfl⟩,⟨rfl,rfl,rfl⟩,⟨rfl,rfl,rfl⟩,⟨rfl,rfl,rfl⟩,⟨rfl,rfl,rfl⟩,⟨rfl,rfl,rfl⟩,trivial⟩).2 h,trivial⟩).mono ?_
  rintro e w' ⟨v,rfl,h1,h2⟩
  have h1:v= .bool _:=h1
  subst h1
  exact⟨by simp[mA,c0],h2⟩
theorem xy {xs:List Fq} {ys:Rho} {ns:List Nat} {r0 r1 r2 r3 r4 r5 r6:Rq} {d:Bool} (hr:AtR (frs xs++ys) ns [r0,r1,r2,r3,r4,r5,r6]) (hd:mA r0 r1 r2 r3 r4 r5 r6=d) (lr0:r0.L≤1000000) (nr0:r0.N≤1000000) (lr1:r1.L≤1000000) (nr1:r1.N≤1000000) (lr2:r2.L≤1000000) (nr2:r2.N≤1000000) (lr3:r3.L≤1000000) (nr3:r3.N≤1000000) (lr4:r4.L≤1000000) (nr4:r4.N≤1000000) (lr5:r5.L≤1000000) (nr5:r5.N≤1000000) (lr6:r6.L≤1000000) (nr6:r6.N≤1000000):OkI xs ys ⟨44,[cU ns],.v (.one (.b d))⟩:=
 ⟨aA Tryz.func44 rfl rfl,fun B w vs hB h=>by
  match vs,h with
  | [x],h=>
   refine(xx x r0 r1 r2 r3 r4 r5 r6 w ((aP hr).1 h.1) lr0 nr0 lr1 nr1 lr2 nr2 lr3 nr3 lr4 nr4 lr5 nr5 lr6 nr6).mono ?_
   rintro e w' ⟨rfl,h2⟩
   exact⟨_,rfl,by subst hd;rfl,h2⟩⟩
def uK (r0 r1 r2 r3 r4 r5 r6:Rq):List Fq:=[]
def uL (r0 r1 r2 r3 r4 r5 r6:Rq):List Fq:=[]
def uM (r0 r1 r2 r3 r4 r5 r6:Rq):List Fq:=[]
theorem xz (x:Value) (r0 r1 r2 r3 r4 r5 r6:Rq) (w:World) (h:IsL w x [r0,r1,r2,r3,r4,r5,r6]) (lr0:r0.L≤1000000) (nr0:r0.N≤1000000) (lr1:r1.L≤1000000) (nr1:r1.N≤1000000) (lr2:r2.L≤1000000) (nr2:r2.N≤1000000) (lr3:r3.L≤1000000) (nr3:r3.N≤1000000) (lr4:r4.L≤1000000) (nr4:r4.N≤1000000) (lr5:r5.L≤1000000) (nr5:r5.N≤1000000) (lr6:r6.L≤1000000) (nr6:r6.N≤1000000):Calls Tryz.prog 21 #[x] w fun e w'=>bH w (.bool (mA r0 r1 r2 r3 r4 r5 r6)) e w':=by
 rcases Bool.eq_false_or_eq_true (og r0 r1 r2 r3)with c0 | c0
 ·rcases Bool.eq_false_or_eq_true (ku r4 r5 r6)with c1 | c1
  ·refine(cRn (ρ:=frs (uK r0 r1 r2 r3 r4 r5 r6)++ [.val (.bool r0.s),.dig r0.L r0.p,.dig r0.N r0.q,.val (.bool r1.s),.dig r1.L r1.p,.dig r1.N r1.q,.val (.bool r2.s),.dig r2.L r2.p,.dig r2.N r2.q,.val (.bool r3.s),.dig r3.L r3.p,.dig r3.N r3.q,.val (.bool r4.s),.dig r4.L r4.p,.dig r4.N r4.q,.val (.bool r5.s),.dig r5.L r5.p,.dig r5.N r5.q,.val (.bool r6.s),.dig r6.L r6.p,.dig r6.N r6.q]) (args:=[cU [0,3,6,9,12,15,18]]) (vs:=[x]) (r:=.v (.one (.b true)))
    (af (lC (ns:=[0,3,6,9]) (d:=true) ⟨⟨rfl,rfl,rfl⟩,⟨rfl,rfl,rfl⟩,⟨rfl,rfl,rfl⟩,⟨rfl,rfl,rfl⟩,trivial⟩ c0 lr0 nr0 lr1 nr1 lr2 nr2 lr3 nr3) (af (pR (ns:=[12,15,18]) (d:=true) ⟨⟨rfl,rfl,rfl⟩,⟨rfl,rfl,rfl⟩,⟨rfl,rfl,rfl⟩,trivial⟩ c1 lr4 nr4 lr5 nr5 lr6 nr6) ai))
    aj Tryz.func21 (by kernel_rfl) ⟨(aP (ns:=[0,3,6,9,12,15,18]) (rs:=[r0,r1,r2,r3,r4,r5,r6]) ⟨⟨rfl,rfl,rfl⟩,⟨rfl,rfl,rfl⟩,⟨rfl,rfl,rfl⟩,⟨rfl,rfl,rfl⟩,⟨rfl,rfl,rfl⟩,⟨rfl,rfl,rfl⟩,⟨rfl,rfl,rfl⟩,trivial⟩).2 h,trivial⟩).mono ?_
   rintro e w' ⟨v,rfl,h1,h2⟩
   have h1:v= .bool _:=h1
   subst h1
   exact⟨by simp[mA,c0,c1],h2⟩
  ·refine(cRn (ρ:=frs (uL r0 r1 r2 r3 r4 r5 r6)++ [.val (.bool r0.s),.dig r0.L r0.p,.dig r0.N r0.q,.val (.bool r1.s),.dig r1.L r1.p,.dig r1.N r1.q,.val (.bool r2.s),.dig r2.L r2.p,.dig r2.N r2.q,.val (.bool r3.s),.dig r3.L r3.p,.dig r3.N r3.q,.val (.bool r4.s),.dig r4.L r4.p,.dig r4.N r4.q,.val (.bool r5.s),.dig r5.L r5.p,.dig r5.N r5.q,.val (.bool r6.s),.dig r6.L r6.p,.dig r6.N r6.q]) (args:=[cU [0,3,6,9,12,15,18]]) (vs:=[x]) (r:=.v (.one (.b false)))
    (af (lC (ns:=[0,3,6,9]) (d:=true) ⟨⟨rfl,rfl,rfl⟩,⟨rfl,rfl,rfl⟩,⟨rfl,rfl,rfl⟩,⟨rfl,rfl,rfl⟩,trivial⟩ c0 lr0 nr0 lr1 nr1 lr2 nr2 lr3 nr3) (af (pR (ns:=[12,15,18]) (d:=false) ⟨⟨rfl,rfl,rfl⟩,⟨rfl,rfl,rfl⟩,⟨rfl,rfl,rfl⟩,trivial⟩ c1 lr4 nr4 lr5 nr5 lr6 nr6) ai))
    aj Tryz.func21 (by kernel_rfl) ⟨(aP (ns:=[0,3,6,9,12,15,18]) (rs:=[r0,r1,r2,r3,r4,r5,r6]) ⟨⟨rfl,rfl,rfl⟩,⟨rfl,rfl,rfl⟩,⟨rfl,rfl,rfl⟩,⟨rfl,rfl,rfl⟩,⟨rfl,rfl,rfl⟩,⟨rfl,rfl,rfl⟩,⟨rfl,rfl,rfl⟩,trivial⟩).2 h,trivial⟩).mono ?_
   rintro e w' ⟨v,rfl,h1,h2⟩
   have h1:v= .bool _:=h1
   subst h1
   exact⟨by simp[mA,c0,c1],h2⟩
 ·refine(cRn (ρ:=frs (uM r0 r1 r2 r3 r4 r5 r6)++ [.val (.bool r0.s),.dig r0.L r0.p,.dig r0.N r0.q,.val (.bool r1.s),.dig r1.L r1.p,.dig r1.N r1.q,.val (.bool r2.s),.dig r2.L r2.p,.dig r2.N r2.q,.val (.bool r3.s),.dig r3.L r3.p,.dig r3.N r3.q,.val (.bool r4.s),.dig r4.L r4.p,.dig r4.N r4.q,.val (.bool r5.s),.dig r5.L r5.p,.dig r5.N r5.q,.val (.bool r6.s),.dig r6.L r6.p,.dig r6.N r6.q]) (args:=[cU [0,3,6,9,12,15,18]]) (vs:=[x]) (r:=.v (.one (.b false)))
   (af (lC (ns:=[0,3,6,9]) (d:=false) ⟨⟨rfl,rfl,rfl⟩,⟨rfl,rfl,rfl⟩,⟨rfl,rfl,rfl⟩,⟨rfl,rfl,rfl⟩,trivial⟩ c0 lr0 nr0 lr1 nr1 lr2 nr2 lr3 nr3) ai)
   aj Tryz.func21 (by kernel_rfl) ⟨(aP (ns:=[0,3,6,9,12,15,18]) (rs:=[r0,r1,r2,r3,r4,r5,r6]) ⟨⟨rfl,rfl,rfl⟩,⟨rfl,rfl,rfl⟩,⟨rfl,rfl,rfl⟩,⟨rfl,rfl,rfl⟩,⟨rfl,rfl,rfl⟩,⟨rfl,rfl,rfl⟩,⟨rfl,rfl,rfl⟩,trivial⟩).2 h,trivial⟩).mono ?_
  rintro e w' ⟨v,rfl,h1,h2⟩
  have h1:v= .bool _:=h1
  subst h1
  exact⟨by simp[mA,c0],h2⟩
theorem xA {xs:List Fq} {ys:Rho} {ns:List Nat} {r0 r1 r2 r3 r4 r5 r6:Rq} {d:Bool} (hr:AtR (frs xs++ys) ns [r0,r1,r2,r3,r4,r5,r6]) (hd:mA r0 r1 r2 r3 r4 r5 r6=d) (lr0:r0.L≤1000000) (nr0:r0.N≤1000000) (lr1:r1.L≤1000000) (nr1:r1.N≤1000000) (lr2:r2.L≤1000000) (nr2:r2.N≤1000000) (lr3:r3.L≤1000000) (nr3:r3.N≤1000000) (lr4:r4.L≤1000000) (nr4:r4.N≤1000000) (lr5:r5.L≤1000000) (nr5:r5.N≤1000000) (lr6:r6.L≤1000000) (nr6:r6.N≤1000000):OkI xs ys ⟨21,[cU ns],.v (.one (.b d))⟩:=
 ⟨aA Tryz.func21 rfl rfl,fun B w vs hB h=>by
  match vs,h with
  | [x],h=>
   refine(xz x r0 r1 r2 r3 r4 r5 r6 w ((aP hr).1 h.1) lr0 nr0 lr1 nr1 lr2 nr2 lr3 nr3 lr4 nr4 lr5 nr5 lr6 nr6).mono ?_
   rintro e w' ⟨rfl,h2⟩
   exact⟨_,rfl,by subst hd;rfl,h2⟩⟩
end Go.Proofs.YtfhinmdhjlmikaaGreat
namespace Go.Proofs.YtfhinmdhjlmikaaGreat
set_option linter.unusedSimpArgs false
set_option linter.unusedVariables false
set_option maxRecDepth 100000
open Go.RowKit
/-- A stamp as it comes in: its numbers may have leading zeros. -/
structure RSt where
 tm:Int
 r0:Rq
 r1:Rq
 r2:Rq
 r3:Rq
 r4:Rq
 r5:Rq
 r6:Rq
def RSt.rs (x:RSt):List Rq:=[x.r0,x.r1,x.r2,x.r3,x.r4,x.r5,x.r6]
def jk (l:List Rq):List Vp:=l.flatMap fun r=>[.val (.bool r.s),.dig r.L r.p,.dig r.N r.q]
def RSt.qs (x:RSt):List Vp:=.val (.int .i64 x.tm)::jk x.rs
def St.raw (s:St):RSt:=⟨s.tm,s.pose.rot.w.raw,s.pose.rot.x.raw,s.pose.rot.y.raw,s.pose.rot.z.raw,s.pose.pos.x.raw,s.pose.pos.y.raw,s.pose.pos.z.raw⟩
def oh (w:World) (v:Value) (x:RSt):Prop:=∃cs:List Value,v= .agg (.int .i64 x.tm::cs).toArray∧bU w x.rs cs
theorem uN {w:World} {v:Value} {s:St}:oh w v s.raw↔cn w v s:=Iff.rfl
def bT (R:List RSt):List Vp:=R.flatMap RSt.qs
section
variable {ρ ρ':Rho} {n m k r j u N:Nat} {a:Int} {T:TypeId} {B:Blk} {w:World} {S S':List St} {f:FuncId} {args xs:List SV} {l la:Leaf} {sl0:Value} {pin:Bool} {x:RSt} {v:Value} {t:TypeId}
theorem d9 {ns:List Nat} (hn:ρ[n]? =some (.val (.int .i64 x.tm))) (ha:AtR ρ ns x.rs):(SV.agg (.ref n::bf ns)).holds ρ B w v↔oh w v x:=by
 constructor
 ·rintro⟨vs,rfl,h⟩
  match vs,h with
  | v0::vs,h=>
   have:=bj hn h.1
   subst this
   exact⟨vs,rfl,(gC ha).1 h.2⟩
 ·rintro⟨cs,rfl,h⟩
  exact⟨.int .i64 x.tm::cs,rfl,aF hn aE,(gC ha).2 h⟩
theorem d5:∀ {ns:List Nat} {rs:List Rq},AtR ρ ns rs→LQ ρ (bf ns) (jk rs)
 | [],[],_=>trivial
 | _::_,_::_,h=>⟨lq h.1.1,lq h.1.2.1,lq h.1.2.2,d5 h.2⟩
 | [],_::_,h=>h.elim
 | _::_,[],h=>h.elim
theorem fJ {ns:List Nat} (hn:ρ[n]? =some (.val (.int .i64 x.tm))) (ha:AtR ρ ns x.rs):LQ ρ (.ref n::bf ns) x.qs:=⟨lq hn,d5 ha⟩
theorem zb:∀ {ns:List Nat} {rs:List Rq},AtR ρ ns rs→QL ρ (bf ns) (jk rs)
 | [],[],_=>trivial
 | _::_,_::_,h=>⟨rX h.1.1,gZ h.1.2.1,gZ h.1.2.2,zb h.2⟩
 | [],_::_,h=>h.elim
 | _::_,[],h=>h.elim
theorem ql_rs {ns:List Nat} (hn:ρ[n]? =some (.val (.int .i64 x.tm))) (ha:AtR ρ ns x.rs):QL ρ (.ref n::bf ns) x.qs:=⟨rX hn,zb ha⟩
/-- A slice of one stamp. -/
theorem o_bsR {ns:List Nat} (hn:ρ[n]? =some (.val (.int .i64 x.tm))) (ha:AtR ρ ns x.rs) (hm:ρ[m]? =some (.row stT 1 x.qs)):(OIns.mk (.bs 22 1 [0]) [.agg (.ref n::bf ns)] (.one (.ref m))).Ok Tryz.prog ρ:=by
 obtain⟨a1,a2,a3,a4,a5,a6,a7,rfl,h⟩:∃a1 a2 a3 a4 a5 a6 a7,ns=[a1,a2,a3,a4,a5,a6,a7]∧True:=by
  match ns,ha with
  | [a1,a2,a3,a4,a5,a6,a7],_=>exact⟨_,_,_,_,_,_,_,rfl,trivial⟩
 exact rY (m:=m) (ss:=[.agg (.ref n::bf [a1,a2,a3,a4,a5,a6,a7])]) (N:=1) (sz:=22) (z:=.i .i64 0::List.flatten (List.replicate 7 [.b false,.sl0,.sl0])) (qs:=x.qs) (ix:=[0]) (ls:=.ref n::bf [a1,a2,a3,a4,a5,a6,a7]) Tryz.underlying22 (by kernel_rfl) (by kernel_rfl) (by decide) (by decide) (by decide) rfl (by kernel_rfl) (ql_rs hn ha) hm
/-- How a track is known. -/
def gI (ρ:Rho) (u:Nat) (T:TypeId) (l:Leaf) (S:List St):Prop:=∀B w g,BInj B→B.v u=some g→ob ρ B w (u,T,[l])→∃sl,TrkS T w g sl S
theorem lD (hm:ρ[m]? =some (.rowB pin sl0 stT S.length (az S))):gI ρ u T (.ref m) S:=fun _ _ _ _ hg hv=>y8 hg hv hm
theorem fy (hm:ρ[m]? =some (.row stT S.length (az S))):gI ρ u T (.own k m) S:=fun _ _ _ hi hg hv=>by
 obtain⟨sl,h,_⟩:=sC hi hg hv hm
 exact⟨sl,h⟩
theorem bY (hen:∀(vs:Array Value) (w:World),(callFunc f vs).run Tryz.prog w= .ok (.enter f vs) w) (hl:gI ρ u T l S) {r:SV}
  (h:∀B w g sl vs,BOk B w.heap.size→TrkS T w g sl S→cM ρ B w args vs→Calls Tryz.prog f (.pointer (some ⟨g,0,none⟩)::vs).toArray w (fun e w'=>∃v,e= .returned v∧(∀B',BOk B' w.heap.size→(tO xs).holds ρ B' w' v)∧Below w.heap.size w w')):
  (OIns.mk (.mut f ⟨[],[(u,T,[l])],[],none,[],xs⟩) (.one (.ptr u 0)::args) r).Ok Tryz.prog ρ:=fun B w vs hv=>by
 match vs,hv with
 | v0::vs,hv=>
  obtain⟨g,hg,rfl⟩:=hv.1
  refine⟨hen _ _,fun hbok hinj ho hov _ hpre=> ?_⟩
  obtain⟨sl,ht⟩:=hl B w g hinj hg (hpre (u,T,[l]) (List.mem_singleton.2 rfl))
  refine(h B w g sl vs hbok ht hv.2).mono ?_
  rintro e w' ⟨v,rfl,hres,hb⟩
  exact⟨v,B,rfl,hres _ hbok,fun q hq=>(by cases hq),fun q hq=>(by cases hq),fun q hq=>(by cases hq),hb.os,hb.tape,hb.output,fun _ _=>rfl,fun q g hq=>(by cases hq),fun l b hb=>hb,fun l b hb=>.inl hb,fun l b hl _=>(by cases hl),hinj,⟨hb.size,fun b hl _=>hb.block b hl,fun b hX=>by
   rcases hX with⟨l,hl,_⟩ | ⟨q,hq,_⟩
   ·cases hl
   ·cases hq⟩⟩
/-- Appends of rows that may be empty. -/
theorem o_appT {qs qs':List Vp} {L M:Nat} (hl:BefO ρ j stT 22 L qs l) (hr:∀B w y,la.holds ρ B w y→(Vp.row stT M qs').p w y) (hm:ρ[m]? =some (.ownr stT 22 (L+M) (qs++qs'))) (hq:qs'.length=M*22) (hb:L+M≤1000000):
  (OIns.mk (.app 22) [.one l,.one la] (.one (.own j m))).Ok Tryz.prog ρ:=fun B w vs hv=>by
 match vs,hv with
 | [v1,v2],hv=>
  have h1:∃xs,lp w stT 22 v1 L xs∧ct w qs xs:=by
   rcases hl with⟨rfl,rfl,rfl⟩ | ⟨n,rfl,hn⟩
   ·have e:v1= .slice none 0 0:=hv.1
    subst e
    exact⟨[],⟨World.ownsRow_nil _ _ _ _,fun g hg=>by cases hg⟩,rfl,fun j q h=>by simp at h⟩
   ·obtain⟨s,k1,k2,_⟩:=hv.1
    rw[hn]at k1;injection k1 with k1;subst k1
    exact k2
  obtain⟨xs,hox,hcx⟩:=h1
  intro ty
  obtain⟨v',w',hrun,hg,hold,hblk,hown⟩:=pL (p:=Tryz.prog) (ty:=ty) (bytes:=400) Tryz.underlying22 (by kernel_rfl) hox hcx (hr _ _ _ hv.2.1) hq (by omega) (by omega)
  refine⟨v',w',hrun,hg,fun g h=>(hold g h).x,fun g hgv=>⟨hblk g hgv,?_,wZ hown g hgv⟩,_,hm,hown,fun g hgv=>hgv⟩
  obtain⟨xs',⟨_,h0⟩,_⟩:=hown
  obtain⟨cs,t,h,_⟩:=h0 g hgv
  exact(Array.getElem?_eq_some_iff.1 h).1
theorem sgo {k:Nat} (h1:ρ[m]? =some (.ownr stT 22 S.length (az S))) (h2:ρ'[n]? =some (.ownr stT 22 S'.length (az S'))) (e:S=S'):pm ρ ρ' (n,.own k m):=by subst e;exact sg_own h1 h2
theorem sgr {k:Nat} (h1:ρ[m]? =some (.row stT S.length (az S))) (h2:ρ'[n]? =some (.row stT S'.length (az S'))) (e:S=S'):pm ρ ρ' (n,.own k m):=by subst e;exact sg_own h1 h2
/-- A loop whose first round begins otherwise. -/
theorem sI {E:Ent} {nt:Nat} {b:Code} {s s':MS} {e:Ex} (N:Nat) (ρ0:Rho) (S0:MS) (ρs:Nat→Rho) (S:Nat→MS) (h0:∀a w,MSt ρ E nt s a w→MSt ρ0 E nt S0 a w) (hN0:0<N) (hf:jz Tryz.prog E nt b ρ0 S0 .nrm (ρs 1) (S 1))
  (hr:∀k,0<k→k<N→jz Tryz.prog E nt b (ρs k) (S k) .nrm (ρs (k+1)) (S (k+1))) (hN:jz Tryz.prog E nt b (ρs N) (S N) e ρ s') (he:e≠ .nrm) (hpn:E.pin.length≤s.vars.length):LOb.Ok Tryz.prog ρ E nt ⟨b,s,e,s'⟩:=by
 refine a8 N (fun k=>match k with | 0=>ρ0 | k+1=>ρs (k+1)) (fun k=>match k with | 0=>S0 | k+1=>S (k+1)) h0 (fun k hk=> ?_) ?_ he hpn
 ·cases k with
  | zero=>exact hf
  | succ k=>exact hr (k+1) (by omega) hk
 ·cases N with
  | zero=>omega
  | succ N=>exact hN
end
end Go.Proofs.YtfhinmdhjlmikaaGreat
