/- Which poses are valid, as they come in. Tracks: stamps as they come in; calls of methods that read; appends of stamps; more loops. -/
import Derived.Test.YtfhinmdhjlmikaaGreatP16
namespace Go.Proofs.YtfhinmdhjlmikaaGreat
set_option linter.unusedSimpArgs false
set_option linter.unusedVariables false
set_option maxRecDepth 100000
open Go.RowKit
/-- The parts are valid, the first that is not zero is one. -/
def nD (r0 r1 r2 r3:Rq):Bool:=(r0.vld && (r1.vld && (r2.vld && r3.vld))) && (Qq.mk ⟨r0.s,r0.p,r0.q⟩ ⟨r1.s,r1.p,r1.q⟩ ⟨r2.s,r2.p,r2.q⟩ ⟨r3.s,r3.p,r3.q⟩).first.same (Fq.ofInt 1)
def fJ (r0 r1 r2 r3:Rq):List Fq:=[]
theorem q_partsX (x:Value) (r0 r1 r2 r3:Rq) (w:World) (h:IsL w x [r0,r1,r2,r3]):Calls Tryz.prog 101 #[x] w fun e w'=>RetL w [r0,r1,r2,r3] e w':=by
 refine(cRn (ρ:=frs (fJ r0 r1 r2 r3)++ [.val (.bool r0.s),.dig r0.L r0.p,.dig r0.N r0.q,.val (.bool r1.s),.dig r1.L r1.p,.dig r1.N r1.q,.val (.bool r2.s),.dig r2.L r2.p,.dig r2.N r2.q,.val (.bool r3.s),.dig r3.L r3.p,.dig r3.N r3.q]) (args:=[cP [0,3,6,9]]) (vs:=[x]) (r:=.v (cP [0,3,6,9]))
  (ai) aj Tryz.func101 (by kernel_rfl) ⟨(aM (ns:=[0,3,6,9]) (rs:=[r0,r1,r2,r3]) ⟨⟨rfl,rfl,rfl⟩,⟨rfl,rfl,rfl⟩,⟨rfl,rfl,rfl⟩,⟨rfl,rfl,rfl⟩,trivial⟩).2 h,trivial⟩).mono ?_
 rintro e w' ⟨v,rfl,h1,h2⟩
 exact⟨v,rfl,(aM (ns:=[0,3,6,9]) (rs:=[r0,r1,r2,r3]) ⟨⟨rfl,rfl,rfl⟩,⟨rfl,rfl,rfl⟩,⟨rfl,rfl,rfl⟩,⟨rfl,rfl,rfl⟩,trivial⟩).1 h1,h2⟩
theorem mb {xs:List Fq} {ys:Rho} {ns:List Nat} {r0 r1 r2 r3:Rq} (hr:AtR (frs xs++ys) ns [r0,r1,r2,r3]):OkI xs ys ⟨101,[cP ns],.v (cP ns)⟩:=
 ⟨aA Tryz.func101 rfl rfl,fun B w vs hB h=>by
  match vs,h with
  | [va],h=>
   refine(q_partsX va r0 r1 r2 r3 w ((aM hr).1 h.1)).mono ?_
   rintro e w' ⟨v,rfl,h1,h2⟩
   exact⟨v,rfl,(aM hr).2 h1,h2⟩⟩
def wb (r0 r1 r2 r3:Rq):List Fq:=[]
def wd (r0 r1 r2 r3:Rq):List Fq:=[]
def we (r0 r1 r2 r3:Rq):List Fq:=[]
def wf (r0 r1 r2 r3:Rq):List Fq:=[]
theorem zE (x:Value) (r0 r1 r2 r3:Rq) (w:World) (h:IsL w x [r0,r1,r2,r3]) (lr0:r0.L≤1000000) (nr0:r0.N≤1000000) (lr1:r1.L≤1000000) (nr1:r1.N≤1000000) (lr2:r2.L≤1000000) (nr2:r2.N≤1000000) (lr3:r3.L≤1000000) (nr3:r3.N≤1000000) (hne:(r0.vld && (r1.vld && (r2.vld && r3.vld)))=false):Calls Tryz.prog 69 #[x] w fun e w'=>bH w (.bool false) e w':=by
 rcases Bool.eq_false_or_eq_true (r0.vld)with c0 | c0
 ·rcases Bool.eq_false_or_eq_true (r1.vld)with c1 | c1
  ·rcases Bool.eq_false_or_eq_true (r2.vld)with c2 | c2
   ·rcases Bool.eq_false_or_eq_true (r3.vld)with c3 | c3
    ·exact absurd hne (by rw[c0,c1,c2,c3];decide)
    ·refine(cRn (ρ:=frs (wb r0 r1 r2 r3)++ [.val (.bool r0.s),.dig r0.L r0.p,.dig r0.N r0.q,.val (.bool r1.s),.dig r1.L r1.p,.dig r1.N r1.q,.val (.bool r2.s),.dig r2.L r2.p,.dig r2.N r2.q,.val (.bool r3.s),.dig r3.L r3.p,.dig r3.N r3.q]) (args:=[cP [0,3,6,9]]) (vs:=[x]) (r:=.v (.one (.b false)))
      (af (mb (ns:=[0,3,6,9]) ⟨⟨rfl,rfl,rfl⟩,⟨rfl,rfl,rfl⟩,⟨rfl,rfl,rfl⟩,⟨rfl,rfl,rfl⟩,trivial⟩) (af (bT (n:=0) (r:=r0) (d:=true) ⟨⟨rfl,rfl,rfl⟩,trivial⟩ c0 lr0 nr0) (af (bT (n:=3) (r:=r1) (d:=true) ⟨⟨rfl,rfl,rfl⟩,trivial⟩ c1 lr1 nr1) (af (bT (n:=6) (r:=r2) (d:=true) ⟨⟨rfl,rfl,rfl⟩,trivial⟩ c2 lr2 nr2) (af (bT (n:=9) (r:=r3) (d:=false) ⟨⟨rfl,rfl,rfl⟩,trivial⟩ c3 lr3 nr3) (ai)))))) aj Tryz.func69 (by kernel_rfl) ⟨(aM (ns:=[0,3,6,9]) (rs:=[r0,r1,r2,r3]) ⟨⟨rfl,rfl,rfl⟩,⟨rfl,rfl,rfl⟩,⟨rfl,rfl,rfl⟩,⟨rfl,rfl,rfl⟩,trivial⟩).2 h,trivial⟩).mono ?_
     rintro e w' ⟨v,rfl,h1,h2⟩
     exact⟨congrArg Ending.returned h1,h2⟩
   ·refine(cRn (ρ:=frs (wd r0 r1 r2 r3)++ [.val (.bool r0.s),.dig r0.L r0.p,.dig r0.N r0.q,.val (.bool r1.s),.dig r1.L r1.p,.dig r1.N r1.q,.val (.bool r2.s),.dig r2.L r2.p,.dig r2.N r2.q,.val (.bool r3.s),.dig r3.L r3.p,.dig r3.N r3.q]) (args:=[cP [0,3,6,9]]) (vs:=[x]) (r:=.v (.one (.b false)))
     (af (mb (ns:=[0,3,6,9]) ⟨⟨rfl,rfl,rfl⟩,⟨rfl,rfl,rfl⟩,⟨rfl,rfl,rfl⟩,⟨rfl,rfl,rfl⟩,trivial⟩) (af (bT (n:=0) (r:=r0) (d:=true) ⟨⟨rfl,rfl,rfl⟩,trivial⟩ c0 lr0 nr0) (af (bT (n:=3) (r:=r1) (d:=true) ⟨⟨rfl,rfl,rfl⟩,trivial⟩ c1 lr1 nr1) (af (bT (n:=6) (r:=r2) (d:=false) ⟨⟨rfl,rfl,rfl⟩,trivial⟩ c2 lr2 nr2) (ai))))) aj Tryz.func69 (by kernel_rfl) ⟨(aM (ns:=[0,3,6,9]) (rs:=[r0,r1,r2,r3]) ⟨⟨rfl,rfl,rfl⟩,⟨rfl,rfl,rfl⟩,⟨rfl,rfl,rfl⟩,⟨rfl,rfl,rfl⟩,trivial⟩).2 h,trivial⟩).mono ?_
    rintro e w' ⟨v,rfl,h1,h2⟩
    exact⟨congrArg Ending.returned h1,h2⟩
  ·refine(cRn (ρ:=frs (we r0 r1 r2 r3)++ [.val (.bool r0.s),.dig r0.L r0.p,.dig r0.N r0.q,.val (.bool r1.s),.dig r1.L r1.p,.dig r1.N r1.q,.val (.bool r2.s),.dig r2.L r2.p,.dig r2.N r2.q,.val (.bool r3.s),.dig r3.L r3.p,.dig r3.N r3.q]) (args:=[cP [0,3,6,9]]) (vs:=[x]) (r:=.v (.one (.b false)))
    (af (mb (ns:=[0,3,6,9]) ⟨⟨rfl,rfl,rfl⟩,⟨rfl,rfl,rfl⟩,⟨rfl,rfl,rfl⟩,⟨rfl,rfl,rfl⟩,trivial⟩) (af (bT (n:=0) (r:=r0) (d:=true) ⟨⟨rfl,rfl,rfl⟩,trivial⟩ c0 lr0 nr0) (af (bT (n:=3) (r:=r1) (d:=false) ⟨⟨rfl,rfl,rfl⟩,trivial⟩ c1 lr1 nr1) (ai)))) aj Tryz.func69 (by kernel_rfl) ⟨(aM (ns:=[0,3,6,9]) (rs:=[r0,r1,r2,r3]) ⟨⟨rfl,rfl,rfl⟩,⟨rfl,rfl,rfl⟩,⟨rfl,rfl,rfl⟩,⟨rfl,rfl,rfl⟩,trivial⟩).2 h,trivial⟩).mono ?_
   rintro e w' ⟨v,rfl,h1,h2⟩
   exact⟨congrArg Ending.returned h1,h2⟩
 ·refine(cRn (ρ:=frs (wf r0 r1 r2 r3)++ [.val (.bool r0.s),.dig r0.L r0.p,.dig r0.N r0.q,.val (.bool r1.s),.dig r1.L r1.p,.dig r1.N r1.q,.val (.bool r2.s),.dig r2.L r2.p,.dig r2.N r2.q,.val (.bool r3.s),.dig r3.L r3.p,.dig r3.N r3.q]) (args:=[cP [0,3,6,9]]) (vs:=[x]) (r:=.v (.one (.b false)))
   (af (mb (ns:=[0,3,6,9]) ⟨⟨rfl,rfl,rfl⟩,⟨rfl,rfl,rfl⟩,⟨rfl,rfl,rfl⟩,⟨rfl,rfl,rfl⟩,trivial⟩) (af (bT (n:=0) (r:=r0) (d:=false) ⟨⟨rfl,rfl,rfl⟩,trivial⟩ c0 lr0 nr0) (ai))) aj Tryz.func69 (by kernel_rfl) ⟨(aM (ns:=[0,3,6,9]) (rs:=[r0,r1,r2,r3]) ⟨⟨rfl,rfl,rfl⟩,⟨rfl,rfl,rfl⟩,⟨rfl,rfl,rfl⟩,⟨rfl,rfl,rfl⟩,trivial⟩).2 h,trivial⟩).mono ?_
  rintro e w' ⟨v,rfl,h1,h2⟩
  exact⟨congrArg Ending.returned h1,h2⟩
def wg (r0 r1 r2 r3:Rq):List Fq:=[]
def wh (r0 r1 r2 r3:Rq):List Fq:=[]
def wi (r0 r1 r2 r3:Rq):List Fq:=[]
def wj (r0 r1 r2 r3:Rq):List Fq:=[]
theorem zF (x:Value) (r0 r1 r2 r3:Rq) (w:World) (h:IsL w x [r0,r1,r2,r3]) (lr0:r0.L≤1000000) (nr0:r0.N≤1000000) (lr1:r1.L≤1000000) (nr1:r1.N≤1000000) (lr2:r2.L≤1000000) (nr2:r2.N≤1000000) (lr3:r3.L≤1000000) (nr3:r3.N≤1000000) (hne:(r0.vld && (r1.vld && (r2.vld && r3.vld)))=false):Calls Tryz.prog 51 #[x] w fun e w'=>bH w (.bool false) e w':=by
 rcases Bool.eq_false_or_eq_true (r0.vld)with c0 | c0
 ·rcases Bool.eq_false_or_eq_true (r1.vld)with c1 | c1
  ·rcases Bool.eq_false_or_eq_true (r2.vld)with c2 | c2
   ·rcases Bool.eq_false_or_eq_true (r3.vld)with c3 | c3
    ·exact absurd hne (by rw[c0,c1,c2,c3];decide)
    ·refine(cRn (ρ:=frs (wg r0 r1 r2 r3)++ [.val (.bool r0.s),.dig r0.L r0.p,.dig r0.N r0.q,.val (.bool r1.s),.dig r1.L r1.p,.dig r1.N r1.q,.val (.bool r2.s),.dig r2.L r2.p,.dig r2.N r2.q,.val (.bool r3.s),.dig r3.L r3.p,.dig r3.N r3.q]) (args:=[cP [0,3,6,9]]) (vs:=[x]) (r:=.v (.one (.b false)))
      (af (bU (n:=0) (r:=r0) (d:=true) ⟨⟨rfl,rfl,rfl⟩,trivial⟩ c0 lr0 nr0) (af (bU (n:=3) (r:=r1) (d:=true) ⟨⟨rfl,rfl,rfl⟩,trivial⟩ c1 lr1 nr1) (af (bU (n:=6) (r:=r2) (d:=true) ⟨⟨rfl,rfl,rfl⟩,trivial⟩ c2 lr2 nr2) (af (bU (n:=9) (r:=r3) (d:=false) ⟨⟨rfl,rfl,rfl⟩,trivial⟩ c3 lr3 nr3) (ai))))) aj Tryz.func51 (by kernel_rfl) ⟨(aM (ns:=[0,3,6,9]) (rs:=[r0,r1,r2,r3]) ⟨⟨rfl,rfl,rfl⟩,⟨rfl,rfl,rfl⟩,⟨rfl,rfl,rfl⟩,⟨rfl,rfl,rfl⟩,trivial⟩).2 h,trivial⟩).mono ?_
     rintro e w' ⟨v,rfl,h1,h2⟩
     exact⟨congrArg Ending.returned h1,h2⟩
   ·refine(cRn (ρ:=frs (wh r0 r1 r2 r3)++ [.val (.bool r0.s),.dig r0.L r0.p,.dig r0.N r0.q,.val (.bool r1.s),.dig r1.L r1.p,.dig r1.N r1.q,.val (.bool r2.s),.dig r2.L r2.p,.dig r2.N r2.q,.val (.bool r3.s),.dig r3.L r3.p,.dig r3.N r3.q]) (args:=[cP [0,3,6,9]]) (vs:=[x]) (r:=.v (.one (.b false)))
     (af (bU (n:=0) (r:=r0) (d:=true) ⟨⟨rfl,rfl,rfl⟩,trivial⟩ c0 lr0 nr0) (af (bU (n:=3) (r:=r1) (d:=true) ⟨⟨rfl,rfl,rfl⟩,trivial⟩ c1 lr1 nr1) (af (bU (n:=6) (r:=r2) (d:=false) ⟨⟨rfl,rfl,rfl⟩,trivial⟩ c2 lr2 nr2) (ai)))) aj Tryz.func51 (by kernel_rfl) ⟨(aM (ns:=[0,3,6,9]) (rs:=[r0,r1,r2,r3]) ⟨⟨rfl,rfl,rfl⟩,⟨rfl,rfl,rfl⟩,⟨rfl,rfl,rfl⟩,⟨rfl,rfl,rfl⟩,trivial⟩).2 h,trivial⟩).mono ?_
    rintro e w' ⟨v,rfl,h1,h2⟩
    exact⟨congrArg Ending.returned h1,h2⟩
  ·refine(cRn (ρ:=frs (wi r0 r1 r2 r3)++ [.val (.bool r0.s),.dig r0.L r0.p,.dig r0.N r0.q,.val (.bool r1.s),.dig r1.L r1.p,.dig r1.N r1.q,.val (.bool r2.s),.dig r2.L r2.p,.dig r2.N r2.q,.val (.bool r3.s),.dig r3.L r3.p,.dig r3.N r3.q]) (args:=[cP [0,3,6,9]]) (vs:=[x]) (r:=.v (.one (.b false)))
    (af (bU (n:=0) (r:=r0) (d:=true) ⟨⟨rfl,rfl,rfl⟩,trivial⟩ c0 lr0 nr0) (af (bU (n:=3) (r:=r1) (d:=false) ⟨⟨rfl,rfl,rfl⟩,trivial⟩ c1 lr1 nr1) (ai))) aj Tryz.func51 (by kernel_rfl) ⟨(aM (ns:=[0,3,6,9]) (rs:=[r0,r1,r2,r3]) ⟨⟨rfl,rfl,rfl⟩,⟨rfl,rfl,rfl⟩,⟨rfl,rfl,rfl⟩,⟨rfl,rfl,rfl⟩,trivial⟩).2 h,trivial⟩).mono ?_
   rintro e w' ⟨v,rfl,h1,h2⟩
   exact⟨congrArg Ending.returned h1,h2⟩
 ·refine(cRn (ρ:=frs (wj r0 r1 r2 r3)++ [.val (.bool r0.s),.dig r0.L r0.p,.dig r0.N r0.q,.val (.bool r1.s),.dig r1.L r1.p,.dig r1.N r1.q,.val (.bool r2.s),.dig r2.L r2.p,.dig r2.N r2.q,.val (.bool r3.s),.dig r3.L r3.p,.dig r3.N r3.q]) (args:=[cP [0,3,6,9]]) (vs:=[x]) (r:=.v (.one (.b false)))
   (af (bU (n:=0) (r:=r0) (d:=false) ⟨⟨rfl,rfl,rfl⟩,trivial⟩ c0 lr0 nr0) (ai)) aj Tryz.func51 (by kernel_rfl) ⟨(aM (ns:=[0,3,6,9]) (rs:=[r0,r1,r2,r3]) ⟨⟨rfl,rfl,rfl⟩,⟨rfl,rfl,rfl⟩,⟨rfl,rfl,rfl⟩,⟨rfl,rfl,rfl⟩,trivial⟩).2 h,trivial⟩).mono ?_
  rintro e w' ⟨v,rfl,h1,h2⟩
  exact⟨congrArg Ending.returned h1,h2⟩
theorem zG (vq:Value) (q:Qq) (w:World) (iq:dE w vq q) (hq:q.ok 1000000) (gc:q.comp):Calls Tryz.prog 69 #[vq] w fun e w'=>bH w (.bool (q.first.same (Fq.ofInt 1))) e w':=by
 by_cases h:q.first=Fq.ofInt 1
 ·rw[Fq.same_iff.2 h];exact o0 vq q w iq hq (nV gc h)
 ·rw[eC h];exact vI vq q w iq hq gc h
theorem wk (x:Value) (r0 r1 r2 r3:Rq) (w:World) (h:IsL w x [r0,r1,r2,r3]) (lr0:r0.L≤1000000) (nr0:r0.N≤1000000) (lr1:r1.L≤1000000) (nr1:r1.N≤1000000) (lr2:r2.L≤1000000) (nr2:r2.N≤1000000) (lr3:r3.L≤1000000) (nr3:r3.N≤1000000):Calls Tryz.prog 69 #[x] w fun e w'=>bH w (.bool (nD r0 r1 r2 r3)) e w':=by
 rcases Bool.eq_false_or_eq_true (r0.vld && (r1.vld && (r2.vld && r3.vld)))with hv | hv
 ·unfold nD
  rw[hv,Bool.true_and]
  simp only[Bool.and_eq_true]at hv
  obtain⟨h0,h1,h2,h3⟩:=hv
  have k0:=jx h0;have k1:=jx h1;have k2:=jx h2;have k3:=jx h3
  have m0:=du h0;have m1:=du h1;have m2:=du h2;have m3:=du h3
  refine zG x (Qq.mk ⟨r0.s,r0.p,r0.q⟩ ⟨r1.s,r1.p,r1.q⟩ ⟨r2.s,r2.p,r2.q⟩ ⟨r3.s,r3.p,r3.q⟩) w (by have h':=h;rw[m0.1,m1.1,m2.1,m3.1]at h';exact h') ⟨⟨?_,?_,Fq.valid.n m0.2⟩,⟨?_,?_,Fq.valid.n m1.2⟩,⟨?_,?_,Fq.valid.n m2.2⟩,⟨?_,?_,Fq.valid.n m3.2⟩⟩ ⟨m0.2,m1.2,m2.2,m3.2⟩
  ·show nl r0.p≤_;omega
  ·show nl r0.q≤_;omega
  ·show nl r1.p≤_;omega
  ·show nl r1.q≤_;omega
  ·show nl r2.p≤_;omega
  ·show nl r2.q≤_;omega
  ·show nl r3.p≤_;omega
  ·show nl r3.q≤_;omega
 ·unfold nD
  rw[hv,Bool.false_and]
  exact zE x r0 r1 r2 r3 w h lr0 nr0 lr1 nr1 lr2 nr2 lr3 nr3 hv
theorem zH (vq:Value) (q:Qq) (w:World) (iq:dE w vq q) (hq:q.ok 1000000) (gc:q.comp):Calls Tryz.prog 51 #[vq] w fun e w'=>bH w (.bool (q.first.same (Fq.ofInt 1))) e w':=by
 by_cases h:q.first=Fq.ofInt 1
 ·rw[Fq.same_iff.2 h];exact o5 vq q w iq hq (nV gc h)
 ·rw[eC h];exact vK vq q w iq hq gc h
theorem wl (x:Value) (r0 r1 r2 r3:Rq) (w:World) (h:IsL w x [r0,r1,r2,r3]) (lr0:r0.L≤1000000) (nr0:r0.N≤1000000) (lr1:r1.L≤1000000) (nr1:r1.N≤1000000) (lr2:r2.L≤1000000) (nr2:r2.N≤1000000) (lr3:r3.L≤1000000) (nr3:r3.N≤1000000):Calls Tryz.prog 51 #[x] w fun e w'=>bH w (.bool (nD r0 r1 r2 r3)) e w':=by
 rcases Bool.eq_false_or_eq_true (r0.vld && (r1.vld && (r2.vld && r3.vld)))with hv | hv
 ·unfold nD
  rw[hv,Bool.true_and]
  simp only[Bool.and_eq_true]at hv
  obtain⟨h0,h1,h2,h3⟩:=hv
  have k0:=jx h0;have k1:=jx h1;have k2:=jx h2;have k3:=jx h3
  have m0:=du h0;have m1:=du h1;have m2:=du h2;have m3:=du h3
  refine zH x (Qq.mk ⟨r0.s,r0.p,r0.q⟩ ⟨r1.s,r1.p,r1.q⟩ ⟨r2.s,r2.p,r2.q⟩ ⟨r3.s,r3.p,r3.q⟩) w (by have h':=h;rw[m0.1,m1.1,m2.1,m3.1]at h';exact h') ⟨⟨?_,?_,Fq.valid.n m0.2⟩,⟨?_,?_,Fq.valid.n m1.2⟩,⟨?_,?_,Fq.valid.n m2.2⟩,⟨?_,?_,Fq.valid.n m3.2⟩⟩ ⟨m0.2,m1.2,m2.2,m3.2⟩
  ·show nl r0.p≤_;omega
  ·show nl r0.q≤_;omega
  ·show nl r1.p≤_;omega
  ·show nl r1.q≤_;omega
  ·show nl r2.p≤_;omega
  ·show nl r2.q≤_;omega
  ·show nl r3.p≤_;omega
  ·show nl r3.q≤_;omega
 ·unfold nD
  rw[hv,Bool.false_and]
  exact zF x r0 r1 r2 r3 w h lr0 nr0 lr1 nr1 lr2 nr2 lr3 nr3 hv
def jY (r0 r1 r2:Rq):Bool:=r0.vld && (r1.vld && r2.vld)
def mc (r0 r1 r2 r3 r4 r5 r6:Rq):Bool:=nD r0 r1 r2 r3 && jY r4 r5 r6
def wm (r0 r1 r2:Rq):List Fq:=[]
def wn (r0 r1 r2:Rq):List Fq:=[]
def ws (r0 r1 r2:Rq):List Fq:=[]
def wt (r0 r1 r2:Rq):List Fq:=[]
theorem zI (x:Value) (r0 r1 r2:Rq) (w:World) (h:IsL w x [r0,r1,r2]) (lr0:r0.L≤1000000) (nr0:r0.N≤1000000) (lr1:r1.L≤1000000) (nr1:r1.N≤1000000) (lr2:r2.L≤1000000) (nr2:r2.N≤1000000):Calls Tryz.prog 70 #[x] w fun e w'=>bH w (.bool (jY r0 r1 r2)) e w':=by
 rcases Bool.eq_false_or_eq_true (r0.vld)with c0 | c0
 ·rcases Bool.eq_false_or_eq_true (r1.vld)with c1 | c1
  ·rcases Bool.eq_false_or_eq_true (r2.vld)with c2 | c2
   ·refine(cRn (ρ:=frs (wm r0 r1 r2)++ [.val (.bool r0.s),.dig r0.L r0.p,.dig r0.N r0.q,.val (.bool r1.s),.dig r1.L r1.p,.dig r1.N r1.q,.val (.bool r2.s),.dig r2.L r2.p,.dig r2.N r2.q]) (args:=[cP [0,3,6]]) (vs:=[x]) (r:=.v (.one (.b true)))
     (af (bT (n:=0) (r:=r0) (d:=true) ⟨⟨rfl,rfl,rfl⟩,trivial⟩ c0 lr0 nr0) (af (bT (n:=3) (r:=r1) (d:=true) ⟨⟨rfl,rfl,rfl⟩,trivial⟩ c1 lr1 nr1) (af (bT (n:=6) (r:=r2) (d:=true) ⟨⟨rfl,rfl,rfl⟩,trivial⟩ c2 lr2 nr2) ai)))
     aj Tryz.func70 (by kernel_rfl) ⟨(aM (ns:=[0,3,6]) (rs:=[r0,r1,r2]) ⟨⟨rfl,rfl,rfl⟩,⟨rfl,rfl,rfl⟩,⟨rfl,rfl,rfl⟩,trivial⟩).2 h,trivial⟩).mono ?_
    rintro e w' ⟨v,rfl,h1,h2⟩
    have h1:v= .bool _:=h1
    subst h1
    exact⟨by simp[jY,c0,c1,c2],h2⟩
   ·refine(cRn (ρ:=frs (wn r0 r1 r2)++ [.val (.bool r0.s),.dig r0.L r0.p,.dig r0.N r0.q,.val (.bool r1.s),.dig r1.L r1.p,.dig r1.N r1.q,.val (.bool r2.s),.dig r2.L r2.p,.dig r2.N r2.q]) (args:=[cP [0,3,6]]) (vs:=[x]) (r:=.v (.one (.b false)))
     (af (bT (n:=0) (r:=r0) (d:=true) ⟨⟨rfl,rfl,rfl⟩,trivial⟩ c0 lr0 nr0) (af (bT (n:=3) (r:=r1) (d:=true) ⟨⟨rfl,rfl,rfl⟩,trivial⟩ c1 lr1 nr1) (af (bT (n:=6) (r:=r2) (d:=false) ⟨⟨rfl,rfl,rfl⟩,trivial⟩ c2 lr2 nr2) ai)))
     aj Tryz.func70 (by kernel_rfl) ⟨(aM (ns:=[0,3,6]) (rs:=[r0,r1,r2]) ⟨⟨rfl,rfl,rfl⟩,⟨rfl,rfl,rfl⟩,⟨rfl,rfl,rfl⟩,trivial⟩).2 h,trivial⟩).mono ?_
    rintro e w' ⟨v,rfl,h1,h2⟩
    have h1:v= .bool _:=h1
    subst h1
    exact⟨by simp[jY,c0,c1,c2],h2⟩
  ·refine(cRn (ρ:=frs (ws r0 r1 r2)++ [.val (.bool r0.s),.dig r0.L r0.p,.dig r0.N r0.q,.val (.bool r1.s),.dig r1.L r1.p,.dig r1.N r1.q,.val (.bool r2.s),.dig r2.L r2.p,.dig r2.N r2.q]) (args:=[cP [0,3,6]]) (vs:=[x]) (r:=.v (.one (.b false)))
    (af (bT (n:=0) (r:=r0) (d:=true) ⟨⟨rfl,rfl,rfl⟩,trivial⟩ c0 lr0 nr0) (af (bT (n:=3) (r:=r1) (d:=false) ⟨⟨rfl,rfl,rfl⟩,trivial⟩ c1 lr1 nr1) ai))
    aj Tryz.func70 (by kernel_rfl) ⟨(aM (ns:=[0,3,6]) (rs:=[r0,r1,r2]) ⟨⟨rfl,rfl,rfl⟩,⟨rfl,rfl,rfl⟩,⟨rfl,rfl,rfl⟩,trivial⟩).2 h,trivial⟩).mono ?_
   rintro e w' ⟨v,rfl,h1,h2⟩
   have h1:v= .bool _:=h1
   subst h1
   exact⟨by simp[jY,c0,c1],h2⟩
 ·refine(cRn (ρ:=frs (wt r0 r1 r2)++ [.val (.bool r0.s),.dig r0.L r0.p,.dig r0.N r0.q,.val (.bool r1.s),.dig r1.L r1.p,.dig r1.N r1.q,.val (.bool r2.s),.dig r2.L r2.p,.dig r2.N r2.q]) (args:=[cP [0,3,6]]) (vs:=[x]) (r:=.v (.one (.b false)))
   (af (bT (n:=0) (r:=r0) (d:=false) ⟨⟨rfl,rfl,rfl⟩,trivial⟩ c0 lr0 nr0) ai)
   aj Tryz.func70 (by kernel_rfl) ⟨(aM (ns:=[0,3,6]) (rs:=[r0,r1,r2]) ⟨⟨rfl,rfl,rfl⟩,⟨rfl,rfl,rfl⟩,⟨rfl,rfl,rfl⟩,trivial⟩).2 h,trivial⟩).mono ?_
  rintro e w' ⟨v,rfl,h1,h2⟩
  have h1:v= .bool _:=h1
  subst h1
  exact⟨by simp[jY,c0],h2⟩
theorem qA {xs:List Fq} {ys:Rho} {ns:List Nat} {r0 r1 r2:Rq} {d:Bool} (hr:AtR (frs xs++ys) ns [r0,r1,r2]) (hd:jY r0 r1 r2=d) (lr0:r0.L≤1000000) (nr0:r0.N≤1000000) (lr1:r1.L≤1000000) (nr1:r1.N≤1000000) (lr2:r2.L≤1000000) (nr2:r2.N≤1000000):OkI xs ys ⟨70,[cP ns],.v (.one (.b d))⟩:=
 ⟨aA Tryz.func70 rfl rfl,fun B w vs hB h=>by
  match vs,h with
  | [x],h=>
   refine(zI x r0 r1 r2 w ((aM hr).1 h.1) lr0 nr0 lr1 nr1 lr2 nr2).mono ?_
   rintro e w' ⟨rfl,h2⟩
   exact⟨_,rfl,by subst hd;rfl,h2⟩⟩
def tN (r0 r1 r2:Rq):List Fq:=[]
def tO (r0 r1 r2:Rq):List Fq:=[]
def tP (r0 r1 r2:Rq):List Fq:=[]
def tQ (r0 r1 r2:Rq):List Fq:=[]
theorem wu (x:Value) (r0 r1 r2:Rq) (w:World) (h:IsL w x [r0,r1,r2]) (lr0:r0.L≤1000000) (nr0:r0.N≤1000000) (lr1:r1.L≤1000000) (nr1:r1.N≤1000000) (lr2:r2.L≤1000000) (nr2:r2.N≤1000000):Calls Tryz.prog 52 #[x] w fun e w'=>bH w (.bool (jY r0 r1 r2)) e w':=by
 rcases Bool.eq_false_or_eq_true (r0.vld)with c0 | c0
 ·rcases Bool.eq_false_or_eq_true (r1.vld)with c1 | c1
  ·rcases Bool.eq_false_or_eq_true (r2.vld)with c2 | c2
   ·refine(cRn (ρ:=frs (tN r0 r1 r2)++ [.val (.bool r0.s),.dig r0.L r0.p,.dig r0.N r0.q,.val (.bool r1.s),.dig r1.L r1.p,.dig r1.N r1.q,.val (.bool r2.s),.dig r2.L r2.p,.dig r2.N r2.q]) (args:=[cP [0,3,6]]) (vs:=[x]) (r:=.v (.one (.b true)))
     (af (bU (n:=0) (r:=r0) (d:=true) ⟨⟨rfl,rfl,rfl⟩,trivial⟩ c0 lr0 nr0) (af (bU (n:=3) (r:=r1) (d:=true) ⟨⟨rfl,rfl,rfl⟩,trivial⟩ c1 lr1 nr1) (af (bU (n:=6) (r:=r2) (d:=true) ⟨⟨rfl,rfl,rfl⟩,trivial⟩ c2 lr2 nr2) ai)))
     aj Tryz.func52 (by kernel_rfl) ⟨(aM (ns:=[0,3,6]) (rs:=[r0,r1,r2]) ⟨⟨rfl,rfl,rfl⟩,⟨rfl,rfl,rfl⟩,⟨rfl,rfl,rfl⟩,trivial⟩).2 h,trivial⟩).mono ?_
    rintro e w' ⟨v,rfl,h1,h2⟩
    have h1:v= .bool _:=h1
    subst h1
    exact⟨by simp[jY,c0,c1,c2],h2⟩
   ·refine(cRn (ρ:=frs (tO r0 r1 r2)++ [.val (.bool r0.s),.dig r0.L r0.p,.dig r0.N r0.q,.val (.bool r1.s),.dig r1.L r1.p,.dig r1.N r1.q,.val (.bool r2.s),.dig r2.L r2.p,.dig r2.N r2.q]) (args:=[cP [0,3,6]]) (vs:=[x]) (r:=.v (.one (.b false)))
     (af (bU (n:=0) (r:=r0) (d:=true) ⟨⟨rfl,rfl,rfl⟩,trivial⟩ c0 lr0 nr0) (af (bU (n:=3) (r:=r1) (d:=true) ⟨⟨rfl,rfl,rfl⟩,trivial⟩ c1 lr1 nr1) (af (bU (n:=6) (r:=r2) (d:=false) ⟨⟨rfl,rfl,rfl⟩,trivial⟩ c2 lr2 nr2) ai)))
     aj Tryz.func52 (by kernel_rfl) ⟨(aM (ns:=[0,3,6]) (rs:=[r0,r1,r2]) ⟨⟨rfl,rfl,rfl⟩,⟨rfl,rfl,rfl⟩,⟨rfl,rfl,rfl⟩,trivial⟩).2 h,trivial⟩).mono ?_
    rintro e w' ⟨v,rfl,h1,h2⟩
    have h1:v= .bool _:=h1
    subst h1
    exact⟨by simp[jY,c0,c1,c2],h2⟩
  ·refine(cRn (ρ:=frs (tP r0 r1 r2)++ [.val (.bool r0.s),.dig r0.L r0.p,.dig r0.N r0.q,.val (.bool r1.s),.dig r1.L r1.p,.dig r1.N r1.q,.val (.bool r2.s),.dig r2.L r2.p,.dig r2.N r2.q]) (args:=[cP [0,3,6]]) (vs:=[x]) (r:=.v (.one (.b false)))
    (af (bU (n:=0) (r:=r0) (d:=true) ⟨⟨rfl,rfl,rfl⟩,trivial⟩ c0 lr0 nr0) (af (bU (n:=3) (r:=r1) (d:=false) ⟨⟨rfl,rfl,rfl⟩,trivial⟩ c1 lr1 nr1) ai))
    aj Tryz.func52 (by kernel_rfl) ⟨(aM (ns:=[0,3,6]) (rs:=[r0,r1,r2]) ⟨⟨rfl,rfl,rfl⟩,⟨rfl,rfl,rfl⟩,⟨rfl,rfl,rfl⟩,trivial⟩).2 h,trivial⟩).mono ?_
   rintro e w' ⟨v,rfl,h1,h2⟩
   have h1:v= .bool _:=h1
   subst h1
   exact⟨by simp[jY,c0,c1],h2⟩
 ·refine(cRn (ρ:=frs (tQ r0 r1 r2)++ [.val (.bool r0.s),.dig r0.L r0.p,.dig r0.N r0.q,.val (.bool r1.s),.dig r1.L r1.p,.dig r1.N r1.q,.val (.bool r2.s),.dig r2.L r2.p,.dig r2.N r2.q]) (args:=[cP [0,3,6]]) (vs:=[x]) (r:=.v (.one (.b false)))
   (af (bU (n:=0) (r:=r0) (d:=false) ⟨⟨rfl,rfl,rfl⟩,trivial⟩ c0 lr0 nr0) ai)
   aj Tryz.func52 (by kernel_rfl) ⟨(aM (ns:=[0,3,6]) (rs:=[r0,r1,r2]) ⟨⟨rfl,rfl,rfl⟩,⟨rfl,rfl,rfl⟩,⟨rfl,rfl,rfl⟩,trivial⟩).2 h,trivial⟩).mono ?_
  rintro e w' ⟨v,rfl,h1,h2⟩
  have h1:v= .bool _:=h1
  subst h1
  exact⟨by simp[jY,c0],h2⟩
theorem ph {xs:List Fq} {ys:Rho} {ns:List Nat} {r0 r1 r2:Rq} {d:Bool} (hr:AtR (frs xs++ys) ns [r0,r1,r2]) (hd:jY r0 r1 r2=d) (lr0:r0.L≤1000000) (nr0:r0.N≤1000000) (lr1:r1.L≤1000000) (nr1:r1.N≤1000000) (lr2:r2.L≤1000000) (nr2:r2.N≤1000000):OkI xs ys ⟨52,[cP ns],.v (.one (.b d))⟩:=
 ⟨aA Tryz.func52 rfl rfl,fun B w vs hB h=>by
  match vs,h with
  | [x],h=>
   refine(wu x r0 r1 r2 w ((aM hr).1 h.1) lr0 nr0 lr1 nr1 lr2 nr2).mono ?_
   rintro e w' ⟨rfl,h2⟩
   exact⟨_,rfl,by subst hd;rfl,h2⟩⟩
theorem kS {xs:List Fq} {ys:Rho} {ns:List Nat} {r0 r1 r2 r3:Rq} {d:Bool} (hr:AtR (frs xs++ys) ns [r0,r1,r2,r3]) (hd:nD r0 r1 r2 r3=d) (lr0:r0.L≤1000000) (nr0:r0.N≤1000000) (lr1:r1.L≤1000000) (nr1:r1.N≤1000000) (lr2:r2.L≤1000000) (nr2:r2.N≤1000000) (lr3:r3.L≤1000000) (nr3:r3.N≤1000000):OkI xs ys ⟨69,[cP ns],.v (.one (.b d))⟩:=
 ⟨aA Tryz.func69 rfl rfl,fun B w vs hB h=>by
  match vs,h with
  | [va],h=>
   refine(wk va r0 r1 r2 r3 w ((aM hr).1 h.1) lr0 nr0 lr1 nr1 lr2 nr2 lr3 nr3).mono ?_
   rintro e w' ⟨rfl,h2⟩
   exact⟨_,rfl,by subst hd;rfl,h2⟩⟩
theorem kT {xs:List Fq} {ys:Rho} {ns:List Nat} {r0 r1 r2 r3:Rq} {d:Bool} (hr:AtR (frs xs++ys) ns [r0,r1,r2,r3]) (hd:nD r0 r1 r2 r3=d) (lr0:r0.L≤1000000) (nr0:r0.N≤1000000) (lr1:r1.L≤1000000) (nr1:r1.N≤1000000) (lr2:r2.L≤1000000) (nr2:r2.N≤1000000) (lr3:r3.L≤1000000) (nr3:r3.N≤1000000):OkI xs ys ⟨51,[cP ns],.v (.one (.b d))⟩:=
 ⟨aA Tryz.func51 rfl rfl,fun B w vs hB h=>by
  match vs,h with
  | [va],h=>
   refine(wl va r0 r1 r2 r3 w ((aM hr).1 h.1) lr0 nr0 lr1 nr1 lr2 nr2 lr3 nr3).mono ?_
   rintro e w' ⟨rfl,h2⟩
   exact⟨_,rfl,by subst hd;rfl,h2⟩⟩
def tR (r0 r1 r2 r3 r4 r5 r6:Rq):List Fq:=[]
def tS (r0 r1 r2 r3 r4 r5 r6:Rq):List Fq:=[]
def tT (r0 r1 r2 r3 r4 r5 r6:Rq):List Fq:=[]
theorem wv (x:Value) (r0 r1 r2 r3 r4 r5 r6:Rq) (w:World) (h:IsL w x [r0,r1,r2,r3,r4,r5,r6]) (lr0:r0.L≤1000000) (nr0:r0.N≤1000000) (lr1:r1.L≤1000000) (nr1:r1.N≤1000000) (lr2:r2.L≤1000000) (nr2:r2.N≤1000000) (lr3:r3.L≤1000000) (nr3:r3.N≤1000000) (lr4:r4.L≤1000000) (nr4:r4.N≤1000000) (lr5:r5.L≤1000000) (nr5:r5.N≤1000000) (lr6:r6.L≤1000000) (nr6:r6.N≤1000000):Calls Tryz.prog 44 #[x] w fun e w'=>bH w (.bool (mc r0 r1 r2 r3 r4 r5 r6)) e w':=by
 rcases Bool.eq_false_or_eq_true (nD r0 r1 r2 r3)with c0 | c0
 ·rcases Bool.eq_false_or_eq_true (jY r4 r5 r6)with c1 | c1
  ·refine(cRn (ρ:=frs (tR r0 r1 r2 r3 r4 r5 r6)++ [.val (.bool r0.s),.dig r0.L r0.p,.dig r0.N r0.q,.val (.bool r1.s),.dig r1.L r1.p,.dig r1.N r1.q,.val (.bool r2.s),.dig r2.L r2.p,.dig r2.N r2.q,.val (.bool r3.s),.dig r3.L r3.p,.dig r3.N r3.q,.val (.bool r4.s),.dig r4.L r4.p,.dig r4.N r4.q,.val (.bool r5.s),.dig r5.L r5.p,.dig r5.N r5.q,.val (.bool r6.s),.dig r6.L r6.p,.dig r6.N r6.q]) (args:=[cP [0,3,6,9,12,15,18]]) (vs:=[x]) (r:=.v (.one (.b true)))
    (af (kS (ns:=[0,3,6,9]) (d:=true) ⟨⟨rfl,rfl,rfl⟩,⟨rfl,rfl,rfl⟩,⟨rfl,rfl,rfl⟩,⟨rfl,rfl,rfl⟩,trivial⟩ c0 lr0 nr0 lr1 nr1 lr2 nr2 lr3 nr3) (af (qA (ns:=[12,15,18]) (d:=true) ⟨⟨rfl,rfl,rfl⟩,⟨rfl,rfl,rfl⟩,⟨rfl,rfl,rfl⟩,trivial⟩ c1 lr4 nr4 lr5 nr5 lr6 nr6) ai))
    aj Tryz.func44 (by kernel_rfl) ⟨(aM (ns:=[0,3,6,9,12,15,18]) (rs:=[r0,r1,r2,r3,r4,r5,r6]) ⟨⟨rfl,rfl,rfl⟩,⟨rfl,rfl,rfl⟩,⟨rfl,rfl,rfl⟩,⟨rfl,rfl,rfl⟩,⟨rfl,rfl,rfl⟩,⟨rfl,rfl,rfl⟩,⟨rfl,rfl,rfl⟩,trivial⟩).2 h,trivial⟩).mono ?_
   rintro e w' ⟨v,rfl,h1,h2⟩
   have h1:v= .bool _:=h1
   subst h1
   exact⟨by simp[mc,c0,c1],h2⟩
  ·refine(cRn (ρ:=frs (tS r0 r1 r2 r3 r4 r5 r6)++ [.val (.bool r0.s),.dig r0.L r0.p,.dig r0.N r0.q,.val (.bool r1.s),.dig r1.L r1.p,.dig r1.N r1.q,.val (.bool r2.s),.dig r2.L r2.p,.dig r2.N r2.q,.val (.bool r3.s),.dig r3.L r3.p,.dig r3.N r3.q,.val (.bool r4.s),.dig r4.L r4.p,.dig r4.N r4.q,.val (.bool r5.s),.dig r5.L r5.p,.dig r5.N r5.q,.val (.bool r6.s),.dig r6.L r6.p,.dig r6.N r6.q]) (args:=[cP [0,3,6,9,12,15,18]]) (vs:=[x]) (r:=.v (.one (.b false)))
    (af (kS (ns:=[0,3,6,9]) (d:=true) ⟨⟨rfl,rfl,rfl⟩,⟨rfl,rfl,rfl⟩,⟨rfl,rfl,rfl⟩,⟨rfl,rfl,rfl⟩,trivial⟩ c0 lr0 nr0 lr1 nr1 lr2 nr2 lr3 nr3) (af (qA (ns:=[12,15,18]) (d:=false) ⟨⟨rfl,rfl,rfl⟩,⟨rfl,rfl,rfl⟩,⟨rfl,rfl,rfl⟩,trivial⟩ c1 lr4 nr4 lr5 nr5 lr6 nr6) ai))
    aj Tryz.func44 (by kernel_rfl) ⟨(aM (ns:=[0,3,6,9,12,15,18]) (rs:=[r0,r1,r2,r3,r4,r5,r6]) ⟨⟨rfl,rfl,rfl⟩,⟨rfl,rfl,rfl⟩,⟨rfl,rfl,rfl⟩,⟨rfl,rfl,rfl⟩,⟨rfl,rfl,rfl⟩,⟨rfl,rfl,rfl⟩,⟨rfl,rfl,rfl⟩,trivial⟩).2 h,trivial⟩).mono ?_
   rintro e w' ⟨v,rfl,h1,h2⟩
   have h1:v= .bool _:=h1
   subst h1
   exact⟨by simp[mc,c0,c1],h2⟩
 ·refine(cRn (ρ:=frs (tT r0 r1 r2 r3 r4 r5 r6)++ [.val (.bool r0.s),.dig r0.L r0.p,.dig r0.N r0.q,.val (.bool r1.s),.dig r1.L r1.p,.dig r1.N r1.q,.val (.bool r2.s),.dig r2.L r2.p,.dig r2.N r2.q,.val (.bool r3.s),.dig r3.L r3.p,.dig r3.N r3.q,.val (.bool r4.s),.dig r4.L r4.p,.dig r4.N r4.q,.val (.bool r5.s),.dig r5.L r5.p,.dig r5.N r5.q,.val (.bool r6.s),.dig r6.L r6.p,.dig r6.N r6.q]) (args:=[cP [0,3,6,9,12,15,18]]) (vs:=[x]) (r:=.v (.one (.b false)))
   (af (kS (ns:=[0,3,6,9]) (d:=false) ⟨⟨rfl,rfl,rfl⟩,⟨rfl,rfl,rfl⟩,⟨rfl,rfl,rfl⟩,⟨rfl,rfl,rfl⟩,trivial⟩ c0 lr0 nr0 lr1 nr1 lr2 nr2 lr3 nr3) ai)
   aj Tryz.func44 (by kernel_rfl) ⟨(aM (ns:=[0,3,6,9,12,15,18]) (rs:=[r0,r1,r2,r3,r4,r5,r6]) ⟨⟨rfl,rfl,rfl⟩,⟨rfl,rfl,rfl⟩,⟨rfl,rfl,rfl⟩,⟨rfl,rfl,rfl⟩,⟨rfl,rfl,rfl⟩,⟨rfl,rfl,rfl⟩,⟨rfl,rfl,rfl⟩,trivial⟩).2 h,trivial⟩).mono ?_
  rintro e w' ⟨v,rfl,h1,h2⟩
  have h1:v= .bool _:=h1
  subst h1
  exact⟨by simp[mc,c0],h2⟩
theorem ww {xs:List Fq} {ys:Rho} {ns:List Nat} {r0 r1 r2 r3 r4 r5 r6:Rq} {d:Bool} (hr:AtR (frs xs++ys) ns [r0,r1,r2,r3,r4,r5,r6]) (hd:mc r0 r1 r2 r3 r4 r5 r6=d) (lr0:r0.L≤1000000) (nr0:r0.N≤1000000) (lr1:r1.L≤1000000) (nr1:r1.N≤1000000) (lr2:r2.L≤1000000) (nr2:r2.N≤1000000) (lr3:r3.L≤1000000) (nr3:r3.N≤1000000) (lr4:r4.L≤1000000) (nr4:r4.N≤1000000) (lr5:r5.L≤1000000) (nr5:r5.N≤1000000) (lr6:r6.L≤1000000) (nr6:r6.N≤1000000):OkI xs ys ⟨44,[cP ns],.v (.one (.b d))⟩:=
 ⟨aA Tryz.func44 rfl rfl,fun B w vs hB h=>by
  match vs,h with
  | [x],h=>
   refine(wv x r0 r1 r2 r3 r4 r5 r6 w ((aM hr).1 h.1) lr0 nr0 lr1 nr1 lr2 nr2 lr3 nr3 lr4 nr4 lr5 nr5 lr6 nr6).mono ?_
   rintro e w' ⟨rfl,h2⟩
   exact⟨_,rfl,by subst hd;rfl,h2⟩⟩
def tU (r0 r1 r2 r3 r4 r5 r6:Rq):List Fq:=[]
def tV (r0 r1 r2 r3 r4 r5 r6:Rq):List Fq:=[]
def tW (r0 r1 r2 r3 r4 r5 r6:Rq):List Fq:=[]
theorem wA (x:Value) (r0 r1 r2 r3 r4 r5 r6:Rq) (w:World) (h:IsL w x [r0,r1,r2,r3,r4,r5,r6]) (lr0:r0.L≤1000000) (nr0:r0.N≤1000000) (lr1:r1.L≤1000000) (nr1:r1.N≤1000000) (lr2:r2.L≤1000000) (nr2:r2.N≤1000000) (lr3:r3.L≤1000000) (nr3:r3.N≤1000000) (lr4:r4.L≤1000000) (nr4:r4.N≤1000000) (lr5:r5.L≤1000000) (nr5:r5.N≤1000000) (lr6:r6.L≤1000000) (nr6:r6.N≤1000000):Calls Tryz.prog 21 #[x] w fun e w'=>bH w (.bool (mc r0 r1 r2 r3 r4 r5 r6)) e w':=by
 rcases Bool.eq_false_or_eq_true (nD r0 r1 r2 r3)with c0 | c0
 ·rcases Bool.eq_false_or_eq_true (jY r4 r5 r6)with c1 | c1
  ·refine(cRn (ρ:=frs (tU r0 r1 r2 r3 r4 r5 r6)++ [.val (.bool r0.s),.dig r0.L r0.p,.dig r0.N r0.q,.val (.bool r1.s),.dig r1.L r1.p,.dig r1.N r1.q,.val (.bool r2.s),.dig r2.L r2.p,.dig r2.N r2.q,.val (.bool r3.s),.dig r3.L r3.p,.dig r3.N r3.q,.val (.bool r4.s),.dig r4.L r4.p,.dig r4.N r4.q,.val (.bool r5.s),.dig r5.L r5.p,.dig r5.N r5.q,.val (.bool r6.s),.dig r6.L r6.p,.dig r6.N r6.q]) (args:=[cP [0,3,6,9,12,15,18]]) (vs:=[x]) (r:=.v (.one (.b true)))
    (af (kT (ns:=[0,3,6,9]) (d:=true) ⟨⟨rfl,rfl,rfl⟩,⟨rfl,rfl,rfl⟩,⟨rfl,rfl,rfl⟩,⟨rfl,rfl,rfl⟩,trivial⟩ c0 lr0 nr0 lr1 nr1 lr2 nr2 lr3 nr3) (af (ph (ns:=[12,15,18]) (d:=true) ⟨⟨rfl,rfl,rfl⟩,⟨rfl,rfl,rfl⟩,⟨rfl,rfl,rfl⟩,trivial⟩ c1 lr4 nr4 lr5 nr5 lr6 nr6) ai))
    aj Tryz.func21 (by kernel_rfl) ⟨(aM (ns:=[0,3,6,9,12,15,18]) (rs:=[r0,r1,r2,r3,r4,r5,r6]) ⟨⟨rfl,rfl,rfl⟩,⟨rfl,rfl,rfl⟩,⟨rfl,rfl,rfl⟩,⟨rfl,rfl,rfl⟩,⟨rfl,rfl,rfl⟩,⟨rfl,rfl,rfl⟩,⟨rfl,rfl,rfl⟩,trivial⟩).2 h,trivial⟩).mono ?_
   rintro e w' ⟨v,rfl,h1,h2⟩
   have h1:v= .bool _:=h1
   subst h1
   exact⟨by simp[mc,c0,c1],h2⟩
  ·refine(cRn (ρ:=frs (tV r0 r1 r2 r3 r4 r5 r6)++ [.val (.bool r0.s),.dig r0.L r0.p,.dig r0.N r0.q,.val (.bool r1.s),.dig r1.L r1.p,.dig r1.N r1.q,.val (.bool r2.s),.dig r2.L r2.p,.dig r2.N r2.q,.val (.bool r3.s),.dig r3.L r3.p,.dig r3.N r3.q,.val (.bool r4.s),.dig r4.L r4.p,.dig r4.N r4.q,.val (.bool r5.s),.dig r5.L r5.p,.dig r5.N r5.q,.val (.bool r6.s),.dig r6.L r6.p,.dig r6.N r6.q]) (args:=[cP [0,3,6,9,12,15,18]]) (vs:=[x]) (r:=.v (.one (.b false)))
    (af (kT (ns:=[0,3,6,9]) (d:=true) ⟨⟨rfl,rfl,rfl⟩,⟨rfl,rfl,rfl⟩,⟨rfl,rfl,rfl⟩,⟨rfl,rfl,rfl⟩,trivial⟩ c0 lr0 nr0 lr1 nr1 lr2 nr2 lr3 nr3) (af (ph (ns:=[12,15,18]) (d:=false) ⟨⟨rfl,rfl,rfl⟩,⟨rfl,rfl,rfl⟩,⟨rfl,rfl,rfl⟩,trivial⟩ c1 lr4 nr4 lr5 nr5 lr6 nr6) ai))
    aj Tryz.func21 (by kernel_rfl) ⟨(aM (ns:=[0,3,6,9,12,15,18]) (rs:=[r0,r1,r2,r3,r4,r5,r6]) ⟨⟨rfl,rfl,rfl⟩,⟨rfl,rfl,rfl⟩,⟨rfl,rfl,rfl⟩,⟨rfl,rfl,rfl⟩,⟨rfl,rfl,rfl⟩,⟨rfl,rfl,rfl⟩,⟨rfl,rfl,rfl⟩,trivial⟩).2 h,trivial⟩).mono ?_
   rintro e w' ⟨v,rfl,h1,h2⟩
   have h1:v= .bool _:=h1
   subst h1
   exact⟨by simp[mc,c0,c1],h2⟩
 ·refine(cRn (ρ:=frs (tW r0 r1 r2 r3 r4 r5 r6)++ [.val (.bool r0.s),.dig r0.L r0.p,.dig r0.N r0.q,.val (.bool r1.s),.dig r1.L r1.p,.dig r1.N r1.q,.val (.bool r2.s),.dig r2.L r2.p,.dig r2.N r2.q,.val (.bool r3.s),.dig r3.L r3.p,.dig r3.N r3.q,.val (.bool r4.s),.dig r4.L r4.p,.dig r4.N r4.q,.val (.bool r5.s),.dig r5.L r5.p,.dig r5.N r5.q,.val (.bool r6.s),.dig r6.L r6.p,.dig r6.N r6.q]) (args:=[cP [0,3,6,9,12,15,18]]) (vs:=[x]) (r:=.v (.one (.b false)))
   (af (kT (ns:=[0,3,6,9]) (d:=false) ⟨⟨rfl,rfl,rfl⟩,⟨rfl,rfl,rfl⟩,⟨rfl,rfl,rfl⟩,⟨rfl,rfl,rfl⟩,trivial⟩ c0 lr0 nr0 lr1 nr1 lr2 nr2 lr3 nr3) ai)
   aj Tryz.func21 (by kernel_rfl) ⟨(aM (ns:=[0,3,6,9,12,15,18]) (rs:=[r0,r1,r2,r3,r4,r5,r6]) ⟨⟨rfl,rfl,rfl⟩,⟨rfl,rfl,rfl⟩,⟨rfl,rfl,rfl⟩,⟨rfl,rfl,rfl⟩,⟨rfl,rfl,rfl⟩,⟨rfl,rfl,rfl⟩,⟨rfl,rfl,rfl⟩,trivial⟩).2 h,trivial⟩).mono ?_
  rintro e w' ⟨v,rfl,h1,h2⟩
  have h1:v= .bool _:=h1
  subst h1
  exact⟨by simp[mc,c0],h2⟩
theorem wB {xs:List Fq} {ys:Rho} {ns:List Nat} {r0 r1 r2 r3 r4 r5 r6:Rq} {d:Bool} (hr:AtR (frs xs++ys) ns [r0,r1,r2,r3,r4,r5,r6]) (hd:mc r0 r1 r2 r3 r4 r5 r6=d) (lr0:r0.L≤1000000) (nr0:r0.N≤1000000) (lr1:r1.L≤1000000) (nr1:r1.N≤1000000) (lr2:r2.L≤1000000) (nr2:r2.N≤1000000) (lr3:r3.L≤1000000) (nr3:r3.N≤1000000) (lr4:r4.L≤1000000) (nr4:r4.N≤1000000) (lr5:r5.L≤1000000) (nr5:r5.N≤1000000) (lr6:r6.L≤1000000) (nr6:r6.N≤1000000):OkI xs ys ⟨21,[cP ns],.v (.one (.b d))⟩:=
 ⟨aA Tryz.func21 rfl rfl,fun B w vs hB h=>by
  match vs,h with
  | [x],h=>
   refine(wA x r0 r1 r2 r3 r4 r5 r6 w ((aM hr).1 h.1) lr0 nr0 lr1 nr1 lr2 nr2 lr3 nr3 lr4 nr4 lr5 nr5 lr6 nr6).mono ?_
   rintro e w' ⟨rfl,h2⟩
   exact⟨_,rfl,by subst hd;rfl,h2⟩⟩
end Go.Proofs.YtfhinmdhjlmikaaGreat
namespace Go.Proofs.YtfhinmdhjlmikaaGreat
set_option linter.unusedSimpArgs false
set_option linter.unusedVariables false
set_option maxRecDepth 100000
open Go.RowKit
/-- A stamp as it comes in: its numbers may have leading zeros. -/
structure RSt where
 tm:Int
 r0:Rq
 r1:Rq
 r2:Rq
 r3:Rq
 r4:Rq
 r5:Rq
 r6:Rq
def RSt.rs (x:RSt):List Rq:=[x.r0,x.r1,x.r2,x.r3,x.r4,x.r5,x.r6]
def mN (l:List Rq):List Vp:=l.flatMap fun r=>[.val (.bool r.s),.dig r.L r.p,.dig r.N r.q]
def RSt.qs (x:RSt):List Vp:=.val (.int .i64 x.tm)::mN x.rs
def St.raw (s:St):RSt:=⟨s.tm,s.pose.rot.w.raw,s.pose.rot.x.raw,s.pose.rot.y.raw,s.pose.rot.z.raw,s.pose.pos.x.raw,s.pose.pos.y.raw,s.pose.pos.z.raw⟩
def nE (w:World) (v:Value) (x:RSt):Prop:=∃cs:List Value,v= .agg (.int .i64 x.tm::cs).toArray∧bR w x.rs cs
theorem tX {w:World} {v:Value} {s:St}:nE w v s.raw↔ce w v s:=Iff.rfl
section
variable {ρ ρ':Rho} {n m k r j u N:Nat} {a:Int} {T:TypeId} {B:Blk} {w:World} {S S':List St} {f:FuncId} {args xs:List SV} {l la:Leaf} {sl0:Value} {pin:Bool} {x:RSt} {v:Value} {t:TypeId}
theorem dV {ns:List Nat} (hn:ρ[n]? =some (.val (.int .i64 x.tm))) (ha:AtR ρ ns x.rs):(SV.agg (.ref n::bo ns)).holds ρ B w v↔nE w v x:=by
 constructor
 ·rintro⟨vs,rfl,h⟩
  match vs,h with
  | v0::vs,h=>
   have:=bh hn h.1
   subst this
   exact⟨vs,rfl,(gk ha).1 h.2⟩
 ·rintro⟨cs,rfl,h⟩
  exact⟨.int .i64 x.tm::cs,rfl,aH hn aE,(gk ha).2 h⟩
theorem gI:∀ {ns:List Nat} {rs:List Rq},AtR ρ ns rs→LQ ρ (bo ns) (mN rs)
 | [],[],_=>trivial
 | _::_,_::_,h=>⟨lq h.1.1,lq h.1.2.1,lq h.1.2.2,gI h.2⟩
 | [],_::_,h=>h.elim
 | _::_,[],h=>h.elim
theorem j7 {ns:List Nat} (hn:ρ[n]? =some (.val (.int .i64 x.tm))) (ha:AtR ρ ns x.rs):LQ ρ (.ref n::bo ns) x.qs:=⟨lq hn,gI ha⟩
theorem ye:∀ {ns:List Nat} {rs:List Rq},AtR ρ ns rs→QL ρ (bo ns) (mN rs)
 | [],[],_=>trivial
 | _::_,_::_,h=>⟨re h.1.1,gN h.1.2.1,gN h.1.2.2,ye h.2⟩
 | [],_::_,h=>h.elim
 | _::_,[],h=>h.elim
theorem ql_rs {ns:List Nat} (hn:ρ[n]? =some (.val (.int .i64 x.tm))) (ha:AtR ρ ns x.rs):QL ρ (.ref n::bo ns) x.qs:=⟨re hn,ye ha⟩
/-- A slice of one stamp. -/
theorem o_bsR {ns:List Nat} (hn:ρ[n]? =some (.val (.int .i64 x.tm))) (ha:AtR ρ ns x.rs) (hm:ρ[m]? =some (.row stT 1 x.qs)):(OIns.mk (.bs 22 1 [0]) [.agg (.ref n::bo ns)] (.one (.ref m))).Ok Tryz.prog ρ:=by
 obtain⟨a1,a2,a3,a4,a5,a6,a7,rfl,h⟩:∃a1 a2 a3 a4 a5 a6 a7,ns=[a1,a2,a3,a4,a5,a6,a7]∧True:=by
  match ns,ha with
  | [a1,a2,a3,a4,a5,a6,a7],_=>exact⟨_,_,_,_,_,_,_,rfl,trivial⟩
 exact rf (m:=m) (ss:=[.agg (.ref n::bo [a1,a2,a3,a4,a5,a6,a7])]) (N:=1) (sz:=22) (z:=.i .i64 0::List.flatten (List.replicate 7 [.b false,.sl0,.sl0])) (qs:=x.qs) (ix:=[0]) (ls:=.ref n::bo [a1,a2,a3,a4,a5,a6,a7]) Tryz.underlying22 (by kernel_rfl) (by kernel_rfl) (by decide) (by decide) (by decide) rfl (by kernel_rfl) (ql_rs hn ha) hm
/-- How a track is known. -/
def go (ρ:Rho) (u:Nat) (T:TypeId) (l:Leaf) (S:List St):Prop:=∀B w g,BInj B→B.v u=some g→nz ρ B w (u,T,[l])→∃sl,TrkS T w g sl S
theorem kU (hm:ρ[m]? =some (.rowB pin sl0 stT S.length (az S))):go ρ u T (.ref m) S:=fun _ _ _ _ hg hv=>x9 hg hv hm
theorem fk (hm:ρ[m]? =some (.row stT S.length (az S))):go ρ u T (.own k m) S:=fun _ _ _ hi hg hv=>by
 obtain⟨sl,h,_⟩:=rK hi hg hv hm
 exact⟨sl,h⟩
theorem bV (hen:∀(vs:Array Value) (w:World),(callFunc f vs).run Tryz.prog w= .ok (.enter f vs) w) (hl:go ρ u T l S) {r:SV}
  (h:∀B w g sl vs,BOk B w.heap.size→TrkS T w g sl S→cG ρ B w args vs→Calls Tryz.prog f (.pointer (some ⟨g,0,none⟩)::vs).toArray w (fun e w'=>∃v,e= .returned v∧(∀B',BOk B' w.heap.size→(sK xs).holds ρ B' w' v)∧Below w.heap.size w w')):
  (OIns.mk (.mut f ⟨[],[(u,T,[l])],[],none,[],xs⟩) (.one (.ptr u 0)::args) r).Ok Tryz.prog ρ:=fun B w vs hv=>by
 match vs,hv with
 | v0::vs,hv=>
  obtain⟨g,hg,rfl⟩:=hv.1
  refine⟨hen _ _,fun hbok hinj ho hov _ hpre=> ?_⟩
  obtain⟨sl,ht⟩:=hl B w g hinj hg (hpre (u,T,[l]) (List.mem_singleton.2 rfl))
  refine(h B w g sl vs hbok ht hv.2).mono ?_
  rintro e w' ⟨v,rfl,hres,hb⟩
  exact⟨v,B,rfl,hres _ hbok,fun q hq=>(by cases hq),fun q hq=>(by cases hq),fun q hq=>(by cases hq),hb.os,hb.tape,hb.output,fun _ _=>rfl,fun q g hq=>(by cases hq),fun l b hb=>hb,fun l b hb=>.inl hb,fun l b hl _=>(by cases hl),hinj,⟨hb.size,fun b hl _=>hb.block b hl,fun b hX=>by
   rcases hX with⟨l,hl,_⟩ | ⟨q,hq,_⟩
   ·cases hl
   ·cases hq⟩⟩
/-- Appends of rows that may be empty. -/
theorem o_appT {qs qs':List Vp} {L M:Nat} (hl:BefO ρ j stT 22 L qs l) (hr:∀B w y,la.holds ρ B w y→(Vp.row stT M qs').p w y) (hm:ρ[m]? =some (.ownr stT 22 (L+M) (qs++qs'))) (hq:qs'.length=M*22) (hb:L+M≤1000000):
  (OIns.mk (.app 22) [.one l,.one la] (.one (.own j m))).Ok Tryz.prog ρ:=fun B w vs hv=>by
 match vs,hv with
 | [v1,v2],hv=>
  have h1:∃xs,kO w stT 22 v1 L xs∧cg w qs xs:=by
   rcases hl with⟨rfl,rfl,rfl⟩ | ⟨n,rfl,hn⟩
   ·have e:v1= .slice none 0 0:=hv.1
    subst e
    exact⟨[],⟨World.ownsRow_nil _ _ _ _,fun g hg=>by cases hg⟩,rfl,fun j q h=>by simp at h⟩
   ·obtain⟨s,k1,k2,_⟩:=hv.1
    rw[hn]at k1;injection k1 with k1;subst k1
    exact k2
  obtain⟨xs,hox,hcx⟩:=h1
  intro ty
  obtain⟨v',w',hrun,hg,hold,hblk,hown⟩:=pc (p:=Tryz.prog) (ty:=ty) (bytes:=400) Tryz.underlying22 (by kernel_rfl) hox hcx (hr _ _ _ hv.2.1) hq (by omega) (by omega)
  refine⟨v',w',hrun,hg,fun g h=>(hold g h).x,fun g hgv=>⟨hblk g hgv,?_,vY hown g hgv⟩,_,hm,hown,fun g hgv=>hgv⟩
  obtain⟨xs',⟨_,h0⟩,_⟩:=hown
  obtain⟨cs,t,h,_⟩:=h0 g hgv
  exact(Array.getElem?_eq_some_iff.1 h).1
theorem sgo {k:Nat} (h1:ρ[m]? =some (.ownr stT 22 S.length (az S))) (h2:ρ'[n]? =some (.ownr stT 22 S'.length (az S'))) (e:S=S'):oM ρ ρ' (n,.own k m):=by subst e;exact sg_own h1 h2
theorem sgr {k:Nat} (h1:ρ[m]? =some (.row stT S.length (az S))) (h2:ρ'[n]? =some (.row stT S'.length (az S'))) (e:S=S'):oM ρ ρ' (n,.own k m):=by subst e;exact sg_own h1 h2
/-- A loop whose first round begins otherwise. -/
theorem rQ {E:Ent} {nt:Nat} {b:Code} {s s':MS} {e:Ex} (N:Nat) (ρ0:Rho) (S0:MS) (ρs:Nat→Rho) (S:Nat→MS) (h0:∀a w,MSt ρ E nt s a w→MSt ρ0 E nt S0 a w) (hN0:0<N) (hf:jg Tryz.prog E nt b ρ0 S0 .nrm (ρs 1) (S 1))
  (hr:∀k,0<k→k<N→jg Tryz.prog E nt b (ρs k) (S k) .nrm (ρs (k+1)) (S (k+1))) (hN:jg Tryz.prog E nt b (ρs N) (S N) e ρ s') (he:e≠ .nrm) (hpn:E.pin.length≤s.vars.length):LOb.Ok Tryz.prog ρ E nt ⟨b,s,e,s'⟩:=by
 refine bx N (fun k=>match k with | 0=>ρ0 | k+1=>ρs (k+1)) (fun k=>match k with | 0=>S0 | k+1=>S (k+1)) h0 (fun k hk=> ?_) ?_ he hpn
 ·cases k with
  | zero=>exact hf
  | succ k=>exact hr (k+1) (by omega) hk
 ·cases N with
  | zero=>omega
  | succ N=>exact hN
end
end Go.Proofs.YtfhinmdhjlmikaaGreat
