/- Which poses are valid, as they come in. Tracks: stamps as they come in; calls of methods that read; appends of stamps; more loops. -/
import Derived.Test.YtfhinmdhjlmikaaGreatP15
namespace Go.Proofs.YtfhinmdhjlmikaaGreat
set_option linter.unusedSimpArgs false
set_option linter.unusedVariables false
set_option maxRecDepth 100000
open Go.RowKit
/-- The parts are valid, the first that is not zero is one. -/
def uv (r0 r1 r2 r3:Rq):Bool:=(r0.vld && (r1.vld && (r2.vld && r3.vld))) && (Qq.mk ⟨r0.s,r0.p,r0.q⟩ ⟨r1.s,r1.p,r1.q⟩ ⟨r2.s,r2.p,r2.q⟩ ⟨r3.s,r3.p,r3.q⟩).first.same (Fq.ofInt 1)
def eT (r0 r1 r2 r3:Rq):List Fq:=[]
theorem aaN (x:Value) (r0 r1 r2 r3:Rq) (w:World) (h:IsL w x [r0,r1,r2,r3]):Calls Tryz.prog 101 #[x] w fun e w'=>RetL w [r0,r1,r2,r3] e w':=by
 refine(cRn (ρ:=frs (eT r0 r1 r2 r3)++ [.val (.bool r0.s),.dig r0.L r0.p,.dig r0.N r0.q,.val (.bool r1.s),.dig r1.L r1.p,.dig r1.N r1.q,.val (.bool r2.s),.dig r2.L r2.p,.dig r2.N r2.q,.val (.bool r3.s),.dig r3.L r3.p,.dig r3.N r3.q]) (args:=[fD [0,3,6,9]]) (vs:=[x]) (r:=.v (fD [0,3,6,9]))
  (ah) ai Tryz.func101 (by kernel_rfl) ⟨(aY (ns:=[0,3,6,9]) (rs:=[r0,r1,r2,r3]) ⟨⟨rfl,rfl,rfl⟩,⟨rfl,rfl,rfl⟩,⟨rfl,rfl,rfl⟩,⟨rfl,rfl,rfl⟩,trivial⟩).2 h,trivial⟩).mono ?_
 rintro e w' ⟨v,rfl,h1,h2⟩
 exact⟨v,rfl,(aY (ns:=[0,3,6,9]) (rs:=[r0,r1,r2,r3]) ⟨⟨rfl,rfl,rfl⟩,⟨rfl,rfl,rfl⟩,⟨rfl,rfl,rfl⟩,⟨rfl,rfl,rfl⟩,trivial⟩).1 h1,h2⟩
theorem kT {xs:List Fq} {ys:Rho} {ns:List Nat} {r0 r1 r2 r3:Rq} (hr:AtR (frs xs++ys) ns [r0,r1,r2,r3]):OkI xs ys ⟨101,[fD ns],.v (fD ns)⟩:=
 ⟨aC Tryz.func101 rfl rfl,fun B w vs hB h=>by
  match vs,h with
  | [va],h=>
   refine(aaN va r0 r1 r2 r3 w ((aY hr).1 h.1)).mono ?_
   rintro e w' ⟨v,rfl,h1,h2⟩
   exact⟨v,rfl,(aY hr).2 h1,h2⟩⟩
def uw (r0 r1 r2 r3:Rq):List Fq:=[]
def ux (r0 r1 r2 r3:Rq):List Fq:=[]
def uy (r0 r1 r2 r3:Rq):List Fq:=[]
def uz (r0 r1 r2 r3:Rq):List Fq:=[]
theorem x9 (x:Value) (r0 r1 r2 r3:Rq) (w:World) (h:IsL w x [r0,r1,r2,r3]) (lr0:r0.L≤1000000) (nr0:r0.N≤1000000) (lr1:r1.L≤1000000) (nr1:r1.N≤1000000) (lr2:r2.L≤1000000) (nr2:r2.N≤1000000) (lr3:r3.L≤1000000) (nr3:r3.N≤1000000) (hne:(r0.vld && (r1.vld && (r2.vld && r3.vld)))=false):Calls Tryz.prog 69 #[x] w fun e w'=>bm w (.bool false) e w':=by
 rcases Bool.eq_false_or_eq_true (r0.vld)with c0 | c0
 ·rcases Bool.eq_false_or_eq_true (r1.vld)with c1 | c1
  ·rcases Bool.eq_false_or_eq_true (r2.vld)with c2 | c2
   ·rcases Bool.eq_false_or_eq_true (r3.vld)with c3 | c3
    ·exact absurd hne (by rw[c0,c1,c2,c3];decide)
    ·refine(cRn (ρ:=frs (uw r0 r1 r2 r3)++ [.val (.bool r0.s),.dig r0.L r0.p,.dig r0.N r0.q,.val (.bool r1.s),.dig r1.L r1.p,.dig r1.N r1.q,.val (.bool r2.s),.dig r2.L r2.p,.dig r2.N r2.q,.val (.bool r3.s),.dig r3.L r3.p,.dig r3.N r3.q]) (args:=[fD [0,3,6,9]]) (vs:=[x]) (r:=.v (.one (.b false)))
      (af (kT (ns:=[0,3,6,9]) ⟨⟨rfl,rfl,rfl⟩,⟨rfl,rfl,rfl⟩,⟨rfl,rfl,rfl⟩,⟨rfl,rfl,rfl⟩,trivial⟩) (af (bC (n:=0) (r:=r0) (d:=true) ⟨⟨rfl,rfl,rfl⟩,trivial⟩ c0 lr0 nr0) (af (bC (n:=3) (r:=r1) (d:=true) ⟨⟨rfl,rfl,rfl⟩,trivial⟩ c1 lr1 nr1) (af (bC (n:=6) (r:=r2) (d:=true) ⟨⟨rfl,rfl,rfl⟩,trivial⟩ c2 lr2 nr2) (af (bC (n:=9) (r:=r3) (d:=false) ⟨⟨rfl,rfl,rfl⟩,trivial⟩ c3 lr3 nr3) (ah)))))) ai Tryz.func69 (by kernel_rfl) ⟨(aY (ns:=[0,3,6,9]) (rs:=[r0,r1,r2,r3]) ⟨⟨rfl,rfl,rfl⟩,⟨rfl,rfl,rfl⟩,⟨rfl,rfl,rfl⟩,⟨rfl,rfl,rfl⟩,trivial⟩).2 h,trivial⟩).mono ?_
     rintro e w' ⟨v,rfl,h1,h2⟩
     exact⟨congrArg Ending.returned h1,h2⟩
   ·refine(cRn (ρ:=frs (ux r0 r1 r2 r3)++ [.val (.bool r0.s),.dig r0.L r0.p,.dig r0.N r0.q,.val (.bool r1.s),.dig r1.L r1.p,.dig r1.N r1.q,.val (.bool r2.s),.dig r2.L r2.p,.dig r2.N r2.q,.val (.bool r3.s),.dig r3.L r3.p,.dig r3.N r3.q]) (args:=[fD [0,3,6,9]]) (vs:=[x]) (r:=.v (.one (.b false)))
     (af (kT (ns:=[0,3,6,9]) ⟨⟨rfl,rfl,rfl⟩,⟨rfl,rfl,rfl⟩,⟨rfl,rfl,rfl⟩,⟨rfl,rfl,rfl⟩,trivial⟩) (af (bC (n:=0) (r:=r0) (d:=true) ⟨⟨rfl,rfl,rfl⟩,trivial⟩ c0 lr0 nr0) (af (bC (n:=3) (r:=r1) (d:=true) ⟨⟨rfl,rfl,rfl⟩,trivial⟩ c1 lr1 nr1) (af (bC (n:=6) (r:=r2) (d:=false) ⟨⟨rfl,rfl,rfl⟩,trivial⟩ c2 lr2 nr2) (ah))))) ai Tryz.func69 (by kernel_rfl) ⟨(aY (ns:=[0,3,6,9]) (rs:=[r0,r1,r2,r3]) ⟨⟨rfl,rfl,rfl⟩,⟨rfl,rfl,rfl⟩,⟨rfl,rfl,rfl⟩,⟨rfl,rfl,rfl⟩,trivial⟩).2 h,trivial⟩).mono ?_
    rintro e w' ⟨v,rfl,h1,h2⟩
    exact⟨congrArg Ending.returned h1,h2⟩
  ·refine(cRn (ρ:=frs (uy r0 r1 r2 r3)++ [.val (.bool r0.s),.dig r0.L r0.p,.dig r0.N r0.q,.val (.bool r1.s),.dig r1.L r1.p,.dig r1.N r1.q,.val (.bool r2.s),.dig r2.L r2.p,.dig r2.N r2.q,.val (.bool r3.s),.dig r3.L r3.p,.dig r3.N r3.q]) (args:=[fD [0,3,6,9]]) (vs:=[x]) (r:=.v (.one (.b false)))
    (af (kT (ns:=[0,3,6,9]) ⟨⟨rfl,rfl,rfl⟩,⟨rfl,rfl,rfl⟩,⟨rfl,rfl,rfl⟩,⟨rfl,rfl,rfl⟩,trivial⟩) (af (bC (n:=0) (r:=r0) (d:=true) ⟨⟨rfl,rfl,rfl⟩,trivial⟩ c0 lr0 nr0) (af (bC (n:=3) (r:=r1) (d:=false) ⟨⟨rfl,rfl,rfl⟩,trivial⟩ c1 lr1 nr1) (ah)))) ai Tryz.func69 (by kernel_rfl) ⟨(aY (ns:=[0,3,6,9]) (rs:=[r0,r1,r2,r3]) ⟨⟨rfl,rfl,rfl⟩,⟨rfl,rfl,rfl⟩,⟨rfl,rfl,rfl⟩,⟨rfl,rfl,rfl⟩,trivial⟩).2 h,trivial⟩).mono ?_
   rintro e w' ⟨v,rfl,h1,h2⟩
   exact⟨congrArg Ending.returned h1,h2⟩
 ·refine(cRn (ρ:=frs (uz r0 r1 r2 r3)++ [.val (.bool r0.s),.dig r0.L r0.p,.dig r0.N r0.q,.val (.bool r1.s),.dig r1.L r1.p,.dig r1.N r1.q,.val (.bool r2.s),.dig r2.L r2.p,.dig r2.N r2.q,.val (.bool r3.s),.dig r3.L r3.p,.dig r3.N r3.q]) (args:=[fD [0,3,6,9]]) (vs:=[x]) (r:=.v (.one (.b false)))
   (af (kT (ns:=[0,3,6,9]) ⟨⟨rfl,rfl,rfl⟩,⟨rfl,rfl,rfl⟩,⟨rfl,rfl,rfl⟩,⟨rfl,rfl,rfl⟩,trivial⟩) (af (bC (n:=0) (r:=r0) (d:=false) ⟨⟨rfl,rfl,rfl⟩,trivial⟩ c0 lr0 nr0) (ah))) ai Tryz.func69 (by kernel_rfl) ⟨(aY (ns:=[0,3,6,9]) (rs:=[r0,r1,r2,r3]) ⟨⟨rfl,rfl,rfl⟩,⟨rfl,rfl,rfl⟩,⟨rfl,rfl,rfl⟩,⟨rfl,rfl,rfl⟩,trivial⟩).2 h,trivial⟩).mono ?_
  rintro e w' ⟨v,rfl,h1,h2⟩
  exact⟨congrArg Ending.returned h1,h2⟩
theorem yc (vq:Value) (q:Qq) (w:World) (iq:fv w vq q) (hq:q.ok 1000000) (gc:q.comp):Calls Tryz.prog 69 #[vq] w fun e w'=>bm w (.bool (q.first.same (Fq.ofInt 1))) e w':=by
 by_cases h:q.first=Fq.ofInt 1
 ·rw[Fq.same_iff.2 h];exact nZ vq q w iq hq (qG gc h)
 ·rw[same_ne h];exact ue vq q w iq hq gc h
theorem uA (x:Value) (r0 r1 r2 r3:Rq) (w:World) (h:IsL w x [r0,r1,r2,r3]) (lr0:r0.L≤1000000) (nr0:r0.N≤1000000) (lr1:r1.L≤1000000) (nr1:r1.N≤1000000) (lr2:r2.L≤1000000) (nr2:r2.N≤1000000) (lr3:r3.L≤1000000) (nr3:r3.N≤1000000):Calls Tryz.prog 69 #[x] w fun e w'=>bm w (.bool (uv r0 r1 r2 r3)) e w':=by
 rcases Bool.eq_false_or_eq_true (r0.vld && (r1.vld && (r2.vld && r3.vld)))with hv | hv
 ·unfold uv
  rw[hv,Bool.true_and]
  simp only[Bool.and_eq_true]at hv
  obtain⟨h0,h1,h2,h3⟩:=hv
  have k0:=qK h0;have k1:=qK h1;have k2:=qK h2;have k3:=qK h3
  have m0:=dV h0;have m1:=dV h1;have m2:=dV h2;have m3:=dV h3
  refine yc x (Qq.mk ⟨r0.s,r0.p,r0.q⟩ ⟨r1.s,r1.p,r1.q⟩ ⟨r2.s,r2.p,r2.q⟩ ⟨r3.s,r3.p,r3.q⟩) w (by have h':=h;rw[m0.1,m1.1,m2.1,m3.1]at h';exact h') ⟨⟨?_,?_,Fq.valid.n m0.2⟩,⟨?_,?_,Fq.valid.n m1.2⟩,⟨?_,?_,Fq.valid.n m2.2⟩,⟨?_,?_,Fq.valid.n m3.2⟩⟩ ⟨m0.2,m1.2,m2.2,m3.2⟩
  ·show nl r0.p≤_;omega
  ·show nl r0.q≤_;omega
  ·show nl r1.p≤_;omega
  ·show nl r1.q≤_;omega
  ·show nl r2.p≤_;omega
  ·show nl r2.q≤_;omega
  ·show nl r3.p≤_;omega
  ·show nl r3.q≤_;omega
 ·unfold uv
  rw[hv,Bool.false_and]
  exact x9 x r0 r1 r2 r3 w h lr0 nr0 lr1 nr1 lr2 nr2 lr3 nr3 hv
def qL (r0 r1 r2:Rq):Bool:=r0.vld && (r1.vld && r2.vld)
def sy (r0 r1 r2 r3 r4 r5 r6:Rq):Bool:=uv r0 r1 r2 r3 && qL r4 r5 r6
def uB (r0 r1 r2:Rq):List Fq:=[]
def uC (r0 r1 r2:Rq):List Fq:=[]
def uD (r0 r1 r2:Rq):List Fq:=[]
def uE (r0 r1 r2:Rq):List Fq:=[]
theorem yd (x:Value) (r0 r1 r2:Rq) (w:World) (h:IsL w x [r0,r1,r2]) (lr0:r0.L≤1000000) (nr0:r0.N≤1000000) (lr1:r1.L≤1000000) (nr1:r1.N≤1000000) (lr2:r2.L≤1000000) (nr2:r2.N≤1000000):Calls Tryz.prog 70 #[x] w fun e w'=>bm w (.bool (qL r0 r1 r2)) e w':=by
 rcases Bool.eq_false_or_eq_true (r0.vld)with c0 | c0
 ·rcases Bool.eq_false_or_eq_true (r1.vld)with c1 | c1
  ·rcases Bool.eq_false_or_eq_true (r2.vld)with c2 | c2
   ·refine(cRn (ρ:=frs (uB r0 r1 r2)++ [.val (.bool r0.s),.dig r0.L r0.p,.dig r0.N r0.q,.val (.bool r1.s),.dig r1.L r1.p,.dig r1.N r1.q,.val (.bool r2.s),.dig r2.L r2.p,.dig r2.N r2.q]) (args:=[fD [0,3,6]]) (vs:=[x]) (r:=.v (.one (.b true)))
     (af (bC (n:=0) (r:=r0) (d:=true) ⟨⟨rfl,rfl,rfl⟩,trivial⟩ c0 lr0 nr0) (af (bC (n:=3) (r:=r1) (d:=true) ⟨⟨rfl,rfl,rfl⟩,trivial⟩ c1 lr1 nr1) (af (bC (n:=6) (r:=r2) (d:=true) ⟨⟨rfl,rfl,rfl⟩,trivial⟩ c2 lr2 nr2) ah)))
     ai Tryz.func70 (by kernel_rfl) ⟨(aY (ns:=[0,3,6]) (rs:=[r0,r1,r2]) ⟨⟨rfl,rfl,rfl⟩,⟨rfl,rfl,rfl⟩,⟨rfl,rfl,rfl⟩,trivial⟩).2 h,trivial⟩).mono ?_
    rintro e w' ⟨v,rfl,h1,h2⟩
    have h1:v= .bool _:=h1
    subst h1
    exact⟨by simp[qL,c0,c1,c2],h2⟩
   ·refine(cRn (ρ:=frs (uC r0 r1 r2)++ [.val (.bool r0.s),.dig r0.L r0.p,.dig r0.N r0.q,.val (.bool r1.s),.dig r1.L r1.p,.dig r1.N r1.q,.val (.bool r2.s),.dig r2.L r2.p,.dig r2.N r2.q]) (args:=[fD [0,3,6]]) (vs:=[x]) (r:=.v (.one (.b false)))
     (af (bC (n:=0) (r:=r0) (d:=true) ⟨⟨rfl,rfl,rfl⟩,trivial⟩ c0 lr0 nr0) (af (bC (n:=3) (r:=r1) (d:=true) ⟨⟨rfl,rfl,rfl⟩,trivial⟩ c1 lr1 nr1) (af (bC (n:=6) (r:=r2) (d:=false) ⟨⟨rfl,rfl,rfl⟩,trivial⟩ c2 lr2 nr2) ah)))
     ai Tryz.func70 (by kernel_rfl) ⟨(aY (ns:=[0,3,6]) (rs:=[r0,r1,r2]) ⟨⟨rfl,rfl,rfl⟩,⟨rfl,rfl,rfl⟩,⟨rfl,rfl,rfl⟩,trivial⟩).2 h,trivial⟩).mono ?_
    rintro e w' ⟨v,rfl,h1,h2⟩
    have h1:v= .bool _:=h1
    subst h1
    exact⟨by simp[qL,c0,c1,c2],h2⟩
  ·refine(cRn (ρ:=frs (uD r0 r1 r2)++ [.val (.bool r0.s),.dig r0.L r0.p,.dig r0.N r0.q,.val (.bool r1.s),.dig r1.L r1.p,.dig r1.N r1.q,.val (.bool r2.s),.dig r2.L r2.p,.dig r2.N r2.q]) (args:=[fD [0,3,6]]) (vs:=[x]) (r:=.v (.one (.b false)))
    (af (bC (n:=0) (r:=r0) (d:=true) ⟨⟨rfl,rfl,rfl⟩,trivial⟩ c0 lr0 nr0) (af (bC (n:=3) (r:=r1) (d:=false) ⟨⟨rfl,rfl,rfl⟩,trivial⟩ c1 lr1 nr1) ah))
    ai Tryz.func70 (by kernel_rfl) ⟨(aY (ns:=[0,3,6]) (rs:=[r0,r1,r2]) ⟨⟨rfl,rfl,rfl⟩,⟨rfl,rfl,rfl⟩,⟨rfl,rfl,rfl⟩,trivial⟩).2 h,trivial⟩).mono ?_
   rintro e w' ⟨v,rfl,h1,h2⟩
   have h1:v= .bool _:=h1
   subst h1
   exact⟨by simp[qL,c0,c1],h2⟩
 ·refine(cRn (ρ:=frs (uE r0 r1 r2)++ [.val (.bool r0.s),.dig r0.L r0.p,.dig r0.N r0.q,.val (.bool r1.s),.dig r1.L r1.p,.dig r1.N r1.q,.val (.bool r2.s),.dig r2.L r2.p,.dig r2.N r2.q]) (args:=[fD [0,3,6]]) (vs:=[x]) (r:=.v (.one (.b false)))
   (af (bC (n:=0) (r:=r0) (d:=false) ⟨⟨rfl,rfl,rfl⟩,trivial⟩ c0 lr0 nr0) ah)
   ai Tryz.func70 (by kernel_rfl) ⟨(aY (ns:=[0,3,6]) (rs:=[r0,r1,r2]) ⟨⟨rfl,rfl,rfl⟩,⟨rfl,rfl,rfl⟩,⟨rfl,rfl,rfl⟩,trivial⟩).2 h,trivial⟩).mono ?_
  rintro e w' ⟨v,rfl,h1,h2⟩
  have h1:v= .bool _:=h1
  subst h1
  exact⟨by simp[qL,c0],h2⟩
theorem pP {xs:List Fq} {ys:Rho} {ns:List Nat} {r0 r1 r2:Rq} {d:Bool} (hr:AtR (frs xs++ys) ns [r0,r1,r2]) (hd:qL r0 r1 r2=d) (lr0:r0.L≤1000000) (nr0:r0.N≤1000000) (lr1:r1.L≤1000000) (nr1:r1.N≤1000000) (lr2:r2.L≤1000000) (nr2:r2.N≤1000000):OkI xs ys ⟨70,[fD ns],.v (.one (.b d))⟩:=
 ⟨aC Tryz.func70 rfl rfl,fun B w vs hB h=>by
  match vs,h with
  | [x],h=>
   refine(yd x r0 r1 r2 w ((aY hr).1 h.1) lr0 nr0 lr1 nr1 lr2 nr2).mono ?_
   rintro e w' ⟨rfl,h2⟩
   exact⟨_,rfl,by subst hd;rfl,h2⟩⟩
theorem j4 {xs:List Fq} {ys:Rho} {ns:List Nat} {r0 r1 r2 r3:Rq} {d:Bool} (hr:AtR (frs xs++ys) ns [r0,r1,r2,r3]) (hd:uv r0 r1 r2 r3=d) (lr0:r0.L≤1000000) (nr0:r0.N≤1000000) (lr1:r1.L≤1000000) (nr1:r1.N≤1000000) (lr2:r2.L≤1000000) (nr2:r2.N≤1000000) (lr3:r3.L≤1000000) (nr3:r3.N≤1000000):OkI xs ys ⟨69,[fD ns],.v (.one (.b d))⟩:=
 ⟨aC Tryz.func69 rfl rfl,fun B w vs hB h=>by
  match vs,h with
  | [va],h=>
   refine(uA va r0 r1 r2 r3 w ((aY hr).1 h.1) lr0 nr0 lr1 nr1 lr2 nr2 lr3 nr3).mono ?_
   rintro e w' ⟨rfl,h2⟩
   exact⟨_,rfl,by subst hd;rfl,h2⟩⟩
def sA (r0 r1 r2 r3 r4 r5 r6:Rq):List Fq:=[]
def sB (r0 r1 r2 r3 r4 r5 r6:Rq):List Fq:=[]
def sC (r0 r1 r2 r3 r4 r5 r6:Rq):List Fq:=[]
theorem uF (x:Value) (r0 r1 r2 r3 r4 r5 r6:Rq) (w:World) (h:IsL w x [r0,r1,r2,r3,r4,r5,r6]) (lr0:r0.L≤1000000) (nr0:r0.N≤1000000) (lr1:r1.L≤1000000) (nr1:r1.N≤1000000) (lr2:r2.L≤1000000) (nr2:r2.N≤1000000) (lr3:r3.L≤1000000) (nr3:r3.N≤1000000) (lr4:r4.L≤1000000) (nr4:r4.N≤1000000) (lr5:r5.L≤1000000) (nr5:r5.N≤1000000) (lr6:r6.L≤1000000) (nr6:r6.N≤1000000):Calls Tryz.prog 44 #[x] w fun e w'=>bm w (.bool (sy r0 r1 r2 r3 r4 r5 r6)) e w':=by
 rcases Bool.eq_false_or_eq_true (uv r0 r1 r2 r3)with c0 | c0
 ·rcases Bool.eq_false_or_eq_true (qL r4 r5 r6)with c1 | c1
  ·refine(cRn (ρ:=frs (sA r0 r1 r2 r3 r4 r5 r6)++ [.val (.bool r0.s),.dig r0.L r0.p,.dig r0.N r0.q,.val (.bool r1.s),.dig r1.L r1.p,.dig r1.N r1.q,.val (.bool r2.s),.dig r2.L r2.p,.dig r2.N r2.q,.val (.bool r3.s),.dig r3.L r3.p,.dig r3.N r3.q,.val (.bool r4.s),.dig r4.L r4.p,.dig r4.N r4.q,.val (.bool r5.s),.dig r5.L r5.p,.dig r5.N r5.q,.val (.bool r6.s),.dig r6.L r6.p,.dig r6.N r6.q]) (args:=[fD [0,3,6,9,12,15,18]]) (vs:=[x]) (r:=.v (.one (.b true)))
    (af (j4 (ns:=[0,3,6,9]) (d:=true) ⟨⟨rfl,rfl,rfl⟩,⟨rfl,rfl,rfl⟩,⟨rfl,rfl,rfl⟩,⟨rfl,rfl,rfl⟩,trivial⟩ c0 lr0 nr0 lr1 nr1 lr2 nr2 lr3 nr3) (af (pP (ns:=[12,15,18]) (d:=true) ⟨⟨rfl,rfl,rfl⟩,⟨rfl,rfl,rfl⟩,⟨rfl,rfl,rfl⟩,trivial⟩ c1 lr4 nr4 lr5 nr5 lr6 nr6) ah))
    ai Tryz.func44 (by kernel_rfl) ⟨(aY (ns:=[0,3,6,9,12,15,18]) (rs:=[r0,r1,r2,r3,r4,r5,r6]) ⟨⟨rfl,rfl,rfl⟩,⟨rfl,rfl,rfl⟩,⟨rfl,rfl,rfl⟩,⟨rfl,rfl,rfl⟩,⟨rfl,rfl,rfl⟩,⟨rfl,rfl,rfl⟩,⟨rfl,rfl,rfl⟩,trivial⟩).2 h,trivial⟩).mono ?_
   rintro e w' ⟨v,rfl,h1,h2⟩
   have h1:v= .bool _:=h1
   subst h1
   exact⟨by simp[sy,c0,c1],h2⟩
  ·refine(cRn (ρ:=frs (sB r0 r1 r2 r3 r4 r5 r6)++ [.val (.bool r0.s),.dig r0.L r0.p,.dig r0.N r0.q,.val (.bool r1.s),.dig r1.L r1.p,.dig r1.N r1.q,.val (.bool r2.s),.dig r2.L r2.p,.dig r2.N r2.q,.val (.bool r3.s),.dig r3.L r3.p,.dig r3.N r3.q,.val (.bool r4.s),.dig r4.L r4.p,.dig r4.N r4.q,.val (.bool r5.s),.dig r5.L r5.p,.dig r5.N r5.q,.val (.bool r6.s),.dig r6.L r6.p,.dig r6.N r6.q]) (args:=[fD [0,3,6,9,12,15,18]]) (vs:=[x]) (r:=.v (.one (.b false)))
    (af (j4 (ns:=[0,3,6,9]) (d:=true) ⟨⟨rfl,rfl,rfl⟩,⟨rfl,rfl,rfl⟩,⟨rfl,rfl,rfl⟩,⟨rfl,rfl,rfl⟩,trivial⟩ c0 lr0 nr0 lr1 nr1 lr2 nr2 lr3 nr3) (af (pP (ns:=[12,15,18]) (d:=false) ⟨⟨rfl,rfl,rfl⟩,⟨rfl,rfl,rfl⟩,⟨rfl,rfl,rfl⟩,trivial⟩ c1 lr4 nr4 lr5 nr5 lr6 nr6) ah))
    ai Tryz.func44 (by kernel_rfl) ⟨(aY (ns:=[0,3,6,9,12,15,18]) (rs:=[r0,r1,r2,r3,r4,r5,r6]) ⟨⟨rfl,rfl,rfl⟩,⟨rfl,rfl,rfl⟩,⟨rfl,rfl,rfl⟩,⟨rfl,rfl,rfl⟩,⟨rfl,rfl,rfl⟩,⟨rfl,rfl,rfl⟩,⟨rfl,rfl,rfl⟩,trivial⟩).2 h,trivial⟩).mono ?_
   rintro e w' ⟨v,rfl,h1,h2⟩
   have h1:v= .bool _:=h1
   subst h1
   exact⟨by simp[sy,c0,c1],h2⟩
 ·refine(cRn (ρ:=frs (sC r0 r1 r2 r3 r4 r5 r6)++ [.val (.bool r0.s),.dig r0.L r0.p,.dig r0.N r0.q,.val (.bool r1.s),.dig r1.L r1.p,.dig r1.N r1.q,.val (.bool r2.s),.dig r2.L r2.p,.dig r2.N r2.q,.val (.bool r3.s),.dig r3.L r3.p,.dig r3.N r3.q,.val (.bool r4.s),.dig r4.L r4.p,.dig r4.N r4.q,.val (.bool r5.s),.dig r5.L r5.p,.dig r5.N r5.q,.val (.bool r6.s),.dig r6.L r6.p,.dig r6.N r6.q]) (args:=[fD [0,3,6,9,12,15,18]]) (vs:=[x]) (r:=.v (.one (.b false)))
   (af (j4 (ns:=[0,3,6,9]) (d:=false) ⟨⟨rfl,rfl,rfl⟩,⟨rfl,rfl,rfl⟩,⟨rfl,rfl,rfl⟩,⟨rfl,rfl,rfl⟩,trivial⟩ c0 lr0 nr0 lr1 nr1 lr2 nr2 lr3 nr3) ah)
   ai Tryz.func44 (by kernel_rfl) ⟨(aY (ns:=[0,3,6,9,12,15,18]) (rs:=[r0,r1,r2,r3,r4,r5,r6]) ⟨⟨rfl,rfl,rfl⟩,⟨rfl,rfl,rfl⟩,⟨rfl,rfl,rfl⟩,⟨rfl,rfl,rfl⟩,⟨rfl,rfl,rfl⟩,⟨rfl,rfl,rfl⟩,⟨rfl,rfl,rfl⟩,trivial⟩).2 h,trivial⟩).mono ?_
  rintro e w' ⟨v,rfl,h1,h2⟩
  have h1:v= .bool _:=h1
  subst h1
  exact⟨by simp[sy,c0],h2⟩
theorem uG {xs:List Fq} {ys:Rho} {ns:List Nat} {r0 r1 r2 r3 r4 r5 r6:Rq} {d:Bool} (hr:AtR (frs xs++ys) ns [r0,r1,r2,r3,r4,r5,r6]) (hd:sy r0 r1 r2 r3 r4 r5 r6=d) (lr0:r0.L≤1000000) (nr0:r0.N≤1000000) (lr1:r1.L≤1000000) (nr1:r1.N≤1000000) (lr2:r2.L≤1000000) (nr2:r2.N≤1000000) (lr3:r3.L≤1000000) (nr3:r3.N≤1000000) (lr4:r4.L≤1000000) (nr4:r4.N≤1000000) (lr5:r5.L≤1000000) (nr5:r5.N≤1000000) (lr6:r6.L≤1000000) (nr6:r6.N≤1000000):OkI xs ys ⟨44,[fD ns],.v (.one (.b d))⟩:=
 ⟨aC Tryz.func44 rfl rfl,fun B w vs hB h=>by
  match vs,h with
  | [x],h=>
   refine(uF x r0 r1 r2 r3 r4 r5 r6 w ((aY hr).1 h.1) lr0 nr0 lr1 nr1 lr2 nr2 lr3 nr3 lr4 nr4 lr5 nr5 lr6 nr6).mono ?_
   rintro e w' ⟨rfl,h2⟩
   exact⟨_,rfl,by subst hd;rfl,h2⟩⟩
end Go.Proofs.YtfhinmdhjlmikaaGreat
namespace Go.Proofs.YtfhinmdhjlmikaaGreat
set_option linter.unusedSimpArgs false
set_option linter.unusedVariables false
set_option maxRecDepth 100000
open Go.RowKit
/-- A stamp as it comes in: its numbers may have leading zeros. -/
structure RSt where
 tm:Int
 r0:Rq
 r1:Rq
 r2:Rq
 r3:Rq
 r4:Rq
 r5:Rq
 r6:Rq
def RSt.rs (x:RSt):List Rq:=[x.r0,x.r1,x.r2,x.r3,x.r4,x.r5,x.r6]
def mz (l:List Rq):List Vp:=l.flatMap fun r=>[.val (.bool r.s),.dig r.L r.p,.dig r.N r.q]
def RSt.qs (x:RSt):List Vp:=.val (.int .i64 x.tm)::mz x.rs
def St.raw (s:St):RSt:=⟨s.tm,s.pose.rot.w.raw,s.pose.rot.x.raw,s.pose.rot.y.raw,s.pose.rot.z.raw,s.pose.pos.x.raw,s.pose.pos.y.raw,s.pose.pos.z.raw⟩
def jt (w:World) (v:Value) (x:RSt):Prop:=∃cs:List Value,v= .agg (.int .i64 x.tm::cs).toArray∧bG w x.rs cs
theorem aaO {w:World} {v:Value} {s:St}:jt w v s.raw↔dm w v s:=Iff.rfl
def bc (R:List RSt):List Vp:=R.flatMap RSt.qs
section
variable {ρ ρ':Rho} {n m k r j u N:Nat} {a:Int} {T:TypeId} {B:Blk} {w:World} {S S':List St} {f:FuncId} {args xs:List SV} {l la:Leaf} {sl0:Value} {pin:Bool} {x:RSt} {v:Value} {t:TypeId}
theorem eG {ns:List Nat} (hn:ρ[n]? =some (.val (.int .i64 x.tm))) (ha:AtR ρ ns x.rs):(SV.agg (.ref n::cQ ns)).holds ρ B w v↔jt w v x:=by
 constructor
 ·rintro⟨vs,rfl,h⟩
  match vs,h with
  | v0::vs,h=>
   have:=bj hn h.1
   subst this
   exact⟨vs,rfl,(fE ha).1 h.2⟩
 ·rintro⟨cs,rfl,h⟩
  exact⟨.int .i64 x.tm::cs,rfl,aD hn az,(fE ha).2 h⟩
theorem gS:∀ {ns:List Nat} {rs:List Rq},AtR ρ ns rs→LQ ρ (cQ ns) (mz rs)
 | [],[],_=>trivial
 | _::_,_::_,h=>⟨lq h.1.1,lq h.1.2.1,lq h.1.2.2,gS h.2⟩
 | [],_::_,h=>h.elim
 | _::_,[],h=>h.elim
theorem om {ns:List Nat} (hn:ρ[n]? =some (.val (.int .i64 x.tm))) (ha:AtR ρ ns x.rs):LQ ρ (.ref n::cQ ns) x.qs:=⟨lq hn,gS ha⟩
/-- How a track is known. -/
def lT (ρ:Rho) (u:Nat) (T:TypeId) (l:Leaf) (S:List St):Prop:=∀B w g,BInj B→B.v u=some g→nw ρ B w (u,T,[l])→∃sl,TrkS T w g sl S
theorem oV (hm:ρ[m]? =some (.rowB pin sl0 stT S.length (aF S))):lT ρ u T (.ref m) S:=fun _ _ _ _ hg hv=>wu hg hv hm
theorem dp (hm:ρ[m]? =some (.row stT S.length (aF S))):lT ρ u T (.own k m) S:=fun _ _ _ hi hg hv=>by
 obtain⟨sl,h,_⟩:=aay hi hg hv hm
 exact⟨sl,h⟩
theorem dt (hen:∀(vs:Array Value) (w:World),(callFunc f vs).run Tryz.prog w= .ok (.enter f vs) w) (hl:lT ρ u T l S) {r:SV}
  (h:∀B w g sl vs,BOk B w.heap.size→TrkS T w g sl S→ct ρ B w args vs→Calls Tryz.prog f (.pointer (some ⟨g,0,none⟩)::vs).toArray w (fun e w'=>∃v,e= .returned v∧(∀B',BOk B' w.heap.size→(rC xs).holds ρ B' w' v)∧Below w.heap.size w w')):
  (OIns.mk (.mut f ⟨[],[(u,T,[l])],[],none,[],xs⟩) (.one (.ptr u 0)::args) r).Ok Tryz.prog ρ:=fun B w vs hv=>by
 match vs,hv with
 | v0::vs,hv=>
  obtain⟨g,hg,rfl⟩:=hv.1
  refine⟨hen _ _,fun hbok hinj ho hov _ hpre=> ?_⟩
  obtain⟨sl,ht⟩:=hl B w g hinj hg (hpre (u,T,[l]) (List.mem_singleton.2 rfl))
  refine(h B w g sl vs hbok ht hv.2).mono ?_
  rintro e w' ⟨v,rfl,hres,hb⟩
  exact⟨v,B,rfl,hres _ hbok,fun q hq=>(by cases hq),fun q hq=>(by cases hq),fun q hq=>(by cases hq),hb.os,hb.tape,hb.output,fun _ _=>rfl,fun q g hq=>(by cases hq),fun l b hb=>hb,fun l b hb=>.inl hb,fun l b hl _=>(by cases hl),hinj,⟨hb.size,fun b hl _=>hb.block b hl,fun b hX=>by
   rcases hX with⟨l,hl,_⟩ | ⟨q,hq,_⟩
   ·cases hl
   ·cases hq⟩⟩
theorem sgr {k:Nat} (h1:ρ[m]? =some (.row stT S.length (aF S))) (h2:ρ'[n]? =some (.row stT S'.length (aF S'))) (e:S=S'):pD ρ ρ' (n,.own k m):=by subst e;exact sg_own h1 h2
end
end Go.Proofs.YtfhinmdhjlmikaaGreat
