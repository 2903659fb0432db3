/- Which poses are valid, as they come in. Tracks: stamps as they come in; calls of methods that read; appends of stamps; more loops. Tracks: around, At, Around, Span, Len, Drop. Tracks: stamps as they come in, List. Tracks: the reference's Add. Tracks: what a track is, what Add makes of it. -/
import Derived.Test.YtggfmklppkioeaaGreatP12
namespace Go.Proofs.YtggfmklppkioeaaGreat
set_option linter.unusedSimpArgs false
set_option linter.unusedVariables false
set_option maxRecDepth 100000
open Go.RowKit
def wP (r0 r1 r2 r3:Rq):Bool:=(r0.vld && (r1.vld && (r2.vld && r3.vld))) && (Qq.mk ⟨r0.s,r0.p,r0.q⟩ ⟨r1.s,r1.p,r1.q⟩ ⟨r2.s,r2.p,r2.q⟩ ⟨r3.s,r3.p,r3.q⟩).first.same (Fq.ofInt 1)
def eM (r0 r1 r2 r3:Rq):List Fq:=[]
theorem q_partsX (x:Value) (r0 r1 r2 r3:Rq) (w:World) (h:IsL w x [r0,r1,r2,r3]):Calls Tryz.prog 177 #[x] w fun e w'=>RetL w [r0,r1,r2,r3] e w':=by
 refine(cRn (ρ:=frs (eM r0 r1 r2 r3)++ [.val (.bool r0.s),.dig r0.L r0.p,.dig r0.N r0.q,.val (.bool r1.s),.dig r1.L r1.p,.dig r1.N r1.q,.val (.bool r2.s),.dig r2.L r2.p,.dig r2.N r2.q,.val (.bool r3.s),.dig r3.L r3.p,.dig r3.N r3.q]) (args:=[fX [0,3,6,9]]) (vs:=[x]) (r:=.v (fX [0,3,6,9]))
  (ah) ai Tryz.func177 (by kernel_rfl) ⟨(bB (ns:=[0,3,6,9]) (rs:=[r0,r1,r2,r3]) ⟨⟨rfl,rfl,rfl⟩,⟨rfl,rfl,rfl⟩,⟨rfl,rfl,rfl⟩,⟨rfl,rfl,rfl⟩,trivial⟩).2 h,trivial⟩).mono ?_
 rintro e w' ⟨v,rfl,h1,h2⟩;exact⟨v,rfl,(bB (ns:=[0,3,6,9]) (rs:=[r0,r1,r2,r3]) ⟨⟨rfl,rfl,rfl⟩,⟨rfl,rfl,rfl⟩,⟨rfl,rfl,rfl⟩,⟨rfl,rfl,rfl⟩,trivial⟩).1 h1,h2⟩
theorem lL {xs:List Fq} {ys:Rho} {ns:List Nat} {r0 r1 r2 r3:Rq} (hr:AtR (frs xs++ys) ns [r0,r1,r2,r3]):OkI xs ys ⟨177,[fX ns],.v (fX ns)⟩:=
 ⟨az Tryz.func177 rfl rfl,fun B w vs hB h=>by
  match vs,h with
  | [va],h=>
   refine(q_partsX va r0 r1 r2 r3 w ((bB hr).1 h.1)).mono ?_;rintro e w' ⟨v,rfl,h1,h2⟩;exact⟨v,rfl,(bB hr).2 h1,h2⟩⟩
def wQ (r0 r1 r2 r3:Rq):List Fq:=[]
def wR (r0 r1 r2 r3:Rq):List Fq:=[]
def wS (r0 r1 r2 r3:Rq):List Fq:=[]
def wT (r0 r1 r2 r3:Rq):List Fq:=[]
theorem aaa (x:Value) (r0 r1 r2 r3:Rq) (w:World) (h:IsL w x [r0,r1,r2,r3]) (lr0:r0.L≤1000000) (nr0:r0.N≤1000000) (lr1:r1.L≤1000000) (nr1:r1.N≤1000000) (lr2:r2.L≤1000000) (nr2:r2.N≤1000000) (lr3:r3.L≤1000000) (nr3:r3.N≤1000000) (hne:(r0.vld && (r1.vld && (r2.vld && r3.vld)))=false):Calls Tryz.prog 181 #[x] w fun e w'=>cI w (.bool false) e w':=by
 rcases Bool.eq_false_or_eq_true (r0.vld)with c0 | c0
 ·rcases Bool.eq_false_or_eq_true (r1.vld)with c1 | c1
  ·rcases Bool.eq_false_or_eq_true (r2.vld)with c2 | c2
   ·rcases Bool.eq_false_or_eq_true (r3.vld)with c3 | c3
    ·exact absurd hne (by rw[c0,c1,c2,c3];decide)
    ·refine(cRn (ρ:=frs (wQ r0 r1 r2 r3)++ [.val (.bool r0.s),.dig r0.L r0.p,.dig r0.N r0.q,.val (.bool r1.s),.dig r1.L r1.p,.dig r1.N r1.q,.val (.bool r2.s),.dig r2.L r2.p,.dig r2.N r2.q,.val (.bool r3.s),.dig r3.L r3.p,.dig r3.N r3.q]) (args:=[fX [0,3,6,9]]) (vs:=[x]) (r:=.v (.one (.b false)))
      (ae (lL (ns:=[0,3,6,9]) ⟨⟨rfl,rfl,rfl⟩,⟨rfl,rfl,rfl⟩,⟨rfl,rfl,rfl⟩,⟨rfl,rfl,rfl⟩,trivial⟩) (ae (bh (n:=0) (r:=r0) (d:=true) ⟨⟨rfl,rfl,rfl⟩,trivial⟩ c0 lr0 nr0) (ae (bh (n:=3) (r:=r1) (d:=true) ⟨⟨rfl,rfl,rfl⟩,trivial⟩ c1 lr1 nr1) (ae (bh (n:=6) (r:=r2) (d:=true) ⟨⟨rfl,rfl,rfl⟩,trivial⟩ c2 lr2 nr2) (ae (bh (n:=9) (r:=r3) (d:=false) ⟨⟨rfl,rfl,rfl⟩,trivial⟩ c3 lr3 nr3) (ah)))))) ai Tryz.func181 (by kernel_rfl) ⟨(bB (ns:=[0,3,6,9]) (rs:=[r0,r1,r2,r3]) ⟨⟨rfl,rfl,rfl⟩,⟨rfl,rfl,rfl⟩,⟨rfl,rfl,rfl⟩,⟨rfl,rfl,rfl⟩,trivial⟩).2 h,trivial⟩).mono ?_
     rintro e w' ⟨v,rfl,h1,h2⟩;exact⟨congrArg Ending.returned h1,h2⟩
   ·refine(cRn (ρ:=frs (wR r0 r1 r2 r3)++ [.val (.bool r0.s),.dig r0.L r0.p,.dig r0.N r0.q,.val (.bool r1.s),.dig r1.L r1.p,.dig r1.N r1.q,.val (.bool r2.s),.dig r2.L r2.p,.dig r2.N r2.q,.val (.bool r3.s),.dig r3.L r3.p,.dig r3.N r3.q]) (args:=[fX [0,3,6,9]]) (vs:=[x]) (r:=.v (.one (.b false)))
     (ae (lL (ns:=[0,3,6,9]) ⟨⟨rfl,rfl,rfl⟩,⟨rfl,rfl,rfl⟩,⟨rfl,rfl,rfl⟩,⟨rfl,rfl,rfl⟩,trivial⟩) (ae (bh (n:=0) (r:=r0) (d:=true) ⟨⟨rfl,rfl,rfl⟩,trivial⟩ c0 lr0 nr0) (ae (bh (n:=3) (r:=r1) (d:=true) ⟨⟨rfl,rfl,rfl⟩,trivial⟩ c1 lr1 nr1) (ae (bh (n:=6) (r:=r2) (d:=false) ⟨⟨rfl,rfl,rfl⟩,trivial⟩ c2 lr2 nr2) (ah))))) ai Tryz.func181 (by kernel_rfl) ⟨(bB (ns:=[0,3,6,9]) (rs:=[r0,r1,r2,r3]) ⟨⟨rfl,rfl,rfl⟩,⟨rfl,rfl,rfl⟩,⟨rfl,rfl,rfl⟩,⟨rfl,rfl,rfl⟩,trivial⟩).2 h,trivial⟩).mono ?_
    rintro e w' ⟨v,rfl,h1,h2⟩;exact⟨congrArg Ending.returned h1,h2⟩
  ·refine(cRn (ρ:=frs (wS r0 r1 r2 r3)++ [.val (.bool r0.s),.dig r0.L r0.p,.dig r0.N r0.q,.val (.bool r1.s),.dig r1.L r1.p,.dig r1.N r1.q,.val (.bool r2.s),.dig r2.L r2.p,.dig r2.N r2.q,.val (.bool r3.s),.dig r3.L r3.p,.dig r3.N r3.q]) (args:=[fX [0,3,6,9]]) (vs:=[x]) (r:=.v (.one (.b false)))
    (ae (lL (ns:=[0,3,6,9]) ⟨⟨rfl,rfl,rfl⟩,⟨rfl,rfl,rfl⟩,⟨rfl,rfl,rfl⟩,⟨rfl,rfl,rfl⟩,trivial⟩) (ae (bh (n:=0) (r:=r0) (d:=true) ⟨⟨rfl,rfl,rfl⟩,trivial⟩ c0 lr0 nr0) (ae (bh (n:=3) (r:=r1) (d:=false) ⟨⟨rfl,rfl,rfl⟩,trivial⟩ c1 lr1 nr1) (ah)))) ai Tryz.func181 (by kernel_rfl) ⟨(bB (ns:=[0,3,6,9]) (rs:=[r0,r1,r2,r3]) ⟨⟨rfl,rfl,rfl⟩,⟨rfl,rfl,rfl⟩,⟨rfl,rfl,rfl⟩,⟨rfl,rfl,rfl⟩,trivial⟩).2 h,trivial⟩).mono ?_
   rintro e w' ⟨v,rfl,h1,h2⟩;exact⟨congrArg Ending.returned h1,h2⟩
 ·refine(cRn (ρ:=frs (wT r0 r1 r2 r3)++ [.val (.bool r0.s),.dig r0.L r0.p,.dig r0.N r0.q,.val (.bool r1.s),.dig r1.L r1.p,.dig r1.N r1.q,.val (.bool r2.s),.dig r2.L r2.p,.dig r2.N r2.q,.val (.bool r3.s),.dig r3.L r3.p,.dig r3.N r3.q]) (args:=[fX [0,3,6,9]]) (vs:=[x]) (r:=.v (.one (.b false)))
   (ae (lL (ns:=[0,3,6,9]) ⟨⟨rfl,rfl,rfl⟩,⟨rfl,rfl,rfl⟩,⟨rfl,rfl,rfl⟩,⟨rfl,rfl,rfl⟩,trivial⟩) (ae (bh (n:=0) (r:=r0) (d:=false) ⟨⟨rfl,rfl,rfl⟩,trivial⟩ c0 lr0 nr0) (ah))) ai Tryz.func181 (by kernel_rfl) ⟨(bB (ns:=[0,3,6,9]) (rs:=[r0,r1,r2,r3]) ⟨⟨rfl,rfl,rfl⟩,⟨rfl,rfl,rfl⟩,⟨rfl,rfl,rfl⟩,⟨rfl,rfl,rfl⟩,trivial⟩).2 h,trivial⟩).mono ?_
  rintro e w' ⟨v,rfl,h1,h2⟩;exact⟨congrArg Ending.returned h1,h2⟩
theorem aab (vq:Value) (q:Qq) (w:World) (iq:fC w vq q) (hq:q.ok 1000000) (gc:q.comp):Calls Tryz.prog 181 #[vq] w fun e w'=>cI w (.bool (q.first.same (Fq.ofInt 1))) e w':=by
 by_cases h:q.first=Fq.ofInt 1
 ·rw[Fq.same_iff.2 h];exact o6 vq q w iq hq (yn gc h)
 ·rw[same_ne h];exact wB vq q w iq hq gc h
theorem wU (x:Value) (r0 r1 r2 r3:Rq) (w:World) (h:IsL w x [r0,r1,r2,r3]) (lr0:r0.L≤1000000) (nr0:r0.N≤1000000) (lr1:r1.L≤1000000) (nr1:r1.N≤1000000) (lr2:r2.L≤1000000) (nr2:r2.N≤1000000) (lr3:r3.L≤1000000) (nr3:r3.N≤1000000):Calls Tryz.prog 181 #[x] w fun e w'=>cI w (.bool (wP r0 r1 r2 r3)) e w':=by
 rcases Bool.eq_false_or_eq_true (r0.vld && (r1.vld && (r2.vld && r3.vld)))with hv | hv
 ·unfold wP;rw[hv,Bool.true_and];simp only[Bool.and_eq_true]at hv;obtain⟨h0,h1,h2,h3⟩:=hv;have k0:=sL h0;have k1:=sL h1;have k2:=sL h2;have k3:=sL h3;have m0:=dL h0;have m1:=dL h1;have m2:=dL h2;have m3:=dL h3;refine aab x (Qq.mk ⟨r0.s,r0.p,r0.q⟩ ⟨r1.s,r1.p,r1.q⟩ ⟨r2.s,r2.p,r2.q⟩ ⟨r3.s,r3.p,r3.q⟩) w (by have h':=h;rw[m0.1,m1.1,m2.1,m3.1]at h';exact h') ⟨⟨?_,?_,Fq.valid.n m0.2⟩,⟨?_,?_,Fq.valid.n m1.2⟩,⟨?_,?_,Fq.valid.n m2.2⟩,⟨?_,?_,Fq.valid.n m3.2⟩⟩ ⟨m0.2,m1.2,m2.2,m3.2⟩
  ·show nl r0.p≤_;omega
  ·show nl r0.q≤_;omega
  ·show nl r1.p≤_;omega
  ·show nl r1.q≤_;omega
  ·show nl r2.p≤_;omega
  ·show nl r2.q≤_;omega
  ·show nl r3.p≤_;omega
  ·show nl r3.q≤_;omega
 ·unfold wP;rw[hv,Bool.false_and];exact aaa x r0 r1 r2 r3 w h lr0 nr0 lr1 nr1 lr2 nr2 lr3 nr3 hv
def sM (r0 r1 r2:Rq):Bool:=r0.vld && (r1.vld && r2.vld)
def pk (r0 r1 r2 r3 r4 r5 r6:Rq):Bool:=wP r0 r1 r2 r3 && sM r4 r5 r6
def wV (r0 r1 r2:Rq):List Fq:=[]
def wW (r0 r1 r2:Rq):List Fq:=[]
def wX (r0 r1 r2:Rq):List Fq:=[]
def wY (r0 r1 r2:Rq):List Fq:=[]
theorem aac (x:Value) (r0 r1 r2:Rq) (w:World) (h:IsL w x [r0,r1,r2]) (lr0:r0.L≤1000000) (nr0:r0.N≤1000000) (lr1:r1.L≤1000000) (nr1:r1.N≤1000000) (lr2:r2.L≤1000000) (nr2:r2.N≤1000000):Calls Tryz.prog 182 #[x] w fun e w'=>cI w (.bool (sM r0 r1 r2)) e w':=by
 rcases Bool.eq_false_or_eq_true (r0.vld)with c0 | c0
 ·rcases Bool.eq_false_or_eq_true (r1.vld)with c1 | c1
  ·rcases Bool.eq_false_or_eq_true (r2.vld)with c2 | c2
   ·refine(cRn (ρ:=frs (wV r0 r1 r2)++ [.val (.bool r0.s),.dig r0.L r0.p,.dig r0.N r0.q,.val (.bool r1.s),.dig r1.L r1.p,.dig r1.N r1.q,.val (.bool r2.s),.dig r2.L r2.p,.dig r2.N r2.q]) (args:=[fX [0,3,6]]) (vs:=[x]) (r:=.v (.one (.b true)))
     (ae (bh (n:=0) (r:=r0) (d:=true) ⟨⟨rfl,rfl,rfl⟩,trivial⟩ c0 lr0 nr0) (ae (bh (n:=3) (r:=r1) (d:=true) ⟨⟨rfl,rfl,rfl⟩,trivial⟩ c1 lr1 nr1) (ae (bh (n:=6) (r:=r2) (d:=true) ⟨⟨rfl,rfl,rfl⟩,trivial⟩ c2 lr2 nr2) ah)))
     ai Tryz.func182 (by kernel_rfl) ⟨(bB (ns:=[0,3,6]) (rs:=[r0,r1,r2]) ⟨⟨rfl,rfl,rfl⟩,⟨rfl,rfl,rfl⟩,⟨rfl,rfl,rfl⟩,trivial⟩).2 h,trivial⟩).mono ?_
    rintro e w' ⟨v,rfl,h1,h2⟩;have h1:v= .bool _:=h1;subst h1;exact⟨by simp[sM,c0,c1,c2],h2⟩
   ·refine(cRn (ρ:=frs (wW r0 r1 r2)++ [.val (.bool r0.s),.dig r0.L r0.p,.dig r0.N r0.q,.val (.bool r1.s),.dig r1.L r1.p,.dig r1.N r1.q,.val (.bool r2.s),.dig r2.L r2.p,.dig r2.N r2.q]) (args:=[fX [0,3,6]]) (vs:=[x]) (r:=.v (.one (.b false)))
     (ae (bh (n:=0) (r:=r0) (d:=true) ⟨⟨rfl,rfl,rfl⟩,trivial⟩ c0 lr0 nr0) (ae (bh (n:=3) (r:=r1) (d:=true) ⟨⟨rfl,rfl,rfl⟩,trivial⟩ c1 lr1 nr1) (ae (bh (n:=6) (r:=r2) (d:=false) ⟨⟨rfl,rfl,rfl⟩,trivial⟩ c2 lr2 nr2) ah)))
     ai Tryz.func182 (by kernel_rfl) ⟨(bB (ns:=[0,3,6]) (rs:=[r0,r1,r2]) ⟨⟨rfl,rfl,rfl⟩,⟨rfl,rfl,rfl⟩,⟨rfl,rfl,rfl⟩,trivial⟩).2 h,trivial⟩).mono ?_
    rintro e w' ⟨v,rfl,h1,h2⟩;have h1:v= .bool _:=h1;subst h1;exact⟨by simp[sM,c0,c1,c2],h2⟩
  ·refine(cRn (ρ:=frs (wX r0 r1 r2)++ [.val (.bool r0.s),.dig r0.L r0.p,.dig r0.N r0.q,.val (.bool r1.s),.dig r1.L r1.p,.dig r1.N r1.q,.val (.bool r2.s),.dig r2.L r2.p,.dig r2.N r2.q]) (args:=[fX [0,3,6]]) (vs:=[x]) (r:=.v (.one (.b false)))
    (ae (bh (n:=0) (r:=r0) (d:=true) ⟨⟨rfl,rfl,rfl⟩,trivial⟩ c0 lr0 nr0) (ae (bh (n:=3) (r:=r1) (d:=false) ⟨⟨rfl,rfl,rfl⟩,trivial⟩ c1 lr1 nr1) ah))
    ai Tryz.func182 (by kernel_rfl) ⟨(bB (ns:=[0,3,6]) (rs:=[r0,r1,r2]) ⟨⟨rfl,rfl,rfl⟩,⟨rfl,rfl,rfl⟩,⟨rfl,rfl,rfl⟩,trivial⟩).2 h,trivial⟩).mono ?_
   rintro e w' ⟨v,rfl,h1,h2⟩;have h1:v= .bool _:=h1;subst h1;exact⟨by simp[sM,c0,c1],h2⟩
 ·refine(cRn (ρ:=frs (wY r0 r1 r2)++ [.val (.bool r0.s),.dig r0.L r0.p,.dig r0.N r0.q,.val (.bool r1.s),.dig r1.L r1.p,.dig r1.N r1.q,.val (.bool r2.s),.dig r2.L r2.p,.dig r2.N r2.q]) (args:=[fX [0,3,6]]) (vs:=[x]) (r:=.v (.one (.b false)))
   (ae (bh (n:=0) (r:=r0) (d:=false) ⟨⟨rfl,rfl,rfl⟩,trivial⟩ c0 lr0 nr0) ah)
   ai Tryz.func182 (by kernel_rfl) ⟨(bB (ns:=[0,3,6]) (rs:=[r0,r1,r2]) ⟨⟨rfl,rfl,rfl⟩,⟨rfl,rfl,rfl⟩,⟨rfl,rfl,rfl⟩,trivial⟩).2 h,trivial⟩).mono ?_
  rintro e w' ⟨v,rfl,h1,h2⟩;have h1:v= .bool _:=h1;subst h1;exact⟨by simp[sM,c0],h2⟩
theorem rj {xs:List Fq} {ys:Rho} {ns:List Nat} {r0 r1 r2:Rq} {d:Bool} (hr:AtR (frs xs++ys) ns [r0,r1,r2]) (hd:sM r0 r1 r2=d) (lr0:r0.L≤1000000) (nr0:r0.N≤1000000) (lr1:r1.L≤1000000) (nr1:r1.N≤1000000) (lr2:r2.L≤1000000) (nr2:r2.N≤1000000):OkI xs ys ⟨182,[fX ns],.v (.one (.b d))⟩:=
 ⟨az Tryz.func182 rfl rfl,fun B w vs hB h=>by
  match vs,h with
  | [x],h=>
   refine(aac x r0 r1 r2 w ((bB hr).1 h.1) lr0 nr0 lr1 nr1 lr2 nr2).mono ?_;rintro e w' ⟨rfl,h2⟩;exact⟨_,rfl,by subst hd;rfl,h2⟩⟩
theorem ke {xs:List Fq} {ys:Rho} {ns:List Nat} {r0 r1 r2 r3:Rq} {d:Bool} (hr:AtR (frs xs++ys) ns [r0,r1,r2,r3]) (hd:wP r0 r1 r2 r3=d) (lr0:r0.L≤1000000) (nr0:r0.N≤1000000) (lr1:r1.L≤1000000) (nr1:r1.N≤1000000) (lr2:r2.L≤1000000) (nr2:r2.N≤1000000) (lr3:r3.L≤1000000) (nr3:r3.N≤1000000):OkI xs ys ⟨181,[fX ns],.v (.one (.b d))⟩:=
 ⟨az Tryz.func181 rfl rfl,fun B w vs hB h=>by
  match vs,h with
  | [va],h=>
   refine(wU va r0 r1 r2 r3 w ((bB hr).1 h.1) lr0 nr0 lr1 nr1 lr2 nr2 lr3 nr3).mono ?_;rintro e w' ⟨rfl,h2⟩;exact⟨_,rfl,by subst hd;rfl,h2⟩⟩
def uD (r0 r1 r2 r3 r4 r5 r6:Rq):List Fq:=[]
def uE (r0 r1 r2 r3 r4 r5 r6:Rq):List Fq:=[]
def uF (r0 r1 r2 r3 r4 r5 r6:Rq):List Fq:=[]
theorem kf (x:Value) (r0 r1 r2 r3 r4 r5 r6:Rq) (w:World) (h:IsL w x [r0,r1,r2,r3,r4,r5,r6]) (lr0:r0.L≤1000000) (nr0:r0.N≤1000000) (lr1:r1.L≤1000000) (nr1:r1.N≤1000000) (lr2:r2.L≤1000000) (nr2:r2.N≤1000000) (lr3:r3.L≤1000000) (nr3:r3.N≤1000000) (lr4:r4.L≤1000000) (nr4:r4.N≤1000000) (lr5:r5.L≤1000000) (nr5:r5.N≤1000000) (lr6:r6.L≤1000000) (nr6:r6.N≤1000000):Calls Tryz.prog 122 #[x] w fun e w'=>cI w (.bool (pk r0 r1 r2 r3 r4 r5 r6)) e w':=by
 rcases Bool.eq_false_or_eq_true (wP r0 r1 r2 r3)with c0 | c0
 ·rcases Bool.eq_false_or_eq_true (sM r4 r5 r6)with c1 | c1
  ·refine(cRn (ρ:=frs (uD r0 r1 r2 r3 r4 r5 r6)++ [.val (.bool r0.s),.dig r0.L r0.p,.dig r0.N r0.q,.val (.bool r1.s),.dig r1.L r1.p,.dig r1.N r1.q,.val (.bool r2.s),.dig r2.L r2.p,.dig r2.N r2.q,.val (.bool r3.s),.dig r3.L r3.p,.dig r3.N r3.q,.val (.bool r4.s),.dig r4.L r4.p,.dig r4.N r4.q,.val (.bool r5.s),.dig r5.L r5.p,.dig r5.N r5.q,.val (.bool r6.s),.dig r6.L r6.p,.dig r6.N r6.q]) (args:=[fX [0,3,6,9,12,15,18]]) (vs:=[x]) (r:=.v (.one (.b true)))
    (ae (ke (ns:=[0,3,6,9]) (d:=true) ⟨⟨rfl,rfl,rfl⟩,⟨rfl,rfl,rfl⟩,⟨rfl,rfl,rfl⟩,⟨rfl,rfl,rfl⟩,trivial⟩ c0 lr0 nr0 lr1 nr1 lr2 nr2 lr3 nr3) (ae (rj (ns:=[12,15,18]) (d:=true) ⟨⟨rfl,rfl,rfl⟩,⟨rfl,rfl,rfl⟩,⟨rfl,rfl,rfl⟩,trivial⟩ c1 lr4 nr4 lr5 nr5 lr6 nr6) ah))
    ai Tryz.func122 (by kernel_rfl) ⟨(bB (ns:=[0,3,6,9,12,15,18]) (rs:=[r0,r1,r2,r3,r4,r5,r6]) ⟨⟨rfl,rfl,rfl⟩,⟨rfl,rfl,rfl⟩,⟨rfl,rfl,rfl⟩,⟨rfl,rfl,rfl⟩,⟨rfl,rfl,rfl⟩,⟨rfl,rfl,rfl⟩,⟨rfl,rfl,rfl⟩,trivial⟩).2 h,trivial⟩).mono ?_
   rintro e w' ⟨v,rfl,h1,h2⟩;have h1:v= .bool _:=h1;subst h1;exact⟨by simp[pk,c0,c1],h2⟩
  ·refine(cRn (ρ:=frs (uE r0 r1 r2 r3 r4 r5 r6)++ [.val (.bool r0.s),.dig r0.L r0.p,.dig r0.N r0.q,.val (.bool r1.s),.dig r1.L r1.p,.dig r1.N r1.q,.val (.bool r2.s),.dig r2.L r2.p,.dig r2.N r2.q,.val (.bool r3.s),.dig r3.L r3.p,.dig r3.N r3.q,.val (.bool r4.s),.dig r4.L r4.p,.dig r4.N r4.q,.val (.bool r5.s),.dig r5.L r5.p,.dig r5.N r5.q,.val (.bool r6.s),.dig r6.L r6.p,.dig r6.N r6.q]) (args:=[fX [0,3,6,9,12,15,18]]) (vs:=[x]) (r:=.v (.one (.b false)))
    (ae (ke (ns:=[0,3,6,9]) (d:=true) ⟨⟨rfl,rfl,rfl⟩,⟨rfl,rfl,rfl⟩,⟨rfl,rfl,rfl⟩,⟨rfl,rfl,rfl⟩,trivial⟩ c0 lr0 nr0 lr1 nr1 lr2 nr2 lr3 nr3) (ae (rj (ns:=[12,15,18]) (d:=false) ⟨⟨rfl,rfl,rfl⟩,⟨rfl,rfl,rfl⟩,⟨rfl,rfl,rfl⟩,trivial⟩ c1 lr4 nr4 lr5 nr5 lr6 nr6) ah))
    ai Tryz.func122 (by kernel_rfl) ⟨(bB (ns:=[0,3,6,9,12,15,18]) (rs:=[r0,r1,r2,r3,r4,r5,r6]) ⟨⟨rfl,rfl,rfl⟩,⟨rfl,rfl,rfl⟩,⟨rfl,rfl,rfl⟩,⟨rfl,rfl,rfl⟩,⟨rfl,rfl,rfl⟩,⟨rfl,rfl,rfl⟩,⟨rfl,rfl,rfl⟩,trivial⟩).2 h,trivial⟩).mono ?_
   rintro e w' ⟨v,rfl,h1,h2⟩;have h1:v= .bool _:=h1;subst h1;exact⟨by simp[pk,c0,c1],h2⟩
 ·refine(cRn (ρ:=frs (uF r0 r1 r2 r3 r4 r5 r6)++ [.val (.bool r0.s),.dig r0.L r0.p,.dig r0.N r0.q,.val (.bool r1.s),.dig r1.L r1.p,.dig r1.N r1.q,.val (.bool r2.s),.dig r2.L r2.p,.dig r2.N r2.q,.val (.bool r3.s),.dig r3.L r3.p,.dig r3.N r3.q,.val (.bool r4.s),.dig r4.L r4.p,.dig r4.N r4.q,.val (.bool r5.s),.dig r5.L r5.p,.dig r5.N r5.q,.val (.bool r6.s),.dig r6.L r6.p,.dig r6.N r6.q]) (args:=[fX [0,3,6,9,12,15,18]]) (vs:=[x]) (r:=.v (.one (.b false)))
   (ae (ke (ns:=[0,3,6,9]) (d:=false) ⟨⟨rfl,rfl,rfl⟩,⟨rfl,rfl,rfl⟩,⟨rfl,rfl,rfl⟩,⟨rfl,rfl,rfl⟩,trivial⟩ c0 lr0 nr0 lr1 nr1 lr2 nr2 lr3 nr3) ah)
   ai Tryz.func122 (by kernel_rfl) ⟨(bB (ns:=[0,3,6,9,12,15,18]) (rs:=[r0,r1,r2,r3,r4,r5,r6]) ⟨⟨rfl,rfl,rfl⟩,⟨rfl,rfl,rfl⟩,⟨rfl,rfl,rfl⟩,⟨rfl,rfl,rfl⟩,⟨rfl,rfl,rfl⟩,⟨rfl,rfl,rfl⟩,⟨rfl,rfl,rfl⟩,trivial⟩).2 h,trivial⟩).mono ?_
  rintro e w' ⟨v,rfl,h1,h2⟩;have h1:v= .bool _:=h1;subst h1;exact⟨by simp[pk,c0],h2⟩
theorem wZ {xs:List Fq} {ys:Rho} {ns:List Nat} {r0 r1 r2 r3 r4 r5 r6:Rq} {d:Bool} (hr:AtR (frs xs++ys) ns [r0,r1,r2,r3,r4,r5,r6]) (hd:pk r0 r1 r2 r3 r4 r5 r6=d) (lr0:r0.L≤1000000) (nr0:r0.N≤1000000) (lr1:r1.L≤1000000) (nr1:r1.N≤1000000) (lr2:r2.L≤1000000) (nr2:r2.N≤1000000) (lr3:r3.L≤1000000) (nr3:r3.N≤1000000) (lr4:r4.L≤1000000) (nr4:r4.N≤1000000) (lr5:r5.L≤1000000) (nr5:r5.N≤1000000) (lr6:r6.L≤1000000) (nr6:r6.N≤1000000):OkI xs ys ⟨122,[fX ns],.v (.one (.b d))⟩:=
 ⟨az Tryz.func122 rfl rfl,fun B w vs hB h=>by
  match vs,h with
  | [x],h=>
   refine(kf x r0 r1 r2 r3 r4 r5 r6 w ((bB hr).1 h.1) lr0 nr0 lr1 nr1 lr2 nr2 lr3 nr3 lr4 nr4 lr5 nr5 lr6 nr6).mono ?_;rintro e w' ⟨rfl,h2⟩;exact⟨_,rfl,by subst hd;rfl,h2⟩⟩
structure RSt where
 tm:Int
 r0:Rq
 r1:Rq
 r2:Rq
 r3:Rq
 r4:Rq
 r5:Rq
 r6:Rq
def RSt.rs (x:RSt):List Rq:=[x.r0,x.r1,x.r2,x.r3,x.r4,x.r5,x.r6]
def uG (l:List Rq):List Vp:=l.flatMap fun r=>[.val (.bool r.s),.dig r.L r.p,.dig r.N r.q]
def RSt.qs (x:RSt):List Vp:=.val (.int .i64 x.tm)::uG x.rs
def St.raw (s:St):RSt:=⟨s.tm,s.pose.rot.w.raw,s.pose.rot.x.raw,s.pose.rot.y.raw,s.pose.rot.z.raw,s.pose.pos.x.raw,s.pose.pos.y.raw,s.pose.pos.z.raw⟩
def IsRS (w:World) (v:Value) (x:RSt):Prop:=∃cs:List Value,v= .agg (.int .i64 x.tm::cs).toArray∧aM w x.rs cs
theorem isRS_raw {w:World} {v:Value} {s:St}:IsRS w v s.raw↔gA w v s:=Iff.rfl
section
variable {ρ ρ':Rho} {n m k r j u N:Nat} {a:Int} {T:TypeId} {B:Blk} {w:World} {S S':List St} {f:FuncId} {args xs:List SV} {l la:Leaf} {sl0:Value} {pin:Bool} {x:RSt} {v:Value} {t:TypeId}
theorem xa {ns:List Nat} (hn:ρ[n]? =some (.val (.int .i64 x.tm))) (ha:AtR ρ ns x.rs):(SV.agg (.ref n::fW ns)).holds ρ B w v↔IsRS w v x:=by
 constructor
 ·rintro⟨vs,rfl,h⟩
  match vs,h with
  | v0::vs,h=>
   have:=aO hn h.1;subst this;exact⟨vs,rfl,(fw ha).1 h.2⟩
 ·rintro⟨cs,rfl,h⟩;exact⟨.int .i64 x.tm::cs,rfl,aB hn aH,(fw ha).2 h⟩
theorem yv:∀ {ns:List Nat} {rs:List Rq},AtR ρ ns rs→LQ ρ (fW ns) (uG rs)
 | [],[],_=>trivial
 | _::_,_::_,h=>⟨lq h.1.1,lq h.1.2.1,lq h.1.2.2,yv h.2⟩
 | [],_::_,h=>h.elim
 | _::_,[],h=>h.elim
theorem yw {ns:List Nat} (hn:ρ[n]? =some (.val (.int .i64 x.tm))) (ha:AtR ρ ns x.rs):LQ ρ (.ref n::fW ns) x.qs:=⟨lq hn,yv ha⟩
def xb (ρ:Rho) (u:Nat) (T:TypeId) (l:Leaf) (S:List St):Prop:=∀B w g,BInj B→B.v u=some g→ol ρ B w (u,T,[l])→∃sl,TrkS T w g sl S
theorem tl_b (hm:ρ[m]? =some (.rowB pin sl0 stT S.length (aF S))):xb ρ u T (.ref m) S:=fun _ _ _ _ hg hv=>yt hg hv hm
theorem gB (hen:∀(vs:Array Value) (w:World),(callFunc f vs).run Tryz.prog w= .ok (.enter f vs) w) (hl:xb ρ u T l S) {r:SV}
  (h:∀B w g sl vs,BOk B w.heap.size→TrkS T w g sl S→bW ρ B w args vs→Calls Tryz.prog f (.pointer (some ⟨g,0,none⟩)::vs).toArray w (fun e w'=>∃v,e= .returned v∧(∀B',BOk B' w.heap.size→(zh xs).holds ρ B' w' v)∧Below w.heap.size w w')):
  (OIns.mk (.mut f ⟨[],[(u,T,[l])],[],none,[],xs⟩) (.one (.ptr u 0)::args) r).Ok Tryz.prog ρ:=fun B w vs hv=>by
 match vs,hv with
 | v0::vs,hv=>
  obtain⟨g,hg,rfl⟩:=hv.1;refine⟨hen _ _,fun hbok hinj ho hov _ hpre=> ?_⟩;obtain⟨sl,ht⟩:=hl B w g hinj hg (hpre (u,T,[l]) (List.mem_singleton.2 rfl));refine(h B w g sl vs hbok ht hv.2).mono ?_;rintro e w' ⟨v,rfl,hres,hb⟩;exact⟨v,B,rfl,hres _ hbok,fun q hq=>(by cases hq),fun q hq=>(by cases hq),fun q hq=>(by cases hq),hb.os,hb.tape,hb.output,fun _ _=>rfl,fun q g hq=>(by cases hq),fun l b hb=>hb,fun l b hb=>.inl hb,fun l b hl _=>(by cases hl),hinj,⟨hb.size,fun b hl _=>hb.block b hl,fun b hX=>by
   rcases hX with⟨l,hl,_⟩ | ⟨q,hq,_⟩
   ·cases hl
   ·cases hq⟩⟩
end
def uH (S:List St) (a:Int):List Fq:=[]
theorem q_aroundE {w:World} {g:Nat} {sl:Value} (S:List St) (a:Int) (h:TrkS 223 w g sl S) (hS:S.length≤64) (hS0:S.length=0):
  Calls Tryz.prog 164 (.pointer (some ⟨g,0,none⟩)::[.int .i64 a]).toArray w fun e w'=>e= .returned (.tuple #[.int .i64 0,.int .i64 0,.int .i64 6])∧Below w.heap.size w w':=by
 refine(aP (ρ:=frs (uH S a)++([.rowB true sl stT S.length (aF S),.val (.int .i64 a),.val (.int .i64 (S.length:Int))]:List Vp)) (w:=w) (fuel:=300) (m:=0) (S':=S) (args:=[.one (.ptr 0 0),.one (.ref 1)]) (vs:=[.pointer (some ⟨g,0,none⟩),.int .i64 a]) (r:=.tup [.one (.i .i64 0),.one (.i .i64 0),.one (.i .i64 6)]) (l:=.ref 0) (lo:=[]) (obs:=[]) h
  (ah)
  (af (bR (y:=0) (o:=0) (t:=154) ⟨_,Tryz.underlying154⟩) (af (ft 0 2 rfl rfl) (af (aE (t:=3) (aw (n:=2) rfl) (aS (c:=0)) (iP (by omega))) (ai)))) Tryz.func164 rfl (by kernel_rfl) aT ⟨dy,⟨aB (n:=1) rfl aH,trivial⟩⟩ (eL rfl)).mono ?_
 rintro e w' ⟨v,B',rfl,⟨vs,rfl,h1⟩,h2,h3⟩
 match vs,h1 with
 | [x1,x2,x3],h1=>
  have ex1:x1= .int .i64 0:=h1.1;subst ex1;have ex2:x2= .int .i64 0:=h1.2.1;subst ex2;have ex3:x3= .int .i64 6:=h1.2.2.1;subst ex3;exact⟨rfl,h3 rfl⟩
def sN (S:List St) (a:Int) (f:St):List Fq:=[]
theorem xc {w:World} {g:Nat} {sl:Value} (S:List St) (a:Int) (h:TrkS 223 w g sl S) (hS:S.length≤64) (f:St) (hf:S[0]? =some f) (hn:0<S.length) (ha:a<f.tm):
  Calls Tryz.prog 164 (.pointer (some ⟨g,0,none⟩)::[.int .i64 a]).toArray w fun e w'=>e= .returned (.tuple #[.int .i64 0,.int .i64 0,.int .i64 17])∧Below w.heap.size w w':=by
 refine(aP (ρ:=frs (sN S a f)++([.rowB true sl stT S.length (aF S),.val (.int .i64 a),.val (.int .i64 (S.length:Int)),.plc stT f.qs,.val (.int .i64 f.tm)]:List Vp)) (w:=w) (fuel:=300) (m:=0) (S':=S) (args:=[.one (.ptr 0 0),.one (.ref 1)]) (vs:=[.pointer (some ⟨g,0,none⟩),.int .i64 a]) (r:=.tup [.one (.i .i64 0),.one (.i .i64 0),.one (.i .i64 17)]) (l:=.ref 0) (lo:=[]) (obs:=[]) h
  (ah)
  (af (bR (y:=0) (o:=0) (t:=154) ⟨_,Tryz.underlying154⟩) (af (ft 0 2 rfl rfl) (af (aE (t:=3) (aw (n:=2) rfl) (aS (c:=0)) (bX (by omega))) (af (iaB (n:=0) (m:=3) rfl rfl (cm (aS (c:=0)) (by omega)) hf) (af (fa0 f 3 rfl) (af (ldt f 3 4 rfl rfl) (af (aE (t:=3) (aw (n:=1) rfl) (aw (n:=4) rfl) (bp (by omega))) (ai)))))))) Tryz.func164 rfl (by kernel_rfl) aT ⟨dy,⟨aB (n:=1) rfl aH,trivial⟩⟩ (eL rfl)).mono ?_
 rintro e w' ⟨v,B',rfl,⟨vs,rfl,h1⟩,h2,h3⟩
 match vs,h1 with
 | [x1,x2,x3],h1=>
  have ex1:x1= .int .i64 0:=h1.1;subst ex1;have ex2:x2= .int .i64 0:=h1.2.1;subst ex2;have ex3:x3= .int .i64 17:=h1.2.2.1;subst ex3;exact⟨rfl,h3 rfl⟩
def sO (S:List St) (a:Int) (f:St) (l:St):List Fq:=[]
theorem xd {w:World} {g:Nat} {sl:Value} (S:List St) (a:Int) (h:TrkS 223 w g sl S) (hS:S.length≤64) (f:St) (hf:S[0]? =some f) (hb:f.tm≤a) (l:St) (hl:S[S.length - 1]? =some l) (hn:0<S.length) (ha:l.tm<a):
  Calls Tryz.prog 164 (.pointer (some ⟨g,0,none⟩)::[.int .i64 a]).toArray w fun e w'=>e= .returned (.tuple #[.int .i64 0,.int .i64 0,.int .i64 17])∧Below w.heap.size w w':=by
 refine(aP (ρ:=frs (sO S a f l)++([.rowB true sl stT S.length (aF S),.val (.int .i64 a),.val (.int .i64 (S.length:Int)),.plc stT f.qs,.val (.int .i64 f.tm),.val (.int .i64 ((S.length:Int) - 1)),.plc stT l.qs,.val (.int .i64 l.tm)]:List Vp)) (w:=w) (fuel:=300) (m:=0) (S':=S) (args:=[.one (.ptr 0 0),.one (.ref 1)]) (vs:=[.pointer (some ⟨g,0,none⟩),.int .i64 a]) (r:=.tup [.one (.i .i64 0),.one (.i .i64 0),.one (.i .i64 17)]) (l:=.ref 0) (lo:=[]) (obs:=[]) h
  (ah)
  (af (bR (y:=0) (o:=0) (t:=154) ⟨_,Tryz.underlying154⟩) (af (ft 0 2 rfl rfl) (af (aE (t:=3) (aw (n:=2) rfl) (aS (c:=0)) (bX (by omega))) (af (iaB (n:=0) (m:=3) rfl rfl (cm (aS (c:=0)) (by omega)) hf) (af (fa0 f 3 rfl) (af (ldt f 3 4 rfl rfl) (af (aE (t:=3) (aw (n:=1) rfl) (aw (n:=4) rfl) (aW (by omega))) (af (eb (m:=5) (t:=3) (aw (n:=2) rfl) (aS (c:=1)) rfl rfl (by omega) (by omega)) (af (iaB (n:=0) (m:=6) rfl rfl (cm (aw (n:=5) rfl) (by omega)) hl) (af (fa0 l 6 rfl) (af (ldt l 6 7 rfl rfl) (af (aE (t:=3) (aw (n:=1) rfl) (aw (n:=7) rfl) (cj (by omega))) (ai))))))))))))) Tryz.func164 rfl (by kernel_rfl) aT ⟨dy,⟨aB (n:=1) rfl aH,trivial⟩⟩ (eL rfl)).mono ?_
 rintro e w' ⟨v,B',rfl,⟨vs,rfl,h1⟩,h2,h3⟩
 match vs,h1 with
 | [x1,x2,x3],h1=>
  have ex1:x1= .int .i64 0:=h1.1;subst ex1;have ex2:x2= .int .i64 0:=h1.2.1;subst ex2;have ex3:x3= .int .i64 17:=h1.2.2.1;subst ex3;exact⟨rfl,h3 rfl⟩
def iQ:MS:=qu 77 [(0,.v (.one (.ptr 0 0))),(1,.v (.one (.ref 1))),(52,.v (.one (.ref 0))),(53,.v (.one (.ref 2))),(54,.v (.one (.i .i64 0)))] [(223,[some (.ref 0)])]
def iR:MS:=qu 77 [(0,.v (.one (.ptr 0 0))),(1,.v (.one (.ref 1))),(7,.v (.one (.ref 8))),(8,.v (.one (.ref 8))),(52,.v (.one (.ref 0))),(53,.v (.one (.ref 2)))] [(223,[some (.ref 0)])]
def eA (S:List St) (a:Int) (f:St) (l:St) (y:St):List Fq:=[]
theorem q_aroundQ {w:World} {g:Nat} {sl:Value} (S:List St) (a:Int) (h:TrkS 223 w g sl S) (hS:S.length≤64) (f:St) (hf:S[0]? =some f) (hb:f.tm≤a) (l:St) (hl:S[S.length - 1]? =some l) (hn:0<S.length) (ha:a≤l.tm) (y:St) (hy:S[plN S a]? =some y) (ey:y.tm=a) (hp:plN S a<S.length):
  Calls Tryz.prog 164 (.pointer (some ⟨g,0,none⟩)::[.int .i64 a]).toArray w fun e w'=>e= .returned (.tuple #[.int .i64 ((plN S a:Nat):Int),.int .i64 ((plN S a:Nat):Int),.int .i64 0])∧Below w.heap.size w w':=by
 have hL0:LOb.Ok Tryz.prog (frs (eA S a f l y)++(([.rowB true sl stT S.length (aF S),.val (.int .i64 a),.val (.int .i64 (S.length:Int)),.plc stT f.qs,.val (.int .i64 f.tm),.val (.int .i64 ((S.length:Int) - 1)),.plc stT l.qs,.val (.int .i64 l.tm)]:List Vp)++(([.val (.int .i64 ((plN S a:Nat):Int))]:List Vp)))) (jB w g) 77 ⟨iE Tryz.f164 0,iQ,.ext 1,iR⟩:=by
  refine fK (plN S a) (fun k=>frs (eA S a f l y)++(([.rowB true sl stT S.length (aF S),.val (.int .i64 a),.val (.int .i64 (S.length:Int)),.plc stT f.qs,.val (.int .i64 f.tm),.val (.int .i64 ((S.length:Int) - 1)),.plc stT l.qs,.val (.int .i64 l.tm)]:List Vp)++(([.val (.int .i64 ((k:Nat):Int))]:List Vp)))) (fun _=>qu 77 [(0,.v (.one (.ptr 0 0))),(1,.v (.one (.ref 1))),(52,.v (.one (.ref 0))),(53,.v (.one (.ref 2))),(54,.v (.one (.ref 8)))] [(223,[some (.ref 0)])]) ?_ ?_ ?_ (by decide) (Nat.le_add_left 1 _)
  ·intro a_ w_ h_;exact MSt.conv (N:=8) (σ:=[(8,.i .i64 0)]) (cmP (by kernel_rfl)) (cg (sgi (n:=8) (u:=0) (v:=((0:Nat):Int)) rfl (aS (c:=0)) (by omega)) cZ) (by kernel_rfl) h_ (Nat.le_add_left 1 _)
  ·intro k hk;obtain⟨x,hx,hlt⟩:=fq hk;have hle:=bH S a;refine ew (N:=9) (ρx:=frs (eA S a f l y)++(([.rowB true sl stT S.length (aF S),.val (.int .i64 a),.val (.int .i64 (S.length:Int)),.plc stT f.qs,.val (.int .i64 f.tm),.val (.int .i64 ((S.length:Int) - 1)),.plc stT l.qs,.val (.int .i64 l.tm)]:List Vp)++(([.val (.int .i64 ((k:Nat):Int))]:List Vp)++(([.plc stT x.qs,.val (.int .i64 x.tm),.val (.bool x.pose.rot.w.s),.dig (nl x.pose.rot.w.p) x.pose.rot.w.p,.dig (nl x.pose.rot.w.q) x.pose.rot.w.q,.val (.bool x.pose.rot.x.s),.dig (nl x.pose.rot.x.p) x.pose.rot.x.p,.dig (nl x.pose.rot.x.q) x.pose.rot.x.q,.val (.bool x.pose.rot.y.s),.dig (nl x.pose.rot.y.p) x.pose.rot.y.p,.dig (nl x.pose.rot.y.q) x.pose.rot.y.q,.val (.bool x.pose.rot.z.s),.dig (nl x.pose.rot.z.p) x.pose.rot.z.p,.dig (nl x.pose.rot.z.q) x.pose.rot.z.q,.val (.bool x.pose.pos.x.s),.dig (nl x.pose.pos.x.p) x.pose.pos.x.p,.dig (nl x.pose.pos.x.q) x.pose.pos.x.q,.val (.bool x.pose.pos.y.s),.dig (nl x.pose.pos.y.p) x.pose.pos.y.p,.dig (nl x.pose.pos.y.q) x.pose.pos.y.q,.val (.bool x.pose.pos.z.s),.dig (nl x.pose.pos.z.p) x.pose.pos.z.p,.dig (nl x.pose.pos.z.q) x.pose.pos.z.q,.val (.int .i64 (((k:Nat):Int)+1))]:List Vp))))) (cmX (by kernel_rfl)) (by kernel_rfl) (Nat.le_add_left 1 _) ?_;exact dB (N:=8) (σ:=[(8,.ref 32)]) (lo:=[]) (n:=300) (ah)
    (af (aE (t:=3) (aw (n:=8) rfl) (aw (n:=2) rfl) (bp (by omega))) (af (iaB (n:=0) (m:=9) rfl rfl (cm (aw (n:=8) rfl) (by omega)) hx) (af (fe (n:=9) (t:=120) (ls:=.ref 10::fW [11,14,17,20,23,26,29]) (by kernel_rfl) (by kernel_rfl) rfl (yw (x:=x.raw) rfl ⟨⟨rfl,rfl,rfl⟩,⟨rfl,rfl,rfl⟩,⟨rfl,rfl,rfl⟩,⟨rfl,rfl,rfl⟩,⟨rfl,rfl,rfl⟩,⟨rfl,rfl,rfl⟩,⟨rfl,rfl,rfl⟩,trivial⟩)) (af (aE (t:=3) (aw (n:=10) rfl) (aw (n:=1) rfl) (bX (by omega))) (af (aE (t:=3) (aw (n:=10) rfl) (aw (n:=1) rfl) (aV (by omega))) (af (sK (m:=32) (t:=3) (aw (n:=8) rfl) (aS (c:=1)) rfl rfl (by omega) (by omega)) (ai)))))))
    (by kernel_rfl) (obs:=[]) (by kernel_rfl) aT (cmP (by kernel_rfl)) (cg (sgi (n:=8) (u:=(((k:Nat):Int)+1)) (v:=((k+1:Nat):Int)) rfl (aw (n:=32) rfl) (by omega)) cZ) (Nat.le_add_left 1 _)
  ·refine ew (N:=9) (ρx:=frs (eA S a f l y)++(([.rowB true sl stT S.length (aF S),.val (.int .i64 a),.val (.int .i64 (S.length:Int)),.plc stT f.qs,.val (.int .i64 f.tm),.val (.int .i64 ((S.length:Int) - 1)),.plc stT l.qs,.val (.int .i64 l.tm)]:List Vp)++(([.val (.int .i64 ((plN S a:Nat):Int))]:List Vp)++(([.plc stT y.qs,.val (.int .i64 y.tm),.val (.bool y.pose.rot.w.s),.dig (nl y.pose.rot.w.p) y.pose.rot.w.p,.dig (nl y.pose.rot.w.q) y.pose.rot.w.q,.val (.bool y.pose.rot.x.s),.dig (nl y.pose.rot.x.p) y.pose.rot.x.p,.dig (nl y.pose.rot.x.q) y.pose.rot.x.q,.val (.bool y.pose.rot.y.s),.dig (nl y.pose.rot.y.p) y.pose.rot.y.p,.dig (nl y.pose.rot.y.q) y.pose.rot.y.q,.val (.bool y.pose.rot.z.s),.dig (nl y.pose.rot.z.p) y.pose.rot.z.p,.dig (nl y.pose.rot.z.q) y.pose.rot.z.q,.val (.bool y.pose.pos.x.s),.dig (nl y.pose.pos.x.p) y.pose.pos.x.p,.dig (nl y.pose.pos.x.q) y.pose.pos.x.q,.val (.bool y.pose.pos.y.s),.dig (nl y.pose.pos.y.p) y.pose.pos.y.p,.dig (nl y.pose.pos.y.q) y.pose.pos.y.q,.val (.bool y.pose.pos.z.s),.dig (nl y.pose.pos.z.p) y.pose.pos.z.p,.dig (nl y.pose.pos.z.q) y.pose.pos.z.q]:List Vp))))) (cmX (by kernel_rfl)) (by kernel_rfl) (Nat.le_add_left 1 _) ?_;exact dB (N:=8) (σ:=[(8,.ref 8),(8,.ref 8)]) (lo:=[]) (n:=300) (ah)
    (af (aE (t:=3) (aw (n:=8) rfl) (aw (n:=2) rfl) (bp (by omega))) (af (iaB (n:=0) (m:=9) rfl rfl (cm (aw (n:=8) rfl) (by omega)) hy) (af (fe (n:=9) (t:=120) (ls:=.ref 10::fW [11,14,17,20,23,26,29]) (by kernel_rfl) (by kernel_rfl) rfl (yw (x:=y.raw) rfl ⟨⟨rfl,rfl,rfl⟩,⟨rfl,rfl,rfl⟩,⟨rfl,rfl,rfl⟩,⟨rfl,rfl,rfl⟩,⟨rfl,rfl,rfl⟩,⟨rfl,rfl,rfl⟩,⟨rfl,rfl,rfl⟩,trivial⟩)) (af (aE (t:=3) (aw (n:=10) rfl) (aw (n:=1) rfl) (iP (by omega))) (ai)))))
    (by kernel_rfl) (obs:=[]) (by kernel_rfl) aT (cmP (by kernel_rfl)) (cg (sgi (n:=8) (u:=((plN S a:Nat):Int)) (v:=((plN S a:Nat):Int)) rfl (aw (n:=8) rfl) (by omega)) (cg (sgi (n:=8) (u:=((plN S a:Nat):Int)) (v:=((plN S a:Nat):Int)) rfl (aw (n:=8) rfl) (by omega)) cZ)) (Nat.le_add_left 1 _)
 refine(aP (ρ:=frs (eA S a f l y)++(([.rowB true sl stT S.length (aF S),.val (.int .i64 a),.val (.int .i64 (S.length:Int)),.plc stT f.qs,.val (.int .i64 f.tm),.val (.int .i64 ((S.length:Int) - 1)),.plc stT l.qs,.val (.int .i64 l.tm)]:List Vp)++(([.val (.int .i64 ((plN S a:Nat):Int))]:List Vp)))) (w:=w) (fuel:=300) (m:=0) (S':=S) (args:=[.one (.ptr 0 0),.one (.ref 1)]) (vs:=[.pointer (some ⟨g,0,none⟩),.int .i64 a]) (r:=.tup [.one (.ref 8),.one (.ref 8),.one (.i .i64 0)]) (l:=.ref 0) (lo:=[some (iQ,.ext 1,iR)]) (obs:=[⟨iE Tryz.f164 0,iQ,.ext 1,iR⟩]) h
  (ah)
  (af (bR (y:=0) (o:=0) (t:=154) ⟨_,Tryz.underlying154⟩) (af (ft 0 2 rfl rfl) (af (aE (t:=3) (aw (n:=2) rfl) (aS (c:=0)) (bX (by omega))) (af (iaB (n:=0) (m:=3) rfl rfl (cm (aS (c:=0)) (by omega)) hf) (af (fa0 f 3 rfl) (af (ldt f 3 4 rfl rfl) (af (aE (t:=3) (aw (n:=1) rfl) (aw (n:=4) rfl) (aW (by omega))) (af (eb (m:=5) (t:=3) (aw (n:=2) rfl) (aS (c:=1)) rfl rfl (by omega) (by omega)) (af (iaB (n:=0) (m:=6) rfl rfl (cm (aw (n:=5) rfl) (by omega)) hl) (af (fa0 l 6 rfl) (af (ldt l 6 7 rfl rfl) (af (aE (t:=3) (aw (n:=1) rfl) (aw (n:=7) rfl) (aV (by omega))) (ai))))))))))))) Tryz.func164 rfl (by kernel_rfl) (nL hL0 aT) ⟨dy,⟨aB (n:=1) rfl aH,trivial⟩⟩ (eL rfl)).mono ?_
 rintro e w' ⟨v,B',rfl,⟨vs,rfl,h1⟩,h2,h3⟩
 match vs,h1 with
 | [x1,x2,x3],h1=>
  have ex1:x1= .int .i64 ((plN S a:Nat):Int):=aO rfl h1.1;subst ex1;have ex2:x2= .int .i64 ((plN S a:Nat):Int):=aO rfl h1.2.1;subst ex2;have ex3:x3= .int .i64 0:=h1.2.2.1;subst ex3;exact⟨rfl,h3 rfl⟩
def iS:MS:=qu 77 [(0,.v (.one (.ptr 0 0))),(1,.v (.one (.ref 1))),(52,.v (.one (.ref 0))),(53,.v (.one (.ref 2))),(54,.v (.one (.i .i64 0)))] [(223,[some (.ref 0)])]
def iT:MS:=qu 77 [(0,.v (.one (.ptr 0 0))),(1,.v (.one (.ref 1))),(7,.v (.one (.ref 8))),(8,.v (.one (.ref 9))),(52,.v (.one (.ref 0))),(53,.v (.one (.ref 2)))] [(223,[some (.ref 0)])]
def eB (S:List St) (a:Int) (f:St) (l:St) (y:St):List Fq:=[]
theorem q_aroundM {w:World} {g:Nat} {sl:Value} (S:List St) (a:Int) (h:TrkS 223 w g sl S) (hS:S.length≤64) (f:St) (hf:S[0]? =some f) (hb:f.tm≤a) (l:St) (hl:S[S.length - 1]? =some l) (hn:0<S.length) (ha:a≤l.tm) (y:St) (hy:S[plN S a]? =some y) (ey:a<y.tm) (hp:plN S a<S.length) (h0:0<plN S a):
  Calls Tryz.prog 164 (.pointer (some ⟨g,0,none⟩)::[.int .i64 a]).toArray w fun e w'=>e= .returned (.tuple #[.int .i64 (((plN S a:Nat):Int) - 1),.int .i64 ((plN S a:Nat):Int),.int .i64 0])∧Below w.heap.size w w':=by
 have hL0:LOb.Ok Tryz.prog (frs (eB S a f l y)++(([.rowB true sl stT S.length (aF S),.val (.int .i64 a),.val (.int .i64 (S.length:Int)),.plc stT f.qs,.val (.int .i64 f.tm),.val (.int .i64 ((S.length:Int) - 1)),.plc stT l.qs,.val (.int .i64 l.tm)]:List Vp)++(([.val (.int .i64 (((plN S a:Nat):Int) - 1)),.val (.int .i64 ((plN S a:Nat):Int))]:List Vp)))) (jB w g) 77 ⟨iE Tryz.f164 0,iS,.ext 1,iT⟩:=by
  refine fK (plN S a) (fun k=>frs (eB S a f l y)++(([.rowB true sl stT S.length (aF S),.val (.int .i64 a),.val (.int .i64 (S.length:Int)),.plc stT f.qs,.val (.int .i64 f.tm),.val (.int .i64 ((S.length:Int) - 1)),.plc stT l.qs,.val (.int .i64 l.tm)]:List Vp)++(([.val (.int .i64 ((k:Nat):Int))]:List Vp)))) (fun _=>qu 77 [(0,.v (.one (.ptr 0 0))),(1,.v (.one (.ref 1))),(52,.v (.one (.ref 0))),(53,.v (.one (.ref 2))),(54,.v (.one (.ref 8)))] [(223,[some (.ref 0)])]) ?_ ?_ ?_ (by decide) (Nat.le_add_left 1 _)
  ·intro a_ w_ h_;exact MSt.conv (N:=8) (σ:=[(8,.i .i64 0)]) (cmP (by kernel_rfl)) (cg (sgi (n:=8) (u:=0) (v:=((0:Nat):Int)) rfl (aS (c:=0)) (by omega)) cZ) (by kernel_rfl) h_ (Nat.le_add_left 1 _)
  ·intro k hk;obtain⟨x,hx,hlt⟩:=fq hk;have hle:=bH S a;refine ew (N:=9) (ρx:=frs (eB S a f l y)++(([.rowB true sl stT S.length (aF S),.val (.int .i64 a),.val (.int .i64 (S.length:Int)),.plc stT f.qs,.val (.int .i64 f.tm),.val (.int .i64 ((S.length:Int) - 1)),.plc stT l.qs,.val (.int .i64 l.tm)]:List Vp)++(([.val (.int .i64 ((k:Nat):Int))]:List Vp)++(([.plc stT x.qs,.val (.int .i64 x.tm),.val (.bool x.pose.rot.w.s),.dig (nl x.pose.rot.w.p) x.pose.rot.w.p,.dig (nl x.pose.rot.w.q) x.pose.rot.w.q,.val (.bool x.pose.rot.x.s),.dig (nl x.pose.rot.x.p) x.pose.rot.x.p,.dig (nl x.pose.rot.x.q) x.pose.rot.x.q,.val (.bool x.pose.rot.y.s),.dig (nl x.pose.rot.y.p) x.pose.rot.y.p,.dig (nl x.pose.rot.y.q) x.pose.rot.y.q,.val (.bool x.pose.rot.z.s),.dig (nl x.pose.rot.z.p) x.pose.rot.z.p,.dig (nl x.pose.rot.z.q) x.pose.rot.z.q,.val (.bool x.pose.pos.x.s),.dig (nl x.pose.pos.x.p) x.pose.pos.x.p,.dig (nl x.pose.pos.x.q) x.pose.pos.x.q,.val (.bool x.pose.pos.y.s),.dig (nl x.pose.pos.y.p) x.pose.pos.y.p,.dig (nl x.pose.pos.y.q) x.pose.pos.y.q,.val (.bool x.pose.pos.z.s),.dig (nl x.pose.pos.z.p) x.pose.pos.z.p,.dig (nl x.pose.pos.z.q) x.pose.pos.z.q,.val (.int .i64 (((k:Nat):Int)+1))]:List Vp))))) (cmX (by kernel_rfl)) (by kernel_rfl) (Nat.le_add_left 1 _) ?_;exact dB (N:=8) (σ:=[(8,.ref 32)]) (lo:=[]) (n:=300) (ah)
    (af (aE (t:=3) (aw (n:=8) rfl) (aw (n:=2) rfl) (bp (by omega))) (af (iaB (n:=0) (m:=9) rfl rfl (cm (aw (n:=8) rfl) (by omega)) hx) (af (fe (n:=9) (t:=120) (ls:=.ref 10::fW [11,14,17,20,23,26,29]) (by kernel_rfl) (by kernel_rfl) rfl (yw (x:=x.raw) rfl ⟨⟨rfl,rfl,rfl⟩,⟨rfl,rfl,rfl⟩,⟨rfl,rfl,rfl⟩,⟨rfl,rfl,rfl⟩,⟨rfl,rfl,rfl⟩,⟨rfl,rfl,rfl⟩,⟨rfl,rfl,rfl⟩,trivial⟩)) (af (aE (t:=3) (aw (n:=10) rfl) (aw (n:=1) rfl) (bX (by omega))) (af (aE (t:=3) (aw (n:=10) rfl) (aw (n:=1) rfl) (aV (by omega))) (af (sK (m:=32) (t:=3) (aw (n:=8) rfl) (aS (c:=1)) rfl rfl (by omega) (by omega)) (ai)))))))
    (by kernel_rfl) (obs:=[]) (by kernel_rfl) aT (cmP (by kernel_rfl)) (cg (sgi (n:=8) (u:=(((k:Nat):Int)+1)) (v:=((k+1:Nat):Int)) rfl (aw (n:=32) rfl) (by omega)) cZ) (Nat.le_add_left 1 _)
  ·refine ew (N:=9) (ρx:=frs (eB S a f l y)++(([.rowB true sl stT S.length (aF S),.val (.int .i64 a),.val (.int .i64 (S.length:Int)),.plc stT f.qs,.val (.int .i64 f.tm),.val (.int .i64 ((S.length:Int) - 1)),.plc stT l.qs,.val (.int .i64 l.tm)]:List Vp)++(([.val (.int .i64 ((plN S a:Nat):Int))]:List Vp)++(([.plc stT y.qs,.val (.int .i64 y.tm),.val (.bool y.pose.rot.w.s),.dig (nl y.pose.rot.w.p) y.pose.rot.w.p,.dig (nl y.pose.rot.w.q) y.pose.rot.w.q,.val (.bool y.pose.rot.x.s),.dig (nl y.pose.rot.x.p) y.pose.rot.x.p,.dig (nl y.pose.rot.x.q) y.pose.rot.x.q,.val (.bool y.pose.rot.y.s),.dig (nl y.pose.rot.y.p) y.pose.rot.y.p,.dig (nl y.pose.rot.y.q) y.pose.rot.y.q,.val (.bool y.pose.rot.z.s),.dig (nl y.pose.rot.z.p) y.pose.rot.z.p,.dig (nl y.pose.rot.z.q) y.pose.rot.z.q,.val (.bool y.pose.pos.x.s),.dig (nl y.pose.pos.x.p) y.pose.pos.x.p,.dig (nl y.pose.pos.x.q) y.pose.pos.x.q,.val (.bool y.pose.pos.y.s),.dig (nl y.pose.pos.y.p) y.pose.pos.y.p,.dig (nl y.pose.pos.y.q) y.pose.pos.y.q,.val (.bool y.pose.pos.z.s),.dig (nl y.pose.pos.z.p) y.pose.pos.z.p,.dig (nl y.pose.pos.z.q) y.pose.pos.z.q,.val (.int .i64 (((plN S a:Nat):Int) - 1))]:List Vp))))) (cmX (by kernel_rfl)) (by kernel_rfl) (Nat.le_add_left 1 _) ?_;exact dB (N:=8) (σ:=[(8,.ref 32),(9,.ref 8)]) (lo:=[]) (n:=300) (ah)
    (af (aE (t:=3) (aw (n:=8) rfl) (aw (n:=2) rfl) (bp (by omega))) (af (iaB (n:=0) (m:=9) rfl rfl (cm (aw (n:=8) rfl) (by omega)) hy) (af (fe (n:=9) (t:=120) (ls:=.ref 10::fW [11,14,17,20,23,26,29]) (by kernel_rfl) (by kernel_rfl) rfl (yw (x:=y.raw) rfl ⟨⟨rfl,rfl,rfl⟩,⟨rfl,rfl,rfl⟩,⟨rfl,rfl,rfl⟩,⟨rfl,rfl,rfl⟩,⟨rfl,rfl,rfl⟩,⟨rfl,rfl,rfl⟩,⟨rfl,rfl,rfl⟩,trivial⟩)) (af (aE (t:=3) (aw (n:=10) rfl) (aw (n:=1) rfl) (bX (by omega))) (af (aE (t:=3) (aw (n:=10) rfl) (aw (n:=1) rfl) (cj (by omega))) (af (eb (m:=32) (t:=3) (aw (n:=8) rfl) (aS (c:=1)) rfl rfl (by omega) (by omega)) (ai)))))))
    (by kernel_rfl) (obs:=[]) (by kernel_rfl) aT (cmP (by kernel_rfl)) (cg (sgi (n:=8) (u:=(((plN S a:Nat):Int) - 1)) (v:=(((plN S a:Nat):Int) - 1)) rfl (aw (n:=32) rfl) (by omega)) (cg (sgi (n:=9) (u:=((plN S a:Nat):Int)) (v:=((plN S a:Nat):Int)) rfl (aw (n:=8) rfl) (by omega)) cZ)) (Nat.le_add_left 1 _)
 refine(aP (ρ:=frs (eB S a f l y)++(([.rowB true sl stT S.length (aF S),.val (.int .i64 a),.val (.int .i64 (S.length:Int)),.plc stT f.qs,.val (.int .i64 f.tm),.val (.int .i64 ((S.length:Int) - 1)),.plc stT l.qs,.val (.int .i64 l.tm)]:List Vp)++(([.val (.int .i64 (((plN S a:Nat):Int) - 1)),.val (.int .i64 ((plN S a:Nat):Int))]:List Vp)))) (w:=w) (fuel:=300) (m:=0) (S':=S) (args:=[.one (.ptr 0 0),.one (.ref 1)]) (vs:=[.pointer (some ⟨g,0,none⟩),.int .i64 a]) (r:=.tup [.one (.ref 8),.one (.ref 9),.one (.i .i64 0)]) (l:=.ref 0) (lo:=[some (iS,.ext 1,iT)]) (obs:=[⟨iE Tryz.f164 0,iS,.ext 1,iT⟩]) h
  (ah)
  (af (bR (y:=0) (o:=0) (t:=154) ⟨_,Tryz.underlying154⟩) (af (ft 0 2 rfl rfl) (af (aE (t:=3) (aw (n:=2) rfl) (aS (c:=0)) (bX (by omega))) (af (iaB (n:=0) (m:=3) rfl rfl (cm (aS (c:=0)) (by omega)) hf) (af (fa0 f 3 rfl) (af (ldt f 3 4 rfl rfl) (af (aE (t:=3) (aw (n:=1) rfl) (aw (n:=4) rfl) (aW (by omega))) (af (eb (m:=5) (t:=3) (aw (n:=2) rfl) (aS (c:=1)) rfl rfl (by omega) (by omega)) (af (iaB (n:=0) (m:=6) rfl rfl (cm (aw (n:=5) rfl) (by omega)) hl) (af (fa0 l 6 rfl) (af (ldt l 6 7 rfl rfl) (af (aE (t:=3) (aw (n:=1) rfl) (aw (n:=7) rfl) (aV (by omega))) (ai))))))))))))) Tryz.func164 rfl (by kernel_rfl) (nL hL0 aT) ⟨dy,⟨aB (n:=1) rfl aH,trivial⟩⟩ (eL rfl)).mono ?_
 rintro e w' ⟨v,B',rfl,⟨vs,rfl,h1⟩,h2,h3⟩
 match vs,h1 with
 | [x1,x2,x3],h1=>
  have ex1:x1= .int .i64 (((plN S a:Nat):Int) - 1):=aO rfl h1.1;subst ex1;have ex2:x2= .int .i64 ((plN S a:Nat):Int):=aO rfl h1.2.1;subst ex2;have ex3:x3= .int .i64 0:=h1.2.2.1;subst ex3;exact⟨rfl,h3 rfl⟩
theorem I_aroundE {ρ:Rho} {u:Nat} {l la:Leaf} {S:List St} {a:Int} (tl:xb ρ u 223 l S) (ka:KI ρ la .i64 a) (hS:S.length≤64) (hS0:S.length=0) {r:SV}:(OIns.mk (.mut 164 ⟨[],[(u,223,[l])],[],none,[],[.one (.i .i64 0),.one (.i .i64 0),.one (.i .i64 6)]⟩) [.one (.ptr u 0),.one la] r).Ok Tryz.prog ρ:=
 gB (args:=[.one la]) (az Tryz.func164 rfl rfl) tl (fun B w g sl vs _ ht hv=>by
  match vs,hv with
  | [v],hv=>
   have e:=ka _ _ _ hv.1;subst e;refine(q_aroundE S _ ht hS hS0).mono ?_;rintro e w' ⟨rfl,h2⟩;exact⟨_,rfl,fun B' _=>⟨[.int .i64 _,.int .i64 _,.int .i64 _],rfl,rfl,rfl,rfl,trivial⟩,h2⟩)
theorem xe {ρ:Rho} {u:Nat} {l la:Leaf} {S:List St} {a:Int} (tl:xb ρ u 223 l S) (ka:KI ρ la .i64 a) (hS:S.length≤64) (f:St) (hf:S[0]? =some f) (hn:0<S.length) (ha:a<f.tm) {r:SV}:(OIns.mk (.mut 164 ⟨[],[(u,223,[l])],[],none,[],[.one (.i .i64 0),.one (.i .i64 0),.one (.i .i64 17)]⟩) [.one (.ptr u 0),.one la] r).Ok Tryz.prog ρ:=
 gB (args:=[.one la]) (az Tryz.func164 rfl rfl) tl (fun B w g sl vs _ ht hv=>by
  match vs,hv with
  | [v],hv=>
   have e:=ka _ _ _ hv.1;subst e;refine(xc S _ ht hS f hf hn ha).mono ?_;rintro e w' ⟨rfl,h2⟩;exact⟨_,rfl,fun B' _=>⟨[.int .i64 _,.int .i64 _,.int .i64 _],rfl,rfl,rfl,rfl,trivial⟩,h2⟩)
theorem xf {ρ:Rho} {u:Nat} {l la:Leaf} {S:List St} {a:Int} (tl:xb ρ u 223 l S) (ka:KI ρ la .i64 a) (hS:S.length≤64) (f:St) (hf:S[0]? =some f) (hb:f.tm≤a) (l_:St) (hl:S[S.length - 1]? =some l_) (hn:0<S.length) (ha:l_.tm<a) {r:SV}:(OIns.mk (.mut 164 ⟨[],[(u,223,[l])],[],none,[],[.one (.i .i64 0),.one (.i .i64 0),.one (.i .i64 17)]⟩) [.one (.ptr u 0),.one la] r).Ok Tryz.prog ρ:=
 gB (args:=[.one la]) (az Tryz.func164 rfl rfl) tl (fun B w g sl vs _ ht hv=>by
  match vs,hv with
  | [v],hv=>
   have e:=ka _ _ _ hv.1;subst e;refine(xd S _ ht hS f hf hb l_ hl hn ha).mono ?_;rintro e w' ⟨rfl,h2⟩;exact⟨_,rfl,fun B' _=>⟨[.int .i64 _,.int .i64 _,.int .i64 _],rfl,rfl,rfl,rfl,trivial⟩,h2⟩)
theorem I_aroundQ {ρ:Rho} {u:Nat} {l la:Leaf} {S:List St} {a:Int} (tl:xb ρ u 223 l S) (ka:KI ρ la .i64 a) {n0 n1:Nat} (k0:ρ[n0]? =some (.val (.int .i64 (((plN S a:Nat):Int))))) (k1:ρ[n1]? =some (.val (.int .i64 ((plN S a:Nat):Int)))) (hS:S.length≤64) (f:St) (hf:S[0]? =some f) (hb:f.tm≤a) (l_:St) (hl:S[S.length - 1]? =some l_) (hn:0<S.length) (ha:a≤l_.tm) (y:St) (hy:S[plN S a]? =some y) (ey:y.tm=a) (hp:plN S a<S.length) {r:SV}:(OIns.mk (.mut 164 ⟨[],[(u,223,[l])],[],none,[],[.one (.ref n0),.one (.ref n1),.one (.i .i64 0)]⟩) [.one (.ptr u 0),.one la] r).Ok Tryz.prog ρ:=
 gB (args:=[.one la]) (az Tryz.func164 rfl rfl) tl (fun B w g sl vs _ ht hv=>by
  match vs,hv with
  | [v],hv=>
   have e:=ka _ _ _ hv.1;subst e;refine(q_aroundQ S _ ht hS f hf hb l_ hl hn ha y hy ey hp).mono ?_;rintro e w' ⟨rfl,h2⟩;exact⟨_,rfl,fun B' _=>⟨[.int .i64 _,.int .i64 _,.int .i64 _],rfl,aB k0 aH,aB k1 aH,rfl,trivial⟩,h2⟩)
theorem I_aroundM {ρ:Rho} {u:Nat} {l la:Leaf} {S:List St} {a:Int} (tl:xb ρ u 223 l S) (ka:KI ρ la .i64 a) {n0 n1:Nat} (k0:ρ[n0]? =some (.val (.int .i64 (((plN S a:Nat):Int) - 1)))) (k1:ρ[n1]? =some (.val (.int .i64 ((plN S a:Nat):Int)))) (hS:S.length≤64) (f:St) (hf:S[0]? =some f) (hb:f.tm≤a) (l_:St) (hl:S[S.length - 1]? =some l_) (hn:0<S.length) (ha:a≤l_.tm) (y:St) (hy:S[plN S a]? =some y) (ey:a<y.tm) (hp:plN S a<S.length) (h0:0<plN S a) {r:SV}:(OIns.mk (.mut 164 ⟨[],[(u,223,[l])],[],none,[],[.one (.ref n0),.one (.ref n1),.one (.i .i64 0)]⟩) [.one (.ptr u 0),.one la] r).Ok Tryz.prog ρ:=
 gB (args:=[.one la]) (az Tryz.func164 rfl rfl) tl (fun B w g sl vs _ ht hv=>by
  match vs,hv with
  | [v],hv=>
   have e:=ka _ _ _ hv.1;subst e;refine(q_aroundM S _ ht hS f hf hb l_ hl hn ha y hy ey hp h0).mono ?_;rintro e w' ⟨rfl,h2⟩;exact⟨_,rfl,fun B' _=>⟨[.int .i64 _,.int .i64 _,.int .i64 _],rfl,aB k0 aH,aB k1 aH,rfl,trivial⟩,h2⟩)
def xq_AtEX (S:List St) (a:Int):List Fq:=[]
theorem q_AtE {w:World} {g:Nat} {sl:Value} (S:List St) (a:Int) (h:TrkS 223 w g sl S) (hS:S.length≤64) (hS0:S.length=0):
  Calls Tryz.prog 98 (.pointer (some ⟨g,0,none⟩)::[.int .i64 a]).toArray w fun e w'=>∃v0:Value,e= .returned (.tuple #[v0,.int .i64 6])∧bw w' v0 Pq.zero∧Below w.heap.size w w':=by
 refine(aP (ρ:=frs (xq_AtEX S a)++([.rowB true sl stT S.length (aF S),.val (.int .i64 a)]:List Vp)) (w:=w) (fuel:=300) (m:=0) (S':=S) (args:=[.one (.ptr 0 0),.one (.ref 1)]) (vs:=[.pointer (some ⟨g,0,none⟩),.int .i64 a]) (r:=.tup [.agg [.b false,.sl0,.sl0,.b false,.sl0,.sl0,.b false,.sl0,.sl0,.b false,.sl0,.sl0,.b false,.sl0,.sl0,.b false,.sl0,.sl0,.b false,.sl0,.sl0],.one (.i .i64 6)]) (l:=.ref 0) (lo:=[]) (obs:=[]) h
  (ah)
  (af (I_aroundE (u:=0) (l:=.ref 0) (tl_b (m:=0) rfl) (aw (n:=1) rfl) (by omega) hS0 (r:=.one .sl0)) (ai)) Tryz.func98 rfl (by kernel_rfl) aT ⟨dy,⟨aB (n:=1) rfl aH,trivial⟩⟩ (eL rfl)).mono ?_
 rintro e w' ⟨v,B',rfl,⟨vs,rfl,h1⟩,h2,h3⟩
 match vs,h1 with
 | [x1,x2],h1=>
  have ex2:x2= .int .i64 6:=h1.2.1;subst ex2;exact⟨x1,rfl,(by obtain⟨cs,rfl,k1⟩:=h1.1;exact⟨_,rfl,fi (n:=7) k1⟩),h3 rfl⟩
def xq_AtO1X (S:List St) (a:Int) (f:St):List Fq:=[]
theorem q_AtO1 {w:World} {g:Nat} {sl:Value} (S:List St) (a:Int) (h:TrkS 223 w g sl S) (hS:S.length≤64) (f:St) (hf:S[0]? =some f) (hn:0<S.length) (ha:a<f.tm):
  Calls Tryz.prog 98 (.pointer (some ⟨g,0,none⟩)::[.int .i64 a]).toArray w fun e w'=>∃v0:Value,e= .returned (.tuple #[v0,.int .i64 17])∧bw w' v0 Pq.zero∧Below w.heap.size w w':=by
 refine(aP (ρ:=frs (xq_AtO1X S a f)++([.rowB true sl stT S.length (aF S),.val (.int .i64 a)]:List Vp)) (w:=w) (fuel:=300) (m:=0) (S':=S) (args:=[.one (.ptr 0 0),.one (.ref 1)]) (vs:=[.pointer (some ⟨g,0,none⟩),.int .i64 a]) (r:=.tup [.agg [.b false,.sl0,.sl0,.b false,.sl0,.sl0,.b false,.sl0,.sl0,.b false,.sl0,.sl0,.b false,.sl0,.sl0,.b false,.sl0,.sl0,.b false,.sl0,.sl0],.one (.i .i64 17)]) (l:=.ref 0) (lo:=[]) (obs:=[]) h
  (ah)
  (af (xe (u:=0) (l:=.ref 0) (tl_b (m:=0) rfl) (aw (n:=1) rfl) (by omega) f hf hn ha (r:=.one .sl0)) (ai)) Tryz.func98 rfl (by kernel_rfl) aT ⟨dy,⟨aB (n:=1) rfl aH,trivial⟩⟩ (eL rfl)).mono ?_
 rintro e w' ⟨v,B',rfl,⟨vs,rfl,h1⟩,h2,h3⟩
 match vs,h1 with
 | [x1,x2],h1=>
  have ex2:x2= .int .i64 17:=h1.2.1;subst ex2;exact⟨x1,rfl,(by obtain⟨cs,rfl,k1⟩:=h1.1;exact⟨_,rfl,fi (n:=7) k1⟩),h3 rfl⟩
def xq_AtO2X (S:List St) (a:Int) (f:St) (l:St):List Fq:=[]
theorem q_AtO2 {w:World} {g:Nat} {sl:Value} (S:List St) (a:Int) (h:TrkS 223 w g sl S) (hS:S.length≤64) (f:St) (hf:S[0]? =some f) (hb:f.tm≤a) (l:St) (hl:S[S.length - 1]? =some l) (hn:0<S.length) (ha:l.tm<a):
  Calls Tryz.prog 98 (.pointer (some ⟨g,0,none⟩)::[.int .i64 a]).toArray w fun e w'=>∃v0:Value,e= .returned (.tuple #[v0,.int .i64 17])∧bw w' v0 Pq.zero∧Below w.heap.size w w':=by
 refine(aP (ρ:=frs (xq_AtO2X S a f l)++([.rowB true sl stT S.length (aF S),.val (.int .i64 a)]:List Vp)) (w:=w) (fuel:=300) (m:=0) (S':=S) (args:=[.one (.ptr 0 0),.one (.ref 1)]) (vs:=[.pointer (some ⟨g,0,none⟩),.int .i64 a]) (r:=.tup [.agg [.b false,.sl0,.sl0,.b false,.sl0,.sl0,.b false,.sl0,.sl0,.b false,.sl0,.sl0,.b false,.sl0,.sl0,.b false,.sl0,.sl0,.b false,.sl0,.sl0],.one (.i .i64 17)]) (l:=.ref 0) (lo:=[]) (obs:=[]) h
  (ah)
  (af (xf (u:=0) (l:=.ref 0) (tl_b (m:=0) rfl) (aw (n:=1) rfl) (by omega) f hf hb l hl hn ha (r:=.one .sl0)) (ai)) Tryz.func98 rfl (by kernel_rfl) aT ⟨dy,⟨aB (n:=1) rfl aH,trivial⟩⟩ (eL rfl)).mono ?_
 rintro e w' ⟨v,B',rfl,⟨vs,rfl,h1⟩,h2,h3⟩
 match vs,h1 with
 | [x1,x2],h1=>
  have ex2:x2= .int .i64 17:=h1.2.1;subst ex2;exact⟨x1,rfl,(by obtain⟨cs,rfl,k1⟩:=h1.1;exact⟨_,rfl,fi (n:=7) k1⟩),h3 rfl⟩
def yx (S:List St) (a:Int) (f:St) (l:St) (y:St):List Fq:=y.pose.cs
theorem q_AtQ {w:World} {g:Nat} {sl:Value} (S:List St) (a:Int) (h:TrkS 223 w g sl S) (hS:S.length≤64) (f:St) (hf:S[0]? =some f) (hb:f.tm≤a) (l:St) (hl:S[S.length - 1]? =some l) (hn:0<S.length) (ha:a≤l.tm) (y:St) (hy:S[plN S a]? =some y) (ey:y.tm=a) (hp:plN S a<S.length) (ky:y.pose.ok 2) (gy:y.pose.good):
  Calls Tryz.prog 98 (.pointer (some ⟨g,0,none⟩)::[.int .i64 a]).toArray w fun e w'=>∃v0:Value,e= .returned (.tuple #[v0,.int .i64 0])∧bw w' v0 y.pose∧Below w.heap.size w w':=by
 refine(aP (ρ:=frs (yx S a f l y)++([.rowB true sl stT S.length (aF S),.val (.int .i64 a),.val (.int .i64 ((plN S a:Nat):Int)),.plc stT y.qs,.val (.int .i64 y.tm)]:List Vp)) (w:=w) (fuel:=300) (m:=21) (S':=S) (args:=[.one (.ptr 0 0),.one (.ref 22)]) (vs:=[.pointer (some ⟨g,0,none⟩),.int .i64 a]) (r:=.tup [row [0,1,2,3,4,5,6],.one (.i .i64 0)]) (l:=.ref 21) (lo:=[]) (obs:=[]) h
  (ae (nh (n:=25) (ks:=[0,1,2,3,4,5,6]) (s:=y) rfl ⟨rfl,rfl,rfl,rfl,rfl,rfl,rfl,trivial⟩ (ky.mono (by decide))) ah)
  (af (I_aroundQ (u:=0) (l:=.ref 21) (tl_b (m:=21) rfl) (aw (n:=22) rfl) (n0:=23) (n1:=23) rfl rfl (by omega) f hf hb l hl hn ha y hy ey hp (r:=.one .sl0)) (af (iaB (n:=21) (m:=24) rfl rfl (cm (aw (n:=23) rfl) (by omega)) hy) (af (ldst y 24 25 [0,1,2,3,4,5,6] rfl rfl ⟨rfl,rfl,rfl,rfl,rfl,rfl,rfl,trivial⟩) (af (aE (t:=3) (aw (n:=23) rfl) (aw (n:=23) rfl) (iP (by omega))) (ai))))) Tryz.func98 rfl (by kernel_rfl) aT ⟨dy,⟨aB (n:=22) rfl aH,trivial⟩⟩ (eL rfl)).mono ?_
 rintro e w' ⟨v,B',rfl,⟨vs,rfl,h1⟩,h2,h3⟩
 match vs,h1 with
 | [x1,x2],h1=>
  have ex2:x2= .int .i64 0:=h1.2.1;subst ex2;exact⟨x1,rfl,((ag (xs:=yx S a f l y) (ks:=[0,1,2,3,4,5,6]) (vs:=y.pose.cs) ⟨rfl,rfl,rfl,rfl,rfl,rfl,rfl,trivial⟩).1 h1.1),h3 rfl⟩
def yy (S:List St) (a:Int) (f:St) (l:St) (y:St) (z:St):List Fq:=(y.pose.cs++(z.pose.cs++([(Fq.ratio (a - z.tm) (y.tm - z.tm))]++((Pq.mk (z.pose.rot.way (z.pose.rot.inv.mul y.pose.rot) (Fq.ratio (a - z.tm) (y.tm - z.tm))) (z.pose.pos.lerp y.pose.pos (Fq.ratio (a - z.tm) (y.tm - z.tm)))).cs))))
theorem q_AtM {w:World} {g:Nat} {sl:Value} (S:List St) (a:Int) (h:TrkS 223 w g sl S) (hS:S.length≤64) (f:St) (hf:S[0]? =some f) (hb:f.tm≤a) (l:St) (hl:S[S.length - 1]? =some l) (hn:0<S.length) (ha:a≤l.tm) (y:St) (hy:S[plN S a]? =some y) (ey:a<y.tm) (hp:plN S a<S.length) (h0:0<plN S a) (ky:y.pose.ok 2) (gy:y.pose.good) (z:St) (hz:S[plN S a - 1]? =some z) (kz:z.pose.ok 2) (gz:z.pose.good) (t0:0≤y.tm) (t1:y.tm≤1099511627776) (t2:0≤z.tm) (t3:z.tm<a) (ow:¬opp z.pose y.pose):
  Calls Tryz.prog 98 (.pointer (some ⟨g,0,none⟩)::[.int .i64 a]).toArray w fun e w'=>∃v0:Value,e= .returned (.tuple #[v0,.int .i64 0])∧bw w' v0 (Pq.mk (z.pose.rot.way (z.pose.rot.inv.mul y.pose.rot) (Fq.ratio (a - z.tm) (y.tm - z.tm))) (z.pose.pos.lerp y.pose.pos (Fq.ratio (a - z.tm) (y.tm - z.tm))))∧Below w.heap.size w w':=by
 refine(aP (ρ:=frs (yy S a f l y z)++([.rowB true sl stT S.length (aF S),.val (.int .i64 a),.val (.int .i64 ((plN S a:Nat):Int)),.val (.int .i64 (((plN S a:Nat):Int) - 1)),.plc stT z.qs,.val (.int .i64 z.tm),.plc stT y.qs,.val (.int .i64 y.tm),.val (.int .i64 (a - z.tm)),.val (.int .i64 (y.tm - z.tm))]:List Vp)) (w:=w) (fuel:=300) (m:=66) (S':=S) (args:=[.one (.ptr 0 0),.one (.ref 67)]) (vs:=[.pointer (some ⟨g,0,none⟩),.int .i64 a]) (r:=.tup [row [15,16,17,18,19,20,21],.one (.i .i64 0)]) (l:=.ref 66) (lo:=[]) (obs:=[]) h
  (ae (pg (v:=(a - z.tm)) (u:=(y.tm - z.tm)) (k:=14) (aw (n:=74) rfl) (aw (n:=75) rfl) (by omega) (by omega) (by omega) (by omega) (by omega) rfl) (ae (uw (ka:=[7,8,9,10,11,12,13]) (a:=z.pose) (kb:=[0,1,2,3,4,5,6]) (b:=y.pose) (im:=14) (kr:=[15,16,17,18,19,20,21]) ⟨rfl,rfl,rfl,rfl,rfl,rfl,rfl,trivial⟩ ⟨rfl,rfl,rfl,rfl,rfl,rfl,rfl,trivial⟩ rfl ⟨rfl,rfl,rfl,rfl,rfl,rfl,rfl,trivial⟩ (kz.mono (by decide)) (ky.mono (by decide)) ((pf (v:=(a - z.tm)) (u:=(y.tm - z.tm)) (by omega) (by omega) (by omega) (by omega) (by omega)).mono (by decide)) gz gy (fL (v:=(a - z.tm)) (u:=(y.tm - z.tm)) (by omega)) ow) ah))
  (af (I_aroundM (u:=0) (l:=.ref 66) (tl_b (m:=66) rfl) (aw (n:=67) rfl) (n0:=69) (n1:=68) rfl rfl (by omega) f hf hb l hl hn ha y hy ey hp h0 (r:=.one .sl0)) (af (iaB (n:=66) (m:=70) rfl rfl (cm (aw (n:=69) rfl) (by omega)) hz) (af (ldst z 70 71 [7,8,9,10,11,12,13] rfl rfl ⟨rfl,rfl,rfl,rfl,rfl,rfl,rfl,trivial⟩) (af (aE (t:=3) (aw (n:=69) rfl) (aw (n:=68) rfl) (bX (by omega))) (af (iaB (n:=66) (m:=72) rfl rfl (cm (aw (n:=68) rfl) (by omega)) hy) (af (ldst y 72 73 [0,1,2,3,4,5,6] rfl rfl ⟨rfl,rfl,rfl,rfl,rfl,rfl,rfl,trivial⟩) (af (eb (m:=74) (t:=3) (aw (n:=67) rfl) (aw (n:=71) rfl) rfl rfl (by omega) (by omega)) (af (eb (m:=75) (t:=3) (aw (n:=73) rfl) (aw (n:=71) rfl) rfl rfl (by omega) (by omega)) (ai))))))))) Tryz.func98 rfl (by kernel_rfl) aT ⟨dy,⟨aB (n:=67) rfl aH,trivial⟩⟩ (eL rfl)).mono ?_
 rintro e w' ⟨v,B',rfl,⟨vs,rfl,h1⟩,h2,h3⟩
 match vs,h1 with
 | [x1,x2],h1=>
  have ex2:x2= .int .i64 0:=h1.2.1;subst ex2;exact⟨x1,rfl,((ag (xs:=yy S a f l y z) (ks:=[15,16,17,18,19,20,21]) (vs:=(Pq.mk (z.pose.rot.way (z.pose.rot.inv.mul y.pose.rot) (Fq.ratio (a - z.tm) (y.tm - z.tm))) (z.pose.pos.lerp y.pose.pos (Fq.ratio (a - z.tm) (y.tm - z.tm)))).cs) ⟨rfl,rfl,rfl,rfl,rfl,rfl,rfl,trivial⟩).1 h1.1),h3 rfl⟩
def xq_LenX (S:List St):List Fq:=[]
theorem q_Len {w:World} {g:Nat} {sl:Value} (S:List St) (h:TrkS 223 w g sl S) (hS:S.length≤64):
  Calls Tryz.prog 128 (.pointer (some ⟨g,0,none⟩)::[]).toArray w fun e w'=>e= .returned (.int .i64 (S.length:Int))∧Below w.heap.size w w':=by
 refine(aP (ρ:=frs (xq_LenX S)++([.rowB true sl stT S.length (aF S),.val (.int .i64 (S.length:Int))]:List Vp)) (w:=w) (fuel:=300) (m:=0) (S':=S) (args:=[.one (.ptr 0 0)]) (vs:=[.pointer (some ⟨g,0,none⟩)]) (r:=.v (.one (.ref 1))) (l:=.ref 0) (lo:=[]) (obs:=[]) h
  (ah)
  (af (bR (y:=0) (o:=0) (t:=154) ⟨_,Tryz.underlying154⟩) (af (ft 0 1 rfl rfl) (ai))) Tryz.func128 rfl (by kernel_rfl) aT ⟨dy,trivial⟩ (eL rfl)).mono ?_
 rintro e w' ⟨v,B',rfl,h1,h2,h3⟩;have ev:v= .int .i64 (S.length:Int):=aO rfl h1;subst ev;exact⟨rfl,h3 rfl⟩
structure RSt.sm (x:RSt):Prop where
 h0:x.r0.L≤1000000∧x.r0.N≤1000000
 h1:x.r1.L≤1000000∧x.r1.N≤1000000
 h2:x.r2.L≤1000000∧x.r2.N≤1000000
 h3:x.r3.L≤1000000∧x.r3.N≤1000000
 h4:x.r4.L≤1000000∧x.r4.N≤1000000
 h5:x.r5.L≤1000000∧x.r5.N≤1000000
 h6:x.r6.L≤1000000∧x.r6.N≤1000000
theorem Fq.ok.sm {x:Fq} (h:x.ok 2):x.raw.L≤1000000∧x.raw.N≤1000000:=⟨Nat.le_trans h.p (by decide),Nat.le_trans h.q (by decide)⟩
theorem St.sm {s:St} (h:s.pose.ok 2):s.raw.sm:=⟨h.rot.w.sm,h.rot.x.sm,h.rot.y.sm,h.rot.z.sm,h.pos.x.sm,h.pos.y.sm,h.pos.z.sm⟩
def pl (S:List St):Prop:=∀(i j:Nat) (x y:St),i<j→S[i]? =some x→S[j]? =some y→x.tm<y.tm
theorem pl.tail {s:St} {S:List St} (h:pl (s::S)):pl S:=fun i j x y hij hx hy=>h (i+1) (j+1) x y (by omega) (by simpa using hx) (by simpa using hy)
theorem nW:∀ {S:List St} {b:Int} {k:Nat} {x:St},pl S→plN S b≤k→S[k]? =some x→¬x.tm<b
 | [],_,_,_,_,_,h=>by simp at h
 | s::S,b,k,x,hs,hk,hx=>by
  simp only[plN]at hk;split at hk
  ·cases k with
   | zero=>omega
   | succ k=>exact nW (k:=k) hs.tail (by omega) (by simpa using hx)
  ·rename_i hsb
   cases k with
   | zero=>simp at hx;subst hx;exact hsb
   | succ k=>have:=hs 0 (k+1) s x (by omega) rfl hx;omega
section
variable {ρ:Rho} {n m j:Nat} {l la:Leaf} {x:St} {S1 S2 E:List St}
end
def xg (S:List St) (x:RSt) (v:Value):List Fq:=[]
theorem q_addRLo {w:World} {g:Nat} {sl:Value} (S:List St) (x:RSt) (v:Value) (h:TrkS 223 w g sl S) (i:IsRS w v x) (hx:x.sm) (r0:x.tm<0):
  Calls Tryz.prog 127 (.pointer (some ⟨g,0,none⟩)::[v]).toArray w fun e w'=>e= .returned (.int .i64 4)∧TrkM 223 w g sl S w':=by
 refine(aP (ρ:=frs (xg S x v)++([.rowB true sl stT S.length (aF S),.val (.int .i64 x.tm),.val (.bool x.r0.s),.dig x.r0.L x.r0.p,.dig x.r0.N x.r0.q,.val (.bool x.r1.s),.dig x.r1.L x.r1.p,.dig x.r1.N x.r1.q,.val (.bool x.r2.s),.dig x.r2.L x.r2.p,.dig x.r2.N x.r2.q,.val (.bool x.r3.s),.dig x.r3.L x.r3.p,.dig x.r3.N x.r3.q,.val (.bool x.r4.s),.dig x.r4.L x.r4.p,.dig x.r4.N x.r4.q,.val (.bool x.r5.s),.dig x.r5.L x.r5.p,.dig x.r5.N x.r5.q,.val (.bool x.r6.s),.dig x.r6.L x.r6.p,.dig x.r6.N x.r6.q]:List Vp)) (w:=w) (fuel:=300) (m:=0) (S':=S) (args:=[.one (.ptr 0 0),.agg [.ref 1,.ref 2,.ref 3,.ref 4,.ref 5,.ref 6,.ref 7,.ref 8,.ref 9,.ref 10,.ref 11,.ref 12,.ref 13,.ref 14,.ref 15,.ref 16,.ref 17,.ref 18,.ref 19,.ref 20,.ref 21,.ref 22]]) (vs:=[.pointer (some ⟨g,0,none⟩),v]) (r:=.v (.one (.i .i64 4))) (l:=.ref 0) (lo:=[]) (obs:=[]) h
  (ah)
  (af (bR (y:=0) (o:=0) (t:=154) ⟨_,Tryz.underlying154⟩) (af (aE (t:=3) (aw (n:=1) rfl) (aS (c:=0)) (bp (by omega))) (ai))) Tryz.func127 rfl (by kernel_rfl) aT ⟨dy,⟨(xa (n:=1) (ns:=[2,5,8,11,14,17,20]) (x:=x) rfl ⟨⟨rfl,rfl,rfl⟩,⟨rfl,rfl,rfl⟩,⟨rfl,rfl,rfl⟩,⟨rfl,rfl,rfl⟩,⟨rfl,rfl,rfl⟩,⟨rfl,rfl,rfl⟩,⟨rfl,rfl,rfl⟩,trivial⟩).2 i,trivial⟩⟩ (eL rfl)).mono ?_
 rintro e w' ⟨v,B',rfl,h1,h2,h3⟩;have e1:v= .int .i64 4:=h1;subst e1;exact⟨rfl,h2⟩
def xh (S:List St) (x:RSt) (v:Value):List Fq:=[]
theorem q_addRHi {w:World} {g:Nat} {sl:Value} (S:List St) (x:RSt) (v:Value) (h:TrkS 223 w g sl S) (i:IsRS w v x) (hx:x.sm) (r0:1099511627776<x.tm):
  Calls Tryz.prog 127 (.pointer (some ⟨g,0,none⟩)::[v]).toArray w fun e w'=>e= .returned (.int .i64 4)∧TrkM 223 w g sl S w':=by
 refine(aP (ρ:=frs (xh S x v)++([.rowB true sl stT S.length (aF S),.val (.int .i64 x.tm),.val (.bool x.r0.s),.dig x.r0.L x.r0.p,.dig x.r0.N x.r0.q,.val (.bool x.r1.s),.dig x.r1.L x.r1.p,.dig x.r1.N x.r1.q,.val (.bool x.r2.s),.dig x.r2.L x.r2.p,.dig x.r2.N x.r2.q,.val (.bool x.r3.s),.dig x.r3.L x.r3.p,.dig x.r3.N x.r3.q,.val (.bool x.r4.s),.dig x.r4.L x.r4.p,.dig x.r4.N x.r4.q,.val (.bool x.r5.s),.dig x.r5.L x.r5.p,.dig x.r5.N x.r5.q,.val (.bool x.r6.s),.dig x.r6.L x.r6.p,.dig x.r6.N x.r6.q]:List Vp)) (w:=w) (fuel:=300) (m:=0) (S':=S) (args:=[.one (.ptr 0 0),.agg [.ref 1,.ref 2,.ref 3,.ref 4,.ref 5,.ref 6,.ref 7,.ref 8,.ref 9,.ref 10,.ref 11,.ref 12,.ref 13,.ref 14,.ref 15,.ref 16,.ref 17,.ref 18,.ref 19,.ref 20,.ref 21,.ref 22]]) (vs:=[.pointer (some ⟨g,0,none⟩),v]) (r:=.v (.one (.i .i64 4))) (l:=.ref 0) (lo:=[]) (obs:=[]) h
  (ah)
  (af (bR (y:=0) (o:=0) (t:=154) ⟨_,Tryz.underlying154⟩) (af (aE (t:=3) (aw (n:=1) rfl) (aS (c:=0)) (aW (by omega))) (af (aE (t:=3) (aw (n:=1) rfl) (aS (c:=1099511627776)) (cj (by omega))) (ai)))) Tryz.func127 rfl (by kernel_rfl) aT ⟨dy,⟨(xa (n:=1) (ns:=[2,5,8,11,14,17,20]) (x:=x) rfl ⟨⟨rfl,rfl,rfl⟩,⟨rfl,rfl,rfl⟩,⟨rfl,rfl,rfl⟩,⟨rfl,rfl,rfl⟩,⟨rfl,rfl,rfl⟩,⟨rfl,rfl,rfl⟩,⟨rfl,rfl,rfl⟩,trivial⟩).2 i,trivial⟩⟩ (eL rfl)).mono ?_
 rintro e w' ⟨v,B',rfl,h1,h2,h3⟩;have e1:v= .int .i64 4:=h1;subst e1;exact⟨rfl,h2⟩
def uI (S:List St) (x:RSt) (v:Value):List Fq:=[]
theorem q_addRBad {w:World} {g:Nat} {sl:Value} (S:List St) (x:RSt) (v:Value) (h:TrkS 223 w g sl S) (i:IsRS w v x) (hx:x.sm) (r0:0≤x.tm) (r1:x.tm≤1099511627776) (hv:pk x.r0 x.r1 x.r2 x.r3 x.r4 x.r5 x.r6=false):
  Calls Tryz.prog 127 (.pointer (some ⟨g,0,none⟩)::[v]).toArray w fun e w'=>e= .returned (.int .i64 4)∧TrkM 223 w g sl S w':=by
 refine(aP (ρ:=frs (uI S x v)++([.rowB true sl stT S.length (aF S),.val (.int .i64 x.tm),.val (.bool x.r0.s),.dig x.r0.L x.r0.p,.dig x.r0.N x.r0.q,.val (.bool x.r1.s),.dig x.r1.L x.r1.p,.dig x.r1.N x.r1.q,.val (.bool x.r2.s),.dig x.r2.L x.r2.p,.dig x.r2.N x.r2.q,.val (.bool x.r3.s),.dig x.r3.L x.r3.p,.dig x.r3.N x.r3.q,.val (.bool x.r4.s),.dig x.r4.L x.r4.p,.dig x.r4.N x.r4.q,.val (.bool x.r5.s),.dig x.r5.L x.r5.p,.dig x.r5.N x.r5.q,.val (.bool x.r6.s),.dig x.r6.L x.r6.p,.dig x.r6.N x.r6.q]:List Vp)) (w:=w) (fuel:=300) (m:=0) (S':=S) (args:=[.one (.ptr 0 0),.agg [.ref 1,.ref 2,.ref 3,.ref 4,.ref 5,.ref 6,.ref 7,.ref 8,.ref 9,.ref 10,.ref 11,.ref 12,.ref 13,.ref 14,.ref 15,.ref 16,.ref 17,.ref 18,.ref 19,.ref 20,.ref 21,.ref 22]]) (vs:=[.pointer (some ⟨g,0,none⟩),v]) (r:=.v (.one (.i .i64 4))) (l:=.ref 0) (lo:=[]) (obs:=[]) h
  (ae (wZ (ns:=[2,5,8,11,14,17,20]) (r0:=x.r0) (r1:=x.r1) (r2:=x.r2) (r3:=x.r3) (r4:=x.r4) (r5:=x.r5) (r6:=x.r6) (d:=false) ⟨⟨rfl,rfl,rfl⟩,⟨rfl,rfl,rfl⟩,⟨rfl,rfl,rfl⟩,⟨rfl,rfl,rfl⟩,⟨rfl,rfl,rfl⟩,⟨rfl,rfl,rfl⟩,⟨rfl,rfl,rfl⟩,trivial⟩ hv hx.h0.1 hx.h0.2 hx.h1.1 hx.h1.2 hx.h2.1 hx.h2.2 hx.h3.1 hx.h3.2 hx.h4.1 hx.h4.2 hx.h5.1 hx.h5.2 hx.h6.1 hx.h6.2) ah)
  (af (bR (y:=0) (o:=0) (t:=154) ⟨_,Tryz.underlying154⟩) (af (aE (t:=3) (aw (n:=1) rfl) (aS (c:=0)) (aW (by omega))) (af (aE (t:=3) (aw (n:=1) rfl) (aS (c:=1099511627776)) (aV (by omega))) (ai)))) Tryz.func127 rfl (by kernel_rfl) aT ⟨dy,⟨(xa (n:=1) (ns:=[2,5,8,11,14,17,20]) (x:=x) rfl ⟨⟨rfl,rfl,rfl⟩,⟨rfl,rfl,rfl⟩,⟨rfl,rfl,rfl⟩,⟨rfl,rfl,rfl⟩,⟨rfl,rfl,rfl⟩,⟨rfl,rfl,rfl⟩,⟨rfl,rfl,rfl⟩,trivial⟩).2 i,trivial⟩⟩ (eL rfl)).mono ?_
 rintro e w' ⟨v,B',rfl,h1,h2,h3⟩;have e1:v= .int .i64 4:=h1;subst e1;exact⟨rfl,h2⟩
structure GoodT (s:St):Prop where
 ok:s.pose.ok 2
 good:s.pose.good
 lo:0≤s.tm
 hi:s.tm≤1099511627776
structure GoodS (S:List St):Prop where
 len:S.length≤64
 all:∀x∈S,GoodT x
 sort:pl S
 adj:∀(i:Nat) (x y:St),S[i]? =some x→S[i+1]? =some y→¬opp x.pose y.pose
theorem GoodS.at {S:List St} (h:GoodS S) {k:Nat} {x:St} (hx:S[k]? =some x):GoodT x:=h.all x (List.mem_of_getElem? hx)
theorem GoodS.nil:GoodS []:=⟨by simp,fun x h=>by simp at h,fun i j x y _ h=>by simp at h,fun i x y h=>by simp at h⟩
theorem GoodS.drop {S:List St} (h:GoodS S) (k:Nat):GoodS (S.drop k) where
 len:=by have:=h.len;rw[List.length_drop];omega
 all:=fun x hx=>h.all x (List.mem_of_mem_drop hx)
 sort:=fun i j x y hij hx hy=>by rw[List.getElem?_drop]at hx hy;exact h.sort _ _ _ _ (by omega) hx hy
 adj:=fun i x y hx hy=>by rw[List.getElem?_drop]at hx hy;exact h.adj (k+i) x y hx (by rw[←hy];rfl)
theorem sP {S:List St} {p i:Nat} {s:St} (hp:p≤S.length) (h:i<p):(aN S p s)[i]? =S[i]? :=by
 unfold aN;rw[List.getElem?_append_left (by rw[List.length_take];omega),List.getElem?_take,if_pos h]
theorem sQ {S:List St} {p:Nat} {s:St} (hp:p≤S.length):(aN S p s)[p]? =some s:=by
 unfold aN;have h1:(S.take p).length=p:=by rw[List.length_take];omega
 rw[List.getElem?_append_right (by omega),h1,Nat.sub_self];rfl
theorem pm {S:List St} {p i:Nat} {s:St} (hp:p≤S.length) (h:p≤i):(aN S p s)[i+1]? =S[i]? :=by
 unfold aN;have h1:(S.take p).length=p:=by rw[List.length_take];omega
 rw[List.getElem?_append_right (by omega),h1,show i+1 - p=(i - p)+1 by omega,List.getElem?_cons_succ,List.getElem?_drop,show p+(i - p)=i by omega]
theorem uJ {S:List St} {s:St} (h:pl S) (hn:∀y,S[plN S s.tm]? =some y→y.tm≠s.tm):pl (aN S (plN S s.tm) s):=by
 have hp:=bH S s.tm;have hb:∀i x,i<plN S s.tm→S[i]? =some x→x.tm<s.tm:=fun i x hi hx=>by
  obtain⟨x',h1,h2⟩:=fq hi;rw[h1]at hx;injection hx with hx;subst hx;exact h2
 have ha:∀i x,plN S s.tm≤i→S[i]? =some x→s.tm<x.tm:=fun i x hi hx=>by
  have h1:=nW h hi hx;by_cases e:i=plN S s.tm
  ·subst e;have:=hn x hx;omega
  ·have hl:plN S s.tm<S.length:=by have:=(List.getElem?_eq_some_iff.1 hx).1;omega
   have h2:=h _ _ _ _ (show plN S s.tm<i by omega) (List.getElem?_eq_getElem hl) hx;have h3:=nW h (Nat.le_refl _) (List.getElem?_eq_getElem hl);omega
 intro i j x y hij hx hy;rcases Nat.lt_trichotomy i (plN S s.tm)with hi | hi | hi
 ·rw[sP hp hi]at hx;rcases Nat.lt_trichotomy j (plN S s.tm)with hj | hj | hj
  ·rw[sP hp hj]at hy;exact h _ _ _ _ hij hx hy
  ·subst hj;rw[sQ hp]at hy;injection hy with hy;subst hy;exact hb i x hi hx
  ·obtain⟨j,rfl⟩:∃k,j=k+1:=⟨j - 1,by omega⟩;rw[pm hp (by omega)]at hy;have:=hb i x hi hx;have:=ha j y (by omega) hy;omega
 ·subst hi;rw[sQ hp]at hx;injection hx with hx;subst hx;obtain⟨j,rfl⟩:∃k,j=k+1:=⟨j - 1,by omega⟩;rw[pm hp (by omega)]at hy;exact ha j y (by omega) hy
 ·obtain⟨j,rfl⟩:∃k,j=k+1:=⟨j - 1,by omega⟩;obtain⟨i,rfl⟩:∃k,i=k+1:=⟨i - 1,by omega⟩;rw[pm hp (by omega)]at hx hy;exact h _ _ _ _ (by omega) hx hy
theorem yz {S:List St} {s:St} (h:GoodS S) (hz:∀z,0<plN S s.tm→S[plN S s.tm - 1]? =some z→¬opp z.pose s.pose) (hy:∀y,S[plN S s.tm]? =some y→¬opp s.pose y.pose):∀(i:Nat) (x y:St),(aN S (plN S s.tm) s)[i]? =some x→(aN S (plN S s.tm) s)[i+1]? =some y→¬opp x.pose y.pose:=by
 have hp:=bH S s.tm;intro i x y hx hy';rcases Nat.lt_trichotomy i (plN S s.tm)with hi | hi | hi
 ·rw[sP hp hi]at hx;by_cases e:i+1=plN S s.tm
  ·rw[e,sQ hp]at hy';injection hy' with hy';subst hy';exact hz x (by omega) (by rw[←e];exact hx)
  ·rw[sP hp (by omega)]at hy';exact h.adj i x y hx hy'
 ·subst hi;rw[sQ hp]at hx;injection hx with hx;subst hx;rw[pm hp (Nat.le_refl _)]at hy';exact hy y hy'
 ·obtain⟨i,rfl⟩:∃k,i=k+1:=⟨i - 1,by omega⟩;rw[pm hp (by omega)]at hx hy';exact h.adj i x y hx hy'
open Classical in
noncomputable def sR (S:List St) (s:St):List St×Int:=
 if s.tm<0∨1099511627776<s.tm then(S,4)
 else if∃y,S[plN S s.tm]? =some y∧y.tm=s.tm∧y.pose=s.pose then(S,0)
 else if∃y,S[plN S s.tm]? =some y∧y.tm=s.tm then(S,7)
 else if (∃z,0<plN S s.tm∧S[plN S s.tm - 1]? =some z∧opp z.pose s.pose)∨(∃y,S[plN S s.tm]? =some y∧opp s.pose y.pose)then(S,21)
 else if S.length<64 then(aN S (plN S s.tm) s,0)else((aN S (plN S s.tm) s).drop 1,0)
theorem addS_good {S:List St} {s:St} (h:GoodS S) (hs:s.pose.ok 2) (gs:s.pose.good):GoodS (sR S s).1:=by
 unfold sR;split
 ·exact h
 ·rename_i ht;split
  ·exact h
  ·split
   ·exact h
   ·rename_i h1 h2;split
    ·exact h
    ·rename_i h3;have hp:=bH S s.tm;have hn:∀y,S[plN S s.tm]? =some y→y.tm≠s.tm:=fun y hy e=>h2 ⟨y,hy,e⟩
     have hz:∀z,0<plN S s.tm→S[plN S s.tm - 1]? =some z→¬opp z.pose s.pose:=fun z h0 hz ho=>h3 (.inl ⟨z,h0,hz,ho⟩)
     have hy:∀y,S[plN S s.tm]? =some y→¬opp s.pose y.pose:=fun y hy ho=>h3 (.inr ⟨y,hy,ho⟩)
     have hg:∀x∈aN S (plN S s.tm) s,GoodT x:=fun x hx=>by
      unfold aN at hx;rcases List.mem_append.1 hx with hx | hx
      ·exact h.all x (List.mem_of_mem_take hx)
      ·rcases List.mem_cons.1 hx with hx | hx
       ·subst hx;exact⟨hs,gs,by omega,by omega⟩
       ·exact h.all x (List.mem_of_mem_drop hx)
     have hl:=bI (s:=s) hp;split
     ·exact⟨by show(aN S (plN S s.tm) s).length≤64;omega,hg,uJ h.sort hn,yz h hz hy⟩
     ·have hd:((aN S (plN S s.tm) s).drop 1).length=(aN S (plN S s.tm) s).length - 1:=List.length_drop ..;have hlen:=h.len;refine⟨by show((aN S (plN S s.tm) s).drop 1).length≤64;omega,fun x hx=>hg x (List.mem_of_mem_drop hx),fun i j x y hij hx hy'=> ?_,fun i x y hx hy'=> ?_⟩
      ·simp only[List.getElem?_drop]at hx hy';exact uJ h.sort hn _ _ _ _ (by omega) hx hy'
      ·simp only[List.getElem?_drop]at hx hy';exact yz h hz hy (1+i) x y hx (by rw[←hy'];rfl)
theorem q_Add (S:List St) (s:St) (v:Value) {w:World} {g:Nat} {sl:Value} (h:TrkS 223 w g sl S) (i:gA w v s) (hs:s.pose.ok 2) (gs:s.pose.good) (hS:GoodS S):
  Calls Tryz.prog 127 (.pointer (some ⟨g,0,none⟩)::[v]).toArray w fun e w'=>e= .returned (.int .i64 (sR S s).2)∧TrkM 223 w g sl (sR S s).1 w':=by
 have hp:=bH S s.tm;have hlen:=hS.len;unfold sR;split
 ·rename_i ht;rcases ht with ht | ht
  ·exact q_addLo S s v h i hs gs hlen ht
  ·exact q_addHi S s v h i hs gs hlen ht
 ·rename_i ht;have r0:0≤s.tm:=by omega
  have r1:s.tm≤1099511627776:=by omega
  split
  ·rename_i h1;obtain⟨y,hy,ey,ep⟩:=h1;have hg:=hS.at hy;exact zY S s v h i hs gs hlen r0 r1 (List.getElem?_eq_some_iff.1 hy).1 y hy hg.ok hg.good ey ep
  ·rename_i h1;split
   ·rename_i h2;obtain⟨y,hy,ey⟩:=h2;have hg:=hS.at hy;exact q_addBad S s v h i hs gs hlen r0 r1 (List.getElem?_eq_some_iff.1 hy).1 y hy hg.ok hg.good ey (fun e=>h1 ⟨y,hy,ey,e⟩)
   ·rename_i h2;have hpz:∀hz:0<plN S s.tm,∃z,S[plN S s.tm - 1]? =some z:=fun hz=>⟨_,List.getElem?_eq_getElem (by omega)⟩
    by_cases hq:plN S s.tm<S.length
    ·obtain⟨y,hy⟩:∃y,S[plN S s.tm]? =some y:=⟨_,List.getElem?_eq_getElem hq⟩;have hg:=hS.at hy;have ey:y.tm≠s.tm:=fun e=>h2 ⟨y,hy,e⟩
     have ho:=nW hS.sort (Nat.le_refl _) hy;by_cases hp0:plN S s.tm=0
     ·split
      ·rename_i h3;have oy:opp s.pose y.pose:=by
        rcases h3 with⟨z,h0,_⟩ | ⟨y',hy',o⟩
        ·omega
        ·rw[hy]at hy';injection hy' with hy';subst hy';exact o
       exact q_addB0 S s v h i hs gs hlen r0 r1 hq hp0 y hy hg.ok hg.good ey ho oy
      ·rename_i h3;have oy:¬opp s.pose y.pose:=fun o=>h3 (.inr ⟨y,hy,o⟩)
       split
       ·rename_i hl;exact q_addI0 S s v h i hs gs hlen r0 r1 hq hp0 y hy hg.ok hg.good ey ho oy hl
       ·exact q_addI0D S s v h i hs gs hlen r0 r1 hq hp0 y hy hg.ok hg.good ey ho oy (by omega)
     ·obtain⟨z,hz⟩:=hpz (by omega);have hgz:=hS.at hz;by_cases oz:opp z.pose s.pose
      ·rw[if_pos (.inl ⟨z,by omega,hz,oz⟩)];exact q_addBM S s v h i hs gs hlen r0 r1 hq y hy hg.ok hg.good ey ho z hz hgz.ok hgz.good (by omega) oz
      ·by_cases oy:opp s.pose y.pose
       ·rw[if_pos (.inr ⟨y,hy,oy⟩)];exact q_addBN S s v h i hs gs hlen r0 r1 hq y hy hg.ok hg.good ey ho z hz hgz.ok hgz.good (by omega) oz oy
       ·rw[if_neg (fun h3=>by
         rcases h3 with⟨z',_,hz',o⟩ | ⟨y',hy',o⟩
         ·rw[hz]at hz';injection hz' with hz';subst hz';exact oz o
         ·rw[hy]at hy';injection hy' with hy';subst hy';exact oy o)]
        split
        ·rename_i hl;exact q_addIM S s v h i hs gs hlen r0 r1 hq y hy hg.ok hg.good ey ho z hz hgz.ok hgz.good (by omega) oz oy hl
        ·exact q_addIMD S s v h i hs gs hlen r0 r1 hq y hy hg.ok hg.good ey ho z hz hgz.ok hgz.good (by omega) oz oy (by omega)
    ·have hq:plN S s.tm=S.length:=by omega
     have hny:∀y,S[plN S s.tm]? ≠some y:=fun y hy=>by have:=(List.getElem?_eq_some_iff.1 hy).1;omega
     by_cases hp0:plN S s.tm=0
     ·rw[if_neg (fun h3=>by
       rcases h3 with⟨z',h0,_⟩ | ⟨y',hy',o⟩
       ·omega
       ·exact hny _ hy'),if_pos (by omega)]
      exact q_addN S s v h i hs gs hlen r0 r1 hq hp0
     ·obtain⟨z,hz⟩:=hpz (by omega);have hgz:=hS.at hz;by_cases oz:opp z.pose s.pose
      ·rw[if_pos (.inl ⟨z,by omega,hz,oz⟩)];exact q_addBE S s v h i hs gs hlen r0 r1 hq z hz hgz.ok hgz.good (by omega) oz
      ·rw[if_neg (fun h3=>by
        rcases h3 with⟨z',_,hz',o⟩ | ⟨y',hy',o⟩
        ·rw[hz]at hz';injection hz' with hz';subst hz';exact oz o
        ·exact hny _ hy')]
       split
       ·rename_i hl;exact q_addIE S s v h i hs gs hlen r0 r1 hq z hz hgz.ok hgz.good (by omega) oz hl
       ·exact q_addIED S s v h i hs gs hlen r0 r1 hq z hz hgz.ok hgz.good (by omega) oz (by omega)
end Go.Proofs.YtggfmklppkioeaaGreat
