/- Which poses are valid, as they come in. Tracks: stamps as they come in; calls of methods that read; appends of stamps; more loops. Tracks: around, At, Around, Span, Len, Drop. Tracks: stamps as they come in, List. Tracks: the reference's Add. Tracks: what a track is, what Add makes of it. Tracks: rows as they come in. Tracks: Add at a stamp as it comes in; instances of Add and of New. Tracks: what lies around a time, and the pose there. Tracks: what lies around a time stays when stamps are dropped or added elsewhere. Trees of frames: the plain law. A tree is its links, in the order in which they were attached. Trees of frames: what keeps them trees. Tracks: rows of operations, and what they make of a track. Trees of frames: what the functions ask of a tree. Oracles of places, rows and maps whose parts have footprints of their own. -/
import Derived.Test.YtggfmklppkioeaaGreatP12
import Derived.MapKept
namespace Go.Proofs.YtggfmklppkioeaaGreat
set_option linter.unusedSimpArgs false
set_option linter.unusedVariables false
set_option maxRecDepth 100000
open Go.RowKit
/-- The parts are valid, the first that is not zero is one. -/
def uc (r0 r1 r2 r3:Rq):Bool:=(r0.vld && (r1.vld && (r2.vld && r3.vld))) && (Qq.mk ⟨r0.s,r0.p,r0.q⟩ ⟨r1.s,r1.p,r1.q⟩ ⟨r2.s,r2.p,r2.q⟩ ⟨r3.s,r3.p,r3.q⟩).first.same (Fq.ofInt 1)
def dB (r0 r1 r2 r3:Rq):List Fq:=[]
theorem zZ (x:Value) (r0 r1 r2 r3:Rq) (w:World) (h:IsL w x [r0,r1,r2,r3]):Calls Tryz.prog 177 #[x] w fun e w'=>RetL w [r0,r1,r2,r3] e w':=by
 refine(cRn (ρ:=frs (dB r0 r1 r2 r3)++ [.val (.bool r0.s),.dig r0.L r0.p,.dig r0.N r0.q,.val (.bool r1.s),.dig r1.L r1.p,.dig r1.N r1.q,.val (.bool r2.s),.dig r2.L r2.p,.dig r2.N r2.q,.val (.bool r3.s),.dig r3.L r3.p,.dig r3.N r3.q]) (args:=[eE [0,3,6,9]]) (vs:=[x]) (r:=.v (eE [0,3,6,9]))
  (ah) ai Tryz.func177 (by kernel_rfl) ⟨(bn (ns:=[0,3,6,9]) (rs:=[r0,r1,r2,r3]) ⟨⟨rfl,rfl,rfl⟩,⟨rfl,rfl,rfl⟩,⟨rfl,rfl,rfl⟩,⟨rfl,rfl,rfl⟩,trivial⟩).2 h,trivial⟩).mono ?_
 rintro e w' ⟨v,rfl,h1,h2⟩
 exact⟨v,rfl,(bn (ns:=[0,3,6,9]) (rs:=[r0,r1,r2,r3]) ⟨⟨rfl,rfl,rfl⟩,⟨rfl,rfl,rfl⟩,⟨rfl,rfl,rfl⟩,⟨rfl,rfl,rfl⟩,trivial⟩).1 h1,h2⟩
theorem lG {xs:List Fq} {ys:Rho} {ns:List Nat} {r0 r1 r2 r3:Rq} (hr:AtR (frs xs++ys) ns [r0,r1,r2,r3]):OkI xs ys ⟨177,[eE ns],.v (eE ns)⟩:=
 ⟨aw Tryz.func177 rfl rfl,fun B w vs hB h=>by
  match vs,h with
  | [va],h=>
   refine(zZ va r0 r1 r2 r3 w ((bn hr).1 h.1)).mono ?_
   rintro e w' ⟨v,rfl,h1,h2⟩
   exact⟨v,rfl,(bn hr).2 h1,h2⟩⟩
def ud (r0 r1 r2 r3:Rq):List Fq:=[]
def ue (r0 r1 r2 r3:Rq):List Fq:=[]
def uf (r0 r1 r2 r3:Rq):List Fq:=[]
def ug (r0 r1 r2 r3:Rq):List Fq:=[]
theorem xb (x:Value) (r0 r1 r2 r3:Rq) (w:World) (h:IsL w x [r0,r1,r2,r3]) (lr0:r0.L≤1000000) (nr0:r0.N≤1000000) (lr1:r1.L≤1000000) (nr1:r1.N≤1000000) (lr2:r2.L≤1000000) (nr2:r2.N≤1000000) (lr3:r3.L≤1000000) (nr3:r3.N≤1000000) (hne:(r0.vld && (r1.vld && (r2.vld && r3.vld)))=false):Calls Tryz.prog 181 #[x] w fun e w'=>cw w (.bool false) e w':=by
 rcases Bool.eq_false_or_eq_true (r0.vld)with c0 | c0
 ·rcases Bool.eq_false_or_eq_true (r1.vld)with c1 | c1
  ·rcases Bool.eq_false_or_eq_true (r2.vld)with c2 | c2
   ·rcases Bool.eq_false_or_eq_true (r3.vld)with c3 | c3
    ·exact absurd hne (by rw[c0,c1,c2,c3];decide)
    ·refine(cRn (ρ:=frs (ud r0 r1 r2 r3)++ [.val (.bool r0.s),.dig r0.L r0.p,.dig r0.N r0.q,.val (.bool r1.s),.dig r1.L r1.p,.dig r1.N r1.q,.val (.bool r2.s),.dig r2.L r2.p,.dig r2.N r2.q,.val (.bool r3.s),.dig r3.L r3.p,.dig r3.N r3.q]) (args:=[eE [0,3,6,9]]) (vs:=[x]) (r:=.v (.one (.b false)))
      (ae (lG (ns:=[0,3,6,9]) ⟨⟨rfl,rfl,rfl⟩,⟨rfl,rfl,rfl⟩,⟨rfl,rfl,rfl⟩,⟨rfl,rfl,rfl⟩,trivial⟩) (ae (aW (n:=0) (r:=r0) (d:=true) ⟨⟨rfl,rfl,rfl⟩,trivial⟩ c0 lr0 nr0) (ae (aW (n:=3) (r:=r1) (d:=true) ⟨⟨rfl,rfl,rfl⟩,trivial⟩ c1 lr1 nr1) (ae (aW (n:=6) (r:=r2) (d:=true) ⟨⟨rfl,rfl,rfl⟩,trivial⟩ c2 lr2 nr2) (ae (aW (n:=9) (r:=r3) (d:=false) ⟨⟨rfl,rfl,rfl⟩,trivial⟩ c3 lr3 nr3) (ah)))))) ai Tryz.func181 (by kernel_rfl) ⟨(bn (ns:=[0,3,6,9]) (rs:=[r0,r1,r2,r3]) ⟨⟨rfl,rfl,rfl⟩,⟨rfl,rfl,rfl⟩,⟨rfl,rfl,rfl⟩,⟨rfl,rfl,rfl⟩,trivial⟩).2 h,trivial⟩).mono ?_
     rintro e w' ⟨v,rfl,h1,h2⟩
     exact⟨congrArg Ending.returned h1,h2⟩
   ·refine(cRn (ρ:=frs (ue r0 r1 r2 r3)++ [.val (.bool r0.s),.dig r0.L r0.p,.dig r0.N r0.q,.val (.bool r1.s),.dig r1.L r1.p,.dig r1.N r1.q,.val (.bool r2.s),.dig r2.L r2.p,.dig r2.N r2.q,.val (.bool r3.s),.dig r3.L r3.p,.dig r3.N r3.q]) (args:=[eE [0,3,6,9]]) (vs:=[x]) (r:=.v (.one (.b false)))
     (ae (lG (ns:=[0,3,6,9]) ⟨⟨rfl,rfl,rfl⟩,⟨rfl,rfl,rfl⟩,⟨rfl,rfl,rfl⟩,⟨rfl,rfl,rfl⟩,trivial⟩) (ae (aW (n:=0) (r:=r0) (d:=true) ⟨⟨rfl,rfl,rfl⟩,trivial⟩ c0 lr0 nr0) (ae (aW (n:=3) (r:=r1) (d:=true) ⟨⟨rfl,rfl,rfl⟩,trivial⟩ c1 lr1 nr1) (ae (aW (n:=6) (r:=r2) (d:=false) ⟨⟨rfl,rfl,rfl⟩,trivial⟩ c2 lr2 nr2) (ah))))) ai Tryz.func181 (by kernel_rfl) ⟨(bn (ns:=[0,3,6,9]) (rs:=[r0,r1,r2,r3]) ⟨⟨rfl,rfl,rfl⟩,⟨rfl,rfl,rfl⟩,⟨rfl,rfl,rfl⟩,⟨rfl,rfl,rfl⟩,trivial⟩).2 h,trivial⟩).mono ?_
    rintro e w' ⟨v,rfl,h1,h2⟩
    exact⟨congrArg Ending.returned h1,h2⟩
  ·refine(cRn (ρ:=frs (uf r0 r1 r2 r3)++ [.val (.bool r0.s),.dig r0.L r0.p,.dig r0.N r0.q,.val (.bool r1.s),.dig r1.L r1.p,.dig r1.N r1.q,.val (.bool r2.s),.dig r2.L r2.p,.dig r2.N r2.q,.val (.bool r3.s),.dig r3.L r3.p,.dig r3.N r3.q]) (args:=[eE [0,3,6,9]]) (vs:=[x]) (r:=.v (.one (.b false)))
    (ae (lG (ns:=[0,3,6,9]) ⟨⟨rfl,rfl,rfl⟩,⟨rfl,rfl,rfl⟩,⟨rfl,rfl,rfl⟩,⟨rfl,rfl,rfl⟩,trivial⟩) (ae (aW (n:=0) (r:=r0) (d:=true) ⟨⟨rfl,rfl,rfl⟩,trivial⟩ c0 lr0 nr0) (ae (aW (n:=3) (r:=r1) (d:=false) ⟨⟨rfl,rfl,rfl⟩,trivial⟩ c1 lr1 nr1) (ah)))) ai Tryz.func181 (by kernel_rfl) ⟨(bn (ns:=[0,3,6,9]) (rs:=[r0,r1,r2,r3]) ⟨⟨rfl,rfl,rfl⟩,⟨rfl,rfl,rfl⟩,⟨rfl,rfl,rfl⟩,⟨rfl,rfl,rfl⟩,trivial⟩).2 h,trivial⟩).mono ?_
   rintro e w' ⟨v,rfl,h1,h2⟩
   exact⟨congrArg Ending.returned h1,h2⟩
 ·refine(cRn (ρ:=frs (ug r0 r1 r2 r3)++ [.val (.bool r0.s),.dig r0.L r0.p,.dig r0.N r0.q,.val (.bool r1.s),.dig r1.L r1.p,.dig r1.N r1.q,.val (.bool r2.s),.dig r2.L r2.p,.dig r2.N r2.q,.val (.bool r3.s),.dig r3.L r3.p,.dig r3.N r3.q]) (args:=[eE [0,3,6,9]]) (vs:=[x]) (r:=.v (.one (.b false)))
   (ae (lG (ns:=[0,3,6,9]) ⟨⟨rfl,rfl,rfl⟩,⟨rfl,rfl,rfl⟩,⟨rfl,rfl,rfl⟩,⟨rfl,rfl,rfl⟩,trivial⟩) (ae (aW (n:=0) (r:=r0) (d:=false) ⟨⟨rfl,rfl,rfl⟩,trivial⟩ c0 lr0 nr0) (ah))) ai Tryz.func181 (by kernel_rfl) ⟨(bn (ns:=[0,3,6,9]) (rs:=[r0,r1,r2,r3]) ⟨⟨rfl,rfl,rfl⟩,⟨rfl,rfl,rfl⟩,⟨rfl,rfl,rfl⟩,⟨rfl,rfl,rfl⟩,trivial⟩).2 h,trivial⟩).mono ?_
  rintro e w' ⟨v,rfl,h1,h2⟩
  exact⟨congrArg Ending.returned h1,h2⟩
theorem xc (vq:Value) (q:Qq) (w:World) (iq:fm w vq q) (hq:q.ok 1000000) (gc:q.comp):Calls Tryz.prog 181 #[vq] w fun e w'=>cw w (.bool (q.first.same (Fq.ofInt 1))) e w':=by
 by_cases h:q.first=Fq.ofInt 1
 ·rw[Fq.same_iff.2 h];exact ol vq q w iq hq (vD gc h)
 ·rw[same_ne h];exact tV vq q w iq hq gc h
theorem uh (x:Value) (r0 r1 r2 r3:Rq) (w:World) (h:IsL w x [r0,r1,r2,r3]) (lr0:r0.L≤1000000) (nr0:r0.N≤1000000) (lr1:r1.L≤1000000) (nr1:r1.N≤1000000) (lr2:r2.L≤1000000) (nr2:r2.N≤1000000) (lr3:r3.L≤1000000) (nr3:r3.N≤1000000):Calls Tryz.prog 181 #[x] w fun e w'=>cw w (.bool (uc r0 r1 r2 r3)) e w':=by
 rcases Bool.eq_false_or_eq_true (r0.vld && (r1.vld && (r2.vld && r3.vld)))with hv | hv
 ·unfold uc
  rw[hv,Bool.true_and]
  simp only[Bool.and_eq_true]at hv
  obtain⟨h0,h1,h2,h3⟩:=hv
  have k0:=qO h0;have k1:=qO h1;have k2:=qO h2;have k3:=qO h3
  have m0:=cW h0;have m1:=cW h1;have m2:=cW h2;have m3:=cW h3
  refine xc x (Qq.mk ⟨r0.s,r0.p,r0.q⟩ ⟨r1.s,r1.p,r1.q⟩ ⟨r2.s,r2.p,r2.q⟩ ⟨r3.s,r3.p,r3.q⟩) w (by have h':=h;rw[m0.1,m1.1,m2.1,m3.1]at h';exact h') ⟨⟨?_,?_,Fq.valid.n m0.2⟩,⟨?_,?_,Fq.valid.n m1.2⟩,⟨?_,?_,Fq.valid.n m2.2⟩,⟨?_,?_,Fq.valid.n m3.2⟩⟩ ⟨m0.2,m1.2,m2.2,m3.2⟩
  ·show nl r0.p≤_;omega
  ·show nl r0.q≤_;omega
  ·show nl r1.p≤_;omega
  ·show nl r1.q≤_;omega
  ·show nl r2.p≤_;omega
  ·show nl r2.q≤_;omega
  ·show nl r3.p≤_;omega
  ·show nl r3.q≤_;omega
 ·unfold uc
  rw[hv,Bool.false_and]
  exact xb x r0 r1 r2 r3 w h lr0 nr0 lr1 nr1 lr2 nr2 lr3 nr3 hv
def qP (r0 r1 r2:Rq):Bool:=r0.vld && (r1.vld && r2.vld)
def qQ (r0 r1 r2 r3 r4 r5 r6:Rq):Bool:=uc r0 r1 r2 r3 && qP r4 r5 r6
def ui (r0 r1 r2:Rq):List Fq:=[]
def uj (r0 r1 r2:Rq):List Fq:=[]
def uk (r0 r1 r2:Rq):List Fq:=[]
def ul (r0 r1 r2:Rq):List Fq:=[]
theorem xd (x:Value) (r0 r1 r2:Rq) (w:World) (h:IsL w x [r0,r1,r2]) (lr0:r0.L≤1000000) (nr0:r0.N≤1000000) (lr1:r1.L≤1000000) (nr1:r1.N≤1000000) (lr2:r2.L≤1000000) (nr2:r2.N≤1000000):Calls Tryz.prog 182 #[x] w fun e w'=>cw w (.bool (qP r0 r1 r2)) e w':=by
 rcases Bool.eq_false_or_eq_true (r0.vld)with c0 | c0
 ·rcases Bool.eq_false_or_eq_true (r1.vld)with c1 | c1
  ·rcases Bool.eq_false_or_eq_true (r2.vld)with c2 | c2
   ·refine(cRn (ρ:=frs (ui r0 r1 r2)++ [.val (.bool r0.s),.dig r0.L r0.p,.dig r0.N r0.q,.val (.bool r1.s),.dig r1.L r1.p,.dig r1.N r1.q,.val (.bool r2.s),.dig r2.L r2.p,.dig r2.N r2.q]) (args:=[eE [0,3,6]]) (vs:=[x]) (r:=.v (.one (.b true)))
     (ae (aW (n:=0) (r:=r0) (d:=true) ⟨⟨rfl,rfl,rfl⟩,trivial⟩ c0 lr0 nr0) (ae (aW (n:=3) (r:=r1) (d:=true) ⟨⟨rfl,rfl,rfl⟩,trivial⟩ c1 lr1 nr1) (ae (aW (n:=6) (r:=r2) (d:=true) ⟨⟨rfl,rfl,rfl⟩,trivial⟩ c2 lr2 nr2) ah)))
     ai Tryz.func182 (by kernel_rfl) ⟨(bn (ns:=[0,3,6]) (rs:=[r0,r1,r2]) ⟨⟨rfl,rfl,rfl⟩,⟨rfl,rfl,rfl⟩,⟨rfl,rfl,rfl⟩,trivial⟩).2 h,trivial⟩).mono ?_
    rintro e w' ⟨v,rfl,h1,h2⟩
    have h1:v= .bool _:=h1
    subst h1
    exact⟨by simp[qP,c0,c1,c2],h2⟩
   ·refine(cRn (ρ:=frs (uj r0 r1 r2)++ [.val (.bool r0.s),.dig r0.L r0.p,.dig r0.N r0.q,.val (.bool r1.s),.dig r1.L r1.p,.dig r1.N r1.q,.val (.bool r2.s),.dig r2.L r2.p,.dig r2.N r2.q]) (args:=[eE [0,3,6]]) (vs:=[x]) (r:=.v (.one (.b false)))
     (ae (aW (n:=0) (r:=r0) (d:=true) ⟨⟨rfl,rfl,rfl⟩,trivial⟩ c0 lr0 nr0) (ae (aW (n:=3) (r:=r1) (d:=true) ⟨⟨rfl,rfl,rfl⟩,trivial⟩ c1 lr1 nr1) (ae (aW (n:=6) (r:=r2) (d:=false) ⟨⟨rfl,rfl,rfl⟩,trivial⟩ c2 lr2 nr2) ah)))
     ai Tryz.func182 (by kernel_rfl) ⟨(bn (ns:=[0,3,6]) (rs:=[r0,r1,r2]) ⟨⟨rfl,rfl,rfl⟩,⟨rfl,rfl,rfl⟩,⟨rfl,rfl,rfl⟩,trivial⟩).2 h,trivial⟩).mono ?_
    rintro e w' ⟨v,rfl,h1,h2⟩
    have h1:v= .bool _:=h1
    subst h1
    exact⟨by simp[qP,c0,c1,c2],h2⟩
  ·refine(cRn (ρ:=frs (uk r0 r1 r2)++ [.val (.bool r0.s),.dig r0.L r0.p,.dig r0.N r0.q,.val (.bool r1.s),.dig r1.L r1.p,.dig r1.N r1.q,.val (.bool r2.s),.dig r2.L r2.p,.dig r2.N r2.q]) (args:=[eE [0,3,6]]) (vs:=[x]) (r:=.v (.one (.b false)))
    (ae (aW (n:=0) (r:=r0) (d:=true) ⟨⟨rfl,rfl,rfl⟩,trivial⟩ c0 lr0 nr0) (ae (aW (n:=3) (r:=r1) (d:=false) ⟨⟨rfl,rfl,rfl⟩,trivial⟩ c1 lr1 nr1) ah))
    ai Tryz.func182 (by kernel_rfl) ⟨(bn (ns:=[0,3,6]) (rs:=[r0,r1,r2]) ⟨⟨rfl,rfl,rfl⟩,⟨rfl,rfl,rfl⟩,⟨rfl,rfl,rfl⟩,trivial⟩).2 h,trivial⟩).mono ?_
   rintro e w' ⟨v,rfl,h1,h2⟩
   have h1:v= .bool _:=h1
   subst h1
   exact⟨by simp[qP,c0,c1],h2⟩
 ·refine(cRn (ρ:=frs (ul r0 r1 r2)++ [.val (.bool r0.s),.dig r0.L r0.p,.dig r0.N r0.q,.val (.bool r1.s),.dig r1.L r1.p,.dig r1.N r1.q,.val (.bool r2.s),.dig r2.L r2.p,.dig r2.N r2.q]) (args:=[eE [0,3,6]]) (vs:=[x]) (r:=.v (.one (.b false)))
   (ae (aW (n:=0) (r:=r0) (d:=false) ⟨⟨rfl,rfl,rfl⟩,trivial⟩ c0 lr0 nr0) ah)
   ai Tryz.func182 (by kernel_rfl) ⟨(bn (ns:=[0,3,6]) (rs:=[r0,r1,r2]) ⟨⟨rfl,rfl,rfl⟩,⟨rfl,rfl,rfl⟩,⟨rfl,rfl,rfl⟩,trivial⟩).2 h,trivial⟩).mono ?_
  rintro e w' ⟨v,rfl,h1,h2⟩
  have h1:v= .bool _:=h1
  subst h1
  exact⟨by simp[qP,c0],h2⟩
theorem pL {xs:List Fq} {ys:Rho} {ns:List Nat} {r0 r1 r2:Rq} {d:Bool} (hr:AtR (frs xs++ys) ns [r0,r1,r2]) (hd:qP r0 r1 r2=d) (lr0:r0.L≤1000000) (nr0:r0.N≤1000000) (lr1:r1.L≤1000000) (nr1:r1.N≤1000000) (lr2:r2.L≤1000000) (nr2:r2.N≤1000000):OkI xs ys ⟨182,[eE ns],.v (.one (.b d))⟩:=
 ⟨aw Tryz.func182 rfl rfl,fun B w vs hB h=>by
  match vs,h with
  | [x],h=>
   refine(xd x r0 r1 r2 w ((bn hr).1 h.1) lr0 nr0 lr1 nr1 lr2 nr2).mono ?_
   rintro e w' ⟨rfl,h2⟩
   exact⟨_,rfl,by subst hd;rfl,h2⟩⟩
theorem j7 {xs:List Fq} {ys:Rho} {ns:List Nat} {r0 r1 r2 r3:Rq} {d:Bool} (hr:AtR (frs xs++ys) ns [r0,r1,r2,r3]) (hd:uc r0 r1 r2 r3=d) (lr0:r0.L≤1000000) (nr0:r0.N≤1000000) (lr1:r1.L≤1000000) (nr1:r1.N≤1000000) (lr2:r2.L≤1000000) (nr2:r2.N≤1000000) (lr3:r3.L≤1000000) (nr3:r3.N≤1000000):OkI xs ys ⟨181,[eE ns],.v (.one (.b d))⟩:=
 ⟨aw Tryz.func181 rfl rfl,fun B w vs hB h=>by
  match vs,h with
  | [va],h=>
   refine(uh va r0 r1 r2 r3 w ((bn hr).1 h.1) lr0 nr0 lr1 nr1 lr2 nr2 lr3 nr3).mono ?_
   rintro e w' ⟨rfl,h2⟩
   exact⟨_,rfl,by subst hd;rfl,h2⟩⟩
def sn (r0 r1 r2 r3 r4 r5 r6:Rq):List Fq:=[]
def sp (r0 r1 r2 r3 r4 r5 r6:Rq):List Fq:=[]
def sq (r0 r1 r2 r3 r4 r5 r6:Rq):List Fq:=[]
theorem oE (x:Value) (r0 r1 r2 r3 r4 r5 r6:Rq) (w:World) (h:IsL w x [r0,r1,r2,r3,r4,r5,r6]) (lr0:r0.L≤1000000) (nr0:r0.N≤1000000) (lr1:r1.L≤1000000) (nr1:r1.N≤1000000) (lr2:r2.L≤1000000) (nr2:r2.N≤1000000) (lr3:r3.L≤1000000) (nr3:r3.N≤1000000) (lr4:r4.L≤1000000) (nr4:r4.N≤1000000) (lr5:r5.L≤1000000) (nr5:r5.N≤1000000) (lr6:r6.L≤1000000) (nr6:r6.N≤1000000):Calls Tryz.prog 122 #[x] w fun e w'=>cw w (.bool (qQ r0 r1 r2 r3 r4 r5 r6)) e w':=by
 rcases Bool.eq_false_or_eq_true (uc r0 r1 r2 r3)with c0 | c0
 ·rcases Bool.eq_false_or_eq_true (qP r4 r5 r6)with c1 | c1
  ·refine(cRn (ρ:=frs (sn r0 r1 r2 r3 r4 r5 r6)++ [.val (.bool r0.s),.dig r0.L r0.p,.dig r0.N r0.q,.val (.bool r1.s),.dig r1.L r1.p,.dig r1.N r1.q,.val (.bool r2.s),.dig r2.L r2.p,.dig r2.N r2.q,.val (.bool r3.s),.dig r3.L r3.p,.dig r3.N r3.q,.val (.bool r4.s),.dig r4.L r4.p,.dig r4.N r4.q,.val (.bool r5.s),.dig r5.L r5.p,.dig r5.N r5.q,.val (.bool r6.s),.dig r6.L r6.p,.dig r6.N r6.q]) (args:=[eE [0,3,6,9,12,15,18]]) (vs:=[x]) (r:=.v (.one (.b true)))
    (ae (j7 (ns:=[0,3,6,9]) (d:=true) ⟨⟨rfl,rfl,rfl⟩,⟨rfl,rfl,rfl⟩,⟨rfl,rfl,rfl⟩,⟨rfl,rfl,rfl⟩,trivial⟩ c0 lr0 nr0 lr1 nr1 lr2 nr2 lr3 nr3) (ae (pL (ns:=[12,15,18]) (d:=true) ⟨⟨rfl,rfl,rfl⟩,⟨rfl,rfl,rfl⟩,⟨rfl,rfl,rfl⟩,trivial⟩ c1 lr4 nr4 lr5 nr5 lr6 nr6) ah))
    ai Tryz.func122 (by kernel_rfl) ⟨(bn (ns:=[0,3,6,9,12,15,18]) (rs:=[r0,r1,r2,r3,r4,r5,r6]) ⟨⟨rfl,rfl,rfl⟩,⟨rfl,rfl,rfl⟩,⟨rfl,rfl,rfl⟩,⟨rfl,rfl,rfl⟩,⟨rfl,rfl,rfl⟩,⟨rfl,rfl,rfl⟩,⟨rfl,rfl,rfl⟩,trivial⟩).2 h,trivial⟩).mono ?_
   rintro e w' ⟨v,rfl,h1,h2⟩
   have h1:v= .bool _:=h1
   subst h1
   exact⟨by simp[qQ,c0,c1],h2⟩
  ·refine(cRn (ρ:=frs (sp r0 r1 r2 r3 r4 r5 r6)++ [.val (.bool r0.s),.dig r0.L r0.p,.dig r0.N r0.q,.val (.bool r1.s),.dig r1.L r1.p,.dig r1.N r1.q,.val (.bool r2.s),.dig r2.L r2.p,.dig r2.N r2.q,.val (.bool r3.s),.dig r3.L r3.p,.dig r3.N r3.q,.val (.bool r4.s),.dig r4.L r4.p,.dig r4.N r4.q,.val (.bool r5.s),.dig r5.L r5.p,.dig r5.N r5.q,.val (.bool r6.s),.dig r6.L r6.p,.dig r6.N r6.q]) (args:=[eE [0,3,6,9,12,15,18]]) (vs:=[x]) (r:=.v (.one (.b false)))
    (ae (j7 (ns:=[0,3,6,9]) (d:=true) ⟨⟨rfl,rfl,rfl⟩,⟨rfl,rfl,rfl⟩,⟨rfl,rfl,rfl⟩,⟨rfl,rfl,rfl⟩,trivial⟩ c0 lr0 nr0 lr1 nr1 lr2 nr2 lr3 nr3) (ae (pL (ns:=[12,15,18]) (d:=false) ⟨⟨rfl,rfl,rfl⟩,⟨rfl,rfl,rfl⟩,⟨rfl,rfl,rfl⟩,trivial⟩ c1 lr4 nr4 lr5 nr5 lr6 nr6) ah))
    ai Tryz.func122 (by kernel_rfl) ⟨(bn (ns:=[0,3,6,9,12,15,18]) (rs:=[r0,r1,r2,r3,r4,r5,r6]) ⟨⟨rfl,rfl,rfl⟩,⟨rfl,rfl,rfl⟩,⟨rfl,rfl,rfl⟩,⟨rfl,rfl,rfl⟩,⟨rfl,rfl,rfl⟩,⟨rfl,rfl,rfl⟩,⟨rfl,rfl,rfl⟩,trivial⟩).2 h,trivial⟩).mono ?_
   rintro e w' ⟨v,rfl,h1,h2⟩
   have h1:v= .bool _:=h1
   subst h1
   exact⟨by simp[qQ,c0,c1],h2⟩
 ·refine(cRn (ρ:=frs (sq r0 r1 r2 r3 r4 r5 r6)++ [.val (.bool r0.s),.dig r0.L r0.p,.dig r0.N r0.q,.val (.bool r1.s),.dig r1.L r1.p,.dig r1.N r1.q,.val (.bool r2.s),.dig r2.L r2.p,.dig r2.N r2.q,.val (.bool r3.s),.dig r3.L r3.p,.dig r3.N r3.q,.val (.bool r4.s),.dig r4.L r4.p,.dig r4.N r4.q,.val (.bool r5.s),.dig r5.L r5.p,.dig r5.N r5.q,.val (.bool r6.s),.dig r6.L r6.p,.dig r6.N r6.q]) (args:=[eE [0,3,6,9,12,15,18]]) (vs:=[x]) (r:=.v (.one (.b false)))
   (ae (j7 (ns:=[0,3,6,9]) (d:=false) ⟨⟨rfl,rfl,rfl⟩,⟨rfl,rfl,rfl⟩,⟨rfl,rfl,rfl⟩,⟨rfl,rfl,rfl⟩,trivial⟩ c0 lr0 nr0 lr1 nr1 lr2 nr2 lr3 nr3) ah)
   ai Tryz.func122 (by kernel_rfl) ⟨(bn (ns:=[0,3,6,9,12,15,18]) (rs:=[r0,r1,r2,r3,r4,r5,r6]) ⟨⟨rfl,rfl,rfl⟩,⟨rfl,rfl,rfl⟩,⟨rfl,rfl,rfl⟩,⟨rfl,rfl,rfl⟩,⟨rfl,rfl,rfl⟩,⟨rfl,rfl,rfl⟩,⟨rfl,rfl,rfl⟩,trivial⟩).2 h,trivial⟩).mono ?_
  rintro e w' ⟨v,rfl,h1,h2⟩
  have h1:v= .bool _:=h1
  subst h1
  exact⟨by simp[qQ,c0],h2⟩
theorem um {xs:List Fq} {ys:Rho} {ns:List Nat} {r0 r1 r2 r3 r4 r5 r6:Rq} {d:Bool} (hr:AtR (frs xs++ys) ns [r0,r1,r2,r3,r4,r5,r6]) (hd:qQ r0 r1 r2 r3 r4 r5 r6=d) (lr0:r0.L≤1000000) (nr0:r0.N≤1000000) (lr1:r1.L≤1000000) (nr1:r1.N≤1000000) (lr2:r2.L≤1000000) (nr2:r2.N≤1000000) (lr3:r3.L≤1000000) (nr3:r3.N≤1000000) (lr4:r4.L≤1000000) (nr4:r4.N≤1000000) (lr5:r5.L≤1000000) (nr5:r5.N≤1000000) (lr6:r6.L≤1000000) (nr6:r6.N≤1000000):OkI xs ys ⟨122,[eE ns],.v (.one (.b d))⟩:=
 ⟨aw Tryz.func122 rfl rfl,fun B w vs hB h=>by
  match vs,h with
  | [x],h=>
   refine(oE x r0 r1 r2 r3 r4 r5 r6 w ((bn hr).1 h.1) lr0 nr0 lr1 nr1 lr2 nr2 lr3 nr3 lr4 nr4 lr5 nr5 lr6 nr6).mono ?_
   rintro e w' ⟨rfl,h2⟩
   exact⟨_,rfl,by subst hd;rfl,h2⟩⟩
end Go.Proofs.YtggfmklppkioeaaGreat
namespace Go.Proofs.YtggfmklppkioeaaGreat
set_option linter.unusedSimpArgs false
set_option linter.unusedVariables false
set_option maxRecDepth 100000
open Go.RowKit
/-- A stamp as it comes in: its numbers may have leading zeros. -/
structure RSt where
 tm:Int
 r0:Rq
 r1:Rq
 r2:Rq
 r3:Rq
 r4:Rq
 r5:Rq
 r6:Rq
def RSt.rs (x:RSt):List Rq:=[x.r0,x.r1,x.r2,x.r3,x.r4,x.r5,x.r6]
def uo (l:List Rq):List Vp:=l.flatMap fun r=>[.val (.bool r.s),.dig r.L r.p,.dig r.N r.q]
def RSt.qs (x:RSt):List Vp:=.val (.int .i64 x.tm)::uo x.rs
def St.raw (s:St):RSt:=⟨s.tm,s.pose.rot.w.raw,s.pose.rot.x.raw,s.pose.rot.y.raw,s.pose.rot.z.raw,s.pose.pos.x.raw,s.pose.pos.y.raw,s.pose.pos.z.raw⟩
def xe (w:World) (v:Value) (x:RSt):Prop:=∃cs:List Value,v= .agg (.int .i64 x.tm::cs).toArray∧bq w x.rs cs
theorem z6 {w:World} {v:Value} {s:St}:xe w v s.raw↔eR w v s:=Iff.rfl
section
variable {ρ ρ':Rho} {n m k r j u N:Nat} {a:Int} {T:TypeId} {B:Blk} {w:World} {S S':List St} {f:FuncId} {args xs:List SV} {l la:Leaf} {sl0:Value} {pin:Bool} {x:RSt} {v:Value} {t:TypeId}
theorem uq {ns:List Nat} (hn:ρ[n]? =some (.val (.int .i64 x.tm))) (ha:AtR ρ ns x.rs):(SV.agg (.ref n::qN ns)).holds ρ B w v↔xe w v x:=by
 constructor
 ·rintro⟨vs,rfl,h⟩
  match vs,h with
  | v0::vs,h=>
   have:=aX hn h.1
   subst this
   exact⟨vs,rfl,(d8 ha).1 h.2⟩
 ·rintro⟨cs,rfl,h⟩
  exact⟨.int .i64 x.tm::cs,rfl,aA hn aO,(d8 ha).2 h⟩
end
end Go.Proofs.YtggfmklppkioeaaGreat
namespace Go.Proofs.YtggfmklppkioeaaGreat
set_option linter.unusedSimpArgs false
set_option linter.unusedVariables false
set_option maxRecDepth 100000
open Go.RowKit
def xq_LenX (S:List St):List Fq:=[]
theorem q_Len {w:World} {g:Nat} {sl:Value} (S:List St) (h:TrkS 223 w g sl S) (hS:S.length≤64):
  Calls Tryz.prog 128 (.pointer (some ⟨g,0,none⟩)::[]).toArray w fun e w'=>e= .returned (.int .i64 (S.length:Int))∧Below w.heap.size w w':=by
 refine(bg (ρ:=frs (xq_LenX S)++([.rowB true sl stT S.length (aC S),.val (.int .i64 (S.length:Int))]:List Vp)) (w:=w) (fuel:=300) (m:=0) (S':=S) (args:=[.one (.ptr 0 0)]) (vs:=[.pointer (some ⟨g,0,none⟩)]) (r:=.v (.one (.ref 1))) (l:=.ref 0) (lo:=[]) (obs:=[]) h
  (ah)
  (af (cc (y:=0) (o:=0) (t:=154) ⟨_,Tryz.underlying154⟩) (af (fC 0 1 rfl rfl) (ai))) Tryz.func128 rfl (by kernel_rfl) aV ⟨eD,trivial⟩ (lD rfl)).mono ?_
 rintro e w' ⟨v,B',rfl,h1,h2,h3⟩
 have ev:v= .int .i64 (S.length:Int):=aX rfl h1
 subst ev
 exact⟨rfl,h3 rfl⟩
end Go.Proofs.YtggfmklppkioeaaGreat
namespace Go.Proofs.YtggfmklppkioeaaGreat
set_option linter.unusedSimpArgs false
set_option linter.unusedVariables false
set_option maxRecDepth 100000
open Go.RowKit
/-- Numbers that are not too long. -/
structure RSt.sm (x:RSt):Prop where
 h0:x.r0.L≤1000000∧x.r0.N≤1000000
 h1:x.r1.L≤1000000∧x.r1.N≤1000000
 h2:x.r2.L≤1000000∧x.r2.N≤1000000
 h3:x.r3.L≤1000000∧x.r3.N≤1000000
 h4:x.r4.L≤1000000∧x.r4.N≤1000000
 h5:x.r5.L≤1000000∧x.r5.N≤1000000
 h6:x.r6.L≤1000000∧x.r6.N≤1000000
theorem Fq.ok.sm {x:Fq} (h:x.ok 2):x.raw.L≤1000000∧x.raw.N≤1000000:=⟨Nat.le_trans h.p (by decide),Nat.le_trans h.q (by decide)⟩
theorem St.sm {s:St} (h:s.pose.ok 2):s.raw.sm:=⟨h.rot.w.sm,h.rot.x.sm,h.rot.y.sm,h.rot.z.sm,h.pos.x.sm,h.pos.y.sm,h.pos.z.sm⟩
/-- Stamps in order of time. -/
def oF (S:List St):Prop:=∀(i j:Nat) (x y:St),i<j→S[i]? =some x→S[j]? =some y→x.tm<y.tm
theorem oF.tail {s:St} {S:List St} (h:oF (s::S)):oF S:=fun i j x y hij hx hy=>h (i+1) (j+1) x y (by omega) (by simpa using hx) (by simpa using hy)
theorem ni:∀ {S:List St} {b:Int} {k:Nat} {x:St},oF S→plN S b≤k→S[k]? =some x→¬x.tm<b
 | [],_,_,_,_,_,h=>by simp at h
 | s::S,b,k,x,hs,hk,hx=>by
  simp only[plN]at hk
  split at hk
  ·cases k with
   | zero=>omega
   | succ k=>exact ni (k:=k) hs.tail (by omega) (by simpa using hx)
  ·rename_i hsb
   cases k with
   | zero=>simp at hx;subst hx;exact hsb
   | succ k=>have:=hs 0 (k+1) s x (by omega) rfl hx;omega
section
variable {ρ:Rho} {n m j:Nat} {l la:Leaf} {x:St} {S1 S2 E:List St}
end
end Go.Proofs.YtggfmklppkioeaaGreat
namespace Go.Proofs.YtggfmklppkioeaaGreat
set_option linter.unusedSimpArgs false
set_option linter.unusedVariables false
set_option maxRecDepth 100000
open Go.RowKit
def ur (S:List St) (x:RSt) (v:Value):List Fq:=[]
theorem z7 {w:World} {g:Nat} {sl:Value} (S:List St) (x:RSt) (v:Value) (h:TrkS 223 w g sl S) (i:xe w v x) (hx:x.sm) (r0:x.tm<0):
  Calls Tryz.prog 127 (.pointer (some ⟨g,0,none⟩)::[v]).toArray w fun e w'=>e= .returned (.int .i64 4)∧TrkM 223 w g sl S w':=by
 refine(bg (ρ:=frs (ur S x v)++([.rowB true sl stT S.length (aC S),.val (.int .i64 x.tm),.val (.bool x.r0.s),.dig x.r0.L x.r0.p,.dig x.r0.N x.r0.q,.val (.bool x.r1.s),.dig x.r1.L x.r1.p,.dig x.r1.N x.r1.q,.val (.bool x.r2.s),.dig x.r2.L x.r2.p,.dig x.r2.N x.r2.q,.val (.bool x.r3.s),.dig x.r3.L x.r3.p,.dig x.r3.N x.r3.q,.val (.bool x.r4.s),.dig x.r4.L x.r4.p,.dig x.r4.N x.r4.q,.val (.bool x.r5.s),.dig x.r5.L x.r5.p,.dig x.r5.N x.r5.q,.val (.bool x.r6.s),.dig x.r6.L x.r6.p,.dig x.r6.N x.r6.q]:List Vp)) (w:=w) (fuel:=300) (m:=0) (S':=S) (args:=[.one (.ptr 0 0),.agg [.ref 1,.ref 2,.ref 3,.ref 4,.ref 5,.ref 6,.ref 7,.ref 8,.ref 9,.ref 10,.ref 11,.ref 12,.ref 13,.ref 14,.ref 15,.ref 16,.ref 17,.ref 18,.ref 19,.ref 20,.ref 21,.ref 22]]) (vs:=[.pointer (some ⟨g,0,none⟩),v]) (r:=.v (.one (.i .i64 4))) (l:=.ref 0) (lo:=[]) (obs:=[]) h
  (ah)
  (af (cc (y:=0) (o:=0) (t:=154) ⟨_,Tryz.underlying154⟩) (af (aB (t:=3) (aj (n:=1) rfl) (aN (c:=0)) (bF (by omega))) (ai))) Tryz.func127 rfl (by kernel_rfl) aV ⟨eD,⟨(uq (n:=1) (ns:=[2,5,8,11,14,17,20]) (x:=x) rfl ⟨⟨rfl,rfl,rfl⟩,⟨rfl,rfl,rfl⟩,⟨rfl,rfl,rfl⟩,⟨rfl,rfl,rfl⟩,⟨rfl,rfl,rfl⟩,⟨rfl,rfl,rfl⟩,⟨rfl,rfl,rfl⟩,trivial⟩).2 i,trivial⟩⟩ (lD rfl)).mono ?_
 rintro e w' ⟨v,B',rfl,h1,h2,h3⟩
 have e1:v= .int .i64 4:=h1
 subst e1
 exact⟨rfl,h2⟩
def ut (S:List St) (x:RSt) (v:Value):List Fq:=[]
theorem z8 {w:World} {g:Nat} {sl:Value} (S:List St) (x:RSt) (v:Value) (h:TrkS 223 w g sl S) (i:xe w v x) (hx:x.sm) (r0:1099511627776<x.tm):
  Calls Tryz.prog 127 (.pointer (some ⟨g,0,none⟩)::[v]).toArray w fun e w'=>e= .returned (.int .i64 4)∧TrkM 223 w g sl S w':=by
 refine(bg (ρ:=frs (ut S x v)++([.rowB true sl stT S.length (aC S),.val (.int .i64 x.tm),.val (.bool x.r0.s),.dig x.r0.L x.r0.p,.dig x.r0.N x.r0.q,.val (.bool x.r1.s),.dig x.r1.L x.r1.p,.dig x.r1.N x.r1.q,.val (.bool x.r2.s),.dig x.r2.L x.r2.p,.dig x.r2.N x.r2.q,.val (.bool x.r3.s),.dig x.r3.L x.r3.p,.dig x.r3.N x.r3.q,.val (.bool x.r4.s),.dig x.r4.L x.r4.p,.dig x.r4.N x.r4.q,.val (.bool x.r5.s),.dig x.r5.L x.r5.p,.dig x.r5.N x.r5.q,.val (.bool x.r6.s),.dig x.r6.L x.r6.p,.dig x.r6.N x.r6.q]:List Vp)) (w:=w) (fuel:=300) (m:=0) (S':=S) (args:=[.one (.ptr 0 0),.agg [.ref 1,.ref 2,.ref 3,.ref 4,.ref 5,.ref 6,.ref 7,.ref 8,.ref 9,.ref 10,.ref 11,.ref 12,.ref 13,.ref 14,.ref 15,.ref 16,.ref 17,.ref 18,.ref 19,.ref 20,.ref 21,.ref 22]]) (vs:=[.pointer (some ⟨g,0,none⟩),v]) (r:=.v (.one (.i .i64 4))) (l:=.ref 0) (lo:=[]) (obs:=[]) h
  (ah)
  (af (cc (y:=0) (o:=0) (t:=154) ⟨_,Tryz.underlying154⟩) (af (aB (t:=3) (aj (n:=1) rfl) (aN (c:=0)) (aY (by omega))) (af (aB (t:=3) (aj (n:=1) rfl) (aN (c:=1099511627776)) (ci (by omega))) (ai)))) Tryz.func127 rfl (by kernel_rfl) aV ⟨eD,⟨(uq (n:=1) (ns:=[2,5,8,11,14,17,20]) (x:=x) rfl ⟨⟨rfl,rfl,rfl⟩,⟨rfl,rfl,rfl⟩,⟨rfl,rfl,rfl⟩,⟨rfl,rfl,rfl⟩,⟨rfl,rfl,rfl⟩,⟨rfl,rfl,rfl⟩,⟨rfl,rfl,rfl⟩,trivial⟩).2 i,trivial⟩⟩ (lD rfl)).mono ?_
 rintro e w' ⟨v,B',rfl,h1,h2,h3⟩
 have e1:v= .int .i64 4:=h1
 subst e1
 exact⟨rfl,h2⟩
def sr (S:List St) (x:RSt) (v:Value):List Fq:=[]
theorem xf {w:World} {g:Nat} {sl:Value} (S:List St) (x:RSt) (v:Value) (h:TrkS 223 w g sl S) (i:xe w v x) (hx:x.sm) (r0:0≤x.tm) (r1:x.tm≤1099511627776) (hv:qQ x.r0 x.r1 x.r2 x.r3 x.r4 x.r5 x.r6=false):
  Calls Tryz.prog 127 (.pointer (some ⟨g,0,none⟩)::[v]).toArray w fun e w'=>e= .returned (.int .i64 4)∧TrkM 223 w g sl S w':=by
 refine(bg (ρ:=frs (sr S x v)++([.rowB true sl stT S.length (aC S),.val (.int .i64 x.tm),.val (.bool x.r0.s),.dig x.r0.L x.r0.p,.dig x.r0.N x.r0.q,.val (.bool x.r1.s),.dig x.r1.L x.r1.p,.dig x.r1.N x.r1.q,.val (.bool x.r2.s),.dig x.r2.L x.r2.p,.dig x.r2.N x.r2.q,.val (.bool x.r3.s),.dig x.r3.L x.r3.p,.dig x.r3.N x.r3.q,.val (.bool x.r4.s),.dig x.r4.L x.r4.p,.dig x.r4.N x.r4.q,.val (.bool x.r5.s),.dig x.r5.L x.r5.p,.dig x.r5.N x.r5.q,.val (.bool x.r6.s),.dig x.r6.L x.r6.p,.dig x.r6.N x.r6.q]:List Vp)) (w:=w) (fuel:=300) (m:=0) (S':=S) (args:=[.one (.ptr 0 0),.agg [.ref 1,.ref 2,.ref 3,.ref 4,.ref 5,.ref 6,.ref 7,.ref 8,.ref 9,.ref 10,.ref 11,.ref 12,.ref 13,.ref 14,.ref 15,.ref 16,.ref 17,.ref 18,.ref 19,.ref 20,.ref 21,.ref 22]]) (vs:=[.pointer (some ⟨g,0,none⟩),v]) (r:=.v (.one (.i .i64 4))) (l:=.ref 0) (lo:=[]) (obs:=[]) h
  (ae (um (ns:=[2,5,8,11,14,17,20]) (r0:=x.r0) (r1:=x.r1) (r2:=x.r2) (r3:=x.r3) (r4:=x.r4) (r5:=x.r5) (r6:=x.r6) (d:=false) ⟨⟨rfl,rfl,rfl⟩,⟨rfl,rfl,rfl⟩,⟨rfl,rfl,rfl⟩,⟨rfl,rfl,rfl⟩,⟨rfl,rfl,rfl⟩,⟨rfl,rfl,rfl⟩,⟨rfl,rfl,rfl⟩,trivial⟩ hv hx.h0.1 hx.h0.2 hx.h1.1 hx.h1.2 hx.h2.1 hx.h2.2 hx.h3.1 hx.h3.2 hx.h4.1 hx.h4.2 hx.h5.1 hx.h5.2 hx.h6.1 hx.h6.2) ah)
  (af (cc (y:=0) (o:=0) (t:=154) ⟨_,Tryz.underlying154⟩) (af (aB (t:=3) (aj (n:=1) rfl) (aN (c:=0)) (aY (by omega))) (af (aB (t:=3) (aj (n:=1) rfl) (aN (c:=1099511627776)) (aZ (by omega))) (ai)))) Tryz.func127 rfl (by kernel_rfl) aV ⟨eD,⟨(uq (n:=1) (ns:=[2,5,8,11,14,17,20]) (x:=x) rfl ⟨⟨rfl,rfl,rfl⟩,⟨rfl,rfl,rfl⟩,⟨rfl,rfl,rfl⟩,⟨rfl,rfl,rfl⟩,⟨rfl,rfl,rfl⟩,⟨rfl,rfl,rfl⟩,⟨rfl,rfl,rfl⟩,trivial⟩).2 i,trivial⟩⟩ (lD rfl)).mono ?_
 rintro e w' ⟨v,B',rfl,h1,h2,h3⟩
 have e1:v= .int .i64 4:=h1
 subst e1
 exact⟨rfl,h2⟩
end Go.Proofs.YtggfmklppkioeaaGreat
namespace Go.Proofs.YtggfmklppkioeaaGreat
set_option linter.unusedSimpArgs false
set_option linter.unusedVariables false
set_option maxRecDepth 100000
open Go.RowKit
structure GoodT (s:St):Prop where
 ok:s.pose.ok 2
 good:s.pose.good
 lo:0≤s.tm
 hi:s.tm≤1099511627776
/-- The stamps of a track. -/
structure GoodS (S:List St):Prop where
 len:S.length≤64
 all:∀x∈S,GoodT x
 sort:oF S
 adj:∀(i:Nat) (x y:St),S[i]? =some x→S[i+1]? =some y→¬opp x.pose y.pose
theorem GoodS.at {S:List St} (h:GoodS S) {k:Nat} {x:St} (hx:S[k]? =some x):GoodT x:=h.all x (List.mem_of_getElem? hx)
theorem GoodS.nil:GoodS []:=⟨by simp,fun x h=>by simp at h,fun i j x y _ h=>by simp at h,fun i x y h=>by simp at h⟩
theorem GoodS.drop {S:List St} (h:GoodS S) (k:Nat):GoodS (S.drop k) where
 len:=by have:=h.len;rw[List.length_drop];omega
 all:=fun x hx=>h.all x (List.mem_of_mem_drop hx)
 sort:=fun i j x y hij hx hy=>by rw[List.getElem?_drop]at hx hy;exact h.sort _ _ _ _ (by omega) hx hy
 adj:=fun i x y hx hy=>by rw[List.getElem?_drop]at hx hy;exact h.adj (k+i) x y hx (by rw[←hy];rfl)
theorem qR {S:List St} {p i:Nat} {s:St} (hp:p≤S.length) (h:i<p):(aI S p s)[i]? =S[i]? :=by
 unfold aI
 rw[List.getElem?_append_left (by rw[List.length_take];omega),List.getElem?_take,if_pos h]
theorem qS {S:List St} {p:Nat} {s:St} (hp:p≤S.length):(aI S p s)[p]? =some s:=by
 unfold aI
 have h1:(S.take p).length=p:=by rw[List.length_take];omega
 rw[List.getElem?_append_right (by omega),h1,Nat.sub_self];rfl
theorem oG {S:List St} {p i:Nat} {s:St} (hp:p≤S.length) (h:p≤i):(aI S p s)[i+1]? =S[i]? :=by
 unfold aI
 have h1:(S.take p).length=p:=by rw[List.length_take];omega
 rw[List.getElem?_append_right (by omega),h1,show i+1 - p=(i - p)+1 by omega,List.getElem?_cons_succ,List.getElem?_drop,show p+(i - p)=i by omega]
theorem su {S:List St} {s:St} (h:oF S) (hn:∀y,S[plN S s.tm]? =some y→y.tm≠s.tm):oF (aI S (plN S s.tm) s):=by
 have hp:=bN S s.tm
 have hb:∀i x,i<plN S s.tm→S[i]? =some x→x.tm<s.tm:=fun i x hi hx=>by
  obtain⟨x',h1,h2⟩:=qM hi
  rw[h1]at hx;injection hx with hx;subst hx;exact h2
 have ha:∀i x,plN S s.tm≤i→S[i]? =some x→s.tm<x.tm:=fun i x hi hx=>by
  have h1:=ni h hi hx
  by_cases e:i=plN S s.tm
  ·subst e;have:=hn x hx;omega
  ·have hl:plN S s.tm<S.length:=by have:=(List.getElem?_eq_some_iff.1 hx).1;omega
   have h2:=h _ _ _ _ (show plN S s.tm<i by omega) (List.getElem?_eq_getElem hl) hx
   have h3:=ni h (Nat.le_refl _) (List.getElem?_eq_getElem hl)
   omega
 intro i j x y hij hx hy
 rcases Nat.lt_trichotomy i (plN S s.tm)with hi | hi | hi
 ·rw[qR hp hi]at hx
  rcases Nat.lt_trichotomy j (plN S s.tm)with hj | hj | hj
  ·rw[qR hp hj]at hy;exact h _ _ _ _ hij hx hy
  ·subst hj;rw[qS hp]at hy;injection hy with hy;subst hy;exact hb i x hi hx
  ·obtain⟨j,rfl⟩:∃k,j=k+1:=⟨j - 1,by omega⟩
   rw[oG hp (by omega)]at hy
   have:=hb i x hi hx;have:=ha j y (by omega) hy;omega
 ·subst hi;rw[qS hp]at hx;injection hx with hx;subst hx
  obtain⟨j,rfl⟩:∃k,j=k+1:=⟨j - 1,by omega⟩
  rw[oG hp (by omega)]at hy;exact ha j y (by omega) hy
 ·obtain⟨j,rfl⟩:∃k,j=k+1:=⟨j - 1,by omega⟩
  obtain⟨i,rfl⟩:∃k,i=k+1:=⟨i - 1,by omega⟩
  rw[oG hp (by omega)]at hx hy
  exact h _ _ _ _ (by omega) hx hy
theorem vF {S:List St} {s:St} (h:GoodS S) (hz:∀z,0<plN S s.tm→S[plN S s.tm - 1]? =some z→¬opp z.pose s.pose) (hy:∀y,S[plN S s.tm]? =some y→¬opp s.pose y.pose):∀(i:Nat) (x y:St),(aI S (plN S s.tm) s)[i]? =some x→(aI S (plN S s.tm) s)[i+1]? =some y→¬opp x.pose y.pose:=by
 have hp:=bN S s.tm
 intro i x y hx hy'
 rcases Nat.lt_trichotomy i (plN S s.tm)with hi | hi | hi
 ·rw[qR hp hi]at hx
  by_cases e:i+1=plN S s.tm
  ·rw[e,qS hp]at hy';injection hy' with hy';subst hy'
   exact hz x (by omega) (by rw[←e];exact hx)
  ·rw[qR hp (by omega)]at hy';exact h.adj i x y hx hy'
 ·subst hi;rw[qS hp]at hx;injection hx with hx;subst hx
  rw[oG hp (Nat.le_refl _)]at hy';exact hy y hy'
 ·obtain⟨i,rfl⟩:∃k,i=k+1:=⟨i - 1,by omega⟩
  rw[oG hp (by omega)]at hx hy'
  exact h.adj i x y hx hy'
open Classical in
/-- What Add makes of a list, and its answer. -/
noncomputable def xg (S:List St) (s:St):List St×Int:=
 if s.tm<0∨1099511627776<s.tm then(S,4)
 else if∃y,S[plN S s.tm]? =some y∧y.tm=s.tm∧y.pose=s.pose then(S,0)
 else if∃y,S[plN S s.tm]? =some y∧y.tm=s.tm then(S,7)
 else if (∃z,0<plN S s.tm∧S[plN S s.tm - 1]? =some z∧opp z.pose s.pose)∨(∃y,S[plN S s.tm]? =some y∧opp s.pose y.pose)then(S,21)
 else if S.length<64 then(aI S (plN S s.tm) s,0)else((aI S (plN S s.tm) s).drop 1,0)
theorem xh {S:List St} {s:St} (h:GoodS S) (hs:s.pose.ok 2) (gs:s.pose.good):GoodS (xg S s).1:=by
 unfold xg
 split
 ·exact h
 ·rename_i ht
  split
  ·exact h
  ·split
   ·exact h
   ·rename_i h1 h2
    split
    ·exact h
    ·rename_i h3
     have hp:=bN S s.tm
     have hn:∀y,S[plN S s.tm]? =some y→y.tm≠s.tm:=fun y hy e=>h2 ⟨y,hy,e⟩
     have hz:∀z,0<plN S s.tm→S[plN S s.tm - 1]? =some z→¬opp z.pose s.pose:=fun z h0 hz ho=>h3 (.inl ⟨z,h0,hz,ho⟩)
     have hy:∀y,S[plN S s.tm]? =some y→¬opp s.pose y.pose:=fun y hy ho=>h3 (.inr ⟨y,hy,ho⟩)
     have hg:∀x∈aI S (plN S s.tm) s,GoodT x:=fun x hx=>by
      unfold aI at hx
      rcases List.mem_append.1 hx with hx | hx
      ·exact h.all x (List.mem_of_mem_take hx)
      ·rcases List.mem_cons.1 hx with hx | hx
       ·subst hx;exact⟨hs,gs,by omega,by omega⟩
       ·exact h.all x (List.mem_of_mem_drop hx)
     have hl:=bz (s:=s) hp
     split
     ·exact⟨by show(aI S (plN S s.tm) s).length≤64;omega,hg,su h.sort hn,vF h hz hy⟩
     ·have hd:((aI S (plN S s.tm) s).drop 1).length=(aI S (plN S s.tm) s).length - 1:=List.length_drop ..
      have hlen:=h.len
      refine⟨by show((aI S (plN S s.tm) s).drop 1).length≤64;omega,fun x hx=>hg x (List.mem_of_mem_drop hx),fun i j x y hij hx hy'=> ?_,fun i x y hx hy'=> ?_⟩
      ·simp only[List.getElem?_drop]at hx hy'
       exact su h.sort hn _ _ _ _ (by omega) hx hy'
      ·simp only[List.getElem?_drop]at hx hy'
       exact vF h hz hy (1+i) x y hx (by rw[←hy'];rfl)
theorem q_Add (S:List St) (s:St) (v:Value) {w:World} {g:Nat} {sl:Value} (h:TrkS 223 w g sl S) (i:eR w v s) (hs:s.pose.ok 2) (gs:s.pose.good) (hS:GoodS S):
  Calls Tryz.prog 127 (.pointer (some ⟨g,0,none⟩)::[v]).toArray w fun e w'=>e= .returned (.int .i64 (xg S s).2)∧TrkM 223 w g sl (xg S s).1 w':=by
 have hp:=bN S s.tm
 have hlen:=hS.len
 unfold xg
 split
 ·rename_i ht
  rcases ht with ht | ht
  ·exact q_addLo S s v h i hs gs hlen ht
  ·exact q_addHi S s v h i hs gs hlen ht
 ·rename_i ht
  have r0:0≤s.tm:=by omega
  have r1:s.tm≤1099511627776:=by omega
  split
  ·rename_i h1
   obtain⟨y,hy,ey,ep⟩:=h1
   have hg:=hS.at hy
   exact wZ S s v h i hs gs hlen r0 r1 (List.getElem?_eq_some_iff.1 hy).1 y hy hg.ok hg.good ey ep
  ·rename_i h1
   split
   ·rename_i h2
    obtain⟨y,hy,ey⟩:=h2
    have hg:=hS.at hy
    exact zV S s v h i hs gs hlen r0 r1 (List.getElem?_eq_some_iff.1 hy).1 y hy hg.ok hg.good ey (fun e=>h1 ⟨y,hy,ey,e⟩)
   ·rename_i h2
    have hpz:∀hz:0<plN S s.tm,∃z,S[plN S s.tm - 1]? =some z:=fun hz=>⟨_,List.getElem?_eq_getElem (by omega)⟩
    by_cases hq:plN S s.tm<S.length
    ·obtain⟨y,hy⟩:∃y,S[plN S s.tm]? =some y:=⟨_,List.getElem?_eq_getElem hq⟩
     have hg:=hS.at hy
     have ey:y.tm≠s.tm:=fun e=>h2 ⟨y,hy,e⟩
     have ho:=ni hS.sort (Nat.le_refl _) hy
     by_cases hp0:plN S s.tm=0
     ·split
      ·rename_i h3
       have oy:opp s.pose y.pose:=by
        rcases h3 with⟨z,h0,_⟩ | ⟨y',hy',o⟩
        ·omega
        ·rw[hy]at hy';injection hy' with hy';subst hy';exact o
       exact q_addB0 S s v h i hs gs hlen r0 r1 hq hp0 y hy hg.ok hg.good ey ho oy
      ·rename_i h3
       have oy:¬opp s.pose y.pose:=fun o=>h3 (.inr ⟨y,hy,o⟩)
       split
       ·rename_i hl;exact q_addI0 S s v h i hs gs hlen r0 r1 hq hp0 y hy hg.ok hg.good ey ho oy hl
       ·exact zW S s v h i hs gs hlen r0 r1 hq hp0 y hy hg.ok hg.good ey ho oy (by omega)
     ·obtain⟨z,hz⟩:=hpz (by omega)
      have hgz:=hS.at hz
      by_cases oz:opp z.pose s.pose
      ·rw[if_pos (.inl ⟨z,by omega,hz,oz⟩)]
       exact q_addBM S s v h i hs gs hlen r0 r1 hq y hy hg.ok hg.good ey ho z hz hgz.ok hgz.good (by omega) oz
      ·by_cases oy:opp s.pose y.pose
       ·rw[if_pos (.inr ⟨y,hy,oy⟩)]
        exact q_addBN S s v h i hs gs hlen r0 r1 hq y hy hg.ok hg.good ey ho z hz hgz.ok hgz.good (by omega) oz oy
       ·rw[if_neg (fun h3=>by
         rcases h3 with⟨z',_,hz',o⟩ | ⟨y',hy',o⟩
         ·rw[hz]at hz';injection hz' with hz';subst hz';exact oz o
         ·rw[hy]at hy';injection hy' with hy';subst hy';exact oy o)]
        split
        ·rename_i hl;exact q_addIM S s v h i hs gs hlen r0 r1 hq y hy hg.ok hg.good ey ho z hz hgz.ok hgz.good (by omega) oz oy hl
        ·exact zY S s v h i hs gs hlen r0 r1 hq y hy hg.ok hg.good ey ho z hz hgz.ok hgz.good (by omega) oz oy (by omega)
    ·have hq:plN S s.tm=S.length:=by omega
     have hny:∀y,S[plN S s.tm]? ≠some y:=fun y hy=>by have:=(List.getElem?_eq_some_iff.1 hy).1;omega
     by_cases hp0:plN S s.tm=0
     ·rw[if_neg (fun h3=>by
       rcases h3 with⟨z',h0,_⟩ | ⟨y',hy',o⟩
       ·omega
       ·exact hny _ hy'),if_pos (by omega)]
      exact q_addN S s v h i hs gs hlen r0 r1 hq hp0
     ·obtain⟨z,hz⟩:=hpz (by omega)
      have hgz:=hS.at hz
      by_cases oz:opp z.pose s.pose
      ·rw[if_pos (.inl ⟨z,by omega,hz,oz⟩)]
       exact q_addBE S s v h i hs gs hlen r0 r1 hq z hz hgz.ok hgz.good (by omega) oz
      ·rw[if_neg (fun h3=>by
        rcases h3 with⟨z',_,hz',o⟩ | ⟨y',hy',o⟩
        ·rw[hz]at hz';injection hz' with hz';subst hz';exact oz o
        ·exact hny _ hy')]
       split
       ·rename_i hl;exact q_addIE S s v h i hs gs hlen r0 r1 hq z hz hgz.ok hgz.good (by omega) oz hl
       ·exact zX S s v h i hs gs hlen r0 r1 hq z hz hgz.ok hgz.good (by omega) oz (by omega)
end Go.Proofs.YtggfmklppkioeaaGreat
namespace Go.Proofs.YtggfmklppkioeaaGreat
set_option linter.unusedSimpArgs false
set_option linter.unusedVariables false
set_option maxRecDepth 100000
open Go.RowKit
section
variable {ρ:Rho} {n m k L:Nat} {t e:TypeId} {B:Blk} {w:World} {qs:List Vp}
theorem hr0 {x:RSt}:∀(j:Nat) (q:Vp),x.qs[j]? =some q→x.qs[0+j]? =some q:=fun j q h=>by rw[Nat.zero_add];exact h
theorem hr1 {x:RSt}:∀(j:Nat) (q:Vp),(uo x.rs)[j]? =some q→x.qs[1+j]? =some q:=fun j q h=>by rw[Nat.add_comm];exact h
end
/-- A list that lies in a new variable. -/
def RowN (ρ:Rho) (l:Leaf) (S:List St):Prop:=(l= .sl0∧S=[])∨∃k m,l= .own k m∧(ρ[m]? =some (.row stT S.length (aC S))∨ρ[m]? =some (.ownr stT 22 S.length (aC S)))
def runMk (p:Program) (C:List Inst) (L:List OIns) (fn:Func) (args:List SV) (u:Nat) (T:TypeId) (fuel:Nat) (lo:Los):Option (AV×Leaf×List LOb):=
 match l8 p C L fn args [] fuel lo with
 | some (r,s,obs)=>match s.vars[u]? with
  | some (t,[some l])=>if t=T then some (r,l,obs)else none
  | _=>none
 | none=>none
/-- A function that makes a track. -/
theorem aaa {ρ:Rho} {w:World} {C:List Inst} {L:List OIns} {T:TypeId} {u:Nat} {l:Leaf} {S:List St} (hC:∀i∈C,i.Ok0 Tryz.prog ρ (.of w)) (hO:∀i∈L,i.OkE (.of w) Tryz.prog ρ) {f:FuncId} {fn:Func} (hf:Tryz.prog.funcs[f]? =some fn) {args:List SV} {vs:List Value} {fuel:Nat} {lo:Los} {r:AV} {obs:List LOb}
  (hr:runMk Tryz.prog C L fn args u T fuel lo=some (r,l,obs)) (hl:∀o∈obs,o.Ok Tryz.prog ρ (.of w) fn.ntmps) (ha:bP ρ noB w args vs) (hS:RowN ρ l S):
  Calls Tryz.prog f vs.toArray w (fun e w'=>∃v B' g sl,e= .returned v∧r.holds ρ B' w' v∧B'.v u=some g∧w.heap.size≤g∧TrkS T w' g sl S∧(∀b,sl.ownBlock=some b→w.heap.size≤b∧bB w' b)∧Below w.heap.size w w'):=by
 obtain⟨s,hr,hs⟩:∃s,l8 Tryz.prog C L fn args [] fuel lo=some (r,s,obs)∧s.vars[u]? =some (T,[some l]):=by
  unfold runMk at hr
  split at hr
  ·rename_i r' s obs' h1
   split at hr
   ·rename_i t l' h2
    split at hr
    ·rename_i ht
     subst ht
     simp only[Option.some.injEq,Prod.mk.injEq]at hr
     obtain⟨rfl,rfl,rfl⟩:=hr
     exact⟨s,h1,h2⟩
    ·cases hr
   ·cases hr
  ·cases hr
 refine(kU (E:=.of w) (B:=noB) hC hO (by kernel_rfl) hf hr hl (fun hn=>nX hn ha)).mono ?_
 rintro e w' ⟨v,B',a',rfl,h1,hi,hv⟩
 obtain⟨g,cs,e1,e2,e3,_⟩:=hi.var (x:=u) (t:=T) (ls:=[l]) hv hs (Nat.succ_pos _) (by show 1≤100000;decide)
 have hcs:∃sl,cs.toList=[sl]∧l.holds ρ B' w' sl:=by
  match hc:cs.toList,e3 with
  | [sl],e3=>exact⟨sl,rfl,e3.1⟩
  | [],e3=>exact e3.elim
  | _::_::_,e3=>exact e3.2.elim
 obtain⟨sl,h2,h3⟩:=hcs
 have hcs:cs=#[sl]:=by rw[←Array.toList_inj];exact h2
 subst hcs
 have hge:w.heap.size≤g:=by
  rcases(hi.blk _ _ e1).1 with h | h
  ·exact h
  ·exact h.elim
 refine⟨v,B',g,sl,rfl,h1,e1,hge,?_,?_,hi.below.to⟩
 ·rcases hS with⟨rfl,rfl⟩ | ⟨k,m,rfl,hm⟩
  ·have e:sl= .slice none 0 0:=h3
   subst e
   exact⟨e2,.inl ⟨rfl,rfl,rfl⟩,fun b hb=>by cases hb⟩
  ·have hrow:(Vp.row stT S.length (aC S)).p w' sl:=by
    rcases hm with hm | hm
    ·exact(mL hm h3).1
    ·exact lw (mL hm h3).1
   obtain⟨_,_,_,_,k4⟩:=h3
   exact⟨e2,hrow,fun b hb e=>by subst e;exact hi.inj.vo _ _ _ e1 (k4 b hb)⟩
 ·rcases hS with⟨rfl,rfl⟩ | ⟨k,m,rfl,hm⟩
  ·have e:sl= .slice none 0 0:=h3
   subst e
   exact fun b hb=>by cases hb
  ·obtain⟨_,_,_,_,k4⟩:=h3
   exact fun b hb=>by
    obtain⟨h5,h6⟩:=hi.own _ _ (k4 b hb)
    rcases h5 with h5 | h5
    ·exact⟨h5,h6⟩
    ·exact h5.elim
theorem aab (w:World):Calls Tryz.prog 126 #[] w fun e w'=>∃g sl,e= .returned (.pointer (some ⟨g,0,none⟩))∧w.heap.size≤g∧TrkS 223 w' g sl []∧(∀b,sl.ownBlock=some b→w.heap.size≤b∧bB w' b)∧Below w.heap.size w w':=by
 refine(aaa (ρ:=[]) (w:=w) (fuel:=300) (args:=[]) (vs:=[]) (lo:=[]) (obs:=[]) (r:=.v (.one (.ptr 0 0))) (u:=0) (l:=.sl0) (S:=[]) (T:=223) ah ai Tryz.func126 (by kernel_rfl) aV trivial (.inl ⟨rfl,rfl⟩)).mono ?_
 rintro e w' ⟨v,B',g,sl,rfl,⟨g',h1,rfl⟩,h2,h3⟩
 rw[h2]at h1;injection h1 with h1;subst h1
 exact⟨_,_,rfl,h3⟩
end Go.Proofs.YtggfmklppkioeaaGreat
namespace Go.Proofs.YtggfmklppkioeaaGreat
set_option linter.unusedSimpArgs false
set_option linter.unusedVariables false
set_option maxRecDepth 100000
open Go.RowKit
/-- Numbers of at most two digits. -/
def RSt.two (x:RSt):Prop:=∀r∈x.rs,r.L≤2∧r.N≤2
theorem RSt.two.sm {x:RSt} (h:x.two):x.sm:=by
 have g:∀r∈x.rs,r.L≤1000000∧r.N≤1000000:=fun r hr=>⟨Nat.le_trans (h r hr).1 (by decide),Nat.le_trans (h r hr).2 (by decide)⟩
 exact⟨g _ (by simp[RSt.rs]),g _ (by simp[RSt.rs]),g _ (by simp[RSt.rs]),g _ (by simp[RSt.rs]),g _ (by simp[RSt.rs]),g _ (by simp[RSt.rs]),g _ (by simp[RSt.rs])⟩
theorem aac {x:RSt} {s:St} (h:x.two) (e:x=s.raw) (g:s.pose.good):s.pose.ok 2:=by
 subst e
 have q:∀y:Fq,y.raw∈s.raw.rs→y.valid=true→y.ok 2:=fun y hy hv=>⟨(h _ hy).1,(h _ hy).2,Fq.valid.n hv⟩
 exact⟨⟨q _ (by simp[RSt.rs,St.raw]) g.rot.comp.w,q _ (by simp[RSt.rs,St.raw]) g.rot.comp.x,q _ (by simp[RSt.rs,St.raw]) g.rot.comp.y,q _ (by simp[RSt.rs,St.raw]) g.rot.comp.z⟩,⟨q _ (by simp[RSt.rs,St.raw]) g.pos.x,q _ (by simp[RSt.rs,St.raw]) g.pos.y,q _ (by simp[RSt.rs,St.raw]) g.pos.z⟩⟩
theorem sw {x:RSt} (h:qQ x.r0 x.r1 x.r2 x.r3 x.r4 x.r5 x.r6=true):∃s:St,x=s.raw∧s.pose.good:=by
 unfold qQ uc qP at h
 simp only[Bool.and_eq_true]at h
 obtain⟨⟨⟨h0,h1,h2,h3⟩,h7⟩,h4,h5,h6⟩:=h
 have m0:=cW h0;have m1:=cW h1;have m2:=cW h2;have m3:=cW h3
 have m4:=cW h4;have m5:=cW h5;have m6:=cW h6
 have gc:(Qq.mk ⟨x.r0.s,x.r0.p,x.r0.q⟩ ⟨x.r1.s,x.r1.p,x.r1.q⟩ ⟨x.r2.s,x.r2.p,x.r2.q⟩ ⟨x.r3.s,x.r3.p,x.r3.q⟩).comp:=⟨m0.2,m1.2,m2.2,m3.2⟩
 refine⟨⟨x.tm,⟨⟨⟨x.r0.s,x.r0.p,x.r0.q⟩,⟨x.r1.s,x.r1.p,x.r1.q⟩,⟨x.r2.s,x.r2.p,x.r2.q⟩,⟨x.r3.s,x.r3.p,x.r3.q⟩⟩,⟨⟨x.r4.s,x.r4.p,x.r4.q⟩,⟨x.r5.s,x.r5.p,x.r5.q⟩,⟨x.r6.s,x.r6.p,x.r6.q⟩⟩⟩⟩,?_,⟨vD gc (Fq.same_iff.1 h7),⟨m4.2,m5.2,m6.2⟩⟩⟩
 have e0:=m0.1;have e1:=m1.1;have e2:=m2.1;have e3:=m3.1;have e4:=m4.1;have e5:=m5.1;have e6:=m6.1
 obtain⟨tm,r0,r1,r2,r3,r4,r5,r6⟩:=x
 simp only at e0 e1 e2 e3 e4 e5 e6
 unfold St.raw
 simp only[←e0,←e1,←e2,←e3,←e4,←e5,←e6]
open Classical in
/-- What Add makes of a list at a stamp as it comes in. -/
noncomputable def xi (S:List St) (x:RSt):List St×Int:=if h:∃s:St,x=s.raw∧s.pose.good then xg S h.choose else(S,4)
theorem xj {S:List St} {x:RSt} (h:GoodS S) (h2:x.two):GoodS (xi S x).1:=by
 unfold xi
 split
 ·rename_i hx
  exact xh h (aac h2 hx.choose_spec.1 hx.choose_spec.2) hx.choose_spec.2
 ·exact h
theorem q_AddR (S:List St) (x:RSt) (v:Value) {w:World} {g:Nat} {sl:Value} (h:TrkS 223 w g sl S) (i:xe w v x) (h2:x.two) (hS:GoodS S):
  Calls Tryz.prog 127 (.pointer (some ⟨g,0,none⟩)::[v]).toArray w fun e w'=>e= .returned (.int .i64 (xi S x).2)∧TrkM 223 w g sl (xi S x).1 w':=by
 unfold xi
 split
 ·rename_i hx
  exact q_Add S hx.choose v h (by rw[←z6,←hx.choose_spec.1];exact i) (aac h2 hx.choose_spec.1 hx.choose_spec.2) hx.choose_spec.2 hS
 ·rename_i hx
  by_cases r0:x.tm<0
  ·exact z7 S x v h i h2.sm r0
  ·by_cases r1:1099511627776<x.tm
   ·exact z8 S x v h i h2.sm r1
   ·exact xf S x v h i h2.sm (by omega) (by omega) (Bool.eq_false_iff.2 (fun e=>hx (sw e)))
section
variable {ρ:Rho} {n m m' k c u:Nat} {S:List St} {x:RSt} {ns:List Nat} {r:SV}
end
end Go.Proofs.YtggfmklppkioeaaGreat
namespace Go.Proofs.YtggfmklppkioeaaGreat
set_option linter.unusedSimpArgs false
set_option linter.unusedVariables false
set_option maxRecDepth 100000
open Go.RowKit
/-- What lies around a time. -/
inductive Road (S:List St) (a:Int):St→St→Int→Prop
 | E (h:S.length=0):Road S a zst zst 6
 | O1 (f:St) (hf:S[0]? =some f) (hn:0<S.length) (ha:a<f.tm):Road S a zst zst 17
 | O2 (f:St) (hf:S[0]? =some f) (hb:f.tm≤a) (l:St) (hl:S[S.length - 1]? =some l) (hn:0<S.length) (ha:l.tm<a):Road S a zst zst 17
 | Q (f:St) (hf:S[0]? =some f) (hb:f.tm≤a) (l:St) (hl:S[S.length - 1]? =some l) (hn:0<S.length) (ha:a≤l.tm) (y:St) (hy:S[plN S a]? =some y) (ey:y.tm=a) (hp:plN S a<S.length) (eq1:plN S (a+1)=plN S a+1):Road S a y y 0
 | M (f:St) (hf:S[0]? =some f) (hb:f.tm≤a) (l:St) (hl:S[S.length - 1]? =some l) (hn:0<S.length) (ha:a≤l.tm) (y:St) (hy:S[plN S a]? =some y) (ey:a<y.tm) (hp:plN S a<S.length) (h0:0<plN S a) (eq1:plN S (a+1)=plN S a) (z:St) (hz:S[plN S a - 1]? =some z):Road S a z y 0
section
variable {S:List St} {a:Int} {z y:St} {c:Int} {w:World} {g:Nat} {sl:Value}
end
end Go.Proofs.YtggfmklppkioeaaGreat
namespace Go.Proofs.YtggfmklppkioeaaGreat
set_option linter.unusedSimpArgs false
set_option linter.unusedVariables false
set_option maxRecDepth 100000
open Go.RowKit
section
variable {S S':List St} {i t a:Int} {z y:St}
theorem ends {S:List St} {k:Nat} {x:St} (hS:GoodS S) (hx:S[k]? =some x):∃f l,S[0]? =some f∧S[S.length - 1]? =some l∧f.tm≤x.tm∧x.tm≤l.tm∧k<S.length:=by
 have hk:=(List.getElem?_eq_some_iff.1 hx).1
 refine⟨_,_,List.getElem?_eq_getElem (by omega),List.getElem?_eq_getElem (by omega),?_,?_,hk⟩
 ·rcases Nat.eq_zero_or_pos k with e | e
  ·subst e;rw[List.getElem?_eq_getElem hk]at hx;injection hx with hx;rw[hx];omega
  ·have:=hS.sort 0 k _ _ e (List.getElem?_eq_getElem (by omega)) hx;omega
 ·rcases Nat.lt_or_ge k (S.length - 1)with e | e
  ·have:=hS.sort k (S.length - 1) _ _ e hx (List.getElem?_eq_getElem (by omega));omega
  ·have e:k=S.length - 1:=by omega
   subst e;rw[List.getElem?_eq_getElem hk]at hx;injection hx with hx;rw[hx];omega
end
section
variable {xs:List Fq} {ys:Rho} {u:Nat} {l la:Leaf} {S:List St} {a:Int} {z y:St} {kr:List Nat} {E:Pq} {r:SV}
end
end Go.Proofs.YtggfmklppkioeaaGreat
namespace Go.Proofs.YtggfmklppkioeaaGreat
set_option linter.unusedSimpArgs false
set_option linter.unusedVariables false
set_option maxRecDepth 100000
open Classical
abbrev Nm:=ByteArray
/-- A link, without its child. -/
structure Lk where
 par:Nm
 fr:Int
 un:Int
 st:Bool
 po:Pq
 tr:List St
abbrev Tr:=List (Nm×Lk)
/-- The link holds at a time. -/
def Lk.has (x:Lk) (a:Int):Bool:=decide (x.fr≤a) && (decide (x.un= -1) || decide (a<x.un))
/-- The links of a child. -/
noncomputable def lks (R:Tr) (c:Nm):List Lk:=(R.filter fun q=>decide (q.1=c)).map (·.2)
noncomputable def tAt (R:Tr) (c:Nm) (a:Int):Option Lk:=(lks R c).find? (·.has a)
noncomputable def par (R:Tr) (a:Int) (c:Nm):Option Nm:=(tAt R c a).map (·.par)
theorem lH (c:Nm):lks [] c=[]:=rfl
theorem oH (q:Nm×Lk) (R:Tr) (c:Nm):lks (q::R) c=if q.1=c then q.2::lks R c else lks R c:=by
 unfold lks
 by_cases h:q.1=c
 ·rw[if_pos h,List.filter_cons_of_pos (by simpa using h)];rfl
 ·rw[if_neg h,List.filter_cons_of_neg (by simpa using h)]
theorem ft (R Q:Tr) (c:Nm):lks (R++Q) c=lks R c++lks Q c:=by unfold lks;rw[List.filter_append,List.map_append]
theorem ce {R:Tr} {c:Nm} {x:Lk}:x∈lks R c↔(c,x)∈R:=by
 unfold lks
 constructor
 ·intro h
  obtain⟨q,h1,rfl⟩:=List.mem_map.1 h
  obtain⟨h2,h3⟩:=List.mem_filter.1 h1
  have e:q.1=c:=by simpa using h3
  subst e;exact h2
 ·intro h;exact List.mem_map.2 ⟨(c,x),List.mem_filter.2 ⟨h,by simp⟩,rfl⟩
/-- The links of one child follow one another in time. -/
def jK (L:List Lk):Prop:=L.Pairwise fun x y=>x.un≠ -1∧x.un≤y.fr
/-- From one frame one arrives at another one. -/
inductive Reach (R:Tr) (a:Int):Nm→Nm→Prop
 | refl (x:Nm):Reach R a x x
 | step {x y z:Nm} (h:par R a x=some y) (t:Reach R a y z):Reach R a x z
theorem Reach.snoc {R:Tr} {a:Int} {x y z:Nm} (h:Reach R a x y) (k:par R a y=some z):Reach R a x z:=by
 induction h with
 | refl x=>exact .step k (.refl _)
 | step h _ ih=>exact .step h (ih k)
theorem Reach.trans {R:Tr} {a:Int} {x y z:Nm} (h:Reach R a x y) (k:Reach R a y z):Reach R a x z:=by
 induction h with
 | refl x=>exact k
 | step h _ ih=>exact .step h (ih k)
/-- The parents end. -/
def ec (R:Tr) (a:Int):Nm→Prop:=Acc fun y x=>par R a x=some y
theorem ec.no_loop {R:Tr} {a:Int} {x:Nm} (h:ec R a x):∀y,par R a x=some y→¬Reach R a y x:=by
 induction h with
 | intro x _ ih=>
  intro y hy hr
  cases hr with
  | refl=>exact ih _ hy _ hy (.refl _)
  | step h t=>exact ih y hy _ h (t.snoc hy)
theorem ec.tail {R:Tr} {a:Int} {x y:Nm} (h:ec R a x) (k:par R a x=some y):ec R a y:=Acc.inv h k
/-- Fewer links: the parents still end. -/
theorem ec.mono {R R':Tr} {a a':Int} (hp:∀x y,par R' a' x=some y→par R a x=some y) {x:Nm} (h:ec R a x):ec R' a' x:=by
 induction h with
 | intro x _ ih=>exact .intro x (fun y hy=>ih y (hp x y hy))
/-- One parent more, from which one does not come back. -/
theorem ec.add {R R':Tr} {a:Int} {c p:Nm} (hc:∀x,x≠c→par R' a x=par R a x) (hn:par R' a c=some p) (hl:∀x,ec R a x) (hno:¬Reach R a p c):∀x,ec R' a x:=by
 have h1:∀x,ec R a x→¬Reach R a x c→ec R' a x:=by
  intro x h
  induction h with
  | intro x _ ih=>
   intro hno
   refine .intro x (fun y hy=> ?_)
   have hx:x≠c:=fun e=>hno (e▸ .refl _)
   have hy:par R a x=some y:=by rw[←hc x hx];exact hy
   exact ih y hy (fun hr=>hno (.step hy hr))
 have h2:ec R' a c:=.intro c (fun y hy=>by
  have hy:par R' a c=some y:=hy
  rw[hn]at hy;injection hy with hy;subst hy
  exact h1 p (hl p) hno)
 intro x
 have h:=hl x
 induction h with
 | intro x _ ih=>
  by_cases e:x=c
  ·subst e;exact h2
  ·exact .intro x (fun y hy=>ih y (by rw[←hc x e];exact hy))
/-- n parents on. -/
noncomputable def up (R:Tr) (a:Int):Nat→Nm→Option Nm
 | 0,x=>some x
 | n+1,x=>(par R a x).bind (up R a n)
theorem par_mem {R:Tr} {a:Int} {x y:Nm} (h:par R a x=some y):x∈R.map (·.1):=by
 unfold par tAt at h
 cases hf:(lks R x).find? (·.has a)with
 | none=>rw[hf]at h;cases h
 | some q=>exact List.mem_map.2 ⟨(x,q),ce.1 (List.mem_of_find?_eq_some hf),rfl⟩
theorem eT:∀ {l m:List Nm},l.Nodup→(∀x∈l,x∈m)→l.length≤m.length
 | [],_,_,_=>Nat.zero_le _
 | x::l,m,hn,hs=>by
  obtain⟨h1,h2⟩:=List.nodup_cons.1 hn
  obtain⟨s,t,rfl⟩:=List.append_of_mem (hs x (List.mem_cons_self ..))
  have h3:∀y∈l,y∈s++t:=fun y hy=>by
   have h4:=hs y (List.mem_cons_of_mem _ hy)
   rcases List.mem_append.1 h4 with h5 | h5
   ·exact List.mem_append.2 (.inl h5)
   ·rcases List.mem_cons.1 h5 with h6 | h6
    ·subst h6;exact absurd hy h1
    ·exact List.mem_append.2 (.inr h6)
  have h4:=eT h2 h3
  simp only[List.length_cons,List.length_append]at h4⊢;omega
/-- The parents end after no more steps than there are links. -/
theorem ec.bound {R:Tr} {a:Int} {x:Nm} (h:ec R a x):∃(l:List Nm) (y:Nm),l.Nodup∧(∀z∈l,(z∈R.map (·.1)∧par R a z≠none)∧Reach R a x z)∧up R a l.length x=some y∧par R a y=none∧Reach R a x y:=by
 induction h with
 | intro x hx ih=>
  cases hp:par R a x with
  | none=>exact⟨[],x,List.nodup_nil,fun z hz=>(by cases hz),rfl,hp,.refl _⟩
  | some z=>
   obtain⟨l,y,h1,h2,h3,h4,h5⟩:=ih z hp
   have hx:ec R a x:=.intro x hx
   refine⟨x::l,y,List.nodup_cons.2 ⟨fun hm=>hx.no_loop z hp (h2 x hm).2,h1⟩,fun q hq=> ?_,?_,h4,.step hp h5⟩
   ·rcases List.mem_cons.1 hq with rfl | hq
    ·exact⟨⟨par_mem hp,by rw[hp];simp⟩,.refl _⟩
    ·exact⟨(h2 q hq).1,.step hp (h2 q hq).2⟩
   ·simp only[List.length_cons,up,hp,Option.bind_some];exact h3
theorem ec.root {R:Tr} {a:Int} {x:Nm} (h:ec R a x):∃n y,n≤R.length∧up R a n x=some y∧par R a y=none:=by
 obtain⟨l,y,h1,h2,h3,h4,_⟩:=h.bound
 exact⟨l.length,y,by have:=eT h1 (fun z hz=>(h2 z hz).1.1);rwa [List.length_map]at this,h3,h4⟩
theorem oI {R:Tr} {a:Int}:∀ {n:Nat} {x y:Nm},up R a n x=some y→Reach R a x y
 | 0,x,y,h=>by simp only[up,Option.some.injEq]at h;subst h;exact .refl _
 | n+1,x,y,h=>by
  simp only[up]at h
  cases hp:par R a x with
  | none=>rw[hp]at h;cases h
  | some z=>rw[hp]at h;exact .step hp (oI h)
end Go.Proofs.YtggfmklppkioeaaGreat
namespace Go.Proofs.YtggfmklppkioeaaGreat
set_option linter.unusedSimpArgs false
set_option linter.unusedVariables false
set_option maxRecDepth 100000
open Classical
abbrev mj:Int:=1099511627776
theorem cX {x:Lk} {a:Int}:x.has a=true↔x.fr≤a∧(x.un= -1∨a<x.un):=by simp[Lk.has]
/-- The one link that holds at a time is found. -/
theorem vG:∀ {L:List Lk} {x:Lk} {a:Int},jK L→x∈L→x.has a=true→L.find? (·.has a)=some x
 | [],_,_,_,h,_=>by cases h
 | y::L,x,a,hr,hm,hx=>by
  obtain⟨h1,h2⟩:=List.pairwise_cons.1 hr
  rcases List.mem_cons.1 hm with rfl | hm
  ·rw[List.find?_cons_of_pos (by exact hx)]
  ·have h3:=h1 x hm
   have h4:=cX.1 hx
   have hy:¬(y.has a=true):=fun hy=>by
    have h5:=cX.1 hy
    rcases h5.2 with h6 | h6
    ·exact h3.1 h6
    ·omega
   rw[List.find?_cons_of_neg (by exact hy)]
   exact vG h2 hm hx
theorem aad {R:Tr} {c:Nm} {x:Lk} {a:Int} (hr:jK (lks R c)) (hm:(c,x)∈R) (hx:x.has a=true):tAt R c a=some x:=vG hr (ce.2 hm) hx
theorem vH {R:Tr} {c:Nm} {x:Lk} {a:Int} (h:tAt R c a=some x):(c,x)∈R∧x.has a=true:=by
 unfold tAt at h
 exact⟨ce.1 (List.mem_of_find?_eq_some h),by have:=List.find?_some h;exact this⟩
theorem sx {R:Tr} {c:Nm} {a:Int} (h:∀x,(c,x)∈R→¬(x.has a=true)):tAt R c a=none:=by
 unfold tAt
 exact List.find?_eq_none.2 (fun x hx=>h x (ce.1 hx))
theorem par_of {R:Tr} {c:Nm} {x:Lk} {a:Int} (hr:jK (lks R c)) (hm:(c,x)∈R) (hx:x.has a=true):par R a c=some x.par:=by unfold par;rw[aad hr hm hx];rfl
theorem lI {R:Tr} {a:Int} {c y:Nm} (h:par R a c=some y):∃x,(c,x)∈R∧x.has a=true∧x.par=y:=by
 unfold par at h
 cases hf:tAt R c a with
 | none=>rw[hf]at h;cases h
 | some x=>rw[hf]at h;injection h with h;exact⟨x,(vH hf).1,(vH hf).2,h⟩
/-- What is reached at a time is reached as soon as the last link of the way began. -/
theorem sy {R:Tr} (hr:∀c,jK (lks R c)) {f a:Int} (hfa:f≤a) {x y:Nm} (h:Reach R a x y):∃s,f≤s∧s≤a∧(s=f∨∃q∈R,q.2.fr=s)∧∀t,s≤t→t≤a→Reach R t x y:=by
 induction h with
 | refl x=>exact⟨f,Int.le_refl _,hfa,.inl rfl,fun _ _ _=>.refl _⟩
 | @step x y z h _ ih=>
  obtain⟨s,h1,h2,h3,h4⟩:=ih
  obtain⟨q,hq,hh,rfl⟩:=lI h
  have h5:=cX.1 hh
  have hp:∀t,q.fr≤t→t≤a→par R t x=some q.par:=fun t h6 h7=>par_of (hr x) hq (cX.2 ⟨h6,by rcases h5.2 with h8 | h8;exact .inl h8;exact .inr (by omega)⟩)
  by_cases hs:q.fr≤s
  ·exact⟨s,h1,h2,h3,fun t h6 h7=>.step (hp t (by omega) h7) (h4 t h6 h7)⟩
  ·exact⟨q.fr,by omega,h5.1,.inr ⟨(x,q),hq,rfl⟩,fun t h6 h7=>.step (hp t h6 h7) (h4 t (by omega) h7)⟩
/-- A tree. -/
structure TOk (R:Tr):Prop where
 row:∀c,jK (lks R c)
 tm:∀q∈R,0≤q.2.fr∧q.2.fr≤mj∧(q.2.un= -1∨q.2.fr<q.2.un∧q.2.un≤mj)
 acy:∀a x,ec R a x
 good:∀q∈R,GoodS q.2.tr
 pose:∀q∈R,q.2.st=true→q.2.po.good∧q.2.po.ok 2
theorem TOk.nil:TOk [] where
 row:=fun c=>by rw[lH];exact .nil
 tm:=fun q h=>by cases h
 acy:=fun a x=>.intro x (fun y h=>by obtain⟨z,hz,_⟩:=lI h;cases hz)
 good:=fun q h=>by cases h
 pose:=fun q h=>by cases h
/-- A link from a time on would form a cycle. -/
def Cyc (R:Tr) (c p:Nm) (f:Int):Prop:=Reach R f p c∨∃q∈R,f<q.2.fr∧Reach R q.2.fr p c
def eg (p:Nm) (f:Int):Lk:=⟨p,f, -1,false,Pq.zero,[]⟩
def fD (R:Tr) (c p:Nm) (f:Int):Tr:=R++ [(c,eg p f)]
theorem lJ (R:Tr) (c p:Nm) (f:Int) (y:Nm):lks (fD R c p f) y=if y=c then lks R y++ [eg p f]else lks R y:=by
 unfold fD
 rw[ft,oH,lH]
 by_cases h:c=y
 ·subst h;rw[if_pos rfl,if_pos rfl]
 ·rw[if_neg h,if_neg (fun e=>h e.symm),List.append_nil]
theorem iX {R:Tr} {c p:Nm} {f:Int} (y:Nm) (a:Int):par (fD R c p f) a y=if y=c then(match par R a y with | some z=>some z | none=>if f≤a then some p else none)else par R a y:=by
 unfold par tAt
 rw[lJ]
 by_cases h:y=c
 ·rw[if_pos h,if_pos h,List.find?_append]
  cases hf:(lks R y).find? (·.has a)with
  | some x=>rfl
  | none=>
   by_cases ha:f≤a
   ·have:(eg p f).has a=true:=cX.2 ⟨ha,.inl rfl⟩
    simp only[Option.none_or,List.find?,this,if_pos ha];rfl
   ·have:(eg p f).has a=false:=Bool.eq_false_iff.2 (fun e=>ha (cX.1 e).1)
    simp only[Option.none_or,List.find?,this,if_neg ha];rfl
 ·rw[if_neg h,if_neg h]
theorem TOk.att {R:Tr} (h:TOk R) {c p:Nm} {f:Int} (h0:0≤f) (h1:f≤mj) (hu:∀x∈lks R c,x.un≠ -1∧x.un≤f) (hc:¬Cyc R c p f):TOk (fD R c p f) where
 row:=fun y=>by
  rw[lJ]
  split
  ·rename_i e;subst e
   exact List.pairwise_append.2 ⟨h.row _,List.pairwise_singleton _ _,fun x hx z hz=>by
    simp only[List.mem_singleton]at hz;subst hz;exact hu x hx⟩
  ·exact h.row y
 tm:=fun q hq=>by
  rcases List.mem_append.1 hq with hq | hq
  ·exact h.tm q hq
  ·simp only[List.mem_singleton]at hq;subst hq;exact⟨h0,h1,.inl rfl⟩
 acy:=fun a x=>by
  by_cases ha:f≤a
  ·have hn:par R a c=none:=by
    unfold par
    rw[sx (fun z hz hh=> ?_)];rfl
    have h2:=hu z (ce.2 hz)
    rcases(cX.1 hh).2 with h3 | h3
    ·exact h2.1 h3
    ·omega
   refine ec.add (c:=c) (p:=p) (fun y hy=>by rw[iX,if_neg hy]) (by rw[iX,if_pos rfl,hn];simp[ha]) (h.acy a) (fun hr=> ?_) x
   obtain⟨s,h2,h3,h4,h5⟩:=sy h.row ha hr
   have hs:=h5 s (Int.le_refl _) h3
   rcases h4 with rfl | ⟨q,hq,rfl⟩
   ·exact hc (.inl hs)
   ·by_cases e:q.2.fr=f
    ·rw[e]at hs;exact hc (.inl hs)
    ·exact hc (.inr ⟨q,hq,by omega,hs⟩)
  ·refine(h.acy a x).mono (fun y z hy=> ?_)
   rw[iX]at hy
   by_cases e:y=c
   ·rw[if_pos e]at hy
    cases hp:par R a y with
    | some w=>rw[hp]at hy;exact hy
    | none=>rw[hp]at hy;simp[ha]at hy
   ·rw[if_neg e]at hy;exact hy
 good:=fun q hq=>by
  rcases List.mem_append.1 hq with hq | hq
  ·exact h.good q hq
  ·simp only[List.mem_singleton]at hq;subst hq;exact GoodS.nil
 pose:=fun q hq hs=>by
  rcases List.mem_append.1 hq with hq | hq
  ·exact h.pose q hq hs
  ·simp only[List.mem_singleton]at hq;subst hq;cases hs
/-- A link is changed. -/
theorem cY (A B:Tr) (c:Nm) (x:Lk) (y:Nm):lks (A++(c,x)::B) y=if y=c then lks A y++x::lks B y else lks A y++lks B y:=by
 rw[ft,oH]
 by_cases h:c=y
 ·subst h;rw[if_pos rfl,if_pos rfl]
 ·rw[if_neg h,if_neg (fun e=>h e.symm)]
/-- Its transform changes, not its time and its parent. -/
theorem gM {A B:Tr} {c:Nm} {x x':Lk} (e1:x'.par=x.par) (e2:x'.fr=x.fr) (e3:x'.un=x.un) (a:Int) (y:Nm):par (A++(c,x')::B) a y=par (A++(c,x)::B) a y:=by
 have hh:x'.has a=x.has a:=by unfold Lk.has;rw[e2,e3]
 unfold par tAt
 rw[cY,cY]
 split
 ·rw[List.find?_append,List.find?_append]
  cases (lks A y).find? (·.has a)with
  | some z=>rfl
  | none=>
   simp only[Option.none_or,List.find?,hh]
   cases x.has a with
   | true=>simp[e1]
   | false=>rfl
 ·rfl
theorem TOk.same {A B:Tr} {c:Nm} {x x':Lk} (h:TOk (A++(c,x)::B)) (e1:x'.par=x.par) (e2:x'.fr=x.fr) (e3:x'.un=x.un) (hg:GoodS x'.tr) (hp:x'.st=true→x'.po.good∧x'.po.ok 2):TOk (A++(c,x')::B):=by
 have hm:∀q,q∈A++(c,x')::B→q∈A++(c,x)::B∨q=(c,x'):=fun q hq=>by
  rcases List.mem_append.1 hq with h1 | h1
  ·exact .inl (List.mem_append.2 (.inl h1))
  ·rcases List.mem_cons.1 h1 with h2 | h2
   ·exact .inr h2
   ·exact .inl (List.mem_append.2 (.inr (List.mem_cons_of_mem _ h2)))
 have hx:=h.tm (c,x) (List.mem_append.2 (.inr (List.mem_cons_self ..)))
 refine⟨fun y=> ?_,fun q hq=> ?_,fun a y=>(h.acy a y).mono (fun u v hu=>by rw[gM e1 e2 e3]at hu;exact hu),fun q hq=> ?_,fun q hq=> ?_⟩
 ·have h1:=h.row y
  rw[cY]at h1⊢
  split
  ·rename_i e;rw[if_pos e]at h1
   obtain⟨p1,p2,p3⟩:=List.pairwise_append.1 h1
   obtain⟨p4,p5⟩:=List.pairwise_cons.1 p2
   refine List.pairwise_append.2 ⟨p1,List.pairwise_cons.2 ⟨fun z hz=> ?_,p5⟩,fun u hu z hz=> ?_⟩
   ·rw[e3];exact p4 z hz
   ·rcases List.mem_cons.1 hz with rfl | hz
    ·rw[e2];exact p3 u hu x (List.mem_cons_self ..)
    ·exact p3 u hu z (List.mem_cons_of_mem _ hz)
  ·rename_i e;rw[if_neg e]at h1;exact h1
 ·rcases hm q hq with h1 | rfl
  ·exact h.tm q h1
  ·show 0≤x'.fr∧_;rw[e2,e3];exact hx
 ·rcases hm q hq with h1 | rfl
  ·exact h.good q h1
  ·exact hg
 ·rcases hm q hq with h1 | rfl
  ·exact h.pose q h1
  ·exact hp
/-- An open link is the last of its child. -/
theorem iY {A B:Tr} {c:Nm} {x:Lk} (hr:jK (lks (A++(c,x)::B) c)) (hx:x.un= -1):lks B c=[]:=by
 rw[cY,if_pos rfl]at hr
 obtain⟨_,p2,_⟩:=List.pairwise_append.1 hr
 obtain⟨p4,_⟩:=List.pairwise_cons.1 p2
 cases hB:lks B c with
 | nil=>rfl
 | cons z l=>exact absurd hx (p4 z (by rw[hB];exact List.mem_cons_self ..)).1
/-- A link ends. -/
theorem qT {A B:Tr} {c:Nm} {x:Lk} {u:Int} (hr:∀y,jK (lks (A++(c,x)::B) y)) (hx:x.un= -1) (a:Int) (y:Nm):
  par (A++(c,{x with un:=u})::B) a y=if y=c∧x.fr≤a∧u≤a∧u≠ -1 then none else par (A++(c,x)::B) a y:=by
 have hB:=iY (hr c) hx
 unfold par tAt
 rw[cY,cY]
 by_cases hy:y=c
 ·subst hy
  have h1:=hr y
  rw[cY,if_pos rfl]at h1
  obtain⟨_,_,p3⟩:=List.pairwise_append.1 h1
  rw[if_pos rfl,if_pos rfl,hB,List.find?_append,List.find?_append]
  cases hf:(lks A y).find? (·.has a)with
  | some z=>
   have hz:=List.mem_of_find?_eq_some hf
   have hz2:z.has a=true:=by have:=List.find?_some hf;exact this
   have h3:=p3 z hz x (List.mem_cons_self ..)
   have h4:=cX.1 hz2
   rw[if_neg (fun hh=>by rcases h4.2 with h5 | h5;exact h3.1 h5;omega)];rfl
  | none=>
   by_cases hc:x.fr≤a∧u≤a∧u≠ -1
   ·have:({x with un:=u}:Lk).has a=false:=Bool.eq_false_iff.2 (fun e=>by have:=(cX.1 e).2;simp only at this;omega)
    rw[if_pos ⟨rfl,hc⟩]
    simp[List.find?,this]
   ·rw[if_neg (fun hh=>hc hh.2)]
    have:({x with un:=u}:Lk).has a=x.has a:=by
     have e1:({x with un:=u}:Lk).has a=true↔x.has a=true:=by
      rw[cX,cX];simp only[hx]
      constructor
      ·rintro⟨h1,_⟩;exact⟨h1,.inl trivial⟩
      ·rintro⟨h1,_⟩;exact⟨h1,by omega⟩
     exact Bool.eq_iff_iff.2 e1
    simp only[Option.none_or,List.find?,this]
    cases x.has a<;>rfl
 ·rw[if_neg hy,if_neg hy,if_neg (fun hh=>hy hh.1)]
theorem TOk.det {A B:Tr} {c:Nm} {x:Lk} {u:Int} (h:TOk (A++(c,x)::B)) (hx:x.un= -1) (h1:x.fr<u) (h2:u≤mj):TOk (A++(c,{x with un:=u})::B):=by
 have hB:=iY (h.row c) hx
 have hm:∀q,q∈A++(c,{x with un:=u})::B→q∈A++(c,x)::B∨q=(c,{x with un:=u}):=fun q hq=>by
  rcases List.mem_append.1 hq with h1 | h1
  ·exact .inl (List.mem_append.2 (.inl h1))
  ·rcases List.mem_cons.1 h1 with h2 | h2
   ·exact .inr h2
   ·exact .inl (List.mem_append.2 (.inr (List.mem_cons_of_mem _ h2)))
 have hm0:(c,x)∈A++(c,x)::B:=List.mem_append.2 (.inr (List.mem_cons_self ..))
 have hx0:=h.tm (c,x) hm0
 refine⟨fun y=> ?_,fun q hq=> ?_,fun a y=>(h.acy a y).mono (fun s t hs=> ?_),fun q hq=> ?_,fun q hq=> ?_⟩
 ·have h3:=h.row y
  rw[cY]at h3⊢
  split
  ·rename_i e;subst e;rw[if_pos rfl,hB]at h3;rw[hB]
   obtain⟨p1,_,p3⟩:=List.pairwise_append.1 h3
   exact List.pairwise_append.2 ⟨p1,List.pairwise_singleton _ _,fun u' hu z hz=>by
    simp only[List.mem_singleton]at hz;subst hz;exact p3 u' hu x (List.mem_cons_self ..)⟩
  ·rename_i e;rw[if_neg e]at h3;exact h3
 ·rcases hm q hq with h3 | rfl
  ·exact h.tm q h3
  ·exact⟨hx0.1,hx0.2.1,.inr ⟨h1,h2⟩⟩
 ·rw[qT h.row hx]at hs
  split at hs
  ·cases hs
  ·exact hs
 ·rcases hm q hq with h3 | rfl
  ·exact h.good q h3
  ·exact h.good (c,x) hm0
 ·rcases hm q hq with h3 | rfl
  ·exact h.pose q h3
  ·exact h.pose (c,x) hm0
end Go.Proofs.YtggfmklppkioeaaGreat
namespace Go.Proofs.YtggfmklppkioeaaGreat
set_option linter.unusedSimpArgs false
set_option linter.unusedVariables false
set_option maxRecDepth 100000
open Go.RowKit
/-- An operation as it comes in. -/
structure ROp where
 k:Int
 x:RSt
/-- Its kind modulo 4. -/
def ROp.r (o:ROp):Int:=o.k.tmod 4
def ROp.qs (o:ROp):List Vp:=.val (.int .u8 o.k)::o.x.qs
section
variable {ρ:Rho} {n m m' k j j':Nat} {t e:TypeId} {l:Leaf}
/-- Two stamps in a slice. -/
theorem QL.app {ls ls':List Leaf} {qs qs':List Vp} (h:QL ρ ls qs) (h':QL ρ ls' qs'):QL ρ (ls++ls') (qs++qs'):=by
 induction ls generalizing qs with
 | nil=>cases qs with
  | nil=>exact h'
  | cons=>exact h.elim
 | cons l ls ih=>cases qs with
  | nil=>exact h.elim
  | cons q qs=>exact⟨h.1,ih h.2⟩
end
section
variable {ρ:Rho} {n n' m u n0 n1:Nat} {l la lc:Leaf} {S:List St} {a c:Int} {z y:St} {ns k0 k1:List Nat} {r:SV}
end
end Go.Proofs.YtggfmklppkioeaaGreat
namespace Go.Proofs.YtggfmklppkioeaaGreat
set_option linter.unusedSimpArgs false
set_option linter.unusedVariables false
set_option maxRecDepth 100000
open Classical
/-- Where the link of a child that holds at a time stands. -/
def PlAt (R:Tr) (c:Nm) (a:Int) (k:Nat) (x:Lk):Prop:=R[k]? =some (c,x)∧x.has a=true∧∀(i:Nat) (q:Nm×Lk),i<k→R[i]? =some q→¬(q.1=c∧q.2.has a=true)
def PlNo (R:Tr) (c:Nm) (a:Int):Prop:=∀(i:Nat) (q:Nm×Lk),R[i]? =some q→¬(q.1=c∧q.2.has a=true)
theorem PlNo.tAt {R:Tr} {c:Nm} {a:Int} (h:PlNo R c a):tAt R c a=none:=sx (fun x hx hh=>by
 obtain⟨i,hi,e⟩:=List.getElem_of_mem hx
 exact h i (c,x) (by rw[List.getElem?_eq_getElem hi,e]) ⟨rfl,hh⟩)
theorem PlAt.tAt {R:Tr} {c:Nm} {a:Int} {k:Nat} {x:Lk} (hr:jK (lks R c)) (h:PlAt R c a k x):tAt R c a=some x:=aad hr (List.mem_of_getElem? h.1) h.2.1
/-- The open link of a child. -/
def sA (R:Tr) (c:Nm) (k:Nat) (x:Lk):Prop:=R[k]? =some (c,x)∧x.un= -1
def qU (R:Tr) (c:Nm):Prop:=∀(i:Nat) (q:Nm×Lk),R[i]? =some q→¬(q.1=c∧q.2.un= -1)
theorem oJ {α:Type} {R:List α} {k:Nat} {q:α} (h:R[k]? =some q):∃A B,R=A++q::B∧A.length=k:=by
 obtain⟨hk,e⟩:=List.getElem?_eq_some_iff.1 h
 exact⟨R.take k,R.drop (k+1),by rw[←e,←List.drop_eq_getElem_cons hk,List.take_append_drop],by rw[List.length_take];omega⟩
/-- The open link is the child's last. -/
theorem sA.last {R:Tr} {c:Nm} {k:Nat} {x:Lk} (hr:jK (lks R c)) (h:sA R c k x):(lks R c).getLast? =some x:=by
 obtain⟨A,B,rfl,_⟩:=oJ h.1
 rw[cY,if_pos rfl,iY hr h.2,List.getLast?_append]
 rfl
theorem qU.last {R:Tr} {c:Nm} (h:qU R c) {x:Lk} (hx:(lks R c).getLast? =some x):x.un≠ -1:=fun e=>by
 obtain⟨i,hi,e2⟩:=List.getElem_of_mem (ce.1 (List.mem_of_getLast? hx))
 exact h i (c,x) (by rw[List.getElem?_eq_getElem hi,e2]) ⟨rfl,e⟩
/-- No link is open and the last one has ended: so have all. -/
theorem ended {L:List Lk} {f:Int} (hr:jK L) (hn:∀x∈L,x.un≠ -1) (htm:∀x∈L,x.fr<x.un) (hl:∀x,L.getLast? =some x→x.un≤f):∀x∈L,x.un≤f:=by
 induction L with
 | nil=>intro x hx;cases hx
 | cons y L ih=>
  obtain⟨h1,h2⟩:=List.pairwise_cons.1 hr
  cases L with
  | nil=>
   intro x hx
   simp only[List.mem_singleton]at hx;subst hx
   exact hl x rfl
  | cons z L=>
   have ih:=ih h2 (fun x hx=>hn x (List.mem_cons_of_mem _ hx)) (fun x hx=>htm x (List.mem_cons_of_mem _ hx)) (fun x hx=>hl x (by rw[List.getLast?_cons_cons];exact hx))
   intro x hx
   rcases List.mem_cons.1 hx with rfl | hx
   ·have h3:=(h1 z (List.mem_cons_self ..)).2
    have h4:=htm z (List.mem_cons_of_mem _ (List.mem_cons_self ..))
    have h5:=ih z (List.mem_cons_self ..)
    omega
   ·exact ih x hx
/-- Frames that are known. -/
def bo (R:Tr) (c:Nm):Prop:=∃q∈R,q.1=c∨q.2.par=c
/-- As many are known as there are in a list without doubles. -/
def bO (P:Nm→Prop) (n:Nat):Prop:=∃l:List Nm,l.Nodup∧(∀x,x∈l↔P x)∧l.length=n
theorem bO.uniq {P:Nm→Prop} {n m:Nat} (h:bO P n) (k:bO P m):n=m:=by
 obtain⟨l,h1,h2,rfl⟩:=h
 obtain⟨l',k1,k2,rfl⟩:=k
 exact Nat.le_antisymm (eT h1 (fun x hx=>(k2 x).2 ((h2 x).1 hx))) (eT k1 (fun x hx=>(h2 x).2 ((k2 x).1 hx)))
theorem bO.add {P:Nm→Prop} {n:Nat} {c:Nm} (h:bO P n) (hc:¬P c):bO (fun x=>P x∨x=c) (n+1):=by
 obtain⟨l,h1,h2,rfl⟩:=h
 refine⟨c::l,List.nodup_cons.2 ⟨fun hm=>hc ((h2 c).1 hm),h1⟩,fun x=> ?_,rfl⟩
 rw[List.mem_cons,h2];exact or_comm
theorem bO.same {P Q:Nm→Prop} {n:Nat} (h:bO P n) (e:∀x,P x↔Q x):bO Q n:=by
 obtain⟨l,h1,h2,h3⟩:=h
 exact⟨l,h1,fun x=>(h2 x).trans (e x),h3⟩
/-- What an attempt to attach gives: its code, and the tree behind it. -/
inductive AttS (isN:Nm→Prop) (R:Tr) (c p:Nm) (f:Int):Tr→Int→Prop
 | name (h:¬(isN c∧isN p)):AttS isN R c p f R 5
 | time (h:isN c∧isN p) (ht:f<0∨mj<f∨(∃k x,sA R c k x)∨∃x∈lks R c,f<x.un):AttS isN R c p f R 17
 | full (h:isN c∧isN p) (h0:0≤f) (h1:f≤mj) (h2:qU R c) (h3:∀x∈lks R c,x.un≤f) (n:Nat) (hn:bO (fun x=>bo R x∨x=c∨x=p) n) (hf:24<n∨64≤(lks R c).length):AttS isN R c p f R 15
 | cycle (h:isN c∧isN p) (h0:0≤f) (h1:f≤mj) (h2:qU R c) (h3:∀x∈lks R c,x.un≤f) (n:Nat) (hn:bO (fun x=>bo R x∨x=c∨x=p) n) (hf:n≤24∧(lks R c).length<64) (hc:Cyc R c p f):AttS isN R c p f R 19
 | ok (h:isN c∧isN p) (h0:0≤f) (h1:f≤mj) (h2:qU R c) (h3:∀x∈lks R c,x.un≤f) (n:Nat) (hn:bO (fun x=>bo R x∨x=c∨x=p) n) (hf:n≤24∧(lks R c).length<64) (hc:¬Cyc R c p f):AttS isN R c p f (fD R c p f) 0
theorem AttS.tok {isN:Nm→Prop} {R R':Tr} {c p:Nm} {f e:Int} (hR:TOk R) (h:AttS isN R c p f R' e):TOk R':=by
 cases h with
 | ok _ h0 h1 h2 h3 _ _ _ hc=>
  refine hR.att h0 h1 (fun x hx=>⟨fun e=> ?_,h3 x hx⟩) hc
  obtain⟨i,hi,e2⟩:=List.getElem_of_mem (ce.1 hx)
  exact h2 i (c,x) (by rw[List.getElem?_eq_getElem hi,e2]) ⟨rfl,e⟩
 | _=>exact hR
theorem xk {R:Tr} {c p:Nm} {f:Int} (x:Nm):bo (fD R c p f) x↔bo R x∨x=c∨x=p:=by
 unfold bo fD
 constructor
 ·rintro⟨q,hq,h⟩
  rcases List.mem_append.1 hq with hq | hq
  ·exact .inl ⟨q,hq,h⟩
  ·simp only[List.mem_singleton]at hq;subst hq
   rcases h with h | h
   ·exact .inr (.inl h.symm)
   ·exact .inr (.inr h.symm)
 ·rintro(⟨q,hq,h⟩ | rfl | rfl)
  ·exact⟨q,List.mem_append.2 (.inl hq),h⟩
  ·exact⟨_,List.mem_append.2 (.inr (List.mem_singleton.2 rfl)),.inl rfl⟩
  ·exact⟨_,List.mem_append.2 (.inr (List.mem_singleton.2 rfl)),.inr rfl⟩
theorem xl {A B:Tr} {c:Nm} {x x':Lk} (e:x'.par=x.par) (y:Nm):bo (A++(c,x')::B) y↔bo (A++(c,x)::B) y:=by
 have g:∀ {x x':Lk},x'.par=x.par→bo (A++(c,x')::B) y→bo (A++(c,x)::B) y:=by
  rintro x x' e ⟨q,hq,h⟩
  rcases List.mem_append.1 hq with hq | hq
  ·exact⟨q,List.mem_append.2 (.inl hq),h⟩
  ·rcases List.mem_cons.1 hq with rfl | hq
   ·exact⟨(c,x),List.mem_append.2 (.inr (List.mem_cons_self ..)),by rw[←e];exact h⟩
   ·exact⟨q,List.mem_append.2 (.inr (List.mem_cons_of_mem _ hq)),h⟩
 exact⟨g e,g e.symm⟩
/-- A tree is small. -/
structure TSm (R:Tr):Prop where
 cnt:∃n,n≤24∧bO (bo R) n
 per:∀c,(lks R c).length≤64
theorem TSm.nil:TSm []:=⟨⟨0,by decide,[],List.nodup_nil,fun x=>⟨fun h=>(by cases h),fun⟨q,h,_⟩=>(by cases h)⟩,rfl⟩,fun c=>by rw[lH];exact Nat.zero_le _⟩
theorem AttS.tsm {isN:Nm→Prop} {R R':Tr} {c p:Nm} {f e:Int} (hR:TSm R) (h:AttS isN R c p f R' e):TSm R':=by
 cases h with
 | ok _ h0 h1 h2 h3 n hn hf hc=>
  refine⟨⟨n,hf.1,hn.same (fun x=>(xk x).symm)⟩,fun y=> ?_⟩
  rw[lJ]
  split
  ·rename_i e;subst e;rw[List.length_append];have:=hf.2;simp only[List.length_cons,List.length_nil];omega
  ·exact hR.per y
 | _=>exact hR
theorem TSm.mid {A B:Tr} {c:Nm} {x x':Lk} (h:TSm (A++(c,x)::B)) (e:x'.par=x.par):TSm (A++(c,x')::B):=by
 obtain⟨⟨n,h1,h2⟩,h3⟩:=h
 refine⟨⟨n,h1,h2.same (fun y=>(xl e y).symm)⟩,fun y=> ?_⟩
 have h4:=h3 y
 rw[cY]at h4⊢
 split
 ·rename_i e2;rw[if_pos e2]at h4;simpa using h4
 ·rename_i e2;rw[if_neg e2]at h4;exact h4
/-- From every frame the parents end after at most 23 steps. -/
theorem xm {R:Tr} {a:Int} {x:Nm} (hR:TOk R) (hS:TSm R) (hx:bo R x):∃n y,n≤23∧up R a n x=some y∧par R a y=none:=by
 obtain⟨l,y,h1,h2,h3,h4,h5⟩:=(hR.acy a x).bound
 obtain⟨n,hn,m,k1,k2,rfl⟩:=hS.cnt
 have ky:bo R y:=by
  cases h5 with
  | refl=>exact hx
  | step e t=>
   have:∀ {u v:Nm},bo R u→Reach R a u v→bo R v:=by
    intro u v hu hr
    induction hr with
    | refl=>exact hu
    | step e _ ih=>
     obtain⟨z,hz,_,rfl⟩:=lI e
     exact ih ⟨_,hz,.inr rfl⟩
   exact this hx (.step e t)
 have hl:∀z∈y::l,z∈m:=fun z hz=>by
  rcases List.mem_cons.1 hz with rfl | hz
  ·exact(k2 _).2 ky
  ·obtain⟨q,hq,rfl⟩:=List.mem_map.1 (h2 z hz).1.1
   exact(k2 _).2 ⟨q,hq,.inl rfl⟩
 have hny:y∉l:=fun hm=>(h2 y hm).1.2 h4
 have:=eT (List.nodup_cons.2 ⟨hny,h1⟩) hl
 simp only[List.length_cons]at this
 exact⟨l.length,y,by omega,h3,h4⟩
end Go.Proofs.YtggfmklppkioeaaGreat
namespace Go.Proofs.YtggfmklppkioeaaGreat
set_option linter.unusedSimpArgs false
set_option linter.unusedVariables false
set_option maxRecDepth 100000
open Go.RowKit
section
variable {P:Program} {w:World} {t kt et:TypeId} {b clock:Nat} {es:Array MapEntry} {c:ByteArray}
theorem qW (hk:P.underlying kt=some .string) (em:Bool):(Instr.checkKey em 10000 kt (.string c)).run P w= .ok () w:=by
 rw[Instr.checkKey]
 simp[Sem.run_bind,run_underlying hk,Result.andThen]
theorem oK {r:Option (Nat×Value)} (ht:P.underlying t=some (.map kt et)) (hk:P.underlying kt=some .string) (hb:w.heap[b]? =some (.map es clock)) (hf:Instr.findNow .string (.string c) es.toList 0=some r) {z:Value} (hz:(zeroValue et).run P w= .ok z w):
  (Instr.lookup t (.map (some b)) (.string c) false).run P w= .ok (match r with | some (_,v)=>v | none=>z) w:=by
 unfold Instr.lookup Instr.findKey
 simp only[Sem.run_bind,run_underlying ht,Result.andThen,getObj,Sem.run,hb,qW hk,run_underlying hk,hf]
 cases r with
 | none=>simp[Sem.run_bind,hz,Result.andThen,hf]
 | some x=>simp[Sem.run_bind,Result.andThen,hf]
end
section
variable {ρ:Rho} {n m k j:Nat} {t T e:TypeId} {B:Blk} {w:World} {qs:List Vp} {q:Vp} {l:Leaf}
end
end Go.Proofs.YtggfmklppkioeaaGreat
