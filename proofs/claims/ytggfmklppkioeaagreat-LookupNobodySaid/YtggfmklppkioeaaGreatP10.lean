/- Make and canonical of rotations, by the executor. Products, inverses, images, by the executor. Matrices, units, from one vector to another, by the executor. On the way, valid rotations, by the executor. -/
import Derived.Test.YtggfmklppkioeaaGreatP09
namespace Go.Proofs.YtggfmklppkioeaaGreat
set_option linter.unusedSimpArgs false
set_option linter.unusedVariables false
set_option maxRecDepth 100000
open Go.RowKit
theorem lG {q:Qq} (h0:q.first.p≠0):q.canon=q.over q.first:=by unfold Qq.canon;rw[if_neg h0]
theorem Qq.ok.mk4 {a b c e:Fq} {d:Nat} (h1:a.ok d) (h2:b.ok d) (h3:c.ok d) (h4:e.ok d):(Qq.mk a b c e).ok d:=⟨h1,h2,h3,h4⟩
theorem y8 {u:Fq} {c:Vq} {d e:Nat} (h1:u.ok d) (h2:c.ok e) (h0:(Qq.mk u c.x c.y c.z).first.p≠0):(Qq.mk u c.x c.y c.z).canon.ok (d+e+(d+e)):=(Qq.ok.mk4 (h1.mono (by omega)) (h2.x.mono (by omega)) (h2.y.mono (by omega)) (h2.z.mono (by omega)):Qq.ok (d+e) _).canon h0
def gh (p0:Fq) (p1:Fq) (p2:Fq) (p3:Fq):List Fq:=[p0,p1,p2,p3,(p0.div p3),(p1.div p3),(p2.div p3),(p3.div p3)]
def eL (p0:Fq) (p1:Fq) (p2:Fq) (p3:Fq):List Fq:=[p0,p1,p2,p3,(p0.div p2),(p1.div p2),(p2.div p2),(p3.div p2)]
def eM (p0:Fq) (p1:Fq) (p2:Fq) (p3:Fq):List Fq:=[p0,p1,p2,p3,(p0.div p1),(p1.div p1),(p2.div p1),(p3.div p1)]
def eN (p0:Fq) (p1:Fq) (p2:Fq) (p3:Fq):List Fq:=[p0,p1,p2,p3,(p0.div p0),(p1.div p0),(p2.div p0),(p3.div p0)]
theorem q_fMakeT (vp0 vp1 vp2 vp3:Value) (p0:Fq) (p1:Fq) (p2:Fq) (p3:Fq) (w:World) (ip0:IsQ w vp0 p0) (ip1:IsQ w vp1 p1) (ip2:IsQ w vp2 p2) (ip3:IsQ w vp3 p3) (hp0:p0.ok 100000000) (hp1:p1.ok 100000000) (hp2:p2.ok 100000000) (hp3:p3.ok 100000000) (h0:(Qq.mk p0 p1 p2 p3).first.p≠0):
  Calls Tryz.prog 195 #[vp0,vp1,vp2,vp3] w fun e w'=>vK w (Qq.mk p0 p1 p2 p3).canon 0 e w':=by
 by_cases c0:p0.p=0
 ·by_cases c1:p1.p=0
  ·by_cases c2:p2.p=0
   ·by_cases c3:p3.p=0
    ·exact absurd (by simp[Qq.first,c0,c1,c2,c3]) h0
    ·have e1:(Qq.mk p0 p1 p2 p3).first=p3:=by simp[Qq.first,c0,c1,c2,c3]
     rw[lG h0,e1]
     refine(cRn (ρ:=frs (gh p0 p1 p2 p3)++([.val (.int .i64 p3.sgn)]:List Vp)) (args:=[fr 0,fr 1,fr 2,fr 3]) (vs:=[vp0,vp1,vp2,vp3]) (r:=.tup [row [4,5,6,7],.one (.i .i64 0)])
      (ae (aP (i:=0) rfl (li (fc c0)) (hp0.mono (by decide))) (ae (aP (i:=1) rfl (li (fc c1)) (hp1.mono (by decide))) (ae (aP (i:=2) rfl (li (fc c2)) (hp2.mono (by decide))) (ae (aP (i:=3) rfl (lr (n:=24) rfl) (hp3.mono (by decide))) (ae (cR (i:=0) (j:=3) (k:=4) rfl rfl rfl (hp0.mono (by decide)) (hp3.mono (by decide)) c3) (ae (cR (i:=1) (j:=3) (k:=5) rfl rfl rfl (hp1.mono (by decide)) (hp3.mono (by decide)) c3) (ae (cR (i:=2) (j:=3) (k:=6) rfl rfl rfl (hp2.mono (by decide)) (hp3.mono (by decide)) c3) (ae (cR (i:=3) (j:=3) (k:=7) rfl rfl rfl (hp3.mono (by decide)) (hp3.mono (by decide)) c3) (ae (lF (kq:=[4,5,6,7]) (q:=(Qq.mk (p0.div p3) (p1.div p3) (p2.div p3) (p3.div p3))) (kr:=[4,5,6,7]) ⟨rfl,rfl,rfl,rfl,trivial⟩ ⟨rfl,rfl,rfl,rfl,trivial⟩ (⟨(hp0.div hp3 c3).mono (by decide),(hp1.div hp3 c3).mono (by decide),(hp2.div hp3 c3).mono (by decide),(hp3.div hp3 c3).mono (by decide)⟩:Qq.ok 1000000000 (Qq.mk (p0.div p3) (p1.div p3) (p2.div p3) (p3.div p3)))) ai)))))))))
      (af (iD (n:=24) (c:=0) (t:=3) rfl (mM c3)) (aj)) Tryz.func195 (by kernel_rfl) ⟨(aH (xs:=gh p0 p1 p2 p3) (k:=0) rfl).2 ip0,⟨(aH (xs:=gh p0 p1 p2 p3) (k:=1) rfl).2 ip1,⟨(aH (xs:=gh p0 p1 p2 p3) (k:=2) rfl).2 ip2,⟨(aH (xs:=gh p0 p1 p2 p3) (k:=3) rfl).2 ip3,trivial⟩⟩⟩⟩).mono ?_
     rintro e w' ⟨v,rfl,⟨vs,rfl,h1⟩,h2⟩
     match vs,h1 with
     | [r,c],h1=>
      obtain⟨⟨cs,rfl,k1⟩,k2,_⟩:=h1
      have k2:c=_:=k2
      subst k2
      exact⟨_,rfl,(ah (xs:=gh p0 p1 p2 p3) (ks:=[4,5,6,7]) (vs:=[(p0.div p3),(p1.div p3),(p2.div p3),(p3.div p3)]) ⟨rfl,rfl,rfl,rfl,trivial⟩).1 ⟨_,rfl,k1⟩,h2⟩
   ·have e1:(Qq.mk p0 p1 p2 p3).first=p2:=by simp[Qq.first,c0,c1,c2]
    rw[lG h0,e1]
    refine(cRn (ρ:=frs (eL p0 p1 p2 p3)++([.val (.int .i64 p2.sgn)]:List Vp)) (args:=[fr 0,fr 1,fr 2,fr 3]) (vs:=[vp0,vp1,vp2,vp3]) (r:=.tup [row [4,5,6,7],.one (.i .i64 0)])
     (ae (aP (i:=0) rfl (li (fc c0)) (hp0.mono (by decide))) (ae (aP (i:=1) rfl (li (fc c1)) (hp1.mono (by decide))) (ae (aP (i:=2) rfl (lr (n:=24) rfl) (hp2.mono (by decide))) (ae (cR (i:=0) (j:=2) (k:=4) rfl rfl rfl (hp0.mono (by decide)) (hp2.mono (by decide)) c2) (ae (cR (i:=1) (j:=2) (k:=5) rfl rfl rfl (hp1.mono (by decide)) (hp2.mono (by decide)) c2) (ae (cR (i:=2) (j:=2) (k:=6) rfl rfl rfl (hp2.mono (by decide)) (hp2.mono (by decide)) c2) (ae (cR (i:=3) (j:=2) (k:=7) rfl rfl rfl (hp3.mono (by decide)) (hp2.mono (by decide)) c2) (ae (lF (kq:=[4,5,6,7]) (q:=(Qq.mk (p0.div p2) (p1.div p2) (p2.div p2) (p3.div p2))) (kr:=[4,5,6,7]) ⟨rfl,rfl,rfl,rfl,trivial⟩ ⟨rfl,rfl,rfl,rfl,trivial⟩ (⟨(hp0.div hp2 c2).mono (by decide),(hp1.div hp2 c2).mono (by decide),(hp2.div hp2 c2).mono (by decide),(hp3.div hp2 c2).mono (by decide)⟩:Qq.ok 1000000000 (Qq.mk (p0.div p2) (p1.div p2) (p2.div p2) (p3.div p2)))) ai))))))))
     (af (iD (n:=24) (c:=0) (t:=3) rfl (mM c2)) (aj)) Tryz.func195 (by kernel_rfl) ⟨(aH (xs:=eL p0 p1 p2 p3) (k:=0) rfl).2 ip0,⟨(aH (xs:=eL p0 p1 p2 p3) (k:=1) rfl).2 ip1,⟨(aH (xs:=eL p0 p1 p2 p3) (k:=2) rfl).2 ip2,⟨(aH (xs:=eL p0 p1 p2 p3) (k:=3) rfl).2 ip3,trivial⟩⟩⟩⟩).mono ?_
    rintro e w' ⟨v,rfl,⟨vs,rfl,h1⟩,h2⟩
    match vs,h1 with
    | [r,c],h1=>
     obtain⟨⟨cs,rfl,k1⟩,k2,_⟩:=h1
     have k2:c=_:=k2
     subst k2
     exact⟨_,rfl,(ah (xs:=eL p0 p1 p2 p3) (ks:=[4,5,6,7]) (vs:=[(p0.div p2),(p1.div p2),(p2.div p2),(p3.div p2)]) ⟨rfl,rfl,rfl,rfl,trivial⟩).1 ⟨_,rfl,k1⟩,h2⟩
  ·have e1:(Qq.mk p0 p1 p2 p3).first=p1:=by simp[Qq.first,c0,c1]
   rw[lG h0,e1]
   refine(cRn (ρ:=frs (eM p0 p1 p2 p3)++([.val (.int .i64 p1.sgn)]:List Vp)) (args:=[fr 0,fr 1,fr 2,fr 3]) (vs:=[vp0,vp1,vp2,vp3]) (r:=.tup [row [4,5,6,7],.one (.i .i64 0)])
    (ae (aP (i:=0) rfl (li (fc c0)) (hp0.mono (by decide))) (ae (aP (i:=1) rfl (lr (n:=24) rfl) (hp1.mono (by decide))) (ae (cR (i:=0) (j:=1) (k:=4) rfl rfl rfl (hp0.mono (by decide)) (hp1.mono (by decide)) c1) (ae (cR (i:=1) (j:=1) (k:=5) rfl rfl rfl (hp1.mono (by decide)) (hp1.mono (by decide)) c1) (ae (cR (i:=2) (j:=1) (k:=6) rfl rfl rfl (hp2.mono (by decide)) (hp1.mono (by decide)) c1) (ae (cR (i:=3) (j:=1) (k:=7) rfl rfl rfl (hp3.mono (by decide)) (hp1.mono (by decide)) c1) (ae (lF (kq:=[4,5,6,7]) (q:=(Qq.mk (p0.div p1) (p1.div p1) (p2.div p1) (p3.div p1))) (kr:=[4,5,6,7]) ⟨rfl,rfl,rfl,rfl,trivial⟩ ⟨rfl,rfl,rfl,rfl,trivial⟩ (⟨(hp0.div hp1 c1).mono (by decide),(hp1.div hp1 c1).mono (by decide),(hp2.div hp1 c1).mono (by decide),(hp3.div hp1 c1).mono (by decide)⟩:Qq.ok 1000000000 (Qq.mk (p0.div p1) (p1.div p1) (p2.div p1) (p3.div p1)))) ai)))))))
    (af (iD (n:=24) (c:=0) (t:=3) rfl (mM c1)) (aj)) Tryz.func195 (by kernel_rfl) ⟨(aH (xs:=eM p0 p1 p2 p3) (k:=0) rfl).2 ip0,⟨(aH (xs:=eM p0 p1 p2 p3) (k:=1) rfl).2 ip1,⟨(aH (xs:=eM p0 p1 p2 p3) (k:=2) rfl).2 ip2,⟨(aH (xs:=eM p0 p1 p2 p3) (k:=3) rfl).2 ip3,trivial⟩⟩⟩⟩).mono ?_
   rintro e w' ⟨v,rfl,⟨vs,rfl,h1⟩,h2⟩
   match vs,h1 with
   | [r,c],h1=>
    obtain⟨⟨cs,rfl,k1⟩,k2,_⟩:=h1
    have k2:c=_:=k2
    subst k2
    exact⟨_,rfl,(ah (xs:=eM p0 p1 p2 p3) (ks:=[4,5,6,7]) (vs:=[(p0.div p1),(p1.div p1),(p2.div p1),(p3.div p1)]) ⟨rfl,rfl,rfl,rfl,trivial⟩).1 ⟨_,rfl,k1⟩,h2⟩
 ·have e1:(Qq.mk p0 p1 p2 p3).first=p0:=by simp[Qq.first,c0]
  rw[lG h0,e1]
  refine(cRn (ρ:=frs (eN p0 p1 p2 p3)++([.val (.int .i64 p0.sgn)]:List Vp)) (args:=[fr 0,fr 1,fr 2,fr 3]) (vs:=[vp0,vp1,vp2,vp3]) (r:=.tup [row [4,5,6,7],.one (.i .i64 0)])
   (ae (aP (i:=0) rfl (lr (n:=24) rfl) (hp0.mono (by decide))) (ae (cR (i:=0) (j:=0) (k:=4) rfl rfl rfl (hp0.mono (by decide)) (hp0.mono (by decide)) c0) (ae (cR (i:=1) (j:=0) (k:=5) rfl rfl rfl (hp1.mono (by decide)) (hp0.mono (by decide)) c0) (ae (cR (i:=2) (j:=0) (k:=6) rfl rfl rfl (hp2.mono (by decide)) (hp0.mono (by decide)) c0) (ae (cR (i:=3) (j:=0) (k:=7) rfl rfl rfl (hp3.mono (by decide)) (hp0.mono (by decide)) c0) (ae (lF (kq:=[4,5,6,7]) (q:=(Qq.mk (p0.div p0) (p1.div p0) (p2.div p0) (p3.div p0))) (kr:=[4,5,6,7]) ⟨rfl,rfl,rfl,rfl,trivial⟩ ⟨rfl,rfl,rfl,rfl,trivial⟩ (⟨(hp0.div hp0 c0).mono (by decide),(hp1.div hp0 c0).mono (by decide),(hp2.div hp0 c0).mono (by decide),(hp3.div hp0 c0).mono (by decide)⟩:Qq.ok 1000000000 (Qq.mk (p0.div p0) (p1.div p0) (p2.div p0) (p3.div p0)))) ai))))))
   (af (iD (n:=24) (c:=0) (t:=3) rfl (mM c0)) (aj)) Tryz.func195 (by kernel_rfl) ⟨(aH (xs:=eN p0 p1 p2 p3) (k:=0) rfl).2 ip0,⟨(aH (xs:=eN p0 p1 p2 p3) (k:=1) rfl).2 ip1,⟨(aH (xs:=eN p0 p1 p2 p3) (k:=2) rfl).2 ip2,⟨(aH (xs:=eN p0 p1 p2 p3) (k:=3) rfl).2 ip3,trivial⟩⟩⟩⟩).mono ?_
  rintro e w' ⟨v,rfl,⟨vs,rfl,h1⟩,h2⟩
  match vs,h1 with
  | [r,c],h1=>
   obtain⟨⟨cs,rfl,k1⟩,k2,_⟩:=h1
   have k2:c=_:=k2
   subst k2
   exact⟨_,rfl,(ah (xs:=eN p0 p1 p2 p3) (ks:=[4,5,6,7]) (vs:=[(p0.div p0),(p1.div p0),(p2.div p0),(p3.div p0)]) ⟨rfl,rfl,rfl,rfl,trivial⟩).1 ⟨_,rfl,k1⟩,h2⟩
theorem I_fMakeT {xs:List Fq} {ys:Rho} {ip0:Nat} {ip1:Nat} {ip2:Nat} {ip3:Nat} {p0:Fq} {p1:Fq} {p2:Fq} {p3:Fq} {kr:List Nat} (ap0:xs[ip0]? =some p0) (ap1:xs[ip1]? =some p1) (ap2:xs[ip2]? =some p2) (ap3:xs[ip3]? =some p3) (ar:AtL xs kr (Qq.mk p0 p1 p2 p3).canon.cs) (hp0:p0.ok 100000000) (hp1:p1.ok 100000000) (hp2:p2.ok 100000000) (hp3:p3.ok 100000000) (h0:(Qq.mk p0 p1 p2 p3).first.p≠0):OkI xs ys ⟨195,[fr ip0,fr ip1,fr ip2,fr ip3],.tup [row kr,.one (.i .i64 0)]⟩:=
 ⟨aA Tryz.func195 rfl rfl,fun B w vs hB h=>by
  match vs,h with
  | [vp0,vp1,vp2,vp3],h=>
   refine(q_fMakeT vp0 vp1 vp2 vp3 p0 p1 p2 p3 w ((aH ap0).1 h.1) ((aH ap1).1 h.2.1) ((aH ap2).1 h.2.2.1) ((aH ap3).1 h.2.2.2.1) hp0 hp1 hp2 hp3 h0).mono ?_
   rintro e w' ⟨v,rfl,h1,h2⟩
   exact⟨_,rfl,⟨[v,.int .i64 0],rfl,(ah ar).2 h1,rfl,trivial⟩,h2⟩⟩
def lH (u:Fq) (c:Vq):List Fq:=([u,c.x,c.y,c.z]++((Qq.mk u c.x c.y c.z).canon.cs))
theorem q_fCanon (vu vc:Value) (u:Fq) (c:Vq) (w:World) (iu:IsQ w vu u) (ic:dz w vc c) (hu:u.ok 100000000) (hc:c.ok 100000000) (h0:(Qq.mk u c.x c.y c.z).first.p≠0):
  Calls Tryz.prog 139 #[vu,vc] w fun e w'=>nz w (Qq.mk u c.x c.y c.z).canon e w':=by
 refine(cRn (ρ:=frs (lH u c)++ []) (args:=[fr 0,row [1,2,3]]) (vs:=[vu,vc]) (r:=.v (row [4,5,6,7]))
  (ae (I_fMakeT (ip0:=0) (ip1:=1) (ip2:=2) (ip3:=3) (kr:=[4,5,6,7]) rfl rfl rfl rfl ⟨rfl,rfl,rfl,rfl,trivial⟩ (hu.mono (by decide)) (hc.x.mono (by decide)) (hc.y.mono (by decide)) (hc.z.mono (by decide)) h0) ai)
  aj Tryz.func139 (by kernel_rfl) ⟨(aH (xs:=lH u c) (k:=0) rfl).2 iu,⟨(ah (xs:=lH u c) (ks:=[1,2,3]) (vs:=[c.x,c.y,c.z]) ⟨rfl,rfl,rfl,trivial⟩).2 ic,trivial⟩⟩).mono ?_
 rintro e w' ⟨v,rfl,h1,h2⟩
 exact⟨v,rfl,(ah (xs:=lH u c) (ks:=[4,5,6,7]) (vs:=(Qq.mk u c.x c.y c.z).canon.cs) ⟨rfl,rfl,rfl,rfl,trivial⟩).1 h1,h2⟩
theorem pg {xs:List Fq} {ys:Rho} {iu:Nat} {kc:List Nat} {u:Fq} {c:Vq} {kr:List Nat} (au:xs[iu]? =some u) (ac:AtL xs kc [c.x,c.y,c.z]) (ar:AtL xs kr (Qq.mk u c.x c.y c.z).canon.cs) (hu:u.ok 100000000) (hc:c.ok 100000000) (h0:(Qq.mk u c.x c.y c.z).first.p≠0):OkI xs ys ⟨139,[fr iu,row kc],.v (row kr)⟩:=
 ⟨aA Tryz.func139 rfl rfl,fun B w vs hB h=>by
  match vs,h with
  | [vu,vc],h=>
   refine(q_fCanon vu vc u c w ((aH au).1 h.1) ((ah ac).1 h.2.1) hu hc h0).mono ?_
   rintro e w' ⟨v,rfl,h1,h2⟩
   exact⟨v,rfl,(ah ar).2 h1,h2⟩⟩
theorem Qq.ok.inv {q:Qq} {d:Nat} (h:q.ok d) (g:q.good):q.inv.ok (d+2+(d+2)):=by
 have h0:=oa g
 rw[←vI g.comp]at h0
 exact(Qq.ok.mk4 (h.w.mono (by omega)) (h.x.mul (aL (by decide) (by decide))) (h.y.mul (aL (by decide) (by decide))) (h.z.mul (aL (by decide) (by decide)))).canon h0
theorem inv_ne' {q:Qq} (g:q.good):(Qq.mk q.w (q.axis.scale (Fq.ofInt (-1))).x (q.axis.scale (Fq.ofInt (-1))).y (q.axis.scale (Fq.ofInt (-1))).z).first.p≠0:=by rw[vI g.comp];exact oa g
theorem Qq.ok.mulg {p q:Qq} {d e:Nat} (h:p.ok d) (k:q.ok e) (gp:p.good) (gq:q.good):(p.mul q).ok (44*(d+e)+14):=h.mul k (rH gp gq)
theorem Qq.ok.dd {q:Qq} {d:Nat} (h:q.ok d):q.dd.ok (44*d+7):=((h.w.mul h.w).sub (h.axis.dot h.axis)).mono (by omega)
theorem Qq.ok.nn {q:Qq} {d:Nat} (h:q.ok d):q.nn.ok (44*d+7):=((h.w.mul h.w).add (h.axis.dot h.axis)).mono (by omega)
theorem Qq.ok.rat {q:Qq} {d:Nat} (h:q.ok d) (g:q.good):q.rat.ok (44*d+9):=((aL (by decide) (by decide)).div h.nn (tQ g)).mono (by omega)
theorem Qq.ok.ap1 {q:Qq} {a:Vq} {d e:Nat} (h:q.ok d) (k:a.ok e):(q.ap1 a).ok (e+44*d+7):=(k.scale h.dd).mono (by omega)
theorem Qq.ok.ap2 {q:Qq} {a:Vq} {d e:Nat} (h:q.ok d) (k:a.ok e):(q.ap2 a).ok (11*d+10*e+5):=(h.axis.scale ((aL (by decide) (by decide)).mul (h.axis.dot k))).mono (by omega)
theorem Qq.ok.ap3 {q:Qq} {a:Vq} {d e:Nat} (h:q.ok d) (k:a.ok e):(q.ap3 a).ok (5*d+4*e+3):=((h.axis.cross k).scale ((aL (by decide) (by decide)).mul h.w)).mono (by omega)
theorem Qq.ok.app {q:Qq} {a:Vq} {d e:Nat} (h:q.ok d) (k:a.ok e) (g:q.good):(q.app a).ok (300*(d+e)+100):=((((h.ap1 k).add (h.ap2 k)).add (h.ap3 k)).scale (h.rat g)).mono (by omega)
def ob (p:Qq) (q:Qq):List Fq:=(p.cs++(q.cs++([p.axis.x,p.axis.y,p.axis.z,q.axis.x,q.axis.y,q.axis.z,(p.w.mul q.w),(p.axis.dot q.axis),((p.w.mul q.w).sub (p.axis.dot q.axis)),(q.axis.scale p.w).x,(q.axis.scale p.w).y,(q.axis.scale p.w).z,(p.axis.scale q.w).x,(p.axis.scale q.w).y,(p.axis.scale q.w).z,((q.axis.scale p.w).add (p.axis.scale q.w)).x,((q.axis.scale p.w).add (p.axis.scale q.w)).y,((q.axis.scale p.w).add (p.axis.scale q.w)).z,(p.axis.cross q.axis).x,(p.axis.cross q.axis).y,(p.axis.cross q.axis).z,(((q.axis.scale p.w).add (p.axis.scale q.w)).add (p.axis.cross q.axis)).x,(((q.axis.scale p.w).add (p.axis.scale q.w)).add (p.axis.cross q.axis)).y,(((q.axis.scale p.w).add (p.axis.scale q.w)).add (p.axis.cross q.axis)).z]++((Qq.mk ((p.w.mul q.w).sub (p.axis.dot q.axis)) (((q.axis.scale p.w).add (p.axis.scale q.w)).add (p.axis.cross q.axis)).x (((q.axis.scale p.w).add (p.axis.scale q.w)).add (p.axis.cross q.axis)).y (((q.axis.scale p.w).add (p.axis.scale q.w)).add (p.axis.cross q.axis)).z).canon.cs))))
theorem q_fMulT (vp vq:Value) (p:Qq) (q:Qq) (w:World) (ip:eG w vp p) (iq:eG w vq q) (hp:p.ok 100000) (hq:q.ok 100000) (gp:p.good) (gq:q.good):
  Calls Tryz.prog 75 #[vp,vq] w fun e w'=>nz w (p.mul q) e w':=by
 refine(cRn (ρ:=frs (ob p q)++ []) (args:=[row [0,1,2,3],row [4,5,6,7]]) (vs:=[vp,vq]) (r:=.v (row [32,33,34,35]))
  (ae (pf (kq:=[0,1,2,3]) (q:=p) (kr:=[8,9,10]) ⟨rfl,rfl,rfl,rfl,trivial⟩ ⟨rfl,rfl,rfl,trivial⟩ (hp.mono (by decide))) (ae (pf (kq:=[4,5,6,7]) (q:=q) (kr:=[11,12,13]) ⟨rfl,rfl,rfl,rfl,trivial⟩ ⟨rfl,rfl,rfl,trivial⟩ (hq.mono (by decide))) (ae (iI (i:=0) (j:=4) (k:=14) rfl rfl rfl (hp.w.mono (by decide)) (hq.w.mono (by decide))) (ae (vN (ka:=[8,9,10]) (a:=p.axis) (kb:=[11,12,13]) (b:=q.axis) (ir:=15) ⟨rfl,rfl,rfl,trivial⟩ ⟨rfl,rfl,rfl,trivial⟩ rfl (hp.axis.mono (by decide)) (hq.axis.mono (by decide))) (ae (mL (i:=14) (j:=15) (k:=16) rfl rfl rfl ((hp.w.mul hq.w).mono (by decide)) ((hp.axis.dot hq.axis).mono (by decide))) (ae (dg (ka:=[11,12,13]) (a:=q.axis) (ik:=0) (kr:=[17,18,19]) ⟨rfl,rfl,rfl,trivial⟩ rfl ⟨rfl,rfl,rfl,trivial⟩ (hq.axis.mono (by decide)) (hp.w.mono (by decide))) (ae (dg (ka:=[8,9,10]) (a:=p.axis) (ik:=4) (kr:=[20,21,22]) ⟨rfl,rfl,rfl,trivial⟩ rfl ⟨rfl,rfl,rfl,trivial⟩ (hp.axis.mono (by decide)) (hq.w.mono (by decide))) (ae (mN (ka:=[17,18,19]) (a:=(q.axis.scale p.w)) (kb:=[20,21,22]) (b:=(p.axis.scale q.w)) (kr:=[23,24,25]) ⟨rfl,rfl,rfl,trivial⟩ ⟨rfl,rfl,rfl,trivial⟩ ⟨rfl,rfl,rfl,trivial⟩ ((hq.axis.scale hp.w).mono (by decide)) ((hp.axis.scale hq.w).mono (by decide))) (ae (tR (ka:=[8,9,10]) (a:=p.axis) (kb:=[11,12,13]) (b:=q.axis) (kr:=[26,27,28]) ⟨rfl,rfl,rfl,trivial⟩ ⟨rfl,rfl,rfl,trivial⟩ ⟨rfl,rfl,rfl,trivial⟩ (hp.axis.mono (by decide)) (hq.axis.mono (by decide))) (ae (mN (ka:=[23,24,25]) (a:=((q.axis.scale p.w).add (p.axis.scale q.w))) (kb:=[26,27,28]) (b:=(p.axis.cross q.axis)) (kr:=[29,30,31]) ⟨rfl,rfl,rfl,trivial⟩ ⟨rfl,rfl,rfl,trivial⟩ ⟨rfl,rfl,rfl,trivial⟩ (((hq.axis.scale hp.w).add (hp.axis.scale hq.w)).mono (by decide)) ((hp.axis.cross hq.axis).mono (by decide))) (ae (pg (iu:=16) (kc:=[29,30,31]) (c:=(((q.axis.scale p.w).add (p.axis.scale q.w)).add (p.axis.cross q.axis))) (kr:=[32,33,34,35]) rfl ⟨rfl,rfl,rfl,trivial⟩ ⟨rfl,rfl,rfl,rfl,trivial⟩ (((hp.w.mul hq.w).sub (hp.axis.dot hq.axis)).mono (by decide)) ((((hq.axis.scale hp.w).add (hp.axis.scale hq.w)).add (hp.axis.cross hq.axis)).mono (by decide)) (rH gp gq)) ai)))))))))))
  aj Tryz.func75 (by kernel_rfl) ⟨(ah (xs:=ob p q) (ks:=[0,1,2,3]) (vs:=p.cs) ⟨rfl,rfl,rfl,rfl,trivial⟩).2 ip,⟨(ah (xs:=ob p q) (ks:=[4,5,6,7]) (vs:=q.cs) ⟨rfl,rfl,rfl,rfl,trivial⟩).2 iq,trivial⟩⟩).mono ?_
 rintro e w' ⟨v,rfl,h1,h2⟩
 exact⟨v,rfl,(ah (xs:=ob p q) (ks:=[32,33,34,35]) (vs:=(Qq.mk ((p.w.mul q.w).sub (p.axis.dot q.axis)) (((q.axis.scale p.w).add (p.axis.scale q.w)).add (p.axis.cross q.axis)).x (((q.axis.scale p.w).add (p.axis.scale q.w)).add (p.axis.cross q.axis)).y (((q.axis.scale p.w).add (p.axis.scale q.w)).add (p.axis.cross q.axis)).z).canon.cs) ⟨rfl,rfl,rfl,rfl,trivial⟩).1 h1,h2⟩
theorem oc {xs:List Fq} {ys:Rho} {kp:List Nat} {kq:List Nat} {p:Qq} {q:Qq} {kr:List Nat} (ap:AtL xs kp p.cs) (aq:AtL xs kq q.cs) (ar:AtL xs kr (p.mul q).cs) (hp:p.ok 100000) (hq:q.ok 100000) (gp:p.good) (gq:q.good):OkI xs ys ⟨75,[row kp,row kq],.v (row kr)⟩:=
 ⟨aA Tryz.func75 rfl rfl,fun B w vs hB h=>by
  match vs,h with
  | [vp,vq],h=>
   refine(q_fMulT vp vq p q w ((ah ap).1 h.1) ((ah aq).1 h.2.1) hp hq gp gq).mono ?_
   rintro e w' ⟨v,rfl,h1,h2⟩
   exact⟨v,rfl,(ah ar).2 h1,h2⟩⟩
def rR (q:Qq):List Fq:=(q.cs++([q.axis.x,q.axis.y,q.axis.z,(Fq.ofInt (-1)),(q.axis.scale (Fq.ofInt (-1))).x,(q.axis.scale (Fq.ofInt (-1))).y,(q.axis.scale (Fq.ofInt (-1))).z]++((Qq.mk q.w (q.axis.scale (Fq.ofInt (-1))).x (q.axis.scale (Fq.ofInt (-1))).y (q.axis.scale (Fq.ofInt (-1))).z).canon.cs)))
theorem q_fInvT (vq:Value) (q:Qq) (w:World) (iq:eG w vq q) (hq:q.ok 100000) (gq:q.good):
  Calls Tryz.prog 178 #[vq] w fun e w'=>nz w q.inv e w':=by
 refine(cRn (ρ:=frs (rR q)++ []) (args:=[row [0,1,2,3]]) (vs:=[vq]) (r:=.v (row [11,12,13,14]))
  (ae (pf (kq:=[0,1,2,3]) (q:=q) (kr:=[4,5,6]) ⟨rfl,rfl,rfl,rfl,trivial⟩ ⟨rfl,rfl,rfl,trivial⟩ (hq.mono (by decide))) (ae (cS (k:=7) rfl (by decide) (by decide)) (ae (dg (ka:=[4,5,6]) (a:=q.axis) (ik:=7) (kr:=[8,9,10]) ⟨rfl,rfl,rfl,trivial⟩ rfl ⟨rfl,rfl,rfl,trivial⟩ (hq.axis.mono (by decide)) ((aL (u:= -1) (by decide) (by decide)).mono (by decide))) (ae (pg (iu:=0) (kc:=[8,9,10]) (c:=(q.axis.scale (Fq.ofInt (-1)))) (kr:=[11,12,13,14]) rfl ⟨rfl,rfl,rfl,trivial⟩ ⟨rfl,rfl,rfl,rfl,trivial⟩ (hq.w.mono (by decide)) ((hq.axis.scale (aL (u:= -1) (by decide) (by decide))).mono (by decide)) (inv_ne' gq)) ai))))
  aj Tryz.func178 (by kernel_rfl) ⟨(ah (xs:=rR q) (ks:=[0,1,2,3]) (vs:=q.cs) ⟨rfl,rfl,rfl,rfl,trivial⟩).2 iq,trivial⟩).mono ?_
 rintro e w' ⟨v,rfl,h1,h2⟩
 exact⟨v,rfl,(ah (xs:=rR q) (ks:=[11,12,13,14]) (vs:=(Qq.mk q.w (q.axis.scale (Fq.ofInt (-1))).x (q.axis.scale (Fq.ofInt (-1))).y (q.axis.scale (Fq.ofInt (-1))).z).canon.cs) ⟨rfl,rfl,rfl,rfl,trivial⟩).1 h1,h2⟩
theorem rS {xs:List Fq} {ys:Rho} {kq:List Nat} {q:Qq} {kr:List Nat} (aq:AtL xs kq q.cs) (ar:AtL xs kr q.inv.cs) (hq:q.ok 100000) (gq:q.good):OkI xs ys ⟨178,[row kq],.v (row kr)⟩:=
 ⟨aA Tryz.func178 rfl rfl,fun B w vs hB h=>by
  match vs,h with
  | [vq],h=>
   refine(q_fInvT vq q w ((ah aq).1 h.1) hq gq).mono ?_
   rintro e w' ⟨v,rfl,h1,h2⟩
   exact⟨v,rfl,(ah ar).2 h1,h2⟩⟩
def rT (q:Qq) (a:Vq):List Fq:=(q.cs++([a.x,a.y,a.z,q.axis.x,q.axis.y,q.axis.z,(q.w.mul q.w),(q.axis.dot q.axis),(Fq.ofInt 2),((q.w.mul q.w).sub (q.axis.dot q.axis)),(a.scale ((q.w.mul q.w).sub (q.axis.dot q.axis))).x,(a.scale ((q.w.mul q.w).sub (q.axis.dot q.axis))).y,(a.scale ((q.w.mul q.w).sub (q.axis.dot q.axis))).z,(q.axis.dot a),((Fq.ofInt 2).mul (q.axis.dot a)),(q.axis.scale ((Fq.ofInt 2).mul (q.axis.dot a))).x,(q.axis.scale ((Fq.ofInt 2).mul (q.axis.dot a))).y,(q.axis.scale ((Fq.ofInt 2).mul (q.axis.dot a))).z,((a.scale ((q.w.mul q.w).sub (q.axis.dot q.axis))).add (q.axis.scale ((Fq.ofInt 2).mul (q.axis.dot a)))).x,((a.scale ((q.w.mul q.w).sub (q.axis.dot q.axis))).add (q.axis.scale ((Fq.ofInt 2).mul (q.axis.dot a)))).y,((a.scale ((q.w.mul q.w).sub (q.axis.dot q.axis))).add (q.axis.scale ((Fq.ofInt 2).mul (q.axis.dot a)))).z,(q.axis.cross a).x,(q.axis.cross a).y,(q.axis.cross a).z,((Fq.ofInt 2).mul q.w),((q.axis.cross a).scale ((Fq.ofInt 2).mul q.w)).x,((q.axis.cross a).scale ((Fq.ofInt 2).mul q.w)).y,((q.axis.cross a).scale ((Fq.ofInt 2).mul q.w)).z,(((a.scale ((q.w.mul q.w).sub (q.axis.dot q.axis))).add (q.axis.scale ((Fq.ofInt 2).mul (q.axis.dot a)))).add ((q.axis.cross a).scale ((Fq.ofInt 2).mul q.w))).x,(((a.scale ((q.w.mul q.w).sub (q.axis.dot q.axis))).add (q.axis.scale ((Fq.ofInt 2).mul (q.axis.dot a)))).add ((q.axis.cross a).scale ((Fq.ofInt 2).mul q.w))).y,(((a.scale ((q.w.mul q.w).sub (q.axis.dot q.axis))).add (q.axis.scale ((Fq.ofInt 2).mul (q.axis.dot a)))).add ((q.axis.cross a).scale ((Fq.ofInt 2).mul q.w))).z,(Fq.ofInt 1),((q.w.mul q.w).add (q.axis.dot q.axis)),((Fq.ofInt 1).div ((q.w.mul q.w).add (q.axis.dot q.axis))),((((a.scale ((q.w.mul q.w).sub (q.axis.dot q.axis))).add (q.axis.scale ((Fq.ofInt 2).mul (q.axis.dot a)))).add ((q.axis.cross a).scale ((Fq.ofInt 2).mul q.w))).scale ((Fq.ofInt 1).div ((q.w.mul q.w).add (q.axis.dot q.axis)))).x,((((a.scale ((q.w.mul q.w).sub (q.axis.dot q.axis))).add (q.axis.scale ((Fq.ofInt 2).mul (q.axis.dot a)))).add ((q.axis.cross a).scale ((Fq.ofInt 2).mul q.w))).scale ((Fq.ofInt 1).div ((q.w.mul q.w).add (q.axis.dot q.axis)))).y,((((a.scale ((q.w.mul q.w).sub (q.axis.dot q.axis))).add (q.axis.scale ((Fq.ofInt 2).mul (q.axis.dot a)))).add ((q.axis.cross a).scale ((Fq.ofInt 2).mul q.w))).scale ((Fq.ofInt 1).div ((q.w.mul q.w).add (q.axis.dot q.axis)))).z]))
theorem q_fApp (vq va:Value) (q:Qq) (a:Vq) (w:World) (iq:eG w vq q) (ia:dz w va a) (hq:q.ok 300000) (ha:a.ok 300000) (gq:q.good):
  Calls Tryz.prog 179 #[vq,va] w fun e w'=>ff w (q.app a) e w':=by
 refine(cRn (ρ:=frs (rT q a)++ []) (args:=[row [0,1,2,3],row [4,5,6]]) (vs:=[vq,va]) (r:=.v (row [38,39,40]))
  (ae (pf (kq:=[0,1,2,3]) (q:=q) (kr:=[7,8,9]) ⟨rfl,rfl,rfl,rfl,trivial⟩ ⟨rfl,rfl,rfl,trivial⟩ (hq.mono (by decide))) (ae (iI (i:=0) (j:=0) (k:=10) rfl rfl rfl (hq.w.mono (by decide)) (hq.w.mono (by decide))) (ae (vN (ka:=[7,8,9]) (a:=q.axis) (kb:=[7,8,9]) (b:=q.axis) (ir:=11) ⟨rfl,rfl,rfl,trivial⟩ ⟨rfl,rfl,rfl,trivial⟩ rfl (hq.axis.mono (by decide)) (hq.axis.mono (by decide))) (ae (cS (k:=12) rfl (by decide) (by decide)) (ae (mL (i:=10) (j:=11) (k:=13) rfl rfl rfl ((hq.w.mul hq.w).mono (by decide)) ((hq.axis.dot hq.axis).mono (by decide))) (ae (dg (ka:=[4,5,6]) (a:=a) (ik:=13) (kr:=[14,15,16]) ⟨rfl,rfl,rfl,trivial⟩ rfl ⟨rfl,rfl,rfl,trivial⟩ (ha.mono (by decide)) (((hq.w.mul hq.w).sub (hq.axis.dot hq.axis)).mono (by decide))) (ae (vN (ka:=[7,8,9]) (a:=q.axis) (kb:=[4,5,6]) (b:=a) (ir:=17) ⟨rfl,rfl,rfl,trivial⟩ ⟨rfl,rfl,rfl,trivial⟩ rfl (hq.axis.mono (by decide)) (ha.mono (by decide))) (ae (iI (i:=12) (j:=17) (k:=18) rfl rfl rfl ((aL (u:=2) (by decide) (by decide)).mono (by decide)) ((hq.axis.dot ha).mono (by decide))) (ae (dg (ka:=[7,8,9]) (a:=q.axis) (ik:=18) (kr:=[19,20,21]) ⟨rfl,rfl,rfl,trivial⟩ rfl ⟨rfl,rfl,rfl,trivial⟩ (hq.axis.mono (by decide)) (((aL (u:=2) (by decide) (by decide)).mul (hq.axis.dot ha)).mono (by decide))) (ae (mN (ka:=[14,15,16]) (a:=(a.scale ((q.w.mul q.w).sub (q.axis.dot q.axis)))) (kb:=[19,20,21]) (b:=(q.axis.scale ((Fq.ofInt 2).mul (q.axis.dot a)))) (kr:=[22,23,24]) ⟨rfl,rfl,rfl,trivial⟩ ⟨rfl,rfl,rfl,trivial⟩ ⟨rfl,rfl,rfl,trivial⟩ ((ha.scale ((hq.w.mul hq.w).sub (hq.axis.dot hq.axis))).mono (by decide)) ((hq.axis.scale ((aL (u:=2) (by decide) (by decide)).mul (hq.axis.dot ha))).mono (by decide))) (ae (tR (ka:=[7,8,9]) (a:=q.axis) (kb:=[4,5,6]) (b:=a) (kr:=[25,26,27]) ⟨rfl,rfl,rfl,trivial⟩ ⟨rfl,rfl,rfl,trivial⟩ ⟨rfl,rfl,rfl,trivial⟩ (hq.axis.mono (by decide)) (ha.mono (by decide))) (ae (iI (i:=12) (j:=0) (k:=28) rfl rfl rfl ((aL (u:=2) (by decide) (by decide)).mono (by decide)) (hq.w.mono (by decide))) (ae (dg (ka:=[25,26,27]) (a:=(q.axis.cross a)) (ik:=28) (kr:=[29,30,31]) ⟨rfl,rfl,rfl,trivial⟩ rfl ⟨rfl,rfl,rfl,trivial⟩ ((hq.axis.cross ha).mono (by decide)) (((aL (u:=2) (by decide) (by decide)).mul hq.w).mono (by decide))) (ae (mN (ka:=[22,23,24]) (a:=((a.scale ((q.w.mul q.w).sub (q.axis.dot q.axis))).add (q.axis.scale ((Fq.ofInt 2).mul (q.axis.dot a))))) (kb:=[29,30,31]) (b:=((q.axis.cross a).scale ((Fq.ofInt 2).mul q.w))) (kr:=[32,33,34]) ⟨rfl,rfl,rfl,trivial⟩ ⟨rfl,rfl,rfl,trivial⟩ ⟨rfl,rfl,rfl,trivial⟩ (((ha.scale ((hq.w.mul hq.w).sub (hq.axis.dot hq.axis))).add (hq.axis.scale ((aL (u:=2) (by decide) (by decide)).mul (hq.axis.dot ha)))).mono (by decide)) (((hq.axis.cross ha).scale ((aL (u:=2) (by decide) (by decide)).mul hq.w)).mono (by decide))) (ae (cS (k:=35) rfl (by decide) (by decide)) (ae (mK (i:=10) (j:=11) (k:=36) rfl rfl rfl ((hq.w.mul hq.w).mono (by decide)) ((hq.axis.dot hq.axis).mono (by decide))) (ae (cR (i:=35) (j:=36) (k:=37) rfl rfl rfl ((aL (u:=1) (by decide) (by decide)).mono (by decide)) (((hq.w.mul hq.w).add (hq.axis.dot hq.axis)).mono (by decide)) (tQ gq)) (ae (dg (ka:=[32,33,34]) (a:=(((a.scale ((q.w.mul q.w).sub (q.axis.dot q.axis))).add (q.axis.scale ((Fq.ofInt 2).mul (q.axis.dot a)))).add ((q.axis.cross a).scale ((Fq.ofInt 2).mul q.w)))) (ik:=37) (kr:=[38,39,40]) ⟨rfl,rfl,rfl,trivial⟩ rfl ⟨rfl,rfl,rfl,trivial⟩ ((((ha.scale ((hq.w.mul hq.w).sub (hq.axis.dot hq.axis))).add (hq.axis.scale ((aL (u:=2) (by decide) (by decide)).mul (hq.axis.dot ha)))).add ((hq.axis.cross ha).scale ((aL (u:=2) (by decide) (by decide)).mul hq.w))).mono (by decide)) (((aL (u:=1) (by decide) (by decide)).div ((hq.w.mul hq.w).add (hq.axis.dot hq.axis)) (tQ gq)).mono (by decide))) ai))))))))))))))))))
  aj Tryz.func179 (by kernel_rfl) ⟨(ah (xs:=rT q a) (ks:=[0,1,2,3]) (vs:=q.cs) ⟨rfl,rfl,rfl,rfl,trivial⟩).2 iq,⟨(ah (xs:=rT q a) (ks:=[4,5,6]) (vs:=[a.x,a.y,a.z]) ⟨rfl,rfl,rfl,trivial⟩).2 ia,trivial⟩⟩).mono ?_
 rintro e w' ⟨v,rfl,h1,h2⟩
 exact⟨v,rfl,(ah (xs:=rT q a) (ks:=[38,39,40]) (vs:=[((((a.scale ((q.w.mul q.w).sub (q.axis.dot q.axis))).add (q.axis.scale ((Fq.ofInt 2).mul (q.axis.dot a)))).add ((q.axis.cross a).scale ((Fq.ofInt 2).mul q.w))).scale ((Fq.ofInt 1).div ((q.w.mul q.w).add (q.axis.dot q.axis)))).x,((((a.scale ((q.w.mul q.w).sub (q.axis.dot q.axis))).add (q.axis.scale ((Fq.ofInt 2).mul (q.axis.dot a)))).add ((q.axis.cross a).scale ((Fq.ofInt 2).mul q.w))).scale ((Fq.ofInt 1).div ((q.w.mul q.w).add (q.axis.dot q.axis)))).y,((((a.scale ((q.w.mul q.w).sub (q.axis.dot q.axis))).add (q.axis.scale ((Fq.ofInt 2).mul (q.axis.dot a)))).add ((q.axis.cross a).scale ((Fq.ofInt 2).mul q.w))).scale ((Fq.ofInt 1).div ((q.w.mul q.w).add (q.axis.dot q.axis)))).z]) ⟨rfl,rfl,rfl,trivial⟩).1 h1,h2⟩
theorem I_fApp {xs:List Fq} {ys:Rho} {kq:List Nat} {ka:List Nat} {q:Qq} {a:Vq} {kr:List Nat} (aq:AtL xs kq q.cs) (aa:AtL xs ka [a.x,a.y,a.z]) (ar:AtL xs kr [(q.app a).x,(q.app a).y,(q.app a).z]) (hq:q.ok 300000) (ha:a.ok 300000) (gq:q.good):OkI xs ys ⟨179,[row kq,row ka],.v (row kr)⟩:=
 ⟨aA Tryz.func179 rfl rfl,fun B w vs hB h=>by
  match vs,h with
  | [vq,va],h=>
   refine(q_fApp vq va q a w ((ah aq).1 h.1) ((ah aa).1 h.2.1) hq ha gq).mono ?_
   rintro e w' ⟨v,rfl,h1,h2⟩
   exact⟨v,rfl,(ah ar).2 h1,h2⟩⟩
theorem rU {x y z:Int} (l1: -9223372036854775808≤x) (r1:x<9223372036854775808) (l2: -9223372036854775808≤y) (r2:y<9223372036854775808) (l3: -9223372036854775808≤z) (r3:z<9223372036854775808):(Vq.of x y z).ok 2:=⟨aL l1 r1,aL l2 r2,aL l3 r3⟩
theorem fg {q:Qq} (g:q.good):q.first=Fq.ofInt 1:=gU g.comp.first (aE 1) (by rw[g.one,cW];rfl)
theorem good_ne {q:Qq} (g:q.good):q.first.p≠0:=by rw[fg g];decide
theorem rV {p q:Qq} {t:Fq} {d e f:Nat} (h:p.ok d) (k:q.ok e) (l:t.ok f) (gp:p.good) (gq:q.good) (vt:t.valid=true):(p.way (p.inv.mul q) t).ok (44*(d+((44*(d+2+(d+2)+e)+14+f+2)+(44*(d+2+(d+2)+e)+14+f+2)))+14):=by
 have D:=(h.inv gp).mulg k (ba gp) gq
 have S:=D.axis.scale l
 exact h.mulg ((Qq.ok.mk4 ((aL (by decide) (by decide)).mono (by omega)) (S.x.mono (by omega)) (S.y.mono (by omega)) (S.z.mono (by omega)):Qq.ok (44*(d+2+(d+2)+e)+14+f+2) _).canon i7) gp (dS (i6 (fb (ba gp) gq).comp vt) i7)
theorem xO {q:Qq} (c:q.comp) (h:q.first=Fq.ofInt 1):q.good:=⟨c,by rw[h,cW];rfl⟩
def lI (p:Qq) (q:Qq) (m:Fq):List Fq:=(p.cs++(q.cs++([m]++(p.inv.cs++((p.inv.mul q).cs++([(Fq.ofInt 1),(p.inv.mul q).axis.x,(p.inv.mul q).axis.y,(p.inv.mul q).axis.z,((p.inv.mul q).axis.scale m).x,((p.inv.mul q).axis.scale m).y,((p.inv.mul q).axis.scale m).z]++((Qq.mk (Fq.ofInt 1) ((p.inv.mul q).axis.scale m).x ((p.inv.mul q).axis.scale m).y ((p.inv.mul q).axis.scale m).z).canon.cs++((p.mul (Qq.mk (Fq.ofInt 1) ((p.inv.mul q).axis.scale m).x ((p.inv.mul q).axis.scale m).y ((p.inv.mul q).axis.scale m).z).canon).cs))))))))
theorem q_fBtw1 (vp vq vm:Value) (p:Qq) (q:Qq) (m:Fq) (w:World) (ip:eG w vp p) (iq:eG w vq q) (im:IsQ w vm m) (hp:p.ok 100) (hq:q.ok 100) (hm:m.ok 100) (gp:p.good) (gq:q.good) (gm:m.valid=true) (hw:(p.inv.mul q).w.p≠0):
  Calls Tryz.prog 216 #[vp,vq,vm] w fun e w'=>vK w (p.way (p.inv.mul q) m) 0 e w':=by
 refine(cRn (ρ:=frs (lI p q m)++ []) (args:=[row [0,1,2,3],row [4,5,6,7],fr 8]) (vs:=[vp,vq,vm]) (r:=.tup [row [28,29,30,31],.one (.i .i64 0)])
  (ae (rS (kq:=[0,1,2,3]) (q:=p) (kr:=[9,10,11,12]) ⟨rfl,rfl,rfl,rfl,trivial⟩ ⟨rfl,rfl,rfl,rfl,trivial⟩ (hp.mono (by decide)) gp) (ae (oc (kp:=[9,10,11,12]) (p:=p.inv) (kq:=[4,5,6,7]) (q:=q) (kr:=[13,14,15,16]) ⟨rfl,rfl,rfl,rfl,trivial⟩ ⟨rfl,rfl,rfl,rfl,trivial⟩ ⟨rfl,rfl,rfl,rfl,trivial⟩ ((hp.inv gp).mono (by decide)) (hq.mono (by decide)) (ba gp) gq) (ae (I_Half0 (kq:=[13,14,15,16]) (q:=(p.inv.mul q)) ⟨rfl,rfl,rfl,rfl,trivial⟩ (((hp.inv gp).mulg hq (ba gp) gq).mono (by decide)) hw) (ae (cS (k:=17) rfl (by decide) (by decide)) (ae (pf (kq:=[13,14,15,16]) (q:=(p.inv.mul q)) (kr:=[18,19,20]) ⟨rfl,rfl,rfl,rfl,trivial⟩ ⟨rfl,rfl,rfl,trivial⟩ (((hp.inv gp).mulg hq (ba gp) gq).mono (by decide))) (ae (dg (ka:=[18,19,20]) (a:=(p.inv.mul q).axis) (ik:=8) (kr:=[21,22,23]) ⟨rfl,rfl,rfl,trivial⟩ rfl ⟨rfl,rfl,rfl,trivial⟩ (((hp.inv gp).mulg hq (ba gp) gq).axis.mono (by decide)) (hm.mono (by decide))) (ae (pg (iu:=17) (kc:=[21,22,23]) (c:=((p.inv.mul q).axis.scale m)) (kr:=[24,25,26,27]) rfl ⟨rfl,rfl,rfl,trivial⟩ ⟨rfl,rfl,rfl,rfl,trivial⟩ ((aL (u:=1) (by decide) (by decide)).mono (by decide)) ((((hp.inv gp).mulg hq (ba gp) gq).axis.scale hm).mono (by decide)) i7) (ae (oc (kp:=[0,1,2,3]) (p:=p) (kq:=[24,25,26,27]) (q:=(Qq.mk (Fq.ofInt 1) ((p.inv.mul q).axis.scale m).x ((p.inv.mul q).axis.scale m).y ((p.inv.mul q).axis.scale m).z).canon) (kr:=[28,29,30,31]) ⟨rfl,rfl,rfl,rfl,trivial⟩ ⟨rfl,rfl,rfl,rfl,trivial⟩ ⟨rfl,rfl,rfl,rfl,trivial⟩ (hp.mono (by decide)) ((y8 (aL (u:=1) (by decide) (by decide)) (((hp.inv gp).mulg hq (ba gp) gq).axis.scale hm) i7).mono (by decide)) gp (dS (i6 (fb (ba gp) gq).comp gm) i7)) ai))))))))
  aj Tryz.func216 (by kernel_rfl) ⟨(ah (xs:=lI p q m) (ks:=[0,1,2,3]) (vs:=p.cs) ⟨rfl,rfl,rfl,rfl,trivial⟩).2 ip,⟨(ah (xs:=lI p q m) (ks:=[4,5,6,7]) (vs:=q.cs) ⟨rfl,rfl,rfl,rfl,trivial⟩).2 iq,⟨(aH (xs:=lI p q m) (k:=8) rfl).2 im,trivial⟩⟩⟩).mono ?_
 rintro e w' ⟨v,rfl,⟨vs,rfl,h1⟩,h2⟩
 match vs,h1 with
 | [r,c],h1=>
  obtain⟨⟨cs,rfl,k1⟩,k2,_⟩:=h1
  have k2:c=_:=k2
  subst k2
  exact⟨_,rfl,(ah (xs:=lI p q m) (ks:=[28,29,30,31]) (vs:=(p.mul (Qq.mk (Fq.ofInt 1) ((p.inv.mul q).axis.scale m).x ((p.inv.mul q).axis.scale m).y ((p.inv.mul q).axis.scale m).z).canon).cs) ⟨rfl,rfl,rfl,rfl,trivial⟩).1 ⟨_,rfl,k1⟩,h2⟩
theorem I_fBtw1 {xs:List Fq} {ys:Rho} {kp:List Nat} {kq:List Nat} {im:Nat} {p:Qq} {q:Qq} {m:Fq} {kr:List Nat} (ap:AtL xs kp p.cs) (aq:AtL xs kq q.cs) (am:xs[im]? =some m) (ar:AtL xs kr (p.way (p.inv.mul q) m).cs) (hp:p.ok 100) (hq:q.ok 100) (hm:m.ok 100) (gp:p.good) (gq:q.good) (gm:m.valid=true) (hw:(p.inv.mul q).w.p≠0):OkI xs ys ⟨216,[row kp,row kq,fr im],.tup [row kr,.one (.i .i64 0)]⟩:=
 ⟨aA Tryz.func216 rfl rfl,fun B w vs hB h=>by
  match vs,h with
  | [vp,vq,vm],h=>
   refine(q_fBtw1 vp vq vm p q m w ((ah ap).1 h.1) ((ah aq).1 h.2.1) ((aH am).1 h.2.2.1) hp hq hm gp gq gm hw).mono ?_
   rintro e w' ⟨v,rfl,h1,h2⟩
   exact⟨_,rfl,⟨[v,.int .i64 0],rfl,(ah ar).2 h1,rfl,trivial⟩,h2⟩⟩
def oe (p:Qq) (q:Qq) (m:Fq):List Fq:=(p.cs++(q.cs++([m]++(p.inv.cs++((p.inv.mul q).cs++([(Fq.ofInt 1)]))))))
theorem q_fBtw4 (vp vq vm:Value) (p:Qq) (q:Qq) (m:Fq) (w:World) (ip:eG w vp p) (iq:eG w vq q) (im:IsQ w vm m) (hp:p.ok 100) (hq:q.ok 100) (hm:m.ok 100) (gp:p.good) (gq:q.good) (gm:m.valid=true) (hw:(p.inv.mul q).w.p=0) (h0:m.p≠0) (h1:m≠(Fq.ofInt 1)):
  Calls Tryz.prog 216 #[vp,vq,vm] w fun e w'=>vK w Qq.zero 4 e w':=by
 refine(cRn (ρ:=frs (oe p q m)++([.val (.int .i64 m.sgn),.val (.int .i64 (m.cmp (Fq.ofInt 1)))]:List Vp)) (args:=[row [0,1,2,3],row [4,5,6,7],fr 8]) (vs:=[vp,vq,vm]) (r:=.tup [.agg [.b false,.sl0,.sl0,.b false,.sl0,.sl0,.b false,.sl0,.sl0,.b false,.sl0,.sl0],.one (.i .i64 4)])
  (ae (rS (kq:=[0,1,2,3]) (q:=p) (kr:=[9,10,11,12]) ⟨rfl,rfl,rfl,rfl,trivial⟩ ⟨rfl,rfl,rfl,rfl,trivial⟩ (hp.mono (by decide)) gp) (ae (oc (kp:=[9,10,11,12]) (p:=p.inv) (kq:=[4,5,6,7]) (q:=q) (kr:=[13,14,15,16]) ⟨rfl,rfl,rfl,rfl,trivial⟩ ⟨rfl,rfl,rfl,rfl,trivial⟩ ⟨rfl,rfl,rfl,rfl,trivial⟩ ((hp.inv gp).mono (by decide)) (hq.mono (by decide)) (ba gp) gq) (ae (I_Half1 (kq:=[13,14,15,16]) (q:=(p.inv.mul q)) ⟨rfl,rfl,rfl,rfl,trivial⟩ (((hp.inv gp).mulg hq (ba gp) gq).mono (by decide)) hw) (ae (aP (i:=8) rfl (lr (n:=54) rfl) (hm.mono (by decide))) (ae (cS (k:=17) rfl (by decide) (by decide)) (ae (bu (i:=8) (j:=17) rfl rfl (lr (n:=55) rfl) (hm.mono (by decide)) ((aL (u:=1) (by decide) (by decide)).mono (by decide))) ai))))))
  (af (iD (n:=54) (c:=0) (t:=3) rfl (mM h0)) (af (iD (n:=55) (c:=0) (t:=3) rfl (iK (mt (bq gm (aE 1)).1 h1))) (aj))) Tryz.func216 (by kernel_rfl) ⟨(ah (xs:=oe p q m) (ks:=[0,1,2,3]) (vs:=p.cs) ⟨rfl,rfl,rfl,rfl,trivial⟩).2 ip,⟨(ah (xs:=oe p q m) (ks:=[4,5,6,7]) (vs:=q.cs) ⟨rfl,rfl,rfl,rfl,trivial⟩).2 iq,⟨(aH (xs:=oe p q m) (k:=8) rfl).2 im,trivial⟩⟩⟩).mono ?_
 rintro e w' ⟨v,rfl,⟨vs,rfl,h1⟩,h2⟩
 match vs,h1 with
 | [r,c],h1=>
  obtain⟨⟨cs,rfl,k1⟩,k2,_⟩:=h1
  have k2:c=_:=k2
  subst k2
  exact⟨_,rfl,⟨_,rfl,fe (n:=4) k1⟩,h2⟩
theorem I_fBtw4 {xs:List Fq} {ys:Rho} {kp:List Nat} {kq:List Nat} {im:Nat} {p:Qq} {q:Qq} {m:Fq} {kr:List Nat} (ap:AtL xs kp p.cs) (aq:AtL xs kq q.cs) (am:xs[im]? =some m) (ar:AtL xs kr Qq.zero.cs) (hp:p.ok 100) (hq:q.ok 100) (hm:m.ok 100) (gp:p.good) (gq:q.good) (gm:m.valid=true) (hw:(p.inv.mul q).w.p=0) (h0:m.p≠0) (h1:m≠(Fq.ofInt 1)):OkI xs ys ⟨216,[row kp,row kq,fr im],.tup [row kr,.one (.i .i64 4)]⟩:=
 ⟨aA Tryz.func216 rfl rfl,fun B w vs hB h=>by
  match vs,h with
  | [vp,vq,vm],h=>
   refine(q_fBtw4 vp vq vm p q m w ((ah ap).1 h.1) ((ah aq).1 h.2.1) ((aH am).1 h.2.2.1) hp hq hm gp gq gm hw h0 h1).mono ?_
   rintro e w' ⟨v,rfl,h1,h2⟩
   exact⟨_,rfl,⟨[v,.int .i64 4],rfl,(ah ar).2 h1,rfl,trivial⟩,h2⟩⟩
def ph (q:Qq):List Fq:=(q.cs++([(Fq.ofInt 1)]))
def nD (q:Qq):List Fq:=(q.cs++([(Fq.ofInt 1)]))
def nE (q:Qq):List Fq:=(q.cs++([(Fq.ofInt 1)]))
def nF (q:Qq):List Fq:=(q.cs++([(Fq.ofInt 1)]))
theorem pi (vq:Value) (q:Qq) (w:World) (iq:eG w vq q) (hq:q.ok 1000000) (gq:q.good):
  Calls Tryz.prog 181 #[vq] w fun e w'=>cz w (.bool true) e w':=by
 by_cases c0:q.w.p=0
 ·by_cases c1:q.x.p=0
  ·by_cases c2:q.y.p=0
   ·by_cases c3:q.z.p=0
    ·exact absurd (by simp[Qq.first,c0,c1,c2,c3]) (good_ne gq)
    ·have e1:q.first=q.z:=by simp[Qq.first,c0,c1,c2,c3]
     refine(cRn (ρ:=frs (ph q)++([.val (.int .i64 q.z.sgn)]:List Vp)) (args:=[row [0,1,2,3]]) (vs:=[vq]) (r:=.v (.one (.b true)))
      (ae (bU (kq:=[0,1,2,3]) (q:=q) (kr:=[0,1,2,3]) ⟨rfl,rfl,rfl,rfl,trivial⟩ ⟨rfl,rfl,rfl,rfl,trivial⟩ (hq.mono (by decide))) (ae (aI (i:=0) (l:=.b true) rfl (lb gq.comp.w) (hq.w.mono (by decide))) (ae (aI (i:=1) (l:=.b true) rfl (lb gq.comp.x) (hq.x.mono (by decide))) (ae (aI (i:=2) (l:=.b true) rfl (lb gq.comp.y) (hq.y.mono (by decide))) (ae (aI (i:=3) (l:=.b true) rfl (lb gq.comp.z) (hq.z.mono (by decide))) (ae (aP (i:=0) rfl (li (fc c0)) (hq.w.mono (by decide))) (ae (aP (i:=1) rfl (li (fc c1)) (hq.x.mono (by decide))) (ae (aP (i:=2) rfl (li (fc c2)) (hq.y.mono (by decide))) (ae (aP (i:=3) rfl (lr (n:=15) rfl) (hq.z.mono (by decide))) (ae (cS (k:=4) rfl (by decide) (by decide)) (ae (bu (i:=3) (j:=4) rfl rfl (li ((bq gq.comp.z (aE 1)).2 (e1.symm.trans (fg gq)))) (hq.z.mono (by decide)) ((aL (u:=1) (by decide) (by decide)).mono (by decide))) ai)))))))))))
      (af (gT (n:=15) (c:=0) (t:=3) rfl (iJ c3)) (aj)) Tryz.func181 (by kernel_rfl) ⟨(ah (xs:=ph q) (ks:=[0,1,2,3]) (vs:=q.cs) ⟨rfl,rfl,rfl,rfl,trivial⟩).2 iq,trivial⟩).mono ?_
     rintro e w' ⟨v,rfl,h1,h2⟩
     exact⟨congrArg Ending.returned h1,h2⟩
   ·have e1:q.first=q.y:=by simp[Qq.first,c0,c1,c2]
    refine(cRn (ρ:=frs (nD q)++([.val (.int .i64 q.y.sgn)]:List Vp)) (args:=[row [0,1,2,3]]) (vs:=[vq]) (r:=.v (.one (.b true)))
     (ae (bU (kq:=[0,1,2,3]) (q:=q) (kr:=[0,1,2,3]) ⟨rfl,rfl,rfl,rfl,trivial⟩ ⟨rfl,rfl,rfl,rfl,trivial⟩ (hq.mono (by decide))) (ae (aI (i:=0) (l:=.b true) rfl (lb gq.comp.w) (hq.w.mono (by decide))) (ae (aI (i:=1) (l:=.b true) rfl (lb gq.comp.x) (hq.x.mono (by decide))) (ae (aI (i:=2) (l:=.b true) rfl (lb gq.comp.y) (hq.y.mono (by decide))) (ae (aI (i:=3) (l:=.b true) rfl (lb gq.comp.z) (hq.z.mono (by decide))) (ae (aP (i:=0) rfl (li (fc c0)) (hq.w.mono (by decide))) (ae (aP (i:=1) rfl (li (fc c1)) (hq.x.mono (by decide))) (ae (aP (i:=2) rfl (lr (n:=15) rfl) (hq.y.mono (by decide))) (ae (cS (k:=4) rfl (by decide) (by decide)) (ae (bu (i:=2) (j:=4) rfl rfl (li ((bq gq.comp.y (aE 1)).2 (e1.symm.trans (fg gq)))) (hq.y.mono (by decide)) ((aL (u:=1) (by decide) (by decide)).mono (by decide))) ai))))))))))
     (af (gT (n:=15) (c:=0) (t:=3) rfl (iJ c2)) (aj)) Tryz.func181 (by kernel_rfl) ⟨(ah (xs:=nD q) (ks:=[0,1,2,3]) (vs:=q.cs) ⟨rfl,rfl,rfl,rfl,trivial⟩).2 iq,trivial⟩).mono ?_
    rintro e w' ⟨v,rfl,h1,h2⟩
    exact⟨congrArg Ending.returned h1,h2⟩
  ·have e1:q.first=q.x:=by simp[Qq.first,c0,c1]
   refine(cRn (ρ:=frs (nE q)++([.val (.int .i64 q.x.sgn)]:List Vp)) (args:=[row [0,1,2,3]]) (vs:=[vq]) (r:=.v (.one (.b true)))
    (ae (bU (kq:=[0,1,2,3]) (q:=q) (kr:=[0,1,2,3]) ⟨rfl,rfl,rfl,rfl,trivial⟩ ⟨rfl,rfl,rfl,rfl,trivial⟩ (hq.mono (by decide))) (ae (aI (i:=0) (l:=.b true) rfl (lb gq.comp.w) (hq.w.mono (by decide))) (ae (aI (i:=1) (l:=.b true) rfl (lb gq.comp.x) (hq.x.mono (by decide))) (ae (aI (i:=2) (l:=.b true) rfl (lb gq.comp.y) (hq.y.mono (by decide))) (ae (aI (i:=3) (l:=.b true) rfl (lb gq.comp.z) (hq.z.mono (by decide))) (ae (aP (i:=0) rfl (li (fc c0)) (hq.w.mono (by decide))) (ae (aP (i:=1) rfl (lr (n:=15) rfl) (hq.x.mono (by decide))) (ae (cS (k:=4) rfl (by decide) (by decide)) (ae (bu (i:=1) (j:=4) rfl rfl (li ((bq gq.comp.x (aE 1)).2 (e1.symm.trans (fg gq)))) (hq.x.mono (by decide)) ((aL (u:=1) (by decide) (by decide)).mono (by decide))) ai)))))))))
    (af (gT (n:=15) (c:=0) (t:=3) rfl (iJ c1)) (aj)) Tryz.func181 (by kernel_rfl) ⟨(ah (xs:=nE q) (ks:=[0,1,2,3]) (vs:=q.cs) ⟨rfl,rfl,rfl,rfl,trivial⟩).2 iq,trivial⟩).mono ?_
   rintro e w' ⟨v,rfl,h1,h2⟩
   exact⟨congrArg Ending.returned h1,h2⟩
 ·have e1:q.first=q.w:=by simp[Qq.first,c0]
  refine(cRn (ρ:=frs (nF q)++([.val (.int .i64 q.w.sgn)]:List Vp)) (args:=[row [0,1,2,3]]) (vs:=[vq]) (r:=.v (.one (.b true)))
   (ae (bU (kq:=[0,1,2,3]) (q:=q) (kr:=[0,1,2,3]) ⟨rfl,rfl,rfl,rfl,trivial⟩ ⟨rfl,rfl,rfl,rfl,trivial⟩ (hq.mono (by decide))) (ae (aI (i:=0) (l:=.b true) rfl (lb gq.comp.w) (hq.w.mono (by decide))) (ae (aI (i:=1) (l:=.b true) rfl (lb gq.comp.x) (hq.x.mono (by decide))) (ae (aI (i:=2) (l:=.b true) rfl (lb gq.comp.y) (hq.y.mono (by decide))) (ae (aI (i:=3) (l:=.b true) rfl (lb gq.comp.z) (hq.z.mono (by decide))) (ae (aP (i:=0) rfl (lr (n:=15) rfl) (hq.w.mono (by decide))) (ae (cS (k:=4) rfl (by decide) (by decide)) (ae (bu (i:=0) (j:=4) rfl rfl (li ((bq gq.comp.w (aE 1)).2 (e1.symm.trans (fg gq)))) (hq.w.mono (by decide)) ((aL (u:=1) (by decide) (by decide)).mono (by decide))) ai))))))))
   (af (gT (n:=15) (c:=0) (t:=3) rfl (iJ c0)) (aj)) Tryz.func181 (by kernel_rfl) ⟨(ah (xs:=nF q) (ks:=[0,1,2,3]) (vs:=q.cs) ⟨rfl,rfl,rfl,rfl,trivial⟩).2 iq,trivial⟩).mono ?_
  rintro e w' ⟨v,rfl,h1,h2⟩
  exact⟨congrArg Ending.returned h1,h2⟩
theorem vP {xs:List Fq} {ys:Rho} {kq:List Nat} {q:Qq} (aq:AtL xs kq q.cs) (hq:q.ok 1000000) (gq:q.good):OkI xs ys ⟨181,[row kq],.v (.one (.b true))⟩:=
 ⟨aA Tryz.func181 rfl rfl,fun B w vs hB h=>by
  match vs,h with
  | [vq],h=>
   refine(pi vq q w ((ah aq).1 h.1) hq gq).mono ?_
   rintro e w' ⟨rfl,h2⟩
   exact⟨_,rfl,rfl,h2⟩⟩
def pj (q:Qq):List Fq:=q.cs
def nG (q:Qq):List Fq:=(q.cs++([(Fq.ofInt 1)]))
def nH (q:Qq):List Fq:=(q.cs++([(Fq.ofInt 1)]))
def nI (q:Qq):List Fq:=(q.cs++([(Fq.ofInt 1)]))
def nJ (q:Qq):List Fq:=(q.cs++([(Fq.ofInt 1)]))
theorem vQ (vq:Value) (q:Qq) (w:World) (iq:eG w vq q) (hq:q.ok 1000000) (gc:q.comp) (hf:q.first≠(Fq.ofInt 1)):
  Calls Tryz.prog 181 #[vq] w fun e w'=>cz w (.bool false) e w':=by
 by_cases c0:q.w.p=0
 ·by_cases c1:q.x.p=0
  ·by_cases c2:q.y.p=0
   ·by_cases c3:q.z.p=0
    ·refine(cRn (ρ:=frs (pj q)++ []) (args:=[row [0,1,2,3]]) (vs:=[vq]) (r:=.v (.one (.b false)))
      (ae (bU (kq:=[0,1,2,3]) (q:=q) (kr:=[0,1,2,3]) ⟨rfl,rfl,rfl,rfl,trivial⟩ ⟨rfl,rfl,rfl,rfl,trivial⟩ (hq.mono (by decide))) (ae (aI (i:=0) (l:=.b true) rfl (lb gc.w) (hq.w.mono (by decide))) (ae (aI (i:=1) (l:=.b true) rfl (lb gc.x) (hq.x.mono (by decide))) (ae (aI (i:=2) (l:=.b true) rfl (lb gc.y) (hq.y.mono (by decide))) (ae (aI (i:=3) (l:=.b true) rfl (lb gc.z) (hq.z.mono (by decide))) (ae (aP (i:=0) rfl (li (fc c0)) (hq.w.mono (by decide))) (ae (aP (i:=1) rfl (li (fc c1)) (hq.x.mono (by decide))) (ae (aP (i:=2) rfl (li (fc c2)) (hq.y.mono (by decide))) (ae (aP (i:=3) rfl (li (fc c3)) (hq.z.mono (by decide))) ai)))))))))
      aj Tryz.func181 (by kernel_rfl) ⟨(ah (xs:=pj q) (ks:=[0,1,2,3]) (vs:=q.cs) ⟨rfl,rfl,rfl,rfl,trivial⟩).2 iq,trivial⟩).mono ?_
     rintro e w' ⟨v,rfl,h1,h2⟩
     exact⟨congrArg Ending.returned h1,h2⟩
    ·have e1:q.first=q.z:=by simp[Qq.first,c0,c1,c2,c3]
     refine(cRn (ρ:=frs (nG q)++([.val (.int .i64 q.z.sgn),.val (.int .i64 (q.z.cmp (Fq.ofInt 1)))]:List Vp)) (args:=[row [0,1,2,3]]) (vs:=[vq]) (r:=.v (.one (.b false)))
      (ae (bU (kq:=[0,1,2,3]) (q:=q) (kr:=[0,1,2,3]) ⟨rfl,rfl,rfl,rfl,trivial⟩ ⟨rfl,rfl,rfl,rfl,trivial⟩ (hq.mono (by decide))) (ae (aI (i:=0) (l:=.b true) rfl (lb gc.w) (hq.w.mono (by decide))) (ae (aI (i:=1) (l:=.b true) rfl (lb gc.x) (hq.x.mono (by decide))) (ae (aI (i:=2) (l:=.b true) rfl (lb gc.y) (hq.y.mono (by decide))) (ae (aI (i:=3) (l:=.b true) rfl (lb gc.z) (hq.z.mono (by decide))) (ae (aP (i:=0) rfl (li (fc c0)) (hq.w.mono (by decide))) (ae (aP (i:=1) rfl (li (fc c1)) (hq.x.mono (by decide))) (ae (aP (i:=2) rfl (li (fc c2)) (hq.y.mono (by decide))) (ae (aP (i:=3) rfl (lr (n:=15) rfl) (hq.z.mono (by decide))) (ae (cS (k:=4) rfl (by decide) (by decide)) (ae (bu (i:=3) (j:=4) rfl rfl (lr (n:=16) rfl) (hq.z.mono (by decide)) ((aL (u:=1) (by decide) (by decide)).mono (by decide))) ai)))))))))))
      (af (gT (n:=15) (c:=0) (t:=3) rfl (iJ c3)) (af (iD (n:=16) (c:=0) (t:=3) rfl (iK (mt (bq gc.z (aE 1)).1 (fun h=>hf (e1.trans h))))) (aj))) Tryz.func181 (by kernel_rfl) ⟨(ah (xs:=nG q) (ks:=[0,1,2,3]) (vs:=q.cs) ⟨rfl,rfl,rfl,rfl,trivial⟩).2 iq,trivial⟩).mono ?_
     rintro e w' ⟨v,rfl,h1,h2⟩
     exact⟨congrArg Ending.returned h1,h2⟩
   ·have e1:q.first=q.y:=by simp[Qq.first,c0,c1,c2]
    refine(cRn (ρ:=frs (nH q)++([.val (.int .i64 q.y.sgn),.val (.int .i64 (q.y.cmp (Fq.ofInt 1)))]:List Vp)) (args:=[row [0,1,2,3]]) (vs:=[vq]) (r:=.v (.one (.b false)))
     (ae (bU (kq:=[0,1,2,3]) (q:=q) (kr:=[0,1,2,3]) ⟨rfl,rfl,rfl,rfl,trivial⟩ ⟨rfl,rfl,rfl,rfl,trivial⟩ (hq.mono (by decide))) (ae (aI (i:=0) (l:=.b true) rfl (lb gc.w) (hq.w.mono (by decide))) (ae (aI (i:=1) (l:=.b true) rfl (lb gc.x) (hq.x.mono (by decide))) (ae (aI (i:=2) (l:=.b true) rfl (lb gc.y) (hq.y.mono (by decide))) (ae (aI (i:=3) (l:=.b true) rfl (lb gc.z) (hq.z.mono (by decide))) (ae (aP (i:=0) rfl (li (fc c0)) (hq.w.mono (by decide))) (ae (aP (i:=1) rfl (li (fc c1)) (hq.x.mono (by decide))) (ae (aP (i:=2) rfl (lr (n:=15) rfl) (hq.y.mono (by decide))) (ae (cS (k:=4) rfl (by decide) (by decide)) (ae (bu (i:=2) (j:=4) rfl rfl (lr (n:=16) rfl) (hq.y.mono (by decide)) ((aL (u:=1) (by decide) (by decide)).mono (by decide))) ai))))))))))
     (af (gT (n:=15) (c:=0) (t:=3) rfl (iJ c2)) (af (iD (n:=16) (c:=0) (t:=3) rfl (iK (mt (bq gc.y (aE 1)).1 (fun h=>hf (e1.trans h))))) (aj))) Tryz.func181 (by kernel_rfl) ⟨(ah (xs:=nH q) (ks:=[0,1,2,3]) (vs:=q.cs) ⟨rfl,rfl,rfl,rfl,trivial⟩).2 iq,trivial⟩).mono ?_
    rintro e w' ⟨v,rfl,h1,h2⟩
    exact⟨congrArg Ending.returned h1,h2⟩
  ·have e1:q.first=q.x:=by simp[Qq.first,c0,c1]
   refine(cRn (ρ:=frs (nI q)++([.val (.int .i64 q.x.sgn),.val (.int .i64 (q.x.cmp (Fq.ofInt 1)))]:List Vp)) (args:=[row [0,1,2,3]]) (vs:=[vq]) (r:=.v (.one (.b false)))
    (ae (bU (kq:=[0,1,2,3]) (q:=q) (kr:=[0,1,2,3]) ⟨rfl,rfl,rfl,rfl,trivial⟩ ⟨rfl,rfl,rfl,rfl,trivial⟩ (hq.mono (by decide))) (ae (aI (i:=0) (l:=.b true) rfl (lb gc.w) (hq.w.mono (by decide))) (ae (aI (i:=1) (l:=.b true) rfl (lb gc.x) (hq.x.mono (by decide))) (ae (aI (i:=2) (l:=.b true) rfl (lb gc.y) (hq.y.mono (by decide))) (ae (aI (i:=3) (l:=.b true) rfl (lb gc.z) (hq.z.mono (by decide))) (ae (aP (i:=0) rfl (li (fc c0)) (hq.w.mono (by decide))) (ae (aP (i:=1) rfl (lr (n:=15) rfl) (hq.x.mono (by decide))) (ae (cS (k:=4) rfl (by decide) (by decide)) (ae (bu (i:=1) (j:=4) rfl rfl (lr (n:=16) rfl) (hq.x.mono (by decide)) ((aL (u:=1) (by decide) (by decide)).mono (by decide))) ai)))))))))
    (af (gT (n:=15) (c:=0) (t:=3) rfl (iJ c1)) (af (iD (n:=16) (c:=0) (t:=3) rfl (iK (mt (bq gc.x (aE 1)).1 (fun h=>hf (e1.trans h))))) (aj))) Tryz.func181 (by kernel_rfl) ⟨(ah (xs:=nI q) (ks:=[0,1,2,3]) (vs:=q.cs) ⟨rfl,rfl,rfl,rfl,trivial⟩).2 iq,trivial⟩).mono ?_
   rintro e w' ⟨v,rfl,h1,h2⟩
   exact⟨congrArg Ending.returned h1,h2⟩
 ·have e1:q.first=q.w:=by simp[Qq.first,c0]
  refine(cRn (ρ:=frs (nJ q)++([.val (.int .i64 q.w.sgn),.val (.int .i64 (q.w.cmp (Fq.ofInt 1)))]:List Vp)) (args:=[row [0,1,2,3]]) (vs:=[vq]) (r:=.v (.one (.b false)))
   (ae (bU (kq:=[0,1,2,3]) (q:=q) (kr:=[0,1,2,3]) ⟨rfl,rfl,rfl,rfl,trivial⟩ ⟨rfl,rfl,rfl,rfl,trivial⟩ (hq.mono (by decide))) (ae (aI (i:=0) (l:=.b true) rfl (lb gc.w) (hq.w.mono (by decide))) (ae (aI (i:=1) (l:=.b true) rfl (lb gc.x) (hq.x.mono (by decide))) (ae (aI (i:=2) (l:=.b true) rfl (lb gc.y) (hq.y.mono (by decide))) (ae (aI (i:=3) (l:=.b true) rfl (lb gc.z) (hq.z.mono (by decide))) (ae (aP (i:=0) rfl (lr (n:=15) rfl) (hq.w.mono (by decide))) (ae (cS (k:=4) rfl (by decide) (by decide)) (ae (bu (i:=0) (j:=4) rfl rfl (lr (n:=16) rfl) (hq.w.mono (by decide)) ((aL (u:=1) (by decide) (by decide)).mono (by decide))) ai))))))))
   (af (gT (n:=15) (c:=0) (t:=3) rfl (iJ c0)) (af (iD (n:=16) (c:=0) (t:=3) rfl (iK (mt (bq gc.w (aE 1)).1 (fun h=>hf (e1.trans h))))) (aj))) Tryz.func181 (by kernel_rfl) ⟨(ah (xs:=nJ q) (ks:=[0,1,2,3]) (vs:=q.cs) ⟨rfl,rfl,rfl,rfl,trivial⟩).2 iq,trivial⟩).mono ?_
  rintro e w' ⟨v,rfl,h1,h2⟩
  exact⟨congrArg Ending.returned h1,h2⟩
end Go.Proofs.YtggfmklppkioeaaGreat
