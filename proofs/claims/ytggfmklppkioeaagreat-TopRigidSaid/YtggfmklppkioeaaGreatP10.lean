/- Products, inverses, images, by the executor. Matrices, units, from one vector to another, by the executor. On the way, valid rotations, by the executor. Package pose and its reference, by the executor. On the way from one pose to another, by the executor. -/
import Derived.Test.YtggfmklppkioeaaGreatP09
namespace Go.Proofs.YtggfmklppkioeaaGreat
set_option linter.unusedSimpArgs false
set_option linter.unusedVariables false
set_option maxRecDepth 100000
open Go.RowKit
theorem Qq.ok.inv {q:Qq} {d:Nat} (h:q.ok d) (g:q.good):q.inv.ok (d+2+(d+2)):=by
 have h0:=nO g;rw[←wn g.comp]at h0;exact(Qq.ok.mk4 (h.w.mono (by omega)) (h.x.mul (aL (by decide) (by decide))) (h.y.mul (aL (by decide) (by decide))) (h.z.mul (aL (by decide) (by decide)))).canon h0
theorem inv_ne' {q:Qq} (g:q.good):(Qq.mk q.w (q.axis.scale (Fq.ofInt (-1))).x (q.axis.scale (Fq.ofInt (-1))).y (q.axis.scale (Fq.ofInt (-1))).z).first.p≠0:=by rw[wn g.comp];exact nO g
theorem Qq.ok.mulg {p q:Qq} {d e:Nat} (h:p.ok d) (k:q.ok e) (gp:p.good) (gq:q.good):(p.mul q).ok (44*(d+e)+14):=h.mul k (sn gp gq)
theorem Qq.ok.dd {q:Qq} {d:Nat} (h:q.ok d):q.dd.ok (44*d+7):=((h.w.mul h.w).sub (h.axis.dot h.axis)).mono (by omega)
theorem Qq.ok.nn {q:Qq} {d:Nat} (h:q.ok d):q.nn.ok (44*d+7):=((h.w.mul h.w).add (h.axis.dot h.axis)).mono (by omega)
theorem Qq.ok.rat {q:Qq} {d:Nat} (h:q.ok d) (g:q.good):q.rat.ok (44*d+9):=((aL (by decide) (by decide)).div h.nn (ut g)).mono (by omega)
theorem Qq.ok.ap1 {q:Qq} {a:Vq} {d e:Nat} (h:q.ok d) (k:a.ok e):(q.ap1 a).ok (e+44*d+7):=(k.scale h.dd).mono (by omega)
theorem Qq.ok.ap2 {q:Qq} {a:Vq} {d e:Nat} (h:q.ok d) (k:a.ok e):(q.ap2 a).ok (11*d+10*e+5):=(h.axis.scale ((aL (by decide) (by decide)).mul (h.axis.dot k))).mono (by omega)
theorem Qq.ok.ap3 {q:Qq} {a:Vq} {d e:Nat} (h:q.ok d) (k:a.ok e):(q.ap3 a).ok (5*d+4*e+3):=((h.axis.cross k).scale ((aL (by decide) (by decide)).mul h.w)).mono (by omega)
theorem Qq.ok.app {q:Qq} {a:Vq} {d e:Nat} (h:q.ok d) (k:a.ok e) (g:q.good):(q.app a).ok (300*(d+e)+100):=((((h.ap1 k).add (h.ap2 k)).add (h.ap3 k)).scale (h.rat g)).mono (by omega)
def nP (p:Qq) (q:Qq):List Fq:=(p.cs++(q.cs++([p.axis.x,p.axis.y,p.axis.z,q.axis.x,q.axis.y,q.axis.z,(p.w.mul q.w),(p.axis.dot q.axis),((p.w.mul q.w).sub (p.axis.dot q.axis)),(q.axis.scale p.w).x,(q.axis.scale p.w).y,(q.axis.scale p.w).z,(p.axis.scale q.w).x,(p.axis.scale q.w).y,(p.axis.scale q.w).z,((q.axis.scale p.w).add (p.axis.scale q.w)).x,((q.axis.scale p.w).add (p.axis.scale q.w)).y,((q.axis.scale p.w).add (p.axis.scale q.w)).z,(p.axis.cross q.axis).x,(p.axis.cross q.axis).y,(p.axis.cross q.axis).z,(((q.axis.scale p.w).add (p.axis.scale q.w)).add (p.axis.cross q.axis)).x,(((q.axis.scale p.w).add (p.axis.scale q.w)).add (p.axis.cross q.axis)).y,(((q.axis.scale p.w).add (p.axis.scale q.w)).add (p.axis.cross q.axis)).z]++((Qq.mk ((p.w.mul q.w).sub (p.axis.dot q.axis)) (((q.axis.scale p.w).add (p.axis.scale q.w)).add (p.axis.cross q.axis)).x (((q.axis.scale p.w).add (p.axis.scale q.w)).add (p.axis.cross q.axis)).y (((q.axis.scale p.w).add (p.axis.scale q.w)).add (p.axis.cross q.axis)).z).canon.cs))))
theorem q_fMulT (vp vq:Value) (p:Qq) (q:Qq) (w:World) (ip:fC w vp p) (iq:fC w vq q) (hp:p.ok 100000) (hq:q.ok 100000) (gp:p.good) (gq:q.good):
  Calls Tryz.prog 75 #[vp,vq] w fun e w'=>oV w (p.mul q) e w':=by
 refine(cRn (ρ:=frs (nP p q)++ []) (args:=[row [0,1,2,3],row [4,5,6,7]]) (vs:=[vp,vq]) (r:=.v (row [32,33,34,35]))
  (ae (oW (kq:=[0,1,2,3]) (q:=p) (kr:=[8,9,10]) ⟨rfl,rfl,rfl,rfl,trivial⟩ ⟨rfl,rfl,rfl,trivial⟩ (hp.mono (by decide))) (ae (oW (kq:=[4,5,6,7]) (q:=q) (kr:=[11,12,13]) ⟨rfl,rfl,rfl,rfl,trivial⟩ ⟨rfl,rfl,rfl,trivial⟩ (hq.mono (by decide))) (ae (iJ (i:=0) (j:=4) (k:=14) rfl rfl rfl (hp.w.mono (by decide)) (hq.w.mono (by decide))) (ae (sA (ka:=[8,9,10]) (a:=p.axis) (kb:=[11,12,13]) (b:=q.axis) (ir:=15) ⟨rfl,rfl,rfl,trivial⟩ ⟨rfl,rfl,rfl,trivial⟩ rfl (hp.axis.mono (by decide)) (hq.axis.mono (by decide))) (ae (mw (i:=14) (j:=15) (k:=16) rfl rfl rfl ((hp.w.mul hq.w).mono (by decide)) ((hp.axis.dot hq.axis).mono (by decide))) (ae (dm (ka:=[11,12,13]) (a:=q.axis) (ik:=0) (kr:=[17,18,19]) ⟨rfl,rfl,rfl,trivial⟩ rfl ⟨rfl,rfl,rfl,trivial⟩ (hq.axis.mono (by decide)) (hp.w.mono (by decide))) (ae (dm (ka:=[8,9,10]) (a:=p.axis) (ik:=4) (kr:=[20,21,22]) ⟨rfl,rfl,rfl,trivial⟩ rfl ⟨rfl,rfl,rfl,trivial⟩ (hp.axis.mono (by decide)) (hq.w.mono (by decide))) (ae (my (ka:=[17,18,19]) (a:=(q.axis.scale p.w)) (kb:=[20,21,22]) (b:=(p.axis.scale q.w)) (kr:=[23,24,25]) ⟨rfl,rfl,rfl,trivial⟩ ⟨rfl,rfl,rfl,trivial⟩ ⟨rfl,rfl,rfl,trivial⟩ ((hq.axis.scale hp.w).mono (by decide)) ((hp.axis.scale hq.w).mono (by decide))) (ae (uu (ka:=[8,9,10]) (a:=p.axis) (kb:=[11,12,13]) (b:=q.axis) (kr:=[26,27,28]) ⟨rfl,rfl,rfl,trivial⟩ ⟨rfl,rfl,rfl,trivial⟩ ⟨rfl,rfl,rfl,trivial⟩ (hp.axis.mono (by decide)) (hq.axis.mono (by decide))) (ae (my (ka:=[23,24,25]) (a:=((q.axis.scale p.w).add (p.axis.scale q.w))) (kb:=[26,27,28]) (b:=(p.axis.cross q.axis)) (kr:=[29,30,31]) ⟨rfl,rfl,rfl,trivial⟩ ⟨rfl,rfl,rfl,trivial⟩ ⟨rfl,rfl,rfl,trivial⟩ (((hq.axis.scale hp.w).add (hp.axis.scale hq.w)).mono (by decide)) ((hp.axis.cross hq.axis).mono (by decide))) (ae (oY (iu:=16) (kc:=[29,30,31]) (c:=(((q.axis.scale p.w).add (p.axis.scale q.w)).add (p.axis.cross q.axis))) (kr:=[32,33,34,35]) rfl ⟨rfl,rfl,rfl,trivial⟩ ⟨rfl,rfl,rfl,rfl,trivial⟩ (((hp.w.mul hq.w).sub (hp.axis.dot hq.axis)).mono (by decide)) ((((hq.axis.scale hp.w).add (hp.axis.scale hq.w)).add (hp.axis.cross hq.axis)).mono (by decide)) (sn gp gq)) ah)))))))))))
  ai Tryz.func75 (by kernel_rfl) ⟨(ag (xs:=nP p q) (ks:=[0,1,2,3]) (vs:=p.cs) ⟨rfl,rfl,rfl,rfl,trivial⟩).2 ip,⟨(ag (xs:=nP p q) (ks:=[4,5,6,7]) (vs:=q.cs) ⟨rfl,rfl,rfl,rfl,trivial⟩).2 iq,trivial⟩⟩).mono ?_
 rintro e w' ⟨v,rfl,h1,h2⟩;exact⟨v,rfl,(ag (xs:=nP p q) (ks:=[32,33,34,35]) (vs:=(Qq.mk ((p.w.mul q.w).sub (p.axis.dot q.axis)) (((q.axis.scale p.w).add (p.axis.scale q.w)).add (p.axis.cross q.axis)).x (((q.axis.scale p.w).add (p.axis.scale q.w)).add (p.axis.cross q.axis)).y (((q.axis.scale p.w).add (p.axis.scale q.w)).add (p.axis.cross q.axis)).z).canon.cs) ⟨rfl,rfl,rfl,rfl,trivial⟩).1 h1,h2⟩
theorem nQ {xs:List Fq} {ys:Rho} {kp:List Nat} {kq:List Nat} {p:Qq} {q:Qq} {kr:List Nat} (ap:AtL xs kp p.cs) (aq:AtL xs kq q.cs) (ar:AtL xs kr (p.mul q).cs) (hp:p.ok 100000) (hq:q.ok 100000) (gp:p.good) (gq:q.good):OkI xs ys ⟨75,[row kp,row kq],.v (row kr)⟩:=
 ⟨az Tryz.func75 rfl rfl,fun B w vs hB h=>by
  match vs,h with
  | [vp,vq],h=>
   refine(q_fMulT vp vq p q w ((ag ap).1 h.1) ((ag aq).1 h.2.1) hp hq gp gq).mono ?_;rintro e w' ⟨v,rfl,h1,h2⟩;exact⟨v,rfl,(ag ar).2 h1,h2⟩⟩
def sD (q:Qq):List Fq:=(q.cs++([q.axis.x,q.axis.y,q.axis.z,(Fq.ofInt (-1)),(q.axis.scale (Fq.ofInt (-1))).x,(q.axis.scale (Fq.ofInt (-1))).y,(q.axis.scale (Fq.ofInt (-1))).z]++((Qq.mk q.w (q.axis.scale (Fq.ofInt (-1))).x (q.axis.scale (Fq.ofInt (-1))).y (q.axis.scale (Fq.ofInt (-1))).z).canon.cs)))
theorem q_fInvT (vq:Value) (q:Qq) (w:World) (iq:fC w vq q) (hq:q.ok 100000) (gq:q.good):
  Calls Tryz.prog 178 #[vq] w fun e w'=>oV w q.inv e w':=by
 refine(cRn (ρ:=frs (sD q)++ []) (args:=[row [0,1,2,3]]) (vs:=[vq]) (r:=.v (row [11,12,13,14]))
  (ae (oW (kq:=[0,1,2,3]) (q:=q) (kr:=[4,5,6]) ⟨rfl,rfl,rfl,rfl,trivial⟩ ⟨rfl,rfl,rfl,trivial⟩ (hq.mono (by decide))) (ae (cV (k:=7) rfl (by decide) (by decide)) (ae (dm (ka:=[4,5,6]) (a:=q.axis) (ik:=7) (kr:=[8,9,10]) ⟨rfl,rfl,rfl,trivial⟩ rfl ⟨rfl,rfl,rfl,trivial⟩ (hq.axis.mono (by decide)) ((aL (u:= -1) (by decide) (by decide)).mono (by decide))) (ae (oY (iu:=0) (kc:=[8,9,10]) (c:=(q.axis.scale (Fq.ofInt (-1)))) (kr:=[11,12,13,14]) rfl ⟨rfl,rfl,rfl,trivial⟩ ⟨rfl,rfl,rfl,rfl,trivial⟩ (hq.w.mono (by decide)) ((hq.axis.scale (aL (u:= -1) (by decide) (by decide))).mono (by decide)) (inv_ne' gq)) ah))))
  ai Tryz.func178 (by kernel_rfl) ⟨(ag (xs:=sD q) (ks:=[0,1,2,3]) (vs:=q.cs) ⟨rfl,rfl,rfl,rfl,trivial⟩).2 iq,trivial⟩).mono ?_
 rintro e w' ⟨v,rfl,h1,h2⟩;exact⟨v,rfl,(ag (xs:=sD q) (ks:=[11,12,13,14]) (vs:=(Qq.mk q.w (q.axis.scale (Fq.ofInt (-1))).x (q.axis.scale (Fq.ofInt (-1))).y (q.axis.scale (Fq.ofInt (-1))).z).canon.cs) ⟨rfl,rfl,rfl,rfl,trivial⟩).1 h1,h2⟩
theorem sE {xs:List Fq} {ys:Rho} {kq:List Nat} {q:Qq} {kr:List Nat} (aq:AtL xs kq q.cs) (ar:AtL xs kr q.inv.cs) (hq:q.ok 100000) (gq:q.good):OkI xs ys ⟨178,[row kq],.v (row kr)⟩:=
 ⟨az Tryz.func178 rfl rfl,fun B w vs hB h=>by
  match vs,h with
  | [vq],h=>
   refine(q_fInvT vq q w ((ag aq).1 h.1) hq gq).mono ?_;rintro e w' ⟨v,rfl,h1,h2⟩;exact⟨v,rfl,(ag ar).2 h1,h2⟩⟩
def sF (q:Qq) (a:Vq):List Fq:=(q.cs++([a.x,a.y,a.z,q.axis.x,q.axis.y,q.axis.z,(q.w.mul q.w),(q.axis.dot q.axis),(Fq.ofInt 2),((q.w.mul q.w).sub (q.axis.dot q.axis)),(a.scale ((q.w.mul q.w).sub (q.axis.dot q.axis))).x,(a.scale ((q.w.mul q.w).sub (q.axis.dot q.axis))).y,(a.scale ((q.w.mul q.w).sub (q.axis.dot q.axis))).z,(q.axis.dot a),((Fq.ofInt 2).mul (q.axis.dot a)),(q.axis.scale ((Fq.ofInt 2).mul (q.axis.dot a))).x,(q.axis.scale ((Fq.ofInt 2).mul (q.axis.dot a))).y,(q.axis.scale ((Fq.ofInt 2).mul (q.axis.dot a))).z,((a.scale ((q.w.mul q.w).sub (q.axis.dot q.axis))).add (q.axis.scale ((Fq.ofInt 2).mul (q.axis.dot a)))).x,((a.scale ((q.w.mul q.w).sub (q.axis.dot q.axis))).add (q.axis.scale ((Fq.ofInt 2).mul (q.axis.dot a)))).y,((a.scale ((q.w.mul q.w).sub (q.axis.dot q.axis))).add (q.axis.scale ((Fq.ofInt 2).mul (q.axis.dot a)))).z,(q.axis.cross a).x,(q.axis.cross a).y,(q.axis.cross a).z,((Fq.ofInt 2).mul q.w),((q.axis.cross a).scale ((Fq.ofInt 2).mul q.w)).x,((q.axis.cross a).scale ((Fq.ofInt 2).mul q.w)).y,((q.axis.cross a).scale ((Fq.ofInt 2).mul q.w)).z,(((a.scale ((q.w.mul q.w).sub (q.axis.dot q.axis))).add (q.axis.scale ((Fq.ofInt 2).mul (q.axis.dot a)))).add ((q.axis.cross a).scale ((Fq.ofInt 2).mul q.w))).x,(((a.scale ((q.w.mul q.w).sub (q.axis.dot q.axis))).add (q.axis.scale ((Fq.ofInt 2).mul (q.axis.dot a)))).add ((q.axis.cross a).scale ((Fq.ofInt 2).mul q.w))).y,(((a.scale ((q.w.mul q.w).sub (q.axis.dot q.axis))).add (q.axis.scale ((Fq.ofInt 2).mul (q.axis.dot a)))).add ((q.axis.cross a).scale ((Fq.ofInt 2).mul q.w))).z,(Fq.ofInt 1),((q.w.mul q.w).add (q.axis.dot q.axis)),((Fq.ofInt 1).div ((q.w.mul q.w).add (q.axis.dot q.axis))),((((a.scale ((q.w.mul q.w).sub (q.axis.dot q.axis))).add (q.axis.scale ((Fq.ofInt 2).mul (q.axis.dot a)))).add ((q.axis.cross a).scale ((Fq.ofInt 2).mul q.w))).scale ((Fq.ofInt 1).div ((q.w.mul q.w).add (q.axis.dot q.axis)))).x,((((a.scale ((q.w.mul q.w).sub (q.axis.dot q.axis))).add (q.axis.scale ((Fq.ofInt 2).mul (q.axis.dot a)))).add ((q.axis.cross a).scale ((Fq.ofInt 2).mul q.w))).scale ((Fq.ofInt 1).div ((q.w.mul q.w).add (q.axis.dot q.axis)))).y,((((a.scale ((q.w.mul q.w).sub (q.axis.dot q.axis))).add (q.axis.scale ((Fq.ofInt 2).mul (q.axis.dot a)))).add ((q.axis.cross a).scale ((Fq.ofInt 2).mul q.w))).scale ((Fq.ofInt 1).div ((q.w.mul q.w).add (q.axis.dot q.axis)))).z]))
theorem q_fApp (vq va:Value) (q:Qq) (a:Vq) (w:World) (iq:fC w vq q) (ia:cP w va a) (hq:q.ok 300000) (ha:a.ok 300000) (gq:q.good):
  Calls Tryz.prog 179 #[vq,va] w fun e w'=>fj w (q.app a) e w':=by
 refine(cRn (ρ:=frs (sF q a)++ []) (args:=[row [0,1,2,3],row [4,5,6]]) (vs:=[vq,va]) (r:=.v (row [38,39,40]))
  (ae (oW (kq:=[0,1,2,3]) (q:=q) (kr:=[7,8,9]) ⟨rfl,rfl,rfl,rfl,trivial⟩ ⟨rfl,rfl,rfl,trivial⟩ (hq.mono (by decide))) (ae (iJ (i:=0) (j:=0) (k:=10) rfl rfl rfl (hq.w.mono (by decide)) (hq.w.mono (by decide))) (ae (sA (ka:=[7,8,9]) (a:=q.axis) (kb:=[7,8,9]) (b:=q.axis) (ir:=11) ⟨rfl,rfl,rfl,trivial⟩ ⟨rfl,rfl,rfl,trivial⟩ rfl (hq.axis.mono (by decide)) (hq.axis.mono (by decide))) (ae (cV (k:=12) rfl (by decide) (by decide)) (ae (mw (i:=10) (j:=11) (k:=13) rfl rfl rfl ((hq.w.mul hq.w).mono (by decide)) ((hq.axis.dot hq.axis).mono (by decide))) (ae (dm (ka:=[4,5,6]) (a:=a) (ik:=13) (kr:=[14,15,16]) ⟨rfl,rfl,rfl,trivial⟩ rfl ⟨rfl,rfl,rfl,trivial⟩ (ha.mono (by decide)) (((hq.w.mul hq.w).sub (hq.axis.dot hq.axis)).mono (by decide))) (ae (sA (ka:=[7,8,9]) (a:=q.axis) (kb:=[4,5,6]) (b:=a) (ir:=17) ⟨rfl,rfl,rfl,trivial⟩ ⟨rfl,rfl,rfl,trivial⟩ rfl (hq.axis.mono (by decide)) (ha.mono (by decide))) (ae (iJ (i:=12) (j:=17) (k:=18) rfl rfl rfl ((aL (u:=2) (by decide) (by decide)).mono (by decide)) ((hq.axis.dot ha).mono (by decide))) (ae (dm (ka:=[7,8,9]) (a:=q.axis) (ik:=18) (kr:=[19,20,21]) ⟨rfl,rfl,rfl,trivial⟩ rfl ⟨rfl,rfl,rfl,trivial⟩ (hq.axis.mono (by decide)) (((aL (u:=2) (by decide) (by decide)).mul (hq.axis.dot ha)).mono (by decide))) (ae (my (ka:=[14,15,16]) (a:=(a.scale ((q.w.mul q.w).sub (q.axis.dot q.axis)))) (kb:=[19,20,21]) (b:=(q.axis.scale ((Fq.ofInt 2).mul (q.axis.dot a)))) (kr:=[22,23,24]) ⟨rfl,rfl,rfl,trivial⟩ ⟨rfl,rfl,rfl,trivial⟩ ⟨rfl,rfl,rfl,trivial⟩ ((ha.scale ((hq.w.mul hq.w).sub (hq.axis.dot hq.axis))).mono (by decide)) ((hq.axis.scale ((aL (u:=2) (by decide) (by decide)).mul (hq.axis.dot ha))).mono (by decide))) (ae (uu (ka:=[7,8,9]) (a:=q.axis) (kb:=[4,5,6]) (b:=a) (kr:=[25,26,27]) ⟨rfl,rfl,rfl,trivial⟩ ⟨rfl,rfl,rfl,trivial⟩ ⟨rfl,rfl,rfl,trivial⟩ (hq.axis.mono (by decide)) (ha.mono (by decide))) (ae (iJ (i:=12) (j:=0) (k:=28) rfl rfl rfl ((aL (u:=2) (by decide) (by decide)).mono (by decide)) (hq.w.mono (by decide))) (ae (dm (ka:=[25,26,27]) (a:=(q.axis.cross a)) (ik:=28) (kr:=[29,30,31]) ⟨rfl,rfl,rfl,trivial⟩ rfl ⟨rfl,rfl,rfl,trivial⟩ ((hq.axis.cross ha).mono (by decide)) (((aL (u:=2) (by decide) (by decide)).mul hq.w).mono (by decide))) (ae (my (ka:=[22,23,24]) (a:=((a.scale ((q.w.mul q.w).sub (q.axis.dot q.axis))).add (q.axis.scale ((Fq.ofInt 2).mul (q.axis.dot a))))) (kb:=[29,30,31]) (b:=((q.axis.cross a).scale ((Fq.ofInt 2).mul q.w))) (kr:=[32,33,34]) ⟨rfl,rfl,rfl,trivial⟩ ⟨rfl,rfl,rfl,trivial⟩ ⟨rfl,rfl,rfl,trivial⟩ (((ha.scale ((hq.w.mul hq.w).sub (hq.axis.dot hq.axis))).add (hq.axis.scale ((aL (u:=2) (by decide) (by decide)).mul (hq.axis.dot ha)))).mono (by decide)) (((hq.axis.cross ha).scale ((aL (u:=2) (by decide) (by decide)).mul hq.w)).mono (by decide))) (ae (cV (k:=35) rfl (by decide) (by decide)) (ae (mv (i:=10) (j:=11) (k:=36) rfl rfl rfl ((hq.w.mul hq.w).mono (by decide)) ((hq.axis.dot hq.axis).mono (by decide))) (ae (cU (i:=35) (j:=36) (k:=37) rfl rfl rfl ((aL (u:=1) (by decide) (by decide)).mono (by decide)) (((hq.w.mul hq.w).add (hq.axis.dot hq.axis)).mono (by decide)) (ut gq)) (ae (dm (ka:=[32,33,34]) (a:=(((a.scale ((q.w.mul q.w).sub (q.axis.dot q.axis))).add (q.axis.scale ((Fq.ofInt 2).mul (q.axis.dot a)))).add ((q.axis.cross a).scale ((Fq.ofInt 2).mul q.w)))) (ik:=37) (kr:=[38,39,40]) ⟨rfl,rfl,rfl,trivial⟩ rfl ⟨rfl,rfl,rfl,trivial⟩ ((((ha.scale ((hq.w.mul hq.w).sub (hq.axis.dot hq.axis))).add (hq.axis.scale ((aL (u:=2) (by decide) (by decide)).mul (hq.axis.dot ha)))).add ((hq.axis.cross ha).scale ((aL (u:=2) (by decide) (by decide)).mul hq.w))).mono (by decide)) (((aL (u:=1) (by decide) (by decide)).div ((hq.w.mul hq.w).add (hq.axis.dot hq.axis)) (ut gq)).mono (by decide))) ah))))))))))))))))))
  ai Tryz.func179 (by kernel_rfl) ⟨(ag (xs:=sF q a) (ks:=[0,1,2,3]) (vs:=q.cs) ⟨rfl,rfl,rfl,rfl,trivial⟩).2 iq,⟨(ag (xs:=sF q a) (ks:=[4,5,6]) (vs:=[a.x,a.y,a.z]) ⟨rfl,rfl,rfl,trivial⟩).2 ia,trivial⟩⟩).mono ?_
 rintro e w' ⟨v,rfl,h1,h2⟩;exact⟨v,rfl,(ag (xs:=sF q a) (ks:=[38,39,40]) (vs:=[((((a.scale ((q.w.mul q.w).sub (q.axis.dot q.axis))).add (q.axis.scale ((Fq.ofInt 2).mul (q.axis.dot a)))).add ((q.axis.cross a).scale ((Fq.ofInt 2).mul q.w))).scale ((Fq.ofInt 1).div ((q.w.mul q.w).add (q.axis.dot q.axis)))).x,((((a.scale ((q.w.mul q.w).sub (q.axis.dot q.axis))).add (q.axis.scale ((Fq.ofInt 2).mul (q.axis.dot a)))).add ((q.axis.cross a).scale ((Fq.ofInt 2).mul q.w))).scale ((Fq.ofInt 1).div ((q.w.mul q.w).add (q.axis.dot q.axis)))).y,((((a.scale ((q.w.mul q.w).sub (q.axis.dot q.axis))).add (q.axis.scale ((Fq.ofInt 2).mul (q.axis.dot a)))).add ((q.axis.cross a).scale ((Fq.ofInt 2).mul q.w))).scale ((Fq.ofInt 1).div ((q.w.mul q.w).add (q.axis.dot q.axis)))).z]) ⟨rfl,rfl,rfl,trivial⟩).1 h1,h2⟩
theorem I_fApp {xs:List Fq} {ys:Rho} {kq:List Nat} {ka:List Nat} {q:Qq} {a:Vq} {kr:List Nat} (aq:AtL xs kq q.cs) (aa:AtL xs ka [a.x,a.y,a.z]) (ar:AtL xs kr [(q.app a).x,(q.app a).y,(q.app a).z]) (hq:q.ok 300000) (ha:a.ok 300000) (gq:q.good):OkI xs ys ⟨179,[row kq,row ka],.v (row kr)⟩:=
 ⟨az Tryz.func179 rfl rfl,fun B w vs hB h=>by
  match vs,h with
  | [vq,va],h=>
   refine(q_fApp vq va q a w ((ag aq).1 h.1) ((ag aa).1 h.2.1) hq ha gq).mono ?_;rintro e w' ⟨v,rfl,h1,h2⟩;exact⟨v,rfl,(ag ar).2 h1,h2⟩⟩
theorem oZ {x y z:Int} (l1: -9223372036854775808≤x) (r1:x<9223372036854775808) (l2: -9223372036854775808≤y) (r2:y<9223372036854775808) (l3: -9223372036854775808≤z) (r3:z<9223372036854775808):(Vq.of x y z).ok 2:=⟨aL l1 r1,aL l2 r2,aL l3 r3⟩
theorem fk {q:Qq} (g:q.good):q.first=Fq.ofInt 1:=gn g.comp.first (aG 1) (by rw[g.one,da];rfl)
theorem good_ne {q:Qq} (g:q.good):q.first.p≠0:=by rw[fk g];decide
theorem sG {p q:Qq} {t:Fq} {d e f:Nat} (h:p.ok d) (k:q.ok e) (l:t.ok f) (gp:p.good) (gq:q.good) (vt:t.valid=true):(p.way (p.inv.mul q) t).ok (44*(d+((44*(d+2+(d+2)+e)+14+f+2)+(44*(d+2+(d+2)+e)+14+f+2)))+14):=by
 have D:=(h.inv gp).mulg k (aZ gp) gq;have S:=D.axis.scale l;exact h.mulg ((Qq.ok.mk4 ((aL (by decide) (by decide)).mono (by omega)) (S.x.mono (by omega)) (S.y.mono (by omega)) (S.z.mono (by omega)):Qq.ok (44*(d+2+(d+2)+e)+14+f+2) _).canon jf) gp (dY (je (fg (aZ gp) gq).comp vt) jf)
theorem yn {q:Qq} (c:q.comp) (h:q.first=Fq.ofInt 1):q.good:=⟨c,by rw[h,da];rfl⟩
def lC (p:Qq) (q:Qq) (m:Fq):List Fq:=(p.cs++(q.cs++([m]++(p.inv.cs++((p.inv.mul q).cs++([(Fq.ofInt 1),(p.inv.mul q).axis.x,(p.inv.mul q).axis.y,(p.inv.mul q).axis.z,((p.inv.mul q).axis.scale m).x,((p.inv.mul q).axis.scale m).y,((p.inv.mul q).axis.scale m).z]++((Qq.mk (Fq.ofInt 1) ((p.inv.mul q).axis.scale m).x ((p.inv.mul q).axis.scale m).y ((p.inv.mul q).axis.scale m).z).canon.cs++((p.mul (Qq.mk (Fq.ofInt 1) ((p.inv.mul q).axis.scale m).x ((p.inv.mul q).axis.scale m).y ((p.inv.mul q).axis.scale m).z).canon).cs))))))))
theorem q_fBtw1 (vp vq vm:Value) (p:Qq) (q:Qq) (m:Fq) (w:World) (ip:fC w vp p) (iq:fC w vq q) (im:IsQ w vm m) (hp:p.ok 100) (hq:q.ok 100) (hm:m.ok 100) (gp:p.good) (gq:q.good) (gm:m.valid=true) (hw:(p.inv.mul q).w.p≠0):
  Calls Tryz.prog 216 #[vp,vq,vm] w fun e w'=>wu w (p.way (p.inv.mul q) m) 0 e w':=by
 refine(cRn (ρ:=frs (lC p q m)++ []) (args:=[row [0,1,2,3],row [4,5,6,7],fr 8]) (vs:=[vp,vq,vm]) (r:=.tup [row [28,29,30,31],.one (.i .i64 0)])
  (ae (sE (kq:=[0,1,2,3]) (q:=p) (kr:=[9,10,11,12]) ⟨rfl,rfl,rfl,rfl,trivial⟩ ⟨rfl,rfl,rfl,rfl,trivial⟩ (hp.mono (by decide)) gp) (ae (nQ (kp:=[9,10,11,12]) (p:=p.inv) (kq:=[4,5,6,7]) (q:=q) (kr:=[13,14,15,16]) ⟨rfl,rfl,rfl,rfl,trivial⟩ ⟨rfl,rfl,rfl,rfl,trivial⟩ ⟨rfl,rfl,rfl,rfl,trivial⟩ ((hp.inv gp).mono (by decide)) (hq.mono (by decide)) (aZ gp) gq) (ae (I_Half0 (kq:=[13,14,15,16]) (q:=(p.inv.mul q)) ⟨rfl,rfl,rfl,rfl,trivial⟩ (((hp.inv gp).mulg hq (aZ gp) gq).mono (by decide)) hw) (ae (cV (k:=17) rfl (by decide) (by decide)) (ae (oW (kq:=[13,14,15,16]) (q:=(p.inv.mul q)) (kr:=[18,19,20]) ⟨rfl,rfl,rfl,rfl,trivial⟩ ⟨rfl,rfl,rfl,trivial⟩ (((hp.inv gp).mulg hq (aZ gp) gq).mono (by decide))) (ae (dm (ka:=[18,19,20]) (a:=(p.inv.mul q).axis) (ik:=8) (kr:=[21,22,23]) ⟨rfl,rfl,rfl,trivial⟩ rfl ⟨rfl,rfl,rfl,trivial⟩ (((hp.inv gp).mulg hq (aZ gp) gq).axis.mono (by decide)) (hm.mono (by decide))) (ae (oY (iu:=17) (kc:=[21,22,23]) (c:=((p.inv.mul q).axis.scale m)) (kr:=[24,25,26,27]) rfl ⟨rfl,rfl,rfl,trivial⟩ ⟨rfl,rfl,rfl,rfl,trivial⟩ ((aL (u:=1) (by decide) (by decide)).mono (by decide)) ((((hp.inv gp).mulg hq (aZ gp) gq).axis.scale hm).mono (by decide)) jf) (ae (nQ (kp:=[0,1,2,3]) (p:=p) (kq:=[24,25,26,27]) (q:=(Qq.mk (Fq.ofInt 1) ((p.inv.mul q).axis.scale m).x ((p.inv.mul q).axis.scale m).y ((p.inv.mul q).axis.scale m).z).canon) (kr:=[28,29,30,31]) ⟨rfl,rfl,rfl,rfl,trivial⟩ ⟨rfl,rfl,rfl,rfl,trivial⟩ ⟨rfl,rfl,rfl,rfl,trivial⟩ (hp.mono (by decide)) ((zL (aL (u:=1) (by decide) (by decide)) (((hp.inv gp).mulg hq (aZ gp) gq).axis.scale hm) jf).mono (by decide)) gp (dY (je (fg (aZ gp) gq).comp gm) jf)) ah))))))))
  ai Tryz.func216 (by kernel_rfl) ⟨(ag (xs:=lC p q m) (ks:=[0,1,2,3]) (vs:=p.cs) ⟨rfl,rfl,rfl,rfl,trivial⟩).2 ip,⟨(ag (xs:=lC p q m) (ks:=[4,5,6,7]) (vs:=q.cs) ⟨rfl,rfl,rfl,rfl,trivial⟩).2 iq,⟨(aI (xs:=lC p q m) (k:=8) rfl).2 im,trivial⟩⟩⟩).mono ?_
 rintro e w' ⟨v,rfl,⟨vs,rfl,h1⟩,h2⟩
 match vs,h1 with
 | [r,c],h1=>
  obtain⟨⟨cs,rfl,k1⟩,k2,_⟩:=h1;have k2:c=_:=k2;subst k2;exact⟨_,rfl,(ag (xs:=lC p q m) (ks:=[28,29,30,31]) (vs:=(p.mul (Qq.mk (Fq.ofInt 1) ((p.inv.mul q).axis.scale m).x ((p.inv.mul q).axis.scale m).y ((p.inv.mul q).axis.scale m).z).canon).cs) ⟨rfl,rfl,rfl,rfl,trivial⟩).1 ⟨_,rfl,k1⟩,h2⟩
theorem I_fBtw1 {xs:List Fq} {ys:Rho} {kp:List Nat} {kq:List Nat} {im:Nat} {p:Qq} {q:Qq} {m:Fq} {kr:List Nat} (ap:AtL xs kp p.cs) (aq:AtL xs kq q.cs) (am:xs[im]? =some m) (ar:AtL xs kr (p.way (p.inv.mul q) m).cs) (hp:p.ok 100) (hq:q.ok 100) (hm:m.ok 100) (gp:p.good) (gq:q.good) (gm:m.valid=true) (hw:(p.inv.mul q).w.p≠0):OkI xs ys ⟨216,[row kp,row kq,fr im],.tup [row kr,.one (.i .i64 0)]⟩:=
 ⟨az Tryz.func216 rfl rfl,fun B w vs hB h=>by
  match vs,h with
  | [vp,vq,vm],h=>
   refine(q_fBtw1 vp vq vm p q m w ((ag ap).1 h.1) ((ag aq).1 h.2.1) ((aI am).1 h.2.2.1) hp hq hm gp gq gm hw).mono ?_;rintro e w' ⟨v,rfl,h1,h2⟩;exact⟨_,rfl,⟨[v,.int .i64 0],rfl,(ag ar).2 h1,rfl,trivial⟩,h2⟩⟩
def nR (p:Qq) (q:Qq) (m:Fq):List Fq:=(p.cs++(q.cs++([m]++(p.inv.cs++((p.inv.mul q).cs++([(Fq.ofInt 1)]))))))
theorem q_fBtw4 (vp vq vm:Value) (p:Qq) (q:Qq) (m:Fq) (w:World) (ip:fC w vp p) (iq:fC w vq q) (im:IsQ w vm m) (hp:p.ok 100) (hq:q.ok 100) (hm:m.ok 100) (gp:p.good) (gq:q.good) (gm:m.valid=true) (hw:(p.inv.mul q).w.p=0) (h0:m.p≠0) (h1:m≠(Fq.ofInt 1)):
  Calls Tryz.prog 216 #[vp,vq,vm] w fun e w'=>wu w Qq.zero 4 e w':=by
 refine(cRn (ρ:=frs (nR p q m)++([.val (.int .i64 m.sgn),.val (.int .i64 (m.cmp (Fq.ofInt 1)))]:List Vp)) (args:=[row [0,1,2,3],row [4,5,6,7],fr 8]) (vs:=[vp,vq,vm]) (r:=.tup [.agg [.b false,.sl0,.sl0,.b false,.sl0,.sl0,.b false,.sl0,.sl0,.b false,.sl0,.sl0],.one (.i .i64 4)])
  (ae (sE (kq:=[0,1,2,3]) (q:=p) (kr:=[9,10,11,12]) ⟨rfl,rfl,rfl,rfl,trivial⟩ ⟨rfl,rfl,rfl,rfl,trivial⟩ (hp.mono (by decide)) gp) (ae (nQ (kp:=[9,10,11,12]) (p:=p.inv) (kq:=[4,5,6,7]) (q:=q) (kr:=[13,14,15,16]) ⟨rfl,rfl,rfl,rfl,trivial⟩ ⟨rfl,rfl,rfl,rfl,trivial⟩ ⟨rfl,rfl,rfl,rfl,trivial⟩ ((hp.inv gp).mono (by decide)) (hq.mono (by decide)) (aZ gp) gq) (ae (I_Half1 (kq:=[13,14,15,16]) (q:=(p.inv.mul q)) ⟨rfl,rfl,rfl,rfl,trivial⟩ (((hp.inv gp).mulg hq (aZ gp) gq).mono (by decide)) hw) (ae (aQ (i:=8) rfl (lr (n:=54) rfl) (hm.mono (by decide))) (ae (cV (k:=17) rfl (by decide) (by decide)) (ae (bo (i:=8) (j:=17) rfl rfl (lr (n:=55) rfl) (hm.mono (by decide)) ((aL (u:=1) (by decide) (by decide)).mono (by decide))) ah))))))
  (af (iG (n:=54) (c:=0) (t:=3) rfl (mx h0)) (af (iG (n:=55) (c:=0) (t:=3) rfl (iL (mt (bn gm (aG 1)).1 h1))) (ai))) Tryz.func216 (by kernel_rfl) ⟨(ag (xs:=nR p q m) (ks:=[0,1,2,3]) (vs:=p.cs) ⟨rfl,rfl,rfl,rfl,trivial⟩).2 ip,⟨(ag (xs:=nR p q m) (ks:=[4,5,6,7]) (vs:=q.cs) ⟨rfl,rfl,rfl,rfl,trivial⟩).2 iq,⟨(aI (xs:=nR p q m) (k:=8) rfl).2 im,trivial⟩⟩⟩).mono ?_
 rintro e w' ⟨v,rfl,⟨vs,rfl,h1⟩,h2⟩
 match vs,h1 with
 | [r,c],h1=>
  obtain⟨⟨cs,rfl,k1⟩,k2,_⟩:=h1;have k2:c=_:=k2;subst k2;exact⟨_,rfl,⟨_,rfl,fi (n:=4) k1⟩,h2⟩
theorem I_fBtw4 {xs:List Fq} {ys:Rho} {kp:List Nat} {kq:List Nat} {im:Nat} {p:Qq} {q:Qq} {m:Fq} {kr:List Nat} (ap:AtL xs kp p.cs) (aq:AtL xs kq q.cs) (am:xs[im]? =some m) (ar:AtL xs kr Qq.zero.cs) (hp:p.ok 100) (hq:q.ok 100) (hm:m.ok 100) (gp:p.good) (gq:q.good) (gm:m.valid=true) (hw:(p.inv.mul q).w.p=0) (h0:m.p≠0) (h1:m≠(Fq.ofInt 1)):OkI xs ys ⟨216,[row kp,row kq,fr im],.tup [row kr,.one (.i .i64 4)]⟩:=
 ⟨az Tryz.func216 rfl rfl,fun B w vs hB h=>by
  match vs,h with
  | [vp,vq,vm],h=>
   refine(q_fBtw4 vp vq vm p q m w ((ag ap).1 h.1) ((ag aq).1 h.2.1) ((aI am).1 h.2.2.1) hp hq hm gp gq gm hw h0 h1).mono ?_;rintro e w' ⟨v,rfl,h1,h2⟩;exact⟨_,rfl,⟨[v,.int .i64 4],rfl,(ag ar).2 h1,rfl,trivial⟩,h2⟩⟩
def o0 (q:Qq):List Fq:=(q.cs++([(Fq.ofInt 1)]))
def mY (q:Qq):List Fq:=(q.cs++([(Fq.ofInt 1)]))
def mZ (q:Qq):List Fq:=(q.cs++([(Fq.ofInt 1)]))
def m7 (q:Qq):List Fq:=(q.cs++([(Fq.ofInt 1)]))
theorem o6 (vq:Value) (q:Qq) (w:World) (iq:fC w vq q) (hq:q.ok 1000000) (gq:q.good):
  Calls Tryz.prog 181 #[vq] w fun e w'=>cI w (.bool true) e w':=by
 by_cases c0:q.w.p=0
 ·by_cases c1:q.x.p=0
  ·by_cases c2:q.y.p=0
   ·by_cases c3:q.z.p=0
    ·exact absurd (by simp[Qq.first,c0,c1,c2,c3]) (good_ne gq)
    ·have e1:q.first=q.z:=by simp[Qq.first,c0,c1,c2,c3]
     refine(cRn (ρ:=frs (o0 q)++([.val (.int .i64 q.z.sgn)]:List Vp)) (args:=[row [0,1,2,3]]) (vs:=[vq]) (r:=.v (.one (.b true)))
      (ae (bQ (kq:=[0,1,2,3]) (q:=q) (kr:=[0,1,2,3]) ⟨rfl,rfl,rfl,rfl,trivial⟩ ⟨rfl,rfl,rfl,rfl,trivial⟩ (hq.mono (by decide))) (ae (aJ (i:=0) (l:=.b true) rfl (lb gq.comp.w) (hq.w.mono (by decide))) (ae (aJ (i:=1) (l:=.b true) rfl (lb gq.comp.x) (hq.x.mono (by decide))) (ae (aJ (i:=2) (l:=.b true) rfl (lb gq.comp.y) (hq.y.mono (by decide))) (ae (aJ (i:=3) (l:=.b true) rfl (lb gq.comp.z) (hq.z.mono (by decide))) (ae (aQ (i:=0) rfl (li (fh c0)) (hq.w.mono (by decide))) (ae (aQ (i:=1) rfl (li (fh c1)) (hq.x.mono (by decide))) (ae (aQ (i:=2) rfl (li (fh c2)) (hq.y.mono (by decide))) (ae (aQ (i:=3) rfl (lr (n:=15) rfl) (hq.z.mono (by decide))) (ae (cV (k:=4) rfl (by decide) (by decide)) (ae (bo (i:=3) (j:=4) rfl rfl (li ((bn gq.comp.z (aG 1)).2 (e1.symm.trans (fk gq)))) (hq.z.mono (by decide)) ((aL (u:=1) (by decide) (by decide)).mono (by decide))) ah)))))))))))
      (af (gY (n:=15) (c:=0) (t:=3) rfl (iK c3)) (ai)) Tryz.func181 (by kernel_rfl) ⟨(ag (xs:=o0 q) (ks:=[0,1,2,3]) (vs:=q.cs) ⟨rfl,rfl,rfl,rfl,trivial⟩).2 iq,trivial⟩).mono ?_
     rintro e w' ⟨v,rfl,h1,h2⟩;exact⟨congrArg Ending.returned h1,h2⟩
   ·have e1:q.first=q.y:=by simp[Qq.first,c0,c1,c2]
    refine(cRn (ρ:=frs (mY q)++([.val (.int .i64 q.y.sgn)]:List Vp)) (args:=[row [0,1,2,3]]) (vs:=[vq]) (r:=.v (.one (.b true)))
     (ae (bQ (kq:=[0,1,2,3]) (q:=q) (kr:=[0,1,2,3]) ⟨rfl,rfl,rfl,rfl,trivial⟩ ⟨rfl,rfl,rfl,rfl,trivial⟩ (hq.mono (by decide))) (ae (aJ (i:=0) (l:=.b true) rfl (lb gq.comp.w) (hq.w.mono (by decide))) (ae (aJ (i:=1) (l:=.b true) rfl (lb gq.comp.x) (hq.x.mono (by decide))) (ae (aJ (i:=2) (l:=.b true) rfl (lb gq.comp.y) (hq.y.mono (by decide))) (ae (aJ (i:=3) (l:=.b true) rfl (lb gq.comp.z) (hq.z.mono (by decide))) (ae (aQ (i:=0) rfl (li (fh c0)) (hq.w.mono (by decide))) (ae (aQ (i:=1) rfl (li (fh c1)) (hq.x.mono (by decide))) (ae (aQ (i:=2) rfl (lr (n:=15) rfl) (hq.y.mono (by decide))) (ae (cV (k:=4) rfl (by decide) (by decide)) (ae (bo (i:=2) (j:=4) rfl rfl (li ((bn gq.comp.y (aG 1)).2 (e1.symm.trans (fk gq)))) (hq.y.mono (by decide)) ((aL (u:=1) (by decide) (by decide)).mono (by decide))) ah))))))))))
     (af (gY (n:=15) (c:=0) (t:=3) rfl (iK c2)) (ai)) Tryz.func181 (by kernel_rfl) ⟨(ag (xs:=mY q) (ks:=[0,1,2,3]) (vs:=q.cs) ⟨rfl,rfl,rfl,rfl,trivial⟩).2 iq,trivial⟩).mono ?_
    rintro e w' ⟨v,rfl,h1,h2⟩;exact⟨congrArg Ending.returned h1,h2⟩
  ·have e1:q.first=q.x:=by simp[Qq.first,c0,c1]
   refine(cRn (ρ:=frs (mZ q)++([.val (.int .i64 q.x.sgn)]:List Vp)) (args:=[row [0,1,2,3]]) (vs:=[vq]) (r:=.v (.one (.b true)))
    (ae (bQ (kq:=[0,1,2,3]) (q:=q) (kr:=[0,1,2,3]) ⟨rfl,rfl,rfl,rfl,trivial⟩ ⟨rfl,rfl,rfl,rfl,trivial⟩ (hq.mono (by decide))) (ae (aJ (i:=0) (l:=.b true) rfl (lb gq.comp.w) (hq.w.mono (by decide))) (ae (aJ (i:=1) (l:=.b true) rfl (lb gq.comp.x) (hq.x.mono (by decide))) (ae (aJ (i:=2) (l:=.b true) rfl (lb gq.comp.y) (hq.y.mono (by decide))) (ae (aJ (i:=3) (l:=.b true) rfl (lb gq.comp.z) (hq.z.mono (by decide))) (ae (aQ (i:=0) rfl (li (fh c0)) (hq.w.mono (by decide))) (ae (aQ (i:=1) rfl (lr (n:=15) rfl) (hq.x.mono (by decide))) (ae (cV (k:=4) rfl (by decide) (by decide)) (ae (bo (i:=1) (j:=4) rfl rfl (li ((bn gq.comp.x (aG 1)).2 (e1.symm.trans (fk gq)))) (hq.x.mono (by decide)) ((aL (u:=1) (by decide) (by decide)).mono (by decide))) ah)))))))))
    (af (gY (n:=15) (c:=0) (t:=3) rfl (iK c1)) (ai)) Tryz.func181 (by kernel_rfl) ⟨(ag (xs:=mZ q) (ks:=[0,1,2,3]) (vs:=q.cs) ⟨rfl,rfl,rfl,rfl,trivial⟩).2 iq,trivial⟩).mono ?_
   rintro e w' ⟨v,rfl,h1,h2⟩;exact⟨congrArg Ending.returned h1,h2⟩
 ·have e1:q.first=q.w:=by simp[Qq.first,c0]
  refine(cRn (ρ:=frs (m7 q)++([.val (.int .i64 q.w.sgn)]:List Vp)) (args:=[row [0,1,2,3]]) (vs:=[vq]) (r:=.v (.one (.b true)))
   (ae (bQ (kq:=[0,1,2,3]) (q:=q) (kr:=[0,1,2,3]) ⟨rfl,rfl,rfl,rfl,trivial⟩ ⟨rfl,rfl,rfl,rfl,trivial⟩ (hq.mono (by decide))) (ae (aJ (i:=0) (l:=.b true) rfl (lb gq.comp.w) (hq.w.mono (by decide))) (ae (aJ (i:=1) (l:=.b true) rfl (lb gq.comp.x) (hq.x.mono (by decide))) (ae (aJ (i:=2) (l:=.b true) rfl (lb gq.comp.y) (hq.y.mono (by decide))) (ae (aJ (i:=3) (l:=.b true) rfl (lb gq.comp.z) (hq.z.mono (by decide))) (ae (aQ (i:=0) rfl (lr (n:=15) rfl) (hq.w.mono (by decide))) (ae (cV (k:=4) rfl (by decide) (by decide)) (ae (bo (i:=0) (j:=4) rfl rfl (li ((bn gq.comp.w (aG 1)).2 (e1.symm.trans (fk gq)))) (hq.w.mono (by decide)) ((aL (u:=1) (by decide) (by decide)).mono (by decide))) ah))))))))
   (af (gY (n:=15) (c:=0) (t:=3) rfl (iK c0)) (ai)) Tryz.func181 (by kernel_rfl) ⟨(ag (xs:=m7 q) (ks:=[0,1,2,3]) (vs:=q.cs) ⟨rfl,rfl,rfl,rfl,trivial⟩).2 iq,trivial⟩).mono ?_
  rintro e w' ⟨v,rfl,h1,h2⟩;exact⟨congrArg Ending.returned h1,h2⟩
theorem wA {xs:List Fq} {ys:Rho} {kq:List Nat} {q:Qq} (aq:AtL xs kq q.cs) (hq:q.ok 1000000) (gq:q.good):OkI xs ys ⟨181,[row kq],.v (.one (.b true))⟩:=
 ⟨az Tryz.func181 rfl rfl,fun B w vs hB h=>by
  match vs,h with
  | [vq],h=>
   refine(o6 vq q w ((ag aq).1 h.1) hq gq).mono ?_;rintro e w' ⟨rfl,h2⟩;exact⟨_,rfl,rfl,h2⟩⟩
def o7 (q:Qq):List Fq:=q.cs
def m8 (q:Qq):List Fq:=(q.cs++([(Fq.ofInt 1)]))
def m9 (q:Qq):List Fq:=(q.cs++([(Fq.ofInt 1)]))
def na (q:Qq):List Fq:=(q.cs++([(Fq.ofInt 1)]))
def nf (q:Qq):List Fq:=(q.cs++([(Fq.ofInt 1)]))
theorem wB (vq:Value) (q:Qq) (w:World) (iq:fC w vq q) (hq:q.ok 1000000) (gc:q.comp) (hf:q.first≠(Fq.ofInt 1)):
  Calls Tryz.prog 181 #[vq] w fun e w'=>cI w (.bool false) e w':=by
 by_cases c0:q.w.p=0
 ·by_cases c1:q.x.p=0
  ·by_cases c2:q.y.p=0
   ·by_cases c3:q.z.p=0
    ·refine(cRn (ρ:=frs (o7 q)++ []) (args:=[row [0,1,2,3]]) (vs:=[vq]) (r:=.v (.one (.b false)))
      (ae (bQ (kq:=[0,1,2,3]) (q:=q) (kr:=[0,1,2,3]) ⟨rfl,rfl,rfl,rfl,trivial⟩ ⟨rfl,rfl,rfl,rfl,trivial⟩ (hq.mono (by decide))) (ae (aJ (i:=0) (l:=.b true) rfl (lb gc.w) (hq.w.mono (by decide))) (ae (aJ (i:=1) (l:=.b true) rfl (lb gc.x) (hq.x.mono (by decide))) (ae (aJ (i:=2) (l:=.b true) rfl (lb gc.y) (hq.y.mono (by decide))) (ae (aJ (i:=3) (l:=.b true) rfl (lb gc.z) (hq.z.mono (by decide))) (ae (aQ (i:=0) rfl (li (fh c0)) (hq.w.mono (by decide))) (ae (aQ (i:=1) rfl (li (fh c1)) (hq.x.mono (by decide))) (ae (aQ (i:=2) rfl (li (fh c2)) (hq.y.mono (by decide))) (ae (aQ (i:=3) rfl (li (fh c3)) (hq.z.mono (by decide))) ah)))))))))
      ai Tryz.func181 (by kernel_rfl) ⟨(ag (xs:=o7 q) (ks:=[0,1,2,3]) (vs:=q.cs) ⟨rfl,rfl,rfl,rfl,trivial⟩).2 iq,trivial⟩).mono ?_
     rintro e w' ⟨v,rfl,h1,h2⟩;exact⟨congrArg Ending.returned h1,h2⟩
    ·have e1:q.first=q.z:=by simp[Qq.first,c0,c1,c2,c3]
     refine(cRn (ρ:=frs (m8 q)++([.val (.int .i64 q.z.sgn),.val (.int .i64 (q.z.cmp (Fq.ofInt 1)))]:List Vp)) (args:=[row [0,1,2,3]]) (vs:=[vq]) (r:=.v (.one (.b false)))
      (ae (bQ (kq:=[0,1,2,3]) (q:=q) (kr:=[0,1,2,3]) ⟨rfl,rfl,rfl,rfl,trivial⟩ ⟨rfl,rfl,rfl,rfl,trivial⟩ (hq.mono (by decide))) (ae (aJ (i:=0) (l:=.b true) rfl (lb gc.w) (hq.w.mono (by decide))) (ae (aJ (i:=1) (l:=.b true) rfl (lb gc.x) (hq.x.mono (by decide))) (ae (aJ (i:=2) (l:=.b true) rfl (lb gc.y) (hq.y.mono (by decide))) (ae (aJ (i:=3) (l:=.b true) rfl (lb gc.z) (hq.z.mono (by decide))) (ae (aQ (i:=0) rfl (li (fh c0)) (hq.w.mono (by decide))) (ae (aQ (i:=1) rfl (li (fh c1)) (hq.x.mono (by decide))) (ae (aQ (i:=2) rfl (li (fh c2)) (hq.y.mono (by decide))) (ae (aQ (i:=3) rfl (lr (n:=15) rfl) (hq.z.mono (by decide))) (ae (cV (k:=4) rfl (by decide) (by decide)) (ae (bo (i:=3) (j:=4) rfl rfl (lr (n:=16) rfl) (hq.z.mono (by decide)) ((aL (u:=1) (by decide) (by decide)).mono (by decide))) ah)))))))))))
      (af (gY (n:=15) (c:=0) (t:=3) rfl (iK c3)) (af (iG (n:=16) (c:=0) (t:=3) rfl (iL (mt (bn gc.z (aG 1)).1 (fun h=>hf (e1.trans h))))) (ai))) Tryz.func181 (by kernel_rfl) ⟨(ag (xs:=m8 q) (ks:=[0,1,2,3]) (vs:=q.cs) ⟨rfl,rfl,rfl,rfl,trivial⟩).2 iq,trivial⟩).mono ?_
     rintro e w' ⟨v,rfl,h1,h2⟩;exact⟨congrArg Ending.returned h1,h2⟩
   ·have e1:q.first=q.y:=by simp[Qq.first,c0,c1,c2]
    refine(cRn (ρ:=frs (m9 q)++([.val (.int .i64 q.y.sgn),.val (.int .i64 (q.y.cmp (Fq.ofInt 1)))]:List Vp)) (args:=[row [0,1,2,3]]) (vs:=[vq]) (r:=.v (.one (.b false)))
     (ae (bQ (kq:=[0,1,2,3]) (q:=q) (kr:=[0,1,2,3]) ⟨rfl,rfl,rfl,rfl,trivial⟩ ⟨rfl,rfl,rfl,rfl,trivial⟩ (hq.mono (by decide))) (ae (aJ (i:=0) (l:=.b true) rfl (lb gc.w) (hq.w.mono (by decide))) (ae (aJ (i:=1) (l:=.b true) rfl (lb gc.x) (hq.x.mono (by decide))) (ae (aJ (i:=2) (l:=.b true) rfl (lb gc.y) (hq.y.mono (by decide))) (ae (aJ (i:=3) (l:=.b true) rfl (lb gc.z) (hq.z.mono (by decide))) (ae (aQ (i:=0) rfl (li (fh c0)) (hq.w.mono (by decide))) (ae (aQ (i:=1) rfl (li (fh c1)) (hq.x.mono (by decide))) (ae (aQ (i:=2) rfl (lr (n:=15) rfl) (hq.y.mono (by decide))) (ae (cV (k:=4) rfl (by decide) (by decide)) (ae (bo (i:=2) (j:=4) rfl rfl (lr (n:=16) rfl) (hq.y.mono (by decide)) ((aL (u:=1) (by decide) (by decide)).mono (by decide))) ah))))))))))
     (af (gY (n:=15) (c:=0) (t:=3) rfl (iK c2)) (af (iG (n:=16) (c:=0) (t:=3) rfl (iL (mt (bn gc.y (aG 1)).1 (fun h=>hf (e1.trans h))))) (ai))) Tryz.func181 (by kernel_rfl) ⟨(ag (xs:=m9 q) (ks:=[0,1,2,3]) (vs:=q.cs) ⟨rfl,rfl,rfl,rfl,trivial⟩).2 iq,trivial⟩).mono ?_
    rintro e w' ⟨v,rfl,h1,h2⟩;exact⟨congrArg Ending.returned h1,h2⟩
  ·have e1:q.first=q.x:=by simp[Qq.first,c0,c1]
   refine(cRn (ρ:=frs (na q)++([.val (.int .i64 q.x.sgn),.val (.int .i64 (q.x.cmp (Fq.ofInt 1)))]:List Vp)) (args:=[row [0,1,2,3]]) (vs:=[vq]) (r:=.v (.one (.b false)))
    (ae (bQ (kq:=[0,1,2,3]) (q:=q) (kr:=[0,1,2,3]) ⟨rfl,rfl,rfl,rfl,trivial⟩ ⟨rfl,rfl,rfl,rfl,trivial⟩ (hq.mono (by decide))) (ae (aJ (i:=0) (l:=.b true) rfl (lb gc.w) (hq.w.mono (by decide))) (ae (aJ (i:=1) (l:=.b true) rfl (lb gc.x) (hq.x.mono (by decide))) (ae (aJ (i:=2) (l:=.b true) rfl (lb gc.y) (hq.y.mono (by decide))) (ae (aJ (i:=3) (l:=.b true) rfl (lb gc.z) (hq.z.mono (by decide))) (ae (aQ (i:=0) rfl (li (fh c0)) (hq.w.mono (by decide))) (ae (aQ (i:=1) rfl (lr (n:=15) rfl) (hq.x.mono (by decide))) (ae (cV (k:=4) rfl (by decide) (by decide)) (ae (bo (i:=1) (j:=4) rfl rfl (lr (n:=16) rfl) (hq.x.mono (by decide)) ((aL (u:=1) (by decide) (by decide)).mono (by decide))) ah)))))))))
    (af (gY (n:=15) (c:=0) (t:=3) rfl (iK c1)) (af (iG (n:=16) (c:=0) (t:=3) rfl (iL (mt (bn gc.x (aG 1)).1 (fun h=>hf (e1.trans h))))) (ai))) Tryz.func181 (by kernel_rfl) ⟨(ag (xs:=na q) (ks:=[0,1,2,3]) (vs:=q.cs) ⟨rfl,rfl,rfl,rfl,trivial⟩).2 iq,trivial⟩).mono ?_
   rintro e w' ⟨v,rfl,h1,h2⟩;exact⟨congrArg Ending.returned h1,h2⟩
 ·have e1:q.first=q.w:=by simp[Qq.first,c0]
  refine(cRn (ρ:=frs (nf q)++([.val (.int .i64 q.w.sgn),.val (.int .i64 (q.w.cmp (Fq.ofInt 1)))]:List Vp)) (args:=[row [0,1,2,3]]) (vs:=[vq]) (r:=.v (.one (.b false)))
   (ae (bQ (kq:=[0,1,2,3]) (q:=q) (kr:=[0,1,2,3]) ⟨rfl,rfl,rfl,rfl,trivial⟩ ⟨rfl,rfl,rfl,rfl,trivial⟩ (hq.mono (by decide))) (ae (aJ (i:=0) (l:=.b true) rfl (lb gc.w) (hq.w.mono (by decide))) (ae (aJ (i:=1) (l:=.b true) rfl (lb gc.x) (hq.x.mono (by decide))) (ae (aJ (i:=2) (l:=.b true) rfl (lb gc.y) (hq.y.mono (by decide))) (ae (aJ (i:=3) (l:=.b true) rfl (lb gc.z) (hq.z.mono (by decide))) (ae (aQ (i:=0) rfl (lr (n:=15) rfl) (hq.w.mono (by decide))) (ae (cV (k:=4) rfl (by decide) (by decide)) (ae (bo (i:=0) (j:=4) rfl rfl (lr (n:=16) rfl) (hq.w.mono (by decide)) ((aL (u:=1) (by decide) (by decide)).mono (by decide))) ah))))))))
   (af (gY (n:=15) (c:=0) (t:=3) rfl (iK c0)) (af (iG (n:=16) (c:=0) (t:=3) rfl (iL (mt (bn gc.w (aG 1)).1 (fun h=>hf (e1.trans h))))) (ai))) Tryz.func181 (by kernel_rfl) ⟨(ag (xs:=nf q) (ks:=[0,1,2,3]) (vs:=q.cs) ⟨rfl,rfl,rfl,rfl,trivial⟩).2 iq,trivial⟩).mono ?_
  rintro e w' ⟨v,rfl,h1,h2⟩;exact⟨congrArg Ending.returned h1,h2⟩
structure Pq where
 rot:Qq
 pos:Vq
def Pq.cs (p:Pq):List Fq:=[p.rot.w,p.rot.x,p.rot.y,p.rot.z,p.pos.x,p.pos.y,p.pos.z]
structure Pq.ok (d:Nat) (p:Pq):Prop where
 rot:p.rot.ok d
 pos:p.pos.ok d
structure Pq.good (p:Pq):Prop where
 rot:p.rot.good
 pos:p.pos.good
def Pq.id:Pq:=⟨Qq.id,Vq.of 0 0 0⟩
def Pq.zero:Pq:=⟨Qq.zero,⟨.zero,.zero,.zero⟩⟩
def Pq.app (p:Pq) (v:Vq):Vq:=(p.rot.app v).add p.pos
def Pq.mul (a b:Pq):Pq:=⟨a.rot.mul b.rot,a.app b.pos⟩
def Pq.inv (a:Pq):Pq:=⟨a.rot.inv,a.rot.inv.app (a.pos.scale (Fq.ofInt (-1)))⟩
def Pq.sq (a:Pq) (u v:Vq):Fq:=((a.app u).sub (a.app v)).dot ((a.app u).sub (a.app v))
theorem Pq.ok.mono {p:Pq} {d e:Nat} (h:p.ok d) (k:d≤e):p.ok e:=⟨h.rot.mono k,h.pos.mono k⟩
theorem Pq.good.app {p:Pq} {v:Vq} (h:p.good) (k:v.good):(p.app v).good:=(ci h.rot k).add h.pos
theorem Pq.good.mul {a b:Pq} (h:a.good) (k:b.good):(a.mul b).good:=⟨fg h.rot k.rot,h.app k.pos⟩
theorem Pq.good.inv {a:Pq} (h:a.good):a.inv.good:=⟨aZ h.rot,ci (aZ h.rot) (h.pos.scale (aG _))⟩
theorem Pq.good.id:Pq.id.good:=⟨nN,Vq.good.of 0 0 0⟩
theorem Pq.ok.app {p:Pq} {v:Vq} {d e:Nat} (h:p.ok d) (k:v.ok e) (g:p.good):(p.app v).ok (700*(d+e)+300):=((h.rot.app k g.rot).add h.pos).mono (by omega)
theorem Pq.ok.mul {a b:Pq} {d e:Nat} (h:a.ok d) (k:b.ok e) (g:a.good) (l:b.good):(a.mul b).ok (700*(d+e)+300):=⟨(h.rot.mulg k.rot g.rot l.rot).mono (by omega),h.app k.pos g⟩
theorem Pq.ok.inv {a:Pq} {d:Nat} (h:a.ok d) (g:a.good):a.inv.ok (1000*d+3000):=⟨(h.rot.inv g.rot).mono (by omega),((h.rot.inv g.rot).app (h.pos.scale (aL (by decide) (by decide))) (aZ g.rot)).mono (by omega)⟩
theorem Pq.ok.id:Pq.id.ok 2:=⟨oX,oZ (by decide) (by decide) (by decide) (by decide) (by decide) (by decide)⟩
theorem Pq.ok.sq {p:Pq} {u v:Vq} {d e f:Nat} (h:p.ok d) (k:u.ok e) (l:v.ok f) (g:p.good):(p.sq u v).ok (60000*(d+e+f)+30000):=(((h.app k g).sub (h.app l g)).dot ((h.app k g).sub (h.app l g))).mono (by omega)
abbrev bw (w:World) (v:Value) (p:Pq):Prop:=IsL w v [p.rot.w.raw,p.rot.x.raw,p.rot.y.raw,p.rot.z.raw,p.pos.x.raw,p.pos.y.raw,p.pos.z.raw]
abbrev o8 (W:World) (p:Pq) (e:Ending) (w':World):Prop:=RetL W [p.rot.w.raw,p.rot.x.raw,p.rot.y.raw,p.rot.z.raw,p.pos.x.raw,p.pos.y.raw,p.pos.z.raw] e w'
abbrev RetOqE (W:World) (p:Pq) (c:Int) (e:Ending) (w':World):Prop:=RetLE W [p.rot.w.raw,p.rot.x.raw,p.rot.y.raw,p.rot.z.raw,p.pos.x.raw,p.pos.y.raw,p.pos.z.raw] c e w'
def mB (a:Vq) (b:Vq):List Fq:=[a.x,a.y,a.z,b.x,b.y,b.z]
theorem zM (va vb:Value) (a:Vq) (b:Vq) (w:World) (ia:cP w va a) (ib:cP w vb b) (ha:a.ok 100000000) (hb:b.ok 100000000) (e0:a=b) (ga:a.good) (gb:b.good):
  Calls Tryz.prog 27 #[va,vb] w fun e w'=>cI w (.bool true) e w':=by
 refine(cRn (ρ:=frs (mB a b)++ []) (args:=[row [0,1,2],row [3,4,5]]) (vs:=[va,vb]) (r:=.v (.one (.b true)))
  (ae (bo (i:=0) (j:=3) rfl rfl (li ((bn ga.x gb.x).2 (congrArg Vq.x e0))) (ha.x.mono (by decide)) (hb.x.mono (by decide))) (ae (bo (i:=1) (j:=4) rfl rfl (li ((bn ga.y gb.y).2 (congrArg Vq.y e0))) (ha.y.mono (by decide)) (hb.y.mono (by decide))) (ae (bo (i:=2) (j:=5) rfl rfl (li ((bn ga.z gb.z).2 (congrArg Vq.z e0))) (ha.z.mono (by decide)) (hb.z.mono (by decide))) ah)))
  ai Tryz.func27 (by kernel_rfl) ⟨(ag (xs:=mB a b) (ks:=[0,1,2]) (vs:=[a.x,a.y,a.z]) ⟨rfl,rfl,rfl,trivial⟩).2 ia,⟨(ag (xs:=mB a b) (ks:=[3,4,5]) (vs:=[b.x,b.y,b.z]) ⟨rfl,rfl,rfl,trivial⟩).2 ib,trivial⟩⟩).mono ?_
 rintro e w' ⟨v,rfl,h1,h2⟩;exact⟨congrArg Ending.returned h1,h2⟩
theorem q9 {xs:List Fq} {ys:Rho} {ka:List Nat} {kb:List Nat} {a:Vq} {b:Vq} (aa:AtL xs ka [a.x,a.y,a.z]) (ab:AtL xs kb [b.x,b.y,b.z]) (ha:a.ok 100000000) (hb:b.ok 100000000) (e0:a=b) (ga:a.good) (gb:b.good):OkI xs ys ⟨27,[row ka,row kb],.v (.one (.b true))⟩:=
 ⟨az Tryz.func27 rfl rfl,fun B w vs hB h=>by
  match vs,h with
  | [va,vb],h=>
   refine(zM va vb a b w ((ag aa).1 h.1) ((ag ab).1 h.2.1) ha hb e0 ga gb).mono ?_;rintro e w' ⟨rfl,h2⟩;exact⟨_,rfl,rfl,h2⟩⟩
def mC (a:Vq) (b:Vq):List Fq:=[a.x,a.y,a.z,b.x,b.y,b.z]
def jW (a:Vq) (b:Vq):List Fq:=[a.x,a.y,a.z,b.x,b.y,b.z]
def jX (a:Vq) (b:Vq):List Fq:=[a.x,a.y,a.z,b.x,b.y,b.z]
theorem zN (va vb:Value) (a:Vq) (b:Vq) (w:World) (ia:cP w va a) (ib:cP w vb b) (ha:a.ok 100000000) (hb:b.ok 100000000) (e0:a≠b) (ga:a.good) (gb:b.good):
  Calls Tryz.prog 27 #[va,vb] w fun e w'=>cI w (.bool false) e w':=by
 by_cases c0:a.x=b.x
 ·by_cases c1:a.y=b.y
  ·by_cases c2:a.z=b.z
   ·exact absurd (by cases a;cases b;simp only at c0 c1 c2;subst c0 c1 c2;rfl) e0
   ·refine(cRn (ρ:=frs (mC a b)++([.val (.int .i64 (a.z.cmp b.z))]:List Vp)) (args:=[row [0,1,2],row [3,4,5]]) (vs:=[va,vb]) (r:=.v (.one (.b false)))
     (ae (bo (i:=0) (j:=3) rfl rfl (li ((bn ga.x gb.x).2 c0)) (ha.x.mono (by decide)) (hb.x.mono (by decide))) (ae (bo (i:=1) (j:=4) rfl rfl (li ((bn ga.y gb.y).2 c1)) (ha.y.mono (by decide)) (hb.y.mono (by decide))) (ae (bo (i:=2) (j:=5) rfl rfl (lr (n:=18) rfl) (ha.z.mono (by decide)) (hb.z.mono (by decide))) ah)))
     (af (sf (n:=18) (c:=0) (u:=(a.z.cmp b.z)) (b:=false) (t:=3) rfl (iL (mt (bn ga.z gb.z).1 c2))) (ai)) Tryz.func27 (by kernel_rfl) ⟨(ag (xs:=mC a b) (ks:=[0,1,2]) (vs:=[a.x,a.y,a.z]) ⟨rfl,rfl,rfl,trivial⟩).2 ia,⟨(ag (xs:=mC a b) (ks:=[3,4,5]) (vs:=[b.x,b.y,b.z]) ⟨rfl,rfl,rfl,trivial⟩).2 ib,trivial⟩⟩).mono ?_
    rintro e w' ⟨v,rfl,h1,h2⟩;exact⟨congrArg Ending.returned h1,h2⟩
  ·refine(cRn (ρ:=frs (jW a b)++([.val (.int .i64 (a.y.cmp b.y))]:List Vp)) (args:=[row [0,1,2],row [3,4,5]]) (vs:=[va,vb]) (r:=.v (.one (.b false)))
    (ae (bo (i:=0) (j:=3) rfl rfl (li ((bn ga.x gb.x).2 c0)) (ha.x.mono (by decide)) (hb.x.mono (by decide))) (ae (bo (i:=1) (j:=4) rfl rfl (lr (n:=18) rfl) (ha.y.mono (by decide)) (hb.y.mono (by decide))) ah))
    (af (sf (n:=18) (c:=0) (u:=(a.y.cmp b.y)) (b:=false) (t:=3) rfl (iL (mt (bn ga.y gb.y).1 c1))) (ai)) Tryz.func27 (by kernel_rfl) ⟨(ag (xs:=jW a b) (ks:=[0,1,2]) (vs:=[a.x,a.y,a.z]) ⟨rfl,rfl,rfl,trivial⟩).2 ia,⟨(ag (xs:=jW a b) (ks:=[3,4,5]) (vs:=[b.x,b.y,b.z]) ⟨rfl,rfl,rfl,trivial⟩).2 ib,trivial⟩⟩).mono ?_
   rintro e w' ⟨v,rfl,h1,h2⟩;exact⟨congrArg Ending.returned h1,h2⟩
 ·refine(cRn (ρ:=frs (jX a b)++([.val (.int .i64 (a.x.cmp b.x))]:List Vp)) (args:=[row [0,1,2],row [3,4,5]]) (vs:=[va,vb]) (r:=.v (.one (.b false)))
   (ae (bo (i:=0) (j:=3) rfl rfl (lr (n:=18) rfl) (ha.x.mono (by decide)) (hb.x.mono (by decide))) ah)
   (af (sf (n:=18) (c:=0) (u:=(a.x.cmp b.x)) (b:=false) (t:=3) rfl (iL (mt (bn ga.x gb.x).1 c0))) (ai)) Tryz.func27 (by kernel_rfl) ⟨(ag (xs:=jX a b) (ks:=[0,1,2]) (vs:=[a.x,a.y,a.z]) ⟨rfl,rfl,rfl,trivial⟩).2 ia,⟨(ag (xs:=jX a b) (ks:=[3,4,5]) (vs:=[b.x,b.y,b.z]) ⟨rfl,rfl,rfl,trivial⟩).2 ib,trivial⟩⟩).mono ?_
  rintro e w' ⟨v,rfl,h1,h2⟩;exact⟨congrArg Ending.returned h1,h2⟩
theorem zO {xs:List Fq} {ys:Rho} {ka:List Nat} {kb:List Nat} {a:Vq} {b:Vq} (aa:AtL xs ka [a.x,a.y,a.z]) (ab:AtL xs kb [b.x,b.y,b.z]) (ha:a.ok 100000000) (hb:b.ok 100000000) (e0:a≠b) (ga:a.good) (gb:b.good):OkI xs ys ⟨27,[row ka,row kb],.v (.one (.b false))⟩:=
 ⟨az Tryz.func27 rfl rfl,fun B w vs hB h=>by
  match vs,h with
  | [va,vb],h=>
   refine(zN va vb a b w ((ag aa).1 h.1) ((ag ab).1 h.2.1) ha hb e0 ga gb).mono ?_;rintro e w' ⟨rfl,h2⟩;exact⟨_,rfl,rfl,h2⟩⟩
def lD (a:Vq) (b:Vq) (k:Fq):List Fq:=[a.x,a.y,a.z,b.x,b.y,b.z,k,(b.sub a).x,(b.sub a).y,(b.sub a).z,((b.sub a).scale k).x,((b.sub a).scale k).y,((b.sub a).scale k).z,(a.add ((b.sub a).scale k)).x,(a.add ((b.sub a).scale k)).y,(a.add ((b.sub a).scale k)).z]
theorem q_vLerp (va vb vk:Value) (a:Vq) (b:Vq) (k:Fq) (w:World) (ia:cP w va a) (ib:cP w vb b) (ik:IsQ w vk k) (ha:a.ok 10000000) (hb:b.ok 10000000) (hk:k.ok 10000000):
  Calls Tryz.prog 217 #[va,vb,vk] w fun e w'=>fj w (a.lerp b k) e w':=by
 refine(cRn (ρ:=frs (lD a b k)++ []) (args:=[row [0,1,2],row [3,4,5],fr 6]) (vs:=[va,vb,vk]) (r:=.v (row [13,14,15]))
  (ae (wy (ka:=[3,4,5]) (a:=b) (kb:=[0,1,2]) (b:=a) (kr:=[7,8,9]) ⟨rfl,rfl,rfl,trivial⟩ ⟨rfl,rfl,rfl,trivial⟩ ⟨rfl,rfl,rfl,trivial⟩ (hb.mono (by decide)) (ha.mono (by decide))) (ae (dm (ka:=[7,8,9]) (a:=(b.sub a)) (ik:=6) (kr:=[10,11,12]) ⟨rfl,rfl,rfl,trivial⟩ rfl ⟨rfl,rfl,rfl,trivial⟩ ((hb.sub ha).mono (by decide)) (hk.mono (by decide))) (ae (my (ka:=[0,1,2]) (a:=a) (kb:=[10,11,12]) (b:=((b.sub a).scale k)) (kr:=[13,14,15]) ⟨rfl,rfl,rfl,trivial⟩ ⟨rfl,rfl,rfl,trivial⟩ ⟨rfl,rfl,rfl,trivial⟩ (ha.mono (by decide)) (((hb.sub ha).scale hk).mono (by decide))) ah)))
  ai Tryz.func217 (by kernel_rfl) ⟨(ag (xs:=lD a b k) (ks:=[0,1,2]) (vs:=[a.x,a.y,a.z]) ⟨rfl,rfl,rfl,trivial⟩).2 ia,⟨(ag (xs:=lD a b k) (ks:=[3,4,5]) (vs:=[b.x,b.y,b.z]) ⟨rfl,rfl,rfl,trivial⟩).2 ib,⟨(aI (xs:=lD a b k) (k:=6) rfl).2 ik,trivial⟩⟩⟩).mono ?_
 rintro e w' ⟨v,rfl,h1,h2⟩;exact⟨v,rfl,(ag (xs:=lD a b k) (ks:=[13,14,15]) (vs:=[(a.add ((b.sub a).scale k)).x,(a.add ((b.sub a).scale k)).y,(a.add ((b.sub a).scale k)).z]) ⟨rfl,rfl,rfl,trivial⟩).1 h1,h2⟩
theorem I_vLerp {xs:List Fq} {ys:Rho} {ka:List Nat} {kb:List Nat} {ik:Nat} {a:Vq} {b:Vq} {k:Fq} {kr:List Nat} (aa:AtL xs ka [a.x,a.y,a.z]) (ab:AtL xs kb [b.x,b.y,b.z]) (ak:xs[ik]? =some k) (ar:AtL xs kr [(a.lerp b k).x,(a.lerp b k).y,(a.lerp b k).z]) (ha:a.ok 10000000) (hb:b.ok 10000000) (hk:k.ok 10000000):OkI xs ys ⟨217,[row ka,row kb,fr ik],.v (row kr)⟩:=
 ⟨az Tryz.func217 rfl rfl,fun B w vs hB h=>by
  match vs,h with
  | [va,vb,vk],h=>
   refine(q_vLerp va vb vk a b k w ((ag aa).1 h.1) ((ag ab).1 h.2.1) ((aI ak).1 h.2.2.1) ha hb hk).mono ?_;rintro e w' ⟨v,rfl,h1,h2⟩;exact⟨v,rfl,(ag ar).2 h1,h2⟩⟩
def uv (a:Vq):List Fq:=[a.x,a.y,a.z]
theorem q_vValid (va:Value) (a:Vq) (w:World) (ia:cP w va a) (ha:a.ok 1000000) (ga:a.good):
  Calls Tryz.prog 182 #[va] w fun e w'=>cI w (.bool true) e w':=by
 refine(cRn (ρ:=frs (uv a)++ []) (args:=[row [0,1,2]]) (vs:=[va]) (r:=.v (.one (.b true)))
  (ae (aJ (i:=0) (l:=.b true) rfl (lb ga.x) (ha.x.mono (by decide))) (ae (aJ (i:=1) (l:=.b true) rfl (lb ga.y) (ha.y.mono (by decide))) (ae (aJ (i:=2) (l:=.b true) rfl (lb ga.z) (ha.z.mono (by decide))) ah)))
  ai Tryz.func182 (by kernel_rfl) ⟨(ag (xs:=uv a) (ks:=[0,1,2]) (vs:=[a.x,a.y,a.z]) ⟨rfl,rfl,rfl,trivial⟩).2 ia,trivial⟩).mono ?_
 rintro e w' ⟨v,rfl,h1,h2⟩;exact⟨congrArg Ending.returned h1,h2⟩
theorem I_vValid {xs:List Fq} {ys:Rho} {ka:List Nat} {a:Vq} (aa:AtL xs ka [a.x,a.y,a.z]) (ha:a.ok 1000000) (ga:a.good):OkI xs ys ⟨182,[row ka],.v (.one (.b true))⟩:=
 ⟨az Tryz.func182 rfl rfl,fun B w vs hB h=>by
  match vs,h with
  | [va],h=>
   refine(q_vValid va a w ((ag aa).1 h.1) ha ga).mono ?_;rintro e w' ⟨rfl,h2⟩;exact⟨_,rfl,rfl,h2⟩⟩
def re:List Fq:=[(Fq.ofInt 0)]
theorem zP (w:World):
  Calls Tryz.prog 23 #[.int .i64 (0),.int .i64 (0),.int .i64 (0)] w fun e w'=>fj w (Vq.of 0 0 0) e w':=by
 refine(cRn (ρ:=frs (re)++ []) (args:=[.one (.i .i64 0),.one (.i .i64 0),.one (.i .i64 0)]) (vs:=[.int .i64 (0),.int .i64 (0),.int .i64 (0)]) (r:=.v (row [0,0,0]))
  (ae (cV (k:=0) rfl (by decide) (by decide)) ah)
  ai Tryz.func23 (by kernel_rfl) ⟨rfl,⟨rfl,⟨rfl,trivial⟩⟩⟩).mono ?_
 rintro e w' ⟨v,rfl,h1,h2⟩;exact⟨v,rfl,(ag (xs:=re) (ks:=[0,0,0]) (vs:=[(Fq.ofInt 0),(Fq.ofInt 0),(Fq.ofInt 0)]) ⟨rfl,rfl,rfl,trivial⟩).1 h1,h2⟩
theorem zQ {xs:List Fq} {ys:Rho} {kr:List Nat} (ar:AtL xs kr [(Vq.of 0 0 0).x,(Vq.of 0 0 0).y,(Vq.of 0 0 0).z]):OkI xs ys ⟨23,[.one (.i .i64 0),.one (.i .i64 0),.one (.i .i64 0)],.v (row kr)⟩:=
 ⟨az Tryz.func23 rfl rfl,fun B w vs hB h=>by
  match vs,h with
  | [vx,vy,vz],h=>
   have ex:vx= .int .i64 (0):=h.1;subst ex;have ey:vy= .int .i64 (0):=h.2.1;subst ey;have ez:vz= .int .i64 (0):=h.2.2.1;subst ez;refine(zP w).mono ?_;rintro e w' ⟨v,rfl,h1,h2⟩;exact⟨v,rfl,(ag ar).2 h1,h2⟩⟩
def wC (a:Pq):List Fq:=a.cs
theorem q_poOf (va:Value) (a:Pq) (w:World) (ia:bw w va a) (ha:a.ok 1000000000):
  Calls Tryz.prog 76 #[va] w fun e w'=>o8 w a e w':=by
 refine(cRn (ρ:=frs (wC a)++ []) (args:=[row [0,1,2,3,4,5,6]]) (vs:=[va]) (r:=.v (row [0,1,2,3,4,5,6]))
  (ah)
  ai Tryz.func76 (by kernel_rfl) ⟨(ag (xs:=wC a) (ks:=[0,1,2,3,4,5,6]) (vs:=a.cs) ⟨rfl,rfl,rfl,rfl,rfl,rfl,rfl,trivial⟩).2 ia,trivial⟩).mono ?_
 rintro e w' ⟨v,rfl,h1,h2⟩;exact⟨v,rfl,(ag (xs:=wC a) (ks:=[0,1,2,3,4,5,6]) (vs:=a.cs) ⟨rfl,rfl,rfl,rfl,rfl,rfl,rfl,trivial⟩).1 h1,h2⟩
theorem wD {xs:List Fq} {ys:Rho} {ka:List Nat} {a:Pq} {kr:List Nat} (aa:AtL xs ka a.cs) (ar:AtL xs kr a.cs) (ha:a.ok 1000000000):OkI xs ys ⟨76,[row ka],.v (row kr)⟩:=
 ⟨az Tryz.func76 rfl rfl,fun B w vs hB h=>by
  match vs,h with
  | [va],h=>
   refine(q_poOf va a w ((ag aa).1 h.1) ha).mono ?_;rintro e w' ⟨v,rfl,h1,h2⟩;exact⟨v,rfl,(ag ar).2 h1,h2⟩⟩
def o9 (a:Pq):List Fq:=a.cs
theorem q_poPose (va:Value) (a:Pq) (w:World) (ia:bw w va a) (ha:a.ok 1000000000):
  Calls Tryz.prog 78 #[va] w fun e w'=>o8 w a e w':=by
 refine(cRn (ρ:=frs (o9 a)++ []) (args:=[row [0,1,2,3,4,5,6]]) (vs:=[va]) (r:=.v (row [0,1,2,3,4,5,6]))
  (ah)
  ai Tryz.func78 (by kernel_rfl) ⟨(ag (xs:=o9 a) (ks:=[0,1,2,3,4,5,6]) (vs:=a.cs) ⟨rfl,rfl,rfl,rfl,rfl,rfl,rfl,trivial⟩).2 ia,trivial⟩).mono ?_
 rintro e w' ⟨v,rfl,h1,h2⟩;exact⟨v,rfl,(ag (xs:=o9 a) (ks:=[0,1,2,3,4,5,6]) (vs:=a.cs) ⟨rfl,rfl,rfl,rfl,rfl,rfl,rfl,trivial⟩).1 h1,h2⟩
theorem lE {xs:List Fq} {ys:Rho} {ka:List Nat} {a:Pq} {kr:List Nat} (aa:AtL xs ka a.cs) (ar:AtL xs kr a.cs) (ha:a.ok 1000000000):OkI xs ys ⟨78,[row ka],.v (row kr)⟩:=
 ⟨az Tryz.func78 rfl rfl,fun B w vs hB h=>by
  match vs,h with
  | [va],h=>
   refine(q_poPose va a w ((ag aa).1 h.1) ha).mono ?_;rintro e w' ⟨v,rfl,h1,h2⟩;exact⟨v,rfl,(ag ar).2 h1,h2⟩⟩
def nS (q:Qq) (a:Vq):List Fq:=(q.cs++([a.x,a.y,a.z,(q.app a).x,(q.app a).y,(q.app a).z]))
theorem q_poRot (vq va:Value) (q:Qq) (a:Vq) (w:World) (iq:fC w vq q) (ia:cP w va a) (hq:q.ok 300000) (ha:a.ok 300000) (gq:q.good):
  Calls Tryz.prog 117 #[vq,va] w fun e w'=>fj w (q.app a) e w':=by
 refine(cRn (ρ:=frs (nS q a)++ []) (args:=[row [0,1,2,3],row [4,5,6]]) (vs:=[vq,va]) (r:=.v (row [7,8,9]))
  (ae (I_fApp (kq:=[0,1,2,3]) (q:=q) (ka:=[4,5,6]) (a:=a) (kr:=[7,8,9]) ⟨rfl,rfl,rfl,rfl,trivial⟩ ⟨rfl,rfl,rfl,trivial⟩ ⟨rfl,rfl,rfl,trivial⟩ (hq.mono (by decide)) (ha.mono (by decide)) gq) ah)
  ai Tryz.func117 (by kernel_rfl) ⟨(ag (xs:=nS q a) (ks:=[0,1,2,3]) (vs:=q.cs) ⟨rfl,rfl,rfl,rfl,trivial⟩).2 iq,⟨(ag (xs:=nS q a) (ks:=[4,5,6]) (vs:=[a.x,a.y,a.z]) ⟨rfl,rfl,rfl,trivial⟩).2 ia,trivial⟩⟩).mono ?_
 rintro e w' ⟨v,rfl,h1,h2⟩;exact⟨v,rfl,(ag (xs:=nS q a) (ks:=[7,8,9]) (vs:=[(q.app a).x,(q.app a).y,(q.app a).z]) ⟨rfl,rfl,rfl,trivial⟩).1 h1,h2⟩
theorem yp {xs:List Fq} {ys:Rho} {kq:List Nat} {ka:List Nat} {q:Qq} {a:Vq} {kr:List Nat} (aq:AtL xs kq q.cs) (aa:AtL xs ka [a.x,a.y,a.z]) (ar:AtL xs kr [(q.app a).x,(q.app a).y,(q.app a).z]) (hq:q.ok 300000) (ha:a.ok 300000) (gq:q.good):OkI xs ys ⟨117,[row kq,row ka],.v (row kr)⟩:=
 ⟨az Tryz.func117 rfl rfl,fun B w vs hB h=>by
  match vs,h with
  | [vq,va],h=>
   refine(q_poRot vq va q a w ((ag aq).1 h.1) ((ag aa).1 h.2.1) hq ha gq).mono ?_;rintro e w' ⟨v,rfl,h1,h2⟩;exact⟨v,rfl,(ag ar).2 h1,h2⟩⟩
def pa (q:Qq):List Fq:=(q.cs++(q.inv.cs))
theorem q_poBack (vq:Value) (q:Qq) (w:World) (iq:fC w vq q) (hq:q.ok 100000) (gq:q.good):
  Calls Tryz.prog 116 #[vq] w fun e w'=>oV w q.inv e w':=by
 refine(cRn (ρ:=frs (pa q)++ []) (args:=[row [0,1,2,3]]) (vs:=[vq]) (r:=.v (row [4,5,6,7]))
  (ae (sE (kq:=[0,1,2,3]) (q:=q) (kr:=[4,5,6,7]) ⟨rfl,rfl,rfl,rfl,trivial⟩ ⟨rfl,rfl,rfl,rfl,trivial⟩ (hq.mono (by decide)) gq) ah)
  ai Tryz.func116 (by kernel_rfl) ⟨(ag (xs:=pa q) (ks:=[0,1,2,3]) (vs:=q.cs) ⟨rfl,rfl,rfl,rfl,trivial⟩).2 iq,trivial⟩).mono ?_
 rintro e w' ⟨v,rfl,h1,h2⟩;exact⟨v,rfl,(ag (xs:=pa q) (ks:=[4,5,6,7]) (vs:=q.inv.cs) ⟨rfl,rfl,rfl,rfl,trivial⟩).1 h1,h2⟩
theorem I_poBack {xs:List Fq} {ys:Rho} {kq:List Nat} {q:Qq} {kr:List Nat} (aq:AtL xs kq q.cs) (ar:AtL xs kr q.inv.cs) (hq:q.ok 100000) (gq:q.good):OkI xs ys ⟨116,[row kq],.v (row kr)⟩:=
 ⟨az Tryz.func116 rfl rfl,fun B w vs hB h=>by
  match vs,h with
  | [vq],h=>
   refine(q_poBack vq q w ((ag aq).1 h.1) hq gq).mono ?_;rintro e w' ⟨v,rfl,h1,h2⟩;exact⟨v,rfl,(ag ar).2 h1,h2⟩⟩
def nT (a:Pq) (x:Vq):List Fq:=(a.cs++([x.x,x.y,x.z,(a.rot.app x).x,(a.rot.app x).y,(a.rot.app x).z,((a.rot.app x).add a.pos).x,((a.rot.app x).add a.pos).y,((a.rot.app x).add a.pos).z]))
theorem q_poImg (va vx:Value) (a:Pq) (x:Vq) (w:World) (ia:bw w va a) (ix:cP w vx x) (ha:a.ok 100000) (hx:x.ok 100000) (ga:a.good) (gx:x.good):
  Calls Tryz.prog 77 #[va,vx] w fun e w'=>fj w (a.app x) e w':=by
 refine(cRn (ρ:=frs (nT a x)++ []) (args:=[row [0,1,2,3,4,5,6],row [7,8,9]]) (vs:=[va,vx]) (r:=.v (row [13,14,15]))
  (ae (yp (kq:=[0,1,2,3]) (q:=a.rot) (ka:=[7,8,9]) (a:=x) (kr:=[10,11,12]) ⟨rfl,rfl,rfl,rfl,trivial⟩ ⟨rfl,rfl,rfl,trivial⟩ ⟨rfl,rfl,rfl,trivial⟩ (ha.rot.mono (by decide)) (hx.mono (by decide)) ga.rot) (ae (my (ka:=[10,11,12]) (a:=(a.rot.app x)) (kb:=[4,5,6]) (b:=a.pos) (kr:=[13,14,15]) ⟨rfl,rfl,rfl,trivial⟩ ⟨rfl,rfl,rfl,trivial⟩ ⟨rfl,rfl,rfl,trivial⟩ ((ha.rot.app hx ga.rot).mono (by decide)) (ha.pos.mono (by decide))) ah))
  ai Tryz.func77 (by kernel_rfl) ⟨(ag (xs:=nT a x) (ks:=[0,1,2,3,4,5,6]) (vs:=a.cs) ⟨rfl,rfl,rfl,rfl,rfl,rfl,rfl,trivial⟩).2 ia,⟨(ag (xs:=nT a x) (ks:=[7,8,9]) (vs:=[x.x,x.y,x.z]) ⟨rfl,rfl,rfl,trivial⟩).2 ix,trivial⟩⟩).mono ?_
 rintro e w' ⟨v,rfl,h1,h2⟩;exact⟨v,rfl,(ag (xs:=nT a x) (ks:=[13,14,15]) (vs:=[((a.rot.app x).add a.pos).x,((a.rot.app x).add a.pos).y,((a.rot.app x).add a.pos).z]) ⟨rfl,rfl,rfl,trivial⟩).1 h1,h2⟩
theorem yq {xs:List Fq} {ys:Rho} {ka:List Nat} {kx:List Nat} {a:Pq} {x:Vq} {kr:List Nat} (aa:AtL xs ka a.cs) (ax:AtL xs kx [x.x,x.y,x.z]) (ar:AtL xs kr [(a.app x).x,(a.app x).y,(a.app x).z]) (ha:a.ok 100000) (hx:x.ok 100000) (ga:a.good) (gx:x.good):OkI xs ys ⟨77,[row ka,row kx],.v (row kr)⟩:=
 ⟨az Tryz.func77 rfl rfl,fun B w vs hB h=>by
  match vs,h with
  | [va,vx],h=>
   refine(q_poImg va vx a x w ((ag aa).1 h.1) ((ag ax).1 h.2.1) ha hx ga gx).mono ?_;rintro e w' ⟨v,rfl,h1,h2⟩;exact⟨v,rfl,(ag ar).2 h1,h2⟩⟩
def nU (a:Pq) (x:Vq):List Fq:=(a.cs++([x.x,x.y,x.z,(a.app x).x,(a.app x).y,(a.app x).z]))
theorem q_poApp (va vx:Value) (a:Pq) (x:Vq) (w:World) (ia:bw w va a) (ix:cP w vx x) (ha:a.ok 100000) (hx:x.ok 100000) (ga:a.good) (gx:x.good):
  Calls Tryz.prog 26 #[va,vx] w fun e w'=>fj w (a.app x) e w':=by
 refine(cRn (ρ:=frs (nU a x)++ []) (args:=[row [0,1,2,3,4,5,6],row [7,8,9]]) (vs:=[va,vx]) (r:=.v (row [10,11,12]))
  (ae (wD (ka:=[0,1,2,3,4,5,6]) (a:=a) (kr:=[0,1,2,3,4,5,6]) ⟨rfl,rfl,rfl,rfl,rfl,rfl,rfl,trivial⟩ ⟨rfl,rfl,rfl,rfl,rfl,rfl,rfl,trivial⟩ (ha.mono (by decide))) (ae (yq (ka:=[0,1,2,3,4,5,6]) (a:=a) (kx:=[7,8,9]) (x:=x) (kr:=[10,11,12]) ⟨rfl,rfl,rfl,rfl,rfl,rfl,rfl,trivial⟩ ⟨rfl,rfl,rfl,trivial⟩ ⟨rfl,rfl,rfl,trivial⟩ (ha.mono (by decide)) (hx.mono (by decide)) ga gx) ah))
  ai Tryz.func26 (by kernel_rfl) ⟨(ag (xs:=nU a x) (ks:=[0,1,2,3,4,5,6]) (vs:=a.cs) ⟨rfl,rfl,rfl,rfl,rfl,rfl,rfl,trivial⟩).2 ia,⟨(ag (xs:=nU a x) (ks:=[7,8,9]) (vs:=[x.x,x.y,x.z]) ⟨rfl,rfl,rfl,trivial⟩).2 ix,trivial⟩⟩).mono ?_
 rintro e w' ⟨v,rfl,h1,h2⟩;exact⟨v,rfl,(ag (xs:=nU a x) (ks:=[10,11,12]) (vs:=[(a.app x).x,(a.app x).y,(a.app x).z]) ⟨rfl,rfl,rfl,trivial⟩).1 h1,h2⟩
theorem sH {xs:List Fq} {ys:Rho} {ka:List Nat} {kx:List Nat} {a:Pq} {x:Vq} {kr:List Nat} (aa:AtL xs ka a.cs) (ax:AtL xs kx [x.x,x.y,x.z]) (ar:AtL xs kr [(a.app x).x,(a.app x).y,(a.app x).z]) (ha:a.ok 100000) (hx:x.ok 100000) (ga:a.good) (gx:x.good):OkI xs ys ⟨26,[row ka,row kx],.v (row kr)⟩:=
 ⟨az Tryz.func26 rfl rfl,fun B w vs hB h=>by
  match vs,h with
  | [va,vx],h=>
   refine(q_poApp va vx a x w ((ag aa).1 h.1) ((ag ax).1 h.2.1) ha hx ga gx).mono ?_;rintro e w' ⟨v,rfl,h1,h2⟩;exact⟨v,rfl,(ag ar).2 h1,h2⟩⟩
def nV (a:Pq) (b:Pq):List Fq:=(a.cs++(b.cs++((a.rot.mul b.rot).cs++([(a.app b.pos).x,(a.app b.pos).y,(a.app b.pos).z]))))
theorem yr (va vb:Value) (a:Pq) (b:Pq) (w:World) (ia:bw w va a) (ib:bw w vb b) (ha:a.ok 100000) (hb:b.ok 100000) (ga:a.good) (gb:b.good):
  Calls Tryz.prog 21 #[va,vb] w fun e w'=>o8 w (a.mul b) e w':=by
 refine(cRn (ρ:=frs (nV a b)++ []) (args:=[row [0,1,2,3,4,5,6],row [7,8,9,10,11,12,13]]) (vs:=[va,vb]) (r:=.v (row [14,15,16,17,18,19,20]))
  (ae (nQ (kp:=[0,1,2,3]) (p:=a.rot) (kq:=[7,8,9,10]) (q:=b.rot) (kr:=[14,15,16,17]) ⟨rfl,rfl,rfl,rfl,trivial⟩ ⟨rfl,rfl,rfl,rfl,trivial⟩ ⟨rfl,rfl,rfl,rfl,trivial⟩ (ha.rot.mono (by decide)) (hb.rot.mono (by decide)) ga.rot gb.rot) (ae (wD (ka:=[0,1,2,3,4,5,6]) (a:=a) (kr:=[0,1,2,3,4,5,6]) ⟨rfl,rfl,rfl,rfl,rfl,rfl,rfl,trivial⟩ ⟨rfl,rfl,rfl,rfl,rfl,rfl,rfl,trivial⟩ (ha.mono (by decide))) (ae (yq (ka:=[0,1,2,3,4,5,6]) (a:=a) (kx:=[11,12,13]) (x:=b.pos) (kr:=[18,19,20]) ⟨rfl,rfl,rfl,rfl,rfl,rfl,rfl,trivial⟩ ⟨rfl,rfl,rfl,trivial⟩ ⟨rfl,rfl,rfl,trivial⟩ (ha.mono (by decide)) (hb.pos.mono (by decide)) ga gb.pos) (ae (lE (ka:=[14,15,16,17,18,19,20]) (a:=(Pq.mk (a.rot.mul b.rot) (a.app b.pos))) (kr:=[14,15,16,17,18,19,20]) ⟨rfl,rfl,rfl,rfl,rfl,rfl,rfl,trivial⟩ ⟨rfl,rfl,rfl,rfl,rfl,rfl,rfl,trivial⟩ (⟨⟨(ha.rot.mulg hb.rot ga.rot gb.rot).w.mono (by decide),(ha.rot.mulg hb.rot ga.rot gb.rot).x.mono (by decide),(ha.rot.mulg hb.rot ga.rot gb.rot).y.mono (by decide),(ha.rot.mulg hb.rot ga.rot gb.rot).z.mono (by decide)⟩,⟨(ha.app hb.pos ga).x.mono (by decide),(ha.app hb.pos ga).y.mono (by decide),(ha.app hb.pos ga).z.mono (by decide)⟩⟩:Pq.ok 1000000000 (Pq.mk (a.rot.mul b.rot) (a.app b.pos)))) ah))))
  ai Tryz.func21 (by kernel_rfl) ⟨(ag (xs:=nV a b) (ks:=[0,1,2,3,4,5,6]) (vs:=a.cs) ⟨rfl,rfl,rfl,rfl,rfl,rfl,rfl,trivial⟩).2 ia,⟨(ag (xs:=nV a b) (ks:=[7,8,9,10,11,12,13]) (vs:=b.cs) ⟨rfl,rfl,rfl,rfl,rfl,rfl,rfl,trivial⟩).2 ib,trivial⟩⟩).mono ?_
 rintro e w' ⟨v,rfl,h1,h2⟩;exact⟨v,rfl,(ag (xs:=nV a b) (ks:=[14,15,16,17,18,19,20]) (vs:=((a.rot.mul b.rot).cs++([(a.app b.pos).x,(a.app b.pos).y,(a.app b.pos).z]))) ⟨rfl,rfl,rfl,rfl,rfl,rfl,rfl,trivial⟩).1 h1,h2⟩
def sI (a:Pq):List Fq:=(a.cs++(a.rot.inv.cs++([(Fq.ofInt (-1)),(a.pos.scale (Fq.ofInt (-1))).x,(a.pos.scale (Fq.ofInt (-1))).y,(a.pos.scale (Fq.ofInt (-1))).z,(a.rot.inv.app (a.pos.scale (Fq.ofInt (-1)))).x,(a.rot.inv.app (a.pos.scale (Fq.ofInt (-1)))).y,(a.rot.inv.app (a.pos.scale (Fq.ofInt (-1)))).z])))
theorem q_poInv (va:Value) (a:Pq) (w:World) (ia:bw w va a) (ha:a.ok 100000) (ga:a.good):
  Calls Tryz.prog 56 #[va] w fun e w'=>o8 w a.inv e w':=by
 refine(cRn (ρ:=frs (sI a)++ []) (args:=[row [0,1,2,3,4,5,6]]) (vs:=[va]) (r:=.v (row [7,8,9,10,15,16,17]))
  (ae (wD (ka:=[0,1,2,3,4,5,6]) (a:=a) (kr:=[0,1,2,3,4,5,6]) ⟨rfl,rfl,rfl,rfl,rfl,rfl,rfl,trivial⟩ ⟨rfl,rfl,rfl,rfl,rfl,rfl,rfl,trivial⟩ (ha.mono (by decide))) (ae (I_poBack (kq:=[0,1,2,3]) (q:=a.rot) (kr:=[7,8,9,10]) ⟨rfl,rfl,rfl,rfl,trivial⟩ ⟨rfl,rfl,rfl,rfl,trivial⟩ (ha.rot.mono (by decide)) ga.rot) (ae (cV (k:=11) rfl (by decide) (by decide)) (ae (dm (ka:=[4,5,6]) (a:=a.pos) (ik:=11) (kr:=[12,13,14]) ⟨rfl,rfl,rfl,trivial⟩ rfl ⟨rfl,rfl,rfl,trivial⟩ (ha.pos.mono (by decide)) ((aL (u:= -1) (by decide) (by decide)).mono (by decide))) (ae (yp (kq:=[7,8,9,10]) (q:=a.rot.inv) (ka:=[12,13,14]) (a:=(a.pos.scale (Fq.ofInt (-1)))) (kr:=[15,16,17]) ⟨rfl,rfl,rfl,rfl,trivial⟩ ⟨rfl,rfl,rfl,trivial⟩ ⟨rfl,rfl,rfl,trivial⟩ ((ha.rot.inv ga.rot).mono (by decide)) ((ha.pos.scale (aL (u:= -1) (by decide) (by decide))).mono (by decide)) (aZ ga.rot)) (ae (lE (ka:=[7,8,9,10,15,16,17]) (a:=(Pq.mk a.rot.inv (a.rot.inv.app (a.pos.scale (Fq.ofInt (-1)))))) (kr:=[7,8,9,10,15,16,17]) ⟨rfl,rfl,rfl,rfl,rfl,rfl,rfl,trivial⟩ ⟨rfl,rfl,rfl,rfl,rfl,rfl,rfl,trivial⟩ (⟨⟨(ha.rot.inv ga.rot).w.mono (by decide),(ha.rot.inv ga.rot).x.mono (by decide),(ha.rot.inv ga.rot).y.mono (by decide),(ha.rot.inv ga.rot).z.mono (by decide)⟩,⟨((ha.rot.inv ga.rot).app (ha.pos.scale (aL (u:= -1) (by decide) (by decide))) (aZ ga.rot)).x.mono (by decide),((ha.rot.inv ga.rot).app (ha.pos.scale (aL (u:= -1) (by decide) (by decide))) (aZ ga.rot)).y.mono (by decide),((ha.rot.inv ga.rot).app (ha.pos.scale (aL (u:= -1) (by decide) (by decide))) (aZ ga.rot)).z.mono (by decide)⟩⟩:Pq.ok 1000000000 (Pq.mk a.rot.inv (a.rot.inv.app (a.pos.scale (Fq.ofInt (-1))))))) ah))))))
  ai Tryz.func56 (by kernel_rfl) ⟨(ag (xs:=sI a) (ks:=[0,1,2,3,4,5,6]) (vs:=a.cs) ⟨rfl,rfl,rfl,rfl,rfl,rfl,rfl,trivial⟩).2 ia,trivial⟩).mono ?_
 rintro e w' ⟨v,rfl,h1,h2⟩;exact⟨v,rfl,(ag (xs:=sI a) (ks:=[7,8,9,10,15,16,17]) (vs:=(a.rot.inv.cs++([(a.rot.inv.app (a.pos.scale (Fq.ofInt (-1)))).x,(a.rot.inv.app (a.pos.scale (Fq.ofInt (-1)))).y,(a.rot.inv.app (a.pos.scale (Fq.ofInt (-1)))).z]))) ⟨rfl,rfl,rfl,rfl,rfl,rfl,rfl,trivial⟩).1 h1,h2⟩
def xpoIdX:List Fq:=(Qq.id.cs++([(Vq.of 0 0 0).x,(Vq.of 0 0 0).y,(Vq.of 0 0 0).z]))
theorem wE (w:World):
  Calls Tryz.prog 22 #[] w fun e w'=>o8 w Pq.id e w':=by
 refine(cRn (ρ:=frs (xpoIdX)++ []) (args:=[]) (vs:=[]) (r:=.v (row [0,1,2,3,4,5,6]))
  (ae (I_fId (kr:=[0,1,2,3]) ⟨rfl,rfl,rfl,rfl,trivial⟩) (ae (zQ (kr:=[4,5,6]) ⟨rfl,rfl,rfl,trivial⟩) (ae (lE (ka:=[0,1,2,3,4,5,6]) (a:=(Pq.mk Qq.id (Vq.of 0 0 0))) (kr:=[0,1,2,3,4,5,6]) ⟨rfl,rfl,rfl,rfl,rfl,rfl,rfl,trivial⟩ ⟨rfl,rfl,rfl,rfl,rfl,rfl,rfl,trivial⟩ (⟨⟨oX.w.mono (by decide),oX.x.mono (by decide),oX.y.mono (by decide),oX.z.mono (by decide)⟩,⟨(oZ (by decide) (by decide) (by decide) (by decide) (by decide) (by decide)).x.mono (by decide),(oZ (by decide) (by decide) (by decide) (by decide) (by decide) (by decide)).y.mono (by decide),(oZ (by decide) (by decide) (by decide) (by decide) (by decide) (by decide)).z.mono (by decide)⟩⟩:Pq.ok 1000000000 (Pq.mk Qq.id (Vq.of 0 0 0)))) ah)))
  ai Tryz.func22 (by kernel_rfl) trivial).mono ?_
 rintro e w' ⟨v,rfl,h1,h2⟩;exact⟨v,rfl,(ag (xs:=xpoIdX) (ks:=[0,1,2,3,4,5,6]) (vs:=(Qq.id.cs++([(Vq.of 0 0 0).x,(Vq.of 0 0 0).y,(Vq.of 0 0 0).z]))) ⟨rfl,rfl,rfl,rfl,rfl,rfl,rfl,trivial⟩).1 h1,h2⟩
def jY (a:Pq) (b:Pq):List Fq:=(a.cs++(b.cs))
theorem wF (va vb:Value) (a:Pq) (b:Pq) (w:World) (ia:bw w va a) (ib:bw w vb b) (ha:a.ok 100000000) (hb:b.ok 100000000) (e0:a=b) (ga:a.good) (gb:b.good):
  Calls Tryz.prog 55 #[va,vb] w fun e w'=>cI w (.bool true) e w':=by
 refine(cRn (ρ:=frs (jY a b)++ []) (args:=[row [0,1,2,3,4,5,6],row [7,8,9,10,11,12,13]]) (vs:=[va,vb]) (r:=.v (.one (.b true)))
  (ae (qZ (ka:=[0,1,2,3]) (a:=a.rot) (kb:=[7,8,9,10]) (b:=b.rot) ⟨rfl,rfl,rfl,rfl,trivial⟩ ⟨rfl,rfl,rfl,rfl,trivial⟩ (ha.rot.mono (by decide)) (hb.rot.mono (by decide)) (congrArg Pq.rot e0) ga.rot.comp gb.rot.comp) (ae (q9 (ka:=[4,5,6]) (a:=a.pos) (kb:=[11,12,13]) (b:=b.pos) ⟨rfl,rfl,rfl,trivial⟩ ⟨rfl,rfl,rfl,trivial⟩ (ha.pos.mono (by decide)) (hb.pos.mono (by decide)) (congrArg Pq.pos e0) ga.pos gb.pos) ah))
  ai Tryz.func55 (by kernel_rfl) ⟨(ag (xs:=jY a b) (ks:=[0,1,2,3,4,5,6]) (vs:=a.cs) ⟨rfl,rfl,rfl,rfl,rfl,rfl,rfl,trivial⟩).2 ia,⟨(ag (xs:=jY a b) (ks:=[7,8,9,10,11,12,13]) (vs:=b.cs) ⟨rfl,rfl,rfl,rfl,rfl,rfl,rfl,trivial⟩).2 ib,trivial⟩⟩).mono ?_
 rintro e w' ⟨v,rfl,h1,h2⟩;exact⟨congrArg Ending.returned h1,h2⟩
theorem wG {xs:List Fq} {ys:Rho} {ka:List Nat} {kb:List Nat} {a:Pq} {b:Pq} (aa:AtL xs ka a.cs) (ab:AtL xs kb b.cs) (ha:a.ok 100000000) (hb:b.ok 100000000) (e0:a=b) (ga:a.good) (gb:b.good):OkI xs ys ⟨55,[row ka,row kb],.v (.one (.b true))⟩:=
 ⟨az Tryz.func55 rfl rfl,fun B w vs hB h=>by
  match vs,h with
  | [va,vb],h=>
   refine(wF va vb a b w ((ag aa).1 h.1) ((ag ab).1 h.2.1) ha hb e0 ga gb).mono ?_;rintro e w' ⟨rfl,h2⟩;exact⟨_,rfl,rfl,h2⟩⟩
def jZ (a:Pq) (b:Pq):List Fq:=(a.cs++(b.cs))
def iM (a:Pq) (b:Pq):List Fq:=(a.cs++(b.cs))
theorem wH (va vb:Value) (a:Pq) (b:Pq) (w:World) (ia:bw w va a) (ib:bw w vb b) (ha:a.ok 100000000) (hb:b.ok 100000000) (e0:a≠b) (ga:a.good) (gb:b.good):
  Calls Tryz.prog 55 #[va,vb] w fun e w'=>cI w (.bool false) e w':=by
 by_cases c0:a.rot=b.rot
 ·by_cases c1:a.pos=b.pos
  ·exact absurd (by cases a;cases b;simp only at c0 c1;subst c0 c1;rfl) e0
  ·refine(cRn (ρ:=frs (jZ a b)++ []) (args:=[row [0,1,2,3,4,5,6],row [7,8,9,10,11,12,13]]) (vs:=[va,vb]) (r:=.v (.one (.b false)))
    (ae (qZ (ka:=[0,1,2,3]) (a:=a.rot) (kb:=[7,8,9,10]) (b:=b.rot) ⟨rfl,rfl,rfl,rfl,trivial⟩ ⟨rfl,rfl,rfl,rfl,trivial⟩ (ha.rot.mono (by decide)) (hb.rot.mono (by decide)) c0 ga.rot.comp gb.rot.comp) (ae (zO (ka:=[4,5,6]) (a:=a.pos) (kb:=[11,12,13]) (b:=b.pos) ⟨rfl,rfl,rfl,trivial⟩ ⟨rfl,rfl,rfl,trivial⟩ (ha.pos.mono (by decide)) (hb.pos.mono (by decide)) c1 ga.pos gb.pos) ah))
    ai Tryz.func55 (by kernel_rfl) ⟨(ag (xs:=jZ a b) (ks:=[0,1,2,3,4,5,6]) (vs:=a.cs) ⟨rfl,rfl,rfl,rfl,rfl,rfl,rfl,trivial⟩).2 ia,⟨(ag (xs:=jZ a b) (ks:=[7,8,9,10,11,12,13]) (vs:=b.cs) ⟨rfl,rfl,rfl,rfl,rfl,rfl,rfl,trivial⟩).2 ib,trivial⟩⟩).mono ?_
   rintro e w' ⟨v,rfl,h1,h2⟩;exact⟨congrArg Ending.returned h1,h2⟩
 ·refine(cRn (ρ:=frs (iM a b)++ []) (args:=[row [0,1,2,3,4,5,6],row [7,8,9,10,11,12,13]]) (vs:=[va,vb]) (r:=.v (.one (.b false)))
   (ae (zK (ka:=[0,1,2,3]) (a:=a.rot) (kb:=[7,8,9,10]) (b:=b.rot) ⟨rfl,rfl,rfl,rfl,trivial⟩ ⟨rfl,rfl,rfl,rfl,trivial⟩ (ha.rot.mono (by decide)) (hb.rot.mono (by decide)) c0 ga.rot.comp gb.rot.comp) ah)
   ai Tryz.func55 (by kernel_rfl) ⟨(ag (xs:=iM a b) (ks:=[0,1,2,3,4,5,6]) (vs:=a.cs) ⟨rfl,rfl,rfl,rfl,rfl,rfl,rfl,trivial⟩).2 ia,⟨(ag (xs:=iM a b) (ks:=[7,8,9,10,11,12,13]) (vs:=b.cs) ⟨rfl,rfl,rfl,rfl,rfl,rfl,rfl,trivial⟩).2 ib,trivial⟩⟩).mono ?_
  rintro e w' ⟨v,rfl,h1,h2⟩;exact⟨congrArg Ending.returned h1,h2⟩
theorem wI {xs:List Fq} {ys:Rho} {ka:List Nat} {kb:List Nat} {a:Pq} {b:Pq} (aa:AtL xs ka a.cs) (ab:AtL xs kb b.cs) (ha:a.ok 100000000) (hb:b.ok 100000000) (e0:a≠b) (ga:a.good) (gb:b.good):OkI xs ys ⟨55,[row ka,row kb],.v (.one (.b false))⟩:=
 ⟨az Tryz.func55 rfl rfl,fun B w vs hB h=>by
  match vs,h with
  | [va,vb],h=>
   refine(wH va vb a b w ((ag aa).1 h.1) ((ag ab).1 h.2.1) ha hb e0 ga gb).mono ?_;rintro e w' ⟨rfl,h2⟩;exact⟨_,rfl,rfl,h2⟩⟩
def rf (a:Pq):List Fq:=a.cs
theorem rh (va:Value) (a:Pq) (w:World) (ia:bw w va a) (ha:a.ok 1000000) (ga:a.good):
  Calls Tryz.prog 122 #[va] w fun e w'=>cI w (.bool true) e w':=by
 refine(cRn (ρ:=frs (rf a)++ []) (args:=[row [0,1,2,3,4,5,6]]) (vs:=[va]) (r:=.v (.one (.b true)))
  (ae (wA (kq:=[0,1,2,3]) (q:=a.rot) ⟨rfl,rfl,rfl,rfl,trivial⟩ (ha.rot.mono (by decide)) ga.rot) (ae (I_vValid (ka:=[4,5,6]) (a:=a.pos) ⟨rfl,rfl,rfl,trivial⟩ (ha.pos.mono (by decide)) ga.pos) ah))
  ai Tryz.func122 (by kernel_rfl) ⟨(ag (xs:=rf a) (ks:=[0,1,2,3,4,5,6]) (vs:=a.cs) ⟨rfl,rfl,rfl,rfl,rfl,rfl,rfl,trivial⟩).2 ia,trivial⟩).mono ?_
 rintro e w' ⟨v,rfl,h1,h2⟩;exact⟨congrArg Ending.returned h1,h2⟩
theorem bV {xs:List Fq} {ys:Rho} {ka:List Nat} {a:Pq} (aa:AtL xs ka a.cs) (ha:a.ok 1000000) (ga:a.good):OkI xs ys ⟨122,[row ka],.v (.one (.b true))⟩:=
 ⟨az Tryz.func122 rfl rfl,fun B w vs hB h=>by
  match vs,h with
  | [va],h=>
   refine(rh va a w ((ag aa).1 h.1) ha ga).mono ?_;rintro e w' ⟨rfl,h2⟩;exact⟨_,rfl,rfl,h2⟩⟩
def iN (a:Pq) (b:Pq) (m:Fq):List Fq:=(a.cs++(b.cs++([m]++((a.rot.way (a.rot.inv.mul b.rot) m).cs++([(a.pos.lerp b.pos m).x,(a.pos.lerp b.pos m).y,(a.pos.lerp b.pos m).z])))))
theorem q_poBtw1 (va vb vm:Value) (a:Pq) (b:Pq) (m:Fq) (w:World) (ia:bw w va a) (ib:bw w vb b) (im:IsQ w vm m) (ha:a.ok 100) (hb:b.ok 100) (hm:m.ok 100) (ga:a.good) (gb:b.good) (gm:m.valid=true) (hw:(a.rot.inv.mul b.rot).w.p≠0):
  Calls Tryz.prog 167 #[va,vb,vm] w fun e w'=>RetOqE w (Pq.mk (a.rot.way (a.rot.inv.mul b.rot) m) (a.pos.lerp b.pos m)) 0 e w':=by
 refine(cRn (ρ:=frs (iN a b m)++ []) (args:=[row [0,1,2,3,4,5,6],row [7,8,9,10,11,12,13],fr 14]) (vs:=[va,vb,vm]) (r:=.tup [row [15,16,17,18,19,20,21],.one (.i .i64 0)])
  (ae (I_fBtw1 (kp:=[0,1,2,3]) (p:=a.rot) (kq:=[7,8,9,10]) (q:=b.rot) (im:=14) (kr:=[15,16,17,18]) ⟨rfl,rfl,rfl,rfl,trivial⟩ ⟨rfl,rfl,rfl,rfl,trivial⟩ rfl ⟨rfl,rfl,rfl,rfl,trivial⟩ (ha.rot.mono (by decide)) (hb.rot.mono (by decide)) (hm.mono (by decide)) ga.rot gb.rot gm hw) (ae (I_vLerp (ka:=[4,5,6]) (a:=a.pos) (kb:=[11,12,13]) (b:=b.pos) (ik:=14) (kr:=[19,20,21]) ⟨rfl,rfl,rfl,trivial⟩ ⟨rfl,rfl,rfl,trivial⟩ rfl ⟨rfl,rfl,rfl,trivial⟩ (ha.pos.mono (by decide)) (hb.pos.mono (by decide)) (hm.mono (by decide))) (ae (lE (ka:=[15,16,17,18,19,20,21]) (a:=(Pq.mk (a.rot.way (a.rot.inv.mul b.rot) m) (a.pos.lerp b.pos m))) (kr:=[15,16,17,18,19,20,21]) ⟨rfl,rfl,rfl,rfl,rfl,rfl,rfl,trivial⟩ ⟨rfl,rfl,rfl,rfl,rfl,rfl,rfl,trivial⟩ (⟨⟨(sG ha.rot hb.rot hm ga.rot gb.rot gm).w.mono (by decide),(sG ha.rot hb.rot hm ga.rot gb.rot gm).x.mono (by decide),(sG ha.rot hb.rot hm ga.rot gb.rot gm).y.mono (by decide),(sG ha.rot hb.rot hm ga.rot gb.rot gm).z.mono (by decide)⟩,⟨(ha.pos.lerp hb.pos hm).x.mono (by decide),(ha.pos.lerp hb.pos hm).y.mono (by decide),(ha.pos.lerp hb.pos hm).z.mono (by decide)⟩⟩:Pq.ok 1000000000 (Pq.mk (a.rot.way (a.rot.inv.mul b.rot) m) (a.pos.lerp b.pos m)))) ah)))
  ai Tryz.func167 (by kernel_rfl) ⟨(ag (xs:=iN a b m) (ks:=[0,1,2,3,4,5,6]) (vs:=a.cs) ⟨rfl,rfl,rfl,rfl,rfl,rfl,rfl,trivial⟩).2 ia,⟨(ag (xs:=iN a b m) (ks:=[7,8,9,10,11,12,13]) (vs:=b.cs) ⟨rfl,rfl,rfl,rfl,rfl,rfl,rfl,trivial⟩).2 ib,⟨(aI (xs:=iN a b m) (k:=14) rfl).2 im,trivial⟩⟩⟩).mono ?_
 rintro e w' ⟨v,rfl,⟨vs,rfl,h1⟩,h2⟩
 match vs,h1 with
 | [r,c],h1=>
  obtain⟨⟨cs,rfl,k1⟩,k2,_⟩:=h1;have k2:c=_:=k2;subst k2;exact⟨_,rfl,(ag (xs:=iN a b m) (ks:=[15,16,17,18,19,20,21]) (vs:=((a.rot.way (a.rot.inv.mul b.rot) m).cs++([(a.pos.lerp b.pos m).x,(a.pos.lerp b.pos m).y,(a.pos.lerp b.pos m).z]))) ⟨rfl,rfl,rfl,rfl,rfl,rfl,rfl,trivial⟩).1 ⟨_,rfl,k1⟩,h2⟩
theorem uw {xs:List Fq} {ys:Rho} {ka:List Nat} {kb:List Nat} {im:Nat} {a:Pq} {b:Pq} {m:Fq} {kr:List Nat} (aa:AtL xs ka a.cs) (ab:AtL xs kb b.cs) (am:xs[im]? =some m) (ar:AtL xs kr ((a.rot.way (a.rot.inv.mul b.rot) m).cs++([(a.pos.lerp b.pos m).x,(a.pos.lerp b.pos m).y,(a.pos.lerp b.pos m).z]))) (ha:a.ok 100) (hb:b.ok 100) (hm:m.ok 100) (ga:a.good) (gb:b.good) (gm:m.valid=true) (hw:(a.rot.inv.mul b.rot).w.p≠0):OkI xs ys ⟨167,[row ka,row kb,fr im],.tup [row kr,.one (.i .i64 0)]⟩:=
 ⟨az Tryz.func167 rfl rfl,fun B w vs hB h=>by
  match vs,h with
  | [va,vb,vm],h=>
   refine(q_poBtw1 va vb vm a b m w ((ag aa).1 h.1) ((ag ab).1 h.2.1) ((aI am).1 h.2.2.1) ha hb hm ga gb gm hw).mono ?_;rintro e w' ⟨v,rfl,h1,h2⟩;exact⟨_,rfl,⟨[v,.int .i64 0],rfl,(ag ar).2 h1,rfl,trivial⟩,h2⟩⟩
def lF (a:Pq) (b:Pq) (m:Fq):List Fq:=(a.cs++(b.cs++([m]++(Qq.zero.cs))))
theorem q_poBtw4 (va vb vm:Value) (a:Pq) (b:Pq) (m:Fq) (w:World) (ia:bw w va a) (ib:bw w vb b) (im:IsQ w vm m) (ha:a.ok 100) (hb:b.ok 100) (hm:m.ok 100) (ga:a.good) (gb:b.good) (gm:m.valid=true) (hw:(a.rot.inv.mul b.rot).w.p=0) (h0:m.p≠0) (h1:m≠(Fq.ofInt 1)):
  Calls Tryz.prog 167 #[va,vb,vm] w fun e w'=>RetOqE w Pq.zero 4 e w':=by
 refine(cRn (ρ:=frs (lF a b m)++ []) (args:=[row [0,1,2,3,4,5,6],row [7,8,9,10,11,12,13],fr 14]) (vs:=[va,vb,vm]) (r:=.tup [.agg [.b false,.sl0,.sl0,.b false,.sl0,.sl0,.b false,.sl0,.sl0,.b false,.sl0,.sl0,.b false,.sl0,.sl0,.b false,.sl0,.sl0,.b false,.sl0,.sl0],.one (.i .i64 4)])
  (ae (I_fBtw4 (kp:=[0,1,2,3]) (p:=a.rot) (kq:=[7,8,9,10]) (q:=b.rot) (im:=14) (kr:=[15,16,17,18]) ⟨rfl,rfl,rfl,rfl,trivial⟩ ⟨rfl,rfl,rfl,rfl,trivial⟩ rfl ⟨rfl,rfl,rfl,rfl,trivial⟩ (ha.rot.mono (by decide)) (hb.rot.mono (by decide)) (hm.mono (by decide)) ga.rot gb.rot gm hw h0 h1) ah)
  ai Tryz.func167 (by kernel_rfl) ⟨(ag (xs:=lF a b m) (ks:=[0,1,2,3,4,5,6]) (vs:=a.cs) ⟨rfl,rfl,rfl,rfl,rfl,rfl,rfl,trivial⟩).2 ia,⟨(ag (xs:=lF a b m) (ks:=[7,8,9,10,11,12,13]) (vs:=b.cs) ⟨rfl,rfl,rfl,rfl,rfl,rfl,rfl,trivial⟩).2 ib,⟨(aI (xs:=lF a b m) (k:=14) rfl).2 im,trivial⟩⟩⟩).mono ?_
 rintro e w' ⟨v,rfl,⟨vs,rfl,h1⟩,h2⟩
 match vs,h1 with
 | [r,c],h1=>
  obtain⟨⟨cs,rfl,k1⟩,k2,_⟩:=h1;have k2:c=_:=k2;subst k2;exact⟨_,rfl,⟨_,rfl,fi (n:=7) k1⟩,h2⟩
theorem I_poBtw4 {xs:List Fq} {ys:Rho} {ka:List Nat} {kb:List Nat} {im:Nat} {a:Pq} {b:Pq} {m:Fq} {kr:List Nat} (aa:AtL xs ka a.cs) (ab:AtL xs kb b.cs) (am:xs[im]? =some m) (ar:AtL xs kr Pq.zero.cs) (ha:a.ok 100) (hb:b.ok 100) (hm:m.ok 100) (ga:a.good) (gb:b.good) (gm:m.valid=true) (hw:(a.rot.inv.mul b.rot).w.p=0) (h0:m.p≠0) (h1:m≠(Fq.ofInt 1)):OkI xs ys ⟨167,[row ka,row kb,fr im],.tup [row kr,.one (.i .i64 4)]⟩:=
 ⟨az Tryz.func167 rfl rfl,fun B w vs hB h=>by
  match vs,h with
  | [va,vb,vm],h=>
   refine(q_poBtw4 va vb vm a b m w ((ag aa).1 h.1) ((ag ab).1 h.2.1) ((aI am).1 h.2.2.1) ha hb hm ga gb gm hw h0 h1).mono ?_;rintro e w' ⟨v,rfl,h1,h2⟩;exact⟨_,rfl,⟨[v,.int .i64 4],rfl,(ag ar).2 h1,rfl,trivial⟩,h2⟩⟩
end Go.Proofs.YtggfmklppkioeaaGreat
