/- Products, inverses, images, by the executor. Matrices, units, from one vector to another, by the executor. On the way, valid rotations, by the executor. Package pose and its reference, by the executor. On the way from one pose to another, by the executor. An executor: rows that the call itself made, appended to and left. Stamps and rows of stamps: what an executor asks of them. -/
import Derived.Test.YtggfmklppkioeaaGreatP09
namespace Go.Proofs.YtggfmklppkioeaaGreat
set_option linter.unusedSimpArgs false
set_option linter.unusedVariables false
set_option maxRecDepth 100000
open Go.RowKit
theorem Qq.ok.inv {q:Qq} {d:Nat} (h:q.ok d) (g:q.good):q.inv.ok (d+2+(d+2)):=by
 have h0:=qx g
 rw[←tN g.comp]at h0
 exact(Qq.ok.mk4 (h.w.mono (by omega)) (h.x.mul (bm (by decide) (by decide))) (h.y.mul (bm (by decide) (by decide))) (h.z.mul (bm (by decide) (by decide)))).canon h0
theorem inv_ne' {q:Qq} (g:q.good):(Qq.mk q.w (q.axis.scale (Fq.ofInt (-1))).x (q.axis.scale (Fq.ofInt (-1))).y (q.axis.scale (Fq.ofInt (-1))).z).first.p≠0:=by rw[tN g.comp];exact qx g
theorem Qq.ok.mulg {p q:Qq} {d e:Nat} (h:p.ok d) (k:q.ok e) (gp:p.good) (gq:q.good):(p.mul q).ok (44*(d+e)+14):=h.mul k (tM gp gq)
theorem Qq.ok.dd {q:Qq} {d:Nat} (h:q.ok d):q.dd.ok (44*d+7):=((h.w.mul h.w).sub (h.axis.dot h.axis)).mono (by omega)
theorem Qq.ok.nn {q:Qq} {d:Nat} (h:q.ok d):q.nn.ok (44*d+7):=((h.w.mul h.w).add (h.axis.dot h.axis)).mono (by omega)
theorem Qq.ok.rat {q:Qq} {d:Nat} (h:q.ok d) (g:q.good):q.rat.ok (44*d+9):=((bm (by decide) (by decide)).div h.nn (nn_ne g)).mono (by omega)
theorem Qq.ok.ap1 {q:Qq} {a:Vq} {d e:Nat} (h:q.ok d) (k:a.ok e):(q.ap1 a).ok (e+44*d+7):=(k.scale h.dd).mono (by omega)
theorem Qq.ok.ap2 {q:Qq} {a:Vq} {d e:Nat} (h:q.ok d) (k:a.ok e):(q.ap2 a).ok (11*d+10*e+5):=(h.axis.scale ((bm (by decide) (by decide)).mul (h.axis.dot k))).mono (by omega)
theorem Qq.ok.ap3 {q:Qq} {a:Vq} {d e:Nat} (h:q.ok d) (k:a.ok e):(q.ap3 a).ok (5*d+4*e+3):=((h.axis.cross k).scale ((bm (by decide) (by decide)).mul h.w)).mono (by omega)
theorem Qq.ok.app {q:Qq} {a:Vq} {d e:Nat} (h:q.ok d) (k:a.ok e) (g:q.good):(q.app a).ok (300*(d+e)+100):=((((h.ap1 k).add (h.ap2 k)).add (h.ap3 k)).scale (h.rat g)).mono (by omega)
def na (p:Qq) (q:Qq):List Fq:=(p.cs++(q.cs++([p.axis.x,p.axis.y,p.axis.z,q.axis.x,q.axis.y,q.axis.z,(p.w.mul q.w),(p.axis.dot q.axis),((p.w.mul q.w).sub (p.axis.dot q.axis)),(q.axis.scale p.w).x,(q.axis.scale p.w).y,(q.axis.scale p.w).z,(p.axis.scale q.w).x,(p.axis.scale q.w).y,(p.axis.scale q.w).z,((q.axis.scale p.w).add (p.axis.scale q.w)).x,((q.axis.scale p.w).add (p.axis.scale q.w)).y,((q.axis.scale p.w).add (p.axis.scale q.w)).z,(p.axis.cross q.axis).x,(p.axis.cross q.axis).y,(p.axis.cross q.axis).z,(((q.axis.scale p.w).add (p.axis.scale q.w)).add (p.axis.cross q.axis)).x,(((q.axis.scale p.w).add (p.axis.scale q.w)).add (p.axis.cross q.axis)).y,(((q.axis.scale p.w).add (p.axis.scale q.w)).add (p.axis.cross q.axis)).z]++((Qq.mk ((p.w.mul q.w).sub (p.axis.dot q.axis)) (((q.axis.scale p.w).add (p.axis.scale q.w)).add (p.axis.cross q.axis)).x (((q.axis.scale p.w).add (p.axis.scale q.w)).add (p.axis.cross q.axis)).y (((q.axis.scale p.w).add (p.axis.scale q.w)).add (p.axis.cross q.axis)).z).canon.cs))))
theorem q_fMulT (vp vq:Value) (p:Qq) (q:Qq) (w:World) (ip:fm w vp p) (iq:fm w vq q) (hp:p.ok 100000) (hq:q.ok 100000) (gp:p.good) (gq:q.good):
  Calls Tryz.prog 75 #[vp,vq] w fun e w'=>pF w (p.mul q) e w':=by
 refine(cRn (ρ:=frs (na p q)++ []) (args:=[row [0,1,2,3],row [4,5,6,7]]) (vs:=[vp,vq]) (r:=.v (row [32,33,34,35]))
  (ae (qF (kq:=[0,1,2,3]) (q:=p) (kr:=[8,9,10]) ⟨rfl,rfl,rfl,rfl,trivial⟩ ⟨rfl,rfl,rfl,trivial⟩ (hp.mono (by decide))) (ae (qF (kq:=[4,5,6,7]) (q:=q) (kr:=[11,12,13]) ⟨rfl,rfl,rfl,rfl,trivial⟩ ⟨rfl,rfl,rfl,trivial⟩ (hq.mono (by decide))) (ae (ob (i:=0) (j:=4) (k:=14) rfl rfl rfl (hp.w.mono (by decide)) (hq.w.mono (by decide))) (ae (I_vDot (ka:=[8,9,10]) (a:=p.axis) (kb:=[11,12,13]) (b:=q.axis) (ir:=15) ⟨rfl,rfl,rfl,trivial⟩ ⟨rfl,rfl,rfl,trivial⟩ rfl (hp.axis.mono (by decide)) (hq.axis.mono (by decide))) (ae (od (i:=14) (j:=15) (k:=16) rfl rfl rfl ((hp.w.mul hq.w).mono (by decide)) ((hp.axis.dot hq.axis).mono (by decide))) (ae (gJ (ka:=[11,12,13]) (a:=q.axis) (ik:=0) (kr:=[17,18,19]) ⟨rfl,rfl,rfl,trivial⟩ rfl ⟨rfl,rfl,rfl,trivial⟩ (hq.axis.mono (by decide)) (hp.w.mono (by decide))) (ae (gJ (ka:=[8,9,10]) (a:=p.axis) (ik:=4) (kr:=[20,21,22]) ⟨rfl,rfl,rfl,trivial⟩ rfl ⟨rfl,rfl,rfl,trivial⟩ (hp.axis.mono (by decide)) (hq.w.mono (by decide))) (ae (tS (ka:=[17,18,19]) (a:=(q.axis.scale p.w)) (kb:=[20,21,22]) (b:=(p.axis.scale q.w)) (kr:=[23,24,25]) ⟨rfl,rfl,rfl,trivial⟩ ⟨rfl,rfl,rfl,trivial⟩ ⟨rfl,rfl,rfl,trivial⟩ ((hq.axis.scale hp.w).mono (by decide)) ((hp.axis.scale hq.w).mono (by decide))) (ae (zm (ka:=[8,9,10]) (a:=p.axis) (kb:=[11,12,13]) (b:=q.axis) (kr:=[26,27,28]) ⟨rfl,rfl,rfl,trivial⟩ ⟨rfl,rfl,rfl,trivial⟩ ⟨rfl,rfl,rfl,trivial⟩ (hp.axis.mono (by decide)) (hq.axis.mono (by decide))) (ae (tS (ka:=[23,24,25]) (a:=((q.axis.scale p.w).add (p.axis.scale q.w))) (kb:=[26,27,28]) (b:=(p.axis.cross q.axis)) (kr:=[29,30,31]) ⟨rfl,rfl,rfl,trivial⟩ ⟨rfl,rfl,rfl,trivial⟩ ⟨rfl,rfl,rfl,trivial⟩ (((hq.axis.scale hp.w).add (hp.axis.scale hq.w)).mono (by decide)) ((hp.axis.cross hq.axis).mono (by decide))) (ae (og (iu:=16) (kc:=[29,30,31]) (c:=(((q.axis.scale p.w).add (p.axis.scale q.w)).add (p.axis.cross q.axis))) (kr:=[32,33,34,35]) rfl ⟨rfl,rfl,rfl,trivial⟩ ⟨rfl,rfl,rfl,rfl,trivial⟩ (((hp.w.mul hq.w).sub (hp.axis.dot hq.axis)).mono (by decide)) ((((hq.axis.scale hp.w).add (hp.axis.scale hq.w)).add (hp.axis.cross hq.axis)).mono (by decide)) (tM gp gq)) ah)))))))))))
  ai Tryz.func75 (by kernel_rfl) ⟨(ag (xs:=na p q) (ks:=[0,1,2,3]) (vs:=p.cs) ⟨rfl,rfl,rfl,rfl,trivial⟩).2 ip,⟨(ag (xs:=na p q) (ks:=[4,5,6,7]) (vs:=q.cs) ⟨rfl,rfl,rfl,rfl,trivial⟩).2 iq,trivial⟩⟩).mono ?_
 rintro e w' ⟨v,rfl,h1,h2⟩
 exact⟨v,rfl,(ag (xs:=na p q) (ks:=[32,33,34,35]) (vs:=(Qq.mk ((p.w.mul q.w).sub (p.axis.dot q.axis)) (((q.axis.scale p.w).add (p.axis.scale q.w)).add (p.axis.cross q.axis)).x (((q.axis.scale p.w).add (p.axis.scale q.w)).add (p.axis.cross q.axis)).y (((q.axis.scale p.w).add (p.axis.scale q.w)).add (p.axis.cross q.axis)).z).canon.cs) ⟨rfl,rfl,rfl,rfl,trivial⟩).1 h1,h2⟩
theorem qI {xs:List Fq} {ys:Rho} {kp:List Nat} {kq:List Nat} {p:Qq} {q:Qq} {kr:List Nat} (ap:AtL xs kp p.cs) (aq:AtL xs kq q.cs) (ar:AtL xs kr (p.mul q).cs) (hp:p.ok 100000) (hq:q.ok 100000) (gp:p.good) (gq:q.good):OkI xs ys ⟨75,[row kp,row kq],.v (row kr)⟩:=
 ⟨aw Tryz.func75 rfl rfl,fun B w vs hB h=>by
  match vs,h with
  | [vp,vq],h=>
   refine(q_fMulT vp vq p q w ((ag ap).1 h.1) ((ag aq).1 h.2.1) hp hq gp gq).mono ?_
   rintro e w' ⟨v,rfl,h1,h2⟩
   exact⟨v,rfl,(ag ar).2 h1,h2⟩⟩
def qJ (q:Qq):List Fq:=(q.cs++([q.axis.x,q.axis.y,q.axis.z,(Fq.ofInt (-1)),(q.axis.scale (Fq.ofInt (-1))).x,(q.axis.scale (Fq.ofInt (-1))).y,(q.axis.scale (Fq.ofInt (-1))).z]++((Qq.mk q.w (q.axis.scale (Fq.ofInt (-1))).x (q.axis.scale (Fq.ofInt (-1))).y (q.axis.scale (Fq.ofInt (-1))).z).canon.cs)))
theorem q_fInvT (vq:Value) (q:Qq) (w:World) (iq:fm w vq q) (hq:q.ok 100000) (gq:q.good):
  Calls Tryz.prog 178 #[vq] w fun e w'=>pF w q.inv e w':=by
 refine(cRn (ρ:=frs (qJ q)++ []) (args:=[row [0,1,2,3]]) (vs:=[vq]) (r:=.v (row [11,12,13,14]))
  (ae (qF (kq:=[0,1,2,3]) (q:=q) (kr:=[4,5,6]) ⟨rfl,rfl,rfl,rfl,trivial⟩ ⟨rfl,rfl,rfl,trivial⟩ (hq.mono (by decide))) (ae (dU (k:=7) rfl (by decide) (by decide)) (ae (gJ (ka:=[4,5,6]) (a:=q.axis) (ik:=7) (kr:=[8,9,10]) ⟨rfl,rfl,rfl,trivial⟩ rfl ⟨rfl,rfl,rfl,trivial⟩ (hq.axis.mono (by decide)) ((bm (u:= -1) (by decide) (by decide)).mono (by decide))) (ae (og (iu:=0) (kc:=[8,9,10]) (c:=(q.axis.scale (Fq.ofInt (-1)))) (kr:=[11,12,13,14]) rfl ⟨rfl,rfl,rfl,trivial⟩ ⟨rfl,rfl,rfl,rfl,trivial⟩ (hq.w.mono (by decide)) ((hq.axis.scale (bm (u:= -1) (by decide) (by decide))).mono (by decide)) (inv_ne' gq)) ah))))
  ai Tryz.func178 (by kernel_rfl) ⟨(ag (xs:=qJ q) (ks:=[0,1,2,3]) (vs:=q.cs) ⟨rfl,rfl,rfl,rfl,trivial⟩).2 iq,trivial⟩).mono ?_
 rintro e w' ⟨v,rfl,h1,h2⟩
 exact⟨v,rfl,(ag (xs:=qJ q) (ks:=[11,12,13,14]) (vs:=(Qq.mk q.w (q.axis.scale (Fq.ofInt (-1))).x (q.axis.scale (Fq.ofInt (-1))).y (q.axis.scale (Fq.ofInt (-1))).z).canon.cs) ⟨rfl,rfl,rfl,rfl,trivial⟩).1 h1,h2⟩
theorem vC {xs:List Fq} {ys:Rho} {kq:List Nat} {q:Qq} {kr:List Nat} (aq:AtL xs kq q.cs) (ar:AtL xs kr q.inv.cs) (hq:q.ok 100000) (gq:q.good):OkI xs ys ⟨178,[row kq],.v (row kr)⟩:=
 ⟨aw Tryz.func178 rfl rfl,fun B w vs hB h=>by
  match vs,h with
  | [vq],h=>
   refine(q_fInvT vq q w ((ag aq).1 h.1) hq gq).mono ?_
   rintro e w' ⟨v,rfl,h1,h2⟩
   exact⟨v,rfl,(ag ar).2 h1,h2⟩⟩
end Go.Proofs.YtggfmklppkioeaaGreat
namespace Go.Proofs.YtggfmklppkioeaaGreat
set_option linter.unusedSimpArgs false
set_option linter.unusedVariables false
set_option maxRecDepth 100000
open Go.RowKit
theorem ok_vof {x y z:Int} (l1: -9223372036854775808≤x) (r1:x<9223372036854775808) (l2: -9223372036854775808≤y) (r2:y<9223372036854775808) (l3: -9223372036854775808≤z) (r3:z<9223372036854775808):(Vq.of x y z).ok 2:=⟨bm l1 r1,bm l2 r2,bm l3 r3⟩
theorem dX {q:Qq} (g:q.good):q.first=Fq.ofInt 1:=mD g.comp.first (aG 1) (by rw[g.one,m8];rfl)
theorem good_ne {q:Qq} (g:q.good):q.first.p≠0:=by rw[dX g];decide
theorem qK {p q:Qq} {t:Fq} {d e f:Nat} (h:p.ok d) (k:q.ok e) (l:t.ok f) (gp:p.good) (gq:q.good) (vt:t.valid=true):(p.way (p.inv.mul q) t).ok (44*(d+((44*(d+2+(d+2)+e)+14+f+2)+(44*(d+2+(d+2)+e)+14+f+2)))+14):=by
 have D:=(h.inv gp).mulg k (bU gp) gq
 have S:=D.axis.scale l
 exact h.mulg ((Qq.ok.mk4 ((bm (by decide) (by decide)).mono (by omega)) (S.x.mono (by omega)) (S.y.mono (by omega)) (S.z.mono (by omega)):Qq.ok (44*(d+2+(d+2)+e)+14+f+2) _).canon kX) gp (fk (pE (oa (bU gp) gq).comp vt) kX)
end Go.Proofs.YtggfmklppkioeaaGreat
namespace Go.Proofs.YtggfmklppkioeaaGreat
set_option linter.unusedSimpArgs false
set_option linter.unusedVariables false
set_option maxRecDepth 100000
open Go.RowKit
theorem vD {q:Qq} (c:q.comp) (h:q.first=Fq.ofInt 1):q.good:=⟨c,by rw[h,m8];rfl⟩
def ll (p:Qq) (q:Qq) (m:Fq):List Fq:=(p.cs++(q.cs++([m]++(p.inv.cs++((p.inv.mul q).cs++([(Fq.ofInt 1),(p.inv.mul q).axis.x,(p.inv.mul q).axis.y,(p.inv.mul q).axis.z,((p.inv.mul q).axis.scale m).x,((p.inv.mul q).axis.scale m).y,((p.inv.mul q).axis.scale m).z]++((Qq.mk (Fq.ofInt 1) ((p.inv.mul q).axis.scale m).x ((p.inv.mul q).axis.scale m).y ((p.inv.mul q).axis.scale m).z).canon.cs++((p.mul (Qq.mk (Fq.ofInt 1) ((p.inv.mul q).axis.scale m).x ((p.inv.mul q).axis.scale m).y ((p.inv.mul q).axis.scale m).z).canon).cs))))))))
theorem q_fBtw1 (vp vq vm:Value) (p:Qq) (q:Qq) (m:Fq) (w:World) (ip:fm w vp p) (iq:fm w vq q) (im:IsQ w vm m) (hp:p.ok 100) (hq:q.ok 100) (hm:m.ok 100) (gp:p.good) (gq:q.good) (gm:m.valid=true) (hw:(p.inv.mul q).w.p≠0):
  Calls Tryz.prog 216 #[vp,vq,vm] w fun e w'=>tP w (p.way (p.inv.mul q) m) 0 e w':=by
 refine(cRn (ρ:=frs (ll p q m)++ []) (args:=[row [0,1,2,3],row [4,5,6,7],fr 8]) (vs:=[vp,vq,vm]) (r:=.tup [row [28,29,30,31],.one (.i .i64 0)])
  (ae (vC (kq:=[0,1,2,3]) (q:=p) (kr:=[9,10,11,12]) ⟨rfl,rfl,rfl,rfl,trivial⟩ ⟨rfl,rfl,rfl,rfl,trivial⟩ (hp.mono (by decide)) gp) (ae (qI (kp:=[9,10,11,12]) (p:=p.inv) (kq:=[4,5,6,7]) (q:=q) (kr:=[13,14,15,16]) ⟨rfl,rfl,rfl,rfl,trivial⟩ ⟨rfl,rfl,rfl,rfl,trivial⟩ ⟨rfl,rfl,rfl,rfl,trivial⟩ ((hp.inv gp).mono (by decide)) (hq.mono (by decide)) (bU gp) gq) (ae (I_Half0 (kq:=[13,14,15,16]) (q:=(p.inv.mul q)) ⟨rfl,rfl,rfl,rfl,trivial⟩ (((hp.inv gp).mulg hq (bU gp) gq).mono (by decide)) hw) (ae (dU (k:=17) rfl (by decide) (by decide)) (ae (qF (kq:=[13,14,15,16]) (q:=(p.inv.mul q)) (kr:=[18,19,20]) ⟨rfl,rfl,rfl,rfl,trivial⟩ ⟨rfl,rfl,rfl,trivial⟩ (((hp.inv gp).mulg hq (bU gp) gq).mono (by decide))) (ae (gJ (ka:=[18,19,20]) (a:=(p.inv.mul q).axis) (ik:=8) (kr:=[21,22,23]) ⟨rfl,rfl,rfl,trivial⟩ rfl ⟨rfl,rfl,rfl,trivial⟩ (((hp.inv gp).mulg hq (bU gp) gq).axis.mono (by decide)) (hm.mono (by decide))) (ae (og (iu:=17) (kc:=[21,22,23]) (c:=((p.inv.mul q).axis.scale m)) (kr:=[24,25,26,27]) rfl ⟨rfl,rfl,rfl,trivial⟩ ⟨rfl,rfl,rfl,rfl,trivial⟩ ((bm (u:=1) (by decide) (by decide)).mono (by decide)) ((((hp.inv gp).mulg hq (bU gp) gq).axis.scale hm).mono (by decide)) kX) (ae (qI (kp:=[0,1,2,3]) (p:=p) (kq:=[24,25,26,27]) (q:=(Qq.mk (Fq.ofInt 1) ((p.inv.mul q).axis.scale m).x ((p.inv.mul q).axis.scale m).y ((p.inv.mul q).axis.scale m).z).canon) (kr:=[28,29,30,31]) ⟨rfl,rfl,rfl,rfl,trivial⟩ ⟨rfl,rfl,rfl,rfl,trivial⟩ ⟨rfl,rfl,rfl,rfl,trivial⟩ (hp.mono (by decide)) ((wK (bm (u:=1) (by decide) (by decide)) (((hp.inv gp).mulg hq (bU gp) gq).axis.scale hm) kX).mono (by decide)) gp (fk (pE (oa (bU gp) gq).comp gm) kX)) ah))))))))
  ai Tryz.func216 (by kernel_rfl) ⟨(ag (xs:=ll p q m) (ks:=[0,1,2,3]) (vs:=p.cs) ⟨rfl,rfl,rfl,rfl,trivial⟩).2 ip,⟨(ag (xs:=ll p q m) (ks:=[4,5,6,7]) (vs:=q.cs) ⟨rfl,rfl,rfl,rfl,trivial⟩).2 iq,⟨(aD (xs:=ll p q m) (k:=8) rfl).2 im,trivial⟩⟩⟩).mono ?_
 rintro e w' ⟨v,rfl,⟨vs,rfl,h1⟩,h2⟩
 match vs,h1 with
 | [r,c],h1=>
  obtain⟨⟨cs,rfl,k1⟩,k2,_⟩:=h1
  have k2:c=_:=k2
  subst k2
  exact⟨_,rfl,(ag (xs:=ll p q m) (ks:=[28,29,30,31]) (vs:=(p.mul (Qq.mk (Fq.ofInt 1) ((p.inv.mul q).axis.scale m).x ((p.inv.mul q).axis.scale m).y ((p.inv.mul q).axis.scale m).z).canon).cs) ⟨rfl,rfl,rfl,rfl,trivial⟩).1 ⟨_,rfl,k1⟩,h2⟩
theorem I_fBtw1 {xs:List Fq} {ys:Rho} {kp:List Nat} {kq:List Nat} {im:Nat} {p:Qq} {q:Qq} {m:Fq} {kr:List Nat} (ap:AtL xs kp p.cs) (aq:AtL xs kq q.cs) (am:xs[im]? =some m) (ar:AtL xs kr (p.way (p.inv.mul q) m).cs) (hp:p.ok 100) (hq:q.ok 100) (hm:m.ok 100) (gp:p.good) (gq:q.good) (gm:m.valid=true) (hw:(p.inv.mul q).w.p≠0):OkI xs ys ⟨216,[row kp,row kq,fr im],.tup [row kr,.one (.i .i64 0)]⟩:=
 ⟨aw Tryz.func216 rfl rfl,fun B w vs hB h=>by
  match vs,h with
  | [vp,vq,vm],h=>
   refine(q_fBtw1 vp vq vm p q m w ((ag ap).1 h.1) ((ag aq).1 h.2.1) ((aD am).1 h.2.2.1) hp hq hm gp gq gm hw).mono ?_
   rintro e w' ⟨v,rfl,h1,h2⟩
   exact⟨_,rfl,⟨[v,.int .i64 0],rfl,(ag ar).2 h1,rfl,trivial⟩,h2⟩⟩
def ng (p:Qq) (q:Qq) (m:Fq):List Fq:=(p.cs++(q.cs++([m]++(p.inv.cs++((p.inv.mul q).cs++([(Fq.ofInt 1)]))))))
theorem q_fBtw4 (vp vq vm:Value) (p:Qq) (q:Qq) (m:Fq) (w:World) (ip:fm w vp p) (iq:fm w vq q) (im:IsQ w vm m) (hp:p.ok 100) (hq:q.ok 100) (hm:m.ok 100) (gp:p.good) (gq:q.good) (gm:m.valid=true) (hw:(p.inv.mul q).w.p=0) (h0:m.p≠0) (h1:m≠(Fq.ofInt 1)):
  Calls Tryz.prog 216 #[vp,vq,vm] w fun e w'=>tP w Qq.zero 4 e w':=by
 refine(cRn (ρ:=frs (ng p q m)++([.val (.int .i64 m.sgn),.val (.int .i64 (m.cmp (Fq.ofInt 1)))]:List Vp)) (args:=[row [0,1,2,3],row [4,5,6,7],fr 8]) (vs:=[vp,vq,vm]) (r:=.tup [.agg [.b false,.sl0,.sl0,.b false,.sl0,.sl0,.b false,.sl0,.sl0,.b false,.sl0,.sl0],.one (.i .i64 4)])
  (ae (vC (kq:=[0,1,2,3]) (q:=p) (kr:=[9,10,11,12]) ⟨rfl,rfl,rfl,rfl,trivial⟩ ⟨rfl,rfl,rfl,rfl,trivial⟩ (hp.mono (by decide)) gp) (ae (qI (kp:=[9,10,11,12]) (p:=p.inv) (kq:=[4,5,6,7]) (q:=q) (kr:=[13,14,15,16]) ⟨rfl,rfl,rfl,rfl,trivial⟩ ⟨rfl,rfl,rfl,rfl,trivial⟩ ⟨rfl,rfl,rfl,rfl,trivial⟩ ((hp.inv gp).mono (by decide)) (hq.mono (by decide)) (bU gp) gq) (ae (I_Half1 (kq:=[13,14,15,16]) (q:=(p.inv.mul q)) ⟨rfl,rfl,rfl,rfl,trivial⟩ (((hp.inv gp).mulg hq (bU gp) gq).mono (by decide)) hw) (ae (aJ (i:=8) rfl (lr (n:=54) rfl) (hm.mono (by decide))) (ae (dU (k:=17) rfl (by decide) (by decide)) (ae (bf (i:=8) (j:=17) rfl rfl (lr (n:=55) rfl) (hm.mono (by decide)) ((bm (u:=1) (by decide) (by decide)).mono (by decide))) ah))))))
  (af (gD (n:=54) (c:=0) (t:=3) rfl (me h0)) (af (gD (n:=55) (c:=0) (t:=3) rfl (gI (mt (bd gm (aG 1)).1 h1))) (ai))) Tryz.func216 (by kernel_rfl) ⟨(ag (xs:=ng p q m) (ks:=[0,1,2,3]) (vs:=p.cs) ⟨rfl,rfl,rfl,rfl,trivial⟩).2 ip,⟨(ag (xs:=ng p q m) (ks:=[4,5,6,7]) (vs:=q.cs) ⟨rfl,rfl,rfl,rfl,trivial⟩).2 iq,⟨(aD (xs:=ng p q m) (k:=8) rfl).2 im,trivial⟩⟩⟩).mono ?_
 rintro e w' ⟨v,rfl,⟨vs,rfl,h1⟩,h2⟩
 match vs,h1 with
 | [r,c],h1=>
  obtain⟨⟨cs,rfl,k1⟩,k2,_⟩:=h1
  have k2:c=_:=k2
  subst k2
  exact⟨_,rfl,⟨_,rfl,oe (n:=4) k1⟩,h2⟩
theorem I_fBtw4 {xs:List Fq} {ys:Rho} {kp:List Nat} {kq:List Nat} {im:Nat} {p:Qq} {q:Qq} {m:Fq} {kr:List Nat} (ap:AtL xs kp p.cs) (aq:AtL xs kq q.cs) (am:xs[im]? =some m) (ar:AtL xs kr Qq.zero.cs) (hp:p.ok 100) (hq:q.ok 100) (hm:m.ok 100) (gp:p.good) (gq:q.good) (gm:m.valid=true) (hw:(p.inv.mul q).w.p=0) (h0:m.p≠0) (h1:m≠(Fq.ofInt 1)):OkI xs ys ⟨216,[row kp,row kq,fr im],.tup [row kr,.one (.i .i64 4)]⟩:=
 ⟨aw Tryz.func216 rfl rfl,fun B w vs hB h=>by
  match vs,h with
  | [vp,vq,vm],h=>
   refine(q_fBtw4 vp vq vm p q m w ((ag ap).1 h.1) ((ag aq).1 h.2.1) ((aD am).1 h.2.2.1) hp hq hm gp gq gm hw h0 h1).mono ?_
   rintro e w' ⟨v,rfl,h1,h2⟩
   exact⟨_,rfl,⟨[v,.int .i64 4],rfl,(ag ar).2 h1,rfl,trivial⟩,h2⟩⟩
def oh (q:Qq):List Fq:=(q.cs++([(Fq.ofInt 1)]))
def mE (q:Qq):List Fq:=(q.cs++([(Fq.ofInt 1)]))
def mF (q:Qq):List Fq:=(q.cs++([(Fq.ofInt 1)]))
def mG (q:Qq):List Fq:=(q.cs++([(Fq.ofInt 1)]))
theorem ol (vq:Value) (q:Qq) (w:World) (iq:fm w vq q) (hq:q.ok 1000000) (gq:q.good):
  Calls Tryz.prog 181 #[vq] w fun e w'=>cw w (.bool true) e w':=by
 by_cases c0:q.w.p=0
 ·by_cases c1:q.x.p=0
  ·by_cases c2:q.y.p=0
   ·by_cases c3:q.z.p=0
    ·exact absurd (by simp[Qq.first,c0,c1,c2,c3]) (good_ne gq)
    ·have e1:q.first=q.z:=by simp[Qq.first,c0,c1,c2,c3]
     refine(cRn (ρ:=frs (oh q)++([.val (.int .i64 q.z.sgn)]:List Vp)) (args:=[row [0,1,2,3]]) (vs:=[vq]) (r:=.v (.one (.b true)))
      (ae (bH (kq:=[0,1,2,3]) (q:=q) (kr:=[0,1,2,3]) ⟨rfl,rfl,rfl,rfl,trivial⟩ ⟨rfl,rfl,rfl,rfl,trivial⟩ (hq.mono (by decide))) (ae (aE (i:=0) (l:=.b true) rfl (lb gq.comp.w) (hq.w.mono (by decide))) (ae (aE (i:=1) (l:=.b true) rfl (lb gq.comp.x) (hq.x.mono (by decide))) (ae (aE (i:=2) (l:=.b true) rfl (lb gq.comp.y) (hq.y.mono (by decide))) (ae (aE (i:=3) (l:=.b true) rfl (lb gq.comp.z) (hq.z.mono (by decide))) (ae (aJ (i:=0) rfl (li (dV c0)) (hq.w.mono (by decide))) (ae (aJ (i:=1) rfl (li (dV c1)) (hq.x.mono (by decide))) (ae (aJ (i:=2) rfl (li (dV c2)) (hq.y.mono (by decide))) (ae (aJ (i:=3) rfl (lr (n:=15) rfl) (hq.z.mono (by decide))) (ae (dU (k:=4) rfl (by decide) (by decide)) (ae (bf (i:=3) (j:=4) rfl rfl (li ((bd gq.comp.z (aG 1)).2 (e1.symm.trans (dX gq)))) (hq.z.mono (by decide)) ((bm (u:=1) (by decide) (by decide)).mono (by decide))) ah)))))))))))
      (af (fA (n:=15) (c:=0) (t:=3) rfl (gH c3)) (ai)) Tryz.func181 (by kernel_rfl) ⟨(ag (xs:=oh q) (ks:=[0,1,2,3]) (vs:=q.cs) ⟨rfl,rfl,rfl,rfl,trivial⟩).2 iq,trivial⟩).mono ?_
     rintro e w' ⟨v,rfl,h1,h2⟩
     exact⟨congrArg Ending.returned h1,h2⟩
   ·have e1:q.first=q.y:=by simp[Qq.first,c0,c1,c2]
    refine(cRn (ρ:=frs (mE q)++([.val (.int .i64 q.y.sgn)]:List Vp)) (args:=[row [0,1,2,3]]) (vs:=[vq]) (r:=.v (.one (.b true)))
     (ae (bH (kq:=[0,1,2,3]) (q:=q) (kr:=[0,1,2,3]) ⟨rfl,rfl,rfl,rfl,trivial⟩ ⟨rfl,rfl,rfl,rfl,trivial⟩ (hq.mono (by decide))) (ae (aE (i:=0) (l:=.b true) rfl (lb gq.comp.w) (hq.w.mono (by decide))) (ae (aE (i:=1) (l:=.b true) rfl (lb gq.comp.x) (hq.x.mono (by decide))) (ae (aE (i:=2) (l:=.b true) rfl (lb gq.comp.y) (hq.y.mono (by decide))) (ae (aE (i:=3) (l:=.b true) rfl (lb gq.comp.z) (hq.z.mono (by decide))) (ae (aJ (i:=0) rfl (li (dV c0)) (hq.w.mono (by decide))) (ae (aJ (i:=1) rfl (li (dV c1)) (hq.x.mono (by decide))) (ae (aJ (i:=2) rfl (lr (n:=15) rfl) (hq.y.mono (by decide))) (ae (dU (k:=4) rfl (by decide) (by decide)) (ae (bf (i:=2) (j:=4) rfl rfl (li ((bd gq.comp.y (aG 1)).2 (e1.symm.trans (dX gq)))) (hq.y.mono (by decide)) ((bm (u:=1) (by decide) (by decide)).mono (by decide))) ah))))))))))
     (af (fA (n:=15) (c:=0) (t:=3) rfl (gH c2)) (ai)) Tryz.func181 (by kernel_rfl) ⟨(ag (xs:=mE q) (ks:=[0,1,2,3]) (vs:=q.cs) ⟨rfl,rfl,rfl,rfl,trivial⟩).2 iq,trivial⟩).mono ?_
    rintro e w' ⟨v,rfl,h1,h2⟩
    exact⟨congrArg Ending.returned h1,h2⟩
  ·have e1:q.first=q.x:=by simp[Qq.first,c0,c1]
   refine(cRn (ρ:=frs (mF q)++([.val (.int .i64 q.x.sgn)]:List Vp)) (args:=[row [0,1,2,3]]) (vs:=[vq]) (r:=.v (.one (.b true)))
    (ae (bH (kq:=[0,1,2,3]) (q:=q) (kr:=[0,1,2,3]) ⟨rfl,rfl,rfl,rfl,trivial⟩ ⟨rfl,rfl,rfl,rfl,trivial⟩ (hq.mono (by decide))) (ae (aE (i:=0) (l:=.b true) rfl (lb gq.comp.w) (hq.w.mono (by decide))) (ae (aE (i:=1) (l:=.b true) rfl (lb gq.comp.x) (hq.x.mono (by decide))) (ae (aE (i:=2) (l:=.b true) rfl (lb gq.comp.y) (hq.y.mono (by decide))) (ae (aE (i:=3) (l:=.b true) rfl (lb gq.comp.z) (hq.z.mono (by decide))) (ae (aJ (i:=0) rfl (li (dV c0)) (hq.w.mono (by decide))) (ae (aJ (i:=1) rfl (lr (n:=15) rfl) (hq.x.mono (by decide))) (ae (dU (k:=4) rfl (by decide) (by decide)) (ae (bf (i:=1) (j:=4) rfl rfl (li ((bd gq.comp.x (aG 1)).2 (e1.symm.trans (dX gq)))) (hq.x.mono (by decide)) ((bm (u:=1) (by decide) (by decide)).mono (by decide))) ah)))))))))
    (af (fA (n:=15) (c:=0) (t:=3) rfl (gH c1)) (ai)) Tryz.func181 (by kernel_rfl) ⟨(ag (xs:=mF q) (ks:=[0,1,2,3]) (vs:=q.cs) ⟨rfl,rfl,rfl,rfl,trivial⟩).2 iq,trivial⟩).mono ?_
   rintro e w' ⟨v,rfl,h1,h2⟩
   exact⟨congrArg Ending.returned h1,h2⟩
 ·have e1:q.first=q.w:=by simp[Qq.first,c0]
  refine(cRn (ρ:=frs (mG q)++([.val (.int .i64 q.w.sgn)]:List Vp)) (args:=[row [0,1,2,3]]) (vs:=[vq]) (r:=.v (.one (.b true)))
   (ae (bH (kq:=[0,1,2,3]) (q:=q) (kr:=[0,1,2,3]) ⟨rfl,rfl,rfl,rfl,trivial⟩ ⟨rfl,rfl,rfl,rfl,trivial⟩ (hq.mono (by decide))) (ae (aE (i:=0) (l:=.b true) rfl (lb gq.comp.w) (hq.w.mono (by decide))) (ae (aE (i:=1) (l:=.b true) rfl (lb gq.comp.x) (hq.x.mono (by decide))) (ae (aE (i:=2) (l:=.b true) rfl (lb gq.comp.y) (hq.y.mono (by decide))) (ae (aE (i:=3) (l:=.b true) rfl (lb gq.comp.z) (hq.z.mono (by decide))) (ae (aJ (i:=0) rfl (lr (n:=15) rfl) (hq.w.mono (by decide))) (ae (dU (k:=4) rfl (by decide) (by decide)) (ae (bf (i:=0) (j:=4) rfl rfl (li ((bd gq.comp.w (aG 1)).2 (e1.symm.trans (dX gq)))) (hq.w.mono (by decide)) ((bm (u:=1) (by decide) (by decide)).mono (by decide))) ah))))))))
   (af (fA (n:=15) (c:=0) (t:=3) rfl (gH c0)) (ai)) Tryz.func181 (by kernel_rfl) ⟨(ag (xs:=mG q) (ks:=[0,1,2,3]) (vs:=q.cs) ⟨rfl,rfl,rfl,rfl,trivial⟩).2 iq,trivial⟩).mono ?_
  rintro e w' ⟨v,rfl,h1,h2⟩
  exact⟨congrArg Ending.returned h1,h2⟩
theorem tU {xs:List Fq} {ys:Rho} {kq:List Nat} {q:Qq} (aq:AtL xs kq q.cs) (hq:q.ok 1000000) (gq:q.good):OkI xs ys ⟨181,[row kq],.v (.one (.b true))⟩:=
 ⟨aw Tryz.func181 rfl rfl,fun B w vs hB h=>by
  match vs,h with
  | [vq],h=>
   refine(ol vq q w ((ag aq).1 h.1) hq gq).mono ?_
   rintro e w' ⟨rfl,h2⟩
   exact⟨_,rfl,rfl,h2⟩⟩
def om (q:Qq):List Fq:=q.cs
def mH (q:Qq):List Fq:=(q.cs++([(Fq.ofInt 1)]))
def mI (q:Qq):List Fq:=(q.cs++([(Fq.ofInt 1)]))
def mJ (q:Qq):List Fq:=(q.cs++([(Fq.ofInt 1)]))
def mK (q:Qq):List Fq:=(q.cs++([(Fq.ofInt 1)]))
theorem tV (vq:Value) (q:Qq) (w:World) (iq:fm w vq q) (hq:q.ok 1000000) (gc:q.comp) (hf:q.first≠(Fq.ofInt 1)):
  Calls Tryz.prog 181 #[vq] w fun e w'=>cw w (.bool false) e w':=by
 by_cases c0:q.w.p=0
 ·by_cases c1:q.x.p=0
  ·by_cases c2:q.y.p=0
   ·by_cases c3:q.z.p=0
    ·refine(cRn (ρ:=frs (om q)++ []) (args:=[row [0,1,2,3]]) (vs:=[vq]) (r:=.v (.one (.b false)))
      (ae (bH (kq:=[0,1,2,3]) (q:=q) (kr:=[0,1,2,3]) ⟨rfl,rfl,rfl,rfl,trivial⟩ ⟨rfl,rfl,rfl,rfl,trivial⟩ (hq.mono (by decide))) (ae (aE (i:=0) (l:=.b true) rfl (lb gc.w) (hq.w.mono (by decide))) (ae (aE (i:=1) (l:=.b true) rfl (lb gc.x) (hq.x.mono (by decide))) (ae (aE (i:=2) (l:=.b true) rfl (lb gc.y) (hq.y.mono (by decide))) (ae (aE (i:=3) (l:=.b true) rfl (lb gc.z) (hq.z.mono (by decide))) (ae (aJ (i:=0) rfl (li (dV c0)) (hq.w.mono (by decide))) (ae (aJ (i:=1) rfl (li (dV c1)) (hq.x.mono (by decide))) (ae (aJ (i:=2) rfl (li (dV c2)) (hq.y.mono (by decide))) (ae (aJ (i:=3) rfl (li (dV c3)) (hq.z.mono (by decide))) ah)))))))))
      ai Tryz.func181 (by kernel_rfl) ⟨(ag (xs:=om q) (ks:=[0,1,2,3]) (vs:=q.cs) ⟨rfl,rfl,rfl,rfl,trivial⟩).2 iq,trivial⟩).mono ?_
     rintro e w' ⟨v,rfl,h1,h2⟩
     exact⟨congrArg Ending.returned h1,h2⟩
    ·have e1:q.first=q.z:=by simp[Qq.first,c0,c1,c2,c3]
     refine(cRn (ρ:=frs (mH q)++([.val (.int .i64 q.z.sgn),.val (.int .i64 (q.z.cmp (Fq.ofInt 1)))]:List Vp)) (args:=[row [0,1,2,3]]) (vs:=[vq]) (r:=.v (.one (.b false)))
      (ae (bH (kq:=[0,1,2,3]) (q:=q) (kr:=[0,1,2,3]) ⟨rfl,rfl,rfl,rfl,trivial⟩ ⟨rfl,rfl,rfl,rfl,trivial⟩ (hq.mono (by decide))) (ae (aE (i:=0) (l:=.b true) rfl (lb gc.w) (hq.w.mono (by decide))) (ae (aE (i:=1) (l:=.b true) rfl (lb gc.x) (hq.x.mono (by decide))) (ae (aE (i:=2) (l:=.b true) rfl (lb gc.y) (hq.y.mono (by decide))) (ae (aE (i:=3) (l:=.b true) rfl (lb gc.z) (hq.z.mono (by decide))) (ae (aJ (i:=0) rfl (li (dV c0)) (hq.w.mono (by decide))) (ae (aJ (i:=1) rfl (li (dV c1)) (hq.x.mono (by decide))) (ae (aJ (i:=2) rfl (li (dV c2)) (hq.y.mono (by decide))) (ae (aJ (i:=3) rfl (lr (n:=15) rfl) (hq.z.mono (by decide))) (ae (dU (k:=4) rfl (by decide) (by decide)) (ae (bf (i:=3) (j:=4) rfl rfl (lr (n:=16) rfl) (hq.z.mono (by decide)) ((bm (u:=1) (by decide) (by decide)).mono (by decide))) ah)))))))))))
      (af (fA (n:=15) (c:=0) (t:=3) rfl (gH c3)) (af (gD (n:=16) (c:=0) (t:=3) rfl (gI (mt (bd gc.z (aG 1)).1 (fun h=>hf (e1.trans h))))) (ai))) Tryz.func181 (by kernel_rfl) ⟨(ag (xs:=mH q) (ks:=[0,1,2,3]) (vs:=q.cs) ⟨rfl,rfl,rfl,rfl,trivial⟩).2 iq,trivial⟩).mono ?_
     rintro e w' ⟨v,rfl,h1,h2⟩
     exact⟨congrArg Ending.returned h1,h2⟩
   ·have e1:q.first=q.y:=by simp[Qq.first,c0,c1,c2]
    refine(cRn (ρ:=frs (mI q)++([.val (.int .i64 q.y.sgn),.val (.int .i64 (q.y.cmp (Fq.ofInt 1)))]:List Vp)) (args:=[row [0,1,2,3]]) (vs:=[vq]) (r:=.v (.one (.b false)))
     (ae (bH (kq:=[0,1,2,3]) (q:=q) (kr:=[0,1,2,3]) ⟨rfl,rfl,rfl,rfl,trivial⟩ ⟨rfl,rfl,rfl,rfl,trivial⟩ (hq.mono (by decide))) (ae (aE (i:=0) (l:=.b true) rfl (lb gc.w) (hq.w.mono (by decide))) (ae (aE (i:=1) (l:=.b true) rfl (lb gc.x) (hq.x.mono (by decide))) (ae (aE (i:=2) (l:=.b true) rfl (lb gc.y) (hq.y.mono (by decide))) (ae (aE (i:=3) (l:=.b true) rfl (lb gc.z) (hq.z.mono (by decide))) (ae (aJ (i:=0) rfl (li (dV c0)) (hq.w.mono (by decide))) (ae (aJ (i:=1) rfl (li (dV c1)) (hq.x.mono (by decide))) (ae (aJ (i:=2) rfl (lr (n:=15) rfl) (hq.y.mono (by decide))) (ae (dU (k:=4) rfl (by decide) (by decide)) (ae (bf (i:=2) (j:=4) rfl rfl (lr (n:=16) rfl) (hq.y.mono (by decide)) ((bm (u:=1) (by decide) (by decide)).mono (by decide))) ah))))))))))
     (af (fA (n:=15) (c:=0) (t:=3) rfl (gH c2)) (af (gD (n:=16) (c:=0) (t:=3) rfl (gI (mt (bd gc.y (aG 1)).1 (fun h=>hf (e1.trans h))))) (ai))) Tryz.func181 (by kernel_rfl) ⟨(ag (xs:=mI q) (ks:=[0,1,2,3]) (vs:=q.cs) ⟨rfl,rfl,rfl,rfl,trivial⟩).2 iq,trivial⟩).mono ?_
    rintro e w' ⟨v,rfl,h1,h2⟩
    exact⟨congrArg Ending.returned h1,h2⟩
  ·have e1:q.first=q.x:=by simp[Qq.first,c0,c1]
   refine(cRn (ρ:=frs (mJ q)++([.val (.int .i64 q.x.sgn),.val (.int .i64 (q.x.cmp (Fq.ofInt 1)))]:List Vp)) (args:=[row [0,1,2,3]]) (vs:=[vq]) (r:=.v (.one (.b false)))
    (ae (bH (kq:=[0,1,2,3]) (q:=q) (kr:=[0,1,2,3]) ⟨rfl,rfl,rfl,rfl,trivial⟩ ⟨rfl,rfl,rfl,rfl,trivial⟩ (hq.mono (by decide))) (ae (aE (i:=0) (l:=.b true) rfl (lb gc.w) (hq.w.mono (by decide))) (ae (aE (i:=1) (l:=.b true) rfl (lb gc.x) (hq.x.mono (by decide))) (ae (aE (i:=2) (l:=.b true) rfl (lb gc.y) (hq.y.mono (by decide))) (ae (aE (i:=3) (l:=.b true) rfl (lb gc.z) (hq.z.mono (by decide))) (ae (aJ (i:=0) rfl (li (dV c0)) (hq.w.mono (by decide))) (ae (aJ (i:=1) rfl (lr (n:=15) rfl) (hq.x.mono (by decide))) (ae (dU (k:=4) rfl (by decide) (by decide)) (ae (bf (i:=1) (j:=4) rfl rfl (lr (n:=16) rfl) (hq.x.mono (by decide)) ((bm (u:=1) (by decide) (by decide)).mono (by decide))) ah)))))))))
    (af (fA (n:=15) (c:=0) (t:=3) rfl (gH c1)) (af (gD (n:=16) (c:=0) (t:=3) rfl (gI (mt (bd gc.x (aG 1)).1 (fun h=>hf (e1.trans h))))) (ai))) Tryz.func181 (by kernel_rfl) ⟨(ag (xs:=mJ q) (ks:=[0,1,2,3]) (vs:=q.cs) ⟨rfl,rfl,rfl,rfl,trivial⟩).2 iq,trivial⟩).mono ?_
   rintro e w' ⟨v,rfl,h1,h2⟩
   exact⟨congrArg Ending.returned h1,h2⟩
 ·have e1:q.first=q.w:=by simp[Qq.first,c0]
  refine(cRn (ρ:=frs (mK q)++([.val (.int .i64 q.w.sgn),.val (.int .i64 (q.w.cmp (Fq.ofInt 1)))]:List Vp)) (args:=[row [0,1,2,3]]) (vs:=[vq]) (r:=.v (.one (.b false)))
   (ae (bH (kq:=[0,1,2,3]) (q:=q) (kr:=[0,1,2,3]) ⟨rfl,rfl,rfl,rfl,trivial⟩ ⟨rfl,rfl,rfl,rfl,trivial⟩ (hq.mono (by decide))) (ae (aE (i:=0) (l:=.b true) rfl (lb gc.w) (hq.w.mono (by decide))) (ae (aE (i:=1) (l:=.b true) rfl (lb gc.x) (hq.x.mono (by decide))) (ae (aE (i:=2) (l:=.b true) rfl (lb gc.y) (hq.y.mono (by decide))) (ae (aE (i:=3) (l:=.b true) rfl (lb gc.z) (hq.z.mono (by decide))) (ae (aJ (i:=0) rfl (lr (n:=15) rfl) (hq.w.mono (by decide))) (ae (dU (k:=4) rfl (by decide) (by decide)) (ae (bf (i:=0) (j:=4) rfl rfl (lr (n:=16) rfl) (hq.w.mono (by decide)) ((bm (u:=1) (by decide) (by decide)).mono (by decide))) ah))))))))
   (af (fA (n:=15) (c:=0) (t:=3) rfl (gH c0)) (af (gD (n:=16) (c:=0) (t:=3) rfl (gI (mt (bd gc.w (aG 1)).1 (fun h=>hf (e1.trans h))))) (ai))) Tryz.func181 (by kernel_rfl) ⟨(ag (xs:=mK q) (ks:=[0,1,2,3]) (vs:=q.cs) ⟨rfl,rfl,rfl,rfl,trivial⟩).2 iq,trivial⟩).mono ?_
  rintro e w' ⟨v,rfl,h1,h2⟩
  exact⟨congrArg Ending.returned h1,h2⟩
end Go.Proofs.YtggfmklppkioeaaGreat
namespace Go.Proofs.YtggfmklppkioeaaGreat
set_option linter.unusedSimpArgs false
set_option linter.unusedVariables false
set_option maxRecDepth 100000
open Go.RowKit
/-- A pose: a rotation and a position. -/
structure Pq where
 rot:Qq
 pos:Vq
def Pq.cs (p:Pq):List Fq:=[p.rot.w,p.rot.x,p.rot.y,p.rot.z,p.pos.x,p.pos.y,p.pos.z]
structure Pq.ok (d:Nat) (p:Pq):Prop where
 rot:p.rot.ok d
 pos:p.pos.ok d
structure Pq.good (p:Pq):Prop where
 rot:p.rot.good
 pos:p.pos.good
def Pq.id:Pq:=⟨Qq.id,Vq.of 0 0 0⟩
def Pq.zero:Pq:=⟨Qq.zero,⟨.zero,.zero,.zero⟩⟩
/-- The image of a point. -/
def Pq.app (p:Pq) (v:Vq):Vq:=(p.rot.app v).add p.pos
/-- One after the other. -/
def Pq.mul (a b:Pq):Pq:=⟨a.rot.mul b.rot,a.app b.pos⟩
def Pq.inv (a:Pq):Pq:=⟨a.rot.inv,a.rot.inv.app (a.pos.scale (Fq.ofInt (-1)))⟩
theorem Pq.ok.mono {p:Pq} {d e:Nat} (h:p.ok d) (k:d≤e):p.ok e:=⟨h.rot.mono k,h.pos.mono k⟩
theorem Pq.good.app {p:Pq} {v:Vq} (h:p.good) (k:v.good):(p.app v).good:=(sa h.rot k).add h.pos
theorem Pq.good.mul {a b:Pq} (h:a.good) (k:b.good):(a.mul b).good:=⟨oa h.rot k.rot,h.app k.pos⟩
theorem Pq.good.inv {a:Pq} (h:a.good):a.inv.good:=⟨bU h.rot,sa (bU h.rot) (h.pos.scale (aG _))⟩
theorem Pq.good.id:Pq.id.good:=⟨id_good,Vq.good.of 0 0 0⟩
theorem Pq.ok.app {p:Pq} {v:Vq} {d e:Nat} (h:p.ok d) (k:v.ok e) (g:p.good):(p.app v).ok (700*(d+e)+300):=((h.rot.app k g.rot).add h.pos).mono (by omega)
theorem Pq.ok.mul {a b:Pq} {d e:Nat} (h:a.ok d) (k:b.ok e) (g:a.good) (l:b.good):(a.mul b).ok (700*(d+e)+300):=⟨(h.rot.mulg k.rot g.rot l.rot).mono (by omega),h.app k.pos g⟩
theorem Pq.ok.inv {a:Pq} {d:Nat} (h:a.ok d) (g:a.good):a.inv.ok (1000*d+3000):=⟨(h.rot.inv g.rot).mono (by omega),((h.rot.inv g.rot).app (h.pos.scale (bm (by decide) (by decide))) (bU g.rot)).mono (by omega)⟩
theorem Pq.ok.id:Pq.id.ok 2:=⟨ok_id,ok_vof (by decide) (by decide) (by decide) (by decide) (by decide) (by decide)⟩
abbrev dY (w:World) (v:Value) (p:Pq):Prop:=IsL w v [p.rot.w.raw,p.rot.x.raw,p.rot.y.raw,p.rot.z.raw,p.pos.x.raw,p.pos.y.raw,p.pos.z.raw]
abbrev oo (W:World) (p:Pq) (e:Ending) (w':World):Prop:=RetL W [p.rot.w.raw,p.rot.x.raw,p.rot.y.raw,p.rot.z.raw,p.pos.x.raw,p.pos.y.raw,p.pos.z.raw] e w'
abbrev zq (W:World) (p:Pq) (c:Int) (e:Ending) (w':World):Prop:=RetLE W [p.rot.w.raw,p.rot.x.raw,p.rot.y.raw,p.rot.z.raw,p.pos.x.raw,p.pos.y.raw,p.pos.z.raw] c e w'
def mh (a:Vq) (b:Vq):List Fq:=[a.x,a.y,a.z,b.x,b.y,b.z]
theorem wL (va vb:Value) (a:Vq) (b:Vq) (w:World) (ia:dW w va a) (ib:dW w vb b) (ha:a.ok 100000000) (hb:b.ok 100000000) (e0:a=b) (ga:a.good) (gb:b.good):
  Calls Tryz.prog 27 #[va,vb] w fun e w'=>cw w (.bool true) e w':=by
 refine(cRn (ρ:=frs (mh a b)++ []) (args:=[row [0,1,2],row [3,4,5]]) (vs:=[va,vb]) (r:=.v (.one (.b true)))
  (ae (bf (i:=0) (j:=3) rfl rfl (li ((bd ga.x gb.x).2 (congrArg Vq.x e0))) (ha.x.mono (by decide)) (hb.x.mono (by decide))) (ae (bf (i:=1) (j:=4) rfl rfl (li ((bd ga.y gb.y).2 (congrArg Vq.y e0))) (ha.y.mono (by decide)) (hb.y.mono (by decide))) (ae (bf (i:=2) (j:=5) rfl rfl (li ((bd ga.z gb.z).2 (congrArg Vq.z e0))) (ha.z.mono (by decide)) (hb.z.mono (by decide))) ah)))
  ai Tryz.func27 (by kernel_rfl) ⟨(ag (xs:=mh a b) (ks:=[0,1,2]) (vs:=[a.x,a.y,a.z]) ⟨rfl,rfl,rfl,trivial⟩).2 ia,⟨(ag (xs:=mh a b) (ks:=[3,4,5]) (vs:=[b.x,b.y,b.z]) ⟨rfl,rfl,rfl,trivial⟩).2 ib,trivial⟩⟩).mono ?_
 rintro e w' ⟨v,rfl,h1,h2⟩
 exact⟨congrArg Ending.returned h1,h2⟩
theorem wM {xs:List Fq} {ys:Rho} {ka:List Nat} {kb:List Nat} {a:Vq} {b:Vq} (aa:AtL xs ka [a.x,a.y,a.z]) (ab:AtL xs kb [b.x,b.y,b.z]) (ha:a.ok 100000000) (hb:b.ok 100000000) (e0:a=b) (ga:a.good) (gb:b.good):OkI xs ys ⟨27,[row ka,row kb],.v (.one (.b true))⟩:=
 ⟨aw Tryz.func27 rfl rfl,fun B w vs hB h=>by
  match vs,h with
  | [va,vb],h=>
   refine(wL va vb a b w ((ag aa).1 h.1) ((ag ab).1 h.2.1) ha hb e0 ga gb).mono ?_
   rintro e w' ⟨rfl,h2⟩
   exact⟨_,rfl,rfl,h2⟩⟩
def mi (a:Vq) (b:Vq):List Fq:=[a.x,a.y,a.z,b.x,b.y,b.z]
def jY (a:Vq) (b:Vq):List Fq:=[a.x,a.y,a.z,b.x,b.y,b.z]
def jZ (a:Vq) (b:Vq):List Fq:=[a.x,a.y,a.z,b.x,b.y,b.z]
theorem wN (va vb:Value) (a:Vq) (b:Vq) (w:World) (ia:dW w va a) (ib:dW w vb b) (ha:a.ok 100000000) (hb:b.ok 100000000) (e0:a≠b) (ga:a.good) (gb:b.good):
  Calls Tryz.prog 27 #[va,vb] w fun e w'=>cw w (.bool false) e w':=by
 by_cases c0:a.x=b.x
 ·by_cases c1:a.y=b.y
  ·by_cases c2:a.z=b.z
   ·exact absurd (by cases a;cases b;simp only at c0 c1 c2;subst c0 c1 c2;rfl) e0
   ·refine(cRn (ρ:=frs (mi a b)++([.val (.int .i64 (a.z.cmp b.z))]:List Vp)) (args:=[row [0,1,2],row [3,4,5]]) (vs:=[va,vb]) (r:=.v (.one (.b false)))
     (ae (bf (i:=0) (j:=3) rfl rfl (li ((bd ga.x gb.x).2 c0)) (ha.x.mono (by decide)) (hb.x.mono (by decide))) (ae (bf (i:=1) (j:=4) rfl rfl (li ((bd ga.y gb.y).2 c1)) (ha.y.mono (by decide)) (hb.y.mono (by decide))) (ae (bf (i:=2) (j:=5) rfl rfl (lr (n:=18) rfl) (ha.z.mono (by decide)) (hb.z.mono (by decide))) ah)))
     (af (qr (n:=18) (c:=0) (u:=(a.z.cmp b.z)) (b:=false) (t:=3) rfl (gI (mt (bd ga.z gb.z).1 c2))) (ai)) Tryz.func27 (by kernel_rfl) ⟨(ag (xs:=mi a b) (ks:=[0,1,2]) (vs:=[a.x,a.y,a.z]) ⟨rfl,rfl,rfl,trivial⟩).2 ia,⟨(ag (xs:=mi a b) (ks:=[3,4,5]) (vs:=[b.x,b.y,b.z]) ⟨rfl,rfl,rfl,trivial⟩).2 ib,trivial⟩⟩).mono ?_
    rintro e w' ⟨v,rfl,h1,h2⟩
    exact⟨congrArg Ending.returned h1,h2⟩
  ·refine(cRn (ρ:=frs (jY a b)++([.val (.int .i64 (a.y.cmp b.y))]:List Vp)) (args:=[row [0,1,2],row [3,4,5]]) (vs:=[va,vb]) (r:=.v (.one (.b false)))
    (ae (bf (i:=0) (j:=3) rfl rfl (li ((bd ga.x gb.x).2 c0)) (ha.x.mono (by decide)) (hb.x.mono (by decide))) (ae (bf (i:=1) (j:=4) rfl rfl (lr (n:=18) rfl) (ha.y.mono (by decide)) (hb.y.mono (by decide))) ah))
    (af (qr (n:=18) (c:=0) (u:=(a.y.cmp b.y)) (b:=false) (t:=3) rfl (gI (mt (bd ga.y gb.y).1 c1))) (ai)) Tryz.func27 (by kernel_rfl) ⟨(ag (xs:=jY a b) (ks:=[0,1,2]) (vs:=[a.x,a.y,a.z]) ⟨rfl,rfl,rfl,trivial⟩).2 ia,⟨(ag (xs:=jY a b) (ks:=[3,4,5]) (vs:=[b.x,b.y,b.z]) ⟨rfl,rfl,rfl,trivial⟩).2 ib,trivial⟩⟩).mono ?_
   rintro e w' ⟨v,rfl,h1,h2⟩
   exact⟨congrArg Ending.returned h1,h2⟩
 ·refine(cRn (ρ:=frs (jZ a b)++([.val (.int .i64 (a.x.cmp b.x))]:List Vp)) (args:=[row [0,1,2],row [3,4,5]]) (vs:=[va,vb]) (r:=.v (.one (.b false)))
   (ae (bf (i:=0) (j:=3) rfl rfl (lr (n:=18) rfl) (ha.x.mono (by decide)) (hb.x.mono (by decide))) ah)
   (af (qr (n:=18) (c:=0) (u:=(a.x.cmp b.x)) (b:=false) (t:=3) rfl (gI (mt (bd ga.x gb.x).1 c0))) (ai)) Tryz.func27 (by kernel_rfl) ⟨(ag (xs:=jZ a b) (ks:=[0,1,2]) (vs:=[a.x,a.y,a.z]) ⟨rfl,rfl,rfl,trivial⟩).2 ia,⟨(ag (xs:=jZ a b) (ks:=[3,4,5]) (vs:=[b.x,b.y,b.z]) ⟨rfl,rfl,rfl,trivial⟩).2 ib,trivial⟩⟩).mono ?_
  rintro e w' ⟨v,rfl,h1,h2⟩
  exact⟨congrArg Ending.returned h1,h2⟩
theorem wO {xs:List Fq} {ys:Rho} {ka:List Nat} {kb:List Nat} {a:Vq} {b:Vq} (aa:AtL xs ka [a.x,a.y,a.z]) (ab:AtL xs kb [b.x,b.y,b.z]) (ha:a.ok 100000000) (hb:b.ok 100000000) (e0:a≠b) (ga:a.good) (gb:b.good):OkI xs ys ⟨27,[row ka,row kb],.v (.one (.b false))⟩:=
 ⟨aw Tryz.func27 rfl rfl,fun B w vs hB h=>by
  match vs,h with
  | [va,vb],h=>
   refine(wN va vb a b w ((ag aa).1 h.1) ((ag ab).1 h.2.1) ha hb e0 ga gb).mono ?_
   rintro e w' ⟨rfl,h2⟩
   exact⟨_,rfl,rfl,h2⟩⟩
def lm (a:Vq) (b:Vq) (k:Fq):List Fq:=[a.x,a.y,a.z,b.x,b.y,b.z,k,(b.sub a).x,(b.sub a).y,(b.sub a).z,((b.sub a).scale k).x,((b.sub a).scale k).y,((b.sub a).scale k).z,(a.add ((b.sub a).scale k)).x,(a.add ((b.sub a).scale k)).y,(a.add ((b.sub a).scale k)).z]
theorem q_vLerp (va vb vk:Value) (a:Vq) (b:Vq) (k:Fq) (w:World) (ia:dW w va a) (ib:dW w vb b) (ik:IsQ w vk k) (ha:a.ok 10000000) (hb:b.ok 10000000) (hk:k.ok 10000000):
  Calls Tryz.prog 217 #[va,vb,vk] w fun e w'=>jI w (a.lerp b k) e w':=by
 refine(cRn (ρ:=frs (lm a b k)++ []) (args:=[row [0,1,2],row [3,4,5],fr 6]) (vs:=[va,vb,vk]) (r:=.v (row [13,14,15]))
  (ae (I_vSub (ka:=[3,4,5]) (a:=b) (kb:=[0,1,2]) (b:=a) (kr:=[7,8,9]) ⟨rfl,rfl,rfl,trivial⟩ ⟨rfl,rfl,rfl,trivial⟩ ⟨rfl,rfl,rfl,trivial⟩ (hb.mono (by decide)) (ha.mono (by decide))) (ae (gJ (ka:=[7,8,9]) (a:=(b.sub a)) (ik:=6) (kr:=[10,11,12]) ⟨rfl,rfl,rfl,trivial⟩ rfl ⟨rfl,rfl,rfl,trivial⟩ ((hb.sub ha).mono (by decide)) (hk.mono (by decide))) (ae (tS (ka:=[0,1,2]) (a:=a) (kb:=[10,11,12]) (b:=((b.sub a).scale k)) (kr:=[13,14,15]) ⟨rfl,rfl,rfl,trivial⟩ ⟨rfl,rfl,rfl,trivial⟩ ⟨rfl,rfl,rfl,trivial⟩ (ha.mono (by decide)) (((hb.sub ha).scale hk).mono (by decide))) ah)))
  ai Tryz.func217 (by kernel_rfl) ⟨(ag (xs:=lm a b k) (ks:=[0,1,2]) (vs:=[a.x,a.y,a.z]) ⟨rfl,rfl,rfl,trivial⟩).2 ia,⟨(ag (xs:=lm a b k) (ks:=[3,4,5]) (vs:=[b.x,b.y,b.z]) ⟨rfl,rfl,rfl,trivial⟩).2 ib,⟨(aD (xs:=lm a b k) (k:=6) rfl).2 ik,trivial⟩⟩⟩).mono ?_
 rintro e w' ⟨v,rfl,h1,h2⟩
 exact⟨v,rfl,(ag (xs:=lm a b k) (ks:=[13,14,15]) (vs:=[(a.add ((b.sub a).scale k)).x,(a.add ((b.sub a).scale k)).y,(a.add ((b.sub a).scale k)).z]) ⟨rfl,rfl,rfl,trivial⟩).1 h1,h2⟩
theorem I_vLerp {xs:List Fq} {ys:Rho} {ka:List Nat} {kb:List Nat} {ik:Nat} {a:Vq} {b:Vq} {k:Fq} {kr:List Nat} (aa:AtL xs ka [a.x,a.y,a.z]) (ab:AtL xs kb [b.x,b.y,b.z]) (ak:xs[ik]? =some k) (ar:AtL xs kr [(a.lerp b k).x,(a.lerp b k).y,(a.lerp b k).z]) (ha:a.ok 10000000) (hb:b.ok 10000000) (hk:k.ok 10000000):OkI xs ys ⟨217,[row ka,row kb,fr ik],.v (row kr)⟩:=
 ⟨aw Tryz.func217 rfl rfl,fun B w vs hB h=>by
  match vs,h with
  | [va,vb,vk],h=>
   refine(q_vLerp va vb vk a b k w ((ag aa).1 h.1) ((ag ab).1 h.2.1) ((aD ak).1 h.2.2.1) ha hb hk).mono ?_
   rintro e w' ⟨v,rfl,h1,h2⟩
   exact⟨v,rfl,(ag ar).2 h1,h2⟩⟩
def sb (a:Vq):List Fq:=[a.x,a.y,a.z]
theorem zr (va:Value) (a:Vq) (w:World) (ia:dW w va a) (ha:a.ok 1000000) (ga:a.good):
  Calls Tryz.prog 182 #[va] w fun e w'=>cw w (.bool true) e w':=by
 refine(cRn (ρ:=frs (sb a)++ []) (args:=[row [0,1,2]]) (vs:=[va]) (r:=.v (.one (.b true)))
  (ae (aE (i:=0) (l:=.b true) rfl (lb ga.x) (ha.x.mono (by decide))) (ae (aE (i:=1) (l:=.b true) rfl (lb ga.y) (ha.y.mono (by decide))) (ae (aE (i:=2) (l:=.b true) rfl (lb ga.z) (ha.z.mono (by decide))) ah)))
  ai Tryz.func182 (by kernel_rfl) ⟨(ag (xs:=sb a) (ks:=[0,1,2]) (vs:=[a.x,a.y,a.z]) ⟨rfl,rfl,rfl,trivial⟩).2 ia,trivial⟩).mono ?_
 rintro e w' ⟨v,rfl,h1,h2⟩
 exact⟨congrArg Ending.returned h1,h2⟩
theorem zs {xs:List Fq} {ys:Rho} {ka:List Nat} {a:Vq} (aa:AtL xs ka [a.x,a.y,a.z]) (ha:a.ok 1000000) (ga:a.good):OkI xs ys ⟨182,[row ka],.v (.one (.b true))⟩:=
 ⟨aw Tryz.func182 rfl rfl,fun B w vs hB h=>by
  match vs,h with
  | [va],h=>
   refine(zr va a w ((ag aa).1 h.1) ha ga).mono ?_
   rintro e w' ⟨rfl,h2⟩
   exact⟨_,rfl,rfl,h2⟩⟩
def pH:List Fq:=[(Fq.ofInt 0)]
theorem wP (w:World):
  Calls Tryz.prog 64 #[.int .i64 (0),.int .i64 (0),.int .i64 (0)] w fun e w'=>jI w (Vq.of 0 0 0) e w':=by
 refine(cRn (ρ:=frs (pH)++ []) (args:=[.one (.i .i64 0),.one (.i .i64 0),.one (.i .i64 0)]) (vs:=[.int .i64 (0),.int .i64 (0),.int .i64 (0)]) (r:=.v (row [0,0,0]))
  (ae (qz (k:=0) rfl (by decide) (by decide)) ah)
  ai Tryz.func64 (by kernel_rfl) ⟨rfl,⟨rfl,⟨rfl,trivial⟩⟩⟩).mono ?_
 rintro e w' ⟨v,rfl,h1,h2⟩
 exact⟨v,rfl,(ag (xs:=pH) (ks:=[0,0,0]) (vs:=[(Fq.ofInt 0),(Fq.ofInt 0),(Fq.ofInt 0)]) ⟨rfl,rfl,rfl,trivial⟩).1 h1,h2⟩
theorem wQ {xs:List Fq} {ys:Rho} {kr:List Nat} (ar:AtL xs kr [(Vq.of 0 0 0).x,(Vq.of 0 0 0).y,(Vq.of 0 0 0).z]):OkI xs ys ⟨64,[.one (.i .i64 0),.one (.i .i64 0),.one (.i .i64 0)],.v (row kr)⟩:=
 ⟨aw Tryz.func64 rfl rfl,fun B w vs hB h=>by
  match vs,h with
  | [vx,vy,vz],h=>
   have ex:vx= .int .i64 (0):=h.1
   subst ex
   have ey:vy= .int .i64 (0):=h.2.1
   subst ey
   have ez:vz= .int .i64 (0):=h.2.2.1
   subst ez
   refine(wP w).mono ?_
   rintro e w' ⟨v,rfl,h1,h2⟩
   exact⟨v,rfl,(ag ar).2 h1,h2⟩⟩
def oq (a:Pq):List Fq:=a.cs
theorem zt (va:Value) (a:Pq) (w:World) (ia:dY w va a) (ha:a.ok 1000000000):
  Calls Tryz.prog 78 #[va] w fun e w'=>oo w a e w':=by
 refine(cRn (ρ:=frs (oq a)++ []) (args:=[row [0,1,2,3,4,5,6]]) (vs:=[va]) (r:=.v (row [0,1,2,3,4,5,6]))
  (ah)
  ai Tryz.func78 (by kernel_rfl) ⟨(ag (xs:=oq a) (ks:=[0,1,2,3,4,5,6]) (vs:=a.cs) ⟨rfl,rfl,rfl,rfl,rfl,rfl,rfl,trivial⟩).2 ia,trivial⟩).mono ?_
 rintro e w' ⟨v,rfl,h1,h2⟩
 exact⟨v,rfl,(ag (xs:=oq a) (ks:=[0,1,2,3,4,5,6]) (vs:=a.cs) ⟨rfl,rfl,rfl,rfl,rfl,rfl,rfl,trivial⟩).1 h1,h2⟩
theorem zu {xs:List Fq} {ys:Rho} {ka:List Nat} {a:Pq} {kr:List Nat} (aa:AtL xs ka a.cs) (ar:AtL xs kr a.cs) (ha:a.ok 1000000000):OkI xs ys ⟨78,[row ka],.v (row kr)⟩:=
 ⟨aw Tryz.func78 rfl rfl,fun B w vs hB h=>by
  match vs,h with
  | [va],h=>
   refine(zt va a w ((ag aa).1 h.1) ha).mono ?_
   rintro e w' ⟨v,rfl,h1,h2⟩
   exact⟨v,rfl,(ag ar).2 h1,h2⟩⟩
def j0 (a:Pq) (b:Pq):List Fq:=(a.cs++(b.cs))
theorem tW (va vb:Value) (a:Pq) (b:Pq) (w:World) (ia:dY w va a) (ib:dY w vb b) (ha:a.ok 100000000) (hb:b.ok 100000000) (e0:a=b) (ga:a.good) (gb:b.good):
  Calls Tryz.prog 55 #[va,vb] w fun e w'=>cw w (.bool true) e w':=by
 refine(cRn (ρ:=frs (j0 a b)++ []) (args:=[row [0,1,2,3,4,5,6],row [7,8,9,10,11,12,13]]) (vs:=[va,vb]) (r:=.v (.one (.b true)))
  (ae (pG (ka:=[0,1,2,3]) (a:=a.rot) (kb:=[7,8,9,10]) (b:=b.rot) ⟨rfl,rfl,rfl,rfl,trivial⟩ ⟨rfl,rfl,rfl,rfl,trivial⟩ (ha.rot.mono (by decide)) (hb.rot.mono (by decide)) (congrArg Pq.rot e0) ga.rot.comp gb.rot.comp) (ae (wM (ka:=[4,5,6]) (a:=a.pos) (kb:=[11,12,13]) (b:=b.pos) ⟨rfl,rfl,rfl,trivial⟩ ⟨rfl,rfl,rfl,trivial⟩ (ha.pos.mono (by decide)) (hb.pos.mono (by decide)) (congrArg Pq.pos e0) ga.pos gb.pos) ah))
  ai Tryz.func55 (by kernel_rfl) ⟨(ag (xs:=j0 a b) (ks:=[0,1,2,3,4,5,6]) (vs:=a.cs) ⟨rfl,rfl,rfl,rfl,rfl,rfl,rfl,trivial⟩).2 ia,⟨(ag (xs:=j0 a b) (ks:=[7,8,9,10,11,12,13]) (vs:=b.cs) ⟨rfl,rfl,rfl,rfl,rfl,rfl,rfl,trivial⟩).2 ib,trivial⟩⟩).mono ?_
 rintro e w' ⟨v,rfl,h1,h2⟩
 exact⟨congrArg Ending.returned h1,h2⟩
theorem tX {xs:List Fq} {ys:Rho} {ka:List Nat} {kb:List Nat} {a:Pq} {b:Pq} (aa:AtL xs ka a.cs) (ab:AtL xs kb b.cs) (ha:a.ok 100000000) (hb:b.ok 100000000) (e0:a=b) (ga:a.good) (gb:b.good):OkI xs ys ⟨55,[row ka,row kb],.v (.one (.b true))⟩:=
 ⟨aw Tryz.func55 rfl rfl,fun B w vs hB h=>by
  match vs,h with
  | [va,vb],h=>
   refine(tW va vb a b w ((ag aa).1 h.1) ((ag ab).1 h.2.1) ha hb e0 ga gb).mono ?_
   rintro e w' ⟨rfl,h2⟩
   exact⟨_,rfl,rfl,h2⟩⟩
def j1 (a:Pq) (b:Pq):List Fq:=(a.cs++(b.cs))
def gK (a:Pq) (b:Pq):List Fq:=(a.cs++(b.cs))
theorem tY (va vb:Value) (a:Pq) (b:Pq) (w:World) (ia:dY w va a) (ib:dY w vb b) (ha:a.ok 100000000) (hb:b.ok 100000000) (e0:a≠b) (ga:a.good) (gb:b.good):
  Calls Tryz.prog 55 #[va,vb] w fun e w'=>cw w (.bool false) e w':=by
 by_cases c0:a.rot=b.rot
 ·by_cases c1:a.pos=b.pos
  ·exact absurd (by cases a;cases b;simp only at c0 c1;subst c0 c1;rfl) e0
  ·refine(cRn (ρ:=frs (j1 a b)++ []) (args:=[row [0,1,2,3,4,5,6],row [7,8,9,10,11,12,13]]) (vs:=[va,vb]) (r:=.v (.one (.b false)))
    (ae (pG (ka:=[0,1,2,3]) (a:=a.rot) (kb:=[7,8,9,10]) (b:=b.rot) ⟨rfl,rfl,rfl,rfl,trivial⟩ ⟨rfl,rfl,rfl,rfl,trivial⟩ (ha.rot.mono (by decide)) (hb.rot.mono (by decide)) c0 ga.rot.comp gb.rot.comp) (ae (wO (ka:=[4,5,6]) (a:=a.pos) (kb:=[11,12,13]) (b:=b.pos) ⟨rfl,rfl,rfl,trivial⟩ ⟨rfl,rfl,rfl,trivial⟩ (ha.pos.mono (by decide)) (hb.pos.mono (by decide)) c1 ga.pos gb.pos) ah))
    ai Tryz.func55 (by kernel_rfl) ⟨(ag (xs:=j1 a b) (ks:=[0,1,2,3,4,5,6]) (vs:=a.cs) ⟨rfl,rfl,rfl,rfl,rfl,rfl,rfl,trivial⟩).2 ia,⟨(ag (xs:=j1 a b) (ks:=[7,8,9,10,11,12,13]) (vs:=b.cs) ⟨rfl,rfl,rfl,rfl,rfl,rfl,rfl,trivial⟩).2 ib,trivial⟩⟩).mono ?_
   rintro e w' ⟨v,rfl,h1,h2⟩
   exact⟨congrArg Ending.returned h1,h2⟩
 ·refine(cRn (ρ:=frs (gK a b)++ []) (args:=[row [0,1,2,3,4,5,6],row [7,8,9,10,11,12,13]]) (vs:=[va,vb]) (r:=.v (.one (.b false)))
   (ae (wJ (ka:=[0,1,2,3]) (a:=a.rot) (kb:=[7,8,9,10]) (b:=b.rot) ⟨rfl,rfl,rfl,rfl,trivial⟩ ⟨rfl,rfl,rfl,rfl,trivial⟩ (ha.rot.mono (by decide)) (hb.rot.mono (by decide)) c0 ga.rot.comp gb.rot.comp) ah)
   ai Tryz.func55 (by kernel_rfl) ⟨(ag (xs:=gK a b) (ks:=[0,1,2,3,4,5,6]) (vs:=a.cs) ⟨rfl,rfl,rfl,rfl,rfl,rfl,rfl,trivial⟩).2 ia,⟨(ag (xs:=gK a b) (ks:=[7,8,9,10,11,12,13]) (vs:=b.cs) ⟨rfl,rfl,rfl,rfl,rfl,rfl,rfl,trivial⟩).2 ib,trivial⟩⟩).mono ?_
  rintro e w' ⟨v,rfl,h1,h2⟩
  exact⟨congrArg Ending.returned h1,h2⟩
theorem tZ {xs:List Fq} {ys:Rho} {ka:List Nat} {kb:List Nat} {a:Pq} {b:Pq} (aa:AtL xs ka a.cs) (ab:AtL xs kb b.cs) (ha:a.ok 100000000) (hb:b.ok 100000000) (e0:a≠b) (ga:a.good) (gb:b.good):OkI xs ys ⟨55,[row ka,row kb],.v (.one (.b false))⟩:=
 ⟨aw Tryz.func55 rfl rfl,fun B w vs hB h=>by
  match vs,h with
  | [va,vb],h=>
   refine(tY va vb a b w ((ag aa).1 h.1) ((ag ab).1 h.2.1) ha hb e0 ga gb).mono ?_
   rintro e w' ⟨rfl,h2⟩
   exact⟨_,rfl,rfl,h2⟩⟩
def pI (a:Pq):List Fq:=a.cs
theorem pJ (va:Value) (a:Pq) (w:World) (ia:dY w va a) (ha:a.ok 1000000) (ga:a.good):
  Calls Tryz.prog 122 #[va] w fun e w'=>cw w (.bool true) e w':=by
 refine(cRn (ρ:=frs (pI a)++ []) (args:=[row [0,1,2,3,4,5,6]]) (vs:=[va]) (r:=.v (.one (.b true)))
  (ae (tU (kq:=[0,1,2,3]) (q:=a.rot) ⟨rfl,rfl,rfl,rfl,trivial⟩ (ha.rot.mono (by decide)) ga.rot) (ae (zs (ka:=[4,5,6]) (a:=a.pos) ⟨rfl,rfl,rfl,trivial⟩ (ha.pos.mono (by decide)) ga.pos) ah))
  ai Tryz.func122 (by kernel_rfl) ⟨(ag (xs:=pI a) (ks:=[0,1,2,3,4,5,6]) (vs:=a.cs) ⟨rfl,rfl,rfl,rfl,rfl,rfl,rfl,trivial⟩).2 ia,trivial⟩).mono ?_
 rintro e w' ⟨v,rfl,h1,h2⟩
 exact⟨congrArg Ending.returned h1,h2⟩
theorem bK {xs:List Fq} {ys:Rho} {ka:List Nat} {a:Pq} (aa:AtL xs ka a.cs) (ha:a.ok 1000000) (ga:a.good):OkI xs ys ⟨122,[row ka],.v (.one (.b true))⟩:=
 ⟨aw Tryz.func122 rfl rfl,fun B w vs hB h=>by
  match vs,h with
  | [va],h=>
   refine(pJ va a w ((ag aa).1 h.1) ha ga).mono ?_
   rintro e w' ⟨rfl,h2⟩
   exact⟨_,rfl,rfl,h2⟩⟩
def zw:List Fq:=(Qq.id.cs++([(Vq.of 0 0 0).x,(Vq.of 0 0 0).y,(Vq.of 0 0 0).z]))
theorem q_rpId (w:World):
  Calls Tryz.prog 149 #[] w fun e w'=>oo w Pq.id e w':=by
 refine(cRn (ρ:=frs (zw)++ []) (args:=[]) (vs:=[]) (r:=.v (row [0,1,2,3,4,5,6]))
  (ae (I_rId (kr:=[0,1,2,3]) ⟨rfl,rfl,rfl,rfl,trivial⟩) (ae (wQ (kr:=[4,5,6]) ⟨rfl,rfl,rfl,trivial⟩) ah))
  ai Tryz.func149 (by kernel_rfl) trivial).mono ?_
 rintro e w' ⟨v,rfl,h1,h2⟩
 exact⟨v,rfl,(ag (xs:=zw) (ks:=[0,1,2,3,4,5,6]) (vs:=(Qq.id.cs++([(Vq.of 0 0 0).x,(Vq.of 0 0 0).y,(Vq.of 0 0 0).z]))) ⟨rfl,rfl,rfl,rfl,rfl,rfl,rfl,trivial⟩).1 h1,h2⟩
theorem zx {xs:List Fq} {ys:Rho} {kr:List Nat} (ar:AtL xs kr Pq.id.cs):OkI xs ys ⟨149,[],.v (row kr)⟩:=
 ⟨aw Tryz.func149 rfl rfl,fun B w vs hB h=>by
  match vs,h with
  | [],h=>
   refine(q_rpId w).mono ?_
   rintro e w' ⟨v,rfl,h1,h2⟩
   exact⟨v,rfl,(ag ar).2 h1,h2⟩⟩
end Go.Proofs.YtggfmklppkioeaaGreat
namespace Go.Proofs.YtggfmklppkioeaaGreat
set_option linter.unusedSimpArgs false
set_option linter.unusedVariables false
set_option maxRecDepth 100000
open Go.RowKit
def gL (a:Pq) (b:Pq) (m:Fq):List Fq:=(a.cs++(b.cs++([m]++((a.rot.way (a.rot.inv.mul b.rot) m).cs++([(a.pos.lerp b.pos m).x,(a.pos.lerp b.pos m).y,(a.pos.lerp b.pos m).z])))))
theorem zy (va vb vm:Value) (a:Pq) (b:Pq) (m:Fq) (w:World) (ia:dY w va a) (ib:dY w vb b) (im:IsQ w vm m) (ha:a.ok 100) (hb:b.ok 100) (hm:m.ok 100) (ga:a.good) (gb:b.good) (gm:m.valid=true) (hw:(a.rot.inv.mul b.rot).w.p≠0):
  Calls Tryz.prog 167 #[va,vb,vm] w fun e w'=>zq w (Pq.mk (a.rot.way (a.rot.inv.mul b.rot) m) (a.pos.lerp b.pos m)) 0 e w':=by
 refine(cRn (ρ:=frs (gL a b m)++ []) (args:=[row [0,1,2,3,4,5,6],row [7,8,9,10,11,12,13],fr 14]) (vs:=[va,vb,vm]) (r:=.tup [row [15,16,17,18,19,20,21],.one (.i .i64 0)])
  (ae (I_fBtw1 (kp:=[0,1,2,3]) (p:=a.rot) (kq:=[7,8,9,10]) (q:=b.rot) (im:=14) (kr:=[15,16,17,18]) ⟨rfl,rfl,rfl,rfl,trivial⟩ ⟨rfl,rfl,rfl,rfl,trivial⟩ rfl ⟨rfl,rfl,rfl,rfl,trivial⟩ (ha.rot.mono (by decide)) (hb.rot.mono (by decide)) (hm.mono (by decide)) ga.rot gb.rot gm hw) (ae (I_vLerp (ka:=[4,5,6]) (a:=a.pos) (kb:=[11,12,13]) (b:=b.pos) (ik:=14) (kr:=[19,20,21]) ⟨rfl,rfl,rfl,trivial⟩ ⟨rfl,rfl,rfl,trivial⟩ rfl ⟨rfl,rfl,rfl,trivial⟩ (ha.pos.mono (by decide)) (hb.pos.mono (by decide)) (hm.mono (by decide))) (ae (zu (ka:=[15,16,17,18,19,20,21]) (a:=(Pq.mk (a.rot.way (a.rot.inv.mul b.rot) m) (a.pos.lerp b.pos m))) (kr:=[15,16,17,18,19,20,21]) ⟨rfl,rfl,rfl,rfl,rfl,rfl,rfl,trivial⟩ ⟨rfl,rfl,rfl,rfl,rfl,rfl,rfl,trivial⟩ (⟨⟨(qK ha.rot hb.rot hm ga.rot gb.rot gm).w.mono (by decide),(qK ha.rot hb.rot hm ga.rot gb.rot gm).x.mono (by decide),(qK ha.rot hb.rot hm ga.rot gb.rot gm).y.mono (by decide),(qK ha.rot hb.rot hm ga.rot gb.rot gm).z.mono (by decide)⟩,⟨(ha.pos.lerp hb.pos hm).x.mono (by decide),(ha.pos.lerp hb.pos hm).y.mono (by decide),(ha.pos.lerp hb.pos hm).z.mono (by decide)⟩⟩:Pq.ok 1000000000 (Pq.mk (a.rot.way (a.rot.inv.mul b.rot) m) (a.pos.lerp b.pos m)))) ah)))
  ai Tryz.func167 (by kernel_rfl) ⟨(ag (xs:=gL a b m) (ks:=[0,1,2,3,4,5,6]) (vs:=a.cs) ⟨rfl,rfl,rfl,rfl,rfl,rfl,rfl,trivial⟩).2 ia,⟨(ag (xs:=gL a b m) (ks:=[7,8,9,10,11,12,13]) (vs:=b.cs) ⟨rfl,rfl,rfl,rfl,rfl,rfl,rfl,trivial⟩).2 ib,⟨(aD (xs:=gL a b m) (k:=14) rfl).2 im,trivial⟩⟩⟩).mono ?_
 rintro e w' ⟨v,rfl,⟨vs,rfl,h1⟩,h2⟩
 match vs,h1 with
 | [r,c],h1=>
  obtain⟨⟨cs,rfl,k1⟩,k2,_⟩:=h1
  have k2:c=_:=k2
  subst k2
  exact⟨_,rfl,(ag (xs:=gL a b m) (ks:=[15,16,17,18,19,20,21]) (vs:=((a.rot.way (a.rot.inv.mul b.rot) m).cs++([(a.pos.lerp b.pos m).x,(a.pos.lerp b.pos m).y,(a.pos.lerp b.pos m).z]))) ⟨rfl,rfl,rfl,rfl,rfl,rfl,rfl,trivial⟩).1 ⟨_,rfl,k1⟩,h2⟩
theorem zz {xs:List Fq} {ys:Rho} {ka:List Nat} {kb:List Nat} {im:Nat} {a:Pq} {b:Pq} {m:Fq} {kr:List Nat} (aa:AtL xs ka a.cs) (ab:AtL xs kb b.cs) (am:xs[im]? =some m) (ar:AtL xs kr ((a.rot.way (a.rot.inv.mul b.rot) m).cs++([(a.pos.lerp b.pos m).x,(a.pos.lerp b.pos m).y,(a.pos.lerp b.pos m).z]))) (ha:a.ok 100) (hb:b.ok 100) (hm:m.ok 100) (ga:a.good) (gb:b.good) (gm:m.valid=true) (hw:(a.rot.inv.mul b.rot).w.p≠0):OkI xs ys ⟨167,[row ka,row kb,fr im],.tup [row kr,.one (.i .i64 0)]⟩:=
 ⟨aw Tryz.func167 rfl rfl,fun B w vs hB h=>by
  match vs,h with
  | [va,vb,vm],h=>
   refine(zy va vb vm a b m w ((ag aa).1 h.1) ((ag ab).1 h.2.1) ((aD am).1 h.2.2.1) ha hb hm ga gb gm hw).mono ?_
   rintro e w' ⟨v,rfl,h1,h2⟩
   exact⟨_,rfl,⟨[v,.int .i64 0],rfl,(ag ar).2 h1,rfl,trivial⟩,h2⟩⟩
def lp (a:Pq) (b:Pq) (m:Fq):List Fq:=(a.cs++(b.cs++([m]++(Qq.zero.cs))))
theorem zA (va vb vm:Value) (a:Pq) (b:Pq) (m:Fq) (w:World) (ia:dY w va a) (ib:dY w vb b) (im:IsQ w vm m) (ha:a.ok 100) (hb:b.ok 100) (hm:m.ok 100) (ga:a.good) (gb:b.good) (gm:m.valid=true) (hw:(a.rot.inv.mul b.rot).w.p=0) (h0:m.p≠0) (h1:m≠(Fq.ofInt 1)):
  Calls Tryz.prog 167 #[va,vb,vm] w fun e w'=>zq w Pq.zero 4 e w':=by
 refine(cRn (ρ:=frs (lp a b m)++ []) (args:=[row [0,1,2,3,4,5,6],row [7,8,9,10,11,12,13],fr 14]) (vs:=[va,vb,vm]) (r:=.tup [.agg [.b false,.sl0,.sl0,.b false,.sl0,.sl0,.b false,.sl0,.sl0,.b false,.sl0,.sl0,.b false,.sl0,.sl0,.b false,.sl0,.sl0,.b false,.sl0,.sl0],.one (.i .i64 4)])
  (ae (I_fBtw4 (kp:=[0,1,2,3]) (p:=a.rot) (kq:=[7,8,9,10]) (q:=b.rot) (im:=14) (kr:=[15,16,17,18]) ⟨rfl,rfl,rfl,rfl,trivial⟩ ⟨rfl,rfl,rfl,rfl,trivial⟩ rfl ⟨rfl,rfl,rfl,rfl,trivial⟩ (ha.rot.mono (by decide)) (hb.rot.mono (by decide)) (hm.mono (by decide)) ga.rot gb.rot gm hw h0 h1) ah)
  ai Tryz.func167 (by kernel_rfl) ⟨(ag (xs:=lp a b m) (ks:=[0,1,2,3,4,5,6]) (vs:=a.cs) ⟨rfl,rfl,rfl,rfl,rfl,rfl,rfl,trivial⟩).2 ia,⟨(ag (xs:=lp a b m) (ks:=[7,8,9,10,11,12,13]) (vs:=b.cs) ⟨rfl,rfl,rfl,rfl,rfl,rfl,rfl,trivial⟩).2 ib,⟨(aD (xs:=lp a b m) (k:=14) rfl).2 im,trivial⟩⟩⟩).mono ?_
 rintro e w' ⟨v,rfl,⟨vs,rfl,h1⟩,h2⟩
 match vs,h1 with
 | [r,c],h1=>
  obtain⟨⟨cs,rfl,k1⟩,k2,_⟩:=h1
  have k2:c=_:=k2
  subst k2
  exact⟨_,rfl,⟨_,rfl,oe (n:=7) k1⟩,h2⟩
theorem zB {xs:List Fq} {ys:Rho} {ka:List Nat} {kb:List Nat} {im:Nat} {a:Pq} {b:Pq} {m:Fq} {kr:List Nat} (aa:AtL xs ka a.cs) (ab:AtL xs kb b.cs) (am:xs[im]? =some m) (ar:AtL xs kr Pq.zero.cs) (ha:a.ok 100) (hb:b.ok 100) (hm:m.ok 100) (ga:a.good) (gb:b.good) (gm:m.valid=true) (hw:(a.rot.inv.mul b.rot).w.p=0) (h0:m.p≠0) (h1:m≠(Fq.ofInt 1)):OkI xs ys ⟨167,[row ka,row kb,fr im],.tup [row kr,.one (.i .i64 4)]⟩:=
 ⟨aw Tryz.func167 rfl rfl,fun B w vs hB h=>by
  match vs,h with
  | [va,vb,vm],h=>
   refine(zA va vb vm a b m w ((ag aa).1 h.1) ((ag ab).1 h.2.1) ((aD am).1 h.2.2.1) ha hb hm ga gb gm hw h0 h1).mono ?_
   rintro e w' ⟨v,rfl,h1,h2⟩
   exact⟨_,rfl,⟨[v,.int .i64 4],rfl,(ag ar).2 h1,rfl,trivial⟩,h2⟩⟩
end Go.Proofs.YtggfmklppkioeaaGreat
namespace Go.Proofs.YtggfmklppkioeaaGreat
set_option linter.unusedSimpArgs false
set_option linter.unusedVariables false
set_option maxRecDepth 100000
open Go.RowKit
theorem qL {v:Value} (h:dr v):v.oneCell'=true:=by
 cases v with
 | agg cs=>exact absurd rfl (h.1 cs)
 | tuple vs=>exact absurd rfl (h.2.1 vs)
 | _=>rfl
/-- What the cells of a list are. -/
def bu (w:World) (qs:List Vp) (xs:List Value):Prop:=xs.length=qs.length∧∀(j:Nat) (q:Vp),qs[j]? =some q→∃u,xs[j]? =some u∧q.p w u∧∀g,¬q.fp w u g
theorem bu.append {w:World} {qs qs':List Vp} {xs xs':List Value} (h:bu w qs xs) (h':bu w qs' xs'):bu w (qs++qs') (xs++xs'):=by
 refine⟨by simp[h.1,h'.1],fun j q hj=> ?_⟩
 by_cases hl:j<qs.length
 ·rw[List.getElem?_append_left hl]at hj
  obtain⟨u,h1,h2⟩:=h.2 j q hj
  exact⟨u,by rw[List.getElem?_append_left (by rw[h.1];exact hl)];exact h1,h2⟩
 ·rw[List.getElem?_append_right (by omega)]at hj
  obtain⟨u,h1,h2⟩:=h'.2 _ q hj
  exact⟨u,by rw[List.getElem?_append_right (by rw[h.1];omega),h.1];exact h1,h2⟩
theorem bu.chg {w w':World} {X:Nat→Prop} {qs:List Vp} {xs:List Value} (h:bu w qs xs) (k:Chg w w' X):bu w' qs xs:=
 ⟨h.1,fun j q hj=>by
  obtain⟨u,h1,h2,h3⟩:=h.2 j q hj
  obtain⟨c1,c2⟩:=q.ch w w' X u h2 k (fun g hg=>absurd hg (h3 g))
  exact⟨u,h1,c1,fun g hg=>h3 g (c2 g hg)⟩⟩
theorem bu.flat {w:World} {qs:List Vp} {xs:List Value} (h:bu w qs xs):∀u∈xs,dr u:=fun u hu=>by
 obtain⟨j,hj,rfl⟩:=List.getElem_of_mem hu
 have hq:j<qs.length:=by rw[←h.1];exact hj
 obtain⟨u',h1,h2,_⟩:=h.2 j _ (List.getElem?_eq_getElem hq)
 rw[List.getElem?_eq_getElem hj]at h1
 injection h1 with h1
 rw[h1]
 exact qs[j].fl w u' h2
/-- No digit lies in such a cell. -/
def noU (u:Value):Prop:=∀n,u≠ .int .u32 n
/-- A row that the call itself made; no digit lies in its block. -/
def bM (w:World) (T:TypeId) (sz:Nat) (v:Value) (L:Nat) (xs:List Value):Prop:=w.ownsRow 0 T sz v L xs∧∀g,v.ownBlock=some g→Own w g
theorem t6 {w:World} {g:Nat} {cs:Array Value} {t:TypeId} (h:w.heap[g]? =some (.cells cs t (0,0))) (hc:∀u∈cs.toList,noU u):Own w g:=
 ⟨cs,t,h,fun k n hk=>hc (.int .u32 n) (by rw[←Array.getElem?_toList]at hk;exact List.mem_of_getElem? hk) n rfl⟩
theorem wR {w:World} {g:Nat} {cs:Array Value} {t:TypeId} {fz:Nat×Nat} (h:w.heap[g]? =some (.cells cs t fz)) (o:Own w g):∀u∈cs.toList,noU u:=fun u hu n e=>by
 obtain⟨cs',t',h1,h2⟩:=o
 rw[h]at h1
 injection h1 with h1;injection h1 with h1 _ _;subst h1
 obtain⟨k,hk⟩:=List.getElem?_of_mem hu
 rw[Array.getElem?_toList,e]at hk
 exact h2 k n hk
theorem sc {z:Array Value} (hz:∀u∈z.toList,noU u) (h0:0<z.size) (n:Nat):∀u∈(Builtin.zeroCells z n).toList,noU u:=fun u hu=>by
 unfold Builtin.zeroCells at hu
 simp only[Array.toList_map,Array.toList_range,List.mem_map]at hu
 obtain⟨i,_,rfl⟩:=hu
 have hk:i % z.size<z.size:=Nat.mod_lt _ h0
 rw[getElem!_pos z _ hk]
 exact hz _ (by simp)
theorem nh {p:Program} {w:World} {t ty e:TypeId} {i:TypeInfo} {z:Value} (ht:p.underlying t=some (.slice e)) (hi:p.info? e=some i) (hz:i.zero=some z) (hzs:z.cells.size=i.size) (hsz:0<i.size) (hzu:∀u∈z.cells.toList,noU u)
  {v:Value} {n:Nat} {xs:List Value} (ho:bM w e i.size v n xs) {a:Addr} {m c:Nat} {news:List Value} (hl:news.length=m*i.size) (hnews:∀j u,news[j]? =some u→w.cell? (a.add j)=some u) (h1:∀u∈news,u.oneCell'=true) (hnu:∀u∈news,noU u)
  (hm:0<m) (hb:(n+m)*i.bytes≤140737488355328) (hn:n+m≤1000000000000000):
  ∃v' w',(Builtin.append_ #[t,t] ty #[v,.slice (some a) m c]).run p w= .ok v' w'∧w.grownBy w' v.ownBlock∧(∀g,v.ownBlock=some g→Own w' g)∧(∀g,v'.ownBlock=some g→v.ownBlock=some g∨w.heap.size≤g)∧bM w' e i.size v' (n+m) (xs++news):=by
 obtain⟨hown,hOwn⟩:=ho
 have hlen:(xs++news).length=(n+m)*i.size:=by rw[List.length_append,hown.1,hl,Nat.add_mul]
 have hmax:n+m≤maxLen:=by simp only[maxLen];omega
 have moved:∀old,(∀u∈xs,noU u)→
   w.grownBy (w.drew.alloc (.cells (xs.toArray++news.toArray++Builtin.zeroCells z.cells (grownCap w (n+m) old e - (n+m))) e)) v.ownBlock∧
   bM (w.drew.alloc (.cells (xs.toArray++news.toArray++Builtin.zeroCells z.cells (grownCap w (n+m) old e - (n+m))) e)) e i.size (.slice (some ⟨w.heap.size,0,none⟩) (n+m) (grownCap w (n+m) old e)) (n+m) (xs++news):=by
  intro old hxu
  have h2:=grownCap_ge w (n+m) old e
  have hnew:=heap_alloc_new w.drew (.cells (xs.toArray++news.toArray++Builtin.zeroCells z.cells (grownCap w (n+m) old e - (n+m))) e)
  refine⟨⟨rfl,rfl,rfl,by simp,fun k hk _=>heap_alloc_old w.drew _ hk⟩,⟨hlen,.inr ⟨w.heap.size,_,_,rfl,Nat.zero_le _,hnew,h2,grownCap_le_maxLen w (n+m) old e hmax,?_,?_⟩⟩,fun g hg=> ?_⟩
  ·simp only[Array.size_append,List.size_toArray,size_zeroCells,hzs,hown.1,hl]
   rw[←Nat.add_mul,←Nat.add_mul]
   congr 1;omega
  ·simp only[Array.toList_append,List.append_assoc]
   rw[←List.append_assoc,←hlen]
   exact List.take_left
  ·injection hg with hg;subst hg
   refine t6 hnew (fun u hu=> ?_)
   simp only[Array.toList_append,List.mem_append]at hu
   rcases hu with(hu | hu) | hu
   ·exact hxu u hu
   ·exact hnu u hu
   ·exact sc hzu (by omega) _ u hu
 rcases hown.2 with⟨rfl,rfl⟩ | ⟨g,cap,cur,rfl,hbg,hg,hnc,hcm,hcs,htake⟩
 ·have hx:xs=[]:=List.eq_nil_of_length_eq_zero (by simpa using hown.1)
  subst hx
  have hr:=run_append_nil (P:=p) w t ty e i z ht hi hz a m c news hl hnews (by omega) (by omega) (by have:=hb;simp only[Nat.zero_add]at this;omega)
  have h2:=moved 0 (fun u hu=>by cases hu)
  simp only[Nat.zero_add,List.nil_append,Array.empty_append]at h2⊢
  exact⟨_,_,hr,h2.1,fun g hg=>(by cases hg),fun g hg=>.inr (by have h:w.heap.size=g:=Option.some.inj hg;omega),h2.2⟩
 ·have hcu:=wR hg (hOwn g rfl)
  by_cases hroom:n+m≤cap
  ·have hfit:n*i.size+news.length≤cur.size:=by rw[hl,hcs,←Nat.add_mul];exact Nat.mul_le_mul_right _ hroom
   have hr:=run_append_room (P:=p) w t ty e i ht hi g n cap cur hg a m c news hl hnews h1 hroom hfit
   have hset:=setRow_heap w g cur (cur.toList.take (n*i.size)++news++cur.toList.drop (n*i.size+news.length)).toArray e (0,0) hg
   refine⟨_,_,hr,⟨rfl,rfl,rfl,by simp,fun k _ hk=>setRow_other w g k _ (fun e=>hk (by simp[Value.ownBlock,e]))⟩,fun g' hg'=> ?_,fun g' hg'=>.inl hg',⟨hlen,.inr ⟨g,cap,_,rfl,hbg,hset,hroom,hcm,?_,?_⟩⟩,fun g' hg'=> ?_⟩
   ·injection hg' with hg';subst hg'
    refine t6 hset (fun u hu=> ?_)
    simp only[List.mem_append]at hu
    rcases hu with(hu | hu) | hu
    ·exact hcu u (List.mem_of_mem_take hu)
    ·exact hnu u hu
    ·exact hcu u (List.mem_of_mem_drop hu)
   ·simp only[List.size_toArray,List.length_append,List.length_take,List.length_drop,Array.length_toList]
    omega
   ·rw[htake,←hlen]
    exact List.take_left
   ·injection hg' with hg';subst hg'
    refine t6 hset (fun u hu=> ?_)
    simp only[List.mem_append]at hu
    rcases hu with(hu | hu) | hu
    ·exact hcu u (List.mem_of_mem_take hu)
    ·exact hnu u hu
    ·exact hcu u (List.mem_of_mem_drop hu)
  ·have holds:∀j u,xs[j]? =some u→w.cell? ((⟨g,0,none⟩:Addr).add j)=some u:=hown.cells (g:=g) rfl
   have hr:=run_append_grow (P:=p) w t ty e i z ht hi hz ⟨g,0,none⟩ n cap xs hown.1 holds a m c news hl hnews (by omega) (by omega) (growslice_fits (by omega) hb)
   have h2:=moved cap (fun u hu=>hcu u (by rw[←htake]at hu;exact List.mem_of_mem_take hu))
   exact⟨_,_,hr,h2.1,fun g' hg'=>by
    injection hg' with hg';subst hg'
    obtain⟨cs,t,k1,k2⟩:=hOwn g rfl
    exact⟨cs,t,(heap_alloc_old w.drew _ (Array.getElem?_eq_some_iff.1 k1).1).trans k1,k2⟩,fun g' hg'=>.inr (by have h:w.heap.size=g':=Option.some.inj hg';omega),h2.2⟩
/-- A row that the call itself made: L parts of type T, sz cells each. -/
def Vp.ownr (T:TypeId) (sz L:Nat) (qs:List Vp):Vp:=.of (fun w v=>∃xs,bM w T sz v L xs∧bu w qs xs)
 (fun v g=>v.ownBlock=some g)
 (fun w w' X v ⟨xs,⟨⟨h1,h2⟩,h0⟩,k⟩ hc hX=>by
  have hsame:∀g,v.ownBlock=some g→w'.heap[g]? =w.heap[g]? :=fun g hg=>hc.blk g (by obtain⟨cs,t,h,_⟩:=h0 g hg;exact(Array.getElem?_eq_some_iff.1 h).1) (hX g hg)
  refine⟨xs,⟨⟨h1,h2.imp id fun⟨g,cap,cur,e,hb,hg,hr⟩=>⟨g,cap,cur,e,hb,by rw[hsame g (by rw[e];rfl)];exact hg,hr⟩⟩,fun g hg=> ?_⟩,k.chg hc⟩
  obtain⟨cs,t,h3,h4⟩:=h0 g hg
  exact⟨cs,t,by rw[hsame g hg];exact h3,h4⟩)
 (fun w v g ⟨xs,⟨_,h0⟩,_⟩ hg=>by obtain⟨cs,t,h,_⟩:=h0 g hg;exact(Array.getElem?_eq_some_iff.1 h).1)
 (fun w v ⟨xs,⟨⟨_,h⟩,_⟩,_⟩=>by
  rcases h with⟨rfl,_⟩ | ⟨g',cap,cur,rfl,_⟩<;>exact nZ)
section
variable {ρ:Rho} {n m r k i L M:Nat} {t T:TypeId} {qs qs':List Vp} {z:Value} {ti:TypeInfo} {l:Leaf}
theorem ot {w:World} {x:Value} (hx:(Vp.row T M qs').p w x) (h0:qs'≠ []):∃a c news,x= .slice (some a) M c∧bu w qs' news∧(∀j u,news[j]? =some u→w.cell? (a.add j)=some u):=by
 rcases hx with⟨h,_⟩ | ⟨b,o,c,cs,rfl,hc,hb,hq⟩
 ·exact absurd h h0
 ·have:∃news:List Value,bu w qs' news∧∀j u,news[j]? =some u→cs[o+j]? =some u:=by
   clear h0 hc hb
   induction qs' generalizing o with
   | nil=>exact⟨[],⟨rfl,fun j q h=>by simp at h⟩,fun j u h=>by simp at h⟩
   | cons q qs ih=>
    obtain⟨u,h1,h2,h3⟩:=hq 0 q rfl
    obtain⟨news,h4,h5⟩:=ih (o+1) (fun j q hj=>by
     obtain⟨u,h1,h2⟩:=hq (j+1) q (by simpa using hj)
     exact⟨u,by rw[show o+1+j=o+(j+1)from by omega];exact h1,h2⟩)
    refine⟨u::news,⟨by simp[h4.1],fun j q' hj=> ?_⟩,fun j u' hj=> ?_⟩
    ·match j with
     | 0=>simp at hj;subst hj;exact⟨u,rfl,h2,h3⟩
     | j+1=>obtain⟨u',k1,k2⟩:=h4.2 j q' (by simpa using hj);exact⟨u',by simpa using k1,k2⟩
    ·match j with
     | 0=>simp at hj;subst hj;exact h1
     | j+1=>have:=h5 j u' (by simpa using hj);rwa [show o+1+j=o+(j+1)from by omega]at this
  obtain⟨news,h1,h2⟩:=this
  exact⟨⟨b,o,none⟩,c,news,rfl,h1,fun j u hj=>by rw[ck,ba hb];exact h2 j u hj⟩
/-- A row that is left is a row like others. -/
theorem lw {w:World} {v:Value} {sz:Nat} (h:(Vp.ownr T sz L qs).p w v):(Vp.row T L qs).p w v:=by
 obtain⟨xs,⟨⟨h1,h2⟩,_⟩,h3⟩:=h
 rcases h2 with⟨rfl,rfl⟩ | ⟨g,cap,cur,rfl,_,hg,hn,_,hcs,htake⟩
 ·refine .inl ⟨?_,rfl,rfl⟩
  have:xs.length=0:=by simpa using h1
  exact List.eq_nil_of_length_eq_zero (by rw[←h3.1];exact this)
 ·refine .inr ⟨g,0,cap,cur,rfl,hn,hg,fun j q hj=> ?_⟩
  obtain⟨u,k1,k2⟩:=h3.2 j q hj
  refine⟨u,?_,k2⟩
  rw[←htake,List.getElem?_take]at k1
  split at k1
  ·rw[Nat.zero_add,←Array.getElem?_toList];exact k1
  ·cases k1
def noUb:Value→Bool
 | .int .u32 _=>false
 | _=>true
/-- What the model knows of a row's parts: their size, their bytes, and that they hold no digits at first. -/
def wS (p:Program) (T:TypeId) (sz bytes:Nat):Bool:=match p.info? T with
 | some ti=>(match ti.zero with | some z=>z.cells.size==sz && z.cells.toList.all noUb | none=>false) && (ti.size==sz && (ti.bytes==bytes && decide (0<sz)))
 | none=>false
end
end Go.Proofs.YtggfmklppkioeaaGreat
namespace Go.Proofs.YtggfmklppkioeaaGreat
set_option linter.unusedSimpArgs false
set_option linter.unusedVariables false
set_option maxRecDepth 100000
open Go.RowKit
/-- A time and a pose. -/
structure St where
 tm:Int
 pose:Pq
def St.qs (s:St):List Vp:=.val (.int .i64 s.tm)::frs s.pose.cs
def aC (S:List St):List Vp:=S.flatMap St.qs
theorem St.qs_len (s:St):s.qs.length=22:=rfl
theorem dZ:∀(S:List St),(aC S).length=S.length*22
 | []=>rfl
 | s::S=>by
  have:=dZ S
  simp only[aC,List.flatMap_cons,List.length_append,List.length_cons,St.qs_len]at this⊢
  omega
theorem lz (S S':List St):aC (S++S')=aC S++aC S':=by simp[aC]
theorem sd:∀ {S:List St} {k:Nat} {x:St} {j:Nat} {q:Vp},S[k]? =some x→x.qs[j]? =some q→(aC S)[k*22+j]? =some q
 | [],_,_,_,_,h,_=>by simp at h
 | s::S,0,x,j,q,h,hq=>by
  simp at h;subst h
  have hj:j<s.qs.length:=(List.getElem?_eq_some_iff.1 hq).1
  simp only[aC,List.flatMap_cons,Nat.zero_mul,Nat.zero_add]
  rw[List.getElem?_append_left hj];exact hq
 | s::S,k+1,x,j,q,h,hq=>by
  have:=sd (S:=S) (k:=k) (x:=x) (by simpa using h) hq
  simp only[aC,List.flatMap_cons]at this⊢
  rw[List.getElem?_append_right (by rw[St.qs_len];omega),St.qs_len,show(k+1)*22+j - 22=k*22+j from by omega]
  exact this
theorem wT (S:List St) (k:Nat) (hk:k≤S.length) (j:Nat) (q:Vp) (h:(aC (S.drop k))[j]? =some q):(aC S)[k*22+j]? =some q:=by
 have h1:aC S=aC (S.take k)++aC (S.drop k):=by rw[←lz,List.take_append_drop]
 have h2:(aC (S.take k)).length=k*22:=by rw[dZ,List.length_take];congr 1;omega
 rw[h1,List.getElem?_append_right (by omega),h2,Nat.add_sub_cancel_left];exact h
theorem rowS_ne {S:List St} {k:Nat} {x:St} (h:S[k]? =some x):aC S≠ []:=fun e=>by
 have:=dZ S
 have h2:=(List.getElem?_eq_some_iff.1 h).1
 rw[e]at this;simp at this;omega
/-- A leaf that holds this number. -/
def KI (ρ:Rho) (l:Leaf) (k:IntKind) (u:Int):Prop:=∀B w x,l.holds ρ B w x→x= .int k u
section
variable {ρ:Rho} {n m k r:Nat} {u v c:Int} {b d:Bool} {l l':Leaf} {t T e:TypeId} {B:Blk} {w:World} {ik:IntKind} {x:St} {S:List St}
theorem aN:KI ρ (.i ik c) ik c:=fun _ _ _ h=>h
theorem aj (h:ρ[n]? =some (.val (.int ik u))):KI ρ (.ref n) ik u:=fun _ _ _ hx=>aX h hx
theorem cV (h:KI ρ l ik u) (e:u=v):KI ρ l ik v:=e▸h
/-- Comparisons of two numbers. -/
def lA (op:BinOp) (u v:Int):Option Bool:=match op with
 | .eql=>some (u==v)
 | .neq=>some (u !=v)
 | .lss=>some (decide (u<v))
 | .leq=>some (decide (u≤v))
 | .gtr=>some (decide (v<u))
 | .geq=>some (decide (v≤u))
 | _=>none
theorem aB {op:BinOp} (h1:KI ρ l ik u) (h2:KI ρ l' ik v) (hb:lA op u v=some b):(OIns.mk (.bin op t) [.one l,.one l'] (.one (.b b))).Ok Tryz.prog ρ:=fun B w vs hv=>by
 match vs,hv with
 | [v1,v2],hv=>
  have e:=h1 _ _ _ hv.1
  have e2:=h2 _ _ _ hv.2.1
  subst e;subst e2
  refine⟨.bool b,rfl,fun xo yo=> ?_⟩
  cases op<;>simp only[lA,Option.some.injEq]at hb<;>first | (cases hb;done) | (subst hb;simp[eqGuard,binOp,Op.intCmp,Sem.run_bind,Result.andThen])
theorem j2 (h1:KI ρ l .i64 u) (h2:KI ρ l' .i64 v) (hm:ρ[m]? =some (.val (.int .i64 c))) (hc:c=u - v) (k1: -9223372036854775808≤u - v) (k2:u - v≤9223372036854775807):(OIns.mk (.bin .sub t) [.one l,.one l'] (.one (.ref m))).Ok Tryz.prog ρ:=fun B w vs hv=>by
 match vs,hv with
 | [v1,v2],hv=>
  have e:=h1 _ _ _ hv.1
  have e2:=h2 _ _ _ hv.2.1
  subst e;subst e2;subst hc
  refine⟨.int .i64 (u - v),aA hm aO,fun xo yo=> ?_⟩
  have hw:IntKind.i64.wrap (u - v)=u - v:=by rw[IntKind.wrap_i64];omega
  simp[eqGuard,binOp,Op.intArith,Sem.run_bind,Result.andThen,hw]
theorem zC (h1:KI ρ l .i64 u) (h2:KI ρ l' .i64 v) (hm:ρ[m]? =some (.val (.int .i64 c))) (hc:c=u+v) (k1: -9223372036854775808≤u+v) (k2:u+v≤9223372036854775807):(OIns.mk (.bin .add t) [.one l,.one l'] (.one (.ref m))).Ok Tryz.prog ρ:=fun B w vs hv=>by
 match vs,hv with
 | [v1,v2],hv=>
  have e:=h1 _ _ _ hv.1
  have e2:=h2 _ _ _ hv.2.1
  subst e;subst e2;subst hc
  refine⟨.int .i64 (u+v),aA hm aO,fun xo yo=> ?_⟩
  have hw:IntKind.i64.wrap (u+v)=u+v:=by rw[IntKind.wrap_i64];omega
  simp[eqGuard,binOp,Op.intArith,Sem.run_bind,Result.andThen,hw]
theorem zD {P:Program} {e:TypeId} (he:P.underlying t=some (.pointer e)) (a:Addr):(Op.equal t (.pointer (some a)) (.pointer none)).run P w= .ok false w:=by
 unfold Op.equal Op.maxDepth Op.equalIn
 rw[Sem.run_bind,run_underlying he];rfl
/-- A pointer to a variable is not nil. -/
theorem cc {y:Nat} {o:Nat} (ht:∃e,Tryz.prog.underlying t=some (.pointer e)):(OIns.mk (.bin .eql t) [.one (.ptr y o),.one .nilp] (.one (.b false))).Ok Tryz.prog ρ:=fun B w vs hv=>by
 match vs,hv with
 | [v1,v2],hv=>
  obtain⟨g,_,e⟩:=hv.1
  have e2:v2= .pointer none:=hv.2.1
  subst e;subst e2
  obtain⟨e,he⟩:=ht
  exact⟨.bool false,rfl,fun xo yo=>by simp[eqGuard,binOp,Sem.run_bind,zD he,Result.andThen]⟩
theorem zE {v:Value} {qs:List Vp} {L:Nat} (h:(Vp.row T L qs).p w v) (h0:qs≠ []):∃b o c cs,v= .slice (some ⟨b,o,none⟩) L c∧L≤c∧w.heap[b]? =some (.cells cs T (0,0))∧∀j q,qs[j]? =some q→∃u,cs[o+j]? =some u∧q.p w u∧∀g,¬q.fp w u g:=by
 rcases h with⟨h,_⟩ | h
 ·exact absurd h h0
 ·exact h
end
end Go.Proofs.YtggfmklppkioeaaGreat
