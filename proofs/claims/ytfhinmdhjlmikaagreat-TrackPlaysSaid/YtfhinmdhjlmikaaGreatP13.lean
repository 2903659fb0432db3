/- On the way, valid rotations, by the executor. Package pose and its reference, by the executor. -/
import Derived.Test.YtfhinmdhjlmikaaGreatP12
namespace Go.Proofs.YtfhinmdhjlmikaaGreat
set_option linter.unusedSimpArgs false
set_option linter.unusedVariables false
set_option maxRecDepth 100000
open Go.RowKit
theorem nV {q:Qq} (c:q.comp) (h:q.first=Fq.ofInt 1):q.good:=⟨c,by rw[h,nO];rfl⟩
def lS (p:Qq) (q:Qq) (m:Fq):List Fq:=(p.cs++(q.cs++([m]++(p.inv.cs++((p.inv.mul q).cs++([(Fq.ofInt 1),(p.inv.mul q).axis.x,(p.inv.mul q).axis.y,(p.inv.mul q).axis.z,((p.inv.mul q).axis.scale m).x,((p.inv.mul q).axis.scale m).y,((p.inv.mul q).axis.scale m).z]++((Qq.mk (Fq.ofInt 1) ((p.inv.mul q).axis.scale m).x ((p.inv.mul q).axis.scale m).y ((p.inv.mul q).axis.scale m).z).canon.cs++((p.mul (Qq.mk (Fq.ofInt 1) ((p.inv.mul q).axis.scale m).x ((p.inv.mul q).axis.scale m).y ((p.inv.mul q).axis.scale m).z).canon).cs))))))))
theorem q_fBtw1 (vp vq vm:Value) (p:Qq) (q:Qq) (m:Fq) (w:World) (ip:dE w vp p) (iq:dE w vq q) (im:IsQ w vm m) (hp:p.ok 100) (hq:q.ok 100) (hm:m.ok 100) (gp:p.good) (gq:q.good) (gm:m.valid=true) (hw:(p.inv.mul q).w.p≠0):
  Calls Tryz.prog 66 #[vp,vq,vm] w fun e w'=>mD w (p.way (p.inv.mul q) m) 0 e w':=by
 refine(cRn (ρ:=frs (lS p q m)++ []) (args:=[row [0,1,2,3],row [4,5,6,7],fr 8]) (vs:=[vp,vq,vm]) (r:=.tup [row [28,29,30,31],.one (.i .i64 0)])
  (af (xV (kq:=[0,1,2,3]) (q:=p) (kr:=[9,10,11,12]) ⟨rfl,rfl,rfl,rfl,trivial⟩ ⟨rfl,rfl,rfl,rfl,trivial⟩ (hp.mono (by decide)) gp) (af (rE (kp:=[9,10,11,12]) (p:=p.inv) (kq:=[4,5,6,7]) (q:=q) (kr:=[13,14,15,16]) ⟨rfl,rfl,rfl,rfl,trivial⟩ ⟨rfl,rfl,rfl,rfl,trivial⟩ ⟨rfl,rfl,rfl,rfl,trivial⟩ ((hp.inv gp).mono (by decide)) (hq.mono (by decide)) (bJ gp) gq) (af (I_Half0 (kq:=[13,14,15,16]) (q:=(p.inv.mul q)) ⟨rfl,rfl,rfl,rfl,trivial⟩ (((hp.inv gp).mulg hq (bJ gp) gq).mono (by decide)) hw) (af (gd (k:=17) rfl (by decide) (by decide)) (af (rB (kq:=[13,14,15,16]) (q:=(p.inv.mul q)) (kr:=[18,19,20]) ⟨rfl,rfl,rfl,rfl,trivial⟩ ⟨rfl,rfl,rfl,trivial⟩ (((hp.inv gp).mulg hq (bJ gp) gq).mono (by decide))) (af (jm (ka:=[18,19,20]) (a:=(p.inv.mul q).axis) (ik:=8) (kr:=[21,22,23]) ⟨rfl,rfl,rfl,trivial⟩ rfl ⟨rfl,rfl,rfl,trivial⟩ (((hp.inv gp).mulg hq (bJ gp) gq).axis.mono (by decide)) (hm.mono (by decide))) (af (oX (iu:=17) (kc:=[21,22,23]) (c:=((p.inv.mul q).axis.scale m)) (kr:=[24,25,26,27]) rfl ⟨rfl,rfl,rfl,trivial⟩ ⟨rfl,rfl,rfl,rfl,trivial⟩ ((bC (u:=1) (by decide) (by decide)).mono (by decide)) ((((hp.inv gp).mulg hq (bJ gp) gq).axis.scale hm).mono (by decide)) fG) (af (rE (kp:=[0,1,2,3]) (p:=p) (kq:=[24,25,26,27]) (q:=(Qq.mk (Fq.ofInt 1) ((p.inv.mul q).axis.scale m).x ((p.inv.mul q).axis.scale m).y ((p.inv.mul q).axis.scale m).z).canon) (kr:=[28,29,30,31]) ⟨rfl,rfl,rfl,rfl,trivial⟩ ⟨rfl,rfl,rfl,rfl,trivial⟩ ⟨rfl,rfl,rfl,rfl,trivial⟩ (hp.mono (by decide)) ((qv (bC (u:=1) (by decide) (by decide)) (((hp.inv gp).mulg hq (bJ gp) gq).axis.scale hm) fG).mono (by decide)) gp (eT (jM (gW (bJ gp) gq).comp gm) fG)) ai))))))))
  aj Tryz.func66 (by kernel_rfl) ⟨(ag (xs:=lS p q m) (ks:=[0,1,2,3]) (vs:=p.cs) ⟨rfl,rfl,rfl,rfl,trivial⟩).2 ip,⟨(ag (xs:=lS p q m) (ks:=[4,5,6,7]) (vs:=q.cs) ⟨rfl,rfl,rfl,rfl,trivial⟩).2 iq,⟨(aI (xs:=lS p q m) (k:=8) rfl).2 im,trivial⟩⟩⟩).mono ?_
 rintro e w' ⟨v,rfl,⟨vs,rfl,h1⟩,h2⟩
 match vs,h1 with
 | [r,c],h1=>
  obtain⟨⟨cs,rfl,k1⟩,k2,_⟩:=h1
  have k2:c=_:=k2
  subst k2
  exact⟨_,rfl,(ag (xs:=lS p q m) (ks:=[28,29,30,31]) (vs:=(p.mul (Qq.mk (Fq.ofInt 1) ((p.inv.mul q).axis.scale m).x ((p.inv.mul q).axis.scale m).y ((p.inv.mul q).axis.scale m).z).canon).cs) ⟨rfl,rfl,rfl,rfl,trivial⟩).1 ⟨_,rfl,k1⟩,h2⟩
theorem I_fBtw1 {xs:List Fq} {ys:Rho} {kp:List Nat} {kq:List Nat} {im:Nat} {p:Qq} {q:Qq} {m:Fq} {kr:List Nat} (ap:AtL xs kp p.cs) (aq:AtL xs kq q.cs) (am:xs[im]? =some m) (ar:AtL xs kr (p.way (p.inv.mul q) m).cs) (hp:p.ok 100) (hq:q.ok 100) (hm:m.ok 100) (gp:p.good) (gq:q.good) (gm:m.valid=true) (hw:(p.inv.mul q).w.p≠0):OkI xs ys ⟨66,[row kp,row kq,fr im],.tup [row kr,.one (.i .i64 0)]⟩:=
 ⟨aA Tryz.func66 rfl rfl,fun B w vs hB h=>by
  match vs,h with
  | [vp,vq,vm],h=>
   refine(q_fBtw1 vp vq vm p q m w ((ag ap).1 h.1) ((ag aq).1 h.2.1) ((aI am).1 h.2.2.1) hp hq hm gp gq gm hw).mono ?_
   rintro e w' ⟨v,rfl,h1,h2⟩
   exact⟨_,rfl,⟨[v,.int .i64 0],rfl,(ag ar).2 h1,rfl,trivial⟩,h2⟩⟩
def nW (p:Qq) (q:Qq) (m:Fq):List Fq:=(p.cs++(q.cs++([m]++(p.inv.cs++((p.inv.mul q).cs++([(Fq.ofInt 1)]))))))
theorem q_fBtw4 (vp vq vm:Value) (p:Qq) (q:Qq) (m:Fq) (w:World) (ip:dE w vp p) (iq:dE w vq q) (im:IsQ w vm m) (hp:p.ok 100) (hq:q.ok 100) (hm:m.ok 100) (gp:p.good) (gq:q.good) (gm:m.valid=true) (hw:(p.inv.mul q).w.p=0) (h0:m.p≠0) (h1:m≠(Fq.ofInt 1)):
  Calls Tryz.prog 66 #[vp,vq,vm] w fun e w'=>mD w Qq.zero 4 e w':=by
 refine(cRn (ρ:=frs (nW p q m)++([.val (.int .i64 m.sgn),.val (.int .i64 (m.cmp (Fq.ofInt 1)))]:List Vp)) (args:=[row [0,1,2,3],row [4,5,6,7],fr 8]) (vs:=[vp,vq,vm]) (r:=.tup [.agg [.b false,.sl0,.sl0,.b false,.sl0,.sl0,.b false,.sl0,.sl0,.b false,.sl0,.sl0],.one (.i .i64 4)])
  (af (xV (kq:=[0,1,2,3]) (q:=p) (kr:=[9,10,11,12]) ⟨rfl,rfl,rfl,rfl,trivial⟩ ⟨rfl,rfl,rfl,rfl,trivial⟩ (hp.mono (by decide)) gp) (af (rE (kp:=[9,10,11,12]) (p:=p.inv) (kq:=[4,5,6,7]) (q:=q) (kr:=[13,14,15,16]) ⟨rfl,rfl,rfl,rfl,trivial⟩ ⟨rfl,rfl,rfl,rfl,trivial⟩ ⟨rfl,rfl,rfl,rfl,trivial⟩ ((hp.inv gp).mono (by decide)) (hq.mono (by decide)) (bJ gp) gq) (af (I_Half1 (kq:=[13,14,15,16]) (q:=(p.inv.mul q)) ⟨rfl,rfl,rfl,rfl,trivial⟩ (((hp.inv gp).mulg hq (bJ gp) gq).mono (by decide)) hw) (af (bn (i:=8) rfl (lr (n:=54) rfl) (hm.mono (by decide))) (af (gd (k:=17) rfl (by decide) (by decide)) (af (bY (i:=8) (j:=17) rfl rfl (lr (n:=55) rfl) (hm.mono (by decide)) ((bC (u:=1) (by decide) (by decide)).mono (by decide))) ai))))))
  (ae (gG (n:=54) (c:=0) (t:=3) rfl (iF h0)) (ae (gG (n:=55) (c:=0) (t:=3) rfl (jl (mt (bX gm (aW 1)).1 h1))) (aj))) Tryz.func66 (by kernel_rfl) ⟨(ag (xs:=nW p q m) (ks:=[0,1,2,3]) (vs:=p.cs) ⟨rfl,rfl,rfl,rfl,trivial⟩).2 ip,⟨(ag (xs:=nW p q m) (ks:=[4,5,6,7]) (vs:=q.cs) ⟨rfl,rfl,rfl,rfl,trivial⟩).2 iq,⟨(aI (xs:=nW p q m) (k:=8) rfl).2 im,trivial⟩⟩⟩).mono ?_
 rintro e w' ⟨v,rfl,⟨vs,rfl,h1⟩,h2⟩
 match vs,h1 with
 | [r,c],h1=>
  obtain⟨⟨cs,rfl,k1⟩,k2,_⟩:=h1
  have k2:c=_:=k2
  subst k2
  exact⟨_,rfl,⟨_,rfl,dx (n:=4) k1⟩,h2⟩
theorem I_fBtw4 {xs:List Fq} {ys:Rho} {kp:List Nat} {kq:List Nat} {im:Nat} {p:Qq} {q:Qq} {m:Fq} {kr:List Nat} (ap:AtL xs kp p.cs) (aq:AtL xs kq q.cs) (am:xs[im]? =some m) (ar:AtL xs kr Qq.zero.cs) (hp:p.ok 100) (hq:q.ok 100) (hm:m.ok 100) (gp:p.good) (gq:q.good) (gm:m.valid=true) (hw:(p.inv.mul q).w.p=0) (h0:m.p≠0) (h1:m≠(Fq.ofInt 1)):OkI xs ys ⟨66,[row kp,row kq,fr im],.tup [row kr,.one (.i .i64 4)]⟩:=
 ⟨aA Tryz.func66 rfl rfl,fun B w vs hB h=>by
  match vs,h with
  | [vp,vq,vm],h=>
   refine(q_fBtw4 vp vq vm p q m w ((ag ap).1 h.1) ((ag aq).1 h.2.1) ((aI am).1 h.2.2.1) hp hq hm gp gq gm hw h0 h1).mono ?_
   rintro e w' ⟨v,rfl,h1,h2⟩
   exact⟨_,rfl,⟨[v,.int .i64 4],rfl,(ag ar).2 h1,rfl,trivial⟩,h2⟩⟩
def lT (p:Qq) (q:Qq) (m:Fq):List Fq:=(p.cs++(q.cs++([m]++(p.inv.cs++((p.inv.mul q).cs++([(Fq.ofInt 1),(p.inv.mul q).axis.x,(p.inv.mul q).axis.y,(p.inv.mul q).axis.z,((p.inv.mul q).axis.scale m).x,((p.inv.mul q).axis.scale m).y,((p.inv.mul q).axis.scale m).z]++((Qq.mk (Fq.ofInt 1) ((p.inv.mul q).axis.scale m).x ((p.inv.mul q).axis.scale m).y ((p.inv.mul q).axis.scale m).z).canon.cs++((p.mul (Qq.mk (Fq.ofInt 1) ((p.inv.mul q).axis.scale m).x ((p.inv.mul q).axis.scale m).y ((p.inv.mul q).axis.scale m).z).canon).cs))))))))
theorem q_rBtw1 (vp vq vm:Value) (p:Qq) (q:Qq) (m:Fq) (w:World) (ip:dE w vp p) (iq:dE w vq q) (im:IsQ w vm m) (hp:p.ok 100) (hq:q.ok 100) (hm:m.ok 100) (gp:p.good) (gq:q.good) (gm:m.valid=true) (hw:(p.inv.mul q).w.p≠0):
  Calls Tryz.prog 84 #[vp,vq,vm] w fun e w'=>mD w (p.way (p.inv.mul q) m) 0 e w':=by
 refine(cRn (ρ:=frs (lT p q m)++ []) (args:=[row [0,1,2,3],row [4,5,6,7],fr 8]) (vs:=[vp,vq,vm]) (r:=.tup [row [28,29,30,31],.one (.i .i64 0)])
  (af (xW (kq:=[0,1,2,3]) (q:=p) (kr:=[9,10,11,12]) ⟨rfl,rfl,rfl,rfl,trivial⟩ ⟨rfl,rfl,rfl,rfl,trivial⟩ (hp.mono (by decide)) gp) (af (rF (kp:=[9,10,11,12]) (p:=p.inv) (kq:=[4,5,6,7]) (q:=q) (kr:=[13,14,15,16]) ⟨rfl,rfl,rfl,rfl,trivial⟩ ⟨rfl,rfl,rfl,rfl,trivial⟩ ⟨rfl,rfl,rfl,rfl,trivial⟩ ((hp.inv gp).mono (by decide)) (hq.mono (by decide)) (bJ gp) gq) (af (I_rHalf0 (kq:=[13,14,15,16]) (q:=(p.inv.mul q)) ⟨rfl,rfl,rfl,rfl,trivial⟩ (((hp.inv gp).mulg hq (bJ gp) gq).mono (by decide)) hw) (af (dK (k:=17) rfl (by decide) (by decide)) (af (vF (kq:=[13,14,15,16]) (q:=(p.inv.mul q)) (kr:=[18,19,20]) ⟨rfl,rfl,rfl,rfl,trivial⟩ ⟨rfl,rfl,rfl,trivial⟩ (((hp.inv gp).mulg hq (bJ gp) gq).mono (by decide))) (af (oT (ka:=[18,19,20]) (a:=(p.inv.mul q).axis) (ik:=8) (kr:=[21,22,23]) ⟨rfl,rfl,rfl,trivial⟩ rfl ⟨rfl,rfl,rfl,trivial⟩ (((hp.inv gp).mulg hq (bJ gp) gq).axis.mono (by decide)) (hm.mono (by decide))) (af (oW (iu:=17) (kc:=[21,22,23]) (c:=((p.inv.mul q).axis.scale m)) (kr:=[24,25,26,27]) rfl ⟨rfl,rfl,rfl,trivial⟩ ⟨rfl,rfl,rfl,rfl,trivial⟩ ((bC (u:=1) (by decide) (by decide)).mono (by decide)) ((((hp.inv gp).mulg hq (bJ gp) gq).axis.scale hm).mono (by decide)) fG) (af (rF (kp:=[0,1,2,3]) (p:=p) (kq:=[24,25,26,27]) (q:=(Qq.mk (Fq.ofInt 1) ((p.inv.mul q).axis.scale m).x ((p.inv.mul q).axis.scale m).y ((p.inv.mul q).axis.scale m).z).canon) (kr:=[28,29,30,31]) ⟨rfl,rfl,rfl,rfl,trivial⟩ ⟨rfl,rfl,rfl,rfl,trivial⟩ ⟨rfl,rfl,rfl,rfl,trivial⟩ (hp.mono (by decide)) ((qv (bC (u:=1) (by decide) (by decide)) (((hp.inv gp).mulg hq (bJ gp) gq).axis.scale hm) fG).mono (by decide)) gp (eT (jM (gW (bJ gp) gq).comp gm) fG)) ai))))))))
  aj Tryz.func84 (by kernel_rfl) ⟨(ag (xs:=lT p q m) (ks:=[0,1,2,3]) (vs:=p.cs) ⟨rfl,rfl,rfl,rfl,trivial⟩).2 ip,⟨(ag (xs:=lT p q m) (ks:=[4,5,6,7]) (vs:=q.cs) ⟨rfl,rfl,rfl,rfl,trivial⟩).2 iq,⟨(aI (xs:=lT p q m) (k:=8) rfl).2 im,trivial⟩⟩⟩).mono ?_
 rintro e w' ⟨v,rfl,⟨vs,rfl,h1⟩,h2⟩
 match vs,h1 with
 | [r,c],h1=>
  obtain⟨⟨cs,rfl,k1⟩,k2,_⟩:=h1
  have k2:c=_:=k2
  subst k2
  exact⟨_,rfl,(ag (xs:=lT p q m) (ks:=[28,29,30,31]) (vs:=(p.mul (Qq.mk (Fq.ofInt 1) ((p.inv.mul q).axis.scale m).x ((p.inv.mul q).axis.scale m).y ((p.inv.mul q).axis.scale m).z).canon).cs) ⟨rfl,rfl,rfl,rfl,trivial⟩).1 ⟨_,rfl,k1⟩,h2⟩
theorem I_rBtw1 {xs:List Fq} {ys:Rho} {kp:List Nat} {kq:List Nat} {im:Nat} {p:Qq} {q:Qq} {m:Fq} {kr:List Nat} (ap:AtL xs kp p.cs) (aq:AtL xs kq q.cs) (am:xs[im]? =some m) (ar:AtL xs kr (p.way (p.inv.mul q) m).cs) (hp:p.ok 100) (hq:q.ok 100) (hm:m.ok 100) (gp:p.good) (gq:q.good) (gm:m.valid=true) (hw:(p.inv.mul q).w.p≠0):OkI xs ys ⟨84,[row kp,row kq,fr im],.tup [row kr,.one (.i .i64 0)]⟩:=
 ⟨aA Tryz.func84 rfl rfl,fun B w vs hB h=>by
  match vs,h with
  | [vp,vq,vm],h=>
   refine(q_rBtw1 vp vq vm p q m w ((ag ap).1 h.1) ((ag aq).1 h.2.1) ((aI am).1 h.2.2.1) hp hq hm gp gq gm hw).mono ?_
   rintro e w' ⟨v,rfl,h1,h2⟩
   exact⟨_,rfl,⟨[v,.int .i64 0],rfl,(ag ar).2 h1,rfl,trivial⟩,h2⟩⟩
def nX (p:Qq) (q:Qq) (m:Fq):List Fq:=(p.cs++(q.cs++([m]++(p.inv.cs++((p.inv.mul q).cs++([(Fq.ofInt 1)]))))))
theorem q_rBtw4 (vp vq vm:Value) (p:Qq) (q:Qq) (m:Fq) (w:World) (ip:dE w vp p) (iq:dE w vq q) (im:IsQ w vm m) (hp:p.ok 100) (hq:q.ok 100) (hm:m.ok 100) (gp:p.good) (gq:q.good) (gm:m.valid=true) (hw:(p.inv.mul q).w.p=0) (h0:m.p≠0) (h1:m≠(Fq.ofInt 1)):
  Calls Tryz.prog 84 #[vp,vq,vm] w fun e w'=>mD w Qq.zero 4 e w':=by
 refine(cRn (ρ:=frs (nX p q m)++([.val (.int .i64 m.sgn)]:List Vp)) (args:=[row [0,1,2,3],row [4,5,6,7],fr 8]) (vs:=[vp,vq,vm]) (r:=.tup [.agg [.b false,.sl0,.sl0,.b false,.sl0,.sl0,.b false,.sl0,.sl0,.b false,.sl0,.sl0],.one (.i .i64 4)])
  (af (xW (kq:=[0,1,2,3]) (q:=p) (kr:=[9,10,11,12]) ⟨rfl,rfl,rfl,rfl,trivial⟩ ⟨rfl,rfl,rfl,rfl,trivial⟩ (hp.mono (by decide)) gp) (af (rF (kp:=[9,10,11,12]) (p:=p.inv) (kq:=[4,5,6,7]) (q:=q) (kr:=[13,14,15,16]) ⟨rfl,rfl,rfl,rfl,trivial⟩ ⟨rfl,rfl,rfl,rfl,trivial⟩ ⟨rfl,rfl,rfl,rfl,trivial⟩ ((hp.inv gp).mono (by decide)) (hq.mono (by decide)) (bJ gp) gq) (af (I_rHalf1 (kq:=[13,14,15,16]) (q:=(p.inv.mul q)) ⟨rfl,rfl,rfl,rfl,trivial⟩ (((hp.inv gp).mulg hq (bJ gp) gq).mono (by decide)) hw) (af (dQ (i:=8) rfl (lr (n:=54) rfl) (hm.mono (by decide))) (af (dK (k:=17) rfl (by decide) (by decide)) (af (bS (i:=8) (j:=17) (l:=.b false) rfl rfl (lb (eC h1)) (hm.mono (by decide)).p (hm.mono (by decide)).q ((bC (u:=1) (by decide) (by decide)).mono (by decide)).p ((bC (u:=1) (by decide) (by decide)).mono (by decide)).q) ai))))))
  (ae (gG (n:=54) (c:=0) (t:=3) rfl (iF h0)) (aj)) Tryz.func84 (by kernel_rfl) ⟨(ag (xs:=nX p q m) (ks:=[0,1,2,3]) (vs:=p.cs) ⟨rfl,rfl,rfl,rfl,trivial⟩).2 ip,⟨(ag (xs:=nX p q m) (ks:=[4,5,6,7]) (vs:=q.cs) ⟨rfl,rfl,rfl,rfl,trivial⟩).2 iq,⟨(aI (xs:=nX p q m) (k:=8) rfl).2 im,trivial⟩⟩⟩).mono ?_
 rintro e w' ⟨v,rfl,⟨vs,rfl,h1⟩,h2⟩
 match vs,h1 with
 | [r,c],h1=>
  obtain⟨⟨cs,rfl,k1⟩,k2,_⟩:=h1
  have k2:c=_:=k2
  subst k2
  exact⟨_,rfl,⟨_,rfl,dx (n:=4) k1⟩,h2⟩
theorem I_rBtw4 {xs:List Fq} {ys:Rho} {kp:List Nat} {kq:List Nat} {im:Nat} {p:Qq} {q:Qq} {m:Fq} {kr:List Nat} (ap:AtL xs kp p.cs) (aq:AtL xs kq q.cs) (am:xs[im]? =some m) (ar:AtL xs kr Qq.zero.cs) (hp:p.ok 100) (hq:q.ok 100) (hm:m.ok 100) (gp:p.good) (gq:q.good) (gm:m.valid=true) (hw:(p.inv.mul q).w.p=0) (h0:m.p≠0) (h1:m≠(Fq.ofInt 1)):OkI xs ys ⟨84,[row kp,row kq,fr im],.tup [row kr,.one (.i .i64 4)]⟩:=
 ⟨aA Tryz.func84 rfl rfl,fun B w vs hB h=>by
  match vs,h with
  | [vp,vq,vm],h=>
   refine(q_rBtw4 vp vq vm p q m w ((ag ap).1 h.1) ((ag aq).1 h.2.1) ((aI am).1 h.2.2.1) hp hq hm gp gq gm hw h0 h1).mono ?_
   rintro e w' ⟨v,rfl,h1,h2⟩
   exact⟨_,rfl,⟨[v,.int .i64 4],rfl,(ag ar).2 h1,rfl,trivial⟩,h2⟩⟩
def oZ (q:Qq):List Fq:=(q.cs++([(Fq.ofInt 1)]))
def na (q:Qq):List Fq:=(q.cs++([(Fq.ofInt 1)]))
def nc (q:Qq):List Fq:=(q.cs++([(Fq.ofInt 1)]))
def nd (q:Qq):List Fq:=(q.cs++([(Fq.ofInt 1)]))
theorem o0 (vq:Value) (q:Qq) (w:World) (iq:dE w vq q) (hq:q.ok 1000000) (gq:q.good):
  Calls Tryz.prog 69 #[vq] w fun e w'=>bH w (.bool true) e w':=by
 by_cases c0:q.w.p=0
 ·by_cases c1:q.x.p=0
  ·by_cases c2:q.y.p=0
   ·by_cases c3:q.z.p=0
    ·exact absurd (by simp[Qq.first,c0,c1,c2,c3]) (good_ne gq)
    ·have e1:q.first=q.z:=by simp[Qq.first,c0,c1,c2,c3]
     refine(cRn (ρ:=frs (oZ q)++([.val (.int .i64 q.z.sgn)]:List Vp)) (args:=[row [0,1,2,3]]) (vs:=[vq]) (r:=.v (.one (.b true)))
      (af (cI (kq:=[0,1,2,3]) (q:=q) (kr:=[0,1,2,3]) ⟨rfl,rfl,rfl,rfl,trivial⟩ ⟨rfl,rfl,rfl,rfl,trivial⟩ (hq.mono (by decide))) (af (aY (i:=0) (l:=.b true) rfl (lb gq.comp.w) (hq.w.mono (by decide))) (af (aY (i:=1) (l:=.b true) rfl (lb gq.comp.x) (hq.x.mono (by decide))) (af (aY (i:=2) (l:=.b true) rfl (lb gq.comp.y) (hq.y.mono (by decide))) (af (aY (i:=3) (l:=.b true) rfl (lb gq.comp.z) (hq.z.mono (by decide))) (af (bn (i:=0) rfl (li (en c0)) (hq.w.mono (by decide))) (af (bn (i:=1) rfl (li (en c1)) (hq.x.mono (by decide))) (af (bn (i:=2) rfl (li (en c2)) (hq.y.mono (by decide))) (af (bn (i:=3) rfl (lr (n:=15) rfl) (hq.z.mono (by decide))) (af (gd (k:=4) rfl (by decide) (by decide)) (af (bY (i:=3) (j:=4) rfl rfl (li ((bX gq.comp.z (aW 1)).2 (e1.symm.trans (eV gq)))) (hq.z.mono (by decide)) ((bC (u:=1) (by decide) (by decide)).mono (by decide))) ai)))))))))))
      (ae (fY (n:=15) (c:=0) (t:=3) rfl (gf c3)) (aj)) Tryz.func69 (by kernel_rfl) ⟨(ag (xs:=oZ q) (ks:=[0,1,2,3]) (vs:=q.cs) ⟨rfl,rfl,rfl,rfl,trivial⟩).2 iq,trivial⟩).mono ?_
     rintro e w' ⟨v,rfl,h1,h2⟩
     exact⟨congrArg Ending.returned h1,h2⟩
   ·have e1:q.first=q.y:=by simp[Qq.first,c0,c1,c2]
    refine(cRn (ρ:=frs (na q)++([.val (.int .i64 q.y.sgn)]:List Vp)) (args:=[row [0,1,2,3]]) (vs:=[vq]) (r:=.v (.one (.b true)))
     (af (cI (kq:=[0,1,2,3]) (q:=q) (kr:=[0,1,2,3]) ⟨rfl,rfl,rfl,rfl,trivial⟩ ⟨rfl,rfl,rfl,rfl,trivial⟩ (hq.mono (by decide))) (af (aY (i:=0) (l:=.b true) rfl (lb gq.comp.w) (hq.w.mono (by decide))) (af (aY (i:=1) (l:=.b true) rfl (lb gq.comp.x) (hq.x.mono (by decide))) (af (aY (i:=2) (l:=.b true) rfl (lb gq.comp.y) (hq.y.mono (by decide))) (af (aY (i:=3) (l:=.b true) rfl (lb gq.comp.z) (hq.z.mono (by decide))) (af (bn (i:=0) rfl (li (en c0)) (hq.w.mono (by decide))) (af (bn (i:=1) rfl (li (en c1)) (hq.x.mono (by decide))) (af (bn (i:=2) rfl (lr (n:=15) rfl) (hq.y.mono (by decide))) (af (gd (k:=4) rfl (by decide) (by decide)) (af (bY (i:=2) (j:=4) rfl rfl (li ((bX gq.comp.y (aW 1)).2 (e1.symm.trans (eV gq)))) (hq.y.mono (by decide)) ((bC (u:=1) (by decide) (by decide)).mono (by decide))) ai))))))))))
     (ae (fY (n:=15) (c:=0) (t:=3) rfl (gf c2)) (aj)) Tryz.func69 (by kernel_rfl) ⟨(ag (xs:=na q) (ks:=[0,1,2,3]) (vs:=q.cs) ⟨rfl,rfl,rfl,rfl,trivial⟩).2 iq,trivial⟩).mono ?_
    rintro e w' ⟨v,rfl,h1,h2⟩
    exact⟨congrArg Ending.returned h1,h2⟩
  ·have e1:q.first=q.x:=by simp[Qq.first,c0,c1]
   refine(cRn (ρ:=frs (nc q)++([.val (.int .i64 q.x.sgn)]:List Vp)) (args:=[row [0,1,2,3]]) (vs:=[vq]) (r:=.v (.one (.b true)))
    (af (cI (kq:=[0,1,2,3]) (q:=q) (kr:=[0,1,2,3]) ⟨rfl,rfl,rfl,rfl,trivial⟩ ⟨rfl,rfl,rfl,rfl,trivial⟩ (hq.mono (by decide))) (af (aY (i:=0) (l:=.b true) rfl (lb gq.comp.w) (hq.w.mono (by decide))) (af (aY (i:=1) (l:=.b true) rfl (lb gq.comp.x) (hq.x.mono (by decide))) (af (aY (i:=2) (l:=.b true) rfl (lb gq.comp.y) (hq.y.mono (by decide))) (af (aY (i:=3) (l:=.b true) rfl (lb gq.comp.z) (hq.z.mono (by decide))) (af (bn (i:=0) rfl (li (en c0)) (hq.w.mono (by decide))) (af (bn (i:=1) rfl (lr (n:=15) rfl) (hq.x.mono (by decide))) (af (gd (k:=4) rfl (by decide) (by decide)) (af (bY (i:=1) (j:=4) rfl rfl (li ((bX gq.comp.x (aW 1)).2 (e1.symm.trans (eV gq)))) (hq.x.mono (by decide)) ((bC (u:=1) (by decide) (by decide)).mono (by decide))) ai)))))))))
    (ae (fY (n:=15) (c:=0) (t:=3) rfl (gf c1)) (aj)) Tryz.func69 (by kernel_rfl) ⟨(ag (xs:=nc q) (ks:=[0,1,2,3]) (vs:=q.cs) ⟨rfl,rfl,rfl,rfl,trivial⟩).2 iq,trivial⟩).mono ?_
   rintro e w' ⟨v,rfl,h1,h2⟩
   exact⟨congrArg Ending.returned h1,h2⟩
 ·have e1:q.first=q.w:=by simp[Qq.first,c0]
  refine(cRn (ρ:=frs (nd q)++([.val (.int .i64 q.w.sgn)]:List Vp)) (args:=[row [0,1,2,3]]) (vs:=[vq]) (r:=.v (.one (.b true)))
   (af (cI (kq:=[0,1,2,3]) (q:=q) (kr:=[0,1,2,3]) ⟨rfl,rfl,rfl,rfl,trivial⟩ ⟨rfl,rfl,rfl,rfl,trivial⟩ (hq.mono (by decide))) (af (aY (i:=0) (l:=.b true) rfl (lb gq.comp.w) (hq.w.mono (by decide))) (af (aY (i:=1) (l:=.b true) rfl (lb gq.comp.x) (hq.x.mono (by decide))) (af (aY (i:=2) (l:=.b true) rfl (lb gq.comp.y) (hq.y.mono (by decide))) (af (aY (i:=3) (l:=.b true) rfl (lb gq.comp.z) (hq.z.mono (by decide))) (af (bn (i:=0) rfl (lr (n:=15) rfl) (hq.w.mono (by decide))) (af (gd (k:=4) rfl (by decide) (by decide)) (af (bY (i:=0) (j:=4) rfl rfl (li ((bX gq.comp.w (aW 1)).2 (e1.symm.trans (eV gq)))) (hq.w.mono (by decide)) ((bC (u:=1) (by decide) (by decide)).mono (by decide))) ai))))))))
   (ae (fY (n:=15) (c:=0) (t:=3) rfl (gf c0)) (aj)) Tryz.func69 (by kernel_rfl) ⟨(ag (xs:=nd q) (ks:=[0,1,2,3]) (vs:=q.cs) ⟨rfl,rfl,rfl,rfl,trivial⟩).2 iq,trivial⟩).mono ?_
  rintro e w' ⟨v,rfl,h1,h2⟩
  exact⟨congrArg Ending.returned h1,h2⟩
theorem vH {xs:List Fq} {ys:Rho} {kq:List Nat} {q:Qq} (aq:AtL xs kq q.cs) (hq:q.ok 1000000) (gq:q.good):OkI xs ys ⟨69,[row kq],.v (.one (.b true))⟩:=
 ⟨aA Tryz.func69 rfl rfl,fun B w vs hB h=>by
  match vs,h with
  | [vq],h=>
   refine(o0 vq q w ((ag aq).1 h.1) hq gq).mono ?_
   rintro e w' ⟨rfl,h2⟩
   exact⟨_,rfl,rfl,h2⟩⟩
def o3 (q:Qq):List Fq:=q.cs
def nf (q:Qq):List Fq:=(q.cs++([(Fq.ofInt 1)]))
def ng (q:Qq):List Fq:=(q.cs++([(Fq.ofInt 1)]))
def nh (q:Qq):List Fq:=(q.cs++([(Fq.ofInt 1)]))
def ni (q:Qq):List Fq:=(q.cs++([(Fq.ofInt 1)]))
theorem vI (vq:Value) (q:Qq) (w:World) (iq:dE w vq q) (hq:q.ok 1000000) (gc:q.comp) (hf:q.first≠(Fq.ofInt 1)):
  Calls Tryz.prog 69 #[vq] w fun e w'=>bH w (.bool false) e w':=by
 by_cases c0:q.w.p=0
 ·by_cases c1:q.x.p=0
  ·by_cases c2:q.y.p=0
   ·by_cases c3:q.z.p=0
    ·refine(cRn (ρ:=frs (o3 q)++ []) (args:=[row [0,1,2,3]]) (vs:=[vq]) (r:=.v (.one (.b false)))
      (af (cI (kq:=[0,1,2,3]) (q:=q) (kr:=[0,1,2,3]) ⟨rfl,rfl,rfl,rfl,trivial⟩ ⟨rfl,rfl,rfl,rfl,trivial⟩ (hq.mono (by decide))) (af (aY (i:=0) (l:=.b true) rfl (lb gc.w) (hq.w.mono (by decide))) (af (aY (i:=1) (l:=.b true) rfl (lb gc.x) (hq.x.mono (by decide))) (af (aY (i:=2) (l:=.b true) rfl (lb gc.y) (hq.y.mono (by decide))) (af (aY (i:=3) (l:=.b true) rfl (lb gc.z) (hq.z.mono (by decide))) (af (bn (i:=0) rfl (li (en c0)) (hq.w.mono (by decide))) (af (bn (i:=1) rfl (li (en c1)) (hq.x.mono (by decide))) (af (bn (i:=2) rfl (li (en c2)) (hq.y.mono (by decide))) (af (bn (i:=3) rfl (li (en c3)) (hq.z.mono (by decide))) ai)))))))))
      aj Tryz.func69 (by kernel_rfl) ⟨(ag (xs:=o3 q) (ks:=[0,1,2,3]) (vs:=q.cs) ⟨rfl,rfl,rfl,rfl,trivial⟩).2 iq,trivial⟩).mono ?_
     rintro e w' ⟨v,rfl,h1,h2⟩
     exact⟨congrArg Ending.returned h1,h2⟩
    ·have e1:q.first=q.z:=by simp[Qq.first,c0,c1,c2,c3]
     refine(cRn (ρ:=frs (nf q)++([.val (.int .i64 q.z.sgn),.val (.int .i64 (q.z.cmp (Fq.ofInt 1)))]:List Vp)) (args:=[row [0,1,2,3]]) (vs:=[vq]) (r:=.v (.one (.b false)))
      (af (cI (kq:=[0,1,2,3]) (q:=q) (kr:=[0,1,2,3]) ⟨rfl,rfl,rfl,rfl,trivial⟩ ⟨rfl,rfl,rfl,rfl,trivial⟩ (hq.mono (by decide))) (af (aY (i:=0) (l:=.b true) rfl (lb gc.w) (hq.w.mono (by decide))) (af (aY (i:=1) (l:=.b true) rfl (lb gc.x) (hq.x.mono (by decide))) (af (aY (i:=2) (l:=.b true) rfl (lb gc.y) (hq.y.mono (by decide))) (af (aY (i:=3) (l:=.b true) rfl (lb gc.z) (hq.z.mono (by decide))) (af (bn (i:=0) rfl (li (en c0)) (hq.w.mono (by decide))) (af (bn (i:=1) rfl (li (en c1)) (hq.x.mono (by decide))) (af (bn (i:=2) rfl (li (en c2)) (hq.y.mono (by decide))) (af (bn (i:=3) rfl (lr (n:=15) rfl) (hq.z.mono (by decide))) (af (gd (k:=4) rfl (by decide) (by decide)) (af (bY (i:=3) (j:=4) rfl rfl (lr (n:=16) rfl) (hq.z.mono (by decide)) ((bC (u:=1) (by decide) (by decide)).mono (by decide))) ai)))))))))))
      (ae (fY (n:=15) (c:=0) (t:=3) rfl (gf c3)) (ae (gG (n:=16) (c:=0) (t:=3) rfl (jl (mt (bX gc.z (aW 1)).1 (fun h=>hf (e1.trans h))))) (aj))) Tryz.func69 (by kernel_rfl) ⟨(ag (xs:=nf q) (ks:=[0,1,2,3]) (vs:=q.cs) ⟨rfl,rfl,rfl,rfl,trivial⟩).2 iq,trivial⟩).mono ?_
     rintro e w' ⟨v,rfl,h1,h2⟩
     exact⟨congrArg Ending.returned h1,h2⟩
   ·have e1:q.first=q.y:=by simp[Qq.first,c0,c1,c2]
    refine(cRn (ρ:=frs (ng q)++([.val (.int .i64 q.y.sgn),.val (.int .i64 (q.y.cmp (Fq.ofInt 1)))]:List Vp)) (args:=[row [0,1,2,3]]) (vs:=[vq]) (r:=.v (.one (.b false)))
     (af (cI (kq:=[0,1,2,3]) (q:=q) (kr:=[0,1,2,3]) ⟨rfl,rfl,rfl,rfl,trivial⟩ ⟨rfl,rfl,rfl,rfl,trivial⟩ (hq.mono (by decide))) (af (aY (i:=0) (l:=.b true) rfl (lb gc.w) (hq.w.mono (by decide))) (af (aY (i:=1) (l:=.b true) rfl (lb gc.x) (hq.x.mono (by decide))) (af (aY (i:=2) (l:=.b true) rfl (lb gc.y) (hq.y.mono (by decide))) (af (aY (i:=3) (l:=.b true) rfl (lb gc.z) (hq.z.mono (by decide))) (af (bn (i:=0) rfl (li (en c0)) (hq.w.mono (by decide))) (af (bn (i:=1) rfl (li (en c1)) (hq.x.mono (by decide))) (af (bn (i:=2) rfl (lr (n:=15) rfl) (hq.y.mono (by decide))) (af (gd (k:=4) rfl (by decide) (by decide)) (af (bY (i:=2) (j:=4) rfl rfl (lr (n:=16) rfl) (hq.y.mono (by decide)) ((bC (u:=1) (by decide) (by decide)).mono (by decide))) ai))))))))))
     (ae (fY (n:=15) (c:=0) (t:=3) rfl (gf c2)) (ae (gG (n:=16) (c:=0) (t:=3) rfl (jl (mt (bX gc.y (aW 1)).1 (fun h=>hf (e1.trans h))))) (aj))) Tryz.func69 (by kernel_rfl) ⟨(ag (xs:=ng q) (ks:=[0,1,2,3]) (vs:=q.cs) ⟨rfl,rfl,rfl,rfl,trivial⟩).2 iq,trivial⟩).mono ?_
    rintro e w' ⟨v,rfl,h1,h2⟩
    exact⟨congrArg Ending.returned h1,h2⟩
  ·have e1:q.first=q.x:=by simp[Qq.first,c0,c1]
   refine(cRn (ρ:=frs (nh q)++([.val (.int .i64 q.x.sgn),.val (.int .i64 (q.x.cmp (Fq.ofInt 1)))]:List Vp)) (args:=[row [0,1,2,3]]) (vs:=[vq]) (r:=.v (.one (.b false)))
    (af (cI (kq:=[0,1,2,3]) (q:=q) (kr:=[0,1,2,3]) ⟨rfl,rfl,rfl,rfl,trivial⟩ ⟨rfl,rfl,rfl,rfl,trivial⟩ (hq.mono (by decide))) (af (aY (i:=0) (l:=.b true) rfl (lb gc.w) (hq.w.mono (by decide))) (af (aY (i:=1) (l:=.b true) rfl (lb gc.x) (hq.x.mono (by decide))) (af (aY (i:=2) (l:=.b true) rfl (lb gc.y) (hq.y.mono (by decide))) (af (aY (i:=3) (l:=.b true) rfl (lb gc.z) (hq.z.mono (by decide))) (af (bn (i:=0) rfl (li (en c0)) (hq.w.mono (by decide))) (af (bn (i:=1) rfl (lr (n:=15) rfl) (hq.x.mono (by decide))) (af (gd (k:=4) rfl (by decide) (by decide)) (af (bY (i:=1) (j:=4) rfl rfl (lr (n:=16) rfl) (hq.x.mono (by decide)) ((bC (u:=1) (by decide) (by decide)).mono (by decide))) ai)))))))))
    (ae (fY (n:=15) (c:=0) (t:=3) rfl (gf c1)) (ae (gG (n:=16) (c:=0) (t:=3) rfl (jl (mt (bX gc.x (aW 1)).1 (fun h=>hf (e1.trans h))))) (aj))) Tryz.func69 (by kernel_rfl) ⟨(ag (xs:=nh q) (ks:=[0,1,2,3]) (vs:=q.cs) ⟨rfl,rfl,rfl,rfl,trivial⟩).2 iq,trivial⟩).mono ?_
   rintro e w' ⟨v,rfl,h1,h2⟩
   exact⟨congrArg Ending.returned h1,h2⟩
 ·have e1:q.first=q.w:=by simp[Qq.first,c0]
  refine(cRn (ρ:=frs (ni q)++([.val (.int .i64 q.w.sgn),.val (.int .i64 (q.w.cmp (Fq.ofInt 1)))]:List Vp)) (args:=[row [0,1,2,3]]) (vs:=[vq]) (r:=.v (.one (.b false)))
   (af (cI (kq:=[0,1,2,3]) (q:=q) (kr:=[0,1,2,3]) ⟨rfl,rfl,rfl,rfl,trivial⟩ ⟨rfl,rfl,rfl,rfl,trivial⟩ (hq.mono (by decide))) (af (aY (i:=0) (l:=.b true) rfl (lb gc.w) (hq.w.mono (by decide))) (af (aY (i:=1) (l:=.b true) rfl (lb gc.x) (hq.x.mono (by decide))) (af (aY (i:=2) (l:=.b true) rfl (lb gc.y) (hq.y.mono (by decide))) (af (aY (i:=3) (l:=.b true) rfl (lb gc.z) (hq.z.mono (by decide))) (af (bn (i:=0) rfl (lr (n:=15) rfl) (hq.w.mono (by decide))) (af (gd (k:=4) rfl (by decide) (by decide)) (af (bY (i:=0) (j:=4) rfl rfl (lr (n:=16) rfl) (hq.w.mono (by decide)) ((bC (u:=1) (by decide) (by decide)).mono (by decide))) ai))))))))
   (ae (fY (n:=15) (c:=0) (t:=3) rfl (gf c0)) (ae (gG (n:=16) (c:=0) (t:=3) rfl (jl (mt (bX gc.w (aW 1)).1 (fun h=>hf (e1.trans h))))) (aj))) Tryz.func69 (by kernel_rfl) ⟨(ag (xs:=ni q) (ks:=[0,1,2,3]) (vs:=q.cs) ⟨rfl,rfl,rfl,rfl,trivial⟩).2 iq,trivial⟩).mono ?_
  rintro e w' ⟨v,rfl,h1,h2⟩
  exact⟨congrArg Ending.returned h1,h2⟩
def o4 (q:Qq):List Fq:=(q.cs++([q.first,(Fq.ofInt 1)]))
theorem o5 (vq:Value) (q:Qq) (w:World) (iq:dE w vq q) (hq:q.ok 1000000) (gq:q.good):
  Calls Tryz.prog 51 #[vq] w fun e w'=>bH w (.bool true) e w':=by
 refine(cRn (ρ:=frs (o4 q)++ []) (args:=[row [0,1,2,3]]) (vs:=[vq]) (r:=.v (.one (.b true)))
  (af (dL (i:=0) (l:=.b true) rfl (lb gq.comp.w) (hq.w.mono (by decide))) (af (dL (i:=1) (l:=.b true) rfl (lb gq.comp.x) (hq.x.mono (by decide))) (af (dL (i:=2) (l:=.b true) rfl (lb gq.comp.y) (hq.y.mono (by decide))) (af (dL (i:=3) (l:=.b true) rfl (lb gq.comp.z) (hq.z.mono (by decide))) (af (oV (kq:=[0,1,2,3]) (q:=q) (ir:=4) ⟨rfl,rfl,rfl,rfl,trivial⟩ rfl (hq.mono (by decide))) (af (dK (k:=5) rfl (by decide) (by decide)) (af (bS (i:=4) (j:=5) (l:=.b true) rfl rfl (lb (Fq.same_iff.2 (eV gq))) (hq.first.mono (by decide)).p (hq.first.mono (by decide)).q ((bC (u:=1) (by decide) (by decide)).mono (by decide)).p ((bC (u:=1) (by decide) (by decide)).mono (by decide)).q) ai)))))))
  aj Tryz.func51 (by kernel_rfl) ⟨(ag (xs:=o4 q) (ks:=[0,1,2,3]) (vs:=q.cs) ⟨rfl,rfl,rfl,rfl,trivial⟩).2 iq,trivial⟩).mono ?_
 rintro e w' ⟨v,rfl,h1,h2⟩
 exact⟨congrArg Ending.returned h1,h2⟩
theorem vJ {xs:List Fq} {ys:Rho} {kq:List Nat} {q:Qq} (aq:AtL xs kq q.cs) (hq:q.ok 1000000) (gq:q.good):OkI xs ys ⟨51,[row kq],.v (.one (.b true))⟩:=
 ⟨aA Tryz.func51 rfl rfl,fun B w vs hB h=>by
  match vs,h with
  | [vq],h=>
   refine(o5 vq q w ((ag aq).1 h.1) hq gq).mono ?_
   rintro e w' ⟨rfl,h2⟩
   exact⟨_,rfl,rfl,h2⟩⟩
def o6 (q:Qq):List Fq:=(q.cs++([q.first,(Fq.ofInt 1)]))
theorem vK (vq:Value) (q:Qq) (w:World) (iq:dE w vq q) (hq:q.ok 1000000) (gc:q.comp) (hf:q.first≠(Fq.ofInt 1)):
  Calls Tryz.prog 51 #[vq] w fun e w'=>bH w (.bool false) e w':=by
 refine(cRn (ρ:=frs (o6 q)++ []) (args:=[row [0,1,2,3]]) (vs:=[vq]) (r:=.v (.one (.b false)))
  (af (dL (i:=0) (l:=.b true) rfl (lb gc.w) (hq.w.mono (by decide))) (af (dL (i:=1) (l:=.b true) rfl (lb gc.x) (hq.x.mono (by decide))) (af (dL (i:=2) (l:=.b true) rfl (lb gc.y) (hq.y.mono (by decide))) (af (dL (i:=3) (l:=.b true) rfl (lb gc.z) (hq.z.mono (by decide))) (af (oV (kq:=[0,1,2,3]) (q:=q) (ir:=4) ⟨rfl,rfl,rfl,rfl,trivial⟩ rfl (hq.mono (by decide))) (af (dK (k:=5) rfl (by decide) (by decide)) (af (bS (i:=4) (j:=5) (l:=.b false) rfl rfl (lb (eC hf)) (hq.first.mono (by decide)).p (hq.first.mono (by decide)).q ((bC (u:=1) (by decide) (by decide)).mono (by decide)).p ((bC (u:=1) (by decide) (by decide)).mono (by decide)).q) ai)))))))
  aj Tryz.func51 (by kernel_rfl) ⟨(ag (xs:=o6 q) (ks:=[0,1,2,3]) (vs:=q.cs) ⟨rfl,rfl,rfl,rfl,trivial⟩).2 iq,trivial⟩).mono ?_
 rintro e w' ⟨v,rfl,h1,h2⟩
 exact⟨congrArg Ending.returned h1,h2⟩
end Go.Proofs.YtfhinmdhjlmikaaGreat
namespace Go.Proofs.YtfhinmdhjlmikaaGreat
set_option linter.unusedSimpArgs false
set_option linter.unusedVariables false
set_option maxRecDepth 100000
open Go.RowKit
/-- A pose: a rotation and a position. -/
structure Pq where
 rot:Qq
 pos:Vq
def Pq.cs (p:Pq):List Fq:=[p.rot.w,p.rot.x,p.rot.y,p.rot.z,p.pos.x,p.pos.y,p.pos.z]
structure Pq.ok (d:Nat) (p:Pq):Prop where
 rot:p.rot.ok d
 pos:p.pos.ok d
structure Pq.good (p:Pq):Prop where
 rot:p.rot.good
 pos:p.pos.good
def Pq.id:Pq:=⟨Qq.id,Vq.of 0 0 0⟩
def Pq.zero:Pq:=⟨Qq.zero,⟨.zero,.zero,.zero⟩⟩
/-- The image of a point. -/
def Pq.app (p:Pq) (v:Vq):Vq:=(p.rot.app v).add p.pos
/-- One after the other. -/
def Pq.mul (a b:Pq):Pq:=⟨a.rot.mul b.rot,a.app b.pos⟩
def Pq.inv (a:Pq):Pq:=⟨a.rot.inv,a.rot.inv.app (a.pos.scale (Fq.ofInt (-1)))⟩
theorem Pq.ok.mono {p:Pq} {d e:Nat} (h:p.ok d) (k:d≤e):p.ok e:=⟨h.rot.mono k,h.pos.mono k⟩
theorem Pq.good.app {p:Pq} {v:Vq} (h:p.good) (k:v.good):(p.app v).good:=(tC h.rot k).add h.pos
theorem Pq.good.mul {a b:Pq} (h:a.good) (k:b.good):(a.mul b).good:=⟨gW h.rot k.rot,h.app k.pos⟩
theorem Pq.good.inv {a:Pq} (h:a.good):a.inv.good:=⟨bJ h.rot,tC (bJ h.rot) (h.pos.scale (aW _))⟩
theorem Pq.good.id:Pq.id.good:=⟨id_good,Vq.good.of 0 0 0⟩
theorem Pq.ok.app {p:Pq} {v:Vq} {d e:Nat} (h:p.ok d) (k:v.ok e) (g:p.good):(p.app v).ok (700*(d+e)+300):=((h.rot.app k g.rot).add h.pos).mono (by omega)
theorem Pq.ok.mul {a b:Pq} {d e:Nat} (h:a.ok d) (k:b.ok e) (g:a.good) (l:b.good):(a.mul b).ok (700*(d+e)+300):=⟨(h.rot.mulg k.rot g.rot l.rot).mono (by omega),h.app k.pos g⟩
theorem Pq.ok.inv {a:Pq} {d:Nat} (h:a.ok d) (g:a.good):a.inv.ok (1000*d+3000):=⟨(h.rot.inv g.rot).mono (by omega),((h.rot.inv g.rot).app (h.pos.scale (bC (by decide) (by decide))) (bJ g.rot)).mono (by omega)⟩
theorem Pq.ok.id:Pq.id.ok 2:=⟨ok_id,vG (by decide) (by decide) (by decide) (by decide) (by decide) (by decide)⟩
abbrev dt (w:World) (v:Value) (p:Pq):Prop:=IsL w v [p.rot.w.raw,p.rot.x.raw,p.rot.y.raw,p.rot.z.raw,p.pos.x.raw,p.pos.y.raw,p.pos.z.raw]
abbrev tF (W:World) (p:Pq) (e:Ending) (w':World):Prop:=RetL W [p.rot.w.raw,p.rot.x.raw,p.rot.y.raw,p.rot.z.raw,p.pos.x.raw,p.pos.y.raw,p.pos.z.raw] e w'
abbrev rI (W:World) (p:Pq) (c:Int) (e:Ending) (w':World):Prop:=RetLE W [p.rot.w.raw,p.rot.x.raw,p.rot.y.raw,p.rot.z.raw,p.pos.x.raw,p.pos.y.raw,p.pos.z.raw] c e w'
def mL (a:Vq) (b:Vq):List Fq:=[a.x,a.y,a.z,b.x,b.y,b.z]
theorem zg (va vb:Value) (a:Vq) (b:Vq) (w:World) (ia:cX w va a) (ib:cX w vb b) (ha:a.ok 100000000) (hb:b.ok 100000000) (e0:a=b) (ga:a.good) (gb:b.good):
  Calls Tryz.prog 72 #[va,vb] w fun e w'=>bH w (.bool true) e w':=by
 refine(cRn (ρ:=frs (mL a b)++ []) (args:=[row [0,1,2],row [3,4,5]]) (vs:=[va,vb]) (r:=.v (.one (.b true)))
  (af (bY (i:=0) (j:=3) rfl rfl (li ((bX ga.x gb.x).2 (congrArg Vq.x e0))) (ha.x.mono (by decide)) (hb.x.mono (by decide))) (af (bY (i:=1) (j:=4) rfl rfl (li ((bX ga.y gb.y).2 (congrArg Vq.y e0))) (ha.y.mono (by decide)) (hb.y.mono (by decide))) (af (bY (i:=2) (j:=5) rfl rfl (li ((bX ga.z gb.z).2 (congrArg Vq.z e0))) (ha.z.mono (by decide)) (hb.z.mono (by decide))) ai)))
  aj Tryz.func72 (by kernel_rfl) ⟨(ag (xs:=mL a b) (ks:=[0,1,2]) (vs:=[a.x,a.y,a.z]) ⟨rfl,rfl,rfl,trivial⟩).2 ia,⟨(ag (xs:=mL a b) (ks:=[3,4,5]) (vs:=[b.x,b.y,b.z]) ⟨rfl,rfl,rfl,trivial⟩).2 ib,trivial⟩⟩).mono ?_
 rintro e w' ⟨v,rfl,h1,h2⟩
 exact⟨congrArg Ending.returned h1,h2⟩
theorem zh {xs:List Fq} {ys:Rho} {ka:List Nat} {kb:List Nat} {a:Vq} {b:Vq} (aa:AtL xs ka [a.x,a.y,a.z]) (ab:AtL xs kb [b.x,b.y,b.z]) (ha:a.ok 100000000) (hb:b.ok 100000000) (e0:a=b) (ga:a.good) (gb:b.good):OkI xs ys ⟨72,[row ka,row kb],.v (.one (.b true))⟩:=
 ⟨aA Tryz.func72 rfl rfl,fun B w vs hB h=>by
  match vs,h with
  | [va,vb],h=>
   refine(zg va vb a b w ((ag aa).1 h.1) ((ag ab).1 h.2.1) ha hb e0 ga gb).mono ?_
   rintro e w' ⟨rfl,h2⟩
   exact⟨_,rfl,rfl,h2⟩⟩
def mM (a:Vq) (b:Vq):List Fq:=[a.x,a.y,a.z,b.x,b.y,b.z]
def kF (a:Vq) (b:Vq):List Fq:=[a.x,a.y,a.z,b.x,b.y,b.z]
def kG (a:Vq) (b:Vq):List Fq:=[a.x,a.y,a.z,b.x,b.y,b.z]
theorem zi (va vb:Value) (a:Vq) (b:Vq) (w:World) (ia:cX w va a) (ib:cX w vb b) (ha:a.ok 100000000) (hb:b.ok 100000000) (e0:a≠b) (ga:a.good) (gb:b.good):
  Calls Tryz.prog 72 #[va,vb] w fun e w'=>bH w (.bool false) e w':=by
 by_cases c0:a.x=b.x
 ·by_cases c1:a.y=b.y
  ·by_cases c2:a.z=b.z
   ·exact absurd (by cases a;cases b;simp only at c0 c1 c2;subst c0 c1 c2;rfl) e0
   ·refine(cRn (ρ:=frs (mM a b)++([.val (.int .i64 (a.z.cmp b.z))]:List Vp)) (args:=[row [0,1,2],row [3,4,5]]) (vs:=[va,vb]) (r:=.v (.one (.b false)))
     (af (bY (i:=0) (j:=3) rfl rfl (li ((bX ga.x gb.x).2 c0)) (ha.x.mono (by decide)) (hb.x.mono (by decide))) (af (bY (i:=1) (j:=4) rfl rfl (li ((bX ga.y gb.y).2 c1)) (ha.y.mono (by decide)) (hb.y.mono (by decide))) (af (bY (i:=2) (j:=5) rfl rfl (lr (n:=18) rfl) (ha.z.mono (by decide)) (hb.z.mono (by decide))) ai)))
     (ae (q9 (n:=18) (c:=0) (u:=(a.z.cmp b.z)) (b:=false) (t:=3) rfl (jl (mt (bX ga.z gb.z).1 c2))) (aj)) Tryz.func72 (by kernel_rfl) ⟨(ag (xs:=mM a b) (ks:=[0,1,2]) (vs:=[a.x,a.y,a.z]) ⟨rfl,rfl,rfl,trivial⟩).2 ia,⟨(ag (xs:=mM a b) (ks:=[3,4,5]) (vs:=[b.x,b.y,b.z]) ⟨rfl,rfl,rfl,trivial⟩).2 ib,trivial⟩⟩).mono ?_
    rintro e w' ⟨v,rfl,h1,h2⟩
    exact⟨congrArg Ending.returned h1,h2⟩
  ·refine(cRn (ρ:=frs (kF a b)++([.val (.int .i64 (a.y.cmp b.y))]:List Vp)) (args:=[row [0,1,2],row [3,4,5]]) (vs:=[va,vb]) (r:=.v (.one (.b false)))
    (af (bY (i:=0) (j:=3) rfl rfl (li ((bX ga.x gb.x).2 c0)) (ha.x.mono (by decide)) (hb.x.mono (by decide))) (af (bY (i:=1) (j:=4) rfl rfl (lr (n:=18) rfl) (ha.y.mono (by decide)) (hb.y.mono (by decide))) ai))
    (ae (q9 (n:=18) (c:=0) (u:=(a.y.cmp b.y)) (b:=false) (t:=3) rfl (jl (mt (bX ga.y gb.y).1 c1))) (aj)) Tryz.func72 (by kernel_rfl) ⟨(ag (xs:=kF a b) (ks:=[0,1,2]) (vs:=[a.x,a.y,a.z]) ⟨rfl,rfl,rfl,trivial⟩).2 ia,⟨(ag (xs:=kF a b) (ks:=[3,4,5]) (vs:=[b.x,b.y,b.z]) ⟨rfl,rfl,rfl,trivial⟩).2 ib,trivial⟩⟩).mono ?_
   rintro e w' ⟨v,rfl,h1,h2⟩
   exact⟨congrArg Ending.returned h1,h2⟩
 ·refine(cRn (ρ:=frs (kG a b)++([.val (.int .i64 (a.x.cmp b.x))]:List Vp)) (args:=[row [0,1,2],row [3,4,5]]) (vs:=[va,vb]) (r:=.v (.one (.b false)))
   (af (bY (i:=0) (j:=3) rfl rfl (lr (n:=18) rfl) (ha.x.mono (by decide)) (hb.x.mono (by decide))) ai)
   (ae (q9 (n:=18) (c:=0) (u:=(a.x.cmp b.x)) (b:=false) (t:=3) rfl (jl (mt (bX ga.x gb.x).1 c0))) (aj)) Tryz.func72 (by kernel_rfl) ⟨(ag (xs:=kG a b) (ks:=[0,1,2]) (vs:=[a.x,a.y,a.z]) ⟨rfl,rfl,rfl,trivial⟩).2 ia,⟨(ag (xs:=kG a b) (ks:=[3,4,5]) (vs:=[b.x,b.y,b.z]) ⟨rfl,rfl,rfl,trivial⟩).2 ib,trivial⟩⟩).mono ?_
  rintro e w' ⟨v,rfl,h1,h2⟩
  exact⟨congrArg Ending.returned h1,h2⟩
theorem zj {xs:List Fq} {ys:Rho} {ka:List Nat} {kb:List Nat} {a:Vq} {b:Vq} (aa:AtL xs ka [a.x,a.y,a.z]) (ab:AtL xs kb [b.x,b.y,b.z]) (ha:a.ok 100000000) (hb:b.ok 100000000) (e0:a≠b) (ga:a.good) (gb:b.good):OkI xs ys ⟨72,[row ka,row kb],.v (.one (.b false))⟩:=
 ⟨aA Tryz.func72 rfl rfl,fun B w vs hB h=>by
  match vs,h with
  | [va,vb],h=>
   refine(zi va vb a b w ((ag aa).1 h.1) ((ag ab).1 h.2.1) ha hb e0 ga gb).mono ?_
   rintro e w' ⟨rfl,h2⟩
   exact⟨_,rfl,rfl,h2⟩⟩
def lU (a:Vq) (b:Vq) (k:Fq):List Fq:=[a.x,a.y,a.z,b.x,b.y,b.z,k,(b.sub a).x,(b.sub a).y,(b.sub a).z,((b.sub a).scale k).x,((b.sub a).scale k).y,((b.sub a).scale k).z,(a.add ((b.sub a).scale k)).x,(a.add ((b.sub a).scale k)).y,(a.add ((b.sub a).scale k)).z]
theorem q_vLerp (va vb vk:Value) (a:Vq) (b:Vq) (k:Fq) (w:World) (ia:cX w va a) (ib:cX w vb b) (ik:IsQ w vk k) (ha:a.ok 10000000) (hb:b.ok 10000000) (hk:k.ok 10000000):
  Calls Tryz.prog 67 #[va,vb,vk] w fun e w'=>ei w (a.lerp b k) e w':=by
 refine(cRn (ρ:=frs (lU a b k)++ []) (args:=[row [0,1,2],row [3,4,5],fr 6]) (vs:=[va,vb,vk]) (r:=.v (row [13,14,15]))
  (af (I_vSub (ka:=[3,4,5]) (a:=b) (kb:=[0,1,2]) (b:=a) (kr:=[7,8,9]) ⟨rfl,rfl,rfl,trivial⟩ ⟨rfl,rfl,rfl,trivial⟩ ⟨rfl,rfl,rfl,trivial⟩ (hb.mono (by decide)) (ha.mono (by decide))) (af (jm (ka:=[7,8,9]) (a:=(b.sub a)) (ik:=6) (kr:=[10,11,12]) ⟨rfl,rfl,rfl,trivial⟩ rfl ⟨rfl,rfl,rfl,trivial⟩ ((hb.sub ha).mono (by decide)) (hk.mono (by decide))) (af (vC (ka:=[0,1,2]) (a:=a) (kb:=[10,11,12]) (b:=((b.sub a).scale k)) (kr:=[13,14,15]) ⟨rfl,rfl,rfl,trivial⟩ ⟨rfl,rfl,rfl,trivial⟩ ⟨rfl,rfl,rfl,trivial⟩ (ha.mono (by decide)) (((hb.sub ha).scale hk).mono (by decide))) ai)))
  aj Tryz.func67 (by kernel_rfl) ⟨(ag (xs:=lU a b k) (ks:=[0,1,2]) (vs:=[a.x,a.y,a.z]) ⟨rfl,rfl,rfl,trivial⟩).2 ia,⟨(ag (xs:=lU a b k) (ks:=[3,4,5]) (vs:=[b.x,b.y,b.z]) ⟨rfl,rfl,rfl,trivial⟩).2 ib,⟨(aI (xs:=lU a b k) (k:=6) rfl).2 ik,trivial⟩⟩⟩).mono ?_
 rintro e w' ⟨v,rfl,h1,h2⟩
 exact⟨v,rfl,(ag (xs:=lU a b k) (ks:=[13,14,15]) (vs:=[(a.add ((b.sub a).scale k)).x,(a.add ((b.sub a).scale k)).y,(a.add ((b.sub a).scale k)).z]) ⟨rfl,rfl,rfl,trivial⟩).1 h1,h2⟩
theorem I_vLerp {xs:List Fq} {ys:Rho} {ka:List Nat} {kb:List Nat} {ik:Nat} {a:Vq} {b:Vq} {k:Fq} {kr:List Nat} (aa:AtL xs ka [a.x,a.y,a.z]) (ab:AtL xs kb [b.x,b.y,b.z]) (ak:xs[ik]? =some k) (ar:AtL xs kr [(a.lerp b k).x,(a.lerp b k).y,(a.lerp b k).z]) (ha:a.ok 10000000) (hb:b.ok 10000000) (hk:k.ok 10000000):OkI xs ys ⟨67,[row ka,row kb,fr ik],.v (row kr)⟩:=
 ⟨aA Tryz.func67 rfl rfl,fun B w vs hB h=>by
  match vs,h with
  | [va,vb,vk],h=>
   refine(q_vLerp va vb vk a b k w ((ag aa).1 h.1) ((ag ab).1 h.2.1) ((aI ak).1 h.2.2.1) ha hb hk).mono ?_
   rintro e w' ⟨v,rfl,h1,h2⟩
   exact⟨v,rfl,(ag ar).2 h1,h2⟩⟩
def tG (a:Vq):List Fq:=[a.x,a.y,a.z]
theorem q_vValid (va:Value) (a:Vq) (w:World) (ia:cX w va a) (ha:a.ok 1000000) (ga:a.good):
  Calls Tryz.prog 70 #[va] w fun e w'=>bH w (.bool true) e w':=by
 refine(cRn (ρ:=frs (tG a)++ []) (args:=[row [0,1,2]]) (vs:=[va]) (r:=.v (.one (.b true)))
  (af (aY (i:=0) (l:=.b true) rfl (lb ga.x) (ha.x.mono (by decide))) (af (aY (i:=1) (l:=.b true) rfl (lb ga.y) (ha.y.mono (by decide))) (af (aY (i:=2) (l:=.b true) rfl (lb ga.z) (ha.z.mono (by decide))) ai)))
  aj Tryz.func70 (by kernel_rfl) ⟨(ag (xs:=tG a) (ks:=[0,1,2]) (vs:=[a.x,a.y,a.z]) ⟨rfl,rfl,rfl,trivial⟩).2 ia,trivial⟩).mono ?_
 rintro e w' ⟨v,rfl,h1,h2⟩
 exact⟨congrArg Ending.returned h1,h2⟩
theorem I_vValid {xs:List Fq} {ys:Rho} {ka:List Nat} {a:Vq} (aa:AtL xs ka [a.x,a.y,a.z]) (ha:a.ok 1000000) (ga:a.good):OkI xs ys ⟨70,[row ka],.v (.one (.b true))⟩:=
 ⟨aA Tryz.func70 rfl rfl,fun B w vs hB h=>by
  match vs,h with
  | [va],h=>
   refine(q_vValid va a w ((ag aa).1 h.1) ha ga).mono ?_
   rintro e w' ⟨rfl,h2⟩
   exact⟨_,rfl,rfl,h2⟩⟩
def nY (a:Vq) (b:Vq):List Fq:=[a.x,a.y,a.z,b.x,b.y,b.z,(a.x.add b.x),(a.y.add b.y),(a.z.add b.z)]
theorem q_r4Add (va vb:Value) (a:Vq) (b:Vq) (w:World) (ia:cX w va a) (ib:cX w vb b) (ha:a.ok 100000000) (hb:b.ok 100000000):
  Calls Tryz.prog 56 #[va,vb] w fun e w'=>ei w (a.add b) e w':=by
 refine(cRn (ρ:=frs (nY a b)++ []) (args:=[row [0,1,2],row [3,4,5]]) (vs:=[va,vb]) (r:=.v (row [6,7,8]))
  (af (jk (i:=0) (j:=3) (k:=6) rfl rfl rfl (ha.x.mono (by decide)) (hb.x.mono (by decide))) (af (jk (i:=1) (j:=4) (k:=7) rfl rfl rfl (ha.y.mono (by decide)) (hb.y.mono (by decide))) (af (jk (i:=2) (j:=5) (k:=8) rfl rfl rfl (ha.z.mono (by decide)) (hb.z.mono (by decide))) ai)))
  aj Tryz.func56 (by kernel_rfl) ⟨(ag (xs:=nY a b) (ks:=[0,1,2]) (vs:=[a.x,a.y,a.z]) ⟨rfl,rfl,rfl,trivial⟩).2 ia,⟨(ag (xs:=nY a b) (ks:=[3,4,5]) (vs:=[b.x,b.y,b.z]) ⟨rfl,rfl,rfl,trivial⟩).2 ib,trivial⟩⟩).mono ?_
 rintro e w' ⟨v,rfl,h1,h2⟩
 exact⟨v,rfl,(ag (xs:=nY a b) (ks:=[6,7,8]) (vs:=[(a.x.add b.x),(a.y.add b.y),(a.z.add b.z)]) ⟨rfl,rfl,rfl,trivial⟩).1 h1,h2⟩
theorem I_r4Add {xs:List Fq} {ys:Rho} {ka:List Nat} {kb:List Nat} {a:Vq} {b:Vq} {kr:List Nat} (aa:AtL xs ka [a.x,a.y,a.z]) (ab:AtL xs kb [b.x,b.y,b.z]) (ar:AtL xs kr [(a.add b).x,(a.add b).y,(a.add b).z]) (ha:a.ok 100000000) (hb:b.ok 100000000):OkI xs ys ⟨56,[row ka,row kb],.v (row kr)⟩:=
 ⟨aA Tryz.func56 rfl rfl,fun B w vs hB h=>by
  match vs,h with
  | [va,vb],h=>
   refine(q_r4Add va vb a b w ((ag aa).1 h.1) ((ag ab).1 h.2.1) ha hb).mono ?_
   rintro e w' ⟨v,rfl,h1,h2⟩
   exact⟨v,rfl,(ag ar).2 h1,h2⟩⟩
def nZ (a:Vq) (b:Vq):List Fq:=[a.x,a.y,a.z,b.x,b.y,b.z,(a.x.sub b.x),(a.y.sub b.y),(a.z.sub b.z)]
theorem q_r4Sub (va vb:Value) (a:Vq) (b:Vq) (w:World) (ia:cX w va a) (ib:cX w vb b) (ha:a.ok 100000000) (hb:b.ok 100000000):
  Calls Tryz.prog 58 #[va,vb] w fun e w'=>ei w (a.sub b) e w':=by
 refine(cRn (ρ:=frs (nZ a b)++ []) (args:=[row [0,1,2],row [3,4,5]]) (vs:=[va,vb]) (r:=.v (row [6,7,8]))
  (af (ku (i:=0) (j:=3) (k:=6) rfl rfl rfl (ha.x.mono (by decide)) (hb.x.mono (by decide))) (af (ku (i:=1) (j:=4) (k:=7) rfl rfl rfl (ha.y.mono (by decide)) (hb.y.mono (by decide))) (af (ku (i:=2) (j:=5) (k:=8) rfl rfl rfl (ha.z.mono (by decide)) (hb.z.mono (by decide))) ai)))
  aj Tryz.func58 (by kernel_rfl) ⟨(ag (xs:=nZ a b) (ks:=[0,1,2]) (vs:=[a.x,a.y,a.z]) ⟨rfl,rfl,rfl,trivial⟩).2 ia,⟨(ag (xs:=nZ a b) (ks:=[3,4,5]) (vs:=[b.x,b.y,b.z]) ⟨rfl,rfl,rfl,trivial⟩).2 ib,trivial⟩⟩).mono ?_
 rintro e w' ⟨v,rfl,h1,h2⟩
 exact⟨v,rfl,(ag (xs:=nZ a b) (ks:=[6,7,8]) (vs:=[(a.x.sub b.x),(a.y.sub b.y),(a.z.sub b.z)]) ⟨rfl,rfl,rfl,trivial⟩).1 h1,h2⟩
theorem I_r4Sub {xs:List Fq} {ys:Rho} {ka:List Nat} {kb:List Nat} {a:Vq} {b:Vq} {kr:List Nat} (aa:AtL xs ka [a.x,a.y,a.z]) (ab:AtL xs kb [b.x,b.y,b.z]) (ar:AtL xs kr [(a.sub b).x,(a.sub b).y,(a.sub b).z]) (ha:a.ok 100000000) (hb:b.ok 100000000):OkI xs ys ⟨58,[row ka,row kb],.v (row kr)⟩:=
 ⟨aA Tryz.func58 rfl rfl,fun B w vs hB h=>by
  match vs,h with
  | [va,vb],h=>
   refine(q_r4Sub va vb a b w ((ag aa).1 h.1) ((ag ab).1 h.2.1) ha hb).mono ?_
   rintro e w' ⟨v,rfl,h1,h2⟩
   exact⟨v,rfl,(ag ar).2 h1,h2⟩⟩
def jR (a:Vq) (k:Fq):List Fq:=[a.x,a.y,a.z,k,(a.x.mul k),(a.y.mul k),(a.z.mul k)]
theorem zk (va vk:Value) (a:Vq) (k:Fq) (w:World) (ia:cX w va a) (ik:IsQ w vk k) (ha:a.ok 100000000) (hk:k.ok 100000000):
  Calls Tryz.prog 57 #[va,vk] w fun e w'=>ei w (a.scale k) e w':=by
 refine(cRn (ρ:=frs (jR a k)++ []) (args:=[row [0,1,2],fr 3]) (vs:=[va,vk]) (r:=.v (row [4,5,6]))
  (af (dU (i:=0) (j:=3) (k:=4) rfl rfl rfl (ha.x.mono (by decide)) (hk.mono (by decide))) (af (dU (i:=1) (j:=3) (k:=5) rfl rfl rfl (ha.y.mono (by decide)) (hk.mono (by decide))) (af (dU (i:=2) (j:=3) (k:=6) rfl rfl rfl (ha.z.mono (by decide)) (hk.mono (by decide))) ai)))
  aj Tryz.func57 (by kernel_rfl) ⟨(ag (xs:=jR a k) (ks:=[0,1,2]) (vs:=[a.x,a.y,a.z]) ⟨rfl,rfl,rfl,trivial⟩).2 ia,⟨(aI (xs:=jR a k) (k:=3) rfl).2 ik,trivial⟩⟩).mono ?_
 rintro e w' ⟨v,rfl,h1,h2⟩
 exact⟨v,rfl,(ag (xs:=jR a k) (ks:=[4,5,6]) (vs:=[(a.x.mul k),(a.y.mul k),(a.z.mul k)]) ⟨rfl,rfl,rfl,trivial⟩).1 h1,h2⟩
theorem zm {xs:List Fq} {ys:Rho} {ka:List Nat} {ik:Nat} {a:Vq} {k:Fq} {kr:List Nat} (aa:AtL xs ka [a.x,a.y,a.z]) (ak:xs[ik]? =some k) (ar:AtL xs kr [(a.scale k).x,(a.scale k).y,(a.scale k).z]) (ha:a.ok 100000000) (hk:k.ok 100000000):OkI xs ys ⟨57,[row ka,fr ik],.v (row kr)⟩:=
 ⟨aA Tryz.func57 rfl rfl,fun B w vs hB h=>by
  match vs,h with
  | [va,vk],h=>
   refine(zk va vk a k w ((ag aa).1 h.1) ((aI ak).1 h.2.1) ha hk).mono ?_
   rintro e w' ⟨v,rfl,h1,h2⟩
   exact⟨v,rfl,(ag ar).2 h1,h2⟩⟩
def kH (a:Vq) (b:Vq):List Fq:=[a.x,a.y,a.z,b.x,b.y,b.z]
theorem vL (va vb:Value) (a:Vq) (b:Vq) (w:World) (ia:cX w va a) (ib:cX w vb b) (ha:a.ok 1000000000) (hb:b.ok 1000000000) (e0:a=b):
  Calls Tryz.prog 23 #[va,vb] w fun e w'=>bH w (.bool true) e w':=by
 refine(cRn (ρ:=frs (kH a b)++ []) (args:=[row [0,1,2],row [3,4,5]]) (vs:=[va,vb]) (r:=.v (.one (.b true)))
  (af (bS (i:=0) (j:=3) (l:=.b true) rfl rfl (lb (Fq.same_iff.2 (congrArg Vq.x e0))) (ha.x.mono (by decide)).p (ha.x.mono (by decide)).q (hb.x.mono (by decide)).p (hb.x.mono (by decide)).q) (af (bS (i:=1) (j:=4) (l:=.b true) rfl rfl (lb (Fq.same_iff.2 (congrArg Vq.y e0))) (ha.y.mono (by decide)).p (ha.y.mono (by decide)).q (hb.y.mono (by decide)).p (hb.y.mono (by decide)).q) (af (bS (i:=2) (j:=5) (l:=.b true) rfl rfl (lb (Fq.same_iff.2 (congrArg Vq.z e0))) (ha.z.mono (by decide)).p (ha.z.mono (by decide)).q (hb.z.mono (by decide)).p (hb.z.mono (by decide)).q) ai)))
  aj Tryz.func23 (by kernel_rfl) ⟨(ag (xs:=kH a b) (ks:=[0,1,2]) (vs:=[a.x,a.y,a.z]) ⟨rfl,rfl,rfl,trivial⟩).2 ia,⟨(ag (xs:=kH a b) (ks:=[3,4,5]) (vs:=[b.x,b.y,b.z]) ⟨rfl,rfl,rfl,trivial⟩).2 ib,trivial⟩⟩).mono ?_
 rintro e w' ⟨v,rfl,h1,h2⟩
 exact⟨congrArg Ending.returned h1,h2⟩
theorem o7 {xs:List Fq} {ys:Rho} {ka:List Nat} {kb:List Nat} {a:Vq} {b:Vq} (aa:AtL xs ka [a.x,a.y,a.z]) (ab:AtL xs kb [b.x,b.y,b.z]) (ha:a.ok 1000000000) (hb:b.ok 1000000000) (e0:a=b):OkI xs ys ⟨23,[row ka,row kb],.v (.one (.b true))⟩:=
 ⟨aA Tryz.func23 rfl rfl,fun B w vs hB h=>by
  match vs,h with
  | [va,vb],h=>
   refine(vL va vb a b w ((ag aa).1 h.1) ((ag ab).1 h.2.1) ha hb e0).mono ?_
   rintro e w' ⟨rfl,h2⟩
   exact⟨_,rfl,rfl,h2⟩⟩
def kI (a:Vq) (b:Vq):List Fq:=[a.x,a.y,a.z,b.x,b.y,b.z]
def jo (a:Vq) (b:Vq):List Fq:=[a.x,a.y,a.z,b.x,b.y,b.z]
def jp (a:Vq) (b:Vq):List Fq:=[a.x,a.y,a.z,b.x,b.y,b.z]
theorem vM (va vb:Value) (a:Vq) (b:Vq) (w:World) (ia:cX w va a) (ib:cX w vb b) (ha:a.ok 1000000000) (hb:b.ok 1000000000) (e0:a≠b):
  Calls Tryz.prog 23 #[va,vb] w fun e w'=>bH w (.bool false) e w':=by
 by_cases c0:a.x=b.x
 ·by_cases c1:a.y=b.y
  ·by_cases c2:a.z=b.z
   ·exact absurd (by cases a;cases b;simp only at c0 c1 c2;subst c0 c1 c2;rfl) e0
   ·refine(cRn (ρ:=frs (kI a b)++ []) (args:=[row [0,1,2],row [3,4,5]]) (vs:=[va,vb]) (r:=.v (.one (.b false)))
     (af (bS (i:=0) (j:=3) (l:=.b true) rfl rfl (lb (Fq.same_iff.2 c0)) (ha.x.mono (by decide)).p (ha.x.mono (by decide)).q (hb.x.mono (by decide)).p (hb.x.mono (by decide)).q) (af (bS (i:=1) (j:=4) (l:=.b true) rfl rfl (lb (Fq.same_iff.2 c1)) (ha.y.mono (by decide)).p (ha.y.mono (by decide)).q (hb.y.mono (by decide)).p (hb.y.mono (by decide)).q) (af (bS (i:=2) (j:=5) (l:=.b false) rfl rfl (lb (eC c2)) (ha.z.mono (by decide)).p (ha.z.mono (by decide)).q (hb.z.mono (by decide)).p (hb.z.mono (by decide)).q) ai)))
     aj Tryz.func23 (by kernel_rfl) ⟨(ag (xs:=kI a b) (ks:=[0,1,2]) (vs:=[a.x,a.y,a.z]) ⟨rfl,rfl,rfl,trivial⟩).2 ia,⟨(ag (xs:=kI a b) (ks:=[3,4,5]) (vs:=[b.x,b.y,b.z]) ⟨rfl,rfl,rfl,trivial⟩).2 ib,trivial⟩⟩).mono ?_
    rintro e w' ⟨v,rfl,h1,h2⟩
    exact⟨congrArg Ending.returned h1,h2⟩
  ·refine(cRn (ρ:=frs (jo a b)++ []) (args:=[row [0,1,2],row [3,4,5]]) (vs:=[va,vb]) (r:=.v (.one (.b false)))
    (af (bS (i:=0) (j:=3) (l:=.b true) rfl rfl (lb (Fq.same_iff.2 c0)) (ha.x.mono (by decide)).p (ha.x.mono (by decide)).q (hb.x.mono (by decide)).p (hb.x.mono (by decide)).q) (af (bS (i:=1) (j:=4) (l:=.b false) rfl rfl (lb (eC c1)) (ha.y.mono (by decide)).p (ha.y.mono (by decide)).q (hb.y.mono (by decide)).p (hb.y.mono (by decide)).q) ai))
    aj Tryz.func23 (by kernel_rfl) ⟨(ag (xs:=jo a b) (ks:=[0,1,2]) (vs:=[a.x,a.y,a.z]) ⟨rfl,rfl,rfl,trivial⟩).2 ia,⟨(ag (xs:=jo a b) (ks:=[3,4,5]) (vs:=[b.x,b.y,b.z]) ⟨rfl,rfl,rfl,trivial⟩).2 ib,trivial⟩⟩).mono ?_
   rintro e w' ⟨v,rfl,h1,h2⟩
   exact⟨congrArg Ending.returned h1,h2⟩
 ·refine(cRn (ρ:=frs (jp a b)++ []) (args:=[row [0,1,2],row [3,4,5]]) (vs:=[va,vb]) (r:=.v (.one (.b false)))
   (af (bS (i:=0) (j:=3) (l:=.b false) rfl rfl (lb (eC c0)) (ha.x.mono (by decide)).p (ha.x.mono (by decide)).q (hb.x.mono (by decide)).p (hb.x.mono (by decide)).q) ai)
   aj Tryz.func23 (by kernel_rfl) ⟨(ag (xs:=jp a b) (ks:=[0,1,2]) (vs:=[a.x,a.y,a.z]) ⟨rfl,rfl,rfl,trivial⟩).2 ia,⟨(ag (xs:=jp a b) (ks:=[3,4,5]) (vs:=[b.x,b.y,b.z]) ⟨rfl,rfl,rfl,trivial⟩).2 ib,trivial⟩⟩).mono ?_
  rintro e w' ⟨v,rfl,h1,h2⟩
  exact⟨congrArg Ending.returned h1,h2⟩
theorem vN {xs:List Fq} {ys:Rho} {ka:List Nat} {kb:List Nat} {a:Vq} {b:Vq} (aa:AtL xs ka [a.x,a.y,a.z]) (ab:AtL xs kb [b.x,b.y,b.z]) (ha:a.ok 1000000000) (hb:b.ok 1000000000) (e0:a≠b):OkI xs ys ⟨23,[row ka,row kb],.v (.one (.b false))⟩:=
 ⟨aA Tryz.func23 rfl rfl,fun B w vs hB h=>by
  match vs,h with
  | [va,vb],h=>
   refine(vM va vb a b w ((ag aa).1 h.1) ((ag ab).1 h.2.1) ha hb e0).mono ?_
   rintro e w' ⟨rfl,h2⟩
   exact⟨_,rfl,rfl,h2⟩⟩
def jq (a:Vq) (b:Vq) (k:Fq):List Fq:=[a.x,a.y,a.z,b.x,b.y,b.z,k,(b.sub a).x,(b.sub a).y,(b.sub a).z,((b.sub a).scale k).x,((b.sub a).scale k).y,((b.sub a).scale k).z,(a.add ((b.sub a).scale k)).x,(a.add ((b.sub a).scale k)).y,(a.add ((b.sub a).scale k)).z]
theorem q_r4Lerp (va vb vk:Value) (a:Vq) (b:Vq) (k:Fq) (w:World) (ia:cX w va a) (ib:cX w vb b) (ik:IsQ w vk k) (ha:a.ok 10000000) (hb:b.ok 10000000) (hk:k.ok 10000000):
  Calls Tryz.prog 24 #[va,vb,vk] w fun e w'=>ei w (a.lerp b k) e w':=by
 refine(cRn (ρ:=frs (jq a b k)++ []) (args:=[row [0,1,2],row [3,4,5],fr 6]) (vs:=[va,vb,vk]) (r:=.v (row [13,14,15]))
  (af (I_r4Sub (ka:=[3,4,5]) (a:=b) (kb:=[0,1,2]) (b:=a) (kr:=[7,8,9]) ⟨rfl,rfl,rfl,trivial⟩ ⟨rfl,rfl,rfl,trivial⟩ ⟨rfl,rfl,rfl,trivial⟩ (hb.mono (by decide)) (ha.mono (by decide))) (af (zm (ka:=[7,8,9]) (a:=(b.sub a)) (ik:=6) (kr:=[10,11,12]) ⟨rfl,rfl,rfl,trivial⟩ rfl ⟨rfl,rfl,rfl,trivial⟩ ((hb.sub ha).mono (by decide)) (hk.mono (by decide))) (af (I_r4Add (ka:=[0,1,2]) (a:=a) (kb:=[10,11,12]) (b:=((b.sub a).scale k)) (kr:=[13,14,15]) ⟨rfl,rfl,rfl,trivial⟩ ⟨rfl,rfl,rfl,trivial⟩ ⟨rfl,rfl,rfl,trivial⟩ (ha.mono (by decide)) (((hb.sub ha).scale hk).mono (by decide))) ai)))
  aj Tryz.func24 (by kernel_rfl) ⟨(ag (xs:=jq a b k) (ks:=[0,1,2]) (vs:=[a.x,a.y,a.z]) ⟨rfl,rfl,rfl,trivial⟩).2 ia,⟨(ag (xs:=jq a b k) (ks:=[3,4,5]) (vs:=[b.x,b.y,b.z]) ⟨rfl,rfl,rfl,trivial⟩).2 ib,⟨(aI (xs:=jq a b k) (k:=6) rfl).2 ik,trivial⟩⟩⟩).mono ?_
 rintro e w' ⟨v,rfl,h1,h2⟩
 exact⟨v,rfl,(ag (xs:=jq a b k) (ks:=[13,14,15]) (vs:=[(a.add ((b.sub a).scale k)).x,(a.add ((b.sub a).scale k)).y,(a.add ((b.sub a).scale k)).z]) ⟨rfl,rfl,rfl,trivial⟩).1 h1,h2⟩
theorem I_r4Lerp {xs:List Fq} {ys:Rho} {ka:List Nat} {kb:List Nat} {ik:Nat} {a:Vq} {b:Vq} {k:Fq} {kr:List Nat} (aa:AtL xs ka [a.x,a.y,a.z]) (ab:AtL xs kb [b.x,b.y,b.z]) (ak:xs[ik]? =some k) (ar:AtL xs kr [(a.lerp b k).x,(a.lerp b k).y,(a.lerp b k).z]) (ha:a.ok 10000000) (hb:b.ok 10000000) (hk:k.ok 10000000):OkI xs ys ⟨24,[row ka,row kb,fr ik],.v (row kr)⟩:=
 ⟨aA Tryz.func24 rfl rfl,fun B w vs hB h=>by
  match vs,h with
  | [va,vb,vk],h=>
   refine(q_r4Lerp va vb vk a b k w ((ag aa).1 h.1) ((ag ab).1 h.2.1) ((aI ak).1 h.2.2.1) ha hb hk).mono ?_
   rintro e w' ⟨v,rfl,h1,h2⟩
   exact⟨v,rfl,(ag ar).2 h1,h2⟩⟩
def qw (a:Vq):List Fq:=[a.x,a.y,a.z]
theorem zn (va:Value) (a:Vq) (w:World) (ia:cX w va a) (ha:a.ok 1000000) (ga:a.good):
  Calls Tryz.prog 52 #[va] w fun e w'=>bH w (.bool true) e w':=by
 refine(cRn (ρ:=frs (qw a)++ []) (args:=[row [0,1,2]]) (vs:=[va]) (r:=.v (.one (.b true)))
  (af (dL (i:=0) (l:=.b true) rfl (lb ga.x) (ha.x.mono (by decide))) (af (dL (i:=1) (l:=.b true) rfl (lb ga.y) (ha.y.mono (by decide))) (af (dL (i:=2) (l:=.b true) rfl (lb ga.z) (ha.z.mono (by decide))) ai)))
  aj Tryz.func52 (by kernel_rfl) ⟨(ag (xs:=qw a) (ks:=[0,1,2]) (vs:=[a.x,a.y,a.z]) ⟨rfl,rfl,rfl,trivial⟩).2 ia,trivial⟩).mono ?_
 rintro e w' ⟨v,rfl,h1,h2⟩
 exact⟨congrArg Ending.returned h1,h2⟩
theorem zo {xs:List Fq} {ys:Rho} {ka:List Nat} {a:Vq} (aa:AtL xs ka [a.x,a.y,a.z]) (ha:a.ok 1000000) (ga:a.good):OkI xs ys ⟨52,[row ka],.v (.one (.b true))⟩:=
 ⟨aA Tryz.func52 rfl rfl,fun B w vs hB h=>by
  match vs,h with
  | [va],h=>
   refine(zn va a w ((ag aa).1 h.1) ha ga).mono ?_
   rintro e w' ⟨rfl,h2⟩
   exact⟨_,rfl,rfl,h2⟩⟩
def o8 (a:Pq):List Fq:=a.cs
theorem q_poPose (va:Value) (a:Pq) (w:World) (ia:dt w va a) (ha:a.ok 1000000000):
  Calls Tryz.prog 68 #[va] w fun e w'=>tF w a e w':=by
 refine(cRn (ρ:=frs (o8 a)++ []) (args:=[row [0,1,2,3,4,5,6]]) (vs:=[va]) (r:=.v (row [0,1,2,3,4,5,6]))
  (ai)
  aj Tryz.func68 (by kernel_rfl) ⟨(ag (xs:=o8 a) (ks:=[0,1,2,3,4,5,6]) (vs:=a.cs) ⟨rfl,rfl,rfl,rfl,rfl,rfl,rfl,trivial⟩).2 ia,trivial⟩).mono ?_
 rintro e w' ⟨v,rfl,h1,h2⟩
 exact⟨v,rfl,(ag (xs:=o8 a) (ks:=[0,1,2,3,4,5,6]) (vs:=a.cs) ⟨rfl,rfl,rfl,rfl,rfl,rfl,rfl,trivial⟩).1 h1,h2⟩
theorem I_poPose {xs:List Fq} {ys:Rho} {ka:List Nat} {a:Pq} {kr:List Nat} (aa:AtL xs ka a.cs) (ar:AtL xs kr a.cs) (ha:a.ok 1000000000):OkI xs ys ⟨68,[row ka],.v (row kr)⟩:=
 ⟨aA Tryz.func68 rfl rfl,fun B w vs hB h=>by
  match vs,h with
  | [va],h=>
   refine(q_poPose va a w ((ag aa).1 h.1) ha).mono ?_
   rintro e w' ⟨v,rfl,h1,h2⟩
   exact⟨v,rfl,(ag ar).2 h1,h2⟩⟩
def kJ (a:Pq) (b:Pq):List Fq:=(a.cs++(b.cs))
theorem vO (va vb:Value) (a:Pq) (b:Pq) (w:World) (ia:dt w va a) (ib:dt w vb b) (ha:a.ok 100000000) (hb:b.ok 100000000) (e0:a=b) (ga:a.good) (gb:b.good):
  Calls Tryz.prog 46 #[va,vb] w fun e w'=>bH w (.bool true) e w':=by
 refine(cRn (ρ:=frs (kJ a b)++ []) (args:=[row [0,1,2,3,4,5,6],row [7,8,9,10,11,12,13]]) (vs:=[va,vb]) (r:=.v (.one (.b true)))
  (af (qu (ka:=[0,1,2,3]) (a:=a.rot) (kb:=[7,8,9,10]) (b:=b.rot) ⟨rfl,rfl,rfl,rfl,trivial⟩ ⟨rfl,rfl,rfl,rfl,trivial⟩ (ha.rot.mono (by decide)) (hb.rot.mono (by decide)) (congrArg Pq.rot e0) ga.rot.comp gb.rot.comp) (af (zh (ka:=[4,5,6]) (a:=a.pos) (kb:=[11,12,13]) (b:=b.pos) ⟨rfl,rfl,rfl,trivial⟩ ⟨rfl,rfl,rfl,trivial⟩ (ha.pos.mono (by decide)) (hb.pos.mono (by decide)) (congrArg Pq.pos e0) ga.pos gb.pos) ai))
  aj Tryz.func46 (by kernel_rfl) ⟨(ag (xs:=kJ a b) (ks:=[0,1,2,3,4,5,6]) (vs:=a.cs) ⟨rfl,rfl,rfl,rfl,rfl,rfl,rfl,trivial⟩).2 ia,⟨(ag (xs:=kJ a b) (ks:=[7,8,9,10,11,12,13]) (vs:=b.cs) ⟨rfl,rfl,rfl,rfl,rfl,rfl,rfl,trivial⟩).2 ib,trivial⟩⟩).mono ?_
 rintro e w' ⟨v,rfl,h1,h2⟩
 exact⟨congrArg Ending.returned h1,h2⟩
theorem vP {xs:List Fq} {ys:Rho} {ka:List Nat} {kb:List Nat} {a:Pq} {b:Pq} (aa:AtL xs ka a.cs) (ab:AtL xs kb b.cs) (ha:a.ok 100000000) (hb:b.ok 100000000) (e0:a=b) (ga:a.good) (gb:b.good):OkI xs ys ⟨46,[row ka,row kb],.v (.one (.b true))⟩:=
 ⟨aA Tryz.func46 rfl rfl,fun B w vs hB h=>by
  match vs,h with
  | [va,vb],h=>
   refine(vO va vb a b w ((ag aa).1 h.1) ((ag ab).1 h.2.1) ha hb e0 ga gb).mono ?_
   rintro e w' ⟨rfl,h2⟩
   exact⟨_,rfl,rfl,h2⟩⟩
def kK (a:Pq) (b:Pq):List Fq:=(a.cs++(b.cs))
def jr (a:Pq) (b:Pq):List Fq:=(a.cs++(b.cs))
theorem vQ (va vb:Value) (a:Pq) (b:Pq) (w:World) (ia:dt w va a) (ib:dt w vb b) (ha:a.ok 100000000) (hb:b.ok 100000000) (e0:a≠b) (ga:a.good) (gb:b.good):
  Calls Tryz.prog 46 #[va,vb] w fun e w'=>bH w (.bool false) e w':=by
 by_cases c0:a.rot=b.rot
 ·by_cases c1:a.pos=b.pos
  ·exact absurd (by cases a;cases b;simp only at c0 c1;subst c0 c1;rfl) e0
  ·refine(cRn (ρ:=frs (kK a b)++ []) (args:=[row [0,1,2,3,4,5,6],row [7,8,9,10,11,12,13]]) (vs:=[va,vb]) (r:=.v (.one (.b false)))
    (af (qu (ka:=[0,1,2,3]) (a:=a.rot) (kb:=[7,8,9,10]) (b:=b.rot) ⟨rfl,rfl,rfl,rfl,trivial⟩ ⟨rfl,rfl,rfl,rfl,trivial⟩ (ha.rot.mono (by decide)) (hb.rot.mono (by decide)) c0 ga.rot.comp gb.rot.comp) (af (zj (ka:=[4,5,6]) (a:=a.pos) (kb:=[11,12,13]) (b:=b.pos) ⟨rfl,rfl,rfl,trivial⟩ ⟨rfl,rfl,rfl,trivial⟩ (ha.pos.mono (by decide)) (hb.pos.mono (by decide)) c1 ga.pos gb.pos) ai))
    aj Tryz.func46 (by kernel_rfl) ⟨(ag (xs:=kK a b) (ks:=[0,1,2,3,4,5,6]) (vs:=a.cs) ⟨rfl,rfl,rfl,rfl,rfl,rfl,rfl,trivial⟩).2 ia,⟨(ag (xs:=kK a b) (ks:=[7,8,9,10,11,12,13]) (vs:=b.cs) ⟨rfl,rfl,rfl,rfl,rfl,rfl,rfl,trivial⟩).2 ib,trivial⟩⟩).mono ?_
   rintro e w' ⟨v,rfl,h1,h2⟩
   exact⟨congrArg Ending.returned h1,h2⟩
 ·refine(cRn (ρ:=frs (jr a b)++ []) (args:=[row [0,1,2,3,4,5,6],row [7,8,9,10,11,12,13]]) (vs:=[va,vb]) (r:=.v (.one (.b false)))
   (af (zf (ka:=[0,1,2,3]) (a:=a.rot) (kb:=[7,8,9,10]) (b:=b.rot) ⟨rfl,rfl,rfl,rfl,trivial⟩ ⟨rfl,rfl,rfl,rfl,trivial⟩ (ha.rot.mono (by decide)) (hb.rot.mono (by decide)) c0 ga.rot.comp gb.rot.comp) ai)
   aj Tryz.func46 (by kernel_rfl) ⟨(ag (xs:=jr a b) (ks:=[0,1,2,3,4,5,6]) (vs:=a.cs) ⟨rfl,rfl,rfl,rfl,rfl,rfl,rfl,trivial⟩).2 ia,⟨(ag (xs:=jr a b) (ks:=[7,8,9,10,11,12,13]) (vs:=b.cs) ⟨rfl,rfl,rfl,rfl,rfl,rfl,rfl,trivial⟩).2 ib,trivial⟩⟩).mono ?_
  rintro e w' ⟨v,rfl,h1,h2⟩
  exact⟨congrArg Ending.returned h1,h2⟩
theorem vR {xs:List Fq} {ys:Rho} {ka:List Nat} {kb:List Nat} {a:Pq} {b:Pq} (aa:AtL xs ka a.cs) (ab:AtL xs kb b.cs) (ha:a.ok 100000000) (hb:b.ok 100000000) (e0:a≠b) (ga:a.good) (gb:b.good):OkI xs ys ⟨46,[row ka,row kb],.v (.one (.b false))⟩:=
 ⟨aA Tryz.func46 rfl rfl,fun B w vs hB h=>by
  match vs,h with
  | [va,vb],h=>
   refine(vQ va vb a b w ((ag aa).1 h.1) ((ag ab).1 h.2.1) ha hb e0 ga gb).mono ?_
   rintro e w' ⟨rfl,h2⟩
   exact⟨_,rfl,rfl,h2⟩⟩
def qx (a:Pq):List Fq:=a.cs
theorem zp (va:Value) (a:Pq) (w:World) (ia:dt w va a) (ha:a.ok 1000000) (ga:a.good):
  Calls Tryz.prog 44 #[va] w fun e w'=>bH w (.bool true) e w':=by
 refine(cRn (ρ:=frs (qx a)++ []) (args:=[row [0,1,2,3,4,5,6]]) (vs:=[va]) (r:=.v (.one (.b true)))
  (af (vH (kq:=[0,1,2,3]) (q:=a.rot) ⟨rfl,rfl,rfl,rfl,trivial⟩ (ha.rot.mono (by decide)) ga.rot) (af (I_vValid (ka:=[4,5,6]) (a:=a.pos) ⟨rfl,rfl,rfl,trivial⟩ (ha.pos.mono (by decide)) ga.pos) ai))
  aj Tryz.func44 (by kernel_rfl) ⟨(ag (xs:=qx a) (ks:=[0,1,2,3,4,5,6]) (vs:=a.cs) ⟨rfl,rfl,rfl,rfl,rfl,rfl,rfl,trivial⟩).2 ia,trivial⟩).mono ?_
 rintro e w' ⟨v,rfl,h1,h2⟩
 exact⟨congrArg Ending.returned h1,h2⟩
theorem cN {xs:List Fq} {ys:Rho} {ka:List Nat} {a:Pq} (aa:AtL xs ka a.cs) (ha:a.ok 1000000) (ga:a.good):OkI xs ys ⟨44,[row ka],.v (.one (.b true))⟩:=
 ⟨aA Tryz.func44 rfl rfl,fun B w vs hB h=>by
  match vs,h with
  | [va],h=>
   refine(zp va a w ((ag aa).1 h.1) ha ga).mono ?_
   rintro e w' ⟨rfl,h2⟩
   exact⟨_,rfl,rfl,h2⟩⟩
def kL (a:Pq) (b:Pq):List Fq:=(a.cs++(b.cs))
theorem kM (va vb:Value) (a:Pq) (b:Pq) (w:World) (ia:dt w va a) (ib:dt w vb b) (ha:a.ok 100000000) (hb:b.ok 100000000) (e0:a=b):
  Calls Tryz.prog 15 #[va,vb] w fun e w'=>bH w (.bool true) e w':=by
 refine(cRn (ρ:=frs (kL a b)++ []) (args:=[row [0,1,2,3,4,5,6],row [7,8,9,10,11,12,13]]) (vs:=[va,vb]) (r:=.v (.one (.b true)))
  (af (qt (ka:=[0,1,2,3]) (a:=a.rot) (kb:=[7,8,9,10]) (b:=b.rot) ⟨rfl,rfl,rfl,rfl,trivial⟩ ⟨rfl,rfl,rfl,rfl,trivial⟩ (ha.rot.mono (by decide)) (hb.rot.mono (by decide)) (congrArg Pq.rot e0)) (af (o7 (ka:=[4,5,6]) (a:=a.pos) (kb:=[11,12,13]) (b:=b.pos) ⟨rfl,rfl,rfl,trivial⟩ ⟨rfl,rfl,rfl,trivial⟩ (ha.pos.mono (by decide)) (hb.pos.mono (by decide)) (congrArg Pq.pos e0)) ai))
  aj Tryz.func15 (by kernel_rfl) ⟨(ag (xs:=kL a b) (ks:=[0,1,2,3,4,5,6]) (vs:=a.cs) ⟨rfl,rfl,rfl,rfl,rfl,rfl,rfl,trivial⟩).2 ia,⟨(ag (xs:=kL a b) (ks:=[7,8,9,10,11,12,13]) (vs:=b.cs) ⟨rfl,rfl,rfl,rfl,rfl,rfl,rfl,trivial⟩).2 ib,trivial⟩⟩).mono ?_
 rintro e w' ⟨v,rfl,h1,h2⟩
 exact⟨congrArg Ending.returned h1,h2⟩
theorem vS {xs:List Fq} {ys:Rho} {ka:List Nat} {kb:List Nat} {a:Pq} {b:Pq} (aa:AtL xs ka a.cs) (ab:AtL xs kb b.cs) (ha:a.ok 100000000) (hb:b.ok 100000000) (e0:a=b):OkI xs ys ⟨15,[row ka,row kb],.v (.one (.b true))⟩:=
 ⟨aA Tryz.func15 rfl rfl,fun B w vs hB h=>by
  match vs,h with
  | [va,vb],h=>
   refine(kM va vb a b w ((ag aa).1 h.1) ((ag ab).1 h.2.1) ha hb e0).mono ?_
   rintro e w' ⟨rfl,h2⟩
   exact⟨_,rfl,rfl,h2⟩⟩
def kN (a:Pq) (b:Pq):List Fq:=(a.cs++(b.cs))
def jt (a:Pq) (b:Pq):List Fq:=(a.cs++(b.cs))
theorem vT (va vb:Value) (a:Pq) (b:Pq) (w:World) (ia:dt w va a) (ib:dt w vb b) (ha:a.ok 100000000) (hb:b.ok 100000000) (e0:a≠b):
  Calls Tryz.prog 15 #[va,vb] w fun e w'=>bH w (.bool false) e w':=by
 by_cases c0:a.rot=b.rot
 ·by_cases c1:a.pos=b.pos
  ·exact absurd (by cases a;cases b;simp only at c0 c1;subst c0 c1;rfl) e0
  ·refine(cRn (ρ:=frs (kN a b)++ []) (args:=[row [0,1,2,3,4,5,6],row [7,8,9,10,11,12,13]]) (vs:=[va,vb]) (r:=.v (.one (.b false)))
    (af (qt (ka:=[0,1,2,3]) (a:=a.rot) (kb:=[7,8,9,10]) (b:=b.rot) ⟨rfl,rfl,rfl,rfl,trivial⟩ ⟨rfl,rfl,rfl,rfl,trivial⟩ (ha.rot.mono (by decide)) (hb.rot.mono (by decide)) c0) (af (vN (ka:=[4,5,6]) (a:=a.pos) (kb:=[11,12,13]) (b:=b.pos) ⟨rfl,rfl,rfl,trivial⟩ ⟨rfl,rfl,rfl,trivial⟩ (ha.pos.mono (by decide)) (hb.pos.mono (by decide)) c1) ai))
    aj Tryz.func15 (by kernel_rfl) ⟨(ag (xs:=kN a b) (ks:=[0,1,2,3,4,5,6]) (vs:=a.cs) ⟨rfl,rfl,rfl,rfl,rfl,rfl,rfl,trivial⟩).2 ia,⟨(ag (xs:=kN a b) (ks:=[7,8,9,10,11,12,13]) (vs:=b.cs) ⟨rfl,rfl,rfl,rfl,rfl,rfl,rfl,trivial⟩).2 ib,trivial⟩⟩).mono ?_
   rintro e w' ⟨v,rfl,h1,h2⟩
   exact⟨congrArg Ending.returned h1,h2⟩
 ·refine(cRn (ρ:=frs (jt a b)++ []) (args:=[row [0,1,2,3,4,5,6],row [7,8,9,10,11,12,13]]) (vs:=[va,vb]) (r:=.v (.one (.b false)))
   (af (zc (ka:=[0,1,2,3]) (a:=a.rot) (kb:=[7,8,9,10]) (b:=b.rot) ⟨rfl,rfl,rfl,rfl,trivial⟩ ⟨rfl,rfl,rfl,rfl,trivial⟩ (ha.rot.mono (by decide)) (hb.rot.mono (by decide)) c0) ai)
   aj Tryz.func15 (by kernel_rfl) ⟨(ag (xs:=jt a b) (ks:=[0,1,2,3,4,5,6]) (vs:=a.cs) ⟨rfl,rfl,rfl,rfl,rfl,rfl,rfl,trivial⟩).2 ia,⟨(ag (xs:=jt a b) (ks:=[7,8,9,10,11,12,13]) (vs:=b.cs) ⟨rfl,rfl,rfl,rfl,rfl,rfl,rfl,trivial⟩).2 ib,trivial⟩⟩).mono ?_
  rintro e w' ⟨v,rfl,h1,h2⟩
  exact⟨congrArg Ending.returned h1,h2⟩
theorem vU {xs:List Fq} {ys:Rho} {ka:List Nat} {kb:List Nat} {a:Pq} {b:Pq} (aa:AtL xs ka a.cs) (ab:AtL xs kb b.cs) (ha:a.ok 100000000) (hb:b.ok 100000000) (e0:a≠b):OkI xs ys ⟨15,[row ka,row kb],.v (.one (.b false))⟩:=
 ⟨aA Tryz.func15 rfl rfl,fun B w vs hB h=>by
  match vs,h with
  | [va,vb],h=>
   refine(vT va vb a b w ((ag aa).1 h.1) ((ag ab).1 h.2.1) ha hb e0).mono ?_
   rintro e w' ⟨rfl,h2⟩
   exact⟨_,rfl,rfl,h2⟩⟩
def qy (a:Pq):List Fq:=a.cs
theorem zq (va:Value) (a:Pq) (w:World) (ia:dt w va a) (ha:a.ok 1000000) (ga:a.good):
  Calls Tryz.prog 21 #[va] w fun e w'=>bH w (.bool true) e w':=by
 refine(cRn (ρ:=frs (qy a)++ []) (args:=[row [0,1,2,3,4,5,6]]) (vs:=[va]) (r:=.v (.one (.b true)))
  (af (vJ (kq:=[0,1,2,3]) (q:=a.rot) ⟨rfl,rfl,rfl,rfl,trivial⟩ (ha.rot.mono (by decide)) ga.rot) (af (zo (ka:=[4,5,6]) (a:=a.pos) ⟨rfl,rfl,rfl,trivial⟩ (ha.pos.mono (by decide)) ga.pos) ai))
  aj Tryz.func21 (by kernel_rfl) ⟨(ag (xs:=qy a) (ks:=[0,1,2,3,4,5,6]) (vs:=a.cs) ⟨rfl,rfl,rfl,rfl,rfl,rfl,rfl,trivial⟩).2 ia,trivial⟩).mono ?_
 rintro e w' ⟨v,rfl,h1,h2⟩
 exact⟨congrArg Ending.returned h1,h2⟩
theorem cO {xs:List Fq} {ys:Rho} {ka:List Nat} {a:Pq} (aa:AtL xs ka a.cs) (ha:a.ok 1000000) (ga:a.good):OkI xs ys ⟨21,[row ka],.v (.one (.b true))⟩:=
 ⟨aA Tryz.func21 rfl rfl,fun B w vs hB h=>by
  match vs,h with
  | [va],h=>
   refine(zq va a w ((ag aa).1 h.1) ha ga).mono ?_
   rintro e w' ⟨rfl,h2⟩
   exact⟨_,rfl,rfl,h2⟩⟩
end Go.Proofs.YtfhinmdhjlmikaaGreat
