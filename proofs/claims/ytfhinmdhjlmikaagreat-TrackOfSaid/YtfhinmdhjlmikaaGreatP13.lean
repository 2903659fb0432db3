/- On the way, valid rotations, by the executor. Package pose and its reference, by the executor. -/
import Derived.Test.YtfhinmdhjlmikaaGreatP12
namespace Go.Proofs.YtfhinmdhjlmikaaGreat
set_option linter.unusedSimpArgs false
set_option linter.unusedVariables false
set_option maxRecDepth 100000
open Go.RowKit
theorem oJ {q:Qq} (c:q.comp) (h:q.first=Fq.ofInt 1):q.good:=⟨c,by rw[h,oC];rfl⟩
def ml (p:Qq) (q:Qq) (m:Fq):List Fq:=(p.cs++(q.cs++([m]++(p.inv.cs++((p.inv.mul q).cs++([(Fq.ofInt 1),(p.inv.mul q).axis.x,(p.inv.mul q).axis.y,(p.inv.mul q).axis.z,((p.inv.mul q).axis.scale m).x,((p.inv.mul q).axis.scale m).y,((p.inv.mul q).axis.scale m).z]++((Qq.mk (Fq.ofInt 1) ((p.inv.mul q).axis.scale m).x ((p.inv.mul q).axis.scale m).y ((p.inv.mul q).axis.scale m).z).canon.cs++((p.mul (Qq.mk (Fq.ofInt 1) ((p.inv.mul q).axis.scale m).x ((p.inv.mul q).axis.scale m).y ((p.inv.mul q).axis.scale m).z).canon).cs))))))))
theorem q_fBtw1 (vp vq vm:Value) (p:Qq) (q:Qq) (m:Fq) (w:World) (ip:dM w vp p) (iq:dM w vq q) (im:IsQ w vm m) (hp:p.ok 100) (hq:q.ok 100) (hm:m.ok 100) (gp:p.good) (gq:q.good) (gm:m.valid=true) (hw:(p.inv.mul q).w.p≠0):
  Calls Tryz.prog 66 #[vp,vq,vm] w fun e w'=>mZ w (p.way (p.inv.mul q) m) 0 e w':=by
 refine(cRn (ρ:=frs (ml p q m)++ []) (args:=[row [0,1,2,3],row [4,5,6,7],fr 8]) (vs:=[vp,vq,vm]) (r:=.tup [row [28,29,30,31],.one (.i .i64 0)])
  (af (yZ (kq:=[0,1,2,3]) (q:=p) (kr:=[9,10,11,12]) ⟨rfl,rfl,rfl,rfl,trivial⟩ ⟨rfl,rfl,rfl,rfl,trivial⟩ (hp.mono (by decide)) gp) (af (su (kp:=[9,10,11,12]) (p:=p.inv) (kq:=[4,5,6,7]) (q:=q) (kr:=[13,14,15,16]) ⟨rfl,rfl,rfl,rfl,trivial⟩ ⟨rfl,rfl,rfl,rfl,trivial⟩ ⟨rfl,rfl,rfl,rfl,trivial⟩ ((hp.inv gp).mono (by decide)) (hq.mono (by decide)) (bM gp) gq) (af (I_Half0 (kq:=[13,14,15,16]) (q:=(p.inv.mul q)) ⟨rfl,rfl,rfl,rfl,trivial⟩ (((hp.inv gp).mulg hq (bM gp) gq).mono (by decide)) hw) (af (gr (k:=17) rfl (by decide) (by decide)) (af (sp (kq:=[13,14,15,16]) (q:=(p.inv.mul q)) (kr:=[18,19,20]) ⟨rfl,rfl,rfl,rfl,trivial⟩ ⟨rfl,rfl,rfl,trivial⟩ (((hp.inv gp).mulg hq (bM gp) gq).mono (by decide))) (af (jF (ka:=[18,19,20]) (a:=(p.inv.mul q).axis) (ik:=8) (kr:=[21,22,23]) ⟨rfl,rfl,rfl,trivial⟩ rfl ⟨rfl,rfl,rfl,trivial⟩ (((hp.inv gp).mulg hq (bM gp) gq).axis.mono (by decide)) (hm.mono (by decide))) (af (pz (iu:=17) (kc:=[21,22,23]) (c:=((p.inv.mul q).axis.scale m)) (kr:=[24,25,26,27]) rfl ⟨rfl,rfl,rfl,trivial⟩ ⟨rfl,rfl,rfl,rfl,trivial⟩ ((bE (u:=1) (by decide) (by decide)).mono (by decide)) ((((hp.inv gp).mulg hq (bM gp) gq).axis.scale hm).mono (by decide)) fQ) (af (su (kp:=[0,1,2,3]) (p:=p) (kq:=[24,25,26,27]) (q:=(Qq.mk (Fq.ofInt 1) ((p.inv.mul q).axis.scale m).x ((p.inv.mul q).axis.scale m).y ((p.inv.mul q).axis.scale m).z).canon) (kr:=[28,29,30,31]) ⟨rfl,rfl,rfl,rfl,trivial⟩ ⟨rfl,rfl,rfl,rfl,trivial⟩ ⟨rfl,rfl,rfl,rfl,trivial⟩ (hp.mono (by decide)) ((ri (bE (u:=1) (by decide) (by decide)) (((hp.inv gp).mulg hq (bM gp) gq).axis.scale hm) fQ).mono (by decide)) gp (fc (kd (ig (bM gp) gq).comp gm) fQ)) ai))))))))
  aj Tryz.func66 (by kernel_rfl) ⟨(ag (xs:=ml p q m) (ks:=[0,1,2,3]) (vs:=p.cs) ⟨rfl,rfl,rfl,rfl,trivial⟩).2 ip,⟨(ag (xs:=ml p q m) (ks:=[4,5,6,7]) (vs:=q.cs) ⟨rfl,rfl,rfl,rfl,trivial⟩).2 iq,⟨(aL (xs:=ml p q m) (k:=8) rfl).2 im,trivial⟩⟩⟩).mono ?_
 rintro e w' ⟨v,rfl,⟨vs,rfl,h1⟩,h2⟩
 match vs,h1 with
 | [r,c],h1=>
  obtain⟨⟨cs,rfl,k1⟩,k2,_⟩:=h1
  have k2:c=_:=k2
  subst k2
  exact⟨_,rfl,(ag (xs:=ml p q m) (ks:=[28,29,30,31]) (vs:=(p.mul (Qq.mk (Fq.ofInt 1) ((p.inv.mul q).axis.scale m).x ((p.inv.mul q).axis.scale m).y ((p.inv.mul q).axis.scale m).z).canon).cs) ⟨rfl,rfl,rfl,rfl,trivial⟩).1 ⟨_,rfl,k1⟩,h2⟩
theorem I_fBtw1 {xs:List Fq} {ys:Rho} {kp:List Nat} {kq:List Nat} {im:Nat} {p:Qq} {q:Qq} {m:Fq} {kr:List Nat} (ap:AtL xs kp p.cs) (aq:AtL xs kq q.cs) (am:xs[im]? =some m) (ar:AtL xs kr (p.way (p.inv.mul q) m).cs) (hp:p.ok 100) (hq:q.ok 100) (hm:m.ok 100) (gp:p.good) (gq:q.good) (gm:m.valid=true) (hw:(p.inv.mul q).w.p≠0):OkI xs ys ⟨66,[row kp,row kq,fr im],.tup [row kr,.one (.i .i64 0)]⟩:=
 ⟨aA Tryz.func66 rfl rfl,fun B w vs hB h=>by
  match vs,h with
  | [vp,vq,vm],h=>
   refine(q_fBtw1 vp vq vm p q m w ((ag ap).1 h.1) ((ag aq).1 h.2.1) ((aL am).1 h.2.2.1) hp hq hm gp gq gm hw).mono ?_
   rintro e w' ⟨v,rfl,h1,h2⟩
   exact⟨_,rfl,⟨[v,.int .i64 0],rfl,(ag ar).2 h1,rfl,trivial⟩,h2⟩⟩
def oK (p:Qq) (q:Qq) (m:Fq):List Fq:=(p.cs++(q.cs++([m]++(p.inv.cs++((p.inv.mul q).cs++([(Fq.ofInt 1)]))))))
theorem q_fBtw4 (vp vq vm:Value) (p:Qq) (q:Qq) (m:Fq) (w:World) (ip:dM w vp p) (iq:dM w vq q) (im:IsQ w vm m) (hp:p.ok 100) (hq:q.ok 100) (hm:m.ok 100) (gp:p.good) (gq:q.good) (gm:m.valid=true) (hw:(p.inv.mul q).w.p=0) (h0:m.p≠0) (h1:m≠(Fq.ofInt 1)):
  Calls Tryz.prog 66 #[vp,vq,vm] w fun e w'=>mZ w Qq.zero 4 e w':=by
 refine(cRn (ρ:=frs (oK p q m)++([.val (.int .i64 m.sgn),.val (.int .i64 (m.cmp (Fq.ofInt 1)))]:List Vp)) (args:=[row [0,1,2,3],row [4,5,6,7],fr 8]) (vs:=[vp,vq,vm]) (r:=.tup [.agg [.b false,.sl0,.sl0,.b false,.sl0,.sl0,.b false,.sl0,.sl0,.b false,.sl0,.sl0],.one (.i .i64 4)])
  (af (yZ (kq:=[0,1,2,3]) (q:=p) (kr:=[9,10,11,12]) ⟨rfl,rfl,rfl,rfl,trivial⟩ ⟨rfl,rfl,rfl,rfl,trivial⟩ (hp.mono (by decide)) gp) (af (su (kp:=[9,10,11,12]) (p:=p.inv) (kq:=[4,5,6,7]) (q:=q) (kr:=[13,14,15,16]) ⟨rfl,rfl,rfl,rfl,trivial⟩ ⟨rfl,rfl,rfl,rfl,trivial⟩ ⟨rfl,rfl,rfl,rfl,trivial⟩ ((hp.inv gp).mono (by decide)) (hq.mono (by decide)) (bM gp) gq) (af (I_Half1 (kq:=[13,14,15,16]) (q:=(p.inv.mul q)) ⟨rfl,rfl,rfl,rfl,trivial⟩ (((hp.inv gp).mulg hq (bM gp) gq).mono (by decide)) hw) (af (bx (i:=8) rfl (lr (n:=54) rfl) (hm.mono (by decide))) (af (gr (k:=17) rfl (by decide) (by decide)) (af (cf (i:=8) (j:=17) rfl rfl (lr (n:=55) rfl) (hm.mono (by decide)) ((bE (u:=1) (by decide) (by decide)).mono (by decide))) ai))))))
  (ae (gT (n:=54) (c:=0) (t:=3) rfl (iW h0)) (ae (gT (n:=55) (c:=0) (t:=3) rfl (jE (mt (ce gm (aY 1)).1 h1))) (aj))) Tryz.func66 (by kernel_rfl) ⟨(ag (xs:=oK p q m) (ks:=[0,1,2,3]) (vs:=p.cs) ⟨rfl,rfl,rfl,rfl,trivial⟩).2 ip,⟨(ag (xs:=oK p q m) (ks:=[4,5,6,7]) (vs:=q.cs) ⟨rfl,rfl,rfl,rfl,trivial⟩).2 iq,⟨(aL (xs:=oK p q m) (k:=8) rfl).2 im,trivial⟩⟩⟩).mono ?_
 rintro e w' ⟨v,rfl,⟨vs,rfl,h1⟩,h2⟩
 match vs,h1 with
 | [r,c],h1=>
  obtain⟨⟨cs,rfl,k1⟩,k2,_⟩:=h1
  have k2:c=_:=k2
  subst k2
  exact⟨_,rfl,⟨_,rfl,dE (n:=4) k1⟩,h2⟩
theorem I_fBtw4 {xs:List Fq} {ys:Rho} {kp:List Nat} {kq:List Nat} {im:Nat} {p:Qq} {q:Qq} {m:Fq} {kr:List Nat} (ap:AtL xs kp p.cs) (aq:AtL xs kq q.cs) (am:xs[im]? =some m) (ar:AtL xs kr Qq.zero.cs) (hp:p.ok 100) (hq:q.ok 100) (hm:m.ok 100) (gp:p.good) (gq:q.good) (gm:m.valid=true) (hw:(p.inv.mul q).w.p=0) (h0:m.p≠0) (h1:m≠(Fq.ofInt 1)):OkI xs ys ⟨66,[row kp,row kq,fr im],.tup [row kr,.one (.i .i64 4)]⟩:=
 ⟨aA Tryz.func66 rfl rfl,fun B w vs hB h=>by
  match vs,h with
  | [vp,vq,vm],h=>
   refine(q_fBtw4 vp vq vm p q m w ((ag ap).1 h.1) ((ag aq).1 h.2.1) ((aL am).1 h.2.2.1) hp hq hm gp gq gm hw h0 h1).mono ?_
   rintro e w' ⟨v,rfl,h1,h2⟩
   exact⟨_,rfl,⟨[v,.int .i64 4],rfl,(ag ar).2 h1,rfl,trivial⟩,h2⟩⟩
def mm (p:Qq) (q:Qq) (m:Fq):List Fq:=(p.cs++(q.cs++([m]++(p.inv.cs++((p.inv.mul q).cs++([(Fq.ofInt 1),(p.inv.mul q).axis.x,(p.inv.mul q).axis.y,(p.inv.mul q).axis.z,((p.inv.mul q).axis.scale m).x,((p.inv.mul q).axis.scale m).y,((p.inv.mul q).axis.scale m).z]++((Qq.mk (Fq.ofInt 1) ((p.inv.mul q).axis.scale m).x ((p.inv.mul q).axis.scale m).y ((p.inv.mul q).axis.scale m).z).canon.cs++((p.mul (Qq.mk (Fq.ofInt 1) ((p.inv.mul q).axis.scale m).x ((p.inv.mul q).axis.scale m).y ((p.inv.mul q).axis.scale m).z).canon).cs))))))))
theorem q_rBtw1 (vp vq vm:Value) (p:Qq) (q:Qq) (m:Fq) (w:World) (ip:dM w vp p) (iq:dM w vq q) (im:IsQ w vm m) (hp:p.ok 100) (hq:q.ok 100) (hm:m.ok 100) (gp:p.good) (gq:q.good) (gm:m.valid=true) (hw:(p.inv.mul q).w.p≠0):
  Calls Tryz.prog 84 #[vp,vq,vm] w fun e w'=>mZ w (p.way (p.inv.mul q) m) 0 e w':=by
 refine(cRn (ρ:=frs (mm p q m)++ []) (args:=[row [0,1,2,3],row [4,5,6,7],fr 8]) (vs:=[vp,vq,vm]) (r:=.tup [row [28,29,30,31],.one (.i .i64 0)])
  (af (y4 (kq:=[0,1,2,3]) (q:=p) (kr:=[9,10,11,12]) ⟨rfl,rfl,rfl,rfl,trivial⟩ ⟨rfl,rfl,rfl,rfl,trivial⟩ (hp.mono (by decide)) gp) (af (sw (kp:=[9,10,11,12]) (p:=p.inv) (kq:=[4,5,6,7]) (q:=q) (kr:=[13,14,15,16]) ⟨rfl,rfl,rfl,rfl,trivial⟩ ⟨rfl,rfl,rfl,rfl,trivial⟩ ⟨rfl,rfl,rfl,rfl,trivial⟩ ((hp.inv gp).mono (by decide)) (hq.mono (by decide)) (bM gp) gq) (af (I_rHalf0 (kq:=[13,14,15,16]) (q:=(p.inv.mul q)) ⟨rfl,rfl,rfl,rfl,trivial⟩ (((hp.inv gp).mulg hq (bM gp) gq).mono (by decide)) hw) (af (dS (k:=17) rfl (by decide) (by decide)) (af (wG (kq:=[13,14,15,16]) (q:=(p.inv.mul q)) (kr:=[18,19,20]) ⟨rfl,rfl,rfl,rfl,trivial⟩ ⟨rfl,rfl,rfl,trivial⟩ (((hp.inv gp).mulg hq (bM gp) gq).mono (by decide))) (af (pu (ka:=[18,19,20]) (a:=(p.inv.mul q).axis) (ik:=8) (kr:=[21,22,23]) ⟨rfl,rfl,rfl,trivial⟩ rfl ⟨rfl,rfl,rfl,trivial⟩ (((hp.inv gp).mulg hq (bM gp) gq).axis.mono (by decide)) (hm.mono (by decide))) (af (py (iu:=17) (kc:=[21,22,23]) (c:=((p.inv.mul q).axis.scale m)) (kr:=[24,25,26,27]) rfl ⟨rfl,rfl,rfl,trivial⟩ ⟨rfl,rfl,rfl,rfl,trivial⟩ ((bE (u:=1) (by decide) (by decide)).mono (by decide)) ((((hp.inv gp).mulg hq (bM gp) gq).axis.scale hm).mono (by decide)) fQ) (af (sw (kp:=[0,1,2,3]) (p:=p) (kq:=[24,25,26,27]) (q:=(Qq.mk (Fq.ofInt 1) ((p.inv.mul q).axis.scale m).x ((p.inv.mul q).axis.scale m).y ((p.inv.mul q).axis.scale m).z).canon) (kr:=[28,29,30,31]) ⟨rfl,rfl,rfl,rfl,trivial⟩ ⟨rfl,rfl,rfl,rfl,trivial⟩ ⟨rfl,rfl,rfl,rfl,trivial⟩ (hp.mono (by decide)) ((ri (bE (u:=1) (by decide) (by decide)) (((hp.inv gp).mulg hq (bM gp) gq).axis.scale hm) fQ).mono (by decide)) gp (fc (kd (ig (bM gp) gq).comp gm) fQ)) ai))))))))
  aj Tryz.func84 (by kernel_rfl) ⟨(ag (xs:=mm p q m) (ks:=[0,1,2,3]) (vs:=p.cs) ⟨rfl,rfl,rfl,rfl,trivial⟩).2 ip,⟨(ag (xs:=mm p q m) (ks:=[4,5,6,7]) (vs:=q.cs) ⟨rfl,rfl,rfl,rfl,trivial⟩).2 iq,⟨(aL (xs:=mm p q m) (k:=8) rfl).2 im,trivial⟩⟩⟩).mono ?_
 rintro e w' ⟨v,rfl,⟨vs,rfl,h1⟩,h2⟩
 match vs,h1 with
 | [r,c],h1=>
  obtain⟨⟨cs,rfl,k1⟩,k2,_⟩:=h1
  have k2:c=_:=k2
  subst k2
  exact⟨_,rfl,(ag (xs:=mm p q m) (ks:=[28,29,30,31]) (vs:=(p.mul (Qq.mk (Fq.ofInt 1) ((p.inv.mul q).axis.scale m).x ((p.inv.mul q).axis.scale m).y ((p.inv.mul q).axis.scale m).z).canon).cs) ⟨rfl,rfl,rfl,rfl,trivial⟩).1 ⟨_,rfl,k1⟩,h2⟩
theorem I_rBtw1 {xs:List Fq} {ys:Rho} {kp:List Nat} {kq:List Nat} {im:Nat} {p:Qq} {q:Qq} {m:Fq} {kr:List Nat} (ap:AtL xs kp p.cs) (aq:AtL xs kq q.cs) (am:xs[im]? =some m) (ar:AtL xs kr (p.way (p.inv.mul q) m).cs) (hp:p.ok 100) (hq:q.ok 100) (hm:m.ok 100) (gp:p.good) (gq:q.good) (gm:m.valid=true) (hw:(p.inv.mul q).w.p≠0):OkI xs ys ⟨84,[row kp,row kq,fr im],.tup [row kr,.one (.i .i64 0)]⟩:=
 ⟨aA Tryz.func84 rfl rfl,fun B w vs hB h=>by
  match vs,h with
  | [vp,vq,vm],h=>
   refine(q_rBtw1 vp vq vm p q m w ((ag ap).1 h.1) ((ag aq).1 h.2.1) ((aL am).1 h.2.2.1) hp hq hm gp gq gm hw).mono ?_
   rintro e w' ⟨v,rfl,h1,h2⟩
   exact⟨_,rfl,⟨[v,.int .i64 0],rfl,(ag ar).2 h1,rfl,trivial⟩,h2⟩⟩
def oL (p:Qq) (q:Qq) (m:Fq):List Fq:=(p.cs++(q.cs++([m]++(p.inv.cs++((p.inv.mul q).cs++([(Fq.ofInt 1)]))))))
theorem q_rBtw4 (vp vq vm:Value) (p:Qq) (q:Qq) (m:Fq) (w:World) (ip:dM w vp p) (iq:dM w vq q) (im:IsQ w vm m) (hp:p.ok 100) (hq:q.ok 100) (hm:m.ok 100) (gp:p.good) (gq:q.good) (gm:m.valid=true) (hw:(p.inv.mul q).w.p=0) (h0:m.p≠0) (h1:m≠(Fq.ofInt 1)):
  Calls Tryz.prog 84 #[vp,vq,vm] w fun e w'=>mZ w Qq.zero 4 e w':=by
 refine(cRn (ρ:=frs (oL p q m)++([.val (.int .i64 m.sgn)]:List Vp)) (args:=[row [0,1,2,3],row [4,5,6,7],fr 8]) (vs:=[vp,vq,vm]) (r:=.tup [.agg [.b false,.sl0,.sl0,.b false,.sl0,.sl0,.b false,.sl0,.sl0,.b false,.sl0,.sl0],.one (.i .i64 4)])
  (af (y4 (kq:=[0,1,2,3]) (q:=p) (kr:=[9,10,11,12]) ⟨rfl,rfl,rfl,rfl,trivial⟩ ⟨rfl,rfl,rfl,rfl,trivial⟩ (hp.mono (by decide)) gp) (af (sw (kp:=[9,10,11,12]) (p:=p.inv) (kq:=[4,5,6,7]) (q:=q) (kr:=[13,14,15,16]) ⟨rfl,rfl,rfl,rfl,trivial⟩ ⟨rfl,rfl,rfl,rfl,trivial⟩ ⟨rfl,rfl,rfl,rfl,trivial⟩ ((hp.inv gp).mono (by decide)) (hq.mono (by decide)) (bM gp) gq) (af (I_rHalf1 (kq:=[13,14,15,16]) (q:=(p.inv.mul q)) ⟨rfl,rfl,rfl,rfl,trivial⟩ (((hp.inv gp).mulg hq (bM gp) gq).mono (by decide)) hw) (af (dZ (i:=8) rfl (lr (n:=54) rfl) (hm.mono (by decide))) (af (dS (k:=17) rfl (by decide) (by decide)) (af (bV (i:=8) (j:=17) (l:=.b false) rfl rfl (lb (eL h1)) (hm.mono (by decide)).p (hm.mono (by decide)).q ((bE (u:=1) (by decide) (by decide)).mono (by decide)).p ((bE (u:=1) (by decide) (by decide)).mono (by decide)).q) ai))))))
  (ae (gT (n:=54) (c:=0) (t:=3) rfl (iW h0)) (aj)) Tryz.func84 (by kernel_rfl) ⟨(ag (xs:=oL p q m) (ks:=[0,1,2,3]) (vs:=p.cs) ⟨rfl,rfl,rfl,rfl,trivial⟩).2 ip,⟨(ag (xs:=oL p q m) (ks:=[4,5,6,7]) (vs:=q.cs) ⟨rfl,rfl,rfl,rfl,trivial⟩).2 iq,⟨(aL (xs:=oL p q m) (k:=8) rfl).2 im,trivial⟩⟩⟩).mono ?_
 rintro e w' ⟨v,rfl,⟨vs,rfl,h1⟩,h2⟩
 match vs,h1 with
 | [r,c],h1=>
  obtain⟨⟨cs,rfl,k1⟩,k2,_⟩:=h1
  have k2:c=_:=k2
  subst k2
  exact⟨_,rfl,⟨_,rfl,dE (n:=4) k1⟩,h2⟩
theorem I_rBtw4 {xs:List Fq} {ys:Rho} {kp:List Nat} {kq:List Nat} {im:Nat} {p:Qq} {q:Qq} {m:Fq} {kr:List Nat} (ap:AtL xs kp p.cs) (aq:AtL xs kq q.cs) (am:xs[im]? =some m) (ar:AtL xs kr Qq.zero.cs) (hp:p.ok 100) (hq:q.ok 100) (hm:m.ok 100) (gp:p.good) (gq:q.good) (gm:m.valid=true) (hw:(p.inv.mul q).w.p=0) (h0:m.p≠0) (h1:m≠(Fq.ofInt 1)):OkI xs ys ⟨84,[row kp,row kq,fr im],.tup [row kr,.one (.i .i64 4)]⟩:=
 ⟨aA Tryz.func84 rfl rfl,fun B w vs hB h=>by
  match vs,h with
  | [vp,vq,vm],h=>
   refine(q_rBtw4 vp vq vm p q m w ((ag ap).1 h.1) ((ag aq).1 h.2.1) ((aL am).1 h.2.2.1) hp hq hm gp gq gm hw h0 h1).mono ?_
   rintro e w' ⟨v,rfl,h1,h2⟩
   exact⟨_,rfl,⟨[v,.int .i64 4],rfl,(ag ar).2 h1,rfl,trivial⟩,h2⟩⟩
def pB (q:Qq):List Fq:=(q.cs++([(Fq.ofInt 1)]))
def nT (q:Qq):List Fq:=(q.cs++([(Fq.ofInt 1)]))
def nU (q:Qq):List Fq:=(q.cs++([(Fq.ofInt 1)]))
def nV (q:Qq):List Fq:=(q.cs++([(Fq.ofInt 1)]))
theorem pC (vq:Value) (q:Qq) (w:World) (iq:dM w vq q) (hq:q.ok 1000000) (gq:q.good):
  Calls Tryz.prog 69 #[vq] w fun e w'=>bH w (.bool true) e w':=by
 by_cases c0:q.w.p=0
 ·by_cases c1:q.x.p=0
  ·by_cases c2:q.y.p=0
   ·by_cases c3:q.z.p=0
    ·exact absurd (by simp[Qq.first,c0,c1,c2,c3]) (good_ne gq)
    ·have e1:q.first=q.z:=by simp[Qq.first,c0,c1,c2,c3]
     refine(cRn (ρ:=frs (pB q)++([.val (.int .i64 q.z.sgn)]:List Vp)) (args:=[row [0,1,2,3]]) (vs:=[vq]) (r:=.v (.one (.b true)))
      (af (cO (kq:=[0,1,2,3]) (q:=q) (kr:=[0,1,2,3]) ⟨rfl,rfl,rfl,rfl,trivial⟩ ⟨rfl,rfl,rfl,rfl,trivial⟩ (hq.mono (by decide))) (af (ba (i:=0) (l:=.b true) rfl (lb gq.comp.w) (hq.w.mono (by decide))) (af (ba (i:=1) (l:=.b true) rfl (lb gq.comp.x) (hq.x.mono (by decide))) (af (ba (i:=2) (l:=.b true) rfl (lb gq.comp.y) (hq.y.mono (by decide))) (af (ba (i:=3) (l:=.b true) rfl (lb gq.comp.z) (hq.z.mono (by decide))) (af (bx (i:=0) rfl (li (eF c0)) (hq.w.mono (by decide))) (af (bx (i:=1) rfl (li (eF c1)) (hq.x.mono (by decide))) (af (bx (i:=2) rfl (li (eF c2)) (hq.y.mono (by decide))) (af (bx (i:=3) rfl (lr (n:=15) rfl) (hq.z.mono (by decide))) (af (gr (k:=4) rfl (by decide) (by decide)) (af (cf (i:=3) (j:=4) rfl rfl (li ((ce gq.comp.z (aY 1)).2 (e1.symm.trans (ff gq)))) (hq.z.mono (by decide)) ((bE (u:=1) (by decide) (by decide)).mono (by decide))) ai)))))))))))
      (ae (gn (n:=15) (c:=0) (t:=3) rfl (gt c3)) (aj)) Tryz.func69 (by kernel_rfl) ⟨(ag (xs:=pB q) (ks:=[0,1,2,3]) (vs:=q.cs) ⟨rfl,rfl,rfl,rfl,trivial⟩).2 iq,trivial⟩).mono ?_
     rintro e w' ⟨v,rfl,h1,h2⟩
     exact⟨congrArg Ending.returned h1,h2⟩
   ·have e1:q.first=q.y:=by simp[Qq.first,c0,c1,c2]
    refine(cRn (ρ:=frs (nT q)++([.val (.int .i64 q.y.sgn)]:List Vp)) (args:=[row [0,1,2,3]]) (vs:=[vq]) (r:=.v (.one (.b true)))
     (af (cO (kq:=[0,1,2,3]) (q:=q) (kr:=[0,1,2,3]) ⟨rfl,rfl,rfl,rfl,trivial⟩ ⟨rfl,rfl,rfl,rfl,trivial⟩ (hq.mono (by decide))) (af (ba (i:=0) (l:=.b true) rfl (lb gq.comp.w) (hq.w.mono (by decide))) (af (ba (i:=1) (l:=.b true) rfl (lb gq.comp.x) (hq.x.mono (by decide))) (af (ba (i:=2) (l:=.b true) rfl (lb gq.comp.y) (hq.y.mono (by decide))) (af (ba (i:=3) (l:=.b true) rfl (lb gq.comp.z) (hq.z.mono (by decide))) (af (bx (i:=0) rfl (li (eF c0)) (hq.w.mono (by decide))) (af (bx (i:=1) rfl (li (eF c1)) (hq.x.mono (by decide))) (af (bx (i:=2) rfl (lr (n:=15) rfl) (hq.y.mono (by decide))) (af (gr (k:=4) rfl (by decide) (by decide)) (af (cf (i:=2) (j:=4) rfl rfl (li ((ce gq.comp.y (aY 1)).2 (e1.symm.trans (ff gq)))) (hq.y.mono (by decide)) ((bE (u:=1) (by decide) (by decide)).mono (by decide))) ai))))))))))
     (ae (gn (n:=15) (c:=0) (t:=3) rfl (gt c2)) (aj)) Tryz.func69 (by kernel_rfl) ⟨(ag (xs:=nT q) (ks:=[0,1,2,3]) (vs:=q.cs) ⟨rfl,rfl,rfl,rfl,trivial⟩).2 iq,trivial⟩).mono ?_
    rintro e w' ⟨v,rfl,h1,h2⟩
    exact⟨congrArg Ending.returned h1,h2⟩
  ·have e1:q.first=q.x:=by simp[Qq.first,c0,c1]
   refine(cRn (ρ:=frs (nU q)++([.val (.int .i64 q.x.sgn)]:List Vp)) (args:=[row [0,1,2,3]]) (vs:=[vq]) (r:=.v (.one (.b true)))
    (af (cO (kq:=[0,1,2,3]) (q:=q) (kr:=[0,1,2,3]) ⟨rfl,rfl,rfl,rfl,trivial⟩ ⟨rfl,rfl,rfl,rfl,trivial⟩ (hq.mono (by decide))) (af (ba (i:=0) (l:=.b true) rfl (lb gq.comp.w) (hq.w.mono (by decide))) (af (ba (i:=1) (l:=.b true) rfl (lb gq.comp.x) (hq.x.mono (by decide))) (af (ba (i:=2) (l:=.b true) rfl (lb gq.comp.y) (hq.y.mono (by decide))) (af (ba (i:=3) (l:=.b true) rfl (lb gq.comp.z) (hq.z.mono (by decide))) (af (bx (i:=0) rfl (li (eF c0)) (hq.w.mono (by decide))) (af (bx (i:=1) rfl (lr (n:=15) rfl) (hq.x.mono (by decide))) (af (gr (k:=4) rfl (by decide) (by decide)) (af (cf (i:=1) (j:=4) rfl rfl (li ((ce gq.comp.x (aY 1)).2 (e1.symm.trans (ff gq)))) (hq.x.mono (by decide)) ((bE (u:=1) (by decide) (by decide)).mono (by decide))) ai)))))))))
    (ae (gn (n:=15) (c:=0) (t:=3) rfl (gt c1)) (aj)) Tryz.func69 (by kernel_rfl) ⟨(ag (xs:=nU q) (ks:=[0,1,2,3]) (vs:=q.cs) ⟨rfl,rfl,rfl,rfl,trivial⟩).2 iq,trivial⟩).mono ?_
   rintro e w' ⟨v,rfl,h1,h2⟩
   exact⟨congrArg Ending.returned h1,h2⟩
 ·have e1:q.first=q.w:=by simp[Qq.first,c0]
  refine(cRn (ρ:=frs (nV q)++([.val (.int .i64 q.w.sgn)]:List Vp)) (args:=[row [0,1,2,3]]) (vs:=[vq]) (r:=.v (.one (.b true)))
   (af (cO (kq:=[0,1,2,3]) (q:=q) (kr:=[0,1,2,3]) ⟨rfl,rfl,rfl,rfl,trivial⟩ ⟨rfl,rfl,rfl,rfl,trivial⟩ (hq.mono (by decide))) (af (ba (i:=0) (l:=.b true) rfl (lb gq.comp.w) (hq.w.mono (by decide))) (af (ba (i:=1) (l:=.b true) rfl (lb gq.comp.x) (hq.x.mono (by decide))) (af (ba (i:=2) (l:=.b true) rfl (lb gq.comp.y) (hq.y.mono (by decide))) (af (ba (i:=3) (l:=.b true) rfl (lb gq.comp.z) (hq.z.mono (by decide))) (af (bx (i:=0) rfl (lr (n:=15) rfl) (hq.w.mono (by decide))) (af (gr (k:=4) rfl (by decide) (by decide)) (af (cf (i:=0) (j:=4) rfl rfl (li ((ce gq.comp.w (aY 1)).2 (e1.symm.trans (ff gq)))) (hq.w.mono (by decide)) ((bE (u:=1) (by decide) (by decide)).mono (by decide))) ai))))))))
   (ae (gn (n:=15) (c:=0) (t:=3) rfl (gt c0)) (aj)) Tryz.func69 (by kernel_rfl) ⟨(ag (xs:=nV q) (ks:=[0,1,2,3]) (vs:=q.cs) ⟨rfl,rfl,rfl,rfl,trivial⟩).2 iq,trivial⟩).mono ?_
  rintro e w' ⟨v,rfl,h1,h2⟩
  exact⟨congrArg Ending.returned h1,h2⟩
theorem wI {xs:List Fq} {ys:Rho} {kq:List Nat} {q:Qq} (aq:AtL xs kq q.cs) (hq:q.ok 1000000) (gq:q.good):OkI xs ys ⟨69,[row kq],.v (.one (.b true))⟩:=
 ⟨aA Tryz.func69 rfl rfl,fun B w vs hB h=>by
  match vs,h with
  | [vq],h=>
   refine(pC vq q w ((ag aq).1 h.1) hq gq).mono ?_
   rintro e w' ⟨rfl,h2⟩
   exact⟨_,rfl,rfl,h2⟩⟩
def pD (q:Qq):List Fq:=q.cs
def nW (q:Qq):List Fq:=(q.cs++([(Fq.ofInt 1)]))
def nX (q:Qq):List Fq:=(q.cs++([(Fq.ofInt 1)]))
def nY (q:Qq):List Fq:=(q.cs++([(Fq.ofInt 1)]))
def nZ (q:Qq):List Fq:=(q.cs++([(Fq.ofInt 1)]))
theorem wJ (vq:Value) (q:Qq) (w:World) (iq:dM w vq q) (hq:q.ok 1000000) (gc:q.comp) (hf:q.first≠(Fq.ofInt 1)):
  Calls Tryz.prog 69 #[vq] w fun e w'=>bH w (.bool false) e w':=by
 by_cases c0:q.w.p=0
 ·by_cases c1:q.x.p=0
  ·by_cases c2:q.y.p=0
   ·by_cases c3:q.z.p=0
    ·refine(cRn (ρ:=frs (pD q)++ []) (args:=[row [0,1,2,3]]) (vs:=[vq]) (r:=.v (.one (.b false)))
      (af (cO (kq:=[0,1,2,3]) (q:=q) (kr:=[0,1,2,3]) ⟨rfl,rfl,rfl,rfl,trivial⟩ ⟨rfl,rfl,rfl,rfl,trivial⟩ (hq.mono (by decide))) (af (ba (i:=0) (l:=.b true) rfl (lb gc.w) (hq.w.mono (by decide))) (af (ba (i:=1) (l:=.b true) rfl (lb gc.x) (hq.x.mono (by decide))) (af (ba (i:=2) (l:=.b true) rfl (lb gc.y) (hq.y.mono (by decide))) (af (ba (i:=3) (l:=.b true) rfl (lb gc.z) (hq.z.mono (by decide))) (af (bx (i:=0) rfl (li (eF c0)) (hq.w.mono (by decide))) (af (bx (i:=1) rfl (li (eF c1)) (hq.x.mono (by decide))) (af (bx (i:=2) rfl (li (eF c2)) (hq.y.mono (by decide))) (af (bx (i:=3) rfl (li (eF c3)) (hq.z.mono (by decide))) ai)))))))))
      aj Tryz.func69 (by kernel_rfl) ⟨(ag (xs:=pD q) (ks:=[0,1,2,3]) (vs:=q.cs) ⟨rfl,rfl,rfl,rfl,trivial⟩).2 iq,trivial⟩).mono ?_
     rintro e w' ⟨v,rfl,h1,h2⟩
     exact⟨congrArg Ending.returned h1,h2⟩
    ·have e1:q.first=q.z:=by simp[Qq.first,c0,c1,c2,c3]
     refine(cRn (ρ:=frs (nW q)++([.val (.int .i64 q.z.sgn),.val (.int .i64 (q.z.cmp (Fq.ofInt 1)))]:List Vp)) (args:=[row [0,1,2,3]]) (vs:=[vq]) (r:=.v (.one (.b false)))
      (af (cO (kq:=[0,1,2,3]) (q:=q) (kr:=[0,1,2,3]) ⟨rfl,rfl,rfl,rfl,trivial⟩ ⟨rfl,rfl,rfl,rfl,trivial⟩ (hq.mono (by decide))) (af (ba (i:=0) (l:=.b true) rfl (lb gc.w) (hq.w.mono (by decide))) (af (ba (i:=1) (l:=.b true) rfl (lb gc.x) (hq.x.mono (by decide))) (af (ba (i:=2) (l:=.b true) rfl (lb gc.y) (hq.y.mono (by decide))) (af (ba (i:=3) (l:=.b true) rfl (lb gc.z) (hq.z.mono (by decide))) (af (bx (i:=0) rfl (li (eF c0)) (hq.w.mono (by decide))) (af (bx (i:=1) rfl (li (eF c1)) (hq.x.mono (by decide))) (af (bx (i:=2) rfl (li (eF c2)) (hq.y.mono (by decide))) (af (bx (i:=3) rfl (lr (n:=15) rfl) (hq.z.mono (by decide))) (af (gr (k:=4) rfl (by decide) (by decide)) (af (cf (i:=3) (j:=4) rfl rfl (lr (n:=16) rfl) (hq.z.mono (by decide)) ((bE (u:=1) (by decide) (by decide)).mono (by decide))) ai)))))))))))
      (ae (gn (n:=15) (c:=0) (t:=3) rfl (gt c3)) (ae (gT (n:=16) (c:=0) (t:=3) rfl (jE (mt (ce gc.z (aY 1)).1 (fun h=>hf (e1.trans h))))) (aj))) Tryz.func69 (by kernel_rfl) ⟨(ag (xs:=nW q) (ks:=[0,1,2,3]) (vs:=q.cs) ⟨rfl,rfl,rfl,rfl,trivial⟩).2 iq,trivial⟩).mono ?_
     rintro e w' ⟨v,rfl,h1,h2⟩
     exact⟨congrArg Ending.returned h1,h2⟩
   ·have e1:q.first=q.y:=by simp[Qq.first,c0,c1,c2]
    refine(cRn (ρ:=frs (nX q)++([.val (.int .i64 q.y.sgn),.val (.int .i64 (q.y.cmp (Fq.ofInt 1)))]:List Vp)) (args:=[row [0,1,2,3]]) (vs:=[vq]) (r:=.v (.one (.b false)))
     (af (cO (kq:=[0,1,2,3]) (q:=q) (kr:=[0,1,2,3]) ⟨rfl,rfl,rfl,rfl,trivial⟩ ⟨rfl,rfl,rfl,rfl,trivial⟩ (hq.mono (by decide))) (af (ba (i:=0) (l:=.b true) rfl (lb gc.w) (hq.w.mono (by decide))) (af (ba (i:=1) (l:=.b true) rfl (lb gc.x) (hq.x.mono (by decide))) (af (ba (i:=2) (l:=.b true) rfl (lb gc.y) (hq.y.mono (by decide))) (af (ba (i:=3) (l:=.b true) rfl (lb gc.z) (hq.z.mono (by decide))) (af (bx (i:=0) rfl (li (eF c0)) (hq.w.mono (by decide))) (af (bx (i:=1) rfl (li (eF c1)) (hq.x.mono (by decide))) (af (bx (i:=2) rfl (lr (n:=15) rfl) (hq.y.mono (by decide))) (af (gr (k:=4) rfl (by decide) (by decide)) (af (cf (i:=2) (j:=4) rfl rfl (lr (n:=16) rfl) (hq.y.mono (by decide)) ((bE (u:=1) (by decide) (by decide)).mono (by decide))) ai))))))))))
     (ae (gn (n:=15) (c:=0) (t:=3) rfl (gt c2)) (ae (gT (n:=16) (c:=0) (t:=3) rfl (jE (mt (ce gc.y (aY 1)).1 (fun h=>hf (e1.trans h))))) (aj))) Tryz.func69 (by kernel_rfl) ⟨(ag (xs:=nX q) (ks:=[0,1,2,3]) (vs:=q.cs) ⟨rfl,rfl,rfl,rfl,trivial⟩).2 iq,trivial⟩).mono ?_
    rintro e w' ⟨v,rfl,h1,h2⟩
    exact⟨congrArg Ending.returned h1,h2⟩
  ·have e1:q.first=q.x:=by simp[Qq.first,c0,c1]
   refine(cRn (ρ:=frs (nY q)++([.val (.int .i64 q.x.sgn),.val (.int .i64 (q.x.cmp (Fq.ofInt 1)))]:List Vp)) (args:=[row [0,1,2,3]]) (vs:=[vq]) (r:=.v (.one (.b false)))
    (af (cO (kq:=[0,1,2,3]) (q:=q) (kr:=[0,1,2,3]) ⟨rfl,rfl,rfl,rfl,trivial⟩ ⟨rfl,rfl,rfl,rfl,trivial⟩ (hq.mono (by decide))) (af (ba (i:=0) (l:=.b true) rfl (lb gc.w) (hq.w.mono (by decide))) (af (ba (i:=1) (l:=.b true) rfl (lb gc.x) (hq.x.mono (by decide))) (af (ba (i:=2) (l:=.b true) rfl (lb gc.y) (hq.y.mono (by decide))) (af (ba (i:=3) (l:=.b true) rfl (lb gc.z) (hq.z.mono (by decide))) (af (bx (i:=0) rfl (li (eF c0)) (hq.w.mono (by decide))) (af (bx (i:=1) rfl (lr (n:=15) rfl) (hq.x.mono (by decide))) (af (gr (k:=4) rfl (by decide) (by decide)) (af (cf (i:=1) (j:=4) rfl rfl (lr (n:=16) rfl) (hq.x.mono (by decide)) ((bE (u:=1) (by decide) (by decide)).mono (by decide))) ai)))))))))
    (ae (gn (n:=15) (c:=0) (t:=3) rfl (gt c1)) (ae (gT (n:=16) (c:=0) (t:=3) rfl (jE (mt (ce gc.x (aY 1)).1 (fun h=>hf (e1.trans h))))) (aj))) Tryz.func69 (by kernel_rfl) ⟨(ag (xs:=nY q) (ks:=[0,1,2,3]) (vs:=q.cs) ⟨rfl,rfl,rfl,rfl,trivial⟩).2 iq,trivial⟩).mono ?_
   rintro e w' ⟨v,rfl,h1,h2⟩
   exact⟨congrArg Ending.returned h1,h2⟩
 ·have e1:q.first=q.w:=by simp[Qq.first,c0]
  refine(cRn (ρ:=frs (nZ q)++([.val (.int .i64 q.w.sgn),.val (.int .i64 (q.w.cmp (Fq.ofInt 1)))]:List Vp)) (args:=[row [0,1,2,3]]) (vs:=[vq]) (r:=.v (.one (.b false)))
   (af (cO (kq:=[0,1,2,3]) (q:=q) (kr:=[0,1,2,3]) ⟨rfl,rfl,rfl,rfl,trivial⟩ ⟨rfl,rfl,rfl,rfl,trivial⟩ (hq.mono (by decide))) (af (ba (i:=0) (l:=.b true) rfl (lb gc.w) (hq.w.mono (by decide))) (af (ba (i:=1) (l:=.b true) rfl (lb gc.x) (hq.x.mono (by decide))) (af (ba (i:=2) (l:=.b true) rfl (lb gc.y) (hq.y.mono (by decide))) (af (ba (i:=3) (l:=.b true) rfl (lb gc.z) (hq.z.mono (by decide))) (af (bx (i:=0) rfl (lr (n:=15) rfl) (hq.w.mono (by decide))) (af (gr (k:=4) rfl (by decide) (by decide)) (af (cf (i:=0) (j:=4) rfl rfl (lr (n:=16) rfl) (hq.w.mono (by decide)) ((bE (u:=1) (by decide) (by decide)).mono (by decide))) ai))))))))
   (ae (gn (n:=15) (c:=0) (t:=3) rfl (gt c0)) (ae (gT (n:=16) (c:=0) (t:=3) rfl (jE (mt (ce gc.w (aY 1)).1 (fun h=>hf (e1.trans h))))) (aj))) Tryz.func69 (by kernel_rfl) ⟨(ag (xs:=nZ q) (ks:=[0,1,2,3]) (vs:=q.cs) ⟨rfl,rfl,rfl,rfl,trivial⟩).2 iq,trivial⟩).mono ?_
  rintro e w' ⟨v,rfl,h1,h2⟩
  exact⟨congrArg Ending.returned h1,h2⟩
def pE (q:Qq):List Fq:=(q.cs++([q.first,(Fq.ofInt 1)]))
theorem pF (vq:Value) (q:Qq) (w:World) (iq:dM w vq q) (hq:q.ok 1000000) (gq:q.good):
  Calls Tryz.prog 51 #[vq] w fun e w'=>bH w (.bool true) e w':=by
 refine(cRn (ρ:=frs (pE q)++ []) (args:=[row [0,1,2,3]]) (vs:=[vq]) (r:=.v (.one (.b true)))
  (af (dU (i:=0) (l:=.b true) rfl (lb gq.comp.w) (hq.w.mono (by decide))) (af (dU (i:=1) (l:=.b true) rfl (lb gq.comp.x) (hq.x.mono (by decide))) (af (dU (i:=2) (l:=.b true) rfl (lb gq.comp.y) (hq.y.mono (by decide))) (af (dU (i:=3) (l:=.b true) rfl (lb gq.comp.z) (hq.z.mono (by decide))) (af (px (kq:=[0,1,2,3]) (q:=q) (ir:=4) ⟨rfl,rfl,rfl,rfl,trivial⟩ rfl (hq.mono (by decide))) (af (dS (k:=5) rfl (by decide) (by decide)) (af (bV (i:=4) (j:=5) (l:=.b true) rfl rfl (lb (Fq.same_iff.2 (ff gq))) (hq.first.mono (by decide)).p (hq.first.mono (by decide)).q ((bE (u:=1) (by decide) (by decide)).mono (by decide)).p ((bE (u:=1) (by decide) (by decide)).mono (by decide)).q) ai)))))))
  aj Tryz.func51 (by kernel_rfl) ⟨(ag (xs:=pE q) (ks:=[0,1,2,3]) (vs:=q.cs) ⟨rfl,rfl,rfl,rfl,trivial⟩).2 iq,trivial⟩).mono ?_
 rintro e w' ⟨v,rfl,h1,h2⟩
 exact⟨congrArg Ending.returned h1,h2⟩
theorem wK {xs:List Fq} {ys:Rho} {kq:List Nat} {q:Qq} (aq:AtL xs kq q.cs) (hq:q.ok 1000000) (gq:q.good):OkI xs ys ⟨51,[row kq],.v (.one (.b true))⟩:=
 ⟨aA Tryz.func51 rfl rfl,fun B w vs hB h=>by
  match vs,h with
  | [vq],h=>
   refine(pF vq q w ((ag aq).1 h.1) hq gq).mono ?_
   rintro e w' ⟨rfl,h2⟩
   exact⟨_,rfl,rfl,h2⟩⟩
def pG (q:Qq):List Fq:=(q.cs++([q.first,(Fq.ofInt 1)]))
theorem wL (vq:Value) (q:Qq) (w:World) (iq:dM w vq q) (hq:q.ok 1000000) (gc:q.comp) (hf:q.first≠(Fq.ofInt 1)):
  Calls Tryz.prog 51 #[vq] w fun e w'=>bH w (.bool false) e w':=by
 refine(cRn (ρ:=frs (pG q)++ []) (args:=[row [0,1,2,3]]) (vs:=[vq]) (r:=.v (.one (.b false)))
  (af (dU (i:=0) (l:=.b true) rfl (lb gc.w) (hq.w.mono (by decide))) (af (dU (i:=1) (l:=.b true) rfl (lb gc.x) (hq.x.mono (by decide))) (af (dU (i:=2) (l:=.b true) rfl (lb gc.y) (hq.y.mono (by decide))) (af (dU (i:=3) (l:=.b true) rfl (lb gc.z) (hq.z.mono (by decide))) (af (px (kq:=[0,1,2,3]) (q:=q) (ir:=4) ⟨rfl,rfl,rfl,rfl,trivial⟩ rfl (hq.mono (by decide))) (af (dS (k:=5) rfl (by decide) (by decide)) (af (bV (i:=4) (j:=5) (l:=.b false) rfl rfl (lb (eL hf)) (hq.first.mono (by decide)).p (hq.first.mono (by decide)).q ((bE (u:=1) (by decide) (by decide)).mono (by decide)).p ((bE (u:=1) (by decide) (by decide)).mono (by decide)).q) ai)))))))
  aj Tryz.func51 (by kernel_rfl) ⟨(ag (xs:=pG q) (ks:=[0,1,2,3]) (vs:=q.cs) ⟨rfl,rfl,rfl,rfl,trivial⟩).2 iq,trivial⟩).mono ?_
 rintro e w' ⟨v,rfl,h1,h2⟩
 exact⟨congrArg Ending.returned h1,h2⟩
end Go.Proofs.YtfhinmdhjlmikaaGreat
namespace Go.Proofs.YtfhinmdhjlmikaaGreat
set_option linter.unusedSimpArgs false
set_option linter.unusedVariables false
set_option maxRecDepth 100000
open Go.RowKit
/-- A pose: a rotation and a position. -/
structure Pq where
 rot:Qq
 pos:Vq
def Pq.cs (p:Pq):List Fq:=[p.rot.w,p.rot.x,p.rot.y,p.rot.z,p.pos.x,p.pos.y,p.pos.z]
structure Pq.ok (d:Nat) (p:Pq):Prop where
 rot:p.rot.ok d
 pos:p.pos.ok d
structure Pq.good (p:Pq):Prop where
 rot:p.rot.good
 pos:p.pos.good
def Pq.id:Pq:=⟨Qq.id,Vq.of 0 0 0⟩
def Pq.zero:Pq:=⟨Qq.zero,⟨.zero,.zero,.zero⟩⟩
/-- The image of a point. -/
def Pq.app (p:Pq) (v:Vq):Vq:=(p.rot.app v).add p.pos
/-- One after the other. -/
def Pq.mul (a b:Pq):Pq:=⟨a.rot.mul b.rot,a.app b.pos⟩
def Pq.inv (a:Pq):Pq:=⟨a.rot.inv,a.rot.inv.app (a.pos.scale (Fq.ofInt (-1)))⟩
theorem Pq.ok.mono {p:Pq} {d e:Nat} (h:p.ok d) (k:d≤e):p.ok e:=⟨h.rot.mono k,h.pos.mono k⟩
theorem Pq.good.app {p:Pq} {v:Vq} (h:p.good) (k:v.good):(p.app v).good:=(uq h.rot k).add h.pos
theorem Pq.good.mul {a b:Pq} (h:a.good) (k:b.good):(a.mul b).good:=⟨ig h.rot k.rot,h.app k.pos⟩
theorem Pq.good.inv {a:Pq} (h:a.good):a.inv.good:=⟨bM h.rot,uq (bM h.rot) (h.pos.scale (aY _))⟩
theorem Pq.good.id:Pq.id.good:=⟨id_good,Vq.good.of 0 0 0⟩
theorem Pq.ok.app {p:Pq} {v:Vq} {d e:Nat} (h:p.ok d) (k:v.ok e) (g:p.good):(p.app v).ok (700*(d+e)+300):=((h.rot.app k g.rot).add h.pos).mono (by omega)
theorem Pq.ok.mul {a b:Pq} {d e:Nat} (h:a.ok d) (k:b.ok e) (g:a.good) (l:b.good):(a.mul b).ok (700*(d+e)+300):=⟨(h.rot.mulg k.rot g.rot l.rot).mono (by omega),h.app k.pos g⟩
theorem Pq.ok.inv {a:Pq} {d:Nat} (h:a.ok d) (g:a.good):a.inv.ok (1000*d+3000):=⟨(h.rot.inv g.rot).mono (by omega),((h.rot.inv g.rot).app (h.pos.scale (bE (by decide) (by decide))) (bM g.rot)).mono (by omega)⟩
theorem Pq.ok.id:Pq.id.ok 2:=⟨ok_id,wH (by decide) (by decide) (by decide) (by decide) (by decide) (by decide)⟩
abbrev dA (w:World) (v:Value) (p:Pq):Prop:=IsL w v [p.rot.w.raw,p.rot.x.raw,p.rot.y.raw,p.rot.z.raw,p.pos.x.raw,p.pos.y.raw,p.pos.z.raw]
abbrev uu (W:World) (p:Pq) (e:Ending) (w':World):Prop:=RetL W [p.rot.w.raw,p.rot.x.raw,p.rot.y.raw,p.rot.z.raw,p.pos.x.raw,p.pos.y.raw,p.pos.z.raw] e w'
abbrev sA (W:World) (p:Pq) (c:Int) (e:Ending) (w':World):Prop:=RetLE W [p.rot.w.raw,p.rot.x.raw,p.rot.y.raw,p.rot.z.raw,p.pos.x.raw,p.pos.y.raw,p.pos.z.raw] c e w'
def ng (a:Vq) (b:Vq):List Fq:=[a.x,a.y,a.z,b.x,b.y,b.z]
theorem aac (va vb:Value) (a:Vq) (b:Vq) (w:World) (ia:de w va a) (ib:de w vb b) (ha:a.ok 100000000) (hb:b.ok 100000000) (e0:a=b) (ga:a.good) (gb:b.good):
  Calls Tryz.prog 72 #[va,vb] w fun e w'=>bH w (.bool true) e w':=by
 refine(cRn (ρ:=frs (ng a b)++ []) (args:=[row [0,1,2],row [3,4,5]]) (vs:=[va,vb]) (r:=.v (.one (.b true)))
  (af (cf (i:=0) (j:=3) rfl rfl (li ((ce ga.x gb.x).2 (congrArg Vq.x e0))) (ha.x.mono (by decide)) (hb.x.mono (by decide))) (af (cf (i:=1) (j:=4) rfl rfl (li ((ce ga.y gb.y).2 (congrArg Vq.y e0))) (ha.y.mono (by decide)) (hb.y.mono (by decide))) (af (cf (i:=2) (j:=5) rfl rfl (li ((ce ga.z gb.z).2 (congrArg Vq.z e0))) (ha.z.mono (by decide)) (hb.z.mono (by decide))) ai)))
  aj Tryz.func72 (by kernel_rfl) ⟨(ag (xs:=ng a b) (ks:=[0,1,2]) (vs:=[a.x,a.y,a.z]) ⟨rfl,rfl,rfl,trivial⟩).2 ia,⟨(ag (xs:=ng a b) (ks:=[3,4,5]) (vs:=[b.x,b.y,b.z]) ⟨rfl,rfl,rfl,trivial⟩).2 ib,trivial⟩⟩).mono ?_
 rintro e w' ⟨v,rfl,h1,h2⟩
 exact⟨congrArg Ending.returned h1,h2⟩
theorem aad {xs:List Fq} {ys:Rho} {ka:List Nat} {kb:List Nat} {a:Vq} {b:Vq} (aa:AtL xs ka [a.x,a.y,a.z]) (ab:AtL xs kb [b.x,b.y,b.z]) (ha:a.ok 100000000) (hb:b.ok 100000000) (e0:a=b) (ga:a.good) (gb:b.good):OkI xs ys ⟨72,[row ka,row kb],.v (.one (.b true))⟩:=
 ⟨aA Tryz.func72 rfl rfl,fun B w vs hB h=>by
  match vs,h with
  | [va,vb],h=>
   refine(aac va vb a b w ((ag aa).1 h.1) ((ag ab).1 h.2.1) ha hb e0 ga gb).mono ?_
   rintro e w' ⟨rfl,h2⟩
   exact⟨_,rfl,rfl,h2⟩⟩
def nh (a:Vq) (b:Vq):List Fq:=[a.x,a.y,a.z,b.x,b.y,b.z]
def kY (a:Vq) (b:Vq):List Fq:=[a.x,a.y,a.z,b.x,b.y,b.z]
def kZ (a:Vq) (b:Vq):List Fq:=[a.x,a.y,a.z,b.x,b.y,b.z]
theorem aae (va vb:Value) (a:Vq) (b:Vq) (w:World) (ia:de w va a) (ib:de w vb b) (ha:a.ok 100000000) (hb:b.ok 100000000) (e0:a≠b) (ga:a.good) (gb:b.good):
  Calls Tryz.prog 72 #[va,vb] w fun e w'=>bH w (.bool false) e w':=by
 by_cases c0:a.x=b.x
 ·by_cases c1:a.y=b.y
  ·by_cases c2:a.z=b.z
   ·exact absurd (by cases a;cases b;simp only at c0 c1 c2;subst c0 c1 c2;rfl) e0
   ·refine(cRn (ρ:=frs (nh a b)++([.val (.int .i64 (a.z.cmp b.z))]:List Vp)) (args:=[row [0,1,2],row [3,4,5]]) (vs:=[va,vb]) (r:=.v (.one (.b false)))
     (af (cf (i:=0) (j:=3) rfl rfl (li ((ce ga.x gb.x).2 c0)) (ha.x.mono (by decide)) (hb.x.mono (by decide))) (af (cf (i:=1) (j:=4) rfl rfl (li ((ce ga.y gb.y).2 c1)) (ha.y.mono (by decide)) (hb.y.mono (by decide))) (af (cf (i:=2) (j:=5) rfl rfl (lr (n:=18) rfl) (ha.z.mono (by decide)) (hb.z.mono (by decide))) ai)))
     (ae (rW (n:=18) (c:=0) (u:=(a.z.cmp b.z)) (b:=false) (t:=3) rfl (jE (mt (ce ga.z gb.z).1 c2))) (aj)) Tryz.func72 (by kernel_rfl) ⟨(ag (xs:=nh a b) (ks:=[0,1,2]) (vs:=[a.x,a.y,a.z]) ⟨rfl,rfl,rfl,trivial⟩).2 ia,⟨(ag (xs:=nh a b) (ks:=[3,4,5]) (vs:=[b.x,b.y,b.z]) ⟨rfl,rfl,rfl,trivial⟩).2 ib,trivial⟩⟩).mono ?_
    rintro e w' ⟨v,rfl,h1,h2⟩
    exact⟨congrArg Ending.returned h1,h2⟩
  ·refine(cRn (ρ:=frs (kY a b)++([.val (.int .i64 (a.y.cmp b.y))]:List Vp)) (args:=[row [0,1,2],row [3,4,5]]) (vs:=[va,vb]) (r:=.v (.one (.b false)))
    (af (cf (i:=0) (j:=3) rfl rfl (li ((ce ga.x gb.x).2 c0)) (ha.x.mono (by decide)) (hb.x.mono (by decide))) (af (cf (i:=1) (j:=4) rfl rfl (lr (n:=18) rfl) (ha.y.mono (by decide)) (hb.y.mono (by decide))) ai))
    (ae (rW (n:=18) (c:=0) (u:=(a.y.cmp b.y)) (b:=false) (t:=3) rfl (jE (mt (ce ga.y gb.y).1 c1))) (aj)) Tryz.func72 (by kernel_rfl) ⟨(ag (xs:=kY a b) (ks:=[0,1,2]) (vs:=[a.x,a.y,a.z]) ⟨rfl,rfl,rfl,trivial⟩).2 ia,⟨(ag (xs:=kY a b) (ks:=[3,4,5]) (vs:=[b.x,b.y,b.z]) ⟨rfl,rfl,rfl,trivial⟩).2 ib,trivial⟩⟩).mono ?_
   rintro e w' ⟨v,rfl,h1,h2⟩
   exact⟨congrArg Ending.returned h1,h2⟩
 ·refine(cRn (ρ:=frs (kZ a b)++([.val (.int .i64 (a.x.cmp b.x))]:List Vp)) (args:=[row [0,1,2],row [3,4,5]]) (vs:=[va,vb]) (r:=.v (.one (.b false)))
   (af (cf (i:=0) (j:=3) rfl rfl (lr (n:=18) rfl) (ha.x.mono (by decide)) (hb.x.mono (by decide))) ai)
   (ae (rW (n:=18) (c:=0) (u:=(a.x.cmp b.x)) (b:=false) (t:=3) rfl (jE (mt (ce ga.x gb.x).1 c0))) (aj)) Tryz.func72 (by kernel_rfl) ⟨(ag (xs:=kZ a b) (ks:=[0,1,2]) (vs:=[a.x,a.y,a.z]) ⟨rfl,rfl,rfl,trivial⟩).2 ia,⟨(ag (xs:=kZ a b) (ks:=[3,4,5]) (vs:=[b.x,b.y,b.z]) ⟨rfl,rfl,rfl,trivial⟩).2 ib,trivial⟩⟩).mono ?_
  rintro e w' ⟨v,rfl,h1,h2⟩
  exact⟨congrArg Ending.returned h1,h2⟩
theorem aaf {xs:List Fq} {ys:Rho} {ka:List Nat} {kb:List Nat} {a:Vq} {b:Vq} (aa:AtL xs ka [a.x,a.y,a.z]) (ab:AtL xs kb [b.x,b.y,b.z]) (ha:a.ok 100000000) (hb:b.ok 100000000) (e0:a≠b) (ga:a.good) (gb:b.good):OkI xs ys ⟨72,[row ka,row kb],.v (.one (.b false))⟩:=
 ⟨aA Tryz.func72 rfl rfl,fun B w vs hB h=>by
  match vs,h with
  | [va,vb],h=>
   refine(aae va vb a b w ((ag aa).1 h.1) ((ag ab).1 h.2.1) ha hb e0 ga gb).mono ?_
   rintro e w' ⟨rfl,h2⟩
   exact⟨_,rfl,rfl,h2⟩⟩
def mn (a:Vq) (b:Vq) (k:Fq):List Fq:=[a.x,a.y,a.z,b.x,b.y,b.z,k,(b.sub a).x,(b.sub a).y,(b.sub a).z,((b.sub a).scale k).x,((b.sub a).scale k).y,((b.sub a).scale k).z,(a.add ((b.sub a).scale k)).x,(a.add ((b.sub a).scale k)).y,(a.add ((b.sub a).scale k)).z]
theorem q_vLerp (va vb vk:Value) (a:Vq) (b:Vq) (k:Fq) (w:World) (ia:de w va a) (ib:de w vb b) (ik:IsQ w vk k) (ha:a.ok 10000000) (hb:b.ok 10000000) (hk:k.ok 10000000):
  Calls Tryz.prog 67 #[va,vb,vk] w fun e w'=>eB w (a.lerp b k) e w':=by
 refine(cRn (ρ:=frs (mn a b k)++ []) (args:=[row [0,1,2],row [3,4,5],fr 6]) (vs:=[va,vb,vk]) (r:=.v (row [13,14,15]))
  (af (I_vSub (ka:=[3,4,5]) (a:=b) (kb:=[0,1,2]) (b:=a) (kr:=[7,8,9]) ⟨rfl,rfl,rfl,trivial⟩ ⟨rfl,rfl,rfl,trivial⟩ ⟨rfl,rfl,rfl,trivial⟩ (hb.mono (by decide)) (ha.mono (by decide))) (af (jF (ka:=[7,8,9]) (a:=(b.sub a)) (ik:=6) (kr:=[10,11,12]) ⟨rfl,rfl,rfl,trivial⟩ rfl ⟨rfl,rfl,rfl,trivial⟩ ((hb.sub ha).mono (by decide)) (hk.mono (by decide))) (af (wD (ka:=[0,1,2]) (a:=a) (kb:=[10,11,12]) (b:=((b.sub a).scale k)) (kr:=[13,14,15]) ⟨rfl,rfl,rfl,trivial⟩ ⟨rfl,rfl,rfl,trivial⟩ ⟨rfl,rfl,rfl,trivial⟩ (ha.mono (by decide)) (((hb.sub ha).scale hk).mono (by decide))) ai)))
  aj Tryz.func67 (by kernel_rfl) ⟨(ag (xs:=mn a b k) (ks:=[0,1,2]) (vs:=[a.x,a.y,a.z]) ⟨rfl,rfl,rfl,trivial⟩).2 ia,⟨(ag (xs:=mn a b k) (ks:=[3,4,5]) (vs:=[b.x,b.y,b.z]) ⟨rfl,rfl,rfl,trivial⟩).2 ib,⟨(aL (xs:=mn a b k) (k:=6) rfl).2 ik,trivial⟩⟩⟩).mono ?_
 rintro e w' ⟨v,rfl,h1,h2⟩
 exact⟨v,rfl,(ag (xs:=mn a b k) (ks:=[13,14,15]) (vs:=[(a.add ((b.sub a).scale k)).x,(a.add ((b.sub a).scale k)).y,(a.add ((b.sub a).scale k)).z]) ⟨rfl,rfl,rfl,trivial⟩).1 h1,h2⟩
theorem I_vLerp {xs:List Fq} {ys:Rho} {ka:List Nat} {kb:List Nat} {ik:Nat} {a:Vq} {b:Vq} {k:Fq} {kr:List Nat} (aa:AtL xs ka [a.x,a.y,a.z]) (ab:AtL xs kb [b.x,b.y,b.z]) (ak:xs[ik]? =some k) (ar:AtL xs kr [(a.lerp b k).x,(a.lerp b k).y,(a.lerp b k).z]) (ha:a.ok 10000000) (hb:b.ok 10000000) (hk:k.ok 10000000):OkI xs ys ⟨67,[row ka,row kb,fr ik],.v (row kr)⟩:=
 ⟨aA Tryz.func67 rfl rfl,fun B w vs hB h=>by
  match vs,h with
  | [va,vb,vk],h=>
   refine(q_vLerp va vb vk a b k w ((ag aa).1 h.1) ((ag ab).1 h.2.1) ((aL ak).1 h.2.2.1) ha hb hk).mono ?_
   rintro e w' ⟨v,rfl,h1,h2⟩
   exact⟨v,rfl,(ag ar).2 h1,h2⟩⟩
def uv (a:Vq):List Fq:=[a.x,a.y,a.z]
theorem q_vValid (va:Value) (a:Vq) (w:World) (ia:de w va a) (ha:a.ok 1000000) (ga:a.good):
  Calls Tryz.prog 70 #[va] w fun e w'=>bH w (.bool true) e w':=by
 refine(cRn (ρ:=frs (uv a)++ []) (args:=[row [0,1,2]]) (vs:=[va]) (r:=.v (.one (.b true)))
  (af (ba (i:=0) (l:=.b true) rfl (lb ga.x) (ha.x.mono (by decide))) (af (ba (i:=1) (l:=.b true) rfl (lb ga.y) (ha.y.mono (by decide))) (af (ba (i:=2) (l:=.b true) rfl (lb ga.z) (ha.z.mono (by decide))) ai)))
  aj Tryz.func70 (by kernel_rfl) ⟨(ag (xs:=uv a) (ks:=[0,1,2]) (vs:=[a.x,a.y,a.z]) ⟨rfl,rfl,rfl,trivial⟩).2 ia,trivial⟩).mono ?_
 rintro e w' ⟨v,rfl,h1,h2⟩
 exact⟨congrArg Ending.returned h1,h2⟩
theorem I_vValid {xs:List Fq} {ys:Rho} {ka:List Nat} {a:Vq} (aa:AtL xs ka [a.x,a.y,a.z]) (ha:a.ok 1000000) (ga:a.good):OkI xs ys ⟨70,[row ka],.v (.one (.b true))⟩:=
 ⟨aA Tryz.func70 rfl rfl,fun B w vs hB h=>by
  match vs,h with
  | [va],h=>
   refine(q_vValid va a w ((ag aa).1 h.1) ha ga).mono ?_
   rintro e w' ⟨rfl,h2⟩
   exact⟨_,rfl,rfl,h2⟩⟩
def oM (a:Vq) (b:Vq):List Fq:=[a.x,a.y,a.z,b.x,b.y,b.z,(a.x.add b.x),(a.y.add b.y),(a.z.add b.z)]
theorem q_r4Add (va vb:Value) (a:Vq) (b:Vq) (w:World) (ia:de w va a) (ib:de w vb b) (ha:a.ok 100000000) (hb:b.ok 100000000):
  Calls Tryz.prog 56 #[va,vb] w fun e w'=>eB w (a.add b) e w':=by
 refine(cRn (ρ:=frs (oM a b)++ []) (args:=[row [0,1,2],row [3,4,5]]) (vs:=[va,vb]) (r:=.v (row [6,7,8]))
  (af (jD (i:=0) (j:=3) (k:=6) rfl rfl rfl (ha.x.mono (by decide)) (hb.x.mono (by decide))) (af (jD (i:=1) (j:=4) (k:=7) rfl rfl rfl (ha.y.mono (by decide)) (hb.y.mono (by decide))) (af (jD (i:=2) (j:=5) (k:=8) rfl rfl rfl (ha.z.mono (by decide)) (hb.z.mono (by decide))) ai)))
  aj Tryz.func56 (by kernel_rfl) ⟨(ag (xs:=oM a b) (ks:=[0,1,2]) (vs:=[a.x,a.y,a.z]) ⟨rfl,rfl,rfl,trivial⟩).2 ia,⟨(ag (xs:=oM a b) (ks:=[3,4,5]) (vs:=[b.x,b.y,b.z]) ⟨rfl,rfl,rfl,trivial⟩).2 ib,trivial⟩⟩).mono ?_
 rintro e w' ⟨v,rfl,h1,h2⟩
 exact⟨v,rfl,(ag (xs:=oM a b) (ks:=[6,7,8]) (vs:=[(a.x.add b.x),(a.y.add b.y),(a.z.add b.z)]) ⟨rfl,rfl,rfl,trivial⟩).1 h1,h2⟩
theorem I_r4Add {xs:List Fq} {ys:Rho} {ka:List Nat} {kb:List Nat} {a:Vq} {b:Vq} {kr:List Nat} (aa:AtL xs ka [a.x,a.y,a.z]) (ab:AtL xs kb [b.x,b.y,b.z]) (ar:AtL xs kr [(a.add b).x,(a.add b).y,(a.add b).z]) (ha:a.ok 100000000) (hb:b.ok 100000000):OkI xs ys ⟨56,[row ka,row kb],.v (row kr)⟩:=
 ⟨aA Tryz.func56 rfl rfl,fun B w vs hB h=>by
  match vs,h with
  | [va,vb],h=>
   refine(q_r4Add va vb a b w ((ag aa).1 h.1) ((ag ab).1 h.2.1) ha hb).mono ?_
   rintro e w' ⟨v,rfl,h1,h2⟩
   exact⟨v,rfl,(ag ar).2 h1,h2⟩⟩
def oN (a:Vq) (b:Vq):List Fq:=[a.x,a.y,a.z,b.x,b.y,b.z,(a.x.sub b.x),(a.y.sub b.y),(a.z.sub b.z)]
theorem q_r4Sub (va vb:Value) (a:Vq) (b:Vq) (w:World) (ia:de w va a) (ib:de w vb b) (ha:a.ok 100000000) (hb:b.ok 100000000):
  Calls Tryz.prog 58 #[va,vb] w fun e w'=>eB w (a.sub b) e w':=by
 refine(cRn (ρ:=frs (oN a b)++ []) (args:=[row [0,1,2],row [3,4,5]]) (vs:=[va,vb]) (r:=.v (row [6,7,8]))
  (af (kR (i:=0) (j:=3) (k:=6) rfl rfl rfl (ha.x.mono (by decide)) (hb.x.mono (by decide))) (af (kR (i:=1) (j:=4) (k:=7) rfl rfl rfl (ha.y.mono (by decide)) (hb.y.mono (by decide))) (af (kR (i:=2) (j:=5) (k:=8) rfl rfl rfl (ha.z.mono (by decide)) (hb.z.mono (by decide))) ai)))
  aj Tryz.func58 (by kernel_rfl) ⟨(ag (xs:=oN a b) (ks:=[0,1,2]) (vs:=[a.x,a.y,a.z]) ⟨rfl,rfl,rfl,trivial⟩).2 ia,⟨(ag (xs:=oN a b) (ks:=[3,4,5]) (vs:=[b.x,b.y,b.z]) ⟨rfl,rfl,rfl,trivial⟩).2 ib,trivial⟩⟩).mono ?_
 rintro e w' ⟨v,rfl,h1,h2⟩
 exact⟨v,rfl,(ag (xs:=oN a b) (ks:=[6,7,8]) (vs:=[(a.x.sub b.x),(a.y.sub b.y),(a.z.sub b.z)]) ⟨rfl,rfl,rfl,trivial⟩).1 h1,h2⟩
theorem I_r4Sub {xs:List Fq} {ys:Rho} {ka:List Nat} {kb:List Nat} {a:Vq} {b:Vq} {kr:List Nat} (aa:AtL xs ka [a.x,a.y,a.z]) (ab:AtL xs kb [b.x,b.y,b.z]) (ar:AtL xs kr [(a.sub b).x,(a.sub b).y,(a.sub b).z]) (ha:a.ok 100000000) (hb:b.ok 100000000):OkI xs ys ⟨58,[row ka,row kb],.v (row kr)⟩:=
 ⟨aA Tryz.func58 rfl rfl,fun B w vs hB h=>by
  match vs,h with
  | [va,vb],h=>
   refine(q_r4Sub va vb a b w ((ag aa).1 h.1) ((ag ab).1 h.2.1) ha hb).mono ?_
   rintro e w' ⟨v,rfl,h1,h2⟩
   exact⟨v,rfl,(ag ar).2 h1,h2⟩⟩
def kj (a:Vq) (k:Fq):List Fq:=[a.x,a.y,a.z,k,(a.x.mul k),(a.y.mul k),(a.z.mul k)]
theorem aag (va vk:Value) (a:Vq) (k:Fq) (w:World) (ia:de w va a) (ik:IsQ w vk k) (ha:a.ok 100000000) (hk:k.ok 100000000):
  Calls Tryz.prog 57 #[va,vk] w fun e w'=>eB w (a.scale k) e w':=by
 refine(cRn (ρ:=frs (kj a k)++ []) (args:=[row [0,1,2],fr 3]) (vs:=[va,vk]) (r:=.v (row [4,5,6]))
  (af (d8 (i:=0) (j:=3) (k:=4) rfl rfl rfl (ha.x.mono (by decide)) (hk.mono (by decide))) (af (d8 (i:=1) (j:=3) (k:=5) rfl rfl rfl (ha.y.mono (by decide)) (hk.mono (by decide))) (af (d8 (i:=2) (j:=3) (k:=6) rfl rfl rfl (ha.z.mono (by decide)) (hk.mono (by decide))) ai)))
  aj Tryz.func57 (by kernel_rfl) ⟨(ag (xs:=kj a k) (ks:=[0,1,2]) (vs:=[a.x,a.y,a.z]) ⟨rfl,rfl,rfl,trivial⟩).2 ia,⟨(aL (xs:=kj a k) (k:=3) rfl).2 ik,trivial⟩⟩).mono ?_
 rintro e w' ⟨v,rfl,h1,h2⟩
 exact⟨v,rfl,(ag (xs:=kj a k) (ks:=[4,5,6]) (vs:=[(a.x.mul k),(a.y.mul k),(a.z.mul k)]) ⟨rfl,rfl,rfl,trivial⟩).1 h1,h2⟩
theorem aah {xs:List Fq} {ys:Rho} {ka:List Nat} {ik:Nat} {a:Vq} {k:Fq} {kr:List Nat} (aa:AtL xs ka [a.x,a.y,a.z]) (ak:xs[ik]? =some k) (ar:AtL xs kr [(a.scale k).x,(a.scale k).y,(a.scale k).z]) (ha:a.ok 100000000) (hk:k.ok 100000000):OkI xs ys ⟨57,[row ka,fr ik],.v (row kr)⟩:=
 ⟨aA Tryz.func57 rfl rfl,fun B w vs hB h=>by
  match vs,h with
  | [va,vk],h=>
   refine(aag va vk a k w ((ag aa).1 h.1) ((aL ak).1 h.2.1) ha hk).mono ?_
   rintro e w' ⟨v,rfl,h1,h2⟩
   exact⟨v,rfl,(ag ar).2 h1,h2⟩⟩
def lf (a:Vq) (b:Vq):List Fq:=[a.x,a.y,a.z,b.x,b.y,b.z]
theorem wM (va vb:Value) (a:Vq) (b:Vq) (w:World) (ia:de w va a) (ib:de w vb b) (ha:a.ok 1000000000) (hb:b.ok 1000000000) (e0:a=b):
  Calls Tryz.prog 23 #[va,vb] w fun e w'=>bH w (.bool true) e w':=by
 refine(cRn (ρ:=frs (lf a b)++ []) (args:=[row [0,1,2],row [3,4,5]]) (vs:=[va,vb]) (r:=.v (.one (.b true)))
  (af (bV (i:=0) (j:=3) (l:=.b true) rfl rfl (lb (Fq.same_iff.2 (congrArg Vq.x e0))) (ha.x.mono (by decide)).p (ha.x.mono (by decide)).q (hb.x.mono (by decide)).p (hb.x.mono (by decide)).q) (af (bV (i:=1) (j:=4) (l:=.b true) rfl rfl (lb (Fq.same_iff.2 (congrArg Vq.y e0))) (ha.y.mono (by decide)).p (ha.y.mono (by decide)).q (hb.y.mono (by decide)).p (hb.y.mono (by decide)).q) (af (bV (i:=2) (j:=5) (l:=.b true) rfl rfl (lb (Fq.same_iff.2 (congrArg Vq.z e0))) (ha.z.mono (by decide)).p (ha.z.mono (by decide)).q (hb.z.mono (by decide)).p (hb.z.mono (by decide)).q) ai)))
  aj Tryz.func23 (by kernel_rfl) ⟨(ag (xs:=lf a b) (ks:=[0,1,2]) (vs:=[a.x,a.y,a.z]) ⟨rfl,rfl,rfl,trivial⟩).2 ia,⟨(ag (xs:=lf a b) (ks:=[3,4,5]) (vs:=[b.x,b.y,b.z]) ⟨rfl,rfl,rfl,trivial⟩).2 ib,trivial⟩⟩).mono ?_
 rintro e w' ⟨v,rfl,h1,h2⟩
 exact⟨congrArg Ending.returned h1,h2⟩
theorem pH {xs:List Fq} {ys:Rho} {ka:List Nat} {kb:List Nat} {a:Vq} {b:Vq} (aa:AtL xs ka [a.x,a.y,a.z]) (ab:AtL xs kb [b.x,b.y,b.z]) (ha:a.ok 1000000000) (hb:b.ok 1000000000) (e0:a=b):OkI xs ys ⟨23,[row ka,row kb],.v (.one (.b true))⟩:=
 ⟨aA Tryz.func23 rfl rfl,fun B w vs hB h=>by
  match vs,h with
  | [va,vb],h=>
   refine(wM va vb a b w ((ag aa).1 h.1) ((ag ab).1 h.2.1) ha hb e0).mono ?_
   rintro e w' ⟨rfl,h2⟩
   exact⟨_,rfl,rfl,h2⟩⟩
def lg (a:Vq) (b:Vq):List Fq:=[a.x,a.y,a.z,b.x,b.y,b.z]
def jH (a:Vq) (b:Vq):List Fq:=[a.x,a.y,a.z,b.x,b.y,b.z]
def jI (a:Vq) (b:Vq):List Fq:=[a.x,a.y,a.z,b.x,b.y,b.z]
theorem wN (va vb:Value) (a:Vq) (b:Vq) (w:World) (ia:de w va a) (ib:de w vb b) (ha:a.ok 1000000000) (hb:b.ok 1000000000) (e0:a≠b):
  Calls Tryz.prog 23 #[va,vb] w fun e w'=>bH w (.bool false) e w':=by
 by_cases c0:a.x=b.x
 ·by_cases c1:a.y=b.y
  ·by_cases c2:a.z=b.z
   ·exact absurd (by cases a;cases b;simp only at c0 c1 c2;subst c0 c1 c2;rfl) e0
   ·refine(cRn (ρ:=frs (lg a b)++ []) (args:=[row [0,1,2],row [3,4,5]]) (vs:=[va,vb]) (r:=.v (.one (.b false)))
     (af (bV (i:=0) (j:=3) (l:=.b true) rfl rfl (lb (Fq.same_iff.2 c0)) (ha.x.mono (by decide)).p (ha.x.mono (by decide)).q (hb.x.mono (by decide)).p (hb.x.mono (by decide)).q) (af (bV (i:=1) (j:=4) (l:=.b true) rfl rfl (lb (Fq.same_iff.2 c1)) (ha.y.mono (by decide)).p (ha.y.mono (by decide)).q (hb.y.mono (by decide)).p (hb.y.mono (by decide)).q) (af (bV (i:=2) (j:=5) (l:=.b false) rfl rfl (lb (eL c2)) (ha.z.mono (by decide)).p (ha.z.mono (by decide)).q (hb.z.mono (by decide)).p (hb.z.mono (by decide)).q) ai)))
     aj Tryz.func23 (by kernel_rfl) ⟨(ag (xs:=lg a b) (ks:=[0,1,2]) (vs:=[a.x,a.y,a.z]) ⟨rfl,rfl,rfl,trivial⟩).2 ia,⟨(ag (xs:=lg a b) (ks:=[3,4,5]) (vs:=[b.x,b.y,b.z]) ⟨rfl,rfl,rfl,trivial⟩).2 ib,trivial⟩⟩).mono ?_
    rintro e w' ⟨v,rfl,h1,h2⟩
    exact⟨congrArg Ending.returned h1,h2⟩
  ·refine(cRn (ρ:=frs (jH a b)++ []) (args:=[row [0,1,2],row [3,4,5]]) (vs:=[va,vb]) (r:=.v (.one (.b false)))
    (af (bV (i:=0) (j:=3) (l:=.b true) rfl rfl (lb (Fq.same_iff.2 c0)) (ha.x.mono (by decide)).p (ha.x.mono (by decide)).q (hb.x.mono (by decide)).p (hb.x.mono (by decide)).q) (af (bV (i:=1) (j:=4) (l:=.b false) rfl rfl (lb (eL c1)) (ha.y.mono (by decide)).p (ha.y.mono (by decide)).q (hb.y.mono (by decide)).p (hb.y.mono (by decide)).q) ai))
    aj Tryz.func23 (by kernel_rfl) ⟨(ag (xs:=jH a b) (ks:=[0,1,2]) (vs:=[a.x,a.y,a.z]) ⟨rfl,rfl,rfl,trivial⟩).2 ia,⟨(ag (xs:=jH a b) (ks:=[3,4,5]) (vs:=[b.x,b.y,b.z]) ⟨rfl,rfl,rfl,trivial⟩).2 ib,trivial⟩⟩).mono ?_
   rintro e w' ⟨v,rfl,h1,h2⟩
   exact⟨congrArg Ending.returned h1,h2⟩
 ·refine(cRn (ρ:=frs (jI a b)++ []) (args:=[row [0,1,2],row [3,4,5]]) (vs:=[va,vb]) (r:=.v (.one (.b false)))
   (af (bV (i:=0) (j:=3) (l:=.b false) rfl rfl (lb (eL c0)) (ha.x.mono (by decide)).p (ha.x.mono (by decide)).q (hb.x.mono (by decide)).p (hb.x.mono (by decide)).q) ai)
   aj Tryz.func23 (by kernel_rfl) ⟨(ag (xs:=jI a b) (ks:=[0,1,2]) (vs:=[a.x,a.y,a.z]) ⟨rfl,rfl,rfl,trivial⟩).2 ia,⟨(ag (xs:=jI a b) (ks:=[3,4,5]) (vs:=[b.x,b.y,b.z]) ⟨rfl,rfl,rfl,trivial⟩).2 ib,trivial⟩⟩).mono ?_
  rintro e w' ⟨v,rfl,h1,h2⟩
  exact⟨congrArg Ending.returned h1,h2⟩
theorem wO {xs:List Fq} {ys:Rho} {ka:List Nat} {kb:List Nat} {a:Vq} {b:Vq} (aa:AtL xs ka [a.x,a.y,a.z]) (ab:AtL xs kb [b.x,b.y,b.z]) (ha:a.ok 1000000000) (hb:b.ok 1000000000) (e0:a≠b):OkI xs ys ⟨23,[row ka,row kb],.v (.one (.b false))⟩:=
 ⟨aA Tryz.func23 rfl rfl,fun B w vs hB h=>by
  match vs,h with
  | [va,vb],h=>
   refine(wN va vb a b w ((ag aa).1 h.1) ((ag ab).1 h.2.1) ha hb e0).mono ?_
   rintro e w' ⟨rfl,h2⟩
   exact⟨_,rfl,rfl,h2⟩⟩
def jJ (a:Vq) (b:Vq) (k:Fq):List Fq:=[a.x,a.y,a.z,b.x,b.y,b.z,k,(b.sub a).x,(b.sub a).y,(b.sub a).z,((b.sub a).scale k).x,((b.sub a).scale k).y,((b.sub a).scale k).z,(a.add ((b.sub a).scale k)).x,(a.add ((b.sub a).scale k)).y,(a.add ((b.sub a).scale k)).z]
theorem q_r4Lerp (va vb vk:Value) (a:Vq) (b:Vq) (k:Fq) (w:World) (ia:de w va a) (ib:de w vb b) (ik:IsQ w vk k) (ha:a.ok 10000000) (hb:b.ok 10000000) (hk:k.ok 10000000):
  Calls Tryz.prog 24 #[va,vb,vk] w fun e w'=>eB w (a.lerp b k) e w':=by
 refine(cRn (ρ:=frs (jJ a b k)++ []) (args:=[row [0,1,2],row [3,4,5],fr 6]) (vs:=[va,vb,vk]) (r:=.v (row [13,14,15]))
  (af (I_r4Sub (ka:=[3,4,5]) (a:=b) (kb:=[0,1,2]) (b:=a) (kr:=[7,8,9]) ⟨rfl,rfl,rfl,trivial⟩ ⟨rfl,rfl,rfl,trivial⟩ ⟨rfl,rfl,rfl,trivial⟩ (hb.mono (by decide)) (ha.mono (by decide))) (af (aah (ka:=[7,8,9]) (a:=(b.sub a)) (ik:=6) (kr:=[10,11,12]) ⟨rfl,rfl,rfl,trivial⟩ rfl ⟨rfl,rfl,rfl,trivial⟩ ((hb.sub ha).mono (by decide)) (hk.mono (by decide))) (af (I_r4Add (ka:=[0,1,2]) (a:=a) (kb:=[10,11,12]) (b:=((b.sub a).scale k)) (kr:=[13,14,15]) ⟨rfl,rfl,rfl,trivial⟩ ⟨rfl,rfl,rfl,trivial⟩ ⟨rfl,rfl,rfl,trivial⟩ (ha.mono (by decide)) (((hb.sub ha).scale hk).mono (by decide))) ai)))
  aj Tryz.func24 (by kernel_rfl) ⟨(ag (xs:=jJ a b k) (ks:=[0,1,2]) (vs:=[a.x,a.y,a.z]) ⟨rfl,rfl,rfl,trivial⟩).2 ia,⟨(ag (xs:=jJ a b k) (ks:=[3,4,5]) (vs:=[b.x,b.y,b.z]) ⟨rfl,rfl,rfl,trivial⟩).2 ib,⟨(aL (xs:=jJ a b k) (k:=6) rfl).2 ik,trivial⟩⟩⟩).mono ?_
 rintro e w' ⟨v,rfl,h1,h2⟩
 exact⟨v,rfl,(ag (xs:=jJ a b k) (ks:=[13,14,15]) (vs:=[(a.add ((b.sub a).scale k)).x,(a.add ((b.sub a).scale k)).y,(a.add ((b.sub a).scale k)).z]) ⟨rfl,rfl,rfl,trivial⟩).1 h1,h2⟩
theorem I_r4Lerp {xs:List Fq} {ys:Rho} {ka:List Nat} {kb:List Nat} {ik:Nat} {a:Vq} {b:Vq} {k:Fq} {kr:List Nat} (aa:AtL xs ka [a.x,a.y,a.z]) (ab:AtL xs kb [b.x,b.y,b.z]) (ak:xs[ik]? =some k) (ar:AtL xs kr [(a.lerp b k).x,(a.lerp b k).y,(a.lerp b k).z]) (ha:a.ok 10000000) (hb:b.ok 10000000) (hk:k.ok 10000000):OkI xs ys ⟨24,[row ka,row kb,fr ik],.v (row kr)⟩:=
 ⟨aA Tryz.func24 rfl rfl,fun B w vs hB h=>by
  match vs,h with
  | [va,vb,vk],h=>
   refine(q_r4Lerp va vb vk a b k w ((ag aa).1 h.1) ((ag ab).1 h.2.1) ((aL ak).1 h.2.2.1) ha hb hk).mono ?_
   rintro e w' ⟨v,rfl,h1,h2⟩
   exact⟨v,rfl,(ag ar).2 h1,h2⟩⟩
def rj (a:Vq):List Fq:=[a.x,a.y,a.z]
theorem aai (va:Value) (a:Vq) (w:World) (ia:de w va a) (ha:a.ok 1000000) (ga:a.good):
  Calls Tryz.prog 52 #[va] w fun e w'=>bH w (.bool true) e w':=by
 refine(cRn (ρ:=frs (rj a)++ []) (args:=[row [0,1,2]]) (vs:=[va]) (r:=.v (.one (.b true)))
  (af (dU (i:=0) (l:=.b true) rfl (lb ga.x) (ha.x.mono (by decide))) (af (dU (i:=1) (l:=.b true) rfl (lb ga.y) (ha.y.mono (by decide))) (af (dU (i:=2) (l:=.b true) rfl (lb ga.z) (ha.z.mono (by decide))) ai)))
  aj Tryz.func52 (by kernel_rfl) ⟨(ag (xs:=rj a) (ks:=[0,1,2]) (vs:=[a.x,a.y,a.z]) ⟨rfl,rfl,rfl,trivial⟩).2 ia,trivial⟩).mono ?_
 rintro e w' ⟨v,rfl,h1,h2⟩
 exact⟨congrArg Ending.returned h1,h2⟩
theorem aaj {xs:List Fq} {ys:Rho} {ka:List Nat} {a:Vq} (aa:AtL xs ka [a.x,a.y,a.z]) (ha:a.ok 1000000) (ga:a.good):OkI xs ys ⟨52,[row ka],.v (.one (.b true))⟩:=
 ⟨aA Tryz.func52 rfl rfl,fun B w vs hB h=>by
  match vs,h with
  | [va],h=>
   refine(aai va a w ((ag aa).1 h.1) ha ga).mono ?_
   rintro e w' ⟨rfl,h2⟩
   exact⟨_,rfl,rfl,h2⟩⟩
def pI (a:Pq):List Fq:=a.cs
theorem q_poPose (va:Value) (a:Pq) (w:World) (ia:dA w va a) (ha:a.ok 1000000000):
  Calls Tryz.prog 68 #[va] w fun e w'=>uu w a e w':=by
 refine(cRn (ρ:=frs (pI a)++ []) (args:=[row [0,1,2,3,4,5,6]]) (vs:=[va]) (r:=.v (row [0,1,2,3,4,5,6]))
  (ai)
  aj Tryz.func68 (by kernel_rfl) ⟨(ag (xs:=pI a) (ks:=[0,1,2,3,4,5,6]) (vs:=a.cs) ⟨rfl,rfl,rfl,rfl,rfl,rfl,rfl,trivial⟩).2 ia,trivial⟩).mono ?_
 rintro e w' ⟨v,rfl,h1,h2⟩
 exact⟨v,rfl,(ag (xs:=pI a) (ks:=[0,1,2,3,4,5,6]) (vs:=a.cs) ⟨rfl,rfl,rfl,rfl,rfl,rfl,rfl,trivial⟩).1 h1,h2⟩
theorem I_poPose {xs:List Fq} {ys:Rho} {ka:List Nat} {a:Pq} {kr:List Nat} (aa:AtL xs ka a.cs) (ar:AtL xs kr a.cs) (ha:a.ok 1000000000):OkI xs ys ⟨68,[row ka],.v (row kr)⟩:=
 ⟨aA Tryz.func68 rfl rfl,fun B w vs hB h=>by
  match vs,h with
  | [va],h=>
   refine(q_poPose va a w ((ag aa).1 h.1) ha).mono ?_
   rintro e w' ⟨v,rfl,h1,h2⟩
   exact⟨v,rfl,(ag ar).2 h1,h2⟩⟩
def lh (a:Pq) (b:Pq):List Fq:=(a.cs++(b.cs))
theorem wP (va vb:Value) (a:Pq) (b:Pq) (w:World) (ia:dA w va a) (ib:dA w vb b) (ha:a.ok 100000000) (hb:b.ok 100000000) (e0:a=b) (ga:a.good) (gb:b.good):
  Calls Tryz.prog 46 #[va,vb] w fun e w'=>bH w (.bool true) e w':=by
 refine(cRn (ρ:=frs (lh a b)++ []) (args:=[row [0,1,2,3,4,5,6],row [7,8,9,10,11,12,13]]) (vs:=[va,vb]) (r:=.v (.one (.b true)))
  (af (rh (ka:=[0,1,2,3]) (a:=a.rot) (kb:=[7,8,9,10]) (b:=b.rot) ⟨rfl,rfl,rfl,rfl,trivial⟩ ⟨rfl,rfl,rfl,rfl,trivial⟩ (ha.rot.mono (by decide)) (hb.rot.mono (by decide)) (congrArg Pq.rot e0) ga.rot.comp gb.rot.comp) (af (aad (ka:=[4,5,6]) (a:=a.pos) (kb:=[11,12,13]) (b:=b.pos) ⟨rfl,rfl,rfl,trivial⟩ ⟨rfl,rfl,rfl,trivial⟩ (ha.pos.mono (by decide)) (hb.pos.mono (by decide)) (congrArg Pq.pos e0) ga.pos gb.pos) ai))
  aj Tryz.func46 (by kernel_rfl) ⟨(ag (xs:=lh a b) (ks:=[0,1,2,3,4,5,6]) (vs:=a.cs) ⟨rfl,rfl,rfl,rfl,rfl,rfl,rfl,trivial⟩).2 ia,⟨(ag (xs:=lh a b) (ks:=[7,8,9,10,11,12,13]) (vs:=b.cs) ⟨rfl,rfl,rfl,rfl,rfl,rfl,rfl,trivial⟩).2 ib,trivial⟩⟩).mono ?_
 rintro e w' ⟨v,rfl,h1,h2⟩
 exact⟨congrArg Ending.returned h1,h2⟩
theorem wQ {xs:List Fq} {ys:Rho} {ka:List Nat} {kb:List Nat} {a:Pq} {b:Pq} (aa:AtL xs ka a.cs) (ab:AtL xs kb b.cs) (ha:a.ok 100000000) (hb:b.ok 100000000) (e0:a=b) (ga:a.good) (gb:b.good):OkI xs ys ⟨46,[row ka,row kb],.v (.one (.b true))⟩:=
 ⟨aA Tryz.func46 rfl rfl,fun B w vs hB h=>by
  match vs,h with
  | [va,vb],h=>
   refine(wP va vb a b w ((ag aa).1 h.1) ((ag ab).1 h.2.1) ha hb e0 ga gb).mono ?_
   rintro e w' ⟨rfl,h2⟩
   exact⟨_,rfl,rfl,h2⟩⟩
def lj (a:Pq) (b:Pq):List Fq:=(a.cs++(b.cs))
def jK (a:Pq) (b:Pq):List Fq:=(a.cs++(b.cs))
theorem wR (va vb:Value) (a:Pq) (b:Pq) (w:World) (ia:dA w va a) (ib:dA w vb b) (ha:a.ok 100000000) (hb:b.ok 100000000) (e0:a≠b) (ga:a.good) (gb:b.good):
  Calls Tryz.prog 46 #[va,vb] w fun e w'=>bH w (.bool false) e w':=by
 by_cases c0:a.rot=b.rot
 ·by_cases c1:a.pos=b.pos
  ·exact absurd (by cases a;cases b;simp only at c0 c1;subst c0 c1;rfl) e0
  ·refine(cRn (ρ:=frs (lj a b)++ []) (args:=[row [0,1,2,3,4,5,6],row [7,8,9,10,11,12,13]]) (vs:=[va,vb]) (r:=.v (.one (.b false)))
    (af (rh (ka:=[0,1,2,3]) (a:=a.rot) (kb:=[7,8,9,10]) (b:=b.rot) ⟨rfl,rfl,rfl,rfl,trivial⟩ ⟨rfl,rfl,rfl,rfl,trivial⟩ (ha.rot.mono (by decide)) (hb.rot.mono (by decide)) c0 ga.rot.comp gb.rot.comp) (af (aaf (ka:=[4,5,6]) (a:=a.pos) (kb:=[11,12,13]) (b:=b.pos) ⟨rfl,rfl,rfl,trivial⟩ ⟨rfl,rfl,rfl,trivial⟩ (ha.pos.mono (by decide)) (hb.pos.mono (by decide)) c1 ga.pos gb.pos) ai))
    aj Tryz.func46 (by kernel_rfl) ⟨(ag (xs:=lj a b) (ks:=[0,1,2,3,4,5,6]) (vs:=a.cs) ⟨rfl,rfl,rfl,rfl,rfl,rfl,rfl,trivial⟩).2 ia,⟨(ag (xs:=lj a b) (ks:=[7,8,9,10,11,12,13]) (vs:=b.cs) ⟨rfl,rfl,rfl,rfl,rfl,rfl,rfl,trivial⟩).2 ib,trivial⟩⟩).mono ?_
   rintro e w' ⟨v,rfl,h1,h2⟩
   exact⟨congrArg Ending.returned h1,h2⟩
 ·refine(cRn (ρ:=frs (jK a b)++ []) (args:=[row [0,1,2,3,4,5,6],row [7,8,9,10,11,12,13]]) (vs:=[va,vb]) (r:=.v (.one (.b false)))
   (af (aab (ka:=[0,1,2,3]) (a:=a.rot) (kb:=[7,8,9,10]) (b:=b.rot) ⟨rfl,rfl,rfl,rfl,trivial⟩ ⟨rfl,rfl,rfl,rfl,trivial⟩ (ha.rot.mono (by decide)) (hb.rot.mono (by decide)) c0 ga.rot.comp gb.rot.comp) ai)
   aj Tryz.func46 (by kernel_rfl) ⟨(ag (xs:=jK a b) (ks:=[0,1,2,3,4,5,6]) (vs:=a.cs) ⟨rfl,rfl,rfl,rfl,rfl,rfl,rfl,trivial⟩).2 ia,⟨(ag (xs:=jK a b) (ks:=[7,8,9,10,11,12,13]) (vs:=b.cs) ⟨rfl,rfl,rfl,rfl,rfl,rfl,rfl,trivial⟩).2 ib,trivial⟩⟩).mono ?_
  rintro e w' ⟨v,rfl,h1,h2⟩
  exact⟨congrArg Ending.returned h1,h2⟩
theorem wS {xs:List Fq} {ys:Rho} {ka:List Nat} {kb:List Nat} {a:Pq} {b:Pq} (aa:AtL xs ka a.cs) (ab:AtL xs kb b.cs) (ha:a.ok 100000000) (hb:b.ok 100000000) (e0:a≠b) (ga:a.good) (gb:b.good):OkI xs ys ⟨46,[row ka,row kb],.v (.one (.b false))⟩:=
 ⟨aA Tryz.func46 rfl rfl,fun B w vs hB h=>by
  match vs,h with
  | [va,vb],h=>
   refine(wR va vb a b w ((ag aa).1 h.1) ((ag ab).1 h.2.1) ha hb e0 ga gb).mono ?_
   rintro e w' ⟨rfl,h2⟩
   exact⟨_,rfl,rfl,h2⟩⟩
def rk (a:Pq):List Fq:=a.cs
theorem aak (va:Value) (a:Pq) (w:World) (ia:dA w va a) (ha:a.ok 1000000) (ga:a.good):
  Calls Tryz.prog 44 #[va] w fun e w'=>bH w (.bool true) e w':=by
 refine(cRn (ρ:=frs (rk a)++ []) (args:=[row [0,1,2,3,4,5,6]]) (vs:=[va]) (r:=.v (.one (.b true)))
  (af (wI (kq:=[0,1,2,3]) (q:=a.rot) ⟨rfl,rfl,rfl,rfl,trivial⟩ (ha.rot.mono (by decide)) ga.rot) (af (I_vValid (ka:=[4,5,6]) (a:=a.pos) ⟨rfl,rfl,rfl,trivial⟩ (ha.pos.mono (by decide)) ga.pos) ai))
  aj Tryz.func44 (by kernel_rfl) ⟨(ag (xs:=rk a) (ks:=[0,1,2,3,4,5,6]) (vs:=a.cs) ⟨rfl,rfl,rfl,rfl,rfl,rfl,rfl,trivial⟩).2 ia,trivial⟩).mono ?_
 rintro e w' ⟨v,rfl,h1,h2⟩
 exact⟨congrArg Ending.returned h1,h2⟩
theorem cS {xs:List Fq} {ys:Rho} {ka:List Nat} {a:Pq} (aa:AtL xs ka a.cs) (ha:a.ok 1000000) (ga:a.good):OkI xs ys ⟨44,[row ka],.v (.one (.b true))⟩:=
 ⟨aA Tryz.func44 rfl rfl,fun B w vs hB h=>by
  match vs,h with
  | [va],h=>
   refine(aak va a w ((ag aa).1 h.1) ha ga).mono ?_
   rintro e w' ⟨rfl,h2⟩
   exact⟨_,rfl,rfl,h2⟩⟩
def ll (a:Pq) (b:Pq):List Fq:=(a.cs++(b.cs))
theorem lm (va vb:Value) (a:Pq) (b:Pq) (w:World) (ia:dA w va a) (ib:dA w vb b) (ha:a.ok 100000000) (hb:b.ok 100000000) (e0:a=b):
  Calls Tryz.prog 15 #[va,vb] w fun e w'=>bH w (.bool true) e w':=by
 refine(cRn (ρ:=frs (ll a b)++ []) (args:=[row [0,1,2,3,4,5,6],row [7,8,9,10,11,12,13]]) (vs:=[va,vb]) (r:=.v (.one (.b true)))
  (af (rg (ka:=[0,1,2,3]) (a:=a.rot) (kb:=[7,8,9,10]) (b:=b.rot) ⟨rfl,rfl,rfl,rfl,trivial⟩ ⟨rfl,rfl,rfl,rfl,trivial⟩ (ha.rot.mono (by decide)) (hb.rot.mono (by decide)) (congrArg Pq.rot e0)) (af (pH (ka:=[4,5,6]) (a:=a.pos) (kb:=[11,12,13]) (b:=b.pos) ⟨rfl,rfl,rfl,trivial⟩ ⟨rfl,rfl,rfl,trivial⟩ (ha.pos.mono (by decide)) (hb.pos.mono (by decide)) (congrArg Pq.pos e0)) ai))
  aj Tryz.func15 (by kernel_rfl) ⟨(ag (xs:=ll a b) (ks:=[0,1,2,3,4,5,6]) (vs:=a.cs) ⟨rfl,rfl,rfl,rfl,rfl,rfl,rfl,trivial⟩).2 ia,⟨(ag (xs:=ll a b) (ks:=[7,8,9,10,11,12,13]) (vs:=b.cs) ⟨rfl,rfl,rfl,rfl,rfl,rfl,rfl,trivial⟩).2 ib,trivial⟩⟩).mono ?_
 rintro e w' ⟨v,rfl,h1,h2⟩
 exact⟨congrArg Ending.returned h1,h2⟩
theorem wT {xs:List Fq} {ys:Rho} {ka:List Nat} {kb:List Nat} {a:Pq} {b:Pq} (aa:AtL xs ka a.cs) (ab:AtL xs kb b.cs) (ha:a.ok 100000000) (hb:b.ok 100000000) (e0:a=b):OkI xs ys ⟨15,[row ka,row kb],.v (.one (.b true))⟩:=
 ⟨aA Tryz.func15 rfl rfl,fun B w vs hB h=>by
  match vs,h with
  | [va,vb],h=>
   refine(lm va vb a b w ((ag aa).1 h.1) ((ag ab).1 h.2.1) ha hb e0).mono ?_
   rintro e w' ⟨rfl,h2⟩
   exact⟨_,rfl,rfl,h2⟩⟩
def ln (a:Pq) (b:Pq):List Fq:=(a.cs++(b.cs))
def jL (a:Pq) (b:Pq):List Fq:=(a.cs++(b.cs))
theorem wU (va vb:Value) (a:Pq) (b:Pq) (w:World) (ia:dA w va a) (ib:dA w vb b) (ha:a.ok 100000000) (hb:b.ok 100000000) (e0:a≠b):
  Calls Tryz.prog 15 #[va,vb] w fun e w'=>bH w (.bool false) e w':=by
 by_cases c0:a.rot=b.rot
 ·by_cases c1:a.pos=b.pos
  ·exact absurd (by cases a;cases b;simp only at c0 c1;subst c0 c1;rfl) e0
  ·refine(cRn (ρ:=frs (ln a b)++ []) (args:=[row [0,1,2,3,4,5,6],row [7,8,9,10,11,12,13]]) (vs:=[va,vb]) (r:=.v (.one (.b false)))
    (af (rg (ka:=[0,1,2,3]) (a:=a.rot) (kb:=[7,8,9,10]) (b:=b.rot) ⟨rfl,rfl,rfl,rfl,trivial⟩ ⟨rfl,rfl,rfl,rfl,trivial⟩ (ha.rot.mono (by decide)) (hb.rot.mono (by decide)) c0) (af (wO (ka:=[4,5,6]) (a:=a.pos) (kb:=[11,12,13]) (b:=b.pos) ⟨rfl,rfl,rfl,trivial⟩ ⟨rfl,rfl,rfl,trivial⟩ (ha.pos.mono (by decide)) (hb.pos.mono (by decide)) c1) ai))
    aj Tryz.func15 (by kernel_rfl) ⟨(ag (xs:=ln a b) (ks:=[0,1,2,3,4,5,6]) (vs:=a.cs) ⟨rfl,rfl,rfl,rfl,rfl,rfl,rfl,trivial⟩).2 ia,⟨(ag (xs:=ln a b) (ks:=[7,8,9,10,11,12,13]) (vs:=b.cs) ⟨rfl,rfl,rfl,rfl,rfl,rfl,rfl,trivial⟩).2 ib,trivial⟩⟩).mono ?_
   rintro e w' ⟨v,rfl,h1,h2⟩
   exact⟨congrArg Ending.returned h1,h2⟩
 ·refine(cRn (ρ:=frs (jL a b)++ []) (args:=[row [0,1,2,3,4,5,6],row [7,8,9,10,11,12,13]]) (vs:=[va,vb]) (r:=.v (.one (.b false)))
   (af (z8 (ka:=[0,1,2,3]) (a:=a.rot) (kb:=[7,8,9,10]) (b:=b.rot) ⟨rfl,rfl,rfl,rfl,trivial⟩ ⟨rfl,rfl,rfl,rfl,trivial⟩ (ha.rot.mono (by decide)) (hb.rot.mono (by decide)) c0) ai)
   aj Tryz.func15 (by kernel_rfl) ⟨(ag (xs:=jL a b) (ks:=[0,1,2,3,4,5,6]) (vs:=a.cs) ⟨rfl,rfl,rfl,rfl,rfl,rfl,rfl,trivial⟩).2 ia,⟨(ag (xs:=jL a b) (ks:=[7,8,9,10,11,12,13]) (vs:=b.cs) ⟨rfl,rfl,rfl,rfl,rfl,rfl,rfl,trivial⟩).2 ib,trivial⟩⟩).mono ?_
  rintro e w' ⟨v,rfl,h1,h2⟩
  exact⟨congrArg Ending.returned h1,h2⟩
theorem wV {xs:List Fq} {ys:Rho} {ka:List Nat} {kb:List Nat} {a:Pq} {b:Pq} (aa:AtL xs ka a.cs) (ab:AtL xs kb b.cs) (ha:a.ok 100000000) (hb:b.ok 100000000) (e0:a≠b):OkI xs ys ⟨15,[row ka,row kb],.v (.one (.b false))⟩:=
 ⟨aA Tryz.func15 rfl rfl,fun B w vs hB h=>by
  match vs,h with
  | [va,vb],h=>
   refine(wU va vb a b w ((ag aa).1 h.1) ((ag ab).1 h.2.1) ha hb e0).mono ?_
   rintro e w' ⟨rfl,h2⟩
   exact⟨_,rfl,rfl,h2⟩⟩
def rl (a:Pq):List Fq:=a.cs
theorem aal (va:Value) (a:Pq) (w:World) (ia:dA w va a) (ha:a.ok 1000000) (ga:a.good):
  Calls Tryz.prog 21 #[va] w fun e w'=>bH w (.bool true) e w':=by
 refine(cRn (ρ:=frs (rl a)++ []) (args:=[row [0,1,2,3,4,5,6]]) (vs:=[va]) (r:=.v (.one (.b true)))
  (af (wK (kq:=[0,1,2,3]) (q:=a.rot) ⟨rfl,rfl,rfl,rfl,trivial⟩ (ha.rot.mono (by decide)) ga.rot) (af (aaj (ka:=[4,5,6]) (a:=a.pos) ⟨rfl,rfl,rfl,trivial⟩ (ha.pos.mono (by decide)) ga.pos) ai))
  aj Tryz.func21 (by kernel_rfl) ⟨(ag (xs:=rl a) (ks:=[0,1,2,3,4,5,6]) (vs:=a.cs) ⟨rfl,rfl,rfl,rfl,rfl,rfl,rfl,trivial⟩).2 ia,trivial⟩).mono ?_
 rintro e w' ⟨v,rfl,h1,h2⟩
 exact⟨congrArg Ending.returned h1,h2⟩
theorem cT {xs:List Fq} {ys:Rho} {ka:List Nat} {a:Pq} (aa:AtL xs ka a.cs) (ha:a.ok 1000000) (ga:a.good):OkI xs ys ⟨21,[row ka],.v (.one (.b true))⟩:=
 ⟨aA Tryz.func21 rfl rfl,fun B w vs hB h=>by
  match vs,h with
  | [va],h=>
   refine(aal va a w ((ag aa).1 h.1) ha ga).mono ?_
   rintro e w' ⟨rfl,h2⟩
   exact⟨_,rfl,rfl,h2⟩⟩
end Go.Proofs.YtfhinmdhjlmikaaGreat
