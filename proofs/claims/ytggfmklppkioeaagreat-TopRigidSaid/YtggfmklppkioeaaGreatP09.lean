/- The plain law of rotations, in fractions. The plain law of rotations: images, ways, from one vector to another. How large the parts of vectors and rotations become. Arms, facts about the examples, Same. Rows of fractions in memory: vectors, quaternions, arrays of fractions. An executor: fractions and rows of fractions. An executor: what the functions of package fraction and of the reference give. Vectors, by the executor. Rotations, by the executor. Make and canonical of rotations, by the executor. -/
import Derived.Test.YtggfmklppkioeaaGreatP08
namespace Go.Proofs.YtggfmklppkioeaaGreat
set_option linter.unusedSimpArgs false
set_option linter.unusedVariables false
set_option maxRecDepth 100000
open Go.RowKit
structure Qq where
 w:Fq
 x:Fq
 y:Fq
 z:Fq
def Qq.r (q:Qq):QR:=⟨q.w.v,q.x.v,q.y.v,q.z.v⟩
def Qq.axis (q:Qq):Vq:=⟨q.x,q.y,q.z⟩
def Vq.r (a:Vq):VR:=⟨a.x.v,a.y.v,a.z.v⟩
structure Qq.comp (q:Qq):Prop where
 w:q.w.valid=true
 x:q.x.valid=true
 y:q.y.valid=true
 z:q.z.valid=true
theorem Qq.comp.axis {q:Qq} (h:q.comp):q.axis.good:=⟨h.x,h.y,h.z⟩
def Qq.first (q:Qq):Fq:=if q.w.p≠0 then q.w else if q.x.p≠0 then q.x else if q.y.p≠0 then q.y else q.z
def Qq.over (q:Qq) (n:Fq):Qq:=⟨q.w.div n,q.x.div n,q.y.div n,q.z.div n⟩
def Qq.zero:Qq:=⟨.zero,.zero,.zero,.zero⟩
def Qq.canon (q:Qq):Qq:=if q.first.p=0 then .zero else q.over q.first
structure Qq.good (q:Qq):Prop where
 comp:q.comp
 one:q.first.v=1
def Qq.id:Qq:=⟨.ofInt 1,.ofInt 0,.ofInt 0,.ofInt 0⟩
section
variable {p q:Qq}
theorem Qq.comp.first (h:q.comp):q.first.valid=true:=by
 unfold Qq.first;split
 ·exact h.w
 ·split
  ·exact h.x
  ·split
   ·exact h.y
   ·exact h.z
theorem Qq.comp.over (h:q.comp) {n:Fq} (hn:n.p≠0):(q.over n).comp:=⟨go h.w hn,go h.x hn,go h.y hn,go h.z hn⟩
theorem ul {a n:Fq} (ha:a.valid=true) (hn:n.valid=true) (h0:n.p≠0):(a.div n).v=a.v / n.v:=v_div (Fq.valid.n ha) (Fq.valid.n hn) h0
theorem p_v {a:Fq} (ha:a.valid=true):a.v=0↔a.p=0:=v_eq0 (Fq.valid.n ha)
theorem over_r (h:q.comp) {n:Fq} (hn:n.valid=true) (h0:n.p≠0):(q.over n).r=QR.smul (n.v)⁻¹ q.r:=by
 unfold Qq.r Qq.over QR.smul;simp only;rw[ul h.w hn h0,ul h.x hn h0,ul h.y hn h0,ul h.z hn h0]
 ext<;>simp only[Rat.div_def]<;>grind
theorem iH (h:q.comp):q.first.p≠0↔q.r.nrm≠0:=by
 rw[show(q.r.nrm≠0)↔_ from not_congr nrm_zero];unfold Qq.r Qq.first;simp only;have h1:=p_v h.w;have h2:=p_v h.x;have h3:=p_v h.y;have h4:=p_v h.z;by_cases c1:q.w.p=0
 ·rw[if_neg (by simpa using c1)];by_cases c2:q.x.p=0
  ·rw[if_neg (by simpa using c2)];by_cases c3:q.y.p=0
   ·rw[if_neg (by simpa using c3)];constructor
    ·intro c h;exact c (h4.1 h.2.2.2)
    ·intro c h;exact c ⟨h1.2 c1,h2.2 c2,h3.2 c3,h4.2 h⟩
   ·rw[if_pos c3];exact⟨fun _ h=>c3 (h3.1 h.2.2.1),fun _=>c3⟩
  ·rw[if_pos c2];exact⟨fun _ h=>c2 (h2.1 h.2.1),fun _=>c2⟩
 ·rw[if_pos c1];exact⟨fun _ h=>c1 (h1.1 h.1),fun _=>c1⟩
theorem sk {k:Rat} (hk:k≠0):k⁻¹≠0:=fun h=>by have h1:=Rat.inv_mul_cancel k hk;rw[h]at h1;grind
theorem mq (h:q.comp) (h0:q.first.p≠0):Sim q.r q.canon.r:=by
 unfold Qq.canon;rw[if_neg h0];exact⟨_,sk (fun e=>h0 ((p_v h.first).1 e)),over_r h h.first h0⟩
def QR.fst (a:QR):Rat:=if a.w≠0 then a.w else if a.x≠0 then a.x else if a.y≠0 then a.y else a.z
theorem lf (h:q.comp):q.first.v=q.r.fst:=by
 unfold Qq.first QR.fst Qq.r;simp only;have h1:=p_v h.w;have h2:=p_v h.x;have h3:=p_v h.y;by_cases c1:q.w.p=0
 ·have d1:=h1.2 c1;simp only[c1,d1,ne_eq,not_true_eq_false,if_false];by_cases c2:q.x.p=0
  ·have d2:=h2.2 c2;simp only[c2,d2,not_true_eq_false,if_false];by_cases c3:q.y.p=0
   ·have d3:=h3.2 c3;simp only[c3,d3,not_true_eq_false,if_false]
   ·have d3:¬q.y.v=0:=fun e=>c3 (h3.1 e)
    simp only[c3,d3,not_false_eq_true,if_true]
  ·have d2:¬q.x.v=0:=fun e=>c2 (h2.1 e)
   simp only[c2,d2,not_false_eq_true,if_true]
 ·have d1:¬q.w.v=0:=fun e=>c1 (h1.1 e)
  simp only[c1,d1,ne_eq,not_false_eq_true,if_true]
theorem oR (k:Rat) (hk:k≠0) (a:QR):(QR.smul k a).fst=k*a.fst:=by
 unfold QR.fst QR.smul;simp only;have hz:∀r:Rat,k*r≠0↔r≠0:=fun r=>⟨fun h e=>h (by rw[e];grind),fun h=>dX hk h⟩
 by_cases c1:a.w≠0
 ·rw[if_pos ((hz _).2 c1),if_pos c1]
 ·rw[if_neg (fun h=>c1 ((hz _).1 h)),if_neg c1];by_cases c2:a.x≠0
  ·rw[if_pos ((hz _).2 c2),if_pos c2]
  ·rw[if_neg (fun h=>c2 ((hz _).1 h)),if_neg c2];by_cases c3:a.y≠0
   ·rw[if_pos ((hz _).2 c3),if_pos c3]
   ·rw[if_neg (fun h=>c3 ((hz _).1 h)),if_neg c3]
theorem dY (h:q.comp) (h0:q.first.p≠0):q.canon.good:=by
 have hc:q.canon.comp:=by unfold Qq.canon;rw[if_neg h0];exact h.over h0
 refine⟨hc,?_⟩;have hn:q.first.v≠0:=fun e=>h0 ((p_v h.first).1 e)
 rw[lf hc];have e:q.canon.r=QR.smul (q.first.v)⁻¹ q.r:=by unfold Qq.canon;rw[if_neg h0];exact over_r h h.first h0
 rw[e,oR _ (sk hn),←lf h,Rat.inv_mul_cancel _ hn]
theorem um (hp:p.good) (hq:q.good) (h:Sim p.r q.r):p=q:=by
 obtain⟨k,hk,e⟩:=h;have h1:=hp.one;have h2:=hq.one;rw[lf hp.comp]at h1;rw[lf hq.comp,e,oR k hk,h1]at h2;obtain rfl:k=1:=by grind
 have e1:=congrArg QR.w e;have e2:=congrArg QR.x e;have e3:=congrArg QR.y e;have e4:=congrArg QR.z e;unfold QR.smul Qq.r at e1 e2 e3 e4;simp only at e1 e2 e3 e4;have f1:=gn hp.comp.w hq.comp.w (by grind);have f2:=gn hp.comp.x hq.comp.x (by grind);have f3:=gn hp.comp.y hq.comp.y (by grind);have f4:=gn hp.comp.z hq.comp.z (by grind);cases p;cases q;simp only at f1 f2 f3 f4;subst f1;subst f2;subst f3;subst f4;rfl
theorem dK (h:q.good):q.r.nrm≠0:=(iH h.comp).1 (fun e=>by have h1:=(p_v h.comp.first).2 e;rw[h.one]at h1;exact absurd h1 (by decide))
theorem nN:Qq.id.good:=by
 refine⟨⟨aG 1,aG 0,aG 0,aG 0⟩,?_⟩;have e:Qq.id.first=Fq.ofInt 1:=rfl;rw[e,da];rfl
theorem id_r:Qq.id.r=QR.one:=by unfold Qq.id Qq.r QR.one;simp only[da];rfl
def Qq.hamV (p q:Qq):Vq:=((q.axis.scale p.w).add (p.axis.scale q.w)).add (p.axis.cross q.axis)
def Qq.hamW (p q:Qq):Fq:=(p.w.mul q.w).sub (p.axis.dot q.axis)
def Qq.ham (p q:Qq):Qq:=⟨p.hamW q,(p.hamV q).x,(p.hamV q).y,(p.hamV q).z⟩
def Qq.mul (p q:Qq):Qq:=(p.ham q).canon
def Qq.inv (q:Qq):Qq:=(Qq.mk q.w (q.axis.scale (.ofInt (-1))).x (q.axis.scale (.ofInt (-1))).y (q.axis.scale (.ofInt (-1))).z).canon
def Qq.inv' (q:Qq):Qq:=(Qq.mk q.w q.x.neg q.y.neg q.z.neg).canon
theorem mr (hp:p.comp) (hq:q.comp):(p.hamV q).good:=((hq.axis.scale hp.w).add (hp.axis.scale hq.w)).add (hp.axis.cross hq.axis)
theorem oS (hp:p.comp) (hq:q.comp):(p.ham q).comp:=⟨db (aK hp.w hq.w) (cA hp.axis hq.axis),(mr hp hq).x,(mr hp hq).y,(mr hp hq).z⟩
theorem ham_r (hp:p.comp) (hq:q.comp):(p.ham q).r=p.r.mul q.r:=by
 have h1:=v_s (aK hp.w hq.w) (cA hp.axis hq.axis);have h2:=v_m hp.w hq.w;have h3:=uj hp.axis hq.axis;have h4:=el hq.axis hp.w;have h5:=el hp.axis hq.w;have h6:=yi hp.axis hq.axis;have h7:=mX (hq.axis.scale hp.w) (hp.axis.scale hq.w);have h8:=mX ((hq.axis.scale hp.w).add (hp.axis.scale hq.w)) (hp.axis.cross hq.axis);unfold Qq.ham Qq.r QR.mul;simp only
 ext<;>simp only
 ·unfold Qq.hamW;rw[h1,h2,h3];rfl
 ·unfold Qq.hamV;rw[h8.1,h7.1,h4.1,h5.1,h6.1];rfl
 ·unfold Qq.hamV;rw[h8.2.1,h7.2.1,h4.2.1,h5.2.1,h6.2.1];rfl
 ·unfold Qq.hamV;rw[h8.2.2,h7.2.2,h4.2.2,h5.2.2,h6.2.2];rfl
theorem sn (hp:p.good) (hq:q.good):(p.ham q).first.p≠0:=by
 rw[iH (oS hp.comp hq.comp),ham_r hp.comp hq.comp,nrm_mul];exact dX (dK hp) (dK hq)
theorem fg (hp:p.good) (hq:q.good):(p.mul q).good:=dY (oS hp.comp hq.comp) (sn hp hq)
theorem yj (hp:p.good) (hq:q.good):Sim (p.r.mul q.r) (p.mul q).r:=by
 have h:=mq (oS hp.comp hq.comp) (sn hp hq);rw[ham_r hp.comp hq.comp]at h;exact h
theorem wn (hq:q.comp):Qq.mk q.w (q.axis.scale (.ofInt (-1))).x (q.axis.scale (.ofInt (-1))).y (q.axis.scale (.ofInt (-1))).z=Qq.mk q.w q.x.neg q.y.neg q.z.neg:=by
 have h:=el hq.axis (aG (-1));have hg:=hq.axis.scale (aG (-1));have h1:=da (-1);rw[h1]at h;have e1:=gn hg.x (dW hq.x) (by rw[h.1,ui];show q.x.v*_=_;grind);have e2:=gn hg.y (dW hq.y) (by rw[h.2.1,ui];show q.y.v*_=_;grind);have e3:=gn hg.z (dW hq.z) (by rw[h.2.2,ui];show q.z.v*_=_;grind);rw[e1,e2,e3]
theorem uo (hq:q.comp):q.inv=q.inv':=by unfold Qq.inv Qq.inv';rw[wn hq]
theorem mu (hq:q.comp):(Qq.mk q.w q.x.neg q.y.neg q.z.neg).comp:=⟨hq.w,dW hq.x,dW hq.y,dW hq.z⟩
theorem conj_r:(Qq.mk q.w q.x.neg q.y.neg q.z.neg).r=q.r.conj:=by unfold Qq.r QR.conj;simp only[ui]
theorem nO (hq:q.good):(Qq.mk q.w q.x.neg q.y.neg q.z.neg).first.p≠0:=by rw[iH (mu hq.comp),conj_r,nrm_conj];exact dK hq
theorem aZ (hq:q.good):q.inv.good:=by rw[uo hq.comp];exact dY (mu hq.comp) (nO hq)
theorem yk (hq:q.good):Sim q.r.conj q.inv.r:=by
 rw[uo hq.comp];have h:=mq (mu hq.comp) (nO hq);rw[conj_r]at h;exact h
variable {a b c:Qq}
end
def Qq.nn (q:Qq):Fq:=(q.w.mul q.w).add (q.axis.dot q.axis)
def Qq.dd (q:Qq):Fq:=(q.w.mul q.w).sub (q.axis.dot q.axis)
def Qq.ap1 (q:Qq) (v:Vq):Vq:=v.scale q.dd
def Qq.ap2 (q:Qq) (v:Vq):Vq:=q.axis.scale ((Fq.ofInt 2).mul (q.axis.dot v))
def Qq.ap3 (q:Qq) (v:Vq):Vq:=(q.axis.cross v).scale ((Fq.ofInt 2).mul q.w)
def Qq.rat (q:Qq):Fq:=(Fq.ofInt 1).div q.nn
def Qq.app (q:Qq) (v:Vq):Vq:=(((q.ap1 v).add (q.ap2 v)).add (q.ap3 v)).scale q.rat
section
variable {p q d:Qq} {v x y a b:Vq} {t:Fq}
theorem uq (h:q.comp):q.nn.valid=true:=dC (aK h.w h.w) (cA h.axis h.axis)
theorem ur (h:q.comp):q.dd.valid=true:=db (aK h.w h.w) (cA h.axis h.axis)
theorem nn_v (h:q.comp):q.nn.v=q.r.nrm:=by
 unfold Qq.nn;rw[v_a (aK h.w h.w) (cA h.axis h.axis),v_m h.w h.w,uj h.axis h.axis];rfl
theorem dd_v (h:q.comp):q.dd.v=q.w.v*q.w.v - (q.x.v*q.x.v+(q.y.v*q.y.v+q.z.v*q.z.v)):=by
 unfold Qq.dd;rw[v_s (aK h.w h.w) (cA h.axis h.axis),v_m h.w h.w,uj h.axis h.axis];rfl
theorem ut (h:q.good):q.nn.p≠0:=fun e=>dK h (by rw[←nn_v h.comp];exact(p_v (uq h.comp)).2 e)
theorem lh (h:q.comp) (hv:v.good):(q.ap1 v).good:=hv.scale (ur h)
theorem lj (h:q.comp) (hv:v.good):(q.ap2 v).good:=h.axis.scale (aK (aG 2) (cA h.axis hv))
theorem oT (h:q.comp) (hv:v.good):(q.ap3 v).good:=(h.axis.cross hv).scale (aK (aG 2) h.w)
theorem qW (h:q.good):q.rat.valid=true:=go (aG 1) (ut h)
theorem rat_v (h:q.good):q.rat.v=(q.r.nrm)⁻¹:=by
 unfold Qq.rat;rw[ul (aG 1) (uq h.comp) (ut h),da,nn_v h.comp,Rat.div_def];exact Rat.one_mul _
theorem ci (h:q.good) (hv:v.good):(q.app v).good:=(((lh h.comp hv).add (lj h.comp hv)).add (oT h.comp hv)).scale (qW h)
theorem ap_v (h:q.comp) (hv:v.good):
  ((q.ap1 v).x.v+(q.ap2 v).x.v+(q.ap3 v).x.v=(q.r.rot v.r).x)∧((q.ap1 v).y.v+(q.ap2 v).y.v+(q.ap3 v).y.v=(q.r.rot v.r).y)∧((q.ap1 v).z.v+(q.ap2 v).z.v+(q.ap3 v).z.v=(q.r.rot v.r).z):=by
 have h1:=dd_v h;have h2:=uj h.axis hv;have h3:=v_m (aG 2) (cA h.axis hv);have h4:=v_m (aG 2) h.w;have h5:=da 2;have h6:=yi h.axis hv;have h7:=el hv (ur h);have h8:=el h.axis (aK (aG 2) (cA h.axis hv));have h9:=el (h.axis.cross hv) (aK (aG 2) h.w);rw[h1]at h7;rw[h3,h2,h5]at h8;rw[h4,h5,h6.1,h6.2.1,h6.2.2]at h9;unfold Qq.ap1 Qq.ap2 Qq.ap3;rw[h7.1,h7.2.1,h7.2.2,h8.1,h8.2.1,h8.2.2,h9.1,h9.2.1,h9.2.2];unfold QR.rot Vq.r Qq.r Qq.axis;simp only;refine⟨?_,?_,?_⟩<;>grind
theorem qX (h:q.good) (hv:v.good):(q.app v).r=q.r.app v.r:=by
 have h0:=ap_v h.comp hv;have h1:=mX (lh h.comp hv) (lj h.comp hv);have h2:=mX ((lh h.comp hv).add (lj h.comp hv)) (oT h.comp hv);have h3:=el (((lh h.comp hv).add (lj h.comp hv)).add (oT h.comp hv)) (qW h);have h4:=rat_v h;unfold Qq.app QR.app VR.smul
 ext<;>simp only[Vq.r]
 ·rw[h3.1,h2.1,h1.1,h0.1,h4];exact Rat.mul_comm _ _
 ·rw[h3.2.1,h2.2.1,h1.2.1,h0.2.1,h4];exact Rat.mul_comm _ _
 ·rw[h3.2.2,h2.2.2,h1.2.2,h0.2.2,h4];exact Rat.mul_comm _ _
theorem Vq.inj_r (ha:a.good) (hb:b.good) (h:a.r=b.r):a=b:=
 Vq.inj ha hb (congrArg VR.x h) (congrArg VR.y h) (congrArg VR.z h)
theorem dot_r (ha:a.good) (hb:b.good):(a.dot b).v=a.r.dot b.r:=by rw[uj ha hb];rfl
theorem r_dot (h:q.good) (hx:x.good) (hy:y.good):(q.app x).dot (q.app y)=x.dot y:=
 gn (cA (ci h hx) (ci h hy)) (cA hx hy) (by rw[dot_r (ci h hx) (ci h hy),qX h hx,qX h hy,app_dot _ (dK h),dot_r hx hy])
def Qq.way (p d:Qq) (t:Fq):Qq:=p.mul (Qq.mk (.ofInt 1) (d.axis.scale t).x (d.axis.scale t).y (d.axis.scale t).z).canon
theorem je (hd:d.comp) (ht:t.valid=true):(Qq.mk (.ofInt 1) (d.axis.scale t).x (d.axis.scale t).y (d.axis.scale t).z).comp:=
 ⟨aG 1,(hd.axis.scale ht).x,(hd.axis.scale ht).y,(hd.axis.scale ht).z⟩
theorem oU:(Qq.mk (.ofInt 1) (d.axis.scale t).x (d.axis.scale t).y (d.axis.scale t).z).first=Fq.ofInt 1:=rfl
theorem jf:(Qq.mk (.ofInt 1) (d.axis.scale t).x (d.axis.scale t).y (d.axis.scale t).z).first.p≠0:=by rw[oU];decide
theorem way_good (hp:p.good) (hd:d.comp) (ht:t.valid=true):(p.way d t).good:=fg hp (dY (je hd ht) jf)
theorem qY (hd:d.comp) (ht:t.valid=true):(Qq.mk (.ofInt 1) (d.axis.scale t).x (d.axis.scale t).y (d.axis.scale t).z).good:=
 ⟨je hd ht,by rw[oU,da];rfl⟩
theorem ws (h:q.good):q.canon=q:=
 um (dY h.comp ((iH h.comp).2 (dK h))) h (mq h.comp ((iH h.comp).2 (dK h))).symm
def Vq.turn (a b:Vq):Qq:=(Qq.mk ((a.dot a).add (a.dot b)) (a.cross b).x (a.cross b).y (a.cross b).z).canon
end
structure Vq.ok (d:Nat) (a:Vq):Prop where
 x:a.x.ok d
 y:a.y.ok d
 z:a.z.ok d
structure Qq.ok (d:Nat) (q:Qq):Prop where
 w:q.w.ok d
 x:q.x.ok d
 y:q.y.ok d
 z:q.z.ok d
section
variable {a b:Vq} {k:Fq} {p q:Qq} {d e f:Nat}
theorem Vq.ok.mono (h:a.ok d) (hd:d≤e):a.ok e:=⟨h.x.mono hd,h.y.mono hd,h.z.mono hd⟩
theorem Qq.ok.mono (h:q.ok d) (hd:d≤e):q.ok e:=⟨h.w.mono hd,h.x.mono hd,h.y.mono hd,h.z.mono hd⟩
theorem Qq.ok.axis (h:q.ok d):q.axis.ok d:=⟨h.x,h.y,h.z⟩
theorem Vq.ok.add (h:a.ok d) (k:b.ok e):(a.add b).ok (2*(d+e)+1):=⟨(h.x.add k.x).mono (by omega),(h.y.add k.y).mono (by omega),(h.z.add k.z).mono (by omega)⟩
theorem Vq.ok.sub (h:a.ok d) (k:b.ok e):(a.sub b).ok (2*(d+e)+1):=⟨(h.x.sub k.x).mono (by omega),(h.y.sub k.y).mono (by omega),(h.z.sub k.z).mono (by omega)⟩
theorem Vq.ok.scale (h:a.ok d) (hk:k.ok e):(a.scale k).ok (d+e):=⟨h.x.mul hk,h.y.mul hk,h.z.mul hk⟩
theorem Vq.ok.dot (h:a.ok d) (k:b.ok e):(a.dot b).ok (10*(d+e)+3):=((h.x.mul k.x).add ((h.y.mul k.y).add (h.z.mul k.z))).mono (by omega)
theorem Vq.ok.cross (h:a.ok d) (k:b.ok e):(a.cross b).ok (4*(d+e)+1):=⟨((h.y.mul k.z).sub (h.z.mul k.y)).mono (by omega),((h.z.mul k.x).sub (h.x.mul k.z)).mono (by omega),((h.x.mul k.y).sub (h.y.mul k.x)).mono (by omega)⟩
theorem Vq.ok.lerp (h:a.ok d) (k':b.ok e) (hk:k.ok f):(a.lerp b k).ok (2*(d+(2*(e+d)+1+f))+1):=h.add ((k'.sub h).scale hk)
theorem Qq.ok.first (h:q.ok d):q.first.ok d:=by
 unfold Qq.first;split
 ·exact h.w
 ·split
  ·exact h.x
  ·split
   ·exact h.y
   ·exact h.z
theorem Qq.ok.over (h:q.ok d) {n:Fq} (hn:n.ok e) (h0:n.p≠0):(q.over n).ok (d+e):=⟨h.w.div hn h0,h.x.div hn h0,h.y.div hn h0,h.z.div hn h0⟩
theorem Qq.ok.canon (h:q.ok d) (h0:q.first.p≠0):q.canon.ok (d+d):=by unfold Qq.canon;rw[if_neg h0];exact h.over h.first h0
theorem Qq.ok.hamW (h:p.ok d) (k:q.ok e):(p.hamW q).ok (22*(d+e)+7):=((h.w.mul k.w).sub (h.axis.dot k.axis)).mono (by omega)
theorem Qq.ok.hamV (h:p.ok d) (k:q.ok e):(p.hamV q).ok (16*(d+e)+5):=(((k.axis.scale h.w).add (h.axis.scale k.w)).add (h.axis.cross k.axis)).mono (by omega)
theorem Qq.ok.ham (h:p.ok d) (k:q.ok e):(p.ham q).ok (22*(d+e)+7):=⟨h.hamW k,(h.hamV k).x.mono (by omega),(h.hamV k).y.mono (by omega),(h.hamV k).z.mono (by omega)⟩
theorem Qq.ok.mul (h:p.ok d) (k:q.ok e) (h0:(p.ham q).first.p≠0):(p.mul q).ok (44*(d+e)+14):=((h.ham k).canon h0).mono (by omega)
end
def Sp.sl (L:Nat):Sp:=⟨fun _ v=>∃a c,v= .slice a L c,fun _ _ _ h _=>h⟩
section
variable {Q:Exit→Act→World→Prop} {o:Oper} {a:Act} {w:World} {x y:Operand} {g L p N q k:Nat} {s:Bool}
end
def FitP (s:Bool) (L p N q:Nat):Prop:=L≤12∧N≤12∧nl p=L∧nl q=N∧(Fq.mk s p q).valid=true
theorem FitP.ok {s:Bool} {L p N q:Nat} (h:FitP s L p N q):(Fq.mk s p q).ok 12:=⟨by show nl p≤12;have:=h.1;have:=h.2.2.1;omega,by show nl q≤12;have:=h.2.1;have:=h.2.2.2.1;omega,(of_decide_eq_true h.2.2.2.2).1⟩
structure Rq where
 s:Bool
 L:Nat
 p:Nat
 N:Nat
 q:Nat
def Fq.raw (x:Fq):Rq:=⟨x.s,nl x.p,x.p,nl x.q,x.q⟩
def aM (w:World):List Rq→List Value→Prop
 | [],cs=>cs=[]
 | r::l,cs=>∃a c b d cs',cs= .bool r.s::.slice a r.L c::.slice b r.N d::cs'∧IsR w (.agg #[.slice a r.L c]) r.L r.p∧IsR w (.agg #[.slice b r.N d]) r.N r.q∧aM w l cs'
section
variable {w w':World} {g g':Nat} {l:List Rq} {cs:List Value} {T:TypeId}
theorem aM.mono (h:aM w l cs) (hb:Below w.heap.size w w'):aM w' l cs:=by
 induction l generalizing cs with
 | nil=>exact h
 | cons r l ih=>obtain⟨a,c,b,d,cs',e,h1,h2,h3⟩:=h;exact⟨a,c,b,d,cs',e,h1.mono hb,h2.mono hb,ih h3⟩
theorem aM.upd (h:aM w l cs) (o:Own w g) (u:Upd w g w'):aM w' l cs:=by
 induction l generalizing cs with
 | nil=>exact h
 | cons r l ih=>obtain⟨a,c,b,d,cs',e,h1,h2,h3⟩:=h;exact⟨a,c,b,d,cs',e,h1.upd o u,h2.upd o u,ih h3⟩
theorem aM.noInt (h:aM w l cs) (k:Nat) (n:Int):cs[k]? ≠some (Value.int .u32 n):=by
 induction l generalizing cs k with
 | nil=>have e:cs=[]:=h;rw[e];simp
 | cons r l ih=>
  obtain⟨a,c,b,d,cs',e,_,_,h3⟩:=h;rw[e]
  match k with
  | 0=>intro h;cases h
  | 1=>intro h;cases h
  | 2=>intro h;cases h
  | k+3=>exact ih h3 k
theorem aM.length (h:aM w l cs):cs.length=3*l.length:=by
 induction l generalizing cs with
 | nil=>have e:cs=[]:=h;rw[e];rfl
 | cons r l ih=>obtain⟨a,c,b,d,cs',e,_,_,h3⟩:=h;have:=ih h3;rw[e];simp only[List.length_cons];omega
theorem aM.get (h:aM w l cs) {k:Nat} {r:Rq} (hk:l[k]? =some r):
  ∃a c b d,cs[3*k]? =some (.bool r.s)∧cs[3*k+1]? =some (.slice a r.L c)∧cs[3*k+2]? =some (.slice b r.N d)∧IsR w (.agg #[.slice a r.L c]) r.L r.p∧IsR w (.agg #[.slice b r.N d]) r.N r.q:=by
 induction l generalizing cs k with
 | nil=>cases hk
 | cons x l ih=>
  obtain⟨a,c,b,d,cs',e,h1,h2,h3⟩:=h;rw[e]
  match k with
  | 0=>simp at hk;subst hk;exact⟨a,c,b,d,rfl,rfl,rfl,h1,h2⟩
  | k+1=>
   obtain⟨a',c',b',d',e0,e1,e2,i1,i2⟩:=ih h3 (k:=k) (by simpa using hk);exact⟨a',c',b',d',by simpa [Nat.mul_add]using e0,by simpa [Nat.mul_add]using e1,by simpa [Nat.mul_add]using e2,i1,i2⟩
theorem aM.set (h:aM w l cs) {k:Nat} {r:Rq} (hk:k<l.length) {a b:Option Addr} {c d:Nat} (h1:IsR w (.agg #[.slice a r.L c]) r.L r.p) (h2:IsR w (.agg #[.slice b r.N d]) r.N r.q):
  aM w (l.set k r) (((cs.set (3*k) (.bool r.s)).set (3*k+1) (.slice a r.L c)).set (3*k+2) (.slice b r.N d)):=by
 induction l generalizing cs k with
 | nil=>cases hk
 | cons x l ih=>
  obtain⟨a',c',b',d',cs',e,i1,i2,i3⟩:=h;rw[e]
  match k with
  | 0=>exact⟨a,c,b,d,cs',rfl,h1,h2,i3⟩
  | k+1=>
   have:=ih i3 (k:=k) (by simpa using hk);exact⟨a',c',b',d',_,by simp[Nat.mul_add],i1,i2,this⟩
def IsL (w:World) (v:Value) (l:List Rq):Prop:=∃cs,v= .agg cs.toArray∧aM w l cs
def ll (T:TypeId) (w:World) (g:Nat) (l:List Rq):Prop:=∃cs,w.heap[g]? =some (.cells cs.toArray T (0,0))∧aM w l cs
theorem IsL.mono {v:Value} (h:IsL w v l) (hb:Below w.heap.size w w'):IsL w' v l:=by obtain⟨cs,e,h⟩:=h;exact⟨cs,e,h.mono hb⟩
theorem IsL.upd {v:Value} (h:IsL w v l) (o:Own w g) (u:Upd w g w'):IsL w' v l:=by obtain⟨cs,e,h⟩:=h;exact⟨cs,e,h.upd o u⟩
theorem ll.lt (h:ll T w g l):g<w.heap.size:=by obtain⟨_,h,_⟩:=h;exact(Array.getElem?_eq_some_iff.1 h).1
theorem ll.mono (h:ll T w g l) (hb:Below w.heap.size w w'):ll T w' g l:=by
 have hl:=h.lt;obtain⟨cs,h0,h1⟩:=h;exact⟨cs,(hb.block g hl).trans h0,h1.mono hb⟩
theorem ll.upd (h:ll T w g' l) (o:Own w g) (u:Upd w g w') (hn:g'≠g):ll T w' g' l:=by
 obtain⟨cs,h0,h1⟩:=h;exact⟨cs,(u.block g' hn).trans h0,h1.upd o u⟩
theorem ll.own (h:ll T w g l):Own w g:=by
 obtain⟨cs,h0,h1⟩:=h;exact⟨cs.toArray,T,h0,fun k n=>by rw[List.getElem?_toArray];exact h1.noInt k n⟩
theorem ll.get (h:ll T w g l) {k:Nat} {r:Rq} (hk:l[k]? =some r):
  ∃a c b d,w.cell? ⟨g,3*k,none⟩=some (.bool r.s)∧w.cell? ⟨g,3*k+1,none⟩=some (.slice a r.L c)∧w.cell? ⟨g,3*k+2,none⟩=some (.slice b r.N d)∧IsR w (.agg #[.slice a r.L c]) r.L r.p∧IsR w (.agg #[.slice b r.N d]) r.N r.q:=by
 obtain⟨cs,h0,h1⟩:=h;obtain⟨a,c,b,d,e0,e1,e2,i1,i2⟩:=h1.get hk;exact⟨a,c,b,d,by rw[cell_of_row w g _ _ _ (0,0) h0,List.getElem?_toArray];exact e0,by rw[cell_of_row w g _ _ _ (0,0) h0,List.getElem?_toArray];exact e1,by rw[cell_of_row w g _ _ _ (0,0) h0,List.getElem?_toArray];exact e2,i1,i2⟩
theorem ll.frozen (h:ll T w g l) (j:Nat):w.frozen? ⟨g,j,none⟩=false:=by obtain⟨cs,h0,_⟩:=h;exact frozen_of_row w g j _ _ h0
end
section
variable {Q:Exit→Act→World→Prop} {o:Oper} {a:Act} {w:World} {x y:Operand} {g k:Nat} {l:List Rq} {r:Rq} {T:TypeId}
end
section
variable {Q:Exit→Act→World→Prop} {o:Oper} {a:Act} {w:World} {x y z u:Operand} {f:FuncId} {tt:Array TypeId} {S S1 S2 S3:Sp} {R:World→Ending→World→Prop}
end
def frs:List Fq→Rho
 | []=>[]
 | x::xs=>.val (.bool x.s)::.dig (nl x.p) x.p::.dig (nl x.q) x.q::frs xs
def leaf3 (k:Nat):List Leaf:=[.ref (3*k),.ref (3*k+1),.ref (3*k+2)]
def fr (k:Nat):SV:=.agg (leaf3 k)
def bT:List Nat→List Leaf
 | []=>[]
 | k::ks=>.ref (3*k)::.ref (3*k+1)::.ref (3*k+2)::bT ks
def row (ks:List Nat):SV:=.agg (bT ks)
def AtL (xs:List Fq):List Nat→List Fq→Prop
 | [],[]=>True
 | k::ks,x::vs=>xs[k]? =some x∧AtL xs ks vs
 | _,_=>False
section
variable {xs:List Fq} {ys:Rho} {x y z:Fq} {i j k:Nat} {B:Blk} {w:World} {v:Value}
theorem iI:∀ {xs:List Fq} {k:Nat} {x:Fq},xs[k]? =some x→(frs xs++ys)[3*k]? =some (.val (.bool x.s))∧(frs xs++ys)[3*k+1]? =some (.dig (nl x.p) x.p)∧(frs xs++ys)[3*k+2]? =some (.dig (nl x.q) x.q)
 | [],_,_,h=>by simp at h
 | x::xs,0,y,h=>by simp at h;subst h;exact⟨rfl,rfl,rfl⟩
 | x::xs,k+1,y,h=>by
  have:=iI (xs:=xs) (k:=k) (x:=y) (by simpa using h);simpa [frs,Nat.mul_add]using this
theorem leaf_s {s:Bool} (h:(frs xs++ys)[i]? =some (.val (.bool s))):(Leaf.ref i).holds (frs xs++ys) B w v↔v= .bool s:=leafB h
theorem sp {L N:Nat} (h:(frs xs++ys)[i]? =some (.dig L N)):(Leaf.ref i).holds (frs xs++ys) B w v↔IsR w (.agg #[v]) L N:=iF h
theorem jg {L N:Nat} (h:IsR w (.agg #[v]) L N):∃a c,v= .slice a L c:=by
 obtain⟨a,c,e,_⟩:=h;have e2:v= .slice a L c:=by
  injection e with e;have:=congrArg (fun x:Array Value=>x[0]?) e;simpa using this
 exact⟨a,c,e2⟩
theorem gr:∀ {ks:List Nat} {vs:List Fq} {cs:List Value},AtL xs ks vs→(aC (frs xs++ys) B w (bT ks) cs↔aM w (vs.map Fq.raw) cs)
 | [],[],cs,_=>by
  constructor
  ·intro h;match cs,h with | [],_=>rfl
  ·intro h;have h:cs=[]:=h;subst h;trivial
 | k::ks,x::vs,cs,h=>by
  obtain⟨h1,h2,h3⟩:=iI (ys:=ys) h.1;have ih:=fun cs=>gr (ks:=ks) (vs:=vs) (cs:=cs) h.2
  constructor
  ·intro hl
   match cs,hl with
   | u1::u2::u3::cs',hl=>
    obtain⟨g1,g2,g3,g4⟩:=hl;have e1:=(leaf_s h1).1 g1;have e2:=(sp h2).1 g2;have e3:=(sp h3).1 g3;obtain⟨a,c,rfl⟩:=jg e2;obtain⟨b,d,rfl⟩:=jg e3;subst e1;exact⟨a,c,b,d,cs',rfl,e2,e3,(ih cs').1 g4⟩
   | [],hl=>exact hl.elim
   | [_],hl=>exact hl.2.elim
   | [_,_],hl=>exact hl.2.2.elim
  ·rintro⟨a,c,b,d,cs',rfl,i1,i2,i3⟩;exact⟨(leaf_s h1).2 rfl,(sp h2).2 i1,(sp h3).2 i2,(ih cs').2 i3⟩
 | [],_::_,_,h=>h.elim
 | _::_,[],_,h=>h.elim
theorem ag {ks:List Nat} {vs:List Fq} (h:AtL xs ks vs):(row ks).holds (frs xs++ys) B w v↔IsL w v (vs.map Fq.raw):=by
 constructor
 ·rintro⟨cs,rfl,h1⟩;exact⟨cs,rfl,(gr h).1 h1⟩
 ·rintro⟨cs,rfl,h1⟩;exact⟨cs,rfl,(gr h).2 h1⟩
theorem aI (h:xs[k]? =some x):(fr k).holds (frs xs++ys) B w v↔IsQ w v x:=by
 have:=ag (ys:=ys) (B:=B) (w:=w) (v:=v) (ks:=[k]) (vs:=[x]) ⟨h,trivial⟩;show(row [k]).holds _ B w v↔_;rw[this];constructor
 ·rintro⟨cs,rfl,a,c,b,d,cs',rfl,i1,i2,e⟩;have e:cs'=[]:=e;subst e;exact⟨a,c,b,d,rfl,i1,i2⟩
 ·rintro⟨a,c,b,d,rfl,i1,i2⟩;exact⟨_,rfl,a,c,b,d,[],rfl,i1,i2,rfl⟩
abbrev OkI (xs:List Fq) (ys:Rho) (i:Inst):Prop:=i.Ok Tryz.prog (frs xs++ys)
theorem inst2 {f:FuncId} (hen:jy f) (hc:∀va vb w,IsQ w va x→IsQ w vb y→Calls Tryz.prog f #[va,vb] w (fun e w'=>jx w z e w')) (hi:xs[i]? =some x) (hj:xs[j]? =some y) (hk:xs[k]? =some z):OkI xs ys ⟨f,[fr i,fr j],.v (fr k)⟩:=
 ⟨hen,fun B w vs hB h=>by
  match vs,h with
  | [va,vb],h=>
   refine(hc va vb w ((aI hi).1 h.1) ((aI hj).1 h.2.1)).mono ?_;rintro e w' ⟨v,rfl,h1,h2⟩;exact⟨v,rfl,(aI hk).2 h1,h2⟩⟩
end
section
variable {xs:List Fq} {ys ρ:Rho} {x y z:Fq} {i j k n:Nat} {u c:Int} {b d:Bool} {l:Leaf} {f:FuncId} {op:BinOp} {t:TypeId}
theorem wt {v:Value} (hen:jy f) (hc:∀va w,IsQ w va x→Calls Tryz.prog f #[va] w (fun e w'=>cI w v e w')) (hi:xs[i]? =some x) (hl:∀B w,l.holds (frs xs++ys) B w v):OkI xs ys ⟨f,[fr i],.v (.one l)⟩:=
 ⟨hen,fun B w vs hB h=>by
  match vs,h with
  | [va],h=>
   refine(hc va w ((aI hi).1 h.1)).mono ?_;rintro e w' ⟨rfl,h2⟩;exact⟨_,rfl,hl B w',h2⟩⟩
theorem inst2V {v:Value} (hen:jy f) (hc:∀va vb w,IsQ w va x→IsQ w vb y→Calls Tryz.prog f #[va,vb] w (fun e w'=>cI w v e w')) (hi:xs[i]? =some x) (hj:xs[j]? =some y) (hl:∀B w,l.holds (frs xs++ys) B w v):OkI xs ys ⟨f,[fr i,fr j],.v (.one l)⟩:=
 ⟨hen,fun B w vs hB h=>by
  match vs,h with
  | [va,vb],h=>
   refine(hc va vb w ((aI hi).1 h.1) ((aI hj).1 h.2.1)).mono ?_;rintro e w' ⟨rfl,h2⟩;exact⟨_,rfl,hl B w',h2⟩⟩
theorem inst2E (hen:jy f) (hc:∀va vb w,IsQ w va x→IsQ w vb y→Calls Tryz.prog f #[va,vb] w (fun e w'=>xR w z c e w')) (hi:xs[i]? =some x) (hj:xs[j]? =some y) (hk:xs[k]? =some z):OkI xs ys ⟨f,[fr i,fr j],.tup [fr k,.one (.i .i64 c)]⟩:=
 ⟨hen,fun B w vs hB h=>by
  match vs,h with
  | [va,vb],h=>
   refine(hc va vb w ((aI hi).1 h.1) ((aI hj).1 h.2.1)).mono ?_;rintro e w' ⟨v,rfl,h1,h2⟩;exact⟨_,rfl,⟨[v,.int .i64 c],rfl,(aI hk).2 h1,rfl,trivial⟩,h2⟩⟩
theorem instIQ (hen:jy f) (hc:∀w,Calls Tryz.prog f #[.int .i64 u] w (fun e w'=>jx w z e w')) (hk:xs[k]? =some z):OkI xs ys ⟨f,[.one (.i .i64 u)],.v (fr k)⟩:=
 ⟨hen,fun B w vs hB h=>by
  match vs,h with
  | [va],h=>
   have e:va= .int .i64 u:=h.1;subst e;refine(hc w).mono ?_;rintro e w' ⟨v,rfl,h1,h2⟩;exact⟨v,rfl,(aI hk).2 h1,h2⟩⟩
theorem iJ (hi:xs[i]? =some x) (hj:xs[j]? =some y) (hk:xs[k]? =some (x.mul y)) (ox:x.ok 1000000000) (oy:y.ok 1000000000):OkI xs ys ⟨136,[fr i,fr j],.v (fr k)⟩:=
 inst2 (az Tryz.func136 rfl rfl) (fun va vb w h1 h2=>q_fMul va vb x y w h1 h2 ox oy) hi hj hk
theorem mv (hi:xs[i]? =some x) (hj:xs[j]? =some y) (hk:xs[k]? =some (x.add y)) (ox:x.ok 1000000000) (oy:y.ok 1000000000):OkI xs ys ⟨85,[fr i,fr j],.v (fr k)⟩:=
 inst2 (az Tryz.func85 rfl rfl) (fun va vb w h1 h2=>q_fAdd va vb x y w h1 h2 ox oy) hi hj hk
theorem mw (hi:xs[i]? =some x) (hj:xs[j]? =some y) (hk:xs[k]? =some (x.sub y)) (ox:x.ok 1000000000) (oy:y.ok 1000000000):OkI xs ys ⟨82,[fr i,fr j],.v (fr k)⟩:=
 inst2 (az Tryz.func82 rfl rfl) (fun va vb w h1 h2=>q_fSub va vb x y w h1 h2 ox oy) hi hj hk
theorem cU (hi:xs[i]? =some x) (hj:xs[j]? =some y) (hk:xs[k]? =some (x.div y)) (ox:x.ok 1000000000) (oy:y.ok 1000000000) (h0:y.p≠0):OkI xs ys ⟨234,[fr i,fr j],.tup [fr k,.one (.i .i64 0)]⟩:=
 inst2E (az Tryz.func234 rfl rfl) (fun va vb w h1 h2=>q_fDiv va vb x y w h1 h2 ox oy h0) hi hj hk
theorem aQ (hi:xs[i]? =some x) (hl:∀B w,l.holds (frs xs++ys) B w (.int .i64 x.sgn)) (ox:x.ok 1000000000000):OkI xs ys ⟨144,[fr i],.v (.one l)⟩:=
 wt (az Tryz.func144 rfl rfl) (fun va w h1=>yd va x w h1 ox) hi hl
theorem bo (hi:xs[i]? =some x) (hj:xs[j]? =some y) (hl:∀B w,l.holds (frs xs++ys) B w (.int .i64 (x.cmp y))) (ox:x.ok 1000000000) (oy:y.ok 1000000000):OkI xs ys ⟨83,[fr i,fr j],.v (.one l)⟩:=
 inst2V (az Tryz.func83 rfl rfl) (fun va vb w h1 h2=>q_fCmp va vb x y w h1 h2 ox oy) hi hj hl
theorem cV (hk:xs[k]? =some (.ofInt u)) (lu: -9223372036854775808≤u) (ru:u<9223372036854775808):OkI xs ys ⟨80,[.one (.i .i64 u)],.v (fr k)⟩:=
 instIQ (az Tryz.func80 rfl rfl) (fun w=>q_fInt u w lu ru) hk
theorem aJ (hi:xs[i]? =some x) (hl:∀B w,l.holds (frs xs++ys) B w (.bool x.valid)) (ox:x.ok 1000000):OkI xs ys ⟨235,[fr i],.v (.one l)⟩:=
 wt (az Tryz.func235 rfl rfl) (fun va w h1=>uh va x w h1 ox.p ox.q) hi hl
theorem fh (h:x.p=0):x.sgn=0:=by unfold Fq.sgn;rw[if_pos h]
theorem sgn_ne {x:Fq}:x.sgn≠0↔x.p≠0:=by
 unfold Fq.sgn;by_cases h:x.p=0
 ·rw[if_pos h];simp[h]
 ·rw[if_neg h];simp only[ne_eq,h,not_false_eq_true,iff_true];split<;>decide
theorem mx (h:x.p≠0):(x.sgn==0)=false:=by have:=sgn_ne.2 h;simpa using this
theorem iK (h:x.p≠0):(x.sgn !=0)=true:=by have:=sgn_ne.2 h;simpa using this
theorem iL (h:u≠c):(u==c)=false:=by simpa using h
theorem sr (h:u≠c):(u !=c)=true:=by simpa using h
theorem lm (w:World):IsR w (.agg #[.slice none 0 0]) 0 0:=⟨none,0,rfl,Nat.le_refl _,by simp,fun h=>by omega⟩
theorem fi {B:Blk} {w:World}:∀ {n:Nat} {cs:List Value},aC ρ B w (List.replicate n [Leaf.b false,.sl0,.sl0]).flatten cs→aM w (List.replicate n Fq.zero.raw) cs
 | 0,cs,h=>by
  match cs,h with
  | [],_=>rfl
 | n+1,cs,h=>by
  match cs,h with
  | u1::u2::u3::cs',h=>
   obtain⟨g1,g2,g3,g4⟩:=h;have e1:u1= .bool false:=g1;have e2:u2= .slice none 0 0:=g2;have e3:u3= .slice none 0 0:=g3;subst e1;subst e2;subst e3;have hz:nl 0=0:=bv;refine⟨none,0,none,0,cs',?_,?_,?_,fi (n:=n) g4⟩
   ·simp[Fq.raw,Fq.zero,hz]
   ·simp only[Fq.raw,Fq.zero,hz];exact lm w
   ·simp only[Fq.raw,Fq.zero,hz];exact lm w
  | [],h=>exact h.elim
  | [_],h=>exact h.2.elim
  | [_,_],h=>exact h.2.2.elim
end
def Vq.cs (v:Vq):List Fq:=[v.x,v.y,v.z]
def Qq.cs (q:Qq):List Fq:=[q.w,q.x,q.y,q.z]
abbrev cP (w:World) (v:Value) (a:Vq):Prop:=IsL w v [a.x.raw,a.y.raw,a.z.raw]
abbrev RetL (W:World) (l:List Rq) (e:Ending) (w':World):Prop:=∃v,e= .returned v∧IsL w' v l∧Below W.heap.size W w'
abbrev fj (W:World) (a:Vq) (e:Ending) (w':World):Prop:=RetL W [a.x.raw,a.y.raw,a.z.raw] e w'
abbrev fC (w:World) (v:Value) (q:Qq):Prop:=IsL w v [q.w.raw,q.x.raw,q.y.raw,q.z.raw]
abbrev oV (W:World) (q:Qq) (e:Ending) (w':World):Prop:=RetL W [q.w.raw,q.x.raw,q.y.raw,q.z.raw] e w'
def RetLE (W:World) (l:List Rq) (c:Int) (e:Ending) (w':World):Prop:=∃v,e= .returned (.tuple #[v,.int .i64 c])∧IsL w' v l∧Below W.heap.size W w'
abbrev wu (W:World) (q:Qq) (c:Int) (e:Ending) (w':World):Prop:=RetLE W [q.w.raw,q.x.raw,q.y.raw,q.z.raw] c e w'
theorem aL {u:Int} (lu: -9223372036854775808≤u) (ru:u<9223372036854775808):(Fq.ofInt u).ok 2:=⟨oQ lu ru,aR.2 (by show(1:Nat)<4294967296^2;decide),by show(1:Nat)≠0;decide⟩
def su (x y:Fq):List Fq:=[x,y,(x.mul y)]
theorem q_times (vp:Value) (x y:Fq) (w:World) (ip:IsL w vp [x.raw,y.raw]) (hx:x.ok 1000000000) (hy:y.ok 1000000000):
  Calls Tryz.prog 84 #[vp] w fun e w'=>jx w (x.mul y) e w':=by
 refine(cRn (ρ:=frs (su x y)++ []) (args:=[row [0,1]]) (vs:=[vp]) (r:=.v (fr 2))
  (ae (iJ (i:=0) (j:=1) (k:=2) rfl rfl rfl (hx.mono (by decide)) (hy.mono (by decide))) ah)
  ai Tryz.func84 (by kernel_rfl) ⟨(ag (xs:=su x y) (ks:=[0,1]) (vs:=[x,y]) ⟨rfl,rfl,trivial⟩).2 ip,trivial⟩).mono ?_
 rintro e w' ⟨v,rfl,h1,h2⟩;exact⟨v,rfl,(aI (xs:=su x y) (k:=2) rfl).1 h1,h2⟩
theorem eK {xs:List Fq} {ys:Rho} {ks:List Nat} {k:Nat} {x y:Fq} (hi:AtL xs ks [x,y]) (hk:xs[k]? =some (x.mul y)) (hx:x.ok 1000000000) (hy:y.ok 1000000000):OkI xs ys ⟨84,[row ks],.v (fr k)⟩:=
 ⟨az Tryz.func84 rfl rfl,fun B w vs hB h=>by
  match vs,h with
  | [va],h=>
   refine(q_times va x y w ((ag hi).1 h.1) hx hy).mono ?_;rintro e w' ⟨v,rfl,h1,h2⟩;exact⟨v,rfl,(aI hk).2 h1,h2⟩⟩
def wv (x y:Fq):List Fq:=[x,y,(x.sub y)]
theorem q_less (vp:Value) (x y:Fq) (w:World) (ip:IsL w vp [x.raw,y.raw]) (hx:x.ok 1000000000) (hy:y.ok 1000000000):
  Calls Tryz.prog 194 #[vp] w fun e w'=>jx w (x.sub y) e w':=by
 refine(cRn (ρ:=frs (wv x y)++ []) (args:=[row [0,1]]) (vs:=[vp]) (r:=.v (fr 2))
  (ae (mw (i:=0) (j:=1) (k:=2) rfl rfl rfl (hx.mono (by decide)) (hy.mono (by decide))) ah)
  ai Tryz.func194 (by kernel_rfl) ⟨(ag (xs:=wv x y) (ks:=[0,1]) (vs:=[x,y]) ⟨rfl,rfl,trivial⟩).2 ip,trivial⟩).mono ?_
 rintro e w' ⟨v,rfl,h1,h2⟩;exact⟨v,rfl,(aI (xs:=wv x y) (k:=2) rfl).1 h1,h2⟩
theorem ww {xs:List Fq} {ys:Rho} {ks:List Nat} {k:Nat} {x y:Fq} (hi:AtL xs ks [x,y]) (hk:xs[k]? =some (x.sub y)) (hx:x.ok 1000000000) (hy:y.ok 1000000000):OkI xs ys ⟨194,[row ks],.v (fr k)⟩:=
 ⟨az Tryz.func194 rfl rfl,fun B w vs hB h=>by
  match vs,h with
  | [va],h=>
   refine(q_less va x y w ((ag hi).1 h.1) hx hy).mono ?_;rintro e w' ⟨v,rfl,h1,h2⟩;exact⟨v,rfl,(aI hk).2 h1,h2⟩⟩
def jh (a:Vq) (b:Vq):List Fq:=[a.x,a.y,a.z,b.x,b.y,b.z,(a.x.add b.x),(a.y.add b.y),(a.z.add b.z)]
theorem zC (va vb:Value) (a:Vq) (b:Vq) (w:World) (ia:cP w va a) (ib:cP w vb b) (ha:a.ok 100000000) (hb:b.ok 100000000):
  Calls Tryz.prog 81 #[va,vb,fnV 85] w fun e w'=>fj w (a.add b) e w':=by
 refine(cRn (ρ:=frs (jh a b)++ []) (args:=[row [0,1,2],row [3,4,5],.one (.fn 85)]) (vs:=[va,vb,fnV 85]) (r:=.v (row [6,7,8]))
  (ae (mv (i:=0) (j:=3) (k:=6) rfl rfl rfl (ha.x.mono (by decide)) (hb.x.mono (by decide))) (ae (mv (i:=1) (j:=4) (k:=7) rfl rfl rfl (ha.y.mono (by decide)) (hb.y.mono (by decide))) (ae (mv (i:=2) (j:=5) (k:=8) rfl rfl rfl (ha.z.mono (by decide)) (hb.z.mono (by decide))) ah)))
  ai Tryz.func81 (by kernel_rfl) ⟨(ag (xs:=jh a b) (ks:=[0,1,2]) (vs:=[a.x,a.y,a.z]) ⟨rfl,rfl,rfl,trivial⟩).2 ia,⟨(ag (xs:=jh a b) (ks:=[3,4,5]) (vs:=[b.x,b.y,b.z]) ⟨rfl,rfl,rfl,trivial⟩).2 ib,⟨rfl,trivial⟩⟩⟩).mono ?_
 rintro e w' ⟨v,rfl,h1,h2⟩;exact⟨v,rfl,(ag (xs:=jh a b) (ks:=[6,7,8]) (vs:=[(a.x.add b.x),(a.y.add b.y),(a.z.add b.z)]) ⟨rfl,rfl,rfl,trivial⟩).1 h1,h2⟩
theorem zD {xs:List Fq} {ys:Rho} {ka:List Nat} {kb:List Nat} {a:Vq} {b:Vq} {kr:List Nat} (aa:AtL xs ka [a.x,a.y,a.z]) (ab:AtL xs kb [b.x,b.y,b.z]) (ar:AtL xs kr [(a.add b).x,(a.add b).y,(a.add b).z]) (ha:a.ok 100000000) (hb:b.ok 100000000):OkI xs ys ⟨81,[row ka,row kb,.one (.fn 85)],.v (row kr)⟩:=
 ⟨az Tryz.func81 rfl rfl,fun B w vs hB h=>by
  match vs,h with
  | [va,vb,vf],h=>
   have ef:vf=fnV 85:=h.2.2.1;subst ef;refine(zC va vb a b w ((ag aa).1 h.1) ((ag ab).1 h.2.1) ha hb).mono ?_;rintro e w' ⟨v,rfl,h1,h2⟩;exact⟨v,rfl,(ag ar).2 h1,h2⟩⟩
def ji (a:Vq) (b:Vq):List Fq:=[a.x,a.y,a.z,b.x,b.y,b.z,(a.x.sub b.x),(a.y.sub b.y),(a.z.sub b.z)]
theorem zE (va vb:Value) (a:Vq) (b:Vq) (w:World) (ia:cP w va a) (ib:cP w vb b) (ha:a.ok 100000000) (hb:b.ok 100000000):
  Calls Tryz.prog 81 #[va,vb,fnV 82] w fun e w'=>fj w (a.sub b) e w':=by
 refine(cRn (ρ:=frs (ji a b)++ []) (args:=[row [0,1,2],row [3,4,5],.one (.fn 82)]) (vs:=[va,vb,fnV 82]) (r:=.v (row [6,7,8]))
  (ae (mw (i:=0) (j:=3) (k:=6) rfl rfl rfl (ha.x.mono (by decide)) (hb.x.mono (by decide))) (ae (mw (i:=1) (j:=4) (k:=7) rfl rfl rfl (ha.y.mono (by decide)) (hb.y.mono (by decide))) (ae (mw (i:=2) (j:=5) (k:=8) rfl rfl rfl (ha.z.mono (by decide)) (hb.z.mono (by decide))) ah)))
  ai Tryz.func81 (by kernel_rfl) ⟨(ag (xs:=ji a b) (ks:=[0,1,2]) (vs:=[a.x,a.y,a.z]) ⟨rfl,rfl,rfl,trivial⟩).2 ia,⟨(ag (xs:=ji a b) (ks:=[3,4,5]) (vs:=[b.x,b.y,b.z]) ⟨rfl,rfl,rfl,trivial⟩).2 ib,⟨rfl,trivial⟩⟩⟩).mono ?_
 rintro e w' ⟨v,rfl,h1,h2⟩;exact⟨v,rfl,(ag (xs:=ji a b) (ks:=[6,7,8]) (vs:=[(a.x.sub b.x),(a.y.sub b.y),(a.z.sub b.z)]) ⟨rfl,rfl,rfl,trivial⟩).1 h1,h2⟩
theorem zF {xs:List Fq} {ys:Rho} {ka:List Nat} {kb:List Nat} {a:Vq} {b:Vq} {kr:List Nat} (aa:AtL xs ka [a.x,a.y,a.z]) (ab:AtL xs kb [b.x,b.y,b.z]) (ar:AtL xs kr [(a.sub b).x,(a.sub b).y,(a.sub b).z]) (ha:a.ok 100000000) (hb:b.ok 100000000):OkI xs ys ⟨81,[row ka,row kb,.one (.fn 82)],.v (row kr)⟩:=
 ⟨az Tryz.func81 rfl rfl,fun B w vs hB h=>by
  match vs,h with
  | [va,vb,vf],h=>
   have ef:vf=fnV 82:=h.2.2.1;subst ef;refine(zE va vb a b w ((ag aa).1 h.1) ((ag ab).1 h.2.1) ha hb).mono ?_;rintro e w' ⟨v,rfl,h1,h2⟩;exact⟨v,rfl,(ag ar).2 h1,h2⟩⟩
def Vq.times (a b:Vq):Vq:=⟨a.x.mul b.x,a.y.mul b.y,a.z.mul b.z⟩
theorem Vq.ok.times {a b:Vq} {d e:Nat} (h:a.ok d) (k:b.ok e):(a.times b).ok (d+e):=⟨h.x.mul k.x,h.y.mul k.y,h.z.mul k.z⟩
def jj (a:Vq) (b:Vq):List Fq:=[a.x,a.y,a.z,b.x,b.y,b.z,(a.x.mul b.x),(a.y.mul b.y),(a.z.mul b.z)]
theorem zG (va vb:Value) (a:Vq) (b:Vq) (w:World) (ia:cP w va a) (ib:cP w vb b) (ha:a.ok 100000000) (hb:b.ok 100000000):
  Calls Tryz.prog 81 #[va,vb,fnV 136] w fun e w'=>fj w (a.times b) e w':=by
 refine(cRn (ρ:=frs (jj a b)++ []) (args:=[row [0,1,2],row [3,4,5],.one (.fn 136)]) (vs:=[va,vb,fnV 136]) (r:=.v (row [6,7,8]))
  (ae (iJ (i:=0) (j:=3) (k:=6) rfl rfl rfl (ha.x.mono (by decide)) (hb.x.mono (by decide))) (ae (iJ (i:=1) (j:=4) (k:=7) rfl rfl rfl (ha.y.mono (by decide)) (hb.y.mono (by decide))) (ae (iJ (i:=2) (j:=5) (k:=8) rfl rfl rfl (ha.z.mono (by decide)) (hb.z.mono (by decide))) ah)))
  ai Tryz.func81 (by kernel_rfl) ⟨(ag (xs:=jj a b) (ks:=[0,1,2]) (vs:=[a.x,a.y,a.z]) ⟨rfl,rfl,rfl,trivial⟩).2 ia,⟨(ag (xs:=jj a b) (ks:=[3,4,5]) (vs:=[b.x,b.y,b.z]) ⟨rfl,rfl,rfl,trivial⟩).2 ib,⟨rfl,trivial⟩⟩⟩).mono ?_
 rintro e w' ⟨v,rfl,h1,h2⟩;exact⟨v,rfl,(ag (xs:=jj a b) (ks:=[6,7,8]) (vs:=[(a.x.mul b.x),(a.y.mul b.y),(a.z.mul b.z)]) ⟨rfl,rfl,rfl,trivial⟩).1 h1,h2⟩
theorem zH {xs:List Fq} {ys:Rho} {ka:List Nat} {kb:List Nat} {a:Vq} {b:Vq} {kr:List Nat} (aa:AtL xs ka [a.x,a.y,a.z]) (ab:AtL xs kb [b.x,b.y,b.z]) (ar:AtL xs kr [(a.times b).x,(a.times b).y,(a.times b).z]) (ha:a.ok 100000000) (hb:b.ok 100000000):OkI xs ys ⟨81,[row ka,row kb,.one (.fn 136)],.v (row kr)⟩:=
 ⟨az Tryz.func81 rfl rfl,fun B w vs hB h=>by
  match vs,h with
  | [va,vb,vf],h=>
   have ef:vf=fnV 136:=h.2.2.1;subst ef;refine(zG va vb a b w ((ag aa).1 h.1) ((ag ab).1 h.2.1) ha hb).mono ?_;rintro e w' ⟨v,rfl,h1,h2⟩;exact⟨v,rfl,(ag ar).2 h1,h2⟩⟩
def sw (a:Vq) (b:Vq):List Fq:=[a.x,a.y,a.z,b.x,b.y,b.z,(a.add b).x,(a.add b).y,(a.add b).z]
theorem q_vAdd (va vb:Value) (a:Vq) (b:Vq) (w:World) (ia:cP w va a) (ib:cP w vb b) (ha:a.ok 100000000) (hb:b.ok 100000000):
  Calls Tryz.prog 137 #[va,vb] w fun e w'=>fj w (a.add b) e w':=by
 refine(cRn (ρ:=frs (sw a b)++ []) (args:=[row [0,1,2],row [3,4,5]]) (vs:=[va,vb]) (r:=.v (row [6,7,8]))
  (ae (zD (ka:=[0,1,2]) (a:=a) (kb:=[3,4,5]) (b:=b) (kr:=[6,7,8]) ⟨rfl,rfl,rfl,trivial⟩ ⟨rfl,rfl,rfl,trivial⟩ ⟨rfl,rfl,rfl,trivial⟩ (ha.mono (by decide)) (hb.mono (by decide))) ah)
  ai Tryz.func137 (by kernel_rfl) ⟨(ag (xs:=sw a b) (ks:=[0,1,2]) (vs:=[a.x,a.y,a.z]) ⟨rfl,rfl,rfl,trivial⟩).2 ia,⟨(ag (xs:=sw a b) (ks:=[3,4,5]) (vs:=[b.x,b.y,b.z]) ⟨rfl,rfl,rfl,trivial⟩).2 ib,trivial⟩⟩).mono ?_
 rintro e w' ⟨v,rfl,h1,h2⟩;exact⟨v,rfl,(ag (xs:=sw a b) (ks:=[6,7,8]) (vs:=[(a.add b).x,(a.add b).y,(a.add b).z]) ⟨rfl,rfl,rfl,trivial⟩).1 h1,h2⟩
theorem my {xs:List Fq} {ys:Rho} {ka:List Nat} {kb:List Nat} {a:Vq} {b:Vq} {kr:List Nat} (aa:AtL xs ka [a.x,a.y,a.z]) (ab:AtL xs kb [b.x,b.y,b.z]) (ar:AtL xs kr [(a.add b).x,(a.add b).y,(a.add b).z]) (ha:a.ok 100000000) (hb:b.ok 100000000):OkI xs ys ⟨137,[row ka,row kb],.v (row kr)⟩:=
 ⟨az Tryz.func137 rfl rfl,fun B w vs hB h=>by
  match vs,h with
  | [va,vb],h=>
   refine(q_vAdd va vb a b w ((ag aa).1 h.1) ((ag ab).1 h.2.1) ha hb).mono ?_;rintro e w' ⟨v,rfl,h1,h2⟩;exact⟨v,rfl,(ag ar).2 h1,h2⟩⟩
def sx (a:Vq) (b:Vq):List Fq:=[a.x,a.y,a.z,b.x,b.y,b.z,(a.sub b).x,(a.sub b).y,(a.sub b).z]
theorem q_vSub (va vb:Value) (a:Vq) (b:Vq) (w:World) (ia:cP w va a) (ib:cP w vb b) (ha:a.ok 100000000) (hb:b.ok 100000000):
  Calls Tryz.prog 25 #[va,vb] w fun e w'=>fj w (a.sub b) e w':=by
 refine(cRn (ρ:=frs (sx a b)++ []) (args:=[row [0,1,2],row [3,4,5]]) (vs:=[va,vb]) (r:=.v (row [6,7,8]))
  (ae (zF (ka:=[0,1,2]) (a:=a) (kb:=[3,4,5]) (b:=b) (kr:=[6,7,8]) ⟨rfl,rfl,rfl,trivial⟩ ⟨rfl,rfl,rfl,trivial⟩ ⟨rfl,rfl,rfl,trivial⟩ (ha.mono (by decide)) (hb.mono (by decide))) ah)
  ai Tryz.func25 (by kernel_rfl) ⟨(ag (xs:=sx a b) (ks:=[0,1,2]) (vs:=[a.x,a.y,a.z]) ⟨rfl,rfl,rfl,trivial⟩).2 ia,⟨(ag (xs:=sx a b) (ks:=[3,4,5]) (vs:=[b.x,b.y,b.z]) ⟨rfl,rfl,rfl,trivial⟩).2 ib,trivial⟩⟩).mono ?_
 rintro e w' ⟨v,rfl,h1,h2⟩;exact⟨v,rfl,(ag (xs:=sx a b) (ks:=[6,7,8]) (vs:=[(a.sub b).x,(a.sub b).y,(a.sub b).z]) ⟨rfl,rfl,rfl,trivial⟩).1 h1,h2⟩
theorem wy {xs:List Fq} {ys:Rho} {ka:List Nat} {kb:List Nat} {a:Vq} {b:Vq} {kr:List Nat} (aa:AtL xs ka [a.x,a.y,a.z]) (ab:AtL xs kb [b.x,b.y,b.z]) (ar:AtL xs kr [(a.sub b).x,(a.sub b).y,(a.sub b).z]) (ha:a.ok 100000000) (hb:b.ok 100000000):OkI xs ys ⟨25,[row ka,row kb],.v (row kr)⟩:=
 ⟨az Tryz.func25 rfl rfl,fun B w vs hB h=>by
  match vs,h with
  | [va,vb],h=>
   refine(q_vSub va vb a b w ((ag aa).1 h.1) ((ag ab).1 h.2.1) ha hb).mono ?_;rintro e w' ⟨v,rfl,h1,h2⟩;exact⟨v,rfl,(ag ar).2 h1,h2⟩⟩
def lp (a:Vq) (k:Fq):List Fq:=[a.x,a.y,a.z,k,(a.times (Vq.mk k k k)).x,(a.times (Vq.mk k k k)).y,(a.times (Vq.mk k k k)).z]
theorem q_vScale (va vk:Value) (a:Vq) (k:Fq) (w:World) (ia:cP w va a) (ik:IsQ w vk k) (ha:a.ok 100000000) (hk:k.ok 100000000):
  Calls Tryz.prog 118 #[va,vk] w fun e w'=>fj w (a.scale k) e w':=by
 refine(cRn (ρ:=frs (lp a k)++ []) (args:=[row [0,1,2],fr 3]) (vs:=[va,vk]) (r:=.v (row [4,5,6]))
  (ae (zH (ka:=[0,1,2]) (a:=a) (kb:=[3,3,3]) (b:=(Vq.mk k k k)) (kr:=[4,5,6]) ⟨rfl,rfl,rfl,trivial⟩ ⟨rfl,rfl,rfl,trivial⟩ ⟨rfl,rfl,rfl,trivial⟩ (ha.mono (by decide)) (⟨hk.mono (by decide),hk.mono (by decide),hk.mono (by decide)⟩:Vq.ok 100000000 (Vq.mk k k k))) ah)
  ai Tryz.func118 (by kernel_rfl) ⟨(ag (xs:=lp a k) (ks:=[0,1,2]) (vs:=[a.x,a.y,a.z]) ⟨rfl,rfl,rfl,trivial⟩).2 ia,⟨(aI (xs:=lp a k) (k:=3) rfl).2 ik,trivial⟩⟩).mono ?_
 rintro e w' ⟨v,rfl,h1,h2⟩;exact⟨v,rfl,(ag (xs:=lp a k) (ks:=[4,5,6]) (vs:=[(a.times (Vq.mk k k k)).x,(a.times (Vq.mk k k k)).y,(a.times (Vq.mk k k k)).z]) ⟨rfl,rfl,rfl,trivial⟩).1 h1,h2⟩
theorem dm {xs:List Fq} {ys:Rho} {ka:List Nat} {ik:Nat} {a:Vq} {k:Fq} {kr:List Nat} (aa:AtL xs ka [a.x,a.y,a.z]) (ak:xs[ik]? =some k) (ar:AtL xs kr [(a.scale k).x,(a.scale k).y,(a.scale k).z]) (ha:a.ok 100000000) (hk:k.ok 100000000):OkI xs ys ⟨118,[row ka,fr ik],.v (row kr)⟩:=
 ⟨az Tryz.func118 rfl rfl,fun B w vs hB h=>by
  match vs,h with
  | [va,vk],h=>
   refine(q_vScale va vk a k w ((ag aa).1 h.1) ((aI ak).1 h.2.1) ha hk).mono ?_;rintro e w' ⟨v,rfl,h1,h2⟩;exact⟨v,rfl,(ag ar).2 h1,h2⟩⟩
def sy (a:Vq) (b:Vq):List Fq:=[a.x,a.y,a.z,b.x,b.y,b.z,(a.x.mul b.x),(a.y.mul b.y),(a.z.mul b.z),((a.y.mul b.y).add (a.z.mul b.z)),((a.x.mul b.x).add ((a.y.mul b.y).add (a.z.mul b.z)))]
theorem q_vDot (va vb:Value) (a:Vq) (b:Vq) (w:World) (ia:cP w va a) (ib:cP w vb b) (ha:a.ok 100000000) (hb:b.ok 100000000):
  Calls Tryz.prog 29 #[va,vb] w fun e w'=>jx w (a.dot b) e w':=by
 refine(cRn (ρ:=frs (sy a b)++ []) (args:=[row [0,1,2],row [3,4,5]]) (vs:=[va,vb]) (r:=.v (fr 10))
  (ae (eK (ks:=[0,3]) (k:=6) ⟨rfl,rfl,trivial⟩ rfl (ha.x.mono (by decide)) (hb.x.mono (by decide))) (ae (eK (ks:=[1,4]) (k:=7) ⟨rfl,rfl,trivial⟩ rfl (ha.y.mono (by decide)) (hb.y.mono (by decide))) (ae (eK (ks:=[2,5]) (k:=8) ⟨rfl,rfl,trivial⟩ rfl (ha.z.mono (by decide)) (hb.z.mono (by decide))) (ae (mv (i:=7) (j:=8) (k:=9) rfl rfl rfl ((ha.y.mul hb.y).mono (by decide)) ((ha.z.mul hb.z).mono (by decide))) (ae (mv (i:=6) (j:=9) (k:=10) rfl rfl rfl ((ha.x.mul hb.x).mono (by decide)) (((ha.y.mul hb.y).add (ha.z.mul hb.z)).mono (by decide))) ah)))))
  ai Tryz.func29 (by kernel_rfl) ⟨(ag (xs:=sy a b) (ks:=[0,1,2]) (vs:=[a.x,a.y,a.z]) ⟨rfl,rfl,rfl,trivial⟩).2 ia,⟨(ag (xs:=sy a b) (ks:=[3,4,5]) (vs:=[b.x,b.y,b.z]) ⟨rfl,rfl,rfl,trivial⟩).2 ib,trivial⟩⟩).mono ?_
 rintro e w' ⟨v,rfl,h1,h2⟩;exact⟨v,rfl,(aI (xs:=sy a b) (k:=10) rfl).1 h1,h2⟩
theorem sA {xs:List Fq} {ys:Rho} {ka:List Nat} {kb:List Nat} {a:Vq} {b:Vq} {ir:Nat} (aa:AtL xs ka [a.x,a.y,a.z]) (ab:AtL xs kb [b.x,b.y,b.z]) (ar:xs[ir]? =some (a.dot b)) (ha:a.ok 100000000) (hb:b.ok 100000000):OkI xs ys ⟨29,[row ka,row kb],.v (fr ir)⟩:=
 ⟨az Tryz.func29 rfl rfl,fun B w vs hB h=>by
  match vs,h with
  | [va,vb],h=>
   refine(q_vDot va vb a b w ((ag aa).1 h.1) ((ag ab).1 h.2.1) ha hb).mono ?_;rintro e w' ⟨v,rfl,h1,h2⟩;exact⟨v,rfl,(aI ar).2 h1,h2⟩⟩
def lw (a:Vq) (b:Vq):List Fq:=[a.x,a.y,a.z,b.x,b.y,b.z,(a.y.mul b.z),(a.z.mul b.y),((a.y.mul b.z).sub (a.z.mul b.y)),(a.z.mul b.x),(a.x.mul b.z),((a.z.mul b.x).sub (a.x.mul b.z)),(a.x.mul b.y),(a.y.mul b.x),((a.x.mul b.y).sub (a.y.mul b.x))]
theorem q_vCross (va vb:Value) (a:Vq) (b:Vq) (w:World) (ia:cP w va a) (ib:cP w vb b) (ha:a.ok 100000000) (hb:b.ok 100000000):
  Calls Tryz.prog 138 #[va,vb] w fun e w'=>fj w (a.cross b) e w':=by
 refine(cRn (ρ:=frs (lw a b)++ []) (args:=[row [0,1,2],row [3,4,5]]) (vs:=[va,vb]) (r:=.v (row [8,11,14]))
  (ae (eK (ks:=[1,5]) (k:=6) ⟨rfl,rfl,trivial⟩ rfl (ha.y.mono (by decide)) (hb.z.mono (by decide))) (ae (eK (ks:=[2,4]) (k:=7) ⟨rfl,rfl,trivial⟩ rfl (ha.z.mono (by decide)) (hb.y.mono (by decide))) (ae (ww (ks:=[6,7]) (k:=8) ⟨rfl,rfl,trivial⟩ rfl ((ha.y.mul hb.z).mono (by decide)) ((ha.z.mul hb.y).mono (by decide))) (ae (eK (ks:=[2,3]) (k:=9) ⟨rfl,rfl,trivial⟩ rfl (ha.z.mono (by decide)) (hb.x.mono (by decide))) (ae (eK (ks:=[0,5]) (k:=10) ⟨rfl,rfl,trivial⟩ rfl (ha.x.mono (by decide)) (hb.z.mono (by decide))) (ae (ww (ks:=[9,10]) (k:=11) ⟨rfl,rfl,trivial⟩ rfl ((ha.z.mul hb.x).mono (by decide)) ((ha.x.mul hb.z).mono (by decide))) (ae (eK (ks:=[0,4]) (k:=12) ⟨rfl,rfl,trivial⟩ rfl (ha.x.mono (by decide)) (hb.y.mono (by decide))) (ae (eK (ks:=[1,3]) (k:=13) ⟨rfl,rfl,trivial⟩ rfl (ha.y.mono (by decide)) (hb.x.mono (by decide))) (ae (ww (ks:=[12,13]) (k:=14) ⟨rfl,rfl,trivial⟩ rfl ((ha.x.mul hb.y).mono (by decide)) ((ha.y.mul hb.x).mono (by decide))) ah)))))))))
  ai Tryz.func138 (by kernel_rfl) ⟨(ag (xs:=lw a b) (ks:=[0,1,2]) (vs:=[a.x,a.y,a.z]) ⟨rfl,rfl,rfl,trivial⟩).2 ia,⟨(ag (xs:=lw a b) (ks:=[3,4,5]) (vs:=[b.x,b.y,b.z]) ⟨rfl,rfl,rfl,trivial⟩).2 ib,trivial⟩⟩).mono ?_
 rintro e w' ⟨v,rfl,h1,h2⟩;exact⟨v,rfl,(ag (xs:=lw a b) (ks:=[8,11,14]) (vs:=[((a.y.mul b.z).sub (a.z.mul b.y)),((a.z.mul b.x).sub (a.x.mul b.z)),((a.x.mul b.y).sub (a.y.mul b.x))]) ⟨rfl,rfl,rfl,trivial⟩).1 h1,h2⟩
theorem uu {xs:List Fq} {ys:Rho} {ka:List Nat} {kb:List Nat} {a:Vq} {b:Vq} {kr:List Nat} (aa:AtL xs ka [a.x,a.y,a.z]) (ab:AtL xs kb [b.x,b.y,b.z]) (ar:AtL xs kr [(a.cross b).x,(a.cross b).y,(a.cross b).z]) (ha:a.ok 100000000) (hb:b.ok 100000000):OkI xs ys ⟨138,[row ka,row kb],.v (row kr)⟩:=
 ⟨az Tryz.func138 rfl rfl,fun B w vs hB h=>by
  match vs,h with
  | [va,vb],h=>
   refine(q_vCross va vb a b w ((ag aa).1 h.1) ((ag ab).1 h.2.1) ha hb).mono ?_;rintro e w' ⟨v,rfl,h1,h2⟩;exact⟨v,rfl,(ag ar).2 h1,h2⟩⟩
def Vq.same (a b:Vq):Bool:=a.x.same b.x && (a.y.same b.y && a.z.same b.z)
def Qq.same (p q:Qq):Bool:=p.w.same q.w && (p.x.same q.x && (p.y.same q.y && p.z.same q.z))
theorem Vq.same_iff {a b:Vq}:a.same b=true↔a=b:=by
 obtain⟨a1,a2,a3⟩:=a;obtain⟨b1,b2,b3⟩:=b;simp[Vq.same,Fq.same_iff]
theorem Qq.same_iff {a b:Qq}:a.same b=true↔a=b:=by
 obtain⟨a1,a2,a3,a4⟩:=a;obtain⟨b1,b2,b3,b4⟩:=b;simp[Qq.same,Fq.same_iff]
theorem same_ne {x y:Fq} (h:x≠y):x.same y=false:=Bool.eq_false_iff.2 (mt Fq.same_iff.1 h)
theorem z0:nl 0≤1000000000000:=by rw[bv];decide
def wz (q:Qq):List Fq:=q.cs
theorem q_axis (vq:Value) (q:Qq) (w:World) (iq:fC w vq q) (hq:q.ok 1000000000):
  Calls Tryz.prog 135 #[vq] w fun e w'=>fj w q.axis e w':=by
 refine(cRn (ρ:=frs (wz q)++ []) (args:=[row [0,1,2,3]]) (vs:=[vq]) (r:=.v (row [1,2,3]))
  (ah)
  ai Tryz.func135 (by kernel_rfl) ⟨(ag (xs:=wz q) (ks:=[0,1,2,3]) (vs:=q.cs) ⟨rfl,rfl,rfl,rfl,trivial⟩).2 iq,trivial⟩).mono ?_
 rintro e w' ⟨v,rfl,h1,h2⟩;exact⟨v,rfl,(ag (xs:=wz q) (ks:=[1,2,3]) (vs:=[q.x,q.y,q.z]) ⟨rfl,rfl,rfl,trivial⟩).1 h1,h2⟩
theorem oW {xs:List Fq} {ys:Rho} {kq:List Nat} {q:Qq} {kr:List Nat} (aq:AtL xs kq q.cs) (ar:AtL xs kr [q.axis.x,q.axis.y,q.axis.z]) (hq:q.ok 1000000000):OkI xs ys ⟨135,[row kq],.v (row kr)⟩:=
 ⟨az Tryz.func135 rfl rfl,fun B w vs hB h=>by
  match vs,h with
  | [vq],h=>
   refine(q_axis vq q w ((ag aq).1 h.1) hq).mono ?_;rintro e w' ⟨v,rfl,h1,h2⟩;exact⟨v,rfl,(ag ar).2 h1,h2⟩⟩
def sB (q:Qq):List Fq:=q.cs
theorem q_parts (vq:Value) (q:Qq) (w:World) (iq:fC w vq q) (hq:q.ok 1000000000):
  Calls Tryz.prog 177 #[vq] w fun e w'=>oV w q e w':=by
 refine(cRn (ρ:=frs (sB q)++ []) (args:=[row [0,1,2,3]]) (vs:=[vq]) (r:=.v (row [0,1,2,3]))
  (ah)
  ai Tryz.func177 (by kernel_rfl) ⟨(ag (xs:=sB q) (ks:=[0,1,2,3]) (vs:=q.cs) ⟨rfl,rfl,rfl,rfl,trivial⟩).2 iq,trivial⟩).mono ?_
 rintro e w' ⟨v,rfl,h1,h2⟩;exact⟨v,rfl,(ag (xs:=sB q) (ks:=[0,1,2,3]) (vs:=q.cs) ⟨rfl,rfl,rfl,rfl,trivial⟩).1 h1,h2⟩
theorem bQ {xs:List Fq} {ys:Rho} {kq:List Nat} {q:Qq} {kr:List Nat} (aq:AtL xs kq q.cs) (ar:AtL xs kr q.cs) (hq:q.ok 1000000000):OkI xs ys ⟨177,[row kq],.v (row kr)⟩:=
 ⟨az Tryz.func177 rfl rfl,fun B w vs hB h=>by
  match vs,h with
  | [vq],h=>
   refine(q_parts vq q w ((ag aq).1 h.1) hq).mono ?_;rintro e w' ⟨v,rfl,h1,h2⟩;exact⟨v,rfl,(ag ar).2 h1,h2⟩⟩
def mz (a:Qq) (b:Qq):List Fq:=(a.cs++(b.cs))
theorem zI (va vb:Value) (a:Qq) (b:Qq) (w:World) (ia:fC w va a) (ib:fC w vb b) (ha:a.ok 100000000) (hb:b.ok 100000000) (e0:a=b) (ga:a.comp) (gb:b.comp):
  Calls Tryz.prog 115 #[va,vb] w fun e w'=>cI w (.bool true) e w':=by
 refine(cRn (ρ:=frs (mz a b)++ []) (args:=[row [0,1,2,3],row [4,5,6,7]]) (vs:=[va,vb]) (r:=.v (.one (.b true)))
  (ae (bQ (kq:=[0,1,2,3]) (q:=a) (kr:=[0,1,2,3]) ⟨rfl,rfl,rfl,rfl,trivial⟩ ⟨rfl,rfl,rfl,rfl,trivial⟩ (ha.mono (by decide))) (ae (bQ (kq:=[4,5,6,7]) (q:=b) (kr:=[4,5,6,7]) ⟨rfl,rfl,rfl,rfl,trivial⟩ ⟨rfl,rfl,rfl,rfl,trivial⟩ (hb.mono (by decide))) (ae (bo (i:=0) (j:=4) rfl rfl (li ((bn ga.w gb.w).2 (congrArg Qq.w e0))) (ha.w.mono (by decide)) (hb.w.mono (by decide))) (ae (bo (i:=1) (j:=5) rfl rfl (li ((bn ga.x gb.x).2 (congrArg Qq.x e0))) (ha.x.mono (by decide)) (hb.x.mono (by decide))) (ae (bo (i:=2) (j:=6) rfl rfl (li ((bn ga.y gb.y).2 (congrArg Qq.y e0))) (ha.y.mono (by decide)) (hb.y.mono (by decide))) (ae (bo (i:=3) (j:=7) rfl rfl (li ((bn ga.z gb.z).2 (congrArg Qq.z e0))) (ha.z.mono (by decide)) (hb.z.mono (by decide))) ah))))))
  ai Tryz.func115 (by kernel_rfl) ⟨(ag (xs:=mz a b) (ks:=[0,1,2,3]) (vs:=a.cs) ⟨rfl,rfl,rfl,rfl,trivial⟩).2 ia,⟨(ag (xs:=mz a b) (ks:=[4,5,6,7]) (vs:=b.cs) ⟨rfl,rfl,rfl,rfl,trivial⟩).2 ib,trivial⟩⟩).mono ?_
 rintro e w' ⟨v,rfl,h1,h2⟩;exact⟨congrArg Ending.returned h1,h2⟩
theorem qZ {xs:List Fq} {ys:Rho} {ka:List Nat} {kb:List Nat} {a:Qq} {b:Qq} (aa:AtL xs ka a.cs) (ab:AtL xs kb b.cs) (ha:a.ok 100000000) (hb:b.ok 100000000) (e0:a=b) (ga:a.comp) (gb:b.comp):OkI xs ys ⟨115,[row ka,row kb],.v (.one (.b true))⟩:=
 ⟨az Tryz.func115 rfl rfl,fun B w vs hB h=>by
  match vs,h with
  | [va,vb],h=>
   refine(zI va vb a b w ((ag aa).1 h.1) ((ag ab).1 h.2.1) ha hb e0 ga gb).mono ?_;rintro e w' ⟨rfl,h2⟩;exact⟨_,rfl,rfl,h2⟩⟩
def mA (a:Qq) (b:Qq):List Fq:=(a.cs++(b.cs))
def jT (a:Qq) (b:Qq):List Fq:=(a.cs++(b.cs))
def jU (a:Qq) (b:Qq):List Fq:=(a.cs++(b.cs))
def jV (a:Qq) (b:Qq):List Fq:=(a.cs++(b.cs))
theorem zJ (va vb:Value) (a:Qq) (b:Qq) (w:World) (ia:fC w va a) (ib:fC w vb b) (ha:a.ok 100000000) (hb:b.ok 100000000) (e0:a≠b) (ga:a.comp) (gb:b.comp):
  Calls Tryz.prog 115 #[va,vb] w fun e w'=>cI w (.bool false) e w':=by
 by_cases c0:a.w=b.w
 ·by_cases c1:a.x=b.x
  ·by_cases c2:a.y=b.y
   ·by_cases c3:a.z=b.z
    ·exact absurd (by cases a;cases b;simp only at c0 c1 c2 c3;subst c0 c1 c2 c3;rfl) e0
    ·refine(cRn (ρ:=frs (mA a b)++([.val (.int .i64 (a.z.cmp b.z))]:List Vp)) (args:=[row [0,1,2,3],row [4,5,6,7]]) (vs:=[va,vb]) (r:=.v (.one (.b false)))
      (ae (bQ (kq:=[0,1,2,3]) (q:=a) (kr:=[0,1,2,3]) ⟨rfl,rfl,rfl,rfl,trivial⟩ ⟨rfl,rfl,rfl,rfl,trivial⟩ (ha.mono (by decide))) (ae (bQ (kq:=[4,5,6,7]) (q:=b) (kr:=[4,5,6,7]) ⟨rfl,rfl,rfl,rfl,trivial⟩ ⟨rfl,rfl,rfl,rfl,trivial⟩ (hb.mono (by decide))) (ae (bo (i:=0) (j:=4) rfl rfl (li ((bn ga.w gb.w).2 c0)) (ha.w.mono (by decide)) (hb.w.mono (by decide))) (ae (bo (i:=1) (j:=5) rfl rfl (li ((bn ga.x gb.x).2 c1)) (ha.x.mono (by decide)) (hb.x.mono (by decide))) (ae (bo (i:=2) (j:=6) rfl rfl (li ((bn ga.y gb.y).2 c2)) (ha.y.mono (by decide)) (hb.y.mono (by decide))) (ae (bo (i:=3) (j:=7) rfl rfl (lr (n:=24) rfl) (ha.z.mono (by decide)) (hb.z.mono (by decide))) ah))))))
      (af (gY (n:=24) (c:=0) (t:=3) rfl (sr (mt (bn ga.z gb.z).1 c3))) (ai)) Tryz.func115 (by kernel_rfl) ⟨(ag (xs:=mA a b) (ks:=[0,1,2,3]) (vs:=a.cs) ⟨rfl,rfl,rfl,rfl,trivial⟩).2 ia,⟨(ag (xs:=mA a b) (ks:=[4,5,6,7]) (vs:=b.cs) ⟨rfl,rfl,rfl,rfl,trivial⟩).2 ib,trivial⟩⟩).mono ?_
     rintro e w' ⟨v,rfl,h1,h2⟩;exact⟨congrArg Ending.returned h1,h2⟩
   ·refine(cRn (ρ:=frs (jT a b)++([.val (.int .i64 (a.y.cmp b.y))]:List Vp)) (args:=[row [0,1,2,3],row [4,5,6,7]]) (vs:=[va,vb]) (r:=.v (.one (.b false)))
     (ae (bQ (kq:=[0,1,2,3]) (q:=a) (kr:=[0,1,2,3]) ⟨rfl,rfl,rfl,rfl,trivial⟩ ⟨rfl,rfl,rfl,rfl,trivial⟩ (ha.mono (by decide))) (ae (bQ (kq:=[4,5,6,7]) (q:=b) (kr:=[4,5,6,7]) ⟨rfl,rfl,rfl,rfl,trivial⟩ ⟨rfl,rfl,rfl,rfl,trivial⟩ (hb.mono (by decide))) (ae (bo (i:=0) (j:=4) rfl rfl (li ((bn ga.w gb.w).2 c0)) (ha.w.mono (by decide)) (hb.w.mono (by decide))) (ae (bo (i:=1) (j:=5) rfl rfl (li ((bn ga.x gb.x).2 c1)) (ha.x.mono (by decide)) (hb.x.mono (by decide))) (ae (bo (i:=2) (j:=6) rfl rfl (lr (n:=24) rfl) (ha.y.mono (by decide)) (hb.y.mono (by decide))) ah)))))
     (af (gY (n:=24) (c:=0) (t:=3) rfl (sr (mt (bn ga.y gb.y).1 c2))) (ai)) Tryz.func115 (by kernel_rfl) ⟨(ag (xs:=jT a b) (ks:=[0,1,2,3]) (vs:=a.cs) ⟨rfl,rfl,rfl,rfl,trivial⟩).2 ia,⟨(ag (xs:=jT a b) (ks:=[4,5,6,7]) (vs:=b.cs) ⟨rfl,rfl,rfl,rfl,trivial⟩).2 ib,trivial⟩⟩).mono ?_
    rintro e w' ⟨v,rfl,h1,h2⟩;exact⟨congrArg Ending.returned h1,h2⟩
  ·refine(cRn (ρ:=frs (jU a b)++([.val (.int .i64 (a.x.cmp b.x))]:List Vp)) (args:=[row [0,1,2,3],row [4,5,6,7]]) (vs:=[va,vb]) (r:=.v (.one (.b false)))
    (ae (bQ (kq:=[0,1,2,3]) (q:=a) (kr:=[0,1,2,3]) ⟨rfl,rfl,rfl,rfl,trivial⟩ ⟨rfl,rfl,rfl,rfl,trivial⟩ (ha.mono (by decide))) (ae (bQ (kq:=[4,5,6,7]) (q:=b) (kr:=[4,5,6,7]) ⟨rfl,rfl,rfl,rfl,trivial⟩ ⟨rfl,rfl,rfl,rfl,trivial⟩ (hb.mono (by decide))) (ae (bo (i:=0) (j:=4) rfl rfl (li ((bn ga.w gb.w).2 c0)) (ha.w.mono (by decide)) (hb.w.mono (by decide))) (ae (bo (i:=1) (j:=5) rfl rfl (lr (n:=24) rfl) (ha.x.mono (by decide)) (hb.x.mono (by decide))) ah))))
    (af (gY (n:=24) (c:=0) (t:=3) rfl (sr (mt (bn ga.x gb.x).1 c1))) (ai)) Tryz.func115 (by kernel_rfl) ⟨(ag (xs:=jU a b) (ks:=[0,1,2,3]) (vs:=a.cs) ⟨rfl,rfl,rfl,rfl,trivial⟩).2 ia,⟨(ag (xs:=jU a b) (ks:=[4,5,6,7]) (vs:=b.cs) ⟨rfl,rfl,rfl,rfl,trivial⟩).2 ib,trivial⟩⟩).mono ?_
   rintro e w' ⟨v,rfl,h1,h2⟩;exact⟨congrArg Ending.returned h1,h2⟩
 ·refine(cRn (ρ:=frs (jV a b)++([.val (.int .i64 (a.w.cmp b.w))]:List Vp)) (args:=[row [0,1,2,3],row [4,5,6,7]]) (vs:=[va,vb]) (r:=.v (.one (.b false)))
   (ae (bQ (kq:=[0,1,2,3]) (q:=a) (kr:=[0,1,2,3]) ⟨rfl,rfl,rfl,rfl,trivial⟩ ⟨rfl,rfl,rfl,rfl,trivial⟩ (ha.mono (by decide))) (ae (bQ (kq:=[4,5,6,7]) (q:=b) (kr:=[4,5,6,7]) ⟨rfl,rfl,rfl,rfl,trivial⟩ ⟨rfl,rfl,rfl,rfl,trivial⟩ (hb.mono (by decide))) (ae (bo (i:=0) (j:=4) rfl rfl (lr (n:=24) rfl) (ha.w.mono (by decide)) (hb.w.mono (by decide))) ah)))
   (af (gY (n:=24) (c:=0) (t:=3) rfl (sr (mt (bn ga.w gb.w).1 c0))) (ai)) Tryz.func115 (by kernel_rfl) ⟨(ag (xs:=jV a b) (ks:=[0,1,2,3]) (vs:=a.cs) ⟨rfl,rfl,rfl,rfl,trivial⟩).2 ia,⟨(ag (xs:=jV a b) (ks:=[4,5,6,7]) (vs:=b.cs) ⟨rfl,rfl,rfl,rfl,trivial⟩).2 ib,trivial⟩⟩).mono ?_
  rintro e w' ⟨v,rfl,h1,h2⟩;exact⟨congrArg Ending.returned h1,h2⟩
theorem zK {xs:List Fq} {ys:Rho} {ka:List Nat} {kb:List Nat} {a:Qq} {b:Qq} (aa:AtL xs ka a.cs) (ab:AtL xs kb b.cs) (ha:a.ok 100000000) (hb:b.ok 100000000) (e0:a≠b) (ga:a.comp) (gb:b.comp):OkI xs ys ⟨115,[row ka,row kb],.v (.one (.b false))⟩:=
 ⟨az Tryz.func115 rfl rfl,fun B w vs hB h=>by
  match vs,h with
  | [va,vb],h=>
   refine(zJ va vb a b w ((ag aa).1 h.1) ((ag ab).1 h.2.1) ha hb e0 ga gb).mono ?_;rintro e w' ⟨rfl,h2⟩;exact⟨_,rfl,rfl,h2⟩⟩
def sC (q:Qq):List Fq:=q.cs
theorem q_whole (vq:Value) (q:Qq) (w:World) (iq:fC w vq q) (hq:q.ok 1000000000):
  Calls Tryz.prog 140 #[vq] w fun e w'=>oV w q e w':=by
 refine(cRn (ρ:=frs (sC q)++ []) (args:=[row [0,1,2,3]]) (vs:=[vq]) (r:=.v (row [0,1,2,3]))
  (ah)
  ai Tryz.func140 (by kernel_rfl) ⟨(ag (xs:=sC q) (ks:=[0,1,2,3]) (vs:=q.cs) ⟨rfl,rfl,rfl,rfl,trivial⟩).2 iq,trivial⟩).mono ?_
 rintro e w' ⟨v,rfl,h1,h2⟩;exact⟨v,rfl,(ag (xs:=sC q) (ks:=[0,1,2,3]) (vs:=q.cs) ⟨rfl,rfl,rfl,rfl,trivial⟩).1 h1,h2⟩
theorem lz {xs:List Fq} {ys:Rho} {kq:List Nat} {q:Qq} {kr:List Nat} (aq:AtL xs kq q.cs) (ar:AtL xs kr q.cs) (hq:q.ok 1000000000):OkI xs ys ⟨140,[row kq],.v (row kr)⟩:=
 ⟨az Tryz.func140 rfl rfl,fun B w vs hB h=>by
  match vs,h with
  | [vq],h=>
   refine(q_whole vq q w ((ag aq).1 h.1) hq).mono ?_;rintro e w' ⟨v,rfl,h1,h2⟩;exact⟨v,rfl,(ag ar).2 h1,h2⟩⟩
def yl (q:Qq):List Fq:=q.cs
theorem q_Half1 (vq:Value) (q:Qq) (w:World) (iq:fC w vq q) (hq:q.ok 1000000000) (h0:q.w.p=0):
  Calls Tryz.prog 259 #[vq] w fun e w'=>cI w (.bool true) e w':=by
 refine(cRn (ρ:=frs (yl q)++ []) (args:=[row [0,1,2,3]]) (vs:=[vq]) (r:=.v (.one (.b true)))
  (ae (aQ (i:=0) rfl (li (fh h0)) (hq.w.mono (by decide))) ah)
  ai Tryz.func259 (by kernel_rfl) ⟨(ag (xs:=yl q) (ks:=[0,1,2,3]) (vs:=q.cs) ⟨rfl,rfl,rfl,rfl,trivial⟩).2 iq,trivial⟩).mono ?_
 rintro e w' ⟨v,rfl,h1,h2⟩;exact⟨congrArg Ending.returned h1,h2⟩
theorem I_Half1 {xs:List Fq} {ys:Rho} {kq:List Nat} {q:Qq} (aq:AtL xs kq q.cs) (hq:q.ok 1000000000) (h0:q.w.p=0):OkI xs ys ⟨259,[row kq],.v (.one (.b true))⟩:=
 ⟨az Tryz.func259 rfl rfl,fun B w vs hB h=>by
  match vs,h with
  | [vq],h=>
   refine(q_Half1 vq q w ((ag aq).1 h.1) hq h0).mono ?_;rintro e w' ⟨rfl,h2⟩;exact⟨_,rfl,rfl,h2⟩⟩
def ym (q:Qq):List Fq:=q.cs
theorem q_Half0 (vq:Value) (q:Qq) (w:World) (iq:fC w vq q) (hq:q.ok 1000000000) (h0:q.w.p≠0):
  Calls Tryz.prog 259 #[vq] w fun e w'=>cI w (.bool false) e w':=by
 refine(cRn (ρ:=frs (ym q)++([.val (.int .i64 q.w.sgn)]:List Vp)) (args:=[row [0,1,2,3]]) (vs:=[vq]) (r:=.v (.one (.b false)))
  (ae (aQ (i:=0) rfl (lr (n:=12) rfl) (hq.w.mono (by decide))) ah)
  (af (iG (n:=12) (c:=0) (t:=3) rfl (mx h0)) (ai)) Tryz.func259 (by kernel_rfl) ⟨(ag (xs:=ym q) (ks:=[0,1,2,3]) (vs:=q.cs) ⟨rfl,rfl,rfl,rfl,trivial⟩).2 iq,trivial⟩).mono ?_
 rintro e w' ⟨v,rfl,h1,h2⟩;exact⟨congrArg Ending.returned h1,h2⟩
theorem I_Half0 {xs:List Fq} {ys:Rho} {kq:List Nat} {q:Qq} (aq:AtL xs kq q.cs) (hq:q.ok 1000000000) (h0:q.w.p≠0):OkI xs ys ⟨259,[row kq],.v (.one (.b false))⟩:=
 ⟨az Tryz.func259 rfl rfl,fun B w vs hB h=>by
  match vs,h with
  | [vq],h=>
   refine(q_Half0 vq q w ((ag aq).1 h.1) hq h0).mono ?_;rintro e w' ⟨rfl,h2⟩;exact⟨_,rfl,rfl,h2⟩⟩
def xfIdX:List Fq:=[(Fq.ofInt 1),(Fq.ofInt 0)]
theorem oX:Qq.id.ok 2:=⟨aL (by decide) (by decide),aL (by decide) (by decide),aL (by decide) (by decide),aL (by decide) (by decide)⟩
theorem q_fId (w:World):
  Calls Tryz.prog 79 #[] w fun e w'=>oV w Qq.id e w':=by
 refine(cRn (ρ:=frs (xfIdX)++ []) (args:=[]) (vs:=[]) (r:=.v (row [0,1,1,1]))
  (ae (cV (k:=0) rfl (by decide) (by decide)) (ae (cV (k:=1) rfl (by decide) (by decide)) (ae (lz (kq:=[0,1,1,1]) (q:=(Qq.mk (Fq.ofInt 1) (Fq.ofInt 0) (Fq.ofInt 0) (Fq.ofInt 0))) (kr:=[0,1,1,1]) ⟨rfl,rfl,rfl,rfl,trivial⟩ ⟨rfl,rfl,rfl,rfl,trivial⟩ (⟨(aL (u:=1) (by decide) (by decide)).mono (by decide),(aL (u:=0) (by decide) (by decide)).mono (by decide),(aL (u:=0) (by decide) (by decide)).mono (by decide),(aL (u:=0) (by decide) (by decide)).mono (by decide)⟩:Qq.ok 1000000000 (Qq.mk (Fq.ofInt 1) (Fq.ofInt 0) (Fq.ofInt 0) (Fq.ofInt 0)))) ah)))
  ai Tryz.func79 (by kernel_rfl) trivial).mono ?_
 rintro e w' ⟨v,rfl,h1,h2⟩;exact⟨v,rfl,(ag (xs:=xfIdX) (ks:=[0,1,1,1]) (vs:=[(Fq.ofInt 1),(Fq.ofInt 0),(Fq.ofInt 0),(Fq.ofInt 0)]) ⟨rfl,rfl,rfl,rfl,trivial⟩).1 h1,h2⟩
theorem I_fId {xs:List Fq} {ys:Rho} {kr:List Nat} (ar:AtL xs kr Qq.id.cs):OkI xs ys ⟨79,[],.v (row kr)⟩:=
 ⟨az Tryz.func79 rfl rfl,fun B w vs hB h=>by
  match vs,h with
  | [],h=>
   refine(q_fId w).mono ?_;rintro e w' ⟨v,rfl,h1,h2⟩;exact⟨v,rfl,(ag ar).2 h1,h2⟩⟩
theorem lA {q:Qq} (h0:q.first.p≠0):q.canon=q.over q.first:=by unfold Qq.canon;rw[if_neg h0]
theorem Qq.ok.mk4 {a b c e:Fq} {d:Nat} (h1:a.ok d) (h2:b.ok d) (h3:c.ok d) (h4:e.ok d):(Qq.mk a b c e).ok d:=⟨h1,h2,h3,h4⟩
theorem zL {u:Fq} {c:Vq} {d e:Nat} (h1:u.ok d) (h2:c.ok e) (h0:(Qq.mk u c.x c.y c.z).first.p≠0):(Qq.mk u c.x c.y c.z).canon.ok (d+e+(d+e)):=(Qq.ok.mk4 (h1.mono (by omega)) (h2.x.mono (by omega)) (h2.y.mono (by omega)) (h2.z.mono (by omega)):Qq.ok (d+e) _).canon h0
def gw (p0:Fq) (p1:Fq) (p2:Fq) (p3:Fq):List Fq:=[p0,p1,p2,p3,(p0.div p3),(p1.div p3),(p2.div p3),(p3.div p3)]
def eR (p0:Fq) (p1:Fq) (p2:Fq) (p3:Fq):List Fq:=[p0,p1,p2,p3,(p0.div p2),(p1.div p2),(p2.div p2),(p3.div p2)]
def eT (p0:Fq) (p1:Fq) (p2:Fq) (p3:Fq):List Fq:=[p0,p1,p2,p3,(p0.div p1),(p1.div p1),(p2.div p1),(p3.div p1)]
def eU (p0:Fq) (p1:Fq) (p2:Fq) (p3:Fq):List Fq:=[p0,p1,p2,p3,(p0.div p0),(p1.div p0),(p2.div p0),(p3.div p0)]
theorem q_fMakeT (vp0 vp1 vp2 vp3:Value) (p0:Fq) (p1:Fq) (p2:Fq) (p3:Fq) (w:World) (ip0:IsQ w vp0 p0) (ip1:IsQ w vp1 p1) (ip2:IsQ w vp2 p2) (ip3:IsQ w vp3 p3) (hp0:p0.ok 100000000) (hp1:p1.ok 100000000) (hp2:p2.ok 100000000) (hp3:p3.ok 100000000) (h0:(Qq.mk p0 p1 p2 p3).first.p≠0):
  Calls Tryz.prog 195 #[vp0,vp1,vp2,vp3] w fun e w'=>wu w (Qq.mk p0 p1 p2 p3).canon 0 e w':=by
 by_cases c0:p0.p=0
 ·by_cases c1:p1.p=0
  ·by_cases c2:p2.p=0
   ·by_cases c3:p3.p=0
    ·exact absurd (by simp[Qq.first,c0,c1,c2,c3]) h0
    ·have e1:(Qq.mk p0 p1 p2 p3).first=p3:=by simp[Qq.first,c0,c1,c2,c3]
     rw[lA h0,e1];refine(cRn (ρ:=frs (gw p0 p1 p2 p3)++([.val (.int .i64 p3.sgn)]:List Vp)) (args:=[fr 0,fr 1,fr 2,fr 3]) (vs:=[vp0,vp1,vp2,vp3]) (r:=.tup [row [4,5,6,7],.one (.i .i64 0)])
      (ae (aQ (i:=0) rfl (li (fh c0)) (hp0.mono (by decide))) (ae (aQ (i:=1) rfl (li (fh c1)) (hp1.mono (by decide))) (ae (aQ (i:=2) rfl (li (fh c2)) (hp2.mono (by decide))) (ae (aQ (i:=3) rfl (lr (n:=24) rfl) (hp3.mono (by decide))) (ae (cU (i:=0) (j:=3) (k:=4) rfl rfl rfl (hp0.mono (by decide)) (hp3.mono (by decide)) c3) (ae (cU (i:=1) (j:=3) (k:=5) rfl rfl rfl (hp1.mono (by decide)) (hp3.mono (by decide)) c3) (ae (cU (i:=2) (j:=3) (k:=6) rfl rfl rfl (hp2.mono (by decide)) (hp3.mono (by decide)) c3) (ae (cU (i:=3) (j:=3) (k:=7) rfl rfl rfl (hp3.mono (by decide)) (hp3.mono (by decide)) c3) (ae (lz (kq:=[4,5,6,7]) (q:=(Qq.mk (p0.div p3) (p1.div p3) (p2.div p3) (p3.div p3))) (kr:=[4,5,6,7]) ⟨rfl,rfl,rfl,rfl,trivial⟩ ⟨rfl,rfl,rfl,rfl,trivial⟩ (⟨(hp0.div hp3 c3).mono (by decide),(hp1.div hp3 c3).mono (by decide),(hp2.div hp3 c3).mono (by decide),(hp3.div hp3 c3).mono (by decide)⟩:Qq.ok 1000000000 (Qq.mk (p0.div p3) (p1.div p3) (p2.div p3) (p3.div p3)))) ah)))))))))
      (af (iG (n:=24) (c:=0) (t:=3) rfl (mx c3)) (ai)) Tryz.func195 (by kernel_rfl) ⟨(aI (xs:=gw p0 p1 p2 p3) (k:=0) rfl).2 ip0,⟨(aI (xs:=gw p0 p1 p2 p3) (k:=1) rfl).2 ip1,⟨(aI (xs:=gw p0 p1 p2 p3) (k:=2) rfl).2 ip2,⟨(aI (xs:=gw p0 p1 p2 p3) (k:=3) rfl).2 ip3,trivial⟩⟩⟩⟩).mono ?_
     rintro e w' ⟨v,rfl,⟨vs,rfl,h1⟩,h2⟩
     match vs,h1 with
     | [r,c],h1=>
      obtain⟨⟨cs,rfl,k1⟩,k2,_⟩:=h1;have k2:c=_:=k2;subst k2;exact⟨_,rfl,(ag (xs:=gw p0 p1 p2 p3) (ks:=[4,5,6,7]) (vs:=[(p0.div p3),(p1.div p3),(p2.div p3),(p3.div p3)]) ⟨rfl,rfl,rfl,rfl,trivial⟩).1 ⟨_,rfl,k1⟩,h2⟩
   ·have e1:(Qq.mk p0 p1 p2 p3).first=p2:=by simp[Qq.first,c0,c1,c2]
    rw[lA h0,e1];refine(cRn (ρ:=frs (eR p0 p1 p2 p3)++([.val (.int .i64 p2.sgn)]:List Vp)) (args:=[fr 0,fr 1,fr 2,fr 3]) (vs:=[vp0,vp1,vp2,vp3]) (r:=.tup [row [4,5,6,7],.one (.i .i64 0)])
     (ae (aQ (i:=0) rfl (li (fh c0)) (hp0.mono (by decide))) (ae (aQ (i:=1) rfl (li (fh c1)) (hp1.mono (by decide))) (ae (aQ (i:=2) rfl (lr (n:=24) rfl) (hp2.mono (by decide))) (ae (cU (i:=0) (j:=2) (k:=4) rfl rfl rfl (hp0.mono (by decide)) (hp2.mono (by decide)) c2) (ae (cU (i:=1) (j:=2) (k:=5) rfl rfl rfl (hp1.mono (by decide)) (hp2.mono (by decide)) c2) (ae (cU (i:=2) (j:=2) (k:=6) rfl rfl rfl (hp2.mono (by decide)) (hp2.mono (by decide)) c2) (ae (cU (i:=3) (j:=2) (k:=7) rfl rfl rfl (hp3.mono (by decide)) (hp2.mono (by decide)) c2) (ae (lz (kq:=[4,5,6,7]) (q:=(Qq.mk (p0.div p2) (p1.div p2) (p2.div p2) (p3.div p2))) (kr:=[4,5,6,7]) ⟨rfl,rfl,rfl,rfl,trivial⟩ ⟨rfl,rfl,rfl,rfl,trivial⟩ (⟨(hp0.div hp2 c2).mono (by decide),(hp1.div hp2 c2).mono (by decide),(hp2.div hp2 c2).mono (by decide),(hp3.div hp2 c2).mono (by decide)⟩:Qq.ok 1000000000 (Qq.mk (p0.div p2) (p1.div p2) (p2.div p2) (p3.div p2)))) ah))))))))
     (af (iG (n:=24) (c:=0) (t:=3) rfl (mx c2)) (ai)) Tryz.func195 (by kernel_rfl) ⟨(aI (xs:=eR p0 p1 p2 p3) (k:=0) rfl).2 ip0,⟨(aI (xs:=eR p0 p1 p2 p3) (k:=1) rfl).2 ip1,⟨(aI (xs:=eR p0 p1 p2 p3) (k:=2) rfl).2 ip2,⟨(aI (xs:=eR p0 p1 p2 p3) (k:=3) rfl).2 ip3,trivial⟩⟩⟩⟩).mono ?_
    rintro e w' ⟨v,rfl,⟨vs,rfl,h1⟩,h2⟩
    match vs,h1 with
    | [r,c],h1=>
     obtain⟨⟨cs,rfl,k1⟩,k2,_⟩:=h1;have k2:c=_:=k2;subst k2;exact⟨_,rfl,(ag (xs:=eR p0 p1 p2 p3) (ks:=[4,5,6,7]) (vs:=[(p0.div p2),(p1.div p2),(p2.div p2),(p3.div p2)]) ⟨rfl,rfl,rfl,rfl,trivial⟩).1 ⟨_,rfl,k1⟩,h2⟩
  ·have e1:(Qq.mk p0 p1 p2 p3).first=p1:=by simp[Qq.first,c0,c1]
   rw[lA h0,e1];refine(cRn (ρ:=frs (eT p0 p1 p2 p3)++([.val (.int .i64 p1.sgn)]:List Vp)) (args:=[fr 0,fr 1,fr 2,fr 3]) (vs:=[vp0,vp1,vp2,vp3]) (r:=.tup [row [4,5,6,7],.one (.i .i64 0)])
    (ae (aQ (i:=0) rfl (li (fh c0)) (hp0.mono (by decide))) (ae (aQ (i:=1) rfl (lr (n:=24) rfl) (hp1.mono (by decide))) (ae (cU (i:=0) (j:=1) (k:=4) rfl rfl rfl (hp0.mono (by decide)) (hp1.mono (by decide)) c1) (ae (cU (i:=1) (j:=1) (k:=5) rfl rfl rfl (hp1.mono (by decide)) (hp1.mono (by decide)) c1) (ae (cU (i:=2) (j:=1) (k:=6) rfl rfl rfl (hp2.mono (by decide)) (hp1.mono (by decide)) c1) (ae (cU (i:=3) (j:=1) (k:=7) rfl rfl rfl (hp3.mono (by decide)) (hp1.mono (by decide)) c1) (ae (lz (kq:=[4,5,6,7]) (q:=(Qq.mk (p0.div p1) (p1.div p1) (p2.div p1) (p3.div p1))) (kr:=[4,5,6,7]) ⟨rfl,rfl,rfl,rfl,trivial⟩ ⟨rfl,rfl,rfl,rfl,trivial⟩ (⟨(hp0.div hp1 c1).mono (by decide),(hp1.div hp1 c1).mono (by decide),(hp2.div hp1 c1).mono (by decide),(hp3.div hp1 c1).mono (by decide)⟩:Qq.ok 1000000000 (Qq.mk (p0.div p1) (p1.div p1) (p2.div p1) (p3.div p1)))) ah)))))))
    (af (iG (n:=24) (c:=0) (t:=3) rfl (mx c1)) (ai)) Tryz.func195 (by kernel_rfl) ⟨(aI (xs:=eT p0 p1 p2 p3) (k:=0) rfl).2 ip0,⟨(aI (xs:=eT p0 p1 p2 p3) (k:=1) rfl).2 ip1,⟨(aI (xs:=eT p0 p1 p2 p3) (k:=2) rfl).2 ip2,⟨(aI (xs:=eT p0 p1 p2 p3) (k:=3) rfl).2 ip3,trivial⟩⟩⟩⟩).mono ?_
   rintro e w' ⟨v,rfl,⟨vs,rfl,h1⟩,h2⟩
   match vs,h1 with
   | [r,c],h1=>
    obtain⟨⟨cs,rfl,k1⟩,k2,_⟩:=h1;have k2:c=_:=k2;subst k2;exact⟨_,rfl,(ag (xs:=eT p0 p1 p2 p3) (ks:=[4,5,6,7]) (vs:=[(p0.div p1),(p1.div p1),(p2.div p1),(p3.div p1)]) ⟨rfl,rfl,rfl,rfl,trivial⟩).1 ⟨_,rfl,k1⟩,h2⟩
 ·have e1:(Qq.mk p0 p1 p2 p3).first=p0:=by simp[Qq.first,c0]
  rw[lA h0,e1];refine(cRn (ρ:=frs (eU p0 p1 p2 p3)++([.val (.int .i64 p0.sgn)]:List Vp)) (args:=[fr 0,fr 1,fr 2,fr 3]) (vs:=[vp0,vp1,vp2,vp3]) (r:=.tup [row [4,5,6,7],.one (.i .i64 0)])
   (ae (aQ (i:=0) rfl (lr (n:=24) rfl) (hp0.mono (by decide))) (ae (cU (i:=0) (j:=0) (k:=4) rfl rfl rfl (hp0.mono (by decide)) (hp0.mono (by decide)) c0) (ae (cU (i:=1) (j:=0) (k:=5) rfl rfl rfl (hp1.mono (by decide)) (hp0.mono (by decide)) c0) (ae (cU (i:=2) (j:=0) (k:=6) rfl rfl rfl (hp2.mono (by decide)) (hp0.mono (by decide)) c0) (ae (cU (i:=3) (j:=0) (k:=7) rfl rfl rfl (hp3.mono (by decide)) (hp0.mono (by decide)) c0) (ae (lz (kq:=[4,5,6,7]) (q:=(Qq.mk (p0.div p0) (p1.div p0) (p2.div p0) (p3.div p0))) (kr:=[4,5,6,7]) ⟨rfl,rfl,rfl,rfl,trivial⟩ ⟨rfl,rfl,rfl,rfl,trivial⟩ (⟨(hp0.div hp0 c0).mono (by decide),(hp1.div hp0 c0).mono (by decide),(hp2.div hp0 c0).mono (by decide),(hp3.div hp0 c0).mono (by decide)⟩:Qq.ok 1000000000 (Qq.mk (p0.div p0) (p1.div p0) (p2.div p0) (p3.div p0)))) ah))))))
   (af (iG (n:=24) (c:=0) (t:=3) rfl (mx c0)) (ai)) Tryz.func195 (by kernel_rfl) ⟨(aI (xs:=eU p0 p1 p2 p3) (k:=0) rfl).2 ip0,⟨(aI (xs:=eU p0 p1 p2 p3) (k:=1) rfl).2 ip1,⟨(aI (xs:=eU p0 p1 p2 p3) (k:=2) rfl).2 ip2,⟨(aI (xs:=eU p0 p1 p2 p3) (k:=3) rfl).2 ip3,trivial⟩⟩⟩⟩).mono ?_
  rintro e w' ⟨v,rfl,⟨vs,rfl,h1⟩,h2⟩
  match vs,h1 with
  | [r,c],h1=>
   obtain⟨⟨cs,rfl,k1⟩,k2,_⟩:=h1;have k2:c=_:=k2;subst k2;exact⟨_,rfl,(ag (xs:=eU p0 p1 p2 p3) (ks:=[4,5,6,7]) (vs:=[(p0.div p0),(p1.div p0),(p2.div p0),(p3.div p0)]) ⟨rfl,rfl,rfl,rfl,trivial⟩).1 ⟨_,rfl,k1⟩,h2⟩
theorem I_fMakeT {xs:List Fq} {ys:Rho} {ip0:Nat} {ip1:Nat} {ip2:Nat} {ip3:Nat} {p0:Fq} {p1:Fq} {p2:Fq} {p3:Fq} {kr:List Nat} (ap0:xs[ip0]? =some p0) (ap1:xs[ip1]? =some p1) (ap2:xs[ip2]? =some p2) (ap3:xs[ip3]? =some p3) (ar:AtL xs kr (Qq.mk p0 p1 p2 p3).canon.cs) (hp0:p0.ok 100000000) (hp1:p1.ok 100000000) (hp2:p2.ok 100000000) (hp3:p3.ok 100000000) (h0:(Qq.mk p0 p1 p2 p3).first.p≠0):OkI xs ys ⟨195,[fr ip0,fr ip1,fr ip2,fr ip3],.tup [row kr,.one (.i .i64 0)]⟩:=
 ⟨az Tryz.func195 rfl rfl,fun B w vs hB h=>by
  match vs,h with
  | [vp0,vp1,vp2,vp3],h=>
   refine(q_fMakeT vp0 vp1 vp2 vp3 p0 p1 p2 p3 w ((aI ap0).1 h.1) ((aI ap1).1 h.2.1) ((aI ap2).1 h.2.2.1) ((aI ap3).1 h.2.2.2.1) hp0 hp1 hp2 hp3 h0).mono ?_;rintro e w' ⟨v,rfl,h1,h2⟩;exact⟨_,rfl,⟨[v,.int .i64 0],rfl,(ag ar).2 h1,rfl,trivial⟩,h2⟩⟩
def lB (u:Fq) (c:Vq):List Fq:=([u,c.x,c.y,c.z]++((Qq.mk u c.x c.y c.z).canon.cs))
theorem q_fCanon (vu vc:Value) (u:Fq) (c:Vq) (w:World) (iu:IsQ w vu u) (ic:cP w vc c) (hu:u.ok 100000000) (hc:c.ok 100000000) (h0:(Qq.mk u c.x c.y c.z).first.p≠0):
  Calls Tryz.prog 139 #[vu,vc] w fun e w'=>oV w (Qq.mk u c.x c.y c.z).canon e w':=by
 refine(cRn (ρ:=frs (lB u c)++ []) (args:=[fr 0,row [1,2,3]]) (vs:=[vu,vc]) (r:=.v (row [4,5,6,7]))
  (ae (I_fMakeT (ip0:=0) (ip1:=1) (ip2:=2) (ip3:=3) (kr:=[4,5,6,7]) rfl rfl rfl rfl ⟨rfl,rfl,rfl,rfl,trivial⟩ (hu.mono (by decide)) (hc.x.mono (by decide)) (hc.y.mono (by decide)) (hc.z.mono (by decide)) h0) ah)
  ai Tryz.func139 (by kernel_rfl) ⟨(aI (xs:=lB u c) (k:=0) rfl).2 iu,⟨(ag (xs:=lB u c) (ks:=[1,2,3]) (vs:=[c.x,c.y,c.z]) ⟨rfl,rfl,rfl,trivial⟩).2 ic,trivial⟩⟩).mono ?_
 rintro e w' ⟨v,rfl,h1,h2⟩;exact⟨v,rfl,(ag (xs:=lB u c) (ks:=[4,5,6,7]) (vs:=(Qq.mk u c.x c.y c.z).canon.cs) ⟨rfl,rfl,rfl,rfl,trivial⟩).1 h1,h2⟩
theorem oY {xs:List Fq} {ys:Rho} {iu:Nat} {kc:List Nat} {u:Fq} {c:Vq} {kr:List Nat} (au:xs[iu]? =some u) (ac:AtL xs kc [c.x,c.y,c.z]) (ar:AtL xs kr (Qq.mk u c.x c.y c.z).canon.cs) (hu:u.ok 100000000) (hc:c.ok 100000000) (h0:(Qq.mk u c.x c.y c.z).first.p≠0):OkI xs ys ⟨139,[fr iu,row kc],.v (row kr)⟩:=
 ⟨az Tryz.func139 rfl rfl,fun B w vs hB h=>by
  match vs,h with
  | [vu,vc],h=>
   refine(q_fCanon vu vc u c w ((aI au).1 h.1) ((ag ac).1 h.2.1) hu hc h0).mono ?_;rintro e w' ⟨v,rfl,h1,h2⟩;exact⟨v,rfl,(ag ar).2 h1,h2⟩⟩
end Go.Proofs.YtggfmklppkioeaaGreat
