/- The plain law of rotations, in rational numbers: quaternions up to a factor, and how they turn vectors. The plain law of rotations, in fractions. The plain law of rotations: images, ways, from one vector to another. How large the parts of vectors and rotations become. Arms, facts about the examples, Same. Rows of fractions in memory: vectors, quaternions, arrays of fractions. An executor: fractions and rows of fractions. An executor: what the functions of package fraction and of the reference give. Vectors, by the executor. Rotations, by the executor. -/
import Derived.Test.YtggfmklppkioeaaGreatP08
namespace Go.Proofs.YtggfmklppkioeaaGreat
set_option linter.unusedSimpArgs false
set_option linter.unusedVariables false
set_option maxRecDepth 100000
open Go.RowKit
@[ext] structure QR where
 w:Rat
 x:Rat
 y:Rat
 z:Rat
@[ext] structure VR where
 x:Rat
 y:Rat
 z:Rat
def QR.nrm (a:QR):Rat:=a.w*a.w+(a.x*a.x+(a.y*a.y+a.z*a.z))
def QR.mul (p q:QR):QR:=⟨p.w*q.w - (p.x*q.x+(p.y*q.y+p.z*q.z)),q.x*p.w+p.x*q.w+(p.y*q.z - p.z*q.y),q.y*p.w+p.y*q.w+(p.z*q.x - p.x*q.z),q.z*p.w+p.z*q.w+(p.x*q.y - p.y*q.x)⟩
def QR.conj (a:QR):QR:=⟨a.w, -a.x, -a.y, -a.z⟩
def QR.smul (k:Rat) (a:QR):QR:=⟨k*a.w,k*a.x,k*a.y,k*a.z⟩
def QR.one:QR:=⟨1,0,0,0⟩
def Sim (a b:QR):Prop:=∃k:Rat,k≠0∧b=QR.smul k a
def QR.rot (q:QR) (v:VR):VR:=
 ⟨(q.w*q.w - (q.x*q.x+(q.y*q.y+q.z*q.z)))*v.x+(2*(q.x*v.x+(q.y*v.y+q.z*v.z)))*q.x+(2*q.w)*(q.y*v.z - q.z*v.y),
  (q.w*q.w - (q.x*q.x+(q.y*q.y+q.z*q.z)))*v.y+(2*(q.x*v.x+(q.y*v.y+q.z*v.z)))*q.y+(2*q.w)*(q.z*v.x - q.x*v.z),
  (q.w*q.w - (q.x*q.x+(q.y*q.y+q.z*q.z)))*v.z+(2*(q.x*v.x+(q.y*v.y+q.z*v.z)))*q.z+(2*q.w)*(q.x*v.y - q.y*v.x)⟩
def VR.smul (k:Rat) (v:VR):VR:=⟨k*v.x,k*v.y,k*v.z⟩
def VR.dot (a b:VR):Rat:=a.x*b.x+(a.y*b.y+a.z*b.z)
def QR.app (q:QR) (v:VR):VR:=(q.rot v).smul (q.nrm)⁻¹
theorem hZ (r:Rat):0≤r*r:=by
 rcases Rat.le_total (a:=0) (b:=r)with h | h
 ·exact Rat.mul_nonneg h h
 ·have:=Rat.mul_nonneg (show 0≤ -r by grind) (show 0≤ -r by grind);grind
theorem nrm_zero {a:QR}:a.nrm=0↔a.w=0∧a.x=0∧a.y=0∧a.z=0:=by
 unfold QR.nrm;have h1:=hZ a.w;have h2:=hZ a.x;have h3:=hZ a.y;have h4:=hZ a.z;constructor
 ·intro h;have e1:a.w*a.w=0:=by grind
  have e2:a.x*a.x=0:=by grind
  have e3:a.y*a.y=0:=by grind
  have e4:a.z*a.z=0:=by grind
  exact⟨by grind,by grind,by grind,by grind⟩
 ·rintro⟨e1,e2,e3,e4⟩;rw[e1,e2,e3,e4];grind
theorem sC (p q:QR):(p.mul q).nrm=p.nrm*q.nrm:=by
 unfold QR.nrm QR.mul;grind
theorem nrm_conj (p:QR):p.conj.nrm=p.nrm:=by unfold QR.nrm QR.conj;grind
theorem uE (k:Rat) (p:QR):(QR.smul k p).nrm=k*k*p.nrm:=by unfold QR.nrm QR.smul;grind
theorem dN {a b:Rat} (ha:a≠0) (hb:b≠0):a*b≠0:=fun h=>by rcases Rat.mul_eq_zero.1 h with h | h;exact ha h;exact hb h
theorem Sim.refl (a:QR):Sim a a:=⟨1,by decide,by unfold QR.smul;ext<;>simp only<;>grind⟩
theorem Sim.symm {a b:QR} (h:Sim a b):Sim b a:=by
 obtain⟨k,hk,rfl⟩:=h;refine⟨k⁻¹,fun h=>by have h1:=Rat.inv_mul_cancel k hk;rw[h]at h1;grind,?_⟩;have:=Rat.inv_mul_cancel k hk;unfold QR.smul;ext<;>simp only<;>grind
theorem Sim.trans {a b c:QR} (h:Sim a b) (h2:Sim b c):Sim a c:=by
 obtain⟨k,hk,rfl⟩:=h;obtain⟨l,hl,rfl⟩:=h2;exact⟨l*k,dN hl hk,by unfold QR.smul;ext<;>simp only<;>grind⟩
theorem Sim.mul {a a' b b':QR} (h:Sim a a') (h2:Sim b b'):Sim (a.mul b) (a'.mul b'):=by
 obtain⟨k,hk,rfl⟩:=h;obtain⟨l,hl,rfl⟩:=h2;exact⟨k*l,dN hk hl,by unfold QR.smul QR.mul;ext<;>simp only<;>grind⟩
theorem Sim.conj {a b:QR} (h:Sim a b):Sim a.conj b.conj:=by
 obtain⟨k,hk,rfl⟩:=h;exact⟨k,hk,by unfold QR.smul QR.conj;ext<;>simp only<;>grind⟩
theorem Sim.nrm {a b:QR} (h:Sim a b) (ha:a.nrm≠0):b.nrm≠0:=by
 obtain⟨k,hk,rfl⟩:=h;rw[uE];exact dN (dN hk hk) ha
theorem m_assoc (a b c:QR):(a.mul b).mul c=a.mul (b.mul c):=by unfold QR.mul;ext<;>simp only<;>grind
theorem m_one (a:QR):a.mul QR.one=a:=by unfold QR.mul QR.one;ext<;>simp only<;>grind
theorem one_m (a:QR):QR.one.mul a=a:=by unfold QR.mul QR.one;ext<;>simp only<;>grind
theorem m_conj (a:QR) (h:a.nrm≠0):Sim QR.one (a.mul a.conj):=⟨a.nrm,h,by unfold QR.mul QR.conj QR.one QR.smul QR.nrm;ext<;>simp only<;>grind⟩
theorem rot_smul (k:Rat) (q:QR) (v:VR):(QR.smul k q).rot v=(q.rot v).smul (k*k):=by unfold QR.rot QR.smul VR.smul;ext<;>simp only<;>grind
theorem rot_lin (k:Rat) (q:QR) (v:VR):q.rot (v.smul k)=(q.rot v).smul k:=by unfold QR.rot VR.smul;ext<;>simp only<;>grind
theorem rot_mul (q p:QR) (v:VR):(q.mul p).rot v=q.rot (p.rot v):=by
 unfold QR.rot QR.mul;ext<;>simp only<;>grind
theorem ro (k l:Rat) (v:VR):(v.smul k).smul l=v.smul (l*k):=by unfold VR.smul;ext<;>simp only<;>grind
theorem yG {a b:QR} (h:Sim a b) (ha:a.nrm≠0) (v:VR):a.app v=b.app v:=by
 obtain⟨k,hk,rfl⟩:=h;unfold QR.app;rw[rot_smul,uE,ro]
 congr 1
 have h1:=Rat.inv_mul_cancel _ ha;have h2:=Rat.inv_mul_cancel _ (dN (dN hk hk) ha);have h3:(k*k*a.nrm)⁻¹=(k*k)⁻¹*(a.nrm)⁻¹:=by rw[Rat.inv_mul_rev,Rat.mul_comm]
 have h4:=Rat.inv_mul_cancel _ (dN hk hk);rw[h3];grind
theorem app_mul (q p:QR) (v:VR):(q.mul p).app v=q.app (p.app v):=by
 unfold QR.app;rw[rot_mul,sC,rot_lin,ro,Rat.inv_mul_rev,Rat.mul_comm]
theorem app_one (v:VR):QR.one.app v=v:=by
 unfold QR.app QR.one QR.rot QR.nrm VR.smul;have:((1:Rat)*1+(0*0+(0*0+0*0)))⁻¹=1:=by decide +kernel
 ext<;>simp only[this]<;>grind
structure Qq where
 w:Fq
 x:Fq
 y:Fq
 z:Fq
def Qq.r (q:Qq):QR:=⟨q.w.v,q.x.v,q.y.v,q.z.v⟩
def Qq.axis (q:Qq):Vq:=⟨q.x,q.y,q.z⟩
def Vq.r (a:Vq):VR:=⟨a.x.v,a.y.v,a.z.v⟩
structure Qq.comp (q:Qq):Prop where
 w:q.w.valid=true
 x:q.x.valid=true
 y:q.y.valid=true
 z:q.z.valid=true
theorem Qq.comp.axis {q:Qq} (h:q.comp):q.axis.good:=⟨h.x,h.y,h.z⟩
def Qq.first (q:Qq):Fq:=if q.w.p≠0 then q.w else if q.x.p≠0 then q.x else if q.y.p≠0 then q.y else q.z
def Qq.over (q:Qq) (n:Fq):Qq:=⟨q.w.div n,q.x.div n,q.y.div n,q.z.div n⟩
def Qq.zero:Qq:=⟨.zero,.zero,.zero,.zero⟩
def Qq.canon (q:Qq):Qq:=if q.first.p=0 then .zero else q.over q.first
structure Qq.good (q:Qq):Prop where
 comp:q.comp
 one:q.first.v=1
def Qq.id:Qq:=⟨.ofInt 1,.ofInt 0,.ofInt 0,.ofInt 0⟩
section
variable {p q:Qq}
theorem Qq.comp.first (h:q.comp):q.first.valid=true:=by
 unfold Qq.first;split
 ·exact h.w
 ·split
  ·exact h.x
  ·split
   ·exact h.y
   ·exact h.z
theorem Qq.comp.over (h:q.comp) {n:Fq} (hn:n.p≠0):(q.over n).comp:=⟨gH h.w hn,gH h.x hn,gH h.y hn,gH h.z hn⟩
theorem uF {a n:Fq} (ha:a.valid=true) (hn:n.valid=true) (h0:n.p≠0):(a.div n).v=a.v / n.v:=v_div (Fq.valid.n ha) (Fq.valid.n hn) h0
theorem p_v {a:Fq} (ha:a.valid=true):a.v=0↔a.p=0:=v_eq0 (Fq.valid.n ha)
theorem over_r (h:q.comp) {n:Fq} (hn:n.valid=true) (h0:n.p≠0):(q.over n).r=QR.smul (n.v)⁻¹ q.r:=by
 unfold Qq.r Qq.over QR.smul;simp only;rw[uF h.w hn h0,uF h.x hn h0,uF h.y hn h0,uF h.z hn h0]
 ext<;>simp only[Rat.div_def]<;>grind
theorem jG (h:q.comp):q.first.p≠0↔q.r.nrm≠0:=by
 rw[show(q.r.nrm≠0)↔_ from not_congr nrm_zero];unfold Qq.r Qq.first;simp only;have h1:=p_v h.w;have h2:=p_v h.x;have h3:=p_v h.y;have h4:=p_v h.z;by_cases c1:q.w.p=0
 ·rw[if_neg (by simpa using c1)];by_cases c2:q.x.p=0
  ·rw[if_neg (by simpa using c2)];by_cases c3:q.y.p=0
   ·rw[if_neg (by simpa using c3)];constructor
    ·intro c h;exact c (h4.1 h.2.2.2)
    ·intro c h;exact c ⟨h1.2 c1,h2.2 c2,h3.2 c3,h4.2 h⟩
   ·rw[if_pos c3];exact⟨fun _ h=>c3 (h3.1 h.2.2.1),fun _=>c3⟩
  ·rw[if_pos c2];exact⟨fun _ h=>c2 (h2.1 h.2.1),fun _=>c2⟩
 ·rw[if_pos c1];exact⟨fun _ h=>c1 (h1.1 h.1),fun _=>c1⟩
theorem sD {k:Rat} (hk:k≠0):k⁻¹≠0:=fun h=>by have h1:=Rat.inv_mul_cancel k hk;rw[h]at h1;grind
theorem nh (h:q.comp) (h0:q.first.p≠0):Sim q.r q.canon.r:=by
 unfold Qq.canon;rw[if_neg h0];exact⟨_,sD (fun e=>h0 ((p_v h.first).1 e)),over_r h h.first h0⟩
def QR.fst (a:QR):Rat:=if a.w≠0 then a.w else if a.x≠0 then a.x else if a.y≠0 then a.y else a.z
theorem mn (h:q.comp):q.first.v=q.r.fst:=by
 unfold Qq.first QR.fst Qq.r;simp only;have h1:=p_v h.w;have h2:=p_v h.x;have h3:=p_v h.y;by_cases c1:q.w.p=0
 ·have d1:=h1.2 c1;simp only[c1,d1,ne_eq,not_true_eq_false,if_false];by_cases c2:q.x.p=0
  ·have d2:=h2.2 c2;simp only[c2,d2,not_true_eq_false,if_false];by_cases c3:q.y.p=0
   ·have d3:=h3.2 c3;simp only[c3,d3,not_true_eq_false,if_false]
   ·have d3:¬q.y.v=0:=fun e=>c3 (h3.1 e)
    simp only[c3,d3,not_false_eq_true,if_true]
  ·have d2:¬q.x.v=0:=fun e=>c2 (h2.1 e)
   simp only[c2,d2,not_false_eq_true,if_true]
 ·have d1:¬q.w.v=0:=fun e=>c1 (h1.1 e)
  simp only[c1,d1,ne_eq,not_false_eq_true,if_true]
theorem pG (k:Rat) (hk:k≠0) (a:QR):(QR.smul k a).fst=k*a.fst:=by
 unfold QR.fst QR.smul;simp only;have hz:∀r:Rat,k*r≠0↔r≠0:=fun r=>⟨fun h e=>h (by rw[e];grind),fun h=>dN hk h⟩
 by_cases c1:a.w≠0
 ·rw[if_pos ((hz _).2 c1),if_pos c1]
 ·rw[if_neg (fun h=>c1 ((hz _).1 h)),if_neg c1];by_cases c2:a.x≠0
  ·rw[if_pos ((hz _).2 c2),if_pos c2]
  ·rw[if_neg (fun h=>c2 ((hz _).1 h)),if_neg c2];by_cases c3:a.y≠0
   ·rw[if_pos ((hz _).2 c3),if_pos c3]
   ·rw[if_neg (fun h=>c3 ((hz _).1 h)),if_neg c3]
theorem eb (h:q.comp) (h0:q.first.p≠0):q.canon.good:=by
 have hc:q.canon.comp:=by unfold Qq.canon;rw[if_neg h0];exact h.over h0
 refine⟨hc,?_⟩;have hn:q.first.v≠0:=fun e=>h0 ((p_v h.first).1 e)
 rw[mn hc];have e:q.canon.r=QR.smul (q.first.v)⁻¹ q.r:=by unfold Qq.canon;rw[if_neg h0];exact over_r h h.first h0
 rw[e,pG _ (sD hn),←mn h,Rat.inv_mul_cancel _ hn]
theorem gI (hp:p.good) (hq:q.good) (h:Sim p.r q.r):p=q:=by
 obtain⟨k,hk,e⟩:=h;have h1:=hp.one;have h2:=hq.one;rw[mn hp.comp]at h1;rw[mn hq.comp,e,pG k hk,h1]at h2;obtain rfl:k=1:=by grind
 have e1:=congrArg QR.w e;have e2:=congrArg QR.x e;have e3:=congrArg QR.y e;have e4:=congrArg QR.z e;unfold QR.smul Qq.r at e1 e2 e3 e4;simp only at e1 e2 e3 e4;have f1:=iJ hp.comp.w hq.comp.w (by grind);have f2:=iJ hp.comp.x hq.comp.x (by grind);have f3:=iJ hp.comp.y hq.comp.y (by grind);have f4:=iJ hp.comp.z hq.comp.z (by grind);cases p;cases q;simp only at f1 f2 f3 f4;subst f1;subst f2;subst f3;subst f4;rfl
theorem de (h:q.good):q.r.nrm≠0:=(jG h.comp).1 (fun e=>by have h1:=(p_v h.comp.first).2 e;rw[h.one]at h1;exact absurd h1 (by decide))
theorem dO:Qq.id.good:=by
 refine⟨⟨aE 1,aE 0,aE 0,aE 0⟩,?_⟩;have e:Qq.id.first=Fq.ofInt 1:=rfl;rw[e,cB];rfl
theorem zT:Qq.id.r=QR.one:=by unfold Qq.id Qq.r QR.one;simp only[cB];rfl
def Qq.hamV (p q:Qq):Vq:=((q.axis.scale p.w).add (p.axis.scale q.w)).add (p.axis.cross q.axis)
def Qq.hamW (p q:Qq):Fq:=(p.w.mul q.w).sub (p.axis.dot q.axis)
def Qq.ham (p q:Qq):Qq:=⟨p.hamW q,(p.hamV q).x,(p.hamV q).y,(p.hamV q).z⟩
def Qq.mul (p q:Qq):Qq:=(p.ham q).canon
def Qq.inv (q:Qq):Qq:=(Qq.mk q.w (q.axis.scale (.ofInt (-1))).x (q.axis.scale (.ofInt (-1))).y (q.axis.scale (.ofInt (-1))).z).canon
def Qq.inv' (q:Qq):Qq:=(Qq.mk q.w q.x.neg q.y.neg q.z.neg).canon
theorem ni (hp:p.comp) (hq:q.comp):(p.hamV q).good:=((hq.axis.scale hp.w).add (hp.axis.scale hq.w)).add (hp.axis.cross hq.axis)
theorem pH (hp:p.comp) (hq:q.comp):(p.ham q).comp:=⟨dl (aM hp.w hq.w) (dm hp.axis hq.axis),(ni hp hq).x,(ni hp hq).y,(ni hp hq).z⟩
theorem ham_r (hp:p.comp) (hq:q.comp):(p.ham q).r=p.r.mul q.r:=by
 have h1:=v_s (aM hp.w hq.w) (dm hp.axis hq.axis);have h2:=v_m hp.w hq.w;have h3:=yE hp.axis hq.axis;have h4:=dM hq.axis hp.w;have h5:=dM hp.axis hq.w;have h6:=yF hp.axis hq.axis;have h7:=eT (hq.axis.scale hp.w) (hp.axis.scale hq.w);have h8:=eT ((hq.axis.scale hp.w).add (hp.axis.scale hq.w)) (hp.axis.cross hq.axis);unfold Qq.ham Qq.r QR.mul;simp only
 ext<;>simp only
 ·unfold Qq.hamW;rw[h1,h2,h3];rfl
 ·unfold Qq.hamV;rw[h8.1,h7.1,h4.1,h5.1,h6.1];rfl
 ·unfold Qq.hamV;rw[h8.2.1,h7.2.1,h4.2.1,h5.2.1,h6.2.1];rfl
 ·unfold Qq.hamV;rw[h8.2.2,h7.2.2,h4.2.2,h5.2.2,h6.2.2];rfl
theorem sE (hp:p.good) (hq:q.good):(p.ham q).first.p≠0:=by
 rw[jG (pH hp.comp hq.comp),ham_r hp.comp hq.comp,sC];exact dN (de hp) (de hq)
theorem bJ (hp:p.good) (hq:q.good):(p.mul q).good:=eb (pH hp.comp hq.comp) (sE hp hq)
theorem eu (hp:p.good) (hq:q.good):Sim (p.r.mul q.r) (p.mul q).r:=by
 have h:=nh (pH hp.comp hq.comp) (sE hp hq);rw[ham_r hp.comp hq.comp]at h;exact h
theorem wL (hq:q.comp):Qq.mk q.w (q.axis.scale (.ofInt (-1))).x (q.axis.scale (.ofInt (-1))).y (q.axis.scale (.ofInt (-1))).z=Qq.mk q.w q.x.neg q.y.neg q.z.neg:=by
 have h:=dM hq.axis (aE (-1));have hg:=hq.axis.scale (aE (-1));have h1:=cB (-1);rw[h1]at h;have e1:=iJ hg.x (d9 hq.x) (by rw[h.1,uD];show q.x.v*_=_;grind);have e2:=iJ hg.y (d9 hq.y) (by rw[h.2.1,uD];show q.y.v*_=_;grind);have e3:=iJ hg.z (d9 hq.z) (by rw[h.2.2,uD];show q.z.v*_=_;grind);rw[e1,e2,e3]
theorem uG (hq:q.comp):q.inv=q.inv':=by unfold Qq.inv Qq.inv';rw[wL hq]
theorem nj (hq:q.comp):(Qq.mk q.w q.x.neg q.y.neg q.z.neg).comp:=⟨hq.w,d9 hq.x,d9 hq.y,d9 hq.z⟩
theorem conj_r:(Qq.mk q.w q.x.neg q.y.neg q.z.neg).r=q.r.conj:=by unfold Qq.r QR.conj;simp only[uD]
theorem oP (hq:q.good):(Qq.mk q.w q.x.neg q.y.neg q.z.neg).first.p≠0:=by rw[jG (nj hq.comp),conj_r,nrm_conj];exact de hq
theorem aX (hq:q.good):q.inv.good:=by rw[uG hq.comp];exact eb (nj hq.comp) (oP hq)
theorem sF (hq:q.good):Sim q.r.conj q.inv.r:=by
 rw[uG hq.comp];have h:=nh (nj hq.comp) (oP hq);rw[conj_r]at h;exact h
variable {a b c:Qq}
theorem g_assoc (ha:a.good) (hb:b.good) (hc:c.good):(a.mul b).mul c=a.mul (b.mul c):=by
 refine gI (bJ (bJ ha hb) hc) (bJ ha (bJ hb hc)) ?_;have h1:=(eu (bJ ha hb) hc).symm.trans (((eu ha hb).symm).mul (Sim.refl c.r));have h2:=((Sim.refl a.r).mul (eu hb hc)).trans (eu ha (bJ hb hc));rw[m_assoc]at h1;exact h1.trans h2
theorem g_one (ha:a.good):a.mul Qq.id=a:=by
 refine gI (bJ ha dO) ha ?_;have h:=(eu ha dO).symm;rw[zT,m_one]at h;exact h
theorem g_one' (ha:a.good):Qq.id.mul a=a:=by
 refine gI (bJ dO ha) ha ?_;have h:=(eu dO ha).symm;rw[zT,one_m]at h;exact h
theorem g_inv (ha:a.good):a.mul a.inv=Qq.id:=by
 refine gI (bJ ha (aX ha)) dO ?_;have h:=(eu ha (aX ha)).symm.trans (((Sim.refl a.r).mul (sF ha)).symm);rw[zT];exact h.trans (m_conj a.r (de ha)).symm
end
def Qq.nn (q:Qq):Fq:=(q.w.mul q.w).add (q.axis.dot q.axis)
def Qq.dd (q:Qq):Fq:=(q.w.mul q.w).sub (q.axis.dot q.axis)
def Qq.ap1 (q:Qq) (v:Vq):Vq:=v.scale q.dd
def Qq.ap2 (q:Qq) (v:Vq):Vq:=q.axis.scale ((Fq.ofInt 2).mul (q.axis.dot v))
def Qq.ap3 (q:Qq) (v:Vq):Vq:=(q.axis.cross v).scale ((Fq.ofInt 2).mul q.w)
def Qq.rat (q:Qq):Fq:=(Fq.ofInt 1).div q.nn
def Qq.app (q:Qq) (v:Vq):Vq:=(((q.ap1 v).add (q.ap2 v)).add (q.ap3 v)).scale q.rat
section
variable {p q d:Qq} {v x y a b:Vq} {t:Fq}
theorem uH (h:q.comp):q.nn.valid=true:=dF (aM h.w h.w) (dm h.axis h.axis)
theorem uI (h:q.comp):q.dd.valid=true:=dl (aM h.w h.w) (dm h.axis h.axis)
theorem nn_v (h:q.comp):q.nn.v=q.r.nrm:=by
 unfold Qq.nn;rw[v_a (aM h.w h.w) (dm h.axis h.axis),v_m h.w h.w,yE h.axis h.axis];rfl
theorem dd_v (h:q.comp):q.dd.v=q.w.v*q.w.v - (q.x.v*q.x.v+(q.y.v*q.y.v+q.z.v*q.z.v)):=by
 unfold Qq.dd;rw[v_s (aM h.w h.w) (dm h.axis h.axis),v_m h.w h.w,yE h.axis h.axis];rfl
theorem uJ (h:q.good):q.nn.p≠0:=fun e=>de h (by rw[←nn_v h.comp];exact(p_v (uH h.comp)).2 e)
theorem mo (h:q.comp) (hv:v.good):(q.ap1 v).good:=hv.scale (uI h)
theorem mq (h:q.comp) (hv:v.good):(q.ap2 v).good:=h.axis.scale (aM (aE 2) (dm h.axis hv))
theorem pI (h:q.comp) (hv:v.good):(q.ap3 v).good:=(h.axis.cross hv).scale (aM (aE 2) h.w)
theorem rp (h:q.good):q.rat.valid=true:=gH (aE 1) (uJ h)
theorem rat_v (h:q.good):q.rat.v=(q.r.nrm)⁻¹:=by
 unfold Qq.rat;rw[uF (aE 1) (uH h.comp) (uJ h),cB,nn_v h.comp,Rat.div_def];exact Rat.one_mul _
theorem bm (h:q.good) (hv:v.good):(q.app v).good:=(((mo h.comp hv).add (mq h.comp hv)).add (pI h.comp hv)).scale (rp h)
theorem ap_v (h:q.comp) (hv:v.good):
  ((q.ap1 v).x.v+(q.ap2 v).x.v+(q.ap3 v).x.v=(q.r.rot v.r).x)∧((q.ap1 v).y.v+(q.ap2 v).y.v+(q.ap3 v).y.v=(q.r.rot v.r).y)∧((q.ap1 v).z.v+(q.ap2 v).z.v+(q.ap3 v).z.v=(q.r.rot v.r).z):=by
 have h1:=dd_v h;have h2:=yE h.axis hv;have h3:=v_m (aE 2) (dm h.axis hv);have h4:=v_m (aE 2) h.w;have h5:=cB 2;have h6:=yF h.axis hv;have h7:=dM hv (uI h);have h8:=dM h.axis (aM (aE 2) (dm h.axis hv));have h9:=dM (h.axis.cross hv) (aM (aE 2) h.w);rw[h1]at h7;rw[h3,h2,h5]at h8;rw[h4,h5,h6.1,h6.2.1,h6.2.2]at h9;unfold Qq.ap1 Qq.ap2 Qq.ap3;rw[h7.1,h7.2.1,h7.2.2,h8.1,h8.2.1,h8.2.2,h9.1,h9.2.1,h9.2.2];unfold QR.rot Vq.r Qq.r Qq.axis;simp only;refine⟨?_,?_,?_⟩<;>grind
theorem oc (h:q.good) (hv:v.good):(q.app v).r=q.r.app v.r:=by
 have h0:=ap_v h.comp hv;have h1:=eT (mo h.comp hv) (mq h.comp hv);have h2:=eT ((mo h.comp hv).add (mq h.comp hv)) (pI h.comp hv);have h3:=dM (((mo h.comp hv).add (mq h.comp hv)).add (pI h.comp hv)) (rp h);have h4:=rat_v h;unfold Qq.app QR.app VR.smul
 ext<;>simp only[Vq.r]
 ·rw[h3.1,h2.1,h1.1,h0.1,h4];exact Rat.mul_comm _ _
 ·rw[h3.2.1,h2.2.1,h1.2.1,h0.2.1,h4];exact Rat.mul_comm _ _
 ·rw[h3.2.2,h2.2.2,h1.2.2,h0.2.2,h4];exact Rat.mul_comm _ _
theorem Vq.inj_r (ha:a.good) (hb:b.good) (h:a.r=b.r):a=b:=
 Vq.inj ha hb (congrArg VR.x h) (congrArg VR.y h) (congrArg VR.z h)
theorem r_mul (hq:q.good) (hp:p.good) (hx:x.good):(q.mul p).app x=q.app (p.app x):=
 Vq.inj_r (bm (bJ hq hp) hx) (bm hq (bm hp hx)) (by
  rw[oc (bJ hq hp) hx,oc hq (bm hp hx),oc hp hx,←app_mul];exact(yG (eu hq hp) (by rw[sC];exact dN (de hq) (de hp)) _).symm)
def Qq.way (p d:Qq) (t:Fq):Qq:=p.mul (Qq.mk (.ofInt 1) (d.axis.scale t).x (d.axis.scale t).y (d.axis.scale t).z).canon
theorem j4 (hd:d.comp) (ht:t.valid=true):(Qq.mk (.ofInt 1) (d.axis.scale t).x (d.axis.scale t).y (d.axis.scale t).z).comp:=
 ⟨aE 1,(hd.axis.scale ht).x,(hd.axis.scale ht).y,(hd.axis.scale ht).z⟩
theorem pJ:(Qq.mk (.ofInt 1) (d.axis.scale t).x (d.axis.scale t).y (d.axis.scale t).z).first=Fq.ofInt 1:=rfl
theorem j5:(Qq.mk (.ofInt 1) (d.axis.scale t).x (d.axis.scale t).y (d.axis.scale t).z).first.p≠0:=by rw[pJ];decide
theorem way_good (hp:p.good) (hd:d.comp) (ht:t.valid=true):(p.way d t).good:=bJ hp (eb (j4 hd ht) j5)
theorem rq (hd:d.comp) (ht:t.valid=true):(Qq.mk (.ofInt 1) (d.axis.scale t).x (d.axis.scale t).y (d.axis.scale t).z).good:=
 ⟨j4 hd ht,by rw[pJ,cB];rfl⟩
theorem wM (h:q.good):q.canon=q:=
 gI (eb h.comp ((jG h.comp).2 (de h))) h (nh h.comp ((jG h.comp).2 (de h))).symm
def Vq.turn (a b:Vq):Qq:=(Qq.mk ((a.dot a).add (a.dot b)) (a.cross b).x (a.cross b).y (a.cross b).z).canon
end
structure Vq.ok (d:Nat) (a:Vq):Prop where
 x:a.x.ok d
 y:a.y.ok d
 z:a.z.ok d
structure Qq.ok (d:Nat) (q:Qq):Prop where
 w:q.w.ok d
 x:q.x.ok d
 y:q.y.ok d
 z:q.z.ok d
section
variable {a b:Vq} {k:Fq} {p q:Qq} {d e f:Nat}
theorem Vq.ok.mono (h:a.ok d) (hd:d≤e):a.ok e:=⟨h.x.mono hd,h.y.mono hd,h.z.mono hd⟩
theorem Qq.ok.mono (h:q.ok d) (hd:d≤e):q.ok e:=⟨h.w.mono hd,h.x.mono hd,h.y.mono hd,h.z.mono hd⟩
theorem Qq.ok.axis (h:q.ok d):q.axis.ok d:=⟨h.x,h.y,h.z⟩
theorem Vq.ok.add (h:a.ok d) (k:b.ok e):(a.add b).ok (2*(d+e)+1):=⟨(h.x.add k.x).mono (by omega),(h.y.add k.y).mono (by omega),(h.z.add k.z).mono (by omega)⟩
theorem Vq.ok.sub (h:a.ok d) (k:b.ok e):(a.sub b).ok (2*(d+e)+1):=⟨(h.x.sub k.x).mono (by omega),(h.y.sub k.y).mono (by omega),(h.z.sub k.z).mono (by omega)⟩
theorem Vq.ok.scale (h:a.ok d) (hk:k.ok e):(a.scale k).ok (d+e):=⟨h.x.mul hk,h.y.mul hk,h.z.mul hk⟩
theorem Vq.ok.dot (h:a.ok d) (k:b.ok e):(a.dot b).ok (10*(d+e)+3):=((h.x.mul k.x).add ((h.y.mul k.y).add (h.z.mul k.z))).mono (by omega)
theorem Vq.ok.cross (h:a.ok d) (k:b.ok e):(a.cross b).ok (4*(d+e)+1):=⟨((h.y.mul k.z).sub (h.z.mul k.y)).mono (by omega),((h.z.mul k.x).sub (h.x.mul k.z)).mono (by omega),((h.x.mul k.y).sub (h.y.mul k.x)).mono (by omega)⟩
theorem Vq.ok.lerp (h:a.ok d) (k':b.ok e) (hk:k.ok f):(a.lerp b k).ok (2*(d+(2*(e+d)+1+f))+1):=h.add ((k'.sub h).scale hk)
theorem Qq.ok.first (h:q.ok d):q.first.ok d:=by
 unfold Qq.first;split
 ·exact h.w
 ·split
  ·exact h.x
  ·split
   ·exact h.y
   ·exact h.z
theorem Qq.ok.over (h:q.ok d) {n:Fq} (hn:n.ok e) (h0:n.p≠0):(q.over n).ok (d+e):=⟨h.w.div hn h0,h.x.div hn h0,h.y.div hn h0,h.z.div hn h0⟩
theorem Qq.ok.canon (h:q.ok d) (h0:q.first.p≠0):q.canon.ok (d+d):=by unfold Qq.canon;rw[if_neg h0];exact h.over h.first h0
theorem Qq.ok.hamW (h:p.ok d) (k:q.ok e):(p.hamW q).ok (22*(d+e)+7):=((h.w.mul k.w).sub (h.axis.dot k.axis)).mono (by omega)
theorem Qq.ok.hamV (h:p.ok d) (k:q.ok e):(p.hamV q).ok (16*(d+e)+5):=(((k.axis.scale h.w).add (h.axis.scale k.w)).add (h.axis.cross k.axis)).mono (by omega)
theorem Qq.ok.ham (h:p.ok d) (k:q.ok e):(p.ham q).ok (22*(d+e)+7):=⟨h.hamW k,(h.hamV k).x.mono (by omega),(h.hamV k).y.mono (by omega),(h.hamV k).z.mono (by omega)⟩
theorem Qq.ok.mul (h:p.ok d) (k:q.ok e) (h0:(p.ham q).first.p≠0):(p.mul q).ok (44*(d+e)+14):=((h.ham k).canon h0).mono (by omega)
end
def Sp.sl (L:Nat):Sp:=⟨fun _ v=>∃a c,v= .slice a L c,fun _ _ _ h _=>h⟩
section
variable {Q:Exit→Act→World→Prop} {o:Oper} {a:Act} {w:World} {x y:Operand} {g L p N q k:Nat} {s:Bool}
end
def FitP (s:Bool) (L p N q:Nat):Prop:=L≤12∧N≤12∧nl p=L∧nl q=N∧(Fq.mk s p q).valid=true
theorem FitP.ok {s:Bool} {L p N q:Nat} (h:FitP s L p N q):(Fq.mk s p q).ok 12:=⟨by show nl p≤12;have:=h.1;have:=h.2.2.1;omega,by show nl q≤12;have:=h.2.1;have:=h.2.2.2.1;omega,(of_decide_eq_true h.2.2.2.2).1⟩
structure Rq where
 s:Bool
 L:Nat
 p:Nat
 N:Nat
 q:Nat
def Fq.raw (x:Fq):Rq:=⟨x.s,nl x.p,x.p,nl x.q,x.q⟩
def bF (w:World):List Rq→List Value→Prop
 | [],cs=>cs=[]
 | r::l,cs=>∃a c b d cs',cs= .bool r.s::.slice a r.L c::.slice b r.N d::cs'∧IsR w (.agg #[.slice a r.L c]) r.L r.p∧IsR w (.agg #[.slice b r.N d]) r.N r.q∧bF w l cs'
section
variable {w w':World} {g g':Nat} {l:List Rq} {cs:List Value} {T:TypeId}
theorem bF.mono (h:bF w l cs) (hb:Below w.heap.size w w'):bF w' l cs:=by
 induction l generalizing cs with
 | nil=>exact h
 | cons r l ih=>obtain⟨a,c,b,d,cs',e,h1,h2,h3⟩:=h;exact⟨a,c,b,d,cs',e,h1.mono hb,h2.mono hb,ih h3⟩
theorem bF.upd (h:bF w l cs) (o:Own w g) (u:Upd w g w'):bF w' l cs:=by
 induction l generalizing cs with
 | nil=>exact h
 | cons r l ih=>obtain⟨a,c,b,d,cs',e,h1,h2,h3⟩:=h;exact⟨a,c,b,d,cs',e,h1.upd o u,h2.upd o u,ih h3⟩
theorem bF.noInt (h:bF w l cs) (k:Nat) (n:Int):cs[k]? ≠some (Value.int .u32 n):=by
 induction l generalizing cs k with
 | nil=>have e:cs=[]:=h;rw[e];simp
 | cons r l ih=>
  obtain⟨a,c,b,d,cs',e,_,_,h3⟩:=h;rw[e]
  match k with
  | 0=>intro h;cases h
  | 1=>intro h;cases h
  | 2=>intro h;cases h
  | k+3=>exact ih h3 k
theorem bF.length (h:bF w l cs):cs.length=3*l.length:=by
 induction l generalizing cs with
 | nil=>have e:cs=[]:=h;rw[e];rfl
 | cons r l ih=>obtain⟨a,c,b,d,cs',e,_,_,h3⟩:=h;have:=ih h3;rw[e];simp only[List.length_cons];omega
theorem bF.get (h:bF w l cs) {k:Nat} {r:Rq} (hk:l[k]? =some r):
  ∃a c b d,cs[3*k]? =some (.bool r.s)∧cs[3*k+1]? =some (.slice a r.L c)∧cs[3*k+2]? =some (.slice b r.N d)∧IsR w (.agg #[.slice a r.L c]) r.L r.p∧IsR w (.agg #[.slice b r.N d]) r.N r.q:=by
 induction l generalizing cs k with
 | nil=>cases hk
 | cons x l ih=>
  obtain⟨a,c,b,d,cs',e,h1,h2,h3⟩:=h;rw[e]
  match k with
  | 0=>simp at hk;subst hk;exact⟨a,c,b,d,rfl,rfl,rfl,h1,h2⟩
  | k+1=>
   obtain⟨a',c',b',d',e0,e1,e2,i1,i2⟩:=ih h3 (k:=k) (by simpa using hk);exact⟨a',c',b',d',by simpa [Nat.mul_add]using e0,by simpa [Nat.mul_add]using e1,by simpa [Nat.mul_add]using e2,i1,i2⟩
theorem bF.set (h:bF w l cs) {k:Nat} {r:Rq} (hk:k<l.length) {a b:Option Addr} {c d:Nat} (h1:IsR w (.agg #[.slice a r.L c]) r.L r.p) (h2:IsR w (.agg #[.slice b r.N d]) r.N r.q):
  bF w (l.set k r) (((cs.set (3*k) (.bool r.s)).set (3*k+1) (.slice a r.L c)).set (3*k+2) (.slice b r.N d)):=by
 induction l generalizing cs k with
 | nil=>cases hk
 | cons x l ih=>
  obtain⟨a',c',b',d',cs',e,i1,i2,i3⟩:=h;rw[e]
  match k with
  | 0=>exact⟨a,c,b,d,cs',rfl,h1,h2,i3⟩
  | k+1=>
   have:=ih i3 (k:=k) (by simpa using hk);exact⟨a',c',b',d',_,by simp[Nat.mul_add],i1,i2,this⟩
def IsL (w:World) (v:Value) (l:List Rq):Prop:=∃cs,v= .agg cs.toArray∧bF w l cs
def mr (T:TypeId) (w:World) (g:Nat) (l:List Rq):Prop:=∃cs,w.heap[g]? =some (.cells cs.toArray T (0,0))∧bF w l cs
theorem IsL.mono {v:Value} (h:IsL w v l) (hb:Below w.heap.size w w'):IsL w' v l:=by obtain⟨cs,e,h⟩:=h;exact⟨cs,e,h.mono hb⟩
theorem IsL.upd {v:Value} (h:IsL w v l) (o:Own w g) (u:Upd w g w'):IsL w' v l:=by obtain⟨cs,e,h⟩:=h;exact⟨cs,e,h.upd o u⟩
theorem mr.lt (h:mr T w g l):g<w.heap.size:=by obtain⟨_,h,_⟩:=h;exact(Array.getElem?_eq_some_iff.1 h).1
theorem mr.mono (h:mr T w g l) (hb:Below w.heap.size w w'):mr T w' g l:=by
 have hl:=h.lt;obtain⟨cs,h0,h1⟩:=h;exact⟨cs,(hb.block g hl).trans h0,h1.mono hb⟩
theorem mr.upd (h:mr T w g' l) (o:Own w g) (u:Upd w g w') (hn:g'≠g):mr T w' g' l:=by
 obtain⟨cs,h0,h1⟩:=h;exact⟨cs,(u.block g' hn).trans h0,h1.upd o u⟩
theorem mr.own (h:mr T w g l):Own w g:=by
 obtain⟨cs,h0,h1⟩:=h;exact⟨cs.toArray,T,h0,fun k n=>by rw[List.getElem?_toArray];exact h1.noInt k n⟩
theorem mr.get (h:mr T w g l) {k:Nat} {r:Rq} (hk:l[k]? =some r):
  ∃a c b d,w.cell? ⟨g,3*k,none⟩=some (.bool r.s)∧w.cell? ⟨g,3*k+1,none⟩=some (.slice a r.L c)∧w.cell? ⟨g,3*k+2,none⟩=some (.slice b r.N d)∧IsR w (.agg #[.slice a r.L c]) r.L r.p∧IsR w (.agg #[.slice b r.N d]) r.N r.q:=by
 obtain⟨cs,h0,h1⟩:=h;obtain⟨a,c,b,d,e0,e1,e2,i1,i2⟩:=h1.get hk;exact⟨a,c,b,d,by rw[cell_of_row w g _ _ _ (0,0) h0,List.getElem?_toArray];exact e0,by rw[cell_of_row w g _ _ _ (0,0) h0,List.getElem?_toArray];exact e1,by rw[cell_of_row w g _ _ _ (0,0) h0,List.getElem?_toArray];exact e2,i1,i2⟩
theorem mr.frozen (h:mr T w g l) (j:Nat):w.frozen? ⟨g,j,none⟩=false:=by obtain⟨cs,h0,_⟩:=h;exact frozen_of_row w g j _ _ h0
end
section
variable {Q:Exit→Act→World→Prop} {o:Oper} {a:Act} {w:World} {x y:Operand} {g k:Nat} {l:List Rq} {r:Rq} {T:TypeId}
end
section
variable {Q:Exit→Act→World→Prop} {o:Oper} {a:Act} {w:World} {x y z u:Operand} {f:FuncId} {tt:Array TypeId} {S S1 S2 S3:Sp} {R:World→Ending→World→Prop}
end
def frs:List Fq→Rho
 | []=>[]
 | x::xs=>.val (.bool x.s)::.dig (nl x.p) x.p::.dig (nl x.q) x.q::frs xs
def leaf3 (k:Nat):List Leaf:=[.ref (3*k),.ref (3*k+1),.ref (3*k+2)]
def fr (k:Nat):SV:=.agg (leaf3 k)
def bW:List Nat→List Leaf
 | []=>[]
 | k::ks=>.ref (3*k)::.ref (3*k+1)::.ref (3*k+2)::bW ks
def row (ks:List Nat):SV:=.agg (bW ks)
def AtL (xs:List Fq):List Nat→List Fq→Prop
 | [],[]=>True
 | k::ks,x::vs=>xs[k]? =some x∧AtL xs ks vs
 | _,_=>False
section
variable {xs:List Fq} {ys:Rho} {x y z:Fq} {i j k:Nat} {B:Blk} {w:World} {v:Value}
theorem jH:∀ {xs:List Fq} {k:Nat} {x:Fq},xs[k]? =some x→(frs xs++ys)[3*k]? =some (.val (.bool x.s))∧(frs xs++ys)[3*k+1]? =some (.dig (nl x.p) x.p)∧(frs xs++ys)[3*k+2]? =some (.dig (nl x.q) x.q)
 | [],_,_,h=>by simp at h
 | x::xs,0,y,h=>by simp at h;subst h;exact⟨rfl,rfl,rfl⟩
 | x::xs,k+1,y,h=>by
  have:=jH (xs:=xs) (k:=k) (x:=y) (by simpa using h);simpa [frs,Nat.mul_add]using this
theorem leaf_s {s:Bool} (h:(frs xs++ys)[i]? =some (.val (.bool s))):(Leaf.ref i).holds (frs xs++ys) B w v↔v= .bool s:=leafB h
theorem sG {L N:Nat} (h:(frs xs++ys)[i]? =some (.dig L N)):(Leaf.ref i).holds (frs xs++ys) B w v↔IsR w (.agg #[v]) L N:=jC h
theorem j6 {L N:Nat} (h:IsR w (.agg #[v]) L N):∃a c,v= .slice a L c:=by
 obtain⟨a,c,e,_⟩:=h;have e2:v= .slice a L c:=by
  injection e with e;have:=congrArg (fun x:Array Value=>x[0]?) e;simpa using this
 exact⟨a,c,e2⟩
theorem ec:∀ {ks:List Nat} {vs:List Fq} {cs:List Value},AtL xs ks vs→(aB (frs xs++ys) B w (bW ks) cs↔bF w (vs.map Fq.raw) cs)
 | [],[],cs,_=>by
  constructor
  ·intro h;match cs,h with | [],_=>rfl
  ·intro h;have h:cs=[]:=h;subst h;trivial
 | k::ks,x::vs,cs,h=>by
  obtain⟨h1,h2,h3⟩:=jH (ys:=ys) h.1;have ih:=fun cs=>ec (ks:=ks) (vs:=vs) (cs:=cs) h.2
  constructor
  ·intro hl
   match cs,hl with
   | u1::u2::u3::cs',hl=>
    obtain⟨g1,g2,g3,g4⟩:=hl;have e1:=(leaf_s h1).1 g1;have e2:=(sG h2).1 g2;have e3:=(sG h3).1 g3;obtain⟨a,c,rfl⟩:=j6 e2;obtain⟨b,d,rfl⟩:=j6 e3;subst e1;exact⟨a,c,b,d,cs',rfl,e2,e3,(ih cs').1 g4⟩
   | [],hl=>exact hl.elim
   | [_],hl=>exact hl.2.elim
   | [_,_],hl=>exact hl.2.2.elim
  ·rintro⟨a,c,b,d,cs',rfl,i1,i2,i3⟩;exact⟨(leaf_s h1).2 rfl,(sG h2).2 i1,(sG h3).2 i2,(ih cs').2 i3⟩
 | [],_::_,_,h=>h.elim
 | _::_,[],_,h=>h.elim
theorem ah {ks:List Nat} {vs:List Fq} (h:AtL xs ks vs):(row ks).holds (frs xs++ys) B w v↔IsL w v (vs.map Fq.raw):=by
 constructor
 ·rintro⟨cs,rfl,h1⟩;exact⟨cs,rfl,(ec h).1 h1⟩
 ·rintro⟨cs,rfl,h1⟩;exact⟨cs,rfl,(ec h).2 h1⟩
theorem aK (h:xs[k]? =some x):(fr k).holds (frs xs++ys) B w v↔IsQ w v x:=by
 have:=ah (ys:=ys) (B:=B) (w:=w) (v:=v) (ks:=[k]) (vs:=[x]) ⟨h,trivial⟩;show(row [k]).holds _ B w v↔_;rw[this];constructor
 ·rintro⟨cs,rfl,a,c,b,d,cs',rfl,i1,i2,e⟩;have e:cs'=[]:=e;subst e;exact⟨a,c,b,d,rfl,i1,i2⟩
 ·rintro⟨a,c,b,d,rfl,i1,i2⟩;exact⟨_,rfl,a,c,b,d,[],rfl,i1,i2,rfl⟩
abbrev OkI (xs:List Fq) (ys:Rho) (i:Inst):Prop:=i.Ok Tryz.prog (frs xs++ys)
theorem inst2 {f:FuncId} (hen:kB f) (hc:∀va vb w,IsQ w va x→IsQ w vb y→Calls Tryz.prog f #[va,vb] w (fun e w'=>ju w z e w')) (hi:xs[i]? =some x) (hj:xs[j]? =some y) (hk:xs[k]? =some z):OkI xs ys ⟨f,[fr i,fr j],.v (fr k)⟩:=
 ⟨hen,fun B w vs hB h=>by
  match vs,h with
  | [va,vb],h=>
   refine(hc va vb w ((aK hi).1 h.1) ((aK hj).1 h.2.1)).mono ?_;rintro e w' ⟨v,rfl,h1,h2⟩;exact⟨v,rfl,(aK hk).2 h1,h2⟩⟩
end
section
variable {xs:List Fq} {ys ρ:Rho} {x y z:Fq} {i j k n:Nat} {u c:Int} {b d:Bool} {l:Leaf} {f:FuncId} {op:BinOp} {t:TypeId}
theorem inst1V {v:Value} (hen:kB f) (hc:∀va w,IsQ w va x→Calls Tryz.prog f #[va] w (fun e w'=>cK w v e w')) (hi:xs[i]? =some x) (hl:∀B w,l.holds (frs xs++ys) B w v):OkI xs ys ⟨f,[fr i],.v (.one l)⟩:=
 ⟨hen,fun B w vs hB h=>by
  match vs,h with
  | [va],h=>
   refine(hc va w ((aK hi).1 h.1)).mono ?_;rintro e w' ⟨rfl,h2⟩;exact⟨_,rfl,hl B w',h2⟩⟩
theorem inst2V {v:Value} (hen:kB f) (hc:∀va vb w,IsQ w va x→IsQ w vb y→Calls Tryz.prog f #[va,vb] w (fun e w'=>cK w v e w')) (hi:xs[i]? =some x) (hj:xs[j]? =some y) (hl:∀B w,l.holds (frs xs++ys) B w v):OkI xs ys ⟨f,[fr i,fr j],.v (.one l)⟩:=
 ⟨hen,fun B w vs hB h=>by
  match vs,h with
  | [va,vb],h=>
   refine(hc va vb w ((aK hi).1 h.1) ((aK hj).1 h.2.1)).mono ?_;rintro e w' ⟨rfl,h2⟩;exact⟨_,rfl,hl B w',h2⟩⟩
theorem inst2E (hen:kB f) (hc:∀va vb w,IsQ w va x→IsQ w vb y→Calls Tryz.prog f #[va,vb] w (fun e w'=>yi w z c e w')) (hi:xs[i]? =some x) (hj:xs[j]? =some y) (hk:xs[k]? =some z):OkI xs ys ⟨f,[fr i,fr j],.tup [fr k,.one (.i .i64 c)]⟩:=
 ⟨hen,fun B w vs hB h=>by
  match vs,h with
  | [va,vb],h=>
   refine(hc va vb w ((aK hi).1 h.1) ((aK hj).1 h.2.1)).mono ?_;rintro e w' ⟨v,rfl,h1,h2⟩;exact⟨_,rfl,⟨[v,.int .i64 c],rfl,(aK hk).2 h1,rfl,trivial⟩,h2⟩⟩
theorem instIQ (hen:kB f) (hc:∀w,Calls Tryz.prog f #[.int .i64 u] w (fun e w'=>ju w z e w')) (hk:xs[k]? =some z):OkI xs ys ⟨f,[.one (.i .i64 u)],.v (fr k)⟩:=
 ⟨hen,fun B w vs hB h=>by
  match vs,h with
  | [va],h=>
   have e:va= .int .i64 u:=h.1;subst e;refine(hc w).mono ?_;rintro e w' ⟨v,rfl,h1,h2⟩;exact⟨v,rfl,(aK hk).2 h1,h2⟩⟩
theorem jI (hi:xs[i]? =some x) (hj:xs[j]? =some y) (hk:xs[k]? =some (x.mul y)) (ox:x.ok 1000000000) (oy:y.ok 1000000000):OkI xs ys ⟨136,[fr i,fr j],.v (fr k)⟩:=
 inst2 (aA Tryz.func136 rfl rfl) (fun va vb w h1 h2=>q_fMul va vb x y w h1 h2 ox oy) hi hj hk
theorem np (hi:xs[i]? =some x) (hj:xs[j]? =some y) (hk:xs[k]? =some (x.add y)) (ox:x.ok 1000000000) (oy:y.ok 1000000000):OkI xs ys ⟨85,[fr i,fr j],.v (fr k)⟩:=
 inst2 (aA Tryz.func85 rfl rfl) (fun va vb w h1 h2=>q_fAdd va vb x y w h1 h2 ox oy) hi hj hk
theorem nw (hi:xs[i]? =some x) (hj:xs[j]? =some y) (hk:xs[k]? =some (x.sub y)) (ox:x.ok 1000000000) (oy:y.ok 1000000000):OkI xs ys ⟨82,[fr i,fr j],.v (fr k)⟩:=
 inst2 (aA Tryz.func82 rfl rfl) (fun va vb w h1 h2=>q_fSub va vb x y w h1 h2 ox oy) hi hj hk
theorem df (hi:xs[i]? =some x) (hj:xs[j]? =some y) (hk:xs[k]? =some (x.div y)) (ox:x.ok 1000000000) (oy:y.ok 1000000000) (h0:y.p≠0):OkI xs ys ⟨234,[fr i,fr j],.tup [fr k,.one (.i .i64 0)]⟩:=
 inst2E (aA Tryz.func234 rfl rfl) (fun va vb w h1 h2=>q_fDiv va vb x y w h1 h2 ox oy h0) hi hj hk
theorem aU (hi:xs[i]? =some x) (hl:∀B w,l.holds (frs xs++ys) B w (.int .i64 x.sgn)) (ox:x.ok 1000000000000):OkI xs ys ⟨144,[fr i],.v (.one l)⟩:=
 inst1V (aA Tryz.func144 rfl rfl) (fun va w h1=>yB va x w h1 ox) hi hl
theorem bz (hi:xs[i]? =some x) (hj:xs[j]? =some y) (hl:∀B w,l.holds (frs xs++ys) B w (.int .i64 (x.cmp y))) (ox:x.ok 1000000000) (oy:y.ok 1000000000):OkI xs ys ⟨83,[fr i,fr j],.v (.one l)⟩:=
 inst2V (aA Tryz.func83 rfl rfl) (fun va vb w h1 h2=>q_fCmp va vb x y w h1 h2 ox oy) hi hj hl
theorem dg (hk:xs[k]? =some (.ofInt u)) (lu: -9223372036854775808≤u) (ru:u<9223372036854775808):OkI xs ys ⟨80,[.one (.i .i64 u)],.v (fr k)⟩:=
 instIQ (aA Tryz.func80 rfl rfl) (fun w=>q_fInt u w lu ru) hk
theorem aL (hi:xs[i]? =some x) (hl:∀B w,l.holds (frs xs++ys) B w (.bool x.valid)) (ox:x.ok 1000000):OkI xs ys ⟨235,[fr i],.v (.one l)⟩:=
 inst1V (aA Tryz.func235 rfl rfl) (fun va w h1=>uC va x w h1 ox.p ox.q) hi hl
theorem sH (hk:xs[k]? =some (.ofInt u)) (lu: -9223372036854775808≤u) (ru:u<9223372036854775808):OkI xs ys ⟨51,[.one (.i .i64 u)],.v (fr k)⟩:=
 instIQ (aA Tryz.func51 rfl rfl) (fun w=>q_rInt u w lu ru) hk
theorem ie (hi:xs[i]? =some x) (hj:xs[j]? =some y) (hl:∀B w,l.holds (frs xs++ys) B w (.bool (x.same y))) (hp:nl x.p≤1000000000000) (hq:nl x.q≤1000000000000) (kp:nl y.p≤1000000000000) (kq:nl y.q≤1000000000000):OkI xs ys ⟨121,[fr i,fr j],.v (.one l)⟩:=
 inst2V (aA Tryz.func121 rfl rfl) (fun va vb w h1 h2=>q_SameB va vb x y w h1 h2 hp hq kp kq) hi hj hl
theorem fy (h:x.p=0):x.sgn=0:=by unfold Fq.sgn;rw[if_pos h]
theorem sgn_ne {x:Fq}:x.sgn≠0↔x.p≠0:=by
 unfold Fq.sgn;by_cases h:x.p=0
 ·rw[if_pos h];simp[h]
 ·rw[if_neg h];simp only[ne_eq,h,not_false_eq_true,iff_true];split<;>decide
theorem nz (h:x.p≠0):(x.sgn==0)=false:=by have:=sgn_ne.2 h;simpa using this
theorem jJ (h:x.p≠0):(x.sgn !=0)=true:=by have:=sgn_ne.2 h;simpa using this
theorem jK (h:u≠c):(u==c)=false:=by simpa using h
theorem sI (h:u≠c):(u !=c)=true:=by simpa using h
theorem isR00 (w:World):IsR w (.agg #[.slice none 0 0]) 0 0:=⟨none,0,rfl,Nat.le_refl _,by simp,fun h=>by omega⟩
theorem fA {B:Blk} {w:World}:∀ {n:Nat} {cs:List Value},aB ρ B w (List.replicate n [Leaf.b false,.sl0,.sl0]).flatten cs→bF w (List.replicate n Fq.zero.raw) cs
 | 0,cs,h=>by
  match cs,h with
  | [],_=>rfl
 | n+1,cs,h=>by
  match cs,h with
  | u1::u2::u3::cs',h=>
   obtain⟨g1,g2,g3,g4⟩:=h;have e1:u1= .bool false:=g1;have e2:u2= .slice none 0 0:=g2;have e3:u3= .slice none 0 0:=g3;subst e1;subst e2;subst e3;have hz:nl 0=0:=bP;refine⟨none,0,none,0,cs',?_,?_,?_,fA (n:=n) g4⟩
   ·simp[Fq.raw,Fq.zero,hz]
   ·simp only[Fq.raw,Fq.zero,hz];exact isR00 w
   ·simp only[Fq.raw,Fq.zero,hz];exact isR00 w
  | [],h=>exact h.elim
  | [_],h=>exact h.2.elim
  | [_,_],h=>exact h.2.2.elim
end
def Vq.cs (v:Vq):List Fq:=[v.x,v.y,v.z]
def Qq.cs (q:Qq):List Fq:=[q.w,q.x,q.y,q.z]
abbrev dI (w:World) (v:Value) (a:Vq):Prop:=IsL w v [a.x.raw,a.y.raw,a.z.raw]
abbrev RetL (W:World) (l:List Rq) (e:Ending) (w':World):Prop:=∃v,e= .returned v∧IsL w' v l∧Below W.heap.size W w'
abbrev fB (W:World) (a:Vq) (e:Ending) (w':World):Prop:=RetL W [a.x.raw,a.y.raw,a.z.raw] e w'
abbrev eZ (w:World) (v:Value) (q:Qq):Prop:=IsL w v [q.w.raw,q.x.raw,q.y.raw,q.z.raw]
abbrev oe (W:World) (q:Qq) (e:Ending) (w':World):Prop:=RetL W [q.w.raw,q.x.raw,q.y.raw,q.z.raw] e w'
def RetLE (W:World) (l:List Rq) (c:Int) (e:Ending) (w':World):Prop:=∃v,e= .returned (.tuple #[v,.int .i64 c])∧IsL w' v l∧Below W.heap.size W w'
abbrev wN (W:World) (q:Qq) (c:Int) (e:Ending) (w':World):Prop:=RetLE W [q.w.raw,q.x.raw,q.y.raw,q.z.raw] c e w'
theorem aO {u:Int} (lu: -9223372036854775808≤u) (ru:u<9223372036854775808):(Fq.ofInt u).ok 2:=⟨pF lu ru,aV.2 (by show(1:Nat)<4294967296^2;decide),by show(1:Nat)≠0;decide⟩
def sJ (x y:Fq):List Fq:=[x,y,(x.mul y)]
theorem q_times (vp:Value) (x y:Fq) (w:World) (ip:IsL w vp [x.raw,y.raw]) (hx:x.ok 1000000000) (hy:y.ok 1000000000):
  Calls Tryz.prog 84 #[vp] w fun e w'=>ju w (x.mul y) e w':=by
 refine(cRn (ρ:=frs (sJ x y)++ []) (args:=[row [0,1]]) (vs:=[vp]) (r:=.v (fr 2))
  (ae (jI (i:=0) (j:=1) (k:=2) rfl rfl rfl (hx.mono (by decide)) (hy.mono (by decide))) ai)
  aj Tryz.func84 (by kernel_rfl) ⟨(ah (xs:=sJ x y) (ks:=[0,1]) (vs:=[x,y]) ⟨rfl,rfl,trivial⟩).2 ip,trivial⟩).mono ?_
 rintro e w' ⟨v,rfl,h1,h2⟩;exact⟨v,rfl,(aK (xs:=sJ x y) (k:=2) rfl).1 h1,h2⟩
theorem e8 {xs:List Fq} {ys:Rho} {ks:List Nat} {k:Nat} {x y:Fq} (hi:AtL xs ks [x,y]) (hk:xs[k]? =some (x.mul y)) (hx:x.ok 1000000000) (hy:y.ok 1000000000):OkI xs ys ⟨84,[row ks],.v (fr k)⟩:=
 ⟨aA Tryz.func84 rfl rfl,fun B w vs hB h=>by
  match vs,h with
  | [va],h=>
   refine(q_times va x y w ((ah hi).1 h.1) hx hy).mono ?_;rintro e w' ⟨v,rfl,h1,h2⟩;exact⟨v,rfl,(aK hk).2 h1,h2⟩⟩
def wO (x y:Fq):List Fq:=[x,y,(x.sub y)]
theorem q_less (vp:Value) (x y:Fq) (w:World) (ip:IsL w vp [x.raw,y.raw]) (hx:x.ok 1000000000) (hy:y.ok 1000000000):
  Calls Tryz.prog 194 #[vp] w fun e w'=>ju w (x.sub y) e w':=by
 refine(cRn (ρ:=frs (wO x y)++ []) (args:=[row [0,1]]) (vs:=[vp]) (r:=.v (fr 2))
  (ae (nw (i:=0) (j:=1) (k:=2) rfl rfl rfl (hx.mono (by decide)) (hy.mono (by decide))) ai)
  aj Tryz.func194 (by kernel_rfl) ⟨(ah (xs:=wO x y) (ks:=[0,1]) (vs:=[x,y]) ⟨rfl,rfl,trivial⟩).2 ip,trivial⟩).mono ?_
 rintro e w' ⟨v,rfl,h1,h2⟩;exact⟨v,rfl,(aK (xs:=wO x y) (k:=2) rfl).1 h1,h2⟩
theorem wP {xs:List Fq} {ys:Rho} {ks:List Nat} {k:Nat} {x y:Fq} (hi:AtL xs ks [x,y]) (hk:xs[k]? =some (x.sub y)) (hx:x.ok 1000000000) (hy:y.ok 1000000000):OkI xs ys ⟨194,[row ks],.v (fr k)⟩:=
 ⟨aA Tryz.func194 rfl rfl,fun B w vs hB h=>by
  match vs,h with
  | [va],h=>
   refine(q_less va x y w ((ah hi).1 h.1) hx hy).mono ?_;rintro e w' ⟨v,rfl,h1,h2⟩;exact⟨v,rfl,(aK hk).2 h1,h2⟩⟩
def j7 (a:Vq) (b:Vq):List Fq:=[a.x,a.y,a.z,b.x,b.y,b.z,(a.x.add b.x),(a.y.add b.y),(a.z.add b.z)]
theorem zU (va vb:Value) (a:Vq) (b:Vq) (w:World) (ia:dI w va a) (ib:dI w vb b) (ha:a.ok 100000000) (hb:b.ok 100000000):
  Calls Tryz.prog 81 #[va,vb,fnV 85] w fun e w'=>fB w (a.add b) e w':=by
 refine(cRn (ρ:=frs (j7 a b)++ []) (args:=[row [0,1,2],row [3,4,5],.one (.fn 85)]) (vs:=[va,vb,fnV 85]) (r:=.v (row [6,7,8]))
  (ae (np (i:=0) (j:=3) (k:=6) rfl rfl rfl (ha.x.mono (by decide)) (hb.x.mono (by decide))) (ae (np (i:=1) (j:=4) (k:=7) rfl rfl rfl (ha.y.mono (by decide)) (hb.y.mono (by decide))) (ae (np (i:=2) (j:=5) (k:=8) rfl rfl rfl (ha.z.mono (by decide)) (hb.z.mono (by decide))) ai)))
  aj Tryz.func81 (by kernel_rfl) ⟨(ah (xs:=j7 a b) (ks:=[0,1,2]) (vs:=[a.x,a.y,a.z]) ⟨rfl,rfl,rfl,trivial⟩).2 ia,⟨(ah (xs:=j7 a b) (ks:=[3,4,5]) (vs:=[b.x,b.y,b.z]) ⟨rfl,rfl,rfl,trivial⟩).2 ib,⟨rfl,trivial⟩⟩⟩).mono ?_
 rintro e w' ⟨v,rfl,h1,h2⟩;exact⟨v,rfl,(ah (xs:=j7 a b) (ks:=[6,7,8]) (vs:=[(a.x.add b.x),(a.y.add b.y),(a.z.add b.z)]) ⟨rfl,rfl,rfl,trivial⟩).1 h1,h2⟩
theorem zV {xs:List Fq} {ys:Rho} {ka:List Nat} {kb:List Nat} {a:Vq} {b:Vq} {kr:List Nat} (aa:AtL xs ka [a.x,a.y,a.z]) (ab:AtL xs kb [b.x,b.y,b.z]) (ar:AtL xs kr [(a.add b).x,(a.add b).y,(a.add b).z]) (ha:a.ok 100000000) (hb:b.ok 100000000):OkI xs ys ⟨81,[row ka,row kb,.one (.fn 85)],.v (row kr)⟩:=
 ⟨aA Tryz.func81 rfl rfl,fun B w vs hB h=>by
  match vs,h with
  | [va,vb,vf],h=>
   have ef:vf=fnV 85:=h.2.2.1;subst ef;refine(zU va vb a b w ((ah aa).1 h.1) ((ah ab).1 h.2.1) ha hb).mono ?_;rintro e w' ⟨v,rfl,h1,h2⟩;exact⟨v,rfl,(ah ar).2 h1,h2⟩⟩
def j8 (a:Vq) (b:Vq):List Fq:=[a.x,a.y,a.z,b.x,b.y,b.z,(a.x.sub b.x),(a.y.sub b.y),(a.z.sub b.z)]
theorem zW (va vb:Value) (a:Vq) (b:Vq) (w:World) (ia:dI w va a) (ib:dI w vb b) (ha:a.ok 100000000) (hb:b.ok 100000000):
  Calls Tryz.prog 81 #[va,vb,fnV 82] w fun e w'=>fB w (a.sub b) e w':=by
 refine(cRn (ρ:=frs (j8 a b)++ []) (args:=[row [0,1,2],row [3,4,5],.one (.fn 82)]) (vs:=[va,vb,fnV 82]) (r:=.v (row [6,7,8]))
  (ae (nw (i:=0) (j:=3) (k:=6) rfl rfl rfl (ha.x.mono (by decide)) (hb.x.mono (by decide))) (ae (nw (i:=1) (j:=4) (k:=7) rfl rfl rfl (ha.y.mono (by decide)) (hb.y.mono (by decide))) (ae (nw (i:=2) (j:=5) (k:=8) rfl rfl rfl (ha.z.mono (by decide)) (hb.z.mono (by decide))) ai)))
  aj Tryz.func81 (by kernel_rfl) ⟨(ah (xs:=j8 a b) (ks:=[0,1,2]) (vs:=[a.x,a.y,a.z]) ⟨rfl,rfl,rfl,trivial⟩).2 ia,⟨(ah (xs:=j8 a b) (ks:=[3,4,5]) (vs:=[b.x,b.y,b.z]) ⟨rfl,rfl,rfl,trivial⟩).2 ib,⟨rfl,trivial⟩⟩⟩).mono ?_
 rintro e w' ⟨v,rfl,h1,h2⟩;exact⟨v,rfl,(ah (xs:=j8 a b) (ks:=[6,7,8]) (vs:=[(a.x.sub b.x),(a.y.sub b.y),(a.z.sub b.z)]) ⟨rfl,rfl,rfl,trivial⟩).1 h1,h2⟩
theorem zX {xs:List Fq} {ys:Rho} {ka:List Nat} {kb:List Nat} {a:Vq} {b:Vq} {kr:List Nat} (aa:AtL xs ka [a.x,a.y,a.z]) (ab:AtL xs kb [b.x,b.y,b.z]) (ar:AtL xs kr [(a.sub b).x,(a.sub b).y,(a.sub b).z]) (ha:a.ok 100000000) (hb:b.ok 100000000):OkI xs ys ⟨81,[row ka,row kb,.one (.fn 82)],.v (row kr)⟩:=
 ⟨aA Tryz.func81 rfl rfl,fun B w vs hB h=>by
  match vs,h with
  | [va,vb,vf],h=>
   have ef:vf=fnV 82:=h.2.2.1;subst ef;refine(zW va vb a b w ((ah aa).1 h.1) ((ah ab).1 h.2.1) ha hb).mono ?_;rintro e w' ⟨v,rfl,h1,h2⟩;exact⟨v,rfl,(ah ar).2 h1,h2⟩⟩
def Vq.times (a b:Vq):Vq:=⟨a.x.mul b.x,a.y.mul b.y,a.z.mul b.z⟩
theorem Vq.ok.times {a b:Vq} {d e:Nat} (h:a.ok d) (k:b.ok e):(a.times b).ok (d+e):=⟨h.x.mul k.x,h.y.mul k.y,h.z.mul k.z⟩
def j9 (a:Vq) (b:Vq):List Fq:=[a.x,a.y,a.z,b.x,b.y,b.z,(a.x.mul b.x),(a.y.mul b.y),(a.z.mul b.z)]
theorem zY (va vb:Value) (a:Vq) (b:Vq) (w:World) (ia:dI w va a) (ib:dI w vb b) (ha:a.ok 100000000) (hb:b.ok 100000000):
  Calls Tryz.prog 81 #[va,vb,fnV 136] w fun e w'=>fB w (a.times b) e w':=by
 refine(cRn (ρ:=frs (j9 a b)++ []) (args:=[row [0,1,2],row [3,4,5],.one (.fn 136)]) (vs:=[va,vb,fnV 136]) (r:=.v (row [6,7,8]))
  (ae (jI (i:=0) (j:=3) (k:=6) rfl rfl rfl (ha.x.mono (by decide)) (hb.x.mono (by decide))) (ae (jI (i:=1) (j:=4) (k:=7) rfl rfl rfl (ha.y.mono (by decide)) (hb.y.mono (by decide))) (ae (jI (i:=2) (j:=5) (k:=8) rfl rfl rfl (ha.z.mono (by decide)) (hb.z.mono (by decide))) ai)))
  aj Tryz.func81 (by kernel_rfl) ⟨(ah (xs:=j9 a b) (ks:=[0,1,2]) (vs:=[a.x,a.y,a.z]) ⟨rfl,rfl,rfl,trivial⟩).2 ia,⟨(ah (xs:=j9 a b) (ks:=[3,4,5]) (vs:=[b.x,b.y,b.z]) ⟨rfl,rfl,rfl,trivial⟩).2 ib,⟨rfl,trivial⟩⟩⟩).mono ?_
 rintro e w' ⟨v,rfl,h1,h2⟩;exact⟨v,rfl,(ah (xs:=j9 a b) (ks:=[6,7,8]) (vs:=[(a.x.mul b.x),(a.y.mul b.y),(a.z.mul b.z)]) ⟨rfl,rfl,rfl,trivial⟩).1 h1,h2⟩
theorem zZ {xs:List Fq} {ys:Rho} {ka:List Nat} {kb:List Nat} {a:Vq} {b:Vq} {kr:List Nat} (aa:AtL xs ka [a.x,a.y,a.z]) (ab:AtL xs kb [b.x,b.y,b.z]) (ar:AtL xs kr [(a.times b).x,(a.times b).y,(a.times b).z]) (ha:a.ok 100000000) (hb:b.ok 100000000):OkI xs ys ⟨81,[row ka,row kb,.one (.fn 136)],.v (row kr)⟩:=
 ⟨aA Tryz.func81 rfl rfl,fun B w vs hB h=>by
  match vs,h with
  | [va,vb,vf],h=>
   have ef:vf=fnV 136:=h.2.2.1;subst ef;refine(zY va vb a b w ((ah aa).1 h.1) ((ah ab).1 h.2.1) ha hb).mono ?_;rintro e w' ⟨v,rfl,h1,h2⟩;exact⟨v,rfl,(ah ar).2 h1,h2⟩⟩
def sK (a:Vq) (b:Vq):List Fq:=[a.x,a.y,a.z,b.x,b.y,b.z,(a.add b).x,(a.add b).y,(a.add b).z]
theorem q_vAdd (va vb:Value) (a:Vq) (b:Vq) (w:World) (ia:dI w va a) (ib:dI w vb b) (ha:a.ok 100000000) (hb:b.ok 100000000):
  Calls Tryz.prog 137 #[va,vb] w fun e w'=>fB w (a.add b) e w':=by
 refine(cRn (ρ:=frs (sK a b)++ []) (args:=[row [0,1,2],row [3,4,5]]) (vs:=[va,vb]) (r:=.v (row [6,7,8]))
  (ae (zV (ka:=[0,1,2]) (a:=a) (kb:=[3,4,5]) (b:=b) (kr:=[6,7,8]) ⟨rfl,rfl,rfl,trivial⟩ ⟨rfl,rfl,rfl,trivial⟩ ⟨rfl,rfl,rfl,trivial⟩ (ha.mono (by decide)) (hb.mono (by decide))) ai)
  aj Tryz.func137 (by kernel_rfl) ⟨(ah (xs:=sK a b) (ks:=[0,1,2]) (vs:=[a.x,a.y,a.z]) ⟨rfl,rfl,rfl,trivial⟩).2 ia,⟨(ah (xs:=sK a b) (ks:=[3,4,5]) (vs:=[b.x,b.y,b.z]) ⟨rfl,rfl,rfl,trivial⟩).2 ib,trivial⟩⟩).mono ?_
 rintro e w' ⟨v,rfl,h1,h2⟩;exact⟨v,rfl,(ah (xs:=sK a b) (ks:=[6,7,8]) (vs:=[(a.add b).x,(a.add b).y,(a.add b).z]) ⟨rfl,rfl,rfl,trivial⟩).1 h1,h2⟩
theorem nD {xs:List Fq} {ys:Rho} {ka:List Nat} {kb:List Nat} {a:Vq} {b:Vq} {kr:List Nat} (aa:AtL xs ka [a.x,a.y,a.z]) (ab:AtL xs kb [b.x,b.y,b.z]) (ar:AtL xs kr [(a.add b).x,(a.add b).y,(a.add b).z]) (ha:a.ok 100000000) (hb:b.ok 100000000):OkI xs ys ⟨137,[row ka,row kb],.v (row kr)⟩:=
 ⟨aA Tryz.func137 rfl rfl,fun B w vs hB h=>by
  match vs,h with
  | [va,vb],h=>
   refine(q_vAdd va vb a b w ((ah aa).1 h.1) ((ah ab).1 h.2.1) ha hb).mono ?_;rintro e w' ⟨v,rfl,h1,h2⟩;exact⟨v,rfl,(ah ar).2 h1,h2⟩⟩
def sL (a:Vq) (b:Vq):List Fq:=[a.x,a.y,a.z,b.x,b.y,b.z,(a.sub b).x,(a.sub b).y,(a.sub b).z]
theorem q_vSub (va vb:Value) (a:Vq) (b:Vq) (w:World) (ia:dI w va a) (ib:dI w vb b) (ha:a.ok 100000000) (hb:b.ok 100000000):
  Calls Tryz.prog 25 #[va,vb] w fun e w'=>fB w (a.sub b) e w':=by
 refine(cRn (ρ:=frs (sL a b)++ []) (args:=[row [0,1,2],row [3,4,5]]) (vs:=[va,vb]) (r:=.v (row [6,7,8]))
  (ae (zX (ka:=[0,1,2]) (a:=a) (kb:=[3,4,5]) (b:=b) (kr:=[6,7,8]) ⟨rfl,rfl,rfl,trivial⟩ ⟨rfl,rfl,rfl,trivial⟩ ⟨rfl,rfl,rfl,trivial⟩ (ha.mono (by decide)) (hb.mono (by decide))) ai)
  aj Tryz.func25 (by kernel_rfl) ⟨(ah (xs:=sL a b) (ks:=[0,1,2]) (vs:=[a.x,a.y,a.z]) ⟨rfl,rfl,rfl,trivial⟩).2 ia,⟨(ah (xs:=sL a b) (ks:=[3,4,5]) (vs:=[b.x,b.y,b.z]) ⟨rfl,rfl,rfl,trivial⟩).2 ib,trivial⟩⟩).mono ?_
 rintro e w' ⟨v,rfl,h1,h2⟩;exact⟨v,rfl,(ah (xs:=sL a b) (ks:=[6,7,8]) (vs:=[(a.sub b).x,(a.sub b).y,(a.sub b).z]) ⟨rfl,rfl,rfl,trivial⟩).1 h1,h2⟩
theorem I_vSub {xs:List Fq} {ys:Rho} {ka:List Nat} {kb:List Nat} {a:Vq} {b:Vq} {kr:List Nat} (aa:AtL xs ka [a.x,a.y,a.z]) (ab:AtL xs kb [b.x,b.y,b.z]) (ar:AtL xs kr [(a.sub b).x,(a.sub b).y,(a.sub b).z]) (ha:a.ok 100000000) (hb:b.ok 100000000):OkI xs ys ⟨25,[row ka,row kb],.v (row kr)⟩:=
 ⟨aA Tryz.func25 rfl rfl,fun B w vs hB h=>by
  match vs,h with
  | [va,vb],h=>
   refine(q_vSub va vb a b w ((ah aa).1 h.1) ((ah ab).1 h.2.1) ha hb).mono ?_;rintro e w' ⟨v,rfl,h1,h2⟩;exact⟨v,rfl,(ah ar).2 h1,h2⟩⟩
def mu (a:Vq) (k:Fq):List Fq:=[a.x,a.y,a.z,k,(a.times (Vq.mk k k k)).x,(a.times (Vq.mk k k k)).y,(a.times (Vq.mk k k k)).z]
theorem q_vScale (va vk:Value) (a:Vq) (k:Fq) (w:World) (ia:dI w va a) (ik:IsQ w vk k) (ha:a.ok 100000000) (hk:k.ok 100000000):
  Calls Tryz.prog 118 #[va,vk] w fun e w'=>fB w (a.scale k) e w':=by
 refine(cRn (ρ:=frs (mu a k)++ []) (args:=[row [0,1,2],fr 3]) (vs:=[va,vk]) (r:=.v (row [4,5,6]))
  (ae (zZ (ka:=[0,1,2]) (a:=a) (kb:=[3,3,3]) (b:=(Vq.mk k k k)) (kr:=[4,5,6]) ⟨rfl,rfl,rfl,trivial⟩ ⟨rfl,rfl,rfl,trivial⟩ ⟨rfl,rfl,rfl,trivial⟩ (ha.mono (by decide)) (⟨hk.mono (by decide),hk.mono (by decide),hk.mono (by decide)⟩:Vq.ok 100000000 (Vq.mk k k k))) ai)
  aj Tryz.func118 (by kernel_rfl) ⟨(ah (xs:=mu a k) (ks:=[0,1,2]) (vs:=[a.x,a.y,a.z]) ⟨rfl,rfl,rfl,trivial⟩).2 ia,⟨(aK (xs:=mu a k) (k:=3) rfl).2 ik,trivial⟩⟩).mono ?_
 rintro e w' ⟨v,rfl,h1,h2⟩;exact⟨v,rfl,(ah (xs:=mu a k) (ks:=[4,5,6]) (vs:=[(a.times (Vq.mk k k k)).x,(a.times (Vq.mk k k k)).y,(a.times (Vq.mk k k k)).z]) ⟨rfl,rfl,rfl,trivial⟩).1 h1,h2⟩
theorem dv {xs:List Fq} {ys:Rho} {ka:List Nat} {ik:Nat} {a:Vq} {k:Fq} {kr:List Nat} (aa:AtL xs ka [a.x,a.y,a.z]) (ak:xs[ik]? =some k) (ar:AtL xs kr [(a.scale k).x,(a.scale k).y,(a.scale k).z]) (ha:a.ok 100000000) (hk:k.ok 100000000):OkI xs ys ⟨118,[row ka,fr ik],.v (row kr)⟩:=
 ⟨aA Tryz.func118 rfl rfl,fun B w vs hB h=>by
  match vs,h with
  | [va,vk],h=>
   refine(q_vScale va vk a k w ((ah aa).1 h.1) ((aK ak).1 h.2.1) ha hk).mono ?_;rintro e w' ⟨v,rfl,h1,h2⟩;exact⟨v,rfl,(ah ar).2 h1,h2⟩⟩
def sM (a:Vq) (b:Vq):List Fq:=[a.x,a.y,a.z,b.x,b.y,b.z,(a.x.mul b.x),(a.y.mul b.y),(a.z.mul b.z),((a.y.mul b.y).add (a.z.mul b.z)),((a.x.mul b.x).add ((a.y.mul b.y).add (a.z.mul b.z)))]
theorem q_vDot (va vb:Value) (a:Vq) (b:Vq) (w:World) (ia:dI w va a) (ib:dI w vb b) (ha:a.ok 100000000) (hb:b.ok 100000000):
  Calls Tryz.prog 29 #[va,vb] w fun e w'=>ju w (a.dot b) e w':=by
 refine(cRn (ρ:=frs (sM a b)++ []) (args:=[row [0,1,2],row [3,4,5]]) (vs:=[va,vb]) (r:=.v (fr 10))
  (ae (e8 (ks:=[0,3]) (k:=6) ⟨rfl,rfl,trivial⟩ rfl (ha.x.mono (by decide)) (hb.x.mono (by decide))) (ae (e8 (ks:=[1,4]) (k:=7) ⟨rfl,rfl,trivial⟩ rfl (ha.y.mono (by decide)) (hb.y.mono (by decide))) (ae (e8 (ks:=[2,5]) (k:=8) ⟨rfl,rfl,trivial⟩ rfl (ha.z.mono (by decide)) (hb.z.mono (by decide))) (ae (np (i:=7) (j:=8) (k:=9) rfl rfl rfl ((ha.y.mul hb.y).mono (by decide)) ((ha.z.mul hb.z).mono (by decide))) (ae (np (i:=6) (j:=9) (k:=10) rfl rfl rfl ((ha.x.mul hb.x).mono (by decide)) (((ha.y.mul hb.y).add (ha.z.mul hb.z)).mono (by decide))) ai)))))
  aj Tryz.func29 (by kernel_rfl) ⟨(ah (xs:=sM a b) (ks:=[0,1,2]) (vs:=[a.x,a.y,a.z]) ⟨rfl,rfl,rfl,trivial⟩).2 ia,⟨(ah (xs:=sM a b) (ks:=[3,4,5]) (vs:=[b.x,b.y,b.z]) ⟨rfl,rfl,rfl,trivial⟩).2 ib,trivial⟩⟩).mono ?_
 rintro e w' ⟨v,rfl,h1,h2⟩;exact⟨v,rfl,(aK (xs:=sM a b) (k:=10) rfl).1 h1,h2⟩
theorem wQ {xs:List Fq} {ys:Rho} {ka:List Nat} {kb:List Nat} {a:Vq} {b:Vq} {ir:Nat} (aa:AtL xs ka [a.x,a.y,a.z]) (ab:AtL xs kb [b.x,b.y,b.z]) (ar:xs[ir]? =some (a.dot b)) (ha:a.ok 100000000) (hb:b.ok 100000000):OkI xs ys ⟨29,[row ka,row kb],.v (fr ir)⟩:=
 ⟨aA Tryz.func29 rfl rfl,fun B w vs hB h=>by
  match vs,h with
  | [va,vb],h=>
   refine(q_vDot va vb a b w ((ah aa).1 h.1) ((ah ab).1 h.2.1) ha hb).mono ?_;rintro e w' ⟨v,rfl,h1,h2⟩;exact⟨v,rfl,(aK ar).2 h1,h2⟩⟩
def mv (a:Vq) (b:Vq):List Fq:=[a.x,a.y,a.z,b.x,b.y,b.z,(a.y.mul b.z),(a.z.mul b.y),((a.y.mul b.z).sub (a.z.mul b.y)),(a.z.mul b.x),(a.x.mul b.z),((a.z.mul b.x).sub (a.x.mul b.z)),(a.x.mul b.y),(a.y.mul b.x),((a.x.mul b.y).sub (a.y.mul b.x))]
theorem q_vCross (va vb:Value) (a:Vq) (b:Vq) (w:World) (ia:dI w va a) (ib:dI w vb b) (ha:a.ok 100000000) (hb:b.ok 100000000):
  Calls Tryz.prog 138 #[va,vb] w fun e w'=>fB w (a.cross b) e w':=by
 refine(cRn (ρ:=frs (mv a b)++ []) (args:=[row [0,1,2],row [3,4,5]]) (vs:=[va,vb]) (r:=.v (row [8,11,14]))
  (ae (e8 (ks:=[1,5]) (k:=6) ⟨rfl,rfl,trivial⟩ rfl (ha.y.mono (by decide)) (hb.z.mono (by decide))) (ae (e8 (ks:=[2,4]) (k:=7) ⟨rfl,rfl,trivial⟩ rfl (ha.z.mono (by decide)) (hb.y.mono (by decide))) (ae (wP (ks:=[6,7]) (k:=8) ⟨rfl,rfl,trivial⟩ rfl ((ha.y.mul hb.z).mono (by decide)) ((ha.z.mul hb.y).mono (by decide))) (ae (e8 (ks:=[2,3]) (k:=9) ⟨rfl,rfl,trivial⟩ rfl (ha.z.mono (by decide)) (hb.x.mono (by decide))) (ae (e8 (ks:=[0,5]) (k:=10) ⟨rfl,rfl,trivial⟩ rfl (ha.x.mono (by decide)) (hb.z.mono (by decide))) (ae (wP (ks:=[9,10]) (k:=11) ⟨rfl,rfl,trivial⟩ rfl ((ha.z.mul hb.x).mono (by decide)) ((ha.x.mul hb.z).mono (by decide))) (ae (e8 (ks:=[0,4]) (k:=12) ⟨rfl,rfl,trivial⟩ rfl (ha.x.mono (by decide)) (hb.y.mono (by decide))) (ae (e8 (ks:=[1,3]) (k:=13) ⟨rfl,rfl,trivial⟩ rfl (ha.y.mono (by decide)) (hb.x.mono (by decide))) (ae (wP (ks:=[12,13]) (k:=14) ⟨rfl,rfl,trivial⟩ rfl ((ha.x.mul hb.y).mono (by decide)) ((ha.y.mul hb.x).mono (by decide))) ai)))))))))
  aj Tryz.func138 (by kernel_rfl) ⟨(ah (xs:=mv a b) (ks:=[0,1,2]) (vs:=[a.x,a.y,a.z]) ⟨rfl,rfl,rfl,trivial⟩).2 ia,⟨(ah (xs:=mv a b) (ks:=[3,4,5]) (vs:=[b.x,b.y,b.z]) ⟨rfl,rfl,rfl,trivial⟩).2 ib,trivial⟩⟩).mono ?_
 rintro e w' ⟨v,rfl,h1,h2⟩;exact⟨v,rfl,(ah (xs:=mv a b) (ks:=[8,11,14]) (vs:=[((a.y.mul b.z).sub (a.z.mul b.y)),((a.z.mul b.x).sub (a.x.mul b.z)),((a.x.mul b.y).sub (a.y.mul b.x))]) ⟨rfl,rfl,rfl,trivial⟩).1 h1,h2⟩
theorem uK {xs:List Fq} {ys:Rho} {ka:List Nat} {kb:List Nat} {a:Vq} {b:Vq} {kr:List Nat} (aa:AtL xs ka [a.x,a.y,a.z]) (ab:AtL xs kb [b.x,b.y,b.z]) (ar:AtL xs kr [(a.cross b).x,(a.cross b).y,(a.cross b).z]) (ha:a.ok 100000000) (hb:b.ok 100000000):OkI xs ys ⟨138,[row ka,row kb],.v (row kr)⟩:=
 ⟨aA Tryz.func138 rfl rfl,fun B w vs hB h=>by
  match vs,h with
  | [va,vb],h=>
   refine(q_vCross va vb a b w ((ah aa).1 h.1) ((ah ab).1 h.2.1) ha hb).mono ?_;rintro e w' ⟨v,rfl,h1,h2⟩;exact⟨v,rfl,(ah ar).2 h1,h2⟩⟩
def Vq.same (a b:Vq):Bool:=a.x.same b.x && (a.y.same b.y && a.z.same b.z)
def Qq.same (p q:Qq):Bool:=p.w.same q.w && (p.x.same q.x && (p.y.same q.y && p.z.same q.z))
theorem Vq.same_iff {a b:Vq}:a.same b=true↔a=b:=by
 obtain⟨a1,a2,a3⟩:=a;obtain⟨b1,b2,b3⟩:=b;simp[Vq.same,Fq.same_iff]
theorem Qq.same_iff {a b:Qq}:a.same b=true↔a=b:=by
 obtain⟨a1,a2,a3,a4⟩:=a;obtain⟨b1,b2,b3,b4⟩:=b;simp[Qq.same,Fq.same_iff]
theorem same_ne {x y:Fq} (h:x≠y):x.same y=false:=Bool.eq_false_iff.2 (mt Fq.same_iff.1 h)
def nE (a:Qq) (b:Qq):List Fq:=(a.cs++(b.cs))
theorem z6 (va vb:Value) (a:Qq) (b:Qq) (w:World) (ia:eZ w va a) (ib:eZ w vb b) (ha:a.ok 1000000000) (hb:b.ok 1000000000) (e0:a=b):
  Calls Tryz.prog 102 #[va,vb] w fun e w'=>cK w (.bool true) e w':=by
 refine(cRn (ρ:=frs (nE a b)++ []) (args:=[row [0,1,2,3],row [4,5,6,7]]) (vs:=[va,vb]) (r:=.v (.one (.b true)))
  (ae (ie (i:=0) (j:=4) (l:=.b true) rfl rfl (lb (Fq.same_iff.2 (congrArg Qq.w e0))) (ha.w.mono (by decide)).p (ha.w.mono (by decide)).q (hb.w.mono (by decide)).p (hb.w.mono (by decide)).q) (ae (ie (i:=1) (j:=5) (l:=.b true) rfl rfl (lb (Fq.same_iff.2 (congrArg Qq.x e0))) (ha.x.mono (by decide)).p (ha.x.mono (by decide)).q (hb.x.mono (by decide)).p (hb.x.mono (by decide)).q) (ae (ie (i:=2) (j:=6) (l:=.b true) rfl rfl (lb (Fq.same_iff.2 (congrArg Qq.y e0))) (ha.y.mono (by decide)).p (ha.y.mono (by decide)).q (hb.y.mono (by decide)).p (hb.y.mono (by decide)).q) (ae (ie (i:=3) (j:=7) (l:=.b true) rfl rfl (lb (Fq.same_iff.2 (congrArg Qq.z e0))) (ha.z.mono (by decide)).p (ha.z.mono (by decide)).q (hb.z.mono (by decide)).p (hb.z.mono (by decide)).q) ai))))
  aj Tryz.func102 (by kernel_rfl) ⟨(ah (xs:=nE a b) (ks:=[0,1,2,3]) (vs:=a.cs) ⟨rfl,rfl,rfl,rfl,trivial⟩).2 ia,⟨(ah (xs:=nE a b) (ks:=[4,5,6,7]) (vs:=b.cs) ⟨rfl,rfl,rfl,rfl,trivial⟩).2 ib,trivial⟩⟩).mono ?_
 rintro e w' ⟨v,rfl,h1,h2⟩;exact⟨congrArg Ending.returned h1,h2⟩
theorem z7 {xs:List Fq} {ys:Rho} {ka:List Nat} {kb:List Nat} {a:Qq} {b:Qq} (aa:AtL xs ka a.cs) (ab:AtL xs kb b.cs) (ha:a.ok 1000000000) (hb:b.ok 1000000000) (e0:a=b):OkI xs ys ⟨102,[row ka,row kb],.v (.one (.b true))⟩:=
 ⟨aA Tryz.func102 rfl rfl,fun B w vs hB h=>by
  match vs,h with
  | [va,vb],h=>
   refine(z6 va vb a b w ((ah aa).1 h.1) ((ah ab).1 h.2.1) ha hb e0).mono ?_;rintro e w' ⟨rfl,h2⟩;exact⟨_,rfl,rfl,h2⟩⟩
def wR (q:Qq):List Fq:=q.cs
theorem q_axis (vq:Value) (q:Qq) (w:World) (iq:eZ w vq q) (hq:q.ok 1000000000):
  Calls Tryz.prog 135 #[vq] w fun e w'=>fB w q.axis e w':=by
 refine(cRn (ρ:=frs (wR q)++ []) (args:=[row [0,1,2,3]]) (vs:=[vq]) (r:=.v (row [1,2,3]))
  (ai)
  aj Tryz.func135 (by kernel_rfl) ⟨(ah (xs:=wR q) (ks:=[0,1,2,3]) (vs:=q.cs) ⟨rfl,rfl,rfl,rfl,trivial⟩).2 iq,trivial⟩).mono ?_
 rintro e w' ⟨v,rfl,h1,h2⟩;exact⟨v,rfl,(ah (xs:=wR q) (ks:=[1,2,3]) (vs:=[q.x,q.y,q.z]) ⟨rfl,rfl,rfl,trivial⟩).1 h1,h2⟩
theorem pK {xs:List Fq} {ys:Rho} {kq:List Nat} {q:Qq} {kr:List Nat} (aq:AtL xs kq q.cs) (ar:AtL xs kr [q.axis.x,q.axis.y,q.axis.z]) (hq:q.ok 1000000000):OkI xs ys ⟨135,[row kq],.v (row kr)⟩:=
 ⟨aA Tryz.func135 rfl rfl,fun B w vs hB h=>by
  match vs,h with
  | [vq],h=>
   refine(q_axis vq q w ((ah aq).1 h.1) hq).mono ?_;rintro e w' ⟨v,rfl,h1,h2⟩;exact⟨v,rfl,(ah ar).2 h1,h2⟩⟩
def sN (q:Qq):List Fq:=q.cs
theorem q_parts (vq:Value) (q:Qq) (w:World) (iq:eZ w vq q) (hq:q.ok 1000000000):
  Calls Tryz.prog 177 #[vq] w fun e w'=>oe w q e w':=by
 refine(cRn (ρ:=frs (sN q)++ []) (args:=[row [0,1,2,3]]) (vs:=[vq]) (r:=.v (row [0,1,2,3]))
  (ai)
  aj Tryz.func177 (by kernel_rfl) ⟨(ah (xs:=sN q) (ks:=[0,1,2,3]) (vs:=q.cs) ⟨rfl,rfl,rfl,rfl,trivial⟩).2 iq,trivial⟩).mono ?_
 rintro e w' ⟨v,rfl,h1,h2⟩;exact⟨v,rfl,(ah (xs:=sN q) (ks:=[0,1,2,3]) (vs:=q.cs) ⟨rfl,rfl,rfl,rfl,trivial⟩).1 h1,h2⟩
theorem ce {xs:List Fq} {ys:Rho} {kq:List Nat} {q:Qq} {kr:List Nat} (aq:AtL xs kq q.cs) (ar:AtL xs kr q.cs) (hq:q.ok 1000000000):OkI xs ys ⟨177,[row kq],.v (row kr)⟩:=
 ⟨aA Tryz.func177 rfl rfl,fun B w vs hB h=>by
  match vs,h with
  | [vq],h=>
   refine(q_parts vq q w ((ah aq).1 h.1) hq).mono ?_;rintro e w' ⟨v,rfl,h1,h2⟩;exact⟨v,rfl,(ah ar).2 h1,h2⟩⟩
def nF (a:Qq) (b:Qq):List Fq:=(a.cs++(b.cs))
theorem z8 (va vb:Value) (a:Qq) (b:Qq) (w:World) (ia:eZ w va a) (ib:eZ w vb b) (ha:a.ok 100000000) (hb:b.ok 100000000) (e0:a=b) (ga:a.comp) (gb:b.comp):
  Calls Tryz.prog 115 #[va,vb] w fun e w'=>cK w (.bool true) e w':=by
 refine(cRn (ρ:=frs (nF a b)++ []) (args:=[row [0,1,2,3],row [4,5,6,7]]) (vs:=[va,vb]) (r:=.v (.one (.b true)))
  (ae (ce (kq:=[0,1,2,3]) (q:=a) (kr:=[0,1,2,3]) ⟨rfl,rfl,rfl,rfl,trivial⟩ ⟨rfl,rfl,rfl,rfl,trivial⟩ (ha.mono (by decide))) (ae (ce (kq:=[4,5,6,7]) (q:=b) (kr:=[4,5,6,7]) ⟨rfl,rfl,rfl,rfl,trivial⟩ ⟨rfl,rfl,rfl,rfl,trivial⟩ (hb.mono (by decide))) (ae (bz (i:=0) (j:=4) rfl rfl (li ((bx ga.w gb.w).2 (congrArg Qq.w e0))) (ha.w.mono (by decide)) (hb.w.mono (by decide))) (ae (bz (i:=1) (j:=5) rfl rfl (li ((bx ga.x gb.x).2 (congrArg Qq.x e0))) (ha.x.mono (by decide)) (hb.x.mono (by decide))) (ae (bz (i:=2) (j:=6) rfl rfl (li ((bx ga.y gb.y).2 (congrArg Qq.y e0))) (ha.y.mono (by decide)) (hb.y.mono (by decide))) (ae (bz (i:=3) (j:=7) rfl rfl (li ((bx ga.z gb.z).2 (congrArg Qq.z e0))) (ha.z.mono (by decide)) (hb.z.mono (by decide))) ai))))))
  aj Tryz.func115 (by kernel_rfl) ⟨(ah (xs:=nF a b) (ks:=[0,1,2,3]) (vs:=a.cs) ⟨rfl,rfl,rfl,rfl,trivial⟩).2 ia,⟨(ah (xs:=nF a b) (ks:=[4,5,6,7]) (vs:=b.cs) ⟨rfl,rfl,rfl,rfl,trivial⟩).2 ib,trivial⟩⟩).mono ?_
 rintro e w' ⟨v,rfl,h1,h2⟩;exact⟨congrArg Ending.returned h1,h2⟩
theorem rt {xs:List Fq} {ys:Rho} {ka:List Nat} {kb:List Nat} {a:Qq} {b:Qq} (aa:AtL xs ka a.cs) (ab:AtL xs kb b.cs) (ha:a.ok 100000000) (hb:b.ok 100000000) (e0:a=b) (ga:a.comp) (gb:b.comp):OkI xs ys ⟨115,[row ka,row kb],.v (.one (.b true))⟩:=
 ⟨aA Tryz.func115 rfl rfl,fun B w vs hB h=>by
  match vs,h with
  | [va,vb],h=>
   refine(z8 va vb a b w ((ah aa).1 h.1) ((ah ab).1 h.2.1) ha hb e0 ga gb).mono ?_;rintro e w' ⟨rfl,h2⟩;exact⟨_,rfl,rfl,h2⟩⟩
def nG (a:Qq) (b:Qq):List Fq:=(a.cs++(b.cs))
def kW (a:Qq) (b:Qq):List Fq:=(a.cs++(b.cs))
def kX (a:Qq) (b:Qq):List Fq:=(a.cs++(b.cs))
def kY (a:Qq) (b:Qq):List Fq:=(a.cs++(b.cs))
theorem aaa (va vb:Value) (a:Qq) (b:Qq) (w:World) (ia:eZ w va a) (ib:eZ w vb b) (ha:a.ok 100000000) (hb:b.ok 100000000) (e0:a≠b) (ga:a.comp) (gb:b.comp):
  Calls Tryz.prog 115 #[va,vb] w fun e w'=>cK w (.bool false) e w':=by
 by_cases c0:a.w=b.w
 ·by_cases c1:a.x=b.x
  ·by_cases c2:a.y=b.y
   ·by_cases c3:a.z=b.z
    ·exact absurd (by cases a;cases b;simp only at c0 c1 c2 c3;subst c0 c1 c2 c3;rfl) e0
    ·refine(cRn (ρ:=frs (nG a b)++([.val (.int .i64 (a.z.cmp b.z))]:List Vp)) (args:=[row [0,1,2,3],row [4,5,6,7]]) (vs:=[va,vb]) (r:=.v (.one (.b false)))
      (ae (ce (kq:=[0,1,2,3]) (q:=a) (kr:=[0,1,2,3]) ⟨rfl,rfl,rfl,rfl,trivial⟩ ⟨rfl,rfl,rfl,rfl,trivial⟩ (ha.mono (by decide))) (ae (ce (kq:=[4,5,6,7]) (q:=b) (kr:=[4,5,6,7]) ⟨rfl,rfl,rfl,rfl,trivial⟩ ⟨rfl,rfl,rfl,rfl,trivial⟩ (hb.mono (by decide))) (ae (bz (i:=0) (j:=4) rfl rfl (li ((bx ga.w gb.w).2 c0)) (ha.w.mono (by decide)) (hb.w.mono (by decide))) (ae (bz (i:=1) (j:=5) rfl rfl (li ((bx ga.x gb.x).2 c1)) (ha.x.mono (by decide)) (hb.x.mono (by decide))) (ae (bz (i:=2) (j:=6) rfl rfl (li ((bx ga.y gb.y).2 c2)) (ha.y.mono (by decide)) (hb.y.mono (by decide))) (ae (bz (i:=3) (j:=7) rfl rfl (lr (n:=24) rfl) (ha.z.mono (by decide)) (hb.z.mono (by decide))) ai))))))
      (af (iI (n:=24) (c:=0) (t:=3) rfl (sI (mt (bx ga.z gb.z).1 c3))) (aj)) Tryz.func115 (by kernel_rfl) ⟨(ah (xs:=nG a b) (ks:=[0,1,2,3]) (vs:=a.cs) ⟨rfl,rfl,rfl,rfl,trivial⟩).2 ia,⟨(ah (xs:=nG a b) (ks:=[4,5,6,7]) (vs:=b.cs) ⟨rfl,rfl,rfl,rfl,trivial⟩).2 ib,trivial⟩⟩).mono ?_
     rintro e w' ⟨v,rfl,h1,h2⟩;exact⟨congrArg Ending.returned h1,h2⟩
   ·refine(cRn (ρ:=frs (kW a b)++([.val (.int .i64 (a.y.cmp b.y))]:List Vp)) (args:=[row [0,1,2,3],row [4,5,6,7]]) (vs:=[va,vb]) (r:=.v (.one (.b false)))
     (ae (ce (kq:=[0,1,2,3]) (q:=a) (kr:=[0,1,2,3]) ⟨rfl,rfl,rfl,rfl,trivial⟩ ⟨rfl,rfl,rfl,rfl,trivial⟩ (ha.mono (by decide))) (ae (ce (kq:=[4,5,6,7]) (q:=b) (kr:=[4,5,6,7]) ⟨rfl,rfl,rfl,rfl,trivial⟩ ⟨rfl,rfl,rfl,rfl,trivial⟩ (hb.mono (by decide))) (ae (bz (i:=0) (j:=4) rfl rfl (li ((bx ga.w gb.w).2 c0)) (ha.w.mono (by decide)) (hb.w.mono (by decide))) (ae (bz (i:=1) (j:=5) rfl rfl (li ((bx ga.x gb.x).2 c1)) (ha.x.mono (by decide)) (hb.x.mono (by decide))) (ae (bz (i:=2) (j:=6) rfl rfl (lr (n:=24) rfl) (ha.y.mono (by decide)) (hb.y.mono (by decide))) ai)))))
     (af (iI (n:=24) (c:=0) (t:=3) rfl (sI (mt (bx ga.y gb.y).1 c2))) (aj)) Tryz.func115 (by kernel_rfl) ⟨(ah (xs:=kW a b) (ks:=[0,1,2,3]) (vs:=a.cs) ⟨rfl,rfl,rfl,rfl,trivial⟩).2 ia,⟨(ah (xs:=kW a b) (ks:=[4,5,6,7]) (vs:=b.cs) ⟨rfl,rfl,rfl,rfl,trivial⟩).2 ib,trivial⟩⟩).mono ?_
    rintro e w' ⟨v,rfl,h1,h2⟩;exact⟨congrArg Ending.returned h1,h2⟩
  ·refine(cRn (ρ:=frs (kX a b)++([.val (.int .i64 (a.x.cmp b.x))]:List Vp)) (args:=[row [0,1,2,3],row [4,5,6,7]]) (vs:=[va,vb]) (r:=.v (.one (.b false)))
    (ae (ce (kq:=[0,1,2,3]) (q:=a) (kr:=[0,1,2,3]) ⟨rfl,rfl,rfl,rfl,trivial⟩ ⟨rfl,rfl,rfl,rfl,trivial⟩ (ha.mono (by decide))) (ae (ce (kq:=[4,5,6,7]) (q:=b) (kr:=[4,5,6,7]) ⟨rfl,rfl,rfl,rfl,trivial⟩ ⟨rfl,rfl,rfl,rfl,trivial⟩ (hb.mono (by decide))) (ae (bz (i:=0) (j:=4) rfl rfl (li ((bx ga.w gb.w).2 c0)) (ha.w.mono (by decide)) (hb.w.mono (by decide))) (ae (bz (i:=1) (j:=5) rfl rfl (lr (n:=24) rfl) (ha.x.mono (by decide)) (hb.x.mono (by decide))) ai))))
    (af (iI (n:=24) (c:=0) (t:=3) rfl (sI (mt (bx ga.x gb.x).1 c1))) (aj)) Tryz.func115 (by kernel_rfl) ⟨(ah (xs:=kX a b) (ks:=[0,1,2,3]) (vs:=a.cs) ⟨rfl,rfl,rfl,rfl,trivial⟩).2 ia,⟨(ah (xs:=kX a b) (ks:=[4,5,6,7]) (vs:=b.cs) ⟨rfl,rfl,rfl,rfl,trivial⟩).2 ib,trivial⟩⟩).mono ?_
   rintro e w' ⟨v,rfl,h1,h2⟩;exact⟨congrArg Ending.returned h1,h2⟩
 ·refine(cRn (ρ:=frs (kY a b)++([.val (.int .i64 (a.w.cmp b.w))]:List Vp)) (args:=[row [0,1,2,3],row [4,5,6,7]]) (vs:=[va,vb]) (r:=.v (.one (.b false)))
   (ae (ce (kq:=[0,1,2,3]) (q:=a) (kr:=[0,1,2,3]) ⟨rfl,rfl,rfl,rfl,trivial⟩ ⟨rfl,rfl,rfl,rfl,trivial⟩ (ha.mono (by decide))) (ae (ce (kq:=[4,5,6,7]) (q:=b) (kr:=[4,5,6,7]) ⟨rfl,rfl,rfl,rfl,trivial⟩ ⟨rfl,rfl,rfl,rfl,trivial⟩ (hb.mono (by decide))) (ae (bz (i:=0) (j:=4) rfl rfl (lr (n:=24) rfl) (ha.w.mono (by decide)) (hb.w.mono (by decide))) ai)))
   (af (iI (n:=24) (c:=0) (t:=3) rfl (sI (mt (bx ga.w gb.w).1 c0))) (aj)) Tryz.func115 (by kernel_rfl) ⟨(ah (xs:=kY a b) (ks:=[0,1,2,3]) (vs:=a.cs) ⟨rfl,rfl,rfl,rfl,trivial⟩).2 ia,⟨(ah (xs:=kY a b) (ks:=[4,5,6,7]) (vs:=b.cs) ⟨rfl,rfl,rfl,rfl,trivial⟩).2 ib,trivial⟩⟩).mono ?_
  rintro e w' ⟨v,rfl,h1,h2⟩;exact⟨congrArg Ending.returned h1,h2⟩
theorem aab {xs:List Fq} {ys:Rho} {ka:List Nat} {kb:List Nat} {a:Qq} {b:Qq} (aa:AtL xs ka a.cs) (ab:AtL xs kb b.cs) (ha:a.ok 100000000) (hb:b.ok 100000000) (e0:a≠b) (ga:a.comp) (gb:b.comp):OkI xs ys ⟨115,[row ka,row kb],.v (.one (.b false))⟩:=
 ⟨aA Tryz.func115 rfl rfl,fun B w vs hB h=>by
  match vs,h with
  | [va,vb],h=>
   refine(aaa va vb a b w ((ah aa).1 h.1) ((ah ab).1 h.2.1) ha hb e0 ga gb).mono ?_;rintro e w' ⟨rfl,h2⟩;exact⟨_,rfl,rfl,h2⟩⟩
def sO (q:Qq):List Fq:=q.cs
theorem q_whole (vq:Value) (q:Qq) (w:World) (iq:eZ w vq q) (hq:q.ok 1000000000):
  Calls Tryz.prog 140 #[vq] w fun e w'=>oe w q e w':=by
 refine(cRn (ρ:=frs (sO q)++ []) (args:=[row [0,1,2,3]]) (vs:=[vq]) (r:=.v (row [0,1,2,3]))
  (ai)
  aj Tryz.func140 (by kernel_rfl) ⟨(ah (xs:=sO q) (ks:=[0,1,2,3]) (vs:=q.cs) ⟨rfl,rfl,rfl,rfl,trivial⟩).2 iq,trivial⟩).mono ?_
 rintro e w' ⟨v,rfl,h1,h2⟩;exact⟨v,rfl,(ah (xs:=sO q) (ks:=[0,1,2,3]) (vs:=q.cs) ⟨rfl,rfl,rfl,rfl,trivial⟩).1 h1,h2⟩
theorem mw {xs:List Fq} {ys:Rho} {kq:List Nat} {q:Qq} {kr:List Nat} (aq:AtL xs kq q.cs) (ar:AtL xs kr q.cs) (hq:q.ok 1000000000):OkI xs ys ⟨140,[row kq],.v (row kr)⟩:=
 ⟨aA Tryz.func140 rfl rfl,fun B w vs hB h=>by
  match vs,h with
  | [vq],h=>
   refine(q_whole vq q w ((ah aq).1 h.1) hq).mono ?_;rintro e w' ⟨v,rfl,h1,h2⟩;exact⟨v,rfl,(ah ar).2 h1,h2⟩⟩
def yH (q:Qq):List Fq:=q.cs
theorem q_Half1 (vq:Value) (q:Qq) (w:World) (iq:eZ w vq q) (hq:q.ok 1000000000) (h0:q.w.p=0):
  Calls Tryz.prog 259 #[vq] w fun e w'=>cK w (.bool true) e w':=by
 refine(cRn (ρ:=frs (yH q)++ []) (args:=[row [0,1,2,3]]) (vs:=[vq]) (r:=.v (.one (.b true)))
  (ae (aU (i:=0) rfl (li (fy h0)) (hq.w.mono (by decide))) ai)
  aj Tryz.func259 (by kernel_rfl) ⟨(ah (xs:=yH q) (ks:=[0,1,2,3]) (vs:=q.cs) ⟨rfl,rfl,rfl,rfl,trivial⟩).2 iq,trivial⟩).mono ?_
 rintro e w' ⟨v,rfl,h1,h2⟩;exact⟨congrArg Ending.returned h1,h2⟩
theorem I_Half1 {xs:List Fq} {ys:Rho} {kq:List Nat} {q:Qq} (aq:AtL xs kq q.cs) (hq:q.ok 1000000000) (h0:q.w.p=0):OkI xs ys ⟨259,[row kq],.v (.one (.b true))⟩:=
 ⟨aA Tryz.func259 rfl rfl,fun B w vs hB h=>by
  match vs,h with
  | [vq],h=>
   refine(q_Half1 vq q w ((ah aq).1 h.1) hq h0).mono ?_;rintro e w' ⟨rfl,h2⟩;exact⟨_,rfl,rfl,h2⟩⟩
def yI (q:Qq):List Fq:=q.cs
theorem q_Half0 (vq:Value) (q:Qq) (w:World) (iq:eZ w vq q) (hq:q.ok 1000000000) (h0:q.w.p≠0):
  Calls Tryz.prog 259 #[vq] w fun e w'=>cK w (.bool false) e w':=by
 refine(cRn (ρ:=frs (yI q)++([.val (.int .i64 q.w.sgn)]:List Vp)) (args:=[row [0,1,2,3]]) (vs:=[vq]) (r:=.v (.one (.b false)))
  (ae (aU (i:=0) rfl (lr (n:=12) rfl) (hq.w.mono (by decide))) ai)
  (af (jD (n:=12) (c:=0) (t:=3) rfl (nz h0)) (aj)) Tryz.func259 (by kernel_rfl) ⟨(ah (xs:=yI q) (ks:=[0,1,2,3]) (vs:=q.cs) ⟨rfl,rfl,rfl,rfl,trivial⟩).2 iq,trivial⟩).mono ?_
 rintro e w' ⟨v,rfl,h1,h2⟩;exact⟨congrArg Ending.returned h1,h2⟩
theorem I_Half0 {xs:List Fq} {ys:Rho} {kq:List Nat} {q:Qq} (aq:AtL xs kq q.cs) (hq:q.ok 1000000000) (h0:q.w.p≠0):OkI xs ys ⟨259,[row kq],.v (.one (.b false))⟩:=
 ⟨aA Tryz.func259 rfl rfl,fun B w vs hB h=>by
  match vs,h with
  | [vq],h=>
   refine(q_Half0 vq q w ((ah aq).1 h.1) hq h0).mono ?_;rintro e w' ⟨rfl,h2⟩;exact⟨_,rfl,rfl,h2⟩⟩
def xfIdX:List Fq:=[(Fq.ofInt 1),(Fq.ofInt 0)]
theorem rA:Qq.id.ok 2:=⟨aO (by decide) (by decide),aO (by decide) (by decide),aO (by decide) (by decide),aO (by decide) (by decide)⟩
theorem q_fId (w:World):
  Calls Tryz.prog 79 #[] w fun e w'=>oe w Qq.id e w':=by
 refine(cRn (ρ:=frs (xfIdX)++ []) (args:=[]) (vs:=[]) (r:=.v (row [0,1,1,1]))
  (ae (dg (k:=0) rfl (by decide) (by decide)) (ae (dg (k:=1) rfl (by decide) (by decide)) (ae (mw (kq:=[0,1,1,1]) (q:=(Qq.mk (Fq.ofInt 1) (Fq.ofInt 0) (Fq.ofInt 0) (Fq.ofInt 0))) (kr:=[0,1,1,1]) ⟨rfl,rfl,rfl,rfl,trivial⟩ ⟨rfl,rfl,rfl,rfl,trivial⟩ (⟨(aO (u:=1) (by decide) (by decide)).mono (by decide),(aO (u:=0) (by decide) (by decide)).mono (by decide),(aO (u:=0) (by decide) (by decide)).mono (by decide),(aO (u:=0) (by decide) (by decide)).mono (by decide)⟩:Qq.ok 1000000000 (Qq.mk (Fq.ofInt 1) (Fq.ofInt 0) (Fq.ofInt 0) (Fq.ofInt 0)))) ai)))
  aj Tryz.func79 (by kernel_rfl) trivial).mono ?_
 rintro e w' ⟨v,rfl,h1,h2⟩;exact⟨v,rfl,(ah (xs:=xfIdX) (ks:=[0,1,1,1]) (vs:=[(Fq.ofInt 1),(Fq.ofInt 0),(Fq.ofInt 0),(Fq.ofInt 0)]) ⟨rfl,rfl,rfl,rfl,trivial⟩).1 h1,h2⟩
theorem I_fId {xs:List Fq} {ys:Rho} {kr:List Nat} (ar:AtL xs kr Qq.id.cs):OkI xs ys ⟨79,[],.v (row kr)⟩:=
 ⟨aA Tryz.func79 rfl rfl,fun B w vs hB h=>by
  match vs,h with
  | [],h=>
   refine(q_fId w).mono ?_;rintro e w' ⟨v,rfl,h1,h2⟩;exact⟨v,rfl,(ah ar).2 h1,h2⟩⟩
def xrIdX:List Fq:=[(Fq.ofInt 1),(Fq.ofInt 0)]
theorem q_rId (w:World):
  Calls Tryz.prog 204 #[] w fun e w'=>oe w Qq.id e w':=by
 refine(cRn (ρ:=frs (xrIdX)++ []) (args:=[]) (vs:=[]) (r:=.v (row [0,1,1,1]))
  (ae (sH (k:=0) rfl (by decide) (by decide)) (ae (sH (k:=1) rfl (by decide) (by decide)) ai))
  aj Tryz.func204 (by kernel_rfl) trivial).mono ?_
 rintro e w' ⟨v,rfl,h1,h2⟩;exact⟨v,rfl,(ah (xs:=xrIdX) (ks:=[0,1,1,1]) (vs:=[(Fq.ofInt 1),(Fq.ofInt 0),(Fq.ofInt 0),(Fq.ofInt 0)]) ⟨rfl,rfl,rfl,rfl,trivial⟩).1 h1,h2⟩
theorem I_rId {xs:List Fq} {ys:Rho} {kr:List Nat} (ar:AtL xs kr Qq.id.cs):OkI xs ys ⟨204,[],.v (row kr)⟩:=
 ⟨aA Tryz.func204 rfl rfl,fun B w vs hB h=>by
  match vs,h with
  | [],h=>
   refine(q_rId w).mono ?_;rintro e w' ⟨v,rfl,h1,h2⟩;exact⟨v,rfl,(ah ar).2 h1,h2⟩⟩
end Go.Proofs.YtggfmklppkioeaaGreat
