/- The plain law of rotations, in fractions. The plain law of rotations: images, ways, from one vector to another. How large the parts of vectors and rotations become. Arms, facts about the examples, Same. Rows of fractions in memory: vectors, quaternions, arrays of fractions. An executor: fractions and rows of fractions. An executor: what the functions of package fraction and of the reference give. Vectors, by the executor. Rotations, by the executor. Rows of fractions as they come in. Make and canonical of rotations, by the executor. Products, inverses, images, by the executor. Matrices, units, from one vector to another, by the executor. Package vector and its reference, by the executor. Arguments as they come in: which are looked at. -/
import Derived.Test.YtfhinmdhjlmikaaDoorP11
namespace Go.Proofs.YtfhinmdhjlmikaaDoor
set_option linter.unusedSimpArgs false
set_option linter.unusedVariables false
set_option maxRecDepth 100000
open Go.RowKit
/-- A quaternion of fractions. -/
structure Qq where
 w:Fq
 x:Fq
 y:Fq
 z:Fq
def Qq.r (q:Qq):QR:=⟨q.w.v,q.x.v,q.y.v,q.z.v⟩
def Qq.axis (q:Qq):Vq:=⟨q.x,q.y,q.z⟩
def Vq.r (a:Vq):VR:=⟨a.x.v,a.y.v,a.z.v⟩
structure Qq.comp (q:Qq):Prop where
 w:q.w.valid=true
 x:q.x.valid=true
 y:q.y.valid=true
 z:q.z.valid=true
theorem Qq.comp.axis {q:Qq} (h:q.comp):q.axis.good:=⟨h.x,h.y,h.z⟩
/-- The first component that is not zero. -/
def Qq.first (q:Qq):Fq:=if q.w.p≠0 then q.w else if q.x.p≠0 then q.x else if q.y.p≠0 then q.y else q.z
def Qq.over (q:Qq) (n:Fq):Qq:=⟨q.w.div n,q.x.div n,q.y.div n,q.z.div n⟩
def Qq.zero:Qq:=⟨.zero,.zero,.zero,.zero⟩
/-- What Make returns. -/
def Qq.canon (q:Qq):Qq:=if q.first.p=0 then .zero else q.over q.first
structure Qq.good (q:Qq):Prop where
 comp:q.comp
 one:q.first.v=1
def Qq.id:Qq:=⟨.ofInt 1,.ofInt 0,.ofInt 0,.ofInt 0⟩
section
variable {p q:Qq}
theorem Qq.comp.first (h:q.comp):q.first.valid=true:=by
 unfold Qq.first
 split
 ·exact h.w
 ·split
  ·exact h.x
  ·split
   ·exact h.y
   ·exact h.z
theorem Qq.comp.over (h:q.comp) {n:Fq} (hn:n.p≠0):(q.over n).comp:=⟨fB h.w hn,fB h.x hn,fB h.y hn,fB h.z hn⟩
theorem rz {a n:Fq} (ha:a.valid=true) (hn:n.valid=true) (h0:n.p≠0):(a.div n).v=a.v / n.v:=v_div (Fq.valid.n ha) (Fq.valid.n hn) h0
theorem p_v {a:Fq} (ha:a.valid=true):a.v=0↔a.p=0:=xl (Fq.valid.n ha)
theorem yk (h:q.comp) {n:Fq} (hn:n.valid=true) (h0:n.p≠0):(q.over n).r=QR.smul (n.v)⁻¹ q.r:=by
 unfold Qq.r Qq.over QR.smul
 simp only
 rw[rz h.w hn h0,rz h.x hn h0,rz h.y hn h0,rz h.z hn h0]
 ext<;>simp only[Rat.div_def]<;>grind
theorem lV (h:q.comp):q.first.p≠0↔q.r.nrm≠0:=by
 rw[show(q.r.nrm≠0)↔_ from not_congr uz]
 unfold Qq.r Qq.first
 simp only
 have h1:=p_v h.w
 have h2:=p_v h.x
 have h3:=p_v h.y
 have h4:=p_v h.z
 by_cases c1:q.w.p=0
 ·rw[if_neg (by simpa using c1)]
  by_cases c2:q.x.p=0
  ·rw[if_neg (by simpa using c2)]
   by_cases c3:q.y.p=0
   ·rw[if_neg (by simpa using c3)]
    constructor
    ·intro c h;exact c (h4.1 h.2.2.2)
    ·intro c h;exact c ⟨h1.2 c1,h2.2 c2,h3.2 c3,h4.2 h⟩
   ·rw[if_pos c3];exact⟨fun _ h=>c3 (h3.1 h.2.2.1),fun _=>c3⟩
  ·rw[if_pos c2];exact⟨fun _ h=>c2 (h2.1 h.2.1),fun _=>c2⟩
 ·rw[if_pos c1];exact⟨fun _ h=>c1 (h1.1 h.1),fun _=>c1⟩
theorem yl {k:Rat} (hk:k≠0):k⁻¹≠0:=fun h=>by have h1:=Rat.inv_mul_cancel k hk;rw[h]at h1;grind
/-- The first component that is not zero, of rational numbers. -/
def QR.fst (a:QR):Rat:=if a.w≠0 then a.w else if a.x≠0 then a.x else if a.y≠0 then a.y else a.z
theorem rA (h:q.comp):q.first.v=q.r.fst:=by
 unfold Qq.first QR.fst Qq.r
 simp only
 have h1:=p_v h.w
 have h2:=p_v h.x
 have h3:=p_v h.y
 by_cases c1:q.w.p=0
 ·have d1:=h1.2 c1
  simp only[c1,d1,ne_eq,not_true_eq_false,if_false]
  by_cases c2:q.x.p=0
  ·have d2:=h2.2 c2
   simp only[c2,d2,not_true_eq_false,if_false]
   by_cases c3:q.y.p=0
   ·have d3:=h3.2 c3
    simp only[c3,d3,not_true_eq_false,if_false]
   ·have d3:¬q.y.v=0:=fun e=>c3 (h3.1 e)
    simp only[c3,d3,not_false_eq_true,if_true]
  ·have d2:¬q.x.v=0:=fun e=>c2 (h2.1 e)
   simp only[c2,d2,not_false_eq_true,if_true]
 ·have d1:¬q.w.v=0:=fun e=>c1 (h1.1 e)
  simp only[c1,d1,ne_eq,not_false_eq_true,if_true]
theorem uC (k:Rat) (hk:k≠0) (a:QR):(QR.smul k a).fst=k*a.fst:=by
 unfold QR.fst QR.smul
 simp only
 have hz:∀r:Rat,k*r≠0↔r≠0:=fun r=>⟨fun h e=>h (by rw[e];grind),fun h=>jP hk h⟩
 by_cases c1:a.w≠0
 ·rw[if_pos ((hz _).2 c1),if_pos c1]
 ·rw[if_neg (fun h=>c1 ((hz _).1 h)),if_neg c1]
  by_cases c2:a.x≠0
  ·rw[if_pos ((hz _).2 c2),if_pos c2]
  ·rw[if_neg (fun h=>c2 ((hz _).1 h)),if_neg c2]
   by_cases c3:a.y≠0
   ·rw[if_pos ((hz _).2 c3),if_pos c3]
   ·rw[if_neg (fun h=>c3 ((hz _).1 h)),if_neg c3]
theorem lW (h:q.comp) (h0:q.first.p≠0):q.canon.good:=by
 have hc:q.canon.comp:=by unfold Qq.canon;rw[if_neg h0];exact h.over h0
 refine⟨hc,?_⟩
 have hn:q.first.v≠0:=fun e=>h0 ((p_v h.first).1 e)
 rw[rA hc]
 have e:q.canon.r=QR.smul (q.first.v)⁻¹ q.r:=by unfold Qq.canon;rw[if_neg h0];exact yk h h.first h0
 rw[e,uC _ (yl hn),←rA h,Rat.inv_mul_cancel _ hn]
theorem ja (h:q.good):q.r.nrm≠0:=(lV h.comp).1 (fun e=>by have h1:=(p_v h.comp.first).2 e;rw[h.one]at h1;exact absurd h1 (by decide))
theorem wG:Qq.id.good:=by
 refine⟨⟨a8 1,a8 0,a8 0,a8 0⟩,?_⟩
 have e:Qq.id.first=Fq.ofInt 1:=rfl
 rw[e,rt];rfl
/-- The product before it is made canonical. -/
def Qq.hamV (p q:Qq):Vq:=((q.axis.scale p.w).add (p.axis.scale q.w)).add (p.axis.cross q.axis)
def Qq.hamW (p q:Qq):Fq:=(p.w.mul q.w).sub (p.axis.dot q.axis)
def Qq.ham (p q:Qq):Qq:=⟨p.hamW q,(p.hamV q).x,(p.hamV q).y,(p.hamV q).z⟩
def Qq.mul (p q:Qq):Qq:=(p.ham q).canon
def Qq.inv (q:Qq):Qq:=(Qq.mk q.w (q.axis.scale (.ofInt (-1))).x (q.axis.scale (.ofInt (-1))).y (q.axis.scale (.ofInt (-1))).z).canon
def Qq.inv' (q:Qq):Qq:=(Qq.mk q.w q.x.neg q.y.neg q.z.neg).canon
theorem jQ (hp:p.comp) (hq:q.comp):(p.hamV q).good:=((hq.axis.scale hp.w).add (hp.axis.scale hq.w)).add (hp.axis.cross hq.axis)
theorem pt (hp:p.comp) (hq:q.comp):(p.ham q).comp:=⟨di (aH hp.w hq.w) (ef hp.axis hq.axis),(jQ hp hq).x,(jQ hp hq).y,(jQ hp hq).z⟩
theorem ham_r (hp:p.comp) (hq:q.comp):(p.ham q).r=p.r.mul q.r:=by
 have h1:=v_s (aH hp.w hq.w) (ef hp.axis hq.axis)
 have h2:=v_m hp.w hq.w
 have h3:=xm hp.axis hq.axis
 have h4:=n4 hq.axis hp.w
 have h5:=n4 hp.axis hq.w
 have h6:=wE hp.axis hq.axis
 have h7:=xn (hq.axis.scale hp.w) (hp.axis.scale hq.w)
 have h8:=xn ((hq.axis.scale hp.w).add (hp.axis.scale hq.w)) (hp.axis.cross hq.axis)
 unfold Qq.ham Qq.r QR.mul
 simp only
 ext<;>simp only
 ·unfold Qq.hamW;rw[h1,h2,h3];rfl
 ·unfold Qq.hamV;rw[h8.1,h7.1,h4.1,h5.1,h6.1];rfl
 ·unfold Qq.hamV;rw[h8.2.1,h7.2.1,h4.2.1,h5.2.1,h6.2.1];rfl
 ·unfold Qq.hamV;rw[h8.2.2,h7.2.2,h4.2.2,h5.2.2,h6.2.2];rfl
theorem uD (hp:p.good) (hq:q.good):(p.ham q).first.p≠0:=by
 rw[lV (pt hp.comp hq.comp),ham_r hp.comp hq.comp,wF]
 exact jP (ja hp) (ja hq)
theorem uE (hp:p.good) (hq:q.good):(p.mul q).good:=lW (pt hp.comp hq.comp) (uD hp hq)
theorem uF (hq:q.comp):Qq.mk q.w (q.axis.scale (.ofInt (-1))).x (q.axis.scale (.ofInt (-1))).y (q.axis.scale (.ofInt (-1))).z=Qq.mk q.w q.x.neg q.y.neg q.z.neg:=by
 have h:=n4 hq.axis (a8 (-1))
 have hg:=hq.axis.scale (a8 (-1))
 have h1:=rt (-1)
 rw[h1]at h
 have e1:=m6 hg.x (dN hq.x) (by rw[h.1,pr];show q.x.v*_=_;grind)
 have e2:=m6 hg.y (dN hq.y) (by rw[h.2.1,pr];show q.y.v*_=_;grind)
 have e3:=m6 hg.z (dN hq.z) (by rw[h.2.2,pr];show q.z.v*_=_;grind)
 rw[e1,e2,e3]
theorem uG (hq:q.comp):q.inv=q.inv':=by unfold Qq.inv Qq.inv';rw[uF hq]
theorem m7 (hq:q.comp):(Qq.mk q.w q.x.neg q.y.neg q.z.neg).comp:=⟨hq.w,dN hq.x,dN hq.y,dN hq.z⟩
theorem ym:(Qq.mk q.w q.x.neg q.y.neg q.z.neg).r=q.r.conj:=by unfold Qq.r QR.conj;simp only[pr]
theorem rB (hq:q.good):(Qq.mk q.w q.x.neg q.y.neg q.z.neg).first.p≠0:=by rw[lV (m7 hq.comp),ym,uA];exact ja hq
theorem lX (hq:q.good):q.inv.good:=by rw[uG hq.comp];exact lW (m7 hq.comp) (rB hq)
variable {a b c:Qq}
end
end Go.Proofs.YtfhinmdhjlmikaaDoor
namespace Go.Proofs.YtfhinmdhjlmikaaDoor
set_option linter.unusedSimpArgs false
set_option linter.unusedVariables false
set_option maxRecDepth 100000
open Go.RowKit
/-- The square of the length. -/
def Qq.nn (q:Qq):Fq:=(q.w.mul q.w).add (q.axis.dot q.axis)
def Qq.dd (q:Qq):Fq:=(q.w.mul q.w).sub (q.axis.dot q.axis)
def Qq.ap1 (q:Qq) (v:Vq):Vq:=v.scale q.dd
def Qq.ap2 (q:Qq) (v:Vq):Vq:=q.axis.scale ((Fq.ofInt 2).mul (q.axis.dot v))
def Qq.ap3 (q:Qq) (v:Vq):Vq:=(q.axis.cross v).scale ((Fq.ofInt 2).mul q.w)
def Qq.rat (q:Qq):Fq:=(Fq.ofInt 1).div q.nn
/-- The image: of the program, of the reference. -/
def Qq.app (q:Qq) (v:Vq):Vq:=(((q.ap1 v).add (q.ap2 v)).add (q.ap3 v)).scale q.rat
section
variable {p q d:Qq} {v x y a b:Vq} {t:Fq}
theorem uH (h:q.comp):q.nn.valid=true:=dh (aH h.w h.w) (ef h.axis h.axis)
theorem uI (h:q.comp):q.dd.valid=true:=di (aH h.w h.w) (ef h.axis h.axis)
theorem nn_v (h:q.comp):q.nn.v=q.r.nrm:=by
 unfold Qq.nn
 rw[v_a (aH h.w h.w) (ef h.axis h.axis),v_m h.w h.w,xm h.axis h.axis];rfl
theorem xr (h:q.good):q.nn.p≠0:=fun e=>ja h (by rw[←nn_v h.comp];exact(p_v (uH h.comp)).2 e)
theorem uJ (h:q.comp) (hv:v.good):(q.ap1 v).good:=hv.scale (uI h)
theorem uK (h:q.comp) (hv:v.good):(q.ap2 v).good:=h.axis.scale (aH (a8 2) (ef h.axis hv))
theorem uL (h:q.comp) (hv:v.good):(q.ap3 v).good:=(h.axis.cross hv).scale (aH (a8 2) h.w)
theorem sC (h:q.good):q.rat.valid=true:=fB (a8 1) (xr h)
theorem pu (h:q.good) (hv:v.good):(q.app v).good:=(((uJ h.comp hv).add (uK h.comp hv)).add (uL h.comp hv)).scale (sC h)
/-- The rotation between, where the way is not half a turn. -/
def Qq.way (p d:Qq) (t:Fq):Qq:=p.mul (Qq.mk (.ofInt 1) (d.axis.scale t).x (d.axis.scale t).y (d.axis.scale t).z).canon
def Vq.turn (a b:Vq):Qq:=(Qq.mk ((a.dot a).add (a.dot b)) (a.cross b).x (a.cross b).y (a.cross b).z).canon
end
end Go.Proofs.YtfhinmdhjlmikaaDoor
namespace Go.Proofs.YtfhinmdhjlmikaaDoor
set_option linter.unusedSimpArgs false
set_option linter.unusedVariables false
set_option maxRecDepth 100000
open Go.RowKit
structure Vq.ok (d:Nat) (a:Vq):Prop where
 x:a.x.ok d
 y:a.y.ok d
 z:a.z.ok d
structure Qq.ok (d:Nat) (q:Qq):Prop where
 w:q.w.ok d
 x:q.x.ok d
 y:q.y.ok d
 z:q.z.ok d
section
variable {a b:Vq} {k:Fq} {p q:Qq} {d e f:Nat}
theorem Vq.ok.mono (h:a.ok d) (hd:d≤e):a.ok e:=⟨h.x.mono hd,h.y.mono hd,h.z.mono hd⟩
theorem Qq.ok.mono (h:q.ok d) (hd:d≤e):q.ok e:=⟨h.w.mono hd,h.x.mono hd,h.y.mono hd,h.z.mono hd⟩
theorem Qq.ok.axis (h:q.ok d):q.axis.ok d:=⟨h.x,h.y,h.z⟩
theorem Vq.ok.add (h:a.ok d) (k:b.ok e):(a.add b).ok (2*(d+e)+1):=⟨(h.x.add k.x).mono (by omega),(h.y.add k.y).mono (by omega),(h.z.add k.z).mono (by omega)⟩
theorem Vq.ok.sub (h:a.ok d) (k:b.ok e):(a.sub b).ok (2*(d+e)+1):=⟨(h.x.sub k.x).mono (by omega),(h.y.sub k.y).mono (by omega),(h.z.sub k.z).mono (by omega)⟩
theorem Vq.ok.scale (h:a.ok d) (hk:k.ok e):(a.scale k).ok (d+e):=⟨h.x.mul hk,h.y.mul hk,h.z.mul hk⟩
theorem Vq.ok.dot (h:a.ok d) (k:b.ok e):(a.dot b).ok (10*(d+e)+3):=((h.x.mul k.x).add ((h.y.mul k.y).add (h.z.mul k.z))).mono (by omega)
theorem Vq.ok.cross (h:a.ok d) (k:b.ok e):(a.cross b).ok (4*(d+e)+1):=⟨((h.y.mul k.z).sub (h.z.mul k.y)).mono (by omega),((h.z.mul k.x).sub (h.x.mul k.z)).mono (by omega),((h.x.mul k.y).sub (h.y.mul k.x)).mono (by omega)⟩
theorem Qq.ok.first (h:q.ok d):q.first.ok d:=by
 unfold Qq.first
 split
 ·exact h.w
 ·split
  ·exact h.x
  ·split
   ·exact h.y
   ·exact h.z
theorem Qq.ok.over (h:q.ok d) {n:Fq} (hn:n.ok e) (h0:n.p≠0):(q.over n).ok (d+e):=⟨h.w.div hn h0,h.x.div hn h0,h.y.div hn h0,h.z.div hn h0⟩
theorem Qq.ok.canon (h:q.ok d) (h0:q.first.p≠0):q.canon.ok (d+d):=by unfold Qq.canon;rw[if_neg h0];exact h.over h.first h0
theorem Qq.ok.hamW (h:p.ok d) (k:q.ok e):(p.hamW q).ok (22*(d+e)+7):=((h.w.mul k.w).sub (h.axis.dot k.axis)).mono (by omega)
theorem Qq.ok.hamV (h:p.ok d) (k:q.ok e):(p.hamV q).ok (16*(d+e)+5):=(((k.axis.scale h.w).add (h.axis.scale k.w)).add (h.axis.cross k.axis)).mono (by omega)
theorem Qq.ok.ham (h:p.ok d) (k:q.ok e):(p.ham q).ok (22*(d+e)+7):=⟨h.hamW k,(h.hamV k).x.mono (by omega),(h.hamV k).y.mono (by omega),(h.hamV k).z.mono (by omega)⟩
theorem Qq.ok.mul (h:p.ok d) (k:q.ok e) (h0:(p.ham q).first.p≠0):(p.mul q).ok (44*(d+e)+14):=((h.ham k).canon h0).mono (by omega)
end
end Go.Proofs.YtfhinmdhjlmikaaDoor
namespace Go.Proofs.YtfhinmdhjlmikaaDoor
set_option linter.unusedSimpArgs false
set_option linter.unusedVariables false
set_option maxRecDepth 100000
open Go.RowKit
/-- A fraction of rows as a value. -/
def Sp.frR (s:Bool) (L p N q:Nat):Sp:=⟨fun w v=>lR w v s L p N q,fun _ _ _ h hb=>lR.mono h hb⟩
/-- A slice of length L. -/
def Sp.sl (L:Nat):Sp:=⟨fun _ v=>∃a c,v= .slice a L c,fun _ _ _ h _=>h⟩
section
variable {Q:Exit→Act→World→Prop} {o:Oper} {a:Act} {w:World} {x y:Operand} {g L p N q k:Nat} {s:Bool}
end
/-- Which fractions the laws look at. -/
def FitP (s:Bool) (L p N q:Nat):Prop:=L≤12∧N≤12∧nl p=L∧nl q=N∧(Fq.mk s p q).valid=true
theorem FitP.ok {s:Bool} {L p N q:Nat} (h:FitP s L p N q):(Fq.mk s p q).ok 12:=⟨by show nl p≤12;have:=h.1;have:=h.2.2.1;omega,by show nl q≤12;have:=h.2.1;have:=h.2.2.2.1;omega,(of_decide_eq_true h.2.2.2.2).1⟩
end Go.Proofs.YtfhinmdhjlmikaaDoor
namespace Go.Proofs.YtfhinmdhjlmikaaDoor
set_option linter.unusedSimpArgs false
set_option linter.unusedVariables false
set_option maxRecDepth 100000
open Go.RowKit
/-- A fraction of rows, leading zeros allowed. -/
structure Rq where
 s:Bool
 L:Nat
 p:Nat
 N:Nat
 q:Nat
def Fq.raw (x:Fq):Rq:=⟨x.s,nl x.p,x.p,nl x.q,x.q⟩
def Sp.rq (r:Rq):Sp:=.frR r.s r.L r.p r.N r.q
/-- The cells of a row of fractions. -/
def cc (w:World):List Rq→List Value→Prop
 | [],cs=>cs=[]
 | r::l,cs=>∃a c b d cs',cs= .bool r.s::.slice a r.L c::.slice b r.N d::cs'∧IsR w (.agg #[.slice a r.L c]) r.L r.p∧IsR w (.agg #[.slice b r.N d]) r.N r.q∧cc w l cs'
section
variable {w w':World} {g g':Nat} {l:List Rq} {cs:List Value} {T:TypeId}
theorem cc.mono (h:cc w l cs) (hb:Below w.heap.size w w'):cc w' l cs:=by
 induction l generalizing cs with
 | nil=>exact h
 | cons r l ih=>obtain⟨a,c,b,d,cs',e,h1,h2,h3⟩:=h;exact⟨a,c,b,d,cs',e,h1.mono hb,h2.mono hb,ih h3⟩
theorem cc.upd (h:cc w l cs) (o:Own w g) (u:Upd w g w'):cc w' l cs:=by
 induction l generalizing cs with
 | nil=>exact h
 | cons r l ih=>obtain⟨a,c,b,d,cs',e,h1,h2,h3⟩:=h;exact⟨a,c,b,d,cs',e,h1.upd o u,h2.upd o u,ih h3⟩
theorem cc.noInt (h:cc w l cs) (k:Nat) (n:Int):cs[k]? ≠some (Value.int .u32 n):=by
 induction l generalizing cs k with
 | nil=>have e:cs=[]:=h;rw[e];simp
 | cons r l ih=>
  obtain⟨a,c,b,d,cs',e,_,_,h3⟩:=h
  rw[e]
  match k with
  | 0=>intro h;cases h
  | 1=>intro h;cases h
  | 2=>intro h;cases h
  | k+3=>exact ih h3 k
theorem cc.length (h:cc w l cs):cs.length=3*l.length:=by
 induction l generalizing cs with
 | nil=>have e:cs=[]:=h;rw[e];rfl
 | cons r l ih=>obtain⟨a,c,b,d,cs',e,_,_,h3⟩:=h;have:=ih h3;rw[e];simp only[List.length_cons];omega
theorem cc.get (h:cc w l cs) {k:Nat} {r:Rq} (hk:l[k]? =some r):
  ∃a c b d,cs[3*k]? =some (.bool r.s)∧cs[3*k+1]? =some (.slice a r.L c)∧cs[3*k+2]? =some (.slice b r.N d)∧IsR w (.agg #[.slice a r.L c]) r.L r.p∧IsR w (.agg #[.slice b r.N d]) r.N r.q:=by
 induction l generalizing cs k with
 | nil=>cases hk
 | cons x l ih=>
  obtain⟨a,c,b,d,cs',e,h1,h2,h3⟩:=h
  rw[e]
  match k with
  | 0=>simp at hk;subst hk;exact⟨a,c,b,d,rfl,rfl,rfl,h1,h2⟩
  | k+1=>
   obtain⟨a',c',b',d',e0,e1,e2,i1,i2⟩:=ih h3 (k:=k) (by simpa using hk)
   exact⟨a',c',b',d',by simpa [Nat.mul_add]using e0,by simpa [Nat.mul_add]using e1,by simpa [Nat.mul_add]using e2,i1,i2⟩
/-- A part of a row is replaced. -/
theorem cc.set (h:cc w l cs) {k:Nat} {r:Rq} (hk:k<l.length) {a b:Option Addr} {c d:Nat} (h1:IsR w (.agg #[.slice a r.L c]) r.L r.p) (h2:IsR w (.agg #[.slice b r.N d]) r.N r.q):
  cc w (l.set k r) (((cs.set (3*k) (.bool r.s)).set (3*k+1) (.slice a r.L c)).set (3*k+2) (.slice b r.N d)):=by
 induction l generalizing cs k with
 | nil=>cases hk
 | cons x l ih=>
  obtain⟨a',c',b',d',cs',e,i1,i2,i3⟩:=h
  rw[e]
  match k with
  | 0=>exact⟨a,c,b,d,cs',rfl,h1,h2,i3⟩
  | k+1=>
   have:=ih i3 (k:=k) (by simpa using hk)
   exact⟨a',c',b',d',_,by simp[Nat.mul_add],i1,i2,this⟩
def IsL (w:World) (v:Value) (l:List Rq):Prop:=∃cs,v= .agg cs.toArray∧cc w l cs
def jb (T:TypeId) (w:World) (g:Nat) (l:List Rq):Prop:=∃cs,w.heap[g]? =some (.cells cs.toArray T (0,0))∧cc w l cs
theorem IsL.mono {v:Value} (h:IsL w v l) (hb:Below w.heap.size w w'):IsL w' v l:=by obtain⟨cs,e,h⟩:=h;exact⟨cs,e,h.mono hb⟩
theorem IsL.upd {v:Value} (h:IsL w v l) (o:Own w g) (u:Upd w g w'):IsL w' v l:=by obtain⟨cs,e,h⟩:=h;exact⟨cs,e,h.upd o u⟩
theorem jb.lt (h:jb T w g l):g<w.heap.size:=by obtain⟨_,h,_⟩:=h;exact(Array.getElem?_eq_some_iff.1 h).1
theorem jb.mono (h:jb T w g l) (hb:Below w.heap.size w w'):jb T w' g l:=by
 have hl:=h.lt
 obtain⟨cs,h0,h1⟩:=h;exact⟨cs,(hb.block g hl).trans h0,h1.mono hb⟩
theorem jb.upd (h:jb T w g' l) (o:Own w g) (u:Upd w g w') (hn:g'≠g):jb T w' g' l:=by
 obtain⟨cs,h0,h1⟩:=h;exact⟨cs,(u.block g' hn).trans h0,h1.upd o u⟩
theorem jb.own (h:jb T w g l):Own w g:=by
 obtain⟨cs,h0,h1⟩:=h
 exact⟨cs.toArray,T,h0,fun k n=>by rw[List.getElem?_toArray];exact h1.noInt k n⟩
theorem jb.get (h:jb T w g l) {k:Nat} {r:Rq} (hk:l[k]? =some r):
  ∃a c b d,w.cell? ⟨g,3*k,none⟩=some (.bool r.s)∧w.cell? ⟨g,3*k+1,none⟩=some (.slice a r.L c)∧w.cell? ⟨g,3*k+2,none⟩=some (.slice b r.N d)∧IsR w (.agg #[.slice a r.L c]) r.L r.p∧IsR w (.agg #[.slice b r.N d]) r.N r.q:=by
 obtain⟨cs,h0,h1⟩:=h
 obtain⟨a,c,b,d,e0,e1,e2,i1,i2⟩:=h1.get hk
 exact⟨a,c,b,d,by rw[cell_of_row w g _ _ _ (0,0) h0,List.getElem?_toArray];exact e0,by rw[cell_of_row w g _ _ _ (0,0) h0,List.getElem?_toArray];exact e1,by rw[cell_of_row w g _ _ _ (0,0) h0,List.getElem?_toArray];exact e2,i1,i2⟩
theorem jb.frozen (h:jb T w g l) (j:Nat):w.frozen? ⟨g,j,none⟩=false:=by obtain⟨cs,h0,_⟩:=h;exact frozen_of_row w g j _ _ h0
end
section
variable {Q:Exit→Act→World→Prop} {o:Oper} {a:Act} {w:World} {x y:Operand} {g k:Nat} {l:List Rq} {r:Rq} {T:TypeId}
end
section
variable {Q:Exit→Act→World→Prop} {o:Oper} {a:Act} {w:World} {x y z u:Operand} {f:FuncId} {tt:Array TypeId} {S S1 S2 S3:Sp} {R:World→Ending→World→Prop}
end
end Go.Proofs.YtfhinmdhjlmikaaDoor
namespace Go.Proofs.YtfhinmdhjlmikaaDoor
set_option linter.unusedSimpArgs false
set_option linter.unusedVariables false
set_option maxRecDepth 100000
open Go.RowKit
def fr3 (x:Fq):Rho:=[.val (.bool x.s),.dig (nl x.p) x.p,.dig (nl x.q) x.q]
def frs:List Fq→Rho
 | []=>[]
 | x::xs=>.val (.bool x.s)::.dig (nl x.p) x.p::.dig (nl x.q) x.q::frs xs
def leaf3 (k:Nat):List Leaf:=[.ref (3*k),.ref (3*k+1),.ref (3*k+2)]
def fr (k:Nat):SV:=.agg (leaf3 k)
def uM:List Nat→List Leaf
 | []=>[]
 | k::ks=>.ref (3*k)::.ref (3*k+1)::.ref (3*k+2)::uM ks
def row (ks:List Nat):SV:=.agg (uM ks)
def AtL (xs:List Fq):List Nat→List Fq→Prop
 | [],[]=>True
 | k::ks,x::vs=>xs[k]? =some x∧AtL xs ks vs
 | _,_=>False
section
variable {xs:List Fq} {ys:Rho} {x y z:Fq} {i j k:Nat} {B:Blk} {w:World} {v:Value}
theorem uN:∀ {xs:List Fq} {k:Nat} {x:Fq},xs[k]? =some x→(frs xs++ys)[3*k]? =some (.val (.bool x.s))∧(frs xs++ys)[3*k+1]? =some (.dig (nl x.p) x.p)∧(frs xs++ys)[3*k+2]? =some (.dig (nl x.q) x.q)
 | [],_,_,h=>by simp at h
 | x::xs,0,y,h=>by simp at h;subst h;exact⟨rfl,rfl,rfl⟩
 | x::xs,k+1,y,h=>by
  have:=uN (xs:=xs) (k:=k) (x:=y) (by simpa using h)
  simpa [frs,Nat.mul_add]using this
theorem uO {s:Bool} (h:(frs xs++ys)[i]? =some (.val (.bool s))):(Leaf.ref i).holds (frs xs++ys) B w v↔v= .bool s:=ud h
theorem n5 {L N:Nat} (h:(frs xs++ys)[i]? =some (.dig L N)):(Leaf.ref i).holds (frs xs++ys) B w v↔IsR w (.agg #[v]) L N:=gf h
theorem gY {L N:Nat} (h:IsR w (.agg #[v]) L N):∃a c,v= .slice a L c:=by
 obtain⟨a,c,e,_⟩:=h
 have e2:v= .slice a L c:=by
  injection e with e
  have:=congrArg (fun x:Array Value=>x[0]?) e
  simpa using this
 exact⟨a,c,e2⟩
theorem jR:∀ {ks:List Nat} {vs:List Fq} {cs:List Value},AtL xs ks vs→(ap (frs xs++ys) B w (uM ks) cs↔cc w (vs.map Fq.raw) cs)
 | [],[],cs,_=>by
  constructor
  ·intro h;match cs,h with | [],_=>rfl
  ·intro h;have h:cs=[]:=h;subst h;trivial
 | k::ks,x::vs,cs,h=>by
  obtain⟨h1,h2,h3⟩:=uN (ys:=ys) h.1
  have ih:=fun cs=>jR (ks:=ks) (vs:=vs) (cs:=cs) h.2
  constructor
  ·intro hl
   match cs,hl with
   | u1::u2::u3::cs',hl=>
    obtain⟨g1,g2,g3,g4⟩:=hl
    have e1:=(uO h1).1 g1
    have e2:=(n5 h2).1 g2
    have e3:=(n5 h3).1 g3
    obtain⟨a,c,rfl⟩:=gY e2
    obtain⟨b,d,rfl⟩:=gY e3
    subst e1
    exact⟨a,c,b,d,cs',rfl,e2,e3,(ih cs').1 g4⟩
   | [],hl=>exact hl.elim
   | [_],hl=>exact hl.2.elim
   | [_,_],hl=>exact hl.2.2.elim
  ·rintro⟨a,c,b,d,cs',rfl,i1,i2,i3⟩
   exact⟨(uO h1).2 rfl,(n5 h2).2 i1,(n5 h3).2 i2,(ih cs').2 i3⟩
 | [],_::_,_,h=>h.elim
 | _::_,[],_,h=>h.elim
theorem aR {ks:List Nat} {vs:List Fq} (h:AtL xs ks vs):(row ks).holds (frs xs++ys) B w v↔IsL w v (vs.map Fq.raw):=by
 constructor
 ·rintro⟨cs,rfl,h1⟩;exact⟨cs,rfl,(jR h).1 h1⟩
 ·rintro⟨cs,rfl,h1⟩;exact⟨cs,rfl,(jR h).2 h1⟩
theorem cW (h:xs[k]? =some x):(fr k).holds (frs xs++ys) B w v↔IsQ w v x:=by
 have:=aR (ys:=ys) (B:=B) (w:=w) (v:=v) (ks:=[k]) (vs:=[x]) ⟨h,trivial⟩
 show(row [k]).holds _ B w v↔_
 rw[this]
 constructor
 ·rintro⟨cs,rfl,a,c,b,d,cs',rfl,i1,i2,e⟩
  have e:cs'=[]:=e
  subst e
  exact⟨a,c,b,d,rfl,i1,i2⟩
 ·rintro⟨a,c,b,d,rfl,i1,i2⟩
  exact⟨_,rfl,a,c,b,d,[],rfl,i1,i2,rfl⟩
abbrev OkI (xs:List Fq) (ys:Rho) (i:Inst):Prop:=i.Ok Tryd.prog (frs xs++ys)
theorem uP {f:FuncId} (hen:fv f) (hc:∀va vb w,IsQ w va x→IsQ w vb y→Calls Tryd.prog f #[va,vb] w (fun e w'=>iO w z e w')) (hi:xs[i]? =some x) (hj:xs[j]? =some y) (hk:xs[k]? =some z):OkI xs ys ⟨f,[fr i,fr j],.v (fr k)⟩:=
 ⟨hen,fun B w vs hB h=>by
  match vs,h with
  | [va,vb],h=>
   refine(hc va vb w ((cW hi).1 h.1) ((cW hj).1 h.2.1)).mono ?_
   rintro e w' ⟨v,rfl,h1,h2⟩
   exact⟨v,rfl,(cW hk).2 h1,h2⟩⟩
end
end Go.Proofs.YtfhinmdhjlmikaaDoor
namespace Go.Proofs.YtfhinmdhjlmikaaDoor
set_option linter.unusedSimpArgs false
set_option linter.unusedVariables false
set_option maxRecDepth 100000
open Go.RowKit
section
variable {xs:List Fq} {ys ρ:Rho} {x y z:Fq} {i j k n:Nat} {u c:Int} {b d:Bool} {l:Leaf} {f:FuncId} {op:BinOp} {t:TypeId}
theorem uQ {v:Value} (hen:fv f) (hc:∀va w,IsQ w va x→Calls Tryd.prog f #[va] w (fun e w'=>bE w v e w')) (hi:xs[i]? =some x) (hl:∀B w,l.holds (frs xs++ys) B w v):OkI xs ys ⟨f,[fr i],.v (.one l)⟩:=
 ⟨hen,fun B w vs hB h=>by
  match vs,h with
  | [va],h=>
   refine(hc va w ((cW hi).1 h.1)).mono ?_
   rintro e w' ⟨rfl,h2⟩
   exact⟨_,rfl,hl B w',h2⟩⟩
theorem yn {v:Value} (hen:fv f) (hc:∀va vb w,IsQ w va x→IsQ w vb y→Calls Tryd.prog f #[va,vb] w (fun e w'=>bE w v e w')) (hi:xs[i]? =some x) (hj:xs[j]? =some y) (hl:∀B w,l.holds (frs xs++ys) B w v):OkI xs ys ⟨f,[fr i,fr j],.v (.one l)⟩:=
 ⟨hen,fun B w vs hB h=>by
  match vs,h with
  | [va,vb],h=>
   refine(hc va vb w ((cW hi).1 h.1) ((cW hj).1 h.2.1)).mono ?_
   rintro e w' ⟨rfl,h2⟩
   exact⟨_,rfl,hl B w',h2⟩⟩
theorem uR (hen:fv f) (hc:∀w,Calls Tryd.prog f #[.int .i64 u] w (fun e w'=>iO w z e w')) (hk:xs[k]? =some z):OkI xs ys ⟨f,[.one (.i .i64 u)],.v (fr k)⟩:=
 ⟨hen,fun B w vs hB h=>by
  match vs,h with
  | [va],h=>
   have e:va= .int .i64 u:=h.1
   subst e
   refine(hc w).mono ?_
   rintro e w' ⟨v,rfl,h1,h2⟩
   exact⟨v,rfl,(cW hk).2 h1,h2⟩⟩
theorem yt (hi:xs[i]? =some x) (hj:xs[j]? =some y) (hk:xs[k]? =some (x.mul y)) (ox:x.ok 1000000000) (oy:y.ok 1000000000):OkI xs ys ⟨59,[fr i,fr j],.v (fr k)⟩:=
 uP (ai Tryd.func59 rfl rfl) (fun va vb w h1 h2=>ye va vb x y w h1 h2 ox oy) hi hj hk
theorem uS (hi:xs[i]? =some x) (hj:xs[j]? =some y) (hk:xs[k]? =some (x.add y)) (ox:x.ok 1000000000) (oy:y.ok 1000000000):OkI xs ys ⟨37,[fr i,fr j],.v (fr k)⟩:=
 uP (ai Tryd.func37 rfl rfl) (fun va vb w h1 h2=>ut va vb x y w h1 h2 ox oy) hi hj hk
theorem yu (hi:xs[i]? =some x) (hj:xs[j]? =some y) (hk:xs[k]? =some (x.sub y)) (ox:x.ok 1000000000) (oy:y.ok 1000000000):OkI xs ys ⟨60,[fr i,fr j],.v (fr k)⟩:=
 uP (ai Tryd.func60 rfl rfl) (fun va vb w h1 h2=>yg va vb x y w h1 h2 ox oy) hi hj hk
theorem gK (hk:xs[k]? =some (.ofInt u)) (lu: -9223372036854775808≤u) (ru:u<9223372036854775808):OkI xs ys ⟨17,[.one (.i .i64 u)],.v (fr k)⟩:=
 uR (ai Tryd.func17 rfl rfl) (fun w=>uu u w lu ru) hk
theorem lY (hk:xs[k]? =some (.ofInt u)) (lu: -9223372036854775808≤u) (ru:u<9223372036854775808):OkI xs ys ⟨18,[.one (.i .i64 u)],.v (fr k)⟩:=
 uR (ai Tryd.func18 rfl rfl) (fun w=>uv u w lu ru) hk
theorem fY (hi:xs[i]? =some x) (hj:xs[j]? =some y) (hl:∀B w,l.holds (frs xs++ys) B w (.bool (x.same y))) (hp:nl x.p≤1000000000000) (hq:nl x.q≤1000000000000) (kp:nl y.p≤1000000000000) (kq:nl y.q≤1000000000000):OkI xs ys ⟨16,[fr i,fr j],.v (.one l)⟩:=
 yn (ai Tryd.func16 rfl rfl) (fun va vb w h1 h2=>wD va vb x y w h1 h2 hp hq kp kq) hi hj hl
theorem xt (w:World):IsR w (.agg #[.slice none 0 0]) 0 0:=⟨none,0,rfl,Nat.le_refl _,by simp,fun h=>by omega⟩
theorem bm {B:Blk} {w:World}:∀ {n:Nat} {cs:List Value},ap ρ B w (List.replicate n [Leaf.b false,.sl0,.sl0]).flatten cs→cc w (List.replicate n Fq.zero.raw) cs
 | 0,cs,h=>by
  match cs,h with
  | [],_=>rfl
 | n+1,cs,h=>by
  match cs,h with
  | u1::u2::u3::cs',h=>
   obtain⟨g1,g2,g3,g4⟩:=h
   have e1:u1= .bool false:=g1
   have e2:u2= .slice none 0 0:=g2
   have e3:u3= .slice none 0 0:=g3
   subst e1;subst e2;subst e3
   have hz:nl 0=0:=aK
   refine⟨none,0,none,0,cs',?_,?_,?_,bm (n:=n) g4⟩
   ·simp[Fq.raw,Fq.zero,hz]
   ·simp only[Fq.raw,Fq.zero,hz];exact xt w
   ·simp only[Fq.raw,Fq.zero,hz];exact xt w
  | [],h=>exact h.elim
  | [_],h=>exact h.2.elim
  | [_,_],h=>exact h.2.2.elim
end
end Go.Proofs.YtfhinmdhjlmikaaDoor
namespace Go.Proofs.YtfhinmdhjlmikaaDoor
set_option linter.unusedSimpArgs false
set_option linter.unusedVariables false
set_option maxRecDepth 100000
open Go.RowKit
def Vq.cs (v:Vq):List Fq:=[v.x,v.y,v.z]
def Qq.cs (q:Qq):List Fq:=[q.w,q.x,q.y,q.z]
abbrev jS (w:World) (v:Value) (a:Vq):Prop:=IsL w v [a.x.raw,a.y.raw,a.z.raw]
abbrev RetL (W:World) (l:List Rq) (e:Ending) (w':World):Prop:=∃v,e= .returned v∧IsL w' v l∧Below W.heap.size W w'
abbrev lZ (W:World) (a:Vq) (e:Ending) (w':World):Prop:=RetL W [a.x.raw,a.y.raw,a.z.raw] e w'
def RetLE (W:World) (l:List Rq) (c:Int) (e:Ending) (w':World):Prop:=∃v,e= .returned (.tuple #[v,.int .i64 c])∧IsL w' v l∧Below W.heap.size W w'
theorem dx {u:Int} (lu: -9223372036854775808≤u) (ru:u<9223372036854775808):(Fq.ofInt u).ok 2:=⟨xW lu ru,az.2 (by show(1:Nat)<4294967296^2;decide),by show(1:Nat)≠0;decide⟩
def n9 (x y:Fq):List Fq:=[x,y,(x.mul y)]
theorem wH (vp:Value) (x y:Fq) (w:World) (ip:IsL w vp [x.raw,y.raw]) (hx:x.ok 1000000000) (hy:y.ok 1000000000):
  Calls Tryd.prog 35 #[vp] w fun e w'=>iO w (x.mul y) e w':=by
 refine(cRn (ρ:=frs (n9 x y)++ []) (args:=[row [0,1]]) (vs:=[vp]) (r:=.v (fr 2))
  (ae (yt (i:=0) (j:=1) (k:=2) rfl rfl rfl (hx.mono (by decide)) (hy.mono (by decide))) ag)
  ah Tryd.func35 (by kernel_rfl) ⟨(aR (xs:=n9 x y) (ks:=[0,1]) (vs:=[x,y]) ⟨rfl,rfl,trivial⟩).2 ip,trivial⟩).mono ?_
 rintro e w' ⟨v,rfl,h1,h2⟩
 exact⟨v,rfl,(cW (xs:=n9 x y) (k:=2) rfl).1 h1,h2⟩
theorem ec {xs:List Fq} {ys:Rho} {ks:List Nat} {k:Nat} {x y:Fq} (hi:AtL xs ks [x,y]) (hk:xs[k]? =some (x.mul y)) (hx:x.ok 1000000000) (hy:y.ok 1000000000):OkI xs ys ⟨35,[row ks],.v (fr k)⟩:=
 ⟨ai Tryd.func35 rfl rfl,fun B w vs hB h=>by
  match vs,h with
  | [va],h=>
   refine(wH va x y w ((aR hi).1 h.1) hx hy).mono ?_
   rintro e w' ⟨v,rfl,h1,h2⟩
   exact⟨v,rfl,(cW hk).2 h1,h2⟩⟩
def qw (x y:Fq):List Fq:=[x,y,(x.sub y)]
theorem yv (vp:Value) (x y:Fq) (w:World) (ip:IsL w vp [x.raw,y.raw]) (hx:x.ok 1000000000) (hy:y.ok 1000000000):
  Calls Tryd.prog 36 #[vp] w fun e w'=>iO w (x.sub y) e w':=by
 refine(cRn (ρ:=frs (qw x y)++ []) (args:=[row [0,1]]) (vs:=[vp]) (r:=.v (fr 2))
  (ae (yu (i:=0) (j:=1) (k:=2) rfl rfl rfl (hx.mono (by decide)) (hy.mono (by decide))) ag)
  ah Tryd.func36 (by kernel_rfl) ⟨(aR (xs:=qw x y) (ks:=[0,1]) (vs:=[x,y]) ⟨rfl,rfl,trivial⟩).2 ip,trivial⟩).mono ?_
 rintro e w' ⟨v,rfl,h1,h2⟩
 exact⟨v,rfl,(cW (xs:=qw x y) (k:=2) rfl).1 h1,h2⟩
theorem qx {xs:List Fq} {ys:Rho} {ks:List Nat} {k:Nat} {x y:Fq} (hi:AtL xs ks [x,y]) (hk:xs[k]? =some (x.sub y)) (hx:x.ok 1000000000) (hy:y.ok 1000000000):OkI xs ys ⟨36,[row ks],.v (fr k)⟩:=
 ⟨ai Tryd.func36 rfl rfl,fun B w vs hB h=>by
  match vs,h with
  | [va],h=>
   refine(yv va x y w ((aR hi).1 h.1) hx hy).mono ?_
   rintro e w' ⟨v,rfl,h1,h2⟩
   exact⟨v,rfl,(cW hk).2 h1,h2⟩⟩
/-- Products of the coordinates. -/
def Vq.times (a b:Vq):Vq:=⟨a.x.mul b.x,a.y.mul b.y,a.z.mul b.z⟩
theorem Vq.ok.times {a b:Vq} {d e:Nat} (h:a.ok d) (k:b.ok e):(a.times b).ok (d+e):=⟨h.x.mul k.x,h.y.mul k.y,h.z.mul k.z⟩
def ob (a:Vq) (b:Vq):List Fq:=[a.x,a.y,a.z,b.x,b.y,b.z,(a.x.mul b.x),(a.y.mul b.y),(a.z.mul b.z),((a.y.mul b.y).add (a.z.mul b.z)),((a.x.mul b.x).add ((a.y.mul b.y).add (a.z.mul b.z)))]
theorem yw (va vb:Value) (a:Vq) (b:Vq) (w:World) (ia:jS w va a) (ib:jS w vb b) (ha:a.ok 100000000) (hb:b.ok 100000000):
  Calls Tryd.prog 20 #[va,vb] w fun e w'=>iO w (a.dot b) e w':=by
 refine(cRn (ρ:=frs (ob a b)++ []) (args:=[row [0,1,2],row [3,4,5]]) (vs:=[va,vb]) (r:=.v (fr 10))
  (ae (ec (ks:=[0,3]) (k:=6) ⟨rfl,rfl,trivial⟩ rfl (ha.x.mono (by decide)) (hb.x.mono (by decide))) (ae (ec (ks:=[1,4]) (k:=7) ⟨rfl,rfl,trivial⟩ rfl (ha.y.mono (by decide)) (hb.y.mono (by decide))) (ae (ec (ks:=[2,5]) (k:=8) ⟨rfl,rfl,trivial⟩ rfl (ha.z.mono (by decide)) (hb.z.mono (by decide))) (ae (uS (i:=7) (j:=8) (k:=9) rfl rfl rfl ((ha.y.mul hb.y).mono (by decide)) ((ha.z.mul hb.z).mono (by decide))) (ae (uS (i:=6) (j:=9) (k:=10) rfl rfl rfl ((ha.x.mul hb.x).mono (by decide)) (((ha.y.mul hb.y).add (ha.z.mul hb.z)).mono (by decide))) ag)))))
  ah Tryd.func20 (by kernel_rfl) ⟨(aR (xs:=ob a b) (ks:=[0,1,2]) (vs:=[a.x,a.y,a.z]) ⟨rfl,rfl,rfl,trivial⟩).2 ia,⟨(aR (xs:=ob a b) (ks:=[3,4,5]) (vs:=[b.x,b.y,b.z]) ⟨rfl,rfl,rfl,trivial⟩).2 ib,trivial⟩⟩).mono ?_
 rintro e w' ⟨v,rfl,h1,h2⟩
 exact⟨v,rfl,(cW (xs:=ob a b) (k:=10) rfl).1 h1,h2⟩
theorem yx {xs:List Fq} {ys:Rho} {ka:List Nat} {kb:List Nat} {a:Vq} {b:Vq} {ir:Nat} (aa:AtL xs ka [a.x,a.y,a.z]) (ab:AtL xs kb [b.x,b.y,b.z]) (ar:xs[ir]? =some (a.dot b)) (ha:a.ok 100000000) (hb:b.ok 100000000):OkI xs ys ⟨20,[row ka,row kb],.v (fr ir)⟩:=
 ⟨ai Tryd.func20 rfl rfl,fun B w vs hB h=>by
  match vs,h with
  | [va,vb],h=>
   refine(yw va vb a b w ((aR aa).1 h.1) ((aR ab).1 h.2.1) ha hb).mono ?_
   rintro e w' ⟨v,rfl,h1,h2⟩
   exact⟨v,rfl,(cW ar).2 h1,h2⟩⟩
def jc (a:Vq) (b:Vq):List Fq:=[a.x,a.y,a.z,b.x,b.y,b.z,(a.y.mul b.z),(a.z.mul b.y),((a.y.mul b.z).sub (a.z.mul b.y)),(a.z.mul b.x),(a.x.mul b.z),((a.z.mul b.x).sub (a.x.mul b.z)),(a.x.mul b.y),(a.y.mul b.x),((a.x.mul b.y).sub (a.y.mul b.x))]
theorem uT (va vb:Value) (a:Vq) (b:Vq) (w:World) (ia:jS w va a) (ib:jS w vb b) (ha:a.ok 100000000) (hb:b.ok 100000000):
  Calls Tryd.prog 19 #[va,vb] w fun e w'=>lZ w (a.cross b) e w':=by
 refine(cRn (ρ:=frs (jc a b)++ []) (args:=[row [0,1,2],row [3,4,5]]) (vs:=[va,vb]) (r:=.v (row [8,11,14]))
  (ae (ec (ks:=[1,5]) (k:=6) ⟨rfl,rfl,trivial⟩ rfl (ha.y.mono (by decide)) (hb.z.mono (by decide))) (ae (ec (ks:=[2,4]) (k:=7) ⟨rfl,rfl,trivial⟩ rfl (ha.z.mono (by decide)) (hb.y.mono (by decide))) (ae (qx (ks:=[6,7]) (k:=8) ⟨rfl,rfl,trivial⟩ rfl ((ha.y.mul hb.z).mono (by decide)) ((ha.z.mul hb.y).mono (by decide))) (ae (ec (ks:=[2,3]) (k:=9) ⟨rfl,rfl,trivial⟩ rfl (ha.z.mono (by decide)) (hb.x.mono (by decide))) (ae (ec (ks:=[0,5]) (k:=10) ⟨rfl,rfl,trivial⟩ rfl (ha.x.mono (by decide)) (hb.z.mono (by decide))) (ae (qx (ks:=[9,10]) (k:=11) ⟨rfl,rfl,trivial⟩ rfl ((ha.z.mul hb.x).mono (by decide)) ((ha.x.mul hb.z).mono (by decide))) (ae (ec (ks:=[0,4]) (k:=12) ⟨rfl,rfl,trivial⟩ rfl (ha.x.mono (by decide)) (hb.y.mono (by decide))) (ae (ec (ks:=[1,3]) (k:=13) ⟨rfl,rfl,trivial⟩ rfl (ha.y.mono (by decide)) (hb.x.mono (by decide))) (ae (qx (ks:=[12,13]) (k:=14) ⟨rfl,rfl,trivial⟩ rfl ((ha.x.mul hb.y).mono (by decide)) ((ha.y.mul hb.x).mono (by decide))) ag)))))))))
  ah Tryd.func19 (by kernel_rfl) ⟨(aR (xs:=jc a b) (ks:=[0,1,2]) (vs:=[a.x,a.y,a.z]) ⟨rfl,rfl,rfl,trivial⟩).2 ia,⟨(aR (xs:=jc a b) (ks:=[3,4,5]) (vs:=[b.x,b.y,b.z]) ⟨rfl,rfl,rfl,trivial⟩).2 ib,trivial⟩⟩).mono ?_
 rintro e w' ⟨v,rfl,h1,h2⟩
 exact⟨v,rfl,(aR (xs:=jc a b) (ks:=[8,11,14]) (vs:=[((a.y.mul b.z).sub (a.z.mul b.y)),((a.z.mul b.x).sub (a.x.mul b.z)),((a.x.mul b.y).sub (a.y.mul b.x))]) ⟨rfl,rfl,rfl,trivial⟩).1 h1,h2⟩
theorem uU {xs:List Fq} {ys:Rho} {ka:List Nat} {kb:List Nat} {a:Vq} {b:Vq} {kr:List Nat} (aa:AtL xs ka [a.x,a.y,a.z]) (ab:AtL xs kb [b.x,b.y,b.z]) (ar:AtL xs kr [(a.cross b).x,(a.cross b).y,(a.cross b).z]) (ha:a.ok 100000000) (hb:b.ok 100000000):OkI xs ys ⟨19,[row ka,row kb],.v (row kr)⟩:=
 ⟨ai Tryd.func19 rfl rfl,fun B w vs hB h=>by
  match vs,h with
  | [va,vb],h=>
   refine(uT va vb a b w ((aR aa).1 h.1) ((aR ab).1 h.2.1) ha hb).mono ?_
   rintro e w' ⟨v,rfl,h1,h2⟩
   exact⟨v,rfl,(aR ar).2 h1,h2⟩⟩
end Go.Proofs.YtfhinmdhjlmikaaDoor
namespace Go.Proofs.YtfhinmdhjlmikaaDoor
set_option linter.unusedSimpArgs false
set_option linter.unusedVariables false
set_option maxRecDepth 100000
open Go.RowKit
/-- Agreement of all parts. -/
def Vq.same (a b:Vq):Bool:=a.x.same b.x && (a.y.same b.y && a.z.same b.z)
def Qq.same (p q:Qq):Bool:=p.w.same q.w && (p.x.same q.x && (p.y.same q.y && p.z.same q.z))
theorem Vq.same_iff {a b:Vq}:a.same b=true↔a=b:=by
 obtain⟨a1,a2,a3⟩:=a;obtain⟨b1,b2,b3⟩:=b
 simp[Vq.same,Fq.same_iff]
theorem Qq.same_iff {a b:Qq}:a.same b=true↔a=b:=by
 obtain⟨a1,a2,a3,a4⟩:=a;obtain⟨b1,b2,b3,b4⟩:=b
 simp[Qq.same,Fq.same_iff]
end Go.Proofs.YtfhinmdhjlmikaaDoor
namespace Go.Proofs.YtfhinmdhjlmikaaDoor
set_option linter.unusedSimpArgs false
set_option linter.unusedVariables false
set_option maxRecDepth 100000
open Go.RowKit
/-- Rows of fractions whose numbers may have leading zeros. -/
def qy:List Nat→List Leaf
 | []=>[]
 | n::ns=>.ref n::.ref (n+1)::.ref (n+2)::qy ns
def cY (ns:List Nat):SV:=.agg (qy ns)
def AtR (ρ:Rho):List Nat→List Rq→Prop
 | [],[]=>True
 | n::ns,r::rs=>(ρ[n]? =some (.val (.bool r.s))∧ρ[n+1]? =some (.dig r.L r.p)∧ρ[n+2]? =some (.dig r.N r.q))∧AtR ρ ns rs
 | _,_=>False
/-- A fraction in valid form. -/
def Rq.vld (r:Rq):Bool:=decide (nl r.p=r.L∧nl r.q=r.N) && (Fq.mk r.s r.p r.q).valid
section
variable {ρ:Rho} {xs:List Fq} {ys:Rho} {n m k:Nat} {u v:Int} {l:Leaf} {t:TypeId} {B:Blk} {w:World} {r:Rq}
theorem iv:∀ {ns:List Nat} {rs:List Rq} {cs:List Value},AtR ρ ns rs→(ap ρ B w (qy ns) cs↔cc w rs cs)
 | [],[],cs,_=>by
  constructor
  ·intro h;match cs,h with | [],_=>rfl
  ·intro h;have h:cs=[]:=h;subst h;trivial
 | n::ns,r::rs,cs,h=>by
  obtain⟨⟨h1,h2,h3⟩,h4⟩:=h
  have ih:=fun cs=>iv (ns:=ns) (rs:=rs) (cs:=cs) h4
  constructor
  ·intro hl
   match cs,hl with
   | u1::u2::u3::cs',hl=>
    obtain⟨g1,g2,g3,g4⟩:=hl
    have e1:=(ud h1).1 g1
    have e2:=(gf h2).1 g2
    have e3:=(gf h3).1 g3
    obtain⟨a,c,rfl⟩:=gY e2
    obtain⟨b,d,rfl⟩:=gY e3
    subst e1
    exact⟨a,c,b,d,cs',rfl,e2,e3,(ih cs').1 g4⟩
   | [],hl=>exact hl.elim
   | [_],hl=>exact hl.2.elim
   | [_,_],hl=>exact hl.2.2.elim
  ·rintro⟨a,c,b,d,cs',rfl,i1,i2,i3⟩
   exact⟨(ud h1).2 rfl,(gf h2).2 i1,(gf h3).2 i2,(ih cs').2 i3⟩
 | [],_::_,_,h=>h.elim
 | _::_,[],_,h=>h.elim
theorem aE {ns:List Nat} {rs:List Rq} {x:Value} (h:AtR ρ ns rs):(cY ns).holds ρ B w x↔IsL w x rs:=by
 constructor
 ·rintro⟨cs,rfl,h1⟩;exact⟨cs,rfl,(iv h).1 h1⟩
 ·rintro⟨cs,rfl,h1⟩;exact⟨cs,rfl,(iv h).2 h1⟩
theorem uV {x:Value} (h:IsL w x [r]):lR w x r.s r.L r.p r.N r.q:=by
 obtain⟨cs,rfl,a,c,b,d,cs',rfl,i1,i2,e⟩:=h
 have e:cs'=[]:=e
 subst e
 exact⟨a,c,b,d,rfl,i1,i2⟩
theorem wI (h:r.vld=true):r=(Fq.mk r.s r.p r.q).raw∧(Fq.mk r.s r.p r.q).valid=true:=by
 unfold Rq.vld at h
 simp only[Bool.and_eq_true,decide_eq_true_eq]at h
 obtain⟨⟨h1,h2⟩,h3⟩:=h
 refine⟨?_,h3⟩
 obtain⟨s,L,p,N,q⟩:=r
 simp only at h1 h2
 subst h1;subst h2;rfl
theorem sD (x:Value) (w:World) (h:IsL w x [r]) (hL:r.L≤1000000) (hN:r.N≤1000000):Calls Tryd.prog 26 #[x] w fun e w'=>bE w (.bool r.vld) e w':=by
 have hf:=uV h
 by_cases hc:nl r.p=r.L∧nl r.q=r.N
 ·have e:r.vld=(Fq.mk r.s r.p r.q).valid:=by unfold Rq.vld;simp[hc]
  rw[e]
  exact pq x ⟨r.s,r.p,r.q⟩ w (hf.isQ hc.1 hc.2) (by show nl r.p≤_;omega) (by show nl r.q≤_;omega)
 ·have e:r.vld=false:=by unfold Rq.vld;simp[hc]
  rw[e]
  exact sA x r.s r.L r.p r.N r.q w hf hL hN hc
theorem sE (x:Value) (w:World) (h:IsL w x [r]) (hL:r.L≤1000000) (hN:r.N≤1000000):Calls Tryd.prog 27 #[x] w fun e w'=>bE w (.bool r.vld) e w':=by
 have hf:=uV h
 by_cases hc:nl r.p=r.L∧nl r.q=r.N
 ·have e:r.vld=(Fq.mk r.s r.p r.q).valid:=by unfold Rq.vld;simp[hc]
  rw[e]
  exact uw x ⟨r.s,r.p,r.q⟩ w (hf.isQ hc.1 hc.2) (by show nl r.p≤_;omega) (by show nl r.q≤_;omega)
 ·have e:r.vld=false:=by unfold Rq.vld;simp[hc]
  rw[e]
  exact sB x r.s r.L r.p r.N r.q w hf hL hN hc
theorem xu {f:FuncId} {b d:Bool} (hen:fv f) (hc:∀x w,IsL w x [r]→Calls Tryd.prog f #[x] w (fun e w'=>bE w (.bool b) e w')) (hr:AtR (frs xs++ys) [n] [r]) (h:b=d):OkI xs ys ⟨f,[cY [n]],.v (.one (.b d))⟩:=
 ⟨hen,fun B w vs hB hv=>by
  match vs,hv with
  | [va],hv=>
   refine(hc va w ((aE hr).1 hv.1)).mono ?_
   rintro e w' ⟨rfl,h2⟩
   exact⟨_,rfl,by subst h;rfl,h2⟩⟩
theorem cP {d:Bool} (hr:AtR (frs xs++ys) [n] [r]) (h:r.vld=d) (hL:r.L≤1000000) (hN:r.N≤1000000):OkI xs ys ⟨26,[cY [n]],.v (.one (.b d))⟩:=
 xu (ai Tryd.func26 rfl rfl) (fun x w hx=>sD x w hx hL hN) hr h
theorem ci {d:Bool} (hr:AtR (frs xs++ys) [n] [r]) (h:r.vld=d) (hL:r.L≤1000000) (hN:r.N≤1000000):OkI xs ys ⟨27,[cY [n]],.v (.one (.b d))⟩:=
 xu (ai Tryd.func27 rfl rfl) (fun x w hx=>sE x w hx hL hN) hr h
end
theorem pw {d:Nat} {b:Bool} (h:decide (d≤4)=b):decide ((d:Int)≤4)=b:=by rw[←h];exact decide_eq_decide.2 (by omega)
theorem yy {r:Rq} (h:r.vld=true):nl r.p=r.L∧nl r.q=r.N:=by
 unfold Rq.vld at h
 simp only[Bool.and_eq_true,decide_eq_true_eq]at h
 exact h.1
/-- No more than four digits; and valid. -/
def Rq.sh (r:Rq):Bool:=decide (r.L≤4) && decide (r.N≤4)
def Rq.sm (r:Rq):Bool:=r.sh && r.vld
def iw (a b c:Rq):Bool:=a.sm && (b.sm && c.sm)
theorem dV {r:Rq} (h:r.sh=true):r.L≤1000000:=by simp only[Rq.sh,Bool.and_eq_true,decide_eq_true_eq]at h;omega
theorem dW {r:Rq} (h:r.sh=true):r.N≤1000000:=by simp only[Rq.sh,Bool.and_eq_true,decide_eq_true_eq]at h;omega
theorem yz {r:Rq} (h:r.sm=true):∃x:Fq,r=x.raw∧x.valid=true∧x.ok 4:=by
 simp only[Rq.sm,Rq.sh,Bool.and_eq_true,decide_eq_true_eq]at h
 have h1:=yy h.2
 have h2:=wI h.2
 exact⟨_,h2.1,h2.2,⟨by show nl r.p≤4;omega,by show nl r.q≤4;omega,Fq.valid.n h2.2⟩⟩
theorem fit_v {a b c:Rq} (h:iw a b c=true):∃x:Vq,a=x.x.raw∧b=x.y.raw∧c=x.z.raw∧x.good∧x.ok 4:=by
 simp only[iw,Bool.and_eq_true]at h
 obtain⟨x,e1,v1,k1⟩:=yz h.1
 obtain⟨y,e2,v2,k2⟩:=yz h.2.1
 obtain⟨z,e3,v3,k3⟩:=yz h.2.2
 exact⟨⟨x,y,z⟩,e1,e2,e3,⟨v1,v2,v3⟩,⟨k1,k2,k3⟩⟩
end Go.Proofs.YtfhinmdhjlmikaaDoor
namespace Go.Proofs.YtfhinmdhjlmikaaDoor
set_option linter.unusedSimpArgs false
set_option linter.unusedVariables false
set_option maxRecDepth 100000
open Go.RowKit
theorem Qq.ok.mk4 {a b c e:Fq} {d:Nat} (h1:a.ok d) (h2:b.ok d) (h3:c.ok d) (h4:e.ok d):(Qq.mk a b c e).ok d:=⟨h1,h2,h3,h4⟩
end Go.Proofs.YtfhinmdhjlmikaaDoor
namespace Go.Proofs.YtfhinmdhjlmikaaDoor
set_option linter.unusedSimpArgs false
set_option linter.unusedVariables false
set_option maxRecDepth 100000
open Go.RowKit
theorem Qq.ok.inv {q:Qq} {d:Nat} (h:q.ok d) (g:q.good):q.inv.ok (d+2+(d+2)):=by
 have h0:=rB g
 rw[←uF g.comp]at h0
 exact(Qq.ok.mk4 (h.w.mono (by omega)) (h.x.mul (dx (by decide) (by decide))) (h.y.mul (dx (by decide) (by decide))) (h.z.mul (dx (by decide) (by decide)))).canon h0
theorem Qq.ok.mulg {p q:Qq} {d e:Nat} (h:p.ok d) (k:q.ok e) (gp:p.good) (gq:q.good):(p.mul q).ok (44*(d+e)+14):=h.mul k (uD gp gq)
theorem Qq.ok.dd {q:Qq} {d:Nat} (h:q.ok d):q.dd.ok (44*d+7):=((h.w.mul h.w).sub (h.axis.dot h.axis)).mono (by omega)
theorem Qq.ok.nn {q:Qq} {d:Nat} (h:q.ok d):q.nn.ok (44*d+7):=((h.w.mul h.w).add (h.axis.dot h.axis)).mono (by omega)
theorem Qq.ok.rat {q:Qq} {d:Nat} (h:q.ok d) (g:q.good):q.rat.ok (44*d+9):=((dx (by decide) (by decide)).div h.nn (xr g)).mono (by omega)
theorem Qq.ok.ap1 {q:Qq} {a:Vq} {d e:Nat} (h:q.ok d) (k:a.ok e):(q.ap1 a).ok (e+44*d+7):=(k.scale h.dd).mono (by omega)
theorem Qq.ok.ap2 {q:Qq} {a:Vq} {d e:Nat} (h:q.ok d) (k:a.ok e):(q.ap2 a).ok (11*d+10*e+5):=(h.axis.scale ((dx (by decide) (by decide)).mul (h.axis.dot k))).mono (by omega)
theorem Qq.ok.ap3 {q:Qq} {a:Vq} {d e:Nat} (h:q.ok d) (k:a.ok e):(q.ap3 a).ok (5*d+4*e+3):=((h.axis.cross k).scale ((dx (by decide) (by decide)).mul h.w)).mono (by omega)
theorem Qq.ok.app {q:Qq} {a:Vq} {d e:Nat} (h:q.ok d) (k:a.ok e) (g:q.good):(q.app a).ok (300*(d+e)+100):=((((h.ap1 k).add (h.ap2 k)).add (h.ap3 k)).scale (h.rat g)).mono (by omega)
end Go.Proofs.YtfhinmdhjlmikaaDoor
namespace Go.Proofs.YtfhinmdhjlmikaaDoor
set_option linter.unusedSimpArgs false
set_option linter.unusedVariables false
set_option maxRecDepth 100000
open Go.RowKit
theorem d5 {x y z:Int} (l1: -9223372036854775808≤x) (r1:x<9223372036854775808) (l2: -9223372036854775808≤y) (r2:y<9223372036854775808) (l3: -9223372036854775808≤z) (r3:z<9223372036854775808):(Vq.of x y z).ok 2:=⟨dx l1 r1,dx l2 r2,dx l3 r3⟩
end Go.Proofs.YtfhinmdhjlmikaaDoor
namespace Go.Proofs.YtfhinmdhjlmikaaDoor
set_option linter.unusedSimpArgs false
set_option linter.unusedVariables false
set_option maxRecDepth 100000
open Go.RowKit
def iy (a:Vq) (b:Vq):List Fq:=[a.x,a.y,a.z,b.x,b.y,b.z]
theorem qz (va vb:Value) (a:Vq) (b:Vq) (w:World) (ia:jS w va a) (ib:jS w vb b) (ha:a.ok 1000000000) (hb:b.ok 1000000000) (e0:a=b):
  Calls Tryd.prog 4 #[va,vb] w fun e w'=>bE w (.bool true) e w':=by
 refine(cRn (ρ:=frs (iy a b)++ []) (args:=[row [0,1,2],row [3,4,5]]) (vs:=[va,vb]) (r:=.v (.one (.b true)))
  (ae (fY (i:=0) (j:=3) (l:=.b true) rfl rfl (lb (Fq.same_iff.2 (congrArg Vq.x e0))) (ha.x.mono (by decide)).p (ha.x.mono (by decide)).q (hb.x.mono (by decide)).p (hb.x.mono (by decide)).q) (ae (fY (i:=1) (j:=4) (l:=.b true) rfl rfl (lb (Fq.same_iff.2 (congrArg Vq.y e0))) (ha.y.mono (by decide)).p (ha.y.mono (by decide)).q (hb.y.mono (by decide)).p (hb.y.mono (by decide)).q) (ae (fY (i:=2) (j:=5) (l:=.b true) rfl rfl (lb (Fq.same_iff.2 (congrArg Vq.z e0))) (ha.z.mono (by decide)).p (ha.z.mono (by decide)).q (hb.z.mono (by decide)).p (hb.z.mono (by decide)).q) ag)))
  ah Tryd.func4 (by kernel_rfl) ⟨(aR (xs:=iy a b) (ks:=[0,1,2]) (vs:=[a.x,a.y,a.z]) ⟨rfl,rfl,rfl,trivial⟩).2 ia,⟨(aR (xs:=iy a b) (ks:=[3,4,5]) (vs:=[b.x,b.y,b.z]) ⟨rfl,rfl,rfl,trivial⟩).2 ib,trivial⟩⟩).mono ?_
 rintro e w' ⟨v,rfl,h1,h2⟩
 exact⟨congrArg Ending.returned h1,h2⟩
theorem qA {xs:List Fq} {ys:Rho} {ka:List Nat} {kb:List Nat} {a:Vq} {b:Vq} (aa:AtL xs ka [a.x,a.y,a.z]) (ab:AtL xs kb [b.x,b.y,b.z]) (ha:a.ok 1000000000) (hb:b.ok 1000000000) (e0:a=b):OkI xs ys ⟨4,[row ka,row kb],.v (.one (.b true))⟩:=
 ⟨ai Tryd.func4 rfl rfl,fun B w vs hB h=>by
  match vs,h with
  | [va,vb],h=>
   refine(qz va vb a b w ((aR aa).1 h.1) ((aR ab).1 h.2.1) ha hb e0).mono ?_
   rintro e w' ⟨rfl,h2⟩
   exact⟨_,rfl,rfl,h2⟩⟩
def m8:List Fq:=[(Fq.ofInt 1),(Fq.ofInt 2),(Fq.ofInt 3)]
theorem sF (w:World):
  Calls Tryd.prog 5 #[.int .i64 (1),.int .i64 (2),.int .i64 (3)] w fun e w'=>lZ w (Vq.of 1 2 3) e w':=by
 refine(cRn (ρ:=frs (m8)++ []) (args:=[.one (.i .i64 1),.one (.i .i64 2),.one (.i .i64 3)]) (vs:=[.int .i64 (1),.int .i64 (2),.int .i64 (3)]) (r:=.v (row [0,1,2]))
  (ae (gK (k:=0) rfl (by decide) (by decide)) (ae (gK (k:=1) rfl (by decide) (by decide)) (ae (gK (k:=2) rfl (by decide) (by decide)) ag)))
  ah Tryd.func5 (by kernel_rfl) ⟨rfl,⟨rfl,⟨rfl,trivial⟩⟩⟩).mono ?_
 rintro e w' ⟨v,rfl,h1,h2⟩
 exact⟨v,rfl,(aR (xs:=m8) (ks:=[0,1,2]) (vs:=[(Fq.ofInt 1),(Fq.ofInt 2),(Fq.ofInt 3)]) ⟨rfl,rfl,rfl,trivial⟩).1 h1,h2⟩
theorem sG {xs:List Fq} {ys:Rho} {kr:List Nat} (ar:AtL xs kr [(Vq.of 1 2 3).x,(Vq.of 1 2 3).y,(Vq.of 1 2 3).z]):OkI xs ys ⟨5,[.one (.i .i64 1),.one (.i .i64 2),.one (.i .i64 3)],.v (row kr)⟩:=
 ⟨ai Tryd.func5 rfl rfl,fun B w vs hB h=>by
  match vs,h with
  | [vx,vy,vz],h=>
   have ex:vx= .int .i64 (1):=h.1
   subst ex
   have ey:vy= .int .i64 (2):=h.2.1
   subst ey
   have ez:vz= .int .i64 (3):=h.2.2.1
   subst ez
   refine(sF w).mono ?_
   rintro e w' ⟨v,rfl,h1,h2⟩
   exact⟨v,rfl,(aR ar).2 h1,h2⟩⟩
def m9:List Fq:=[(Fq.ofInt 4),(Fq.ofInt 5),(Fq.ofInt 6)]
theorem sH (w:World):
  Calls Tryd.prog 5 #[.int .i64 (4),.int .i64 (5),.int .i64 (6)] w fun e w'=>lZ w (Vq.of 4 5 6) e w':=by
 refine(cRn (ρ:=frs (m9)++ []) (args:=[.one (.i .i64 4),.one (.i .i64 5),.one (.i .i64 6)]) (vs:=[.int .i64 (4),.int .i64 (5),.int .i64 (6)]) (r:=.v (row [0,1,2]))
  (ae (gK (k:=0) rfl (by decide) (by decide)) (ae (gK (k:=1) rfl (by decide) (by decide)) (ae (gK (k:=2) rfl (by decide) (by decide)) ag)))
  ah Tryd.func5 (by kernel_rfl) ⟨rfl,⟨rfl,⟨rfl,trivial⟩⟩⟩).mono ?_
 rintro e w' ⟨v,rfl,h1,h2⟩
 exact⟨v,rfl,(aR (xs:=m9) (ks:=[0,1,2]) (vs:=[(Fq.ofInt 4),(Fq.ofInt 5),(Fq.ofInt 6)]) ⟨rfl,rfl,rfl,trivial⟩).1 h1,h2⟩
theorem sI {xs:List Fq} {ys:Rho} {kr:List Nat} (ar:AtL xs kr [(Vq.of 4 5 6).x,(Vq.of 4 5 6).y,(Vq.of 4 5 6).z]):OkI xs ys ⟨5,[.one (.i .i64 4),.one (.i .i64 5),.one (.i .i64 6)],.v (row kr)⟩:=
 ⟨ai Tryd.func5 rfl rfl,fun B w vs hB h=>by
  match vs,h with
  | [vx,vy,vz],h=>
   have ex:vx= .int .i64 (4):=h.1
   subst ex
   have ey:vy= .int .i64 (5):=h.2.1
   subst ey
   have ez:vz= .int .i64 (6):=h.2.2.1
   subst ez
   refine(sH w).mono ?_
   rintro e w' ⟨v,rfl,h1,h2⟩
   exact⟨v,rfl,(aR ar).2 h1,h2⟩⟩
def ko:List Fq:=[(Fq.ofInt (-3)),(Fq.ofInt 6)]
theorem px (w:World):
  Calls Tryd.prog 6 #[.int .i64 (-3),.int .i64 (6),.int .i64 (-3)] w fun e w'=>lZ w (Vq.of (-3) 6 (-3)) e w':=by
 refine(cRn (ρ:=frs (ko)++ []) (args:=[.one (.i .i64 (-3)),.one (.i .i64 6),.one (.i .i64 (-3))]) (vs:=[.int .i64 (-3),.int .i64 (6),.int .i64 (-3)]) (r:=.v (row [0,1,0]))
  (ae (lY (k:=0) rfl (by decide) (by decide)) (ae (lY (k:=1) rfl (by decide) (by decide)) ag))
  ah Tryd.func6 (by kernel_rfl) ⟨rfl,⟨rfl,⟨rfl,trivial⟩⟩⟩).mono ?_
 rintro e w' ⟨v,rfl,h1,h2⟩
 exact⟨v,rfl,(aR (xs:=ko) (ks:=[0,1,0]) (vs:=[(Fq.ofInt (-3)),(Fq.ofInt 6),(Fq.ofInt (-3))]) ⟨rfl,rfl,rfl,trivial⟩).1 h1,h2⟩
theorem py {xs:List Fq} {ys:Rho} {kr:List Nat} (ar:AtL xs kr [(Vq.of (-3) 6 (-3)).x,(Vq.of (-3) 6 (-3)).y,(Vq.of (-3) 6 (-3)).z]):OkI xs ys ⟨6,[.one (.i .i64 (-3)),.one (.i .i64 6),.one (.i .i64 (-3))],.v (row kr)⟩:=
 ⟨ai Tryd.func6 rfl rfl,fun B w vs hB h=>by
  match vs,h with
  | [vx,vy,vz],h=>
   have ex:vx= .int .i64 (-3):=h.1
   subst ex
   have ey:vy= .int .i64 (6):=h.2.1
   subst ey
   have ez:vz= .int .i64 (-3):=h.2.2.1
   subst ez
   refine(px w).mono ?_
   rintro e w' ⟨v,rfl,h1,h2⟩
   exact⟨v,rfl,(aR ar).2 h1,h2⟩⟩
end Go.Proofs.YtfhinmdhjlmikaaDoor
namespace Go.Proofs.YtfhinmdhjlmikaaDoor
set_option linter.unusedSimpArgs false
set_option linter.unusedVariables false
set_option maxRecDepth 100000
open Go.RowKit
def sJ (x0:Rq):List Fq:=[]
def sK (x0:Rq):List Fq:=[]
def sL (x0:Rq):List Fq:=[]
theorem uW (vx:Value) (x0:Rq) (w:World) (ix:IsL w vx [x0]):Calls Tryd.prog 7 #[vx] w fun e w'=>bE w (.bool (x0.sh)) e w':=by
 rcases Bool.eq_false_or_eq_true (decide (x0.L≤4))with c0 | c0
 ·rcases Bool.eq_false_or_eq_true (decide (x0.N≤4))with c1 | c1
  ·refine(cRn (ρ:=frs (sJ x0)++([.val (.bool x0.s),.dig x0.L x0.p,.dig x0.N x0.q,.val (.int .i64 ((x0.L:Nat):Int)),.val (.int .i64 ((x0.N:Nat):Int))]:List Vp)) (args:=[cY [0]]) (vs:=[vx]) (r:=.v (.one (.b true)))
    (ag)
    (ac (pi (n:=1) (m:=3) (t:=22) ⟨_,Tryd.underlying22⟩ rfl rfl) (ac (ph (n:=3) (c:=4) (b:=true) (t:=3) rfl (pw c0)) (ac (pi (n:=2) (m:=4) (t:=22) ⟨_,Tryd.underlying22⟩ rfl rfl) (ac (ph (n:=4) (c:=4) (b:=true) (t:=3) rfl (pw c1)) (ah))))) Tryd.func7 (by kernel_rfl) ⟨(aE (ns:=[0]) (rs:=[x0]) ⟨⟨rfl,rfl,rfl⟩,trivial⟩).2 ix,trivial⟩).mono ?_
   rintro e w' ⟨v,rfl,h1,h2⟩
   have h1:v= .bool _:=h1
   subst h1
   exact⟨by simp[Rq.sh,c0,c1],h2⟩
  ·refine(cRn (ρ:=frs (sK x0)++([.val (.bool x0.s),.dig x0.L x0.p,.dig x0.N x0.q,.val (.int .i64 ((x0.L:Nat):Int)),.val (.int .i64 ((x0.N:Nat):Int))]:List Vp)) (args:=[cY [0]]) (vs:=[vx]) (r:=.v (.one (.b false)))
    (ag)
    (ac (pi (n:=1) (m:=3) (t:=22) ⟨_,Tryd.underlying22⟩ rfl rfl) (ac (ph (n:=3) (c:=4) (b:=true) (t:=3) rfl (pw c0)) (ac (pi (n:=2) (m:=4) (t:=22) ⟨_,Tryd.underlying22⟩ rfl rfl) (ac (ph (n:=4) (c:=4) (b:=false) (t:=3) rfl (pw c1)) (ah))))) Tryd.func7 (by kernel_rfl) ⟨(aE (ns:=[0]) (rs:=[x0]) ⟨⟨rfl,rfl,rfl⟩,trivial⟩).2 ix,trivial⟩).mono ?_
   rintro e w' ⟨v,rfl,h1,h2⟩
   have h1:v= .bool _:=h1
   subst h1
   exact⟨by simp[Rq.sh,c0,c1],h2⟩
 ·refine(cRn (ρ:=frs (sL x0)++([.val (.bool x0.s),.dig x0.L x0.p,.dig x0.N x0.q,.val (.int .i64 ((x0.L:Nat):Int))]:List Vp)) (args:=[cY [0]]) (vs:=[vx]) (r:=.v (.one (.b false)))
   (ag)
   (ac (pi (n:=1) (m:=3) (t:=22) ⟨_,Tryd.underlying22⟩ rfl rfl) (ac (ph (n:=3) (c:=4) (b:=false) (t:=3) rfl (pw c0)) (ah))) Tryd.func7 (by kernel_rfl) ⟨(aE (ns:=[0]) (rs:=[x0]) ⟨⟨rfl,rfl,rfl⟩,trivial⟩).2 ix,trivial⟩).mono ?_
  rintro e w' ⟨v,rfl,h1,h2⟩
  have h1:v= .bool _:=h1
  subst h1
  exact⟨by simp[Rq.sh,c0],h2⟩
theorem bf {xs:List Fq} {ys:Rho} {nx:List Nat} {x0:Rq} {d:Bool} (ax:AtR (frs xs++ys) nx [x0]) (hd:(x0.sh)=d):OkI xs ys ⟨7,[cY nx],.v (.one (.b d))⟩:=
 ⟨ai Tryd.func7 rfl rfl,fun B w vs hB h=>by
  match vs,h with
  | [vx],h=>
   refine(uW vx x0 w ((aE ax).1 h.1)).mono ?_
   rintro e w' ⟨rfl,h2⟩
   exact⟨_,rfl,by subst hd;rfl,h2⟩⟩
def sM (x0:Rq):List Fq:=[]
def sN (x0:Rq):List Fq:=[]
def sO (x0:Rq):List Fq:=[]
theorem uX (vx:Value) (x0:Rq) (w:World) (ix:IsL w vx [x0]):Calls Tryd.prog 28 #[vx] w fun e w'=>bE w (.bool (x0.sm)) e w':=by
 rcases Bool.eq_false_or_eq_true (x0.sh)with c0 | c0
 ·rcases Bool.eq_false_or_eq_true (x0.vld)with c1 | c1
  ·refine(cRn (ρ:=frs (sM x0)++([.val (.bool x0.s),.dig x0.L x0.p,.dig x0.N x0.q]:List Vp)) (args:=[cY [0]]) (vs:=[vx]) (r:=.v (.one (.b true)))
    (ae (bf (nx:=[0]) ⟨⟨rfl,rfl,rfl⟩,trivial⟩ c0) (ae (ci (n:=0) (r:=x0) (d:=true) ⟨⟨rfl,rfl,rfl⟩,trivial⟩ c1 (dV c0) (dW c0)) ag))
    ah Tryd.func28 (by kernel_rfl) ⟨(aE (ns:=[0]) (rs:=[x0]) ⟨⟨rfl,rfl,rfl⟩,trivial⟩).2 ix,trivial⟩).mono ?_
   rintro e w' ⟨v,rfl,h1,h2⟩
   have h1:v= .bool _:=h1
   subst h1
   exact⟨by simp[Rq.sm,c0,c1],h2⟩
  ·refine(cRn (ρ:=frs (sN x0)++([.val (.bool x0.s),.dig x0.L x0.p,.dig x0.N x0.q]:List Vp)) (args:=[cY [0]]) (vs:=[vx]) (r:=.v (.one (.b false)))
    (ae (bf (nx:=[0]) ⟨⟨rfl,rfl,rfl⟩,trivial⟩ c0) (ae (ci (n:=0) (r:=x0) (d:=false) ⟨⟨rfl,rfl,rfl⟩,trivial⟩ c1 (dV c0) (dW c0)) ag))
    ah Tryd.func28 (by kernel_rfl) ⟨(aE (ns:=[0]) (rs:=[x0]) ⟨⟨rfl,rfl,rfl⟩,trivial⟩).2 ix,trivial⟩).mono ?_
   rintro e w' ⟨v,rfl,h1,h2⟩
   have h1:v= .bool _:=h1
   subst h1
   exact⟨by simp[Rq.sm,c0,c1],h2⟩
 ·refine(cRn (ρ:=frs (sO x0)++([.val (.bool x0.s),.dig x0.L x0.p,.dig x0.N x0.q]:List Vp)) (args:=[cY [0]]) (vs:=[vx]) (r:=.v (.one (.b false)))
   (ae (bf (nx:=[0]) ⟨⟨rfl,rfl,rfl⟩,trivial⟩ c0) ag)
   ah Tryd.func28 (by kernel_rfl) ⟨(aE (ns:=[0]) (rs:=[x0]) ⟨⟨rfl,rfl,rfl⟩,trivial⟩).2 ix,trivial⟩).mono ?_
  rintro e w' ⟨v,rfl,h1,h2⟩
  have h1:v= .bool _:=h1
  subst h1
  exact⟨by simp[Rq.sm,c0],h2⟩
theorem dy {xs:List Fq} {ys:Rho} {nx:List Nat} {x0:Rq} {d:Bool} (ax:AtR (frs xs++ys) nx [x0]) (hd:(x0.sm)=d):OkI xs ys ⟨28,[cY nx],.v (.one (.b d))⟩:=
 ⟨ai Tryd.func28 rfl rfl,fun B w vs hB h=>by
  match vs,h with
  | [vx],h=>
   refine(uX vx x0 w ((aE ax).1 h.1)).mono ?_
   rintro e w' ⟨rfl,h2⟩
   exact⟨_,rfl,by subst hd;rfl,h2⟩⟩
def wJ (x0 x1 x2:Rq):List Fq:=[]
def wK (x0 x1 x2:Rq):List Fq:=[]
def wL (x0 x1 x2:Rq):List Fq:=[]
def wM (x0 x1 x2:Rq):List Fq:=[]
theorem yA (vx:Value) (x0 x1 x2:Rq) (w:World) (ix:IsL w vx [x0,x1,x2]):Calls Tryd.prog 14 #[vx] w fun e w'=>bE w (.bool (iw x0 x1 x2)) e w':=by
 rcases Bool.eq_false_or_eq_true (x0.sm)with c0 | c0
 ·rcases Bool.eq_false_or_eq_true (x1.sm)with c1 | c1
  ·rcases Bool.eq_false_or_eq_true (x2.sm)with c2 | c2
   ·refine(cRn (ρ:=frs (wJ x0 x1 x2)++([.val (.bool x0.s),.dig x0.L x0.p,.dig x0.N x0.q,.val (.bool x1.s),.dig x1.L x1.p,.dig x1.N x1.q,.val (.bool x2.s),.dig x2.L x2.p,.dig x2.N x2.q]:List Vp)) (args:=[cY [0,3,6]]) (vs:=[vx]) (r:=.v (.one (.b true)))
     (ae (dy (nx:=[0]) ⟨⟨rfl,rfl,rfl⟩,trivial⟩ c0) (ae (dy (nx:=[3]) ⟨⟨rfl,rfl,rfl⟩,trivial⟩ c1) (ae (dy (nx:=[6]) ⟨⟨rfl,rfl,rfl⟩,trivial⟩ c2) ag)))
     ah Tryd.func14 (by kernel_rfl) ⟨(aE (ns:=[0,3,6]) (rs:=[x0,x1,x2]) ⟨⟨rfl,rfl,rfl⟩,⟨rfl,rfl,rfl⟩,⟨rfl,rfl,rfl⟩,trivial⟩).2 ix,trivial⟩).mono ?_
    rintro e w' ⟨v,rfl,h1,h2⟩
    have h1:v= .bool _:=h1
    subst h1
    exact⟨by simp[iw,c0,c1,c2],h2⟩
   ·refine(cRn (ρ:=frs (wK x0 x1 x2)++([.val (.bool x0.s),.dig x0.L x0.p,.dig x0.N x0.q,.val (.bool x1.s),.dig x1.L x1.p,.dig x1.N x1.q,.val (.bool x2.s),.dig x2.L x2.p,.dig x2.N x2.q]:List Vp)) (args:=[cY [0,3,6]]) (vs:=[vx]) (r:=.v (.one (.b false)))
     (ae (dy (nx:=[0]) ⟨⟨rfl,rfl,rfl⟩,trivial⟩ c0) (ae (dy (nx:=[3]) ⟨⟨rfl,rfl,rfl⟩,trivial⟩ c1) (ae (dy (nx:=[6]) ⟨⟨rfl,rfl,rfl⟩,trivial⟩ c2) ag)))
     ah Tryd.func14 (by kernel_rfl) ⟨(aE (ns:=[0,3,6]) (rs:=[x0,x1,x2]) ⟨⟨rfl,rfl,rfl⟩,⟨rfl,rfl,rfl⟩,⟨rfl,rfl,rfl⟩,trivial⟩).2 ix,trivial⟩).mono ?_
    rintro e w' ⟨v,rfl,h1,h2⟩
    have h1:v= .bool _:=h1
    subst h1
    exact⟨by simp[iw,c0,c1,c2],h2⟩
  ·refine(cRn (ρ:=frs (wL x0 x1 x2)++([.val (.bool x0.s),.dig x0.L x0.p,.dig x0.N x0.q,.val (.bool x1.s),.dig x1.L x1.p,.dig x1.N x1.q,.val (.bool x2.s),.dig x2.L x2.p,.dig x2.N x2.q]:List Vp)) (args:=[cY [0,3,6]]) (vs:=[vx]) (r:=.v (.one (.b false)))
    (ae (dy (nx:=[0]) ⟨⟨rfl,rfl,rfl⟩,trivial⟩ c0) (ae (dy (nx:=[3]) ⟨⟨rfl,rfl,rfl⟩,trivial⟩ c1) ag))
    ah Tryd.func14 (by kernel_rfl) ⟨(aE (ns:=[0,3,6]) (rs:=[x0,x1,x2]) ⟨⟨rfl,rfl,rfl⟩,⟨rfl,rfl,rfl⟩,⟨rfl,rfl,rfl⟩,trivial⟩).2 ix,trivial⟩).mono ?_
   rintro e w' ⟨v,rfl,h1,h2⟩
   have h1:v= .bool _:=h1
   subst h1
   exact⟨by simp[iw,c0,c1],h2⟩
 ·refine(cRn (ρ:=frs (wM x0 x1 x2)++([.val (.bool x0.s),.dig x0.L x0.p,.dig x0.N x0.q,.val (.bool x1.s),.dig x1.L x1.p,.dig x1.N x1.q,.val (.bool x2.s),.dig x2.L x2.p,.dig x2.N x2.q]:List Vp)) (args:=[cY [0,3,6]]) (vs:=[vx]) (r:=.v (.one (.b false)))
   (ae (dy (nx:=[0]) ⟨⟨rfl,rfl,rfl⟩,trivial⟩ c0) ag)
   ah Tryd.func14 (by kernel_rfl) ⟨(aE (ns:=[0,3,6]) (rs:=[x0,x1,x2]) ⟨⟨rfl,rfl,rfl⟩,⟨rfl,rfl,rfl⟩,⟨rfl,rfl,rfl⟩,trivial⟩).2 ix,trivial⟩).mono ?_
  rintro e w' ⟨v,rfl,h1,h2⟩
  have h1:v= .bool _:=h1
  subst h1
  exact⟨by simp[iw,c0],h2⟩
theorem oc {xs:List Fq} {ys:Rho} {nx:List Nat} {x0 x1 x2:Rq} {d:Bool} (ax:AtR (frs xs++ys) nx [x0,x1,x2]) (hd:(iw x0 x1 x2)=d):OkI xs ys ⟨14,[cY nx],.v (.one (.b d))⟩:=
 ⟨ai Tryd.func14 rfl rfl,fun B w vs hB h=>by
  match vs,h with
  | [vx],h=>
   refine(yA vx x0 x1 x2 w ((aE ax).1 h.1)).mono ?_
   rintro e w' ⟨rfl,h2⟩
   exact⟨_,rfl,by subst hd;rfl,h2⟩⟩
end Go.Proofs.YtfhinmdhjlmikaaDoor
