/- The plain law of fractions: what they stand for (rational numbers), and the laws of a field, of the order, of Lerp and of Floor. The plain law of vectors of fractions. The plain law of rotations, in rational numbers: quaternions up to a factor, and how they turn vectors. The plain law of rotations, in fractions. The plain law of rotations: images, ways, from one vector to another. How large the parts of vectors and rotations become. Arms, facts about the examples, Same. Rows of fractions in memory: vectors, quaternions, arrays of fractions. An executor: fractions and rows of fractions. An executor: what the functions of package fraction and of the reference give. Vectors, by the executor. -/
import Derived.Test.YtfhinmdhjlmikaaGreatP10
namespace Go.Proofs.YtfhinmdhjlmikaaGreat
set_option linter.unusedSimpArgs false
set_option linter.unusedVariables false
set_option maxRecDepth 100000
open Go Go.Proofs
/-- The number that a fraction stands for. -/
def Fq.sg (s:Bool) (m:Nat):Int:=if s then -(m:Int)else m
def Fq.v (x:Fq):Rat:=mkRat (Fq.sg x.s x.p) x.q
theorem low_v {s:Bool} {m n:Nat} (h:n≠0):(Fq.low s m n).v=mkRat (Fq.sg s m) n:=by
 unfold Fq.v Fq.low
 simp only
 have hg:0<Nat.gcd m n:=Nat.gcd_pos_of_pos_right _ (Nat.pos_of_ne_zero h)
 have h1:Nat.gcd m n*ff m n=m:=Nat.mul_div_cancel' (Nat.gcd_dvd_left _ _)
 have h2:Nat.gcd m n*fB m n=n:=Nat.mul_div_cancel' (Nat.gcd_dvd_right _ _)
 have h3:fB m n≠0:=by intro h3;rw[h3,Nat.mul_zero]at h2;exact h h2.symm
 rw[Rat.mkRat_eq_iff h3 h]
 have hs:Fq.sg (dR s m) (ff m n)=Fq.sg s (ff m n):=by
  unfold dR Fq.sg
  by_cases hm:m=0
  ·subst hm;simp[ff]
  ·simp[hm]
 rw[hs]
 generalize hP:ff m n=P at *
 generalize hQ:fB m n=R at *
 generalize Nat.gcd m n=g at *
 subst h1;subst h2
 unfold Fq.sg
 cases s<;>simp only[Bool.false_eq_true,if_true,if_false]<;>grind
theorem jL {s:Bool} {m n:Nat} (h:n≠0):(Fq.low s m n).valid=true:=by
 unfold Fq.valid
 have hg:0<Nat.gcd m n:=Nat.gcd_pos_of_pos_right _ (Nat.pos_of_ne_zero h)
 have h1:Nat.gcd m n*ff m n=m:=Nat.mul_div_cancel' (Nat.gcd_dvd_left _ _)
 have h2:Nat.gcd m n*fB m n=n:=Nat.mul_div_cancel' (Nat.gcd_dvd_right _ _)
 refine decide_eq_true ⟨?_,?_,?_⟩
 ·show fB m n≠0
  intro h3;rw[h3,Nat.mul_zero]at h2;exact h h2.symm
 ·show¬(dR s m=true∧ff m n=0)
  rintro⟨h3,h4⟩
  rw[h4,Nat.mul_zero]at h1
  rw[←h1]at h3;simp[dR]at h3
 ·exact Nat.coprime_div_gcd_div_gcd hg
theorem Fq.valid.n {x:Fq} (h:x.valid=true):x.q≠0:=(of_decide_eq_true h).1
theorem Fq.valid.s {x:Fq} (h:x.valid=true):¬(x.s=true∧x.p=0):=(of_decide_eq_true h).2.1
theorem Fq.valid.g {x:Fq} (h:x.valid=true):Nat.gcd x.p x.q=1:=(of_decide_eq_true h).2.2
theorem ri (s:Bool) (m:Nat):(Fq.sg s m).natAbs=m:=by unfold Fq.sg;cases s<;>simp
theorem sg_neg {s:Bool} {m:Nat} (h:¬(s=true∧m=0)):decide (Fq.sg s m<0)=s:=by
 unfold Fq.sg
 cases s
 ·simp
 ·simp at h⊢;omega
theorem v_num {x:Fq} (h:x.valid=true):x.v.num=Fq.sg x.s x.p∧x.v.den=x.q:=by
 have hn:=Fq.valid.n h
 have hc:(Fq.sg x.s x.p).natAbs.Coprime x.q:=by rw[ri];exact Fq.valid.g h
 have e:x.v=Rat.mk' (Fq.sg x.s x.p) x.q hn hc:=(Rat.mk_eq_mkRat _ _ hn hc).symm
 rw[e];exact⟨rfl,rfl⟩
/-- Valid fractions of one value are one. -/
theorem m8 {x y:Fq} (hx:x.valid=true) (hy:y.valid=true) (h:x.v=y.v):x=y:=by
 obtain⟨a1,a2⟩:=v_num hx
 obtain⟨b1,b2⟩:=v_num hy
 rw[h]at a1 a2
 have e1:Fq.sg x.s x.p=Fq.sg y.s y.p:=a1.symm.trans b1
 have ep:x.p=y.p:=by rw[←ri x.s x.p,e1,ri]
 have es:x.s=y.s:=by rw[←sg_neg (Fq.valid.s hx),e1,sg_neg (Fq.valid.s hy)]
 have eq:x.q=y.q:=a2.symm.trans b2
 cases x;cases y;simp only at *;subst ep;subst es;subst eq;rfl
theorem sg_add (s s':Bool) (X Y:Nat):Fq.sg (dm s s' X Y) (di s s' X Y)=Fq.sg s X+Fq.sg s' Y:=by
 unfold Fq.sg dm di
 by_cases h:s=s'
 ·subst h;simp only[if_true];cases s<;>simp<;>omega
 ·simp only[h,if_false]
  by_cases hl:Y≤X
  ·simp only[hl,if_true];cases s<;>cases s'<;>simp at h⊢ <;>omega
  ·simp only[hl,if_false];cases s<;>cases s'<;>simp at h⊢ <;>omega
theorem sg_mul (s s':Bool) (X Y:Nat):Fq.sg (s !=s') (X*Y)=Fq.sg s X*Fq.sg s' Y:=by
 unfold Fq.sg
 cases s<;>cases s'<;>simp<;>grind
theorem xQ (s:Bool) (X Y:Nat):Fq.sg s (X*Y)=Fq.sg s X*(Y:Int):=by
 unfold Fq.sg
 cases s<;>simp<;>grind
theorem v_add {x y:Fq} (hx:x.q≠0) (hy:y.q≠0):(x.add y).v=x.v+y.v:=by
 unfold Fq.add
 rw[low_v (Nat.mul_ne_zero hx hy),sg_add,xQ,xQ]
 unfold Fq.v
 rw[Rat.mkRat_add_mkRat _ _ hx hy]
theorem v_mul {x y:Fq} (hx:x.q≠0) (hy:y.q≠0):(x.mul y).v=x.v*y.v:=by
 unfold Fq.mul
 rw[low_v (Nat.mul_ne_zero hx hy),sg_mul]
 unfold Fq.v
 rw[Rat.mkRat_mul_mkRat]
theorem tx {x:Fq}:x.neg.v= -x.v:=by
 unfold Fq.neg Fq.v
 simp only
 rw[Rat.neg_mkRat]
 congr 1
 unfold Fq.sg dR
 by_cases h:x.p=0
 ·rw[h];simp
 ·simp only[h,decide_false,Bool.not_false,Bool.and_true];cases x.s<;>simp
theorem eR {x:Fq} (h:x.valid=true):x.neg.valid=true:=by
 have h1:=Fq.valid.n h
 have h2:=Fq.valid.g h
 refine decide_eq_true ⟨h1,?_,h2⟩
 show¬(dR (!x.s) x.p=true∧x.p=0)
 rintro⟨h1,h2⟩;rw[h2]at h1;simp[dR]at h1
theorem v_sub {x y:Fq} (hx:x.q≠0) (hy:y.q≠0):(x.sub y).v=x.v - y.v:=by
 unfold Fq.sub
 rw[v_add hx (show y.neg.q≠0 from hy),tx,Rat.sub_eq_add_neg]
theorem v_eq0 {x:Fq} (hx:x.q≠0):x.v=0↔x.p=0:=by
 unfold Fq.v
 rw[Rat.mkRat_eq_zero hx]
 have:=ri x.s x.p
 constructor<;>intro h
 ·rw[h]at this;exact this.symm
 ·unfold Fq.sg;rw[h];simp
theorem v_div {x y:Fq} (hx:x.q≠0) (hy:y.q≠0) (h0:y.p≠0):(x.div y).v=x.v / y.v:=by
 have hne:y.v≠0:=fun h=>h0 ((v_eq0 hy).1 h)
 have hm:(x.div y).v*y.v=x.v:=by
  unfold Fq.div
  rw[low_v (Nat.mul_ne_zero hx h0)]
  unfold Fq.v
  rw[Rat.mkRat_mul_mkRat,Rat.mkRat_eq_iff (Nat.mul_ne_zero (Nat.mul_ne_zero hx h0) hy) hx]
  unfold Fq.sg
  cases x.s<;>cases y.s<;>simp<;>grind
 rw[←hm,Rat.div_def,Rat.mul_assoc,Rat.mul_inv_cancel _ hne,Rat.mul_one]
theorem nO (n:Int):(Fq.ofInt n).v=(n:Rat):=by
 unfold Fq.ofInt Fq.v
 simp only
 rw[Rat.mkRat_one]
 congr 1
 unfold Fq.sg
 by_cases h:n<0
 ·simp[h];omega
 ·simp[h];omega
theorem aW (n:Int):(Fq.ofInt n).valid=true:=by
 refine decide_eq_true ⟨Nat.one_ne_zero,?_,Nat.gcd_one_right _⟩
 show¬(decide (n<0)=true∧n.natAbs=0)
 rintro⟨h1,h2⟩;have:=of_decide_eq_true h1;omega
theorem yY {x:Fq} (hx:x.valid=true):(x.v<0∧x.sgn= -1)∨(x.v=0∧x.sgn=0)∨(0<x.v∧x.sgn=1):=by
 have hn:=(v_num hx).1
 have h0:=v_eq0 (Fq.valid.n hx)
 have hs:=Fq.valid.s hx
 by_cases hp:x.p=0
 ·exact Or.inr (Or.inl ⟨h0.2 hp,by unfold Fq.sgn;rw[if_pos hp]⟩)
 ·have hne:x.v≠0:=fun h=>hp (h0.1 h)
  rcases Bool.eq_false_or_eq_true x.s with h | h
  ·refine Or.inl ⟨?_,by unfold Fq.sgn;rw[if_neg hp,if_pos h]⟩
   have h1:¬(0≤x.v):=by rw[←Rat.num_nonneg,hn,h];unfold Fq.sg;simp;omega
   exact Rat.not_le.1 h1
  ·refine Or.inr (Or.inr ⟨?_,by unfold Fq.sgn;rw[if_neg hp,h];rfl⟩)
   have h1:0≤x.v:=by rw[←Rat.num_nonneg,hn,h];unfold Fq.sg;simp
   grind
theorem eh {x y:Fq} (hx:x.valid=true) (hy:y.valid=true):(x.add y).valid=true:=jL (Nat.mul_ne_zero (Fq.valid.n hx) (Fq.valid.n hy))
theorem ba {x y:Fq} (hx:x.valid=true) (hy:y.valid=true):(x.mul y).valid=true:=jL (Nat.mul_ne_zero (Fq.valid.n hx) (Fq.valid.n hy))
theorem dP {x y:Fq} (hx:x.valid=true) (hy:y.valid=true):(x.sub y).valid=true:=eh hx (eR hy)
theorem gV {x y:Fq} (hx:x.valid=true) (h0:y.p≠0):(x.div y).valid=true:=jL (Nat.mul_ne_zero (Fq.valid.n hx) h0)
theorem v_a {x y:Fq} (hx:x.valid=true) (hy:y.valid=true):(x.add y).v=x.v+y.v:=v_add (Fq.valid.n hx) (Fq.valid.n hy)
theorem v_m {x y:Fq} (hx:x.valid=true) (hy:y.valid=true):(x.mul y).v=x.v*y.v:=v_mul (Fq.valid.n hx) (Fq.valid.n hy)
theorem v_s {x y:Fq} (hx:x.valid=true) (hy:y.valid=true):(x.sub y).v=x.v - y.v:=v_sub (Fq.valid.n hx) (Fq.valid.n hy)
theorem qp {x y:Fq} (hx:x.valid=true) (hy:y.valid=true):(x.v<y.v∧x.cmp y= -1)∨(x.v=y.v∧x.cmp y=0)∨(y.v<x.v∧x.cmp y=1):=by
 unfold Fq.cmp
 rcases yY (dP hx hy)with⟨h1,h2⟩ | ⟨h1,h2⟩ | ⟨h1,h2⟩<;>rw[v_s hx hy]at h1
 ·exact Or.inl ⟨by grind,h2⟩
 ·exact Or.inr (Or.inl ⟨by grind,h2⟩)
 ·exact Or.inr (Or.inr ⟨by grind,h2⟩)
section
variable {a b c t:Fq} (ha:a.valid=true) (hb:b.valid=true) (hc:c.valid=true) (ht:t.valid=true)
include ha hb
include hc
end
section
variable {a b t:Fq} (ha:a.valid=true) (hb:b.valid=true) (ht:t.valid=true)
include ha
include hb
theorem bX:a.cmp b=0↔a=b:=by
 constructor
 ·intro h;rcases qp ha hb with⟨p1,p2⟩ | ⟨p1,p2⟩ | ⟨p1,p2⟩<;>first | omega | exact m8 ha hb p1
 ·rintro rfl;rcases qp ha hb with⟨p1,p2⟩ | ⟨p1,p2⟩ | ⟨p1,p2⟩<;>first | exact p2 | grind
include ht
end
end Go.Proofs.YtfhinmdhjlmikaaGreat
namespace Go.Proofs.YtfhinmdhjlmikaaGreat
set_option linter.unusedSimpArgs false
set_option linter.unusedVariables false
set_option maxRecDepth 100000
open Go.RowKit
/-- A vector of fractions. -/
structure Vq where
 x:Fq
 y:Fq
 z:Fq
def Vq.add (a b:Vq):Vq:=⟨a.x.add b.x,a.y.add b.y,a.z.add b.z⟩
def Vq.sub (a b:Vq):Vq:=⟨a.x.sub b.x,a.y.sub b.y,a.z.sub b.z⟩
def Vq.scale (a:Vq) (k:Fq):Vq:=⟨a.x.mul k,a.y.mul k,a.z.mul k⟩
def Vq.dot (a b:Vq):Fq:=(a.x.mul b.x).add ((a.y.mul b.y).add (a.z.mul b.z))
def Vq.cross (a b:Vq):Vq:=⟨(a.y.mul b.z).sub (a.z.mul b.y),(a.z.mul b.x).sub (a.x.mul b.z),(a.x.mul b.y).sub (a.y.mul b.x)⟩
def Vq.lerp (a b:Vq) (t:Fq):Vq:=a.add ((b.sub a).scale t)
def Vq.of (x y z:Int):Vq:=⟨.ofInt x,.ofInt y,.ofInt z⟩
structure Vq.good (a:Vq):Prop where
 x:a.x.valid=true
 y:a.y.valid=true
 z:a.z.valid=true
section
variable {a b c:Vq} {k t:Fq}
theorem Vq.good.add (ha:a.good) (hb:b.good):(a.add b).good:=⟨eh ha.x hb.x,eh ha.y hb.y,eh ha.z hb.z⟩
theorem Vq.good.sub (ha:a.good) (hb:b.good):(a.sub b).good:=⟨dP ha.x hb.x,dP ha.y hb.y,dP ha.z hb.z⟩
theorem Vq.good.scale (ha:a.good) (hk:k.valid=true):(a.scale k).good:=⟨ba ha.x hk,ba ha.y hk,ba ha.z hk⟩
theorem Vq.good.cross (ha:a.good) (hb:b.good):(a.cross b).good:=⟨dP (ba ha.y hb.z) (ba ha.z hb.y),dP (ba ha.z hb.x) (ba ha.x hb.z),dP (ba ha.x hb.y) (ba ha.y hb.x)⟩
theorem Vq.good.lerp (ha:a.good) (hb:b.good) (ht:t.valid=true):(a.lerp b t).good:=ha.add ((hb.sub ha).scale ht)
theorem Vq.good.of (x y z:Int):(Vq.of x y z).good:=⟨aW x,aW y,aW z⟩
theorem fM (ha:a.good) (hb:b.good):(a.dot b).valid=true:=eh (ba ha.x hb.x) (eh (ba ha.y hb.y) (ba ha.z hb.z))
theorem dot_v (ha:a.good) (hb:b.good):(a.dot b).v=a.x.v*b.x.v+(a.y.v*b.y.v+a.z.v*b.z.v):=by
 unfold Vq.dot
 rw[v_a (ba ha.x hb.x) (eh (ba ha.y hb.y) (ba ha.z hb.z)),v_a (ba ha.y hb.y) (ba ha.z hb.z),v_m ha.x hb.x,v_m ha.y hb.y,v_m ha.z hb.z]
theorem add_v (ha:a.good) (hb:b.good):(a.add b).x.v=a.x.v+b.x.v∧(a.add b).y.v=a.y.v+b.y.v∧(a.add b).z.v=a.z.v+b.z.v:=⟨v_a ha.x hb.x,v_a ha.y hb.y,v_a ha.z hb.z⟩
theorem rj (ha:a.good) (hk:k.valid=true):(a.scale k).x.v=a.x.v*k.v∧(a.scale k).y.v=a.y.v*k.v∧(a.scale k).z.v=a.z.v*k.v:=⟨v_m ha.x hk,v_m ha.y hk,v_m ha.z hk⟩
theorem cross_v (ha:a.good) (hb:b.good):(a.cross b).x.v=a.y.v*b.z.v - a.z.v*b.y.v∧(a.cross b).y.v=a.z.v*b.x.v - a.x.v*b.z.v∧(a.cross b).z.v=a.x.v*b.y.v - a.y.v*b.x.v:=by
 unfold Vq.cross
 refine⟨?_,?_,?_⟩
 ·rw[v_s (ba ha.y hb.z) (ba ha.z hb.y),v_m ha.y hb.z,v_m ha.z hb.y]
 ·rw[v_s (ba ha.z hb.x) (ba ha.x hb.z),v_m ha.z hb.x,v_m ha.x hb.z]
 ·rw[v_s (ba ha.x hb.y) (ba ha.y hb.x),v_m ha.x hb.y,v_m ha.y hb.x]
theorem Vq.inj (ha:a.good) (hb:b.good) (hx:a.x.v=b.x.v) (hy:a.y.v=b.y.v) (hz:a.z.v=b.z.v):a=b:=by
 have e1:=m8 ha.x hb.x hx
 have e2:=m8 ha.y hb.y hy
 have e3:=m8 ha.z hb.z hz
 cases a;cases b;simp only at e1 e2 e3;subst e1;subst e2;subst e3;rfl
end
end Go.Proofs.YtfhinmdhjlmikaaGreat
namespace Go.Proofs.YtfhinmdhjlmikaaGreat
set_option linter.unusedSimpArgs false
set_option linter.unusedVariables false
set_option maxRecDepth 100000
open Go.RowKit
/-- A quaternion, a vector of rational numbers. -/
@[ext] structure QR where
 w:Rat
 x:Rat
 y:Rat
 z:Rat
@[ext] structure VR where
 x:Rat
 y:Rat
 z:Rat
def QR.nrm (a:QR):Rat:=a.w*a.w+(a.x*a.x+(a.y*a.y+a.z*a.z))
def QR.mul (p q:QR):QR:=⟨p.w*q.w - (p.x*q.x+(p.y*q.y+p.z*q.z)),q.x*p.w+p.x*q.w+(p.y*q.z - p.z*q.y),q.y*p.w+p.y*q.w+(p.z*q.x - p.x*q.z),q.z*p.w+p.z*q.w+(p.x*q.y - p.y*q.x)⟩
def QR.conj (a:QR):QR:=⟨a.w, -a.x, -a.y, -a.z⟩
def QR.smul (k:Rat) (a:QR):QR:=⟨k*a.w,k*a.x,k*a.y,k*a.z⟩
def QR.one:QR:=⟨1,0,0,0⟩
/-- Equal up to a factor. -/
def Sim (a b:QR):Prop:=∃k:Rat,k≠0∧b=QR.smul k a
/-- The image, times the square of the length. -/
def QR.rot (q:QR) (v:VR):VR:=
 ⟨(q.w*q.w - (q.x*q.x+(q.y*q.y+q.z*q.z)))*v.x+(2*(q.x*v.x+(q.y*v.y+q.z*v.z)))*q.x+(2*q.w)*(q.y*v.z - q.z*v.y),
  (q.w*q.w - (q.x*q.x+(q.y*q.y+q.z*q.z)))*v.y+(2*(q.x*v.x+(q.y*v.y+q.z*v.z)))*q.y+(2*q.w)*(q.z*v.x - q.x*v.z),
  (q.w*q.w - (q.x*q.x+(q.y*q.y+q.z*q.z)))*v.z+(2*(q.x*v.x+(q.y*v.y+q.z*v.z)))*q.z+(2*q.w)*(q.x*v.y - q.y*v.x)⟩
def VR.smul (k:Rat) (v:VR):VR:=⟨k*v.x,k*v.y,k*v.z⟩
def VR.dot (a b:VR):Rat:=a.x*b.x+(a.y*b.y+a.z*b.z)
def QR.app (q:QR) (v:VR):VR:=(q.rot v).smul (q.nrm)⁻¹
theorem iE (r:Rat):0≤r*r:=by
 rcases Rat.le_total (a:=0) (b:=r)with h | h
 ·exact Rat.mul_nonneg h h
 ·have:=Rat.mul_nonneg (show 0≤ -r by grind) (show 0≤ -r by grind);grind
theorem nrm_zero {a:QR}:a.nrm=0↔a.w=0∧a.x=0∧a.y=0∧a.z=0:=by
 unfold QR.nrm
 have h1:=iE a.w
 have h2:=iE a.x
 have h3:=iE a.y
 have h4:=iE a.z
 constructor
 ·intro h
  have e1:a.w*a.w=0:=by grind
  have e2:a.x*a.x=0:=by grind
  have e3:a.y*a.y=0:=by grind
  have e4:a.z*a.z=0:=by grind
  exact⟨by grind,by grind,by grind,by grind⟩
 ·rintro⟨e1,e2,e3,e4⟩
  rw[e1,e2,e3,e4];grind
theorem nrm_mul (p q:QR):(p.mul q).nrm=p.nrm*q.nrm:=by
 unfold QR.nrm QR.mul;grind
theorem nrm_conj (p:QR):p.conj.nrm=p.nrm:=by unfold QR.nrm QR.conj;grind
theorem nrm_smul (k:Rat) (p:QR):(QR.smul k p).nrm=k*k*p.nrm:=by unfold QR.nrm QR.smul;grind
theorem mB {a b:Rat} (ha:a≠0) (hb:b≠0):a*b≠0:=fun h=>by rcases Rat.mul_eq_zero.1 h with h | h;exact ha h;exact hb h
theorem Sim.refl (a:QR):Sim a a:=⟨1,by decide,by unfold QR.smul;ext<;>simp only<;>grind⟩
theorem Sim.symm {a b:QR} (h:Sim a b):Sim b a:=by
 obtain⟨k,hk,rfl⟩:=h
 refine⟨k⁻¹,fun h=>by have h1:=Rat.inv_mul_cancel k hk;rw[h]at h1;grind,?_⟩
 have:=Rat.inv_mul_cancel k hk
 unfold QR.smul;ext<;>simp only<;>grind
theorem Sim.trans {a b c:QR} (h:Sim a b) (h2:Sim b c):Sim a c:=by
 obtain⟨k,hk,rfl⟩:=h
 obtain⟨l,hl,rfl⟩:=h2
 exact⟨l*k,mB hl hk,by unfold QR.smul;ext<;>simp only<;>grind⟩
theorem Sim.mul {a a' b b':QR} (h:Sim a a') (h2:Sim b b'):Sim (a.mul b) (a'.mul b'):=by
 obtain⟨k,hk,rfl⟩:=h
 obtain⟨l,hl,rfl⟩:=h2
 exact⟨k*l,mB hk hl,by unfold QR.smul QR.mul;ext<;>simp only<;>grind⟩
theorem Sim.conj {a b:QR} (h:Sim a b):Sim a.conj b.conj:=by
 obtain⟨k,hk,rfl⟩:=h
 exact⟨k,hk,by unfold QR.smul QR.conj;ext<;>simp only<;>grind⟩
theorem Sim.nrm {a b:QR} (h:Sim a b) (ha:a.nrm≠0):b.nrm≠0:=by
 obtain⟨k,hk,rfl⟩:=h
 rw[nrm_smul];exact mB (mB hk hk) ha
end Go.Proofs.YtfhinmdhjlmikaaGreat
namespace Go.Proofs.YtfhinmdhjlmikaaGreat
set_option linter.unusedSimpArgs false
set_option linter.unusedVariables false
set_option maxRecDepth 100000
open Go.RowKit
/-- A quaternion of fractions. -/
structure Qq where
 w:Fq
 x:Fq
 y:Fq
 z:Fq
def Qq.r (q:Qq):QR:=⟨q.w.v,q.x.v,q.y.v,q.z.v⟩
def Qq.axis (q:Qq):Vq:=⟨q.x,q.y,q.z⟩
def Vq.r (a:Vq):VR:=⟨a.x.v,a.y.v,a.z.v⟩
structure Qq.comp (q:Qq):Prop where
 w:q.w.valid=true
 x:q.x.valid=true
 y:q.y.valid=true
 z:q.z.valid=true
theorem Qq.comp.axis {q:Qq} (h:q.comp):q.axis.good:=⟨h.x,h.y,h.z⟩
/-- The first component that is not zero. -/
def Qq.first (q:Qq):Fq:=if q.w.p≠0 then q.w else if q.x.p≠0 then q.x else if q.y.p≠0 then q.y else q.z
def Qq.over (q:Qq) (n:Fq):Qq:=⟨q.w.div n,q.x.div n,q.y.div n,q.z.div n⟩
def Qq.zero:Qq:=⟨.zero,.zero,.zero,.zero⟩
/-- What Make returns. -/
def Qq.canon (q:Qq):Qq:=if q.first.p=0 then .zero else q.over q.first
structure Qq.good (q:Qq):Prop where
 comp:q.comp
 one:q.first.v=1
def Qq.id:Qq:=⟨.ofInt 1,.ofInt 0,.ofInt 0,.ofInt 0⟩
section
variable {p q:Qq}
theorem Qq.comp.first (h:q.comp):q.first.valid=true:=by
 unfold Qq.first
 split
 ·exact h.w
 ·split
  ·exact h.x
  ·split
   ·exact h.y
   ·exact h.z
theorem Qq.comp.over (h:q.comp) {n:Fq} (hn:n.p≠0):(q.over n).comp:=⟨gV h.w hn,gV h.x hn,gV h.y hn,gV h.z hn⟩
theorem xR {a n:Fq} (ha:a.valid=true) (hn:n.valid=true) (h0:n.p≠0):(a.div n).v=a.v / n.v:=v_div (Fq.valid.n ha) (Fq.valid.n hn) h0
theorem p_v {a:Fq} (ha:a.valid=true):a.v=0↔a.p=0:=v_eq0 (Fq.valid.n ha)
theorem over_r (h:q.comp) {n:Fq} (hn:n.valid=true) (h0:n.p≠0):(q.over n).r=QR.smul (n.v)⁻¹ q.r:=by
 unfold Qq.r Qq.over QR.smul
 simp only
 rw[xR h.w hn h0,xR h.x hn h0,xR h.y hn h0,xR h.z hn h0]
 ext<;>simp only[Rat.div_def]<;>grind
theorem oP (h:q.comp):q.first.p≠0↔q.r.nrm≠0:=by
 rw[show(q.r.nrm≠0)↔_ from not_congr nrm_zero]
 unfold Qq.r Qq.first
 simp only
 have h1:=p_v h.w
 have h2:=p_v h.x
 have h3:=p_v h.y
 have h4:=p_v h.z
 by_cases c1:q.w.p=0
 ·rw[if_neg (by simpa using c1)]
  by_cases c2:q.x.p=0
  ·rw[if_neg (by simpa using c2)]
   by_cases c3:q.y.p=0
   ·rw[if_neg (by simpa using c3)]
    constructor
    ·intro c h;exact c (h4.1 h.2.2.2)
    ·intro c h;exact c ⟨h1.2 c1,h2.2 c2,h3.2 c3,h4.2 h⟩
   ·rw[if_pos c3];exact⟨fun _ h=>c3 (h3.1 h.2.2.1),fun _=>c3⟩
  ·rw[if_pos c2];exact⟨fun _ h=>c2 (h2.1 h.2.1),fun _=>c2⟩
 ·rw[if_pos c1];exact⟨fun _ h=>c1 (h1.1 h.1),fun _=>c1⟩
theorem inv_ne {k:Rat} (hk:k≠0):k⁻¹≠0:=fun h=>by have h1:=Rat.inv_mul_cancel k hk;rw[h]at h1;grind
/-- The first component that is not zero, of rational numbers. -/
def QR.fst (a:QR):Rat:=if a.w≠0 then a.w else if a.x≠0 then a.x else if a.y≠0 then a.y else a.z
theorem xS (h:q.comp):q.first.v=q.r.fst:=by
 unfold Qq.first QR.fst Qq.r
 simp only
 have h1:=p_v h.w
 have h2:=p_v h.x
 have h3:=p_v h.y
 by_cases c1:q.w.p=0
 ·have d1:=h1.2 c1
  simp only[c1,d1,ne_eq,not_true_eq_false,if_false]
  by_cases c2:q.x.p=0
  ·have d2:=h2.2 c2
   simp only[c2,d2,not_true_eq_false,if_false]
   by_cases c3:q.y.p=0
   ·have d3:=h3.2 c3
    simp only[c3,d3,not_true_eq_false,if_false]
   ·have d3:¬q.y.v=0:=fun e=>c3 (h3.1 e)
    simp only[c3,d3,not_false_eq_true,if_true]
  ·have d2:¬q.x.v=0:=fun e=>c2 (h2.1 e)
   simp only[c2,d2,not_false_eq_true,if_true]
 ·have d1:¬q.w.v=0:=fun e=>c1 (h1.1 e)
  simp only[c1,d1,ne_eq,not_false_eq_true,if_true]
theorem fst_smul (k:Rat) (hk:k≠0) (a:QR):(QR.smul k a).fst=k*a.fst:=by
 unfold QR.fst QR.smul
 simp only
 have hz:∀r:Rat,k*r≠0↔r≠0:=fun r=>⟨fun h e=>h (by rw[e];grind),fun h=>mB hk h⟩
 by_cases c1:a.w≠0
 ·rw[if_pos ((hz _).2 c1),if_pos c1]
 ·rw[if_neg (fun h=>c1 ((hz _).1 h)),if_neg c1]
  by_cases c2:a.x≠0
  ·rw[if_pos ((hz _).2 c2),if_pos c2]
  ·rw[if_neg (fun h=>c2 ((hz _).1 h)),if_neg c2]
   by_cases c3:a.y≠0
   ·rw[if_pos ((hz _).2 c3),if_pos c3]
   ·rw[if_neg (fun h=>c3 ((hz _).1 h)),if_neg c3]
theorem eT (h:q.comp) (h0:q.first.p≠0):q.canon.good:=by
 have hc:q.canon.comp:=by unfold Qq.canon;rw[if_neg h0];exact h.over h0
 refine⟨hc,?_⟩
 have hn:q.first.v≠0:=fun e=>h0 ((p_v h.first).1 e)
 rw[xS hc]
 have e:q.canon.r=QR.smul (q.first.v)⁻¹ q.r:=by unfold Qq.canon;rw[if_neg h0];exact over_r h h.first h0
 rw[e,fst_smul _ (inv_ne hn),←xS h,Rat.inv_mul_cancel _ hn]
theorem lK (h:q.good):q.r.nrm≠0:=(oP h.comp).1 (fun e=>by have h1:=(p_v h.comp.first).2 e;rw[h.one]at h1;exact absurd h1 (by decide))
theorem id_good:Qq.id.good:=by
 refine⟨⟨aW 1,aW 0,aW 0,aW 0⟩,?_⟩
 have e:Qq.id.first=Fq.ofInt 1:=rfl
 rw[e,nO];rfl
/-- The product before it is made canonical. -/
def Qq.hamV (p q:Qq):Vq:=((q.axis.scale p.w).add (p.axis.scale q.w)).add (p.axis.cross q.axis)
def Qq.hamW (p q:Qq):Fq:=(p.w.mul q.w).sub (p.axis.dot q.axis)
def Qq.ham (p q:Qq):Qq:=⟨p.hamW q,(p.hamV q).x,(p.hamV q).y,(p.hamV q).z⟩
def Qq.mul (p q:Qq):Qq:=(p.ham q).canon
def Qq.inv (q:Qq):Qq:=(Qq.mk q.w (q.axis.scale (.ofInt (-1))).x (q.axis.scale (.ofInt (-1))).y (q.axis.scale (.ofInt (-1))).z).canon
def Qq.inv' (q:Qq):Qq:=(Qq.mk q.w q.x.neg q.y.neg q.z.neg).canon
theorem mC (hp:p.comp) (hq:q.comp):(p.hamV q).good:=((hq.axis.scale hp.w).add (hp.axis.scale hq.w)).add (hp.axis.cross hq.axis)
theorem tA (hp:p.comp) (hq:q.comp):(p.ham q).comp:=⟨dP (ba hp.w hq.w) (fM hp.axis hq.axis),(mC hp hq).x,(mC hp hq).y,(mC hp hq).z⟩
theorem ham_r (hp:p.comp) (hq:q.comp):(p.ham q).r=p.r.mul q.r:=by
 have h1:=v_s (ba hp.w hq.w) (fM hp.axis hq.axis)
 have h2:=v_m hp.w hq.w
 have h3:=dot_v hp.axis hq.axis
 have h4:=rj hq.axis hp.w
 have h5:=rj hp.axis hq.w
 have h6:=cross_v hp.axis hq.axis
 have h7:=add_v (hq.axis.scale hp.w) (hp.axis.scale hq.w)
 have h8:=add_v ((hq.axis.scale hp.w).add (hp.axis.scale hq.w)) (hp.axis.cross hq.axis)
 unfold Qq.ham Qq.r QR.mul
 simp only
 ext<;>simp only
 ·unfold Qq.hamW;rw[h1,h2,h3];rfl
 ·unfold Qq.hamV;rw[h8.1,h7.1,h4.1,h5.1,h6.1];rfl
 ·unfold Qq.hamV;rw[h8.2.1,h7.2.1,h4.2.1,h5.2.1,h6.2.1];rfl
 ·unfold Qq.hamV;rw[h8.2.2,h7.2.2,h4.2.2,h5.2.2,h6.2.2];rfl
theorem rk (hp:p.good) (hq:q.good):(p.ham q).first.p≠0:=by
 rw[oP (tA hp.comp hq.comp),ham_r hp.comp hq.comp,nrm_mul]
 exact mB (lK hp) (lK hq)
theorem gW (hp:p.good) (hq:q.good):(p.mul q).good:=eT (tA hp.comp hq.comp) (rk hp hq)
theorem vn (hq:q.comp):Qq.mk q.w (q.axis.scale (.ofInt (-1))).x (q.axis.scale (.ofInt (-1))).y (q.axis.scale (.ofInt (-1))).z=Qq.mk q.w q.x.neg q.y.neg q.z.neg:=by
 have h:=rj hq.axis (aW (-1))
 have hg:=hq.axis.scale (aW (-1))
 have h1:=nO (-1)
 rw[h1]at h
 have e1:=m8 hg.x (eR hq.x) (by rw[h.1,tx];show q.x.v*_=_;grind)
 have e2:=m8 hg.y (eR hq.y) (by rw[h.2.1,tx];show q.y.v*_=_;grind)
 have e3:=m8 hg.z (eR hq.z) (by rw[h.2.2,tx];show q.z.v*_=_;grind)
 rw[e1,e2,e3]
theorem tB (hq:q.comp):q.inv=q.inv':=by unfold Qq.inv Qq.inv';rw[vn hq]
theorem qq (hq:q.comp):(Qq.mk q.w q.x.neg q.y.neg q.z.neg).comp:=⟨hq.w,eR hq.x,eR hq.y,eR hq.z⟩
theorem conj_r:(Qq.mk q.w q.x.neg q.y.neg q.z.neg).r=q.r.conj:=by unfold Qq.r QR.conj;simp only[tx]
theorem nP (hq:q.good):(Qq.mk q.w q.x.neg q.y.neg q.z.neg).first.p≠0:=by rw[oP (qq hq.comp),conj_r,nrm_conj];exact lK hq
theorem bJ (hq:q.good):q.inv.good:=by rw[tB hq.comp];exact eT (qq hq.comp) (nP hq)
variable {a b c:Qq}
end
end Go.Proofs.YtfhinmdhjlmikaaGreat
namespace Go.Proofs.YtfhinmdhjlmikaaGreat
set_option linter.unusedSimpArgs false
set_option linter.unusedVariables false
set_option maxRecDepth 100000
open Go.RowKit
/-- The square of the length. -/
def Qq.nn (q:Qq):Fq:=(q.w.mul q.w).add (q.axis.dot q.axis)
def Qq.dd (q:Qq):Fq:=(q.w.mul q.w).sub (q.axis.dot q.axis)
def Qq.ap1 (q:Qq) (v:Vq):Vq:=v.scale q.dd
def Qq.ap2 (q:Qq) (v:Vq):Vq:=q.axis.scale ((Fq.ofInt 2).mul (q.axis.dot v))
def Qq.ap3 (q:Qq) (v:Vq):Vq:=(q.axis.cross v).scale ((Fq.ofInt 2).mul q.w)
def Qq.rat (q:Qq):Fq:=(Fq.ofInt 1).div q.nn
/-- The image: of the program, of the reference. -/
def Qq.app (q:Qq) (v:Vq):Vq:=(((q.ap1 v).add (q.ap2 v)).add (q.ap3 v)).scale q.rat
section
variable {p q d:Qq} {v x y a b:Vq} {t:Fq}
theorem nn_valid (h:q.comp):q.nn.valid=true:=eh (ba h.w h.w) (fM h.axis h.axis)
theorem dd_valid (h:q.comp):q.dd.valid=true:=dP (ba h.w h.w) (fM h.axis h.axis)
theorem nn_v (h:q.comp):q.nn.v=q.r.nrm:=by
 unfold Qq.nn
 rw[v_a (ba h.w h.w) (fM h.axis h.axis),v_m h.w h.w,dot_v h.axis h.axis];rfl
theorem nn_ne (h:q.good):q.nn.p≠0:=fun e=>lK h (by rw[←nn_v h.comp];exact(p_v (nn_valid h.comp)).2 e)
theorem ap1_good (h:q.comp) (hv:v.good):(q.ap1 v).good:=hv.scale (dd_valid h)
theorem ap2_good (h:q.comp) (hv:v.good):(q.ap2 v).good:=h.axis.scale (ba (aW 2) (fM h.axis hv))
theorem ap3_good (h:q.comp) (hv:v.good):(q.ap3 v).good:=(h.axis.cross hv).scale (ba (aW 2) h.w)
theorem yZ (h:q.good):q.rat.valid=true:=gV (aW 1) (nn_ne h)
theorem tC (h:q.good) (hv:v.good):(q.app v).good:=(((ap1_good h.comp hv).add (ap2_good h.comp hv)).add (ap3_good h.comp hv)).scale (yZ h)
/-- The rotation between, where the way is not half a turn. -/
def Qq.way (p d:Qq) (t:Fq):Qq:=p.mul (Qq.mk (.ofInt 1) (d.axis.scale t).x (d.axis.scale t).y (d.axis.scale t).z).canon
theorem jM (hd:d.comp) (ht:t.valid=true):(Qq.mk (.ofInt 1) (d.axis.scale t).x (d.axis.scale t).y (d.axis.scale t).z).comp:=
 ⟨aW 1,(hd.axis.scale ht).x,(hd.axis.scale ht).y,(hd.axis.scale ht).z⟩
theorem vv:(Qq.mk (.ofInt 1) (d.axis.scale t).x (d.axis.scale t).y (d.axis.scale t).z).first=Fq.ofInt 1:=rfl
theorem fG:(Qq.mk (.ofInt 1) (d.axis.scale t).x (d.axis.scale t).y (d.axis.scale t).z).first.p≠0:=by rw[vv];decide
theorem way_good (hp:p.good) (hd:d.comp) (ht:t.valid=true):(p.way d t).good:=gW hp (eT (jM hd ht) fG)
def Vq.turn (a b:Vq):Qq:=(Qq.mk ((a.dot a).add (a.dot b)) (a.cross b).x (a.cross b).y (a.cross b).z).canon
end
end Go.Proofs.YtfhinmdhjlmikaaGreat
namespace Go.Proofs.YtfhinmdhjlmikaaGreat
set_option linter.unusedSimpArgs false
set_option linter.unusedVariables false
set_option maxRecDepth 100000
open Go.RowKit
structure Vq.ok (d:Nat) (a:Vq):Prop where
 x:a.x.ok d
 y:a.y.ok d
 z:a.z.ok d
structure Qq.ok (d:Nat) (q:Qq):Prop where
 w:q.w.ok d
 x:q.x.ok d
 y:q.y.ok d
 z:q.z.ok d
section
variable {a b:Vq} {k:Fq} {p q:Qq} {d e f:Nat}
theorem Vq.ok.mono (h:a.ok d) (hd:d≤e):a.ok e:=⟨h.x.mono hd,h.y.mono hd,h.z.mono hd⟩
theorem Qq.ok.mono (h:q.ok d) (hd:d≤e):q.ok e:=⟨h.w.mono hd,h.x.mono hd,h.y.mono hd,h.z.mono hd⟩
theorem Qq.ok.axis (h:q.ok d):q.axis.ok d:=⟨h.x,h.y,h.z⟩
theorem Vq.ok.add (h:a.ok d) (k:b.ok e):(a.add b).ok (2*(d+e)+1):=⟨(h.x.add k.x).mono (by omega),(h.y.add k.y).mono (by omega),(h.z.add k.z).mono (by omega)⟩
theorem Vq.ok.sub (h:a.ok d) (k:b.ok e):(a.sub b).ok (2*(d+e)+1):=⟨(h.x.sub k.x).mono (by omega),(h.y.sub k.y).mono (by omega),(h.z.sub k.z).mono (by omega)⟩
theorem Vq.ok.scale (h:a.ok d) (hk:k.ok e):(a.scale k).ok (d+e):=⟨h.x.mul hk,h.y.mul hk,h.z.mul hk⟩
theorem Vq.ok.dot (h:a.ok d) (k:b.ok e):(a.dot b).ok (10*(d+e)+3):=((h.x.mul k.x).add ((h.y.mul k.y).add (h.z.mul k.z))).mono (by omega)
theorem Vq.ok.cross (h:a.ok d) (k:b.ok e):(a.cross b).ok (4*(d+e)+1):=⟨((h.y.mul k.z).sub (h.z.mul k.y)).mono (by omega),((h.z.mul k.x).sub (h.x.mul k.z)).mono (by omega),((h.x.mul k.y).sub (h.y.mul k.x)).mono (by omega)⟩
theorem Vq.ok.lerp (h:a.ok d) (k':b.ok e) (hk:k.ok f):(a.lerp b k).ok (2*(d+(2*(e+d)+1+f))+1):=h.add ((k'.sub h).scale hk)
theorem Qq.ok.first (h:q.ok d):q.first.ok d:=by
 unfold Qq.first
 split
 ·exact h.w
 ·split
  ·exact h.x
  ·split
   ·exact h.y
   ·exact h.z
theorem Qq.ok.over (h:q.ok d) {n:Fq} (hn:n.ok e) (h0:n.p≠0):(q.over n).ok (d+e):=⟨h.w.div hn h0,h.x.div hn h0,h.y.div hn h0,h.z.div hn h0⟩
theorem Qq.ok.canon (h:q.ok d) (h0:q.first.p≠0):q.canon.ok (d+d):=by unfold Qq.canon;rw[if_neg h0];exact h.over h.first h0
theorem Qq.ok.hamW (h:p.ok d) (k:q.ok e):(p.hamW q).ok (22*(d+e)+7):=((h.w.mul k.w).sub (h.axis.dot k.axis)).mono (by omega)
theorem Qq.ok.hamV (h:p.ok d) (k:q.ok e):(p.hamV q).ok (16*(d+e)+5):=(((k.axis.scale h.w).add (h.axis.scale k.w)).add (h.axis.cross k.axis)).mono (by omega)
theorem Qq.ok.ham (h:p.ok d) (k:q.ok e):(p.ham q).ok (22*(d+e)+7):=⟨h.hamW k,(h.hamV k).x.mono (by omega),(h.hamV k).y.mono (by omega),(h.hamV k).z.mono (by omega)⟩
theorem Qq.ok.mul (h:p.ok d) (k:q.ok e) (h0:(p.ham q).first.p≠0):(p.mul q).ok (44*(d+e)+14):=((h.ham k).canon h0).mono (by omega)
end
end Go.Proofs.YtfhinmdhjlmikaaGreat
namespace Go.Proofs.YtfhinmdhjlmikaaGreat
set_option linter.unusedSimpArgs false
set_option linter.unusedVariables false
set_option maxRecDepth 100000
open Go.RowKit
/-- A slice of length L. -/
def Sp.sl (L:Nat):Sp:=⟨fun _ v=>∃a c,v= .slice a L c,fun _ _ _ h _=>h⟩
section
variable {Q:Exit→Act→World→Prop} {o:Oper} {a:Act} {w:World} {x y:Operand} {g L p N q k:Nat} {s:Bool}
end
/-- Which fractions the laws look at. -/
def FitP (s:Bool) (L p N q:Nat):Prop:=L≤12∧N≤12∧nl p=L∧nl q=N∧(Fq.mk s p q).valid=true
theorem FitP.ok {s:Bool} {L p N q:Nat} (h:FitP s L p N q):(Fq.mk s p q).ok 12:=⟨by show nl p≤12;have:=h.1;have:=h.2.2.1;omega,by show nl q≤12;have:=h.2.1;have:=h.2.2.2.1;omega,(of_decide_eq_true h.2.2.2.2).1⟩
end Go.Proofs.YtfhinmdhjlmikaaGreat
namespace Go.Proofs.YtfhinmdhjlmikaaGreat
set_option linter.unusedSimpArgs false
set_option linter.unusedVariables false
set_option maxRecDepth 100000
open Go.RowKit
/-- A fraction of rows, leading zeros allowed. -/
structure Rq where
 s:Bool
 L:Nat
 p:Nat
 N:Nat
 q:Nat
def Fq.raw (x:Fq):Rq:=⟨x.s,nl x.p,x.p,nl x.q,x.q⟩
/-- The cells of a row of fractions. -/
def bR (w:World):List Rq→List Value→Prop
 | [],cs=>cs=[]
 | r::l,cs=>∃a c b d cs',cs= .bool r.s::.slice a r.L c::.slice b r.N d::cs'∧IsR w (.agg #[.slice a r.L c]) r.L r.p∧IsR w (.agg #[.slice b r.N d]) r.N r.q∧bR w l cs'
section
variable {w w':World} {g g':Nat} {l:List Rq} {cs:List Value} {T:TypeId}
theorem bR.mono (h:bR w l cs) (hb:Below w.heap.size w w'):bR w' l cs:=by
 induction l generalizing cs with
 | nil=>exact h
 | cons r l ih=>obtain⟨a,c,b,d,cs',e,h1,h2,h3⟩:=h;exact⟨a,c,b,d,cs',e,h1.mono hb,h2.mono hb,ih h3⟩
theorem bR.upd (h:bR w l cs) (o:Own w g) (u:Upd w g w'):bR w' l cs:=by
 induction l generalizing cs with
 | nil=>exact h
 | cons r l ih=>obtain⟨a,c,b,d,cs',e,h1,h2,h3⟩:=h;exact⟨a,c,b,d,cs',e,h1.upd o u,h2.upd o u,ih h3⟩
theorem bR.noInt (h:bR w l cs) (k:Nat) (n:Int):cs[k]? ≠some (Value.int .u32 n):=by
 induction l generalizing cs k with
 | nil=>have e:cs=[]:=h;rw[e];simp
 | cons r l ih=>
  obtain⟨a,c,b,d,cs',e,_,_,h3⟩:=h
  rw[e]
  match k with
  | 0=>intro h;cases h
  | 1=>intro h;cases h
  | 2=>intro h;cases h
  | k+3=>exact ih h3 k
theorem bR.length (h:bR w l cs):cs.length=3*l.length:=by
 induction l generalizing cs with
 | nil=>have e:cs=[]:=h;rw[e];rfl
 | cons r l ih=>obtain⟨a,c,b,d,cs',e,_,_,h3⟩:=h;have:=ih h3;rw[e];simp only[List.length_cons];omega
theorem bR.get (h:bR w l cs) {k:Nat} {r:Rq} (hk:l[k]? =some r):
  ∃a c b d,cs[3*k]? =some (.bool r.s)∧cs[3*k+1]? =some (.slice a r.L c)∧cs[3*k+2]? =some (.slice b r.N d)∧IsR w (.agg #[.slice a r.L c]) r.L r.p∧IsR w (.agg #[.slice b r.N d]) r.N r.q:=by
 induction l generalizing cs k with
 | nil=>cases hk
 | cons x l ih=>
  obtain⟨a,c,b,d,cs',e,h1,h2,h3⟩:=h
  rw[e]
  match k with
  | 0=>simp at hk;subst hk;exact⟨a,c,b,d,rfl,rfl,rfl,h1,h2⟩
  | k+1=>
   obtain⟨a',c',b',d',e0,e1,e2,i1,i2⟩:=ih h3 (k:=k) (by simpa using hk)
   exact⟨a',c',b',d',by simpa [Nat.mul_add]using e0,by simpa [Nat.mul_add]using e1,by simpa [Nat.mul_add]using e2,i1,i2⟩
/-- A part of a row is replaced. -/
theorem bR.set (h:bR w l cs) {k:Nat} {r:Rq} (hk:k<l.length) {a b:Option Addr} {c d:Nat} (h1:IsR w (.agg #[.slice a r.L c]) r.L r.p) (h2:IsR w (.agg #[.slice b r.N d]) r.N r.q):
  bR w (l.set k r) (((cs.set (3*k) (.bool r.s)).set (3*k+1) (.slice a r.L c)).set (3*k+2) (.slice b r.N d)):=by
 induction l generalizing cs k with
 | nil=>cases hk
 | cons x l ih=>
  obtain⟨a',c',b',d',cs',e,i1,i2,i3⟩:=h
  rw[e]
  match k with
  | 0=>exact⟨a,c,b,d,cs',rfl,h1,h2,i3⟩
  | k+1=>
   have:=ih i3 (k:=k) (by simpa using hk)
   exact⟨a',c',b',d',_,by simp[Nat.mul_add],i1,i2,this⟩
def IsL (w:World) (v:Value) (l:List Rq):Prop:=∃cs,v= .agg cs.toArray∧bR w l cs
def lL (T:TypeId) (w:World) (g:Nat) (l:List Rq):Prop:=∃cs,w.heap[g]? =some (.cells cs.toArray T (0,0))∧bR w l cs
theorem IsL.mono {v:Value} (h:IsL w v l) (hb:Below w.heap.size w w'):IsL w' v l:=by obtain⟨cs,e,h⟩:=h;exact⟨cs,e,h.mono hb⟩
theorem IsL.upd {v:Value} (h:IsL w v l) (o:Own w g) (u:Upd w g w'):IsL w' v l:=by obtain⟨cs,e,h⟩:=h;exact⟨cs,e,h.upd o u⟩
theorem lL.lt (h:lL T w g l):g<w.heap.size:=by obtain⟨_,h,_⟩:=h;exact(Array.getElem?_eq_some_iff.1 h).1
theorem lL.mono (h:lL T w g l) (hb:Below w.heap.size w w'):lL T w' g l:=by
 have hl:=h.lt
 obtain⟨cs,h0,h1⟩:=h;exact⟨cs,(hb.block g hl).trans h0,h1.mono hb⟩
theorem lL.upd (h:lL T w g' l) (o:Own w g) (u:Upd w g w') (hn:g'≠g):lL T w' g' l:=by
 obtain⟨cs,h0,h1⟩:=h;exact⟨cs,(u.block g' hn).trans h0,h1.upd o u⟩
theorem lL.own (h:lL T w g l):Own w g:=by
 obtain⟨cs,h0,h1⟩:=h
 exact⟨cs.toArray,T,h0,fun k n=>by rw[List.getElem?_toArray];exact h1.noInt k n⟩
theorem lL.get (h:lL T w g l) {k:Nat} {r:Rq} (hk:l[k]? =some r):
  ∃a c b d,w.cell? ⟨g,3*k,none⟩=some (.bool r.s)∧w.cell? ⟨g,3*k+1,none⟩=some (.slice a r.L c)∧w.cell? ⟨g,3*k+2,none⟩=some (.slice b r.N d)∧IsR w (.agg #[.slice a r.L c]) r.L r.p∧IsR w (.agg #[.slice b r.N d]) r.N r.q:=by
 obtain⟨cs,h0,h1⟩:=h
 obtain⟨a,c,b,d,e0,e1,e2,i1,i2⟩:=h1.get hk
 exact⟨a,c,b,d,by rw[cell_of_row w g _ _ _ (0,0) h0,List.getElem?_toArray];exact e0,by rw[cell_of_row w g _ _ _ (0,0) h0,List.getElem?_toArray];exact e1,by rw[cell_of_row w g _ _ _ (0,0) h0,List.getElem?_toArray];exact e2,i1,i2⟩
theorem lL.frozen (h:lL T w g l) (j:Nat):w.frozen? ⟨g,j,none⟩=false:=by obtain⟨cs,h0,_⟩:=h;exact frozen_of_row w g j _ _ h0
end
section
variable {Q:Exit→Act→World→Prop} {o:Oper} {a:Act} {w:World} {x y:Operand} {g k:Nat} {l:List Rq} {r:Rq} {T:TypeId}
end
section
variable {Q:Exit→Act→World→Prop} {o:Oper} {a:Act} {w:World} {x y z u:Operand} {f:FuncId} {tt:Array TypeId} {S S1 S2 S3:Sp} {R:World→Ending→World→Prop}
end
end Go.Proofs.YtfhinmdhjlmikaaGreat
namespace Go.Proofs.YtfhinmdhjlmikaaGreat
set_option linter.unusedSimpArgs false
set_option linter.unusedVariables false
set_option maxRecDepth 100000
open Go.RowKit
def fr3 (x:Fq):Rho:=[.val (.bool x.s),.dig (nl x.p) x.p,.dig (nl x.q) x.q]
def frs:List Fq→Rho
 | []=>[]
 | x::xs=>.val (.bool x.s)::.dig (nl x.p) x.p::.dig (nl x.q) x.q::frs xs
def leaf3 (k:Nat):List Leaf:=[.ref (3*k),.ref (3*k+1),.ref (3*k+2)]
def fr (k:Nat):SV:=.agg (leaf3 k)
def bd:List Nat→List Leaf
 | []=>[]
 | k::ks=>.ref (3*k)::.ref (3*k+1)::.ref (3*k+2)::bd ks
def row (ks:List Nat):SV:=.agg (bd ks)
def AtL (xs:List Fq):List Nat→List Fq→Prop
 | [],[]=>True
 | k::ks,x::vs=>xs[k]? =some x∧AtL xs ks vs
 | _,_=>False
section
variable {xs:List Fq} {ys:Rho} {x y z:Fq} {i j k:Nat} {B:Blk} {w:World} {v:Value}
theorem jj:∀ {xs:List Fq} {k:Nat} {x:Fq},xs[k]? =some x→(frs xs++ys)[3*k]? =some (.val (.bool x.s))∧(frs xs++ys)[3*k+1]? =some (.dig (nl x.p) x.p)∧(frs xs++ys)[3*k+2]? =some (.dig (nl x.q) x.q)
 | [],_,_,h=>by simp at h
 | x::xs,0,y,h=>by simp at h;subst h;exact⟨rfl,rfl,rfl⟩
 | x::xs,k+1,y,h=>by
  have:=jj (xs:=xs) (k:=k) (x:=y) (by simpa using h)
  simpa [frs,Nat.mul_add]using this
theorem leaf_s {s:Bool} (h:(frs xs++ys)[i]? =some (.val (.bool s))):(Leaf.ref i).holds (frs xs++ys) B w v↔v= .bool s:=leafB h
theorem rl {L N:Nat} (h:(frs xs++ys)[i]? =some (.dig L N)):(Leaf.ref i).holds (frs xs++ys) B w v↔IsR w (.agg #[v]) L N:=iX h
theorem jN {L N:Nat} (h:IsR w (.agg #[v]) L N):∃a c,v= .slice a L c:=by
 obtain⟨a,c,e,_⟩:=h
 have e2:v= .slice a L c:=by
  injection e with e
  have:=congrArg (fun x:Array Value=>x[0]?) e
  simpa using this
 exact⟨a,c,e2⟩
theorem eU:∀ {ks:List Nat} {vs:List Fq} {cs:List Value},AtL xs ks vs→(aO (frs xs++ys) B w (bd ks) cs↔bR w (vs.map Fq.raw) cs)
 | [],[],cs,_=>by
  constructor
  ·intro h;match cs,h with | [],_=>rfl
  ·intro h;have h:cs=[]:=h;subst h;trivial
 | k::ks,x::vs,cs,h=>by
  obtain⟨h1,h2,h3⟩:=jj (ys:=ys) h.1
  have ih:=fun cs=>eU (ks:=ks) (vs:=vs) (cs:=cs) h.2
  constructor
  ·intro hl
   match cs,hl with
   | u1::u2::u3::cs',hl=>
    obtain⟨g1,g2,g3,g4⟩:=hl
    have e1:=(leaf_s h1).1 g1
    have e2:=(rl h2).1 g2
    have e3:=(rl h3).1 g3
    obtain⟨a,c,rfl⟩:=jN e2
    obtain⟨b,d,rfl⟩:=jN e3
    subst e1
    exact⟨a,c,b,d,cs',rfl,e2,e3,(ih cs').1 g4⟩
   | [],hl=>exact hl.elim
   | [_],hl=>exact hl.2.elim
   | [_,_],hl=>exact hl.2.2.elim
  ·rintro⟨a,c,b,d,cs',rfl,i1,i2,i3⟩
   exact⟨(leaf_s h1).2 rfl,(rl h2).2 i1,(rl h3).2 i2,(ih cs').2 i3⟩
 | [],_::_,_,h=>h.elim
 | _::_,[],_,h=>h.elim
theorem ag {ks:List Nat} {vs:List Fq} (h:AtL xs ks vs):(row ks).holds (frs xs++ys) B w v↔IsL w v (vs.map Fq.raw):=by
 constructor
 ·rintro⟨cs,rfl,h1⟩;exact⟨cs,rfl,(eU h).1 h1⟩
 ·rintro⟨cs,rfl,h1⟩;exact⟨cs,rfl,(eU h).2 h1⟩
theorem aI (h:xs[k]? =some x):(fr k).holds (frs xs++ys) B w v↔IsQ w v x:=by
 have:=ag (ys:=ys) (B:=B) (w:=w) (v:=v) (ks:=[k]) (vs:=[x]) ⟨h,trivial⟩
 show(row [k]).holds _ B w v↔_
 rw[this]
 constructor
 ·rintro⟨cs,rfl,a,c,b,d,cs',rfl,i1,i2,e⟩
  have e:cs'=[]:=e
  subst e
  exact⟨a,c,b,d,rfl,i1,i2⟩
 ·rintro⟨a,c,b,d,rfl,i1,i2⟩
  exact⟨_,rfl,a,c,b,d,[],rfl,i1,i2,rfl⟩
abbrev OkI (xs:List Fq) (ys:Rho) (i:Inst):Prop:=i.Ok Tryz.prog (frs xs++ys)
theorem inst1 {f:FuncId} (hen:jh f) (hc:∀va w,IsQ w va x→Calls Tryz.prog f #[va] w (fun e w'=>fC w z e w')) (hi:xs[i]? =some x) (hk:xs[k]? =some z):OkI xs ys ⟨f,[fr i],.v (fr k)⟩:=
 ⟨hen,fun B w vs hB h=>by
  match vs,h with
  | [va],h=>
   refine(hc va w ((aI hi).1 h.1)).mono ?_
   rintro e w' ⟨v,rfl,h1,h2⟩
   exact⟨v,rfl,(aI hk).2 h1,h2⟩⟩
theorem qr {f:FuncId} (hen:jh f) (hc:∀va vb w,IsQ w va x→IsQ w vb y→Calls Tryz.prog f #[va,vb] w (fun e w'=>fC w z e w')) (hi:xs[i]? =some x) (hj:xs[j]? =some y) (hk:xs[k]? =some z):OkI xs ys ⟨f,[fr i,fr j],.v (fr k)⟩:=
 ⟨hen,fun B w vs hB h=>by
  match vs,h with
  | [va,vb],h=>
   refine(hc va vb w ((aI hi).1 h.1) ((aI hj).1 h.2.1)).mono ?_
   rintro e w' ⟨v,rfl,h1,h2⟩
   exact⟨v,rfl,(aI hk).2 h1,h2⟩⟩
end
end Go.Proofs.YtfhinmdhjlmikaaGreat
namespace Go.Proofs.YtfhinmdhjlmikaaGreat
set_option linter.unusedSimpArgs false
set_option linter.unusedVariables false
set_option maxRecDepth 100000
open Go.RowKit
section
variable {xs:List Fq} {ys ρ:Rho} {x y z:Fq} {i j k n:Nat} {u c:Int} {b d:Bool} {l:Leaf} {f:FuncId} {op:BinOp} {t:TypeId}
theorem rm {v:Value} (hen:jh f) (hc:∀va w,IsQ w va x→Calls Tryz.prog f #[va] w (fun e w'=>bH w v e w')) (hi:xs[i]? =some x) (hl:∀B w,l.holds (frs xs++ys) B w v):OkI xs ys ⟨f,[fr i],.v (.one l)⟩:=
 ⟨hen,fun B w vs hB h=>by
  match vs,h with
  | [va],h=>
   refine(hc va w ((aI hi).1 h.1)).mono ?_
   rintro e w' ⟨rfl,h2⟩
   exact⟨_,rfl,hl B w',h2⟩⟩
theorem inst2V {v:Value} (hen:jh f) (hc:∀va vb w,IsQ w va x→IsQ w vb y→Calls Tryz.prog f #[va,vb] w (fun e w'=>bH w v e w')) (hi:xs[i]? =some x) (hj:xs[j]? =some y) (hl:∀B w,l.holds (frs xs++ys) B w v):OkI xs ys ⟨f,[fr i,fr j],.v (.one l)⟩:=
 ⟨hen,fun B w vs hB h=>by
  match vs,h with
  | [va,vb],h=>
   refine(hc va vb w ((aI hi).1 h.1) ((aI hj).1 h.2.1)).mono ?_
   rintro e w' ⟨rfl,h2⟩
   exact⟨_,rfl,hl B w',h2⟩⟩
theorem inst2E (hen:jh f) (hc:∀va vb w,IsQ w va x→IsQ w vb y→Calls Tryz.prog f #[va,vb] w (fun e w'=>oh w z c e w')) (hi:xs[i]? =some x) (hj:xs[j]? =some y) (hk:xs[k]? =some z):OkI xs ys ⟨f,[fr i,fr j],.tup [fr k,.one (.i .i64 c)]⟩:=
 ⟨hen,fun B w vs hB h=>by
  match vs,h with
  | [va,vb],h=>
   refine(hc va vb w ((aI hi).1 h.1) ((aI hj).1 h.2.1)).mono ?_
   rintro e w' ⟨v,rfl,h1,h2⟩
   exact⟨_,rfl,⟨[v,.int .i64 c],rfl,(aI hk).2 h1,rfl,trivial⟩,h2⟩⟩
theorem instIQ (hen:jh f) (hc:∀w,Calls Tryz.prog f #[.int .i64 u] w (fun e w'=>fC w z e w')) (hk:xs[k]? =some z):OkI xs ys ⟨f,[.one (.i .i64 u)],.v (fr k)⟩:=
 ⟨hen,fun B w vs hB h=>by
  match vs,h with
  | [va],h=>
   have e:va= .int .i64 u:=h.1
   subst e
   refine(hc w).mono ?_
   rintro e w' ⟨v,rfl,h1,h2⟩
   exact⟨v,rfl,(aI hk).2 h1,h2⟩⟩
theorem oQ (hi:xs[i]? =some x) (hj:xs[j]? =some y) (hk:xs[k]? =some (x.mul y)) (ox:x.ok 1000000000) (oy:y.ok 1000000000):OkI xs ys ⟨123,[fr i,fr j],.v (fr k)⟩:=
 qr (aA Tryz.func123 rfl rfl) (fun va vb w h1 h2=>q_fMul va vb x y w h1 h2 ox oy) hi hj hk
theorem oR (hi:xs[i]? =some x) (hj:xs[j]? =some y) (hk:xs[k]? =some (x.add y)) (ox:x.ok 1000000000) (oy:y.ok 1000000000):OkI xs ys ⟨130,[fr i,fr j],.v (fr k)⟩:=
 qr (aA Tryz.func130 rfl rfl) (fun va vb w h1 h2=>q_fAdd va vb x y w h1 h2 ox oy) hi hj hk
theorem oS (hi:xs[i]? =some x) (hj:xs[j]? =some y) (hk:xs[k]? =some (x.sub y)) (ox:x.ok 1000000000) (oy:y.ok 1000000000):OkI xs ys ⟨122,[fr i,fr j],.v (fr k)⟩:=
 qr (aA Tryz.func122 rfl rfl) (fun va vb w h1 h2=>q_fSub va vb x y w h1 h2 ox oy) hi hj hk
theorem dS (hi:xs[i]? =some x) (hj:xs[j]? =some y) (hk:xs[k]? =some (x.div y)) (ox:x.ok 1000000000) (oy:y.ok 1000000000) (h0:y.p≠0):OkI xs ys ⟨150,[fr i,fr j],.tup [fr k,.one (.i .i64 0)]⟩:=
 inst2E (aA Tryz.func150 rfl rfl) (fun va vb w h1 h2=>q_fDiv va vb x y w h1 h2 ox oy h0) hi hj hk
theorem bn (hi:xs[i]? =some x) (hl:∀B w,l.holds (frs xs++ys) B w (.int .i64 x.sgn)) (ox:x.ok 1000000000000):OkI xs ys ⟨96,[fr i],.v (.one l)⟩:=
 rm (aA Tryz.func96 rfl rfl) (fun va w h1=>xP va x w h1 ox) hi hl
theorem bY (hi:xs[i]? =some x) (hj:xs[j]? =some y) (hl:∀B w,l.holds (frs xs++ys) B w (.int .i64 (x.cmp y))) (ox:x.ok 1000000000) (oy:y.ok 1000000000):OkI xs ys ⟨98,[fr i,fr j],.v (.one l)⟩:=
 inst2V (aA Tryz.func98 rfl rfl) (fun va vb w h1 h2=>q_fCmp va vb x y w h1 h2 ox oy) hi hj hl
theorem gd (hk:xs[k]? =some (.ofInt u)) (lu: -9223372036854775808≤u) (ru:u<9223372036854775808):OkI xs ys ⟨93,[.one (.i .i64 u)],.v (fr k)⟩:=
 instIQ (aA Tryz.func93 rfl rfl) (fun w=>q_fInt u w lu ru) hk
theorem aY (hi:xs[i]? =some x) (hl:∀B w,l.holds (frs xs++ys) B w (.bool x.valid)) (ox:x.ok 1000000):OkI xs ys ⟨102,[fr i],.v (.one l)⟩:=
 rm (aA Tryz.func102 rfl rfl) (fun va w h1=>tu va x w h1 ox.p ox.q) hi hl
theorem dU (hi:xs[i]? =some x) (hj:xs[j]? =some y) (hk:xs[k]? =some (x.mul y)) (ox:x.ok 1000000000) (oy:y.ok 1000000000):OkI xs ys ⟨82,[fr i,fr j],.v (fr k)⟩:=
 qr (aA Tryz.func82 rfl rfl) (fun va vb w h1 h2=>q_rMul va vb x y w h1 h2 ox oy) hi hj hk
theorem jk (hi:xs[i]? =some x) (hj:xs[j]? =some y) (hk:xs[k]? =some (x.add y)) (ox:x.ok 1000000000) (oy:y.ok 1000000000):OkI xs ys ⟨81,[fr i,fr j],.v (fr k)⟩:=
 qr (aA Tryz.func81 rfl rfl) (fun va vb w h1 h2=>q_rAdd va vb x y w h1 h2 ox oy) hi hj hk
theorem ku (hi:xs[i]? =some x) (hj:xs[j]? =some y) (hk:xs[k]? =some (x.sub y)) (ox:x.ok 1000000000) (oy:y.ok 1000000000):OkI xs ys ⟨83,[fr i,fr j],.v (fr k)⟩:=
 qr (aA Tryz.func83 rfl rfl) (fun va vb w h1 h2=>q_rSub va vb x y w h1 h2 ox oy) hi hj hk
theorem vw (hi:xs[i]? =some x) (hk:xs[k]? =some x.neg) (ox:x.ok 1000000000):OkI xs ys ⟨112,[fr i],.v (fr k)⟩:=
 inst1 (aA Tryz.func112 rfl rfl) (fun va w h1=>q_rNeg va x w h1 ox) hi hk
theorem I_rDiv (hi:xs[i]? =some x) (hj:xs[j]? =some y) (hk:xs[k]? =some (x.div y)) (ox:x.ok 1000000000) (oy:y.ok 1000000000) (h0:y.p≠0):OkI xs ys ⟨159,[fr i,fr j],.tup [fr k,.one (.i .i64 0)]⟩:=
 inst2E (aA Tryz.func159 rfl rfl) (fun va vb w h1 h2=>q_rDiv va vb x y w h1 h2 ox oy h0) hi hj hk
theorem dQ (hi:xs[i]? =some x) (hl:∀B w,l.holds (frs xs++ys) B w (.int .i64 x.sgn)) (ox:x.ok 1000000000000):OkI xs ys ⟨105,[fr i],.v (.one l)⟩:=
 rm (aA Tryz.func105 rfl rfl) (fun va w h1=>q_rSign va x w h1 ox) hi hl
theorem dK (hk:xs[k]? =some (.ofInt u)) (lu: -9223372036854775808≤u) (ru:u<9223372036854775808):OkI xs ys ⟨61,[.one (.i .i64 u)],.v (fr k)⟩:=
 instIQ (aA Tryz.func61 rfl rfl) (fun w=>q_rInt u w lu ru) hk
theorem dL (hi:xs[i]? =some x) (hl:∀B w,l.holds (frs xs++ys) B w (.bool x.valid)) (ox:x.ok 1000000):OkI xs ys ⟨75,[fr i],.v (.one l)⟩:=
 rm (aA Tryz.func75 rfl rfl) (fun va w h1=>tv va x w h1 ox.p ox.q) hi hl
theorem bS (hi:xs[i]? =some x) (hj:xs[j]? =some y) (hl:∀B w,l.holds (frs xs++ys) B w (.bool (x.same y))) (hp:nl x.p≤1000000000000) (hq:nl x.q≤1000000000000) (kp:nl y.p≤1000000000000) (kq:nl y.q≤1000000000000):OkI xs ys ⟨37,[fr i,fr j],.v (.one l)⟩:=
 inst2V (aA Tryz.func37 rfl rfl) (fun va vb w h1 h2=>q_SameB va vb x y w h1 h2 hp hq kp kq) hi hj hl
theorem en (h:x.p=0):x.sgn=0:=by unfold Fq.sgn;rw[if_pos h]
theorem sgn_ne {x:Fq}:x.sgn≠0↔x.p≠0:=by
 unfold Fq.sgn
 by_cases h:x.p=0
 ·rw[if_pos h];simp[h]
 ·rw[if_neg h];simp only[ne_eq,h,not_false_eq_true,iff_true];split<;>decide
theorem iF (h:x.p≠0):(x.sgn==0)=false:=by have:=sgn_ne.2 h;simpa using this
theorem gf (h:x.p≠0):(x.sgn !=0)=true:=by have:=sgn_ne.2 h;simpa using this
theorem jl (h:u≠c):(u==c)=false:=by simpa using h
theorem rn (h:u≠c):(u !=c)=true:=by simpa using h
theorem isR00 (w:World):IsR w (.agg #[.slice none 0 0]) 0 0:=⟨none,0,rfl,Nat.le_refl _,by simp,fun h=>by omega⟩
theorem dx {B:Blk} {w:World}:∀ {n:Nat} {cs:List Value},aO ρ B w (List.replicate n [Leaf.b false,.sl0,.sl0]).flatten cs→bR w (List.replicate n Fq.zero.raw) cs
 | 0,cs,h=>by
  match cs,h with
  | [],_=>rfl
 | n+1,cs,h=>by
  match cs,h with
  | u1::u2::u3::cs',h=>
   obtain⟨g1,g2,g3,g4⟩:=h
   have e1:u1= .bool false:=g1
   have e2:u2= .slice none 0 0:=g2
   have e3:u3= .slice none 0 0:=g3
   subst e1;subst e2;subst e3
   have hz:nl 0=0:=bZ
   refine⟨none,0,none,0,cs',?_,?_,?_,dx (n:=n) g4⟩
   ·simp[Fq.raw,Fq.zero,hz]
   ·simp only[Fq.raw,Fq.zero,hz];exact isR00 w
   ·simp only[Fq.raw,Fq.zero,hz];exact isR00 w
  | [],h=>exact h.elim
  | [_],h=>exact h.2.elim
  | [_,_],h=>exact h.2.2.elim
end
end Go.Proofs.YtfhinmdhjlmikaaGreat
namespace Go.Proofs.YtfhinmdhjlmikaaGreat
set_option linter.unusedSimpArgs false
set_option linter.unusedVariables false
set_option maxRecDepth 100000
open Go.RowKit
def Vq.cs (v:Vq):List Fq:=[v.x,v.y,v.z]
def Qq.cs (q:Qq):List Fq:=[q.w,q.x,q.y,q.z]
abbrev cX (w:World) (v:Value) (a:Vq):Prop:=IsL w v [a.x.raw,a.y.raw,a.z.raw]
abbrev RetL (W:World) (l:List Rq) (e:Ending) (w':World):Prop:=∃v,e= .returned v∧IsL w' v l∧Below W.heap.size W w'
abbrev ei (W:World) (a:Vq) (e:Ending) (w':World):Prop:=RetL W [a.x.raw,a.y.raw,a.z.raw] e w'
abbrev dE (w:World) (v:Value) (q:Qq):Prop:=IsL w v [q.w.raw,q.x.raw,q.y.raw,q.z.raw]
abbrev m9 (W:World) (q:Qq) (e:Ending) (w':World):Prop:=RetL W [q.w.raw,q.x.raw,q.y.raw,q.z.raw] e w'
def RetLE (W:World) (l:List Rq) (c:Int) (e:Ending) (w':World):Prop:=∃v,e= .returned (.tuple #[v,.int .i64 c])∧IsL w' v l∧Below W.heap.size W w'
abbrev mD (W:World) (q:Qq) (c:Int) (e:Ending) (w':World):Prop:=RetLE W [q.w.raw,q.x.raw,q.y.raw,q.z.raw] c e w'
theorem bC {u:Int} (lu: -9223372036854775808≤u) (ru:u<9223372036854775808):(Fq.ofInt u).ok 2:=⟨kn lu ru,aZ.2 (by show(1:Nat)<4294967296^2;decide),by show(1:Nat)≠0;decide⟩
def ro (x y:Fq):List Fq:=[x,y,(x.mul y)]
theorem q_times (vp:Value) (x y:Fq) (w:World) (ip:IsL w vp [x.raw,y.raw]) (hx:x.ok 1000000000) (hy:y.ok 1000000000):
  Calls Tryz.prog 148 #[vp] w fun e w'=>fC w (x.mul y) e w':=by
 refine(cRn (ρ:=frs (ro x y)++ []) (args:=[row [0,1]]) (vs:=[vp]) (r:=.v (fr 2))
  (af (oQ (i:=0) (j:=1) (k:=2) rfl rfl rfl (hx.mono (by decide)) (hy.mono (by decide))) ai)
  aj Tryz.func148 (by kernel_rfl) ⟨(ag (xs:=ro x y) (ks:=[0,1]) (vs:=[x,y]) ⟨rfl,rfl,trivial⟩).2 ip,trivial⟩).mono ?_
 rintro e w' ⟨v,rfl,h1,h2⟩
 exact⟨v,rfl,(aI (xs:=ro x y) (k:=2) rfl).1 h1,h2⟩
theorem fH {xs:List Fq} {ys:Rho} {ks:List Nat} {k:Nat} {x y:Fq} (hi:AtL xs ks [x,y]) (hk:xs[k]? =some (x.mul y)) (hx:x.ok 1000000000) (hy:y.ok 1000000000):OkI xs ys ⟨148,[row ks],.v (fr k)⟩:=
 ⟨aA Tryz.func148 rfl rfl,fun B w vs hB h=>by
  match vs,h with
  | [va],h=>
   refine(q_times va x y w ((ag hi).1 h.1) hx hy).mono ?_
   rintro e w' ⟨v,rfl,h1,h2⟩
   exact⟨v,rfl,(aI hk).2 h1,h2⟩⟩
def vA (x y:Fq):List Fq:=[x,y,(x.sub y)]
theorem q_less (vp:Value) (x y:Fq) (w:World) (ip:IsL w vp [x.raw,y.raw]) (hx:x.ok 1000000000) (hy:y.ok 1000000000):
  Calls Tryz.prog 149 #[vp] w fun e w'=>fC w (x.sub y) e w':=by
 refine(cRn (ρ:=frs (vA x y)++ []) (args:=[row [0,1]]) (vs:=[vp]) (r:=.v (fr 2))
  (af (oS (i:=0) (j:=1) (k:=2) rfl rfl rfl (hx.mono (by decide)) (hy.mono (by decide))) ai)
  aj Tryz.func149 (by kernel_rfl) ⟨(ag (xs:=vA x y) (ks:=[0,1]) (vs:=[x,y]) ⟨rfl,rfl,trivial⟩).2 ip,trivial⟩).mono ?_
 rintro e w' ⟨v,rfl,h1,h2⟩
 exact⟨v,rfl,(aI (xs:=vA x y) (k:=2) rfl).1 h1,h2⟩
theorem vB {xs:List Fq} {ys:Rho} {ks:List Nat} {k:Nat} {x y:Fq} (hi:AtL xs ks [x,y]) (hk:xs[k]? =some (x.sub y)) (hx:x.ok 1000000000) (hy:y.ok 1000000000):OkI xs ys ⟨149,[row ks],.v (fr k)⟩:=
 ⟨aA Tryz.func149 rfl rfl,fun B w vs hB h=>by
  match vs,h with
  | [va],h=>
   refine(q_less va x y w ((ag hi).1 h.1) hx hy).mono ?_
   rintro e w' ⟨v,rfl,h1,h2⟩
   exact⟨v,rfl,(aI hk).2 h1,h2⟩⟩
def jO (a:Vq) (b:Vq):List Fq:=[a.x,a.y,a.z,b.x,b.y,b.z,(a.x.add b.x),(a.y.add b.y),(a.z.add b.z)]
theorem y4 (va vb:Value) (a:Vq) (b:Vq) (w:World) (ia:cX w va a) (ib:cX w vb b) (ha:a.ok 100000000) (hb:b.ok 100000000):
  Calls Tryz.prog 127 #[va,vb,fnV 130] w fun e w'=>ei w (a.add b) e w':=by
 refine(cRn (ρ:=frs (jO a b)++ []) (args:=[row [0,1,2],row [3,4,5],.one (.fn 130)]) (vs:=[va,vb,fnV 130]) (r:=.v (row [6,7,8]))
  (af (oR (i:=0) (j:=3) (k:=6) rfl rfl rfl (ha.x.mono (by decide)) (hb.x.mono (by decide))) (af (oR (i:=1) (j:=4) (k:=7) rfl rfl rfl (ha.y.mono (by decide)) (hb.y.mono (by decide))) (af (oR (i:=2) (j:=5) (k:=8) rfl rfl rfl (ha.z.mono (by decide)) (hb.z.mono (by decide))) ai)))
  aj Tryz.func127 (by kernel_rfl) ⟨(ag (xs:=jO a b) (ks:=[0,1,2]) (vs:=[a.x,a.y,a.z]) ⟨rfl,rfl,rfl,trivial⟩).2 ia,⟨(ag (xs:=jO a b) (ks:=[3,4,5]) (vs:=[b.x,b.y,b.z]) ⟨rfl,rfl,rfl,trivial⟩).2 ib,⟨rfl,trivial⟩⟩⟩).mono ?_
 rintro e w' ⟨v,rfl,h1,h2⟩
 exact⟨v,rfl,(ag (xs:=jO a b) (ks:=[6,7,8]) (vs:=[(a.x.add b.x),(a.y.add b.y),(a.z.add b.z)]) ⟨rfl,rfl,rfl,trivial⟩).1 h1,h2⟩
theorem y5 {xs:List Fq} {ys:Rho} {ka:List Nat} {kb:List Nat} {a:Vq} {b:Vq} {kr:List Nat} (aa:AtL xs ka [a.x,a.y,a.z]) (ab:AtL xs kb [b.x,b.y,b.z]) (ar:AtL xs kr [(a.add b).x,(a.add b).y,(a.add b).z]) (ha:a.ok 100000000) (hb:b.ok 100000000):OkI xs ys ⟨127,[row ka,row kb,.one (.fn 130)],.v (row kr)⟩:=
 ⟨aA Tryz.func127 rfl rfl,fun B w vs hB h=>by
  match vs,h with
  | [va,vb,vf],h=>
   have ef:vf=fnV 130:=h.2.2.1
   subst ef
   refine(y4 va vb a b w ((ag aa).1 h.1) ((ag ab).1 h.2.1) ha hb).mono ?_
   rintro e w' ⟨v,rfl,h1,h2⟩
   exact⟨v,rfl,(ag ar).2 h1,h2⟩⟩
def jP (a:Vq) (b:Vq):List Fq:=[a.x,a.y,a.z,b.x,b.y,b.z,(a.x.sub b.x),(a.y.sub b.y),(a.z.sub b.z)]
theorem y6 (va vb:Value) (a:Vq) (b:Vq) (w:World) (ia:cX w va a) (ib:cX w vb b) (ha:a.ok 100000000) (hb:b.ok 100000000):
  Calls Tryz.prog 127 #[va,vb,fnV 122] w fun e w'=>ei w (a.sub b) e w':=by
 refine(cRn (ρ:=frs (jP a b)++ []) (args:=[row [0,1,2],row [3,4,5],.one (.fn 122)]) (vs:=[va,vb,fnV 122]) (r:=.v (row [6,7,8]))
  (af (oS (i:=0) (j:=3) (k:=6) rfl rfl rfl (ha.x.mono (by decide)) (hb.x.mono (by decide))) (af (oS (i:=1) (j:=4) (k:=7) rfl rfl rfl (ha.y.mono (by decide)) (hb.y.mono (by decide))) (af (oS (i:=2) (j:=5) (k:=8) rfl rfl rfl (ha.z.mono (by decide)) (hb.z.mono (by decide))) ai)))
  aj Tryz.func127 (by kernel_rfl) ⟨(ag (xs:=jP a b) (ks:=[0,1,2]) (vs:=[a.x,a.y,a.z]) ⟨rfl,rfl,rfl,trivial⟩).2 ia,⟨(ag (xs:=jP a b) (ks:=[3,4,5]) (vs:=[b.x,b.y,b.z]) ⟨rfl,rfl,rfl,trivial⟩).2 ib,⟨rfl,trivial⟩⟩⟩).mono ?_
 rintro e w' ⟨v,rfl,h1,h2⟩
 exact⟨v,rfl,(ag (xs:=jP a b) (ks:=[6,7,8]) (vs:=[(a.x.sub b.x),(a.y.sub b.y),(a.z.sub b.z)]) ⟨rfl,rfl,rfl,trivial⟩).1 h1,h2⟩
theorem y7 {xs:List Fq} {ys:Rho} {ka:List Nat} {kb:List Nat} {a:Vq} {b:Vq} {kr:List Nat} (aa:AtL xs ka [a.x,a.y,a.z]) (ab:AtL xs kb [b.x,b.y,b.z]) (ar:AtL xs kr [(a.sub b).x,(a.sub b).y,(a.sub b).z]) (ha:a.ok 100000000) (hb:b.ok 100000000):OkI xs ys ⟨127,[row ka,row kb,.one (.fn 122)],.v (row kr)⟩:=
 ⟨aA Tryz.func127 rfl rfl,fun B w vs hB h=>by
  match vs,h with
  | [va,vb,vf],h=>
   have ef:vf=fnV 122:=h.2.2.1
   subst ef
   refine(y6 va vb a b w ((ag aa).1 h.1) ((ag ab).1 h.2.1) ha hb).mono ?_
   rintro e w' ⟨v,rfl,h1,h2⟩
   exact⟨v,rfl,(ag ar).2 h1,h2⟩⟩
/-- Products of the coordinates. -/
def Vq.times (a b:Vq):Vq:=⟨a.x.mul b.x,a.y.mul b.y,a.z.mul b.z⟩
theorem Vq.ok.times {a b:Vq} {d e:Nat} (h:a.ok d) (k:b.ok e):(a.times b).ok (d+e):=⟨h.x.mul k.x,h.y.mul k.y,h.z.mul k.z⟩
def jQ (a:Vq) (b:Vq):List Fq:=[a.x,a.y,a.z,b.x,b.y,b.z,(a.x.mul b.x),(a.y.mul b.y),(a.z.mul b.z)]
theorem y8 (va vb:Value) (a:Vq) (b:Vq) (w:World) (ia:cX w va a) (ib:cX w vb b) (ha:a.ok 100000000) (hb:b.ok 100000000):
  Calls Tryz.prog 127 #[va,vb,fnV 123] w fun e w'=>ei w (a.times b) e w':=by
 refine(cRn (ρ:=frs (jQ a b)++ []) (args:=[row [0,1,2],row [3,4,5],.one (.fn 123)]) (vs:=[va,vb,fnV 123]) (r:=.v (row [6,7,8]))
  (af (oQ (i:=0) (j:=3) (k:=6) rfl rfl rfl (ha.x.mono (by decide)) (hb.x.mono (by decide))) (af (oQ (i:=1) (j:=4) (k:=7) rfl rfl rfl (ha.y.mono (by decide)) (hb.y.mono (by decide))) (af (oQ (i:=2) (j:=5) (k:=8) rfl rfl rfl (ha.z.mono (by decide)) (hb.z.mono (by decide))) ai)))
  aj Tryz.func127 (by kernel_rfl) ⟨(ag (xs:=jQ a b) (ks:=[0,1,2]) (vs:=[a.x,a.y,a.z]) ⟨rfl,rfl,rfl,trivial⟩).2 ia,⟨(ag (xs:=jQ a b) (ks:=[3,4,5]) (vs:=[b.x,b.y,b.z]) ⟨rfl,rfl,rfl,trivial⟩).2 ib,⟨rfl,trivial⟩⟩⟩).mono ?_
 rintro e w' ⟨v,rfl,h1,h2⟩
 exact⟨v,rfl,(ag (xs:=jQ a b) (ks:=[6,7,8]) (vs:=[(a.x.mul b.x),(a.y.mul b.y),(a.z.mul b.z)]) ⟨rfl,rfl,rfl,trivial⟩).1 h1,h2⟩
theorem y9 {xs:List Fq} {ys:Rho} {ka:List Nat} {kb:List Nat} {a:Vq} {b:Vq} {kr:List Nat} (aa:AtL xs ka [a.x,a.y,a.z]) (ab:AtL xs kb [b.x,b.y,b.z]) (ar:AtL xs kr [(a.times b).x,(a.times b).y,(a.times b).z]) (ha:a.ok 100000000) (hb:b.ok 100000000):OkI xs ys ⟨127,[row ka,row kb,.one (.fn 123)],.v (row kr)⟩:=
 ⟨aA Tryz.func127 rfl rfl,fun B w vs hB h=>by
  match vs,h with
  | [va,vb,vf],h=>
   have ef:vf=fnV 123:=h.2.2.1
   subst ef
   refine(y8 va vb a b w ((ag aa).1 h.1) ((ag ab).1 h.2.1) ha hb).mono ?_
   rintro e w' ⟨v,rfl,h1,h2⟩
   exact⟨v,rfl,(ag ar).2 h1,h2⟩⟩
def rp (a:Vq) (b:Vq):List Fq:=[a.x,a.y,a.z,b.x,b.y,b.z,(a.add b).x,(a.add b).y,(a.add b).z]
theorem q_vAdd (va vb:Value) (a:Vq) (b:Vq) (w:World) (ia:cX w va a) (ib:cX w vb b) (ha:a.ok 100000000) (hb:b.ok 100000000):
  Calls Tryz.prog 99 #[va,vb] w fun e w'=>ei w (a.add b) e w':=by
 refine(cRn (ρ:=frs (rp a b)++ []) (args:=[row [0,1,2],row [3,4,5]]) (vs:=[va,vb]) (r:=.v (row [6,7,8]))
  (af (y5 (ka:=[0,1,2]) (a:=a) (kb:=[3,4,5]) (b:=b) (kr:=[6,7,8]) ⟨rfl,rfl,rfl,trivial⟩ ⟨rfl,rfl,rfl,trivial⟩ ⟨rfl,rfl,rfl,trivial⟩ (ha.mono (by decide)) (hb.mono (by decide))) ai)
  aj Tryz.func99 (by kernel_rfl) ⟨(ag (xs:=rp a b) (ks:=[0,1,2]) (vs:=[a.x,a.y,a.z]) ⟨rfl,rfl,rfl,trivial⟩).2 ia,⟨(ag (xs:=rp a b) (ks:=[3,4,5]) (vs:=[b.x,b.y,b.z]) ⟨rfl,rfl,rfl,trivial⟩).2 ib,trivial⟩⟩).mono ?_
 rintro e w' ⟨v,rfl,h1,h2⟩
 exact⟨v,rfl,(ag (xs:=rp a b) (ks:=[6,7,8]) (vs:=[(a.add b).x,(a.add b).y,(a.add b).z]) ⟨rfl,rfl,rfl,trivial⟩).1 h1,h2⟩
theorem vC {xs:List Fq} {ys:Rho} {ka:List Nat} {kb:List Nat} {a:Vq} {b:Vq} {kr:List Nat} (aa:AtL xs ka [a.x,a.y,a.z]) (ab:AtL xs kb [b.x,b.y,b.z]) (ar:AtL xs kr [(a.add b).x,(a.add b).y,(a.add b).z]) (ha:a.ok 100000000) (hb:b.ok 100000000):OkI xs ys ⟨99,[row ka,row kb],.v (row kr)⟩:=
 ⟨aA Tryz.func99 rfl rfl,fun B w vs hB h=>by
  match vs,h with
  | [va,vb],h=>
   refine(q_vAdd va vb a b w ((ag aa).1 h.1) ((ag ab).1 h.2.1) ha hb).mono ?_
   rintro e w' ⟨v,rfl,h1,h2⟩
   exact⟨v,rfl,(ag ar).2 h1,h2⟩⟩
def rq (a:Vq) (b:Vq):List Fq:=[a.x,a.y,a.z,b.x,b.y,b.z,(a.sub b).x,(a.sub b).y,(a.sub b).z]
theorem q_vSub (va vb:Value) (a:Vq) (b:Vq) (w:World) (ia:cX w va a) (ib:cX w vb b) (ha:a.ok 100000000) (hb:b.ok 100000000):
  Calls Tryz.prog 100 #[va,vb] w fun e w'=>ei w (a.sub b) e w':=by
 refine(cRn (ρ:=frs (rq a b)++ []) (args:=[row [0,1,2],row [3,4,5]]) (vs:=[va,vb]) (r:=.v (row [6,7,8]))
  (af (y7 (ka:=[0,1,2]) (a:=a) (kb:=[3,4,5]) (b:=b) (kr:=[6,7,8]) ⟨rfl,rfl,rfl,trivial⟩ ⟨rfl,rfl,rfl,trivial⟩ ⟨rfl,rfl,rfl,trivial⟩ (ha.mono (by decide)) (hb.mono (by decide))) ai)
  aj Tryz.func100 (by kernel_rfl) ⟨(ag (xs:=rq a b) (ks:=[0,1,2]) (vs:=[a.x,a.y,a.z]) ⟨rfl,rfl,rfl,trivial⟩).2 ia,⟨(ag (xs:=rq a b) (ks:=[3,4,5]) (vs:=[b.x,b.y,b.z]) ⟨rfl,rfl,rfl,trivial⟩).2 ib,trivial⟩⟩).mono ?_
 rintro e w' ⟨v,rfl,h1,h2⟩
 exact⟨v,rfl,(ag (xs:=rq a b) (ks:=[6,7,8]) (vs:=[(a.sub b).x,(a.sub b).y,(a.sub b).z]) ⟨rfl,rfl,rfl,trivial⟩).1 h1,h2⟩
theorem I_vSub {xs:List Fq} {ys:Rho} {ka:List Nat} {kb:List Nat} {a:Vq} {b:Vq} {kr:List Nat} (aa:AtL xs ka [a.x,a.y,a.z]) (ab:AtL xs kb [b.x,b.y,b.z]) (ar:AtL xs kr [(a.sub b).x,(a.sub b).y,(a.sub b).z]) (ha:a.ok 100000000) (hb:b.ok 100000000):OkI xs ys ⟨100,[row ka,row kb],.v (row kr)⟩:=
 ⟨aA Tryz.func100 rfl rfl,fun B w vs hB h=>by
  match vs,h with
  | [va,vb],h=>
   refine(q_vSub va vb a b w ((ag aa).1 h.1) ((ag ab).1 h.2.1) ha hb).mono ?_
   rintro e w' ⟨v,rfl,h1,h2⟩
   exact⟨v,rfl,(ag ar).2 h1,h2⟩⟩
def lM (a:Vq) (k:Fq):List Fq:=[a.x,a.y,a.z,k,(a.times (Vq.mk k k k)).x,(a.times (Vq.mk k k k)).y,(a.times (Vq.mk k k k)).z]
theorem q_vScale (va vk:Value) (a:Vq) (k:Fq) (w:World) (ia:cX w va a) (ik:IsQ w vk k) (ha:a.ok 100000000) (hk:k.ok 100000000):
  Calls Tryz.prog 94 #[va,vk] w fun e w'=>ei w (a.scale k) e w':=by
 refine(cRn (ρ:=frs (lM a k)++ []) (args:=[row [0,1,2],fr 3]) (vs:=[va,vk]) (r:=.v (row [4,5,6]))
  (af (y9 (ka:=[0,1,2]) (a:=a) (kb:=[3,3,3]) (b:=(Vq.mk k k k)) (kr:=[4,5,6]) ⟨rfl,rfl,rfl,trivial⟩ ⟨rfl,rfl,rfl,trivial⟩ ⟨rfl,rfl,rfl,trivial⟩ (ha.mono (by decide)) (⟨hk.mono (by decide),hk.mono (by decide),hk.mono (by decide)⟩:Vq.ok 100000000 (Vq.mk k k k))) ai)
  aj Tryz.func94 (by kernel_rfl) ⟨(ag (xs:=lM a k) (ks:=[0,1,2]) (vs:=[a.x,a.y,a.z]) ⟨rfl,rfl,rfl,trivial⟩).2 ia,⟨(aI (xs:=lM a k) (k:=3) rfl).2 ik,trivial⟩⟩).mono ?_
 rintro e w' ⟨v,rfl,h1,h2⟩
 exact⟨v,rfl,(ag (xs:=lM a k) (ks:=[4,5,6]) (vs:=[(a.times (Vq.mk k k k)).x,(a.times (Vq.mk k k k)).y,(a.times (Vq.mk k k k)).z]) ⟨rfl,rfl,rfl,trivial⟩).1 h1,h2⟩
theorem jm {xs:List Fq} {ys:Rho} {ka:List Nat} {ik:Nat} {a:Vq} {k:Fq} {kr:List Nat} (aa:AtL xs ka [a.x,a.y,a.z]) (ak:xs[ik]? =some k) (ar:AtL xs kr [(a.scale k).x,(a.scale k).y,(a.scale k).z]) (ha:a.ok 100000000) (hk:k.ok 100000000):OkI xs ys ⟨94,[row ka,fr ik],.v (row kr)⟩:=
 ⟨aA Tryz.func94 rfl rfl,fun B w vs hB h=>by
  match vs,h with
  | [va,vk],h=>
   refine(q_vScale va vk a k w ((ag aa).1 h.1) ((aI ak).1 h.2.1) ha hk).mono ?_
   rintro e w' ⟨v,rfl,h1,h2⟩
   exact⟨v,rfl,(ag ar).2 h1,h2⟩⟩
def rt (a:Vq) (b:Vq):List Fq:=[a.x,a.y,a.z,b.x,b.y,b.z,(a.x.mul b.x),(a.y.mul b.y),(a.z.mul b.z),((a.y.mul b.y).add (a.z.mul b.z)),((a.x.mul b.x).add ((a.y.mul b.y).add (a.z.mul b.z)))]
theorem q_vDot (va vb:Value) (a:Vq) (b:Vq) (w:World) (ia:cX w va a) (ib:cX w vb b) (ha:a.ok 100000000) (hb:b.ok 100000000):
  Calls Tryz.prog 124 #[va,vb] w fun e w'=>fC w (a.dot b) e w':=by
 refine(cRn (ρ:=frs (rt a b)++ []) (args:=[row [0,1,2],row [3,4,5]]) (vs:=[va,vb]) (r:=.v (fr 10))
  (af (fH (ks:=[0,3]) (k:=6) ⟨rfl,rfl,trivial⟩ rfl (ha.x.mono (by decide)) (hb.x.mono (by decide))) (af (fH (ks:=[1,4]) (k:=7) ⟨rfl,rfl,trivial⟩ rfl (ha.y.mono (by decide)) (hb.y.mono (by decide))) (af (fH (ks:=[2,5]) (k:=8) ⟨rfl,rfl,trivial⟩ rfl (ha.z.mono (by decide)) (hb.z.mono (by decide))) (af (oR (i:=7) (j:=8) (k:=9) rfl rfl rfl ((ha.y.mul hb.y).mono (by decide)) ((ha.z.mul hb.z).mono (by decide))) (af (oR (i:=6) (j:=9) (k:=10) rfl rfl rfl ((ha.x.mul hb.x).mono (by decide)) (((ha.y.mul hb.y).add (ha.z.mul hb.z)).mono (by decide))) ai)))))
  aj Tryz.func124 (by kernel_rfl) ⟨(ag (xs:=rt a b) (ks:=[0,1,2]) (vs:=[a.x,a.y,a.z]) ⟨rfl,rfl,rfl,trivial⟩).2 ia,⟨(ag (xs:=rt a b) (ks:=[3,4,5]) (vs:=[b.x,b.y,b.z]) ⟨rfl,rfl,rfl,trivial⟩).2 ib,trivial⟩⟩).mono ?_
 rintro e w' ⟨v,rfl,h1,h2⟩
 exact⟨v,rfl,(aI (xs:=rt a b) (k:=10) rfl).1 h1,h2⟩
theorem I_vDot {xs:List Fq} {ys:Rho} {ka:List Nat} {kb:List Nat} {a:Vq} {b:Vq} {ir:Nat} (aa:AtL xs ka [a.x,a.y,a.z]) (ab:AtL xs kb [b.x,b.y,b.z]) (ar:xs[ir]? =some (a.dot b)) (ha:a.ok 100000000) (hb:b.ok 100000000):OkI xs ys ⟨124,[row ka,row kb],.v (fr ir)⟩:=
 ⟨aA Tryz.func124 rfl rfl,fun B w vs hB h=>by
  match vs,h with
  | [va,vb],h=>
   refine(q_vDot va vb a b w ((ag aa).1 h.1) ((ag ab).1 h.2.1) ha hb).mono ?_
   rintro e w' ⟨v,rfl,h1,h2⟩
   exact⟨v,rfl,(aI ar).2 h1,h2⟩⟩
def lN (a:Vq) (b:Vq):List Fq:=[a.x,a.y,a.z,b.x,b.y,b.z,(a.y.mul b.z),(a.z.mul b.y),((a.y.mul b.z).sub (a.z.mul b.y)),(a.z.mul b.x),(a.x.mul b.z),((a.z.mul b.x).sub (a.x.mul b.z)),(a.x.mul b.y),(a.y.mul b.x),((a.x.mul b.y).sub (a.y.mul b.x))]
theorem q_vCross (va vb:Value) (a:Vq) (b:Vq) (w:World) (ia:cX w va a) (ib:cX w vb b) (ha:a.ok 100000000) (hb:b.ok 100000000):
  Calls Tryz.prog 125 #[va,vb] w fun e w'=>ei w (a.cross b) e w':=by
 refine(cRn (ρ:=frs (lN a b)++ []) (args:=[row [0,1,2],row [3,4,5]]) (vs:=[va,vb]) (r:=.v (row [8,11,14]))
  (af (fH (ks:=[1,5]) (k:=6) ⟨rfl,rfl,trivial⟩ rfl (ha.y.mono (by decide)) (hb.z.mono (by decide))) (af (fH (ks:=[2,4]) (k:=7) ⟨rfl,rfl,trivial⟩ rfl (ha.z.mono (by decide)) (hb.y.mono (by decide))) (af (vB (ks:=[6,7]) (k:=8) ⟨rfl,rfl,trivial⟩ rfl ((ha.y.mul hb.z).mono (by decide)) ((ha.z.mul hb.y).mono (by decide))) (af (fH (ks:=[2,3]) (k:=9) ⟨rfl,rfl,trivial⟩ rfl (ha.z.mono (by decide)) (hb.x.mono (by decide))) (af (fH (ks:=[0,5]) (k:=10) ⟨rfl,rfl,trivial⟩ rfl (ha.x.mono (by decide)) (hb.z.mono (by decide))) (af (vB (ks:=[9,10]) (k:=11) ⟨rfl,rfl,trivial⟩ rfl ((ha.z.mul hb.x).mono (by decide)) ((ha.x.mul hb.z).mono (by decide))) (af (fH (ks:=[0,4]) (k:=12) ⟨rfl,rfl,trivial⟩ rfl (ha.x.mono (by decide)) (hb.y.mono (by decide))) (af (fH (ks:=[1,3]) (k:=13) ⟨rfl,rfl,trivial⟩ rfl (ha.y.mono (by decide)) (hb.x.mono (by decide))) (af (vB (ks:=[12,13]) (k:=14) ⟨rfl,rfl,trivial⟩ rfl ((ha.x.mul hb.y).mono (by decide)) ((ha.y.mul hb.x).mono (by decide))) ai)))))))))
  aj Tryz.func125 (by kernel_rfl) ⟨(ag (xs:=lN a b) (ks:=[0,1,2]) (vs:=[a.x,a.y,a.z]) ⟨rfl,rfl,rfl,trivial⟩).2 ia,⟨(ag (xs:=lN a b) (ks:=[3,4,5]) (vs:=[b.x,b.y,b.z]) ⟨rfl,rfl,rfl,trivial⟩).2 ib,trivial⟩⟩).mono ?_
 rintro e w' ⟨v,rfl,h1,h2⟩
 exact⟨v,rfl,(ag (xs:=lN a b) (ks:=[8,11,14]) (vs:=[((a.y.mul b.z).sub (a.z.mul b.y)),((a.z.mul b.x).sub (a.x.mul b.z)),((a.x.mul b.y).sub (a.y.mul b.x))]) ⟨rfl,rfl,rfl,trivial⟩).1 h1,h2⟩
theorem I_vCross {xs:List Fq} {ys:Rho} {ka:List Nat} {kb:List Nat} {a:Vq} {b:Vq} {kr:List Nat} (aa:AtL xs ka [a.x,a.y,a.z]) (ab:AtL xs kb [b.x,b.y,b.z]) (ar:AtL xs kr [(a.cross b).x,(a.cross b).y,(a.cross b).z]) (ha:a.ok 100000000) (hb:b.ok 100000000):OkI xs ys ⟨125,[row ka,row kb],.v (row kr)⟩:=
 ⟨aA Tryz.func125 rfl rfl,fun B w vs hB h=>by
  match vs,h with
  | [va,vb],h=>
   refine(q_vCross va vb a b w ((ag aa).1 h.1) ((ag ab).1 h.2.1) ha hb).mono ?_
   rintro e w' ⟨v,rfl,h1,h2⟩
   exact⟨v,rfl,(ag ar).2 h1,h2⟩⟩
end Go.Proofs.YtfhinmdhjlmikaaGreat
