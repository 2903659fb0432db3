/- The plain law of fractions: what they stand for (rational numbers), and the laws of a field, of. -/
import Derived.Test.YtggfmklppkioeaaGreatM05
namespace Go.Proofs.YtggfmklppkioeaaGreat
set_option linter.unusedSimpArgs false
set_option linter.unusedVariables false
set_option maxRecDepth 100000
open Go.RowKit
open _root_.Go renaming Calls → AC,Ending → BB
open _root_.List renaming replicate → DW
open _root_.Nat renaming gcd → AO,gcd_pos_of_pos_right → FM,mul_div_cancel' → FN,mul_ne_zero → Cl,mul_zero → CS,pos_of_ne_zero → Du
open _root_.Or renaming inl → AR
open _root_.Rat renaming inv_mul_cancel → Dz,mkRat_eq_iff → FD,mkRat_mul_mkRat → FE
open _root_.Go.Proofs.Tryz renaming func102 → EJ,func115 → EK,func181 → Dh,prog → AB
section
open Go Go.Proofs
def Fq.sg(s:Bool)(m:Nat):Int:=if s then -(m:Int)else m
def Fq.v(x:Fq):Rat:=mkRat (Fq.sg x.s x.p) x.q
variable{m:Nat}
theorem aaz{s:Bool}{n:Nat}(h:n≠0):(Fq.low s m n).v=mkRat (Fq.sg s m) n:=by
 unfold Fq.v Fq.low;simp only;have C:0<AO m n:=FM _ (Du h);have h1:AO m n*fb m n=m:=FN (Nat.gcd_dvd_left _ _);have h2:AO m n*fH m n=n:=FN (Nat.gcd_dvd_right _ _);have h3:fH m n≠0:=by intro h3;rw[h3,CS]at h2;exact h h2.symm
 rw[FD h3 h];have hs:Fq.sg (dC s m) (fb m n)=Fq.sg s (fb m n):=by
  unfold dC Fq.sg;by_cases hm:m=0
  ·subst hm;simp[fb]
  ·simp[hm]
 rw[hs];generalize hP:fb m n=P at *;generalize hQ:fH m n=R at *;generalize AO m n=g at *;subst h1;subst h2;unfold Fq.sg;cases s<;>simp only[Bool.false_eq_true,if_true,if_false]<;>grind
theorem kh{s:Bool}{n:Nat}(h:n≠0):(Fq.low s m n).valid=true:=by
 unfold Fq.valid;have F:0<AO m n:=FM _ (Du h);have h1:AO m n*fb m n=m:=FN (Nat.gcd_dvd_left _ _);have h2:AO m n*fH m n=n:=FN (Nat.gcd_dvd_right _ _);refine decide_eq_true ⟨?_,?_,?_⟩
 ·show fH m n≠0;intro h3;rw[h3,CS]at h2;exact h h2.symm
 ·show¬(dC s m=true/\fb m n=0);rintro⟨h3,C⟩;rw[C,CS]at h1;rw[<-h1]at h3;simp[dC]at h3
 ·exact Nat.coprime_div_gcd_div_gcd F
variable{x:Fq}
theorem Fq.valid.n(h:x.valid=true):x.q≠0:=(of_decide_eq_true h).1
theorem Fq.valid.s(h:x.valid=true):¬(x.s=true/\x.p=0):=(of_decide_eq_true h).2.1
theorem Fq.valid.g(h:x.valid=true):AO x.p x.q=1:=(of_decide_eq_true h).2.2
theorem nP(s:Bool)(m:Nat):(Fq.sg s m).natAbs=m:=by unfold Fq.sg;cases s<;>simp
theorem sg_neg{s:Bool}(h:¬(s=true/\m=0)):decide (Fq.sg s m<0)=s:=by
 unfold Fq.sg;cases s
 ·simp
 ·simp at h⊢;omega
theorem v_num(h:x.valid=true):x.v.num=Fq.sg x.s x.p/\x.v.den=x.q:=by
 have hn:=Fq.valid.n h;have hc:(Fq.sg x.s x.p).natAbs.Coprime x.q:=by rw[nP];exact Fq.valid.g h
 have e:x.v=Rat.mk' (Fq.sg x.s x.p) x.q hn hc:=(Rat.mk_eq_mkRat _ _ hn hc).symm;rw[e];exact Ai
variable{y:Fq}
theorem mB(H:x.valid=true)(hy:y.valid=true)(h:x.v=y.v):x=y:=by
 obtain⟨C,F⟩:=v_num H;obtain⟨I,J⟩:=v_num hy;rw[h]at C F;have G:Fq.sg x.s x.p=Fq.sg y.s y.p:=C.symm.trans I;have K:x.p=y.p:=by rw[<-nP x.s x.p,G,nP]
 have es:x.s=y.s:=by rw[<-sg_neg (Fq.valid.s H),G,sg_neg (Fq.valid.s hy)]
 have P:x.q=y.q:=F.symm.trans J;cases x;cases y;simp only at *;subst K;subst es;subst P;rfl
theorem sg_add(s C:Bool)(X Y:Nat):Fq.sg (cN s C X Y) (cJ s C X Y)=Fq.sg s X+Fq.sg C Y:=by
 unfold Fq.sg cN cJ;by_cases h:s=C
 ·subst h;simp only[if_true];cases s<;>simp<;>omega
 ·simp only[h,if_false];by_cases hl:Y<=X
  ·simp only[hl,if_true];cases s<;>cases C<;>simp at h⊢ <;>omega
  ·simp only[hl,if_false];cases s<;>cases C<;>simp at h⊢ <;>omega
theorem sg_mul(s C:Bool)(X Y:Nat):Fq.sg (s !=C) (X*Y)=Fq.sg s X*Fq.sg C Y:=by
 unfold Fq.sg;cases s<;>cases C<;>simp<;>grind
theorem aaA(s:Bool)(X Y:Nat):Fq.sg s (X*Y)=Fq.sg s X*(Y:Int):=by
 unfold Fq.sg;cases s<;>simp<;>grind
theorem v_add(C:x.q≠0)(hy:y.q≠0):(x.add y).v=x.v+y.v:=by
 unfold Fq.add;rw[aaz (Cl C hy),sg_add,aaA,aaA];unfold Fq.v;rw[Rat.mkRat_add_mkRat _ _ C hy]
theorem v_mul(C:x.q≠0)(hy:y.q≠0):(x.mul y).v=x.v*y.v:=by
 unfold Fq.mul;rw[aaz (Cl C hy),sg_mul];unfold Fq.v;rw[FE]
theorem vI:x.neg.v= -x.v:=by
 unfold Fq.neg Fq.v;simp only;rw[Rat.neg_mkRat]
 congr 1
 unfold Fq.sg dC;by_cases h:x.p=0
 ·rw[h];simp
 ·simp only[h,decide_false,Bool.not_false,Bool.and_true];cases x.s<;>simp
theorem eJ(h:x.valid=true):x.neg.valid=true:=by
 have h1:=Fq.valid.n h;have h2:=Fq.valid.g h;refine decide_eq_true ⟨h1,?_,h2⟩;show¬(dC (!x.s) x.p=true/\x.p=0);rintro⟨h1,h2⟩;rw[h2]at h1;simp[dC]at h1
theorem v_sub(C:x.q≠0)(hy:y.q≠0):(x.sub y).v=x.v - y.v:=by
 unfold Fq.sub;rw[v_add C (show y.neg.q≠0 from hy),vI,Rat.sub_eq_add_neg]
theorem v_eq0(C:x.q≠0):x.v=0↔x.p=0:=by
 unfold Fq.v;rw[Rat.mkRat_eq_zero C];have:=nP x.s x.p;constructor<;>intro h
 ·rw[h]at this;exact this.symm
 ·unfold Fq.sg;rw[h];simp
theorem v_div(F:x.q≠0)(hy:y.q≠0)(h0:y.p≠0):(x.div y).v=x.v / y.v:=by
 have C:y.v≠0:=λh=>h0 ((v_eq0 hy).1 h)
 have G:(x.div y).v*y.v=x.v:=by
  unfold Fq.div;rw[aaz (Cl F h0)];unfold Fq.v;rw[FE,FD (Cl (Cl F h0) hy) F];unfold Fq.sg;cases x.s<;>cases y.s<;>simp<;>grind
 rw[<-G,Rat.div_def,Rat.mul_assoc,Rat.mul_inv_cancel _ C,Rat.mul_one]
theorem dx(n:Int):(Fq.ofInt n).v=(n:Rat):=by
 unfold Fq.ofInt Fq.v;simp only;rw[Rat.mkRat_one]
 congr 1
 unfold Fq.sg;by_cases h:n<0
 ·simp[h];omega
 ·simp[h];omega
theorem aA(n:Int):(Fq.ofInt n).valid=true:=by
 refine decide_eq_true ⟨Nat.one_ne_zero,?_,Nat.gcd_one_right _⟩;show¬(decide (n<0)=true/\n.natAbs=0);rintro⟨h1,h2⟩;have:=of_decide_eq_true h1;omega
theorem sgn_cases(C:x.valid=true):(x.v<0/\x.sgn= -1)\/(x.v=0/\x.sgn=0)\/(0<x.v/\x.sgn=1):=by
 have hn:=(v_num C).1;have h0:=v_eq0 (Fq.valid.n C);have hs:=Fq.valid.s C;by_cases hp:x.p=0
 ·exact Or.inr (AR ⟨h0.2 hp,by unfold Fq.sgn;rw[if_pos hp]⟩)
 ·have F:x.v≠0:=λh=>hp (h0.1 h)
  rcases Bool.eq_false_or_eq_true x.s with h | h
  ·refine AR ⟨?_,by unfold Fq.sgn;rw[if_neg hp,if_pos h]⟩;have h1:¬(0<=x.v):=by rw[<-Rat.num_nonneg,hn,h];unfold Fq.sg;simp;omega
   exact Rat.not_le.1 h1
  ·refine Or.inr (Or.inr ⟨?_,by unfold Fq.sgn;rw[if_neg hp,h];rfl⟩);have h1:0<=x.v:=by rw[<-Rat.num_nonneg,hn,h];unfold Fq.sg;simp
   grind
theorem dN(C:x.valid=true)(hy:y.valid=true):(x.add y).valid=true:=kh (Cl (Fq.valid.n C) (Fq.valid.n hy))
theorem aM(C:x.valid=true)(hy:y.valid=true):(x.mul y).valid=true:=kh (Cl (Fq.valid.n C) (Fq.valid.n hy))
theorem dy(C:x.valid=true)(hy:y.valid=true):(x.sub y).valid=true:=dN C (eJ hy)
theorem iE(C:x.valid=true)(h0:y.p≠0):(x.div y).valid=true:=kh (Cl (Fq.valid.n C) h0)
theorem v_a(C:x.valid=true)(hy:y.valid=true):(x.add y).v=x.v+y.v:=v_add (Fq.valid.n C) (Fq.valid.n hy)
theorem v_m(C:x.valid=true)(hy:y.valid=true):(x.mul y).v=x.v*y.v:=v_mul (Fq.valid.n C) (Fq.valid.n hy)
theorem v_s(C:x.valid=true)(hy:y.valid=true):(x.sub y).v=x.v - y.v:=v_sub (Fq.valid.n C) (Fq.valid.n hy)
theorem rU(C:x.valid=true)(hy:y.valid=true):(x.v<y.v/\x.cmp y= -1)\/(x.v=y.v/\x.cmp y=0)\/(y.v<x.v/\x.cmp y=1):=by
 unfold Fq.cmp;rcases sgn_cases (dy C hy)with⟨h1,h2⟩ | ⟨h1,h2⟩ | ⟨h1,h2⟩<;>rw[v_s C hy]at h1
 ·exact AR ⟨Ar,h2⟩
 ·exact Or.inr (AR ⟨Ar,h2⟩)
 ·exact Or.inr (Or.inr ⟨Ar,h2⟩)
section
variable {a b c t:Fq} (ha:a.valid=true) (hb:b.valid=true) (hc:c.valid=true) (ht:t.valid=true)
include ha hb
include hc
end
section
variable {a b t:Fq} (ha:a.valid=true) (hb:b.valid=true) (ht:t.valid=true)
include ha
include hb
theorem bn:a.cmp b=0↔a=b:=by
 constructor
 ·intro h;rcases rU ha hb with⟨C,F⟩ | ⟨C,F⟩ | ⟨C,F⟩<;>first | omega | exact mB ha hb C
 ·rintro rfl;rcases rU ha hb with⟨C,F⟩ | ⟨C,F⟩ | ⟨C,F⟩<;>first | exact F | grind
include ht
end
end
structure Vq where
 x:Fq
 y:Fq
 z:Fq
def Vq.add(a b:Vq):Vq:=⟨a.x.add b.x,a.y.add b.y,a.z.add b.z⟩
def Vq.sub(a b:Vq):Vq:=⟨a.x.sub b.x,a.y.sub b.y,a.z.sub b.z⟩
def Vq.scale(a:Vq)(k:Fq):Vq:=⟨a.x.mul k,a.y.mul k,a.z.mul k⟩
def Vq.dot(a b:Vq):Fq:=(a.x.mul b.x).add ((a.y.mul b.y).add (a.z.mul b.z))
def Vq.cross(a b:Vq):Vq:=⟨(a.y.mul b.z).sub (a.z.mul b.y),(a.z.mul b.x).sub (a.x.mul b.z),(a.x.mul b.y).sub (a.y.mul b.x)⟩
def Vq.lerp(a b:Vq)(t:Fq):Vq:=a.add ((b.sub a).scale t)
def Vq.of(x y z:Int):Vq:=⟨.ofInt x,.ofInt y,.ofInt z⟩
structure Vq.good(a:Vq):Prop where
 x:a.x.valid=true
 y:a.y.valid=true
 z:a.z.valid=true
section
variable {a b c:Vq} {k t:Fq}
theorem Vq.good.add(ha:a.good)(hb:b.good):(a.add b).good:=⟨dN ha.x hb.x,dN ha.y hb.y,dN ha.z hb.z⟩
theorem Vq.good.sub(ha:a.good)(hb:b.good):(a.sub b).good:=⟨dy ha.x hb.x,dy ha.y hb.y,dy ha.z hb.z⟩
theorem Vq.good.scale(ha:a.good)(C:k.valid=true):(a.scale k).good:=⟨aM ha.x C,aM ha.y C,aM ha.z C⟩
theorem Vq.good.cross(ha:a.good)(hb:b.good):(a.cross b).good:=⟨dy (aM ha.y hb.z) (aM ha.z hb.y),dy (aM ha.z hb.x) (aM ha.x hb.z),dy (aM ha.x hb.y) (aM ha.y hb.x)⟩
theorem Vq.good.lerp(ha:a.good)(hb:b.good)(ht:t.valid=true):(a.lerp b t).good:=ha.add ((hb.sub ha).scale ht)
theorem Vq.good.of(x y z:Int):(Vq.of x y z).good:=⟨aA x,aA y,aA z⟩
theorem dz(ha:a.good)(hb:b.good):(a.dot b).valid=true:=dN (aM ha.x hb.x) (dN (aM ha.y hb.y) (aM ha.z hb.z))
theorem aaB(ha:a.good)(hb:b.good):(a.dot b).v=a.x.v*b.x.v+(a.y.v*b.y.v+a.z.v*b.z.v):=by
 unfold Vq.dot;rw[v_a (aM ha.x hb.x) (dN (aM ha.y hb.y) (aM ha.z hb.z)),v_a (aM ha.y hb.y) (aM ha.z hb.z),v_m ha.x hb.x,v_m ha.y hb.y,v_m ha.z hb.z]
theorem rV(ha:a.good)(hb:b.good):(a.add b).x.v=a.x.v+b.x.v/\(a.add b).y.v=a.y.v+b.y.v/\(a.add b).z.v=a.z.v+b.z.v:=⟨v_a ha.x hb.x,v_a ha.y hb.y,v_a ha.z hb.z⟩
theorem sub_v(ha:a.good)(hb:b.good):(a.sub b).x.v=a.x.v - b.x.v/\(a.sub b).y.v=a.y.v - b.y.v/\(a.sub b).z.v=a.z.v - b.z.v:=⟨v_s ha.x hb.x,v_s ha.y hb.y,v_s ha.z hb.z⟩
theorem eZ(ha:a.good)(C:k.valid=true):(a.scale k).x.v=a.x.v*k.v/\(a.scale k).y.v=a.y.v*k.v/\(a.scale k).z.v=a.z.v*k.v:=⟨v_m ha.x C,v_m ha.y C,v_m ha.z C⟩
theorem aaC(ha:a.good)(hb:b.good):(a.cross b).x.v=a.y.v*b.z.v - a.z.v*b.y.v/\(a.cross b).y.v=a.z.v*b.x.v - a.x.v*b.z.v/\(a.cross b).z.v=a.x.v*b.y.v - a.y.v*b.x.v:=by
 unfold Vq.cross;refine⟨?_,?_,?_⟩
 ·rw[v_s (aM ha.y hb.z) (aM ha.z hb.y),v_m ha.y hb.z,v_m ha.z hb.y]
 ·rw[v_s (aM ha.z hb.x) (aM ha.x hb.z),v_m ha.z hb.x,v_m ha.x hb.z]
 ·rw[v_s (aM ha.x hb.y) (aM ha.y hb.x),v_m ha.x hb.y,v_m ha.y hb.x]
theorem lerp_v(ha:a.good)(hb:b.good)(ht:t.valid=true):(a.lerp b t).x.v=a.x.v+(b.x.v - a.x.v)*t.v/\(a.lerp b t).y.v=a.y.v+(b.y.v - a.y.v)*t.v/\(a.lerp b t).z.v=a.z.v+(b.z.v - a.z.v)*t.v:=by
 have h1:=sub_v hb ha;have h2:=eZ (hb.sub ha) ht;have h3:=rV ha ((hb.sub ha).scale ht);unfold Vq.lerp;rw[h3.1,h3.2.1,h3.2.2,h2.1,h2.2.1,h2.2.2,h1.1,h1.2.1,h1.2.2];exact⟨rfl,rfl,rfl⟩
end
@[ext] structure QR where
 w:Rat
 x:Rat
 y:Rat
 z:Rat
@[ext] structure VR where
 x:Rat
 y:Rat
 z:Rat
def QR.nrm(a:QR):Rat:=a.w*a.w+(a.x*a.x+(a.y*a.y+a.z*a.z))
def QR.mul(p q:QR):QR:=⟨p.w*q.w - (p.x*q.x+(p.y*q.y+p.z*q.z)),q.x*p.w+p.x*q.w+(p.y*q.z - p.z*q.y),q.y*p.w+p.y*q.w+(p.z*q.x - p.x*q.z),q.z*p.w+p.z*q.w+(p.x*q.y - p.y*q.x)⟩
def QR.conj(a:QR):QR:=⟨a.w, -a.x, -a.y, -a.z⟩
def QR.smul(k:Rat)(a:QR):QR:=⟨k*a.w,k*a.x,k*a.y,k*a.z⟩
def QR.one:QR:=⟨1,0,0,0⟩
def Sim(a b:QR):Prop:=∃k:Rat,k≠0/\b=QR.smul k a
def QR.rot(q:QR)(v:VR):VR:=
 ⟨(q.w*q.w - (q.x*q.x+(q.y*q.y+q.z*q.z)))*v.x+(2*(q.x*v.x+(q.y*v.y+q.z*v.z)))*q.x+(2*q.w)*(q.y*v.z - q.z*v.y),
  (q.w*q.w - (q.x*q.x+(q.y*q.y+q.z*q.z)))*v.y+(2*(q.x*v.x+(q.y*v.y+q.z*v.z)))*q.y+(2*q.w)*(q.z*v.x - q.x*v.z),
  (q.w*q.w - (q.x*q.x+(q.y*q.y+q.z*q.z)))*v.z+(2*(q.x*v.x+(q.y*v.y+q.z*v.z)))*q.z+(2*q.w)*(q.x*v.y - q.y*v.x)⟩
def VR.smul(k:Rat)(v:VR):VR:=⟨k*v.x,k*v.y,k*v.z⟩
def QR.app(q:QR)(v:VR):VR:=(q.rot v).smul (q.nrm)⁻¹
theorem jd(r:Rat):0<=r*r:=by
 rcases Rat.le_total (a:=0) (b:=r)with h | h
 ·exact Rat.mul_nonneg h h
 ·have:=Rat.mul_nonneg (show 0<= -r by grind) (show 0<= -r by grind);grind
variable{a:QR}
theorem nrm_zero:a.nrm=0↔a.w=0/\a.x=0/\a.y=0/\a.z=0:=by
 unfold QR.nrm;have h1:=jd a.w;have h2:=jd a.x;have h3:=jd a.y;have I:=jd a.z;constructor
 ·intro h;have C:a.w*a.w=0:=Ar
  have F:a.x*a.x=0:=Ar
  have G:a.y*a.y=0:=Ar
  have H:a.z*a.z=0:=Ar
  exact⟨Ar,Ar,Ar,Ar⟩
 ·rintro⟨C,F,G,H⟩;rw[C,F,G,H];grind
theorem nrm_mul(p q:QR):(p.mul q).nrm=p.nrm*q.nrm:=by
 unfold QR.nrm QR.mul;grind
theorem nrm_conj(p:QR):p.conj.nrm=p.nrm:=by unfold QR.nrm QR.conj;grind
theorem vJ(k:Rat)(p:QR):(QR.smul k p).nrm=k*k*p.nrm:=by unfold QR.nrm QR.smul;grind
theorem eK{a b:Rat}(ha:a≠0)(hb:b≠0):a*b≠0:=λh=>by rcases Rat.mul_eq_zero.1 h with h | h;exact ha h;exact hb h
theorem Sim.refl(a:QR):Sim a a:=⟨1,it,by unfold QR.smul;ext<;>simp only<;>grind⟩
variable{b:QR}
theorem Sim.symm(h:Sim a b):Sim b a:=by
 obtain⟨k,C,rfl⟩:=h;refine⟨k⁻¹,λh=>by have h1:=Dz k C;rw[h]at h1;grind,?_⟩;have:=Dz k C;unfold QR.smul;ext<;>simp only<;>grind
theorem Sim.trans{c:QR}(h:Sim a b)(h2:Sim b c):Sim a c:=by
 obtain⟨k,C,rfl⟩:=h;obtain⟨l,hl,rfl⟩:=h2;exact⟨l*k,eK hl C,by unfold QR.smul;ext<;>simp only<;>grind⟩
theorem Sim.mul{a' C:QR}(h:Sim a a')(h2:Sim b C):Sim (a.mul b) (a'.mul C):=by
 obtain⟨k,F,rfl⟩:=h;obtain⟨l,hl,rfl⟩:=h2;exact⟨k*l,eK F hl,by unfold QR.smul QR.mul;ext<;>simp only<;>grind⟩
theorem Sim.conj(h:Sim a b):Sim a.conj b.conj:=by
 obtain⟨k,C,rfl⟩:=h;exact⟨k,C,by unfold QR.smul QR.conj;ext<;>simp only<;>grind⟩
theorem Sim.nrm(h:Sim a b)(ha:a.nrm≠0):b.nrm≠0:=by
 obtain⟨k,C,rfl⟩:=h;rw[vJ];exact eK (eK C C) ha
theorem rot_smul(k:Rat)(q:QR)(v:VR):(QR.smul k q).rot v=(q.rot v).smul (k*k):=by unfold QR.rot QR.smul VR.smul;ext<;>simp only<;>grind
theorem smul_smul(k l:Rat)(v:VR):(v.smul k).smul l=v.smul (l*k):=by unfold VR.smul;ext<;>simp only<;>grind
theorem app_sim(h:Sim a b)(ha:a.nrm≠0)(v:VR):a.app v=b.app v:=by
 obtain⟨k,C,rfl⟩:=h;unfold QR.app;rw[rot_smul,vJ,smul_smul]
 congr 1
 have h1:=Dz _ ha;have h2:=Dz _ (eK (eK C C) ha);have h3:(k*k*a.nrm)⁻¹=(k*k)⁻¹*(a.nrm)⁻¹:=by rw[Rat.inv_mul_rev,Rat.mul_comm]
 have F:=Dz _ (eK C C);rw[h3];grind
structure Qq where
 w:Fq
 x:Fq
 y:Fq
 z:Fq
def Qq.r(q:Qq):QR:=⟨q.w.v,q.x.v,q.y.v,q.z.v⟩
def Qq.axis(q:Qq):Vq:=⟨q.x,q.y,q.z⟩
def Vq.r(a:Vq):VR:=⟨a.x.v,a.y.v,a.z.v⟩
structure Qq.comp(q:Qq):Prop where
 w:q.w.valid=true
 x:q.x.valid=true
 y:q.y.valid=true
 z:q.z.valid=true
variable{q:Qq}
theorem Qq.comp.axis(h:q.comp):q.axis.good:=⟨h.x,h.y,h.z⟩
def Qq.first(q:Qq):Fq:=if q.w.p≠0 then q.w else if q.x.p≠0 then q.x else if q.y.p≠0 then q.y else q.z
def Qq.over(q:Qq)(n:Fq):Qq:=⟨q.w.div n,q.x.div n,q.y.div n,q.z.div n⟩
def Qq.zero:Qq:=⟨.zero,.zero,.zero,.zero⟩
def Qq.canon(q:Qq):Qq:=if q.first.p=0 then .zero else q.over q.first
structure Qq.good(q:Qq):Prop where
 comp:q.comp
 one:q.first.v=1
def Qq.id:Qq:=⟨.ofInt 1,.ofInt 0,.ofInt 0,.ofInt 0⟩
section
variable {p q:Qq}
theorem Qq.comp.first(h:q.comp):q.first.valid=true:=by
 unfold Qq.first;split
 ·exact h.w
 ·split
  ·exact h.x
  ·split
   ·exact h.y
   ·exact h.z
theorem Qq.comp.over(h:q.comp){n:Fq}(hn:n.p≠0):(q.over n).comp:=⟨iE h.w hn,iE h.x hn,iE h.y hn,iE h.z hn⟩
theorem vK{a n:Fq}(ha:a.valid=true)(hn:n.valid=true)(h0:n.p≠0):(a.div n).v=a.v / n.v:=v_div (Fq.valid.n ha) (Fq.valid.n hn) h0
theorem p_v{a:Fq}(ha:a.valid=true):a.v=0↔a.p=0:=v_eq0 (Fq.valid.n ha)
theorem over_r(h:q.comp){n:Fq}(hn:n.valid=true)(h0:n.p≠0):(q.over n).r=QR.smul (n.v)⁻¹ q.r:=by
 unfold Qq.r Qq.over QR.smul;simp only;rw[vK h.w hn h0,vK h.x hn h0,vK h.y hn h0,vK h.z hn h0]
 ext<;>simp only[Rat.div_def]<;>grind
theorem jG(h:q.comp):q.first.p≠0↔q.r.nrm≠0:=by
 rw[show(q.r.nrm≠0)↔_ from not_congr nrm_zero];unfold Qq.r Qq.first;simp only;have h1:=p_v h.w;have h2:=p_v h.x;have h3:=p_v h.y;have C:=p_v h.z;by_cases c1:q.w.p=0
 ·rw[if_neg (by simpa using c1)];by_cases c2:q.x.p=0
  ·rw[if_neg (by simpa using c2)];by_cases c3:q.y.p=0
   ·rw[if_neg (by simpa using c3)];constructor
    ·intro c h;exact c (C.1 h.2.2.2)
    ·intro c h;exact c ⟨h1.2 c1,h2.2 c2,h3.2 c3,C.2 h⟩
   ·rw[if_pos c3];exact⟨λ_ h=>c3 (h3.1 h.2.2.1),λ_=>c3⟩
  ·rw[if_pos c2];exact⟨λ_ h=>c2 (h2.1 h.2.1),λ_=>c2⟩
 ·rw[if_pos c1];exact⟨λ_ h=>c1 (h1.1 h.1),λ_=>c1⟩
theorem tw{k:Rat}(C:k≠0):k⁻¹≠0:=λh=>by have h1:=Dz k C;rw[h]at h1;grind
theorem nQ(h:q.comp)(h0:q.first.p≠0):Sim q.r q.canon.r:=by
 unfold Qq.canon;rw[if_neg h0];exact⟨_,tw (λe=>h0 ((p_v h.first).1 e)),over_r h h.first h0⟩
def QR.fst(a:QR):Rat:=if a.w≠0 then a.w else if a.x≠0 then a.x else if a.y≠0 then a.y else a.z
theorem mC(h:q.comp):q.first.v=q.r.fst:=by
 unfold Qq.first QR.fst Qq.r;simp only;have h1:=p_v h.w;have h2:=p_v h.x;have h3:=p_v h.y;by_cases c1:q.w.p=0
 ·have C:=h1.2 c1;simp only[c1,C,ne_eq,not_true_eq_false,if_false];by_cases c2:q.x.p=0
  ·have F:=h2.2 c2;simp only[c2,F,not_true_eq_false,if_false];by_cases c3:q.y.p=0
   ·have G:=h3.2 c3;simp only[c3,G,not_true_eq_false,if_false]
   ·have G:¬q.y.v=0:=λe=>c3 (h3.1 e)
    simp only[c3,G,not_false_eq_true,if_true]
  ·have F:¬q.x.v=0:=λe=>c2 (h2.1 e)
   simp only[c2,F,not_false_eq_true,if_true]
 ·have C:¬q.w.v=0:=λe=>c1 (h1.1 e)
  simp only[c1,C,ne_eq,not_false_eq_true,if_true]
theorem pN(k:Rat)(C:k≠0)(a:QR):(QR.smul k a).fst=k*a.fst:=by
 unfold QR.fst QR.smul;simp only;have hz:∀r:Rat,k*r≠0↔r≠0:=λr=>⟨λh e=>h (by rw[e];grind),λh=>eK C h⟩
 by_cases c1:a.w≠0
 ·rw[if_pos ((hz _).2 c1),if_pos c1]
 ·rw[if_neg (λh=>c1 ((hz _).1 h)),if_neg c1];by_cases c2:a.x≠0
  ·rw[if_pos ((hz _).2 c2),if_pos c2]
  ·rw[if_neg (λh=>c2 ((hz _).1 h)),if_neg c2];by_cases c3:a.y≠0
   ·rw[if_pos ((hz _).2 c3),if_pos c3]
   ·rw[if_neg (λh=>c3 ((hz _).1 h)),if_neg c3]
theorem dM(h:q.comp)(h0:q.first.p≠0):q.canon.good:=by
 have hc:q.canon.comp:=by unfold Qq.canon;rw[if_neg h0];exact h.over h0
 refine⟨hc,?_⟩;have hn:q.first.v≠0:=λe=>h0 ((p_v h.first).1 e)
 rw[mC hc];have e:q.canon.r=QR.smul (q.first.v)⁻¹ q.r:=by unfold Qq.canon;rw[if_neg h0];exact over_r h h.first h0
 rw[e,pN _ (tw hn),<-mC h,Dz _ hn]
theorem vL(hp:p.good)(C:q.good)(h:Sim p.r q.r):p=q:=by
 obtain⟨k,P,e⟩:=h;have h1:=hp.one;have h2:=C.one;rw[mC hp.comp]at h1;rw[mC C.comp,e,pN k P,h1]at h2;obtain rfl:k=1:=Ar
 have F:=congrArg QR.w e;have G:=congrArg QR.x e;have H:=congrArg QR.y e;have I:=congrArg QR.z e;unfold QR.smul Qq.r at F G H I;simp only at F G H I;have f1:=mB hp.comp.w C.comp.w Ar;have f2:=mB hp.comp.x C.comp.x Ar;have J:=mB hp.comp.y C.comp.y Ar;have K:=mB hp.comp.z C.comp.z Ar;cases p;cases q;simp only at f1 f2 J K;subst f1;subst f2;subst J;subst K;rfl
theorem fm(h:q.good):q.r.nrm≠0:=(jG h.comp).1 (λe=>by have h1:=(p_v h.comp.first).2 e;rw[h.one]at h1;exact absurd h1 it)
theorem oZ:Qq.id.good:=by
 refine⟨⟨aA 1,aA 0,aA 0,aA 0⟩,?_⟩;have e:Qq.id.first=Fq.ofInt 1:=rfl;rw[e,dx];rfl
theorem id_r:Qq.id.r=QR.one:=by unfold Qq.id Qq.r QR.one;simp only[dx];rfl
def Qq.hamV(p q:Qq):Vq:=((q.axis.scale p.w).add (p.axis.scale q.w)).add (p.axis.cross q.axis)
def Qq.hamW(p q:Qq):Fq:=(p.w.mul q.w).sub (p.axis.dot q.axis)
def Qq.ham(p q:Qq):Qq:=⟨p.hamW q,(p.hamV q).x,(p.hamV q).y,(p.hamV q).z⟩
def Qq.mul(p q:Qq):Qq:=(p.ham q).canon
def Qq.inv(q:Qq):Qq:=(Qq.mk q.w (q.axis.scale (.ofInt (-1))).x (q.axis.scale (.ofInt (-1))).y (q.axis.scale (.ofInt (-1))).z).canon
def Qq.inv'(q:Qq):Qq:=(Qq.mk q.w q.x.neg q.y.neg q.z.neg).canon
theorem nR(hp:p.comp)(C:q.comp):(p.hamV q).good:=((C.axis.scale hp.w).add (hp.axis.scale C.w)).add (hp.axis.cross C.axis)
theorem pO(hp:p.comp)(C:q.comp):(p.ham q).comp:=⟨dy (aM hp.w C.w) (dz hp.axis C.axis),(nR hp C).x,(nR hp C).y,(nR hp C).z⟩
theorem ham_r(hp:p.comp)(C:q.comp):(p.ham q).r=p.r.mul q.r:=by
 have h1:=v_s (aM hp.w C.w) (dz hp.axis C.axis);have h2:=v_m hp.w C.w;have h3:=aaB hp.axis C.axis;have F:=eZ C.axis hp.w;have G:=eZ hp.axis C.w;have H:=aaC hp.axis C.axis;have I:=rV (C.axis.scale hp.w) (hp.axis.scale C.w);have J:=rV ((C.axis.scale hp.w).add (hp.axis.scale C.w)) (hp.axis.cross C.axis);unfold Qq.ham Qq.r QR.mul;simp only
 ext<;>simp only
 ·unfold Qq.hamW;rw[h1,h2,h3];rfl
 ·unfold Qq.hamV;rw[J.1,I.1,F.1,G.1,H.1];rfl
 ·unfold Qq.hamV;rw[J.2.1,I.2.1,F.2.1,G.2.1,H.2.1];rfl
 ·unfold Qq.hamV;rw[J.2.2,I.2.2,F.2.2,G.2.2,H.2.2];rfl
theorem pP(hp:p.good)(C:q.good):(p.ham q).first.p≠0:=by
 rw[jG (pO hp.comp C.comp),ham_r hp.comp C.comp,nrm_mul];exact eK (fm hp) (fm C)
theorem fo(hp:p.good)(C:q.good):(p.mul q).good:=dM (pO hp.comp C.comp) (pP hp C)
theorem aaD(hp:p.good)(C:q.good):Sim (p.r.mul q.r) (p.mul q).r:=by
 have h:=nQ (pO hp.comp C.comp) (pP hp C);rw[ham_r hp.comp C.comp]at h;exact h
theorem yv(C:q.comp):Qq.mk q.w (q.axis.scale (.ofInt (-1))).x (q.axis.scale (.ofInt (-1))).y (q.axis.scale (.ofInt (-1))).z=Qq.mk q.w q.x.neg q.y.neg q.z.neg:=by
 have h:=eZ C.axis (aA (-1));have F:=C.axis.scale (aA (-1));have h1:=dx (-1);rw[h1]at h;have G:=mB F.x (eJ C.x) (by rw[h.1,vI];show q.x.v*_=_;grind);have H:=mB F.y (eJ C.y) (by rw[h.2.1,vI];show q.y.v*_=_;grind);have I:=mB F.z (eJ C.z) (by rw[h.2.2,vI];show q.z.v*_=_;grind);rw[G,H,I]
theorem pQ(C:q.comp):q.inv=q.inv':=by unfold Qq.inv Qq.inv';rw[yv C]
theorem nS(C:q.comp):(Qq.mk q.w q.x.neg q.y.neg q.z.neg).comp:=⟨C.w,eJ C.x,eJ C.y,eJ C.z⟩
theorem conj_r:(Qq.mk q.w q.x.neg q.y.neg q.z.neg).r=q.r.conj:=by unfold Qq.r QR.conj;simp only[vI]
theorem mD(C:q.good):(Qq.mk q.w q.x.neg q.y.neg q.z.neg).first.p≠0:=by rw[jG (nS C.comp),conj_r,nrm_conj];exact fm C
theorem aS(C:q.good):q.inv.good:=by rw[pQ C.comp];exact dM (nS C.comp) (mD C)
theorem aaE(C:q.good):Sim q.r.conj q.inv.r:=by
 rw[pQ C.comp];have h:=nQ (nS C.comp) (mD C);rw[conj_r]at h;exact h
variable {a b c:Qq}
end
def Qq.nn(q:Qq):Fq:=(q.w.mul q.w).add (q.axis.dot q.axis)
def Qq.dd(q:Qq):Fq:=(q.w.mul q.w).sub (q.axis.dot q.axis)
def Qq.ap1(q:Qq)(v:Vq):Vq:=v.scale q.dd
def Qq.ap2(q:Qq)(v:Vq):Vq:=q.axis.scale ((Fq.ofInt 2).mul (q.axis.dot v))
def Qq.ap3(q:Qq)(v:Vq):Vq:=(q.axis.cross v).scale ((Fq.ofInt 2).mul q.w)
def Qq.rat(q:Qq):Fq:=(Fq.ofInt 1).div q.nn
def Qq.app(q:Qq)(v:Vq):Vq:=(((q.ap1 v).add (q.ap2 v)).add (q.ap3 v)).scale q.rat
section
variable {p q d:Qq} {v x y a b:Vq} {t:Fq}
theorem vM(h:q.comp):q.nn.valid=true:=dN (aM h.w h.w) (dz h.axis h.axis)
theorem vO(h:q.comp):q.dd.valid=true:=dy (aM h.w h.w) (dz h.axis h.axis)
theorem nn_v(h:q.comp):q.nn.v=q.r.nrm:=by
 unfold Qq.nn;rw[v_a (aM h.w h.w) (dz h.axis h.axis),v_m h.w h.w,aaB h.axis h.axis];rfl
theorem dd_v(h:q.comp):q.dd.v=q.w.v*q.w.v - (q.x.v*q.x.v+(q.y.v*q.y.v+q.z.v*q.z.v)):=by
 unfold Qq.dd;rw[v_s (aM h.w h.w) (dz h.axis h.axis),v_m h.w h.w,aaB h.axis h.axis];rfl
theorem vP(h:q.good):q.nn.p≠0:=λe=>fm h (by rw[<-nn_v h.comp];exact(p_v (vM h.comp)).2 e)
theorem mE(h:q.comp)(C:v.good):(q.ap1 v).good:=C.scale (vO h)
theorem mF(h:q.comp)(C:v.good):(q.ap2 v).good:=h.axis.scale (aM (aA 2) (dz h.axis C))
theorem pR(h:q.comp)(C:v.good):(q.ap3 v).good:=(h.axis.cross C).scale (aM (aA 2) h.w)
theorem rW(h:q.good):q.rat.valid=true:=iE (aA 1) (vP h)
theorem rat_v(h:q.good):q.rat.v=(q.r.nrm)⁻¹:=by
 unfold Qq.rat;rw[vK (aA 1) (vM h.comp) (vP h),dx,nn_v h.comp,Rat.div_def];exact Rat.one_mul _
theorem pS(h:q.good)(C:v.good):(q.app v).good:=(((mE h.comp C).add (mF h.comp C)).add (pR h.comp C)).scale (rW h)
theorem ap_v(h:q.comp)(C:v.good):
  ((q.ap1 v).x.v+(q.ap2 v).x.v+(q.ap3 v).x.v=(q.r.rot v.r).x)/\((q.ap1 v).y.v+(q.ap2 v).y.v+(q.ap3 v).y.v=(q.r.rot v.r).y)/\((q.ap1 v).z.v+(q.ap2 v).z.v+(q.ap3 v).z.v=(q.r.rot v.r).z):=by
 have h1:=dd_v h;have h2:=aaB h.axis C;have h3:=v_m (aA 2) (dz h.axis C);have K:=v_m (aA 2) h.w;have J:=dx 2;have I:=aaC h.axis C;have F:=eZ C (vO h);have G:=eZ h.axis (aM (aA 2) (dz h.axis C));have H:=eZ (h.axis.cross C) (aM (aA 2) h.w);rw[h1]at F;rw[h3,h2,J]at G;rw[K,J,I.1,I.2.1,I.2.2]at H;unfold Qq.ap1 Qq.ap2 Qq.ap3;rw[F.1,F.2.1,F.2.2,G.1,G.2.1,G.2.2,H.1,H.2.1,H.2.2];unfold QR.rot Vq.r Qq.r Qq.axis;simp only;refine⟨?_,?_,?_⟩<;>grind
theorem app_r(h:q.good)(C:v.good):(q.app v).r=q.r.app v.r:=by
 have h0:=ap_v h.comp C;have h1:=rV (mE h.comp C) (mF h.comp C);have h2:=rV ((mE h.comp C).add (mF h.comp C)) (pR h.comp C);have h3:=eZ (((mE h.comp C).add (mF h.comp C)).add (pR h.comp C)) (rW h);have F:=rat_v h;unfold Qq.app QR.app VR.smul
 ext<;>simp only[Vq.r]
 ·rw[h3.1,h2.1,h1.1,h0.1,F];exact Rat.mul_comm _ _
 ·rw[h3.2.1,h2.2.1,h1.2.1,h0.2.1,F];exact Rat.mul_comm _ _
 ·rw[h3.2.2,h2.2.2,h1.2.2,h0.2.2,F];exact Rat.mul_comm _ _
def Qq.way(p d:Qq)(t:Fq):Qq:=p.mul (Qq.mk (.ofInt 1) (d.axis.scale t).x (d.axis.scale t).y (d.axis.scale t).z).canon
theorem iF(C:d.comp)(ht:t.valid=true):(Qq.mk (.ofInt 1) (d.axis.scale t).x (d.axis.scale t).y (d.axis.scale t).z).comp:=
 ⟨aA 1,(C.axis.scale ht).x,(C.axis.scale ht).y,(C.axis.scale ht).z⟩
theorem pT:(Qq.mk (.ofInt 1) (d.axis.scale t).x (d.axis.scale t).y (d.axis.scale t).z).first=Fq.ofInt 1:=rfl
theorem fL:(Qq.mk (.ofInt 1) (d.axis.scale t).x (d.axis.scale t).y (d.axis.scale t).z).first.p≠0:=by rw[pT];decide
theorem way_good(hp:p.good)(C:d.comp)(ht:t.valid=true):(p.way d t).good:=fo hp (dM (iF C ht) fL)
theorem rX(C:d.comp)(ht:t.valid=true):(Qq.mk (.ofInt 1) (d.axis.scale t).x (d.axis.scale t).y (d.axis.scale t).z).good:=
 ⟨iF C ht,by rw[pT,dx];rfl⟩
theorem yw(h:q.good):q.canon=q:=
 vL (dM h.comp ((jG h.comp).2 (fm h))) h (nQ h.comp ((jG h.comp).2 (fm h))).symm
end
structure Vq.ok(d:Nat)(a:Vq):Prop where
 x:a.x.ok d
 y:a.y.ok d
 z:a.z.ok d
structure Qq.ok(d:Nat)(q:Qq):Prop where
 w:q.w.ok d
 x:q.x.ok d
 y:q.y.ok d
 z:q.z.ok d
section
variable {a b:Vq} {k:Fq} {p q:Qq} {d e f:Nat}
theorem Vq.ok.mono(h:a.ok d)(C:d<=e):a.ok e:=⟨h.x.mono C,h.y.mono C,h.z.mono C⟩
theorem Qq.ok.mono(h:q.ok d)(C:d<=e):q.ok e:=⟨h.w.mono C,h.x.mono C,h.y.mono C,h.z.mono C⟩
theorem Qq.ok.axis(h:q.ok d):q.axis.ok d:=⟨h.x,h.y,h.z⟩
theorem Vq.ok.add(h:a.ok d)(k:b.ok e):(a.add b).ok (2*(d+e)+1):=⟨(h.x.add k.x).mono no,(h.y.add k.y).mono no,(h.z.add k.z).mono no⟩
theorem Vq.ok.sub(h:a.ok d)(k:b.ok e):(a.sub b).ok (2*(d+e)+1):=⟨(h.x.sub k.x).mono no,(h.y.sub k.y).mono no,(h.z.sub k.z).mono no⟩
theorem Vq.ok.scale(h:a.ok d)(C:k.ok e):(a.scale k).ok (d+e):=⟨h.x.mul C,h.y.mul C,h.z.mul C⟩
theorem Vq.ok.dot(h:a.ok d)(k:b.ok e):(a.dot b).ok (10*(d+e)+3):=((h.x.mul k.x).add ((h.y.mul k.y).add (h.z.mul k.z))).mono no
theorem Vq.ok.cross(h:a.ok d)(k:b.ok e):(a.cross b).ok (4*(d+e)+1):=⟨((h.y.mul k.z).sub (h.z.mul k.y)).mono no,((h.z.mul k.x).sub (h.x.mul k.z)).mono no,((h.x.mul k.y).sub (h.y.mul k.x)).mono no⟩
theorem Vq.ok.lerp(h:a.ok d)(F:b.ok e)(C:k.ok f):(a.lerp b k).ok (2*(d+(2*(e+d)+1+f))+1):=h.add ((F.sub h).scale C)
theorem Qq.ok.first(h:q.ok d):q.first.ok d:=by
 unfold Qq.first;split
 ·exact h.w
 ·split
  ·exact h.x
  ·split
   ·exact h.y
   ·exact h.z
theorem Qq.ok.over(h:q.ok d){n:Fq}(hn:n.ok e)(h0:n.p≠0):(q.over n).ok (d+e):=⟨h.w.div hn h0,h.x.div hn h0,h.y.div hn h0,h.z.div hn h0⟩
theorem Qq.ok.canon(h:q.ok d)(h0:q.first.p≠0):q.canon.ok (d+d):=by unfold Qq.canon;rw[if_neg h0];exact h.over h.first h0
theorem Qq.ok.hamW(h:p.ok d)(k:q.ok e):(p.hamW q).ok (22*(d+e)+7):=((h.w.mul k.w).sub (h.axis.dot k.axis)).mono no
theorem Qq.ok.hamV(h:p.ok d)(k:q.ok e):(p.hamV q).ok (16*(d+e)+5):=(((k.axis.scale h.w).add (h.axis.scale k.w)).add (h.axis.cross k.axis)).mono no
theorem Qq.ok.ham(h:p.ok d)(k:q.ok e):(p.ham q).ok (22*(d+e)+7):=⟨h.hamW k,(h.hamV k).x.mono no,(h.hamV k).y.mono no,(h.hamV k).z.mono no⟩
theorem Qq.ok.mul(h:p.ok d)(k:q.ok e)(h0:(p.ham q).first.p≠0):(p.mul q).ok (44*(d+e)+14):=((h.ham k).canon h0).mono no
end
structure Rq where
 s:Bool
 L:Nat
 p:Nat
 N:Nat
 q:Nat
def Fq.raw(x:Fq):Rq:=⟨x.s,nl x.p,x.p,nl x.q,x.q⟩
def bo(w:World):List Rq->List Value->Prop
 | [],cs=>cs=[]
 | r::l,cs=>∃a c b d cs',cs= .bool r.s::.slice a r.L c::.slice b r.N d::cs'/\IsR w (.agg #[.slice a r.L c]) r.L r.p/\IsR w (.agg #[.slice b r.N d]) r.N r.q/\bo w l cs'
section
variable {w w':World} {g g':Nat} {l:List Rq} {cs:List Value} {T:TypeId}
theorem bo.mono(h:bo w l cs)(hb:mBw w w'):bo w' l cs:=by
 induction l generalizing cs with
 | nil=>exact h
 | cons r l ih=>obtain⟨a,c,b,d,C,e,h1,h2,h3⟩:=h;exact⟨a,c,b,d,C,e,h1.mono hb,h2.mono hb,ih h3⟩
theorem bo.upd(h:bo w l cs)(o:Own w g)(u:Upd w g w'):bo w' l cs:=by
 induction l generalizing cs with
 | nil=>exact h
 | cons r l ih=>obtain⟨a,c,b,d,C,e,h1,h2,h3⟩:=h;exact⟨a,c,b,d,C,e,h1.upd o u,h2.upd o u,ih h3⟩
theorem bo.noInt(h:bo w l cs)(k:Nat)(n:Int):cs[k]? ≠some (Value.int .u32 n):=by
 induction l generalizing cs k with
 | nil=>have e:cs=[]:=h;rw[e];simp
 | cons r l ih=>
  obtain⟨a,c,b,d,C,e,_,_,h3⟩:=h;rw[e]
  match k with
  | 0=>intro h;cases h
  | 1=>intro h;cases h
  | 2=>intro h;cases h
  | k+3=>exact ih h3 k
def IsL(w:World)(v:Value)(l:List Rq):Prop:=∃cs,v= .agg cs.toArray/\bo w l cs
theorem IsL.mono{v:Value}(h:IsL w v l)(hb:mBw w w'):IsL w' v l:=by obtain⟨cs,e,h⟩:=h;exact⟨cs,e,h.mono hb⟩
end
section
variable {Q:Exit->Act->World->Prop} {o:Oper} {a:Act} {w:World} {x y:Operand} {g k:Nat} {l:List Rq} {r:Rq} {T:TypeId}
end
section
variable {Q:Exit->Act->World->Prop} {o:Oper} {a:Act} {w:World} {x y z u:Operand} {f:FuncId} {tt:Array TypeId} {S S1 S2 S3:Sp} {R:World->BB->World->Prop}
end
def fr3(x:Fq):Rho:=[.val (.bool x.s),.dig (nl x.p) x.p,.dig (nl x.q) x.q]
def frs:List Fq->Rho
 | []=>[]
 | x::xs=>.val (.bool x.s)::.dig (nl x.p) x.p::.dig (nl x.q) x.q::frs xs
def leaf3(k:Nat):List Leaf:=[.ref (3*k),.ref (3*k+1),.ref (3*k+2)]
def fr(k:Nat):SV:=.agg (leaf3 k)
def oG:List Nat->List Leaf
 | []=>[]
 | k::ks=>.ref (3*k)::.ref (3*k+1)::.ref (3*k+2)::oG ks
def row(ks:List Nat):SV:=.agg (oG ks)
def AtL(xs:List Fq):List Nat->List Fq->Prop
 | [],[]=>True
 | k::ks,x::vs=>xs[k]? =some x/\AtL xs ks vs
 | _,_=>False
section
variable {xs:List Fq} {ys:Rho} {x y z:Fq} {i j k:Nat} {B:Blk} {w:World} {v:Value}
theorem frs_at:∀ {xs:List Fq} {k:Nat} {x:Fq},xs[k]? =some x->(frs xs++ys)[3*k]? =some (.val (.bool x.s))/\(frs xs++ys)[3*k+1]? =some (.dig (nl x.p) x.p)/\(frs xs++ys)[3*k+2]? =some (.dig (nl x.q) x.q)
 | [],_,_,h=>Ao
 | x::xs,0,y,h=>by simp at h;subst h;exact⟨rfl,rfl,rfl⟩
 | x::xs,k+1,y,h=>by
  have:=frs_at (xs:=xs) (k:=k) (x:=y) Au;simpa [frs,Nat.mul_add]using this
theorem leaf_s{s:Bool}(h:(frs xs++ys)[i]? =some (.val (.bool s))):(Leaf.ref i).holds (frs xs++ys) B w v↔v= .bool s:=leafB h
theorem tx{L N:Nat}(h:(frs xs++ys)[i]? =some (.dig L N)):(Leaf.ref i).holds (frs xs++ys) B w v↔IsR w (.agg #[v]) L N:=pM h
theorem rY{L N:Nat}(h:IsR w (.agg #[v]) L N):∃a c,v= .slice a L c:=by
 obtain⟨a,c,e,_⟩:=h;have C:v= .slice a L c:=by
  injection e with e;have:=congrArg (λx:Array Value=>x[0]?) e;simpa using this
 exact⟨a,c,C⟩
theorem eL:∀ {ks:List Nat} {vs:List Fq} {cs:List Value},AtL xs ks vs->(aD (frs xs++ys) B w (oG ks) cs↔bo w (vs.map Fq.raw) cs)
 | [],[],cs,_=>by
  constructor
  ·intro h;match cs,h with | [],_=>rfl
  ·intro h;have h:cs=[]:=h;subst h;trivial
 | k::ks,x::vs,cs,h=>by
  obtain⟨h1,h2,h3⟩:=frs_at (ys:=ys) h.1;have H:=λcs=>eL (ks:=ks) (vs:=vs) (cs:=cs) h.2
  constructor
  ·intro hl
   match cs,hl with
   | u1::u2::u3::C,hl=>
    obtain⟨g1,g2,J,K⟩:=hl;have I:=(leaf_s h1).1 g1;have F:=(tx h2).1 g2;have G:=(tx h3).1 J;obtain⟨a,c,rfl⟩:=rY F;obtain⟨b,d,rfl⟩:=rY G;subst I;exact⟨a,c,b,d,C,rfl,F,G,(H C).1 K⟩
   | [],hl=>exact hl.elim
   | [_],hl=>exact hl.2.elim
   | [_,_],hl=>exact hl.2.2.elim
  ·rintro⟨a,c,b,d,C,rfl,P,U,V⟩;exact⟨(leaf_s h1).2 rfl,(tx h2).2 P,(tx h3).2 U,(H C).2 V⟩
 | [],_::_,_,h=>h.elim
 | _::_,[],_,h=>h.elim
theorem af{ks:List Nat}{vs:List Fq}(h:AtL xs ks vs):(row ks).holds (frs xs++ys) B w v↔IsL w v (vs.map Fq.raw):=by
 constructor
 ·rintro⟨cs,rfl,h1⟩;exact⟨cs,rfl,(eL h).1 h1⟩
 ·rintro⟨cs,rfl,h1⟩;exact⟨cs,rfl,(eL h).2 h1⟩
theorem aw(k:Nat)(xs:List Fq)(h:xs[k]? =some x):(fr k).holds (frs xs++ys) B w v↔IsQ w v x:=by
 have:=af (ys:=ys) (B:=B) (w:=w) (v:=v) (ks:=[k]) (vs:=[x]) ⟨h,trivial⟩;show(row [k]).holds _ B w v↔_;rw[this];constructor
 ·rintro⟨cs,rfl,a,c,b,d,C,rfl,F,G,e⟩;have e:C=[]:=e;subst e;exact⟨a,c,b,d,rfl,F,G⟩
 ·rintro⟨a,c,b,d,rfl,F,G⟩;exact⟨_,rfl,a,c,b,d,[],rfl,F,G,rfl⟩
abbrev OkI(xs:List Fq)(ys:Rho)(i:Inst):Prop:=i.Ok AB (frs xs++ys)
variable{f:FuncId}
theorem cR0(xs:List Fq)(args:List SV)(vs:List Value)(r:AV){w:World}{C:List Inst}(F:∀i∈C,i.Ok0 AB (frs xs++ []) (.of w)){fn:Func}(hf:AB.funcs[f]? =some fn)(ha:cO (frs xs++ []) noB w args vs)(h:rQ AB C [] fn args 300=some r:=by kernel_rfl):AC AB f vs.toArray w (λe w'=>∃v,e= .returned v/\r.holds (frs xs++ []) noB w' v/\Below w.heap.size w w'):=gP F az Aa hf h ha
theorem cR1(xs:List Fq)(ys:List Vp)(args:List SV)(vs:List Value)(r:AV){w:World}{C:List Inst}{L:List OIns}(F:∀i∈C,i.Ok0 AB (frs xs++ys) (.of w))(G:∀i∈L,i.OkE (.of w) AB (frs xs++ys)){fn:Func}(hf:AB.funcs[f]? =some fn)(ha:cO (frs xs++ys) noB w args vs)(h:rQ AB C L fn args 300=some r:=by kernel_rfl):AC AB f vs.toArray w (λe w'=>∃v,e= .returned v/\r.holds (frs xs++ys) noB w' v/\Below w.heap.size w w'):=gP F G Aa hf h ha
theorem inst1(C:kH f)(hc:∀va w,IsQ w va x->AC AB f #[va] w (λe w'=>fg w z e w'))(hi:xs[i]? =some x)(F:xs[k]? =some z):OkI xs ys ⟨f,[fr i],.v (fr k)⟩:=
 ⟨C,λB w vs G h=>by
  match vs,h with
  | [va],h=>
   refine(hc va w ((aw _ _ hi).1 h.1)).mono ?_;exact mMo λh=>(aw _ _ F).2 h⟩
theorem rZ(C:kH f)(hc:∀va vb w,IsQ w va x->IsQ w vb y->AC AB f #[va,vb] w (λe w'=>fg w z e w'))(hi:xs[i]? =some x)(F:xs[j]? =some y)(G:xs[k]? =some z):OkI xs ys ⟨f,[fr i,fr j],.v (fr k)⟩:=
 ⟨C,λB w vs H h=>by
  match vs,h with
  | [va,vb],h=>
   refine(hc va vb w ((aw _ _ hi).1 h.1) ((aw _ _ F).1 h.2.1)).mono ?_;exact mMo λh=>(aw _ _ G).2 h⟩
end
section
variable {xs:List Fq} {ys ρ:Rho} {x y z:Fq} {i j k n:Nat} {u c:Int} {b d:Bool} {l:Leaf} {f:FuncId} {op:BinOp} {t:TypeId}
theorem tA{v:Value}(C:kH f)(hc:∀va w,IsQ w va x->AC AB f #[va] w (λe w'=>bI w v e w'))(hi:xs[i]? =some x)(hl:∀B w,l.holds (frs xs++ys) B w v):OkI xs ys ⟨f,[fr i],.v (.one l)⟩:=
 ⟨C,λB w vs F h=>by
  match vs,h with
  | [va],h=>
   refine(hc va w ((aw _ _ hi).1 h.1)).mono ?_;rintro e w' ⟨rfl,h2⟩;exact⟨_,rfl,hl B w',h2⟩⟩
theorem inst2V{v:Value}(C:kH f)(hc:∀va vb w,IsQ w va x->IsQ w vb y->AC AB f #[va,vb] w (λe w'=>bI w v e w'))(hi:xs[i]? =some x)(F:xs[j]? =some y)(hl:∀B w,l.holds (frs xs++ys) B w v):OkI xs ys ⟨f,[fr i,fr j],.v (.one l)⟩:=
 ⟨C,λB w vs G h=>by
  match vs,h with
  | [va,vb],h=>
   refine(hc va vb w ((aw _ _ hi).1 h.1) ((aw _ _ F).1 h.2.1)).mono ?_;rintro e w' ⟨rfl,h2⟩;exact⟨_,rfl,hl B w',h2⟩⟩
theorem inst2E(C:kH f)(hc:∀va vb w,IsQ w va x->IsQ w vb y->AC AB f #[va,vb] w (λe w'=>pn w z c e w'))(hi:xs[i]? =some x)(F:xs[j]? =some y)(G:xs[k]? =some z):OkI xs ys ⟨f,[fr i,fr j],.tup [fr k,.one (.i .i64 c)]⟩:=
 ⟨C,λB w vs H h=>by
  match vs,h with
  | [va,vb],h=>
   refine(hc va vb w ((aw _ _ hi).1 h.1) ((aw _ _ F).1 h.2.1)).mono ?_;rintro e w' ⟨v,rfl,h1,h2⟩;exact⟨_,rfl,⟨[v,.int .i64 c],rfl,(aw _ _ G).2 h1,rfl,trivial⟩,h2⟩⟩
theorem instIQ(C:kH f)(hc:∀w,AC AB f #[.int .i64 u] w (λe w'=>fg w z e w'))(F:xs[k]? =some z):OkI xs ys ⟨f,[.one (.i .i64 u)],.v (fr k)⟩:=
 ⟨C,λB w vs G h=>by
  match vs,h with
  | [va],h=>
   have e:va= .int .i64 u:=h.1;subst e;refine(hc w).mono ?_;exact mMo λh=>(aw _ _ F).2 h⟩
theorem jH(i j k:Nat)(hi:xs[i]? =some x)(C:xs[j]? =some y)(F:xs[k]? =some (x.mul y))(G:x.ok 1000000000)(H:y.ok 1000000000):OkI xs ys ⟨136,[fr i,fr j],.v (fr k)⟩:=
 rZ (ah Tryz.func136 rfl rfl) (λva vb w h1 h2=>q_fMul va vb x y w h1 h2 G H) hi C F
theorem nT(i j k:Nat)(hi:xs[i]? =some x)(C:xs[j]? =some y)(F:xs[k]? =some (x.add y))(G:x.ok 1000000000)(H:y.ok 1000000000):OkI xs ys ⟨85,[fr i,fr j],.v (fr k)⟩:=
 rZ (ah Tryz.func85 rfl rfl) (λva vb w h1 h2=>q_fAdd va vb x y w h1 h2 G H) hi C F
theorem nU(i j k:Nat)(hi:xs[i]? =some x)(C:xs[j]? =some y)(F:xs[k]? =some (x.sub y))(G:x.ok 1000000000)(H:y.ok 1000000000):OkI xs ys ⟨82,[fr i,fr j],.v (fr k)⟩:=
 rZ (ah Tryz.func82 rfl rfl) (λva vb w h1 h2=>q_fSub va vb x y w h1 h2 G H) hi C F
theorem dl(i j k:Nat)(hi:xs[i]? =some x)(C:xs[j]? =some y)(F:xs[k]? =some (x.div y))(G:x.ok 1000000000)(H:y.ok 1000000000)(h0:y.p≠0):OkI xs ys ⟨234,[fr i,fr j],.tup [fr k,.one (.i .i64 0)]⟩:=
 inst2E (ah Tryz.func234 rfl rfl) (λva vb w h1 h2=>q_fDiv va vb x y w h1 h2 G H h0) hi C F
theorem aT(i:Nat)(hi:xs[i]? =some x)(hl:∀B w,l.holds (frs xs++ys) B w (.int .i64 x.sgn))(C:x.ok 1000000000000):OkI xs ys ⟨144,[fr i],.v (.one l)⟩:=
 tA (ah Tryz.func144 rfl rfl) (λva w h1=>aay va x w h1 C) hi hl
theorem bu(i j:Nat)(hi:xs[i]? =some x)(C:xs[j]? =some y)(hl:∀B w,l.holds (frs xs++ys) B w (.int .i64 (x.cmp y)))(F:x.ok 1000000000)(G:y.ok 1000000000):OkI xs ys ⟨83,[fr i,fr j],.v (.one l)⟩:=
 inst2V (ah Tryz.func83 rfl rfl) (λva vb w h1 h2=>q_fCmp va vb x y w h1 h2 F G) hi C hl
theorem dm(k:Nat)(C:xs[k]? =some (.ofInt u))(F: -9223372036854775808<=u)(G:u<9223372036854775808):OkI xs ys ⟨80,[.one (.i .i64 u)],.v (fr k)⟩:=
 instIQ (ah Tryz.func80 rfl rfl) (λw=>q_fInt u w F G) C
theorem aK(i:Nat)(l:Leaf)(hi:xs[i]? =some x)(hl:∀B w,l.holds (frs xs++ys) B w (.bool x.valid))(C:x.ok 1000000):OkI xs ys ⟨235,[fr i],.v (.one l)⟩:=
 tA (ah Tryz.func235 rfl rfl) (λva w h1=>q_fValid va x w h1 C.p C.q) hi hl
theorem dE(i j k:Nat)(hi:xs[i]? =some x)(C:xs[j]? =some y)(F:xs[k]? =some (x.mul y))(G:x.ok 1000000000)(H:y.ok 1000000000):OkI xs ys ⟨293,[fr i,fr j],.v (fr k)⟩:=
 rZ (ah Tryz.func293 rfl rfl) (λva vb w h1 h2=>q_rMul va vb x y w h1 h2 G H) hi C F
theorem jI(i j k:Nat)(hi:xs[i]? =some x)(C:xs[j]? =some y)(F:xs[k]? =some (x.add y))(G:x.ok 1000000000)(H:y.ok 1000000000):OkI xs ys ⟨299,[fr i,fr j],.v (fr k)⟩:=
 rZ (ah Tryz.func299 rfl rfl) (λva vb w h1 h2=>q_rAdd va vb x y w h1 h2 G H) hi C F
theorem lh(i j k:Nat)(hi:xs[i]? =some x)(C:xs[j]? =some y)(F:xs[k]? =some (x.sub y))(G:x.ok 1000000000)(H:y.ok 1000000000):OkI xs ys ⟨292,[fr i,fr j],.v (fr k)⟩:=
 rZ (ah Tryz.func292 rfl rfl) (λva vb w h1 h2=>q_rSub va vb x y w h1 h2 G H) hi C F
theorem yx(i k:Nat)(hi:xs[i]? =some x)(C:xs[k]? =some x.neg)(F:x.ok 1000000000):OkI xs ys ⟨297,[fr i],.v (fr k)⟩:=
 inst1 (ah Tryz.func297 rfl rfl) (λva w h1=>q_rNeg va x w h1 F) hi C
theorem I_rDiv(hi:xs[i]? =some x)(C:xs[j]? =some y)(F:xs[k]? =some (x.div y))(G:x.ok 1000000000)(H:y.ok 1000000000)(h0:y.p≠0):OkI xs ys ⟨307,[fr i,fr j],.tup [fr k,.one (.i .i64 0)]⟩:=
 inst2E (ah Tryz.func307 rfl rfl) (λva vb w h1 h2=>q_rDiv va vb x y w h1 h2 G H h0) hi C F
theorem dA(i:Nat)(hi:xs[i]? =some x)(hl:∀B w,l.holds (frs xs++ys) B w (.int .i64 x.sgn))(C:x.ok 1000000000000):OkI xs ys ⟨269,[fr i],.v (.one l)⟩:=
 tA (ah Tryz.func269 rfl rfl) (λva w h1=>q_rSign va x w h1 C) hi hl
theorem jJ(k:Nat)(C:xs[k]? =some (.ofInt u))(F: -9223372036854775808<=u)(G:u<9223372036854775808):OkI xs ys ⟨51,[.one (.i .i64 u)],.v (fr k)⟩:=
 instIQ (ah Tryz.func51 rfl rfl) (λw=>q_rInt u w F G) C
theorem dp(i:Nat)(l:Leaf)(hi:xs[i]? =some x)(hl:∀B w,l.holds (frs xs++ys) B w (.bool x.valid))(C:x.ok 1000000):OkI xs ys ⟨256,[fr i],.v (.one l)⟩:=
 tA (ah Tryz.func256 rfl rfl) (λva w h1=>q_rValid va x w h1 C.p C.q) hi hl
theorem bm(i j:Nat)(l:Leaf)(hi:xs[i]? =some x)(C:xs[j]? =some y)(hl:∀B w,l.holds (frs xs++ys) B w (.bool (x.same y)))(hp:nl x.p<=1000000000000)(F:nl x.q<=1000000000000)(kp:nl y.p<=1000000000000)(G:nl y.q<=1000000000000):OkI xs ys ⟨121,[fr i,fr j],.v (.one l)⟩:=
 inst2V (ah Tryz.func121 rfl rfl) (λva vb w h1 h2=>q_SameB va vb x y w h1 h2 hp F kp G) hi C hl
theorem dS(h:x.p=0):x.sgn=0:=by unfold Fq.sgn;rw[if_pos h]
theorem sgn_ne{x:Fq}:x.sgn≠0↔x.p≠0:=by
 unfold Fq.sgn;by_cases h:x.p=0
 ·rw[if_pos h];simp[h]
 ·rw[if_neg h];simp only[ne_eq,h,not_false_eq_true,iff_true];split<;>decide
theorem je(h:x.p≠0):(x.sgn==0)=false:=by have:=sgn_ne.2 h;simpa using this
theorem gn(h:x.p≠0):(x.sgn !=0)=true:=by have:=sgn_ne.2 h;simpa using this
theorem jK(h:u≠c):(u==c)=false:=by simpa using h
theorem tB(h:u≠c):(u !=c)=true:=by simpa using h
theorem isR00(w:World):IsR w (.agg #[.slice none 0 0]) 0 0:=⟨none,0,rfl,Nat.le_refl _,Ad,λh=>no⟩
theorem iG{B:Blk}{w:World}:∀ {n:Nat} {cs:List Value},aD ρ B w (DW n [Leaf.b false,.sl0,.sl0]).flatten cs->bo w (DW n Fq.zero.raw) cs
 | 0,cs,h=>by
  match cs,h with
  | [],_=>rfl
 | n+1,cs,h=>by
  match cs,h with
  | u1::u2::u3::cs',h=>
   obtain⟨g1,g2,H,I⟩:=h;have C:u1= .bool false:=g1;have F:u2= .slice none 0 0:=g2;have G:u3= .slice none 0 0:=H;subst C;subst F;subst G;have hz:nl 0=0:=bL;refine⟨none,0,none,0,cs',?_,?_,?_,iG (n:=n) I⟩
   ·simp[Fq.raw,Fq.zero,hz]
   ·simp only[Fq.raw,Fq.zero,hz];exact isR00 w
   ·simp only[Fq.raw,Fq.zero,hz];exact isR00 w
  | [],h=>exact h.elim
  | [_],h=>exact h.2.elim
  | [_,_],h=>exact h.2.2.elim
end
def Vq.cs(v:Vq):List Fq:=[v.x,v.y,v.z]
def Qq.cs(q:Qq):List Fq:=[q.w,q.x,q.y,q.z]
abbrev bX(w:World)(v:Value)(a:Vq):Prop:=IsL w v [a.x.raw,a.y.raw,a.z.raw]
variable{xs:List Fq}{ys:Rho}{B:Blk}{w:World}{ks:List Nat}
theorem rV2{v:Value}{a:Vq}(h:bX w v a)(d:AtL xs ks [a.x,a.y,a.z]:=by exact⟨rfl,rfl,rfl,trivial⟩):(row ks).holds (frs xs++ys) B w v:=(af d).2 h
theorem rV1{v:Value}{a:Vq}(h:(row ks).holds (frs xs++ys) B w v)(d:AtL xs ks [a.x,a.y,a.z]:=by exact⟨rfl,rfl,rfl,trivial⟩):bX w v a:=(af d).1 h
abbrev RetL(W:World)(l:List Rq)(e:BB)(w':World):Prop:=∃v,e= .returned v/\IsL w' v l/\mBw W w'
abbrev dt(W:World)(a:Vq)(e:BB)(w':World):Prop:=RetL W [a.x.raw,a.y.raw,a.z.raw] e w'
abbrev cM(w:World)(v:Value)(q:Qq):Prop:=IsL w v [q.w.raw,q.x.raw,q.y.raw,q.z.raw]
theorem rQ2{v:Value}{a:Qq}(h:cM w v a)(d:AtL xs ks [a.w,a.x,a.y,a.z]:=by exact⟨rfl,rfl,rfl,rfl,trivial⟩):(row ks).holds (frs xs++ys) B w v:=(af d).2 h
theorem rQ1{v:Value}{a:Qq}(h:(row ks).holds (frs xs++ys) B w v)(d:AtL xs ks [a.w,a.x,a.y,a.z]:=by exact⟨rfl,rfl,rfl,rfl,trivial⟩):cM w v a:=(af d).1 h
abbrev jL(W:World)(q:Qq)(e:BB)(w':World):Prop:=RetL W [q.w.raw,q.x.raw,q.y.raw,q.z.raw] e w'
def RetLE(W:World)(l:List Rq)(c:Int)(e:BB)(w':World):Prop:=∃v,e= .returned (.tuple #[v,.int .i64 c])/\IsL w' v l/\mBw W w'
abbrev nV(W:World)(q:Qq)(c:Int)(e:BB)(w':World):Prop:=RetLE W [q.w.raw,q.x.raw,q.y.raw,q.z.raw] c e w'
theorem aL(u:Int)(C: -9223372036854775808<=u)(F:u<9223372036854775808):(Fq.ofInt u).ok 2:=⟨kX C F,aI.2 (by show(1:Nat)<4294967296^2;decide),by show(1:Nat)≠0;decide⟩
def tC(x y:Fq):List Fq:=[x,y,(x.mul y)]
variable{p:Prop}
theorem Ap(h:p:=by exact⟨rfl,rfl,trivial⟩):p:=h
theorem q_times(C:Value)(x y:Fq)(w:World)(G:IsL w C [x.raw,y.raw])(F:x.ok 1000000000)(hy:y.ok 1000000000):
  AC AB 84 #[C] w λe w'=>fg w (x.mul y) e w':=by
 exact(cR0 (tC x y) [row [0,1]] [C] (.v (fr 2)) (il1 (jH 0 1 2 rfl rfl rfl (F.mono it) (hy.mono it))) Tryz.func84 ⟨(af (xs:=tC x y) (ks:=[0,1]) (vs:=[x,y]) Ap).2 G,trivial⟩).mono (mMo λh=>(aw 2 (tC x y) rfl).1 h)
variable{x:Fq}
theorem fM(k:Nat)(ks:List Nat){y:Fq}(hi:AtL xs ks [x,y])(F:xs[k]? =some (x.mul y))(G:x.ok 1000000000)(hy:y.ok 1000000000):OkI xs ys ⟨84,[row ks],.v (fr k)⟩:=
 mI1 Tryz.func84 λC=>(q_times _ x y _ ((af hi).1 C) G hy).mono (mMo λh=>(aw _ _ F).2 h)
def yy(x y:Fq):List Fq:=[x,y,(x.sub y)]
theorem q_less(C:Value)(x y:Fq)(w:World)(G:IsL w C [x.raw,y.raw])(F:x.ok 1000000000)(hy:y.ok 1000000000):
  AC AB 194 #[C] w λe w'=>fg w (x.sub y) e w':=by
 exact(cR0 (yy x y) [row [0,1]] [C] (.v (fr 2)) (il1 (nU 0 1 2 rfl rfl rfl (F.mono it) (hy.mono it))) Tryz.func194 ⟨(af (xs:=yy x y) (ks:=[0,1]) (vs:=[x,y]) Ap).2 G,trivial⟩).mono (mMo λh=>(aw 2 (yy x y) rfl).1 h)
theorem yz(k:Nat)(ks:List Nat){y:Fq}(hi:AtL xs ks [x,y])(F:xs[k]? =some (x.sub y))(G:x.ok 1000000000)(hy:y.ok 1000000000):OkI xs ys ⟨194,[row ks],.v (fr k)⟩:=
 mI1 Tryz.func194 λC=>(q_less _ x y _ ((af hi).1 C) G hy).mono (mMo λh=>(aw _ _ F).2 h)
def xeachAddX(a:Vq)(b:Vq):List Fq:=[a.x,a.y,a.z,b.x,b.y,b.z,(a.x.add b.x),(a.y.add b.y),(a.z.add b.z)]
theorem q_eachAdd(va vb:Value)(a:Vq)(b:Vq)(w:World)(ia:bX w va a)(C:bX w vb b)(ha:a.ok 100000000)(hb:b.ok 100000000):
  AC AB 81 #[va,vb,fnV 85] w λe w'=>dt w (a.add b) e w':=by
 exact(cR0 (xeachAddX a b) [row [0,1,2],row [3,4,5],.one (.fn 85)] [va,vb,fnV 85] (.v (row [6,7,8])) (il3 (nT 0 3 6 rfl rfl rfl (ha.x.mono it) (hb.x.mono it)) (nT 1 4 7 rfl rfl rfl (ha.y.mono it) (hb.y.mono it)) (nT 2 5 8 rfl rfl rfl (ha.z.mono it) (hb.z.mono it))) Tryz.func81 ⟨rV2 ia,⟨rV2 C,⟨rfl,trivial⟩⟩⟩).mono (mMo λh=>rV1 h)
theorem I_eachAdd(a b:Vq)(C kb kr:List Nat)(F:AtL xs C [a.x,a.y,a.z])(G:AtL xs kb [b.x,b.y,b.z])(H:AtL xs kr [(a.add b).x,(a.add b).y,(a.add b).z])(ha:a.ok 100000000)(hb:b.ok 100000000):OkI xs ys ⟨81,[row C,row kb,.one (.fn 85)],.v (row kr)⟩:=
 ⟨ah Tryz.func81 rfl rfl,λB w vs J h=>by
  match vs,h with
  | [va,vb,vf],h=>
   have I:vf=fnV 85:=h.2.2.1;subst I;refine(q_eachAdd va vb a b w ((af F).1 h.1) ((af G).1 h.2.1) ha hb).mono ?_;exact mMo λh=>(af H).2 h⟩
def xeachSubX(a:Vq)(b:Vq):List Fq:=[a.x,a.y,a.z,b.x,b.y,b.z,(a.x.sub b.x),(a.y.sub b.y),(a.z.sub b.z)]
theorem q_eachSub(va vb:Value)(a:Vq)(b:Vq)(w:World)(ia:bX w va a)(C:bX w vb b)(ha:a.ok 100000000)(hb:b.ok 100000000):
  AC AB 81 #[va,vb,fnV 82] w λe w'=>dt w (a.sub b) e w':=by
 exact(cR0 (xeachSubX a b) [row [0,1,2],row [3,4,5],.one (.fn 82)] [va,vb,fnV 82] (.v (row [6,7,8])) (il3 (nU 0 3 6 rfl rfl rfl (ha.x.mono it) (hb.x.mono it)) (nU 1 4 7 rfl rfl rfl (ha.y.mono it) (hb.y.mono it)) (nU 2 5 8 rfl rfl rfl (ha.z.mono it) (hb.z.mono it))) Tryz.func81 ⟨rV2 ia,⟨rV2 C,⟨rfl,trivial⟩⟩⟩).mono (mMo λh=>rV1 h)
theorem I_eachSub(a b:Vq)(C kb kr:List Nat)(F:AtL xs C [a.x,a.y,a.z])(G:AtL xs kb [b.x,b.y,b.z])(H:AtL xs kr [(a.sub b).x,(a.sub b).y,(a.sub b).z])(ha:a.ok 100000000)(hb:b.ok 100000000):OkI xs ys ⟨81,[row C,row kb,.one (.fn 82)],.v (row kr)⟩:=
 ⟨ah Tryz.func81 rfl rfl,λB w vs J h=>by
  match vs,h with
  | [va,vb,vf],h=>
   have I:vf=fnV 82:=h.2.2.1;subst I;refine(q_eachSub va vb a b w ((af F).1 h.1) ((af G).1 h.2.1) ha hb).mono ?_;exact mMo λh=>(af H).2 h⟩
def Vq.times(a b:Vq):Vq:=⟨a.x.mul b.x,a.y.mul b.y,a.z.mul b.z⟩
def xeachMulX(a:Vq)(b:Vq):List Fq:=[a.x,a.y,a.z,b.x,b.y,b.z,(a.x.mul b.x),(a.y.mul b.y),(a.z.mul b.z)]
theorem q_eachMul(va vb:Value)(a:Vq)(b:Vq)(w:World)(ia:bX w va a)(C:bX w vb b)(ha:a.ok 100000000)(hb:b.ok 100000000):
  AC AB 81 #[va,vb,fnV 136] w λe w'=>dt w (a.times b) e w':=by
 exact(cR0 (xeachMulX a b) [row [0,1,2],row [3,4,5],.one (.fn 136)] [va,vb,fnV 136] (.v (row [6,7,8])) (il3 (jH 0 3 6 rfl rfl rfl (ha.x.mono it) (hb.x.mono it)) (jH 1 4 7 rfl rfl rfl (ha.y.mono it) (hb.y.mono it)) (jH 2 5 8 rfl rfl rfl (ha.z.mono it) (hb.z.mono it))) Tryz.func81 ⟨rV2 ia,⟨rV2 C,⟨rfl,trivial⟩⟩⟩).mono (mMo λh=>rV1 h)
theorem I_eachMul(a b:Vq)(C kb kr:List Nat)(F:AtL xs C [a.x,a.y,a.z])(G:AtL xs kb [b.x,b.y,b.z])(H:AtL xs kr [(a.times b).x,(a.times b).y,(a.times b).z])(ha:a.ok 100000000)(hb:b.ok 100000000):OkI xs ys ⟨81,[row C,row kb,.one (.fn 136)],.v (row kr)⟩:=
 ⟨ah Tryz.func81 rfl rfl,λB w vs J h=>by
  match vs,h with
  | [va,vb,vf],h=>
   have I:vf=fnV 136:=h.2.2.1;subst I;refine(q_eachMul va vb a b w ((af F).1 h.1) ((af G).1 h.2.1) ha hb).mono ?_;exact mMo λh=>(af H).2 h⟩
def xvAddX(a:Vq)(b:Vq):List Fq:=[a.x,a.y,a.z,b.x,b.y,b.z,(a.add b).x,(a.add b).y,(a.add b).z]
theorem Ac(h:p:=by exact⟨rfl,rfl,rfl,trivial⟩):p:=h
theorem q_vAdd(va vb:Value)(a:Vq)(b:Vq)(w:World)(ia:bX w va a)(C:bX w vb b)(ha:a.ok 100000000)(hb:b.ok 100000000):
  AC AB 137 #[va,vb] w λe w'=>dt w (a.add b) e w':=by
 exact(cR0 (xvAddX a b) [row [0,1,2],row [3,4,5]] [va,vb] (.v (row [6,7,8])) (il1 (I_eachAdd a b [0,1,2] [3,4,5] [6,7,8] Ac Ac Ac (ha.mono it) (hb.mono it))) Tryz.func137 ⟨rV2 ia,⟨rV2 C,trivial⟩⟩).mono (mMo λh=>rV1 h)
theorem nW(a b:Vq)(G kb kr:List Nat)(H:AtL xs G [a.x,a.y,a.z])(I:AtL xs kb [b.x,b.y,b.z])(J:AtL xs kr [(a.add b).x,(a.add b).y,(a.add b).z])(ha:a.ok 100000000)(hb:b.ok 100000000):OkI xs ys ⟨137,[row G,row kb],.v (row kr)⟩:=
 mI2 Tryz.func137 λC F=>(q_vAdd _ _ a b _ ((af H).1 C) ((af I).1 F) ha hb).mono (mMo λh=>(af J).2 h)
def xvSubX(a:Vq)(b:Vq):List Fq:=[a.x,a.y,a.z,b.x,b.y,b.z,(a.sub b).x,(a.sub b).y,(a.sub b).z]
theorem q_vSub(va vb:Value)(a:Vq)(b:Vq)(w:World)(ia:bX w va a)(C:bX w vb b)(ha:a.ok 100000000)(hb:b.ok 100000000):
  AC AB 25 #[va,vb] w λe w'=>dt w (a.sub b) e w':=by
 exact(cR0 (xvSubX a b) [row [0,1,2],row [3,4,5]] [va,vb] (.v (row [6,7,8])) (il1 (I_eachSub a b [0,1,2] [3,4,5] [6,7,8] Ac Ac Ac (ha.mono it) (hb.mono it))) Tryz.func25 ⟨rV2 ia,⟨rV2 C,trivial⟩⟩).mono (mMo λh=>rV1 h)
theorem I_vSub(a b:Vq)(G kb kr:List Nat)(H:AtL xs G [a.x,a.y,a.z])(I:AtL xs kb [b.x,b.y,b.z])(J:AtL xs kr [(a.sub b).x,(a.sub b).y,(a.sub b).z])(ha:a.ok 100000000)(hb:b.ok 100000000):OkI xs ys ⟨25,[row G,row kb],.v (row kr)⟩:=
 mI2 Tryz.func25 λC F=>(q_vSub _ _ a b _ ((af H).1 C) ((af I).1 F) ha hb).mono (mMo λh=>(af J).2 h)
def vQ(a:Vq)(k:Fq):List Fq:=[a.x,a.y,a.z,k,(a.times (Vq.mk k k k)).x,(a.times (Vq.mk k k k)).y,(a.times (Vq.mk k k k)).z]
theorem q_vScale(va F:Value)(a:Vq)(k:Fq)(w:World)(ia:bX w va a)(G:IsQ w F k)(ha:a.ok 100000000)(C:k.ok 100000000):
  AC AB 118 #[va,F] w λe w'=>dt w (a.scale k) e w':=by
 exact(cR0 (vQ a k) [row [0,1,2],fr 3] [va,F] (.v (row [4,5,6])) (il1 (I_eachMul a (Vq.mk k k k) [0,1,2] [3,3,3] [4,5,6] Ac Ac Ac (ha.mono it) (⟨C.mono it,C.mono it,C.mono it⟩:Vq.ok 100000000 (Vq.mk k k k)))) Tryz.func118 ⟨rV2 ia,⟨(aw 3 (vQ a k) rfl).2 G,trivial⟩⟩).mono (mMo λh=>rV1 h)
theorem dG(a:Vq)(G:Nat)(H kr:List Nat){k:Fq}(I:AtL xs H [a.x,a.y,a.z])(J:xs[G]? =some k)(K:AtL xs kr [(a.scale k).x,(a.scale k).y,(a.scale k).z])(ha:a.ok 100000000)(P:k.ok 100000000):OkI xs ys ⟨118,[row H,fr G],.v (row kr)⟩:=
 mI2 Tryz.func118 λC F=>(q_vScale _ _ a k _ ((af I).1 C) ((aw _ _ J).1 F) ha P).mono (mMo λh=>(af K).2 h)
def xvDotX(a:Vq)(b:Vq):List Fq:=[a.x,a.y,a.z,b.x,b.y,b.z,(a.x.mul b.x),(a.y.mul b.y),(a.z.mul b.z),((a.y.mul b.y).add (a.z.mul b.z)),((a.x.mul b.x).add ((a.y.mul b.y).add (a.z.mul b.z)))]
theorem q_vDot(va vb:Value)(a:Vq)(b:Vq)(w:World)(ia:bX w va a)(C:bX w vb b)(ha:a.ok 100000000)(hb:b.ok 100000000):
  AC AB 29 #[va,vb] w λe w'=>fg w (a.dot b) e w':=by
 exact(cR0 (xvDotX a b) [row [0,1,2],row [3,4,5]] [va,vb] (.v (fr 10)) (il5 (fM 6 [0,3] Ap rfl (ha.x.mono it) (hb.x.mono it)) (fM 7 [1,4] Ap rfl (ha.y.mono it) (hb.y.mono it)) (fM 8 [2,5] Ap rfl (ha.z.mono it) (hb.z.mono it)) (nT 7 8 9 rfl rfl rfl ((ha.y.mul hb.y).mono it) ((ha.z.mul hb.z).mono it)) (nT 6 9 10 rfl rfl rfl ((ha.x.mul hb.x).mono it) (((ha.y.mul hb.y).add (ha.z.mul hb.z)).mono it))) Tryz.func29 ⟨rV2 ia,⟨rV2 C,trivial⟩⟩).mono (mMo λh=>(aw 10 (xvDotX a b) rfl).1 h)
theorem yA(a b:Vq)(G:Nat)(H kb:List Nat)(I:AtL xs H [a.x,a.y,a.z])(J:AtL xs kb [b.x,b.y,b.z])(K:xs[G]? =some (a.dot b))(ha:a.ok 100000000)(hb:b.ok 100000000):OkI xs ys ⟨29,[row H,row kb],.v (fr G)⟩:=
 mI2 Tryz.func29 λC F=>(q_vDot _ _ a b _ ((af I).1 C) ((af J).1 F) ha hb).mono (mMo λh=>(aw _ _ K).2 h)
def xvCrossX(a:Vq)(b:Vq):List Fq:=[a.x,a.y,a.z,b.x,b.y,b.z,(a.y.mul b.z),(a.z.mul b.y),((a.y.mul b.z).sub (a.z.mul b.y)),(a.z.mul b.x),(a.x.mul b.z),((a.z.mul b.x).sub (a.x.mul b.z)),(a.x.mul b.y),(a.y.mul b.x),((a.x.mul b.y).sub (a.y.mul b.x))]
theorem q_vCross(va vb:Value)(a:Vq)(b:Vq)(w:World)(ia:bX w va a)(C:bX w vb b)(ha:a.ok 100000000)(hb:b.ok 100000000):
  AC AB 138 #[va,vb] w λe w'=>dt w (a.cross b) e w':=by
 exact(cR0 (xvCrossX a b) [row [0,1,2],row [3,4,5]] [va,vb] (.v (row [8,11,14])) (aB (fM 6 [1,5] Ap rfl (ha.y.mono it) (hb.z.mono it)) (il8 (fM 7 [2,4] Ap rfl (ha.z.mono it) (hb.y.mono it)) (yz 8 [6,7] Ap rfl ((ha.y.mul hb.z).mono it) ((ha.z.mul hb.y).mono it)) (fM 9 [2,3] Ap rfl (ha.z.mono it) (hb.x.mono it)) (fM 10 [0,5] Ap rfl (ha.x.mono it) (hb.z.mono it)) (yz 11 [9,10] Ap rfl ((ha.z.mul hb.x).mono it) ((ha.x.mul hb.z).mono it)) (fM 12 [0,4] Ap rfl (ha.x.mono it) (hb.y.mono it)) (fM 13 [1,3] Ap rfl (ha.y.mono it) (hb.x.mono it)) (yz 14 [12,13] Ap rfl ((ha.x.mul hb.y).mono it) ((ha.y.mul hb.x).mono it)))) Tryz.func138 ⟨rV2 ia,⟨rV2 C,trivial⟩⟩).mono (mMo λh=>rV1 h)
theorem vR(a b:Vq)(G kb kr:List Nat)(H:AtL xs G [a.x,a.y,a.z])(I:AtL xs kb [b.x,b.y,b.z])(J:AtL xs kr [(a.cross b).x,(a.cross b).y,(a.cross b).z])(ha:a.ok 100000000)(hb:b.ok 100000000):OkI xs ys ⟨138,[row G,row kb],.v (row kr)⟩:=
 mI2 Tryz.func138 λC F=>(q_vCross _ _ a b _ ((af H).1 C) ((af I).1 F) ha hb).mono (mMo λh=>(af J).2 h)
def xrDotX(a:Vq)(b:Vq):List Fq:=[a.x,a.y,a.z,b.x,b.y,b.z,(a.x.mul b.x),(a.y.mul b.y),(a.z.mul b.z),((a.y.mul b.y).add (a.z.mul b.z)),((a.x.mul b.x).add ((a.y.mul b.y).add (a.z.mul b.z)))]
theorem q_rDot(va vb:Value)(a:Vq)(b:Vq)(w:World)(ia:bX w va a)(C:bX w vb b)(ha:a.ok 100000000)(hb:b.ok 100000000):
  AC AB 294 #[va,vb] w λe w'=>fg w (a.dot b) e w':=by
 exact(cR0 (xrDotX a b) [row [0,1,2],row [3,4,5]] [va,vb] (.v (fr 10)) (il5 (dE 0 3 6 rfl rfl rfl (ha.x.mono it) (hb.x.mono it)) (dE 1 4 7 rfl rfl rfl (ha.y.mono it) (hb.y.mono it)) (dE 2 5 8 rfl rfl rfl (ha.z.mono it) (hb.z.mono it)) (jI 7 8 9 rfl rfl rfl ((ha.y.mul hb.y).mono it) ((ha.z.mul hb.z).mono it)) (jI 6 9 10 rfl rfl rfl ((ha.x.mul hb.x).mono it) (((ha.y.mul hb.y).add (ha.z.mul hb.z)).mono it))) Tryz.func294 ⟨rV2 ia,⟨rV2 C,trivial⟩⟩).mono (mMo λh=>(aw 10 (xrDotX a b) rfl).1 h)
theorem I_rDot(a b:Vq)(G:Nat)(H kb:List Nat)(I:AtL xs H [a.x,a.y,a.z])(J:AtL xs kb [b.x,b.y,b.z])(K:xs[G]? =some (a.dot b))(ha:a.ok 100000000)(hb:b.ok 100000000):OkI xs ys ⟨294,[row H,row kb],.v (fr G)⟩:=
 mI2 Tryz.func294 λC F=>(q_rDot _ _ a b _ ((af I).1 C) ((af J).1 F) ha hb).mono (mMo λh=>(aw _ _ K).2 h)
def xrCrossX(a:Vq)(b:Vq):List Fq:=[a.x,a.y,a.z,b.x,b.y,b.z,(a.y.mul b.z),(a.z.mul b.y),((a.y.mul b.z).sub (a.z.mul b.y)),(a.z.mul b.x),(a.x.mul b.z),((a.z.mul b.x).sub (a.x.mul b.z)),(a.x.mul b.y),(a.y.mul b.x),((a.x.mul b.y).sub (a.y.mul b.x))]
theorem q_rCross(va vb:Value)(a:Vq)(b:Vq)(w:World)(ia:bX w va a)(C:bX w vb b)(ha:a.ok 100000000)(hb:b.ok 100000000):
  AC AB 296 #[va,vb] w λe w'=>dt w (a.cross b) e w':=by
 exact(cR0 (xrCrossX a b) [row [0,1,2],row [3,4,5]] [va,vb] (.v (row [8,11,14])) (aB (dE 1 5 6 rfl rfl rfl (ha.y.mono it) (hb.z.mono it)) (il8 (dE 2 4 7 rfl rfl rfl (ha.z.mono it) (hb.y.mono it)) (lh 6 7 8 rfl rfl rfl ((ha.y.mul hb.z).mono it) ((ha.z.mul hb.y).mono it)) (dE 2 3 9 rfl rfl rfl (ha.z.mono it) (hb.x.mono it)) (dE 0 5 10 rfl rfl rfl (ha.x.mono it) (hb.z.mono it)) (lh 9 10 11 rfl rfl rfl ((ha.z.mul hb.x).mono it) ((ha.x.mul hb.z).mono it)) (dE 0 4 12 rfl rfl rfl (ha.x.mono it) (hb.y.mono it)) (dE 1 3 13 rfl rfl rfl (ha.y.mono it) (hb.x.mono it)) (lh 12 13 14 rfl rfl rfl ((ha.x.mul hb.y).mono it) ((ha.y.mul hb.x).mono it)))) Tryz.func296 ⟨rV2 ia,⟨rV2 C,trivial⟩⟩).mono (mMo λh=>rV1 h)
theorem I_rCross(a b:Vq)(G kb kr:List Nat)(H:AtL xs G [a.x,a.y,a.z])(I:AtL xs kb [b.x,b.y,b.z])(J:AtL xs kr [(a.cross b).x,(a.cross b).y,(a.cross b).z])(ha:a.ok 100000000)(hb:b.ok 100000000):OkI xs ys ⟨296,[row G,row kb],.v (row kr)⟩:=
 mI2 Tryz.func296 λC F=>(q_rCross _ _ a b _ ((af H).1 C) ((af I).1 F) ha hb).mono (mMo λh=>(af J).2 h)
def vT(a:Vq)(k:Fq):List Fq:=[a.x,a.y,a.z,k,(a.x.mul k),(a.y.mul k),(a.z.mul k)]
theorem q_rScale(va F:Value)(a:Vq)(k:Fq)(w:World)(ia:bX w va a)(G:IsQ w F k)(ha:a.ok 100000000)(C:k.ok 100000000):
  AC AB 267 #[va,F] w λe w'=>dt w (a.scale k) e w':=by
 exact(cR0 (vT a k) [row [0,1,2],fr 3] [va,F] (.v (row [4,5,6])) (il3 (dE 0 3 4 rfl rfl rfl (ha.x.mono it) (C.mono it)) (dE 1 3 5 rfl rfl rfl (ha.y.mono it) (C.mono it)) (dE 2 3 6 rfl rfl rfl (ha.z.mono it) (C.mono it))) Tryz.func267 ⟨rV2 ia,⟨(aw 3 (vT a k) rfl).2 G,trivial⟩⟩).mono (mMo λh=>rV1 h)
theorem pU(a:Vq)(G:Nat)(H kr:List Nat){k:Fq}(I:AtL xs H [a.x,a.y,a.z])(J:xs[G]? =some k)(K:AtL xs kr [(a.scale k).x,(a.scale k).y,(a.scale k).z])(ha:a.ok 100000000)(P:k.ok 100000000):OkI xs ys ⟨267,[row H,fr G],.v (row kr)⟩:=
 mI2 Tryz.func267 λC F=>(q_rScale _ _ a k _ ((af I).1 C) ((aw _ _ J).1 F) ha P).mono (mMo λh=>(af K).2 h)
def xrSumX(a:Vq)(b:Vq):List Fq:=[a.x,a.y,a.z,b.x,b.y,b.z,(a.x.add b.x),(a.y.add b.y),(a.z.add b.z)]
theorem q_rSum(va vb:Value)(a:Vq)(b:Vq)(w:World)(ia:bX w va a)(C:bX w vb b)(ha:a.ok 100000000)(hb:b.ok 100000000):
  AC AB 295 #[va,vb] w λe w'=>dt w (a.add b) e w':=by
 exact(cR0 (xrSumX a b) [row [0,1,2],row [3,4,5]] [va,vb] (.v (row [6,7,8])) (il3 (jI 0 3 6 rfl rfl rfl (ha.x.mono it) (hb.x.mono it)) (jI 1 4 7 rfl rfl rfl (ha.y.mono it) (hb.y.mono it)) (jI 2 5 8 rfl rfl rfl (ha.z.mono it) (hb.z.mono it))) Tryz.func295 ⟨rV2 ia,⟨rV2 C,trivial⟩⟩).mono (mMo λh=>rV1 h)
theorem I_rSum(a b:Vq)(G kb kr:List Nat)(H:AtL xs G [a.x,a.y,a.z])(I:AtL xs kb [b.x,b.y,b.z])(J:AtL xs kr [(a.add b).x,(a.add b).y,(a.add b).z])(ha:a.ok 100000000)(hb:b.ok 100000000):OkI xs ys ⟨295,[row G,row kb],.v (row kr)⟩:=
 mI2 Tryz.func295 λC F=>(q_rSum _ _ a b _ ((af H).1 C) ((af I).1 F) ha hb).mono (mMo λh=>(af J).2 h)
theorem fN{y:Fq}(h:x≠y):x.same y=false:=Bool.eq_false_iff.2 (mt Fq.same_iff.1 h)
def xrEqual1X(a:Qq)(b:Qq):List Fq:=(a.cs++(b.cs))
theorem q_rEqual1(va vb:Value)(a:Qq)(b:Qq)(w:World)(ia:cM w va a)(F:cM w vb b)(ha:a.ok 1000000000)(hb:b.ok 1000000000)(C:a=b):
  AC AB 102 #[va,vb] w λe w'=>bI w (.bool true) e w':=by
 exact(cR0 (xrEqual1X a b) [row [0,1,2,3],row [4,5,6,7]] [va,vb] (.v (.one (.b true))) (il4 (bm 0 4 (.b true) rfl rfl (lb (Fq.same_iff.2 (congrArg Qq.w C))) (ha.w.mono it).p (ha.w.mono it).q (hb.w.mono it).p (hb.w.mono it).q) (bm 1 5 (.b true) rfl rfl (lb (Fq.same_iff.2 (congrArg Qq.x C))) (ha.x.mono it).p (ha.x.mono it).q (hb.x.mono it).p (hb.x.mono it).q) (bm 2 6 (.b true) rfl rfl (lb (Fq.same_iff.2 (congrArg Qq.y C))) (ha.y.mono it).p (ha.y.mono it).q (hb.y.mono it).p (hb.y.mono it).q) (bm 3 7 (.b true) rfl rfl (lb (Fq.same_iff.2 (congrArg Qq.z C))) (ha.z.mono it).p (ha.z.mono it).q (hb.z.mono it).p (hb.z.mono it).q)) EJ ⟨rQ2 ia,⟨rQ2 F,trivial⟩⟩).mono mMr
theorem r7(a b:Qq)(C kb:List Nat)(F:AtL xs C a.cs)(G:AtL xs kb b.cs)(ha:a.ok 1000000000)(hb:b.ok 1000000000)(H:a=b):OkI xs ys ⟨102,[row C,row kb],.v (.one (.b true))⟩:=
 ⟨ah EJ rfl rfl,λB w vs I h=>by
  match vs,h with
  | [va,vb],h=>
   refine(q_rEqual1 va vb a b w ((af F).1 h.1) ((af G).1 h.2.1) ha hb H).mono ?_;rintro e w' ⟨rfl,h2⟩;exact⟨_,rfl,rfl,h2⟩⟩
def xrEqual0X(a:Qq)(b:Qq):List Fq:=(a.cs++(b.cs))
def yB(a:Qq)(b:Qq):List Fq:=(a.cs++(b.cs))
def yC(a:Qq)(b:Qq):List Fq:=(a.cs++(b.cs))
def yD(a:Qq)(b:Qq):List Fq:=(a.cs++(b.cs))
theorem q_rEqual0(va vb:Value)(a:Qq)(b:Qq)(w:World)(ia:cM w va a)(C:cM w vb b)(ha:a.ok 1000000000)(hb:b.ok 1000000000)(F:a≠b):
  AC AB 102 #[va,vb] w λe w'=>bI w (.bool false) e w':=by
 by_cases c0:a.w=b.w
 ·by_cases c1:a.x=b.x
  ·by_cases c2:a.y=b.y
   ·by_cases c3:a.z=b.z
    ·exact absurd (by cases a;cases b;simp only at c0 c1 c2 c3;subst c0 c1 c2 c3;rfl) F
    ·exact(cR0 (xrEqual0X a b) [row [0,1,2,3],row [4,5,6,7]] [va,vb] (.v (.one (.b false))) (il4 (bm 0 4 (.b true) rfl rfl (lb (Fq.same_iff.2 c0)) (ha.w.mono it).p (ha.w.mono it).q (hb.w.mono it).p (hb.w.mono it).q) (bm 1 5 (.b true) rfl rfl (lb (Fq.same_iff.2 c1)) (ha.x.mono it).p (ha.x.mono it).q (hb.x.mono it).p (hb.x.mono it).q) (bm 2 6 (.b true) rfl rfl (lb (Fq.same_iff.2 c2)) (ha.y.mono it).p (ha.y.mono it).q (hb.y.mono it).p (hb.y.mono it).q) (bm 3 7 (.b false) rfl rfl (lb (fN c3)) (ha.z.mono it).p (ha.z.mono it).q (hb.z.mono it).p (hb.z.mono it).q)) EJ ⟨rQ2 ia,⟨rQ2 C,trivial⟩⟩).mono mMr
   ·exact(cR0 (yB a b) [row [0,1,2,3],row [4,5,6,7]] [va,vb] (.v (.one (.b false))) (il3 (bm 0 4 (.b true) rfl rfl (lb (Fq.same_iff.2 c0)) (ha.w.mono it).p (ha.w.mono it).q (hb.w.mono it).p (hb.w.mono it).q) (bm 1 5 (.b true) rfl rfl (lb (Fq.same_iff.2 c1)) (ha.x.mono it).p (ha.x.mono it).q (hb.x.mono it).p (hb.x.mono it).q) (bm 2 6 (.b false) rfl rfl (lb (fN c2)) (ha.y.mono it).p (ha.y.mono it).q (hb.y.mono it).p (hb.y.mono it).q)) EJ ⟨rQ2 ia,⟨rQ2 C,trivial⟩⟩).mono mMr
  ·exact(cR0 (yC a b) [row [0,1,2,3],row [4,5,6,7]] [va,vb] (.v (.one (.b false))) (il2 (bm 0 4 (.b true) rfl rfl (lb (Fq.same_iff.2 c0)) (ha.w.mono it).p (ha.w.mono it).q (hb.w.mono it).p (hb.w.mono it).q) (bm 1 5 (.b false) rfl rfl (lb (fN c1)) (ha.x.mono it).p (ha.x.mono it).q (hb.x.mono it).p (hb.x.mono it).q)) EJ ⟨rQ2 ia,⟨rQ2 C,trivial⟩⟩).mono mMr
 ·exact(cR0 (yD a b) [row [0,1,2,3],row [4,5,6,7]] [va,vb] (.v (.one (.b false))) (il1 (bm 0 4 (.b false) rfl rfl (lb (fN c0)) (ha.w.mono it).p (ha.w.mono it).q (hb.w.mono it).p (hb.w.mono it).q)) EJ ⟨rQ2 ia,⟨rQ2 C,trivial⟩⟩).mono mMr
theorem I_rEqual0(a b:Qq)(C kb:List Nat)(F:AtL xs C a.cs)(G:AtL xs kb b.cs)(ha:a.ok 1000000000)(hb:b.ok 1000000000)(H:a≠b):OkI xs ys ⟨102,[row C,row kb],.v (.one (.b false))⟩:=
 ⟨ah EJ rfl rfl,λB w vs I h=>by
  match vs,h with
  | [va,vb],h=>
   refine(q_rEqual0 va vb a b w ((af F).1 h.1) ((af G).1 h.2.1) ha hb H).mono ?_;rintro e w' ⟨rfl,h2⟩;exact⟨_,rfl,rfl,h2⟩⟩
theorem z0:nl 0<=1000000000000:=by rw[bL];decide
def xaxisX(q:Qq):List Fq:=q.cs
theorem q_axis(vq:Value)(q:Qq)(w:World)(C:cM w vq q)(F:q.ok 1000000000):
  AC AB 135 #[vq] w λe w'=>dt w q.axis e w':=by
 exact(cR0 (xaxisX q) [row [0,1,2,3]] [vq] (.v (row [1,2,3])) (dD) Tryz.func135 ⟨rQ2 C,trivial⟩).mono (mMo λh=>rV1 h)
theorem pV(F kr:List Nat)(q:Qq)(G:AtL xs F q.cs)(H:AtL xs kr [q.axis.x,q.axis.y,q.axis.z])(I:q.ok 1000000000):OkI xs ys ⟨135,[row F],.v (row kr)⟩:=
 mI1 Tryz.func135 λC=>(q_axis _ q _ ((af G).1 C) I).mono (mMo λh=>(af H).2 h)
def xpartX(q:Qq):List Fq:=q.cs
theorem q_part(vq:Value)(q:Qq)(w:World)(C:cM w vq q)(F:q.ok 1000000000):
  AC AB 268 #[vq] w λe w'=>dt w q.axis e w':=by
 exact(cR0 (xpartX q) [row [0,1,2,3]] [vq] (.v (row [1,2,3])) (dD) Tryz.func268 ⟨rQ2 C,trivial⟩).mono (mMo λh=>rV1 h)
theorem yE(F kr:List Nat)(q:Qq)(G:AtL xs F q.cs)(H:AtL xs kr [q.axis.x,q.axis.y,q.axis.z])(I:q.ok 1000000000):OkI xs ys ⟨268,[row F],.v (row kr)⟩:=
 mI1 Tryz.func268 λC=>(q_part _ q _ ((af G).1 C) I).mono (mMo λh=>(af H).2 h)
def xpartsX(q:Qq):List Fq:=q.cs
theorem q_parts(vq:Value)(q:Qq)(w:World)(C:cM w vq q)(F:q.ok 1000000000):
  AC AB 177 #[vq] w λe w'=>jL w q e w':=by
 exact(cR0 (xpartsX q) [row [0,1,2,3]] [vq] (.v (row [0,1,2,3])) (dD) Tryz.func177 ⟨rQ2 C,trivial⟩).mono (mMo λh=>rQ1 h)
theorem bT(F kr:List Nat)(q:Qq)(G:AtL xs F q.cs)(H:AtL xs kr q.cs)(I:q.ok 1000000000):OkI xs ys ⟨177,[row F],.v (row kr)⟩:=
 mI1 Tryz.func177 λC=>(q_parts _ q _ ((af G).1 C) I).mono (mMo λh=>(af H).2 h)
def xfEqual1X(a:Qq)(b:Qq):List Fq:=(a.cs++(b.cs))
theorem Ab(h:p:=by exact⟨rfl,rfl,rfl,rfl,trivial⟩):p:=h
theorem q_fEqual1(va vb:Value)(a:Qq)(b:Qq)(w:World)(ia:cM w va a)(H:cM w vb b)(ha:a.ok 100000000)(hb:b.ok 100000000)(C:a=b)(F:a.comp)(G:b.comp):
  AC AB 115 #[va,vb] w λe w'=>bI w (.bool true) e w':=by
 exact(cR0 (xfEqual1X a b) [row [0,1,2,3],row [4,5,6,7]] [va,vb] (.v (.one (.b true))) (il6 (bT [0,1,2,3] [0,1,2,3] a Ab Ab (ha.mono it)) (bT [4,5,6,7] [4,5,6,7] b Ab Ab (hb.mono it)) (bu 0 4 rfl rfl (li ((bn F.w G.w).2 (congrArg Qq.w C))) (ha.w.mono it) (hb.w.mono it)) (bu 1 5 rfl rfl (li ((bn F.x G.x).2 (congrArg Qq.x C))) (ha.x.mono it) (hb.x.mono it)) (bu 2 6 rfl rfl (li ((bn F.y G.y).2 (congrArg Qq.y C))) (ha.y.mono it) (hb.y.mono it)) (bu 3 7 rfl rfl (li ((bn F.z G.z).2 (congrArg Qq.z C))) (ha.z.mono it) (hb.z.mono it))) EK ⟨rQ2 ia,⟨rQ2 H,trivial⟩⟩).mono mMr
theorem r8(a b:Qq)(C kb:List Nat)(F:AtL xs C a.cs)(G:AtL xs kb b.cs)(ha:a.ok 100000000)(hb:b.ok 100000000)(H:a=b)(I:a.comp)(J:b.comp):OkI xs ys ⟨115,[row C,row kb],.v (.one (.b true))⟩:=
 ⟨ah EK rfl rfl,λB w vs K h=>by
  match vs,h with
  | [va,vb],h=>
   refine(q_fEqual1 va vb a b w ((af F).1 h.1) ((af G).1 h.2.1) ha hb H I J).mono ?_;rintro e w' ⟨rfl,h2⟩;exact⟨_,rfl,rfl,h2⟩⟩
def xfEqual0X(a:Qq)(b:Qq):List Fq:=(a.cs++(b.cs))
def yF(a:Qq)(b:Qq):List Fq:=(a.cs++(b.cs))
def yG(a:Qq)(b:Qq):List Fq:=(a.cs++(b.cs))
def yH(a:Qq)(b:Qq):List Fq:=(a.cs++(b.cs))
theorem q_fEqual0(va vb:Value)(a:Qq)(b:Qq)(w:World)(ia:cM w va a)(G:cM w vb b)(ha:a.ok 100000000)(hb:b.ok 100000000)(H:a≠b)(C:a.comp)(F:b.comp):
  AC AB 115 #[va,vb] w λe w'=>bI w (.bool false) e w':=by
 by_cases c0:a.w=b.w
 ·by_cases c1:a.x=b.x
  ·by_cases c2:a.y=b.y
   ·by_cases c3:a.z=b.z
    ·exact absurd (by cases a;cases b;simp only at c0 c1 c2 c3;subst c0 c1 c2 c3;rfl) H
    ·exact(cR1 (xfEqual0X a b) [.val (.int .i64 (a.z.cmp b.z))] [row [0,1,2,3],row [4,5,6,7]] [va,vb] (.v (.one (.b false))) (il6 (bT [0,1,2,3] [0,1,2,3] a Ab Ab (ha.mono it)) (bT [4,5,6,7] [4,5,6,7] b Ab Ab (hb.mono it)) (bu 0 4 rfl rfl (li ((bn C.w F.w).2 c0)) (ha.w.mono it) (hb.w.mono it)) (bu 1 5 rfl rfl (li ((bn C.x F.x).2 c1)) (ha.x.mono it) (hb.x.mono it)) (bu 2 6 rfl rfl (li ((bn C.y F.y).2 c2)) (ha.y.mono it) (hb.y.mono it)) (bu 3 7 rfl rfl (lr 24 rfl) (ha.z.mono it) (hb.z.mono it))) (aj (gj 0 24 3 rfl (tB (mt (bn C.z F.z).1 c3))) (az)) EK ⟨rQ2 ia,⟨rQ2 G,trivial⟩⟩).mono mMr
   ·exact(cR1 (yF a b) [.val (.int .i64 (a.y.cmp b.y))] [row [0,1,2,3],row [4,5,6,7]] [va,vb] (.v (.one (.b false))) (il5 (bT [0,1,2,3] [0,1,2,3] a Ab Ab (ha.mono it)) (bT [4,5,6,7] [4,5,6,7] b Ab Ab (hb.mono it)) (bu 0 4 rfl rfl (li ((bn C.w F.w).2 c0)) (ha.w.mono it) (hb.w.mono it)) (bu 1 5 rfl rfl (li ((bn C.x F.x).2 c1)) (ha.x.mono it) (hb.x.mono it)) (bu 2 6 rfl rfl (lr 24 rfl) (ha.y.mono it) (hb.y.mono it))) (aj (gj 0 24 3 rfl (tB (mt (bn C.y F.y).1 c2))) (az)) EK ⟨rQ2 ia,⟨rQ2 G,trivial⟩⟩).mono mMr
  ·exact(cR1 (yG a b) [.val (.int .i64 (a.x.cmp b.x))] [row [0,1,2,3],row [4,5,6,7]] [va,vb] (.v (.one (.b false))) (il4 (bT [0,1,2,3] [0,1,2,3] a Ab Ab (ha.mono it)) (bT [4,5,6,7] [4,5,6,7] b Ab Ab (hb.mono it)) (bu 0 4 rfl rfl (li ((bn C.w F.w).2 c0)) (ha.w.mono it) (hb.w.mono it)) (bu 1 5 rfl rfl (lr 24 rfl) (ha.x.mono it) (hb.x.mono it))) (aj (gj 0 24 3 rfl (tB (mt (bn C.x F.x).1 c1))) (az)) EK ⟨rQ2 ia,⟨rQ2 G,trivial⟩⟩).mono mMr
 ·exact(cR1 (yH a b) [.val (.int .i64 (a.w.cmp b.w))] [row [0,1,2,3],row [4,5,6,7]] [va,vb] (.v (.one (.b false))) (il3 (bT [0,1,2,3] [0,1,2,3] a Ab Ab (ha.mono it)) (bT [4,5,6,7] [4,5,6,7] b Ab Ab (hb.mono it)) (bu 0 4 rfl rfl (lr 24 rfl) (ha.w.mono it) (hb.w.mono it))) (aj (gj 0 24 3 rfl (tB (mt (bn C.w F.w).1 c0))) (az)) EK ⟨rQ2 ia,⟨rQ2 G,trivial⟩⟩).mono mMr
theorem I_fEqual0(a b:Qq)(C kb:List Nat)(F:AtL xs C a.cs)(G:AtL xs kb b.cs)(ha:a.ok 100000000)(hb:b.ok 100000000)(H:a≠b)(I:a.comp)(J:b.comp):OkI xs ys ⟨115,[row C,row kb],.v (.one (.b false))⟩:=
 ⟨ah EK rfl rfl,λB w vs K h=>by
  match vs,h with
  | [va,vb],h=>
   refine(q_fEqual0 va vb a b w ((af F).1 h.1) ((af G).1 h.2.1) ha hb H I J).mono ?_;rintro e w' ⟨rfl,h2⟩;exact⟨_,rfl,rfl,h2⟩⟩
def xwholeX(q:Qq):List Fq:=q.cs
theorem q_whole(vq:Value)(q:Qq)(w:World)(C:cM w vq q)(F:q.ok 1000000000):
  AC AB 140 #[vq] w λe w'=>jL w q e w':=by
 exact(cR0 (xwholeX q) [row [0,1,2,3]] [vq] (.v (row [0,1,2,3])) (dD) Tryz.func140 ⟨rQ2 C,trivial⟩).mono (mMo λh=>rQ1 h)
theorem mG(F kr:List Nat)(q:Qq)(G:AtL xs F q.cs)(H:AtL xs kr q.cs)(I:q.ok 1000000000):OkI xs ys ⟨140,[row F],.v (row kr)⟩:=
 mI1 Tryz.func140 λC=>(q_whole _ q _ ((af G).1 C) I).mono (mMo λh=>(af H).2 h)
def xHalf1X(q:Qq):List Fq:=q.cs
theorem q_Half1(vq:Value)(q:Qq)(w:World)(F:cM w vq q)(C:q.ok 1000000000)(h0:q.w.p=0):
  AC AB 259 #[vq] w λe w'=>bI w (.bool true) e w':=by
 exact(cR0 (xHalf1X q) [row [0,1,2,3]] [vq] (.v (.one (.b true))) (il1 (aT 0 rfl (li (dS h0)) (C.w.mono it))) Tryz.func259 ⟨rQ2 F,trivial⟩).mono mMr
theorem I_Half1(C:List Nat)(q:Qq)(F:AtL xs C q.cs)(G:q.ok 1000000000)(h0:q.w.p=0):OkI xs ys ⟨259,[row C],.v (.one (.b true))⟩:=
 ⟨ah Tryz.func259 rfl rfl,λB w vs H h=>by
  match vs,h with
  | [vq],h=>
   refine(q_Half1 vq q w ((af F).1 h.1) G h0).mono ?_;rintro e w' ⟨rfl,h2⟩;exact⟨_,rfl,rfl,h2⟩⟩
def xHalf0X(q:Qq):List Fq:=q.cs
theorem q_Half0(vq:Value)(q:Qq)(w:World)(F:cM w vq q)(C:q.ok 1000000000)(h0:q.w.p≠0):
  AC AB 259 #[vq] w λe w'=>bI w (.bool false) e w':=by
 exact(cR1 (xHalf0X q) [.val (.int .i64 q.w.sgn)] [row [0,1,2,3]] [vq] (.v (.one (.b false))) (il1 (aT 0 rfl (lr 12 rfl) (C.w.mono it))) (aj (gQ 0 12 3 rfl (je h0)) (az)) Tryz.func259 ⟨rQ2 F,trivial⟩).mono mMr
theorem I_Half0(C:List Nat)(q:Qq)(F:AtL xs C q.cs)(G:q.ok 1000000000)(h0:q.w.p≠0):OkI xs ys ⟨259,[row C],.v (.one (.b false))⟩:=
 ⟨ah Tryz.func259 rfl rfl,λB w vs H h=>by
  match vs,h with
  | [vq],h=>
   refine(q_Half0 vq q w ((af F).1 h.1) G h0).mono ?_;rintro e w' ⟨rfl,h2⟩;exact⟨_,rfl,rfl,h2⟩⟩
def xrHalf1X(q:Qq):List Fq:=q.cs
theorem q_rHalf1(vq:Value)(q:Qq)(w:World)(F:cM w vq q)(C:q.ok 1000000000)(h0:q.w.p=0):
  AC AB 265 #[vq] w λe w'=>bI w (.bool true) e w':=by
 exact(cR0 (xrHalf1X q) [row [0,1,2,3]] [vq] (.v (.one (.b true))) (il1 (dA 0 rfl (li (dS h0)) (C.w.mono it))) Tryz.func265 ⟨rQ2 F,trivial⟩).mono mMr
theorem I_rHalf1(C:List Nat)(q:Qq)(F:AtL xs C q.cs)(G:q.ok 1000000000)(h0:q.w.p=0):OkI xs ys ⟨265,[row C],.v (.one (.b true))⟩:=
 ⟨ah Tryz.func265 rfl rfl,λB w vs H h=>by
  match vs,h with
  | [vq],h=>
   refine(q_rHalf1 vq q w ((af F).1 h.1) G h0).mono ?_;rintro e w' ⟨rfl,h2⟩;exact⟨_,rfl,rfl,h2⟩⟩
def xrHalf0X(q:Qq):List Fq:=q.cs
theorem q_rHalf0(vq:Value)(q:Qq)(w:World)(F:cM w vq q)(C:q.ok 1000000000)(h0:q.w.p≠0):
  AC AB 265 #[vq] w λe w'=>bI w (.bool false) e w':=by
 exact(cR1 (xrHalf0X q) [.val (.int .i64 q.w.sgn)] [row [0,1,2,3]] [vq] (.v (.one (.b false))) (il1 (dA 0 rfl (lr 12 rfl) (C.w.mono it))) (aj (gQ 0 12 3 rfl (je h0)) (az)) Tryz.func265 ⟨rQ2 F,trivial⟩).mono mMr
theorem I_rHalf0(C:List Nat)(q:Qq)(F:AtL xs C q.cs)(G:q.ok 1000000000)(h0:q.w.p≠0):OkI xs ys ⟨265,[row C],.v (.one (.b false))⟩:=
 ⟨ah Tryz.func265 rfl rfl,λB w vs H h=>by
  match vs,h with
  | [vq],h=>
   refine(q_rHalf0 vq q w ((af F).1 h.1) G h0).mono ?_;rintro e w' ⟨rfl,h2⟩;exact⟨_,rfl,rfl,h2⟩⟩
def xfIdX:List Fq:=[(Fq.ofInt 1),(Fq.ofInt 0)]
theorem sa:Qq.id.ok 2:=⟨aL _ it it,aL _ it it,aL _ it it,aL _ it it⟩
theorem q_fId(w:World):
  AC AB 79 #[] w λe w'=>jL w Qq.id e w':=by
 exact(cR0 (xfIdX) [] [] (.v (row [0,1,1,1])) (il3 (dm 0 rfl it it) (dm 1 rfl it it) (mG [0,1,1,1] [0,1,1,1] (Qq.mk (Fq.ofInt 1) (Fq.ofInt 0) (Fq.ofInt 0) (Fq.ofInt 0)) Ab Ab (⟨(aL 1 it it).mono it,(aL 0 it it).mono it,(aL 0 it it).mono it,(aL 0 it it).mono it⟩:Qq.ok 1000000000 (Qq.mk (Fq.ofInt 1) (Fq.ofInt 0) (Fq.ofInt 0) (Fq.ofInt 0))))) Tryz.func79 trivial).mono (mMo λh=>rQ1 h)
theorem I_fId(kr:List Nat)(C:AtL xs kr Qq.id.cs):OkI xs ys ⟨79,[],.v (row kr)⟩:=
 ⟨ah Tryz.func79 rfl rfl,λB w vs F h=>by
  match vs,h with
  | [],h=>
   refine(q_fId w).mono ?_;exact mMo λh=>(af C).2 h⟩
def xrIdX:List Fq:=[(Fq.ofInt 1),(Fq.ofInt 0)]
theorem q_rId(w:World):
  AC AB 204 #[] w λe w'=>jL w Qq.id e w':=by
 exact(cR0 (xrIdX) [] [] (.v (row [0,1,1,1])) (il2 (jJ 0 rfl it it) (jJ 1 rfl it it)) Tryz.func204 trivial).mono (mMo λh=>rQ1 h)
theorem I_rId(kr:List Nat)(C:AtL xs kr Qq.id.cs):OkI xs ys ⟨204,[],.v (row kr)⟩:=
 ⟨ah Tryz.func204 rfl rfl,λB w vs F h=>by
  match vs,h with
  | [],h=>
   refine(q_rId w).mono ?_;exact mMo λh=>(af C).2 h⟩
theorem jM(h0:q.first.p≠0):q.canon=q.over q.first:=by unfold Qq.canon;rw[if_neg h0]
variable{d:Nat}
theorem Qq.ok.mk4{a b c e:Fq}(h1:a.ok d)(h2:b.ok d)(h3:c.ok d)(C:e.ok d):(Qq.mk a b c e).ok d:=⟨h1,h2,h3,C⟩
variable{e:Nat}
theorem sd{u:Fq}{c:Vq}(h1:u.ok d)(h2:c.ok e)(h0:(Qq.mk u c.x c.y c.z).first.p≠0):(Qq.mk u c.x c.y c.z).canon.ok (d+e+(d+e)):=(Qq.ok.mk4 (h1.mono no) (h2.x.mono no) (h2.y.mono no) (h2.z.mono no):Qq.ok (d+e) _).canon h0
def vU(q:Qq):List Fq:=q.cs
def se(q:Qq):List Fq:=q.cs
def sf(q:Qq):List Fq:=q.cs
def si(q:Qq):List Fq:=q.cs
theorem q_rFirst(vq:Value)(q:Qq)(w:World)(G:cM w vq q)(C:q.ok 1000000000):
  AC AB 257 #[vq] w λe w'=>fg w q.first e w':=by
 by_cases c0:q.w.p=0
 ·by_cases c1:q.x.p=0
  ·by_cases c2:q.y.p=0
   ·have F:q.first=q.z:=by simp[Qq.first,c0,c1,c2]
    rw[F];exact(cR0 (vU q) [row [0,1,2,3]] [vq] (.v (fr 3)) (il3 (dA 0 rfl (li (dS c0)) (C.w.mono it)) (dA 1 rfl (li (dS c1)) (C.x.mono it)) (dA 2 rfl (li (dS c2)) (C.y.mono it))) Tryz.func257 ⟨rQ2 G,trivial⟩).mono (mMo λh=>(aw 3 (vU q) rfl).1 h)
   ·have F:q.first=q.y:=by simp[Qq.first,c0,c1,c2]
    rw[F];exact(cR1 (se q) [.val (.int .i64 q.y.sgn)] [row [0,1,2,3]] [vq] (.v (fr 2)) (il3 (dA 0 rfl (li (dS c0)) (C.w.mono it)) (dA 1 rfl (li (dS c1)) (C.x.mono it)) (dA 2 rfl (lr 12 rfl) (C.y.mono it))) (aj (gj 0 12 3 rfl (gn c2)) (az)) Tryz.func257 ⟨rQ2 G,trivial⟩).mono (mMo λh=>(aw 2 (se q) rfl).1 h)
  ·have F:q.first=q.x:=by simp[Qq.first,c0,c1]
   rw[F];exact(cR1 (sf q) [.val (.int .i64 q.x.sgn)] [row [0,1,2,3]] [vq] (.v (fr 1)) (il2 (dA 0 rfl (li (dS c0)) (C.w.mono it)) (dA 1 rfl (lr 12 rfl) (C.x.mono it))) (aj (gj 0 12 3 rfl (gn c1)) (az)) Tryz.func257 ⟨rQ2 G,trivial⟩).mono (mMo λh=>(aw 1 (sf q) rfl).1 h)
 ·have F:q.first=q.w:=by simp[Qq.first,c0]
  rw[F];exact(cR1 (si q) [.val (.int .i64 q.w.sgn)] [row [0,1,2,3]] [vq] (.v (fr 0)) (il1 (dA 0 rfl (lr 12 rfl) (C.w.mono it))) (aj (gj 0 12 3 rfl (gn c0)) (az)) Tryz.func257 ⟨rQ2 G,trivial⟩).mono (mMo λh=>(aw 0 (si q) rfl).1 h)
theorem pW(F:Nat)(G:List Nat)(q:Qq)(H:AtL xs G q.cs)(I:xs[F]? =some q.first)(J:q.ok 1000000000):OkI xs ys ⟨257,[row G],.v (fr F)⟩:=
 mI1 Tryz.func257 λC=>(q_rFirst _ q _ ((af H).1 C) J).mono (mMo λh=>(aw _ _ I).2 h)
def o0(x:Fq)(d:Fq):List Fq:=[x,d,(x.div d)]
theorem q_rOver(F C:Value)(x:Fq)(d:Fq)(w:World)(ix:IsQ w F x)(id:IsQ w C d)(H:x.ok 1000000000)(G:d.ok 1000000000)(h0:d.p≠0):
  AC AB 306 #[F,C] w λe w'=>fg w (x.div d) e w':=by
 exact(cR0 (o0 x d) [fr 0,fr 1] [F,C] (.v (fr 2)) (il1 (I_rDiv (i:=0) (j:=1) (k:=2) rfl rfl rfl (H.mono it) (G.mono it) h0)) Tryz.func306 ⟨(aw 0 (o0 x d) rfl).2 ix,⟨(aw 1 (o0 x d) rfl).2 id,trivial⟩⟩).mono (mMo λh=>(aw 2 (o0 x d) rfl).1 h)
theorem o6(id G ix:Nat){d:Fq}(I:xs[ix]? =some x)(ad:xs[id]? =some d)(H:xs[G]? =some (x.div d))(K:x.ok 1000000000)(J:d.ok 1000000000)(h0:d.p≠0):OkI xs ys ⟨306,[fr ix,fr id],.v (fr G)⟩:=
 mI2 Tryz.func306 λC F=>(q_rOver _ _ x d _ ((aw _ _ I).1 C) ((aw _ _ ad).1 F) K J h0).mono (mMo λh=>(aw _ _ H).2 h)
def iH(p0:Fq)(p1:Fq)(p2:Fq)(p3:Fq):List Fq:=[p0,p1,p2,p3,(Qq.mk p0 p1 p2 p3).first,(p0.div (Qq.mk p0 p1 p2 p3).first),(p1.div (Qq.mk p0 p1 p2 p3).first),(p2.div (Qq.mk p0 p1 p2 p3).first),(p3.div (Qq.mk p0 p1 p2 p3).first)]
theorem q_rMakeT(U V Y Z:Value)(C:Fq)(F:Fq)(G:Fq)(H:Fq)(w:World)(aa:IsQ w U C)(ab:IsQ w V F)(ac:IsQ w Y G)(ad:IsQ w Z H)(I:C.ok 100000000)(J:F.ok 100000000)(K:G.ok 100000000)(P:H.ok 100000000)(h0:(Qq.mk C F G H).first.p≠0):
  AC AB 298 #[U,V,Y,Z] w λe w'=>nV w (Qq.mk C F G H).canon 0 e w':=by
 rw[jM h0];refine(cR1 (iH C F G H) [.val (.int .i64 (Qq.mk C F G H).first.sgn)] [fr 0,fr 1,fr 2,fr 3] [U,V,Y,Z] (.tup [row [5,6,7,8],.one (.i .i64 0)]) (il6 (pW 4 [0,1,2,3] (Qq.mk C F G H) Ab rfl ((Qq.ok.mk4 I J K P).mono it)) (dA 4 rfl (lr 27 rfl) ((Qq.ok.mk4 I J K P).first.mono it)) (o6 4 5 0 rfl rfl rfl (I.mono it) ((Qq.ok.mk4 I J K P).first.mono it) h0) (o6 4 6 1 rfl rfl rfl (J.mono it) ((Qq.ok.mk4 I J K P).first.mono it) h0) (o6 4 7 2 rfl rfl rfl (K.mono it) ((Qq.ok.mk4 I J K P).first.mono it) h0) (o6 4 8 3 rfl rfl rfl (P.mono it) ((Qq.ok.mk4 I J K P).first.mono it) h0)) (aj (gQ 0 27 3 rfl (je h0)) (az)) Tryz.func298 ⟨(aw 0 (iH C F G H) rfl).2 aa,⟨(aw 1 (iH C F G H) rfl).2 ab,⟨(aw 2 (iH C F G H) rfl).2 ac,⟨(aw 3 (iH C F G H) rfl).2 ad,trivial⟩⟩⟩⟩).mono ?_;rintro e w' ⟨v,rfl,⟨vs,rfl,h1⟩,h2⟩
 match vs,h1 with
 | [r,c],h1=>
  obtain⟨⟨cs,rfl,k1⟩,k2,_⟩:=h1;have k2:c=_:=k2;subst k2;exact⟨_,rfl,(af (xs:=iH C F G H) (ks:=[5,6,7,8]) (vs:=[(C.div (Qq.mk C F G H).first),(F.div (Qq.mk C F G H).first),(G.div (Qq.mk C F G H).first),(H.div (Qq.mk C F G H).first)]) Ab).1 ⟨_,rfl,k1⟩,h2⟩
theorem I_rMakeT(C F G H:Nat)(kr:List Nat){I:Fq}{J:Fq}{K:Fq}{P:Fq}(U:xs[C]? =some I)(ap1:xs[F]? =some J)(ap2:xs[G]? =some K)(ap3:xs[H]? =some P)(ar:AtL xs kr (Qq.mk I J K P).canon.cs)(V:I.ok 100000000)(Y:J.ok 100000000)(Z:K.ok 100000000)(aa:P.ok 100000000)(h0:(Qq.mk I J K P).first.p≠0):OkI xs ys ⟨298,[fr C,fr F,fr G,fr H],.tup [row kr,.one (.i .i64 0)]⟩:=
 ⟨ah Tryz.func298 rfl rfl,λB w vs hB h=>by
  match vs,h with
  | [vp0,vp1,vp2,vp3],h=>
   refine(q_rMakeT vp0 vp1 vp2 vp3 I J K P w ((aw _ _ U).1 h.1) ((aw _ _ ap1).1 h.2.1) ((aw _ _ ap2).1 h.2.2.1) ((aw _ _ ap3).1 h.2.2.2.1) V Y Z aa h0).mono ?_;rintro e w' ⟨v,rfl,h1,h2⟩;exact⟨_,rfl,⟨[v,.int .i64 0],rfl,(af ar).2 h1,rfl,trivial⟩,h2⟩⟩
def iI(p0:Fq)(p1:Fq)(p2:Fq)(p3:Fq):List Fq:=[p0,p1,p2,p3,(p0.div p3),(p1.div p3),(p2.div p3),(p3.div p3)]
def fS(p0:Fq)(p1:Fq)(p2:Fq)(p3:Fq):List Fq:=[p0,p1,p2,p3,(p0.div p2),(p1.div p2),(p2.div p2),(p3.div p2)]
def fU(p0:Fq)(p1:Fq)(p2:Fq)(p3:Fq):List Fq:=[p0,p1,p2,p3,(p0.div p1),(p1.div p1),(p2.div p1),(p3.div p1)]
def fV(p0:Fq)(p1:Fq)(p2:Fq)(p3:Fq):List Fq:=[p0,p1,p2,p3,(p0.div p0),(p1.div p0),(p2.div p0),(p3.div p0)]
theorem q_fMakeT(U V Y Z:Value)(C:Fq)(F:Fq)(G:Fq)(H:Fq)(w:World)(aa:IsQ w U C)(ab:IsQ w V F)(ac:IsQ w Y G)(ad:IsQ w Z H)(I:C.ok 100000000)(J:F.ok 100000000)(K:G.ok 100000000)(P:H.ok 100000000)(h0:(Qq.mk C F G H).first.p≠0):
  AC AB 195 #[U,V,Y,Z] w λe w'=>nV w (Qq.mk C F G H).canon 0 e w':=by
 by_cases c0:C.p=0
 ·by_cases c1:F.p=0
  ·by_cases c2:G.p=0
   ·by_cases c3:H.p=0
    ·exact absurd (by simp[Qq.first,c0,c1,c2,c3]) h0
    ·have e1:(Qq.mk C F G H).first=H:=by simp[Qq.first,c0,c1,c2,c3]
     rw[jM h0,e1];refine(cR1 (iI C F G H) [.val (.int .i64 H.sgn)] [fr 0,fr 1,fr 2,fr 3] [U,V,Y,Z] (.tup [row [4,5,6,7],.one (.i .i64 0)]) (aB (aT 0 rfl (li (dS c0)) (I.mono it)) (il8 (aT 1 rfl (li (dS c1)) (J.mono it)) (aT 2 rfl (li (dS c2)) (K.mono it)) (aT 3 rfl (lr 24 rfl) (P.mono it)) (dl 0 3 4 rfl rfl rfl (I.mono it) (P.mono it) c3) (dl 1 3 5 rfl rfl rfl (J.mono it) (P.mono it) c3) (dl 2 3 6 rfl rfl rfl (K.mono it) (P.mono it) c3) (dl 3 3 7 rfl rfl rfl (P.mono it) (P.mono it) c3) (mG [4,5,6,7] [4,5,6,7] (Qq.mk (C.div H) (F.div H) (G.div H) (H.div H)) Ab Ab (⟨(I.div P c3).mono it,(J.div P c3).mono it,(K.div P c3).mono it,(P.div P c3).mono it⟩:Qq.ok 1000000000 (Qq.mk (C.div H) (F.div H) (G.div H) (H.div H)))))) (aj (gQ 0 24 3 rfl (je c3)) (az)) Tryz.func195 ⟨(aw 0 (iI C F G H) rfl).2 aa,⟨(aw 1 (iI C F G H) rfl).2 ab,⟨(aw 2 (iI C F G H) rfl).2 ac,⟨(aw 3 (iI C F G H) rfl).2 ad,trivial⟩⟩⟩⟩).mono ?_;rintro e w' ⟨v,rfl,⟨vs,rfl,h1⟩,h2⟩
     match vs,h1 with
     | [r,c],h1=>
      obtain⟨⟨cs,rfl,k1⟩,k2,_⟩:=h1;have k2:c=_:=k2;subst k2;exact⟨_,rfl,(af (xs:=iI C F G H) (ks:=[4,5,6,7]) (vs:=[(C.div H),(F.div H),(G.div H),(H.div H)]) Ab).1 ⟨_,rfl,k1⟩,h2⟩
   ·have e1:(Qq.mk C F G H).first=G:=by simp[Qq.first,c0,c1,c2]
    rw[jM h0,e1];refine(cR1 (fS C F G H) [.val (.int .i64 G.sgn)] [fr 0,fr 1,fr 2,fr 3] [U,V,Y,Z] (.tup [row [4,5,6,7],.one (.i .i64 0)]) (il8 (aT 0 rfl (li (dS c0)) (I.mono it)) (aT 1 rfl (li (dS c1)) (J.mono it)) (aT 2 rfl (lr 24 rfl) (K.mono it)) (dl 0 2 4 rfl rfl rfl (I.mono it) (K.mono it) c2) (dl 1 2 5 rfl rfl rfl (J.mono it) (K.mono it) c2) (dl 2 2 6 rfl rfl rfl (K.mono it) (K.mono it) c2) (dl 3 2 7 rfl rfl rfl (P.mono it) (K.mono it) c2) (mG [4,5,6,7] [4,5,6,7] (Qq.mk (C.div G) (F.div G) (G.div G) (H.div G)) Ab Ab (⟨(I.div K c2).mono it,(J.div K c2).mono it,(K.div K c2).mono it,(P.div K c2).mono it⟩:Qq.ok 1000000000 (Qq.mk (C.div G) (F.div G) (G.div G) (H.div G))))) (aj (gQ 0 24 3 rfl (je c2)) (az)) Tryz.func195 ⟨(aw 0 (fS C F G H) rfl).2 aa,⟨(aw 1 (fS C F G H) rfl).2 ab,⟨(aw 2 (fS C F G H) rfl).2 ac,⟨(aw 3 (fS C F G H) rfl).2 ad,trivial⟩⟩⟩⟩).mono ?_;rintro e w' ⟨v,rfl,⟨vs,rfl,h1⟩,h2⟩
    match vs,h1 with
    | [r,c],h1=>
     obtain⟨⟨cs,rfl,k1⟩,k2,_⟩:=h1;have k2:c=_:=k2;subst k2;exact⟨_,rfl,(af (xs:=fS C F G H) (ks:=[4,5,6,7]) (vs:=[(C.div G),(F.div G),(G.div G),(H.div G)]) Ab).1 ⟨_,rfl,k1⟩,h2⟩
  ·have e1:(Qq.mk C F G H).first=F:=by simp[Qq.first,c0,c1]
   rw[jM h0,e1];refine(cR1 (fU C F G H) [.val (.int .i64 F.sgn)] [fr 0,fr 1,fr 2,fr 3] [U,V,Y,Z] (.tup [row [4,5,6,7],.one (.i .i64 0)]) (il7 (aT 0 rfl (li (dS c0)) (I.mono it)) (aT 1 rfl (lr 24 rfl) (J.mono it)) (dl 0 1 4 rfl rfl rfl (I.mono it) (J.mono it) c1) (dl 1 1 5 rfl rfl rfl (J.mono it) (J.mono it) c1) (dl 2 1 6 rfl rfl rfl (K.mono it) (J.mono it) c1) (dl 3 1 7 rfl rfl rfl (P.mono it) (J.mono it) c1) (mG [4,5,6,7] [4,5,6,7] (Qq.mk (C.div F) (F.div F) (G.div F) (H.div F)) Ab Ab (⟨(I.div J c1).mono it,(J.div J c1).mono it,(K.div J c1).mono it,(P.div J c1).mono it⟩:Qq.ok 1000000000 (Qq.mk (C.div F) (F.div F) (G.div F) (H.div F))))) (aj (gQ 0 24 3 rfl (je c1)) (az)) Tryz.func195 ⟨(aw 0 (fU C F G H) rfl).2 aa,⟨(aw 1 (fU C F G H) rfl).2 ab,⟨(aw 2 (fU C F G H) rfl).2 ac,⟨(aw 3 (fU C F G H) rfl).2 ad,trivial⟩⟩⟩⟩).mono ?_;rintro e w' ⟨v,rfl,⟨vs,rfl,h1⟩,h2⟩
   match vs,h1 with
   | [r,c],h1=>
    obtain⟨⟨cs,rfl,k1⟩,k2,_⟩:=h1;have k2:c=_:=k2;subst k2;exact⟨_,rfl,(af (xs:=fU C F G H) (ks:=[4,5,6,7]) (vs:=[(C.div F),(F.div F),(G.div F),(H.div F)]) Ab).1 ⟨_,rfl,k1⟩,h2⟩
 ·have e1:(Qq.mk C F G H).first=C:=by simp[Qq.first,c0]
  rw[jM h0,e1];refine(cR1 (fV C F G H) [.val (.int .i64 C.sgn)] [fr 0,fr 1,fr 2,fr 3] [U,V,Y,Z] (.tup [row [4,5,6,7],.one (.i .i64 0)]) (il6 (aT 0 rfl (lr 24 rfl) (I.mono it)) (dl 0 0 4 rfl rfl rfl (I.mono it) (I.mono it) c0) (dl 1 0 5 rfl rfl rfl (J.mono it) (I.mono it) c0) (dl 2 0 6 rfl rfl rfl (K.mono it) (I.mono it) c0) (dl 3 0 7 rfl rfl rfl (P.mono it) (I.mono it) c0) (mG [4,5,6,7] [4,5,6,7] (Qq.mk (C.div C) (F.div C) (G.div C) (H.div C)) Ab Ab (⟨(I.div I c0).mono it,(J.div I c0).mono it,(K.div I c0).mono it,(P.div I c0).mono it⟩:Qq.ok 1000000000 (Qq.mk (C.div C) (F.div C) (G.div C) (H.div C))))) (aj (gQ 0 24 3 rfl (je c0)) (az)) Tryz.func195 ⟨(aw 0 (fV C F G H) rfl).2 aa,⟨(aw 1 (fV C F G H) rfl).2 ab,⟨(aw 2 (fV C F G H) rfl).2 ac,⟨(aw 3 (fV C F G H) rfl).2 ad,trivial⟩⟩⟩⟩).mono ?_;rintro e w' ⟨v,rfl,⟨vs,rfl,h1⟩,h2⟩
  match vs,h1 with
  | [r,c],h1=>
   obtain⟨⟨cs,rfl,k1⟩,k2,_⟩:=h1;have k2:c=_:=k2;subst k2;exact⟨_,rfl,(af (xs:=fV C F G H) (ks:=[4,5,6,7]) (vs:=[(C.div C),(F.div C),(G.div C),(H.div C)]) Ab).1 ⟨_,rfl,k1⟩,h2⟩
theorem I_fMakeT(C F G H:Nat)(kr:List Nat){I:Fq}{J:Fq}{K:Fq}{P:Fq}(U:xs[C]? =some I)(ap1:xs[F]? =some J)(ap2:xs[G]? =some K)(ap3:xs[H]? =some P)(ar:AtL xs kr (Qq.mk I J K P).canon.cs)(V:I.ok 100000000)(Y:J.ok 100000000)(Z:K.ok 100000000)(aa:P.ok 100000000)(h0:(Qq.mk I J K P).first.p≠0):OkI xs ys ⟨195,[fr C,fr F,fr G,fr H],.tup [row kr,.one (.i .i64 0)]⟩:=
 ⟨ah Tryz.func195 rfl rfl,λB w vs hB h=>by
  match vs,h with
  | [vp0,vp1,vp2,vp3],h=>
   refine(q_fMakeT vp0 vp1 vp2 vp3 I J K P w ((aw _ _ U).1 h.1) ((aw _ _ ap1).1 h.2.1) ((aw _ _ ap2).1 h.2.2.1) ((aw _ _ ap3).1 h.2.2.2.1) V Y Z aa h0).mono ?_;rintro e w' ⟨v,rfl,h1,h2⟩;exact⟨_,rfl,⟨[v,.int .i64 0],rfl,(af ar).2 h1,rfl,trivial⟩,h2⟩⟩
def vV(u:Fq)(c:Vq):List Fq:=([u,c.x,c.y,c.z]++((Qq.mk u c.x c.y c.z).canon.cs))
theorem q_rCanon(F C:Value)(u:Fq)(c:Vq)(w:World)(I:IsQ w F u)(H:bX w C c)(G:u.ok 100000000)(hc:c.ok 100000000)(h0:(Qq.mk u c.x c.y c.z).first.p≠0):
  AC AB 266 #[F,C] w λe w'=>jL w (Qq.mk u c.x c.y c.z).canon e w':=by
 exact(cR0 (vV u c) [fr 0,row [1,2,3]] [F,C] (.v (row [4,5,6,7])) (il1 (I_rMakeT 0 1 2 3 [4,5,6,7] rfl rfl rfl rfl Ab (G.mono it) (hc.x.mono it) (hc.y.mono it) (hc.z.mono it) h0)) Tryz.func266 ⟨(aw 0 (vV u c) rfl).2 I,⟨rV2 H,trivial⟩⟩).mono (mMo λh=>rQ1 h)
theorem pX(c:Vq)(G:Nat)(H kr:List Nat){u:Fq}(K:xs[G]? =some u)(I:AtL xs H [c.x,c.y,c.z])(J:AtL xs kr (Qq.mk u c.x c.y c.z).canon.cs)(P:u.ok 100000000)(hc:c.ok 100000000)(h0:(Qq.mk u c.x c.y c.z).first.p≠0):OkI xs ys ⟨266,[fr G,row H],.v (row kr)⟩:=
 mI2 Tryz.func266 λC F=>(q_rCanon _ _ u c _ ((aw _ _ K).1 C) ((af I).1 F) P hc h0).mono (mMo λh=>(af J).2 h)
def vW(u:Fq)(c:Vq):List Fq:=([u,c.x,c.y,c.z]++((Qq.mk u c.x c.y c.z).canon.cs))
theorem q_fCanon(F C:Value)(u:Fq)(c:Vq)(w:World)(I:IsQ w F u)(H:bX w C c)(G:u.ok 100000000)(hc:c.ok 100000000)(h0:(Qq.mk u c.x c.y c.z).first.p≠0):
  AC AB 139 #[F,C] w λe w'=>jL w (Qq.mk u c.x c.y c.z).canon e w':=by
 exact(cR0 (vW u c) [fr 0,row [1,2,3]] [F,C] (.v (row [4,5,6,7])) (il1 (I_fMakeT 0 1 2 3 [4,5,6,7] rfl rfl rfl rfl Ab (G.mono it) (hc.x.mono it) (hc.y.mono it) (hc.z.mono it) h0)) Tryz.func139 ⟨(aw 0 (vW u c) rfl).2 I,⟨rV2 H,trivial⟩⟩).mono (mMo λh=>rQ1 h)
theorem pY(c:Vq)(G:Nat)(H kr:List Nat){u:Fq}(K:xs[G]? =some u)(I:AtL xs H [c.x,c.y,c.z])(J:AtL xs kr (Qq.mk u c.x c.y c.z).canon.cs)(P:u.ok 100000000)(hc:c.ok 100000000)(h0:(Qq.mk u c.x c.y c.z).first.p≠0):OkI xs ys ⟨139,[fr G,row H],.v (row kr)⟩:=
 mI2 Tryz.func139 λC F=>(q_fCanon _ _ u c _ ((aw _ _ K).1 C) ((af I).1 F) P hc h0).mono (mMo λh=>(af J).2 h)
theorem Qq.ok.inv(h:q.ok d)(g:q.good):q.inv.ok (d+2+(d+2)):=by
 have h0:=mD g;rw[<-yv g.comp]at h0;exact(Qq.ok.mk4 (h.w.mono no) (h.x.mul (aL _ it it)) (h.y.mul (aL _ it it)) (h.z.mul (aL _ it it))).canon h0
theorem inv_ne'(g:q.good):(Qq.mk q.w (q.axis.scale (Fq.ofInt (-1))).x (q.axis.scale (Fq.ofInt (-1))).y (q.axis.scale (Fq.ofInt (-1))).z).first.p≠0:=by rw[yv g.comp];exact mD g
theorem Qq.ok.mulg{p:Qq}(h:p.ok d)(k:q.ok e)(C:p.good)(F:q.good):(p.mul q).ok (44*(d+e)+14):=h.mul k (pP C F)
theorem Qq.ok.dd(h:q.ok d):q.dd.ok (44*d+7):=((h.w.mul h.w).sub (h.axis.dot h.axis)).mono no
theorem Qq.ok.nn(h:q.ok d):q.nn.ok (44*d+7):=((h.w.mul h.w).add (h.axis.dot h.axis)).mono no
theorem Qq.ok.rat(h:q.ok d)(g:q.good):q.rat.ok (44*d+9):=((aL _ it it).div h.nn (vP g)).mono no
variable{a:Vq}
theorem Qq.ok.ap1(h:q.ok d)(k:a.ok e):(q.ap1 a).ok (e+44*d+7):=(k.scale h.dd).mono no
theorem Qq.ok.ap2(h:q.ok d)(k:a.ok e):(q.ap2 a).ok (11*d+10*e+5):=(h.axis.scale ((aL _ it it).mul (h.axis.dot k))).mono no
theorem Qq.ok.ap3(h:q.ok d)(k:a.ok e):(q.ap3 a).ok (5*d+4*e+3):=((h.axis.cross k).scale ((aL _ it it).mul h.w)).mono no
theorem Qq.ok.app(h:q.ok d)(k:a.ok e)(g:q.good):(q.app a).ok (300*(d+e)+100):=((((h.ap1 k).add (h.ap2 k)).add (h.ap3 k)).scale (h.rat g)).mono no
def xfMulTX(p:Qq)(q:Qq):List Fq:=(p.cs++(q.cs++([p.axis.x,p.axis.y,p.axis.z,q.axis.x,q.axis.y,q.axis.z,(p.w.mul q.w),(p.axis.dot q.axis),((p.w.mul q.w).sub (p.axis.dot q.axis)),(q.axis.scale p.w).x,(q.axis.scale p.w).y,(q.axis.scale p.w).z,(p.axis.scale q.w).x,(p.axis.scale q.w).y,(p.axis.scale q.w).z,((q.axis.scale p.w).add (p.axis.scale q.w)).x,((q.axis.scale p.w).add (p.axis.scale q.w)).y,((q.axis.scale p.w).add (p.axis.scale q.w)).z,(p.axis.cross q.axis).x,(p.axis.cross q.axis).y,(p.axis.cross q.axis).z,(((q.axis.scale p.w).add (p.axis.scale q.w)).add (p.axis.cross q.axis)).x,(((q.axis.scale p.w).add (p.axis.scale q.w)).add (p.axis.cross q.axis)).y,(((q.axis.scale p.w).add (p.axis.scale q.w)).add (p.axis.cross q.axis)).z]++((Qq.mk ((p.w.mul q.w).sub (p.axis.dot q.axis)) (((q.axis.scale p.w).add (p.axis.scale q.w)).add (p.axis.cross q.axis)).x (((q.axis.scale p.w).add (p.axis.scale q.w)).add (p.axis.cross q.axis)).y (((q.axis.scale p.w).add (p.axis.scale q.w)).add (p.axis.cross q.axis)).z).canon.cs))))
theorem q_fMulT(F vq:Value)(p:Qq)(q:Qq)(w:World)(I:cM w F p)(J:cM w vq q)(hp:p.ok 100000)(C:q.ok 100000)(G:p.good)(H:q.good):
  AC AB 75 #[F,vq] w λe w'=>jL w (p.mul q) e w':=by
 refine(cR0 (xfMulTX p q) [row [0,1,2,3],row [4,5,6,7]] [F,vq] (.v (row [32,33,34,35])) (aB (pV [0,1,2,3] [8,9,10] p Ab Ac (hp.mono it)) (aB (pV [4,5,6,7] [11,12,13] q Ab Ac (C.mono it)) (aB (jH 0 4 14 rfl rfl rfl (hp.w.mono it) (C.w.mono it)) (il8 (yA p.axis q.axis 15 [8,9,10] [11,12,13] Ac Ac rfl (hp.axis.mono it) (C.axis.mono it)) (nU 14 15 16 rfl rfl rfl ((hp.w.mul C.w).mono it) ((hp.axis.dot C.axis).mono it)) (dG q.axis 0 [11,12,13] [17,18,19] Ac rfl Ac (C.axis.mono it) (hp.w.mono it)) (dG p.axis 4 [8,9,10] [20,21,22] Ac rfl Ac (hp.axis.mono it) (C.w.mono it)) (nW (q.axis.scale p.w) (p.axis.scale q.w) [17,18,19] [20,21,22] [23,24,25] Ac Ac Ac ((C.axis.scale hp.w).mono it) ((hp.axis.scale C.w).mono it)) (vR p.axis q.axis [8,9,10] [11,12,13] [26,27,28] Ac Ac Ac (hp.axis.mono it) (C.axis.mono it)) (nW ((q.axis.scale p.w).add (p.axis.scale q.w)) (p.axis.cross q.axis) [23,24,25] [26,27,28] [29,30,31] Ac Ac Ac (((C.axis.scale hp.w).add (hp.axis.scale C.w)).mono it) ((hp.axis.cross C.axis).mono it)) (pY (((q.axis.scale p.w).add (p.axis.scale q.w)).add (p.axis.cross q.axis)) 16 [29,30,31] [32,33,34,35] rfl Ac Ab (((hp.w.mul C.w).sub (hp.axis.dot C.axis)).mono it) ((((C.axis.scale hp.w).add (hp.axis.scale C.w)).add (hp.axis.cross C.axis)).mono it) (pP G H)))))) Tryz.func75 ⟨rQ2 I,⟨rQ2 J,trivial⟩⟩).mono ?_;rintro e w' ⟨v,rfl,h1,h2⟩;exact⟨v,rfl,rQ1 h1,h2⟩
theorem o7(kp G kr:List Nat)(p q:Qq)(H:AtL xs kp p.cs)(I:AtL xs G q.cs)(J:AtL xs kr (p.mul q).cs)(hp:p.ok 100000)(U:q.ok 100000)(K:p.good)(P:q.good):OkI xs ys ⟨75,[row kp,row G],.v (row kr)⟩:=
 mI2 Tryz.func75 λC F=>(q_fMulT _ _ p q _ ((af H).1 C) ((af I).1 F) hp U K P).mono (mMo λh=>(af J).2 h)
def xrMulTX(p:Qq)(q:Qq):List Fq:=(p.cs++(q.cs++([p.axis.x,p.axis.y,p.axis.z,q.axis.x,q.axis.y,q.axis.z,(p.w.mul q.w),(p.axis.dot q.axis),((p.w.mul q.w).sub (p.axis.dot q.axis)),(q.axis.scale p.w).x,(q.axis.scale p.w).y,(q.axis.scale p.w).z,(p.axis.scale q.w).x,(p.axis.scale q.w).y,(p.axis.scale q.w).z,((q.axis.scale p.w).add (p.axis.scale q.w)).x,((q.axis.scale p.w).add (p.axis.scale q.w)).y,((q.axis.scale p.w).add (p.axis.scale q.w)).z,(p.axis.cross q.axis).x,(p.axis.cross q.axis).y,(p.axis.cross q.axis).z,(((q.axis.scale p.w).add (p.axis.scale q.w)).add (p.axis.cross q.axis)).x,(((q.axis.scale p.w).add (p.axis.scale q.w)).add (p.axis.cross q.axis)).y,(((q.axis.scale p.w).add (p.axis.scale q.w)).add (p.axis.cross q.axis)).z]++((Qq.mk ((p.w.mul q.w).sub (p.axis.dot q.axis)) (((q.axis.scale p.w).add (p.axis.scale q.w)).add (p.axis.cross q.axis)).x (((q.axis.scale p.w).add (p.axis.scale q.w)).add (p.axis.cross q.axis)).y (((q.axis.scale p.w).add (p.axis.scale q.w)).add (p.axis.cross q.axis)).z).canon.cs))))
theorem q_rMulT(F vq:Value)(p:Qq)(q:Qq)(w:World)(I:cM w F p)(J:cM w vq q)(hp:p.ok 100000)(C:q.ok 100000)(G:p.good)(H:q.good):
  AC AB 263 #[F,vq] w λe w'=>jL w (p.mul q) e w':=by
 refine(cR0 (xrMulTX p q) [row [0,1,2,3],row [4,5,6,7]] [F,vq] (.v (row [32,33,34,35])) (aB (yE [0,1,2,3] [8,9,10] p Ab Ac (hp.mono it)) (aB (yE [4,5,6,7] [11,12,13] q Ab Ac (C.mono it)) (aB (dE 0 4 14 rfl rfl rfl (hp.w.mono it) (C.w.mono it)) (il8 (I_rDot p.axis q.axis 15 [8,9,10] [11,12,13] Ac Ac rfl (hp.axis.mono it) (C.axis.mono it)) (lh 14 15 16 rfl rfl rfl ((hp.w.mul C.w).mono it) ((hp.axis.dot C.axis).mono it)) (pU q.axis 0 [11,12,13] [17,18,19] Ac rfl Ac (C.axis.mono it) (hp.w.mono it)) (pU p.axis 4 [8,9,10] [20,21,22] Ac rfl Ac (hp.axis.mono it) (C.w.mono it)) (I_rSum (q.axis.scale p.w) (p.axis.scale q.w) [17,18,19] [20,21,22] [23,24,25] Ac Ac Ac ((C.axis.scale hp.w).mono it) ((hp.axis.scale C.w).mono it)) (I_rCross p.axis q.axis [8,9,10] [11,12,13] [26,27,28] Ac Ac Ac (hp.axis.mono it) (C.axis.mono it)) (I_rSum ((q.axis.scale p.w).add (p.axis.scale q.w)) (p.axis.cross q.axis) [23,24,25] [26,27,28] [29,30,31] Ac Ac Ac (((C.axis.scale hp.w).add (hp.axis.scale C.w)).mono it) ((hp.axis.cross C.axis).mono it)) (pX (((q.axis.scale p.w).add (p.axis.scale q.w)).add (p.axis.cross q.axis)) 16 [29,30,31] [32,33,34,35] rfl Ac Ab (((hp.w.mul C.w).sub (hp.axis.dot C.axis)).mono it) ((((C.axis.scale hp.w).add (hp.axis.scale C.w)).add (hp.axis.cross C.axis)).mono it) (pP G H)))))) Tryz.func263 ⟨rQ2 I,⟨rQ2 J,trivial⟩⟩).mono ?_;rintro e w' ⟨v,rfl,h1,h2⟩;exact⟨v,rfl,rQ1 h1,h2⟩
theorem tD(kp G kr:List Nat)(p q:Qq)(H:AtL xs kp p.cs)(I:AtL xs G q.cs)(J:AtL xs kr (p.mul q).cs)(hp:p.ok 100000)(U:q.ok 100000)(K:p.good)(P:q.good):OkI xs ys ⟨263,[row kp,row G],.v (row kr)⟩:=
 mI2 Tryz.func263 λC F=>(q_rMulT _ _ p q _ ((af H).1 C) ((af I).1 F) hp U K P).mono (mMo λh=>(af J).2 h)
def xfInvTX(q:Qq):List Fq:=(q.cs++([q.axis.x,q.axis.y,q.axis.z,(Fq.ofInt (-1)),(q.axis.scale (Fq.ofInt (-1))).x,(q.axis.scale (Fq.ofInt (-1))).y,(q.axis.scale (Fq.ofInt (-1))).z]++((Qq.mk q.w (q.axis.scale (Fq.ofInt (-1))).x (q.axis.scale (Fq.ofInt (-1))).y (q.axis.scale (Fq.ofInt (-1))).z).canon.cs)))
theorem q_fInvT(vq:Value)(q:Qq)(w:World)(G:cM w vq q)(C:q.ok 100000)(F:q.good):
  AC AB 178 #[vq] w λe w'=>jL w q.inv e w':=by
 refine(cR0 (xfInvTX q) [row [0,1,2,3]] [vq] (.v (row [11,12,13,14])) (il4 (pV [0,1,2,3] [4,5,6] q Ab Ac (C.mono it)) (dm 7 rfl it it) (dG q.axis 7 [4,5,6] [8,9,10] Ac rfl Ac (C.axis.mono it) ((aL (-1) it it).mono it)) (pY (q.axis.scale (Fq.ofInt (-1))) 0 [8,9,10] [11,12,13,14] rfl Ac Ab (C.w.mono it) ((C.axis.scale (aL (-1) it it)).mono it) (inv_ne' F))) Tryz.func178 ⟨rQ2 G,trivial⟩).mono ?_;rintro e w' ⟨v,rfl,h1,h2⟩;exact⟨v,rfl,rQ1 h1,h2⟩
theorem tE(F kr:List Nat)(q:Qq)(G:AtL xs F q.cs)(H:AtL xs kr q.inv.cs)(J:q.ok 100000)(I:q.good):OkI xs ys ⟨178,[row F],.v (row kr)⟩:=
 mI1 Tryz.func178 λC=>(q_fInvT _ q _ ((af G).1 C) J I).mono (mMo λh=>(af H).2 h)
def xrInvTX(q:Qq):List Fq:=(q.cs++([q.x.neg,q.y.neg,q.z.neg]++((Qq.mk q.w (Vq.mk q.x.neg q.y.neg q.z.neg).x (Vq.mk q.x.neg q.y.neg q.z.neg).y (Vq.mk q.x.neg q.y.neg q.z.neg).z).canon.cs)))
theorem q_rInvT(vq:Value)(q:Qq)(w:World)(G:cM w vq q)(C:q.ok 100000)(F:q.good):
  AC AB 264 #[vq] w λe w'=>jL w q.inv e w':=by
 rw[pQ F.comp];exact(cR0 (xrInvTX q) [row [0,1,2,3]] [vq] (.v (row [7,8,9,10])) (il4 (yx 1 4 rfl rfl (C.x.mono it)) (yx 2 5 rfl rfl (C.y.mono it)) (yx 3 6 rfl rfl (C.z.mono it)) (pX (Vq.mk q.x.neg q.y.neg q.z.neg) 0 [4,5,6] [7,8,9,10] rfl Ac Ab (C.w.mono it) (⟨C.x.neg.mono it,C.y.neg.mono it,C.z.neg.mono it⟩:Vq.ok 100000000 (Vq.mk q.x.neg q.y.neg q.z.neg)) (mD F))) Tryz.func264 ⟨rQ2 G,trivial⟩).mono (mMo λh=>rQ1 h)
theorem aaF(F kr:List Nat)(q:Qq)(G:AtL xs F q.cs)(H:AtL xs kr q.inv.cs)(J:q.ok 100000)(I:q.good):OkI xs ys ⟨264,[row F],.v (row kr)⟩:=
 mI1 Tryz.func264 λC=>(q_rInvT _ q _ ((af G).1 C) J I).mono (mMo λh=>(af H).2 h)
def xfAppX(q:Qq)(a:Vq):List Fq:=(q.cs++([a.x,a.y,a.z,q.axis.x,q.axis.y,q.axis.z,(q.w.mul q.w),(q.axis.dot q.axis),(Fq.ofInt 2),((q.w.mul q.w).sub (q.axis.dot q.axis)),(a.scale ((q.w.mul q.w).sub (q.axis.dot q.axis))).x,(a.scale ((q.w.mul q.w).sub (q.axis.dot q.axis))).y,(a.scale ((q.w.mul q.w).sub (q.axis.dot q.axis))).z,(q.axis.dot a),((Fq.ofInt 2).mul (q.axis.dot a)),(q.axis.scale ((Fq.ofInt 2).mul (q.axis.dot a))).x,(q.axis.scale ((Fq.ofInt 2).mul (q.axis.dot a))).y,(q.axis.scale ((Fq.ofInt 2).mul (q.axis.dot a))).z,((a.scale ((q.w.mul q.w).sub (q.axis.dot q.axis))).add (q.axis.scale ((Fq.ofInt 2).mul (q.axis.dot a)))).x,((a.scale ((q.w.mul q.w).sub (q.axis.dot q.axis))).add (q.axis.scale ((Fq.ofInt 2).mul (q.axis.dot a)))).y,((a.scale ((q.w.mul q.w).sub (q.axis.dot q.axis))).add (q.axis.scale ((Fq.ofInt 2).mul (q.axis.dot a)))).z,(q.axis.cross a).x,(q.axis.cross a).y,(q.axis.cross a).z,((Fq.ofInt 2).mul q.w),((q.axis.cross a).scale ((Fq.ofInt 2).mul q.w)).x,((q.axis.cross a).scale ((Fq.ofInt 2).mul q.w)).y,((q.axis.cross a).scale ((Fq.ofInt 2).mul q.w)).z,(((a.scale ((q.w.mul q.w).sub (q.axis.dot q.axis))).add (q.axis.scale ((Fq.ofInt 2).mul (q.axis.dot a)))).add ((q.axis.cross a).scale ((Fq.ofInt 2).mul q.w))).x,(((a.scale ((q.w.mul q.w).sub (q.axis.dot q.axis))).add (q.axis.scale ((Fq.ofInt 2).mul (q.axis.dot a)))).add ((q.axis.cross a).scale ((Fq.ofInt 2).mul q.w))).y,(((a.scale ((q.w.mul q.w).sub (q.axis.dot q.axis))).add (q.axis.scale ((Fq.ofInt 2).mul (q.axis.dot a)))).add ((q.axis.cross a).scale ((Fq.ofInt 2).mul q.w))).z,(Fq.ofInt 1),((q.w.mul q.w).add (q.axis.dot q.axis)),((Fq.ofInt 1).div ((q.w.mul q.w).add (q.axis.dot q.axis))),((((a.scale ((q.w.mul q.w).sub (q.axis.dot q.axis))).add (q.axis.scale ((Fq.ofInt 2).mul (q.axis.dot a)))).add ((q.axis.cross a).scale ((Fq.ofInt 2).mul q.w))).scale ((Fq.ofInt 1).div ((q.w.mul q.w).add (q.axis.dot q.axis)))).x,((((a.scale ((q.w.mul q.w).sub (q.axis.dot q.axis))).add (q.axis.scale ((Fq.ofInt 2).mul (q.axis.dot a)))).add ((q.axis.cross a).scale ((Fq.ofInt 2).mul q.w))).scale ((Fq.ofInt 1).div ((q.w.mul q.w).add (q.axis.dot q.axis)))).y,((((a.scale ((q.w.mul q.w).sub (q.axis.dot q.axis))).add (q.axis.scale ((Fq.ofInt 2).mul (q.axis.dot a)))).add ((q.axis.cross a).scale ((Fq.ofInt 2).mul q.w))).scale ((Fq.ofInt 1).div ((q.w.mul q.w).add (q.axis.dot q.axis)))).z]))
theorem q_fApp(vq va:Value)(q:Qq)(a:Vq)(w:World)(G:cM w vq q)(ia:bX w va a)(C:q.ok 300000)(ha:a.ok 300000)(F:q.good):
  AC AB 179 #[vq,va] w λe w'=>dt w (q.app a) e w':=by
 refine(cR0 (xfAppX q a) [row [0,1,2,3],row [4,5,6]] [vq,va] (.v (row [38,39,40])) (aB (pV [0,1,2,3] [7,8,9] q Ab Ac (C.mono it)) (aB (jH 0 0 10 rfl rfl rfl (C.w.mono it) (C.w.mono it)) (aB (yA q.axis q.axis 11 [7,8,9] [7,8,9] Ac Ac rfl (C.axis.mono it) (C.axis.mono it)) (aB (dm 12 rfl it it) (aB (nU 10 11 13 rfl rfl rfl ((C.w.mul C.w).mono it) ((C.axis.dot C.axis).mono it)) (aB (dG a 13 [4,5,6] [14,15,16] Ac rfl Ac (ha.mono it) (((C.w.mul C.w).sub (C.axis.dot C.axis)).mono it)) (aB (yA q.axis a 17 [7,8,9] [4,5,6] Ac Ac rfl (C.axis.mono it) (ha.mono it)) (aB (jH 12 17 18 rfl rfl rfl ((aL 2 it it).mono it) ((C.axis.dot ha).mono it)) (aB (dG q.axis 18 [7,8,9] [19,20,21] Ac rfl Ac (C.axis.mono it) (((aL 2 it it).mul (C.axis.dot ha)).mono it)) (aB (nW (a.scale ((q.w.mul q.w).sub (q.axis.dot q.axis))) (q.axis.scale ((Fq.ofInt 2).mul (q.axis.dot a))) [14,15,16] [19,20,21] [22,23,24] Ac Ac Ac ((ha.scale ((C.w.mul C.w).sub (C.axis.dot C.axis))).mono it) ((C.axis.scale ((aL 2 it it).mul (C.axis.dot ha))).mono it)) (il8 (vR q.axis a [7,8,9] [4,5,6] [25,26,27] Ac Ac Ac (C.axis.mono it) (ha.mono it)) (jH 12 0 28 rfl rfl rfl ((aL 2 it it).mono it) (C.w.mono it)) (dG (q.axis.cross a) 28 [25,26,27] [29,30,31] Ac rfl Ac ((C.axis.cross ha).mono it) (((aL 2 it it).mul C.w).mono it)) (nW ((a.scale ((q.w.mul q.w).sub (q.axis.dot q.axis))).add (q.axis.scale ((Fq.ofInt 2).mul (q.axis.dot a)))) ((q.axis.cross a).scale ((Fq.ofInt 2).mul q.w)) [22,23,24] [29,30,31] [32,33,34] Ac Ac Ac (((ha.scale ((C.w.mul C.w).sub (C.axis.dot C.axis))).add (C.axis.scale ((aL 2 it it).mul (C.axis.dot ha)))).mono it) (((C.axis.cross ha).scale ((aL 2 it it).mul C.w)).mono it)) (dm 35 rfl it it) (nT 10 11 36 rfl rfl rfl ((C.w.mul C.w).mono it) ((C.axis.dot C.axis).mono it)) (dl 35 36 37 rfl rfl rfl ((aL 1 it it).mono it) (((C.w.mul C.w).add (C.axis.dot C.axis)).mono it) (vP F)) (dG (((a.scale ((q.w.mul q.w).sub (q.axis.dot q.axis))).add (q.axis.scale ((Fq.ofInt 2).mul (q.axis.dot a)))).add ((q.axis.cross a).scale ((Fq.ofInt 2).mul q.w))) 37 [32,33,34] [38,39,40] Ac rfl Ac ((((ha.scale ((C.w.mul C.w).sub (C.axis.dot C.axis))).add (C.axis.scale ((aL 2 it it).mul (C.axis.dot ha)))).add ((C.axis.cross ha).scale ((aL 2 it it).mul C.w))).mono it) (((aL 1 it it).div ((C.w.mul C.w).add (C.axis.dot C.axis)) (vP F)).mono it))))))))))))) Tryz.func179 ⟨rQ2 G,⟨rV2 ia,trivial⟩⟩).mono ?_;rintro e w' ⟨v,rfl,h1,h2⟩;exact⟨v,rfl,rV1 h1,h2⟩
theorem I_fApp(a:Vq)(G H kr:List Nat)(q:Qq)(J:AtL xs H q.cs)(I:AtL xs G [a.x,a.y,a.z])(K:AtL xs kr [(q.app a).x,(q.app a).y,(q.app a).z])(U:q.ok 300000)(ha:a.ok 300000)(P:q.good):OkI xs ys ⟨179,[row H,row G],.v (row kr)⟩:=
 mI2 Tryz.func179 λC F=>(q_fApp _ _ q a _ ((af J).1 C) ((af I).1 F) U ha P).mono (mMo λh=>(af K).2 h)
theorem tF{x y z:Int}(l1: -9223372036854775808<=x)(r1:x<9223372036854775808)(C: -9223372036854775808<=y)(r2:y<9223372036854775808)(F: -9223372036854775808<=z)(r3:z<9223372036854775808):(Vq.of x y z).ok 2:=⟨aL _ l1 r1,aL _ C r2,aL _ F r3⟩
theorem eM(g:q.good):q.first=Fq.ofInt 1:=mB g.comp.first (aA 1) (by rw[g.one,dx];rfl)
theorem good_ne(g:q.good):q.first.p≠0:=by rw[eM g];decide
theorem tG{p:Qq}{t:Fq}{f:Nat}(h:p.ok d)(k:q.ok e)(l:t.ok f)(C:p.good)(F:q.good)(vt:t.valid=true):(p.way (p.inv.mul q) t).ok (44*(d+((44*(d+2+(d+2)+e)+14+f+2)+(44*(d+2+(d+2)+e)+14+f+2)))+14):=by
 have D:=(h.inv C).mulg k (aS C) F;have S:=D.axis.scale l;exact h.mulg ((Qq.ok.mk4 ((aL _ it it).mono no) (S.x.mono no) (S.y.mono no) (S.z.mono no):Qq.ok (44*(d+2+(d+2)+e)+14+f+2) _).canon fL) C (dM (iF (fo (aS C) F).comp vt) fL)
theorem aaG(c:q.comp)(h:q.first=Fq.ofInt 1):q.good:=⟨c,by rw[h,dx];rfl⟩
def tH(p:Qq)(q:Qq)(m:Fq):List Fq:=(p.cs++(q.cs++([m]++(p.inv.cs++((p.inv.mul q).cs++([(Fq.ofInt 1),(p.inv.mul q).axis.x,(p.inv.mul q).axis.y,(p.inv.mul q).axis.z,((p.inv.mul q).axis.scale m).x,((p.inv.mul q).axis.scale m).y,((p.inv.mul q).axis.scale m).z]++((Qq.mk (Fq.ofInt 1) ((p.inv.mul q).axis.scale m).x ((p.inv.mul q).axis.scale m).y ((p.inv.mul q).axis.scale m).z).canon.cs++((p.mul (Qq.mk (Fq.ofInt 1) ((p.inv.mul q).axis.scale m).x ((p.inv.mul q).axis.scale m).y ((p.inv.mul q).axis.scale m).z).canon).cs))))))))
theorem q_fBtw1(J vq I:Value)(p:Qq)(q:Qq)(m:Fq)(w:World)(V:cM w J p)(Y:cM w vq q)(U:IsQ w I m)(hp:p.ok 100)(G:q.ok 100)(H:m.ok 100)(C:p.good)(F:q.good)(K:m.valid=true)(P:(p.inv.mul q).w.p≠0):
  AC AB 216 #[J,vq,I] w λe w'=>nV w (p.way (p.inv.mul q) m) 0 e w':=by
 refine(cR0 (tH p q m) [row [0,1,2,3],row [4,5,6,7],fr 8] [J,vq,I] (.tup [row [28,29,30,31],.one (.i .i64 0)]) (il8 (tE [0,1,2,3] [9,10,11,12] p Ab Ab (hp.mono it) C) (o7 [9,10,11,12] [4,5,6,7] [13,14,15,16] p.inv q Ab Ab Ab ((hp.inv C).mono it) (G.mono it) (aS C) F) (I_Half0 [13,14,15,16] (p.inv.mul q) Ab (((hp.inv C).mulg G (aS C) F).mono it) P) (dm 17 rfl it it) (pV [13,14,15,16] [18,19,20] (p.inv.mul q) Ab Ac (((hp.inv C).mulg G (aS C) F).mono it)) (dG ((p.inv.mul q).axis) 8 [18,19,20] [21,22,23] Ac rfl Ac (((hp.inv C).mulg G (aS C) F).axis.mono it) (H.mono it)) (pY ((p.inv.mul q).axis.scale m) 17 [21,22,23] [24,25,26,27] rfl Ac Ab ((aL 1 it it).mono it) ((((hp.inv C).mulg G (aS C) F).axis.scale H).mono it) fL) (o7 [0,1,2,3] [24,25,26,27] [28,29,30,31] p ((Qq.mk (Fq.ofInt 1) ((p.inv.mul q).axis.scale m).x ((p.inv.mul q).axis.scale m).y ((p.inv.mul q).axis.scale m).z).canon) Ab Ab Ab (hp.mono it) ((sd (aL 1 it it) (((hp.inv C).mulg G (aS C) F).axis.scale H) fL).mono it) C (dM (iF (fo (aS C) F).comp K) fL))) Tryz.func216 ⟨rQ2 V,⟨rQ2 Y,⟨(aw 8 (tH p q m) rfl).2 U,trivial⟩⟩⟩).mono ?_;rintro e w' ⟨v,rfl,⟨vs,rfl,h1⟩,h2⟩
 match vs,h1 with
 | [r,c],h1=>
  obtain⟨⟨cs,rfl,Z⟩,k2,_⟩:=h1;have k2:c=_:=k2;subst k2;exact⟨_,rfl,(af (xs:=tH p q m) (ks:=[28,29,30,31]) (vs:=(p.mul (Qq.mk (Fq.ofInt 1) ((p.inv.mul q).axis.scale m).x ((p.inv.mul q).axis.scale m).y ((p.inv.mul q).axis.scale m).z).canon).cs) Ab).1 ⟨_,rfl,Z⟩,h2⟩
variable{m:Fq}
theorem I_fBtw1(C:Nat)(kp F kr:List Nat)(p q:Qq)(H:AtL xs kp p.cs)(I:AtL xs F q.cs)(G:xs[C]? =some m)(J:AtL xs kr (p.way (p.inv.mul q) m).cs)(hp:p.ok 100)(Y:q.ok 100)(V:m.ok 100)(P:p.good)(U:q.good)(K:m.valid=true)(Z:(p.inv.mul q).w.p≠0):OkI xs ys ⟨216,[row kp,row F,fr C],.tup [row kr,.one (.i .i64 0)]⟩:=
 ⟨ah Tryz.func216 rfl rfl,λB w vs hB h=>by
  match vs,h with
  | [vp,vq,vm],h=>
   refine(q_fBtw1 vp vq vm p q m w ((af H).1 h.1) ((af I).1 h.2.1) ((aw _ _ G).1 h.2.2.1) hp Y V P U K Z).mono ?_;rintro e w' ⟨v,rfl,h1,h2⟩;exact⟨_,rfl,⟨[v,.int .i64 0],rfl,(af J).2 h1,rfl,trivial⟩,h2⟩⟩
def aaH(p:Qq)(q:Qq)(m:Fq):List Fq:=(p.cs++(q.cs++([m]++(p.inv.cs++((p.inv.mul q).cs++([(Fq.ofInt 1)]))))))
theorem q_fBtw4(G vq F:Value)(p:Qq)(q:Qq)(m:Fq)(w:World)(V:cM w G p)(Y:cM w vq q)(U:IsQ w F m)(hp:p.ok 100)(J:q.ok 100)(I:m.ok 100)(C:p.good)(H:q.good)(K:m.valid=true)(P:(p.inv.mul q).w.p=0)(h0:m.p≠0)(h1:m≠(Fq.ofInt 1)):
  AC AB 216 #[G,vq,F] w λe w'=>nV w Qq.zero 4 e w':=by
 refine(cR1 (aaH p q m) [.val (.int .i64 m.sgn),.val (.int .i64 (m.cmp (Fq.ofInt 1)))] [row [0,1,2,3],row [4,5,6,7],fr 8] [G,vq,F] (.tup [.agg [.b false,.sl0,.sl0,.b false,.sl0,.sl0,.b false,.sl0,.sl0,.b false,.sl0,.sl0],.one (.i .i64 4)]) (il6 (tE [0,1,2,3] [9,10,11,12] p Ab Ab (hp.mono it) C) (o7 [9,10,11,12] [4,5,6,7] [13,14,15,16] p.inv q Ab Ab Ab ((hp.inv C).mono it) (J.mono it) (aS C) H) (I_Half1 [13,14,15,16] (p.inv.mul q) Ab (((hp.inv C).mulg J (aS C) H).mono it) P) (aT 8 rfl (lr 54 rfl) (I.mono it)) (dm 17 rfl it it) (bu 8 17 rfl rfl (lr 55 rfl) (I.mono it) ((aL 1 it it).mono it))) (aj (gQ 0 54 3 rfl (je h0)) (aj (gQ 0 55 3 rfl (jK (mt (bn K (aA 1)).1 h1))) (az))) Tryz.func216 ⟨rQ2 V,⟨rQ2 Y,⟨(aw 8 (aaH p q m) rfl).2 U,trivial⟩⟩⟩).mono ?_;rintro e w' ⟨v,rfl,⟨vs,rfl,h1⟩,h2⟩
 match vs,h1 with
 | [r,c],h1=>
  obtain⟨⟨cs,rfl,Z⟩,k2,_⟩:=h1;have k2:c=_:=k2;subst k2;exact⟨_,rfl,⟨_,rfl,iG (n:=4) Z⟩,h2⟩
theorem I_fBtw4(C:Nat)(kp F kr:List Nat)(p q:Qq)(H:AtL xs kp p.cs)(I:AtL xs F q.cs)(G:xs[C]? =some m)(J:AtL xs kr Qq.zero.cs)(hp:p.ok 100)(Y:q.ok 100)(V:m.ok 100)(P:p.good)(U:q.good)(K:m.valid=true)(Z:(p.inv.mul q).w.p=0)(h0:m.p≠0)(h1:m≠(Fq.ofInt 1)):OkI xs ys ⟨216,[row kp,row F,fr C],.tup [row kr,.one (.i .i64 4)]⟩:=
 ⟨ah Tryz.func216 rfl rfl,λB w vs hB h=>by
  match vs,h with
  | [vp,vq,vm],h=>
   refine(q_fBtw4 vp vq vm p q m w ((af H).1 h.1) ((af I).1 h.2.1) ((aw _ _ G).1 h.2.2.1) hp Y V P U K Z h0 h1).mono ?_;rintro e w' ⟨v,rfl,h1,h2⟩;exact⟨_,rfl,⟨[v,.int .i64 4],rfl,(af J).2 h1,rfl,trivial⟩,h2⟩⟩
def tI(p:Qq)(q:Qq)(m:Fq):List Fq:=(p.cs++(q.cs++([m]++(p.inv.cs++((p.inv.mul q).cs++([(Fq.ofInt 1),(p.inv.mul q).axis.x,(p.inv.mul q).axis.y,(p.inv.mul q).axis.z,((p.inv.mul q).axis.scale m).x,((p.inv.mul q).axis.scale m).y,((p.inv.mul q).axis.scale m).z]++((Qq.mk (Fq.ofInt 1) ((p.inv.mul q).axis.scale m).x ((p.inv.mul q).axis.scale m).y ((p.inv.mul q).axis.scale m).z).canon.cs++((p.mul (Qq.mk (Fq.ofInt 1) ((p.inv.mul q).axis.scale m).x ((p.inv.mul q).axis.scale m).y ((p.inv.mul q).axis.scale m).z).canon).cs))))))))
theorem q_rBtw1(J vq I:Value)(p:Qq)(q:Qq)(m:Fq)(w:World)(V:cM w J p)(Y:cM w vq q)(U:IsQ w I m)(hp:p.ok 100)(G:q.ok 100)(H:m.ok 100)(C:p.good)(F:q.good)(K:m.valid=true)(P:(p.inv.mul q).w.p≠0):
  AC AB 219 #[J,vq,I] w λe w'=>nV w (p.way (p.inv.mul q) m) 0 e w':=by
 refine(cR0 (tI p q m) [row [0,1,2,3],row [4,5,6,7],fr 8] [J,vq,I] (.tup [row [28,29,30,31],.one (.i .i64 0)]) (il8 (aaF [0,1,2,3] [9,10,11,12] p Ab Ab (hp.mono it) C) (tD [9,10,11,12] [4,5,6,7] [13,14,15,16] p.inv q Ab Ab Ab ((hp.inv C).mono it) (G.mono it) (aS C) F) (I_rHalf0 [13,14,15,16] (p.inv.mul q) Ab (((hp.inv C).mulg G (aS C) F).mono it) P) (jJ 17 rfl it it) (yE [13,14,15,16] [18,19,20] (p.inv.mul q) Ab Ac (((hp.inv C).mulg G (aS C) F).mono it)) (pU ((p.inv.mul q).axis) 8 [18,19,20] [21,22,23] Ac rfl Ac (((hp.inv C).mulg G (aS C) F).axis.mono it) (H.mono it)) (pX ((p.inv.mul q).axis.scale m) 17 [21,22,23] [24,25,26,27] rfl Ac Ab ((aL 1 it it).mono it) ((((hp.inv C).mulg G (aS C) F).axis.scale H).mono it) fL) (tD [0,1,2,3] [24,25,26,27] [28,29,30,31] p ((Qq.mk (Fq.ofInt 1) ((p.inv.mul q).axis.scale m).x ((p.inv.mul q).axis.scale m).y ((p.inv.mul q).axis.scale m).z).canon) Ab Ab Ab (hp.mono it) ((sd (aL 1 it it) (((hp.inv C).mulg G (aS C) F).axis.scale H) fL).mono it) C (dM (iF (fo (aS C) F).comp K) fL))) Tryz.func219 ⟨rQ2 V,⟨rQ2 Y,⟨(aw 8 (tI p q m) rfl).2 U,trivial⟩⟩⟩).mono ?_;rintro e w' ⟨v,rfl,⟨vs,rfl,h1⟩,h2⟩
 match vs,h1 with
 | [r,c],h1=>
  obtain⟨⟨cs,rfl,Z⟩,k2,_⟩:=h1;have k2:c=_:=k2;subst k2;exact⟨_,rfl,(af (xs:=tI p q m) (ks:=[28,29,30,31]) (vs:=(p.mul (Qq.mk (Fq.ofInt 1) ((p.inv.mul q).axis.scale m).x ((p.inv.mul q).axis.scale m).y ((p.inv.mul q).axis.scale m).z).canon).cs) Ab).1 ⟨_,rfl,Z⟩,h2⟩
theorem I_rBtw1(C:Nat)(kp F kr:List Nat)(p q:Qq)(H:AtL xs kp p.cs)(I:AtL xs F q.cs)(G:xs[C]? =some m)(J:AtL xs kr (p.way (p.inv.mul q) m).cs)(hp:p.ok 100)(Y:q.ok 100)(V:m.ok 100)(P:p.good)(U:q.good)(K:m.valid=true)(Z:(p.inv.mul q).w.p≠0):OkI xs ys ⟨219,[row kp,row F,fr C],.tup [row kr,.one (.i .i64 0)]⟩:=
 ⟨ah Tryz.func219 rfl rfl,λB w vs hB h=>by
  match vs,h with
  | [vp,vq,vm],h=>
   refine(q_rBtw1 vp vq vm p q m w ((af H).1 h.1) ((af I).1 h.2.1) ((aw _ _ G).1 h.2.2.1) hp Y V P U K Z).mono ?_;rintro e w' ⟨v,rfl,h1,h2⟩;exact⟨_,rfl,⟨[v,.int .i64 0],rfl,(af J).2 h1,rfl,trivial⟩,h2⟩⟩
def aaI(p:Qq)(q:Qq)(m:Fq):List Fq:=(p.cs++(q.cs++([m]++(p.inv.cs++((p.inv.mul q).cs++([(Fq.ofInt 1)]))))))
theorem q_rBtw4(H vq G:Value)(p:Qq)(q:Qq)(m:Fq)(w:World)(U:cM w H p)(V:cM w vq q)(P:IsQ w G m)(hp:p.ok 100)(J:q.ok 100)(F:m.ok 100)(C:p.good)(I:q.good)(Z:m.valid=true)(K:(p.inv.mul q).w.p=0)(h0:m.p≠0)(h1:m≠(Fq.ofInt 1)):
  AC AB 219 #[H,vq,G] w λe w'=>nV w Qq.zero 4 e w':=by
 refine(cR1 (aaI p q m) [.val (.int .i64 m.sgn)] [row [0,1,2,3],row [4,5,6,7],fr 8] [H,vq,G] (.tup [.agg [.b false,.sl0,.sl0,.b false,.sl0,.sl0,.b false,.sl0,.sl0,.b false,.sl0,.sl0],.one (.i .i64 4)]) (il6 (aaF [0,1,2,3] [9,10,11,12] p Ab Ab (hp.mono it) C) (tD [9,10,11,12] [4,5,6,7] [13,14,15,16] p.inv q Ab Ab Ab ((hp.inv C).mono it) (J.mono it) (aS C) I) (I_rHalf1 [13,14,15,16] (p.inv.mul q) Ab (((hp.inv C).mulg J (aS C) I).mono it) K) (dA 8 rfl (lr 54 rfl) (F.mono it)) (jJ 17 rfl it it) (bm 8 17 (.b false) rfl rfl (lb (fN h1)) (F.mono it).p (F.mono it).q ((aL 1 it it).mono it).p ((aL 1 it it).mono it).q)) (aj (gQ 0 54 3 rfl (je h0)) (az)) Tryz.func219 ⟨rQ2 U,⟨rQ2 V,⟨(aw 8 (aaI p q m) rfl).2 P,trivial⟩⟩⟩).mono ?_;rintro e w' ⟨v,rfl,⟨vs,rfl,h1⟩,h2⟩
 match vs,h1 with
 | [r,c],h1=>
  obtain⟨⟨cs,rfl,Y⟩,k2,_⟩:=h1;have k2:c=_:=k2;subst k2;exact⟨_,rfl,⟨_,rfl,iG (n:=4) Y⟩,h2⟩
theorem I_rBtw4(C:Nat)(kp F kr:List Nat)(p q:Qq)(H:AtL xs kp p.cs)(I:AtL xs F q.cs)(G:xs[C]? =some m)(J:AtL xs kr Qq.zero.cs)(hp:p.ok 100)(Y:q.ok 100)(V:m.ok 100)(P:p.good)(U:q.good)(K:m.valid=true)(Z:(p.inv.mul q).w.p=0)(h0:m.p≠0)(h1:m≠(Fq.ofInt 1)):OkI xs ys ⟨219,[row kp,row F,fr C],.tup [row kr,.one (.i .i64 4)]⟩:=
 ⟨ah Tryz.func219 rfl rfl,λB w vs hB h=>by
  match vs,h with
  | [vp,vq,vm],h=>
   refine(q_rBtw4 vp vq vm p q m w ((af H).1 h.1) ((af I).1 h.2.1) ((aw _ _ G).1 h.2.2.1) hp Y V P U K Z h0 h1).mono ?_;rintro e w' ⟨v,rfl,h1,h2⟩;exact⟨_,rfl,⟨[v,.int .i64 4],rfl,(af J).2 h1,rfl,trivial⟩,h2⟩⟩
def yI(q:Qq):List Fq:=(q.cs++([(Fq.ofInt 1)]))
def vY(q:Qq):List Fq:=(q.cs++([(Fq.ofInt 1)]))
def vZ(q:Qq):List Fq:=(q.cs++([(Fq.ofInt 1)]))
def wa(q:Qq):List Fq:=(q.cs++([(Fq.ofInt 1)]))
theorem yJ(vq:Value)(q:Qq)(w:World)(H:cM w vq q)(C:q.ok 1000000)(F:q.good):
  AC AB 181 #[vq] w λe w'=>bI w (.bool true) e w':=by
 by_cases c0:q.w.p=0
 ·by_cases c1:q.x.p=0
  ·by_cases c2:q.y.p=0
   ·by_cases c3:q.z.p=0
    ·exact absurd (by simp[Qq.first,c0,c1,c2,c3]) (good_ne F)
    ·have G:q.first=q.z:=by simp[Qq.first,c0,c1,c2,c3]
     exact(cR1 (yI q) [.val (.int .i64 q.z.sgn)] [row [0,1,2,3]] [vq] (.v (.one (.b true))) (aB (bT [0,1,2,3] [0,1,2,3] q Ab Ab (C.mono it)) (aB (aK 0 (.b true) rfl (lb F.comp.w) (C.w.mono it)) (aB (aK 1 (.b true) rfl (lb F.comp.x) (C.x.mono it)) (il8 (aK 2 (.b true) rfl (lb F.comp.y) (C.y.mono it)) (aK 3 (.b true) rfl (lb F.comp.z) (C.z.mono it)) (aT 0 rfl (li (dS c0)) (C.w.mono it)) (aT 1 rfl (li (dS c1)) (C.x.mono it)) (aT 2 rfl (li (dS c2)) (C.y.mono it)) (aT 3 rfl (lr 15 rfl) (C.z.mono it)) (dm 4 rfl it it) (bu 3 4 rfl rfl (li ((bn F.comp.z (aA 1)).2 (G.symm.trans (eM F)))) (C.z.mono it) ((aL 1 it it).mono it)))))) (aj (gj 0 15 3 rfl (gn c3)) (az)) Dh ⟨rQ2 H,trivial⟩).mono mMr
   ·have G:q.first=q.y:=by simp[Qq.first,c0,c1,c2]
    exact(cR1 (vY q) [.val (.int .i64 q.y.sgn)] [row [0,1,2,3]] [vq] (.v (.one (.b true))) (aB (bT [0,1,2,3] [0,1,2,3] q Ab Ab (C.mono it)) (aB (aK 0 (.b true) rfl (lb F.comp.w) (C.w.mono it)) (il8 (aK 1 (.b true) rfl (lb F.comp.x) (C.x.mono it)) (aK 2 (.b true) rfl (lb F.comp.y) (C.y.mono it)) (aK 3 (.b true) rfl (lb F.comp.z) (C.z.mono it)) (aT 0 rfl (li (dS c0)) (C.w.mono it)) (aT 1 rfl (li (dS c1)) (C.x.mono it)) (aT 2 rfl (lr 15 rfl) (C.y.mono it)) (dm 4 rfl it it) (bu 2 4 rfl rfl (li ((bn F.comp.y (aA 1)).2 (G.symm.trans (eM F)))) (C.y.mono it) ((aL 1 it it).mono it))))) (aj (gj 0 15 3 rfl (gn c2)) (az)) Dh ⟨rQ2 H,trivial⟩).mono mMr
  ·have G:q.first=q.x:=by simp[Qq.first,c0,c1]
   exact(cR1 (vZ q) [.val (.int .i64 q.x.sgn)] [row [0,1,2,3]] [vq] (.v (.one (.b true))) (aB (bT [0,1,2,3] [0,1,2,3] q Ab Ab (C.mono it)) (il8 (aK 0 (.b true) rfl (lb F.comp.w) (C.w.mono it)) (aK 1 (.b true) rfl (lb F.comp.x) (C.x.mono it)) (aK 2 (.b true) rfl (lb F.comp.y) (C.y.mono it)) (aK 3 (.b true) rfl (lb F.comp.z) (C.z.mono it)) (aT 0 rfl (li (dS c0)) (C.w.mono it)) (aT 1 rfl (lr 15 rfl) (C.x.mono it)) (dm 4 rfl it it) (bu 1 4 rfl rfl (li ((bn F.comp.x (aA 1)).2 (G.symm.trans (eM F)))) (C.x.mono it) ((aL 1 it it).mono it)))) (aj (gj 0 15 3 rfl (gn c1)) (az)) Dh ⟨rQ2 H,trivial⟩).mono mMr
 ·have G:q.first=q.w:=by simp[Qq.first,c0]
  exact(cR1 (wa q) [.val (.int .i64 q.w.sgn)] [row [0,1,2,3]] [vq] (.v (.one (.b true))) (il8 (bT [0,1,2,3] [0,1,2,3] q Ab Ab (C.mono it)) (aK 0 (.b true) rfl (lb F.comp.w) (C.w.mono it)) (aK 1 (.b true) rfl (lb F.comp.x) (C.x.mono it)) (aK 2 (.b true) rfl (lb F.comp.y) (C.y.mono it)) (aK 3 (.b true) rfl (lb F.comp.z) (C.z.mono it)) (aT 0 rfl (lr 15 rfl) (C.w.mono it)) (dm 4 rfl it it) (bu 0 4 rfl rfl (li ((bn F.comp.w (aA 1)).2 (G.symm.trans (eM F)))) (C.w.mono it) ((aL 1 it it).mono it))) (aj (gj 0 15 3 rfl (gn c0)) (az)) Dh ⟨rQ2 H,trivial⟩).mono mMr
theorem yL(C:List Nat)(q:Qq)(F:AtL xs C q.cs)(H:q.ok 1000000)(G:q.good):OkI xs ys ⟨181,[row C],.v (.one (.b true))⟩:=
 ⟨ah Dh rfl rfl,λB w vs I h=>by
  match vs,h with
  | [vq],h=>
   refine(yJ vq q w ((af F).1 h.1) H G).mono ?_;rintro e w' ⟨rfl,h2⟩;exact⟨_,rfl,rfl,h2⟩⟩
def yM(q:Qq):List Fq:=q.cs
def wb(q:Qq):List Fq:=(q.cs++([(Fq.ofInt 1)]))
def wd(q:Qq):List Fq:=(q.cs++([(Fq.ofInt 1)]))
def wg(q:Qq):List Fq:=(q.cs++([(Fq.ofInt 1)]))
def wh(q:Qq):List Fq:=(q.cs++([(Fq.ofInt 1)]))
theorem yN(vq:Value)(q:Qq)(w:World)(H:cM w vq q)(C:q.ok 1000000)(F:q.comp)(hf:q.first≠(Fq.ofInt 1)):
  AC AB 181 #[vq] w λe w'=>bI w (.bool false) e w':=by
 by_cases c0:q.w.p=0
 ·by_cases c1:q.x.p=0
  ·by_cases c2:q.y.p=0
   ·by_cases c3:q.z.p=0
    ·exact(cR0 (yM q) [row [0,1,2,3]] [vq] (.v (.one (.b false))) (aB (bT [0,1,2,3] [0,1,2,3] q Ab Ab (C.mono it)) (il8 (aK 0 (.b true) rfl (lb F.w) (C.w.mono it)) (aK 1 (.b true) rfl (lb F.x) (C.x.mono it)) (aK 2 (.b true) rfl (lb F.y) (C.y.mono it)) (aK 3 (.b true) rfl (lb F.z) (C.z.mono it)) (aT 0 rfl (li (dS c0)) (C.w.mono it)) (aT 1 rfl (li (dS c1)) (C.x.mono it)) (aT 2 rfl (li (dS c2)) (C.y.mono it)) (aT 3 rfl (li (dS c3)) (C.z.mono it)))) Dh ⟨rQ2 H,trivial⟩).mono mMr
    ·have G:q.first=q.z:=by simp[Qq.first,c0,c1,c2,c3]
     exact(cR1 (wb q) [.val (.int .i64 q.z.sgn),.val (.int .i64 (q.z.cmp (Fq.ofInt 1)))] [row [0,1,2,3]] [vq] (.v (.one (.b false))) (aB (bT [0,1,2,3] [0,1,2,3] q Ab Ab (C.mono it)) (aB (aK 0 (.b true) rfl (lb F.w) (C.w.mono it)) (aB (aK 1 (.b true) rfl (lb F.x) (C.x.mono it)) (il8 (aK 2 (.b true) rfl (lb F.y) (C.y.mono it)) (aK 3 (.b true) rfl (lb F.z) (C.z.mono it)) (aT 0 rfl (li (dS c0)) (C.w.mono it)) (aT 1 rfl (li (dS c1)) (C.x.mono it)) (aT 2 rfl (li (dS c2)) (C.y.mono it)) (aT 3 rfl (lr 15 rfl) (C.z.mono it)) (dm 4 rfl it it) (bu 3 4 rfl rfl (lr 16 rfl) (C.z.mono it) ((aL 1 it it).mono it)))))) (aj (gj 0 15 3 rfl (gn c3)) (aj (gQ 0 16 3 rfl (jK (mt (bn F.z (aA 1)).1 (λh=>hf (G.trans h))))) (az))) Dh ⟨rQ2 H,trivial⟩).mono mMr
   ·have G:q.first=q.y:=by simp[Qq.first,c0,c1,c2]
    exact(cR1 (wd q) [.val (.int .i64 q.y.sgn),.val (.int .i64 (q.y.cmp (Fq.ofInt 1)))] [row [0,1,2,3]] [vq] (.v (.one (.b false))) (aB (bT [0,1,2,3] [0,1,2,3] q Ab Ab (C.mono it)) (aB (aK 0 (.b true) rfl (lb F.w) (C.w.mono it)) (il8 (aK 1 (.b true) rfl (lb F.x) (C.x.mono it)) (aK 2 (.b true) rfl (lb F.y) (C.y.mono it)) (aK 3 (.b true) rfl (lb F.z) (C.z.mono it)) (aT 0 rfl (li (dS c0)) (C.w.mono it)) (aT 1 rfl (li (dS c1)) (C.x.mono it)) (aT 2 rfl (lr 15 rfl) (C.y.mono it)) (dm 4 rfl it it) (bu 2 4 rfl rfl (lr 16 rfl) (C.y.mono it) ((aL 1 it it).mono it))))) (aj (gj 0 15 3 rfl (gn c2)) (aj (gQ 0 16 3 rfl (jK (mt (bn F.y (aA 1)).1 (λh=>hf (G.trans h))))) (az))) Dh ⟨rQ2 H,trivial⟩).mono mMr
  ·have G:q.first=q.x:=by simp[Qq.first,c0,c1]
   exact(cR1 (wg q) [.val (.int .i64 q.x.sgn),.val (.int .i64 (q.x.cmp (Fq.ofInt 1)))] [row [0,1,2,3]] [vq] (.v (.one (.b false))) (aB (bT [0,1,2,3] [0,1,2,3] q Ab Ab (C.mono it)) (il8 (aK 0 (.b true) rfl (lb F.w) (C.w.mono it)) (aK 1 (.b true) rfl (lb F.x) (C.x.mono it)) (aK 2 (.b true) rfl (lb F.y) (C.y.mono it)) (aK 3 (.b true) rfl (lb F.z) (C.z.mono it)) (aT 0 rfl (li (dS c0)) (C.w.mono it)) (aT 1 rfl (lr 15 rfl) (C.x.mono it)) (dm 4 rfl it it) (bu 1 4 rfl rfl (lr 16 rfl) (C.x.mono it) ((aL 1 it it).mono it)))) (aj (gj 0 15 3 rfl (gn c1)) (aj (gQ 0 16 3 rfl (jK (mt (bn F.x (aA 1)).1 (λh=>hf (G.trans h))))) (az))) Dh ⟨rQ2 H,trivial⟩).mono mMr
 ·have G:q.first=q.w:=by simp[Qq.first,c0]
  exact(cR1 (wh q) [.val (.int .i64 q.w.sgn),.val (.int .i64 (q.w.cmp (Fq.ofInt 1)))] [row [0,1,2,3]] [vq] (.v (.one (.b false))) (il8 (bT [0,1,2,3] [0,1,2,3] q Ab Ab (C.mono it)) (aK 0 (.b true) rfl (lb F.w) (C.w.mono it)) (aK 1 (.b true) rfl (lb F.x) (C.x.mono it)) (aK 2 (.b true) rfl (lb F.y) (C.y.mono it)) (aK 3 (.b true) rfl (lb F.z) (C.z.mono it)) (aT 0 rfl (lr 15 rfl) (C.w.mono it)) (dm 4 rfl it it) (bu 0 4 rfl rfl (lr 16 rfl) (C.w.mono it) ((aL 1 it it).mono it))) (aj (gj 0 15 3 rfl (gn c0)) (aj (gQ 0 16 3 rfl (jK (mt (bn F.w (aA 1)).1 (λh=>hf (G.trans h))))) (az))) Dh ⟨rQ2 H,trivial⟩).mono mMr
theorem yO(C:List Nat)(q:Qq)(F:AtL xs C q.cs)(H:q.ok 1000000)(G:q.comp)(hf:q.first≠(Fq.ofInt 1)):OkI xs ys ⟨181,[row C],.v (.one (.b false))⟩:=
 ⟨ah Dh rfl rfl,λB w vs I h=>by
  match vs,h with
  | [vq],h=>
   refine(yN vq q w ((af F).1 h.1) H G hf).mono ?_;rintro e w' ⟨rfl,h2⟩;exact⟨_,rfl,rfl,h2⟩⟩
def yP(q:Qq):List Fq:=(q.cs++([q.first,(Fq.ofInt 1)]))
theorem yQ(vq:Value)(q:Qq)(w:World)(G:cM w vq q)(C:q.ok 1000000)(F:q.good):
  AC AB 208 #[vq] w λe w'=>bI w (.bool true) e w':=by
 exact(cR0 (yP q) [row [0,1,2,3]] [vq] (.v (.one (.b true))) (il7 (dp 0 (.b true) rfl (lb F.comp.w) (C.w.mono it)) (dp 1 (.b true) rfl (lb F.comp.x) (C.x.mono it)) (dp 2 (.b true) rfl (lb F.comp.y) (C.y.mono it)) (dp 3 (.b true) rfl (lb F.comp.z) (C.z.mono it)) (pW 4 [0,1,2,3] q Ab rfl (C.mono it)) (jJ 5 rfl it it) (bm 4 5 (.b true) rfl rfl (lb (Fq.same_iff.2 (eM F))) (C.first.mono it).p (C.first.mono it).q ((aL 1 it it).mono it).p ((aL 1 it it).mono it).q)) Tryz.func208 ⟨rQ2 G,trivial⟩).mono mMr
theorem yR(C:List Nat)(q:Qq)(F:AtL xs C q.cs)(H:q.ok 1000000)(G:q.good):OkI xs ys ⟨208,[row C],.v (.one (.b true))⟩:=
 ⟨ah Tryz.func208 rfl rfl,λB w vs I h=>by
  match vs,h with
  | [vq],h=>
   refine(yQ vq q w ((af F).1 h.1) H G).mono ?_;rintro e w' ⟨rfl,h2⟩;exact⟨_,rfl,rfl,h2⟩⟩
def yS(q:Qq):List Fq:=(q.cs++([q.first,(Fq.ofInt 1)]))
theorem yT(vq:Value)(q:Qq)(w:World)(G:cM w vq q)(C:q.ok 1000000)(F:q.comp)(hf:q.first≠(Fq.ofInt 1)):
  AC AB 208 #[vq] w λe w'=>bI w (.bool false) e w':=by
 exact(cR0 (yS q) [row [0,1,2,3]] [vq] (.v (.one (.b false))) (il7 (dp 0 (.b true) rfl (lb F.w) (C.w.mono it)) (dp 1 (.b true) rfl (lb F.x) (C.x.mono it)) (dp 2 (.b true) rfl (lb F.y) (C.y.mono it)) (dp 3 (.b true) rfl (lb F.z) (C.z.mono it)) (pW 4 [0,1,2,3] q Ab rfl (C.mono it)) (jJ 5 rfl it it) (bm 4 5 (.b false) rfl rfl (lb (fN hf)) (C.first.mono it).p (C.first.mono it).q ((aL 1 it it).mono it).p ((aL 1 it it).mono it).q)) Tryz.func208 ⟨rQ2 G,trivial⟩).mono mMr
theorem yU(C:List Nat)(q:Qq)(F:AtL xs C q.cs)(H:q.ok 1000000)(G:q.comp)(hf:q.first≠(Fq.ofInt 1)):OkI xs ys ⟨208,[row C],.v (.one (.b false))⟩:=
 ⟨ah Tryz.func208 rfl rfl,λB w vs I h=>by
  match vs,h with
  | [vq],h=>
   refine(yT vq q w ((af F).1 h.1) H G hf).mono ?_;rintro e w' ⟨rfl,h2⟩;exact⟨_,rfl,rfl,h2⟩⟩
end Go.Proofs.YtggfmklppkioeaaGreat
