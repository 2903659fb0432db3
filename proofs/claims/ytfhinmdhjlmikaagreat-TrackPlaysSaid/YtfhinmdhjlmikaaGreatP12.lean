/- Rotations, by the executor. Make and canonical of rotations, by the executor. Products, inverses, images, by the executor. Matrices, units, from one vector to another, by the executor. -/
import Derived.Test.YtfhinmdhjlmikaaGreatP11
namespace Go.Proofs.YtfhinmdhjlmikaaGreat
set_option linter.unusedSimpArgs false
set_option linter.unusedVariables false
set_option maxRecDepth 100000
open Go.RowKit
/-- Agreement of all parts. -/
def Vq.same (a b:Vq):Bool:=a.x.same b.x && (a.y.same b.y && a.z.same b.z)
def Qq.same (p q:Qq):Bool:=p.w.same q.w && (p.x.same q.x && (p.y.same q.y && p.z.same q.z))
theorem Vq.same_iff {a b:Vq}:a.same b=true↔a=b:=by
 obtain⟨a1,a2,a3⟩:=a;obtain⟨b1,b2,b3⟩:=b
 simp[Vq.same,Fq.same_iff]
theorem Qq.same_iff {a b:Qq}:a.same b=true↔a=b:=by
 obtain⟨a1,a2,a3,a4⟩:=a;obtain⟨b1,b2,b3,b4⟩:=b
 simp[Qq.same,Fq.same_iff]
def rz (a:Vq) (b:Vq):List Fq:=[a.x,a.y,a.z,b.x,b.y,b.z,(a.x.mul b.x),(a.y.mul b.y),(a.z.mul b.z),((a.y.mul b.y).add (a.z.mul b.z)),((a.x.mul b.x).add ((a.y.mul b.y).add (a.z.mul b.z)))]
theorem q_rDot (va vb:Value) (a:Vq) (b:Vq) (w:World) (ia:cX w va a) (ib:cX w vb b) (ha:a.ok 100000000) (hb:b.ok 100000000):
  Calls Tryz.prog 135 #[va,vb] w fun e w'=>fC w (a.dot b) e w':=by
 refine(cRn (ρ:=frs (rz a b)++ []) (args:=[row [0,1,2],row [3,4,5]]) (vs:=[va,vb]) (r:=.v (fr 10))
  (af (dU (i:=0) (j:=3) (k:=6) rfl rfl rfl (ha.x.mono (by decide)) (hb.x.mono (by decide))) (af (dU (i:=1) (j:=4) (k:=7) rfl rfl rfl (ha.y.mono (by decide)) (hb.y.mono (by decide))) (af (dU (i:=2) (j:=5) (k:=8) rfl rfl rfl (ha.z.mono (by decide)) (hb.z.mono (by decide))) (af (jk (i:=7) (j:=8) (k:=9) rfl rfl rfl ((ha.y.mul hb.y).mono (by decide)) ((ha.z.mul hb.z).mono (by decide))) (af (jk (i:=6) (j:=9) (k:=10) rfl rfl rfl ((ha.x.mul hb.x).mono (by decide)) (((ha.y.mul hb.y).add (ha.z.mul hb.z)).mono (by decide))) ai)))))
  aj Tryz.func135 (by kernel_rfl) ⟨(ag (xs:=rz a b) (ks:=[0,1,2]) (vs:=[a.x,a.y,a.z]) ⟨rfl,rfl,rfl,trivial⟩).2 ia,⟨(ag (xs:=rz a b) (ks:=[3,4,5]) (vs:=[b.x,b.y,b.z]) ⟨rfl,rfl,rfl,trivial⟩).2 ib,trivial⟩⟩).mono ?_
 rintro e w' ⟨v,rfl,h1,h2⟩
 exact⟨v,rfl,(aI (xs:=rz a b) (k:=10) rfl).1 h1,h2⟩
theorem I_rDot {xs:List Fq} {ys:Rho} {ka:List Nat} {kb:List Nat} {a:Vq} {b:Vq} {ir:Nat} (aa:AtL xs ka [a.x,a.y,a.z]) (ab:AtL xs kb [b.x,b.y,b.z]) (ar:xs[ir]? =some (a.dot b)) (ha:a.ok 100000000) (hb:b.ok 100000000):OkI xs ys ⟨135,[row ka,row kb],.v (fr ir)⟩:=
 ⟨aA Tryz.func135 rfl rfl,fun B w vs hB h=>by
  match vs,h with
  | [va,vb],h=>
   refine(q_rDot va vb a b w ((ag aa).1 h.1) ((ag ab).1 h.2.1) ha hb).mono ?_
   rintro e w' ⟨v,rfl,h1,h2⟩
   exact⟨v,rfl,(aI ar).2 h1,h2⟩⟩
def lO (a:Vq) (b:Vq):List Fq:=[a.x,a.y,a.z,b.x,b.y,b.z,(a.y.mul b.z),(a.z.mul b.y),((a.y.mul b.z).sub (a.z.mul b.y)),(a.z.mul b.x),(a.x.mul b.z),((a.z.mul b.x).sub (a.x.mul b.z)),(a.x.mul b.y),(a.y.mul b.x),((a.x.mul b.y).sub (a.y.mul b.x))]
theorem q_rCross (va vb:Value) (a:Vq) (b:Vq) (w:World) (ia:cX w va a) (ib:cX w vb b) (ha:a.ok 100000000) (hb:b.ok 100000000):
  Calls Tryz.prog 137 #[va,vb] w fun e w'=>ei w (a.cross b) e w':=by
 refine(cRn (ρ:=frs (lO a b)++ []) (args:=[row [0,1,2],row [3,4,5]]) (vs:=[va,vb]) (r:=.v (row [8,11,14]))
  (af (dU (i:=1) (j:=5) (k:=6) rfl rfl rfl (ha.y.mono (by decide)) (hb.z.mono (by decide))) (af (dU (i:=2) (j:=4) (k:=7) rfl rfl rfl (ha.z.mono (by decide)) (hb.y.mono (by decide))) (af (ku (i:=6) (j:=7) (k:=8) rfl rfl rfl ((ha.y.mul hb.z).mono (by decide)) ((ha.z.mul hb.y).mono (by decide))) (af (dU (i:=2) (j:=3) (k:=9) rfl rfl rfl (ha.z.mono (by decide)) (hb.x.mono (by decide))) (af (dU (i:=0) (j:=5) (k:=10) rfl rfl rfl (ha.x.mono (by decide)) (hb.z.mono (by decide))) (af (ku (i:=9) (j:=10) (k:=11) rfl rfl rfl ((ha.z.mul hb.x).mono (by decide)) ((ha.x.mul hb.z).mono (by decide))) (af (dU (i:=0) (j:=4) (k:=12) rfl rfl rfl (ha.x.mono (by decide)) (hb.y.mono (by decide))) (af (dU (i:=1) (j:=3) (k:=13) rfl rfl rfl (ha.y.mono (by decide)) (hb.x.mono (by decide))) (af (ku (i:=12) (j:=13) (k:=14) rfl rfl rfl ((ha.x.mul hb.y).mono (by decide)) ((ha.y.mul hb.x).mono (by decide))) ai)))))))))
  aj Tryz.func137 (by kernel_rfl) ⟨(ag (xs:=lO a b) (ks:=[0,1,2]) (vs:=[a.x,a.y,a.z]) ⟨rfl,rfl,rfl,trivial⟩).2 ia,⟨(ag (xs:=lO a b) (ks:=[3,4,5]) (vs:=[b.x,b.y,b.z]) ⟨rfl,rfl,rfl,trivial⟩).2 ib,trivial⟩⟩).mono ?_
 rintro e w' ⟨v,rfl,h1,h2⟩
 exact⟨v,rfl,(ag (xs:=lO a b) (ks:=[8,11,14]) (vs:=[((a.y.mul b.z).sub (a.z.mul b.y)),((a.z.mul b.x).sub (a.x.mul b.z)),((a.x.mul b.y).sub (a.y.mul b.x))]) ⟨rfl,rfl,rfl,trivial⟩).1 h1,h2⟩
theorem I_rCross {xs:List Fq} {ys:Rho} {ka:List Nat} {kb:List Nat} {a:Vq} {b:Vq} {kr:List Nat} (aa:AtL xs ka [a.x,a.y,a.z]) (ab:AtL xs kb [b.x,b.y,b.z]) (ar:AtL xs kr [(a.cross b).x,(a.cross b).y,(a.cross b).z]) (ha:a.ok 100000000) (hb:b.ok 100000000):OkI xs ys ⟨137,[row ka,row kb],.v (row kr)⟩:=
 ⟨aA Tryz.func137 rfl rfl,fun B w vs hB h=>by
  match vs,h with
  | [va,vb],h=>
   refine(q_rCross va vb a b w ((ag aa).1 h.1) ((ag ab).1 h.2.1) ha hb).mono ?_
   rintro e w' ⟨v,rfl,h1,h2⟩
   exact⟨v,rfl,(ag ar).2 h1,h2⟩⟩
def lP (a:Vq) (k:Fq):List Fq:=[a.x,a.y,a.z,k,(a.x.mul k),(a.y.mul k),(a.z.mul k)]
theorem q_rScale (va vk:Value) (a:Vq) (k:Fq) (w:World) (ia:cX w va a) (ik:IsQ w vk k) (ha:a.ok 100000000) (hk:k.ok 100000000):
  Calls Tryz.prog 117 #[va,vk] w fun e w'=>ei w (a.scale k) e w':=by
 refine(cRn (ρ:=frs (lP a k)++ []) (args:=[row [0,1,2],fr 3]) (vs:=[va,vk]) (r:=.v (row [4,5,6]))
  (af (dU (i:=0) (j:=3) (k:=4) rfl rfl rfl (ha.x.mono (by decide)) (hk.mono (by decide))) (af (dU (i:=1) (j:=3) (k:=5) rfl rfl rfl (ha.y.mono (by decide)) (hk.mono (by decide))) (af (dU (i:=2) (j:=3) (k:=6) rfl rfl rfl (ha.z.mono (by decide)) (hk.mono (by decide))) ai)))
  aj Tryz.func117 (by kernel_rfl) ⟨(ag (xs:=lP a k) (ks:=[0,1,2]) (vs:=[a.x,a.y,a.z]) ⟨rfl,rfl,rfl,trivial⟩).2 ia,⟨(aI (xs:=lP a k) (k:=3) rfl).2 ik,trivial⟩⟩).mono ?_
 rintro e w' ⟨v,rfl,h1,h2⟩
 exact⟨v,rfl,(ag (xs:=lP a k) (ks:=[4,5,6]) (vs:=[(a.x.mul k),(a.y.mul k),(a.z.mul k)]) ⟨rfl,rfl,rfl,trivial⟩).1 h1,h2⟩
theorem oT {xs:List Fq} {ys:Rho} {ka:List Nat} {ik:Nat} {a:Vq} {k:Fq} {kr:List Nat} (aa:AtL xs ka [a.x,a.y,a.z]) (ak:xs[ik]? =some k) (ar:AtL xs kr [(a.scale k).x,(a.scale k).y,(a.scale k).z]) (ha:a.ok 100000000) (hk:k.ok 100000000):OkI xs ys ⟨117,[row ka,fr ik],.v (row kr)⟩:=
 ⟨aA Tryz.func117 rfl rfl,fun B w vs hB h=>by
  match vs,h with
  | [va,vk],h=>
   refine(q_rScale va vk a k w ((ag aa).1 h.1) ((aI ak).1 h.2.1) ha hk).mono ?_
   rintro e w' ⟨v,rfl,h1,h2⟩
   exact⟨v,rfl,(ag ar).2 h1,h2⟩⟩
def rA (a:Vq) (b:Vq):List Fq:=[a.x,a.y,a.z,b.x,b.y,b.z,(a.x.add b.x),(a.y.add b.y),(a.z.add b.z)]
theorem q_rSum (va vb:Value) (a:Vq) (b:Vq) (w:World) (ia:cX w va a) (ib:cX w vb b) (ha:a.ok 100000000) (hb:b.ok 100000000):
  Calls Tryz.prog 136 #[va,vb] w fun e w'=>ei w (a.add b) e w':=by
 refine(cRn (ρ:=frs (rA a b)++ []) (args:=[row [0,1,2],row [3,4,5]]) (vs:=[va,vb]) (r:=.v (row [6,7,8]))
  (af (jk (i:=0) (j:=3) (k:=6) rfl rfl rfl (ha.x.mono (by decide)) (hb.x.mono (by decide))) (af (jk (i:=1) (j:=4) (k:=7) rfl rfl rfl (ha.y.mono (by decide)) (hb.y.mono (by decide))) (af (jk (i:=2) (j:=5) (k:=8) rfl rfl rfl (ha.z.mono (by decide)) (hb.z.mono (by decide))) ai)))
  aj Tryz.func136 (by kernel_rfl) ⟨(ag (xs:=rA a b) (ks:=[0,1,2]) (vs:=[a.x,a.y,a.z]) ⟨rfl,rfl,rfl,trivial⟩).2 ia,⟨(ag (xs:=rA a b) (ks:=[3,4,5]) (vs:=[b.x,b.y,b.z]) ⟨rfl,rfl,rfl,trivial⟩).2 ib,trivial⟩⟩).mono ?_
 rintro e w' ⟨v,rfl,h1,h2⟩
 exact⟨v,rfl,(ag (xs:=rA a b) (ks:=[6,7,8]) (vs:=[(a.x.add b.x),(a.y.add b.y),(a.z.add b.z)]) ⟨rfl,rfl,rfl,trivial⟩).1 h1,h2⟩
theorem I_rSum {xs:List Fq} {ys:Rho} {ka:List Nat} {kb:List Nat} {a:Vq} {b:Vq} {kr:List Nat} (aa:AtL xs ka [a.x,a.y,a.z]) (ab:AtL xs kb [b.x,b.y,b.z]) (ar:AtL xs kr [(a.add b).x,(a.add b).y,(a.add b).z]) (ha:a.ok 100000000) (hb:b.ok 100000000):OkI xs ys ⟨136,[row ka,row kb],.v (row kr)⟩:=
 ⟨aA Tryz.func136 rfl rfl,fun B w vs hB h=>by
  match vs,h with
  | [va,vb],h=>
   refine(q_rSum va vb a b w ((ag aa).1 h.1) ((ag ab).1 h.2.1) ha hb).mono ?_
   rintro e w' ⟨v,rfl,h1,h2⟩
   exact⟨v,rfl,(ag ar).2 h1,h2⟩⟩
theorem eC {x y:Fq} (h:x≠y):x.same y=false:=Bool.eq_false_iff.2 (mt Fq.same_iff.1 h)
def mE (a:Qq) (b:Qq):List Fq:=(a.cs++(b.cs))
theorem za (va vb:Value) (a:Qq) (b:Qq) (w:World) (ia:dE w va a) (ib:dE w vb b) (ha:a.ok 1000000000) (hb:b.ok 1000000000) (e0:a=b):
  Calls Tryz.prog 50 #[va,vb] w fun e w'=>bH w (.bool true) e w':=by
 refine(cRn (ρ:=frs (mE a b)++ []) (args:=[row [0,1,2,3],row [4,5,6,7]]) (vs:=[va,vb]) (r:=.v (.one (.b true)))
  (af (bS (i:=0) (j:=4) (l:=.b true) rfl rfl (lb (Fq.same_iff.2 (congrArg Qq.w e0))) (ha.w.mono (by decide)).p (ha.w.mono (by decide)).q (hb.w.mono (by decide)).p (hb.w.mono (by decide)).q) (af (bS (i:=1) (j:=5) (l:=.b true) rfl rfl (lb (Fq.same_iff.2 (congrArg Qq.x e0))) (ha.x.mono (by decide)).p (ha.x.mono (by decide)).q (hb.x.mono (by decide)).p (hb.x.mono (by decide)).q) (af (bS (i:=2) (j:=6) (l:=.b true) rfl rfl (lb (Fq.same_iff.2 (congrArg Qq.y e0))) (ha.y.mono (by decide)).p (ha.y.mono (by decide)).q (hb.y.mono (by decide)).p (hb.y.mono (by decide)).q) (af (bS (i:=3) (j:=7) (l:=.b true) rfl rfl (lb (Fq.same_iff.2 (congrArg Qq.z e0))) (ha.z.mono (by decide)).p (ha.z.mono (by decide)).q (hb.z.mono (by decide)).p (hb.z.mono (by decide)).q) ai))))
  aj Tryz.func50 (by kernel_rfl) ⟨(ag (xs:=mE a b) (ks:=[0,1,2,3]) (vs:=a.cs) ⟨rfl,rfl,rfl,rfl,trivial⟩).2 ia,⟨(ag (xs:=mE a b) (ks:=[4,5,6,7]) (vs:=b.cs) ⟨rfl,rfl,rfl,rfl,trivial⟩).2 ib,trivial⟩⟩).mono ?_
 rintro e w' ⟨v,rfl,h1,h2⟩
 exact⟨congrArg Ending.returned h1,h2⟩
theorem qt {xs:List Fq} {ys:Rho} {ka:List Nat} {kb:List Nat} {a:Qq} {b:Qq} (aa:AtL xs ka a.cs) (ab:AtL xs kb b.cs) (ha:a.ok 1000000000) (hb:b.ok 1000000000) (e0:a=b):OkI xs ys ⟨50,[row ka,row kb],.v (.one (.b true))⟩:=
 ⟨aA Tryz.func50 rfl rfl,fun B w vs hB h=>by
  match vs,h with
  | [va,vb],h=>
   refine(za va vb a b w ((ag aa).1 h.1) ((ag ab).1 h.2.1) ha hb e0).mono ?_
   rintro e w' ⟨rfl,h2⟩
   exact⟨_,rfl,rfl,h2⟩⟩
def mF (a:Qq) (b:Qq):List Fq:=(a.cs++(b.cs))
def kv (a:Qq) (b:Qq):List Fq:=(a.cs++(b.cs))
def kA (a:Qq) (b:Qq):List Fq:=(a.cs++(b.cs))
def kB (a:Qq) (b:Qq):List Fq:=(a.cs++(b.cs))
theorem zb (va vb:Value) (a:Qq) (b:Qq) (w:World) (ia:dE w va a) (ib:dE w vb b) (ha:a.ok 1000000000) (hb:b.ok 1000000000) (e0:a≠b):
  Calls Tryz.prog 50 #[va,vb] w fun e w'=>bH w (.bool false) e w':=by
 by_cases c0:a.w=b.w
 ·by_cases c1:a.x=b.x
  ·by_cases c2:a.y=b.y
   ·by_cases c3:a.z=b.z
    ·exact absurd (by cases a;cases b;simp only at c0 c1 c2 c3;subst c0 c1 c2 c3;rfl) e0
    ·refine(cRn (ρ:=frs (mF a b)++ []) (args:=[row [0,1,2,3],row [4,5,6,7]]) (vs:=[va,vb]) (r:=.v (.one (.b false)))
      (af (bS (i:=0) (j:=4) (l:=.b true) rfl rfl (lb (Fq.same_iff.2 c0)) (ha.w.mono (by decide)).p (ha.w.mono (by decide)).q (hb.w.mono (by decide)).p (hb.w.mono (by decide)).q) (af (bS (i:=1) (j:=5) (l:=.b true) rfl rfl (lb (Fq.same_iff.2 c1)) (ha.x.mono (by decide)).p (ha.x.mono (by decide)).q (hb.x.mono (by decide)).p (hb.x.mono (by decide)).q) (af (bS (i:=2) (j:=6) (l:=.b true) rfl rfl (lb (Fq.same_iff.2 c2)) (ha.y.mono (by decide)).p (ha.y.mono (by decide)).q (hb.y.mono (by decide)).p (hb.y.mono (by decide)).q) (af (bS (i:=3) (j:=7) (l:=.b false) rfl rfl (lb (eC c3)) (ha.z.mono (by decide)).p (ha.z.mono (by decide)).q (hb.z.mono (by decide)).p (hb.z.mono (by decide)).q) ai))))
      aj Tryz.func50 (by kernel_rfl) ⟨(ag (xs:=mF a b) (ks:=[0,1,2,3]) (vs:=a.cs) ⟨rfl,rfl,rfl,rfl,trivial⟩).2 ia,⟨(ag (xs:=mF a b) (ks:=[4,5,6,7]) (vs:=b.cs) ⟨rfl,rfl,rfl,rfl,trivial⟩).2 ib,trivial⟩⟩).mono ?_
     rintro e w' ⟨v,rfl,h1,h2⟩
     exact⟨congrArg Ending.returned h1,h2⟩
   ·refine(cRn (ρ:=frs (kv a b)++ []) (args:=[row [0,1,2,3],row [4,5,6,7]]) (vs:=[va,vb]) (r:=.v (.one (.b false)))
     (af (bS (i:=0) (j:=4) (l:=.b true) rfl rfl (lb (Fq.same_iff.2 c0)) (ha.w.mono (by decide)).p (ha.w.mono (by decide)).q (hb.w.mono (by decide)).p (hb.w.mono (by decide)).q) (af (bS (i:=1) (j:=5) (l:=.b true) rfl rfl (lb (Fq.same_iff.2 c1)) (ha.x.mono (by decide)).p (ha.x.mono (by decide)).q (hb.x.mono (by decide)).p (hb.x.mono (by decide)).q) (af (bS (i:=2) (j:=6) (l:=.b false) rfl rfl (lb (eC c2)) (ha.y.mono (by decide)).p (ha.y.mono (by decide)).q (hb.y.mono (by decide)).p (hb.y.mono (by decide)).q) ai)))
     aj Tryz.func50 (by kernel_rfl) ⟨(ag (xs:=kv a b) (ks:=[0,1,2,3]) (vs:=a.cs) ⟨rfl,rfl,rfl,rfl,trivial⟩).2 ia,⟨(ag (xs:=kv a b) (ks:=[4,5,6,7]) (vs:=b.cs) ⟨rfl,rfl,rfl,rfl,trivial⟩).2 ib,trivial⟩⟩).mono ?_
    rintro e w' ⟨v,rfl,h1,h2⟩
    exact⟨congrArg Ending.returned h1,h2⟩
  ·refine(cRn (ρ:=frs (kA a b)++ []) (args:=[row [0,1,2,3],row [4,5,6,7]]) (vs:=[va,vb]) (r:=.v (.one (.b false)))
    (af (bS (i:=0) (j:=4) (l:=.b true) rfl rfl (lb (Fq.same_iff.2 c0)) (ha.w.mono (by decide)).p (ha.w.mono (by decide)).q (hb.w.mono (by decide)).p (hb.w.mono (by decide)).q) (af (bS (i:=1) (j:=5) (l:=.b false) rfl rfl (lb (eC c1)) (ha.x.mono (by decide)).p (ha.x.mono (by decide)).q (hb.x.mono (by decide)).p (hb.x.mono (by decide)).q) ai))
    aj Tryz.func50 (by kernel_rfl) ⟨(ag (xs:=kA a b) (ks:=[0,1,2,3]) (vs:=a.cs) ⟨rfl,rfl,rfl,rfl,trivial⟩).2 ia,⟨(ag (xs:=kA a b) (ks:=[4,5,6,7]) (vs:=b.cs) ⟨rfl,rfl,rfl,rfl,trivial⟩).2 ib,trivial⟩⟩).mono ?_
   rintro e w' ⟨v,rfl,h1,h2⟩
   exact⟨congrArg Ending.returned h1,h2⟩
 ·refine(cRn (ρ:=frs (kB a b)++ []) (args:=[row [0,1,2,3],row [4,5,6,7]]) (vs:=[va,vb]) (r:=.v (.one (.b false)))
   (af (bS (i:=0) (j:=4) (l:=.b false) rfl rfl (lb (eC c0)) (ha.w.mono (by decide)).p (ha.w.mono (by decide)).q (hb.w.mono (by decide)).p (hb.w.mono (by decide)).q) ai)
   aj Tryz.func50 (by kernel_rfl) ⟨(ag (xs:=kB a b) (ks:=[0,1,2,3]) (vs:=a.cs) ⟨rfl,rfl,rfl,rfl,trivial⟩).2 ia,⟨(ag (xs:=kB a b) (ks:=[4,5,6,7]) (vs:=b.cs) ⟨rfl,rfl,rfl,rfl,trivial⟩).2 ib,trivial⟩⟩).mono ?_
  rintro e w' ⟨v,rfl,h1,h2⟩
  exact⟨congrArg Ending.returned h1,h2⟩
theorem zc {xs:List Fq} {ys:Rho} {ka:List Nat} {kb:List Nat} {a:Qq} {b:Qq} (aa:AtL xs ka a.cs) (ab:AtL xs kb b.cs) (ha:a.ok 1000000000) (hb:b.ok 1000000000) (e0:a≠b):OkI xs ys ⟨50,[row ka,row kb],.v (.one (.b false))⟩:=
 ⟨aA Tryz.func50 rfl rfl,fun B w vs hB h=>by
  match vs,h with
  | [va,vb],h=>
   refine(zb va vb a b w ((ag aa).1 h.1) ((ag ab).1 h.2.1) ha hb e0).mono ?_
   rintro e w' ⟨rfl,h2⟩
   exact⟨_,rfl,rfl,h2⟩⟩
def vD (q:Qq):List Fq:=q.cs
theorem q_axis (vq:Value) (q:Qq) (w:World) (iq:dE w vq q) (hq:q.ok 1000000000):
  Calls Tryz.prog 95 #[vq] w fun e w'=>ei w q.axis e w':=by
 refine(cRn (ρ:=frs (vD q)++ []) (args:=[row [0,1,2,3]]) (vs:=[vq]) (r:=.v (row [1,2,3]))
  (ai)
  aj Tryz.func95 (by kernel_rfl) ⟨(ag (xs:=vD q) (ks:=[0,1,2,3]) (vs:=q.cs) ⟨rfl,rfl,rfl,rfl,trivial⟩).2 iq,trivial⟩).mono ?_
 rintro e w' ⟨v,rfl,h1,h2⟩
 exact⟨v,rfl,(ag (xs:=vD q) (ks:=[1,2,3]) (vs:=[q.x,q.y,q.z]) ⟨rfl,rfl,rfl,trivial⟩).1 h1,h2⟩
theorem rB {xs:List Fq} {ys:Rho} {kq:List Nat} {q:Qq} {kr:List Nat} (aq:AtL xs kq q.cs) (ar:AtL xs kr [q.axis.x,q.axis.y,q.axis.z]) (hq:q.ok 1000000000):OkI xs ys ⟨95,[row kq],.v (row kr)⟩:=
 ⟨aA Tryz.func95 rfl rfl,fun B w vs hB h=>by
  match vs,h with
  | [vq],h=>
   refine(q_axis vq q w ((ag aq).1 h.1) hq).mono ?_
   rintro e w' ⟨v,rfl,h1,h2⟩
   exact⟨v,rfl,(ag ar).2 h1,h2⟩⟩
def vE (q:Qq):List Fq:=q.cs
theorem q_part (vq:Value) (q:Qq) (w:World) (iq:dE w vq q) (hq:q.ok 1000000000):
  Calls Tryz.prog 118 #[vq] w fun e w'=>ei w q.axis e w':=by
 refine(cRn (ρ:=frs (vE q)++ []) (args:=[row [0,1,2,3]]) (vs:=[vq]) (r:=.v (row [1,2,3]))
  (ai)
  aj Tryz.func118 (by kernel_rfl) ⟨(ag (xs:=vE q) (ks:=[0,1,2,3]) (vs:=q.cs) ⟨rfl,rfl,rfl,rfl,trivial⟩).2 iq,trivial⟩).mono ?_
 rintro e w' ⟨v,rfl,h1,h2⟩
 exact⟨v,rfl,(ag (xs:=vE q) (ks:=[1,2,3]) (vs:=[q.x,q.y,q.z]) ⟨rfl,rfl,rfl,trivial⟩).1 h1,h2⟩
theorem vF {xs:List Fq} {ys:Rho} {kq:List Nat} {q:Qq} {kr:List Nat} (aq:AtL xs kq q.cs) (ar:AtL xs kr [q.axis.x,q.axis.y,q.axis.z]) (hq:q.ok 1000000000):OkI xs ys ⟨118,[row kq],.v (row kr)⟩:=
 ⟨aA Tryz.func118 rfl rfl,fun B w vs hB h=>by
  match vs,h with
  | [vq],h=>
   refine(q_part vq q w ((ag aq).1 h.1) hq).mono ?_
   rintro e w' ⟨v,rfl,h1,h2⟩
   exact⟨v,rfl,(ag ar).2 h1,h2⟩⟩
def rC (q:Qq):List Fq:=q.cs
theorem q_parts (vq:Value) (q:Qq) (w:World) (iq:dE w vq q) (hq:q.ok 1000000000):
  Calls Tryz.prog 101 #[vq] w fun e w'=>m9 w q e w':=by
 refine(cRn (ρ:=frs (rC q)++ []) (args:=[row [0,1,2,3]]) (vs:=[vq]) (r:=.v (row [0,1,2,3]))
  (ai)
  aj Tryz.func101 (by kernel_rfl) ⟨(ag (xs:=rC q) (ks:=[0,1,2,3]) (vs:=q.cs) ⟨rfl,rfl,rfl,rfl,trivial⟩).2 iq,trivial⟩).mono ?_
 rintro e w' ⟨v,rfl,h1,h2⟩
 exact⟨v,rfl,(ag (xs:=rC q) (ks:=[0,1,2,3]) (vs:=q.cs) ⟨rfl,rfl,rfl,rfl,trivial⟩).1 h1,h2⟩
theorem cI {xs:List Fq} {ys:Rho} {kq:List Nat} {q:Qq} {kr:List Nat} (aq:AtL xs kq q.cs) (ar:AtL xs kr q.cs) (hq:q.ok 1000000000):OkI xs ys ⟨101,[row kq],.v (row kr)⟩:=
 ⟨aA Tryz.func101 rfl rfl,fun B w vs hB h=>by
  match vs,h with
  | [vq],h=>
   refine(q_parts vq q w ((ag aq).1 h.1) hq).mono ?_
   rintro e w' ⟨v,rfl,h1,h2⟩
   exact⟨v,rfl,(ag ar).2 h1,h2⟩⟩
def mG (a:Qq) (b:Qq):List Fq:=(a.cs++(b.cs))
theorem zd (va vb:Value) (a:Qq) (b:Qq) (w:World) (ia:dE w va a) (ib:dE w vb b) (ha:a.ok 100000000) (hb:b.ok 100000000) (e0:a=b) (ga:a.comp) (gb:b.comp):
  Calls Tryz.prog 71 #[va,vb] w fun e w'=>bH w (.bool true) e w':=by
 refine(cRn (ρ:=frs (mG a b)++ []) (args:=[row [0,1,2,3],row [4,5,6,7]]) (vs:=[va,vb]) (r:=.v (.one (.b true)))
  (af (cI (kq:=[0,1,2,3]) (q:=a) (kr:=[0,1,2,3]) ⟨rfl,rfl,rfl,rfl,trivial⟩ ⟨rfl,rfl,rfl,rfl,trivial⟩ (ha.mono (by decide))) (af (cI (kq:=[4,5,6,7]) (q:=b) (kr:=[4,5,6,7]) ⟨rfl,rfl,rfl,rfl,trivial⟩ ⟨rfl,rfl,rfl,rfl,trivial⟩ (hb.mono (by decide))) (af (bY (i:=0) (j:=4) rfl rfl (li ((bX ga.w gb.w).2 (congrArg Qq.w e0))) (ha.w.mono (by decide)) (hb.w.mono (by decide))) (af (bY (i:=1) (j:=5) rfl rfl (li ((bX ga.x gb.x).2 (congrArg Qq.x e0))) (ha.x.mono (by decide)) (hb.x.mono (by decide))) (af (bY (i:=2) (j:=6) rfl rfl (li ((bX ga.y gb.y).2 (congrArg Qq.y e0))) (ha.y.mono (by decide)) (hb.y.mono (by decide))) (af (bY (i:=3) (j:=7) rfl rfl (li ((bX ga.z gb.z).2 (congrArg Qq.z e0))) (ha.z.mono (by decide)) (hb.z.mono (by decide))) ai))))))
  aj Tryz.func71 (by kernel_rfl) ⟨(ag (xs:=mG a b) (ks:=[0,1,2,3]) (vs:=a.cs) ⟨rfl,rfl,rfl,rfl,trivial⟩).2 ia,⟨(ag (xs:=mG a b) (ks:=[4,5,6,7]) (vs:=b.cs) ⟨rfl,rfl,rfl,rfl,trivial⟩).2 ib,trivial⟩⟩).mono ?_
 rintro e w' ⟨v,rfl,h1,h2⟩
 exact⟨congrArg Ending.returned h1,h2⟩
theorem qu {xs:List Fq} {ys:Rho} {ka:List Nat} {kb:List Nat} {a:Qq} {b:Qq} (aa:AtL xs ka a.cs) (ab:AtL xs kb b.cs) (ha:a.ok 100000000) (hb:b.ok 100000000) (e0:a=b) (ga:a.comp) (gb:b.comp):OkI xs ys ⟨71,[row ka,row kb],.v (.one (.b true))⟩:=
 ⟨aA Tryz.func71 rfl rfl,fun B w vs hB h=>by
  match vs,h with
  | [va,vb],h=>
   refine(zd va vb a b w ((ag aa).1 h.1) ((ag ab).1 h.2.1) ha hb e0 ga gb).mono ?_
   rintro e w' ⟨rfl,h2⟩
   exact⟨_,rfl,rfl,h2⟩⟩
def mH (a:Qq) (b:Qq):List Fq:=(a.cs++(b.cs))
def kC (a:Qq) (b:Qq):List Fq:=(a.cs++(b.cs))
def kD (a:Qq) (b:Qq):List Fq:=(a.cs++(b.cs))
def kE (a:Qq) (b:Qq):List Fq:=(a.cs++(b.cs))
theorem ze (va vb:Value) (a:Qq) (b:Qq) (w:World) (ia:dE w va a) (ib:dE w vb b) (ha:a.ok 100000000) (hb:b.ok 100000000) (e0:a≠b) (ga:a.comp) (gb:b.comp):
  Calls Tryz.prog 71 #[va,vb] w fun e w'=>bH w (.bool false) e w':=by
 by_cases c0:a.w=b.w
 ·by_cases c1:a.x=b.x
  ·by_cases c2:a.y=b.y
   ·by_cases c3:a.z=b.z
    ·exact absurd (by cases a;cases b;simp only at c0 c1 c2 c3;subst c0 c1 c2 c3;rfl) e0
    ·refine(cRn (ρ:=frs (mH a b)++([.val (.int .i64 (a.z.cmp b.z))]:List Vp)) (args:=[row [0,1,2,3],row [4,5,6,7]]) (vs:=[va,vb]) (r:=.v (.one (.b false)))
      (af (cI (kq:=[0,1,2,3]) (q:=a) (kr:=[0,1,2,3]) ⟨rfl,rfl,rfl,rfl,trivial⟩ ⟨rfl,rfl,rfl,rfl,trivial⟩ (ha.mono (by decide))) (af (cI (kq:=[4,5,6,7]) (q:=b) (kr:=[4,5,6,7]) ⟨rfl,rfl,rfl,rfl,trivial⟩ ⟨rfl,rfl,rfl,rfl,trivial⟩ (hb.mono (by decide))) (af (bY (i:=0) (j:=4) rfl rfl (li ((bX ga.w gb.w).2 c0)) (ha.w.mono (by decide)) (hb.w.mono (by decide))) (af (bY (i:=1) (j:=5) rfl rfl (li ((bX ga.x gb.x).2 c1)) (ha.x.mono (by decide)) (hb.x.mono (by decide))) (af (bY (i:=2) (j:=6) rfl rfl (li ((bX ga.y gb.y).2 c2)) (ha.y.mono (by decide)) (hb.y.mono (by decide))) (af (bY (i:=3) (j:=7) rfl rfl (lr (n:=24) rfl) (ha.z.mono (by decide)) (hb.z.mono (by decide))) ai))))))
      (ae (fY (n:=24) (c:=0) (t:=3) rfl (rn (mt (bX ga.z gb.z).1 c3))) (aj)) Tryz.func71 (by kernel_rfl) ⟨(ag (xs:=mH a b) (ks:=[0,1,2,3]) (vs:=a.cs) ⟨rfl,rfl,rfl,rfl,trivial⟩).2 ia,⟨(ag (xs:=mH a b) (ks:=[4,5,6,7]) (vs:=b.cs) ⟨rfl,rfl,rfl,rfl,trivial⟩).2 ib,trivial⟩⟩).mono ?_
     rintro e w' ⟨v,rfl,h1,h2⟩
     exact⟨congrArg Ending.returned h1,h2⟩
   ·refine(cRn (ρ:=frs (kC a b)++([.val (.int .i64 (a.y.cmp b.y))]:List Vp)) (args:=[row [0,1,2,3],row [4,5,6,7]]) (vs:=[va,vb]) (r:=.v (.one (.b false)))
     (af (cI (kq:=[0,1,2,3]) (q:=a) (kr:=[0,1,2,3]) ⟨rfl,rfl,rfl,rfl,trivial⟩ ⟨rfl,rfl,rfl,rfl,trivial⟩ (ha.mono (by decide))) (af (cI (kq:=[4,5,6,7]) (q:=b) (kr:=[4,5,6,7]) ⟨rfl,rfl,rfl,rfl,trivial⟩ ⟨rfl,rfl,rfl,rfl,trivial⟩ (hb.mono (by decide))) (af (bY (i:=0) (j:=4) rfl rfl (li ((bX ga.w gb.w).2 c0)) (ha.w.mono (by decide)) (hb.w.mono (by decide))) (af (bY (i:=1) (j:=5) rfl rfl (li ((bX ga.x gb.x).2 c1)) (ha.x.mono (by decide)) (hb.x.mono (by decide))) (af (bY (i:=2) (j:=6) rfl rfl (lr (n:=24) rfl) (ha.y.mono (by decide)) (hb.y.mono (by decide))) ai)))))
     (ae (fY (n:=24) (c:=0) (t:=3) rfl (rn (mt (bX ga.y gb.y).1 c2))) (aj)) Tryz.func71 (by kernel_rfl) ⟨(ag (xs:=kC a b) (ks:=[0,1,2,3]) (vs:=a.cs) ⟨rfl,rfl,rfl,rfl,trivial⟩).2 ia,⟨(ag (xs:=kC a b) (ks:=[4,5,6,7]) (vs:=b.cs) ⟨rfl,rfl,rfl,rfl,trivial⟩).2 ib,trivial⟩⟩).mono ?_
    rintro e w' ⟨v,rfl,h1,h2⟩
    exact⟨congrArg Ending.returned h1,h2⟩
  ·refine(cRn (ρ:=frs (kD a b)++([.val (.int .i64 (a.x.cmp b.x))]:List Vp)) (args:=[row [0,1,2,3],row [4,5,6,7]]) (vs:=[va,vb]) (r:=.v (.one (.b false)))
    (af (cI (kq:=[0,1,2,3]) (q:=a) (kr:=[0,1,2,3]) ⟨rfl,rfl,rfl,rfl,trivial⟩ ⟨rfl,rfl,rfl,rfl,trivial⟩ (ha.mono (by decide))) (af (cI (kq:=[4,5,6,7]) (q:=b) (kr:=[4,5,6,7]) ⟨rfl,rfl,rfl,rfl,trivial⟩ ⟨rfl,rfl,rfl,rfl,trivial⟩ (hb.mono (by decide))) (af (bY (i:=0) (j:=4) rfl rfl (li ((bX ga.w gb.w).2 c0)) (ha.w.mono (by decide)) (hb.w.mono (by decide))) (af (bY (i:=1) (j:=5) rfl rfl (lr (n:=24) rfl) (ha.x.mono (by decide)) (hb.x.mono (by decide))) ai))))
    (ae (fY (n:=24) (c:=0) (t:=3) rfl (rn (mt (bX ga.x gb.x).1 c1))) (aj)) Tryz.func71 (by kernel_rfl) ⟨(ag (xs:=kD a b) (ks:=[0,1,2,3]) (vs:=a.cs) ⟨rfl,rfl,rfl,rfl,trivial⟩).2 ia,⟨(ag (xs:=kD a b) (ks:=[4,5,6,7]) (vs:=b.cs) ⟨rfl,rfl,rfl,rfl,trivial⟩).2 ib,trivial⟩⟩).mono ?_
   rintro e w' ⟨v,rfl,h1,h2⟩
   exact⟨congrArg Ending.returned h1,h2⟩
 ·refine(cRn (ρ:=frs (kE a b)++([.val (.int .i64 (a.w.cmp b.w))]:List Vp)) (args:=[row [0,1,2,3],row [4,5,6,7]]) (vs:=[va,vb]) (r:=.v (.one (.b false)))
   (af (cI (kq:=[0,1,2,3]) (q:=a) (kr:=[0,1,2,3]) ⟨rfl,rfl,rfl,rfl,trivial⟩ ⟨rfl,rfl,rfl,rfl,trivial⟩ (ha.mono (by decide))) (af (cI (kq:=[4,5,6,7]) (q:=b) (kr:=[4,5,6,7]) ⟨rfl,rfl,rfl,rfl,trivial⟩ ⟨rfl,rfl,rfl,rfl,trivial⟩ (hb.mono (by decide))) (af (bY (i:=0) (j:=4) rfl rfl (lr (n:=24) rfl) (ha.w.mono (by decide)) (hb.w.mono (by decide))) ai)))
   (ae (fY (n:=24) (c:=0) (t:=3) rfl (rn (mt (bX ga.w gb.w).1 c0))) (aj)) Tryz.func71 (by kernel_rfl) ⟨(ag (xs:=kE a b) (ks:=[0,1,2,3]) (vs:=a.cs) ⟨rfl,rfl,rfl,rfl,trivial⟩).2 ia,⟨(ag (xs:=kE a b) (ks:=[4,5,6,7]) (vs:=b.cs) ⟨rfl,rfl,rfl,rfl,trivial⟩).2 ib,trivial⟩⟩).mono ?_
  rintro e w' ⟨v,rfl,h1,h2⟩
  exact⟨congrArg Ending.returned h1,h2⟩
theorem zf {xs:List Fq} {ys:Rho} {ka:List Nat} {kb:List Nat} {a:Qq} {b:Qq} (aa:AtL xs ka a.cs) (ab:AtL xs kb b.cs) (ha:a.ok 100000000) (hb:b.ok 100000000) (e0:a≠b) (ga:a.comp) (gb:b.comp):OkI xs ys ⟨71,[row ka,row kb],.v (.one (.b false))⟩:=
 ⟨aA Tryz.func71 rfl rfl,fun B w vs hB h=>by
  match vs,h with
  | [va,vb],h=>
   refine(ze va vb a b w ((ag aa).1 h.1) ((ag ab).1 h.2.1) ha hb e0 ga gb).mono ?_
   rintro e w' ⟨rfl,h2⟩
   exact⟨_,rfl,rfl,h2⟩⟩
def rD (q:Qq):List Fq:=q.cs
theorem q_whole (vq:Value) (q:Qq) (w:World) (iq:dE w vq q) (hq:q.ok 1000000000):
  Calls Tryz.prog 129 #[vq] w fun e w'=>m9 w q e w':=by
 refine(cRn (ρ:=frs (rD q)++ []) (args:=[row [0,1,2,3]]) (vs:=[vq]) (r:=.v (row [0,1,2,3]))
  (ai)
  aj Tryz.func129 (by kernel_rfl) ⟨(ag (xs:=rD q) (ks:=[0,1,2,3]) (vs:=q.cs) ⟨rfl,rfl,rfl,rfl,trivial⟩).2 iq,trivial⟩).mono ?_
 rintro e w' ⟨v,rfl,h1,h2⟩
 exact⟨v,rfl,(ag (xs:=rD q) (ks:=[0,1,2,3]) (vs:=q.cs) ⟨rfl,rfl,rfl,rfl,trivial⟩).1 h1,h2⟩
theorem nQ {xs:List Fq} {ys:Rho} {kq:List Nat} {q:Qq} {kr:List Nat} (aq:AtL xs kq q.cs) (ar:AtL xs kr q.cs) (hq:q.ok 1000000000):OkI xs ys ⟨129,[row kq],.v (row kr)⟩:=
 ⟨aA Tryz.func129 rfl rfl,fun B w vs hB h=>by
  match vs,h with
  | [vq],h=>
   refine(q_whole vq q w ((ag aq).1 h.1) hq).mono ?_
   rintro e w' ⟨v,rfl,h1,h2⟩
   exact⟨v,rfl,(ag ar).2 h1,h2⟩⟩
def xT (q:Qq):List Fq:=q.cs
theorem q_Half1 (vq:Value) (q:Qq) (w:World) (iq:dE w vq q) (hq:q.ok 1000000000) (h0:q.w.p=0):
  Calls Tryz.prog 91 #[vq] w fun e w'=>bH w (.bool true) e w':=by
 refine(cRn (ρ:=frs (xT q)++ []) (args:=[row [0,1,2,3]]) (vs:=[vq]) (r:=.v (.one (.b true)))
  (af (bn (i:=0) rfl (li (en h0)) (hq.w.mono (by decide))) ai)
  aj Tryz.func91 (by kernel_rfl) ⟨(ag (xs:=xT q) (ks:=[0,1,2,3]) (vs:=q.cs) ⟨rfl,rfl,rfl,rfl,trivial⟩).2 iq,trivial⟩).mono ?_
 rintro e w' ⟨v,rfl,h1,h2⟩
 exact⟨congrArg Ending.returned h1,h2⟩
theorem I_Half1 {xs:List Fq} {ys:Rho} {kq:List Nat} {q:Qq} (aq:AtL xs kq q.cs) (hq:q.ok 1000000000) (h0:q.w.p=0):OkI xs ys ⟨91,[row kq],.v (.one (.b true))⟩:=
 ⟨aA Tryz.func91 rfl rfl,fun B w vs hB h=>by
  match vs,h with
  | [vq],h=>
   refine(q_Half1 vq q w ((ag aq).1 h.1) hq h0).mono ?_
   rintro e w' ⟨rfl,h2⟩
   exact⟨_,rfl,rfl,h2⟩⟩
def xU (q:Qq):List Fq:=q.cs
theorem q_Half0 (vq:Value) (q:Qq) (w:World) (iq:dE w vq q) (hq:q.ok 1000000000) (h0:q.w.p≠0):
  Calls Tryz.prog 91 #[vq] w fun e w'=>bH w (.bool false) e w':=by
 refine(cRn (ρ:=frs (xU q)++([.val (.int .i64 q.w.sgn)]:List Vp)) (args:=[row [0,1,2,3]]) (vs:=[vq]) (r:=.v (.one (.b false)))
  (af (bn (i:=0) rfl (lr (n:=12) rfl) (hq.w.mono (by decide))) ai)
  (ae (gG (n:=12) (c:=0) (t:=3) rfl (iF h0)) (aj)) Tryz.func91 (by kernel_rfl) ⟨(ag (xs:=xU q) (ks:=[0,1,2,3]) (vs:=q.cs) ⟨rfl,rfl,rfl,rfl,trivial⟩).2 iq,trivial⟩).mono ?_
 rintro e w' ⟨v,rfl,h1,h2⟩
 exact⟨congrArg Ending.returned h1,h2⟩
theorem I_Half0 {xs:List Fq} {ys:Rho} {kq:List Nat} {q:Qq} (aq:AtL xs kq q.cs) (hq:q.ok 1000000000) (h0:q.w.p≠0):OkI xs ys ⟨91,[row kq],.v (.one (.b false))⟩:=
 ⟨aA Tryz.func91 rfl rfl,fun B w vs hB h=>by
  match vs,h with
  | [vq],h=>
   refine(q_Half0 vq q w ((ag aq).1 h.1) hq h0).mono ?_
   rintro e w' ⟨rfl,h2⟩
   exact⟨_,rfl,rfl,h2⟩⟩
def tD (q:Qq):List Fq:=q.cs
theorem q_rHalf1 (vq:Value) (q:Qq) (w:World) (iq:dE w vq q) (hq:q.ok 1000000000) (h0:q.w.p=0):
  Calls Tryz.prog 115 #[vq] w fun e w'=>bH w (.bool true) e w':=by
 refine(cRn (ρ:=frs (tD q)++ []) (args:=[row [0,1,2,3]]) (vs:=[vq]) (r:=.v (.one (.b true)))
  (af (dQ (i:=0) rfl (li (en h0)) (hq.w.mono (by decide))) ai)
  aj Tryz.func115 (by kernel_rfl) ⟨(ag (xs:=tD q) (ks:=[0,1,2,3]) (vs:=q.cs) ⟨rfl,rfl,rfl,rfl,trivial⟩).2 iq,trivial⟩).mono ?_
 rintro e w' ⟨v,rfl,h1,h2⟩
 exact⟨congrArg Ending.returned h1,h2⟩
theorem I_rHalf1 {xs:List Fq} {ys:Rho} {kq:List Nat} {q:Qq} (aq:AtL xs kq q.cs) (hq:q.ok 1000000000) (h0:q.w.p=0):OkI xs ys ⟨115,[row kq],.v (.one (.b true))⟩:=
 ⟨aA Tryz.func115 rfl rfl,fun B w vs hB h=>by
  match vs,h with
  | [vq],h=>
   refine(q_rHalf1 vq q w ((ag aq).1 h.1) hq h0).mono ?_
   rintro e w' ⟨rfl,h2⟩
   exact⟨_,rfl,rfl,h2⟩⟩
def tE (q:Qq):List Fq:=q.cs
theorem q_rHalf0 (vq:Value) (q:Qq) (w:World) (iq:dE w vq q) (hq:q.ok 1000000000) (h0:q.w.p≠0):
  Calls Tryz.prog 115 #[vq] w fun e w'=>bH w (.bool false) e w':=by
 refine(cRn (ρ:=frs (tE q)++([.val (.int .i64 q.w.sgn)]:List Vp)) (args:=[row [0,1,2,3]]) (vs:=[vq]) (r:=.v (.one (.b false)))
  (af (dQ (i:=0) rfl (lr (n:=12) rfl) (hq.w.mono (by decide))) ai)
  (ae (gG (n:=12) (c:=0) (t:=3) rfl (iF h0)) (aj)) Tryz.func115 (by kernel_rfl) ⟨(ag (xs:=tE q) (ks:=[0,1,2,3]) (vs:=q.cs) ⟨rfl,rfl,rfl,rfl,trivial⟩).2 iq,trivial⟩).mono ?_
 rintro e w' ⟨v,rfl,h1,h2⟩
 exact⟨congrArg Ending.returned h1,h2⟩
theorem I_rHalf0 {xs:List Fq} {ys:Rho} {kq:List Nat} {q:Qq} (aq:AtL xs kq q.cs) (hq:q.ok 1000000000) (h0:q.w.p≠0):OkI xs ys ⟨115,[row kq],.v (.one (.b false))⟩:=
 ⟨aA Tryz.func115 rfl rfl,fun B w vs hB h=>by
  match vs,h with
  | [vq],h=>
   refine(q_rHalf0 vq q w ((ag aq).1 h.1) hq h0).mono ?_
   rintro e w' ⟨rfl,h2⟩
   exact⟨_,rfl,rfl,h2⟩⟩
theorem ok_id:Qq.id.ok 2:=⟨bC (by decide) (by decide),bC (by decide) (by decide),bC (by decide) (by decide),bC (by decide) (by decide)⟩
end Go.Proofs.YtfhinmdhjlmikaaGreat
namespace Go.Proofs.YtfhinmdhjlmikaaGreat
set_option linter.unusedSimpArgs false
set_option linter.unusedVariables false
set_option maxRecDepth 100000
open Go.RowKit
theorem jn {q:Qq} (h0:q.first.p≠0):q.canon=q.over q.first:=by unfold Qq.canon;rw[if_neg h0]
theorem Qq.ok.mk4 {a b c e:Fq} {d:Nat} (h1:a.ok d) (h2:b.ok d) (h3:c.ok d) (h4:e.ok d):(Qq.mk a b c e).ok d:=⟨h1,h2,h3,h4⟩
theorem qv {u:Fq} {c:Vq} {d e:Nat} (h1:u.ok d) (h2:c.ok e) (h0:(Qq.mk u c.x c.y c.z).first.p≠0):(Qq.mk u c.x c.y c.z).canon.ok (d+e+(d+e)):=(Qq.ok.mk4 (h1.mono (by omega)) (h2.x.mono (by omega)) (h2.y.mono (by omega)) (h2.z.mono (by omega)):Qq.ok (d+e) _).canon h0
def oU (q:Qq):List Fq:=q.cs
def mI (q:Qq):List Fq:=q.cs
def mJ (q:Qq):List Fq:=q.cs
def mK (q:Qq):List Fq:=q.cs
theorem q_rFirst (vq:Value) (q:Qq) (w:World) (iq:dE w vq q) (hq:q.ok 1000000000):
  Calls Tryz.prog 76 #[vq] w fun e w'=>fC w q.first e w':=by
 by_cases c0:q.w.p=0
 ·by_cases c1:q.x.p=0
  ·by_cases c2:q.y.p=0
   ·have e1:q.first=q.z:=by simp[Qq.first,c0,c1,c2]
    rw[e1]
    refine(cRn (ρ:=frs (oU q)++ []) (args:=[row [0,1,2,3]]) (vs:=[vq]) (r:=.v (fr 3))
     (af (dQ (i:=0) rfl (li (en c0)) (hq.w.mono (by decide))) (af (dQ (i:=1) rfl (li (en c1)) (hq.x.mono (by decide))) (af (dQ (i:=2) rfl (li (en c2)) (hq.y.mono (by decide))) ai)))
     aj Tryz.func76 (by kernel_rfl) ⟨(ag (xs:=oU q) (ks:=[0,1,2,3]) (vs:=q.cs) ⟨rfl,rfl,rfl,rfl,trivial⟩).2 iq,trivial⟩).mono ?_
    rintro e w' ⟨v,rfl,h1,h2⟩
    exact⟨v,rfl,(aI (xs:=oU q) (k:=3) rfl).1 h1,h2⟩
   ·have e1:q.first=q.y:=by simp[Qq.first,c0,c1,c2]
    rw[e1]
    refine(cRn (ρ:=frs (mI q)++([.val (.int .i64 q.y.sgn)]:List Vp)) (args:=[row [0,1,2,3]]) (vs:=[vq]) (r:=.v (fr 2))
     (af (dQ (i:=0) rfl (li (en c0)) (hq.w.mono (by decide))) (af (dQ (i:=1) rfl (li (en c1)) (hq.x.mono (by decide))) (af (dQ (i:=2) rfl (lr (n:=12) rfl) (hq.y.mono (by decide))) ai)))
     (ae (fY (n:=12) (c:=0) (t:=3) rfl (gf c2)) (aj)) Tryz.func76 (by kernel_rfl) ⟨(ag (xs:=mI q) (ks:=[0,1,2,3]) (vs:=q.cs) ⟨rfl,rfl,rfl,rfl,trivial⟩).2 iq,trivial⟩).mono ?_
    rintro e w' ⟨v,rfl,h1,h2⟩
    exact⟨v,rfl,(aI (xs:=mI q) (k:=2) rfl).1 h1,h2⟩
  ·have e1:q.first=q.x:=by simp[Qq.first,c0,c1]
   rw[e1]
   refine(cRn (ρ:=frs (mJ q)++([.val (.int .i64 q.x.sgn)]:List Vp)) (args:=[row [0,1,2,3]]) (vs:=[vq]) (r:=.v (fr 1))
    (af (dQ (i:=0) rfl (li (en c0)) (hq.w.mono (by decide))) (af (dQ (i:=1) rfl (lr (n:=12) rfl) (hq.x.mono (by decide))) ai))
    (ae (fY (n:=12) (c:=0) (t:=3) rfl (gf c1)) (aj)) Tryz.func76 (by kernel_rfl) ⟨(ag (xs:=mJ q) (ks:=[0,1,2,3]) (vs:=q.cs) ⟨rfl,rfl,rfl,rfl,trivial⟩).2 iq,trivial⟩).mono ?_
   rintro e w' ⟨v,rfl,h1,h2⟩
   exact⟨v,rfl,(aI (xs:=mJ q) (k:=1) rfl).1 h1,h2⟩
 ·have e1:q.first=q.w:=by simp[Qq.first,c0]
  rw[e1]
  refine(cRn (ρ:=frs (mK q)++([.val (.int .i64 q.w.sgn)]:List Vp)) (args:=[row [0,1,2,3]]) (vs:=[vq]) (r:=.v (fr 0))
   (af (dQ (i:=0) rfl (lr (n:=12) rfl) (hq.w.mono (by decide))) ai)
   (ae (fY (n:=12) (c:=0) (t:=3) rfl (gf c0)) (aj)) Tryz.func76 (by kernel_rfl) ⟨(ag (xs:=mK q) (ks:=[0,1,2,3]) (vs:=q.cs) ⟨rfl,rfl,rfl,rfl,trivial⟩).2 iq,trivial⟩).mono ?_
  rintro e w' ⟨v,rfl,h1,h2⟩
  exact⟨v,rfl,(aI (xs:=mK q) (k:=0) rfl).1 h1,h2⟩
theorem oV {xs:List Fq} {ys:Rho} {kq:List Nat} {q:Qq} {ir:Nat} (aq:AtL xs kq q.cs) (ar:xs[ir]? =some q.first) (hq:q.ok 1000000000):OkI xs ys ⟨76,[row kq],.v (fr ir)⟩:=
 ⟨aA Tryz.func76 rfl rfl,fun B w vs hB h=>by
  match vs,h with
  | [vq],h=>
   refine(q_rFirst vq q w ((ag aq).1 h.1) hq).mono ?_
   rintro e w' ⟨v,rfl,h1,h2⟩
   exact⟨v,rfl,(aI ar).2 h1,h2⟩⟩
def nR (x:Fq) (d:Fq):List Fq:=[x,d,(x.div d)]
theorem q_rOver (vx vd:Value) (x:Fq) (d:Fq) (w:World) (ix:IsQ w vx x) (id:IsQ w vd d) (hx:x.ok 1000000000) (hd:d.ok 1000000000) (h0:d.p≠0):
  Calls Tryz.prog 154 #[vx,vd] w fun e w'=>fC w (x.div d) e w':=by
 refine(cRn (ρ:=frs (nR x d)++ []) (args:=[fr 0,fr 1]) (vs:=[vx,vd]) (r:=.v (fr 2))
  (af (I_rDiv (i:=0) (j:=1) (k:=2) rfl rfl rfl (hx.mono (by decide)) (hd.mono (by decide)) h0) ai)
  aj Tryz.func154 (by kernel_rfl) ⟨(aI (xs:=nR x d) (k:=0) rfl).2 ix,⟨(aI (xs:=nR x d) (k:=1) rfl).2 id,trivial⟩⟩).mono ?_
 rintro e w' ⟨v,rfl,h1,h2⟩
 exact⟨v,rfl,(aI (xs:=nR x d) (k:=2) rfl).1 h1,h2⟩
theorem nS {xs:List Fq} {ys:Rho} {ix:Nat} {id:Nat} {x:Fq} {d:Fq} {ir:Nat} (ax:xs[ix]? =some x) (ad:xs[id]? =some d) (ar:xs[ir]? =some (x.div d)) (hx:x.ok 1000000000) (hd:d.ok 1000000000) (h0:d.p≠0):OkI xs ys ⟨154,[fr ix,fr id],.v (fr ir)⟩:=
 ⟨aA Tryz.func154 rfl rfl,fun B w vs hB h=>by
  match vs,h with
  | [vx,vd],h=>
   refine(q_rOver vx vd x d w ((aI ax).1 h.1) ((aI ad).1 h.2.1) hx hd h0).mono ?_
   rintro e w' ⟨v,rfl,h1,h2⟩
   exact⟨v,rfl,(aI ar).2 h1,h2⟩⟩
def gX (p0:Fq) (p1:Fq) (p2:Fq) (p3:Fq):List Fq:=[p0,p1,p2,p3,(Qq.mk p0 p1 p2 p3).first,(p0.div (Qq.mk p0 p1 p2 p3).first),(p1.div (Qq.mk p0 p1 p2 p3).first),(p2.div (Qq.mk p0 p1 p2 p3).first),(p3.div (Qq.mk p0 p1 p2 p3).first)]
theorem q_rMakeT (vp0 vp1 vp2 vp3:Value) (p0:Fq) (p1:Fq) (p2:Fq) (p3:Fq) (w:World) (ip0:IsQ w vp0 p0) (ip1:IsQ w vp1 p1) (ip2:IsQ w vp2 p2) (ip3:IsQ w vp3 p3) (hp0:p0.ok 100000000) (hp1:p1.ok 100000000) (hp2:p2.ok 100000000) (hp3:p3.ok 100000000) (h0:(Qq.mk p0 p1 p2 p3).first.p≠0):
  Calls Tryz.prog 138 #[vp0,vp1,vp2,vp3] w fun e w'=>mD w (Qq.mk p0 p1 p2 p3).canon 0 e w':=by
 rw[jn h0]
 refine(cRn (ρ:=frs (gX p0 p1 p2 p3)++([.val (.int .i64 (Qq.mk p0 p1 p2 p3).first.sgn)]:List Vp)) (args:=[fr 0,fr 1,fr 2,fr 3]) (vs:=[vp0,vp1,vp2,vp3]) (r:=.tup [row [5,6,7,8],.one (.i .i64 0)])
  (af (oV (kq:=[0,1,2,3]) (q:=(Qq.mk p0 p1 p2 p3)) (ir:=4) ⟨rfl,rfl,rfl,rfl,trivial⟩ rfl ((Qq.ok.mk4 hp0 hp1 hp2 hp3).mono (by decide))) (af (dQ (i:=4) rfl (lr (n:=27) rfl) ((Qq.ok.mk4 hp0 hp1 hp2 hp3).first.mono (by decide))) (af (nS (ix:=0) (id:=4) (ir:=5) rfl rfl rfl (hp0.mono (by decide)) ((Qq.ok.mk4 hp0 hp1 hp2 hp3).first.mono (by decide)) h0) (af (nS (ix:=1) (id:=4) (ir:=6) rfl rfl rfl (hp1.mono (by decide)) ((Qq.ok.mk4 hp0 hp1 hp2 hp3).first.mono (by decide)) h0) (af (nS (ix:=2) (id:=4) (ir:=7) rfl rfl rfl (hp2.mono (by decide)) ((Qq.ok.mk4 hp0 hp1 hp2 hp3).first.mono (by decide)) h0) (af (nS (ix:=3) (id:=4) (ir:=8) rfl rfl rfl (hp3.mono (by decide)) ((Qq.ok.mk4 hp0 hp1 hp2 hp3).first.mono (by decide)) h0) ai))))))
  (ae (gG (n:=27) (c:=0) (t:=3) rfl (iF h0)) (aj)) Tryz.func138 (by kernel_rfl) ⟨(aI (xs:=gX p0 p1 p2 p3) (k:=0) rfl).2 ip0,⟨(aI (xs:=gX p0 p1 p2 p3) (k:=1) rfl).2 ip1,⟨(aI (xs:=gX p0 p1 p2 p3) (k:=2) rfl).2 ip2,⟨(aI (xs:=gX p0 p1 p2 p3) (k:=3) rfl).2 ip3,trivial⟩⟩⟩⟩).mono ?_
 rintro e w' ⟨v,rfl,⟨vs,rfl,h1⟩,h2⟩
 match vs,h1 with
 | [r,c],h1=>
  obtain⟨⟨cs,rfl,k1⟩,k2,_⟩:=h1
  have k2:c=_:=k2
  subst k2
  exact⟨_,rfl,(ag (xs:=gX p0 p1 p2 p3) (ks:=[5,6,7,8]) (vs:=[(p0.div (Qq.mk p0 p1 p2 p3).first),(p1.div (Qq.mk p0 p1 p2 p3).first),(p2.div (Qq.mk p0 p1 p2 p3).first),(p3.div (Qq.mk p0 p1 p2 p3).first)]) ⟨rfl,rfl,rfl,rfl,trivial⟩).1 ⟨_,rfl,k1⟩,h2⟩
theorem I_rMakeT {xs:List Fq} {ys:Rho} {ip0:Nat} {ip1:Nat} {ip2:Nat} {ip3:Nat} {p0:Fq} {p1:Fq} {p2:Fq} {p3:Fq} {kr:List Nat} (ap0:xs[ip0]? =some p0) (ap1:xs[ip1]? =some p1) (ap2:xs[ip2]? =some p2) (ap3:xs[ip3]? =some p3) (ar:AtL xs kr (Qq.mk p0 p1 p2 p3).canon.cs) (hp0:p0.ok 100000000) (hp1:p1.ok 100000000) (hp2:p2.ok 100000000) (hp3:p3.ok 100000000) (h0:(Qq.mk p0 p1 p2 p3).first.p≠0):OkI xs ys ⟨138,[fr ip0,fr ip1,fr ip2,fr ip3],.tup [row kr,.one (.i .i64 0)]⟩:=
 ⟨aA Tryz.func138 rfl rfl,fun B w vs hB h=>by
  match vs,h with
  | [vp0,vp1,vp2,vp3],h=>
   refine(q_rMakeT vp0 vp1 vp2 vp3 p0 p1 p2 p3 w ((aI ap0).1 h.1) ((aI ap1).1 h.2.1) ((aI ap2).1 h.2.2.1) ((aI ap3).1 h.2.2.2.1) hp0 hp1 hp2 hp3 h0).mono ?_
   rintro e w' ⟨v,rfl,h1,h2⟩
   exact⟨_,rfl,⟨[v,.int .i64 0],rfl,(ag ar).2 h1,rfl,trivial⟩,h2⟩⟩
def gY (p0:Fq) (p1:Fq) (p2:Fq) (p3:Fq):List Fq:=[p0,p1,p2,p3,(p0.div p3),(p1.div p3),(p2.div p3),(p3.div p3)]
def fN (p0:Fq) (p1:Fq) (p2:Fq) (p3:Fq):List Fq:=[p0,p1,p2,p3,(p0.div p2),(p1.div p2),(p2.div p2),(p3.div p2)]
def fO (p0:Fq) (p1:Fq) (p2:Fq) (p3:Fq):List Fq:=[p0,p1,p2,p3,(p0.div p1),(p1.div p1),(p2.div p1),(p3.div p1)]
def fP (p0:Fq) (p1:Fq) (p2:Fq) (p3:Fq):List Fq:=[p0,p1,p2,p3,(p0.div p0),(p1.div p0),(p2.div p0),(p3.div p0)]
theorem q_fMakeT (vp0 vp1 vp2 vp3:Value) (p0:Fq) (p1:Fq) (p2:Fq) (p3:Fq) (w:World) (ip0:IsQ w vp0 p0) (ip1:IsQ w vp1 p1) (ip2:IsQ w vp2 p2) (ip3:IsQ w vp3 p3) (hp0:p0.ok 100000000) (hp1:p1.ok 100000000) (hp2:p2.ok 100000000) (hp3:p3.ok 100000000) (h0:(Qq.mk p0 p1 p2 p3).first.p≠0):
  Calls Tryz.prog 126 #[vp0,vp1,vp2,vp3] w fun e w'=>mD w (Qq.mk p0 p1 p2 p3).canon 0 e w':=by
 by_cases c0:p0.p=0
 ·by_cases c1:p1.p=0
  ·by_cases c2:p2.p=0
   ·by_cases c3:p3.p=0
    ·exact absurd (by simp[Qq.first,c0,c1,c2,c3]) h0
    ·have e1:(Qq.mk p0 p1 p2 p3).first=p3:=by simp[Qq.first,c0,c1,c2,c3]
     rw[jn h0,e1]
     refine(cRn (ρ:=frs (gY p0 p1 p2 p3)++([.val (.int .i64 p3.sgn)]:List Vp)) (args:=[fr 0,fr 1,fr 2,fr 3]) (vs:=[vp0,vp1,vp2,vp3]) (r:=.tup [row [4,5,6,7],.one (.i .i64 0)])
      (af (bn (i:=0) rfl (li (en c0)) (hp0.mono (by decide))) (af (bn (i:=1) rfl (li (en c1)) (hp1.mono (by decide))) (af (bn (i:=2) rfl (li (en c2)) (hp2.mono (by decide))) (af (bn (i:=3) rfl (lr (n:=24) rfl) (hp3.mono (by decide))) (af (dS (i:=0) (j:=3) (k:=4) rfl rfl rfl (hp0.mono (by decide)) (hp3.mono (by decide)) c3) (af (dS (i:=1) (j:=3) (k:=5) rfl rfl rfl (hp1.mono (by decide)) (hp3.mono (by decide)) c3) (af (dS (i:=2) (j:=3) (k:=6) rfl rfl rfl (hp2.mono (by decide)) (hp3.mono (by decide)) c3) (af (dS (i:=3) (j:=3) (k:=7) rfl rfl rfl (hp3.mono (by decide)) (hp3.mono (by decide)) c3) (af (nQ (kq:=[4,5,6,7]) (q:=(Qq.mk (p0.div p3) (p1.div p3) (p2.div p3) (p3.div p3))) (kr:=[4,5,6,7]) ⟨rfl,rfl,rfl,rfl,trivial⟩ ⟨rfl,rfl,rfl,rfl,trivial⟩ (⟨(hp0.div hp3 c3).mono (by decide),(hp1.div hp3 c3).mono (by decide),(hp2.div hp3 c3).mono (by decide),(hp3.div hp3 c3).mono (by decide)⟩:Qq.ok 1000000000 (Qq.mk (p0.div p3) (p1.div p3) (p2.div p3) (p3.div p3)))) ai)))))))))
      (ae (gG (n:=24) (c:=0) (t:=3) rfl (iF c3)) (aj)) Tryz.func126 (by kernel_rfl) ⟨(aI (xs:=gY p0 p1 p2 p3) (k:=0) rfl).2 ip0,⟨(aI (xs:=gY p0 p1 p2 p3) (k:=1) rfl).2 ip1,⟨(aI (xs:=gY p0 p1 p2 p3) (k:=2) rfl).2 ip2,⟨(aI (xs:=gY p0 p1 p2 p3) (k:=3) rfl).2 ip3,trivial⟩⟩⟩⟩).mono ?_
     rintro e w' ⟨v,rfl,⟨vs,rfl,h1⟩,h2⟩
     match vs,h1 with
     | [r,c],h1=>
      obtain⟨⟨cs,rfl,k1⟩,k2,_⟩:=h1
      have k2:c=_:=k2
      subst k2
      exact⟨_,rfl,(ag (xs:=gY p0 p1 p2 p3) (ks:=[4,5,6,7]) (vs:=[(p0.div p3),(p1.div p3),(p2.div p3),(p3.div p3)]) ⟨rfl,rfl,rfl,rfl,trivial⟩).1 ⟨_,rfl,k1⟩,h2⟩
   ·have e1:(Qq.mk p0 p1 p2 p3).first=p2:=by simp[Qq.first,c0,c1,c2]
    rw[jn h0,e1]
    refine(cRn (ρ:=frs (fN p0 p1 p2 p3)++([.val (.int .i64 p2.sgn)]:List Vp)) (args:=[fr 0,fr 1,fr 2,fr 3]) (vs:=[vp0,vp1,vp2,vp3]) (r:=.tup [row [4,5,6,7],.one (.i .i64 0)])
     (af (bn (i:=0) rfl (li (en c0)) (hp0.mono (by decide))) (af (bn (i:=1) rfl (li (en c1)) (hp1.mono (by decide))) (af (bn (i:=2) rfl (lr (n:=24) rfl) (hp2.mono (by decide))) (af (dS (i:=0) (j:=2) (k:=4) rfl rfl rfl (hp0.mono (by decide)) (hp2.mono (by decide)) c2) (af (dS (i:=1) (j:=2) (k:=5) rfl rfl rfl (hp1.mono (by decide)) (hp2.mono (by decide)) c2) (af (dS (i:=2) (j:=2) (k:=6) rfl rfl rfl (hp2.mono (by decide)) (hp2.mono (by decide)) c2) (af (dS (i:=3) (j:=2) (k:=7) rfl rfl rfl (hp3.mono (by decide)) (hp2.mono (by decide)) c2) (af (nQ (kq:=[4,5,6,7]) (q:=(Qq.mk (p0.div p2) (p1.div p2) (p2.div p2) (p3.div p2))) (kr:=[4,5,6,7]) ⟨rfl,rfl,rfl,rfl,trivial⟩ ⟨rfl,rfl,rfl,rfl,trivial⟩ (⟨(hp0.div hp2 c2).mono (by decide),(hp1.div hp2 c2).mono (by decide),(hp2.div hp2 c2).mono (by decide),(hp3.div hp2 c2).mono (by decide)⟩:Qq.ok 1000000000 (Qq.mk (p0.div p2) (p1.div p2) (p2.div p2) (p3.div p2)))) ai))))))))
     (ae (gG (n:=24) (c:=0) (t:=3) rfl (iF c2)) (aj)) Tryz.func126 (by kernel_rfl) ⟨(aI (xs:=fN p0 p1 p2 p3) (k:=0) rfl).2 ip0,⟨(aI (xs:=fN p0 p1 p2 p3) (k:=1) rfl).2 ip1,⟨(aI (xs:=fN p0 p1 p2 p3) (k:=2) rfl).2 ip2,⟨(aI (xs:=fN p0 p1 p2 p3) (k:=3) rfl).2 ip3,trivial⟩⟩⟩⟩).mono ?_
    rintro e w' ⟨v,rfl,⟨vs,rfl,h1⟩,h2⟩
    match vs,h1 with
    | [r,c],h1=>
     obtain⟨⟨cs,rfl,k1⟩,k2,_⟩:=h1
     have k2:c=_:=k2
     subst k2
     exact⟨_,rfl,(ag (xs:=fN p0 p1 p2 p3) (ks:=[4,5,6,7]) (vs:=[(p0.div p2),(p1.div p2),(p2.div p2),(p3.div p2)]) ⟨rfl,rfl,rfl,rfl,trivial⟩).1 ⟨_,rfl,k1⟩,h2⟩
  ·have e1:(Qq.mk p0 p1 p2 p3).first=p1:=by simp[Qq.first,c0,c1]
   rw[jn h0,e1]
   refine(cRn (ρ:=frs (fO p0 p1 p2 p3)++([.val (.int .i64 p1.sgn)]:List Vp)) (args:=[fr 0,fr 1,fr 2,fr 3]) (vs:=[vp0,vp1,vp2,vp3]) (r:=.tup [row [4,5,6,7],.one (.i .i64 0)])
    (af (bn (i:=0) rfl (li (en c0)) (hp0.mono (by decide))) (af (bn (i:=1) rfl (lr (n:=24) rfl) (hp1.mono (by decide))) (af (dS (i:=0) (j:=1) (k:=4) rfl rfl rfl (hp0.mono (by decide)) (hp1.mono (by decide)) c1) (af (dS (i:=1) (j:=1) (k:=5) rfl rfl rfl (hp1.mono (by decide)) (hp1.mono (by decide)) c1) (af (dS (i:=2) (j:=1) (k:=6) rfl rfl rfl (hp2.mono (by decide)) (hp1.mono (by decide)) c1) (af (dS (i:=3) (j:=1) (k:=7) rfl rfl rfl (hp3.mono (by decide)) (hp1.mono (by decide)) c1) (af (nQ (kq:=[4,5,6,7]) (q:=(Qq.mk (p0.div p1) (p1.div p1) (p2.div p1) (p3.div p1))) (kr:=[4,5,6,7]) ⟨rfl,rfl,rfl,rfl,trivial⟩ ⟨rfl,rfl,rfl,rfl,trivial⟩ (⟨(hp0.div hp1 c1).mono (by decide),(hp1.div hp1 c1).mono (by decide),(hp2.div hp1 c1).mono (by decide),(hp3.div hp1 c1).mono (by decide)⟩:Qq.ok 1000000000 (Qq.mk (p0.div p1) (p1.div p1) (p2.div p1) (p3.div p1)))) ai)))))))
    (ae (gG (n:=24) (c:=0) (t:=3) rfl (iF c1)) (aj)) Tryz.func126 (by kernel_rfl) ⟨(aI (xs:=fO p0 p1 p2 p3) (k:=0) rfl).2 ip0,⟨(aI (xs:=fO p0 p1 p2 p3) (k:=1) rfl).2 ip1,⟨(aI (xs:=fO p0 p1 p2 p3) (k:=2) rfl).2 ip2,⟨(aI (xs:=fO p0 p1 p2 p3) (k:=3) rfl).2 ip3,trivial⟩⟩⟩⟩).mono ?_
   rintro e w' ⟨v,rfl,⟨vs,rfl,h1⟩,h2⟩
   match vs,h1 with
   | [r,c],h1=>
    obtain⟨⟨cs,rfl,k1⟩,k2,_⟩:=h1
    have k2:c=_:=k2
    subst k2
    exact⟨_,rfl,(ag (xs:=fO p0 p1 p2 p3) (ks:=[4,5,6,7]) (vs:=[(p0.div p1),(p1.div p1),(p2.div p1),(p3.div p1)]) ⟨rfl,rfl,rfl,rfl,trivial⟩).1 ⟨_,rfl,k1⟩,h2⟩
 ·have e1:(Qq.mk p0 p1 p2 p3).first=p0:=by simp[Qq.first,c0]
  rw[jn h0,e1]
  refine(cRn (ρ:=frs (fP p0 p1 p2 p3)++([.val (.int .i64 p0.sgn)]:List Vp)) (args:=[fr 0,fr 1,fr 2,fr 3]) (vs:=[vp0,vp1,vp2,vp3]) (r:=.tup [row [4,5,6,7],.one (.i .i64 0)])
   (af (bn (i:=0) rfl (lr (n:=24) rfl) (hp0.mono (by decide))) (af (dS (i:=0) (j:=0) (k:=4) rfl rfl rfl (hp0.mono (by decide)) (hp0.mono (by decide)) c0) (af (dS (i:=1) (j:=0) (k:=5) rfl rfl rfl (hp1.mono (by decide)) (hp0.mono (by decide)) c0) (af (dS (i:=2) (j:=0) (k:=6) rfl rfl rfl (hp2.mono (by decide)) (hp0.mono (by decide)) c0) (af (dS (i:=3) (j:=0) (k:=7) rfl rfl rfl (hp3.mono (by decide)) (hp0.mono (by decide)) c0) (af (nQ (kq:=[4,5,6,7]) (q:=(Qq.mk (p0.div p0) (p1.div p0) (p2.div p0) (p3.div p0))) (kr:=[4,5,6,7]) ⟨rfl,rfl,rfl,rfl,trivial⟩ ⟨rfl,rfl,rfl,rfl,trivial⟩ (⟨(hp0.div hp0 c0).mono (by decide),(hp1.div hp0 c0).mono (by decide),(hp2.div hp0 c0).mono (by decide),(hp3.div hp0 c0).mono (by decide)⟩:Qq.ok 1000000000 (Qq.mk (p0.div p0) (p1.div p0) (p2.div p0) (p3.div p0)))) ai))))))
   (ae (gG (n:=24) (c:=0) (t:=3) rfl (iF c0)) (aj)) Tryz.func126 (by kernel_rfl) ⟨(aI (xs:=fP p0 p1 p2 p3) (k:=0) rfl).2 ip0,⟨(aI (xs:=fP p0 p1 p2 p3) (k:=1) rfl).2 ip1,⟨(aI (xs:=fP p0 p1 p2 p3) (k:=2) rfl).2 ip2,⟨(aI (xs:=fP p0 p1 p2 p3) (k:=3) rfl).2 ip3,trivial⟩⟩⟩⟩).mono ?_
  rintro e w' ⟨v,rfl,⟨vs,rfl,h1⟩,h2⟩
  match vs,h1 with
  | [r,c],h1=>
   obtain⟨⟨cs,rfl,k1⟩,k2,_⟩:=h1
   have k2:c=_:=k2
   subst k2
   exact⟨_,rfl,(ag (xs:=fP p0 p1 p2 p3) (ks:=[4,5,6,7]) (vs:=[(p0.div p0),(p1.div p0),(p2.div p0),(p3.div p0)]) ⟨rfl,rfl,rfl,rfl,trivial⟩).1 ⟨_,rfl,k1⟩,h2⟩
theorem I_fMakeT {xs:List Fq} {ys:Rho} {ip0:Nat} {ip1:Nat} {ip2:Nat} {ip3:Nat} {p0:Fq} {p1:Fq} {p2:Fq} {p3:Fq} {kr:List Nat} (ap0:xs[ip0]? =some p0) (ap1:xs[ip1]? =some p1) (ap2:xs[ip2]? =some p2) (ap3:xs[ip3]? =some p3) (ar:AtL xs kr (Qq.mk p0 p1 p2 p3).canon.cs) (hp0:p0.ok 100000000) (hp1:p1.ok 100000000) (hp2:p2.ok 100000000) (hp3:p3.ok 100000000) (h0:(Qq.mk p0 p1 p2 p3).first.p≠0):OkI xs ys ⟨126,[fr ip0,fr ip1,fr ip2,fr ip3],.tup [row kr,.one (.i .i64 0)]⟩:=
 ⟨aA Tryz.func126 rfl rfl,fun B w vs hB h=>by
  match vs,h with
  | [vp0,vp1,vp2,vp3],h=>
   refine(q_fMakeT vp0 vp1 vp2 vp3 p0 p1 p2 p3 w ((aI ap0).1 h.1) ((aI ap1).1 h.2.1) ((aI ap2).1 h.2.2.1) ((aI ap3).1 h.2.2.2.1) hp0 hp1 hp2 hp3 h0).mono ?_
   rintro e w' ⟨v,rfl,h1,h2⟩
   exact⟨_,rfl,⟨[v,.int .i64 0],rfl,(ag ar).2 h1,rfl,trivial⟩,h2⟩⟩
def lQ (u:Fq) (c:Vq):List Fq:=([u,c.x,c.y,c.z]++((Qq.mk u c.x c.y c.z).canon.cs))
theorem q_rCanon (vu vc:Value) (u:Fq) (c:Vq) (w:World) (iu:IsQ w vu u) (ic:cX w vc c) (hu:u.ok 100000000) (hc:c.ok 100000000) (h0:(Qq.mk u c.x c.y c.z).first.p≠0):
  Calls Tryz.prog 116 #[vu,vc] w fun e w'=>m9 w (Qq.mk u c.x c.y c.z).canon e w':=by
 refine(cRn (ρ:=frs (lQ u c)++ []) (args:=[fr 0,row [1,2,3]]) (vs:=[vu,vc]) (r:=.v (row [4,5,6,7]))
  (af (I_rMakeT (ip0:=0) (ip1:=1) (ip2:=2) (ip3:=3) (kr:=[4,5,6,7]) rfl rfl rfl rfl ⟨rfl,rfl,rfl,rfl,trivial⟩ (hu.mono (by decide)) (hc.x.mono (by decide)) (hc.y.mono (by decide)) (hc.z.mono (by decide)) h0) ai)
  aj Tryz.func116 (by kernel_rfl) ⟨(aI (xs:=lQ u c) (k:=0) rfl).2 iu,⟨(ag (xs:=lQ u c) (ks:=[1,2,3]) (vs:=[c.x,c.y,c.z]) ⟨rfl,rfl,rfl,trivial⟩).2 ic,trivial⟩⟩).mono ?_
 rintro e w' ⟨v,rfl,h1,h2⟩
 exact⟨v,rfl,(ag (xs:=lQ u c) (ks:=[4,5,6,7]) (vs:=(Qq.mk u c.x c.y c.z).canon.cs) ⟨rfl,rfl,rfl,rfl,trivial⟩).1 h1,h2⟩
theorem oW {xs:List Fq} {ys:Rho} {iu:Nat} {kc:List Nat} {u:Fq} {c:Vq} {kr:List Nat} (au:xs[iu]? =some u) (ac:AtL xs kc [c.x,c.y,c.z]) (ar:AtL xs kr (Qq.mk u c.x c.y c.z).canon.cs) (hu:u.ok 100000000) (hc:c.ok 100000000) (h0:(Qq.mk u c.x c.y c.z).first.p≠0):OkI xs ys ⟨116,[fr iu,row kc],.v (row kr)⟩:=
 ⟨aA Tryz.func116 rfl rfl,fun B w vs hB h=>by
  match vs,h with
  | [vu,vc],h=>
   refine(q_rCanon vu vc u c w ((aI au).1 h.1) ((ag ac).1 h.2.1) hu hc h0).mono ?_
   rintro e w' ⟨v,rfl,h1,h2⟩
   exact⟨v,rfl,(ag ar).2 h1,h2⟩⟩
def lR (u:Fq) (c:Vq):List Fq:=([u,c.x,c.y,c.z]++((Qq.mk u c.x c.y c.z).canon.cs))
theorem q_fCanon (vu vc:Value) (u:Fq) (c:Vq) (w:World) (iu:IsQ w vu u) (ic:cX w vc c) (hu:u.ok 100000000) (hc:c.ok 100000000) (h0:(Qq.mk u c.x c.y c.z).first.p≠0):
  Calls Tryz.prog 92 #[vu,vc] w fun e w'=>m9 w (Qq.mk u c.x c.y c.z).canon e w':=by
 refine(cRn (ρ:=frs (lR u c)++ []) (args:=[fr 0,row [1,2,3]]) (vs:=[vu,vc]) (r:=.v (row [4,5,6,7]))
  (af (I_fMakeT (ip0:=0) (ip1:=1) (ip2:=2) (ip3:=3) (kr:=[4,5,6,7]) rfl rfl rfl rfl ⟨rfl,rfl,rfl,rfl,trivial⟩ (hu.mono (by decide)) (hc.x.mono (by decide)) (hc.y.mono (by decide)) (hc.z.mono (by decide)) h0) ai)
  aj Tryz.func92 (by kernel_rfl) ⟨(aI (xs:=lR u c) (k:=0) rfl).2 iu,⟨(ag (xs:=lR u c) (ks:=[1,2,3]) (vs:=[c.x,c.y,c.z]) ⟨rfl,rfl,rfl,trivial⟩).2 ic,trivial⟩⟩).mono ?_
 rintro e w' ⟨v,rfl,h1,h2⟩
 exact⟨v,rfl,(ag (xs:=lR u c) (ks:=[4,5,6,7]) (vs:=(Qq.mk u c.x c.y c.z).canon.cs) ⟨rfl,rfl,rfl,rfl,trivial⟩).1 h1,h2⟩
theorem oX {xs:List Fq} {ys:Rho} {iu:Nat} {kc:List Nat} {u:Fq} {c:Vq} {kr:List Nat} (au:xs[iu]? =some u) (ac:AtL xs kc [c.x,c.y,c.z]) (ar:AtL xs kr (Qq.mk u c.x c.y c.z).canon.cs) (hu:u.ok 100000000) (hc:c.ok 100000000) (h0:(Qq.mk u c.x c.y c.z).first.p≠0):OkI xs ys ⟨92,[fr iu,row kc],.v (row kr)⟩:=
 ⟨aA Tryz.func92 rfl rfl,fun B w vs hB h=>by
  match vs,h with
  | [vu,vc],h=>
   refine(q_fCanon vu vc u c w ((aI au).1 h.1) ((ag ac).1 h.2.1) hu hc h0).mono ?_
   rintro e w' ⟨v,rfl,h1,h2⟩
   exact⟨v,rfl,(ag ar).2 h1,h2⟩⟩
end Go.Proofs.YtfhinmdhjlmikaaGreat
namespace Go.Proofs.YtfhinmdhjlmikaaGreat
set_option linter.unusedSimpArgs false
set_option linter.unusedVariables false
set_option maxRecDepth 100000
open Go.RowKit
theorem Qq.ok.inv {q:Qq} {d:Nat} (h:q.ok d) (g:q.good):q.inv.ok (d+2+(d+2)):=by
 have h0:=nP g
 rw[←vn g.comp]at h0
 exact(Qq.ok.mk4 (h.w.mono (by omega)) (h.x.mul (bC (by decide) (by decide))) (h.y.mul (bC (by decide) (by decide))) (h.z.mul (bC (by decide) (by decide)))).canon h0
theorem inv_ne' {q:Qq} (g:q.good):(Qq.mk q.w (q.axis.scale (Fq.ofInt (-1))).x (q.axis.scale (Fq.ofInt (-1))).y (q.axis.scale (Fq.ofInt (-1))).z).first.p≠0:=by rw[vn g.comp];exact nP g
theorem Qq.ok.mulg {p q:Qq} {d e:Nat} (h:p.ok d) (k:q.ok e) (gp:p.good) (gq:q.good):(p.mul q).ok (44*(d+e)+14):=h.mul k (rk gp gq)
theorem Qq.ok.dd {q:Qq} {d:Nat} (h:q.ok d):q.dd.ok (44*d+7):=((h.w.mul h.w).sub (h.axis.dot h.axis)).mono (by omega)
theorem Qq.ok.nn {q:Qq} {d:Nat} (h:q.ok d):q.nn.ok (44*d+7):=((h.w.mul h.w).add (h.axis.dot h.axis)).mono (by omega)
theorem Qq.ok.rat {q:Qq} {d:Nat} (h:q.ok d) (g:q.good):q.rat.ok (44*d+9):=((bC (by decide) (by decide)).div h.nn (nn_ne g)).mono (by omega)
theorem Qq.ok.ap1 {q:Qq} {a:Vq} {d e:Nat} (h:q.ok d) (k:a.ok e):(q.ap1 a).ok (e+44*d+7):=(k.scale h.dd).mono (by omega)
theorem Qq.ok.ap2 {q:Qq} {a:Vq} {d e:Nat} (h:q.ok d) (k:a.ok e):(q.ap2 a).ok (11*d+10*e+5):=(h.axis.scale ((bC (by decide) (by decide)).mul (h.axis.dot k))).mono (by omega)
theorem Qq.ok.ap3 {q:Qq} {a:Vq} {d e:Nat} (h:q.ok d) (k:a.ok e):(q.ap3 a).ok (5*d+4*e+3):=((h.axis.cross k).scale ((bC (by decide) (by decide)).mul h.w)).mono (by omega)
theorem Qq.ok.app {q:Qq} {a:Vq} {d e:Nat} (h:q.ok d) (k:a.ok e) (g:q.good):(q.app a).ok (300*(d+e)+100):=((((h.ap1 k).add (h.ap2 k)).add (h.ap3 k)).scale (h.rat g)).mono (by omega)
def nT (p:Qq) (q:Qq):List Fq:=(p.cs++(q.cs++([p.axis.x,p.axis.y,p.axis.z,q.axis.x,q.axis.y,q.axis.z,(p.w.mul q.w),(p.axis.dot q.axis),((p.w.mul q.w).sub (p.axis.dot q.axis)),(q.axis.scale p.w).x,(q.axis.scale p.w).y,(q.axis.scale p.w).z,(p.axis.scale q.w).x,(p.axis.scale q.w).y,(p.axis.scale q.w).z,((q.axis.scale p.w).add (p.axis.scale q.w)).x,((q.axis.scale p.w).add (p.axis.scale q.w)).y,((q.axis.scale p.w).add (p.axis.scale q.w)).z,(p.axis.cross q.axis).x,(p.axis.cross q.axis).y,(p.axis.cross q.axis).z,(((q.axis.scale p.w).add (p.axis.scale q.w)).add (p.axis.cross q.axis)).x,(((q.axis.scale p.w).add (p.axis.scale q.w)).add (p.axis.cross q.axis)).y,(((q.axis.scale p.w).add (p.axis.scale q.w)).add (p.axis.cross q.axis)).z]++((Qq.mk ((p.w.mul q.w).sub (p.axis.dot q.axis)) (((q.axis.scale p.w).add (p.axis.scale q.w)).add (p.axis.cross q.axis)).x (((q.axis.scale p.w).add (p.axis.scale q.w)).add (p.axis.cross q.axis)).y (((q.axis.scale p.w).add (p.axis.scale q.w)).add (p.axis.cross q.axis)).z).canon.cs))))
theorem q_fMulT (vp vq:Value) (p:Qq) (q:Qq) (w:World) (ip:dE w vp p) (iq:dE w vq q) (hp:p.ok 100000) (hq:q.ok 100000) (gp:p.good) (gq:q.good):
  Calls Tryz.prog 89 #[vp,vq] w fun e w'=>m9 w (p.mul q) e w':=by
 refine(cRn (ρ:=frs (nT p q)++ []) (args:=[row [0,1,2,3],row [4,5,6,7]]) (vs:=[vp,vq]) (r:=.v (row [32,33,34,35]))
  (af (rB (kq:=[0,1,2,3]) (q:=p) (kr:=[8,9,10]) ⟨rfl,rfl,rfl,rfl,trivial⟩ ⟨rfl,rfl,rfl,trivial⟩ (hp.mono (by decide))) (af (rB (kq:=[4,5,6,7]) (q:=q) (kr:=[11,12,13]) ⟨rfl,rfl,rfl,rfl,trivial⟩ ⟨rfl,rfl,rfl,trivial⟩ (hq.mono (by decide))) (af (oQ (i:=0) (j:=4) (k:=14) rfl rfl rfl (hp.w.mono (by decide)) (hq.w.mono (by decide))) (af (I_vDot (ka:=[8,9,10]) (a:=p.axis) (kb:=[11,12,13]) (b:=q.axis) (ir:=15) ⟨rfl,rfl,rfl,trivial⟩ ⟨rfl,rfl,rfl,trivial⟩ rfl (hp.axis.mono (by decide)) (hq.axis.mono (by decide))) (af (oS (i:=14) (j:=15) (k:=16) rfl rfl rfl ((hp.w.mul hq.w).mono (by decide)) ((hp.axis.dot hq.axis).mono (by decide))) (af (jm (ka:=[11,12,13]) (a:=q.axis) (ik:=0) (kr:=[17,18,19]) ⟨rfl,rfl,rfl,trivial⟩ rfl ⟨rfl,rfl,rfl,trivial⟩ (hq.axis.mono (by decide)) (hp.w.mono (by decide))) (af (jm (ka:=[8,9,10]) (a:=p.axis) (ik:=4) (kr:=[20,21,22]) ⟨rfl,rfl,rfl,trivial⟩ rfl ⟨rfl,rfl,rfl,trivial⟩ (hp.axis.mono (by decide)) (hq.w.mono (by decide))) (af (vC (ka:=[17,18,19]) (a:=(q.axis.scale p.w)) (kb:=[20,21,22]) (b:=(p.axis.scale q.w)) (kr:=[23,24,25]) ⟨rfl,rfl,rfl,trivial⟩ ⟨rfl,rfl,rfl,trivial⟩ ⟨rfl,rfl,rfl,trivial⟩ ((hq.axis.scale hp.w).mono (by decide)) ((hp.axis.scale hq.w).mono (by decide))) (af (I_vCross (ka:=[8,9,10]) (a:=p.axis) (kb:=[11,12,13]) (b:=q.axis) (kr:=[26,27,28]) ⟨rfl,rfl,rfl,trivial⟩ ⟨rfl,rfl,rfl,trivial⟩ ⟨rfl,rfl,rfl,trivial⟩ (hp.axis.mono (by decide)) (hq.axis.mono (by decide))) (af (vC (ka:=[23,24,25]) (a:=((q.axis.scale p.w).add (p.axis.scale q.w))) (kb:=[26,27,28]) (b:=(p.axis.cross q.axis)) (kr:=[29,30,31]) ⟨rfl,rfl,rfl,trivial⟩ ⟨rfl,rfl,rfl,trivial⟩ ⟨rfl,rfl,rfl,trivial⟩ (((hq.axis.scale hp.w).add (hp.axis.scale hq.w)).mono (by decide)) ((hp.axis.cross hq.axis).mono (by decide))) (af (oX (iu:=16) (kc:=[29,30,31]) (c:=(((q.axis.scale p.w).add (p.axis.scale q.w)).add (p.axis.cross q.axis))) (kr:=[32,33,34,35]) rfl ⟨rfl,rfl,rfl,trivial⟩ ⟨rfl,rfl,rfl,rfl,trivial⟩ (((hp.w.mul hq.w).sub (hp.axis.dot hq.axis)).mono (by decide)) ((((hq.axis.scale hp.w).add (hp.axis.scale hq.w)).add (hp.axis.cross hq.axis)).mono (by decide)) (rk gp gq)) ai)))))))))))
  aj Tryz.func89 (by kernel_rfl) ⟨(ag (xs:=nT p q) (ks:=[0,1,2,3]) (vs:=p.cs) ⟨rfl,rfl,rfl,rfl,trivial⟩).2 ip,⟨(ag (xs:=nT p q) (ks:=[4,5,6,7]) (vs:=q.cs) ⟨rfl,rfl,rfl,rfl,trivial⟩).2 iq,trivial⟩⟩).mono ?_
 rintro e w' ⟨v,rfl,h1,h2⟩
 exact⟨v,rfl,(ag (xs:=nT p q) (ks:=[32,33,34,35]) (vs:=(Qq.mk ((p.w.mul q.w).sub (p.axis.dot q.axis)) (((q.axis.scale p.w).add (p.axis.scale q.w)).add (p.axis.cross q.axis)).x (((q.axis.scale p.w).add (p.axis.scale q.w)).add (p.axis.cross q.axis)).y (((q.axis.scale p.w).add (p.axis.scale q.w)).add (p.axis.cross q.axis)).z).canon.cs) ⟨rfl,rfl,rfl,rfl,trivial⟩).1 h1,h2⟩
theorem rE {xs:List Fq} {ys:Rho} {kp:List Nat} {kq:List Nat} {p:Qq} {q:Qq} {kr:List Nat} (ap:AtL xs kp p.cs) (aq:AtL xs kq q.cs) (ar:AtL xs kr (p.mul q).cs) (hp:p.ok 100000) (hq:q.ok 100000) (gp:p.good) (gq:q.good):OkI xs ys ⟨89,[row kp,row kq],.v (row kr)⟩:=
 ⟨aA Tryz.func89 rfl rfl,fun B w vs hB h=>by
  match vs,h with
  | [vp,vq],h=>
   refine(q_fMulT vp vq p q w ((ag ap).1 h.1) ((ag aq).1 h.2.1) hp hq gp gq).mono ?_
   rintro e w' ⟨v,rfl,h1,h2⟩
   exact⟨v,rfl,(ag ar).2 h1,h2⟩⟩
def nU (p:Qq) (q:Qq):List Fq:=(p.cs++(q.cs++([p.axis.x,p.axis.y,p.axis.z,q.axis.x,q.axis.y,q.axis.z,(p.w.mul q.w),(p.axis.dot q.axis),((p.w.mul q.w).sub (p.axis.dot q.axis)),(q.axis.scale p.w).x,(q.axis.scale p.w).y,(q.axis.scale p.w).z,(p.axis.scale q.w).x,(p.axis.scale q.w).y,(p.axis.scale q.w).z,((q.axis.scale p.w).add (p.axis.scale q.w)).x,((q.axis.scale p.w).add (p.axis.scale q.w)).y,((q.axis.scale p.w).add (p.axis.scale q.w)).z,(p.axis.cross q.axis).x,(p.axis.cross q.axis).y,(p.axis.cross q.axis).z,(((q.axis.scale p.w).add (p.axis.scale q.w)).add (p.axis.cross q.axis)).x,(((q.axis.scale p.w).add (p.axis.scale q.w)).add (p.axis.cross q.axis)).y,(((q.axis.scale p.w).add (p.axis.scale q.w)).add (p.axis.cross q.axis)).z]++((Qq.mk ((p.w.mul q.w).sub (p.axis.dot q.axis)) (((q.axis.scale p.w).add (p.axis.scale q.w)).add (p.axis.cross q.axis)).x (((q.axis.scale p.w).add (p.axis.scale q.w)).add (p.axis.cross q.axis)).y (((q.axis.scale p.w).add (p.axis.scale q.w)).add (p.axis.cross q.axis)).z).canon.cs))))
theorem q_rMulT (vp vq:Value) (p:Qq) (q:Qq) (w:World) (ip:dE w vp p) (iq:dE w vq q) (hp:p.ok 100000) (hq:q.ok 100000) (gp:p.good) (gq:q.good):
  Calls Tryz.prog 113 #[vp,vq] w fun e w'=>m9 w (p.mul q) e w':=by
 refine(cRn (ρ:=frs (nU p q)++ []) (args:=[row [0,1,2,3],row [4,5,6,7]]) (vs:=[vp,vq]) (r:=.v (row [32,33,34,35]))
  (af (vF (kq:=[0,1,2,3]) (q:=p) (kr:=[8,9,10]) ⟨rfl,rfl,rfl,rfl,trivial⟩ ⟨rfl,rfl,rfl,trivial⟩ (hp.mono (by decide))) (af (vF (kq:=[4,5,6,7]) (q:=q) (kr:=[11,12,13]) ⟨rfl,rfl,rfl,rfl,trivial⟩ ⟨rfl,rfl,rfl,trivial⟩ (hq.mono (by decide))) (af (dU (i:=0) (j:=4) (k:=14) rfl rfl rfl (hp.w.mono (by decide)) (hq.w.mono (by decide))) (af (I_rDot (ka:=[8,9,10]) (a:=p.axis) (kb:=[11,12,13]) (b:=q.axis) (ir:=15) ⟨rfl,rfl,rfl,trivial⟩ ⟨rfl,rfl,rfl,trivial⟩ rfl (hp.axis.mono (by decide)) (hq.axis.mono (by decide))) (af (ku (i:=14) (j:=15) (k:=16) rfl rfl rfl ((hp.w.mul hq.w).mono (by decide)) ((hp.axis.dot hq.axis).mono (by decide))) (af (oT (ka:=[11,12,13]) (a:=q.axis) (ik:=0) (kr:=[17,18,19]) ⟨rfl,rfl,rfl,trivial⟩ rfl ⟨rfl,rfl,rfl,trivial⟩ (hq.axis.mono (by decide)) (hp.w.mono (by decide))) (af (oT (ka:=[8,9,10]) (a:=p.axis) (ik:=4) (kr:=[20,21,22]) ⟨rfl,rfl,rfl,trivial⟩ rfl ⟨rfl,rfl,rfl,trivial⟩ (hp.axis.mono (by decide)) (hq.w.mono (by decide))) (af (I_rSum (ka:=[17,18,19]) (a:=(q.axis.scale p.w)) (kb:=[20,21,22]) (b:=(p.axis.scale q.w)) (kr:=[23,24,25]) ⟨rfl,rfl,rfl,trivial⟩ ⟨rfl,rfl,rfl,trivial⟩ ⟨rfl,rfl,rfl,trivial⟩ ((hq.axis.scale hp.w).mono (by decide)) ((hp.axis.scale hq.w).mono (by decide))) (af (I_rCross (ka:=[8,9,10]) (a:=p.axis) (kb:=[11,12,13]) (b:=q.axis) (kr:=[26,27,28]) ⟨rfl,rfl,rfl,trivial⟩ ⟨rfl,rfl,rfl,trivial⟩ ⟨rfl,rfl,rfl,trivial⟩ (hp.axis.mono (by decide)) (hq.axis.mono (by decide))) (af (I_rSum (ka:=[23,24,25]) (a:=((q.axis.scale p.w).add (p.axis.scale q.w))) (kb:=[26,27,28]) (b:=(p.axis.cross q.axis)) (kr:=[29,30,31]) ⟨rfl,rfl,rfl,trivial⟩ ⟨rfl,rfl,rfl,trivial⟩ ⟨rfl,rfl,rfl,trivial⟩ (((hq.axis.scale hp.w).add (hp.axis.scale hq.w)).mono (by decide)) ((hp.axis.cross hq.axis).mono (by decide))) (af (oW (iu:=16) (kc:=[29,30,31]) (c:=(((q.axis.scale p.w).add (p.axis.scale q.w)).add (p.axis.cross q.axis))) (kr:=[32,33,34,35]) rfl ⟨rfl,rfl,rfl,trivial⟩ ⟨rfl,rfl,rfl,rfl,trivial⟩ (((hp.w.mul hq.w).sub (hp.axis.dot hq.axis)).mono (by decide)) ((((hq.axis.scale hp.w).add (hp.axis.scale hq.w)).add (hp.axis.cross hq.axis)).mono (by decide)) (rk gp gq)) ai)))))))))))
  aj Tryz.func113 (by kernel_rfl) ⟨(ag (xs:=nU p q) (ks:=[0,1,2,3]) (vs:=p.cs) ⟨rfl,rfl,rfl,rfl,trivial⟩).2 ip,⟨(ag (xs:=nU p q) (ks:=[4,5,6,7]) (vs:=q.cs) ⟨rfl,rfl,rfl,rfl,trivial⟩).2 iq,trivial⟩⟩).mono ?_
 rintro e w' ⟨v,rfl,h1,h2⟩
 exact⟨v,rfl,(ag (xs:=nU p q) (ks:=[32,33,34,35]) (vs:=(Qq.mk ((p.w.mul q.w).sub (p.axis.dot q.axis)) (((q.axis.scale p.w).add (p.axis.scale q.w)).add (p.axis.cross q.axis)).x (((q.axis.scale p.w).add (p.axis.scale q.w)).add (p.axis.cross q.axis)).y (((q.axis.scale p.w).add (p.axis.scale q.w)).add (p.axis.cross q.axis)).z).canon.cs) ⟨rfl,rfl,rfl,rfl,trivial⟩).1 h1,h2⟩
theorem rF {xs:List Fq} {ys:Rho} {kp:List Nat} {kq:List Nat} {p:Qq} {q:Qq} {kr:List Nat} (ap:AtL xs kp p.cs) (aq:AtL xs kq q.cs) (ar:AtL xs kr (p.mul q).cs) (hp:p.ok 100000) (hq:q.ok 100000) (gp:p.good) (gq:q.good):OkI xs ys ⟨113,[row kp,row kq],.v (row kr)⟩:=
 ⟨aA Tryz.func113 rfl rfl,fun B w vs hB h=>by
  match vs,h with
  | [vp,vq],h=>
   refine(q_rMulT vp vq p q w ((ag ap).1 h.1) ((ag aq).1 h.2.1) hp hq gp gq).mono ?_
   rintro e w' ⟨v,rfl,h1,h2⟩
   exact⟨v,rfl,(ag ar).2 h1,h2⟩⟩
def rG (q:Qq):List Fq:=(q.cs++([q.axis.x,q.axis.y,q.axis.z,(Fq.ofInt (-1)),(q.axis.scale (Fq.ofInt (-1))).x,(q.axis.scale (Fq.ofInt (-1))).y,(q.axis.scale (Fq.ofInt (-1))).z]++((Qq.mk q.w (q.axis.scale (Fq.ofInt (-1))).x (q.axis.scale (Fq.ofInt (-1))).y (q.axis.scale (Fq.ofInt (-1))).z).canon.cs)))
theorem q_fInvT (vq:Value) (q:Qq) (w:World) (iq:dE w vq q) (hq:q.ok 100000) (gq:q.good):
  Calls Tryz.prog 90 #[vq] w fun e w'=>m9 w q.inv e w':=by
 refine(cRn (ρ:=frs (rG q)++ []) (args:=[row [0,1,2,3]]) (vs:=[vq]) (r:=.v (row [11,12,13,14]))
  (af (rB (kq:=[0,1,2,3]) (q:=q) (kr:=[4,5,6]) ⟨rfl,rfl,rfl,rfl,trivial⟩ ⟨rfl,rfl,rfl,trivial⟩ (hq.mono (by decide))) (af (gd (k:=7) rfl (by decide) (by decide)) (af (jm (ka:=[4,5,6]) (a:=q.axis) (ik:=7) (kr:=[8,9,10]) ⟨rfl,rfl,rfl,trivial⟩ rfl ⟨rfl,rfl,rfl,trivial⟩ (hq.axis.mono (by decide)) ((bC (u:= -1) (by decide) (by decide)).mono (by decide))) (af (oX (iu:=0) (kc:=[8,9,10]) (c:=(q.axis.scale (Fq.ofInt (-1)))) (kr:=[11,12,13,14]) rfl ⟨rfl,rfl,rfl,trivial⟩ ⟨rfl,rfl,rfl,rfl,trivial⟩ (hq.w.mono (by decide)) ((hq.axis.scale (bC (u:= -1) (by decide) (by decide))).mono (by decide)) (inv_ne' gq)) ai))))
  aj Tryz.func90 (by kernel_rfl) ⟨(ag (xs:=rG q) (ks:=[0,1,2,3]) (vs:=q.cs) ⟨rfl,rfl,rfl,rfl,trivial⟩).2 iq,trivial⟩).mono ?_
 rintro e w' ⟨v,rfl,h1,h2⟩
 exact⟨v,rfl,(ag (xs:=rG q) (ks:=[11,12,13,14]) (vs:=(Qq.mk q.w (q.axis.scale (Fq.ofInt (-1))).x (q.axis.scale (Fq.ofInt (-1))).y (q.axis.scale (Fq.ofInt (-1))).z).canon.cs) ⟨rfl,rfl,rfl,rfl,trivial⟩).1 h1,h2⟩
theorem xV {xs:List Fq} {ys:Rho} {kq:List Nat} {q:Qq} {kr:List Nat} (aq:AtL xs kq q.cs) (ar:AtL xs kr q.inv.cs) (hq:q.ok 100000) (gq:q.good):OkI xs ys ⟨90,[row kq],.v (row kr)⟩:=
 ⟨aA Tryz.func90 rfl rfl,fun B w vs hB h=>by
  match vs,h with
  | [vq],h=>
   refine(q_fInvT vq q w ((ag aq).1 h.1) hq gq).mono ?_
   rintro e w' ⟨v,rfl,h1,h2⟩
   exact⟨v,rfl,(ag ar).2 h1,h2⟩⟩
def rH (q:Qq):List Fq:=(q.cs++([q.x.neg,q.y.neg,q.z.neg]++((Qq.mk q.w (Vq.mk q.x.neg q.y.neg q.z.neg).x (Vq.mk q.x.neg q.y.neg q.z.neg).y (Vq.mk q.x.neg q.y.neg q.z.neg).z).canon.cs)))
theorem q_rInvT (vq:Value) (q:Qq) (w:World) (iq:dE w vq q) (hq:q.ok 100000) (gq:q.good):
  Calls Tryz.prog 114 #[vq] w fun e w'=>m9 w q.inv e w':=by
 rw[tB gq.comp]
 refine(cRn (ρ:=frs (rH q)++ []) (args:=[row [0,1,2,3]]) (vs:=[vq]) (r:=.v (row [7,8,9,10]))
  (af (vw (i:=1) (k:=4) rfl rfl (hq.x.mono (by decide))) (af (vw (i:=2) (k:=5) rfl rfl (hq.y.mono (by decide))) (af (vw (i:=3) (k:=6) rfl rfl (hq.z.mono (by decide))) (af (oW (iu:=0) (kc:=[4,5,6]) (c:=(Vq.mk q.x.neg q.y.neg q.z.neg)) (kr:=[7,8,9,10]) rfl ⟨rfl,rfl,rfl,trivial⟩ ⟨rfl,rfl,rfl,rfl,trivial⟩ (hq.w.mono (by decide)) (⟨hq.x.neg.mono (by decide),hq.y.neg.mono (by decide),hq.z.neg.mono (by decide)⟩:Vq.ok 100000000 (Vq.mk q.x.neg q.y.neg q.z.neg)) (nP gq)) ai))))
  aj Tryz.func114 (by kernel_rfl) ⟨(ag (xs:=rH q) (ks:=[0,1,2,3]) (vs:=q.cs) ⟨rfl,rfl,rfl,rfl,trivial⟩).2 iq,trivial⟩).mono ?_
 rintro e w' ⟨v,rfl,h1,h2⟩
 exact⟨v,rfl,(ag (xs:=rH q) (ks:=[7,8,9,10]) (vs:=(Qq.mk q.w (Vq.mk q.x.neg q.y.neg q.z.neg).x (Vq.mk q.x.neg q.y.neg q.z.neg).y (Vq.mk q.x.neg q.y.neg q.z.neg).z).canon.cs) ⟨rfl,rfl,rfl,rfl,trivial⟩).1 h1,h2⟩
theorem xW {xs:List Fq} {ys:Rho} {kq:List Nat} {q:Qq} {kr:List Nat} (aq:AtL xs kq q.cs) (ar:AtL xs kr q.inv.cs) (hq:q.ok 100000) (gq:q.good):OkI xs ys ⟨114,[row kq],.v (row kr)⟩:=
 ⟨aA Tryz.func114 rfl rfl,fun B w vs hB h=>by
  match vs,h with
  | [vq],h=>
   refine(q_rInvT vq q w ((ag aq).1 h.1) hq gq).mono ?_
   rintro e w' ⟨v,rfl,h1,h2⟩
   exact⟨v,rfl,(ag ar).2 h1,h2⟩⟩
end Go.Proofs.YtfhinmdhjlmikaaGreat
namespace Go.Proofs.YtfhinmdhjlmikaaGreat
set_option linter.unusedSimpArgs false
set_option linter.unusedVariables false
set_option maxRecDepth 100000
open Go.RowKit
theorem vG {x y z:Int} (l1: -9223372036854775808≤x) (r1:x<9223372036854775808) (l2: -9223372036854775808≤y) (r2:y<9223372036854775808) (l3: -9223372036854775808≤z) (r3:z<9223372036854775808):(Vq.of x y z).ok 2:=⟨bC l1 r1,bC l2 r2,bC l3 r3⟩
theorem eV {q:Qq} (g:q.good):q.first=Fq.ofInt 1:=m8 g.comp.first (aW 1) (by rw[g.one,nO];rfl)
theorem good_ne {q:Qq} (g:q.good):q.first.p≠0:=by rw[eV g];decide
theorem oY {p q:Qq} {t:Fq} {d e f:Nat} (h:p.ok d) (k:q.ok e) (l:t.ok f) (gp:p.good) (gq:q.good) (vt:t.valid=true):(p.way (p.inv.mul q) t).ok (44*(d+((44*(d+2+(d+2)+e)+14+f+2)+(44*(d+2+(d+2)+e)+14+f+2)))+14):=by
 have D:=(h.inv gp).mulg k (bJ gp) gq
 have S:=D.axis.scale l
 exact h.mulg ((Qq.ok.mk4 ((bC (by decide) (by decide)).mono (by omega)) (S.x.mono (by omega)) (S.y.mono (by omega)) (S.z.mono (by omega)):Qq.ok (44*(d+2+(d+2)+e)+14+f+2) _).canon fG) gp (eT (jM (gW (bJ gp) gq).comp vt) fG)
end Go.Proofs.YtfhinmdhjlmikaaGreat
