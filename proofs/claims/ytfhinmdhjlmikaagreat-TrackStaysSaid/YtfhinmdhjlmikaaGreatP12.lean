/- Rotations, by the executor. Make and canonical of rotations, by the executor. Products, inverses, images, by the executor. Matrices, units, from one vector to another, by the executor. On the way, valid rotations, by the executor. -/
import Derived.Test.YtfhinmdhjlmikaaGreatP11
namespace Go.Proofs.YtfhinmdhjlmikaaGreat
set_option linter.unusedSimpArgs false
set_option linter.unusedVariables false
set_option maxRecDepth 100000
open Go.RowKit
/-- Agreement of all parts. -/
def Vq.same (a b:Vq):Bool:=a.x.same b.x && (a.y.same b.y && a.z.same b.z)
def Qq.same (p q:Qq):Bool:=p.w.same q.w && (p.x.same q.x && (p.y.same q.y && p.z.same q.z))
theorem Vq.same_iff {a b:Vq}:a.same b=true↔a=b:=by
 obtain⟨a1,a2,a3⟩:=a;obtain⟨b1,b2,b3⟩:=b
 simp[Vq.same,Fq.same_iff]
theorem Qq.same_iff {a b:Qq}:a.same b=true↔a=b:=by
 obtain⟨a1,a2,a3,a4⟩:=a;obtain⟨b1,b2,b3,b4⟩:=b
 simp[Qq.same,Fq.same_iff]
theorem same_ne {x y:Fq} (h:x≠y):x.same y=false:=Bool.eq_false_iff.2 (mt Fq.same_iff.1 h)
def lI (a:Qq) (b:Qq):List Fq:=(a.cs++(b.cs))
theorem xB (va vb:Value) (a:Qq) (b:Qq) (w:World) (ia:fv w va a) (ib:fv w vb b) (ha:a.ok 1000000000) (hb:b.ok 1000000000) (e0:a=b):
  Calls Tryz.prog 50 #[va,vb] w fun e w'=>bm w (.bool true) e w':=by
 refine(cRn (ρ:=frs (lI a b)++ []) (args:=[row [0,1,2,3],row [4,5,6,7]]) (vs:=[va,vb]) (r:=.v (.one (.b true)))
  (af (eO (i:=0) (j:=4) (l:=.b true) rfl rfl (lb (Fq.same_iff.2 (congrArg Qq.w e0))) (ha.w.mono (by decide)).p (ha.w.mono (by decide)).q (hb.w.mono (by decide)).p (hb.w.mono (by decide)).q) (af (eO (i:=1) (j:=5) (l:=.b true) rfl rfl (lb (Fq.same_iff.2 (congrArg Qq.x e0))) (ha.x.mono (by decide)).p (ha.x.mono (by decide)).q (hb.x.mono (by decide)).p (hb.x.mono (by decide)).q) (af (eO (i:=2) (j:=6) (l:=.b true) rfl rfl (lb (Fq.same_iff.2 (congrArg Qq.y e0))) (ha.y.mono (by decide)).p (ha.y.mono (by decide)).q (hb.y.mono (by decide)).p (hb.y.mono (by decide)).q) (af (eO (i:=3) (j:=7) (l:=.b true) rfl rfl (lb (Fq.same_iff.2 (congrArg Qq.z e0))) (ha.z.mono (by decide)).p (ha.z.mono (by decide)).q (hb.z.mono (by decide)).p (hb.z.mono (by decide)).q) ah))))
  ai Tryz.func50 (by kernel_rfl) ⟨(ag (xs:=lI a b) (ks:=[0,1,2,3]) (vs:=a.cs) ⟨rfl,rfl,rfl,rfl,trivial⟩).2 ia,⟨(ag (xs:=lI a b) (ks:=[4,5,6,7]) (vs:=b.cs) ⟨rfl,rfl,rfl,rfl,trivial⟩).2 ib,trivial⟩⟩).mono ?_
 rintro e w' ⟨v,rfl,h1,h2⟩
 exact⟨congrArg Ending.returned h1,h2⟩
theorem xC {xs:List Fq} {ys:Rho} {ka:List Nat} {kb:List Nat} {a:Qq} {b:Qq} (aa:AtL xs ka a.cs) (ab:AtL xs kb b.cs) (ha:a.ok 1000000000) (hb:b.ok 1000000000) (e0:a=b):OkI xs ys ⟨50,[row ka,row kb],.v (.one (.b true))⟩:=
 ⟨aC Tryz.func50 rfl rfl,fun B w vs hB h=>by
  match vs,h with
  | [va,vb],h=>
   refine(xB va vb a b w ((ag aa).1 h.1) ((ag ab).1 h.2.1) ha hb e0).mono ?_
   rintro e w' ⟨rfl,h2⟩
   exact⟨_,rfl,rfl,h2⟩⟩
def ub (q:Qq):List Fq:=q.cs
theorem q_axis (vq:Value) (q:Qq) (w:World) (iq:fv w vq q) (hq:q.ok 1000000000):
  Calls Tryz.prog 95 #[vq] w fun e w'=>eI w q.axis e w':=by
 refine(cRn (ρ:=frs (ub q)++ []) (args:=[row [0,1,2,3]]) (vs:=[vq]) (r:=.v (row [1,2,3]))
  (ah)
  ai Tryz.func95 (by kernel_rfl) ⟨(ag (xs:=ub q) (ks:=[0,1,2,3]) (vs:=q.cs) ⟨rfl,rfl,rfl,rfl,trivial⟩).2 iq,trivial⟩).mono ?_
 rintro e w' ⟨v,rfl,h1,h2⟩
 exact⟨v,rfl,(ag (xs:=ub q) (ks:=[1,2,3]) (vs:=[q.x,q.y,q.z]) ⟨rfl,rfl,rfl,trivial⟩).1 h1,h2⟩
theorem qB {xs:List Fq} {ys:Rho} {kq:List Nat} {q:Qq} {kr:List Nat} (aq:AtL xs kq q.cs) (ar:AtL xs kr [q.axis.x,q.axis.y,q.axis.z]) (hq:q.ok 1000000000):OkI xs ys ⟨95,[row kq],.v (row kr)⟩:=
 ⟨aC Tryz.func95 rfl rfl,fun B w vs hB h=>by
  match vs,h with
  | [vq],h=>
   refine(q_axis vq q w ((ag aq).1 h.1) hq).mono ?_
   rintro e w' ⟨v,rfl,h1,h2⟩
   exact⟨v,rfl,(ag ar).2 h1,h2⟩⟩
def qC (q:Qq):List Fq:=q.cs
theorem q_parts (vq:Value) (q:Qq) (w:World) (iq:fv w vq q) (hq:q.ok 1000000000):
  Calls Tryz.prog 101 #[vq] w fun e w'=>sf w q e w':=by
 refine(cRn (ρ:=frs (qC q)++ []) (args:=[row [0,1,2,3]]) (vs:=[vq]) (r:=.v (row [0,1,2,3]))
  (ah)
  ai Tryz.func101 (by kernel_rfl) ⟨(ag (xs:=qC q) (ks:=[0,1,2,3]) (vs:=q.cs) ⟨rfl,rfl,rfl,rfl,trivial⟩).2 iq,trivial⟩).mono ?_
 rintro e w' ⟨v,rfl,h1,h2⟩
 exact⟨v,rfl,(ag (xs:=qC q) (ks:=[0,1,2,3]) (vs:=q.cs) ⟨rfl,rfl,rfl,rfl,trivial⟩).1 h1,h2⟩
theorem cj {xs:List Fq} {ys:Rho} {kq:List Nat} {q:Qq} {kr:List Nat} (aq:AtL xs kq q.cs) (ar:AtL xs kr q.cs) (hq:q.ok 1000000000):OkI xs ys ⟨101,[row kq],.v (row kr)⟩:=
 ⟨aC Tryz.func101 rfl rfl,fun B w vs hB h=>by
  match vs,h with
  | [vq],h=>
   refine(q_parts vq q w ((ag aq).1 h.1) hq).mono ?_
   rintro e w' ⟨v,rfl,h1,h2⟩
   exact⟨v,rfl,(ag ar).2 h1,h2⟩⟩
def lJ (a:Qq) (b:Qq):List Fq:=(a.cs++(b.cs))
theorem xD (va vb:Value) (a:Qq) (b:Qq) (w:World) (ia:fv w va a) (ib:fv w vb b) (ha:a.ok 100000000) (hb:b.ok 100000000) (e0:a=b) (ga:a.comp) (gb:b.comp):
  Calls Tryz.prog 71 #[va,vb] w fun e w'=>bm w (.bool true) e w':=by
 refine(cRn (ρ:=frs (lJ a b)++ []) (args:=[row [0,1,2,3],row [4,5,6,7]]) (vs:=[va,vb]) (r:=.v (.one (.b true)))
  (af (cj (kq:=[0,1,2,3]) (q:=a) (kr:=[0,1,2,3]) ⟨rfl,rfl,rfl,rfl,trivial⟩ ⟨rfl,rfl,rfl,rfl,trivial⟩ (ha.mono (by decide))) (af (cj (kq:=[4,5,6,7]) (q:=b) (kr:=[4,5,6,7]) ⟨rfl,rfl,rfl,rfl,trivial⟩ ⟨rfl,rfl,rfl,rfl,trivial⟩ (hb.mono (by decide))) (af (bH (i:=0) (j:=4) rfl rfl (li ((bF ga.w gb.w).2 (congrArg Qq.w e0))) (ha.w.mono (by decide)) (hb.w.mono (by decide))) (af (bH (i:=1) (j:=5) rfl rfl (li ((bF ga.x gb.x).2 (congrArg Qq.x e0))) (ha.x.mono (by decide)) (hb.x.mono (by decide))) (af (bH (i:=2) (j:=6) rfl rfl (li ((bF ga.y gb.y).2 (congrArg Qq.y e0))) (ha.y.mono (by decide)) (hb.y.mono (by decide))) (af (bH (i:=3) (j:=7) rfl rfl (li ((bF ga.z gb.z).2 (congrArg Qq.z e0))) (ha.z.mono (by decide)) (hb.z.mono (by decide))) ah))))))
  ai Tryz.func71 (by kernel_rfl) ⟨(ag (xs:=lJ a b) (ks:=[0,1,2,3]) (vs:=a.cs) ⟨rfl,rfl,rfl,rfl,trivial⟩).2 ia,⟨(ag (xs:=lJ a b) (ks:=[4,5,6,7]) (vs:=b.cs) ⟨rfl,rfl,rfl,rfl,trivial⟩).2 ib,trivial⟩⟩).mono ?_
 rintro e w' ⟨v,rfl,h1,h2⟩
 exact⟨congrArg Ending.returned h1,h2⟩
theorem pJ {xs:List Fq} {ys:Rho} {ka:List Nat} {kb:List Nat} {a:Qq} {b:Qq} (aa:AtL xs ka a.cs) (ab:AtL xs kb b.cs) (ha:a.ok 100000000) (hb:b.ok 100000000) (e0:a=b) (ga:a.comp) (gb:b.comp):OkI xs ys ⟨71,[row ka,row kb],.v (.one (.b true))⟩:=
 ⟨aC Tryz.func71 rfl rfl,fun B w vs hB h=>by
  match vs,h with
  | [va,vb],h=>
   refine(xD va vb a b w ((ag aa).1 h.1) ((ag ab).1 h.2.1) ha hb e0 ga gb).mono ?_
   rintro e w' ⟨rfl,h2⟩
   exact⟨_,rfl,rfl,h2⟩⟩
def lK (a:Qq) (b:Qq):List Fq:=(a.cs++(b.cs))
def jM (a:Qq) (b:Qq):List Fq:=(a.cs++(b.cs))
def jN (a:Qq) (b:Qq):List Fq:=(a.cs++(b.cs))
def jO (a:Qq) (b:Qq):List Fq:=(a.cs++(b.cs))
theorem xE (va vb:Value) (a:Qq) (b:Qq) (w:World) (ia:fv w va a) (ib:fv w vb b) (ha:a.ok 100000000) (hb:b.ok 100000000) (e0:a≠b) (ga:a.comp) (gb:b.comp):
  Calls Tryz.prog 71 #[va,vb] w fun e w'=>bm w (.bool false) e w':=by
 by_cases c0:a.w=b.w
 ·by_cases c1:a.x=b.x
  ·by_cases c2:a.y=b.y
   ·by_cases c3:a.z=b.z
    ·exact absurd (by cases a;cases b;simp only at c0 c1 c2 c3;subst c0 c1 c2 c3;rfl) e0
    ·refine(cRn (ρ:=frs (lK a b)++([.val (.int .i64 (a.z.cmp b.z))]:List Vp)) (args:=[row [0,1,2,3],row [4,5,6,7]]) (vs:=[va,vb]) (r:=.v (.one (.b false)))
      (af (cj (kq:=[0,1,2,3]) (q:=a) (kr:=[0,1,2,3]) ⟨rfl,rfl,rfl,rfl,trivial⟩ ⟨rfl,rfl,rfl,rfl,trivial⟩ (ha.mono (by decide))) (af (cj (kq:=[4,5,6,7]) (q:=b) (kr:=[4,5,6,7]) ⟨rfl,rfl,rfl,rfl,trivial⟩ ⟨rfl,rfl,rfl,rfl,trivial⟩ (hb.mono (by decide))) (af (bH (i:=0) (j:=4) rfl rfl (li ((bF ga.w gb.w).2 c0)) (ha.w.mono (by decide)) (hb.w.mono (by decide))) (af (bH (i:=1) (j:=5) rfl rfl (li ((bF ga.x gb.x).2 c1)) (ha.x.mono (by decide)) (hb.x.mono (by decide))) (af (bH (i:=2) (j:=6) rfl rfl (li ((bF ga.y gb.y).2 c2)) (ha.y.mono (by decide)) (hb.y.mono (by decide))) (af (bH (i:=3) (j:=7) rfl rfl (lr (n:=24) rfl) (ha.z.mono (by decide)) (hb.z.mono (by decide))) ah))))))
      (ae (fi (n:=24) (c:=0) (t:=3) rfl (qw (mt (bF ga.z gb.z).1 c3))) (ai)) Tryz.func71 (by kernel_rfl) ⟨(ag (xs:=lK a b) (ks:=[0,1,2,3]) (vs:=a.cs) ⟨rfl,rfl,rfl,rfl,trivial⟩).2 ia,⟨(ag (xs:=lK a b) (ks:=[4,5,6,7]) (vs:=b.cs) ⟨rfl,rfl,rfl,rfl,trivial⟩).2 ib,trivial⟩⟩).mono ?_
     rintro e w' ⟨v,rfl,h1,h2⟩
     exact⟨congrArg Ending.returned h1,h2⟩
   ·refine(cRn (ρ:=frs (jM a b)++([.val (.int .i64 (a.y.cmp b.y))]:List Vp)) (args:=[row [0,1,2,3],row [4,5,6,7]]) (vs:=[va,vb]) (r:=.v (.one (.b false)))
     (af (cj (kq:=[0,1,2,3]) (q:=a) (kr:=[0,1,2,3]) ⟨rfl,rfl,rfl,rfl,trivial⟩ ⟨rfl,rfl,rfl,rfl,trivial⟩ (ha.mono (by decide))) (af (cj (kq:=[4,5,6,7]) (q:=b) (kr:=[4,5,6,7]) ⟨rfl,rfl,rfl,rfl,trivial⟩ ⟨rfl,rfl,rfl,rfl,trivial⟩ (hb.mono (by decide))) (af (bH (i:=0) (j:=4) rfl rfl (li ((bF ga.w gb.w).2 c0)) (ha.w.mono (by decide)) (hb.w.mono (by decide))) (af (bH (i:=1) (j:=5) rfl rfl (li ((bF ga.x gb.x).2 c1)) (ha.x.mono (by decide)) (hb.x.mono (by decide))) (af (bH (i:=2) (j:=6) rfl rfl (lr (n:=24) rfl) (ha.y.mono (by decide)) (hb.y.mono (by decide))) ah)))))
     (ae (fi (n:=24) (c:=0) (t:=3) rfl (qw (mt (bF ga.y gb.y).1 c2))) (ai)) Tryz.func71 (by kernel_rfl) ⟨(ag (xs:=jM a b) (ks:=[0,1,2,3]) (vs:=a.cs) ⟨rfl,rfl,rfl,rfl,trivial⟩).2 ia,⟨(ag (xs:=jM a b) (ks:=[4,5,6,7]) (vs:=b.cs) ⟨rfl,rfl,rfl,rfl,trivial⟩).2 ib,trivial⟩⟩).mono ?_
    rintro e w' ⟨v,rfl,h1,h2⟩
    exact⟨congrArg Ending.returned h1,h2⟩
  ·refine(cRn (ρ:=frs (jN a b)++([.val (.int .i64 (a.x.cmp b.x))]:List Vp)) (args:=[row [0,1,2,3],row [4,5,6,7]]) (vs:=[va,vb]) (r:=.v (.one (.b false)))
    (af (cj (kq:=[0,1,2,3]) (q:=a) (kr:=[0,1,2,3]) ⟨rfl,rfl,rfl,rfl,trivial⟩ ⟨rfl,rfl,rfl,rfl,trivial⟩ (ha.mono (by decide))) (af (cj (kq:=[4,5,6,7]) (q:=b) (kr:=[4,5,6,7]) ⟨rfl,rfl,rfl,rfl,trivial⟩ ⟨rfl,rfl,rfl,rfl,trivial⟩ (hb.mono (by decide))) (af (bH (i:=0) (j:=4) rfl rfl (li ((bF ga.w gb.w).2 c0)) (ha.w.mono (by decide)) (hb.w.mono (by decide))) (af (bH (i:=1) (j:=5) rfl rfl (lr (n:=24) rfl) (ha.x.mono (by decide)) (hb.x.mono (by decide))) ah))))
    (ae (fi (n:=24) (c:=0) (t:=3) rfl (qw (mt (bF ga.x gb.x).1 c1))) (ai)) Tryz.func71 (by kernel_rfl) ⟨(ag (xs:=jN a b) (ks:=[0,1,2,3]) (vs:=a.cs) ⟨rfl,rfl,rfl,rfl,trivial⟩).2 ia,⟨(ag (xs:=jN a b) (ks:=[4,5,6,7]) (vs:=b.cs) ⟨rfl,rfl,rfl,rfl,trivial⟩).2 ib,trivial⟩⟩).mono ?_
   rintro e w' ⟨v,rfl,h1,h2⟩
   exact⟨congrArg Ending.returned h1,h2⟩
 ·refine(cRn (ρ:=frs (jO a b)++([.val (.int .i64 (a.w.cmp b.w))]:List Vp)) (args:=[row [0,1,2,3],row [4,5,6,7]]) (vs:=[va,vb]) (r:=.v (.one (.b false)))
   (af (cj (kq:=[0,1,2,3]) (q:=a) (kr:=[0,1,2,3]) ⟨rfl,rfl,rfl,rfl,trivial⟩ ⟨rfl,rfl,rfl,rfl,trivial⟩ (ha.mono (by decide))) (af (cj (kq:=[4,5,6,7]) (q:=b) (kr:=[4,5,6,7]) ⟨rfl,rfl,rfl,rfl,trivial⟩ ⟨rfl,rfl,rfl,rfl,trivial⟩ (hb.mono (by decide))) (af (bH (i:=0) (j:=4) rfl rfl (lr (n:=24) rfl) (ha.w.mono (by decide)) (hb.w.mono (by decide))) ah)))
   (ae (fi (n:=24) (c:=0) (t:=3) rfl (qw (mt (bF ga.w gb.w).1 c0))) (ai)) Tryz.func71 (by kernel_rfl) ⟨(ag (xs:=jO a b) (ks:=[0,1,2,3]) (vs:=a.cs) ⟨rfl,rfl,rfl,rfl,trivial⟩).2 ia,⟨(ag (xs:=jO a b) (ks:=[4,5,6,7]) (vs:=b.cs) ⟨rfl,rfl,rfl,rfl,trivial⟩).2 ib,trivial⟩⟩).mono ?_
  rintro e w' ⟨v,rfl,h1,h2⟩
  exact⟨congrArg Ending.returned h1,h2⟩
theorem xF {xs:List Fq} {ys:Rho} {ka:List Nat} {kb:List Nat} {a:Qq} {b:Qq} (aa:AtL xs ka a.cs) (ab:AtL xs kb b.cs) (ha:a.ok 100000000) (hb:b.ok 100000000) (e0:a≠b) (ga:a.comp) (gb:b.comp):OkI xs ys ⟨71,[row ka,row kb],.v (.one (.b false))⟩:=
 ⟨aC Tryz.func71 rfl rfl,fun B w vs hB h=>by
  match vs,h with
  | [va,vb],h=>
   refine(xE va vb a b w ((ag aa).1 h.1) ((ag ab).1 h.2.1) ha hb e0 ga gb).mono ?_
   rintro e w' ⟨rfl,h2⟩
   exact⟨_,rfl,rfl,h2⟩⟩
def qD (q:Qq):List Fq:=q.cs
theorem q_whole (vq:Value) (q:Qq) (w:World) (iq:fv w vq q) (hq:q.ok 1000000000):
  Calls Tryz.prog 129 #[vq] w fun e w'=>sf w q e w':=by
 refine(cRn (ρ:=frs (qD q)++ []) (args:=[row [0,1,2,3]]) (vs:=[vq]) (r:=.v (row [0,1,2,3]))
  (ah)
  ai Tryz.func129 (by kernel_rfl) ⟨(ag (xs:=qD q) (ks:=[0,1,2,3]) (vs:=q.cs) ⟨rfl,rfl,rfl,rfl,trivial⟩).2 iq,trivial⟩).mono ?_
 rintro e w' ⟨v,rfl,h1,h2⟩
 exact⟨v,rfl,(ag (xs:=qD q) (ks:=[0,1,2,3]) (vs:=q.cs) ⟨rfl,rfl,rfl,rfl,trivial⟩).1 h1,h2⟩
theorem mW {xs:List Fq} {ys:Rho} {kq:List Nat} {q:Qq} {kr:List Nat} (aq:AtL xs kq q.cs) (ar:AtL xs kr q.cs) (hq:q.ok 1000000000):OkI xs ys ⟨129,[row kq],.v (row kr)⟩:=
 ⟨aC Tryz.func129 rfl rfl,fun B w vs hB h=>by
  match vs,h with
  | [vq],h=>
   refine(q_whole vq q w ((ag aq).1 h.1) hq).mono ?_
   rintro e w' ⟨v,rfl,h1,h2⟩
   exact⟨v,rfl,(ag ar).2 h1,h2⟩⟩
def wl (q:Qq):List Fq:=q.cs
theorem q_Half1 (vq:Value) (q:Qq) (w:World) (iq:fv w vq q) (hq:q.ok 1000000000) (h0:q.w.p=0):
  Calls Tryz.prog 91 #[vq] w fun e w'=>bm w (.bool true) e w':=by
 refine(cRn (ρ:=frs (wl q)++ []) (args:=[row [0,1,2,3]]) (vs:=[vq]) (r:=.v (.one (.b true)))
  (af (a9 (i:=0) rfl (li (dR h0)) (hq.w.mono (by decide))) ah)
  ai Tryz.func91 (by kernel_rfl) ⟨(ag (xs:=wl q) (ks:=[0,1,2,3]) (vs:=q.cs) ⟨rfl,rfl,rfl,rfl,trivial⟩).2 iq,trivial⟩).mono ?_
 rintro e w' ⟨v,rfl,h1,h2⟩
 exact⟨congrArg Ending.returned h1,h2⟩
theorem I_Half1 {xs:List Fq} {ys:Rho} {kq:List Nat} {q:Qq} (aq:AtL xs kq q.cs) (hq:q.ok 1000000000) (h0:q.w.p=0):OkI xs ys ⟨91,[row kq],.v (.one (.b true))⟩:=
 ⟨aC Tryz.func91 rfl rfl,fun B w vs hB h=>by
  match vs,h with
  | [vq],h=>
   refine(q_Half1 vq q w ((ag aq).1 h.1) hq h0).mono ?_
   rintro e w' ⟨rfl,h2⟩
   exact⟨_,rfl,rfl,h2⟩⟩
def wm (q:Qq):List Fq:=q.cs
theorem q_Half0 (vq:Value) (q:Qq) (w:World) (iq:fv w vq q) (hq:q.ok 1000000000) (h0:q.w.p≠0):
  Calls Tryz.prog 91 #[vq] w fun e w'=>bm w (.bool false) e w':=by
 refine(cRn (ρ:=frs (wm q)++([.val (.int .i64 q.w.sgn)]:List Vp)) (args:=[row [0,1,2,3]]) (vs:=[vq]) (r:=.v (.one (.b false)))
  (af (a9 (i:=0) rfl (lr (n:=12) rfl) (hq.w.mono (by decide))) ah)
  (ae (iE (n:=12) (c:=0) (t:=3) rfl (lH h0)) (ai)) Tryz.func91 (by kernel_rfl) ⟨(ag (xs:=wm q) (ks:=[0,1,2,3]) (vs:=q.cs) ⟨rfl,rfl,rfl,rfl,trivial⟩).2 iq,trivial⟩).mono ?_
 rintro e w' ⟨v,rfl,h1,h2⟩
 exact⟨congrArg Ending.returned h1,h2⟩
theorem I_Half0 {xs:List Fq} {ys:Rho} {kq:List Nat} {q:Qq} (aq:AtL xs kq q.cs) (hq:q.ok 1000000000) (h0:q.w.p≠0):OkI xs ys ⟨91,[row kq],.v (.one (.b false))⟩:=
 ⟨aC Tryz.func91 rfl rfl,fun B w vs hB h=>by
  match vs,h with
  | [vq],h=>
   refine(q_Half0 vq q w ((ag aq).1 h.1) hq h0).mono ?_
   rintro e w' ⟨rfl,h2⟩
   exact⟨_,rfl,rfl,h2⟩⟩
theorem ok_id:Qq.id.ok 2:=⟨bB (by decide) (by decide),bB (by decide) (by decide),bB (by decide) (by decide),bB (by decide) (by decide)⟩
end Go.Proofs.YtfhinmdhjlmikaaGreat
namespace Go.Proofs.YtfhinmdhjlmikaaGreat
set_option linter.unusedSimpArgs false
set_option linter.unusedVariables false
set_option maxRecDepth 100000
open Go.RowKit
theorem kK {q:Qq} (h0:q.first.p≠0):q.canon=q.over q.first:=by unfold Qq.canon;rw[if_neg h0]
theorem Qq.ok.mk4 {a b c e:Fq} {d:Nat} (h1:a.ok d) (h2:b.ok d) (h3:c.ok d) (h4:e.ok d):(Qq.mk a b c e).ok d:=⟨h1,h2,h3,h4⟩
theorem xG {u:Fq} {c:Vq} {d e:Nat} (h1:u.ok d) (h2:c.ok e) (h0:(Qq.mk u c.x c.y c.z).first.p≠0):(Qq.mk u c.x c.y c.z).canon.ok (d+e+(d+e)):=(Qq.ok.mk4 (h1.mono (by omega)) (h2.x.mono (by omega)) (h2.y.mono (by omega)) (h2.z.mono (by omega)):Qq.ok (d+e) _).canon h0
def nV (q:Qq):List Fq:=q.cs
def lL (q:Qq):List Fq:=q.cs
def lM (q:Qq):List Fq:=q.cs
def lN (q:Qq):List Fq:=q.cs
theorem aac (vq:Value) (q:Qq) (w:World) (iq:fv w vq q) (hq:q.ok 1000000000):
  Calls Tryz.prog 76 #[vq] w fun e w'=>fU w q.first e w':=by
 by_cases c0:q.w.p=0
 ·by_cases c1:q.x.p=0
  ·by_cases c2:q.y.p=0
   ·have e1:q.first=q.z:=by simp[Qq.first,c0,c1,c2]
    rw[e1]
    refine(cRn (ρ:=frs (nV q)++ []) (args:=[row [0,1,2,3]]) (vs:=[vq]) (r:=.v (fr 3))
     (af (eN (i:=0) rfl (li (dR c0)) (hq.w.mono (by decide))) (af (eN (i:=1) rfl (li (dR c1)) (hq.x.mono (by decide))) (af (eN (i:=2) rfl (li (dR c2)) (hq.y.mono (by decide))) ah)))
     ai Tryz.func76 (by kernel_rfl) ⟨(ag (xs:=nV q) (ks:=[0,1,2,3]) (vs:=q.cs) ⟨rfl,rfl,rfl,rfl,trivial⟩).2 iq,trivial⟩).mono ?_
    rintro e w' ⟨v,rfl,h1,h2⟩
    exact⟨v,rfl,(aL (xs:=nV q) (k:=3) rfl).1 h1,h2⟩
   ·have e1:q.first=q.y:=by simp[Qq.first,c0,c1,c2]
    rw[e1]
    refine(cRn (ρ:=frs (lL q)++([.val (.int .i64 q.y.sgn)]:List Vp)) (args:=[row [0,1,2,3]]) (vs:=[vq]) (r:=.v (fr 2))
     (af (eN (i:=0) rfl (li (dR c0)) (hq.w.mono (by decide))) (af (eN (i:=1) rfl (li (dR c1)) (hq.x.mono (by decide))) (af (eN (i:=2) rfl (lr (n:=12) rfl) (hq.y.mono (by decide))) ah)))
     (ae (fi (n:=12) (c:=0) (t:=3) rfl (ft c2)) (ai)) Tryz.func76 (by kernel_rfl) ⟨(ag (xs:=lL q) (ks:=[0,1,2,3]) (vs:=q.cs) ⟨rfl,rfl,rfl,rfl,trivial⟩).2 iq,trivial⟩).mono ?_
    rintro e w' ⟨v,rfl,h1,h2⟩
    exact⟨v,rfl,(aL (xs:=lL q) (k:=2) rfl).1 h1,h2⟩
  ·have e1:q.first=q.x:=by simp[Qq.first,c0,c1]
   rw[e1]
   refine(cRn (ρ:=frs (lM q)++([.val (.int .i64 q.x.sgn)]:List Vp)) (args:=[row [0,1,2,3]]) (vs:=[vq]) (r:=.v (fr 1))
    (af (eN (i:=0) rfl (li (dR c0)) (hq.w.mono (by decide))) (af (eN (i:=1) rfl (lr (n:=12) rfl) (hq.x.mono (by decide))) ah))
    (ae (fi (n:=12) (c:=0) (t:=3) rfl (ft c1)) (ai)) Tryz.func76 (by kernel_rfl) ⟨(ag (xs:=lM q) (ks:=[0,1,2,3]) (vs:=q.cs) ⟨rfl,rfl,rfl,rfl,trivial⟩).2 iq,trivial⟩).mono ?_
   rintro e w' ⟨v,rfl,h1,h2⟩
   exact⟨v,rfl,(aL (xs:=lM q) (k:=1) rfl).1 h1,h2⟩
 ·have e1:q.first=q.w:=by simp[Qq.first,c0]
  rw[e1]
  refine(cRn (ρ:=frs (lN q)++([.val (.int .i64 q.w.sgn)]:List Vp)) (args:=[row [0,1,2,3]]) (vs:=[vq]) (r:=.v (fr 0))
   (af (eN (i:=0) rfl (lr (n:=12) rfl) (hq.w.mono (by decide))) ah)
   (ae (fi (n:=12) (c:=0) (t:=3) rfl (ft c0)) (ai)) Tryz.func76 (by kernel_rfl) ⟨(ag (xs:=lN q) (ks:=[0,1,2,3]) (vs:=q.cs) ⟨rfl,rfl,rfl,rfl,trivial⟩).2 iq,trivial⟩).mono ?_
  rintro e w' ⟨v,rfl,h1,h2⟩
  exact⟨v,rfl,(aL (xs:=lN q) (k:=0) rfl).1 h1,h2⟩
theorem aad {xs:List Fq} {ys:Rho} {kq:List Nat} {q:Qq} {ir:Nat} (aq:AtL xs kq q.cs) (ar:xs[ir]? =some q.first) (hq:q.ok 1000000000):OkI xs ys ⟨76,[row kq],.v (fr ir)⟩:=
 ⟨aC Tryz.func76 rfl rfl,fun B w vs hB h=>by
  match vs,h with
  | [vq],h=>
   refine(aac vq q w ((ag aq).1 h.1) hq).mono ?_
   rintro e w' ⟨v,rfl,h1,h2⟩
   exact⟨v,rfl,(aL ar).2 h1,h2⟩⟩
def gj (p0:Fq) (p1:Fq) (p2:Fq) (p3:Fq):List Fq:=[p0,p1,p2,p3,(p0.div p3),(p1.div p3),(p2.div p3),(p3.div p3)]
def eW (p0:Fq) (p1:Fq) (p2:Fq) (p3:Fq):List Fq:=[p0,p1,p2,p3,(p0.div p2),(p1.div p2),(p2.div p2),(p3.div p2)]
def eX (p0:Fq) (p1:Fq) (p2:Fq) (p3:Fq):List Fq:=[p0,p1,p2,p3,(p0.div p1),(p1.div p1),(p2.div p1),(p3.div p1)]
def eY (p0:Fq) (p1:Fq) (p2:Fq) (p3:Fq):List Fq:=[p0,p1,p2,p3,(p0.div p0),(p1.div p0),(p2.div p0),(p3.div p0)]
theorem aae (vp0 vp1 vp2 vp3:Value) (p0:Fq) (p1:Fq) (p2:Fq) (p3:Fq) (w:World) (ip0:IsQ w vp0 p0) (ip1:IsQ w vp1 p1) (ip2:IsQ w vp2 p2) (ip3:IsQ w vp3 p3) (hp0:p0.ok 100000000) (hp1:p1.ok 100000000) (hp2:p2.ok 100000000) (hp3:p3.ok 100000000) (h0:(Qq.mk p0 p1 p2 p3).first.p≠0):
  Calls Tryz.prog 126 #[vp0,vp1,vp2,vp3] w fun e w'=>t7 w (Qq.mk p0 p1 p2 p3).canon 0 e w':=by
 by_cases c0:p0.p=0
 ·by_cases c1:p1.p=0
  ·by_cases c2:p2.p=0
   ·by_cases c3:p3.p=0
    ·exact absurd (by simp[Qq.first,c0,c1,c2,c3]) h0
    ·have e1:(Qq.mk p0 p1 p2 p3).first=p3:=by simp[Qq.first,c0,c1,c2,c3]
     rw[kK h0,e1]
     refine(cRn (ρ:=frs (gj p0 p1 p2 p3)++([.val (.int .i64 p3.sgn)]:List Vp)) (args:=[fr 0,fr 1,fr 2,fr 3]) (vs:=[vp0,vp1,vp2,vp3]) (r:=.tup [row [4,5,6,7],.one (.i .i64 0)])
      (af (a9 (i:=0) rfl (li (dR c0)) (hp0.mono (by decide))) (af (a9 (i:=1) rfl (li (dR c1)) (hp1.mono (by decide))) (af (a9 (i:=2) rfl (li (dR c2)) (hp2.mono (by decide))) (af (a9 (i:=3) rfl (lr (n:=24) rfl) (hp3.mono (by decide))) (af (dv (i:=0) (j:=3) (k:=4) rfl rfl rfl (hp0.mono (by decide)) (hp3.mono (by decide)) c3) (af (dv (i:=1) (j:=3) (k:=5) rfl rfl rfl (hp1.mono (by decide)) (hp3.mono (by decide)) c3) (af (dv (i:=2) (j:=3) (k:=6) rfl rfl rfl (hp2.mono (by decide)) (hp3.mono (by decide)) c3) (af (dv (i:=3) (j:=3) (k:=7) rfl rfl rfl (hp3.mono (by decide)) (hp3.mono (by decide)) c3) (af (mW (kq:=[4,5,6,7]) (q:=(Qq.mk (p0.div p3) (p1.div p3) (p2.div p3) (p3.div p3))) (kr:=[4,5,6,7]) ⟨rfl,rfl,rfl,rfl,trivial⟩ ⟨rfl,rfl,rfl,rfl,trivial⟩ (⟨(hp0.div hp3 c3).mono (by decide),(hp1.div hp3 c3).mono (by decide),(hp2.div hp3 c3).mono (by decide),(hp3.div hp3 c3).mono (by decide)⟩:Qq.ok 1000000000 (Qq.mk (p0.div p3) (p1.div p3) (p2.div p3) (p3.div p3)))) ah)))))))))
      (ae (iE (n:=24) (c:=0) (t:=3) rfl (lH c3)) (ai)) Tryz.func126 (by kernel_rfl) ⟨(aL (xs:=gj p0 p1 p2 p3) (k:=0) rfl).2 ip0,⟨(aL (xs:=gj p0 p1 p2 p3) (k:=1) rfl).2 ip1,⟨(aL (xs:=gj p0 p1 p2 p3) (k:=2) rfl).2 ip2,⟨(aL (xs:=gj p0 p1 p2 p3) (k:=3) rfl).2 ip3,trivial⟩⟩⟩⟩).mono ?_
     rintro e w' ⟨v,rfl,⟨vs,rfl,h1⟩,h2⟩
     match vs,h1 with
     | [r,c],h1=>
      obtain⟨⟨cs,rfl,k1⟩,k2,_⟩:=h1
      have k2:c=_:=k2
      subst k2
      exact⟨_,rfl,(ag (xs:=gj p0 p1 p2 p3) (ks:=[4,5,6,7]) (vs:=[(p0.div p3),(p1.div p3),(p2.div p3),(p3.div p3)]) ⟨rfl,rfl,rfl,rfl,trivial⟩).1 ⟨_,rfl,k1⟩,h2⟩
   ·have e1:(Qq.mk p0 p1 p2 p3).first=p2:=by simp[Qq.first,c0,c1,c2]
    rw[kK h0,e1]
    refine(cRn (ρ:=frs (eW p0 p1 p2 p3)++([.val (.int .i64 p2.sgn)]:List Vp)) (args:=[fr 0,fr 1,fr 2,fr 3]) (vs:=[vp0,vp1,vp2,vp3]) (r:=.tup [row [4,5,6,7],.one (.i .i64 0)])
     (af (a9 (i:=0) rfl (li (dR c0)) (hp0.mono (by decide))) (af (a9 (i:=1) rfl (li (dR c1)) (hp1.mono (by decide))) (af (a9 (i:=2) rfl (lr (n:=24) rfl) (hp2.mono (by decide))) (af (dv (i:=0) (j:=2) (k:=4) rfl rfl rfl (hp0.mono (by decide)) (hp2.mono (by decide)) c2) (af (dv (i:=1) (j:=2) (k:=5) rfl rfl rfl (hp1.mono (by decide)) (hp2.mono (by decide)) c2) (af (dv (i:=2) (j:=2) (k:=6) rfl rfl rfl (hp2.mono (by decide)) (hp2.mono (by decide)) c2) (af (dv (i:=3) (j:=2) (k:=7) rfl rfl rfl (hp3.mono (by decide)) (hp2.mono (by decide)) c2) (af (mW (kq:=[4,5,6,7]) (q:=(Qq.mk (p0.div p2) (p1.div p2) (p2.div p2) (p3.div p2))) (kr:=[4,5,6,7]) ⟨rfl,rfl,rfl,rfl,trivial⟩ ⟨rfl,rfl,rfl,rfl,trivial⟩ (⟨(hp0.div hp2 c2).mono (by decide),(hp1.div hp2 c2).mono (by decide),(hp2.div hp2 c2).mono (by decide),(hp3.div hp2 c2).mono (by decide)⟩:Qq.ok 1000000000 (Qq.mk (p0.div p2) (p1.div p2) (p2.div p2) (p3.div p2)))) ah))))))))
     (ae (iE (n:=24) (c:=0) (t:=3) rfl (lH c2)) (ai)) Tryz.func126 (by kernel_rfl) ⟨(aL (xs:=eW p0 p1 p2 p3) (k:=0) rfl).2 ip0,⟨(aL (xs:=eW p0 p1 p2 p3) (k:=1) rfl).2 ip1,⟨(aL (xs:=eW p0 p1 p2 p3) (k:=2) rfl).2 ip2,⟨(aL (xs:=eW p0 p1 p2 p3) (k:=3) rfl).2 ip3,trivial⟩⟩⟩⟩).mono ?_
    rintro e w' ⟨v,rfl,⟨vs,rfl,h1⟩,h2⟩
    match vs,h1 with
    | [r,c],h1=>
     obtain⟨⟨cs,rfl,k1⟩,k2,_⟩:=h1
     have k2:c=_:=k2
     subst k2
     exact⟨_,rfl,(ag (xs:=eW p0 p1 p2 p3) (ks:=[4,5,6,7]) (vs:=[(p0.div p2),(p1.div p2),(p2.div p2),(p3.div p2)]) ⟨rfl,rfl,rfl,rfl,trivial⟩).1 ⟨_,rfl,k1⟩,h2⟩
  ·have e1:(Qq.mk p0 p1 p2 p3).first=p1:=by simp[Qq.first,c0,c1]
   rw[kK h0,e1]
   refine(cRn (ρ:=frs (eX p0 p1 p2 p3)++([.val (.int .i64 p1.sgn)]:List Vp)) (args:=[fr 0,fr 1,fr 2,fr 3]) (vs:=[vp0,vp1,vp2,vp3]) (r:=.tup [row [4,5,6,7],.one (.i .i64 0)])
    (af (a9 (i:=0) rfl (li (dR c0)) (hp0.mono (by decide))) (af (a9 (i:=1) rfl (lr (n:=24) rfl) (hp1.mono (by decide))) (af (dv (i:=0) (j:=1) (k:=4) rfl rfl rfl (hp0.mono (by decide)) (hp1.mono (by decide)) c1) (af (dv (i:=1) (j:=1) (k:=5) rfl rfl rfl (hp1.mono (by decide)) (hp1.mono (by decide)) c1) (af (dv (i:=2) (j:=1) (k:=6) rfl rfl rfl (hp2.mono (by decide)) (hp1.mono (by decide)) c1) (af (dv (i:=3) (j:=1) (k:=7) rfl rfl rfl (hp3.mono (by decide)) (hp1.mono (by decide)) c1) (af (mW (kq:=[4,5,6,7]) (q:=(Qq.mk (p0.div p1) (p1.div p1) (p2.div p1) (p3.div p1))) (kr:=[4,5,6,7]) ⟨rfl,rfl,rfl,rfl,trivial⟩ ⟨rfl,rfl,rfl,rfl,trivial⟩ (⟨(hp0.div hp1 c1).mono (by decide),(hp1.div hp1 c1).mono (by decide),(hp2.div hp1 c1).mono (by decide),(hp3.div hp1 c1).mono (by decide)⟩:Qq.ok 1000000000 (Qq.mk (p0.div p1) (p1.div p1) (p2.div p1) (p3.div p1)))) ah)))))))
    (ae (iE (n:=24) (c:=0) (t:=3) rfl (lH c1)) (ai)) Tryz.func126 (by kernel_rfl) ⟨(aL (xs:=eX p0 p1 p2 p3) (k:=0) rfl).2 ip0,⟨(aL (xs:=eX p0 p1 p2 p3) (k:=1) rfl).2 ip1,⟨(aL (xs:=eX p0 p1 p2 p3) (k:=2) rfl).2 ip2,⟨(aL (xs:=eX p0 p1 p2 p3) (k:=3) rfl).2 ip3,trivial⟩⟩⟩⟩).mono ?_
   rintro e w' ⟨v,rfl,⟨vs,rfl,h1⟩,h2⟩
   match vs,h1 with
   | [r,c],h1=>
    obtain⟨⟨cs,rfl,k1⟩,k2,_⟩:=h1
    have k2:c=_:=k2
    subst k2
    exact⟨_,rfl,(ag (xs:=eX p0 p1 p2 p3) (ks:=[4,5,6,7]) (vs:=[(p0.div p1),(p1.div p1),(p2.div p1),(p3.div p1)]) ⟨rfl,rfl,rfl,rfl,trivial⟩).1 ⟨_,rfl,k1⟩,h2⟩
 ·have e1:(Qq.mk p0 p1 p2 p3).first=p0:=by simp[Qq.first,c0]
  rw[kK h0,e1]
  refine(cRn (ρ:=frs (eY p0 p1 p2 p3)++([.val (.int .i64 p0.sgn)]:List Vp)) (args:=[fr 0,fr 1,fr 2,fr 3]) (vs:=[vp0,vp1,vp2,vp3]) (r:=.tup [row [4,5,6,7],.one (.i .i64 0)])
   (af (a9 (i:=0) rfl (lr (n:=24) rfl) (hp0.mono (by decide))) (af (dv (i:=0) (j:=0) (k:=4) rfl rfl rfl (hp0.mono (by decide)) (hp0.mono (by decide)) c0) (af (dv (i:=1) (j:=0) (k:=5) rfl rfl rfl (hp1.mono (by decide)) (hp0.mono (by decide)) c0) (af (dv (i:=2) (j:=0) (k:=6) rfl rfl rfl (hp2.mono (by decide)) (hp0.mono (by decide)) c0) (af (dv (i:=3) (j:=0) (k:=7) rfl rfl rfl (hp3.mono (by decide)) (hp0.mono (by decide)) c0) (af (mW (kq:=[4,5,6,7]) (q:=(Qq.mk (p0.div p0) (p1.div p0) (p2.div p0) (p3.div p0))) (kr:=[4,5,6,7]) ⟨rfl,rfl,rfl,rfl,trivial⟩ ⟨rfl,rfl,rfl,rfl,trivial⟩ (⟨(hp0.div hp0 c0).mono (by decide),(hp1.div hp0 c0).mono (by decide),(hp2.div hp0 c0).mono (by decide),(hp3.div hp0 c0).mono (by decide)⟩:Qq.ok 1000000000 (Qq.mk (p0.div p0) (p1.div p0) (p2.div p0) (p3.div p0)))) ah))))))
   (ae (iE (n:=24) (c:=0) (t:=3) rfl (lH c0)) (ai)) Tryz.func126 (by kernel_rfl) ⟨(aL (xs:=eY p0 p1 p2 p3) (k:=0) rfl).2 ip0,⟨(aL (xs:=eY p0 p1 p2 p3) (k:=1) rfl).2 ip1,⟨(aL (xs:=eY p0 p1 p2 p3) (k:=2) rfl).2 ip2,⟨(aL (xs:=eY p0 p1 p2 p3) (k:=3) rfl).2 ip3,trivial⟩⟩⟩⟩).mono ?_
  rintro e w' ⟨v,rfl,⟨vs,rfl,h1⟩,h2⟩
  match vs,h1 with
  | [r,c],h1=>
   obtain⟨⟨cs,rfl,k1⟩,k2,_⟩:=h1
   have k2:c=_:=k2
   subst k2
   exact⟨_,rfl,(ag (xs:=eY p0 p1 p2 p3) (ks:=[4,5,6,7]) (vs:=[(p0.div p0),(p1.div p0),(p2.div p0),(p3.div p0)]) ⟨rfl,rfl,rfl,rfl,trivial⟩).1 ⟨_,rfl,k1⟩,h2⟩
theorem aaf {xs:List Fq} {ys:Rho} {ip0:Nat} {ip1:Nat} {ip2:Nat} {ip3:Nat} {p0:Fq} {p1:Fq} {p2:Fq} {p3:Fq} {kr:List Nat} (ap0:xs[ip0]? =some p0) (ap1:xs[ip1]? =some p1) (ap2:xs[ip2]? =some p2) (ap3:xs[ip3]? =some p3) (ar:AtL xs kr (Qq.mk p0 p1 p2 p3).canon.cs) (hp0:p0.ok 100000000) (hp1:p1.ok 100000000) (hp2:p2.ok 100000000) (hp3:p3.ok 100000000) (h0:(Qq.mk p0 p1 p2 p3).first.p≠0):OkI xs ys ⟨126,[fr ip0,fr ip1,fr ip2,fr ip3],.tup [row kr,.one (.i .i64 0)]⟩:=
 ⟨aC Tryz.func126 rfl rfl,fun B w vs hB h=>by
  match vs,h with
  | [vp0,vp1,vp2,vp3],h=>
   refine(aae vp0 vp1 vp2 vp3 p0 p1 p2 p3 w ((aL ap0).1 h.1) ((aL ap1).1 h.2.1) ((aL ap2).1 h.2.2.1) ((aL ap3).1 h.2.2.2.1) hp0 hp1 hp2 hp3 h0).mono ?_
   rintro e w' ⟨v,rfl,h1,h2⟩
   exact⟨_,rfl,⟨[v,.int .i64 0],rfl,(ag ar).2 h1,rfl,trivial⟩,h2⟩⟩
def kL (u:Fq) (c:Vq):List Fq:=([u,c.x,c.y,c.z]++((Qq.mk u c.x c.y c.z).canon.cs))
theorem aag (vu vc:Value) (u:Fq) (c:Vq) (w:World) (iu:IsQ w vu u) (ic:dw w vc c) (hu:u.ok 100000000) (hc:c.ok 100000000) (h0:(Qq.mk u c.x c.y c.z).first.p≠0):
  Calls Tryz.prog 92 #[vu,vc] w fun e w'=>sf w (Qq.mk u c.x c.y c.z).canon e w':=by
 refine(cRn (ρ:=frs (kL u c)++ []) (args:=[fr 0,row [1,2,3]]) (vs:=[vu,vc]) (r:=.v (row [4,5,6,7]))
  (af (aaf (ip0:=0) (ip1:=1) (ip2:=2) (ip3:=3) (kr:=[4,5,6,7]) rfl rfl rfl rfl ⟨rfl,rfl,rfl,rfl,trivial⟩ (hu.mono (by decide)) (hc.x.mono (by decide)) (hc.y.mono (by decide)) (hc.z.mono (by decide)) h0) ah)
  ai Tryz.func92 (by kernel_rfl) ⟨(aL (xs:=kL u c) (k:=0) rfl).2 iu,⟨(ag (xs:=kL u c) (ks:=[1,2,3]) (vs:=[c.x,c.y,c.z]) ⟨rfl,rfl,rfl,trivial⟩).2 ic,trivial⟩⟩).mono ?_
 rintro e w' ⟨v,rfl,h1,h2⟩
 exact⟨v,rfl,(ag (xs:=kL u c) (ks:=[4,5,6,7]) (vs:=(Qq.mk u c.x c.y c.z).canon.cs) ⟨rfl,rfl,rfl,rfl,trivial⟩).1 h1,h2⟩
theorem nW {xs:List Fq} {ys:Rho} {iu:Nat} {kc:List Nat} {u:Fq} {c:Vq} {kr:List Nat} (au:xs[iu]? =some u) (ac:AtL xs kc [c.x,c.y,c.z]) (ar:AtL xs kr (Qq.mk u c.x c.y c.z).canon.cs) (hu:u.ok 100000000) (hc:c.ok 100000000) (h0:(Qq.mk u c.x c.y c.z).first.p≠0):OkI xs ys ⟨92,[fr iu,row kc],.v (row kr)⟩:=
 ⟨aC Tryz.func92 rfl rfl,fun B w vs hB h=>by
  match vs,h with
  | [vu,vc],h=>
   refine(aag vu vc u c w ((aL au).1 h.1) ((ag ac).1 h.2.1) hu hc h0).mono ?_
   rintro e w' ⟨v,rfl,h1,h2⟩
   exact⟨v,rfl,(ag ar).2 h1,h2⟩⟩
end Go.Proofs.YtfhinmdhjlmikaaGreat
namespace Go.Proofs.YtfhinmdhjlmikaaGreat
set_option linter.unusedSimpArgs false
set_option linter.unusedVariables false
set_option maxRecDepth 100000
open Go.RowKit
theorem Qq.ok.inv {q:Qq} {d:Nat} (h:q.ok d) (g:q.good):q.inv.ok (d+2+(d+2)):=by
 have h0:=qt g
 rw[←tY g.comp]at h0
 exact(Qq.ok.mk4 (h.w.mono (by omega)) (h.x.mul (bB (by decide) (by decide))) (h.y.mul (bB (by decide) (by decide))) (h.z.mul (bB (by decide) (by decide)))).canon h0
theorem inv_ne' {q:Qq} (g:q.good):(Qq.mk q.w (q.axis.scale (Fq.ofInt (-1))).x (q.axis.scale (Fq.ofInt (-1))).y (q.axis.scale (Fq.ofInt (-1))).z).first.p≠0:=by rw[tY g.comp];exact qt g
theorem Qq.ok.mulg {p q:Qq} {d e:Nat} (h:p.ok d) (k:q.ok e) (gp:p.good) (gq:q.good):(p.mul q).ok (44*(d+e)+14):=h.mul k (tX gp gq)
theorem Qq.ok.dd {q:Qq} {d:Nat} (h:q.ok d):q.dd.ok (44*d+7):=((h.w.mul h.w).sub (h.axis.dot h.axis)).mono (by omega)
theorem Qq.ok.nn {q:Qq} {d:Nat} (h:q.ok d):q.nn.ok (44*d+7):=((h.w.mul h.w).add (h.axis.dot h.axis)).mono (by omega)
theorem Qq.ok.rat {q:Qq} {d:Nat} (h:q.ok d) (g:q.good):q.rat.ok (44*d+9):=((bB (by decide) (by decide)).div h.nn (nn_ne g)).mono (by omega)
theorem Qq.ok.ap1 {q:Qq} {a:Vq} {d e:Nat} (h:q.ok d) (k:a.ok e):(q.ap1 a).ok (e+44*d+7):=(k.scale h.dd).mono (by omega)
theorem Qq.ok.ap2 {q:Qq} {a:Vq} {d e:Nat} (h:q.ok d) (k:a.ok e):(q.ap2 a).ok (11*d+10*e+5):=(h.axis.scale ((bB (by decide) (by decide)).mul (h.axis.dot k))).mono (by omega)
theorem Qq.ok.ap3 {q:Qq} {a:Vq} {d e:Nat} (h:q.ok d) (k:a.ok e):(q.ap3 a).ok (5*d+4*e+3):=((h.axis.cross k).scale ((bB (by decide) (by decide)).mul h.w)).mono (by omega)
theorem Qq.ok.app {q:Qq} {a:Vq} {d e:Nat} (h:q.ok d) (k:a.ok e) (g:q.good):(q.app a).ok (300*(d+e)+100):=((((h.ap1 k).add (h.ap2 k)).add (h.ap3 k)).scale (h.rat g)).mono (by omega)
def mX (p:Qq) (q:Qq):List Fq:=(p.cs++(q.cs++([p.axis.x,p.axis.y,p.axis.z,q.axis.x,q.axis.y,q.axis.z,(p.w.mul q.w),(p.axis.dot q.axis),((p.w.mul q.w).sub (p.axis.dot q.axis)),(q.axis.scale p.w).x,(q.axis.scale p.w).y,(q.axis.scale p.w).z,(p.axis.scale q.w).x,(p.axis.scale q.w).y,(p.axis.scale q.w).z,((q.axis.scale p.w).add (p.axis.scale q.w)).x,((q.axis.scale p.w).add (p.axis.scale q.w)).y,((q.axis.scale p.w).add (p.axis.scale q.w)).z,(p.axis.cross q.axis).x,(p.axis.cross q.axis).y,(p.axis.cross q.axis).z,(((q.axis.scale p.w).add (p.axis.scale q.w)).add (p.axis.cross q.axis)).x,(((q.axis.scale p.w).add (p.axis.scale q.w)).add (p.axis.cross q.axis)).y,(((q.axis.scale p.w).add (p.axis.scale q.w)).add (p.axis.cross q.axis)).z]++((Qq.mk ((p.w.mul q.w).sub (p.axis.dot q.axis)) (((q.axis.scale p.w).add (p.axis.scale q.w)).add (p.axis.cross q.axis)).x (((q.axis.scale p.w).add (p.axis.scale q.w)).add (p.axis.cross q.axis)).y (((q.axis.scale p.w).add (p.axis.scale q.w)).add (p.axis.cross q.axis)).z).canon.cs))))
theorem q_fMulT (vp vq:Value) (p:Qq) (q:Qq) (w:World) (ip:fv w vp p) (iq:fv w vq q) (hp:p.ok 100000) (hq:q.ok 100000) (gp:p.good) (gq:q.good):
  Calls Tryz.prog 89 #[vp,vq] w fun e w'=>sf w (p.mul q) e w':=by
 refine(cRn (ρ:=frs (mX p q)++ []) (args:=[row [0,1,2,3],row [4,5,6,7]]) (vs:=[vp,vq]) (r:=.v (row [32,33,34,35]))
  (af (qB (kq:=[0,1,2,3]) (q:=p) (kr:=[8,9,10]) ⟨rfl,rfl,rfl,rfl,trivial⟩ ⟨rfl,rfl,rfl,trivial⟩ (hp.mono (by decide))) (af (qB (kq:=[4,5,6,7]) (q:=q) (kr:=[11,12,13]) ⟨rfl,rfl,rfl,rfl,trivial⟩ ⟨rfl,rfl,rfl,trivial⟩ (hq.mono (by decide))) (af (nS (i:=0) (j:=4) (k:=14) rfl rfl rfl (hp.w.mono (by decide)) (hq.w.mono (by decide))) (af (I_vDot (ka:=[8,9,10]) (a:=p.axis) (kb:=[11,12,13]) (b:=q.axis) (ir:=15) ⟨rfl,rfl,rfl,trivial⟩ ⟨rfl,rfl,rfl,trivial⟩ rfl (hp.axis.mono (by decide)) (hq.axis.mono (by decide))) (af (nU (i:=14) (j:=15) (k:=16) rfl rfl rfl ((hp.w.mul hq.w).mono (by decide)) ((hp.axis.dot hq.axis).mono (by decide))) (af (iJ (ka:=[11,12,13]) (a:=q.axis) (ik:=0) (kr:=[17,18,19]) ⟨rfl,rfl,rfl,trivial⟩ rfl ⟨rfl,rfl,rfl,trivial⟩ (hq.axis.mono (by decide)) (hp.w.mono (by decide))) (af (iJ (ka:=[8,9,10]) (a:=p.axis) (ik:=4) (kr:=[20,21,22]) ⟨rfl,rfl,rfl,trivial⟩ rfl ⟨rfl,rfl,rfl,trivial⟩ (hp.axis.mono (by decide)) (hq.w.mono (by decide))) (af (ua (ka:=[17,18,19]) (a:=(q.axis.scale p.w)) (kb:=[20,21,22]) (b:=(p.axis.scale q.w)) (kr:=[23,24,25]) ⟨rfl,rfl,rfl,trivial⟩ ⟨rfl,rfl,rfl,trivial⟩ ⟨rfl,rfl,rfl,trivial⟩ ((hq.axis.scale hp.w).mono (by decide)) ((hp.axis.scale hq.w).mono (by decide))) (af (aab (ka:=[8,9,10]) (a:=p.axis) (kb:=[11,12,13]) (b:=q.axis) (kr:=[26,27,28]) ⟨rfl,rfl,rfl,trivial⟩ ⟨rfl,rfl,rfl,trivial⟩ ⟨rfl,rfl,rfl,trivial⟩ (hp.axis.mono (by decide)) (hq.axis.mono (by decide))) (af (ua (ka:=[23,24,25]) (a:=((q.axis.scale p.w).add (p.axis.scale q.w))) (kb:=[26,27,28]) (b:=(p.axis.cross q.axis)) (kr:=[29,30,31]) ⟨rfl,rfl,rfl,trivial⟩ ⟨rfl,rfl,rfl,trivial⟩ ⟨rfl,rfl,rfl,trivial⟩ (((hq.axis.scale hp.w).add (hp.axis.scale hq.w)).mono (by decide)) ((hp.axis.cross hq.axis).mono (by decide))) (af (nW (iu:=16) (kc:=[29,30,31]) (c:=(((q.axis.scale p.w).add (p.axis.scale q.w)).add (p.axis.cross q.axis))) (kr:=[32,33,34,35]) rfl ⟨rfl,rfl,rfl,trivial⟩ ⟨rfl,rfl,rfl,rfl,trivial⟩ (((hp.w.mul hq.w).sub (hp.axis.dot hq.axis)).mono (by decide)) ((((hq.axis.scale hp.w).add (hp.axis.scale hq.w)).add (hp.axis.cross hq.axis)).mono (by decide)) (tX gp gq)) ah)))))))))))
  ai Tryz.func89 (by kernel_rfl) ⟨(ag (xs:=mX p q) (ks:=[0,1,2,3]) (vs:=p.cs) ⟨rfl,rfl,rfl,rfl,trivial⟩).2 ip,⟨(ag (xs:=mX p q) (ks:=[4,5,6,7]) (vs:=q.cs) ⟨rfl,rfl,rfl,rfl,trivial⟩).2 iq,trivial⟩⟩).mono ?_
 rintro e w' ⟨v,rfl,h1,h2⟩
 exact⟨v,rfl,(ag (xs:=mX p q) (ks:=[32,33,34,35]) (vs:=(Qq.mk ((p.w.mul q.w).sub (p.axis.dot q.axis)) (((q.axis.scale p.w).add (p.axis.scale q.w)).add (p.axis.cross q.axis)).x (((q.axis.scale p.w).add (p.axis.scale q.w)).add (p.axis.cross q.axis)).y (((q.axis.scale p.w).add (p.axis.scale q.w)).add (p.axis.cross q.axis)).z).canon.cs) ⟨rfl,rfl,rfl,rfl,trivial⟩).1 h1,h2⟩
theorem qE {xs:List Fq} {ys:Rho} {kp:List Nat} {kq:List Nat} {p:Qq} {q:Qq} {kr:List Nat} (ap:AtL xs kp p.cs) (aq:AtL xs kq q.cs) (ar:AtL xs kr (p.mul q).cs) (hp:p.ok 100000) (hq:q.ok 100000) (gp:p.good) (gq:q.good):OkI xs ys ⟨89,[row kp,row kq],.v (row kr)⟩:=
 ⟨aC Tryz.func89 rfl rfl,fun B w vs hB h=>by
  match vs,h with
  | [vp,vq],h=>
   refine(q_fMulT vp vq p q w ((ag ap).1 h.1) ((ag aq).1 h.2.1) hp hq gp gq).mono ?_
   rintro e w' ⟨v,rfl,h1,h2⟩
   exact⟨v,rfl,(ag ar).2 h1,h2⟩⟩
def qF (q:Qq):List Fq:=(q.cs++([q.axis.x,q.axis.y,q.axis.z,(Fq.ofInt (-1)),(q.axis.scale (Fq.ofInt (-1))).x,(q.axis.scale (Fq.ofInt (-1))).y,(q.axis.scale (Fq.ofInt (-1))).z]++((Qq.mk q.w (q.axis.scale (Fq.ofInt (-1))).x (q.axis.scale (Fq.ofInt (-1))).y (q.axis.scale (Fq.ofInt (-1))).z).canon.cs)))
theorem q_fInvT (vq:Value) (q:Qq) (w:World) (iq:fv w vq q) (hq:q.ok 100000) (gq:q.good):
  Calls Tryz.prog 90 #[vq] w fun e w'=>sf w q.inv e w':=by
 refine(cRn (ρ:=frs (qF q)++ []) (args:=[row [0,1,2,3]]) (vs:=[vq]) (r:=.v (row [11,12,13,14]))
  (af (qB (kq:=[0,1,2,3]) (q:=q) (kr:=[4,5,6]) ⟨rfl,rfl,rfl,rfl,trivial⟩ ⟨rfl,rfl,rfl,trivial⟩ (hq.mono (by decide))) (af (fo (k:=7) rfl (by decide) (by decide)) (af (iJ (ka:=[4,5,6]) (a:=q.axis) (ik:=7) (kr:=[8,9,10]) ⟨rfl,rfl,rfl,trivial⟩ rfl ⟨rfl,rfl,rfl,trivial⟩ (hq.axis.mono (by decide)) ((bB (u:= -1) (by decide) (by decide)).mono (by decide))) (af (nW (iu:=0) (kc:=[8,9,10]) (c:=(q.axis.scale (Fq.ofInt (-1)))) (kr:=[11,12,13,14]) rfl ⟨rfl,rfl,rfl,trivial⟩ ⟨rfl,rfl,rfl,rfl,trivial⟩ (hq.w.mono (by decide)) ((hq.axis.scale (bB (u:= -1) (by decide) (by decide))).mono (by decide)) (inv_ne' gq)) ah))))
  ai Tryz.func90 (by kernel_rfl) ⟨(ag (xs:=qF q) (ks:=[0,1,2,3]) (vs:=q.cs) ⟨rfl,rfl,rfl,rfl,trivial⟩).2 iq,trivial⟩).mono ?_
 rintro e w' ⟨v,rfl,h1,h2⟩
 exact⟨v,rfl,(ag (xs:=qF q) (ks:=[11,12,13,14]) (vs:=(Qq.mk q.w (q.axis.scale (Fq.ofInt (-1))).x (q.axis.scale (Fq.ofInt (-1))).y (q.axis.scale (Fq.ofInt (-1))).z).canon.cs) ⟨rfl,rfl,rfl,rfl,trivial⟩).1 h1,h2⟩
theorem wn {xs:List Fq} {ys:Rho} {kq:List Nat} {q:Qq} {kr:List Nat} (aq:AtL xs kq q.cs) (ar:AtL xs kr q.inv.cs) (hq:q.ok 100000) (gq:q.good):OkI xs ys ⟨90,[row kq],.v (row kr)⟩:=
 ⟨aC Tryz.func90 rfl rfl,fun B w vs hB h=>by
  match vs,h with
  | [vq],h=>
   refine(q_fInvT vq q w ((ag aq).1 h.1) hq gq).mono ?_
   rintro e w' ⟨v,rfl,h1,h2⟩
   exact⟨v,rfl,(ag ar).2 h1,h2⟩⟩
end Go.Proofs.YtfhinmdhjlmikaaGreat
namespace Go.Proofs.YtfhinmdhjlmikaaGreat
set_option linter.unusedSimpArgs false
set_option linter.unusedVariables false
set_option maxRecDepth 100000
open Go.RowKit
theorem uc {x y z:Int} (l1: -9223372036854775808≤x) (r1:x<9223372036854775808) (l2: -9223372036854775808≤y) (r2:y<9223372036854775808) (l3: -9223372036854775808≤z) (r3:z<9223372036854775808):(Vq.of x y z).ok 2:=⟨bB l1 r1,bB l2 r2,bB l3 r3⟩
theorem ee {q:Qq} (g:q.good):q.first=Fq.ofInt 1:=mj g.comp.first (aN 1) (by rw[g.one,mV];rfl)
theorem good_ne {q:Qq} (g:q.good):q.first.p≠0:=by rw[ee g];decide
theorem nX {p q:Qq} {t:Fq} {d e f:Nat} (h:p.ok d) (k:q.ok e) (l:t.ok f) (gp:p.good) (gq:q.good) (vt:t.valid=true):(p.way (p.inv.mul q) t).ok (44*(d+((44*(d+2+(d+2)+e)+14+f+2)+(44*(d+2+(d+2)+e)+14+f+2)))+14):=by
 have D:=(h.inv gp).mulg k (cB gp) gq
 have S:=D.axis.scale l
 exact h.mulg ((Qq.ok.mk4 ((bB (by decide) (by decide)).mono (by omega)) (S.x.mono (by omega)) (S.y.mono (by omega)) (S.z.mono (by omega)):Qq.ok (44*(d+2+(d+2)+e)+14+f+2) _).canon jg) gp (fm (lG (iG (cB gp) gq).comp vt) jg)
end Go.Proofs.YtfhinmdhjlmikaaGreat
namespace Go.Proofs.YtfhinmdhjlmikaaGreat
set_option linter.unusedSimpArgs false
set_option linter.unusedVariables false
set_option maxRecDepth 100000
open Go.RowKit
theorem qG {q:Qq} (c:q.comp) (h:q.first=Fq.ofInt 1):q.good:=⟨c,by rw[h,mV];rfl⟩
def kM (p:Qq) (q:Qq) (m:Fq):List Fq:=(p.cs++(q.cs++([m]++(p.inv.cs++((p.inv.mul q).cs++([(Fq.ofInt 1),(p.inv.mul q).axis.x,(p.inv.mul q).axis.y,(p.inv.mul q).axis.z,((p.inv.mul q).axis.scale m).x,((p.inv.mul q).axis.scale m).y,((p.inv.mul q).axis.scale m).z]++((Qq.mk (Fq.ofInt 1) ((p.inv.mul q).axis.scale m).x ((p.inv.mul q).axis.scale m).y ((p.inv.mul q).axis.scale m).z).canon.cs++((p.mul (Qq.mk (Fq.ofInt 1) ((p.inv.mul q).axis.scale m).x ((p.inv.mul q).axis.scale m).y ((p.inv.mul q).axis.scale m).z).canon).cs))))))))
theorem q_fBtw1 (vp vq vm:Value) (p:Qq) (q:Qq) (m:Fq) (w:World) (ip:fv w vp p) (iq:fv w vq q) (im:IsQ w vm m) (hp:p.ok 100) (hq:q.ok 100) (hm:m.ok 100) (gp:p.good) (gq:q.good) (gm:m.valid=true) (hw:(p.inv.mul q).w.p≠0):
  Calls Tryz.prog 66 #[vp,vq,vm] w fun e w'=>t7 w (p.way (p.inv.mul q) m) 0 e w':=by
 refine(cRn (ρ:=frs (kM p q m)++ []) (args:=[row [0,1,2,3],row [4,5,6,7],fr 8]) (vs:=[vp,vq,vm]) (r:=.tup [row [28,29,30,31],.one (.i .i64 0)])
  (af (wn (kq:=[0,1,2,3]) (q:=p) (kr:=[9,10,11,12]) ⟨rfl,rfl,rfl,rfl,trivial⟩ ⟨rfl,rfl,rfl,rfl,trivial⟩ (hp.mono (by decide)) gp) (af (qE (kp:=[9,10,11,12]) (p:=p.inv) (kq:=[4,5,6,7]) (q:=q) (kr:=[13,14,15,16]) ⟨rfl,rfl,rfl,rfl,trivial⟩ ⟨rfl,rfl,rfl,rfl,trivial⟩ ⟨rfl,rfl,rfl,rfl,trivial⟩ ((hp.inv gp).mono (by decide)) (hq.mono (by decide)) (cB gp) gq) (af (I_Half0 (kq:=[13,14,15,16]) (q:=(p.inv.mul q)) ⟨rfl,rfl,rfl,rfl,trivial⟩ (((hp.inv gp).mulg hq (cB gp) gq).mono (by decide)) hw) (af (fo (k:=17) rfl (by decide) (by decide)) (af (qB (kq:=[13,14,15,16]) (q:=(p.inv.mul q)) (kr:=[18,19,20]) ⟨rfl,rfl,rfl,rfl,trivial⟩ ⟨rfl,rfl,rfl,trivial⟩ (((hp.inv gp).mulg hq (cB gp) gq).mono (by decide))) (af (iJ (ka:=[18,19,20]) (a:=(p.inv.mul q).axis) (ik:=8) (kr:=[21,22,23]) ⟨rfl,rfl,rfl,trivial⟩ rfl ⟨rfl,rfl,rfl,trivial⟩ (((hp.inv gp).mulg hq (cB gp) gq).axis.mono (by decide)) (hm.mono (by decide))) (af (nW (iu:=17) (kc:=[21,22,23]) (c:=((p.inv.mul q).axis.scale m)) (kr:=[24,25,26,27]) rfl ⟨rfl,rfl,rfl,trivial⟩ ⟨rfl,rfl,rfl,rfl,trivial⟩ ((bB (u:=1) (by decide) (by decide)).mono (by decide)) ((((hp.inv gp).mulg hq (cB gp) gq).axis.scale hm).mono (by decide)) jg) (af (qE (kp:=[0,1,2,3]) (p:=p) (kq:=[24,25,26,27]) (q:=(Qq.mk (Fq.ofInt 1) ((p.inv.mul q).axis.scale m).x ((p.inv.mul q).axis.scale m).y ((p.inv.mul q).axis.scale m).z).canon) (kr:=[28,29,30,31]) ⟨rfl,rfl,rfl,rfl,trivial⟩ ⟨rfl,rfl,rfl,rfl,trivial⟩ ⟨rfl,rfl,rfl,rfl,trivial⟩ (hp.mono (by decide)) ((xG (bB (u:=1) (by decide) (by decide)) (((hp.inv gp).mulg hq (cB gp) gq).axis.scale hm) jg).mono (by decide)) gp (fm (lG (iG (cB gp) gq).comp gm) jg)) ah))))))))
  ai Tryz.func66 (by kernel_rfl) ⟨(ag (xs:=kM p q m) (ks:=[0,1,2,3]) (vs:=p.cs) ⟨rfl,rfl,rfl,rfl,trivial⟩).2 ip,⟨(ag (xs:=kM p q m) (ks:=[4,5,6,7]) (vs:=q.cs) ⟨rfl,rfl,rfl,rfl,trivial⟩).2 iq,⟨(aL (xs:=kM p q m) (k:=8) rfl).2 im,trivial⟩⟩⟩).mono ?_
 rintro e w' ⟨v,rfl,⟨vs,rfl,h1⟩,h2⟩
 match vs,h1 with
 | [r,c],h1=>
  obtain⟨⟨cs,rfl,k1⟩,k2,_⟩:=h1
  have k2:c=_:=k2
  subst k2
  exact⟨_,rfl,(ag (xs:=kM p q m) (ks:=[28,29,30,31]) (vs:=(p.mul (Qq.mk (Fq.ofInt 1) ((p.inv.mul q).axis.scale m).x ((p.inv.mul q).axis.scale m).y ((p.inv.mul q).axis.scale m).z).canon).cs) ⟨rfl,rfl,rfl,rfl,trivial⟩).1 ⟨_,rfl,k1⟩,h2⟩
theorem I_fBtw1 {xs:List Fq} {ys:Rho} {kp:List Nat} {kq:List Nat} {im:Nat} {p:Qq} {q:Qq} {m:Fq} {kr:List Nat} (ap:AtL xs kp p.cs) (aq:AtL xs kq q.cs) (am:xs[im]? =some m) (ar:AtL xs kr (p.way (p.inv.mul q) m).cs) (hp:p.ok 100) (hq:q.ok 100) (hm:m.ok 100) (gp:p.good) (gq:q.good) (gm:m.valid=true) (hw:(p.inv.mul q).w.p≠0):OkI xs ys ⟨66,[row kp,row kq,fr im],.tup [row kr,.one (.i .i64 0)]⟩:=
 ⟨aC Tryz.func66 rfl rfl,fun B w vs hB h=>by
  match vs,h with
  | [vp,vq,vm],h=>
   refine(q_fBtw1 vp vq vm p q m w ((ag ap).1 h.1) ((ag aq).1 h.2.1) ((aL am).1 h.2.2.1) hp hq hm gp gq gm hw).mono ?_
   rintro e w' ⟨v,rfl,h1,h2⟩
   exact⟨_,rfl,⟨[v,.int .i64 0],rfl,(ag ar).2 h1,rfl,trivial⟩,h2⟩⟩
def mY (p:Qq) (q:Qq) (m:Fq):List Fq:=(p.cs++(q.cs++([m]++(p.inv.cs++((p.inv.mul q).cs++([(Fq.ofInt 1)]))))))
theorem q_fBtw4 (vp vq vm:Value) (p:Qq) (q:Qq) (m:Fq) (w:World) (ip:fv w vp p) (iq:fv w vq q) (im:IsQ w vm m) (hp:p.ok 100) (hq:q.ok 100) (hm:m.ok 100) (gp:p.good) (gq:q.good) (gm:m.valid=true) (hw:(p.inv.mul q).w.p=0) (h0:m.p≠0) (h1:m≠(Fq.ofInt 1)):
  Calls Tryz.prog 66 #[vp,vq,vm] w fun e w'=>t7 w Qq.zero 4 e w':=by
 refine(cRn (ρ:=frs (mY p q m)++([.val (.int .i64 m.sgn),.val (.int .i64 (m.cmp (Fq.ofInt 1)))]:List Vp)) (args:=[row [0,1,2,3],row [4,5,6,7],fr 8]) (vs:=[vp,vq,vm]) (r:=.tup [.agg [.b false,.sl0,.sl0,.b false,.sl0,.sl0,.b false,.sl0,.sl0,.b false,.sl0,.sl0],.one (.i .i64 4)])
  (af (wn (kq:=[0,1,2,3]) (q:=p) (kr:=[9,10,11,12]) ⟨rfl,rfl,rfl,rfl,trivial⟩ ⟨rfl,rfl,rfl,rfl,trivial⟩ (hp.mono (by decide)) gp) (af (qE (kp:=[9,10,11,12]) (p:=p.inv) (kq:=[4,5,6,7]) (q:=q) (kr:=[13,14,15,16]) ⟨rfl,rfl,rfl,rfl,trivial⟩ ⟨rfl,rfl,rfl,rfl,trivial⟩ ⟨rfl,rfl,rfl,rfl,trivial⟩ ((hp.inv gp).mono (by decide)) (hq.mono (by decide)) (cB gp) gq) (af (I_Half1 (kq:=[13,14,15,16]) (q:=(p.inv.mul q)) ⟨rfl,rfl,rfl,rfl,trivial⟩ (((hp.inv gp).mulg hq (cB gp) gq).mono (by decide)) hw) (af (a9 (i:=8) rfl (lr (n:=54) rfl) (hm.mono (by decide))) (af (fo (k:=17) rfl (by decide) (by decide)) (af (bH (i:=8) (j:=17) rfl rfl (lr (n:=55) rfl) (hm.mono (by decide)) ((bB (u:=1) (by decide) (by decide)).mono (by decide))) ah))))))
  (ae (iE (n:=54) (c:=0) (t:=3) rfl (lH h0)) (ae (iE (n:=55) (c:=0) (t:=3) rfl (iI (mt (bF gm (aN 1)).1 h1))) (ai))) Tryz.func66 (by kernel_rfl) ⟨(ag (xs:=mY p q m) (ks:=[0,1,2,3]) (vs:=p.cs) ⟨rfl,rfl,rfl,rfl,trivial⟩).2 ip,⟨(ag (xs:=mY p q m) (ks:=[4,5,6,7]) (vs:=q.cs) ⟨rfl,rfl,rfl,rfl,trivial⟩).2 iq,⟨(aL (xs:=mY p q m) (k:=8) rfl).2 im,trivial⟩⟩⟩).mono ?_
 rintro e w' ⟨v,rfl,⟨vs,rfl,h1⟩,h2⟩
 match vs,h1 with
 | [r,c],h1=>
  obtain⟨⟨cs,rfl,k1⟩,k2,_⟩:=h1
  have k2:c=_:=k2
  subst k2
  exact⟨_,rfl,⟨_,rfl,fu (n:=4) k1⟩,h2⟩
theorem I_fBtw4 {xs:List Fq} {ys:Rho} {kp:List Nat} {kq:List Nat} {im:Nat} {p:Qq} {q:Qq} {m:Fq} {kr:List Nat} (ap:AtL xs kp p.cs) (aq:AtL xs kq q.cs) (am:xs[im]? =some m) (ar:AtL xs kr Qq.zero.cs) (hp:p.ok 100) (hq:q.ok 100) (hm:m.ok 100) (gp:p.good) (gq:q.good) (gm:m.valid=true) (hw:(p.inv.mul q).w.p=0) (h0:m.p≠0) (h1:m≠(Fq.ofInt 1)):OkI xs ys ⟨66,[row kp,row kq,fr im],.tup [row kr,.one (.i .i64 4)]⟩:=
 ⟨aC Tryz.func66 rfl rfl,fun B w vs hB h=>by
  match vs,h with
  | [vp,vq,vm],h=>
   refine(q_fBtw4 vp vq vm p q m w ((ag ap).1 h.1) ((ag aq).1 h.2.1) ((aL am).1 h.2.2.1) hp hq hm gp gq gm hw h0 h1).mono ?_
   rintro e w' ⟨v,rfl,h1,h2⟩
   exact⟨_,rfl,⟨[v,.int .i64 4],rfl,(ag ar).2 h1,rfl,trivial⟩,h2⟩⟩
def nY (q:Qq):List Fq:=(q.cs++([(Fq.ofInt 1)]))
def ml (q:Qq):List Fq:=(q.cs++([(Fq.ofInt 1)]))
def mm (q:Qq):List Fq:=(q.cs++([(Fq.ofInt 1)]))
def mn (q:Qq):List Fq:=(q.cs++([(Fq.ofInt 1)]))
theorem nZ (vq:Value) (q:Qq) (w:World) (iq:fv w vq q) (hq:q.ok 1000000) (gq:q.good):
  Calls Tryz.prog 69 #[vq] w fun e w'=>bm w (.bool true) e w':=by
 by_cases c0:q.w.p=0
 ·by_cases c1:q.x.p=0
  ·by_cases c2:q.y.p=0
   ·by_cases c3:q.z.p=0
    ·exact absurd (by simp[Qq.first,c0,c1,c2,c3]) (good_ne gq)
    ·have e1:q.first=q.z:=by simp[Qq.first,c0,c1,c2,c3]
     refine(cRn (ρ:=frs (nY q)++([.val (.int .i64 q.z.sgn)]:List Vp)) (args:=[row [0,1,2,3]]) (vs:=[vq]) (r:=.v (.one (.b true)))
      (af (cj (kq:=[0,1,2,3]) (q:=q) (kr:=[0,1,2,3]) ⟨rfl,rfl,rfl,rfl,trivial⟩ ⟨rfl,rfl,rfl,rfl,trivial⟩ (hq.mono (by decide))) (af (aO (i:=0) (l:=.b true) rfl (lb gq.comp.w) (hq.w.mono (by decide))) (af (aO (i:=1) (l:=.b true) rfl (lb gq.comp.x) (hq.x.mono (by decide))) (af (aO (i:=2) (l:=.b true) rfl (lb gq.comp.y) (hq.y.mono (by decide))) (af (aO (i:=3) (l:=.b true) rfl (lb gq.comp.z) (hq.z.mono (by decide))) (af (a9 (i:=0) rfl (li (dR c0)) (hq.w.mono (by decide))) (af (a9 (i:=1) rfl (li (dR c1)) (hq.x.mono (by decide))) (af (a9 (i:=2) rfl (li (dR c2)) (hq.y.mono (by decide))) (af (a9 (i:=3) rfl (lr (n:=15) rfl) (hq.z.mono (by decide))) (af (fo (k:=4) rfl (by decide) (by decide)) (af (bH (i:=3) (j:=4) rfl rfl (li ((bF gq.comp.z (aN 1)).2 (e1.symm.trans (ee gq)))) (hq.z.mono (by decide)) ((bB (u:=1) (by decide) (by decide)).mono (by decide))) ah)))))))))))
      (ae (fi (n:=15) (c:=0) (t:=3) rfl (ft c3)) (ai)) Tryz.func69 (by kernel_rfl) ⟨(ag (xs:=nY q) (ks:=[0,1,2,3]) (vs:=q.cs) ⟨rfl,rfl,rfl,rfl,trivial⟩).2 iq,trivial⟩).mono ?_
     rintro e w' ⟨v,rfl,h1,h2⟩
     exact⟨congrArg Ending.returned h1,h2⟩
   ·have e1:q.first=q.y:=by simp[Qq.first,c0,c1,c2]
    refine(cRn (ρ:=frs (ml q)++([.val (.int .i64 q.y.sgn)]:List Vp)) (args:=[row [0,1,2,3]]) (vs:=[vq]) (r:=.v (.one (.b true)))
     (af (cj (kq:=[0,1,2,3]) (q:=q) (kr:=[0,1,2,3]) ⟨rfl,rfl,rfl,rfl,trivial⟩ ⟨rfl,rfl,rfl,rfl,trivial⟩ (hq.mono (by decide))) (af (aO (i:=0) (l:=.b true) rfl (lb gq.comp.w) (hq.w.mono (by decide))) (af (aO (i:=1) (l:=.b true) rfl (lb gq.comp.x) (hq.x.mono (by decide))) (af (aO (i:=2) (l:=.b true) rfl (lb gq.comp.y) (hq.y.mono (by decide))) (af (aO (i:=3) (l:=.b true) rfl (lb gq.comp.z) (hq.z.mono (by decide))) (af (a9 (i:=0) rfl (li (dR c0)) (hq.w.mono (by decide))) (af (a9 (i:=1) rfl (li (dR c1)) (hq.x.mono (by decide))) (af (a9 (i:=2) rfl (lr (n:=15) rfl) (hq.y.mono (by decide))) (af (fo (k:=4) rfl (by decide) (by decide)) (af (bH (i:=2) (j:=4) rfl rfl (li ((bF gq.comp.y (aN 1)).2 (e1.symm.trans (ee gq)))) (hq.y.mono (by decide)) ((bB (u:=1) (by decide) (by decide)).mono (by decide))) ah))))))))))
     (ae (fi (n:=15) (c:=0) (t:=3) rfl (ft c2)) (ai)) Tryz.func69 (by kernel_rfl) ⟨(ag (xs:=ml q) (ks:=[0,1,2,3]) (vs:=q.cs) ⟨rfl,rfl,rfl,rfl,trivial⟩).2 iq,trivial⟩).mono ?_
    rintro e w' ⟨v,rfl,h1,h2⟩
    exact⟨congrArg Ending.returned h1,h2⟩
  ·have e1:q.first=q.x:=by simp[Qq.first,c0,c1]
   refine(cRn (ρ:=frs (mm q)++([.val (.int .i64 q.x.sgn)]:List Vp)) (args:=[row [0,1,2,3]]) (vs:=[vq]) (r:=.v (.one (.b true)))
    (af (cj (kq:=[0,1,2,3]) (q:=q) (kr:=[0,1,2,3]) ⟨rfl,rfl,rfl,rfl,trivial⟩ ⟨rfl,rfl,rfl,rfl,trivial⟩ (hq.mono (by decide))) (af (aO (i:=0) (l:=.b true) rfl (lb gq.comp.w) (hq.w.mono (by decide))) (af (aO (i:=1) (l:=.b true) rfl (lb gq.comp.x) (hq.x.mono (by decide))) (af (aO (i:=2) (l:=.b true) rfl (lb gq.comp.y) (hq.y.mono (by decide))) (af (aO (i:=3) (l:=.b true) rfl (lb gq.comp.z) (hq.z.mono (by decide))) (af (a9 (i:=0) rfl (li (dR c0)) (hq.w.mono (by decide))) (af (a9 (i:=1) rfl (lr (n:=15) rfl) (hq.x.mono (by decide))) (af (fo (k:=4) rfl (by decide) (by decide)) (af (bH (i:=1) (j:=4) rfl rfl (li ((bF gq.comp.x (aN 1)).2 (e1.symm.trans (ee gq)))) (hq.x.mono (by decide)) ((bB (u:=1) (by decide) (by decide)).mono (by decide))) ah)))))))))
    (ae (fi (n:=15) (c:=0) (t:=3) rfl (ft c1)) (ai)) Tryz.func69 (by kernel_rfl) ⟨(ag (xs:=mm q) (ks:=[0,1,2,3]) (vs:=q.cs) ⟨rfl,rfl,rfl,rfl,trivial⟩).2 iq,trivial⟩).mono ?_
   rintro e w' ⟨v,rfl,h1,h2⟩
   exact⟨congrArg Ending.returned h1,h2⟩
 ·have e1:q.first=q.w:=by simp[Qq.first,c0]
  refine(cRn (ρ:=frs (mn q)++([.val (.int .i64 q.w.sgn)]:List Vp)) (args:=[row [0,1,2,3]]) (vs:=[vq]) (r:=.v (.one (.b true)))
   (af (cj (kq:=[0,1,2,3]) (q:=q) (kr:=[0,1,2,3]) ⟨rfl,rfl,rfl,rfl,trivial⟩ ⟨rfl,rfl,rfl,rfl,trivial⟩ (hq.mono (by decide))) (af (aO (i:=0) (l:=.b true) rfl (lb gq.comp.w) (hq.w.mono (by decide))) (af (aO (i:=1) (l:=.b true) rfl (lb gq.comp.x) (hq.x.mono (by decide))) (af (aO (i:=2) (l:=.b true) rfl (lb gq.comp.y) (hq.y.mono (by decide))) (af (aO (i:=3) (l:=.b true) rfl (lb gq.comp.z) (hq.z.mono (by decide))) (af (a9 (i:=0) rfl (lr (n:=15) rfl) (hq.w.mono (by decide))) (af (fo (k:=4) rfl (by decide) (by decide)) (af (bH (i:=0) (j:=4) rfl rfl (li ((bF gq.comp.w (aN 1)).2 (e1.symm.trans (ee gq)))) (hq.w.mono (by decide)) ((bB (u:=1) (by decide) (by decide)).mono (by decide))) ah))))))))
   (ae (fi (n:=15) (c:=0) (t:=3) rfl (ft c0)) (ai)) Tryz.func69 (by kernel_rfl) ⟨(ag (xs:=mn q) (ks:=[0,1,2,3]) (vs:=q.cs) ⟨rfl,rfl,rfl,rfl,trivial⟩).2 iq,trivial⟩).mono ?_
  rintro e w' ⟨v,rfl,h1,h2⟩
  exact⟨congrArg Ending.returned h1,h2⟩
theorem ud {xs:List Fq} {ys:Rho} {kq:List Nat} {q:Qq} (aq:AtL xs kq q.cs) (hq:q.ok 1000000) (gq:q.good):OkI xs ys ⟨69,[row kq],.v (.one (.b true))⟩:=
 ⟨aC Tryz.func69 rfl rfl,fun B w vs hB h=>by
  match vs,h with
  | [vq],h=>
   refine(nZ vq q w ((ag aq).1 h.1) hq gq).mono ?_
   rintro e w' ⟨rfl,h2⟩
   exact⟨_,rfl,rfl,h2⟩⟩
def n4 (q:Qq):List Fq:=q.cs
def mo (q:Qq):List Fq:=(q.cs++([(Fq.ofInt 1)]))
def mp (q:Qq):List Fq:=(q.cs++([(Fq.ofInt 1)]))
def mq (q:Qq):List Fq:=(q.cs++([(Fq.ofInt 1)]))
def mr (q:Qq):List Fq:=(q.cs++([(Fq.ofInt 1)]))
theorem ue (vq:Value) (q:Qq) (w:World) (iq:fv w vq q) (hq:q.ok 1000000) (gc:q.comp) (hf:q.first≠(Fq.ofInt 1)):
  Calls Tryz.prog 69 #[vq] w fun e w'=>bm w (.bool false) e w':=by
 by_cases c0:q.w.p=0
 ·by_cases c1:q.x.p=0
  ·by_cases c2:q.y.p=0
   ·by_cases c3:q.z.p=0
    ·refine(cRn (ρ:=frs (n4 q)++ []) (args:=[row [0,1,2,3]]) (vs:=[vq]) (r:=.v (.one (.b false)))
      (af (cj (kq:=[0,1,2,3]) (q:=q) (kr:=[0,1,2,3]) ⟨rfl,rfl,rfl,rfl,trivial⟩ ⟨rfl,rfl,rfl,rfl,trivial⟩ (hq.mono (by decide))) (af (aO (i:=0) (l:=.b true) rfl (lb gc.w) (hq.w.mono (by decide))) (af (aO (i:=1) (l:=.b true) rfl (lb gc.x) (hq.x.mono (by decide))) (af (aO (i:=2) (l:=.b true) rfl (lb gc.y) (hq.y.mono (by decide))) (af (aO (i:=3) (l:=.b true) rfl (lb gc.z) (hq.z.mono (by decide))) (af (a9 (i:=0) rfl (li (dR c0)) (hq.w.mono (by decide))) (af (a9 (i:=1) rfl (li (dR c1)) (hq.x.mono (by decide))) (af (a9 (i:=2) rfl (li (dR c2)) (hq.y.mono (by decide))) (af (a9 (i:=3) rfl (li (dR c3)) (hq.z.mono (by decide))) ah)))))))))
      ai Tryz.func69 (by kernel_rfl) ⟨(ag (xs:=n4 q) (ks:=[0,1,2,3]) (vs:=q.cs) ⟨rfl,rfl,rfl,rfl,trivial⟩).2 iq,trivial⟩).mono ?_
     rintro e w' ⟨v,rfl,h1,h2⟩
     exact⟨congrArg Ending.returned h1,h2⟩
    ·have e1:q.first=q.z:=by simp[Qq.first,c0,c1,c2,c3]
     refine(cRn (ρ:=frs (mo q)++([.val (.int .i64 q.z.sgn),.val (.int .i64 (q.z.cmp (Fq.ofInt 1)))]:List Vp)) (args:=[row [0,1,2,3]]) (vs:=[vq]) (r:=.v (.one (.b false)))
      (af (cj (kq:=[0,1,2,3]) (q:=q) (kr:=[0,1,2,3]) ⟨rfl,rfl,rfl,rfl,trivial⟩ ⟨rfl,rfl,rfl,rfl,trivial⟩ (hq.mono (by decide))) (af (aO (i:=0) (l:=.b true) rfl (lb gc.w) (hq.w.mono (by decide))) (af (aO (i:=1) (l:=.b true) rfl (lb gc.x) (hq.x.mono (by decide))) (af (aO (i:=2) (l:=.b true) rfl (lb gc.y) (hq.y.mono (by decide))) (af (aO (i:=3) (l:=.b true) rfl (lb gc.z) (hq.z.mono (by decide))) (af (a9 (i:=0) rfl (li (dR c0)) (hq.w.mono (by decide))) (af (a9 (i:=1) rfl (li (dR c1)) (hq.x.mono (by decide))) (af (a9 (i:=2) rfl (li (dR c2)) (hq.y.mono (by decide))) (af (a9 (i:=3) rfl (lr (n:=15) rfl) (hq.z.mono (by decide))) (af (fo (k:=4) rfl (by decide) (by decide)) (af (bH (i:=3) (j:=4) rfl rfl (lr (n:=16) rfl) (hq.z.mono (by decide)) ((bB (u:=1) (by decide) (by decide)).mono (by decide))) ah)))))))))))
      (ae (fi (n:=15) (c:=0) (t:=3) rfl (ft c3)) (ae (iE (n:=16) (c:=0) (t:=3) rfl (iI (mt (bF gc.z (aN 1)).1 (fun h=>hf (e1.trans h))))) (ai))) Tryz.func69 (by kernel_rfl) ⟨(ag (xs:=mo q) (ks:=[0,1,2,3]) (vs:=q.cs) ⟨rfl,rfl,rfl,rfl,trivial⟩).2 iq,trivial⟩).mono ?_
     rintro e w' ⟨v,rfl,h1,h2⟩
     exact⟨congrArg Ending.returned h1,h2⟩
   ·have e1:q.first=q.y:=by simp[Qq.first,c0,c1,c2]
    refine(cRn (ρ:=frs (mp q)++([.val (.int .i64 q.y.sgn),.val (.int .i64 (q.y.cmp (Fq.ofInt 1)))]:List Vp)) (args:=[row [0,1,2,3]]) (vs:=[vq]) (r:=.v (.one (.b false)))
     (af (cj (kq:=[0,1,2,3]) (q:=q) (kr:=[0,1,2,3]) ⟨rfl,rfl,rfl,rfl,trivial⟩ ⟨rfl,rfl,rfl,rfl,trivial⟩ (hq.mono (by decide))) (af (aO (i:=0) (l:=.b true) rfl (lb gc.w) (hq.w.mono (by decide))) (af (aO (i:=1) (l:=.b true) rfl (lb gc.x) (hq.x.mono (by decide))) (af (aO (i:=2) (l:=.b true) rfl (lb gc.y) (hq.y.mono (by decide))) (af (aO (i:=3) (l:=.b true) rfl (lb gc.z) (hq.z.mono (by decide))) (af (a9 (i:=0) rfl (li (dR c0)) (hq.w.mono (by decide))) (af (a9 (i:=1) rfl (li (dR c1)) (hq.x.mono (by decide))) (af (a9 (i:=2) rfl (lr (n:=15) rfl) (hq.y.mono (by decide))) (af (fo (k:=4) rfl (by decide) (by decide)) (af (bH (i:=2) (j:=4) rfl rfl (lr (n:=16) rfl) (hq.y.mono (by decide)) ((bB (u:=1) (by decide) (by decide)).mono (by decide))) ah))))))))))
     (ae (fi (n:=15) (c:=0) (t:=3) rfl (ft c2)) (ae (iE (n:=16) (c:=0) (t:=3) rfl (iI (mt (bF gc.y (aN 1)).1 (fun h=>hf (e1.trans h))))) (ai))) Tryz.func69 (by kernel_rfl) ⟨(ag (xs:=mp q) (ks:=[0,1,2,3]) (vs:=q.cs) ⟨rfl,rfl,rfl,rfl,trivial⟩).2 iq,trivial⟩).mono ?_
    rintro e w' ⟨v,rfl,h1,h2⟩
    exact⟨congrArg Ending.returned h1,h2⟩
  ·have e1:q.first=q.x:=by simp[Qq.first,c0,c1]
   refine(cRn (ρ:=frs (mq q)++([.val (.int .i64 q.x.sgn),.val (.int .i64 (q.x.cmp (Fq.ofInt 1)))]:List Vp)) (args:=[row [0,1,2,3]]) (vs:=[vq]) (r:=.v (.one (.b false)))
    (af (cj (kq:=[0,1,2,3]) (q:=q) (kr:=[0,1,2,3]) ⟨rfl,rfl,rfl,rfl,trivial⟩ ⟨rfl,rfl,rfl,rfl,trivial⟩ (hq.mono (by decide))) (af (aO (i:=0) (l:=.b true) rfl (lb gc.w) (hq.w.mono (by decide))) (af (aO (i:=1) (l:=.b true) rfl (lb gc.x) (hq.x.mono (by decide))) (af (aO (i:=2) (l:=.b true) rfl (lb gc.y) (hq.y.mono (by decide))) (af (aO (i:=3) (l:=.b true) rfl (lb gc.z) (hq.z.mono (by decide))) (af (a9 (i:=0) rfl (li (dR c0)) (hq.w.mono (by decide))) (af (a9 (i:=1) rfl (lr (n:=15) rfl) (hq.x.mono (by decide))) (af (fo (k:=4) rfl (by decide) (by decide)) (af (bH (i:=1) (j:=4) rfl rfl (lr (n:=16) rfl) (hq.x.mono (by decide)) ((bB (u:=1) (by decide) (by decide)).mono (by decide))) ah)))))))))
    (ae (fi (n:=15) (c:=0) (t:=3) rfl (ft c1)) (ae (iE (n:=16) (c:=0) (t:=3) rfl (iI (mt (bF gc.x (aN 1)).1 (fun h=>hf (e1.trans h))))) (ai))) Tryz.func69 (by kernel_rfl) ⟨(ag (xs:=mq q) (ks:=[0,1,2,3]) (vs:=q.cs) ⟨rfl,rfl,rfl,rfl,trivial⟩).2 iq,trivial⟩).mono ?_
   rintro e w' ⟨v,rfl,h1,h2⟩
   exact⟨congrArg Ending.returned h1,h2⟩
 ·have e1:q.first=q.w:=by simp[Qq.first,c0]
  refine(cRn (ρ:=frs (mr q)++([.val (.int .i64 q.w.sgn),.val (.int .i64 (q.w.cmp (Fq.ofInt 1)))]:List Vp)) (args:=[row [0,1,2,3]]) (vs:=[vq]) (r:=.v (.one (.b false)))
   (af (cj (kq:=[0,1,2,3]) (q:=q) (kr:=[0,1,2,3]) ⟨rfl,rfl,rfl,rfl,trivial⟩ ⟨rfl,rfl,rfl,rfl,trivial⟩ (hq.mono (by decide))) (af (aO (i:=0) (l:=.b true) rfl (lb gc.w) (hq.w.mono (by decide))) (af (aO (i:=1) (l:=.b true) rfl (lb gc.x) (hq.x.mono (by decide))) (af (aO (i:=2) (l:=.b true) rfl (lb gc.y) (hq.y.mono (by decide))) (af (aO (i:=3) (l:=.b true) rfl (lb gc.z) (hq.z.mono (by decide))) (af (a9 (i:=0) rfl (lr (n:=15) rfl) (hq.w.mono (by decide))) (af (fo (k:=4) rfl (by decide) (by decide)) (af (bH (i:=0) (j:=4) rfl rfl (lr (n:=16) rfl) (hq.w.mono (by decide)) ((bB (u:=1) (by decide) (by decide)).mono (by decide))) ah))))))))
   (ae (fi (n:=15) (c:=0) (t:=3) rfl (ft c0)) (ae (iE (n:=16) (c:=0) (t:=3) rfl (iI (mt (bF gc.w (aN 1)).1 (fun h=>hf (e1.trans h))))) (ai))) Tryz.func69 (by kernel_rfl) ⟨(ag (xs:=mr q) (ks:=[0,1,2,3]) (vs:=q.cs) ⟨rfl,rfl,rfl,rfl,trivial⟩).2 iq,trivial⟩).mono ?_
  rintro e w' ⟨v,rfl,h1,h2⟩
  exact⟨congrArg Ending.returned h1,h2⟩
def n5 (q:Qq):List Fq:=(q.cs++([q.first,(Fq.ofInt 1)]))
theorem uf (vq:Value) (q:Qq) (w:World) (iq:fv w vq q) (hq:q.ok 1000000) (gq:q.good):
  Calls Tryz.prog 51 #[vq] w fun e w'=>bm w (.bool true) e w':=by
 refine(cRn (ρ:=frs (n5 q)++ []) (args:=[row [0,1,2,3]]) (vs:=[vq]) (r:=.v (.one (.b true)))
  (af (fq (i:=0) (l:=.b true) rfl (lb gq.comp.w) (hq.w.mono (by decide))) (af (fq (i:=1) (l:=.b true) rfl (lb gq.comp.x) (hq.x.mono (by decide))) (af (fq (i:=2) (l:=.b true) rfl (lb gq.comp.y) (hq.y.mono (by decide))) (af (fq (i:=3) (l:=.b true) rfl (lb gq.comp.z) (hq.z.mono (by decide))) (af (aad (kq:=[0,1,2,3]) (q:=q) (ir:=4) ⟨rfl,rfl,rfl,rfl,trivial⟩ rfl (hq.mono (by decide))) (af (dQ (k:=5) rfl (by decide) (by decide)) (af (eO (i:=4) (j:=5) (l:=.b true) rfl rfl (lb (Fq.same_iff.2 (ee gq))) (hq.first.mono (by decide)).p (hq.first.mono (by decide)).q ((bB (u:=1) (by decide) (by decide)).mono (by decide)).p ((bB (u:=1) (by decide) (by decide)).mono (by decide)).q) ah)))))))
  ai Tryz.func51 (by kernel_rfl) ⟨(ag (xs:=n5 q) (ks:=[0,1,2,3]) (vs:=q.cs) ⟨rfl,rfl,rfl,rfl,trivial⟩).2 iq,trivial⟩).mono ?_
 rintro e w' ⟨v,rfl,h1,h2⟩
 exact⟨congrArg Ending.returned h1,h2⟩
theorem ug {xs:List Fq} {ys:Rho} {kq:List Nat} {q:Qq} (aq:AtL xs kq q.cs) (hq:q.ok 1000000) (gq:q.good):OkI xs ys ⟨51,[row kq],.v (.one (.b true))⟩:=
 ⟨aC Tryz.func51 rfl rfl,fun B w vs hB h=>by
  match vs,h with
  | [vq],h=>
   refine(uf vq q w ((ag aq).1 h.1) hq gq).mono ?_
   rintro e w' ⟨rfl,h2⟩
   exact⟨_,rfl,rfl,h2⟩⟩
end Go.Proofs.YtfhinmdhjlmikaaGreat
