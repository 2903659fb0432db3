/- Rotations, by the executor. Make and canonical of rotations, by the executor. -/
import Derived.Test.YthefidbgjgfeiaaGreatP13
namespace Go.Proofs.YthefidbgjgfeiaaGreat
set_option linter.unusedSimpArgs false
set_option linter.unusedVariables false
set_option maxRecDepth 100000
open Go.RowKit
/-- Agreement of all parts. -/
def Vq.same (a b : Vq) : Bool := a.x.same b.x && (a.y.same b.y && a.z.same b.z)
def Qq.same (p q : Qq) : Bool := p.w.same q.w && (p.x.same q.x && (p.y.same q.y && p.z.same q.z))
theorem Vq.same_iff {a b : Vq} : a.same b = true ↔ a = b := by
  obtain ⟨a1, a2, a3⟩ := a; obtain ⟨b1, b2, b3⟩ := b
  simp [Vq.same, Fq.same_iff]
theorem Qq.same_iff {a b : Qq} : a.same b = true ↔ a = b := by
  obtain ⟨a1, a2, a3, a4⟩ := a; obtain ⟨b1, b2, b3, b4⟩ := b
  simp [Qq.same, Fq.same_iff]
def xrDotX (a : Vq) (b : Vq) : List Fq := [a.x, a.y, a.z, b.x, b.y, b.z, (a.x.mul b.x), (a.y.mul b.y), (a.z.mul b.z), ((a.y.mul b.y).add (a.z.mul b.z)), ((a.x.mul b.x).add ((a.y.mul b.y).add (a.z.mul b.z)))]
theorem q_rDot (va vb : Value) (a : Vq) (b : Vq) (w : World) (ia : IsVq w va a) (ib : IsVq w vb b) (ha : a.ok 100000000) (hb : b.ok 100000000) :
    Calls Tryz.prog 26 #[va, vb] w fun e w' => RetQ w (a.dot b) e w' := by
  refine (calls_runFn (ρ := frs (xrDotX a b) ++ []) (w := w) (fuel := 300) (args := [row [0, 1, 2], row [3, 4, 5]]) (vs := [va, vb]) (r := .v (fr 10))
    (il_cons (I_rMul (i := 0) (j := 3) (k := 6) rfl rfl rfl (ha.x.mono (by decide)) (hb.x.mono (by decide))) (il_cons (I_rMul (i := 1) (j := 4) (k := 7) rfl rfl rfl (ha.y.mono (by decide)) (hb.y.mono (by decide))) (il_cons (I_rMul (i := 2) (j := 5) (k := 8) rfl rfl rfl (ha.z.mono (by decide)) (hb.z.mono (by decide))) (il_cons (I_rAdd (i := 7) (j := 8) (k := 9) rfl rfl rfl ((ha.y.mul hb.y).mono (by decide)) ((ha.z.mul hb.z).mono (by decide))) (il_cons (I_rAdd (i := 6) (j := 9) (k := 10) rfl rfl rfl ((ha.x.mul hb.x).mono (by decide)) (((ha.y.mul hb.y).add (ha.z.mul hb.z)).mono (by decide))) il_nil)))))
    ol_nil (by kernel_rfl) Tryz.func26 (by kernel_rfl) ⟨(row_isL (xs := xrDotX a b) (ks := [0, 1, 2]) (vs := [a.x, a.y, a.z]) ⟨rfl, rfl, rfl, trivial⟩).2 ia, ⟨(row_isL (xs := xrDotX a b) (ks := [3, 4, 5]) (vs := [b.x, b.y, b.z]) ⟨rfl, rfl, rfl, trivial⟩).2 ib, trivial⟩⟩).mono ?_
  rintro e w' ⟨v, rfl, h1, h2⟩
  exact ⟨v, rfl, (fr_isQ (xs := xrDotX a b) (k := 10) rfl).1 h1, h2⟩
theorem I_rDot {xs : List Fq} {ys : Rho} {ka : List Nat} {kb : List Nat} {a : Vq} {b : Vq} {ir : Nat} (aa : AtL xs ka [a.x, a.y, a.z]) (ab : AtL xs kb [b.x, b.y, b.z]) (ar : xs[ir]? = some (a.dot b)) (ha : a.ok 100000000) (hb : b.ok 100000000) : OkI xs ys ⟨26, [row ka, row kb], .v (fr ir)⟩ :=
  ⟨enters Tryz.func26 rfl rfl, fun B w vs h => by
    match vs, h with
    | [va, vb], h =>
      refine (q_rDot va vb a b w ((row_isL aa).1 h.1) ((row_isL ab).1 h.2.1) ha hb).mono ?_
      rintro e w' ⟨v, rfl, h1, h2⟩
      exact ⟨v, rfl, (fr_isQ ar).2 h1, h2⟩⟩
def xrCrossX (a : Vq) (b : Vq) : List Fq := [a.x, a.y, a.z, b.x, b.y, b.z, (a.y.mul b.z), (a.z.mul b.y), ((a.y.mul b.z).sub (a.z.mul b.y)), (a.z.mul b.x), (a.x.mul b.z), ((a.z.mul b.x).sub (a.x.mul b.z)), (a.x.mul b.y), (a.y.mul b.x), ((a.x.mul b.y).sub (a.y.mul b.x))]
theorem q_rCross (va vb : Value) (a : Vq) (b : Vq) (w : World) (ia : IsVq w va a) (ib : IsVq w vb b) (ha : a.ok 100000000) (hb : b.ok 100000000) :
    Calls Tryz.prog 31 #[va, vb] w fun e w' => RetVq w (a.cross b) e w' := by
  refine (calls_runFn (ρ := frs (xrCrossX a b) ++ []) (w := w) (fuel := 300) (args := [row [0, 1, 2], row [3, 4, 5]]) (vs := [va, vb]) (r := .v (row [8, 11, 14]))
    (il_cons (I_rMul (i := 1) (j := 5) (k := 6) rfl rfl rfl (ha.y.mono (by decide)) (hb.z.mono (by decide))) (il_cons (I_rMul (i := 2) (j := 4) (k := 7) rfl rfl rfl (ha.z.mono (by decide)) (hb.y.mono (by decide))) (il_cons (I_rSub (i := 6) (j := 7) (k := 8) rfl rfl rfl ((ha.y.mul hb.z).mono (by decide)) ((ha.z.mul hb.y).mono (by decide))) (il_cons (I_rMul (i := 2) (j := 3) (k := 9) rfl rfl rfl (ha.z.mono (by decide)) (hb.x.mono (by decide))) (il_cons (I_rMul (i := 0) (j := 5) (k := 10) rfl rfl rfl (ha.x.mono (by decide)) (hb.z.mono (by decide))) (il_cons (I_rSub (i := 9) (j := 10) (k := 11) rfl rfl rfl ((ha.z.mul hb.x).mono (by decide)) ((ha.x.mul hb.z).mono (by decide))) (il_cons (I_rMul (i := 0) (j := 4) (k := 12) rfl rfl rfl (ha.x.mono (by decide)) (hb.y.mono (by decide))) (il_cons (I_rMul (i := 1) (j := 3) (k := 13) rfl rfl rfl (ha.y.mono (by decide)) (hb.x.mono (by decide))) (il_cons (I_rSub (i := 12) (j := 13) (k := 14) rfl rfl rfl ((ha.x.mul hb.y).mono (by decide)) ((ha.y.mul hb.x).mono (by decide))) il_nil)))))))))
    ol_nil (by kernel_rfl) Tryz.func31 (by kernel_rfl) ⟨(row_isL (xs := xrCrossX a b) (ks := [0, 1, 2]) (vs := [a.x, a.y, a.z]) ⟨rfl, rfl, rfl, trivial⟩).2 ia, ⟨(row_isL (xs := xrCrossX a b) (ks := [3, 4, 5]) (vs := [b.x, b.y, b.z]) ⟨rfl, rfl, rfl, trivial⟩).2 ib, trivial⟩⟩).mono ?_
  rintro e w' ⟨v, rfl, h1, h2⟩
  exact ⟨v, rfl, (row_isL (xs := xrCrossX a b) (ks := [8, 11, 14]) (vs := [((a.y.mul b.z).sub (a.z.mul b.y)), ((a.z.mul b.x).sub (a.x.mul b.z)), ((a.x.mul b.y).sub (a.y.mul b.x))]) ⟨rfl, rfl, rfl, trivial⟩).1 h1, h2⟩
theorem I_rCross {xs : List Fq} {ys : Rho} {ka : List Nat} {kb : List Nat} {a : Vq} {b : Vq} {kr : List Nat} (aa : AtL xs ka [a.x, a.y, a.z]) (ab : AtL xs kb [b.x, b.y, b.z]) (ar : AtL xs kr [(a.cross b).x, (a.cross b).y, (a.cross b).z]) (ha : a.ok 100000000) (hb : b.ok 100000000) : OkI xs ys ⟨31, [row ka, row kb], .v (row kr)⟩ :=
  ⟨enters Tryz.func31 rfl rfl, fun B w vs h => by
    match vs, h with
    | [va, vb], h =>
      refine (q_rCross va vb a b w ((row_isL aa).1 h.1) ((row_isL ab).1 h.2.1) ha hb).mono ?_
      rintro e w' ⟨v, rfl, h1, h2⟩
      exact ⟨v, rfl, (row_isL ar).2 h1, h2⟩⟩
def xrScaleX (a : Vq) (k : Fq) : List Fq := [a.x, a.y, a.z, k, (a.x.mul k), (a.y.mul k), (a.z.mul k)]
theorem q_rScale (va vk : Value) (a : Vq) (k : Fq) (w : World) (ia : IsVq w va a) (ik : IsQ w vk k) (ha : a.ok 100000000) (hk : k.ok 100000000) :
    Calls Tryz.prog 29 #[va, vk] w fun e w' => RetVq w (a.scale k) e w' := by
  refine (calls_runFn (ρ := frs (xrScaleX a k) ++ []) (w := w) (fuel := 300) (args := [row [0, 1, 2], fr 3]) (vs := [va, vk]) (r := .v (row [4, 5, 6]))
    (il_cons (I_rMul (i := 0) (j := 3) (k := 4) rfl rfl rfl (ha.x.mono (by decide)) (hk.mono (by decide))) (il_cons (I_rMul (i := 1) (j := 3) (k := 5) rfl rfl rfl (ha.y.mono (by decide)) (hk.mono (by decide))) (il_cons (I_rMul (i := 2) (j := 3) (k := 6) rfl rfl rfl (ha.z.mono (by decide)) (hk.mono (by decide))) il_nil)))
    ol_nil (by kernel_rfl) Tryz.func29 (by kernel_rfl) ⟨(row_isL (xs := xrScaleX a k) (ks := [0, 1, 2]) (vs := [a.x, a.y, a.z]) ⟨rfl, rfl, rfl, trivial⟩).2 ia, ⟨(fr_isQ (xs := xrScaleX a k) (k := 3) rfl).2 ik, trivial⟩⟩).mono ?_
  rintro e w' ⟨v, rfl, h1, h2⟩
  exact ⟨v, rfl, (row_isL (xs := xrScaleX a k) (ks := [4, 5, 6]) (vs := [(a.x.mul k), (a.y.mul k), (a.z.mul k)]) ⟨rfl, rfl, rfl, trivial⟩).1 h1, h2⟩
theorem I_rScale {xs : List Fq} {ys : Rho} {ka : List Nat} {ik : Nat} {a : Vq} {k : Fq} {kr : List Nat} (aa : AtL xs ka [a.x, a.y, a.z]) (ak : xs[ik]? = some k) (ar : AtL xs kr [(a.scale k).x, (a.scale k).y, (a.scale k).z]) (ha : a.ok 100000000) (hk : k.ok 100000000) : OkI xs ys ⟨29, [row ka, fr ik], .v (row kr)⟩ :=
  ⟨enters Tryz.func29 rfl rfl, fun B w vs h => by
    match vs, h with
    | [va, vk], h =>
      refine (q_rScale va vk a k w ((row_isL aa).1 h.1) ((fr_isQ ak).1 h.2.1) ha hk).mono ?_
      rintro e w' ⟨v, rfl, h1, h2⟩
      exact ⟨v, rfl, (row_isL ar).2 h1, h2⟩⟩
def xrSumX (a : Vq) (b : Vq) : List Fq := [a.x, a.y, a.z, b.x, b.y, b.z, (a.x.add b.x), (a.y.add b.y), (a.z.add b.z)]
theorem q_rSum (va vb : Value) (a : Vq) (b : Vq) (w : World) (ia : IsVq w va a) (ib : IsVq w vb b) (ha : a.ok 100000000) (hb : b.ok 100000000) :
    Calls Tryz.prog 32 #[va, vb] w fun e w' => RetVq w (a.add b) e w' := by
  refine (calls_runFn (ρ := frs (xrSumX a b) ++ []) (w := w) (fuel := 300) (args := [row [0, 1, 2], row [3, 4, 5]]) (vs := [va, vb]) (r := .v (row [6, 7, 8]))
    (il_cons (I_rAdd (i := 0) (j := 3) (k := 6) rfl rfl rfl (ha.x.mono (by decide)) (hb.x.mono (by decide))) (il_cons (I_rAdd (i := 1) (j := 4) (k := 7) rfl rfl rfl (ha.y.mono (by decide)) (hb.y.mono (by decide))) (il_cons (I_rAdd (i := 2) (j := 5) (k := 8) rfl rfl rfl (ha.z.mono (by decide)) (hb.z.mono (by decide))) il_nil)))
    ol_nil (by kernel_rfl) Tryz.func32 (by kernel_rfl) ⟨(row_isL (xs := xrSumX a b) (ks := [0, 1, 2]) (vs := [a.x, a.y, a.z]) ⟨rfl, rfl, rfl, trivial⟩).2 ia, ⟨(row_isL (xs := xrSumX a b) (ks := [3, 4, 5]) (vs := [b.x, b.y, b.z]) ⟨rfl, rfl, rfl, trivial⟩).2 ib, trivial⟩⟩).mono ?_
  rintro e w' ⟨v, rfl, h1, h2⟩
  exact ⟨v, rfl, (row_isL (xs := xrSumX a b) (ks := [6, 7, 8]) (vs := [(a.x.add b.x), (a.y.add b.y), (a.z.add b.z)]) ⟨rfl, rfl, rfl, trivial⟩).1 h1, h2⟩
theorem I_rSum {xs : List Fq} {ys : Rho} {ka : List Nat} {kb : List Nat} {a : Vq} {b : Vq} {kr : List Nat} (aa : AtL xs ka [a.x, a.y, a.z]) (ab : AtL xs kb [b.x, b.y, b.z]) (ar : AtL xs kr [(a.add b).x, (a.add b).y, (a.add b).z]) (ha : a.ok 100000000) (hb : b.ok 100000000) : OkI xs ys ⟨32, [row ka, row kb], .v (row kr)⟩ :=
  ⟨enters Tryz.func32 rfl rfl, fun B w vs h => by
    match vs, h with
    | [va, vb], h =>
      refine (q_rSum va vb a b w ((row_isL aa).1 h.1) ((row_isL ab).1 h.2.1) ha hb).mono ?_
      rintro e w' ⟨v, rfl, h1, h2⟩
      exact ⟨v, rfl, (row_isL ar).2 h1, h2⟩⟩
def xSameVec1X (a : Vq) (b : Vq) : List Fq := [a.x, a.y, a.z, b.x, b.y, b.z]
theorem q_SameVec1 (va vb : Value) (a : Vq) (b : Vq) (w : World) (ia : IsVq w va a) (ib : IsVq w vb b) (ha : a.ok 1000000000) (hb : b.ok 1000000000) (e0 : a = b) :
    Calls Tryz.prog 7 #[va, vb] w fun e w' => RetV w (.bool true) e w' := by
  refine (calls_runFn (ρ := frs (xSameVec1X a b) ++ []) (w := w) (fuel := 300) (args := [row [0, 1, 2], row [3, 4, 5]]) (vs := [va, vb]) (r := .v (.one (.b true)))
    (il_cons (I_rSame (i := 0) (j := 3) (l := .b true) rfl rfl (lb (Fq.same_iff.2 (congrArg Vq.x e0))) (ha.x.mono (by decide)).p (ha.x.mono (by decide)).q (hb.x.mono (by decide)).p (hb.x.mono (by decide)).q) (il_cons (I_rSame (i := 1) (j := 4) (l := .b true) rfl rfl (lb (Fq.same_iff.2 (congrArg Vq.y e0))) (ha.y.mono (by decide)).p (ha.y.mono (by decide)).q (hb.y.mono (by decide)).p (hb.y.mono (by decide)).q) (il_cons (I_rSame (i := 2) (j := 5) (l := .b true) rfl rfl (lb (Fq.same_iff.2 (congrArg Vq.z e0))) (ha.z.mono (by decide)).p (ha.z.mono (by decide)).q (hb.z.mono (by decide)).p (hb.z.mono (by decide)).q) il_nil)))
    ol_nil (by kernel_rfl) Tryz.func7 (by kernel_rfl) ⟨(row_isL (xs := xSameVec1X a b) (ks := [0, 1, 2]) (vs := [a.x, a.y, a.z]) ⟨rfl, rfl, rfl, trivial⟩).2 ia, ⟨(row_isL (xs := xSameVec1X a b) (ks := [3, 4, 5]) (vs := [b.x, b.y, b.z]) ⟨rfl, rfl, rfl, trivial⟩).2 ib, trivial⟩⟩).mono ?_
  rintro e w' ⟨v, rfl, h1, h2⟩
  exact ⟨congrArg Ending.returned h1, h2⟩
theorem I_SameVec1 {xs : List Fq} {ys : Rho} {ka : List Nat} {kb : List Nat} {a : Vq} {b : Vq}  (aa : AtL xs ka [a.x, a.y, a.z]) (ab : AtL xs kb [b.x, b.y, b.z])  (ha : a.ok 1000000000) (hb : b.ok 1000000000) (e0 : a = b) : OkI xs ys ⟨7, [row ka, row kb], .v (.one (.b true))⟩ :=
  ⟨enters Tryz.func7 rfl rfl, fun B w vs h => by
    match vs, h with
    | [va, vb], h =>
      refine (q_SameVec1 va vb a b w ((row_isL aa).1 h.1) ((row_isL ab).1 h.2.1) ha hb e0).mono ?_
      rintro e w' ⟨rfl, h2⟩
      exact ⟨_, rfl, rfl, h2⟩⟩
def xrEqual1X (a : Qq) (b : Qq) : List Fq := [a.w, a.x, a.y, a.z, b.w, b.x, b.y, b.z]
theorem q_rEqual1 (va vb : Value) (a : Qq) (b : Qq) (w : World) (ia : IsQt w va a) (ib : IsQt w vb b) (ha : a.ok 1000000000) (hb : b.ok 1000000000) (e0 : a = b) :
    Calls Tryz.prog 10 #[va, vb] w fun e w' => RetV w (.bool true) e w' := by
  refine (calls_runFn (ρ := frs (xrEqual1X a b) ++ []) (w := w) (fuel := 300) (args := [row [0, 1, 2, 3], row [4, 5, 6, 7]]) (vs := [va, vb]) (r := .v (.one (.b true)))
    (il_cons (I_rSame (i := 0) (j := 4) (l := .b true) rfl rfl (lb (Fq.same_iff.2 (congrArg Qq.w e0))) (ha.w.mono (by decide)).p (ha.w.mono (by decide)).q (hb.w.mono (by decide)).p (hb.w.mono (by decide)).q) (il_cons (I_rSame (i := 1) (j := 5) (l := .b true) rfl rfl (lb (Fq.same_iff.2 (congrArg Qq.x e0))) (ha.x.mono (by decide)).p (ha.x.mono (by decide)).q (hb.x.mono (by decide)).p (hb.x.mono (by decide)).q) (il_cons (I_rSame (i := 2) (j := 6) (l := .b true) rfl rfl (lb (Fq.same_iff.2 (congrArg Qq.y e0))) (ha.y.mono (by decide)).p (ha.y.mono (by decide)).q (hb.y.mono (by decide)).p (hb.y.mono (by decide)).q) (il_cons (I_rSame (i := 3) (j := 7) (l := .b true) rfl rfl (lb (Fq.same_iff.2 (congrArg Qq.z e0))) (ha.z.mono (by decide)).p (ha.z.mono (by decide)).q (hb.z.mono (by decide)).p (hb.z.mono (by decide)).q) il_nil))))
    ol_nil (by kernel_rfl) Tryz.func10 (by kernel_rfl) ⟨(row_isL (xs := xrEqual1X a b) (ks := [0, 1, 2, 3]) (vs := [a.w, a.x, a.y, a.z]) ⟨rfl, rfl, rfl, rfl, trivial⟩).2 ia, ⟨(row_isL (xs := xrEqual1X a b) (ks := [4, 5, 6, 7]) (vs := [b.w, b.x, b.y, b.z]) ⟨rfl, rfl, rfl, rfl, trivial⟩).2 ib, trivial⟩⟩).mono ?_
  rintro e w' ⟨v, rfl, h1, h2⟩
  exact ⟨congrArg Ending.returned h1, h2⟩
theorem I_rEqual1 {xs : List Fq} {ys : Rho} {ka : List Nat} {kb : List Nat} {a : Qq} {b : Qq}  (aa : AtL xs ka [a.w, a.x, a.y, a.z]) (ab : AtL xs kb [b.w, b.x, b.y, b.z])  (ha : a.ok 1000000000) (hb : b.ok 1000000000) (e0 : a = b) : OkI xs ys ⟨10, [row ka, row kb], .v (.one (.b true))⟩ :=
  ⟨enters Tryz.func10 rfl rfl, fun B w vs h => by
    match vs, h with
    | [va, vb], h =>
      refine (q_rEqual1 va vb a b w ((row_isL aa).1 h.1) ((row_isL ab).1 h.2.1) ha hb e0).mono ?_
      rintro e w' ⟨rfl, h2⟩
      exact ⟨_, rfl, rfl, h2⟩⟩
theorem z0 : nl 0 ≤ 1000000000000 := by rw [nl_zero]; decide
def xaxisX (q : Qq) : List Fq := [q.w, q.x, q.y, q.z]
theorem q_axis (vq : Value) (q : Qq) (w : World) (iq : IsQt w vq q) (hq : q.ok 1000000000) :
    Calls Tryz.prog 35 #[vq] w fun e w' => RetVq w q.axis e w' := by
  refine (calls_runFn (ρ := frs (xaxisX q) ++ []) (w := w) (fuel := 300) (args := [row [0, 1, 2, 3]]) (vs := [vq]) (r := .v (row [1, 2, 3]))
    (il_nil)
    ol_nil (by kernel_rfl) Tryz.func35 (by kernel_rfl) ⟨(row_isL (xs := xaxisX q) (ks := [0, 1, 2, 3]) (vs := [q.w, q.x, q.y, q.z]) ⟨rfl, rfl, rfl, rfl, trivial⟩).2 iq, trivial⟩).mono ?_
  rintro e w' ⟨v, rfl, h1, h2⟩
  exact ⟨v, rfl, (row_isL (xs := xaxisX q) (ks := [1, 2, 3]) (vs := [q.x, q.y, q.z]) ⟨rfl, rfl, rfl, trivial⟩).1 h1, h2⟩
theorem I_axis {xs : List Fq} {ys : Rho} {kq : List Nat} {q : Qq} {kr : List Nat} (aq : AtL xs kq [q.w, q.x, q.y, q.z]) (ar : AtL xs kr [q.axis.x, q.axis.y, q.axis.z]) (hq : q.ok 1000000000) : OkI xs ys ⟨35, [row kq], .v (row kr)⟩ :=
  ⟨enters Tryz.func35 rfl rfl, fun B w vs h => by
    match vs, h with
    | [vq], h =>
      refine (q_axis vq q w ((row_isL aq).1 h.1) hq).mono ?_
      rintro e w' ⟨v, rfl, h1, h2⟩
      exact ⟨v, rfl, (row_isL ar).2 h1, h2⟩⟩
def xpartX (q : Qq) : List Fq := [q.w, q.x, q.y, q.z]
theorem q_part (vq : Value) (q : Qq) (w : World) (iq : IsQt w vq q) (hq : q.ok 1000000000) :
    Calls Tryz.prog 25 #[vq] w fun e w' => RetVq w q.axis e w' := by
  refine (calls_runFn (ρ := frs (xpartX q) ++ []) (w := w) (fuel := 300) (args := [row [0, 1, 2, 3]]) (vs := [vq]) (r := .v (row [1, 2, 3]))
    (il_nil)
    ol_nil (by kernel_rfl) Tryz.func25 (by kernel_rfl) ⟨(row_isL (xs := xpartX q) (ks := [0, 1, 2, 3]) (vs := [q.w, q.x, q.y, q.z]) ⟨rfl, rfl, rfl, rfl, trivial⟩).2 iq, trivial⟩).mono ?_
  rintro e w' ⟨v, rfl, h1, h2⟩
  exact ⟨v, rfl, (row_isL (xs := xpartX q) (ks := [1, 2, 3]) (vs := [q.x, q.y, q.z]) ⟨rfl, rfl, rfl, trivial⟩).1 h1, h2⟩
theorem I_part {xs : List Fq} {ys : Rho} {kq : List Nat} {q : Qq} {kr : List Nat} (aq : AtL xs kq [q.w, q.x, q.y, q.z]) (ar : AtL xs kr [q.axis.x, q.axis.y, q.axis.z]) (hq : q.ok 1000000000) : OkI xs ys ⟨25, [row kq], .v (row kr)⟩ :=
  ⟨enters Tryz.func25 rfl rfl, fun B w vs h => by
    match vs, h with
    | [vq], h =>
      refine (q_part vq q w ((row_isL aq).1 h.1) hq).mono ?_
      rintro e w' ⟨v, rfl, h1, h2⟩
      exact ⟨v, rfl, (row_isL ar).2 h1, h2⟩⟩
def xpartsX (q : Qq) : List Fq := [q.w, q.x, q.y, q.z]
theorem q_parts (vq : Value) (q : Qq) (w : World) (iq : IsQt w vq q) (hq : q.ok 1000000000) :
    Calls Tryz.prog 77 #[vq] w fun e w' => RetQt w q e w' := by
  refine (calls_runFn (ρ := frs (xpartsX q) ++ []) (w := w) (fuel := 300) (args := [row [0, 1, 2, 3]]) (vs := [vq]) (r := .v (row [0, 1, 2, 3]))
    (il_nil)
    ol_nil (by kernel_rfl) Tryz.func77 (by kernel_rfl) ⟨(row_isL (xs := xpartsX q) (ks := [0, 1, 2, 3]) (vs := [q.w, q.x, q.y, q.z]) ⟨rfl, rfl, rfl, rfl, trivial⟩).2 iq, trivial⟩).mono ?_
  rintro e w' ⟨v, rfl, h1, h2⟩
  exact ⟨v, rfl, (row_isL (xs := xpartsX q) (ks := [0, 1, 2, 3]) (vs := [q.w, q.x, q.y, q.z]) ⟨rfl, rfl, rfl, rfl, trivial⟩).1 h1, h2⟩
theorem I_parts {xs : List Fq} {ys : Rho} {kq : List Nat} {q : Qq} {kr : List Nat} (aq : AtL xs kq [q.w, q.x, q.y, q.z]) (ar : AtL xs kr [q.w, q.x, q.y, q.z]) (hq : q.ok 1000000000) : OkI xs ys ⟨77, [row kq], .v (row kr)⟩ :=
  ⟨enters Tryz.func77 rfl rfl, fun B w vs h => by
    match vs, h with
    | [vq], h =>
      refine (q_parts vq q w ((row_isL aq).1 h.1) hq).mono ?_
      rintro e w' ⟨v, rfl, h1, h2⟩
      exact ⟨v, rfl, (row_isL ar).2 h1, h2⟩⟩
def xwholeX (q : Qq) : List Fq := [q.w, q.x, q.y, q.z]
theorem q_whole (vq : Value) (q : Qq) (w : World) (iq : IsQt w vq q) (hq : q.ok 1000000000) :
    Calls Tryz.prog 50 #[vq] w fun e w' => RetQt w q e w' := by
  refine (calls_runFn (ρ := frs (xwholeX q) ++ []) (w := w) (fuel := 300) (args := [row [0, 1, 2, 3]]) (vs := [vq]) (r := .v (row [0, 1, 2, 3]))
    (il_nil)
    ol_nil (by kernel_rfl) Tryz.func50 (by kernel_rfl) ⟨(row_isL (xs := xwholeX q) (ks := [0, 1, 2, 3]) (vs := [q.w, q.x, q.y, q.z]) ⟨rfl, rfl, rfl, rfl, trivial⟩).2 iq, trivial⟩).mono ?_
  rintro e w' ⟨v, rfl, h1, h2⟩
  exact ⟨v, rfl, (row_isL (xs := xwholeX q) (ks := [0, 1, 2, 3]) (vs := [q.w, q.x, q.y, q.z]) ⟨rfl, rfl, rfl, rfl, trivial⟩).1 h1, h2⟩
theorem I_whole {xs : List Fq} {ys : Rho} {kq : List Nat} {q : Qq} {kr : List Nat} (aq : AtL xs kq [q.w, q.x, q.y, q.z]) (ar : AtL xs kr [q.w, q.x, q.y, q.z]) (hq : q.ok 1000000000) : OkI xs ys ⟨50, [row kq], .v (row kr)⟩ :=
  ⟨enters Tryz.func50 rfl rfl, fun B w vs h => by
    match vs, h with
    | [vq], h =>
      refine (q_whole vq q w ((row_isL aq).1 h.1) hq).mono ?_
      rintro e w' ⟨v, rfl, h1, h2⟩
      exact ⟨v, rfl, (row_isL ar).2 h1, h2⟩⟩
def xHalf1X (q : Qq) : List Fq := [q.w, q.x, q.y, q.z]
theorem q_Half1 (vq : Value) (q : Qq) (w : World) (iq : IsQt w vq q) (hq : q.ok 1000000000) (h0 : q.w.p = 0) :
    Calls Tryz.prog 16 #[vq] w fun e w' => RetV w (.bool true) e w' := by
  refine (calls_runFn (ρ := frs (xHalf1X q) ++ []) (w := w) (fuel := 300) (args := [row [0, 1, 2, 3]]) (vs := [vq]) (r := .v (.one (.b true)))
    (il_cons (I_fSign (i := 0) rfl (li (sgn0 h0)) (hq.w.mono (by decide))) il_nil)
    ol_nil (by kernel_rfl) Tryz.func16 (by kernel_rfl) ⟨(row_isL (xs := xHalf1X q) (ks := [0, 1, 2, 3]) (vs := [q.w, q.x, q.y, q.z]) ⟨rfl, rfl, rfl, rfl, trivial⟩).2 iq, trivial⟩).mono ?_
  rintro e w' ⟨v, rfl, h1, h2⟩
  exact ⟨congrArg Ending.returned h1, h2⟩
theorem I_Half1 {xs : List Fq} {ys : Rho} {kq : List Nat} {q : Qq}  (aq : AtL xs kq [q.w, q.x, q.y, q.z])  (hq : q.ok 1000000000) (h0 : q.w.p = 0) : OkI xs ys ⟨16, [row kq], .v (.one (.b true))⟩ :=
  ⟨enters Tryz.func16 rfl rfl, fun B w vs h => by
    match vs, h with
    | [vq], h =>
      refine (q_Half1 vq q w ((row_isL aq).1 h.1) hq h0).mono ?_
      rintro e w' ⟨rfl, h2⟩
      exact ⟨_, rfl, rfl, h2⟩⟩
def xHalf0X (q : Qq) : List Fq := [q.w, q.x, q.y, q.z]
theorem q_Half0 (vq : Value) (q : Qq) (w : World) (iq : IsQt w vq q) (hq : q.ok 1000000000) (h0 : q.w.p ≠ 0) :
    Calls Tryz.prog 16 #[vq] w fun e w' => RetV w (.bool false) e w' := by
  refine (calls_runFn (ρ := frs (xHalf0X q) ++ [.val (.int .i64 q.w.sgn)]) (w := w) (fuel := 300) (args := [row [0, 1, 2, 3]]) (vs := [vq]) (r := .v (.one (.b false)))
    (il_cons (I_fSign (i := 0) rfl (lr (n := 12) rfl) (hq.w.mono (by decide))) il_nil)
    (ol_cons (o_eql (n := 12) (c := 0) (t := 3) rfl (sgn_eq h0)) (ol_nil)) (by kernel_rfl) Tryz.func16 (by kernel_rfl) ⟨(row_isL (xs := xHalf0X q) (ks := [0, 1, 2, 3]) (vs := [q.w, q.x, q.y, q.z]) ⟨rfl, rfl, rfl, rfl, trivial⟩).2 iq, trivial⟩).mono ?_
  rintro e w' ⟨v, rfl, h1, h2⟩
  exact ⟨congrArg Ending.returned h1, h2⟩
theorem I_Half0 {xs : List Fq} {ys : Rho} {kq : List Nat} {q : Qq}  (aq : AtL xs kq [q.w, q.x, q.y, q.z])  (hq : q.ok 1000000000) (h0 : q.w.p ≠ 0) : OkI xs ys ⟨16, [row kq], .v (.one (.b false))⟩ :=
  ⟨enters Tryz.func16 rfl rfl, fun B w vs h => by
    match vs, h with
    | [vq], h =>
      refine (q_Half0 vq q w ((row_isL aq).1 h.1) hq h0).mono ?_
      rintro e w' ⟨rfl, h2⟩
      exact ⟨_, rfl, rfl, h2⟩⟩
def xrHalf1X (q : Qq) : List Fq := [q.w, q.x, q.y, q.z]
theorem q_rHalf1 (vq : Value) (q : Qq) (w : World) (iq : IsQt w vq q) (hq : q.ok 1000000000) (h0 : q.w.p = 0) :
    Calls Tryz.prog 17 #[vq] w fun e w' => RetV w (.bool true) e w' := by
  refine (calls_runFn (ρ := frs (xrHalf1X q) ++ []) (w := w) (fuel := 300) (args := [row [0, 1, 2, 3]]) (vs := [vq]) (r := .v (.one (.b true)))
    (il_cons (I_rSign (i := 0) rfl (li (sgn0 h0)) (hq.w.mono (by decide))) il_nil)
    ol_nil (by kernel_rfl) Tryz.func17 (by kernel_rfl) ⟨(row_isL (xs := xrHalf1X q) (ks := [0, 1, 2, 3]) (vs := [q.w, q.x, q.y, q.z]) ⟨rfl, rfl, rfl, rfl, trivial⟩).2 iq, trivial⟩).mono ?_
  rintro e w' ⟨v, rfl, h1, h2⟩
  exact ⟨congrArg Ending.returned h1, h2⟩
theorem I_rHalf1 {xs : List Fq} {ys : Rho} {kq : List Nat} {q : Qq}  (aq : AtL xs kq [q.w, q.x, q.y, q.z])  (hq : q.ok 1000000000) (h0 : q.w.p = 0) : OkI xs ys ⟨17, [row kq], .v (.one (.b true))⟩ :=
  ⟨enters Tryz.func17 rfl rfl, fun B w vs h => by
    match vs, h with
    | [vq], h =>
      refine (q_rHalf1 vq q w ((row_isL aq).1 h.1) hq h0).mono ?_
      rintro e w' ⟨rfl, h2⟩
      exact ⟨_, rfl, rfl, h2⟩⟩
def xrHalf0X (q : Qq) : List Fq := [q.w, q.x, q.y, q.z]
theorem q_rHalf0 (vq : Value) (q : Qq) (w : World) (iq : IsQt w vq q) (hq : q.ok 1000000000) (h0 : q.w.p ≠ 0) :
    Calls Tryz.prog 17 #[vq] w fun e w' => RetV w (.bool false) e w' := by
  refine (calls_runFn (ρ := frs (xrHalf0X q) ++ [.val (.int .i64 q.w.sgn)]) (w := w) (fuel := 300) (args := [row [0, 1, 2, 3]]) (vs := [vq]) (r := .v (.one (.b false)))
    (il_cons (I_rSign (i := 0) rfl (lr (n := 12) rfl) (hq.w.mono (by decide))) il_nil)
    (ol_cons (o_eql (n := 12) (c := 0) (t := 3) rfl (sgn_eq h0)) (ol_nil)) (by kernel_rfl) Tryz.func17 (by kernel_rfl) ⟨(row_isL (xs := xrHalf0X q) (ks := [0, 1, 2, 3]) (vs := [q.w, q.x, q.y, q.z]) ⟨rfl, rfl, rfl, rfl, trivial⟩).2 iq, trivial⟩).mono ?_
  rintro e w' ⟨v, rfl, h1, h2⟩
  exact ⟨congrArg Ending.returned h1, h2⟩
theorem I_rHalf0 {xs : List Fq} {ys : Rho} {kq : List Nat} {q : Qq}  (aq : AtL xs kq [q.w, q.x, q.y, q.z])  (hq : q.ok 1000000000) (h0 : q.w.p ≠ 0) : OkI xs ys ⟨17, [row kq], .v (.one (.b false))⟩ :=
  ⟨enters Tryz.func17 rfl rfl, fun B w vs h => by
    match vs, h with
    | [vq], h =>
      refine (q_rHalf0 vq q w ((row_isL aq).1 h.1) hq h0).mono ?_
      rintro e w' ⟨rfl, h2⟩
      exact ⟨_, rfl, rfl, h2⟩⟩
def xfIdX  : List Fq := [(Fq.ofInt 1), (Fq.ofInt 0)]
theorem ok_id : Qq.id.ok 2 := ⟨ok_int (by decide) (by decide), ok_int (by decide) (by decide), ok_int (by decide) (by decide), ok_int (by decide) (by decide)⟩
theorem q_fId  (w : World)   :
    Calls Tryz.prog 18 #[] w fun e w' => RetQt w Qq.id e w' := by
  refine (calls_runFn (ρ := frs (xfIdX ) ++ []) (w := w) (fuel := 300) (args := []) (vs := []) (r := .v (row [0, 1, 1, 1]))
    (il_cons (I_fInt (k := 0) rfl (by decide) (by decide)) (il_cons (I_fInt (k := 1) rfl (by decide) (by decide)) (il_cons (I_whole (kq := [0, 1, 1, 1]) (q := (Qq.mk (Fq.ofInt 1) (Fq.ofInt 0) (Fq.ofInt 0) (Fq.ofInt 0))) (kr := [0, 1, 1, 1]) ⟨rfl, rfl, rfl, rfl, trivial⟩ ⟨rfl, rfl, rfl, rfl, trivial⟩ (⟨(ok_int (u := 1) (by decide) (by decide)).mono (by decide), (ok_int (u := 0) (by decide) (by decide)).mono (by decide), (ok_int (u := 0) (by decide) (by decide)).mono (by decide), (ok_int (u := 0) (by decide) (by decide)).mono (by decide)⟩ : Qq.ok 1000000000 (Qq.mk (Fq.ofInt 1) (Fq.ofInt 0) (Fq.ofInt 0) (Fq.ofInt 0)))) il_nil)))
    ol_nil (by kernel_rfl) Tryz.func18 (by kernel_rfl) trivial).mono ?_
  rintro e w' ⟨v, rfl, h1, h2⟩
  exact ⟨v, rfl, (row_isL (xs := xfIdX ) (ks := [0, 1, 1, 1]) (vs := [(Fq.ofInt 1), (Fq.ofInt 0), (Fq.ofInt 0), (Fq.ofInt 0)]) ⟨rfl, rfl, rfl, rfl, trivial⟩).1 h1, h2⟩
theorem I_fId {xs : List Fq} {ys : Rho}   {kr : List Nat}  (ar : AtL xs kr [Qq.id.w, Qq.id.x, Qq.id.y, Qq.id.z]) : OkI xs ys ⟨18, [], .v (row kr)⟩ :=
  ⟨enters Tryz.func18 rfl rfl, fun B w vs h => by
    match vs, h with
    | [], h =>
      refine (q_fId w).mono ?_
      rintro e w' ⟨v, rfl, h1, h2⟩
      exact ⟨v, rfl, (row_isL ar).2 h1, h2⟩⟩
def xrIdX  : List Fq := [(Fq.ofInt 1), (Fq.ofInt 0)]
theorem q_rId  (w : World)   :
    Calls Tryz.prog 19 #[] w fun e w' => RetQt w Qq.id e w' := by
  refine (calls_runFn (ρ := frs (xrIdX ) ++ []) (w := w) (fuel := 300) (args := []) (vs := []) (r := .v (row [0, 1, 1, 1]))
    (il_cons (I_rInt (k := 0) rfl (by decide) (by decide)) (il_cons (I_rInt (k := 1) rfl (by decide) (by decide)) il_nil))
    ol_nil (by kernel_rfl) Tryz.func19 (by kernel_rfl) trivial).mono ?_
  rintro e w' ⟨v, rfl, h1, h2⟩
  exact ⟨v, rfl, (row_isL (xs := xrIdX ) (ks := [0, 1, 1, 1]) (vs := [(Fq.ofInt 1), (Fq.ofInt 0), (Fq.ofInt 0), (Fq.ofInt 0)]) ⟨rfl, rfl, rfl, rfl, trivial⟩).1 h1, h2⟩
theorem I_rId {xs : List Fq} {ys : Rho}   {kr : List Nat}  (ar : AtL xs kr [Qq.id.w, Qq.id.x, Qq.id.y, Qq.id.z]) : OkI xs ys ⟨19, [], .v (row kr)⟩ :=
  ⟨enters Tryz.func19 rfl rfl, fun B w vs h => by
    match vs, h with
    | [], h =>
      refine (q_rId w).mono ?_
      rintro e w' ⟨v, rfl, h1, h2⟩
      exact ⟨v, rfl, (row_isL ar).2 h1, h2⟩⟩
end Go.Proofs.YthefidbgjgfeiaaGreat
namespace Go.Proofs.YthefidbgjgfeiaaGreat
set_option linter.unusedSimpArgs false
set_option linter.unusedVariables false
set_option maxRecDepth 100000
open Go.RowKit
theorem canon_eq {q : Qq} (h0 : q.first.p ≠ 0) : q.canon = q.over q.first := by unfold Qq.canon; rw [if_neg h0]
theorem Qq.ok.mk4 {a b c e : Fq} {d : Nat} (h1 : a.ok d) (h2 : b.ok d) (h3 : c.ok d) (h4 : e.ok d) : (Qq.mk a b c e).ok d := ⟨h1, h2, h3, h4⟩
theorem canon4_ok {a b c k : Fq} {d e f g : Nat} (h1 : a.ok d) (h2 : b.ok e) (h3 : c.ok f) (h4 : k.ok g) (h0 : (Qq.mk a b c k).first.p ≠ 0) : (Qq.mk a b c k).canon.ok (d + e + f + g + (d + e + f + g)) := (Qq.ok.mk4 (h1.mono (by omega)) (h2.mono (by omega)) (h3.mono (by omega)) (h4.mono (by omega)) : Qq.ok (d + e + f + g) _).canon h0
def xrFirstX (q : Qq) : List Fq := [q.w, q.x, q.y, q.z]
def xrFirst1X (q : Qq) : List Fq := [q.w, q.x, q.y, q.z]
def xrFirst2X (q : Qq) : List Fq := [q.w, q.x, q.y, q.z]
def xrFirst3X (q : Qq) : List Fq := [q.w, q.x, q.y, q.z]
theorem q_rFirst (vq : Value) (q : Qq) (w : World) (iq : IsQt w vq q) (hq : q.ok 1000000000) :
    Calls Tryz.prog 53 #[vq] w fun e w' => RetQ w q.first e w' := by
  by_cases c0 : q.w.p = 0
  · by_cases c1 : q.x.p = 0
    · by_cases c2 : q.y.p = 0
      · have e1 : q.first = q.z := by simp [Qq.first, c0, c1, c2]
        rw [e1]
        refine (calls_runFn (ρ := frs (xrFirstX q) ++ []) (w := w) (fuel := 300) (args := [row [0, 1, 2, 3]]) (vs := [vq]) (r := .v (fr 3))
          (il_cons (I_rSign (i := 0) rfl (li (sgn0 c0)) (hq.w.mono (by decide))) (il_cons (I_rSign (i := 1) rfl (li (sgn0 c1)) (hq.x.mono (by decide))) (il_cons (I_rSign (i := 2) rfl (li (sgn0 c2)) (hq.y.mono (by decide))) il_nil)))
          ol_nil (by kernel_rfl) Tryz.func53 (by kernel_rfl) ⟨(row_isL (xs := xrFirstX q) (ks := [0, 1, 2, 3]) (vs := [q.w, q.x, q.y, q.z]) ⟨rfl, rfl, rfl, rfl, trivial⟩).2 iq, trivial⟩).mono ?_
        rintro e w' ⟨v, rfl, h1, h2⟩
        exact ⟨v, rfl, (fr_isQ (xs := xrFirstX q) (k := 3) rfl).1 h1, h2⟩
      · have e1 : q.first = q.y := by simp [Qq.first, c0, c1, c2]
        rw [e1]
        refine (calls_runFn (ρ := frs (xrFirst1X q) ++ [.val (.int .i64 q.y.sgn)]) (w := w) (fuel := 300) (args := [row [0, 1, 2, 3]]) (vs := [vq]) (r := .v (fr 2))
          (il_cons (I_rSign (i := 0) rfl (li (sgn0 c0)) (hq.w.mono (by decide))) (il_cons (I_rSign (i := 1) rfl (li (sgn0 c1)) (hq.x.mono (by decide))) (il_cons (I_rSign (i := 2) rfl (lr (n := 12) rfl) (hq.y.mono (by decide))) il_nil)))
          (ol_cons (o_neq (n := 12) (c := 0) (t := 3) rfl (sgn_nq c2)) (ol_nil)) (by kernel_rfl) Tryz.func53 (by kernel_rfl) ⟨(row_isL (xs := xrFirst1X q) (ks := [0, 1, 2, 3]) (vs := [q.w, q.x, q.y, q.z]) ⟨rfl, rfl, rfl, rfl, trivial⟩).2 iq, trivial⟩).mono ?_
        rintro e w' ⟨v, rfl, h1, h2⟩
        exact ⟨v, rfl, (fr_isQ (xs := xrFirst1X q) (k := 2) rfl).1 h1, h2⟩
    · have e1 : q.first = q.x := by simp [Qq.first, c0, c1]
      rw [e1]
      refine (calls_runFn (ρ := frs (xrFirst2X q) ++ [.val (.int .i64 q.x.sgn)]) (w := w) (fuel := 300) (args := [row [0, 1, 2, 3]]) (vs := [vq]) (r := .v (fr 1))
        (il_cons (I_rSign (i := 0) rfl (li (sgn0 c0)) (hq.w.mono (by decide))) (il_cons (I_rSign (i := 1) rfl (lr (n := 12) rfl) (hq.x.mono (by decide))) il_nil))
        (ol_cons (o_neq (n := 12) (c := 0) (t := 3) rfl (sgn_nq c1)) (ol_nil)) (by kernel_rfl) Tryz.func53 (by kernel_rfl) ⟨(row_isL (xs := xrFirst2X q) (ks := [0, 1, 2, 3]) (vs := [q.w, q.x, q.y, q.z]) ⟨rfl, rfl, rfl, rfl, trivial⟩).2 iq, trivial⟩).mono ?_
      rintro e w' ⟨v, rfl, h1, h2⟩
      exact ⟨v, rfl, (fr_isQ (xs := xrFirst2X q) (k := 1) rfl).1 h1, h2⟩
  · have e1 : q.first = q.w := by simp [Qq.first, c0]
    rw [e1]
    refine (calls_runFn (ρ := frs (xrFirst3X q) ++ [.val (.int .i64 q.w.sgn)]) (w := w) (fuel := 300) (args := [row [0, 1, 2, 3]]) (vs := [vq]) (r := .v (fr 0))
      (il_cons (I_rSign (i := 0) rfl (lr (n := 12) rfl) (hq.w.mono (by decide))) il_nil)
      (ol_cons (o_neq (n := 12) (c := 0) (t := 3) rfl (sgn_nq c0)) (ol_nil)) (by kernel_rfl) Tryz.func53 (by kernel_rfl) ⟨(row_isL (xs := xrFirst3X q) (ks := [0, 1, 2, 3]) (vs := [q.w, q.x, q.y, q.z]) ⟨rfl, rfl, rfl, rfl, trivial⟩).2 iq, trivial⟩).mono ?_
    rintro e w' ⟨v, rfl, h1, h2⟩
    exact ⟨v, rfl, (fr_isQ (xs := xrFirst3X q) (k := 0) rfl).1 h1, h2⟩
theorem I_rFirst {xs : List Fq} {ys : Rho} {kq : List Nat} {q : Qq} {ir : Nat} (aq : AtL xs kq [q.w, q.x, q.y, q.z]) (ar : xs[ir]? = some q.first) (hq : q.ok 1000000000) : OkI xs ys ⟨53, [row kq], .v (fr ir)⟩ :=
  ⟨enters Tryz.func53 rfl rfl, fun B w vs h => by
    match vs, h with
    | [vq], h =>
      refine (q_rFirst vq q w ((row_isL aq).1 h.1) hq).mono ?_
      rintro e w' ⟨v, rfl, h1, h2⟩
      exact ⟨v, rfl, (fr_isQ ar).2 h1, h2⟩⟩
def xrOverX (x : Fq) (d : Fq) : List Fq := [x, d, (x.div d)]
theorem q_rOver (vx vd : Value) (x : Fq) (d : Fq) (w : World) (ix : IsQ w vx x) (id : IsQ w vd d) (hx : x.ok 1000000000) (hd : d.ok 1000000000) (h0 : d.p ≠ 0) :
    Calls Tryz.prog 33 #[vx, vd] w fun e w' => RetQ w (x.div d) e w' := by
  refine (calls_runFn (ρ := frs (xrOverX x d) ++ []) (w := w) (fuel := 300) (args := [fr 0, fr 1]) (vs := [vx, vd]) (r := .v (fr 2))
    (il_cons (I_rDiv (i := 0) (j := 1) (k := 2) rfl rfl rfl (hx.mono (by decide)) (hd.mono (by decide)) h0) il_nil)
    ol_nil (by kernel_rfl) Tryz.func33 (by kernel_rfl) ⟨(fr_isQ (xs := xrOverX x d) (k := 0) rfl).2 ix, ⟨(fr_isQ (xs := xrOverX x d) (k := 1) rfl).2 id, trivial⟩⟩).mono ?_
  rintro e w' ⟨v, rfl, h1, h2⟩
  exact ⟨v, rfl, (fr_isQ (xs := xrOverX x d) (k := 2) rfl).1 h1, h2⟩
theorem I_rOver {xs : List Fq} {ys : Rho} {ix : Nat} {id : Nat} {x : Fq} {d : Fq} {ir : Nat} (ax : xs[ix]? = some x) (ad : xs[id]? = some d) (ar : xs[ir]? = some (x.div d)) (hx : x.ok 1000000000) (hd : d.ok 1000000000) (h0 : d.p ≠ 0) : OkI xs ys ⟨33, [fr ix, fr id], .v (fr ir)⟩ :=
  ⟨enters Tryz.func33 rfl rfl, fun B w vs h => by
    match vs, h with
    | [vx, vd], h =>
      refine (q_rOver vx vd x d w ((fr_isQ ax).1 h.1) ((fr_isQ ad).1 h.2.1) hx hd h0).mono ?_
      rintro e w' ⟨v, rfl, h1, h2⟩
      exact ⟨v, rfl, (fr_isQ ar).2 h1, h2⟩⟩
def xrMakeTX (p0 : Fq) (p1 : Fq) (p2 : Fq) (p3 : Fq) : List Fq := [p0, p1, p2, p3, (Qq.mk p0 p1 p2 p3).first, (p0.div (Qq.mk p0 p1 p2 p3).first), (p1.div (Qq.mk p0 p1 p2 p3).first), (p2.div (Qq.mk p0 p1 p2 p3).first), (p3.div (Qq.mk p0 p1 p2 p3).first)]
theorem q_rMakeT (vp0 vp1 vp2 vp3 : Value) (p0 : Fq) (p1 : Fq) (p2 : Fq) (p3 : Fq) (w : World) (ip0 : IsQ w vp0 p0) (ip1 : IsQ w vp1 p1) (ip2 : IsQ w vp2 p2) (ip3 : IsQ w vp3 p3) (hp0 : p0.ok 100000000) (hp1 : p1.ok 100000000) (hp2 : p2.ok 100000000) (hp3 : p3.ok 100000000) (h0 : (Qq.mk p0 p1 p2 p3).first.p ≠ 0) :
    Calls Tryz.prog 21 #[vp0, vp1, vp2, vp3] w fun e w' => RetQtE w (Qq.mk p0 p1 p2 p3).canon 0 e w' := by
  rw [canon_eq h0]
  refine (calls_runFn (ρ := frs (xrMakeTX p0 p1 p2 p3) ++ [.val (.int .i64 (Qq.mk p0 p1 p2 p3).first.sgn)]) (w := w) (fuel := 300) (args := [fr 0, fr 1, fr 2, fr 3]) (vs := [vp0, vp1, vp2, vp3]) (r := .tup [row [5, 6, 7, 8], .one (.i .i64 0)])
    (il_cons (I_rFirst (kq := [0, 1, 2, 3]) (q := (Qq.mk p0 p1 p2 p3)) (ir := 4) ⟨rfl, rfl, rfl, rfl, trivial⟩ rfl ((Qq.ok.mk4 hp0 hp1 hp2 hp3).mono (by decide))) (il_cons (I_rSign (i := 4) rfl (lr (n := 27) rfl) ((Qq.ok.mk4 hp0 hp1 hp2 hp3).first.mono (by decide))) (il_cons (I_rOver (ix := 0) (id := 4) (ir := 5) rfl rfl rfl (hp0.mono (by decide)) ((Qq.ok.mk4 hp0 hp1 hp2 hp3).first.mono (by decide)) h0) (il_cons (I_rOver (ix := 1) (id := 4) (ir := 6) rfl rfl rfl (hp1.mono (by decide)) ((Qq.ok.mk4 hp0 hp1 hp2 hp3).first.mono (by decide)) h0) (il_cons (I_rOver (ix := 2) (id := 4) (ir := 7) rfl rfl rfl (hp2.mono (by decide)) ((Qq.ok.mk4 hp0 hp1 hp2 hp3).first.mono (by decide)) h0) (il_cons (I_rOver (ix := 3) (id := 4) (ir := 8) rfl rfl rfl (hp3.mono (by decide)) ((Qq.ok.mk4 hp0 hp1 hp2 hp3).first.mono (by decide)) h0) il_nil))))))
    (ol_cons (o_eql (n := 27) (c := 0) (t := 3) rfl (sgn_eq h0)) (ol_nil)) (by kernel_rfl) Tryz.func21 (by kernel_rfl) ⟨(fr_isQ (xs := xrMakeTX p0 p1 p2 p3) (k := 0) rfl).2 ip0, ⟨(fr_isQ (xs := xrMakeTX p0 p1 p2 p3) (k := 1) rfl).2 ip1, ⟨(fr_isQ (xs := xrMakeTX p0 p1 p2 p3) (k := 2) rfl).2 ip2, ⟨(fr_isQ (xs := xrMakeTX p0 p1 p2 p3) (k := 3) rfl).2 ip3, trivial⟩⟩⟩⟩).mono ?_
  rintro e w' ⟨v, rfl, ⟨vs, rfl, h1⟩, h2⟩
  match vs, h1 with
  | [r, c], h1 =>
    obtain ⟨⟨cs, rfl, k1⟩, k2, _⟩ := h1
    have k2 : c = _ := k2
    subst k2
    exact ⟨_, rfl, (row_isL (xs := xrMakeTX p0 p1 p2 p3) (ks := [5, 6, 7, 8]) (vs := [(p0.div (Qq.mk p0 p1 p2 p3).first), (p1.div (Qq.mk p0 p1 p2 p3).first), (p2.div (Qq.mk p0 p1 p2 p3).first), (p3.div (Qq.mk p0 p1 p2 p3).first)]) ⟨rfl, rfl, rfl, rfl, trivial⟩).1 ⟨_, rfl, k1⟩, h2⟩
theorem I_rMakeT {xs : List Fq} {ys : Rho} {ip0 : Nat} {ip1 : Nat} {ip2 : Nat} {ip3 : Nat} {p0 : Fq} {p1 : Fq} {p2 : Fq} {p3 : Fq} {kr : List Nat} (ap0 : xs[ip0]? = some p0) (ap1 : xs[ip1]? = some p1) (ap2 : xs[ip2]? = some p2) (ap3 : xs[ip3]? = some p3) (ar : AtL xs kr [(Qq.mk p0 p1 p2 p3).canon.w, (Qq.mk p0 p1 p2 p3).canon.x, (Qq.mk p0 p1 p2 p3).canon.y, (Qq.mk p0 p1 p2 p3).canon.z]) (hp0 : p0.ok 100000000) (hp1 : p1.ok 100000000) (hp2 : p2.ok 100000000) (hp3 : p3.ok 100000000) (h0 : (Qq.mk p0 p1 p2 p3).first.p ≠ 0) : OkI xs ys ⟨21, [fr ip0, fr ip1, fr ip2, fr ip3], .tup [row kr, .one (.i .i64 0)]⟩ :=
  ⟨enters Tryz.func21 rfl rfl, fun B w vs h => by
    match vs, h with
    | [vp0, vp1, vp2, vp3], h =>
      refine (q_rMakeT vp0 vp1 vp2 vp3 p0 p1 p2 p3 w ((fr_isQ ap0).1 h.1) ((fr_isQ ap1).1 h.2.1) ((fr_isQ ap2).1 h.2.2.1) ((fr_isQ ap3).1 h.2.2.2.1) hp0 hp1 hp2 hp3 h0).mono ?_
      rintro e w' ⟨v, rfl, h1, h2⟩
      exact ⟨_, rfl, ⟨[v, .int .i64 0], rfl, (row_isL ar).2 h1, rfl, trivial⟩, h2⟩⟩
def xrMakeT0X (p0 : Fq) (p1 : Fq) (p2 : Fq) (p3 : Fq) : List Fq := [p0, p1, p2, p3, (Qq.mk p0 p1 p2 p3).first]
theorem q_rMakeT0 (vp0 vp1 vp2 vp3 : Value) (p0 : Fq) (p1 : Fq) (p2 : Fq) (p3 : Fq) (w : World) (ip0 : IsQ w vp0 p0) (ip1 : IsQ w vp1 p1) (ip2 : IsQ w vp2 p2) (ip3 : IsQ w vp3 p3) (hp0 : p0.ok 100000000) (hp1 : p1.ok 100000000) (hp2 : p2.ok 100000000) (hp3 : p3.ok 100000000) (h0 : (Qq.mk p0 p1 p2 p3).first.p = 0) :
    Calls Tryz.prog 21 #[vp0, vp1, vp2, vp3] w fun e w' => RetQtE w Qq.zero 8 e w' := by
  refine (calls_runFn (ρ := frs (xrMakeT0X p0 p1 p2 p3) ++ []) (w := w) (fuel := 300) (args := [fr 0, fr 1, fr 2, fr 3]) (vs := [vp0, vp1, vp2, vp3]) (r := .tup [.agg [.b false, .sl0, .sl0, .b false, .sl0, .sl0, .b false, .sl0, .sl0, .b false, .sl0, .sl0], .one (.i .i64 8)])
    (il_cons (I_rFirst (kq := [0, 1, 2, 3]) (q := (Qq.mk p0 p1 p2 p3)) (ir := 4) ⟨rfl, rfl, rfl, rfl, trivial⟩ rfl ((Qq.ok.mk4 hp0 hp1 hp2 hp3).mono (by decide))) (il_cons (I_rSign (i := 4) rfl (li (sgn0 h0)) ((Qq.ok.mk4 hp0 hp1 hp2 hp3).first.mono (by decide))) il_nil))
    ol_nil (by kernel_rfl) Tryz.func21 (by kernel_rfl) ⟨(fr_isQ (xs := xrMakeT0X p0 p1 p2 p3) (k := 0) rfl).2 ip0, ⟨(fr_isQ (xs := xrMakeT0X p0 p1 p2 p3) (k := 1) rfl).2 ip1, ⟨(fr_isQ (xs := xrMakeT0X p0 p1 p2 p3) (k := 2) rfl).2 ip2, ⟨(fr_isQ (xs := xrMakeT0X p0 p1 p2 p3) (k := 3) rfl).2 ip3, trivial⟩⟩⟩⟩).mono ?_
  rintro e w' ⟨v, rfl, ⟨vs, rfl, h1⟩, h2⟩
  match vs, h1 with
  | [r, c], h1 =>
    obtain ⟨⟨cs, rfl, k1⟩, k2, _⟩ := h1
    have k2 : c = _ := k2
    subst k2
    exact ⟨_, rfl, ⟨_, rfl, zero_row (n := 4) k1⟩, h2⟩
theorem I_rMakeT0 {xs : List Fq} {ys : Rho} {ip0 : Nat} {ip1 : Nat} {ip2 : Nat} {ip3 : Nat} {p0 : Fq} {p1 : Fq} {p2 : Fq} {p3 : Fq} {kr : List Nat} (ap0 : xs[ip0]? = some p0) (ap1 : xs[ip1]? = some p1) (ap2 : xs[ip2]? = some p2) (ap3 : xs[ip3]? = some p3) (ar : AtL xs kr [Qq.zero.w, Qq.zero.x, Qq.zero.y, Qq.zero.z]) (hp0 : p0.ok 100000000) (hp1 : p1.ok 100000000) (hp2 : p2.ok 100000000) (hp3 : p3.ok 100000000) (h0 : (Qq.mk p0 p1 p2 p3).first.p = 0) : OkI xs ys ⟨21, [fr ip0, fr ip1, fr ip2, fr ip3], .tup [row kr, .one (.i .i64 8)]⟩ :=
  ⟨enters Tryz.func21 rfl rfl, fun B w vs h => by
    match vs, h with
    | [vp0, vp1, vp2, vp3], h =>
      refine (q_rMakeT0 vp0 vp1 vp2 vp3 p0 p1 p2 p3 w ((fr_isQ ap0).1 h.1) ((fr_isQ ap1).1 h.2.1) ((fr_isQ ap2).1 h.2.2.1) ((fr_isQ ap3).1 h.2.2.2.1) hp0 hp1 hp2 hp3 h0).mono ?_
      rintro e w' ⟨v, rfl, h1, h2⟩
      exact ⟨_, rfl, ⟨[v, .int .i64 8], rfl, (row_isL ar).2 h1, rfl, trivial⟩, h2⟩⟩
def xfMakeTX (p0 : Fq) (p1 : Fq) (p2 : Fq) (p3 : Fq) : List Fq := [p0, p1, p2, p3, (p0.div p3), (p1.div p3), (p2.div p3), (p3.div p3)]
def xfMakeT1X (p0 : Fq) (p1 : Fq) (p2 : Fq) (p3 : Fq) : List Fq := [p0, p1, p2, p3, (p0.div p2), (p1.div p2), (p2.div p2), (p3.div p2)]
def xfMakeT2X (p0 : Fq) (p1 : Fq) (p2 : Fq) (p3 : Fq) : List Fq := [p0, p1, p2, p3, (p0.div p1), (p1.div p1), (p2.div p1), (p3.div p1)]
def xfMakeT3X (p0 : Fq) (p1 : Fq) (p2 : Fq) (p3 : Fq) : List Fq := [p0, p1, p2, p3, (p0.div p0), (p1.div p0), (p2.div p0), (p3.div p0)]
theorem q_fMakeT (vp0 vp1 vp2 vp3 : Value) (p0 : Fq) (p1 : Fq) (p2 : Fq) (p3 : Fq) (w : World) (ip0 : IsQ w vp0 p0) (ip1 : IsQ w vp1 p1) (ip2 : IsQ w vp2 p2) (ip3 : IsQ w vp3 p3) (hp0 : p0.ok 100000000) (hp1 : p1.ok 100000000) (hp2 : p2.ok 100000000) (hp3 : p3.ok 100000000) (h0 : (Qq.mk p0 p1 p2 p3).first.p ≠ 0) :
    Calls Tryz.prog 51 #[vp0, vp1, vp2, vp3] w fun e w' => RetQtE w (Qq.mk p0 p1 p2 p3).canon 0 e w' := by
  by_cases c0 : p0.p = 0
  · by_cases c1 : p1.p = 0
    · by_cases c2 : p2.p = 0
      · by_cases c3 : p3.p = 0
        · exact absurd (by simp [Qq.first, c0, c1, c2, c3]) h0
        · have e1 : (Qq.mk p0 p1 p2 p3).first = p3 := by simp [Qq.first, c0, c1, c2, c3]
          rw [canon_eq h0, e1]
          refine (calls_runFn (ρ := frs (xfMakeTX p0 p1 p2 p3) ++ [.val (.int .i64 p3.sgn)]) (w := w) (fuel := 300) (args := [fr 0, fr 1, fr 2, fr 3]) (vs := [vp0, vp1, vp2, vp3]) (r := .tup [row [4, 5, 6, 7], .one (.i .i64 0)])
            (il_cons (I_fSign (i := 0) rfl (li (sgn0 c0)) (hp0.mono (by decide))) (il_cons (I_fSign (i := 1) rfl (li (sgn0 c1)) (hp1.mono (by decide))) (il_cons (I_fSign (i := 2) rfl (li (sgn0 c2)) (hp2.mono (by decide))) (il_cons (I_fSign (i := 3) rfl (lr (n := 24) rfl) (hp3.mono (by decide))) (il_cons (I_fDiv (i := 0) (j := 3) (k := 4) rfl rfl rfl (hp0.mono (by decide)) (hp3.mono (by decide)) c3) (il_cons (I_fDiv (i := 1) (j := 3) (k := 5) rfl rfl rfl (hp1.mono (by decide)) (hp3.mono (by decide)) c3) (il_cons (I_fDiv (i := 2) (j := 3) (k := 6) rfl rfl rfl (hp2.mono (by decide)) (hp3.mono (by decide)) c3) (il_cons (I_fDiv (i := 3) (j := 3) (k := 7) rfl rfl rfl (hp3.mono (by decide)) (hp3.mono (by decide)) c3) (il_cons (I_whole (kq := [4, 5, 6, 7]) (q := (Qq.mk (p0.div p3) (p1.div p3) (p2.div p3) (p3.div p3))) (kr := [4, 5, 6, 7]) ⟨rfl, rfl, rfl, rfl, trivial⟩ ⟨rfl, rfl, rfl, rfl, trivial⟩ (⟨(hp0.div hp3 c3).mono (by decide), (hp1.div hp3 c3).mono (by decide), (hp2.div hp3 c3).mono (by decide), (hp3.div hp3 c3).mono (by decide)⟩ : Qq.ok 1000000000 (Qq.mk (p0.div p3) (p1.div p3) (p2.div p3) (p3.div p3)))) il_nil)))))))))
            (ol_cons (o_eql (n := 24) (c := 0) (t := 3) rfl (sgn_eq c3)) (ol_nil)) (by kernel_rfl) Tryz.func51 (by kernel_rfl) ⟨(fr_isQ (xs := xfMakeTX p0 p1 p2 p3) (k := 0) rfl).2 ip0, ⟨(fr_isQ (xs := xfMakeTX p0 p1 p2 p3) (k := 1) rfl).2 ip1, ⟨(fr_isQ (xs := xfMakeTX p0 p1 p2 p3) (k := 2) rfl).2 ip2, ⟨(fr_isQ (xs := xfMakeTX p0 p1 p2 p3) (k := 3) rfl).2 ip3, trivial⟩⟩⟩⟩).mono ?_
          rintro e w' ⟨v, rfl, ⟨vs, rfl, h1⟩, h2⟩
          match vs, h1 with
          | [r, c], h1 =>
            obtain ⟨⟨cs, rfl, k1⟩, k2, _⟩ := h1
            have k2 : c = _ := k2
            subst k2
            exact ⟨_, rfl, (row_isL (xs := xfMakeTX p0 p1 p2 p3) (ks := [4, 5, 6, 7]) (vs := [(p0.div p3), (p1.div p3), (p2.div p3), (p3.div p3)]) ⟨rfl, rfl, rfl, rfl, trivial⟩).1 ⟨_, rfl, k1⟩, h2⟩
      · have e1 : (Qq.mk p0 p1 p2 p3).first = p2 := by simp [Qq.first, c0, c1, c2]
        rw [canon_eq h0, e1]
        refine (calls_runFn (ρ := frs (xfMakeT1X p0 p1 p2 p3) ++ [.val (.int .i64 p2.sgn)]) (w := w) (fuel := 300) (args := [fr 0, fr 1, fr 2, fr 3]) (vs := [vp0, vp1, vp2, vp3]) (r := .tup [row [4, 5, 6, 7], .one (.i .i64 0)])
          (il_cons (I_fSign (i := 0) rfl (li (sgn0 c0)) (hp0.mono (by decide))) (il_cons (I_fSign (i := 1) rfl (li (sgn0 c1)) (hp1.mono (by decide))) (il_cons (I_fSign (i := 2) rfl (lr (n := 24) rfl) (hp2.mono (by decide))) (il_cons (I_fDiv (i := 0) (j := 2) (k := 4) rfl rfl rfl (hp0.mono (by decide)) (hp2.mono (by decide)) c2) (il_cons (I_fDiv (i := 1) (j := 2) (k := 5) rfl rfl rfl (hp1.mono (by decide)) (hp2.mono (by decide)) c2) (il_cons (I_fDiv (i := 2) (j := 2) (k := 6) rfl rfl rfl (hp2.mono (by decide)) (hp2.mono (by decide)) c2) (il_cons (I_fDiv (i := 3) (j := 2) (k := 7) rfl rfl rfl (hp3.mono (by decide)) (hp2.mono (by decide)) c2) (il_cons (I_whole (kq := [4, 5, 6, 7]) (q := (Qq.mk (p0.div p2) (p1.div p2) (p2.div p2) (p3.div p2))) (kr := [4, 5, 6, 7]) ⟨rfl, rfl, rfl, rfl, trivial⟩ ⟨rfl, rfl, rfl, rfl, trivial⟩ (⟨(hp0.div hp2 c2).mono (by decide), (hp1.div hp2 c2).mono (by decide), (hp2.div hp2 c2).mono (by decide), (hp3.div hp2 c2).mono (by decide)⟩ : Qq.ok 1000000000 (Qq.mk (p0.div p2) (p1.div p2) (p2.div p2) (p3.div p2)))) il_nil))))))))
          (ol_cons (o_eql (n := 24) (c := 0) (t := 3) rfl (sgn_eq c2)) (ol_nil)) (by kernel_rfl) Tryz.func51 (by kernel_rfl) ⟨(fr_isQ (xs := xfMakeT1X p0 p1 p2 p3) (k := 0) rfl).2 ip0, ⟨(fr_isQ (xs := xfMakeT1X p0 p1 p2 p3) (k := 1) rfl).2 ip1, ⟨(fr_isQ (xs := xfMakeT1X p0 p1 p2 p3) (k := 2) rfl).2 ip2, ⟨(fr_isQ (xs := xfMakeT1X p0 p1 p2 p3) (k := 3) rfl).2 ip3, trivial⟩⟩⟩⟩).mono ?_
        rintro e w' ⟨v, rfl, ⟨vs, rfl, h1⟩, h2⟩
        match vs, h1 with
        | [r, c], h1 =>
          obtain ⟨⟨cs, rfl, k1⟩, k2, _⟩ := h1
          have k2 : c = _ := k2
          subst k2
          exact ⟨_, rfl, (row_isL (xs := xfMakeT1X p0 p1 p2 p3) (ks := [4, 5, 6, 7]) (vs := [(p0.div p2), (p1.div p2), (p2.div p2), (p3.div p2)]) ⟨rfl, rfl, rfl, rfl, trivial⟩).1 ⟨_, rfl, k1⟩, h2⟩
    · have e1 : (Qq.mk p0 p1 p2 p3).first = p1 := by simp [Qq.first, c0, c1]
      rw [canon_eq h0, e1]
      refine (calls_runFn (ρ := frs (xfMakeT2X p0 p1 p2 p3) ++ [.val (.int .i64 p1.sgn)]) (w := w) (fuel := 300) (args := [fr 0, fr 1, fr 2, fr 3]) (vs := [vp0, vp1, vp2, vp3]) (r := .tup [row [4, 5, 6, 7], .one (.i .i64 0)])
        (il_cons (I_fSign (i := 0) rfl (li (sgn0 c0)) (hp0.mono (by decide))) (il_cons (I_fSign (i := 1) rfl (lr (n := 24) rfl) (hp1.mono (by decide))) (il_cons (I_fDiv (i := 0) (j := 1) (k := 4) rfl rfl rfl (hp0.mono (by decide)) (hp1.mono (by decide)) c1) (il_cons (I_fDiv (i := 1) (j := 1) (k := 5) rfl rfl rfl (hp1.mono (by decide)) (hp1.mono (by decide)) c1) (il_cons (I_fDiv (i := 2) (j := 1) (k := 6) rfl rfl rfl (hp2.mono (by decide)) (hp1.mono (by decide)) c1) (il_cons (I_fDiv (i := 3) (j := 1) (k := 7) rfl rfl rfl (hp3.mono (by decide)) (hp1.mono (by decide)) c1) (il_cons (I_whole (kq := [4, 5, 6, 7]) (q := (Qq.mk (p0.div p1) (p1.div p1) (p2.div p1) (p3.div p1))) (kr := [4, 5, 6, 7]) ⟨rfl, rfl, rfl, rfl, trivial⟩ ⟨rfl, rfl, rfl, rfl, trivial⟩ (⟨(hp0.div hp1 c1).mono (by decide), (hp1.div hp1 c1).mono (by decide), (hp2.div hp1 c1).mono (by decide), (hp3.div hp1 c1).mono (by decide)⟩ : Qq.ok 1000000000 (Qq.mk (p0.div p1) (p1.div p1) (p2.div p1) (p3.div p1)))) il_nil)))))))
        (ol_cons (o_eql (n := 24) (c := 0) (t := 3) rfl (sgn_eq c1)) (ol_nil)) (by kernel_rfl) Tryz.func51 (by kernel_rfl) ⟨(fr_isQ (xs := xfMakeT2X p0 p1 p2 p3) (k := 0) rfl).2 ip0, ⟨(fr_isQ (xs := xfMakeT2X p0 p1 p2 p3) (k := 1) rfl).2 ip1, ⟨(fr_isQ (xs := xfMakeT2X p0 p1 p2 p3) (k := 2) rfl).2 ip2, ⟨(fr_isQ (xs := xfMakeT2X p0 p1 p2 p3) (k := 3) rfl).2 ip3, trivial⟩⟩⟩⟩).mono ?_
      rintro e w' ⟨v, rfl, ⟨vs, rfl, h1⟩, h2⟩
      match vs, h1 with
      | [r, c], h1 =>
        obtain ⟨⟨cs, rfl, k1⟩, k2, _⟩ := h1
        have k2 : c = _ := k2
        subst k2
        exact ⟨_, rfl, (row_isL (xs := xfMakeT2X p0 p1 p2 p3) (ks := [4, 5, 6, 7]) (vs := [(p0.div p1), (p1.div p1), (p2.div p1), (p3.div p1)]) ⟨rfl, rfl, rfl, rfl, trivial⟩).1 ⟨_, rfl, k1⟩, h2⟩
  · have e1 : (Qq.mk p0 p1 p2 p3).first = p0 := by simp [Qq.first, c0]
    rw [canon_eq h0, e1]
    refine (calls_runFn (ρ := frs (xfMakeT3X p0 p1 p2 p3) ++ [.val (.int .i64 p0.sgn)]) (w := w) (fuel := 300) (args := [fr 0, fr 1, fr 2, fr 3]) (vs := [vp0, vp1, vp2, vp3]) (r := .tup [row [4, 5, 6, 7], .one (.i .i64 0)])
      (il_cons (I_fSign (i := 0) rfl (lr (n := 24) rfl) (hp0.mono (by decide))) (il_cons (I_fDiv (i := 0) (j := 0) (k := 4) rfl rfl rfl (hp0.mono (by decide)) (hp0.mono (by decide)) c0) (il_cons (I_fDiv (i := 1) (j := 0) (k := 5) rfl rfl rfl (hp1.mono (by decide)) (hp0.mono (by decide)) c0) (il_cons (I_fDiv (i := 2) (j := 0) (k := 6) rfl rfl rfl (hp2.mono (by decide)) (hp0.mono (by decide)) c0) (il_cons (I_fDiv (i := 3) (j := 0) (k := 7) rfl rfl rfl (hp3.mono (by decide)) (hp0.mono (by decide)) c0) (il_cons (I_whole (kq := [4, 5, 6, 7]) (q := (Qq.mk (p0.div p0) (p1.div p0) (p2.div p0) (p3.div p0))) (kr := [4, 5, 6, 7]) ⟨rfl, rfl, rfl, rfl, trivial⟩ ⟨rfl, rfl, rfl, rfl, trivial⟩ (⟨(hp0.div hp0 c0).mono (by decide), (hp1.div hp0 c0).mono (by decide), (hp2.div hp0 c0).mono (by decide), (hp3.div hp0 c0).mono (by decide)⟩ : Qq.ok 1000000000 (Qq.mk (p0.div p0) (p1.div p0) (p2.div p0) (p3.div p0)))) il_nil))))))
      (ol_cons (o_eql (n := 24) (c := 0) (t := 3) rfl (sgn_eq c0)) (ol_nil)) (by kernel_rfl) Tryz.func51 (by kernel_rfl) ⟨(fr_isQ (xs := xfMakeT3X p0 p1 p2 p3) (k := 0) rfl).2 ip0, ⟨(fr_isQ (xs := xfMakeT3X p0 p1 p2 p3) (k := 1) rfl).2 ip1, ⟨(fr_isQ (xs := xfMakeT3X p0 p1 p2 p3) (k := 2) rfl).2 ip2, ⟨(fr_isQ (xs := xfMakeT3X p0 p1 p2 p3) (k := 3) rfl).2 ip3, trivial⟩⟩⟩⟩).mono ?_
    rintro e w' ⟨v, rfl, ⟨vs, rfl, h1⟩, h2⟩
    match vs, h1 with
    | [r, c], h1 =>
      obtain ⟨⟨cs, rfl, k1⟩, k2, _⟩ := h1
      have k2 : c = _ := k2
      subst k2
      exact ⟨_, rfl, (row_isL (xs := xfMakeT3X p0 p1 p2 p3) (ks := [4, 5, 6, 7]) (vs := [(p0.div p0), (p1.div p0), (p2.div p0), (p3.div p0)]) ⟨rfl, rfl, rfl, rfl, trivial⟩).1 ⟨_, rfl, k1⟩, h2⟩
theorem I_fMakeT {xs : List Fq} {ys : Rho} {ip0 : Nat} {ip1 : Nat} {ip2 : Nat} {ip3 : Nat} {p0 : Fq} {p1 : Fq} {p2 : Fq} {p3 : Fq} {kr : List Nat} (ap0 : xs[ip0]? = some p0) (ap1 : xs[ip1]? = some p1) (ap2 : xs[ip2]? = some p2) (ap3 : xs[ip3]? = some p3) (ar : AtL xs kr [(Qq.mk p0 p1 p2 p3).canon.w, (Qq.mk p0 p1 p2 p3).canon.x, (Qq.mk p0 p1 p2 p3).canon.y, (Qq.mk p0 p1 p2 p3).canon.z]) (hp0 : p0.ok 100000000) (hp1 : p1.ok 100000000) (hp2 : p2.ok 100000000) (hp3 : p3.ok 100000000) (h0 : (Qq.mk p0 p1 p2 p3).first.p ≠ 0) : OkI xs ys ⟨51, [fr ip0, fr ip1, fr ip2, fr ip3], .tup [row kr, .one (.i .i64 0)]⟩ :=
  ⟨enters Tryz.func51 rfl rfl, fun B w vs h => by
    match vs, h with
    | [vp0, vp1, vp2, vp3], h =>
      refine (q_fMakeT vp0 vp1 vp2 vp3 p0 p1 p2 p3 w ((fr_isQ ap0).1 h.1) ((fr_isQ ap1).1 h.2.1) ((fr_isQ ap2).1 h.2.2.1) ((fr_isQ ap3).1 h.2.2.2.1) hp0 hp1 hp2 hp3 h0).mono ?_
      rintro e w' ⟨v, rfl, h1, h2⟩
      exact ⟨_, rfl, ⟨[v, .int .i64 0], rfl, (row_isL ar).2 h1, rfl, trivial⟩, h2⟩⟩
def xrCanonX (u : Fq) (c : Vq) : List Fq := [u, c.x, c.y, c.z, (Qq.mk u c.x c.y c.z).canon.w, (Qq.mk u c.x c.y c.z).canon.x, (Qq.mk u c.x c.y c.z).canon.y, (Qq.mk u c.x c.y c.z).canon.z]
theorem q_rCanon (vu vc : Value) (u : Fq) (c : Vq) (w : World) (iu : IsQ w vu u) (ic : IsVq w vc c) (hu : u.ok 100000000) (hc : c.ok 100000000) (h0 : (Qq.mk u c.x c.y c.z).first.p ≠ 0) :
    Calls Tryz.prog 43 #[vu, vc] w fun e w' => RetQt w (Qq.mk u c.x c.y c.z).canon e w' := by
  refine (calls_runFn (ρ := frs (xrCanonX u c) ++ []) (w := w) (fuel := 300) (args := [fr 0, row [1, 2, 3]]) (vs := [vu, vc]) (r := .v (row [4, 5, 6, 7]))
    (il_cons (I_rMakeT (ip0 := 0) (ip1 := 1) (ip2 := 2) (ip3 := 3) (kr := [4, 5, 6, 7]) rfl rfl rfl rfl ⟨rfl, rfl, rfl, rfl, trivial⟩ (hu.mono (by decide)) (hc.x.mono (by decide)) (hc.y.mono (by decide)) (hc.z.mono (by decide)) h0) il_nil)
    ol_nil (by kernel_rfl) Tryz.func43 (by kernel_rfl) ⟨(fr_isQ (xs := xrCanonX u c) (k := 0) rfl).2 iu, ⟨(row_isL (xs := xrCanonX u c) (ks := [1, 2, 3]) (vs := [c.x, c.y, c.z]) ⟨rfl, rfl, rfl, trivial⟩).2 ic, trivial⟩⟩).mono ?_
  rintro e w' ⟨v, rfl, h1, h2⟩
  exact ⟨v, rfl, (row_isL (xs := xrCanonX u c) (ks := [4, 5, 6, 7]) (vs := [(Qq.mk u c.x c.y c.z).canon.w, (Qq.mk u c.x c.y c.z).canon.x, (Qq.mk u c.x c.y c.z).canon.y, (Qq.mk u c.x c.y c.z).canon.z]) ⟨rfl, rfl, rfl, rfl, trivial⟩).1 h1, h2⟩
theorem I_rCanon {xs : List Fq} {ys : Rho} {iu : Nat} {kc : List Nat} {u : Fq} {c : Vq} {kr : List Nat} (au : xs[iu]? = some u) (ac : AtL xs kc [c.x, c.y, c.z]) (ar : AtL xs kr [(Qq.mk u c.x c.y c.z).canon.w, (Qq.mk u c.x c.y c.z).canon.x, (Qq.mk u c.x c.y c.z).canon.y, (Qq.mk u c.x c.y c.z).canon.z]) (hu : u.ok 100000000) (hc : c.ok 100000000) (h0 : (Qq.mk u c.x c.y c.z).first.p ≠ 0) : OkI xs ys ⟨43, [fr iu, row kc], .v (row kr)⟩ :=
  ⟨enters Tryz.func43 rfl rfl, fun B w vs h => by
    match vs, h with
    | [vu, vc], h =>
      refine (q_rCanon vu vc u c w ((fr_isQ au).1 h.1) ((row_isL ac).1 h.2.1) hu hc h0).mono ?_
      rintro e w' ⟨v, rfl, h1, h2⟩
      exact ⟨v, rfl, (row_isL ar).2 h1, h2⟩⟩
def xfCanonX (u : Fq) (c : Vq) : List Fq := [u, c.x, c.y, c.z, (Qq.mk u c.x c.y c.z).canon.w, (Qq.mk u c.x c.y c.z).canon.x, (Qq.mk u c.x c.y c.z).canon.y, (Qq.mk u c.x c.y c.z).canon.z]
theorem q_fCanon (vu vc : Value) (u : Fq) (c : Vq) (w : World) (iu : IsQ w vu u) (ic : IsVq w vc c) (hu : u.ok 100000000) (hc : c.ok 100000000) (h0 : (Qq.mk u c.x c.y c.z).first.p ≠ 0) :
    Calls Tryz.prog 42 #[vu, vc] w fun e w' => RetQt w (Qq.mk u c.x c.y c.z).canon e w' := by
  refine (calls_runFn (ρ := frs (xfCanonX u c) ++ []) (w := w) (fuel := 300) (args := [fr 0, row [1, 2, 3]]) (vs := [vu, vc]) (r := .v (row [4, 5, 6, 7]))
    (il_cons (I_fMakeT (ip0 := 0) (ip1 := 1) (ip2 := 2) (ip3 := 3) (kr := [4, 5, 6, 7]) rfl rfl rfl rfl ⟨rfl, rfl, rfl, rfl, trivial⟩ (hu.mono (by decide)) (hc.x.mono (by decide)) (hc.y.mono (by decide)) (hc.z.mono (by decide)) h0) il_nil)
    ol_nil (by kernel_rfl) Tryz.func42 (by kernel_rfl) ⟨(fr_isQ (xs := xfCanonX u c) (k := 0) rfl).2 iu, ⟨(row_isL (xs := xfCanonX u c) (ks := [1, 2, 3]) (vs := [c.x, c.y, c.z]) ⟨rfl, rfl, rfl, trivial⟩).2 ic, trivial⟩⟩).mono ?_
  rintro e w' ⟨v, rfl, h1, h2⟩
  exact ⟨v, rfl, (row_isL (xs := xfCanonX u c) (ks := [4, 5, 6, 7]) (vs := [(Qq.mk u c.x c.y c.z).canon.w, (Qq.mk u c.x c.y c.z).canon.x, (Qq.mk u c.x c.y c.z).canon.y, (Qq.mk u c.x c.y c.z).canon.z]) ⟨rfl, rfl, rfl, rfl, trivial⟩).1 h1, h2⟩
theorem I_fCanon {xs : List Fq} {ys : Rho} {iu : Nat} {kc : List Nat} {u : Fq} {c : Vq} {kr : List Nat} (au : xs[iu]? = some u) (ac : AtL xs kc [c.x, c.y, c.z]) (ar : AtL xs kr [(Qq.mk u c.x c.y c.z).canon.w, (Qq.mk u c.x c.y c.z).canon.x, (Qq.mk u c.x c.y c.z).canon.y, (Qq.mk u c.x c.y c.z).canon.z]) (hu : u.ok 100000000) (hc : c.ok 100000000) (h0 : (Qq.mk u c.x c.y c.z).first.p ≠ 0) : OkI xs ys ⟨42, [fr iu, row kc], .v (row kr)⟩ :=
  ⟨enters Tryz.func42 rfl rfl, fun B w vs h => by
    match vs, h with
    | [vu, vc], h =>
      refine (q_fCanon vu vc u c w ((fr_isQ au).1 h.1) ((row_isL ac).1 h.2.1) hu hc h0).mono ?_
      rintro e w' ⟨v, rfl, h1, h2⟩
      exact ⟨v, rfl, (row_isL ar).2 h1, h2⟩⟩
end Go.Proofs.YthefidbgjgfeiaaGreat
