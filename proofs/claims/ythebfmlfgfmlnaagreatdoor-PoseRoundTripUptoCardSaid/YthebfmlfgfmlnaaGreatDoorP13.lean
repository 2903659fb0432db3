/- Rotations, by the executor. Rows of fractions as they come in. The reference's Valid at fractions of up to 1100000 digits. Make and canonical of rotations, by the executor. -/
import Derived.Test.YthebfmlfgfmlnaaGreatDoorP12
namespace Go.Proofs.YthebfmlfgfmlnaaGreatDoor
set_option linter.unusedSimpArgs false
set_option linter.unusedVariables false
set_option maxRecDepth 100000
open Go.RowKit
/-- Agreement of all parts. -/
def Vq.same (a b : Vq) : Bool := a.x.same b.x && (a.y.same b.y && a.z.same b.z)
def Qq.same (p q : Qq) : Bool := p.w.same q.w && (p.x.same q.x && (p.y.same q.y && p.z.same q.z))
theorem Vq.same_iff {a b : Vq} : a.same b = true ↔ a = b := by
  obtain ⟨a1, a2, a3⟩ := a; obtain ⟨b1, b2, b3⟩ := b
  simp [Vq.same, Fq.same_iff]
theorem Qq.same_iff {a b : Qq} : a.same b = true ↔ a = b := by
  obtain ⟨a1, a2, a3, a4⟩ := a; obtain ⟨b1, b2, b3, b4⟩ := b
  simp [Qq.same, Fq.same_iff]
def xrDotX (a : Vq) (b : Vq) : List Fq := [a.x, a.y, a.z, b.x, b.y, b.z, (a.x.mul b.x), (a.y.mul b.y), (a.z.mul b.z), ((a.y.mul b.y).add (a.z.mul b.z)), ((a.x.mul b.x).add ((a.y.mul b.y).add (a.z.mul b.z)))]
theorem q_rDot (va vb : Value) (a : Vq) (b : Vq) (w : World) (ia : IsVq w va a) (ib : IsVq w vb b) (ha : a.ok 100000000) (hb : b.ok 100000000) :
    Calls Tryz.prog 123 #[va, vb] w fun e w' => RetQ w (a.dot b) e w' := by
  refine (calls_runFn (ρ := frs (xrDotX a b) ++ []) (w := w) (fuel := 300) (args := [row [0, 1, 2], row [3, 4, 5]]) (vs := [va, vb]) (r := .v (fr 10))
    (il_cons (I_rMul (i := 0) (j := 3) (k := 6) rfl rfl rfl (ha.x.mono (by decide)) (hb.x.mono (by decide))) (il_cons (I_rMul (i := 1) (j := 4) (k := 7) rfl rfl rfl (ha.y.mono (by decide)) (hb.y.mono (by decide))) (il_cons (I_rMul (i := 2) (j := 5) (k := 8) rfl rfl rfl (ha.z.mono (by decide)) (hb.z.mono (by decide))) (il_cons (I_rAdd (i := 7) (j := 8) (k := 9) rfl rfl rfl ((ha.y.mul hb.y).mono (by decide)) ((ha.z.mul hb.z).mono (by decide))) (il_cons (I_rAdd (i := 6) (j := 9) (k := 10) rfl rfl rfl ((ha.x.mul hb.x).mono (by decide)) (((ha.y.mul hb.y).add (ha.z.mul hb.z)).mono (by decide))) il_nil)))))
    ol_nil (by kernel_rfl) Tryz.func123 (by kernel_rfl) ⟨(row_isL (xs := xrDotX a b) (ks := [0, 1, 2]) (vs := [a.x, a.y, a.z]) ⟨rfl, rfl, rfl, trivial⟩).2 ia, ⟨(row_isL (xs := xrDotX a b) (ks := [3, 4, 5]) (vs := [b.x, b.y, b.z]) ⟨rfl, rfl, rfl, trivial⟩).2 ib, trivial⟩⟩).mono ?_
  rintro e w' ⟨v, rfl, h1, h2⟩
  exact ⟨v, rfl, (fr_isQ (xs := xrDotX a b) (k := 10) rfl).1 h1, h2⟩
theorem I_rDot {xs : List Fq} {ys : Rho} {ka : List Nat} {kb : List Nat} {a : Vq} {b : Vq} {ir : Nat} (aa : AtL xs ka [a.x, a.y, a.z]) (ab : AtL xs kb [b.x, b.y, b.z]) (ar : xs[ir]? = some (a.dot b)) (ha : a.ok 100000000) (hb : b.ok 100000000) : OkI xs ys ⟨123, [row ka, row kb], .v (fr ir)⟩ :=
  ⟨enters Tryz.func123 rfl rfl, fun B w vs hB h => by
    match vs, h with
    | [va, vb], h =>
      refine (q_rDot va vb a b w ((row_isL aa).1 h.1) ((row_isL ab).1 h.2.1) ha hb).mono ?_
      rintro e w' ⟨v, rfl, h1, h2⟩
      exact ⟨v, rfl, (fr_isQ ar).2 h1, h2⟩⟩
def xrCrossX (a : Vq) (b : Vq) : List Fq := [a.x, a.y, a.z, b.x, b.y, b.z, (a.y.mul b.z), (a.z.mul b.y), ((a.y.mul b.z).sub (a.z.mul b.y)), (a.z.mul b.x), (a.x.mul b.z), ((a.z.mul b.x).sub (a.x.mul b.z)), (a.x.mul b.y), (a.y.mul b.x), ((a.x.mul b.y).sub (a.y.mul b.x))]
theorem q_rCross (va vb : Value) (a : Vq) (b : Vq) (w : World) (ia : IsVq w va a) (ib : IsVq w vb b) (ha : a.ok 100000000) (hb : b.ok 100000000) :
    Calls Tryz.prog 125 #[va, vb] w fun e w' => RetVq w (a.cross b) e w' := by
  refine (calls_runFn (ρ := frs (xrCrossX a b) ++ []) (w := w) (fuel := 300) (args := [row [0, 1, 2], row [3, 4, 5]]) (vs := [va, vb]) (r := .v (row [8, 11, 14]))
    (il_cons (I_rMul (i := 1) (j := 5) (k := 6) rfl rfl rfl (ha.y.mono (by decide)) (hb.z.mono (by decide))) (il_cons (I_rMul (i := 2) (j := 4) (k := 7) rfl rfl rfl (ha.z.mono (by decide)) (hb.y.mono (by decide))) (il_cons (I_rSub (i := 6) (j := 7) (k := 8) rfl rfl rfl ((ha.y.mul hb.z).mono (by decide)) ((ha.z.mul hb.y).mono (by decide))) (il_cons (I_rMul (i := 2) (j := 3) (k := 9) rfl rfl rfl (ha.z.mono (by decide)) (hb.x.mono (by decide))) (il_cons (I_rMul (i := 0) (j := 5) (k := 10) rfl rfl rfl (ha.x.mono (by decide)) (hb.z.mono (by decide))) (il_cons (I_rSub (i := 9) (j := 10) (k := 11) rfl rfl rfl ((ha.z.mul hb.x).mono (by decide)) ((ha.x.mul hb.z).mono (by decide))) (il_cons (I_rMul (i := 0) (j := 4) (k := 12) rfl rfl rfl (ha.x.mono (by decide)) (hb.y.mono (by decide))) (il_cons (I_rMul (i := 1) (j := 3) (k := 13) rfl rfl rfl (ha.y.mono (by decide)) (hb.x.mono (by decide))) (il_cons (I_rSub (i := 12) (j := 13) (k := 14) rfl rfl rfl ((ha.x.mul hb.y).mono (by decide)) ((ha.y.mul hb.x).mono (by decide))) il_nil)))))))))
    ol_nil (by kernel_rfl) Tryz.func125 (by kernel_rfl) ⟨(row_isL (xs := xrCrossX a b) (ks := [0, 1, 2]) (vs := [a.x, a.y, a.z]) ⟨rfl, rfl, rfl, trivial⟩).2 ia, ⟨(row_isL (xs := xrCrossX a b) (ks := [3, 4, 5]) (vs := [b.x, b.y, b.z]) ⟨rfl, rfl, rfl, trivial⟩).2 ib, trivial⟩⟩).mono ?_
  rintro e w' ⟨v, rfl, h1, h2⟩
  exact ⟨v, rfl, (row_isL (xs := xrCrossX a b) (ks := [8, 11, 14]) (vs := [((a.y.mul b.z).sub (a.z.mul b.y)), ((a.z.mul b.x).sub (a.x.mul b.z)), ((a.x.mul b.y).sub (a.y.mul b.x))]) ⟨rfl, rfl, rfl, trivial⟩).1 h1, h2⟩
theorem I_rCross {xs : List Fq} {ys : Rho} {ka : List Nat} {kb : List Nat} {a : Vq} {b : Vq} {kr : List Nat} (aa : AtL xs ka [a.x, a.y, a.z]) (ab : AtL xs kb [b.x, b.y, b.z]) (ar : AtL xs kr [(a.cross b).x, (a.cross b).y, (a.cross b).z]) (ha : a.ok 100000000) (hb : b.ok 100000000) : OkI xs ys ⟨125, [row ka, row kb], .v (row kr)⟩ :=
  ⟨enters Tryz.func125 rfl rfl, fun B w vs hB h => by
    match vs, h with
    | [va, vb], h =>
      refine (q_rCross va vb a b w ((row_isL aa).1 h.1) ((row_isL ab).1 h.2.1) ha hb).mono ?_
      rintro e w' ⟨v, rfl, h1, h2⟩
      exact ⟨v, rfl, (row_isL ar).2 h1, h2⟩⟩
def xrScaleX (a : Vq) (k : Fq) : List Fq := [a.x, a.y, a.z, k, (a.x.mul k), (a.y.mul k), (a.z.mul k)]
theorem q_rScale (va vk : Value) (a : Vq) (k : Fq) (w : World) (ia : IsVq w va a) (ik : IsQ w vk k) (ha : a.ok 100000000) (hk : k.ok 100000000) :
    Calls Tryz.prog 124 #[va, vk] w fun e w' => RetVq w (a.scale k) e w' := by
  refine (calls_runFn (ρ := frs (xrScaleX a k) ++ []) (w := w) (fuel := 300) (args := [row [0, 1, 2], fr 3]) (vs := [va, vk]) (r := .v (row [4, 5, 6]))
    (il_cons (I_rMul (i := 0) (j := 3) (k := 4) rfl rfl rfl (ha.x.mono (by decide)) (hk.mono (by decide))) (il_cons (I_rMul (i := 1) (j := 3) (k := 5) rfl rfl rfl (ha.y.mono (by decide)) (hk.mono (by decide))) (il_cons (I_rMul (i := 2) (j := 3) (k := 6) rfl rfl rfl (ha.z.mono (by decide)) (hk.mono (by decide))) il_nil)))
    ol_nil (by kernel_rfl) Tryz.func124 (by kernel_rfl) ⟨(row_isL (xs := xrScaleX a k) (ks := [0, 1, 2]) (vs := [a.x, a.y, a.z]) ⟨rfl, rfl, rfl, trivial⟩).2 ia, ⟨(fr_isQ (xs := xrScaleX a k) (k := 3) rfl).2 ik, trivial⟩⟩).mono ?_
  rintro e w' ⟨v, rfl, h1, h2⟩
  exact ⟨v, rfl, (row_isL (xs := xrScaleX a k) (ks := [4, 5, 6]) (vs := [(a.x.mul k), (a.y.mul k), (a.z.mul k)]) ⟨rfl, rfl, rfl, trivial⟩).1 h1, h2⟩
theorem I_rScale {xs : List Fq} {ys : Rho} {ka : List Nat} {ik : Nat} {a : Vq} {k : Fq} {kr : List Nat} (aa : AtL xs ka [a.x, a.y, a.z]) (ak : xs[ik]? = some k) (ar : AtL xs kr [(a.scale k).x, (a.scale k).y, (a.scale k).z]) (ha : a.ok 100000000) (hk : k.ok 100000000) : OkI xs ys ⟨124, [row ka, fr ik], .v (row kr)⟩ :=
  ⟨enters Tryz.func124 rfl rfl, fun B w vs hB h => by
    match vs, h with
    | [va, vk], h =>
      refine (q_rScale va vk a k w ((row_isL aa).1 h.1) ((fr_isQ ak).1 h.2.1) ha hk).mono ?_
      rintro e w' ⟨v, rfl, h1, h2⟩
      exact ⟨v, rfl, (row_isL ar).2 h1, h2⟩⟩
def xrSumX (a : Vq) (b : Vq) : List Fq := [a.x, a.y, a.z, b.x, b.y, b.z, (a.x.add b.x), (a.y.add b.y), (a.z.add b.z)]
theorem q_rSum (va vb : Value) (a : Vq) (b : Vq) (w : World) (ia : IsVq w va a) (ib : IsVq w vb b) (ha : a.ok 100000000) (hb : b.ok 100000000) :
    Calls Tryz.prog 126 #[va, vb] w fun e w' => RetVq w (a.add b) e w' := by
  refine (calls_runFn (ρ := frs (xrSumX a b) ++ []) (w := w) (fuel := 300) (args := [row [0, 1, 2], row [3, 4, 5]]) (vs := [va, vb]) (r := .v (row [6, 7, 8]))
    (il_cons (I_rAdd (i := 0) (j := 3) (k := 6) rfl rfl rfl (ha.x.mono (by decide)) (hb.x.mono (by decide))) (il_cons (I_rAdd (i := 1) (j := 4) (k := 7) rfl rfl rfl (ha.y.mono (by decide)) (hb.y.mono (by decide))) (il_cons (I_rAdd (i := 2) (j := 5) (k := 8) rfl rfl rfl (ha.z.mono (by decide)) (hb.z.mono (by decide))) il_nil)))
    ol_nil (by kernel_rfl) Tryz.func126 (by kernel_rfl) ⟨(row_isL (xs := xrSumX a b) (ks := [0, 1, 2]) (vs := [a.x, a.y, a.z]) ⟨rfl, rfl, rfl, trivial⟩).2 ia, ⟨(row_isL (xs := xrSumX a b) (ks := [3, 4, 5]) (vs := [b.x, b.y, b.z]) ⟨rfl, rfl, rfl, trivial⟩).2 ib, trivial⟩⟩).mono ?_
  rintro e w' ⟨v, rfl, h1, h2⟩
  exact ⟨v, rfl, (row_isL (xs := xrSumX a b) (ks := [6, 7, 8]) (vs := [(a.x.add b.x), (a.y.add b.y), (a.z.add b.z)]) ⟨rfl, rfl, rfl, trivial⟩).1 h1, h2⟩
theorem I_rSum {xs : List Fq} {ys : Rho} {ka : List Nat} {kb : List Nat} {a : Vq} {b : Vq} {kr : List Nat} (aa : AtL xs ka [a.x, a.y, a.z]) (ab : AtL xs kb [b.x, b.y, b.z]) (ar : AtL xs kr [(a.add b).x, (a.add b).y, (a.add b).z]) (ha : a.ok 100000000) (hb : b.ok 100000000) : OkI xs ys ⟨126, [row ka, row kb], .v (row kr)⟩ :=
  ⟨enters Tryz.func126 rfl rfl, fun B w vs hB h => by
    match vs, h with
    | [va, vb], h =>
      refine (q_rSum va vb a b w ((row_isL aa).1 h.1) ((row_isL ab).1 h.2.1) ha hb).mono ?_
      rintro e w' ⟨v, rfl, h1, h2⟩
      exact ⟨v, rfl, (row_isL ar).2 h1, h2⟩⟩
theorem same_ne {x y : Fq} (h : x ≠ y) : x.same y = false := Bool.eq_false_iff.2 (mt Fq.same_iff.1 h)
def xrEqual1X (a : Qq) (b : Qq) : List Fq := [a.w, a.x, a.y, a.z, b.w, b.x, b.y, b.z]
theorem q_rEqual1 (va vb : Value) (a : Qq) (b : Qq) (w : World) (ia : IsQt w va a) (ib : IsQt w vb b) (ha : a.ok 1000000000) (hb : b.ok 1000000000) (e0 : a = b) :
    Calls Tryz.prog 50 #[va, vb] w fun e w' => RetV w (.bool true) e w' := by
  refine (calls_runFn (ρ := frs (xrEqual1X a b) ++ []) (w := w) (fuel := 300) (args := [row [0, 1, 2, 3], row [4, 5, 6, 7]]) (vs := [va, vb]) (r := .v (.one (.b true)))
    (il_cons (I_rSame (i := 0) (j := 4) (l := .b true) rfl rfl (lb (Fq.same_iff.2 (congrArg Qq.w e0))) (ha.w.mono (by decide)).p (ha.w.mono (by decide)).q (hb.w.mono (by decide)).p (hb.w.mono (by decide)).q) (il_cons (I_rSame (i := 1) (j := 5) (l := .b true) rfl rfl (lb (Fq.same_iff.2 (congrArg Qq.x e0))) (ha.x.mono (by decide)).p (ha.x.mono (by decide)).q (hb.x.mono (by decide)).p (hb.x.mono (by decide)).q) (il_cons (I_rSame (i := 2) (j := 6) (l := .b true) rfl rfl (lb (Fq.same_iff.2 (congrArg Qq.y e0))) (ha.y.mono (by decide)).p (ha.y.mono (by decide)).q (hb.y.mono (by decide)).p (hb.y.mono (by decide)).q) (il_cons (I_rSame (i := 3) (j := 7) (l := .b true) rfl rfl (lb (Fq.same_iff.2 (congrArg Qq.z e0))) (ha.z.mono (by decide)).p (ha.z.mono (by decide)).q (hb.z.mono (by decide)).p (hb.z.mono (by decide)).q) il_nil))))
    ol_nil (by kernel_rfl) Tryz.func50 (by kernel_rfl) ⟨(row_isL (xs := xrEqual1X a b) (ks := [0, 1, 2, 3]) (vs := [a.w, a.x, a.y, a.z]) ⟨rfl, rfl, rfl, rfl, trivial⟩).2 ia, ⟨(row_isL (xs := xrEqual1X a b) (ks := [4, 5, 6, 7]) (vs := [b.w, b.x, b.y, b.z]) ⟨rfl, rfl, rfl, rfl, trivial⟩).2 ib, trivial⟩⟩).mono ?_
  rintro e w' ⟨v, rfl, h1, h2⟩
  exact ⟨congrArg Ending.returned h1, h2⟩
theorem I_rEqual1 {xs : List Fq} {ys : Rho} {ka : List Nat} {kb : List Nat} {a : Qq} {b : Qq}  (aa : AtL xs ka [a.w, a.x, a.y, a.z]) (ab : AtL xs kb [b.w, b.x, b.y, b.z])  (ha : a.ok 1000000000) (hb : b.ok 1000000000) (e0 : a = b) : OkI xs ys ⟨50, [row ka, row kb], .v (.one (.b true))⟩ :=
  ⟨enters Tryz.func50 rfl rfl, fun B w vs hB h => by
    match vs, h with
    | [va, vb], h =>
      refine (q_rEqual1 va vb a b w ((row_isL aa).1 h.1) ((row_isL ab).1 h.2.1) ha hb e0).mono ?_
      rintro e w' ⟨rfl, h2⟩
      exact ⟨_, rfl, rfl, h2⟩⟩
def xrEqual0X (a : Qq) (b : Qq) : List Fq := [a.w, a.x, a.y, a.z, b.w, b.x, b.y, b.z]
def xrEqual01X (a : Qq) (b : Qq) : List Fq := [a.w, a.x, a.y, a.z, b.w, b.x, b.y, b.z]
def xrEqual02X (a : Qq) (b : Qq) : List Fq := [a.w, a.x, a.y, a.z, b.w, b.x, b.y, b.z]
def xrEqual03X (a : Qq) (b : Qq) : List Fq := [a.w, a.x, a.y, a.z, b.w, b.x, b.y, b.z]
theorem q_rEqual0 (va vb : Value) (a : Qq) (b : Qq) (w : World) (ia : IsQt w va a) (ib : IsQt w vb b) (ha : a.ok 1000000000) (hb : b.ok 1000000000) (e0 : a ≠ b) :
    Calls Tryz.prog 50 #[va, vb] w fun e w' => RetV w (.bool false) e w' := by
  by_cases c0 : a.w = b.w
  · by_cases c1 : a.x = b.x
    · by_cases c2 : a.y = b.y
      · by_cases c3 : a.z = b.z
        · exact absurd (by cases a; cases b; simp only at c0 c1 c2 c3; subst c0 c1 c2 c3; rfl) e0
        · refine (calls_runFn (ρ := frs (xrEqual0X a b) ++ []) (w := w) (fuel := 300) (args := [row [0, 1, 2, 3], row [4, 5, 6, 7]]) (vs := [va, vb]) (r := .v (.one (.b false)))
            (il_cons (I_rSame (i := 0) (j := 4) (l := .b true) rfl rfl (lb (Fq.same_iff.2 c0)) (ha.w.mono (by decide)).p (ha.w.mono (by decide)).q (hb.w.mono (by decide)).p (hb.w.mono (by decide)).q) (il_cons (I_rSame (i := 1) (j := 5) (l := .b true) rfl rfl (lb (Fq.same_iff.2 c1)) (ha.x.mono (by decide)).p (ha.x.mono (by decide)).q (hb.x.mono (by decide)).p (hb.x.mono (by decide)).q) (il_cons (I_rSame (i := 2) (j := 6) (l := .b true) rfl rfl (lb (Fq.same_iff.2 c2)) (ha.y.mono (by decide)).p (ha.y.mono (by decide)).q (hb.y.mono (by decide)).p (hb.y.mono (by decide)).q) (il_cons (I_rSame (i := 3) (j := 7) (l := .b false) rfl rfl (lb (same_ne c3)) (ha.z.mono (by decide)).p (ha.z.mono (by decide)).q (hb.z.mono (by decide)).p (hb.z.mono (by decide)).q) il_nil))))
            ol_nil (by kernel_rfl) Tryz.func50 (by kernel_rfl) ⟨(row_isL (xs := xrEqual0X a b) (ks := [0, 1, 2, 3]) (vs := [a.w, a.x, a.y, a.z]) ⟨rfl, rfl, rfl, rfl, trivial⟩).2 ia, ⟨(row_isL (xs := xrEqual0X a b) (ks := [4, 5, 6, 7]) (vs := [b.w, b.x, b.y, b.z]) ⟨rfl, rfl, rfl, rfl, trivial⟩).2 ib, trivial⟩⟩).mono ?_
          rintro e w' ⟨v, rfl, h1, h2⟩
          exact ⟨congrArg Ending.returned h1, h2⟩
      · refine (calls_runFn (ρ := frs (xrEqual01X a b) ++ []) (w := w) (fuel := 300) (args := [row [0, 1, 2, 3], row [4, 5, 6, 7]]) (vs := [va, vb]) (r := .v (.one (.b false)))
          (il_cons (I_rSame (i := 0) (j := 4) (l := .b true) rfl rfl (lb (Fq.same_iff.2 c0)) (ha.w.mono (by decide)).p (ha.w.mono (by decide)).q (hb.w.mono (by decide)).p (hb.w.mono (by decide)).q) (il_cons (I_rSame (i := 1) (j := 5) (l := .b true) rfl rfl (lb (Fq.same_iff.2 c1)) (ha.x.mono (by decide)).p (ha.x.mono (by decide)).q (hb.x.mono (by decide)).p (hb.x.mono (by decide)).q) (il_cons (I_rSame (i := 2) (j := 6) (l := .b false) rfl rfl (lb (same_ne c2)) (ha.y.mono (by decide)).p (ha.y.mono (by decide)).q (hb.y.mono (by decide)).p (hb.y.mono (by decide)).q) il_nil)))
          ol_nil (by kernel_rfl) Tryz.func50 (by kernel_rfl) ⟨(row_isL (xs := xrEqual01X a b) (ks := [0, 1, 2, 3]) (vs := [a.w, a.x, a.y, a.z]) ⟨rfl, rfl, rfl, rfl, trivial⟩).2 ia, ⟨(row_isL (xs := xrEqual01X a b) (ks := [4, 5, 6, 7]) (vs := [b.w, b.x, b.y, b.z]) ⟨rfl, rfl, rfl, rfl, trivial⟩).2 ib, trivial⟩⟩).mono ?_
        rintro e w' ⟨v, rfl, h1, h2⟩
        exact ⟨congrArg Ending.returned h1, h2⟩
    · refine (calls_runFn (ρ := frs (xrEqual02X a b) ++ []) (w := w) (fuel := 300) (args := [row [0, 1, 2, 3], row [4, 5, 6, 7]]) (vs := [va, vb]) (r := .v (.one (.b false)))
        (il_cons (I_rSame (i := 0) (j := 4) (l := .b true) rfl rfl (lb (Fq.same_iff.2 c0)) (ha.w.mono (by decide)).p (ha.w.mono (by decide)).q (hb.w.mono (by decide)).p (hb.w.mono (by decide)).q) (il_cons (I_rSame (i := 1) (j := 5) (l := .b false) rfl rfl (lb (same_ne c1)) (ha.x.mono (by decide)).p (ha.x.mono (by decide)).q (hb.x.mono (by decide)).p (hb.x.mono (by decide)).q) il_nil))
        ol_nil (by kernel_rfl) Tryz.func50 (by kernel_rfl) ⟨(row_isL (xs := xrEqual02X a b) (ks := [0, 1, 2, 3]) (vs := [a.w, a.x, a.y, a.z]) ⟨rfl, rfl, rfl, rfl, trivial⟩).2 ia, ⟨(row_isL (xs := xrEqual02X a b) (ks := [4, 5, 6, 7]) (vs := [b.w, b.x, b.y, b.z]) ⟨rfl, rfl, rfl, rfl, trivial⟩).2 ib, trivial⟩⟩).mono ?_
      rintro e w' ⟨v, rfl, h1, h2⟩
      exact ⟨congrArg Ending.returned h1, h2⟩
  · refine (calls_runFn (ρ := frs (xrEqual03X a b) ++ []) (w := w) (fuel := 300) (args := [row [0, 1, 2, 3], row [4, 5, 6, 7]]) (vs := [va, vb]) (r := .v (.one (.b false)))
      (il_cons (I_rSame (i := 0) (j := 4) (l := .b false) rfl rfl (lb (same_ne c0)) (ha.w.mono (by decide)).p (ha.w.mono (by decide)).q (hb.w.mono (by decide)).p (hb.w.mono (by decide)).q) il_nil)
      ol_nil (by kernel_rfl) Tryz.func50 (by kernel_rfl) ⟨(row_isL (xs := xrEqual03X a b) (ks := [0, 1, 2, 3]) (vs := [a.w, a.x, a.y, a.z]) ⟨rfl, rfl, rfl, rfl, trivial⟩).2 ia, ⟨(row_isL (xs := xrEqual03X a b) (ks := [4, 5, 6, 7]) (vs := [b.w, b.x, b.y, b.z]) ⟨rfl, rfl, rfl, rfl, trivial⟩).2 ib, trivial⟩⟩).mono ?_
    rintro e w' ⟨v, rfl, h1, h2⟩
    exact ⟨congrArg Ending.returned h1, h2⟩
theorem I_rEqual0 {xs : List Fq} {ys : Rho} {ka : List Nat} {kb : List Nat} {a : Qq} {b : Qq}  (aa : AtL xs ka [a.w, a.x, a.y, a.z]) (ab : AtL xs kb [b.w, b.x, b.y, b.z])  (ha : a.ok 1000000000) (hb : b.ok 1000000000) (e0 : a ≠ b) : OkI xs ys ⟨50, [row ka, row kb], .v (.one (.b false))⟩ :=
  ⟨enters Tryz.func50 rfl rfl, fun B w vs hB h => by
    match vs, h with
    | [va, vb], h =>
      refine (q_rEqual0 va vb a b w ((row_isL aa).1 h.1) ((row_isL ab).1 h.2.1) ha hb e0).mono ?_
      rintro e w' ⟨rfl, h2⟩
      exact ⟨_, rfl, rfl, h2⟩⟩
theorem z0 : nl 0 ≤ 1000000000000 := by rw [nl_zero]; decide
def xaxisX (q : Qq) : List Fq := [q.w, q.x, q.y, q.z]
theorem q_axis (vq : Value) (q : Qq) (w : World) (iq : IsQt w vq q) (hq : q.ok 1000000000) :
    Calls Tryz.prog 114 #[vq] w fun e w' => RetVq w q.axis e w' := by
  refine (calls_runFn (ρ := frs (xaxisX q) ++ []) (w := w) (fuel := 300) (args := [row [0, 1, 2, 3]]) (vs := [vq]) (r := .v (row [1, 2, 3]))
    (il_nil)
    ol_nil (by kernel_rfl) Tryz.func114 (by kernel_rfl) ⟨(row_isL (xs := xaxisX q) (ks := [0, 1, 2, 3]) (vs := [q.w, q.x, q.y, q.z]) ⟨rfl, rfl, rfl, rfl, trivial⟩).2 iq, trivial⟩).mono ?_
  rintro e w' ⟨v, rfl, h1, h2⟩
  exact ⟨v, rfl, (row_isL (xs := xaxisX q) (ks := [1, 2, 3]) (vs := [q.x, q.y, q.z]) ⟨rfl, rfl, rfl, trivial⟩).1 h1, h2⟩
theorem I_axis {xs : List Fq} {ys : Rho} {kq : List Nat} {q : Qq} {kr : List Nat} (aq : AtL xs kq [q.w, q.x, q.y, q.z]) (ar : AtL xs kr [q.axis.x, q.axis.y, q.axis.z]) (hq : q.ok 1000000000) : OkI xs ys ⟨114, [row kq], .v (row kr)⟩ :=
  ⟨enters Tryz.func114 rfl rfl, fun B w vs hB h => by
    match vs, h with
    | [vq], h =>
      refine (q_axis vq q w ((row_isL aq).1 h.1) hq).mono ?_
      rintro e w' ⟨v, rfl, h1, h2⟩
      exact ⟨v, rfl, (row_isL ar).2 h1, h2⟩⟩
def xpartX (q : Qq) : List Fq := [q.w, q.x, q.y, q.z]
theorem q_part (vq : Value) (q : Qq) (w : World) (iq : IsQt w vq q) (hq : q.ok 1000000000) :
    Calls Tryz.prog 122 #[vq] w fun e w' => RetVq w q.axis e w' := by
  refine (calls_runFn (ρ := frs (xpartX q) ++ []) (w := w) (fuel := 300) (args := [row [0, 1, 2, 3]]) (vs := [vq]) (r := .v (row [1, 2, 3]))
    (il_nil)
    ol_nil (by kernel_rfl) Tryz.func122 (by kernel_rfl) ⟨(row_isL (xs := xpartX q) (ks := [0, 1, 2, 3]) (vs := [q.w, q.x, q.y, q.z]) ⟨rfl, rfl, rfl, rfl, trivial⟩).2 iq, trivial⟩).mono ?_
  rintro e w' ⟨v, rfl, h1, h2⟩
  exact ⟨v, rfl, (row_isL (xs := xpartX q) (ks := [1, 2, 3]) (vs := [q.x, q.y, q.z]) ⟨rfl, rfl, rfl, trivial⟩).1 h1, h2⟩
theorem I_part {xs : List Fq} {ys : Rho} {kq : List Nat} {q : Qq} {kr : List Nat} (aq : AtL xs kq [q.w, q.x, q.y, q.z]) (ar : AtL xs kr [q.axis.x, q.axis.y, q.axis.z]) (hq : q.ok 1000000000) : OkI xs ys ⟨122, [row kq], .v (row kr)⟩ :=
  ⟨enters Tryz.func122 rfl rfl, fun B w vs hB h => by
    match vs, h with
    | [vq], h =>
      refine (q_part vq q w ((row_isL aq).1 h.1) hq).mono ?_
      rintro e w' ⟨v, rfl, h1, h2⟩
      exact ⟨v, rfl, (row_isL ar).2 h1, h2⟩⟩
def xpartsX (q : Qq) : List Fq := [q.w, q.x, q.y, q.z]
theorem q_parts (vq : Value) (q : Qq) (w : World) (iq : IsQt w vq q) (hq : q.ok 1000000000) :
    Calls Tryz.prog 84 #[vq] w fun e w' => RetQt w q e w' := by
  refine (calls_runFn (ρ := frs (xpartsX q) ++ []) (w := w) (fuel := 300) (args := [row [0, 1, 2, 3]]) (vs := [vq]) (r := .v (row [0, 1, 2, 3]))
    (il_nil)
    ol_nil (by kernel_rfl) Tryz.func84 (by kernel_rfl) ⟨(row_isL (xs := xpartsX q) (ks := [0, 1, 2, 3]) (vs := [q.w, q.x, q.y, q.z]) ⟨rfl, rfl, rfl, rfl, trivial⟩).2 iq, trivial⟩).mono ?_
  rintro e w' ⟨v, rfl, h1, h2⟩
  exact ⟨v, rfl, (row_isL (xs := xpartsX q) (ks := [0, 1, 2, 3]) (vs := [q.w, q.x, q.y, q.z]) ⟨rfl, rfl, rfl, rfl, trivial⟩).1 h1, h2⟩
theorem I_parts {xs : List Fq} {ys : Rho} {kq : List Nat} {q : Qq} {kr : List Nat} (aq : AtL xs kq [q.w, q.x, q.y, q.z]) (ar : AtL xs kr [q.w, q.x, q.y, q.z]) (hq : q.ok 1000000000) : OkI xs ys ⟨84, [row kq], .v (row kr)⟩ :=
  ⟨enters Tryz.func84 rfl rfl, fun B w vs hB h => by
    match vs, h with
    | [vq], h =>
      refine (q_parts vq q w ((row_isL aq).1 h.1) hq).mono ?_
      rintro e w' ⟨v, rfl, h1, h2⟩
      exact ⟨v, rfl, (row_isL ar).2 h1, h2⟩⟩
def xfEqual1X (a : Qq) (b : Qq) : List Fq := [a.w, a.x, a.y, a.z, b.w, b.x, b.y, b.z]
theorem q_fEqual1 (va vb : Value) (a : Qq) (b : Qq) (w : World) (ia : IsQt w va a) (ib : IsQt w vb b) (ha : a.ok 100000000) (hb : b.ok 100000000) (e0 : a = b) (ga : a.comp) (gb : b.comp) :
    Calls Tryz.prog 69 #[va, vb] w fun e w' => RetV w (.bool true) e w' := by
  refine (calls_runFn (ρ := frs (xfEqual1X a b) ++ []) (w := w) (fuel := 300) (args := [row [0, 1, 2, 3], row [4, 5, 6, 7]]) (vs := [va, vb]) (r := .v (.one (.b true)))
    (il_cons (I_parts (kq := [0, 1, 2, 3]) (q := a) (kr := [0, 1, 2, 3]) ⟨rfl, rfl, rfl, rfl, trivial⟩ ⟨rfl, rfl, rfl, rfl, trivial⟩ (ha.mono (by decide))) (il_cons (I_parts (kq := [4, 5, 6, 7]) (q := b) (kr := [4, 5, 6, 7]) ⟨rfl, rfl, rfl, rfl, trivial⟩ ⟨rfl, rfl, rfl, rfl, trivial⟩ (hb.mono (by decide))) (il_cons (I_fCmp (i := 0) (j := 4) rfl rfl (li ((o_zero ga.w gb.w).2 (congrArg Qq.w e0))) (ha.w.mono (by decide)) (hb.w.mono (by decide))) (il_cons (I_fCmp (i := 1) (j := 5) rfl rfl (li ((o_zero ga.x gb.x).2 (congrArg Qq.x e0))) (ha.x.mono (by decide)) (hb.x.mono (by decide))) (il_cons (I_fCmp (i := 2) (j := 6) rfl rfl (li ((o_zero ga.y gb.y).2 (congrArg Qq.y e0))) (ha.y.mono (by decide)) (hb.y.mono (by decide))) (il_cons (I_fCmp (i := 3) (j := 7) rfl rfl (li ((o_zero ga.z gb.z).2 (congrArg Qq.z e0))) (ha.z.mono (by decide)) (hb.z.mono (by decide))) il_nil))))))
    ol_nil (by kernel_rfl) Tryz.func69 (by kernel_rfl) ⟨(row_isL (xs := xfEqual1X a b) (ks := [0, 1, 2, 3]) (vs := [a.w, a.x, a.y, a.z]) ⟨rfl, rfl, rfl, rfl, trivial⟩).2 ia, ⟨(row_isL (xs := xfEqual1X a b) (ks := [4, 5, 6, 7]) (vs := [b.w, b.x, b.y, b.z]) ⟨rfl, rfl, rfl, rfl, trivial⟩).2 ib, trivial⟩⟩).mono ?_
  rintro e w' ⟨v, rfl, h1, h2⟩
  exact ⟨congrArg Ending.returned h1, h2⟩
theorem I_fEqual1 {xs : List Fq} {ys : Rho} {ka : List Nat} {kb : List Nat} {a : Qq} {b : Qq}  (aa : AtL xs ka [a.w, a.x, a.y, a.z]) (ab : AtL xs kb [b.w, b.x, b.y, b.z])  (ha : a.ok 100000000) (hb : b.ok 100000000) (e0 : a = b) (ga : a.comp) (gb : b.comp) : OkI xs ys ⟨69, [row ka, row kb], .v (.one (.b true))⟩ :=
  ⟨enters Tryz.func69 rfl rfl, fun B w vs hB h => by
    match vs, h with
    | [va, vb], h =>
      refine (q_fEqual1 va vb a b w ((row_isL aa).1 h.1) ((row_isL ab).1 h.2.1) ha hb e0 ga gb).mono ?_
      rintro e w' ⟨rfl, h2⟩
      exact ⟨_, rfl, rfl, h2⟩⟩
def xfEqual0X (a : Qq) (b : Qq) : List Fq := [a.w, a.x, a.y, a.z, b.w, b.x, b.y, b.z]
def xfEqual01X (a : Qq) (b : Qq) : List Fq := [a.w, a.x, a.y, a.z, b.w, b.x, b.y, b.z]
def xfEqual02X (a : Qq) (b : Qq) : List Fq := [a.w, a.x, a.y, a.z, b.w, b.x, b.y, b.z]
def xfEqual03X (a : Qq) (b : Qq) : List Fq := [a.w, a.x, a.y, a.z, b.w, b.x, b.y, b.z]
theorem q_fEqual0 (va vb : Value) (a : Qq) (b : Qq) (w : World) (ia : IsQt w va a) (ib : IsQt w vb b) (ha : a.ok 100000000) (hb : b.ok 100000000) (e0 : a ≠ b) (ga : a.comp) (gb : b.comp) :
    Calls Tryz.prog 69 #[va, vb] w fun e w' => RetV w (.bool false) e w' := by
  by_cases c0 : a.w = b.w
  · by_cases c1 : a.x = b.x
    · by_cases c2 : a.y = b.y
      · by_cases c3 : a.z = b.z
        · exact absurd (by cases a; cases b; simp only at c0 c1 c2 c3; subst c0 c1 c2 c3; rfl) e0
        · refine (calls_runFn (ρ := frs (xfEqual0X a b) ++ [.val (.int .i64 (a.z.cmp b.z))]) (w := w) (fuel := 300) (args := [row [0, 1, 2, 3], row [4, 5, 6, 7]]) (vs := [va, vb]) (r := .v (.one (.b false)))
            (il_cons (I_parts (kq := [0, 1, 2, 3]) (q := a) (kr := [0, 1, 2, 3]) ⟨rfl, rfl, rfl, rfl, trivial⟩ ⟨rfl, rfl, rfl, rfl, trivial⟩ (ha.mono (by decide))) (il_cons (I_parts (kq := [4, 5, 6, 7]) (q := b) (kr := [4, 5, 6, 7]) ⟨rfl, rfl, rfl, rfl, trivial⟩ ⟨rfl, rfl, rfl, rfl, trivial⟩ (hb.mono (by decide))) (il_cons (I_fCmp (i := 0) (j := 4) rfl rfl (li ((o_zero ga.w gb.w).2 c0)) (ha.w.mono (by decide)) (hb.w.mono (by decide))) (il_cons (I_fCmp (i := 1) (j := 5) rfl rfl (li ((o_zero ga.x gb.x).2 c1)) (ha.x.mono (by decide)) (hb.x.mono (by decide))) (il_cons (I_fCmp (i := 2) (j := 6) rfl rfl (li ((o_zero ga.y gb.y).2 c2)) (ha.y.mono (by decide)) (hb.y.mono (by decide))) (il_cons (I_fCmp (i := 3) (j := 7) rfl rfl (lr (n := 24) rfl) (ha.z.mono (by decide)) (hb.z.mono (by decide))) il_nil))))))
            (ol_cons (o_neq (n := 24) (c := 0) (t := 3) rfl (ne_neq (mt (o_zero ga.z gb.z).1 c3))) (ol_nil)) (by kernel_rfl) Tryz.func69 (by kernel_rfl) ⟨(row_isL (xs := xfEqual0X a b) (ks := [0, 1, 2, 3]) (vs := [a.w, a.x, a.y, a.z]) ⟨rfl, rfl, rfl, rfl, trivial⟩).2 ia, ⟨(row_isL (xs := xfEqual0X a b) (ks := [4, 5, 6, 7]) (vs := [b.w, b.x, b.y, b.z]) ⟨rfl, rfl, rfl, rfl, trivial⟩).2 ib, trivial⟩⟩).mono ?_
          rintro e w' ⟨v, rfl, h1, h2⟩
          exact ⟨congrArg Ending.returned h1, h2⟩
      · refine (calls_runFn (ρ := frs (xfEqual01X a b) ++ [.val (.int .i64 (a.y.cmp b.y))]) (w := w) (fuel := 300) (args := [row [0, 1, 2, 3], row [4, 5, 6, 7]]) (vs := [va, vb]) (r := .v (.one (.b false)))
          (il_cons (I_parts (kq := [0, 1, 2, 3]) (q := a) (kr := [0, 1, 2, 3]) ⟨rfl, rfl, rfl, rfl, trivial⟩ ⟨rfl, rfl, rfl, rfl, trivial⟩ (ha.mono (by decide))) (il_cons (I_parts (kq := [4, 5, 6, 7]) (q := b) (kr := [4, 5, 6, 7]) ⟨rfl, rfl, rfl, rfl, trivial⟩ ⟨rfl, rfl, rfl, rfl, trivial⟩ (hb.mono (by decide))) (il_cons (I_fCmp (i := 0) (j := 4) rfl rfl (li ((o_zero ga.w gb.w).2 c0)) (ha.w.mono (by decide)) (hb.w.mono (by decide))) (il_cons (I_fCmp (i := 1) (j := 5) rfl rfl (li ((o_zero ga.x gb.x).2 c1)) (ha.x.mono (by decide)) (hb.x.mono (by decide))) (il_cons (I_fCmp (i := 2) (j := 6) rfl rfl (lr (n := 24) rfl) (ha.y.mono (by decide)) (hb.y.mono (by decide))) il_nil)))))
          (ol_cons (o_neq (n := 24) (c := 0) (t := 3) rfl (ne_neq (mt (o_zero ga.y gb.y).1 c2))) (ol_nil)) (by kernel_rfl) Tryz.func69 (by kernel_rfl) ⟨(row_isL (xs := xfEqual01X a b) (ks := [0, 1, 2, 3]) (vs := [a.w, a.x, a.y, a.z]) ⟨rfl, rfl, rfl, rfl, trivial⟩).2 ia, ⟨(row_isL (xs := xfEqual01X a b) (ks := [4, 5, 6, 7]) (vs := [b.w, b.x, b.y, b.z]) ⟨rfl, rfl, rfl, rfl, trivial⟩).2 ib, trivial⟩⟩).mono ?_
        rintro e w' ⟨v, rfl, h1, h2⟩
        exact ⟨congrArg Ending.returned h1, h2⟩
    · refine (calls_runFn (ρ := frs (xfEqual02X a b) ++ [.val (.int .i64 (a.x.cmp b.x))]) (w := w) (fuel := 300) (args := [row [0, 1, 2, 3], row [4, 5, 6, 7]]) (vs := [va, vb]) (r := .v (.one (.b false)))
        (il_cons (I_parts (kq := [0, 1, 2, 3]) (q := a) (kr := [0, 1, 2, 3]) ⟨rfl, rfl, rfl, rfl, trivial⟩ ⟨rfl, rfl, rfl, rfl, trivial⟩ (ha.mono (by decide))) (il_cons (I_parts (kq := [4, 5, 6, 7]) (q := b) (kr := [4, 5, 6, 7]) ⟨rfl, rfl, rfl, rfl, trivial⟩ ⟨rfl, rfl, rfl, rfl, trivial⟩ (hb.mono (by decide))) (il_cons (I_fCmp (i := 0) (j := 4) rfl rfl (li ((o_zero ga.w gb.w).2 c0)) (ha.w.mono (by decide)) (hb.w.mono (by decide))) (il_cons (I_fCmp (i := 1) (j := 5) rfl rfl (lr (n := 24) rfl) (ha.x.mono (by decide)) (hb.x.mono (by decide))) il_nil))))
        (ol_cons (o_neq (n := 24) (c := 0) (t := 3) rfl (ne_neq (mt (o_zero ga.x gb.x).1 c1))) (ol_nil)) (by kernel_rfl) Tryz.func69 (by kernel_rfl) ⟨(row_isL (xs := xfEqual02X a b) (ks := [0, 1, 2, 3]) (vs := [a.w, a.x, a.y, a.z]) ⟨rfl, rfl, rfl, rfl, trivial⟩).2 ia, ⟨(row_isL (xs := xfEqual02X a b) (ks := [4, 5, 6, 7]) (vs := [b.w, b.x, b.y, b.z]) ⟨rfl, rfl, rfl, rfl, trivial⟩).2 ib, trivial⟩⟩).mono ?_
      rintro e w' ⟨v, rfl, h1, h2⟩
      exact ⟨congrArg Ending.returned h1, h2⟩
  · refine (calls_runFn (ρ := frs (xfEqual03X a b) ++ [.val (.int .i64 (a.w.cmp b.w))]) (w := w) (fuel := 300) (args := [row [0, 1, 2, 3], row [4, 5, 6, 7]]) (vs := [va, vb]) (r := .v (.one (.b false)))
      (il_cons (I_parts (kq := [0, 1, 2, 3]) (q := a) (kr := [0, 1, 2, 3]) ⟨rfl, rfl, rfl, rfl, trivial⟩ ⟨rfl, rfl, rfl, rfl, trivial⟩ (ha.mono (by decide))) (il_cons (I_parts (kq := [4, 5, 6, 7]) (q := b) (kr := [4, 5, 6, 7]) ⟨rfl, rfl, rfl, rfl, trivial⟩ ⟨rfl, rfl, rfl, rfl, trivial⟩ (hb.mono (by decide))) (il_cons (I_fCmp (i := 0) (j := 4) rfl rfl (lr (n := 24) rfl) (ha.w.mono (by decide)) (hb.w.mono (by decide))) il_nil)))
      (ol_cons (o_neq (n := 24) (c := 0) (t := 3) rfl (ne_neq (mt (o_zero ga.w gb.w).1 c0))) (ol_nil)) (by kernel_rfl) Tryz.func69 (by kernel_rfl) ⟨(row_isL (xs := xfEqual03X a b) (ks := [0, 1, 2, 3]) (vs := [a.w, a.x, a.y, a.z]) ⟨rfl, rfl, rfl, rfl, trivial⟩).2 ia, ⟨(row_isL (xs := xfEqual03X a b) (ks := [4, 5, 6, 7]) (vs := [b.w, b.x, b.y, b.z]) ⟨rfl, rfl, rfl, rfl, trivial⟩).2 ib, trivial⟩⟩).mono ?_
    rintro e w' ⟨v, rfl, h1, h2⟩
    exact ⟨congrArg Ending.returned h1, h2⟩
theorem I_fEqual0 {xs : List Fq} {ys : Rho} {ka : List Nat} {kb : List Nat} {a : Qq} {b : Qq}  (aa : AtL xs ka [a.w, a.x, a.y, a.z]) (ab : AtL xs kb [b.w, b.x, b.y, b.z])  (ha : a.ok 100000000) (hb : b.ok 100000000) (e0 : a ≠ b) (ga : a.comp) (gb : b.comp) : OkI xs ys ⟨69, [row ka, row kb], .v (.one (.b false))⟩ :=
  ⟨enters Tryz.func69 rfl rfl, fun B w vs hB h => by
    match vs, h with
    | [va, vb], h =>
      refine (q_fEqual0 va vb a b w ((row_isL aa).1 h.1) ((row_isL ab).1 h.2.1) ha hb e0 ga gb).mono ?_
      rintro e w' ⟨rfl, h2⟩
      exact ⟨_, rfl, rfl, h2⟩⟩
def xwholeX (q : Qq) : List Fq := [q.w, q.x, q.y, q.z]
theorem q_whole (vq : Value) (q : Qq) (w : World) (iq : IsQt w vq q) (hq : q.ok 1000000000) :
    Calls Tryz.prog 113 #[vq] w fun e w' => RetQt w q e w' := by
  refine (calls_runFn (ρ := frs (xwholeX q) ++ []) (w := w) (fuel := 300) (args := [row [0, 1, 2, 3]]) (vs := [vq]) (r := .v (row [0, 1, 2, 3]))
    (il_nil)
    ol_nil (by kernel_rfl) Tryz.func113 (by kernel_rfl) ⟨(row_isL (xs := xwholeX q) (ks := [0, 1, 2, 3]) (vs := [q.w, q.x, q.y, q.z]) ⟨rfl, rfl, rfl, rfl, trivial⟩).2 iq, trivial⟩).mono ?_
  rintro e w' ⟨v, rfl, h1, h2⟩
  exact ⟨v, rfl, (row_isL (xs := xwholeX q) (ks := [0, 1, 2, 3]) (vs := [q.w, q.x, q.y, q.z]) ⟨rfl, rfl, rfl, rfl, trivial⟩).1 h1, h2⟩
theorem I_whole {xs : List Fq} {ys : Rho} {kq : List Nat} {q : Qq} {kr : List Nat} (aq : AtL xs kq [q.w, q.x, q.y, q.z]) (ar : AtL xs kr [q.w, q.x, q.y, q.z]) (hq : q.ok 1000000000) : OkI xs ys ⟨113, [row kq], .v (row kr)⟩ :=
  ⟨enters Tryz.func113 rfl rfl, fun B w vs hB h => by
    match vs, h with
    | [vq], h =>
      refine (q_whole vq q w ((row_isL aq).1 h.1) hq).mono ?_
      rintro e w' ⟨v, rfl, h1, h2⟩
      exact ⟨v, rfl, (row_isL ar).2 h1, h2⟩⟩
def xHalf1X (q : Qq) : List Fq := [q.w, q.x, q.y, q.z]
theorem q_Half1 (vq : Value) (q : Qq) (w : World) (iq : IsQt w vq q) (hq : q.ok 1000000000) (h0 : q.w.p = 0) :
    Calls Tryz.prog 130 #[vq] w fun e w' => RetV w (.bool true) e w' := by
  refine (calls_runFn (ρ := frs (xHalf1X q) ++ []) (w := w) (fuel := 300) (args := [row [0, 1, 2, 3]]) (vs := [vq]) (r := .v (.one (.b true)))
    (il_cons (I_fSign (i := 0) rfl (li (sgn0 h0)) (hq.w.mono (by decide))) il_nil)
    ol_nil (by kernel_rfl) Tryz.func130 (by kernel_rfl) ⟨(row_isL (xs := xHalf1X q) (ks := [0, 1, 2, 3]) (vs := [q.w, q.x, q.y, q.z]) ⟨rfl, rfl, rfl, rfl, trivial⟩).2 iq, trivial⟩).mono ?_
  rintro e w' ⟨v, rfl, h1, h2⟩
  exact ⟨congrArg Ending.returned h1, h2⟩
theorem I_Half1 {xs : List Fq} {ys : Rho} {kq : List Nat} {q : Qq}  (aq : AtL xs kq [q.w, q.x, q.y, q.z])  (hq : q.ok 1000000000) (h0 : q.w.p = 0) : OkI xs ys ⟨130, [row kq], .v (.one (.b true))⟩ :=
  ⟨enters Tryz.func130 rfl rfl, fun B w vs hB h => by
    match vs, h with
    | [vq], h =>
      refine (q_Half1 vq q w ((row_isL aq).1 h.1) hq h0).mono ?_
      rintro e w' ⟨rfl, h2⟩
      exact ⟨_, rfl, rfl, h2⟩⟩
def xHalf0X (q : Qq) : List Fq := [q.w, q.x, q.y, q.z]
theorem q_Half0 (vq : Value) (q : Qq) (w : World) (iq : IsQt w vq q) (hq : q.ok 1000000000) (h0 : q.w.p ≠ 0) :
    Calls Tryz.prog 130 #[vq] w fun e w' => RetV w (.bool false) e w' := by
  refine (calls_runFn (ρ := frs (xHalf0X q) ++ [.val (.int .i64 q.w.sgn)]) (w := w) (fuel := 300) (args := [row [0, 1, 2, 3]]) (vs := [vq]) (r := .v (.one (.b false)))
    (il_cons (I_fSign (i := 0) rfl (lr (n := 12) rfl) (hq.w.mono (by decide))) il_nil)
    (ol_cons (o_eql (n := 12) (c := 0) (t := 3) rfl (sgn_eq h0)) (ol_nil)) (by kernel_rfl) Tryz.func130 (by kernel_rfl) ⟨(row_isL (xs := xHalf0X q) (ks := [0, 1, 2, 3]) (vs := [q.w, q.x, q.y, q.z]) ⟨rfl, rfl, rfl, rfl, trivial⟩).2 iq, trivial⟩).mono ?_
  rintro e w' ⟨v, rfl, h1, h2⟩
  exact ⟨congrArg Ending.returned h1, h2⟩
theorem I_Half0 {xs : List Fq} {ys : Rho} {kq : List Nat} {q : Qq}  (aq : AtL xs kq [q.w, q.x, q.y, q.z])  (hq : q.ok 1000000000) (h0 : q.w.p ≠ 0) : OkI xs ys ⟨130, [row kq], .v (.one (.b false))⟩ :=
  ⟨enters Tryz.func130 rfl rfl, fun B w vs hB h => by
    match vs, h with
    | [vq], h =>
      refine (q_Half0 vq q w ((row_isL aq).1 h.1) hq h0).mono ?_
      rintro e w' ⟨rfl, h2⟩
      exact ⟨_, rfl, rfl, h2⟩⟩
def xrHalf1X (q : Qq) : List Fq := [q.w, q.x, q.y, q.z]
theorem q_rHalf1 (vq : Value) (q : Qq) (w : World) (iq : IsQt w vq q) (hq : q.ok 1000000000) (h0 : q.w.p = 0) :
    Calls Tryz.prog 131 #[vq] w fun e w' => RetV w (.bool true) e w' := by
  refine (calls_runFn (ρ := frs (xrHalf1X q) ++ []) (w := w) (fuel := 300) (args := [row [0, 1, 2, 3]]) (vs := [vq]) (r := .v (.one (.b true)))
    (il_cons (I_rSign (i := 0) rfl (li (sgn0 h0)) (hq.w.mono (by decide))) il_nil)
    ol_nil (by kernel_rfl) Tryz.func131 (by kernel_rfl) ⟨(row_isL (xs := xrHalf1X q) (ks := [0, 1, 2, 3]) (vs := [q.w, q.x, q.y, q.z]) ⟨rfl, rfl, rfl, rfl, trivial⟩).2 iq, trivial⟩).mono ?_
  rintro e w' ⟨v, rfl, h1, h2⟩
  exact ⟨congrArg Ending.returned h1, h2⟩
theorem I_rHalf1 {xs : List Fq} {ys : Rho} {kq : List Nat} {q : Qq}  (aq : AtL xs kq [q.w, q.x, q.y, q.z])  (hq : q.ok 1000000000) (h0 : q.w.p = 0) : OkI xs ys ⟨131, [row kq], .v (.one (.b true))⟩ :=
  ⟨enters Tryz.func131 rfl rfl, fun B w vs hB h => by
    match vs, h with
    | [vq], h =>
      refine (q_rHalf1 vq q w ((row_isL aq).1 h.1) hq h0).mono ?_
      rintro e w' ⟨rfl, h2⟩
      exact ⟨_, rfl, rfl, h2⟩⟩
def xrHalf0X (q : Qq) : List Fq := [q.w, q.x, q.y, q.z]
theorem q_rHalf0 (vq : Value) (q : Qq) (w : World) (iq : IsQt w vq q) (hq : q.ok 1000000000) (h0 : q.w.p ≠ 0) :
    Calls Tryz.prog 131 #[vq] w fun e w' => RetV w (.bool false) e w' := by
  refine (calls_runFn (ρ := frs (xrHalf0X q) ++ [.val (.int .i64 q.w.sgn)]) (w := w) (fuel := 300) (args := [row [0, 1, 2, 3]]) (vs := [vq]) (r := .v (.one (.b false)))
    (il_cons (I_rSign (i := 0) rfl (lr (n := 12) rfl) (hq.w.mono (by decide))) il_nil)
    (ol_cons (o_eql (n := 12) (c := 0) (t := 3) rfl (sgn_eq h0)) (ol_nil)) (by kernel_rfl) Tryz.func131 (by kernel_rfl) ⟨(row_isL (xs := xrHalf0X q) (ks := [0, 1, 2, 3]) (vs := [q.w, q.x, q.y, q.z]) ⟨rfl, rfl, rfl, rfl, trivial⟩).2 iq, trivial⟩).mono ?_
  rintro e w' ⟨v, rfl, h1, h2⟩
  exact ⟨congrArg Ending.returned h1, h2⟩
theorem I_rHalf0 {xs : List Fq} {ys : Rho} {kq : List Nat} {q : Qq}  (aq : AtL xs kq [q.w, q.x, q.y, q.z])  (hq : q.ok 1000000000) (h0 : q.w.p ≠ 0) : OkI xs ys ⟨131, [row kq], .v (.one (.b false))⟩ :=
  ⟨enters Tryz.func131 rfl rfl, fun B w vs hB h => by
    match vs, h with
    | [vq], h =>
      refine (q_rHalf0 vq q w ((row_isL aq).1 h.1) hq h0).mono ?_
      rintro e w' ⟨rfl, h2⟩
      exact ⟨_, rfl, rfl, h2⟩⟩
def xfIdX  : List Fq := [(Fq.ofInt 1), (Fq.ofInt 0)]
theorem ok_id : Qq.id.ok 2 := ⟨ok_int (by decide) (by decide), ok_int (by decide) (by decide), ok_int (by decide) (by decide), ok_int (by decide) (by decide)⟩
theorem q_fId  (w : World)   :
    Calls Tryz.prog 59 #[] w fun e w' => RetQt w Qq.id e w' := by
  refine (calls_runFn (ρ := frs (xfIdX ) ++ []) (w := w) (fuel := 300) (args := []) (vs := []) (r := .v (row [0, 1, 1, 1]))
    (il_cons (I_fInt (k := 0) rfl (by decide) (by decide)) (il_cons (I_fInt (k := 1) rfl (by decide) (by decide)) (il_cons (I_whole (kq := [0, 1, 1, 1]) (q := (Qq.mk (Fq.ofInt 1) (Fq.ofInt 0) (Fq.ofInt 0) (Fq.ofInt 0))) (kr := [0, 1, 1, 1]) ⟨rfl, rfl, rfl, rfl, trivial⟩ ⟨rfl, rfl, rfl, rfl, trivial⟩ (⟨(ok_int (u := 1) (by decide) (by decide)).mono (by decide), (ok_int (u := 0) (by decide) (by decide)).mono (by decide), (ok_int (u := 0) (by decide) (by decide)).mono (by decide), (ok_int (u := 0) (by decide) (by decide)).mono (by decide)⟩ : Qq.ok 1000000000 (Qq.mk (Fq.ofInt 1) (Fq.ofInt 0) (Fq.ofInt 0) (Fq.ofInt 0)))) il_nil)))
    ol_nil (by kernel_rfl) Tryz.func59 (by kernel_rfl) trivial).mono ?_
  rintro e w' ⟨v, rfl, h1, h2⟩
  exact ⟨v, rfl, (row_isL (xs := xfIdX ) (ks := [0, 1, 1, 1]) (vs := [(Fq.ofInt 1), (Fq.ofInt 0), (Fq.ofInt 0), (Fq.ofInt 0)]) ⟨rfl, rfl, rfl, rfl, trivial⟩).1 h1, h2⟩
theorem I_fId {xs : List Fq} {ys : Rho}   {kr : List Nat}  (ar : AtL xs kr [Qq.id.w, Qq.id.x, Qq.id.y, Qq.id.z]) : OkI xs ys ⟨59, [], .v (row kr)⟩ :=
  ⟨enters Tryz.func59 rfl rfl, fun B w vs hB h => by
    match vs, h with
    | [], h =>
      refine (q_fId w).mono ?_
      rintro e w' ⟨v, rfl, h1, h2⟩
      exact ⟨v, rfl, (row_isL ar).2 h1, h2⟩⟩
def xrIdX  : List Fq := [(Fq.ofInt 1), (Fq.ofInt 0)]
theorem q_rId  (w : World)   :
    Calls Tryz.prog 76 #[] w fun e w' => RetQt w Qq.id e w' := by
  refine (calls_runFn (ρ := frs (xrIdX ) ++ []) (w := w) (fuel := 300) (args := []) (vs := []) (r := .v (row [0, 1, 1, 1]))
    (il_cons (I_rInt (k := 0) rfl (by decide) (by decide)) (il_cons (I_rInt (k := 1) rfl (by decide) (by decide)) il_nil))
    ol_nil (by kernel_rfl) Tryz.func76 (by kernel_rfl) trivial).mono ?_
  rintro e w' ⟨v, rfl, h1, h2⟩
  exact ⟨v, rfl, (row_isL (xs := xrIdX ) (ks := [0, 1, 1, 1]) (vs := [(Fq.ofInt 1), (Fq.ofInt 0), (Fq.ofInt 0), (Fq.ofInt 0)]) ⟨rfl, rfl, rfl, rfl, trivial⟩).1 h1, h2⟩
theorem I_rId {xs : List Fq} {ys : Rho}   {kr : List Nat}  (ar : AtL xs kr [Qq.id.w, Qq.id.x, Qq.id.y, Qq.id.z]) : OkI xs ys ⟨76, [], .v (row kr)⟩ :=
  ⟨enters Tryz.func76 rfl rfl, fun B w vs hB h => by
    match vs, h with
    | [], h =>
      refine (q_rId w).mono ?_
      rintro e w' ⟨v, rfl, h1, h2⟩
      exact ⟨v, rfl, (row_isL ar).2 h1, h2⟩⟩
end Go.Proofs.YthebfmlfgfmlnaaGreatDoor
namespace Go.Proofs.YthebfmlfgfmlnaaGreatDoor
set_option linter.unusedSimpArgs false
set_option linter.unusedVariables false
set_option maxRecDepth 100000
open Go.RowKit
/-- Rows of fractions whose numbers may have leading zeros. -/
def leafsN : List Nat → List Leaf
  | [] => []
  | n :: ns => .ref n :: .ref (n + 1) :: .ref (n + 2) :: leafsN ns
def rowN (ns : List Nat) : SV := .agg (leafsN ns)
def AtR (ρ : Rho) : List Nat → List Rq → Prop
  | [], [] => True
  | n :: ns, r :: rs => (ρ[n]? = some (.val (.bool r.s)) ∧ ρ[n + 1]? = some (.dig r.L r.p) ∧ ρ[n + 2]? = some (.dig r.N r.q)) ∧ AtR ρ ns rs
  | _, _ => False
/-- A fraction in valid form. -/
def Rq.vld (r : Rq) : Bool := decide (nl r.p = r.L ∧ nl r.q = r.N) && (Fq.mk r.s r.p r.q).valid
section
variable {ρ : Rho} {xs : List Fq} {ys : Rho} {n m k : Nat} {u v : Int} {l : Leaf} {t : TypeId} {B : Blk} {w : World} {r : Rq}
theorem rowN_holds : ∀ {ns : List Nat} {rs : List Rq} {cs : List Value}, AtR ρ ns rs → (LeavesH ρ B w (leafsN ns) cs ↔ CellsR w rs cs)
  | [], [], cs, _ => by
    constructor
    · intro h; match cs, h with | [], _ => rfl
    · intro h; have h : cs = [] := h; subst h; trivial
  | n :: ns, r :: rs, cs, h => by
    obtain ⟨⟨h1, h2, h3⟩, h4⟩ := h
    have ih := fun cs => rowN_holds (ns := ns) (rs := rs) (cs := cs) h4
    constructor
    · intro hl
      match cs, hl with
      | u1 :: u2 :: u3 :: cs', hl =>
        obtain ⟨g1, g2, g3, g4⟩ := hl
        have e1 := (leafB h1).1 g1
        have e2 := (leafD h2).1 g2
        have e3 := (leafD h3).1 g3
        obtain ⟨a, c, rfl⟩ := isR_slice e2
        obtain ⟨b, d, rfl⟩ := isR_slice e3
        subst e1
        exact ⟨a, c, b, d, cs', rfl, e2, e3, (ih cs').1 g4⟩
      | [], hl => exact hl.elim
      | [_], hl => exact hl.2.elim
      | [_, _], hl => exact hl.2.2.elim
    · rintro ⟨a, c, b, d, cs', rfl, i1, i2, i3⟩
      exact ⟨(leafB h1).2 rfl, (leafD h2).2 i1, (leafD h3).2 i2, (ih cs').2 i3⟩
  | [], _ :: _, _, h => h.elim
  | _ :: _, [], _, h => h.elim
theorem rowN_isL {ns : List Nat} {rs : List Rq} {x : Value} (h : AtR ρ ns rs) : (rowN ns).holds ρ B w x ↔ IsL w x rs := by
  constructor
  · rintro ⟨cs, rfl, h1⟩; exact ⟨cs, rfl, (rowN_holds h).1 h1⟩
  · rintro ⟨cs, rfl, h1⟩; exact ⟨cs, rfl, (rowN_holds h).2 h1⟩
theorem isL_FR {x : Value} (h : IsL w x [r]) : IsFR w x r.s r.L r.p r.N r.q := by
  obtain ⟨cs, rfl, a, c, b, d, cs', rfl, i1, i2, e⟩ := h
  have e : cs' = [] := e
  subst e
  exact ⟨a, c, b, d, rfl, i1, i2⟩
theorem vld_raw (h : r.vld = true) : r = (Fq.mk r.s r.p r.q).raw ∧ (Fq.mk r.s r.p r.q).valid = true := by
  unfold Rq.vld at h
  simp only [Bool.and_eq_true, decide_eq_true_eq] at h
  obtain ⟨⟨h1, h2⟩, h3⟩ := h
  refine ⟨?_, h3⟩
  obtain ⟨s, L, p, N, q⟩ := r
  simp only at h1 h2
  subst h1; subst h2; rfl
theorem q_fValidX (x : Value) (w : World) (h : IsL w x [r]) (hL : r.L ≤ 1000000) (hN : r.N ≤ 1000000) : Calls Tryz.prog 85 #[x] w fun e w' => RetV w (.bool r.vld) e w' := by
  have hf := isL_FR h
  by_cases hc : nl r.p = r.L ∧ nl r.q = r.N
  · have e : r.vld = (Fq.mk r.s r.p r.q).valid := by unfold Rq.vld; simp [hc]
    rw [e]
    exact q_fValid x ⟨r.s, r.p, r.q⟩ w (hf.isQ hc.1 hc.2) (by show nl r.p ≤ _; omega) (by show nl r.q ≤ _; omega)
  · have e : r.vld = false := by unfold Rq.vld; simp [hc]
    rw [e]
    exact q_fValidR x r.s r.L r.p r.N r.q w hf hL hN hc
theorem instX {f : FuncId} {b d : Bool} (hen : Ent' f) (hc : ∀ x w, IsL w x [r] → Calls Tryz.prog f #[x] w (fun e w' => RetV w (.bool b) e w')) (hr : AtR (frs xs ++ ys) [n] [r]) (h : b = d) : OkI xs ys ⟨f, [rowN [n]], .v (.one (.b d))⟩ :=
  ⟨hen, fun B w vs hB hv => by
    match vs, hv with
    | [va], hv =>
      refine (hc va w ((rowN_isL hr).1 hv.1)).mono ?_
      rintro e w' ⟨rfl, h2⟩
      exact ⟨_, rfl, by subst h; rfl, h2⟩⟩
theorem I_fValidX {d : Bool} (hr : AtR (frs xs ++ ys) [n] [r]) (h : r.vld = d) (hL : r.L ≤ 1000000) (hN : r.N ≤ 1000000) : OkI xs ys ⟨85, [rowN [n]], .v (.one (.b d))⟩ :=
  instX (enters Tryz.func85 rfl rfl) (fun x w hx => q_fValidX x w hx hL hN) hr h
end
theorem vld_nl {r : Rq} (h : r.vld = true) : nl r.p = r.L ∧ nl r.q = r.N := by
  unfold Rq.vld at h
  simp only [Bool.and_eq_true, decide_eq_true_eq] at h
  exact h.1
/-- No more than four digits; and valid. -/
def Rq.sh (r : Rq) : Bool := decide (r.L ≤ 4) && decide (r.N ≤ 4)
def Rq.sm (r : Rq) : Bool := r.sh && r.vld
end Go.Proofs.YthebfmlfgfmlnaaGreatDoor
namespace Go.Proofs.YthebfmlfgfmlnaaGreatDoor
set_option linter.unusedSimpArgs false
set_option linter.unusedVariables false
set_option maxRecDepth 100000
open Go.RowKit
theorem q_rValidUR (va : Value) (s : Bool) (L p N q : Nat) (w : World) (ha : IsFR w va s L p N q) (hL : L ≤ 1100000) (hN : N ≤ 1100000) (hne : ¬(nl p = L ∧ nl q = N)) :
    Calls Tryz.prog 77 #[va] w fun e w' => RetV w (.bool false) e w' := by
  by_cases c0 : nl p = L
  · by_cases c1 : nl q = N
    · exact absurd ⟨c0, c1⟩ hne
    · refine (calls_runFn (ρ := [.val (.bool s), .dig L p, .dig N q]) (w := w) (fuel := 300) (args := [q3 0 1 2]) (vs := [va]) (r := .v (.one (.b false)))
        (il_cons (I_mValidR (i := 1) (b := true) rfl (decide_eq_true c0) (Nat.le_trans hL (by decide))) (il_cons (I_mValidR (i := 2) (b := false) rfl (decide_eq_false c1) (Nat.le_trans hN (by decide))) il_nil))
        ol_nil (by kernel_rfl) Tryz.func77 (by kernel_rfl) ⟨(inFR ha (lrb (n := 0) rfl) rfl rfl), trivial⟩).mono ?_
      rintro e w' ⟨v, rfl, h1, h2⟩
      have h1 := h1
      have h1 : v = _ := h1; subst h1
      exact ⟨rfl, h2⟩
  · refine (calls_runFn (ρ := [.val (.bool s), .dig L p, .dig N q]) (w := w) (fuel := 300) (args := [q3 0 1 2]) (vs := [va]) (r := .v (.one (.b false)))
      (il_cons (I_mValidR (i := 1) (b := false) rfl (decide_eq_false c0) (Nat.le_trans hL (by decide))) il_nil)
      ol_nil (by kernel_rfl) Tryz.func77 (by kernel_rfl) ⟨(inFR ha (lrb (n := 0) rfl) rfl rfl), trivial⟩).mono ?_
    rintro e w' ⟨v, rfl, h1, h2⟩
    have h1 := h1
    have h1 : v = _ := h1; subst h1
    exact ⟨rfl, h2⟩
theorem q_rValidU (va : Value) (x : Fq) (w : World) (ha : IsQ w va x) (hp : nl x.p ≤ 1100000) (hq : nl x.q ≤ 1100000) :
    Calls Tryz.prog 77 #[va] w fun e w' => RetV w (.bool x.valid) e w' := by
  by_cases c0 : x.q = 0
  · refine (calls_runFn (ρ := [.val (.bool x.s), .dig (nl x.p) x.p, .dig (nl x.q) x.q]) (w := w) (fuel := 300) (args := [q3 0 1 2]) (vs := [va]) (r := .v (.one (.b false)))
      (il_cons (I_mValid (i := 1) rfl rfl (Nat.le_trans hp (by decide))) (il_cons (I_mValid (i := 2) rfl rfl (Nat.le_trans hq (by decide))) (il_cons (I_zero (i := 2) rfl (decide_eq_true c0) (Nat.le_trans hq (by decide))) il_nil)))
      ol_nil (by kernel_rfl) Tryz.func77 (by kernel_rfl) ⟨(inF ha (lrb (n := 0) rfl) rfl rfl), trivial⟩).mono ?_
    rintro e w' ⟨v, rfl, h1, h2⟩
    have h1 := h1
    have h1 : v = _ := h1; subst h1
    exact ⟨by simp [Fq.valid, c0], h2⟩
  · rcases Bool.eq_false_or_eq_true (x.s) with c1 | c1
    · by_cases c2 : x.p = 0
      · refine (calls_runFn (ρ := [.dig (nl x.p) x.p, .dig (nl x.q) x.q]) (w := w) (fuel := 300) (args := [.agg [.b true, .ref 0, .ref 1]]) (vs := [va]) (r := .v (.one (.b false)))
          (il_cons (I_mValid (i := 0) rfl rfl (Nat.le_trans hp (by decide))) (il_cons (I_mValid (i := 1) rfl rfl (Nat.le_trans hq (by decide))) (il_cons (I_zero (i := 1) rfl (decide_eq_false c0) (Nat.le_trans hq (by decide))) (il_cons (I_zero (i := 0) rfl (decide_eq_true c2) (Nat.le_trans hp (by decide))) il_nil))))
          ol_nil (by kernel_rfl) Tryz.func77 (by kernel_rfl) ⟨(inF ha (lb c1) rfl rfl), trivial⟩).mono ?_
        rintro e w' ⟨v, rfl, h1, h2⟩
        have h1 := h1
        have h1 : v = _ := h1; subst h1
        exact ⟨by simp [Fq.valid, c0, c1, c2], h2⟩
      · by_cases c3 : (Nat.gcd x.p x.q) = 1
        · refine (calls_runFn (ρ := [.dig (nl x.p) x.p, .dig (nl x.q) x.q, .dig (nl (Nat.gcd x.p x.q)) (Nat.gcd x.p x.q), .dig (nl 1) 1]) (w := w) (fuel := 300) (args := [.agg [.b true, .ref 0, .ref 1]]) (vs := [va]) (r := .v (.one (.b true)))
            (il_cons (I_mValid (i := 0) rfl rfl (Nat.le_trans hp (by decide))) (il_cons (I_mValid (i := 1) rfl rfl (Nat.le_trans hq (by decide))) (il_cons (I_zero (i := 1) rfl (decide_eq_false c0) (Nat.le_trans hq (by decide))) (il_cons (I_zero (i := 0) rfl (decide_eq_false c2) (Nat.le_trans hp (by decide))) (il_cons (I_mGcd (i := 0) (j := 1) (k := 2) rfl rfl rfl (Nat.le_trans hp (by decide)) (Nat.le_trans hq (by decide))) (il_cons (I_mOf (k := 3) rfl (by decide)) (il_cons (I_mSame (i := 2) (j := 3) rfl rfl (decide_eq_true c3) (Nat.le_trans (nl_gcdN hp hq) (by decide)) (Nat.le_trans nl_one (by decide))) il_nil)))))))
            ol_nil (by kernel_rfl) Tryz.func77 (by kernel_rfl) ⟨(inF ha (lb c1) rfl rfl), trivial⟩).mono ?_
          rintro e w' ⟨v, rfl, h1, h2⟩
          have h1 := h1
          have h1 : v = _ := h1; subst h1
          exact ⟨by simp [Fq.valid, c0, c1, c2, c3], h2⟩
        · refine (calls_runFn (ρ := [.dig (nl x.p) x.p, .dig (nl x.q) x.q, .dig (nl (Nat.gcd x.p x.q)) (Nat.gcd x.p x.q), .dig (nl 1) 1]) (w := w) (fuel := 300) (args := [.agg [.b true, .ref 0, .ref 1]]) (vs := [va]) (r := .v (.one (.b false)))
            (il_cons (I_mValid (i := 0) rfl rfl (Nat.le_trans hp (by decide))) (il_cons (I_mValid (i := 1) rfl rfl (Nat.le_trans hq (by decide))) (il_cons (I_zero (i := 1) rfl (decide_eq_false c0) (Nat.le_trans hq (by decide))) (il_cons (I_zero (i := 0) rfl (decide_eq_false c2) (Nat.le_trans hp (by decide))) (il_cons (I_mGcd (i := 0) (j := 1) (k := 2) rfl rfl rfl (Nat.le_trans hp (by decide)) (Nat.le_trans hq (by decide))) (il_cons (I_mOf (k := 3) rfl (by decide)) (il_cons (I_mSame (i := 2) (j := 3) rfl rfl (decide_eq_false c3) (Nat.le_trans (nl_gcdN hp hq) (by decide)) (Nat.le_trans nl_one (by decide))) il_nil)))))))
            ol_nil (by kernel_rfl) Tryz.func77 (by kernel_rfl) ⟨(inF ha (lb c1) rfl rfl), trivial⟩).mono ?_
          rintro e w' ⟨v, rfl, h1, h2⟩
          have h1 := h1
          have h1 : v = _ := h1; subst h1
          exact ⟨by simp [Fq.valid, c0, c1, c2, c3], h2⟩
    · by_cases c2 : (Nat.gcd x.p x.q) = 1
      · refine (calls_runFn (ρ := [.dig (nl x.p) x.p, .dig (nl x.q) x.q, .dig (nl (Nat.gcd x.p x.q)) (Nat.gcd x.p x.q), .dig (nl 1) 1]) (w := w) (fuel := 300) (args := [.agg [.b false, .ref 0, .ref 1]]) (vs := [va]) (r := .v (.one (.b true)))
          (il_cons (I_mValid (i := 0) rfl rfl (Nat.le_trans hp (by decide))) (il_cons (I_mValid (i := 1) rfl rfl (Nat.le_trans hq (by decide))) (il_cons (I_zero (i := 1) rfl (decide_eq_false c0) (Nat.le_trans hq (by decide))) (il_cons (I_mGcd (i := 0) (j := 1) (k := 2) rfl rfl rfl (Nat.le_trans hp (by decide)) (Nat.le_trans hq (by decide))) (il_cons (I_mOf (k := 3) rfl (by decide)) (il_cons (I_mSame (i := 2) (j := 3) rfl rfl (decide_eq_true c2) (Nat.le_trans (nl_gcdN hp hq) (by decide)) (Nat.le_trans nl_one (by decide))) il_nil))))))
          ol_nil (by kernel_rfl) Tryz.func77 (by kernel_rfl) ⟨(inF ha (lb c1) rfl rfl), trivial⟩).mono ?_
        rintro e w' ⟨v, rfl, h1, h2⟩
        have h1 := h1
        have h1 : v = _ := h1; subst h1
        exact ⟨by simp [Fq.valid, c0, c1, c2], h2⟩
      · refine (calls_runFn (ρ := [.dig (nl x.p) x.p, .dig (nl x.q) x.q, .dig (nl (Nat.gcd x.p x.q)) (Nat.gcd x.p x.q), .dig (nl 1) 1]) (w := w) (fuel := 300) (args := [.agg [.b false, .ref 0, .ref 1]]) (vs := [va]) (r := .v (.one (.b false)))
          (il_cons (I_mValid (i := 0) rfl rfl (Nat.le_trans hp (by decide))) (il_cons (I_mValid (i := 1) rfl rfl (Nat.le_trans hq (by decide))) (il_cons (I_zero (i := 1) rfl (decide_eq_false c0) (Nat.le_trans hq (by decide))) (il_cons (I_mGcd (i := 0) (j := 1) (k := 2) rfl rfl rfl (Nat.le_trans hp (by decide)) (Nat.le_trans hq (by decide))) (il_cons (I_mOf (k := 3) rfl (by decide)) (il_cons (I_mSame (i := 2) (j := 3) rfl rfl (decide_eq_false c2) (Nat.le_trans (nl_gcdN hp hq) (by decide)) (Nat.le_trans nl_one (by decide))) il_nil))))))
          ol_nil (by kernel_rfl) Tryz.func77 (by kernel_rfl) ⟨(inF ha (lb c1) rfl rfl), trivial⟩).mono ?_
        rintro e w' ⟨v, rfl, h1, h2⟩
        have h1 := h1
        have h1 : v = _ := h1; subst h1
        exact ⟨by simp [Fq.valid, c0, c1, c2], h2⟩
theorem q_rValidXU {r : Rq} (x : Value) (w : World) (h : IsL w x [r]) (hL : r.L ≤ 1100000) (hN : r.N ≤ 1100000) : Calls Tryz.prog 77 #[x] w fun e w' => RetV w (.bool r.vld) e w' := by
  have hf := isL_FR h
  by_cases hc : nl r.p = r.L ∧ nl r.q = r.N
  · have e : r.vld = (Fq.mk r.s r.p r.q).valid := by unfold Rq.vld; simp [hc]
    rw [e]
    exact q_rValidU x ⟨r.s, r.p, r.q⟩ w (hf.isQ hc.1 hc.2) (by show nl r.p ≤ _; omega) (by show nl r.q ≤ _; omega)
  · have e : r.vld = false := by unfold Rq.vld; simp [hc]
    rw [e]
    exact q_rValidUR x r.s r.L r.p r.N r.q w hf hL hN hc
end Go.Proofs.YthebfmlfgfmlnaaGreatDoor
namespace Go.Proofs.YthebfmlfgfmlnaaGreatDoor
set_option linter.unusedSimpArgs false
set_option linter.unusedVariables false
set_option maxRecDepth 100000
open Go.RowKit
theorem canon_eq {q : Qq} (h0 : q.first.p ≠ 0) : q.canon = q.over q.first := by unfold Qq.canon; rw [if_neg h0]
theorem Qq.ok.mk4 {a b c e : Fq} {d : Nat} (h1 : a.ok d) (h2 : b.ok d) (h3 : c.ok d) (h4 : e.ok d) : (Qq.mk a b c e).ok d := ⟨h1, h2, h3, h4⟩
theorem canonC_ok {u : Fq} {c : Vq} {d e : Nat} (h1 : u.ok d) (h2 : c.ok e) (h0 : (Qq.mk u c.x c.y c.z).first.p ≠ 0) : (Qq.mk u c.x c.y c.z).canon.ok (d + e + (d + e)) := (Qq.ok.mk4 (h1.mono (by omega)) (h2.x.mono (by omega)) (h2.y.mono (by omega)) (h2.z.mono (by omega)) : Qq.ok (d + e) _).canon h0
def xrFirstX (q : Qq) : List Fq := [q.w, q.x, q.y, q.z]
def xrFirst1X (q : Qq) : List Fq := [q.w, q.x, q.y, q.z]
def xrFirst2X (q : Qq) : List Fq := [q.w, q.x, q.y, q.z]
def xrFirst3X (q : Qq) : List Fq := [q.w, q.x, q.y, q.z]
theorem q_rFirst (vq : Value) (q : Qq) (w : World) (iq : IsQt w vq q) (hq : q.ok 1000000000) :
    Calls Tryz.prog 88 #[vq] w fun e w' => RetQ w q.first e w' := by
  by_cases c0 : q.w.p = 0
  · by_cases c1 : q.x.p = 0
    · by_cases c2 : q.y.p = 0
      · have e1 : q.first = q.z := by simp [Qq.first, c0, c1, c2]
        rw [e1]
        refine (calls_runFn (ρ := frs (xrFirstX q) ++ []) (w := w) (fuel := 300) (args := [row [0, 1, 2, 3]]) (vs := [vq]) (r := .v (fr 3))
          (il_cons (I_rSign (i := 0) rfl (li (sgn0 c0)) (hq.w.mono (by decide))) (il_cons (I_rSign (i := 1) rfl (li (sgn0 c1)) (hq.x.mono (by decide))) (il_cons (I_rSign (i := 2) rfl (li (sgn0 c2)) (hq.y.mono (by decide))) il_nil)))
          ol_nil (by kernel_rfl) Tryz.func88 (by kernel_rfl) ⟨(row_isL (xs := xrFirstX q) (ks := [0, 1, 2, 3]) (vs := [q.w, q.x, q.y, q.z]) ⟨rfl, rfl, rfl, rfl, trivial⟩).2 iq, trivial⟩).mono ?_
        rintro e w' ⟨v, rfl, h1, h2⟩
        exact ⟨v, rfl, (fr_isQ (xs := xrFirstX q) (k := 3) rfl).1 h1, h2⟩
      · have e1 : q.first = q.y := by simp [Qq.first, c0, c1, c2]
        rw [e1]
        refine (calls_runFn (ρ := frs (xrFirst1X q) ++ [.val (.int .i64 q.y.sgn)]) (w := w) (fuel := 300) (args := [row [0, 1, 2, 3]]) (vs := [vq]) (r := .v (fr 2))
          (il_cons (I_rSign (i := 0) rfl (li (sgn0 c0)) (hq.w.mono (by decide))) (il_cons (I_rSign (i := 1) rfl (li (sgn0 c1)) (hq.x.mono (by decide))) (il_cons (I_rSign (i := 2) rfl (lr (n := 12) rfl) (hq.y.mono (by decide))) il_nil)))
          (ol_cons (o_neq (n := 12) (c := 0) (t := 3) rfl (sgn_nq c2)) (ol_nil)) (by kernel_rfl) Tryz.func88 (by kernel_rfl) ⟨(row_isL (xs := xrFirst1X q) (ks := [0, 1, 2, 3]) (vs := [q.w, q.x, q.y, q.z]) ⟨rfl, rfl, rfl, rfl, trivial⟩).2 iq, trivial⟩).mono ?_
        rintro e w' ⟨v, rfl, h1, h2⟩
        exact ⟨v, rfl, (fr_isQ (xs := xrFirst1X q) (k := 2) rfl).1 h1, h2⟩
    · have e1 : q.first = q.x := by simp [Qq.first, c0, c1]
      rw [e1]
      refine (calls_runFn (ρ := frs (xrFirst2X q) ++ [.val (.int .i64 q.x.sgn)]) (w := w) (fuel := 300) (args := [row [0, 1, 2, 3]]) (vs := [vq]) (r := .v (fr 1))
        (il_cons (I_rSign (i := 0) rfl (li (sgn0 c0)) (hq.w.mono (by decide))) (il_cons (I_rSign (i := 1) rfl (lr (n := 12) rfl) (hq.x.mono (by decide))) il_nil))
        (ol_cons (o_neq (n := 12) (c := 0) (t := 3) rfl (sgn_nq c1)) (ol_nil)) (by kernel_rfl) Tryz.func88 (by kernel_rfl) ⟨(row_isL (xs := xrFirst2X q) (ks := [0, 1, 2, 3]) (vs := [q.w, q.x, q.y, q.z]) ⟨rfl, rfl, rfl, rfl, trivial⟩).2 iq, trivial⟩).mono ?_
      rintro e w' ⟨v, rfl, h1, h2⟩
      exact ⟨v, rfl, (fr_isQ (xs := xrFirst2X q) (k := 1) rfl).1 h1, h2⟩
  · have e1 : q.first = q.w := by simp [Qq.first, c0]
    rw [e1]
    refine (calls_runFn (ρ := frs (xrFirst3X q) ++ [.val (.int .i64 q.w.sgn)]) (w := w) (fuel := 300) (args := [row [0, 1, 2, 3]]) (vs := [vq]) (r := .v (fr 0))
      (il_cons (I_rSign (i := 0) rfl (lr (n := 12) rfl) (hq.w.mono (by decide))) il_nil)
      (ol_cons (o_neq (n := 12) (c := 0) (t := 3) rfl (sgn_nq c0)) (ol_nil)) (by kernel_rfl) Tryz.func88 (by kernel_rfl) ⟨(row_isL (xs := xrFirst3X q) (ks := [0, 1, 2, 3]) (vs := [q.w, q.x, q.y, q.z]) ⟨rfl, rfl, rfl, rfl, trivial⟩).2 iq, trivial⟩).mono ?_
    rintro e w' ⟨v, rfl, h1, h2⟩
    exact ⟨v, rfl, (fr_isQ (xs := xrFirst3X q) (k := 0) rfl).1 h1, h2⟩
theorem I_rFirst {xs : List Fq} {ys : Rho} {kq : List Nat} {q : Qq} {ir : Nat} (aq : AtL xs kq [q.w, q.x, q.y, q.z]) (ar : xs[ir]? = some q.first) (hq : q.ok 1000000000) : OkI xs ys ⟨88, [row kq], .v (fr ir)⟩ :=
  ⟨enters Tryz.func88 rfl rfl, fun B w vs hB h => by
    match vs, h with
    | [vq], h =>
      refine (q_rFirst vq q w ((row_isL aq).1 h.1) hq).mono ?_
      rintro e w' ⟨v, rfl, h1, h2⟩
      exact ⟨v, rfl, (fr_isQ ar).2 h1, h2⟩⟩
def xrOverX (x : Fq) (d : Fq) : List Fq := [x, d, (x.div d)]
theorem q_rOver (vx vd : Value) (x : Fq) (d : Fq) (w : World) (ix : IsQ w vx x) (id : IsQ w vd d) (hx : x.ok 1000000000) (hd : d.ok 1000000000) (h0 : d.p ≠ 0) :
    Calls Tryz.prog 127 #[vx, vd] w fun e w' => RetQ w (x.div d) e w' := by
  refine (calls_runFn (ρ := frs (xrOverX x d) ++ []) (w := w) (fuel := 300) (args := [fr 0, fr 1]) (vs := [vx, vd]) (r := .v (fr 2))
    (il_cons (I_rDiv (i := 0) (j := 1) (k := 2) rfl rfl rfl (hx.mono (by decide)) (hd.mono (by decide)) h0) il_nil)
    ol_nil (by kernel_rfl) Tryz.func127 (by kernel_rfl) ⟨(fr_isQ (xs := xrOverX x d) (k := 0) rfl).2 ix, ⟨(fr_isQ (xs := xrOverX x d) (k := 1) rfl).2 id, trivial⟩⟩).mono ?_
  rintro e w' ⟨v, rfl, h1, h2⟩
  exact ⟨v, rfl, (fr_isQ (xs := xrOverX x d) (k := 2) rfl).1 h1, h2⟩
theorem I_rOver {xs : List Fq} {ys : Rho} {ix : Nat} {id : Nat} {x : Fq} {d : Fq} {ir : Nat} (ax : xs[ix]? = some x) (ad : xs[id]? = some d) (ar : xs[ir]? = some (x.div d)) (hx : x.ok 1000000000) (hd : d.ok 1000000000) (h0 : d.p ≠ 0) : OkI xs ys ⟨127, [fr ix, fr id], .v (fr ir)⟩ :=
  ⟨enters Tryz.func127 rfl rfl, fun B w vs hB h => by
    match vs, h with
    | [vx, vd], h =>
      refine (q_rOver vx vd x d w ((fr_isQ ax).1 h.1) ((fr_isQ ad).1 h.2.1) hx hd h0).mono ?_
      rintro e w' ⟨v, rfl, h1, h2⟩
      exact ⟨v, rfl, (fr_isQ ar).2 h1, h2⟩⟩
def xrMakeTX (p0 : Fq) (p1 : Fq) (p2 : Fq) (p3 : Fq) : List Fq := [p0, p1, p2, p3, (Qq.mk p0 p1 p2 p3).first, (p0.div (Qq.mk p0 p1 p2 p3).first), (p1.div (Qq.mk p0 p1 p2 p3).first), (p2.div (Qq.mk p0 p1 p2 p3).first), (p3.div (Qq.mk p0 p1 p2 p3).first)]
theorem q_rMakeT (vp0 vp1 vp2 vp3 : Value) (p0 : Fq) (p1 : Fq) (p2 : Fq) (p3 : Fq) (w : World) (ip0 : IsQ w vp0 p0) (ip1 : IsQ w vp1 p1) (ip2 : IsQ w vp2 p2) (ip3 : IsQ w vp3 p3) (hp0 : p0.ok 100000000) (hp1 : p1.ok 100000000) (hp2 : p2.ok 100000000) (hp3 : p3.ok 100000000) (h0 : (Qq.mk p0 p1 p2 p3).first.p ≠ 0) :
    Calls Tryz.prog 161 #[vp0, vp1, vp2, vp3] w fun e w' => RetQtE w (Qq.mk p0 p1 p2 p3).canon 0 e w' := by
  rw [canon_eq h0]
  refine (calls_runFn (ρ := frs (xrMakeTX p0 p1 p2 p3) ++ [.val (.int .i64 (Qq.mk p0 p1 p2 p3).first.sgn)]) (w := w) (fuel := 300) (args := [fr 0, fr 1, fr 2, fr 3]) (vs := [vp0, vp1, vp2, vp3]) (r := .tup [row [5, 6, 7, 8], .one (.i .i64 0)])
    (il_cons (I_rFirst (kq := [0, 1, 2, 3]) (q := (Qq.mk p0 p1 p2 p3)) (ir := 4) ⟨rfl, rfl, rfl, rfl, trivial⟩ rfl ((Qq.ok.mk4 hp0 hp1 hp2 hp3).mono (by decide))) (il_cons (I_rSign (i := 4) rfl (lr (n := 27) rfl) ((Qq.ok.mk4 hp0 hp1 hp2 hp3).first.mono (by decide))) (il_cons (I_rOver (ix := 0) (id := 4) (ir := 5) rfl rfl rfl (hp0.mono (by decide)) ((Qq.ok.mk4 hp0 hp1 hp2 hp3).first.mono (by decide)) h0) (il_cons (I_rOver (ix := 1) (id := 4) (ir := 6) rfl rfl rfl (hp1.mono (by decide)) ((Qq.ok.mk4 hp0 hp1 hp2 hp3).first.mono (by decide)) h0) (il_cons (I_rOver (ix := 2) (id := 4) (ir := 7) rfl rfl rfl (hp2.mono (by decide)) ((Qq.ok.mk4 hp0 hp1 hp2 hp3).first.mono (by decide)) h0) (il_cons (I_rOver (ix := 3) (id := 4) (ir := 8) rfl rfl rfl (hp3.mono (by decide)) ((Qq.ok.mk4 hp0 hp1 hp2 hp3).first.mono (by decide)) h0) il_nil))))))
    (ol_cons (o_eql (n := 27) (c := 0) (t := 3) rfl (sgn_eq h0)) (ol_nil)) (by kernel_rfl) Tryz.func161 (by kernel_rfl) ⟨(fr_isQ (xs := xrMakeTX p0 p1 p2 p3) (k := 0) rfl).2 ip0, ⟨(fr_isQ (xs := xrMakeTX p0 p1 p2 p3) (k := 1) rfl).2 ip1, ⟨(fr_isQ (xs := xrMakeTX p0 p1 p2 p3) (k := 2) rfl).2 ip2, ⟨(fr_isQ (xs := xrMakeTX p0 p1 p2 p3) (k := 3) rfl).2 ip3, trivial⟩⟩⟩⟩).mono ?_
  rintro e w' ⟨v, rfl, ⟨vs, rfl, h1⟩, h2⟩
  match vs, h1 with
  | [r, c], h1 =>
    obtain ⟨⟨cs, rfl, k1⟩, k2, _⟩ := h1
    have k2 : c = _ := k2
    subst k2
    exact ⟨_, rfl, (row_isL (xs := xrMakeTX p0 p1 p2 p3) (ks := [5, 6, 7, 8]) (vs := [(p0.div (Qq.mk p0 p1 p2 p3).first), (p1.div (Qq.mk p0 p1 p2 p3).first), (p2.div (Qq.mk p0 p1 p2 p3).first), (p3.div (Qq.mk p0 p1 p2 p3).first)]) ⟨rfl, rfl, rfl, rfl, trivial⟩).1 ⟨_, rfl, k1⟩, h2⟩
theorem I_rMakeT {xs : List Fq} {ys : Rho} {ip0 : Nat} {ip1 : Nat} {ip2 : Nat} {ip3 : Nat} {p0 : Fq} {p1 : Fq} {p2 : Fq} {p3 : Fq} {kr : List Nat} (ap0 : xs[ip0]? = some p0) (ap1 : xs[ip1]? = some p1) (ap2 : xs[ip2]? = some p2) (ap3 : xs[ip3]? = some p3) (ar : AtL xs kr [(Qq.mk p0 p1 p2 p3).canon.w, (Qq.mk p0 p1 p2 p3).canon.x, (Qq.mk p0 p1 p2 p3).canon.y, (Qq.mk p0 p1 p2 p3).canon.z]) (hp0 : p0.ok 100000000) (hp1 : p1.ok 100000000) (hp2 : p2.ok 100000000) (hp3 : p3.ok 100000000) (h0 : (Qq.mk p0 p1 p2 p3).first.p ≠ 0) : OkI xs ys ⟨161, [fr ip0, fr ip1, fr ip2, fr ip3], .tup [row kr, .one (.i .i64 0)]⟩ :=
  ⟨enters Tryz.func161 rfl rfl, fun B w vs hB h => by
    match vs, h with
    | [vp0, vp1, vp2, vp3], h =>
      refine (q_rMakeT vp0 vp1 vp2 vp3 p0 p1 p2 p3 w ((fr_isQ ap0).1 h.1) ((fr_isQ ap1).1 h.2.1) ((fr_isQ ap2).1 h.2.2.1) ((fr_isQ ap3).1 h.2.2.2.1) hp0 hp1 hp2 hp3 h0).mono ?_
      rintro e w' ⟨v, rfl, h1, h2⟩
      exact ⟨_, rfl, ⟨[v, .int .i64 0], rfl, (row_isL ar).2 h1, rfl, trivial⟩, h2⟩⟩
def xfMakeTX (p0 : Fq) (p1 : Fq) (p2 : Fq) (p3 : Fq) : List Fq := [p0, p1, p2, p3, (p0.div p3), (p1.div p3), (p2.div p3), (p3.div p3)]
def xfMakeT1X (p0 : Fq) (p1 : Fq) (p2 : Fq) (p3 : Fq) : List Fq := [p0, p1, p2, p3, (p0.div p2), (p1.div p2), (p2.div p2), (p3.div p2)]
def xfMakeT2X (p0 : Fq) (p1 : Fq) (p2 : Fq) (p3 : Fq) : List Fq := [p0, p1, p2, p3, (p0.div p1), (p1.div p1), (p2.div p1), (p3.div p1)]
def xfMakeT3X (p0 : Fq) (p1 : Fq) (p2 : Fq) (p3 : Fq) : List Fq := [p0, p1, p2, p3, (p0.div p0), (p1.div p0), (p2.div p0), (p3.div p0)]
theorem q_fMakeT (vp0 vp1 vp2 vp3 : Value) (p0 : Fq) (p1 : Fq) (p2 : Fq) (p3 : Fq) (w : World) (ip0 : IsQ w vp0 p0) (ip1 : IsQ w vp1 p1) (ip2 : IsQ w vp2 p2) (ip3 : IsQ w vp3 p3) (hp0 : p0.ok 100000000) (hp1 : p1.ok 100000000) (hp2 : p2.ok 100000000) (hp3 : p3.ok 100000000) (h0 : (Qq.mk p0 p1 p2 p3).first.p ≠ 0) :
    Calls Tryz.prog 158 #[vp0, vp1, vp2, vp3] w fun e w' => RetQtE w (Qq.mk p0 p1 p2 p3).canon 0 e w' := by
  by_cases c0 : p0.p = 0
  · by_cases c1 : p1.p = 0
    · by_cases c2 : p2.p = 0
      · by_cases c3 : p3.p = 0
        · exact absurd (by simp [Qq.first, c0, c1, c2, c3]) h0
        · have e1 : (Qq.mk p0 p1 p2 p3).first = p3 := by simp [Qq.first, c0, c1, c2, c3]
          rw [canon_eq h0, e1]
          refine (calls_runFn (ρ := frs (xfMakeTX p0 p1 p2 p3) ++ [.val (.int .i64 p3.sgn)]) (w := w) (fuel := 300) (args := [fr 0, fr 1, fr 2, fr 3]) (vs := [vp0, vp1, vp2, vp3]) (r := .tup [row [4, 5, 6, 7], .one (.i .i64 0)])
            (il_cons (I_fSign (i := 0) rfl (li (sgn0 c0)) (hp0.mono (by decide))) (il_cons (I_fSign (i := 1) rfl (li (sgn0 c1)) (hp1.mono (by decide))) (il_cons (I_fSign (i := 2) rfl (li (sgn0 c2)) (hp2.mono (by decide))) (il_cons (I_fSign (i := 3) rfl (lr (n := 24) rfl) (hp3.mono (by decide))) (il_cons (I_fDiv (i := 0) (j := 3) (k := 4) rfl rfl rfl (hp0.mono (by decide)) (hp3.mono (by decide)) c3) (il_cons (I_fDiv (i := 1) (j := 3) (k := 5) rfl rfl rfl (hp1.mono (by decide)) (hp3.mono (by decide)) c3) (il_cons (I_fDiv (i := 2) (j := 3) (k := 6) rfl rfl rfl (hp2.mono (by decide)) (hp3.mono (by decide)) c3) (il_cons (I_fDiv (i := 3) (j := 3) (k := 7) rfl rfl rfl (hp3.mono (by decide)) (hp3.mono (by decide)) c3) (il_cons (I_whole (kq := [4, 5, 6, 7]) (q := (Qq.mk (p0.div p3) (p1.div p3) (p2.div p3) (p3.div p3))) (kr := [4, 5, 6, 7]) ⟨rfl, rfl, rfl, rfl, trivial⟩ ⟨rfl, rfl, rfl, rfl, trivial⟩ (⟨(hp0.div hp3 c3).mono (by decide), (hp1.div hp3 c3).mono (by decide), (hp2.div hp3 c3).mono (by decide), (hp3.div hp3 c3).mono (by decide)⟩ : Qq.ok 1000000000 (Qq.mk (p0.div p3) (p1.div p3) (p2.div p3) (p3.div p3)))) il_nil)))))))))
            (ol_cons (o_eql (n := 24) (c := 0) (t := 3) rfl (sgn_eq c3)) (ol_nil)) (by kernel_rfl) Tryz.func158 (by kernel_rfl) ⟨(fr_isQ (xs := xfMakeTX p0 p1 p2 p3) (k := 0) rfl).2 ip0, ⟨(fr_isQ (xs := xfMakeTX p0 p1 p2 p3) (k := 1) rfl).2 ip1, ⟨(fr_isQ (xs := xfMakeTX p0 p1 p2 p3) (k := 2) rfl).2 ip2, ⟨(fr_isQ (xs := xfMakeTX p0 p1 p2 p3) (k := 3) rfl).2 ip3, trivial⟩⟩⟩⟩).mono ?_
          rintro e w' ⟨v, rfl, ⟨vs, rfl, h1⟩, h2⟩
          match vs, h1 with
          | [r, c], h1 =>
            obtain ⟨⟨cs, rfl, k1⟩, k2, _⟩ := h1
            have k2 : c = _ := k2
            subst k2
            exact ⟨_, rfl, (row_isL (xs := xfMakeTX p0 p1 p2 p3) (ks := [4, 5, 6, 7]) (vs := [(p0.div p3), (p1.div p3), (p2.div p3), (p3.div p3)]) ⟨rfl, rfl, rfl, rfl, trivial⟩).1 ⟨_, rfl, k1⟩, h2⟩
      · have e1 : (Qq.mk p0 p1 p2 p3).first = p2 := by simp [Qq.first, c0, c1, c2]
        rw [canon_eq h0, e1]
        refine (calls_runFn (ρ := frs (xfMakeT1X p0 p1 p2 p3) ++ [.val (.int .i64 p2.sgn)]) (w := w) (fuel := 300) (args := [fr 0, fr 1, fr 2, fr 3]) (vs := [vp0, vp1, vp2, vp3]) (r := .tup [row [4, 5, 6, 7], .one (.i .i64 0)])
          (il_cons (I_fSign (i := 0) rfl (li (sgn0 c0)) (hp0.mono (by decide))) (il_cons (I_fSign (i := 1) rfl (li (sgn0 c1)) (hp1.mono (by decide))) (il_cons (I_fSign (i := 2) rfl (lr (n := 24) rfl) (hp2.mono (by decide))) (il_cons (I_fDiv (i := 0) (j := 2) (k := 4) rfl rfl rfl (hp0.mono (by decide)) (hp2.mono (by decide)) c2) (il_cons (I_fDiv (i := 1) (j := 2) (k := 5) rfl rfl rfl (hp1.mono (by decide)) (hp2.mono (by decide)) c2) (il_cons (I_fDiv (i := 2) (j := 2) (k := 6) rfl rfl rfl (hp2.mono (by decide)) (hp2.mono (by decide)) c2) (il_cons (I_fDiv (i := 3) (j := 2) (k := 7) rfl rfl rfl (hp3.mono (by decide)) (hp2.mono (by decide)) c2) (il_cons (I_whole (kq := [4, 5, 6, 7]) (q := (Qq.mk (p0.div p2) (p1.div p2) (p2.div p2) (p3.div p2))) (kr := [4, 5, 6, 7]) ⟨rfl, rfl, rfl, rfl, trivial⟩ ⟨rfl, rfl, rfl, rfl, trivial⟩ (⟨(hp0.div hp2 c2).mono (by decide), (hp1.div hp2 c2).mono (by decide), (hp2.div hp2 c2).mono (by decide), (hp3.div hp2 c2).mono (by decide)⟩ : Qq.ok 1000000000 (Qq.mk (p0.div p2) (p1.div p2) (p2.div p2) (p3.div p2)))) il_nil))))))))
          (ol_cons (o_eql (n := 24) (c := 0) (t := 3) rfl (sgn_eq c2)) (ol_nil)) (by kernel_rfl) Tryz.func158 (by kernel_rfl) ⟨(fr_isQ (xs := xfMakeT1X p0 p1 p2 p3) (k := 0) rfl).2 ip0, ⟨(fr_isQ (xs := xfMakeT1X p0 p1 p2 p3) (k := 1) rfl).2 ip1, ⟨(fr_isQ (xs := xfMakeT1X p0 p1 p2 p3) (k := 2) rfl).2 ip2, ⟨(fr_isQ (xs := xfMakeT1X p0 p1 p2 p3) (k := 3) rfl).2 ip3, trivial⟩⟩⟩⟩).mono ?_
        rintro e w' ⟨v, rfl, ⟨vs, rfl, h1⟩, h2⟩
        match vs, h1 with
        | [r, c], h1 =>
          obtain ⟨⟨cs, rfl, k1⟩, k2, _⟩ := h1
          have k2 : c = _ := k2
          subst k2
          exact ⟨_, rfl, (row_isL (xs := xfMakeT1X p0 p1 p2 p3) (ks := [4, 5, 6, 7]) (vs := [(p0.div p2), (p1.div p2), (p2.div p2), (p3.div p2)]) ⟨rfl, rfl, rfl, rfl, trivial⟩).1 ⟨_, rfl, k1⟩, h2⟩
    · have e1 : (Qq.mk p0 p1 p2 p3).first = p1 := by simp [Qq.first, c0, c1]
      rw [canon_eq h0, e1]
      refine (calls_runFn (ρ := frs (xfMakeT2X p0 p1 p2 p3) ++ [.val (.int .i64 p1.sgn)]) (w := w) (fuel := 300) (args := [fr 0, fr 1, fr 2, fr 3]) (vs := [vp0, vp1, vp2, vp3]) (r := .tup [row [4, 5, 6, 7], .one (.i .i64 0)])
        (il_cons (I_fSign (i := 0) rfl (li (sgn0 c0)) (hp0.mono (by decide))) (il_cons (I_fSign (i := 1) rfl (lr (n := 24) rfl) (hp1.mono (by decide))) (il_cons (I_fDiv (i := 0) (j := 1) (k := 4) rfl rfl rfl (hp0.mono (by decide)) (hp1.mono (by decide)) c1) (il_cons (I_fDiv (i := 1) (j := 1) (k := 5) rfl rfl rfl (hp1.mono (by decide)) (hp1.mono (by decide)) c1) (il_cons (I_fDiv (i := 2) (j := 1) (k := 6) rfl rfl rfl (hp2.mono (by decide)) (hp1.mono (by decide)) c1) (il_cons (I_fDiv (i := 3) (j := 1) (k := 7) rfl rfl rfl (hp3.mono (by decide)) (hp1.mono (by decide)) c1) (il_cons (I_whole (kq := [4, 5, 6, 7]) (q := (Qq.mk (p0.div p1) (p1.div p1) (p2.div p1) (p3.div p1))) (kr := [4, 5, 6, 7]) ⟨rfl, rfl, rfl, rfl, trivial⟩ ⟨rfl, rfl, rfl, rfl, trivial⟩ (⟨(hp0.div hp1 c1).mono (by decide), (hp1.div hp1 c1).mono (by decide), (hp2.div hp1 c1).mono (by decide), (hp3.div hp1 c1).mono (by decide)⟩ : Qq.ok 1000000000 (Qq.mk (p0.div p1) (p1.div p1) (p2.div p1) (p3.div p1)))) il_nil)))))))
        (ol_cons (o_eql (n := 24) (c := 0) (t := 3) rfl (sgn_eq c1)) (ol_nil)) (by kernel_rfl) Tryz.func158 (by kernel_rfl) ⟨(fr_isQ (xs := xfMakeT2X p0 p1 p2 p3) (k := 0) rfl).2 ip0, ⟨(fr_isQ (xs := xfMakeT2X p0 p1 p2 p3) (k := 1) rfl).2 ip1, ⟨(fr_isQ (xs := xfMakeT2X p0 p1 p2 p3) (k := 2) rfl).2 ip2, ⟨(fr_isQ (xs := xfMakeT2X p0 p1 p2 p3) (k := 3) rfl).2 ip3, trivial⟩⟩⟩⟩).mono ?_
      rintro e w' ⟨v, rfl, ⟨vs, rfl, h1⟩, h2⟩
      match vs, h1 with
      | [r, c], h1 =>
        obtain ⟨⟨cs, rfl, k1⟩, k2, _⟩ := h1
        have k2 : c = _ := k2
        subst k2
        exact ⟨_, rfl, (row_isL (xs := xfMakeT2X p0 p1 p2 p3) (ks := [4, 5, 6, 7]) (vs := [(p0.div p1), (p1.div p1), (p2.div p1), (p3.div p1)]) ⟨rfl, rfl, rfl, rfl, trivial⟩).1 ⟨_, rfl, k1⟩, h2⟩
  · have e1 : (Qq.mk p0 p1 p2 p3).first = p0 := by simp [Qq.first, c0]
    rw [canon_eq h0, e1]
    refine (calls_runFn (ρ := frs (xfMakeT3X p0 p1 p2 p3) ++ [.val (.int .i64 p0.sgn)]) (w := w) (fuel := 300) (args := [fr 0, fr 1, fr 2, fr 3]) (vs := [vp0, vp1, vp2, vp3]) (r := .tup [row [4, 5, 6, 7], .one (.i .i64 0)])
      (il_cons (I_fSign (i := 0) rfl (lr (n := 24) rfl) (hp0.mono (by decide))) (il_cons (I_fDiv (i := 0) (j := 0) (k := 4) rfl rfl rfl (hp0.mono (by decide)) (hp0.mono (by decide)) c0) (il_cons (I_fDiv (i := 1) (j := 0) (k := 5) rfl rfl rfl (hp1.mono (by decide)) (hp0.mono (by decide)) c0) (il_cons (I_fDiv (i := 2) (j := 0) (k := 6) rfl rfl rfl (hp2.mono (by decide)) (hp0.mono (by decide)) c0) (il_cons (I_fDiv (i := 3) (j := 0) (k := 7) rfl rfl rfl (hp3.mono (by decide)) (hp0.mono (by decide)) c0) (il_cons (I_whole (kq := [4, 5, 6, 7]) (q := (Qq.mk (p0.div p0) (p1.div p0) (p2.div p0) (p3.div p0))) (kr := [4, 5, 6, 7]) ⟨rfl, rfl, rfl, rfl, trivial⟩ ⟨rfl, rfl, rfl, rfl, trivial⟩ (⟨(hp0.div hp0 c0).mono (by decide), (hp1.div hp0 c0).mono (by decide), (hp2.div hp0 c0).mono (by decide), (hp3.div hp0 c0).mono (by decide)⟩ : Qq.ok 1000000000 (Qq.mk (p0.div p0) (p1.div p0) (p2.div p0) (p3.div p0)))) il_nil))))))
      (ol_cons (o_eql (n := 24) (c := 0) (t := 3) rfl (sgn_eq c0)) (ol_nil)) (by kernel_rfl) Tryz.func158 (by kernel_rfl) ⟨(fr_isQ (xs := xfMakeT3X p0 p1 p2 p3) (k := 0) rfl).2 ip0, ⟨(fr_isQ (xs := xfMakeT3X p0 p1 p2 p3) (k := 1) rfl).2 ip1, ⟨(fr_isQ (xs := xfMakeT3X p0 p1 p2 p3) (k := 2) rfl).2 ip2, ⟨(fr_isQ (xs := xfMakeT3X p0 p1 p2 p3) (k := 3) rfl).2 ip3, trivial⟩⟩⟩⟩).mono ?_
    rintro e w' ⟨v, rfl, ⟨vs, rfl, h1⟩, h2⟩
    match vs, h1 with
    | [r, c], h1 =>
      obtain ⟨⟨cs, rfl, k1⟩, k2, _⟩ := h1
      have k2 : c = _ := k2
      subst k2
      exact ⟨_, rfl, (row_isL (xs := xfMakeT3X p0 p1 p2 p3) (ks := [4, 5, 6, 7]) (vs := [(p0.div p0), (p1.div p0), (p2.div p0), (p3.div p0)]) ⟨rfl, rfl, rfl, rfl, trivial⟩).1 ⟨_, rfl, k1⟩, h2⟩
theorem I_fMakeT {xs : List Fq} {ys : Rho} {ip0 : Nat} {ip1 : Nat} {ip2 : Nat} {ip3 : Nat} {p0 : Fq} {p1 : Fq} {p2 : Fq} {p3 : Fq} {kr : List Nat} (ap0 : xs[ip0]? = some p0) (ap1 : xs[ip1]? = some p1) (ap2 : xs[ip2]? = some p2) (ap3 : xs[ip3]? = some p3) (ar : AtL xs kr [(Qq.mk p0 p1 p2 p3).canon.w, (Qq.mk p0 p1 p2 p3).canon.x, (Qq.mk p0 p1 p2 p3).canon.y, (Qq.mk p0 p1 p2 p3).canon.z]) (hp0 : p0.ok 100000000) (hp1 : p1.ok 100000000) (hp2 : p2.ok 100000000) (hp3 : p3.ok 100000000) (h0 : (Qq.mk p0 p1 p2 p3).first.p ≠ 0) : OkI xs ys ⟨158, [fr ip0, fr ip1, fr ip2, fr ip3], .tup [row kr, .one (.i .i64 0)]⟩ :=
  ⟨enters Tryz.func158 rfl rfl, fun B w vs hB h => by
    match vs, h with
    | [vp0, vp1, vp2, vp3], h =>
      refine (q_fMakeT vp0 vp1 vp2 vp3 p0 p1 p2 p3 w ((fr_isQ ap0).1 h.1) ((fr_isQ ap1).1 h.2.1) ((fr_isQ ap2).1 h.2.2.1) ((fr_isQ ap3).1 h.2.2.2.1) hp0 hp1 hp2 hp3 h0).mono ?_
      rintro e w' ⟨v, rfl, h1, h2⟩
      exact ⟨_, rfl, ⟨[v, .int .i64 0], rfl, (row_isL ar).2 h1, rfl, trivial⟩, h2⟩⟩
def xrCanonX (u : Fq) (c : Vq) : List Fq := [u, c.x, c.y, c.z, (Qq.mk u c.x c.y c.z).canon.w, (Qq.mk u c.x c.y c.z).canon.x, (Qq.mk u c.x c.y c.z).canon.y, (Qq.mk u c.x c.y c.z).canon.z]
theorem q_rCanon (vu vc : Value) (u : Fq) (c : Vq) (w : World) (iu : IsQ w vu u) (ic : IsVq w vc c) (hu : u.ok 100000000) (hc : c.ok 100000000) (h0 : (Qq.mk u c.x c.y c.z).first.p ≠ 0) :
    Calls Tryz.prog 128 #[vu, vc] w fun e w' => RetQt w (Qq.mk u c.x c.y c.z).canon e w' := by
  refine (calls_runFn (ρ := frs (xrCanonX u c) ++ []) (w := w) (fuel := 300) (args := [fr 0, row [1, 2, 3]]) (vs := [vu, vc]) (r := .v (row [4, 5, 6, 7]))
    (il_cons (I_rMakeT (ip0 := 0) (ip1 := 1) (ip2 := 2) (ip3 := 3) (kr := [4, 5, 6, 7]) rfl rfl rfl rfl ⟨rfl, rfl, rfl, rfl, trivial⟩ (hu.mono (by decide)) (hc.x.mono (by decide)) (hc.y.mono (by decide)) (hc.z.mono (by decide)) h0) il_nil)
    ol_nil (by kernel_rfl) Tryz.func128 (by kernel_rfl) ⟨(fr_isQ (xs := xrCanonX u c) (k := 0) rfl).2 iu, ⟨(row_isL (xs := xrCanonX u c) (ks := [1, 2, 3]) (vs := [c.x, c.y, c.z]) ⟨rfl, rfl, rfl, trivial⟩).2 ic, trivial⟩⟩).mono ?_
  rintro e w' ⟨v, rfl, h1, h2⟩
  exact ⟨v, rfl, (row_isL (xs := xrCanonX u c) (ks := [4, 5, 6, 7]) (vs := [(Qq.mk u c.x c.y c.z).canon.w, (Qq.mk u c.x c.y c.z).canon.x, (Qq.mk u c.x c.y c.z).canon.y, (Qq.mk u c.x c.y c.z).canon.z]) ⟨rfl, rfl, rfl, rfl, trivial⟩).1 h1, h2⟩
theorem I_rCanon {xs : List Fq} {ys : Rho} {iu : Nat} {kc : List Nat} {u : Fq} {c : Vq} {kr : List Nat} (au : xs[iu]? = some u) (ac : AtL xs kc [c.x, c.y, c.z]) (ar : AtL xs kr [(Qq.mk u c.x c.y c.z).canon.w, (Qq.mk u c.x c.y c.z).canon.x, (Qq.mk u c.x c.y c.z).canon.y, (Qq.mk u c.x c.y c.z).canon.z]) (hu : u.ok 100000000) (hc : c.ok 100000000) (h0 : (Qq.mk u c.x c.y c.z).first.p ≠ 0) : OkI xs ys ⟨128, [fr iu, row kc], .v (row kr)⟩ :=
  ⟨enters Tryz.func128 rfl rfl, fun B w vs hB h => by
    match vs, h with
    | [vu, vc], h =>
      refine (q_rCanon vu vc u c w ((fr_isQ au).1 h.1) ((row_isL ac).1 h.2.1) hu hc h0).mono ?_
      rintro e w' ⟨v, rfl, h1, h2⟩
      exact ⟨v, rfl, (row_isL ar).2 h1, h2⟩⟩
def xfCanonX (u : Fq) (c : Vq) : List Fq := [u, c.x, c.y, c.z, (Qq.mk u c.x c.y c.z).canon.w, (Qq.mk u c.x c.y c.z).canon.x, (Qq.mk u c.x c.y c.z).canon.y, (Qq.mk u c.x c.y c.z).canon.z]
theorem q_fCanon (vu vc : Value) (u : Fq) (c : Vq) (w : World) (iu : IsQ w vu u) (ic : IsVq w vc c) (hu : u.ok 100000000) (hc : c.ok 100000000) (h0 : (Qq.mk u c.x c.y c.z).first.p ≠ 0) :
    Calls Tryz.prog 118 #[vu, vc] w fun e w' => RetQt w (Qq.mk u c.x c.y c.z).canon e w' := by
  refine (calls_runFn (ρ := frs (xfCanonX u c) ++ []) (w := w) (fuel := 300) (args := [fr 0, row [1, 2, 3]]) (vs := [vu, vc]) (r := .v (row [4, 5, 6, 7]))
    (il_cons (I_fMakeT (ip0 := 0) (ip1 := 1) (ip2 := 2) (ip3 := 3) (kr := [4, 5, 6, 7]) rfl rfl rfl rfl ⟨rfl, rfl, rfl, rfl, trivial⟩ (hu.mono (by decide)) (hc.x.mono (by decide)) (hc.y.mono (by decide)) (hc.z.mono (by decide)) h0) il_nil)
    ol_nil (by kernel_rfl) Tryz.func118 (by kernel_rfl) ⟨(fr_isQ (xs := xfCanonX u c) (k := 0) rfl).2 iu, ⟨(row_isL (xs := xfCanonX u c) (ks := [1, 2, 3]) (vs := [c.x, c.y, c.z]) ⟨rfl, rfl, rfl, trivial⟩).2 ic, trivial⟩⟩).mono ?_
  rintro e w' ⟨v, rfl, h1, h2⟩
  exact ⟨v, rfl, (row_isL (xs := xfCanonX u c) (ks := [4, 5, 6, 7]) (vs := [(Qq.mk u c.x c.y c.z).canon.w, (Qq.mk u c.x c.y c.z).canon.x, (Qq.mk u c.x c.y c.z).canon.y, (Qq.mk u c.x c.y c.z).canon.z]) ⟨rfl, rfl, rfl, rfl, trivial⟩).1 h1, h2⟩
theorem I_fCanon {xs : List Fq} {ys : Rho} {iu : Nat} {kc : List Nat} {u : Fq} {c : Vq} {kr : List Nat} (au : xs[iu]? = some u) (ac : AtL xs kc [c.x, c.y, c.z]) (ar : AtL xs kr [(Qq.mk u c.x c.y c.z).canon.w, (Qq.mk u c.x c.y c.z).canon.x, (Qq.mk u c.x c.y c.z).canon.y, (Qq.mk u c.x c.y c.z).canon.z]) (hu : u.ok 100000000) (hc : c.ok 100000000) (h0 : (Qq.mk u c.x c.y c.z).first.p ≠ 0) : OkI xs ys ⟨118, [fr iu, row kc], .v (row kr)⟩ :=
  ⟨enters Tryz.func118 rfl rfl, fun B w vs hB h => by
    match vs, h with
    | [vu, vc], h =>
      refine (q_fCanon vu vc u c w ((fr_isQ au).1 h.1) ((row_isL ac).1 h.2.1) hu hc h0).mono ?_
      rintro e w' ⟨v, rfl, h1, h2⟩
      exact ⟨v, rfl, (row_isL ar).2 h1, h2⟩⟩
end Go.Proofs.YthebfmlfgfmlnaaGreatDoor
