/- Vectors, by the executor. Rotations, by the executor. Rows of fractions as they come in. Make and canonical of rotations, by the executor. Products, inverses, images, by the executor. Matrices, units, from one vector to another, by the executor. On the way, valid rotations, by the executor. -/
import Derived.Test.YthebfmlfgfmlnaaGreatDoorP11
namespace Go.Proofs.YthebfmlfgfmlnaaGreatDoor
set_option linter.unusedSimpArgs false
set_option linter.unusedVariables false
set_option maxRecDepth 100000
open Go.RowKit
abbrev IsVq (w : World) (v : Value) (a : Vq) : Prop := IsL w v [a.x.raw, a.y.raw, a.z.raw]
abbrev RetL (W : World) (l : List Rq) (e : Ending) (w' : World) : Prop := ∃ v, e = .returned v ∧ IsL w' v l ∧ Below W.heap.size W w'
abbrev RetVq (W : World) (a : Vq) (e : Ending) (w' : World) : Prop := RetL W [a.x.raw, a.y.raw, a.z.raw] e w'
abbrev IsQt (w : World) (v : Value) (q : Qq) : Prop := IsL w v [q.w.raw, q.x.raw, q.y.raw, q.z.raw]
abbrev RetQt (W : World) (q : Qq) (e : Ending) (w' : World) : Prop := RetL W [q.w.raw, q.x.raw, q.y.raw, q.z.raw] e w'
def RetLE (W : World) (l : List Rq) (c : Int) (e : Ending) (w' : World) : Prop := ∃ v, e = .returned (.tuple #[v, .int .i64 c]) ∧ IsL w' v l ∧ Below W.heap.size W w'
abbrev RetQtE (W : World) (q : Qq) (c : Int) (e : Ending) (w' : World) : Prop := RetLE W [q.w.raw, q.x.raw, q.y.raw, q.z.raw] c e w'
theorem ok_int {u : Int} (lu : -9223372036854775808 ≤ u) (ru : u < 9223372036854775808) : (Fq.ofInt u).ok 2 := ⟨nl_abs lu ru, nl_le_iff.2 (by show (1 : Nat) < 4294967296 ^ 2; decide), by show (1 : Nat) ≠ 0; decide⟩
def xtimesX (x y : Fq) : List Fq := [x, y, (x.mul y)]
theorem q_times (vp : Value) (x y : Fq) (w : World) (ip : IsL w vp [x.raw, y.raw]) (hx : x.ok 1000000000) (hy : y.ok 1000000000) :
    Calls Tryz.prog 107 #[vp] w fun e w' => RetQ w (x.mul y) e w' := by
  refine (calls_runFn (ρ := frs (xtimesX x y) ++ []) (w := w) (fuel := 300) (args := [row [0, 1]]) (vs := [vp]) (r := .v (fr 2))
    (il_cons (I_fMul (i := 0) (j := 1) (k := 2) rfl rfl rfl (hx.mono (by decide)) (hy.mono (by decide))) il_nil)
    ol_nil (by kernel_rfl) Tryz.func107 (by kernel_rfl) ⟨(row_isL (xs := xtimesX x y) (ks := [0, 1]) (vs := [x, y]) ⟨rfl, rfl, trivial⟩).2 ip, trivial⟩).mono ?_
  rintro e w' ⟨v, rfl, h1, h2⟩
  exact ⟨v, rfl, (fr_isQ (xs := xtimesX x y) (k := 2) rfl).1 h1, h2⟩
theorem I_times {xs : List Fq} {ys : Rho} {ks : List Nat} {k : Nat} {x y : Fq} (hi : AtL xs ks [x, y]) (hk : xs[k]? = some (x.mul y)) (hx : x.ok 1000000000) (hy : y.ok 1000000000) : OkI xs ys ⟨107, [row ks], .v (fr k)⟩ :=
  ⟨enters Tryz.func107 rfl rfl, fun B w vs hB h => by
    match vs, h with
    | [va], h =>
      refine (q_times va x y w ((row_isL hi).1 h.1) hx hy).mono ?_
      rintro e w' ⟨v, rfl, h1, h2⟩
      exact ⟨v, rfl, (fr_isQ hk).2 h1, h2⟩⟩
def xlessX (x y : Fq) : List Fq := [x, y, (x.sub y)]
theorem q_less (vp : Value) (x y : Fq) (w : World) (ip : IsL w vp [x.raw, y.raw]) (hx : x.ok 1000000000) (hy : y.ok 1000000000) :
    Calls Tryz.prog 157 #[vp] w fun e w' => RetQ w (x.sub y) e w' := by
  refine (calls_runFn (ρ := frs (xlessX x y) ++ []) (w := w) (fuel := 300) (args := [row [0, 1]]) (vs := [vp]) (r := .v (fr 2))
    (il_cons (I_fSub (i := 0) (j := 1) (k := 2) rfl rfl rfl (hx.mono (by decide)) (hy.mono (by decide))) il_nil)
    ol_nil (by kernel_rfl) Tryz.func157 (by kernel_rfl) ⟨(row_isL (xs := xlessX x y) (ks := [0, 1]) (vs := [x, y]) ⟨rfl, rfl, trivial⟩).2 ip, trivial⟩).mono ?_
  rintro e w' ⟨v, rfl, h1, h2⟩
  exact ⟨v, rfl, (fr_isQ (xs := xlessX x y) (k := 2) rfl).1 h1, h2⟩
theorem I_less {xs : List Fq} {ys : Rho} {ks : List Nat} {k : Nat} {x y : Fq} (hi : AtL xs ks [x, y]) (hk : xs[k]? = some (x.sub y)) (hx : x.ok 1000000000) (hy : y.ok 1000000000) : OkI xs ys ⟨157, [row ks], .v (fr k)⟩ :=
  ⟨enters Tryz.func157 rfl rfl, fun B w vs hB h => by
    match vs, h with
    | [va], h =>
      refine (q_less va x y w ((row_isL hi).1 h.1) hx hy).mono ?_
      rintro e w' ⟨v, rfl, h1, h2⟩
      exact ⟨v, rfl, (fr_isQ hk).2 h1, h2⟩⟩
def xeachAddX (a : Vq) (b : Vq) : List Fq := [a.x, a.y, a.z, b.x, b.y, b.z, (a.x.add b.x), (a.y.add b.y), (a.z.add b.z)]
theorem q_eachAdd (va vb : Value) (a : Vq) (b : Vq) (w : World) (ia : IsVq w va a) (ib : IsVq w vb b) (ha : a.ok 100000000) (hb : b.ok 100000000) :
    Calls Tryz.prog 105 #[va, vb, fnV 108] w fun e w' => RetVq w (a.add b) e w' := by
  refine (calls_runFn (ρ := frs (xeachAddX a b) ++ []) (w := w) (fuel := 300) (args := [row [0, 1, 2], row [3, 4, 5], .one (.fn 108)]) (vs := [va, vb, fnV 108]) (r := .v (row [6, 7, 8]))
    (il_cons (I_fAdd (i := 0) (j := 3) (k := 6) rfl rfl rfl (ha.x.mono (by decide)) (hb.x.mono (by decide))) (il_cons (I_fAdd (i := 1) (j := 4) (k := 7) rfl rfl rfl (ha.y.mono (by decide)) (hb.y.mono (by decide))) (il_cons (I_fAdd (i := 2) (j := 5) (k := 8) rfl rfl rfl (ha.z.mono (by decide)) (hb.z.mono (by decide))) il_nil)))
    ol_nil (by kernel_rfl) Tryz.func105 (by kernel_rfl) ⟨(row_isL (xs := xeachAddX a b) (ks := [0, 1, 2]) (vs := [a.x, a.y, a.z]) ⟨rfl, rfl, rfl, trivial⟩).2 ia, ⟨(row_isL (xs := xeachAddX a b) (ks := [3, 4, 5]) (vs := [b.x, b.y, b.z]) ⟨rfl, rfl, rfl, trivial⟩).2 ib, ⟨rfl, trivial⟩⟩⟩).mono ?_
  rintro e w' ⟨v, rfl, h1, h2⟩
  exact ⟨v, rfl, (row_isL (xs := xeachAddX a b) (ks := [6, 7, 8]) (vs := [(a.x.add b.x), (a.y.add b.y), (a.z.add b.z)]) ⟨rfl, rfl, rfl, trivial⟩).1 h1, h2⟩
theorem I_eachAdd {xs : List Fq} {ys : Rho} {ka : List Nat} {kb : List Nat} {a : Vq} {b : Vq} {kr : List Nat} (aa : AtL xs ka [a.x, a.y, a.z]) (ab : AtL xs kb [b.x, b.y, b.z]) (ar : AtL xs kr [(a.add b).x, (a.add b).y, (a.add b).z]) (ha : a.ok 100000000) (hb : b.ok 100000000) : OkI xs ys ⟨105, [row ka, row kb, .one (.fn 108)], .v (row kr)⟩ :=
  ⟨enters Tryz.func105 rfl rfl, fun B w vs hB h => by
    match vs, h with
    | [va, vb, vf], h =>
      have ef : vf = fnV 108 := h.2.2.1
      subst ef
      refine (q_eachAdd va vb a b w ((row_isL aa).1 h.1) ((row_isL ab).1 h.2.1) ha hb).mono ?_
      rintro e w' ⟨v, rfl, h1, h2⟩
      exact ⟨v, rfl, (row_isL ar).2 h1, h2⟩⟩
/-- Products of the coordinates. -/
def Vq.times (a b : Vq) : Vq := ⟨a.x.mul b.x, a.y.mul b.y, a.z.mul b.z⟩
theorem Vq.ok.times {a b : Vq} {d e : Nat} (h : a.ok d) (k : b.ok e) : (a.times b).ok (d + e) := ⟨h.x.mul k.x, h.y.mul k.y, h.z.mul k.z⟩
def xeachMulX (a : Vq) (b : Vq) : List Fq := [a.x, a.y, a.z, b.x, b.y, b.z, (a.x.mul b.x), (a.y.mul b.y), (a.z.mul b.z)]
theorem q_eachMul (va vb : Value) (a : Vq) (b : Vq) (w : World) (ia : IsVq w va a) (ib : IsVq w vb b) (ha : a.ok 100000000) (hb : b.ok 100000000) :
    Calls Tryz.prog 105 #[va, vb, fnV 115] w fun e w' => RetVq w (a.times b) e w' := by
  refine (calls_runFn (ρ := frs (xeachMulX a b) ++ []) (w := w) (fuel := 300) (args := [row [0, 1, 2], row [3, 4, 5], .one (.fn 115)]) (vs := [va, vb, fnV 115]) (r := .v (row [6, 7, 8]))
    (il_cons (I_fMul (i := 0) (j := 3) (k := 6) rfl rfl rfl (ha.x.mono (by decide)) (hb.x.mono (by decide))) (il_cons (I_fMul (i := 1) (j := 4) (k := 7) rfl rfl rfl (ha.y.mono (by decide)) (hb.y.mono (by decide))) (il_cons (I_fMul (i := 2) (j := 5) (k := 8) rfl rfl rfl (ha.z.mono (by decide)) (hb.z.mono (by decide))) il_nil)))
    ol_nil (by kernel_rfl) Tryz.func105 (by kernel_rfl) ⟨(row_isL (xs := xeachMulX a b) (ks := [0, 1, 2]) (vs := [a.x, a.y, a.z]) ⟨rfl, rfl, rfl, trivial⟩).2 ia, ⟨(row_isL (xs := xeachMulX a b) (ks := [3, 4, 5]) (vs := [b.x, b.y, b.z]) ⟨rfl, rfl, rfl, trivial⟩).2 ib, ⟨rfl, trivial⟩⟩⟩).mono ?_
  rintro e w' ⟨v, rfl, h1, h2⟩
  exact ⟨v, rfl, (row_isL (xs := xeachMulX a b) (ks := [6, 7, 8]) (vs := [(a.x.mul b.x), (a.y.mul b.y), (a.z.mul b.z)]) ⟨rfl, rfl, rfl, trivial⟩).1 h1, h2⟩
theorem I_eachMul {xs : List Fq} {ys : Rho} {ka : List Nat} {kb : List Nat} {a : Vq} {b : Vq} {kr : List Nat} (aa : AtL xs ka [a.x, a.y, a.z]) (ab : AtL xs kb [b.x, b.y, b.z]) (ar : AtL xs kr [(a.times b).x, (a.times b).y, (a.times b).z]) (ha : a.ok 100000000) (hb : b.ok 100000000) : OkI xs ys ⟨105, [row ka, row kb, .one (.fn 115)], .v (row kr)⟩ :=
  ⟨enters Tryz.func105 rfl rfl, fun B w vs hB h => by
    match vs, h with
    | [va, vb, vf], h =>
      have ef : vf = fnV 115 := h.2.2.1
      subst ef
      refine (q_eachMul va vb a b w ((row_isL aa).1 h.1) ((row_isL ab).1 h.2.1) ha hb).mono ?_
      rintro e w' ⟨v, rfl, h1, h2⟩
      exact ⟨v, rfl, (row_isL ar).2 h1, h2⟩⟩
def xvAddX (a : Vq) (b : Vq) : List Fq := [a.x, a.y, a.z, b.x, b.y, b.z, (a.add b).x, (a.add b).y, (a.add b).z]
theorem q_vAdd (va vb : Value) (a : Vq) (b : Vq) (w : World) (ia : IsVq w va a) (ib : IsVq w vb b) (ha : a.ok 100000000) (hb : b.ok 100000000) :
    Calls Tryz.prog 116 #[va, vb] w fun e w' => RetVq w (a.add b) e w' := by
  refine (calls_runFn (ρ := frs (xvAddX a b) ++ []) (w := w) (fuel := 300) (args := [row [0, 1, 2], row [3, 4, 5]]) (vs := [va, vb]) (r := .v (row [6, 7, 8]))
    (il_cons (I_eachAdd (ka := [0, 1, 2]) (a := a) (kb := [3, 4, 5]) (b := b) (kr := [6, 7, 8]) ⟨rfl, rfl, rfl, trivial⟩ ⟨rfl, rfl, rfl, trivial⟩ ⟨rfl, rfl, rfl, trivial⟩ (ha.mono (by decide)) (hb.mono (by decide))) il_nil)
    ol_nil (by kernel_rfl) Tryz.func116 (by kernel_rfl) ⟨(row_isL (xs := xvAddX a b) (ks := [0, 1, 2]) (vs := [a.x, a.y, a.z]) ⟨rfl, rfl, rfl, trivial⟩).2 ia, ⟨(row_isL (xs := xvAddX a b) (ks := [3, 4, 5]) (vs := [b.x, b.y, b.z]) ⟨rfl, rfl, rfl, trivial⟩).2 ib, trivial⟩⟩).mono ?_
  rintro e w' ⟨v, rfl, h1, h2⟩
  exact ⟨v, rfl, (row_isL (xs := xvAddX a b) (ks := [6, 7, 8]) (vs := [(a.add b).x, (a.add b).y, (a.add b).z]) ⟨rfl, rfl, rfl, trivial⟩).1 h1, h2⟩
theorem I_vAdd {xs : List Fq} {ys : Rho} {ka : List Nat} {kb : List Nat} {a : Vq} {b : Vq} {kr : List Nat} (aa : AtL xs ka [a.x, a.y, a.z]) (ab : AtL xs kb [b.x, b.y, b.z]) (ar : AtL xs kr [(a.add b).x, (a.add b).y, (a.add b).z]) (ha : a.ok 100000000) (hb : b.ok 100000000) : OkI xs ys ⟨116, [row ka, row kb], .v (row kr)⟩ :=
  ⟨enters Tryz.func116 rfl rfl, fun B w vs hB h => by
    match vs, h with
    | [va, vb], h =>
      refine (q_vAdd va vb a b w ((row_isL aa).1 h.1) ((row_isL ab).1 h.2.1) ha hb).mono ?_
      rintro e w' ⟨v, rfl, h1, h2⟩
      exact ⟨v, rfl, (row_isL ar).2 h1, h2⟩⟩
def xvScaleX (a : Vq) (k : Fq) : List Fq := [a.x, a.y, a.z, k, (a.times (Vq.mk k k k)).x, (a.times (Vq.mk k k k)).y, (a.times (Vq.mk k k k)).z]
theorem q_vScale (va vk : Value) (a : Vq) (k : Fq) (w : World) (ia : IsVq w va a) (ik : IsQ w vk k) (ha : a.ok 100000000) (hk : k.ok 100000000) :
    Calls Tryz.prog 67 #[va, vk] w fun e w' => RetVq w (a.scale k) e w' := by
  refine (calls_runFn (ρ := frs (xvScaleX a k) ++ []) (w := w) (fuel := 300) (args := [row [0, 1, 2], fr 3]) (vs := [va, vk]) (r := .v (row [4, 5, 6]))
    (il_cons (I_eachMul (ka := [0, 1, 2]) (a := a) (kb := [3, 3, 3]) (b := (Vq.mk k k k)) (kr := [4, 5, 6]) ⟨rfl, rfl, rfl, trivial⟩ ⟨rfl, rfl, rfl, trivial⟩ ⟨rfl, rfl, rfl, trivial⟩ (ha.mono (by decide)) (⟨hk.mono (by decide), hk.mono (by decide), hk.mono (by decide)⟩ : Vq.ok 100000000 (Vq.mk k k k))) il_nil)
    ol_nil (by kernel_rfl) Tryz.func67 (by kernel_rfl) ⟨(row_isL (xs := xvScaleX a k) (ks := [0, 1, 2]) (vs := [a.x, a.y, a.z]) ⟨rfl, rfl, rfl, trivial⟩).2 ia, ⟨(fr_isQ (xs := xvScaleX a k) (k := 3) rfl).2 ik, trivial⟩⟩).mono ?_
  rintro e w' ⟨v, rfl, h1, h2⟩
  exact ⟨v, rfl, (row_isL (xs := xvScaleX a k) (ks := [4, 5, 6]) (vs := [(a.times (Vq.mk k k k)).x, (a.times (Vq.mk k k k)).y, (a.times (Vq.mk k k k)).z]) ⟨rfl, rfl, rfl, trivial⟩).1 h1, h2⟩
theorem I_vScale {xs : List Fq} {ys : Rho} {ka : List Nat} {ik : Nat} {a : Vq} {k : Fq} {kr : List Nat} (aa : AtL xs ka [a.x, a.y, a.z]) (ak : xs[ik]? = some k) (ar : AtL xs kr [(a.scale k).x, (a.scale k).y, (a.scale k).z]) (ha : a.ok 100000000) (hk : k.ok 100000000) : OkI xs ys ⟨67, [row ka, fr ik], .v (row kr)⟩ :=
  ⟨enters Tryz.func67 rfl rfl, fun B w vs hB h => by
    match vs, h with
    | [va, vk], h =>
      refine (q_vScale va vk a k w ((row_isL aa).1 h.1) ((fr_isQ ak).1 h.2.1) ha hk).mono ?_
      rintro e w' ⟨v, rfl, h1, h2⟩
      exact ⟨v, rfl, (row_isL ar).2 h1, h2⟩⟩
def xvDotX (a : Vq) (b : Vq) : List Fq := [a.x, a.y, a.z, b.x, b.y, b.z, (a.x.mul b.x), (a.y.mul b.y), (a.z.mul b.z), ((a.y.mul b.y).add (a.z.mul b.z)), ((a.x.mul b.x).add ((a.y.mul b.y).add (a.z.mul b.z)))]
theorem q_vDot (va vb : Value) (a : Vq) (b : Vq) (w : World) (ia : IsVq w va a) (ib : IsVq w vb b) (ha : a.ok 100000000) (hb : b.ok 100000000) :
    Calls Tryz.prog 56 #[va, vb] w fun e w' => RetQ w (a.dot b) e w' := by
  refine (calls_runFn (ρ := frs (xvDotX a b) ++ []) (w := w) (fuel := 300) (args := [row [0, 1, 2], row [3, 4, 5]]) (vs := [va, vb]) (r := .v (fr 10))
    (il_cons (I_times (ks := [0, 3]) (k := 6) ⟨rfl, rfl, trivial⟩ rfl (ha.x.mono (by decide)) (hb.x.mono (by decide))) (il_cons (I_times (ks := [1, 4]) (k := 7) ⟨rfl, rfl, trivial⟩ rfl (ha.y.mono (by decide)) (hb.y.mono (by decide))) (il_cons (I_times (ks := [2, 5]) (k := 8) ⟨rfl, rfl, trivial⟩ rfl (ha.z.mono (by decide)) (hb.z.mono (by decide))) (il_cons (I_fAdd (i := 7) (j := 8) (k := 9) rfl rfl rfl ((ha.y.mul hb.y).mono (by decide)) ((ha.z.mul hb.z).mono (by decide))) (il_cons (I_fAdd (i := 6) (j := 9) (k := 10) rfl rfl rfl ((ha.x.mul hb.x).mono (by decide)) (((ha.y.mul hb.y).add (ha.z.mul hb.z)).mono (by decide))) il_nil)))))
    ol_nil (by kernel_rfl) Tryz.func56 (by kernel_rfl) ⟨(row_isL (xs := xvDotX a b) (ks := [0, 1, 2]) (vs := [a.x, a.y, a.z]) ⟨rfl, rfl, rfl, trivial⟩).2 ia, ⟨(row_isL (xs := xvDotX a b) (ks := [3, 4, 5]) (vs := [b.x, b.y, b.z]) ⟨rfl, rfl, rfl, trivial⟩).2 ib, trivial⟩⟩).mono ?_
  rintro e w' ⟨v, rfl, h1, h2⟩
  exact ⟨v, rfl, (fr_isQ (xs := xvDotX a b) (k := 10) rfl).1 h1, h2⟩
theorem I_vDot {xs : List Fq} {ys : Rho} {ka : List Nat} {kb : List Nat} {a : Vq} {b : Vq} {ir : Nat} (aa : AtL xs ka [a.x, a.y, a.z]) (ab : AtL xs kb [b.x, b.y, b.z]) (ar : xs[ir]? = some (a.dot b)) (ha : a.ok 100000000) (hb : b.ok 100000000) : OkI xs ys ⟨56, [row ka, row kb], .v (fr ir)⟩ :=
  ⟨enters Tryz.func56 rfl rfl, fun B w vs hB h => by
    match vs, h with
    | [va, vb], h =>
      refine (q_vDot va vb a b w ((row_isL aa).1 h.1) ((row_isL ab).1 h.2.1) ha hb).mono ?_
      rintro e w' ⟨v, rfl, h1, h2⟩
      exact ⟨v, rfl, (fr_isQ ar).2 h1, h2⟩⟩
def xvCrossX (a : Vq) (b : Vq) : List Fq := [a.x, a.y, a.z, b.x, b.y, b.z, (a.y.mul b.z), (a.z.mul b.y), ((a.y.mul b.z).sub (a.z.mul b.y)), (a.z.mul b.x), (a.x.mul b.z), ((a.z.mul b.x).sub (a.x.mul b.z)), (a.x.mul b.y), (a.y.mul b.x), ((a.x.mul b.y).sub (a.y.mul b.x))]
theorem q_vCross (va vb : Value) (a : Vq) (b : Vq) (w : World) (ia : IsVq w va a) (ib : IsVq w vb b) (ha : a.ok 100000000) (hb : b.ok 100000000) :
    Calls Tryz.prog 117 #[va, vb] w fun e w' => RetVq w (a.cross b) e w' := by
  refine (calls_runFn (ρ := frs (xvCrossX a b) ++ []) (w := w) (fuel := 300) (args := [row [0, 1, 2], row [3, 4, 5]]) (vs := [va, vb]) (r := .v (row [8, 11, 14]))
    (il_cons (I_times (ks := [1, 5]) (k := 6) ⟨rfl, rfl, trivial⟩ rfl (ha.y.mono (by decide)) (hb.z.mono (by decide))) (il_cons (I_times (ks := [2, 4]) (k := 7) ⟨rfl, rfl, trivial⟩ rfl (ha.z.mono (by decide)) (hb.y.mono (by decide))) (il_cons (I_less (ks := [6, 7]) (k := 8) ⟨rfl, rfl, trivial⟩ rfl ((ha.y.mul hb.z).mono (by decide)) ((ha.z.mul hb.y).mono (by decide))) (il_cons (I_times (ks := [2, 3]) (k := 9) ⟨rfl, rfl, trivial⟩ rfl (ha.z.mono (by decide)) (hb.x.mono (by decide))) (il_cons (I_times (ks := [0, 5]) (k := 10) ⟨rfl, rfl, trivial⟩ rfl (ha.x.mono (by decide)) (hb.z.mono (by decide))) (il_cons (I_less (ks := [9, 10]) (k := 11) ⟨rfl, rfl, trivial⟩ rfl ((ha.z.mul hb.x).mono (by decide)) ((ha.x.mul hb.z).mono (by decide))) (il_cons (I_times (ks := [0, 4]) (k := 12) ⟨rfl, rfl, trivial⟩ rfl (ha.x.mono (by decide)) (hb.y.mono (by decide))) (il_cons (I_times (ks := [1, 3]) (k := 13) ⟨rfl, rfl, trivial⟩ rfl (ha.y.mono (by decide)) (hb.x.mono (by decide))) (il_cons (I_less (ks := [12, 13]) (k := 14) ⟨rfl, rfl, trivial⟩ rfl ((ha.x.mul hb.y).mono (by decide)) ((ha.y.mul hb.x).mono (by decide))) il_nil)))))))))
    ol_nil (by kernel_rfl) Tryz.func117 (by kernel_rfl) ⟨(row_isL (xs := xvCrossX a b) (ks := [0, 1, 2]) (vs := [a.x, a.y, a.z]) ⟨rfl, rfl, rfl, trivial⟩).2 ia, ⟨(row_isL (xs := xvCrossX a b) (ks := [3, 4, 5]) (vs := [b.x, b.y, b.z]) ⟨rfl, rfl, rfl, trivial⟩).2 ib, trivial⟩⟩).mono ?_
  rintro e w' ⟨v, rfl, h1, h2⟩
  exact ⟨v, rfl, (row_isL (xs := xvCrossX a b) (ks := [8, 11, 14]) (vs := [((a.y.mul b.z).sub (a.z.mul b.y)), ((a.z.mul b.x).sub (a.x.mul b.z)), ((a.x.mul b.y).sub (a.y.mul b.x))]) ⟨rfl, rfl, rfl, trivial⟩).1 h1, h2⟩
theorem I_vCross {xs : List Fq} {ys : Rho} {ka : List Nat} {kb : List Nat} {a : Vq} {b : Vq} {kr : List Nat} (aa : AtL xs ka [a.x, a.y, a.z]) (ab : AtL xs kb [b.x, b.y, b.z]) (ar : AtL xs kr [(a.cross b).x, (a.cross b).y, (a.cross b).z]) (ha : a.ok 100000000) (hb : b.ok 100000000) : OkI xs ys ⟨117, [row ka, row kb], .v (row kr)⟩ :=
  ⟨enters Tryz.func117 rfl rfl, fun B w vs hB h => by
    match vs, h with
    | [va, vb], h =>
      refine (q_vCross va vb a b w ((row_isL aa).1 h.1) ((row_isL ab).1 h.2.1) ha hb).mono ?_
      rintro e w' ⟨v, rfl, h1, h2⟩
      exact ⟨v, rfl, (row_isL ar).2 h1, h2⟩⟩
end Go.Proofs.YthebfmlfgfmlnaaGreatDoor
namespace Go.Proofs.YthebfmlfgfmlnaaGreatDoor
set_option linter.unusedSimpArgs false
set_option linter.unusedVariables false
set_option maxRecDepth 100000
open Go.RowKit
/-- Agreement of all parts. -/
def Vq.same (a b : Vq) : Bool := a.x.same b.x && (a.y.same b.y && a.z.same b.z)
def Qq.same (p q : Qq) : Bool := p.w.same q.w && (p.x.same q.x && (p.y.same q.y && p.z.same q.z))
theorem Vq.same_iff {a b : Vq} : a.same b = true ↔ a = b := by
  obtain ⟨a1, a2, a3⟩ := a; obtain ⟨b1, b2, b3⟩ := b
  simp [Vq.same, Fq.same_iff]
theorem Qq.same_iff {a b : Qq} : a.same b = true ↔ a = b := by
  obtain ⟨a1, a2, a3, a4⟩ := a; obtain ⟨b1, b2, b3, b4⟩ := b
  simp [Qq.same, Fq.same_iff]
theorem same_ne {x y : Fq} (h : x ≠ y) : x.same y = false := Bool.eq_false_iff.2 (mt Fq.same_iff.1 h)
theorem z0 : nl 0 ≤ 1000000000000 := by rw [nl_zero]; decide
def xaxisX (q : Qq) : List Fq := [q.w, q.x, q.y, q.z]
theorem q_axis (vq : Value) (q : Qq) (w : World) (iq : IsQt w vq q) (hq : q.ok 1000000000) :
    Calls Tryz.prog 114 #[vq] w fun e w' => RetVq w q.axis e w' := by
  refine (calls_runFn (ρ := frs (xaxisX q) ++ []) (w := w) (fuel := 300) (args := [row [0, 1, 2, 3]]) (vs := [vq]) (r := .v (row [1, 2, 3]))
    (il_nil)
    ol_nil (by kernel_rfl) Tryz.func114 (by kernel_rfl) ⟨(row_isL (xs := xaxisX q) (ks := [0, 1, 2, 3]) (vs := [q.w, q.x, q.y, q.z]) ⟨rfl, rfl, rfl, rfl, trivial⟩).2 iq, trivial⟩).mono ?_
  rintro e w' ⟨v, rfl, h1, h2⟩
  exact ⟨v, rfl, (row_isL (xs := xaxisX q) (ks := [1, 2, 3]) (vs := [q.x, q.y, q.z]) ⟨rfl, rfl, rfl, trivial⟩).1 h1, h2⟩
theorem I_axis {xs : List Fq} {ys : Rho} {kq : List Nat} {q : Qq} {kr : List Nat} (aq : AtL xs kq [q.w, q.x, q.y, q.z]) (ar : AtL xs kr [q.axis.x, q.axis.y, q.axis.z]) (hq : q.ok 1000000000) : OkI xs ys ⟨114, [row kq], .v (row kr)⟩ :=
  ⟨enters Tryz.func114 rfl rfl, fun B w vs hB h => by
    match vs, h with
    | [vq], h =>
      refine (q_axis vq q w ((row_isL aq).1 h.1) hq).mono ?_
      rintro e w' ⟨v, rfl, h1, h2⟩
      exact ⟨v, rfl, (row_isL ar).2 h1, h2⟩⟩
def xpartsX (q : Qq) : List Fq := [q.w, q.x, q.y, q.z]
theorem q_parts (vq : Value) (q : Qq) (w : World) (iq : IsQt w vq q) (hq : q.ok 1000000000) :
    Calls Tryz.prog 84 #[vq] w fun e w' => RetQt w q e w' := by
  refine (calls_runFn (ρ := frs (xpartsX q) ++ []) (w := w) (fuel := 300) (args := [row [0, 1, 2, 3]]) (vs := [vq]) (r := .v (row [0, 1, 2, 3]))
    (il_nil)
    ol_nil (by kernel_rfl) Tryz.func84 (by kernel_rfl) ⟨(row_isL (xs := xpartsX q) (ks := [0, 1, 2, 3]) (vs := [q.w, q.x, q.y, q.z]) ⟨rfl, rfl, rfl, rfl, trivial⟩).2 iq, trivial⟩).mono ?_
  rintro e w' ⟨v, rfl, h1, h2⟩
  exact ⟨v, rfl, (row_isL (xs := xpartsX q) (ks := [0, 1, 2, 3]) (vs := [q.w, q.x, q.y, q.z]) ⟨rfl, rfl, rfl, rfl, trivial⟩).1 h1, h2⟩
theorem I_parts {xs : List Fq} {ys : Rho} {kq : List Nat} {q : Qq} {kr : List Nat} (aq : AtL xs kq [q.w, q.x, q.y, q.z]) (ar : AtL xs kr [q.w, q.x, q.y, q.z]) (hq : q.ok 1000000000) : OkI xs ys ⟨84, [row kq], .v (row kr)⟩ :=
  ⟨enters Tryz.func84 rfl rfl, fun B w vs hB h => by
    match vs, h with
    | [vq], h =>
      refine (q_parts vq q w ((row_isL aq).1 h.1) hq).mono ?_
      rintro e w' ⟨v, rfl, h1, h2⟩
      exact ⟨v, rfl, (row_isL ar).2 h1, h2⟩⟩
def xfEqual1X (a : Qq) (b : Qq) : List Fq := [a.w, a.x, a.y, a.z, b.w, b.x, b.y, b.z]
theorem q_fEqual1 (va vb : Value) (a : Qq) (b : Qq) (w : World) (ia : IsQt w va a) (ib : IsQt w vb b) (ha : a.ok 100000000) (hb : b.ok 100000000) (e0 : a = b) (ga : a.comp) (gb : b.comp) :
    Calls Tryz.prog 69 #[va, vb] w fun e w' => RetV w (.bool true) e w' := by
  refine (calls_runFn (ρ := frs (xfEqual1X a b) ++ []) (w := w) (fuel := 300) (args := [row [0, 1, 2, 3], row [4, 5, 6, 7]]) (vs := [va, vb]) (r := .v (.one (.b true)))
    (il_cons (I_parts (kq := [0, 1, 2, 3]) (q := a) (kr := [0, 1, 2, 3]) ⟨rfl, rfl, rfl, rfl, trivial⟩ ⟨rfl, rfl, rfl, rfl, trivial⟩ (ha.mono (by decide))) (il_cons (I_parts (kq := [4, 5, 6, 7]) (q := b) (kr := [4, 5, 6, 7]) ⟨rfl, rfl, rfl, rfl, trivial⟩ ⟨rfl, rfl, rfl, rfl, trivial⟩ (hb.mono (by decide))) (il_cons (I_fCmp (i := 0) (j := 4) rfl rfl (li ((o_zero ga.w gb.w).2 (congrArg Qq.w e0))) (ha.w.mono (by decide)) (hb.w.mono (by decide))) (il_cons (I_fCmp (i := 1) (j := 5) rfl rfl (li ((o_zero ga.x gb.x).2 (congrArg Qq.x e0))) (ha.x.mono (by decide)) (hb.x.mono (by decide))) (il_cons (I_fCmp (i := 2) (j := 6) rfl rfl (li ((o_zero ga.y gb.y).2 (congrArg Qq.y e0))) (ha.y.mono (by decide)) (hb.y.mono (by decide))) (il_cons (I_fCmp (i := 3) (j := 7) rfl rfl (li ((o_zero ga.z gb.z).2 (congrArg Qq.z e0))) (ha.z.mono (by decide)) (hb.z.mono (by decide))) il_nil))))))
    ol_nil (by kernel_rfl) Tryz.func69 (by kernel_rfl) ⟨(row_isL (xs := xfEqual1X a b) (ks := [0, 1, 2, 3]) (vs := [a.w, a.x, a.y, a.z]) ⟨rfl, rfl, rfl, rfl, trivial⟩).2 ia, ⟨(row_isL (xs := xfEqual1X a b) (ks := [4, 5, 6, 7]) (vs := [b.w, b.x, b.y, b.z]) ⟨rfl, rfl, rfl, rfl, trivial⟩).2 ib, trivial⟩⟩).mono ?_
  rintro e w' ⟨v, rfl, h1, h2⟩
  exact ⟨congrArg Ending.returned h1, h2⟩
theorem I_fEqual1 {xs : List Fq} {ys : Rho} {ka : List Nat} {kb : List Nat} {a : Qq} {b : Qq}  (aa : AtL xs ka [a.w, a.x, a.y, a.z]) (ab : AtL xs kb [b.w, b.x, b.y, b.z])  (ha : a.ok 100000000) (hb : b.ok 100000000) (e0 : a = b) (ga : a.comp) (gb : b.comp) : OkI xs ys ⟨69, [row ka, row kb], .v (.one (.b true))⟩ :=
  ⟨enters Tryz.func69 rfl rfl, fun B w vs hB h => by
    match vs, h with
    | [va, vb], h =>
      refine (q_fEqual1 va vb a b w ((row_isL aa).1 h.1) ((row_isL ab).1 h.2.1) ha hb e0 ga gb).mono ?_
      rintro e w' ⟨rfl, h2⟩
      exact ⟨_, rfl, rfl, h2⟩⟩
def xwholeX (q : Qq) : List Fq := [q.w, q.x, q.y, q.z]
theorem q_whole (vq : Value) (q : Qq) (w : World) (iq : IsQt w vq q) (hq : q.ok 1000000000) :
    Calls Tryz.prog 113 #[vq] w fun e w' => RetQt w q e w' := by
  refine (calls_runFn (ρ := frs (xwholeX q) ++ []) (w := w) (fuel := 300) (args := [row [0, 1, 2, 3]]) (vs := [vq]) (r := .v (row [0, 1, 2, 3]))
    (il_nil)
    ol_nil (by kernel_rfl) Tryz.func113 (by kernel_rfl) ⟨(row_isL (xs := xwholeX q) (ks := [0, 1, 2, 3]) (vs := [q.w, q.x, q.y, q.z]) ⟨rfl, rfl, rfl, rfl, trivial⟩).2 iq, trivial⟩).mono ?_
  rintro e w' ⟨v, rfl, h1, h2⟩
  exact ⟨v, rfl, (row_isL (xs := xwholeX q) (ks := [0, 1, 2, 3]) (vs := [q.w, q.x, q.y, q.z]) ⟨rfl, rfl, rfl, rfl, trivial⟩).1 h1, h2⟩
theorem I_whole {xs : List Fq} {ys : Rho} {kq : List Nat} {q : Qq} {kr : List Nat} (aq : AtL xs kq [q.w, q.x, q.y, q.z]) (ar : AtL xs kr [q.w, q.x, q.y, q.z]) (hq : q.ok 1000000000) : OkI xs ys ⟨113, [row kq], .v (row kr)⟩ :=
  ⟨enters Tryz.func113 rfl rfl, fun B w vs hB h => by
    match vs, h with
    | [vq], h =>
      refine (q_whole vq q w ((row_isL aq).1 h.1) hq).mono ?_
      rintro e w' ⟨v, rfl, h1, h2⟩
      exact ⟨v, rfl, (row_isL ar).2 h1, h2⟩⟩
theorem ok_id : Qq.id.ok 2 := ⟨ok_int (by decide) (by decide), ok_int (by decide) (by decide), ok_int (by decide) (by decide), ok_int (by decide) (by decide)⟩
end Go.Proofs.YthebfmlfgfmlnaaGreatDoor
namespace Go.Proofs.YthebfmlfgfmlnaaGreatDoor
set_option linter.unusedSimpArgs false
set_option linter.unusedVariables false
set_option maxRecDepth 100000
open Go.RowKit
/-- Rows of fractions whose numbers may have leading zeros. -/
def leafsN : List Nat → List Leaf
  | [] => []
  | n :: ns => .ref n :: .ref (n + 1) :: .ref (n + 2) :: leafsN ns
def rowN (ns : List Nat) : SV := .agg (leafsN ns)
def AtR (ρ : Rho) : List Nat → List Rq → Prop
  | [], [] => True
  | n :: ns, r :: rs => (ρ[n]? = some (.val (.bool r.s)) ∧ ρ[n + 1]? = some (.dig r.L r.p) ∧ ρ[n + 2]? = some (.dig r.N r.q)) ∧ AtR ρ ns rs
  | _, _ => False
/-- A fraction in valid form. -/
def Rq.vld (r : Rq) : Bool := decide (nl r.p = r.L ∧ nl r.q = r.N) && (Fq.mk r.s r.p r.q).valid
section
variable {ρ : Rho} {xs : List Fq} {ys : Rho} {n m k : Nat} {u v : Int} {l : Leaf} {t : TypeId} {B : Blk} {w : World} {r : Rq}
theorem rowN_holds : ∀ {ns : List Nat} {rs : List Rq} {cs : List Value}, AtR ρ ns rs → (LeavesH ρ B w (leafsN ns) cs ↔ CellsR w rs cs)
  | [], [], cs, _ => by
    constructor
    · intro h; match cs, h with | [], _ => rfl
    · intro h; have h : cs = [] := h; subst h; trivial
  | n :: ns, r :: rs, cs, h => by
    obtain ⟨⟨h1, h2, h3⟩, h4⟩ := h
    have ih := fun cs => rowN_holds (ns := ns) (rs := rs) (cs := cs) h4
    constructor
    · intro hl
      match cs, hl with
      | u1 :: u2 :: u3 :: cs', hl =>
        obtain ⟨g1, g2, g3, g4⟩ := hl
        have e1 := (leafB h1).1 g1
        have e2 := (leafD h2).1 g2
        have e3 := (leafD h3).1 g3
        obtain ⟨a, c, rfl⟩ := isR_slice e2
        obtain ⟨b, d, rfl⟩ := isR_slice e3
        subst e1
        exact ⟨a, c, b, d, cs', rfl, e2, e3, (ih cs').1 g4⟩
      | [], hl => exact hl.elim
      | [_], hl => exact hl.2.elim
      | [_, _], hl => exact hl.2.2.elim
    · rintro ⟨a, c, b, d, cs', rfl, i1, i2, i3⟩
      exact ⟨(leafB h1).2 rfl, (leafD h2).2 i1, (leafD h3).2 i2, (ih cs').2 i3⟩
  | [], _ :: _, _, h => h.elim
  | _ :: _, [], _, h => h.elim
theorem rowN_isL {ns : List Nat} {rs : List Rq} {x : Value} (h : AtR ρ ns rs) : (rowN ns).holds ρ B w x ↔ IsL w x rs := by
  constructor
  · rintro ⟨cs, rfl, h1⟩; exact ⟨cs, rfl, (rowN_holds h).1 h1⟩
  · rintro ⟨cs, rfl, h1⟩; exact ⟨cs, rfl, (rowN_holds h).2 h1⟩
theorem isL_FR {x : Value} (h : IsL w x [r]) : IsFR w x r.s r.L r.p r.N r.q := by
  obtain ⟨cs, rfl, a, c, b, d, cs', rfl, i1, i2, e⟩ := h
  have e : cs' = [] := e
  subst e
  exact ⟨a, c, b, d, rfl, i1, i2⟩
theorem vld_raw (h : r.vld = true) : r = (Fq.mk r.s r.p r.q).raw ∧ (Fq.mk r.s r.p r.q).valid = true := by
  unfold Rq.vld at h
  simp only [Bool.and_eq_true, decide_eq_true_eq] at h
  obtain ⟨⟨h1, h2⟩, h3⟩ := h
  refine ⟨?_, h3⟩
  obtain ⟨s, L, p, N, q⟩ := r
  simp only at h1 h2
  subst h1; subst h2; rfl
theorem q_fValidX (x : Value) (w : World) (h : IsL w x [r]) (hL : r.L ≤ 1000000) (hN : r.N ≤ 1000000) : Calls Tryz.prog 85 #[x] w fun e w' => RetV w (.bool r.vld) e w' := by
  have hf := isL_FR h
  by_cases hc : nl r.p = r.L ∧ nl r.q = r.N
  · have e : r.vld = (Fq.mk r.s r.p r.q).valid := by unfold Rq.vld; simp [hc]
    rw [e]
    exact q_fValid x ⟨r.s, r.p, r.q⟩ w (hf.isQ hc.1 hc.2) (by show nl r.p ≤ _; omega) (by show nl r.q ≤ _; omega)
  · have e : r.vld = false := by unfold Rq.vld; simp [hc]
    rw [e]
    exact q_fValidR x r.s r.L r.p r.N r.q w hf hL hN hc
theorem q_rValidX (x : Value) (w : World) (h : IsL w x [r]) (hL : r.L ≤ 1000000) (hN : r.N ≤ 1000000) : Calls Tryz.prog 77 #[x] w fun e w' => RetV w (.bool r.vld) e w' := by
  have hf := isL_FR h
  by_cases hc : nl r.p = r.L ∧ nl r.q = r.N
  · have e : r.vld = (Fq.mk r.s r.p r.q).valid := by unfold Rq.vld; simp [hc]
    rw [e]
    exact q_rValid x ⟨r.s, r.p, r.q⟩ w (hf.isQ hc.1 hc.2) (by show nl r.p ≤ _; omega) (by show nl r.q ≤ _; omega)
  · have e : r.vld = false := by unfold Rq.vld; simp [hc]
    rw [e]
    exact q_rValidR x r.s r.L r.p r.N r.q w hf hL hN hc
theorem instX {f : FuncId} {b d : Bool} (hen : Ent' f) (hc : ∀ x w, IsL w x [r] → Calls Tryz.prog f #[x] w (fun e w' => RetV w (.bool b) e w')) (hr : AtR (frs xs ++ ys) [n] [r]) (h : b = d) : OkI xs ys ⟨f, [rowN [n]], .v (.one (.b d))⟩ :=
  ⟨hen, fun B w vs hB hv => by
    match vs, hv with
    | [va], hv =>
      refine (hc va w ((rowN_isL hr).1 hv.1)).mono ?_
      rintro e w' ⟨rfl, h2⟩
      exact ⟨_, rfl, by subst h; rfl, h2⟩⟩
theorem I_fValidX {d : Bool} (hr : AtR (frs xs ++ ys) [n] [r]) (h : r.vld = d) (hL : r.L ≤ 1000000) (hN : r.N ≤ 1000000) : OkI xs ys ⟨85, [rowN [n]], .v (.one (.b d))⟩ :=
  instX (enters Tryz.func85 rfl rfl) (fun x w hx => q_fValidX x w hx hL hN) hr h
theorem I_rValidX {d : Bool} (hr : AtR (frs xs ++ ys) [n] [r]) (h : r.vld = d) (hL : r.L ≤ 1000000) (hN : r.N ≤ 1000000) : OkI xs ys ⟨77, [rowN [n]], .v (.one (.b d))⟩ :=
  instX (enters Tryz.func77 rfl rfl) (fun x w hx => q_rValidX x w hx hL hN) hr h
end
theorem vld_nl {r : Rq} (h : r.vld = true) : nl r.p = r.L ∧ nl r.q = r.N := by
  unfold Rq.vld at h
  simp only [Bool.and_eq_true, decide_eq_true_eq] at h
  exact h.1
end Go.Proofs.YthebfmlfgfmlnaaGreatDoor
namespace Go.Proofs.YthebfmlfgfmlnaaGreatDoor
set_option linter.unusedSimpArgs false
set_option linter.unusedVariables false
set_option maxRecDepth 100000
open Go.RowKit
theorem canon_eq {q : Qq} (h0 : q.first.p ≠ 0) : q.canon = q.over q.first := by unfold Qq.canon; rw [if_neg h0]
theorem Qq.ok.mk4 {a b c e : Fq} {d : Nat} (h1 : a.ok d) (h2 : b.ok d) (h3 : c.ok d) (h4 : e.ok d) : (Qq.mk a b c e).ok d := ⟨h1, h2, h3, h4⟩
def xrFirstX (q : Qq) : List Fq := [q.w, q.x, q.y, q.z]
def xrFirst1X (q : Qq) : List Fq := [q.w, q.x, q.y, q.z]
def xrFirst2X (q : Qq) : List Fq := [q.w, q.x, q.y, q.z]
def xrFirst3X (q : Qq) : List Fq := [q.w, q.x, q.y, q.z]
theorem q_rFirst (vq : Value) (q : Qq) (w : World) (iq : IsQt w vq q) (hq : q.ok 1000000000) :
    Calls Tryz.prog 88 #[vq] w fun e w' => RetQ w q.first e w' := by
  by_cases c0 : q.w.p = 0
  · by_cases c1 : q.x.p = 0
    · by_cases c2 : q.y.p = 0
      · have e1 : q.first = q.z := by simp [Qq.first, c0, c1, c2]
        rw [e1]
        refine (calls_runFn (ρ := frs (xrFirstX q) ++ []) (w := w) (fuel := 300) (args := [row [0, 1, 2, 3]]) (vs := [vq]) (r := .v (fr 3))
          (il_cons (I_rSign (i := 0) rfl (li (sgn0 c0)) (hq.w.mono (by decide))) (il_cons (I_rSign (i := 1) rfl (li (sgn0 c1)) (hq.x.mono (by decide))) (il_cons (I_rSign (i := 2) rfl (li (sgn0 c2)) (hq.y.mono (by decide))) il_nil)))
          ol_nil (by kernel_rfl) Tryz.func88 (by kernel_rfl) ⟨(row_isL (xs := xrFirstX q) (ks := [0, 1, 2, 3]) (vs := [q.w, q.x, q.y, q.z]) ⟨rfl, rfl, rfl, rfl, trivial⟩).2 iq, trivial⟩).mono ?_
        rintro e w' ⟨v, rfl, h1, h2⟩
        exact ⟨v, rfl, (fr_isQ (xs := xrFirstX q) (k := 3) rfl).1 h1, h2⟩
      · have e1 : q.first = q.y := by simp [Qq.first, c0, c1, c2]
        rw [e1]
        refine (calls_runFn (ρ := frs (xrFirst1X q) ++ [.val (.int .i64 q.y.sgn)]) (w := w) (fuel := 300) (args := [row [0, 1, 2, 3]]) (vs := [vq]) (r := .v (fr 2))
          (il_cons (I_rSign (i := 0) rfl (li (sgn0 c0)) (hq.w.mono (by decide))) (il_cons (I_rSign (i := 1) rfl (li (sgn0 c1)) (hq.x.mono (by decide))) (il_cons (I_rSign (i := 2) rfl (lr (n := 12) rfl) (hq.y.mono (by decide))) il_nil)))
          (ol_cons (o_neq (n := 12) (c := 0) (t := 3) rfl (sgn_nq c2)) (ol_nil)) (by kernel_rfl) Tryz.func88 (by kernel_rfl) ⟨(row_isL (xs := xrFirst1X q) (ks := [0, 1, 2, 3]) (vs := [q.w, q.x, q.y, q.z]) ⟨rfl, rfl, rfl, rfl, trivial⟩).2 iq, trivial⟩).mono ?_
        rintro e w' ⟨v, rfl, h1, h2⟩
        exact ⟨v, rfl, (fr_isQ (xs := xrFirst1X q) (k := 2) rfl).1 h1, h2⟩
    · have e1 : q.first = q.x := by simp [Qq.first, c0, c1]
      rw [e1]
      refine (calls_runFn (ρ := frs (xrFirst2X q) ++ [.val (.int .i64 q.x.sgn)]) (w := w) (fuel := 300) (args := [row [0, 1, 2, 3]]) (vs := [vq]) (r := .v (fr 1))
        (il_cons (I_rSign (i := 0) rfl (li (sgn0 c0)) (hq.w.mono (by decide))) (il_cons (I_rSign (i := 1) rfl (lr (n := 12) rfl) (hq.x.mono (by decide))) il_nil))
        (ol_cons (o_neq (n := 12) (c := 0) (t := 3) rfl (sgn_nq c1)) (ol_nil)) (by kernel_rfl) Tryz.func88 (by kernel_rfl) ⟨(row_isL (xs := xrFirst2X q) (ks := [0, 1, 2, 3]) (vs := [q.w, q.x, q.y, q.z]) ⟨rfl, rfl, rfl, rfl, trivial⟩).2 iq, trivial⟩).mono ?_
      rintro e w' ⟨v, rfl, h1, h2⟩
      exact ⟨v, rfl, (fr_isQ (xs := xrFirst2X q) (k := 1) rfl).1 h1, h2⟩
  · have e1 : q.first = q.w := by simp [Qq.first, c0]
    rw [e1]
    refine (calls_runFn (ρ := frs (xrFirst3X q) ++ [.val (.int .i64 q.w.sgn)]) (w := w) (fuel := 300) (args := [row [0, 1, 2, 3]]) (vs := [vq]) (r := .v (fr 0))
      (il_cons (I_rSign (i := 0) rfl (lr (n := 12) rfl) (hq.w.mono (by decide))) il_nil)
      (ol_cons (o_neq (n := 12) (c := 0) (t := 3) rfl (sgn_nq c0)) (ol_nil)) (by kernel_rfl) Tryz.func88 (by kernel_rfl) ⟨(row_isL (xs := xrFirst3X q) (ks := [0, 1, 2, 3]) (vs := [q.w, q.x, q.y, q.z]) ⟨rfl, rfl, rfl, rfl, trivial⟩).2 iq, trivial⟩).mono ?_
    rintro e w' ⟨v, rfl, h1, h2⟩
    exact ⟨v, rfl, (fr_isQ (xs := xrFirst3X q) (k := 0) rfl).1 h1, h2⟩
theorem I_rFirst {xs : List Fq} {ys : Rho} {kq : List Nat} {q : Qq} {ir : Nat} (aq : AtL xs kq [q.w, q.x, q.y, q.z]) (ar : xs[ir]? = some q.first) (hq : q.ok 1000000000) : OkI xs ys ⟨88, [row kq], .v (fr ir)⟩ :=
  ⟨enters Tryz.func88 rfl rfl, fun B w vs hB h => by
    match vs, h with
    | [vq], h =>
      refine (q_rFirst vq q w ((row_isL aq).1 h.1) hq).mono ?_
      rintro e w' ⟨v, rfl, h1, h2⟩
      exact ⟨v, rfl, (fr_isQ ar).2 h1, h2⟩⟩
def xfMakeTX (p0 : Fq) (p1 : Fq) (p2 : Fq) (p3 : Fq) : List Fq := [p0, p1, p2, p3, (p0.div p3), (p1.div p3), (p2.div p3), (p3.div p3)]
def xfMakeT1X (p0 : Fq) (p1 : Fq) (p2 : Fq) (p3 : Fq) : List Fq := [p0, p1, p2, p3, (p0.div p2), (p1.div p2), (p2.div p2), (p3.div p2)]
def xfMakeT2X (p0 : Fq) (p1 : Fq) (p2 : Fq) (p3 : Fq) : List Fq := [p0, p1, p2, p3, (p0.div p1), (p1.div p1), (p2.div p1), (p3.div p1)]
def xfMakeT3X (p0 : Fq) (p1 : Fq) (p2 : Fq) (p3 : Fq) : List Fq := [p0, p1, p2, p3, (p0.div p0), (p1.div p0), (p2.div p0), (p3.div p0)]
theorem q_fMakeT (vp0 vp1 vp2 vp3 : Value) (p0 : Fq) (p1 : Fq) (p2 : Fq) (p3 : Fq) (w : World) (ip0 : IsQ w vp0 p0) (ip1 : IsQ w vp1 p1) (ip2 : IsQ w vp2 p2) (ip3 : IsQ w vp3 p3) (hp0 : p0.ok 100000000) (hp1 : p1.ok 100000000) (hp2 : p2.ok 100000000) (hp3 : p3.ok 100000000) (h0 : (Qq.mk p0 p1 p2 p3).first.p ≠ 0) :
    Calls Tryz.prog 158 #[vp0, vp1, vp2, vp3] w fun e w' => RetQtE w (Qq.mk p0 p1 p2 p3).canon 0 e w' := by
  by_cases c0 : p0.p = 0
  · by_cases c1 : p1.p = 0
    · by_cases c2 : p2.p = 0
      · by_cases c3 : p3.p = 0
        · exact absurd (by simp [Qq.first, c0, c1, c2, c3]) h0
        · have e1 : (Qq.mk p0 p1 p2 p3).first = p3 := by simp [Qq.first, c0, c1, c2, c3]
          rw [canon_eq h0, e1]
          refine (calls_runFn (ρ := frs (xfMakeTX p0 p1 p2 p3) ++ [.val (.int .i64 p3.sgn)]) (w := w) (fuel := 300) (args := [fr 0, fr 1, fr 2, fr 3]) (vs := [vp0, vp1, vp2, vp3]) (r := .tup [row [4, 5, 6, 7], .one (.i .i64 0)])
            (il_cons (I_fSign (i := 0) rfl (li (sgn0 c0)) (hp0.mono (by decide))) (il_cons (I_fSign (i := 1) rfl (li (sgn0 c1)) (hp1.mono (by decide))) (il_cons (I_fSign (i := 2) rfl (li (sgn0 c2)) (hp2.mono (by decide))) (il_cons (I_fSign (i := 3) rfl (lr (n := 24) rfl) (hp3.mono (by decide))) (il_cons (I_fDiv (i := 0) (j := 3) (k := 4) rfl rfl rfl (hp0.mono (by decide)) (hp3.mono (by decide)) c3) (il_cons (I_fDiv (i := 1) (j := 3) (k := 5) rfl rfl rfl (hp1.mono (by decide)) (hp3.mono (by decide)) c3) (il_cons (I_fDiv (i := 2) (j := 3) (k := 6) rfl rfl rfl (hp2.mono (by decide)) (hp3.mono (by decide)) c3) (il_cons (I_fDiv (i := 3) (j := 3) (k := 7) rfl rfl rfl (hp3.mono (by decide)) (hp3.mono (by decide)) c3) (il_cons (I_whole (kq := [4, 5, 6, 7]) (q := (Qq.mk (p0.div p3) (p1.div p3) (p2.div p3) (p3.div p3))) (kr := [4, 5, 6, 7]) ⟨rfl, rfl, rfl, rfl, trivial⟩ ⟨rfl, rfl, rfl, rfl, trivial⟩ (⟨(hp0.div hp3 c3).mono (by decide), (hp1.div hp3 c3).mono (by decide), (hp2.div hp3 c3).mono (by decide), (hp3.div hp3 c3).mono (by decide)⟩ : Qq.ok 1000000000 (Qq.mk (p0.div p3) (p1.div p3) (p2.div p3) (p3.div p3)))) il_nil)))))))))
            (ol_cons (o_eql (n := 24) (c := 0) (t := 3) rfl (sgn_eq c3)) (ol_nil)) (by kernel_rfl) Tryz.func158 (by kernel_rfl) ⟨(fr_isQ (xs := xfMakeTX p0 p1 p2 p3) (k := 0) rfl).2 ip0, ⟨(fr_isQ (xs := xfMakeTX p0 p1 p2 p3) (k := 1) rfl).2 ip1, ⟨(fr_isQ (xs := xfMakeTX p0 p1 p2 p3) (k := 2) rfl).2 ip2, ⟨(fr_isQ (xs := xfMakeTX p0 p1 p2 p3) (k := 3) rfl).2 ip3, trivial⟩⟩⟩⟩).mono ?_
          rintro e w' ⟨v, rfl, ⟨vs, rfl, h1⟩, h2⟩
          match vs, h1 with
          | [r, c], h1 =>
            obtain ⟨⟨cs, rfl, k1⟩, k2, _⟩ := h1
            have k2 : c = _ := k2
            subst k2
            exact ⟨_, rfl, (row_isL (xs := xfMakeTX p0 p1 p2 p3) (ks := [4, 5, 6, 7]) (vs := [(p0.div p3), (p1.div p3), (p2.div p3), (p3.div p3)]) ⟨rfl, rfl, rfl, rfl, trivial⟩).1 ⟨_, rfl, k1⟩, h2⟩
      · have e1 : (Qq.mk p0 p1 p2 p3).first = p2 := by simp [Qq.first, c0, c1, c2]
        rw [canon_eq h0, e1]
        refine (calls_runFn (ρ := frs (xfMakeT1X p0 p1 p2 p3) ++ [.val (.int .i64 p2.sgn)]) (w := w) (fuel := 300) (args := [fr 0, fr 1, fr 2, fr 3]) (vs := [vp0, vp1, vp2, vp3]) (r := .tup [row [4, 5, 6, 7], .one (.i .i64 0)])
          (il_cons (I_fSign (i := 0) rfl (li (sgn0 c0)) (hp0.mono (by decide))) (il_cons (I_fSign (i := 1) rfl (li (sgn0 c1)) (hp1.mono (by decide))) (il_cons (I_fSign (i := 2) rfl (lr (n := 24) rfl) (hp2.mono (by decide))) (il_cons (I_fDiv (i := 0) (j := 2) (k := 4) rfl rfl rfl (hp0.mono (by decide)) (hp2.mono (by decide)) c2) (il_cons (I_fDiv (i := 1) (j := 2) (k := 5) rfl rfl rfl (hp1.mono (by decide)) (hp2.mono (by decide)) c2) (il_cons (I_fDiv (i := 2) (j := 2) (k := 6) rfl rfl rfl (hp2.mono (by decide)) (hp2.mono (by decide)) c2) (il_cons (I_fDiv (i := 3) (j := 2) (k := 7) rfl rfl rfl (hp3.mono (by decide)) (hp2.mono (by decide)) c2) (il_cons (I_whole (kq := [4, 5, 6, 7]) (q := (Qq.mk (p0.div p2) (p1.div p2) (p2.div p2) (p3.div p2))) (kr := [4, 5, 6, 7]) ⟨rfl, rfl, rfl, rfl, trivial⟩ ⟨rfl, rfl, rfl, rfl, trivial⟩ (⟨(hp0.div hp2 c2).mono (by decide), (hp1.div hp2 c2).mono (by decide), (hp2.div hp2 c2).mono (by decide), (hp3.div hp2 c2).mono (by decide)⟩ : Qq.ok 1000000000 (Qq.mk (p0.div p2) (p1.div p2) (p2.div p2) (p3.div p2)))) il_nil))))))))
          (ol_cons (o_eql (n := 24) (c := 0) (t := 3) rfl (sgn_eq c2)) (ol_nil)) (by kernel_rfl) Tryz.func158 (by kernel_rfl) ⟨(fr_isQ (xs := xfMakeT1X p0 p1 p2 p3) (k := 0) rfl).2 ip0, ⟨(fr_isQ (xs := xfMakeT1X p0 p1 p2 p3) (k := 1) rfl).2 ip1, ⟨(fr_isQ (xs := xfMakeT1X p0 p1 p2 p3) (k := 2) rfl).2 ip2, ⟨(fr_isQ (xs := xfMakeT1X p0 p1 p2 p3) (k := 3) rfl).2 ip3, trivial⟩⟩⟩⟩).mono ?_
        rintro e w' ⟨v, rfl, ⟨vs, rfl, h1⟩, h2⟩
        match vs, h1 with
        | [r, c], h1 =>
          obtain ⟨⟨cs, rfl, k1⟩, k2, _⟩ := h1
          have k2 : c = _ := k2
          subst k2
          exact ⟨_, rfl, (row_isL (xs := xfMakeT1X p0 p1 p2 p3) (ks := [4, 5, 6, 7]) (vs := [(p0.div p2), (p1.div p2), (p2.div p2), (p3.div p2)]) ⟨rfl, rfl, rfl, rfl, trivial⟩).1 ⟨_, rfl, k1⟩, h2⟩
    · have e1 : (Qq.mk p0 p1 p2 p3).first = p1 := by simp [Qq.first, c0, c1]
      rw [canon_eq h0, e1]
      refine (calls_runFn (ρ := frs (xfMakeT2X p0 p1 p2 p3) ++ [.val (.int .i64 p1.sgn)]) (w := w) (fuel := 300) (args := [fr 0, fr 1, fr 2, fr 3]) (vs := [vp0, vp1, vp2, vp3]) (r := .tup [row [4, 5, 6, 7], .one (.i .i64 0)])
        (il_cons (I_fSign (i := 0) rfl (li (sgn0 c0)) (hp0.mono (by decide))) (il_cons (I_fSign (i := 1) rfl (lr (n := 24) rfl) (hp1.mono (by decide))) (il_cons (I_fDiv (i := 0) (j := 1) (k := 4) rfl rfl rfl (hp0.mono (by decide)) (hp1.mono (by decide)) c1) (il_cons (I_fDiv (i := 1) (j := 1) (k := 5) rfl rfl rfl (hp1.mono (by decide)) (hp1.mono (by decide)) c1) (il_cons (I_fDiv (i := 2) (j := 1) (k := 6) rfl rfl rfl (hp2.mono (by decide)) (hp1.mono (by decide)) c1) (il_cons (I_fDiv (i := 3) (j := 1) (k := 7) rfl rfl rfl (hp3.mono (by decide)) (hp1.mono (by decide)) c1) (il_cons (I_whole (kq := [4, 5, 6, 7]) (q := (Qq.mk (p0.div p1) (p1.div p1) (p2.div p1) (p3.div p1))) (kr := [4, 5, 6, 7]) ⟨rfl, rfl, rfl, rfl, trivial⟩ ⟨rfl, rfl, rfl, rfl, trivial⟩ (⟨(hp0.div hp1 c1).mono (by decide), (hp1.div hp1 c1).mono (by decide), (hp2.div hp1 c1).mono (by decide), (hp3.div hp1 c1).mono (by decide)⟩ : Qq.ok 1000000000 (Qq.mk (p0.div p1) (p1.div p1) (p2.div p1) (p3.div p1)))) il_nil)))))))
        (ol_cons (o_eql (n := 24) (c := 0) (t := 3) rfl (sgn_eq c1)) (ol_nil)) (by kernel_rfl) Tryz.func158 (by kernel_rfl) ⟨(fr_isQ (xs := xfMakeT2X p0 p1 p2 p3) (k := 0) rfl).2 ip0, ⟨(fr_isQ (xs := xfMakeT2X p0 p1 p2 p3) (k := 1) rfl).2 ip1, ⟨(fr_isQ (xs := xfMakeT2X p0 p1 p2 p3) (k := 2) rfl).2 ip2, ⟨(fr_isQ (xs := xfMakeT2X p0 p1 p2 p3) (k := 3) rfl).2 ip3, trivial⟩⟩⟩⟩).mono ?_
      rintro e w' ⟨v, rfl, ⟨vs, rfl, h1⟩, h2⟩
      match vs, h1 with
      | [r, c], h1 =>
        obtain ⟨⟨cs, rfl, k1⟩, k2, _⟩ := h1
        have k2 : c = _ := k2
        subst k2
        exact ⟨_, rfl, (row_isL (xs := xfMakeT2X p0 p1 p2 p3) (ks := [4, 5, 6, 7]) (vs := [(p0.div p1), (p1.div p1), (p2.div p1), (p3.div p1)]) ⟨rfl, rfl, rfl, rfl, trivial⟩).1 ⟨_, rfl, k1⟩, h2⟩
  · have e1 : (Qq.mk p0 p1 p2 p3).first = p0 := by simp [Qq.first, c0]
    rw [canon_eq h0, e1]
    refine (calls_runFn (ρ := frs (xfMakeT3X p0 p1 p2 p3) ++ [.val (.int .i64 p0.sgn)]) (w := w) (fuel := 300) (args := [fr 0, fr 1, fr 2, fr 3]) (vs := [vp0, vp1, vp2, vp3]) (r := .tup [row [4, 5, 6, 7], .one (.i .i64 0)])
      (il_cons (I_fSign (i := 0) rfl (lr (n := 24) rfl) (hp0.mono (by decide))) (il_cons (I_fDiv (i := 0) (j := 0) (k := 4) rfl rfl rfl (hp0.mono (by decide)) (hp0.mono (by decide)) c0) (il_cons (I_fDiv (i := 1) (j := 0) (k := 5) rfl rfl rfl (hp1.mono (by decide)) (hp0.mono (by decide)) c0) (il_cons (I_fDiv (i := 2) (j := 0) (k := 6) rfl rfl rfl (hp2.mono (by decide)) (hp0.mono (by decide)) c0) (il_cons (I_fDiv (i := 3) (j := 0) (k := 7) rfl rfl rfl (hp3.mono (by decide)) (hp0.mono (by decide)) c0) (il_cons (I_whole (kq := [4, 5, 6, 7]) (q := (Qq.mk (p0.div p0) (p1.div p0) (p2.div p0) (p3.div p0))) (kr := [4, 5, 6, 7]) ⟨rfl, rfl, rfl, rfl, trivial⟩ ⟨rfl, rfl, rfl, rfl, trivial⟩ (⟨(hp0.div hp0 c0).mono (by decide), (hp1.div hp0 c0).mono (by decide), (hp2.div hp0 c0).mono (by decide), (hp3.div hp0 c0).mono (by decide)⟩ : Qq.ok 1000000000 (Qq.mk (p0.div p0) (p1.div p0) (p2.div p0) (p3.div p0)))) il_nil))))))
      (ol_cons (o_eql (n := 24) (c := 0) (t := 3) rfl (sgn_eq c0)) (ol_nil)) (by kernel_rfl) Tryz.func158 (by kernel_rfl) ⟨(fr_isQ (xs := xfMakeT3X p0 p1 p2 p3) (k := 0) rfl).2 ip0, ⟨(fr_isQ (xs := xfMakeT3X p0 p1 p2 p3) (k := 1) rfl).2 ip1, ⟨(fr_isQ (xs := xfMakeT3X p0 p1 p2 p3) (k := 2) rfl).2 ip2, ⟨(fr_isQ (xs := xfMakeT3X p0 p1 p2 p3) (k := 3) rfl).2 ip3, trivial⟩⟩⟩⟩).mono ?_
    rintro e w' ⟨v, rfl, ⟨vs, rfl, h1⟩, h2⟩
    match vs, h1 with
    | [r, c], h1 =>
      obtain ⟨⟨cs, rfl, k1⟩, k2, _⟩ := h1
      have k2 : c = _ := k2
      subst k2
      exact ⟨_, rfl, (row_isL (xs := xfMakeT3X p0 p1 p2 p3) (ks := [4, 5, 6, 7]) (vs := [(p0.div p0), (p1.div p0), (p2.div p0), (p3.div p0)]) ⟨rfl, rfl, rfl, rfl, trivial⟩).1 ⟨_, rfl, k1⟩, h2⟩
theorem I_fMakeT {xs : List Fq} {ys : Rho} {ip0 : Nat} {ip1 : Nat} {ip2 : Nat} {ip3 : Nat} {p0 : Fq} {p1 : Fq} {p2 : Fq} {p3 : Fq} {kr : List Nat} (ap0 : xs[ip0]? = some p0) (ap1 : xs[ip1]? = some p1) (ap2 : xs[ip2]? = some p2) (ap3 : xs[ip3]? = some p3) (ar : AtL xs kr [(Qq.mk p0 p1 p2 p3).canon.w, (Qq.mk p0 p1 p2 p3).canon.x, (Qq.mk p0 p1 p2 p3).canon.y, (Qq.mk p0 p1 p2 p3).canon.z]) (hp0 : p0.ok 100000000) (hp1 : p1.ok 100000000) (hp2 : p2.ok 100000000) (hp3 : p3.ok 100000000) (h0 : (Qq.mk p0 p1 p2 p3).first.p ≠ 0) : OkI xs ys ⟨158, [fr ip0, fr ip1, fr ip2, fr ip3], .tup [row kr, .one (.i .i64 0)]⟩ :=
  ⟨enters Tryz.func158 rfl rfl, fun B w vs hB h => by
    match vs, h with
    | [vp0, vp1, vp2, vp3], h =>
      refine (q_fMakeT vp0 vp1 vp2 vp3 p0 p1 p2 p3 w ((fr_isQ ap0).1 h.1) ((fr_isQ ap1).1 h.2.1) ((fr_isQ ap2).1 h.2.2.1) ((fr_isQ ap3).1 h.2.2.2.1) hp0 hp1 hp2 hp3 h0).mono ?_
      rintro e w' ⟨v, rfl, h1, h2⟩
      exact ⟨_, rfl, ⟨[v, .int .i64 0], rfl, (row_isL ar).2 h1, rfl, trivial⟩, h2⟩⟩
def xfCanonX (u : Fq) (c : Vq) : List Fq := [u, c.x, c.y, c.z, (Qq.mk u c.x c.y c.z).canon.w, (Qq.mk u c.x c.y c.z).canon.x, (Qq.mk u c.x c.y c.z).canon.y, (Qq.mk u c.x c.y c.z).canon.z]
theorem q_fCanon (vu vc : Value) (u : Fq) (c : Vq) (w : World) (iu : IsQ w vu u) (ic : IsVq w vc c) (hu : u.ok 100000000) (hc : c.ok 100000000) (h0 : (Qq.mk u c.x c.y c.z).first.p ≠ 0) :
    Calls Tryz.prog 118 #[vu, vc] w fun e w' => RetQt w (Qq.mk u c.x c.y c.z).canon e w' := by
  refine (calls_runFn (ρ := frs (xfCanonX u c) ++ []) (w := w) (fuel := 300) (args := [fr 0, row [1, 2, 3]]) (vs := [vu, vc]) (r := .v (row [4, 5, 6, 7]))
    (il_cons (I_fMakeT (ip0 := 0) (ip1 := 1) (ip2 := 2) (ip3 := 3) (kr := [4, 5, 6, 7]) rfl rfl rfl rfl ⟨rfl, rfl, rfl, rfl, trivial⟩ (hu.mono (by decide)) (hc.x.mono (by decide)) (hc.y.mono (by decide)) (hc.z.mono (by decide)) h0) il_nil)
    ol_nil (by kernel_rfl) Tryz.func118 (by kernel_rfl) ⟨(fr_isQ (xs := xfCanonX u c) (k := 0) rfl).2 iu, ⟨(row_isL (xs := xfCanonX u c) (ks := [1, 2, 3]) (vs := [c.x, c.y, c.z]) ⟨rfl, rfl, rfl, trivial⟩).2 ic, trivial⟩⟩).mono ?_
  rintro e w' ⟨v, rfl, h1, h2⟩
  exact ⟨v, rfl, (row_isL (xs := xfCanonX u c) (ks := [4, 5, 6, 7]) (vs := [(Qq.mk u c.x c.y c.z).canon.w, (Qq.mk u c.x c.y c.z).canon.x, (Qq.mk u c.x c.y c.z).canon.y, (Qq.mk u c.x c.y c.z).canon.z]) ⟨rfl, rfl, rfl, rfl, trivial⟩).1 h1, h2⟩
theorem I_fCanon {xs : List Fq} {ys : Rho} {iu : Nat} {kc : List Nat} {u : Fq} {c : Vq} {kr : List Nat} (au : xs[iu]? = some u) (ac : AtL xs kc [c.x, c.y, c.z]) (ar : AtL xs kr [(Qq.mk u c.x c.y c.z).canon.w, (Qq.mk u c.x c.y c.z).canon.x, (Qq.mk u c.x c.y c.z).canon.y, (Qq.mk u c.x c.y c.z).canon.z]) (hu : u.ok 100000000) (hc : c.ok 100000000) (h0 : (Qq.mk u c.x c.y c.z).first.p ≠ 0) : OkI xs ys ⟨118, [fr iu, row kc], .v (row kr)⟩ :=
  ⟨enters Tryz.func118 rfl rfl, fun B w vs hB h => by
    match vs, h with
    | [vu, vc], h =>
      refine (q_fCanon vu vc u c w ((fr_isQ au).1 h.1) ((row_isL ac).1 h.2.1) hu hc h0).mono ?_
      rintro e w' ⟨v, rfl, h1, h2⟩
      exact ⟨v, rfl, (row_isL ar).2 h1, h2⟩⟩
end Go.Proofs.YthebfmlfgfmlnaaGreatDoor
namespace Go.Proofs.YthebfmlfgfmlnaaGreatDoor
set_option linter.unusedSimpArgs false
set_option linter.unusedVariables false
set_option maxRecDepth 100000
open Go.RowKit
theorem Qq.ok.inv {q : Qq} {d : Nat} (h : q.ok d) (g : q.good) : q.inv.ok (d + 2 + (d + 2)) := by
  have h0 := conj_ne g
  rw [← inv_eq g.comp] at h0
  exact (Qq.ok.mk4 (h.w.mono (by omega)) (h.x.mul (ok_int (by decide) (by decide))) (h.y.mul (ok_int (by decide) (by decide))) (h.z.mul (ok_int (by decide) (by decide)))).canon h0
theorem inv_ne' {q : Qq} (g : q.good) : (Qq.mk q.w (q.axis.scale (Fq.ofInt (-1))).x (q.axis.scale (Fq.ofInt (-1))).y (q.axis.scale (Fq.ofInt (-1))).z).first.p ≠ 0 := by rw [inv_eq g.comp]; exact conj_ne g
theorem Qq.ok.mulg {p q : Qq} {d e : Nat} (h : p.ok d) (k : q.ok e) (gp : p.good) (gq : q.good) : (p.mul q).ok (44 * (d + e) + 14) := h.mul k (ham_ne gp gq)
theorem Qq.ok.dd {q : Qq} {d : Nat} (h : q.ok d) : q.dd.ok (44 * d + 7) := ((h.w.mul h.w).sub (h.axis.dot h.axis)).mono (by omega)
theorem Qq.ok.nn {q : Qq} {d : Nat} (h : q.ok d) : q.nn.ok (44 * d + 7) := ((h.w.mul h.w).add (h.axis.dot h.axis)).mono (by omega)
theorem Qq.ok.rat {q : Qq} {d : Nat} (h : q.ok d) (g : q.good) : q.rat.ok (44 * d + 9) := ((ok_int (by decide) (by decide)).div h.nn (nn_ne g)).mono (by omega)
theorem Qq.ok.ap1 {q : Qq} {a : Vq} {d e : Nat} (h : q.ok d) (k : a.ok e) : (q.ap1 a).ok (e + 44 * d + 7) := (k.scale h.dd).mono (by omega)
theorem Qq.ok.ap2 {q : Qq} {a : Vq} {d e : Nat} (h : q.ok d) (k : a.ok e) : (q.ap2 a).ok (11 * d + 10 * e + 5) := (h.axis.scale ((ok_int (by decide) (by decide)).mul (h.axis.dot k))).mono (by omega)
theorem Qq.ok.ap3 {q : Qq} {a : Vq} {d e : Nat} (h : q.ok d) (k : a.ok e) : (q.ap3 a).ok (5 * d + 4 * e + 3) := ((h.axis.cross k).scale ((ok_int (by decide) (by decide)).mul h.w)).mono (by omega)
theorem Qq.ok.app {q : Qq} {a : Vq} {d e : Nat} (h : q.ok d) (k : a.ok e) (g : q.good) : (q.app a).ok (300 * (d + e) + 100) := ((((h.ap1 k).add (h.ap2 k)).add (h.ap3 k)).scale (h.rat g)).mono (by omega)
def xfMulTX (p : Qq) (q : Qq) : List Fq := [p.w, p.x, p.y, p.z, q.w, q.x, q.y, q.z, p.axis.x, p.axis.y, p.axis.z, q.axis.x, q.axis.y, q.axis.z, (p.w.mul q.w), (p.axis.dot q.axis), ((p.w.mul q.w).sub (p.axis.dot q.axis)), (q.axis.scale p.w).x, (q.axis.scale p.w).y, (q.axis.scale p.w).z, (p.axis.scale q.w).x, (p.axis.scale q.w).y, (p.axis.scale q.w).z, ((q.axis.scale p.w).add (p.axis.scale q.w)).x, ((q.axis.scale p.w).add (p.axis.scale q.w)).y, ((q.axis.scale p.w).add (p.axis.scale q.w)).z, (p.axis.cross q.axis).x, (p.axis.cross q.axis).y, (p.axis.cross q.axis).z, (((q.axis.scale p.w).add (p.axis.scale q.w)).add (p.axis.cross q.axis)).x, (((q.axis.scale p.w).add (p.axis.scale q.w)).add (p.axis.cross q.axis)).y, (((q.axis.scale p.w).add (p.axis.scale q.w)).add (p.axis.cross q.axis)).z, (Qq.mk ((p.w.mul q.w).sub (p.axis.dot q.axis)) (((q.axis.scale p.w).add (p.axis.scale q.w)).add (p.axis.cross q.axis)).x (((q.axis.scale p.w).add (p.axis.scale q.w)).add (p.axis.cross q.axis)).y (((q.axis.scale p.w).add (p.axis.scale q.w)).add (p.axis.cross q.axis)).z).canon.w, (Qq.mk ((p.w.mul q.w).sub (p.axis.dot q.axis)) (((q.axis.scale p.w).add (p.axis.scale q.w)).add (p.axis.cross q.axis)).x (((q.axis.scale p.w).add (p.axis.scale q.w)).add (p.axis.cross q.axis)).y (((q.axis.scale p.w).add (p.axis.scale q.w)).add (p.axis.cross q.axis)).z).canon.x, (Qq.mk ((p.w.mul q.w).sub (p.axis.dot q.axis)) (((q.axis.scale p.w).add (p.axis.scale q.w)).add (p.axis.cross q.axis)).x (((q.axis.scale p.w).add (p.axis.scale q.w)).add (p.axis.cross q.axis)).y (((q.axis.scale p.w).add (p.axis.scale q.w)).add (p.axis.cross q.axis)).z).canon.y, (Qq.mk ((p.w.mul q.w).sub (p.axis.dot q.axis)) (((q.axis.scale p.w).add (p.axis.scale q.w)).add (p.axis.cross q.axis)).x (((q.axis.scale p.w).add (p.axis.scale q.w)).add (p.axis.cross q.axis)).y (((q.axis.scale p.w).add (p.axis.scale q.w)).add (p.axis.cross q.axis)).z).canon.z]
theorem q_fMulT (vp vq : Value) (p : Qq) (q : Qq) (w : World) (ip : IsQt w vp p) (iq : IsQt w vq q) (hp : p.ok 100000) (hq : q.ok 100000) (gp : p.good) (gq : q.good) :
    Calls Tryz.prog 62 #[vp, vq] w fun e w' => RetQt w (p.mul q) e w' := by
  refine (calls_runFn (ρ := frs (xfMulTX p q) ++ []) (w := w) (fuel := 300) (args := [row [0, 1, 2, 3], row [4, 5, 6, 7]]) (vs := [vp, vq]) (r := .v (row [32, 33, 34, 35]))
    (il_cons (I_axis (kq := [0, 1, 2, 3]) (q := p) (kr := [8, 9, 10]) ⟨rfl, rfl, rfl, rfl, trivial⟩ ⟨rfl, rfl, rfl, trivial⟩ (hp.mono (by decide))) (il_cons (I_axis (kq := [4, 5, 6, 7]) (q := q) (kr := [11, 12, 13]) ⟨rfl, rfl, rfl, rfl, trivial⟩ ⟨rfl, rfl, rfl, trivial⟩ (hq.mono (by decide))) (il_cons (I_fMul (i := 0) (j := 4) (k := 14) rfl rfl rfl (hp.w.mono (by decide)) (hq.w.mono (by decide))) (il_cons (I_vDot (ka := [8, 9, 10]) (a := p.axis) (kb := [11, 12, 13]) (b := q.axis) (ir := 15) ⟨rfl, rfl, rfl, trivial⟩ ⟨rfl, rfl, rfl, trivial⟩ rfl (hp.axis.mono (by decide)) (hq.axis.mono (by decide))) (il_cons (I_fSub (i := 14) (j := 15) (k := 16) rfl rfl rfl ((hp.w.mul hq.w).mono (by decide)) ((hp.axis.dot hq.axis).mono (by decide))) (il_cons (I_vScale (ka := [11, 12, 13]) (a := q.axis) (ik := 0) (kr := [17, 18, 19]) ⟨rfl, rfl, rfl, trivial⟩ rfl ⟨rfl, rfl, rfl, trivial⟩ (hq.axis.mono (by decide)) (hp.w.mono (by decide))) (il_cons (I_vScale (ka := [8, 9, 10]) (a := p.axis) (ik := 4) (kr := [20, 21, 22]) ⟨rfl, rfl, rfl, trivial⟩ rfl ⟨rfl, rfl, rfl, trivial⟩ (hp.axis.mono (by decide)) (hq.w.mono (by decide))) (il_cons (I_vAdd (ka := [17, 18, 19]) (a := (q.axis.scale p.w)) (kb := [20, 21, 22]) (b := (p.axis.scale q.w)) (kr := [23, 24, 25]) ⟨rfl, rfl, rfl, trivial⟩ ⟨rfl, rfl, rfl, trivial⟩ ⟨rfl, rfl, rfl, trivial⟩ ((hq.axis.scale hp.w).mono (by decide)) ((hp.axis.scale hq.w).mono (by decide))) (il_cons (I_vCross (ka := [8, 9, 10]) (a := p.axis) (kb := [11, 12, 13]) (b := q.axis) (kr := [26, 27, 28]) ⟨rfl, rfl, rfl, trivial⟩ ⟨rfl, rfl, rfl, trivial⟩ ⟨rfl, rfl, rfl, trivial⟩ (hp.axis.mono (by decide)) (hq.axis.mono (by decide))) (il_cons (I_vAdd (ka := [23, 24, 25]) (a := ((q.axis.scale p.w).add (p.axis.scale q.w))) (kb := [26, 27, 28]) (b := (p.axis.cross q.axis)) (kr := [29, 30, 31]) ⟨rfl, rfl, rfl, trivial⟩ ⟨rfl, rfl, rfl, trivial⟩ ⟨rfl, rfl, rfl, trivial⟩ (((hq.axis.scale hp.w).add (hp.axis.scale hq.w)).mono (by decide)) ((hp.axis.cross hq.axis).mono (by decide))) (il_cons (I_fCanon (iu := 16) (kc := [29, 30, 31]) (c := (((q.axis.scale p.w).add (p.axis.scale q.w)).add (p.axis.cross q.axis))) (kr := [32, 33, 34, 35]) rfl ⟨rfl, rfl, rfl, trivial⟩ ⟨rfl, rfl, rfl, rfl, trivial⟩ (((hp.w.mul hq.w).sub (hp.axis.dot hq.axis)).mono (by decide)) ((((hq.axis.scale hp.w).add (hp.axis.scale hq.w)).add (hp.axis.cross hq.axis)).mono (by decide)) (ham_ne gp gq)) il_nil)))))))))))
    ol_nil (by kernel_rfl) Tryz.func62 (by kernel_rfl) ⟨(row_isL (xs := xfMulTX p q) (ks := [0, 1, 2, 3]) (vs := [p.w, p.x, p.y, p.z]) ⟨rfl, rfl, rfl, rfl, trivial⟩).2 ip, ⟨(row_isL (xs := xfMulTX p q) (ks := [4, 5, 6, 7]) (vs := [q.w, q.x, q.y, q.z]) ⟨rfl, rfl, rfl, rfl, trivial⟩).2 iq, trivial⟩⟩).mono ?_
  rintro e w' ⟨v, rfl, h1, h2⟩
  exact ⟨v, rfl, (row_isL (xs := xfMulTX p q) (ks := [32, 33, 34, 35]) (vs := [(Qq.mk ((p.w.mul q.w).sub (p.axis.dot q.axis)) (((q.axis.scale p.w).add (p.axis.scale q.w)).add (p.axis.cross q.axis)).x (((q.axis.scale p.w).add (p.axis.scale q.w)).add (p.axis.cross q.axis)).y (((q.axis.scale p.w).add (p.axis.scale q.w)).add (p.axis.cross q.axis)).z).canon.w, (Qq.mk ((p.w.mul q.w).sub (p.axis.dot q.axis)) (((q.axis.scale p.w).add (p.axis.scale q.w)).add (p.axis.cross q.axis)).x (((q.axis.scale p.w).add (p.axis.scale q.w)).add (p.axis.cross q.axis)).y (((q.axis.scale p.w).add (p.axis.scale q.w)).add (p.axis.cross q.axis)).z).canon.x, (Qq.mk ((p.w.mul q.w).sub (p.axis.dot q.axis)) (((q.axis.scale p.w).add (p.axis.scale q.w)).add (p.axis.cross q.axis)).x (((q.axis.scale p.w).add (p.axis.scale q.w)).add (p.axis.cross q.axis)).y (((q.axis.scale p.w).add (p.axis.scale q.w)).add (p.axis.cross q.axis)).z).canon.y, (Qq.mk ((p.w.mul q.w).sub (p.axis.dot q.axis)) (((q.axis.scale p.w).add (p.axis.scale q.w)).add (p.axis.cross q.axis)).x (((q.axis.scale p.w).add (p.axis.scale q.w)).add (p.axis.cross q.axis)).y (((q.axis.scale p.w).add (p.axis.scale q.w)).add (p.axis.cross q.axis)).z).canon.z]) ⟨rfl, rfl, rfl, rfl, trivial⟩).1 h1, h2⟩
theorem I_fMulT {xs : List Fq} {ys : Rho} {kp : List Nat} {kq : List Nat} {p : Qq} {q : Qq} {kr : List Nat} (ap : AtL xs kp [p.w, p.x, p.y, p.z]) (aq : AtL xs kq [q.w, q.x, q.y, q.z]) (ar : AtL xs kr [(p.mul q).w, (p.mul q).x, (p.mul q).y, (p.mul q).z]) (hp : p.ok 100000) (hq : q.ok 100000) (gp : p.good) (gq : q.good) : OkI xs ys ⟨62, [row kp, row kq], .v (row kr)⟩ :=
  ⟨enters Tryz.func62 rfl rfl, fun B w vs hB h => by
    match vs, h with
    | [vp, vq], h =>
      refine (q_fMulT vp vq p q w ((row_isL ap).1 h.1) ((row_isL aq).1 h.2.1) hp hq gp gq).mono ?_
      rintro e w' ⟨v, rfl, h1, h2⟩
      exact ⟨v, rfl, (row_isL ar).2 h1, h2⟩⟩
def xfInvTX (q : Qq) : List Fq := [q.w, q.x, q.y, q.z, q.axis.x, q.axis.y, q.axis.z, (Fq.ofInt (-1)), (q.axis.scale (Fq.ofInt (-1))).x, (q.axis.scale (Fq.ofInt (-1))).y, (q.axis.scale (Fq.ofInt (-1))).z, (Qq.mk q.w (q.axis.scale (Fq.ofInt (-1))).x (q.axis.scale (Fq.ofInt (-1))).y (q.axis.scale (Fq.ofInt (-1))).z).canon.w, (Qq.mk q.w (q.axis.scale (Fq.ofInt (-1))).x (q.axis.scale (Fq.ofInt (-1))).y (q.axis.scale (Fq.ofInt (-1))).z).canon.x, (Qq.mk q.w (q.axis.scale (Fq.ofInt (-1))).x (q.axis.scale (Fq.ofInt (-1))).y (q.axis.scale (Fq.ofInt (-1))).z).canon.y, (Qq.mk q.w (q.axis.scale (Fq.ofInt (-1))).x (q.axis.scale (Fq.ofInt (-1))).y (q.axis.scale (Fq.ofInt (-1))).z).canon.z]
theorem q_fInvT (vq : Value) (q : Qq) (w : World) (iq : IsQt w vq q) (hq : q.ok 100000) (gq : q.good) :
    Calls Tryz.prog 119 #[vq] w fun e w' => RetQt w q.inv e w' := by
  refine (calls_runFn (ρ := frs (xfInvTX q) ++ []) (w := w) (fuel := 300) (args := [row [0, 1, 2, 3]]) (vs := [vq]) (r := .v (row [11, 12, 13, 14]))
    (il_cons (I_axis (kq := [0, 1, 2, 3]) (q := q) (kr := [4, 5, 6]) ⟨rfl, rfl, rfl, rfl, trivial⟩ ⟨rfl, rfl, rfl, trivial⟩ (hq.mono (by decide))) (il_cons (I_fInt (k := 7) rfl (by decide) (by decide)) (il_cons (I_vScale (ka := [4, 5, 6]) (a := q.axis) (ik := 7) (kr := [8, 9, 10]) ⟨rfl, rfl, rfl, trivial⟩ rfl ⟨rfl, rfl, rfl, trivial⟩ (hq.axis.mono (by decide)) ((ok_int (u := -1) (by decide) (by decide)).mono (by decide))) (il_cons (I_fCanon (iu := 0) (kc := [8, 9, 10]) (c := (q.axis.scale (Fq.ofInt (-1)))) (kr := [11, 12, 13, 14]) rfl ⟨rfl, rfl, rfl, trivial⟩ ⟨rfl, rfl, rfl, rfl, trivial⟩ (hq.w.mono (by decide)) ((hq.axis.scale (ok_int (u := -1) (by decide) (by decide))).mono (by decide)) (inv_ne' gq)) il_nil))))
    ol_nil (by kernel_rfl) Tryz.func119 (by kernel_rfl) ⟨(row_isL (xs := xfInvTX q) (ks := [0, 1, 2, 3]) (vs := [q.w, q.x, q.y, q.z]) ⟨rfl, rfl, rfl, rfl, trivial⟩).2 iq, trivial⟩).mono ?_
  rintro e w' ⟨v, rfl, h1, h2⟩
  exact ⟨v, rfl, (row_isL (xs := xfInvTX q) (ks := [11, 12, 13, 14]) (vs := [(Qq.mk q.w (q.axis.scale (Fq.ofInt (-1))).x (q.axis.scale (Fq.ofInt (-1))).y (q.axis.scale (Fq.ofInt (-1))).z).canon.w, (Qq.mk q.w (q.axis.scale (Fq.ofInt (-1))).x (q.axis.scale (Fq.ofInt (-1))).y (q.axis.scale (Fq.ofInt (-1))).z).canon.x, (Qq.mk q.w (q.axis.scale (Fq.ofInt (-1))).x (q.axis.scale (Fq.ofInt (-1))).y (q.axis.scale (Fq.ofInt (-1))).z).canon.y, (Qq.mk q.w (q.axis.scale (Fq.ofInt (-1))).x (q.axis.scale (Fq.ofInt (-1))).y (q.axis.scale (Fq.ofInt (-1))).z).canon.z]) ⟨rfl, rfl, rfl, rfl, trivial⟩).1 h1, h2⟩
theorem I_fInvT {xs : List Fq} {ys : Rho} {kq : List Nat} {q : Qq} {kr : List Nat} (aq : AtL xs kq [q.w, q.x, q.y, q.z]) (ar : AtL xs kr [q.inv.w, q.inv.x, q.inv.y, q.inv.z]) (hq : q.ok 100000) (gq : q.good) : OkI xs ys ⟨119, [row kq], .v (row kr)⟩ :=
  ⟨enters Tryz.func119 rfl rfl, fun B w vs hB h => by
    match vs, h with
    | [vq], h =>
      refine (q_fInvT vq q w ((row_isL aq).1 h.1) hq gq).mono ?_
      rintro e w' ⟨v, rfl, h1, h2⟩
      exact ⟨v, rfl, (row_isL ar).2 h1, h2⟩⟩
def xfAppX (q : Qq) (a : Vq) : List Fq := [q.w, q.x, q.y, q.z, a.x, a.y, a.z, q.axis.x, q.axis.y, q.axis.z, (q.w.mul q.w), (q.axis.dot q.axis), (Fq.ofInt 2), ((q.w.mul q.w).sub (q.axis.dot q.axis)), (a.scale ((q.w.mul q.w).sub (q.axis.dot q.axis))).x, (a.scale ((q.w.mul q.w).sub (q.axis.dot q.axis))).y, (a.scale ((q.w.mul q.w).sub (q.axis.dot q.axis))).z, (q.axis.dot a), ((Fq.ofInt 2).mul (q.axis.dot a)), (q.axis.scale ((Fq.ofInt 2).mul (q.axis.dot a))).x, (q.axis.scale ((Fq.ofInt 2).mul (q.axis.dot a))).y, (q.axis.scale ((Fq.ofInt 2).mul (q.axis.dot a))).z, ((a.scale ((q.w.mul q.w).sub (q.axis.dot q.axis))).add (q.axis.scale ((Fq.ofInt 2).mul (q.axis.dot a)))).x, ((a.scale ((q.w.mul q.w).sub (q.axis.dot q.axis))).add (q.axis.scale ((Fq.ofInt 2).mul (q.axis.dot a)))).y, ((a.scale ((q.w.mul q.w).sub (q.axis.dot q.axis))).add (q.axis.scale ((Fq.ofInt 2).mul (q.axis.dot a)))).z, (q.axis.cross a).x, (q.axis.cross a).y, (q.axis.cross a).z, ((Fq.ofInt 2).mul q.w), ((q.axis.cross a).scale ((Fq.ofInt 2).mul q.w)).x, ((q.axis.cross a).scale ((Fq.ofInt 2).mul q.w)).y, ((q.axis.cross a).scale ((Fq.ofInt 2).mul q.w)).z, (((a.scale ((q.w.mul q.w).sub (q.axis.dot q.axis))).add (q.axis.scale ((Fq.ofInt 2).mul (q.axis.dot a)))).add ((q.axis.cross a).scale ((Fq.ofInt 2).mul q.w))).x, (((a.scale ((q.w.mul q.w).sub (q.axis.dot q.axis))).add (q.axis.scale ((Fq.ofInt 2).mul (q.axis.dot a)))).add ((q.axis.cross a).scale ((Fq.ofInt 2).mul q.w))).y, (((a.scale ((q.w.mul q.w).sub (q.axis.dot q.axis))).add (q.axis.scale ((Fq.ofInt 2).mul (q.axis.dot a)))).add ((q.axis.cross a).scale ((Fq.ofInt 2).mul q.w))).z, (Fq.ofInt 1), ((q.w.mul q.w).add (q.axis.dot q.axis)), ((Fq.ofInt 1).div ((q.w.mul q.w).add (q.axis.dot q.axis))), ((((a.scale ((q.w.mul q.w).sub (q.axis.dot q.axis))).add (q.axis.scale ((Fq.ofInt 2).mul (q.axis.dot a)))).add ((q.axis.cross a).scale ((Fq.ofInt 2).mul q.w))).scale ((Fq.ofInt 1).div ((q.w.mul q.w).add (q.axis.dot q.axis)))).x, ((((a.scale ((q.w.mul q.w).sub (q.axis.dot q.axis))).add (q.axis.scale ((Fq.ofInt 2).mul (q.axis.dot a)))).add ((q.axis.cross a).scale ((Fq.ofInt 2).mul q.w))).scale ((Fq.ofInt 1).div ((q.w.mul q.w).add (q.axis.dot q.axis)))).y, ((((a.scale ((q.w.mul q.w).sub (q.axis.dot q.axis))).add (q.axis.scale ((Fq.ofInt 2).mul (q.axis.dot a)))).add ((q.axis.cross a).scale ((Fq.ofInt 2).mul q.w))).scale ((Fq.ofInt 1).div ((q.w.mul q.w).add (q.axis.dot q.axis)))).z]
theorem q_fApp (vq va : Value) (q : Qq) (a : Vq) (w : World) (iq : IsQt w vq q) (ia : IsVq w va a) (hq : q.ok 300000) (ha : a.ok 300000) (gq : q.good) :
    Calls Tryz.prog 120 #[vq, va] w fun e w' => RetVq w (q.app a) e w' := by
  refine (calls_runFn (ρ := frs (xfAppX q a) ++ []) (w := w) (fuel := 300) (args := [row [0, 1, 2, 3], row [4, 5, 6]]) (vs := [vq, va]) (r := .v (row [38, 39, 40]))
    (il_cons (I_axis (kq := [0, 1, 2, 3]) (q := q) (kr := [7, 8, 9]) ⟨rfl, rfl, rfl, rfl, trivial⟩ ⟨rfl, rfl, rfl, trivial⟩ (hq.mono (by decide))) (il_cons (I_fMul (i := 0) (j := 0) (k := 10) rfl rfl rfl (hq.w.mono (by decide)) (hq.w.mono (by decide))) (il_cons (I_vDot (ka := [7, 8, 9]) (a := q.axis) (kb := [7, 8, 9]) (b := q.axis) (ir := 11) ⟨rfl, rfl, rfl, trivial⟩ ⟨rfl, rfl, rfl, trivial⟩ rfl (hq.axis.mono (by decide)) (hq.axis.mono (by decide))) (il_cons (I_fInt (k := 12) rfl (by decide) (by decide)) (il_cons (I_fSub (i := 10) (j := 11) (k := 13) rfl rfl rfl ((hq.w.mul hq.w).mono (by decide)) ((hq.axis.dot hq.axis).mono (by decide))) (il_cons (I_vScale (ka := [4, 5, 6]) (a := a) (ik := 13) (kr := [14, 15, 16]) ⟨rfl, rfl, rfl, trivial⟩ rfl ⟨rfl, rfl, rfl, trivial⟩ (ha.mono (by decide)) (((hq.w.mul hq.w).sub (hq.axis.dot hq.axis)).mono (by decide))) (il_cons (I_vDot (ka := [7, 8, 9]) (a := q.axis) (kb := [4, 5, 6]) (b := a) (ir := 17) ⟨rfl, rfl, rfl, trivial⟩ ⟨rfl, rfl, rfl, trivial⟩ rfl (hq.axis.mono (by decide)) (ha.mono (by decide))) (il_cons (I_fMul (i := 12) (j := 17) (k := 18) rfl rfl rfl ((ok_int (u := 2) (by decide) (by decide)).mono (by decide)) ((hq.axis.dot ha).mono (by decide))) (il_cons (I_vScale (ka := [7, 8, 9]) (a := q.axis) (ik := 18) (kr := [19, 20, 21]) ⟨rfl, rfl, rfl, trivial⟩ rfl ⟨rfl, rfl, rfl, trivial⟩ (hq.axis.mono (by decide)) (((ok_int (u := 2) (by decide) (by decide)).mul (hq.axis.dot ha)).mono (by decide))) (il_cons (I_vAdd (ka := [14, 15, 16]) (a := (a.scale ((q.w.mul q.w).sub (q.axis.dot q.axis)))) (kb := [19, 20, 21]) (b := (q.axis.scale ((Fq.ofInt 2).mul (q.axis.dot a)))) (kr := [22, 23, 24]) ⟨rfl, rfl, rfl, trivial⟩ ⟨rfl, rfl, rfl, trivial⟩ ⟨rfl, rfl, rfl, trivial⟩ ((ha.scale ((hq.w.mul hq.w).sub (hq.axis.dot hq.axis))).mono (by decide)) ((hq.axis.scale ((ok_int (u := 2) (by decide) (by decide)).mul (hq.axis.dot ha))).mono (by decide))) (il_cons (I_vCross (ka := [7, 8, 9]) (a := q.axis) (kb := [4, 5, 6]) (b := a) (kr := [25, 26, 27]) ⟨rfl, rfl, rfl, trivial⟩ ⟨rfl, rfl, rfl, trivial⟩ ⟨rfl, rfl, rfl, trivial⟩ (hq.axis.mono (by decide)) (ha.mono (by decide))) (il_cons (I_fMul (i := 12) (j := 0) (k := 28) rfl rfl rfl ((ok_int (u := 2) (by decide) (by decide)).mono (by decide)) (hq.w.mono (by decide))) (il_cons (I_vScale (ka := [25, 26, 27]) (a := (q.axis.cross a)) (ik := 28) (kr := [29, 30, 31]) ⟨rfl, rfl, rfl, trivial⟩ rfl ⟨rfl, rfl, rfl, trivial⟩ ((hq.axis.cross ha).mono (by decide)) (((ok_int (u := 2) (by decide) (by decide)).mul hq.w).mono (by decide))) (il_cons (I_vAdd (ka := [22, 23, 24]) (a := ((a.scale ((q.w.mul q.w).sub (q.axis.dot q.axis))).add (q.axis.scale ((Fq.ofInt 2).mul (q.axis.dot a))))) (kb := [29, 30, 31]) (b := ((q.axis.cross a).scale ((Fq.ofInt 2).mul q.w))) (kr := [32, 33, 34]) ⟨rfl, rfl, rfl, trivial⟩ ⟨rfl, rfl, rfl, trivial⟩ ⟨rfl, rfl, rfl, trivial⟩ (((ha.scale ((hq.w.mul hq.w).sub (hq.axis.dot hq.axis))).add (hq.axis.scale ((ok_int (u := 2) (by decide) (by decide)).mul (hq.axis.dot ha)))).mono (by decide)) (((hq.axis.cross ha).scale ((ok_int (u := 2) (by decide) (by decide)).mul hq.w)).mono (by decide))) (il_cons (I_fInt (k := 35) rfl (by decide) (by decide)) (il_cons (I_fAdd (i := 10) (j := 11) (k := 36) rfl rfl rfl ((hq.w.mul hq.w).mono (by decide)) ((hq.axis.dot hq.axis).mono (by decide))) (il_cons (I_fDiv (i := 35) (j := 36) (k := 37) rfl rfl rfl ((ok_int (u := 1) (by decide) (by decide)).mono (by decide)) (((hq.w.mul hq.w).add (hq.axis.dot hq.axis)).mono (by decide)) (nn_ne gq)) (il_cons (I_vScale (ka := [32, 33, 34]) (a := (((a.scale ((q.w.mul q.w).sub (q.axis.dot q.axis))).add (q.axis.scale ((Fq.ofInt 2).mul (q.axis.dot a)))).add ((q.axis.cross a).scale ((Fq.ofInt 2).mul q.w)))) (ik := 37) (kr := [38, 39, 40]) ⟨rfl, rfl, rfl, trivial⟩ rfl ⟨rfl, rfl, rfl, trivial⟩ ((((ha.scale ((hq.w.mul hq.w).sub (hq.axis.dot hq.axis))).add (hq.axis.scale ((ok_int (u := 2) (by decide) (by decide)).mul (hq.axis.dot ha)))).add ((hq.axis.cross ha).scale ((ok_int (u := 2) (by decide) (by decide)).mul hq.w))).mono (by decide)) (((ok_int (u := 1) (by decide) (by decide)).div ((hq.w.mul hq.w).add (hq.axis.dot hq.axis)) (nn_ne gq)).mono (by decide))) il_nil))))))))))))))))))
    ol_nil (by kernel_rfl) Tryz.func120 (by kernel_rfl) ⟨(row_isL (xs := xfAppX q a) (ks := [0, 1, 2, 3]) (vs := [q.w, q.x, q.y, q.z]) ⟨rfl, rfl, rfl, rfl, trivial⟩).2 iq, ⟨(row_isL (xs := xfAppX q a) (ks := [4, 5, 6]) (vs := [a.x, a.y, a.z]) ⟨rfl, rfl, rfl, trivial⟩).2 ia, trivial⟩⟩).mono ?_
  rintro e w' ⟨v, rfl, h1, h2⟩
  exact ⟨v, rfl, (row_isL (xs := xfAppX q a) (ks := [38, 39, 40]) (vs := [((((a.scale ((q.w.mul q.w).sub (q.axis.dot q.axis))).add (q.axis.scale ((Fq.ofInt 2).mul (q.axis.dot a)))).add ((q.axis.cross a).scale ((Fq.ofInt 2).mul q.w))).scale ((Fq.ofInt 1).div ((q.w.mul q.w).add (q.axis.dot q.axis)))).x, ((((a.scale ((q.w.mul q.w).sub (q.axis.dot q.axis))).add (q.axis.scale ((Fq.ofInt 2).mul (q.axis.dot a)))).add ((q.axis.cross a).scale ((Fq.ofInt 2).mul q.w))).scale ((Fq.ofInt 1).div ((q.w.mul q.w).add (q.axis.dot q.axis)))).y, ((((a.scale ((q.w.mul q.w).sub (q.axis.dot q.axis))).add (q.axis.scale ((Fq.ofInt 2).mul (q.axis.dot a)))).add ((q.axis.cross a).scale ((Fq.ofInt 2).mul q.w))).scale ((Fq.ofInt 1).div ((q.w.mul q.w).add (q.axis.dot q.axis)))).z]) ⟨rfl, rfl, rfl, trivial⟩).1 h1, h2⟩
theorem I_fApp {xs : List Fq} {ys : Rho} {kq : List Nat} {ka : List Nat} {q : Qq} {a : Vq} {kr : List Nat} (aq : AtL xs kq [q.w, q.x, q.y, q.z]) (aa : AtL xs ka [a.x, a.y, a.z]) (ar : AtL xs kr [(q.app a).x, (q.app a).y, (q.app a).z]) (hq : q.ok 300000) (ha : a.ok 300000) (gq : q.good) : OkI xs ys ⟨120, [row kq, row ka], .v (row kr)⟩ :=
  ⟨enters Tryz.func120 rfl rfl, fun B w vs hB h => by
    match vs, h with
    | [vq, va], h =>
      refine (q_fApp vq va q a w ((row_isL aq).1 h.1) ((row_isL aa).1 h.2.1) hq ha gq).mono ?_
      rintro e w' ⟨v, rfl, h1, h2⟩
      exact ⟨v, rfl, (row_isL ar).2 h1, h2⟩⟩
end Go.Proofs.YthebfmlfgfmlnaaGreatDoor
namespace Go.Proofs.YthebfmlfgfmlnaaGreatDoor
set_option linter.unusedSimpArgs false
set_option linter.unusedVariables false
set_option maxRecDepth 100000
open Go.RowKit
theorem ok_vof {x y z : Int} (l1 : -9223372036854775808 ≤ x) (r1 : x < 9223372036854775808) (l2 : -9223372036854775808 ≤ y) (r2 : y < 9223372036854775808) (l3 : -9223372036854775808 ≤ z) (r3 : z < 9223372036854775808) : (Vq.of x y z).ok 2 := ⟨ok_int l1 r1, ok_int l2 r2, ok_int l3 r3⟩
theorem good_first {q : Qq} (g : q.good) : q.first = Fq.ofInt 1 := v_inj g.comp.first (ofInt_valid 1) (by rw [g.one, v_ofInt]; rfl)
theorem good_ne {q : Qq} (g : q.good) : q.first.p ≠ 0 := by rw [good_first g]; decide
end Go.Proofs.YthebfmlfgfmlnaaGreatDoor
namespace Go.Proofs.YthebfmlfgfmlnaaGreatDoor
set_option linter.unusedSimpArgs false
set_option linter.unusedVariables false
set_option maxRecDepth 100000
open Go.RowKit
theorem good_of {q : Qq} (c : q.comp) (h : q.first = Fq.ofInt 1) : q.good := ⟨c, by rw [h, v_ofInt]; rfl⟩
def xfValidT1X (q : Qq) : List Fq := [q.w, q.x, q.y, q.z, (Fq.ofInt 1)]
def xfValidT11X (q : Qq) : List Fq := [q.w, q.x, q.y, q.z, (Fq.ofInt 1)]
def xfValidT12X (q : Qq) : List Fq := [q.w, q.x, q.y, q.z, (Fq.ofInt 1)]
def xfValidT13X (q : Qq) : List Fq := [q.w, q.x, q.y, q.z, (Fq.ofInt 1)]
theorem q_fValidT1 (vq : Value) (q : Qq) (w : World) (iq : IsQt w vq q) (hq : q.ok 1000000) (gq : q.good) :
    Calls Tryz.prog 41 #[vq] w fun e w' => RetV w (.bool true) e w' := by
  by_cases c0 : q.w.p = 0
  · by_cases c1 : q.x.p = 0
    · by_cases c2 : q.y.p = 0
      · by_cases c3 : q.z.p = 0
        · exact absurd (by simp [Qq.first, c0, c1, c2, c3]) (good_ne gq)
        · have e1 : q.first = q.z := by simp [Qq.first, c0, c1, c2, c3]
          refine (calls_runFn (ρ := frs (xfValidT1X q) ++ [.val (.int .i64 q.z.sgn)]) (w := w) (fuel := 300) (args := [row [0, 1, 2, 3]]) (vs := [vq]) (r := .v (.one (.b true)))
            (il_cons (I_parts (kq := [0, 1, 2, 3]) (q := q) (kr := [0, 1, 2, 3]) ⟨rfl, rfl, rfl, rfl, trivial⟩ ⟨rfl, rfl, rfl, rfl, trivial⟩ (hq.mono (by decide))) (il_cons (I_fValid (i := 0) (l := .b true) rfl (lb gq.comp.w) (hq.w.mono (by decide))) (il_cons (I_fValid (i := 1) (l := .b true) rfl (lb gq.comp.x) (hq.x.mono (by decide))) (il_cons (I_fValid (i := 2) (l := .b true) rfl (lb gq.comp.y) (hq.y.mono (by decide))) (il_cons (I_fValid (i := 3) (l := .b true) rfl (lb gq.comp.z) (hq.z.mono (by decide))) (il_cons (I_fSign (i := 0) rfl (li (sgn0 c0)) (hq.w.mono (by decide))) (il_cons (I_fSign (i := 1) rfl (li (sgn0 c1)) (hq.x.mono (by decide))) (il_cons (I_fSign (i := 2) rfl (li (sgn0 c2)) (hq.y.mono (by decide))) (il_cons (I_fSign (i := 3) rfl (lr (n := 15) rfl) (hq.z.mono (by decide))) (il_cons (I_fInt (k := 4) rfl (by decide) (by decide)) (il_cons (I_fCmp (i := 3) (j := 4) rfl rfl (li ((o_zero gq.comp.z (ofInt_valid 1)).2 (e1.symm.trans (good_first gq)))) (hq.z.mono (by decide)) ((ok_int (u := 1) (by decide) (by decide)).mono (by decide))) il_nil)))))))))))
            (ol_cons (o_neq (n := 15) (c := 0) (t := 3) rfl (sgn_nq c3)) (ol_nil)) (by kernel_rfl) Tryz.func41 (by kernel_rfl) ⟨(row_isL (xs := xfValidT1X q) (ks := [0, 1, 2, 3]) (vs := [q.w, q.x, q.y, q.z]) ⟨rfl, rfl, rfl, rfl, trivial⟩).2 iq, trivial⟩).mono ?_
          rintro e w' ⟨v, rfl, h1, h2⟩
          exact ⟨congrArg Ending.returned h1, h2⟩
      · have e1 : q.first = q.y := by simp [Qq.first, c0, c1, c2]
        refine (calls_runFn (ρ := frs (xfValidT11X q) ++ [.val (.int .i64 q.y.sgn)]) (w := w) (fuel := 300) (args := [row [0, 1, 2, 3]]) (vs := [vq]) (r := .v (.one (.b true)))
          (il_cons (I_parts (kq := [0, 1, 2, 3]) (q := q) (kr := [0, 1, 2, 3]) ⟨rfl, rfl, rfl, rfl, trivial⟩ ⟨rfl, rfl, rfl, rfl, trivial⟩ (hq.mono (by decide))) (il_cons (I_fValid (i := 0) (l := .b true) rfl (lb gq.comp.w) (hq.w.mono (by decide))) (il_cons (I_fValid (i := 1) (l := .b true) rfl (lb gq.comp.x) (hq.x.mono (by decide))) (il_cons (I_fValid (i := 2) (l := .b true) rfl (lb gq.comp.y) (hq.y.mono (by decide))) (il_cons (I_fValid (i := 3) (l := .b true) rfl (lb gq.comp.z) (hq.z.mono (by decide))) (il_cons (I_fSign (i := 0) rfl (li (sgn0 c0)) (hq.w.mono (by decide))) (il_cons (I_fSign (i := 1) rfl (li (sgn0 c1)) (hq.x.mono (by decide))) (il_cons (I_fSign (i := 2) rfl (lr (n := 15) rfl) (hq.y.mono (by decide))) (il_cons (I_fInt (k := 4) rfl (by decide) (by decide)) (il_cons (I_fCmp (i := 2) (j := 4) rfl rfl (li ((o_zero gq.comp.y (ofInt_valid 1)).2 (e1.symm.trans (good_first gq)))) (hq.y.mono (by decide)) ((ok_int (u := 1) (by decide) (by decide)).mono (by decide))) il_nil))))))))))
          (ol_cons (o_neq (n := 15) (c := 0) (t := 3) rfl (sgn_nq c2)) (ol_nil)) (by kernel_rfl) Tryz.func41 (by kernel_rfl) ⟨(row_isL (xs := xfValidT11X q) (ks := [0, 1, 2, 3]) (vs := [q.w, q.x, q.y, q.z]) ⟨rfl, rfl, rfl, rfl, trivial⟩).2 iq, trivial⟩).mono ?_
        rintro e w' ⟨v, rfl, h1, h2⟩
        exact ⟨congrArg Ending.returned h1, h2⟩
    · have e1 : q.first = q.x := by simp [Qq.first, c0, c1]
      refine (calls_runFn (ρ := frs (xfValidT12X q) ++ [.val (.int .i64 q.x.sgn)]) (w := w) (fuel := 300) (args := [row [0, 1, 2, 3]]) (vs := [vq]) (r := .v (.one (.b true)))
        (il_cons (I_parts (kq := [0, 1, 2, 3]) (q := q) (kr := [0, 1, 2, 3]) ⟨rfl, rfl, rfl, rfl, trivial⟩ ⟨rfl, rfl, rfl, rfl, trivial⟩ (hq.mono (by decide))) (il_cons (I_fValid (i := 0) (l := .b true) rfl (lb gq.comp.w) (hq.w.mono (by decide))) (il_cons (I_fValid (i := 1) (l := .b true) rfl (lb gq.comp.x) (hq.x.mono (by decide))) (il_cons (I_fValid (i := 2) (l := .b true) rfl (lb gq.comp.y) (hq.y.mono (by decide))) (il_cons (I_fValid (i := 3) (l := .b true) rfl (lb gq.comp.z) (hq.z.mono (by decide))) (il_cons (I_fSign (i := 0) rfl (li (sgn0 c0)) (hq.w.mono (by decide))) (il_cons (I_fSign (i := 1) rfl (lr (n := 15) rfl) (hq.x.mono (by decide))) (il_cons (I_fInt (k := 4) rfl (by decide) (by decide)) (il_cons (I_fCmp (i := 1) (j := 4) rfl rfl (li ((o_zero gq.comp.x (ofInt_valid 1)).2 (e1.symm.trans (good_first gq)))) (hq.x.mono (by decide)) ((ok_int (u := 1) (by decide) (by decide)).mono (by decide))) il_nil)))))))))
        (ol_cons (o_neq (n := 15) (c := 0) (t := 3) rfl (sgn_nq c1)) (ol_nil)) (by kernel_rfl) Tryz.func41 (by kernel_rfl) ⟨(row_isL (xs := xfValidT12X q) (ks := [0, 1, 2, 3]) (vs := [q.w, q.x, q.y, q.z]) ⟨rfl, rfl, rfl, rfl, trivial⟩).2 iq, trivial⟩).mono ?_
      rintro e w' ⟨v, rfl, h1, h2⟩
      exact ⟨congrArg Ending.returned h1, h2⟩
  · have e1 : q.first = q.w := by simp [Qq.first, c0]
    refine (calls_runFn (ρ := frs (xfValidT13X q) ++ [.val (.int .i64 q.w.sgn)]) (w := w) (fuel := 300) (args := [row [0, 1, 2, 3]]) (vs := [vq]) (r := .v (.one (.b true)))
      (il_cons (I_parts (kq := [0, 1, 2, 3]) (q := q) (kr := [0, 1, 2, 3]) ⟨rfl, rfl, rfl, rfl, trivial⟩ ⟨rfl, rfl, rfl, rfl, trivial⟩ (hq.mono (by decide))) (il_cons (I_fValid (i := 0) (l := .b true) rfl (lb gq.comp.w) (hq.w.mono (by decide))) (il_cons (I_fValid (i := 1) (l := .b true) rfl (lb gq.comp.x) (hq.x.mono (by decide))) (il_cons (I_fValid (i := 2) (l := .b true) rfl (lb gq.comp.y) (hq.y.mono (by decide))) (il_cons (I_fValid (i := 3) (l := .b true) rfl (lb gq.comp.z) (hq.z.mono (by decide))) (il_cons (I_fSign (i := 0) rfl (lr (n := 15) rfl) (hq.w.mono (by decide))) (il_cons (I_fInt (k := 4) rfl (by decide) (by decide)) (il_cons (I_fCmp (i := 0) (j := 4) rfl rfl (li ((o_zero gq.comp.w (ofInt_valid 1)).2 (e1.symm.trans (good_first gq)))) (hq.w.mono (by decide)) ((ok_int (u := 1) (by decide) (by decide)).mono (by decide))) il_nil))))))))
      (ol_cons (o_neq (n := 15) (c := 0) (t := 3) rfl (sgn_nq c0)) (ol_nil)) (by kernel_rfl) Tryz.func41 (by kernel_rfl) ⟨(row_isL (xs := xfValidT13X q) (ks := [0, 1, 2, 3]) (vs := [q.w, q.x, q.y, q.z]) ⟨rfl, rfl, rfl, rfl, trivial⟩).2 iq, trivial⟩).mono ?_
    rintro e w' ⟨v, rfl, h1, h2⟩
    exact ⟨congrArg Ending.returned h1, h2⟩
theorem I_fValidT1 {xs : List Fq} {ys : Rho} {kq : List Nat} {q : Qq}  (aq : AtL xs kq [q.w, q.x, q.y, q.z])  (hq : q.ok 1000000) (gq : q.good) : OkI xs ys ⟨41, [row kq], .v (.one (.b true))⟩ :=
  ⟨enters Tryz.func41 rfl rfl, fun B w vs hB h => by
    match vs, h with
    | [vq], h =>
      refine (q_fValidT1 vq q w ((row_isL aq).1 h.1) hq gq).mono ?_
      rintro e w' ⟨rfl, h2⟩
      exact ⟨_, rfl, rfl, h2⟩⟩
def xfValidT0X (q : Qq) : List Fq := [q.w, q.x, q.y, q.z]
def xfValidT01X (q : Qq) : List Fq := [q.w, q.x, q.y, q.z, (Fq.ofInt 1)]
def xfValidT02X (q : Qq) : List Fq := [q.w, q.x, q.y, q.z, (Fq.ofInt 1)]
def xfValidT03X (q : Qq) : List Fq := [q.w, q.x, q.y, q.z, (Fq.ofInt 1)]
def xfValidT04X (q : Qq) : List Fq := [q.w, q.x, q.y, q.z, (Fq.ofInt 1)]
theorem q_fValidT0 (vq : Value) (q : Qq) (w : World) (iq : IsQt w vq q) (hq : q.ok 1000000) (gc : q.comp) (hf : q.first ≠ (Fq.ofInt 1)) :
    Calls Tryz.prog 41 #[vq] w fun e w' => RetV w (.bool false) e w' := by
  by_cases c0 : q.w.p = 0
  · by_cases c1 : q.x.p = 0
    · by_cases c2 : q.y.p = 0
      · by_cases c3 : q.z.p = 0
        · refine (calls_runFn (ρ := frs (xfValidT0X q) ++ []) (w := w) (fuel := 300) (args := [row [0, 1, 2, 3]]) (vs := [vq]) (r := .v (.one (.b false)))
            (il_cons (I_parts (kq := [0, 1, 2, 3]) (q := q) (kr := [0, 1, 2, 3]) ⟨rfl, rfl, rfl, rfl, trivial⟩ ⟨rfl, rfl, rfl, rfl, trivial⟩ (hq.mono (by decide))) (il_cons (I_fValid (i := 0) (l := .b true) rfl (lb gc.w) (hq.w.mono (by decide))) (il_cons (I_fValid (i := 1) (l := .b true) rfl (lb gc.x) (hq.x.mono (by decide))) (il_cons (I_fValid (i := 2) (l := .b true) rfl (lb gc.y) (hq.y.mono (by decide))) (il_cons (I_fValid (i := 3) (l := .b true) rfl (lb gc.z) (hq.z.mono (by decide))) (il_cons (I_fSign (i := 0) rfl (li (sgn0 c0)) (hq.w.mono (by decide))) (il_cons (I_fSign (i := 1) rfl (li (sgn0 c1)) (hq.x.mono (by decide))) (il_cons (I_fSign (i := 2) rfl (li (sgn0 c2)) (hq.y.mono (by decide))) (il_cons (I_fSign (i := 3) rfl (li (sgn0 c3)) (hq.z.mono (by decide))) il_nil)))))))))
            ol_nil (by kernel_rfl) Tryz.func41 (by kernel_rfl) ⟨(row_isL (xs := xfValidT0X q) (ks := [0, 1, 2, 3]) (vs := [q.w, q.x, q.y, q.z]) ⟨rfl, rfl, rfl, rfl, trivial⟩).2 iq, trivial⟩).mono ?_
          rintro e w' ⟨v, rfl, h1, h2⟩
          exact ⟨congrArg Ending.returned h1, h2⟩
        · have e1 : q.first = q.z := by simp [Qq.first, c0, c1, c2, c3]
          refine (calls_runFn (ρ := frs (xfValidT01X q) ++ [.val (.int .i64 q.z.sgn), .val (.int .i64 (q.z.cmp (Fq.ofInt 1)))]) (w := w) (fuel := 300) (args := [row [0, 1, 2, 3]]) (vs := [vq]) (r := .v (.one (.b false)))
            (il_cons (I_parts (kq := [0, 1, 2, 3]) (q := q) (kr := [0, 1, 2, 3]) ⟨rfl, rfl, rfl, rfl, trivial⟩ ⟨rfl, rfl, rfl, rfl, trivial⟩ (hq.mono (by decide))) (il_cons (I_fValid (i := 0) (l := .b true) rfl (lb gc.w) (hq.w.mono (by decide))) (il_cons (I_fValid (i := 1) (l := .b true) rfl (lb gc.x) (hq.x.mono (by decide))) (il_cons (I_fValid (i := 2) (l := .b true) rfl (lb gc.y) (hq.y.mono (by decide))) (il_cons (I_fValid (i := 3) (l := .b true) rfl (lb gc.z) (hq.z.mono (by decide))) (il_cons (I_fSign (i := 0) rfl (li (sgn0 c0)) (hq.w.mono (by decide))) (il_cons (I_fSign (i := 1) rfl (li (sgn0 c1)) (hq.x.mono (by decide))) (il_cons (I_fSign (i := 2) rfl (li (sgn0 c2)) (hq.y.mono (by decide))) (il_cons (I_fSign (i := 3) rfl (lr (n := 15) rfl) (hq.z.mono (by decide))) (il_cons (I_fInt (k := 4) rfl (by decide) (by decide)) (il_cons (I_fCmp (i := 3) (j := 4) rfl rfl (lr (n := 16) rfl) (hq.z.mono (by decide)) ((ok_int (u := 1) (by decide) (by decide)).mono (by decide))) il_nil)))))))))))
            (ol_cons (o_neq (n := 15) (c := 0) (t := 3) rfl (sgn_nq c3)) (ol_cons (o_eql (n := 16) (c := 0) (t := 3) rfl (ne_eql (mt (o_zero gc.z (ofInt_valid 1)).1 (fun h => hf (e1.trans h))))) (ol_nil))) (by kernel_rfl) Tryz.func41 (by kernel_rfl) ⟨(row_isL (xs := xfValidT01X q) (ks := [0, 1, 2, 3]) (vs := [q.w, q.x, q.y, q.z]) ⟨rfl, rfl, rfl, rfl, trivial⟩).2 iq, trivial⟩).mono ?_
          rintro e w' ⟨v, rfl, h1, h2⟩
          exact ⟨congrArg Ending.returned h1, h2⟩
      · have e1 : q.first = q.y := by simp [Qq.first, c0, c1, c2]
        refine (calls_runFn (ρ := frs (xfValidT02X q) ++ [.val (.int .i64 q.y.sgn), .val (.int .i64 (q.y.cmp (Fq.ofInt 1)))]) (w := w) (fuel := 300) (args := [row [0, 1, 2, 3]]) (vs := [vq]) (r := .v (.one (.b false)))
          (il_cons (I_parts (kq := [0, 1, 2, 3]) (q := q) (kr := [0, 1, 2, 3]) ⟨rfl, rfl, rfl, rfl, trivial⟩ ⟨rfl, rfl, rfl, rfl, trivial⟩ (hq.mono (by decide))) (il_cons (I_fValid (i := 0) (l := .b true) rfl (lb gc.w) (hq.w.mono (by decide))) (il_cons (I_fValid (i := 1) (l := .b true) rfl (lb gc.x) (hq.x.mono (by decide))) (il_cons (I_fValid (i := 2) (l := .b true) rfl (lb gc.y) (hq.y.mono (by decide))) (il_cons (I_fValid (i := 3) (l := .b true) rfl (lb gc.z) (hq.z.mono (by decide))) (il_cons (I_fSign (i := 0) rfl (li (sgn0 c0)) (hq.w.mono (by decide))) (il_cons (I_fSign (i := 1) rfl (li (sgn0 c1)) (hq.x.mono (by decide))) (il_cons (I_fSign (i := 2) rfl (lr (n := 15) rfl) (hq.y.mono (by decide))) (il_cons (I_fInt (k := 4) rfl (by decide) (by decide)) (il_cons (I_fCmp (i := 2) (j := 4) rfl rfl (lr (n := 16) rfl) (hq.y.mono (by decide)) ((ok_int (u := 1) (by decide) (by decide)).mono (by decide))) il_nil))))))))))
          (ol_cons (o_neq (n := 15) (c := 0) (t := 3) rfl (sgn_nq c2)) (ol_cons (o_eql (n := 16) (c := 0) (t := 3) rfl (ne_eql (mt (o_zero gc.y (ofInt_valid 1)).1 (fun h => hf (e1.trans h))))) (ol_nil))) (by kernel_rfl) Tryz.func41 (by kernel_rfl) ⟨(row_isL (xs := xfValidT02X q) (ks := [0, 1, 2, 3]) (vs := [q.w, q.x, q.y, q.z]) ⟨rfl, rfl, rfl, rfl, trivial⟩).2 iq, trivial⟩).mono ?_
        rintro e w' ⟨v, rfl, h1, h2⟩
        exact ⟨congrArg Ending.returned h1, h2⟩
    · have e1 : q.first = q.x := by simp [Qq.first, c0, c1]
      refine (calls_runFn (ρ := frs (xfValidT03X q) ++ [.val (.int .i64 q.x.sgn), .val (.int .i64 (q.x.cmp (Fq.ofInt 1)))]) (w := w) (fuel := 300) (args := [row [0, 1, 2, 3]]) (vs := [vq]) (r := .v (.one (.b false)))
        (il_cons (I_parts (kq := [0, 1, 2, 3]) (q := q) (kr := [0, 1, 2, 3]) ⟨rfl, rfl, rfl, rfl, trivial⟩ ⟨rfl, rfl, rfl, rfl, trivial⟩ (hq.mono (by decide))) (il_cons (I_fValid (i := 0) (l := .b true) rfl (lb gc.w) (hq.w.mono (by decide))) (il_cons (I_fValid (i := 1) (l := .b true) rfl (lb gc.x) (hq.x.mono (by decide))) (il_cons (I_fValid (i := 2) (l := .b true) rfl (lb gc.y) (hq.y.mono (by decide))) (il_cons (I_fValid (i := 3) (l := .b true) rfl (lb gc.z) (hq.z.mono (by decide))) (il_cons (I_fSign (i := 0) rfl (li (sgn0 c0)) (hq.w.mono (by decide))) (il_cons (I_fSign (i := 1) rfl (lr (n := 15) rfl) (hq.x.mono (by decide))) (il_cons (I_fInt (k := 4) rfl (by decide) (by decide)) (il_cons (I_fCmp (i := 1) (j := 4) rfl rfl (lr (n := 16) rfl) (hq.x.mono (by decide)) ((ok_int (u := 1) (by decide) (by decide)).mono (by decide))) il_nil)))))))))
        (ol_cons (o_neq (n := 15) (c := 0) (t := 3) rfl (sgn_nq c1)) (ol_cons (o_eql (n := 16) (c := 0) (t := 3) rfl (ne_eql (mt (o_zero gc.x (ofInt_valid 1)).1 (fun h => hf (e1.trans h))))) (ol_nil))) (by kernel_rfl) Tryz.func41 (by kernel_rfl) ⟨(row_isL (xs := xfValidT03X q) (ks := [0, 1, 2, 3]) (vs := [q.w, q.x, q.y, q.z]) ⟨rfl, rfl, rfl, rfl, trivial⟩).2 iq, trivial⟩).mono ?_
      rintro e w' ⟨v, rfl, h1, h2⟩
      exact ⟨congrArg Ending.returned h1, h2⟩
  · have e1 : q.first = q.w := by simp [Qq.first, c0]
    refine (calls_runFn (ρ := frs (xfValidT04X q) ++ [.val (.int .i64 q.w.sgn), .val (.int .i64 (q.w.cmp (Fq.ofInt 1)))]) (w := w) (fuel := 300) (args := [row [0, 1, 2, 3]]) (vs := [vq]) (r := .v (.one (.b false)))
      (il_cons (I_parts (kq := [0, 1, 2, 3]) (q := q) (kr := [0, 1, 2, 3]) ⟨rfl, rfl, rfl, rfl, trivial⟩ ⟨rfl, rfl, rfl, rfl, trivial⟩ (hq.mono (by decide))) (il_cons (I_fValid (i := 0) (l := .b true) rfl (lb gc.w) (hq.w.mono (by decide))) (il_cons (I_fValid (i := 1) (l := .b true) rfl (lb gc.x) (hq.x.mono (by decide))) (il_cons (I_fValid (i := 2) (l := .b true) rfl (lb gc.y) (hq.y.mono (by decide))) (il_cons (I_fValid (i := 3) (l := .b true) rfl (lb gc.z) (hq.z.mono (by decide))) (il_cons (I_fSign (i := 0) rfl (lr (n := 15) rfl) (hq.w.mono (by decide))) (il_cons (I_fInt (k := 4) rfl (by decide) (by decide)) (il_cons (I_fCmp (i := 0) (j := 4) rfl rfl (lr (n := 16) rfl) (hq.w.mono (by decide)) ((ok_int (u := 1) (by decide) (by decide)).mono (by decide))) il_nil))))))))
      (ol_cons (o_neq (n := 15) (c := 0) (t := 3) rfl (sgn_nq c0)) (ol_cons (o_eql (n := 16) (c := 0) (t := 3) rfl (ne_eql (mt (o_zero gc.w (ofInt_valid 1)).1 (fun h => hf (e1.trans h))))) (ol_nil))) (by kernel_rfl) Tryz.func41 (by kernel_rfl) ⟨(row_isL (xs := xfValidT04X q) (ks := [0, 1, 2, 3]) (vs := [q.w, q.x, q.y, q.z]) ⟨rfl, rfl, rfl, rfl, trivial⟩).2 iq, trivial⟩).mono ?_
    rintro e w' ⟨v, rfl, h1, h2⟩
    exact ⟨congrArg Ending.returned h1, h2⟩
theorem I_fValidT0 {xs : List Fq} {ys : Rho} {kq : List Nat} {q : Qq}  (aq : AtL xs kq [q.w, q.x, q.y, q.z])  (hq : q.ok 1000000) (gc : q.comp) (hf : q.first ≠ (Fq.ofInt 1)) : OkI xs ys ⟨41, [row kq], .v (.one (.b false))⟩ :=
  ⟨enters Tryz.func41 rfl rfl, fun B w vs hB h => by
    match vs, h with
    | [vq], h =>
      refine (q_fValidT0 vq q w ((row_isL aq).1 h.1) hq gc hf).mono ?_
      rintro e w' ⟨rfl, h2⟩
      exact ⟨_, rfl, rfl, h2⟩⟩
def xrValidT1X (q : Qq) : List Fq := [q.w, q.x, q.y, q.z, q.first, (Fq.ofInt 1)]
theorem q_rValidT1 (vq : Value) (q : Qq) (w : World) (iq : IsQt w vq q) (hq : q.ok 1000000) (gq : q.good) :
    Calls Tryz.prog 43 #[vq] w fun e w' => RetV w (.bool true) e w' := by
  refine (calls_runFn (ρ := frs (xrValidT1X q) ++ []) (w := w) (fuel := 300) (args := [row [0, 1, 2, 3]]) (vs := [vq]) (r := .v (.one (.b true)))
    (il_cons (I_rValid (i := 0) (l := .b true) rfl (lb gq.comp.w) (hq.w.mono (by decide))) (il_cons (I_rValid (i := 1) (l := .b true) rfl (lb gq.comp.x) (hq.x.mono (by decide))) (il_cons (I_rValid (i := 2) (l := .b true) rfl (lb gq.comp.y) (hq.y.mono (by decide))) (il_cons (I_rValid (i := 3) (l := .b true) rfl (lb gq.comp.z) (hq.z.mono (by decide))) (il_cons (I_rFirst (kq := [0, 1, 2, 3]) (q := q) (ir := 4) ⟨rfl, rfl, rfl, rfl, trivial⟩ rfl (hq.mono (by decide))) (il_cons (I_rInt (k := 5) rfl (by decide) (by decide)) (il_cons (I_rSame (i := 4) (j := 5) (l := .b true) rfl rfl (lb (Fq.same_iff.2 (good_first gq))) (hq.first.mono (by decide)).p (hq.first.mono (by decide)).q ((ok_int (u := 1) (by decide) (by decide)).mono (by decide)).p ((ok_int (u := 1) (by decide) (by decide)).mono (by decide)).q) il_nil)))))))
    ol_nil (by kernel_rfl) Tryz.func43 (by kernel_rfl) ⟨(row_isL (xs := xrValidT1X q) (ks := [0, 1, 2, 3]) (vs := [q.w, q.x, q.y, q.z]) ⟨rfl, rfl, rfl, rfl, trivial⟩).2 iq, trivial⟩).mono ?_
  rintro e w' ⟨v, rfl, h1, h2⟩
  exact ⟨congrArg Ending.returned h1, h2⟩
def xrValidT0X (q : Qq) : List Fq := [q.w, q.x, q.y, q.z, q.first, (Fq.ofInt 1)]
theorem q_rValidT0 (vq : Value) (q : Qq) (w : World) (iq : IsQt w vq q) (hq : q.ok 1000000) (gc : q.comp) (hf : q.first ≠ (Fq.ofInt 1)) :
    Calls Tryz.prog 43 #[vq] w fun e w' => RetV w (.bool false) e w' := by
  refine (calls_runFn (ρ := frs (xrValidT0X q) ++ []) (w := w) (fuel := 300) (args := [row [0, 1, 2, 3]]) (vs := [vq]) (r := .v (.one (.b false)))
    (il_cons (I_rValid (i := 0) (l := .b true) rfl (lb gc.w) (hq.w.mono (by decide))) (il_cons (I_rValid (i := 1) (l := .b true) rfl (lb gc.x) (hq.x.mono (by decide))) (il_cons (I_rValid (i := 2) (l := .b true) rfl (lb gc.y) (hq.y.mono (by decide))) (il_cons (I_rValid (i := 3) (l := .b true) rfl (lb gc.z) (hq.z.mono (by decide))) (il_cons (I_rFirst (kq := [0, 1, 2, 3]) (q := q) (ir := 4) ⟨rfl, rfl, rfl, rfl, trivial⟩ rfl (hq.mono (by decide))) (il_cons (I_rInt (k := 5) rfl (by decide) (by decide)) (il_cons (I_rSame (i := 4) (j := 5) (l := .b false) rfl rfl (lb (same_ne hf)) (hq.first.mono (by decide)).p (hq.first.mono (by decide)).q ((ok_int (u := 1) (by decide) (by decide)).mono (by decide)).p ((ok_int (u := 1) (by decide) (by decide)).mono (by decide)).q) il_nil)))))))
    ol_nil (by kernel_rfl) Tryz.func43 (by kernel_rfl) ⟨(row_isL (xs := xrValidT0X q) (ks := [0, 1, 2, 3]) (vs := [q.w, q.x, q.y, q.z]) ⟨rfl, rfl, rfl, rfl, trivial⟩).2 iq, trivial⟩).mono ?_
  rintro e w' ⟨v, rfl, h1, h2⟩
  exact ⟨congrArg Ending.returned h1, h2⟩
end Go.Proofs.YthebfmlfgfmlnaaGreatDoor
