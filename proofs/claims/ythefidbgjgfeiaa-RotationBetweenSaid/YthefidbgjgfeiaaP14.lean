/- Vectors, by the executor. Rotations, by the executor. -/
import Derived.Test.YthefidbgjgfeiaaP13
namespace Go.Proofs.Ythefidbgjgfeiaa
set_option linter.unusedSimpArgs false
set_option linter.unusedVariables false
set_option maxRecDepth 100000
open Go.RowKit
abbrev IsVq (w : World) (v : Value) (a : Vq) : Prop := IsL w v [a.x.raw, a.y.raw, a.z.raw]
abbrev RetL (W : World) (l : List Rq) (e : Ending) (w' : World) : Prop := ∃ v, e = .returned v ∧ IsL w' v l ∧ Below W.heap.size W w'
abbrev RetVq (W : World) (a : Vq) (e : Ending) (w' : World) : Prop := RetL W [a.x.raw, a.y.raw, a.z.raw] e w'
abbrev IsQt (w : World) (v : Value) (q : Qq) : Prop := IsL w v [q.w.raw, q.x.raw, q.y.raw, q.z.raw]
abbrev RetQt (W : World) (q : Qq) (e : Ending) (w' : World) : Prop := RetL W [q.w.raw, q.x.raw, q.y.raw, q.z.raw] e w'
def RetLE (W : World) (l : List Rq) (c : Int) (e : Ending) (w' : World) : Prop := ∃ v, e = .returned (.tuple #[v, .int .i64 c]) ∧ IsL w' v l ∧ Below W.heap.size W w'
abbrev RetQtE (W : World) (q : Qq) (c : Int) (e : Ending) (w' : World) : Prop := RetLE W [q.w.raw, q.x.raw, q.y.raw, q.z.raw] c e w'
theorem ok_int {u : Int} (lu : -9223372036854775808 ≤ u) (ru : u < 9223372036854775808) : (Fq.ofInt u).ok 2 := ⟨nl_abs lu ru, nl_le_iff.2 (by show (1 : Nat) < 4294967296 ^ 2; decide), by show (1 : Nat) ≠ 0; decide⟩
def xtimesX (x y : Fq) : List Fq := [x, y, (x.mul y)]
theorem q_times (vp : Value) (x y : Fq) (w : World) (ip : IsL w vp [x.raw, y.raw]) (hx : x.ok 1000000000) (hy : y.ok 1000000000) :
    Calls Try.prog 87 #[vp] w fun e w' => RetQ w (x.mul y) e w' := by
  refine (calls_runFn (ρ := frs (xtimesX x y) ++ []) (w := w) (fuel := 300) (args := [row [0, 1]]) (vs := [vp]) (r := .v (fr 2))
    (il_cons (I_fMul (i := 0) (j := 1) (k := 2) rfl rfl rfl (hx.mono (by decide)) (hy.mono (by decide))) il_nil)
    ol_nil (by kernel_rfl) Try.func87 (by kernel_rfl) ⟨(row_isL (xs := xtimesX x y) (ks := [0, 1]) (vs := [x, y]) ⟨rfl, rfl, trivial⟩).2 ip, trivial⟩).mono ?_
  rintro e w' ⟨v, rfl, h1, h2⟩
  exact ⟨v, rfl, (fr_isQ (xs := xtimesX x y) (k := 2) rfl).1 h1, h2⟩
theorem I_times {xs : List Fq} {ys : Rho} {ks : List Nat} {k : Nat} {x y : Fq} (hi : AtL xs ks [x, y]) (hk : xs[k]? = some (x.mul y)) (hx : x.ok 1000000000) (hy : y.ok 1000000000) : OkI xs ys ⟨87, [row ks], .v (fr k)⟩ :=
  ⟨enters Try.func87 rfl rfl, fun B w vs h => by
    match vs, h with
    | [va], h =>
      refine (q_times va x y w ((row_isL hi).1 h.1) hx hy).mono ?_
      rintro e w' ⟨v, rfl, h1, h2⟩
      exact ⟨v, rfl, (fr_isQ hk).2 h1, h2⟩⟩
def xlessX (x y : Fq) : List Fq := [x, y, (x.sub y)]
theorem q_less (vp : Value) (x y : Fq) (w : World) (ip : IsL w vp [x.raw, y.raw]) (hx : x.ok 1000000000) (hy : y.ok 1000000000) :
    Calls Try.prog 90 #[vp] w fun e w' => RetQ w (x.sub y) e w' := by
  refine (calls_runFn (ρ := frs (xlessX x y) ++ []) (w := w) (fuel := 300) (args := [row [0, 1]]) (vs := [vp]) (r := .v (fr 2))
    (il_cons (I_fSub (i := 0) (j := 1) (k := 2) rfl rfl rfl (hx.mono (by decide)) (hy.mono (by decide))) il_nil)
    ol_nil (by kernel_rfl) Try.func90 (by kernel_rfl) ⟨(row_isL (xs := xlessX x y) (ks := [0, 1]) (vs := [x, y]) ⟨rfl, rfl, trivial⟩).2 ip, trivial⟩).mono ?_
  rintro e w' ⟨v, rfl, h1, h2⟩
  exact ⟨v, rfl, (fr_isQ (xs := xlessX x y) (k := 2) rfl).1 h1, h2⟩
theorem I_less {xs : List Fq} {ys : Rho} {ks : List Nat} {k : Nat} {x y : Fq} (hi : AtL xs ks [x, y]) (hk : xs[k]? = some (x.sub y)) (hx : x.ok 1000000000) (hy : y.ok 1000000000) : OkI xs ys ⟨90, [row ks], .v (fr k)⟩ :=
  ⟨enters Try.func90 rfl rfl, fun B w vs h => by
    match vs, h with
    | [va], h =>
      refine (q_less va x y w ((row_isL hi).1 h.1) hx hy).mono ?_
      rintro e w' ⟨v, rfl, h1, h2⟩
      exact ⟨v, rfl, (fr_isQ hk).2 h1, h2⟩⟩
def xeachAddX (a : Vq) (b : Vq) : List Fq := [a.x, a.y, a.z, b.x, b.y, b.z, (a.x.add b.x), (a.y.add b.y), (a.z.add b.z)]
theorem q_eachAdd (va vb : Value) (a : Vq) (b : Vq) (w : World) (ia : IsVq w va a) (ib : IsVq w vb b) (ha : a.ok 100000000) (hb : b.ok 100000000) :
    Calls Try.prog 91 #[va, vb, fnV 47] w fun e w' => RetVq w (a.add b) e w' := by
  refine (calls_runFn (ρ := frs (xeachAddX a b) ++ []) (w := w) (fuel := 300) (args := [row [0, 1, 2], row [3, 4, 5], .one (.fn 47)]) (vs := [va, vb, fnV 47]) (r := .v (row [6, 7, 8]))
    (il_cons (I_fAdd (i := 0) (j := 3) (k := 6) rfl rfl rfl (ha.x.mono (by decide)) (hb.x.mono (by decide))) (il_cons (I_fAdd (i := 1) (j := 4) (k := 7) rfl rfl rfl (ha.y.mono (by decide)) (hb.y.mono (by decide))) (il_cons (I_fAdd (i := 2) (j := 5) (k := 8) rfl rfl rfl (ha.z.mono (by decide)) (hb.z.mono (by decide))) il_nil)))
    ol_nil (by kernel_rfl) Try.func91 (by kernel_rfl) ⟨(row_isL (xs := xeachAddX a b) (ks := [0, 1, 2]) (vs := [a.x, a.y, a.z]) ⟨rfl, rfl, rfl, trivial⟩).2 ia, ⟨(row_isL (xs := xeachAddX a b) (ks := [3, 4, 5]) (vs := [b.x, b.y, b.z]) ⟨rfl, rfl, rfl, trivial⟩).2 ib, ⟨rfl, trivial⟩⟩⟩).mono ?_
  rintro e w' ⟨v, rfl, h1, h2⟩
  exact ⟨v, rfl, (row_isL (xs := xeachAddX a b) (ks := [6, 7, 8]) (vs := [(a.x.add b.x), (a.y.add b.y), (a.z.add b.z)]) ⟨rfl, rfl, rfl, trivial⟩).1 h1, h2⟩
theorem I_eachAdd {xs : List Fq} {ys : Rho} {ka : List Nat} {kb : List Nat} {a : Vq} {b : Vq} {kr : List Nat} (aa : AtL xs ka [a.x, a.y, a.z]) (ab : AtL xs kb [b.x, b.y, b.z]) (ar : AtL xs kr [(a.add b).x, (a.add b).y, (a.add b).z]) (ha : a.ok 100000000) (hb : b.ok 100000000) : OkI xs ys ⟨91, [row ka, row kb, .one (.fn 47)], .v (row kr)⟩ :=
  ⟨enters Try.func91 rfl rfl, fun B w vs h => by
    match vs, h with
    | [va, vb, vf], h =>
      have ef : vf = fnV 47 := h.2.2.1
      subst ef
      refine (q_eachAdd va vb a b w ((row_isL aa).1 h.1) ((row_isL ab).1 h.2.1) ha hb).mono ?_
      rintro e w' ⟨v, rfl, h1, h2⟩
      exact ⟨v, rfl, (row_isL ar).2 h1, h2⟩⟩
/-- Products of the coordinates. -/
def Vq.times (a b : Vq) : Vq := ⟨a.x.mul b.x, a.y.mul b.y, a.z.mul b.z⟩
theorem Vq.ok.times {a b : Vq} {d e : Nat} (h : a.ok d) (k : b.ok e) : (a.times b).ok (d + e) := ⟨h.x.mul k.x, h.y.mul k.y, h.z.mul k.z⟩
def xeachMulX (a : Vq) (b : Vq) : List Fq := [a.x, a.y, a.z, b.x, b.y, b.z, (a.x.mul b.x), (a.y.mul b.y), (a.z.mul b.z)]
theorem q_eachMul (va vb : Value) (a : Vq) (b : Vq) (w : World) (ia : IsVq w va a) (ib : IsVq w vb b) (ha : a.ok 100000000) (hb : b.ok 100000000) :
    Calls Try.prog 91 #[va, vb, fnV 53] w fun e w' => RetVq w (a.times b) e w' := by
  refine (calls_runFn (ρ := frs (xeachMulX a b) ++ []) (w := w) (fuel := 300) (args := [row [0, 1, 2], row [3, 4, 5], .one (.fn 53)]) (vs := [va, vb, fnV 53]) (r := .v (row [6, 7, 8]))
    (il_cons (I_fMul (i := 0) (j := 3) (k := 6) rfl rfl rfl (ha.x.mono (by decide)) (hb.x.mono (by decide))) (il_cons (I_fMul (i := 1) (j := 4) (k := 7) rfl rfl rfl (ha.y.mono (by decide)) (hb.y.mono (by decide))) (il_cons (I_fMul (i := 2) (j := 5) (k := 8) rfl rfl rfl (ha.z.mono (by decide)) (hb.z.mono (by decide))) il_nil)))
    ol_nil (by kernel_rfl) Try.func91 (by kernel_rfl) ⟨(row_isL (xs := xeachMulX a b) (ks := [0, 1, 2]) (vs := [a.x, a.y, a.z]) ⟨rfl, rfl, rfl, trivial⟩).2 ia, ⟨(row_isL (xs := xeachMulX a b) (ks := [3, 4, 5]) (vs := [b.x, b.y, b.z]) ⟨rfl, rfl, rfl, trivial⟩).2 ib, ⟨rfl, trivial⟩⟩⟩).mono ?_
  rintro e w' ⟨v, rfl, h1, h2⟩
  exact ⟨v, rfl, (row_isL (xs := xeachMulX a b) (ks := [6, 7, 8]) (vs := [(a.x.mul b.x), (a.y.mul b.y), (a.z.mul b.z)]) ⟨rfl, rfl, rfl, trivial⟩).1 h1, h2⟩
theorem I_eachMul {xs : List Fq} {ys : Rho} {ka : List Nat} {kb : List Nat} {a : Vq} {b : Vq} {kr : List Nat} (aa : AtL xs ka [a.x, a.y, a.z]) (ab : AtL xs kb [b.x, b.y, b.z]) (ar : AtL xs kr [(a.times b).x, (a.times b).y, (a.times b).z]) (ha : a.ok 100000000) (hb : b.ok 100000000) : OkI xs ys ⟨91, [row ka, row kb, .one (.fn 53)], .v (row kr)⟩ :=
  ⟨enters Try.func91 rfl rfl, fun B w vs h => by
    match vs, h with
    | [va, vb, vf], h =>
      have ef : vf = fnV 53 := h.2.2.1
      subst ef
      refine (q_eachMul va vb a b w ((row_isL aa).1 h.1) ((row_isL ab).1 h.2.1) ha hb).mono ?_
      rintro e w' ⟨v, rfl, h1, h2⟩
      exact ⟨v, rfl, (row_isL ar).2 h1, h2⟩⟩
def xvAddX (a : Vq) (b : Vq) : List Fq := [a.x, a.y, a.z, b.x, b.y, b.z, (a.add b).x, (a.add b).y, (a.add b).z]
theorem q_vAdd (va vb : Value) (a : Vq) (b : Vq) (w : World) (ia : IsVq w va a) (ib : IsVq w vb b) (ha : a.ok 100000000) (hb : b.ok 100000000) :
    Calls Try.prog 56 #[va, vb] w fun e w' => RetVq w (a.add b) e w' := by
  refine (calls_runFn (ρ := frs (xvAddX a b) ++ []) (w := w) (fuel := 300) (args := [row [0, 1, 2], row [3, 4, 5]]) (vs := [va, vb]) (r := .v (row [6, 7, 8]))
    (il_cons (I_eachAdd (ka := [0, 1, 2]) (a := a) (kb := [3, 4, 5]) (b := b) (kr := [6, 7, 8]) ⟨rfl, rfl, rfl, trivial⟩ ⟨rfl, rfl, rfl, trivial⟩ ⟨rfl, rfl, rfl, trivial⟩ (ha.mono (by decide)) (hb.mono (by decide))) il_nil)
    ol_nil (by kernel_rfl) Try.func56 (by kernel_rfl) ⟨(row_isL (xs := xvAddX a b) (ks := [0, 1, 2]) (vs := [a.x, a.y, a.z]) ⟨rfl, rfl, rfl, trivial⟩).2 ia, ⟨(row_isL (xs := xvAddX a b) (ks := [3, 4, 5]) (vs := [b.x, b.y, b.z]) ⟨rfl, rfl, rfl, trivial⟩).2 ib, trivial⟩⟩).mono ?_
  rintro e w' ⟨v, rfl, h1, h2⟩
  exact ⟨v, rfl, (row_isL (xs := xvAddX a b) (ks := [6, 7, 8]) (vs := [(a.add b).x, (a.add b).y, (a.add b).z]) ⟨rfl, rfl, rfl, trivial⟩).1 h1, h2⟩
theorem I_vAdd {xs : List Fq} {ys : Rho} {ka : List Nat} {kb : List Nat} {a : Vq} {b : Vq} {kr : List Nat} (aa : AtL xs ka [a.x, a.y, a.z]) (ab : AtL xs kb [b.x, b.y, b.z]) (ar : AtL xs kr [(a.add b).x, (a.add b).y, (a.add b).z]) (ha : a.ok 100000000) (hb : b.ok 100000000) : OkI xs ys ⟨56, [row ka, row kb], .v (row kr)⟩ :=
  ⟨enters Try.func56 rfl rfl, fun B w vs h => by
    match vs, h with
    | [va, vb], h =>
      refine (q_vAdd va vb a b w ((row_isL aa).1 h.1) ((row_isL ab).1 h.2.1) ha hb).mono ?_
      rintro e w' ⟨v, rfl, h1, h2⟩
      exact ⟨v, rfl, (row_isL ar).2 h1, h2⟩⟩
def xvScaleX (a : Vq) (k : Fq) : List Fq := [a.x, a.y, a.z, k, (a.times (Vq.mk k k k)).x, (a.times (Vq.mk k k k)).y, (a.times (Vq.mk k k k)).z]
theorem q_vScale (va vk : Value) (a : Vq) (k : Fq) (w : World) (ia : IsVq w va a) (ik : IsQ w vk k) (ha : a.ok 100000000) (hk : k.ok 100000000) :
    Calls Try.prog 54 #[va, vk] w fun e w' => RetVq w (a.scale k) e w' := by
  refine (calls_runFn (ρ := frs (xvScaleX a k) ++ []) (w := w) (fuel := 300) (args := [row [0, 1, 2], fr 3]) (vs := [va, vk]) (r := .v (row [4, 5, 6]))
    (il_cons (I_eachMul (ka := [0, 1, 2]) (a := a) (kb := [3, 3, 3]) (b := (Vq.mk k k k)) (kr := [4, 5, 6]) ⟨rfl, rfl, rfl, trivial⟩ ⟨rfl, rfl, rfl, trivial⟩ ⟨rfl, rfl, rfl, trivial⟩ (ha.mono (by decide)) (⟨hk.mono (by decide), hk.mono (by decide), hk.mono (by decide)⟩ : Vq.ok 100000000 (Vq.mk k k k))) il_nil)
    ol_nil (by kernel_rfl) Try.func54 (by kernel_rfl) ⟨(row_isL (xs := xvScaleX a k) (ks := [0, 1, 2]) (vs := [a.x, a.y, a.z]) ⟨rfl, rfl, rfl, trivial⟩).2 ia, ⟨(fr_isQ (xs := xvScaleX a k) (k := 3) rfl).2 ik, trivial⟩⟩).mono ?_
  rintro e w' ⟨v, rfl, h1, h2⟩
  exact ⟨v, rfl, (row_isL (xs := xvScaleX a k) (ks := [4, 5, 6]) (vs := [(a.times (Vq.mk k k k)).x, (a.times (Vq.mk k k k)).y, (a.times (Vq.mk k k k)).z]) ⟨rfl, rfl, rfl, trivial⟩).1 h1, h2⟩
theorem I_vScale {xs : List Fq} {ys : Rho} {ka : List Nat} {ik : Nat} {a : Vq} {k : Fq} {kr : List Nat} (aa : AtL xs ka [a.x, a.y, a.z]) (ak : xs[ik]? = some k) (ar : AtL xs kr [(a.scale k).x, (a.scale k).y, (a.scale k).z]) (ha : a.ok 100000000) (hk : k.ok 100000000) : OkI xs ys ⟨54, [row ka, fr ik], .v (row kr)⟩ :=
  ⟨enters Try.func54 rfl rfl, fun B w vs h => by
    match vs, h with
    | [va, vk], h =>
      refine (q_vScale va vk a k w ((row_isL aa).1 h.1) ((fr_isQ ak).1 h.2.1) ha hk).mono ?_
      rintro e w' ⟨v, rfl, h1, h2⟩
      exact ⟨v, rfl, (row_isL ar).2 h1, h2⟩⟩
def xvDotX (a : Vq) (b : Vq) : List Fq := [a.x, a.y, a.z, b.x, b.y, b.z, (a.x.mul b.x), (a.y.mul b.y), (a.z.mul b.z), ((a.y.mul b.y).add (a.z.mul b.z)), ((a.x.mul b.x).add ((a.y.mul b.y).add (a.z.mul b.z)))]
theorem q_vDot (va vb : Value) (a : Vq) (b : Vq) (w : World) (ia : IsVq w va a) (ib : IsVq w vb b) (ha : a.ok 100000000) (hb : b.ok 100000000) :
    Calls Try.prog 46 #[va, vb] w fun e w' => RetQ w (a.dot b) e w' := by
  refine (calls_runFn (ρ := frs (xvDotX a b) ++ []) (w := w) (fuel := 300) (args := [row [0, 1, 2], row [3, 4, 5]]) (vs := [va, vb]) (r := .v (fr 10))
    (il_cons (I_times (ks := [0, 3]) (k := 6) ⟨rfl, rfl, trivial⟩ rfl (ha.x.mono (by decide)) (hb.x.mono (by decide))) (il_cons (I_times (ks := [1, 4]) (k := 7) ⟨rfl, rfl, trivial⟩ rfl (ha.y.mono (by decide)) (hb.y.mono (by decide))) (il_cons (I_times (ks := [2, 5]) (k := 8) ⟨rfl, rfl, trivial⟩ rfl (ha.z.mono (by decide)) (hb.z.mono (by decide))) (il_cons (I_fAdd (i := 7) (j := 8) (k := 9) rfl rfl rfl ((ha.y.mul hb.y).mono (by decide)) ((ha.z.mul hb.z).mono (by decide))) (il_cons (I_fAdd (i := 6) (j := 9) (k := 10) rfl rfl rfl ((ha.x.mul hb.x).mono (by decide)) (((ha.y.mul hb.y).add (ha.z.mul hb.z)).mono (by decide))) il_nil)))))
    ol_nil (by kernel_rfl) Try.func46 (by kernel_rfl) ⟨(row_isL (xs := xvDotX a b) (ks := [0, 1, 2]) (vs := [a.x, a.y, a.z]) ⟨rfl, rfl, rfl, trivial⟩).2 ia, ⟨(row_isL (xs := xvDotX a b) (ks := [3, 4, 5]) (vs := [b.x, b.y, b.z]) ⟨rfl, rfl, rfl, trivial⟩).2 ib, trivial⟩⟩).mono ?_
  rintro e w' ⟨v, rfl, h1, h2⟩
  exact ⟨v, rfl, (fr_isQ (xs := xvDotX a b) (k := 10) rfl).1 h1, h2⟩
theorem I_vDot {xs : List Fq} {ys : Rho} {ka : List Nat} {kb : List Nat} {a : Vq} {b : Vq} {ir : Nat} (aa : AtL xs ka [a.x, a.y, a.z]) (ab : AtL xs kb [b.x, b.y, b.z]) (ar : xs[ir]? = some (a.dot b)) (ha : a.ok 100000000) (hb : b.ok 100000000) : OkI xs ys ⟨46, [row ka, row kb], .v (fr ir)⟩ :=
  ⟨enters Try.func46 rfl rfl, fun B w vs h => by
    match vs, h with
    | [va, vb], h =>
      refine (q_vDot va vb a b w ((row_isL aa).1 h.1) ((row_isL ab).1 h.2.1) ha hb).mono ?_
      rintro e w' ⟨v, rfl, h1, h2⟩
      exact ⟨v, rfl, (fr_isQ ar).2 h1, h2⟩⟩
def xvCrossX (a : Vq) (b : Vq) : List Fq := [a.x, a.y, a.z, b.x, b.y, b.z, (a.y.mul b.z), (a.z.mul b.y), ((a.y.mul b.z).sub (a.z.mul b.y)), (a.z.mul b.x), (a.x.mul b.z), ((a.z.mul b.x).sub (a.x.mul b.z)), (a.x.mul b.y), (a.y.mul b.x), ((a.x.mul b.y).sub (a.y.mul b.x))]
theorem q_vCross (va vb : Value) (a : Vq) (b : Vq) (w : World) (ia : IsVq w va a) (ib : IsVq w vb b) (ha : a.ok 100000000) (hb : b.ok 100000000) :
    Calls Try.prog 49 #[va, vb] w fun e w' => RetVq w (a.cross b) e w' := by
  refine (calls_runFn (ρ := frs (xvCrossX a b) ++ []) (w := w) (fuel := 300) (args := [row [0, 1, 2], row [3, 4, 5]]) (vs := [va, vb]) (r := .v (row [8, 11, 14]))
    (il_cons (I_times (ks := [1, 5]) (k := 6) ⟨rfl, rfl, trivial⟩ rfl (ha.y.mono (by decide)) (hb.z.mono (by decide))) (il_cons (I_times (ks := [2, 4]) (k := 7) ⟨rfl, rfl, trivial⟩ rfl (ha.z.mono (by decide)) (hb.y.mono (by decide))) (il_cons (I_less (ks := [6, 7]) (k := 8) ⟨rfl, rfl, trivial⟩ rfl ((ha.y.mul hb.z).mono (by decide)) ((ha.z.mul hb.y).mono (by decide))) (il_cons (I_times (ks := [2, 3]) (k := 9) ⟨rfl, rfl, trivial⟩ rfl (ha.z.mono (by decide)) (hb.x.mono (by decide))) (il_cons (I_times (ks := [0, 5]) (k := 10) ⟨rfl, rfl, trivial⟩ rfl (ha.x.mono (by decide)) (hb.z.mono (by decide))) (il_cons (I_less (ks := [9, 10]) (k := 11) ⟨rfl, rfl, trivial⟩ rfl ((ha.z.mul hb.x).mono (by decide)) ((ha.x.mul hb.z).mono (by decide))) (il_cons (I_times (ks := [0, 4]) (k := 12) ⟨rfl, rfl, trivial⟩ rfl (ha.x.mono (by decide)) (hb.y.mono (by decide))) (il_cons (I_times (ks := [1, 3]) (k := 13) ⟨rfl, rfl, trivial⟩ rfl (ha.y.mono (by decide)) (hb.x.mono (by decide))) (il_cons (I_less (ks := [12, 13]) (k := 14) ⟨rfl, rfl, trivial⟩ rfl ((ha.x.mul hb.y).mono (by decide)) ((ha.y.mul hb.x).mono (by decide))) il_nil)))))))))
    ol_nil (by kernel_rfl) Try.func49 (by kernel_rfl) ⟨(row_isL (xs := xvCrossX a b) (ks := [0, 1, 2]) (vs := [a.x, a.y, a.z]) ⟨rfl, rfl, rfl, trivial⟩).2 ia, ⟨(row_isL (xs := xvCrossX a b) (ks := [3, 4, 5]) (vs := [b.x, b.y, b.z]) ⟨rfl, rfl, rfl, trivial⟩).2 ib, trivial⟩⟩).mono ?_
  rintro e w' ⟨v, rfl, h1, h2⟩
  exact ⟨v, rfl, (row_isL (xs := xvCrossX a b) (ks := [8, 11, 14]) (vs := [((a.y.mul b.z).sub (a.z.mul b.y)), ((a.z.mul b.x).sub (a.x.mul b.z)), ((a.x.mul b.y).sub (a.y.mul b.x))]) ⟨rfl, rfl, rfl, trivial⟩).1 h1, h2⟩
theorem I_vCross {xs : List Fq} {ys : Rho} {ka : List Nat} {kb : List Nat} {a : Vq} {b : Vq} {kr : List Nat} (aa : AtL xs ka [a.x, a.y, a.z]) (ab : AtL xs kb [b.x, b.y, b.z]) (ar : AtL xs kr [(a.cross b).x, (a.cross b).y, (a.cross b).z]) (ha : a.ok 100000000) (hb : b.ok 100000000) : OkI xs ys ⟨49, [row ka, row kb], .v (row kr)⟩ :=
  ⟨enters Try.func49 rfl rfl, fun B w vs h => by
    match vs, h with
    | [va, vb], h =>
      refine (q_vCross va vb a b w ((row_isL aa).1 h.1) ((row_isL ab).1 h.2.1) ha hb).mono ?_
      rintro e w' ⟨v, rfl, h1, h2⟩
      exact ⟨v, rfl, (row_isL ar).2 h1, h2⟩⟩
end Go.Proofs.Ythefidbgjgfeiaa
namespace Go.Proofs.Ythefidbgjgfeiaa
set_option linter.unusedSimpArgs false
set_option linter.unusedVariables false
set_option maxRecDepth 100000
open Go.RowKit
/-- Agreement of all parts. -/
def Vq.same (a b : Vq) : Bool := a.x.same b.x && (a.y.same b.y && a.z.same b.z)
def Qq.same (p q : Qq) : Bool := p.w.same q.w && (p.x.same q.x && (p.y.same q.y && p.z.same q.z))
theorem Vq.same_iff {a b : Vq} : a.same b = true ↔ a = b := by
  obtain ⟨a1, a2, a3⟩ := a; obtain ⟨b1, b2, b3⟩ := b
  simp [Vq.same, Fq.same_iff]
theorem Qq.same_iff {a b : Qq} : a.same b = true ↔ a = b := by
  obtain ⟨a1, a2, a3, a4⟩ := a; obtain ⟨b1, b2, b3, b4⟩ := b
  simp [Qq.same, Fq.same_iff]
def xrDotX (a : Vq) (b : Vq) : List Fq := [a.x, a.y, a.z, b.x, b.y, b.z, (a.x.mul b.x), (a.y.mul b.y), (a.z.mul b.z), ((a.y.mul b.y).add (a.z.mul b.z)), ((a.x.mul b.x).add ((a.y.mul b.y).add (a.z.mul b.z)))]
theorem q_rDot (va vb : Value) (a : Vq) (b : Vq) (w : World) (ia : IsVq w va a) (ib : IsVq w vb b) (ha : a.ok 100000000) (hb : b.ok 100000000) :
    Calls Try.prog 25 #[va, vb] w fun e w' => RetQ w (a.dot b) e w' := by
  refine (calls_runFn (ρ := frs (xrDotX a b) ++ []) (w := w) (fuel := 300) (args := [row [0, 1, 2], row [3, 4, 5]]) (vs := [va, vb]) (r := .v (fr 10))
    (il_cons (I_rMul (i := 0) (j := 3) (k := 6) rfl rfl rfl (ha.x.mono (by decide)) (hb.x.mono (by decide))) (il_cons (I_rMul (i := 1) (j := 4) (k := 7) rfl rfl rfl (ha.y.mono (by decide)) (hb.y.mono (by decide))) (il_cons (I_rMul (i := 2) (j := 5) (k := 8) rfl rfl rfl (ha.z.mono (by decide)) (hb.z.mono (by decide))) (il_cons (I_rAdd (i := 7) (j := 8) (k := 9) rfl rfl rfl ((ha.y.mul hb.y).mono (by decide)) ((ha.z.mul hb.z).mono (by decide))) (il_cons (I_rAdd (i := 6) (j := 9) (k := 10) rfl rfl rfl ((ha.x.mul hb.x).mono (by decide)) (((ha.y.mul hb.y).add (ha.z.mul hb.z)).mono (by decide))) il_nil)))))
    ol_nil (by kernel_rfl) Try.func25 (by kernel_rfl) ⟨(row_isL (xs := xrDotX a b) (ks := [0, 1, 2]) (vs := [a.x, a.y, a.z]) ⟨rfl, rfl, rfl, trivial⟩).2 ia, ⟨(row_isL (xs := xrDotX a b) (ks := [3, 4, 5]) (vs := [b.x, b.y, b.z]) ⟨rfl, rfl, rfl, trivial⟩).2 ib, trivial⟩⟩).mono ?_
  rintro e w' ⟨v, rfl, h1, h2⟩
  exact ⟨v, rfl, (fr_isQ (xs := xrDotX a b) (k := 10) rfl).1 h1, h2⟩
theorem I_rDot {xs : List Fq} {ys : Rho} {ka : List Nat} {kb : List Nat} {a : Vq} {b : Vq} {ir : Nat} (aa : AtL xs ka [a.x, a.y, a.z]) (ab : AtL xs kb [b.x, b.y, b.z]) (ar : xs[ir]? = some (a.dot b)) (ha : a.ok 100000000) (hb : b.ok 100000000) : OkI xs ys ⟨25, [row ka, row kb], .v (fr ir)⟩ :=
  ⟨enters Try.func25 rfl rfl, fun B w vs h => by
    match vs, h with
    | [va, vb], h =>
      refine (q_rDot va vb a b w ((row_isL aa).1 h.1) ((row_isL ab).1 h.2.1) ha hb).mono ?_
      rintro e w' ⟨v, rfl, h1, h2⟩
      exact ⟨v, rfl, (fr_isQ ar).2 h1, h2⟩⟩
def xrCrossX (a : Vq) (b : Vq) : List Fq := [a.x, a.y, a.z, b.x, b.y, b.z, (a.y.mul b.z), (a.z.mul b.y), ((a.y.mul b.z).sub (a.z.mul b.y)), (a.z.mul b.x), (a.x.mul b.z), ((a.z.mul b.x).sub (a.x.mul b.z)), (a.x.mul b.y), (a.y.mul b.x), ((a.x.mul b.y).sub (a.y.mul b.x))]
theorem q_rCross (va vb : Value) (a : Vq) (b : Vq) (w : World) (ia : IsVq w va a) (ib : IsVq w vb b) (ha : a.ok 100000000) (hb : b.ok 100000000) :
    Calls Try.prog 51 #[va, vb] w fun e w' => RetVq w (a.cross b) e w' := by
  refine (calls_runFn (ρ := frs (xrCrossX a b) ++ []) (w := w) (fuel := 300) (args := [row [0, 1, 2], row [3, 4, 5]]) (vs := [va, vb]) (r := .v (row [8, 11, 14]))
    (il_cons (I_rMul (i := 1) (j := 5) (k := 6) rfl rfl rfl (ha.y.mono (by decide)) (hb.z.mono (by decide))) (il_cons (I_rMul (i := 2) (j := 4) (k := 7) rfl rfl rfl (ha.z.mono (by decide)) (hb.y.mono (by decide))) (il_cons (I_rSub (i := 6) (j := 7) (k := 8) rfl rfl rfl ((ha.y.mul hb.z).mono (by decide)) ((ha.z.mul hb.y).mono (by decide))) (il_cons (I_rMul (i := 2) (j := 3) (k := 9) rfl rfl rfl (ha.z.mono (by decide)) (hb.x.mono (by decide))) (il_cons (I_rMul (i := 0) (j := 5) (k := 10) rfl rfl rfl (ha.x.mono (by decide)) (hb.z.mono (by decide))) (il_cons (I_rSub (i := 9) (j := 10) (k := 11) rfl rfl rfl ((ha.z.mul hb.x).mono (by decide)) ((ha.x.mul hb.z).mono (by decide))) (il_cons (I_rMul (i := 0) (j := 4) (k := 12) rfl rfl rfl (ha.x.mono (by decide)) (hb.y.mono (by decide))) (il_cons (I_rMul (i := 1) (j := 3) (k := 13) rfl rfl rfl (ha.y.mono (by decide)) (hb.x.mono (by decide))) (il_cons (I_rSub (i := 12) (j := 13) (k := 14) rfl rfl rfl ((ha.x.mul hb.y).mono (by decide)) ((ha.y.mul hb.x).mono (by decide))) il_nil)))))))))
    ol_nil (by kernel_rfl) Try.func51 (by kernel_rfl) ⟨(row_isL (xs := xrCrossX a b) (ks := [0, 1, 2]) (vs := [a.x, a.y, a.z]) ⟨rfl, rfl, rfl, trivial⟩).2 ia, ⟨(row_isL (xs := xrCrossX a b) (ks := [3, 4, 5]) (vs := [b.x, b.y, b.z]) ⟨rfl, rfl, rfl, trivial⟩).2 ib, trivial⟩⟩).mono ?_
  rintro e w' ⟨v, rfl, h1, h2⟩
  exact ⟨v, rfl, (row_isL (xs := xrCrossX a b) (ks := [8, 11, 14]) (vs := [((a.y.mul b.z).sub (a.z.mul b.y)), ((a.z.mul b.x).sub (a.x.mul b.z)), ((a.x.mul b.y).sub (a.y.mul b.x))]) ⟨rfl, rfl, rfl, trivial⟩).1 h1, h2⟩
theorem I_rCross {xs : List Fq} {ys : Rho} {ka : List Nat} {kb : List Nat} {a : Vq} {b : Vq} {kr : List Nat} (aa : AtL xs ka [a.x, a.y, a.z]) (ab : AtL xs kb [b.x, b.y, b.z]) (ar : AtL xs kr [(a.cross b).x, (a.cross b).y, (a.cross b).z]) (ha : a.ok 100000000) (hb : b.ok 100000000) : OkI xs ys ⟨51, [row ka, row kb], .v (row kr)⟩ :=
  ⟨enters Try.func51 rfl rfl, fun B w vs h => by
    match vs, h with
    | [va, vb], h =>
      refine (q_rCross va vb a b w ((row_isL aa).1 h.1) ((row_isL ab).1 h.2.1) ha hb).mono ?_
      rintro e w' ⟨v, rfl, h1, h2⟩
      exact ⟨v, rfl, (row_isL ar).2 h1, h2⟩⟩
def xrScaleX (a : Vq) (k : Fq) : List Fq := [a.x, a.y, a.z, k, (a.x.mul k), (a.y.mul k), (a.z.mul k)]
theorem q_rScale (va vk : Value) (a : Vq) (k : Fq) (w : World) (ia : IsVq w va a) (ik : IsQ w vk k) (ha : a.ok 100000000) (hk : k.ok 100000000) :
    Calls Try.prog 59 #[va, vk] w fun e w' => RetVq w (a.scale k) e w' := by
  refine (calls_runFn (ρ := frs (xrScaleX a k) ++ []) (w := w) (fuel := 300) (args := [row [0, 1, 2], fr 3]) (vs := [va, vk]) (r := .v (row [4, 5, 6]))
    (il_cons (I_rMul (i := 0) (j := 3) (k := 4) rfl rfl rfl (ha.x.mono (by decide)) (hk.mono (by decide))) (il_cons (I_rMul (i := 1) (j := 3) (k := 5) rfl rfl rfl (ha.y.mono (by decide)) (hk.mono (by decide))) (il_cons (I_rMul (i := 2) (j := 3) (k := 6) rfl rfl rfl (ha.z.mono (by decide)) (hk.mono (by decide))) il_nil)))
    ol_nil (by kernel_rfl) Try.func59 (by kernel_rfl) ⟨(row_isL (xs := xrScaleX a k) (ks := [0, 1, 2]) (vs := [a.x, a.y, a.z]) ⟨rfl, rfl, rfl, trivial⟩).2 ia, ⟨(fr_isQ (xs := xrScaleX a k) (k := 3) rfl).2 ik, trivial⟩⟩).mono ?_
  rintro e w' ⟨v, rfl, h1, h2⟩
  exact ⟨v, rfl, (row_isL (xs := xrScaleX a k) (ks := [4, 5, 6]) (vs := [(a.x.mul k), (a.y.mul k), (a.z.mul k)]) ⟨rfl, rfl, rfl, trivial⟩).1 h1, h2⟩
theorem I_rScale {xs : List Fq} {ys : Rho} {ka : List Nat} {ik : Nat} {a : Vq} {k : Fq} {kr : List Nat} (aa : AtL xs ka [a.x, a.y, a.z]) (ak : xs[ik]? = some k) (ar : AtL xs kr [(a.scale k).x, (a.scale k).y, (a.scale k).z]) (ha : a.ok 100000000) (hk : k.ok 100000000) : OkI xs ys ⟨59, [row ka, fr ik], .v (row kr)⟩ :=
  ⟨enters Try.func59 rfl rfl, fun B w vs h => by
    match vs, h with
    | [va, vk], h =>
      refine (q_rScale va vk a k w ((row_isL aa).1 h.1) ((fr_isQ ak).1 h.2.1) ha hk).mono ?_
      rintro e w' ⟨v, rfl, h1, h2⟩
      exact ⟨v, rfl, (row_isL ar).2 h1, h2⟩⟩
def xrSumX (a : Vq) (b : Vq) : List Fq := [a.x, a.y, a.z, b.x, b.y, b.z, (a.x.add b.x), (a.y.add b.y), (a.z.add b.z)]
theorem q_rSum (va vb : Value) (a : Vq) (b : Vq) (w : World) (ia : IsVq w va a) (ib : IsVq w vb b) (ha : a.ok 100000000) (hb : b.ok 100000000) :
    Calls Try.prog 61 #[va, vb] w fun e w' => RetVq w (a.add b) e w' := by
  refine (calls_runFn (ρ := frs (xrSumX a b) ++ []) (w := w) (fuel := 300) (args := [row [0, 1, 2], row [3, 4, 5]]) (vs := [va, vb]) (r := .v (row [6, 7, 8]))
    (il_cons (I_rAdd (i := 0) (j := 3) (k := 6) rfl rfl rfl (ha.x.mono (by decide)) (hb.x.mono (by decide))) (il_cons (I_rAdd (i := 1) (j := 4) (k := 7) rfl rfl rfl (ha.y.mono (by decide)) (hb.y.mono (by decide))) (il_cons (I_rAdd (i := 2) (j := 5) (k := 8) rfl rfl rfl (ha.z.mono (by decide)) (hb.z.mono (by decide))) il_nil)))
    ol_nil (by kernel_rfl) Try.func61 (by kernel_rfl) ⟨(row_isL (xs := xrSumX a b) (ks := [0, 1, 2]) (vs := [a.x, a.y, a.z]) ⟨rfl, rfl, rfl, trivial⟩).2 ia, ⟨(row_isL (xs := xrSumX a b) (ks := [3, 4, 5]) (vs := [b.x, b.y, b.z]) ⟨rfl, rfl, rfl, trivial⟩).2 ib, trivial⟩⟩).mono ?_
  rintro e w' ⟨v, rfl, h1, h2⟩
  exact ⟨v, rfl, (row_isL (xs := xrSumX a b) (ks := [6, 7, 8]) (vs := [(a.x.add b.x), (a.y.add b.y), (a.z.add b.z)]) ⟨rfl, rfl, rfl, trivial⟩).1 h1, h2⟩
theorem I_rSum {xs : List Fq} {ys : Rho} {ka : List Nat} {kb : List Nat} {a : Vq} {b : Vq} {kr : List Nat} (aa : AtL xs ka [a.x, a.y, a.z]) (ab : AtL xs kb [b.x, b.y, b.z]) (ar : AtL xs kr [(a.add b).x, (a.add b).y, (a.add b).z]) (ha : a.ok 100000000) (hb : b.ok 100000000) : OkI xs ys ⟨61, [row ka, row kb], .v (row kr)⟩ :=
  ⟨enters Try.func61 rfl rfl, fun B w vs h => by
    match vs, h with
    | [va, vb], h =>
      refine (q_rSum va vb a b w ((row_isL aa).1 h.1) ((row_isL ab).1 h.2.1) ha hb).mono ?_
      rintro e w' ⟨v, rfl, h1, h2⟩
      exact ⟨v, rfl, (row_isL ar).2 h1, h2⟩⟩
theorem same_ne {x y : Fq} (h : x ≠ y) : x.same y = false := Bool.eq_false_iff.2 (mt Fq.same_iff.1 h)
def xSameVec1X (a : Vq) (b : Vq) : List Fq := [a.x, a.y, a.z, b.x, b.y, b.z]
theorem q_SameVec1 (va vb : Value) (a : Vq) (b : Vq) (w : World) (ia : IsVq w va a) (ib : IsVq w vb b) (ha : a.ok 1000000000) (hb : b.ok 1000000000) (e0 : a = b) :
    Calls Try.prog 21 #[va, vb] w fun e w' => RetV w (.bool true) e w' := by
  refine (calls_runFn (ρ := frs (xSameVec1X a b) ++ []) (w := w) (fuel := 300) (args := [row [0, 1, 2], row [3, 4, 5]]) (vs := [va, vb]) (r := .v (.one (.b true)))
    (il_cons (I_rSame (i := 0) (j := 3) (l := .b true) rfl rfl (lb (Fq.same_iff.2 (congrArg Vq.x e0))) (ha.x.mono (by decide)).p (ha.x.mono (by decide)).q (hb.x.mono (by decide)).p (hb.x.mono (by decide)).q) (il_cons (I_rSame (i := 1) (j := 4) (l := .b true) rfl rfl (lb (Fq.same_iff.2 (congrArg Vq.y e0))) (ha.y.mono (by decide)).p (ha.y.mono (by decide)).q (hb.y.mono (by decide)).p (hb.y.mono (by decide)).q) (il_cons (I_rSame (i := 2) (j := 5) (l := .b true) rfl rfl (lb (Fq.same_iff.2 (congrArg Vq.z e0))) (ha.z.mono (by decide)).p (ha.z.mono (by decide)).q (hb.z.mono (by decide)).p (hb.z.mono (by decide)).q) il_nil)))
    ol_nil (by kernel_rfl) Try.func21 (by kernel_rfl) ⟨(row_isL (xs := xSameVec1X a b) (ks := [0, 1, 2]) (vs := [a.x, a.y, a.z]) ⟨rfl, rfl, rfl, trivial⟩).2 ia, ⟨(row_isL (xs := xSameVec1X a b) (ks := [3, 4, 5]) (vs := [b.x, b.y, b.z]) ⟨rfl, rfl, rfl, trivial⟩).2 ib, trivial⟩⟩).mono ?_
  rintro e w' ⟨v, rfl, h1, h2⟩
  exact ⟨congrArg Ending.returned h1, h2⟩
theorem I_SameVec1 {xs : List Fq} {ys : Rho} {ka : List Nat} {kb : List Nat} {a : Vq} {b : Vq}  (aa : AtL xs ka [a.x, a.y, a.z]) (ab : AtL xs kb [b.x, b.y, b.z])  (ha : a.ok 1000000000) (hb : b.ok 1000000000) (e0 : a = b) : OkI xs ys ⟨21, [row ka, row kb], .v (.one (.b true))⟩ :=
  ⟨enters Try.func21 rfl rfl, fun B w vs h => by
    match vs, h with
    | [va, vb], h =>
      refine (q_SameVec1 va vb a b w ((row_isL aa).1 h.1) ((row_isL ab).1 h.2.1) ha hb e0).mono ?_
      rintro e w' ⟨rfl, h2⟩
      exact ⟨_, rfl, rfl, h2⟩⟩
def xrEqual1X (a : Qq) (b : Qq) : List Fq := [a.w, a.x, a.y, a.z, b.w, b.x, b.y, b.z]
theorem q_rEqual1 (va vb : Value) (a : Qq) (b : Qq) (w : World) (ia : IsQt w va a) (ib : IsQt w vb b) (ha : a.ok 1000000000) (hb : b.ok 1000000000) (e0 : a = b) :
    Calls Try.prog 13 #[va, vb] w fun e w' => RetV w (.bool true) e w' := by
  refine (calls_runFn (ρ := frs (xrEqual1X a b) ++ []) (w := w) (fuel := 300) (args := [row [0, 1, 2, 3], row [4, 5, 6, 7]]) (vs := [va, vb]) (r := .v (.one (.b true)))
    (il_cons (I_rSame (i := 0) (j := 4) (l := .b true) rfl rfl (lb (Fq.same_iff.2 (congrArg Qq.w e0))) (ha.w.mono (by decide)).p (ha.w.mono (by decide)).q (hb.w.mono (by decide)).p (hb.w.mono (by decide)).q) (il_cons (I_rSame (i := 1) (j := 5) (l := .b true) rfl rfl (lb (Fq.same_iff.2 (congrArg Qq.x e0))) (ha.x.mono (by decide)).p (ha.x.mono (by decide)).q (hb.x.mono (by decide)).p (hb.x.mono (by decide)).q) (il_cons (I_rSame (i := 2) (j := 6) (l := .b true) rfl rfl (lb (Fq.same_iff.2 (congrArg Qq.y e0))) (ha.y.mono (by decide)).p (ha.y.mono (by decide)).q (hb.y.mono (by decide)).p (hb.y.mono (by decide)).q) (il_cons (I_rSame (i := 3) (j := 7) (l := .b true) rfl rfl (lb (Fq.same_iff.2 (congrArg Qq.z e0))) (ha.z.mono (by decide)).p (ha.z.mono (by decide)).q (hb.z.mono (by decide)).p (hb.z.mono (by decide)).q) il_nil))))
    ol_nil (by kernel_rfl) Try.func13 (by kernel_rfl) ⟨(row_isL (xs := xrEqual1X a b) (ks := [0, 1, 2, 3]) (vs := [a.w, a.x, a.y, a.z]) ⟨rfl, rfl, rfl, rfl, trivial⟩).2 ia, ⟨(row_isL (xs := xrEqual1X a b) (ks := [4, 5, 6, 7]) (vs := [b.w, b.x, b.y, b.z]) ⟨rfl, rfl, rfl, rfl, trivial⟩).2 ib, trivial⟩⟩).mono ?_
  rintro e w' ⟨v, rfl, h1, h2⟩
  exact ⟨congrArg Ending.returned h1, h2⟩
theorem I_rEqual1 {xs : List Fq} {ys : Rho} {ka : List Nat} {kb : List Nat} {a : Qq} {b : Qq}  (aa : AtL xs ka [a.w, a.x, a.y, a.z]) (ab : AtL xs kb [b.w, b.x, b.y, b.z])  (ha : a.ok 1000000000) (hb : b.ok 1000000000) (e0 : a = b) : OkI xs ys ⟨13, [row ka, row kb], .v (.one (.b true))⟩ :=
  ⟨enters Try.func13 rfl rfl, fun B w vs h => by
    match vs, h with
    | [va, vb], h =>
      refine (q_rEqual1 va vb a b w ((row_isL aa).1 h.1) ((row_isL ab).1 h.2.1) ha hb e0).mono ?_
      rintro e w' ⟨rfl, h2⟩
      exact ⟨_, rfl, rfl, h2⟩⟩
def xrEqual0X (a : Qq) (b : Qq) : List Fq := [a.w, a.x, a.y, a.z, b.w, b.x, b.y, b.z]
def xrEqual01X (a : Qq) (b : Qq) : List Fq := [a.w, a.x, a.y, a.z, b.w, b.x, b.y, b.z]
def xrEqual02X (a : Qq) (b : Qq) : List Fq := [a.w, a.x, a.y, a.z, b.w, b.x, b.y, b.z]
def xrEqual03X (a : Qq) (b : Qq) : List Fq := [a.w, a.x, a.y, a.z, b.w, b.x, b.y, b.z]
theorem q_rEqual0 (va vb : Value) (a : Qq) (b : Qq) (w : World) (ia : IsQt w va a) (ib : IsQt w vb b) (ha : a.ok 1000000000) (hb : b.ok 1000000000) (e0 : a ≠ b) :
    Calls Try.prog 13 #[va, vb] w fun e w' => RetV w (.bool false) e w' := by
  by_cases c0 : a.w = b.w
  · by_cases c1 : a.x = b.x
    · by_cases c2 : a.y = b.y
      · by_cases c3 : a.z = b.z
        · exact absurd (by cases a; cases b; simp only at c0 c1 c2 c3; subst c0 c1 c2 c3; rfl) e0
        · refine (calls_runFn (ρ := frs (xrEqual0X a b) ++ []) (w := w) (fuel := 300) (args := [row [0, 1, 2, 3], row [4, 5, 6, 7]]) (vs := [va, vb]) (r := .v (.one (.b false)))
            (il_cons (I_rSame (i := 0) (j := 4) (l := .b true) rfl rfl (lb (Fq.same_iff.2 c0)) (ha.w.mono (by decide)).p (ha.w.mono (by decide)).q (hb.w.mono (by decide)).p (hb.w.mono (by decide)).q) (il_cons (I_rSame (i := 1) (j := 5) (l := .b true) rfl rfl (lb (Fq.same_iff.2 c1)) (ha.x.mono (by decide)).p (ha.x.mono (by decide)).q (hb.x.mono (by decide)).p (hb.x.mono (by decide)).q) (il_cons (I_rSame (i := 2) (j := 6) (l := .b true) rfl rfl (lb (Fq.same_iff.2 c2)) (ha.y.mono (by decide)).p (ha.y.mono (by decide)).q (hb.y.mono (by decide)).p (hb.y.mono (by decide)).q) (il_cons (I_rSame (i := 3) (j := 7) (l := .b false) rfl rfl (lb (same_ne c3)) (ha.z.mono (by decide)).p (ha.z.mono (by decide)).q (hb.z.mono (by decide)).p (hb.z.mono (by decide)).q) il_nil))))
            ol_nil (by kernel_rfl) Try.func13 (by kernel_rfl) ⟨(row_isL (xs := xrEqual0X a b) (ks := [0, 1, 2, 3]) (vs := [a.w, a.x, a.y, a.z]) ⟨rfl, rfl, rfl, rfl, trivial⟩).2 ia, ⟨(row_isL (xs := xrEqual0X a b) (ks := [4, 5, 6, 7]) (vs := [b.w, b.x, b.y, b.z]) ⟨rfl, rfl, rfl, rfl, trivial⟩).2 ib, trivial⟩⟩).mono ?_
          rintro e w' ⟨v, rfl, h1, h2⟩
          exact ⟨congrArg Ending.returned h1, h2⟩
      · refine (calls_runFn (ρ := frs (xrEqual01X a b) ++ []) (w := w) (fuel := 300) (args := [row [0, 1, 2, 3], row [4, 5, 6, 7]]) (vs := [va, vb]) (r := .v (.one (.b false)))
          (il_cons (I_rSame (i := 0) (j := 4) (l := .b true) rfl rfl (lb (Fq.same_iff.2 c0)) (ha.w.mono (by decide)).p (ha.w.mono (by decide)).q (hb.w.mono (by decide)).p (hb.w.mono (by decide)).q) (il_cons (I_rSame (i := 1) (j := 5) (l := .b true) rfl rfl (lb (Fq.same_iff.2 c1)) (ha.x.mono (by decide)).p (ha.x.mono (by decide)).q (hb.x.mono (by decide)).p (hb.x.mono (by decide)).q) (il_cons (I_rSame (i := 2) (j := 6) (l := .b false) rfl rfl (lb (same_ne c2)) (ha.y.mono (by decide)).p (ha.y.mono (by decide)).q (hb.y.mono (by decide)).p (hb.y.mono (by decide)).q) il_nil)))
          ol_nil (by kernel_rfl) Try.func13 (by kernel_rfl) ⟨(row_isL (xs := xrEqual01X a b) (ks := [0, 1, 2, 3]) (vs := [a.w, a.x, a.y, a.z]) ⟨rfl, rfl, rfl, rfl, trivial⟩).2 ia, ⟨(row_isL (xs := xrEqual01X a b) (ks := [4, 5, 6, 7]) (vs := [b.w, b.x, b.y, b.z]) ⟨rfl, rfl, rfl, rfl, trivial⟩).2 ib, trivial⟩⟩).mono ?_
        rintro e w' ⟨v, rfl, h1, h2⟩
        exact ⟨congrArg Ending.returned h1, h2⟩
    · refine (calls_runFn (ρ := frs (xrEqual02X a b) ++ []) (w := w) (fuel := 300) (args := [row [0, 1, 2, 3], row [4, 5, 6, 7]]) (vs := [va, vb]) (r := .v (.one (.b false)))
        (il_cons (I_rSame (i := 0) (j := 4) (l := .b true) rfl rfl (lb (Fq.same_iff.2 c0)) (ha.w.mono (by decide)).p (ha.w.mono (by decide)).q (hb.w.mono (by decide)).p (hb.w.mono (by decide)).q) (il_cons (I_rSame (i := 1) (j := 5) (l := .b false) rfl rfl (lb (same_ne c1)) (ha.x.mono (by decide)).p (ha.x.mono (by decide)).q (hb.x.mono (by decide)).p (hb.x.mono (by decide)).q) il_nil))
        ol_nil (by kernel_rfl) Try.func13 (by kernel_rfl) ⟨(row_isL (xs := xrEqual02X a b) (ks := [0, 1, 2, 3]) (vs := [a.w, a.x, a.y, a.z]) ⟨rfl, rfl, rfl, rfl, trivial⟩).2 ia, ⟨(row_isL (xs := xrEqual02X a b) (ks := [4, 5, 6, 7]) (vs := [b.w, b.x, b.y, b.z]) ⟨rfl, rfl, rfl, rfl, trivial⟩).2 ib, trivial⟩⟩).mono ?_
      rintro e w' ⟨v, rfl, h1, h2⟩
      exact ⟨congrArg Ending.returned h1, h2⟩
  · refine (calls_runFn (ρ := frs (xrEqual03X a b) ++ []) (w := w) (fuel := 300) (args := [row [0, 1, 2, 3], row [4, 5, 6, 7]]) (vs := [va, vb]) (r := .v (.one (.b false)))
      (il_cons (I_rSame (i := 0) (j := 4) (l := .b false) rfl rfl (lb (same_ne c0)) (ha.w.mono (by decide)).p (ha.w.mono (by decide)).q (hb.w.mono (by decide)).p (hb.w.mono (by decide)).q) il_nil)
      ol_nil (by kernel_rfl) Try.func13 (by kernel_rfl) ⟨(row_isL (xs := xrEqual03X a b) (ks := [0, 1, 2, 3]) (vs := [a.w, a.x, a.y, a.z]) ⟨rfl, rfl, rfl, rfl, trivial⟩).2 ia, ⟨(row_isL (xs := xrEqual03X a b) (ks := [4, 5, 6, 7]) (vs := [b.w, b.x, b.y, b.z]) ⟨rfl, rfl, rfl, rfl, trivial⟩).2 ib, trivial⟩⟩).mono ?_
    rintro e w' ⟨v, rfl, h1, h2⟩
    exact ⟨congrArg Ending.returned h1, h2⟩
theorem z0 : nl 0 ≤ 1000000000000 := by rw [nl_zero]; decide
def xrEqualZX (a : Qq) (b : Qq) : List Fq := [a.w, a.x, a.y, a.z, b.w, b.x, b.y, b.z]
theorem q_rEqualZ (va vb : Value) (a : Qq) (b : Qq) (w : World) (ia : IsQt w va a) (ib : IsQt w vb b) (e0 : a = Qq.zero) (e1 : b = Qq.zero) :
    Calls Try.prog 13 #[va, vb] w fun e w' => RetV w (.bool true) e w' := by
  refine (calls_runFn (ρ := frs (xrEqualZX a b) ++ []) (w := w) (fuel := 300) (args := [row [0, 1, 2, 3], row [4, 5, 6, 7]]) (vs := [va, vb]) (r := .v (.one (.b true)))
    (il_cons (I_rSame (i := 0) (j := 4) (l := .b true) rfl rfl (lb (Fq.same_iff.2 (by rw [e0, e1]))) (by rw [e0]; exact z0) (by rw [e0]; exact z0) (by rw [e1]; exact z0) (by rw [e1]; exact z0)) (il_cons (I_rSame (i := 1) (j := 5) (l := .b true) rfl rfl (lb (Fq.same_iff.2 (by rw [e0, e1]))) (by rw [e0]; exact z0) (by rw [e0]; exact z0) (by rw [e1]; exact z0) (by rw [e1]; exact z0)) (il_cons (I_rSame (i := 2) (j := 6) (l := .b true) rfl rfl (lb (Fq.same_iff.2 (by rw [e0, e1]))) (by rw [e0]; exact z0) (by rw [e0]; exact z0) (by rw [e1]; exact z0) (by rw [e1]; exact z0)) (il_cons (I_rSame (i := 3) (j := 7) (l := .b true) rfl rfl (lb (Fq.same_iff.2 (by rw [e0, e1]))) (by rw [e0]; exact z0) (by rw [e0]; exact z0) (by rw [e1]; exact z0) (by rw [e1]; exact z0)) il_nil))))
    ol_nil (by kernel_rfl) Try.func13 (by kernel_rfl) ⟨(row_isL (xs := xrEqualZX a b) (ks := [0, 1, 2, 3]) (vs := [a.w, a.x, a.y, a.z]) ⟨rfl, rfl, rfl, rfl, trivial⟩).2 ia, ⟨(row_isL (xs := xrEqualZX a b) (ks := [4, 5, 6, 7]) (vs := [b.w, b.x, b.y, b.z]) ⟨rfl, rfl, rfl, rfl, trivial⟩).2 ib, trivial⟩⟩).mono ?_
  rintro e w' ⟨v, rfl, h1, h2⟩
  exact ⟨congrArg Ending.returned h1, h2⟩
theorem I_rEqualZ {xs : List Fq} {ys : Rho} {ka : List Nat} {kb : List Nat} {a : Qq} {b : Qq}  (aa : AtL xs ka [a.w, a.x, a.y, a.z]) (ab : AtL xs kb [b.w, b.x, b.y, b.z])  (e0 : a = Qq.zero) (e1 : b = Qq.zero) : OkI xs ys ⟨13, [row ka, row kb], .v (.one (.b true))⟩ :=
  ⟨enters Try.func13 rfl rfl, fun B w vs h => by
    match vs, h with
    | [va, vb], h =>
      refine (q_rEqualZ va vb a b w ((row_isL aa).1 h.1) ((row_isL ab).1 h.2.1) e0 e1).mono ?_
      rintro e w' ⟨rfl, h2⟩
      exact ⟨_, rfl, rfl, h2⟩⟩
def xaxisX (q : Qq) : List Fq := [q.w, q.x, q.y, q.z]
theorem q_axis (vq : Value) (q : Qq) (w : World) (iq : IsQt w vq q) (hq : q.ok 1000000000) :
    Calls Try.prog 52 #[vq] w fun e w' => RetVq w q.axis e w' := by
  refine (calls_runFn (ρ := frs (xaxisX q) ++ []) (w := w) (fuel := 300) (args := [row [0, 1, 2, 3]]) (vs := [vq]) (r := .v (row [1, 2, 3]))
    (il_nil)
    ol_nil (by kernel_rfl) Try.func52 (by kernel_rfl) ⟨(row_isL (xs := xaxisX q) (ks := [0, 1, 2, 3]) (vs := [q.w, q.x, q.y, q.z]) ⟨rfl, rfl, rfl, rfl, trivial⟩).2 iq, trivial⟩).mono ?_
  rintro e w' ⟨v, rfl, h1, h2⟩
  exact ⟨v, rfl, (row_isL (xs := xaxisX q) (ks := [1, 2, 3]) (vs := [q.x, q.y, q.z]) ⟨rfl, rfl, rfl, trivial⟩).1 h1, h2⟩
theorem I_axis {xs : List Fq} {ys : Rho} {kq : List Nat} {q : Qq} {kr : List Nat} (aq : AtL xs kq [q.w, q.x, q.y, q.z]) (ar : AtL xs kr [q.axis.x, q.axis.y, q.axis.z]) (hq : q.ok 1000000000) : OkI xs ys ⟨52, [row kq], .v (row kr)⟩ :=
  ⟨enters Try.func52 rfl rfl, fun B w vs h => by
    match vs, h with
    | [vq], h =>
      refine (q_axis vq q w ((row_isL aq).1 h.1) hq).mono ?_
      rintro e w' ⟨v, rfl, h1, h2⟩
      exact ⟨v, rfl, (row_isL ar).2 h1, h2⟩⟩
def xpartX (q : Qq) : List Fq := [q.w, q.x, q.y, q.z]
theorem q_part (vq : Value) (q : Qq) (w : World) (iq : IsQt w vq q) (hq : q.ok 1000000000) :
    Calls Try.prog 57 #[vq] w fun e w' => RetVq w q.axis e w' := by
  refine (calls_runFn (ρ := frs (xpartX q) ++ []) (w := w) (fuel := 300) (args := [row [0, 1, 2, 3]]) (vs := [vq]) (r := .v (row [1, 2, 3]))
    (il_nil)
    ol_nil (by kernel_rfl) Try.func57 (by kernel_rfl) ⟨(row_isL (xs := xpartX q) (ks := [0, 1, 2, 3]) (vs := [q.w, q.x, q.y, q.z]) ⟨rfl, rfl, rfl, rfl, trivial⟩).2 iq, trivial⟩).mono ?_
  rintro e w' ⟨v, rfl, h1, h2⟩
  exact ⟨v, rfl, (row_isL (xs := xpartX q) (ks := [1, 2, 3]) (vs := [q.x, q.y, q.z]) ⟨rfl, rfl, rfl, trivial⟩).1 h1, h2⟩
theorem I_part {xs : List Fq} {ys : Rho} {kq : List Nat} {q : Qq} {kr : List Nat} (aq : AtL xs kq [q.w, q.x, q.y, q.z]) (ar : AtL xs kr [q.axis.x, q.axis.y, q.axis.z]) (hq : q.ok 1000000000) : OkI xs ys ⟨57, [row kq], .v (row kr)⟩ :=
  ⟨enters Try.func57 rfl rfl, fun B w vs h => by
    match vs, h with
    | [vq], h =>
      refine (q_part vq q w ((row_isL aq).1 h.1) hq).mono ?_
      rintro e w' ⟨v, rfl, h1, h2⟩
      exact ⟨v, rfl, (row_isL ar).2 h1, h2⟩⟩
def xpartsX (q : Qq) : List Fq := [q.w, q.x, q.y, q.z]
theorem q_parts (vq : Value) (q : Qq) (w : World) (iq : IsQt w vq q) (hq : q.ok 1000000000) :
    Calls Try.prog 40 #[vq] w fun e w' => RetQt w q e w' := by
  refine (calls_runFn (ρ := frs (xpartsX q) ++ []) (w := w) (fuel := 300) (args := [row [0, 1, 2, 3]]) (vs := [vq]) (r := .v (row [0, 1, 2, 3]))
    (il_nil)
    ol_nil (by kernel_rfl) Try.func40 (by kernel_rfl) ⟨(row_isL (xs := xpartsX q) (ks := [0, 1, 2, 3]) (vs := [q.w, q.x, q.y, q.z]) ⟨rfl, rfl, rfl, rfl, trivial⟩).2 iq, trivial⟩).mono ?_
  rintro e w' ⟨v, rfl, h1, h2⟩
  exact ⟨v, rfl, (row_isL (xs := xpartsX q) (ks := [0, 1, 2, 3]) (vs := [q.w, q.x, q.y, q.z]) ⟨rfl, rfl, rfl, rfl, trivial⟩).1 h1, h2⟩
theorem I_parts {xs : List Fq} {ys : Rho} {kq : List Nat} {q : Qq} {kr : List Nat} (aq : AtL xs kq [q.w, q.x, q.y, q.z]) (ar : AtL xs kr [q.w, q.x, q.y, q.z]) (hq : q.ok 1000000000) : OkI xs ys ⟨40, [row kq], .v (row kr)⟩ :=
  ⟨enters Try.func40 rfl rfl, fun B w vs h => by
    match vs, h with
    | [vq], h =>
      refine (q_parts vq q w ((row_isL aq).1 h.1) hq).mono ?_
      rintro e w' ⟨v, rfl, h1, h2⟩
      exact ⟨v, rfl, (row_isL ar).2 h1, h2⟩⟩
def xfEqual1X (a : Qq) (b : Qq) : List Fq := [a.w, a.x, a.y, a.z, b.w, b.x, b.y, b.z]
theorem q_fEqual1 (va vb : Value) (a : Qq) (b : Qq) (w : World) (ia : IsQt w va a) (ib : IsQt w vb b) (ha : a.ok 100000000) (hb : b.ok 100000000) (e0 : a = b) (ga : a.comp) (gb : b.comp) :
    Calls Try.prog 14 #[va, vb] w fun e w' => RetV w (.bool true) e w' := by
  refine (calls_runFn (ρ := frs (xfEqual1X a b) ++ []) (w := w) (fuel := 300) (args := [row [0, 1, 2, 3], row [4, 5, 6, 7]]) (vs := [va, vb]) (r := .v (.one (.b true)))
    (il_cons (I_parts (kq := [0, 1, 2, 3]) (q := a) (kr := [0, 1, 2, 3]) ⟨rfl, rfl, rfl, rfl, trivial⟩ ⟨rfl, rfl, rfl, rfl, trivial⟩ (ha.mono (by decide))) (il_cons (I_parts (kq := [4, 5, 6, 7]) (q := b) (kr := [4, 5, 6, 7]) ⟨rfl, rfl, rfl, rfl, trivial⟩ ⟨rfl, rfl, rfl, rfl, trivial⟩ (hb.mono (by decide))) (il_cons (I_fCmp (i := 0) (j := 4) rfl rfl (li ((o_zero ga.w gb.w).2 (congrArg Qq.w e0))) (ha.w.mono (by decide)) (hb.w.mono (by decide))) (il_cons (I_fCmp (i := 1) (j := 5) rfl rfl (li ((o_zero ga.x gb.x).2 (congrArg Qq.x e0))) (ha.x.mono (by decide)) (hb.x.mono (by decide))) (il_cons (I_fCmp (i := 2) (j := 6) rfl rfl (li ((o_zero ga.y gb.y).2 (congrArg Qq.y e0))) (ha.y.mono (by decide)) (hb.y.mono (by decide))) (il_cons (I_fCmp (i := 3) (j := 7) rfl rfl (li ((o_zero ga.z gb.z).2 (congrArg Qq.z e0))) (ha.z.mono (by decide)) (hb.z.mono (by decide))) il_nil))))))
    ol_nil (by kernel_rfl) Try.func14 (by kernel_rfl) ⟨(row_isL (xs := xfEqual1X a b) (ks := [0, 1, 2, 3]) (vs := [a.w, a.x, a.y, a.z]) ⟨rfl, rfl, rfl, rfl, trivial⟩).2 ia, ⟨(row_isL (xs := xfEqual1X a b) (ks := [4, 5, 6, 7]) (vs := [b.w, b.x, b.y, b.z]) ⟨rfl, rfl, rfl, rfl, trivial⟩).2 ib, trivial⟩⟩).mono ?_
  rintro e w' ⟨v, rfl, h1, h2⟩
  exact ⟨congrArg Ending.returned h1, h2⟩
theorem I_fEqual1 {xs : List Fq} {ys : Rho} {ka : List Nat} {kb : List Nat} {a : Qq} {b : Qq}  (aa : AtL xs ka [a.w, a.x, a.y, a.z]) (ab : AtL xs kb [b.w, b.x, b.y, b.z])  (ha : a.ok 100000000) (hb : b.ok 100000000) (e0 : a = b) (ga : a.comp) (gb : b.comp) : OkI xs ys ⟨14, [row ka, row kb], .v (.one (.b true))⟩ :=
  ⟨enters Try.func14 rfl rfl, fun B w vs h => by
    match vs, h with
    | [va, vb], h =>
      refine (q_fEqual1 va vb a b w ((row_isL aa).1 h.1) ((row_isL ab).1 h.2.1) ha hb e0 ga gb).mono ?_
      rintro e w' ⟨rfl, h2⟩
      exact ⟨_, rfl, rfl, h2⟩⟩
def xfEqual0X (a : Qq) (b : Qq) : List Fq := [a.w, a.x, a.y, a.z, b.w, b.x, b.y, b.z]
def xfEqual01X (a : Qq) (b : Qq) : List Fq := [a.w, a.x, a.y, a.z, b.w, b.x, b.y, b.z]
def xfEqual02X (a : Qq) (b : Qq) : List Fq := [a.w, a.x, a.y, a.z, b.w, b.x, b.y, b.z]
def xfEqual03X (a : Qq) (b : Qq) : List Fq := [a.w, a.x, a.y, a.z, b.w, b.x, b.y, b.z]
theorem q_fEqual0 (va vb : Value) (a : Qq) (b : Qq) (w : World) (ia : IsQt w va a) (ib : IsQt w vb b) (ha : a.ok 100000000) (hb : b.ok 100000000) (e0 : a ≠ b) (ga : a.comp) (gb : b.comp) :
    Calls Try.prog 14 #[va, vb] w fun e w' => RetV w (.bool false) e w' := by
  by_cases c0 : a.w = b.w
  · by_cases c1 : a.x = b.x
    · by_cases c2 : a.y = b.y
      · by_cases c3 : a.z = b.z
        · exact absurd (by cases a; cases b; simp only at c0 c1 c2 c3; subst c0 c1 c2 c3; rfl) e0
        · refine (calls_runFn (ρ := frs (xfEqual0X a b) ++ [.val (.int .i64 (a.z.cmp b.z))]) (w := w) (fuel := 300) (args := [row [0, 1, 2, 3], row [4, 5, 6, 7]]) (vs := [va, vb]) (r := .v (.one (.b false)))
            (il_cons (I_parts (kq := [0, 1, 2, 3]) (q := a) (kr := [0, 1, 2, 3]) ⟨rfl, rfl, rfl, rfl, trivial⟩ ⟨rfl, rfl, rfl, rfl, trivial⟩ (ha.mono (by decide))) (il_cons (I_parts (kq := [4, 5, 6, 7]) (q := b) (kr := [4, 5, 6, 7]) ⟨rfl, rfl, rfl, rfl, trivial⟩ ⟨rfl, rfl, rfl, rfl, trivial⟩ (hb.mono (by decide))) (il_cons (I_fCmp (i := 0) (j := 4) rfl rfl (li ((o_zero ga.w gb.w).2 c0)) (ha.w.mono (by decide)) (hb.w.mono (by decide))) (il_cons (I_fCmp (i := 1) (j := 5) rfl rfl (li ((o_zero ga.x gb.x).2 c1)) (ha.x.mono (by decide)) (hb.x.mono (by decide))) (il_cons (I_fCmp (i := 2) (j := 6) rfl rfl (li ((o_zero ga.y gb.y).2 c2)) (ha.y.mono (by decide)) (hb.y.mono (by decide))) (il_cons (I_fCmp (i := 3) (j := 7) rfl rfl (lr (n := 24) rfl) (ha.z.mono (by decide)) (hb.z.mono (by decide))) il_nil))))))
            (ol_cons (o_neq (n := 24) (c := 0) (t := 3) rfl (ne_neq (mt (o_zero ga.z gb.z).1 c3))) (ol_nil)) (by kernel_rfl) Try.func14 (by kernel_rfl) ⟨(row_isL (xs := xfEqual0X a b) (ks := [0, 1, 2, 3]) (vs := [a.w, a.x, a.y, a.z]) ⟨rfl, rfl, rfl, rfl, trivial⟩).2 ia, ⟨(row_isL (xs := xfEqual0X a b) (ks := [4, 5, 6, 7]) (vs := [b.w, b.x, b.y, b.z]) ⟨rfl, rfl, rfl, rfl, trivial⟩).2 ib, trivial⟩⟩).mono ?_
          rintro e w' ⟨v, rfl, h1, h2⟩
          exact ⟨congrArg Ending.returned h1, h2⟩
      · refine (calls_runFn (ρ := frs (xfEqual01X a b) ++ [.val (.int .i64 (a.y.cmp b.y))]) (w := w) (fuel := 300) (args := [row [0, 1, 2, 3], row [4, 5, 6, 7]]) (vs := [va, vb]) (r := .v (.one (.b false)))
          (il_cons (I_parts (kq := [0, 1, 2, 3]) (q := a) (kr := [0, 1, 2, 3]) ⟨rfl, rfl, rfl, rfl, trivial⟩ ⟨rfl, rfl, rfl, rfl, trivial⟩ (ha.mono (by decide))) (il_cons (I_parts (kq := [4, 5, 6, 7]) (q := b) (kr := [4, 5, 6, 7]) ⟨rfl, rfl, rfl, rfl, trivial⟩ ⟨rfl, rfl, rfl, rfl, trivial⟩ (hb.mono (by decide))) (il_cons (I_fCmp (i := 0) (j := 4) rfl rfl (li ((o_zero ga.w gb.w).2 c0)) (ha.w.mono (by decide)) (hb.w.mono (by decide))) (il_cons (I_fCmp (i := 1) (j := 5) rfl rfl (li ((o_zero ga.x gb.x).2 c1)) (ha.x.mono (by decide)) (hb.x.mono (by decide))) (il_cons (I_fCmp (i := 2) (j := 6) rfl rfl (lr (n := 24) rfl) (ha.y.mono (by decide)) (hb.y.mono (by decide))) il_nil)))))
          (ol_cons (o_neq (n := 24) (c := 0) (t := 3) rfl (ne_neq (mt (o_zero ga.y gb.y).1 c2))) (ol_nil)) (by kernel_rfl) Try.func14 (by kernel_rfl) ⟨(row_isL (xs := xfEqual01X a b) (ks := [0, 1, 2, 3]) (vs := [a.w, a.x, a.y, a.z]) ⟨rfl, rfl, rfl, rfl, trivial⟩).2 ia, ⟨(row_isL (xs := xfEqual01X a b) (ks := [4, 5, 6, 7]) (vs := [b.w, b.x, b.y, b.z]) ⟨rfl, rfl, rfl, rfl, trivial⟩).2 ib, trivial⟩⟩).mono ?_
        rintro e w' ⟨v, rfl, h1, h2⟩
        exact ⟨congrArg Ending.returned h1, h2⟩
    · refine (calls_runFn (ρ := frs (xfEqual02X a b) ++ [.val (.int .i64 (a.x.cmp b.x))]) (w := w) (fuel := 300) (args := [row [0, 1, 2, 3], row [4, 5, 6, 7]]) (vs := [va, vb]) (r := .v (.one (.b false)))
        (il_cons (I_parts (kq := [0, 1, 2, 3]) (q := a) (kr := [0, 1, 2, 3]) ⟨rfl, rfl, rfl, rfl, trivial⟩ ⟨rfl, rfl, rfl, rfl, trivial⟩ (ha.mono (by decide))) (il_cons (I_parts (kq := [4, 5, 6, 7]) (q := b) (kr := [4, 5, 6, 7]) ⟨rfl, rfl, rfl, rfl, trivial⟩ ⟨rfl, rfl, rfl, rfl, trivial⟩ (hb.mono (by decide))) (il_cons (I_fCmp (i := 0) (j := 4) rfl rfl (li ((o_zero ga.w gb.w).2 c0)) (ha.w.mono (by decide)) (hb.w.mono (by decide))) (il_cons (I_fCmp (i := 1) (j := 5) rfl rfl (lr (n := 24) rfl) (ha.x.mono (by decide)) (hb.x.mono (by decide))) il_nil))))
        (ol_cons (o_neq (n := 24) (c := 0) (t := 3) rfl (ne_neq (mt (o_zero ga.x gb.x).1 c1))) (ol_nil)) (by kernel_rfl) Try.func14 (by kernel_rfl) ⟨(row_isL (xs := xfEqual02X a b) (ks := [0, 1, 2, 3]) (vs := [a.w, a.x, a.y, a.z]) ⟨rfl, rfl, rfl, rfl, trivial⟩).2 ia, ⟨(row_isL (xs := xfEqual02X a b) (ks := [4, 5, 6, 7]) (vs := [b.w, b.x, b.y, b.z]) ⟨rfl, rfl, rfl, rfl, trivial⟩).2 ib, trivial⟩⟩).mono ?_
      rintro e w' ⟨v, rfl, h1, h2⟩
      exact ⟨congrArg Ending.returned h1, h2⟩
  · refine (calls_runFn (ρ := frs (xfEqual03X a b) ++ [.val (.int .i64 (a.w.cmp b.w))]) (w := w) (fuel := 300) (args := [row [0, 1, 2, 3], row [4, 5, 6, 7]]) (vs := [va, vb]) (r := .v (.one (.b false)))
      (il_cons (I_parts (kq := [0, 1, 2, 3]) (q := a) (kr := [0, 1, 2, 3]) ⟨rfl, rfl, rfl, rfl, trivial⟩ ⟨rfl, rfl, rfl, rfl, trivial⟩ (ha.mono (by decide))) (il_cons (I_parts (kq := [4, 5, 6, 7]) (q := b) (kr := [4, 5, 6, 7]) ⟨rfl, rfl, rfl, rfl, trivial⟩ ⟨rfl, rfl, rfl, rfl, trivial⟩ (hb.mono (by decide))) (il_cons (I_fCmp (i := 0) (j := 4) rfl rfl (lr (n := 24) rfl) (ha.w.mono (by decide)) (hb.w.mono (by decide))) il_nil)))
      (ol_cons (o_neq (n := 24) (c := 0) (t := 3) rfl (ne_neq (mt (o_zero ga.w gb.w).1 c0))) (ol_nil)) (by kernel_rfl) Try.func14 (by kernel_rfl) ⟨(row_isL (xs := xfEqual03X a b) (ks := [0, 1, 2, 3]) (vs := [a.w, a.x, a.y, a.z]) ⟨rfl, rfl, rfl, rfl, trivial⟩).2 ia, ⟨(row_isL (xs := xfEqual03X a b) (ks := [4, 5, 6, 7]) (vs := [b.w, b.x, b.y, b.z]) ⟨rfl, rfl, rfl, rfl, trivial⟩).2 ib, trivial⟩⟩).mono ?_
    rintro e w' ⟨v, rfl, h1, h2⟩
    exact ⟨congrArg Ending.returned h1, h2⟩
def xwholeX (q : Qq) : List Fq := [q.w, q.x, q.y, q.z]
theorem q_whole (vq : Value) (q : Qq) (w : World) (iq : IsQt w vq q) (hq : q.ok 1000000000) :
    Calls Try.prog 36 #[vq] w fun e w' => RetQt w q e w' := by
  refine (calls_runFn (ρ := frs (xwholeX q) ++ []) (w := w) (fuel := 300) (args := [row [0, 1, 2, 3]]) (vs := [vq]) (r := .v (row [0, 1, 2, 3]))
    (il_nil)
    ol_nil (by kernel_rfl) Try.func36 (by kernel_rfl) ⟨(row_isL (xs := xwholeX q) (ks := [0, 1, 2, 3]) (vs := [q.w, q.x, q.y, q.z]) ⟨rfl, rfl, rfl, rfl, trivial⟩).2 iq, trivial⟩).mono ?_
  rintro e w' ⟨v, rfl, h1, h2⟩
  exact ⟨v, rfl, (row_isL (xs := xwholeX q) (ks := [0, 1, 2, 3]) (vs := [q.w, q.x, q.y, q.z]) ⟨rfl, rfl, rfl, rfl, trivial⟩).1 h1, h2⟩
theorem I_whole {xs : List Fq} {ys : Rho} {kq : List Nat} {q : Qq} {kr : List Nat} (aq : AtL xs kq [q.w, q.x, q.y, q.z]) (ar : AtL xs kr [q.w, q.x, q.y, q.z]) (hq : q.ok 1000000000) : OkI xs ys ⟨36, [row kq], .v (row kr)⟩ :=
  ⟨enters Try.func36 rfl rfl, fun B w vs h => by
    match vs, h with
    | [vq], h =>
      refine (q_whole vq q w ((row_isL aq).1 h.1) hq).mono ?_
      rintro e w' ⟨v, rfl, h1, h2⟩
      exact ⟨v, rfl, (row_isL ar).2 h1, h2⟩⟩
def xHalf1X (q : Qq) : List Fq := [q.w, q.x, q.y, q.z]
theorem q_Half1 (vq : Value) (q : Qq) (w : World) (iq : IsQt w vq q) (hq : q.ok 1000000000) (h0 : q.w.p = 0) :
    Calls Try.prog 69 #[vq] w fun e w' => RetV w (.bool true) e w' := by
  refine (calls_runFn (ρ := frs (xHalf1X q) ++ []) (w := w) (fuel := 300) (args := [row [0, 1, 2, 3]]) (vs := [vq]) (r := .v (.one (.b true)))
    (il_cons (I_fSign (i := 0) rfl (li (sgn0 h0)) (hq.w.mono (by decide))) il_nil)
    ol_nil (by kernel_rfl) Try.func69 (by kernel_rfl) ⟨(row_isL (xs := xHalf1X q) (ks := [0, 1, 2, 3]) (vs := [q.w, q.x, q.y, q.z]) ⟨rfl, rfl, rfl, rfl, trivial⟩).2 iq, trivial⟩).mono ?_
  rintro e w' ⟨v, rfl, h1, h2⟩
  exact ⟨congrArg Ending.returned h1, h2⟩
theorem I_Half1 {xs : List Fq} {ys : Rho} {kq : List Nat} {q : Qq}  (aq : AtL xs kq [q.w, q.x, q.y, q.z])  (hq : q.ok 1000000000) (h0 : q.w.p = 0) : OkI xs ys ⟨69, [row kq], .v (.one (.b true))⟩ :=
  ⟨enters Try.func69 rfl rfl, fun B w vs h => by
    match vs, h with
    | [vq], h =>
      refine (q_Half1 vq q w ((row_isL aq).1 h.1) hq h0).mono ?_
      rintro e w' ⟨rfl, h2⟩
      exact ⟨_, rfl, rfl, h2⟩⟩
def xHalf0X (q : Qq) : List Fq := [q.w, q.x, q.y, q.z]
theorem q_Half0 (vq : Value) (q : Qq) (w : World) (iq : IsQt w vq q) (hq : q.ok 1000000000) (h0 : q.w.p ≠ 0) :
    Calls Try.prog 69 #[vq] w fun e w' => RetV w (.bool false) e w' := by
  refine (calls_runFn (ρ := frs (xHalf0X q) ++ [.val (.int .i64 q.w.sgn)]) (w := w) (fuel := 300) (args := [row [0, 1, 2, 3]]) (vs := [vq]) (r := .v (.one (.b false)))
    (il_cons (I_fSign (i := 0) rfl (lr (n := 12) rfl) (hq.w.mono (by decide))) il_nil)
    (ol_cons (o_eql (n := 12) (c := 0) (t := 3) rfl (sgn_eq h0)) (ol_nil)) (by kernel_rfl) Try.func69 (by kernel_rfl) ⟨(row_isL (xs := xHalf0X q) (ks := [0, 1, 2, 3]) (vs := [q.w, q.x, q.y, q.z]) ⟨rfl, rfl, rfl, rfl, trivial⟩).2 iq, trivial⟩).mono ?_
  rintro e w' ⟨v, rfl, h1, h2⟩
  exact ⟨congrArg Ending.returned h1, h2⟩
theorem I_Half0 {xs : List Fq} {ys : Rho} {kq : List Nat} {q : Qq}  (aq : AtL xs kq [q.w, q.x, q.y, q.z])  (hq : q.ok 1000000000) (h0 : q.w.p ≠ 0) : OkI xs ys ⟨69, [row kq], .v (.one (.b false))⟩ :=
  ⟨enters Try.func69 rfl rfl, fun B w vs h => by
    match vs, h with
    | [vq], h =>
      refine (q_Half0 vq q w ((row_isL aq).1 h.1) hq h0).mono ?_
      rintro e w' ⟨rfl, h2⟩
      exact ⟨_, rfl, rfl, h2⟩⟩
def xrHalf1X (q : Qq) : List Fq := [q.w, q.x, q.y, q.z]
theorem q_rHalf1 (vq : Value) (q : Qq) (w : World) (iq : IsQt w vq q) (hq : q.ok 1000000000) (h0 : q.w.p = 0) :
    Calls Try.prog 72 #[vq] w fun e w' => RetV w (.bool true) e w' := by
  refine (calls_runFn (ρ := frs (xrHalf1X q) ++ []) (w := w) (fuel := 300) (args := [row [0, 1, 2, 3]]) (vs := [vq]) (r := .v (.one (.b true)))
    (il_cons (I_rSign (i := 0) rfl (li (sgn0 h0)) (hq.w.mono (by decide))) il_nil)
    ol_nil (by kernel_rfl) Try.func72 (by kernel_rfl) ⟨(row_isL (xs := xrHalf1X q) (ks := [0, 1, 2, 3]) (vs := [q.w, q.x, q.y, q.z]) ⟨rfl, rfl, rfl, rfl, trivial⟩).2 iq, trivial⟩).mono ?_
  rintro e w' ⟨v, rfl, h1, h2⟩
  exact ⟨congrArg Ending.returned h1, h2⟩
theorem I_rHalf1 {xs : List Fq} {ys : Rho} {kq : List Nat} {q : Qq}  (aq : AtL xs kq [q.w, q.x, q.y, q.z])  (hq : q.ok 1000000000) (h0 : q.w.p = 0) : OkI xs ys ⟨72, [row kq], .v (.one (.b true))⟩ :=
  ⟨enters Try.func72 rfl rfl, fun B w vs h => by
    match vs, h with
    | [vq], h =>
      refine (q_rHalf1 vq q w ((row_isL aq).1 h.1) hq h0).mono ?_
      rintro e w' ⟨rfl, h2⟩
      exact ⟨_, rfl, rfl, h2⟩⟩
def xrHalf0X (q : Qq) : List Fq := [q.w, q.x, q.y, q.z]
theorem q_rHalf0 (vq : Value) (q : Qq) (w : World) (iq : IsQt w vq q) (hq : q.ok 1000000000) (h0 : q.w.p ≠ 0) :
    Calls Try.prog 72 #[vq] w fun e w' => RetV w (.bool false) e w' := by
  refine (calls_runFn (ρ := frs (xrHalf0X q) ++ [.val (.int .i64 q.w.sgn)]) (w := w) (fuel := 300) (args := [row [0, 1, 2, 3]]) (vs := [vq]) (r := .v (.one (.b false)))
    (il_cons (I_rSign (i := 0) rfl (lr (n := 12) rfl) (hq.w.mono (by decide))) il_nil)
    (ol_cons (o_eql (n := 12) (c := 0) (t := 3) rfl (sgn_eq h0)) (ol_nil)) (by kernel_rfl) Try.func72 (by kernel_rfl) ⟨(row_isL (xs := xrHalf0X q) (ks := [0, 1, 2, 3]) (vs := [q.w, q.x, q.y, q.z]) ⟨rfl, rfl, rfl, rfl, trivial⟩).2 iq, trivial⟩).mono ?_
  rintro e w' ⟨v, rfl, h1, h2⟩
  exact ⟨congrArg Ending.returned h1, h2⟩
theorem I_rHalf0 {xs : List Fq} {ys : Rho} {kq : List Nat} {q : Qq}  (aq : AtL xs kq [q.w, q.x, q.y, q.z])  (hq : q.ok 1000000000) (h0 : q.w.p ≠ 0) : OkI xs ys ⟨72, [row kq], .v (.one (.b false))⟩ :=
  ⟨enters Try.func72 rfl rfl, fun B w vs h => by
    match vs, h with
    | [vq], h =>
      refine (q_rHalf0 vq q w ((row_isL aq).1 h.1) hq h0).mono ?_
      rintro e w' ⟨rfl, h2⟩
      exact ⟨_, rfl, rfl, h2⟩⟩
def xfIdX  : List Fq := [(Fq.ofInt 1), (Fq.ofInt 0)]
theorem ok_id : Qq.id.ok 2 := ⟨ok_int (by decide) (by decide), ok_int (by decide) (by decide), ok_int (by decide) (by decide), ok_int (by decide) (by decide)⟩
theorem q_fId  (w : World)   :
    Calls Try.prog 30 #[] w fun e w' => RetQt w Qq.id e w' := by
  refine (calls_runFn (ρ := frs (xfIdX ) ++ []) (w := w) (fuel := 300) (args := []) (vs := []) (r := .v (row [0, 1, 1, 1]))
    (il_cons (I_fInt (k := 0) rfl (by decide) (by decide)) (il_cons (I_fInt (k := 1) rfl (by decide) (by decide)) (il_cons (I_whole (kq := [0, 1, 1, 1]) (q := (Qq.mk (Fq.ofInt 1) (Fq.ofInt 0) (Fq.ofInt 0) (Fq.ofInt 0))) (kr := [0, 1, 1, 1]) ⟨rfl, rfl, rfl, rfl, trivial⟩ ⟨rfl, rfl, rfl, rfl, trivial⟩ (⟨(ok_int (u := 1) (by decide) (by decide)).mono (by decide), (ok_int (u := 0) (by decide) (by decide)).mono (by decide), (ok_int (u := 0) (by decide) (by decide)).mono (by decide), (ok_int (u := 0) (by decide) (by decide)).mono (by decide)⟩ : Qq.ok 1000000000 (Qq.mk (Fq.ofInt 1) (Fq.ofInt 0) (Fq.ofInt 0) (Fq.ofInt 0)))) il_nil)))
    ol_nil (by kernel_rfl) Try.func30 (by kernel_rfl) trivial).mono ?_
  rintro e w' ⟨v, rfl, h1, h2⟩
  exact ⟨v, rfl, (row_isL (xs := xfIdX ) (ks := [0, 1, 1, 1]) (vs := [(Fq.ofInt 1), (Fq.ofInt 0), (Fq.ofInt 0), (Fq.ofInt 0)]) ⟨rfl, rfl, rfl, rfl, trivial⟩).1 h1, h2⟩
theorem I_fId {xs : List Fq} {ys : Rho}   {kr : List Nat}  (ar : AtL xs kr [Qq.id.w, Qq.id.x, Qq.id.y, Qq.id.z]) : OkI xs ys ⟨30, [], .v (row kr)⟩ :=
  ⟨enters Try.func30 rfl rfl, fun B w vs h => by
    match vs, h with
    | [], h =>
      refine (q_fId w).mono ?_
      rintro e w' ⟨v, rfl, h1, h2⟩
      exact ⟨v, rfl, (row_isL ar).2 h1, h2⟩⟩
def xrIdX  : List Fq := [(Fq.ofInt 1), (Fq.ofInt 0)]
theorem q_rId  (w : World)   :
    Calls Try.prog 16 #[] w fun e w' => RetQt w Qq.id e w' := by
  refine (calls_runFn (ρ := frs (xrIdX ) ++ []) (w := w) (fuel := 300) (args := []) (vs := []) (r := .v (row [0, 1, 1, 1]))
    (il_cons (I_rInt (k := 0) rfl (by decide) (by decide)) (il_cons (I_rInt (k := 1) rfl (by decide) (by decide)) il_nil))
    ol_nil (by kernel_rfl) Try.func16 (by kernel_rfl) trivial).mono ?_
  rintro e w' ⟨v, rfl, h1, h2⟩
  exact ⟨v, rfl, (row_isL (xs := xrIdX ) (ks := [0, 1, 1, 1]) (vs := [(Fq.ofInt 1), (Fq.ofInt 0), (Fq.ofInt 0), (Fq.ofInt 0)]) ⟨rfl, rfl, rfl, rfl, trivial⟩).1 h1, h2⟩
theorem I_rId {xs : List Fq} {ys : Rho}   {kr : List Nat}  (ar : AtL xs kr [Qq.id.w, Qq.id.x, Qq.id.y, Qq.id.z]) : OkI xs ys ⟨16, [], .v (row kr)⟩ :=
  ⟨enters Try.func16 rfl rfl, fun B w vs h => by
    match vs, h with
    | [], h =>
      refine (q_rId w).mono ?_
      rintro e w' ⟨v, rfl, h1, h2⟩
      exact ⟨v, rfl, (row_isL ar).2 h1, h2⟩⟩
end Go.Proofs.Ythefidbgjgfeiaa
