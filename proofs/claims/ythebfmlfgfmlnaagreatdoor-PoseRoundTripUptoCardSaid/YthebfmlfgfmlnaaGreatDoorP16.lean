/- On the way from one pose to another, by the executor. Which fractions are small: valid, with parts of at most a given number. Small vectors and poses. -/
import Derived.Test.YthebfmlfgfmlnaaGreatDoorP15
namespace Go.Proofs.YthebfmlfgfmlnaaGreatDoor
set_option linter.unusedSimpArgs false
set_option linter.unusedVariables false
set_option maxRecDepth 100000
open Go.RowKit
theorem Pq.ok.btw1 {a b : Pq} {m : Fq} {d e f : Nat} (h : a.ok d) (k : b.ok e) (l : m.ok f) (ga : a.good) (gb : b.good) (gm : m.valid = true) : (Pq.mk (a.rot.way (a.rot.inv.mul b.rot) m) (a.pos.lerp b.pos m)).ok (1000000 * (d + e + f + 1)) := ⟨(way_ok h.rot k.rot l ga.rot gb.rot gm).mono (by omega), (h.pos.lerp k.pos l).mono (by omega)⟩
theorem Pq.ok.btw2 {a b : Pq} {m : Fq} {d e f : Nat} (h : a.ok d) (k : b.ok e) (l : m.ok f) : (Pq.mk a.rot (a.pos.lerp b.pos m)).ok (1000000 * (d + e + f + 1)) := ⟨h.rot.mono (by omega), (h.pos.lerp k.pos l).mono (by omega)⟩
theorem Pq.ok.btw3 {a b : Pq} {m : Fq} {d e f : Nat} (h : a.ok d) (k : b.ok e) (l : m.ok f) : (Pq.mk b.rot (a.pos.lerp b.pos m)).ok (1000000 * (d + e + f + 1)) := ⟨k.rot.mono (by omega), (h.pos.lerp k.pos l).mono (by omega)⟩
def xpoBtw1X (a : Pq) (b : Pq) (m : Fq) : List Fq := [a.rot.w, a.rot.x, a.rot.y, a.rot.z, a.pos.x, a.pos.y, a.pos.z, b.rot.w, b.rot.x, b.rot.y, b.rot.z, b.pos.x, b.pos.y, b.pos.z, m, (a.rot.way (a.rot.inv.mul b.rot) m).w, (a.rot.way (a.rot.inv.mul b.rot) m).x, (a.rot.way (a.rot.inv.mul b.rot) m).y, (a.rot.way (a.rot.inv.mul b.rot) m).z, (a.pos.lerp b.pos m).x, (a.pos.lerp b.pos m).y, (a.pos.lerp b.pos m).z]
theorem q_poBtw1 (va vb vm : Value) (a : Pq) (b : Pq) (m : Fq) (w : World) (ia : IsOq w va a) (ib : IsOq w vb b) (im : IsQ w vm m) (ha : a.ok 100) (hb : b.ok 100) (hm : m.ok 100) (ga : a.good) (gb : b.good) (gm : m.valid = true) (hw : (a.rot.inv.mul b.rot).w.p ≠ 0) :
    Calls Tryz.prog 36 #[va, vb, vm] w fun e w' => RetOqE w (Pq.mk (a.rot.way (a.rot.inv.mul b.rot) m) (a.pos.lerp b.pos m)) 0 e w' := by
  refine (calls_runFn (ρ := frs (xpoBtw1X a b m) ++ []) (w := w) (fuel := 300) (args := [row [0, 1, 2, 3, 4, 5, 6], row [7, 8, 9, 10, 11, 12, 13], fr 14]) (vs := [va, vb, vm]) (r := .tup [row [15, 16, 17, 18, 19, 20, 21], .one (.i .i64 0)])
    (il_cons (I_fBtw1 (kp := [0, 1, 2, 3]) (p := a.rot) (kq := [7, 8, 9, 10]) (q := b.rot) (im := 14) (kr := [15, 16, 17, 18]) ⟨rfl, rfl, rfl, rfl, trivial⟩ ⟨rfl, rfl, rfl, rfl, trivial⟩ rfl ⟨rfl, rfl, rfl, rfl, trivial⟩ (ha.rot.mono (by decide)) (hb.rot.mono (by decide)) (hm.mono (by decide)) ga.rot gb.rot gm hw) (il_cons (I_vLerp (ka := [4, 5, 6]) (a := a.pos) (kb := [11, 12, 13]) (b := b.pos) (ik := 14) (kr := [19, 20, 21]) ⟨rfl, rfl, rfl, trivial⟩ ⟨rfl, rfl, rfl, trivial⟩ rfl ⟨rfl, rfl, rfl, trivial⟩ (ha.pos.mono (by decide)) (hb.pos.mono (by decide)) (hm.mono (by decide))) (il_cons (I_poPose (ka := [15, 16, 17, 18, 19, 20, 21]) (a := (Pq.mk (a.rot.way (a.rot.inv.mul b.rot) m) (a.pos.lerp b.pos m))) (kr := [15, 16, 17, 18, 19, 20, 21]) ⟨rfl, rfl, rfl, rfl, rfl, rfl, rfl, trivial⟩ ⟨rfl, rfl, rfl, rfl, rfl, rfl, rfl, trivial⟩ (⟨⟨(way_ok ha.rot hb.rot hm ga.rot gb.rot gm).w.mono (by decide), (way_ok ha.rot hb.rot hm ga.rot gb.rot gm).x.mono (by decide), (way_ok ha.rot hb.rot hm ga.rot gb.rot gm).y.mono (by decide), (way_ok ha.rot hb.rot hm ga.rot gb.rot gm).z.mono (by decide)⟩, ⟨(ha.pos.lerp hb.pos hm).x.mono (by decide), (ha.pos.lerp hb.pos hm).y.mono (by decide), (ha.pos.lerp hb.pos hm).z.mono (by decide)⟩⟩ : Pq.ok 1000000000 (Pq.mk (a.rot.way (a.rot.inv.mul b.rot) m) (a.pos.lerp b.pos m)))) il_nil)))
    ol_nil (by kernel_rfl) Tryz.func36 (by kernel_rfl) ⟨(row_isL (xs := xpoBtw1X a b m) (ks := [0, 1, 2, 3, 4, 5, 6]) (vs := [a.rot.w, a.rot.x, a.rot.y, a.rot.z, a.pos.x, a.pos.y, a.pos.z]) ⟨rfl, rfl, rfl, rfl, rfl, rfl, rfl, trivial⟩).2 ia, ⟨(row_isL (xs := xpoBtw1X a b m) (ks := [7, 8, 9, 10, 11, 12, 13]) (vs := [b.rot.w, b.rot.x, b.rot.y, b.rot.z, b.pos.x, b.pos.y, b.pos.z]) ⟨rfl, rfl, rfl, rfl, rfl, rfl, rfl, trivial⟩).2 ib, ⟨(fr_isQ (xs := xpoBtw1X a b m) (k := 14) rfl).2 im, trivial⟩⟩⟩).mono ?_
  rintro e w' ⟨v, rfl, ⟨vs, rfl, h1⟩, h2⟩
  match vs, h1 with
  | [r, c], h1 =>
    obtain ⟨⟨cs, rfl, k1⟩, k2, _⟩ := h1
    have k2 : c = _ := k2
    subst k2
    exact ⟨_, rfl, (row_isL (xs := xpoBtw1X a b m) (ks := [15, 16, 17, 18, 19, 20, 21]) (vs := [(a.rot.way (a.rot.inv.mul b.rot) m).w, (a.rot.way (a.rot.inv.mul b.rot) m).x, (a.rot.way (a.rot.inv.mul b.rot) m).y, (a.rot.way (a.rot.inv.mul b.rot) m).z, (a.pos.lerp b.pos m).x, (a.pos.lerp b.pos m).y, (a.pos.lerp b.pos m).z]) ⟨rfl, rfl, rfl, rfl, rfl, rfl, rfl, trivial⟩).1 ⟨_, rfl, k1⟩, h2⟩
theorem I_poBtw1 {xs : List Fq} {ys : Rho} {ka : List Nat} {kb : List Nat} {im : Nat} {a : Pq} {b : Pq} {m : Fq} {kr : List Nat} (aa : AtL xs ka [a.rot.w, a.rot.x, a.rot.y, a.rot.z, a.pos.x, a.pos.y, a.pos.z]) (ab : AtL xs kb [b.rot.w, b.rot.x, b.rot.y, b.rot.z, b.pos.x, b.pos.y, b.pos.z]) (am : xs[im]? = some m) (ar : AtL xs kr [(a.rot.way (a.rot.inv.mul b.rot) m).w, (a.rot.way (a.rot.inv.mul b.rot) m).x, (a.rot.way (a.rot.inv.mul b.rot) m).y, (a.rot.way (a.rot.inv.mul b.rot) m).z, (a.pos.lerp b.pos m).x, (a.pos.lerp b.pos m).y, (a.pos.lerp b.pos m).z]) (ha : a.ok 100) (hb : b.ok 100) (hm : m.ok 100) (ga : a.good) (gb : b.good) (gm : m.valid = true) (hw : (a.rot.inv.mul b.rot).w.p ≠ 0) : OkI xs ys ⟨36, [row ka, row kb, fr im], .tup [row kr, .one (.i .i64 0)]⟩ :=
  ⟨enters Tryz.func36 rfl rfl, fun B w vs hB h => by
    match vs, h with
    | [va, vb, vm], h =>
      refine (q_poBtw1 va vb vm a b m w ((row_isL aa).1 h.1) ((row_isL ab).1 h.2.1) ((fr_isQ am).1 h.2.2.1) ha hb hm ga gb gm hw).mono ?_
      rintro e w' ⟨v, rfl, h1, h2⟩
      exact ⟨_, rfl, ⟨[v, .int .i64 0], rfl, (row_isL ar).2 h1, rfl, trivial⟩, h2⟩⟩
def xpoBtw2X (a : Pq) (b : Pq) (m : Fq) : List Fq := [a.rot.w, a.rot.x, a.rot.y, a.rot.z, a.pos.x, a.pos.y, a.pos.z, b.rot.w, b.rot.x, b.rot.y, b.rot.z, b.pos.x, b.pos.y, b.pos.z, m, (a.pos.lerp b.pos m).x, (a.pos.lerp b.pos m).y, (a.pos.lerp b.pos m).z]
theorem q_poBtw2 (va vb vm : Value) (a : Pq) (b : Pq) (m : Fq) (w : World) (ia : IsOq w va a) (ib : IsOq w vb b) (im : IsQ w vm m) (ha : a.ok 100) (hb : b.ok 100) (hm : m.ok 100) (ga : a.good) (gb : b.good) (gm : m.valid = true) (hw : (a.rot.inv.mul b.rot).w.p = 0) (h0 : m.p = 0) :
    Calls Tryz.prog 36 #[va, vb, vm] w fun e w' => RetOqE w (Pq.mk a.rot (a.pos.lerp b.pos m)) 0 e w' := by
  refine (calls_runFn (ρ := frs (xpoBtw2X a b m) ++ []) (w := w) (fuel := 300) (args := [row [0, 1, 2, 3, 4, 5, 6], row [7, 8, 9, 10, 11, 12, 13], fr 14]) (vs := [va, vb, vm]) (r := .tup [row [0, 1, 2, 3, 15, 16, 17], .one (.i .i64 0)])
    (il_cons (I_fBtw2 (kp := [0, 1, 2, 3]) (p := a.rot) (kq := [7, 8, 9, 10]) (q := b.rot) (im := 14) (kr := [0, 1, 2, 3]) ⟨rfl, rfl, rfl, rfl, trivial⟩ ⟨rfl, rfl, rfl, rfl, trivial⟩ rfl ⟨rfl, rfl, rfl, rfl, trivial⟩ (ha.rot.mono (by decide)) (hb.rot.mono (by decide)) (hm.mono (by decide)) ga.rot gb.rot gm hw h0) (il_cons (I_vLerp (ka := [4, 5, 6]) (a := a.pos) (kb := [11, 12, 13]) (b := b.pos) (ik := 14) (kr := [15, 16, 17]) ⟨rfl, rfl, rfl, trivial⟩ ⟨rfl, rfl, rfl, trivial⟩ rfl ⟨rfl, rfl, rfl, trivial⟩ (ha.pos.mono (by decide)) (hb.pos.mono (by decide)) (hm.mono (by decide))) (il_cons (I_poPose (ka := [0, 1, 2, 3, 15, 16, 17]) (a := (Pq.mk a.rot (a.pos.lerp b.pos m))) (kr := [0, 1, 2, 3, 15, 16, 17]) ⟨rfl, rfl, rfl, rfl, rfl, rfl, rfl, trivial⟩ ⟨rfl, rfl, rfl, rfl, rfl, rfl, rfl, trivial⟩ (⟨⟨ha.rot.w.mono (by decide), ha.rot.x.mono (by decide), ha.rot.y.mono (by decide), ha.rot.z.mono (by decide)⟩, ⟨(ha.pos.lerp hb.pos hm).x.mono (by decide), (ha.pos.lerp hb.pos hm).y.mono (by decide), (ha.pos.lerp hb.pos hm).z.mono (by decide)⟩⟩ : Pq.ok 1000000000 (Pq.mk a.rot (a.pos.lerp b.pos m)))) il_nil)))
    ol_nil (by kernel_rfl) Tryz.func36 (by kernel_rfl) ⟨(row_isL (xs := xpoBtw2X a b m) (ks := [0, 1, 2, 3, 4, 5, 6]) (vs := [a.rot.w, a.rot.x, a.rot.y, a.rot.z, a.pos.x, a.pos.y, a.pos.z]) ⟨rfl, rfl, rfl, rfl, rfl, rfl, rfl, trivial⟩).2 ia, ⟨(row_isL (xs := xpoBtw2X a b m) (ks := [7, 8, 9, 10, 11, 12, 13]) (vs := [b.rot.w, b.rot.x, b.rot.y, b.rot.z, b.pos.x, b.pos.y, b.pos.z]) ⟨rfl, rfl, rfl, rfl, rfl, rfl, rfl, trivial⟩).2 ib, ⟨(fr_isQ (xs := xpoBtw2X a b m) (k := 14) rfl).2 im, trivial⟩⟩⟩).mono ?_
  rintro e w' ⟨v, rfl, ⟨vs, rfl, h1⟩, h2⟩
  match vs, h1 with
  | [r, c], h1 =>
    obtain ⟨⟨cs, rfl, k1⟩, k2, _⟩ := h1
    have k2 : c = _ := k2
    subst k2
    exact ⟨_, rfl, (row_isL (xs := xpoBtw2X a b m) (ks := [0, 1, 2, 3, 15, 16, 17]) (vs := [a.rot.w, a.rot.x, a.rot.y, a.rot.z, (a.pos.lerp b.pos m).x, (a.pos.lerp b.pos m).y, (a.pos.lerp b.pos m).z]) ⟨rfl, rfl, rfl, rfl, rfl, rfl, rfl, trivial⟩).1 ⟨_, rfl, k1⟩, h2⟩
theorem I_poBtw2 {xs : List Fq} {ys : Rho} {ka : List Nat} {kb : List Nat} {im : Nat} {a : Pq} {b : Pq} {m : Fq} {kr : List Nat} (aa : AtL xs ka [a.rot.w, a.rot.x, a.rot.y, a.rot.z, a.pos.x, a.pos.y, a.pos.z]) (ab : AtL xs kb [b.rot.w, b.rot.x, b.rot.y, b.rot.z, b.pos.x, b.pos.y, b.pos.z]) (am : xs[im]? = some m) (ar : AtL xs kr [a.rot.w, a.rot.x, a.rot.y, a.rot.z, (a.pos.lerp b.pos m).x, (a.pos.lerp b.pos m).y, (a.pos.lerp b.pos m).z]) (ha : a.ok 100) (hb : b.ok 100) (hm : m.ok 100) (ga : a.good) (gb : b.good) (gm : m.valid = true) (hw : (a.rot.inv.mul b.rot).w.p = 0) (h0 : m.p = 0) : OkI xs ys ⟨36, [row ka, row kb, fr im], .tup [row kr, .one (.i .i64 0)]⟩ :=
  ⟨enters Tryz.func36 rfl rfl, fun B w vs hB h => by
    match vs, h with
    | [va, vb, vm], h =>
      refine (q_poBtw2 va vb vm a b m w ((row_isL aa).1 h.1) ((row_isL ab).1 h.2.1) ((fr_isQ am).1 h.2.2.1) ha hb hm ga gb gm hw h0).mono ?_
      rintro e w' ⟨v, rfl, h1, h2⟩
      exact ⟨_, rfl, ⟨[v, .int .i64 0], rfl, (row_isL ar).2 h1, rfl, trivial⟩, h2⟩⟩
def xpoBtw3X (a : Pq) (b : Pq) (m : Fq) : List Fq := [a.rot.w, a.rot.x, a.rot.y, a.rot.z, a.pos.x, a.pos.y, a.pos.z, b.rot.w, b.rot.x, b.rot.y, b.rot.z, b.pos.x, b.pos.y, b.pos.z, m, (a.pos.lerp b.pos m).x, (a.pos.lerp b.pos m).y, (a.pos.lerp b.pos m).z]
theorem q_poBtw3 (va vb vm : Value) (a : Pq) (b : Pq) (m : Fq) (w : World) (ia : IsOq w va a) (ib : IsOq w vb b) (im : IsQ w vm m) (ha : a.ok 100) (hb : b.ok 100) (hm : m.ok 100) (ga : a.good) (gb : b.good) (gm : m.valid = true) (hw : (a.rot.inv.mul b.rot).w.p = 0) (h0 : m.p ≠ 0) (h1 : m = (Fq.ofInt 1)) :
    Calls Tryz.prog 36 #[va, vb, vm] w fun e w' => RetOqE w (Pq.mk b.rot (a.pos.lerp b.pos m)) 0 e w' := by
  refine (calls_runFn (ρ := frs (xpoBtw3X a b m) ++ []) (w := w) (fuel := 300) (args := [row [0, 1, 2, 3, 4, 5, 6], row [7, 8, 9, 10, 11, 12, 13], fr 14]) (vs := [va, vb, vm]) (r := .tup [row [7, 8, 9, 10, 15, 16, 17], .one (.i .i64 0)])
    (il_cons (I_fBtw3 (kp := [0, 1, 2, 3]) (p := a.rot) (kq := [7, 8, 9, 10]) (q := b.rot) (im := 14) (kr := [7, 8, 9, 10]) ⟨rfl, rfl, rfl, rfl, trivial⟩ ⟨rfl, rfl, rfl, rfl, trivial⟩ rfl ⟨rfl, rfl, rfl, rfl, trivial⟩ (ha.rot.mono (by decide)) (hb.rot.mono (by decide)) (hm.mono (by decide)) ga.rot gb.rot gm hw h0 h1) (il_cons (I_vLerp (ka := [4, 5, 6]) (a := a.pos) (kb := [11, 12, 13]) (b := b.pos) (ik := 14) (kr := [15, 16, 17]) ⟨rfl, rfl, rfl, trivial⟩ ⟨rfl, rfl, rfl, trivial⟩ rfl ⟨rfl, rfl, rfl, trivial⟩ (ha.pos.mono (by decide)) (hb.pos.mono (by decide)) (hm.mono (by decide))) (il_cons (I_poPose (ka := [7, 8, 9, 10, 15, 16, 17]) (a := (Pq.mk b.rot (a.pos.lerp b.pos m))) (kr := [7, 8, 9, 10, 15, 16, 17]) ⟨rfl, rfl, rfl, rfl, rfl, rfl, rfl, trivial⟩ ⟨rfl, rfl, rfl, rfl, rfl, rfl, rfl, trivial⟩ (⟨⟨hb.rot.w.mono (by decide), hb.rot.x.mono (by decide), hb.rot.y.mono (by decide), hb.rot.z.mono (by decide)⟩, ⟨(ha.pos.lerp hb.pos hm).x.mono (by decide), (ha.pos.lerp hb.pos hm).y.mono (by decide), (ha.pos.lerp hb.pos hm).z.mono (by decide)⟩⟩ : Pq.ok 1000000000 (Pq.mk b.rot (a.pos.lerp b.pos m)))) il_nil)))
    ol_nil (by kernel_rfl) Tryz.func36 (by kernel_rfl) ⟨(row_isL (xs := xpoBtw3X a b m) (ks := [0, 1, 2, 3, 4, 5, 6]) (vs := [a.rot.w, a.rot.x, a.rot.y, a.rot.z, a.pos.x, a.pos.y, a.pos.z]) ⟨rfl, rfl, rfl, rfl, rfl, rfl, rfl, trivial⟩).2 ia, ⟨(row_isL (xs := xpoBtw3X a b m) (ks := [7, 8, 9, 10, 11, 12, 13]) (vs := [b.rot.w, b.rot.x, b.rot.y, b.rot.z, b.pos.x, b.pos.y, b.pos.z]) ⟨rfl, rfl, rfl, rfl, rfl, rfl, rfl, trivial⟩).2 ib, ⟨(fr_isQ (xs := xpoBtw3X a b m) (k := 14) rfl).2 im, trivial⟩⟩⟩).mono ?_
  rintro e w' ⟨v, rfl, ⟨vs, rfl, h1⟩, h2⟩
  match vs, h1 with
  | [r, c], h1 =>
    obtain ⟨⟨cs, rfl, k1⟩, k2, _⟩ := h1
    have k2 : c = _ := k2
    subst k2
    exact ⟨_, rfl, (row_isL (xs := xpoBtw3X a b m) (ks := [7, 8, 9, 10, 15, 16, 17]) (vs := [b.rot.w, b.rot.x, b.rot.y, b.rot.z, (a.pos.lerp b.pos m).x, (a.pos.lerp b.pos m).y, (a.pos.lerp b.pos m).z]) ⟨rfl, rfl, rfl, rfl, rfl, rfl, rfl, trivial⟩).1 ⟨_, rfl, k1⟩, h2⟩
theorem I_poBtw3 {xs : List Fq} {ys : Rho} {ka : List Nat} {kb : List Nat} {im : Nat} {a : Pq} {b : Pq} {m : Fq} {kr : List Nat} (aa : AtL xs ka [a.rot.w, a.rot.x, a.rot.y, a.rot.z, a.pos.x, a.pos.y, a.pos.z]) (ab : AtL xs kb [b.rot.w, b.rot.x, b.rot.y, b.rot.z, b.pos.x, b.pos.y, b.pos.z]) (am : xs[im]? = some m) (ar : AtL xs kr [b.rot.w, b.rot.x, b.rot.y, b.rot.z, (a.pos.lerp b.pos m).x, (a.pos.lerp b.pos m).y, (a.pos.lerp b.pos m).z]) (ha : a.ok 100) (hb : b.ok 100) (hm : m.ok 100) (ga : a.good) (gb : b.good) (gm : m.valid = true) (hw : (a.rot.inv.mul b.rot).w.p = 0) (h0 : m.p ≠ 0) (h1 : m = (Fq.ofInt 1)) : OkI xs ys ⟨36, [row ka, row kb, fr im], .tup [row kr, .one (.i .i64 0)]⟩ :=
  ⟨enters Tryz.func36 rfl rfl, fun B w vs hB h => by
    match vs, h with
    | [va, vb, vm], h =>
      refine (q_poBtw3 va vb vm a b m w ((row_isL aa).1 h.1) ((row_isL ab).1 h.2.1) ((fr_isQ am).1 h.2.2.1) ha hb hm ga gb gm hw h0 h1).mono ?_
      rintro e w' ⟨v, rfl, h1, h2⟩
      exact ⟨_, rfl, ⟨[v, .int .i64 0], rfl, (row_isL ar).2 h1, rfl, trivial⟩, h2⟩⟩
def xpoBtw4X (a : Pq) (b : Pq) (m : Fq) : List Fq := [a.rot.w, a.rot.x, a.rot.y, a.rot.z, a.pos.x, a.pos.y, a.pos.z, b.rot.w, b.rot.x, b.rot.y, b.rot.z, b.pos.x, b.pos.y, b.pos.z, m, Qq.zero.w, Qq.zero.x, Qq.zero.y, Qq.zero.z]
theorem q_poBtw4 (va vb vm : Value) (a : Pq) (b : Pq) (m : Fq) (w : World) (ia : IsOq w va a) (ib : IsOq w vb b) (im : IsQ w vm m) (ha : a.ok 100) (hb : b.ok 100) (hm : m.ok 100) (ga : a.good) (gb : b.good) (gm : m.valid = true) (hw : (a.rot.inv.mul b.rot).w.p = 0) (h0 : m.p ≠ 0) (h1 : m ≠ (Fq.ofInt 1)) :
    Calls Tryz.prog 36 #[va, vb, vm] w fun e w' => RetOqE w Pq.zero 4 e w' := by
  refine (calls_runFn (ρ := frs (xpoBtw4X a b m) ++ []) (w := w) (fuel := 300) (args := [row [0, 1, 2, 3, 4, 5, 6], row [7, 8, 9, 10, 11, 12, 13], fr 14]) (vs := [va, vb, vm]) (r := .tup [.agg [.b false, .sl0, .sl0, .b false, .sl0, .sl0, .b false, .sl0, .sl0, .b false, .sl0, .sl0, .b false, .sl0, .sl0, .b false, .sl0, .sl0, .b false, .sl0, .sl0], .one (.i .i64 4)])
    (il_cons (I_fBtw4 (kp := [0, 1, 2, 3]) (p := a.rot) (kq := [7, 8, 9, 10]) (q := b.rot) (im := 14) (kr := [15, 16, 17, 18]) ⟨rfl, rfl, rfl, rfl, trivial⟩ ⟨rfl, rfl, rfl, rfl, trivial⟩ rfl ⟨rfl, rfl, rfl, rfl, trivial⟩ (ha.rot.mono (by decide)) (hb.rot.mono (by decide)) (hm.mono (by decide)) ga.rot gb.rot gm hw h0 h1) il_nil)
    ol_nil (by kernel_rfl) Tryz.func36 (by kernel_rfl) ⟨(row_isL (xs := xpoBtw4X a b m) (ks := [0, 1, 2, 3, 4, 5, 6]) (vs := [a.rot.w, a.rot.x, a.rot.y, a.rot.z, a.pos.x, a.pos.y, a.pos.z]) ⟨rfl, rfl, rfl, rfl, rfl, rfl, rfl, trivial⟩).2 ia, ⟨(row_isL (xs := xpoBtw4X a b m) (ks := [7, 8, 9, 10, 11, 12, 13]) (vs := [b.rot.w, b.rot.x, b.rot.y, b.rot.z, b.pos.x, b.pos.y, b.pos.z]) ⟨rfl, rfl, rfl, rfl, rfl, rfl, rfl, trivial⟩).2 ib, ⟨(fr_isQ (xs := xpoBtw4X a b m) (k := 14) rfl).2 im, trivial⟩⟩⟩).mono ?_
  rintro e w' ⟨v, rfl, ⟨vs, rfl, h1⟩, h2⟩
  match vs, h1 with
  | [r, c], h1 =>
    obtain ⟨⟨cs, rfl, k1⟩, k2, _⟩ := h1
    have k2 : c = _ := k2
    subst k2
    exact ⟨_, rfl, ⟨_, rfl, zero_row (n := 7) k1⟩, h2⟩
theorem I_poBtw4 {xs : List Fq} {ys : Rho} {ka : List Nat} {kb : List Nat} {im : Nat} {a : Pq} {b : Pq} {m : Fq} {kr : List Nat} (aa : AtL xs ka [a.rot.w, a.rot.x, a.rot.y, a.rot.z, a.pos.x, a.pos.y, a.pos.z]) (ab : AtL xs kb [b.rot.w, b.rot.x, b.rot.y, b.rot.z, b.pos.x, b.pos.y, b.pos.z]) (am : xs[im]? = some m) (ar : AtL xs kr [Pq.zero.rot.w, Pq.zero.rot.x, Pq.zero.rot.y, Pq.zero.rot.z, Pq.zero.pos.x, Pq.zero.pos.y, Pq.zero.pos.z]) (ha : a.ok 100) (hb : b.ok 100) (hm : m.ok 100) (ga : a.good) (gb : b.good) (gm : m.valid = true) (hw : (a.rot.inv.mul b.rot).w.p = 0) (h0 : m.p ≠ 0) (h1 : m ≠ (Fq.ofInt 1)) : OkI xs ys ⟨36, [row ka, row kb, fr im], .tup [row kr, .one (.i .i64 4)]⟩ :=
  ⟨enters Tryz.func36 rfl rfl, fun B w vs hB h => by
    match vs, h with
    | [va, vb, vm], h =>
      refine (q_poBtw4 va vb vm a b m w ((row_isL aa).1 h.1) ((row_isL ab).1 h.2.1) ((fr_isQ am).1 h.2.2.1) ha hb hm ga gb gm hw h0 h1).mono ?_
      rintro e w' ⟨v, rfl, h1, h2⟩
      exact ⟨_, rfl, ⟨[v, .int .i64 4], rfl, (row_isL ar).2 h1, rfl, trivial⟩, h2⟩⟩
def xrpBtw1X (a : Pq) (b : Pq) (m : Fq) : List Fq := [a.rot.w, a.rot.x, a.rot.y, a.rot.z, a.pos.x, a.pos.y, a.pos.z, b.rot.w, b.rot.x, b.rot.y, b.rot.z, b.pos.x, b.pos.y, b.pos.z, m, (a.rot.way (a.rot.inv.mul b.rot) m).w, (a.rot.way (a.rot.inv.mul b.rot) m).x, (a.rot.way (a.rot.inv.mul b.rot) m).y, (a.rot.way (a.rot.inv.mul b.rot) m).z, (a.pos.lerp b.pos m).x, (a.pos.lerp b.pos m).y, (a.pos.lerp b.pos m).z]
theorem q_rpBtw1 (va vb vm : Value) (a : Pq) (b : Pq) (m : Fq) (w : World) (ia : IsOq w va a) (ib : IsOq w vb b) (im : IsQ w vm m) (ha : a.ok 100) (hb : b.ok 100) (hm : m.ok 100) (ga : a.good) (gb : b.good) (gm : m.valid = true) (hw : (a.rot.inv.mul b.rot).w.p ≠ 0) :
    Calls Tryz.prog 37 #[va, vb, vm] w fun e w' => RetOqE w (Pq.mk (a.rot.way (a.rot.inv.mul b.rot) m) (a.pos.lerp b.pos m)) 0 e w' := by
  refine (calls_runFn (ρ := frs (xrpBtw1X a b m) ++ []) (w := w) (fuel := 300) (args := [row [0, 1, 2, 3, 4, 5, 6], row [7, 8, 9, 10, 11, 12, 13], fr 14]) (vs := [va, vb, vm]) (r := .tup [row [15, 16, 17, 18, 19, 20, 21], .one (.i .i64 0)])
    (il_cons (I_rBtw1 (kp := [0, 1, 2, 3]) (p := a.rot) (kq := [7, 8, 9, 10]) (q := b.rot) (im := 14) (kr := [15, 16, 17, 18]) ⟨rfl, rfl, rfl, rfl, trivial⟩ ⟨rfl, rfl, rfl, rfl, trivial⟩ rfl ⟨rfl, rfl, rfl, rfl, trivial⟩ (ha.rot.mono (by decide)) (hb.rot.mono (by decide)) (hm.mono (by decide)) ga.rot gb.rot gm hw) (il_cons (I_r4Lerp (ka := [4, 5, 6]) (a := a.pos) (kb := [11, 12, 13]) (b := b.pos) (ik := 14) (kr := [19, 20, 21]) ⟨rfl, rfl, rfl, trivial⟩ ⟨rfl, rfl, rfl, trivial⟩ rfl ⟨rfl, rfl, rfl, trivial⟩ (ha.pos.mono (by decide)) (hb.pos.mono (by decide)) (hm.mono (by decide))) il_nil))
    ol_nil (by kernel_rfl) Tryz.func37 (by kernel_rfl) ⟨(row_isL (xs := xrpBtw1X a b m) (ks := [0, 1, 2, 3, 4, 5, 6]) (vs := [a.rot.w, a.rot.x, a.rot.y, a.rot.z, a.pos.x, a.pos.y, a.pos.z]) ⟨rfl, rfl, rfl, rfl, rfl, rfl, rfl, trivial⟩).2 ia, ⟨(row_isL (xs := xrpBtw1X a b m) (ks := [7, 8, 9, 10, 11, 12, 13]) (vs := [b.rot.w, b.rot.x, b.rot.y, b.rot.z, b.pos.x, b.pos.y, b.pos.z]) ⟨rfl, rfl, rfl, rfl, rfl, rfl, rfl, trivial⟩).2 ib, ⟨(fr_isQ (xs := xrpBtw1X a b m) (k := 14) rfl).2 im, trivial⟩⟩⟩).mono ?_
  rintro e w' ⟨v, rfl, ⟨vs, rfl, h1⟩, h2⟩
  match vs, h1 with
  | [r, c], h1 =>
    obtain ⟨⟨cs, rfl, k1⟩, k2, _⟩ := h1
    have k2 : c = _ := k2
    subst k2
    exact ⟨_, rfl, (row_isL (xs := xrpBtw1X a b m) (ks := [15, 16, 17, 18, 19, 20, 21]) (vs := [(a.rot.way (a.rot.inv.mul b.rot) m).w, (a.rot.way (a.rot.inv.mul b.rot) m).x, (a.rot.way (a.rot.inv.mul b.rot) m).y, (a.rot.way (a.rot.inv.mul b.rot) m).z, (a.pos.lerp b.pos m).x, (a.pos.lerp b.pos m).y, (a.pos.lerp b.pos m).z]) ⟨rfl, rfl, rfl, rfl, rfl, rfl, rfl, trivial⟩).1 ⟨_, rfl, k1⟩, h2⟩
theorem I_rpBtw1 {xs : List Fq} {ys : Rho} {ka : List Nat} {kb : List Nat} {im : Nat} {a : Pq} {b : Pq} {m : Fq} {kr : List Nat} (aa : AtL xs ka [a.rot.w, a.rot.x, a.rot.y, a.rot.z, a.pos.x, a.pos.y, a.pos.z]) (ab : AtL xs kb [b.rot.w, b.rot.x, b.rot.y, b.rot.z, b.pos.x, b.pos.y, b.pos.z]) (am : xs[im]? = some m) (ar : AtL xs kr [(a.rot.way (a.rot.inv.mul b.rot) m).w, (a.rot.way (a.rot.inv.mul b.rot) m).x, (a.rot.way (a.rot.inv.mul b.rot) m).y, (a.rot.way (a.rot.inv.mul b.rot) m).z, (a.pos.lerp b.pos m).x, (a.pos.lerp b.pos m).y, (a.pos.lerp b.pos m).z]) (ha : a.ok 100) (hb : b.ok 100) (hm : m.ok 100) (ga : a.good) (gb : b.good) (gm : m.valid = true) (hw : (a.rot.inv.mul b.rot).w.p ≠ 0) : OkI xs ys ⟨37, [row ka, row kb, fr im], .tup [row kr, .one (.i .i64 0)]⟩ :=
  ⟨enters Tryz.func37 rfl rfl, fun B w vs hB h => by
    match vs, h with
    | [va, vb, vm], h =>
      refine (q_rpBtw1 va vb vm a b m w ((row_isL aa).1 h.1) ((row_isL ab).1 h.2.1) ((fr_isQ am).1 h.2.2.1) ha hb hm ga gb gm hw).mono ?_
      rintro e w' ⟨v, rfl, h1, h2⟩
      exact ⟨_, rfl, ⟨[v, .int .i64 0], rfl, (row_isL ar).2 h1, rfl, trivial⟩, h2⟩⟩
def xrpBtw2X (a : Pq) (b : Pq) (m : Fq) : List Fq := [a.rot.w, a.rot.x, a.rot.y, a.rot.z, a.pos.x, a.pos.y, a.pos.z, b.rot.w, b.rot.x, b.rot.y, b.rot.z, b.pos.x, b.pos.y, b.pos.z, m, (a.pos.lerp b.pos m).x, (a.pos.lerp b.pos m).y, (a.pos.lerp b.pos m).z]
theorem q_rpBtw2 (va vb vm : Value) (a : Pq) (b : Pq) (m : Fq) (w : World) (ia : IsOq w va a) (ib : IsOq w vb b) (im : IsQ w vm m) (ha : a.ok 100) (hb : b.ok 100) (hm : m.ok 100) (ga : a.good) (gb : b.good) (gm : m.valid = true) (hw : (a.rot.inv.mul b.rot).w.p = 0) (h0 : m.p = 0) :
    Calls Tryz.prog 37 #[va, vb, vm] w fun e w' => RetOqE w (Pq.mk a.rot (a.pos.lerp b.pos m)) 0 e w' := by
  refine (calls_runFn (ρ := frs (xrpBtw2X a b m) ++ []) (w := w) (fuel := 300) (args := [row [0, 1, 2, 3, 4, 5, 6], row [7, 8, 9, 10, 11, 12, 13], fr 14]) (vs := [va, vb, vm]) (r := .tup [row [0, 1, 2, 3, 15, 16, 17], .one (.i .i64 0)])
    (il_cons (I_rBtw2 (kp := [0, 1, 2, 3]) (p := a.rot) (kq := [7, 8, 9, 10]) (q := b.rot) (im := 14) (kr := [0, 1, 2, 3]) ⟨rfl, rfl, rfl, rfl, trivial⟩ ⟨rfl, rfl, rfl, rfl, trivial⟩ rfl ⟨rfl, rfl, rfl, rfl, trivial⟩ (ha.rot.mono (by decide)) (hb.rot.mono (by decide)) (hm.mono (by decide)) ga.rot gb.rot gm hw h0) (il_cons (I_r4Lerp (ka := [4, 5, 6]) (a := a.pos) (kb := [11, 12, 13]) (b := b.pos) (ik := 14) (kr := [15, 16, 17]) ⟨rfl, rfl, rfl, trivial⟩ ⟨rfl, rfl, rfl, trivial⟩ rfl ⟨rfl, rfl, rfl, trivial⟩ (ha.pos.mono (by decide)) (hb.pos.mono (by decide)) (hm.mono (by decide))) il_nil))
    ol_nil (by kernel_rfl) Tryz.func37 (by kernel_rfl) ⟨(row_isL (xs := xrpBtw2X a b m) (ks := [0, 1, 2, 3, 4, 5, 6]) (vs := [a.rot.w, a.rot.x, a.rot.y, a.rot.z, a.pos.x, a.pos.y, a.pos.z]) ⟨rfl, rfl, rfl, rfl, rfl, rfl, rfl, trivial⟩).2 ia, ⟨(row_isL (xs := xrpBtw2X a b m) (ks := [7, 8, 9, 10, 11, 12, 13]) (vs := [b.rot.w, b.rot.x, b.rot.y, b.rot.z, b.pos.x, b.pos.y, b.pos.z]) ⟨rfl, rfl, rfl, rfl, rfl, rfl, rfl, trivial⟩).2 ib, ⟨(fr_isQ (xs := xrpBtw2X a b m) (k := 14) rfl).2 im, trivial⟩⟩⟩).mono ?_
  rintro e w' ⟨v, rfl, ⟨vs, rfl, h1⟩, h2⟩
  match vs, h1 with
  | [r, c], h1 =>
    obtain ⟨⟨cs, rfl, k1⟩, k2, _⟩ := h1
    have k2 : c = _ := k2
    subst k2
    exact ⟨_, rfl, (row_isL (xs := xrpBtw2X a b m) (ks := [0, 1, 2, 3, 15, 16, 17]) (vs := [a.rot.w, a.rot.x, a.rot.y, a.rot.z, (a.pos.lerp b.pos m).x, (a.pos.lerp b.pos m).y, (a.pos.lerp b.pos m).z]) ⟨rfl, rfl, rfl, rfl, rfl, rfl, rfl, trivial⟩).1 ⟨_, rfl, k1⟩, h2⟩
theorem I_rpBtw2 {xs : List Fq} {ys : Rho} {ka : List Nat} {kb : List Nat} {im : Nat} {a : Pq} {b : Pq} {m : Fq} {kr : List Nat} (aa : AtL xs ka [a.rot.w, a.rot.x, a.rot.y, a.rot.z, a.pos.x, a.pos.y, a.pos.z]) (ab : AtL xs kb [b.rot.w, b.rot.x, b.rot.y, b.rot.z, b.pos.x, b.pos.y, b.pos.z]) (am : xs[im]? = some m) (ar : AtL xs kr [a.rot.w, a.rot.x, a.rot.y, a.rot.z, (a.pos.lerp b.pos m).x, (a.pos.lerp b.pos m).y, (a.pos.lerp b.pos m).z]) (ha : a.ok 100) (hb : b.ok 100) (hm : m.ok 100) (ga : a.good) (gb : b.good) (gm : m.valid = true) (hw : (a.rot.inv.mul b.rot).w.p = 0) (h0 : m.p = 0) : OkI xs ys ⟨37, [row ka, row kb, fr im], .tup [row kr, .one (.i .i64 0)]⟩ :=
  ⟨enters Tryz.func37 rfl rfl, fun B w vs hB h => by
    match vs, h with
    | [va, vb, vm], h =>
      refine (q_rpBtw2 va vb vm a b m w ((row_isL aa).1 h.1) ((row_isL ab).1 h.2.1) ((fr_isQ am).1 h.2.2.1) ha hb hm ga gb gm hw h0).mono ?_
      rintro e w' ⟨v, rfl, h1, h2⟩
      exact ⟨_, rfl, ⟨[v, .int .i64 0], rfl, (row_isL ar).2 h1, rfl, trivial⟩, h2⟩⟩
def xrpBtw3X (a : Pq) (b : Pq) (m : Fq) : List Fq := [a.rot.w, a.rot.x, a.rot.y, a.rot.z, a.pos.x, a.pos.y, a.pos.z, b.rot.w, b.rot.x, b.rot.y, b.rot.z, b.pos.x, b.pos.y, b.pos.z, m, (a.pos.lerp b.pos m).x, (a.pos.lerp b.pos m).y, (a.pos.lerp b.pos m).z]
theorem q_rpBtw3 (va vb vm : Value) (a : Pq) (b : Pq) (m : Fq) (w : World) (ia : IsOq w va a) (ib : IsOq w vb b) (im : IsQ w vm m) (ha : a.ok 100) (hb : b.ok 100) (hm : m.ok 100) (ga : a.good) (gb : b.good) (gm : m.valid = true) (hw : (a.rot.inv.mul b.rot).w.p = 0) (h0 : m.p ≠ 0) (h1 : m = (Fq.ofInt 1)) :
    Calls Tryz.prog 37 #[va, vb, vm] w fun e w' => RetOqE w (Pq.mk b.rot (a.pos.lerp b.pos m)) 0 e w' := by
  refine (calls_runFn (ρ := frs (xrpBtw3X a b m) ++ []) (w := w) (fuel := 300) (args := [row [0, 1, 2, 3, 4, 5, 6], row [7, 8, 9, 10, 11, 12, 13], fr 14]) (vs := [va, vb, vm]) (r := .tup [row [7, 8, 9, 10, 15, 16, 17], .one (.i .i64 0)])
    (il_cons (I_rBtw3 (kp := [0, 1, 2, 3]) (p := a.rot) (kq := [7, 8, 9, 10]) (q := b.rot) (im := 14) (kr := [7, 8, 9, 10]) ⟨rfl, rfl, rfl, rfl, trivial⟩ ⟨rfl, rfl, rfl, rfl, trivial⟩ rfl ⟨rfl, rfl, rfl, rfl, trivial⟩ (ha.rot.mono (by decide)) (hb.rot.mono (by decide)) (hm.mono (by decide)) ga.rot gb.rot gm hw h0 h1) (il_cons (I_r4Lerp (ka := [4, 5, 6]) (a := a.pos) (kb := [11, 12, 13]) (b := b.pos) (ik := 14) (kr := [15, 16, 17]) ⟨rfl, rfl, rfl, trivial⟩ ⟨rfl, rfl, rfl, trivial⟩ rfl ⟨rfl, rfl, rfl, trivial⟩ (ha.pos.mono (by decide)) (hb.pos.mono (by decide)) (hm.mono (by decide))) il_nil))
    ol_nil (by kernel_rfl) Tryz.func37 (by kernel_rfl) ⟨(row_isL (xs := xrpBtw3X a b m) (ks := [0, 1, 2, 3, 4, 5, 6]) (vs := [a.rot.w, a.rot.x, a.rot.y, a.rot.z, a.pos.x, a.pos.y, a.pos.z]) ⟨rfl, rfl, rfl, rfl, rfl, rfl, rfl, trivial⟩).2 ia, ⟨(row_isL (xs := xrpBtw3X a b m) (ks := [7, 8, 9, 10, 11, 12, 13]) (vs := [b.rot.w, b.rot.x, b.rot.y, b.rot.z, b.pos.x, b.pos.y, b.pos.z]) ⟨rfl, rfl, rfl, rfl, rfl, rfl, rfl, trivial⟩).2 ib, ⟨(fr_isQ (xs := xrpBtw3X a b m) (k := 14) rfl).2 im, trivial⟩⟩⟩).mono ?_
  rintro e w' ⟨v, rfl, ⟨vs, rfl, h1⟩, h2⟩
  match vs, h1 with
  | [r, c], h1 =>
    obtain ⟨⟨cs, rfl, k1⟩, k2, _⟩ := h1
    have k2 : c = _ := k2
    subst k2
    exact ⟨_, rfl, (row_isL (xs := xrpBtw3X a b m) (ks := [7, 8, 9, 10, 15, 16, 17]) (vs := [b.rot.w, b.rot.x, b.rot.y, b.rot.z, (a.pos.lerp b.pos m).x, (a.pos.lerp b.pos m).y, (a.pos.lerp b.pos m).z]) ⟨rfl, rfl, rfl, rfl, rfl, rfl, rfl, trivial⟩).1 ⟨_, rfl, k1⟩, h2⟩
theorem I_rpBtw3 {xs : List Fq} {ys : Rho} {ka : List Nat} {kb : List Nat} {im : Nat} {a : Pq} {b : Pq} {m : Fq} {kr : List Nat} (aa : AtL xs ka [a.rot.w, a.rot.x, a.rot.y, a.rot.z, a.pos.x, a.pos.y, a.pos.z]) (ab : AtL xs kb [b.rot.w, b.rot.x, b.rot.y, b.rot.z, b.pos.x, b.pos.y, b.pos.z]) (am : xs[im]? = some m) (ar : AtL xs kr [b.rot.w, b.rot.x, b.rot.y, b.rot.z, (a.pos.lerp b.pos m).x, (a.pos.lerp b.pos m).y, (a.pos.lerp b.pos m).z]) (ha : a.ok 100) (hb : b.ok 100) (hm : m.ok 100) (ga : a.good) (gb : b.good) (gm : m.valid = true) (hw : (a.rot.inv.mul b.rot).w.p = 0) (h0 : m.p ≠ 0) (h1 : m = (Fq.ofInt 1)) : OkI xs ys ⟨37, [row ka, row kb, fr im], .tup [row kr, .one (.i .i64 0)]⟩ :=
  ⟨enters Tryz.func37 rfl rfl, fun B w vs hB h => by
    match vs, h with
    | [va, vb, vm], h =>
      refine (q_rpBtw3 va vb vm a b m w ((row_isL aa).1 h.1) ((row_isL ab).1 h.2.1) ((fr_isQ am).1 h.2.2.1) ha hb hm ga gb gm hw h0 h1).mono ?_
      rintro e w' ⟨v, rfl, h1, h2⟩
      exact ⟨_, rfl, ⟨[v, .int .i64 0], rfl, (row_isL ar).2 h1, rfl, trivial⟩, h2⟩⟩
def xrpBtw4X (a : Pq) (b : Pq) (m : Fq) : List Fq := [a.rot.w, a.rot.x, a.rot.y, a.rot.z, a.pos.x, a.pos.y, a.pos.z, b.rot.w, b.rot.x, b.rot.y, b.rot.z, b.pos.x, b.pos.y, b.pos.z, m, Qq.zero.w, Qq.zero.x, Qq.zero.y, Qq.zero.z]
theorem q_rpBtw4 (va vb vm : Value) (a : Pq) (b : Pq) (m : Fq) (w : World) (ia : IsOq w va a) (ib : IsOq w vb b) (im : IsQ w vm m) (ha : a.ok 100) (hb : b.ok 100) (hm : m.ok 100) (ga : a.good) (gb : b.good) (gm : m.valid = true) (hw : (a.rot.inv.mul b.rot).w.p = 0) (h0 : m.p ≠ 0) (h1 : m ≠ (Fq.ofInt 1)) :
    Calls Tryz.prog 37 #[va, vb, vm] w fun e w' => RetOqE w Pq.zero 4 e w' := by
  refine (calls_runFn (ρ := frs (xrpBtw4X a b m) ++ []) (w := w) (fuel := 300) (args := [row [0, 1, 2, 3, 4, 5, 6], row [7, 8, 9, 10, 11, 12, 13], fr 14]) (vs := [va, vb, vm]) (r := .tup [.agg [.b false, .sl0, .sl0, .b false, .sl0, .sl0, .b false, .sl0, .sl0, .b false, .sl0, .sl0, .b false, .sl0, .sl0, .b false, .sl0, .sl0, .b false, .sl0, .sl0], .one (.i .i64 4)])
    (il_cons (I_rBtw4 (kp := [0, 1, 2, 3]) (p := a.rot) (kq := [7, 8, 9, 10]) (q := b.rot) (im := 14) (kr := [15, 16, 17, 18]) ⟨rfl, rfl, rfl, rfl, trivial⟩ ⟨rfl, rfl, rfl, rfl, trivial⟩ rfl ⟨rfl, rfl, rfl, rfl, trivial⟩ (ha.rot.mono (by decide)) (hb.rot.mono (by decide)) (hm.mono (by decide)) ga.rot gb.rot gm hw h0 h1) il_nil)
    ol_nil (by kernel_rfl) Tryz.func37 (by kernel_rfl) ⟨(row_isL (xs := xrpBtw4X a b m) (ks := [0, 1, 2, 3, 4, 5, 6]) (vs := [a.rot.w, a.rot.x, a.rot.y, a.rot.z, a.pos.x, a.pos.y, a.pos.z]) ⟨rfl, rfl, rfl, rfl, rfl, rfl, rfl, trivial⟩).2 ia, ⟨(row_isL (xs := xrpBtw4X a b m) (ks := [7, 8, 9, 10, 11, 12, 13]) (vs := [b.rot.w, b.rot.x, b.rot.y, b.rot.z, b.pos.x, b.pos.y, b.pos.z]) ⟨rfl, rfl, rfl, rfl, rfl, rfl, rfl, trivial⟩).2 ib, ⟨(fr_isQ (xs := xrpBtw4X a b m) (k := 14) rfl).2 im, trivial⟩⟩⟩).mono ?_
  rintro e w' ⟨v, rfl, ⟨vs, rfl, h1⟩, h2⟩
  match vs, h1 with
  | [r, c], h1 =>
    obtain ⟨⟨cs, rfl, k1⟩, k2, _⟩ := h1
    have k2 : c = _ := k2
    subst k2
    exact ⟨_, rfl, ⟨_, rfl, zero_row (n := 7) k1⟩, h2⟩
theorem I_rpBtw4 {xs : List Fq} {ys : Rho} {ka : List Nat} {kb : List Nat} {im : Nat} {a : Pq} {b : Pq} {m : Fq} {kr : List Nat} (aa : AtL xs ka [a.rot.w, a.rot.x, a.rot.y, a.rot.z, a.pos.x, a.pos.y, a.pos.z]) (ab : AtL xs kb [b.rot.w, b.rot.x, b.rot.y, b.rot.z, b.pos.x, b.pos.y, b.pos.z]) (am : xs[im]? = some m) (ar : AtL xs kr [Pq.zero.rot.w, Pq.zero.rot.x, Pq.zero.rot.y, Pq.zero.rot.z, Pq.zero.pos.x, Pq.zero.pos.y, Pq.zero.pos.z]) (ha : a.ok 100) (hb : b.ok 100) (hm : m.ok 100) (ga : a.good) (gb : b.good) (gm : m.valid = true) (hw : (a.rot.inv.mul b.rot).w.p = 0) (h0 : m.p ≠ 0) (h1 : m ≠ (Fq.ofInt 1)) : OkI xs ys ⟨37, [row ka, row kb, fr im], .tup [row kr, .one (.i .i64 4)]⟩ :=
  ⟨enters Tryz.func37 rfl rfl, fun B w vs hB h => by
    match vs, h with
    | [va, vb, vm], h =>
      refine (q_rpBtw4 va vb vm a b m w ((row_isL aa).1 h.1) ((row_isL ab).1 h.2.1) ((fr_isQ am).1 h.2.2.1) ha hb hm ga gb gm hw h0 h1).mono ?_
      rintro e w' ⟨v, rfl, h1, h2⟩
      exact ⟨_, rfl, ⟨[v, .int .i64 4], rfl, (row_isL ar).2 h1, rfl, trivial⟩, h2⟩⟩
end Go.Proofs.YthebfmlfgfmlnaaGreatDoor
namespace Go.Proofs.YthebfmlfgfmlnaaGreatDoor
set_option linter.unusedSimpArgs false
set_option linter.unusedVariables false
set_option maxRecDepth 100000
open Go.RowKit
def Rq.smm (m : Nat) (r : Rq) : Bool := r.vld && (decide (r.L ≤ 1) && (decide (r.N = 1) && (decide (D r.q 0 ≤ m) && (decide (r.L = 0) || decide (D r.p 0 ≤ m)))))
theorem rw_of {w : World} {a : Option Addr} {L c N : Nat} (h : IsR w (.agg #[.slice a L c]) L N) : Rw w a L N := by
  obtain ⟨a1, c1, e, _, r⟩ := h
  injection e with e
  have := congrArg (fun x : Array Value => x[0]?) e
  simp at this
  rw [this.1]; exact r
set_option maxRecDepth 100000 in
theorem q_small (x : Value) (r : Rq) (m : Nat) (w : World) (h : IsL w x [r]) (hL : r.L ≤ 1100000) (hN : r.N ≤ 1100000) (hm : m < 4294967296) :
    Calls Tryz.prog 35 #[x, .int .u32 (m : Int)] w fun e w' => RetV w (.bool (r.smm m)) e w' := by
  have hF := isL_FR h
  obtain ⟨M, hM⟩ : ∃ M : Int, Hid (M = (m : Int)) := ⟨_, Lib.hid rfl⟩
  rw [← hM.out]
  obtain ⟨a, c, b, d, rfl, i1, i2⟩ := hF
  have hw := bel1 w (.cells #[.bool r.s, .slice a r.L c, .slice b r.N d] 26)
  have h' := h.mono hw
  have v0 := VarFB.made w r.s a r.L c b r.N d
  generalize hw0 : w.alloc (.cells #[.bool r.s, .slice a r.L c, .slice b r.N d] 26) = w0 at hw h' v0
  have j1 := i1.mono hw
  have j2 := i2.mono hw
  clear hm
  go_enter Tryz.func35, Tryz.ntmps35
  have c0 := v0.cell0
  have c1 := v0.cell1
  have c2 := v0.cell2
  go_wp2_with fail
  refine (q_rValidXU _ _ h' hL hN).mono ?_
  rintro e w1 ⟨rfl, hb1⟩
  have hw1 := hw.trans (hb1.mono hw.size)
  have v1 := v0.mono hb1 v0.lt
  have r1 := rw_of (j1.mono hb1)
  have r2 := rw_of (j2.mono hb1)
  have c0 := v1.cell0
  have c1 := v1.cell1
  have c2 := v1.cell2
  rcases Bool.eq_false_or_eq_true r.vld with hv | hv
  · by_cases hl : r.L ≤ 1
    · have hl' : (r.L : Int) ≤ 1 := by omega
      by_cases hn : r.N = 1
      · obtain ⟨g2, o2, rfl, d2⟩ := r2.cells (by omega)
        have hn' : ((r.N : Int) == 1) = true := by rw [beq_iff_eq]; omega
        have d2' := d2 0 (by omega)
        rw [Nat.add_zero] at d2'
        have hnp : 0 < r.N := by omega
        have HN := Lib.hid hn
        clear hn
        by_cases hq : D r.q 0 ≤ m
        · have hq' : ((D r.q 0 : Nat) : Int) ≤ M := by have := hM.out; omega
          have HQ := Lib.hid hq
          clear hq
          by_cases h0 : r.L = 0
          · have h0' : ((r.L : Int) == 0) = true := by rw [beq_iff_eq]; omega
            rw [hv]
            go_wp2
            go_ret
            exact ⟨by simp [Rq.smm, hv, HN.out, h0, HQ.out], hw1⟩
          · have hl1 : r.L = 1 := by omega
            have h0' : ((r.L : Int) == 0) = false := by rw [beq_eq_false_iff_ne]; omega
            obtain ⟨g1, o1, rfl, d1⟩ := r1.cells (by omega)
            have d1' := d1 0 (by omega)
            rw [Nat.add_zero] at d1'
            have hlp : 0 < r.L := by omega
            have HL := Lib.hid hl1
            clear hl1 h0
            by_cases hp : D r.p 0 ≤ m
            · have hp' : ((D r.p 0 : Nat) : Int) ≤ M := by have := hM.out; omega
              have HP := Lib.hid hp
              clear hp
              rw [hv]
              go_wp2
              go_ret
              exact ⟨by simp [Rq.smm, hv, HN.out, HL.out, HQ.out, HP.out], hw1⟩
            · have hp' : ¬ ((D r.p 0 : Nat) : Int) ≤ M := by have := hM.out; omega
              have HP := Lib.hid hp
              clear hp
              rw [hv]
              go_wp2
              go_ret
              exact ⟨by simp [Rq.smm, hv, HN.out, HL.out, HQ.out]; exact ⟨fun h => absurd h (Int.not_le.2 hp'), fun h => absurd h HP.out⟩, hw1⟩
        · have hq' : ¬ ((D r.q 0 : Nat) : Int) ≤ M := by have := hM.out; omega
          have HQ := Lib.hid hq
          clear hq
          rw [hv]
          go_wp2
          go_ret
          exact ⟨by simp [Rq.smm, hv, HN.out, hl, HQ.out], hw1⟩
      · have hn' : ((r.N : Int) == 1) = false := by rw [beq_eq_false_iff_ne]; omega
        rw [hv]
        go_wp2
        go_ret
        exact ⟨by simp [Rq.smm, hv, hn], hw1⟩
    · have hl' : ¬ (r.L : Int) ≤ 1 := by omega
      rw [hv]
      go_wp2
      go_ret
      exact ⟨by simp [Rq.smm, hl], hw1⟩
  · rw [hv]
    go_wp2
    go_ret
    exact ⟨by simp [Rq.smm, hv], hw1⟩
end Go.Proofs.YthebfmlfgfmlnaaGreatDoor
namespace Go.Proofs.YthebfmlfgfmlnaaGreatDoor
set_option linter.unusedSimpArgs false
set_option linter.unusedVariables false
set_option maxRecDepth 100000
open Go.RowKit
def xrpValid0X (a : Pq) : List Fq := [a.rot.w, a.rot.x, a.rot.y, a.rot.z, a.pos.x, a.pos.y, a.pos.z]
theorem q_rpValid0 (va : Value) (a : Pq) (w : World) (ia : IsOq w va a) (ha : a.ok 1000000) (gc : a.rot.comp) (hf : a.rot.first ≠ (Fq.ofInt 1)) :
    Calls Tryz.prog 12 #[va] w fun e w' => RetV w (.bool false) e w' := by
  refine (calls_runFn (ρ := frs (xrpValid0X a) ++ []) (w := w) (fuel := 300) (args := [row [0, 1, 2, 3, 4, 5, 6]]) (vs := [va]) (r := .v (.one (.b false)))
    (il_cons (I_rValidT0 (kq := [0, 1, 2, 3]) (q := a.rot) ⟨rfl, rfl, rfl, rfl, trivial⟩ (ha.rot.mono (by decide)) gc hf) il_nil)
    ol_nil (by kernel_rfl) Tryz.func12 (by kernel_rfl) ⟨(row_isL (xs := xrpValid0X a) (ks := [0, 1, 2, 3, 4, 5, 6]) (vs := [a.rot.w, a.rot.x, a.rot.y, a.rot.z, a.pos.x, a.pos.y, a.pos.z]) ⟨rfl, rfl, rfl, rfl, rfl, rfl, rfl, trivial⟩).2 ia, trivial⟩).mono ?_
  rintro e w' ⟨v, rfl, h1, h2⟩
  exact ⟨congrArg Ending.returned h1, h2⟩
theorem q_rpValidB (va : Value) (a : Pq) (w : World) (ia : IsOq w va a) (ha : a.ok 1000000) (gc : a.rot.comp) (gp : a.pos.good) : Calls Tryz.prog 12 #[va] w fun e w' => RetV w (.bool (a.rot.first.same (Fq.ofInt 1))) e w' := by
  by_cases h : a.rot.first = Fq.ofInt 1
  · rw [Fq.same_iff.2 h]; exact q_rpValid va a w ia ha ⟨good_of gc h, gp⟩
  · rw [same_ne h]; exact q_rpValid0 va a w ia ha gc h
/-- The first component that is not zero is one. -/
def rawP (r0 r1 r2 r3 : Rq) : Bool := (Qq.mk ⟨r0.s, r0.p, r0.q⟩ ⟨r1.s, r1.p, r1.q⟩ ⟨r2.s, r2.p, r2.q⟩ ⟨r3.s, r3.p, r3.q⟩).first.same (Fq.ofInt 1)
def vecB (m : Nat) (a b c : Rq) : Bool := a.smm m && (b.smm m && c.smm m)
def poseB (m : Nat) (r0 r1 r2 r3 r4 r5 r6 : Rq) : Bool := r0.smm m && (r1.smm m && (r2.smm m && (r3.smm m && (vecB m r4 r5 r6 && rawP r0 r1 r2 r3))))
def Vq.lim (m : Nat) (a : Vq) : Bool := vecB m a.x.raw a.y.raw a.z.raw
def Pq.lim (m : Nat) (a : Pq) : Bool := poseB m a.rot.w.raw a.rot.x.raw a.rot.y.raw a.rot.z.raw a.pos.x.raw a.pos.y.raw a.pos.z.raw
theorem smm_q {m : Nat} {r : Rq} (h : r.smm m = true) : ∃ x : Fq, r = x.raw ∧ x.valid = true ∧ x.ok 4 ∧ x = ⟨r.s, r.p, r.q⟩ := by
  simp only [Rq.smm, Bool.and_eq_true, decide_eq_true_eq] at h
  have h1 := vld_nl h.1
  have h2 := vld_raw h.1
  exact ⟨_, h2.1, h2.2, ⟨by show nl r.p ≤ 4; omega, by show nl r.q ≤ 4; omega, Fq.valid.n h2.2⟩, rfl⟩
theorem vecB_v {m : Nat} {a b c : Rq} (h : vecB m a b c = true) : ∃ x : Vq, a = x.x.raw ∧ b = x.y.raw ∧ c = x.z.raw ∧ x.good ∧ x.ok 4 ∧ x.lim m = true := by
  have h' := h
  simp only [vecB, Bool.and_eq_true] at h'
  obtain ⟨x, e1, v1, k1, _⟩ := smm_q h'.1
  obtain ⟨y, e2, v2, k2, _⟩ := smm_q h'.2.1
  obtain ⟨z, e3, v3, k3, _⟩ := smm_q h'.2.2
  subst e1; subst e2; subst e3
  exact ⟨⟨x, y, z⟩, rfl, rfl, rfl, ⟨v1, v2, v3⟩, ⟨k1, k2, k3⟩, h⟩
theorem poseB_v {m : Nat} {r0 r1 r2 r3 r4 r5 r6 : Rq} (h : poseB m r0 r1 r2 r3 r4 r5 r6 = true) : ∃ p : Pq, r0 = p.rot.w.raw ∧ r1 = p.rot.x.raw ∧ r2 = p.rot.y.raw ∧ r3 = p.rot.z.raw ∧ r4 = p.pos.x.raw ∧ r5 = p.pos.y.raw ∧ r6 = p.pos.z.raw ∧ p.good ∧ p.ok 4 ∧ p.lim m = true := by
  have h' := h
  simp only [poseB, Bool.and_eq_true] at h'
  obtain ⟨h0, h1, h2, h3, h4, h5⟩ := h'
  obtain ⟨x0, e0, v0, k0, d0⟩ := smm_q h0
  obtain ⟨x1, e1, v1, k1, d1⟩ := smm_q h1
  obtain ⟨x2, e2, v2, k2, d2⟩ := smm_q h2
  obtain ⟨x3, e3, v3, k3, d3⟩ := smm_q h3
  obtain ⟨v, e4, e5, e6, gv, kv, _⟩ := vecB_v h4
  unfold rawP at h5
  rw [← d0, ← d1, ← d2, ← d3] at h5
  subst e4; subst e5; subst e6
  subst e0; subst e1; subst e2; subst e3
  exact ⟨⟨⟨x0, x1, x2, x3⟩, v⟩, rfl, rfl, rfl, rfl, rfl, rfl, rfl, ⟨good_of ⟨v0, v1, v2, v3⟩ (Fq.same_iff.1 h5), gv⟩, ⟨⟨k0, k1, k2, k3⟩, kv⟩, h⟩
theorem I_small {xs : List Fq} {ys : Rho} {n : Nat} {r : Rq} {d : Bool} (hr : AtR (frs xs ++ ys) [n] [r]) (m : Nat) (hm : m < 4294967296) (hd : r.smm m = d) (hL : r.L ≤ 1100000) (hN : r.N ≤ 1100000) : OkI xs ys ⟨35, [rowN [n], .one (.i .u32 (m : Int))], .v (.one (.b d))⟩ :=
  ⟨enters Tryz.func35 rfl rfl, fun B w vs hB h => by
    match vs, h with
    | [x, y], h =>
      have e : y = .int .u32 (m : Int) := h.2.1
      subst e
      refine (q_small x r m w ((rowN_isL hr).1 h.1) hL hN hm).mono ?_
      rintro e w' ⟨rfl, h2⟩
      exact ⟨_, rfl, by subst hd; rfl, h2⟩⟩
theorem I_rpValidS {xs : List Fq} {ys : Rho} {ns : List Nat} {r0 r1 r2 r3 r4 r5 r6 : Rq} {d : Bool} (m : Nat) (hr : AtR (frs xs ++ ys) ns [r0, r1, r2, r3, r4, r5, r6]) (h0 : r0.smm m = true) (h1 : r1.smm m = true) (h2 : r2.smm m = true) (h3 : r3.smm m = true) (h4 : vecB m r4 r5 r6 = true) (hd : rawP r0 r1 r2 r3 = d) : OkI xs ys ⟨12, [rowN ns], .v (.one (.b d))⟩ :=
  ⟨enters Tryz.func12 rfl rfl, fun B w vs hB h => by
    match vs, h with
    | [x], h =>
      have hx := (rowN_isL hr).1 h.1
      obtain ⟨x0, e0, v0, k0, d0⟩ := smm_q h0
      obtain ⟨x1, e1, v1, k1, d1⟩ := smm_q h1
      obtain ⟨x2, e2, v2, k2, d2⟩ := smm_q h2
      obtain ⟨x3, e3, v3, k3, d3⟩ := smm_q h3
      obtain ⟨v, e4, e5, e6, gv, kv, _⟩ := vecB_v h4
      unfold rawP at hd
      rw [← d0, ← d1, ← d2, ← d3] at hd
      subst e4; subst e5; subst e6
      subst e0; subst e1; subst e2; subst e3
      refine (q_rpValidB x ⟨⟨x0, x1, x2, x3⟩, v⟩ w hx (Pq.ok.mono (d := 4) ⟨⟨k0, k1, k2, k3⟩, kv⟩ (by decide)) ⟨v0, v1, v2, v3⟩ gv).mono ?_
      rintro e w' ⟨rfl, h2⟩
      exact ⟨_, rfl, by rw [hd]; rfl, h2⟩⟩
def Fq.lim (m : Nat) (x : Fq) : Bool := x.raw.smm m
theorem smm_l {m : Nat} {r : Rq} (h : r.smm m = true) : ∃ x : Fq, r = x.raw ∧ x.valid = true ∧ x.ok 4 ∧ x.lim m = true := by
  obtain ⟨x, e, v, k, _⟩ := smm_q h
  subst e; exact ⟨x, rfl, v, k, h⟩
theorem isL_Q {w : World} {x : Value} {q : Fq} (h : IsL w x [q.raw]) : IsQ w x q := (isL_FR h).isQ rfl rfl
theorem isQ_L {w : World} {x : Value} {q : Fq} (h : IsQ w x q) : IsL w x [q.raw] := by
  obtain ⟨a, c, b, d, e, i1, i2⟩ := h
  exact ⟨_, e, a, c, b, d, [], rfl, i1, i2, rfl⟩
theorem I_smallQ {xs : List Fq} {ys : Rho} {i : Nat} {x : Fq} (hi : xs[i]? = some x) (m : Nat) (hm : m < 4294967296) (h0 : x.lim m = true) (hx : x.ok 4) : OkI xs ys ⟨35, [fr i, .one (.i .u32 (m : Int))], .v (.one (.b true))⟩ :=
  ⟨enters Tryz.func35 rfl rfl, fun B w vs hB h => by
    match vs, h with
    | [v, y], h =>
      have e : y = .int .u32 (m : Int) := h.2.1
      subst e
      refine (q_small v x.raw m w (isQ_L ((fr_isQ hi).1 h.1)) (Nat.le_trans hx.p (by decide)) (Nat.le_trans hx.q (by decide)) hm).mono ?_
      rintro e w' ⟨rfl, h2⟩
      exact ⟨_, rfl, by rw [show x.raw.smm m = true from h0]; rfl, h2⟩⟩
def xSmallVec90X (r0 r1 r2 : Rq) : List Fq := []
def xSmallVec91X (r0 r1 r2 : Rq) : List Fq := []
def xSmallVec92X (r0 r1 r2 : Rq) : List Fq := []
def xSmallVec93X (r0 r1 r2 : Rq) : List Fq := []
theorem q_SmallVec9 (x : Value) (r0 r1 r2 : Rq) (w : World) (h : IsL w x [r0, r1, r2]) (lr0 : r0.L ≤ 1100000) (nr0 : r0.N ≤ 1100000) (lr1 : r1.L ≤ 1100000) (nr1 : r1.N ≤ 1100000) (lr2 : r2.L ≤ 1100000) (nr2 : r2.N ≤ 1100000) : Calls Tryz.prog 19 #[x, .int .u32 9] w fun e w' => RetV w (.bool (vecB 9 r0 r1 r2)) e w' := by
  rcases Bool.eq_false_or_eq_true (r0.smm 9) with c0 | c0
  · rcases Bool.eq_false_or_eq_true (r1.smm 9) with c1 | c1
    · rcases Bool.eq_false_or_eq_true (r2.smm 9) with c2 | c2
      · refine (calls_runFn (ρ := frs (xSmallVec90X r0 r1 r2) ++ [.val (.bool r0.s), .dig r0.L r0.p, .dig r0.N r0.q, .val (.bool r1.s), .dig r1.L r1.p, .dig r1.N r1.q, .val (.bool r2.s), .dig r2.L r2.p, .dig r2.N r2.q]) (w := w) (fuel := 300) (args := [rowN [0, 3, 6], .one (.i .u32 9)]) (vs := [x, .int .u32 9]) (r := .v (.one (.b true)))
          (il_cons (I_small (n := 0) (r := r0) (d := true) ⟨⟨rfl, rfl, rfl⟩, trivial⟩ 9 (by decide) c0 lr0 nr0) (il_cons (I_small (n := 3) (r := r1) (d := true) ⟨⟨rfl, rfl, rfl⟩, trivial⟩ 9 (by decide) c1 lr1 nr1) (il_cons (I_small (n := 6) (r := r2) (d := true) ⟨⟨rfl, rfl, rfl⟩, trivial⟩ 9 (by decide) c2 lr2 nr2) il_nil)))
          ol_nil (by kernel_rfl) Tryz.func19 (by kernel_rfl) ⟨(rowN_isL (ns := [0, 3, 6]) (rs := [r0, r1, r2]) ⟨⟨rfl, rfl, rfl⟩, ⟨rfl, rfl, rfl⟩, ⟨rfl, rfl, rfl⟩, trivial⟩).2 h, rfl, trivial⟩).mono ?_
        rintro e w' ⟨v, rfl, h1, h2⟩
        have h1 : v = .bool _ := h1
        subst h1
        exact ⟨by simp [vecB, c0, c1, c2], h2⟩
      · refine (calls_runFn (ρ := frs (xSmallVec91X r0 r1 r2) ++ [.val (.bool r0.s), .dig r0.L r0.p, .dig r0.N r0.q, .val (.bool r1.s), .dig r1.L r1.p, .dig r1.N r1.q, .val (.bool r2.s), .dig r2.L r2.p, .dig r2.N r2.q]) (w := w) (fuel := 300) (args := [rowN [0, 3, 6], .one (.i .u32 9)]) (vs := [x, .int .u32 9]) (r := .v (.one (.b false)))
          (il_cons (I_small (n := 0) (r := r0) (d := true) ⟨⟨rfl, rfl, rfl⟩, trivial⟩ 9 (by decide) c0 lr0 nr0) (il_cons (I_small (n := 3) (r := r1) (d := true) ⟨⟨rfl, rfl, rfl⟩, trivial⟩ 9 (by decide) c1 lr1 nr1) (il_cons (I_small (n := 6) (r := r2) (d := false) ⟨⟨rfl, rfl, rfl⟩, trivial⟩ 9 (by decide) c2 lr2 nr2) il_nil)))
          ol_nil (by kernel_rfl) Tryz.func19 (by kernel_rfl) ⟨(rowN_isL (ns := [0, 3, 6]) (rs := [r0, r1, r2]) ⟨⟨rfl, rfl, rfl⟩, ⟨rfl, rfl, rfl⟩, ⟨rfl, rfl, rfl⟩, trivial⟩).2 h, rfl, trivial⟩).mono ?_
        rintro e w' ⟨v, rfl, h1, h2⟩
        have h1 : v = .bool _ := h1
        subst h1
        exact ⟨by simp [vecB, c0, c1, c2], h2⟩
    · refine (calls_runFn (ρ := frs (xSmallVec92X r0 r1 r2) ++ [.val (.bool r0.s), .dig r0.L r0.p, .dig r0.N r0.q, .val (.bool r1.s), .dig r1.L r1.p, .dig r1.N r1.q, .val (.bool r2.s), .dig r2.L r2.p, .dig r2.N r2.q]) (w := w) (fuel := 300) (args := [rowN [0, 3, 6], .one (.i .u32 9)]) (vs := [x, .int .u32 9]) (r := .v (.one (.b false)))
        (il_cons (I_small (n := 0) (r := r0) (d := true) ⟨⟨rfl, rfl, rfl⟩, trivial⟩ 9 (by decide) c0 lr0 nr0) (il_cons (I_small (n := 3) (r := r1) (d := false) ⟨⟨rfl, rfl, rfl⟩, trivial⟩ 9 (by decide) c1 lr1 nr1) il_nil))
        ol_nil (by kernel_rfl) Tryz.func19 (by kernel_rfl) ⟨(rowN_isL (ns := [0, 3, 6]) (rs := [r0, r1, r2]) ⟨⟨rfl, rfl, rfl⟩, ⟨rfl, rfl, rfl⟩, ⟨rfl, rfl, rfl⟩, trivial⟩).2 h, rfl, trivial⟩).mono ?_
      rintro e w' ⟨v, rfl, h1, h2⟩
      have h1 : v = .bool _ := h1
      subst h1
      exact ⟨by simp [vecB, c0, c1], h2⟩
  · refine (calls_runFn (ρ := frs (xSmallVec93X r0 r1 r2) ++ [.val (.bool r0.s), .dig r0.L r0.p, .dig r0.N r0.q, .val (.bool r1.s), .dig r1.L r1.p, .dig r1.N r1.q, .val (.bool r2.s), .dig r2.L r2.p, .dig r2.N r2.q]) (w := w) (fuel := 300) (args := [rowN [0, 3, 6], .one (.i .u32 9)]) (vs := [x, .int .u32 9]) (r := .v (.one (.b false)))
      (il_cons (I_small (n := 0) (r := r0) (d := false) ⟨⟨rfl, rfl, rfl⟩, trivial⟩ 9 (by decide) c0 lr0 nr0) il_nil)
      ol_nil (by kernel_rfl) Tryz.func19 (by kernel_rfl) ⟨(rowN_isL (ns := [0, 3, 6]) (rs := [r0, r1, r2]) ⟨⟨rfl, rfl, rfl⟩, ⟨rfl, rfl, rfl⟩, ⟨rfl, rfl, rfl⟩, trivial⟩).2 h, rfl, trivial⟩).mono ?_
    rintro e w' ⟨v, rfl, h1, h2⟩
    have h1 : v = .bool _ := h1
    subst h1
    exact ⟨by simp [vecB, c0], h2⟩
theorem I_SmallVec9 {xs : List Fq} {ys : Rho} {ns : List Nat} {r0 r1 r2 : Rq} {d : Bool} (hr : AtR (frs xs ++ ys) ns [r0, r1, r2]) (hd : vecB 9 r0 r1 r2 = d) (lr0 : r0.L ≤ 1100000) (nr0 : r0.N ≤ 1100000) (lr1 : r1.L ≤ 1100000) (nr1 : r1.N ≤ 1100000) (lr2 : r2.L ≤ 1100000) (nr2 : r2.N ≤ 1100000) : OkI xs ys ⟨19, [rowN ns, .one (.i .u32 9)], .v (.one (.b d))⟩ :=
  ⟨enters Tryz.func19 rfl rfl, fun B w vs hB h => by
    match vs, h with
    | [x, y], h =>
      have e : y = .int .u32 9 := h.2.1
      subst e
      refine (q_SmallVec9 x r0 r1 r2 w ((rowN_isL hr).1 h.1) lr0 nr0 lr1 nr1 lr2 nr2).mono ?_
      rintro e w' ⟨rfl, h2⟩
      exact ⟨_, rfl, by subst hd; rfl, h2⟩⟩
theorem I_SmallVec9Q {xs : List Fq} {ys : Rho} {ks : List Nat} {a : Vq} (ar : AtL xs ks [a.x, a.y, a.z]) (h0 : a.lim 9 = true) (ha : a.ok 4) : OkI xs ys ⟨19, [row ks, .one (.i .u32 9)], .v (.one (.b true))⟩ :=
  ⟨enters Tryz.func19 rfl rfl, fun B w vs hB h => by
    match vs, h with
    | [x, y], h =>
      have e : y = .int .u32 9 := h.2.1
      subst e
      refine (q_SmallVec9 x (a.x.raw) (a.y.raw) (a.z.raw) w ((row_isL ar).1 h.1) (Nat.le_trans ha.x.p (by decide)) (Nat.le_trans ha.x.q (by decide)) (Nat.le_trans ha.y.p (by decide)) (Nat.le_trans ha.y.q (by decide)) (Nat.le_trans ha.z.p (by decide)) (Nat.le_trans ha.z.q (by decide))).mono ?_
      rintro e w' ⟨rfl, h2⟩
      exact ⟨_, rfl, by rw [show vecB 9 (a.x.raw) (a.y.raw) (a.z.raw) = true from h0]; rfl, h2⟩⟩
def xSmall90X (r0 r1 r2 r3 r4 r5 r6 : Rq) : List Fq := []
def xSmall91X (r0 r1 r2 r3 r4 r5 r6 : Rq) : List Fq := []
def xSmall92X (r0 r1 r2 r3 r4 r5 r6 : Rq) : List Fq := []
def xSmall93X (r0 r1 r2 r3 r4 r5 r6 : Rq) : List Fq := []
def xSmall94X (r0 r1 r2 r3 r4 r5 r6 : Rq) : List Fq := []
def xSmall95X (r0 r1 r2 r3 r4 r5 r6 : Rq) : List Fq := []
def xSmall96X (r0 r1 r2 r3 r4 r5 r6 : Rq) : List Fq := []
theorem q_Small9 (x : Value) (r0 r1 r2 r3 r4 r5 r6 : Rq) (w : World) (h : IsL w x [r0, r1, r2, r3, r4, r5, r6]) (lr0 : r0.L ≤ 1100000) (nr0 : r0.N ≤ 1100000) (lr1 : r1.L ≤ 1100000) (nr1 : r1.N ≤ 1100000) (lr2 : r2.L ≤ 1100000) (nr2 : r2.N ≤ 1100000) (lr3 : r3.L ≤ 1100000) (nr3 : r3.N ≤ 1100000) (lr4 : r4.L ≤ 1100000) (nr4 : r4.N ≤ 1100000) (lr5 : r5.L ≤ 1100000) (nr5 : r5.N ≤ 1100000) (lr6 : r6.L ≤ 1100000) (nr6 : r6.N ≤ 1100000) : Calls Tryz.prog 13 #[x, .int .u32 9] w fun e w' => RetV w (.bool (poseB 9 r0 r1 r2 r3 r4 r5 r6)) e w' := by
  rcases Bool.eq_false_or_eq_true (r0.smm 9) with c0 | c0
  · rcases Bool.eq_false_or_eq_true (r1.smm 9) with c1 | c1
    · rcases Bool.eq_false_or_eq_true (r2.smm 9) with c2 | c2
      · rcases Bool.eq_false_or_eq_true (r3.smm 9) with c3 | c3
        · rcases Bool.eq_false_or_eq_true (vecB 9 r4 r5 r6) with c4 | c4
          · rcases Bool.eq_false_or_eq_true (rawP r0 r1 r2 r3) with c5 | c5
            · refine (calls_runFn (ρ := frs (xSmall90X r0 r1 r2 r3 r4 r5 r6) ++ [.val (.bool r0.s), .dig r0.L r0.p, .dig r0.N r0.q, .val (.bool r1.s), .dig r1.L r1.p, .dig r1.N r1.q, .val (.bool r2.s), .dig r2.L r2.p, .dig r2.N r2.q, .val (.bool r3.s), .dig r3.L r3.p, .dig r3.N r3.q, .val (.bool r4.s), .dig r4.L r4.p, .dig r4.N r4.q, .val (.bool r5.s), .dig r5.L r5.p, .dig r5.N r5.q, .val (.bool r6.s), .dig r6.L r6.p, .dig r6.N r6.q]) (w := w) (fuel := 300) (args := [rowN [0, 3, 6, 9, 12, 15, 18], .one (.i .u32 9)]) (vs := [x, .int .u32 9]) (r := .v (.one (.b true)))
                (il_cons (I_small (n := 0) (r := r0) (d := true) ⟨⟨rfl, rfl, rfl⟩, trivial⟩ 9 (by decide) c0 lr0 nr0) (il_cons (I_small (n := 3) (r := r1) (d := true) ⟨⟨rfl, rfl, rfl⟩, trivial⟩ 9 (by decide) c1 lr1 nr1) (il_cons (I_small (n := 6) (r := r2) (d := true) ⟨⟨rfl, rfl, rfl⟩, trivial⟩ 9 (by decide) c2 lr2 nr2) (il_cons (I_small (n := 9) (r := r3) (d := true) ⟨⟨rfl, rfl, rfl⟩, trivial⟩ 9 (by decide) c3 lr3 nr3) (il_cons (I_SmallVec9 (ns := [12, 15, 18]) ⟨⟨rfl, rfl, rfl⟩, ⟨rfl, rfl, rfl⟩, ⟨rfl, rfl, rfl⟩, trivial⟩ c4 lr4 nr4 lr5 nr5 lr6 nr6) (il_cons (I_rpValidS (ns := [0, 3, 6, 9, 12, 15, 18]) (d := true) 9 ⟨⟨rfl, rfl, rfl⟩, ⟨rfl, rfl, rfl⟩, ⟨rfl, rfl, rfl⟩, ⟨rfl, rfl, rfl⟩, ⟨rfl, rfl, rfl⟩, ⟨rfl, rfl, rfl⟩, ⟨rfl, rfl, rfl⟩, trivial⟩ c0 c1 c2 c3 c4 c5) il_nil))))))
                ol_nil (by kernel_rfl) Tryz.func13 (by kernel_rfl) ⟨(rowN_isL (ns := [0, 3, 6, 9, 12, 15, 18]) (rs := [r0, r1, r2, r3, r4, r5, r6]) ⟨⟨rfl, rfl, rfl⟩, ⟨rfl, rfl, rfl⟩, ⟨rfl, rfl, rfl⟩, ⟨rfl, rfl, rfl⟩, ⟨rfl, rfl, rfl⟩, ⟨rfl, rfl, rfl⟩, ⟨rfl, rfl, rfl⟩, trivial⟩).2 h, rfl, trivial⟩).mono ?_
              rintro e w' ⟨v, rfl, h1, h2⟩
              have h1 : v = .bool _ := h1
              subst h1
              exact ⟨by simp [poseB, c0, c1, c2, c3, c4, c5], h2⟩
            · refine (calls_runFn (ρ := frs (xSmall91X r0 r1 r2 r3 r4 r5 r6) ++ [.val (.bool r0.s), .dig r0.L r0.p, .dig r0.N r0.q, .val (.bool r1.s), .dig r1.L r1.p, .dig r1.N r1.q, .val (.bool r2.s), .dig r2.L r2.p, .dig r2.N r2.q, .val (.bool r3.s), .dig r3.L r3.p, .dig r3.N r3.q, .val (.bool r4.s), .dig r4.L r4.p, .dig r4.N r4.q, .val (.bool r5.s), .dig r5.L r5.p, .dig r5.N r5.q, .val (.bool r6.s), .dig r6.L r6.p, .dig r6.N r6.q]) (w := w) (fuel := 300) (args := [rowN [0, 3, 6, 9, 12, 15, 18], .one (.i .u32 9)]) (vs := [x, .int .u32 9]) (r := .v (.one (.b false)))
                (il_cons (I_small (n := 0) (r := r0) (d := true) ⟨⟨rfl, rfl, rfl⟩, trivial⟩ 9 (by decide) c0 lr0 nr0) (il_cons (I_small (n := 3) (r := r1) (d := true) ⟨⟨rfl, rfl, rfl⟩, trivial⟩ 9 (by decide) c1 lr1 nr1) (il_cons (I_small (n := 6) (r := r2) (d := true) ⟨⟨rfl, rfl, rfl⟩, trivial⟩ 9 (by decide) c2 lr2 nr2) (il_cons (I_small (n := 9) (r := r3) (d := true) ⟨⟨rfl, rfl, rfl⟩, trivial⟩ 9 (by decide) c3 lr3 nr3) (il_cons (I_SmallVec9 (ns := [12, 15, 18]) ⟨⟨rfl, rfl, rfl⟩, ⟨rfl, rfl, rfl⟩, ⟨rfl, rfl, rfl⟩, trivial⟩ c4 lr4 nr4 lr5 nr5 lr6 nr6) (il_cons (I_rpValidS (ns := [0, 3, 6, 9, 12, 15, 18]) (d := false) 9 ⟨⟨rfl, rfl, rfl⟩, ⟨rfl, rfl, rfl⟩, ⟨rfl, rfl, rfl⟩, ⟨rfl, rfl, rfl⟩, ⟨rfl, rfl, rfl⟩, ⟨rfl, rfl, rfl⟩, ⟨rfl, rfl, rfl⟩, trivial⟩ c0 c1 c2 c3 c4 c5) il_nil))))))
                ol_nil (by kernel_rfl) Tryz.func13 (by kernel_rfl) ⟨(rowN_isL (ns := [0, 3, 6, 9, 12, 15, 18]) (rs := [r0, r1, r2, r3, r4, r5, r6]) ⟨⟨rfl, rfl, rfl⟩, ⟨rfl, rfl, rfl⟩, ⟨rfl, rfl, rfl⟩, ⟨rfl, rfl, rfl⟩, ⟨rfl, rfl, rfl⟩, ⟨rfl, rfl, rfl⟩, ⟨rfl, rfl, rfl⟩, trivial⟩).2 h, rfl, trivial⟩).mono ?_
              rintro e w' ⟨v, rfl, h1, h2⟩
              have h1 : v = .bool _ := h1
              subst h1
              exact ⟨by simp [poseB, c0, c1, c2, c3, c4, c5], h2⟩
          · refine (calls_runFn (ρ := frs (xSmall92X r0 r1 r2 r3 r4 r5 r6) ++ [.val (.bool r0.s), .dig r0.L r0.p, .dig r0.N r0.q, .val (.bool r1.s), .dig r1.L r1.p, .dig r1.N r1.q, .val (.bool r2.s), .dig r2.L r2.p, .dig r2.N r2.q, .val (.bool r3.s), .dig r3.L r3.p, .dig r3.N r3.q, .val (.bool r4.s), .dig r4.L r4.p, .dig r4.N r4.q, .val (.bool r5.s), .dig r5.L r5.p, .dig r5.N r5.q, .val (.bool r6.s), .dig r6.L r6.p, .dig r6.N r6.q]) (w := w) (fuel := 300) (args := [rowN [0, 3, 6, 9, 12, 15, 18], .one (.i .u32 9)]) (vs := [x, .int .u32 9]) (r := .v (.one (.b false)))
              (il_cons (I_small (n := 0) (r := r0) (d := true) ⟨⟨rfl, rfl, rfl⟩, trivial⟩ 9 (by decide) c0 lr0 nr0) (il_cons (I_small (n := 3) (r := r1) (d := true) ⟨⟨rfl, rfl, rfl⟩, trivial⟩ 9 (by decide) c1 lr1 nr1) (il_cons (I_small (n := 6) (r := r2) (d := true) ⟨⟨rfl, rfl, rfl⟩, trivial⟩ 9 (by decide) c2 lr2 nr2) (il_cons (I_small (n := 9) (r := r3) (d := true) ⟨⟨rfl, rfl, rfl⟩, trivial⟩ 9 (by decide) c3 lr3 nr3) (il_cons (I_SmallVec9 (ns := [12, 15, 18]) ⟨⟨rfl, rfl, rfl⟩, ⟨rfl, rfl, rfl⟩, ⟨rfl, rfl, rfl⟩, trivial⟩ c4 lr4 nr4 lr5 nr5 lr6 nr6) il_nil)))))
              ol_nil (by kernel_rfl) Tryz.func13 (by kernel_rfl) ⟨(rowN_isL (ns := [0, 3, 6, 9, 12, 15, 18]) (rs := [r0, r1, r2, r3, r4, r5, r6]) ⟨⟨rfl, rfl, rfl⟩, ⟨rfl, rfl, rfl⟩, ⟨rfl, rfl, rfl⟩, ⟨rfl, rfl, rfl⟩, ⟨rfl, rfl, rfl⟩, ⟨rfl, rfl, rfl⟩, ⟨rfl, rfl, rfl⟩, trivial⟩).2 h, rfl, trivial⟩).mono ?_
            rintro e w' ⟨v, rfl, h1, h2⟩
            have h1 : v = .bool _ := h1
            subst h1
            exact ⟨by simp [poseB, c0, c1, c2, c3, c4], h2⟩
        · refine (calls_runFn (ρ := frs (xSmall93X r0 r1 r2 r3 r4 r5 r6) ++ [.val (.bool r0.s), .dig r0.L r0.p, .dig r0.N r0.q, .val (.bool r1.s), .dig r1.L r1.p, .dig r1.N r1.q, .val (.bool r2.s), .dig r2.L r2.p, .dig r2.N r2.q, .val (.bool r3.s), .dig r3.L r3.p, .dig r3.N r3.q, .val (.bool r4.s), .dig r4.L r4.p, .dig r4.N r4.q, .val (.bool r5.s), .dig r5.L r5.p, .dig r5.N r5.q, .val (.bool r6.s), .dig r6.L r6.p, .dig r6.N r6.q]) (w := w) (fuel := 300) (args := [rowN [0, 3, 6, 9, 12, 15, 18], .one (.i .u32 9)]) (vs := [x, .int .u32 9]) (r := .v (.one (.b false)))
            (il_cons (I_small (n := 0) (r := r0) (d := true) ⟨⟨rfl, rfl, rfl⟩, trivial⟩ 9 (by decide) c0 lr0 nr0) (il_cons (I_small (n := 3) (r := r1) (d := true) ⟨⟨rfl, rfl, rfl⟩, trivial⟩ 9 (by decide) c1 lr1 nr1) (il_cons (I_small (n := 6) (r := r2) (d := true) ⟨⟨rfl, rfl, rfl⟩, trivial⟩ 9 (by decide) c2 lr2 nr2) (il_cons (I_small (n := 9) (r := r3) (d := false) ⟨⟨rfl, rfl, rfl⟩, trivial⟩ 9 (by decide) c3 lr3 nr3) il_nil))))
            ol_nil (by kernel_rfl) Tryz.func13 (by kernel_rfl) ⟨(rowN_isL (ns := [0, 3, 6, 9, 12, 15, 18]) (rs := [r0, r1, r2, r3, r4, r5, r6]) ⟨⟨rfl, rfl, rfl⟩, ⟨rfl, rfl, rfl⟩, ⟨rfl, rfl, rfl⟩, ⟨rfl, rfl, rfl⟩, ⟨rfl, rfl, rfl⟩, ⟨rfl, rfl, rfl⟩, ⟨rfl, rfl, rfl⟩, trivial⟩).2 h, rfl, trivial⟩).mono ?_
          rintro e w' ⟨v, rfl, h1, h2⟩
          have h1 : v = .bool _ := h1
          subst h1
          exact ⟨by simp [poseB, c0, c1, c2, c3], h2⟩
      · refine (calls_runFn (ρ := frs (xSmall94X r0 r1 r2 r3 r4 r5 r6) ++ [.val (.bool r0.s), .dig r0.L r0.p, .dig r0.N r0.q, .val (.bool r1.s), .dig r1.L r1.p, .dig r1.N r1.q, .val (.bool r2.s), .dig r2.L r2.p, .dig r2.N r2.q, .val (.bool r3.s), .dig r3.L r3.p, .dig r3.N r3.q, .val (.bool r4.s), .dig r4.L r4.p, .dig r4.N r4.q, .val (.bool r5.s), .dig r5.L r5.p, .dig r5.N r5.q, .val (.bool r6.s), .dig r6.L r6.p, .dig r6.N r6.q]) (w := w) (fuel := 300) (args := [rowN [0, 3, 6, 9, 12, 15, 18], .one (.i .u32 9)]) (vs := [x, .int .u32 9]) (r := .v (.one (.b false)))
          (il_cons (I_small (n := 0) (r := r0) (d := true) ⟨⟨rfl, rfl, rfl⟩, trivial⟩ 9 (by decide) c0 lr0 nr0) (il_cons (I_small (n := 3) (r := r1) (d := true) ⟨⟨rfl, rfl, rfl⟩, trivial⟩ 9 (by decide) c1 lr1 nr1) (il_cons (I_small (n := 6) (r := r2) (d := false) ⟨⟨rfl, rfl, rfl⟩, trivial⟩ 9 (by decide) c2 lr2 nr2) il_nil)))
          ol_nil (by kernel_rfl) Tryz.func13 (by kernel_rfl) ⟨(rowN_isL (ns := [0, 3, 6, 9, 12, 15, 18]) (rs := [r0, r1, r2, r3, r4, r5, r6]) ⟨⟨rfl, rfl, rfl⟩, ⟨rfl, rfl, rfl⟩, ⟨rfl, rfl, rfl⟩, ⟨rfl, rfl, rfl⟩, ⟨rfl, rfl, rfl⟩, ⟨rfl, rfl, rfl⟩, ⟨rfl, rfl, rfl⟩, trivial⟩).2 h, rfl, trivial⟩).mono ?_
        rintro e w' ⟨v, rfl, h1, h2⟩
        have h1 : v = .bool _ := h1
        subst h1
        exact ⟨by simp [poseB, c0, c1, c2], h2⟩
    · refine (calls_runFn (ρ := frs (xSmall95X r0 r1 r2 r3 r4 r5 r6) ++ [.val (.bool r0.s), .dig r0.L r0.p, .dig r0.N r0.q, .val (.bool r1.s), .dig r1.L r1.p, .dig r1.N r1.q, .val (.bool r2.s), .dig r2.L r2.p, .dig r2.N r2.q, .val (.bool r3.s), .dig r3.L r3.p, .dig r3.N r3.q, .val (.bool r4.s), .dig r4.L r4.p, .dig r4.N r4.q, .val (.bool r5.s), .dig r5.L r5.p, .dig r5.N r5.q, .val (.bool r6.s), .dig r6.L r6.p, .dig r6.N r6.q]) (w := w) (fuel := 300) (args := [rowN [0, 3, 6, 9, 12, 15, 18], .one (.i .u32 9)]) (vs := [x, .int .u32 9]) (r := .v (.one (.b false)))
        (il_cons (I_small (n := 0) (r := r0) (d := true) ⟨⟨rfl, rfl, rfl⟩, trivial⟩ 9 (by decide) c0 lr0 nr0) (il_cons (I_small (n := 3) (r := r1) (d := false) ⟨⟨rfl, rfl, rfl⟩, trivial⟩ 9 (by decide) c1 lr1 nr1) il_nil))
        ol_nil (by kernel_rfl) Tryz.func13 (by kernel_rfl) ⟨(rowN_isL (ns := [0, 3, 6, 9, 12, 15, 18]) (rs := [r0, r1, r2, r3, r4, r5, r6]) ⟨⟨rfl, rfl, rfl⟩, ⟨rfl, rfl, rfl⟩, ⟨rfl, rfl, rfl⟩, ⟨rfl, rfl, rfl⟩, ⟨rfl, rfl, rfl⟩, ⟨rfl, rfl, rfl⟩, ⟨rfl, rfl, rfl⟩, trivial⟩).2 h, rfl, trivial⟩).mono ?_
      rintro e w' ⟨v, rfl, h1, h2⟩
      have h1 : v = .bool _ := h1
      subst h1
      exact ⟨by simp [poseB, c0, c1], h2⟩
  · refine (calls_runFn (ρ := frs (xSmall96X r0 r1 r2 r3 r4 r5 r6) ++ [.val (.bool r0.s), .dig r0.L r0.p, .dig r0.N r0.q, .val (.bool r1.s), .dig r1.L r1.p, .dig r1.N r1.q, .val (.bool r2.s), .dig r2.L r2.p, .dig r2.N r2.q, .val (.bool r3.s), .dig r3.L r3.p, .dig r3.N r3.q, .val (.bool r4.s), .dig r4.L r4.p, .dig r4.N r4.q, .val (.bool r5.s), .dig r5.L r5.p, .dig r5.N r5.q, .val (.bool r6.s), .dig r6.L r6.p, .dig r6.N r6.q]) (w := w) (fuel := 300) (args := [rowN [0, 3, 6, 9, 12, 15, 18], .one (.i .u32 9)]) (vs := [x, .int .u32 9]) (r := .v (.one (.b false)))
      (il_cons (I_small (n := 0) (r := r0) (d := false) ⟨⟨rfl, rfl, rfl⟩, trivial⟩ 9 (by decide) c0 lr0 nr0) il_nil)
      ol_nil (by kernel_rfl) Tryz.func13 (by kernel_rfl) ⟨(rowN_isL (ns := [0, 3, 6, 9, 12, 15, 18]) (rs := [r0, r1, r2, r3, r4, r5, r6]) ⟨⟨rfl, rfl, rfl⟩, ⟨rfl, rfl, rfl⟩, ⟨rfl, rfl, rfl⟩, ⟨rfl, rfl, rfl⟩, ⟨rfl, rfl, rfl⟩, ⟨rfl, rfl, rfl⟩, ⟨rfl, rfl, rfl⟩, trivial⟩).2 h, rfl, trivial⟩).mono ?_
    rintro e w' ⟨v, rfl, h1, h2⟩
    have h1 : v = .bool _ := h1
    subst h1
    exact ⟨by simp [poseB, c0], h2⟩
theorem I_Small9 {xs : List Fq} {ys : Rho} {ns : List Nat} {r0 r1 r2 r3 r4 r5 r6 : Rq} {d : Bool} (hr : AtR (frs xs ++ ys) ns [r0, r1, r2, r3, r4, r5, r6]) (hd : poseB 9 r0 r1 r2 r3 r4 r5 r6 = d) (lr0 : r0.L ≤ 1100000) (nr0 : r0.N ≤ 1100000) (lr1 : r1.L ≤ 1100000) (nr1 : r1.N ≤ 1100000) (lr2 : r2.L ≤ 1100000) (nr2 : r2.N ≤ 1100000) (lr3 : r3.L ≤ 1100000) (nr3 : r3.N ≤ 1100000) (lr4 : r4.L ≤ 1100000) (nr4 : r4.N ≤ 1100000) (lr5 : r5.L ≤ 1100000) (nr5 : r5.N ≤ 1100000) (lr6 : r6.L ≤ 1100000) (nr6 : r6.N ≤ 1100000) : OkI xs ys ⟨13, [rowN ns, .one (.i .u32 9)], .v (.one (.b d))⟩ :=
  ⟨enters Tryz.func13 rfl rfl, fun B w vs hB h => by
    match vs, h with
    | [x, y], h =>
      have e : y = .int .u32 9 := h.2.1
      subst e
      refine (q_Small9 x r0 r1 r2 r3 r4 r5 r6 w ((rowN_isL hr).1 h.1) lr0 nr0 lr1 nr1 lr2 nr2 lr3 nr3 lr4 nr4 lr5 nr5 lr6 nr6).mono ?_
      rintro e w' ⟨rfl, h2⟩
      exact ⟨_, rfl, by subst hd; rfl, h2⟩⟩
theorem I_Small9Q {xs : List Fq} {ys : Rho} {ks : List Nat} {a : Pq} (ar : AtL xs ks [a.rot.w, a.rot.x, a.rot.y, a.rot.z, a.pos.x, a.pos.y, a.pos.z]) (h0 : a.lim 9 = true) (ha : a.ok 4) : OkI xs ys ⟨13, [row ks, .one (.i .u32 9)], .v (.one (.b true))⟩ :=
  ⟨enters Tryz.func13 rfl rfl, fun B w vs hB h => by
    match vs, h with
    | [x, y], h =>
      have e : y = .int .u32 9 := h.2.1
      subst e
      refine (q_Small9 x (a.rot.w.raw) (a.rot.x.raw) (a.rot.y.raw) (a.rot.z.raw) (a.pos.x.raw) (a.pos.y.raw) (a.pos.z.raw) w ((row_isL ar).1 h.1) (Nat.le_trans ha.rot.w.p (by decide)) (Nat.le_trans ha.rot.w.q (by decide)) (Nat.le_trans ha.rot.x.p (by decide)) (Nat.le_trans ha.rot.x.q (by decide)) (Nat.le_trans ha.rot.y.p (by decide)) (Nat.le_trans ha.rot.y.q (by decide)) (Nat.le_trans ha.rot.z.p (by decide)) (Nat.le_trans ha.rot.z.q (by decide)) (Nat.le_trans ha.pos.x.p (by decide)) (Nat.le_trans ha.pos.x.q (by decide)) (Nat.le_trans ha.pos.y.p (by decide)) (Nat.le_trans ha.pos.y.q (by decide)) (Nat.le_trans ha.pos.z.p (by decide)) (Nat.le_trans ha.pos.z.q (by decide))).mono ?_
      rintro e w' ⟨rfl, h2⟩
      exact ⟨_, rfl, by rw [show poseB 9 (a.rot.w.raw) (a.rot.x.raw) (a.rot.y.raw) (a.rot.z.raw) (a.pos.x.raw) (a.pos.y.raw) (a.pos.z.raw) = true from h0]; rfl, h2⟩⟩
def xSmallVec990X (r0 r1 r2 : Rq) : List Fq := []
def xSmallVec991X (r0 r1 r2 : Rq) : List Fq := []
def xSmallVec992X (r0 r1 r2 : Rq) : List Fq := []
def xSmallVec993X (r0 r1 r2 : Rq) : List Fq := []
theorem q_SmallVec99 (x : Value) (r0 r1 r2 : Rq) (w : World) (h : IsL w x [r0, r1, r2]) (lr0 : r0.L ≤ 1100000) (nr0 : r0.N ≤ 1100000) (lr1 : r1.L ≤ 1100000) (nr1 : r1.N ≤ 1100000) (lr2 : r2.L ≤ 1100000) (nr2 : r2.N ≤ 1100000) : Calls Tryz.prog 19 #[x, .int .u32 99] w fun e w' => RetV w (.bool (vecB 99 r0 r1 r2)) e w' := by
  rcases Bool.eq_false_or_eq_true (r0.smm 99) with c0 | c0
  · rcases Bool.eq_false_or_eq_true (r1.smm 99) with c1 | c1
    · rcases Bool.eq_false_or_eq_true (r2.smm 99) with c2 | c2
      · refine (calls_runFn (ρ := frs (xSmallVec990X r0 r1 r2) ++ [.val (.bool r0.s), .dig r0.L r0.p, .dig r0.N r0.q, .val (.bool r1.s), .dig r1.L r1.p, .dig r1.N r1.q, .val (.bool r2.s), .dig r2.L r2.p, .dig r2.N r2.q]) (w := w) (fuel := 300) (args := [rowN [0, 3, 6], .one (.i .u32 99)]) (vs := [x, .int .u32 99]) (r := .v (.one (.b true)))
          (il_cons (I_small (n := 0) (r := r0) (d := true) ⟨⟨rfl, rfl, rfl⟩, trivial⟩ 99 (by decide) c0 lr0 nr0) (il_cons (I_small (n := 3) (r := r1) (d := true) ⟨⟨rfl, rfl, rfl⟩, trivial⟩ 99 (by decide) c1 lr1 nr1) (il_cons (I_small (n := 6) (r := r2) (d := true) ⟨⟨rfl, rfl, rfl⟩, trivial⟩ 99 (by decide) c2 lr2 nr2) il_nil)))
          ol_nil (by kernel_rfl) Tryz.func19 (by kernel_rfl) ⟨(rowN_isL (ns := [0, 3, 6]) (rs := [r0, r1, r2]) ⟨⟨rfl, rfl, rfl⟩, ⟨rfl, rfl, rfl⟩, ⟨rfl, rfl, rfl⟩, trivial⟩).2 h, rfl, trivial⟩).mono ?_
        rintro e w' ⟨v, rfl, h1, h2⟩
        have h1 : v = .bool _ := h1
        subst h1
        exact ⟨by simp [vecB, c0, c1, c2], h2⟩
      · refine (calls_runFn (ρ := frs (xSmallVec991X r0 r1 r2) ++ [.val (.bool r0.s), .dig r0.L r0.p, .dig r0.N r0.q, .val (.bool r1.s), .dig r1.L r1.p, .dig r1.N r1.q, .val (.bool r2.s), .dig r2.L r2.p, .dig r2.N r2.q]) (w := w) (fuel := 300) (args := [rowN [0, 3, 6], .one (.i .u32 99)]) (vs := [x, .int .u32 99]) (r := .v (.one (.b false)))
          (il_cons (I_small (n := 0) (r := r0) (d := true) ⟨⟨rfl, rfl, rfl⟩, trivial⟩ 99 (by decide) c0 lr0 nr0) (il_cons (I_small (n := 3) (r := r1) (d := true) ⟨⟨rfl, rfl, rfl⟩, trivial⟩ 99 (by decide) c1 lr1 nr1) (il_cons (I_small (n := 6) (r := r2) (d := false) ⟨⟨rfl, rfl, rfl⟩, trivial⟩ 99 (by decide) c2 lr2 nr2) il_nil)))
          ol_nil (by kernel_rfl) Tryz.func19 (by kernel_rfl) ⟨(rowN_isL (ns := [0, 3, 6]) (rs := [r0, r1, r2]) ⟨⟨rfl, rfl, rfl⟩, ⟨rfl, rfl, rfl⟩, ⟨rfl, rfl, rfl⟩, trivial⟩).2 h, rfl, trivial⟩).mono ?_
        rintro e w' ⟨v, rfl, h1, h2⟩
        have h1 : v = .bool _ := h1
        subst h1
        exact ⟨by simp [vecB, c0, c1, c2], h2⟩
    · refine (calls_runFn (ρ := frs (xSmallVec992X r0 r1 r2) ++ [.val (.bool r0.s), .dig r0.L r0.p, .dig r0.N r0.q, .val (.bool r1.s), .dig r1.L r1.p, .dig r1.N r1.q, .val (.bool r2.s), .dig r2.L r2.p, .dig r2.N r2.q]) (w := w) (fuel := 300) (args := [rowN [0, 3, 6], .one (.i .u32 99)]) (vs := [x, .int .u32 99]) (r := .v (.one (.b false)))
        (il_cons (I_small (n := 0) (r := r0) (d := true) ⟨⟨rfl, rfl, rfl⟩, trivial⟩ 99 (by decide) c0 lr0 nr0) (il_cons (I_small (n := 3) (r := r1) (d := false) ⟨⟨rfl, rfl, rfl⟩, trivial⟩ 99 (by decide) c1 lr1 nr1) il_nil))
        ol_nil (by kernel_rfl) Tryz.func19 (by kernel_rfl) ⟨(rowN_isL (ns := [0, 3, 6]) (rs := [r0, r1, r2]) ⟨⟨rfl, rfl, rfl⟩, ⟨rfl, rfl, rfl⟩, ⟨rfl, rfl, rfl⟩, trivial⟩).2 h, rfl, trivial⟩).mono ?_
      rintro e w' ⟨v, rfl, h1, h2⟩
      have h1 : v = .bool _ := h1
      subst h1
      exact ⟨by simp [vecB, c0, c1], h2⟩
  · refine (calls_runFn (ρ := frs (xSmallVec993X r0 r1 r2) ++ [.val (.bool r0.s), .dig r0.L r0.p, .dig r0.N r0.q, .val (.bool r1.s), .dig r1.L r1.p, .dig r1.N r1.q, .val (.bool r2.s), .dig r2.L r2.p, .dig r2.N r2.q]) (w := w) (fuel := 300) (args := [rowN [0, 3, 6], .one (.i .u32 99)]) (vs := [x, .int .u32 99]) (r := .v (.one (.b false)))
      (il_cons (I_small (n := 0) (r := r0) (d := false) ⟨⟨rfl, rfl, rfl⟩, trivial⟩ 99 (by decide) c0 lr0 nr0) il_nil)
      ol_nil (by kernel_rfl) Tryz.func19 (by kernel_rfl) ⟨(rowN_isL (ns := [0, 3, 6]) (rs := [r0, r1, r2]) ⟨⟨rfl, rfl, rfl⟩, ⟨rfl, rfl, rfl⟩, ⟨rfl, rfl, rfl⟩, trivial⟩).2 h, rfl, trivial⟩).mono ?_
    rintro e w' ⟨v, rfl, h1, h2⟩
    have h1 : v = .bool _ := h1
    subst h1
    exact ⟨by simp [vecB, c0], h2⟩
theorem I_SmallVec99 {xs : List Fq} {ys : Rho} {ns : List Nat} {r0 r1 r2 : Rq} {d : Bool} (hr : AtR (frs xs ++ ys) ns [r0, r1, r2]) (hd : vecB 99 r0 r1 r2 = d) (lr0 : r0.L ≤ 1100000) (nr0 : r0.N ≤ 1100000) (lr1 : r1.L ≤ 1100000) (nr1 : r1.N ≤ 1100000) (lr2 : r2.L ≤ 1100000) (nr2 : r2.N ≤ 1100000) : OkI xs ys ⟨19, [rowN ns, .one (.i .u32 99)], .v (.one (.b d))⟩ :=
  ⟨enters Tryz.func19 rfl rfl, fun B w vs hB h => by
    match vs, h with
    | [x, y], h =>
      have e : y = .int .u32 99 := h.2.1
      subst e
      refine (q_SmallVec99 x r0 r1 r2 w ((rowN_isL hr).1 h.1) lr0 nr0 lr1 nr1 lr2 nr2).mono ?_
      rintro e w' ⟨rfl, h2⟩
      exact ⟨_, rfl, by subst hd; rfl, h2⟩⟩
theorem I_SmallVec99Q {xs : List Fq} {ys : Rho} {ks : List Nat} {a : Vq} (ar : AtL xs ks [a.x, a.y, a.z]) (h0 : a.lim 99 = true) (ha : a.ok 4) : OkI xs ys ⟨19, [row ks, .one (.i .u32 99)], .v (.one (.b true))⟩ :=
  ⟨enters Tryz.func19 rfl rfl, fun B w vs hB h => by
    match vs, h with
    | [x, y], h =>
      have e : y = .int .u32 99 := h.2.1
      subst e
      refine (q_SmallVec99 x (a.x.raw) (a.y.raw) (a.z.raw) w ((row_isL ar).1 h.1) (Nat.le_trans ha.x.p (by decide)) (Nat.le_trans ha.x.q (by decide)) (Nat.le_trans ha.y.p (by decide)) (Nat.le_trans ha.y.q (by decide)) (Nat.le_trans ha.z.p (by decide)) (Nat.le_trans ha.z.q (by decide))).mono ?_
      rintro e w' ⟨rfl, h2⟩
      exact ⟨_, rfl, by rw [show vecB 99 (a.x.raw) (a.y.raw) (a.z.raw) = true from h0]; rfl, h2⟩⟩
def xSmall990X (r0 r1 r2 r3 r4 r5 r6 : Rq) : List Fq := []
def xSmall991X (r0 r1 r2 r3 r4 r5 r6 : Rq) : List Fq := []
def xSmall992X (r0 r1 r2 r3 r4 r5 r6 : Rq) : List Fq := []
def xSmall993X (r0 r1 r2 r3 r4 r5 r6 : Rq) : List Fq := []
def xSmall994X (r0 r1 r2 r3 r4 r5 r6 : Rq) : List Fq := []
def xSmall995X (r0 r1 r2 r3 r4 r5 r6 : Rq) : List Fq := []
def xSmall996X (r0 r1 r2 r3 r4 r5 r6 : Rq) : List Fq := []
theorem q_Small99 (x : Value) (r0 r1 r2 r3 r4 r5 r6 : Rq) (w : World) (h : IsL w x [r0, r1, r2, r3, r4, r5, r6]) (lr0 : r0.L ≤ 1100000) (nr0 : r0.N ≤ 1100000) (lr1 : r1.L ≤ 1100000) (nr1 : r1.N ≤ 1100000) (lr2 : r2.L ≤ 1100000) (nr2 : r2.N ≤ 1100000) (lr3 : r3.L ≤ 1100000) (nr3 : r3.N ≤ 1100000) (lr4 : r4.L ≤ 1100000) (nr4 : r4.N ≤ 1100000) (lr5 : r5.L ≤ 1100000) (nr5 : r5.N ≤ 1100000) (lr6 : r6.L ≤ 1100000) (nr6 : r6.N ≤ 1100000) : Calls Tryz.prog 13 #[x, .int .u32 99] w fun e w' => RetV w (.bool (poseB 99 r0 r1 r2 r3 r4 r5 r6)) e w' := by
  rcases Bool.eq_false_or_eq_true (r0.smm 99) with c0 | c0
  · rcases Bool.eq_false_or_eq_true (r1.smm 99) with c1 | c1
    · rcases Bool.eq_false_or_eq_true (r2.smm 99) with c2 | c2
      · rcases Bool.eq_false_or_eq_true (r3.smm 99) with c3 | c3
        · rcases Bool.eq_false_or_eq_true (vecB 99 r4 r5 r6) with c4 | c4
          · rcases Bool.eq_false_or_eq_true (rawP r0 r1 r2 r3) with c5 | c5
            · refine (calls_runFn (ρ := frs (xSmall990X r0 r1 r2 r3 r4 r5 r6) ++ [.val (.bool r0.s), .dig r0.L r0.p, .dig r0.N r0.q, .val (.bool r1.s), .dig r1.L r1.p, .dig r1.N r1.q, .val (.bool r2.s), .dig r2.L r2.p, .dig r2.N r2.q, .val (.bool r3.s), .dig r3.L r3.p, .dig r3.N r3.q, .val (.bool r4.s), .dig r4.L r4.p, .dig r4.N r4.q, .val (.bool r5.s), .dig r5.L r5.p, .dig r5.N r5.q, .val (.bool r6.s), .dig r6.L r6.p, .dig r6.N r6.q]) (w := w) (fuel := 300) (args := [rowN [0, 3, 6, 9, 12, 15, 18], .one (.i .u32 99)]) (vs := [x, .int .u32 99]) (r := .v (.one (.b true)))
                (il_cons (I_small (n := 0) (r := r0) (d := true) ⟨⟨rfl, rfl, rfl⟩, trivial⟩ 99 (by decide) c0 lr0 nr0) (il_cons (I_small (n := 3) (r := r1) (d := true) ⟨⟨rfl, rfl, rfl⟩, trivial⟩ 99 (by decide) c1 lr1 nr1) (il_cons (I_small (n := 6) (r := r2) (d := true) ⟨⟨rfl, rfl, rfl⟩, trivial⟩ 99 (by decide) c2 lr2 nr2) (il_cons (I_small (n := 9) (r := r3) (d := true) ⟨⟨rfl, rfl, rfl⟩, trivial⟩ 99 (by decide) c3 lr3 nr3) (il_cons (I_SmallVec99 (ns := [12, 15, 18]) ⟨⟨rfl, rfl, rfl⟩, ⟨rfl, rfl, rfl⟩, ⟨rfl, rfl, rfl⟩, trivial⟩ c4 lr4 nr4 lr5 nr5 lr6 nr6) (il_cons (I_rpValidS (ns := [0, 3, 6, 9, 12, 15, 18]) (d := true) 99 ⟨⟨rfl, rfl, rfl⟩, ⟨rfl, rfl, rfl⟩, ⟨rfl, rfl, rfl⟩, ⟨rfl, rfl, rfl⟩, ⟨rfl, rfl, rfl⟩, ⟨rfl, rfl, rfl⟩, ⟨rfl, rfl, rfl⟩, trivial⟩ c0 c1 c2 c3 c4 c5) il_nil))))))
                ol_nil (by kernel_rfl) Tryz.func13 (by kernel_rfl) ⟨(rowN_isL (ns := [0, 3, 6, 9, 12, 15, 18]) (rs := [r0, r1, r2, r3, r4, r5, r6]) ⟨⟨rfl, rfl, rfl⟩, ⟨rfl, rfl, rfl⟩, ⟨rfl, rfl, rfl⟩, ⟨rfl, rfl, rfl⟩, ⟨rfl, rfl, rfl⟩, ⟨rfl, rfl, rfl⟩, ⟨rfl, rfl, rfl⟩, trivial⟩).2 h, rfl, trivial⟩).mono ?_
              rintro e w' ⟨v, rfl, h1, h2⟩
              have h1 : v = .bool _ := h1
              subst h1
              exact ⟨by simp [poseB, c0, c1, c2, c3, c4, c5], h2⟩
            · refine (calls_runFn (ρ := frs (xSmall991X r0 r1 r2 r3 r4 r5 r6) ++ [.val (.bool r0.s), .dig r0.L r0.p, .dig r0.N r0.q, .val (.bool r1.s), .dig r1.L r1.p, .dig r1.N r1.q, .val (.bool r2.s), .dig r2.L r2.p, .dig r2.N r2.q, .val (.bool r3.s), .dig r3.L r3.p, .dig r3.N r3.q, .val (.bool r4.s), .dig r4.L r4.p, .dig r4.N r4.q, .val (.bool r5.s), .dig r5.L r5.p, .dig r5.N r5.q, .val (.bool r6.s), .dig r6.L r6.p, .dig r6.N r6.q]) (w := w) (fuel := 300) (args := [rowN [0, 3, 6, 9, 12, 15, 18], .one (.i .u32 99)]) (vs := [x, .int .u32 99]) (r := .v (.one (.b false)))
                (il_cons (I_small (n := 0) (r := r0) (d := true) ⟨⟨rfl, rfl, rfl⟩, trivial⟩ 99 (by decide) c0 lr0 nr0) (il_cons (I_small (n := 3) (r := r1) (d := true) ⟨⟨rfl, rfl, rfl⟩, trivial⟩ 99 (by decide) c1 lr1 nr1) (il_cons (I_small (n := 6) (r := r2) (d := true) ⟨⟨rfl, rfl, rfl⟩, trivial⟩ 99 (by decide) c2 lr2 nr2) (il_cons (I_small (n := 9) (r := r3) (d := true) ⟨⟨rfl, rfl, rfl⟩, trivial⟩ 99 (by decide) c3 lr3 nr3) (il_cons (I_SmallVec99 (ns := [12, 15, 18]) ⟨⟨rfl, rfl, rfl⟩, ⟨rfl, rfl, rfl⟩, ⟨rfl, rfl, rfl⟩, trivial⟩ c4 lr4 nr4 lr5 nr5 lr6 nr6) (il_cons (I_rpValidS (ns := [0, 3, 6, 9, 12, 15, 18]) (d := false) 99 ⟨⟨rfl, rfl, rfl⟩, ⟨rfl, rfl, rfl⟩, ⟨rfl, rfl, rfl⟩, ⟨rfl, rfl, rfl⟩, ⟨rfl, rfl, rfl⟩, ⟨rfl, rfl, rfl⟩, ⟨rfl, rfl, rfl⟩, trivial⟩ c0 c1 c2 c3 c4 c5) il_nil))))))
                ol_nil (by kernel_rfl) Tryz.func13 (by kernel_rfl) ⟨(rowN_isL (ns := [0, 3, 6, 9, 12, 15, 18]) (rs := [r0, r1, r2, r3, r4, r5, r6]) ⟨⟨rfl, rfl, rfl⟩, ⟨rfl, rfl, rfl⟩, ⟨rfl, rfl, rfl⟩, ⟨rfl, rfl, rfl⟩, ⟨rfl, rfl, rfl⟩, ⟨rfl, rfl, rfl⟩, ⟨rfl, rfl, rfl⟩, trivial⟩).2 h, rfl, trivial⟩).mono ?_
              rintro e w' ⟨v, rfl, h1, h2⟩
              have h1 : v = .bool _ := h1
              subst h1
              exact ⟨by simp [poseB, c0, c1, c2, c3, c4, c5], h2⟩
          · refine (calls_runFn (ρ := frs (xSmall992X r0 r1 r2 r3 r4 r5 r6) ++ [.val (.bool r0.s), .dig r0.L r0.p, .dig r0.N r0.q, .val (.bool r1.s), .dig r1.L r1.p, .dig r1.N r1.q, .val (.bool r2.s), .dig r2.L r2.p, .dig r2.N r2.q, .val (.bool r3.s), .dig r3.L r3.p, .dig r3.N r3.q, .val (.bool r4.s), .dig r4.L r4.p, .dig r4.N r4.q, .val (.bool r5.s), .dig r5.L r5.p, .dig r5.N r5.q, .val (.bool r6.s), .dig r6.L r6.p, .dig r6.N r6.q]) (w := w) (fuel := 300) (args := [rowN [0, 3, 6, 9, 12, 15, 18], .one (.i .u32 99)]) (vs := [x, .int .u32 99]) (r := .v (.one (.b false)))
              (il_cons (I_small (n := 0) (r := r0) (d := true) ⟨⟨rfl, rfl, rfl⟩, trivial⟩ 99 (by decide) c0 lr0 nr0) (il_cons (I_small (n := 3) (r := r1) (d := true) ⟨⟨rfl, rfl, rfl⟩, trivial⟩ 99 (by decide) c1 lr1 nr1) (il_cons (I_small (n := 6) (r := r2) (d := true) ⟨⟨rfl, rfl, rfl⟩, trivial⟩ 99 (by decide) c2 lr2 nr2) (il_cons (I_small (n := 9) (r := r3) (d := true) ⟨⟨rfl, rfl, rfl⟩, trivial⟩ 99 (by decide) c3 lr3 nr3) (il_cons (I_SmallVec99 (ns := [12, 15, 18]) ⟨⟨rfl, rfl, rfl⟩, ⟨rfl, rfl, rfl⟩, ⟨rfl, rfl, rfl⟩, trivial⟩ c4 lr4 nr4 lr5 nr5 lr6 nr6) il_nil)))))
              ol_nil (by kernel_rfl) Tryz.func13 (by kernel_rfl) ⟨(rowN_isL (ns := [0, 3, 6, 9, 12, 15, 18]) (rs := [r0, r1, r2, r3, r4, r5, r6]) ⟨⟨rfl, rfl, rfl⟩, ⟨rfl, rfl, rfl⟩, ⟨rfl, rfl, rfl⟩, ⟨rfl, rfl, rfl⟩, ⟨rfl, rfl, rfl⟩, ⟨rfl, rfl, rfl⟩, ⟨rfl, rfl, rfl⟩, trivial⟩).2 h, rfl, trivial⟩).mono ?_
            rintro e w' ⟨v, rfl, h1, h2⟩
            have h1 : v = .bool _ := h1
            subst h1
            exact ⟨by simp [poseB, c0, c1, c2, c3, c4], h2⟩
        · refine (calls_runFn (ρ := frs (xSmall993X r0 r1 r2 r3 r4 r5 r6) ++ [.val (.bool r0.s), .dig r0.L r0.p, .dig r0.N r0.q, .val (.bool r1.s), .dig r1.L r1.p, .dig r1.N r1.q, .val (.bool r2.s), .dig r2.L r2.p, .dig r2.N r2.q, .val (.bool r3.s), .dig r3.L r3.p, .dig r3.N r3.q, .val (.bool r4.s), .dig r4.L r4.p, .dig r4.N r4.q, .val (.bool r5.s), .dig r5.L r5.p, .dig r5.N r5.q, .val (.bool r6.s), .dig r6.L r6.p, .dig r6.N r6.q]) (w := w) (fuel := 300) (args := [rowN [0, 3, 6, 9, 12, 15, 18], .one (.i .u32 99)]) (vs := [x, .int .u32 99]) (r := .v (.one (.b false)))
            (il_cons (I_small (n := 0) (r := r0) (d := true) ⟨⟨rfl, rfl, rfl⟩, trivial⟩ 99 (by decide) c0 lr0 nr0) (il_cons (I_small (n := 3) (r := r1) (d := true) ⟨⟨rfl, rfl, rfl⟩, trivial⟩ 99 (by decide) c1 lr1 nr1) (il_cons (I_small (n := 6) (r := r2) (d := true) ⟨⟨rfl, rfl, rfl⟩, trivial⟩ 99 (by decide) c2 lr2 nr2) (il_cons (I_small (n := 9) (r := r3) (d := false) ⟨⟨rfl, rfl, rfl⟩, trivial⟩ 99 (by decide) c3 lr3 nr3) il_nil))))
            ol_nil (by kernel_rfl) Tryz.func13 (by kernel_rfl) ⟨(rowN_isL (ns := [0, 3, 6, 9, 12, 15, 18]) (rs := [r0, r1, r2, r3, r4, r5, r6]) ⟨⟨rfl, rfl, rfl⟩, ⟨rfl, rfl, rfl⟩, ⟨rfl, rfl, rfl⟩, ⟨rfl, rfl, rfl⟩, ⟨rfl, rfl, rfl⟩, ⟨rfl, rfl, rfl⟩, ⟨rfl, rfl, rfl⟩, trivial⟩).2 h, rfl, trivial⟩).mono ?_
          rintro e w' ⟨v, rfl, h1, h2⟩
          have h1 : v = .bool _ := h1
          subst h1
          exact ⟨by simp [poseB, c0, c1, c2, c3], h2⟩
      · refine (calls_runFn (ρ := frs (xSmall994X r0 r1 r2 r3 r4 r5 r6) ++ [.val (.bool r0.s), .dig r0.L r0.p, .dig r0.N r0.q, .val (.bool r1.s), .dig r1.L r1.p, .dig r1.N r1.q, .val (.bool r2.s), .dig r2.L r2.p, .dig r2.N r2.q, .val (.bool r3.s), .dig r3.L r3.p, .dig r3.N r3.q, .val (.bool r4.s), .dig r4.L r4.p, .dig r4.N r4.q, .val (.bool r5.s), .dig r5.L r5.p, .dig r5.N r5.q, .val (.bool r6.s), .dig r6.L r6.p, .dig r6.N r6.q]) (w := w) (fuel := 300) (args := [rowN [0, 3, 6, 9, 12, 15, 18], .one (.i .u32 99)]) (vs := [x, .int .u32 99]) (r := .v (.one (.b false)))
          (il_cons (I_small (n := 0) (r := r0) (d := true) ⟨⟨rfl, rfl, rfl⟩, trivial⟩ 99 (by decide) c0 lr0 nr0) (il_cons (I_small (n := 3) (r := r1) (d := true) ⟨⟨rfl, rfl, rfl⟩, trivial⟩ 99 (by decide) c1 lr1 nr1) (il_cons (I_small (n := 6) (r := r2) (d := false) ⟨⟨rfl, rfl, rfl⟩, trivial⟩ 99 (by decide) c2 lr2 nr2) il_nil)))
          ol_nil (by kernel_rfl) Tryz.func13 (by kernel_rfl) ⟨(rowN_isL (ns := [0, 3, 6, 9, 12, 15, 18]) (rs := [r0, r1, r2, r3, r4, r5, r6]) ⟨⟨rfl, rfl, rfl⟩, ⟨rfl, rfl, rfl⟩, ⟨rfl, rfl, rfl⟩, ⟨rfl, rfl, rfl⟩, ⟨rfl, rfl, rfl⟩, ⟨rfl, rfl, rfl⟩, ⟨rfl, rfl, rfl⟩, trivial⟩).2 h, rfl, trivial⟩).mono ?_
        rintro e w' ⟨v, rfl, h1, h2⟩
        have h1 : v = .bool _ := h1
        subst h1
        exact ⟨by simp [poseB, c0, c1, c2], h2⟩
    · refine (calls_runFn (ρ := frs (xSmall995X r0 r1 r2 r3 r4 r5 r6) ++ [.val (.bool r0.s), .dig r0.L r0.p, .dig r0.N r0.q, .val (.bool r1.s), .dig r1.L r1.p, .dig r1.N r1.q, .val (.bool r2.s), .dig r2.L r2.p, .dig r2.N r2.q, .val (.bool r3.s), .dig r3.L r3.p, .dig r3.N r3.q, .val (.bool r4.s), .dig r4.L r4.p, .dig r4.N r4.q, .val (.bool r5.s), .dig r5.L r5.p, .dig r5.N r5.q, .val (.bool r6.s), .dig r6.L r6.p, .dig r6.N r6.q]) (w := w) (fuel := 300) (args := [rowN [0, 3, 6, 9, 12, 15, 18], .one (.i .u32 99)]) (vs := [x, .int .u32 99]) (r := .v (.one (.b false)))
        (il_cons (I_small (n := 0) (r := r0) (d := true) ⟨⟨rfl, rfl, rfl⟩, trivial⟩ 99 (by decide) c0 lr0 nr0) (il_cons (I_small (n := 3) (r := r1) (d := false) ⟨⟨rfl, rfl, rfl⟩, trivial⟩ 99 (by decide) c1 lr1 nr1) il_nil))
        ol_nil (by kernel_rfl) Tryz.func13 (by kernel_rfl) ⟨(rowN_isL (ns := [0, 3, 6, 9, 12, 15, 18]) (rs := [r0, r1, r2, r3, r4, r5, r6]) ⟨⟨rfl, rfl, rfl⟩, ⟨rfl, rfl, rfl⟩, ⟨rfl, rfl, rfl⟩, ⟨rfl, rfl, rfl⟩, ⟨rfl, rfl, rfl⟩, ⟨rfl, rfl, rfl⟩, ⟨rfl, rfl, rfl⟩, trivial⟩).2 h, rfl, trivial⟩).mono ?_
      rintro e w' ⟨v, rfl, h1, h2⟩
      have h1 : v = .bool _ := h1
      subst h1
      exact ⟨by simp [poseB, c0, c1], h2⟩
  · refine (calls_runFn (ρ := frs (xSmall996X r0 r1 r2 r3 r4 r5 r6) ++ [.val (.bool r0.s), .dig r0.L r0.p, .dig r0.N r0.q, .val (.bool r1.s), .dig r1.L r1.p, .dig r1.N r1.q, .val (.bool r2.s), .dig r2.L r2.p, .dig r2.N r2.q, .val (.bool r3.s), .dig r3.L r3.p, .dig r3.N r3.q, .val (.bool r4.s), .dig r4.L r4.p, .dig r4.N r4.q, .val (.bool r5.s), .dig r5.L r5.p, .dig r5.N r5.q, .val (.bool r6.s), .dig r6.L r6.p, .dig r6.N r6.q]) (w := w) (fuel := 300) (args := [rowN [0, 3, 6, 9, 12, 15, 18], .one (.i .u32 99)]) (vs := [x, .int .u32 99]) (r := .v (.one (.b false)))
      (il_cons (I_small (n := 0) (r := r0) (d := false) ⟨⟨rfl, rfl, rfl⟩, trivial⟩ 99 (by decide) c0 lr0 nr0) il_nil)
      ol_nil (by kernel_rfl) Tryz.func13 (by kernel_rfl) ⟨(rowN_isL (ns := [0, 3, 6, 9, 12, 15, 18]) (rs := [r0, r1, r2, r3, r4, r5, r6]) ⟨⟨rfl, rfl, rfl⟩, ⟨rfl, rfl, rfl⟩, ⟨rfl, rfl, rfl⟩, ⟨rfl, rfl, rfl⟩, ⟨rfl, rfl, rfl⟩, ⟨rfl, rfl, rfl⟩, ⟨rfl, rfl, rfl⟩, trivial⟩).2 h, rfl, trivial⟩).mono ?_
    rintro e w' ⟨v, rfl, h1, h2⟩
    have h1 : v = .bool _ := h1
    subst h1
    exact ⟨by simp [poseB, c0], h2⟩
theorem I_Small99 {xs : List Fq} {ys : Rho} {ns : List Nat} {r0 r1 r2 r3 r4 r5 r6 : Rq} {d : Bool} (hr : AtR (frs xs ++ ys) ns [r0, r1, r2, r3, r4, r5, r6]) (hd : poseB 99 r0 r1 r2 r3 r4 r5 r6 = d) (lr0 : r0.L ≤ 1100000) (nr0 : r0.N ≤ 1100000) (lr1 : r1.L ≤ 1100000) (nr1 : r1.N ≤ 1100000) (lr2 : r2.L ≤ 1100000) (nr2 : r2.N ≤ 1100000) (lr3 : r3.L ≤ 1100000) (nr3 : r3.N ≤ 1100000) (lr4 : r4.L ≤ 1100000) (nr4 : r4.N ≤ 1100000) (lr5 : r5.L ≤ 1100000) (nr5 : r5.N ≤ 1100000) (lr6 : r6.L ≤ 1100000) (nr6 : r6.N ≤ 1100000) : OkI xs ys ⟨13, [rowN ns, .one (.i .u32 99)], .v (.one (.b d))⟩ :=
  ⟨enters Tryz.func13 rfl rfl, fun B w vs hB h => by
    match vs, h with
    | [x, y], h =>
      have e : y = .int .u32 99 := h.2.1
      subst e
      refine (q_Small99 x r0 r1 r2 r3 r4 r5 r6 w ((rowN_isL hr).1 h.1) lr0 nr0 lr1 nr1 lr2 nr2 lr3 nr3 lr4 nr4 lr5 nr5 lr6 nr6).mono ?_
      rintro e w' ⟨rfl, h2⟩
      exact ⟨_, rfl, by subst hd; rfl, h2⟩⟩
theorem I_Small99Q {xs : List Fq} {ys : Rho} {ks : List Nat} {a : Pq} (ar : AtL xs ks [a.rot.w, a.rot.x, a.rot.y, a.rot.z, a.pos.x, a.pos.y, a.pos.z]) (h0 : a.lim 99 = true) (ha : a.ok 4) : OkI xs ys ⟨13, [row ks, .one (.i .u32 99)], .v (.one (.b true))⟩ :=
  ⟨enters Tryz.func13 rfl rfl, fun B w vs hB h => by
    match vs, h with
    | [x, y], h =>
      have e : y = .int .u32 99 := h.2.1
      subst e
      refine (q_Small99 x (a.rot.w.raw) (a.rot.x.raw) (a.rot.y.raw) (a.rot.z.raw) (a.pos.x.raw) (a.pos.y.raw) (a.pos.z.raw) w ((row_isL ar).1 h.1) (Nat.le_trans ha.rot.w.p (by decide)) (Nat.le_trans ha.rot.w.q (by decide)) (Nat.le_trans ha.rot.x.p (by decide)) (Nat.le_trans ha.rot.x.q (by decide)) (Nat.le_trans ha.rot.y.p (by decide)) (Nat.le_trans ha.rot.y.q (by decide)) (Nat.le_trans ha.rot.z.p (by decide)) (Nat.le_trans ha.rot.z.q (by decide)) (Nat.le_trans ha.pos.x.p (by decide)) (Nat.le_trans ha.pos.x.q (by decide)) (Nat.le_trans ha.pos.y.p (by decide)) (Nat.le_trans ha.pos.y.q (by decide)) (Nat.le_trans ha.pos.z.p (by decide)) (Nat.le_trans ha.pos.z.q (by decide))).mono ?_
      rintro e w' ⟨rfl, h2⟩
      exact ⟨_, rfl, by rw [show poseB 99 (a.rot.w.raw) (a.rot.x.raw) (a.rot.y.raw) (a.rot.z.raw) (a.pos.x.raw) (a.pos.y.raw) (a.pos.z.raw) = true from h0]; rfl, h2⟩⟩
end Go.Proofs.YthebfmlfgfmlnaaGreatDoor
