/- Package pose and its reference, by the executor. -/
import Derived.Test.YthebfmlfgfmlnaaGreatDoorP14
namespace Go.Proofs.YthebfmlfgfmlnaaGreatDoor
set_option linter.unusedSimpArgs false
set_option linter.unusedVariables false
set_option maxRecDepth 100000
open Go.RowKit
/-- A pose: a rotation and a position. -/
structure Pq where
  rot : Qq
  pos : Vq
structure Pq.ok (d : Nat) (p : Pq) : Prop where
  rot : p.rot.ok d
  pos : p.pos.ok d
structure Pq.good (p : Pq) : Prop where
  rot : p.rot.good
  pos : p.pos.good
def Pq.id : Pq := ⟨Qq.id, Vq.of 0 0 0⟩
def Pq.zero : Pq := ⟨Qq.zero, ⟨.zero, .zero, .zero⟩⟩
/-- The image of a point. -/
def Pq.app (p : Pq) (v : Vq) : Vq := (p.rot.app v).add p.pos
/-- One after the other. -/
def Pq.mul (a b : Pq) : Pq := ⟨a.rot.mul b.rot, a.app b.pos⟩
def Pq.inv (a : Pq) : Pq := ⟨a.rot.inv, a.rot.inv.app (a.pos.scale (Fq.ofInt (-1)))⟩
def Pq.sq (a : Pq) (u v : Vq) : Fq := ((a.app u).sub (a.app v)).dot ((a.app u).sub (a.app v))
theorem Pq.ok.mono {p : Pq} {d e : Nat} (h : p.ok d) (k : d ≤ e) : p.ok e := ⟨h.rot.mono k, h.pos.mono k⟩
theorem Pq.good.app {p : Pq} {v : Vq} (h : p.good) (k : v.good) : (p.app v).good := (app_good h.rot k).add h.pos
theorem Pq.good.mul {a b : Pq} (h : a.good) (k : b.good) : (a.mul b).good := ⟨mul_good h.rot k.rot, h.app k.pos⟩
theorem Pq.good.inv {a : Pq} (h : a.good) : a.inv.good := ⟨inv_good h.rot, app_good (inv_good h.rot) (h.pos.scale (ofInt_valid _))⟩
theorem Pq.good.id : Pq.id.good := ⟨id_good, Vq.good.of 0 0 0⟩
theorem Pq.ok.app {p : Pq} {v : Vq} {d e : Nat} (h : p.ok d) (k : v.ok e) (g : p.good) : (p.app v).ok (700 * (d + e) + 300) := ((h.rot.app k g.rot).add h.pos).mono (by omega)
theorem Pq.ok.mul {a b : Pq} {d e : Nat} (h : a.ok d) (k : b.ok e) (g : a.good) (l : b.good) : (a.mul b).ok (700 * (d + e) + 300) := ⟨(h.rot.mulg k.rot g.rot l.rot).mono (by omega), h.app k.pos g⟩
theorem Pq.ok.inv {a : Pq} {d : Nat} (h : a.ok d) (g : a.good) : a.inv.ok (1000 * d + 3000) := ⟨(h.rot.inv g.rot).mono (by omega), ((h.rot.inv g.rot).app (h.pos.scale (ok_int (by decide) (by decide))) (inv_good g.rot)).mono (by omega)⟩
theorem Pq.ok.id : Pq.id.ok 2 := ⟨ok_id, ok_vof (by decide) (by decide) (by decide) (by decide) (by decide) (by decide)⟩
theorem Pq.ok.sq {p : Pq} {u v : Vq} {d e f : Nat} (h : p.ok d) (k : u.ok e) (l : v.ok f) (g : p.good) : (p.sq u v).ok (60000 * (d + e + f) + 30000) := (((h.app k g).sub (h.app l g)).dot ((h.app k g).sub (h.app l g))).mono (by omega)
abbrev IsOq (w : World) (v : Value) (p : Pq) : Prop := IsL w v [p.rot.w.raw, p.rot.x.raw, p.rot.y.raw, p.rot.z.raw, p.pos.x.raw, p.pos.y.raw, p.pos.z.raw]
abbrev RetOq (W : World) (p : Pq) (e : Ending) (w' : World) : Prop := RetL W [p.rot.w.raw, p.rot.x.raw, p.rot.y.raw, p.rot.z.raw, p.pos.x.raw, p.pos.y.raw, p.pos.z.raw] e w'
abbrev RetOqE (W : World) (p : Pq) (c : Int) (e : Ending) (w' : World) : Prop := RetLE W [p.rot.w.raw, p.rot.x.raw, p.rot.y.raw, p.rot.z.raw, p.pos.x.raw, p.pos.y.raw, p.pos.z.raw] c e w'
def xvEqual1X (a : Vq) (b : Vq) : List Fq := [a.x, a.y, a.z, b.x, b.y, b.z]
theorem q_vEqual1 (va vb : Value) (a : Vq) (b : Vq) (w : World) (ia : IsVq w va a) (ib : IsVq w vb b) (ha : a.ok 100000000) (hb : b.ok 100000000) (e0 : a = b) (ga : a.good) (gb : b.good) :
    Calls Tryz.prog 70 #[va, vb] w fun e w' => RetV w (.bool true) e w' := by
  refine (calls_runFn (ρ := frs (xvEqual1X a b) ++ []) (w := w) (fuel := 300) (args := [row [0, 1, 2], row [3, 4, 5]]) (vs := [va, vb]) (r := .v (.one (.b true)))
    (il_cons (I_fCmp (i := 0) (j := 3) rfl rfl (li ((o_zero ga.x gb.x).2 (congrArg Vq.x e0))) (ha.x.mono (by decide)) (hb.x.mono (by decide))) (il_cons (I_fCmp (i := 1) (j := 4) rfl rfl (li ((o_zero ga.y gb.y).2 (congrArg Vq.y e0))) (ha.y.mono (by decide)) (hb.y.mono (by decide))) (il_cons (I_fCmp (i := 2) (j := 5) rfl rfl (li ((o_zero ga.z gb.z).2 (congrArg Vq.z e0))) (ha.z.mono (by decide)) (hb.z.mono (by decide))) il_nil)))
    ol_nil (by kernel_rfl) Tryz.func70 (by kernel_rfl) ⟨(row_isL (xs := xvEqual1X a b) (ks := [0, 1, 2]) (vs := [a.x, a.y, a.z]) ⟨rfl, rfl, rfl, trivial⟩).2 ia, ⟨(row_isL (xs := xvEqual1X a b) (ks := [3, 4, 5]) (vs := [b.x, b.y, b.z]) ⟨rfl, rfl, rfl, trivial⟩).2 ib, trivial⟩⟩).mono ?_
  rintro e w' ⟨v, rfl, h1, h2⟩
  exact ⟨congrArg Ending.returned h1, h2⟩
theorem I_vEqual1 {xs : List Fq} {ys : Rho} {ka : List Nat} {kb : List Nat} {a : Vq} {b : Vq}  (aa : AtL xs ka [a.x, a.y, a.z]) (ab : AtL xs kb [b.x, b.y, b.z])  (ha : a.ok 100000000) (hb : b.ok 100000000) (e0 : a = b) (ga : a.good) (gb : b.good) : OkI xs ys ⟨70, [row ka, row kb], .v (.one (.b true))⟩ :=
  ⟨enters Tryz.func70 rfl rfl, fun B w vs hB h => by
    match vs, h with
    | [va, vb], h =>
      refine (q_vEqual1 va vb a b w ((row_isL aa).1 h.1) ((row_isL ab).1 h.2.1) ha hb e0 ga gb).mono ?_
      rintro e w' ⟨rfl, h2⟩
      exact ⟨_, rfl, rfl, h2⟩⟩
def xvEqual0X (a : Vq) (b : Vq) : List Fq := [a.x, a.y, a.z, b.x, b.y, b.z]
def xvEqual01X (a : Vq) (b : Vq) : List Fq := [a.x, a.y, a.z, b.x, b.y, b.z]
def xvEqual02X (a : Vq) (b : Vq) : List Fq := [a.x, a.y, a.z, b.x, b.y, b.z]
theorem q_vEqual0 (va vb : Value) (a : Vq) (b : Vq) (w : World) (ia : IsVq w va a) (ib : IsVq w vb b) (ha : a.ok 100000000) (hb : b.ok 100000000) (e0 : a ≠ b) (ga : a.good) (gb : b.good) :
    Calls Tryz.prog 70 #[va, vb] w fun e w' => RetV w (.bool false) e w' := by
  by_cases c0 : a.x = b.x
  · by_cases c1 : a.y = b.y
    · by_cases c2 : a.z = b.z
      · exact absurd (by cases a; cases b; simp only at c0 c1 c2; subst c0 c1 c2; rfl) e0
      · refine (calls_runFn (ρ := frs (xvEqual0X a b) ++ [.val (.int .i64 (a.z.cmp b.z))]) (w := w) (fuel := 300) (args := [row [0, 1, 2], row [3, 4, 5]]) (vs := [va, vb]) (r := .v (.one (.b false)))
          (il_cons (I_fCmp (i := 0) (j := 3) rfl rfl (li ((o_zero ga.x gb.x).2 c0)) (ha.x.mono (by decide)) (hb.x.mono (by decide))) (il_cons (I_fCmp (i := 1) (j := 4) rfl rfl (li ((o_zero ga.y gb.y).2 c1)) (ha.y.mono (by decide)) (hb.y.mono (by decide))) (il_cons (I_fCmp (i := 2) (j := 5) rfl rfl (lr (n := 18) rfl) (ha.z.mono (by decide)) (hb.z.mono (by decide))) il_nil)))
          (ol_cons (o_eqlK (n := 18) (c := 0) (u := (a.z.cmp b.z)) (b := false) (t := 3) rfl (ne_eql (mt (o_zero ga.z gb.z).1 c2))) (ol_nil)) (by kernel_rfl) Tryz.func70 (by kernel_rfl) ⟨(row_isL (xs := xvEqual0X a b) (ks := [0, 1, 2]) (vs := [a.x, a.y, a.z]) ⟨rfl, rfl, rfl, trivial⟩).2 ia, ⟨(row_isL (xs := xvEqual0X a b) (ks := [3, 4, 5]) (vs := [b.x, b.y, b.z]) ⟨rfl, rfl, rfl, trivial⟩).2 ib, trivial⟩⟩).mono ?_
        rintro e w' ⟨v, rfl, h1, h2⟩
        exact ⟨congrArg Ending.returned h1, h2⟩
    · refine (calls_runFn (ρ := frs (xvEqual01X a b) ++ [.val (.int .i64 (a.y.cmp b.y))]) (w := w) (fuel := 300) (args := [row [0, 1, 2], row [3, 4, 5]]) (vs := [va, vb]) (r := .v (.one (.b false)))
        (il_cons (I_fCmp (i := 0) (j := 3) rfl rfl (li ((o_zero ga.x gb.x).2 c0)) (ha.x.mono (by decide)) (hb.x.mono (by decide))) (il_cons (I_fCmp (i := 1) (j := 4) rfl rfl (lr (n := 18) rfl) (ha.y.mono (by decide)) (hb.y.mono (by decide))) il_nil))
        (ol_cons (o_eqlK (n := 18) (c := 0) (u := (a.y.cmp b.y)) (b := false) (t := 3) rfl (ne_eql (mt (o_zero ga.y gb.y).1 c1))) (ol_nil)) (by kernel_rfl) Tryz.func70 (by kernel_rfl) ⟨(row_isL (xs := xvEqual01X a b) (ks := [0, 1, 2]) (vs := [a.x, a.y, a.z]) ⟨rfl, rfl, rfl, trivial⟩).2 ia, ⟨(row_isL (xs := xvEqual01X a b) (ks := [3, 4, 5]) (vs := [b.x, b.y, b.z]) ⟨rfl, rfl, rfl, trivial⟩).2 ib, trivial⟩⟩).mono ?_
      rintro e w' ⟨v, rfl, h1, h2⟩
      exact ⟨congrArg Ending.returned h1, h2⟩
  · refine (calls_runFn (ρ := frs (xvEqual02X a b) ++ [.val (.int .i64 (a.x.cmp b.x))]) (w := w) (fuel := 300) (args := [row [0, 1, 2], row [3, 4, 5]]) (vs := [va, vb]) (r := .v (.one (.b false)))
      (il_cons (I_fCmp (i := 0) (j := 3) rfl rfl (lr (n := 18) rfl) (ha.x.mono (by decide)) (hb.x.mono (by decide))) il_nil)
      (ol_cons (o_eqlK (n := 18) (c := 0) (u := (a.x.cmp b.x)) (b := false) (t := 3) rfl (ne_eql (mt (o_zero ga.x gb.x).1 c0))) (ol_nil)) (by kernel_rfl) Tryz.func70 (by kernel_rfl) ⟨(row_isL (xs := xvEqual02X a b) (ks := [0, 1, 2]) (vs := [a.x, a.y, a.z]) ⟨rfl, rfl, rfl, trivial⟩).2 ia, ⟨(row_isL (xs := xvEqual02X a b) (ks := [3, 4, 5]) (vs := [b.x, b.y, b.z]) ⟨rfl, rfl, rfl, trivial⟩).2 ib, trivial⟩⟩).mono ?_
    rintro e w' ⟨v, rfl, h1, h2⟩
    exact ⟨congrArg Ending.returned h1, h2⟩
theorem I_vEqual0 {xs : List Fq} {ys : Rho} {ka : List Nat} {kb : List Nat} {a : Vq} {b : Vq}  (aa : AtL xs ka [a.x, a.y, a.z]) (ab : AtL xs kb [b.x, b.y, b.z])  (ha : a.ok 100000000) (hb : b.ok 100000000) (e0 : a ≠ b) (ga : a.good) (gb : b.good) : OkI xs ys ⟨70, [row ka, row kb], .v (.one (.b false))⟩ :=
  ⟨enters Tryz.func70 rfl rfl, fun B w vs hB h => by
    match vs, h with
    | [va, vb], h =>
      refine (q_vEqual0 va vb a b w ((row_isL aa).1 h.1) ((row_isL ab).1 h.2.1) ha hb e0 ga gb).mono ?_
      rintro e w' ⟨rfl, h2⟩
      exact ⟨_, rfl, rfl, h2⟩⟩
def xvLerpX (a : Vq) (b : Vq) (k : Fq) : List Fq := [a.x, a.y, a.z, b.x, b.y, b.z, k, (b.sub a).x, (b.sub a).y, (b.sub a).z, ((b.sub a).scale k).x, ((b.sub a).scale k).y, ((b.sub a).scale k).z, (a.add ((b.sub a).scale k)).x, (a.add ((b.sub a).scale k)).y, (a.add ((b.sub a).scale k)).z]
theorem q_vLerp (va vb vk : Value) (a : Vq) (b : Vq) (k : Fq) (w : World) (ia : IsVq w va a) (ib : IsVq w vb b) (ik : IsQ w vk k) (ha : a.ok 10000000) (hb : b.ok 10000000) (hk : k.ok 10000000) :
    Calls Tryz.prog 79 #[va, vb, vk] w fun e w' => RetVq w (a.lerp b k) e w' := by
  refine (calls_runFn (ρ := frs (xvLerpX a b k) ++ []) (w := w) (fuel := 300) (args := [row [0, 1, 2], row [3, 4, 5], fr 6]) (vs := [va, vb, vk]) (r := .v (row [13, 14, 15]))
    (il_cons (I_vSub (ka := [3, 4, 5]) (a := b) (kb := [0, 1, 2]) (b := a) (kr := [7, 8, 9]) ⟨rfl, rfl, rfl, trivial⟩ ⟨rfl, rfl, rfl, trivial⟩ ⟨rfl, rfl, rfl, trivial⟩ (hb.mono (by decide)) (ha.mono (by decide))) (il_cons (I_vScale (ka := [7, 8, 9]) (a := (b.sub a)) (ik := 6) (kr := [10, 11, 12]) ⟨rfl, rfl, rfl, trivial⟩ rfl ⟨rfl, rfl, rfl, trivial⟩ ((hb.sub ha).mono (by decide)) (hk.mono (by decide))) (il_cons (I_vAdd (ka := [0, 1, 2]) (a := a) (kb := [10, 11, 12]) (b := ((b.sub a).scale k)) (kr := [13, 14, 15]) ⟨rfl, rfl, rfl, trivial⟩ ⟨rfl, rfl, rfl, trivial⟩ ⟨rfl, rfl, rfl, trivial⟩ (ha.mono (by decide)) (((hb.sub ha).scale hk).mono (by decide))) il_nil)))
    ol_nil (by kernel_rfl) Tryz.func79 (by kernel_rfl) ⟨(row_isL (xs := xvLerpX a b k) (ks := [0, 1, 2]) (vs := [a.x, a.y, a.z]) ⟨rfl, rfl, rfl, trivial⟩).2 ia, ⟨(row_isL (xs := xvLerpX a b k) (ks := [3, 4, 5]) (vs := [b.x, b.y, b.z]) ⟨rfl, rfl, rfl, trivial⟩).2 ib, ⟨(fr_isQ (xs := xvLerpX a b k) (k := 6) rfl).2 ik, trivial⟩⟩⟩).mono ?_
  rintro e w' ⟨v, rfl, h1, h2⟩
  exact ⟨v, rfl, (row_isL (xs := xvLerpX a b k) (ks := [13, 14, 15]) (vs := [(a.add ((b.sub a).scale k)).x, (a.add ((b.sub a).scale k)).y, (a.add ((b.sub a).scale k)).z]) ⟨rfl, rfl, rfl, trivial⟩).1 h1, h2⟩
theorem I_vLerp {xs : List Fq} {ys : Rho} {ka : List Nat} {kb : List Nat} {ik : Nat} {a : Vq} {b : Vq} {k : Fq} {kr : List Nat} (aa : AtL xs ka [a.x, a.y, a.z]) (ab : AtL xs kb [b.x, b.y, b.z]) (ak : xs[ik]? = some k) (ar : AtL xs kr [(a.lerp b k).x, (a.lerp b k).y, (a.lerp b k).z]) (ha : a.ok 10000000) (hb : b.ok 10000000) (hk : k.ok 10000000) : OkI xs ys ⟨79, [row ka, row kb, fr ik], .v (row kr)⟩ :=
  ⟨enters Tryz.func79 rfl rfl, fun B w vs hB h => by
    match vs, h with
    | [va, vb, vk], h =>
      refine (q_vLerp va vb vk a b k w ((row_isL aa).1 h.1) ((row_isL ab).1 h.2.1) ((fr_isQ ak).1 h.2.2.1) ha hb hk).mono ?_
      rintro e w' ⟨v, rfl, h1, h2⟩
      exact ⟨v, rfl, (row_isL ar).2 h1, h2⟩⟩
def xvValidX (a : Vq) : List Fq := [a.x, a.y, a.z]
theorem q_vValid (va : Value) (a : Vq) (w : World) (ia : IsVq w va a) (ha : a.ok 1000000) (ga : a.good) :
    Calls Tryz.prog 42 #[va] w fun e w' => RetV w (.bool true) e w' := by
  refine (calls_runFn (ρ := frs (xvValidX a) ++ []) (w := w) (fuel := 300) (args := [row [0, 1, 2]]) (vs := [va]) (r := .v (.one (.b true)))
    (il_cons (I_fValid (i := 0) (l := .b true) rfl (lb ga.x) (ha.x.mono (by decide))) (il_cons (I_fValid (i := 1) (l := .b true) rfl (lb ga.y) (ha.y.mono (by decide))) (il_cons (I_fValid (i := 2) (l := .b true) rfl (lb ga.z) (ha.z.mono (by decide))) il_nil)))
    ol_nil (by kernel_rfl) Tryz.func42 (by kernel_rfl) ⟨(row_isL (xs := xvValidX a) (ks := [0, 1, 2]) (vs := [a.x, a.y, a.z]) ⟨rfl, rfl, rfl, trivial⟩).2 ia, trivial⟩).mono ?_
  rintro e w' ⟨v, rfl, h1, h2⟩
  exact ⟨congrArg Ending.returned h1, h2⟩
theorem I_vValid {xs : List Fq} {ys : Rho} {ka : List Nat} {a : Vq}  (aa : AtL xs ka [a.x, a.y, a.z])  (ha : a.ok 1000000) (ga : a.good) : OkI xs ys ⟨42, [row ka], .v (.one (.b true))⟩ :=
  ⟨enters Tryz.func42 rfl rfl, fun B w vs hB h => by
    match vs, h with
    | [va], h =>
      refine (q_vValid va a w ((row_isL aa).1 h.1) ha ga).mono ?_
      rintro e w' ⟨rfl, h2⟩
      exact ⟨_, rfl, rfl, h2⟩⟩
def xr4AddX (a : Vq) (b : Vq) : List Fq := [a.x, a.y, a.z, b.x, b.y, b.z, (a.x.add b.x), (a.y.add b.y), (a.z.add b.z)]
theorem q_r4Add (va vb : Value) (a : Vq) (b : Vq) (w : World) (ia : IsVq w va a) (ib : IsVq w vb b) (ha : a.ok 100000000) (hb : b.ok 100000000) :
    Calls Tryz.prog 71 #[va, vb] w fun e w' => RetVq w (a.add b) e w' := by
  refine (calls_runFn (ρ := frs (xr4AddX a b) ++ []) (w := w) (fuel := 300) (args := [row [0, 1, 2], row [3, 4, 5]]) (vs := [va, vb]) (r := .v (row [6, 7, 8]))
    (il_cons (I_rAdd (i := 0) (j := 3) (k := 6) rfl rfl rfl (ha.x.mono (by decide)) (hb.x.mono (by decide))) (il_cons (I_rAdd (i := 1) (j := 4) (k := 7) rfl rfl rfl (ha.y.mono (by decide)) (hb.y.mono (by decide))) (il_cons (I_rAdd (i := 2) (j := 5) (k := 8) rfl rfl rfl (ha.z.mono (by decide)) (hb.z.mono (by decide))) il_nil)))
    ol_nil (by kernel_rfl) Tryz.func71 (by kernel_rfl) ⟨(row_isL (xs := xr4AddX a b) (ks := [0, 1, 2]) (vs := [a.x, a.y, a.z]) ⟨rfl, rfl, rfl, trivial⟩).2 ia, ⟨(row_isL (xs := xr4AddX a b) (ks := [3, 4, 5]) (vs := [b.x, b.y, b.z]) ⟨rfl, rfl, rfl, trivial⟩).2 ib, trivial⟩⟩).mono ?_
  rintro e w' ⟨v, rfl, h1, h2⟩
  exact ⟨v, rfl, (row_isL (xs := xr4AddX a b) (ks := [6, 7, 8]) (vs := [(a.x.add b.x), (a.y.add b.y), (a.z.add b.z)]) ⟨rfl, rfl, rfl, trivial⟩).1 h1, h2⟩
theorem I_r4Add {xs : List Fq} {ys : Rho} {ka : List Nat} {kb : List Nat} {a : Vq} {b : Vq} {kr : List Nat} (aa : AtL xs ka [a.x, a.y, a.z]) (ab : AtL xs kb [b.x, b.y, b.z]) (ar : AtL xs kr [(a.add b).x, (a.add b).y, (a.add b).z]) (ha : a.ok 100000000) (hb : b.ok 100000000) : OkI xs ys ⟨71, [row ka, row kb], .v (row kr)⟩ :=
  ⟨enters Tryz.func71 rfl rfl, fun B w vs hB h => by
    match vs, h with
    | [va, vb], h =>
      refine (q_r4Add va vb a b w ((row_isL aa).1 h.1) ((row_isL ab).1 h.2.1) ha hb).mono ?_
      rintro e w' ⟨v, rfl, h1, h2⟩
      exact ⟨v, rfl, (row_isL ar).2 h1, h2⟩⟩
def xr4SubX (a : Vq) (b : Vq) : List Fq := [a.x, a.y, a.z, b.x, b.y, b.z, (a.x.sub b.x), (a.y.sub b.y), (a.z.sub b.z)]
theorem q_r4Sub (va vb : Value) (a : Vq) (b : Vq) (w : World) (ia : IsVq w va a) (ib : IsVq w vb b) (ha : a.ok 100000000) (hb : b.ok 100000000) :
    Calls Tryz.prog 20 #[va, vb] w fun e w' => RetVq w (a.sub b) e w' := by
  refine (calls_runFn (ρ := frs (xr4SubX a b) ++ []) (w := w) (fuel := 300) (args := [row [0, 1, 2], row [3, 4, 5]]) (vs := [va, vb]) (r := .v (row [6, 7, 8]))
    (il_cons (I_rSub (i := 0) (j := 3) (k := 6) rfl rfl rfl (ha.x.mono (by decide)) (hb.x.mono (by decide))) (il_cons (I_rSub (i := 1) (j := 4) (k := 7) rfl rfl rfl (ha.y.mono (by decide)) (hb.y.mono (by decide))) (il_cons (I_rSub (i := 2) (j := 5) (k := 8) rfl rfl rfl (ha.z.mono (by decide)) (hb.z.mono (by decide))) il_nil)))
    ol_nil (by kernel_rfl) Tryz.func20 (by kernel_rfl) ⟨(row_isL (xs := xr4SubX a b) (ks := [0, 1, 2]) (vs := [a.x, a.y, a.z]) ⟨rfl, rfl, rfl, trivial⟩).2 ia, ⟨(row_isL (xs := xr4SubX a b) (ks := [3, 4, 5]) (vs := [b.x, b.y, b.z]) ⟨rfl, rfl, rfl, trivial⟩).2 ib, trivial⟩⟩).mono ?_
  rintro e w' ⟨v, rfl, h1, h2⟩
  exact ⟨v, rfl, (row_isL (xs := xr4SubX a b) (ks := [6, 7, 8]) (vs := [(a.x.sub b.x), (a.y.sub b.y), (a.z.sub b.z)]) ⟨rfl, rfl, rfl, trivial⟩).1 h1, h2⟩
theorem I_r4Sub {xs : List Fq} {ys : Rho} {ka : List Nat} {kb : List Nat} {a : Vq} {b : Vq} {kr : List Nat} (aa : AtL xs ka [a.x, a.y, a.z]) (ab : AtL xs kb [b.x, b.y, b.z]) (ar : AtL xs kr [(a.sub b).x, (a.sub b).y, (a.sub b).z]) (ha : a.ok 100000000) (hb : b.ok 100000000) : OkI xs ys ⟨20, [row ka, row kb], .v (row kr)⟩ :=
  ⟨enters Tryz.func20 rfl rfl, fun B w vs hB h => by
    match vs, h with
    | [va, vb], h =>
      refine (q_r4Sub va vb a b w ((row_isL aa).1 h.1) ((row_isL ab).1 h.2.1) ha hb).mono ?_
      rintro e w' ⟨v, rfl, h1, h2⟩
      exact ⟨v, rfl, (row_isL ar).2 h1, h2⟩⟩
def xr4ScaleX (a : Vq) (k : Fq) : List Fq := [a.x, a.y, a.z, k, (a.x.mul k), (a.y.mul k), (a.z.mul k)]
theorem q_r4Scale (va vk : Value) (a : Vq) (k : Fq) (w : World) (ia : IsVq w va a) (ik : IsQ w vk k) (ha : a.ok 100000000) (hk : k.ok 100000000) :
    Calls Tryz.prog 75 #[va, vk] w fun e w' => RetVq w (a.scale k) e w' := by
  refine (calls_runFn (ρ := frs (xr4ScaleX a k) ++ []) (w := w) (fuel := 300) (args := [row [0, 1, 2], fr 3]) (vs := [va, vk]) (r := .v (row [4, 5, 6]))
    (il_cons (I_rMul (i := 0) (j := 3) (k := 4) rfl rfl rfl (ha.x.mono (by decide)) (hk.mono (by decide))) (il_cons (I_rMul (i := 1) (j := 3) (k := 5) rfl rfl rfl (ha.y.mono (by decide)) (hk.mono (by decide))) (il_cons (I_rMul (i := 2) (j := 3) (k := 6) rfl rfl rfl (ha.z.mono (by decide)) (hk.mono (by decide))) il_nil)))
    ol_nil (by kernel_rfl) Tryz.func75 (by kernel_rfl) ⟨(row_isL (xs := xr4ScaleX a k) (ks := [0, 1, 2]) (vs := [a.x, a.y, a.z]) ⟨rfl, rfl, rfl, trivial⟩).2 ia, ⟨(fr_isQ (xs := xr4ScaleX a k) (k := 3) rfl).2 ik, trivial⟩⟩).mono ?_
  rintro e w' ⟨v, rfl, h1, h2⟩
  exact ⟨v, rfl, (row_isL (xs := xr4ScaleX a k) (ks := [4, 5, 6]) (vs := [(a.x.mul k), (a.y.mul k), (a.z.mul k)]) ⟨rfl, rfl, rfl, trivial⟩).1 h1, h2⟩
theorem I_r4Scale {xs : List Fq} {ys : Rho} {ka : List Nat} {ik : Nat} {a : Vq} {k : Fq} {kr : List Nat} (aa : AtL xs ka [a.x, a.y, a.z]) (ak : xs[ik]? = some k) (ar : AtL xs kr [(a.scale k).x, (a.scale k).y, (a.scale k).z]) (ha : a.ok 100000000) (hk : k.ok 100000000) : OkI xs ys ⟨75, [row ka, fr ik], .v (row kr)⟩ :=
  ⟨enters Tryz.func75 rfl rfl, fun B w vs hB h => by
    match vs, h with
    | [va, vk], h =>
      refine (q_r4Scale va vk a k w ((row_isL aa).1 h.1) ((fr_isQ ak).1 h.2.1) ha hk).mono ?_
      rintro e w' ⟨v, rfl, h1, h2⟩
      exact ⟨v, rfl, (row_isL ar).2 h1, h2⟩⟩
def xr4DotX (a : Vq) (b : Vq) : List Fq := [a.x, a.y, a.z, b.x, b.y, b.z, (a.x.mul b.x), (a.y.mul b.y), (a.z.mul b.z), ((a.y.mul b.y).add (a.z.mul b.z)), ((a.x.mul b.x).add ((a.y.mul b.y).add (a.z.mul b.z)))]
theorem q_r4Dot (va vb : Value) (a : Vq) (b : Vq) (w : World) (ia : IsVq w va a) (ib : IsVq w vb b) (ha : a.ok 100000000) (hb : b.ok 100000000) :
    Calls Tryz.prog 23 #[va, vb] w fun e w' => RetQ w (a.dot b) e w' := by
  refine (calls_runFn (ρ := frs (xr4DotX a b) ++ []) (w := w) (fuel := 300) (args := [row [0, 1, 2], row [3, 4, 5]]) (vs := [va, vb]) (r := .v (fr 10))
    (il_cons (I_rMul (i := 0) (j := 3) (k := 6) rfl rfl rfl (ha.x.mono (by decide)) (hb.x.mono (by decide))) (il_cons (I_rMul (i := 1) (j := 4) (k := 7) rfl rfl rfl (ha.y.mono (by decide)) (hb.y.mono (by decide))) (il_cons (I_rMul (i := 2) (j := 5) (k := 8) rfl rfl rfl (ha.z.mono (by decide)) (hb.z.mono (by decide))) (il_cons (I_rAdd (i := 7) (j := 8) (k := 9) rfl rfl rfl ((ha.y.mul hb.y).mono (by decide)) ((ha.z.mul hb.z).mono (by decide))) (il_cons (I_rAdd (i := 6) (j := 9) (k := 10) rfl rfl rfl ((ha.x.mul hb.x).mono (by decide)) (((ha.y.mul hb.y).add (ha.z.mul hb.z)).mono (by decide))) il_nil)))))
    ol_nil (by kernel_rfl) Tryz.func23 (by kernel_rfl) ⟨(row_isL (xs := xr4DotX a b) (ks := [0, 1, 2]) (vs := [a.x, a.y, a.z]) ⟨rfl, rfl, rfl, trivial⟩).2 ia, ⟨(row_isL (xs := xr4DotX a b) (ks := [3, 4, 5]) (vs := [b.x, b.y, b.z]) ⟨rfl, rfl, rfl, trivial⟩).2 ib, trivial⟩⟩).mono ?_
  rintro e w' ⟨v, rfl, h1, h2⟩
  exact ⟨v, rfl, (fr_isQ (xs := xr4DotX a b) (k := 10) rfl).1 h1, h2⟩
theorem I_r4Dot {xs : List Fq} {ys : Rho} {ka : List Nat} {kb : List Nat} {a : Vq} {b : Vq} {ir : Nat} (aa : AtL xs ka [a.x, a.y, a.z]) (ab : AtL xs kb [b.x, b.y, b.z]) (ar : xs[ir]? = some (a.dot b)) (ha : a.ok 100000000) (hb : b.ok 100000000) : OkI xs ys ⟨23, [row ka, row kb], .v (fr ir)⟩ :=
  ⟨enters Tryz.func23 rfl rfl, fun B w vs hB h => by
    match vs, h with
    | [va, vb], h =>
      refine (q_r4Dot va vb a b w ((row_isL aa).1 h.1) ((row_isL ab).1 h.2.1) ha hb).mono ?_
      rintro e w' ⟨v, rfl, h1, h2⟩
      exact ⟨v, rfl, (fr_isQ ar).2 h1, h2⟩⟩
def xr4Equal1X (a : Vq) (b : Vq) : List Fq := [a.x, a.y, a.z, b.x, b.y, b.z]
theorem q_r4Equal1 (va vb : Value) (a : Vq) (b : Vq) (w : World) (ia : IsVq w va a) (ib : IsVq w vb b) (ha : a.ok 1000000000) (hb : b.ok 1000000000) (e0 : a = b) :
    Calls Tryz.prog 28 #[va, vb] w fun e w' => RetV w (.bool true) e w' := by
  refine (calls_runFn (ρ := frs (xr4Equal1X a b) ++ []) (w := w) (fuel := 300) (args := [row [0, 1, 2], row [3, 4, 5]]) (vs := [va, vb]) (r := .v (.one (.b true)))
    (il_cons (I_rSame (i := 0) (j := 3) (l := .b true) rfl rfl (lb (Fq.same_iff.2 (congrArg Vq.x e0))) (ha.x.mono (by decide)).p (ha.x.mono (by decide)).q (hb.x.mono (by decide)).p (hb.x.mono (by decide)).q) (il_cons (I_rSame (i := 1) (j := 4) (l := .b true) rfl rfl (lb (Fq.same_iff.2 (congrArg Vq.y e0))) (ha.y.mono (by decide)).p (ha.y.mono (by decide)).q (hb.y.mono (by decide)).p (hb.y.mono (by decide)).q) (il_cons (I_rSame (i := 2) (j := 5) (l := .b true) rfl rfl (lb (Fq.same_iff.2 (congrArg Vq.z e0))) (ha.z.mono (by decide)).p (ha.z.mono (by decide)).q (hb.z.mono (by decide)).p (hb.z.mono (by decide)).q) il_nil)))
    ol_nil (by kernel_rfl) Tryz.func28 (by kernel_rfl) ⟨(row_isL (xs := xr4Equal1X a b) (ks := [0, 1, 2]) (vs := [a.x, a.y, a.z]) ⟨rfl, rfl, rfl, trivial⟩).2 ia, ⟨(row_isL (xs := xr4Equal1X a b) (ks := [3, 4, 5]) (vs := [b.x, b.y, b.z]) ⟨rfl, rfl, rfl, trivial⟩).2 ib, trivial⟩⟩).mono ?_
  rintro e w' ⟨v, rfl, h1, h2⟩
  exact ⟨congrArg Ending.returned h1, h2⟩
theorem I_r4Equal1 {xs : List Fq} {ys : Rho} {ka : List Nat} {kb : List Nat} {a : Vq} {b : Vq}  (aa : AtL xs ka [a.x, a.y, a.z]) (ab : AtL xs kb [b.x, b.y, b.z])  (ha : a.ok 1000000000) (hb : b.ok 1000000000) (e0 : a = b) : OkI xs ys ⟨28, [row ka, row kb], .v (.one (.b true))⟩ :=
  ⟨enters Tryz.func28 rfl rfl, fun B w vs hB h => by
    match vs, h with
    | [va, vb], h =>
      refine (q_r4Equal1 va vb a b w ((row_isL aa).1 h.1) ((row_isL ab).1 h.2.1) ha hb e0).mono ?_
      rintro e w' ⟨rfl, h2⟩
      exact ⟨_, rfl, rfl, h2⟩⟩
def xr4Equal0X (a : Vq) (b : Vq) : List Fq := [a.x, a.y, a.z, b.x, b.y, b.z]
def xr4Equal01X (a : Vq) (b : Vq) : List Fq := [a.x, a.y, a.z, b.x, b.y, b.z]
def xr4Equal02X (a : Vq) (b : Vq) : List Fq := [a.x, a.y, a.z, b.x, b.y, b.z]
theorem q_r4Equal0 (va vb : Value) (a : Vq) (b : Vq) (w : World) (ia : IsVq w va a) (ib : IsVq w vb b) (ha : a.ok 1000000000) (hb : b.ok 1000000000) (e0 : a ≠ b) :
    Calls Tryz.prog 28 #[va, vb] w fun e w' => RetV w (.bool false) e w' := by
  by_cases c0 : a.x = b.x
  · by_cases c1 : a.y = b.y
    · by_cases c2 : a.z = b.z
      · exact absurd (by cases a; cases b; simp only at c0 c1 c2; subst c0 c1 c2; rfl) e0
      · refine (calls_runFn (ρ := frs (xr4Equal0X a b) ++ []) (w := w) (fuel := 300) (args := [row [0, 1, 2], row [3, 4, 5]]) (vs := [va, vb]) (r := .v (.one (.b false)))
          (il_cons (I_rSame (i := 0) (j := 3) (l := .b true) rfl rfl (lb (Fq.same_iff.2 c0)) (ha.x.mono (by decide)).p (ha.x.mono (by decide)).q (hb.x.mono (by decide)).p (hb.x.mono (by decide)).q) (il_cons (I_rSame (i := 1) (j := 4) (l := .b true) rfl rfl (lb (Fq.same_iff.2 c1)) (ha.y.mono (by decide)).p (ha.y.mono (by decide)).q (hb.y.mono (by decide)).p (hb.y.mono (by decide)).q) (il_cons (I_rSame (i := 2) (j := 5) (l := .b false) rfl rfl (lb (same_ne c2)) (ha.z.mono (by decide)).p (ha.z.mono (by decide)).q (hb.z.mono (by decide)).p (hb.z.mono (by decide)).q) il_nil)))
          ol_nil (by kernel_rfl) Tryz.func28 (by kernel_rfl) ⟨(row_isL (xs := xr4Equal0X a b) (ks := [0, 1, 2]) (vs := [a.x, a.y, a.z]) ⟨rfl, rfl, rfl, trivial⟩).2 ia, ⟨(row_isL (xs := xr4Equal0X a b) (ks := [3, 4, 5]) (vs := [b.x, b.y, b.z]) ⟨rfl, rfl, rfl, trivial⟩).2 ib, trivial⟩⟩).mono ?_
        rintro e w' ⟨v, rfl, h1, h2⟩
        exact ⟨congrArg Ending.returned h1, h2⟩
    · refine (calls_runFn (ρ := frs (xr4Equal01X a b) ++ []) (w := w) (fuel := 300) (args := [row [0, 1, 2], row [3, 4, 5]]) (vs := [va, vb]) (r := .v (.one (.b false)))
        (il_cons (I_rSame (i := 0) (j := 3) (l := .b true) rfl rfl (lb (Fq.same_iff.2 c0)) (ha.x.mono (by decide)).p (ha.x.mono (by decide)).q (hb.x.mono (by decide)).p (hb.x.mono (by decide)).q) (il_cons (I_rSame (i := 1) (j := 4) (l := .b false) rfl rfl (lb (same_ne c1)) (ha.y.mono (by decide)).p (ha.y.mono (by decide)).q (hb.y.mono (by decide)).p (hb.y.mono (by decide)).q) il_nil))
        ol_nil (by kernel_rfl) Tryz.func28 (by kernel_rfl) ⟨(row_isL (xs := xr4Equal01X a b) (ks := [0, 1, 2]) (vs := [a.x, a.y, a.z]) ⟨rfl, rfl, rfl, trivial⟩).2 ia, ⟨(row_isL (xs := xr4Equal01X a b) (ks := [3, 4, 5]) (vs := [b.x, b.y, b.z]) ⟨rfl, rfl, rfl, trivial⟩).2 ib, trivial⟩⟩).mono ?_
      rintro e w' ⟨v, rfl, h1, h2⟩
      exact ⟨congrArg Ending.returned h1, h2⟩
  · refine (calls_runFn (ρ := frs (xr4Equal02X a b) ++ []) (w := w) (fuel := 300) (args := [row [0, 1, 2], row [3, 4, 5]]) (vs := [va, vb]) (r := .v (.one (.b false)))
      (il_cons (I_rSame (i := 0) (j := 3) (l := .b false) rfl rfl (lb (same_ne c0)) (ha.x.mono (by decide)).p (ha.x.mono (by decide)).q (hb.x.mono (by decide)).p (hb.x.mono (by decide)).q) il_nil)
      ol_nil (by kernel_rfl) Tryz.func28 (by kernel_rfl) ⟨(row_isL (xs := xr4Equal02X a b) (ks := [0, 1, 2]) (vs := [a.x, a.y, a.z]) ⟨rfl, rfl, rfl, trivial⟩).2 ia, ⟨(row_isL (xs := xr4Equal02X a b) (ks := [3, 4, 5]) (vs := [b.x, b.y, b.z]) ⟨rfl, rfl, rfl, trivial⟩).2 ib, trivial⟩⟩).mono ?_
    rintro e w' ⟨v, rfl, h1, h2⟩
    exact ⟨congrArg Ending.returned h1, h2⟩
theorem I_r4Equal0 {xs : List Fq} {ys : Rho} {ka : List Nat} {kb : List Nat} {a : Vq} {b : Vq}  (aa : AtL xs ka [a.x, a.y, a.z]) (ab : AtL xs kb [b.x, b.y, b.z])  (ha : a.ok 1000000000) (hb : b.ok 1000000000) (e0 : a ≠ b) : OkI xs ys ⟨28, [row ka, row kb], .v (.one (.b false))⟩ :=
  ⟨enters Tryz.func28 rfl rfl, fun B w vs hB h => by
    match vs, h with
    | [va, vb], h =>
      refine (q_r4Equal0 va vb a b w ((row_isL aa).1 h.1) ((row_isL ab).1 h.2.1) ha hb e0).mono ?_
      rintro e w' ⟨rfl, h2⟩
      exact ⟨_, rfl, rfl, h2⟩⟩
def xr4LerpX (a : Vq) (b : Vq) (k : Fq) : List Fq := [a.x, a.y, a.z, b.x, b.y, b.z, k, (b.sub a).x, (b.sub a).y, (b.sub a).z, ((b.sub a).scale k).x, ((b.sub a).scale k).y, ((b.sub a).scale k).z, (a.add ((b.sub a).scale k)).x, (a.add ((b.sub a).scale k)).y, (a.add ((b.sub a).scale k)).z]
theorem q_r4Lerp (va vb vk : Value) (a : Vq) (b : Vq) (k : Fq) (w : World) (ia : IsVq w va a) (ib : IsVq w vb b) (ik : IsQ w vk k) (ha : a.ok 10000000) (hb : b.ok 10000000) (hk : k.ok 10000000) :
    Calls Tryz.prog 81 #[va, vb, vk] w fun e w' => RetVq w (a.lerp b k) e w' := by
  refine (calls_runFn (ρ := frs (xr4LerpX a b k) ++ []) (w := w) (fuel := 300) (args := [row [0, 1, 2], row [3, 4, 5], fr 6]) (vs := [va, vb, vk]) (r := .v (row [13, 14, 15]))
    (il_cons (I_r4Sub (ka := [3, 4, 5]) (a := b) (kb := [0, 1, 2]) (b := a) (kr := [7, 8, 9]) ⟨rfl, rfl, rfl, trivial⟩ ⟨rfl, rfl, rfl, trivial⟩ ⟨rfl, rfl, rfl, trivial⟩ (hb.mono (by decide)) (ha.mono (by decide))) (il_cons (I_r4Scale (ka := [7, 8, 9]) (a := (b.sub a)) (ik := 6) (kr := [10, 11, 12]) ⟨rfl, rfl, rfl, trivial⟩ rfl ⟨rfl, rfl, rfl, trivial⟩ ((hb.sub ha).mono (by decide)) (hk.mono (by decide))) (il_cons (I_r4Add (ka := [0, 1, 2]) (a := a) (kb := [10, 11, 12]) (b := ((b.sub a).scale k)) (kr := [13, 14, 15]) ⟨rfl, rfl, rfl, trivial⟩ ⟨rfl, rfl, rfl, trivial⟩ ⟨rfl, rfl, rfl, trivial⟩ (ha.mono (by decide)) (((hb.sub ha).scale hk).mono (by decide))) il_nil)))
    ol_nil (by kernel_rfl) Tryz.func81 (by kernel_rfl) ⟨(row_isL (xs := xr4LerpX a b k) (ks := [0, 1, 2]) (vs := [a.x, a.y, a.z]) ⟨rfl, rfl, rfl, trivial⟩).2 ia, ⟨(row_isL (xs := xr4LerpX a b k) (ks := [3, 4, 5]) (vs := [b.x, b.y, b.z]) ⟨rfl, rfl, rfl, trivial⟩).2 ib, ⟨(fr_isQ (xs := xr4LerpX a b k) (k := 6) rfl).2 ik, trivial⟩⟩⟩).mono ?_
  rintro e w' ⟨v, rfl, h1, h2⟩
  exact ⟨v, rfl, (row_isL (xs := xr4LerpX a b k) (ks := [13, 14, 15]) (vs := [(a.add ((b.sub a).scale k)).x, (a.add ((b.sub a).scale k)).y, (a.add ((b.sub a).scale k)).z]) ⟨rfl, rfl, rfl, trivial⟩).1 h1, h2⟩
theorem I_r4Lerp {xs : List Fq} {ys : Rho} {ka : List Nat} {kb : List Nat} {ik : Nat} {a : Vq} {b : Vq} {k : Fq} {kr : List Nat} (aa : AtL xs ka [a.x, a.y, a.z]) (ab : AtL xs kb [b.x, b.y, b.z]) (ak : xs[ik]? = some k) (ar : AtL xs kr [(a.lerp b k).x, (a.lerp b k).y, (a.lerp b k).z]) (ha : a.ok 10000000) (hb : b.ok 10000000) (hk : k.ok 10000000) : OkI xs ys ⟨81, [row ka, row kb, fr ik], .v (row kr)⟩ :=
  ⟨enters Tryz.func81 rfl rfl, fun B w vs hB h => by
    match vs, h with
    | [va, vb, vk], h =>
      refine (q_r4Lerp va vb vk a b k w ((row_isL aa).1 h.1) ((row_isL ab).1 h.2.1) ((fr_isQ ak).1 h.2.2.1) ha hb hk).mono ?_
      rintro e w' ⟨v, rfl, h1, h2⟩
      exact ⟨v, rfl, (row_isL ar).2 h1, h2⟩⟩
def xr4ValidX (a : Vq) : List Fq := [a.x, a.y, a.z]
theorem q_r4Valid (va : Value) (a : Vq) (w : World) (ia : IsVq w va a) (ha : a.ok 1000000) (ga : a.good) :
    Calls Tryz.prog 44 #[va] w fun e w' => RetV w (.bool true) e w' := by
  refine (calls_runFn (ρ := frs (xr4ValidX a) ++ []) (w := w) (fuel := 300) (args := [row [0, 1, 2]]) (vs := [va]) (r := .v (.one (.b true)))
    (il_cons (I_rValid (i := 0) (l := .b true) rfl (lb ga.x) (ha.x.mono (by decide))) (il_cons (I_rValid (i := 1) (l := .b true) rfl (lb ga.y) (ha.y.mono (by decide))) (il_cons (I_rValid (i := 2) (l := .b true) rfl (lb ga.z) (ha.z.mono (by decide))) il_nil)))
    ol_nil (by kernel_rfl) Tryz.func44 (by kernel_rfl) ⟨(row_isL (xs := xr4ValidX a) (ks := [0, 1, 2]) (vs := [a.x, a.y, a.z]) ⟨rfl, rfl, rfl, trivial⟩).2 ia, trivial⟩).mono ?_
  rintro e w' ⟨v, rfl, h1, h2⟩
  exact ⟨congrArg Ending.returned h1, h2⟩
theorem I_r4Valid {xs : List Fq} {ys : Rho} {ka : List Nat} {a : Vq}  (aa : AtL xs ka [a.x, a.y, a.z])  (ha : a.ok 1000000) (ga : a.good) : OkI xs ys ⟨44, [row ka], .v (.one (.b true))⟩ :=
  ⟨enters Tryz.func44 rfl rfl, fun B w vs hB h => by
    match vs, h with
    | [va], h =>
      refine (q_r4Valid va a w ((row_isL aa).1 h.1) ha ga).mono ?_
      rintro e w' ⟨rfl, h2⟩
      exact ⟨_, rfl, rfl, h2⟩⟩
def xvO0_0_0X  : List Fq := [(Fq.ofInt 0)]
theorem q_vO0_0_0  (w : World)   :
    Calls Tryz.prog 60 #[.int .i64 (0), .int .i64 (0), .int .i64 (0)] w fun e w' => RetVq w (Vq.of 0 0 0) e w' := by
  refine (calls_runFn (ρ := frs (xvO0_0_0X ) ++ []) (w := w) (fuel := 300) (args := [.one (.i .i64 0), .one (.i .i64 0), .one (.i .i64 0)]) (vs := [.int .i64 (0), .int .i64 (0), .int .i64 (0)]) (r := .v (row [0, 0, 0]))
    (il_cons (I_fInt (k := 0) rfl (by decide) (by decide)) il_nil)
    ol_nil (by kernel_rfl) Tryz.func60 (by kernel_rfl) ⟨rfl, ⟨rfl, ⟨rfl, trivial⟩⟩⟩).mono ?_
  rintro e w' ⟨v, rfl, h1, h2⟩
  exact ⟨v, rfl, (row_isL (xs := xvO0_0_0X ) (ks := [0, 0, 0]) (vs := [(Fq.ofInt 0), (Fq.ofInt 0), (Fq.ofInt 0)]) ⟨rfl, rfl, rfl, trivial⟩).1 h1, h2⟩
theorem I_vO0_0_0 {xs : List Fq} {ys : Rho}   {kr : List Nat}  (ar : AtL xs kr [(Vq.of 0 0 0).x, (Vq.of 0 0 0).y, (Vq.of 0 0 0).z]) : OkI xs ys ⟨60, [.one (.i .i64 0), .one (.i .i64 0), .one (.i .i64 0)], .v (row kr)⟩ :=
  ⟨enters Tryz.func60 rfl rfl, fun B w vs hB h => by
    match vs, h with
    | [vx, vy, vz], h =>
      have ex : vx = .int .i64 (0) := h.1
      subst ex
      have ey : vy = .int .i64 (0) := h.2.1
      subst ey
      have ez : vz = .int .i64 (0) := h.2.2.1
      subst ez
      refine (q_vO0_0_0 w).mono ?_
      rintro e w' ⟨v, rfl, h1, h2⟩
      exact ⟨v, rfl, (row_isL ar).2 h1, h2⟩⟩
def xrO0_0_0X  : List Fq := [(Fq.ofInt 0)]
theorem q_rO0_0_0  (w : World)   :
    Calls Tryz.prog 40 #[.int .i64 (0), .int .i64 (0), .int .i64 (0)] w fun e w' => RetVq w (Vq.of 0 0 0) e w' := by
  refine (calls_runFn (ρ := frs (xrO0_0_0X ) ++ []) (w := w) (fuel := 300) (args := [.one (.i .i64 0), .one (.i .i64 0), .one (.i .i64 0)]) (vs := [.int .i64 (0), .int .i64 (0), .int .i64 (0)]) (r := .v (row [0, 0, 0]))
    (il_cons (I_rInt (k := 0) rfl (by decide) (by decide)) il_nil)
    ol_nil (by kernel_rfl) Tryz.func40 (by kernel_rfl) ⟨rfl, ⟨rfl, ⟨rfl, trivial⟩⟩⟩).mono ?_
  rintro e w' ⟨v, rfl, h1, h2⟩
  exact ⟨v, rfl, (row_isL (xs := xrO0_0_0X ) (ks := [0, 0, 0]) (vs := [(Fq.ofInt 0), (Fq.ofInt 0), (Fq.ofInt 0)]) ⟨rfl, rfl, rfl, trivial⟩).1 h1, h2⟩
theorem I_rO0_0_0 {xs : List Fq} {ys : Rho}   {kr : List Nat}  (ar : AtL xs kr [(Vq.of 0 0 0).x, (Vq.of 0 0 0).y, (Vq.of 0 0 0).z]) : OkI xs ys ⟨40, [.one (.i .i64 0), .one (.i .i64 0), .one (.i .i64 0)], .v (row kr)⟩ :=
  ⟨enters Tryz.func40 rfl rfl, fun B w vs hB h => by
    match vs, h with
    | [vx, vy, vz], h =>
      have ex : vx = .int .i64 (0) := h.1
      subst ex
      have ey : vy = .int .i64 (0) := h.2.1
      subst ey
      have ez : vz = .int .i64 (0) := h.2.2.1
      subst ez
      refine (q_rO0_0_0 w).mono ?_
      rintro e w' ⟨v, rfl, h1, h2⟩
      exact ⟨v, rfl, (row_isL ar).2 h1, h2⟩⟩
def xrO1_2_3X  : List Fq := [(Fq.ofInt 1), (Fq.ofInt 2), (Fq.ofInt 3)]
theorem q_rO1_2_3  (w : World)   :
    Calls Tryz.prog 40 #[.int .i64 (1), .int .i64 (2), .int .i64 (3)] w fun e w' => RetVq w (Vq.of 1 2 3) e w' := by
  refine (calls_runFn (ρ := frs (xrO1_2_3X ) ++ []) (w := w) (fuel := 300) (args := [.one (.i .i64 1), .one (.i .i64 2), .one (.i .i64 3)]) (vs := [.int .i64 (1), .int .i64 (2), .int .i64 (3)]) (r := .v (row [0, 1, 2]))
    (il_cons (I_rInt (k := 0) rfl (by decide) (by decide)) (il_cons (I_rInt (k := 1) rfl (by decide) (by decide)) (il_cons (I_rInt (k := 2) rfl (by decide) (by decide)) il_nil)))
    ol_nil (by kernel_rfl) Tryz.func40 (by kernel_rfl) ⟨rfl, ⟨rfl, ⟨rfl, trivial⟩⟩⟩).mono ?_
  rintro e w' ⟨v, rfl, h1, h2⟩
  exact ⟨v, rfl, (row_isL (xs := xrO1_2_3X ) (ks := [0, 1, 2]) (vs := [(Fq.ofInt 1), (Fq.ofInt 2), (Fq.ofInt 3)]) ⟨rfl, rfl, rfl, trivial⟩).1 h1, h2⟩
theorem I_rO1_2_3 {xs : List Fq} {ys : Rho}   {kr : List Nat}  (ar : AtL xs kr [(Vq.of 1 2 3).x, (Vq.of 1 2 3).y, (Vq.of 1 2 3).z]) : OkI xs ys ⟨40, [.one (.i .i64 1), .one (.i .i64 2), .one (.i .i64 3)], .v (row kr)⟩ :=
  ⟨enters Tryz.func40 rfl rfl, fun B w vs hB h => by
    match vs, h with
    | [vx, vy, vz], h =>
      have ex : vx = .int .i64 (1) := h.1
      subst ex
      have ey : vy = .int .i64 (2) := h.2.1
      subst ey
      have ez : vz = .int .i64 (3) := h.2.2.1
      subst ez
      refine (q_rO1_2_3 w).mono ?_
      rintro e w' ⟨v, rfl, h1, h2⟩
      exact ⟨v, rfl, (row_isL ar).2 h1, h2⟩⟩
def xrO1_0_0X  : List Fq := [(Fq.ofInt 1), (Fq.ofInt 0)]
theorem q_rO1_0_0  (w : World)   :
    Calls Tryz.prog 40 #[.int .i64 (1), .int .i64 (0), .int .i64 (0)] w fun e w' => RetVq w (Vq.of 1 0 0) e w' := by
  refine (calls_runFn (ρ := frs (xrO1_0_0X ) ++ []) (w := w) (fuel := 300) (args := [.one (.i .i64 1), .one (.i .i64 0), .one (.i .i64 0)]) (vs := [.int .i64 (1), .int .i64 (0), .int .i64 (0)]) (r := .v (row [0, 1, 1]))
    (il_cons (I_rInt (k := 0) rfl (by decide) (by decide)) (il_cons (I_rInt (k := 1) rfl (by decide) (by decide)) il_nil))
    ol_nil (by kernel_rfl) Tryz.func40 (by kernel_rfl) ⟨rfl, ⟨rfl, ⟨rfl, trivial⟩⟩⟩).mono ?_
  rintro e w' ⟨v, rfl, h1, h2⟩
  exact ⟨v, rfl, (row_isL (xs := xrO1_0_0X ) (ks := [0, 1, 1]) (vs := [(Fq.ofInt 1), (Fq.ofInt 0), (Fq.ofInt 0)]) ⟨rfl, rfl, rfl, trivial⟩).1 h1, h2⟩
theorem I_rO1_0_0 {xs : List Fq} {ys : Rho}   {kr : List Nat}  (ar : AtL xs kr [(Vq.of 1 0 0).x, (Vq.of 1 0 0).y, (Vq.of 1 0 0).z]) : OkI xs ys ⟨40, [.one (.i .i64 1), .one (.i .i64 0), .one (.i .i64 0)], .v (row kr)⟩ :=
  ⟨enters Tryz.func40 rfl rfl, fun B w vs hB h => by
    match vs, h with
    | [vx, vy, vz], h =>
      have ex : vx = .int .i64 (1) := h.1
      subst ex
      have ey : vy = .int .i64 (0) := h.2.1
      subst ey
      have ez : vz = .int .i64 (0) := h.2.2.1
      subst ez
      refine (q_rO1_0_0 w).mono ?_
      rintro e w' ⟨v, rfl, h1, h2⟩
      exact ⟨v, rfl, (row_isL ar).2 h1, h2⟩⟩
def xrO1_3_3X  : List Fq := [(Fq.ofInt 1), (Fq.ofInt 3)]
theorem q_rO1_3_3  (w : World)   :
    Calls Tryz.prog 40 #[.int .i64 (1), .int .i64 (3), .int .i64 (3)] w fun e w' => RetVq w (Vq.of 1 3 3) e w' := by
  refine (calls_runFn (ρ := frs (xrO1_3_3X ) ++ []) (w := w) (fuel := 300) (args := [.one (.i .i64 1), .one (.i .i64 3), .one (.i .i64 3)]) (vs := [.int .i64 (1), .int .i64 (3), .int .i64 (3)]) (r := .v (row [0, 1, 1]))
    (il_cons (I_rInt (k := 0) rfl (by decide) (by decide)) (il_cons (I_rInt (k := 1) rfl (by decide) (by decide)) il_nil))
    ol_nil (by kernel_rfl) Tryz.func40 (by kernel_rfl) ⟨rfl, ⟨rfl, ⟨rfl, trivial⟩⟩⟩).mono ?_
  rintro e w' ⟨v, rfl, h1, h2⟩
  exact ⟨v, rfl, (row_isL (xs := xrO1_3_3X ) (ks := [0, 1, 1]) (vs := [(Fq.ofInt 1), (Fq.ofInt 3), (Fq.ofInt 3)]) ⟨rfl, rfl, rfl, trivial⟩).1 h1, h2⟩
theorem I_rO1_3_3 {xs : List Fq} {ys : Rho}   {kr : List Nat}  (ar : AtL xs kr [(Vq.of 1 3 3).x, (Vq.of 1 3 3).y, (Vq.of 1 3 3).z]) : OkI xs ys ⟨40, [.one (.i .i64 1), .one (.i .i64 3), .one (.i .i64 3)], .v (row kr)⟩ :=
  ⟨enters Tryz.func40 rfl rfl, fun B w vs hB h => by
    match vs, h with
    | [vx, vy, vz], h =>
      have ex : vx = .int .i64 (1) := h.1
      subst ex
      have ey : vy = .int .i64 (3) := h.2.1
      subst ey
      have ez : vz = .int .i64 (3) := h.2.2.1
      subst ez
      refine (q_rO1_3_3 w).mono ?_
      rintro e w' ⟨v, rfl, h1, h2⟩
      exact ⟨v, rfl, (row_isL ar).2 h1, h2⟩⟩
def xrAppPX (q : Qq) (a : Vq) : List Fq := [q.w, q.x, q.y, q.z, a.x, a.y, a.z, q.axis.x, q.axis.y, q.axis.z, (q.axis.dot q.axis), (q.w.mul q.w), (Fq.ofInt 2), ((q.w.mul q.w).sub (q.axis.dot q.axis)), (a.scale ((q.w.mul q.w).sub (q.axis.dot q.axis))).x, (a.scale ((q.w.mul q.w).sub (q.axis.dot q.axis))).y, (a.scale ((q.w.mul q.w).sub (q.axis.dot q.axis))).z, (q.axis.dot a), ((Fq.ofInt 2).mul (q.axis.dot a)), (q.axis.scale ((Fq.ofInt 2).mul (q.axis.dot a))).x, (q.axis.scale ((Fq.ofInt 2).mul (q.axis.dot a))).y, (q.axis.scale ((Fq.ofInt 2).mul (q.axis.dot a))).z, (q.axis.cross a).x, (q.axis.cross a).y, (q.axis.cross a).z, ((Fq.ofInt 2).mul q.w), ((q.axis.cross a).scale ((Fq.ofInt 2).mul q.w)).x, ((q.axis.cross a).scale ((Fq.ofInt 2).mul q.w)).y, ((q.axis.cross a).scale ((Fq.ofInt 2).mul q.w)).z, ((q.axis.scale ((Fq.ofInt 2).mul (q.axis.dot a))).add ((q.axis.cross a).scale ((Fq.ofInt 2).mul q.w))).x, ((q.axis.scale ((Fq.ofInt 2).mul (q.axis.dot a))).add ((q.axis.cross a).scale ((Fq.ofInt 2).mul q.w))).y, ((q.axis.scale ((Fq.ofInt 2).mul (q.axis.dot a))).add ((q.axis.cross a).scale ((Fq.ofInt 2).mul q.w))).z, ((a.scale ((q.w.mul q.w).sub (q.axis.dot q.axis))).add ((q.axis.scale ((Fq.ofInt 2).mul (q.axis.dot a))).add ((q.axis.cross a).scale ((Fq.ofInt 2).mul q.w)))).x, ((a.scale ((q.w.mul q.w).sub (q.axis.dot q.axis))).add ((q.axis.scale ((Fq.ofInt 2).mul (q.axis.dot a))).add ((q.axis.cross a).scale ((Fq.ofInt 2).mul q.w)))).y, ((a.scale ((q.w.mul q.w).sub (q.axis.dot q.axis))).add ((q.axis.scale ((Fq.ofInt 2).mul (q.axis.dot a))).add ((q.axis.cross a).scale ((Fq.ofInt 2).mul q.w)))).z, (Fq.ofInt 1), ((q.w.mul q.w).add (q.axis.dot q.axis)), ((Fq.ofInt 1).div ((q.w.mul q.w).add (q.axis.dot q.axis))), (((a.scale ((q.w.mul q.w).sub (q.axis.dot q.axis))).add ((q.axis.scale ((Fq.ofInt 2).mul (q.axis.dot a))).add ((q.axis.cross a).scale ((Fq.ofInt 2).mul q.w)))).scale ((Fq.ofInt 1).div ((q.w.mul q.w).add (q.axis.dot q.axis)))).x, (((a.scale ((q.w.mul q.w).sub (q.axis.dot q.axis))).add ((q.axis.scale ((Fq.ofInt 2).mul (q.axis.dot a))).add ((q.axis.cross a).scale ((Fq.ofInt 2).mul q.w)))).scale ((Fq.ofInt 1).div ((q.w.mul q.w).add (q.axis.dot q.axis)))).y, (((a.scale ((q.w.mul q.w).sub (q.axis.dot q.axis))).add ((q.axis.scale ((Fq.ofInt 2).mul (q.axis.dot a))).add ((q.axis.cross a).scale ((Fq.ofInt 2).mul q.w)))).scale ((Fq.ofInt 1).div ((q.w.mul q.w).add (q.axis.dot q.axis)))).z]
theorem q_rAppP (vq va : Value) (q : Qq) (a : Vq) (w : World) (iq : IsQt w vq q) (ia : IsVq w va a) (hq : q.ok 300000) (ha : a.ok 300000) (gq : q.good) (ga : a.good) :
    Calls Tryz.prog 72 #[vq, va] w fun e w' => RetVq w (q.app a) e w' := by
  rw [app_app' gq ga]
  refine (calls_runFn (ρ := frs (xrAppPX q a) ++ []) (w := w) (fuel := 300) (args := [row [0, 1, 2, 3], row [4, 5, 6]]) (vs := [vq, va]) (r := .v (row [38, 39, 40]))
    (il_cons (I_part (kq := [0, 1, 2, 3]) (q := q) (kr := [7, 8, 9]) ⟨rfl, rfl, rfl, rfl, trivial⟩ ⟨rfl, rfl, rfl, trivial⟩ (hq.mono (by decide))) (il_cons (I_rDot (ka := [7, 8, 9]) (a := q.axis) (kb := [7, 8, 9]) (b := q.axis) (ir := 10) ⟨rfl, rfl, rfl, trivial⟩ ⟨rfl, rfl, rfl, trivial⟩ rfl (hq.axis.mono (by decide)) (hq.axis.mono (by decide))) (il_cons (I_rMul (i := 0) (j := 0) (k := 11) rfl rfl rfl (hq.w.mono (by decide)) (hq.w.mono (by decide))) (il_cons (I_rInt (k := 12) rfl (by decide) (by decide)) (il_cons (I_rSub (i := 11) (j := 10) (k := 13) rfl rfl rfl ((hq.w.mul hq.w).mono (by decide)) ((hq.axis.dot hq.axis).mono (by decide))) (il_cons (I_rScale (ka := [4, 5, 6]) (a := a) (ik := 13) (kr := [14, 15, 16]) ⟨rfl, rfl, rfl, trivial⟩ rfl ⟨rfl, rfl, rfl, trivial⟩ (ha.mono (by decide)) (((hq.w.mul hq.w).sub (hq.axis.dot hq.axis)).mono (by decide))) (il_cons (I_rDot (ka := [7, 8, 9]) (a := q.axis) (kb := [4, 5, 6]) (b := a) (ir := 17) ⟨rfl, rfl, rfl, trivial⟩ ⟨rfl, rfl, rfl, trivial⟩ rfl (hq.axis.mono (by decide)) (ha.mono (by decide))) (il_cons (I_rMul (i := 12) (j := 17) (k := 18) rfl rfl rfl ((ok_int (u := 2) (by decide) (by decide)).mono (by decide)) ((hq.axis.dot ha).mono (by decide))) (il_cons (I_rScale (ka := [7, 8, 9]) (a := q.axis) (ik := 18) (kr := [19, 20, 21]) ⟨rfl, rfl, rfl, trivial⟩ rfl ⟨rfl, rfl, rfl, trivial⟩ (hq.axis.mono (by decide)) (((ok_int (u := 2) (by decide) (by decide)).mul (hq.axis.dot ha)).mono (by decide))) (il_cons (I_rCross (ka := [7, 8, 9]) (a := q.axis) (kb := [4, 5, 6]) (b := a) (kr := [22, 23, 24]) ⟨rfl, rfl, rfl, trivial⟩ ⟨rfl, rfl, rfl, trivial⟩ ⟨rfl, rfl, rfl, trivial⟩ (hq.axis.mono (by decide)) (ha.mono (by decide))) (il_cons (I_rMul (i := 12) (j := 0) (k := 25) rfl rfl rfl ((ok_int (u := 2) (by decide) (by decide)).mono (by decide)) (hq.w.mono (by decide))) (il_cons (I_rScale (ka := [22, 23, 24]) (a := (q.axis.cross a)) (ik := 25) (kr := [26, 27, 28]) ⟨rfl, rfl, rfl, trivial⟩ rfl ⟨rfl, rfl, rfl, trivial⟩ ((hq.axis.cross ha).mono (by decide)) (((ok_int (u := 2) (by decide) (by decide)).mul hq.w).mono (by decide))) (il_cons (I_rSum (ka := [19, 20, 21]) (a := (q.axis.scale ((Fq.ofInt 2).mul (q.axis.dot a)))) (kb := [26, 27, 28]) (b := ((q.axis.cross a).scale ((Fq.ofInt 2).mul q.w))) (kr := [29, 30, 31]) ⟨rfl, rfl, rfl, trivial⟩ ⟨rfl, rfl, rfl, trivial⟩ ⟨rfl, rfl, rfl, trivial⟩ ((hq.axis.scale ((ok_int (u := 2) (by decide) (by decide)).mul (hq.axis.dot ha))).mono (by decide)) (((hq.axis.cross ha).scale ((ok_int (u := 2) (by decide) (by decide)).mul hq.w)).mono (by decide))) (il_cons (I_rSum (ka := [14, 15, 16]) (a := (a.scale ((q.w.mul q.w).sub (q.axis.dot q.axis)))) (kb := [29, 30, 31]) (b := ((q.axis.scale ((Fq.ofInt 2).mul (q.axis.dot a))).add ((q.axis.cross a).scale ((Fq.ofInt 2).mul q.w)))) (kr := [32, 33, 34]) ⟨rfl, rfl, rfl, trivial⟩ ⟨rfl, rfl, rfl, trivial⟩ ⟨rfl, rfl, rfl, trivial⟩ ((ha.scale ((hq.w.mul hq.w).sub (hq.axis.dot hq.axis))).mono (by decide)) (((hq.axis.scale ((ok_int (u := 2) (by decide) (by decide)).mul (hq.axis.dot ha))).add ((hq.axis.cross ha).scale ((ok_int (u := 2) (by decide) (by decide)).mul hq.w))).mono (by decide))) (il_cons (I_rInt (k := 35) rfl (by decide) (by decide)) (il_cons (I_rAdd (i := 11) (j := 10) (k := 36) rfl rfl rfl ((hq.w.mul hq.w).mono (by decide)) ((hq.axis.dot hq.axis).mono (by decide))) (il_cons (I_rOver (ix := 35) (id := 36) (ir := 37) rfl rfl rfl ((ok_int (u := 1) (by decide) (by decide)).mono (by decide)) (((hq.w.mul hq.w).add (hq.axis.dot hq.axis)).mono (by decide)) (nn_ne gq)) (il_cons (I_rScale (ka := [32, 33, 34]) (a := ((a.scale ((q.w.mul q.w).sub (q.axis.dot q.axis))).add ((q.axis.scale ((Fq.ofInt 2).mul (q.axis.dot a))).add ((q.axis.cross a).scale ((Fq.ofInt 2).mul q.w))))) (ik := 37) (kr := [38, 39, 40]) ⟨rfl, rfl, rfl, trivial⟩ rfl ⟨rfl, rfl, rfl, trivial⟩ (((ha.scale ((hq.w.mul hq.w).sub (hq.axis.dot hq.axis))).add ((hq.axis.scale ((ok_int (u := 2) (by decide) (by decide)).mul (hq.axis.dot ha))).add ((hq.axis.cross ha).scale ((ok_int (u := 2) (by decide) (by decide)).mul hq.w)))).mono (by decide)) (((ok_int (u := 1) (by decide) (by decide)).div ((hq.w.mul hq.w).add (hq.axis.dot hq.axis)) (nn_ne gq)).mono (by decide))) il_nil))))))))))))))))))
    ol_nil (by kernel_rfl) Tryz.func72 (by kernel_rfl) ⟨(row_isL (xs := xrAppPX q a) (ks := [0, 1, 2, 3]) (vs := [q.w, q.x, q.y, q.z]) ⟨rfl, rfl, rfl, rfl, trivial⟩).2 iq, ⟨(row_isL (xs := xrAppPX q a) (ks := [4, 5, 6]) (vs := [a.x, a.y, a.z]) ⟨rfl, rfl, rfl, trivial⟩).2 ia, trivial⟩⟩).mono ?_
  rintro e w' ⟨v, rfl, h1, h2⟩
  exact ⟨v, rfl, (row_isL (xs := xrAppPX q a) (ks := [38, 39, 40]) (vs := [(((a.scale ((q.w.mul q.w).sub (q.axis.dot q.axis))).add ((q.axis.scale ((Fq.ofInt 2).mul (q.axis.dot a))).add ((q.axis.cross a).scale ((Fq.ofInt 2).mul q.w)))).scale ((Fq.ofInt 1).div ((q.w.mul q.w).add (q.axis.dot q.axis)))).x, (((a.scale ((q.w.mul q.w).sub (q.axis.dot q.axis))).add ((q.axis.scale ((Fq.ofInt 2).mul (q.axis.dot a))).add ((q.axis.cross a).scale ((Fq.ofInt 2).mul q.w)))).scale ((Fq.ofInt 1).div ((q.w.mul q.w).add (q.axis.dot q.axis)))).y, (((a.scale ((q.w.mul q.w).sub (q.axis.dot q.axis))).add ((q.axis.scale ((Fq.ofInt 2).mul (q.axis.dot a))).add ((q.axis.cross a).scale ((Fq.ofInt 2).mul q.w)))).scale ((Fq.ofInt 1).div ((q.w.mul q.w).add (q.axis.dot q.axis)))).z]) ⟨rfl, rfl, rfl, trivial⟩).1 h1, h2⟩
theorem I_rAppP {xs : List Fq} {ys : Rho} {kq : List Nat} {ka : List Nat} {q : Qq} {a : Vq} {kr : List Nat} (aq : AtL xs kq [q.w, q.x, q.y, q.z]) (aa : AtL xs ka [a.x, a.y, a.z]) (ar : AtL xs kr [(q.app a).x, (q.app a).y, (q.app a).z]) (hq : q.ok 300000) (ha : a.ok 300000) (gq : q.good) (ga : a.good) : OkI xs ys ⟨72, [row kq, row ka], .v (row kr)⟩ :=
  ⟨enters Tryz.func72 rfl rfl, fun B w vs hB h => by
    match vs, h with
    | [vq, va], h =>
      refine (q_rAppP vq va q a w ((row_isL aq).1 h.1) ((row_isL aa).1 h.2.1) hq ha gq ga).mono ?_
      rintro e w' ⟨v, rfl, h1, h2⟩
      exact ⟨v, rfl, (row_isL ar).2 h1, h2⟩⟩
def xpoOfX (a : Pq) : List Fq := [a.rot.w, a.rot.x, a.rot.y, a.rot.z, a.pos.x, a.pos.y, a.pos.z]
theorem q_poOf (va : Value) (a : Pq) (w : World) (ia : IsOq w va a) (ha : a.ok 1000000000) :
    Calls Tryz.prog 63 #[va] w fun e w' => RetOq w a e w' := by
  refine (calls_runFn (ρ := frs (xpoOfX a) ++ []) (w := w) (fuel := 300) (args := [row [0, 1, 2, 3, 4, 5, 6]]) (vs := [va]) (r := .v (row [0, 1, 2, 3, 4, 5, 6]))
    (il_nil)
    ol_nil (by kernel_rfl) Tryz.func63 (by kernel_rfl) ⟨(row_isL (xs := xpoOfX a) (ks := [0, 1, 2, 3, 4, 5, 6]) (vs := [a.rot.w, a.rot.x, a.rot.y, a.rot.z, a.pos.x, a.pos.y, a.pos.z]) ⟨rfl, rfl, rfl, rfl, rfl, rfl, rfl, trivial⟩).2 ia, trivial⟩).mono ?_
  rintro e w' ⟨v, rfl, h1, h2⟩
  exact ⟨v, rfl, (row_isL (xs := xpoOfX a) (ks := [0, 1, 2, 3, 4, 5, 6]) (vs := [a.rot.w, a.rot.x, a.rot.y, a.rot.z, a.pos.x, a.pos.y, a.pos.z]) ⟨rfl, rfl, rfl, rfl, rfl, rfl, rfl, trivial⟩).1 h1, h2⟩
theorem I_poOf {xs : List Fq} {ys : Rho} {ka : List Nat} {a : Pq} {kr : List Nat} (aa : AtL xs ka [a.rot.w, a.rot.x, a.rot.y, a.rot.z, a.pos.x, a.pos.y, a.pos.z]) (ar : AtL xs kr [a.rot.w, a.rot.x, a.rot.y, a.rot.z, a.pos.x, a.pos.y, a.pos.z]) (ha : a.ok 1000000000) : OkI xs ys ⟨63, [row ka], .v (row kr)⟩ :=
  ⟨enters Tryz.func63 rfl rfl, fun B w vs hB h => by
    match vs, h with
    | [va], h =>
      refine (q_poOf va a w ((row_isL aa).1 h.1) ha).mono ?_
      rintro e w' ⟨v, rfl, h1, h2⟩
      exact ⟨v, rfl, (row_isL ar).2 h1, h2⟩⟩
def xpoPoseX (a : Pq) : List Fq := [a.rot.w, a.rot.x, a.rot.y, a.rot.z, a.pos.x, a.pos.y, a.pos.z]
theorem q_poPose (va : Value) (a : Pq) (w : World) (ia : IsOq w va a) (ha : a.ok 1000000000) :
    Calls Tryz.prog 61 #[va] w fun e w' => RetOq w a e w' := by
  refine (calls_runFn (ρ := frs (xpoPoseX a) ++ []) (w := w) (fuel := 300) (args := [row [0, 1, 2, 3, 4, 5, 6]]) (vs := [va]) (r := .v (row [0, 1, 2, 3, 4, 5, 6]))
    (il_nil)
    ol_nil (by kernel_rfl) Tryz.func61 (by kernel_rfl) ⟨(row_isL (xs := xpoPoseX a) (ks := [0, 1, 2, 3, 4, 5, 6]) (vs := [a.rot.w, a.rot.x, a.rot.y, a.rot.z, a.pos.x, a.pos.y, a.pos.z]) ⟨rfl, rfl, rfl, rfl, rfl, rfl, rfl, trivial⟩).2 ia, trivial⟩).mono ?_
  rintro e w' ⟨v, rfl, h1, h2⟩
  exact ⟨v, rfl, (row_isL (xs := xpoPoseX a) (ks := [0, 1, 2, 3, 4, 5, 6]) (vs := [a.rot.w, a.rot.x, a.rot.y, a.rot.z, a.pos.x, a.pos.y, a.pos.z]) ⟨rfl, rfl, rfl, rfl, rfl, rfl, rfl, trivial⟩).1 h1, h2⟩
theorem I_poPose {xs : List Fq} {ys : Rho} {ka : List Nat} {a : Pq} {kr : List Nat} (aa : AtL xs ka [a.rot.w, a.rot.x, a.rot.y, a.rot.z, a.pos.x, a.pos.y, a.pos.z]) (ar : AtL xs kr [a.rot.w, a.rot.x, a.rot.y, a.rot.z, a.pos.x, a.pos.y, a.pos.z]) (ha : a.ok 1000000000) : OkI xs ys ⟨61, [row ka], .v (row kr)⟩ :=
  ⟨enters Tryz.func61 rfl rfl, fun B w vs hB h => by
    match vs, h with
    | [va], h =>
      refine (q_poPose va a w ((row_isL aa).1 h.1) ha).mono ?_
      rintro e w' ⟨v, rfl, h1, h2⟩
      exact ⟨v, rfl, (row_isL ar).2 h1, h2⟩⟩
def xpoRotX (q : Qq) (a : Vq) : List Fq := [q.w, q.x, q.y, q.z, a.x, a.y, a.z, (q.app a).x, (q.app a).y, (q.app a).z]
theorem q_poRot (vq va : Value) (q : Qq) (a : Vq) (w : World) (iq : IsQt w vq q) (ia : IsVq w va a) (hq : q.ok 300000) (ha : a.ok 300000) (gq : q.good) :
    Calls Tryz.prog 66 #[vq, va] w fun e w' => RetVq w (q.app a) e w' := by
  refine (calls_runFn (ρ := frs (xpoRotX q a) ++ []) (w := w) (fuel := 300) (args := [row [0, 1, 2, 3], row [4, 5, 6]]) (vs := [vq, va]) (r := .v (row [7, 8, 9]))
    (il_cons (I_fApp (kq := [0, 1, 2, 3]) (q := q) (ka := [4, 5, 6]) (a := a) (kr := [7, 8, 9]) ⟨rfl, rfl, rfl, rfl, trivial⟩ ⟨rfl, rfl, rfl, trivial⟩ ⟨rfl, rfl, rfl, trivial⟩ (hq.mono (by decide)) (ha.mono (by decide)) gq) il_nil)
    ol_nil (by kernel_rfl) Tryz.func66 (by kernel_rfl) ⟨(row_isL (xs := xpoRotX q a) (ks := [0, 1, 2, 3]) (vs := [q.w, q.x, q.y, q.z]) ⟨rfl, rfl, rfl, rfl, trivial⟩).2 iq, ⟨(row_isL (xs := xpoRotX q a) (ks := [4, 5, 6]) (vs := [a.x, a.y, a.z]) ⟨rfl, rfl, rfl, trivial⟩).2 ia, trivial⟩⟩).mono ?_
  rintro e w' ⟨v, rfl, h1, h2⟩
  exact ⟨v, rfl, (row_isL (xs := xpoRotX q a) (ks := [7, 8, 9]) (vs := [(q.app a).x, (q.app a).y, (q.app a).z]) ⟨rfl, rfl, rfl, trivial⟩).1 h1, h2⟩
theorem I_poRot {xs : List Fq} {ys : Rho} {kq : List Nat} {ka : List Nat} {q : Qq} {a : Vq} {kr : List Nat} (aq : AtL xs kq [q.w, q.x, q.y, q.z]) (aa : AtL xs ka [a.x, a.y, a.z]) (ar : AtL xs kr [(q.app a).x, (q.app a).y, (q.app a).z]) (hq : q.ok 300000) (ha : a.ok 300000) (gq : q.good) : OkI xs ys ⟨66, [row kq, row ka], .v (row kr)⟩ :=
  ⟨enters Tryz.func66 rfl rfl, fun B w vs hB h => by
    match vs, h with
    | [vq, va], h =>
      refine (q_poRot vq va q a w ((row_isL aq).1 h.1) ((row_isL aa).1 h.2.1) hq ha gq).mono ?_
      rintro e w' ⟨v, rfl, h1, h2⟩
      exact ⟨v, rfl, (row_isL ar).2 h1, h2⟩⟩
def xpoBackX (q : Qq) : List Fq := [q.w, q.x, q.y, q.z, q.inv.w, q.inv.x, q.inv.y, q.inv.z]
theorem q_poBack (vq : Value) (q : Qq) (w : World) (iq : IsQt w vq q) (hq : q.ok 100000) (gq : q.good) :
    Calls Tryz.prog 65 #[vq] w fun e w' => RetQt w q.inv e w' := by
  refine (calls_runFn (ρ := frs (xpoBackX q) ++ []) (w := w) (fuel := 300) (args := [row [0, 1, 2, 3]]) (vs := [vq]) (r := .v (row [4, 5, 6, 7]))
    (il_cons (I_fInvT (kq := [0, 1, 2, 3]) (q := q) (kr := [4, 5, 6, 7]) ⟨rfl, rfl, rfl, rfl, trivial⟩ ⟨rfl, rfl, rfl, rfl, trivial⟩ (hq.mono (by decide)) gq) il_nil)
    ol_nil (by kernel_rfl) Tryz.func65 (by kernel_rfl) ⟨(row_isL (xs := xpoBackX q) (ks := [0, 1, 2, 3]) (vs := [q.w, q.x, q.y, q.z]) ⟨rfl, rfl, rfl, rfl, trivial⟩).2 iq, trivial⟩).mono ?_
  rintro e w' ⟨v, rfl, h1, h2⟩
  exact ⟨v, rfl, (row_isL (xs := xpoBackX q) (ks := [4, 5, 6, 7]) (vs := [q.inv.w, q.inv.x, q.inv.y, q.inv.z]) ⟨rfl, rfl, rfl, rfl, trivial⟩).1 h1, h2⟩
theorem I_poBack {xs : List Fq} {ys : Rho} {kq : List Nat} {q : Qq} {kr : List Nat} (aq : AtL xs kq [q.w, q.x, q.y, q.z]) (ar : AtL xs kr [q.inv.w, q.inv.x, q.inv.y, q.inv.z]) (hq : q.ok 100000) (gq : q.good) : OkI xs ys ⟨65, [row kq], .v (row kr)⟩ :=
  ⟨enters Tryz.func65 rfl rfl, fun B w vs hB h => by
    match vs, h with
    | [vq], h =>
      refine (q_poBack vq q w ((row_isL aq).1 h.1) hq gq).mono ?_
      rintro e w' ⟨v, rfl, h1, h2⟩
      exact ⟨v, rfl, (row_isL ar).2 h1, h2⟩⟩
def xpoImgX (a : Pq) (x : Vq) : List Fq := [a.rot.w, a.rot.x, a.rot.y, a.rot.z, a.pos.x, a.pos.y, a.pos.z, x.x, x.y, x.z, (a.rot.app x).x, (a.rot.app x).y, (a.rot.app x).z, ((a.rot.app x).add a.pos).x, ((a.rot.app x).add a.pos).y, ((a.rot.app x).add a.pos).z]
theorem q_poImg (va vx : Value) (a : Pq) (x : Vq) (w : World) (ia : IsOq w va a) (ix : IsVq w vx x) (ha : a.ok 100000) (hx : x.ok 100000) (ga : a.good) (gx : x.good) :
    Calls Tryz.prog 64 #[va, vx] w fun e w' => RetVq w (a.app x) e w' := by
  refine (calls_runFn (ρ := frs (xpoImgX a x) ++ []) (w := w) (fuel := 300) (args := [row [0, 1, 2, 3, 4, 5, 6], row [7, 8, 9]]) (vs := [va, vx]) (r := .v (row [13, 14, 15]))
    (il_cons (I_poRot (kq := [0, 1, 2, 3]) (q := a.rot) (ka := [7, 8, 9]) (a := x) (kr := [10, 11, 12]) ⟨rfl, rfl, rfl, rfl, trivial⟩ ⟨rfl, rfl, rfl, trivial⟩ ⟨rfl, rfl, rfl, trivial⟩ (ha.rot.mono (by decide)) (hx.mono (by decide)) ga.rot) (il_cons (I_vAdd (ka := [10, 11, 12]) (a := (a.rot.app x)) (kb := [4, 5, 6]) (b := a.pos) (kr := [13, 14, 15]) ⟨rfl, rfl, rfl, trivial⟩ ⟨rfl, rfl, rfl, trivial⟩ ⟨rfl, rfl, rfl, trivial⟩ ((ha.rot.app hx ga.rot).mono (by decide)) (ha.pos.mono (by decide))) il_nil))
    ol_nil (by kernel_rfl) Tryz.func64 (by kernel_rfl) ⟨(row_isL (xs := xpoImgX a x) (ks := [0, 1, 2, 3, 4, 5, 6]) (vs := [a.rot.w, a.rot.x, a.rot.y, a.rot.z, a.pos.x, a.pos.y, a.pos.z]) ⟨rfl, rfl, rfl, rfl, rfl, rfl, rfl, trivial⟩).2 ia, ⟨(row_isL (xs := xpoImgX a x) (ks := [7, 8, 9]) (vs := [x.x, x.y, x.z]) ⟨rfl, rfl, rfl, trivial⟩).2 ix, trivial⟩⟩).mono ?_
  rintro e w' ⟨v, rfl, h1, h2⟩
  exact ⟨v, rfl, (row_isL (xs := xpoImgX a x) (ks := [13, 14, 15]) (vs := [((a.rot.app x).add a.pos).x, ((a.rot.app x).add a.pos).y, ((a.rot.app x).add a.pos).z]) ⟨rfl, rfl, rfl, trivial⟩).1 h1, h2⟩
theorem I_poImg {xs : List Fq} {ys : Rho} {ka : List Nat} {kx : List Nat} {a : Pq} {x : Vq} {kr : List Nat} (aa : AtL xs ka [a.rot.w, a.rot.x, a.rot.y, a.rot.z, a.pos.x, a.pos.y, a.pos.z]) (ax : AtL xs kx [x.x, x.y, x.z]) (ar : AtL xs kr [(a.app x).x, (a.app x).y, (a.app x).z]) (ha : a.ok 100000) (hx : x.ok 100000) (ga : a.good) (gx : x.good) : OkI xs ys ⟨64, [row ka, row kx], .v (row kr)⟩ :=
  ⟨enters Tryz.func64 rfl rfl, fun B w vs hB h => by
    match vs, h with
    | [va, vx], h =>
      refine (q_poImg va vx a x w ((row_isL aa).1 h.1) ((row_isL ax).1 h.2.1) ha hx ga gx).mono ?_
      rintro e w' ⟨v, rfl, h1, h2⟩
      exact ⟨v, rfl, (row_isL ar).2 h1, h2⟩⟩
def xpoAppX (a : Pq) (x : Vq) : List Fq := [a.rot.w, a.rot.x, a.rot.y, a.rot.z, a.pos.x, a.pos.y, a.pos.z, x.x, x.y, x.z, (a.app x).x, (a.app x).y, (a.app x).z]
theorem q_poApp (va vx : Value) (a : Pq) (x : Vq) (w : World) (ia : IsOq w va a) (ix : IsVq w vx x) (ha : a.ok 100000) (hx : x.ok 100000) (ga : a.good) (gx : x.good) :
    Calls Tryz.prog 29 #[va, vx] w fun e w' => RetVq w (a.app x) e w' := by
  refine (calls_runFn (ρ := frs (xpoAppX a x) ++ []) (w := w) (fuel := 300) (args := [row [0, 1, 2, 3, 4, 5, 6], row [7, 8, 9]]) (vs := [va, vx]) (r := .v (row [10, 11, 12]))
    (il_cons (I_poOf (ka := [0, 1, 2, 3, 4, 5, 6]) (a := a) (kr := [0, 1, 2, 3, 4, 5, 6]) ⟨rfl, rfl, rfl, rfl, rfl, rfl, rfl, trivial⟩ ⟨rfl, rfl, rfl, rfl, rfl, rfl, rfl, trivial⟩ (ha.mono (by decide))) (il_cons (I_poImg (ka := [0, 1, 2, 3, 4, 5, 6]) (a := a) (kx := [7, 8, 9]) (x := x) (kr := [10, 11, 12]) ⟨rfl, rfl, rfl, rfl, rfl, rfl, rfl, trivial⟩ ⟨rfl, rfl, rfl, trivial⟩ ⟨rfl, rfl, rfl, trivial⟩ (ha.mono (by decide)) (hx.mono (by decide)) ga gx) il_nil))
    ol_nil (by kernel_rfl) Tryz.func29 (by kernel_rfl) ⟨(row_isL (xs := xpoAppX a x) (ks := [0, 1, 2, 3, 4, 5, 6]) (vs := [a.rot.w, a.rot.x, a.rot.y, a.rot.z, a.pos.x, a.pos.y, a.pos.z]) ⟨rfl, rfl, rfl, rfl, rfl, rfl, rfl, trivial⟩).2 ia, ⟨(row_isL (xs := xpoAppX a x) (ks := [7, 8, 9]) (vs := [x.x, x.y, x.z]) ⟨rfl, rfl, rfl, trivial⟩).2 ix, trivial⟩⟩).mono ?_
  rintro e w' ⟨v, rfl, h1, h2⟩
  exact ⟨v, rfl, (row_isL (xs := xpoAppX a x) (ks := [10, 11, 12]) (vs := [(a.app x).x, (a.app x).y, (a.app x).z]) ⟨rfl, rfl, rfl, trivial⟩).1 h1, h2⟩
theorem I_poApp {xs : List Fq} {ys : Rho} {ka : List Nat} {kx : List Nat} {a : Pq} {x : Vq} {kr : List Nat} (aa : AtL xs ka [a.rot.w, a.rot.x, a.rot.y, a.rot.z, a.pos.x, a.pos.y, a.pos.z]) (ax : AtL xs kx [x.x, x.y, x.z]) (ar : AtL xs kr [(a.app x).x, (a.app x).y, (a.app x).z]) (ha : a.ok 100000) (hx : x.ok 100000) (ga : a.good) (gx : x.good) : OkI xs ys ⟨29, [row ka, row kx], .v (row kr)⟩ :=
  ⟨enters Tryz.func29 rfl rfl, fun B w vs hB h => by
    match vs, h with
    | [va, vx], h =>
      refine (q_poApp va vx a x w ((row_isL aa).1 h.1) ((row_isL ax).1 h.2.1) ha hx ga gx).mono ?_
      rintro e w' ⟨v, rfl, h1, h2⟩
      exact ⟨v, rfl, (row_isL ar).2 h1, h2⟩⟩
def xrpAppX (a : Pq) (x : Vq) : List Fq := [a.rot.w, a.rot.x, a.rot.y, a.rot.z, a.pos.x, a.pos.y, a.pos.z, x.x, x.y, x.z, (a.rot.app x).x, (a.rot.app x).y, (a.rot.app x).z, ((a.rot.app x).add a.pos).x, ((a.rot.app x).add a.pos).y, ((a.rot.app x).add a.pos).z]
theorem q_rpApp (va vx : Value) (a : Pq) (x : Vq) (w : World) (ia : IsOq w va a) (ix : IsVq w vx x) (ha : a.ok 100000) (hx : x.ok 100000) (ga : a.good) (gx : x.good) :
    Calls Tryz.prog 30 #[va, vx] w fun e w' => RetVq w (a.app x) e w' := by
  refine (calls_runFn (ρ := frs (xrpAppX a x) ++ []) (w := w) (fuel := 300) (args := [row [0, 1, 2, 3, 4, 5, 6], row [7, 8, 9]]) (vs := [va, vx]) (r := .v (row [13, 14, 15]))
    (il_cons (I_rAppP (kq := [0, 1, 2, 3]) (q := a.rot) (ka := [7, 8, 9]) (a := x) (kr := [10, 11, 12]) ⟨rfl, rfl, rfl, rfl, trivial⟩ ⟨rfl, rfl, rfl, trivial⟩ ⟨rfl, rfl, rfl, trivial⟩ (ha.rot.mono (by decide)) (hx.mono (by decide)) ga.rot gx) (il_cons (I_r4Add (ka := [10, 11, 12]) (a := (a.rot.app x)) (kb := [4, 5, 6]) (b := a.pos) (kr := [13, 14, 15]) ⟨rfl, rfl, rfl, trivial⟩ ⟨rfl, rfl, rfl, trivial⟩ ⟨rfl, rfl, rfl, trivial⟩ ((ha.rot.app hx ga.rot).mono (by decide)) (ha.pos.mono (by decide))) il_nil))
    ol_nil (by kernel_rfl) Tryz.func30 (by kernel_rfl) ⟨(row_isL (xs := xrpAppX a x) (ks := [0, 1, 2, 3, 4, 5, 6]) (vs := [a.rot.w, a.rot.x, a.rot.y, a.rot.z, a.pos.x, a.pos.y, a.pos.z]) ⟨rfl, rfl, rfl, rfl, rfl, rfl, rfl, trivial⟩).2 ia, ⟨(row_isL (xs := xrpAppX a x) (ks := [7, 8, 9]) (vs := [x.x, x.y, x.z]) ⟨rfl, rfl, rfl, trivial⟩).2 ix, trivial⟩⟩).mono ?_
  rintro e w' ⟨v, rfl, h1, h2⟩
  exact ⟨v, rfl, (row_isL (xs := xrpAppX a x) (ks := [13, 14, 15]) (vs := [((a.rot.app x).add a.pos).x, ((a.rot.app x).add a.pos).y, ((a.rot.app x).add a.pos).z]) ⟨rfl, rfl, rfl, trivial⟩).1 h1, h2⟩
theorem I_rpApp {xs : List Fq} {ys : Rho} {ka : List Nat} {kx : List Nat} {a : Pq} {x : Vq} {kr : List Nat} (aa : AtL xs ka [a.rot.w, a.rot.x, a.rot.y, a.rot.z, a.pos.x, a.pos.y, a.pos.z]) (ax : AtL xs kx [x.x, x.y, x.z]) (ar : AtL xs kr [(a.app x).x, (a.app x).y, (a.app x).z]) (ha : a.ok 100000) (hx : x.ok 100000) (ga : a.good) (gx : x.good) : OkI xs ys ⟨30, [row ka, row kx], .v (row kr)⟩ :=
  ⟨enters Tryz.func30 rfl rfl, fun B w vs hB h => by
    match vs, h with
    | [va, vx], h =>
      refine (q_rpApp va vx a x w ((row_isL aa).1 h.1) ((row_isL ax).1 h.2.1) ha hx ga gx).mono ?_
      rintro e w' ⟨v, rfl, h1, h2⟩
      exact ⟨v, rfl, (row_isL ar).2 h1, h2⟩⟩
def xpoMulX (a : Pq) (b : Pq) : List Fq := [a.rot.w, a.rot.x, a.rot.y, a.rot.z, a.pos.x, a.pos.y, a.pos.z, b.rot.w, b.rot.x, b.rot.y, b.rot.z, b.pos.x, b.pos.y, b.pos.z, (a.rot.mul b.rot).w, (a.rot.mul b.rot).x, (a.rot.mul b.rot).y, (a.rot.mul b.rot).z, (a.app b.pos).x, (a.app b.pos).y, (a.app b.pos).z]
theorem q_poMul (va vb : Value) (a : Pq) (b : Pq) (w : World) (ia : IsOq w va a) (ib : IsOq w vb b) (ha : a.ok 100000) (hb : b.ok 100000) (ga : a.good) (gb : b.good) :
    Calls Tryz.prog 25 #[va, vb] w fun e w' => RetOq w (a.mul b) e w' := by
  refine (calls_runFn (ρ := frs (xpoMulX a b) ++ []) (w := w) (fuel := 300) (args := [row [0, 1, 2, 3, 4, 5, 6], row [7, 8, 9, 10, 11, 12, 13]]) (vs := [va, vb]) (r := .v (row [14, 15, 16, 17, 18, 19, 20]))
    (il_cons (I_fMulT (kp := [0, 1, 2, 3]) (p := a.rot) (kq := [7, 8, 9, 10]) (q := b.rot) (kr := [14, 15, 16, 17]) ⟨rfl, rfl, rfl, rfl, trivial⟩ ⟨rfl, rfl, rfl, rfl, trivial⟩ ⟨rfl, rfl, rfl, rfl, trivial⟩ (ha.rot.mono (by decide)) (hb.rot.mono (by decide)) ga.rot gb.rot) (il_cons (I_poOf (ka := [0, 1, 2, 3, 4, 5, 6]) (a := a) (kr := [0, 1, 2, 3, 4, 5, 6]) ⟨rfl, rfl, rfl, rfl, rfl, rfl, rfl, trivial⟩ ⟨rfl, rfl, rfl, rfl, rfl, rfl, rfl, trivial⟩ (ha.mono (by decide))) (il_cons (I_poImg (ka := [0, 1, 2, 3, 4, 5, 6]) (a := a) (kx := [11, 12, 13]) (x := b.pos) (kr := [18, 19, 20]) ⟨rfl, rfl, rfl, rfl, rfl, rfl, rfl, trivial⟩ ⟨rfl, rfl, rfl, trivial⟩ ⟨rfl, rfl, rfl, trivial⟩ (ha.mono (by decide)) (hb.pos.mono (by decide)) ga gb.pos) (il_cons (I_poPose (ka := [14, 15, 16, 17, 18, 19, 20]) (a := (Pq.mk (a.rot.mul b.rot) (a.app b.pos))) (kr := [14, 15, 16, 17, 18, 19, 20]) ⟨rfl, rfl, rfl, rfl, rfl, rfl, rfl, trivial⟩ ⟨rfl, rfl, rfl, rfl, rfl, rfl, rfl, trivial⟩ (⟨⟨(ha.rot.mulg hb.rot ga.rot gb.rot).w.mono (by decide), (ha.rot.mulg hb.rot ga.rot gb.rot).x.mono (by decide), (ha.rot.mulg hb.rot ga.rot gb.rot).y.mono (by decide), (ha.rot.mulg hb.rot ga.rot gb.rot).z.mono (by decide)⟩, ⟨(ha.app hb.pos ga).x.mono (by decide), (ha.app hb.pos ga).y.mono (by decide), (ha.app hb.pos ga).z.mono (by decide)⟩⟩ : Pq.ok 1000000000 (Pq.mk (a.rot.mul b.rot) (a.app b.pos)))) il_nil))))
    ol_nil (by kernel_rfl) Tryz.func25 (by kernel_rfl) ⟨(row_isL (xs := xpoMulX a b) (ks := [0, 1, 2, 3, 4, 5, 6]) (vs := [a.rot.w, a.rot.x, a.rot.y, a.rot.z, a.pos.x, a.pos.y, a.pos.z]) ⟨rfl, rfl, rfl, rfl, rfl, rfl, rfl, trivial⟩).2 ia, ⟨(row_isL (xs := xpoMulX a b) (ks := [7, 8, 9, 10, 11, 12, 13]) (vs := [b.rot.w, b.rot.x, b.rot.y, b.rot.z, b.pos.x, b.pos.y, b.pos.z]) ⟨rfl, rfl, rfl, rfl, rfl, rfl, rfl, trivial⟩).2 ib, trivial⟩⟩).mono ?_
  rintro e w' ⟨v, rfl, h1, h2⟩
  exact ⟨v, rfl, (row_isL (xs := xpoMulX a b) (ks := [14, 15, 16, 17, 18, 19, 20]) (vs := [(a.rot.mul b.rot).w, (a.rot.mul b.rot).x, (a.rot.mul b.rot).y, (a.rot.mul b.rot).z, (a.app b.pos).x, (a.app b.pos).y, (a.app b.pos).z]) ⟨rfl, rfl, rfl, rfl, rfl, rfl, rfl, trivial⟩).1 h1, h2⟩
theorem I_poMul {xs : List Fq} {ys : Rho} {ka : List Nat} {kb : List Nat} {a : Pq} {b : Pq} {kr : List Nat} (aa : AtL xs ka [a.rot.w, a.rot.x, a.rot.y, a.rot.z, a.pos.x, a.pos.y, a.pos.z]) (ab : AtL xs kb [b.rot.w, b.rot.x, b.rot.y, b.rot.z, b.pos.x, b.pos.y, b.pos.z]) (ar : AtL xs kr [(a.mul b).rot.w, (a.mul b).rot.x, (a.mul b).rot.y, (a.mul b).rot.z, (a.mul b).pos.x, (a.mul b).pos.y, (a.mul b).pos.z]) (ha : a.ok 100000) (hb : b.ok 100000) (ga : a.good) (gb : b.good) : OkI xs ys ⟨25, [row ka, row kb], .v (row kr)⟩ :=
  ⟨enters Tryz.func25 rfl rfl, fun B w vs hB h => by
    match vs, h with
    | [va, vb], h =>
      refine (q_poMul va vb a b w ((row_isL aa).1 h.1) ((row_isL ab).1 h.2.1) ha hb ga gb).mono ?_
      rintro e w' ⟨v, rfl, h1, h2⟩
      exact ⟨v, rfl, (row_isL ar).2 h1, h2⟩⟩
def xpoInvX (a : Pq) : List Fq := [a.rot.w, a.rot.x, a.rot.y, a.rot.z, a.pos.x, a.pos.y, a.pos.z, a.rot.inv.w, a.rot.inv.x, a.rot.inv.y, a.rot.inv.z, (Fq.ofInt (-1)), (a.pos.scale (Fq.ofInt (-1))).x, (a.pos.scale (Fq.ofInt (-1))).y, (a.pos.scale (Fq.ofInt (-1))).z, (a.rot.inv.app (a.pos.scale (Fq.ofInt (-1)))).x, (a.rot.inv.app (a.pos.scale (Fq.ofInt (-1)))).y, (a.rot.inv.app (a.pos.scale (Fq.ofInt (-1)))).z]
theorem q_poInv (va : Value) (a : Pq) (w : World) (ia : IsOq w va a) (ha : a.ok 100000) (ga : a.good) :
    Calls Tryz.prog 26 #[va] w fun e w' => RetOq w a.inv e w' := by
  refine (calls_runFn (ρ := frs (xpoInvX a) ++ []) (w := w) (fuel := 300) (args := [row [0, 1, 2, 3, 4, 5, 6]]) (vs := [va]) (r := .v (row [7, 8, 9, 10, 15, 16, 17]))
    (il_cons (I_poOf (ka := [0, 1, 2, 3, 4, 5, 6]) (a := a) (kr := [0, 1, 2, 3, 4, 5, 6]) ⟨rfl, rfl, rfl, rfl, rfl, rfl, rfl, trivial⟩ ⟨rfl, rfl, rfl, rfl, rfl, rfl, rfl, trivial⟩ (ha.mono (by decide))) (il_cons (I_poBack (kq := [0, 1, 2, 3]) (q := a.rot) (kr := [7, 8, 9, 10]) ⟨rfl, rfl, rfl, rfl, trivial⟩ ⟨rfl, rfl, rfl, rfl, trivial⟩ (ha.rot.mono (by decide)) ga.rot) (il_cons (I_fInt (k := 11) rfl (by decide) (by decide)) (il_cons (I_vScale (ka := [4, 5, 6]) (a := a.pos) (ik := 11) (kr := [12, 13, 14]) ⟨rfl, rfl, rfl, trivial⟩ rfl ⟨rfl, rfl, rfl, trivial⟩ (ha.pos.mono (by decide)) ((ok_int (u := -1) (by decide) (by decide)).mono (by decide))) (il_cons (I_poRot (kq := [7, 8, 9, 10]) (q := a.rot.inv) (ka := [12, 13, 14]) (a := (a.pos.scale (Fq.ofInt (-1)))) (kr := [15, 16, 17]) ⟨rfl, rfl, rfl, rfl, trivial⟩ ⟨rfl, rfl, rfl, trivial⟩ ⟨rfl, rfl, rfl, trivial⟩ ((ha.rot.inv ga.rot).mono (by decide)) ((ha.pos.scale (ok_int (u := -1) (by decide) (by decide))).mono (by decide)) (inv_good ga.rot)) (il_cons (I_poPose (ka := [7, 8, 9, 10, 15, 16, 17]) (a := (Pq.mk a.rot.inv (a.rot.inv.app (a.pos.scale (Fq.ofInt (-1)))))) (kr := [7, 8, 9, 10, 15, 16, 17]) ⟨rfl, rfl, rfl, rfl, rfl, rfl, rfl, trivial⟩ ⟨rfl, rfl, rfl, rfl, rfl, rfl, rfl, trivial⟩ (⟨⟨(ha.rot.inv ga.rot).w.mono (by decide), (ha.rot.inv ga.rot).x.mono (by decide), (ha.rot.inv ga.rot).y.mono (by decide), (ha.rot.inv ga.rot).z.mono (by decide)⟩, ⟨((ha.rot.inv ga.rot).app (ha.pos.scale (ok_int (u := -1) (by decide) (by decide))) (inv_good ga.rot)).x.mono (by decide), ((ha.rot.inv ga.rot).app (ha.pos.scale (ok_int (u := -1) (by decide) (by decide))) (inv_good ga.rot)).y.mono (by decide), ((ha.rot.inv ga.rot).app (ha.pos.scale (ok_int (u := -1) (by decide) (by decide))) (inv_good ga.rot)).z.mono (by decide)⟩⟩ : Pq.ok 1000000000 (Pq.mk a.rot.inv (a.rot.inv.app (a.pos.scale (Fq.ofInt (-1))))))) il_nil))))))
    ol_nil (by kernel_rfl) Tryz.func26 (by kernel_rfl) ⟨(row_isL (xs := xpoInvX a) (ks := [0, 1, 2, 3, 4, 5, 6]) (vs := [a.rot.w, a.rot.x, a.rot.y, a.rot.z, a.pos.x, a.pos.y, a.pos.z]) ⟨rfl, rfl, rfl, rfl, rfl, rfl, rfl, trivial⟩).2 ia, trivial⟩).mono ?_
  rintro e w' ⟨v, rfl, h1, h2⟩
  exact ⟨v, rfl, (row_isL (xs := xpoInvX a) (ks := [7, 8, 9, 10, 15, 16, 17]) (vs := [a.rot.inv.w, a.rot.inv.x, a.rot.inv.y, a.rot.inv.z, (a.rot.inv.app (a.pos.scale (Fq.ofInt (-1)))).x, (a.rot.inv.app (a.pos.scale (Fq.ofInt (-1)))).y, (a.rot.inv.app (a.pos.scale (Fq.ofInt (-1)))).z]) ⟨rfl, rfl, rfl, rfl, rfl, rfl, rfl, trivial⟩).1 h1, h2⟩
theorem I_poInv {xs : List Fq} {ys : Rho} {ka : List Nat} {a : Pq} {kr : List Nat} (aa : AtL xs ka [a.rot.w, a.rot.x, a.rot.y, a.rot.z, a.pos.x, a.pos.y, a.pos.z]) (ar : AtL xs kr [a.inv.rot.w, a.inv.rot.x, a.inv.rot.y, a.inv.rot.z, a.inv.pos.x, a.inv.pos.y, a.inv.pos.z]) (ha : a.ok 100000) (ga : a.good) : OkI xs ys ⟨26, [row ka], .v (row kr)⟩ :=
  ⟨enters Tryz.func26 rfl rfl, fun B w vs hB h => by
    match vs, h with
    | [va], h =>
      refine (q_poInv va a w ((row_isL aa).1 h.1) ha ga).mono ?_
      rintro e w' ⟨v, rfl, h1, h2⟩
      exact ⟨v, rfl, (row_isL ar).2 h1, h2⟩⟩
def xpoIdX  : List Fq := [Qq.id.w, Qq.id.x, Qq.id.y, Qq.id.z, (Vq.of 0 0 0).x, (Vq.of 0 0 0).y, (Vq.of 0 0 0).z]
theorem q_poId  (w : World)   :
    Calls Tryz.prog 24 #[] w fun e w' => RetOq w Pq.id e w' := by
  refine (calls_runFn (ρ := frs (xpoIdX ) ++ []) (w := w) (fuel := 300) (args := []) (vs := []) (r := .v (row [0, 1, 2, 3, 4, 5, 6]))
    (il_cons (I_fId (kr := [0, 1, 2, 3]) ⟨rfl, rfl, rfl, rfl, trivial⟩) (il_cons (I_vO0_0_0 (kr := [4, 5, 6]) ⟨rfl, rfl, rfl, trivial⟩) (il_cons (I_poPose (ka := [0, 1, 2, 3, 4, 5, 6]) (a := (Pq.mk Qq.id (Vq.of 0 0 0))) (kr := [0, 1, 2, 3, 4, 5, 6]) ⟨rfl, rfl, rfl, rfl, rfl, rfl, rfl, trivial⟩ ⟨rfl, rfl, rfl, rfl, rfl, rfl, rfl, trivial⟩ (⟨⟨ok_id.w.mono (by decide), ok_id.x.mono (by decide), ok_id.y.mono (by decide), ok_id.z.mono (by decide)⟩, ⟨(ok_vof (by decide) (by decide) (by decide) (by decide) (by decide) (by decide)).x.mono (by decide), (ok_vof (by decide) (by decide) (by decide) (by decide) (by decide) (by decide)).y.mono (by decide), (ok_vof (by decide) (by decide) (by decide) (by decide) (by decide) (by decide)).z.mono (by decide)⟩⟩ : Pq.ok 1000000000 (Pq.mk Qq.id (Vq.of 0 0 0)))) il_nil)))
    ol_nil (by kernel_rfl) Tryz.func24 (by kernel_rfl) trivial).mono ?_
  rintro e w' ⟨v, rfl, h1, h2⟩
  exact ⟨v, rfl, (row_isL (xs := xpoIdX ) (ks := [0, 1, 2, 3, 4, 5, 6]) (vs := [Qq.id.w, Qq.id.x, Qq.id.y, Qq.id.z, (Vq.of 0 0 0).x, (Vq.of 0 0 0).y, (Vq.of 0 0 0).z]) ⟨rfl, rfl, rfl, rfl, rfl, rfl, rfl, trivial⟩).1 h1, h2⟩
theorem I_poId {xs : List Fq} {ys : Rho}   {kr : List Nat}  (ar : AtL xs kr [Pq.id.rot.w, Pq.id.rot.x, Pq.id.rot.y, Pq.id.rot.z, Pq.id.pos.x, Pq.id.pos.y, Pq.id.pos.z]) : OkI xs ys ⟨24, [], .v (row kr)⟩ :=
  ⟨enters Tryz.func24 rfl rfl, fun B w vs hB h => by
    match vs, h with
    | [], h =>
      refine (q_poId w).mono ?_
      rintro e w' ⟨v, rfl, h1, h2⟩
      exact ⟨v, rfl, (row_isL ar).2 h1, h2⟩⟩
def xpoSqX (a : Pq) (u : Vq) (x : Vq) : List Fq := [a.rot.w, a.rot.x, a.rot.y, a.rot.z, a.pos.x, a.pos.y, a.pos.z, u.x, u.y, u.z, x.x, x.y, x.z, (a.app u).x, (a.app u).y, (a.app u).z, (a.app x).x, (a.app x).y, (a.app x).z, ((a.app u).sub (a.app x)).x, ((a.app u).sub (a.app x)).y, ((a.app u).sub (a.app x)).z, (((a.app u).sub (a.app x)).dot ((a.app u).sub (a.app x)))]
theorem q_poSq (va vu vx : Value) (a : Pq) (u : Vq) (x : Vq) (w : World) (ia : IsOq w va a) (iu : IsVq w vu u) (ix : IsVq w vx x) (ha : a.ok 10000) (hu : u.ok 10000) (hx : x.ok 10000) (ga : a.good) (gu : u.good) (gx : x.good) :
    Calls Tryz.prog 22 #[va, vu, vx] w fun e w' => RetQ w (a.sq u x) e w' := by
  refine (calls_runFn (ρ := frs (xpoSqX a u x) ++ []) (w := w) (fuel := 300) (args := [row [0, 1, 2, 3, 4, 5, 6], row [7, 8, 9], row [10, 11, 12]]) (vs := [va, vu, vx]) (r := .v (fr 22))
    (il_cons (I_poApp (ka := [0, 1, 2, 3, 4, 5, 6]) (a := a) (kx := [7, 8, 9]) (x := u) (kr := [13, 14, 15]) ⟨rfl, rfl, rfl, rfl, rfl, rfl, rfl, trivial⟩ ⟨rfl, rfl, rfl, trivial⟩ ⟨rfl, rfl, rfl, trivial⟩ (ha.mono (by decide)) (hu.mono (by decide)) ga gu) (il_cons (I_poApp (ka := [0, 1, 2, 3, 4, 5, 6]) (a := a) (kx := [10, 11, 12]) (x := x) (kr := [16, 17, 18]) ⟨rfl, rfl, rfl, rfl, rfl, rfl, rfl, trivial⟩ ⟨rfl, rfl, rfl, trivial⟩ ⟨rfl, rfl, rfl, trivial⟩ (ha.mono (by decide)) (hx.mono (by decide)) ga gx) (il_cons (I_vSub (ka := [13, 14, 15]) (a := (a.app u)) (kb := [16, 17, 18]) (b := (a.app x)) (kr := [19, 20, 21]) ⟨rfl, rfl, rfl, trivial⟩ ⟨rfl, rfl, rfl, trivial⟩ ⟨rfl, rfl, rfl, trivial⟩ ((ha.app hu ga).mono (by decide)) ((ha.app hx ga).mono (by decide))) (il_cons (I_vDot (ka := [19, 20, 21]) (a := ((a.app u).sub (a.app x))) (kb := [19, 20, 21]) (b := ((a.app u).sub (a.app x))) (ir := 22) ⟨rfl, rfl, rfl, trivial⟩ ⟨rfl, rfl, rfl, trivial⟩ rfl (((ha.app hu ga).sub (ha.app hx ga)).mono (by decide)) (((ha.app hu ga).sub (ha.app hx ga)).mono (by decide))) il_nil))))
    ol_nil (by kernel_rfl) Tryz.func22 (by kernel_rfl) ⟨(row_isL (xs := xpoSqX a u x) (ks := [0, 1, 2, 3, 4, 5, 6]) (vs := [a.rot.w, a.rot.x, a.rot.y, a.rot.z, a.pos.x, a.pos.y, a.pos.z]) ⟨rfl, rfl, rfl, rfl, rfl, rfl, rfl, trivial⟩).2 ia, ⟨(row_isL (xs := xpoSqX a u x) (ks := [7, 8, 9]) (vs := [u.x, u.y, u.z]) ⟨rfl, rfl, rfl, trivial⟩).2 iu, ⟨(row_isL (xs := xpoSqX a u x) (ks := [10, 11, 12]) (vs := [x.x, x.y, x.z]) ⟨rfl, rfl, rfl, trivial⟩).2 ix, trivial⟩⟩⟩).mono ?_
  rintro e w' ⟨v, rfl, h1, h2⟩
  exact ⟨v, rfl, (fr_isQ (xs := xpoSqX a u x) (k := 22) rfl).1 h1, h2⟩
theorem I_poSq {xs : List Fq} {ys : Rho} {ka : List Nat} {ku : List Nat} {kx : List Nat} {a : Pq} {u : Vq} {x : Vq} {ir : Nat} (aa : AtL xs ka [a.rot.w, a.rot.x, a.rot.y, a.rot.z, a.pos.x, a.pos.y, a.pos.z]) (au : AtL xs ku [u.x, u.y, u.z]) (ax : AtL xs kx [x.x, x.y, x.z]) (ar : xs[ir]? = some (a.sq u x)) (ha : a.ok 10000) (hu : u.ok 10000) (hx : x.ok 10000) (ga : a.good) (gu : u.good) (gx : x.good) : OkI xs ys ⟨22, [row ka, row ku, row kx], .v (fr ir)⟩ :=
  ⟨enters Tryz.func22 rfl rfl, fun B w vs hB h => by
    match vs, h with
    | [va, vu, vx], h =>
      refine (q_poSq va vu vx a u x w ((row_isL aa).1 h.1) ((row_isL au).1 h.2.1) ((row_isL ax).1 h.2.2.1) ha hu hx ga gu gx).mono ?_
      rintro e w' ⟨v, rfl, h1, h2⟩
      exact ⟨v, rfl, (fr_isQ ar).2 h1, h2⟩⟩
def xpoEqual1X (a : Pq) (b : Pq) : List Fq := [a.rot.w, a.rot.x, a.rot.y, a.rot.z, a.pos.x, a.pos.y, a.pos.z, b.rot.w, b.rot.x, b.rot.y, b.rot.z, b.pos.x, b.pos.y, b.pos.z]
theorem q_poEqual1 (va vb : Value) (a : Pq) (b : Pq) (w : World) (ia : IsOq w va a) (ib : IsOq w vb b) (ha : a.ok 100000000) (hb : b.ok 100000000) (e0 : a = b) (ga : a.good) (gb : b.good) :
    Calls Tryz.prog 27 #[va, vb] w fun e w' => RetV w (.bool true) e w' := by
  refine (calls_runFn (ρ := frs (xpoEqual1X a b) ++ []) (w := w) (fuel := 300) (args := [row [0, 1, 2, 3, 4, 5, 6], row [7, 8, 9, 10, 11, 12, 13]]) (vs := [va, vb]) (r := .v (.one (.b true)))
    (il_cons (I_fEqual1 (ka := [0, 1, 2, 3]) (a := a.rot) (kb := [7, 8, 9, 10]) (b := b.rot) ⟨rfl, rfl, rfl, rfl, trivial⟩ ⟨rfl, rfl, rfl, rfl, trivial⟩ (ha.rot.mono (by decide)) (hb.rot.mono (by decide)) (congrArg Pq.rot e0) ga.rot.comp gb.rot.comp) (il_cons (I_vEqual1 (ka := [4, 5, 6]) (a := a.pos) (kb := [11, 12, 13]) (b := b.pos) ⟨rfl, rfl, rfl, trivial⟩ ⟨rfl, rfl, rfl, trivial⟩ (ha.pos.mono (by decide)) (hb.pos.mono (by decide)) (congrArg Pq.pos e0) ga.pos gb.pos) il_nil))
    ol_nil (by kernel_rfl) Tryz.func27 (by kernel_rfl) ⟨(row_isL (xs := xpoEqual1X a b) (ks := [0, 1, 2, 3, 4, 5, 6]) (vs := [a.rot.w, a.rot.x, a.rot.y, a.rot.z, a.pos.x, a.pos.y, a.pos.z]) ⟨rfl, rfl, rfl, rfl, rfl, rfl, rfl, trivial⟩).2 ia, ⟨(row_isL (xs := xpoEqual1X a b) (ks := [7, 8, 9, 10, 11, 12, 13]) (vs := [b.rot.w, b.rot.x, b.rot.y, b.rot.z, b.pos.x, b.pos.y, b.pos.z]) ⟨rfl, rfl, rfl, rfl, rfl, rfl, rfl, trivial⟩).2 ib, trivial⟩⟩).mono ?_
  rintro e w' ⟨v, rfl, h1, h2⟩
  exact ⟨congrArg Ending.returned h1, h2⟩
theorem I_poEqual1 {xs : List Fq} {ys : Rho} {ka : List Nat} {kb : List Nat} {a : Pq} {b : Pq}  (aa : AtL xs ka [a.rot.w, a.rot.x, a.rot.y, a.rot.z, a.pos.x, a.pos.y, a.pos.z]) (ab : AtL xs kb [b.rot.w, b.rot.x, b.rot.y, b.rot.z, b.pos.x, b.pos.y, b.pos.z])  (ha : a.ok 100000000) (hb : b.ok 100000000) (e0 : a = b) (ga : a.good) (gb : b.good) : OkI xs ys ⟨27, [row ka, row kb], .v (.one (.b true))⟩ :=
  ⟨enters Tryz.func27 rfl rfl, fun B w vs hB h => by
    match vs, h with
    | [va, vb], h =>
      refine (q_poEqual1 va vb a b w ((row_isL aa).1 h.1) ((row_isL ab).1 h.2.1) ha hb e0 ga gb).mono ?_
      rintro e w' ⟨rfl, h2⟩
      exact ⟨_, rfl, rfl, h2⟩⟩
def xpoEqual0X (a : Pq) (b : Pq) : List Fq := [a.rot.w, a.rot.x, a.rot.y, a.rot.z, a.pos.x, a.pos.y, a.pos.z, b.rot.w, b.rot.x, b.rot.y, b.rot.z, b.pos.x, b.pos.y, b.pos.z]
def xpoEqual01X (a : Pq) (b : Pq) : List Fq := [a.rot.w, a.rot.x, a.rot.y, a.rot.z, a.pos.x, a.pos.y, a.pos.z, b.rot.w, b.rot.x, b.rot.y, b.rot.z, b.pos.x, b.pos.y, b.pos.z]
theorem q_poEqual0 (va vb : Value) (a : Pq) (b : Pq) (w : World) (ia : IsOq w va a) (ib : IsOq w vb b) (ha : a.ok 100000000) (hb : b.ok 100000000) (e0 : a ≠ b) (ga : a.good) (gb : b.good) :
    Calls Tryz.prog 27 #[va, vb] w fun e w' => RetV w (.bool false) e w' := by
  by_cases c0 : a.rot = b.rot
  · by_cases c1 : a.pos = b.pos
    · exact absurd (by cases a; cases b; simp only at c0 c1; subst c0 c1; rfl) e0
    · refine (calls_runFn (ρ := frs (xpoEqual0X a b) ++ []) (w := w) (fuel := 300) (args := [row [0, 1, 2, 3, 4, 5, 6], row [7, 8, 9, 10, 11, 12, 13]]) (vs := [va, vb]) (r := .v (.one (.b false)))
        (il_cons (I_fEqual1 (ka := [0, 1, 2, 3]) (a := a.rot) (kb := [7, 8, 9, 10]) (b := b.rot) ⟨rfl, rfl, rfl, rfl, trivial⟩ ⟨rfl, rfl, rfl, rfl, trivial⟩ (ha.rot.mono (by decide)) (hb.rot.mono (by decide)) c0 ga.rot.comp gb.rot.comp) (il_cons (I_vEqual0 (ka := [4, 5, 6]) (a := a.pos) (kb := [11, 12, 13]) (b := b.pos) ⟨rfl, rfl, rfl, trivial⟩ ⟨rfl, rfl, rfl, trivial⟩ (ha.pos.mono (by decide)) (hb.pos.mono (by decide)) c1 ga.pos gb.pos) il_nil))
        ol_nil (by kernel_rfl) Tryz.func27 (by kernel_rfl) ⟨(row_isL (xs := xpoEqual0X a b) (ks := [0, 1, 2, 3, 4, 5, 6]) (vs := [a.rot.w, a.rot.x, a.rot.y, a.rot.z, a.pos.x, a.pos.y, a.pos.z]) ⟨rfl, rfl, rfl, rfl, rfl, rfl, rfl, trivial⟩).2 ia, ⟨(row_isL (xs := xpoEqual0X a b) (ks := [7, 8, 9, 10, 11, 12, 13]) (vs := [b.rot.w, b.rot.x, b.rot.y, b.rot.z, b.pos.x, b.pos.y, b.pos.z]) ⟨rfl, rfl, rfl, rfl, rfl, rfl, rfl, trivial⟩).2 ib, trivial⟩⟩).mono ?_
      rintro e w' ⟨v, rfl, h1, h2⟩
      exact ⟨congrArg Ending.returned h1, h2⟩
  · refine (calls_runFn (ρ := frs (xpoEqual01X a b) ++ []) (w := w) (fuel := 300) (args := [row [0, 1, 2, 3, 4, 5, 6], row [7, 8, 9, 10, 11, 12, 13]]) (vs := [va, vb]) (r := .v (.one (.b false)))
      (il_cons (I_fEqual0 (ka := [0, 1, 2, 3]) (a := a.rot) (kb := [7, 8, 9, 10]) (b := b.rot) ⟨rfl, rfl, rfl, rfl, trivial⟩ ⟨rfl, rfl, rfl, rfl, trivial⟩ (ha.rot.mono (by decide)) (hb.rot.mono (by decide)) c0 ga.rot.comp gb.rot.comp) il_nil)
      ol_nil (by kernel_rfl) Tryz.func27 (by kernel_rfl) ⟨(row_isL (xs := xpoEqual01X a b) (ks := [0, 1, 2, 3, 4, 5, 6]) (vs := [a.rot.w, a.rot.x, a.rot.y, a.rot.z, a.pos.x, a.pos.y, a.pos.z]) ⟨rfl, rfl, rfl, rfl, rfl, rfl, rfl, trivial⟩).2 ia, ⟨(row_isL (xs := xpoEqual01X a b) (ks := [7, 8, 9, 10, 11, 12, 13]) (vs := [b.rot.w, b.rot.x, b.rot.y, b.rot.z, b.pos.x, b.pos.y, b.pos.z]) ⟨rfl, rfl, rfl, rfl, rfl, rfl, rfl, trivial⟩).2 ib, trivial⟩⟩).mono ?_
    rintro e w' ⟨v, rfl, h1, h2⟩
    exact ⟨congrArg Ending.returned h1, h2⟩
theorem I_poEqual0 {xs : List Fq} {ys : Rho} {ka : List Nat} {kb : List Nat} {a : Pq} {b : Pq}  (aa : AtL xs ka [a.rot.w, a.rot.x, a.rot.y, a.rot.z, a.pos.x, a.pos.y, a.pos.z]) (ab : AtL xs kb [b.rot.w, b.rot.x, b.rot.y, b.rot.z, b.pos.x, b.pos.y, b.pos.z])  (ha : a.ok 100000000) (hb : b.ok 100000000) (e0 : a ≠ b) (ga : a.good) (gb : b.good) : OkI xs ys ⟨27, [row ka, row kb], .v (.one (.b false))⟩ :=
  ⟨enters Tryz.func27 rfl rfl, fun B w vs hB h => by
    match vs, h with
    | [va, vb], h =>
      refine (q_poEqual0 va vb a b w ((row_isL aa).1 h.1) ((row_isL ab).1 h.2.1) ha hb e0 ga gb).mono ?_
      rintro e w' ⟨rfl, h2⟩
      exact ⟨_, rfl, rfl, h2⟩⟩
def xpoValidX (a : Pq) : List Fq := [a.rot.w, a.rot.x, a.rot.y, a.rot.z, a.pos.x, a.pos.y, a.pos.z]
theorem q_poValid (va : Value) (a : Pq) (w : World) (ia : IsOq w va a) (ha : a.ok 1000000) (ga : a.good) :
    Calls Tryz.prog 11 #[va] w fun e w' => RetV w (.bool true) e w' := by
  refine (calls_runFn (ρ := frs (xpoValidX a) ++ []) (w := w) (fuel := 300) (args := [row [0, 1, 2, 3, 4, 5, 6]]) (vs := [va]) (r := .v (.one (.b true)))
    (il_cons (I_fValidT1 (kq := [0, 1, 2, 3]) (q := a.rot) ⟨rfl, rfl, rfl, rfl, trivial⟩ (ha.rot.mono (by decide)) ga.rot) (il_cons (I_vValid (ka := [4, 5, 6]) (a := a.pos) ⟨rfl, rfl, rfl, trivial⟩ (ha.pos.mono (by decide)) ga.pos) il_nil))
    ol_nil (by kernel_rfl) Tryz.func11 (by kernel_rfl) ⟨(row_isL (xs := xpoValidX a) (ks := [0, 1, 2, 3, 4, 5, 6]) (vs := [a.rot.w, a.rot.x, a.rot.y, a.rot.z, a.pos.x, a.pos.y, a.pos.z]) ⟨rfl, rfl, rfl, rfl, rfl, rfl, rfl, trivial⟩).2 ia, trivial⟩).mono ?_
  rintro e w' ⟨v, rfl, h1, h2⟩
  exact ⟨congrArg Ending.returned h1, h2⟩
theorem I_poValid {xs : List Fq} {ys : Rho} {ka : List Nat} {a : Pq}  (aa : AtL xs ka [a.rot.w, a.rot.x, a.rot.y, a.rot.z, a.pos.x, a.pos.y, a.pos.z])  (ha : a.ok 1000000) (ga : a.good) : OkI xs ys ⟨11, [row ka], .v (.one (.b true))⟩ :=
  ⟨enters Tryz.func11 rfl rfl, fun B w vs hB h => by
    match vs, h with
    | [va], h =>
      refine (q_poValid va a w ((row_isL aa).1 h.1) ha ga).mono ?_
      rintro e w' ⟨rfl, h2⟩
      exact ⟨_, rfl, rfl, h2⟩⟩
def xrpMulX (a : Pq) (b : Pq) : List Fq := [a.rot.w, a.rot.x, a.rot.y, a.rot.z, a.pos.x, a.pos.y, a.pos.z, b.rot.w, b.rot.x, b.rot.y, b.rot.z, b.pos.x, b.pos.y, b.pos.z, (a.rot.mul b.rot).w, (a.rot.mul b.rot).x, (a.rot.mul b.rot).y, (a.rot.mul b.rot).z, (a.app b.pos).x, (a.app b.pos).y, (a.app b.pos).z]
theorem q_rpMul (va vb : Value) (a : Pq) (b : Pq) (w : World) (ia : IsOq w va a) (ib : IsOq w vb b) (ha : a.ok 100000) (hb : b.ok 100000) (ga : a.good) (gb : b.good) :
    Calls Tryz.prog 31 #[va, vb] w fun e w' => RetOq w (a.mul b) e w' := by
  refine (calls_runFn (ρ := frs (xrpMulX a b) ++ []) (w := w) (fuel := 300) (args := [row [0, 1, 2, 3, 4, 5, 6], row [7, 8, 9, 10, 11, 12, 13]]) (vs := [va, vb]) (r := .v (row [14, 15, 16, 17, 18, 19, 20]))
    (il_cons (I_rMulT (kp := [0, 1, 2, 3]) (p := a.rot) (kq := [7, 8, 9, 10]) (q := b.rot) (kr := [14, 15, 16, 17]) ⟨rfl, rfl, rfl, rfl, trivial⟩ ⟨rfl, rfl, rfl, rfl, trivial⟩ ⟨rfl, rfl, rfl, rfl, trivial⟩ (ha.rot.mono (by decide)) (hb.rot.mono (by decide)) ga.rot gb.rot) (il_cons (I_rpApp (ka := [0, 1, 2, 3, 4, 5, 6]) (a := a) (kx := [11, 12, 13]) (x := b.pos) (kr := [18, 19, 20]) ⟨rfl, rfl, rfl, rfl, rfl, rfl, rfl, trivial⟩ ⟨rfl, rfl, rfl, trivial⟩ ⟨rfl, rfl, rfl, trivial⟩ (ha.mono (by decide)) (hb.pos.mono (by decide)) ga gb.pos) il_nil))
    ol_nil (by kernel_rfl) Tryz.func31 (by kernel_rfl) ⟨(row_isL (xs := xrpMulX a b) (ks := [0, 1, 2, 3, 4, 5, 6]) (vs := [a.rot.w, a.rot.x, a.rot.y, a.rot.z, a.pos.x, a.pos.y, a.pos.z]) ⟨rfl, rfl, rfl, rfl, rfl, rfl, rfl, trivial⟩).2 ia, ⟨(row_isL (xs := xrpMulX a b) (ks := [7, 8, 9, 10, 11, 12, 13]) (vs := [b.rot.w, b.rot.x, b.rot.y, b.rot.z, b.pos.x, b.pos.y, b.pos.z]) ⟨rfl, rfl, rfl, rfl, rfl, rfl, rfl, trivial⟩).2 ib, trivial⟩⟩).mono ?_
  rintro e w' ⟨v, rfl, h1, h2⟩
  exact ⟨v, rfl, (row_isL (xs := xrpMulX a b) (ks := [14, 15, 16, 17, 18, 19, 20]) (vs := [(a.rot.mul b.rot).w, (a.rot.mul b.rot).x, (a.rot.mul b.rot).y, (a.rot.mul b.rot).z, (a.app b.pos).x, (a.app b.pos).y, (a.app b.pos).z]) ⟨rfl, rfl, rfl, rfl, rfl, rfl, rfl, trivial⟩).1 h1, h2⟩
theorem I_rpMul {xs : List Fq} {ys : Rho} {ka : List Nat} {kb : List Nat} {a : Pq} {b : Pq} {kr : List Nat} (aa : AtL xs ka [a.rot.w, a.rot.x, a.rot.y, a.rot.z, a.pos.x, a.pos.y, a.pos.z]) (ab : AtL xs kb [b.rot.w, b.rot.x, b.rot.y, b.rot.z, b.pos.x, b.pos.y, b.pos.z]) (ar : AtL xs kr [(a.mul b).rot.w, (a.mul b).rot.x, (a.mul b).rot.y, (a.mul b).rot.z, (a.mul b).pos.x, (a.mul b).pos.y, (a.mul b).pos.z]) (ha : a.ok 100000) (hb : b.ok 100000) (ga : a.good) (gb : b.good) : OkI xs ys ⟨31, [row ka, row kb], .v (row kr)⟩ :=
  ⟨enters Tryz.func31 rfl rfl, fun B w vs hB h => by
    match vs, h with
    | [va, vb], h =>
      refine (q_rpMul va vb a b w ((row_isL aa).1 h.1) ((row_isL ab).1 h.2.1) ha hb ga gb).mono ?_
      rintro e w' ⟨v, rfl, h1, h2⟩
      exact ⟨v, rfl, (row_isL ar).2 h1, h2⟩⟩
def xrpInvX (a : Pq) : List Fq := [a.rot.w, a.rot.x, a.rot.y, a.rot.z, a.pos.x, a.pos.y, a.pos.z, a.rot.inv.w, a.rot.inv.x, a.rot.inv.y, a.rot.inv.z, (Fq.ofInt (-1)), (a.pos.scale (Fq.ofInt (-1))).x, (a.pos.scale (Fq.ofInt (-1))).y, (a.pos.scale (Fq.ofInt (-1))).z, (a.rot.inv.app (a.pos.scale (Fq.ofInt (-1)))).x, (a.rot.inv.app (a.pos.scale (Fq.ofInt (-1)))).y, (a.rot.inv.app (a.pos.scale (Fq.ofInt (-1)))).z]
theorem q_rpInv (va : Value) (a : Pq) (w : World) (ia : IsOq w va a) (ha : a.ok 100000) (ga : a.good) :
    Calls Tryz.prog 32 #[va] w fun e w' => RetOq w a.inv e w' := by
  refine (calls_runFn (ρ := frs (xrpInvX a) ++ []) (w := w) (fuel := 300) (args := [row [0, 1, 2, 3, 4, 5, 6]]) (vs := [va]) (r := .v (row [7, 8, 9, 10, 15, 16, 17]))
    (il_cons (I_rInvT (kq := [0, 1, 2, 3]) (q := a.rot) (kr := [7, 8, 9, 10]) ⟨rfl, rfl, rfl, rfl, trivial⟩ ⟨rfl, rfl, rfl, rfl, trivial⟩ (ha.rot.mono (by decide)) ga.rot) (il_cons (I_rInt (k := 11) rfl (by decide) (by decide)) (il_cons (I_r4Scale (ka := [4, 5, 6]) (a := a.pos) (ik := 11) (kr := [12, 13, 14]) ⟨rfl, rfl, rfl, trivial⟩ rfl ⟨rfl, rfl, rfl, trivial⟩ (ha.pos.mono (by decide)) ((ok_int (u := -1) (by decide) (by decide)).mono (by decide))) (il_cons (I_rAppP (kq := [7, 8, 9, 10]) (q := a.rot.inv) (ka := [12, 13, 14]) (a := (a.pos.scale (Fq.ofInt (-1)))) (kr := [15, 16, 17]) ⟨rfl, rfl, rfl, rfl, trivial⟩ ⟨rfl, rfl, rfl, trivial⟩ ⟨rfl, rfl, rfl, trivial⟩ ((ha.rot.inv ga.rot).mono (by decide)) ((ha.pos.scale (ok_int (u := -1) (by decide) (by decide))).mono (by decide)) (inv_good ga.rot) (ga.pos.scale (ofInt_valid (-1)))) il_nil))))
    ol_nil (by kernel_rfl) Tryz.func32 (by kernel_rfl) ⟨(row_isL (xs := xrpInvX a) (ks := [0, 1, 2, 3, 4, 5, 6]) (vs := [a.rot.w, a.rot.x, a.rot.y, a.rot.z, a.pos.x, a.pos.y, a.pos.z]) ⟨rfl, rfl, rfl, rfl, rfl, rfl, rfl, trivial⟩).2 ia, trivial⟩).mono ?_
  rintro e w' ⟨v, rfl, h1, h2⟩
  exact ⟨v, rfl, (row_isL (xs := xrpInvX a) (ks := [7, 8, 9, 10, 15, 16, 17]) (vs := [a.rot.inv.w, a.rot.inv.x, a.rot.inv.y, a.rot.inv.z, (a.rot.inv.app (a.pos.scale (Fq.ofInt (-1)))).x, (a.rot.inv.app (a.pos.scale (Fq.ofInt (-1)))).y, (a.rot.inv.app (a.pos.scale (Fq.ofInt (-1)))).z]) ⟨rfl, rfl, rfl, rfl, rfl, rfl, rfl, trivial⟩).1 h1, h2⟩
theorem I_rpInv {xs : List Fq} {ys : Rho} {ka : List Nat} {a : Pq} {kr : List Nat} (aa : AtL xs ka [a.rot.w, a.rot.x, a.rot.y, a.rot.z, a.pos.x, a.pos.y, a.pos.z]) (ar : AtL xs kr [a.inv.rot.w, a.inv.rot.x, a.inv.rot.y, a.inv.rot.z, a.inv.pos.x, a.inv.pos.y, a.inv.pos.z]) (ha : a.ok 100000) (ga : a.good) : OkI xs ys ⟨32, [row ka], .v (row kr)⟩ :=
  ⟨enters Tryz.func32 rfl rfl, fun B w vs hB h => by
    match vs, h with
    | [va], h =>
      refine (q_rpInv va a w ((row_isL aa).1 h.1) ha ga).mono ?_
      rintro e w' ⟨v, rfl, h1, h2⟩
      exact ⟨v, rfl, (row_isL ar).2 h1, h2⟩⟩
def xrpIdX  : List Fq := [Qq.id.w, Qq.id.x, Qq.id.y, Qq.id.z, (Vq.of 0 0 0).x, (Vq.of 0 0 0).y, (Vq.of 0 0 0).z]
theorem q_rpId  (w : World)   :
    Calls Tryz.prog 34 #[] w fun e w' => RetOq w Pq.id e w' := by
  refine (calls_runFn (ρ := frs (xrpIdX ) ++ []) (w := w) (fuel := 300) (args := []) (vs := []) (r := .v (row [0, 1, 2, 3, 4, 5, 6]))
    (il_cons (I_rId (kr := [0, 1, 2, 3]) ⟨rfl, rfl, rfl, rfl, trivial⟩) (il_cons (I_rO0_0_0 (kr := [4, 5, 6]) ⟨rfl, rfl, rfl, trivial⟩) il_nil))
    ol_nil (by kernel_rfl) Tryz.func34 (by kernel_rfl) trivial).mono ?_
  rintro e w' ⟨v, rfl, h1, h2⟩
  exact ⟨v, rfl, (row_isL (xs := xrpIdX ) (ks := [0, 1, 2, 3, 4, 5, 6]) (vs := [Qq.id.w, Qq.id.x, Qq.id.y, Qq.id.z, (Vq.of 0 0 0).x, (Vq.of 0 0 0).y, (Vq.of 0 0 0).z]) ⟨rfl, rfl, rfl, rfl, rfl, rfl, rfl, trivial⟩).1 h1, h2⟩
theorem I_rpId {xs : List Fq} {ys : Rho}   {kr : List Nat}  (ar : AtL xs kr [Pq.id.rot.w, Pq.id.rot.x, Pq.id.rot.y, Pq.id.rot.z, Pq.id.pos.x, Pq.id.pos.y, Pq.id.pos.z]) : OkI xs ys ⟨34, [], .v (row kr)⟩ :=
  ⟨enters Tryz.func34 rfl rfl, fun B w vs hB h => by
    match vs, h with
    | [], h =>
      refine (q_rpId w).mono ?_
      rintro e w' ⟨v, rfl, h1, h2⟩
      exact ⟨v, rfl, (row_isL ar).2 h1, h2⟩⟩
def xrpSqX (a : Pq) (u : Vq) (x : Vq) : List Fq := [a.rot.w, a.rot.x, a.rot.y, a.rot.z, a.pos.x, a.pos.y, a.pos.z, u.x, u.y, u.z, x.x, x.y, x.z, (a.app u).x, (a.app u).y, (a.app u).z, (a.app x).x, (a.app x).y, (a.app x).z, ((a.app u).sub (a.app x)).x, ((a.app u).sub (a.app x)).y, ((a.app u).sub (a.app x)).z, (((a.app u).sub (a.app x)).dot ((a.app u).sub (a.app x)))]
theorem q_rpSq (va vu vx : Value) (a : Pq) (u : Vq) (x : Vq) (w : World) (ia : IsOq w va a) (iu : IsVq w vu u) (ix : IsVq w vx x) (ha : a.ok 10000) (hu : u.ok 10000) (hx : x.ok 10000) (ga : a.good) (gu : u.good) (gx : x.good) :
    Calls Tryz.prog 33 #[va, vu, vx] w fun e w' => RetQ w (a.sq u x) e w' := by
  refine (calls_runFn (ρ := frs (xrpSqX a u x) ++ []) (w := w) (fuel := 300) (args := [row [0, 1, 2, 3, 4, 5, 6], row [7, 8, 9], row [10, 11, 12]]) (vs := [va, vu, vx]) (r := .v (fr 22))
    (il_cons (I_rpApp (ka := [0, 1, 2, 3, 4, 5, 6]) (a := a) (kx := [7, 8, 9]) (x := u) (kr := [13, 14, 15]) ⟨rfl, rfl, rfl, rfl, rfl, rfl, rfl, trivial⟩ ⟨rfl, rfl, rfl, trivial⟩ ⟨rfl, rfl, rfl, trivial⟩ (ha.mono (by decide)) (hu.mono (by decide)) ga gu) (il_cons (I_rpApp (ka := [0, 1, 2, 3, 4, 5, 6]) (a := a) (kx := [10, 11, 12]) (x := x) (kr := [16, 17, 18]) ⟨rfl, rfl, rfl, rfl, rfl, rfl, rfl, trivial⟩ ⟨rfl, rfl, rfl, trivial⟩ ⟨rfl, rfl, rfl, trivial⟩ (ha.mono (by decide)) (hx.mono (by decide)) ga gx) (il_cons (I_r4Sub (ka := [13, 14, 15]) (a := (a.app u)) (kb := [16, 17, 18]) (b := (a.app x)) (kr := [19, 20, 21]) ⟨rfl, rfl, rfl, trivial⟩ ⟨rfl, rfl, rfl, trivial⟩ ⟨rfl, rfl, rfl, trivial⟩ ((ha.app hu ga).mono (by decide)) ((ha.app hx ga).mono (by decide))) (il_cons (I_r4Dot (ka := [19, 20, 21]) (a := ((a.app u).sub (a.app x))) (kb := [19, 20, 21]) (b := ((a.app u).sub (a.app x))) (ir := 22) ⟨rfl, rfl, rfl, trivial⟩ ⟨rfl, rfl, rfl, trivial⟩ rfl (((ha.app hu ga).sub (ha.app hx ga)).mono (by decide)) (((ha.app hu ga).sub (ha.app hx ga)).mono (by decide))) il_nil))))
    ol_nil (by kernel_rfl) Tryz.func33 (by kernel_rfl) ⟨(row_isL (xs := xrpSqX a u x) (ks := [0, 1, 2, 3, 4, 5, 6]) (vs := [a.rot.w, a.rot.x, a.rot.y, a.rot.z, a.pos.x, a.pos.y, a.pos.z]) ⟨rfl, rfl, rfl, rfl, rfl, rfl, rfl, trivial⟩).2 ia, ⟨(row_isL (xs := xrpSqX a u x) (ks := [7, 8, 9]) (vs := [u.x, u.y, u.z]) ⟨rfl, rfl, rfl, trivial⟩).2 iu, ⟨(row_isL (xs := xrpSqX a u x) (ks := [10, 11, 12]) (vs := [x.x, x.y, x.z]) ⟨rfl, rfl, rfl, trivial⟩).2 ix, trivial⟩⟩⟩).mono ?_
  rintro e w' ⟨v, rfl, h1, h2⟩
  exact ⟨v, rfl, (fr_isQ (xs := xrpSqX a u x) (k := 22) rfl).1 h1, h2⟩
theorem I_rpSq {xs : List Fq} {ys : Rho} {ka : List Nat} {ku : List Nat} {kx : List Nat} {a : Pq} {u : Vq} {x : Vq} {ir : Nat} (aa : AtL xs ka [a.rot.w, a.rot.x, a.rot.y, a.rot.z, a.pos.x, a.pos.y, a.pos.z]) (au : AtL xs ku [u.x, u.y, u.z]) (ax : AtL xs kx [x.x, x.y, x.z]) (ar : xs[ir]? = some (a.sq u x)) (ha : a.ok 10000) (hu : u.ok 10000) (hx : x.ok 10000) (ga : a.good) (gu : u.good) (gx : x.good) : OkI xs ys ⟨33, [row ka, row ku, row kx], .v (fr ir)⟩ :=
  ⟨enters Tryz.func33 rfl rfl, fun B w vs hB h => by
    match vs, h with
    | [va, vu, vx], h =>
      refine (q_rpSq va vu vx a u x w ((row_isL aa).1 h.1) ((row_isL au).1 h.2.1) ((row_isL ax).1 h.2.2.1) ha hu hx ga gu gx).mono ?_
      rintro e w' ⟨v, rfl, h1, h2⟩
      exact ⟨v, rfl, (fr_isQ ar).2 h1, h2⟩⟩
def xrpEqual1X (a : Pq) (b : Pq) : List Fq := [a.rot.w, a.rot.x, a.rot.y, a.rot.z, a.pos.x, a.pos.y, a.pos.z, b.rot.w, b.rot.x, b.rot.y, b.rot.z, b.pos.x, b.pos.y, b.pos.z]
theorem q_rpEqual1 (va vb : Value) (a : Pq) (b : Pq) (w : World) (ia : IsOq w va a) (ib : IsOq w vb b) (ha : a.ok 100000000) (hb : b.ok 100000000) (e0 : a = b) :
    Calls Tryz.prog 17 #[va, vb] w fun e w' => RetV w (.bool true) e w' := by
  refine (calls_runFn (ρ := frs (xrpEqual1X a b) ++ []) (w := w) (fuel := 300) (args := [row [0, 1, 2, 3, 4, 5, 6], row [7, 8, 9, 10, 11, 12, 13]]) (vs := [va, vb]) (r := .v (.one (.b true)))
    (il_cons (I_rEqual1 (ka := [0, 1, 2, 3]) (a := a.rot) (kb := [7, 8, 9, 10]) (b := b.rot) ⟨rfl, rfl, rfl, rfl, trivial⟩ ⟨rfl, rfl, rfl, rfl, trivial⟩ (ha.rot.mono (by decide)) (hb.rot.mono (by decide)) (congrArg Pq.rot e0)) (il_cons (I_r4Equal1 (ka := [4, 5, 6]) (a := a.pos) (kb := [11, 12, 13]) (b := b.pos) ⟨rfl, rfl, rfl, trivial⟩ ⟨rfl, rfl, rfl, trivial⟩ (ha.pos.mono (by decide)) (hb.pos.mono (by decide)) (congrArg Pq.pos e0)) il_nil))
    ol_nil (by kernel_rfl) Tryz.func17 (by kernel_rfl) ⟨(row_isL (xs := xrpEqual1X a b) (ks := [0, 1, 2, 3, 4, 5, 6]) (vs := [a.rot.w, a.rot.x, a.rot.y, a.rot.z, a.pos.x, a.pos.y, a.pos.z]) ⟨rfl, rfl, rfl, rfl, rfl, rfl, rfl, trivial⟩).2 ia, ⟨(row_isL (xs := xrpEqual1X a b) (ks := [7, 8, 9, 10, 11, 12, 13]) (vs := [b.rot.w, b.rot.x, b.rot.y, b.rot.z, b.pos.x, b.pos.y, b.pos.z]) ⟨rfl, rfl, rfl, rfl, rfl, rfl, rfl, trivial⟩).2 ib, trivial⟩⟩).mono ?_
  rintro e w' ⟨v, rfl, h1, h2⟩
  exact ⟨congrArg Ending.returned h1, h2⟩
theorem I_rpEqual1 {xs : List Fq} {ys : Rho} {ka : List Nat} {kb : List Nat} {a : Pq} {b : Pq}  (aa : AtL xs ka [a.rot.w, a.rot.x, a.rot.y, a.rot.z, a.pos.x, a.pos.y, a.pos.z]) (ab : AtL xs kb [b.rot.w, b.rot.x, b.rot.y, b.rot.z, b.pos.x, b.pos.y, b.pos.z])  (ha : a.ok 100000000) (hb : b.ok 100000000) (e0 : a = b) : OkI xs ys ⟨17, [row ka, row kb], .v (.one (.b true))⟩ :=
  ⟨enters Tryz.func17 rfl rfl, fun B w vs hB h => by
    match vs, h with
    | [va, vb], h =>
      refine (q_rpEqual1 va vb a b w ((row_isL aa).1 h.1) ((row_isL ab).1 h.2.1) ha hb e0).mono ?_
      rintro e w' ⟨rfl, h2⟩
      exact ⟨_, rfl, rfl, h2⟩⟩
def xrpEqual0X (a : Pq) (b : Pq) : List Fq := [a.rot.w, a.rot.x, a.rot.y, a.rot.z, a.pos.x, a.pos.y, a.pos.z, b.rot.w, b.rot.x, b.rot.y, b.rot.z, b.pos.x, b.pos.y, b.pos.z]
def xrpEqual01X (a : Pq) (b : Pq) : List Fq := [a.rot.w, a.rot.x, a.rot.y, a.rot.z, a.pos.x, a.pos.y, a.pos.z, b.rot.w, b.rot.x, b.rot.y, b.rot.z, b.pos.x, b.pos.y, b.pos.z]
theorem q_rpEqual0 (va vb : Value) (a : Pq) (b : Pq) (w : World) (ia : IsOq w va a) (ib : IsOq w vb b) (ha : a.ok 100000000) (hb : b.ok 100000000) (e0 : a ≠ b) :
    Calls Tryz.prog 17 #[va, vb] w fun e w' => RetV w (.bool false) e w' := by
  by_cases c0 : a.rot = b.rot
  · by_cases c1 : a.pos = b.pos
    · exact absurd (by cases a; cases b; simp only at c0 c1; subst c0 c1; rfl) e0
    · refine (calls_runFn (ρ := frs (xrpEqual0X a b) ++ []) (w := w) (fuel := 300) (args := [row [0, 1, 2, 3, 4, 5, 6], row [7, 8, 9, 10, 11, 12, 13]]) (vs := [va, vb]) (r := .v (.one (.b false)))
        (il_cons (I_rEqual1 (ka := [0, 1, 2, 3]) (a := a.rot) (kb := [7, 8, 9, 10]) (b := b.rot) ⟨rfl, rfl, rfl, rfl, trivial⟩ ⟨rfl, rfl, rfl, rfl, trivial⟩ (ha.rot.mono (by decide)) (hb.rot.mono (by decide)) c0) (il_cons (I_r4Equal0 (ka := [4, 5, 6]) (a := a.pos) (kb := [11, 12, 13]) (b := b.pos) ⟨rfl, rfl, rfl, trivial⟩ ⟨rfl, rfl, rfl, trivial⟩ (ha.pos.mono (by decide)) (hb.pos.mono (by decide)) c1) il_nil))
        ol_nil (by kernel_rfl) Tryz.func17 (by kernel_rfl) ⟨(row_isL (xs := xrpEqual0X a b) (ks := [0, 1, 2, 3, 4, 5, 6]) (vs := [a.rot.w, a.rot.x, a.rot.y, a.rot.z, a.pos.x, a.pos.y, a.pos.z]) ⟨rfl, rfl, rfl, rfl, rfl, rfl, rfl, trivial⟩).2 ia, ⟨(row_isL (xs := xrpEqual0X a b) (ks := [7, 8, 9, 10, 11, 12, 13]) (vs := [b.rot.w, b.rot.x, b.rot.y, b.rot.z, b.pos.x, b.pos.y, b.pos.z]) ⟨rfl, rfl, rfl, rfl, rfl, rfl, rfl, trivial⟩).2 ib, trivial⟩⟩).mono ?_
      rintro e w' ⟨v, rfl, h1, h2⟩
      exact ⟨congrArg Ending.returned h1, h2⟩
  · refine (calls_runFn (ρ := frs (xrpEqual01X a b) ++ []) (w := w) (fuel := 300) (args := [row [0, 1, 2, 3, 4, 5, 6], row [7, 8, 9, 10, 11, 12, 13]]) (vs := [va, vb]) (r := .v (.one (.b false)))
      (il_cons (I_rEqual0 (ka := [0, 1, 2, 3]) (a := a.rot) (kb := [7, 8, 9, 10]) (b := b.rot) ⟨rfl, rfl, rfl, rfl, trivial⟩ ⟨rfl, rfl, rfl, rfl, trivial⟩ (ha.rot.mono (by decide)) (hb.rot.mono (by decide)) c0) il_nil)
      ol_nil (by kernel_rfl) Tryz.func17 (by kernel_rfl) ⟨(row_isL (xs := xrpEqual01X a b) (ks := [0, 1, 2, 3, 4, 5, 6]) (vs := [a.rot.w, a.rot.x, a.rot.y, a.rot.z, a.pos.x, a.pos.y, a.pos.z]) ⟨rfl, rfl, rfl, rfl, rfl, rfl, rfl, trivial⟩).2 ia, ⟨(row_isL (xs := xrpEqual01X a b) (ks := [7, 8, 9, 10, 11, 12, 13]) (vs := [b.rot.w, b.rot.x, b.rot.y, b.rot.z, b.pos.x, b.pos.y, b.pos.z]) ⟨rfl, rfl, rfl, rfl, rfl, rfl, rfl, trivial⟩).2 ib, trivial⟩⟩).mono ?_
    rintro e w' ⟨v, rfl, h1, h2⟩
    exact ⟨congrArg Ending.returned h1, h2⟩
theorem I_rpEqual0 {xs : List Fq} {ys : Rho} {ka : List Nat} {kb : List Nat} {a : Pq} {b : Pq}  (aa : AtL xs ka [a.rot.w, a.rot.x, a.rot.y, a.rot.z, a.pos.x, a.pos.y, a.pos.z]) (ab : AtL xs kb [b.rot.w, b.rot.x, b.rot.y, b.rot.z, b.pos.x, b.pos.y, b.pos.z])  (ha : a.ok 100000000) (hb : b.ok 100000000) (e0 : a ≠ b) : OkI xs ys ⟨17, [row ka, row kb], .v (.one (.b false))⟩ :=
  ⟨enters Tryz.func17 rfl rfl, fun B w vs hB h => by
    match vs, h with
    | [va, vb], h =>
      refine (q_rpEqual0 va vb a b w ((row_isL aa).1 h.1) ((row_isL ab).1 h.2.1) ha hb e0).mono ?_
      rintro e w' ⟨rfl, h2⟩
      exact ⟨_, rfl, rfl, h2⟩⟩
def xrpValidX (a : Pq) : List Fq := [a.rot.w, a.rot.x, a.rot.y, a.rot.z, a.pos.x, a.pos.y, a.pos.z]
theorem q_rpValid (va : Value) (a : Pq) (w : World) (ia : IsOq w va a) (ha : a.ok 1000000) (ga : a.good) :
    Calls Tryz.prog 12 #[va] w fun e w' => RetV w (.bool true) e w' := by
  refine (calls_runFn (ρ := frs (xrpValidX a) ++ []) (w := w) (fuel := 300) (args := [row [0, 1, 2, 3, 4, 5, 6]]) (vs := [va]) (r := .v (.one (.b true)))
    (il_cons (I_rValidT1 (kq := [0, 1, 2, 3]) (q := a.rot) ⟨rfl, rfl, rfl, rfl, trivial⟩ (ha.rot.mono (by decide)) ga.rot) (il_cons (I_r4Valid (ka := [4, 5, 6]) (a := a.pos) ⟨rfl, rfl, rfl, trivial⟩ (ha.pos.mono (by decide)) ga.pos) il_nil))
    ol_nil (by kernel_rfl) Tryz.func12 (by kernel_rfl) ⟨(row_isL (xs := xrpValidX a) (ks := [0, 1, 2, 3, 4, 5, 6]) (vs := [a.rot.w, a.rot.x, a.rot.y, a.rot.z, a.pos.x, a.pos.y, a.pos.z]) ⟨rfl, rfl, rfl, rfl, rfl, rfl, rfl, trivial⟩).2 ia, trivial⟩).mono ?_
  rintro e w' ⟨v, rfl, h1, h2⟩
  exact ⟨congrArg Ending.returned h1, h2⟩
end Go.Proofs.YthebfmlfgfmlnaaGreatDoor
