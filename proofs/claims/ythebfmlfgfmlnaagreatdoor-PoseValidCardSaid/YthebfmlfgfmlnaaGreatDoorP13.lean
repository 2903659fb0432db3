/- Package pose and its reference, by the executor. An executor: rows that the call itself made, appended to and left. Texts of poses. -/
import Derived.Test.YthebfmlfgfmlnaaGreatDoorP12
namespace Go.Proofs.YthebfmlfgfmlnaaGreatDoor
set_option linter.unusedSimpArgs false
set_option linter.unusedVariables false
set_option maxRecDepth 100000
open Go.RowKit
/-- A pose: a rotation and a position. -/
structure Pq where
  rot : Qq
  pos : Vq
structure Pq.ok (d : Nat) (p : Pq) : Prop where
  rot : p.rot.ok d
  pos : p.pos.ok d
structure Pq.good (p : Pq) : Prop where
  rot : p.rot.good
  pos : p.pos.good
def Pq.id : Pq := ⟨Qq.id, Vq.of 0 0 0⟩
def Pq.zero : Pq := ⟨Qq.zero, ⟨.zero, .zero, .zero⟩⟩
/-- The image of a point. -/
def Pq.app (p : Pq) (v : Vq) : Vq := (p.rot.app v).add p.pos
/-- One after the other. -/
def Pq.mul (a b : Pq) : Pq := ⟨a.rot.mul b.rot, a.app b.pos⟩
def Pq.inv (a : Pq) : Pq := ⟨a.rot.inv, a.rot.inv.app (a.pos.scale (Fq.ofInt (-1)))⟩
theorem Pq.ok.mono {p : Pq} {d e : Nat} (h : p.ok d) (k : d ≤ e) : p.ok e := ⟨h.rot.mono k, h.pos.mono k⟩
theorem Pq.good.app {p : Pq} {v : Vq} (h : p.good) (k : v.good) : (p.app v).good := (app_good h.rot k).add h.pos
theorem Pq.good.mul {a b : Pq} (h : a.good) (k : b.good) : (a.mul b).good := ⟨mul_good h.rot k.rot, h.app k.pos⟩
theorem Pq.good.inv {a : Pq} (h : a.good) : a.inv.good := ⟨inv_good h.rot, app_good (inv_good h.rot) (h.pos.scale (ofInt_valid _))⟩
theorem Pq.good.id : Pq.id.good := ⟨id_good, Vq.good.of 0 0 0⟩
theorem Pq.ok.app {p : Pq} {v : Vq} {d e : Nat} (h : p.ok d) (k : v.ok e) (g : p.good) : (p.app v).ok (700 * (d + e) + 300) := ((h.rot.app k g.rot).add h.pos).mono (by omega)
theorem Pq.ok.mul {a b : Pq} {d e : Nat} (h : a.ok d) (k : b.ok e) (g : a.good) (l : b.good) : (a.mul b).ok (700 * (d + e) + 300) := ⟨(h.rot.mulg k.rot g.rot l.rot).mono (by omega), h.app k.pos g⟩
theorem Pq.ok.inv {a : Pq} {d : Nat} (h : a.ok d) (g : a.good) : a.inv.ok (1000 * d + 3000) := ⟨(h.rot.inv g.rot).mono (by omega), ((h.rot.inv g.rot).app (h.pos.scale (ok_int (by decide) (by decide))) (inv_good g.rot)).mono (by omega)⟩
theorem Pq.ok.id : Pq.id.ok 2 := ⟨ok_id, ok_vof (by decide) (by decide) (by decide) (by decide) (by decide) (by decide)⟩
abbrev IsOq (w : World) (v : Value) (p : Pq) : Prop := IsL w v [p.rot.w.raw, p.rot.x.raw, p.rot.y.raw, p.rot.z.raw, p.pos.x.raw, p.pos.y.raw, p.pos.z.raw]
abbrev RetOq (W : World) (p : Pq) (e : Ending) (w' : World) : Prop := RetL W [p.rot.w.raw, p.rot.x.raw, p.rot.y.raw, p.rot.z.raw, p.pos.x.raw, p.pos.y.raw, p.pos.z.raw] e w'
abbrev RetOqE (W : World) (p : Pq) (c : Int) (e : Ending) (w' : World) : Prop := RetLE W [p.rot.w.raw, p.rot.x.raw, p.rot.y.raw, p.rot.z.raw, p.pos.x.raw, p.pos.y.raw, p.pos.z.raw] c e w'
def xvEqual1X (a : Vq) (b : Vq) : List Fq := [a.x, a.y, a.z, b.x, b.y, b.z]
theorem q_vEqual1 (va vb : Value) (a : Vq) (b : Vq) (w : World) (ia : IsVq w va a) (ib : IsVq w vb b) (ha : a.ok 100000000) (hb : b.ok 100000000) (e0 : a = b) (ga : a.good) (gb : b.good) :
    Calls Tryz.prog 70 #[va, vb] w fun e w' => RetV w (.bool true) e w' := by
  refine (calls_runFn (ρ := frs (xvEqual1X a b) ++ []) (w := w) (fuel := 300) (args := [row [0, 1, 2], row [3, 4, 5]]) (vs := [va, vb]) (r := .v (.one (.b true)))
    (il_cons (I_fCmp (i := 0) (j := 3) rfl rfl (li ((o_zero ga.x gb.x).2 (congrArg Vq.x e0))) (ha.x.mono (by decide)) (hb.x.mono (by decide))) (il_cons (I_fCmp (i := 1) (j := 4) rfl rfl (li ((o_zero ga.y gb.y).2 (congrArg Vq.y e0))) (ha.y.mono (by decide)) (hb.y.mono (by decide))) (il_cons (I_fCmp (i := 2) (j := 5) rfl rfl (li ((o_zero ga.z gb.z).2 (congrArg Vq.z e0))) (ha.z.mono (by decide)) (hb.z.mono (by decide))) il_nil)))
    ol_nil (by kernel_rfl) Tryz.func70 (by kernel_rfl) ⟨(row_isL (xs := xvEqual1X a b) (ks := [0, 1, 2]) (vs := [a.x, a.y, a.z]) ⟨rfl, rfl, rfl, trivial⟩).2 ia, ⟨(row_isL (xs := xvEqual1X a b) (ks := [3, 4, 5]) (vs := [b.x, b.y, b.z]) ⟨rfl, rfl, rfl, trivial⟩).2 ib, trivial⟩⟩).mono ?_
  rintro e w' ⟨v, rfl, h1, h2⟩
  exact ⟨congrArg Ending.returned h1, h2⟩
theorem I_vEqual1 {xs : List Fq} {ys : Rho} {ka : List Nat} {kb : List Nat} {a : Vq} {b : Vq}  (aa : AtL xs ka [a.x, a.y, a.z]) (ab : AtL xs kb [b.x, b.y, b.z])  (ha : a.ok 100000000) (hb : b.ok 100000000) (e0 : a = b) (ga : a.good) (gb : b.good) : OkI xs ys ⟨70, [row ka, row kb], .v (.one (.b true))⟩ :=
  ⟨enters Tryz.func70 rfl rfl, fun B w vs hB h => by
    match vs, h with
    | [va, vb], h =>
      refine (q_vEqual1 va vb a b w ((row_isL aa).1 h.1) ((row_isL ab).1 h.2.1) ha hb e0 ga gb).mono ?_
      rintro e w' ⟨rfl, h2⟩
      exact ⟨_, rfl, rfl, h2⟩⟩
def xr4Equal1X (a : Vq) (b : Vq) : List Fq := [a.x, a.y, a.z, b.x, b.y, b.z]
theorem q_r4Equal1 (va vb : Value) (a : Vq) (b : Vq) (w : World) (ia : IsVq w va a) (ib : IsVq w vb b) (ha : a.ok 1000000000) (hb : b.ok 1000000000) (e0 : a = b) :
    Calls Tryz.prog 28 #[va, vb] w fun e w' => RetV w (.bool true) e w' := by
  refine (calls_runFn (ρ := frs (xr4Equal1X a b) ++ []) (w := w) (fuel := 300) (args := [row [0, 1, 2], row [3, 4, 5]]) (vs := [va, vb]) (r := .v (.one (.b true)))
    (il_cons (I_rSame (i := 0) (j := 3) (l := .b true) rfl rfl (lb (Fq.same_iff.2 (congrArg Vq.x e0))) (ha.x.mono (by decide)).p (ha.x.mono (by decide)).q (hb.x.mono (by decide)).p (hb.x.mono (by decide)).q) (il_cons (I_rSame (i := 1) (j := 4) (l := .b true) rfl rfl (lb (Fq.same_iff.2 (congrArg Vq.y e0))) (ha.y.mono (by decide)).p (ha.y.mono (by decide)).q (hb.y.mono (by decide)).p (hb.y.mono (by decide)).q) (il_cons (I_rSame (i := 2) (j := 5) (l := .b true) rfl rfl (lb (Fq.same_iff.2 (congrArg Vq.z e0))) (ha.z.mono (by decide)).p (ha.z.mono (by decide)).q (hb.z.mono (by decide)).p (hb.z.mono (by decide)).q) il_nil)))
    ol_nil (by kernel_rfl) Tryz.func28 (by kernel_rfl) ⟨(row_isL (xs := xr4Equal1X a b) (ks := [0, 1, 2]) (vs := [a.x, a.y, a.z]) ⟨rfl, rfl, rfl, trivial⟩).2 ia, ⟨(row_isL (xs := xr4Equal1X a b) (ks := [3, 4, 5]) (vs := [b.x, b.y, b.z]) ⟨rfl, rfl, rfl, trivial⟩).2 ib, trivial⟩⟩).mono ?_
  rintro e w' ⟨v, rfl, h1, h2⟩
  exact ⟨congrArg Ending.returned h1, h2⟩
theorem I_r4Equal1 {xs : List Fq} {ys : Rho} {ka : List Nat} {kb : List Nat} {a : Vq} {b : Vq}  (aa : AtL xs ka [a.x, a.y, a.z]) (ab : AtL xs kb [b.x, b.y, b.z])  (ha : a.ok 1000000000) (hb : b.ok 1000000000) (e0 : a = b) : OkI xs ys ⟨28, [row ka, row kb], .v (.one (.b true))⟩ :=
  ⟨enters Tryz.func28 rfl rfl, fun B w vs hB h => by
    match vs, h with
    | [va, vb], h =>
      refine (q_r4Equal1 va vb a b w ((row_isL aa).1 h.1) ((row_isL ab).1 h.2.1) ha hb e0).mono ?_
      rintro e w' ⟨rfl, h2⟩
      exact ⟨_, rfl, rfl, h2⟩⟩
def xrO1_2_3X  : List Fq := [(Fq.ofInt 1), (Fq.ofInt 2), (Fq.ofInt 3)]
theorem q_rO1_2_3  (w : World)   :
    Calls Tryz.prog 40 #[.int .i64 (1), .int .i64 (2), .int .i64 (3)] w fun e w' => RetVq w (Vq.of 1 2 3) e w' := by
  refine (calls_runFn (ρ := frs (xrO1_2_3X ) ++ []) (w := w) (fuel := 300) (args := [.one (.i .i64 1), .one (.i .i64 2), .one (.i .i64 3)]) (vs := [.int .i64 (1), .int .i64 (2), .int .i64 (3)]) (r := .v (row [0, 1, 2]))
    (il_cons (I_rInt (k := 0) rfl (by decide) (by decide)) (il_cons (I_rInt (k := 1) rfl (by decide) (by decide)) (il_cons (I_rInt (k := 2) rfl (by decide) (by decide)) il_nil)))
    ol_nil (by kernel_rfl) Tryz.func40 (by kernel_rfl) ⟨rfl, ⟨rfl, ⟨rfl, trivial⟩⟩⟩).mono ?_
  rintro e w' ⟨v, rfl, h1, h2⟩
  exact ⟨v, rfl, (row_isL (xs := xrO1_2_3X ) (ks := [0, 1, 2]) (vs := [(Fq.ofInt 1), (Fq.ofInt 2), (Fq.ofInt 3)]) ⟨rfl, rfl, rfl, trivial⟩).1 h1, h2⟩
theorem I_rO1_2_3 {xs : List Fq} {ys : Rho}   {kr : List Nat}  (ar : AtL xs kr [(Vq.of 1 2 3).x, (Vq.of 1 2 3).y, (Vq.of 1 2 3).z]) : OkI xs ys ⟨40, [.one (.i .i64 1), .one (.i .i64 2), .one (.i .i64 3)], .v (row kr)⟩ :=
  ⟨enters Tryz.func40 rfl rfl, fun B w vs hB h => by
    match vs, h with
    | [vx, vy, vz], h =>
      have ex : vx = .int .i64 (1) := h.1
      subst ex
      have ey : vy = .int .i64 (2) := h.2.1
      subst ey
      have ez : vz = .int .i64 (3) := h.2.2.1
      subst ez
      refine (q_rO1_2_3 w).mono ?_
      rintro e w' ⟨v, rfl, h1, h2⟩
      exact ⟨v, rfl, (row_isL ar).2 h1, h2⟩⟩
def xrO1_0_0X  : List Fq := [(Fq.ofInt 1), (Fq.ofInt 0)]
theorem q_rO1_0_0  (w : World)   :
    Calls Tryz.prog 40 #[.int .i64 (1), .int .i64 (0), .int .i64 (0)] w fun e w' => RetVq w (Vq.of 1 0 0) e w' := by
  refine (calls_runFn (ρ := frs (xrO1_0_0X ) ++ []) (w := w) (fuel := 300) (args := [.one (.i .i64 1), .one (.i .i64 0), .one (.i .i64 0)]) (vs := [.int .i64 (1), .int .i64 (0), .int .i64 (0)]) (r := .v (row [0, 1, 1]))
    (il_cons (I_rInt (k := 0) rfl (by decide) (by decide)) (il_cons (I_rInt (k := 1) rfl (by decide) (by decide)) il_nil))
    ol_nil (by kernel_rfl) Tryz.func40 (by kernel_rfl) ⟨rfl, ⟨rfl, ⟨rfl, trivial⟩⟩⟩).mono ?_
  rintro e w' ⟨v, rfl, h1, h2⟩
  exact ⟨v, rfl, (row_isL (xs := xrO1_0_0X ) (ks := [0, 1, 1]) (vs := [(Fq.ofInt 1), (Fq.ofInt 0), (Fq.ofInt 0)]) ⟨rfl, rfl, rfl, trivial⟩).1 h1, h2⟩
theorem I_rO1_0_0 {xs : List Fq} {ys : Rho}   {kr : List Nat}  (ar : AtL xs kr [(Vq.of 1 0 0).x, (Vq.of 1 0 0).y, (Vq.of 1 0 0).z]) : OkI xs ys ⟨40, [.one (.i .i64 1), .one (.i .i64 0), .one (.i .i64 0)], .v (row kr)⟩ :=
  ⟨enters Tryz.func40 rfl rfl, fun B w vs hB h => by
    match vs, h with
    | [vx, vy, vz], h =>
      have ex : vx = .int .i64 (1) := h.1
      subst ex
      have ey : vy = .int .i64 (0) := h.2.1
      subst ey
      have ez : vz = .int .i64 (0) := h.2.2.1
      subst ez
      refine (q_rO1_0_0 w).mono ?_
      rintro e w' ⟨v, rfl, h1, h2⟩
      exact ⟨v, rfl, (row_isL ar).2 h1, h2⟩⟩
def xrO1_3_3X  : List Fq := [(Fq.ofInt 1), (Fq.ofInt 3)]
theorem q_rO1_3_3  (w : World)   :
    Calls Tryz.prog 40 #[.int .i64 (1), .int .i64 (3), .int .i64 (3)] w fun e w' => RetVq w (Vq.of 1 3 3) e w' := by
  refine (calls_runFn (ρ := frs (xrO1_3_3X ) ++ []) (w := w) (fuel := 300) (args := [.one (.i .i64 1), .one (.i .i64 3), .one (.i .i64 3)]) (vs := [.int .i64 (1), .int .i64 (3), .int .i64 (3)]) (r := .v (row [0, 1, 1]))
    (il_cons (I_rInt (k := 0) rfl (by decide) (by decide)) (il_cons (I_rInt (k := 1) rfl (by decide) (by decide)) il_nil))
    ol_nil (by kernel_rfl) Tryz.func40 (by kernel_rfl) ⟨rfl, ⟨rfl, ⟨rfl, trivial⟩⟩⟩).mono ?_
  rintro e w' ⟨v, rfl, h1, h2⟩
  exact ⟨v, rfl, (row_isL (xs := xrO1_3_3X ) (ks := [0, 1, 1]) (vs := [(Fq.ofInt 1), (Fq.ofInt 3), (Fq.ofInt 3)]) ⟨rfl, rfl, rfl, trivial⟩).1 h1, h2⟩
theorem I_rO1_3_3 {xs : List Fq} {ys : Rho}   {kr : List Nat}  (ar : AtL xs kr [(Vq.of 1 3 3).x, (Vq.of 1 3 3).y, (Vq.of 1 3 3).z]) : OkI xs ys ⟨40, [.one (.i .i64 1), .one (.i .i64 3), .one (.i .i64 3)], .v (row kr)⟩ :=
  ⟨enters Tryz.func40 rfl rfl, fun B w vs hB h => by
    match vs, h with
    | [vx, vy, vz], h =>
      have ex : vx = .int .i64 (1) := h.1
      subst ex
      have ey : vy = .int .i64 (3) := h.2.1
      subst ey
      have ez : vz = .int .i64 (3) := h.2.2.1
      subst ez
      refine (q_rO1_3_3 w).mono ?_
      rintro e w' ⟨v, rfl, h1, h2⟩
      exact ⟨v, rfl, (row_isL ar).2 h1, h2⟩⟩
def xpoOfX (a : Pq) : List Fq := [a.rot.w, a.rot.x, a.rot.y, a.rot.z, a.pos.x, a.pos.y, a.pos.z]
theorem q_poOf (va : Value) (a : Pq) (w : World) (ia : IsOq w va a) (ha : a.ok 1000000000) :
    Calls Tryz.prog 63 #[va] w fun e w' => RetOq w a e w' := by
  refine (calls_runFn (ρ := frs (xpoOfX a) ++ []) (w := w) (fuel := 300) (args := [row [0, 1, 2, 3, 4, 5, 6]]) (vs := [va]) (r := .v (row [0, 1, 2, 3, 4, 5, 6]))
    (il_nil)
    ol_nil (by kernel_rfl) Tryz.func63 (by kernel_rfl) ⟨(row_isL (xs := xpoOfX a) (ks := [0, 1, 2, 3, 4, 5, 6]) (vs := [a.rot.w, a.rot.x, a.rot.y, a.rot.z, a.pos.x, a.pos.y, a.pos.z]) ⟨rfl, rfl, rfl, rfl, rfl, rfl, rfl, trivial⟩).2 ia, trivial⟩).mono ?_
  rintro e w' ⟨v, rfl, h1, h2⟩
  exact ⟨v, rfl, (row_isL (xs := xpoOfX a) (ks := [0, 1, 2, 3, 4, 5, 6]) (vs := [a.rot.w, a.rot.x, a.rot.y, a.rot.z, a.pos.x, a.pos.y, a.pos.z]) ⟨rfl, rfl, rfl, rfl, rfl, rfl, rfl, trivial⟩).1 h1, h2⟩
theorem I_poOf {xs : List Fq} {ys : Rho} {ka : List Nat} {a : Pq} {kr : List Nat} (aa : AtL xs ka [a.rot.w, a.rot.x, a.rot.y, a.rot.z, a.pos.x, a.pos.y, a.pos.z]) (ar : AtL xs kr [a.rot.w, a.rot.x, a.rot.y, a.rot.z, a.pos.x, a.pos.y, a.pos.z]) (ha : a.ok 1000000000) : OkI xs ys ⟨63, [row ka], .v (row kr)⟩ :=
  ⟨enters Tryz.func63 rfl rfl, fun B w vs hB h => by
    match vs, h with
    | [va], h =>
      refine (q_poOf va a w ((row_isL aa).1 h.1) ha).mono ?_
      rintro e w' ⟨v, rfl, h1, h2⟩
      exact ⟨v, rfl, (row_isL ar).2 h1, h2⟩⟩
def xpoPoseX (a : Pq) : List Fq := [a.rot.w, a.rot.x, a.rot.y, a.rot.z, a.pos.x, a.pos.y, a.pos.z]
theorem q_poPose (va : Value) (a : Pq) (w : World) (ia : IsOq w va a) (ha : a.ok 1000000000) :
    Calls Tryz.prog 61 #[va] w fun e w' => RetOq w a e w' := by
  refine (calls_runFn (ρ := frs (xpoPoseX a) ++ []) (w := w) (fuel := 300) (args := [row [0, 1, 2, 3, 4, 5, 6]]) (vs := [va]) (r := .v (row [0, 1, 2, 3, 4, 5, 6]))
    (il_nil)
    ol_nil (by kernel_rfl) Tryz.func61 (by kernel_rfl) ⟨(row_isL (xs := xpoPoseX a) (ks := [0, 1, 2, 3, 4, 5, 6]) (vs := [a.rot.w, a.rot.x, a.rot.y, a.rot.z, a.pos.x, a.pos.y, a.pos.z]) ⟨rfl, rfl, rfl, rfl, rfl, rfl, rfl, trivial⟩).2 ia, trivial⟩).mono ?_
  rintro e w' ⟨v, rfl, h1, h2⟩
  exact ⟨v, rfl, (row_isL (xs := xpoPoseX a) (ks := [0, 1, 2, 3, 4, 5, 6]) (vs := [a.rot.w, a.rot.x, a.rot.y, a.rot.z, a.pos.x, a.pos.y, a.pos.z]) ⟨rfl, rfl, rfl, rfl, rfl, rfl, rfl, trivial⟩).1 h1, h2⟩
theorem I_poPose {xs : List Fq} {ys : Rho} {ka : List Nat} {a : Pq} {kr : List Nat} (aa : AtL xs ka [a.rot.w, a.rot.x, a.rot.y, a.rot.z, a.pos.x, a.pos.y, a.pos.z]) (ar : AtL xs kr [a.rot.w, a.rot.x, a.rot.y, a.rot.z, a.pos.x, a.pos.y, a.pos.z]) (ha : a.ok 1000000000) : OkI xs ys ⟨61, [row ka], .v (row kr)⟩ :=
  ⟨enters Tryz.func61 rfl rfl, fun B w vs hB h => by
    match vs, h with
    | [va], h =>
      refine (q_poPose va a w ((row_isL aa).1 h.1) ha).mono ?_
      rintro e w' ⟨v, rfl, h1, h2⟩
      exact ⟨v, rfl, (row_isL ar).2 h1, h2⟩⟩
def xpoRotX (q : Qq) (a : Vq) : List Fq := [q.w, q.x, q.y, q.z, a.x, a.y, a.z, (q.app a).x, (q.app a).y, (q.app a).z]
theorem q_poRot (vq va : Value) (q : Qq) (a : Vq) (w : World) (iq : IsQt w vq q) (ia : IsVq w va a) (hq : q.ok 300000) (ha : a.ok 300000) (gq : q.good) :
    Calls Tryz.prog 66 #[vq, va] w fun e w' => RetVq w (q.app a) e w' := by
  refine (calls_runFn (ρ := frs (xpoRotX q a) ++ []) (w := w) (fuel := 300) (args := [row [0, 1, 2, 3], row [4, 5, 6]]) (vs := [vq, va]) (r := .v (row [7, 8, 9]))
    (il_cons (I_fApp (kq := [0, 1, 2, 3]) (q := q) (ka := [4, 5, 6]) (a := a) (kr := [7, 8, 9]) ⟨rfl, rfl, rfl, rfl, trivial⟩ ⟨rfl, rfl, rfl, trivial⟩ ⟨rfl, rfl, rfl, trivial⟩ (hq.mono (by decide)) (ha.mono (by decide)) gq) il_nil)
    ol_nil (by kernel_rfl) Tryz.func66 (by kernel_rfl) ⟨(row_isL (xs := xpoRotX q a) (ks := [0, 1, 2, 3]) (vs := [q.w, q.x, q.y, q.z]) ⟨rfl, rfl, rfl, rfl, trivial⟩).2 iq, ⟨(row_isL (xs := xpoRotX q a) (ks := [4, 5, 6]) (vs := [a.x, a.y, a.z]) ⟨rfl, rfl, rfl, trivial⟩).2 ia, trivial⟩⟩).mono ?_
  rintro e w' ⟨v, rfl, h1, h2⟩
  exact ⟨v, rfl, (row_isL (xs := xpoRotX q a) (ks := [7, 8, 9]) (vs := [(q.app a).x, (q.app a).y, (q.app a).z]) ⟨rfl, rfl, rfl, trivial⟩).1 h1, h2⟩
theorem I_poRot {xs : List Fq} {ys : Rho} {kq : List Nat} {ka : List Nat} {q : Qq} {a : Vq} {kr : List Nat} (aq : AtL xs kq [q.w, q.x, q.y, q.z]) (aa : AtL xs ka [a.x, a.y, a.z]) (ar : AtL xs kr [(q.app a).x, (q.app a).y, (q.app a).z]) (hq : q.ok 300000) (ha : a.ok 300000) (gq : q.good) : OkI xs ys ⟨66, [row kq, row ka], .v (row kr)⟩ :=
  ⟨enters Tryz.func66 rfl rfl, fun B w vs hB h => by
    match vs, h with
    | [vq, va], h =>
      refine (q_poRot vq va q a w ((row_isL aq).1 h.1) ((row_isL aa).1 h.2.1) hq ha gq).mono ?_
      rintro e w' ⟨v, rfl, h1, h2⟩
      exact ⟨v, rfl, (row_isL ar).2 h1, h2⟩⟩
def xpoBackX (q : Qq) : List Fq := [q.w, q.x, q.y, q.z, q.inv.w, q.inv.x, q.inv.y, q.inv.z]
theorem q_poBack (vq : Value) (q : Qq) (w : World) (iq : IsQt w vq q) (hq : q.ok 100000) (gq : q.good) :
    Calls Tryz.prog 65 #[vq] w fun e w' => RetQt w q.inv e w' := by
  refine (calls_runFn (ρ := frs (xpoBackX q) ++ []) (w := w) (fuel := 300) (args := [row [0, 1, 2, 3]]) (vs := [vq]) (r := .v (row [4, 5, 6, 7]))
    (il_cons (I_fInvT (kq := [0, 1, 2, 3]) (q := q) (kr := [4, 5, 6, 7]) ⟨rfl, rfl, rfl, rfl, trivial⟩ ⟨rfl, rfl, rfl, rfl, trivial⟩ (hq.mono (by decide)) gq) il_nil)
    ol_nil (by kernel_rfl) Tryz.func65 (by kernel_rfl) ⟨(row_isL (xs := xpoBackX q) (ks := [0, 1, 2, 3]) (vs := [q.w, q.x, q.y, q.z]) ⟨rfl, rfl, rfl, rfl, trivial⟩).2 iq, trivial⟩).mono ?_
  rintro e w' ⟨v, rfl, h1, h2⟩
  exact ⟨v, rfl, (row_isL (xs := xpoBackX q) (ks := [4, 5, 6, 7]) (vs := [q.inv.w, q.inv.x, q.inv.y, q.inv.z]) ⟨rfl, rfl, rfl, rfl, trivial⟩).1 h1, h2⟩
theorem I_poBack {xs : List Fq} {ys : Rho} {kq : List Nat} {q : Qq} {kr : List Nat} (aq : AtL xs kq [q.w, q.x, q.y, q.z]) (ar : AtL xs kr [q.inv.w, q.inv.x, q.inv.y, q.inv.z]) (hq : q.ok 100000) (gq : q.good) : OkI xs ys ⟨65, [row kq], .v (row kr)⟩ :=
  ⟨enters Tryz.func65 rfl rfl, fun B w vs hB h => by
    match vs, h with
    | [vq], h =>
      refine (q_poBack vq q w ((row_isL aq).1 h.1) hq gq).mono ?_
      rintro e w' ⟨v, rfl, h1, h2⟩
      exact ⟨v, rfl, (row_isL ar).2 h1, h2⟩⟩
def xpoImgX (a : Pq) (x : Vq) : List Fq := [a.rot.w, a.rot.x, a.rot.y, a.rot.z, a.pos.x, a.pos.y, a.pos.z, x.x, x.y, x.z, (a.rot.app x).x, (a.rot.app x).y, (a.rot.app x).z, ((a.rot.app x).add a.pos).x, ((a.rot.app x).add a.pos).y, ((a.rot.app x).add a.pos).z]
theorem q_poImg (va vx : Value) (a : Pq) (x : Vq) (w : World) (ia : IsOq w va a) (ix : IsVq w vx x) (ha : a.ok 100000) (hx : x.ok 100000) (ga : a.good) (gx : x.good) :
    Calls Tryz.prog 64 #[va, vx] w fun e w' => RetVq w (a.app x) e w' := by
  refine (calls_runFn (ρ := frs (xpoImgX a x) ++ []) (w := w) (fuel := 300) (args := [row [0, 1, 2, 3, 4, 5, 6], row [7, 8, 9]]) (vs := [va, vx]) (r := .v (row [13, 14, 15]))
    (il_cons (I_poRot (kq := [0, 1, 2, 3]) (q := a.rot) (ka := [7, 8, 9]) (a := x) (kr := [10, 11, 12]) ⟨rfl, rfl, rfl, rfl, trivial⟩ ⟨rfl, rfl, rfl, trivial⟩ ⟨rfl, rfl, rfl, trivial⟩ (ha.rot.mono (by decide)) (hx.mono (by decide)) ga.rot) (il_cons (I_vAdd (ka := [10, 11, 12]) (a := (a.rot.app x)) (kb := [4, 5, 6]) (b := a.pos) (kr := [13, 14, 15]) ⟨rfl, rfl, rfl, trivial⟩ ⟨rfl, rfl, rfl, trivial⟩ ⟨rfl, rfl, rfl, trivial⟩ ((ha.rot.app hx ga.rot).mono (by decide)) (ha.pos.mono (by decide))) il_nil))
    ol_nil (by kernel_rfl) Tryz.func64 (by kernel_rfl) ⟨(row_isL (xs := xpoImgX a x) (ks := [0, 1, 2, 3, 4, 5, 6]) (vs := [a.rot.w, a.rot.x, a.rot.y, a.rot.z, a.pos.x, a.pos.y, a.pos.z]) ⟨rfl, rfl, rfl, rfl, rfl, rfl, rfl, trivial⟩).2 ia, ⟨(row_isL (xs := xpoImgX a x) (ks := [7, 8, 9]) (vs := [x.x, x.y, x.z]) ⟨rfl, rfl, rfl, trivial⟩).2 ix, trivial⟩⟩).mono ?_
  rintro e w' ⟨v, rfl, h1, h2⟩
  exact ⟨v, rfl, (row_isL (xs := xpoImgX a x) (ks := [13, 14, 15]) (vs := [((a.rot.app x).add a.pos).x, ((a.rot.app x).add a.pos).y, ((a.rot.app x).add a.pos).z]) ⟨rfl, rfl, rfl, trivial⟩).1 h1, h2⟩
theorem I_poImg {xs : List Fq} {ys : Rho} {ka : List Nat} {kx : List Nat} {a : Pq} {x : Vq} {kr : List Nat} (aa : AtL xs ka [a.rot.w, a.rot.x, a.rot.y, a.rot.z, a.pos.x, a.pos.y, a.pos.z]) (ax : AtL xs kx [x.x, x.y, x.z]) (ar : AtL xs kr [(a.app x).x, (a.app x).y, (a.app x).z]) (ha : a.ok 100000) (hx : x.ok 100000) (ga : a.good) (gx : x.good) : OkI xs ys ⟨64, [row ka, row kx], .v (row kr)⟩ :=
  ⟨enters Tryz.func64 rfl rfl, fun B w vs hB h => by
    match vs, h with
    | [va, vx], h =>
      refine (q_poImg va vx a x w ((row_isL aa).1 h.1) ((row_isL ax).1 h.2.1) ha hx ga gx).mono ?_
      rintro e w' ⟨v, rfl, h1, h2⟩
      exact ⟨v, rfl, (row_isL ar).2 h1, h2⟩⟩
def xpoAppX (a : Pq) (x : Vq) : List Fq := [a.rot.w, a.rot.x, a.rot.y, a.rot.z, a.pos.x, a.pos.y, a.pos.z, x.x, x.y, x.z, (a.app x).x, (a.app x).y, (a.app x).z]
theorem q_poApp (va vx : Value) (a : Pq) (x : Vq) (w : World) (ia : IsOq w va a) (ix : IsVq w vx x) (ha : a.ok 100000) (hx : x.ok 100000) (ga : a.good) (gx : x.good) :
    Calls Tryz.prog 29 #[va, vx] w fun e w' => RetVq w (a.app x) e w' := by
  refine (calls_runFn (ρ := frs (xpoAppX a x) ++ []) (w := w) (fuel := 300) (args := [row [0, 1, 2, 3, 4, 5, 6], row [7, 8, 9]]) (vs := [va, vx]) (r := .v (row [10, 11, 12]))
    (il_cons (I_poOf (ka := [0, 1, 2, 3, 4, 5, 6]) (a := a) (kr := [0, 1, 2, 3, 4, 5, 6]) ⟨rfl, rfl, rfl, rfl, rfl, rfl, rfl, trivial⟩ ⟨rfl, rfl, rfl, rfl, rfl, rfl, rfl, trivial⟩ (ha.mono (by decide))) (il_cons (I_poImg (ka := [0, 1, 2, 3, 4, 5, 6]) (a := a) (kx := [7, 8, 9]) (x := x) (kr := [10, 11, 12]) ⟨rfl, rfl, rfl, rfl, rfl, rfl, rfl, trivial⟩ ⟨rfl, rfl, rfl, trivial⟩ ⟨rfl, rfl, rfl, trivial⟩ (ha.mono (by decide)) (hx.mono (by decide)) ga gx) il_nil))
    ol_nil (by kernel_rfl) Tryz.func29 (by kernel_rfl) ⟨(row_isL (xs := xpoAppX a x) (ks := [0, 1, 2, 3, 4, 5, 6]) (vs := [a.rot.w, a.rot.x, a.rot.y, a.rot.z, a.pos.x, a.pos.y, a.pos.z]) ⟨rfl, rfl, rfl, rfl, rfl, rfl, rfl, trivial⟩).2 ia, ⟨(row_isL (xs := xpoAppX a x) (ks := [7, 8, 9]) (vs := [x.x, x.y, x.z]) ⟨rfl, rfl, rfl, trivial⟩).2 ix, trivial⟩⟩).mono ?_
  rintro e w' ⟨v, rfl, h1, h2⟩
  exact ⟨v, rfl, (row_isL (xs := xpoAppX a x) (ks := [10, 11, 12]) (vs := [(a.app x).x, (a.app x).y, (a.app x).z]) ⟨rfl, rfl, rfl, trivial⟩).1 h1, h2⟩
theorem I_poApp {xs : List Fq} {ys : Rho} {ka : List Nat} {kx : List Nat} {a : Pq} {x : Vq} {kr : List Nat} (aa : AtL xs ka [a.rot.w, a.rot.x, a.rot.y, a.rot.z, a.pos.x, a.pos.y, a.pos.z]) (ax : AtL xs kx [x.x, x.y, x.z]) (ar : AtL xs kr [(a.app x).x, (a.app x).y, (a.app x).z]) (ha : a.ok 100000) (hx : x.ok 100000) (ga : a.good) (gx : x.good) : OkI xs ys ⟨29, [row ka, row kx], .v (row kr)⟩ :=
  ⟨enters Tryz.func29 rfl rfl, fun B w vs hB h => by
    match vs, h with
    | [va, vx], h =>
      refine (q_poApp va vx a x w ((row_isL aa).1 h.1) ((row_isL ax).1 h.2.1) ha hx ga gx).mono ?_
      rintro e w' ⟨v, rfl, h1, h2⟩
      exact ⟨v, rfl, (row_isL ar).2 h1, h2⟩⟩
def xpoMulX (a : Pq) (b : Pq) : List Fq := [a.rot.w, a.rot.x, a.rot.y, a.rot.z, a.pos.x, a.pos.y, a.pos.z, b.rot.w, b.rot.x, b.rot.y, b.rot.z, b.pos.x, b.pos.y, b.pos.z, (a.rot.mul b.rot).w, (a.rot.mul b.rot).x, (a.rot.mul b.rot).y, (a.rot.mul b.rot).z, (a.app b.pos).x, (a.app b.pos).y, (a.app b.pos).z]
theorem q_poMul (va vb : Value) (a : Pq) (b : Pq) (w : World) (ia : IsOq w va a) (ib : IsOq w vb b) (ha : a.ok 100000) (hb : b.ok 100000) (ga : a.good) (gb : b.good) :
    Calls Tryz.prog 25 #[va, vb] w fun e w' => RetOq w (a.mul b) e w' := by
  refine (calls_runFn (ρ := frs (xpoMulX a b) ++ []) (w := w) (fuel := 300) (args := [row [0, 1, 2, 3, 4, 5, 6], row [7, 8, 9, 10, 11, 12, 13]]) (vs := [va, vb]) (r := .v (row [14, 15, 16, 17, 18, 19, 20]))
    (il_cons (I_fMulT (kp := [0, 1, 2, 3]) (p := a.rot) (kq := [7, 8, 9, 10]) (q := b.rot) (kr := [14, 15, 16, 17]) ⟨rfl, rfl, rfl, rfl, trivial⟩ ⟨rfl, rfl, rfl, rfl, trivial⟩ ⟨rfl, rfl, rfl, rfl, trivial⟩ (ha.rot.mono (by decide)) (hb.rot.mono (by decide)) ga.rot gb.rot) (il_cons (I_poOf (ka := [0, 1, 2, 3, 4, 5, 6]) (a := a) (kr := [0, 1, 2, 3, 4, 5, 6]) ⟨rfl, rfl, rfl, rfl, rfl, rfl, rfl, trivial⟩ ⟨rfl, rfl, rfl, rfl, rfl, rfl, rfl, trivial⟩ (ha.mono (by decide))) (il_cons (I_poImg (ka := [0, 1, 2, 3, 4, 5, 6]) (a := a) (kx := [11, 12, 13]) (x := b.pos) (kr := [18, 19, 20]) ⟨rfl, rfl, rfl, rfl, rfl, rfl, rfl, trivial⟩ ⟨rfl, rfl, rfl, trivial⟩ ⟨rfl, rfl, rfl, trivial⟩ (ha.mono (by decide)) (hb.pos.mono (by decide)) ga gb.pos) (il_cons (I_poPose (ka := [14, 15, 16, 17, 18, 19, 20]) (a := (Pq.mk (a.rot.mul b.rot) (a.app b.pos))) (kr := [14, 15, 16, 17, 18, 19, 20]) ⟨rfl, rfl, rfl, rfl, rfl, rfl, rfl, trivial⟩ ⟨rfl, rfl, rfl, rfl, rfl, rfl, rfl, trivial⟩ (⟨⟨(ha.rot.mulg hb.rot ga.rot gb.rot).w.mono (by decide), (ha.rot.mulg hb.rot ga.rot gb.rot).x.mono (by decide), (ha.rot.mulg hb.rot ga.rot gb.rot).y.mono (by decide), (ha.rot.mulg hb.rot ga.rot gb.rot).z.mono (by decide)⟩, ⟨(ha.app hb.pos ga).x.mono (by decide), (ha.app hb.pos ga).y.mono (by decide), (ha.app hb.pos ga).z.mono (by decide)⟩⟩ : Pq.ok 1000000000 (Pq.mk (a.rot.mul b.rot) (a.app b.pos)))) il_nil))))
    ol_nil (by kernel_rfl) Tryz.func25 (by kernel_rfl) ⟨(row_isL (xs := xpoMulX a b) (ks := [0, 1, 2, 3, 4, 5, 6]) (vs := [a.rot.w, a.rot.x, a.rot.y, a.rot.z, a.pos.x, a.pos.y, a.pos.z]) ⟨rfl, rfl, rfl, rfl, rfl, rfl, rfl, trivial⟩).2 ia, ⟨(row_isL (xs := xpoMulX a b) (ks := [7, 8, 9, 10, 11, 12, 13]) (vs := [b.rot.w, b.rot.x, b.rot.y, b.rot.z, b.pos.x, b.pos.y, b.pos.z]) ⟨rfl, rfl, rfl, rfl, rfl, rfl, rfl, trivial⟩).2 ib, trivial⟩⟩).mono ?_
  rintro e w' ⟨v, rfl, h1, h2⟩
  exact ⟨v, rfl, (row_isL (xs := xpoMulX a b) (ks := [14, 15, 16, 17, 18, 19, 20]) (vs := [(a.rot.mul b.rot).w, (a.rot.mul b.rot).x, (a.rot.mul b.rot).y, (a.rot.mul b.rot).z, (a.app b.pos).x, (a.app b.pos).y, (a.app b.pos).z]) ⟨rfl, rfl, rfl, rfl, rfl, rfl, rfl, trivial⟩).1 h1, h2⟩
theorem I_poMul {xs : List Fq} {ys : Rho} {ka : List Nat} {kb : List Nat} {a : Pq} {b : Pq} {kr : List Nat} (aa : AtL xs ka [a.rot.w, a.rot.x, a.rot.y, a.rot.z, a.pos.x, a.pos.y, a.pos.z]) (ab : AtL xs kb [b.rot.w, b.rot.x, b.rot.y, b.rot.z, b.pos.x, b.pos.y, b.pos.z]) (ar : AtL xs kr [(a.mul b).rot.w, (a.mul b).rot.x, (a.mul b).rot.y, (a.mul b).rot.z, (a.mul b).pos.x, (a.mul b).pos.y, (a.mul b).pos.z]) (ha : a.ok 100000) (hb : b.ok 100000) (ga : a.good) (gb : b.good) : OkI xs ys ⟨25, [row ka, row kb], .v (row kr)⟩ :=
  ⟨enters Tryz.func25 rfl rfl, fun B w vs hB h => by
    match vs, h with
    | [va, vb], h =>
      refine (q_poMul va vb a b w ((row_isL aa).1 h.1) ((row_isL ab).1 h.2.1) ha hb ga gb).mono ?_
      rintro e w' ⟨v, rfl, h1, h2⟩
      exact ⟨v, rfl, (row_isL ar).2 h1, h2⟩⟩
def xpoInvX (a : Pq) : List Fq := [a.rot.w, a.rot.x, a.rot.y, a.rot.z, a.pos.x, a.pos.y, a.pos.z, a.rot.inv.w, a.rot.inv.x, a.rot.inv.y, a.rot.inv.z, (Fq.ofInt (-1)), (a.pos.scale (Fq.ofInt (-1))).x, (a.pos.scale (Fq.ofInt (-1))).y, (a.pos.scale (Fq.ofInt (-1))).z, (a.rot.inv.app (a.pos.scale (Fq.ofInt (-1)))).x, (a.rot.inv.app (a.pos.scale (Fq.ofInt (-1)))).y, (a.rot.inv.app (a.pos.scale (Fq.ofInt (-1)))).z]
theorem q_poInv (va : Value) (a : Pq) (w : World) (ia : IsOq w va a) (ha : a.ok 100000) (ga : a.good) :
    Calls Tryz.prog 26 #[va] w fun e w' => RetOq w a.inv e w' := by
  refine (calls_runFn (ρ := frs (xpoInvX a) ++ []) (w := w) (fuel := 300) (args := [row [0, 1, 2, 3, 4, 5, 6]]) (vs := [va]) (r := .v (row [7, 8, 9, 10, 15, 16, 17]))
    (il_cons (I_poOf (ka := [0, 1, 2, 3, 4, 5, 6]) (a := a) (kr := [0, 1, 2, 3, 4, 5, 6]) ⟨rfl, rfl, rfl, rfl, rfl, rfl, rfl, trivial⟩ ⟨rfl, rfl, rfl, rfl, rfl, rfl, rfl, trivial⟩ (ha.mono (by decide))) (il_cons (I_poBack (kq := [0, 1, 2, 3]) (q := a.rot) (kr := [7, 8, 9, 10]) ⟨rfl, rfl, rfl, rfl, trivial⟩ ⟨rfl, rfl, rfl, rfl, trivial⟩ (ha.rot.mono (by decide)) ga.rot) (il_cons (I_fInt (k := 11) rfl (by decide) (by decide)) (il_cons (I_vScale (ka := [4, 5, 6]) (a := a.pos) (ik := 11) (kr := [12, 13, 14]) ⟨rfl, rfl, rfl, trivial⟩ rfl ⟨rfl, rfl, rfl, trivial⟩ (ha.pos.mono (by decide)) ((ok_int (u := -1) (by decide) (by decide)).mono (by decide))) (il_cons (I_poRot (kq := [7, 8, 9, 10]) (q := a.rot.inv) (ka := [12, 13, 14]) (a := (a.pos.scale (Fq.ofInt (-1)))) (kr := [15, 16, 17]) ⟨rfl, rfl, rfl, rfl, trivial⟩ ⟨rfl, rfl, rfl, trivial⟩ ⟨rfl, rfl, rfl, trivial⟩ ((ha.rot.inv ga.rot).mono (by decide)) ((ha.pos.scale (ok_int (u := -1) (by decide) (by decide))).mono (by decide)) (inv_good ga.rot)) (il_cons (I_poPose (ka := [7, 8, 9, 10, 15, 16, 17]) (a := (Pq.mk a.rot.inv (a.rot.inv.app (a.pos.scale (Fq.ofInt (-1)))))) (kr := [7, 8, 9, 10, 15, 16, 17]) ⟨rfl, rfl, rfl, rfl, rfl, rfl, rfl, trivial⟩ ⟨rfl, rfl, rfl, rfl, rfl, rfl, rfl, trivial⟩ (⟨⟨(ha.rot.inv ga.rot).w.mono (by decide), (ha.rot.inv ga.rot).x.mono (by decide), (ha.rot.inv ga.rot).y.mono (by decide), (ha.rot.inv ga.rot).z.mono (by decide)⟩, ⟨((ha.rot.inv ga.rot).app (ha.pos.scale (ok_int (u := -1) (by decide) (by decide))) (inv_good ga.rot)).x.mono (by decide), ((ha.rot.inv ga.rot).app (ha.pos.scale (ok_int (u := -1) (by decide) (by decide))) (inv_good ga.rot)).y.mono (by decide), ((ha.rot.inv ga.rot).app (ha.pos.scale (ok_int (u := -1) (by decide) (by decide))) (inv_good ga.rot)).z.mono (by decide)⟩⟩ : Pq.ok 1000000000 (Pq.mk a.rot.inv (a.rot.inv.app (a.pos.scale (Fq.ofInt (-1))))))) il_nil))))))
    ol_nil (by kernel_rfl) Tryz.func26 (by kernel_rfl) ⟨(row_isL (xs := xpoInvX a) (ks := [0, 1, 2, 3, 4, 5, 6]) (vs := [a.rot.w, a.rot.x, a.rot.y, a.rot.z, a.pos.x, a.pos.y, a.pos.z]) ⟨rfl, rfl, rfl, rfl, rfl, rfl, rfl, trivial⟩).2 ia, trivial⟩).mono ?_
  rintro e w' ⟨v, rfl, h1, h2⟩
  exact ⟨v, rfl, (row_isL (xs := xpoInvX a) (ks := [7, 8, 9, 10, 15, 16, 17]) (vs := [a.rot.inv.w, a.rot.inv.x, a.rot.inv.y, a.rot.inv.z, (a.rot.inv.app (a.pos.scale (Fq.ofInt (-1)))).x, (a.rot.inv.app (a.pos.scale (Fq.ofInt (-1)))).y, (a.rot.inv.app (a.pos.scale (Fq.ofInt (-1)))).z]) ⟨rfl, rfl, rfl, rfl, rfl, rfl, rfl, trivial⟩).1 h1, h2⟩
theorem I_poInv {xs : List Fq} {ys : Rho} {ka : List Nat} {a : Pq} {kr : List Nat} (aa : AtL xs ka [a.rot.w, a.rot.x, a.rot.y, a.rot.z, a.pos.x, a.pos.y, a.pos.z]) (ar : AtL xs kr [a.inv.rot.w, a.inv.rot.x, a.inv.rot.y, a.inv.rot.z, a.inv.pos.x, a.inv.pos.y, a.inv.pos.z]) (ha : a.ok 100000) (ga : a.good) : OkI xs ys ⟨26, [row ka], .v (row kr)⟩ :=
  ⟨enters Tryz.func26 rfl rfl, fun B w vs hB h => by
    match vs, h with
    | [va], h =>
      refine (q_poInv va a w ((row_isL aa).1 h.1) ha ga).mono ?_
      rintro e w' ⟨v, rfl, h1, h2⟩
      exact ⟨v, rfl, (row_isL ar).2 h1, h2⟩⟩
def xpoEqual1X (a : Pq) (b : Pq) : List Fq := [a.rot.w, a.rot.x, a.rot.y, a.rot.z, a.pos.x, a.pos.y, a.pos.z, b.rot.w, b.rot.x, b.rot.y, b.rot.z, b.pos.x, b.pos.y, b.pos.z]
theorem q_poEqual1 (va vb : Value) (a : Pq) (b : Pq) (w : World) (ia : IsOq w va a) (ib : IsOq w vb b) (ha : a.ok 100000000) (hb : b.ok 100000000) (e0 : a = b) (ga : a.good) (gb : b.good) :
    Calls Tryz.prog 27 #[va, vb] w fun e w' => RetV w (.bool true) e w' := by
  refine (calls_runFn (ρ := frs (xpoEqual1X a b) ++ []) (w := w) (fuel := 300) (args := [row [0, 1, 2, 3, 4, 5, 6], row [7, 8, 9, 10, 11, 12, 13]]) (vs := [va, vb]) (r := .v (.one (.b true)))
    (il_cons (I_fEqual1 (ka := [0, 1, 2, 3]) (a := a.rot) (kb := [7, 8, 9, 10]) (b := b.rot) ⟨rfl, rfl, rfl, rfl, trivial⟩ ⟨rfl, rfl, rfl, rfl, trivial⟩ (ha.rot.mono (by decide)) (hb.rot.mono (by decide)) (congrArg Pq.rot e0) ga.rot.comp gb.rot.comp) (il_cons (I_vEqual1 (ka := [4, 5, 6]) (a := a.pos) (kb := [11, 12, 13]) (b := b.pos) ⟨rfl, rfl, rfl, trivial⟩ ⟨rfl, rfl, rfl, trivial⟩ (ha.pos.mono (by decide)) (hb.pos.mono (by decide)) (congrArg Pq.pos e0) ga.pos gb.pos) il_nil))
    ol_nil (by kernel_rfl) Tryz.func27 (by kernel_rfl) ⟨(row_isL (xs := xpoEqual1X a b) (ks := [0, 1, 2, 3, 4, 5, 6]) (vs := [a.rot.w, a.rot.x, a.rot.y, a.rot.z, a.pos.x, a.pos.y, a.pos.z]) ⟨rfl, rfl, rfl, rfl, rfl, rfl, rfl, trivial⟩).2 ia, ⟨(row_isL (xs := xpoEqual1X a b) (ks := [7, 8, 9, 10, 11, 12, 13]) (vs := [b.rot.w, b.rot.x, b.rot.y, b.rot.z, b.pos.x, b.pos.y, b.pos.z]) ⟨rfl, rfl, rfl, rfl, rfl, rfl, rfl, trivial⟩).2 ib, trivial⟩⟩).mono ?_
  rintro e w' ⟨v, rfl, h1, h2⟩
  exact ⟨congrArg Ending.returned h1, h2⟩
theorem I_poEqual1 {xs : List Fq} {ys : Rho} {ka : List Nat} {kb : List Nat} {a : Pq} {b : Pq}  (aa : AtL xs ka [a.rot.w, a.rot.x, a.rot.y, a.rot.z, a.pos.x, a.pos.y, a.pos.z]) (ab : AtL xs kb [b.rot.w, b.rot.x, b.rot.y, b.rot.z, b.pos.x, b.pos.y, b.pos.z])  (ha : a.ok 100000000) (hb : b.ok 100000000) (e0 : a = b) (ga : a.good) (gb : b.good) : OkI xs ys ⟨27, [row ka, row kb], .v (.one (.b true))⟩ :=
  ⟨enters Tryz.func27 rfl rfl, fun B w vs hB h => by
    match vs, h with
    | [va, vb], h =>
      refine (q_poEqual1 va vb a b w ((row_isL aa).1 h.1) ((row_isL ab).1 h.2.1) ha hb e0 ga gb).mono ?_
      rintro e w' ⟨rfl, h2⟩
      exact ⟨_, rfl, rfl, h2⟩⟩
end Go.Proofs.YthebfmlfgfmlnaaGreatDoor
namespace Go.Proofs.YthebfmlfgfmlnaaGreatDoor
set_option linter.unusedSimpArgs false
set_option linter.unusedVariables false
set_option maxRecDepth 100000
open Go.RowKit
theorem oneCell_flat {v : Value} (h : Flat v) : v.oneCell' = true := by
  cases v with
  | agg cs => exact absurd rfl (h.1 cs)
  | tuple vs => exact absurd rfl (h.2.1 vs)
  | _ => rfl
/-- What the cells of a list are. -/
def CellsAre (w : World) (qs : List Vp) (xs : List Value) : Prop := xs.length = qs.length ∧ ∀ (j : Nat) (q : Vp), qs[j]? = some q → ∃ u, xs[j]? = some u ∧ q.p w u ∧ ∀ g, ¬ q.fp u g
theorem CellsAre.append {w : World} {qs qs' : List Vp} {xs xs' : List Value} (h : CellsAre w qs xs) (h' : CellsAre w qs' xs') : CellsAre w (qs ++ qs') (xs ++ xs') := by
  refine ⟨by simp [h.1, h'.1], fun j q hj => ?_⟩
  by_cases hl : j < qs.length
  · rw [List.getElem?_append_left hl] at hj
    obtain ⟨u, h1, h2⟩ := h.2 j q hj
    exact ⟨u, by rw [List.getElem?_append_left (by rw [h.1]; exact hl)]; exact h1, h2⟩
  · rw [List.getElem?_append_right (by omega)] at hj
    obtain ⟨u, h1, h2⟩ := h'.2 _ q hj
    exact ⟨u, by rw [List.getElem?_append_right (by rw [h.1]; omega), h.1]; exact h1, h2⟩
theorem CellsAre.chg {w w' : World} {X : Nat → Prop} {qs : List Vp} {xs : List Value} (h : CellsAre w qs xs) (k : Chg w w' X) : CellsAre w' qs xs :=
  ⟨h.1, fun j q hj => by
    obtain ⟨u, h1, h2, h3⟩ := h.2 j q hj
    exact ⟨u, h1, q.ch w w' X u h2 k (fun g hg => absurd hg (h3 g)), h3⟩⟩
theorem CellsAre.flat {w : World} {qs : List Vp} {xs : List Value} (h : CellsAre w qs xs) : ∀ u ∈ xs, Flat u := fun u hu => by
  obtain ⟨j, hj, rfl⟩ := List.getElem_of_mem hu
  have hq : j < qs.length := by rw [← h.1]; exact hj
  obtain ⟨u', h1, h2, _⟩ := h.2 j _ (List.getElem?_eq_getElem hq)
  rw [List.getElem?_eq_getElem hj] at h1
  injection h1 with h1
  rw [h1]
  exact qs[j].fl w u' h2
/-- No digit lies in such a cell. -/
def noU (u : Value) : Prop := ∀ n, u ≠ .int .u32 n
/-- A row that the call itself made; no digit lies in its block. -/
def OwnRow (w : World) (T : TypeId) (sz : Nat) (v : Value) (L : Nat) (xs : List Value) : Prop := w.ownsRow 0 T sz v L xs ∧ ∀ g, v.ownBlock = some g → Own w g
theorem own_of {w : World} {g : Nat} {cs : Array Value} {t : TypeId} (h : w.heap[g]? = some (.cells cs t (0, 0))) (hc : ∀ u ∈ cs.toList, noU u) : Own w g :=
  ⟨cs, t, h, fun k n hk => hc (.int .u32 n) (by rw [← Array.getElem?_toList] at hk; exact List.mem_of_getElem? hk) n rfl⟩
theorem own_cells {w : World} {g : Nat} {cs : Array Value} {t : TypeId} {fz : Nat × Nat} (h : w.heap[g]? = some (.cells cs t fz)) (o : Own w g) : ∀ u ∈ cs.toList, noU u := fun u hu n e => by
  obtain ⟨cs', t', h1, h2⟩ := o
  rw [h] at h1
  injection h1 with h1; injection h1 with h1 _ _; subst h1
  obtain ⟨k, hk⟩ := List.getElem?_of_mem hu
  rw [Array.getElem?_toList, e] at hk
  exact h2 k n hk
theorem zero_noU {z : Array Value} (hz : ∀ u ∈ z.toList, noU u) (h0 : 0 < z.size) (n : Nat) : ∀ u ∈ (Builtin.zeroCells z n).toList, noU u := fun u hu => by
  unfold Builtin.zeroCells at hu
  simp only [Array.toList_map, Array.toList_range, List.mem_map] at hu
  obtain ⟨i, _, rfl⟩ := hu
  have hk : i % z.size < z.size := Nat.mod_lt _ h0
  rw [getElem!_pos z _ hk]
  exact hz _ (by simp)
theorem run_app {p : Program} {w : World} {t ty e : TypeId} {i : TypeInfo} {z : Value} (ht : p.underlying t = some (.slice e)) (hi : p.info? e = some i) (hz : i.zero = some z) (hzs : z.cells.size = i.size) (hsz : 0 < i.size) (hzu : ∀ u ∈ z.cells.toList, noU u)
    {v : Value} {n : Nat} {xs : List Value} (ho : OwnRow w e i.size v n xs) {a : Addr} {m c : Nat} {news : List Value} (hl : news.length = m * i.size) (hnews : ∀ j u, news[j]? = some u → w.cell? (a.add j) = some u) (h1 : ∀ u ∈ news, u.oneCell' = true) (hnu : ∀ u ∈ news, noU u)
    (hm : 0 < m) (hb : (n + m) * i.bytes ≤ 140737488355328) (hn : n + m ≤ 1000000000000000) :
    ∃ v' w', (Builtin.append_ #[t, t] ty #[v, .slice (some a) m c]).run p w = .ok v' w' ∧ w.grownBy w' v.ownBlock ∧ (∀ g, v'.ownBlock = some g → v.ownBlock = some g ∨ w.heap.size ≤ g) ∧ OwnRow w' e i.size v' (n + m) (xs ++ news) := by
  obtain ⟨hown, hOwn⟩ := ho
  have hlen : (xs ++ news).length = (n + m) * i.size := by rw [List.length_append, hown.1, hl, Nat.add_mul]
  have hmax : n + m ≤ maxLen := by simp only [maxLen]; omega
  -- the row moves to a new block
  have moved : ∀ old, (∀ u ∈ xs, noU u) →
      w.grownBy (w.drew.alloc (.cells (xs.toArray ++ news.toArray ++ Builtin.zeroCells z.cells (grownCap w (n + m) old e - (n + m))) e)) v.ownBlock ∧
      OwnRow (w.drew.alloc (.cells (xs.toArray ++ news.toArray ++ Builtin.zeroCells z.cells (grownCap w (n + m) old e - (n + m))) e)) e i.size (.slice (some ⟨w.heap.size, 0, none⟩) (n + m) (grownCap w (n + m) old e)) (n + m) (xs ++ news) := by
    intro old hxu
    have h2 := grownCap_ge w (n + m) old e
    have hnew := heap_alloc_new w.drew (.cells (xs.toArray ++ news.toArray ++ Builtin.zeroCells z.cells (grownCap w (n + m) old e - (n + m))) e)
    refine ⟨⟨rfl, rfl, rfl, by simp, fun k hk _ => heap_alloc_old w.drew _ hk⟩, ⟨hlen, .inr ⟨w.heap.size, _, _, rfl, Nat.zero_le _, hnew, h2, grownCap_le_maxLen w (n + m) old e hmax, ?_, ?_⟩⟩, fun g hg => ?_⟩
    · simp only [Array.size_append, List.size_toArray, size_zeroCells, hzs, hown.1, hl]
      rw [← Nat.add_mul, ← Nat.add_mul]
      congr 1; omega
    · simp only [Array.toList_append, List.append_assoc]
      rw [← List.append_assoc, ← hlen]
      exact List.take_left
    · injection hg with hg; subst hg
      refine own_of hnew (fun u hu => ?_)
      simp only [Array.toList_append, List.mem_append] at hu
      rcases hu with (hu | hu) | hu
      · exact hxu u hu
      · exact hnu u hu
      · exact zero_noU hzu (by omega) _ u hu
  rcases hown.2 with ⟨rfl, rfl⟩ | ⟨g, cap, cur, rfl, hbg, hg, hnc, hcm, hcs, htake⟩
  · have hx : xs = [] := List.eq_nil_of_length_eq_zero (by simpa using hown.1)
    subst hx
    have hr := run_append_nil (P := p) w t ty e i z ht hi hz a m c news hl hnews (by omega) (by omega) (by have := hb; simp only [Nat.zero_add] at this; omega)
    have h2 := moved 0 (fun u hu => by cases hu)
    simp only [Nat.zero_add, List.nil_append, Array.empty_append] at h2 ⊢
    exact ⟨_, _, hr, h2.1, fun g hg => .inr (by have h : w.heap.size = g := Option.some.inj hg; omega), h2.2⟩
  · have hcu := own_cells hg (hOwn g rfl)
    by_cases hroom : n + m ≤ cap
    · have hfit : n * i.size + news.length ≤ cur.size := by rw [hl, hcs, ← Nat.add_mul]; exact Nat.mul_le_mul_right _ hroom
      have hr := run_append_room (P := p) w t ty e i ht hi g n cap cur hg a m c news hl hnews h1 hroom hfit
      have hset := setRow_heap w g cur (cur.toList.take (n * i.size) ++ news ++ cur.toList.drop (n * i.size + news.length)).toArray e (0, 0) hg
      refine ⟨_, _, hr, ⟨rfl, rfl, rfl, by simp, fun k _ hk => setRow_other w g k _ (fun e => hk (by simp [Value.ownBlock, e]))⟩, fun g' hg' => .inl hg', ⟨hlen, .inr ⟨g, cap, _, rfl, hbg, hset, hroom, hcm, ?_, ?_⟩⟩, fun g' hg' => ?_⟩
      · simp only [List.size_toArray, List.length_append, List.length_take, List.length_drop, Array.length_toList]
        omega
      · rw [htake, ← hlen]
        exact List.take_left
      · injection hg' with hg'; subst hg'
        refine own_of hset (fun u hu => ?_)
        simp only [List.mem_append] at hu
        rcases hu with (hu | hu) | hu
        · exact hcu u (List.mem_of_mem_take hu)
        · exact hnu u hu
        · exact hcu u (List.mem_of_mem_drop hu)
    · have holds : ∀ j u, xs[j]? = some u → w.cell? ((⟨g, 0, none⟩ : Addr).add j) = some u := hown.cells (g := g) rfl
      have hr := run_append_grow (P := p) w t ty e i z ht hi hz ⟨g, 0, none⟩ n cap xs hown.1 holds a m c news hl hnews (by omega) (by omega) (growslice_fits (by omega) hb)
      have h2 := moved cap (fun u hu => hcu u (by rw [← htake] at hu; exact List.mem_of_mem_take hu))
      exact ⟨_, _, hr, h2.1, fun g' hg' => .inr (by have h : w.heap.size = g' := Option.some.inj hg'; omega), h2.2⟩
/-- A row that the call itself made: L parts of type T, sz cells each. -/
def Vp.ownr (T : TypeId) (sz L : Nat) (qs : List Vp) : Vp := ⟨fun w v => ∃ xs, OwnRow w T sz v L xs ∧ CellsAre w qs xs,
  fun v g => v.ownBlock = some g,
  fun w w' X v ⟨xs, ⟨⟨h1, h2⟩, h0⟩, k⟩ hc hX => by
    have hsame : ∀ g, v.ownBlock = some g → w'.heap[g]? = w.heap[g]? := fun g hg => hc.blk g (by obtain ⟨cs, t, h, _⟩ := h0 g hg; exact (Array.getElem?_eq_some_iff.1 h).1) (hX g hg)
    refine ⟨xs, ⟨⟨h1, h2.imp id fun ⟨g, cap, cur, e, hb, hg, hr⟩ => ⟨g, cap, cur, e, hb, by rw [hsame g (by rw [e]; rfl)]; exact hg, hr⟩⟩, fun g hg => ?_⟩, k.chg hc⟩
    obtain ⟨cs, t, h3, h4⟩ := h0 g hg
    exact ⟨cs, t, by rw [hsame g hg]; exact h3, h4⟩,
  fun w v g ⟨xs, ⟨_, h0⟩, _⟩ hg => by obtain ⟨cs, t, h, _⟩ := h0 g hg; exact (Array.getElem?_eq_some_iff.1 h).1,
  fun w v ⟨xs, ⟨⟨_, h⟩, _⟩, _⟩ => by
    rcases h with ⟨rfl, _⟩ | ⟨g', cap, cur, rfl, _⟩ <;> exact flat_slice⟩
section
variable {ρ : Rho} {n m r k i L M : Nat} {t T : TypeId} {qs qs' : List Vp} {z : Value} {ti : TypeInfo} {l : Leaf}
theorem row_news {w : World} {x : Value} (hx : (Vp.row T M qs').p w x) (h0 : qs' ≠ []) : ∃ a c news, x = .slice (some a) M c ∧ CellsAre w qs' news ∧ (∀ j u, news[j]? = some u → w.cell? (a.add j) = some u) := by
  rcases hx with ⟨h, _⟩ | ⟨b, o, c, cs, rfl, hc, hb, hq⟩
  · exact absurd h h0
  · have : ∃ news : List Value, CellsAre w qs' news ∧ ∀ j u, news[j]? = some u → cs[o + j]? = some u := by
      clear h0 hc hb
      induction qs' generalizing o with
      | nil => exact ⟨[], ⟨rfl, fun j q h => by simp at h⟩, fun j u h => by simp at h⟩
      | cons q qs ih =>
        obtain ⟨u, h1, h2, h3⟩ := hq 0 q rfl
        obtain ⟨news, h4, h5⟩ := ih (o + 1) (fun j q hj => by
          obtain ⟨u, h1, h2⟩ := hq (j + 1) q (by simpa using hj)
          exact ⟨u, by rw [show o + 1 + j = o + (j + 1) from by omega]; exact h1, h2⟩)
        refine ⟨u :: news, ⟨by simp [h4.1], fun j q' hj => ?_⟩, fun j u' hj => ?_⟩
        · match j with
          | 0 => simp at hj; subst hj; exact ⟨u, rfl, h2, h3⟩
          | j + 1 => obtain ⟨u', k1, k2⟩ := h4.2 j q' (by simpa using hj); exact ⟨u', by simpa using k1, k2⟩
        · match j with
          | 0 => simp at hj; subst hj; exact h1
          | j + 1 => have := h5 j u' (by simpa using hj); rwa [show o + 1 + j = o + (j + 1) from by omega] at this
    obtain ⟨news, h1, h2⟩ := this
    exact ⟨⟨b, o, none⟩, c, news, rfl, h1, fun j u hj => by rw [add_off, cell_at hb]; exact h2 j u hj⟩
/-- What a leaf says of the row before the append. -/
def BefO (ρ : Rho) (i : Nat) (T : TypeId) (sz L : Nat) (qs : List Vp) (l : Leaf) : Prop := (l = .sl0 ∧ L = 0 ∧ qs = []) ∨ ∃ n, l = .own i n ∧ ρ[n]? = some (.ownr T sz L qs)
theorem o_app (ht : Tryz.prog.underlying t = some (.slice T)) (hi : Tryz.prog.info? T = some ti) (hz : ti.zero = some z) (hzs : z.cells.size = ti.size) (hsz : 0 < ti.size) (hzu : ∀ u ∈ z.cells.toList, noU u)
    (hl : BefO ρ i T ti.size L qs l) (hr : ρ[r]? = some (.row T M qs')) (hm : ρ[m]? = some (.ownr T ti.size (L + M) (qs ++ qs'))) (hq : qs'.length = M * ti.size) (hM : 0 < M) (hb : (L + M) * ti.bytes ≤ 140737488355328) (hn : L + M ≤ 1000000000000000) :
    (OIns.mk (.app t) [.one l, .one (.ref r)] (.one (.own i m))).Ok Tryz.prog ρ := fun B w vs hv => by
  match vs, hv with
  | [v1, v2], hv =>
    have h1 : ∃ xs, OwnRow w T ti.size v1 L xs ∧ CellsAre w qs xs := by
      rcases hl with ⟨rfl, rfl, rfl⟩ | ⟨n, rfl, hn⟩
      · have e : v1 = .slice none 0 0 := hv.1
        subst e
        exact ⟨[], ⟨World.ownsRow_nil _ _ _ _, fun g hg => by cases hg⟩, rfl, fun j q h => by simp at h⟩
      · obtain ⟨s, k1, k2, _⟩ := hv.1
        rw [hn] at k1; injection k1 with k1; subst k1
        exact k2
    obtain ⟨xs, hox, hcx⟩ := h1
    obtain ⟨s, k1, k2, _⟩ := hv.2.1
    rw [hr] at k1; injection k1 with k1; subst k1
    have hq0 : qs' ≠ [] := fun e => by subst e; simp at hq; have := Nat.mul_pos hM hsz; omega
    obtain ⟨a, c, news, rfl, hcn, hcell⟩ := row_news k2 hq0
    intro ty
    obtain ⟨v', w', hrun, hg, hblk, hown⟩ := run_app (p := Tryz.prog) (ty := ty) (c := c) ht hi hz hzs hsz hzu hox (by rw [hcn.1, hq]) hcell (fun u hu => oneCell_flat (hcn.flat u hu)) (fun u hu => fun n e => (hcn.flat u hu).2.2 n e) hM hb hn
    have hchg : Chg w w' (fun g => v1.ownBlock = some g) := ⟨hg.size, fun g h1 h2 => hg.block g h1 (fun e => h2 e.symm), fun g h => hox.2 g h⟩
    refine ⟨v', w', hrun, hg, fun g hgv => ⟨hblk g hgv, ?_, hown.2 g hgv⟩, _, hm, ⟨xs ++ news, hown, (hcx.append hcn).chg hchg⟩, fun g hgv => hgv⟩
    obtain ⟨cs, t, h, _⟩ := hown.2 g hgv
    exact (Array.getElem?_eq_some_iff.1 h).1
/-- A row that is left is a row like others. -/
theorem ownr_row {w : World} {v : Value} {sz : Nat} (h : (Vp.ownr T sz L qs).p w v) : (Vp.row T L qs).p w v := by
  obtain ⟨xs, ⟨⟨h1, h2⟩, _⟩, h3⟩ := h
  rcases h2 with ⟨rfl, rfl⟩ | ⟨g, cap, cur, rfl, _, hg, hn, _, hcs, htake⟩
  · refine .inl ⟨?_, rfl, rfl⟩
    have : xs.length = 0 := by simpa using h1
    exact List.eq_nil_of_length_eq_zero (by rw [← h3.1]; exact this)
  · refine .inr ⟨g, 0, cap, cur, rfl, hn, hg, fun j q hj => ?_⟩
    obtain ⟨u, k1, k2⟩ := h3.2 j q hj
    refine ⟨u, ?_, k2⟩
    rw [← htake, List.getElem?_take] at k1
    split at k1
    · rw [Nat.zero_add, ← Array.getElem?_toList]; exact k1
    · cases k1
theorem o_frz {sz : Nat} (hn : ρ[n]? = some (.ownr T sz L qs)) (hm : ρ[m]? = some (.row T L qs)) : (OIns.mk (.frz r i) [.one (.ref n)] (.one (.ref m))).Ok Tryz.prog ρ := fun B w vs hv => by
  match vs, hv with
  | [v1], hv =>
    obtain ⟨s, h1, h2, h3⟩ := hv.1
    rw [hn] at h1; injection h1 with h1; subst h1
    exact ⟨_, hm, ownr_row h2, fun g ⟨o, n', c, e⟩ => h3 g (by rw [e]; rfl)⟩
def noUb : Value → Bool
  | .int .u32 _ => false
  | _ => true
/-- What the model knows of a row's parts: their size, their bytes, and that they hold no digits at first. -/
def appB (p : Program) (T : TypeId) (sz bytes : Nat) : Bool := match p.info? T with
  | some ti => (match ti.zero with | some z => z.cells.size == sz && z.cells.toList.all noUb | none => false) && (ti.size == sz && (ti.bytes == bytes && decide (0 < sz)))
  | none => false
theorem o_appK {sz bytes K : Nat} {qs2 : List Vp} (ht : Tryz.prog.underlying t = some (.slice T)) (hB : appB Tryz.prog T sz bytes = true) (hl : BefO ρ i T sz L qs l) (hr : ρ[r]? = some (.row T M qs')) (hm : ρ[m]? = some (.ownr T sz K qs2)) (hK : K = L + M) (h2 : qs2 = qs ++ qs')
    (hq : qs'.length = M * sz) (hM : 0 < M) (hb : (L + M) * bytes ≤ 140737488355328) (hn : L + M ≤ 1000000000000000) : (OIns.mk (.app t) [.one l, .one (.ref r)] (.one (.own i m))).Ok Tryz.prog ρ := by
  unfold appB at hB
  split at hB
  · rename_i ti hi
    simp only [Bool.and_eq_true, beq_iff_eq, decide_eq_true_eq] at hB
    obtain ⟨hz, h3, h4, h5⟩ := hB
    split at hz
    · rename_i z hz'
      simp only [Bool.and_eq_true, beq_iff_eq] at hz
      subst h3; subst h4; subst hK; subst h2
      refine o_app ht hi hz' hz.1 h5 (fun u hu n e => ?_) hl hr hm hq hM hb hn
      have := List.all_eq_true.1 hz.2 u hu
      subst e; exact Bool.noConfusion (show false = true from this)
    · cases hz
  · cases hB
end
end Go.Proofs.YthebfmlfgfmlnaaGreatDoor
namespace Go.Proofs.YthebfmlfgfmlnaaGreatDoor
set_option linter.unusedSimpArgs false
set_option linter.unusedVariables false
set_option maxRecDepth 100000
open Go.RowKit
/-- Texts behind one another, with a space between. -/
def joinB (l : List ByteArray) : ByteArray := ⟨(Lib.join (l.map (·.data.toList)) [32]).toArray⟩
theorem I_Join {xs : List Fq} {ys : Rho} {n : Nat} {ss : List ByteArray} {l : Leaf} (hn : (frs xs ++ ys)[n]? = some (.strs ss)) (hl : ∀ B w, l.holds (frs xs ++ ys) B w (.string (joinB ss))) (h0 : ss ≠ []) (hs : (Lib.join (ss.map (·.data.toList)) [32]).length ≤ 140737488355328) (hN : ss.length ≤ 1000) : OkI xs ys ⟨46, [.one (.ref n), .one (.s (b1 32))], .v (.one l)⟩ :=
  ⟨enters Tryz.func46 rfl rfl, fun B w vs hB h => by
    match vs, h with
    | [va, vb], h =>
      have e2 : vb = .string (b1 32) := h.2.1
      subst e2
      obtain ⟨s, k1, k2, _⟩ := h.1
      rw [hn] at k1; injection k1 with k1; subst k1
      rcases k2 with ⟨h1, _⟩ | ⟨b, o, c, cs, rfl, hc, hb, hq⟩
      · exact absurd (List.map_eq_nil_iff.1 h1) h0
      · refine (Any.strings_Join Tryz.laysJoin Tryz.joinX b o c ss (b1 32) w (fun j x hj => ?_) (Array.getElem?_eq_some_iff.1 hb).1 (by omega) hc hs).mono ?_
        · obtain ⟨u, k3, k4, _⟩ := hq j (.val (.string x)) (by rw [List.getElem?_map, hj]; rfl)
          rw [cell_at hb, k3, k4.1]
        · rintro e w' ⟨rfl, h2⟩
          exact ⟨_, rfl, hl B w', h2⟩⟩
/-- The text of a pose. -/
def Pq.text (a : Pq) : ByteArray := joinB [a.rot.w.fmt, a.rot.x.fmt, a.rot.y.fmt, a.rot.z.fmt, a.pos.x.fmt, a.pos.y.fmt, a.pos.z.fmt]
theorem qfmt_size {x : Fq} {d : Nat} (h : x.ok d) : x.fmt.size ≤ 20 * d + 4 := by
  have h1 := fmt_size x.p
  have h2 := fmt_size x.q
  have h3 := h.p
  have h4 := h.q
  unfold Fq.fmt
  split <;> split <;> (try simp only [ByteArray.size_append, bsz, List.size_toArray, List.length_cons, List.length_nil]) <;> omega
def xpoEncX (a : Pq) : List Fq := [a.rot.w, a.rot.x, a.rot.y, a.rot.z, a.pos.x, a.pos.y, a.pos.z]
theorem q_poEnc (va : Value) (a : Pq) (w : World) (ia : IsOq w va a) (ha : a.ok 1000) : Calls Tryz.prog 14 #[va] w fun e w' => RetV w (.string a.text) e w' := by
  have z0 := qfmt_size (show (a.rot.w).ok 1000 from ha.rot.w)
  have z1 := qfmt_size (show (a.rot.x).ok 1000 from ha.rot.x)
  have z2 := qfmt_size (show (a.rot.y).ok 1000 from ha.rot.y)
  have z3 := qfmt_size (show (a.rot.z).ok 1000 from ha.rot.z)
  have z4 := qfmt_size (show (a.pos.x).ok 1000 from ha.pos.x)
  have z5 := qfmt_size (show (a.pos.y).ok 1000 from ha.pos.y)
  have z6 := qfmt_size (show (a.pos.z).ok 1000 from ha.pos.z)
  have hjoin : (Lib.join ([a.rot.w.fmt, a.rot.x.fmt, a.rot.y.fmt, a.rot.z.fmt, a.pos.x.fmt, a.pos.y.fmt, a.pos.z.fmt].map (·.data.toList)) [32]).length ≤ 140737488355328 := by simp only [List.map_cons, List.map_nil, Lib.join, List.intercalate, List.intersperse, List.flatten_cons, List.flatten_nil, List.length_append, List.length_cons, List.length_nil, Array.length_toList]; simp only [ByteArray.size] at *; omega
  refine (calls_runFn (ρ := frs (xpoEncX a) ++ [.row 26 7 [.val (.bool a.rot.w.s), .dig (nl a.rot.w.p) a.rot.w.p, .dig (nl a.rot.w.q) a.rot.w.q, .val (.bool a.rot.x.s), .dig (nl a.rot.x.p) a.rot.x.p, .dig (nl a.rot.x.q) a.rot.x.q, .val (.bool a.rot.y.s), .dig (nl a.rot.y.p) a.rot.y.p, .dig (nl a.rot.y.q) a.rot.y.q, .val (.bool a.rot.z.s), .dig (nl a.rot.z.p) a.rot.z.p, .dig (nl a.rot.z.q) a.rot.z.q, .val (.bool a.pos.x.s), .dig (nl a.pos.x.p) a.pos.x.p, .dig (nl a.pos.x.q) a.pos.x.q, .val (.bool a.pos.y.s), .dig (nl a.pos.y.p) a.pos.y.p, .dig (nl a.pos.y.q) a.pos.y.q, .val (.bool a.pos.z.s), .dig (nl a.pos.z.p) a.pos.z.p, .dig (nl a.pos.z.q) a.pos.z.q], .plc 26 [.val (.bool a.rot.w.s), .dig (nl a.rot.w.p) a.rot.w.p, .dig (nl a.rot.w.q) a.rot.w.q], .val (.string a.rot.w.fmt), .row 9 1 [.val (.string a.rot.w.fmt)], .ownr 9 1 1 [.val (.string a.rot.w.fmt)], .plc 26 [.val (.bool a.rot.x.s), .dig (nl a.rot.x.p) a.rot.x.p, .dig (nl a.rot.x.q) a.rot.x.q], .val (.string a.rot.x.fmt), .row 9 1 [.val (.string a.rot.x.fmt)], .ownr 9 1 2 [.val (.string a.rot.w.fmt), .val (.string a.rot.x.fmt)], .plc 26 [.val (.bool a.rot.y.s), .dig (nl a.rot.y.p) a.rot.y.p, .dig (nl a.rot.y.q) a.rot.y.q], .val (.string a.rot.y.fmt), .row 9 1 [.val (.string a.rot.y.fmt)], .ownr 9 1 3 [.val (.string a.rot.w.fmt), .val (.string a.rot.x.fmt), .val (.string a.rot.y.fmt)], .plc 26 [.val (.bool a.rot.z.s), .dig (nl a.rot.z.p) a.rot.z.p, .dig (nl a.rot.z.q) a.rot.z.q], .val (.string a.rot.z.fmt), .row 9 1 [.val (.string a.rot.z.fmt)], .ownr 9 1 4 [.val (.string a.rot.w.fmt), .val (.string a.rot.x.fmt), .val (.string a.rot.y.fmt), .val (.string a.rot.z.fmt)], .plc 26 [.val (.bool a.pos.x.s), .dig (nl a.pos.x.p) a.pos.x.p, .dig (nl a.pos.x.q) a.pos.x.q], .val (.string a.pos.x.fmt), .row 9 1 [.val (.string a.pos.x.fmt)], .ownr 9 1 5 [.val (.string a.rot.w.fmt), .val (.string a.rot.x.fmt), .val (.string a.rot.y.fmt), .val (.string a.rot.z.fmt), .val (.string a.pos.x.fmt)], .plc 26 [.val (.bool a.pos.y.s), .dig (nl a.pos.y.p) a.pos.y.p, .dig (nl a.pos.y.q) a.pos.y.q], .val (.string a.pos.y.fmt), .row 9 1 [.val (.string a.pos.y.fmt)], .ownr 9 1 6 [.val (.string a.rot.w.fmt), .val (.string a.rot.x.fmt), .val (.string a.rot.y.fmt), .val (.string a.rot.z.fmt), .val (.string a.pos.x.fmt), .val (.string a.pos.y.fmt)], .plc 26 [.val (.bool a.pos.z.s), .dig (nl a.pos.z.p) a.pos.z.p, .dig (nl a.pos.z.q) a.pos.z.q], .val (.string a.pos.z.fmt), .row 9 1 [.val (.string a.pos.z.fmt)], .ownr 9 1 7 [.val (.string a.rot.w.fmt), .val (.string a.rot.x.fmt), .val (.string a.rot.y.fmt), .val (.string a.rot.z.fmt), .val (.string a.pos.x.fmt), .val (.string a.pos.y.fmt), .val (.string a.pos.z.fmt)], .row 9 7 [.val (.string a.rot.w.fmt), .val (.string a.rot.x.fmt), .val (.string a.rot.y.fmt), .val (.string a.rot.z.fmt), .val (.string a.pos.x.fmt), .val (.string a.pos.y.fmt), .val (.string a.pos.z.fmt)], .val (.string (joinB [a.rot.w.fmt, a.rot.x.fmt, a.rot.y.fmt, a.rot.z.fmt, a.pos.x.fmt, a.pos.y.fmt, a.pos.z.fmt]))]) (w := w) (fuel := 300) (args := [row [0, 1, 2, 3, 4, 5, 6]]) (vs := [va]) (r := .v (.one (.ref 51)))
    (il_cons (I_fFormat (i := 0) rfl (ls (n := 23) rfl) (ha.rot.w.mono (by decide))) (il_cons (I_fFormat (i := 1) rfl (ls (n := 27) rfl) (ha.rot.x.mono (by decide))) (il_cons (I_fFormat (i := 2) rfl (ls (n := 31) rfl) (ha.rot.y.mono (by decide))) (il_cons (I_fFormat (i := 3) rfl (ls (n := 35) rfl) (ha.rot.z.mono (by decide))) (il_cons (I_fFormat (i := 4) rfl (ls (n := 39) rfl) (ha.pos.x.mono (by decide))) (il_cons (I_fFormat (i := 5) rfl (ls (n := 43) rfl) (ha.pos.y.mono (by decide))) (il_cons (I_fFormat (i := 6) rfl (ls (n := 47) rfl) (ha.pos.z.mono (by decide))) (il_cons (I_Join (n := 50) (ss := [a.rot.w.fmt, a.rot.x.fmt, a.rot.y.fmt, a.rot.z.fmt, a.pos.x.fmt, a.pos.y.fmt, a.pos.z.fmt]) rfl (ls (n := 51) rfl) (by simp) hjoin (by simp)) il_nil))))))))
    (ol_cons (o_bs (m := 21) (ss := [fr 0, fr 1, fr 2, fr 3, fr 4, fr 5, fr 6]) (N := 7) (sz := 3) (z := [.b false, .sl0, .sl0]) (qs := [.val (.bool a.rot.w.s), .dig (nl a.rot.w.p) a.rot.w.p, .dig (nl a.rot.w.q) a.rot.w.q, .val (.bool a.rot.x.s), .dig (nl a.rot.x.p) a.rot.x.p, .dig (nl a.rot.x.q) a.rot.x.q, .val (.bool a.rot.y.s), .dig (nl a.rot.y.p) a.rot.y.p, .dig (nl a.rot.y.q) a.rot.y.q, .val (.bool a.rot.z.s), .dig (nl a.rot.z.p) a.rot.z.p, .dig (nl a.rot.z.q) a.rot.z.q, .val (.bool a.pos.x.s), .dig (nl a.pos.x.p) a.pos.x.p, .dig (nl a.pos.x.q) a.pos.x.q, .val (.bool a.pos.y.s), .dig (nl a.pos.y.p) a.pos.y.p, .dig (nl a.pos.y.q) a.pos.y.q, .val (.bool a.pos.z.s), .dig (nl a.pos.z.p) a.pos.z.p, .dig (nl a.pos.z.q) a.pos.z.q]) (ix := [0, 1, 2, 3, 4, 5, 6]) (ls := [.ref 0, .ref 1, .ref 2, .ref 3, .ref 4, .ref 5, .ref 6, .ref 7, .ref 8, .ref 9, .ref 10, .ref 11, .ref 12, .ref 13, .ref 14, .ref 15, .ref 16, .ref 17, .ref 18, .ref 19, .ref 20]) Tryz.underlying33 (by kernel_rfl) (by kernel_rfl) (by decide) (by decide) (by decide) rfl (by kernel_rfl) ⟨ql_val rfl, ql_dig rfl, ql_dig rfl, ql_val rfl, ql_dig rfl, ql_dig rfl, ql_val rfl, ql_dig rfl, ql_dig rfl, ql_val rfl, ql_dig rfl, ql_dig rfl, ql_val rfl, ql_dig rfl, ql_dig rfl, ql_val rfl, ql_dig rfl, ql_dig rfl, ql_val rfl, ql_dig rfl, ql_dig rfl, trivial⟩ rfl) (ol_cons (o_lenR (n := 21) (t := 33) ⟨_, Tryz.underlying33⟩ rfl (li rfl)) (ol_cons (o_iaL (k := 0) (l := .i .i64 0) (sz := 3) (qs' := [.val (.bool a.rot.w.s), .dig (nl a.rot.w.p) a.rot.w.p, .dig (nl a.rot.w.q) a.rot.w.q]) (n := 21) (m := 22) Tryz.underlying33 (by kernel_rfl) rfl rfl (fun _ _ _ h => h) (by decide) (by simp) (fun j q hq => by match j, hq with | 0, hq => simp at hq; subst hq; rfl | 1, hq => simp at hq; subst hq; rfl | 2, hq => simp at hq; subst hq; rfl | j + 3, hq => simp at hq)) (ol_cons (o_ldA (n := 22) (T := 26) (qs := [.val (.bool a.rot.w.s), .dig (nl a.rot.w.p) a.rot.w.p, .dig (nl a.rot.w.q) a.rot.w.q]) (ls := [.ref 0, .ref 1, .ref 2]) (t := 26) (by kernel_rfl) (by kernel_rfl) rfl ⟨lq rfl, lq rfl, lq rfl, trivial⟩) (ol_cons (o_bs (m := 24) (ss := [.one (.ref 23)]) (N := 1) (sz := 1) (z := [.s (ByteArray.mk #[])]) (qs := [.val (.string a.rot.w.fmt)]) (ix := [0]) (ls := [.ref 23]) Tryz.underlying64 (by kernel_rfl) (by kernel_rfl) (by decide) (by decide) (by decide) rfl (by kernel_rfl) ⟨ql_val rfl, trivial⟩ rfl) (ol_cons (o_appK (i := 0) (sz := 1) (bytes := 16) (L := 0) (M := 1) (qs := []) (qs' := [.val (.string a.rot.w.fmt)]) (m := 25) (r := 24) (T := 9) Tryz.underlying64 (by kernel_rfl) (.inl ⟨rfl, rfl, rfl⟩) rfl rfl rfl rfl rfl (by decide) (by decide) (by decide)) (ol_cons (o_iaL (k := 1) (l := .i .i64 1) (sz := 3) (qs' := [.val (.bool a.rot.x.s), .dig (nl a.rot.x.p) a.rot.x.p, .dig (nl a.rot.x.q) a.rot.x.q]) (n := 21) (m := 26) Tryz.underlying33 (by kernel_rfl) rfl rfl (fun _ _ _ h => h) (by decide) (by simp) (fun j q hq => by match j, hq with | 0, hq => simp at hq; subst hq; rfl | 1, hq => simp at hq; subst hq; rfl | 2, hq => simp at hq; subst hq; rfl | j + 3, hq => simp at hq)) (ol_cons (o_ldA (n := 26) (T := 26) (qs := [.val (.bool a.rot.x.s), .dig (nl a.rot.x.p) a.rot.x.p, .dig (nl a.rot.x.q) a.rot.x.q]) (ls := [.ref 3, .ref 4, .ref 5]) (t := 26) (by kernel_rfl) (by kernel_rfl) rfl ⟨lq rfl, lq rfl, lq rfl, trivial⟩) (ol_cons (o_bs (m := 28) (ss := [.one (.ref 27)]) (N := 1) (sz := 1) (z := [.s (ByteArray.mk #[])]) (qs := [.val (.string a.rot.x.fmt)]) (ix := [0]) (ls := [.ref 27]) Tryz.underlying64 (by kernel_rfl) (by kernel_rfl) (by decide) (by decide) (by decide) rfl (by kernel_rfl) ⟨ql_val rfl, trivial⟩ rfl) (ol_cons (o_appK (i := 0) (sz := 1) (bytes := 16) (L := 1) (M := 1) (qs := [.val (.string a.rot.w.fmt)]) (qs' := [.val (.string a.rot.x.fmt)]) (m := 29) (r := 28) (T := 9) Tryz.underlying64 (by kernel_rfl) (.inr ⟨25, rfl, rfl⟩) rfl rfl rfl rfl rfl (by decide) (by decide) (by decide)) (ol_cons (o_iaL (k := 2) (l := .i .i64 2) (sz := 3) (qs' := [.val (.bool a.rot.y.s), .dig (nl a.rot.y.p) a.rot.y.p, .dig (nl a.rot.y.q) a.rot.y.q]) (n := 21) (m := 30) Tryz.underlying33 (by kernel_rfl) rfl rfl (fun _ _ _ h => h) (by decide) (by simp) (fun j q hq => by match j, hq with | 0, hq => simp at hq; subst hq; rfl | 1, hq => simp at hq; subst hq; rfl | 2, hq => simp at hq; subst hq; rfl | j + 3, hq => simp at hq)) (ol_cons (o_ldA (n := 30) (T := 26) (qs := [.val (.bool a.rot.y.s), .dig (nl a.rot.y.p) a.rot.y.p, .dig (nl a.rot.y.q) a.rot.y.q]) (ls := [.ref 6, .ref 7, .ref 8]) (t := 26) (by kernel_rfl) (by kernel_rfl) rfl ⟨lq rfl, lq rfl, lq rfl, trivial⟩) (ol_cons (o_bs (m := 32) (ss := [.one (.ref 31)]) (N := 1) (sz := 1) (z := [.s (ByteArray.mk #[])]) (qs := [.val (.string a.rot.y.fmt)]) (ix := [0]) (ls := [.ref 31]) Tryz.underlying64 (by kernel_rfl) (by kernel_rfl) (by decide) (by decide) (by decide) rfl (by kernel_rfl) ⟨ql_val rfl, trivial⟩ rfl) (ol_cons (o_appK (i := 0) (sz := 1) (bytes := 16) (L := 2) (M := 1) (qs := [.val (.string a.rot.w.fmt), .val (.string a.rot.x.fmt)]) (qs' := [.val (.string a.rot.y.fmt)]) (m := 33) (r := 32) (T := 9) Tryz.underlying64 (by kernel_rfl) (.inr ⟨29, rfl, rfl⟩) rfl rfl rfl rfl rfl (by decide) (by decide) (by decide)) (ol_cons (o_iaL (k := 3) (l := .i .i64 3) (sz := 3) (qs' := [.val (.bool a.rot.z.s), .dig (nl a.rot.z.p) a.rot.z.p, .dig (nl a.rot.z.q) a.rot.z.q]) (n := 21) (m := 34) Tryz.underlying33 (by kernel_rfl) rfl rfl (fun _ _ _ h => h) (by decide) (by simp) (fun j q hq => by match j, hq with | 0, hq => simp at hq; subst hq; rfl | 1, hq => simp at hq; subst hq; rfl | 2, hq => simp at hq; subst hq; rfl | j + 3, hq => simp at hq)) (ol_cons (o_ldA (n := 34) (T := 26) (qs := [.val (.bool a.rot.z.s), .dig (nl a.rot.z.p) a.rot.z.p, .dig (nl a.rot.z.q) a.rot.z.q]) (ls := [.ref 9, .ref 10, .ref 11]) (t := 26) (by kernel_rfl) (by kernel_rfl) rfl ⟨lq rfl, lq rfl, lq rfl, trivial⟩) (ol_cons (o_bs (m := 36) (ss := [.one (.ref 35)]) (N := 1) (sz := 1) (z := [.s (ByteArray.mk #[])]) (qs := [.val (.string a.rot.z.fmt)]) (ix := [0]) (ls := [.ref 35]) Tryz.underlying64 (by kernel_rfl) (by kernel_rfl) (by decide) (by decide) (by decide) rfl (by kernel_rfl) ⟨ql_val rfl, trivial⟩ rfl) (ol_cons (o_appK (i := 0) (sz := 1) (bytes := 16) (L := 3) (M := 1) (qs := [.val (.string a.rot.w.fmt), .val (.string a.rot.x.fmt), .val (.string a.rot.y.fmt)]) (qs' := [.val (.string a.rot.z.fmt)]) (m := 37) (r := 36) (T := 9) Tryz.underlying64 (by kernel_rfl) (.inr ⟨33, rfl, rfl⟩) rfl rfl rfl rfl rfl (by decide) (by decide) (by decide)) (ol_cons (o_iaL (k := 4) (l := .i .i64 4) (sz := 3) (qs' := [.val (.bool a.pos.x.s), .dig (nl a.pos.x.p) a.pos.x.p, .dig (nl a.pos.x.q) a.pos.x.q]) (n := 21) (m := 38) Tryz.underlying33 (by kernel_rfl) rfl rfl (fun _ _ _ h => h) (by decide) (by simp) (fun j q hq => by match j, hq with | 0, hq => simp at hq; subst hq; rfl | 1, hq => simp at hq; subst hq; rfl | 2, hq => simp at hq; subst hq; rfl | j + 3, hq => simp at hq)) (ol_cons (o_ldA (n := 38) (T := 26) (qs := [.val (.bool a.pos.x.s), .dig (nl a.pos.x.p) a.pos.x.p, .dig (nl a.pos.x.q) a.pos.x.q]) (ls := [.ref 12, .ref 13, .ref 14]) (t := 26) (by kernel_rfl) (by kernel_rfl) rfl ⟨lq rfl, lq rfl, lq rfl, trivial⟩) (ol_cons (o_bs (m := 40) (ss := [.one (.ref 39)]) (N := 1) (sz := 1) (z := [.s (ByteArray.mk #[])]) (qs := [.val (.string a.pos.x.fmt)]) (ix := [0]) (ls := [.ref 39]) Tryz.underlying64 (by kernel_rfl) (by kernel_rfl) (by decide) (by decide) (by decide) rfl (by kernel_rfl) ⟨ql_val rfl, trivial⟩ rfl) (ol_cons (o_appK (i := 0) (sz := 1) (bytes := 16) (L := 4) (M := 1) (qs := [.val (.string a.rot.w.fmt), .val (.string a.rot.x.fmt), .val (.string a.rot.y.fmt), .val (.string a.rot.z.fmt)]) (qs' := [.val (.string a.pos.x.fmt)]) (m := 41) (r := 40) (T := 9) Tryz.underlying64 (by kernel_rfl) (.inr ⟨37, rfl, rfl⟩) rfl rfl rfl rfl rfl (by decide) (by decide) (by decide)) (ol_cons (o_iaL (k := 5) (l := .i .i64 5) (sz := 3) (qs' := [.val (.bool a.pos.y.s), .dig (nl a.pos.y.p) a.pos.y.p, .dig (nl a.pos.y.q) a.pos.y.q]) (n := 21) (m := 42) Tryz.underlying33 (by kernel_rfl) rfl rfl (fun _ _ _ h => h) (by decide) (by simp) (fun j q hq => by match j, hq with | 0, hq => simp at hq; subst hq; rfl | 1, hq => simp at hq; subst hq; rfl | 2, hq => simp at hq; subst hq; rfl | j + 3, hq => simp at hq)) (ol_cons (o_ldA (n := 42) (T := 26) (qs := [.val (.bool a.pos.y.s), .dig (nl a.pos.y.p) a.pos.y.p, .dig (nl a.pos.y.q) a.pos.y.q]) (ls := [.ref 15, .ref 16, .ref 17]) (t := 26) (by kernel_rfl) (by kernel_rfl) rfl ⟨lq rfl, lq rfl, lq rfl, trivial⟩) (ol_cons (o_bs (m := 44) (ss := [.one (.ref 43)]) (N := 1) (sz := 1) (z := [.s (ByteArray.mk #[])]) (qs := [.val (.string a.pos.y.fmt)]) (ix := [0]) (ls := [.ref 43]) Tryz.underlying64 (by kernel_rfl) (by kernel_rfl) (by decide) (by decide) (by decide) rfl (by kernel_rfl) ⟨ql_val rfl, trivial⟩ rfl) (ol_cons (o_appK (i := 0) (sz := 1) (bytes := 16) (L := 5) (M := 1) (qs := [.val (.string a.rot.w.fmt), .val (.string a.rot.x.fmt), .val (.string a.rot.y.fmt), .val (.string a.rot.z.fmt), .val (.string a.pos.x.fmt)]) (qs' := [.val (.string a.pos.y.fmt)]) (m := 45) (r := 44) (T := 9) Tryz.underlying64 (by kernel_rfl) (.inr ⟨41, rfl, rfl⟩) rfl rfl rfl rfl rfl (by decide) (by decide) (by decide)) (ol_cons (o_iaL (k := 6) (l := .i .i64 6) (sz := 3) (qs' := [.val (.bool a.pos.z.s), .dig (nl a.pos.z.p) a.pos.z.p, .dig (nl a.pos.z.q) a.pos.z.q]) (n := 21) (m := 46) Tryz.underlying33 (by kernel_rfl) rfl rfl (fun _ _ _ h => h) (by decide) (by simp) (fun j q hq => by match j, hq with | 0, hq => simp at hq; subst hq; rfl | 1, hq => simp at hq; subst hq; rfl | 2, hq => simp at hq; subst hq; rfl | j + 3, hq => simp at hq)) (ol_cons (o_ldA (n := 46) (T := 26) (qs := [.val (.bool a.pos.z.s), .dig (nl a.pos.z.p) a.pos.z.p, .dig (nl a.pos.z.q) a.pos.z.q]) (ls := [.ref 18, .ref 19, .ref 20]) (t := 26) (by kernel_rfl) (by kernel_rfl) rfl ⟨lq rfl, lq rfl, lq rfl, trivial⟩) (ol_cons (o_bs (m := 48) (ss := [.one (.ref 47)]) (N := 1) (sz := 1) (z := [.s (ByteArray.mk #[])]) (qs := [.val (.string a.pos.z.fmt)]) (ix := [0]) (ls := [.ref 47]) Tryz.underlying64 (by kernel_rfl) (by kernel_rfl) (by decide) (by decide) (by decide) rfl (by kernel_rfl) ⟨ql_val rfl, trivial⟩ rfl) (ol_cons (o_appK (i := 0) (sz := 1) (bytes := 16) (L := 6) (M := 1) (qs := [.val (.string a.rot.w.fmt), .val (.string a.rot.x.fmt), .val (.string a.rot.y.fmt), .val (.string a.rot.z.fmt), .val (.string a.pos.x.fmt), .val (.string a.pos.y.fmt)]) (qs' := [.val (.string a.pos.z.fmt)]) (m := 49) (r := 48) (T := 9) Tryz.underlying64 (by kernel_rfl) (.inr ⟨45, rfl, rfl⟩) rfl rfl rfl rfl rfl (by decide) (by decide) (by decide)) (ol_cons (o_frz (n := 49) (m := 50) (r := 7) (i := 0) (L := 7) (qs := [.val (.string a.rot.w.fmt), .val (.string a.rot.x.fmt), .val (.string a.rot.y.fmt), .val (.string a.rot.z.fmt), .val (.string a.pos.x.fmt), .val (.string a.pos.y.fmt), .val (.string a.pos.z.fmt)]) rfl rfl) (ol_nil)))))))))))))))))))))))))))))))) (by kernel_rfl) Tryz.func14 (by kernel_rfl) ⟨(row_isL (xs := xpoEncX a) (ks := [0, 1, 2, 3, 4, 5, 6]) (vs := [a.rot.w, a.rot.x, a.rot.y, a.rot.z, a.pos.x, a.pos.y, a.pos.z]) ⟨rfl, rfl, rfl, rfl, rfl, rfl, rfl, trivial⟩).2 ia, trivial⟩).mono ?_
  rintro e w' ⟨v, rfl, h1, h2⟩
  obtain ⟨sv, q1, q2⟩ := h1
  have q3 : some (Vp.val (.string (joinB [a.rot.w.fmt, a.rot.x.fmt, a.rot.y.fmt, a.rot.z.fmt, a.pos.x.fmt, a.pos.y.fmt, a.pos.z.fmt]))) = some sv := q1
  injection q3 with q3
  subst q3
  have q4 : v = .string (joinB [a.rot.w.fmt, a.rot.x.fmt, a.rot.y.fmt, a.rot.z.fmt, a.pos.x.fmt, a.pos.y.fmt, a.pos.z.fmt]) := q2.1.1
  exact ⟨by rw [q4]; rfl, h2⟩
theorem I_poEnc {xs : List Fq} {ys : Rho} {ks : List Nat} {a : Pq} {l : Leaf} (ar : AtL xs ks [a.rot.w, a.rot.x, a.rot.y, a.rot.z, a.pos.x, a.pos.y, a.pos.z]) (hl : ∀ B w, l.holds (frs xs ++ ys) B w (.string a.text)) (ha : a.ok 1000) : OkI xs ys ⟨14, [row ks], .v (.one l)⟩ :=
  ⟨enters Tryz.func14 rfl rfl, fun B w vs hB h => by
    match vs, h with
    | [x], h =>
      refine (q_poEnc x a w ((row_isL ar).1 h.1) ha).mono ?_
      rintro e w' ⟨rfl, h2⟩
      exact ⟨_, rfl, hl B w', h2⟩⟩
end Go.Proofs.YthebfmlfgfmlnaaGreatDoor
