/- Matrices; the law that products, inverses, images are those of the specification. What an argument that is an array of small numbers is. -/
import Derived.Test.YthefidbgjgfeiaaGreatP15
import Derived.WalkKit
import Derived.ProofKit
import Derived.OpenShut
import Derived.ShutString
import Derived.ChangeOld
import Derived.Below
namespace Go.Proofs.YthefidbgjgfeiaaGreat
set_option linter.unusedSimpArgs false
set_option linter.unusedVariables false
set_option maxRecDepth 100000
open Go.RowKit
theorem orId_good {q : Qq} (h : q.comp) : q.orId.good := by
  unfold Qq.orId
  split
  · exact id_good
  · rename_i h0; exact canon_good h h0
theorem orId_ok {q : Qq} (h : q.ok 2) : q.orId.ok 4 := by
  unfold Qq.orId
  split
  · exact ok_id.mono (by decide)
  · rename_i h0; exact h.canon h0
def xvOf1_0_0X  : List Fq := [(Fq.ofInt 1), (Fq.ofInt 0)]
theorem q_vOf1_0_0  (w : World)   :
    Calls Tryz.prog 23 #[.int .i64 (1), .int .i64 (0), .int .i64 (0)] w fun e w' => RetVq w (Vq.of 1 0 0) e w' := by
  refine (calls_runFn (ρ := frs (xvOf1_0_0X ) ++ []) (w := w) (fuel := 300) (args := [.one (.i .i64 1), .one (.i .i64 0), .one (.i .i64 0)]) (vs := [.int .i64 (1), .int .i64 (0), .int .i64 (0)]) (r := .v (row [0, 1, 1]))
    (il_cons (I_fInt (k := 0) rfl (by decide) (by decide)) (il_cons (I_fInt (k := 1) rfl (by decide) (by decide)) il_nil))
    ol_nil (by kernel_rfl) Tryz.func23 (by kernel_rfl) ⟨rfl, ⟨rfl, ⟨rfl, trivial⟩⟩⟩).mono ?_
  rintro e w' ⟨v, rfl, h1, h2⟩
  exact ⟨v, rfl, (row_isL (xs := xvOf1_0_0X ) (ks := [0, 1, 1]) (vs := [(Fq.ofInt 1), (Fq.ofInt 0), (Fq.ofInt 0)]) ⟨rfl, rfl, rfl, trivial⟩).1 h1, h2⟩
theorem I_vOf1_0_0 {xs : List Fq} {ys : Rho}   {kr : List Nat}  (ar : AtL xs kr [(Vq.of 1 0 0).x, (Vq.of 1 0 0).y, (Vq.of 1 0 0).z]) : OkI xs ys ⟨23, [.one (.i .i64 1), .one (.i .i64 0), .one (.i .i64 0)], .v (row kr)⟩ :=
  ⟨enters Tryz.func23 rfl rfl, fun B w vs h => by
    match vs, h with
    | [vx, vy, vz], h =>
      have ex : vx = .int .i64 (1) := h.1
      subst ex
      have ey : vy = .int .i64 (0) := h.2.1
      subst ey
      have ez : vz = .int .i64 (0) := h.2.2.1
      subst ez
      refine (q_vOf1_0_0 w).mono ?_
      rintro e w' ⟨v, rfl, h1, h2⟩
      exact ⟨v, rfl, (row_isL ar).2 h1, h2⟩⟩
def xvOf0_1_0X  : List Fq := [(Fq.ofInt 0), (Fq.ofInt 1)]
theorem q_vOf0_1_0  (w : World)   :
    Calls Tryz.prog 23 #[.int .i64 (0), .int .i64 (1), .int .i64 (0)] w fun e w' => RetVq w (Vq.of 0 1 0) e w' := by
  refine (calls_runFn (ρ := frs (xvOf0_1_0X ) ++ []) (w := w) (fuel := 300) (args := [.one (.i .i64 0), .one (.i .i64 1), .one (.i .i64 0)]) (vs := [.int .i64 (0), .int .i64 (1), .int .i64 (0)]) (r := .v (row [0, 1, 0]))
    (il_cons (I_fInt (k := 0) rfl (by decide) (by decide)) (il_cons (I_fInt (k := 1) rfl (by decide) (by decide)) il_nil))
    ol_nil (by kernel_rfl) Tryz.func23 (by kernel_rfl) ⟨rfl, ⟨rfl, ⟨rfl, trivial⟩⟩⟩).mono ?_
  rintro e w' ⟨v, rfl, h1, h2⟩
  exact ⟨v, rfl, (row_isL (xs := xvOf0_1_0X ) (ks := [0, 1, 0]) (vs := [(Fq.ofInt 0), (Fq.ofInt 1), (Fq.ofInt 0)]) ⟨rfl, rfl, rfl, trivial⟩).1 h1, h2⟩
theorem I_vOf0_1_0 {xs : List Fq} {ys : Rho}   {kr : List Nat}  (ar : AtL xs kr [(Vq.of 0 1 0).x, (Vq.of 0 1 0).y, (Vq.of 0 1 0).z]) : OkI xs ys ⟨23, [.one (.i .i64 0), .one (.i .i64 1), .one (.i .i64 0)], .v (row kr)⟩ :=
  ⟨enters Tryz.func23 rfl rfl, fun B w vs h => by
    match vs, h with
    | [vx, vy, vz], h =>
      have ex : vx = .int .i64 (0) := h.1
      subst ex
      have ey : vy = .int .i64 (1) := h.2.1
      subst ey
      have ez : vz = .int .i64 (0) := h.2.2.1
      subst ez
      refine (q_vOf0_1_0 w).mono ?_
      rintro e w' ⟨v, rfl, h1, h2⟩
      exact ⟨v, rfl, (row_isL ar).2 h1, h2⟩⟩
def xvOf0_0_1X  : List Fq := [(Fq.ofInt 0), (Fq.ofInt 1)]
theorem q_vOf0_0_1  (w : World)   :
    Calls Tryz.prog 23 #[.int .i64 (0), .int .i64 (0), .int .i64 (1)] w fun e w' => RetVq w (Vq.of 0 0 1) e w' := by
  refine (calls_runFn (ρ := frs (xvOf0_0_1X ) ++ []) (w := w) (fuel := 300) (args := [.one (.i .i64 0), .one (.i .i64 0), .one (.i .i64 1)]) (vs := [.int .i64 (0), .int .i64 (0), .int .i64 (1)]) (r := .v (row [0, 0, 1]))
    (il_cons (I_fInt (k := 0) rfl (by decide) (by decide)) (il_cons (I_fInt (k := 1) rfl (by decide) (by decide)) il_nil))
    ol_nil (by kernel_rfl) Tryz.func23 (by kernel_rfl) ⟨rfl, ⟨rfl, ⟨rfl, trivial⟩⟩⟩).mono ?_
  rintro e w' ⟨v, rfl, h1, h2⟩
  exact ⟨v, rfl, (row_isL (xs := xvOf0_0_1X ) (ks := [0, 0, 1]) (vs := [(Fq.ofInt 0), (Fq.ofInt 0), (Fq.ofInt 1)]) ⟨rfl, rfl, rfl, trivial⟩).1 h1, h2⟩
theorem I_vOf0_0_1 {xs : List Fq} {ys : Rho}   {kr : List Nat}  (ar : AtL xs kr [(Vq.of 0 0 1).x, (Vq.of 0 0 1).y, (Vq.of 0 0 1).z]) : OkI xs ys ⟨23, [.one (.i .i64 0), .one (.i .i64 0), .one (.i .i64 1)], .v (row kr)⟩ :=
  ⟨enters Tryz.func23 rfl rfl, fun B w vs h => by
    match vs, h with
    | [vx, vy, vz], h =>
      have ex : vx = .int .i64 (0) := h.1
      subst ex
      have ey : vy = .int .i64 (0) := h.2.1
      subst ey
      have ez : vz = .int .i64 (1) := h.2.2.1
      subst ez
      refine (q_vOf0_0_1 w).mono ?_
      rintro e w' ⟨v, rfl, h1, h2⟩
      exact ⟨v, rfl, (row_isL ar).2 h1, h2⟩⟩
def xMatrixX (q : Qq) : List Fq := [q.w, q.x, q.y, q.z, (Vq.of 1 0 0).x, (Vq.of 1 0 0).y, (Vq.of 1 0 0).z, (Vq.of 0 1 0).x, (Vq.of 0 1 0).y, (Vq.of 0 1 0).z, (Vq.of 0 0 1).x, (Vq.of 0 0 1).y, (Vq.of 0 0 1).z, (q.app (Vq.of 1 0 0)).x, (q.app (Vq.of 1 0 0)).y, (q.app (Vq.of 1 0 0)).z, (q.app (Vq.of 0 1 0)).x, (q.app (Vq.of 0 1 0)).y, (q.app (Vq.of 0 1 0)).z, (q.app (Vq.of 0 0 1)).x, (q.app (Vq.of 0 0 1)).y, (q.app (Vq.of 0 0 1)).z]
theorem q_Matrix (vq : Value) (q : Qq) (w : World) (iq : IsQt w vq q) (hq : q.ok 1000) (gq : q.good) :
    Calls Tryz.prog 6 #[vq] w fun e w' => RetL w [(q.app (Vq.of 1 0 0)).x.raw, (q.app (Vq.of 1 0 0)).y.raw, (q.app (Vq.of 1 0 0)).z.raw, (q.app (Vq.of 0 1 0)).x.raw, (q.app (Vq.of 0 1 0)).y.raw, (q.app (Vq.of 0 1 0)).z.raw, (q.app (Vq.of 0 0 1)).x.raw, (q.app (Vq.of 0 0 1)).y.raw, (q.app (Vq.of 0 0 1)).z.raw] e w' := by
  refine (calls_runFn (ρ := frs (xMatrixX q) ++ []) (w := w) (fuel := 300) (args := [row [0, 1, 2, 3]]) (vs := [vq]) (r := .v (row [13, 14, 15, 16, 17, 18, 19, 20, 21]))
    (il_cons (I_vOf1_0_0 (kr := [4, 5, 6]) ⟨rfl, rfl, rfl, trivial⟩) (il_cons (I_vOf0_1_0 (kr := [7, 8, 9]) ⟨rfl, rfl, rfl, trivial⟩) (il_cons (I_vOf0_0_1 (kr := [10, 11, 12]) ⟨rfl, rfl, rfl, trivial⟩) (il_cons (I_fApp (kq := [0, 1, 2, 3]) (q := q) (ka := [4, 5, 6]) (a := (Vq.of 1 0 0)) (kr := [13, 14, 15]) ⟨rfl, rfl, rfl, rfl, trivial⟩ ⟨rfl, rfl, rfl, trivial⟩ ⟨rfl, rfl, rfl, trivial⟩ (hq.mono (by decide)) ((ok_vof (by decide) (by decide) (by decide) (by decide) (by decide) (by decide)).mono (by decide)) gq) (il_cons (I_fApp (kq := [0, 1, 2, 3]) (q := q) (ka := [7, 8, 9]) (a := (Vq.of 0 1 0)) (kr := [16, 17, 18]) ⟨rfl, rfl, rfl, rfl, trivial⟩ ⟨rfl, rfl, rfl, trivial⟩ ⟨rfl, rfl, rfl, trivial⟩ (hq.mono (by decide)) ((ok_vof (by decide) (by decide) (by decide) (by decide) (by decide) (by decide)).mono (by decide)) gq) (il_cons (I_fApp (kq := [0, 1, 2, 3]) (q := q) (ka := [10, 11, 12]) (a := (Vq.of 0 0 1)) (kr := [19, 20, 21]) ⟨rfl, rfl, rfl, rfl, trivial⟩ ⟨rfl, rfl, rfl, trivial⟩ ⟨rfl, rfl, rfl, trivial⟩ (hq.mono (by decide)) ((ok_vof (by decide) (by decide) (by decide) (by decide) (by decide) (by decide)).mono (by decide)) gq) il_nil))))))
    ol_nil (by kernel_rfl) Tryz.func6 (by kernel_rfl) ⟨(row_isL (xs := xMatrixX q) (ks := [0, 1, 2, 3]) (vs := [q.w, q.x, q.y, q.z]) ⟨rfl, rfl, rfl, rfl, trivial⟩).2 iq, trivial⟩).mono ?_
  rintro e w' ⟨v, rfl, h1, h2⟩
  exact ⟨v, rfl, (row_isL (xs := xMatrixX q) (ks := [13, 14, 15, 16, 17, 18, 19, 20, 21]) (vs := [(q.app (Vq.of 1 0 0)).x, (q.app (Vq.of 1 0 0)).y, (q.app (Vq.of 1 0 0)).z, (q.app (Vq.of 0 1 0)).x, (q.app (Vq.of 0 1 0)).y, (q.app (Vq.of 0 1 0)).z, (q.app (Vq.of 0 0 1)).x, (q.app (Vq.of 0 0 1)).y, (q.app (Vq.of 0 0 1)).z]) ⟨rfl, rfl, rfl, rfl, rfl, rfl, rfl, rfl, rfl, trivial⟩).1 h1, h2⟩
theorem I_Matrix {xs : List Fq} {ys : Rho} {kq : List Nat} {q : Qq} {kr : List Nat} (aq : AtL xs kq [q.w, q.x, q.y, q.z]) (ar : AtL xs kr [(q.app (Vq.of 1 0 0)).x, (q.app (Vq.of 1 0 0)).y, (q.app (Vq.of 1 0 0)).z, (q.app (Vq.of 0 1 0)).x, (q.app (Vq.of 0 1 0)).y, (q.app (Vq.of 0 1 0)).z, (q.app (Vq.of 0 0 1)).x, (q.app (Vq.of 0 0 1)).y, (q.app (Vq.of 0 0 1)).z]) (hq : q.ok 1000) (gq : q.good) : OkI xs ys ⟨6, [row kq], .v (row kr)⟩ :=
  ⟨enters Tryz.func6 rfl rfl, fun B w vs h => by
    match vs, h with
    | [vq], h =>
      refine (q_Matrix vq q w ((row_isL aq).1 h.1) hq gq).mono ?_
      rintro e w' ⟨v, rfl, h1, h2⟩
      exact ⟨v, rfl, (row_isL ar).2 h1, h2⟩⟩
def xRotationComputesX (P Q : Qq) (X : Vq) (a0n a0d a1n a1d a2n a2d a3n a3d b0n b0d b1n b1d b2n b2d b3n b3d v0n v0d v1n v1d v2n v2d : Int) : List Fq := [P.w, P.x, P.y, P.z, Q.w, Q.x, Q.y, Q.z, X.x, X.y, X.z, (P.app (Vq.of 1 0 0)).x, (P.app (Vq.of 1 0 0)).y, (P.app (Vq.of 1 0 0)).z, (P.app (Vq.of 0 1 0)).x, (P.app (Vq.of 0 1 0)).y, (P.app (Vq.of 0 1 0)).z, (P.app (Vq.of 0 0 1)).x, (P.app (Vq.of 0 0 1)).y, (P.app (Vq.of 0 0 1)).z, (Vq.of 1 0 0).x, (Vq.of 1 0 0).y, (Vq.of 1 0 0).z, (P.app' (Vq.of 1 0 0)).x, (P.app' (Vq.of 1 0 0)).y, (P.app' (Vq.of 1 0 0)).z, (Vq.of 0 1 0).x, (Vq.of 0 1 0).y, (Vq.of 0 1 0).z, (P.app' (Vq.of 0 1 0)).x, (P.app' (Vq.of 0 1 0)).y, (P.app' (Vq.of 0 1 0)).z, (Vq.of 0 0 1).x, (Vq.of 0 0 1).y, (Vq.of 0 0 1).z, (P.app' (Vq.of 0 0 1)).x, (P.app' (Vq.of 0 0 1)).y, (P.app' (Vq.of 0 0 1)).z, (P.mul Q).w, (P.mul Q).x, (P.mul Q).y, (P.mul Q).z, P.inv.w, P.inv.x, P.inv.y, P.inv.z, (P.app X).x, (P.app X).y, (P.app X).z, (P.app' X).x, (P.app' X).y, (P.app' X).z, Qq.id.w, Qq.id.x, Qq.id.y, Qq.id.z]
def xRotationComputes1X (P Q : Qq) (X : Vq) (a0n a0d a1n a1d a2n a2d a3n a3d b0n b0d b1n b1d b2n b2d b3n b3d v0n v0d v1n v1d v2n v2d : Int) : List Fq := [P.w, P.x, P.y, P.z, Q.w, Q.x, Q.y, Q.z, X.x, X.y, X.z, (P.app (Vq.of 1 0 0)).x, (P.app (Vq.of 1 0 0)).y, (P.app (Vq.of 1 0 0)).z, (P.app (Vq.of 0 1 0)).x, (P.app (Vq.of 0 1 0)).y, (P.app (Vq.of 0 1 0)).z, (P.app (Vq.of 0 0 1)).x, (P.app (Vq.of 0 0 1)).y, (P.app (Vq.of 0 0 1)).z, (Vq.of 1 0 0).x, (Vq.of 1 0 0).y, (Vq.of 1 0 0).z, (P.app' (Vq.of 1 0 0)).x, (P.app' (Vq.of 1 0 0)).y, (P.app' (Vq.of 1 0 0)).z, (Vq.of 0 1 0).x, (Vq.of 0 1 0).y, (Vq.of 0 1 0).z, (P.app' (Vq.of 0 1 0)).x, (P.app' (Vq.of 0 1 0)).y, (P.app' (Vq.of 0 1 0)).z, (Vq.of 0 0 1).x, (Vq.of 0 0 1).y, (Vq.of 0 0 1).z, (P.app' (Vq.of 0 0 1)).x, (P.app' (Vq.of 0 0 1)).y, (P.app' (Vq.of 0 0 1)).z, (P.mul Q).w, (P.mul Q).x, (P.mul Q).y, (P.mul Q).z, P.inv.w, P.inv.x, P.inv.y, P.inv.z, (P.app X).x, (P.app X).y, (P.app X).z, (P.app' X).x, (P.app' X).y, (P.app' X).z, Qq.id.w, Qq.id.x, Qq.id.y, Qq.id.z]
theorem c_RotationComputes (a0n a0d a1n a1d a2n a2d a3n a3d b0n b0d b1n b1d b2n b2d b3n b3d v0n v0d v1n v1d v2n v2d : Int) (w : World) (la0n : -128 ≤ a0n) (ra0n : a0n ≤ 127) (la0d : -128 ≤ a0d) (ra0d : a0d ≤ 127) (la1n : -128 ≤ a1n) (ra1n : a1n ≤ 127) (la1d : -128 ≤ a1d) (ra1d : a1d ≤ 127) (la2n : -128 ≤ a2n) (ra2n : a2n ≤ 127) (la2d : -128 ≤ a2d) (ra2d : a2d ≤ 127) (la3n : -128 ≤ a3n) (ra3n : a3n ≤ 127) (la3d : -128 ≤ a3d) (ra3d : a3d ≤ 127) (lb0n : -128 ≤ b0n) (rb0n : b0n ≤ 127) (lb0d : -128 ≤ b0d) (rb0d : b0d ≤ 127) (lb1n : -128 ≤ b1n) (rb1n : b1n ≤ 127) (lb1d : -128 ≤ b1d) (rb1d : b1d ≤ 127) (lb2n : -128 ≤ b2n) (rb2n : b2n ≤ 127) (lb2d : -128 ≤ b2d) (rb2d : b2d ≤ 127) (lb3n : -128 ≤ b3n) (rb3n : b3n ≤ 127) (lb3d : -128 ≤ b3d) (rb3d : b3d ≤ 127) (lv0n : -128 ≤ v0n) (rv0n : v0n ≤ 127) (lv0d : -128 ≤ v0d) (rv0d : v0d ≤ 127) (lv1n : -128 ≤ v1n) (rv1n : v1n ≤ 127) (lv1d : -128 ≤ v1d) (rv1d : v1d ≤ 127) (lv2n : -128 ≤ v2n) (rv2n : v2n ≤ 127) (lv2d : -128 ≤ v2d) (rv2d : v2d ≤ 127) : Calls Tryz.prog 3 #[.agg #[.int .i8 a0n, .int .i8 a0d, .int .i8 a1n, .int .i8 a1d, .int .i8 a2n, .int .i8 a2d, .int .i8 a3n, .int .i8 a3d], .agg #[.int .i8 b0n, .int .i8 b0d, .int .i8 b1n, .int .i8 b1d, .int .i8 b2n, .int .i8 b2d, .int .i8 b3n, .int .i8 b3d], .agg #[.int .i8 v0n, .int .i8 v0d, .int .i8 v1n, .int .i8 v1d, .int .i8 v2n, .int .i8 v2d]] w fun e w' => RetV w (.bool true) e w' := by
  obtain ⟨P, eP⟩ : ∃ E, Qq.orId (Qq.mk (Fq.part a0n a0d) (Fq.part a1n a1d) (Fq.part a2n a2d) (Fq.part a3n a3d)) = E := ⟨_, rfl⟩
  have gP : P.good := by rw [← eP]; exact orId_good ⟨part_valid _ _, part_valid _ _, part_valid _ _, part_valid _ _⟩
  have kP : P.ok 4 := by rw [← eP]; exact orId_ok (Qq.ok.mk4 (part_ok la0n ra0n la0d ra0d) (part_ok la1n ra1n la1d ra1d) (part_ok la2n ra2n la2d ra2d) (part_ok la3n ra3n la3d ra3d))
  obtain ⟨Q, eQ⟩ : ∃ E, Qq.orId (Qq.mk (Fq.part b0n b0d) (Fq.part b1n b1d) (Fq.part b2n b2d) (Fq.part b3n b3d)) = E := ⟨_, rfl⟩
  have gQ : Q.good := by rw [← eQ]; exact orId_good ⟨part_valid _ _, part_valid _ _, part_valid _ _, part_valid _ _⟩
  have kQ : Q.ok 4 := by rw [← eQ]; exact orId_ok (Qq.ok.mk4 (part_ok lb0n rb0n lb0d rb0d) (part_ok lb1n rb1n lb1d rb1d) (part_ok lb2n rb2n lb2d rb2d) (part_ok lb3n rb3n lb3d rb3d))
  obtain ⟨X, eX⟩ : ∃ E, (Vq.mk (Fq.part v0n v0d) (Fq.part v1n v1d) (Fq.part v2n v2d)) = E := ⟨_, rfl⟩
  have gX : X.good := by rw [← eX]; exact ⟨part_valid _ _, part_valid _ _, part_valid _ _⟩
  have kX : X.ok 2 := by rw [← eX]; exact ⟨part_ok lv0n rv0n lv0d rv0d, part_ok lv1n rv1n lv1d rv1d, part_ok lv2n rv2n lv2d rv2d⟩
  by_cases c0 : P.w.p = 0
  · refine (calls_runFn (ρ := frs (xRotationComputesX P Q X a0n a0d a1n a1d a2n a2d a3n a3d b0n b0d b1n b1d b2n b2d b3n b3d v0n v0d v1n v1d v2n v2d) ++ [.val (.int .i8 a0n), .val (.int .i8 a0d), .val (.int .i8 a1n), .val (.int .i8 a1d), .val (.int .i8 a2n), .val (.int .i8 a2d), .val (.int .i8 a3n), .val (.int .i8 a3d), .val (.int .i8 b0n), .val (.int .i8 b0d), .val (.int .i8 b1n), .val (.int .i8 b1d), .val (.int .i8 b2n), .val (.int .i8 b2d), .val (.int .i8 b3n), .val (.int .i8 b3d), .val (.int .i8 v0n), .val (.int .i8 v0d), .val (.int .i8 v1n), .val (.int .i8 v1d), .val (.int .i8 v2n), .val (.int .i8 v2d)]) (w := w) (fuel := 300) (args := [.agg [.ref 168, .ref 169, .ref 170, .ref 171, .ref 172, .ref 173, .ref 174, .ref 175], .agg [.ref 176, .ref 177, .ref 178, .ref 179, .ref 180, .ref 181, .ref 182, .ref 183], .agg [.ref 184, .ref 185, .ref 186, .ref 187, .ref 188, .ref 189]]) (vs := [.agg #[.int .i8 a0n, .int .i8 a0d, .int .i8 a1n, .int .i8 a1d, .int .i8 a2n, .int .i8 a2d, .int .i8 a3n, .int .i8 a3d], .agg #[.int .i8 b0n, .int .i8 b0d, .int .i8 b1n, .int .i8 b1d, .int .i8 b2n, .int .i8 b2d, .int .i8 b3n, .int .i8 b3d], .agg #[.int .i8 v0n, .int .i8 v0d, .int .i8 v1n, .int .i8 v1d, .int .i8 v2n, .int .i8 v2d]]) (r := .v (.one (.b true)))
      (il_cons (I_Quat (ns := [168, 169, 170, 171, 172, 173, 174, 175]) (kr := [0, 1, 2, 3]) (⟨rfl, rfl, rfl, rfl, rfl, rfl, rfl, rfl, trivial⟩) ⟨rfl, rfl, rfl, rfl, trivial⟩ eP la0n ra0n la0d ra0d la1n ra1n la1d ra1d la2n ra2n la2d ra2d la3n ra3n la3d ra3d) (il_cons (I_Quat (ns := [176, 177, 178, 179, 180, 181, 182, 183]) (kr := [4, 5, 6, 7]) (⟨rfl, rfl, rfl, rfl, rfl, rfl, rfl, rfl, trivial⟩) ⟨rfl, rfl, rfl, rfl, trivial⟩ eQ lb0n rb0n lb0d rb0d lb1n rb1n lb1d rb1d lb2n rb2n lb2d rb2d lb3n rb3n lb3d rb3d) (il_cons (I_Vec (ns := [184, 185, 186, 187, 188, 189]) (kr := [8, 9, 10]) (⟨rfl, rfl, rfl, rfl, rfl, rfl, trivial⟩) ⟨rfl, rfl, rfl, trivial⟩ eX lv0n rv0n lv0d rv0d lv1n rv1n lv1d rv1d lv2n rv2n lv2d rv2d) (il_cons (I_Matrix (kq := [0, 1, 2, 3]) (q := P) (kr := [11, 12, 13, 14, 15, 16, 17, 18, 19]) ⟨rfl, rfl, rfl, rfl, trivial⟩ ⟨rfl, rfl, rfl, rfl, rfl, rfl, rfl, rfl, rfl, trivial⟩ (kP.mono (by decide)) gP) (il_cons (I_rUnit0 (kr := [20, 21, 22]) ⟨rfl, rfl, rfl, trivial⟩) (il_cons (I_rApp (kq := [0, 1, 2, 3]) (q := P) (ka := [20, 21, 22]) (a := (Vq.of 1 0 0)) (kr := [23, 24, 25]) ⟨rfl, rfl, rfl, rfl, trivial⟩ ⟨rfl, rfl, rfl, trivial⟩ ⟨rfl, rfl, rfl, trivial⟩ (kP.mono (by decide)) ((ok_vof (by decide) (by decide) (by decide) (by decide) (by decide) (by decide)).mono (by decide)) gP) (il_cons (I_SameVec1 (ka := [11, 12, 13]) (a := (P.app (Vq.of 1 0 0))) (kb := [23, 24, 25]) (b := (P.app' (Vq.of 1 0 0))) ⟨rfl, rfl, rfl, trivial⟩ ⟨rfl, rfl, rfl, trivial⟩ ((kP.app (ok_vof (by decide) (by decide) (by decide) (by decide) (by decide) (by decide)) gP).mono (by decide)) ((kP.app' (ok_vof (by decide) (by decide) (by decide) (by decide) (by decide) (by decide)) gP).mono (by decide)) (app_app' gP (Vq.good.of 1 0 0))) (il_cons (I_rUnit1 (kr := [26, 27, 28]) ⟨rfl, rfl, rfl, trivial⟩) (il_cons (I_rApp (kq := [0, 1, 2, 3]) (q := P) (ka := [26, 27, 28]) (a := (Vq.of 0 1 0)) (kr := [29, 30, 31]) ⟨rfl, rfl, rfl, rfl, trivial⟩ ⟨rfl, rfl, rfl, trivial⟩ ⟨rfl, rfl, rfl, trivial⟩ (kP.mono (by decide)) ((ok_vof (by decide) (by decide) (by decide) (by decide) (by decide) (by decide)).mono (by decide)) gP) (il_cons (I_SameVec1 (ka := [14, 15, 16]) (a := (P.app (Vq.of 0 1 0))) (kb := [29, 30, 31]) (b := (P.app' (Vq.of 0 1 0))) ⟨rfl, rfl, rfl, trivial⟩ ⟨rfl, rfl, rfl, trivial⟩ ((kP.app (ok_vof (by decide) (by decide) (by decide) (by decide) (by decide) (by decide)) gP).mono (by decide)) ((kP.app' (ok_vof (by decide) (by decide) (by decide) (by decide) (by decide) (by decide)) gP).mono (by decide)) (app_app' gP (Vq.good.of 0 1 0))) (il_cons (I_rUnit2 (kr := [32, 33, 34]) ⟨rfl, rfl, rfl, trivial⟩) (il_cons (I_rApp (kq := [0, 1, 2, 3]) (q := P) (ka := [32, 33, 34]) (a := (Vq.of 0 0 1)) (kr := [35, 36, 37]) ⟨rfl, rfl, rfl, rfl, trivial⟩ ⟨rfl, rfl, rfl, trivial⟩ ⟨rfl, rfl, rfl, trivial⟩ (kP.mono (by decide)) ((ok_vof (by decide) (by decide) (by decide) (by decide) (by decide) (by decide)).mono (by decide)) gP) (il_cons (I_SameVec1 (ka := [17, 18, 19]) (a := (P.app (Vq.of 0 0 1))) (kb := [35, 36, 37]) (b := (P.app' (Vq.of 0 0 1))) ⟨rfl, rfl, rfl, trivial⟩ ⟨rfl, rfl, rfl, trivial⟩ ((kP.app (ok_vof (by decide) (by decide) (by decide) (by decide) (by decide) (by decide)) gP).mono (by decide)) ((kP.app' (ok_vof (by decide) (by decide) (by decide) (by decide) (by decide) (by decide)) gP).mono (by decide)) (app_app' gP (Vq.good.of 0 0 1))) (il_cons (I_fMulT (kp := [0, 1, 2, 3]) (p := P) (kq := [4, 5, 6, 7]) (q := Q) (kr := [38, 39, 40, 41]) ⟨rfl, rfl, rfl, rfl, trivial⟩ ⟨rfl, rfl, rfl, rfl, trivial⟩ ⟨rfl, rfl, rfl, rfl, trivial⟩ (kP.mono (by decide)) (kQ.mono (by decide)) gP gQ) (il_cons (I_rMulT (kp := [0, 1, 2, 3]) (p := P) (kq := [4, 5, 6, 7]) (q := Q) (kr := [38, 39, 40, 41]) ⟨rfl, rfl, rfl, rfl, trivial⟩ ⟨rfl, rfl, rfl, rfl, trivial⟩ ⟨rfl, rfl, rfl, rfl, trivial⟩ (kP.mono (by decide)) (kQ.mono (by decide)) gP gQ) (il_cons (I_rEqual1 (ka := [38, 39, 40, 41]) (a := (P.mul Q)) (kb := [38, 39, 40, 41]) (b := (P.mul Q)) ⟨rfl, rfl, rfl, rfl, trivial⟩ ⟨rfl, rfl, rfl, rfl, trivial⟩ ((kP.mulg kQ gP gQ).mono (by decide)) ((kP.mulg kQ gP gQ).mono (by decide)) rfl) (il_cons (I_fInvT (kq := [0, 1, 2, 3]) (q := P) (kr := [42, 43, 44, 45]) ⟨rfl, rfl, rfl, rfl, trivial⟩ ⟨rfl, rfl, rfl, rfl, trivial⟩ (kP.mono (by decide)) gP) (il_cons (I_rInvT (kq := [0, 1, 2, 3]) (q := P) (kr := [42, 43, 44, 45]) ⟨rfl, rfl, rfl, rfl, trivial⟩ ⟨rfl, rfl, rfl, rfl, trivial⟩ (kP.mono (by decide)) gP) (il_cons (I_rEqual1 (ka := [42, 43, 44, 45]) (a := P.inv) (kb := [42, 43, 44, 45]) (b := P.inv) ⟨rfl, rfl, rfl, rfl, trivial⟩ ⟨rfl, rfl, rfl, rfl, trivial⟩ ((kP.inv gP).mono (by decide)) ((kP.inv gP).mono (by decide)) rfl) (il_cons (I_fApp (kq := [0, 1, 2, 3]) (q := P) (ka := [8, 9, 10]) (a := X) (kr := [46, 47, 48]) ⟨rfl, rfl, rfl, rfl, trivial⟩ ⟨rfl, rfl, rfl, trivial⟩ ⟨rfl, rfl, rfl, trivial⟩ (kP.mono (by decide)) (kX.mono (by decide)) gP) (il_cons (I_rApp (kq := [0, 1, 2, 3]) (q := P) (ka := [8, 9, 10]) (a := X) (kr := [49, 50, 51]) ⟨rfl, rfl, rfl, rfl, trivial⟩ ⟨rfl, rfl, rfl, trivial⟩ ⟨rfl, rfl, rfl, trivial⟩ (kP.mono (by decide)) (kX.mono (by decide)) gP) (il_cons (I_SameVec1 (ka := [46, 47, 48]) (a := (P.app X)) (kb := [49, 50, 51]) (b := (P.app' X)) ⟨rfl, rfl, rfl, trivial⟩ ⟨rfl, rfl, rfl, trivial⟩ ((kP.app kX gP).mono (by decide)) ((kP.app' kX gP).mono (by decide)) (app_app' gP gX)) (il_cons (I_Half1 (kq := [0, 1, 2, 3]) (q := P) ⟨rfl, rfl, rfl, rfl, trivial⟩ (kP.mono (by decide)) c0) (il_cons (I_rHalf1 (kq := [0, 1, 2, 3]) (q := P) ⟨rfl, rfl, rfl, rfl, trivial⟩ (kP.mono (by decide)) c0) (il_cons (I_fId (kr := [52, 53, 54, 55]) ⟨rfl, rfl, rfl, rfl, trivial⟩) (il_cons (I_rId (kr := [52, 53, 54, 55]) ⟨rfl, rfl, rfl, rfl, trivial⟩) (il_cons (I_rEqual1 (ka := [52, 53, 54, 55]) (a := Qq.id) (kb := [52, 53, 54, 55]) (b := Qq.id) ⟨rfl, rfl, rfl, rfl, trivial⟩ ⟨rfl, rfl, rfl, rfl, trivial⟩ (ok_id.mono (by decide)) (ok_id.mono (by decide)) rfl) (il_cons (I_awake ) il_nil))))))))))))))))))))))))))))
      ol_nil (by kernel_rfl) Tryz.func3 (by kernel_rfl) ⟨⟨[_, _, _, _, _, _, _, _], rfl, lr8 rfl _ _, lr8 rfl _ _, lr8 rfl _ _, lr8 rfl _ _, lr8 rfl _ _, lr8 rfl _ _, lr8 rfl _ _, lr8 rfl _ _, trivial⟩, ⟨⟨[_, _, _, _, _, _, _, _], rfl, lr8 rfl _ _, lr8 rfl _ _, lr8 rfl _ _, lr8 rfl _ _, lr8 rfl _ _, lr8 rfl _ _, lr8 rfl _ _, lr8 rfl _ _, trivial⟩, ⟨⟨[_, _, _, _, _, _], rfl, lr8 rfl _ _, lr8 rfl _ _, lr8 rfl _ _, lr8 rfl _ _, lr8 rfl _ _, lr8 rfl _ _, trivial⟩, trivial⟩⟩⟩).mono ?_
    rintro e w' ⟨v, rfl, h1, h2⟩
    exact ⟨congrArg Ending.returned h1, h2⟩
  · refine (calls_runFn (ρ := frs (xRotationComputes1X P Q X a0n a0d a1n a1d a2n a2d a3n a3d b0n b0d b1n b1d b2n b2d b3n b3d v0n v0d v1n v1d v2n v2d) ++ [.val (.int .i8 a0n), .val (.int .i8 a0d), .val (.int .i8 a1n), .val (.int .i8 a1d), .val (.int .i8 a2n), .val (.int .i8 a2d), .val (.int .i8 a3n), .val (.int .i8 a3d), .val (.int .i8 b0n), .val (.int .i8 b0d), .val (.int .i8 b1n), .val (.int .i8 b1d), .val (.int .i8 b2n), .val (.int .i8 b2d), .val (.int .i8 b3n), .val (.int .i8 b3d), .val (.int .i8 v0n), .val (.int .i8 v0d), .val (.int .i8 v1n), .val (.int .i8 v1d), .val (.int .i8 v2n), .val (.int .i8 v2d)]) (w := w) (fuel := 300) (args := [.agg [.ref 168, .ref 169, .ref 170, .ref 171, .ref 172, .ref 173, .ref 174, .ref 175], .agg [.ref 176, .ref 177, .ref 178, .ref 179, .ref 180, .ref 181, .ref 182, .ref 183], .agg [.ref 184, .ref 185, .ref 186, .ref 187, .ref 188, .ref 189]]) (vs := [.agg #[.int .i8 a0n, .int .i8 a0d, .int .i8 a1n, .int .i8 a1d, .int .i8 a2n, .int .i8 a2d, .int .i8 a3n, .int .i8 a3d], .agg #[.int .i8 b0n, .int .i8 b0d, .int .i8 b1n, .int .i8 b1d, .int .i8 b2n, .int .i8 b2d, .int .i8 b3n, .int .i8 b3d], .agg #[.int .i8 v0n, .int .i8 v0d, .int .i8 v1n, .int .i8 v1d, .int .i8 v2n, .int .i8 v2d]]) (r := .v (.one (.b true)))
      (il_cons (I_Quat (ns := [168, 169, 170, 171, 172, 173, 174, 175]) (kr := [0, 1, 2, 3]) (⟨rfl, rfl, rfl, rfl, rfl, rfl, rfl, rfl, trivial⟩) ⟨rfl, rfl, rfl, rfl, trivial⟩ eP la0n ra0n la0d ra0d la1n ra1n la1d ra1d la2n ra2n la2d ra2d la3n ra3n la3d ra3d) (il_cons (I_Quat (ns := [176, 177, 178, 179, 180, 181, 182, 183]) (kr := [4, 5, 6, 7]) (⟨rfl, rfl, rfl, rfl, rfl, rfl, rfl, rfl, trivial⟩) ⟨rfl, rfl, rfl, rfl, trivial⟩ eQ lb0n rb0n lb0d rb0d lb1n rb1n lb1d rb1d lb2n rb2n lb2d rb2d lb3n rb3n lb3d rb3d) (il_cons (I_Vec (ns := [184, 185, 186, 187, 188, 189]) (kr := [8, 9, 10]) (⟨rfl, rfl, rfl, rfl, rfl, rfl, trivial⟩) ⟨rfl, rfl, rfl, trivial⟩ eX lv0n rv0n lv0d rv0d lv1n rv1n lv1d rv1d lv2n rv2n lv2d rv2d) (il_cons (I_Matrix (kq := [0, 1, 2, 3]) (q := P) (kr := [11, 12, 13, 14, 15, 16, 17, 18, 19]) ⟨rfl, rfl, rfl, rfl, trivial⟩ ⟨rfl, rfl, rfl, rfl, rfl, rfl, rfl, rfl, rfl, trivial⟩ (kP.mono (by decide)) gP) (il_cons (I_rUnit0 (kr := [20, 21, 22]) ⟨rfl, rfl, rfl, trivial⟩) (il_cons (I_rApp (kq := [0, 1, 2, 3]) (q := P) (ka := [20, 21, 22]) (a := (Vq.of 1 0 0)) (kr := [23, 24, 25]) ⟨rfl, rfl, rfl, rfl, trivial⟩ ⟨rfl, rfl, rfl, trivial⟩ ⟨rfl, rfl, rfl, trivial⟩ (kP.mono (by decide)) ((ok_vof (by decide) (by decide) (by decide) (by decide) (by decide) (by decide)).mono (by decide)) gP) (il_cons (I_SameVec1 (ka := [11, 12, 13]) (a := (P.app (Vq.of 1 0 0))) (kb := [23, 24, 25]) (b := (P.app' (Vq.of 1 0 0))) ⟨rfl, rfl, rfl, trivial⟩ ⟨rfl, rfl, rfl, trivial⟩ ((kP.app (ok_vof (by decide) (by decide) (by decide) (by decide) (by decide) (by decide)) gP).mono (by decide)) ((kP.app' (ok_vof (by decide) (by decide) (by decide) (by decide) (by decide) (by decide)) gP).mono (by decide)) (app_app' gP (Vq.good.of 1 0 0))) (il_cons (I_rUnit1 (kr := [26, 27, 28]) ⟨rfl, rfl, rfl, trivial⟩) (il_cons (I_rApp (kq := [0, 1, 2, 3]) (q := P) (ka := [26, 27, 28]) (a := (Vq.of 0 1 0)) (kr := [29, 30, 31]) ⟨rfl, rfl, rfl, rfl, trivial⟩ ⟨rfl, rfl, rfl, trivial⟩ ⟨rfl, rfl, rfl, trivial⟩ (kP.mono (by decide)) ((ok_vof (by decide) (by decide) (by decide) (by decide) (by decide) (by decide)).mono (by decide)) gP) (il_cons (I_SameVec1 (ka := [14, 15, 16]) (a := (P.app (Vq.of 0 1 0))) (kb := [29, 30, 31]) (b := (P.app' (Vq.of 0 1 0))) ⟨rfl, rfl, rfl, trivial⟩ ⟨rfl, rfl, rfl, trivial⟩ ((kP.app (ok_vof (by decide) (by decide) (by decide) (by decide) (by decide) (by decide)) gP).mono (by decide)) ((kP.app' (ok_vof (by decide) (by decide) (by decide) (by decide) (by decide) (by decide)) gP).mono (by decide)) (app_app' gP (Vq.good.of 0 1 0))) (il_cons (I_rUnit2 (kr := [32, 33, 34]) ⟨rfl, rfl, rfl, trivial⟩) (il_cons (I_rApp (kq := [0, 1, 2, 3]) (q := P) (ka := [32, 33, 34]) (a := (Vq.of 0 0 1)) (kr := [35, 36, 37]) ⟨rfl, rfl, rfl, rfl, trivial⟩ ⟨rfl, rfl, rfl, trivial⟩ ⟨rfl, rfl, rfl, trivial⟩ (kP.mono (by decide)) ((ok_vof (by decide) (by decide) (by decide) (by decide) (by decide) (by decide)).mono (by decide)) gP) (il_cons (I_SameVec1 (ka := [17, 18, 19]) (a := (P.app (Vq.of 0 0 1))) (kb := [35, 36, 37]) (b := (P.app' (Vq.of 0 0 1))) ⟨rfl, rfl, rfl, trivial⟩ ⟨rfl, rfl, rfl, trivial⟩ ((kP.app (ok_vof (by decide) (by decide) (by decide) (by decide) (by decide) (by decide)) gP).mono (by decide)) ((kP.app' (ok_vof (by decide) (by decide) (by decide) (by decide) (by decide) (by decide)) gP).mono (by decide)) (app_app' gP (Vq.good.of 0 0 1))) (il_cons (I_fMulT (kp := [0, 1, 2, 3]) (p := P) (kq := [4, 5, 6, 7]) (q := Q) (kr := [38, 39, 40, 41]) ⟨rfl, rfl, rfl, rfl, trivial⟩ ⟨rfl, rfl, rfl, rfl, trivial⟩ ⟨rfl, rfl, rfl, rfl, trivial⟩ (kP.mono (by decide)) (kQ.mono (by decide)) gP gQ) (il_cons (I_rMulT (kp := [0, 1, 2, 3]) (p := P) (kq := [4, 5, 6, 7]) (q := Q) (kr := [38, 39, 40, 41]) ⟨rfl, rfl, rfl, rfl, trivial⟩ ⟨rfl, rfl, rfl, rfl, trivial⟩ ⟨rfl, rfl, rfl, rfl, trivial⟩ (kP.mono (by decide)) (kQ.mono (by decide)) gP gQ) (il_cons (I_rEqual1 (ka := [38, 39, 40, 41]) (a := (P.mul Q)) (kb := [38, 39, 40, 41]) (b := (P.mul Q)) ⟨rfl, rfl, rfl, rfl, trivial⟩ ⟨rfl, rfl, rfl, rfl, trivial⟩ ((kP.mulg kQ gP gQ).mono (by decide)) ((kP.mulg kQ gP gQ).mono (by decide)) rfl) (il_cons (I_fInvT (kq := [0, 1, 2, 3]) (q := P) (kr := [42, 43, 44, 45]) ⟨rfl, rfl, rfl, rfl, trivial⟩ ⟨rfl, rfl, rfl, rfl, trivial⟩ (kP.mono (by decide)) gP) (il_cons (I_rInvT (kq := [0, 1, 2, 3]) (q := P) (kr := [42, 43, 44, 45]) ⟨rfl, rfl, rfl, rfl, trivial⟩ ⟨rfl, rfl, rfl, rfl, trivial⟩ (kP.mono (by decide)) gP) (il_cons (I_rEqual1 (ka := [42, 43, 44, 45]) (a := P.inv) (kb := [42, 43, 44, 45]) (b := P.inv) ⟨rfl, rfl, rfl, rfl, trivial⟩ ⟨rfl, rfl, rfl, rfl, trivial⟩ ((kP.inv gP).mono (by decide)) ((kP.inv gP).mono (by decide)) rfl) (il_cons (I_fApp (kq := [0, 1, 2, 3]) (q := P) (ka := [8, 9, 10]) (a := X) (kr := [46, 47, 48]) ⟨rfl, rfl, rfl, rfl, trivial⟩ ⟨rfl, rfl, rfl, trivial⟩ ⟨rfl, rfl, rfl, trivial⟩ (kP.mono (by decide)) (kX.mono (by decide)) gP) (il_cons (I_rApp (kq := [0, 1, 2, 3]) (q := P) (ka := [8, 9, 10]) (a := X) (kr := [49, 50, 51]) ⟨rfl, rfl, rfl, rfl, trivial⟩ ⟨rfl, rfl, rfl, trivial⟩ ⟨rfl, rfl, rfl, trivial⟩ (kP.mono (by decide)) (kX.mono (by decide)) gP) (il_cons (I_SameVec1 (ka := [46, 47, 48]) (a := (P.app X)) (kb := [49, 50, 51]) (b := (P.app' X)) ⟨rfl, rfl, rfl, trivial⟩ ⟨rfl, rfl, rfl, trivial⟩ ((kP.app kX gP).mono (by decide)) ((kP.app' kX gP).mono (by decide)) (app_app' gP gX)) (il_cons (I_Half0 (kq := [0, 1, 2, 3]) (q := P) ⟨rfl, rfl, rfl, rfl, trivial⟩ (kP.mono (by decide)) c0) (il_cons (I_rHalf0 (kq := [0, 1, 2, 3]) (q := P) ⟨rfl, rfl, rfl, rfl, trivial⟩ (kP.mono (by decide)) c0) (il_cons (I_fId (kr := [52, 53, 54, 55]) ⟨rfl, rfl, rfl, rfl, trivial⟩) (il_cons (I_rId (kr := [52, 53, 54, 55]) ⟨rfl, rfl, rfl, rfl, trivial⟩) (il_cons (I_rEqual1 (ka := [52, 53, 54, 55]) (a := Qq.id) (kb := [52, 53, 54, 55]) (b := Qq.id) ⟨rfl, rfl, rfl, rfl, trivial⟩ ⟨rfl, rfl, rfl, rfl, trivial⟩ (ok_id.mono (by decide)) (ok_id.mono (by decide)) rfl) (il_cons (I_awake ) il_nil))))))))))))))))))))))))))))
      ol_nil (by kernel_rfl) Tryz.func3 (by kernel_rfl) ⟨⟨[_, _, _, _, _, _, _, _], rfl, lr8 rfl _ _, lr8 rfl _ _, lr8 rfl _ _, lr8 rfl _ _, lr8 rfl _ _, lr8 rfl _ _, lr8 rfl _ _, lr8 rfl _ _, trivial⟩, ⟨⟨[_, _, _, _, _, _, _, _], rfl, lr8 rfl _ _, lr8 rfl _ _, lr8 rfl _ _, lr8 rfl _ _, lr8 rfl _ _, lr8 rfl _ _, lr8 rfl _ _, lr8 rfl _ _, trivial⟩, ⟨⟨[_, _, _, _, _, _], rfl, lr8 rfl _ _, lr8 rfl _ _, lr8 rfl _ _, lr8 rfl _ _, lr8 rfl _ _, lr8 rfl _ _, trivial⟩, trivial⟩⟩⟩).mono ?_
    rintro e w' ⟨v, rfl, h1, h2⟩
    exact ⟨congrArg Ending.returned h1, h2⟩
end Go.Proofs.YthefidbgjgfeiaaGreat
namespace Go.Proofs.YthefidbgjgfeiaaGreat
set_option linter.unusedSimpArgs false
set_option linter.unusedVariables false
set_option maxRecDepth 100000
open Go.RowKit
open Go.ChangeShapes Go.WideShapes Go.ChangeAt Go.RowKit
def SmallCells (cs : List Value) : Prop := ∀ u ∈ cs, ∃ z : Int, u = .int .i8 z ∧ -128 ≤ z ∧ z ≤ 127
section
variable {H : Type} {enc : TypeId × Value → H} {W : World}
theorem small_cell {fuel : Nat} {cs : List Value} {x : DataW H × List MemPlace} (h : DataW.trod enc Tryz.prog W 0 (fun _ => true) true fuel 22 cs = some x) (hl : cs.length = 1) : SmallCells cs := by
  match cs, hl with
  | [u], _ =>
    obtain ⟨z, g, _, hw⟩ := DataW.trod_int Tryz.underlying22 h
    simp only [Lit.wf, Bool.and_eq_true, decide_eq_true_eq] at hw
    have h1 : IntKind.i8.min = -128 := by decide +kernel
    have h2 : IntKind.i8.max = 127 := by decide +kernel
    intro v hv
    simp only [List.mem_singleton] at hv
    subst hv
    exact ⟨z, by simpa using g, by omega, by omega⟩
theorem small_array {t e : TypeId} {n c : Nat} (ht : Tryz.prog.underlying t = some (.array n e)) (hce : Tryz.prog.cellsOf e = c) (hct : Tryz.prog.cellsOf t = n * c)
    (he : ∀ fuel (cs : List Value) x, DataW.trod enc Tryz.prog W 0 (fun _ => true) true fuel e cs = some x → cs.length = c → SmallCells cs) {fuel : Nat} {cs : List Value} {x : DataW H × List MemPlace}
    (h : DataW.trod enc Tryz.prog W 0 (fun _ => true) true fuel t cs = some x) : SmallCells cs := by
  obtain ⟨xs, m, _, _, hlen, hxs, hg⟩ := DataW.trod_array ht h
  rw [hct] at hlen
  rw [hce] at hg
  intro u hu
  obtain ⟨k, hk, rfl⟩ := List.getElem_of_mem hu
  have hc0 : 0 < c := by
    rcases Nat.eq_zero_or_pos c with h | h
    · rw [h, Nat.mul_zero] at hlen; omega
    · exact h
  have hi : k / c < n := (Nat.div_lt_iff_lt_mul hc0).2 (by rw [← hlen]; exact hk)
  have h1 := hg (k / c) hi
  rw [List.getElem?_eq_getElem (by rw [hxs]; exact hi)] at h1
  have hm := Nat.div_add_mod k c
  have hj := Nat.mod_lt k hc0
  have hnc : k / c * c + c ≤ n * c := by rw [← Nat.succ_mul]; exact Nat.mul_le_mul_right c hi
  have hkc : k / c * c + k % c = k := by rw [Nat.mul_comm]; exact hm
  refine he _ _ _ h1 (by simp; omega) _ ?_
  refine List.mem_iff_getElem?.2 ⟨k % c, ?_⟩
  rw [List.getElem?_take, if_pos hj, List.getElem?_drop, hkc]
  exact List.getElem?_eq_getElem hk
theorem open_small {t : TypeId} {n : Nat} {v : Value} {d : DataW H} {p : List MemPlace} {base : Nat} (ht : ∃ k e, Tryz.prog.underlying t = some (.array k e)) (hn : Tryz.prog.cellsOf t = n)
    (he : ∀ fuel (cs : List Value) x, DataW.trod enc Tryz.prog W 0 (fun _ => true) true fuel t cs = some x → SmallCells cs)
    (hval : Value.okWide Tryz.prog W .any base t v) (h : DataW.Trod enc Tryz.prog W 0 (fun _ => true) true t v d p) : ∃ cs : List Value, v = .agg cs.toArray ∧ cs.length = n ∧ SmallCells cs := by
  obtain ⟨k, e, hu⟩ := ht
  unfold Value.okWide at hval
  rw [hu] at hval
  obtain ⟨cs, rfl, hcs, _⟩ := hval
  obtain ⟨fuel, hf⟩ := h
  exact ⟨cs.toList, by simp, by simp [hcs, hn], he _ _ _ (by simpa [Value.cells] using hf)⟩
theorem small_part {fuel : Nat} {cs : List Value} {x : DataW H × List MemPlace} (h : DataW.trod enc Tryz.prog W 0 (fun _ => true) true fuel 24 cs = some x) : SmallCells cs :=
  small_array (c := 1) (n := 2) Tryz.underlying24 (by kernel_rfl) (by kernel_rfl) (fun _ _ _ h hl => small_cell h hl) h
theorem small_part4 {fuel : Nat} {cs : List Value} {x : DataW H × List MemPlace} (h : DataW.trod enc Tryz.prog W 0 (fun _ => true) true fuel 25 cs = some x) : SmallCells cs :=
  small_array (c := 2) (n := 4) Tryz.underlying25 (by kernel_rfl) (by kernel_rfl) (fun _ _ _ h _ => small_part h) h
theorem small_part3 {fuel : Nat} {cs : List Value} {x : DataW H × List MemPlace} (h : DataW.trod enc Tryz.prog W 0 (fun _ => true) true fuel 26 cs = some x) : SmallCells cs :=
  small_array (c := 2) (n := 3) Tryz.underlying26 (by kernel_rfl) (by kernel_rfl) (fun _ _ _ h _ => small_part h) h
theorem open_small_part4 {v : Value} {d : DataW H} {p : List MemPlace} {base : Nat} (hval : Value.okWide Tryz.prog W .any base 25 v) (h : DataW.Trod enc Tryz.prog W 0 (fun _ => true) true 25 v d p) :
    ∃ z0 z1 z2 z3 z4 z5 z6 z7 : Int, v = .agg #[.int .i8 z0, .int .i8 z1, .int .i8 z2, .int .i8 z3, .int .i8 z4, .int .i8 z5, .int .i8 z6, .int .i8 z7] ∧ (-128 ≤ z0 ∧ z0 ≤ 127) ∧ (-128 ≤ z1 ∧ z1 ≤ 127) ∧ (-128 ≤ z2 ∧ z2 ≤ 127) ∧ (-128 ≤ z3 ∧ z3 ≤ 127) ∧ (-128 ≤ z4 ∧ z4 ≤ 127) ∧ (-128 ≤ z5 ∧ z5 ≤ 127) ∧ (-128 ≤ z6 ∧ z6 ≤ 127) ∧ (-128 ≤ z7 ∧ z7 ≤ 127) := by
  obtain ⟨cs, rfl, hl, hs⟩ := open_small (n := 8) ⟨_, _, Tryz.underlying25⟩ (by kernel_rfl) (fun _ _ _ h => small_part4 h) hval h
  match cs, hl with
  | [uz0, uz1, uz2, uz3, uz4, uz5, uz6, uz7], _ =>
    obtain ⟨z0, ez0, bz0⟩ := hs uz0 (by simp)
    obtain ⟨z1, ez1, bz1⟩ := hs uz1 (by simp)
    obtain ⟨z2, ez2, bz2⟩ := hs uz2 (by simp)
    obtain ⟨z3, ez3, bz3⟩ := hs uz3 (by simp)
    obtain ⟨z4, ez4, bz4⟩ := hs uz4 (by simp)
    obtain ⟨z5, ez5, bz5⟩ := hs uz5 (by simp)
    obtain ⟨z6, ez6, bz6⟩ := hs uz6 (by simp)
    obtain ⟨z7, ez7, bz7⟩ := hs uz7 (by simp)
    subst ez0 ez1 ez2 ez3 ez4 ez5 ez6 ez7
    exact ⟨z0, z1, z2, z3, z4, z5, z6, z7, rfl, bz0, bz1, bz2, bz3, bz4, bz5, bz6, bz7⟩
theorem open_small_part3 {v : Value} {d : DataW H} {p : List MemPlace} {base : Nat} (hval : Value.okWide Tryz.prog W .any base 26 v) (h : DataW.Trod enc Tryz.prog W 0 (fun _ => true) true 26 v d p) :
    ∃ z0 z1 z2 z3 z4 z5 : Int, v = .agg #[.int .i8 z0, .int .i8 z1, .int .i8 z2, .int .i8 z3, .int .i8 z4, .int .i8 z5] ∧ (-128 ≤ z0 ∧ z0 ≤ 127) ∧ (-128 ≤ z1 ∧ z1 ≤ 127) ∧ (-128 ≤ z2 ∧ z2 ≤ 127) ∧ (-128 ≤ z3 ∧ z3 ≤ 127) ∧ (-128 ≤ z4 ∧ z4 ≤ 127) ∧ (-128 ≤ z5 ∧ z5 ≤ 127) := by
  obtain ⟨cs, rfl, hl, hs⟩ := open_small (n := 6) ⟨_, _, Tryz.underlying26⟩ (by kernel_rfl) (fun _ _ _ h => small_part3 h) hval h
  match cs, hl with
  | [uz0, uz1, uz2, uz3, uz4, uz5], _ =>
    obtain ⟨z0, ez0, bz0⟩ := hs uz0 (by simp)
    obtain ⟨z1, ez1, bz1⟩ := hs uz1 (by simp)
    obtain ⟨z2, ez2, bz2⟩ := hs uz2 (by simp)
    obtain ⟨z3, ez3, bz3⟩ := hs uz3 (by simp)
    obtain ⟨z4, ez4, bz4⟩ := hs uz4 (by simp)
    obtain ⟨z5, ez5, bz5⟩ := hs uz5 (by simp)
    subst ez0 ez1 ez2 ez3 ez4 ez5
    exact ⟨z0, z1, z2, z3, z4, z5, rfl, bz0, bz1, bz2, bz3, bz4, bz5⟩
end
end Go.Proofs.YthefidbgjgfeiaaGreat
