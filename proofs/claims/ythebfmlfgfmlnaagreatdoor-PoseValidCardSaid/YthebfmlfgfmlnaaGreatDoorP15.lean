/- Which poses are valid, as they come in. The plain law of poses: they form a group that acts on points and keeps distances. awake of the laws of poses. -/
import Derived.Test.YthebfmlfgfmlnaaGreatDoorP14
namespace Go.Proofs.YthebfmlfgfmlnaaGreatDoor
set_option linter.unusedSimpArgs false
set_option linter.unusedVariables false
set_option maxRecDepth 100000
open Go.RowKit
/-- The parts are valid, the first that is not zero is one. -/
def rawQ (r0 r1 r2 r3 : Rq) : Bool := (r0.vld && (r1.vld && (r2.vld && r3.vld))) && (Qq.mk ⟨r0.s, r0.p, r0.q⟩ ⟨r1.s, r1.p, r1.q⟩ ⟨r2.s, r2.p, r2.q⟩ ⟨r3.s, r3.p, r3.q⟩).first.same (Fq.ofInt 1)
def xpartsYthebfmlfgfmlnaaGreatDoor (r0 r1 r2 r3 : Rq) : List Fq := []
theorem q_partsX (x : Value) (r0 r1 r2 r3 : Rq) (w : World) (h : IsL w x [r0, r1, r2, r3]) : Calls Tryz.prog 84 #[x] w fun e w' => RetL w [r0, r1, r2, r3] e w' := by
  refine (calls_runFn (ρ := frs (xpartsYthebfmlfgfmlnaaGreatDoor r0 r1 r2 r3) ++ [.val (.bool r0.s), .dig r0.L r0.p, .dig r0.N r0.q, .val (.bool r1.s), .dig r1.L r1.p, .dig r1.N r1.q, .val (.bool r2.s), .dig r2.L r2.p, .dig r2.N r2.q, .val (.bool r3.s), .dig r3.L r3.p, .dig r3.N r3.q]) (w := w) (fuel := 300) (args := [rowN [0, 3, 6, 9]]) (vs := [x]) (r := .v (rowN [0, 3, 6, 9]))
    (il_nil) ol_nil (by kernel_rfl) Tryz.func84 (by kernel_rfl) ⟨(rowN_isL (ns := [0, 3, 6, 9]) (rs := [r0, r1, r2, r3]) ⟨⟨rfl, rfl, rfl⟩, ⟨rfl, rfl, rfl⟩, ⟨rfl, rfl, rfl⟩, ⟨rfl, rfl, rfl⟩, trivial⟩).2 h, trivial⟩).mono ?_
  rintro e w' ⟨v, rfl, h1, h2⟩
  exact ⟨v, rfl, (rowN_isL (ns := [0, 3, 6, 9]) (rs := [r0, r1, r2, r3]) ⟨⟨rfl, rfl, rfl⟩, ⟨rfl, rfl, rfl⟩, ⟨rfl, rfl, rfl⟩, ⟨rfl, rfl, rfl⟩, trivial⟩).1 h1, h2⟩
theorem I_partsX {xs : List Fq} {ys : Rho} {ns : List Nat} {r0 r1 r2 r3 : Rq} (hr : AtR (frs xs ++ ys) ns [r0, r1, r2, r3]) : OkI xs ys ⟨84, [rowN ns], .v (rowN ns)⟩ :=
  ⟨enters Tryz.func84 rfl rfl, fun B w vs hB h => by
    match vs, h with
    | [va], h =>
      refine (q_partsX va r0 r1 r2 r3 w ((rowN_isL hr).1 h.1)).mono ?_
      rintro e w' ⟨v, rfl, h1, h2⟩
      exact ⟨v, rfl, (rowN_isL hr).2 h1, h2⟩⟩
def xfValidN0X (r0 r1 r2 r3 : Rq) : List Fq := []
def xfValidN1X (r0 r1 r2 r3 : Rq) : List Fq := []
def xfValidN2X (r0 r1 r2 r3 : Rq) : List Fq := []
def xfValidN3X (r0 r1 r2 r3 : Rq) : List Fq := []
theorem q_fValidN (x : Value) (r0 r1 r2 r3 : Rq) (w : World) (h : IsL w x [r0, r1, r2, r3]) (lr0 : r0.L ≤ 1000000) (nr0 : r0.N ≤ 1000000) (lr1 : r1.L ≤ 1000000) (nr1 : r1.N ≤ 1000000) (lr2 : r2.L ≤ 1000000) (nr2 : r2.N ≤ 1000000) (lr3 : r3.L ≤ 1000000) (nr3 : r3.N ≤ 1000000) (hne : (r0.vld && (r1.vld && (r2.vld && r3.vld))) = false) : Calls Tryz.prog 41 #[x] w fun e w' => RetV w (.bool false) e w' := by
  rcases Bool.eq_false_or_eq_true (r0.vld) with c0 | c0
  · rcases Bool.eq_false_or_eq_true (r1.vld) with c1 | c1
    · rcases Bool.eq_false_or_eq_true (r2.vld) with c2 | c2
      · rcases Bool.eq_false_or_eq_true (r3.vld) with c3 | c3
        · exact absurd hne (by rw [c0, c1, c2, c3]; decide)
        · refine (calls_runFn (ρ := frs (xfValidN0X r0 r1 r2 r3) ++ [.val (.bool r0.s), .dig r0.L r0.p, .dig r0.N r0.q, .val (.bool r1.s), .dig r1.L r1.p, .dig r1.N r1.q, .val (.bool r2.s), .dig r2.L r2.p, .dig r2.N r2.q, .val (.bool r3.s), .dig r3.L r3.p, .dig r3.N r3.q]) (w := w) (fuel := 300) (args := [rowN [0, 3, 6, 9]]) (vs := [x]) (r := .v (.one (.b false)))
            (il_cons (I_partsX (ns := [0, 3, 6, 9]) ⟨⟨rfl, rfl, rfl⟩, ⟨rfl, rfl, rfl⟩, ⟨rfl, rfl, rfl⟩, ⟨rfl, rfl, rfl⟩, trivial⟩) (il_cons (I_fValidX (n := 0) (r := r0) (d := true) ⟨⟨rfl, rfl, rfl⟩, trivial⟩ c0 lr0 nr0) (il_cons (I_fValidX (n := 3) (r := r1) (d := true) ⟨⟨rfl, rfl, rfl⟩, trivial⟩ c1 lr1 nr1) (il_cons (I_fValidX (n := 6) (r := r2) (d := true) ⟨⟨rfl, rfl, rfl⟩, trivial⟩ c2 lr2 nr2) (il_cons (I_fValidX (n := 9) (r := r3) (d := false) ⟨⟨rfl, rfl, rfl⟩, trivial⟩ c3 lr3 nr3) (il_nil)))))) ol_nil (by kernel_rfl) Tryz.func41 (by kernel_rfl) ⟨(rowN_isL (ns := [0, 3, 6, 9]) (rs := [r0, r1, r2, r3]) ⟨⟨rfl, rfl, rfl⟩, ⟨rfl, rfl, rfl⟩, ⟨rfl, rfl, rfl⟩, ⟨rfl, rfl, rfl⟩, trivial⟩).2 h, trivial⟩).mono ?_
          rintro e w' ⟨v, rfl, h1, h2⟩
          exact ⟨congrArg Ending.returned h1, h2⟩
      · refine (calls_runFn (ρ := frs (xfValidN1X r0 r1 r2 r3) ++ [.val (.bool r0.s), .dig r0.L r0.p, .dig r0.N r0.q, .val (.bool r1.s), .dig r1.L r1.p, .dig r1.N r1.q, .val (.bool r2.s), .dig r2.L r2.p, .dig r2.N r2.q, .val (.bool r3.s), .dig r3.L r3.p, .dig r3.N r3.q]) (w := w) (fuel := 300) (args := [rowN [0, 3, 6, 9]]) (vs := [x]) (r := .v (.one (.b false)))
          (il_cons (I_partsX (ns := [0, 3, 6, 9]) ⟨⟨rfl, rfl, rfl⟩, ⟨rfl, rfl, rfl⟩, ⟨rfl, rfl, rfl⟩, ⟨rfl, rfl, rfl⟩, trivial⟩) (il_cons (I_fValidX (n := 0) (r := r0) (d := true) ⟨⟨rfl, rfl, rfl⟩, trivial⟩ c0 lr0 nr0) (il_cons (I_fValidX (n := 3) (r := r1) (d := true) ⟨⟨rfl, rfl, rfl⟩, trivial⟩ c1 lr1 nr1) (il_cons (I_fValidX (n := 6) (r := r2) (d := false) ⟨⟨rfl, rfl, rfl⟩, trivial⟩ c2 lr2 nr2) (il_nil))))) ol_nil (by kernel_rfl) Tryz.func41 (by kernel_rfl) ⟨(rowN_isL (ns := [0, 3, 6, 9]) (rs := [r0, r1, r2, r3]) ⟨⟨rfl, rfl, rfl⟩, ⟨rfl, rfl, rfl⟩, ⟨rfl, rfl, rfl⟩, ⟨rfl, rfl, rfl⟩, trivial⟩).2 h, trivial⟩).mono ?_
        rintro e w' ⟨v, rfl, h1, h2⟩
        exact ⟨congrArg Ending.returned h1, h2⟩
    · refine (calls_runFn (ρ := frs (xfValidN2X r0 r1 r2 r3) ++ [.val (.bool r0.s), .dig r0.L r0.p, .dig r0.N r0.q, .val (.bool r1.s), .dig r1.L r1.p, .dig r1.N r1.q, .val (.bool r2.s), .dig r2.L r2.p, .dig r2.N r2.q, .val (.bool r3.s), .dig r3.L r3.p, .dig r3.N r3.q]) (w := w) (fuel := 300) (args := [rowN [0, 3, 6, 9]]) (vs := [x]) (r := .v (.one (.b false)))
        (il_cons (I_partsX (ns := [0, 3, 6, 9]) ⟨⟨rfl, rfl, rfl⟩, ⟨rfl, rfl, rfl⟩, ⟨rfl, rfl, rfl⟩, ⟨rfl, rfl, rfl⟩, trivial⟩) (il_cons (I_fValidX (n := 0) (r := r0) (d := true) ⟨⟨rfl, rfl, rfl⟩, trivial⟩ c0 lr0 nr0) (il_cons (I_fValidX (n := 3) (r := r1) (d := false) ⟨⟨rfl, rfl, rfl⟩, trivial⟩ c1 lr1 nr1) (il_nil)))) ol_nil (by kernel_rfl) Tryz.func41 (by kernel_rfl) ⟨(rowN_isL (ns := [0, 3, 6, 9]) (rs := [r0, r1, r2, r3]) ⟨⟨rfl, rfl, rfl⟩, ⟨rfl, rfl, rfl⟩, ⟨rfl, rfl, rfl⟩, ⟨rfl, rfl, rfl⟩, trivial⟩).2 h, trivial⟩).mono ?_
      rintro e w' ⟨v, rfl, h1, h2⟩
      exact ⟨congrArg Ending.returned h1, h2⟩
  · refine (calls_runFn (ρ := frs (xfValidN3X r0 r1 r2 r3) ++ [.val (.bool r0.s), .dig r0.L r0.p, .dig r0.N r0.q, .val (.bool r1.s), .dig r1.L r1.p, .dig r1.N r1.q, .val (.bool r2.s), .dig r2.L r2.p, .dig r2.N r2.q, .val (.bool r3.s), .dig r3.L r3.p, .dig r3.N r3.q]) (w := w) (fuel := 300) (args := [rowN [0, 3, 6, 9]]) (vs := [x]) (r := .v (.one (.b false)))
      (il_cons (I_partsX (ns := [0, 3, 6, 9]) ⟨⟨rfl, rfl, rfl⟩, ⟨rfl, rfl, rfl⟩, ⟨rfl, rfl, rfl⟩, ⟨rfl, rfl, rfl⟩, trivial⟩) (il_cons (I_fValidX (n := 0) (r := r0) (d := false) ⟨⟨rfl, rfl, rfl⟩, trivial⟩ c0 lr0 nr0) (il_nil))) ol_nil (by kernel_rfl) Tryz.func41 (by kernel_rfl) ⟨(rowN_isL (ns := [0, 3, 6, 9]) (rs := [r0, r1, r2, r3]) ⟨⟨rfl, rfl, rfl⟩, ⟨rfl, rfl, rfl⟩, ⟨rfl, rfl, rfl⟩, ⟨rfl, rfl, rfl⟩, trivial⟩).2 h, trivial⟩).mono ?_
    rintro e w' ⟨v, rfl, h1, h2⟩
    exact ⟨congrArg Ending.returned h1, h2⟩
def xrValidN0X (r0 r1 r2 r3 : Rq) : List Fq := []
def xrValidN1X (r0 r1 r2 r3 : Rq) : List Fq := []
def xrValidN2X (r0 r1 r2 r3 : Rq) : List Fq := []
def xrValidN3X (r0 r1 r2 r3 : Rq) : List Fq := []
theorem q_rValidN (x : Value) (r0 r1 r2 r3 : Rq) (w : World) (h : IsL w x [r0, r1, r2, r3]) (lr0 : r0.L ≤ 1000000) (nr0 : r0.N ≤ 1000000) (lr1 : r1.L ≤ 1000000) (nr1 : r1.N ≤ 1000000) (lr2 : r2.L ≤ 1000000) (nr2 : r2.N ≤ 1000000) (lr3 : r3.L ≤ 1000000) (nr3 : r3.N ≤ 1000000) (hne : (r0.vld && (r1.vld && (r2.vld && r3.vld))) = false) : Calls Tryz.prog 43 #[x] w fun e w' => RetV w (.bool false) e w' := by
  rcases Bool.eq_false_or_eq_true (r0.vld) with c0 | c0
  · rcases Bool.eq_false_or_eq_true (r1.vld) with c1 | c1
    · rcases Bool.eq_false_or_eq_true (r2.vld) with c2 | c2
      · rcases Bool.eq_false_or_eq_true (r3.vld) with c3 | c3
        · exact absurd hne (by rw [c0, c1, c2, c3]; decide)
        · refine (calls_runFn (ρ := frs (xrValidN0X r0 r1 r2 r3) ++ [.val (.bool r0.s), .dig r0.L r0.p, .dig r0.N r0.q, .val (.bool r1.s), .dig r1.L r1.p, .dig r1.N r1.q, .val (.bool r2.s), .dig r2.L r2.p, .dig r2.N r2.q, .val (.bool r3.s), .dig r3.L r3.p, .dig r3.N r3.q]) (w := w) (fuel := 300) (args := [rowN [0, 3, 6, 9]]) (vs := [x]) (r := .v (.one (.b false)))
            (il_cons (I_rValidX (n := 0) (r := r0) (d := true) ⟨⟨rfl, rfl, rfl⟩, trivial⟩ c0 lr0 nr0) (il_cons (I_rValidX (n := 3) (r := r1) (d := true) ⟨⟨rfl, rfl, rfl⟩, trivial⟩ c1 lr1 nr1) (il_cons (I_rValidX (n := 6) (r := r2) (d := true) ⟨⟨rfl, rfl, rfl⟩, trivial⟩ c2 lr2 nr2) (il_cons (I_rValidX (n := 9) (r := r3) (d := false) ⟨⟨rfl, rfl, rfl⟩, trivial⟩ c3 lr3 nr3) (il_nil))))) ol_nil (by kernel_rfl) Tryz.func43 (by kernel_rfl) ⟨(rowN_isL (ns := [0, 3, 6, 9]) (rs := [r0, r1, r2, r3]) ⟨⟨rfl, rfl, rfl⟩, ⟨rfl, rfl, rfl⟩, ⟨rfl, rfl, rfl⟩, ⟨rfl, rfl, rfl⟩, trivial⟩).2 h, trivial⟩).mono ?_
          rintro e w' ⟨v, rfl, h1, h2⟩
          exact ⟨congrArg Ending.returned h1, h2⟩
      · refine (calls_runFn (ρ := frs (xrValidN1X r0 r1 r2 r3) ++ [.val (.bool r0.s), .dig r0.L r0.p, .dig r0.N r0.q, .val (.bool r1.s), .dig r1.L r1.p, .dig r1.N r1.q, .val (.bool r2.s), .dig r2.L r2.p, .dig r2.N r2.q, .val (.bool r3.s), .dig r3.L r3.p, .dig r3.N r3.q]) (w := w) (fuel := 300) (args := [rowN [0, 3, 6, 9]]) (vs := [x]) (r := .v (.one (.b false)))
          (il_cons (I_rValidX (n := 0) (r := r0) (d := true) ⟨⟨rfl, rfl, rfl⟩, trivial⟩ c0 lr0 nr0) (il_cons (I_rValidX (n := 3) (r := r1) (d := true) ⟨⟨rfl, rfl, rfl⟩, trivial⟩ c1 lr1 nr1) (il_cons (I_rValidX (n := 6) (r := r2) (d := false) ⟨⟨rfl, rfl, rfl⟩, trivial⟩ c2 lr2 nr2) (il_nil)))) ol_nil (by kernel_rfl) Tryz.func43 (by kernel_rfl) ⟨(rowN_isL (ns := [0, 3, 6, 9]) (rs := [r0, r1, r2, r3]) ⟨⟨rfl, rfl, rfl⟩, ⟨rfl, rfl, rfl⟩, ⟨rfl, rfl, rfl⟩, ⟨rfl, rfl, rfl⟩, trivial⟩).2 h, trivial⟩).mono ?_
        rintro e w' ⟨v, rfl, h1, h2⟩
        exact ⟨congrArg Ending.returned h1, h2⟩
    · refine (calls_runFn (ρ := frs (xrValidN2X r0 r1 r2 r3) ++ [.val (.bool r0.s), .dig r0.L r0.p, .dig r0.N r0.q, .val (.bool r1.s), .dig r1.L r1.p, .dig r1.N r1.q, .val (.bool r2.s), .dig r2.L r2.p, .dig r2.N r2.q, .val (.bool r3.s), .dig r3.L r3.p, .dig r3.N r3.q]) (w := w) (fuel := 300) (args := [rowN [0, 3, 6, 9]]) (vs := [x]) (r := .v (.one (.b false)))
        (il_cons (I_rValidX (n := 0) (r := r0) (d := true) ⟨⟨rfl, rfl, rfl⟩, trivial⟩ c0 lr0 nr0) (il_cons (I_rValidX (n := 3) (r := r1) (d := false) ⟨⟨rfl, rfl, rfl⟩, trivial⟩ c1 lr1 nr1) (il_nil))) ol_nil (by kernel_rfl) Tryz.func43 (by kernel_rfl) ⟨(rowN_isL (ns := [0, 3, 6, 9]) (rs := [r0, r1, r2, r3]) ⟨⟨rfl, rfl, rfl⟩, ⟨rfl, rfl, rfl⟩, ⟨rfl, rfl, rfl⟩, ⟨rfl, rfl, rfl⟩, trivial⟩).2 h, trivial⟩).mono ?_
      rintro e w' ⟨v, rfl, h1, h2⟩
      exact ⟨congrArg Ending.returned h1, h2⟩
  · refine (calls_runFn (ρ := frs (xrValidN3X r0 r1 r2 r3) ++ [.val (.bool r0.s), .dig r0.L r0.p, .dig r0.N r0.q, .val (.bool r1.s), .dig r1.L r1.p, .dig r1.N r1.q, .val (.bool r2.s), .dig r2.L r2.p, .dig r2.N r2.q, .val (.bool r3.s), .dig r3.L r3.p, .dig r3.N r3.q]) (w := w) (fuel := 300) (args := [rowN [0, 3, 6, 9]]) (vs := [x]) (r := .v (.one (.b false)))
      (il_cons (I_rValidX (n := 0) (r := r0) (d := false) ⟨⟨rfl, rfl, rfl⟩, trivial⟩ c0 lr0 nr0) (il_nil)) ol_nil (by kernel_rfl) Tryz.func43 (by kernel_rfl) ⟨(rowN_isL (ns := [0, 3, 6, 9]) (rs := [r0, r1, r2, r3]) ⟨⟨rfl, rfl, rfl⟩, ⟨rfl, rfl, rfl⟩, ⟨rfl, rfl, rfl⟩, ⟨rfl, rfl, rfl⟩, trivial⟩).2 h, trivial⟩).mono ?_
    rintro e w' ⟨v, rfl, h1, h2⟩
    exact ⟨congrArg Ending.returned h1, h2⟩
theorem q_fValidB (vq : Value) (q : Qq) (w : World) (iq : IsQt w vq q) (hq : q.ok 1000000) (gc : q.comp) : Calls Tryz.prog 41 #[vq] w fun e w' => RetV w (.bool (q.first.same (Fq.ofInt 1))) e w' := by
  by_cases h : q.first = Fq.ofInt 1
  · rw [Fq.same_iff.2 h]; exact q_fValidT1 vq q w iq hq (good_of gc h)
  · rw [same_ne h]; exact q_fValidT0 vq q w iq hq gc h
theorem q_fValidR4 (x : Value) (r0 r1 r2 r3 : Rq) (w : World) (h : IsL w x [r0, r1, r2, r3]) (lr0 : r0.L ≤ 1000000) (nr0 : r0.N ≤ 1000000) (lr1 : r1.L ≤ 1000000) (nr1 : r1.N ≤ 1000000) (lr2 : r2.L ≤ 1000000) (nr2 : r2.N ≤ 1000000) (lr3 : r3.L ≤ 1000000) (nr3 : r3.N ≤ 1000000) : Calls Tryz.prog 41 #[x] w fun e w' => RetV w (.bool (rawQ r0 r1 r2 r3)) e w' := by
  rcases Bool.eq_false_or_eq_true (r0.vld && (r1.vld && (r2.vld && r3.vld))) with hv | hv
  · unfold rawQ
    rw [hv, Bool.true_and]
    simp only [Bool.and_eq_true] at hv
    obtain ⟨h0, h1, h2, h3⟩ := hv
    have k0 := vld_nl h0; have k1 := vld_nl h1; have k2 := vld_nl h2; have k3 := vld_nl h3
    have m0 := vld_raw h0; have m1 := vld_raw h1; have m2 := vld_raw h2; have m3 := vld_raw h3
    refine q_fValidB x (Qq.mk ⟨r0.s, r0.p, r0.q⟩ ⟨r1.s, r1.p, r1.q⟩ ⟨r2.s, r2.p, r2.q⟩ ⟨r3.s, r3.p, r3.q⟩) w (by have h' := h; rw [m0.1, m1.1, m2.1, m3.1] at h'; exact h') ⟨⟨?_, ?_, Fq.valid.n m0.2⟩, ⟨?_, ?_, Fq.valid.n m1.2⟩, ⟨?_, ?_, Fq.valid.n m2.2⟩, ⟨?_, ?_, Fq.valid.n m3.2⟩⟩ ⟨m0.2, m1.2, m2.2, m3.2⟩
    · show nl r0.p ≤ _; omega
    · show nl r0.q ≤ _; omega
    · show nl r1.p ≤ _; omega
    · show nl r1.q ≤ _; omega
    · show nl r2.p ≤ _; omega
    · show nl r2.q ≤ _; omega
    · show nl r3.p ≤ _; omega
    · show nl r3.q ≤ _; omega
  · unfold rawQ
    rw [hv, Bool.false_and]
    exact q_fValidN x r0 r1 r2 r3 w h lr0 nr0 lr1 nr1 lr2 nr2 lr3 nr3 hv
theorem q_rValidB (vq : Value) (q : Qq) (w : World) (iq : IsQt w vq q) (hq : q.ok 1000000) (gc : q.comp) : Calls Tryz.prog 43 #[vq] w fun e w' => RetV w (.bool (q.first.same (Fq.ofInt 1))) e w' := by
  by_cases h : q.first = Fq.ofInt 1
  · rw [Fq.same_iff.2 h]; exact q_rValidT1 vq q w iq hq (good_of gc h)
  · rw [same_ne h]; exact q_rValidT0 vq q w iq hq gc h
theorem q_rValidR4 (x : Value) (r0 r1 r2 r3 : Rq) (w : World) (h : IsL w x [r0, r1, r2, r3]) (lr0 : r0.L ≤ 1000000) (nr0 : r0.N ≤ 1000000) (lr1 : r1.L ≤ 1000000) (nr1 : r1.N ≤ 1000000) (lr2 : r2.L ≤ 1000000) (nr2 : r2.N ≤ 1000000) (lr3 : r3.L ≤ 1000000) (nr3 : r3.N ≤ 1000000) : Calls Tryz.prog 43 #[x] w fun e w' => RetV w (.bool (rawQ r0 r1 r2 r3)) e w' := by
  rcases Bool.eq_false_or_eq_true (r0.vld && (r1.vld && (r2.vld && r3.vld))) with hv | hv
  · unfold rawQ
    rw [hv, Bool.true_and]
    simp only [Bool.and_eq_true] at hv
    obtain ⟨h0, h1, h2, h3⟩ := hv
    have k0 := vld_nl h0; have k1 := vld_nl h1; have k2 := vld_nl h2; have k3 := vld_nl h3
    have m0 := vld_raw h0; have m1 := vld_raw h1; have m2 := vld_raw h2; have m3 := vld_raw h3
    refine q_rValidB x (Qq.mk ⟨r0.s, r0.p, r0.q⟩ ⟨r1.s, r1.p, r1.q⟩ ⟨r2.s, r2.p, r2.q⟩ ⟨r3.s, r3.p, r3.q⟩) w (by have h' := h; rw [m0.1, m1.1, m2.1, m3.1] at h'; exact h') ⟨⟨?_, ?_, Fq.valid.n m0.2⟩, ⟨?_, ?_, Fq.valid.n m1.2⟩, ⟨?_, ?_, Fq.valid.n m2.2⟩, ⟨?_, ?_, Fq.valid.n m3.2⟩⟩ ⟨m0.2, m1.2, m2.2, m3.2⟩
    · show nl r0.p ≤ _; omega
    · show nl r0.q ≤ _; omega
    · show nl r1.p ≤ _; omega
    · show nl r1.q ≤ _; omega
    · show nl r2.p ≤ _; omega
    · show nl r2.q ≤ _; omega
    · show nl r3.p ≤ _; omega
    · show nl r3.q ≤ _; omega
  · unfold rawQ
    rw [hv, Bool.false_and]
    exact q_rValidN x r0 r1 r2 r3 w h lr0 nr0 lr1 nr1 lr2 nr2 lr3 nr3 hv
def rawV (r0 r1 r2 : Rq) : Bool := r0.vld && (r1.vld && r2.vld)
def rawO (r0 r1 r2 r3 r4 r5 r6 : Rq) : Bool := rawQ r0 r1 r2 r3 && rawV r4 r5 r6
def xvValidR0X (r0 r1 r2 : Rq) : List Fq := []
def xvValidR1X (r0 r1 r2 : Rq) : List Fq := []
def xvValidR2X (r0 r1 r2 : Rq) : List Fq := []
def xvValidR3X (r0 r1 r2 : Rq) : List Fq := []
theorem q_vValidR (x : Value) (r0 r1 r2 : Rq) (w : World) (h : IsL w x [r0, r1, r2]) (lr0 : r0.L ≤ 1000000) (nr0 : r0.N ≤ 1000000) (lr1 : r1.L ≤ 1000000) (nr1 : r1.N ≤ 1000000) (lr2 : r2.L ≤ 1000000) (nr2 : r2.N ≤ 1000000) : Calls Tryz.prog 42 #[x] w fun e w' => RetV w (.bool (rawV r0 r1 r2)) e w' := by
  rcases Bool.eq_false_or_eq_true (r0.vld) with c0 | c0
  · rcases Bool.eq_false_or_eq_true (r1.vld) with c1 | c1
    · rcases Bool.eq_false_or_eq_true (r2.vld) with c2 | c2
      · refine (calls_runFn (ρ := frs (xvValidR0X r0 r1 r2) ++ [.val (.bool r0.s), .dig r0.L r0.p, .dig r0.N r0.q, .val (.bool r1.s), .dig r1.L r1.p, .dig r1.N r1.q, .val (.bool r2.s), .dig r2.L r2.p, .dig r2.N r2.q]) (w := w) (fuel := 300) (args := [rowN [0, 3, 6]]) (vs := [x]) (r := .v (.one (.b true)))
          (il_cons (I_fValidX (n := 0) (r := r0) (d := true) ⟨⟨rfl, rfl, rfl⟩, trivial⟩ c0 lr0 nr0) (il_cons (I_fValidX (n := 3) (r := r1) (d := true) ⟨⟨rfl, rfl, rfl⟩, trivial⟩ c1 lr1 nr1) (il_cons (I_fValidX (n := 6) (r := r2) (d := true) ⟨⟨rfl, rfl, rfl⟩, trivial⟩ c2 lr2 nr2) il_nil)))
          ol_nil (by kernel_rfl) Tryz.func42 (by kernel_rfl) ⟨(rowN_isL (ns := [0, 3, 6]) (rs := [r0, r1, r2]) ⟨⟨rfl, rfl, rfl⟩, ⟨rfl, rfl, rfl⟩, ⟨rfl, rfl, rfl⟩, trivial⟩).2 h, trivial⟩).mono ?_
        rintro e w' ⟨v, rfl, h1, h2⟩
        have h1 : v = .bool _ := h1
        subst h1
        exact ⟨by simp [rawV, c0, c1, c2], h2⟩
      · refine (calls_runFn (ρ := frs (xvValidR1X r0 r1 r2) ++ [.val (.bool r0.s), .dig r0.L r0.p, .dig r0.N r0.q, .val (.bool r1.s), .dig r1.L r1.p, .dig r1.N r1.q, .val (.bool r2.s), .dig r2.L r2.p, .dig r2.N r2.q]) (w := w) (fuel := 300) (args := [rowN [0, 3, 6]]) (vs := [x]) (r := .v (.one (.b false)))
          (il_cons (I_fValidX (n := 0) (r := r0) (d := true) ⟨⟨rfl, rfl, rfl⟩, trivial⟩ c0 lr0 nr0) (il_cons (I_fValidX (n := 3) (r := r1) (d := true) ⟨⟨rfl, rfl, rfl⟩, trivial⟩ c1 lr1 nr1) (il_cons (I_fValidX (n := 6) (r := r2) (d := false) ⟨⟨rfl, rfl, rfl⟩, trivial⟩ c2 lr2 nr2) il_nil)))
          ol_nil (by kernel_rfl) Tryz.func42 (by kernel_rfl) ⟨(rowN_isL (ns := [0, 3, 6]) (rs := [r0, r1, r2]) ⟨⟨rfl, rfl, rfl⟩, ⟨rfl, rfl, rfl⟩, ⟨rfl, rfl, rfl⟩, trivial⟩).2 h, trivial⟩).mono ?_
        rintro e w' ⟨v, rfl, h1, h2⟩
        have h1 : v = .bool _ := h1
        subst h1
        exact ⟨by simp [rawV, c0, c1, c2], h2⟩
    · refine (calls_runFn (ρ := frs (xvValidR2X r0 r1 r2) ++ [.val (.bool r0.s), .dig r0.L r0.p, .dig r0.N r0.q, .val (.bool r1.s), .dig r1.L r1.p, .dig r1.N r1.q, .val (.bool r2.s), .dig r2.L r2.p, .dig r2.N r2.q]) (w := w) (fuel := 300) (args := [rowN [0, 3, 6]]) (vs := [x]) (r := .v (.one (.b false)))
        (il_cons (I_fValidX (n := 0) (r := r0) (d := true) ⟨⟨rfl, rfl, rfl⟩, trivial⟩ c0 lr0 nr0) (il_cons (I_fValidX (n := 3) (r := r1) (d := false) ⟨⟨rfl, rfl, rfl⟩, trivial⟩ c1 lr1 nr1) il_nil))
        ol_nil (by kernel_rfl) Tryz.func42 (by kernel_rfl) ⟨(rowN_isL (ns := [0, 3, 6]) (rs := [r0, r1, r2]) ⟨⟨rfl, rfl, rfl⟩, ⟨rfl, rfl, rfl⟩, ⟨rfl, rfl, rfl⟩, trivial⟩).2 h, trivial⟩).mono ?_
      rintro e w' ⟨v, rfl, h1, h2⟩
      have h1 : v = .bool _ := h1
      subst h1
      exact ⟨by simp [rawV, c0, c1], h2⟩
  · refine (calls_runFn (ρ := frs (xvValidR3X r0 r1 r2) ++ [.val (.bool r0.s), .dig r0.L r0.p, .dig r0.N r0.q, .val (.bool r1.s), .dig r1.L r1.p, .dig r1.N r1.q, .val (.bool r2.s), .dig r2.L r2.p, .dig r2.N r2.q]) (w := w) (fuel := 300) (args := [rowN [0, 3, 6]]) (vs := [x]) (r := .v (.one (.b false)))
      (il_cons (I_fValidX (n := 0) (r := r0) (d := false) ⟨⟨rfl, rfl, rfl⟩, trivial⟩ c0 lr0 nr0) il_nil)
      ol_nil (by kernel_rfl) Tryz.func42 (by kernel_rfl) ⟨(rowN_isL (ns := [0, 3, 6]) (rs := [r0, r1, r2]) ⟨⟨rfl, rfl, rfl⟩, ⟨rfl, rfl, rfl⟩, ⟨rfl, rfl, rfl⟩, trivial⟩).2 h, trivial⟩).mono ?_
    rintro e w' ⟨v, rfl, h1, h2⟩
    have h1 : v = .bool _ := h1
    subst h1
    exact ⟨by simp [rawV, c0], h2⟩
theorem I_vValidR {xs : List Fq} {ys : Rho} {ns : List Nat} {r0 r1 r2 : Rq} {d : Bool} (hr : AtR (frs xs ++ ys) ns [r0, r1, r2]) (hd : rawV r0 r1 r2 = d) (lr0 : r0.L ≤ 1000000) (nr0 : r0.N ≤ 1000000) (lr1 : r1.L ≤ 1000000) (nr1 : r1.N ≤ 1000000) (lr2 : r2.L ≤ 1000000) (nr2 : r2.N ≤ 1000000) : OkI xs ys ⟨42, [rowN ns], .v (.one (.b d))⟩ :=
  ⟨enters Tryz.func42 rfl rfl, fun B w vs hB h => by
    match vs, h with
    | [x], h =>
      refine (q_vValidR x r0 r1 r2 w ((rowN_isL hr).1 h.1) lr0 nr0 lr1 nr1 lr2 nr2).mono ?_
      rintro e w' ⟨rfl, h2⟩
      exact ⟨_, rfl, by subst hd; rfl, h2⟩⟩
def xr4ValidR0X (r0 r1 r2 : Rq) : List Fq := []
def xr4ValidR1X (r0 r1 r2 : Rq) : List Fq := []
def xr4ValidR2X (r0 r1 r2 : Rq) : List Fq := []
def xr4ValidR3X (r0 r1 r2 : Rq) : List Fq := []
theorem q_r4ValidR (x : Value) (r0 r1 r2 : Rq) (w : World) (h : IsL w x [r0, r1, r2]) (lr0 : r0.L ≤ 1000000) (nr0 : r0.N ≤ 1000000) (lr1 : r1.L ≤ 1000000) (nr1 : r1.N ≤ 1000000) (lr2 : r2.L ≤ 1000000) (nr2 : r2.N ≤ 1000000) : Calls Tryz.prog 44 #[x] w fun e w' => RetV w (.bool (rawV r0 r1 r2)) e w' := by
  rcases Bool.eq_false_or_eq_true (r0.vld) with c0 | c0
  · rcases Bool.eq_false_or_eq_true (r1.vld) with c1 | c1
    · rcases Bool.eq_false_or_eq_true (r2.vld) with c2 | c2
      · refine (calls_runFn (ρ := frs (xr4ValidR0X r0 r1 r2) ++ [.val (.bool r0.s), .dig r0.L r0.p, .dig r0.N r0.q, .val (.bool r1.s), .dig r1.L r1.p, .dig r1.N r1.q, .val (.bool r2.s), .dig r2.L r2.p, .dig r2.N r2.q]) (w := w) (fuel := 300) (args := [rowN [0, 3, 6]]) (vs := [x]) (r := .v (.one (.b true)))
          (il_cons (I_rValidX (n := 0) (r := r0) (d := true) ⟨⟨rfl, rfl, rfl⟩, trivial⟩ c0 lr0 nr0) (il_cons (I_rValidX (n := 3) (r := r1) (d := true) ⟨⟨rfl, rfl, rfl⟩, trivial⟩ c1 lr1 nr1) (il_cons (I_rValidX (n := 6) (r := r2) (d := true) ⟨⟨rfl, rfl, rfl⟩, trivial⟩ c2 lr2 nr2) il_nil)))
          ol_nil (by kernel_rfl) Tryz.func44 (by kernel_rfl) ⟨(rowN_isL (ns := [0, 3, 6]) (rs := [r0, r1, r2]) ⟨⟨rfl, rfl, rfl⟩, ⟨rfl, rfl, rfl⟩, ⟨rfl, rfl, rfl⟩, trivial⟩).2 h, trivial⟩).mono ?_
        rintro e w' ⟨v, rfl, h1, h2⟩
        have h1 : v = .bool _ := h1
        subst h1
        exact ⟨by simp [rawV, c0, c1, c2], h2⟩
      · refine (calls_runFn (ρ := frs (xr4ValidR1X r0 r1 r2) ++ [.val (.bool r0.s), .dig r0.L r0.p, .dig r0.N r0.q, .val (.bool r1.s), .dig r1.L r1.p, .dig r1.N r1.q, .val (.bool r2.s), .dig r2.L r2.p, .dig r2.N r2.q]) (w := w) (fuel := 300) (args := [rowN [0, 3, 6]]) (vs := [x]) (r := .v (.one (.b false)))
          (il_cons (I_rValidX (n := 0) (r := r0) (d := true) ⟨⟨rfl, rfl, rfl⟩, trivial⟩ c0 lr0 nr0) (il_cons (I_rValidX (n := 3) (r := r1) (d := true) ⟨⟨rfl, rfl, rfl⟩, trivial⟩ c1 lr1 nr1) (il_cons (I_rValidX (n := 6) (r := r2) (d := false) ⟨⟨rfl, rfl, rfl⟩, trivial⟩ c2 lr2 nr2) il_nil)))
          ol_nil (by kernel_rfl) Tryz.func44 (by kernel_rfl) ⟨(rowN_isL (ns := [0, 3, 6]) (rs := [r0, r1, r2]) ⟨⟨rfl, rfl, rfl⟩, ⟨rfl, rfl, rfl⟩, ⟨rfl, rfl, rfl⟩, trivial⟩).2 h, trivial⟩).mono ?_
        rintro e w' ⟨v, rfl, h1, h2⟩
        have h1 : v = .bool _ := h1
        subst h1
        exact ⟨by simp [rawV, c0, c1, c2], h2⟩
    · refine (calls_runFn (ρ := frs (xr4ValidR2X r0 r1 r2) ++ [.val (.bool r0.s), .dig r0.L r0.p, .dig r0.N r0.q, .val (.bool r1.s), .dig r1.L r1.p, .dig r1.N r1.q, .val (.bool r2.s), .dig r2.L r2.p, .dig r2.N r2.q]) (w := w) (fuel := 300) (args := [rowN [0, 3, 6]]) (vs := [x]) (r := .v (.one (.b false)))
        (il_cons (I_rValidX (n := 0) (r := r0) (d := true) ⟨⟨rfl, rfl, rfl⟩, trivial⟩ c0 lr0 nr0) (il_cons (I_rValidX (n := 3) (r := r1) (d := false) ⟨⟨rfl, rfl, rfl⟩, trivial⟩ c1 lr1 nr1) il_nil))
        ol_nil (by kernel_rfl) Tryz.func44 (by kernel_rfl) ⟨(rowN_isL (ns := [0, 3, 6]) (rs := [r0, r1, r2]) ⟨⟨rfl, rfl, rfl⟩, ⟨rfl, rfl, rfl⟩, ⟨rfl, rfl, rfl⟩, trivial⟩).2 h, trivial⟩).mono ?_
      rintro e w' ⟨v, rfl, h1, h2⟩
      have h1 : v = .bool _ := h1
      subst h1
      exact ⟨by simp [rawV, c0, c1], h2⟩
  · refine (calls_runFn (ρ := frs (xr4ValidR3X r0 r1 r2) ++ [.val (.bool r0.s), .dig r0.L r0.p, .dig r0.N r0.q, .val (.bool r1.s), .dig r1.L r1.p, .dig r1.N r1.q, .val (.bool r2.s), .dig r2.L r2.p, .dig r2.N r2.q]) (w := w) (fuel := 300) (args := [rowN [0, 3, 6]]) (vs := [x]) (r := .v (.one (.b false)))
      (il_cons (I_rValidX (n := 0) (r := r0) (d := false) ⟨⟨rfl, rfl, rfl⟩, trivial⟩ c0 lr0 nr0) il_nil)
      ol_nil (by kernel_rfl) Tryz.func44 (by kernel_rfl) ⟨(rowN_isL (ns := [0, 3, 6]) (rs := [r0, r1, r2]) ⟨⟨rfl, rfl, rfl⟩, ⟨rfl, rfl, rfl⟩, ⟨rfl, rfl, rfl⟩, trivial⟩).2 h, trivial⟩).mono ?_
    rintro e w' ⟨v, rfl, h1, h2⟩
    have h1 : v = .bool _ := h1
    subst h1
    exact ⟨by simp [rawV, c0], h2⟩
theorem I_r4ValidR {xs : List Fq} {ys : Rho} {ns : List Nat} {r0 r1 r2 : Rq} {d : Bool} (hr : AtR (frs xs ++ ys) ns [r0, r1, r2]) (hd : rawV r0 r1 r2 = d) (lr0 : r0.L ≤ 1000000) (nr0 : r0.N ≤ 1000000) (lr1 : r1.L ≤ 1000000) (nr1 : r1.N ≤ 1000000) (lr2 : r2.L ≤ 1000000) (nr2 : r2.N ≤ 1000000) : OkI xs ys ⟨44, [rowN ns], .v (.one (.b d))⟩ :=
  ⟨enters Tryz.func44 rfl rfl, fun B w vs hB h => by
    match vs, h with
    | [x], h =>
      refine (q_r4ValidR x r0 r1 r2 w ((rowN_isL hr).1 h.1) lr0 nr0 lr1 nr1 lr2 nr2).mono ?_
      rintro e w' ⟨rfl, h2⟩
      exact ⟨_, rfl, by subst hd; rfl, h2⟩⟩
theorem I_fValidRB {xs : List Fq} {ys : Rho} {ns : List Nat} {r0 r1 r2 r3 : Rq} {d : Bool} (hr : AtR (frs xs ++ ys) ns [r0, r1, r2, r3]) (hd : rawQ r0 r1 r2 r3 = d) (lr0 : r0.L ≤ 1000000) (nr0 : r0.N ≤ 1000000) (lr1 : r1.L ≤ 1000000) (nr1 : r1.N ≤ 1000000) (lr2 : r2.L ≤ 1000000) (nr2 : r2.N ≤ 1000000) (lr3 : r3.L ≤ 1000000) (nr3 : r3.N ≤ 1000000) : OkI xs ys ⟨41, [rowN ns], .v (.one (.b d))⟩ :=
  ⟨enters Tryz.func41 rfl rfl, fun B w vs hB h => by
    match vs, h with
    | [va], h =>
      refine (q_fValidR4 va r0 r1 r2 r3 w ((rowN_isL hr).1 h.1) lr0 nr0 lr1 nr1 lr2 nr2 lr3 nr3).mono ?_
      rintro e w' ⟨rfl, h2⟩
      exact ⟨_, rfl, by subst hd; rfl, h2⟩⟩
theorem I_rValidRB {xs : List Fq} {ys : Rho} {ns : List Nat} {r0 r1 r2 r3 : Rq} {d : Bool} (hr : AtR (frs xs ++ ys) ns [r0, r1, r2, r3]) (hd : rawQ r0 r1 r2 r3 = d) (lr0 : r0.L ≤ 1000000) (nr0 : r0.N ≤ 1000000) (lr1 : r1.L ≤ 1000000) (nr1 : r1.N ≤ 1000000) (lr2 : r2.L ≤ 1000000) (nr2 : r2.N ≤ 1000000) (lr3 : r3.L ≤ 1000000) (nr3 : r3.N ≤ 1000000) : OkI xs ys ⟨43, [rowN ns], .v (.one (.b d))⟩ :=
  ⟨enters Tryz.func43 rfl rfl, fun B w vs hB h => by
    match vs, h with
    | [va], h =>
      refine (q_rValidR4 va r0 r1 r2 r3 w ((rowN_isL hr).1 h.1) lr0 nr0 lr1 nr1 lr2 nr2 lr3 nr3).mono ?_
      rintro e w' ⟨rfl, h2⟩
      exact ⟨_, rfl, by subst hd; rfl, h2⟩⟩
def xpoValidR0X (r0 r1 r2 r3 r4 r5 r6 : Rq) : List Fq := []
def xpoValidR1X (r0 r1 r2 r3 r4 r5 r6 : Rq) : List Fq := []
def xpoValidR2X (r0 r1 r2 r3 r4 r5 r6 : Rq) : List Fq := []
theorem q_poValidR (x : Value) (r0 r1 r2 r3 r4 r5 r6 : Rq) (w : World) (h : IsL w x [r0, r1, r2, r3, r4, r5, r6]) (lr0 : r0.L ≤ 1000000) (nr0 : r0.N ≤ 1000000) (lr1 : r1.L ≤ 1000000) (nr1 : r1.N ≤ 1000000) (lr2 : r2.L ≤ 1000000) (nr2 : r2.N ≤ 1000000) (lr3 : r3.L ≤ 1000000) (nr3 : r3.N ≤ 1000000) (lr4 : r4.L ≤ 1000000) (nr4 : r4.N ≤ 1000000) (lr5 : r5.L ≤ 1000000) (nr5 : r5.N ≤ 1000000) (lr6 : r6.L ≤ 1000000) (nr6 : r6.N ≤ 1000000) : Calls Tryz.prog 11 #[x] w fun e w' => RetV w (.bool (rawO r0 r1 r2 r3 r4 r5 r6)) e w' := by
  rcases Bool.eq_false_or_eq_true (rawQ r0 r1 r2 r3) with c0 | c0
  · rcases Bool.eq_false_or_eq_true (rawV r4 r5 r6) with c1 | c1
    · refine (calls_runFn (ρ := frs (xpoValidR0X r0 r1 r2 r3 r4 r5 r6) ++ [.val (.bool r0.s), .dig r0.L r0.p, .dig r0.N r0.q, .val (.bool r1.s), .dig r1.L r1.p, .dig r1.N r1.q, .val (.bool r2.s), .dig r2.L r2.p, .dig r2.N r2.q, .val (.bool r3.s), .dig r3.L r3.p, .dig r3.N r3.q, .val (.bool r4.s), .dig r4.L r4.p, .dig r4.N r4.q, .val (.bool r5.s), .dig r5.L r5.p, .dig r5.N r5.q, .val (.bool r6.s), .dig r6.L r6.p, .dig r6.N r6.q]) (w := w) (fuel := 300) (args := [rowN [0, 3, 6, 9, 12, 15, 18]]) (vs := [x]) (r := .v (.one (.b true)))
        (il_cons (I_fValidRB (ns := [0, 3, 6, 9]) (d := true) ⟨⟨rfl, rfl, rfl⟩, ⟨rfl, rfl, rfl⟩, ⟨rfl, rfl, rfl⟩, ⟨rfl, rfl, rfl⟩, trivial⟩ c0 lr0 nr0 lr1 nr1 lr2 nr2 lr3 nr3) (il_cons (I_vValidR (ns := [12, 15, 18]) (d := true) ⟨⟨rfl, rfl, rfl⟩, ⟨rfl, rfl, rfl⟩, ⟨rfl, rfl, rfl⟩, trivial⟩ c1 lr4 nr4 lr5 nr5 lr6 nr6) il_nil))
        ol_nil (by kernel_rfl) Tryz.func11 (by kernel_rfl) ⟨(rowN_isL (ns := [0, 3, 6, 9, 12, 15, 18]) (rs := [r0, r1, r2, r3, r4, r5, r6]) ⟨⟨rfl, rfl, rfl⟩, ⟨rfl, rfl, rfl⟩, ⟨rfl, rfl, rfl⟩, ⟨rfl, rfl, rfl⟩, ⟨rfl, rfl, rfl⟩, ⟨rfl, rfl, rfl⟩, ⟨rfl, rfl, rfl⟩, trivial⟩).2 h, trivial⟩).mono ?_
      rintro e w' ⟨v, rfl, h1, h2⟩
      have h1 : v = .bool _ := h1
      subst h1
      exact ⟨by simp [rawO, c0, c1], h2⟩
    · refine (calls_runFn (ρ := frs (xpoValidR1X r0 r1 r2 r3 r4 r5 r6) ++ [.val (.bool r0.s), .dig r0.L r0.p, .dig r0.N r0.q, .val (.bool r1.s), .dig r1.L r1.p, .dig r1.N r1.q, .val (.bool r2.s), .dig r2.L r2.p, .dig r2.N r2.q, .val (.bool r3.s), .dig r3.L r3.p, .dig r3.N r3.q, .val (.bool r4.s), .dig r4.L r4.p, .dig r4.N r4.q, .val (.bool r5.s), .dig r5.L r5.p, .dig r5.N r5.q, .val (.bool r6.s), .dig r6.L r6.p, .dig r6.N r6.q]) (w := w) (fuel := 300) (args := [rowN [0, 3, 6, 9, 12, 15, 18]]) (vs := [x]) (r := .v (.one (.b false)))
        (il_cons (I_fValidRB (ns := [0, 3, 6, 9]) (d := true) ⟨⟨rfl, rfl, rfl⟩, ⟨rfl, rfl, rfl⟩, ⟨rfl, rfl, rfl⟩, ⟨rfl, rfl, rfl⟩, trivial⟩ c0 lr0 nr0 lr1 nr1 lr2 nr2 lr3 nr3) (il_cons (I_vValidR (ns := [12, 15, 18]) (d := false) ⟨⟨rfl, rfl, rfl⟩, ⟨rfl, rfl, rfl⟩, ⟨rfl, rfl, rfl⟩, trivial⟩ c1 lr4 nr4 lr5 nr5 lr6 nr6) il_nil))
        ol_nil (by kernel_rfl) Tryz.func11 (by kernel_rfl) ⟨(rowN_isL (ns := [0, 3, 6, 9, 12, 15, 18]) (rs := [r0, r1, r2, r3, r4, r5, r6]) ⟨⟨rfl, rfl, rfl⟩, ⟨rfl, rfl, rfl⟩, ⟨rfl, rfl, rfl⟩, ⟨rfl, rfl, rfl⟩, ⟨rfl, rfl, rfl⟩, ⟨rfl, rfl, rfl⟩, ⟨rfl, rfl, rfl⟩, trivial⟩).2 h, trivial⟩).mono ?_
      rintro e w' ⟨v, rfl, h1, h2⟩
      have h1 : v = .bool _ := h1
      subst h1
      exact ⟨by simp [rawO, c0, c1], h2⟩
  · refine (calls_runFn (ρ := frs (xpoValidR2X r0 r1 r2 r3 r4 r5 r6) ++ [.val (.bool r0.s), .dig r0.L r0.p, .dig r0.N r0.q, .val (.bool r1.s), .dig r1.L r1.p, .dig r1.N r1.q, .val (.bool r2.s), .dig r2.L r2.p, .dig r2.N r2.q, .val (.bool r3.s), .dig r3.L r3.p, .dig r3.N r3.q, .val (.bool r4.s), .dig r4.L r4.p, .dig r4.N r4.q, .val (.bool r5.s), .dig r5.L r5.p, .dig r5.N r5.q, .val (.bool r6.s), .dig r6.L r6.p, .dig r6.N r6.q]) (w := w) (fuel := 300) (args := [rowN [0, 3, 6, 9, 12, 15, 18]]) (vs := [x]) (r := .v (.one (.b false)))
      (il_cons (I_fValidRB (ns := [0, 3, 6, 9]) (d := false) ⟨⟨rfl, rfl, rfl⟩, ⟨rfl, rfl, rfl⟩, ⟨rfl, rfl, rfl⟩, ⟨rfl, rfl, rfl⟩, trivial⟩ c0 lr0 nr0 lr1 nr1 lr2 nr2 lr3 nr3) il_nil)
      ol_nil (by kernel_rfl) Tryz.func11 (by kernel_rfl) ⟨(rowN_isL (ns := [0, 3, 6, 9, 12, 15, 18]) (rs := [r0, r1, r2, r3, r4, r5, r6]) ⟨⟨rfl, rfl, rfl⟩, ⟨rfl, rfl, rfl⟩, ⟨rfl, rfl, rfl⟩, ⟨rfl, rfl, rfl⟩, ⟨rfl, rfl, rfl⟩, ⟨rfl, rfl, rfl⟩, ⟨rfl, rfl, rfl⟩, trivial⟩).2 h, trivial⟩).mono ?_
    rintro e w' ⟨v, rfl, h1, h2⟩
    have h1 : v = .bool _ := h1
    subst h1
    exact ⟨by simp [rawO, c0], h2⟩
theorem I_poValidR {xs : List Fq} {ys : Rho} {ns : List Nat} {r0 r1 r2 r3 r4 r5 r6 : Rq} {d : Bool} (hr : AtR (frs xs ++ ys) ns [r0, r1, r2, r3, r4, r5, r6]) (hd : rawO r0 r1 r2 r3 r4 r5 r6 = d) (lr0 : r0.L ≤ 1000000) (nr0 : r0.N ≤ 1000000) (lr1 : r1.L ≤ 1000000) (nr1 : r1.N ≤ 1000000) (lr2 : r2.L ≤ 1000000) (nr2 : r2.N ≤ 1000000) (lr3 : r3.L ≤ 1000000) (nr3 : r3.N ≤ 1000000) (lr4 : r4.L ≤ 1000000) (nr4 : r4.N ≤ 1000000) (lr5 : r5.L ≤ 1000000) (nr5 : r5.N ≤ 1000000) (lr6 : r6.L ≤ 1000000) (nr6 : r6.N ≤ 1000000) : OkI xs ys ⟨11, [rowN ns], .v (.one (.b d))⟩ :=
  ⟨enters Tryz.func11 rfl rfl, fun B w vs hB h => by
    match vs, h with
    | [x], h =>
      refine (q_poValidR x r0 r1 r2 r3 r4 r5 r6 w ((rowN_isL hr).1 h.1) lr0 nr0 lr1 nr1 lr2 nr2 lr3 nr3 lr4 nr4 lr5 nr5 lr6 nr6).mono ?_
      rintro e w' ⟨rfl, h2⟩
      exact ⟨_, rfl, by subst hd; rfl, h2⟩⟩
def xrpValidR0X (r0 r1 r2 r3 r4 r5 r6 : Rq) : List Fq := []
def xrpValidR1X (r0 r1 r2 r3 r4 r5 r6 : Rq) : List Fq := []
def xrpValidR2X (r0 r1 r2 r3 r4 r5 r6 : Rq) : List Fq := []
theorem q_rpValidR (x : Value) (r0 r1 r2 r3 r4 r5 r6 : Rq) (w : World) (h : IsL w x [r0, r1, r2, r3, r4, r5, r6]) (lr0 : r0.L ≤ 1000000) (nr0 : r0.N ≤ 1000000) (lr1 : r1.L ≤ 1000000) (nr1 : r1.N ≤ 1000000) (lr2 : r2.L ≤ 1000000) (nr2 : r2.N ≤ 1000000) (lr3 : r3.L ≤ 1000000) (nr3 : r3.N ≤ 1000000) (lr4 : r4.L ≤ 1000000) (nr4 : r4.N ≤ 1000000) (lr5 : r5.L ≤ 1000000) (nr5 : r5.N ≤ 1000000) (lr6 : r6.L ≤ 1000000) (nr6 : r6.N ≤ 1000000) : Calls Tryz.prog 12 #[x] w fun e w' => RetV w (.bool (rawO r0 r1 r2 r3 r4 r5 r6)) e w' := by
  rcases Bool.eq_false_or_eq_true (rawQ r0 r1 r2 r3) with c0 | c0
  · rcases Bool.eq_false_or_eq_true (rawV r4 r5 r6) with c1 | c1
    · refine (calls_runFn (ρ := frs (xrpValidR0X r0 r1 r2 r3 r4 r5 r6) ++ [.val (.bool r0.s), .dig r0.L r0.p, .dig r0.N r0.q, .val (.bool r1.s), .dig r1.L r1.p, .dig r1.N r1.q, .val (.bool r2.s), .dig r2.L r2.p, .dig r2.N r2.q, .val (.bool r3.s), .dig r3.L r3.p, .dig r3.N r3.q, .val (.bool r4.s), .dig r4.L r4.p, .dig r4.N r4.q, .val (.bool r5.s), .dig r5.L r5.p, .dig r5.N r5.q, .val (.bool r6.s), .dig r6.L r6.p, .dig r6.N r6.q]) (w := w) (fuel := 300) (args := [rowN [0, 3, 6, 9, 12, 15, 18]]) (vs := [x]) (r := .v (.one (.b true)))
        (il_cons (I_rValidRB (ns := [0, 3, 6, 9]) (d := true) ⟨⟨rfl, rfl, rfl⟩, ⟨rfl, rfl, rfl⟩, ⟨rfl, rfl, rfl⟩, ⟨rfl, rfl, rfl⟩, trivial⟩ c0 lr0 nr0 lr1 nr1 lr2 nr2 lr3 nr3) (il_cons (I_r4ValidR (ns := [12, 15, 18]) (d := true) ⟨⟨rfl, rfl, rfl⟩, ⟨rfl, rfl, rfl⟩, ⟨rfl, rfl, rfl⟩, trivial⟩ c1 lr4 nr4 lr5 nr5 lr6 nr6) il_nil))
        ol_nil (by kernel_rfl) Tryz.func12 (by kernel_rfl) ⟨(rowN_isL (ns := [0, 3, 6, 9, 12, 15, 18]) (rs := [r0, r1, r2, r3, r4, r5, r6]) ⟨⟨rfl, rfl, rfl⟩, ⟨rfl, rfl, rfl⟩, ⟨rfl, rfl, rfl⟩, ⟨rfl, rfl, rfl⟩, ⟨rfl, rfl, rfl⟩, ⟨rfl, rfl, rfl⟩, ⟨rfl, rfl, rfl⟩, trivial⟩).2 h, trivial⟩).mono ?_
      rintro e w' ⟨v, rfl, h1, h2⟩
      have h1 : v = .bool _ := h1
      subst h1
      exact ⟨by simp [rawO, c0, c1], h2⟩
    · refine (calls_runFn (ρ := frs (xrpValidR1X r0 r1 r2 r3 r4 r5 r6) ++ [.val (.bool r0.s), .dig r0.L r0.p, .dig r0.N r0.q, .val (.bool r1.s), .dig r1.L r1.p, .dig r1.N r1.q, .val (.bool r2.s), .dig r2.L r2.p, .dig r2.N r2.q, .val (.bool r3.s), .dig r3.L r3.p, .dig r3.N r3.q, .val (.bool r4.s), .dig r4.L r4.p, .dig r4.N r4.q, .val (.bool r5.s), .dig r5.L r5.p, .dig r5.N r5.q, .val (.bool r6.s), .dig r6.L r6.p, .dig r6.N r6.q]) (w := w) (fuel := 300) (args := [rowN [0, 3, 6, 9, 12, 15, 18]]) (vs := [x]) (r := .v (.one (.b false)))
        (il_cons (I_rValidRB (ns := [0, 3, 6, 9]) (d := true) ⟨⟨rfl, rfl, rfl⟩, ⟨rfl, rfl, rfl⟩, ⟨rfl, rfl, rfl⟩, ⟨rfl, rfl, rfl⟩, trivial⟩ c0 lr0 nr0 lr1 nr1 lr2 nr2 lr3 nr3) (il_cons (I_r4ValidR (ns := [12, 15, 18]) (d := false) ⟨⟨rfl, rfl, rfl⟩, ⟨rfl, rfl, rfl⟩, ⟨rfl, rfl, rfl⟩, trivial⟩ c1 lr4 nr4 lr5 nr5 lr6 nr6) il_nil))
        ol_nil (by kernel_rfl) Tryz.func12 (by kernel_rfl) ⟨(rowN_isL (ns := [0, 3, 6, 9, 12, 15, 18]) (rs := [r0, r1, r2, r3, r4, r5, r6]) ⟨⟨rfl, rfl, rfl⟩, ⟨rfl, rfl, rfl⟩, ⟨rfl, rfl, rfl⟩, ⟨rfl, rfl, rfl⟩, ⟨rfl, rfl, rfl⟩, ⟨rfl, rfl, rfl⟩, ⟨rfl, rfl, rfl⟩, trivial⟩).2 h, trivial⟩).mono ?_
      rintro e w' ⟨v, rfl, h1, h2⟩
      have h1 : v = .bool _ := h1
      subst h1
      exact ⟨by simp [rawO, c0, c1], h2⟩
  · refine (calls_runFn (ρ := frs (xrpValidR2X r0 r1 r2 r3 r4 r5 r6) ++ [.val (.bool r0.s), .dig r0.L r0.p, .dig r0.N r0.q, .val (.bool r1.s), .dig r1.L r1.p, .dig r1.N r1.q, .val (.bool r2.s), .dig r2.L r2.p, .dig r2.N r2.q, .val (.bool r3.s), .dig r3.L r3.p, .dig r3.N r3.q, .val (.bool r4.s), .dig r4.L r4.p, .dig r4.N r4.q, .val (.bool r5.s), .dig r5.L r5.p, .dig r5.N r5.q, .val (.bool r6.s), .dig r6.L r6.p, .dig r6.N r6.q]) (w := w) (fuel := 300) (args := [rowN [0, 3, 6, 9, 12, 15, 18]]) (vs := [x]) (r := .v (.one (.b false)))
      (il_cons (I_rValidRB (ns := [0, 3, 6, 9]) (d := false) ⟨⟨rfl, rfl, rfl⟩, ⟨rfl, rfl, rfl⟩, ⟨rfl, rfl, rfl⟩, ⟨rfl, rfl, rfl⟩, trivial⟩ c0 lr0 nr0 lr1 nr1 lr2 nr2 lr3 nr3) il_nil)
      ol_nil (by kernel_rfl) Tryz.func12 (by kernel_rfl) ⟨(rowN_isL (ns := [0, 3, 6, 9, 12, 15, 18]) (rs := [r0, r1, r2, r3, r4, r5, r6]) ⟨⟨rfl, rfl, rfl⟩, ⟨rfl, rfl, rfl⟩, ⟨rfl, rfl, rfl⟩, ⟨rfl, rfl, rfl⟩, ⟨rfl, rfl, rfl⟩, ⟨rfl, rfl, rfl⟩, ⟨rfl, rfl, rfl⟩, trivial⟩).2 h, trivial⟩).mono ?_
    rintro e w' ⟨v, rfl, h1, h2⟩
    have h1 : v = .bool _ := h1
    subst h1
    exact ⟨by simp [rawO, c0], h2⟩
theorem I_rpValidR {xs : List Fq} {ys : Rho} {ns : List Nat} {r0 r1 r2 r3 r4 r5 r6 : Rq} {d : Bool} (hr : AtR (frs xs ++ ys) ns [r0, r1, r2, r3, r4, r5, r6]) (hd : rawO r0 r1 r2 r3 r4 r5 r6 = d) (lr0 : r0.L ≤ 1000000) (nr0 : r0.N ≤ 1000000) (lr1 : r1.L ≤ 1000000) (nr1 : r1.N ≤ 1000000) (lr2 : r2.L ≤ 1000000) (nr2 : r2.N ≤ 1000000) (lr3 : r3.L ≤ 1000000) (nr3 : r3.N ≤ 1000000) (lr4 : r4.L ≤ 1000000) (nr4 : r4.N ≤ 1000000) (lr5 : r5.L ≤ 1000000) (nr5 : r5.N ≤ 1000000) (lr6 : r6.L ≤ 1000000) (nr6 : r6.N ≤ 1000000) : OkI xs ys ⟨12, [rowN ns], .v (.one (.b d))⟩ :=
  ⟨enters Tryz.func12 rfl rfl, fun B w vs hB h => by
    match vs, h with
    | [x], h =>
      refine (q_rpValidR x r0 r1 r2 r3 r4 r5 r6 w ((rowN_isL hr).1 h.1) lr0 nr0 lr1 nr1 lr2 nr2 lr3 nr3 lr4 nr4 lr5 nr5 lr6 nr6).mono ?_
      rintro e w' ⟨rfl, h2⟩
      exact ⟨_, rfl, by subst hd; rfl, h2⟩⟩
end Go.Proofs.YthebfmlfgfmlnaaGreatDoor
namespace Go.Proofs.YthebfmlfgfmlnaaGreatDoor
set_option linter.unusedSimpArgs false
set_option linter.unusedVariables false
set_option maxRecDepth 100000
open Go.RowKit
def VR.add (a b : VR) : VR := ⟨a.x + b.x, a.y + b.y, a.z + b.z⟩
def VR.sub (a b : VR) : VR := ⟨a.x - b.x, a.y - b.y, a.z - b.z⟩
section
variable {p q : Qq} {x y v u : Vq} {a b c : Pq}
theorem Pq.ext' (h : a.rot = b.rot) (k : a.pos = b.pos) : a = b := by cases a; cases b; simp only at h k; subst h; subst k; rfl
-- the action
end
end Go.Proofs.YthebfmlfgfmlnaaGreatDoor
namespace Go.Proofs.YthebfmlfgfmlnaaGreatDoor
set_option linter.unusedSimpArgs false
set_option linter.unusedVariables false
set_option maxRecDepth 100000
open Go.RowKit
/-- The pose of the examples. -/
def Turn : Pq := ⟨⟨Fq.ofInt 1, Fq.ofInt 0, Fq.ofInt 0, Fq.ofInt 1⟩, Vq.of 1 2 3⟩
def Turn2 : Pq := ⟨⟨Fq.ofInt 0, Fq.ofInt 0, Fq.ofInt 0, Fq.ofInt 1⟩, Vq.of (-1) 3 6⟩
def TurnI : Pq := ⟨⟨Fq.ofInt 1, Fq.ofInt 0, Fq.ofInt 0, Fq.ofInt (-1)⟩, Vq.of (-2) 1 (-3)⟩
def Turn3 : Pq := ⟨⟨Fq.ofInt 2, Fq.ofInt 0, Fq.ofInt 0, Fq.ofInt 1⟩, Vq.of 1 2 3⟩
theorem ok_i {u : Int} (l : -9223372036854775808 ≤ u) (r : u < 9223372036854775808) : (Fq.ofInt u).ok 4 := (ok_int l r).mono (by decide)
theorem ok_Turn : Turn.ok 4 := ⟨⟨ok_i (by decide) (by decide), ok_i (by decide) (by decide), ok_i (by decide) (by decide), ok_i (by decide) (by decide)⟩, ⟨ok_i (by decide) (by decide), ok_i (by decide) (by decide), ok_i (by decide) (by decide)⟩⟩
theorem ok_Turn2 : Turn2.ok 4 := ⟨⟨ok_i (by decide) (by decide), ok_i (by decide) (by decide), ok_i (by decide) (by decide), ok_i (by decide) (by decide)⟩, ⟨ok_i (by decide) (by decide), ok_i (by decide) (by decide), ok_i (by decide) (by decide)⟩⟩
theorem ok_TurnI : TurnI.ok 4 := ⟨⟨ok_i (by decide) (by decide), ok_i (by decide) (by decide), ok_i (by decide) (by decide), ok_i (by decide) (by decide)⟩, ⟨ok_i (by decide) (by decide), ok_i (by decide) (by decide), ok_i (by decide) (by decide)⟩⟩
theorem ok_Turn3 : Turn3.ok 4 := ⟨⟨ok_i (by decide) (by decide), ok_i (by decide) (by decide), ok_i (by decide) (by decide), ok_i (by decide) (by decide)⟩, ⟨ok_i (by decide) (by decide), ok_i (by decide) (by decide), ok_i (by decide) (by decide)⟩⟩
theorem good_Turn : Turn.good := ⟨good_of ⟨ofInt_valid _, ofInt_valid _, ofInt_valid _, ofInt_valid _⟩ rfl, Vq.good.of 1 2 3⟩
theorem fm0 : (Fq.ofInt 0).fmt = ByteArray.mk #[48] := by show fmtB 0 = _; unfold fmtB; rw [if_pos rfl]
theorem fm1 : (Fq.ofInt 1).fmt = ByteArray.mk #[49] := by show fmtB 1 = _; unfold fmtB; rw [if_neg (by decide)]; decide +kernel
theorem fm2 : (Fq.ofInt 2).fmt = ByteArray.mk #[50] := by show fmtB 2 = _; unfold fmtB; rw [if_neg (by decide)]; decide +kernel
theorem fm3 : (Fq.ofInt 3).fmt = ByteArray.mk #[51] := by show fmtB 3 = _; unfold fmtB; rw [if_neg (by decide)]; decide +kernel
theorem fm6 : (Fq.ofInt 6).fmt = ByteArray.mk #[54] := by show fmtB 6 = _; unfold fmtB; rw [if_neg (by decide)]; decide +kernel
theorem fmm1 : (Fq.ofInt (-1)).fmt = ByteArray.mk #[45, 49] := by show ({ data := #[45] } : ByteArray) ++ fmtB 1 = _; unfold fmtB; rw [if_neg (by decide)]; decide +kernel
theorem fmm2 : (Fq.ofInt (-2)).fmt = ByteArray.mk #[45, 50] := by show ({ data := #[45] } : ByteArray) ++ fmtB 2 = _; unfold fmtB; rw [if_neg (by decide)]; decide +kernel
theorem fmm3 : (Fq.ofInt (-3)).fmt = ByteArray.mk #[45, 51] := by show ({ data := #[45] } : ByteArray) ++ fmtB 3 = _; unfold fmtB; rw [if_neg (by decide)]; decide +kernel
def tB : ByteArray := ByteArray.mk #[49, 32, 48, 32, 48, 32, 49, 32, 49, 32, 50, 32, 51]
def t2B : ByteArray := ByteArray.mk #[48, 32, 48, 32, 48, 32, 49, 32, 45, 49, 32, 51, 32, 54]
def tIB : ByteArray := ByteArray.mk #[49, 32, 48, 32, 48, 32, 45, 49, 32, 45, 50, 32, 49, 32, 45, 51]
def tSB : ByteArray := ByteArray.mk #[49, 32, 48, 32, 48, 32, 49, 32, 49, 32, 50]
def t3B : ByteArray := ByteArray.mk #[50, 32, 48, 32, 48, 32, 49, 32, 49, 32, 50, 32, 51]
theorem tx : Turn.text = tB := by
  show joinB [(Fq.ofInt 1).fmt, (Fq.ofInt 0).fmt, (Fq.ofInt 0).fmt, (Fq.ofInt 1).fmt, (Fq.ofInt 1).fmt, (Fq.ofInt 2).fmt, (Fq.ofInt 3).fmt] = _
  rw [fm0, fm1, fm2, fm3]; decide +kernel
theorem m2 : Turn.mul Turn = Turn2 := Pq.ext' (Qq.same_iff.1 (by decide +kernel)) (Vq.same_iff.1 (by decide +kernel))
theorem mI : Turn.inv = TurnI := Pq.ext' (Qq.same_iff.1 (by decide +kernel)) (Vq.same_iff.1 (by decide +kernel))
theorem tx2 : (Turn.mul Turn).text = t2B := by
  rw [m2]
  show joinB [(Fq.ofInt 0).fmt, (Fq.ofInt 0).fmt, (Fq.ofInt 0).fmt, (Fq.ofInt 1).fmt, (Fq.ofInt (-1)).fmt, (Fq.ofInt 3).fmt, (Fq.ofInt 6).fmt] = _
  rw [fm0, fm1, fmm1, fm3, fm6]; decide +kernel
theorem txI : Turn.inv.text = tIB := by
  rw [mI]
  show joinB [(Fq.ofInt 1).fmt, (Fq.ofInt 0).fmt, (Fq.ofInt 0).fmt, (Fq.ofInt (-1)).fmt, (Fq.ofInt (-2)).fmt, (Fq.ofInt 1).fmt, (Fq.ofInt (-3)).fmt] = _
  rw [fm0, fm1, fmm1, fmm2, fmm3]; decide +kernel
theorem pdT : PD tB Turn 0 := by rw [← tx]; exact pd_text good_Turn (ok_Turn.mono (by decide))
theorem pdS : PD tSB .zero 2 := .form (by decide +kernel)
theorem pd3 : PD t3B .zero 4 := by
  have f : ∀ {x : Fq}, x.valid = true → x.ok 4 → FP x.fmt x 0 := fun h1 h2 => fmt_fp h1 (Nat.le_trans h2.p (by decide)) (Nat.le_trans h2.q (by decide))
  have e : parts t3B = [(Fq.ofInt 2).fmt, (Fq.ofInt 0).fmt, (Fq.ofInt 0).fmt, (Fq.ofInt 1).fmt, (Fq.ofInt 1).fmt, (Fq.ofInt 2).fmt, (Fq.ofInt 3).fmt] := by rw [fm0, fm1, fm2, fm3]; decide +kernel
  exact .range e (f (ofInt_valid _) ok_Turn3.rot.w) (f (ofInt_valid _) ok_Turn3.rot.x) (f (ofInt_valid _) ok_Turn3.rot.y) (f (ofInt_valid _) ok_Turn3.rot.z) (f (ofInt_valid _) ok_Turn3.pos.x) (f (ofInt_valid _) ok_Turn3.pos.y) (f (ofInt_valid _) ok_Turn3.pos.z) (fun h => absurd (Fq.same_iff.2 h) (by decide +kernel))
theorem o_eqSS {ρ : Rho} {t : TypeId} {s : ByteArray} : (OIns.mk (.bin .eql t) [.one (.s s), .one (.s s)] (.one (.b true))).Ok Tryz.prog ρ := fun B w vs hv => by
  match vs, hv with
  | [v1, v2], hv =>
    have e : v1 = .string s := hv.1
    have e2 : v2 = .string s := hv.2.1
    subst e; subst e2
    exact ⟨.bool true, rfl, fun xo yo => by simp [eqGuard, binOp, Op.stringOp, Sem.run_bind, Result.andThen]⟩
theorem lS {ρ : Rho} {a b : ByteArray} (h : a = b) : ∀ B w, (Leaf.s b).holds ρ B w (.string a) := fun _ _ => by subst h; rfl
theorem z7 : nl 0 ≤ 1000000 := by rw [nl_zero]; decide
theorem zvld : Fq.zero.raw.vld = false := by simp [Rq.vld, Fq.raw, Fq.zero, Fq.valid]
theorem I_poValidZ {xs : List Fq} {ys : Rho} : OkI xs ys ⟨11, [.agg [.b false, .sl0, .sl0, .b false, .sl0, .sl0, .b false, .sl0, .sl0, .b false, .sl0, .sl0, .b false, .sl0, .sl0, .b false, .sl0, .sl0, .b false, .sl0, .sl0]], .v (.one (.b false))⟩ :=
  ⟨enters Tryz.func11 rfl rfl, fun B w vs hB h => by
    match vs, h with
    | [x], h =>
      obtain ⟨cs, rfl, k⟩ := h.1
      have hz := zero_row (n := 7) k
      refine (q_poValidR (.agg cs.toArray) Fq.zero.raw Fq.zero.raw Fq.zero.raw Fq.zero.raw Fq.zero.raw Fq.zero.raw Fq.zero.raw w ⟨_, rfl, hz⟩ z7 z7 z7 z7 z7 z7 z7 z7 z7 z7 z7 z7 z7 z7).mono ?_
      rintro e w' ⟨rfl, h2⟩
      exact ⟨_, rfl, by rw [show rawO Fq.zero.raw Fq.zero.raw Fq.zero.raw Fq.zero.raw Fq.zero.raw Fq.zero.raw Fq.zero.raw = false from by unfold rawO rawQ; rw [show Fq.zero.raw.vld = false from zvld]; rfl]; rfl, h2⟩⟩
def xturnPX  : List Fq := [(Fq.ofInt 1), (Fq.ofInt 0), (Vq.of 1 2 3).x, (Vq.of 1 2 3).y, (Vq.of 1 2 3).z]
theorem q_turnP  (w : World)   :
    Calls Tryz.prog 39 #[] w fun e w' => RetOq w Turn e w' := by
  refine (calls_runFn (ρ := frs (xturnPX ) ++ []) (w := w) (fuel := 300) (args := []) (vs := []) (r := .v (row [0, 1, 1, 0, 2, 3, 4]))
    (il_cons (I_rInt (k := 0) rfl (by decide) (by decide)) (il_cons (I_rInt (k := 1) rfl (by decide) (by decide)) (il_cons (I_rO1_2_3 (kr := [2, 3, 4]) ⟨rfl, rfl, rfl, trivial⟩) il_nil)))
    ol_nil (by kernel_rfl) Tryz.func39 (by kernel_rfl) trivial).mono ?_
  rintro e w' ⟨v, rfl, h1, h2⟩
  exact ⟨v, rfl, (row_isL (xs := xturnPX ) (ks := [0, 1, 1, 0, 2, 3, 4]) (vs := [(Fq.ofInt 1), (Fq.ofInt 0), (Fq.ofInt 0), (Fq.ofInt 1), (Vq.of 1 2 3).x, (Vq.of 1 2 3).y, (Vq.of 1 2 3).z]) ⟨rfl, rfl, rfl, rfl, rfl, rfl, rfl, trivial⟩).1 h1, h2⟩
theorem I_turnP {xs : List Fq} {ys : Rho}   {kr : List Nat}  (ar : AtL xs kr [Turn.rot.w, Turn.rot.x, Turn.rot.y, Turn.rot.z, Turn.pos.x, Turn.pos.y, Turn.pos.z]) : OkI xs ys ⟨39, [], .v (row kr)⟩ :=
  ⟨enters Tryz.func39 rfl rfl, fun B w vs hB h => by
    match vs, h with
    | [], h =>
      refine (q_turnP w).mono ?_
      rintro e w' ⟨v, rfl, h1, h2⟩
      exact ⟨v, rfl, (row_isL ar).2 h1, h2⟩⟩
def xawakeX  : List Fq := [Turn.rot.w, Turn.rot.x, Turn.rot.y, Turn.rot.z, Turn.pos.x, Turn.pos.y, Turn.pos.z, Pq.zero.rot.w, Pq.zero.rot.x, Pq.zero.rot.y, Pq.zero.rot.z, Pq.zero.pos.x, Pq.zero.pos.y, Pq.zero.pos.z, (Vq.of 1 0 0).x, (Vq.of 1 0 0).y, (Vq.of 1 0 0).z, (Turn.app (Vq.of 1 0 0)).x, (Turn.app (Vq.of 1 0 0)).y, (Turn.app (Vq.of 1 0 0)).z, (Vq.of 1 3 3).x, (Vq.of 1 3 3).y, (Vq.of 1 3 3).z, (Turn.mul Turn).rot.w, (Turn.mul Turn).rot.x, (Turn.mul Turn).rot.y, (Turn.mul Turn).rot.z, (Turn.mul Turn).pos.x, (Turn.mul Turn).pos.y, (Turn.mul Turn).pos.z, Turn.inv.rot.w, Turn.inv.rot.x, Turn.inv.rot.y, Turn.inv.rot.z, Turn.inv.pos.x, Turn.inv.pos.y, Turn.inv.pos.z]
theorem q_awake  (w : World)   :
    Calls Tryz.prog 10 #[] w fun e w' => RetV w (.bool true) e w' := by
  refine (calls_runFn (ρ := frs (xawakeX ) ++ []) (w := w) (fuel := 300) (args := []) (vs := []) (r := .v (.one (.b true)))
    (il_cons (I_turnP (kr := [0, 1, 2, 3, 4, 5, 6]) ⟨rfl, rfl, rfl, rfl, rfl, rfl, rfl, trivial⟩) (il_cons (I_poDecode (l0 := .s tB) (s := tB) (kr := [0, 1, 2, 3, 4, 5, 6]) (fun _ _ _ h => h) ⟨rfl, rfl, rfl, rfl, rfl, rfl, rfl, trivial⟩ (li rfl) pdT (by decide)) (il_cons (I_poDecode (l0 := .s tSB) (s := tSB) (kr := [7, 8, 9, 10, 11, 12, 13]) (fun _ _ _ h => h) ⟨rfl, rfl, rfl, rfl, rfl, rfl, rfl, trivial⟩ (li rfl) pdS (by decide)) (il_cons (I_poDecode (l0 := .s t3B) (s := t3B) (kr := [7, 8, 9, 10, 11, 12, 13]) (fun _ _ _ h => h) ⟨rfl, rfl, rfl, rfl, rfl, rfl, rfl, trivial⟩ (li rfl) pd3 (by decide)) (il_cons (I_rO1_0_0 (kr := [14, 15, 16]) ⟨rfl, rfl, rfl, trivial⟩) (il_cons (I_poApp (ka := [0, 1, 2, 3, 4, 5, 6]) (a := Turn) (kx := [14, 15, 16]) (x := (Vq.of 1 0 0)) (kr := [17, 18, 19]) ⟨rfl, rfl, rfl, rfl, rfl, rfl, rfl, trivial⟩ ⟨rfl, rfl, rfl, trivial⟩ ⟨rfl, rfl, rfl, trivial⟩ (ok_Turn.mono (by decide)) ((ok_vof (by decide) (by decide) (by decide) (by decide) (by decide) (by decide)).mono (by decide)) good_Turn (Vq.good.of 1 0 0)) (il_cons (I_rO1_3_3 (kr := [20, 21, 22]) ⟨rfl, rfl, rfl, trivial⟩) (il_cons (I_r4Equal1 (ka := [17, 18, 19]) (a := (Turn.app (Vq.of 1 0 0))) (kb := [20, 21, 22]) (b := (Vq.of 1 3 3)) ⟨rfl, rfl, rfl, trivial⟩ ⟨rfl, rfl, rfl, trivial⟩ ((ok_Turn.app (ok_vof (by decide) (by decide) (by decide) (by decide) (by decide) (by decide)) good_Turn).mono (by decide)) ((ok_vof (by decide) (by decide) (by decide) (by decide) (by decide) (by decide)).mono (by decide)) (Vq.same_iff.1 (by decide +kernel))) (il_cons (I_poMul (ka := [0, 1, 2, 3, 4, 5, 6]) (a := Turn) (kb := [0, 1, 2, 3, 4, 5, 6]) (b := Turn) (kr := [23, 24, 25, 26, 27, 28, 29]) ⟨rfl, rfl, rfl, rfl, rfl, rfl, rfl, trivial⟩ ⟨rfl, rfl, rfl, rfl, rfl, rfl, rfl, trivial⟩ ⟨rfl, rfl, rfl, rfl, rfl, rfl, rfl, trivial⟩ (ok_Turn.mono (by decide)) (ok_Turn.mono (by decide)) good_Turn good_Turn) (il_cons (I_poEnc (ks := [23, 24, 25, 26, 27, 28, 29]) (a := (Turn.mul Turn)) ⟨rfl, rfl, rfl, rfl, rfl, rfl, rfl, trivial⟩ (lS tx2) (by rw [m2]; exact ok_Turn2.mono (by decide))) (il_cons (I_poInv (ka := [0, 1, 2, 3, 4, 5, 6]) (a := Turn) (kr := [30, 31, 32, 33, 34, 35, 36]) ⟨rfl, rfl, rfl, rfl, rfl, rfl, rfl, trivial⟩ ⟨rfl, rfl, rfl, rfl, rfl, rfl, rfl, trivial⟩ (ok_Turn.mono (by decide)) good_Turn) (il_cons (I_poEnc (ks := [30, 31, 32, 33, 34, 35, 36]) (a := Turn.inv) ⟨rfl, rfl, rfl, rfl, rfl, rfl, rfl, trivial⟩ (lS txI) (by rw [mI]; exact ok_TurnI.mono (by decide))) (il_cons (I_poEnc (ks := [0, 1, 2, 3, 4, 5, 6]) (a := Turn) ⟨rfl, rfl, rfl, rfl, rfl, rfl, rfl, trivial⟩ (lS tx) (ok_Turn.mono (by decide))) (il_cons (I_poEqual1 (ka := [0, 1, 2, 3, 4, 5, 6]) (a := Turn) (kb := [0, 1, 2, 3, 4, 5, 6]) (b := Turn) ⟨rfl, rfl, rfl, rfl, rfl, rfl, rfl, trivial⟩ ⟨rfl, rfl, rfl, rfl, rfl, rfl, rfl, trivial⟩ (ok_Turn.mono (by decide)) (ok_Turn.mono (by decide)) rfl good_Turn good_Turn) (il_cons (I_poValidZ) il_nil)))))))))))))))
    (ol_cons (o_eqSS (s := ByteArray.mk #[48, 32, 48, 32, 48, 32, 49, 32, 45, 49, 32, 51, 32, 54]) (t := 9)) (ol_cons (o_eqSS (s := ByteArray.mk #[49, 32, 48, 32, 48, 32, 45, 49, 32, 45, 50, 32, 49, 32, 45, 51]) (t := 9)) (ol_cons (o_eqSS (s := ByteArray.mk #[49, 32, 48, 32, 48, 32, 49, 32, 49, 32, 50, 32, 51]) (t := 9)) (ol_nil)))) (by kernel_rfl) Tryz.func10 (by kernel_rfl) trivial).mono ?_
  rintro e w' ⟨v, rfl, h1, h2⟩
  exact ⟨congrArg Ending.returned h1, h2⟩
theorem I_awake {xs : List Fq} {ys : Rho}      : OkI xs ys ⟨10, [], .v (.one (.b true))⟩ :=
  ⟨enters Tryz.func10 rfl rfl, fun B w vs hB h => by
    match vs, h with
    | [], h =>
      refine (q_awake w).mono ?_
      rintro e w' ⟨rfl, h2⟩
      exact ⟨_, rfl, rfl, h2⟩⟩
end Go.Proofs.YthebfmlfgfmlnaaGreatDoor
