/- Make of the reference. Fractions as arguments; the reference's Same, Sign; operations of tables. Mul, Neg of package fraction; Neg of the reference. Add of package fraction. Stores that leave an unnamed world behind; calls of whatever contract in tables. Sub of package fraction; Mul of the reference. magnitude of package fraction, size of the reference. -/
import Derived.Test.YtldnimohnbjfaaaP06
namespace Go.Proofs.Ytldnimohnbjfaaa
set_option linter.unusedSimpArgs false
set_option linter.unusedVariables false
set_option maxRecDepth 100000
open Go.RowKit
def rMakeTabF (w : World) (g9 g12 m Np Nq : Nat) : List (Nat × Tmp × Sp) :=
   [(0, 35, .val (Value.bool false)),
    (1, 36, .val (Value.bool false)),
    (2, 37, .any),
    (3, 38, .any),
    (4, 39, .any),
    (5, 40, .val (Value.bool false)),
    (6, 41, .nat (Np)),
    (7, 42, .nat (Nq)),
    (8, 43, .fr false (Np) (Nq))]
def rMakeTabZ (w : World) (g9 g12 m Np Nq : Nat) : List (Nat × Tmp × Sp) :=
   [(0, 35, .val (Value.bool true)),
    (1, 36, .val (Value.bool true)),
    (2, 37, .nat (m)),
    (3, 38, .val (Value.bool true)),
    (4, 39, .val (Value.bool false)),
    (5, 40, .val (Value.bool false)),
    (6, 41, .nat (Np)),
    (7, 42, .nat (Nq)),
    (8, 43, .fr false (Np) (Nq))]
def rMakeTabT (w : World) (g9 g12 m Np Nq : Nat) : List (Nat × Tmp × Sp) :=
   [(0, 35, .val (Value.bool true)),
    (1, 36, .val (Value.bool true)),
    (2, 37, .nat (m)),
    (3, 38, .val (Value.bool false)),
    (4, 39, .val (Value.bool true)),
    (5, 40, .val (Value.bool true)),
    (6, 41, .nat (Np)),
    (7, 42, .nat (Nq)),
    (8, 43, .fr true (Np) (Nq))]
set_option maxHeartbeats 4000000 in
theorem c_rMake (s : Bool) (va vb : Value) (m n : Nat) (w : World) (ha : IsN w va m) (hb : IsN w vb n) (hm : nl m ≤ 10000000000) (hn : nl n ≤ 10000000000) :
    Calls Try.prog 26 #[.bool s, va, vb] w fun e w' => (n = 0 → RetFE w false 0 0 8 e w') ∧ (n ≠ 0 → RetFE w (lowS s m) (m / Nat.gcd m n) (n / Nat.gcd m n) 0 e w') := by
  obtain ⟨a, ca, b, cb, rfl, rfl, k0, k1, k2, k4⟩ := start_mk ha hb
  have hm' : nl m ≤ 1000000000000 := by omega
  have hn' : nl n ≤ 1000000000000 := by omega
  clear ha hb
  go_enter Try.func26, Try.ntmps26
  go_upto_region 0 with (fail)
  go_cut [4, 5, 6] (fun s4 s5 s6 wx => s4 = .pointer (some ⟨w.heap.size, 0, none⟩) ∧ s5 = .pointer (some ⟨w.heap.size + 1, 0, none⟩) ∧ s6 = .pointer (some ⟨w.heap.size + 2, 0, none⟩) ∧ VarI wx w.heap.size m ∧ VarI wx (w.heap.size + 1) n ∧ VarFB wx (w.heap.size + 2) false none 0 0 none 0 0 ∧ Below w.heap.size w wx)
  case first =>
    go_wp2_with fail
    go_meet
    case rel => exact ⟨rfl, rfl, rfl, k1, k2, k4, k0⟩
  case rest =>
  clear k0 k1 k2 k4
  obtain ⟨rfl, rfl, rfl, Va, Vb, Vr, hb1⟩ := hcut
  have Vb' := Vb
  obtain ⟨yb, db, qb, ib⟩ := Vb'
  have eb := qb.cell
  go_wp2_with fail
  refine (c_zero _ n _ ib hn').mono ?_
  rintro e w1 ⟨rfl, bb⟩
  replace Vr := Vr.mono bb Vr.lt
  replace Va := Va.mono bb
  replace Vb := Vb.mono bb
  replace hb1 := hb1.trans (bb.mono hb1.size)
  clear eb qb ib bb
  by_cases h0 : n = 0
  · have c0 := Vr.cell0
    have c1 := Vr.cell1
    have c2 := Vr.cell2
    have f0 := Vr.frozen 0
    have f1 := Vr.frozen 1
    have f2 := Vr.frozen 2
    rw [decide_eq_true h0]
    have H0 := Lib.hid h0
    clear h0
    go_wp2
    exact bodyPost_ret (res_FE rfl rfl rfl (VarFB.put (s' := false) (a' := none) (L' := 0) (c' := 0) (b' := none) (M' := 0) (d' := 0) Vr)) rfl ⟨fun _ => ⟨_, rfl, IsF.zero _, putF_below hb1 (by omega)⟩, fun h => absurd H0.out h⟩
  · have hg00 : Nat.gcd m n ≠ 0 := Nat.ne_of_gt (Nat.gcd_pos_of_pos_right m (Nat.pos_of_ne_zero h0))
    obtain ⟨Ng, hg⟩ : ∃ N : Nat, Hid (N = Nat.gcd m n) := ⟨_, Lib.hid rfl⟩
    have hg0 : Ng ≠ 0 := by rw [hg.out]; exact hg00
    have hgn : Ng ≤ n := by rw [hg.out]; exact Nat.gcd_le_right m (Nat.pos_of_ne_zero h0)
    have hg' : nl Ng ≤ 100000000000 := Nat.le_trans (nl_mono hgn) (by omega)
    obtain ⟨Np, hp⟩ : ∃ N : Nat, Hid (N = m / Ng) := ⟨_, Lib.hid rfl⟩
    obtain ⟨Nq, hq⟩ : ∃ N : Nat, Hid (N = n / Ng) := ⟨_, Lib.hid rfl⟩
    have HG0 := Lib.hid hg0
    rw [decide_eq_false h0]
    have H0 := Lib.hid h0
    clear h0 hg00 hg0 hgn
    go_upto_region 3 with (fail)
    go_cut [8] (fun s8 wx => ∃ g8, s8 = .pointer (some ⟨g8, 0, none⟩) ∧ VarI wx g8 Ng ∧ VarI wx w.heap.size m ∧ VarI wx (w.heap.size + 1) n ∧ VarFB wx (w.heap.size + 2) false none 0 0 none 0 0 ∧ Below w.heap.size w wx)
    case first =>
      have Va' := Va
      obtain ⟨ya, da, qa, ia⟩ := Va'
      have ea := qa.cell
      have Vb' := Vb
      obtain ⟨yb, db, qb, ib⟩ := Vb'
      have eb := qb.cell
      go_wp2_with fail
      refine (c_ref_Gcd _ _ m n _ ia ib (by omega) (by omega)).mono ?_
      rintro e w9 ⟨v9, rfl, n9, bb⟩
      rw [← hg.out] at n9
      obtain ⟨x9, c9, rfl⟩ := n9.shape
      have v1 := VarB.made w9 x9 (nl Ng) c9
      have b2 := bel1 w9 (.cells #[.slice x9 (nl Ng) c9] 24)
      have b3 := bb.trans (b2.mono bb.size)
      go_wp2_with fail
      go_meet
      case rel => exact ⟨_, rfl, VarI.of v1 (n9.mono b2), Va.mono b3, Vb.mono b3, Vr.mono b3 Vr.lt, hb1.trans (b3.mono hb1.size)⟩
    case rest =>
    clear Va Vb Vr hb1
    obtain ⟨g8, rfl, V8, Va, Vb, Vr, hb1⟩ := hcut
    go_upto_region 4 with (fail)
    go_cut [9] (fun s9 wx => ∃ g9, s9 = .pointer (some ⟨g9, 0, none⟩) ∧ VarI wx g9 Np ∧ VarI wx g8 Ng ∧ VarI wx w.heap.size m ∧ VarI wx (w.heap.size + 1) n ∧ VarFB wx (w.heap.size + 2) false none 0 0 none 0 0 ∧ Below w.heap.size w wx)
    case first =>
      have Va' := Va
      obtain ⟨ya, da, qa, ia⟩ := Va'
      have ea := qa.cell
      have V8' := V8
      obtain ⟨y8, d8, q8, i8⟩ := V8'
      have e8 := q8.cell
      go_wp2_with fail
      refine (c_ref_DivMod _ _ m Ng _ ia i8 (by omega) hg' HG0.out).mono ?_
      rintro e w9 ⟨vq, vr, rfl, nq, nr, bb⟩
      rw [← hp.out] at nq
      obtain ⟨Nr, hnr⟩ : ∃ N : Nat, Hid (N = m % Ng) := ⟨_, Lib.hid rfl⟩
      rw [← hnr.out] at nr
      obtain ⟨xq, cq, rfl, hcq, hxq⟩ := nq
      obtain ⟨xr, cr, rfl, hcr, hxr⟩ := nr
      obtain ⟨j1, j2, j3⟩ := start2 w9 xq xr (nl Np) cq (nl Nr) cr
      have iq : IsN w9 (.agg #[.slice xq (nl Np) cq]) Np := NewN.isN ⟨xq, cq, rfl, hcq, hxq⟩
      have b3 := bb.trans (j1.mono bb.size)
      go_wp2_with fail
      go_meet
      case rel => exact ⟨_, rfl, VarI.of j2 (iq.mono j1), V8.mono b3, Va.mono b3, Vb.mono b3, Vr.mono b3 Vr.lt, hb1.trans (b3.mono hb1.size)⟩
    case rest =>
    clear Va Vb Vr hb1 V8
    obtain ⟨g9, rfl, V9, V8, Va, Vb, Vr, hb1⟩ := hcut
    go_upto_region 5 with (fail)
    go_cut [12] (fun s12 wx => ∃ g12, s12 = .pointer (some ⟨g12, 0, none⟩) ∧ VarI wx g12 Nq ∧ VarI wx g8 Ng ∧ VarI wx g9 Np ∧ VarI wx w.heap.size m ∧ VarI wx (w.heap.size + 1) n ∧ VarFB wx (w.heap.size + 2) false none 0 0 none 0 0 ∧ Below w.heap.size w wx)
    case first =>
      have Vb' := Vb
      obtain ⟨yb, db, qb, ib⟩ := Vb'
      have eb := qb.cell
      have V8' := V8
      obtain ⟨y8, d8, q8, i8⟩ := V8'
      have e8 := q8.cell
      go_wp2_with fail
      refine (c_ref_DivMod _ _ n Ng _ ib i8 (by omega) hg' HG0.out).mono ?_
      rintro e w9 ⟨vq, vr, rfl, nq, nr, bb⟩
      rw [← hq.out] at nq
      obtain ⟨Nr, hnr⟩ : ∃ N : Nat, Hid (N = n % Ng) := ⟨_, Lib.hid rfl⟩
      rw [← hnr.out] at nr
      obtain ⟨xq, cq, rfl, hcq, hxq⟩ := nq
      obtain ⟨xr, cr, rfl, hcr, hxr⟩ := nr
      obtain ⟨j1, j2, j3⟩ := start2 w9 xq xr (nl Nq) cq (nl Nr) cr
      have iq : IsN w9 (.agg #[.slice xq (nl Nq) cq]) Nq := NewN.isN ⟨xq, cq, rfl, hcq, hxq⟩
      have b3 := bb.trans (j1.mono bb.size)
      go_wp2_with fail
      go_meet
      case rel => exact ⟨_, rfl, VarI.of j2 (iq.mono j1), V8.mono b3, V9.mono b3, Va.mono b3, Vb.mono b3, Vr.mono b3 Vr.lt, hb1.trans (b3.mono hb1.size)⟩
    case rest =>
    clear Va Vb Vr hb1 V8 V9
    obtain ⟨g12, rfl, V12, V8, V9, Va, Vb, Vr, hb1⟩ := hcut
    rcases Bool.eq_false_or_eq_true s with rfl | rfl
    · by_cases hz0 : m = 0
      · have hz : decide (m = 0) = true := decide_eq_true hz0
        have HZ := Lib.hid hz0
        clear hz0
        go_upto_region 6 with (fail)
        refine tG Try.f26 6 (rMakeTabZ w g9 g12 m Np Nq) [] 4 2 ?_ ?_
        · refine ⟨fun _ _ F => gR rfl rfl (arm_move (.inl rfl) (F.k 0 (Value.bool true))).b, ?_⟩
          refine ⟨fun _ _ F => gR rfl rfl (arm_move (.inl rfl) (F.f 0 rfl)).b, ?_⟩
          refine ⟨fun _ _ F => gG F rfl rfl rfl rfl (arm_load rfl (F.k 4 (Value.pointer (some ⟨w.heap.size, 0, none⟩))) (Va.mono F.below)).b, ?_⟩
          refine ⟨fun _ _ F => gG F rfl rfl rfl rfl (arm_zero rfl (F.f 2 rfl) hm' hz).b, ?_⟩
          refine ⟨fun _ _ F => gG F rfl rfl rfl rfl (arm_not rfl (F.f 3 rfl)).b, ?_⟩
          refine ⟨fun _ _ F => gR rfl rfl (arm_pick rfl (F.f 1 rfl) (fun _ => (F.f 4 rfl)) (fun h => by cases h)).b, ?_⟩
          refine ⟨fun _ _ F => gR rfl rfl (arm_load rfl (F.k 9 (Value.pointer (some ⟨g9, 0, none⟩))) (V9.mono F.below)).b, ?_⟩
          refine ⟨fun _ _ F => gR rfl rfl (arm_load rfl (F.k 12 (Value.pointer (some ⟨g12, 0, none⟩))) (V12.mono F.below)).b, ?_⟩
          refine ⟨fun _ _ F => gR rfl rfl (arm_buildF rfl (F.f 5 rfl) (F.f 6 rfl) (F.f 7 rfl)).b, ?_⟩
          exact trivial
        intro E' hE gp wp bp G Gs
        obtain rfl : E' = [] := by simpa [subs] using hE
        obtain ⟨x1, c1, x2, c2, e8, n1, n2⟩ := G 8 43 _ (by simp) rfl
        have Vr2 := Vr.mono bp Vr.lt
        clear G Gs hE
        simp only [rMakeTabZ]
        simp only [qA, setD, qZ, qS, e8]
        refine wpAny_storeF (j := 9) (by kernel_rfl) rfl rfl rfl rfl rfl rfl Vr2 ?_
        refine wpAny_takeD (i := 10) (d := some 7) (v := .int .i64 0) rfl rfl (by kernel_rfl) (by kernel_rfl) (by kernel_rfl) (fun _ _ _ h => h) (Or.inl ⟨by rfl, fun w => by rfl⟩) ?_
        refine wpAny_done (by kernel_rfl) ?_ _
        have hB := putF_below (s := false) (a := x1) (L := nl Np) (c := c1) (b := x2) (M := nl Nq) (d := c2) (hb1.trans (bp.mono hb1.size)) (show w.heap.size ≤ w.heap.size + 2 by omega)
        rename_i hK
        refine hK _ _ ?_
        refine wp_ret ?_
        show bodyPost Try.prog Try.f26 _ .ret _ _
        exact bodyPost_ret (res_FE rfl rfl rfl (VarFB.put Vr2)) rfl ⟨fun h => absurd h H0.out, fun _ => ⟨_, rfl, by rw [← hg.out, ← hp.out, ← hq.out]; exact ⟨x1, c1, x2, c2, by unfold lowS; rw [decide_eq_true HZ.out]; rfl, n1.putF Vr2, n2.putF Vr2⟩, hB⟩⟩
      · have hz : decide (m = 0) = false := decide_eq_false hz0
        have HZ := Lib.hid hz0
        clear hz0
        go_upto_region 6 with (fail)
        refine tG Try.f26 6 (rMakeTabT w g9 g12 m Np Nq) [] 4 2 ?_ ?_
        · refine ⟨fun _ _ F => gR rfl rfl (arm_move (.inl rfl) (F.k 0 (Value.bool true))).b, ?_⟩
          refine ⟨fun _ _ F => gR rfl rfl (arm_move (.inl rfl) (F.f 0 rfl)).b, ?_⟩
          refine ⟨fun _ _ F => gG F rfl rfl rfl rfl (arm_load rfl (F.k 4 (Value.pointer (some ⟨w.heap.size, 0, none⟩))) (Va.mono F.below)).b, ?_⟩
          refine ⟨fun _ _ F => gG F rfl rfl rfl rfl (arm_zero rfl (F.f 2 rfl) hm' hz).b, ?_⟩
          refine ⟨fun _ _ F => gG F rfl rfl rfl rfl (arm_not rfl (F.f 3 rfl)).b, ?_⟩
          refine ⟨fun _ _ F => gR rfl rfl (arm_pick rfl (F.f 1 rfl) (fun _ => (F.f 4 rfl)) (fun h => by cases h)).b, ?_⟩
          refine ⟨fun _ _ F => gR rfl rfl (arm_load rfl (F.k 9 (Value.pointer (some ⟨g9, 0, none⟩))) (V9.mono F.below)).b, ?_⟩
          refine ⟨fun _ _ F => gR rfl rfl (arm_load rfl (F.k 12 (Value.pointer (some ⟨g12, 0, none⟩))) (V12.mono F.below)).b, ?_⟩
          refine ⟨fun _ _ F => gR rfl rfl (arm_buildF rfl (F.f 5 rfl) (F.f 6 rfl) (F.f 7 rfl)).b, ?_⟩
          exact trivial
        intro E' hE gp wp bp G Gs
        obtain rfl : E' = [] := by simpa [subs] using hE
        obtain ⟨x1, c1, x2, c2, e8, n1, n2⟩ := G 8 43 _ (by simp) rfl
        have Vr2 := Vr.mono bp Vr.lt
        clear G Gs hE
        simp only [rMakeTabT]
        simp only [qA, setD, qZ, qS, e8]
        refine wpAny_storeF (j := 9) (by kernel_rfl) rfl rfl rfl rfl rfl rfl Vr2 ?_
        refine wpAny_takeD (i := 10) (d := some 7) (v := .int .i64 0) rfl rfl (by kernel_rfl) (by kernel_rfl) (by kernel_rfl) (fun _ _ _ h => h) (Or.inl ⟨by rfl, fun w => by rfl⟩) ?_
        refine wpAny_done (by kernel_rfl) ?_ _
        have hB := putF_below (s := true) (a := x1) (L := nl Np) (c := c1) (b := x2) (M := nl Nq) (d := c2) (hb1.trans (bp.mono hb1.size)) (show w.heap.size ≤ w.heap.size + 2 by omega)
        rename_i hK
        refine hK _ _ ?_
        refine wp_ret ?_
        show bodyPost Try.prog Try.f26 _ .ret _ _
        exact bodyPost_ret (res_FE rfl rfl rfl (VarFB.put Vr2)) rfl ⟨fun h => absurd h H0.out, fun _ => ⟨_, rfl, by rw [← hg.out, ← hp.out, ← hq.out]; exact ⟨x1, c1, x2, c2, by unfold lowS; rw [decide_eq_false HZ.out]; rfl, n1.putF Vr2, n2.putF Vr2⟩, hB⟩⟩
    · go_upto_region 6 with (fail)
      refine tG Try.f26 6 (rMakeTabF w g9 g12 m Np Nq) [] 4 2 ?_ ?_
      · refine ⟨fun _ _ F => gR rfl rfl (arm_move (.inl rfl) (F.k 0 (Value.bool false))).b, ?_⟩
        refine ⟨fun _ _ F => gR rfl rfl (arm_move (.inl rfl) (F.f 0 rfl)).b, ?_⟩
        refine ⟨fun a' w' F => StepG.skip rfl (unwanted rfl rfl (F.at' 1 36 _ rfl (by kernel_rfl)) rfl) trivial, ?_⟩
        refine ⟨fun a' w' F => StepG.skip rfl (unwanted rfl rfl (F.at' 1 36 _ rfl (by kernel_rfl)) rfl) trivial, ?_⟩
        refine ⟨fun a' w' F => StepG.skip rfl (unwanted rfl rfl (F.at' 1 36 _ rfl (by kernel_rfl)) rfl) trivial, ?_⟩
        refine ⟨fun _ _ F => gR rfl rfl (arm_pick rfl (F.f 1 rfl) (fun h => by cases h) (fun _ => Is.const)).b, ?_⟩
        refine ⟨fun _ _ F => gR rfl rfl (arm_load rfl (F.k 9 (Value.pointer (some ⟨g9, 0, none⟩))) (V9.mono F.below)).b, ?_⟩
        refine ⟨fun _ _ F => gR rfl rfl (arm_load rfl (F.k 12 (Value.pointer (some ⟨g12, 0, none⟩))) (V12.mono F.below)).b, ?_⟩
        refine ⟨fun _ _ F => gR rfl rfl (arm_buildF rfl (F.f 5 rfl) (F.f 6 rfl) (F.f 7 rfl)).b, ?_⟩
        exact trivial
      intro E' hE gp wp bp G Gs
      obtain rfl : E' = [] := by simpa [subs] using hE
      obtain ⟨x1, c1, x2, c2, e8, n1, n2⟩ := G 8 43 _ (by simp) rfl
      have Vr2 := Vr.mono bp Vr.lt
      clear G Gs hE
      simp only [rMakeTabF]
      simp only [qA, setD, qZ, qS, e8]
      refine wpAny_storeF (j := 9) (by kernel_rfl) rfl rfl rfl rfl rfl rfl Vr2 ?_
      refine wpAny_takeD (i := 10) (d := some 7) (v := .int .i64 0) rfl rfl (by kernel_rfl) (by kernel_rfl) (by kernel_rfl) (fun _ _ _ h => h) (Or.inl ⟨by rfl, fun w => by rfl⟩) ?_
      refine wpAny_done (by kernel_rfl) ?_ _
      have hB := putF_below (s := false) (a := x1) (L := nl Np) (c := c1) (b := x2) (M := nl Nq) (d := c2) (hb1.trans (bp.mono hb1.size)) (show w.heap.size ≤ w.heap.size + 2 by omega)
      rename_i hK
      refine hK _ _ ?_
      refine wp_ret ?_
      show bodyPost Try.prog Try.f26 _ .ret _ _
      exact bodyPost_ret (res_FE rfl rfl rfl (VarFB.put Vr2)) rfl ⟨fun h => absurd h H0.out, fun _ => ⟨_, rfl, by rw [← hg.out, ← hp.out, ← hq.out]; exact ⟨x1, c1, x2, c2, by rfl, n1.putF Vr2, n2.putF Vr2⟩, hB⟩⟩
end Go.Proofs.Ytldnimohnbjfaaa
namespace Go.Proofs.Ytldnimohnbjfaaa
set_option linter.unusedSimpArgs false
set_option linter.unusedVariables false
set_option maxRecDepth 100000
open Go.RowKit
theorem boxF {w : World} {v : Value} {s : Bool} {p q : Nat} (h : IsF w v s p q) : ∃ a c b d, v = .agg #[.bool s, .slice a (nl p) c, .slice b (nl q) d] ∧
    Below w.heap.size w (w.alloc (.cells #[.bool s, .slice a (nl p) c, .slice b (nl q) d] 26)) ∧ VarF (w.alloc (.cells #[.bool s, .slice a (nl p) c, .slice b (nl q) d] 26)) w.heap.size s p q := by
  obtain ⟨a, c, b, d, rfl, h1, h2⟩ := h
  have hb := bel1 w (.cells #[.bool s, .slice a (nl p) c, .slice b (nl q) d] 26)
  exact ⟨a, c, b, d, rfl, hb, VarF.of (VarFB.made w s a (nl p) c b (nl q) d) (h1.mono hb) (h2.mono hb)⟩
theorem boxF2 {w : World} {v v' : Value} {s s' : Bool} {p q p' q' : Nat} (h : IsF w v s p q) (h' : IsF w v' s' p' q') : ∃ a c b d a' c' b' d', v = .agg #[.bool s, .slice a (nl p) c, .slice b (nl q) d] ∧ v' = .agg #[.bool s', .slice a' (nl p') c', .slice b' (nl q') d'] ∧
    Below w.heap.size w ((w.alloc (.cells #[.bool s, .slice a (nl p) c, .slice b (nl q) d] 26)).alloc (.cells #[.bool s', .slice a' (nl p') c', .slice b' (nl q') d'] 26)) ∧
    VarF ((w.alloc (.cells #[.bool s, .slice a (nl p) c, .slice b (nl q) d] 26)).alloc (.cells #[.bool s', .slice a' (nl p') c', .slice b' (nl q') d'] 26)) w.heap.size s p q ∧
    VarF ((w.alloc (.cells #[.bool s, .slice a (nl p) c, .slice b (nl q) d] 26)).alloc (.cells #[.bool s', .slice a' (nl p') c', .slice b' (nl q') d'] 26)) (w.heap.size + 1) s' p' q' := by
  obtain ⟨a, c, b, d, rfl, hb, hv⟩ := boxF h
  obtain ⟨a', c', b', d', rfl, hb', hv'⟩ := boxF (h'.mono hb)
  rw [World.size_alloc] at hv'
  exact ⟨a, c, b, d, a', c', b', d', rfl, rfl, hb.trans (hb'.mono hb.size), hv.mono hb', hv'⟩
/-- A result variable behind. -/
theorem resF {w : World} : Below w.heap.size w (w.alloc (.cells #[.bool false, .slice none 0 0, .slice none 0 0] 26)) ∧ VarFB (w.alloc (.cells #[.bool false, .slice none 0 0, .slice none 0 0] 26)) w.heap.size false none 0 0 none 0 0 :=
  ⟨bel1 w _, VarFB.made w false none 0 0 none 0 0⟩
theorem run_neB (a b : Bool) (w : World) : (binOp BinOp.neq 4 (.bool a) (.bool b)).run Try.prog w = .ok (.bool (a != b)) w := by cases a <;> cases b <;> rfl
def Sp.varF (base : Nat) : Sp := ⟨fun w v => ∃ g, v = .pointer (some ⟨g, 0, none⟩) ∧ base ≤ g ∧ VarFB w g false none 0 0 none 0 0, fun _ _ _ h hb => by obtain ⟨g, h1, h2, h3⟩ := h; exact ⟨g, h1, h2, h3.mono hb h3.lt⟩⟩
theorem Sp.varF_lt {base : Nat} {w : World} {v : Value} (h : (Sp.varF base).p w v) : blk v < w.heap.size := by
  obtain ⟨g, rfl, _, h3⟩ := h; exact h3.lt
theorem run_ext {P : Program} {o : Oper} {a : Act} {x : Operand} {k : Nat} {vs : Array Value} {v : Value} (ho : o.op = .extract x k) (hx : a.eval x = .tuple vs) (hv : vs[k]? = some v) (w : World) : (execOp a.eval o).run P w = .ok (.value v) w := by
  unfold execOp
  rw [ho]
  simp [hx, Instr.extract, hv, Result.andThen]
section
variable {Q : Exit → Act → World → Prop} {o : Oper} {a : Act} {w : World} {x y z : Operand} {m n p q p' q' : Nat} {s s' : Bool} {tt : Array TypeId}
theorem arm_allocF {base : Nat} (ho : o.op = .alloc 26) (hb : base ≤ w.heap.size) : ArmB Try.prog Q true o a w (.varF base) := by
  intro K hK
  unfold Oper.wp execOp
  rw [ho]
  go_simp
  exact hK _ _ ⟨_, rfl, hb, VarFB.made w false none 0 0 none 0 0⟩ (bel1 w _) (fun _ => Nat.le_refl _)
theorem arm_fff {f : FuncId} {S : Sp} {R : World → Ending → World → Prop} (ho : o.op = .call { callee := .value (.func f), args := #[x, y, z], argTypes := tt }) (hen : ∀ (vs : Array Value) w, (callFunc f vs).run Try.prog w = .ok (.enter f vs) w)
    (hx : Is a w x (.val (.bool s))) (hy : Is a w y (.nat m)) (hz : Is a w z (.nat n)) (hc : ∀ vb vc w, IsN w vb m → IsN w vc n → Calls Try.prog f #[.bool s, vb, vc] w (R w)) (hR : ∀ e w', R w e w' → ∃ v, e = .returned v ∧ S.p w' v ∧ Below w.heap.size w w') : Arm Try.prog Q o a w S := by
  refine arm_call ho hen (R := R w) ?_ hR
  have hx' : a.eval x = .bool s := hx
  have := hc (a.eval y) (a.eval z) w hy hz
  simpa [hx'] using this
theorem arm_lowest (ho : o.op = .call { callee := .value (.func 65), args := #[x, y, z], argTypes := tt }) (hx : Is a w x (.val (.bool s))) (hy : Is a w y (.nat m)) (hz : Is a w z (.nat n)) (hm : nl m ≤ 10000000000) (hn : nl n ≤ 10000000000) (h0 : n ≠ 0)
    {S : Bool} {P R : Nat} (hS : lowS s m = S) (hP : m / Nat.gcd m n = P) (hR : n / Nat.gcd m n = R) : Arm Try.prog Q o a w (.fr S P R) := by
  subst hS; subst hP; subst hR
  exact arm_fff ho (enters Try.func65 rfl rfl) hx hy hz (R := fun w => RetF w (lowS s m) (m / Nat.gcd m n) (n / Nat.gcd m n)) (fun vb vc w h1 h2 => c_lowest s vb vc m n w h1 h2 hm hn h0) (fun _ _ h => ofF h)
theorem arm_build0 (ho : o.op = .build 24 #[]) : Arm Try.prog Q o a w (.nat 0) := by
  refine arm_run (.agg #[.slice none 0 0]) ?_ (NewN.isN (base := 0) NewN.of_zero)
  unfold execOp
  rw [ho]
  simp only [List.map_toArray, List.map_nil]
  go_simp
end
end Go.Proofs.Ytldnimohnbjfaaa
namespace Go.Proofs.Ytldnimohnbjfaaa
set_option linter.unusedSimpArgs false
set_option linter.unusedVariables false
set_option maxRecDepth 100000
open Go.RowKit
def lowP (m n : Nat) : Nat := m / Nat.gcd m n
def lowQ (m n : Nat) : Nat := n / Nat.gcd m n
theorem nl_mul2 {m n d e : Nat} (hm : nl m ≤ d) (hn : nl n ≤ e) : nl (m * n) ≤ d + e := nl_le_iff.2 (sm_mul (nl_le_iff.1 hm) (nl_le_iff.1 hn))
def mulTab (w : World) (s s' : Bool) (p q p' q' : Nat) : List (Nat × Tmp × Sp) :=
   [(0, 5, .val (Value.pointer (some ⟨w.heap.size, 0, none⟩))),
    (1, 6, .val (Value.bool s)),
    (2, 7, .val (Value.pointer (some ⟨w.heap.size + 1, 0, none⟩))),
    (3, 8, .val (Value.bool s')),
    (4, 9, .val (Value.bool (s != s'))),
    (5, 10, .val (Value.pointer (some ⟨w.heap.size, 1, none⟩))),
    (6, 11, .nat (p)),
    (7, 12, .val (Value.pointer (some ⟨w.heap.size + 1, 1, none⟩))),
    (8, 13, .nat (p')),
    (9, 14, .nat (p * p')),
    (10, 15, .val (Value.pointer (some ⟨w.heap.size, 2, none⟩))),
    (11, 16, .nat (q)),
    (12, 17, .val (Value.pointer (some ⟨w.heap.size + 1, 2, none⟩))),
    (13, 18, .nat (q')),
    (14, 19, .nat (q * q')),
    (15, 20, .fr (lowS (s != s') (p * p')) (lowP (p * p') (q * q')) (lowQ (p * p') (q * q')))]
theorem c_fMul (va vb : Value) (s s' : Bool) (p q p' q' : Nat) (w : World) (ha : IsF w va s p q) (hb : IsF w vb s' p' q') (hp : nl p ≤ 1000000000) (hq : nl q ≤ 1000000000) (hpp : nl p' ≤ 1000000000) (hqq : nl q' ≤ 1000000000) (h0 : q ≠ 0) (h0' : q' ≠ 0) :
    Calls Try.prog 38 #[va, vb] w fun e w' => RetF w (lowS (s != s') (p * p')) (lowP (p * p') (q * q')) (lowQ (p * p') (q * q')) e w' := by
  have hp' : nl p ≤ 1000000000000 := by omega
  have hq' : nl q ≤ 1000000000000 := by omega
  have hpp' : nl p' ≤ 1000000000000 := by omega
  have hqq' : nl q' ≤ 1000000000000 := by omega
  have hM : nl (p * p') ≤ 10000000000 := Nat.le_trans (nl_mul2 hp hpp) (by decide)
  have hN : nl (q * q') ≤ 10000000000 := Nat.le_trans (nl_mul2 hq hqq) (by decide)
  have hN0 : q * q' ≠ 0 := Nat.mul_ne_zero h0 h0'
  obtain ⟨a, c, b, d, a', c', b', d', rfl, rfl, k0, k1, k2⟩ := boxF2 ha hb
  clear ha hb
  have hz : ((w.alloc (.cells #[.bool s, .slice a (nl p) c, .slice b (nl q) d] 26)).alloc (.cells #[.bool s', .slice a' (nl p') c', .slice b' (nl q') d'] 26)).heap.size = w.heap.size + 2 := by simp
  obtain ⟨k3, k4⟩ := resF (w := (w.alloc (.cells #[.bool s, .slice a (nl p) c, .slice b (nl q) d] 26)).alloc (.cells #[.bool s', .slice a' (nl p') c', .slice b' (nl q') d'] 26))
  rw [hz] at k4
  clear hz
  go_enter Try.func38, Try.ntmps38
  go_upto_region 0 with (fail)
  go_cut [2, 3, 4] (fun s_2 s_3 s_4 wx => s_2 = .pointer (some ⟨w.heap.size, 0, none⟩) ∧ s_3 = .pointer (some ⟨w.heap.size + 1, 0, none⟩) ∧ s_4 = .pointer (some ⟨w.heap.size + 2, 0, none⟩) ∧ VarF wx w.heap.size s p q ∧ VarF wx (w.heap.size + 1) s' p' q' ∧ VarFB wx (w.heap.size + 2) false none 0 0 none 0 0 ∧ Below w.heap.size w wx)
  case first =>
    go_wp2_with fail
    go_meet
    case rel => exact ⟨rfl, rfl, rfl, k1.mono k3, k2.mono k3, k4, k0.trans (k3.mono k0.size)⟩
  case rest =>
  clear k0 k1 k2 k3 k4
  obtain ⟨rfl, rfl, rfl, Va, Vb, Vr, hb1⟩ := hcut
  go_upto_region 1 with (fail)
  refine tG Try.f38 1 (mulTab w s s' p q p' q') [] 4 1 ?_ ?_
  · refine ⟨fun _ _ F => gR rfl rfl (arm_fieldF rfl (F.k 2 (Value.pointer (some ⟨w.heap.size, 0, none⟩))) (run_field0 _)).b, ?_⟩
    refine ⟨fun _ _ F => gR rfl rfl (arm_loadS rfl (F.f 0 rfl) (Va.mono F.below)).b, ?_⟩
    refine ⟨fun _ _ F => gR rfl rfl (arm_fieldF rfl (F.k 3 (Value.pointer (some ⟨w.heap.size + 1, 0, none⟩))) (run_field0 _)).b, ?_⟩
    refine ⟨fun _ _ F => gR rfl rfl (arm_loadS rfl (F.f 2 rfl) (Vb.mono F.below)).b, ?_⟩
    refine ⟨fun _ _ F => gR rfl rfl (arm_bin rfl (F.f 1 rfl) (F.f 3 rfl) (fun _ => rfl) (fun w => run_neB _ _ w)).b, ?_⟩
    refine ⟨fun _ _ F => gR rfl rfl (arm_fieldF rfl (F.k 2 (Value.pointer (some ⟨w.heap.size, 0, none⟩))) (run_field1 _)).b, ?_⟩
    refine ⟨fun _ _ F => gR rfl rfl (arm_load1 rfl (F.f 5 rfl) (Va.mono F.below)).b, ?_⟩
    refine ⟨fun _ _ F => gR rfl rfl (arm_fieldF rfl (F.k 3 (Value.pointer (some ⟨w.heap.size + 1, 0, none⟩))) (run_field1 _)).b, ?_⟩
    refine ⟨fun _ _ F => gR rfl rfl (arm_load1 rfl (F.f 7 rfl) (Vb.mono F.below)).b, ?_⟩
    refine ⟨fun _ _ F => gR rfl rfl (arm_Mul rfl (F.f 6 rfl) (F.f 8 rfl) hp' hpp' rfl).b, ?_⟩
    refine ⟨fun _ _ F => gR rfl rfl (arm_fieldF rfl (F.k 2 (Value.pointer (some ⟨w.heap.size, 0, none⟩))) (run_field2 _)).b, ?_⟩
    refine ⟨fun _ _ F => gR rfl rfl (arm_load2 rfl (F.f 10 rfl) (Va.mono F.below)).b, ?_⟩
    refine ⟨fun _ _ F => gR rfl rfl (arm_fieldF rfl (F.k 3 (Value.pointer (some ⟨w.heap.size + 1, 0, none⟩))) (run_field2 _)).b, ?_⟩
    refine ⟨fun _ _ F => gR rfl rfl (arm_load2 rfl (F.f 12 rfl) (Vb.mono F.below)).b, ?_⟩
    refine ⟨fun _ _ F => gR rfl rfl (arm_Mul rfl (F.f 11 rfl) (F.f 13 rfl) hq' hqq' rfl).b, ?_⟩
    refine ⟨fun _ _ F => gR rfl rfl (arm_lowest rfl (F.f 4 rfl) (F.f 9 rfl) (F.f 14 rfl) hM hN hN0 rfl rfl rfl).b, ?_⟩
    exact trivial
  intro E' hE gp wp bp G Gs
  obtain rfl : E' = [] := by simpa [subs] using hE
  obtain ⟨x1, c1, x2, c2, e8, n1, n2⟩ := G 15 20 _ (by simp) rfl
  have Vr2 := Vr.mono bp Vr.lt
  clear G Gs hE
  simp only [mulTab]
  simp only [qA, setD, qZ, qS, e8]
  refine wpAny_storeF (j := 16) (by kernel_rfl) rfl rfl rfl rfl rfl rfl Vr2 ?_
  refine wpAny_done (by kernel_rfl) ?_ _
  have hB := putF_below (s := (lowS (s != s') (p * p'))) (a := x1) (L := nl (lowP (p * p') (q * q'))) (c := c1) (b := x2) (M := nl (lowQ (p * p') (q * q'))) (d := c2) (hb1.trans (bp.mono hb1.size)) (show w.heap.size ≤ w.heap.size + 2 by omega)
  rename_i hK
  refine hK _ _ ?_
  refine wp_ret ?_
  show bodyPost Try.prog Try.f38 _ .ret _ _
  exact bodyPost_ret (res_F rfl rfl (VarFB.put Vr2)) rfl ⟨_, rfl, ⟨x1, c1, x2, c2, rfl, n1.putF Vr2, n2.putF Vr2⟩, hB⟩
def fNegTabT (w : World) (p q : Nat) : List (Nat × Tmp × Sp) :=
   [(0, 3, .val (Value.pointer (some ⟨w.heap.size, 0, none⟩))),
    (1, 4, .val (Value.bool true)),
    (2, 5, .val (Value.bool false)),
    (3, 6, .val (Value.bool false)),
    (4, 7, .any),
    (5, 8, .any),
    (6, 9, .any),
    (7, 10, .any),
    (8, 11, .val (Value.bool false)),
    (9, 12, .val (Value.pointer (some ⟨w.heap.size, 1, none⟩))),
    (10, 13, .nat (p)),
    (11, 14, .nat (0)),
    (12, 15, .nat (p)),
    (13, 16, .val (Value.pointer (some ⟨w.heap.size, 2, none⟩))),
    (14, 17, .nat (q)),
    (15, 18, .nat (0)),
    (16, 19, .nat (q)),
    (17, 20, .fr false (p) (q))]
def fNegTabZ (w : World) (p q : Nat) : List (Nat × Tmp × Sp) :=
   [(0, 3, .val (Value.pointer (some ⟨w.heap.size, 0, none⟩))),
    (1, 4, .val (Value.bool false)),
    (2, 5, .val (Value.bool true)),
    (3, 6, .val (Value.bool true)),
    (4, 7, .val (Value.pointer (some ⟨w.heap.size, 1, none⟩))),
    (5, 8, .nat (p)),
    (6, 9, .val (Value.bool true)),
    (7, 10, .val (Value.bool false)),
    (8, 11, .val (Value.bool false)),
    (9, 12, .val (Value.pointer (some ⟨w.heap.size, 1, none⟩))),
    (10, 13, .nat (p)),
    (11, 14, .nat (0)),
    (12, 15, .nat (p)),
    (13, 16, .val (Value.pointer (some ⟨w.heap.size, 2, none⟩))),
    (14, 17, .nat (q)),
    (15, 18, .nat (0)),
    (16, 19, .nat (q)),
    (17, 20, .fr false (p) (q))]
def fNegTabN (w : World) (p q : Nat) : List (Nat × Tmp × Sp) :=
   [(0, 3, .val (Value.pointer (some ⟨w.heap.size, 0, none⟩))),
    (1, 4, .val (Value.bool false)),
    (2, 5, .val (Value.bool true)),
    (3, 6, .val (Value.bool true)),
    (4, 7, .val (Value.pointer (some ⟨w.heap.size, 1, none⟩))),
    (5, 8, .nat (p)),
    (6, 9, .val (Value.bool false)),
    (7, 10, .val (Value.bool true)),
    (8, 11, .val (Value.bool true)),
    (9, 12, .val (Value.pointer (some ⟨w.heap.size, 1, none⟩))),
    (10, 13, .nat (p)),
    (11, 14, .nat (0)),
    (12, 15, .nat (p)),
    (13, 16, .val (Value.pointer (some ⟨w.heap.size, 2, none⟩))),
    (14, 17, .nat (q)),
    (15, 18, .nat (0)),
    (16, 19, .nat (q)),
    (17, 20, .fr true (p) (q))]
theorem c_fNeg (va : Value) (s : Bool) (p q : Nat) (w : World) (ha : IsF w va s p q) (hp : nl p ≤ 1000000000) (hq : nl q ≤ 1000000000) :
    Calls Try.prog 39 #[va] w fun e w' => RetF w (lowS (!s) p) p q e w' := by
  have hp' : nl p ≤ 1000000000000 := by omega
  have hq' : nl q ≤ 1000000000000 := by omega
  obtain ⟨a, c, b, d, rfl, k0, k1⟩ := boxF ha
  clear ha
  obtain ⟨k3, k4⟩ := resF (w := w.alloc (.cells #[.bool s, .slice a (nl p) c, .slice b (nl q) d] 26))
  rw [World.size_alloc] at k4
  go_enter Try.func39, Try.ntmps39
  go_upto_region 0 with (fail)
  go_cut [1, 2] (fun s_1 s_2 wx => s_1 = .pointer (some ⟨w.heap.size, 0, none⟩) ∧ s_2 = .pointer (some ⟨w.heap.size + 1, 0, none⟩) ∧ VarF wx w.heap.size s p q ∧ VarFB wx (w.heap.size + 1) false none 0 0 none 0 0 ∧ Below w.heap.size w wx)
  case first =>
    go_wp2_with fail
    go_meet
    case rel => exact ⟨rfl, rfl, k1.mono k3, k4, k0.trans (k3.mono k0.size)⟩
  case rest =>
  clear k0 k1 k3 k4
  obtain ⟨rfl, rfl, Va, Vr, hb1⟩ := hcut
  rcases Bool.eq_false_or_eq_true s with rfl | rfl
  · go_upto_region 1 with (fail)
    refine tG Try.f39 1 (fNegTabT w p q) [] 4 1 ?_ ?_
    · refine ⟨fun _ _ F => gR rfl rfl (arm_fieldF rfl (F.k 1 (Value.pointer (some ⟨w.heap.size, 0, none⟩))) (run_field0 _)).b, ?_⟩
      refine ⟨fun _ _ F => gR rfl rfl (arm_loadS rfl (F.f 0 rfl) (Va.mono F.below)).b, ?_⟩
      refine ⟨fun _ _ F => gR rfl rfl (arm_not rfl (F.f 1 rfl)).b, ?_⟩
      refine ⟨fun _ _ F => gR rfl rfl (arm_move (.inl rfl) (F.f 2 rfl)).b, ?_⟩
      refine ⟨fun a' w' F => StepG.skip rfl (unwanted rfl rfl (F.at' 3 6 _ rfl (by kernel_rfl)) rfl) trivial, ?_⟩
      refine ⟨fun a' w' F => StepG.skip rfl (unwanted rfl rfl (F.at' 3 6 _ rfl (by kernel_rfl)) rfl) trivial, ?_⟩
      refine ⟨fun a' w' F => StepG.skip rfl (unwanted rfl rfl (F.at' 3 6 _ rfl (by kernel_rfl)) rfl) trivial, ?_⟩
      refine ⟨fun a' w' F => StepG.skip rfl (unwanted rfl rfl (F.at' 3 6 _ rfl (by kernel_rfl)) rfl) trivial, ?_⟩
      refine ⟨fun _ _ F => gR rfl rfl (arm_pick rfl (F.f 3 rfl) (fun h => by cases h) (fun _ => Is.const)).b, ?_⟩
      refine ⟨fun _ _ F => gR rfl rfl (arm_fieldF rfl (F.k 1 (Value.pointer (some ⟨w.heap.size, 0, none⟩))) (run_field1 _)).b, ?_⟩
      refine ⟨fun _ _ F => gR rfl rfl (arm_load1 rfl (F.f 9 rfl) (Va.mono F.below)).b, ?_⟩
      refine ⟨fun _ _ F => gR rfl rfl (arm_build0 rfl).b, ?_⟩
      refine ⟨fun _ _ F => gR rfl rfl (arm_Add rfl (F.f 10 rfl) (F.f 11 rfl) hp' (by rw [nl_zero]; omega) rfl).b, ?_⟩
      refine ⟨fun _ _ F => gR rfl rfl (arm_fieldF rfl (F.k 1 (Value.pointer (some ⟨w.heap.size, 0, none⟩))) (run_field2 _)).b, ?_⟩
      refine ⟨fun _ _ F => gR rfl rfl (arm_load2 rfl (F.f 13 rfl) (Va.mono F.below)).b, ?_⟩
      refine ⟨fun _ _ F => gR rfl rfl (arm_build0 rfl).b, ?_⟩
      refine ⟨fun _ _ F => gR rfl rfl (arm_Add rfl (F.f 14 rfl) (F.f 15 rfl) hq' (by rw [nl_zero]; omega) rfl).b, ?_⟩
      refine ⟨fun _ _ F => gR rfl rfl (arm_buildF rfl (F.f 8 rfl) (F.f 12 rfl) (F.f 16 rfl)).b, ?_⟩
      exact trivial
    intro E' hE gp wp bp G Gs
    obtain rfl : E' = [] := by simpa [subs] using hE
    obtain ⟨x1, c1, x2, c2, e8, n1, n2⟩ := G 17 20 _ (by simp) rfl
    have Vr2 := Vr.mono bp Vr.lt
    clear G Gs hE
    simp only [fNegTabT]
    simp only [qA, setD, qZ, qS, e8]
    refine wpAny_storeF (j := 18) (by kernel_rfl) rfl rfl rfl rfl rfl rfl Vr2 ?_
    refine wpAny_done (by kernel_rfl) ?_ _
    have hB := putF_below (s := false) (a := x1) (L := nl (p)) (c := c1) (b := x2) (M := nl (q)) (d := c2) (hb1.trans (bp.mono hb1.size)) (show w.heap.size ≤ w.heap.size + 1 by omega)
    rename_i hK
    refine hK _ _ ?_
    refine wp_ret ?_
    show bodyPost Try.prog Try.f39 _ .ret _ _
    exact bodyPost_ret (res_F rfl rfl (VarFB.put Vr2)) rfl ⟨_, rfl, ⟨x1, c1, x2, c2, rfl, n1.putF Vr2, n2.putF Vr2⟩, hB⟩
  · by_cases hz0 : p = 0
    · have hz : decide (p = 0) = true := decide_eq_true hz0
      have HZ := Lib.hid hz0
      clear hz0
      go_upto_region 1 with (fail)
      refine tG Try.f39 1 (fNegTabZ w p q) [] 4 1 ?_ ?_
      · refine ⟨fun _ _ F => gR rfl rfl (arm_fieldF rfl (F.k 1 (Value.pointer (some ⟨w.heap.size, 0, none⟩))) (run_field0 _)).b, ?_⟩
        refine ⟨fun _ _ F => gR rfl rfl (arm_loadS rfl (F.f 0 rfl) (Va.mono F.below)).b, ?_⟩
        refine ⟨fun _ _ F => gR rfl rfl (arm_not rfl (F.f 1 rfl)).b, ?_⟩
        refine ⟨fun _ _ F => gR rfl rfl (arm_move (.inl rfl) (F.f 2 rfl)).b, ?_⟩
        refine ⟨fun _ _ F => gG F rfl rfl rfl rfl (arm_fieldF rfl (F.k 1 (Value.pointer (some ⟨w.heap.size, 0, none⟩))) (run_field1 _)).b, ?_⟩
        refine ⟨fun _ _ F => gG F rfl rfl rfl rfl (arm_load1 rfl (F.f 4 rfl) (Va.mono F.below)).b, ?_⟩
        refine ⟨fun _ _ F => gG F rfl rfl rfl rfl (arm_isZero rfl (F.f 5 rfl) hp' hz).b, ?_⟩
        refine ⟨fun _ _ F => gG F rfl rfl rfl rfl (arm_not rfl (F.f 6 rfl)).b, ?_⟩
        refine ⟨fun _ _ F => gR rfl rfl (arm_pick rfl (F.f 3 rfl) (fun _ => (F.f 7 rfl)) (fun h => by cases h)).b, ?_⟩
        refine ⟨fun _ _ F => gR rfl rfl (arm_fieldF rfl (F.k 1 (Value.pointer (some ⟨w.heap.size, 0, none⟩))) (run_field1 _)).b, ?_⟩
        refine ⟨fun _ _ F => gR rfl rfl (arm_load1 rfl (F.f 9 rfl) (Va.mono F.below)).b, ?_⟩
        refine ⟨fun _ _ F => gR rfl rfl (arm_build0 rfl).b, ?_⟩
        refine ⟨fun _ _ F => gR rfl rfl (arm_Add rfl (F.f 10 rfl) (F.f 11 rfl) hp' (by rw [nl_zero]; omega) rfl).b, ?_⟩
        refine ⟨fun _ _ F => gR rfl rfl (arm_fieldF rfl (F.k 1 (Value.pointer (some ⟨w.heap.size, 0, none⟩))) (run_field2 _)).b, ?_⟩
        refine ⟨fun _ _ F => gR rfl rfl (arm_load2 rfl (F.f 13 rfl) (Va.mono F.below)).b, ?_⟩
        refine ⟨fun _ _ F => gR rfl rfl (arm_build0 rfl).b, ?_⟩
        refine ⟨fun _ _ F => gR rfl rfl (arm_Add rfl (F.f 14 rfl) (F.f 15 rfl) hq' (by rw [nl_zero]; omega) rfl).b, ?_⟩
        refine ⟨fun _ _ F => gR rfl rfl (arm_buildF rfl (F.f 8 rfl) (F.f 12 rfl) (F.f 16 rfl)).b, ?_⟩
        exact trivial
      intro E' hE gp wp bp G Gs
      obtain rfl : E' = [] := by simpa [subs] using hE
      obtain ⟨x1, c1, x2, c2, e8, n1, n2⟩ := G 17 20 _ (by simp) rfl
      have Vr2 := Vr.mono bp Vr.lt
      clear G Gs hE
      simp only [fNegTabZ]
      simp only [qA, setD, qZ, qS, e8]
      refine wpAny_storeF (j := 18) (by kernel_rfl) rfl rfl rfl rfl rfl rfl Vr2 ?_
      refine wpAny_done (by kernel_rfl) ?_ _
      have hB := putF_below (s := false) (a := x1) (L := nl (p)) (c := c1) (b := x2) (M := nl (q)) (d := c2) (hb1.trans (bp.mono hb1.size)) (show w.heap.size ≤ w.heap.size + 1 by omega)
      rename_i hK
      refine hK _ _ ?_
      refine wp_ret ?_
      show bodyPost Try.prog Try.f39 _ .ret _ _
      exact bodyPost_ret (res_F rfl rfl (VarFB.put Vr2)) rfl ⟨_, rfl, ⟨x1, c1, x2, c2, by unfold lowS; rw [decide_eq_true HZ.out]; rfl, n1.putF Vr2, n2.putF Vr2⟩, hB⟩
    · have hz : decide (p = 0) = false := decide_eq_false hz0
      have HZ := Lib.hid hz0
      clear hz0
      go_upto_region 1 with (fail)
      refine tG Try.f39 1 (fNegTabN w p q) [] 4 1 ?_ ?_
      · refine ⟨fun _ _ F => gR rfl rfl (arm_fieldF rfl (F.k 1 (Value.pointer (some ⟨w.heap.size, 0, none⟩))) (run_field0 _)).b, ?_⟩
        refine ⟨fun _ _ F => gR rfl rfl (arm_loadS rfl (F.f 0 rfl) (Va.mono F.below)).b, ?_⟩
        refine ⟨fun _ _ F => gR rfl rfl (arm_not rfl (F.f 1 rfl)).b, ?_⟩
        refine ⟨fun _ _ F => gR rfl rfl (arm_move (.inl rfl) (F.f 2 rfl)).b, ?_⟩
        refine ⟨fun _ _ F => gG F rfl rfl rfl rfl (arm_fieldF rfl (F.k 1 (Value.pointer (some ⟨w.heap.size, 0, none⟩))) (run_field1 _)).b, ?_⟩
        refine ⟨fun _ _ F => gG F rfl rfl rfl rfl (arm_load1 rfl (F.f 4 rfl) (Va.mono F.below)).b, ?_⟩
        refine ⟨fun _ _ F => gG F rfl rfl rfl rfl (arm_isZero rfl (F.f 5 rfl) hp' hz).b, ?_⟩
        refine ⟨fun _ _ F => gG F rfl rfl rfl rfl (arm_not rfl (F.f 6 rfl)).b, ?_⟩
        refine ⟨fun _ _ F => gR rfl rfl (arm_pick rfl (F.f 3 rfl) (fun _ => (F.f 7 rfl)) (fun h => by cases h)).b, ?_⟩
        refine ⟨fun _ _ F => gR rfl rfl (arm_fieldF rfl (F.k 1 (Value.pointer (some ⟨w.heap.size, 0, none⟩))) (run_field1 _)).b, ?_⟩
        refine ⟨fun _ _ F => gR rfl rfl (arm_load1 rfl (F.f 9 rfl) (Va.mono F.below)).b, ?_⟩
        refine ⟨fun _ _ F => gR rfl rfl (arm_build0 rfl).b, ?_⟩
        refine ⟨fun _ _ F => gR rfl rfl (arm_Add rfl (F.f 10 rfl) (F.f 11 rfl) hp' (by rw [nl_zero]; omega) rfl).b, ?_⟩
        refine ⟨fun _ _ F => gR rfl rfl (arm_fieldF rfl (F.k 1 (Value.pointer (some ⟨w.heap.size, 0, none⟩))) (run_field2 _)).b, ?_⟩
        refine ⟨fun _ _ F => gR rfl rfl (arm_load2 rfl (F.f 13 rfl) (Va.mono F.below)).b, ?_⟩
        refine ⟨fun _ _ F => gR rfl rfl (arm_build0 rfl).b, ?_⟩
        refine ⟨fun _ _ F => gR rfl rfl (arm_Add rfl (F.f 14 rfl) (F.f 15 rfl) hq' (by rw [nl_zero]; omega) rfl).b, ?_⟩
        refine ⟨fun _ _ F => gR rfl rfl (arm_buildF rfl (F.f 8 rfl) (F.f 12 rfl) (F.f 16 rfl)).b, ?_⟩
        exact trivial
      intro E' hE gp wp bp G Gs
      obtain rfl : E' = [] := by simpa [subs] using hE
      obtain ⟨x1, c1, x2, c2, e8, n1, n2⟩ := G 17 20 _ (by simp) rfl
      have Vr2 := Vr.mono bp Vr.lt
      clear G Gs hE
      simp only [fNegTabN]
      simp only [qA, setD, qZ, qS, e8]
      refine wpAny_storeF (j := 18) (by kernel_rfl) rfl rfl rfl rfl rfl rfl Vr2 ?_
      refine wpAny_done (by kernel_rfl) ?_ _
      have hB := putF_below (s := true) (a := x1) (L := nl (p)) (c := c1) (b := x2) (M := nl (q)) (d := c2) (hb1.trans (bp.mono hb1.size)) (show w.heap.size ≤ w.heap.size + 1 by omega)
      rename_i hK
      refine hK _ _ ?_
      refine wp_ret ?_
      show bodyPost Try.prog Try.f39 _ .ret _ _
      exact bodyPost_ret (res_F rfl rfl (VarFB.put Vr2)) rfl ⟨_, rfl, ⟨x1, c1, x2, c2, by unfold lowS; rw [decide_eq_false HZ.out]; rfl, n1.putF Vr2, n2.putF Vr2⟩, hB⟩
end Go.Proofs.Ytldnimohnbjfaaa
namespace Go.Proofs.Ytldnimohnbjfaaa
set_option linter.unusedSimpArgs false
set_option linter.unusedVariables false
set_option maxRecDepth 100000
open Go.RowKit
theorem VarFB.setOther {w : World} {g L c M d : Nat} {s : Bool} {a b : Option Addr} (h : VarFB w g s a L c b M d) (p : Addr) (u : Value) (hp : p.block ≠ g) : VarFB (w.setCell p u) g s a L c b M d :=
  (Below.heap_setCell w p u g (fun e => hp e.symm)).trans h
theorem VarF.setOther {w : World} {g p q g' L' c' : Nat} {s : Bool} {a' : Option Addr} {u : Value} (h : VarF w g s p q) (h' : VarB w g' a' L' c') (hne : g' ≠ g) : VarF (w.setCell ⟨g', 0, none⟩ u) g s p q := by
  obtain ⟨a, c, b, d, h0, h1, h2⟩ := h
  exact ⟨a, c, b, d, h0.setOther _ _ hne, h1.setVar h', h2.setVar h'⟩
theorem VarF.lt {w : World} {g p q : Nat} {s : Bool} (h : VarF w g s p q) : g < w.heap.size := by obtain ⟨_, _, _, _, h, _⟩ := h; exact h.lt
theorem VarI.lt {w : World} {g N : Nat} (h : VarI w g N) : g < w.heap.size := by obtain ⟨_, _, h, _⟩ := h; exact h.lt
/-- The sum of two fractions over one denominator: its sign before reduction, its numerator. -/
def addG (s s' : Bool) (X Y : Nat) : Bool := if s = s' then s else if Y ≤ X then s else s'
def addM (s s' : Bool) (X Y : Nat) : Nat := if s = s' then X + Y else if Y ≤ X then X - Y else Y - X
theorem nl_add2 {m n d : Nat} (hm : nl m ≤ d) (hn : nl n ≤ d) : nl (m + n) ≤ d + d + 1 := nl_le_iff.2 (sm_add (nl_le_iff.1 hm) (nl_le_iff.1 hn))
theorem addM_le (s s' : Bool) (X Y : Nat) : addM s s' X Y ≤ X + Y := by unfold addM; by_cases h : s = s' <;> by_cases h2 : Y ≤ X <;> simp only [h, h2, if_true, if_false] <;> omega
def addT1 (w : World) (p q p' q' X Y base : Nat) : List (Nat × Tmp × Sp) :=
   [(0, 12, .val (Value.pointer (some ⟨w.heap.size, 1, none⟩))),
    (1, 13, .nat (p)),
    (2, 14, .val (Value.pointer (some ⟨w.heap.size + 1, 2, none⟩))),
    (3, 15, .nat (q')),
    (4, 16, .nat (X)),
    (5, 17, .val (Value.pointer (some ⟨w.heap.size + 1, 1, none⟩))),
    (6, 18, .nat (p')),
    (7, 19, .val (Value.pointer (some ⟨w.heap.size, 2, none⟩))),
    (8, 20, .nat (q)),
    (9, 21, .nat (Y)),
    (10, 5, .var base),
    (11, 6, .var base)]
def addT4 (w : World) (s : Bool) (gx gy gz X Y M Dn : Nat) : List (Nat × Tmp × Sp) :=
   [(0, 32, .val (Value.pointer (some ⟨w.heap.size, 0, none⟩))),
    (1, 33, .val (Value.bool s)),
    (2, 34, .nat (X)),
    (3, 35, .nat (Y)),
    (4, 36, .nat (M)),
    (5, 37, .nat (Dn)),
    (6, 38, .fr (lowS s M) (lowP M Dn) (lowQ M Dn))]
def addT7 (w : World) (s : Bool) (g8 gz M Dn : Nat) : List (Nat × Tmp × Sp) :=
   [(0, 46, .val (Value.pointer (some ⟨w.heap.size, 0, none⟩))),
    (1, 47, .val (Value.bool s)),
    (2, 48, .nat (M)),
    (3, 49, .nat (Dn)),
    (4, 50, .fr (lowS s M) (lowP M Dn) (lowQ M Dn))]
def addT9 (w : World) (s' : Bool) (g10 gz M Dn : Nat) : List (Nat × Tmp × Sp) :=
   [(0, 57, .val (Value.pointer (some ⟨w.heap.size + 1, 0, none⟩))),
    (1, 58, .val (Value.bool s')),
    (2, 59, .nat (M)),
    (3, 60, .nat (Dn)),
    (4, 61, .fr (lowS s' M) (lowP M Dn) (lowQ M Dn))]
set_option maxHeartbeats 4000000 in
theorem c_fAdd (va vb : Value) (s s' : Bool) (p q p' q' : Nat) (w : World) (ha : IsF w va s p q) (hb : IsF w vb s' p' q') (hp : nl p ≤ 1000000000) (hq : nl q ≤ 1000000000) (hpp : nl p' ≤ 1000000000) (hqq : nl q' ≤ 1000000000) (h0 : q ≠ 0) (h0' : q' ≠ 0) :
    Calls Try.prog 37 #[va, vb] w fun e w' => RetF w (lowS (addG s s' (p * q') (p' * q)) (addM s s' (p * q') (p' * q))) (lowP (addM s s' (p * q') (p' * q)) (q * q')) (lowQ (addM s s' (p * q') (p' * q)) (q * q')) e w' := by
  have hp' : nl p ≤ 1000000000000 := by omega
  have hq' : nl q ≤ 1000000000000 := by omega
  have hpp' : nl p' ≤ 1000000000000 := by omega
  have hqq' : nl q' ≤ 1000000000000 := by omega
  obtain ⟨X, hX⟩ : ∃ N : Nat, Hid (N = p * q') := ⟨_, Lib.hid rfl⟩
  obtain ⟨Y, hY⟩ : ∃ N : Nat, Hid (N = p' * q) := ⟨_, Lib.hid rfl⟩
  obtain ⟨Dn, hD⟩ : ∃ N : Nat, Hid (N = q * q') := ⟨_, Lib.hid rfl⟩
  rw [← hX.out, ← hY.out, ← hD.out]
  have hXb : nl X ≤ 2000000000 := by rw [hX.out]; exact Nat.le_trans (nl_mul2 hp hqq) (by decide)
  have hYb : nl Y ≤ 2000000000 := by rw [hY.out]; exact Nat.le_trans (nl_mul2 hpp hq) (by decide)
  have hDb : nl Dn ≤ 10000000000 := by rw [hD.out]; exact Nat.le_trans (nl_mul2 hq hqq) (by decide)
  have HD0 := Lib.hid (show Dn ≠ 0 by rw [hD.out]; exact Nat.mul_ne_zero h0 h0')
  have hX' : nl X ≤ 1000000000000 := by omega
  have hY' : nl Y ≤ 1000000000000 := by omega
  obtain ⟨M, hMM⟩ : ∃ N : Nat, Hid (N = addM s s' X Y) := ⟨_, Lib.hid rfl⟩
  have hMb : nl M ≤ 10000000000 := by rw [hMM.out]; exact Nat.le_trans (nl_mono (addM_le s s' X Y)) (Nat.le_trans (nl_add2 hXb hYb) (by decide))
  rw [← hMM.out]
  clear h0 h0'
  obtain ⟨a, c, b, d, a', c', b', d', rfl, rfl, k0, k1, k2⟩ := boxF2 ha hb
  clear ha hb
  have hz : ((w.alloc (.cells #[.bool s, .slice a (nl p) c, .slice b (nl q) d] 26)).alloc (.cells #[.bool s', .slice a' (nl p') c', .slice b' (nl q') d'] 26)).heap.size = w.heap.size + 2 := by simp
  obtain ⟨k3, k4⟩ := resF (w := (w.alloc (.cells #[.bool s, .slice a (nl p) c, .slice b (nl q) d] 26)).alloc (.cells #[.bool s', .slice a' (nl p') c', .slice b' (nl q') d'] 26))
  rw [hz] at k4
  clear hz
  go_enter Try.func37, Try.ntmps37
  go_upto_region 0 with (fail)
  go_cut [2, 3, 4] (fun s_2 s_3 s_4 wx => s_2 = .pointer (some ⟨w.heap.size, 0, none⟩) ∧ s_3 = .pointer (some ⟨w.heap.size + 1, 0, none⟩) ∧ s_4 = .pointer (some ⟨w.heap.size + 2, 0, none⟩) ∧ VarF wx w.heap.size s p q ∧ VarF wx (w.heap.size + 1) s' p' q' ∧ VarFB wx (w.heap.size + 2) false none 0 0 none 0 0 ∧ Below w.heap.size w wx)
  case first =>
    go_wp2_with fail
    go_meet
    case rel => exact ⟨rfl, rfl, rfl, k1.mono k3, k2.mono k3, k4, k0.trans (k3.mono k0.size)⟩
  case rest =>
  clear k0 k1 k2 k3 k4
  obtain ⟨rfl, rfl, rfl, Va, Vb, Vr, hb1⟩ := hcut
  go_upto_region 1 with (fail)
  go_cut [5, 6] (fun s5 s6 wx => ∃ gx gy, s5 = .pointer (some ⟨gx, 0, none⟩) ∧ s6 = .pointer (some ⟨gy, 0, none⟩) ∧ VarI wx gx X ∧ VarI wx gy Y ∧ VarF wx w.heap.size s p q ∧ VarF wx (w.heap.size + 1) s' p' q' ∧ VarFB wx (w.heap.size + 2) false none 0 0 none 0 0 ∧ Below w.heap.size w wx)
  case first =>
    obtain ⟨base, hbase0⟩ : ∃ b : Nat, Hid (b = wc.heap.size) := ⟨_, Lib.hid rfl⟩
    have hbase : base ≤ wc.heap.size := by rw [hbase0.out]; exact Nat.le_refl _
    have la : w.heap.size < base := by rw [hbase0.out]; exact Va.lt
    have lb : w.heap.size + 1 < base := by rw [hbase0.out]; exact Vb.lt
    have lr : w.heap.size + 2 < base := by rw [hbase0.out]; exact Vr.lt
    refine wp_tabG Try.f37 1 (addT1 w p q p' q' X Y base) [] (fun i => i == 10 || i == 11) 4 2 (by kernel_rfl) (by kernel_rfl) (by kernel_rfl) (by kernel_rfl) (by kernel_rfl) ⟨fun h => (by cases h), ⟨fun h => (by cases h), ⟨fun h => (by cases h), ⟨fun h => (by cases h), ⟨fun h => (by cases h), ⟨fun h => (by cases h), ⟨fun h => (by cases h), ⟨fun h => (by cases h), ⟨fun h => (by cases h), ⟨fun h => (by cases h), ⟨fun _ w v h => Sp.var_lt h, ⟨fun _ w v h => Sp.var_lt h, trivial⟩⟩⟩⟩⟩⟩⟩⟩⟩⟩⟩⟩ ?_ ?_
    · refine ⟨fun _ _ F => gR rfl rfl (arm_fieldF rfl (F.k 2 (Value.pointer (some ⟨w.heap.size, 0, none⟩))) (run_field1 _)).b, ?_⟩
      refine ⟨fun _ _ F => gR rfl rfl (arm_load1 rfl (F.f 0 rfl) (Va.mono F.below)).b, ?_⟩
      refine ⟨fun _ _ F => gR rfl rfl (arm_fieldF rfl (F.k 3 (Value.pointer (some ⟨w.heap.size + 1, 0, none⟩))) (run_field2 _)).b, ?_⟩
      refine ⟨fun _ _ F => gR rfl rfl (arm_load2 rfl (F.f 2 rfl) (Vb.mono F.below)).b, ?_⟩
      refine ⟨fun _ _ F => gR rfl rfl (arm_Mul rfl (F.f 1 rfl) (F.f 3 rfl) hp' hqq' hX.out.symm).b, ?_⟩
      refine ⟨fun _ _ F => gR rfl rfl (arm_fieldF rfl (F.k 3 (Value.pointer (some ⟨w.heap.size + 1, 0, none⟩))) (run_field1 _)).b, ?_⟩
      refine ⟨fun _ _ F => gR rfl rfl (arm_load1 rfl (F.f 5 rfl) (Vb.mono F.below)).b, ?_⟩
      refine ⟨fun _ _ F => gR rfl rfl (arm_fieldF rfl (F.k 2 (Value.pointer (some ⟨w.heap.size, 0, none⟩))) (run_field2 _)).b, ?_⟩
      refine ⟨fun _ _ F => gR rfl rfl (arm_load2 rfl (F.f 7 rfl) (Va.mono F.below)).b, ?_⟩
      refine ⟨fun _ _ F => gR rfl rfl (arm_Mul rfl (F.f 6 rfl) (F.f 8 rfl) hpp' hq' hY.out.symm).b, ?_⟩
      refine ⟨fun _ _ F => gR rfl rfl (arm_alloc rfl (Nat.le_trans hbase F.below.size)), ?_⟩
      refine ⟨fun _ _ F => gR rfl rfl (arm_alloc rfl (Nat.le_trans hbase F.below.size)), ?_⟩
      exact trivial
    intro E' hE gp wp bp G Gs
    obtain rfl : E' = [] := by simpa [subs] using hE
    obtain ⟨gx, e4, hgx, hvx⟩ := G 10 5 _ (by simp) rfl
    obtain ⟨gy, e5, hgy, hvy⟩ := G 11 6 _ (by simp) rfl
    obtain ⟨v1, e1, n1⟩ : ∃ v, gp 4 = v ∧ IsN wp v X := ⟨_, rfl, G 4 16 _ (by simp) rfl⟩
    obtain ⟨v3, e3, n3⟩ : ∃ v, gp 9 = v ∧ IsN wp v Y := ⟨_, rfl, G 9 21 _ (by simp) rfl⟩
    obtain ⟨x1, c1, rfl⟩ := n1.shape
    obtain ⟨x3, c3, rfl⟩ := n3.shape
    have hxy : gx ≠ gy := by have h := Gs 10 11 rfl rfl (by simp) (by simp) rfl rfl (by decide); rw [e4, e5] at h; exact h
    clear G Gs hE
    simp only [addT1]
    simp only [qA, setD, qZ, qS, e1, e3, e4, e5]
    have hvy1 := hvy.setOther ⟨gx, 0, none⟩ (.slice x1 (nl X) c1) hxy
    refine wpAny_store (j := 12) (by kernel_rfl) rfl rfl rfl rfl rfl rfl ⟨_, _, _, rfl⟩ hvx ?_
    refine wpAny_store (j := 13) (by kernel_rfl) rfl rfl rfl rfl rfl rfl ⟨_, _, _, rfl⟩ hvy1 ?_
    refine wpAny_done (by kernel_rfl) ?_ _
    go_wp2_with fail
    go_meet
    case rel => exact ⟨gx, gy, rfl, rfl, (VarI.put hvx n1).setOther (u := .slice x3 (nl Y) c3) hvy1 (Ne.symm hxy), VarI.put hvy1 (n3.setVar hvx), ((Va.mono bp).setOther hvx (by omega)).setOther hvy1 (by omega), ((Vb.mono bp).setOther hvx (by omega)).setOther hvy1 (by omega), ((Vr.mono bp Vr.lt).setOther ⟨gx, 0, none⟩ _ (by show gx ≠ _; omega)).setOther ⟨gy, 0, none⟩ _ (by show gy ≠ _; omega), ((hb1.trans (bp.mono hb1.size)).setCell (p := ⟨gx, 0, none⟩) (by show w.heap.size ≤ gx; omega) _).setCell (p := ⟨gy, 0, none⟩) (by show w.heap.size ≤ gy; omega) _⟩
  case rest =>
  clear Va Vb Vr hb1
  obtain ⟨gx, gy, rfl, rfl, Vx, Vy, Va, Vb, Vr, hb1⟩ := hcut
  go_upto_region 2 with (fail)
  go_cut [7] (fun s7 wx => ∃ gz, s7 = .pointer (some ⟨gz, 0, none⟩) ∧ VarI wx gz Dn ∧ VarI wx gx X ∧ VarI wx gy Y ∧ VarF wx w.heap.size s p q ∧ VarF wx (w.heap.size + 1) s' p' q' ∧ VarFB wx (w.heap.size + 2) false none 0 0 none 0 0 ∧ Below w.heap.size w wx)
  case first =>
    have Va' := Va
    obtain ⟨_, _, _, _, fa, _, ia⟩ := Va'
    have ea := fa.cell2
    have Vb' := Vb
    obtain ⟨_, _, _, _, fb, _, ib⟩ := Vb'
    have eb := fb.cell2
    go_wp2_with fail
    refine (c_natural_Mul _ _ q q' _ ia ib hq' hqq').mono ?_
    rintro e w9 ⟨v9, rfl, n9, bb⟩
    rw [← hD.out] at n9
    obtain ⟨x9, c9, rfl, hc9, hx9⟩ := n9
    have v1 := VarB.made w9 x9 (nl Dn) c9
    have n1 : IsN w9 (.agg #[.slice x9 (nl Dn) c9]) Dn := NewN.isN ⟨x9, c9, rfl, hc9, hx9⟩
    have b2 := bel1 w9 (.cells #[.slice x9 (nl Dn) c9] 24)
    have b3 := bb.trans (b2.mono bb.size)
    go_wp2_with fail
    go_meet
    case rel => exact ⟨_, rfl, VarI.of v1 (n1.mono b2), Vx.mono b3, Vy.mono b3, Va.mono b3, Vb.mono b3, Vr.mono b3 Vr.lt, hb1.trans (b3.mono hb1.size)⟩
  case rest =>
  clear Vx Vy Va Vb Vr hb1
  obtain ⟨gz, rfl, Vz, Vx, Vy, Va, Vb, Vr, hb1⟩ := hcut
  have Va' := Va
  obtain ⟨_, _, _, _, fa, _, _⟩ := Va'
  have ea := fa.cell0
  have Vb' := Vb
  obtain ⟨_, _, _, _, fb, _, _⟩ := Vb'
  have eb := fb.cell0
  by_cases hs : s = s'
  · subst hs
    have hM : Hid (M = X + Y) := Lib.hid (by rw [hMM.out]; unfold addM; rw [if_pos rfl])
    have hG : addG s s X Y = s := by unfold addG; rw [if_pos rfl]
    have HG := Lib.hid hG
    clear hG
    go_upto_region 4 with (fail)
    clear ea eb fa fb
    refine tG Try.f37 4 (addT4 w s gx gy gz X Y M Dn) [] 4 1 ?_ ?_
    · refine ⟨fun _ _ F => gR rfl rfl (arm_fieldF rfl (F.k 2 (Value.pointer (some ⟨w.heap.size, 0, none⟩))) (run_field0 _)).b, ?_⟩
      refine ⟨fun _ _ F => gR rfl rfl (arm_loadS rfl (F.f 0 rfl) (Va.mono F.below)).b, ?_⟩
      refine ⟨fun _ _ F => gR rfl rfl (arm_load rfl (F.k 5 (Value.pointer (some ⟨gx, 0, none⟩))) (Vx.mono F.below)).b, ?_⟩
      refine ⟨fun _ _ F => gR rfl rfl (arm_load rfl (F.k 6 (Value.pointer (some ⟨gy, 0, none⟩))) (Vy.mono F.below)).b, ?_⟩
      refine ⟨fun _ _ F => gR rfl rfl (arm_Add rfl (F.f 2 rfl) (F.f 3 rfl) hX' hY' hM.out.symm).b, ?_⟩
      refine ⟨fun _ _ F => gR rfl rfl (arm_load rfl (F.k 7 (Value.pointer (some ⟨gz, 0, none⟩))) (Vz.mono F.below)).b, ?_⟩
      refine ⟨fun _ _ F => gR rfl rfl (arm_lowest rfl (F.f 1 rfl) (F.f 4 rfl) (F.f 5 rfl) hMb hDb HD0.out rfl rfl rfl).b, ?_⟩
      exact trivial
    intro E' hE gp wp bp G Gs
    obtain rfl : E' = [] := by simpa [subs] using hE
    obtain ⟨x1, c1, x2, c2, e8, n1, n2⟩ := G 6 38 _ (by simp) rfl
    have Vr2 := Vr.mono bp Vr.lt
    clear G Gs hE
    simp only [addT4]
    simp only [qA, setD, qZ, qS, e8]
    refine wpAny_storeF (j := 7) (by kernel_rfl) rfl rfl rfl rfl rfl rfl Vr2 ?_
    refine wpAny_done (by kernel_rfl) ?_ _
    have hB := putF_below (s := (lowS s M)) (a := x1) (L := nl (lowP M Dn)) (c := c1) (b := x2) (M := nl (lowQ M Dn)) (d := c2) (hb1.trans (bp.mono hb1.size)) (show w.heap.size ≤ w.heap.size + 2 by omega)
    rename_i hK
    refine hK _ _ ?_
    refine wp_ret ?_
    show bodyPost Try.prog Try.f37 _ .ret _ _
    exact bodyPost_ret (res_F rfl rfl (VarFB.put Vr2)) rfl ⟨_, rfl, ⟨x1, c1, x2, c2, by rw [HG.out], n1.putF Vr2, n2.putF Vr2⟩, hB⟩
  · have hs' : (s == s') = false := by cases s <;> cases s' <;> simp_all
    have HS := Lib.hid hs
    clear hs
    go_upto_region 5 with (fail)
    obtain ⟨B, hB0⟩ : ∃ B : Bool, Hid (B = decide (Y ≤ X)) := ⟨_, Lib.hid rfl⟩
    obtain ⟨N8, hN8⟩ : ∃ N : Nat, Hid (N = X - Y) := ⟨_, Lib.hid rfl⟩
    go_cut [8, 9] (fun s8 s9 wx => ∃ g8, s8 = .pointer (some ⟨g8, 0, none⟩) ∧ s9 = .bool B ∧ VarI wx g8 N8 ∧ VarI wx gz Dn ∧ VarI wx gx X ∧ VarI wx gy Y ∧ VarF wx w.heap.size s p q ∧ VarF wx (w.heap.size + 1) s' p' q' ∧ VarFB wx (w.heap.size + 2) false none 0 0 none 0 0 ∧ Below w.heap.size w wx)
    case first =>
      have Vx' := Vx
      obtain ⟨yx, dx, qx, ix⟩ := Vx'
      have ex := qx.cell
      have Vy' := Vy
      obtain ⟨yy, dy, qy, iy⟩ := Vy'
      have ey := qy.cell
      clear ea eb
      go_wp2_with fail
      refine (c_natural_Sub _ _ X Y _ ix iy hX' hY').mono ?_
      rintro e w9 ⟨v9, rfl, n9, bb⟩
      rw [← hN8.out] at n9
      rw [← hB0.out]
      obtain ⟨x9, c9, rfl, hc9, hx9⟩ := n9
      have v1 := VarB.made w9 x9 (nl N8) c9
      have n1 : IsN w9 (.agg #[.slice x9 (nl N8) c9]) N8 := NewN.isN ⟨x9, c9, rfl, hc9, hx9⟩
      have b2 := bel1 w9 (.cells #[.slice x9 (nl N8) c9] 24)
      have b3 := bb.trans (b2.mono bb.size)
      go_wp2_with fail
      go_meet
      case rel => exact ⟨_, rfl, rfl, VarI.of v1 (n1.mono b2), Vz.mono b3, Vx.mono b3, Vy.mono b3, Va.mono b3, Vb.mono b3, Vr.mono b3 Vr.lt, hb1.trans (b3.mono hb1.size)⟩
    case rest =>
    clear Vx Vy Vz Va Vb Vr hb1 ea eb fa fb
    obtain ⟨g8, rfl, rfl, V8, Vz, Vx, Vy, Va, Vb, Vr, hb1⟩ := hcut
    by_cases hle : Y ≤ X
    · obtain rfl : B = true := by rw [hB0.out]; exact decide_eq_true hle
      have hN : N8 = M := by rw [hN8.out, hMM.out]; unfold addM; rw [if_neg HS.out, if_pos hle]
      have HG := Lib.hid (show addG s s' X Y = s by unfold addG; rw [if_neg HS.out, if_pos hle])
      rw [hN] at V8
      clear hN
      go_upto_region 7 with (fail)
      refine tF Try.f37 7 (addT7 w s g8 gz M Dn) [] 4 1 ?_ ?_
      · refine ⟨fun _ _ F => gR rfl rfl (arm_fieldF rfl (F.k 2 (Value.pointer (some ⟨w.heap.size, 0, none⟩))) (run_field0 _)).b, ?_⟩
        refine ⟨fun _ _ F => gR rfl rfl (arm_loadS rfl (F.f 0 rfl) (Va.mono F.below)).b, ?_⟩
        refine ⟨fun _ _ F => gR rfl rfl (arm_load rfl (F.k 8 (Value.pointer (some ⟨g8, 0, none⟩))) (V8.mono F.below)).b, ?_⟩
        refine ⟨fun _ _ F => gR rfl rfl (arm_load rfl (F.k 7 (Value.pointer (some ⟨gz, 0, none⟩))) (Vz.mono F.below)).b, ?_⟩
        refine ⟨fun _ _ F => gR rfl rfl (arm_lowest rfl (F.f 1 rfl) (F.f 2 rfl) (F.f 3 rfl) hMb hDb HD0.out rfl rfl rfl).b, ?_⟩
        exact trivial
      intro E' hE gp wp bp G Gs
      obtain rfl : E' = [] := by simpa [subs] using hE
      obtain ⟨x1, c1, x2, c2, e8, n1, n2⟩ := G 4 50 _ (by simp) rfl
      have Vr2 := Vr.mono bp Vr.lt
      clear G Gs hE
      simp only [addT7]
      simp only [qA, setD, qZ, qS, e8]
      refine wpAny_storeF (j := 5) (by kernel_rfl) rfl rfl rfl rfl rfl rfl Vr2 ?_
      refine wpAny_done (by kernel_rfl) ?_ _
      have hB := putF_below (s := (lowS s M)) (a := x1) (L := nl (lowP M Dn)) (c := c1) (b := x2) (M := nl (lowQ M Dn)) (d := c2) (hb1.trans (bp.mono hb1.size)) (show w.heap.size ≤ w.heap.size + 2 by omega)
      rename_i hK
      refine hK _ _ ?_
      refine wp_ret ?_
      show bodyPost Try.prog Try.f37 _ .ret _ _
      exact bodyPost_ret (res_F rfl rfl (VarFB.put Vr2)) rfl ⟨_, rfl, ⟨x1, c1, x2, c2, by rw [HG.out], n1.putF Vr2, n2.putF Vr2⟩, hB⟩
    · obtain rfl : B = false := by rw [hB0.out]; exact decide_eq_false hle
      have HN := Lib.hid (show M = Y - X by rw [hMM.out]; unfold addM; rw [if_neg HS.out, if_neg hle])
      have HG := Lib.hid (show addG s s' X Y = s' by unfold addG; rw [if_neg HS.out, if_neg hle])
      clear hle V8
      go_upto_region 8 with (fail)
      go_cut [10] (fun s10 wx => ∃ g10, s10 = .pointer (some ⟨g10, 0, none⟩) ∧ VarI wx g10 M ∧ VarI wx gz Dn ∧ VarF wx w.heap.size s p q ∧ VarF wx (w.heap.size + 1) s' p' q' ∧ VarFB wx (w.heap.size + 2) false none 0 0 none 0 0 ∧ Below w.heap.size w wx)
      case first =>
        have Vy' := Vy
        obtain ⟨yy, dy, qy, iy⟩ := Vy'
        have ey := qy.cell
        have Vx' := Vx
        obtain ⟨yx, dx, qx, ix⟩ := Vx'
        have ex := qx.cell
        go_wp2_with fail
        refine (c_natural_Sub _ _ Y X _ iy ix hY' hX').mono ?_
        rintro e w9 ⟨v9, rfl, n9, bb⟩
        rw [← HN.out] at n9
        obtain ⟨x9, c9, rfl, hc9, hx9⟩ := n9
        have v1 := VarB.made w9 x9 (nl M) c9
        have n1 : IsN w9 (.agg #[.slice x9 (nl M) c9]) M := NewN.isN ⟨x9, c9, rfl, hc9, hx9⟩
        have b2 := bel1 w9 (.cells #[.slice x9 (nl M) c9] 24)
        have b3 := bb.trans (b2.mono bb.size)
        go_wp2_with fail
        go_meet
        case rel => exact ⟨_, rfl, VarI.of v1 (n1.mono b2), Vz.mono b3, Va.mono b3, Vb.mono b3, Vr.mono b3 Vr.lt, hb1.trans (b3.mono hb1.size)⟩
      case rest =>
      clear Vx Vy Vz Va Vb Vr hb1
      obtain ⟨g10, rfl, V10, Vz, Va, Vb, Vr, hb1⟩ := hcut
      go_upto_region 9 with (fail)
      refine tF Try.f37 9 (addT9 w s' g10 gz M Dn) [] 4 1 ?_ ?_
      · refine ⟨fun _ _ F => gR rfl rfl (arm_fieldF rfl (F.k 3 (Value.pointer (some ⟨w.heap.size + 1, 0, none⟩))) (run_field0 _)).b, ?_⟩
        refine ⟨fun _ _ F => gR rfl rfl (arm_loadS rfl (F.f 0 rfl) (Vb.mono F.below)).b, ?_⟩
        refine ⟨fun _ _ F => gR rfl rfl (arm_load rfl (F.k 10 (Value.pointer (some ⟨g10, 0, none⟩))) (V10.mono F.below)).b, ?_⟩
        refine ⟨fun _ _ F => gR rfl rfl (arm_load rfl (F.k 7 (Value.pointer (some ⟨gz, 0, none⟩))) (Vz.mono F.below)).b, ?_⟩
        refine ⟨fun _ _ F => gR rfl rfl (arm_lowest rfl (F.f 1 rfl) (F.f 2 rfl) (F.f 3 rfl) hMb hDb HD0.out rfl rfl rfl).b, ?_⟩
        exact trivial
      intro E' hE gp wp bp G Gs
      obtain rfl : E' = [] := by simpa [subs] using hE
      obtain ⟨x1, c1, x2, c2, e8, n1, n2⟩ := G 4 61 _ (by simp) rfl
      have Vr2 := Vr.mono bp Vr.lt
      clear G Gs hE
      simp only [addT9]
      simp only [qA, setD, qZ, qS, e8]
      refine wpAny_storeF (j := 5) (by kernel_rfl) rfl rfl rfl rfl rfl rfl Vr2 ?_
      refine wpAny_done (by kernel_rfl) ?_ _
      have hB := putF_below (s := (lowS s' M)) (a := x1) (L := nl (lowP M Dn)) (c := c1) (b := x2) (M := nl (lowQ M Dn)) (d := c2) (hb1.trans (bp.mono hb1.size)) (show w.heap.size ≤ w.heap.size + 2 by omega)
      rename_i hK
      refine hK _ _ ?_
      refine wp_ret ?_
      show bodyPost Try.prog Try.f37 _ .ret _ _
      exact bodyPost_ret (res_F rfl rfl (VarFB.put Vr2)) rfl ⟨_, rfl, ⟨x1, c1, x2, c2, by rw [HG.out], n1.putF Vr2, n2.putF Vr2⟩, hB⟩
end Go.Proofs.Ytldnimohnbjfaaa
namespace Go.Proofs.Ytldnimohnbjfaaa
set_option linter.unusedSimpArgs false
set_option linter.unusedVariables false
set_option maxRecDepth 100000
open Go.RowKit
/-- In w' only block g may differ from what it was in w. -/
structure Upd (w : World) (g : Nat) (w' : World) : Prop where
  os : w'.os = w.os
  tape : w'.tape = w.tape
  output : w'.output = w.output
  size : w'.heap.size = w.heap.size
  block : ∀ k, k ≠ g → w'.heap[k]? = w.heap[k]?
theorem Upd.cell (w : World) (g k : Nat) (u : Value) : Upd w g (w.setCell ⟨g, k, none⟩ u) := ⟨rfl, rfl, rfl, by simp [World.setCell], fun i hi => Below.heap_setCell _ _ _ _ hi⟩
theorem Upd.trans {a b c : World} {g : Nat} (h : Upd a g b) (k : Upd b g c) : Upd a g c := ⟨k.os.trans h.os, k.tape.trans h.tape, k.output.trans h.output, k.size.trans h.size, fun i hi => (k.block i hi).trans (h.block i hi)⟩
theorem Upd.below {W w w' : World} {g B : Nat} (h : Below B W w) (u : Upd w g w') (hB : B ≤ g) : Below B W w' :=
  h.trans ⟨u.os, u.tape, u.output, by rw [u.size]; exact Nat.le_refl _, fun k hk => u.block k (by omega)⟩
/-- Block g is a variable: no row of digits lies there. -/
def Own (w : World) (g : Nat) : Prop := ∃ (cs : Array Value) (t : TypeId), w.heap[g]? = some (Obj.cells cs t (0, 0)) ∧ ∀ (k : Nat) (n : Int), cs[k]? ≠ some (Value.int .u32 n)
theorem VarB.own {w : World} {g L c : Nat} {a : Option Addr} (h : VarB w g a L c) : Own w g := ⟨_, _, h, fun k n => by
  match k with
  | 0 => intro h; cases h
  | k + 1 => intro h; simp at h⟩
theorem VarFB.own {w : World} {g L c M d : Nat} {s : Bool} {a b : Option Addr} (h : VarFB w g s a L c b M d) : Own w g := ⟨_, _, h, fun k n => by
  match k with
  | 0 => intro h; cases h
  | 1 => intro h; cases h
  | 2 => intro h; cases h
  | k + 3 => intro h; simp at h⟩
theorem VarI.own {w : World} {g N : Nat} (h : VarI w g N) : Own w g := by obtain ⟨_, _, h, _⟩ := h; exact h.own
theorem VarF.own {w : World} {g p q : Nat} {s : Bool} (h : VarF w g s p q) : Own w g := by obtain ⟨_, _, _, _, h, _⟩ := h; exact h.own
theorem Own.ne {w : World} {g k o : Nat} {x : Int} (h : Own w g) (hd : w.cell? ⟨k, o, none⟩ = some (.int .u32 x)) : k ≠ g := by
  rintro rfl
  obtain ⟨cs, t, h1, h2⟩ := h
  rw [cell_of_row w k o _ _ (0, 0) h1] at hd
  exact h2 o x hd
section
variable {w w' : World} {g g' N L c M d p q : Nat} {s : Bool} {a b : Option Addr}
theorem IsR.upd {v : Value} {L N : Nat} (h : IsR w v L N) (o : Own w g) (u : Upd w g w') : IsR w' v L N := by
  obtain ⟨x, cap, rfl, hc, hx⟩ := h
  refine ⟨x, cap, rfl, hc, hx.lt, fun hL => ?_⟩
  obtain ⟨b, off, rfl, hd⟩ := hx.cells hL
  have hne : b ≠ g := o.ne (by simpa using hd 0 hL)
  refine ⟨b, off, rfl, fun j hj => ?_⟩
  rw [World.cell?_of_block (u.block b hne)]; exact hd j hj
theorem IsN.upd {v : Value} (h : IsN w v N) (o : Own w g) (u : Upd w g w') : IsN w' v N := IsR.upd h o u
theorem IsF.upd {v : Value} (h : IsF w v s p q) (o : Own w g) (u : Upd w g w') : IsF w' v s p q := by
  obtain ⟨x, cx, y, cy, rfl, h1, h2⟩ := h; exact ⟨x, cx, y, cy, rfl, h1.upd o u, h2.upd o u⟩
theorem VarB.upd (h : VarB w g' a L c) (o : Own w g) (u : Upd w g w') (hn : g' ≠ g) : VarB w' g' a L c := (u.block g' hn).trans h
theorem VarFB.upd (h : VarFB w g' s a L c b M d) (o : Own w g) (u : Upd w g w') (hn : g' ≠ g) : VarFB w' g' s a L c b M d := (u.block g' hn).trans h
theorem VarI.upd (h : VarI w g' N) (o : Own w g) (u : Upd w g w') (hn : g' ≠ g) : VarI w' g' N := by
  obtain ⟨x, cx, h1, h2⟩ := h; exact ⟨x, cx, h1.upd o u hn, h2.upd o u⟩
theorem VarF.upd (h : VarF w g' s p q) (o : Own w g) (u : Upd w g w') (hn : g' ≠ g) : VarF w' g' s p q := by
  obtain ⟨x, cx, y, cy, h0, h1, h2⟩ := h; exact ⟨x, cx, y, cy, h0.upd o u hn, h1.upd o u, h2.upd o u⟩
theorem VarI.zero (h : VarB w g none 0 0) : VarI w g 0 := ⟨none, 0, by rw [nl_zero]; exact h, by rw [nl_zero]; exact NewN.isN (base := 0) NewN.of_zero⟩
theorem VarF.zero (h : VarFB w g false none 0 0 none 0 0) : VarF w g false 0 0 := by
  have h0 : IsN w (.agg #[.slice none (nl 0) 0]) 0 := by rw [nl_zero]; exact NewN.isN (base := 0) NewN.of_zero
  exact ⟨none, 0, none, 0, by rw [nl_zero]; exact h, h0, h0⟩
theorem VarFB.upd_put {s' : Bool} {a' b' : Option Addr} {L' c' M' d' : Nat} : Upd w g (putF w g s' a' L' c' b' M' d') := ((Upd.cell w g 0 _).trans (Upd.cell _ g 1 _)).trans (Upd.cell _ g 2 _)
end
section
variable {Q : Exit → Act → World → Prop} {md : Region.Mode} {ops : Array Oper} {o : Oper} {a : Act} {w : World} {j fuel : Nat} {listed : Array Bool} {x y : Operand} {g L c M d N p q : Nat} {s t : Bool} {u v : Option Addr}
theorem wp_storeN {K : Act → World → Prop} (hop : o.op = .store 24 x y) (hd : o.dst = none) (hx : a.eval x = .pointer (some ⟨g, 0, none⟩)) (hy : IsN w (a.eval y) N) (hv : ∃ s L c, VarB w g s L c)
    (hK : ∀ w1, Upd w g w1 → VarI w1 g N → K a w1) : Oper.wp Try.prog o a w K Q := by
  obtain ⟨s, L, c, hv⟩ := hv
  obtain ⟨x1, c1, e⟩ := hy.shape
  rw [e] at hy
  exact wp_store hop hd hx e ⟨_, _, _, rfl⟩ hv (hK _ (Upd.cell w g 0 _) ⟨x1, c1, hv.set, hy.upd hv.own (Upd.cell w g 0 _)⟩)
theorem wp_storeFr {K : Act → World → Prop} (hop : o.op = .store 26 x y) (hd : o.dst = none) (hx : a.eval x = .pointer (some ⟨g, 0, none⟩)) (hy : IsF w (a.eval y) t p q) (hv : ∃ s u L c v M d, VarFB w g s u L c v M d)
    (hK : ∀ w1, Upd w g w1 → VarF w1 g t p q → K a w1) : Oper.wp Try.prog o a w K Q := by
  obtain ⟨s, u, L, c, v, M, d, hv⟩ := hv
  obtain ⟨x1, c1, x2, c2, e, h1, h2⟩ := hy
  unfold Oper.wp execOp
  rw [hop]
  simp only [hx, e, Sem.run_bind, run_storeF hv, Result.andThen, Sem.run_pure, Oper.upon_skip]
  rw [hd]
  exact hK _ VarFB.upd_put ⟨x1, c1, x2, c2, hv.put, h1.putF hv, h2.putF hv⟩
/-- A store that is left. -/
theorem wpAny_storeN (hr : Region.ready md ops listed = [j]) (ho : ops[j]? = some o) (hop : o.op = .store 24 x y) (hg : o.guard = none) (hd : o.dst = none)
    (hx : a.eval x = .pointer (some ⟨g, 0, none⟩)) (hy : IsN w (a.eval y) N) (hv : ∃ s L c, VarB w g s L c) (h : ∀ w1, Upd w g w1 → VarI w1 g N → wpAny Try.prog md ops Q fuel (listed.setIfInBounds j true) a w1) :
    wpAny Try.prog md ops Q (fuel + 1) listed a w := by
  refine wpAny_ready hr (by simp) (AllReady.cons ho (fun K hK => ?_) AllReady.nil)
  rw [if_pos (wanted_none hg)]
  exact wp_storeN hop hd hx hy hv (fun w1 u1 v1 => hK _ _ (h w1 u1 v1))
theorem wpAny_storeFr (hr : Region.ready md ops listed = [j]) (ho : ops[j]? = some o) (hop : o.op = .store 26 x y) (hg : o.guard = none) (hd : o.dst = none)
    (hx : a.eval x = .pointer (some ⟨g, 0, none⟩)) (hy : IsF w (a.eval y) t p q) (hv : ∃ s u L c v M d, VarFB w g s u L c v M d) (h : ∀ w1, Upd w g w1 → VarF w1 g t p q → wpAny Try.prog md ops Q fuel (listed.setIfInBounds j true) a w1) :
    wpAny Try.prog md ops Q (fuel + 1) listed a w := by
  refine wpAny_ready hr (by simp) (AllReady.cons ho (fun K hK => ?_) AllReady.nil)
  rw [if_pos (wanted_none hg)]
  exact wp_storeFr hop hd hx hy hv (fun w1 u1 v1 => hK _ _ (h w1 u1 v1))
theorem VarB.any (h : VarB w g u L c) : ∃ s L c, VarB w g s L c := ⟨_, _, _, h⟩
theorem VarI.any (h : VarI w g N) : ∃ s L c, VarB w g s L c := by obtain ⟨_, _, h, _⟩ := h; exact ⟨_, _, _, h⟩
theorem VarFB.any (h : VarFB w g s u L c v M d) : ∃ s u L c v M d, VarFB w g s u L c v M d := ⟨_, _, _, _, _, _, _, h⟩
theorem VarF.any (h : VarF w g s p q) : ∃ s u L c v M d, VarFB w g s u L c v M d := by obtain ⟨_, _, _, _, h, _⟩ := h; exact ⟨_, _, _, _, _, _, _, h⟩
end
def Sp.pair (A B : Sp) : Sp := ⟨fun w v => ∃ x y, v = .tuple #[x, y] ∧ A.p w x ∧ B.p w y, fun w w' _ h hb => by obtain ⟨x, y, rfl, h1, h2⟩ := h; exact ⟨x, y, rfl, A.st w w' _ h1 hb, B.st w w' _ h2 hb⟩⟩
def Sp.trip (A B C : Sp) : Sp := ⟨fun w v => ∃ x y z, v = .tuple #[x, y, z] ∧ A.p w x ∧ B.p w y ∧ C.p w z, fun w w' _ h hb => by obtain ⟨x, y, z, rfl, h1, h2, h3⟩ := h; exact ⟨x, y, z, rfl, A.st w w' _ h1 hb, B.st w w' _ h2 hb, C.st w w' _ h3 hb⟩⟩
section
variable {Q : Exit → Act → World → Prop} {md : Region.Mode} {ops : Array Oper} {o : Oper} {a : Act} {w : World} {j fuel : Nat} {listed : Array Bool} {x y : Operand} {g L c M d N p q : Nat} {s t : Bool} {u v : Option Addr}
section
variable {f : FuncId} {S S1 S2 S3 : Sp} {z : Operand} {tt : Array TypeId} {R : World → Ending → World → Prop}
theorem arm_C0 (ho : o.op = .call { callee := .value (.func f), args := #[], argTypes := tt }) (hen : ∀ (vs : Array Value) w, (callFunc f vs).run Try.prog w = .ok (.enter f vs) w)
    (hc : ∀ w, Calls Try.prog f #[] w (R w)) (hR : ∀ e w', R w e w' → ∃ v, e = .returned v ∧ S.p w' v ∧ Below w.heap.size w w') : Arm Try.prog Q o a w S :=
  arm_call ho hen (R := R w) (by simpa using hc w) hR
theorem arm_C1 (ho : o.op = .call { callee := .value (.func f), args := #[x], argTypes := tt }) (hen : ∀ (vs : Array Value) w, (callFunc f vs).run Try.prog w = .ok (.enter f vs) w)
    (hx : Is a w x S1) (hc : ∀ va w, S1.p w va → Calls Try.prog f #[va] w (R w)) (hR : ∀ e w', R w e w' → ∃ v, e = .returned v ∧ S.p w' v ∧ Below w.heap.size w w') : Arm Try.prog Q o a w S :=
  arm_call ho hen (R := R w) (by simpa using hc _ w hx) hR
theorem arm_C2 (ho : o.op = .call { callee := .value (.func f), args := #[x, y], argTypes := tt }) (hen : ∀ (vs : Array Value) w, (callFunc f vs).run Try.prog w = .ok (.enter f vs) w)
    (hx : Is a w x S1) (hy : Is a w y S2) (hc : ∀ va vb w, S1.p w va → S2.p w vb → Calls Try.prog f #[va, vb] w (R w)) (hR : ∀ e w', R w e w' → ∃ v, e = .returned v ∧ S.p w' v ∧ Below w.heap.size w w') : Arm Try.prog Q o a w S :=
  arm_call ho hen (R := R w) (by simpa using hc _ _ w hx hy) hR
theorem arm_C3 (ho : o.op = .call { callee := .value (.func f), args := #[x, y, z], argTypes := tt }) (hen : ∀ (vs : Array Value) w, (callFunc f vs).run Try.prog w = .ok (.enter f vs) w)
    (hx : Is a w x S1) (hy : Is a w y S2) (hz : Is a w z S3) (hc : ∀ va vb vc w, S1.p w va → S2.p w vb → S3.p w vc → Calls Try.prog f #[va, vb, vc] w (R w)) (hR : ∀ e w', R w e w' → ∃ v, e = .returned v ∧ S.p w' v ∧ Below w.heap.size w w') : Arm Try.prog Q o a w S :=
  arm_call ho hen (R := R w) (by simpa using hc _ _ _ w hx hy hz) hR
theorem arm_pair0 {A B : Sp} (ho : o.op = .extract x 0) (hx : Is a w x (.pair A B)) : Arm Try.prog Q o a w A := by
  obtain ⟨u, v, e, h1, _⟩ := hx
  exact arm_run u (run_ext ho e rfl w) h1
theorem arm_pair1 {A B : Sp} (ho : o.op = .extract x 1) (hx : Is a w x (.pair A B)) : Arm Try.prog Q o a w B := by
  obtain ⟨u, v, e, _, h1⟩ := hx
  exact arm_run v (run_ext ho e rfl w) h1
theorem arm_trip0 {A B C : Sp} (ho : o.op = .extract x 0) (hx : Is a w x (.trip A B C)) : Arm Try.prog Q o a w A := by
  obtain ⟨u, v, z, e, h1, _, _⟩ := hx
  exact arm_run u (run_ext ho e rfl w) h1
theorem arm_trip1 {A B C : Sp} (ho : o.op = .extract x 1) (hx : Is a w x (.trip A B C)) : Arm Try.prog Q o a w B := by
  obtain ⟨u, v, z, e, _, h1, _⟩ := hx
  exact arm_run v (run_ext ho e rfl w) h1
theorem arm_trip2 {A B C : Sp} (ho : o.op = .extract x 2) (hx : Is a w x (.trip A B C)) : Arm Try.prog Q o a w C := by
  obtain ⟨u, v, z, e, _, _, h1⟩ := hx
  exact arm_run z (run_ext ho e rfl w) h1
theorem ofDiv {w w' : World} {q r : Nat} {c : Int} {e : Ending} (h : RetDiv w q r c e w') : ∃ v, e = .returned v ∧ (Sp.trip (.nat q) (.nat r) (.val (.int .i64 c))).p w' v ∧ Below w.heap.size w w' := by
  obtain ⟨v, u, rfl, h1, h2, h3⟩ := h; exact ⟨_, rfl, ⟨_, _, _, rfl, h1.isN, h2.isN, rfl⟩, h3⟩
theorem ofP {w w' : World} {N : Nat} {c : Int} {e : Ending} (h : RetP w N c e w') : ∃ v, e = .returned v ∧ (Sp.pair (.nat N) (.val (.int .i64 c))).p w' v ∧ Below w.heap.size w w' := by
  obtain ⟨v, rfl, h1, h2⟩ := h; exact ⟨_, rfl, ⟨_, _, rfl, h1.isN, rfl⟩, h2⟩
theorem ofFEp {w w' : World} {p q : Nat} {c : Int} {e : Ending} (h : RetFE w s p q c e w') : ∃ v, e = .returned v ∧ (Sp.pair (.fr s p q) (.val (.int .i64 c))).p w' v ∧ Below w.heap.size w w' := by
  obtain ⟨v, rfl, h1, h2⟩ := h; exact ⟨_, rfl, ⟨_, _, rfl, h1, rfl⟩, h2⟩
end
theorem arm_build0F (ho : o.op = .build 26 #[]) : Arm Try.prog Q o a w (.fr false 0 0) := by
  refine arm_run (.agg #[.bool false, .slice none 0 0, .slice none 0 0]) ?_ (IsF.zero w)
  unfold execOp
  rw [ho]
  simp only [List.map_toArray, List.map_nil]
  go_simp
end
theorem res_N {fn : Func} {p : Tmp} (h : fn.results = #[.cell p 24]) {tmps : Array Value} {w : World} {g L c : Nat} {a : Option Addr}
    (hp : tmps[p]? = some (.pointer (some ⟨g, 0, none⟩))) (hv : VarB w g a L c) : (results fn tmps).run Try.prog w = .ok (.agg #[.slice a L c]) w := by
  have c0 := hv.cell
  simp [results, h, hp, asAddr, loadVar, go_sem, c0]
theorem run_eqBB (a b : Bool) (w : World) : (binOp BinOp.eql 4 (.bool a) (.bool b)).run Try.prog w = .ok (.bool (a == b)) w := by cases a <;> cases b <;> rfl
theorem resN {w : World} : Below w.heap.size w (w.alloc (.cells #[.slice none 0 0] 24)) ∧ VarB (w.alloc (.cells #[.slice none 0 0] 24)) w.heap.size none 0 0 := ⟨bel1 w _, VarB.made w none 0 0⟩
/-- A fraction: sign, numerator, denominator. -/
structure Fq where
  s : Bool
  p : Nat
  q : Nat
abbrev VarQ (w : World) (g : Nat) (x : Fq) : Prop := VarF w g x.s x.p x.q
abbrev IsQ (w : World) (v : Value) (x : Fq) : Prop := IsF w v x.s x.p x.q
abbrev Sp.fq (x : Fq) : Sp := .fr x.s x.p x.q
def RetQ (W : World) (x : Fq) (e : Ending) (w' : World) : Prop := RetF W x.s x.p x.q e w'
def RetQE (W : World) (x : Fq) (c : Int) (e : Ending) (w' : World) : Prop := RetFE W x.s x.p x.q c e w'
theorem ofQ {w w' : World} {x : Fq} {e : Ending} (h : RetQ w x e w') : ∃ v, e = .returned v ∧ (Sp.fq x).p w' v ∧ Below w.heap.size w w' := h
theorem ofQE {w w' : World} {x : Fq} {c : Int} {e : Ending} (h : RetQE w x c e w') : ∃ v, e = .returned v ∧ (Sp.pair (.fq x) (.val (.int .i64 c))).p w' v ∧ Below w.heap.size w w' := ofFEp h
def Fq.low (s : Bool) (m n : Nat) : Fq := ⟨lowS s m, lowP m n, lowQ m n⟩
def Fq.neg (x : Fq) : Fq := ⟨lowS (!x.s) x.p, x.p, x.q⟩
def Fq.add (x y : Fq) : Fq := .low (addG x.s y.s (x.p * y.q) (y.p * x.q)) (addM x.s y.s (x.p * y.q) (y.p * x.q)) (x.q * y.q)
def Fq.mul (x y : Fq) : Fq := .low (x.s != y.s) (x.p * y.p) (x.q * y.q)
def Fq.sub (x y : Fq) : Fq := x.add y.neg
def Fq.sgn (x : Fq) : Int := if x.p = 0 then 0 else if x.s then -1 else 1
def Fq.cmp (x y : Fq) : Int := (x.sub y).sgn
def Fq.zero : Fq := ⟨false, 0, 0⟩
/-- At most d digits; the denominator is not zero. -/
structure Fq.ok (d : Nat) (x : Fq) : Prop where
  p : nl x.p ≤ d
  q : nl x.q ≤ d
  n : x.q ≠ 0
section
variable {x y : Fq} {d e : Nat}
theorem Fq.ok.mono (h : x.ok d) (hd : d ≤ e) : x.ok e := ⟨Nat.le_trans h.p hd, Nat.le_trans h.q hd, h.n⟩
theorem Fq.ok_low {s : Bool} {m n : Nat} (hm : nl m ≤ d) (hn : nl n ≤ d) (h0 : n ≠ 0) : (Fq.low s m n).ok d :=
  ⟨Nat.le_trans (nl_mono (Nat.div_le_self _ _)) hm, Nat.le_trans (nl_mono (Nat.div_le_self _ _)) hn, fun h => by
    have h1 : n / Nat.gcd m n = 0 := h
    rw [Nat.div_eq_zero_iff] at h1
    have h2 := Nat.gcd_pos_of_pos_right m (Nat.pos_of_ne_zero h0)
    have h3 := Nat.gcd_le_right m (Nat.pos_of_ne_zero h0)
    omega⟩
theorem Fq.ok.neg (h : x.ok d) : x.neg.ok d := ⟨h.p, h.q, h.n⟩
theorem Fq.ok.mul (h : x.ok d) (k : y.ok e) : (x.mul y).ok (d + e) := Fq.ok_low (nl_mul2 h.p k.p) (nl_mul2 h.q k.q) (Nat.mul_ne_zero h.n k.n)
theorem Fq.ok.add (h : x.ok d) (k : y.ok e) : (x.add y).ok (d + e + (d + e) + 1) :=
  Fq.ok_low (Nat.le_trans (nl_mono (addM_le _ _ _ _)) (nl_add2 (nl_mul2 h.p k.q) (Nat.le_trans (nl_mul2 k.p h.q) (by omega)))) (Nat.le_trans (nl_mul2 h.q k.q) (by omega)) (Nat.mul_ne_zero h.n k.n)
theorem Fq.ok.sub (h : x.ok d) (k : y.ok e) : (x.sub y).ok (d + e + (d + e) + 1) := h.add k.neg
end
theorem q_fNeg (va : Value) (x : Fq) (w : World) (ha : IsQ w va x) (h : x.ok 1000000000) : Calls Try.prog 39 #[va] w fun e w' => RetQ w x.neg e w' := c_fNeg va x.s x.p x.q w ha h.p h.q
theorem q_fAdd (va vb : Value) (x y : Fq) (w : World) (ha : IsQ w va x) (hb : IsQ w vb y) (h : x.ok 1000000000) (k : y.ok 1000000000) : Calls Try.prog 37 #[va, vb] w fun e w' => RetQ w (x.add y) e w' := c_fAdd va vb x.s y.s x.p x.q y.p y.q w ha hb h.p h.q k.p k.q h.n k.n
theorem q_fMul (va vb : Value) (x y : Fq) (w : World) (ha : IsQ w va x) (hb : IsQ w vb y) (h : x.ok 1000000000) (k : y.ok 1000000000) : Calls Try.prog 38 #[va, vb] w fun e w' => RetQ w (x.mul y) e w' := c_fMul va vb x.s y.s x.p x.q y.p y.q w ha hb h.p h.q k.p k.q h.n k.n
theorem q_Make (s : Bool) (va vb : Value) (m n : Nat) (w : World) (ha : IsN w va m) (hb : IsN w vb n) (hm : nl m ≤ 10000000000) (hn : nl n ≤ 10000000000) (h0 : n ≠ 0) : Calls Try.prog 25 #[.bool s, va, vb] w fun e w' => RetQE w (Fq.low s m n) 0 e w' := (c_Make s va vb m n w ha hb hm hn).mono fun _ _ h => h.2 h0
theorem q_rMake (s : Bool) (va vb : Value) (m n : Nat) (w : World) (ha : IsN w va m) (hb : IsN w vb n) (hm : nl m ≤ 10000000000) (hn : nl n ≤ 10000000000) (h0 : n ≠ 0) : Calls Try.prog 26 #[.bool s, va, vb] w fun e w' => RetQE w (Fq.low s m n) 0 e w' := (c_rMake s va vb m n w ha hb hm hn).mono fun _ _ h => h.2 h0
theorem q_Make0 (s : Bool) (va vb : Value) (m n : Nat) (w : World) (ha : IsN w va m) (hb : IsN w vb n) (hm : nl m ≤ 10000000000) (hn : nl n ≤ 10000000000) (h0 : n = 0) : Calls Try.prog 25 #[.bool s, va, vb] w fun e w' => RetQE w Fq.zero 8 e w' := (c_Make s va vb m n w ha hb hm hn).mono fun _ _ h => h.1 h0
theorem q_rMake0 (s : Bool) (va vb : Value) (m n : Nat) (w : World) (ha : IsN w va m) (hb : IsN w vb n) (hm : nl m ≤ 10000000000) (hn : nl n ≤ 10000000000) (h0 : n = 0) : Calls Try.prog 26 #[.bool s, va, vb] w fun e w' => RetQE w Fq.zero 8 e w' := (c_rMake s va vb m n w ha hb hm hn).mono fun _ _ h => h.1 h0
end Go.Proofs.Ytldnimohnbjfaaa
namespace Go.Proofs.Ytldnimohnbjfaaa
set_option linter.unusedSimpArgs false
set_option linter.unusedVariables false
set_option maxRecDepth 100000
open Go.RowKit
def fSubT0 (x : Fq) (y : Fq) : List (Nat × Tmp × Sp) :=
   [(0, 5, .fq x),
    (1, 6, .fq y),
    (2, 7, .fq y.neg),
    (3, 8, .fq (x.add y.neg))]
set_option maxHeartbeats 4000000 in
theorem q_fSub (va vb : Value) (x y : Fq) (w : World) (ha : IsQ w va x) (hb : IsQ w vb y) (h : x.ok 1000000000) (k : y.ok 1000000000) :
    Calls Try.prog 34 #[va, vb] w fun e w' => RetQ w (x.sub y) e w' := by
  obtain ⟨a0, c0, b0, d0, rfl, m0, k0⟩ := boxF ha
  obtain ⟨a1, c1, b1, d1, rfl, m1, k1⟩ := boxF (hb.mono m0)
  rw [World.size_alloc ] at k1
  have n1 := m0.trans (m1.mono m0.size)
  obtain ⟨m2, k2⟩ := resF (w := ((w.alloc (.cells #[.bool x.s, .slice a0 (nl x.p) c0, .slice b0 (nl x.q) d0] 26)).alloc (.cells #[.bool y.s, .slice a1 (nl y.p) c1, .slice b1 (nl y.q) d1] 26)))
  rw [World.size_alloc, World.size_alloc ] at k2
  have n2 := n1.trans (m2.mono n1.size)
  clear ha hb
  go_enter Try.func34, Try.ntmps34
  go_upto_region 0 with (fail)
  go_cut [2, 3, 4] (fun s_2 s_3 s_4 wx => s_2 = Value.pointer (some ⟨w.heap.size, 0, none⟩) ∧ s_3 = Value.pointer (some ⟨w.heap.size + 1, 0, none⟩) ∧ s_4 = Value.pointer (some ⟨w.heap.size + 2, 0, none⟩) ∧ VarQ wx w.heap.size x ∧ VarQ wx (w.heap.size + 1) y ∧ VarFB wx (w.heap.size + 2) false none 0 0 none 0 0 ∧ Below w.heap.size w wx)
  case first =>
    go_wp2_with fail
    go_meet
    case rel => exact ⟨rfl, rfl, rfl, ((k0.mono m1).mono m2), (k1.mono m2), k2, n2⟩
  case rest =>
  clear m0 k0 m1 k1 m2 k2 n1 n2
  obtain ⟨rfl, rfl, rfl, V0, V1, V2, hb1⟩ := hcut
  go_upto_region 1 with (fail)
  go_cut [] (fun wx => VarQ wx w.heap.size x ∧ VarQ wx (w.heap.size + 1) y ∧ VarQ wx (w.heap.size + 2) (x.add y.neg) ∧ Below w.heap.size w wx)
  case first =>
    refine tG Try.f34 1 (fSubT0 x y) [] 4 1 ?_ ?_
    · refine ⟨fun _ _ F => gR rfl rfl (arm_loadF rfl (F.k 2 (Value.pointer (some ⟨w.heap.size, 0, none⟩))) (V0.mono F.below)).b, ?_⟩
      refine ⟨fun _ _ F => gR rfl rfl (arm_loadF rfl (F.k 3 (Value.pointer (some ⟨w.heap.size + 1, 0, none⟩))) (V1.mono F.below)).b, ?_⟩
      refine ⟨fun _ _ F => gR rfl rfl (arm_C1 rfl (enters Try.func39 rfl rfl) (F.f 1 rfl) (fun va w h1 => q_fNeg va y w h1 k) (fun _ _ h => ofQ h)).b, ?_⟩
      refine ⟨fun _ _ F => gR rfl rfl (arm_C2 rfl (enters Try.func37 rfl rfl) (F.f 0 rfl) (F.f 2 rfl) (fun va vb w h1 h2 => q_fAdd va vb x y.neg w h1 h2 h k.neg) (fun _ _ h => ofQ h)).b, ?_⟩
      exact trivial
    intro E' hE gp wp bp G Gs
    obtain rfl : E' = [] := by simpa [subs] using hE
    have n_3 : (Sp.fq (x.add y.neg)).p wp (gp 3) := G 3 8 _ (by simp) rfl
    clear G Gs hE
    simp only [fSubT0]
    simp only [qA, setD, qZ, qS]
    have T0 := (V2.mono bp V2.lt)
    refine wpAny_storeFr (j := 4) (by kernel_rfl) rfl rfl rfl rfl rfl n_3 T0.any ?_
    intro w0 u0 v0
    have O0 := T0.own
    refine wpAny_done (by kernel_rfl) ?_ _
    go_wp2_with fail
    go_meet
    case rel => exact ⟨((V0.mono bp).upd O0 u0 (by omega)), ((V1.mono bp).upd O0 u0 (by omega)), v0, (Upd.below (hb1.trans (bp.mono hb1.size)) u0 (by omega))⟩
  case rest =>
  clear V0 V1 V2 hb1
  obtain ⟨V0, V1, V2, hb1⟩ := hcut
  obtain ⟨r1, r2, r3, r4, rV, rn, rm⟩ := V2
  have c0 := rV.cell0
  have c1 := rV.cell1
  have c2 := rV.cell2
  go_wp2
  exact bodyPost_ret (res_F rfl rfl rV) rfl ⟨_, rfl, ⟨r1, r2, r3, r4, rfl, rn, rm⟩, hb1⟩
end Go.Proofs.Ytldnimohnbjfaaa
namespace Go.Proofs.Ytldnimohnbjfaaa
set_option linter.unusedSimpArgs false
set_option linter.unusedVariables false
set_option maxRecDepth 100000
open Go.RowKit
theorem wrap_mag (v : Int) (h1 : -9223372036854775808 ≤ v) (hv : v < 0) : IntKind.u64.wrap (-IntKind.u64.wrap v) = ((v.natAbs : Nat) : Int) := by
  simp only [IntKind.wrap, IntKind.signed, IntKind.bits, Bool.false_and, Bool.false_eq_true, if_false]
  omega
theorem c_mag (v : Int) (w : World) (h1 : -9223372036854775808 ≤ v) (h2 : v < 9223372036854775808) :
    Calls Try.prog 63 #[.int .i64 v] w fun e w' => RetN w v.natAbs e w' := by
  obtain ⟨m0, k0⟩ := resN (w := w)
  have c0 := k0.cell
  have f0 := k0.frozen
  have fin : ∀ e w9, RetNew (w.alloc (.cells #[.slice none 0 0] 24)) v.natAbs e w9 → ∃ a c, e = .returned (.agg #[.slice a (nl v.natAbs) c]) ∧ IsN w9 (.agg #[.slice a (nl v.natAbs) c]) v.natAbs ∧ VarB w9 w.heap.size none 0 0 ∧ Below w.heap.size w w9 := by
    rintro e w9 ⟨x, rfl, nx, hb⟩
    have nx := nx.isN
    obtain ⟨a, c, rfl⟩ := nx.shape
    exact ⟨a, c, rfl, nx, k0.mono hb k0.lt, m0.trans (hb.mono m0.size)⟩
  go_enter Try.func63, Try.ntmps63
  by_cases hv : v < 0
  · have e0 := wrap_mag v h1 hv
    have E0 := Lib.hid e0
    clear e0
    go_wp2_with fail
    rw [E0.out]
    refine (c_natural_Of v.natAbs _ (by omega)).mono ?_
    rintro e w9 h9
    obtain ⟨a, c, rfl, nx, k9, hb⟩ := fin e w9 h9
    have c9 := k9.cell
    have f9 := k9.frozen
    clear c0 f0 fin h9
    go_wp2
    exact bodyPost_ret (res_N rfl rfl k9.set) rfl ⟨_, rfl, nx.setVar k9, hb.setCell (p := ⟨w.heap.size, 0, none⟩) (Nat.le_refl _) _⟩
  · obtain ⟨n, hn⟩ : ∃ n : Nat, Hid (v = (n : Int)) := ⟨v.natAbs, Lib.hid (by omega)⟩
    have hnn : Hid (v.natAbs = n) := Lib.hid (by have := hn.out; omega)
    go_wp2_with fail
    rw [show v = ((v.natAbs : Nat) : Int) from by omega]
    refine (c_natural_Of v.natAbs _ (by omega)).mono ?_
    rintro e w9 h9
    obtain ⟨a, c, rfl, nx, k9, hb⟩ := fin e w9 h9
    have c9 := k9.cell
    have f9 := k9.frozen
    clear c0 f0 fin h9
    go_wp2
    exact bodyPost_ret (res_N rfl rfl k9.set) rfl ⟨_, rfl, nx.setVar k9, hb.setCell (p := ⟨w.heap.size, 0, none⟩) (Nat.le_refl _) _⟩
theorem c_size (v : Int) (w : World) (h1 : -9223372036854775808 ≤ v) (h2 : v < 9223372036854775808) :
    Calls Try.prog 64 #[.int .i64 v] w fun e w' => RetV w (.int .u64 (v.natAbs : Int)) e w' := by
  go_enter Try.func64, Try.ntmps64
  by_cases hv : v < 0
  · go_wp2
    go_ret
    refine ⟨?_, Below.refl _ _⟩
    simp only [Array.getD_eq_getD_getElem?, List.getElem?_toArray, List.getElem?_cons_succ, List.getElem?_cons_zero, Option.getD_some, Ending.returned.injEq, Value.int.injEq, true_and, IntKind.wrap, IntKind.signed, IntKind.bits, Bool.false_and, Bool.false_eq_true, if_false, if_true]
    omega
  · go_wp2
    go_ret
    refine ⟨?_, Below.refl _ _⟩
    simp only [Array.getD_eq_getD_getElem?, List.getElem?_toArray, List.getElem?_cons_succ, List.getElem?_cons_zero, Option.getD_some, Ending.returned.injEq, Value.int.injEq, true_and]
    omega
end Go.Proofs.Ytldnimohnbjfaaa
