/- Mul, Neg of package fraction; Neg of the reference. Add of package fraction. Stores that leave an unnamed world behind; calls of whatever contract in tables. An executor: abstract values, what they say of values in memory. -/
import Derived.Test.YtfhinmdhjlmikaaGreatDoorP06
namespace Go.Proofs.YtfhinmdhjlmikaaGreatDoor
set_option linter.unusedSimpArgs false
set_option linter.unusedVariables false
set_option maxRecDepth 100000
open Go.RowKit
def lowP (m n : Nat) : Nat := m / Nat.gcd m n
def lowQ (m n : Nat) : Nat := n / Nat.gcd m n
theorem nl_mul2 {m n d e : Nat} (hm : nl m ≤ d) (hn : nl n ≤ e) : nl (m * n) ≤ d + e := nl_le_iff.2 (sm_mul (nl_le_iff.1 hm) (nl_le_iff.1 hn))
def mulTab (w : World) (s s' : Bool) (p q p' q' : Nat) : List (Nat × Tmp × Sp) :=
   [(0, 5, .val (Value.pointer (some ⟨w.heap.size, 0, none⟩))),
    (1, 6, .val (Value.bool s)),
    (2, 7, .val (Value.pointer (some ⟨w.heap.size + 1, 0, none⟩))),
    (3, 8, .val (Value.bool s')),
    (4, 9, .val (Value.bool (s != s'))),
    (5, 10, .val (Value.pointer (some ⟨w.heap.size, 1, none⟩))),
    (6, 11, .nat (p)),
    (7, 12, .val (Value.pointer (some ⟨w.heap.size + 1, 1, none⟩))),
    (8, 13, .nat (p')),
    (9, 14, .nat (p * p')),
    (10, 15, .val (Value.pointer (some ⟨w.heap.size, 2, none⟩))),
    (11, 16, .nat (q)),
    (12, 17, .val (Value.pointer (some ⟨w.heap.size + 1, 2, none⟩))),
    (13, 18, .nat (q')),
    (14, 19, .nat (q * q')),
    (15, 20, .fr (lowS (s != s') (p * p')) (lowP (p * p') (q * q')) (lowQ (p * p') (q * q')))]
theorem c_fMul (va vb : Value) (s s' : Bool) (p q p' q' : Nat) (w : World) (ha : IsF w va s p q) (hb : IsF w vb s' p' q') (hp : nl p ≤ 1000000000) (hq : nl q ≤ 1000000000) (hpp : nl p' ≤ 1000000000) (hqq : nl q' ≤ 1000000000) (h0 : q ≠ 0) (h0' : q' ≠ 0) :
    Calls Tryz.prog 34 #[va, vb] w fun e w' => RetF w (lowS (s != s') (p * p')) (lowP (p * p') (q * q')) (lowQ (p * p') (q * q')) e w' := by
  have hp' : nl p ≤ 1000000000000 := by omega
  have hq' : nl q ≤ 1000000000000 := by omega
  have hpp' : nl p' ≤ 1000000000000 := by omega
  have hqq' : nl q' ≤ 1000000000000 := by omega
  have hM : nl (p * p') ≤ 10000000000 := Nat.le_trans (nl_mul2 hp hpp) (by decide)
  have hN : nl (q * q') ≤ 10000000000 := Nat.le_trans (nl_mul2 hq hqq) (by decide)
  have hN0 : q * q' ≠ 0 := Nat.mul_ne_zero h0 h0'
  obtain ⟨a, c, b, d, a', c', b', d', rfl, rfl, k0, k1, k2⟩ := boxF2 ha hb
  clear ha hb
  have hz : ((w.alloc (.cells #[.bool s, .slice a (nl p) c, .slice b (nl q) d] 26)).alloc (.cells #[.bool s', .slice a' (nl p') c', .slice b' (nl q') d'] 26)).heap.size = w.heap.size + 2 := by simp
  obtain ⟨k3, k4⟩ := resF (w := (w.alloc (.cells #[.bool s, .slice a (nl p) c, .slice b (nl q) d] 26)).alloc (.cells #[.bool s', .slice a' (nl p') c', .slice b' (nl q') d'] 26))
  rw [hz] at k4
  clear hz
  go_enter Tryz.func34, Tryz.ntmps34
  go_upto_region 0 with (fail)
  go_cut [2, 3, 4] (fun s_2 s_3 s_4 wx => s_2 = .pointer (some ⟨w.heap.size, 0, none⟩) ∧ s_3 = .pointer (some ⟨w.heap.size + 1, 0, none⟩) ∧ s_4 = .pointer (some ⟨w.heap.size + 2, 0, none⟩) ∧ VarF wx w.heap.size s p q ∧ VarF wx (w.heap.size + 1) s' p' q' ∧ VarFB wx (w.heap.size + 2) false none 0 0 none 0 0 ∧ Below w.heap.size w wx)
  case first =>
    go_wp2_with fail
    go_meet
    case rel => exact ⟨rfl, rfl, rfl, k1.mono k3, k2.mono k3, k4, k0.trans (k3.mono k0.size)⟩
  case rest =>
  clear k0 k1 k2 k3 k4
  obtain ⟨rfl, rfl, rfl, Va, Vb, Vr, hb1⟩ := hcut
  go_upto_region 1 with (fail)
  refine wp_tabG Tryz.f34 1 (mulTab w s s' p q p' q') [] (fun _ => false) 4 1 (by kernel_rfl) (by kernel_rfl) (by kernel_rfl) (by kernel_rfl) (by kernel_rfl) (EachX.of_all (fun _ h => by cases h) _) ?_ ?_
  · refine ⟨fun _ _ F => gR rfl rfl (arm_fieldF rfl (F.k 2 (Value.pointer (some ⟨w.heap.size, 0, none⟩))) (run_field0 _)).b, ?_⟩
    refine ⟨fun _ _ F => gR rfl rfl (arm_loadS rfl (F.f 0 rfl) (Va.mono F.below)).b, ?_⟩
    refine ⟨fun _ _ F => gR rfl rfl (arm_fieldF rfl (F.k 3 (Value.pointer (some ⟨w.heap.size + 1, 0, none⟩))) (run_field0 _)).b, ?_⟩
    refine ⟨fun _ _ F => gR rfl rfl (arm_loadS rfl (F.f 2 rfl) (Vb.mono F.below)).b, ?_⟩
    refine ⟨fun _ _ F => gR rfl rfl (arm_bin rfl (F.f 1 rfl) (F.f 3 rfl) (fun _ => rfl) (fun w => run_neB _ _ w)).b, ?_⟩
    refine ⟨fun _ _ F => gR rfl rfl (arm_fieldF rfl (F.k 2 (Value.pointer (some ⟨w.heap.size, 0, none⟩))) (run_field1 _)).b, ?_⟩
    refine ⟨fun _ _ F => gR rfl rfl (arm_load1 rfl (F.f 5 rfl) (Va.mono F.below)).b, ?_⟩
    refine ⟨fun _ _ F => gR rfl rfl (arm_fieldF rfl (F.k 3 (Value.pointer (some ⟨w.heap.size + 1, 0, none⟩))) (run_field1 _)).b, ?_⟩
    refine ⟨fun _ _ F => gR rfl rfl (arm_load1 rfl (F.f 7 rfl) (Vb.mono F.below)).b, ?_⟩
    refine ⟨fun _ _ F => gR rfl rfl (arm_Mul rfl (F.f 6 rfl) (F.f 8 rfl) hp' hpp' rfl).b, ?_⟩
    refine ⟨fun _ _ F => gR rfl rfl (arm_fieldF rfl (F.k 2 (Value.pointer (some ⟨w.heap.size, 0, none⟩))) (run_field2 _)).b, ?_⟩
    refine ⟨fun _ _ F => gR rfl rfl (arm_load2 rfl (F.f 10 rfl) (Va.mono F.below)).b, ?_⟩
    refine ⟨fun _ _ F => gR rfl rfl (arm_fieldF rfl (F.k 3 (Value.pointer (some ⟨w.heap.size + 1, 0, none⟩))) (run_field2 _)).b, ?_⟩
    refine ⟨fun _ _ F => gR rfl rfl (arm_load2 rfl (F.f 12 rfl) (Vb.mono F.below)).b, ?_⟩
    refine ⟨fun _ _ F => gR rfl rfl (arm_Mul rfl (F.f 11 rfl) (F.f 13 rfl) hq' hqq' rfl).b, ?_⟩
    refine ⟨fun _ _ F => gR rfl rfl (arm_lowest rfl (F.f 4 rfl) (F.f 9 rfl) (F.f 14 rfl) hM hN hN0 rfl rfl rfl).b, ?_⟩
    exact trivial
  intro E' hE gp wp bp G Gs
  obtain rfl : E' = [] := by simpa [subs] using hE
  obtain ⟨x1, c1, x2, c2, e8, n1, n2⟩ := G 15 20 _ (by simp) rfl
  have Vr2 := Vr.mono bp Vr.lt
  clear G Gs hE
  simp only [mulTab]
  simp only [qA, setD, qZ, qS, e8]
  refine wpAny_storeF (j := 16) (by kernel_rfl) rfl rfl rfl rfl rfl rfl Vr2 ?_
  refine wpAny_done (by kernel_rfl) ?_ _
  have hB := putF_below (s := (lowS (s != s') (p * p'))) (a := x1) (L := nl (lowP (p * p') (q * q'))) (c := c1) (b := x2) (M := nl (lowQ (p * p') (q * q'))) (d := c2) (hb1.trans (bp.mono hb1.size)) (show w.heap.size ≤ w.heap.size + 2 by omega)
  rename_i hK
  refine hK _ _ ?_
  refine wp_ret ?_
  show bodyPost Tryz.prog Tryz.f34 _ .ret _ _
  exact bodyPost_ret (res_F rfl rfl (VarFB.put Vr2)) rfl ⟨_, rfl, ⟨x1, c1, x2, c2, rfl, n1.putF Vr2, n2.putF Vr2⟩, hB⟩
def fNegTabT (w : World) (p q : Nat) : List (Nat × Tmp × Sp) :=
   [(0, 3, .val (Value.pointer (some ⟨w.heap.size, 0, none⟩))),
    (1, 4, .val (Value.bool true)),
    (2, 5, .val (Value.bool false)),
    (3, 6, .val (Value.bool false)),
    (4, 7, .any),
    (5, 8, .any),
    (6, 9, .any),
    (7, 10, .any),
    (8, 11, .val (Value.bool false)),
    (9, 12, .val (Value.pointer (some ⟨w.heap.size, 1, none⟩))),
    (10, 13, .nat (p)),
    (11, 14, .nat (0)),
    (12, 15, .nat (p)),
    (13, 16, .val (Value.pointer (some ⟨w.heap.size, 2, none⟩))),
    (14, 17, .nat (q)),
    (15, 18, .nat (0)),
    (16, 19, .nat (q)),
    (17, 20, .fr false (p) (q))]
def fNegTabZ (w : World) (p q : Nat) : List (Nat × Tmp × Sp) :=
   [(0, 3, .val (Value.pointer (some ⟨w.heap.size, 0, none⟩))),
    (1, 4, .val (Value.bool false)),
    (2, 5, .val (Value.bool true)),
    (3, 6, .val (Value.bool true)),
    (4, 7, .val (Value.pointer (some ⟨w.heap.size, 1, none⟩))),
    (5, 8, .nat (p)),
    (6, 9, .val (Value.bool true)),
    (7, 10, .val (Value.bool false)),
    (8, 11, .val (Value.bool false)),
    (9, 12, .val (Value.pointer (some ⟨w.heap.size, 1, none⟩))),
    (10, 13, .nat (p)),
    (11, 14, .nat (0)),
    (12, 15, .nat (p)),
    (13, 16, .val (Value.pointer (some ⟨w.heap.size, 2, none⟩))),
    (14, 17, .nat (q)),
    (15, 18, .nat (0)),
    (16, 19, .nat (q)),
    (17, 20, .fr false (p) (q))]
def fNegTabN (w : World) (p q : Nat) : List (Nat × Tmp × Sp) :=
   [(0, 3, .val (Value.pointer (some ⟨w.heap.size, 0, none⟩))),
    (1, 4, .val (Value.bool false)),
    (2, 5, .val (Value.bool true)),
    (3, 6, .val (Value.bool true)),
    (4, 7, .val (Value.pointer (some ⟨w.heap.size, 1, none⟩))),
    (5, 8, .nat (p)),
    (6, 9, .val (Value.bool false)),
    (7, 10, .val (Value.bool true)),
    (8, 11, .val (Value.bool true)),
    (9, 12, .val (Value.pointer (some ⟨w.heap.size, 1, none⟩))),
    (10, 13, .nat (p)),
    (11, 14, .nat (0)),
    (12, 15, .nat (p)),
    (13, 16, .val (Value.pointer (some ⟨w.heap.size, 2, none⟩))),
    (14, 17, .nat (q)),
    (15, 18, .nat (0)),
    (16, 19, .nat (q)),
    (17, 20, .fr true (p) (q))]
theorem c_fNeg (va : Value) (s : Bool) (p q : Nat) (w : World) (ha : IsF w va s p q) (hp : nl p ≤ 1000000000) (hq : nl q ≤ 1000000000) :
    Calls Tryz.prog 60 #[va] w fun e w' => RetF w (lowS (!s) p) p q e w' := by
  have hp' : nl p ≤ 1000000000000 := by omega
  have hq' : nl q ≤ 1000000000000 := by omega
  obtain ⟨a, c, b, d, rfl, k0, k1⟩ := boxF ha
  clear ha
  obtain ⟨k3, k4⟩ := resF (w := w.alloc (.cells #[.bool s, .slice a (nl p) c, .slice b (nl q) d] 26))
  rw [World.size_alloc] at k4
  go_enter Tryz.func60, Tryz.ntmps60
  go_upto_region 0 with (fail)
  go_cut [1, 2] (fun s_1 s_2 wx => s_1 = .pointer (some ⟨w.heap.size, 0, none⟩) ∧ s_2 = .pointer (some ⟨w.heap.size + 1, 0, none⟩) ∧ VarF wx w.heap.size s p q ∧ VarFB wx (w.heap.size + 1) false none 0 0 none 0 0 ∧ Below w.heap.size w wx)
  case first =>
    go_wp2_with fail
    go_meet
    case rel => exact ⟨rfl, rfl, k1.mono k3, k4, k0.trans (k3.mono k0.size)⟩
  case rest =>
  clear k0 k1 k3 k4
  obtain ⟨rfl, rfl, Va, Vr, hb1⟩ := hcut
  rcases Bool.eq_false_or_eq_true s with rfl | rfl
  · go_upto_region 1 with (fail)
    refine wp_tabG Tryz.f60 1 (fNegTabT w p q) [] (fun _ => false) 4 1 (by kernel_rfl) (by kernel_rfl) (by kernel_rfl) (by kernel_rfl) (by kernel_rfl) (EachX.of_all (fun _ h => by cases h) _) ?_ ?_
    · refine ⟨fun _ _ F => gR rfl rfl (arm_fieldF rfl (F.k 1 (Value.pointer (some ⟨w.heap.size, 0, none⟩))) (run_field0 _)).b, ?_⟩
      refine ⟨fun _ _ F => gR rfl rfl (arm_loadS rfl (F.f 0 rfl) (Va.mono F.below)).b, ?_⟩
      refine ⟨fun _ _ F => gR rfl rfl (arm_not rfl (F.f 1 rfl)).b, ?_⟩
      refine ⟨fun _ _ F => gR rfl rfl (arm_move (.inl rfl) (F.f 2 rfl)).b, ?_⟩
      refine ⟨fun a' w' F => StepG.skip rfl (unwanted rfl rfl (F.at' 3 6 _ rfl (by kernel_rfl)) rfl) trivial, ?_⟩
      refine ⟨fun a' w' F => StepG.skip rfl (unwanted rfl rfl (F.at' 3 6 _ rfl (by kernel_rfl)) rfl) trivial, ?_⟩
      refine ⟨fun a' w' F => StepG.skip rfl (unwanted rfl rfl (F.at' 3 6 _ rfl (by kernel_rfl)) rfl) trivial, ?_⟩
      refine ⟨fun a' w' F => StepG.skip rfl (unwanted rfl rfl (F.at' 3 6 _ rfl (by kernel_rfl)) rfl) trivial, ?_⟩
      refine ⟨fun _ _ F => gR rfl rfl (arm_pick rfl (F.f 3 rfl) (fun h => by cases h) (fun _ => Is.const)).b, ?_⟩
      refine ⟨fun _ _ F => gR rfl rfl (arm_fieldF rfl (F.k 1 (Value.pointer (some ⟨w.heap.size, 0, none⟩))) (run_field1 _)).b, ?_⟩
      refine ⟨fun _ _ F => gR rfl rfl (arm_load1 rfl (F.f 9 rfl) (Va.mono F.below)).b, ?_⟩
      refine ⟨fun _ _ F => gR rfl rfl (arm_build0 rfl).b, ?_⟩
      refine ⟨fun _ _ F => gR rfl rfl (arm_Add rfl (F.f 10 rfl) (F.f 11 rfl) hp' (by rw [nl_zero]; omega) rfl).b, ?_⟩
      refine ⟨fun _ _ F => gR rfl rfl (arm_fieldF rfl (F.k 1 (Value.pointer (some ⟨w.heap.size, 0, none⟩))) (run_field2 _)).b, ?_⟩
      refine ⟨fun _ _ F => gR rfl rfl (arm_load2 rfl (F.f 13 rfl) (Va.mono F.below)).b, ?_⟩
      refine ⟨fun _ _ F => gR rfl rfl (arm_build0 rfl).b, ?_⟩
      refine ⟨fun _ _ F => gR rfl rfl (arm_Add rfl (F.f 14 rfl) (F.f 15 rfl) hq' (by rw [nl_zero]; omega) rfl).b, ?_⟩
      refine ⟨fun _ _ F => gR rfl rfl (arm_buildF rfl (F.f 8 rfl) (F.f 12 rfl) (F.f 16 rfl)).b, ?_⟩
      exact trivial
    intro E' hE gp wp bp G Gs
    obtain rfl : E' = [] := by simpa [subs] using hE
    obtain ⟨x1, c1, x2, c2, e8, n1, n2⟩ := G 17 20 _ (by simp) rfl
    have Vr2 := Vr.mono bp Vr.lt
    clear G Gs hE
    simp only [fNegTabT]
    simp only [qA, setD, qZ, qS, e8]
    refine wpAny_storeF (j := 18) (by kernel_rfl) rfl rfl rfl rfl rfl rfl Vr2 ?_
    refine wpAny_done (by kernel_rfl) ?_ _
    have hB := putF_below (s := false) (a := x1) (L := nl (p)) (c := c1) (b := x2) (M := nl (q)) (d := c2) (hb1.trans (bp.mono hb1.size)) (show w.heap.size ≤ w.heap.size + 1 by omega)
    rename_i hK
    refine hK _ _ ?_
    refine wp_ret ?_
    show bodyPost Tryz.prog Tryz.f60 _ .ret _ _
    exact bodyPost_ret (res_F rfl rfl (VarFB.put Vr2)) rfl ⟨_, rfl, ⟨x1, c1, x2, c2, rfl, n1.putF Vr2, n2.putF Vr2⟩, hB⟩
  · by_cases hz0 : p = 0
    · have hz : decide (p = 0) = true := decide_eq_true hz0
      have HZ := Lib.hid hz0
      clear hz0
      go_upto_region 1 with (fail)
      refine wp_tabG Tryz.f60 1 (fNegTabZ w p q) [] (fun _ => false) 4 1 (by kernel_rfl) (by kernel_rfl) (by kernel_rfl) (by kernel_rfl) (by kernel_rfl) (EachX.of_all (fun _ h => by cases h) _) ?_ ?_
      · refine ⟨fun _ _ F => gR rfl rfl (arm_fieldF rfl (F.k 1 (Value.pointer (some ⟨w.heap.size, 0, none⟩))) (run_field0 _)).b, ?_⟩
        refine ⟨fun _ _ F => gR rfl rfl (arm_loadS rfl (F.f 0 rfl) (Va.mono F.below)).b, ?_⟩
        refine ⟨fun _ _ F => gR rfl rfl (arm_not rfl (F.f 1 rfl)).b, ?_⟩
        refine ⟨fun _ _ F => gR rfl rfl (arm_move (.inl rfl) (F.f 2 rfl)).b, ?_⟩
        refine ⟨fun _ _ F => gG F rfl rfl rfl rfl (arm_fieldF rfl (F.k 1 (Value.pointer (some ⟨w.heap.size, 0, none⟩))) (run_field1 _)).b, ?_⟩
        refine ⟨fun _ _ F => gG F rfl rfl rfl rfl (arm_load1 rfl (F.f 4 rfl) (Va.mono F.below)).b, ?_⟩
        refine ⟨fun _ _ F => gG F rfl rfl rfl rfl (arm_isZero rfl (F.f 5 rfl) hp' hz).b, ?_⟩
        refine ⟨fun _ _ F => gG F rfl rfl rfl rfl (arm_not rfl (F.f 6 rfl)).b, ?_⟩
        refine ⟨fun _ _ F => gR rfl rfl (arm_pick rfl (F.f 3 rfl) (fun _ => (F.f 7 rfl)) (fun h => by cases h)).b, ?_⟩
        refine ⟨fun _ _ F => gR rfl rfl (arm_fieldF rfl (F.k 1 (Value.pointer (some ⟨w.heap.size, 0, none⟩))) (run_field1 _)).b, ?_⟩
        refine ⟨fun _ _ F => gR rfl rfl (arm_load1 rfl (F.f 9 rfl) (Va.mono F.below)).b, ?_⟩
        refine ⟨fun _ _ F => gR rfl rfl (arm_build0 rfl).b, ?_⟩
        refine ⟨fun _ _ F => gR rfl rfl (arm_Add rfl (F.f 10 rfl) (F.f 11 rfl) hp' (by rw [nl_zero]; omega) rfl).b, ?_⟩
        refine ⟨fun _ _ F => gR rfl rfl (arm_fieldF rfl (F.k 1 (Value.pointer (some ⟨w.heap.size, 0, none⟩))) (run_field2 _)).b, ?_⟩
        refine ⟨fun _ _ F => gR rfl rfl (arm_load2 rfl (F.f 13 rfl) (Va.mono F.below)).b, ?_⟩
        refine ⟨fun _ _ F => gR rfl rfl (arm_build0 rfl).b, ?_⟩
        refine ⟨fun _ _ F => gR rfl rfl (arm_Add rfl (F.f 14 rfl) (F.f 15 rfl) hq' (by rw [nl_zero]; omega) rfl).b, ?_⟩
        refine ⟨fun _ _ F => gR rfl rfl (arm_buildF rfl (F.f 8 rfl) (F.f 12 rfl) (F.f 16 rfl)).b, ?_⟩
        exact trivial
      intro E' hE gp wp bp G Gs
      obtain rfl : E' = [] := by simpa [subs] using hE
      obtain ⟨x1, c1, x2, c2, e8, n1, n2⟩ := G 17 20 _ (by simp) rfl
      have Vr2 := Vr.mono bp Vr.lt
      clear G Gs hE
      simp only [fNegTabZ]
      simp only [qA, setD, qZ, qS, e8]
      refine wpAny_storeF (j := 18) (by kernel_rfl) rfl rfl rfl rfl rfl rfl Vr2 ?_
      refine wpAny_done (by kernel_rfl) ?_ _
      have hB := putF_below (s := false) (a := x1) (L := nl (p)) (c := c1) (b := x2) (M := nl (q)) (d := c2) (hb1.trans (bp.mono hb1.size)) (show w.heap.size ≤ w.heap.size + 1 by omega)
      rename_i hK
      refine hK _ _ ?_
      refine wp_ret ?_
      show bodyPost Tryz.prog Tryz.f60 _ .ret _ _
      exact bodyPost_ret (res_F rfl rfl (VarFB.put Vr2)) rfl ⟨_, rfl, ⟨x1, c1, x2, c2, by unfold lowS; rw [decide_eq_true HZ.out]; rfl, n1.putF Vr2, n2.putF Vr2⟩, hB⟩
    · have hz : decide (p = 0) = false := decide_eq_false hz0
      have HZ := Lib.hid hz0
      clear hz0
      go_upto_region 1 with (fail)
      refine wp_tabG Tryz.f60 1 (fNegTabN w p q) [] (fun _ => false) 4 1 (by kernel_rfl) (by kernel_rfl) (by kernel_rfl) (by kernel_rfl) (by kernel_rfl) (EachX.of_all (fun _ h => by cases h) _) ?_ ?_
      · refine ⟨fun _ _ F => gR rfl rfl (arm_fieldF rfl (F.k 1 (Value.pointer (some ⟨w.heap.size, 0, none⟩))) (run_field0 _)).b, ?_⟩
        refine ⟨fun _ _ F => gR rfl rfl (arm_loadS rfl (F.f 0 rfl) (Va.mono F.below)).b, ?_⟩
        refine ⟨fun _ _ F => gR rfl rfl (arm_not rfl (F.f 1 rfl)).b, ?_⟩
        refine ⟨fun _ _ F => gR rfl rfl (arm_move (.inl rfl) (F.f 2 rfl)).b, ?_⟩
        refine ⟨fun _ _ F => gG F rfl rfl rfl rfl (arm_fieldF rfl (F.k 1 (Value.pointer (some ⟨w.heap.size, 0, none⟩))) (run_field1 _)).b, ?_⟩
        refine ⟨fun _ _ F => gG F rfl rfl rfl rfl (arm_load1 rfl (F.f 4 rfl) (Va.mono F.below)).b, ?_⟩
        refine ⟨fun _ _ F => gG F rfl rfl rfl rfl (arm_isZero rfl (F.f 5 rfl) hp' hz).b, ?_⟩
        refine ⟨fun _ _ F => gG F rfl rfl rfl rfl (arm_not rfl (F.f 6 rfl)).b, ?_⟩
        refine ⟨fun _ _ F => gR rfl rfl (arm_pick rfl (F.f 3 rfl) (fun _ => (F.f 7 rfl)) (fun h => by cases h)).b, ?_⟩
        refine ⟨fun _ _ F => gR rfl rfl (arm_fieldF rfl (F.k 1 (Value.pointer (some ⟨w.heap.size, 0, none⟩))) (run_field1 _)).b, ?_⟩
        refine ⟨fun _ _ F => gR rfl rfl (arm_load1 rfl (F.f 9 rfl) (Va.mono F.below)).b, ?_⟩
        refine ⟨fun _ _ F => gR rfl rfl (arm_build0 rfl).b, ?_⟩
        refine ⟨fun _ _ F => gR rfl rfl (arm_Add rfl (F.f 10 rfl) (F.f 11 rfl) hp' (by rw [nl_zero]; omega) rfl).b, ?_⟩
        refine ⟨fun _ _ F => gR rfl rfl (arm_fieldF rfl (F.k 1 (Value.pointer (some ⟨w.heap.size, 0, none⟩))) (run_field2 _)).b, ?_⟩
        refine ⟨fun _ _ F => gR rfl rfl (arm_load2 rfl (F.f 13 rfl) (Va.mono F.below)).b, ?_⟩
        refine ⟨fun _ _ F => gR rfl rfl (arm_build0 rfl).b, ?_⟩
        refine ⟨fun _ _ F => gR rfl rfl (arm_Add rfl (F.f 14 rfl) (F.f 15 rfl) hq' (by rw [nl_zero]; omega) rfl).b, ?_⟩
        refine ⟨fun _ _ F => gR rfl rfl (arm_buildF rfl (F.f 8 rfl) (F.f 12 rfl) (F.f 16 rfl)).b, ?_⟩
        exact trivial
      intro E' hE gp wp bp G Gs
      obtain rfl : E' = [] := by simpa [subs] using hE
      obtain ⟨x1, c1, x2, c2, e8, n1, n2⟩ := G 17 20 _ (by simp) rfl
      have Vr2 := Vr.mono bp Vr.lt
      clear G Gs hE
      simp only [fNegTabN]
      simp only [qA, setD, qZ, qS, e8]
      refine wpAny_storeF (j := 18) (by kernel_rfl) rfl rfl rfl rfl rfl rfl Vr2 ?_
      refine wpAny_done (by kernel_rfl) ?_ _
      have hB := putF_below (s := true) (a := x1) (L := nl (p)) (c := c1) (b := x2) (M := nl (q)) (d := c2) (hb1.trans (bp.mono hb1.size)) (show w.heap.size ≤ w.heap.size + 1 by omega)
      rename_i hK
      refine hK _ _ ?_
      refine wp_ret ?_
      show bodyPost Tryz.prog Tryz.f60 _ .ret _ _
      exact bodyPost_ret (res_F rfl rfl (VarFB.put Vr2)) rfl ⟨_, rfl, ⟨x1, c1, x2, c2, by unfold lowS; rw [decide_eq_false HZ.out]; rfl, n1.putF Vr2, n2.putF Vr2⟩, hB⟩
def rNegTabT (w : World) (p q : Nat) : List (Nat × Tmp × Sp) :=
   [(0, 3, .val (Value.pointer (some ⟨w.heap.size, 0, none⟩))),
    (1, 4, .val (Value.bool true)),
    (2, 5, .val (Value.bool false)),
    (3, 6, .val (Value.bool false)),
    (4, 7, .any),
    (5, 8, .any),
    (6, 9, .any),
    (7, 10, .any),
    (8, 11, .val (Value.bool false)),
    (9, 12, .val (Value.pointer (some ⟨w.heap.size, 1, none⟩))),
    (10, 13, .nat (p)),
    (11, 14, .val (Value.pointer (some ⟨w.heap.size, 2, none⟩))),
    (12, 15, .nat (q)),
    (13, 16, .fr false (p) (q))]
def rNegTabZ (w : World) (p q : Nat) : List (Nat × Tmp × Sp) :=
   [(0, 3, .val (Value.pointer (some ⟨w.heap.size, 0, none⟩))),
    (1, 4, .val (Value.bool false)),
    (2, 5, .val (Value.bool true)),
    (3, 6, .val (Value.bool true)),
    (4, 7, .val (Value.pointer (some ⟨w.heap.size, 1, none⟩))),
    (5, 8, .nat (p)),
    (6, 9, .val (Value.bool true)),
    (7, 10, .val (Value.bool false)),
    (8, 11, .val (Value.bool false)),
    (9, 12, .val (Value.pointer (some ⟨w.heap.size, 1, none⟩))),
    (10, 13, .nat (p)),
    (11, 14, .val (Value.pointer (some ⟨w.heap.size, 2, none⟩))),
    (12, 15, .nat (q)),
    (13, 16, .fr false (p) (q))]
def rNegTabN (w : World) (p q : Nat) : List (Nat × Tmp × Sp) :=
   [(0, 3, .val (Value.pointer (some ⟨w.heap.size, 0, none⟩))),
    (1, 4, .val (Value.bool false)),
    (2, 5, .val (Value.bool true)),
    (3, 6, .val (Value.bool true)),
    (4, 7, .val (Value.pointer (some ⟨w.heap.size, 1, none⟩))),
    (5, 8, .nat (p)),
    (6, 9, .val (Value.bool false)),
    (7, 10, .val (Value.bool true)),
    (8, 11, .val (Value.bool true)),
    (9, 12, .val (Value.pointer (some ⟨w.heap.size, 1, none⟩))),
    (10, 13, .nat (p)),
    (11, 14, .val (Value.pointer (some ⟨w.heap.size, 2, none⟩))),
    (12, 15, .nat (q)),
    (13, 16, .fr true (p) (q))]
theorem c_rNeg (va : Value) (s : Bool) (p q : Nat) (w : World) (ha : IsF w va s p q) (hp : nl p ≤ 1000000000) (hq : nl q ≤ 1000000000) :
    Calls Tryz.prog 61 #[va] w fun e w' => RetF w (lowS (!s) p) p q e w' := by
  have hp' : nl p ≤ 1000000000000 := by omega
  have hq' : nl q ≤ 1000000000000 := by omega
  obtain ⟨a, c, b, d, rfl, k0, k1⟩ := boxF ha
  clear ha
  obtain ⟨k3, k4⟩ := resF (w := w.alloc (.cells #[.bool s, .slice a (nl p) c, .slice b (nl q) d] 26))
  rw [World.size_alloc] at k4
  go_enter Tryz.func61, Tryz.ntmps61
  go_upto_region 0 with (fail)
  go_cut [1, 2] (fun s_1 s_2 wx => s_1 = .pointer (some ⟨w.heap.size, 0, none⟩) ∧ s_2 = .pointer (some ⟨w.heap.size + 1, 0, none⟩) ∧ VarF wx w.heap.size s p q ∧ VarFB wx (w.heap.size + 1) false none 0 0 none 0 0 ∧ Below w.heap.size w wx)
  case first =>
    go_wp2_with fail
    go_meet
    case rel => exact ⟨rfl, rfl, k1.mono k3, k4, k0.trans (k3.mono k0.size)⟩
  case rest =>
  clear k0 k1 k3 k4
  obtain ⟨rfl, rfl, Va, Vr, hb1⟩ := hcut
  rcases Bool.eq_false_or_eq_true s with rfl | rfl
  · go_upto_region 1 with (fail)
    refine wp_tabG Tryz.f61 1 (rNegTabT w p q) [] (fun _ => false) 4 1 (by kernel_rfl) (by kernel_rfl) (by kernel_rfl) (by kernel_rfl) (by kernel_rfl) (EachX.of_all (fun _ h => by cases h) _) ?_ ?_
    · refine ⟨fun _ _ F => gR rfl rfl (arm_fieldF rfl (F.k 1 (Value.pointer (some ⟨w.heap.size, 0, none⟩))) (run_field0 _)).b, ?_⟩
      refine ⟨fun _ _ F => gR rfl rfl (arm_loadS rfl (F.f 0 rfl) (Va.mono F.below)).b, ?_⟩
      refine ⟨fun _ _ F => gR rfl rfl (arm_not rfl (F.f 1 rfl)).b, ?_⟩
      refine ⟨fun _ _ F => gR rfl rfl (arm_move (.inl rfl) (F.f 2 rfl)).b, ?_⟩
      refine ⟨fun a' w' F => StepG.skip rfl (unwanted rfl rfl (F.at' 3 6 _ rfl (by kernel_rfl)) rfl) trivial, ?_⟩
      refine ⟨fun a' w' F => StepG.skip rfl (unwanted rfl rfl (F.at' 3 6 _ rfl (by kernel_rfl)) rfl) trivial, ?_⟩
      refine ⟨fun a' w' F => StepG.skip rfl (unwanted rfl rfl (F.at' 3 6 _ rfl (by kernel_rfl)) rfl) trivial, ?_⟩
      refine ⟨fun a' w' F => StepG.skip rfl (unwanted rfl rfl (F.at' 3 6 _ rfl (by kernel_rfl)) rfl) trivial, ?_⟩
      refine ⟨fun _ _ F => gR rfl rfl (arm_pick rfl (F.f 3 rfl) (fun h => by cases h) (fun _ => Is.const)).b, ?_⟩
      refine ⟨fun _ _ F => gR rfl rfl (arm_fieldF rfl (F.k 1 (Value.pointer (some ⟨w.heap.size, 0, none⟩))) (run_field1 _)).b, ?_⟩
      refine ⟨fun _ _ F => gR rfl rfl (arm_load1 rfl (F.f 9 rfl) (Va.mono F.below)).b, ?_⟩
      refine ⟨fun _ _ F => gR rfl rfl (arm_fieldF rfl (F.k 1 (Value.pointer (some ⟨w.heap.size, 0, none⟩))) (run_field2 _)).b, ?_⟩
      refine ⟨fun _ _ F => gR rfl rfl (arm_load2 rfl (F.f 11 rfl) (Va.mono F.below)).b, ?_⟩
      refine ⟨fun _ _ F => gR rfl rfl (arm_buildF rfl (F.f 8 rfl) (F.f 10 rfl) (F.f 12 rfl)).b, ?_⟩
      exact trivial
    intro E' hE gp wp bp G Gs
    obtain rfl : E' = [] := by simpa [subs] using hE
    obtain ⟨x1, c1, x2, c2, e8, n1, n2⟩ := G 13 16 _ (by simp) rfl
    have Vr2 := Vr.mono bp Vr.lt
    clear G Gs hE
    simp only [rNegTabT]
    simp only [qA, setD, qZ, qS, e8]
    refine wpAny_storeF (j := 14) (by kernel_rfl) rfl rfl rfl rfl rfl rfl Vr2 ?_
    refine wpAny_done (by kernel_rfl) ?_ _
    have hB := putF_below (s := false) (a := x1) (L := nl (p)) (c := c1) (b := x2) (M := nl (q)) (d := c2) (hb1.trans (bp.mono hb1.size)) (show w.heap.size ≤ w.heap.size + 1 by omega)
    rename_i hK
    refine hK _ _ ?_
    refine wp_ret ?_
    show bodyPost Tryz.prog Tryz.f61 _ .ret _ _
    exact bodyPost_ret (res_F rfl rfl (VarFB.put Vr2)) rfl ⟨_, rfl, ⟨x1, c1, x2, c2, rfl, n1.putF Vr2, n2.putF Vr2⟩, hB⟩
  · by_cases hz0 : p = 0
    · have hz : decide (p = 0) = true := decide_eq_true hz0
      have HZ := Lib.hid hz0
      clear hz0
      go_upto_region 1 with (fail)
      refine wp_tabG Tryz.f61 1 (rNegTabZ w p q) [] (fun _ => false) 4 1 (by kernel_rfl) (by kernel_rfl) (by kernel_rfl) (by kernel_rfl) (by kernel_rfl) (EachX.of_all (fun _ h => by cases h) _) ?_ ?_
      · refine ⟨fun _ _ F => gR rfl rfl (arm_fieldF rfl (F.k 1 (Value.pointer (some ⟨w.heap.size, 0, none⟩))) (run_field0 _)).b, ?_⟩
        refine ⟨fun _ _ F => gR rfl rfl (arm_loadS rfl (F.f 0 rfl) (Va.mono F.below)).b, ?_⟩
        refine ⟨fun _ _ F => gR rfl rfl (arm_not rfl (F.f 1 rfl)).b, ?_⟩
        refine ⟨fun _ _ F => gR rfl rfl (arm_move (.inl rfl) (F.f 2 rfl)).b, ?_⟩
        refine ⟨fun _ _ F => gG F rfl rfl rfl rfl (arm_fieldF rfl (F.k 1 (Value.pointer (some ⟨w.heap.size, 0, none⟩))) (run_field1 _)).b, ?_⟩
        refine ⟨fun _ _ F => gG F rfl rfl rfl rfl (arm_load1 rfl (F.f 4 rfl) (Va.mono F.below)).b, ?_⟩
        refine ⟨fun _ _ F => gG F rfl rfl rfl rfl (arm_zero rfl (F.f 5 rfl) hp' hz).b, ?_⟩
        refine ⟨fun _ _ F => gG F rfl rfl rfl rfl (arm_not rfl (F.f 6 rfl)).b, ?_⟩
        refine ⟨fun _ _ F => gR rfl rfl (arm_pick rfl (F.f 3 rfl) (fun _ => (F.f 7 rfl)) (fun h => by cases h)).b, ?_⟩
        refine ⟨fun _ _ F => gR rfl rfl (arm_fieldF rfl (F.k 1 (Value.pointer (some ⟨w.heap.size, 0, none⟩))) (run_field1 _)).b, ?_⟩
        refine ⟨fun _ _ F => gR rfl rfl (arm_load1 rfl (F.f 9 rfl) (Va.mono F.below)).b, ?_⟩
        refine ⟨fun _ _ F => gR rfl rfl (arm_fieldF rfl (F.k 1 (Value.pointer (some ⟨w.heap.size, 0, none⟩))) (run_field2 _)).b, ?_⟩
        refine ⟨fun _ _ F => gR rfl rfl (arm_load2 rfl (F.f 11 rfl) (Va.mono F.below)).b, ?_⟩
        refine ⟨fun _ _ F => gR rfl rfl (arm_buildF rfl (F.f 8 rfl) (F.f 10 rfl) (F.f 12 rfl)).b, ?_⟩
        exact trivial
      intro E' hE gp wp bp G Gs
      obtain rfl : E' = [] := by simpa [subs] using hE
      obtain ⟨x1, c1, x2, c2, e8, n1, n2⟩ := G 13 16 _ (by simp) rfl
      have Vr2 := Vr.mono bp Vr.lt
      clear G Gs hE
      simp only [rNegTabZ]
      simp only [qA, setD, qZ, qS, e8]
      refine wpAny_storeF (j := 14) (by kernel_rfl) rfl rfl rfl rfl rfl rfl Vr2 ?_
      refine wpAny_done (by kernel_rfl) ?_ _
      have hB := putF_below (s := false) (a := x1) (L := nl (p)) (c := c1) (b := x2) (M := nl (q)) (d := c2) (hb1.trans (bp.mono hb1.size)) (show w.heap.size ≤ w.heap.size + 1 by omega)
      rename_i hK
      refine hK _ _ ?_
      refine wp_ret ?_
      show bodyPost Tryz.prog Tryz.f61 _ .ret _ _
      exact bodyPost_ret (res_F rfl rfl (VarFB.put Vr2)) rfl ⟨_, rfl, ⟨x1, c1, x2, c2, by unfold lowS; rw [decide_eq_true HZ.out]; rfl, n1.putF Vr2, n2.putF Vr2⟩, hB⟩
    · have hz : decide (p = 0) = false := decide_eq_false hz0
      have HZ := Lib.hid hz0
      clear hz0
      go_upto_region 1 with (fail)
      refine wp_tabG Tryz.f61 1 (rNegTabN w p q) [] (fun _ => false) 4 1 (by kernel_rfl) (by kernel_rfl) (by kernel_rfl) (by kernel_rfl) (by kernel_rfl) (EachX.of_all (fun _ h => by cases h) _) ?_ ?_
      · refine ⟨fun _ _ F => gR rfl rfl (arm_fieldF rfl (F.k 1 (Value.pointer (some ⟨w.heap.size, 0, none⟩))) (run_field0 _)).b, ?_⟩
        refine ⟨fun _ _ F => gR rfl rfl (arm_loadS rfl (F.f 0 rfl) (Va.mono F.below)).b, ?_⟩
        refine ⟨fun _ _ F => gR rfl rfl (arm_not rfl (F.f 1 rfl)).b, ?_⟩
        refine ⟨fun _ _ F => gR rfl rfl (arm_move (.inl rfl) (F.f 2 rfl)).b, ?_⟩
        refine ⟨fun _ _ F => gG F rfl rfl rfl rfl (arm_fieldF rfl (F.k 1 (Value.pointer (some ⟨w.heap.size, 0, none⟩))) (run_field1 _)).b, ?_⟩
        refine ⟨fun _ _ F => gG F rfl rfl rfl rfl (arm_load1 rfl (F.f 4 rfl) (Va.mono F.below)).b, ?_⟩
        refine ⟨fun _ _ F => gG F rfl rfl rfl rfl (arm_zero rfl (F.f 5 rfl) hp' hz).b, ?_⟩
        refine ⟨fun _ _ F => gG F rfl rfl rfl rfl (arm_not rfl (F.f 6 rfl)).b, ?_⟩
        refine ⟨fun _ _ F => gR rfl rfl (arm_pick rfl (F.f 3 rfl) (fun _ => (F.f 7 rfl)) (fun h => by cases h)).b, ?_⟩
        refine ⟨fun _ _ F => gR rfl rfl (arm_fieldF rfl (F.k 1 (Value.pointer (some ⟨w.heap.size, 0, none⟩))) (run_field1 _)).b, ?_⟩
        refine ⟨fun _ _ F => gR rfl rfl (arm_load1 rfl (F.f 9 rfl) (Va.mono F.below)).b, ?_⟩
        refine ⟨fun _ _ F => gR rfl rfl (arm_fieldF rfl (F.k 1 (Value.pointer (some ⟨w.heap.size, 0, none⟩))) (run_field2 _)).b, ?_⟩
        refine ⟨fun _ _ F => gR rfl rfl (arm_load2 rfl (F.f 11 rfl) (Va.mono F.below)).b, ?_⟩
        refine ⟨fun _ _ F => gR rfl rfl (arm_buildF rfl (F.f 8 rfl) (F.f 10 rfl) (F.f 12 rfl)).b, ?_⟩
        exact trivial
      intro E' hE gp wp bp G Gs
      obtain rfl : E' = [] := by simpa [subs] using hE
      obtain ⟨x1, c1, x2, c2, e8, n1, n2⟩ := G 13 16 _ (by simp) rfl
      have Vr2 := Vr.mono bp Vr.lt
      clear G Gs hE
      simp only [rNegTabN]
      simp only [qA, setD, qZ, qS, e8]
      refine wpAny_storeF (j := 14) (by kernel_rfl) rfl rfl rfl rfl rfl rfl Vr2 ?_
      refine wpAny_done (by kernel_rfl) ?_ _
      have hB := putF_below (s := true) (a := x1) (L := nl (p)) (c := c1) (b := x2) (M := nl (q)) (d := c2) (hb1.trans (bp.mono hb1.size)) (show w.heap.size ≤ w.heap.size + 1 by omega)
      rename_i hK
      refine hK _ _ ?_
      refine wp_ret ?_
      show bodyPost Tryz.prog Tryz.f61 _ .ret _ _
      exact bodyPost_ret (res_F rfl rfl (VarFB.put Vr2)) rfl ⟨_, rfl, ⟨x1, c1, x2, c2, by unfold lowS; rw [decide_eq_false HZ.out]; rfl, n1.putF Vr2, n2.putF Vr2⟩, hB⟩
end Go.Proofs.YtfhinmdhjlmikaaGreatDoor
namespace Go.Proofs.YtfhinmdhjlmikaaGreatDoor
set_option linter.unusedSimpArgs false
set_option linter.unusedVariables false
set_option maxRecDepth 100000
open Go.RowKit
theorem VarFB.setOther {w : World} {g L c M d : Nat} {s : Bool} {a b : Option Addr} (h : VarFB w g s a L c b M d) (p : Addr) (u : Value) (hp : p.block ≠ g) : VarFB (w.setCell p u) g s a L c b M d :=
  (Below.heap_setCell w p u g (fun e => hp e.symm)).trans h
theorem VarF.setOther {w : World} {g p q g' L' c' : Nat} {s : Bool} {a' : Option Addr} {u : Value} (h : VarF w g s p q) (h' : VarB w g' a' L' c') (hne : g' ≠ g) : VarF (w.setCell ⟨g', 0, none⟩ u) g s p q := by
  obtain ⟨a, c, b, d, h0, h1, h2⟩ := h
  exact ⟨a, c, b, d, h0.setOther _ _ hne, h1.setVar h', h2.setVar h'⟩
theorem VarF.lt {w : World} {g p q : Nat} {s : Bool} (h : VarF w g s p q) : g < w.heap.size := by obtain ⟨_, _, _, _, h, _⟩ := h; exact h.lt
theorem VarI.lt {w : World} {g N : Nat} (h : VarI w g N) : g < w.heap.size := by obtain ⟨_, _, h, _⟩ := h; exact h.lt
/-- The sum of two fractions over one denominator: its sign before reduction, its numerator. -/
def addG (s s' : Bool) (X Y : Nat) : Bool := if s = s' then s else if Y ≤ X then s else s'
def addM (s s' : Bool) (X Y : Nat) : Nat := if s = s' then X + Y else if Y ≤ X then X - Y else Y - X
theorem nl_add2 {m n d : Nat} (hm : nl m ≤ d) (hn : nl n ≤ d) : nl (m + n) ≤ d + d + 1 := nl_le_iff.2 (sm_add (nl_le_iff.1 hm) (nl_le_iff.1 hn))
theorem addM_le (s s' : Bool) (X Y : Nat) : addM s s' X Y ≤ X + Y := by unfold addM; by_cases h : s = s' <;> by_cases h2 : Y ≤ X <;> simp only [h, h2, if_true, if_false] <;> omega
def addT1 (w : World) (p q p' q' X Y base : Nat) : List (Nat × Tmp × Sp) :=
   [(0, 12, .val (Value.pointer (some ⟨w.heap.size, 1, none⟩))),
    (1, 13, .nat (p)),
    (2, 14, .val (Value.pointer (some ⟨w.heap.size + 1, 2, none⟩))),
    (3, 15, .nat (q')),
    (4, 16, .nat (X)),
    (5, 17, .val (Value.pointer (some ⟨w.heap.size + 1, 1, none⟩))),
    (6, 18, .nat (p')),
    (7, 19, .val (Value.pointer (some ⟨w.heap.size, 2, none⟩))),
    (8, 20, .nat (q)),
    (9, 21, .nat (Y)),
    (10, 5, .var base),
    (11, 6, .var base)]
def addT4 (w : World) (s : Bool) (gx gy gz X Y M Dn : Nat) : List (Nat × Tmp × Sp) :=
   [(0, 32, .val (Value.pointer (some ⟨w.heap.size, 0, none⟩))),
    (1, 33, .val (Value.bool s)),
    (2, 34, .nat (X)),
    (3, 35, .nat (Y)),
    (4, 36, .nat (M)),
    (5, 37, .nat (Dn)),
    (6, 38, .fr (lowS s M) (lowP M Dn) (lowQ M Dn))]
def addT7 (w : World) (s : Bool) (g8 gz M Dn : Nat) : List (Nat × Tmp × Sp) :=
   [(0, 46, .val (Value.pointer (some ⟨w.heap.size, 0, none⟩))),
    (1, 47, .val (Value.bool s)),
    (2, 48, .nat (M)),
    (3, 49, .nat (Dn)),
    (4, 50, .fr (lowS s M) (lowP M Dn) (lowQ M Dn))]
def addT9 (w : World) (s' : Bool) (g10 gz M Dn : Nat) : List (Nat × Tmp × Sp) :=
   [(0, 57, .val (Value.pointer (some ⟨w.heap.size + 1, 0, none⟩))),
    (1, 58, .val (Value.bool s')),
    (2, 59, .nat (M)),
    (3, 60, .nat (Dn)),
    (4, 61, .fr (lowS s' M) (lowP M Dn) (lowQ M Dn))]
set_option maxHeartbeats 4000000 in
theorem c_fAdd (va vb : Value) (s s' : Bool) (p q p' q' : Nat) (w : World) (ha : IsF w va s p q) (hb : IsF w vb s' p' q') (hp : nl p ≤ 1000000000) (hq : nl q ≤ 1000000000) (hpp : nl p' ≤ 1000000000) (hqq : nl q' ≤ 1000000000) (h0 : q ≠ 0) (h0' : q' ≠ 0) :
    Calls Tryz.prog 30 #[va, vb] w fun e w' => RetF w (lowS (addG s s' (p * q') (p' * q)) (addM s s' (p * q') (p' * q))) (lowP (addM s s' (p * q') (p' * q)) (q * q')) (lowQ (addM s s' (p * q') (p' * q)) (q * q')) e w' := by
  have hp' : nl p ≤ 1000000000000 := by omega
  have hq' : nl q ≤ 1000000000000 := by omega
  have hpp' : nl p' ≤ 1000000000000 := by omega
  have hqq' : nl q' ≤ 1000000000000 := by omega
  obtain ⟨X, hX⟩ : ∃ N : Nat, Hid (N = p * q') := ⟨_, Lib.hid rfl⟩
  obtain ⟨Y, hY⟩ : ∃ N : Nat, Hid (N = p' * q) := ⟨_, Lib.hid rfl⟩
  obtain ⟨Dn, hD⟩ : ∃ N : Nat, Hid (N = q * q') := ⟨_, Lib.hid rfl⟩
  rw [← hX.out, ← hY.out, ← hD.out]
  have hXb : nl X ≤ 2000000000 := by rw [hX.out]; exact Nat.le_trans (nl_mul2 hp hqq) (by decide)
  have hYb : nl Y ≤ 2000000000 := by rw [hY.out]; exact Nat.le_trans (nl_mul2 hpp hq) (by decide)
  have hDb : nl Dn ≤ 10000000000 := by rw [hD.out]; exact Nat.le_trans (nl_mul2 hq hqq) (by decide)
  have HD0 := Lib.hid (show Dn ≠ 0 by rw [hD.out]; exact Nat.mul_ne_zero h0 h0')
  have hX' : nl X ≤ 1000000000000 := by omega
  have hY' : nl Y ≤ 1000000000000 := by omega
  obtain ⟨M, hMM⟩ : ∃ N : Nat, Hid (N = addM s s' X Y) := ⟨_, Lib.hid rfl⟩
  have hMb : nl M ≤ 10000000000 := by rw [hMM.out]; exact Nat.le_trans (nl_mono (addM_le s s' X Y)) (Nat.le_trans (nl_add2 hXb hYb) (by decide))
  rw [← hMM.out]
  clear h0 h0'
  obtain ⟨a, c, b, d, a', c', b', d', rfl, rfl, k0, k1, k2⟩ := boxF2 ha hb
  clear ha hb
  have hz : ((w.alloc (.cells #[.bool s, .slice a (nl p) c, .slice b (nl q) d] 26)).alloc (.cells #[.bool s', .slice a' (nl p') c', .slice b' (nl q') d'] 26)).heap.size = w.heap.size + 2 := by simp
  obtain ⟨k3, k4⟩ := resF (w := (w.alloc (.cells #[.bool s, .slice a (nl p) c, .slice b (nl q) d] 26)).alloc (.cells #[.bool s', .slice a' (nl p') c', .slice b' (nl q') d'] 26))
  rw [hz] at k4
  clear hz
  go_enter Tryz.func30, Tryz.ntmps30
  go_upto_region 0 with (fail)
  go_cut [2, 3, 4] (fun s_2 s_3 s_4 wx => s_2 = .pointer (some ⟨w.heap.size, 0, none⟩) ∧ s_3 = .pointer (some ⟨w.heap.size + 1, 0, none⟩) ∧ s_4 = .pointer (some ⟨w.heap.size + 2, 0, none⟩) ∧ VarF wx w.heap.size s p q ∧ VarF wx (w.heap.size + 1) s' p' q' ∧ VarFB wx (w.heap.size + 2) false none 0 0 none 0 0 ∧ Below w.heap.size w wx)
  case first =>
    go_wp2_with fail
    go_meet
    case rel => exact ⟨rfl, rfl, rfl, k1.mono k3, k2.mono k3, k4, k0.trans (k3.mono k0.size)⟩
  case rest =>
  clear k0 k1 k2 k3 k4
  obtain ⟨rfl, rfl, rfl, Va, Vb, Vr, hb1⟩ := hcut
  go_upto_region 1 with (fail)
  go_cut [5, 6] (fun s5 s6 wx => ∃ gx gy, s5 = .pointer (some ⟨gx, 0, none⟩) ∧ s6 = .pointer (some ⟨gy, 0, none⟩) ∧ VarI wx gx X ∧ VarI wx gy Y ∧ VarF wx w.heap.size s p q ∧ VarF wx (w.heap.size + 1) s' p' q' ∧ VarFB wx (w.heap.size + 2) false none 0 0 none 0 0 ∧ Below w.heap.size w wx)
  case first =>
    obtain ⟨base, hbase0⟩ : ∃ b : Nat, Hid (b = wc.heap.size) := ⟨_, Lib.hid rfl⟩
    have hbase : base ≤ wc.heap.size := by rw [hbase0.out]; exact Nat.le_refl _
    have la : w.heap.size < base := by rw [hbase0.out]; exact Va.lt
    have lb : w.heap.size + 1 < base := by rw [hbase0.out]; exact Vb.lt
    have lr : w.heap.size + 2 < base := by rw [hbase0.out]; exact Vr.lt
    refine wp_tabG Tryz.f30 1 (addT1 w p q p' q' X Y base) [] (fun i => i == 10 || i == 11) 4 2 (by kernel_rfl) (by kernel_rfl) (by kernel_rfl) (by kernel_rfl) (by kernel_rfl) ⟨fun h => (by cases h), ⟨fun h => (by cases h), ⟨fun h => (by cases h), ⟨fun h => (by cases h), ⟨fun h => (by cases h), ⟨fun h => (by cases h), ⟨fun h => (by cases h), ⟨fun h => (by cases h), ⟨fun h => (by cases h), ⟨fun h => (by cases h), ⟨fun _ w v h => Sp.var_lt h, ⟨fun _ w v h => Sp.var_lt h, trivial⟩⟩⟩⟩⟩⟩⟩⟩⟩⟩⟩⟩ ?_ ?_
    · refine ⟨fun _ _ F => gR rfl rfl (arm_fieldF rfl (F.k 2 (Value.pointer (some ⟨w.heap.size, 0, none⟩))) (run_field1 _)).b, ?_⟩
      refine ⟨fun _ _ F => gR rfl rfl (arm_load1 rfl (F.f 0 rfl) (Va.mono F.below)).b, ?_⟩
      refine ⟨fun _ _ F => gR rfl rfl (arm_fieldF rfl (F.k 3 (Value.pointer (some ⟨w.heap.size + 1, 0, none⟩))) (run_field2 _)).b, ?_⟩
      refine ⟨fun _ _ F => gR rfl rfl (arm_load2 rfl (F.f 2 rfl) (Vb.mono F.below)).b, ?_⟩
      refine ⟨fun _ _ F => gR rfl rfl (arm_Mul rfl (F.f 1 rfl) (F.f 3 rfl) hp' hqq' hX.out.symm).b, ?_⟩
      refine ⟨fun _ _ F => gR rfl rfl (arm_fieldF rfl (F.k 3 (Value.pointer (some ⟨w.heap.size + 1, 0, none⟩))) (run_field1 _)).b, ?_⟩
      refine ⟨fun _ _ F => gR rfl rfl (arm_load1 rfl (F.f 5 rfl) (Vb.mono F.below)).b, ?_⟩
      refine ⟨fun _ _ F => gR rfl rfl (arm_fieldF rfl (F.k 2 (Value.pointer (some ⟨w.heap.size, 0, none⟩))) (run_field2 _)).b, ?_⟩
      refine ⟨fun _ _ F => gR rfl rfl (arm_load2 rfl (F.f 7 rfl) (Va.mono F.below)).b, ?_⟩
      refine ⟨fun _ _ F => gR rfl rfl (arm_Mul rfl (F.f 6 rfl) (F.f 8 rfl) hpp' hq' hY.out.symm).b, ?_⟩
      refine ⟨fun _ _ F => gR rfl rfl (arm_alloc rfl (Nat.le_trans hbase F.below.size)), ?_⟩
      refine ⟨fun _ _ F => gR rfl rfl (arm_alloc rfl (Nat.le_trans hbase F.below.size)), ?_⟩
      exact trivial
    intro E' hE gp wp bp G Gs
    obtain rfl : E' = [] := by simpa [subs] using hE
    obtain ⟨gx, e4, hgx, hvx⟩ := G 10 5 _ (by simp) rfl
    obtain ⟨gy, e5, hgy, hvy⟩ := G 11 6 _ (by simp) rfl
    obtain ⟨v1, e1, n1⟩ : ∃ v, gp 4 = v ∧ IsN wp v X := ⟨_, rfl, G 4 16 _ (by simp) rfl⟩
    obtain ⟨v3, e3, n3⟩ : ∃ v, gp 9 = v ∧ IsN wp v Y := ⟨_, rfl, G 9 21 _ (by simp) rfl⟩
    obtain ⟨x1, c1, rfl⟩ := n1.shape
    obtain ⟨x3, c3, rfl⟩ := n3.shape
    have hxy : gx ≠ gy := by have h := Gs 10 11 rfl rfl (by simp) (by simp) rfl rfl (by decide); rw [e4, e5] at h; exact h
    clear G Gs hE
    simp only [addT1]
    simp only [qA, setD, qZ, qS, e1, e3, e4, e5]
    have hvy1 := hvy.setOther ⟨gx, 0, none⟩ (.slice x1 (nl X) c1) hxy
    refine wpAny_store (j := 12) (by kernel_rfl) rfl rfl rfl rfl rfl rfl ⟨_, _, _, rfl⟩ hvx ?_
    refine wpAny_store (j := 13) (by kernel_rfl) rfl rfl rfl rfl rfl rfl ⟨_, _, _, rfl⟩ hvy1 ?_
    refine wpAny_done (by kernel_rfl) ?_ _
    go_wp2_with fail
    go_meet
    case rel => exact ⟨gx, gy, rfl, rfl, (VarI.put hvx n1).setOther (u := .slice x3 (nl Y) c3) hvy1 (Ne.symm hxy), VarI.put hvy1 (n3.setVar hvx), ((Va.mono bp).setOther hvx (by omega)).setOther hvy1 (by omega), ((Vb.mono bp).setOther hvx (by omega)).setOther hvy1 (by omega), ((Vr.mono bp Vr.lt).setOther ⟨gx, 0, none⟩ _ (by show gx ≠ _; omega)).setOther ⟨gy, 0, none⟩ _ (by show gy ≠ _; omega), ((hb1.trans (bp.mono hb1.size)).setCell (p := ⟨gx, 0, none⟩) (by show w.heap.size ≤ gx; omega) _).setCell (p := ⟨gy, 0, none⟩) (by show w.heap.size ≤ gy; omega) _⟩
  case rest =>
  clear Va Vb Vr hb1
  obtain ⟨gx, gy, rfl, rfl, Vx, Vy, Va, Vb, Vr, hb1⟩ := hcut
  go_upto_region 2 with (fail)
  go_cut [7] (fun s7 wx => ∃ gz, s7 = .pointer (some ⟨gz, 0, none⟩) ∧ VarI wx gz Dn ∧ VarI wx gx X ∧ VarI wx gy Y ∧ VarF wx w.heap.size s p q ∧ VarF wx (w.heap.size + 1) s' p' q' ∧ VarFB wx (w.heap.size + 2) false none 0 0 none 0 0 ∧ Below w.heap.size w wx)
  case first =>
    have Va' := Va
    obtain ⟨_, _, _, _, fa, _, ia⟩ := Va'
    have ea := fa.cell2
    have Vb' := Vb
    obtain ⟨_, _, _, _, fb, _, ib⟩ := Vb'
    have eb := fb.cell2
    go_wp2_with fail
    refine (c_natural_Mul _ _ q q' _ ia ib hq' hqq').mono ?_
    rintro e w9 ⟨v9, rfl, n9, bb⟩
    rw [← hD.out] at n9
    obtain ⟨x9, c9, rfl, hc9, hx9⟩ := n9
    have v1 := VarB.made w9 x9 (nl Dn) c9
    have n1 : IsN w9 (.agg #[.slice x9 (nl Dn) c9]) Dn := NewN.isN ⟨x9, c9, rfl, hc9, hx9⟩
    have b2 := bel1 w9 (.cells #[.slice x9 (nl Dn) c9] 24)
    have b3 := bb.trans (b2.mono bb.size)
    go_wp2_with fail
    go_meet
    case rel => exact ⟨_, rfl, VarI.of v1 (n1.mono b2), Vx.mono b3, Vy.mono b3, Va.mono b3, Vb.mono b3, Vr.mono b3 Vr.lt, hb1.trans (b3.mono hb1.size)⟩
  case rest =>
  clear Vx Vy Va Vb Vr hb1
  obtain ⟨gz, rfl, Vz, Vx, Vy, Va, Vb, Vr, hb1⟩ := hcut
  have Va' := Va
  obtain ⟨_, _, _, _, fa, _, _⟩ := Va'
  have ea := fa.cell0
  have Vb' := Vb
  obtain ⟨_, _, _, _, fb, _, _⟩ := Vb'
  have eb := fb.cell0
  by_cases hs : s = s'
  · subst hs
    have hM : Hid (M = X + Y) := Lib.hid (by rw [hMM.out]; unfold addM; rw [if_pos rfl])
    have hG : addG s s X Y = s := by unfold addG; rw [if_pos rfl]
    have HG := Lib.hid hG
    clear hG
    go_upto_region 4 with (fail)
    clear ea eb fa fb
    refine wp_tabG Tryz.f30 4 (addT4 w s gx gy gz X Y M Dn) [] (fun _ => false) 4 1 (by kernel_rfl) (by kernel_rfl) (by kernel_rfl) (by kernel_rfl) (by kernel_rfl) (EachX.of_all (fun _ h => by cases h) _) ?_ ?_
    · refine ⟨fun _ _ F => gR rfl rfl (arm_fieldF rfl (F.k 2 (Value.pointer (some ⟨w.heap.size, 0, none⟩))) (run_field0 _)).b, ?_⟩
      refine ⟨fun _ _ F => gR rfl rfl (arm_loadS rfl (F.f 0 rfl) (Va.mono F.below)).b, ?_⟩
      refine ⟨fun _ _ F => gR rfl rfl (arm_load rfl (F.k 5 (Value.pointer (some ⟨gx, 0, none⟩))) (Vx.mono F.below)).b, ?_⟩
      refine ⟨fun _ _ F => gR rfl rfl (arm_load rfl (F.k 6 (Value.pointer (some ⟨gy, 0, none⟩))) (Vy.mono F.below)).b, ?_⟩
      refine ⟨fun _ _ F => gR rfl rfl (arm_Add rfl (F.f 2 rfl) (F.f 3 rfl) hX' hY' hM.out.symm).b, ?_⟩
      refine ⟨fun _ _ F => gR rfl rfl (arm_load rfl (F.k 7 (Value.pointer (some ⟨gz, 0, none⟩))) (Vz.mono F.below)).b, ?_⟩
      refine ⟨fun _ _ F => gR rfl rfl (arm_lowest rfl (F.f 1 rfl) (F.f 4 rfl) (F.f 5 rfl) hMb hDb HD0.out rfl rfl rfl).b, ?_⟩
      exact trivial
    intro E' hE gp wp bp G Gs
    obtain rfl : E' = [] := by simpa [subs] using hE
    obtain ⟨x1, c1, x2, c2, e8, n1, n2⟩ := G 6 38 _ (by simp) rfl
    have Vr2 := Vr.mono bp Vr.lt
    clear G Gs hE
    simp only [addT4]
    simp only [qA, setD, qZ, qS, e8]
    refine wpAny_storeF (j := 7) (by kernel_rfl) rfl rfl rfl rfl rfl rfl Vr2 ?_
    refine wpAny_done (by kernel_rfl) ?_ _
    have hB := putF_below (s := (lowS s M)) (a := x1) (L := nl (lowP M Dn)) (c := c1) (b := x2) (M := nl (lowQ M Dn)) (d := c2) (hb1.trans (bp.mono hb1.size)) (show w.heap.size ≤ w.heap.size + 2 by omega)
    rename_i hK
    refine hK _ _ ?_
    refine wp_ret ?_
    show bodyPost Tryz.prog Tryz.f30 _ .ret _ _
    exact bodyPost_ret (res_F rfl rfl (VarFB.put Vr2)) rfl ⟨_, rfl, ⟨x1, c1, x2, c2, by rw [HG.out], n1.putF Vr2, n2.putF Vr2⟩, hB⟩
  · have hs' : (s == s') = false := by cases s <;> cases s' <;> simp_all
    have HS := Lib.hid hs
    clear hs
    go_upto_region 5 with (fail)
    obtain ⟨B, hB0⟩ : ∃ B : Bool, Hid (B = decide (Y ≤ X)) := ⟨_, Lib.hid rfl⟩
    obtain ⟨N8, hN8⟩ : ∃ N : Nat, Hid (N = X - Y) := ⟨_, Lib.hid rfl⟩
    go_cut [8, 9] (fun s8 s9 wx => ∃ g8, s8 = .pointer (some ⟨g8, 0, none⟩) ∧ s9 = .bool B ∧ VarI wx g8 N8 ∧ VarI wx gz Dn ∧ VarI wx gx X ∧ VarI wx gy Y ∧ VarF wx w.heap.size s p q ∧ VarF wx (w.heap.size + 1) s' p' q' ∧ VarFB wx (w.heap.size + 2) false none 0 0 none 0 0 ∧ Below w.heap.size w wx)
    case first =>
      have Vx' := Vx
      obtain ⟨yx, dx, qx, ix⟩ := Vx'
      have ex := qx.cell
      have Vy' := Vy
      obtain ⟨yy, dy, qy, iy⟩ := Vy'
      have ey := qy.cell
      clear ea eb
      go_wp2_with fail
      refine (c_natural_Sub _ _ X Y _ ix iy hX' hY').mono ?_
      rintro e w9 ⟨v9, rfl, n9, bb⟩
      rw [← hN8.out] at n9
      rw [← hB0.out]
      obtain ⟨x9, c9, rfl, hc9, hx9⟩ := n9
      have v1 := VarB.made w9 x9 (nl N8) c9
      have n1 : IsN w9 (.agg #[.slice x9 (nl N8) c9]) N8 := NewN.isN ⟨x9, c9, rfl, hc9, hx9⟩
      have b2 := bel1 w9 (.cells #[.slice x9 (nl N8) c9] 24)
      have b3 := bb.trans (b2.mono bb.size)
      go_wp2_with fail
      go_meet
      case rel => exact ⟨_, rfl, rfl, VarI.of v1 (n1.mono b2), Vz.mono b3, Vx.mono b3, Vy.mono b3, Va.mono b3, Vb.mono b3, Vr.mono b3 Vr.lt, hb1.trans (b3.mono hb1.size)⟩
    case rest =>
    clear Vx Vy Vz Va Vb Vr hb1 ea eb fa fb
    obtain ⟨g8, rfl, rfl, V8, Vz, Vx, Vy, Va, Vb, Vr, hb1⟩ := hcut
    by_cases hle : Y ≤ X
    · obtain rfl : B = true := by rw [hB0.out]; exact decide_eq_true hle
      have hN : N8 = M := by rw [hN8.out, hMM.out]; unfold addM; rw [if_neg HS.out, if_pos hle]
      have HG := Lib.hid (show addG s s' X Y = s by unfold addG; rw [if_neg HS.out, if_pos hle])
      rw [hN] at V8
      clear hN
      go_upto_region 7 with (fail)
      refine wp_tabGF Tryz.f30 7 (addT7 w s g8 gz M Dn) [] (fun _ => false) 4 1 (by kernel_rfl) (by kernel_rfl) (by kernel_rfl) (by kernel_rfl) (by kernel_rfl) (EachX.of_all (fun _ h => by cases h) _) ?_ ?_
      · refine ⟨fun _ _ F => gR rfl rfl (arm_fieldF rfl (F.k 2 (Value.pointer (some ⟨w.heap.size, 0, none⟩))) (run_field0 _)).b, ?_⟩
        refine ⟨fun _ _ F => gR rfl rfl (arm_loadS rfl (F.f 0 rfl) (Va.mono F.below)).b, ?_⟩
        refine ⟨fun _ _ F => gR rfl rfl (arm_load rfl (F.k 8 (Value.pointer (some ⟨g8, 0, none⟩))) (V8.mono F.below)).b, ?_⟩
        refine ⟨fun _ _ F => gR rfl rfl (arm_load rfl (F.k 7 (Value.pointer (some ⟨gz, 0, none⟩))) (Vz.mono F.below)).b, ?_⟩
        refine ⟨fun _ _ F => gR rfl rfl (arm_lowest rfl (F.f 1 rfl) (F.f 2 rfl) (F.f 3 rfl) hMb hDb HD0.out rfl rfl rfl).b, ?_⟩
        exact trivial
      intro E' hE gp wp bp G Gs
      obtain rfl : E' = [] := by simpa [subs] using hE
      obtain ⟨x1, c1, x2, c2, e8, n1, n2⟩ := G 4 50 _ (by simp) rfl
      have Vr2 := Vr.mono bp Vr.lt
      clear G Gs hE
      simp only [addT7]
      simp only [qA, setD, qZ, qS, e8]
      refine wpAny_storeF (j := 5) (by kernel_rfl) rfl rfl rfl rfl rfl rfl Vr2 ?_
      refine wpAny_done (by kernel_rfl) ?_ _
      have hB := putF_below (s := (lowS s M)) (a := x1) (L := nl (lowP M Dn)) (c := c1) (b := x2) (M := nl (lowQ M Dn)) (d := c2) (hb1.trans (bp.mono hb1.size)) (show w.heap.size ≤ w.heap.size + 2 by omega)
      rename_i hK
      refine hK _ _ ?_
      refine wp_ret ?_
      show bodyPost Tryz.prog Tryz.f30 _ .ret _ _
      exact bodyPost_ret (res_F rfl rfl (VarFB.put Vr2)) rfl ⟨_, rfl, ⟨x1, c1, x2, c2, by rw [HG.out], n1.putF Vr2, n2.putF Vr2⟩, hB⟩
    · obtain rfl : B = false := by rw [hB0.out]; exact decide_eq_false hle
      have HN := Lib.hid (show M = Y - X by rw [hMM.out]; unfold addM; rw [if_neg HS.out, if_neg hle])
      have HG := Lib.hid (show addG s s' X Y = s' by unfold addG; rw [if_neg HS.out, if_neg hle])
      clear hle V8
      go_upto_region 8 with (fail)
      go_cut [10] (fun s10 wx => ∃ g10, s10 = .pointer (some ⟨g10, 0, none⟩) ∧ VarI wx g10 M ∧ VarI wx gz Dn ∧ VarF wx w.heap.size s p q ∧ VarF wx (w.heap.size + 1) s' p' q' ∧ VarFB wx (w.heap.size + 2) false none 0 0 none 0 0 ∧ Below w.heap.size w wx)
      case first =>
        have Vy' := Vy
        obtain ⟨yy, dy, qy, iy⟩ := Vy'
        have ey := qy.cell
        have Vx' := Vx
        obtain ⟨yx, dx, qx, ix⟩ := Vx'
        have ex := qx.cell
        go_wp2_with fail
        refine (c_natural_Sub _ _ Y X _ iy ix hY' hX').mono ?_
        rintro e w9 ⟨v9, rfl, n9, bb⟩
        rw [← HN.out] at n9
        obtain ⟨x9, c9, rfl, hc9, hx9⟩ := n9
        have v1 := VarB.made w9 x9 (nl M) c9
        have n1 : IsN w9 (.agg #[.slice x9 (nl M) c9]) M := NewN.isN ⟨x9, c9, rfl, hc9, hx9⟩
        have b2 := bel1 w9 (.cells #[.slice x9 (nl M) c9] 24)
        have b3 := bb.trans (b2.mono bb.size)
        go_wp2_with fail
        go_meet
        case rel => exact ⟨_, rfl, VarI.of v1 (n1.mono b2), Vz.mono b3, Va.mono b3, Vb.mono b3, Vr.mono b3 Vr.lt, hb1.trans (b3.mono hb1.size)⟩
      case rest =>
      clear Vx Vy Vz Va Vb Vr hb1
      obtain ⟨g10, rfl, V10, Vz, Va, Vb, Vr, hb1⟩ := hcut
      go_upto_region 9 with (fail)
      refine wp_tabGF Tryz.f30 9 (addT9 w s' g10 gz M Dn) [] (fun _ => false) 4 1 (by kernel_rfl) (by kernel_rfl) (by kernel_rfl) (by kernel_rfl) (by kernel_rfl) (EachX.of_all (fun _ h => by cases h) _) ?_ ?_
      · refine ⟨fun _ _ F => gR rfl rfl (arm_fieldF rfl (F.k 3 (Value.pointer (some ⟨w.heap.size + 1, 0, none⟩))) (run_field0 _)).b, ?_⟩
        refine ⟨fun _ _ F => gR rfl rfl (arm_loadS rfl (F.f 0 rfl) (Vb.mono F.below)).b, ?_⟩
        refine ⟨fun _ _ F => gR rfl rfl (arm_load rfl (F.k 10 (Value.pointer (some ⟨g10, 0, none⟩))) (V10.mono F.below)).b, ?_⟩
        refine ⟨fun _ _ F => gR rfl rfl (arm_load rfl (F.k 7 (Value.pointer (some ⟨gz, 0, none⟩))) (Vz.mono F.below)).b, ?_⟩
        refine ⟨fun _ _ F => gR rfl rfl (arm_lowest rfl (F.f 1 rfl) (F.f 2 rfl) (F.f 3 rfl) hMb hDb HD0.out rfl rfl rfl).b, ?_⟩
        exact trivial
      intro E' hE gp wp bp G Gs
      obtain rfl : E' = [] := by simpa [subs] using hE
      obtain ⟨x1, c1, x2, c2, e8, n1, n2⟩ := G 4 61 _ (by simp) rfl
      have Vr2 := Vr.mono bp Vr.lt
      clear G Gs hE
      simp only [addT9]
      simp only [qA, setD, qZ, qS, e8]
      refine wpAny_storeF (j := 5) (by kernel_rfl) rfl rfl rfl rfl rfl rfl Vr2 ?_
      refine wpAny_done (by kernel_rfl) ?_ _
      have hB := putF_below (s := (lowS s' M)) (a := x1) (L := nl (lowP M Dn)) (c := c1) (b := x2) (M := nl (lowQ M Dn)) (d := c2) (hb1.trans (bp.mono hb1.size)) (show w.heap.size ≤ w.heap.size + 2 by omega)
      rename_i hK
      refine hK _ _ ?_
      refine wp_ret ?_
      show bodyPost Tryz.prog Tryz.f30 _ .ret _ _
      exact bodyPost_ret (res_F rfl rfl (VarFB.put Vr2)) rfl ⟨_, rfl, ⟨x1, c1, x2, c2, by rw [HG.out], n1.putF Vr2, n2.putF Vr2⟩, hB⟩
end Go.Proofs.YtfhinmdhjlmikaaGreatDoor
namespace Go.Proofs.YtfhinmdhjlmikaaGreatDoor
set_option linter.unusedSimpArgs false
set_option linter.unusedVariables false
set_option maxRecDepth 100000
open Go.RowKit
/-- In w' only block g may differ from what it was in w. -/
structure Upd (w : World) (g : Nat) (w' : World) : Prop where
  os : w'.os = w.os
  tape : w'.tape = w.tape
  output : w'.output = w.output
  size : w'.heap.size = w.heap.size
  block : ∀ k, k ≠ g → w'.heap[k]? = w.heap[k]?
theorem Upd.cell (w : World) (g k : Nat) (u : Value) : Upd w g (w.setCell ⟨g, k, none⟩ u) := ⟨rfl, rfl, rfl, by simp [World.setCell], fun i hi => Below.heap_setCell _ _ _ _ hi⟩
theorem Upd.trans {a b c : World} {g : Nat} (h : Upd a g b) (k : Upd b g c) : Upd a g c := ⟨k.os.trans h.os, k.tape.trans h.tape, k.output.trans h.output, k.size.trans h.size, fun i hi => (k.block i hi).trans (h.block i hi)⟩
theorem Upd.below {W w w' : World} {g B : Nat} (h : Below B W w) (u : Upd w g w') (hB : B ≤ g) : Below B W w' :=
  h.trans ⟨u.os, u.tape, u.output, by rw [u.size]; exact Nat.le_refl _, fun k hk => u.block k (by omega)⟩
/-- Block g is a variable: no row of digits lies there. -/
def Own (w : World) (g : Nat) : Prop := ∃ (cs : Array Value) (t : TypeId), w.heap[g]? = some (Obj.cells cs t (0, 0)) ∧ ∀ (k : Nat) (n : Int), cs[k]? ≠ some (Value.int .u32 n)
theorem VarB.own {w : World} {g L c : Nat} {a : Option Addr} (h : VarB w g a L c) : Own w g := ⟨_, _, h, fun k n => by
  match k with
  | 0 => intro h; cases h
  | k + 1 => intro h; simp at h⟩
theorem VarFB.own {w : World} {g L c M d : Nat} {s : Bool} {a b : Option Addr} (h : VarFB w g s a L c b M d) : Own w g := ⟨_, _, h, fun k n => by
  match k with
  | 0 => intro h; cases h
  | 1 => intro h; cases h
  | 2 => intro h; cases h
  | k + 3 => intro h; simp at h⟩
theorem VarI.own {w : World} {g N : Nat} (h : VarI w g N) : Own w g := by obtain ⟨_, _, h, _⟩ := h; exact h.own
theorem VarF.own {w : World} {g p q : Nat} {s : Bool} (h : VarF w g s p q) : Own w g := by obtain ⟨_, _, _, _, h, _⟩ := h; exact h.own
theorem Own.ne {w : World} {g k o : Nat} {x : Int} (h : Own w g) (hd : w.cell? ⟨k, o, none⟩ = some (.int .u32 x)) : k ≠ g := by
  rintro rfl
  obtain ⟨cs, t, h1, h2⟩ := h
  rw [cell_of_row w k o _ _ (0, 0) h1] at hd
  exact h2 o x hd
section
variable {w w' : World} {g g' N L c M d p q : Nat} {s : Bool} {a b : Option Addr}
theorem IsR.upd {v : Value} {L N : Nat} (h : IsR w v L N) (o : Own w g) (u : Upd w g w') : IsR w' v L N := by
  obtain ⟨x, cap, rfl, hc, hx⟩ := h
  refine ⟨x, cap, rfl, hc, hx.lt, fun hL => ?_⟩
  obtain ⟨b, off, rfl, hd⟩ := hx.cells hL
  have hne : b ≠ g := o.ne (by simpa using hd 0 hL)
  refine ⟨b, off, rfl, fun j hj => ?_⟩
  rw [World.cell?_of_block (u.block b hne)]; exact hd j hj
theorem IsN.upd {v : Value} (h : IsN w v N) (o : Own w g) (u : Upd w g w') : IsN w' v N := IsR.upd h o u
theorem IsF.upd {v : Value} (h : IsF w v s p q) (o : Own w g) (u : Upd w g w') : IsF w' v s p q := by
  obtain ⟨x, cx, y, cy, rfl, h1, h2⟩ := h; exact ⟨x, cx, y, cy, rfl, h1.upd o u, h2.upd o u⟩
theorem VarB.upd (h : VarB w g' a L c) (o : Own w g) (u : Upd w g w') (hn : g' ≠ g) : VarB w' g' a L c := (u.block g' hn).trans h
theorem VarFB.upd (h : VarFB w g' s a L c b M d) (o : Own w g) (u : Upd w g w') (hn : g' ≠ g) : VarFB w' g' s a L c b M d := (u.block g' hn).trans h
theorem VarI.upd (h : VarI w g' N) (o : Own w g) (u : Upd w g w') (hn : g' ≠ g) : VarI w' g' N := by
  obtain ⟨x, cx, h1, h2⟩ := h; exact ⟨x, cx, h1.upd o u hn, h2.upd o u⟩
theorem VarF.upd (h : VarF w g' s p q) (o : Own w g) (u : Upd w g w') (hn : g' ≠ g) : VarF w' g' s p q := by
  obtain ⟨x, cx, y, cy, h0, h1, h2⟩ := h; exact ⟨x, cx, y, cy, h0.upd o u hn, h1.upd o u, h2.upd o u⟩
theorem VarI.zero (h : VarB w g none 0 0) : VarI w g 0 := ⟨none, 0, by rw [nl_zero]; exact h, by rw [nl_zero]; exact NewN.isN (base := 0) NewN.of_zero⟩
theorem VarF.zero (h : VarFB w g false none 0 0 none 0 0) : VarF w g false 0 0 := by
  have h0 : IsN w (.agg #[.slice none (nl 0) 0]) 0 := by rw [nl_zero]; exact NewN.isN (base := 0) NewN.of_zero
  exact ⟨none, 0, none, 0, by rw [nl_zero]; exact h, h0, h0⟩
theorem VarFB.upd_put {s' : Bool} {a' b' : Option Addr} {L' c' M' d' : Nat} : Upd w g (putF w g s' a' L' c' b' M' d') := ((Upd.cell w g 0 _).trans (Upd.cell _ g 1 _)).trans (Upd.cell _ g 2 _)
end
section
variable {Q : Exit → Act → World → Prop} {md : Region.Mode} {ops : Array Oper} {o : Oper} {a : Act} {w : World} {j fuel : Nat} {listed : Array Bool} {x y : Operand} {g L c M d N p q : Nat} {s t : Bool} {u v : Option Addr}
theorem wp_storeN {K : Act → World → Prop} (hop : o.op = .store 24 x y) (hd : o.dst = none) (hx : a.eval x = .pointer (some ⟨g, 0, none⟩)) (hy : IsN w (a.eval y) N) (hv : ∃ s L c, VarB w g s L c)
    (hK : ∀ w1, Upd w g w1 → VarI w1 g N → K a w1) : Oper.wp Tryz.prog o a w K Q := by
  obtain ⟨s, L, c, hv⟩ := hv
  obtain ⟨x1, c1, e⟩ := hy.shape
  rw [e] at hy
  exact wp_store hop hd hx e ⟨_, _, _, rfl⟩ hv (hK _ (Upd.cell w g 0 _) ⟨x1, c1, hv.set, hy.upd hv.own (Upd.cell w g 0 _)⟩)
theorem wp_storeFr {K : Act → World → Prop} (hop : o.op = .store 26 x y) (hd : o.dst = none) (hx : a.eval x = .pointer (some ⟨g, 0, none⟩)) (hy : IsF w (a.eval y) t p q) (hv : ∃ s u L c v M d, VarFB w g s u L c v M d)
    (hK : ∀ w1, Upd w g w1 → VarF w1 g t p q → K a w1) : Oper.wp Tryz.prog o a w K Q := by
  obtain ⟨s, u, L, c, v, M, d, hv⟩ := hv
  obtain ⟨x1, c1, x2, c2, e, h1, h2⟩ := hy
  unfold Oper.wp execOp
  rw [hop]
  simp only [hx, e, Sem.run_bind, run_storeF hv, Result.andThen, Sem.run_pure, Oper.upon_skip]
  rw [hd]
  exact hK _ VarFB.upd_put ⟨x1, c1, x2, c2, hv.put, h1.putF hv, h2.putF hv⟩
/-- A store that is left. -/
theorem wpAny_storeN (hr : Region.ready md ops listed = [j]) (ho : ops[j]? = some o) (hop : o.op = .store 24 x y) (hg : o.guard = none) (hd : o.dst = none)
    (hx : a.eval x = .pointer (some ⟨g, 0, none⟩)) (hy : IsN w (a.eval y) N) (hv : ∃ s L c, VarB w g s L c) (h : ∀ w1, Upd w g w1 → VarI w1 g N → wpAny Tryz.prog md ops Q fuel (listed.setIfInBounds j true) a w1) :
    wpAny Tryz.prog md ops Q (fuel + 1) listed a w := by
  refine wpAny_ready hr (by simp) (AllReady.cons ho (fun K hK => ?_) AllReady.nil)
  rw [if_pos (wanted_none hg)]
  exact wp_storeN hop hd hx hy hv (fun w1 u1 v1 => hK _ _ (h w1 u1 v1))
theorem wpAny_storeFr (hr : Region.ready md ops listed = [j]) (ho : ops[j]? = some o) (hop : o.op = .store 26 x y) (hg : o.guard = none) (hd : o.dst = none)
    (hx : a.eval x = .pointer (some ⟨g, 0, none⟩)) (hy : IsF w (a.eval y) t p q) (hv : ∃ s u L c v M d, VarFB w g s u L c v M d) (h : ∀ w1, Upd w g w1 → VarF w1 g t p q → wpAny Tryz.prog md ops Q fuel (listed.setIfInBounds j true) a w1) :
    wpAny Tryz.prog md ops Q (fuel + 1) listed a w := by
  refine wpAny_ready hr (by simp) (AllReady.cons ho (fun K hK => ?_) AllReady.nil)
  rw [if_pos (wanted_none hg)]
  exact wp_storeFr hop hd hx hy hv (fun w1 u1 v1 => hK _ _ (h w1 u1 v1))
theorem VarB.any (h : VarB w g u L c) : ∃ s L c, VarB w g s L c := ⟨_, _, _, h⟩
theorem VarI.any (h : VarI w g N) : ∃ s L c, VarB w g s L c := by obtain ⟨_, _, h, _⟩ := h; exact ⟨_, _, _, h⟩
theorem VarFB.any (h : VarFB w g s u L c v M d) : ∃ s u L c v M d, VarFB w g s u L c v M d := ⟨_, _, _, _, _, _, _, h⟩
theorem VarF.any (h : VarF w g s p q) : ∃ s u L c v M d, VarFB w g s u L c v M d := by obtain ⟨_, _, _, _, h, _⟩ := h; exact ⟨_, _, _, _, _, _, _, h⟩
end
def Sp.pair (A B : Sp) : Sp := ⟨fun w v => ∃ x y, v = .tuple #[x, y] ∧ A.p w x ∧ B.p w y, fun w w' _ h hb => by obtain ⟨x, y, rfl, h1, h2⟩ := h; exact ⟨x, y, rfl, A.st w w' _ h1 hb, B.st w w' _ h2 hb⟩⟩
def Sp.trip (A B C : Sp) : Sp := ⟨fun w v => ∃ x y z, v = .tuple #[x, y, z] ∧ A.p w x ∧ B.p w y ∧ C.p w z, fun w w' _ h hb => by obtain ⟨x, y, z, rfl, h1, h2, h3⟩ := h; exact ⟨x, y, z, rfl, A.st w w' _ h1 hb, B.st w w' _ h2 hb, C.st w w' _ h3 hb⟩⟩
section
variable {Q : Exit → Act → World → Prop} {md : Region.Mode} {ops : Array Oper} {o : Oper} {a : Act} {w : World} {j fuel : Nat} {listed : Array Bool} {x y : Operand} {g L c M d N p q : Nat} {s t : Bool} {u v : Option Addr}
section
variable {f : FuncId} {S S1 S2 S3 : Sp} {z : Operand} {tt : Array TypeId} {R : World → Ending → World → Prop}
theorem arm_C1 (ho : o.op = .call { callee := .value (.func f), args := #[x], argTypes := tt }) (hen : ∀ (vs : Array Value) w, (callFunc f vs).run Tryz.prog w = .ok (.enter f vs) w)
    (hx : Is a w x S1) (hc : ∀ va w, S1.p w va → Calls Tryz.prog f #[va] w (R w)) (hR : ∀ e w', R w e w' → ∃ v, e = .returned v ∧ S.p w' v ∧ Below w.heap.size w w') : Arm Tryz.prog Q o a w S :=
  arm_call ho hen (R := R w) (by simpa using hc _ w hx) hR
theorem arm_C2 (ho : o.op = .call { callee := .value (.func f), args := #[x, y], argTypes := tt }) (hen : ∀ (vs : Array Value) w, (callFunc f vs).run Tryz.prog w = .ok (.enter f vs) w)
    (hx : Is a w x S1) (hy : Is a w y S2) (hc : ∀ va vb w, S1.p w va → S2.p w vb → Calls Tryz.prog f #[va, vb] w (R w)) (hR : ∀ e w', R w e w' → ∃ v, e = .returned v ∧ S.p w' v ∧ Below w.heap.size w w') : Arm Tryz.prog Q o a w S :=
  arm_call ho hen (R := R w) (by simpa using hc _ _ w hx hy) hR
theorem arm_C3 (ho : o.op = .call { callee := .value (.func f), args := #[x, y, z], argTypes := tt }) (hen : ∀ (vs : Array Value) w, (callFunc f vs).run Tryz.prog w = .ok (.enter f vs) w)
    (hx : Is a w x S1) (hy : Is a w y S2) (hz : Is a w z S3) (hc : ∀ va vb vc w, S1.p w va → S2.p w vb → S3.p w vc → Calls Tryz.prog f #[va, vb, vc] w (R w)) (hR : ∀ e w', R w e w' → ∃ v, e = .returned v ∧ S.p w' v ∧ Below w.heap.size w w') : Arm Tryz.prog Q o a w S :=
  arm_call ho hen (R := R w) (by simpa using hc _ _ _ w hx hy hz) hR
theorem arm_pair0 {A B : Sp} (ho : o.op = .extract x 0) (hx : Is a w x (.pair A B)) : Arm Tryz.prog Q o a w A := by
  obtain ⟨u, v, e, h1, _⟩ := hx
  exact arm_run u (run_ext ho e rfl w) h1
theorem arm_pair1 {A B : Sp} (ho : o.op = .extract x 1) (hx : Is a w x (.pair A B)) : Arm Tryz.prog Q o a w B := by
  obtain ⟨u, v, e, _, h1⟩ := hx
  exact arm_run v (run_ext ho e rfl w) h1
theorem arm_trip0 {A B C : Sp} (ho : o.op = .extract x 0) (hx : Is a w x (.trip A B C)) : Arm Tryz.prog Q o a w A := by
  obtain ⟨u, v, z, e, h1, _, _⟩ := hx
  exact arm_run u (run_ext ho e rfl w) h1
theorem arm_trip1 {A B C : Sp} (ho : o.op = .extract x 1) (hx : Is a w x (.trip A B C)) : Arm Tryz.prog Q o a w B := by
  obtain ⟨u, v, z, e, _, h1, _⟩ := hx
  exact arm_run v (run_ext ho e rfl w) h1
theorem arm_trip2 {A B C : Sp} (ho : o.op = .extract x 2) (hx : Is a w x (.trip A B C)) : Arm Tryz.prog Q o a w C := by
  obtain ⟨u, v, z, e, _, _, h1⟩ := hx
  exact arm_run z (run_ext ho e rfl w) h1
theorem ofSub {w w' : World} {m n : Nat} {e : Ending} (h : RetSub w m n e w') : ∃ v, e = .returned v ∧ (Sp.pair (.nat (m - n)) (.val (.bool (decide (n ≤ m))))).p w' v ∧ Below w.heap.size w w' := by
  obtain ⟨v, rfl, h1, h2⟩ := h; exact ⟨_, rfl, ⟨_, _, rfl, h1.isN, rfl⟩, h2⟩
theorem ofP {w w' : World} {N : Nat} {c : Int} {e : Ending} (h : RetP w N c e w') : ∃ v, e = .returned v ∧ (Sp.pair (.nat N) (.val (.int .i64 c))).p w' v ∧ Below w.heap.size w w' := by
  obtain ⟨v, rfl, h1, h2⟩ := h; exact ⟨_, rfl, ⟨_, _, rfl, h1.isN, rfl⟩, h2⟩
theorem ofFEp {w w' : World} {p q : Nat} {c : Int} {e : Ending} (h : RetFE w s p q c e w') : ∃ v, e = .returned v ∧ (Sp.pair (.fr s p q) (.val (.int .i64 c))).p w' v ∧ Below w.heap.size w w' := by
  obtain ⟨v, rfl, h1, h2⟩ := h; exact ⟨_, rfl, ⟨_, _, rfl, h1, rfl⟩, h2⟩
end
theorem arm_build0F (ho : o.op = .build 26 #[]) : Arm Tryz.prog Q o a w (.fr false 0 0) := by
  refine arm_run (.agg #[.bool false, .slice none 0 0, .slice none 0 0]) ?_ (IsF.zero w)
  unfold execOp
  rw [ho]
  simp only [List.map_toArray, List.map_nil]
  go_simp
end
theorem res_N {fn : Func} {p : Tmp} (h : fn.results = #[.cell p 24]) {tmps : Array Value} {w : World} {g L c : Nat} {a : Option Addr}
    (hp : tmps[p]? = some (.pointer (some ⟨g, 0, none⟩))) (hv : VarB w g a L c) : (results fn tmps).run Tryz.prog w = .ok (.agg #[.slice a L c]) w := by
  have c0 := hv.cell
  simp [results, h, hp, asAddr, loadVar, go_sem, c0]
theorem run_eqBB (a b : Bool) (w : World) : (binOp BinOp.eql 4 (.bool a) (.bool b)).run Tryz.prog w = .ok (.bool (a == b)) w := by cases a <;> cases b <;> rfl
theorem resN {w : World} : Below w.heap.size w (w.alloc (.cells #[.slice none 0 0] 24)) ∧ VarB (w.alloc (.cells #[.slice none 0 0] 24)) w.heap.size none 0 0 := ⟨bel1 w _, VarB.made w none 0 0⟩
/-- A fraction: sign, numerator, denominator. -/
structure Fq where
  s : Bool
  p : Nat
  q : Nat
abbrev VarQ (w : World) (g : Nat) (x : Fq) : Prop := VarF w g x.s x.p x.q
abbrev IsQ (w : World) (v : Value) (x : Fq) : Prop := IsF w v x.s x.p x.q
abbrev Sp.fq (x : Fq) : Sp := .fr x.s x.p x.q
def RetQ (W : World) (x : Fq) (e : Ending) (w' : World) : Prop := RetF W x.s x.p x.q e w'
def RetQE (W : World) (x : Fq) (c : Int) (e : Ending) (w' : World) : Prop := RetFE W x.s x.p x.q c e w'
theorem ofQ {w w' : World} {x : Fq} {e : Ending} (h : RetQ w x e w') : ∃ v, e = .returned v ∧ (Sp.fq x).p w' v ∧ Below w.heap.size w w' := h
theorem ofQE {w w' : World} {x : Fq} {c : Int} {e : Ending} (h : RetQE w x c e w') : ∃ v, e = .returned v ∧ (Sp.pair (.fq x) (.val (.int .i64 c))).p w' v ∧ Below w.heap.size w w' := ofFEp h
def Fq.low (s : Bool) (m n : Nat) : Fq := ⟨lowS s m, lowP m n, lowQ m n⟩
def Fq.neg (x : Fq) : Fq := ⟨lowS (!x.s) x.p, x.p, x.q⟩
def Fq.add (x y : Fq) : Fq := .low (addG x.s y.s (x.p * y.q) (y.p * x.q)) (addM x.s y.s (x.p * y.q) (y.p * x.q)) (x.q * y.q)
def Fq.mul (x y : Fq) : Fq := .low (x.s != y.s) (x.p * y.p) (x.q * y.q)
def Fq.div (x y : Fq) : Fq := .low (x.s != y.s) (x.p * y.q) (x.q * y.p)
def Fq.sub (x y : Fq) : Fq := x.add y.neg
def Fq.sgn (x : Fq) : Int := if x.p = 0 then 0 else if x.s then -1 else 1
def Fq.cmp (x y : Fq) : Int := (x.sub y).sgn
def Fq.zero : Fq := ⟨false, 0, 0⟩
/-- At most d digits; the denominator is not zero. -/
structure Fq.ok (d : Nat) (x : Fq) : Prop where
  p : nl x.p ≤ d
  q : nl x.q ≤ d
  n : x.q ≠ 0
section
variable {x y : Fq} {d e : Nat}
theorem Fq.ok.mono (h : x.ok d) (hd : d ≤ e) : x.ok e := ⟨Nat.le_trans h.p hd, Nat.le_trans h.q hd, h.n⟩
theorem Fq.ok_low {s : Bool} {m n : Nat} (hm : nl m ≤ d) (hn : nl n ≤ d) (h0 : n ≠ 0) : (Fq.low s m n).ok d :=
  ⟨Nat.le_trans (nl_mono (Nat.div_le_self _ _)) hm, Nat.le_trans (nl_mono (Nat.div_le_self _ _)) hn, fun h => by
    have h1 : n / Nat.gcd m n = 0 := h
    rw [Nat.div_eq_zero_iff] at h1
    have h2 := Nat.gcd_pos_of_pos_right m (Nat.pos_of_ne_zero h0)
    have h3 := Nat.gcd_le_right m (Nat.pos_of_ne_zero h0)
    omega⟩
theorem Fq.ok.neg (h : x.ok d) : x.neg.ok d := ⟨h.p, h.q, h.n⟩
theorem Fq.ok.mul (h : x.ok d) (k : y.ok e) : (x.mul y).ok (d + e) := Fq.ok_low (nl_mul2 h.p k.p) (nl_mul2 h.q k.q) (Nat.mul_ne_zero h.n k.n)
theorem Fq.ok.div (h : x.ok d) (k : y.ok e) (h0 : y.p ≠ 0) : (x.div y).ok (d + e) := Fq.ok_low (nl_mul2 h.p k.q) (nl_mul2 h.q k.p) (Nat.mul_ne_zero h.n h0)
theorem Fq.ok.add (h : x.ok d) (k : y.ok e) : (x.add y).ok (d + e + (d + e) + 1) :=
  Fq.ok_low (Nat.le_trans (nl_mono (addM_le _ _ _ _)) (nl_add2 (nl_mul2 h.p k.q) (Nat.le_trans (nl_mul2 k.p h.q) (by omega)))) (Nat.le_trans (nl_mul2 h.q k.q) (by omega)) (Nat.mul_ne_zero h.n k.n)
theorem Fq.ok.sub (h : x.ok d) (k : y.ok e) : (x.sub y).ok (d + e + (d + e) + 1) := h.add k.neg
end
theorem q_fNeg (va : Value) (x : Fq) (w : World) (ha : IsQ w va x) (h : x.ok 1000000000) : Calls Tryz.prog 60 #[va] w fun e w' => RetQ w x.neg e w' := c_fNeg va x.s x.p x.q w ha h.p h.q
theorem q_rNeg (va : Value) (x : Fq) (w : World) (ha : IsQ w va x) (h : x.ok 1000000000) : Calls Tryz.prog 61 #[va] w fun e w' => RetQ w x.neg e w' := c_rNeg va x.s x.p x.q w ha h.p h.q
theorem q_fAdd (va vb : Value) (x y : Fq) (w : World) (ha : IsQ w va x) (hb : IsQ w vb y) (h : x.ok 1000000000) (k : y.ok 1000000000) : Calls Tryz.prog 30 #[va, vb] w fun e w' => RetQ w (x.add y) e w' := c_fAdd va vb x.s y.s x.p x.q y.p y.q w ha hb h.p h.q k.p k.q h.n k.n
theorem q_fMul (va vb : Value) (x y : Fq) (w : World) (ha : IsQ w va x) (hb : IsQ w vb y) (h : x.ok 1000000000) (k : y.ok 1000000000) : Calls Tryz.prog 34 #[va, vb] w fun e w' => RetQ w (x.mul y) e w' := c_fMul va vb x.s y.s x.p x.q y.p y.q w ha hb h.p h.q k.p k.q h.n k.n
theorem q_rMake (s : Bool) (va vb : Value) (m n : Nat) (w : World) (ha : IsN w va m) (hb : IsN w vb n) (hm : nl m ≤ 10000000000) (hn : nl n ≤ 10000000000) (h0 : n ≠ 0) : Calls Tryz.prog 56 #[.bool s, va, vb] w fun e w' => RetQE w (Fq.low s m n) 0 e w' := (c_rMake s va vb m n w ha hb hm hn).mono fun _ _ h => h.2 h0
end Go.Proofs.YtfhinmdhjlmikaaGreatDoor
namespace Go.Proofs.YtfhinmdhjlmikaaGreatDoor
set_option linter.unusedSimpArgs false
set_option linter.unusedVariables false
set_option maxRecDepth 100000
open Go.RowKit
/-- The value of a function. -/
abbrev fnV (f : FuncId) : Value := .func (.func f) #[] #[]
/-- A value of one cell that may be stored into a variable. -/
def Flat (v : Value) : Prop := (∀ cs, v ≠ .agg cs) ∧ (∀ vs, v ≠ .tuple vs) ∧ ∀ n, v ≠ .int .u32 n
/-- The type of strings; variables of the executor are not of it, so that rows of strings stay as they are. -/
def strT : TypeId := 9
def OwnX (w : World) (g : Nat) : Prop := ∃ (cs : Array Value) (t : TypeId), w.heap[g]? = some (Obj.cells cs t (0, 0)) ∧ (∀ (k : Nat) (n : Int), cs[k]? ≠ some (Value.int .u32 n)) ∧ t ≠ strT
theorem OwnX.own {w : World} {g : Nat} (h : OwnX w g) : Own w g := by obtain ⟨cs, t, h1, h2, _⟩ := h; exact ⟨cs, t, h1, h2⟩
/-- A property of a value that calls and stores into variables leave alone. -/
structure Vp where
  p : World → Value → Prop
  st : ∀ w w' v, p w v → Below w.heap.size w w' → p w' v
  up : ∀ w w' g v, p w v → OwnX w g → Upd w g w' → p w' v
  fl : ∀ w v, p w v → Flat v
def Vp.val (u : Value) : Vp := ⟨fun _ v => v = u ∧ Flat v, fun _ _ _ h _ => h, fun _ _ _ _ h _ _ => h, fun _ _ h => h.2⟩
/-- A row of digits. -/
def Vp.dig (L N : Nat) : Vp := ⟨fun w v => IsR w (.agg #[v]) L N, fun _ _ _ h hb => h.mono hb, fun _ _ _ _ h o u => h.upd o.own u, fun w v h => by
  obtain ⟨a, c, e, _⟩ := h
  have e2 : v = .slice a L c := by
    injection e with e
    have := congrArg (fun x : Array Value => x[0]?) e
    simpa using this
  subst e2
  exact ⟨fun _ h => by (cases h), fun _ h => by (cases h), fun _ h => by (cases h)⟩⟩
abbrev Rho := List Vp
/-- What is known of one cell. -/
inductive Leaf where
  | b (x : Bool)
  | i (k : IntKind) (n : Int)
  | ptr (v off : Nat)
  | nilp
  | ref (n : Nat)
  | fn (f : FuncId)
  | sl0
  | s (x : ByteArray)
  deriving DecidableEq
inductive SV where
  | one (l : Leaf)
  | agg (ls : List Leaf)
  deriving DecidableEq
inductive AV where
  | v (s : SV)
  | tup (xs : List SV)
  | any
  deriving DecidableEq
abbrev Blk := Nat → Option Nat
def Leaf.holds (ρ : Rho) (B : Blk) (w : World) (l : Leaf) (v : Value) : Prop :=
  match l with
  | .b x => v = .bool x
  | .i k n => v = .int k n
  | .ptr x o => ∃ g, B x = some g ∧ v = .pointer (some ⟨g, o, none⟩)
  | .nilp => v = .pointer none
  | .ref n => ∃ s, ρ[n]? = some s ∧ s.p w v
  | .fn f => v = fnV f
  | .sl0 => v = .slice none 0 0
  | .s x => v = .string x
def LeavesH (ρ : Rho) (B : Blk) (w : World) : List Leaf → List Value → Prop
  | [], [] => True
  | l :: ls, v :: vs => l.holds ρ B w v ∧ LeavesH ρ B w ls vs
  | _, _ => False
def SV.holds (ρ : Rho) (B : Blk) (w : World) (s : SV) (v : Value) : Prop :=
  match s with
  | .one l => l.holds ρ B w v
  | .agg ls => ∃ vs : List Value, v = .agg vs.toArray ∧ LeavesH ρ B w ls vs
def SVsH (ρ : Rho) (B : Blk) (w : World) : List SV → List Value → Prop
  | [], [] => True
  | l :: ls, v :: vs => l.holds ρ B w v ∧ SVsH ρ B w ls vs
  | _, _ => False
def AV.holds (ρ : Rho) (B : Blk) (w : World) (s : AV) (v : Value) : Prop :=
  match s with
  | .v s => s.holds ρ B w v
  | .tup xs => ∃ vs : List Value, v = .tuple vs.toArray ∧ SVsH ρ B w xs vs
  | .any => v = undef
section
variable {ρ : Rho} {B B' : Blk} {w w' : World} {g : Nat} {v : Value}
def BLe (B B' : Blk) : Prop := ∀ x g, B x = some g → B' x = some g
theorem BLe.refl : BLe B B := fun _ _ h => h
theorem Leaf.holds.mono {l : Leaf} (h : l.holds ρ B w v) (hB : BLe B B') (hb : Below w.heap.size w w') : l.holds ρ B' w' v := by
  cases l <;> simp only [Leaf.holds] at h ⊢ <;> try exact h
  · obtain ⟨g, h1, h2⟩ := h; exact ⟨g, hB _ _ h1, h2⟩
  · obtain ⟨s, h1, h2⟩ := h; exact ⟨s, h1, s.st _ _ _ h2 hb⟩
theorem Leaf.holds.upd {l : Leaf} (h : l.holds ρ B w v) (o : OwnX w g) (u : Upd w g w') : l.holds ρ B w' v := by
  cases l <;> simp only [Leaf.holds] at h ⊢ <;> try exact h
  obtain ⟨s, h1, h2⟩ := h; exact ⟨s, h1, s.up _ _ _ _ h2 o u⟩
theorem LeavesH.all : ∀ {ls : List Leaf} {vs : List Value}, LeavesH ρ B w ls vs → (∀ (l : Leaf) (v : Value), Leaf.holds ρ B w l v → Leaf.holds ρ B' w' l v) → LeavesH ρ B' w' ls vs
  | [], [], _, _ => trivial
  | _ :: _, _ :: _, h, f => ⟨f _ _ h.1, LeavesH.all h.2 f⟩
  | [], _ :: _, h, _ => h.elim
  | _ :: _, [], h, _ => h.elim
theorem SV.holds.all {s : SV} (h : s.holds ρ B w v) (f : ∀ (l : Leaf) (v : Value), Leaf.holds ρ B w l v → Leaf.holds ρ B' w' l v) : s.holds ρ B' w' v := by
  cases s with
  | one l => exact f _ _ h
  | agg ls => obtain ⟨vs, e, h⟩ := h; exact ⟨vs, e, LeavesH.all h f⟩
theorem SVsH.all : ∀ {ls : List SV} {vs : List Value}, SVsH ρ B w ls vs → (∀ (l : Leaf) (v : Value), Leaf.holds ρ B w l v → Leaf.holds ρ B' w' l v) → SVsH ρ B' w' ls vs
  | [], [], _, _ => trivial
  | _ :: _, _ :: _, h, f => ⟨h.1.all f, SVsH.all h.2 f⟩
  | [], _ :: _, h, _ => h.elim
  | _ :: _, [], h, _ => h.elim
theorem AV.holds.all {s : AV} (h : s.holds ρ B w v) (f : ∀ (l : Leaf) (v : Value), Leaf.holds ρ B w l v → Leaf.holds ρ B' w' l v) : s.holds ρ B' w' v := by
  cases s with
  | v s => exact SV.holds.all h f
  | tup ls => obtain ⟨vs, e, h⟩ := h; exact ⟨vs, e, h.all f⟩
  | any => exact h
theorem AV.holds.mono {s : AV} (h : s.holds ρ B w v) (hB : BLe B B') (hb : Below w.heap.size w w') : s.holds ρ B' w' v := h.all (fun _ _ h => h.mono hB hb)
theorem AV.holds.upd {s : AV} (h : s.holds ρ B w v) (o : OwnX w g) (u : Upd w g w') : s.holds ρ B w' v := h.all (fun _ _ h => h.upd o u)
theorem LeavesH.len : ∀ {ls : List Leaf} {vs : List Value}, LeavesH ρ B w ls vs → vs.length = ls.length
  | [], [], _ => rfl
  | _ :: _, _ :: _, h => by simp [h.2.len]
  | [], _ :: _, h => h.elim
  | _ :: _, [], h => h.elim
theorem LeavesH.get : ∀ {ls : List Leaf} {vs : List Value} {k : Nat} {l : Leaf}, LeavesH ρ B w ls vs → ls[k]? = some l → ∃ v, vs[k]? = some v ∧ l.holds ρ B w v
  | [], [], _, _, _, h => by simp at h
  | _ :: _, v :: _, 0, _, h, e => by simp at e; subst e; exact ⟨v, rfl, h.1⟩
  | _ :: ls, _ :: vs, k + 1, l, h, e => by
    obtain ⟨u, h1, h2⟩ := LeavesH.get (k := k) (l := l) h.2 (by simpa using e)
    exact ⟨u, by simpa using h1, h2⟩
  | [], _ :: _, _, _, h, _ => h.elim
  | _ :: _, [], _, _, h, _ => h.elim
theorem LeavesH.mk : ∀ {ls : List Leaf} {vs : List Value}, vs.length = ls.length → (∀ (k : Nat) (l : Leaf) (v : Value), ls[k]? = some l → vs[k]? = some v → l.holds ρ B w v) → LeavesH ρ B w ls vs
  | [], [], _, _ => trivial
  | l :: ls, v :: vs, e, h => ⟨h 0 l v rfl rfl, LeavesH.mk (by simpa using e) (fun k l v h1 h2 => h (k + 1) l v (by simpa using h1) (by simpa using h2))⟩
  | [], _ :: _, e, _ => by simp at e
  | _ :: _, [], e, _ => by simp at e
theorem SVsH.get : ∀ {ls : List SV} {vs : List Value} {k : Nat} {l : SV}, SVsH ρ B w ls vs → ls[k]? = some l → ∃ v, vs[k]? = some v ∧ l.holds ρ B w v
  | [], [], _, _, _, h => by simp at h
  | _ :: _, v :: _, 0, _, h, e => by simp at e; subst e; exact ⟨v, rfl, h.1⟩
  | _ :: ls, _ :: vs, k + 1, l, h, e => by
    obtain ⟨u, h1, h2⟩ := SVsH.get (k := k) (l := l) h.2 (by simpa using e)
    exact ⟨u, by simpa using h1, h2⟩
  | [], _ :: _, _, _, h, _ => h.elim
  | _ :: _, [], _, _, h, _ => h.elim
theorem LeavesH.append : ∀ {ls ls' : List Leaf} {vs vs' : List Value}, LeavesH ρ B w ls vs → LeavesH ρ B w ls' vs' → LeavesH ρ B w (ls ++ ls') (vs ++ vs')
  | [], _, [], _, _, k => k
  | _ :: _, _, _ :: _, _, h, k => ⟨h.1, LeavesH.append h.2 k⟩
  | [], _, _ :: _, _, h, _ => h.elim
  | _ :: _, _, [], _, h, _ => h.elim
/-- Leaves that may lie in a variable. -/
def Leaf.flat : Leaf → Bool
  | .i .u32 _ => false
  | _ => true
theorem Leaf.holds.flat {l : Leaf} (h : l.holds ρ B w v) (hf : l.flat = true) : Flat v := by
  cases l <;> simp only [Leaf.holds] at h
  · subst h; exact ⟨fun _ h => by (cases h), fun _ h => by (cases h), fun _ h => by (cases h)⟩
  · subst h
    rename_i k n
    exact ⟨fun _ h => by (cases h), fun _ h => by (cases h), fun m h => by
      injection h with h1 h2; subst h1; simp [Leaf.flat] at hf⟩
  · obtain ⟨g, _, h⟩ := h; subst h; exact ⟨fun _ h => by (cases h), fun _ h => by (cases h), fun _ h => by (cases h)⟩
  · subst h; exact ⟨fun _ h => by (cases h), fun _ h => by (cases h), fun _ h => by (cases h)⟩
  · obtain ⟨s, _, h⟩ := h; exact s.fl _ _ h
  · subst h; exact ⟨fun _ h => by (cases h), fun _ h => by (cases h), fun _ h => by (cases h)⟩
  · subst h; exact ⟨fun _ h => by (cases h), fun _ h => by (cases h), fun _ h => by (cases h)⟩
  · subst h; exact ⟨fun _ h => by (cases h), fun _ h => by (cases h), fun _ h => by (cases h)⟩
end
/-- A constant as a leaf. -/
def leafC : Value → Option Leaf
  | .bool x => some (.b x)
  | .int k n => some (.i k n)
  | .pointer none => some .nilp
  | .slice none 0 0 => some .sl0
  | .string s => some (.s s)
  | _ => none
theorem leafC_holds {ρ : Rho} {B : Blk} {w : World} {v : Value} {l : Leaf} (h : leafC v = some l) : l.holds ρ B w v := by
  unfold leafC at h
  split at h <;> first | (injection h with h; subst h; rfl) | cases h
def leavesC : List Value → Option (List Leaf)
  | [] => some []
  | v :: vs => match leafC v, leavesC vs with
    | some l, some ls => some (l :: ls)
    | _, _ => none
theorem leavesC_holds {ρ : Rho} {B : Blk} {w : World} : ∀ {vs : List Value} {ls : List Leaf}, leavesC vs = some ls → LeavesH ρ B w ls vs
  | [], ls, h => by simp [leavesC] at h; subst h; trivial
  | v :: vs, ls, h => by
    unfold leavesC at h
    cases h1 : leafC v with
    | none => rw [h1] at h; simp at h
    | some l =>
      cases h2 : leavesC vs with
      | none => rw [h1, h2] at h; simp at h
      | some l2 => rw [h1, h2] at h; simp at h; subst h; exact ⟨leafC_holds h1, leavesC_holds h2⟩
def svC : Value → Option SV
  | .agg cs => (leavesC cs.toList).map .agg
  | v => (leafC v).map .one
theorem svC_holds {ρ : Rho} {B : Blk} {w : World} {v : Value} {s : SV} (h : svC v = some s) : s.holds ρ B w v := by
  unfold svC at h
  split at h
  · rename_i cs
    cases h1 : leavesC cs.toList with
    | none => rw [h1] at h; cases h
    | some l => rw [h1] at h; simp at h; subst h; exact ⟨cs.toList, by simp, leavesC_holds h1⟩
  · cases h1 : leafC v with
    | none => rw [h1] at h; cases h
    | some l => rw [h1] at h; simp at h; subst h; exact leafC_holds h1
end Go.Proofs.YtfhinmdhjlmikaaGreatDoor
