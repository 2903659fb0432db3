/- NaturalOrders: the walk. -/
import Derived.Test.YthpndmamegfbkaaF6
namespace Go.Proofs.Ythpndmamegfbkaa
set_option linter.unusedSimpArgs false
set_option linter.unusedVariables false
open Go.RowKit
theorem cmp_lt {m n : Nat} (h : m < n) : cmpI m n = -1 := by unfold cmpI; rw [if_pos h]
theorem cmp_gt {m n : Nat} (h : n < m) : cmpI m n = 1 := by unfold cmpI; rw [if_neg (by omega), if_pos h]
theorem cmp_eq {m n : Nat} (h : m = n) : cmpI m n = 0 := by unfold cmpI; rw [if_neg (by omega), if_neg (by omega)]
theorem cmp_add (m n k : Nat) : cmpI (m + k) (n + k) = cmpI m n := by
  rcases Nat.lt_trichotomy m n with h | h | h
  · rw [cmp_lt h, cmp_lt (by omega)]
  · rw [cmp_eq h, cmp_eq (by omega)]
  · rw [cmp_gt h, cmp_gt (by omega)]
def orderTabM (ga gb gc m n k : Nat) : List (Nat × Tmp × Sp) :=
   [(0, 74, .val (Value.bool false)),
    (1, 75, .val (Value.int IntKind.i64 (-1))),
    (2, 76, .val (Value.bool false)),
    (3, 77, .val (Value.bool true)),
    (4, 78, .val (Value.bool true)),
    (5, 79, .nat (m)),
    (6, 80, .nat (k)),
    (7, 81, .nat ((m + k))),
    (8, 82, .nat (n)),
    (9, 83, .nat (k)),
    (10, 84, .nat ((n + k))),
    (11, 85, .val (Value.int IntKind.i64 (-1))),
    (12, 86, .val (Value.int IntKind.i64 (-1))),
    (13, 87, .val (Value.bool true)),
    (14, 88, .val (Value.bool true)),
    (15, 89, .val (Value.bool true)),
    (16, 90, .val (Value.bool true)),
    (17, 91, .val (Value.bool true)),
    (18, 6, .val (Value.bool true))]
def orderTabZ (ga gb gc m n k : Nat) : List (Nat × Tmp × Sp) :=
   [(0, 74, .val (Value.bool true)),
    (1, 75, .val (Value.int IntKind.i64 0)),
    (2, 76, .val (Value.bool true)),
    (3, 77, .val (Value.bool true)),
    (4, 78, .val (Value.bool true)),
    (5, 79, .nat (m)),
    (6, 80, .nat (k)),
    (7, 81, .nat ((m + k))),
    (8, 82, .nat (n)),
    (9, 83, .nat (k)),
    (10, 84, .nat ((n + k))),
    (11, 85, .val (Value.int IntKind.i64 0)),
    (12, 86, .val (Value.int IntKind.i64 0)),
    (13, 87, .val (Value.bool true)),
    (14, 88, .val (Value.bool true)),
    (15, 89, .val (Value.bool true)),
    (16, 90, .val (Value.bool true)),
    (17, 91, .val (Value.bool true)),
    (18, 6, .val (Value.bool true))]
def orderTabP (ga gb gc m n k : Nat) : List (Nat × Tmp × Sp) :=
   [(0, 74, .val (Value.bool true)),
    (1, 75, .val (Value.int IntKind.i64 1)),
    (2, 76, .val (Value.bool true)),
    (3, 77, .val (Value.bool true)),
    (4, 78, .val (Value.bool true)),
    (5, 79, .nat (m)),
    (6, 80, .nat (k)),
    (7, 81, .nat ((m + k))),
    (8, 82, .nat (n)),
    (9, 83, .nat (k)),
    (10, 84, .nat ((n + k))),
    (11, 85, .val (Value.int IntKind.i64 1)),
    (12, 86, .val (Value.int IntKind.i64 1)),
    (13, 87, .val (Value.bool true)),
    (14, 88, .val (Value.bool true)),
    (15, 89, .val (Value.bool true)),
    (16, 90, .val (Value.bool true)),
    (17, 91, .val (Value.bool true)),
    (18, 6, .val (Value.bool true))]
set_option maxRecDepth 100000 in
set_option maxHeartbeats 4000000 in
theorem c_NaturalOrders (va : Value) (La m : Nat) (vb : Value) (Lb n : Nat) (vc : Value) (Lc k : Nat) (w : World) (ha : IsR w va La m) (hLa : La ≤ 9223372036854775807) (hb : IsR w vb Lb n) (hLb : Lb ≤ 9223372036854775807) (hc : IsR w vc Lc k) (hLc : Lc ≤ 9223372036854775807) :
    Calls Try.prog 11 #[va, vb, vc] w fun e w' => RetV w (.bool true) e w' := by
  obtain ⟨xa, ca, rfl, hca, ra⟩ := ha
  obtain ⟨xb, cb, rfl, hcb, rb⟩ := hb
  obtain ⟨xc, cc, rfl, hcc, rc⟩ := hc
  obtain ⟨k0, k1, k2, k3⟩ := box3 (L := La) (c := ca) (N := m) (L2 := Lb) (c2 := cb) (N2 := n) (L3 := Lc) (c3 := cc) (N3 := k) ⟨xa, ca, rfl, hca, ra⟩ ⟨xb, cb, rfl, hcb, rb⟩ ⟨xc, cc, rfl, hcc, rc⟩
  go_enter Try.func11, Try.ntmps11
  go_upto_region 0 with (fail)
  go_cut [3, 4, 5] (fun s3 s4 s5 wx => ∃ ga gb gc, s3 = .pointer (some ⟨ga, 0, none⟩) ∧ s4 = .pointer (some ⟨gb, 0, none⟩) ∧ s5 = .pointer (some ⟨gc, 0, none⟩) ∧ VarR wx ga La m ∧ VarR wx gb Lb n ∧ VarR wx gc Lc k ∧ Below w.heap.size w wx)
  case first =>
    go_wp2_with fail
    go_meet
    case rel => exact ⟨_, _, _, rfl, rfl, rfl, k1, k2, k3, k0⟩
  case rest =>
  obtain ⟨ga, gb, gc, rfl, rfl, rfl, Va, Vb, Vc, hb1⟩ := hcut
  clear k0 k1 k2 k3 hca ra hcb rb hcc rc
  obtain ⟨ya, da, qa, ia⟩ := Va
  have ea := qa.cell
  go_wp2_with fail
  refine (c_Few _ La m _ ia hLa).mono ?_
  rintro e w1 ⟨rfl, bb1⟩
  replace Va : VarR w1 ga La m := VarR.mono ⟨ya, da, qa, ia⟩ bb1
  replace Vb : VarR w1 gb Lb n := VarR.mono Vb bb1
  replace Vc : VarR w1 gc Lc k := VarR.mono Vc bb1
  replace hb1 := hb1.trans (bb1.mono hb1.size)
  clear ea qa ia bb1
  by_cases fa : La ≤ 12 ∧ nl m = La
  case neg =>
    rw [decide_eq_false fa]
    go_wp2_with fail
    refine (c_awake _).mono ?_
    rintro e w9 ⟨rfl, bb⟩
    go_wp2
    go_ret
    exact ⟨rfl, hb1.trans (bb.mono hb1.size)⟩
  rw [decide_eq_true fa]
  obtain ⟨yb, db, qb, ib⟩ := Vb
  have eb := qb.cell
  go_wp2_with fail
  refine (c_Few _ Lb n _ ib hLb).mono ?_
  rintro e w2 ⟨rfl, bb2⟩
  replace Va : VarR w2 ga La m := VarR.mono Va bb2
  replace Vb : VarR w2 gb Lb n := VarR.mono ⟨yb, db, qb, ib⟩ bb2
  replace Vc : VarR w2 gc Lc k := VarR.mono Vc bb2
  replace hb1 := hb1.trans (bb2.mono hb1.size)
  clear eb qb ib bb2
  by_cases fb : Lb ≤ 12 ∧ nl n = Lb
  case neg =>
    rw [decide_eq_false fb]
    go_wp2_with fail
    refine (c_awake _).mono ?_
    rintro e w9 ⟨rfl, bb⟩
    go_wp2
    go_ret
    exact ⟨rfl, hb1.trans (bb.mono hb1.size)⟩
  rw [decide_eq_true fb]
  obtain ⟨yc, dc, qc, ic⟩ := Vc
  have ec := qc.cell
  go_wp2_with fail
  refine (c_Few _ Lc k _ ic hLc).mono ?_
  rintro e w3 ⟨rfl, bb3⟩
  replace Va : VarR w3 ga La m := VarR.mono Va bb3
  replace Vb : VarR w3 gb Lb n := VarR.mono Vb bb3
  replace Vc : VarR w3 gc Lc k := VarR.mono ⟨yc, dc, qc, ic⟩ bb3
  replace hb1 := hb1.trans (bb3.mono hb1.size)
  clear ec qc ic bb3
  by_cases fc : Lc ≤ 12 ∧ nl k = Lc
  case neg =>
    rw [decide_eq_false fc]
    go_wp2_with fail
    refine (c_awake _).mono ?_
    rintro e w9 ⟨rfl, bb⟩
    go_wp2
    go_ret
    exact ⟨rfl, hb1.trans (bb.mono hb1.size)⟩
  rw [decide_eq_true fc]
  obtain ⟨fa, rfl⟩ := fa
  replace Va : VarI w3 ga m := Va
  obtain ⟨fb, rfl⟩ := fb
  replace Vb : VarI w3 gb n := Vb
  obtain ⟨fc, rfl⟩ := fc
  replace Vc : VarI w3 gc k := Vc
  have hsum : cmpI (m + k) (n + k) = cmpI m n := cmp_add m n k
  rcases Nat.lt_trichotomy m n with h | h | h
  · replace h := Lib.hid h
    have hX : cmpI m n = -1 := cmp_lt h.out
    have hX' : cmpI n m = 1 := cmp_gt h.out
    rw [hX] at hsum
    have hok : decide (n ≤ m) = false := decide_eq_false (by have := h.out; omega)
    have hse : decide (m = n) = false := decide_eq_false (by have := h.out; omega)
    obtain ⟨ya, da, qa, ia⟩ := Va
    have ea := qa.cell
    obtain ⟨yb, db, qb, ib⟩ := Vb
    have eb := qb.cell
    go_wp2_with fail
    refine (c_natural_Cmp _ _ m n _ ia ib (Nat.le_trans (nlb' (sm_nl fa) (by decide)) (by decide)) (Nat.le_trans (nlb' (sm_nl fb) (by decide)) (by decide))).mono ?_
    rintro e z1 ⟨rfl, bb1⟩
    rw [hX]
    replace Va : VarI z1 ga (m) := VarI.mono ⟨ya, da, qa, ia⟩ bb1
    replace Vb : VarI z1 gb (n) := VarI.mono ⟨yb, db, qb, ib⟩ bb1
    replace Vc : VarI z1 gc (k) := VarI.mono Vc bb1
    replace hb1 := hb1.trans (bb1.mono hb1.size)
    clear ea qa ia eb qb ib bb1
    rcases Nat.lt_trichotomy n k with h2 | h2 | h2
    · replace h2 := Lib.hid h2
      have hY : cmpI n k = -1 := cmp_lt h2.out
      obtain ⟨yb, db, qb, ib⟩ := Vb
      have eb := qb.cell
      obtain ⟨yc, dc, qc, ic⟩ := Vc
      have ec := qc.cell
      go_wp2_with fail
      refine (c_natural_Cmp _ _ n k _ ib ic (Nat.le_trans (nlb' (sm_nl fb) (by decide)) (by decide)) (Nat.le_trans (nlb' (sm_nl fc) (by decide)) (by decide))).mono ?_
      rintro e z2 ⟨rfl, bb2⟩
      rw [hY]
      replace Va : VarI z2 ga (m) := VarI.mono Va bb2
      replace Vb : VarI z2 gb (n) := VarI.mono ⟨yb, db, qb, ib⟩ bb2
      replace Vc : VarI z2 gc (k) := VarI.mono ⟨yc, dc, qc, ic⟩ bb2
      replace hb1 := hb1.trans (bb2.mono hb1.size)
      clear eb qb ib ec qc ic bb2
      obtain ⟨yb, db, qb, ib⟩ := Vb
      have eb := qb.cell
      obtain ⟨ya, da, qa, ia⟩ := Va
      have ea := qa.cell
      go_wp2_with fail
      refine (c_natural_Cmp _ _ n m _ ib ia (Nat.le_trans (nlb' (sm_nl fb) (by decide)) (by decide)) (Nat.le_trans (nlb' (sm_nl fa) (by decide)) (by decide))).mono ?_
      rintro e z3 ⟨rfl, bb3⟩
      rw [hX']
      replace Va : VarI z3 ga (m) := VarI.mono ⟨ya, da, qa, ia⟩ bb3
      replace Vb : VarI z3 gb (n) := VarI.mono ⟨yb, db, qb, ib⟩ bb3
      replace Vc : VarI z3 gc (k) := VarI.mono Vc bb3
      replace hb1 := hb1.trans (bb3.mono hb1.size)
      clear eb qb ib ea qa ia bb3
      obtain ⟨ya, da, qa, ia⟩ := Va
      have ea := qa.cell
      obtain ⟨yb, db, qb, ib⟩ := Vb
      have eb := qb.cell
      go_wp2_with fail
      refine (c_ref_Same _ _ m n _ ia ib (nlb' (sm_nl fa) (by decide)) (nlb' (sm_nl fb) (by decide))).mono ?_
      rintro e z4 ⟨rfl, bb4⟩
      rw [hse]
      replace Va : VarI z4 ga (m) := VarI.mono ⟨ya, da, qa, ia⟩ bb4
      replace Vb : VarI z4 gb (n) := VarI.mono ⟨yb, db, qb, ib⟩ bb4
      replace Vc : VarI z4 gc (k) := VarI.mono Vc bb4
      replace hb1 := hb1.trans (bb4.mono hb1.size)
      clear ea qa ia eb qb ib bb4
      have hZ : cmpI m k = -1 := cmp_lt (Nat.lt_trans h.out h2.out)
      obtain ⟨ya, da, qa, ia⟩ := Va
      have ea := qa.cell
      obtain ⟨yc, dc, qc, ic⟩ := Vc
      have ec := qc.cell
      go_wp2_with fail
      refine (c_natural_Cmp _ _ m k _ ia ic (Nat.le_trans (nlb' (sm_nl fa) (by decide)) (by decide)) (Nat.le_trans (nlb' (sm_nl fc) (by decide)) (by decide))).mono ?_
      rintro e z5 ⟨rfl, bb5⟩
      rw [hZ]
      replace Va : VarI z5 ga (m) := VarI.mono ⟨ya, da, qa, ia⟩ bb5
      replace Vb : VarI z5 gb (n) := VarI.mono Vb bb5
      replace Vc : VarI z5 gc (k) := VarI.mono ⟨yc, dc, qc, ic⟩ bb5
      replace hb1 := hb1.trans (bb5.mono hb1.size)
      clear ea qa ia ec qc ic bb5
      obtain ⟨ya, da, qa, ia⟩ := Va
      have ea := qa.cell
      obtain ⟨yb, db, qb, ib⟩ := Vb
      have eb := qb.cell
      go_wp2_with fail
      refine (c_natural_Sub _ _ m n _ ia ib (nlb' (sm_nl fa) (by decide)) (nlb' (sm_nl fb) (by decide))).mono ?_
      rintro e w9 ⟨v9, rfl, ⟨x9, c9, rfl, hc9, hx9⟩, bb⟩
      rw [show decide (n ≤ m) = false from hok]
      have b2 := bel1 w9 (.cells #[.slice x9 (nl (m - n)) c9] 24)
      have b3 := bb.trans (b2.mono bb.size)
      replace Va : VarI (w9.alloc (.cells #[.slice x9 (nl (m - n)) c9] 24)) ga (m) := VarI.mono ⟨ya, da, qa, ia⟩ b3
      replace Vb : VarI (w9.alloc (.cells #[.slice x9 (nl (m - n)) c9] 24)) gb (n) := VarI.mono ⟨yb, db, qb, ib⟩ b3
      replace Vc : VarI (w9.alloc (.cells #[.slice x9 (nl (m - n)) c9] 24)) gc (k) := VarI.mono Vc b3
      replace hb1 := hb1.trans (b3.mono hb1.size)
      clear ea qa ia eb qb ib b3
      go_upto_region 10 with (fail)
      refine wp_tab Try.f11 10 (orderTabM ga gb gc m n k) (by kernel_rfl) (by kernel_rfl) rfl (by kernel_rfl) (by kernel_rfl) ?_ ?_
      · refine ⟨fun a' w' F => ⟨_, rfl, wanted_none rfl, arm_move (.inl rfl) (F.keep 10 (Value.bool false) (by kernel_rfl) rfl).is⟩, ?_⟩
        refine ⟨fun a' w' F => ⟨_, rfl, wanted_none rfl, arm_move (.inl rfl) (F.keep 7 (Value.int IntKind.i64 (-1)) (by kernel_rfl) rfl).is⟩, ?_⟩
        refine ⟨fun a' w' F => ⟨_, rfl, wanted_none rfl, arm_bin rfl (F.at' 1 75 _ rfl (by kernel_rfl)).is Is.const (fun _ => rfl) (fun _ => rfl)⟩, ?_⟩
        refine ⟨fun a' w' F => ⟨_, rfl, wanted_none rfl, arm_bin rfl (F.at' 0 74 _ rfl (by kernel_rfl)).is (F.at' 2 76 _ rfl (by kernel_rfl)).is (fun _ => rfl) (fun _ => rfl)⟩, ?_⟩
        refine ⟨fun a' w' F => ⟨_, rfl, wanted_none rfl, arm_move (.inl rfl) (F.at' 3 77 _ rfl (by kernel_rfl)).is⟩, ?_⟩
        refine ⟨fun a' w' F => ⟨_, rfl, wanted_some rfl rfl (F.at' 4 78 _ rfl (by kernel_rfl)), arm_load rfl (F.keep 3 (Value.pointer (some ⟨ga, 0, none⟩)) (by kernel_rfl) rfl).is (Va.mono F.below)⟩, ?_⟩
        refine ⟨fun a' w' F => ⟨_, rfl, wanted_some rfl rfl (F.at' 4 78 _ rfl (by kernel_rfl)), arm_load rfl (F.keep 5 (Value.pointer (some ⟨gc, 0, none⟩)) (by kernel_rfl) rfl).is (Vc.mono F.below)⟩, ?_⟩
        refine ⟨fun a' w' F => ⟨_, rfl, wanted_some rfl rfl (F.at' 4 78 _ rfl (by kernel_rfl)), arm_Add rfl (F.at' 5 79 _ rfl (by kernel_rfl)).is (F.at' 6 80 _ rfl (by kernel_rfl)).is (nlb' (sm_nl fa) (by decide)) (nlb' (sm_nl fc) (by decide)) rfl⟩, ?_⟩
        refine ⟨fun a' w' F => ⟨_, rfl, wanted_some rfl rfl (F.at' 4 78 _ rfl (by kernel_rfl)), arm_load rfl (F.keep 4 (Value.pointer (some ⟨gb, 0, none⟩)) (by kernel_rfl) rfl).is (Vb.mono F.below)⟩, ?_⟩
        refine ⟨fun a' w' F => ⟨_, rfl, wanted_some rfl rfl (F.at' 4 78 _ rfl (by kernel_rfl)), arm_load rfl (F.keep 5 (Value.pointer (some ⟨gc, 0, none⟩)) (by kernel_rfl) rfl).is (Vc.mono F.below)⟩, ?_⟩
        refine ⟨fun a' w' F => ⟨_, rfl, wanted_some rfl rfl (F.at' 4 78 _ rfl (by kernel_rfl)), arm_Add rfl (F.at' 8 82 _ rfl (by kernel_rfl)).is (F.at' 9 83 _ rfl (by kernel_rfl)).is (nlb' (sm_nl fb) (by decide)) (nlb' (sm_nl fc) (by decide)) rfl⟩, ?_⟩
        refine ⟨fun a' w' F => ⟨_, rfl, wanted_some rfl rfl (F.at' 4 78 _ rfl (by kernel_rfl)), arm_Cmp rfl (F.at' 7 81 _ rfl (by kernel_rfl)).is (F.at' 10 84 _ rfl (by kernel_rfl)).is (nlb' (sm_add (sm_nl fa) (sm_nl fc)) (by decide)) (nlb' (sm_add (sm_nl fb) (sm_nl fc)) (by decide)) hsum⟩, ?_⟩
        refine ⟨fun a' w' F => ⟨_, rfl, wanted_some rfl rfl (F.at' 4 78 _ rfl (by kernel_rfl)), arm_move (.inl rfl) (F.keep 7 (Value.int IntKind.i64 (-1)) (by kernel_rfl) rfl).is⟩, ?_⟩
        refine ⟨fun a' w' F => ⟨_, rfl, wanted_some rfl rfl (F.at' 4 78 _ rfl (by kernel_rfl)), arm_bin rfl (F.at' 11 85 _ rfl (by kernel_rfl)).is (F.at' 12 86 _ rfl (by kernel_rfl)).is (fun _ => rfl) (fun _ => rfl)⟩, ?_⟩
        refine ⟨fun a' w' F => ⟨_, rfl, wanted_none rfl, arm_pick rfl (F.at' 4 78 _ rfl (by kernel_rfl)).is (fun _ => (F.at' 13 87 _ rfl (by kernel_rfl)).is) (fun h => by cases h)⟩, ?_⟩
        refine ⟨fun a' w' F => ⟨_, rfl, wanted_none rfl, arm_move (.inl rfl) (F.at' 14 88 _ rfl (by kernel_rfl)).is⟩, ?_⟩
        refine ⟨fun a' w' F => ⟨_, rfl, wanted_some rfl rfl (F.at' 15 89 _ rfl (by kernel_rfl)), arm_awake rfl⟩, ?_⟩
        refine ⟨fun a' w' F => ⟨_, rfl, wanted_none rfl, arm_pick rfl (F.at' 15 89 _ rfl (by kernel_rfl)).is (fun _ => (F.at' 16 90 _ rfl (by kernel_rfl)).is) (fun h => by cases h)⟩, ?_⟩
        refine ⟨fun a' w' F => ⟨_, rfl, wanted_none rfl, arm_move (.inr rfl) (F.at' 17 91 _ rfl (by kernel_rfl)).is⟩, ?_⟩
        exact trivial
      · intro a' w' F
        obtain ⟨v, h1, h2⟩ := F.at' 18 6 _ rfl
        have h3 : v = Value.bool true := h2
        subst h3
        rename_i hK
        refine hK a' w' ?_
        refine wp_ret ?_
        show bodyPost Try.prog Try.f11 (fun e w' => RetV w (.bool true) e w') .ret a' w'
        exact bodyPost_ret (res_tmp rfl h1) F.defers ⟨rfl, hb1.trans (F.below.mono hb1.size)⟩
    · replace h2 := Lib.hid h2
      have hY : cmpI n k = 0 := cmp_eq h2.out
      obtain ⟨yb, db, qb, ib⟩ := Vb
      have eb := qb.cell
      obtain ⟨yc, dc, qc, ic⟩ := Vc
      have ec := qc.cell
      go_wp2_with fail
      refine (c_natural_Cmp _ _ n k _ ib ic (Nat.le_trans (nlb' (sm_nl fb) (by decide)) (by decide)) (Nat.le_trans (nlb' (sm_nl fc) (by decide)) (by decide))).mono ?_
      rintro e z6 ⟨rfl, bb6⟩
      rw [hY]
      replace Va : VarI z6 ga (m) := VarI.mono Va bb6
      replace Vb : VarI z6 gb (n) := VarI.mono ⟨yb, db, qb, ib⟩ bb6
      replace Vc : VarI z6 gc (k) := VarI.mono ⟨yc, dc, qc, ic⟩ bb6
      replace hb1 := hb1.trans (bb6.mono hb1.size)
      clear eb qb ib ec qc ic bb6
      obtain ⟨yb, db, qb, ib⟩ := Vb
      have eb := qb.cell
      obtain ⟨ya, da, qa, ia⟩ := Va
      have ea := qa.cell
      go_wp2_with fail
      refine (c_natural_Cmp _ _ n m _ ib ia (Nat.le_trans (nlb' (sm_nl fb) (by decide)) (by decide)) (Nat.le_trans (nlb' (sm_nl fa) (by decide)) (by decide))).mono ?_
      rintro e z7 ⟨rfl, bb7⟩
      rw [hX']
      replace Va : VarI z7 ga (m) := VarI.mono ⟨ya, da, qa, ia⟩ bb7
      replace Vb : VarI z7 gb (n) := VarI.mono ⟨yb, db, qb, ib⟩ bb7
      replace Vc : VarI z7 gc (k) := VarI.mono Vc bb7
      replace hb1 := hb1.trans (bb7.mono hb1.size)
      clear eb qb ib ea qa ia bb7
      obtain ⟨ya, da, qa, ia⟩ := Va
      have ea := qa.cell
      obtain ⟨yb, db, qb, ib⟩ := Vb
      have eb := qb.cell
      go_wp2_with fail
      refine (c_ref_Same _ _ m n _ ia ib (nlb' (sm_nl fa) (by decide)) (nlb' (sm_nl fb) (by decide))).mono ?_
      rintro e z8 ⟨rfl, bb8⟩
      rw [hse]
      replace Va : VarI z8 ga (m) := VarI.mono ⟨ya, da, qa, ia⟩ bb8
      replace Vb : VarI z8 gb (n) := VarI.mono ⟨yb, db, qb, ib⟩ bb8
      replace Vc : VarI z8 gc (k) := VarI.mono Vc bb8
      replace hb1 := hb1.trans (bb8.mono hb1.size)
      clear ea qa ia eb qb ib bb8
      have hZ : cmpI m k = -1 := cmp_lt (h2.out ▸ h.out)
      obtain ⟨ya, da, qa, ia⟩ := Va
      have ea := qa.cell
      obtain ⟨yc, dc, qc, ic⟩ := Vc
      have ec := qc.cell
      go_wp2_with fail
      refine (c_natural_Cmp _ _ m k _ ia ic (Nat.le_trans (nlb' (sm_nl fa) (by decide)) (by decide)) (Nat.le_trans (nlb' (sm_nl fc) (by decide)) (by decide))).mono ?_
      rintro e z9 ⟨rfl, bb9⟩
      rw [hZ]
      replace Va : VarI z9 ga (m) := VarI.mono ⟨ya, da, qa, ia⟩ bb9
      replace Vb : VarI z9 gb (n) := VarI.mono Vb bb9
      replace Vc : VarI z9 gc (k) := VarI.mono ⟨yc, dc, qc, ic⟩ bb9
      replace hb1 := hb1.trans (bb9.mono hb1.size)
      clear ea qa ia ec qc ic bb9
      obtain ⟨ya, da, qa, ia⟩ := Va
      have ea := qa.cell
      obtain ⟨yb, db, qb, ib⟩ := Vb
      have eb := qb.cell
      go_wp2_with fail
      refine (c_natural_Sub _ _ m n _ ia ib (nlb' (sm_nl fa) (by decide)) (nlb' (sm_nl fb) (by decide))).mono ?_
      rintro e w9 ⟨v9, rfl, ⟨x9, c9, rfl, hc9, hx9⟩, bb⟩
      rw [show decide (n ≤ m) = false from hok]
      have b2 := bel1 w9 (.cells #[.slice x9 (nl (m - n)) c9] 24)
      have b3 := bb.trans (b2.mono bb.size)
      replace Va : VarI (w9.alloc (.cells #[.slice x9 (nl (m - n)) c9] 24)) ga (m) := VarI.mono ⟨ya, da, qa, ia⟩ b3
      replace Vb : VarI (w9.alloc (.cells #[.slice x9 (nl (m - n)) c9] 24)) gb (n) := VarI.mono ⟨yb, db, qb, ib⟩ b3
      replace Vc : VarI (w9.alloc (.cells #[.slice x9 (nl (m - n)) c9] 24)) gc (k) := VarI.mono Vc b3
      replace hb1 := hb1.trans (b3.mono hb1.size)
      clear ea qa ia eb qb ib b3
      go_upto_region 10 with (fail)
      refine wp_tab Try.f11 10 (orderTabM ga gb gc m n k) (by kernel_rfl) (by kernel_rfl) rfl (by kernel_rfl) (by kernel_rfl) ?_ ?_
      · refine ⟨fun a' w' F => ⟨_, rfl, wanted_none rfl, arm_move (.inl rfl) (F.keep 10 (Value.bool false) (by kernel_rfl) rfl).is⟩, ?_⟩
        refine ⟨fun a' w' F => ⟨_, rfl, wanted_none rfl, arm_move (.inl rfl) (F.keep 7 (Value.int IntKind.i64 (-1)) (by kernel_rfl) rfl).is⟩, ?_⟩
        refine ⟨fun a' w' F => ⟨_, rfl, wanted_none rfl, arm_bin rfl (F.at' 1 75 _ rfl (by kernel_rfl)).is Is.const (fun _ => rfl) (fun _ => rfl)⟩, ?_⟩
        refine ⟨fun a' w' F => ⟨_, rfl, wanted_none rfl, arm_bin rfl (F.at' 0 74 _ rfl (by kernel_rfl)).is (F.at' 2 76 _ rfl (by kernel_rfl)).is (fun _ => rfl) (fun _ => rfl)⟩, ?_⟩
        refine ⟨fun a' w' F => ⟨_, rfl, wanted_none rfl, arm_move (.inl rfl) (F.at' 3 77 _ rfl (by kernel_rfl)).is⟩, ?_⟩
        refine ⟨fun a' w' F => ⟨_, rfl, wanted_some rfl rfl (F.at' 4 78 _ rfl (by kernel_rfl)), arm_load rfl (F.keep 3 (Value.pointer (some ⟨ga, 0, none⟩)) (by kernel_rfl) rfl).is (Va.mono F.below)⟩, ?_⟩
        refine ⟨fun a' w' F => ⟨_, rfl, wanted_some rfl rfl (F.at' 4 78 _ rfl (by kernel_rfl)), arm_load rfl (F.keep 5 (Value.pointer (some ⟨gc, 0, none⟩)) (by kernel_rfl) rfl).is (Vc.mono F.below)⟩, ?_⟩
        refine ⟨fun a' w' F => ⟨_, rfl, wanted_some rfl rfl (F.at' 4 78 _ rfl (by kernel_rfl)), arm_Add rfl (F.at' 5 79 _ rfl (by kernel_rfl)).is (F.at' 6 80 _ rfl (by kernel_rfl)).is (nlb' (sm_nl fa) (by decide)) (nlb' (sm_nl fc) (by decide)) rfl⟩, ?_⟩
        refine ⟨fun a' w' F => ⟨_, rfl, wanted_some rfl rfl (F.at' 4 78 _ rfl (by kernel_rfl)), arm_load rfl (F.keep 4 (Value.pointer (some ⟨gb, 0, none⟩)) (by kernel_rfl) rfl).is (Vb.mono F.below)⟩, ?_⟩
        refine ⟨fun a' w' F => ⟨_, rfl, wanted_some rfl rfl (F.at' 4 78 _ rfl (by kernel_rfl)), arm_load rfl (F.keep 5 (Value.pointer (some ⟨gc, 0, none⟩)) (by kernel_rfl) rfl).is (Vc.mono F.below)⟩, ?_⟩
        refine ⟨fun a' w' F => ⟨_, rfl, wanted_some rfl rfl (F.at' 4 78 _ rfl (by kernel_rfl)), arm_Add rfl (F.at' 8 82 _ rfl (by kernel_rfl)).is (F.at' 9 83 _ rfl (by kernel_rfl)).is (nlb' (sm_nl fb) (by decide)) (nlb' (sm_nl fc) (by decide)) rfl⟩, ?_⟩
        refine ⟨fun a' w' F => ⟨_, rfl, wanted_some rfl rfl (F.at' 4 78 _ rfl (by kernel_rfl)), arm_Cmp rfl (F.at' 7 81 _ rfl (by kernel_rfl)).is (F.at' 10 84 _ rfl (by kernel_rfl)).is (nlb' (sm_add (sm_nl fa) (sm_nl fc)) (by decide)) (nlb' (sm_add (sm_nl fb) (sm_nl fc)) (by decide)) hsum⟩, ?_⟩
        refine ⟨fun a' w' F => ⟨_, rfl, wanted_some rfl rfl (F.at' 4 78 _ rfl (by kernel_rfl)), arm_move (.inl rfl) (F.keep 7 (Value.int IntKind.i64 (-1)) (by kernel_rfl) rfl).is⟩, ?_⟩
        refine ⟨fun a' w' F => ⟨_, rfl, wanted_some rfl rfl (F.at' 4 78 _ rfl (by kernel_rfl)), arm_bin rfl (F.at' 11 85 _ rfl (by kernel_rfl)).is (F.at' 12 86 _ rfl (by kernel_rfl)).is (fun _ => rfl) (fun _ => rfl)⟩, ?_⟩
        refine ⟨fun a' w' F => ⟨_, rfl, wanted_none rfl, arm_pick rfl (F.at' 4 78 _ rfl (by kernel_rfl)).is (fun _ => (F.at' 13 87 _ rfl (by kernel_rfl)).is) (fun h => by cases h)⟩, ?_⟩
        refine ⟨fun a' w' F => ⟨_, rfl, wanted_none rfl, arm_move (.inl rfl) (F.at' 14 88 _ rfl (by kernel_rfl)).is⟩, ?_⟩
        refine ⟨fun a' w' F => ⟨_, rfl, wanted_some rfl rfl (F.at' 15 89 _ rfl (by kernel_rfl)), arm_awake rfl⟩, ?_⟩
        refine ⟨fun a' w' F => ⟨_, rfl, wanted_none rfl, arm_pick rfl (F.at' 15 89 _ rfl (by kernel_rfl)).is (fun _ => (F.at' 16 90 _ rfl (by kernel_rfl)).is) (fun h => by cases h)⟩, ?_⟩
        refine ⟨fun a' w' F => ⟨_, rfl, wanted_none rfl, arm_move (.inr rfl) (F.at' 17 91 _ rfl (by kernel_rfl)).is⟩, ?_⟩
        exact trivial
      · intro a' w' F
        obtain ⟨v, h1, h2⟩ := F.at' 18 6 _ rfl
        have h3 : v = Value.bool true := h2
        subst h3
        rename_i hK
        refine hK a' w' ?_
        refine wp_ret ?_
        show bodyPost Try.prog Try.f11 (fun e w' => RetV w (.bool true) e w') .ret a' w'
        exact bodyPost_ret (res_tmp rfl h1) F.defers ⟨rfl, hb1.trans (F.below.mono hb1.size)⟩
    · replace h2 := Lib.hid h2
      have hY : cmpI n k = 1 := cmp_gt h2.out
      obtain ⟨yb, db, qb, ib⟩ := Vb
      have eb := qb.cell
      obtain ⟨yc, dc, qc, ic⟩ := Vc
      have ec := qc.cell
      go_wp2_with fail
      refine (c_natural_Cmp _ _ n k _ ib ic (Nat.le_trans (nlb' (sm_nl fb) (by decide)) (by decide)) (Nat.le_trans (nlb' (sm_nl fc) (by decide)) (by decide))).mono ?_
      rintro e z10 ⟨rfl, bb10⟩
      rw [hY]
      replace Va : VarI z10 ga (m) := VarI.mono Va bb10
      replace Vb : VarI z10 gb (n) := VarI.mono ⟨yb, db, qb, ib⟩ bb10
      replace Vc : VarI z10 gc (k) := VarI.mono ⟨yc, dc, qc, ic⟩ bb10
      replace hb1 := hb1.trans (bb10.mono hb1.size)
      clear eb qb ib ec qc ic bb10
      obtain ⟨yb, db, qb, ib⟩ := Vb
      have eb := qb.cell
      obtain ⟨ya, da, qa, ia⟩ := Va
      have ea := qa.cell
      go_wp2_with fail
      refine (c_natural_Cmp _ _ n m _ ib ia (Nat.le_trans (nlb' (sm_nl fb) (by decide)) (by decide)) (Nat.le_trans (nlb' (sm_nl fa) (by decide)) (by decide))).mono ?_
      rintro e z11 ⟨rfl, bb11⟩
      rw [hX']
      replace Va : VarI z11 ga (m) := VarI.mono ⟨ya, da, qa, ia⟩ bb11
      replace Vb : VarI z11 gb (n) := VarI.mono ⟨yb, db, qb, ib⟩ bb11
      replace Vc : VarI z11 gc (k) := VarI.mono Vc bb11
      replace hb1 := hb1.trans (bb11.mono hb1.size)
      clear eb qb ib ea qa ia bb11
      obtain ⟨ya, da, qa, ia⟩ := Va
      have ea := qa.cell
      obtain ⟨yb, db, qb, ib⟩ := Vb
      have eb := qb.cell
      go_wp2_with fail
      refine (c_ref_Same _ _ m n _ ia ib (nlb' (sm_nl fa) (by decide)) (nlb' (sm_nl fb) (by decide))).mono ?_
      rintro e z12 ⟨rfl, bb12⟩
      rw [hse]
      replace Va : VarI z12 ga (m) := VarI.mono ⟨ya, da, qa, ia⟩ bb12
      replace Vb : VarI z12 gb (n) := VarI.mono ⟨yb, db, qb, ib⟩ bb12
      replace Vc : VarI z12 gc (k) := VarI.mono Vc bb12
      replace hb1 := hb1.trans (bb12.mono hb1.size)
      clear ea qa ia eb qb ib bb12
      obtain ⟨ya, da, qa, ia⟩ := Va
      have ea := qa.cell
      obtain ⟨yb, db, qb, ib⟩ := Vb
      have eb := qb.cell
      go_wp2_with fail
      refine (c_natural_Sub _ _ m n _ ia ib (nlb' (sm_nl fa) (by decide)) (nlb' (sm_nl fb) (by decide))).mono ?_
      rintro e w9 ⟨v9, rfl, ⟨x9, c9, rfl, hc9, hx9⟩, bb⟩
      rw [show decide (n ≤ m) = false from hok]
      have b2 := bel1 w9 (.cells #[.slice x9 (nl (m - n)) c9] 24)
      have b3 := bb.trans (b2.mono bb.size)
      replace Va : VarI (w9.alloc (.cells #[.slice x9 (nl (m - n)) c9] 24)) ga (m) := VarI.mono ⟨ya, da, qa, ia⟩ b3
      replace Vb : VarI (w9.alloc (.cells #[.slice x9 (nl (m - n)) c9] 24)) gb (n) := VarI.mono ⟨yb, db, qb, ib⟩ b3
      replace Vc : VarI (w9.alloc (.cells #[.slice x9 (nl (m - n)) c9] 24)) gc (k) := VarI.mono Vc b3
      replace hb1 := hb1.trans (b3.mono hb1.size)
      clear ea qa ia eb qb ib b3
      go_upto_region 10 with (fail)
      refine wp_tab Try.f11 10 (orderTabM ga gb gc m n k) (by kernel_rfl) (by kernel_rfl) rfl (by kernel_rfl) (by kernel_rfl) ?_ ?_
      · refine ⟨fun a' w' F => ⟨_, rfl, wanted_none rfl, arm_move (.inl rfl) (F.keep 10 (Value.bool false) (by kernel_rfl) rfl).is⟩, ?_⟩
        refine ⟨fun a' w' F => ⟨_, rfl, wanted_none rfl, arm_move (.inl rfl) (F.keep 7 (Value.int IntKind.i64 (-1)) (by kernel_rfl) rfl).is⟩, ?_⟩
        refine ⟨fun a' w' F => ⟨_, rfl, wanted_none rfl, arm_bin rfl (F.at' 1 75 _ rfl (by kernel_rfl)).is Is.const (fun _ => rfl) (fun _ => rfl)⟩, ?_⟩
        refine ⟨fun a' w' F => ⟨_, rfl, wanted_none rfl, arm_bin rfl (F.at' 0 74 _ rfl (by kernel_rfl)).is (F.at' 2 76 _ rfl (by kernel_rfl)).is (fun _ => rfl) (fun _ => rfl)⟩, ?_⟩
        refine ⟨fun a' w' F => ⟨_, rfl, wanted_none rfl, arm_move (.inl rfl) (F.at' 3 77 _ rfl (by kernel_rfl)).is⟩, ?_⟩
        refine ⟨fun a' w' F => ⟨_, rfl, wanted_some rfl rfl (F.at' 4 78 _ rfl (by kernel_rfl)), arm_load rfl (F.keep 3 (Value.pointer (some ⟨ga, 0, none⟩)) (by kernel_rfl) rfl).is (Va.mono F.below)⟩, ?_⟩
        refine ⟨fun a' w' F => ⟨_, rfl, wanted_some rfl rfl (F.at' 4 78 _ rfl (by kernel_rfl)), arm_load rfl (F.keep 5 (Value.pointer (some ⟨gc, 0, none⟩)) (by kernel_rfl) rfl).is (Vc.mono F.below)⟩, ?_⟩
        refine ⟨fun a' w' F => ⟨_, rfl, wanted_some rfl rfl (F.at' 4 78 _ rfl (by kernel_rfl)), arm_Add rfl (F.at' 5 79 _ rfl (by kernel_rfl)).is (F.at' 6 80 _ rfl (by kernel_rfl)).is (nlb' (sm_nl fa) (by decide)) (nlb' (sm_nl fc) (by decide)) rfl⟩, ?_⟩
        refine ⟨fun a' w' F => ⟨_, rfl, wanted_some rfl rfl (F.at' 4 78 _ rfl (by kernel_rfl)), arm_load rfl (F.keep 4 (Value.pointer (some ⟨gb, 0, none⟩)) (by kernel_rfl) rfl).is (Vb.mono F.below)⟩, ?_⟩
        refine ⟨fun a' w' F => ⟨_, rfl, wanted_some rfl rfl (F.at' 4 78 _ rfl (by kernel_rfl)), arm_load rfl (F.keep 5 (Value.pointer (some ⟨gc, 0, none⟩)) (by kernel_rfl) rfl).is (Vc.mono F.below)⟩, ?_⟩
        refine ⟨fun a' w' F => ⟨_, rfl, wanted_some rfl rfl (F.at' 4 78 _ rfl (by kernel_rfl)), arm_Add rfl (F.at' 8 82 _ rfl (by kernel_rfl)).is (F.at' 9 83 _ rfl (by kernel_rfl)).is (nlb' (sm_nl fb) (by decide)) (nlb' (sm_nl fc) (by decide)) rfl⟩, ?_⟩
        refine ⟨fun a' w' F => ⟨_, rfl, wanted_some rfl rfl (F.at' 4 78 _ rfl (by kernel_rfl)), arm_Cmp rfl (F.at' 7 81 _ rfl (by kernel_rfl)).is (F.at' 10 84 _ rfl (by kernel_rfl)).is (nlb' (sm_add (sm_nl fa) (sm_nl fc)) (by decide)) (nlb' (sm_add (sm_nl fb) (sm_nl fc)) (by decide)) hsum⟩, ?_⟩
        refine ⟨fun a' w' F => ⟨_, rfl, wanted_some rfl rfl (F.at' 4 78 _ rfl (by kernel_rfl)), arm_move (.inl rfl) (F.keep 7 (Value.int IntKind.i64 (-1)) (by kernel_rfl) rfl).is⟩, ?_⟩
        refine ⟨fun a' w' F => ⟨_, rfl, wanted_some rfl rfl (F.at' 4 78 _ rfl (by kernel_rfl)), arm_bin rfl (F.at' 11 85 _ rfl (by kernel_rfl)).is (F.at' 12 86 _ rfl (by kernel_rfl)).is (fun _ => rfl) (fun _ => rfl)⟩, ?_⟩
        refine ⟨fun a' w' F => ⟨_, rfl, wanted_none rfl, arm_pick rfl (F.at' 4 78 _ rfl (by kernel_rfl)).is (fun _ => (F.at' 13 87 _ rfl (by kernel_rfl)).is) (fun h => by cases h)⟩, ?_⟩
        refine ⟨fun a' w' F => ⟨_, rfl, wanted_none rfl, arm_move (.inl rfl) (F.at' 14 88 _ rfl (by kernel_rfl)).is⟩, ?_⟩
        refine ⟨fun a' w' F => ⟨_, rfl, wanted_some rfl rfl (F.at' 15 89 _ rfl (by kernel_rfl)), arm_awake rfl⟩, ?_⟩
        refine ⟨fun a' w' F => ⟨_, rfl, wanted_none rfl, arm_pick rfl (F.at' 15 89 _ rfl (by kernel_rfl)).is (fun _ => (F.at' 16 90 _ rfl (by kernel_rfl)).is) (fun h => by cases h)⟩, ?_⟩
        refine ⟨fun a' w' F => ⟨_, rfl, wanted_none rfl, arm_move (.inr rfl) (F.at' 17 91 _ rfl (by kernel_rfl)).is⟩, ?_⟩
        exact trivial
      · intro a' w' F
        obtain ⟨v, h1, h2⟩ := F.at' 18 6 _ rfl
        have h3 : v = Value.bool true := h2
        subst h3
        rename_i hK
        refine hK a' w' ?_
        refine wp_ret ?_
        show bodyPost Try.prog Try.f11 (fun e w' => RetV w (.bool true) e w') .ret a' w'
        exact bodyPost_ret (res_tmp rfl h1) F.defers ⟨rfl, hb1.trans (F.below.mono hb1.size)⟩
  · replace h := Lib.hid h
    have hX : cmpI m n = 0 := cmp_eq h.out
    have hX' : cmpI n m = 0 := cmp_eq h.out.symm
    rw [hX] at hsum
    have hok : decide (n ≤ m) = true := decide_eq_true (by have := h.out; omega)
    have hse : decide (m = n) = true := decide_eq_true h.out
    obtain ⟨ya, da, qa, ia⟩ := Va
    have ea := qa.cell
    obtain ⟨yb, db, qb, ib⟩ := Vb
    have eb := qb.cell
    go_wp2_with fail
    refine (c_natural_Cmp _ _ m n _ ia ib (Nat.le_trans (nlb' (sm_nl fa) (by decide)) (by decide)) (Nat.le_trans (nlb' (sm_nl fb) (by decide)) (by decide))).mono ?_
    rintro e z13 ⟨rfl, bb13⟩
    rw [hX]
    replace Va : VarI z13 ga (m) := VarI.mono ⟨ya, da, qa, ia⟩ bb13
    replace Vb : VarI z13 gb (n) := VarI.mono ⟨yb, db, qb, ib⟩ bb13
    replace Vc : VarI z13 gc (k) := VarI.mono Vc bb13
    replace hb1 := hb1.trans (bb13.mono hb1.size)
    clear ea qa ia eb qb ib bb13
    rcases Nat.lt_trichotomy n k with h2 | h2 | h2
    · replace h2 := Lib.hid h2
      have hY : cmpI n k = -1 := cmp_lt h2.out
      obtain ⟨yb, db, qb, ib⟩ := Vb
      have eb := qb.cell
      obtain ⟨yc, dc, qc, ic⟩ := Vc
      have ec := qc.cell
      go_wp2_with fail
      refine (c_natural_Cmp _ _ n k _ ib ic (Nat.le_trans (nlb' (sm_nl fb) (by decide)) (by decide)) (Nat.le_trans (nlb' (sm_nl fc) (by decide)) (by decide))).mono ?_
      rintro e z14 ⟨rfl, bb14⟩
      rw [hY]
      replace Va : VarI z14 ga (m) := VarI.mono Va bb14
      replace Vb : VarI z14 gb (n) := VarI.mono ⟨yb, db, qb, ib⟩ bb14
      replace Vc : VarI z14 gc (k) := VarI.mono ⟨yc, dc, qc, ic⟩ bb14
      replace hb1 := hb1.trans (bb14.mono hb1.size)
      clear eb qb ib ec qc ic bb14
      obtain ⟨yb, db, qb, ib⟩ := Vb
      have eb := qb.cell
      obtain ⟨ya, da, qa, ia⟩ := Va
      have ea := qa.cell
      go_wp2_with fail
      refine (c_natural_Cmp _ _ n m _ ib ia (Nat.le_trans (nlb' (sm_nl fb) (by decide)) (by decide)) (Nat.le_trans (nlb' (sm_nl fa) (by decide)) (by decide))).mono ?_
      rintro e z15 ⟨rfl, bb15⟩
      rw [hX']
      replace Va : VarI z15 ga (m) := VarI.mono ⟨ya, da, qa, ia⟩ bb15
      replace Vb : VarI z15 gb (n) := VarI.mono ⟨yb, db, qb, ib⟩ bb15
      replace Vc : VarI z15 gc (k) := VarI.mono Vc bb15
      replace hb1 := hb1.trans (bb15.mono hb1.size)
      clear eb qb ib ea qa ia bb15
      obtain ⟨ya, da, qa, ia⟩ := Va
      have ea := qa.cell
      obtain ⟨yb, db, qb, ib⟩ := Vb
      have eb := qb.cell
      go_wp2_with fail
      refine (c_ref_Same _ _ m n _ ia ib (nlb' (sm_nl fa) (by decide)) (nlb' (sm_nl fb) (by decide))).mono ?_
      rintro e z16 ⟨rfl, bb16⟩
      rw [hse]
      replace Va : VarI z16 ga (m) := VarI.mono ⟨ya, da, qa, ia⟩ bb16
      replace Vb : VarI z16 gb (n) := VarI.mono ⟨yb, db, qb, ib⟩ bb16
      replace Vc : VarI z16 gc (k) := VarI.mono Vc bb16
      replace hb1 := hb1.trans (bb16.mono hb1.size)
      clear ea qa ia eb qb ib bb16
      have hZ : cmpI m k = -1 := cmp_lt (by rw [h.out]; exact h2.out)
      obtain ⟨ya, da, qa, ia⟩ := Va
      have ea := qa.cell
      obtain ⟨yc, dc, qc, ic⟩ := Vc
      have ec := qc.cell
      go_wp2_with fail
      refine (c_natural_Cmp _ _ m k _ ia ic (Nat.le_trans (nlb' (sm_nl fa) (by decide)) (by decide)) (Nat.le_trans (nlb' (sm_nl fc) (by decide)) (by decide))).mono ?_
      rintro e z17 ⟨rfl, bb17⟩
      rw [hZ]
      replace Va : VarI z17 ga (m) := VarI.mono ⟨ya, da, qa, ia⟩ bb17
      replace Vb : VarI z17 gb (n) := VarI.mono Vb bb17
      replace Vc : VarI z17 gc (k) := VarI.mono ⟨yc, dc, qc, ic⟩ bb17
      replace hb1 := hb1.trans (bb17.mono hb1.size)
      clear ea qa ia ec qc ic bb17
      obtain ⟨ya, da, qa, ia⟩ := Va
      have ea := qa.cell
      obtain ⟨yb, db, qb, ib⟩ := Vb
      have eb := qb.cell
      go_wp2_with fail
      refine (c_natural_Sub _ _ m n _ ia ib (nlb' (sm_nl fa) (by decide)) (nlb' (sm_nl fb) (by decide))).mono ?_
      rintro e w9 ⟨v9, rfl, ⟨x9, c9, rfl, hc9, hx9⟩, bb⟩
      rw [show decide (n ≤ m) = true from hok]
      have b2 := bel1 w9 (.cells #[.slice x9 (nl (m - n)) c9] 24)
      have b3 := bb.trans (b2.mono bb.size)
      replace Va : VarI (w9.alloc (.cells #[.slice x9 (nl (m - n)) c9] 24)) ga (m) := VarI.mono ⟨ya, da, qa, ia⟩ b3
      replace Vb : VarI (w9.alloc (.cells #[.slice x9 (nl (m - n)) c9] 24)) gb (n) := VarI.mono ⟨yb, db, qb, ib⟩ b3
      replace Vc : VarI (w9.alloc (.cells #[.slice x9 (nl (m - n)) c9] 24)) gc (k) := VarI.mono Vc b3
      replace hb1 := hb1.trans (b3.mono hb1.size)
      clear ea qa ia eb qb ib b3
      go_upto_region 10 with (fail)
      refine wp_tab Try.f11 10 (orderTabZ ga gb gc m n k) (by kernel_rfl) (by kernel_rfl) rfl (by kernel_rfl) (by kernel_rfl) ?_ ?_
      · refine ⟨fun a' w' F => ⟨_, rfl, wanted_none rfl, arm_move (.inl rfl) (F.keep 10 (Value.bool true) (by kernel_rfl) rfl).is⟩, ?_⟩
        refine ⟨fun a' w' F => ⟨_, rfl, wanted_none rfl, arm_move (.inl rfl) (F.keep 7 (Value.int IntKind.i64 0) (by kernel_rfl) rfl).is⟩, ?_⟩
        refine ⟨fun a' w' F => ⟨_, rfl, wanted_none rfl, arm_bin rfl (F.at' 1 75 _ rfl (by kernel_rfl)).is Is.const (fun _ => rfl) (fun _ => rfl)⟩, ?_⟩
        refine ⟨fun a' w' F => ⟨_, rfl, wanted_none rfl, arm_bin rfl (F.at' 0 74 _ rfl (by kernel_rfl)).is (F.at' 2 76 _ rfl (by kernel_rfl)).is (fun _ => rfl) (fun _ => rfl)⟩, ?_⟩
        refine ⟨fun a' w' F => ⟨_, rfl, wanted_none rfl, arm_move (.inl rfl) (F.at' 3 77 _ rfl (by kernel_rfl)).is⟩, ?_⟩
        refine ⟨fun a' w' F => ⟨_, rfl, wanted_some rfl rfl (F.at' 4 78 _ rfl (by kernel_rfl)), arm_load rfl (F.keep 3 (Value.pointer (some ⟨ga, 0, none⟩)) (by kernel_rfl) rfl).is (Va.mono F.below)⟩, ?_⟩
        refine ⟨fun a' w' F => ⟨_, rfl, wanted_some rfl rfl (F.at' 4 78 _ rfl (by kernel_rfl)), arm_load rfl (F.keep 5 (Value.pointer (some ⟨gc, 0, none⟩)) (by kernel_rfl) rfl).is (Vc.mono F.below)⟩, ?_⟩
        refine ⟨fun a' w' F => ⟨_, rfl, wanted_some rfl rfl (F.at' 4 78 _ rfl (by kernel_rfl)), arm_Add rfl (F.at' 5 79 _ rfl (by kernel_rfl)).is (F.at' 6 80 _ rfl (by kernel_rfl)).is (nlb' (sm_nl fa) (by decide)) (nlb' (sm_nl fc) (by decide)) rfl⟩, ?_⟩
        refine ⟨fun a' w' F => ⟨_, rfl, wanted_some rfl rfl (F.at' 4 78 _ rfl (by kernel_rfl)), arm_load rfl (F.keep 4 (Value.pointer (some ⟨gb, 0, none⟩)) (by kernel_rfl) rfl).is (Vb.mono F.below)⟩, ?_⟩
        refine ⟨fun a' w' F => ⟨_, rfl, wanted_some rfl rfl (F.at' 4 78 _ rfl (by kernel_rfl)), arm_load rfl (F.keep 5 (Value.pointer (some ⟨gc, 0, none⟩)) (by kernel_rfl) rfl).is (Vc.mono F.below)⟩, ?_⟩
        refine ⟨fun a' w' F => ⟨_, rfl, wanted_some rfl rfl (F.at' 4 78 _ rfl (by kernel_rfl)), arm_Add rfl (F.at' 8 82 _ rfl (by kernel_rfl)).is (F.at' 9 83 _ rfl (by kernel_rfl)).is (nlb' (sm_nl fb) (by decide)) (nlb' (sm_nl fc) (by decide)) rfl⟩, ?_⟩
        refine ⟨fun a' w' F => ⟨_, rfl, wanted_some rfl rfl (F.at' 4 78 _ rfl (by kernel_rfl)), arm_Cmp rfl (F.at' 7 81 _ rfl (by kernel_rfl)).is (F.at' 10 84 _ rfl (by kernel_rfl)).is (nlb' (sm_add (sm_nl fa) (sm_nl fc)) (by decide)) (nlb' (sm_add (sm_nl fb) (sm_nl fc)) (by decide)) hsum⟩, ?_⟩
        refine ⟨fun a' w' F => ⟨_, rfl, wanted_some rfl rfl (F.at' 4 78 _ rfl (by kernel_rfl)), arm_move (.inl rfl) (F.keep 7 (Value.int IntKind.i64 0) (by kernel_rfl) rfl).is⟩, ?_⟩
        refine ⟨fun a' w' F => ⟨_, rfl, wanted_some rfl rfl (F.at' 4 78 _ rfl (by kernel_rfl)), arm_bin rfl (F.at' 11 85 _ rfl (by kernel_rfl)).is (F.at' 12 86 _ rfl (by kernel_rfl)).is (fun _ => rfl) (fun _ => rfl)⟩, ?_⟩
        refine ⟨fun a' w' F => ⟨_, rfl, wanted_none rfl, arm_pick rfl (F.at' 4 78 _ rfl (by kernel_rfl)).is (fun _ => (F.at' 13 87 _ rfl (by kernel_rfl)).is) (fun h => by cases h)⟩, ?_⟩
        refine ⟨fun a' w' F => ⟨_, rfl, wanted_none rfl, arm_move (.inl rfl) (F.at' 14 88 _ rfl (by kernel_rfl)).is⟩, ?_⟩
        refine ⟨fun a' w' F => ⟨_, rfl, wanted_some rfl rfl (F.at' 15 89 _ rfl (by kernel_rfl)), arm_awake rfl⟩, ?_⟩
        refine ⟨fun a' w' F => ⟨_, rfl, wanted_none rfl, arm_pick rfl (F.at' 15 89 _ rfl (by kernel_rfl)).is (fun _ => (F.at' 16 90 _ rfl (by kernel_rfl)).is) (fun h => by cases h)⟩, ?_⟩
        refine ⟨fun a' w' F => ⟨_, rfl, wanted_none rfl, arm_move (.inr rfl) (F.at' 17 91 _ rfl (by kernel_rfl)).is⟩, ?_⟩
        exact trivial
      · intro a' w' F
        obtain ⟨v, h1, h2⟩ := F.at' 18 6 _ rfl
        have h3 : v = Value.bool true := h2
        subst h3
        rename_i hK
        refine hK a' w' ?_
        refine wp_ret ?_
        show bodyPost Try.prog Try.f11 (fun e w' => RetV w (.bool true) e w') .ret a' w'
        exact bodyPost_ret (res_tmp rfl h1) F.defers ⟨rfl, hb1.trans (F.below.mono hb1.size)⟩
    · replace h2 := Lib.hid h2
      have hY : cmpI n k = 0 := cmp_eq h2.out
      obtain ⟨yb, db, qb, ib⟩ := Vb
      have eb := qb.cell
      obtain ⟨yc, dc, qc, ic⟩ := Vc
      have ec := qc.cell
      go_wp2_with fail
      refine (c_natural_Cmp _ _ n k _ ib ic (Nat.le_trans (nlb' (sm_nl fb) (by decide)) (by decide)) (Nat.le_trans (nlb' (sm_nl fc) (by decide)) (by decide))).mono ?_
      rintro e z18 ⟨rfl, bb18⟩
      rw [hY]
      replace Va : VarI z18 ga (m) := VarI.mono Va bb18
      replace Vb : VarI z18 gb (n) := VarI.mono ⟨yb, db, qb, ib⟩ bb18
      replace Vc : VarI z18 gc (k) := VarI.mono ⟨yc, dc, qc, ic⟩ bb18
      replace hb1 := hb1.trans (bb18.mono hb1.size)
      clear eb qb ib ec qc ic bb18
      obtain ⟨yb, db, qb, ib⟩ := Vb
      have eb := qb.cell
      obtain ⟨ya, da, qa, ia⟩ := Va
      have ea := qa.cell
      go_wp2_with fail
      refine (c_natural_Cmp _ _ n m _ ib ia (Nat.le_trans (nlb' (sm_nl fb) (by decide)) (by decide)) (Nat.le_trans (nlb' (sm_nl fa) (by decide)) (by decide))).mono ?_
      rintro e z19 ⟨rfl, bb19⟩
      rw [hX']
      replace Va : VarI z19 ga (m) := VarI.mono ⟨ya, da, qa, ia⟩ bb19
      replace Vb : VarI z19 gb (n) := VarI.mono ⟨yb, db, qb, ib⟩ bb19
      replace Vc : VarI z19 gc (k) := VarI.mono Vc bb19
      replace hb1 := hb1.trans (bb19.mono hb1.size)
      clear eb qb ib ea qa ia bb19
      obtain ⟨ya, da, qa, ia⟩ := Va
      have ea := qa.cell
      obtain ⟨yb, db, qb, ib⟩ := Vb
      have eb := qb.cell
      go_wp2_with fail
      refine (c_ref_Same _ _ m n _ ia ib (nlb' (sm_nl fa) (by decide)) (nlb' (sm_nl fb) (by decide))).mono ?_
      rintro e z20 ⟨rfl, bb20⟩
      rw [hse]
      replace Va : VarI z20 ga (m) := VarI.mono ⟨ya, da, qa, ia⟩ bb20
      replace Vb : VarI z20 gb (n) := VarI.mono ⟨yb, db, qb, ib⟩ bb20
      replace Vc : VarI z20 gc (k) := VarI.mono Vc bb20
      replace hb1 := hb1.trans (bb20.mono hb1.size)
      clear ea qa ia eb qb ib bb20
      have hZ : cmpI m k = 0 := cmp_eq (h.out.trans h2.out)
      obtain ⟨ya, da, qa, ia⟩ := Va
      have ea := qa.cell
      obtain ⟨yc, dc, qc, ic⟩ := Vc
      have ec := qc.cell
      go_wp2_with fail
      refine (c_natural_Cmp _ _ m k _ ia ic (Nat.le_trans (nlb' (sm_nl fa) (by decide)) (by decide)) (Nat.le_trans (nlb' (sm_nl fc) (by decide)) (by decide))).mono ?_
      rintro e z21 ⟨rfl, bb21⟩
      rw [hZ]
      replace Va : VarI z21 ga (m) := VarI.mono ⟨ya, da, qa, ia⟩ bb21
      replace Vb : VarI z21 gb (n) := VarI.mono Vb bb21
      replace Vc : VarI z21 gc (k) := VarI.mono ⟨yc, dc, qc, ic⟩ bb21
      replace hb1 := hb1.trans (bb21.mono hb1.size)
      clear ea qa ia ec qc ic bb21
      obtain ⟨ya, da, qa, ia⟩ := Va
      have ea := qa.cell
      obtain ⟨yb, db, qb, ib⟩ := Vb
      have eb := qb.cell
      go_wp2_with fail
      refine (c_natural_Sub _ _ m n _ ia ib (nlb' (sm_nl fa) (by decide)) (nlb' (sm_nl fb) (by decide))).mono ?_
      rintro e w9 ⟨v9, rfl, ⟨x9, c9, rfl, hc9, hx9⟩, bb⟩
      rw [show decide (n ≤ m) = true from hok]
      have b2 := bel1 w9 (.cells #[.slice x9 (nl (m - n)) c9] 24)
      have b3 := bb.trans (b2.mono bb.size)
      replace Va : VarI (w9.alloc (.cells #[.slice x9 (nl (m - n)) c9] 24)) ga (m) := VarI.mono ⟨ya, da, qa, ia⟩ b3
      replace Vb : VarI (w9.alloc (.cells #[.slice x9 (nl (m - n)) c9] 24)) gb (n) := VarI.mono ⟨yb, db, qb, ib⟩ b3
      replace Vc : VarI (w9.alloc (.cells #[.slice x9 (nl (m - n)) c9] 24)) gc (k) := VarI.mono Vc b3
      replace hb1 := hb1.trans (b3.mono hb1.size)
      clear ea qa ia eb qb ib b3
      go_upto_region 10 with (fail)
      refine wp_tab Try.f11 10 (orderTabZ ga gb gc m n k) (by kernel_rfl) (by kernel_rfl) rfl (by kernel_rfl) (by kernel_rfl) ?_ ?_
      · refine ⟨fun a' w' F => ⟨_, rfl, wanted_none rfl, arm_move (.inl rfl) (F.keep 10 (Value.bool true) (by kernel_rfl) rfl).is⟩, ?_⟩
        refine ⟨fun a' w' F => ⟨_, rfl, wanted_none rfl, arm_move (.inl rfl) (F.keep 7 (Value.int IntKind.i64 0) (by kernel_rfl) rfl).is⟩, ?_⟩
        refine ⟨fun a' w' F => ⟨_, rfl, wanted_none rfl, arm_bin rfl (F.at' 1 75 _ rfl (by kernel_rfl)).is Is.const (fun _ => rfl) (fun _ => rfl)⟩, ?_⟩
        refine ⟨fun a' w' F => ⟨_, rfl, wanted_none rfl, arm_bin rfl (F.at' 0 74 _ rfl (by kernel_rfl)).is (F.at' 2 76 _ rfl (by kernel_rfl)).is (fun _ => rfl) (fun _ => rfl)⟩, ?_⟩
        refine ⟨fun a' w' F => ⟨_, rfl, wanted_none rfl, arm_move (.inl rfl) (F.at' 3 77 _ rfl (by kernel_rfl)).is⟩, ?_⟩
        refine ⟨fun a' w' F => ⟨_, rfl, wanted_some rfl rfl (F.at' 4 78 _ rfl (by kernel_rfl)), arm_load rfl (F.keep 3 (Value.pointer (some ⟨ga, 0, none⟩)) (by kernel_rfl) rfl).is (Va.mono F.below)⟩, ?_⟩
        refine ⟨fun a' w' F => ⟨_, rfl, wanted_some rfl rfl (F.at' 4 78 _ rfl (by kernel_rfl)), arm_load rfl (F.keep 5 (Value.pointer (some ⟨gc, 0, none⟩)) (by kernel_rfl) rfl).is (Vc.mono F.below)⟩, ?_⟩
        refine ⟨fun a' w' F => ⟨_, rfl, wanted_some rfl rfl (F.at' 4 78 _ rfl (by kernel_rfl)), arm_Add rfl (F.at' 5 79 _ rfl (by kernel_rfl)).is (F.at' 6 80 _ rfl (by kernel_rfl)).is (nlb' (sm_nl fa) (by decide)) (nlb' (sm_nl fc) (by decide)) rfl⟩, ?_⟩
        refine ⟨fun a' w' F => ⟨_, rfl, wanted_some rfl rfl (F.at' 4 78 _ rfl (by kernel_rfl)), arm_load rfl (F.keep 4 (Value.pointer (some ⟨gb, 0, none⟩)) (by kernel_rfl) rfl).is (Vb.mono F.below)⟩, ?_⟩
        refine ⟨fun a' w' F => ⟨_, rfl, wanted_some rfl rfl (F.at' 4 78 _ rfl (by kernel_rfl)), arm_load rfl (F.keep 5 (Value.pointer (some ⟨gc, 0, none⟩)) (by kernel_rfl) rfl).is (Vc.mono F.below)⟩, ?_⟩
        refine ⟨fun a' w' F => ⟨_, rfl, wanted_some rfl rfl (F.at' 4 78 _ rfl (by kernel_rfl)), arm_Add rfl (F.at' 8 82 _ rfl (by kernel_rfl)).is (F.at' 9 83 _ rfl (by kernel_rfl)).is (nlb' (sm_nl fb) (by decide)) (nlb' (sm_nl fc) (by decide)) rfl⟩, ?_⟩
        refine ⟨fun a' w' F => ⟨_, rfl, wanted_some rfl rfl (F.at' 4 78 _ rfl (by kernel_rfl)), arm_Cmp rfl (F.at' 7 81 _ rfl (by kernel_rfl)).is (F.at' 10 84 _ rfl (by kernel_rfl)).is (nlb' (sm_add (sm_nl fa) (sm_nl fc)) (by decide)) (nlb' (sm_add (sm_nl fb) (sm_nl fc)) (by decide)) hsum⟩, ?_⟩
        refine ⟨fun a' w' F => ⟨_, rfl, wanted_some rfl rfl (F.at' 4 78 _ rfl (by kernel_rfl)), arm_move (.inl rfl) (F.keep 7 (Value.int IntKind.i64 0) (by kernel_rfl) rfl).is⟩, ?_⟩
        refine ⟨fun a' w' F => ⟨_, rfl, wanted_some rfl rfl (F.at' 4 78 _ rfl (by kernel_rfl)), arm_bin rfl (F.at' 11 85 _ rfl (by kernel_rfl)).is (F.at' 12 86 _ rfl (by kernel_rfl)).is (fun _ => rfl) (fun _ => rfl)⟩, ?_⟩
        refine ⟨fun a' w' F => ⟨_, rfl, wanted_none rfl, arm_pick rfl (F.at' 4 78 _ rfl (by kernel_rfl)).is (fun _ => (F.at' 13 87 _ rfl (by kernel_rfl)).is) (fun h => by cases h)⟩, ?_⟩
        refine ⟨fun a' w' F => ⟨_, rfl, wanted_none rfl, arm_move (.inl rfl) (F.at' 14 88 _ rfl (by kernel_rfl)).is⟩, ?_⟩
        refine ⟨fun a' w' F => ⟨_, rfl, wanted_some rfl rfl (F.at' 15 89 _ rfl (by kernel_rfl)), arm_awake rfl⟩, ?_⟩
        refine ⟨fun a' w' F => ⟨_, rfl, wanted_none rfl, arm_pick rfl (F.at' 15 89 _ rfl (by kernel_rfl)).is (fun _ => (F.at' 16 90 _ rfl (by kernel_rfl)).is) (fun h => by cases h)⟩, ?_⟩
        refine ⟨fun a' w' F => ⟨_, rfl, wanted_none rfl, arm_move (.inr rfl) (F.at' 17 91 _ rfl (by kernel_rfl)).is⟩, ?_⟩
        exact trivial
      · intro a' w' F
        obtain ⟨v, h1, h2⟩ := F.at' 18 6 _ rfl
        have h3 : v = Value.bool true := h2
        subst h3
        rename_i hK
        refine hK a' w' ?_
        refine wp_ret ?_
        show bodyPost Try.prog Try.f11 (fun e w' => RetV w (.bool true) e w') .ret a' w'
        exact bodyPost_ret (res_tmp rfl h1) F.defers ⟨rfl, hb1.trans (F.below.mono hb1.size)⟩
    · replace h2 := Lib.hid h2
      have hY : cmpI n k = 1 := cmp_gt h2.out
      obtain ⟨yb, db, qb, ib⟩ := Vb
      have eb := qb.cell
      obtain ⟨yc, dc, qc, ic⟩ := Vc
      have ec := qc.cell
      go_wp2_with fail
      refine (c_natural_Cmp _ _ n k _ ib ic (Nat.le_trans (nlb' (sm_nl fb) (by decide)) (by decide)) (Nat.le_trans (nlb' (sm_nl fc) (by decide)) (by decide))).mono ?_
      rintro e z22 ⟨rfl, bb22⟩
      rw [hY]
      replace Va : VarI z22 ga (m) := VarI.mono Va bb22
      replace Vb : VarI z22 gb (n) := VarI.mono ⟨yb, db, qb, ib⟩ bb22
      replace Vc : VarI z22 gc (k) := VarI.mono ⟨yc, dc, qc, ic⟩ bb22
      replace hb1 := hb1.trans (bb22.mono hb1.size)
      clear eb qb ib ec qc ic bb22
      obtain ⟨yb, db, qb, ib⟩ := Vb
      have eb := qb.cell
      obtain ⟨ya, da, qa, ia⟩ := Va
      have ea := qa.cell
      go_wp2_with fail
      refine (c_natural_Cmp _ _ n m _ ib ia (Nat.le_trans (nlb' (sm_nl fb) (by decide)) (by decide)) (Nat.le_trans (nlb' (sm_nl fa) (by decide)) (by decide))).mono ?_
      rintro e z23 ⟨rfl, bb23⟩
      rw [hX']
      replace Va : VarI z23 ga (m) := VarI.mono ⟨ya, da, qa, ia⟩ bb23
      replace Vb : VarI z23 gb (n) := VarI.mono ⟨yb, db, qb, ib⟩ bb23
      replace Vc : VarI z23 gc (k) := VarI.mono Vc bb23
      replace hb1 := hb1.trans (bb23.mono hb1.size)
      clear eb qb ib ea qa ia bb23
      obtain ⟨ya, da, qa, ia⟩ := Va
      have ea := qa.cell
      obtain ⟨yb, db, qb, ib⟩ := Vb
      have eb := qb.cell
      go_wp2_with fail
      refine (c_ref_Same _ _ m n _ ia ib (nlb' (sm_nl fa) (by decide)) (nlb' (sm_nl fb) (by decide))).mono ?_
      rintro e z24 ⟨rfl, bb24⟩
      rw [hse]
      replace Va : VarI z24 ga (m) := VarI.mono ⟨ya, da, qa, ia⟩ bb24
      replace Vb : VarI z24 gb (n) := VarI.mono ⟨yb, db, qb, ib⟩ bb24
      replace Vc : VarI z24 gc (k) := VarI.mono Vc bb24
      replace hb1 := hb1.trans (bb24.mono hb1.size)
      clear ea qa ia eb qb ib bb24
      obtain ⟨ya, da, qa, ia⟩ := Va
      have ea := qa.cell
      obtain ⟨yb, db, qb, ib⟩ := Vb
      have eb := qb.cell
      go_wp2_with fail
      refine (c_natural_Sub _ _ m n _ ia ib (nlb' (sm_nl fa) (by decide)) (nlb' (sm_nl fb) (by decide))).mono ?_
      rintro e w9 ⟨v9, rfl, ⟨x9, c9, rfl, hc9, hx9⟩, bb⟩
      rw [show decide (n ≤ m) = true from hok]
      have b2 := bel1 w9 (.cells #[.slice x9 (nl (m - n)) c9] 24)
      have b3 := bb.trans (b2.mono bb.size)
      replace Va : VarI (w9.alloc (.cells #[.slice x9 (nl (m - n)) c9] 24)) ga (m) := VarI.mono ⟨ya, da, qa, ia⟩ b3
      replace Vb : VarI (w9.alloc (.cells #[.slice x9 (nl (m - n)) c9] 24)) gb (n) := VarI.mono ⟨yb, db, qb, ib⟩ b3
      replace Vc : VarI (w9.alloc (.cells #[.slice x9 (nl (m - n)) c9] 24)) gc (k) := VarI.mono Vc b3
      replace hb1 := hb1.trans (b3.mono hb1.size)
      clear ea qa ia eb qb ib b3
      go_upto_region 10 with (fail)
      refine wp_tab Try.f11 10 (orderTabZ ga gb gc m n k) (by kernel_rfl) (by kernel_rfl) rfl (by kernel_rfl) (by kernel_rfl) ?_ ?_
      · refine ⟨fun a' w' F => ⟨_, rfl, wanted_none rfl, arm_move (.inl rfl) (F.keep 10 (Value.bool true) (by kernel_rfl) rfl).is⟩, ?_⟩
        refine ⟨fun a' w' F => ⟨_, rfl, wanted_none rfl, arm_move (.inl rfl) (F.keep 7 (Value.int IntKind.i64 0) (by kernel_rfl) rfl).is⟩, ?_⟩
        refine ⟨fun a' w' F => ⟨_, rfl, wanted_none rfl, arm_bin rfl (F.at' 1 75 _ rfl (by kernel_rfl)).is Is.const (fun _ => rfl) (fun _ => rfl)⟩, ?_⟩
        refine ⟨fun a' w' F => ⟨_, rfl, wanted_none rfl, arm_bin rfl (F.at' 0 74 _ rfl (by kernel_rfl)).is (F.at' 2 76 _ rfl (by kernel_rfl)).is (fun _ => rfl) (fun _ => rfl)⟩, ?_⟩
        refine ⟨fun a' w' F => ⟨_, rfl, wanted_none rfl, arm_move (.inl rfl) (F.at' 3 77 _ rfl (by kernel_rfl)).is⟩, ?_⟩
        refine ⟨fun a' w' F => ⟨_, rfl, wanted_some rfl rfl (F.at' 4 78 _ rfl (by kernel_rfl)), arm_load rfl (F.keep 3 (Value.pointer (some ⟨ga, 0, none⟩)) (by kernel_rfl) rfl).is (Va.mono F.below)⟩, ?_⟩
        refine ⟨fun a' w' F => ⟨_, rfl, wanted_some rfl rfl (F.at' 4 78 _ rfl (by kernel_rfl)), arm_load rfl (F.keep 5 (Value.pointer (some ⟨gc, 0, none⟩)) (by kernel_rfl) rfl).is (Vc.mono F.below)⟩, ?_⟩
        refine ⟨fun a' w' F => ⟨_, rfl, wanted_some rfl rfl (F.at' 4 78 _ rfl (by kernel_rfl)), arm_Add rfl (F.at' 5 79 _ rfl (by kernel_rfl)).is (F.at' 6 80 _ rfl (by kernel_rfl)).is (nlb' (sm_nl fa) (by decide)) (nlb' (sm_nl fc) (by decide)) rfl⟩, ?_⟩
        refine ⟨fun a' w' F => ⟨_, rfl, wanted_some rfl rfl (F.at' 4 78 _ rfl (by kernel_rfl)), arm_load rfl (F.keep 4 (Value.pointer (some ⟨gb, 0, none⟩)) (by kernel_rfl) rfl).is (Vb.mono F.below)⟩, ?_⟩
        refine ⟨fun a' w' F => ⟨_, rfl, wanted_some rfl rfl (F.at' 4 78 _ rfl (by kernel_rfl)), arm_load rfl (F.keep 5 (Value.pointer (some ⟨gc, 0, none⟩)) (by kernel_rfl) rfl).is (Vc.mono F.below)⟩, ?_⟩
        refine ⟨fun a' w' F => ⟨_, rfl, wanted_some rfl rfl (F.at' 4 78 _ rfl (by kernel_rfl)), arm_Add rfl (F.at' 8 82 _ rfl (by kernel_rfl)).is (F.at' 9 83 _ rfl (by kernel_rfl)).is (nlb' (sm_nl fb) (by decide)) (nlb' (sm_nl fc) (by decide)) rfl⟩, ?_⟩
        refine ⟨fun a' w' F => ⟨_, rfl, wanted_some rfl rfl (F.at' 4 78 _ rfl (by kernel_rfl)), arm_Cmp rfl (F.at' 7 81 _ rfl (by kernel_rfl)).is (F.at' 10 84 _ rfl (by kernel_rfl)).is (nlb' (sm_add (sm_nl fa) (sm_nl fc)) (by decide)) (nlb' (sm_add (sm_nl fb) (sm_nl fc)) (by decide)) hsum⟩, ?_⟩
        refine ⟨fun a' w' F => ⟨_, rfl, wanted_some rfl rfl (F.at' 4 78 _ rfl (by kernel_rfl)), arm_move (.inl rfl) (F.keep 7 (Value.int IntKind.i64 0) (by kernel_rfl) rfl).is⟩, ?_⟩
        refine ⟨fun a' w' F => ⟨_, rfl, wanted_some rfl rfl (F.at' 4 78 _ rfl (by kernel_rfl)), arm_bin rfl (F.at' 11 85 _ rfl (by kernel_rfl)).is (F.at' 12 86 _ rfl (by kernel_rfl)).is (fun _ => rfl) (fun _ => rfl)⟩, ?_⟩
        refine ⟨fun a' w' F => ⟨_, rfl, wanted_none rfl, arm_pick rfl (F.at' 4 78 _ rfl (by kernel_rfl)).is (fun _ => (F.at' 13 87 _ rfl (by kernel_rfl)).is) (fun h => by cases h)⟩, ?_⟩
        refine ⟨fun a' w' F => ⟨_, rfl, wanted_none rfl, arm_move (.inl rfl) (F.at' 14 88 _ rfl (by kernel_rfl)).is⟩, ?_⟩
        refine ⟨fun a' w' F => ⟨_, rfl, wanted_some rfl rfl (F.at' 15 89 _ rfl (by kernel_rfl)), arm_awake rfl⟩, ?_⟩
        refine ⟨fun a' w' F => ⟨_, rfl, wanted_none rfl, arm_pick rfl (F.at' 15 89 _ rfl (by kernel_rfl)).is (fun _ => (F.at' 16 90 _ rfl (by kernel_rfl)).is) (fun h => by cases h)⟩, ?_⟩
        refine ⟨fun a' w' F => ⟨_, rfl, wanted_none rfl, arm_move (.inr rfl) (F.at' 17 91 _ rfl (by kernel_rfl)).is⟩, ?_⟩
        exact trivial
      · intro a' w' F
        obtain ⟨v, h1, h2⟩ := F.at' 18 6 _ rfl
        have h3 : v = Value.bool true := h2
        subst h3
        rename_i hK
        refine hK a' w' ?_
        refine wp_ret ?_
        show bodyPost Try.prog Try.f11 (fun e w' => RetV w (.bool true) e w') .ret a' w'
        exact bodyPost_ret (res_tmp rfl h1) F.defers ⟨rfl, hb1.trans (F.below.mono hb1.size)⟩
  · replace h := Lib.hid h
    have hX : cmpI m n = 1 := cmp_gt h.out
    have hX' : cmpI n m = -1 := cmp_lt h.out
    rw [hX] at hsum
    have hok : decide (n ≤ m) = true := decide_eq_true (by have := h.out; omega)
    have hse : decide (m = n) = false := decide_eq_false (by have := h.out; omega)
    obtain ⟨ya, da, qa, ia⟩ := Va
    have ea := qa.cell
    obtain ⟨yb, db, qb, ib⟩ := Vb
    have eb := qb.cell
    go_wp2_with fail
    refine (c_natural_Cmp _ _ m n _ ia ib (Nat.le_trans (nlb' (sm_nl fa) (by decide)) (by decide)) (Nat.le_trans (nlb' (sm_nl fb) (by decide)) (by decide))).mono ?_
    rintro e z25 ⟨rfl, bb25⟩
    rw [hX]
    replace Va : VarI z25 ga (m) := VarI.mono ⟨ya, da, qa, ia⟩ bb25
    replace Vb : VarI z25 gb (n) := VarI.mono ⟨yb, db, qb, ib⟩ bb25
    replace Vc : VarI z25 gc (k) := VarI.mono Vc bb25
    replace hb1 := hb1.trans (bb25.mono hb1.size)
    clear ea qa ia eb qb ib bb25
    obtain ⟨yb, db, qb, ib⟩ := Vb
    have eb := qb.cell
    obtain ⟨yc, dc, qc, ic⟩ := Vc
    have ec := qc.cell
    go_wp2_with fail
    refine (c_natural_Cmp _ _ n k _ ib ic (Nat.le_trans (nlb' (sm_nl fb) (by decide)) (by decide)) (Nat.le_trans (nlb' (sm_nl fc) (by decide)) (by decide))).mono ?_
    rintro e z26 ⟨rfl, bb26⟩
    replace Va : VarI z26 ga (m) := VarI.mono Va bb26
    replace Vb : VarI z26 gb (n) := VarI.mono ⟨yb, db, qb, ib⟩ bb26
    replace Vc : VarI z26 gc (k) := VarI.mono ⟨yc, dc, qc, ic⟩ bb26
    replace hb1 := hb1.trans (bb26.mono hb1.size)
    clear eb qb ib ec qc ic bb26
    obtain ⟨yb, db, qb, ib⟩ := Vb
    have eb := qb.cell
    obtain ⟨ya, da, qa, ia⟩ := Va
    have ea := qa.cell
    go_wp2_with fail
    refine (c_natural_Cmp _ _ n m _ ib ia (Nat.le_trans (nlb' (sm_nl fb) (by decide)) (by decide)) (Nat.le_trans (nlb' (sm_nl fa) (by decide)) (by decide))).mono ?_
    rintro e z27 ⟨rfl, bb27⟩
    rw [hX']
    replace Va : VarI z27 ga (m) := VarI.mono ⟨ya, da, qa, ia⟩ bb27
    replace Vb : VarI z27 gb (n) := VarI.mono ⟨yb, db, qb, ib⟩ bb27
    replace Vc : VarI z27 gc (k) := VarI.mono Vc bb27
    replace hb1 := hb1.trans (bb27.mono hb1.size)
    clear eb qb ib ea qa ia bb27
    obtain ⟨ya, da, qa, ia⟩ := Va
    have ea := qa.cell
    obtain ⟨yb, db, qb, ib⟩ := Vb
    have eb := qb.cell
    go_wp2_with fail
    refine (c_ref_Same _ _ m n _ ia ib (nlb' (sm_nl fa) (by decide)) (nlb' (sm_nl fb) (by decide))).mono ?_
    rintro e z28 ⟨rfl, bb28⟩
    rw [hse]
    replace Va : VarI z28 ga (m) := VarI.mono ⟨ya, da, qa, ia⟩ bb28
    replace Vb : VarI z28 gb (n) := VarI.mono ⟨yb, db, qb, ib⟩ bb28
    replace Vc : VarI z28 gc (k) := VarI.mono Vc bb28
    replace hb1 := hb1.trans (bb28.mono hb1.size)
    clear ea qa ia eb qb ib bb28
    obtain ⟨ya, da, qa, ia⟩ := Va
    have ea := qa.cell
    obtain ⟨yb, db, qb, ib⟩ := Vb
    have eb := qb.cell
    go_wp2_with fail
    refine (c_natural_Sub _ _ m n _ ia ib (nlb' (sm_nl fa) (by decide)) (nlb' (sm_nl fb) (by decide))).mono ?_
    rintro e w9 ⟨v9, rfl, ⟨x9, c9, rfl, hc9, hx9⟩, bb⟩
    rw [show decide (n ≤ m) = true from hok]
    have b2 := bel1 w9 (.cells #[.slice x9 (nl (m - n)) c9] 24)
    have b3 := bb.trans (b2.mono bb.size)
    replace Va : VarI (w9.alloc (.cells #[.slice x9 (nl (m - n)) c9] 24)) ga (m) := VarI.mono ⟨ya, da, qa, ia⟩ b3
    replace Vb : VarI (w9.alloc (.cells #[.slice x9 (nl (m - n)) c9] 24)) gb (n) := VarI.mono ⟨yb, db, qb, ib⟩ b3
    replace Vc : VarI (w9.alloc (.cells #[.slice x9 (nl (m - n)) c9] 24)) gc (k) := VarI.mono Vc b3
    replace hb1 := hb1.trans (b3.mono hb1.size)
    clear ea qa ia eb qb ib b3
    go_upto_region 10 with (fail)
    refine wp_tab Try.f11 10 (orderTabP ga gb gc m n k) (by kernel_rfl) (by kernel_rfl) rfl (by kernel_rfl) (by kernel_rfl) ?_ ?_
    · refine ⟨fun a' w' F => ⟨_, rfl, wanted_none rfl, arm_move (.inl rfl) (F.keep 10 (Value.bool true) (by kernel_rfl) rfl).is⟩, ?_⟩
      refine ⟨fun a' w' F => ⟨_, rfl, wanted_none rfl, arm_move (.inl rfl) (F.keep 7 (Value.int IntKind.i64 1) (by kernel_rfl) rfl).is⟩, ?_⟩
      refine ⟨fun a' w' F => ⟨_, rfl, wanted_none rfl, arm_bin rfl (F.at' 1 75 _ rfl (by kernel_rfl)).is Is.const (fun _ => rfl) (fun _ => rfl)⟩, ?_⟩
      refine ⟨fun a' w' F => ⟨_, rfl, wanted_none rfl, arm_bin rfl (F.at' 0 74 _ rfl (by kernel_rfl)).is (F.at' 2 76 _ rfl (by kernel_rfl)).is (fun _ => rfl) (fun _ => rfl)⟩, ?_⟩
      refine ⟨fun a' w' F => ⟨_, rfl, wanted_none rfl, arm_move (.inl rfl) (F.at' 3 77 _ rfl (by kernel_rfl)).is⟩, ?_⟩
      refine ⟨fun a' w' F => ⟨_, rfl, wanted_some rfl rfl (F.at' 4 78 _ rfl (by kernel_rfl)), arm_load rfl (F.keep 3 (Value.pointer (some ⟨ga, 0, none⟩)) (by kernel_rfl) rfl).is (Va.mono F.below)⟩, ?_⟩
      refine ⟨fun a' w' F => ⟨_, rfl, wanted_some rfl rfl (F.at' 4 78 _ rfl (by kernel_rfl)), arm_load rfl (F.keep 5 (Value.pointer (some ⟨gc, 0, none⟩)) (by kernel_rfl) rfl).is (Vc.mono F.below)⟩, ?_⟩
      refine ⟨fun a' w' F => ⟨_, rfl, wanted_some rfl rfl (F.at' 4 78 _ rfl (by kernel_rfl)), arm_Add rfl (F.at' 5 79 _ rfl (by kernel_rfl)).is (F.at' 6 80 _ rfl (by kernel_rfl)).is (nlb' (sm_nl fa) (by decide)) (nlb' (sm_nl fc) (by decide)) rfl⟩, ?_⟩
      refine ⟨fun a' w' F => ⟨_, rfl, wanted_some rfl rfl (F.at' 4 78 _ rfl (by kernel_rfl)), arm_load rfl (F.keep 4 (Value.pointer (some ⟨gb, 0, none⟩)) (by kernel_rfl) rfl).is (Vb.mono F.below)⟩, ?_⟩
      refine ⟨fun a' w' F => ⟨_, rfl, wanted_some rfl rfl (F.at' 4 78 _ rfl (by kernel_rfl)), arm_load rfl (F.keep 5 (Value.pointer (some ⟨gc, 0, none⟩)) (by kernel_rfl) rfl).is (Vc.mono F.below)⟩, ?_⟩
      refine ⟨fun a' w' F => ⟨_, rfl, wanted_some rfl rfl (F.at' 4 78 _ rfl (by kernel_rfl)), arm_Add rfl (F.at' 8 82 _ rfl (by kernel_rfl)).is (F.at' 9 83 _ rfl (by kernel_rfl)).is (nlb' (sm_nl fb) (by decide)) (nlb' (sm_nl fc) (by decide)) rfl⟩, ?_⟩
      refine ⟨fun a' w' F => ⟨_, rfl, wanted_some rfl rfl (F.at' 4 78 _ rfl (by kernel_rfl)), arm_Cmp rfl (F.at' 7 81 _ rfl (by kernel_rfl)).is (F.at' 10 84 _ rfl (by kernel_rfl)).is (nlb' (sm_add (sm_nl fa) (sm_nl fc)) (by decide)) (nlb' (sm_add (sm_nl fb) (sm_nl fc)) (by decide)) hsum⟩, ?_⟩
      refine ⟨fun a' w' F => ⟨_, rfl, wanted_some rfl rfl (F.at' 4 78 _ rfl (by kernel_rfl)), arm_move (.inl rfl) (F.keep 7 (Value.int IntKind.i64 1) (by kernel_rfl) rfl).is⟩, ?_⟩
      refine ⟨fun a' w' F => ⟨_, rfl, wanted_some rfl rfl (F.at' 4 78 _ rfl (by kernel_rfl)), arm_bin rfl (F.at' 11 85 _ rfl (by kernel_rfl)).is (F.at' 12 86 _ rfl (by kernel_rfl)).is (fun _ => rfl) (fun _ => rfl)⟩, ?_⟩
      refine ⟨fun a' w' F => ⟨_, rfl, wanted_none rfl, arm_pick rfl (F.at' 4 78 _ rfl (by kernel_rfl)).is (fun _ => (F.at' 13 87 _ rfl (by kernel_rfl)).is) (fun h => by cases h)⟩, ?_⟩
      refine ⟨fun a' w' F => ⟨_, rfl, wanted_none rfl, arm_move (.inl rfl) (F.at' 14 88 _ rfl (by kernel_rfl)).is⟩, ?_⟩
      refine ⟨fun a' w' F => ⟨_, rfl, wanted_some rfl rfl (F.at' 15 89 _ rfl (by kernel_rfl)), arm_awake rfl⟩, ?_⟩
      refine ⟨fun a' w' F => ⟨_, rfl, wanted_none rfl, arm_pick rfl (F.at' 15 89 _ rfl (by kernel_rfl)).is (fun _ => (F.at' 16 90 _ rfl (by kernel_rfl)).is) (fun h => by cases h)⟩, ?_⟩
      refine ⟨fun a' w' F => ⟨_, rfl, wanted_none rfl, arm_move (.inr rfl) (F.at' 17 91 _ rfl (by kernel_rfl)).is⟩, ?_⟩
      exact trivial
    · intro a' w' F
      obtain ⟨v, h1, h2⟩ := F.at' 18 6 _ rfl
      have h3 : v = Value.bool true := h2
      subst h3
      rename_i hK
      refine hK a' w' ?_
      refine wp_ret ?_
      show bodyPost Try.prog Try.f11 (fun e w' => RetV w (.bool true) e w') .ret a' w'
      exact bodyPost_ret (res_tmp rfl h1) F.defers ⟨rfl, hb1.trans (F.below.mono hb1.size)⟩
end Go.Proofs.Ythpndmamegfbkaa
