/- NaturalGcd: the walk. -/
import Derived.Test.YthpndmamegfbkaaS7
namespace Go.Proofs.Ythpndmamegfbkaa
set_option linter.unusedSimpArgs false
set_option linter.unusedVariables false
open Go.RowKit
def gcdTab4 (ga gb gx m n Nx : Nat) : List (Nat × Tmp × Sp) :=
   [(0, 44, .nat (Nx)),
    (1, 45, .nat (m)),
    (2, 46, .nat (n)),
    (3, 47, .nat (Nx)),
    (4, 48, .val (Value.bool true)),
    (5, 49, .val (Value.bool false))]
def gcdTab6 (ga gb gc m n k Nh base : Nat) : List (Nat × Tmp × Sp) :=
   [(0, 50, .nat (k)),
    (1, 51, .nat (m)),
    (2, 52, .nat ((k * m))),
    (3, 53, .nat (k)),
    (4, 54, .nat (n)),
    (5, 55, .nat ((k * n))),
    (6, 56, .nat (Nh)),
    (7, 8, .var base)]
def gcdTab7 (ga gb gc gx gh m n k Nx Nh : Nat) : List (Nat × Tmp × Sp) :=
   [(0, 57, .nat (Nh)),
    (1, 58, .nat (k)),
    (2, 59, .nat (Nx)),
    (3, 60, .nat ((k * Nx))),
    (4, 61, .val (Value.bool true)),
    (5, 62, .val (Value.bool true)),
    (6, 63, .nat (n)),
    (7, 64, .nat (m)),
    (8, 65, .nat (Nx)),
    (9, 66, .nat (Nx)),
    (10, 67, .val (Value.bool true)),
    (11, 68, .val (Value.bool true)),
    (12, 69, .val (Value.bool true)),
    (13, 70, .val (Value.bool true)),
    (14, 71, .val (Value.bool true)),
    (15, 6, .val (Value.bool true))]
set_option maxRecDepth 100000 in
set_option maxHeartbeats 4000000 in
theorem c_NaturalGcd (va : Value) (La m : Nat) (vb : Value) (Lb n : Nat) (vc : Value) (Lc k : Nat) (w : World) (ha : IsR w va La m) (hLa : La ≤ 9223372036854775807) (hb : IsR w vb Lb n) (hLb : Lb ≤ 9223372036854775807) (hc : IsR w vc Lc k) (hLc : Lc ≤ 9223372036854775807) :
    Calls Try.prog 4 #[va, vb, vc] w fun e w' => RetV w (.bool true) e w' := by
  obtain ⟨xa, ca, rfl, hca, ra⟩ := ha
  obtain ⟨xb, cb, rfl, hcb, rb⟩ := hb
  obtain ⟨xc, cc, rfl, hcc, rc⟩ := hc
  obtain ⟨k0, k1, k2, k3⟩ := box3 (L := La) (c := ca) (N := m) (L2 := Lb) (c2 := cb) (N2 := n) (L3 := Lc) (c3 := cc) (N3 := k) ⟨xa, ca, rfl, hca, ra⟩ ⟨xb, cb, rfl, hcb, rb⟩ ⟨xc, cc, rfl, hcc, rc⟩
  go_enter Try.func4, Try.ntmps4
  go_upto_region 0 with (fail)
  go_cut [3, 4, 5] (fun s3 s4 s5 wx => ∃ ga gb gc, s3 = .pointer (some ⟨ga, 0, none⟩) ∧ s4 = .pointer (some ⟨gb, 0, none⟩) ∧ s5 = .pointer (some ⟨gc, 0, none⟩) ∧ VarR wx ga La m ∧ VarR wx gb Lb n ∧ VarR wx gc Lc k ∧ Below w.heap.size w wx)
  case first =>
    go_wp2_with fail
    go_meet
    case rel => exact ⟨_, _, _, rfl, rfl, rfl, k1, k2, k3, k0⟩
  case rest =>
  obtain ⟨ga, gb, gc, rfl, rfl, rfl, Va, Vb, Vc, hb1⟩ := hcut
  clear k0 k1 k2 k3 hca ra hcb rb hcc rc
  obtain ⟨ya, da, qa, ia⟩ := Va
  have ea := qa.cell
  go_wp2_with fail
  refine (c_Few _ La m _ ia hLa).mono ?_
  rintro e w1 ⟨rfl, bb1⟩
  replace Va : VarR w1 ga La m := VarR.mono ⟨ya, da, qa, ia⟩ bb1
  replace Vb : VarR w1 gb Lb n := VarR.mono Vb bb1
  replace Vc : VarR w1 gc Lc k := VarR.mono Vc bb1
  replace hb1 := hb1.trans (bb1.mono hb1.size)
  clear ea qa ia bb1
  by_cases fa : La ≤ 12 ∧ nl m = La
  case neg =>
    rw [decide_eq_false fa]
    go_wp2_with fail
    refine (c_awake _).mono ?_
    rintro e w9 ⟨rfl, bb⟩
    go_wp2
    go_ret
    exact ⟨rfl, hb1.trans (bb.mono hb1.size)⟩
  rw [decide_eq_true fa]
  obtain ⟨yb, db, qb, ib⟩ := Vb
  have eb := qb.cell
  go_wp2_with fail
  refine (c_Few _ Lb n _ ib hLb).mono ?_
  rintro e w2 ⟨rfl, bb2⟩
  replace Va : VarR w2 ga La m := VarR.mono Va bb2
  replace Vb : VarR w2 gb Lb n := VarR.mono ⟨yb, db, qb, ib⟩ bb2
  replace Vc : VarR w2 gc Lc k := VarR.mono Vc bb2
  replace hb1 := hb1.trans (bb2.mono hb1.size)
  clear eb qb ib bb2
  by_cases fb : Lb ≤ 12 ∧ nl n = Lb
  case neg =>
    rw [decide_eq_false fb]
    go_wp2_with fail
    refine (c_awake _).mono ?_
    rintro e w9 ⟨rfl, bb⟩
    go_wp2
    go_ret
    exact ⟨rfl, hb1.trans (bb.mono hb1.size)⟩
  rw [decide_eq_true fb]
  obtain ⟨yc, dc, qc, ic⟩ := Vc
  have ec := qc.cell
  go_wp2_with fail
  refine (c_Few _ Lc k _ ic hLc).mono ?_
  rintro e w3 ⟨rfl, bb3⟩
  replace Va : VarR w3 ga La m := VarR.mono Va bb3
  replace Vb : VarR w3 gb Lb n := VarR.mono Vb bb3
  replace Vc : VarR w3 gc Lc k := VarR.mono ⟨yc, dc, qc, ic⟩ bb3
  replace hb1 := hb1.trans (bb3.mono hb1.size)
  clear ec qc ic bb3
  by_cases fc : Lc ≤ 12 ∧ nl k = Lc
  case neg =>
    rw [decide_eq_false fc]
    go_wp2_with fail
    refine (c_awake _).mono ?_
    rintro e w9 ⟨rfl, bb⟩
    go_wp2
    go_ret
    exact ⟨rfl, hb1.trans (bb.mono hb1.size)⟩
  rw [decide_eq_true fc]
  obtain ⟨fa, rfl⟩ := fa
  replace Va : VarI w3 ga m := Va
  obtain ⟨fb, rfl⟩ := fb
  replace Vb : VarI w3 gb n := Vb
  obtain ⟨fc, rfl⟩ := fc
  replace Vc : VarI w3 gc k := Vc
  have Va' := Va
  obtain ⟨ya, da, qa, ia⟩ := Va'
  have ea := qa.cell
  have Vb' := Vb
  obtain ⟨yb, db, qb, ib⟩ := Vb'
  have eb := qb.cell
  have Vc' := Vc
  obtain ⟨yc, dc, qc, ic⟩ := Vc'
  have ec := qc.cell
  by_cases h4a : (4 : Int) < ((nl m : Nat) : Int)
  case pos =>
    go_wp2_with fail
    refine (c_awake _).mono ?_
    rintro e w9 ⟨rfl, bb⟩
    go_wp2
    go_ret
    exact ⟨rfl, hb1.trans (bb.mono hb1.size)⟩
  have f4a : nl m ≤ 4 := by omega
  by_cases h4b : (4 : Int) < ((nl n : Nat) : Int)
  case pos =>
    go_wp2_with fail
    refine (c_awake _).mono ?_
    rintro e w9 ⟨rfl, bb⟩
    go_wp2
    go_ret
    exact ⟨rfl, hb1.trans (bb.mono hb1.size)⟩
  have f4b : nl n ≤ 4 := by omega
  by_cases h4c : (4 : Int) < ((nl k : Nat) : Int)
  case pos =>
    go_wp2_with fail
    refine (c_awake _).mono ?_
    rintro e w9 ⟨rfl, bb⟩
    go_wp2
    go_ret
    exact ⟨rfl, hb1.trans (bb.mono hb1.size)⟩
  have f4c : nl k ≤ 4 := by omega
  go_upto_region 3 with (fail)
  clear ea qa ia h4a fa eb qb ib h4b fb ec qc ic h4c fc
  obtain ⟨Nx, hidx⟩ : ∃ N : Nat, Hid (N = Nat.gcd m n) := ⟨_, Lib.hid rfl⟩
  go_upto_region 3 with (fail)
  go_cut [7] (fun s7 wx => ∃ gx, s7 = .pointer (some ⟨gx, 0, none⟩) ∧ VarI wx ga (m) ∧ VarI wx gb (n) ∧ VarI wx gc (k) ∧ VarI wx gx (Nx) ∧ Below w.heap.size w wx)
  case first =>
    have Va' := Va
    obtain ⟨ya, da, qa, ia⟩ := Va'
    have ea := qa.cell
    have Vb' := Vb
    obtain ⟨yb, db, qb, ib⟩ := Vb'
    have eb := qb.cell
    go_wp2_with fail
    refine (c_natural_Gcd _ _ (m) (n) _ ia ib (nlb' (sm_nl f4a) (by decide)) (nlb' (sm_nl f4b) (by decide))).mono ?_
    rintro e w9 ⟨v9, rfl, n9, bb⟩
    rw [← hidx.out] at n9
    obtain ⟨x9, c9, rfl, hc9, hx9⟩ := n9
    have v1 := VarB.made w9 x9 (nl Nx) c9
    have n1 : IsN w9 (.agg #[.slice x9 (nl Nx) c9]) Nx := NewN.isN ⟨x9, c9, rfl, hc9, hx9⟩
    have b2 := bel1 w9 (.cells #[.slice x9 (nl Nx) c9] 24)
    have b3 := bb.trans (b2.mono bb.size)
    go_wp2_with fail
    go_meet
    case rel => exact ⟨_, rfl, Va.mono b3, Vb.mono b3, Vc.mono b3, VarI.of v1 (n1.mono b2), hb1.trans (b3.mono hb1.size)⟩
  case rest =>
  clear Va Vb Vc hb1
  obtain ⟨gx, rfl, Va, Vb, Vc, Vx, hb1⟩ := hcut
  have bx : Nx < 4294967296 ^ (4 + 4 + 1) := by rw [hidx.out]; exact sm_le (sm_add (sm_nl f4a) (sm_nl f4b)) (gcd_le_add m n)
  go_upto_region 4 with (fail)
  refine wp_tabL Try.f4 4 (gcdTab4 ga gb gx m n Nx) (by kernel_rfl) (by kernel_rfl) rfl (by kernel_rfl) (by kernel_rfl) ?_ ?_
  · refine ⟨fun a' w' F => ⟨_, rfl, wanted_none rfl, arm_load rfl (F.keep 7 (Value.pointer (some ⟨gx, 0, none⟩)) (by kernel_rfl) rfl).is (Vx.mono F.below)⟩, ?_⟩
    refine ⟨fun a' w' F => ⟨_, rfl, wanted_none rfl, arm_load rfl (F.keep 3 (Value.pointer (some ⟨ga, 0, none⟩)) (by kernel_rfl) rfl).is (Va.mono F.below)⟩, ?_⟩
    refine ⟨fun a' w' F => ⟨_, rfl, wanted_none rfl, arm_load rfl (F.keep 4 (Value.pointer (some ⟨gb, 0, none⟩)) (by kernel_rfl) rfl).is (Vb.mono F.below)⟩, ?_⟩
    refine ⟨fun a' w' F => ⟨_, rfl, wanted_none rfl, arm_rGcd rfl (F.at' 1 45 _ rfl (by kernel_rfl)).is (F.at' 2 46 _ rfl (by kernel_rfl)).is (Nat.le_trans f4a (by decide)) (Nat.le_trans f4b (by decide)) hidx.out.symm⟩, ?_⟩
    refine ⟨fun a' w' F => ⟨_, rfl, wanted_none rfl, arm_Same rfl (F.at' 0 44 _ rfl (by kernel_rfl)).is (F.at' 3 47 _ rfl (by kernel_rfl)).is (nlb' bx (by decide)) (nlb' bx (by decide)) (decide_eq_true (rfl))⟩, ?_⟩
    refine ⟨fun a' w' F => ⟨_, rfl, wanted_none rfl, arm_not rfl (F.at' 4 48 _ rfl (by kernel_rfl)).is⟩, ?_⟩
    exact trivial
  intro gp wp bp G
  have ep5 : gp 5 = Value.bool false := G 5 49 _ rfl
  simp only [gcdTab4]
  simp only [putD, entries, List.map_cons, List.map_nil, List.foldl_cons, List.foldl_nil, Act.put, List.setIfInBounds_toArray, List.set_cons_zero, List.set_cons_succ, ep5]
  clear G
  replace Va := Va.mono bp
  replace Vb := Vb.mono bp
  replace Vc := Vc.mono bp
  replace Vx := Vx.mono bp
  replace hb1 := hb1.trans (bp.mono hb1.size)
  clear bp
  obtain ⟨Nh, hNh⟩ : ∃ N : Nat, Hid (N = Nat.gcd (k * m) (k * n)) := ⟨_, Lib.hid rfl⟩
  have hbase : wp.heap.size ≤ wp.heap.size := Nat.le_refl _
  have lva : ga < wp.heap.size := by obtain ⟨_, _, h, _⟩ := Va; exact h.lt
  have lvb : gb < wp.heap.size := by obtain ⟨_, _, h, _⟩ := Vb; exact h.lt
  have lvc : gc < wp.heap.size := by obtain ⟨_, _, h, _⟩ := Vc; exact h.lt
  have lvx : gx < wp.heap.size := by obtain ⟨_, _, h, _⟩ := Vx; exact h.lt
  have hbw := hb1.size
  go_upto_region 6 with (fail)
  refine wp_tabK Try.f4 6 (gcdTab6 ga gb gc m n k Nh wp.heap.size) (fun i => i == 7) 4 1 (by kernel_rfl) (by kernel_rfl) (by kernel_rfl) (by kernel_rfl) ⟨fun h => (by cases h), ⟨fun h => (by cases h), ⟨fun h => (by cases h), ⟨fun h => (by cases h), ⟨fun h => (by cases h), ⟨fun h => (by cases h), ⟨fun h => (by cases h), ⟨fun _ w v h => Sp.var_lt h, trivial⟩⟩⟩⟩⟩⟩⟩⟩ ?_ ?_
  · refine ⟨fun a' w' F => ⟨_, rfl, wanted_none rfl, (arm_load rfl (F.keep 5 (Value.pointer (some ⟨gc, 0, none⟩)) (by kernel_rfl) rfl).is (Vc.mono F.below)).b⟩, ?_⟩
    refine ⟨fun a' w' F => ⟨_, rfl, wanted_none rfl, (arm_load rfl (F.keep 3 (Value.pointer (some ⟨ga, 0, none⟩)) (by kernel_rfl) rfl).is (Va.mono F.below)).b⟩, ?_⟩
    refine ⟨fun a' w' F => ⟨_, rfl, wanted_none rfl, (arm_rMul rfl (F.at' 0 50 _ rfl (by kernel_rfl)).is (F.at' 1 51 _ rfl (by kernel_rfl)).is (nlb' (sm_nl f4c) (by decide)) (nlb' (sm_nl f4a) (by decide)) rfl).b⟩, ?_⟩
    refine ⟨fun a' w' F => ⟨_, rfl, wanted_none rfl, (arm_load rfl (F.keep 5 (Value.pointer (some ⟨gc, 0, none⟩)) (by kernel_rfl) rfl).is (Vc.mono F.below)).b⟩, ?_⟩
    refine ⟨fun a' w' F => ⟨_, rfl, wanted_none rfl, (arm_load rfl (F.keep 4 (Value.pointer (some ⟨gb, 0, none⟩)) (by kernel_rfl) rfl).is (Vb.mono F.below)).b⟩, ?_⟩
    refine ⟨fun a' w' F => ⟨_, rfl, wanted_none rfl, (arm_rMul rfl (F.at' 3 53 _ rfl (by kernel_rfl)).is (F.at' 4 54 _ rfl (by kernel_rfl)).is (nlb' (sm_nl f4c) (by decide)) (nlb' (sm_nl f4b) (by decide)) rfl).b⟩, ?_⟩
    refine ⟨fun a' w' F => ⟨_, rfl, wanted_none rfl, (arm_Gcd rfl (F.at' 2 52 _ rfl (by kernel_rfl)).is (F.at' 5 55 _ rfl (by kernel_rfl)).is (nlb' (sm_mul (sm_nl f4c) (sm_nl f4a)) (by decide)) (nlb' (sm_mul (sm_nl f4c) (sm_nl f4b)) (by decide)) hNh.out.symm).b⟩, ?_⟩
    refine ⟨fun a' w' F => ⟨_, rfl, wanted_none rfl, arm_alloc rfl (Nat.le_trans hbase F.below.size)⟩, ?_⟩
    exact trivial
  intro gq wq bq G Gs
  obtain ⟨gh, e7, hgh, hvh⟩ := G 7 8 _ rfl
  obtain ⟨v6, e6, n6⟩ : ∃ v, gq 6 = v ∧ IsN wq v Nh := ⟨_, rfl, G 6 56 _ rfl⟩
  obtain ⟨x6, c6, rfl⟩ := n6.shape
  replace Va := Va.mono bq
  replace Vb := Vb.mono bq
  replace Vc := Vc.mono bq
  replace Vx := Vx.mono bq
  replace hb1 := hb1.trans (bq.mono hb1.size)
  have hgb := hb1.size
  have hlt6 := Nat.le_trans hb1.size (Nat.le_refl _)
  have la : ga < wp.heap.size := lva
  have lb : gb < wp.heap.size := lvb
  have lc : gc < wp.heap.size := lvc
  have lx : gx < wp.heap.size := lvx
  clear G Gs
  simp only [gcdTab6]
  simp only [putD, entries, List.map_cons, List.map_nil, List.foldl_cons, List.foldl_nil, Act.put, List.setIfInBounds_toArray, List.set_cons_zero, List.set_cons_succ, e6, e7]
  refine wpAny_store (j := 8) (by kernel_rfl) rfl rfl rfl rfl rfl rfl ⟨_, _, _, rfl⟩ hvh ?_
  refine wpAny_done (by kernel_rfl) ?_ _
  have Vh := VarI.put hvh n6
  replace Va := Va.setOther (u := .slice x6 (nl Nh) c6) hvh (by omega)
  replace Vb := Vb.setOther (u := .slice x6 (nl Nh) c6) hvh (by omega)
  replace Vc := Vc.setOther (u := .slice x6 (nl Nh) c6) hvh (by omega)
  replace Vx := Vx.setOther (u := .slice x6 (nl Nh) c6) hvh (by omega)
  replace hb1 := hb1.setCell (p := ⟨gh, 0, none⟩) (Nat.le_trans hbw hgh) (.slice x6 (nl Nh) c6)
  clear hvh n6 e6 e7 bq
  generalize wq.setCell ⟨gh, 0, none⟩ (.slice x6 (nl Nh) c6) = w8 at *
  have bh : Nh < 4294967296 ^ (8 + 8 + 1) := by rw [hNh.out]; exact sm_le (sm_add (d := 8) (e := 8) (sm_mul (d := 4) (e := 4) (sm_nl f4c) (sm_nl f4a)) (sm_mul (d := 4) (e := 4) (sm_nl f4c) (sm_nl f4b))) (gcd_le_add _ _)
  go_upto_region 7 with (fail)
  refine wp_tab Try.f4 7 (gcdTab7 ga gb gc gx gh m n k Nx Nh) (by kernel_rfl) (by kernel_rfl) rfl (by kernel_rfl) (by kernel_rfl) ?_ ?_
  · refine ⟨fun a' w' F => ⟨_, rfl, wanted_none rfl, arm_load rfl (F.keep 8 (Value.pointer (some ⟨gh, 0, none⟩)) (by kernel_rfl) rfl).is (Vh.mono F.below)⟩, ?_⟩
    refine ⟨fun a' w' F => ⟨_, rfl, wanted_none rfl, arm_load rfl (F.keep 5 (Value.pointer (some ⟨gc, 0, none⟩)) (by kernel_rfl) rfl).is (Vc.mono F.below)⟩, ?_⟩
    refine ⟨fun a' w' F => ⟨_, rfl, wanted_none rfl, arm_load rfl (F.keep 7 (Value.pointer (some ⟨gx, 0, none⟩)) (by kernel_rfl) rfl).is (Vx.mono F.below)⟩, ?_⟩
    refine ⟨fun a' w' F => ⟨_, rfl, wanted_none rfl, arm_rMul rfl (F.at' 1 58 _ rfl (by kernel_rfl)).is (F.at' 2 59 _ rfl (by kernel_rfl)).is (nlb' (sm_nl f4c) (by decide)) (nlb' bx (by decide)) rfl⟩, ?_⟩
    refine ⟨fun a' w' F => ⟨_, rfl, wanted_none rfl, arm_Same rfl (F.at' 0 57 _ rfl (by kernel_rfl)).is (F.at' 3 60 _ rfl (by kernel_rfl)).is (nlb' bh (by decide)) (nlb' (sm_mul (sm_nl f4c) bx) (by decide)) (decide_eq_true ((by rw [hNh.out, hidx.out, Nat.gcd_mul_left])))⟩, ?_⟩
    refine ⟨fun a' w' F => ⟨_, rfl, wanted_none rfl, arm_move (.inl rfl) (F.at' 4 61 _ rfl (by kernel_rfl)).is⟩, ?_⟩
    refine ⟨fun a' w' F => ⟨_, rfl, wanted_some rfl rfl (F.at' 5 62 _ rfl (by kernel_rfl)), arm_load rfl (F.keep 4 (Value.pointer (some ⟨gb, 0, none⟩)) (by kernel_rfl) rfl).is (Vb.mono F.below)⟩, ?_⟩
    refine ⟨fun a' w' F => ⟨_, rfl, wanted_some rfl rfl (F.at' 5 62 _ rfl (by kernel_rfl)), arm_load rfl (F.keep 3 (Value.pointer (some ⟨ga, 0, none⟩)) (by kernel_rfl) rfl).is (Va.mono F.below)⟩, ?_⟩
    refine ⟨fun a' w' F => ⟨_, rfl, wanted_some rfl rfl (F.at' 5 62 _ rfl (by kernel_rfl)), arm_Gcd rfl (F.at' 6 63 _ rfl (by kernel_rfl)).is (F.at' 7 64 _ rfl (by kernel_rfl)).is (nlb' (sm_nl f4b) (by decide)) (nlb' (sm_nl f4a) (by decide)) (by rw [hidx.out]; exact Nat.gcd_comm n m)⟩, ?_⟩
    refine ⟨fun a' w' F => ⟨_, rfl, wanted_some rfl rfl (F.at' 5 62 _ rfl (by kernel_rfl)), arm_load rfl (F.keep 7 (Value.pointer (some ⟨gx, 0, none⟩)) (by kernel_rfl) rfl).is (Vx.mono F.below)⟩, ?_⟩
    refine ⟨fun a' w' F => ⟨_, rfl, wanted_some rfl rfl (F.at' 5 62 _ rfl (by kernel_rfl)), arm_Same rfl (F.at' 8 65 _ rfl (by kernel_rfl)).is (F.at' 9 66 _ rfl (by kernel_rfl)).is (nlb' bx (by decide)) (nlb' bx (by decide)) (decide_eq_true (rfl))⟩, ?_⟩
    refine ⟨fun a' w' F => ⟨_, rfl, wanted_none rfl, arm_pick rfl (F.at' 5 62 _ rfl (by kernel_rfl)).is (fun _ => (F.at' 10 67 _ rfl (by kernel_rfl)).is) (fun h => by cases h)⟩, ?_⟩
    refine ⟨fun a' w' F => ⟨_, rfl, wanted_none rfl, arm_move (.inl rfl) (F.at' 11 68 _ rfl (by kernel_rfl)).is⟩, ?_⟩
    refine ⟨fun a' w' F => ⟨_, rfl, wanted_some rfl rfl (F.at' 12 69 _ rfl (by kernel_rfl)), arm_awake rfl⟩, ?_⟩
    refine ⟨fun a' w' F => ⟨_, rfl, wanted_none rfl, arm_pick rfl (F.at' 12 69 _ rfl (by kernel_rfl)).is (fun _ => (F.at' 13 70 _ rfl (by kernel_rfl)).is) (fun h => by cases h)⟩, ?_⟩
    refine ⟨fun a' w' F => ⟨_, rfl, wanted_none rfl, arm_move (.inr rfl) (F.at' 14 71 _ rfl (by kernel_rfl)).is⟩, ?_⟩
    exact trivial
  · intro a' w' F
    obtain ⟨v, h1, h2⟩ := F.at' 15 6 _ rfl
    have h3 : v = Value.bool true := h2
    subst h3
    rename_i hK
    refine hK a' w' ?_
    refine wp_ret ?_
    show bodyPost Try.prog Try.f4 (fun e w' => RetV w (.bool true) e w') .ret a' w'
    exact bodyPost_ret (res_tmp rfl h1) F.defers ⟨rfl, hb1.trans (F.below.mono hb1.size)⟩
end Go.Proofs.Ythpndmamegfbkaa
