/- The reference's Cmp. -/
import Derived.Test.YthpndmamegfbkaaS3
namespace Go.Proofs.Ythpndmamegfbkaa
set_option linter.unusedSimpArgs false
set_option linter.unusedVariables false
open Go.RowKit
def cmpTab4 (ga gb m n k : Nat) : List (Nat × Tmp × Sp) :=
   [(0, 18, .nat (m)),
    (1, 19, .val (Value.int IntKind.i64 ((k : Nat)))),
    (2, 20, .val (Value.int IntKind.u64 (((D (m) (k) : Nat) : Int)))),
    (3, 21, .nat (n)),
    (4, 22, .val (Value.int IntKind.i64 ((k : Nat)))),
    (5, 23, .val (Value.int IntKind.u64 (((D (n) (k) : Nat) : Int)))),
    (6, 24, .val (Value.bool (decide (((D m k : Nat) : Int) < ((D n k : Nat) : Int)))))]
def cmpTab6 (ga gb m n k : Nat) : List (Nat × Tmp × Sp) :=
   [(0, 25, .nat (m)),
    (1, 26, .val (Value.int IntKind.i64 ((k : Nat)))),
    (2, 27, .val (Value.int IntKind.u64 (((D (m) (k) : Nat) : Int)))),
    (3, 28, .nat (n)),
    (4, 29, .val (Value.int IntKind.i64 ((k : Nat)))),
    (5, 30, .val (Value.int IntKind.u64 (((D (n) (k) : Nat) : Int)))),
    (6, 31, .val (Value.bool (decide (((D m k : Nat) : Int) > ((D n k : Nat) : Int)))))]
set_option maxRecDepth 100000 in
set_option maxHeartbeats 1000000 in
theorem c_ref_Cmp (va vb : Value) (m n : Nat) (w : World) (ha : IsN w va m) (hb : IsN w vb n) (hm : nl m ≤ 1000000000000) (hn : nl n ≤ 1000000000000) :
    Calls Try.prog 15 #[va, vb] w fun e w' => RetV w (.int .i64 (cmpI m n)) e w' := by
  obtain ⟨a, ca, rfl, hca, ra⟩ := ha
  obtain ⟨b, cb, rfl, hcb, rb⟩ := hb
  obtain ⟨k0, k1, k2⟩ := box2 (L := nl m) (c := ca) (N := m) (L2 := nl n) (c2 := cb) (N2 := n) ⟨a, ca, rfl, hca, ra⟩ ⟨b, cb, rfl, hcb, rb⟩
  obtain ⟨M, hM1, hM2, hM3⟩ : ∃ M, nl m ≤ M ∧ nl n ≤ M ∧ Hid (M = nl m ∨ M = nl n) := by
    rcases Nat.le_total (nl m) (nl n) with h | h
    · exact ⟨nl n, h, Nat.le_refl _, Lib.hid (.inr rfl)⟩
    · exact ⟨nl m, Nat.le_refl _, h, Lib.hid (.inl rfl)⟩
  go_enter Try.func15, Try.ntmps15
  go_upto_region 1 with (fail)
  go_cut [5] (fun s5 wx => s5 = .int .i64 ((M : Int) - 1) ∧ VarI wx w.heap.size m ∧ VarI wx (w.heap.size + 1) n ∧ Below w.heap.size w wx)
  case first =>
    obtain ⟨ya, da, qa, ia⟩ := k1
    have ea := qa.cell
    obtain ⟨yb, db, qb, ib⟩ := k2
    have eb := qb.cell
    rcases Nat.lt_or_ge (nl m) (nl n) with hlt | hge
    · obtain rfl : M = nl n := by have := hM3.out; omega
      go_wp2_with fail
      go_meet
      case rel => exact ⟨rfl, ⟨ya, da, qa, ia⟩, ⟨yb, db, qb, ib⟩, k0⟩
    · obtain rfl : M = nl m := by have := hM3.out; omega
      have hge' : ¬ nl m < nl n := by omega
      go_wp2_with fail
      go_meet
      case rel => exact ⟨rfl, ⟨ya, da, qa, ia⟩, ⟨yb, db, qb, ib⟩, k0⟩
  case rest =>
    obtain ⟨rfl, Va, Vb, hb1⟩ := hcut
    clear k0 k1 k2 ra rb
    have hM : M ≤ 1000000000000 := by rcases hM3.out with h | h <;> omega
    go_wp2_with fail
    go_loopw [5] (fun s5 wr => ∃ k : Nat, k ≤ M ∧ s5 = .int .i64 ((k : Int) - 1) ∧ Hid (m / 4294967296 ^ k = n / 4294967296 ^ k) ∧ VarI wr w.heap.size m ∧ VarI wr (w.heap.size + 1) n ∧ Below w.heap.size w wr) (fun s5 _ => ((intOf s5) + 1).toNat)
    case atStart => exact ⟨M, Nat.le_refl _, rfl, Lib.hid (by rw [Nat.div_eq_of_lt (nl_le_iff.1 hM1), Nat.div_eq_of_lt (nl_le_iff.1 hM2)]), Va, Vb, hb1⟩
    case round =>
      obtain ⟨k, hk, rfl, HR, Va, Vb, hb1⟩ := hrel
      cases k with
      | zero =>
        go_wp2
        go_ret
        exact ⟨by rw [cmpI_eq (by simpa using HR.out)]; rfl, hb1⟩
      | succ k =>
        have hk60 : k ≤ 60000000000000 := by omega
        have e : (((k + 1 : Nat) : Int) - 1) = (k : Int) := by omega
        simp only [e]
        clear e
        rcases Nat.lt_trichotomy (D m k) (D n k) with h | h | h
        · have h' : ((D m k : Nat) : Int) < ((D n k : Nat) : Int) := by omega
          go_upto_region 4 with (fail)
          refine wp_tabL Try.f15 4 (cmpTab4 w.heap.size (w.heap.size + 1) m n k) (by kernel_rfl) (by kernel_rfl) rfl (by kernel_rfl) (by kernel_rfl) ?_ ?_
          · refine ⟨fun a' w' F => ⟨_, rfl, wanted_none rfl, arm_load rfl (F.keep 2 (Value.pointer (some ⟨w.heap.size, 0, none⟩)) (by kernel_rfl) rfl).is (Va.mono F.below)⟩, ?_⟩
            refine ⟨fun a' w' F => ⟨_, rfl, wanted_none rfl, arm_move (.inl rfl) (F.keep 5 (Value.int IntKind.i64 ((k : Nat))) (by kernel_rfl) rfl).is⟩, ?_⟩
            refine ⟨fun a' w' F => ⟨_, rfl, wanted_none rfl, arm_digit rfl (F.at' 0 18 _ rfl (by kernel_rfl)).is (F.at' 1 19 _ rfl (by kernel_rfl)).is (hm) (hk60)⟩, ?_⟩
            refine ⟨fun a' w' F => ⟨_, rfl, wanted_none rfl, arm_load rfl (F.keep 3 (Value.pointer (some ⟨w.heap.size + 1, 0, none⟩)) (by kernel_rfl) rfl).is (Vb.mono F.below)⟩, ?_⟩
            refine ⟨fun a' w' F => ⟨_, rfl, wanted_none rfl, arm_move (.inl rfl) (F.keep 5 (Value.int IntKind.i64 ((k : Nat))) (by kernel_rfl) rfl).is⟩, ?_⟩
            refine ⟨fun a' w' F => ⟨_, rfl, wanted_none rfl, arm_digit rfl (F.at' 3 21 _ rfl (by kernel_rfl)).is (F.at' 4 22 _ rfl (by kernel_rfl)).is (hn) (hk60)⟩, ?_⟩
            refine ⟨fun a' w' F => ⟨_, rfl, wanted_none rfl, arm_bin rfl (F.at' 2 20 _ rfl (by kernel_rfl)).is (F.at' 5 23 _ rfl (by kernel_rfl)).is (fun _ => rfl) (fun _ => by go_simp)⟩, ?_⟩
            exact trivial
          intro gp wp bp G
          have ep6 : gp 6 = Value.bool (decide (((D m k : Nat) : Int) < ((D n k : Nat) : Int))) := G 6 24 _ rfl
          simp only [cmpTab4]
          simp only [putD, entries, List.map_cons, List.map_nil, List.foldl_cons, List.foldl_nil, Act.put, List.setIfInBounds_toArray, List.set_cons_zero, List.set_cons_succ, ep6]
          clear G
          go_wp2_with fail
          go_ret
          exact ⟨by rw [cmpI_lt (lt_of_digit HR.out h)]; rfl, hb1.trans (bp.mono hb1.size)⟩
        · have h1' : ¬ ((D m k : Nat) : Int) < ((D n k : Nat) : Int) := by omega
          have h2' : ¬ ((D n k : Nat) : Int) < ((D m k : Nat) : Int) := by omega
          have HD := Lib.hid h
          clear h
          go_upto_region 4 with (fail)
          refine wp_tabL Try.f15 4 (cmpTab4 w.heap.size (w.heap.size + 1) m n k) (by kernel_rfl) (by kernel_rfl) rfl (by kernel_rfl) (by kernel_rfl) ?_ ?_
          · refine ⟨fun a' w' F => ⟨_, rfl, wanted_none rfl, arm_load rfl (F.keep 2 (Value.pointer (some ⟨w.heap.size, 0, none⟩)) (by kernel_rfl) rfl).is (Va.mono F.below)⟩, ?_⟩
            refine ⟨fun a' w' F => ⟨_, rfl, wanted_none rfl, arm_move (.inl rfl) (F.keep 5 (Value.int IntKind.i64 ((k : Nat))) (by kernel_rfl) rfl).is⟩, ?_⟩
            refine ⟨fun a' w' F => ⟨_, rfl, wanted_none rfl, arm_digit rfl (F.at' 0 18 _ rfl (by kernel_rfl)).is (F.at' 1 19 _ rfl (by kernel_rfl)).is (hm) (hk60)⟩, ?_⟩
            refine ⟨fun a' w' F => ⟨_, rfl, wanted_none rfl, arm_load rfl (F.keep 3 (Value.pointer (some ⟨w.heap.size + 1, 0, none⟩)) (by kernel_rfl) rfl).is (Vb.mono F.below)⟩, ?_⟩
            refine ⟨fun a' w' F => ⟨_, rfl, wanted_none rfl, arm_move (.inl rfl) (F.keep 5 (Value.int IntKind.i64 ((k : Nat))) (by kernel_rfl) rfl).is⟩, ?_⟩
            refine ⟨fun a' w' F => ⟨_, rfl, wanted_none rfl, arm_digit rfl (F.at' 3 21 _ rfl (by kernel_rfl)).is (F.at' 4 22 _ rfl (by kernel_rfl)).is (hn) (hk60)⟩, ?_⟩
            refine ⟨fun a' w' F => ⟨_, rfl, wanted_none rfl, arm_bin rfl (F.at' 2 20 _ rfl (by kernel_rfl)).is (F.at' 5 23 _ rfl (by kernel_rfl)).is (fun _ => rfl) (fun _ => by go_simp)⟩, ?_⟩
            exact trivial
          intro gp wp bp G
          have ep6 : gp 6 = Value.bool (decide (((D m k : Nat) : Int) < ((D n k : Nat) : Int))) := G 6 24 _ rfl
          simp only [cmpTab4]
          simp only [putD, entries, List.map_cons, List.map_nil, List.foldl_cons, List.foldl_nil, Act.put, List.setIfInBounds_toArray, List.set_cons_zero, List.set_cons_succ, ep6]
          clear G
          replace Va := Va.mono bp
          replace Vb := Vb.mono bp
          go_upto_region 6 with (fail)
          refine wp_tabL Try.f15 6 (cmpTab6 w.heap.size (w.heap.size + 1) m n k) (by kernel_rfl) (by kernel_rfl) rfl (by kernel_rfl) (by kernel_rfl) ?_ ?_
          · refine ⟨fun a' w' F => ⟨_, rfl, wanted_none rfl, arm_load rfl (F.keep 2 (Value.pointer (some ⟨w.heap.size, 0, none⟩)) (by kernel_rfl) rfl).is (Va.mono F.below)⟩, ?_⟩
            refine ⟨fun a' w' F => ⟨_, rfl, wanted_none rfl, arm_move (.inl rfl) (F.keep 5 (Value.int IntKind.i64 ((k : Nat))) (by kernel_rfl) rfl).is⟩, ?_⟩
            refine ⟨fun a' w' F => ⟨_, rfl, wanted_none rfl, arm_digit rfl (F.at' 0 25 _ rfl (by kernel_rfl)).is (F.at' 1 26 _ rfl (by kernel_rfl)).is (hm) (hk60)⟩, ?_⟩
            refine ⟨fun a' w' F => ⟨_, rfl, wanted_none rfl, arm_load rfl (F.keep 3 (Value.pointer (some ⟨w.heap.size + 1, 0, none⟩)) (by kernel_rfl) rfl).is (Vb.mono F.below)⟩, ?_⟩
            refine ⟨fun a' w' F => ⟨_, rfl, wanted_none rfl, arm_move (.inl rfl) (F.keep 5 (Value.int IntKind.i64 ((k : Nat))) (by kernel_rfl) rfl).is⟩, ?_⟩
            refine ⟨fun a' w' F => ⟨_, rfl, wanted_none rfl, arm_digit rfl (F.at' 3 28 _ rfl (by kernel_rfl)).is (F.at' 4 29 _ rfl (by kernel_rfl)).is (hn) (hk60)⟩, ?_⟩
            refine ⟨fun a' w' F => ⟨_, rfl, wanted_none rfl, arm_bin rfl (F.at' 2 27 _ rfl (by kernel_rfl)).is (F.at' 5 30 _ rfl (by kernel_rfl)).is (fun _ => rfl) (fun _ => by go_simp)⟩, ?_⟩
            exact trivial
          intro gq wq bq G
          have eq6 : gq 6 = Value.bool (decide (((D m k : Nat) : Int) > ((D n k : Nat) : Int))) := G 6 31 _ rfl
          simp only [cmpTab6]
          simp only [putD, entries, List.map_cons, List.map_nil, List.foldl_cons, List.foldl_nil, Act.put, List.setIfInBounds_toArray, List.set_cons_zero, List.set_cons_succ, eq6]
          clear G
          go_wp2_with fail
          go_roundw
          case rel => exact ⟨k, by omega, by go_num, Lib.hid (eq_of_digit HR.out HD.out), Va.mono bq, Vb.mono bq, (hb1.trans (bp.mono hb1.size)).trans (bq.mono (hb1.trans (bp.mono hb1.size)).size)⟩
          case measure => simp [intOf] <;> omega
        · have h1' : ¬ ((D m k : Nat) : Int) < ((D n k : Nat) : Int) := by omega
          have h2' : ((D n k : Nat) : Int) < ((D m k : Nat) : Int) := by omega
          go_upto_region 4 with (fail)
          refine wp_tabL Try.f15 4 (cmpTab4 w.heap.size (w.heap.size + 1) m n k) (by kernel_rfl) (by kernel_rfl) rfl (by kernel_rfl) (by kernel_rfl) ?_ ?_
          · refine ⟨fun a' w' F => ⟨_, rfl, wanted_none rfl, arm_load rfl (F.keep 2 (Value.pointer (some ⟨w.heap.size, 0, none⟩)) (by kernel_rfl) rfl).is (Va.mono F.below)⟩, ?_⟩
            refine ⟨fun a' w' F => ⟨_, rfl, wanted_none rfl, arm_move (.inl rfl) (F.keep 5 (Value.int IntKind.i64 ((k : Nat))) (by kernel_rfl) rfl).is⟩, ?_⟩
            refine ⟨fun a' w' F => ⟨_, rfl, wanted_none rfl, arm_digit rfl (F.at' 0 18 _ rfl (by kernel_rfl)).is (F.at' 1 19 _ rfl (by kernel_rfl)).is (hm) (hk60)⟩, ?_⟩
            refine ⟨fun a' w' F => ⟨_, rfl, wanted_none rfl, arm_load rfl (F.keep 3 (Value.pointer (some ⟨w.heap.size + 1, 0, none⟩)) (by kernel_rfl) rfl).is (Vb.mono F.below)⟩, ?_⟩
            refine ⟨fun a' w' F => ⟨_, rfl, wanted_none rfl, arm_move (.inl rfl) (F.keep 5 (Value.int IntKind.i64 ((k : Nat))) (by kernel_rfl) rfl).is⟩, ?_⟩
            refine ⟨fun a' w' F => ⟨_, rfl, wanted_none rfl, arm_digit rfl (F.at' 3 21 _ rfl (by kernel_rfl)).is (F.at' 4 22 _ rfl (by kernel_rfl)).is (hn) (hk60)⟩, ?_⟩
            refine ⟨fun a' w' F => ⟨_, rfl, wanted_none rfl, arm_bin rfl (F.at' 2 20 _ rfl (by kernel_rfl)).is (F.at' 5 23 _ rfl (by kernel_rfl)).is (fun _ => rfl) (fun _ => by go_simp)⟩, ?_⟩
            exact trivial
          intro gp wp bp G
          have ep6 : gp 6 = Value.bool (decide (((D m k : Nat) : Int) < ((D n k : Nat) : Int))) := G 6 24 _ rfl
          simp only [cmpTab4]
          simp only [putD, entries, List.map_cons, List.map_nil, List.foldl_cons, List.foldl_nil, Act.put, List.setIfInBounds_toArray, List.set_cons_zero, List.set_cons_succ, ep6]
          clear G
          replace Va := Va.mono bp
          replace Vb := Vb.mono bp
          go_upto_region 6 with (fail)
          refine wp_tabL Try.f15 6 (cmpTab6 w.heap.size (w.heap.size + 1) m n k) (by kernel_rfl) (by kernel_rfl) rfl (by kernel_rfl) (by kernel_rfl) ?_ ?_
          · refine ⟨fun a' w' F => ⟨_, rfl, wanted_none rfl, arm_load rfl (F.keep 2 (Value.pointer (some ⟨w.heap.size, 0, none⟩)) (by kernel_rfl) rfl).is (Va.mono F.below)⟩, ?_⟩
            refine ⟨fun a' w' F => ⟨_, rfl, wanted_none rfl, arm_move (.inl rfl) (F.keep 5 (Value.int IntKind.i64 ((k : Nat))) (by kernel_rfl) rfl).is⟩, ?_⟩
            refine ⟨fun a' w' F => ⟨_, rfl, wanted_none rfl, arm_digit rfl (F.at' 0 25 _ rfl (by kernel_rfl)).is (F.at' 1 26 _ rfl (by kernel_rfl)).is (hm) (hk60)⟩, ?_⟩
            refine ⟨fun a' w' F => ⟨_, rfl, wanted_none rfl, arm_load rfl (F.keep 3 (Value.pointer (some ⟨w.heap.size + 1, 0, none⟩)) (by kernel_rfl) rfl).is (Vb.mono F.below)⟩, ?_⟩
            refine ⟨fun a' w' F => ⟨_, rfl, wanted_none rfl, arm_move (.inl rfl) (F.keep 5 (Value.int IntKind.i64 ((k : Nat))) (by kernel_rfl) rfl).is⟩, ?_⟩
            refine ⟨fun a' w' F => ⟨_, rfl, wanted_none rfl, arm_digit rfl (F.at' 3 28 _ rfl (by kernel_rfl)).is (F.at' 4 29 _ rfl (by kernel_rfl)).is (hn) (hk60)⟩, ?_⟩
            refine ⟨fun a' w' F => ⟨_, rfl, wanted_none rfl, arm_bin rfl (F.at' 2 27 _ rfl (by kernel_rfl)).is (F.at' 5 30 _ rfl (by kernel_rfl)).is (fun _ => rfl) (fun _ => by go_simp)⟩, ?_⟩
            exact trivial
          intro gq wq bq G
          have eq6 : gq 6 = Value.bool (decide (((D m k : Nat) : Int) > ((D n k : Nat) : Int))) := G 6 31 _ rfl
          simp only [cmpTab6]
          simp only [putD, entries, List.map_cons, List.map_nil, List.foldl_cons, List.foldl_nil, Act.put, List.setIfInBounds_toArray, List.set_cons_zero, List.set_cons_succ, eq6]
          clear G
          go_wp2_with fail
          go_ret
          exact ⟨by rw [cmpI_gt (lt_of_digit HR.out.symm h)]; rfl, (hb1.trans (bp.mono hb1.size)).trans (bq.mono (hb1.trans (bp.mono hb1.size)).size)⟩
end Go.Proofs.Ythpndmamegfbkaa
