/- The reference's Cmp. The reference's Add. The reference's Sub. The reference's Mul. The reference's operations in regions that draw their order. The reference's Bits, Of, bit. More operations of regions that draw their order. Tables for a part of a region: what is left of the region comes behind; new variables. The reference's bit. The state of the reference's DivMod. -/
import Derived.Test.YtldnimohnbjfaaaP04
namespace Go.Proofs.Ytldnimohnbjfaaa
set_option linter.unusedSimpArgs false
set_option linter.unusedVariables false
set_option maxRecDepth 100000
open Go.RowKit
def cmpTab4 (ga gb m n k : Nat) : List (Nat × Tmp × Sp) :=
   [(0, 18, .nat (m)),
    (1, 19, .val (Value.int IntKind.i64 ((k : Nat)))),
    (2, 20, .val (Value.int IntKind.u64 (((D (m) (k) : Nat) : Int)))),
    (3, 21, .nat (n)),
    (4, 22, .val (Value.int IntKind.i64 ((k : Nat)))),
    (5, 23, .val (Value.int IntKind.u64 (((D (n) (k) : Nat) : Int)))),
    (6, 24, .val (Value.bool (decide (((D m k : Nat) : Int) < ((D n k : Nat) : Int)))))]
def cmpTab6 (ga gb m n k : Nat) : List (Nat × Tmp × Sp) :=
   [(0, 25, .nat (m)),
    (1, 26, .val (Value.int IntKind.i64 ((k : Nat)))),
    (2, 27, .val (Value.int IntKind.u64 (((D (m) (k) : Nat) : Int)))),
    (3, 28, .nat (n)),
    (4, 29, .val (Value.int IntKind.i64 ((k : Nat)))),
    (5, 30, .val (Value.int IntKind.u64 (((D (n) (k) : Nat) : Int)))),
    (6, 31, .val (Value.bool (decide (((D m k : Nat) : Int) > ((D n k : Nat) : Int)))))]
set_option maxRecDepth 100000 in
set_option maxHeartbeats 1000000 in
theorem c_ref_Cmp (va vb : Value) (m n : Nat) (w : World) (ha : IsN w va m) (hb : IsN w vb n) (hm : nl m ≤ 1000000000000) (hn : nl n ≤ 1000000000000) :
    Calls Try.prog 60 #[va, vb] w fun e w' => RetV w (.int .i64 (cmpI m n)) e w' := by
  obtain ⟨a, ca, rfl, hca, ra⟩ := ha
  obtain ⟨b, cb, rfl, hcb, rb⟩ := hb
  obtain ⟨k0, k1, k2⟩ := box2 (L := nl m) (c := ca) (N := m) (L2 := nl n) (c2 := cb) (N2 := n) ⟨a, ca, rfl, hca, ra⟩ ⟨b, cb, rfl, hcb, rb⟩
  obtain ⟨M, hM1, hM2, hM3⟩ : ∃ M, nl m ≤ M ∧ nl n ≤ M ∧ Hid (M = nl m ∨ M = nl n) := by
    rcases Nat.le_total (nl m) (nl n) with h | h
    · exact ⟨nl n, h, Nat.le_refl _, Lib.hid (.inr rfl)⟩
    · exact ⟨nl m, Nat.le_refl _, h, Lib.hid (.inl rfl)⟩
  go_enter Try.func60, Try.ntmps60
  go_upto_region 1 with (fail)
  go_cut [5] (fun s5 wx => s5 = .int .i64 ((M : Int) - 1) ∧ VarI wx w.heap.size m ∧ VarI wx (w.heap.size + 1) n ∧ Below w.heap.size w wx)
  case first =>
    obtain ⟨ya, da, qa, ia⟩ := k1
    have ea := qa.cell
    obtain ⟨yb, db, qb, ib⟩ := k2
    have eb := qb.cell
    rcases Nat.lt_or_ge (nl m) (nl n) with hlt | hge
    · obtain rfl : M = nl n := by have := hM3.out; omega
      go_wp2_with fail
      go_meet
      case rel => exact ⟨rfl, ⟨ya, da, qa, ia⟩, ⟨yb, db, qb, ib⟩, k0⟩
    · obtain rfl : M = nl m := by have := hM3.out; omega
      have hge' : ¬ nl m < nl n := by omega
      go_wp2_with fail
      go_meet
      case rel => exact ⟨rfl, ⟨ya, da, qa, ia⟩, ⟨yb, db, qb, ib⟩, k0⟩
  case rest =>
    obtain ⟨rfl, Va, Vb, hb1⟩ := hcut
    clear k0 k1 k2 ra rb
    have hM : M ≤ 1000000000000 := by rcases hM3.out with h | h <;> omega
    go_wp2_with fail
    go_loopw [5] (fun s5 wr => ∃ k : Nat, k ≤ M ∧ s5 = .int .i64 ((k : Int) - 1) ∧ Hid (m / 4294967296 ^ k = n / 4294967296 ^ k) ∧ VarI wr w.heap.size m ∧ VarI wr (w.heap.size + 1) n ∧ Below w.heap.size w wr) (fun s5 _ => ((intOf s5) + 1).toNat)
    case atStart => exact ⟨M, Nat.le_refl _, rfl, Lib.hid (by rw [Nat.div_eq_of_lt (nl_le_iff.1 hM1), Nat.div_eq_of_lt (nl_le_iff.1 hM2)]), Va, Vb, hb1⟩
    case round =>
      obtain ⟨k, hk, rfl, HR, Va, Vb, hb1⟩ := hrel
      cases k with
      | zero =>
        go_wp2
        go_ret
        exact ⟨by rw [cmpI_eq (by simpa using HR.out)]; rfl, hb1⟩
      | succ k =>
        have hk60 : k ≤ 60000000000000 := by omega
        have e : (((k + 1 : Nat) : Int) - 1) = (k : Int) := by omega
        simp only [e]
        clear e
        rcases Nat.lt_trichotomy (D m k) (D n k) with h | h | h
        · have h' : ((D m k : Nat) : Int) < ((D n k : Nat) : Int) := by omega
          go_upto_region 4 with (fail)
          refine wp_tabL Try.f60 4 (cmpTab4 w.heap.size (w.heap.size + 1) m n k) (by kernel_rfl) (by kernel_rfl) rfl (by kernel_rfl) (by kernel_rfl) ?_ ?_
          · refine ⟨fun a' w' F => ⟨_, rfl, wanted_none rfl, arm_load rfl (F.keep 2 (Value.pointer (some ⟨w.heap.size, 0, none⟩)) (by kernel_rfl) rfl).is (Va.mono F.below)⟩, ?_⟩
            refine ⟨fun a' w' F => ⟨_, rfl, wanted_none rfl, arm_move (.inl rfl) (F.keep 5 (Value.int IntKind.i64 ((k : Nat))) (by kernel_rfl) rfl).is⟩, ?_⟩
            refine ⟨fun a' w' F => ⟨_, rfl, wanted_none rfl, arm_digit rfl (F.f 0 rfl) (F.f 1 rfl) (hm) (hk60)⟩, ?_⟩
            refine ⟨fun a' w' F => ⟨_, rfl, wanted_none rfl, arm_load rfl (F.keep 3 (Value.pointer (some ⟨w.heap.size + 1, 0, none⟩)) (by kernel_rfl) rfl).is (Vb.mono F.below)⟩, ?_⟩
            refine ⟨fun a' w' F => ⟨_, rfl, wanted_none rfl, arm_move (.inl rfl) (F.keep 5 (Value.int IntKind.i64 ((k : Nat))) (by kernel_rfl) rfl).is⟩, ?_⟩
            refine ⟨fun a' w' F => ⟨_, rfl, wanted_none rfl, arm_digit rfl (F.f 3 rfl) (F.f 4 rfl) (hn) (hk60)⟩, ?_⟩
            refine ⟨fun a' w' F => ⟨_, rfl, wanted_none rfl, arm_bin rfl (F.f 2 rfl) (F.f 5 rfl) (fun _ => rfl) (fun _ => by go_simp)⟩, ?_⟩
            exact trivial
          intro gp wp bp G
          have ep6 : gp 6 = Value.bool (decide (((D m k : Nat) : Int) < ((D n k : Nat) : Int))) := G 6 24 _ rfl
          simp only [cmpTab4]
          simp only [putD, entries, List.map_cons, List.map_nil, List.foldl_cons, List.foldl_nil, Act.put, List.setIfInBounds_toArray, List.set_cons_zero, List.set_cons_succ, ep6]
          clear G
          go_wp2_with fail
          go_ret
          exact ⟨by rw [cmpI_lt (lt_of_digit HR.out h)]; rfl, hb1.trans (bp.mono hb1.size)⟩
        · have h1' : ¬ ((D m k : Nat) : Int) < ((D n k : Nat) : Int) := by omega
          have h2' : ¬ ((D n k : Nat) : Int) < ((D m k : Nat) : Int) := by omega
          have HD := Lib.hid h
          clear h
          go_upto_region 4 with (fail)
          refine wp_tabL Try.f60 4 (cmpTab4 w.heap.size (w.heap.size + 1) m n k) (by kernel_rfl) (by kernel_rfl) rfl (by kernel_rfl) (by kernel_rfl) ?_ ?_
          · refine ⟨fun a' w' F => ⟨_, rfl, wanted_none rfl, arm_load rfl (F.keep 2 (Value.pointer (some ⟨w.heap.size, 0, none⟩)) (by kernel_rfl) rfl).is (Va.mono F.below)⟩, ?_⟩
            refine ⟨fun a' w' F => ⟨_, rfl, wanted_none rfl, arm_move (.inl rfl) (F.keep 5 (Value.int IntKind.i64 ((k : Nat))) (by kernel_rfl) rfl).is⟩, ?_⟩
            refine ⟨fun a' w' F => ⟨_, rfl, wanted_none rfl, arm_digit rfl (F.f 0 rfl) (F.f 1 rfl) (hm) (hk60)⟩, ?_⟩
            refine ⟨fun a' w' F => ⟨_, rfl, wanted_none rfl, arm_load rfl (F.keep 3 (Value.pointer (some ⟨w.heap.size + 1, 0, none⟩)) (by kernel_rfl) rfl).is (Vb.mono F.below)⟩, ?_⟩
            refine ⟨fun a' w' F => ⟨_, rfl, wanted_none rfl, arm_move (.inl rfl) (F.keep 5 (Value.int IntKind.i64 ((k : Nat))) (by kernel_rfl) rfl).is⟩, ?_⟩
            refine ⟨fun a' w' F => ⟨_, rfl, wanted_none rfl, arm_digit rfl (F.f 3 rfl) (F.f 4 rfl) (hn) (hk60)⟩, ?_⟩
            refine ⟨fun a' w' F => ⟨_, rfl, wanted_none rfl, arm_bin rfl (F.f 2 rfl) (F.f 5 rfl) (fun _ => rfl) (fun _ => by go_simp)⟩, ?_⟩
            exact trivial
          intro gp wp bp G
          have ep6 : gp 6 = Value.bool (decide (((D m k : Nat) : Int) < ((D n k : Nat) : Int))) := G 6 24 _ rfl
          simp only [cmpTab4]
          simp only [putD, entries, List.map_cons, List.map_nil, List.foldl_cons, List.foldl_nil, Act.put, List.setIfInBounds_toArray, List.set_cons_zero, List.set_cons_succ, ep6]
          clear G
          replace Va := Va.mono bp
          replace Vb := Vb.mono bp
          go_upto_region 6 with (fail)
          refine wp_tabL Try.f60 6 (cmpTab6 w.heap.size (w.heap.size + 1) m n k) (by kernel_rfl) (by kernel_rfl) rfl (by kernel_rfl) (by kernel_rfl) ?_ ?_
          · refine ⟨fun a' w' F => ⟨_, rfl, wanted_none rfl, arm_load rfl (F.keep 2 (Value.pointer (some ⟨w.heap.size, 0, none⟩)) (by kernel_rfl) rfl).is (Va.mono F.below)⟩, ?_⟩
            refine ⟨fun a' w' F => ⟨_, rfl, wanted_none rfl, arm_move (.inl rfl) (F.keep 5 (Value.int IntKind.i64 ((k : Nat))) (by kernel_rfl) rfl).is⟩, ?_⟩
            refine ⟨fun a' w' F => ⟨_, rfl, wanted_none rfl, arm_digit rfl (F.f 0 rfl) (F.f 1 rfl) (hm) (hk60)⟩, ?_⟩
            refine ⟨fun a' w' F => ⟨_, rfl, wanted_none rfl, arm_load rfl (F.keep 3 (Value.pointer (some ⟨w.heap.size + 1, 0, none⟩)) (by kernel_rfl) rfl).is (Vb.mono F.below)⟩, ?_⟩
            refine ⟨fun a' w' F => ⟨_, rfl, wanted_none rfl, arm_move (.inl rfl) (F.keep 5 (Value.int IntKind.i64 ((k : Nat))) (by kernel_rfl) rfl).is⟩, ?_⟩
            refine ⟨fun a' w' F => ⟨_, rfl, wanted_none rfl, arm_digit rfl (F.f 3 rfl) (F.f 4 rfl) (hn) (hk60)⟩, ?_⟩
            refine ⟨fun a' w' F => ⟨_, rfl, wanted_none rfl, arm_bin rfl (F.f 2 rfl) (F.f 5 rfl) (fun _ => rfl) (fun _ => by go_simp)⟩, ?_⟩
            exact trivial
          intro gq wq bq G
          have eq6 : gq 6 = Value.bool (decide (((D m k : Nat) : Int) > ((D n k : Nat) : Int))) := G 6 31 _ rfl
          simp only [cmpTab6]
          simp only [putD, entries, List.map_cons, List.map_nil, List.foldl_cons, List.foldl_nil, Act.put, List.setIfInBounds_toArray, List.set_cons_zero, List.set_cons_succ, eq6]
          clear G
          go_wp2_with fail
          go_roundw
          case rel => exact ⟨k, by omega, by go_num, Lib.hid (eq_of_digit HR.out HD.out), Va.mono bq, Vb.mono bq, (hb1.trans (bp.mono hb1.size)).trans (bq.mono (hb1.trans (bp.mono hb1.size)).size)⟩
          case measure => simp [intOf] <;> omega
        · have h1' : ¬ ((D m k : Nat) : Int) < ((D n k : Nat) : Int) := by omega
          have h2' : ((D n k : Nat) : Int) < ((D m k : Nat) : Int) := by omega
          go_upto_region 4 with (fail)
          refine wp_tabL Try.f60 4 (cmpTab4 w.heap.size (w.heap.size + 1) m n k) (by kernel_rfl) (by kernel_rfl) rfl (by kernel_rfl) (by kernel_rfl) ?_ ?_
          · refine ⟨fun a' w' F => ⟨_, rfl, wanted_none rfl, arm_load rfl (F.keep 2 (Value.pointer (some ⟨w.heap.size, 0, none⟩)) (by kernel_rfl) rfl).is (Va.mono F.below)⟩, ?_⟩
            refine ⟨fun a' w' F => ⟨_, rfl, wanted_none rfl, arm_move (.inl rfl) (F.keep 5 (Value.int IntKind.i64 ((k : Nat))) (by kernel_rfl) rfl).is⟩, ?_⟩
            refine ⟨fun a' w' F => ⟨_, rfl, wanted_none rfl, arm_digit rfl (F.f 0 rfl) (F.f 1 rfl) (hm) (hk60)⟩, ?_⟩
            refine ⟨fun a' w' F => ⟨_, rfl, wanted_none rfl, arm_load rfl (F.keep 3 (Value.pointer (some ⟨w.heap.size + 1, 0, none⟩)) (by kernel_rfl) rfl).is (Vb.mono F.below)⟩, ?_⟩
            refine ⟨fun a' w' F => ⟨_, rfl, wanted_none rfl, arm_move (.inl rfl) (F.keep 5 (Value.int IntKind.i64 ((k : Nat))) (by kernel_rfl) rfl).is⟩, ?_⟩
            refine ⟨fun a' w' F => ⟨_, rfl, wanted_none rfl, arm_digit rfl (F.f 3 rfl) (F.f 4 rfl) (hn) (hk60)⟩, ?_⟩
            refine ⟨fun a' w' F => ⟨_, rfl, wanted_none rfl, arm_bin rfl (F.f 2 rfl) (F.f 5 rfl) (fun _ => rfl) (fun _ => by go_simp)⟩, ?_⟩
            exact trivial
          intro gp wp bp G
          have ep6 : gp 6 = Value.bool (decide (((D m k : Nat) : Int) < ((D n k : Nat) : Int))) := G 6 24 _ rfl
          simp only [cmpTab4]
          simp only [putD, entries, List.map_cons, List.map_nil, List.foldl_cons, List.foldl_nil, Act.put, List.setIfInBounds_toArray, List.set_cons_zero, List.set_cons_succ, ep6]
          clear G
          replace Va := Va.mono bp
          replace Vb := Vb.mono bp
          go_upto_region 6 with (fail)
          refine wp_tabL Try.f60 6 (cmpTab6 w.heap.size (w.heap.size + 1) m n k) (by kernel_rfl) (by kernel_rfl) rfl (by kernel_rfl) (by kernel_rfl) ?_ ?_
          · refine ⟨fun a' w' F => ⟨_, rfl, wanted_none rfl, arm_load rfl (F.keep 2 (Value.pointer (some ⟨w.heap.size, 0, none⟩)) (by kernel_rfl) rfl).is (Va.mono F.below)⟩, ?_⟩
            refine ⟨fun a' w' F => ⟨_, rfl, wanted_none rfl, arm_move (.inl rfl) (F.keep 5 (Value.int IntKind.i64 ((k : Nat))) (by kernel_rfl) rfl).is⟩, ?_⟩
            refine ⟨fun a' w' F => ⟨_, rfl, wanted_none rfl, arm_digit rfl (F.f 0 rfl) (F.f 1 rfl) (hm) (hk60)⟩, ?_⟩
            refine ⟨fun a' w' F => ⟨_, rfl, wanted_none rfl, arm_load rfl (F.keep 3 (Value.pointer (some ⟨w.heap.size + 1, 0, none⟩)) (by kernel_rfl) rfl).is (Vb.mono F.below)⟩, ?_⟩
            refine ⟨fun a' w' F => ⟨_, rfl, wanted_none rfl, arm_move (.inl rfl) (F.keep 5 (Value.int IntKind.i64 ((k : Nat))) (by kernel_rfl) rfl).is⟩, ?_⟩
            refine ⟨fun a' w' F => ⟨_, rfl, wanted_none rfl, arm_digit rfl (F.f 3 rfl) (F.f 4 rfl) (hn) (hk60)⟩, ?_⟩
            refine ⟨fun a' w' F => ⟨_, rfl, wanted_none rfl, arm_bin rfl (F.f 2 rfl) (F.f 5 rfl) (fun _ => rfl) (fun _ => by go_simp)⟩, ?_⟩
            exact trivial
          intro gq wq bq G
          have eq6 : gq 6 = Value.bool (decide (((D m k : Nat) : Int) > ((D n k : Nat) : Int))) := G 6 31 _ rfl
          simp only [cmpTab6]
          simp only [putD, entries, List.map_cons, List.map_nil, List.foldl_cons, List.foldl_nil, Act.put, List.setIfInBounds_toArray, List.set_cons_zero, List.set_cons_succ, eq6]
          clear G
          go_wp2_with fail
          go_ret
          exact ⟨by rw [cmpI_gt (lt_of_digit HR.out.symm h)]; rfl, (hb1.trans (bp.mono hb1.size)).trans (bq.mono (hb1.trans (bp.mono hb1.size)).size)⟩
end Go.Proofs.Ytldnimohnbjfaaa
namespace Go.Proofs.Ytldnimohnbjfaaa
set_option linter.unusedSimpArgs false
set_option linter.unusedVariables false
set_option maxRecDepth 100000
open Go.RowKit
def addTab6 (ga gb m n i S X : Nat) : List (Nat × Tmp × Sp) :=
   [(0, 20, .nat (m)),
    (1, 21, .val (Value.int IntKind.i64 ((i : Nat)))),
    (2, 22, .val (Value.int IntKind.u64 (((D (m) (i) : Nat) : Int)))),
    (3, 23, .nat (n)),
    (4, 24, .val (Value.int IntKind.i64 ((i : Nat)))),
    (5, 25, .val (Value.int IntKind.u64 (((D (n) (i) : Nat) : Int)))),
    (6, 26, .val (Value.int IntKind.u64 (((S : Nat) : Int)))),
    (7, 27, .val (Value.int IntKind.u64 (((cy m n i : Nat) : Int)))),
    (8, 28, .val (Value.int IntKind.u64 (((X : Nat) : Int)))),
    (9, 8, .val (Value.int IntKind.u64 (((X : Nat) : Int))))]
theorem max_of (m n : Nat) : ∃ M, m ≤ M ∧ n ≤ M ∧ (M = m ∨ M = n) ∧ ((m < n ∧ M = n) ∨ (¬ m < n ∧ M = m)) := by
  rcases Nat.lt_or_ge m n with h | h
  · exact ⟨n, by omega, by omega, .inr rfl, .inl ⟨h, rfl⟩⟩
  · exact ⟨m, by omega, by omega, .inl rfl, .inr ⟨by omega, rfl⟩⟩
set_option maxRecDepth 100000 in
set_option maxHeartbeats 1000000 in
theorem c_ref_Add (va vb : Value) (m n : Nat) (w : World) (ha : IsN w va m) (hb : IsN w vb n) (hm : nl m ≤ 1000000000000) (hn : nl n ≤ 1000000000000) :
    Calls Try.prog 70 #[va, vb] w fun e w' => RetNew w (m + n) e w' := by
  obtain ⟨a, ca, rfl, hca, ra⟩ := ha
  obtain ⟨b, cb, rfl, hcb, rb⟩ := hb
  obtain ⟨k0, k1, k2⟩ := box2 (L := nl m) (c := ca) (N := m) (L2 := nl n) (c2 := cb) (N2 := n) ⟨a, ca, rfl, hca, ra⟩ ⟨b, cb, rfl, hcb, rb⟩
  have k3 := bel1 ((w.alloc (.cells #[.slice a (nl m) ca] 24)).alloc (.cells #[.slice b (nl n) cb] 24)) (.cells #[.slice none 0 0] 24)
  have k4 := VarB.made ((w.alloc (.cells #[.slice a (nl m) ca] 24)).alloc (.cells #[.slice b (nl n) cb] 24)) none 0 0
  rw [World.size_alloc, World.size_alloc] at k4
  replace k0 := k0.trans (k3.mono k0.size)
  replace k1 := VarR.mono k1 k3
  replace k2 := VarR.mono k2 k3
  obtain ⟨M, hM1, hM2, hM3, hMM⟩ := max_of (nl m) (nl n)
  have hM : M ≤ 1000000000000 := by rcases hM3 with h | h <;> omega
  clear hM3
  replace hMM := Lib.hid hMM
  go_enter Try.func70, Try.ntmps70
  go_upto_region 1 with (fail)
  go_cut [5] (fun s5 wx => s5 = .slice none 0 0 ∧ VarI wx w.heap.size m ∧ VarI wx (w.heap.size + 1) n ∧ VarB wx (w.heap.size + 1 + 1) none 0 0 ∧ Below w.heap.size w wx)
  case first =>
    go_wp2_with fail
    go_meet
    case rel => exact ⟨rfl, k1, k2, k4, k0⟩
  case rest =>
    obtain ⟨rfl, Va, Vb, vr, hb1⟩ := hcut
    clear k0 k1 k2 k3 k4 ra rb
    go_wp2_with fail
    go_loopw [5, 6, 7] (fun s5 s6 s7 wr => ∃ i : Nat, i ≤ M + 1 ∧ s7 = .int .i64 (i : Int) ∧ s6 = .int .u64 ((cy m n i : Nat) : Int) ∧ GR wr wc.heap.size s5 i ((m + n) % 4294967296 ^ i) ∧ Below wc.heap.size wc wr) (fun _ _ s7 _ => M + 1 - (intOf s7).toNat)
    case atStart => exact ⟨0, Nat.zero_le _, rfl, by rw [cy_zero]; rfl, by rw [Nat.pow_zero, Nat.mod_one]; exact GR.nil _ _, Below.refl _ _⟩
    case round =>
      obtain ⟨i, hi, rfl, rfl, hgr, hbr⟩ := hrel
      have Va1 := Va.mono hbr
      have Vb1 := Vb.mono hbr
      obtain ⟨ya, da, qa, ia⟩ := Va1
      have ea := qa.cell
      obtain ⟨yb, db, qb, ib⟩ := Vb1
      have eb := qb.cell
      have hi60 : i ≤ 60000000000000 := by omega
      have hcy := cy_le m n i
      by_cases hlt : i ≤ M
      · have hst := cy_step m n i
        have hd := D_lt (m + n) i
        obtain ⟨S, hS⟩ : ∃ S : Nat, Hid (S = D m i + D n i) := ⟨_, Lib.hid rfl⟩
        obtain ⟨X, hX⟩ : ∃ X : Nat, Hid (X = S + cy m n i) := ⟨_, Lib.hid rfl⟩
        have hSb : S < 8589934592 := by have := D_lt m i; have := D_lt n i; have := hS.out; omega
        have hXb : X < 8589934593 := by have := hX.out; omega
        have hrem : ((X : Nat) : Int) % 4294967296 = ((D (m + n) i : Nat) : Int) := by have := hX.out; have := hS.out; omega
        have hquo : ((X : Nat) : Int) / 4294967296 = ((cy m n (i + 1) : Nat) : Int) := by have := hX.out; have := hS.out; omega
        clear hst
        have hcy2 := cy_le m n (i + 1)
        have Va : VarI wr w.heap.size m := ⟨ya, da, qa, ia⟩
        have Vb : VarI wr (w.heap.size + 1) n := ⟨yb, db, qb, ib⟩
        rcases hMM.out with ⟨hmx, hme⟩ | ⟨hmx, hme⟩
        · have hle : i ≤ nl n := by omega
          have HME := Lib.hid hme
          clear hme hlt
          go_upto_region 6 with (fail)
          refine wp_tabL Try.f70 6 (addTab6 w.heap.size (w.heap.size + 1) m n i S X) (by kernel_rfl) (by kernel_rfl) rfl (by kernel_rfl) (by kernel_rfl) ?_ ?_
          · refine ⟨fun a' w' F => ⟨_, rfl, wanted_none rfl, arm_load rfl (F.keep 2 (Value.pointer (some ⟨w.heap.size, 0, none⟩)) (by kernel_rfl) rfl).is (Va.mono F.below)⟩, ?_⟩
            refine ⟨fun a' w' F => ⟨_, rfl, wanted_none rfl, arm_move (.inl rfl) (F.keep 7 (Value.int IntKind.i64 ((i : Nat))) (by kernel_rfl) rfl).is⟩, ?_⟩
            refine ⟨fun a' w' F => ⟨_, rfl, wanted_none rfl, arm_digit rfl (F.f 0 rfl) (F.f 1 rfl) (hm) (hi60)⟩, ?_⟩
            refine ⟨fun a' w' F => ⟨_, rfl, wanted_none rfl, arm_load rfl (F.keep 3 (Value.pointer (some ⟨w.heap.size + 1, 0, none⟩)) (by kernel_rfl) rfl).is (Vb.mono F.below)⟩, ?_⟩
            refine ⟨fun a' w' F => ⟨_, rfl, wanted_none rfl, arm_move (.inl rfl) (F.keep 7 (Value.int IntKind.i64 ((i : Nat))) (by kernel_rfl) rfl).is⟩, ?_⟩
            refine ⟨fun a' w' F => ⟨_, rfl, wanted_none rfl, arm_digit rfl (F.f 3 rfl) (F.f 4 rfl) (hn) (hi60)⟩, ?_⟩
            refine ⟨fun a' w' F => ⟨_, rfl, wanted_none rfl, arm_bin rfl (F.f 2 rfl) (F.f 5 rfl) (fun _ => rfl) (run_addU _ _ _ hS.out.symm (by have := hSb; omega))⟩, ?_⟩
            refine ⟨fun a' w' F => ⟨_, rfl, wanted_none rfl, arm_move (.inl rfl) (F.keep 6 (Value.int IntKind.u64 (((cy m n i : Nat) : Int))) (by kernel_rfl) rfl).is⟩, ?_⟩
            refine ⟨fun a' w' F => ⟨_, rfl, wanted_none rfl, arm_bin rfl (F.f 6 rfl) (F.f 7 rfl) (fun _ => rfl) (run_addU _ _ _ hX.out.symm (by have := hXb; omega))⟩, ?_⟩
            refine ⟨fun a' w' F => ⟨_, rfl, wanted_none rfl, arm_move (.inr rfl) (F.f 8 rfl)⟩, ?_⟩
            exact trivial
          intro gp wp bp G
          have ep9 : gp 9 = Value.int IntKind.u64 (((X : Nat) : Int)) := G 9 8 _ rfl
          simp only [addTab6]
          simp only [putD, entries, List.map_cons, List.map_nil, List.foldl_cons, List.foldl_nil, Act.put, List.setIfInBounds_toArray, List.set_cons_zero, List.set_cons_succ, ep9]
          clear G
          have hgr1 := hgr.below bp
          have hb2 := hbr.trans (bp.mono hbr.size)
          have hsr1 := hb2.size
          obtain ⟨a', c', rfl, hLc, hrw, hown⟩ := hgr1.open
          clear hgr ea qa ia eb qb ib Va Vb
          go_wp2_with (at_builtin; refine wpList_append_digit rfl _ _ rfl wc.heap.size (.slice a' i c') i ((m + n) % 4294967296 ^ i) (D (m + n) i) rfl hgr1 hsr1 rfl hd (by omega) ?_)
          intro v' w' hg' hb' hs'
          rw [mod_push] at hg'
          go_wp2_with fail
          go_roundw
          case rel => exact ⟨i + 1, by omega, by go_num, rfl, hg', hb2.trans hb'⟩
          case measure => simp [intOf] <;> omega
        · have hle : i ≤ nl m := by omega
          have HME := Lib.hid hme
          clear hme hlt
          go_upto_region 6 with (fail)
          refine wp_tabL Try.f70 6 (addTab6 w.heap.size (w.heap.size + 1) m n i S X) (by kernel_rfl) (by kernel_rfl) rfl (by kernel_rfl) (by kernel_rfl) ?_ ?_
          · refine ⟨fun a' w' F => ⟨_, rfl, wanted_none rfl, arm_load rfl (F.keep 2 (Value.pointer (some ⟨w.heap.size, 0, none⟩)) (by kernel_rfl) rfl).is (Va.mono F.below)⟩, ?_⟩
            refine ⟨fun a' w' F => ⟨_, rfl, wanted_none rfl, arm_move (.inl rfl) (F.keep 7 (Value.int IntKind.i64 ((i : Nat))) (by kernel_rfl) rfl).is⟩, ?_⟩
            refine ⟨fun a' w' F => ⟨_, rfl, wanted_none rfl, arm_digit rfl (F.f 0 rfl) (F.f 1 rfl) (hm) (hi60)⟩, ?_⟩
            refine ⟨fun a' w' F => ⟨_, rfl, wanted_none rfl, arm_load rfl (F.keep 3 (Value.pointer (some ⟨w.heap.size + 1, 0, none⟩)) (by kernel_rfl) rfl).is (Vb.mono F.below)⟩, ?_⟩
            refine ⟨fun a' w' F => ⟨_, rfl, wanted_none rfl, arm_move (.inl rfl) (F.keep 7 (Value.int IntKind.i64 ((i : Nat))) (by kernel_rfl) rfl).is⟩, ?_⟩
            refine ⟨fun a' w' F => ⟨_, rfl, wanted_none rfl, arm_digit rfl (F.f 3 rfl) (F.f 4 rfl) (hn) (hi60)⟩, ?_⟩
            refine ⟨fun a' w' F => ⟨_, rfl, wanted_none rfl, arm_bin rfl (F.f 2 rfl) (F.f 5 rfl) (fun _ => rfl) (run_addU _ _ _ hS.out.symm (by have := hSb; omega))⟩, ?_⟩
            refine ⟨fun a' w' F => ⟨_, rfl, wanted_none rfl, arm_move (.inl rfl) (F.keep 6 (Value.int IntKind.u64 (((cy m n i : Nat) : Int))) (by kernel_rfl) rfl).is⟩, ?_⟩
            refine ⟨fun a' w' F => ⟨_, rfl, wanted_none rfl, arm_bin rfl (F.f 6 rfl) (F.f 7 rfl) (fun _ => rfl) (run_addU _ _ _ hX.out.symm (by have := hXb; omega))⟩, ?_⟩
            refine ⟨fun a' w' F => ⟨_, rfl, wanted_none rfl, arm_move (.inr rfl) (F.f 8 rfl)⟩, ?_⟩
            exact trivial
          intro gp wp bp G
          have ep9 : gp 9 = Value.int IntKind.u64 (((X : Nat) : Int)) := G 9 8 _ rfl
          simp only [addTab6]
          simp only [putD, entries, List.map_cons, List.map_nil, List.foldl_cons, List.foldl_nil, Act.put, List.setIfInBounds_toArray, List.set_cons_zero, List.set_cons_succ, ep9]
          clear G
          have hgr1 := hgr.below bp
          have hb2 := hbr.trans (bp.mono hbr.size)
          have hsr1 := hb2.size
          obtain ⟨a', c', rfl, hLc, hrw, hown⟩ := hgr1.open
          clear hgr ea qa ia eb qb ib Va Vb
          go_wp2_with (at_builtin; refine wpList_append_digit rfl _ _ rfl wc.heap.size (.slice a' i c') i ((m + n) % 4294967296 ^ i) (D (m + n) i) rfl hgr1 hsr1 rfl hd (by omega) ?_)
          intro v' w' hg' hb' hs'
          rw [mod_push] at hg'
          go_wp2_with fail
          go_roundw
          case rel => exact ⟨i + 1, by omega, by go_num, rfl, hg', hb2.trans hb'⟩
          case measure => simp [intOf] <;> omega
      · obtain rfl : i = M + 1 := by omega
        have hsum : m + n < 4294967296 ^ (M + 1) := by
          have h1 := nl_le_iff.1 hM1
          have h2 := nl_le_iff.1 hM2
          rw [Nat.pow_succ]; omega
        rw [Nat.mod_eq_of_lt hsum] at hgr
        obtain ⟨a', c', rfl, hLc, hrw, hown⟩ := hgr.open
        rcases hMM.out with ⟨hmx, hme⟩ | ⟨hmx, hme⟩
        · generalize hi1 : M + 1 = i at *
          have hle : ¬ i ≤ nl n := by omega
          have HME := Lib.hid hme
          clear hme hlt
          go_wp2_with fail
          refine (c_Trim a' i c' (m + n) _ hrw (by omega)).mono ?_
          rintro e w2 ⟨v2, rfl, ⟨x2, c2, rfl, hc2, hx2⟩, bb⟩
          have n2 : NewN wc.heap.size w2 (.agg #[.slice x2 (nl (m + n)) c2]) (m + n) := NewN.weaken (base := wr.heap.size) ⟨x2, c2, rfl, hc2, hx2⟩ hbr.size
          have vr2 := (vr.mono hbr vr.lt).mono bb (Nat.lt_of_lt_of_le vr.lt hbr.size)
          have cr := vr2.cell
          have fr := vr2.frozen
          have n3 := n2.setVar (u := .slice x2 (nl (m + n)) c2) vr2
          go_wp2
          exact bodyPost_ret (res_nat rfl _ _ (w.heap.size + 1 + 1) _ rfl vr2.set.cell) rfl ⟨_, rfl, n3.weaken hb1.size, ((hb1.trans (hbr.mono hb1.size)).trans (bb.mono (Nat.le_trans hb1.size hbr.size))).setCell (p := ⟨w.heap.size + 1 + 1, 0, none⟩) (by simp; omega) _⟩
        · generalize hi1 : M + 1 = i at *
          have hle : ¬ i ≤ nl m := by omega
          have HME := Lib.hid hme
          clear hme hlt
          go_wp2_with fail
          refine (c_Trim a' i c' (m + n) _ hrw (by omega)).mono ?_
          rintro e w2 ⟨v2, rfl, ⟨x2, c2, rfl, hc2, hx2⟩, bb⟩
          have n2 : NewN wc.heap.size w2 (.agg #[.slice x2 (nl (m + n)) c2]) (m + n) := NewN.weaken (base := wr.heap.size) ⟨x2, c2, rfl, hc2, hx2⟩ hbr.size
          have vr2 := (vr.mono hbr vr.lt).mono bb (Nat.lt_of_lt_of_le vr.lt hbr.size)
          have cr := vr2.cell
          have fr := vr2.frozen
          have n3 := n2.setVar (u := .slice x2 (nl (m + n)) c2) vr2
          go_wp2
          exact bodyPost_ret (res_nat rfl _ _ (w.heap.size + 1 + 1) _ rfl vr2.set.cell) rfl ⟨_, rfl, n3.weaken hb1.size, ((hb1.trans (hbr.mono hb1.size)).trans (bb.mono (Nat.le_trans hb1.size hbr.size))).setCell (p := ⟨w.heap.size + 1 + 1, 0, none⟩) (by simp; omega) _⟩
end Go.Proofs.Ytldnimohnbjfaaa
namespace Go.Proofs.Ytldnimohnbjfaaa
set_option linter.unusedSimpArgs false
set_option linter.unusedVariables false
set_option maxRecDepth 100000
open Go.RowKit
def subTab8 (ga gb m n d i S T X : Nat) : List (Nat × Tmp × Sp) :=
   [(0, 22, .nat (m)),
    (1, 23, .val (Value.int IntKind.i64 ((i : Nat)))),
    (2, 24, .val (Value.int IntKind.u64 (((D (m) (i) : Nat) : Int)))),
    (3, 25, .val (Value.int IntKind.u64 (((S : Nat) : Int)))),
    (4, 26, .nat (n)),
    (5, 27, .val (Value.int IntKind.i64 ((i : Nat)))),
    (6, 28, .val (Value.int IntKind.u64 (((D (n) (i) : Nat) : Int)))),
    (7, 29, .val (Value.int IntKind.u64 (((T : Nat) : Int)))),
    (8, 30, .val (Value.int IntKind.u64 (((cy n d i : Nat) : Int)))),
    (9, 31, .val (Value.int IntKind.u64 (((X : Nat) : Int)))),
    (10, 9, .val (Value.int IntKind.u64 (((X : Nat) : Int))))]
set_option maxRecDepth 100000 in
set_option maxHeartbeats 1000000 in
theorem c_ref_Sub (va vb : Value) (m n : Nat) (w : World) (ha : IsN w va m) (hb : IsN w vb n) (hm : nl m ≤ 1000000000000) (hn : nl n ≤ 1000000000000) :
    Calls Try.prog 76 #[va, vb] w fun e w' => RetSub w m n e w' := by
  obtain ⟨a, ca, rfl, hca, ra⟩ := ha
  obtain ⟨b, cb, rfl, hcb, rb⟩ := hb
  obtain ⟨k0, k1, k2⟩ := box2 (L := nl m) (c := ca) (N := m) (L2 := nl n) (c2 := cb) (N2 := n) ⟨a, ca, rfl, hca, ra⟩ ⟨b, cb, rfl, hcb, rb⟩
  have k3 := bel1 ((w.alloc (.cells #[.slice a (nl m) ca] 24)).alloc (.cells #[.slice b (nl n) cb] 24)) (.cells #[.slice none 0 0] 24)
  have k4 := VarB.made ((w.alloc (.cells #[.slice a (nl m) ca] 24)).alloc (.cells #[.slice b (nl n) cb] 24)) none 0 0
  rw [World.size_alloc, World.size_alloc] at k4
  replace k0 := k0.trans (k3.mono k0.size)
  replace k1 := VarR.mono k1 k3
  replace k2 := VarR.mono k2 k3
  go_enter Try.func76, Try.ntmps76
  go_upto_region 0 with (fail)
  go_cut [2, 3, 4, 5] (fun s2 s3 s4 s5 wx => s2 = .pointer (some ⟨w.heap.size, 0, none⟩) ∧ s3 = .pointer (some ⟨w.heap.size + 1, 0, none⟩) ∧ s4 = .pointer (some ⟨w.heap.size + 1 + 1, 0, none⟩) ∧ s5 = .bool false ∧ VarI wx w.heap.size m ∧ VarI wx (w.heap.size + 1) n ∧ VarB wx (w.heap.size + 1 + 1) none 0 0 ∧ Below w.heap.size w wx)
  case first =>
    go_wp2_with fail
    go_meet
    case rel => exact ⟨rfl, rfl, rfl, rfl, k1, k2, k4, k0⟩
  case rest =>
    obtain ⟨rfl, rfl, rfl, rfl, Va, Vb, vr, hb1⟩ := hcut
    clear k0 k1 k2 k3 k4 ra rb
    have Va1 := Va
    have Vb1 := Vb
    obtain ⟨ya, da, qa, ia⟩ := Va1
    have ea := qa.cell
    obtain ⟨yb, db, qb, ib⟩ := Vb1
    have eb := qb.cell
    go_wp2_with fail
    refine (c_ref_Cmp _ _ m n _ ia ib hm hn).mono ?_
    rintro e w1 ⟨rfl, bb⟩
    replace Va := Va.mono bb
    replace Vb := Vb.mono bb
    replace vr := vr.mono bb vr.lt
    replace hb1 := hb1.trans (bb.mono hb1.size)
    clear ea qa ia eb qb ib bb
    have cr := vr.cell
    have fr := vr.frozen
    by_cases hmn : m < n
    · rw [cmpI_lt hmn]
      have hle : ¬ n ≤ m := by omega
      have h0 : m - n = 0 := by omega
      go_wp2
      exact bodyPost_ret (res_nat2 rfl _ _ (w.heap.size + 1 + 1) (.slice none 0 0) (.bool false) rfl rfl vr.set.cell) rfl ⟨_, by rw [decide_eq_false hle], by rw [h0]; exact NewN.of_zero, hb1.setCell (p := ⟨w.heap.size + 1 + 1, 0, none⟩) (by simp; omega) _⟩
    · obtain ⟨d, hd0⟩ : ∃ d, m = n + d := ⟨m - n, by omega⟩
      have hcm : ¬ cmpI m n < 0 := by rcases Nat.lt_or_ge n m with h | h; · rw [cmpI_gt h]; decide
                                      · rw [cmpI_eq (by omega)]; decide
      have hret : decide (n ≤ m) = true := decide_eq_true (by omega)
      have hmd : m - n = d := by omega
      have HD := Lib.hid hd0
      clear hd0 hmn
      have HR := Lib.hid hret
      have HM := Lib.hid hmd
      clear hret hmd
      go_wp2_with fail
      have hb1' := hb1
      generalize hwc : w1 = wc at *
      go_loopw [6, 7, 8] (fun s6 s7 s8 wr => ∃ i : Nat, i ≤ nl m ∧ s8 = .int .i64 (i : Int) ∧ s7 = .int .u64 ((cy n d i : Nat) : Int) ∧ GR wr wc.heap.size s6 i (d % 4294967296 ^ i) ∧ Below wc.heap.size wc wr) (fun _ _ s8 _ => nl m - (intOf s8).toNat)
      case atStart => exact ⟨0, Nat.zero_le _, rfl, by rw [cy_zero]; rfl, by rw [Nat.pow_zero, Nat.mod_one]; exact GR.nil _ _, Below.refl _ _⟩
      case round =>
        obtain ⟨i, hi, rfl, rfl, hgr, hbr⟩ := hrel
        clear cr fr
        have Va1 := Va.mono hbr
        have Vb1 := Vb.mono hbr
        obtain ⟨ya, da, qa, ia⟩ := Va1
        have ea := qa.cell
        obtain ⟨yb, db, qb, ib⟩ := Vb1
        have eb := qb.cell
        have hi60 : i ≤ 60000000000000 := by omega
        have hcy := cy_le n d i
        by_cases hlt : i < nl m
        · have hst := cy_step n d i
          rw [← HD.out] at hst
          have hd := D_lt d i
          have hdn := D_lt n i
          have hdm := D_lt m i
          have hcy2 := cy_le n d (i + 1)
          obtain ⟨S, hS⟩ : ∃ S : Nat, Hid (S = 4294967296 + D m i) := ⟨_, Lib.hid rfl⟩
          obtain ⟨T, hT⟩ : ∃ T : Nat, Hid (S = D n i + T) := ⟨S - D n i, Lib.hid (by have := hS.out; omega)⟩
          obtain ⟨X, hX⟩ : ∃ X : Nat, Hid (T = cy n d i + X) := ⟨T - cy n d i, Lib.hid (by have := hS.out; have := hT.out; omega)⟩
          obtain ⟨Y, hY⟩ : ∃ Y : Nat, Hid (Y + cy n d (i + 1) = 1) := ⟨1 - cy n d (i + 1), Lib.hid (by omega)⟩
          have hSb : S < 8589934592 := by have := hS.out; omega
          have hTb : T < 8589934592 := by have := hT.out; omega
          have hXb : X < 8589934592 := by have := hX.out; omega
          have hYb : Y ≤ 1 := by have := hY.out; omega
          have hrem : ((X : Nat) : Int) % 4294967296 = ((D d i : Nat) : Int) := by have := hX.out; have := hS.out; have := hT.out; omega
          have hquo : ((X : Nat) : Int) / 4294967296 = ((Y : Nat) : Int) := by have := hX.out; have := hS.out; have := hT.out; have := hY.out; omega
          have hbor : (1 : Int) - ((Y : Nat) : Int) = ((cy n d (i + 1) : Nat) : Int) := by have := hY.out; omega
          clear hst hdn hdm
          have Va : VarI wr w.heap.size m := ⟨ya, da, qa, ia⟩
          have Vb : VarI wr (w.heap.size + 1) n := ⟨yb, db, qb, ib⟩
          go_upto_region 8 with (fail)
          refine wp_tabL Try.f76 8 (subTab8 w.heap.size (w.heap.size + 1) m n d i S T X) (by kernel_rfl) (by kernel_rfl) rfl (by kernel_rfl) (by kernel_rfl) ?_ ?_
          · refine ⟨fun a' w' F => ⟨_, rfl, wanted_none rfl, arm_load rfl (F.keep 2 (Value.pointer (some ⟨w.heap.size, 0, none⟩)) (by kernel_rfl) rfl).is (Va.mono F.below)⟩, ?_⟩
            refine ⟨fun a' w' F => ⟨_, rfl, wanted_none rfl, arm_move (.inl rfl) (F.keep 8 (Value.int IntKind.i64 ((i : Nat))) (by kernel_rfl) rfl).is⟩, ?_⟩
            refine ⟨fun a' w' F => ⟨_, rfl, wanted_none rfl, arm_digit rfl (F.f 0 rfl) (F.f 1 rfl) (hm) (hi60)⟩, ?_⟩
            refine ⟨fun a' w' F => ⟨_, rfl, wanted_none rfl, arm_bin rfl Is.const (F.f 2 rfl) (fun _ => rfl) (run_addU 4294967296 _ _ hS.out.symm (by have := hSb; omega))⟩, ?_⟩
            refine ⟨fun a' w' F => ⟨_, rfl, wanted_none rfl, arm_load rfl (F.keep 3 (Value.pointer (some ⟨w.heap.size + 1, 0, none⟩)) (by kernel_rfl) rfl).is (Vb.mono F.below)⟩, ?_⟩
            refine ⟨fun a' w' F => ⟨_, rfl, wanted_none rfl, arm_move (.inl rfl) (F.keep 8 (Value.int IntKind.i64 ((i : Nat))) (by kernel_rfl) rfl).is⟩, ?_⟩
            refine ⟨fun a' w' F => ⟨_, rfl, wanted_none rfl, arm_digit rfl (F.f 4 rfl) (F.f 5 rfl) (hn) (hi60)⟩, ?_⟩
            refine ⟨fun a' w' F => ⟨_, rfl, wanted_none rfl, arm_bin rfl (F.f 3 rfl) (F.f 6 rfl) (fun _ => rfl) (run_subU _ _ _ hT.out (by have := hSb; omega))⟩, ?_⟩
            refine ⟨fun a' w' F => ⟨_, rfl, wanted_none rfl, arm_move (.inl rfl) (F.keep 7 (Value.int IntKind.u64 (((cy n d i : Nat) : Int))) (by kernel_rfl) rfl).is⟩, ?_⟩
            refine ⟨fun a' w' F => ⟨_, rfl, wanted_none rfl, arm_bin rfl (F.f 7 rfl) (F.f 8 rfl) (fun _ => rfl) (run_subU _ _ _ hX.out (by have := hTb; omega))⟩, ?_⟩
            refine ⟨fun a' w' F => ⟨_, rfl, wanted_none rfl, arm_move (.inr rfl) (F.f 9 rfl)⟩, ?_⟩
            exact trivial
          intro gp wp bp G
          have ep10 : gp 10 = Value.int IntKind.u64 (((X : Nat) : Int)) := G 10 9 _ rfl
          simp only [subTab8]
          simp only [putD, entries, List.map_cons, List.map_nil, List.foldl_cons, List.foldl_nil, Act.put, List.setIfInBounds_toArray, List.set_cons_zero, List.set_cons_succ, ep10]
          clear G
          have hgr1 := hgr.below bp
          have hb2 := hbr.trans (bp.mono hbr.size)
          have hsr1 := hb2.size
          obtain ⟨a', c', rfl, hLc, hrw, hown⟩ := hgr1.open
          clear hgr ea qa ia eb qb ib Va Vb
          go_wp2_with (at_builtin; refine wpList_append_digit rfl _ _ rfl wc.heap.size (.slice a' i c') i (d % 4294967296 ^ i) (D d i) rfl hgr1 hsr1 rfl hd (by omega) ?_)
          intro v' w' hg' hb' hs'
          rw [mod_push] at hg'
          go_wp2_with fail
          go_roundw
          case rel => exact ⟨i + 1, by omega, by go_num, rfl, hg', hb2.trans hb'⟩
          case measure => simp [intOf] <;> omega
        · obtain rfl : i = nl m := by omega
          have hsum : d < 4294967296 ^ nl m := Nat.lt_of_le_of_lt (by have := HD.out; omega) (lt_nl m)
          rw [Nat.mod_eq_of_lt hsum] at hgr
          obtain ⟨a', c', rfl, hLc, hrw, hown⟩ := hgr.open
          go_wp2_with fail
          refine (c_Trim a' (nl m) c' d _ hrw (by omega)).mono ?_
          rintro e w2 ⟨v2, rfl, ⟨x2, c2, rfl, hc2, hx2⟩, bb⟩
          have n2 : NewN wc.heap.size w2 (.agg #[.slice x2 (nl d) c2]) d := NewN.weaken (base := wr.heap.size) ⟨x2, c2, rfl, hc2, hx2⟩ hbr.size
          have vr2 := (vr.mono hbr vr.lt).mono bb (Nat.lt_of_lt_of_le vr.lt hbr.size)
          have cr := vr2.cell
          have fr := vr2.frozen
          have n3 := n2.setVar (u := .slice x2 (nl d) c2) vr2
          go_wp2
          exact bodyPost_ret (res_nat2 rfl _ _ (w.heap.size + 1 + 1) _ (.bool true) rfl rfl vr2.set.cell) rfl ⟨_, by rw [HR.out], by rw [HM.out]; exact n3.weaken hb1.size, ((hb1.trans (hbr.mono hb1.size)).trans (bb.mono (Nat.le_trans hb1.size hbr.size))).setCell (p := ⟨w.heap.size + 1 + 1, 0, none⟩) (by simp; omega) _⟩
end Go.Proofs.Ytldnimohnbjfaaa
namespace Go.Proofs.Ytldnimohnbjfaaa
set_option linter.unusedSimpArgs false
set_option linter.unusedVariables false
set_option maxRecDepth 100000
open Go.RowKit
theorem OwnR.drewN {w : World} {g L N : Nat} (h : OwnR w g L N) (q : Nat) : OwnR (w.drewN q) g L N := h
theorem NewN.setLow {w : World} {base N : Nat} {v u : Value} (h : NewN base w v N) (p : Addr) (hp : p.block < base) : NewN base (w.setCell p u) v N := by
  obtain ⟨x, cap, rfl, hc, hx⟩ := h
  refine ⟨x, cap, rfl, hc, fun hL => ?_⟩
  obtain ⟨b, off, rfl, hb, hd, hf⟩ := hx hL
  have hne : b ≠ p.block := by omega
  refine ⟨b, off, rfl, hb, fun j hj => ?_, fun j hj => ?_⟩
  · rw [World.cell?_of_block (Below.heap_setCell w p u b hne)]; exact hd j hj
  · rw [World.frozen?_of_block (Below.heap_setCell w p u b hne)]; exact hf j hj
set_option maxHeartbeats 1000000 in
theorem c_ref_Mul (va vb : Value) (m n : Nat) (w : World) (ha : IsN w va m) (hb : IsN w vb n) (hm : nl m ≤ 1000000000000) (hn : nl n ≤ 1000000000000) :
    Calls Try.prog 75 #[va, vb] w fun e w' => RetNew w (m * n) e w' := by
  obtain ⟨a, ca, rfl, hca, ra⟩ := ha
  obtain ⟨b, cb, rfl, hcb, rb⟩ := hb
  have hw : Below w.heap.size w (((w.alloc (.cells #[.slice a (nl m) ca] 24)).alloc (.cells #[.slice b (nl n) cb] 24)).alloc (.cells #[.slice none 0 0] 24)) := (((Below.refl _ _).alloc (Nat.le_refl _) _).alloc (by simp) _).alloc (by simp; omega) _
  go_enter Try.func75, Try.ntmps75
  go_upto_region 1 with (fail)
  go_cut [5] (fun s5 wx => ∃ g, s5 = .slice (some ⟨g, 0, none⟩) (nl m + nl n) (nl m + nl n) ∧ OwnR wx g (nl m + nl n) 0 ∧ Made w wx (w.heap.size + 1 + 1) g ∧
      wx.cell? ⟨w.heap.size, 0, none⟩ = some (.slice a (nl m) ca) ∧ wx.cell? ⟨w.heap.size + 1, 0, none⟩ = some (.slice b (nl n) cb))
  case first =>
    have hown := OwnR.made (((w.alloc (.cells #[.slice a (nl m) ca] 24)).alloc (.cells #[.slice b (nl n) cb] 24)).alloc (.cells #[.slice none 0 0] 24)) (nl m + nl n)
    go_wp2_with (at_make; refine wpList_make_dig rfl _ _ rfl _ _ _ _ (nl m + nl n) rfl rfl (by omega) (by omega) (by omega) ?_)
    go_meet
    case rel => exact ⟨_, rfl, by simpa using hown, ⟨hw.alloc (by simp; omega) _, by omega, by simp, by simp, by simp [go_sem], by simp [go_sem]⟩, by simp [go_sem], by simp [go_sem]⟩
  case rest =>
    obtain ⟨g, rfl, hown, hmade, hca', hcb'⟩ := hcut
    have hlt1 := hmade.lt
    go_wp2_with fail
    go_loopw [6] (fun s6 wr => ∃ i : Nat, i ≤ nl m ∧ s6 = .int .i64 i ∧ OwnR wr g (nl m + nl n) ((m % 4294967296 ^ i) * n) ∧ Below g wc wr)
      (fun i _ => nl m - (intOf i).toNat)
    case atStart => exact ⟨0, Nat.zero_le _, rfl, by simpa [Nat.mod_one] using hown, Below.refl _ _⟩
    case round =>
      obtain ⟨i, hi, rfl, ho, hbr⟩ := hrel
      have hmr := hmade.step hbr
      have c0 := (hbr.cell (p := ⟨w.heap.size, 0, none⟩) (by show w.heap.size < g; omega)).trans hca'
      by_cases hlt : i < nl m
      · have c2 := (hbr.cell (p := ⟨w.heap.size + 1, 0, none⟩) (by show w.heap.size + 1 < g; omega)).trans hcb'
        have hdx := D_lt m i
        go_wp2_with fail
        go_loopw [7, 8] (fun s7 s8 wq => ∃ k O c : Nat, k ≤ nl n ∧ s8 = .int .i64 k ∧ s7 = .int .u64 (c : Int) ∧ c < 4294967296 ∧ OwnR wq g (nl m + nl n) O ∧ MulAt m n i k O c ∧ Below g wc wq)
          (fun _ s _ => nl n - (intOf s).toNat)
        case atStart => exact ⟨0, (m % 4294967296 ^ i) * n, 0, Nat.zero_le _, rfl, rfl, by decide, ho, MulAt.start m n i, hbr⟩
        case round =>
          obtain ⟨k, O, c, hk, rfl, rfl, hc, hoq, hat, hbq⟩ := hrel
          have hmq := hmade.step hbq
          clear ho hbr hmr c0 c2
          have c0 := (hbq.cell (p := ⟨w.heap.size, 0, none⟩) (by show w.heap.size < g; omega)).trans hca'
          have c2 := (hbq.cell (p := ⟨w.heap.size + 1, 0, none⟩) (by show w.heap.size + 1 < g; omega)).trans hcb'
          by_cases hlt2 : k < nl n
          · have raq := ra.mono hmq.below
            obtain ⟨b1, o1, rfl, h1⟩ := raq.cells (by omega)
            have c1 := h1 i hlt
            have rbq := rb.mono hmq.below
            obtain ⟨b2, o2, rfl, h2⟩ := rbq.cells (by omega)
            have c3 := h2 k hlt2
            have hdy := D_lt n k
            have c4 := hoq.cell (p := i + k) (by omega)
            have f4 := hoq.frozen (i + k)
            have hdo := D_lt O (i + k)
            have hxy : ((D m i : Nat) : Int) * ((D n k : Nat) : Int) ≤ 18446744065119617025 := by
              have h := Nat.mul_le_mul (show D m i ≤ 4294967295 by omega) (show D n k ≤ 4294967295 by omega)
              have h' : ((D m i * D n k : Nat) : Int) ≤ 18446744065119617025 := by omega
              simpa using h'
            have hxy0 : 0 ≤ ((D m i : Nat) : Int) * ((D n k : Nat) : Int) := Int.mul_nonneg (by omega) (by omega)
            have HT := hat.step hlt2
            go_wp2_with fail
            go_quiet (fail)
            go_wp2
            go_roundw
            case rel =>
              have hst := fun q => (hoq.drewN q).store (p := i + k) (e := (D m i * D n k + D O (i + k) + c) % 4294967296) (by omega) (Nat.mod_lt _ (by decide))
              exact ⟨k + 1, _, _, by omega, by go_num, by simp, by rw [Nat.div_lt_iff_lt_mul (by decide)]; omega, by simpa using hst _, HT, by simpa using (bel_drewN hbq _).setCell (p := ⟨g, i + k, none⟩) (Nat.le_refl _) _⟩
            case measure => simp [intOf] <;> omega
          · obtain rfl : k = nl n := by omega
            have c4 := hoq.cell (p := i + nl n) (by omega)
            have f4 := hoq.frozen (i + nl n)
            have hst := hoq.store (p := i + nl n) (e := c) (by omega) hc
            rw [hat.last] at hst
            have hbs := hbq.setCell (p := ⟨g, i + nl n, none⟩) (Nat.le_refl _) (.int .u32 (c : Int))
            go_wp2
            go_roundw
            case rel => exact ⟨i + 1, by omega, by go_num, hst, hbs⟩
            case measure => simp [intOf] <;> omega
      · obtain rfl : i = nl m := by omega
        rw [mod_nl] at ho
        go_wp2_with fail
        refine (c_Trim _ (nl m + nl n) (nl m + nl n) (m * n) _ ho.rw' (by omega)).mono ?_
        rintro e w1 ⟨v1, rfl, ⟨x1, c1, rfl, hc1, hx1⟩, hb2⟩
        obtain ⟨hcc, hff⟩ := hmr.after hb2
        have hb0 := hmr.below
        have hz := hmr.lt
        have hz2 := hmr.size
        have n2 : NewN wr.heap.size w1 (.agg #[.slice x1 (nl (m * n)) c1]) (m * n) := ⟨x1, c1, rfl, hc1, hx1⟩
        have n3 := (n2.setLow (u := .slice x1 (nl (m * n)) c1) ⟨w.heap.size + 1 + 1, 0, none⟩ (by show w.heap.size + 1 + 1 < wr.heap.size; omega)).weaken hb0.size
        have hB := (hb0.trans (hb2.mono hb0.size)).setCell (p := ⟨w.heap.size + 1 + 1, 0, none⟩) (by show w.heap.size ≤ w.heap.size + 1 + 1; omega) (.slice x1 (nl (m * n)) c1)
        go_wp2
        exact bodyPost_ret (res_nat rfl _ _ (w.heap.size + 1 + 1) _ rfl (World.cell?_setCell_same _ _ _ hcc)) rfl ⟨_, rfl, n3, hB⟩
end Go.Proofs.Ytldnimohnbjfaaa
namespace Go.Proofs.Ytldnimohnbjfaaa
set_option linter.unusedSimpArgs false
set_option linter.unusedVariables false
set_option maxRecDepth 100000
open Go.RowKit
section
variable {Q : Exit → Act → World → Prop} {o : Oper} {a : Act} {w : World} {x y : Operand} {m n : Nat} {tt : Array TypeId}
theorem arm_rAdd (ho : o.op = .call { callee := .value (.func 70), args := #[x, y], argTypes := tt }) (hx : Is a w x (.nat m)) (hy : Is a w y (.nat n)) (hm : nl m ≤ 1000000000000) (hn : nl n ≤ 1000000000000) {N : Nat} (hN : m + n = N) : Arm Try.prog Q o a w (.nat N) := by
  subst hN
  exact arm_two ho (enters Try.func70 rfl rfl) hx hy (R := fun w => RetNew w (m + n)) (fun va vb w h1 h2 => c_ref_Add va vb m n w h1 h2 hm hn) (fun _ _ h => ofNew h)
theorem arm_rMul (ho : o.op = .call { callee := .value (.func 75), args := #[x, y], argTypes := tt }) (hx : Is a w x (.nat m)) (hy : Is a w y (.nat n)) (hm : nl m ≤ 1000000000000) (hn : nl n ≤ 1000000000000) {N : Nat} (hN : m * n = N) : Arm Try.prog Q o a w (.nat N) := by
  subst hN
  exact arm_two ho (enters Try.func75 rfl rfl) hx hy (R := fun w => RetNew w (m * n)) (fun va vb w h1 h2 => c_ref_Mul va vb m n w h1 h2 hm hn) (fun _ _ h => ofNew h)
end
end Go.Proofs.Ytldnimohnbjfaaa
namespace Go.Proofs.Ytldnimohnbjfaaa
set_option linter.unusedSimpArgs false
set_option linter.unusedVariables false
set_option maxRecDepth 100000
open Go.RowKit
theorem len2_half {x : Nat} (h : x ≠ 0) : len2 x = len2 (x / 2) + 1 := by
  unfold len2
  rw [if_neg h, Nat.log2_def]
  by_cases h2 : 2 ≤ x
  · rw [if_pos h2, if_neg (by omega)]
  · rw [if_neg h2, if_pos (by omega)]
theorem len2_digit {N : Nat} (h : N ≠ 0) : len2 N = 32 * (nl N - 1) + len2 (D N (nl N - 1)) := by
  rw [len2_top h]
  have ht : D N (nl N - 1) ≠ 0 := D_top h
  have hlt := D_lt N (nl N - 1)
  have h1 : nl (D N (nl N - 1)) = 1 := by
    have := nl_pos ht
    have := (nl_le_iff (N := D N (nl N - 1)) (k := 1)).2 (by rw [Nat.pow_one]; exact hlt)
    omega
  have h2 := len2_top ht
  rw [h1] at h2
  have h3 : D (D N (nl N - 1)) 0 = D N (nl N - 1) := by
    show D N (nl N - 1) / 4294967296 ^ 0 % 4294967296 = _
    rw [Nat.pow_zero, Nat.div_one, Nat.mod_eq_of_lt hlt]
  simp only [Nat.sub_self, h3, Nat.mul_zero, Nat.zero_add] at h2
  rw [h2]
set_option maxRecDepth 100000 in
theorem c_ref_Bits (va : Value) (N : Nat) (w : World) (ha : IsN w va N) (hN : nl N ≤ 1000000000000) :
    Calls Try.prog 86 #[va] w fun e w' => RetV w (.int .i64 ((len2 N : Nat) : Int)) e w' := by
  obtain ⟨a, ca, rfl, hca, ra⟩ := ha
  have hw := bel1 w (.cells #[.slice a (nl N) ca] 24)
  have v1 := VarB.made w a (nl N) ca
  have ra0 := ra.mono hw
  by_cases h0 : N = 0
  · have e1 : nl N = 0 := nl_eq_zero.2 h0
    have e2 : len2 N = 0 := by unfold len2; rw [if_pos h0]
    have HE2 := Lib.hid e2
    rw [e1] at ra0 hw hca v1 ⊢
    clear e1 e2 ra hN
    have c1 := v1.cell
    go_enter Try.func86, Try.ntmps86
    go_wp2
    go_ret
    exact ⟨by rw [HE2.out]; rfl, hw⟩
  · have hp := nl_pos h0
    have hne : (((nl N : Nat) : Int) == 0) = false := by rw [beq_eq_false_iff_ne]; omega
    have HT := Lib.hid (len2_digit h0)
    have hdl := D_lt N (nl N - 1)
    obtain ⟨T, hT⟩ : ∃ T : Nat, Hid (T = D N (nl N - 1)) := ⟨_, Lib.hid rfl⟩
    obtain ⟨b1, o1, rfl, h1⟩ := ra0.cells (by omega)
    have d1 := h1 (nl N - 1) (by omega)
    rw [← hT.out] at d1 hdl
    obtain ⟨P, hP⟩ : ∃ P : Nat, Hid (P = nl N - 1) := ⟨_, Lib.hid rfl⟩
    have e1 : ((nl N : Int) - 1) = ((P : Nat) : Int) := by have := hP.out; omega
    have hPb : P ≤ 1000000000000 := by have := hP.out; omega
    rw [← hP.out] at d1
    have c1 := v1.cell
    have hlT : len2 T ≤ 32 := by
      rcases Nat.eq_zero_or_pos T with h | h
      · rw [h]; decide
      · unfold len2; rw [if_neg (by omega)]; have := (Nat.log2_lt (n := T) (k := 32) (by omega)).2 (by simpa using hdl); omega
    have htot : len2 N = 32 * (nl N - 1) + len2 T := by rw [HT.out, hT.out]
    have HTOT := Lib.hid htot
    clear htot h0
    have hlN : len2 N ≤ 32000000000032 := by have := HTOT.out; omega
    go_enter Try.func86, Try.ntmps86
    go_wp2_with fail
    go_loopw [3, 4] (fun s3 s4 wr => ∃ c x : Nat, s3 = .int .i64 (c : Int) ∧ s4 = .int .u32 (x : Int) ∧ x < 4294967296 ∧ Hid (len2 N = c + len2 x) ∧ wr = w.alloc (.cells #[.slice (some ⟨b1, o1, none⟩) (nl N) ca] 24)) (fun _ s4 _ => (intOf s4).toNat)
    case atStart => exact ⟨32 * P, T, by go_num, rfl, hdl, by rw [hP.out]; exact HTOT, rfl⟩
    case round =>
      obtain ⟨c, x, rfl, rfl, hx, HL, rfl⟩ := hrel
      have hcN : c ≤ 32000000000032 := by have := HL.out; omega
      by_cases hx0 : x = 0
      · subst hx0
        have hc : len2 N = c := by have h := HL.out; have h2 : len2 0 = 0 := rfl; omega
        have HC := Lib.hid hc
        clear hc
        go_wp2
        go_ret
        exact ⟨by rw [HC.out]; rfl, hw⟩
      · have hxp : (0 : Int) < (x : Int) := by omega
        have hst := len2_half hx0
        have HS := Lib.hid (show len2 N = (c + 1) + len2 (x / 2) by have h := HL.out; omega)
        obtain ⟨y, hy⟩ : ∃ y : Nat, Hid (y = x / 2) := ⟨_, Lib.hid rfl⟩
        have hq : ((x : Nat) : Int) / 2 = ((y : Nat) : Int) := by have := hy.out; omega
        have hlt : y < x := by have := hy.out; omega
        rw [← hy.out] at HS
        clear hst hx0
        go_wp2_with fail
        go_roundw
        case rel => exact ⟨c + 1, y, by go_num, rfl, by omega, HS, trivial⟩
        case measure => simp [intOf] <;> omega
theorem c_ref_Of (n : Nat) (w : World) (hn : n < 18446744073709551616) :
    Calls Try.prog 54 #[.int .u64 (n : Int)] w fun e w' => RetNew w n e w' := by
  have hw := bel1 w (.cells #[.slice none 0 0] 24)
  have v0 := VarB.made w none 0 0
  have hown := OwnR.two (w.alloc (.cells #[.slice none 0 0] 24)) n hn
  have b2 := hw.alloc (by simp) (.cells #[.int .u32 ((n : Int) % 4294967296), .int .u32 ((n : Int) / 4294967296)] 69)
  have v1 := VarB.mono v0 (bel1 _ (.cells #[.int .u32 ((n : Int) % 4294967296), .int .u32 ((n : Int) / 4294967296)] 69)) v0.lt
  rw [World.size_alloc] at hown
  go_enter Try.func54, Try.ntmps54
  go_wp2_with fail
  refine (c_Trim _ 2 2 n _ hown.rw' (by omega)).mono ?_
  rintro e w2 ⟨v2, rfl, ⟨x2, c2, rfl, hc2, hx2⟩, bb⟩
  have n2 : NewN w.heap.size w2 (.agg #[.slice x2 (nl n) c2]) n := NewN.weaken (by exact ⟨x2, c2, rfl, hc2, hx2⟩) b2.size
  have vr2 := v1.mono bb v1.lt
  have cr := vr2.cell
  have fr := vr2.frozen
  have n3 := n2.setVar (u := .slice x2 (nl n) c2) vr2
  have hB := (b2.trans (bb.mono b2.size)).setCell (p := ⟨w.heap.size, 0, none⟩) (Nat.le_refl _) (.slice x2 (nl n) c2)
  go_wp2
  exact bodyPost_ret (res_nat rfl _ _ w.heap.size _ rfl vr2.set.cell) rfl ⟨_, rfl, n3, hB⟩
end Go.Proofs.Ytldnimohnbjfaaa
namespace Go.Proofs.Ytldnimohnbjfaaa
set_option linter.unusedSimpArgs false
set_option linter.unusedVariables false
set_option maxRecDepth 100000
open Go.RowKit
theorem run_eqS (s : ByteArray) (w : World) : (binOp BinOp.eql 9 (.string s) (.string s)).run Try.prog w = .ok (.bool true) w := by
  go_simp
section
variable {Q : Exit → Act → World → Prop} {o : Oper} {a : Act} {w : World} {x y : Operand} {m n : Nat} {tt : Array TypeId}
/-- A variable that holds a row of L digits, leading zeros allowed. -/
def Sp.raw (L N : Nat) : Sp := ⟨fun w v => IsR w v L N, fun _ _ _ h hb => IsR.mono h hb⟩
end
end Go.Proofs.Ytldnimohnbjfaaa
namespace Go.Proofs.Ytldnimohnbjfaaa
set_option linter.unusedSimpArgs false
set_option linter.unusedVariables false
set_option maxRecDepth 100000
open Go.RowKit
section
variable {P : Program} {ops : Array Oper} {Q : Exit → Act → World → Prop} {md : Region.Mode}
theorem EachX.of_all {α : Type} {p : α → Prop} (h : ∀ x, p x) : ∀ l, EachX p l
  | [] => trivial
  | x :: l => ⟨h x, EachX.of_all h l⟩
/-- As Arm; where al, the value lies in a new block. -/
def ArmB (P : Program) (Q : Exit → Act → World → Prop) (al : Bool) (o : Oper) (a : Act) (w : World) (s : Sp) : Prop :=
  ∀ K : Act → World → Prop, (∀ v w', s.p w' v → Below w.heap.size w w' → (al = true → w.heap.size ≤ blk v) → K (a.put o.dst v) w') → Oper.wp P o a w K Q
theorem Arm.b {o : Oper} {a : Act} {w : World} {s : Sp} (h : Arm P Q o a w s) : ArmB P Q false o a w s := fun K hK => h K (fun v w' h1 h2 => hK v w' h1 h2 (fun h => by cases h))
theorem wp_tabK (f : Func) (r : Nat) (D : List (Nat × Tmp × Sp)) (Al : Nat → Bool) (n fuel : Nat) {id : Nat} {ops' : Array Oper} {a : Act} {w : World} (hops : opsOf f r = ops') (hm : P.follows .mixedOrders = true)
    (hlen : (opsOf f r).size = fuel + D.length) (hok : tabOk .any (opsOf f r) (entries D) n (Array.replicate (fuel + D.length) false) a.tmps.size = true)
    (hal : EachX (fun x => Al x.1 = true → ∀ w v, x.2.2.p w v → blk v < w.heap.size) D)
    (steps : EachX (fun x => ∀ (a' : Act) (w' : World), Found .any (opsOf f r) D x.1 w a a' w' → ∃ o, (opsOf f r)[x.1]? = some o ∧ Region.wanted o (yielded (opsOf f r) a'.tmps) = true ∧ ArmB P Q (Al x.1) o a' w' x.2.2) D)
    (hrest : ∀ (g : Nat → Value) w', Below w.heap.size w w' → (∀ (i : Nat) (t : Tmp) (s : Sp), D[i]? = some (i, t, s) → s.p w' (g i)) → (∀ i j : Nat, ((entries D).map (·.1)).contains i = true → ((entries D).map (·.1)).contains j = true → Al i = true → Al j = true → i ≠ j → blk (g i) ≠ blk (g j)) →
      wpAny P .any (opsOf f r) Q fuel (markAll ((entries D).map (·.1)) (Array.replicate (fuel + D.length) false)) (putD (entries D) g a) w') : (Code.region id ops' true).wp P Q a w := by
  subst hops
  refine wp_region_any hm ?_
  have hb0 : Below w.heap.size w w.drew := bel_drewN (Below.refl _ _) 1
  change wpAny P .any _ Q _ _ _ w.drew
  rw [hlen]
  unfold tabOk at hok
  simp only [Bool.and_eq_true, decide_eq_true_eq] at hok
  obtain ⟨⟨⟨⟨hph, hds⟩, hnt⟩, hni⟩, hlt⟩ := hok
  have ht : ∀ p ∈ entries D, p.2 < a.tmps.size := fun p hp => by simpa using List.all_eq_true.1 hlt p hp
  have hcon : ∀ t, ((entries D).map (·.2)).contains t = false → t ∉ (entries D).map (·.2) := fun t h hm => by
    rw [List.contains_iff_mem.2 hm] at h; cases h
  have hmem : ∀ (i : Nat) (t : Tmp) (s : Sp), D[i]? = some (i, t, s) → (i, t, s) ∈ D := fun i t s h => List.mem_of_getElem? h
  have key := keyed (D := D) (by simpa [entries, Function.comp_def] using hni)
  have hlen2 : D.length = (entries D).length := by simp [entries]
  rw [hlen2] at hph hrest ⊢
  refine wpAny_phaseD (fuel := fuel) (entries D) n Al (fun i v w' => ∀ t s, (i, t, s) ∈ D → s.p w' v) hph hds hnt (fun i _ v w1 w2 h hb t s hm => s.st _ _ _ (h t s hm) hb) ?_ ?_ ?_
  · intro i hi hA v w' h
    obtain ⟨p, hp, rfl⟩ := List.mem_map.1 hi
    obtain ⟨x, hx, rfl⟩ := List.mem_map.1 hp
    exact hal.mem x hx hA w' v (h x.2.1 x.2.2 hx)
  · intro p hp g w' hb hF K hK
    obtain ⟨x, hx, rfl⟩ := List.mem_map.1 hp
    obtain ⟨o, ho, hw, harm⟩ := steps.mem x hx (putD (entries D) g a) w' ⟨hb0.trans (hb.mono hb0.size), fun t h => putD_slot t (hcon t h), fun i t s h1 h2 =>
      ⟨g i, putD_in hnt (mem_entries (hmem i t s h1)) (ht _ (mem_entries (hmem i t s h1))), hF i (List.mem_map.2 ⟨_, mem_entries (hmem i t s h1), rfl⟩) (List.contains_iff_mem.1 h2) t s (hmem i t s h1)⟩⟩
    unfold wpOp
    rw [ho]
    show if Region.wanted o (yielded (opsOf f r) (putD (entries D) g a).tmps) = true then _ else _
    rw [if_pos hw]
    refine .inl (harm K (fun v w'' hv hbv hA => ?_))
    have hd := List.all_eq_true.1 hds _ hp
    rw [beq_iff_eq] at hd
    have hdo : o.dst = some x.2.1 := by
      have : dstOf (opsOf f r) x.1 = o.dst := by unfold dstOf; rw [ho]
      rw [← this]; exact hd
    rw [hdo]
    refine hK v w'' (fun t s hm => ?_) hbv hA
    have e2 := key _ hm _ (show (x.1, x.2.1, x.2.2) ∈ D from hx) rfl
    simp only [Prod.mk.injEq, true_and] at e2
    rw [e2.2]; exact hv
  · intro g w' hb hF hsep
    exact hrest g w' (hb0.trans (hb.mono hb0.size)) (fun i t s h => hF i (List.mem_map.2 ⟨_, mem_entries (hmem i t s h), rfl⟩) t s (hmem i t s h))
      (fun i j hi hj => hsep i (List.contains_iff_mem.1 hi) j (List.contains_iff_mem.1 hj))
end
/-- The address of a new variable of the call's own, not yet written. -/
def Sp.var (base : Nat) : Sp := ⟨fun w v => ∃ g, v = .pointer (some ⟨g, 0, none⟩) ∧ base ≤ g ∧ VarB w g none 0 0, fun _ _ _ h hb => by obtain ⟨g, h1, h2, h3⟩ := h; exact ⟨g, h1, h2, h3.mono hb h3.lt⟩⟩
theorem Sp.var_lt {base : Nat} {w : World} {v : Value} (h : (Sp.var base).p w v) : blk v < w.heap.size := by
  obtain ⟨g, rfl, _, h3⟩ := h; exact h3.lt
section
variable {Q : Exit → Act → World → Prop} {o : Oper} {a : Act} {w : World} {x y : Operand} {m n : Nat} {tt : Array TypeId}
theorem arm_alloc {base : Nat} (ho : o.op = .alloc 24) (hb : base ≤ w.heap.size) : ArmB Try.prog Q true o a w (.var base) := by
  intro K hK
  unfold Oper.wp execOp
  rw [ho]
  go_simp
  exact hK _ _ ⟨_, rfl, hb, VarB.made w none 0 0⟩ (bel1 w _) (fun _ => Nat.le_refl _)
theorem ofNewB {w w' : World} {base N : Nat} {e : Ending} (hb0 : base ≤ w.heap.size) (h : RetNew w N e w') : ∃ v, e = .returned v ∧ (Sp.new base N).p w' v ∧ Below w.heap.size w w' := by
  obtain ⟨v, rfl, hn, hb⟩ := h; exact ⟨v, rfl, hn.weaken hb0, hb⟩
theorem arm_rAddN {base : Nat} (hb : base ≤ w.heap.size) (ho : o.op = .call { callee := .value (.func 70), args := #[x, y], argTypes := tt }) (hx : Is a w x (.nat m)) (hy : Is a w y (.nat n)) (hm : nl m ≤ 1000000000000) (hn : nl n ≤ 1000000000000) {N : Nat} (hN : m + n = N) : Arm Try.prog Q o a w (.new base N) := by
  subst hN
  exact arm_two ho (enters Try.func70 rfl rfl) hx hy (R := fun w => RetNew w (m + n)) (fun va vb w h1 h2 => c_ref_Add va vb m n w h1 h2 hm hn) (fun _ _ h => ofNewB hb h)
theorem arm_rOf (ho : o.op = .call { callee := .value (.func 54), args := #[x], argTypes := tt }) (hx : Is a w x (.val (.int .u64 (n : Int)))) (hn : n < 18446744073709551616) : Arm Try.prog Q o a w (.nat n) := by
  refine arm_call ho (enters Try.func54 rfl rfl) (R := fun e w' => RetNew w n e w') ?_ (fun _ _ h => ofNew h)
  have hx' : a.eval x = .int .u64 (n : Int) := hx
  simpa [hx'] using c_ref_Of n w hn
theorem Is.new {base : Nat} (h : Is a w x (.new base m)) : Is a w x (.nat m) := NewN.isN h
end
theorem run_store {w : World} {g L c : Nat} {s : Option Addr} {u : Value} (hu : ∃ s' L' c', u = .slice s' L' c') (h : VarB w g s L c) : (Instr.storeAt 24 (.pointer (some ⟨g, 0, none⟩)) (.agg #[u])).run Try.prog w = .ok () (w.setCell ⟨g, 0, none⟩ u) := by
  obtain ⟨s', L', c', rfl⟩ := hu
  have c1 := h.cell
  have f1 := h.frozen
  go_simp
theorem wp_store {Q : Exit → Act → World → Prop} {o : Oper} {a : Act} {w : World} {K : Act → World → Prop} {x y : Operand} {g L c : Nat} {s : Option Addr} {u : Value} (hop : o.op = .store 24 x y) (hd : o.dst = none)
    (hx : a.eval x = .pointer (some ⟨g, 0, none⟩)) (hy : a.eval y = .agg #[u]) (hu : ∃ s' L' c', u = .slice s' L' c') (hv : VarB w g s L c) (hK : K a (w.setCell ⟨g, 0, none⟩ u)) : Oper.wp Try.prog o a w K Q := by
  unfold Oper.wp execOp
  rw [hop]
  simp only [hx, hy, Sem.run_bind, run_store hu hv, Result.andThen, Sem.run_pure, Oper.upon_skip]
  rw [hd]
  exact hK
/-- The store that is left. -/
theorem wpAny_store {Q : Exit → Act → World → Prop} {md : Region.Mode} {ops : Array Oper} {o : Oper} {a : Act} {w : World} {j fuel : Nat} {listed : Array Bool} {x y : Operand} {g L c : Nat} {s : Option Addr} {u : Value}
    (hr : Region.ready md ops listed = [j]) (ho : ops[j]? = some o) (hop : o.op = .store 24 x y) (hg : o.guard = none) (hd : o.dst = none)
    (hx : a.eval x = .pointer (some ⟨g, 0, none⟩)) (hy : a.eval y = .agg #[u]) (hu : ∃ s' L' c', u = .slice s' L' c') (hv : VarB w g s L c) (h : wpAny Try.prog md ops Q fuel (listed.setIfInBounds j true) a (w.setCell ⟨g, 0, none⟩ u)) :
    wpAny Try.prog md ops Q (fuel + 1) listed a w := by
  refine wpAny_ready hr (by simp) (AllReady.cons ho (fun K hK => ?_) AllReady.nil)
  rw [if_pos (wanted_none hg)]
  exact wp_store hop hd hx hy hu hv (hK _ _ h)
end Go.Proofs.Ytldnimohnbjfaaa
namespace Go.Proofs.Ytldnimohnbjfaaa
set_option linter.unusedSimpArgs false
set_option linter.unusedVariables false
set_option maxRecDepth 100000
open Go.RowKit
theorem bit_of (m i : Nat) : D m (i / 32) / 2 ^ (i % 32) % 2 = m / 2 ^ i % 2 := by
  unfold D
  have h1 : (4294967296 : Nat) ^ (i / 32) = 2 ^ (32 * (i / 32)) := by rw [Nat.pow_mul]
  have h3 : ∀ X s : Nat, s ≤ 32 → X % 4294967296 / 2 ^ s = X / 2 ^ s % 2 ^ (32 - s) := by
    intro X s hs
    rw [show (4294967296 : Nat) = 2 ^ s * 2 ^ (32 - s) by rw [← Nat.pow_add, show s + (32 - s) = 32 by omega], Nat.mod_mul_right_div_self]
  rw [h3 _ _ (by omega), h1, Nat.div_div_eq_div_mul, ← Nat.pow_add, Nat.div_add_mod]
  have h4 : (2 : Nat) ∣ 2 ^ (32 - i % 32) := ⟨2 ^ (31 - i % 32), by rw [← Nat.pow_succ', show (31 - i % 32).succ = 32 - i % 32 by omega]⟩
  exact Nat.mod_mod_of_dvd _ h4
theorem c_bit (va : Value) (m i : Nat) (w : World) (ha : IsN w va m) (hm : nl m ≤ 1000000000000) (hi : i ≤ 60000000000000) :
    Calls Try.prog 87 #[va, .int .i64 (i : Int)] w fun e w' => RetV w (.int .u64 ((m / 2 ^ i % 2 : Nat) : Int)) e w' := by
  obtain ⟨a, ca, rfl, hca, ra⟩ := ha
  obtain ⟨k0, k1⟩ := box1 (L := nl m) (c := ca) (N := m) ⟨a, ca, rfl, hca, ra⟩
  obtain ⟨y1, d1, q1, i1⟩ := k1
  have e1 := q1.cell
  obtain ⟨P, hP⟩ : ∃ P : Nat, Hid (P = i / 32) := ⟨_, Lib.hid rfl⟩
  obtain ⟨R, hR⟩ : ∃ R : Nat, Hid (R = i % 32) := ⟨_, Lib.hid rfl⟩
  have hq : (i : Int) / 32 = (P : Int) := by have := hP.out; omega
  have hq' : Int.tdiv (i : Int) 32 = (P : Int) := by rw [Int.tdiv_eq_ediv_of_nonneg (by omega)]; exact hq
  have hr : (i : Int) % 32 = (R : Int) := by have := hR.out; omega
  have hr' : Int.tmod (i : Int) 32 = (R : Int) := by rw [Int.tmod_eq_emod_of_nonneg (by omega)]; exact hr
  have hR32 : R ≤ 31 := by have := hR.out; omega
  have hPb : P ≤ 60000000000000 := by have := hP.out; omega
  have hbit : D m P / 2 ^ R % 2 = m / 2 ^ i % 2 := by rw [hP.out, hR.out]; exact bit_of m i
  have HB := Lib.hid hbit
  clear hbit
  obtain ⟨V, hV⟩ : ∃ V : Nat, Hid (V = D m P) := ⟨_, Lib.hid rfl⟩
  have hVb : V ≤ 4294967295 := by have := D_lt m P; have := hV.out; omega
  go_enter Try.func87, Try.ntmps87
  go_wp2_with fail
  refine (c_digit _ (nl m) m P _ i1 (by omega) hPb).mono ?_
  rintro e w1 ⟨rfl, bb⟩
  rw [← hV.out]
  have hb1 := k0.trans (bb.mono k0.size)
  go_wp2_with fail
  go_loopw [5, 6] (fun s5 s6 wr => ∃ k x : Nat, k ≤ R ∧ s6 = .int .i64 (k : Int) ∧ s5 = .int .u64 (x : Int) ∧ Hid (x = V / 2 ^ k) ∧ x ≤ 4294967295 ∧ wr = w1) (fun _ s6 _ => R - (intOf s6).toNat)
  case atStart => exact ⟨0, V, Nat.zero_le _, rfl, rfl, Lib.hid (by simp), hVb, rfl⟩
  case round =>
    obtain ⟨k, x, hk, rfl, rfl, HX, hxb, rfl⟩ := hrel
    by_cases hlt : k < R
    · obtain ⟨y, hy⟩ : ∃ y : Nat, Hid (y = x / 2) := ⟨_, Lib.hid rfl⟩
      have hq2 : ((x : Nat) : Int) / 2 = ((y : Nat) : Int) := by have := hy.out; omega
      have hyb : y ≤ 4294967295 := by have := hy.out; omega
      go_wp2_with fail
      go_roundw
      case rel => exact ⟨k + 1, y, by omega, by go_num, rfl, Lib.hid (by rw [hy.out, HX.out, Nat.pow_succ, Nat.div_div_eq_div_mul]), hyb, trivial⟩
      case measure => simp [intOf] <;> omega
    · obtain rfl : k = R := by omega
      obtain ⟨y, hy⟩ : ∃ y : Nat, Hid (y = x % 2) := ⟨_, Lib.hid rfl⟩
      have hq2 : ((x : Nat) : Int) % 2 = ((y : Nat) : Int) := by have := hy.out; omega
      go_wp2
      go_ret
      refine ⟨?_, hb1⟩
      rw [← HB.out, ← hV.out, ← HX.out]
      refine congrArg Ending.returned (congrArg (Value.int IntKind.u64) ?_)
      have := hy.out
      omega
end Go.Proofs.Ytldnimohnbjfaaa
namespace Go.Proofs.Ytldnimohnbjfaaa
set_option linter.unusedSimpArgs false
set_option linter.unusedVariables false
set_option maxRecDepth 100000
open Go.RowKit
/-- Two result variables, quotient and remainder in variables of their own, the arguments in theirs. -/
structure DM (w wr : World) (m n q r : Nat) : Prop where
  below : Below w.heap.size w wr
  va : VarI wr w.heap.size m
  vb : VarI wr (w.heap.size + 1) n
  r1 : VarB wr (w.heap.size + 2) none 0 0
  r2 : VarB wr (w.heap.size + 3) none 0 0
  vq : VarN w.heap.size wr (w.heap.size + 4) q
  vr : VarN w.heap.size wr (w.heap.size + 5) r
theorem DM.mono {w wr w' : World} {m n q r : Nat} (h : DM w wr m n q r) (hb : Below wr.heap.size wr w') : DM w w' m n q r :=
  ⟨h.below.trans (hb.mono h.below.size), h.va.mono hb, h.vb.mono hb, h.r1.mono hb h.r1.lt, h.r2.mono hb h.r2.lt, h.vq.mono (B := 0) hb, h.vr.mono (B := 0) hb⟩
theorem VarI.setOther {w : World} {g N g' L' c' : Nat} {a' : Option Addr} {u : Value} (h : VarI w g N) (h' : VarB w g' a' L' c') (hne : g' ≠ g) : VarI (w.setCell ⟨g', 0, none⟩ u) g N := by
  obtain ⟨a, c, h1, h2⟩ := h
  exact ⟨a, c, h1.setOther _ _ hne, h2.setVar h'⟩
theorem VarN.setOther {w : World} {base g N g' L' c' : Nat} {a' : Option Addr} {u : Value} (h : VarN base w g N) (h' : VarB w g' a' L' c') (hne : g' ≠ g) : VarN base (w.setCell ⟨g', 0, none⟩ u) g N := by
  obtain ⟨a, c, h1, h2⟩ := h
  exact ⟨a, c, h1.setOther _ _ hne, h2.setVar h'⟩
theorem VarN.setN {w : World} {base g M N c : Nat} {x : Option Addr} (h : VarN base w g M) (hn : NewN base w (.agg #[.slice x (nl N) c]) N) : VarN base (w.setCell ⟨g, 0, none⟩ (.slice x (nl N) c)) g N := by
  obtain ⟨a, c', h1, h2⟩ := h
  exact ⟨x, c, h1.set, hn.setVar h1⟩
theorem DM.setr {w wr : World} {m n q r N c : Nat} {x : Option Addr} (h : DM w wr m n q r) (hn : NewN w.heap.size wr (.agg #[.slice x (nl N) c]) N) : DM w (wr.setCell ⟨w.heap.size + 5, 0, none⟩ (.slice x (nl N) c)) m n q N := by
  obtain ⟨a, c', h1, h2⟩ := h.vr
  exact ⟨h.below.setCell (p := ⟨w.heap.size + 5, 0, none⟩) (Nat.le_add_right _ _) _, h.va.setOther h1 (by omega), h.vb.setOther h1 (by omega), h.r1.setOther _ _ (by simp), h.r2.setOther _ _ (by simp), h.vq.setOther h1 (by omega), h.vr.setN hn⟩
theorem DM.setq {w wr : World} {m n q r N c : Nat} {x : Option Addr} (h : DM w wr m n q r) (hn : NewN w.heap.size wr (.agg #[.slice x (nl N) c]) N) : DM w (wr.setCell ⟨w.heap.size + 4, 0, none⟩ (.slice x (nl N) c)) m n N r := by
  obtain ⟨a, c', h1, h2⟩ := h.vq
  exact ⟨h.below.setCell (p := ⟨w.heap.size + 4, 0, none⟩) (Nat.le_add_right _ _) _, h.va.setOther h1 (by omega), h.vb.setOther h1 (by omega), h.r1.setOther _ _ (by simp), h.r2.setOther _ _ (by simp), h.vq.setN hn, h.vr.setOther h1 (by omega)⟩
theorem dm_uniq {Y n q r : Nat} (h : Y = n * q + r) (hr : r < n) : Y / n = q ∧ Y % n = r :=
  (Nat.div_mod_unique (by omega)).2 ⟨by omega, hr⟩
theorem two_pow_half (m k : Nat) : m / 2 ^ k = 2 * (m / 2 ^ (k + 1)) + m / 2 ^ k % 2 := by
  rw [Nat.pow_succ, ← Nat.div_div_eq_div_mul]; omega
theorem lt_len2 (m : Nat) : m < 2 ^ len2 m := by
  unfold len2
  split
  · omega
  · exact Nat.lt_log2_self
/-- One round of the long division in binary digits. -/
theorem dm_round {m n k : Nat} (hn : 0 < n) : (n ≤ m / 2 ^ (k + 1) % n + m / 2 ^ (k + 1) % n + m / 2 ^ k % 2 → m / 2 ^ k / n = m / 2 ^ (k + 1) / n + m / 2 ^ (k + 1) / n + 1 ∧ m / 2 ^ k % n = m / 2 ^ (k + 1) % n + m / 2 ^ (k + 1) % n + m / 2 ^ k % 2 - n) ∧
    (m / 2 ^ (k + 1) % n + m / 2 ^ (k + 1) % n + m / 2 ^ k % 2 < n → m / 2 ^ k / n = m / 2 ^ (k + 1) / n + m / 2 ^ (k + 1) / n ∧ m / 2 ^ k % n = m / 2 ^ (k + 1) % n + m / 2 ^ (k + 1) % n + m / 2 ^ k % 2) := by
  have h1 := two_pow_half m k
  have h2 := Nat.div_add_mod (m / 2 ^ (k + 1)) n
  have h3 := Nat.mod_lt (m / 2 ^ (k + 1)) hn
  generalize m / 2 ^ (k + 1) = X at *
  generalize m / 2 ^ k = Y at *
  generalize hb : Y % 2 = b at *
  have hb2 : b < 2 := by omega
  generalize X / n = q at *
  generalize X % n = r at *
  subst h2
  have e1 : n * (q + q) = n * q + n * q := Nat.mul_add n q q
  have e2 : n * (q + q + 1) = n * q + n * q + n := by rw [Nat.mul_add, e1, Nat.mul_one]
  refine ⟨fun h => dm_uniq ?_ (by omega), fun h => dm_uniq ?_ h⟩
  · rw [h1, e2]; omega
  · rw [h1, e1]; omega
/-- The two results are laid into their variables, in whatever order. -/
theorem DM.fin {w w0 : World} {m n q r cq cr : Nat} {aq ar : Option Addr} (h : DM w w0 m n q r) (hq : VarB w0 (w.heap.size + 4) aq (nl q) cq) (nq : NewN w.heap.size w0 (.agg #[.slice aq (nl q) cq]) q)
    (hr : VarB w0 (w.heap.size + 5) ar (nl r) cr) (nr : NewN w.heap.size w0 (.agg #[.slice ar (nl r) cr]) r) (w1 : World)
    (hw : w1 = (w0.setCell ⟨w.heap.size + 2, 0, none⟩ (.slice aq (nl q) cq)).setCell ⟨w.heap.size + 3, 0, none⟩ (.slice ar (nl r) cr) ∨ w1 = (w0.setCell ⟨w.heap.size + 3, 0, none⟩ (.slice ar (nl r) cr)).setCell ⟨w.heap.size + 2, 0, none⟩ (.slice aq (nl q) cq)) :
    VarB w1 (w.heap.size + 2) aq (nl q) cq ∧ VarB w1 (w.heap.size + 3) ar (nl r) cr ∧ NewN w.heap.size w1 (.agg #[.slice aq (nl q) cq]) q ∧ NewN w.heap.size w1 (.agg #[.slice ar (nl r) cr]) r ∧ Below w.heap.size w w1 := by
  rcases hw with rfl | rfl
  · have k2 := h.r2.setOther ⟨w.heap.size + 2, 0, none⟩ (.slice aq (nl q) cq) (by simp)
    exact ⟨h.r1.set.setOther _ _ (by simp), k2.set, (nq.setVar h.r1).setVar k2, (nr.setVar h.r1).setVar k2, (h.below.setCell (p := ⟨w.heap.size + 2, 0, none⟩) (Nat.le_add_right _ _) _).setCell (p := ⟨w.heap.size + 3, 0, none⟩) (Nat.le_add_right _ _) _⟩
  · have k1 := h.r1.setOther ⟨w.heap.size + 3, 0, none⟩ (.slice ar (nl r) cr) (by simp)
    exact ⟨k1.set, h.r2.set.setOther _ _ (by simp), (nq.setVar h.r2).setVar k1, (nr.setVar h.r2).setVar k1, (h.below.setCell (p := ⟨w.heap.size + 3, 0, none⟩) (Nat.le_add_right _ _) _).setCell (p := ⟨w.heap.size + 2, 0, none⟩) (Nat.le_add_right _ _) _⟩
section
variable {Q : Exit → Act → World → Prop} {o : Oper} {a : Act} {w : World} {x y : Operand} {m n : Nat} {tt : Array TypeId}
theorem arm_bit {i : Nat} (ho : o.op = .call { callee := .value (.func 87), args := #[x, y], argTypes := tt }) (hx : Is a w x (.nat m)) (hy : Is a w y (.val (.int .i64 (i : Int)))) (hm : nl m ≤ 1000000000000) (hi : i ≤ 60000000000000) {b : Nat} (hb : m / 2 ^ i % 2 = b) :
    Arm Try.prog Q o a w (.val (.int .u64 (b : Int))) := by
  subst hb
  refine arm_call ho (enters Try.func87 rfl rfl) (R := RetV w (.int .u64 ((m / 2 ^ i % 2 : Nat) : Int))) ?_ (fun _ _ h => ofV h)
  have hy' : a.eval y = .int .i64 (i : Int) := hy
  simpa [hy'] using c_bit _ m i w hx hm hi
end
end Go.Proofs.Ytldnimohnbjfaaa
