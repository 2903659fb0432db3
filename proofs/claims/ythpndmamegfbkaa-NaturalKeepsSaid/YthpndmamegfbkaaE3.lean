/- The reference's Add. -/
import Derived.Test.YthpndmamegfbkaaE2
namespace Go.Proofs.Ythpndmamegfbkaa
set_option linter.unusedSimpArgs false
set_option linter.unusedVariables false
open Go.RowKit
def addTab6 (ga gb m n i S X : Nat) : List (Nat × Tmp × Sp) :=
   [(0, 20, .nat (m)),
    (1, 21, .val (Value.int IntKind.i64 ((i : Nat)))),
    (2, 22, .val (Value.int IntKind.u64 (((D (m) (i) : Nat) : Int)))),
    (3, 23, .nat (n)),
    (4, 24, .val (Value.int IntKind.i64 ((i : Nat)))),
    (5, 25, .val (Value.int IntKind.u64 (((D (n) (i) : Nat) : Int)))),
    (6, 26, .val (Value.int IntKind.u64 (((S : Nat) : Int)))),
    (7, 27, .val (Value.int IntKind.u64 (((cy m n i : Nat) : Int)))),
    (8, 28, .val (Value.int IntKind.u64 (((X : Nat) : Int)))),
    (9, 8, .val (Value.int IntKind.u64 (((X : Nat) : Int))))]
theorem max_of (m n : Nat) : ∃ M, m ≤ M ∧ n ≤ M ∧ (M = m ∨ M = n) ∧ ((m < n ∧ M = n) ∨ (¬ m < n ∧ M = m)) := by
  rcases Nat.lt_or_ge m n with h | h
  · exact ⟨n, by omega, by omega, .inr rfl, .inl ⟨h, rfl⟩⟩
  · exact ⟨m, by omega, by omega, .inl rfl, .inr ⟨by omega, rfl⟩⟩
set_option maxRecDepth 100000 in
set_option maxHeartbeats 1000000 in
theorem c_ref_Add (va vb : Value) (m n : Nat) (w : World) (ha : IsN w va m) (hb : IsN w vb n) (hm : nl m ≤ 1000000000000) (hn : nl n ≤ 1000000000000) :
    Calls Try.prog 17 #[va, vb] w fun e w' => RetNew w (m + n) e w' := by
  obtain ⟨a, ca, rfl, hca, ra⟩ := ha
  obtain ⟨b, cb, rfl, hcb, rb⟩ := hb
  obtain ⟨k0, k1, k2⟩ := box2 (L := nl m) (c := ca) (N := m) (L2 := nl n) (c2 := cb) (N2 := n) ⟨a, ca, rfl, hca, ra⟩ ⟨b, cb, rfl, hcb, rb⟩
  have k3 := bel1 ((w.alloc (.cells #[.slice a (nl m) ca] 24)).alloc (.cells #[.slice b (nl n) cb] 24)) (.cells #[.slice none 0 0] 24)
  have k4 := VarB.made ((w.alloc (.cells #[.slice a (nl m) ca] 24)).alloc (.cells #[.slice b (nl n) cb] 24)) none 0 0
  rw [World.size_alloc, World.size_alloc] at k4
  replace k0 := k0.trans (k3.mono k0.size)
  replace k1 := VarR.mono k1 k3
  replace k2 := VarR.mono k2 k3
  obtain ⟨M, hM1, hM2, hM3, hMM⟩ := max_of (nl m) (nl n)
  have hM : M ≤ 1000000000000 := by rcases hM3 with h | h <;> omega
  clear hM3
  replace hMM := Lib.hid hMM
  go_enter Try.func17, Try.ntmps17
  go_upto_region 1 with (fail)
  go_cut [5] (fun s5 wx => s5 = .slice none 0 0 ∧ VarI wx w.heap.size m ∧ VarI wx (w.heap.size + 1) n ∧ VarB wx (w.heap.size + 1 + 1) none 0 0 ∧ Below w.heap.size w wx)
  case first =>
    go_wp2_with fail
    go_meet
    case rel => exact ⟨rfl, k1, k2, k4, k0⟩
  case rest =>
    obtain ⟨rfl, Va, Vb, vr, hb1⟩ := hcut
    clear k0 k1 k2 k3 k4 ra rb
    go_wp2_with fail
    go_loopw [5, 6, 7] (fun s5 s6 s7 wr => ∃ i : Nat, i ≤ M + 1 ∧ s7 = .int .i64 (i : Int) ∧ s6 = .int .u64 ((cy m n i : Nat) : Int) ∧ GR wr wc.heap.size s5 i ((m + n) % 4294967296 ^ i) ∧ Below wc.heap.size wc wr) (fun _ _ s7 _ => M + 1 - (intOf s7).toNat)
    case atStart => exact ⟨0, Nat.zero_le _, rfl, by rw [cy_zero]; rfl, by rw [Nat.pow_zero, Nat.mod_one]; exact GR.nil _ _, Below.refl _ _⟩
    case round =>
      obtain ⟨i, hi, rfl, rfl, hgr, hbr⟩ := hrel
      have Va1 := Va.mono hbr
      have Vb1 := Vb.mono hbr
      obtain ⟨ya, da, qa, ia⟩ := Va1
      have ea := qa.cell
      obtain ⟨yb, db, qb, ib⟩ := Vb1
      have eb := qb.cell
      have hi60 : i ≤ 60000000000000 := by omega
      have hcy := cy_le m n i
      by_cases hlt : i ≤ M
      · have hst := cy_step m n i
        have hd := D_lt (m + n) i
        obtain ⟨S, hS⟩ : ∃ S : Nat, Hid (S = D m i + D n i) := ⟨_, Lib.hid rfl⟩
        obtain ⟨X, hX⟩ : ∃ X : Nat, Hid (X = S + cy m n i) := ⟨_, Lib.hid rfl⟩
        have hSb : S < 8589934592 := by have := D_lt m i; have := D_lt n i; have := hS.out; omega
        have hXb : X < 8589934593 := by have := hX.out; omega
        have hrem : ((X : Nat) : Int) % 4294967296 = ((D (m + n) i : Nat) : Int) := by have := hX.out; have := hS.out; omega
        have hquo : ((X : Nat) : Int) / 4294967296 = ((cy m n (i + 1) : Nat) : Int) := by have := hX.out; have := hS.out; omega
        clear hst
        have hcy2 := cy_le m n (i + 1)
        have Va : VarI wr w.heap.size m := ⟨ya, da, qa, ia⟩
        have Vb : VarI wr (w.heap.size + 1) n := ⟨yb, db, qb, ib⟩
        rcases hMM.out with ⟨hmx, hme⟩ | ⟨hmx, hme⟩
        · have hle : i ≤ nl n := by omega
          have HME := Lib.hid hme
          clear hme hlt
          go_upto_region 6 with (fail)
          refine wp_tabL Try.f17 6 (addTab6 w.heap.size (w.heap.size + 1) m n i S X) (by kernel_rfl) (by kernel_rfl) rfl (by kernel_rfl) (by kernel_rfl) ?_ ?_
          · refine ⟨fun a' w' F => ⟨_, rfl, wanted_none rfl, arm_load rfl (F.keep 2 (Value.pointer (some ⟨w.heap.size, 0, none⟩)) (by kernel_rfl) rfl).is (Va.mono F.below)⟩, ?_⟩
            refine ⟨fun a' w' F => ⟨_, rfl, wanted_none rfl, arm_move (.inl rfl) (F.keep 7 (Value.int IntKind.i64 ((i : Nat))) (by kernel_rfl) rfl).is⟩, ?_⟩
            refine ⟨fun a' w' F => ⟨_, rfl, wanted_none rfl, arm_digit rfl (F.at' 0 20 _ rfl (by kernel_rfl)).is (F.at' 1 21 _ rfl (by kernel_rfl)).is (hm) (hi60)⟩, ?_⟩
            refine ⟨fun a' w' F => ⟨_, rfl, wanted_none rfl, arm_load rfl (F.keep 3 (Value.pointer (some ⟨w.heap.size + 1, 0, none⟩)) (by kernel_rfl) rfl).is (Vb.mono F.below)⟩, ?_⟩
            refine ⟨fun a' w' F => ⟨_, rfl, wanted_none rfl, arm_move (.inl rfl) (F.keep 7 (Value.int IntKind.i64 ((i : Nat))) (by kernel_rfl) rfl).is⟩, ?_⟩
            refine ⟨fun a' w' F => ⟨_, rfl, wanted_none rfl, arm_digit rfl (F.at' 3 23 _ rfl (by kernel_rfl)).is (F.at' 4 24 _ rfl (by kernel_rfl)).is (hn) (hi60)⟩, ?_⟩
            refine ⟨fun a' w' F => ⟨_, rfl, wanted_none rfl, arm_bin rfl (F.at' 2 22 _ rfl (by kernel_rfl)).is (F.at' 5 25 _ rfl (by kernel_rfl)).is (fun _ => rfl) (run_addU _ _ _ hS.out.symm (by have := hSb; omega))⟩, ?_⟩
            refine ⟨fun a' w' F => ⟨_, rfl, wanted_none rfl, arm_move (.inl rfl) (F.keep 6 (Value.int IntKind.u64 (((cy m n i : Nat) : Int))) (by kernel_rfl) rfl).is⟩, ?_⟩
            refine ⟨fun a' w' F => ⟨_, rfl, wanted_none rfl, arm_bin rfl (F.at' 6 26 _ rfl (by kernel_rfl)).is (F.at' 7 27 _ rfl (by kernel_rfl)).is (fun _ => rfl) (run_addU _ _ _ hX.out.symm (by have := hXb; omega))⟩, ?_⟩
            refine ⟨fun a' w' F => ⟨_, rfl, wanted_none rfl, arm_move (.inr rfl) (F.at' 8 28 _ rfl (by kernel_rfl)).is⟩, ?_⟩
            exact trivial
          intro gp wp bp G
          have ep9 : gp 9 = Value.int IntKind.u64 (((X : Nat) : Int)) := G 9 8 _ rfl
          simp only [addTab6]
          simp only [putD, entries, List.map_cons, List.map_nil, List.foldl_cons, List.foldl_nil, Act.put, List.setIfInBounds_toArray, List.set_cons_zero, List.set_cons_succ, ep9]
          clear G
          have hgr1 := hgr.below bp
          have hb2 := hbr.trans (bp.mono hbr.size)
          have hsr1 := hb2.size
          obtain ⟨a', c', rfl, hLc, hrw, hown⟩ := hgr1.open
          clear hgr ea qa ia eb qb ib Va Vb
          go_wp2_with (at_builtin; refine wpList_append_digit rfl _ _ rfl wc.heap.size (.slice a' i c') i ((m + n) % 4294967296 ^ i) (D (m + n) i) rfl hgr1 hsr1 rfl hd (by omega) ?_)
          intro v' w' hg' hb' hs'
          rw [mod_push] at hg'
          go_wp2_with fail
          go_roundw
          case rel => exact ⟨i + 1, by omega, by go_num, rfl, hg', hb2.trans hb'⟩
          case measure => simp [intOf] <;> omega
        · have hle : i ≤ nl m := by omega
          have HME := Lib.hid hme
          clear hme hlt
          go_upto_region 6 with (fail)
          refine wp_tabL Try.f17 6 (addTab6 w.heap.size (w.heap.size + 1) m n i S X) (by kernel_rfl) (by kernel_rfl) rfl (by kernel_rfl) (by kernel_rfl) ?_ ?_
          · refine ⟨fun a' w' F => ⟨_, rfl, wanted_none rfl, arm_load rfl (F.keep 2 (Value.pointer (some ⟨w.heap.size, 0, none⟩)) (by kernel_rfl) rfl).is (Va.mono F.below)⟩, ?_⟩
            refine ⟨fun a' w' F => ⟨_, rfl, wanted_none rfl, arm_move (.inl rfl) (F.keep 7 (Value.int IntKind.i64 ((i : Nat))) (by kernel_rfl) rfl).is⟩, ?_⟩
            refine ⟨fun a' w' F => ⟨_, rfl, wanted_none rfl, arm_digit rfl (F.at' 0 20 _ rfl (by kernel_rfl)).is (F.at' 1 21 _ rfl (by kernel_rfl)).is (hm) (hi60)⟩, ?_⟩
            refine ⟨fun a' w' F => ⟨_, rfl, wanted_none rfl, arm_load rfl (F.keep 3 (Value.pointer (some ⟨w.heap.size + 1, 0, none⟩)) (by kernel_rfl) rfl).is (Vb.mono F.below)⟩, ?_⟩
            refine ⟨fun a' w' F => ⟨_, rfl, wanted_none rfl, arm_move (.inl rfl) (F.keep 7 (Value.int IntKind.i64 ((i : Nat))) (by kernel_rfl) rfl).is⟩, ?_⟩
            refine ⟨fun a' w' F => ⟨_, rfl, wanted_none rfl, arm_digit rfl (F.at' 3 23 _ rfl (by kernel_rfl)).is (F.at' 4 24 _ rfl (by kernel_rfl)).is (hn) (hi60)⟩, ?_⟩
            refine ⟨fun a' w' F => ⟨_, rfl, wanted_none rfl, arm_bin rfl (F.at' 2 22 _ rfl (by kernel_rfl)).is (F.at' 5 25 _ rfl (by kernel_rfl)).is (fun _ => rfl) (run_addU _ _ _ hS.out.symm (by have := hSb; omega))⟩, ?_⟩
            refine ⟨fun a' w' F => ⟨_, rfl, wanted_none rfl, arm_move (.inl rfl) (F.keep 6 (Value.int IntKind.u64 (((cy m n i : Nat) : Int))) (by kernel_rfl) rfl).is⟩, ?_⟩
            refine ⟨fun a' w' F => ⟨_, rfl, wanted_none rfl, arm_bin rfl (F.at' 6 26 _ rfl (by kernel_rfl)).is (F.at' 7 27 _ rfl (by kernel_rfl)).is (fun _ => rfl) (run_addU _ _ _ hX.out.symm (by have := hXb; omega))⟩, ?_⟩
            refine ⟨fun a' w' F => ⟨_, rfl, wanted_none rfl, arm_move (.inr rfl) (F.at' 8 28 _ rfl (by kernel_rfl)).is⟩, ?_⟩
            exact trivial
          intro gp wp bp G
          have ep9 : gp 9 = Value.int IntKind.u64 (((X : Nat) : Int)) := G 9 8 _ rfl
          simp only [addTab6]
          simp only [putD, entries, List.map_cons, List.map_nil, List.foldl_cons, List.foldl_nil, Act.put, List.setIfInBounds_toArray, List.set_cons_zero, List.set_cons_succ, ep9]
          clear G
          have hgr1 := hgr.below bp
          have hb2 := hbr.trans (bp.mono hbr.size)
          have hsr1 := hb2.size
          obtain ⟨a', c', rfl, hLc, hrw, hown⟩ := hgr1.open
          clear hgr ea qa ia eb qb ib Va Vb
          go_wp2_with (at_builtin; refine wpList_append_digit rfl _ _ rfl wc.heap.size (.slice a' i c') i ((m + n) % 4294967296 ^ i) (D (m + n) i) rfl hgr1 hsr1 rfl hd (by omega) ?_)
          intro v' w' hg' hb' hs'
          rw [mod_push] at hg'
          go_wp2_with fail
          go_roundw
          case rel => exact ⟨i + 1, by omega, by go_num, rfl, hg', hb2.trans hb'⟩
          case measure => simp [intOf] <;> omega
      · obtain rfl : i = M + 1 := by omega
        have hsum : m + n < 4294967296 ^ (M + 1) := by
          have h1 := nl_le_iff.1 hM1
          have h2 := nl_le_iff.1 hM2
          rw [Nat.pow_succ]; omega
        rw [Nat.mod_eq_of_lt hsum] at hgr
        obtain ⟨a', c', rfl, hLc, hrw, hown⟩ := hgr.open
        rcases hMM.out with ⟨hmx, hme⟩ | ⟨hmx, hme⟩
        · generalize hi1 : M + 1 = i at *
          have hle : ¬ i ≤ nl n := by omega
          have HME := Lib.hid hme
          clear hme hlt
          go_wp2_with fail
          refine (c_Trim a' i c' (m + n) _ hrw (by omega)).mono ?_
          rintro e w2 ⟨v2, rfl, ⟨x2, c2, rfl, hc2, hx2⟩, bb⟩
          have n2 : NewN wc.heap.size w2 (.agg #[.slice x2 (nl (m + n)) c2]) (m + n) := NewN.weaken (base := wr.heap.size) ⟨x2, c2, rfl, hc2, hx2⟩ hbr.size
          have vr2 := (vr.mono hbr vr.lt).mono bb (Nat.lt_of_lt_of_le vr.lt hbr.size)
          have cr := vr2.cell
          have fr := vr2.frozen
          have n3 := n2.setVar (u := .slice x2 (nl (m + n)) c2) vr2
          go_wp2
          exact bodyPost_ret (res_nat rfl _ _ (w.heap.size + 1 + 1) _ rfl vr2.set.cell) rfl ⟨_, rfl, n3.weaken hb1.size, ((hb1.trans (hbr.mono hb1.size)).trans (bb.mono (Nat.le_trans hb1.size hbr.size))).setCell (p := ⟨w.heap.size + 1 + 1, 0, none⟩) (by simp; omega) _⟩
        · generalize hi1 : M + 1 = i at *
          have hle : ¬ i ≤ nl m := by omega
          have HME := Lib.hid hme
          clear hme hlt
          go_wp2_with fail
          refine (c_Trim a' i c' (m + n) _ hrw (by omega)).mono ?_
          rintro e w2 ⟨v2, rfl, ⟨x2, c2, rfl, hc2, hx2⟩, bb⟩
          have n2 : NewN wc.heap.size w2 (.agg #[.slice x2 (nl (m + n)) c2]) (m + n) := NewN.weaken (base := wr.heap.size) ⟨x2, c2, rfl, hc2, hx2⟩ hbr.size
          have vr2 := (vr.mono hbr vr.lt).mono bb (Nat.lt_of_lt_of_le vr.lt hbr.size)
          have cr := vr2.cell
          have fr := vr2.frozen
          have n3 := n2.setVar (u := .slice x2 (nl (m + n)) c2) vr2
          go_wp2
          exact bodyPost_ret (res_nat rfl _ _ (w.heap.size + 1 + 1) _ rfl vr2.set.cell) rfl ⟨_, rfl, n3.weaken hb1.size, ((hb1.trans (hbr.mono hb1.size)).trans (bb.mono (Nat.le_trans hb1.size hbr.size))).setCell (p := ⟨w.heap.size + 1 + 1, 0, none⟩) (by simp; omega) _⟩
end Go.Proofs.Ythpndmamegfbkaa
