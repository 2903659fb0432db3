/- The reference's Sub. -/
import Derived.Test.YthpndmamegfbkaaE3
namespace Go.Proofs.Ythpndmamegfbkaa
set_option linter.unusedSimpArgs false
set_option linter.unusedVariables false
open Go.RowKit
def subTab8 (ga gb m n d i S T X : Nat) : List (Nat × Tmp × Sp) :=
   [(0, 22, .nat (m)),
    (1, 23, .val (Value.int IntKind.i64 ((i : Nat)))),
    (2, 24, .val (Value.int IntKind.u64 (((D (m) (i) : Nat) : Int)))),
    (3, 25, .val (Value.int IntKind.u64 (((S : Nat) : Int)))),
    (4, 26, .nat (n)),
    (5, 27, .val (Value.int IntKind.i64 ((i : Nat)))),
    (6, 28, .val (Value.int IntKind.u64 (((D (n) (i) : Nat) : Int)))),
    (7, 29, .val (Value.int IntKind.u64 (((T : Nat) : Int)))),
    (8, 30, .val (Value.int IntKind.u64 (((cy n d i : Nat) : Int)))),
    (9, 31, .val (Value.int IntKind.u64 (((X : Nat) : Int)))),
    (10, 9, .val (Value.int IntKind.u64 (((X : Nat) : Int))))]
set_option maxRecDepth 100000 in
set_option maxHeartbeats 1000000 in
theorem c_ref_Sub (va vb : Value) (m n : Nat) (w : World) (ha : IsN w va m) (hb : IsN w vb n) (hm : nl m ≤ 1000000000000) (hn : nl n ≤ 1000000000000) :
    Calls Try.prog 30 #[va, vb] w fun e w' => RetSub w m n e w' := by
  obtain ⟨a, ca, rfl, hca, ra⟩ := ha
  obtain ⟨b, cb, rfl, hcb, rb⟩ := hb
  obtain ⟨k0, k1, k2⟩ := box2 (L := nl m) (c := ca) (N := m) (L2 := nl n) (c2 := cb) (N2 := n) ⟨a, ca, rfl, hca, ra⟩ ⟨b, cb, rfl, hcb, rb⟩
  have k3 := bel1 ((w.alloc (.cells #[.slice a (nl m) ca] 24)).alloc (.cells #[.slice b (nl n) cb] 24)) (.cells #[.slice none 0 0] 24)
  have k4 := VarB.made ((w.alloc (.cells #[.slice a (nl m) ca] 24)).alloc (.cells #[.slice b (nl n) cb] 24)) none 0 0
  rw [World.size_alloc, World.size_alloc] at k4
  replace k0 := k0.trans (k3.mono k0.size)
  replace k1 := VarR.mono k1 k3
  replace k2 := VarR.mono k2 k3
  go_enter Try.func30, Try.ntmps30
  go_upto_region 0 with (fail)
  go_cut [2, 3, 4, 5] (fun s2 s3 s4 s5 wx => s2 = .pointer (some ⟨w.heap.size, 0, none⟩) ∧ s3 = .pointer (some ⟨w.heap.size + 1, 0, none⟩) ∧ s4 = .pointer (some ⟨w.heap.size + 1 + 1, 0, none⟩) ∧ s5 = .bool false ∧ VarI wx w.heap.size m ∧ VarI wx (w.heap.size + 1) n ∧ VarB wx (w.heap.size + 1 + 1) none 0 0 ∧ Below w.heap.size w wx)
  case first =>
    go_wp2_with fail
    go_meet
    case rel => exact ⟨rfl, rfl, rfl, rfl, k1, k2, k4, k0⟩
  case rest =>
    obtain ⟨rfl, rfl, rfl, rfl, Va, Vb, vr, hb1⟩ := hcut
    clear k0 k1 k2 k3 k4 ra rb
    have Va1 := Va
    have Vb1 := Vb
    obtain ⟨ya, da, qa, ia⟩ := Va1
    have ea := qa.cell
    obtain ⟨yb, db, qb, ib⟩ := Vb1
    have eb := qb.cell
    go_wp2_with fail
    refine (c_ref_Cmp _ _ m n _ ia ib hm hn).mono ?_
    rintro e w1 ⟨rfl, bb⟩
    replace Va := Va.mono bb
    replace Vb := Vb.mono bb
    replace vr := vr.mono bb vr.lt
    replace hb1 := hb1.trans (bb.mono hb1.size)
    clear ea qa ia eb qb ib bb
    have cr := vr.cell
    have fr := vr.frozen
    by_cases hmn : m < n
    · rw [cmpI_lt hmn]
      have hle : ¬ n ≤ m := by omega
      have h0 : m - n = 0 := by omega
      go_wp2
      exact bodyPost_ret (res_nat2 rfl _ _ (w.heap.size + 1 + 1) (.slice none 0 0) (.bool false) rfl rfl vr.set.cell) rfl ⟨_, by rw [decide_eq_false hle], by rw [h0]; exact NewN.of_zero, hb1.setCell (p := ⟨w.heap.size + 1 + 1, 0, none⟩) (by simp; omega) _⟩
    · obtain ⟨d, hd0⟩ : ∃ d, m = n + d := ⟨m - n, by omega⟩
      have hcm : ¬ cmpI m n < 0 := by rcases Nat.lt_or_ge n m with h | h; · rw [cmpI_gt h]; decide
                                      · rw [cmpI_eq (by omega)]; decide
      have hret : decide (n ≤ m) = true := decide_eq_true (by omega)
      have hmd : m - n = d := by omega
      have HD := Lib.hid hd0
      clear hd0 hmn
      have HR := Lib.hid hret
      have HM := Lib.hid hmd
      clear hret hmd
      go_wp2_with fail
      have hb1' := hb1
      generalize hwc : w1 = wc at *
      go_loopw [6, 7, 8] (fun s6 s7 s8 wr => ∃ i : Nat, i ≤ nl m ∧ s8 = .int .i64 (i : Int) ∧ s7 = .int .u64 ((cy n d i : Nat) : Int) ∧ GR wr wc.heap.size s6 i (d % 4294967296 ^ i) ∧ Below wc.heap.size wc wr) (fun _ _ s8 _ => nl m - (intOf s8).toNat)
      case atStart => exact ⟨0, Nat.zero_le _, rfl, by rw [cy_zero]; rfl, by rw [Nat.pow_zero, Nat.mod_one]; exact GR.nil _ _, Below.refl _ _⟩
      case round =>
        obtain ⟨i, hi, rfl, rfl, hgr, hbr⟩ := hrel
        clear cr fr
        have Va1 := Va.mono hbr
        have Vb1 := Vb.mono hbr
        obtain ⟨ya, da, qa, ia⟩ := Va1
        have ea := qa.cell
        obtain ⟨yb, db, qb, ib⟩ := Vb1
        have eb := qb.cell
        have hi60 : i ≤ 60000000000000 := by omega
        have hcy := cy_le n d i
        by_cases hlt : i < nl m
        · have hst := cy_step n d i
          rw [← HD.out] at hst
          have hd := D_lt d i
          have hdn := D_lt n i
          have hdm := D_lt m i
          have hcy2 := cy_le n d (i + 1)
          obtain ⟨S, hS⟩ : ∃ S : Nat, Hid (S = 4294967296 + D m i) := ⟨_, Lib.hid rfl⟩
          obtain ⟨T, hT⟩ : ∃ T : Nat, Hid (S = D n i + T) := ⟨S - D n i, Lib.hid (by have := hS.out; omega)⟩
          obtain ⟨X, hX⟩ : ∃ X : Nat, Hid (T = cy n d i + X) := ⟨T - cy n d i, Lib.hid (by have := hS.out; have := hT.out; omega)⟩
          obtain ⟨Y, hY⟩ : ∃ Y : Nat, Hid (Y + cy n d (i + 1) = 1) := ⟨1 - cy n d (i + 1), Lib.hid (by omega)⟩
          have hSb : S < 8589934592 := by have := hS.out; omega
          have hTb : T < 8589934592 := by have := hT.out; omega
          have hXb : X < 8589934592 := by have := hX.out; omega
          have hYb : Y ≤ 1 := by have := hY.out; omega
          have hrem : ((X : Nat) : Int) % 4294967296 = ((D d i : Nat) : Int) := by have := hX.out; have := hS.out; have := hT.out; omega
          have hquo : ((X : Nat) : Int) / 4294967296 = ((Y : Nat) : Int) := by have := hX.out; have := hS.out; have := hT.out; have := hY.out; omega
          have hbor : (1 : Int) - ((Y : Nat) : Int) = ((cy n d (i + 1) : Nat) : Int) := by have := hY.out; omega
          clear hst hdn hdm
          have Va : VarI wr w.heap.size m := ⟨ya, da, qa, ia⟩
          have Vb : VarI wr (w.heap.size + 1) n := ⟨yb, db, qb, ib⟩
          go_upto_region 8 with (fail)
          refine wp_tabL Try.f30 8 (subTab8 w.heap.size (w.heap.size + 1) m n d i S T X) (by kernel_rfl) (by kernel_rfl) rfl (by kernel_rfl) (by kernel_rfl) ?_ ?_
          · refine ⟨fun a' w' F => ⟨_, rfl, wanted_none rfl, arm_load rfl (F.keep 2 (Value.pointer (some ⟨w.heap.size, 0, none⟩)) (by kernel_rfl) rfl).is (Va.mono F.below)⟩, ?_⟩
            refine ⟨fun a' w' F => ⟨_, rfl, wanted_none rfl, arm_move (.inl rfl) (F.keep 8 (Value.int IntKind.i64 ((i : Nat))) (by kernel_rfl) rfl).is⟩, ?_⟩
            refine ⟨fun a' w' F => ⟨_, rfl, wanted_none rfl, arm_digit rfl (F.at' 0 22 _ rfl (by kernel_rfl)).is (F.at' 1 23 _ rfl (by kernel_rfl)).is (hm) (hi60)⟩, ?_⟩
            refine ⟨fun a' w' F => ⟨_, rfl, wanted_none rfl, arm_bin rfl Is.const (F.at' 2 24 _ rfl (by kernel_rfl)).is (fun _ => rfl) (run_addU 4294967296 _ _ hS.out.symm (by have := hSb; omega))⟩, ?_⟩
            refine ⟨fun a' w' F => ⟨_, rfl, wanted_none rfl, arm_load rfl (F.keep 3 (Value.pointer (some ⟨w.heap.size + 1, 0, none⟩)) (by kernel_rfl) rfl).is (Vb.mono F.below)⟩, ?_⟩
            refine ⟨fun a' w' F => ⟨_, rfl, wanted_none rfl, arm_move (.inl rfl) (F.keep 8 (Value.int IntKind.i64 ((i : Nat))) (by kernel_rfl) rfl).is⟩, ?_⟩
            refine ⟨fun a' w' F => ⟨_, rfl, wanted_none rfl, arm_digit rfl (F.at' 4 26 _ rfl (by kernel_rfl)).is (F.at' 5 27 _ rfl (by kernel_rfl)).is (hn) (hi60)⟩, ?_⟩
            refine ⟨fun a' w' F => ⟨_, rfl, wanted_none rfl, arm_bin rfl (F.at' 3 25 _ rfl (by kernel_rfl)).is (F.at' 6 28 _ rfl (by kernel_rfl)).is (fun _ => rfl) (run_subU _ _ _ hT.out (by have := hSb; omega))⟩, ?_⟩
            refine ⟨fun a' w' F => ⟨_, rfl, wanted_none rfl, arm_move (.inl rfl) (F.keep 7 (Value.int IntKind.u64 (((cy n d i : Nat) : Int))) (by kernel_rfl) rfl).is⟩, ?_⟩
            refine ⟨fun a' w' F => ⟨_, rfl, wanted_none rfl, arm_bin rfl (F.at' 7 29 _ rfl (by kernel_rfl)).is (F.at' 8 30 _ rfl (by kernel_rfl)).is (fun _ => rfl) (run_subU _ _ _ hX.out (by have := hTb; omega))⟩, ?_⟩
            refine ⟨fun a' w' F => ⟨_, rfl, wanted_none rfl, arm_move (.inr rfl) (F.at' 9 31 _ rfl (by kernel_rfl)).is⟩, ?_⟩
            exact trivial
          intro gp wp bp G
          have ep10 : gp 10 = Value.int IntKind.u64 (((X : Nat) : Int)) := G 10 9 _ rfl
          simp only [subTab8]
          simp only [putD, entries, List.map_cons, List.map_nil, List.foldl_cons, List.foldl_nil, Act.put, List.setIfInBounds_toArray, List.set_cons_zero, List.set_cons_succ, ep10]
          clear G
          have hgr1 := hgr.below bp
          have hb2 := hbr.trans (bp.mono hbr.size)
          have hsr1 := hb2.size
          obtain ⟨a', c', rfl, hLc, hrw, hown⟩ := hgr1.open
          clear hgr ea qa ia eb qb ib Va Vb
          go_wp2_with (at_builtin; refine wpList_append_digit rfl _ _ rfl wc.heap.size (.slice a' i c') i (d % 4294967296 ^ i) (D d i) rfl hgr1 hsr1 rfl hd (by omega) ?_)
          intro v' w' hg' hb' hs'
          rw [mod_push] at hg'
          go_wp2_with fail
          go_roundw
          case rel => exact ⟨i + 1, by omega, by go_num, rfl, hg', hb2.trans hb'⟩
          case measure => simp [intOf] <;> omega
        · obtain rfl : i = nl m := by omega
          have hsum : d < 4294967296 ^ nl m := Nat.lt_of_le_of_lt (by have := HD.out; omega) (lt_nl m)
          rw [Nat.mod_eq_of_lt hsum] at hgr
          obtain ⟨a', c', rfl, hLc, hrw, hown⟩ := hgr.open
          go_wp2_with fail
          refine (c_Trim a' (nl m) c' d _ hrw (by omega)).mono ?_
          rintro e w2 ⟨v2, rfl, ⟨x2, c2, rfl, hc2, hx2⟩, bb⟩
          have n2 : NewN wc.heap.size w2 (.agg #[.slice x2 (nl d) c2]) d := NewN.weaken (base := wr.heap.size) ⟨x2, c2, rfl, hc2, hx2⟩ hbr.size
          have vr2 := (vr.mono hbr vr.lt).mono bb (Nat.lt_of_lt_of_le vr.lt hbr.size)
          have cr := vr2.cell
          have fr := vr2.frozen
          have n3 := n2.setVar (u := .slice x2 (nl d) c2) vr2
          go_wp2
          exact bodyPost_ret (res_nat2 rfl _ _ (w.heap.size + 1 + 1) _ (.bool true) rfl rfl vr2.set.cell) rfl ⟨_, by rw [HR.out], by rw [HM.out]; exact n3.weaken hb1.size, ((hb1.trans (hbr.mono hb1.size)).trans (bb.mono (Nat.le_trans hb1.size hbr.size))).setCell (p := ⟨w.heap.size + 1 + 1, 0, none⟩) (by simp; omega) _⟩
end Go.Proofs.Ythpndmamegfbkaa
