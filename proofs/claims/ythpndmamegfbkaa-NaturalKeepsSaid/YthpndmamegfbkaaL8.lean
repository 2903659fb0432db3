/- NaturalParses: the walk. -/
import Derived.Test.YthpndmamegfbkaaEE
namespace Go.Proofs.Ythpndmamegfbkaa
set_option linter.unusedSimpArgs false
set_option linter.unusedVariables false
open Go.RowKit
theorem parse_nl {s : ByteArray} {N : Nat} {c : Int} (h : ParseIs s N c) : nl N ≤ 400 := by
  by_cases h0 : s.size = 0
  · rw [(h.short h0).1, nl_zero]; omega
  · by_cases h1 : 400 < s.size
    · rw [(h.long h1).1, nl_zero]; omega
    · by_cases hg : goodTo s s.size
      · by_cases hz : by' s 0 = 48 → s.size = 1
        · rw [(h.good (by omega) (by omega) hz hg).1]; exact Nat.le_trans (parseVal_nl hg) (by omega)
        · have h48 : by' s 0 = 48 := Classical.byContradiction fun h' => hz (fun h'' => absurd h'' h')
          have hsz : s.size ≠ 1 := fun h' => hz (fun _ => h')
          rw [(h.zero (by omega) (by omega) h48).1, nl_zero]; omega
      · rw [(h.bad (by omega) (by omega) hg).1, nl_zero]; omega
theorem c_natural_Same1 (va vb : Value) (m : Nat) (w : World) (ha : IsN w va m) (hb : IsN w vb m) (hm : nl m ≤ 1000000000000) :
    Calls Try.prog 16 #[va, vb] w fun e w' => RetV w (.bool true) e w' := by
  have := c_ref_Same va vb m m w ha hb hm hm
  rwa [decide_eq_true rfl] at this
set_option maxRecDepth 100000 in
set_option maxHeartbeats 1000000 in
theorem c_NaturalParses (s : ByteArray) (w : World) : Calls Try.prog 6 #[.string s] w fun e w' => RetV w (.bool true) e w' := by
  go_enter Try.func6, Try.ntmps6
  by_cases hf : (450 : Int) < (s.size : Int)
  · go_wp2_with fail
    refine (c_awake _).mono ?_
    rintro e w9 ⟨rfl, bb⟩
    go_wp2
    go_ret
    exact ⟨rfl, bb⟩
  · obtain ⟨N, c, hP⟩ := parse_total s
    have hN := parse_nl hP
    have hN' : nl N ≤ 1000000000000 := by omega
    have HP := Lib.hid hP
    clear hP
    go_upto_region 3 with (fail)
    go_cut [3, 4] (fun s3 s4 wx => ∃ gx, s3 = .pointer (some ⟨gx, 0, none⟩) ∧ s4 = .int .i64 c ∧ VarI wx gx N ∧ Below w.heap.size w wx)
    case first =>
      go_wp2_with fail
      refine (c_natural_Parse s _ N c HP.out).mono ?_
      rintro e w9 ⟨v9, rfl, ⟨x9, c9, rfl, hc9, hx9⟩, bb⟩
      have v1 := VarB.made w9 x9 (nl N) c9
      have n1 : IsN w9 (.agg #[.slice x9 (nl N) c9]) N := NewN.isN ⟨x9, c9, rfl, hc9, hx9⟩
      have b2 := bel1 w9 (.cells #[.slice x9 (nl N) c9] 24)
      have b3 := bb.trans (b2.mono bb.size)
      go_wp2_with fail
      go_meet
      case rel => exact ⟨_, rfl, rfl, VarI.of v1 (n1.mono b2), b3⟩
    case rest =>
    obtain ⟨gx, rfl, rfl, Vx, hb1⟩ := hcut
    go_upto_region 4 with (fail)
    go_cut [5, 6] (fun s5 s6 wx => ∃ gy, s5 = .pointer (some ⟨gy, 0, none⟩) ∧ s6 = .int .i64 c ∧ VarI wx gx N ∧ VarI wx gy N ∧ Below w.heap.size w wx)
    case first =>
      go_wp2_with fail
      refine (c_ref_Parse s _ N c HP.out).mono ?_
      rintro e w9 ⟨v9, rfl, ⟨x9, c9, rfl, hc9, hx9⟩, bb⟩
      have v1 := VarB.made w9 x9 (nl N) c9
      have n1 : IsN w9 (.agg #[.slice x9 (nl N) c9]) N := NewN.isN ⟨x9, c9, rfl, hc9, hx9⟩
      have b2 := bel1 w9 (.cells #[.slice x9 (nl N) c9] 24)
      have b3 := bb.trans (b2.mono bb.size)
      go_wp2_with fail
      go_meet
      case rel => exact ⟨_, rfl, rfl, Vx.mono b3, VarI.of v1 (n1.mono b2), hb1.trans (b3.mono hb1.size)⟩
    case rest =>
    clear Vx hb1
    obtain ⟨gy, rfl, rfl, Vx, Vy, hb1⟩ := hcut
    have Vx' := Vx
    obtain ⟨yx, dx, qx, ix⟩ := Vx'
    have ex := qx.cell
    obtain ⟨yy, dy, qy, iy⟩ := Vy
    have ey := qy.cell
    by_cases hc : c = 0
    · subst hc
      go_wp2_with fail
      refine (c_natural_Same1 _ _ N _ ix iy hN').mono ?_
      rintro e w5 ⟨rfl, bb⟩
      have q5 := qx.mono bb qx.lt
      have i5 := ix.mono bb
      have hb5 := hb1.trans (bb.mono hb1.size)
      clear ex ey qx ix qy iy bb
      have e5 := q5.cell
      go_wp2_with fail
      refine (c_natural_Format _ N _ i5 hN').mono ?_
      rintro e w6 ⟨rfl, bb⟩
      rw [parse_fmt HP.out]
      have hb6 := hb5.trans (bb.mono hb5.size)
      go_wp2_with fail
      refine (c_awake _).mono ?_
      rintro e w9 ⟨rfl, bb9⟩
      go_wp2
      go_ret
      exact ⟨rfl, hb6.trans (bb9.mono hb6.size)⟩
    · have hne : (c != 0) = true := by rw [bne_iff_ne]; exact hc
      have HC := Lib.hid hc
      clear hc
      go_wp2_with fail
      refine (c_natural_Same1 _ _ N _ ix iy hN').mono ?_
      rintro e w5 ⟨rfl, bb⟩
      have hb5 := hb1.trans (bb.mono hb1.size)
      clear ex ey qx ix qy iy bb
      go_wp2_with fail
      refine (c_awake _).mono ?_
      rintro e w9 ⟨rfl, bb9⟩
      go_wp2
      go_ret
      exact ⟨rfl, hb5.trans (bb9.mono hb5.size)⟩
end Go.Proofs.Ythpndmamegfbkaa
