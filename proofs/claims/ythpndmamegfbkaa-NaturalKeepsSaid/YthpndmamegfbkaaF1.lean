/- The reference's Same, Valid; Few. -/
import Derived.Test.YthpndmamegfbkaaN13
namespace Go.Proofs.Ythpndmamegfbkaa
set_option linter.unusedSimpArgs false
set_option linter.unusedVariables false
open Go.RowKit
/-- A call that only reads and adds to the memory, and hands back v. -/
def RetV (W : World) (v : Value) (e : Ending) (w' : World) : Prop := e = .returned v ∧ Below W.heap.size W w'
theorem below2 (w : World) (o p : Obj) : Below w.heap.size w ((w.alloc o).alloc p) := ((Below.refl _ _).alloc (Nat.le_refl _) o).alloc (by simp) p
theorem start2 (w : World) (a b : Option Addr) (L ca M cb : Nat) :
    Below w.heap.size w ((w.alloc (.cells #[.slice a L ca] 24)).alloc (.cells #[.slice b M cb] 24)) ∧
    VarB ((w.alloc (.cells #[.slice a L ca] 24)).alloc (.cells #[.slice b M cb] 24)) w.heap.size a L ca ∧
    VarB ((w.alloc (.cells #[.slice a L ca] 24)).alloc (.cells #[.slice b M cb] 24)) (w.heap.size + 1) b M cb := by
  refine ⟨below2 w _ _, (VarB.made w a L ca).mono ((Below.refl _ _).alloc (Nat.le_refl _) _) (by simp), ?_⟩
  have h := VarB.made (w.alloc (.cells #[.slice a L ca] 24)) b M cb
  rw [World.size_alloc] at h
  exact h
theorem c_ref_Same (va vb : Value) (m n : Nat) (w : World) (ha : IsN w va m) (hb : IsN w vb n) (hm : nl m ≤ 1000000000000) (hn : nl n ≤ 1000000000000) :
    Calls Try.prog 16 #[va, vb] w fun e w' => RetV w (.bool (decide (m = n))) e w' := by
  obtain ⟨a, ca, rfl, hca, ra⟩ := ha
  obtain ⟨b, cb, rfl, hcb, rb⟩ := hb
  have hw := below2 w (.cells #[.slice a (nl m) ca] 24) (.cells #[.slice b (nl n) cb] 24)
  by_cases hL : nl m = nl n
  · have hext := fun h => D_ext (M := m) (N := n) hL h
    have HL := Lib.hid hL
    rw [← hL] at rb hcb
    have HX := Lib.hid hext
    clear hext
    have hne : (((nl m : Nat) : Int) != ((nl m : Nat) : Int)) = false := by simp
    rw [← hL]
    clear hL
    obtain ⟨hw0, k2, k3⟩ := start2 w a b (nl m) ca (nl m) cb
    go_enter Try.func16, Try.ntmps16
    go_upto_region 1 with (fail)
    go_cut [12] (fun s12 wx => s12 = .bool false ∧ Below w.heap.size w wx ∧ VarB wx w.heap.size a (nl m) ca ∧ VarB wx (w.heap.size + 1) b (nl m) cb)
    case first =>
      go_wp2_with fail
      go_meet
      case rel => exact ⟨rfl, hw0, k2, k3⟩
    case rest =>
    obtain ⟨rfl, hb0, v2, v3⟩ := hcut
    clear hw0 k2 k3 hw
    have ra0 := ra.mono hb0
    have rb0 := rb.mono hb0
    have c2 := v2.cell
    have c3 := v3.cell
    go_wp2
    go_loopw [5] (fun i wr => ∃ k : Nat, k ≤ nl m ∧ i = .int .i64 (k : Int) ∧ Hid (∀ j, j < k → D m j = D n j) ∧ ∃ q, wr = wc.drewN q) (fun i _ => nl m - (intOf i).toNat)
    case atStart => exact ⟨0, Nat.zero_le _, rfl, Lib.hid (fun j h => by omega), 0, rfl⟩
    case round =>
      obtain ⟨k, hk, rfl, HR, q, rfl⟩ := hrel
      by_cases hlt : k < nl m
      · obtain ⟨b1, o1, rfl, h1⟩ := ra0.cells (by omega)
        obtain ⟨b2, o2, rfl, h2⟩ := rb0.cells (by omega)
        have d1 := h1 k hlt
        have d2 := h2 k hlt
        by_cases hd : D m k = D n k
        · have hd' : (((D m k : Nat) : Int) != ((D n k : Nat) : Int)) = false := by rw [hd]; simp
          have HR' : Hid (∀ j, j < k + 1 → D m j = D n j) := Lib.hid (fun j hj => by
            rcases Nat.lt_or_ge j k with h | h
            · exact HR.out j h
            · rw [show j = k by omega]; exact hd)
          clear hd
          go_wp2
          go_quiet (fail)
          go_wp2
          go_roundw
          case rel => exact ⟨k + 1, by omega, by go_num, HR', _, rfl⟩
          case measure => simp [intOf]; omega
        · have hd' : (((D m k : Nat) : Int) != ((D n k : Nat) : Int)) = true := by rw [bne_iff_ne]; omega
          have hmn : m ≠ n := fun h => hd (by rw [h])
          clear hd
          go_wp2
          go_quiet (fail)
          go_wp2
          go_ret
          exact ⟨by simp [hmn], bel_drewN (bel_drewN hb0 _) _⟩
      · obtain rfl : k = nl m := by omega
        go_wp2
        go_ret
        exact ⟨by have h := HX.out (fun j hj => HR.out j (by rw [HL.out]; exact hj)); simp [h], bel_drewN hb0 _⟩
  · have hne : (((nl m : Nat) : Int) != ((nl n : Nat) : Int)) = true := by rw [bne_iff_ne]; omega
    have hmn : m ≠ n := fun h => hL (by rw [h])
    go_enter Try.func16, Try.ntmps16
    go_wp2
    go_ret
    exact ⟨by simp [hmn], hw⟩
theorem c_ref_Valid (va : Value) (L m : Nat) (w : World) (ha : IsR w va L m) (hL : L ≤ 9223372036854775807) :
    Calls Try.prog 36 #[va] w fun e w' => RetV w (.bool (decide (nl m = L))) e w' := by
  obtain ⟨a, ca, rfl, hca, ra⟩ := ha
  have hw : Below w.heap.size w (w.alloc (.cells #[.slice a L ca] 24)) := (Below.refl _ _).alloc (Nat.le_refl _) _
  have v1 := VarB.made w a L ca
  have ra0 := ra.mono hw
  have hle : nl m ≤ L := nl_le_iff.2 ra.lt
  go_enter Try.func36, Try.ntmps36
  by_cases h0 : L = 0
  · subst h0
    have : nl m = 0 := by omega
    go_wp2
    go_ret
    exact ⟨by simp [this], hw⟩
  · obtain ⟨b1, o1, rfl, h1⟩ := ra0.cells (by omega)
    have d1 := h1 (L - 1) (by omega)
    have e1 : ((L : Int) - 1) = ((L - 1 : Nat) : Int) := by omega
    have hb : ((L : Int) == 0) = false := by rw [beq_eq_false_iff_ne]; omega
    have hlt := D_lt m (L - 1)
    have c1 := v1.cell
    by_cases hz : D m (L - 1) = 0
    · have hnl : nl m ≠ L := fun h => by
        have hm0 : m ≠ 0 := fun h' => by rw [h', nl_zero] at h; omega
        exact D_top hm0 (by rw [h]; exact hz)
      have hz' : (((D m (L - 1) : Nat) : Int) != 0) = false := by rw [hz]; rfl
      clear hz
      go_wp2
      go_ret
      exact ⟨by simp [hnl], hw⟩
    · have hnl : nl m = L := by
        rcases Nat.lt_or_ge (L - 1) (nl m) with h | h
        · omega
        · exact absurd (D_ge_nl h) hz
      have hz' : (((D m (L - 1) : Nat) : Int) != 0) = true := by rw [bne_iff_ne]; omega
      clear hz
      have HN := Lib.hid hnl
      clear hnl
      go_wp2
      go_ret
      exact ⟨by simp [HN.out], hw⟩
theorem c_Few (va : Value) (L m : Nat) (w : World) (ha : IsR w va L m) (hL : L ≤ 9223372036854775807) :
    Calls Try.prog 12 #[va] w fun e w' => RetV w (.bool (decide (L ≤ 12 ∧ nl m = L))) e w' := by
  have ha' := ha
  obtain ⟨a, ca, rfl, hca, ra⟩ := ha
  have hw : Below w.heap.size w (w.alloc (.cells #[.slice a L ca] 24)) := (Below.refl _ _).alloc (Nat.le_refl _) _
  have v1 := VarB.made w a L ca
  have ra0 := ra.mono hw
  go_enter Try.func12, Try.ntmps12
  by_cases h0 : L ≤ 12
  · have h0' : (L : Int) ≤ 12 := by omega
    go_wp2_with fail
    refine (c_ref_Valid _ L m _ ⟨a, ca, rfl, hca, ra0⟩ hL).mono ?_
    rintro e w1 ⟨rfl, hb1⟩
    go_wp2
    go_ret
    exact ⟨by simp [h0], hw.trans (hb1.mono hw.size)⟩
  · have h0' : ¬ (L : Int) ≤ 12 := by omega
    go_wp2
    go_ret
    exact ⟨by simp [h0], hw⟩
end Go.Proofs.Ythpndmamegfbkaa
