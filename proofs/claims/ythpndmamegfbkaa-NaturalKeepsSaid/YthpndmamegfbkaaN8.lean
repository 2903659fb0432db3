/- The contracts of shifted and guess. -/
import Derived.Test.YthpndmamegfbkaaN7
namespace Go.Proofs.Ythpndmamegfbkaa
set_option linter.unusedSimpArgs false
set_option linter.unusedVariables false
open Go.RowKit
/-- The row of N times 2^s, when k digits are done. -/
def shAt (N s k : Nat) : Nat := N % 4294967296 ^ k * 2 ^ s
theorem shAt_lt (N s k : Nat) (hs : s < 32) : shAt N s k < 4294967296 ^ (k + 1) := by
  unfold shAt
  rw [Nat.pow_succ]
  exact Nat.mul_lt_mul'' (Nat.mod_lt _ (powB k)) (Nat.lt_of_lt_of_le (Nat.pow_lt_pow_right (by decide) hs) (by decide))
theorem shAt_succ (N s k : Nat) : shAt N s (k + 1) = shAt N s k + 4294967296 ^ k * (D N k * 2 ^ s) := by
  unfold shAt
  rw [mod_succ]; grind
/-- The top digit so far is less than 2^s. -/
theorem shAt_top (N s k : Nat) : D (shAt N s k) k < 2 ^ s := by
  have h : shAt N s k / 4294967296 ^ k < 2 ^ s := by
    rw [Nat.div_lt_iff_lt_mul (powB k), Nat.mul_comm]
    unfold shAt
    exact Nat.mul_lt_mul_of_pos_right (Nat.mod_lt _ (powB k)) (Nat.pow_pos (by decide))
  exact Nat.lt_of_le_of_lt (Nat.mod_le _ _) h
/-- The two digits that a step puts. -/
theorem shAt_step (N s k : Nat) (hs : s < 32) :
    upd (upd (shAt N s k) k (D (shAt N s k) k + (D N k * 2 ^ s) % 4294967296)) (k + 1) (D N k * 2 ^ s / 4294967296) = shAt N s (k + 1) ∧
    D (shAt N s k) k + (D N k * 2 ^ s) % 4294967296 < 4294967296 ∧ D N k * 2 ^ s / 4294967296 < 4294967296 := by
  have hp : 2 ^ s ∣ 4294967296 := by
    have : (4294967296 : Nat) = 2 ^ s * 2 ^ (32 - s) := by rw [← Nat.pow_add, show s + (32 - s) = 32 by omega]
    rw [this]; exact Nat.dvd_mul_right _ _
  have h1 : D (shAt N s k) k + (D N k * 2 ^ s) % 4294967296 < 4294967296 := by
    have ht := shAt_top N s k
    have hd : 2 ^ s ∣ (D N k * 2 ^ s) % 4294967296 := (Nat.dvd_mod_iff hp).2 (Nat.dvd_mul_left _ _)
    have hlt : (D N k * 2 ^ s) % 4294967296 < 4294967296 := Nat.mod_lt _ (by decide)
    obtain ⟨c, hc⟩ := hd
    obtain ⟨e, he⟩ := hp
    rw [hc] at hlt ⊢
    rw [he] at hlt ⊢
    have hce : c < e := Nat.lt_of_mul_lt_mul_left hlt
    have : 2 ^ s * (c + 1) ≤ 2 ^ s * e := Nat.mul_le_mul_left _ hce
    rw [Nat.mul_add] at this
    omega
  have h2 : D N k * 2 ^ s / 4294967296 < 4294967296 := by
    rw [Nat.div_lt_iff_lt_mul (by decide)]
    exact Nat.mul_lt_mul'' (D_lt N k) (Nat.lt_of_lt_of_le (Nat.pow_lt_pow_right (by decide) hs) (by decide))
  refine ⟨?_, h1, h2⟩
  have e1 := upd_add (shAt N s k) k (D (shAt N s k) k + (D N k * 2 ^ s) % 4294967296)
  have e2 := upd_add (upd (shAt N s k) k (D (shAt N s k) k + (D N k * 2 ^ s) % 4294967296)) (k + 1) (D N k * 2 ^ s / 4294967296)
  have e3 : D (upd (shAt N s k) k (D (shAt N s k) k + (D N k * 2 ^ s) % 4294967296)) (k + 1) = 0 := by
    rw [D_upd_other _ _ _ _ h1 (by omega)]
    exact D_of_lt (shAt_lt N s k hs)
  rw [e3, Nat.mul_zero, Nat.add_zero] at e2
  rw [e2, shAt_succ]
  have e4 := Nat.div_add_mod (D N k * 2 ^ s) 4294967296
  rw [Nat.pow_succ]
  generalize upd (shAt N s k) k (D (shAt N s k) k + (D N k * 2 ^ s) % 4294967296) = u at *
  generalize D N k * 2 ^ s = t at *
  generalize t / 4294967296 = q at *
  generalize t % 4294967296 = r at *
  generalize shAt N s k = z at *
  generalize 4294967296 ^ k = P at *
  grind
theorem sh_or (N s k : Nat) (hs : s < 32) (h2 : D (shAt N s k) k + (D N k * 2 ^ s) % 4294967296 < 4294967296) :
    bits BinOp.or IntKind.u32 ((D (shAt N s k) k : Nat) : Int) (((D N k * 2 ^ s) % 4294967296 : Nat) : Int) = ((D (shAt N s k) k + (D N k * 2 ^ s) % 4294967296 : Nat) : Int) := by
  have hp : 2 ^ s ∣ 4294967296 := by
    have : (4294967296 : Nat) = 2 ^ s * 2 ^ (32 - s) := by rw [← Nat.pow_add, show s + (32 - s) = 32 by omega]
    rw [this]; exact Nat.dvd_mul_right _ _
  have hd : 2 ^ s ∣ (D N k * 2 ^ s) % 4294967296 := (Nat.dvd_mod_iff hp).2 (Nat.dvd_mul_left _ _)
  rw [u32_or_nat _ _ (D_lt _ _) (Nat.mod_lt _ (by decide)), Nat.or_comm, nat_join s _ _ (Nat.mod_eq_zero_of_dvd hd) (shAt_top N s k), Nat.add_comm]
def RetRow (W : World) (L N : Nat) (e : Ending) (w' : World) : Prop :=
  ∃ g, e = .returned (.slice (some ⟨g, 0, none⟩) L L) ∧ W.heap.size ≤ g ∧ OwnR w' g L N ∧ Below W.heap.size W w'
theorem c_shifted (a : Option Addr) (L cap N s : Nat) (w : World) (ra : Rw w a L N) (hL : L ≤ 1000000000000) (hs : s < 32) :
    Calls Try.prog 42 #[.slice a L cap, .int .i64 (s : Int)] w fun e w' => RetRow w (L + 1) (N * 2 ^ s) e w' := by
  go_enter Try.func42, Try.ntmps42
  go_upto_region 1 with (fail)
  go_cut [5] (fun s5 wx => ∃ g, s5 = .slice (some ⟨g, 0, none⟩) (L + 1) (L + 1) ∧ OwnR wx g (L + 1) 0 ∧ Below w.heap.size w wx ∧ w.heap.size ≤ g ∧ g < wx.heap.size)
  case first =>
    have hown := OwnR.made w (L + 1)
    go_wp2_with (at_make; refine wpList_make_dig rfl _ _ rfl _ _ _ _ (L + 1) rfl rfl (by omega) (by omega) (by omega) ?_)
    go_meet
    case rel => exact ⟨_, rfl, hown, (Below.refl _ _).alloc (Nat.le_refl _) _, Nat.le_refl _, by simp⟩
  case rest =>
    obtain ⟨g, rfl, hown, hbel, hwg, hgs⟩ := hcut
    go_wp2_with fail
    go_loopw [15] (fun s15 wr => ∃ k : Nat, k ≤ L ∧ s15 = .int .i64 k ∧ OwnR wr g (L + 1) (shAt N s k) ∧ Below g wc wr)
      (fun i _ => L - (intOf i).toNat)
    case atStart => exact ⟨0, Nat.zero_le _, rfl, by unfold shAt; simpa [Nat.mod_one] using hown, Below.refl _ _⟩
    case round =>
      obtain ⟨k, hk, rfl, ho, hbr⟩ := hrel
      by_cases hlt : k < L
      · have rar := ra.mono (hbel.trans (hbr.mono hwg))
        obtain ⟨b1, o1, rfl, h1⟩ := rar.cells (by omega)
        have c1 := h1 k hlt
        have c3 := ho.cell (p := k) (by omega)
        have c4 := ho.cell (p := k + 1) (by omega)
        have f3 := ho.frozen k
        have f4 := ho.frozen (k + 1)
        have hdx := D_lt N k
        obtain ⟨HS, hb1, hb2⟩ := shAt_step N s k hs
        have hor := sh_or N s k hs hb1
        have ht : D N k * 2 ^ s < 4294967296 * 4294967296 := Nat.mul_lt_mul'' hdx (Nat.lt_of_lt_of_le (Nat.pow_lt_pow_right (by decide) hs) (by decide))
        have hst := ((ho.store (p := k) (by omega) hb1).store (p := k + 1) (by omega) hb2)
        rw [HS] at hst
        clear HS
        have hst' := Lib.hid hst
        have hor' := Lib.hid hor
        have hbs := (hbr.setCell (p := ⟨g, k, none⟩) (Nat.le_refl _) (.int .u32 ((D (shAt N s k) k + (D N k * 2 ^ s) % 4294967296 : Nat) : Int))).setCell (p := ⟨g, k + 1, none⟩) (Nat.le_refl _) (.int .u32 ((D N k * 2 ^ s / 4294967296 : Nat) : Int))
        clear hst hor
        go_wp2
        have e1 : IntKind.u64.wrap (((D N k : Nat) : Int) * 2 ^ s) = ((D N k * 2 ^ s : Nat) : Int) := by
          have : (((D N k : Nat) : Int) * 2 ^ s) = ((D N k * 2 ^ s : Nat) : Int) := by simp
          rw [this]
          rw [IntKind.wrap_u64]
          omega
        have e2 : ((D N k * 2 ^ s : Nat) : Int) % 4294967296 = (((D N k * 2 ^ s) % 4294967296 : Nat) : Int) := by omega
        have e3 : ((D N k * 2 ^ s : Nat) : Int) / 4294967296 % 4294967296 = ((D N k * 2 ^ s / 4294967296 : Nat) : Int) := by omega
        rw [e1, e3, e2, hor'.out]
        go_roundw
        case rel => exact ⟨k + 1, by omega, by go_num, hst'.out, hbs⟩
        case measure => simp [intOf]; omega
      · obtain rfl : k = L := by omega
        have e1 : shAt N s k = N * 2 ^ s := by unfold shAt; rw [Nat.mod_eq_of_lt ra.lt]
        rw [e1] at ho
        clear e1
        go_wp2
        go_ret
        exact ⟨g, rfl, hwg, ho, hbel.trans (hbr.mono hwg)⟩
/-- The quotient's digit of three leading digits by two. -/
def topQ (B T V2 : Nat) : Nat := min (B - 1) (T / V2)
theorem guess_dec {B top next last first second q r : Nat} (hB : 0 < B) (hv : 0 < first) (he : q * first + r = top * B + next) (hq : topQ B ((top * B + next) * B + last) (first * B + second) ≤ q)
    (hc : B ≤ q ∨ r * B + last < q * second) : topQ B ((top * B + next) * B + last) (first * B + second) + 1 ≤ q := by
  have hV : 0 < first * B + second := by have := Nat.mul_pos hv hB; omega
  rcases hc with hc | hc
  · unfold topQ at *; omega
  · have h : ((top * B + next) * B + last) / (first * B + second) < q := by
      rw [Nat.div_lt_iff_lt_mul hV, ← he]
      generalize top * B + next = t at *
      clear hq
      have : (q * first + r) * B + last = q * (first * B) + (r * B + last) := by grind
      rw [this, Nat.mul_add]; omega
    unfold topQ; omega
theorem guess_end {B top next last first second q r : Nat} (hB : 0 < B) (hv : 0 < first) (he : q * first + r = top * B + next) (hq : topQ B ((top * B + next) * B + last) (first * B + second) ≤ q)
    (h1 : q < B) (h2 : q * second ≤ r * B + last) : topQ B ((top * B + next) * B + last) (first * B + second) = q := by
  have hV : 0 < first * B + second := by have := Nat.mul_pos hv hB; omega
  have h : q ≤ ((top * B + next) * B + last) / (first * B + second) := by
    rw [Nat.le_div_iff_mul_le hV, ← he]
    have : (q * first + r) * B + last = q * (first * B) + (r * B + last) := by grind
    rw [this, Nat.mul_add]; omega
  unfold topQ at *; omega
theorem guess_break {B top next last first second q r : Nat} (hB : 0 < B) (hv : 0 < first) (he : q * first + r = top * B + next) (hq : topQ B ((top * B + next) * B + last) (first * B + second) ≤ q)
    (h1 : top ≤ first) (h2 : next < B) (h3 : second < B) (hr : B ≤ r) : topQ B ((top * B + next) * B + last) (first * B + second) = q := by
  have h5 : top * B ≤ first * B := Nat.mul_le_mul_right _ h1
  have hqB : q < B := by
    rcases Nat.lt_or_ge q B with h | h
    · exact h
    · have h6 := Nat.mul_le_mul_right first h
      rw [Nat.mul_comm B first] at h6
      omega
  refine guess_end hB hv he hq hqB ?_
  have h4 : q * second ≤ B * B := Nat.mul_le_mul (by omega) (by omega)
  have h6 : B * B ≤ r * B := Nat.mul_le_mul_right _ hr
  omega
theorem guess_start {B top next last first second : Nat} (hB : 0 < B) (hv : 0 < first) (h3 : last < B) : topQ B ((top * B + next) * B + last) (first * B + second) ≤ (top * B + next) / first := by
  have hV : 0 < first * B + second := by have := Nat.mul_pos hv hB; omega
  have h5 : ((top * B + next) * B + last) / (first * B + second) < (top * B + next) / first + 1 := by
    rw [Nat.div_lt_iff_lt_mul hV]
    have h1 := Nat.div_add_mod (top * B + next) first
    have h2 := Nat.mod_lt (top * B + next) hv
    generalize (top * B + next) / first = q at *
    generalize (top * B + next) % first = r at *
    generalize top * B + next = t at *
    have e : (q + 1) * (first * B + second) = t * B + (first - r) * B + (q + 1) * second := by
      obtain ⟨z, rfl⟩ : ∃ z, first = r + z := ⟨first - r, by omega⟩
      rw [← h1, Nat.add_sub_cancel_left]
      grind
    rw [e]
    have h6 : 1 * B ≤ (first - r) * B := Nat.mul_le_mul_right _ (by omega)
    omega
  unfold topQ; omega
theorem lt_cast {r l q s : Nat} (h : (r : Int) * 4294967296 + (l : Int) < (q : Int) * (s : Int)) : r * 4294967296 + l < q * s := by
  have e : ((r * 4294967296 + l : Nat) : Int) < ((q * s : Nat) : Int) := by simpa using h
  exact Int.ofNat_lt.1 e
theorem nlt_cast {r l q s : Nat} (h : ¬ (r : Int) * 4294967296 + (l : Int) < (q : Int) * (s : Int)) : q * s ≤ r * 4294967296 + l :=
  Nat.le_of_not_lt fun h' => h (by
    have e : ((r * 4294967296 + l : Nat) : Int) < ((q * s : Nat) : Int) := Int.ofNat_lt.2 h'
    simpa using e)
set_option maxRecDepth 20000 in
theorem c_guess (top next last first second : Nat) (w : World) (h1 : top ≤ first) (h2 : next < 4294967296) (h3 : last < 4294967296) (h4 : first < 4294967296) (h5 : second < 4294967296) (h6 : 0 < first) :
    Calls Try.prog 44 #[.int .u32 (top : Int), .int .u32 (next : Int), .int .u32 (last : Int), .int .u32 (first : Int), .int .u32 (second : Int)] w fun e w' =>
      e = .returned (.int .u64 ((topQ 4294967296 ((top * 4294967296 + next) * 4294967296 + last) (first * 4294967296 + second) : Nat) : Int)) ∧ ∃ q, w' = w.drewN q := by
  have hor := or32 top next (by omega) (by omega) (by omega) (by omega)
  have hv : ((first : Int) != 0) = true := by rw [bne_iff_ne]; omega
  have hdm := Nat.div_add_mod (top * 4294967296 + next) first
  have hr := Nat.mod_lt (top * 4294967296 + next) h6
  have hs := guess_start (B := 4294967296) (next := next) (second := second) (top := top) (by decide) h6 h3
  have htlt : top * 4294967296 + next < 18446744073709551616 := by omega
  have hqlt : (top * 4294967296 + next) / first < 18446744073709551616 := Nat.lt_of_le_of_lt (Nat.div_le_self _ _) htlt
  have HD := Lib.hid hdm
  clear hdm
  have ei1 : ((top : Int) * 4294967296 + next) / (first : Int) = (((top * 4294967296 + next) / first : Nat) : Int) := by simp
  have ei2 : ((top : Int) * 4294967296 + next) % (first : Int) = (((top * 4294967296 + next) % first : Nat) : Int) := by simp
  have b1 : 0 ≤ ((top : Int) * 4294967296 + next) / (first : Int) := by rw [ei1]; omega
  have b2 : ((top : Int) * 4294967296 + next) / (first : Int) < 18446744073709551616 := by rw [ei1]; omega
  have b3 : 0 ≤ ((top : Int) * 4294967296 + next) % (first : Int) := by rw [ei2]; omega
  have b4 : ((top : Int) * 4294967296 + next) % (first : Int) < 18446744073709551616 := by rw [ei2]; omega
  have E1 := Lib.hid ei1
  have E2 := Lib.hid ei2
  clear ei1 ei2
  go_enter Try.func44, Try.ntmps44
  go_wp2_with fail
  go_quiet (fail)
  go_wp2_with fail
  rw [E1.out, E2.out]
  clear b1 b2 b3 b4 hor
  generalize (top * 4294967296 + next) / first = q0 at *
  generalize (top * 4294967296 + next) % first = r0 at *
  have HTQ := fun (q r : Nat) (he : q * first + r = top * 4294967296 + next) => guess_dec (B := 4294967296) (last := last) (second := second) (q := q) (r := r) (by decide) h6 he
  have HTE := fun (q r : Nat) (he : q * first + r = top * 4294967296 + next) => guess_end (B := 4294967296) (last := last) (second := second) (q := q) (r := r) (by decide) h6 he
  have HTB := fun (q r : Nat) (he : q * first + r = top * 4294967296 + next) (hq) => guess_break (B := 4294967296) (last := last) (second := second) (q := q) (r := r) (by decide) h6 he hq h1 h2 h5
  generalize htq : topQ 4294967296 ((top * 4294967296 + next) * 4294967296 + last) (first * 4294967296 + second) = tq at *
  have HTQ0 := Lib.hid htq
  clear htq
  have HTQ' := Lib.hid HTQ
  have HTE' := Lib.hid HTE
  have HTB' := Lib.hid HTB
  clear HTQ HTE HTB
  go_loopw [12, 13] (fun s12 s13 wr => ∃ q r : Nat, s12 = .int .u64 (q : Int) ∧ s13 = .int .u64 (r : Int) ∧ (q : Int) < 18446744073709551616 ∧ (r : Int) < 4294967296 ∧ Hid (q * first + r = top * 4294967296 + next) ∧ tq ≤ q ∧ wr = w.drewN nq) (fun i _ _ => (intOf i).toNat)
  case atStart => exact ⟨q0, r0, rfl, rfl, by omega, by omega, Lib.hid (by rw [Nat.mul_comm]; exact HD.out), hs, rfl⟩
  case round =>
    obtain ⟨q, r, rfl, rfl, hq, hrB, he, hle, rfl⟩ := hrel
    clear hs hr hqlt HD E1 E2
    have hor2 := or32 r last (by omega) (by omega) (by omega) (by omega)
    by_cases hc1 : 4294967296 ≤ (q : Int)
    · have hdec := HTQ'.out q r he.out hle (.inl (by omega))
      by_cases hb : 4294967296 ≤ (r : Int) + (first : Int)
      · skip
        have he' : (q - 1) * first + (r + first) = top * 4294967296 + next := by
          rw [← he.out]
          obtain ⟨z, rfl⟩ : ∃ z, q = z + 1 := ⟨q - 1, by omega⟩
          rw [Nat.add_sub_cancel, Nat.add_mul]; omega
        have HE' := Lib.hid he'
        clear he'
        have HF := Lib.hid (HTB'.out (q - 1) (r + first) HE'.out (by omega) (by omega))
        go_upto_if 49 with (fail)
        go_wp2
        go_ret
        refine ⟨?_, nq, rfl⟩
        rw [HTQ0.out, HF.out]
        refine congrArg Ending.returned (congrArg (Value.int IntKind.u64) ?_)
        omega
      · skip
        have he' : (q - 1) * first + (r + first) = top * 4294967296 + next := by
          rw [← he.out]
          obtain ⟨z, rfl⟩ : ∃ z, q = z + 1 := ⟨q - 1, by omega⟩
          rw [Nat.add_sub_cancel, Nat.add_mul]; omega
        have HE' := Lib.hid he'
        clear he'
        have hb' : (r : Int) + (first : Int) < 4294967296 := by omega
        go_upto_if 49 with (fail)
        go_wp2
        go_roundw
        case rel => exact ⟨q - 1, r + first, by rw [show ((q : Int) - 1) = ((q - 1 : Nat) : Int) from by omega], by go_num, by omega, by omega, HE', by omega, by first | rfl | trivial⟩
        case measure => simp [intOf]; omega
    · obtain ⟨hx0, hx1⟩ := mul_bd q second (by omega) h5
      have hc1' : (q : Int) < 4294967296 := by omega
      by_cases hc2 : (r : Int) * 4294967296 + (last : Int) < (q : Int) * (second : Int)
      · have hx2 := lt_cast hc2
        have hdec := HTQ'.out q r he.out hle (Or.inr hx2)
        clear hx2
        by_cases hb : 4294967296 ≤ (r : Int) + (first : Int)
        · skip
          have he' : (q - 1) * first + (r + first) = top * 4294967296 + next := by
            rw [← he.out]
            obtain ⟨z, rfl⟩ : ∃ z, q = z + 1 := ⟨q - 1, by omega⟩
            rw [Nat.add_sub_cancel, Nat.add_mul]; omega
          have HE' := Lib.hid he'
          clear he'
          have HF := Lib.hid (HTB'.out (q - 1) (r + first) HE'.out (by omega) (by omega))
          go_upto_if 49 with (fail)
          go_wp2
          go_ret
          refine ⟨?_, nq, rfl⟩
          rw [HTQ0.out, HF.out]
          refine congrArg Ending.returned (congrArg (Value.int IntKind.u64) ?_)
          omega
        · skip
          have he' : (q - 1) * first + (r + first) = top * 4294967296 + next := by
            rw [← he.out]
            obtain ⟨z, rfl⟩ : ∃ z, q = z + 1 := ⟨q - 1, by omega⟩
            rw [Nat.add_sub_cancel, Nat.add_mul]; omega
          have HE' := Lib.hid he'
          clear he'
          have hb' : (r : Int) + (first : Int) < 4294967296 := by omega
          go_upto_if 49 with (fail)
          go_wp2
          go_roundw
          case rel => exact ⟨q - 1, r + first, by rw [show ((q : Int) - 1) = ((q - 1 : Nat) : Int) from by omega], by go_num, by omega, by omega, HE', by omega, by first | rfl | trivial⟩
          case measure => simp [intOf]; omega
      · have hx2 := nlt_cast hc2
        have HF := Lib.hid (HTE'.out q r he.out hle (by omega) hx2)
        clear hx2
        go_wp2
        go_ret
        refine ⟨?_, nq, rfl⟩
        rw [HTQ0.out, HF.out]
        rfl
end Go.Proofs.Ythpndmamegfbkaa
